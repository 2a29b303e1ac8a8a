import Derived.Test.YtnbcoenjobdplaaGreatB5
set_option linter.all false
open List renaming flatMap->hM,count_append->nE,count_nil->nH
open Option.some renaming inj->nA
open Go.Value renaming bool->nB
open Bool renaming eq_false_iff->nD
open Prod.mk renaming injEq->nG
open Nat renaming blt->nI,le_of_ble_eq_true->nJ
namespace Go.Proofs.YtnbcoenjobdplaaGreat
open Go.KL
def gAa:Sch:=.fl 1 (.fl 2 .nil)
def gAb:Sch:=.fl 2 (.fl 3 .nil)
def gAc:Sch:=.fl 3 (.fl 4 .nil)
def gAd:Sch:=.fl 4 (.fl 5 .nil)
def gAe:Sch:=.fl 7 (.fl 8 .nil)
def gAf:Sch:=.fl 0 (.fx 1 .nil .stop)
def gAg:Sch:=.fx 3 (.fl 4 .nil) .stop
def gAh:Sch:=.fx 1 (.fl 2 .nil) .stop
def gAi:Sch:=.fx 0 (.fl 1 .nil) .stop
def gAj:Sch:=.fx 0 (.fx 1 .nil .stop) .stop
def gAk:Sch:=.fx 6 (.fl 7 .nil) .stop
def gAl:Sch:=.fl 1 (.fx 2 (.fl 3 .nil) .stop)
def gAm:Sch:=.fx 6 gAe .stop
def gAn:Sch:=.fl 5 (.fx 6 (.fx 7 .nil .stop) .stop)
def gAo:Sch:=.fl 0 gAh
def gAp:Sch:=.fx 3 (.fl 4 (.fx 5 .nil .stop)) .stop
def gAq:Sch:=.fl 0 gAl
def gAr:Sch:=.fx 4 (.fx 5 (.fl 6 (.fx 7 .nil .stop)) .stop) .stop
def gAs:Sch:=.fl 0 (.fx 1 gAb .stop)
def gAt:Sch:=.fx 4 gAn .stop
def gAu:Sch:=.fx 3 (.fx 4 (.fl 5 (.fx 6 .nil .stop)) .stop) .stop
def gAv:Sch:=.fl 0 (.fl 1 (.fx 2 (.fx 3 .nil .stop) .stop))
def gAw:Sch:=.fx 3 gAr .stop
def gAx:Sch:=.fl 0 (.fl 1 (.fx 2 gAc .stop))
def gAy:Sch:=.fl 0 (.fl 1 (.fx 2 gAg .stop))
def gAz:Sch:=.fx 4 (.fl 5 (.fx 6 (.fx 7 (.fl 8 (.fx 9 .nil .stop)) .stop) .stop)) .stop
set_option maxHeartbeats 4000000
theorem Z {α:Type} {a:α}:a=a:=rfl
section
variable {r:Option Nat} {N:Nat} {P:Program} {l:List Oper} {Q:wEQ} {D:List Deferred} {ks:List Nat} {σ:Env} {w:World} {i d j e:Nat} {s:Sch} {o:Oper} {b:Bool} {x:Operand} {v:Value} {p:Prop} {inst:Decidable p} {K:List Deferred->Env->World->Prop} {c1 c2:Code}
abbrev jV (n:Int):Value:=.int .i64 n
abbrev SW (w:World) (X:List Res) (U U':PHeap) (L:List Res) (w':World):Prop:=St ⟨w,X,U⟩ U' L w'
abbrev sW (w:World) (U U':PHeap) (L:List Res) (w':World):Prop:=St ⟨w,[],U⟩ U' L w'
abbrev St0 (w:World) (U:PHeap) (L:List Res):Prop:=St ⟨w,L,U⟩ U L w
theorem ifc {α:Type} {G p:Prop} {inst:Decidable p} {a b r:α} (h:@ite α p inst a b=r) (h1:Hid p->a=r->G) (h2:Hid (¬ p)->b=r->G):G:=by
 by_cases c:p
 rw [if_pos c] at h;exact h1 ⟨c⟩ h
 rw [if_neg c] at h;exact h2 ⟨c⟩ h
theorem bnK {α β:Type} {G:Prop} {o:Option α} {f:α->Option β} {r:β} (h:o.bind f=some r) (k:∀ x,o=some x->f x=some r->G):G:=by
 obtain ⟨x,h1,h2⟩:=bnd h
 exact k x h1 h2
theorem oR (h:(l[i]?,o.dst,nI d N,wanted l σ o)=(some o,some d,true,true)) (hr:∀ {w'},Runs P σ w' o v w') (k:OKS N P l Q D ks s (upd σ d v) w):OKS N P l Q D ks (.fl i s) σ w:=by
 simp only [nG] at h;exact OKS.r h.1 h.2.1 h.2.2.1 h.2.2.2 (fun _=>hr) k
theorem oL (h:(l[i]?,o.dst,nI d N,wanted l σ o,wOc (kOf ks i))=(some o,some d,true,true,false)) (hr:RunsK P σ w o v) (k:OKS N P l Q D ks s (upd σ d v) w):OKS N P l Q D ks (.fl i s) σ w:=by
 simp only [nG] at h;exact OKS.m h.1 h.2.1 h.2.2.1 h.2.2.2.1 hr h.2.2.2.2 k
theorem oM (h:(l[i]?,o.dst,nI d N,wanted l σ o,o.op)=(some o,some d,true,true,.move x)) (hx:ev σ x=v) (k:OKS N P l Q D ks s (upd σ d v) w):OKS N P l Q D ks (.fl i s) σ w:=by
 simp only [nG] at h;exact OKS.rm h.1 h.2.1 h.2.2.1 h.2.2.2.1 h.2.2.2.2 hx k
theorem oA (h:(l[i]?,o.dst,nI d N,wanted l σ o,o.op)=(some o,some d,true,true,.assign x)) (hx:ev σ x=v) (k:OKS N P l Q D ks s (upd σ d v) w):OKS N P l Q D ks (.fl i s) σ w:=by
 simp only [nG] at h;exact OKS.ra h.1 h.2.1 h.2.2.1 h.2.2.2.1 h.2.2.2.2 hx k
theorem oF (h:(l[i]?,o.dst,nI d N,o.guard,(l[j]?).bind (·.dst),σ e,false == b)=(some o,some d,true,some (j,b),some e,.bool (decide p),false)) (c:Hid (¬ p)) (k:OKS N P l Q D ks s (upd σ d undef) w):OKS N P l Q D ks (.fl i s) σ w:=by
 simp only [nG] at h;exact OKS.p h.1 h.2.1 h.2.2.1 (wHn h.2.2.2.1 h.2.2.2.2.1 (h.2.2.2.2.2.1.trans (wOa c.out)) h.2.2.2.2.2.2) k
theorem oT (h:(l[i]?,o.dst,nI d N,o.guard,(l[j]?).bind (·.dst),σ e,true == b)=(some o,some d,true,some (j,b),some e,.bool (decide p),false)) (c:Hid p) (k:OKS N P l Q D ks s (upd σ d undef) w):OKS N P l Q D ks (.fl i s) σ w:=by
 simp only [nG] at h;exact OKS.p h.1 h.2.1 h.2.2.1 (wHn h.2.2.2.1 h.2.2.2.2.1 (h.2.2.2.2.2.1.trans (wOZ c.out)) h.2.2.2.2.2.2) k
theorem oN {b2:Bool} (h:(l[i]?,o.dst,nI d N,o.guard,(l[j]?).bind (·.dst),σ e,b2 == b)=(some o,some d,true,some (j,b),some e,.bool b2,false)) (k:OKS N P l Q D ks s (upd σ d undef) w):OKS N P l Q D ks (.fl i s) σ w:=by
 simp only [nG] at h;exact OKS.p h.1 h.2.1 h.2.2.1 (wHn h.2.2.2.1 h.2.2.2.2.1 h.2.2.2.2.2.1 h.2.2.2.2.2.2) k
theorem nC {a b:Bool} (h:a=b):nB (!a)=nB (!b):=h ▸ rfl
theorem nF {a:Bool} (h:¬ a=true):nB (!a)=nB (!false):=nC (nD.2 h)
theorem wT (h:(o.guard,(l[j]?).bind (·.dst),σ e)=(some (j,true),some e,.bool (decide p))) (c:Hid p):wanted l σ o=true:=by
 simp only [nG] at h;exact wIh h.1 h.2.1 (h.2.2.trans (wOZ c.out))
theorem wF (h:(o.guard,(l[j]?).bind (·.dst),σ e)=(some (j,false),some e,.bool (decide p))) (c:Hid (¬ p)):wanted l σ o=true:=by
 simp only [nG] at h;exact wIh h.1 h.2.1 (h.2.2.trans (wOa c.out))
theorem rU (h:(l[i]?,o.dst,nI d N)=(some o,some d,true)) (hw:wanted l σ o=true) (hr:∀ {w'},Runs P σ w' o v w') (k:OKS N P l Q D ks s (upd σ d v) w):OKS N P l Q D ks (.fl i s) σ w:=by
 simp only [nG] at h;exact OKS.r h.1 h.2.1 h.2.2 hw (fun _=>hr) k
theorem sR {id:Nat} (s:Sch) (hs:inOrder 0 s l.length=true) (h:OKS N P l (wGd (fun D σ w=>CK r N P c2 Q D σ w) Q) D [] s σ w):CK r N P (.seq (.region id l.toArray false) c2) Q D σ w:=CK.seq (CK.reg s hs h)
theorem rR {id:Nat} (s:Sch) (hs:inOrder 0 s l.length=true) (h:OKS N P l Q D [] s σ w):CK r N P (.region id l.toArray false) Q D σ w:=CK.reg s hs h
theorem eN (h:K D σ w):OKS N P l (wGd K Q) D ks .nil σ w:=OKS.e (wIf h)
theorem cT (hz:ev σ x=.bool (decide p)) (c:Hid p) (h:CK r N P c1 Q D σ w):CK r N P (.cond x c1 c2) Q D σ w:=CK.condT (hz.trans (wOZ c.out)) h
theorem cF (hz:ev σ x=.bool (decide p)) (c:Hid (¬ p)) (h:CK r N P c2 Q D σ w):CK r N P (.cond x c1 c2) Q D σ w:=CK.condF (hz.trans (wOa c.out)) h
theorem kN (h:K D σ w):CK r N P .skip (wGd K Q) D σ w:=CK.skip (wIf h)
end
def fL1:Sch:=.fl 0 .nil
def fL2:Sch:=.fl 0 (.fl 1 .nil)
def fL3:Sch:=.fl 0 gAa
def fL4:Sch:=.fl 0 (.fl 1 gAb)
def fL5:Sch:=.fl 0 (.fl 1 (.fl 2 gAc))
def fL6:Sch:=.fl 0 (.fl 1 (.fl 2 (.fl 3 gAd)))
def fL7:Sch:=.fl 0 (.fl 1 (.fl 2 (.fl 3 (.fl 4 (.fl 5 (.fl 6 .nil))))))
def fL8:Sch:=.fl 0 (.fl 1 (.fl 2 (.fl 3 (.fl 4 (.fl 5 (.fl 6 (.fl 7 .nil)))))))
def fL9:Sch:=.fl 0 (.fl 1 (.fl 2 (.fl 3 (.fl 4 (.fl 5 (.fl 6 gAe))))))
def wMj:Sch:=.fl 0 (.fl 1 (.fl 2 (.fl 3 (.fl 4 (.fl 5 (.fl 6 (.fl 7 (.fl 8 (.fl 9 .nil)))))))))
def fL11:Sch:=.fl 0 (.fl 1 (.fl 2 (.fl 3 (.fl 4 (.fl 5 (.fl 6 (.fl 7 (.fl 8 (.fl 9 (.fl 10 .nil))))))))))
def fL14:Sch:=.fl 0 (.fl 1 (.fl 2 (.fl 3 (.fl 4 (.fl 5 (.fl 6 (.fl 7 (.fl 8 (.fl 9 (.fl 10 (.fl 11 (.fl 12 (.fl 13 .nil)))))))))))))
def fL15:Sch:=.fl 0 (.fl 1 (.fl 2 (.fl 3 (.fl 4 (.fl 5 (.fl 6 (.fl 7 (.fl 8 (.fl 9 (.fl 10 (.fl 11 (.fl 12 (.fl 13 (.fl 14 .nil))))))))))))))
def fL16:Sch:=.fl 0 (.fl 1 (.fl 2 (.fl 3 (.fl 4 (.fl 5 (.fl 6 (.fl 7 (.fl 8 (.fl 9 (.fl 10 (.fl 11 (.fl 12 (.fl 13 (.fl 14 (.fl 15 .nil)))))))))))))))
def fL17:Sch:=.fl 0 (.fl 1 (.fl 2 (.fl 3 (.fl 4 (.fl 5 (.fl 6 (.fl 7 (.fl 8 (.fl 9 (.fl 10 (.fl 11 (.fl 12 (.fl 13 (.fl 14 (.fl 15 (.fl 16 .nil))))))))))))))))
def fL22:Sch:=.fl 0 (.fl 1 (.fl 2 (.fl 3 (.fl 4 (.fl 5 (.fl 6 (.fl 7 (.fl 8 (.fl 9 (.fl 10 (.fl 11 (.fl 12 (.fl 13 (.fl 14 (.fl 15 (.fl 16 (.fl 17 (.fl 18 (.fl 19 (.fl 20 (.fl 21 .nil)))))))))))))))))))))
def fL23:Sch:=.fl 0 (.fl 1 (.fl 2 (.fl 3 (.fl 4 (.fl 5 (.fl 6 (.fl 7 (.fl 8 (.fl 9 (.fl 10 (.fl 11 (.fl 12 (.fl 13 (.fl 14 (.fl 15 (.fl 16 (.fl 17 (.fl 18 (.fl 19 (.fl 20 (.fl 21 (.fl 22 .nil))))))))))))))))))))))
def fL30:Sch:=.fl 0 (.fl 1 (.fl 2 (.fl 3 (.fl 4 (.fl 5 (.fl 6 (.fl 7 (.fl 8 (.fl 9 (.fl 10 (.fl 11 (.fl 12 (.fl 13 (.fl 14 (.fl 15 (.fl 16 (.fl 17 (.fl 18 (.fl 19 (.fl 20 (.fl 21 (.fl 22 (.fl 23 (.fl 24 (.fl 25 (.fl 26 (.fl 27 (.fl 28 (.fl 29 .nil)))))))))))))))))))))))))))))
def fL33:Sch:=.fl 0 (.fl 1 (.fl 2 (.fl 3 (.fl 4 (.fl 5 (.fl 6 (.fl 7 (.fl 8 (.fl 9 (.fl 10 (.fl 11 (.fl 12 (.fl 13 (.fl 14 (.fl 15 (.fl 16 (.fl 17 (.fl 18 (.fl 19 (.fl 20 (.fl 21 (.fl 22 (.fl 23 (.fl 24 (.fl 25 (.fl 26 (.fl 27 (.fl 28 (.fl 29 (.fl 30 (.fl 31 (.fl 32 .nil))))))))))))))))))))))))))))))))
def fL53:Sch:=.fl 0 (.fl 1 (.fl 2 (.fl 3 (.fl 4 (.fl 5 (.fl 6 (.fl 7 (.fl 8 (.fl 9 (.fl 10 (.fl 11 (.fl 12 (.fl 13 (.fl 14 (.fl 15 (.fl 16 (.fl 17 (.fl 18 (.fl 19 (.fl 20 (.fl 21 (.fl 22 (.fl 23 (.fl 24 (.fl 25 (.fl 26 (.fl 27 (.fl 28 (.fl 29 (.fl 30 (.fl 31 (.fl 32 (.fl 33 (.fl 34 (.fl 35 (.fl 36 (.fl 37 (.fl 38 (.fl 39 (.fl 40 (.fl 41 (.fl 42 (.fl 43 (.fl 44 (.fl 45 (.fl 46 (.fl 47 (.fl 48 (.fl 49 (.fl 50 (.fl 51 (.fl 52 .nil))))))))))))))))))))))))))))))))))))))))))))))))))))
def wDE (s:Sch):Sch:=.fl 0 (.fl 1 (.fl 2 (s)))
def wGc (s:Sch):Sch:=.fl 0 (.fl 1 (.fl 2 (.fl 3 (s))))
def wHS (s:Sch):Sch:=.fl 0 (.fl 1 (.fl 2 (.fl 3 (.fl 4 (s)))))
def wIu (s:Sch):Sch:=.fl 0 (.fl 1 (.fl 2 (.fl 3 (.fl 4 (.fl 5 (s))))))
def wOJ (s:Sch):Sch:=.fl 0 (.fl 1 (.fl 2 (.fl 3 (.fl 4 (.fl 5 (.fl 6 (s)))))))
def wOK (s:Sch):Sch:=.fl 0 (.fl 1 (.fl 2 (.fl 3 (.fl 4 (.fl 5 (.fl 6 (.fl 7 (s))))))))
def wPE (s:Sch):Sch:=.fl 0 (.fl 1 (.fl 2 (.fl 3 (.fl 4 (.fl 5 (.fl 6 (.fl 7 (.fl 8 (s)))))))))
def wPF (s:Sch):Sch:=.fl 0 (.fl 1 (.fl 2 (.fl 3 (.fl 4 (.fl 5 (.fl 6 (.fl 7 (.fl 8 (.fl 9 (s))))))))))
def wPG (s:Sch):Sch:=.fl 0 (.fl 1 (.fl 2 (.fl 3 (.fl 4 (.fl 5 (.fl 6 (.fl 7 (.fl 8 (.fl 9 (.fl 10 (.fl 11 (s))))))))))))
def wPH (s:Sch):Sch:=.fl 0 (.fl 1 (.fl 2 (.fl 3 (.fl 4 (.fl 5 (.fl 6 (.fl 7 (.fl 8 (.fl 9 (.fl 10 (.fl 11 (.fl 12 (s)))))))))))))
def wNc (s:Sch):Sch:=.fl 0 (.fl 1 (.fl 2 (.fl 3 (.fl 4 (.fl 5 (.fl 6 (.fl 7 (.fl 8 (.fl 9 (.fl 10 (.fl 11 (.fl 12 (.fl 13 (.fl 14 (s)))))))))))))))
def wMe (s:Sch):Sch:=.fl 0 (.fl 1 (.fl 2 (.fl 3 (.fl 4 (.fl 5 (.fl 6 (.fl 7 (.fl 8 (.fl 9 (.fl 10 (.fl 11 (.fl 12 (.fl 13 (.fl 14 (.fl 15 (s))))))))))))))))
def wPI (s:Sch):Sch:=.fl 0 (.fl 1 (.fl 2 (.fl 3 (.fl 4 (.fl 5 (.fl 6 (.fl 7 (.fl 8 (.fl 9 (.fl 10 (.fl 11 (.fl 12 (.fl 13 (.fl 14 (.fl 15 (.fl 16 (.fl 17 (.fl 18 (.fl 19 (.fl 20 (.fl 21 (.fl 22 (.fl 23 (.fl 24 (.fl 25 (.fl 26 (.fl 27 (.fl 28 (.fl 29 (s))))))))))))))))))))))))))))))
def wPJ (s:Sch):Sch:=.fl 0 (.fl 1 (.fl 2 (.fl 3 (.fl 4 (.fl 5 (.fl 6 (.fl 7 (.fl 8 (.fl 9 (.fl 10 (.fl 11 (.fl 12 (.fl 13 (.fl 14 (.fl 15 (.fl 16 (.fl 17 (.fl 18 (.fl 19 (.fl 20 (.fl 21 (.fl 22 (.fl 23 (.fl 24 (.fl 25 (.fl 26 (.fl 27 (.fl 28 (.fl 29 (.fl 30 (.fl 31 (s))))))))))))))))))))))))))))))))
def wMf (s:Sch):Sch:=.fl 2 (.fl 3 (.fl 4 (s)))
def wFz (s:Sch):Sch:=.fl 2 (.fl 3 (.fl 4 (.fl 5 (.fl 6 (s)))))
def fC2_9 (s:Sch):Sch:=.fl 2 (.fl 3 (.fl 4 (.fl 5 (.fl 6 (.fl 7 (.fl 8 (.fl 9 (s))))))))
def fC3_5 (s:Sch):Sch:=.fl 3 (.fl 4 (.fl 5 (s)))
def wLf (s:Sch):Sch:=.fl 3 (.fl 4 (.fl 5 (.fl 6 (s))))
def wOL (s:Sch):Sch:=.fl 3 (.fl 4 (.fl 5 (.fl 6 (.fl 7 (s)))))
def fC3_9 (s:Sch):Sch:=.fl 3 (.fl 4 (.fl 5 (.fl 6 (.fl 7 (.fl 8 (.fl 9 (s)))))))
def wPK (s:Sch):Sch:=.fl 3 (.fl 4 (.fl 5 (.fl 6 (.fl 7 (.fl 8 (.fl 9 (.fl 10 (.fl 11 (.fl 12 (.fl 13 (.fl 14 (.fl 15 (.fl 16 (.fl 17 (.fl 18 (.fl 19 (.fl 20 (.fl 21 (.fl 22 (s))))))))))))))))))))
def wPL (s:Sch):Sch:=.fl 4 (.fl 5 (.fl 6 (s)))
def fC4_7 (s:Sch):Sch:=.fl 4 (.fl 5 (.fl 6 (.fl 7 (s))))
def fC4_8 (s:Sch):Sch:=.fl 4 (.fl 5 (.fl 6 (.fl 7 (.fl 8 (s)))))
def wPM (s:Sch):Sch:=.fl 4 (.fl 5 (.fl 6 (.fl 7 (.fl 8 (.fl 9 (.fl 10 (s)))))))
def wNd (s:Sch):Sch:=.fl 4 (.fl 5 (.fl 6 (.fl 7 (.fl 8 (.fl 9 (.fl 10 (.fl 11 (.fl 12 (.fl 13 (s))))))))))
def wNe (s:Sch):Sch:=.fl 4 (.fl 5 (.fl 6 (.fl 7 (.fl 8 (.fl 9 (.fl 10 (.fl 11 (.fl 12 (.fl 13 (.fl 14 (.fl 15 (.fl 16 (.fl 17 (s))))))))))))))
def fC5_7 (s:Sch):Sch:=.fl 5 (.fl 6 (.fl 7 (s)))
def wPN (s:Sch):Sch:=.fl 5 (.fl 6 (.fl 7 (.fl 8 (s))))
def wKO (s:Sch):Sch:=.fl 5 (.fl 6 (.fl 7 (.fl 8 (.fl 9 (s)))))
def wPO (s:Sch):Sch:=.fl 6 (.fl 7 (.fl 8 (.fl 9 (s))))
def fC7_9 (s:Sch):Sch:=.fl 7 (.fl 8 (.fl 9 (s)))
def wJf (s:Sch):Sch:=.fl 8 (.fl 9 (.fl 10 (s)))
def wPP (s:Sch):Sch:=.fl 9 (.fl 10 (.fl 11 (.fl 12 (s))))
def wOM (s:Sch):Sch:=.fl 12 (.fl 13 (.fl 14 (s)))
def wON (s:Sch):Sch:=.fl 13 (.fl 14 (.fl 15 (.fl 16 (s))))
def wMg (s:Sch):Sch:=.fl 17 (.fl 18 (.fl 19 (s)))
def wOO (s:Sch):Sch:=.fl 18 (.fl 19 (.fl 20 (.fl 21 (.fl 22 (.fl 23 (.fl 24 (.fl 25 (.fl 26 (.fl 27 (.fl 28 (.fl 29 (.fl 30 (.fl 31 (.fl 32 (.fl 33 (.fl 34 (.fl 35 (s))))))))))))))))))
def wOP (s:Sch):Sch:=.fl 19 (.fl 20 (.fl 21 (s)))
def wOQ (s:Sch):Sch:=.fl 20 (.fl 21 (.fl 22 (s)))
def wOR (s:Sch):Sch:=.fl 24 (.fl 25 (.fl 26 (s)))
def wOS (s:Sch):Sch:=.fl 33 (.fl 34 (.fl 35 (s)))
def wOT (s:Sch):Sch:=.fl 34 (.fl 35 (.fl 36 (.fl 37 (.fl 38 (.fl 39 (s))))))
def wOU (s:Sch):Sch:=.fl 42 (.fl 43 (.fl 44 (.fl 45 (s))))
theorem zA:type_of% @Tryz.runUnderlying23:=@Tryz.runUnderlying23
theorem zB:type_of% @wLj:=@wLj
theorem zC:type_of% @nJ:=@nJ
theorem zD:type_of% @Tryz.sizeOf3:=@Tryz.sizeOf3
theorem zF:type_of% @Hid.mk:=@Hid.mk
theorem zG:type_of% @CK.seq:=@CK.seq
theorem zH:type_of% @PHeap.Le.refl:=@PHeap.Le.refl
theorem zI:type_of% @wIf:=@wIf
theorem zJ:type_of% @Runs.fa:=@Runs.fa
theorem zK:type_of% @Enters.mk:=@Enters.mk
theorem zL:type_of% @OKS.callH:=@OKS.callH
theorem zM:type_of% @wNQ:=@wNQ
theorem zN:type_of% @wHn:=@wHn
theorem zO:type_of% @CK.ret:=@CK.ret
theorem zP:type_of% @Tryz.isAgg3:=@Tryz.isAgg3
theorem zQ:type_of% @wIh:=@wIh
theorem zR:type_of% @wLi:=@wLi
theorem zS:type_of% @Tryz.sizeOf23:=@Tryz.sizeOf23
theorem zT:type_of% @CK.block:=@CK.block
theorem zU:type_of% @Runs.lss:=@Runs.lss
theorem zV:type_of% @Runs.pickT:=@Runs.pickT
theorem zW:type_of% @OKS.buildSlice:=@OKS.buildSlice
theorem zX:type_of% @Runs.addw:=@Runs.addw
theorem zY:type_of% @wLh:=@wLh
theorem zZ:type_of% @Runs.pickF:=@Runs.pickF
theorem za:type_of% @Runs.len:=@Runs.len
theorem zb:type_of% @wKP:=@wKP
theorem zc:type_of% @Tryz.isAgg23:=@Tryz.isAgg23
theorem zd:type_of% @OKS.p:=@OKS.p
theorem ze:type_of% @Tryz.runUnderlying28:=@Tryz.runUnderlying28
theorem zf:type_of% @wKR:=@wKR
theorem zg:type_of% @OKS.e:=@OKS.e
theorem zh:type_of% @OKS.r:=@OKS.r
theorem zj:type_of% @OKS.rm:=@OKS.rm
theorem zk:type_of% @Tryz.runUnderlying43:=@Tryz.runUnderlying43
theorem zm:type_of% @CK.condF:=@CK.condF
theorem zn:type_of% @Runs.to:=@Runs.to
theorem zo:type_of% @Runs.iaN:=@Runs.iaN
theorem zq:type_of% @Tryz.runUnderlying32:=@Tryz.runUnderlying32
theorem zr:type_of% @res1:=@res1
theorem zt:type_of% @Tryz.zeroValue3:=@Tryz.zeroValue3
theorem zu:type_of% @OKS.st:=@OKS.st
theorem zw:type_of% @wOa:=@wOa
theorem zx:type_of% @Runs.ext:=@Runs.ext
theorem zy:type_of% @Tryz.runUnderlying25:=@Tryz.runUnderlying25
theorem zz:type_of% @OKS.alloc:=@OKS.alloc
theorem ZA:type_of% @OKS.px:=@OKS.px
theorem ZB:type_of% @Tryz.runUnderlying46:=@Tryz.runUnderlying46
theorem ZC:type_of% @Tryz.runUnderlying26:=@Tryz.runUnderlying26
theorem ZD:type_of% @wKQ:=@wKQ
theorem ZE:type_of% @Tryz.sizeOf43:=@Tryz.sizeOf43
theorem ZF:type_of% @CK.condT:=@CK.condT
theorem ZG:type_of% @Tryz.sizeOf25:=@Tryz.sizeOf25
theorem ZH:type_of% @Runs.build:=@Runs.build
theorem ZI:type_of% @CK.exit:=@CK.exit
theorem ZJ:type_of% @Tryz.sizeOf46:=@Tryz.sizeOf46
theorem ZK:type_of% @Tryz.runUnderlying34:=@Tryz.runUnderlying34
theorem ZL:type_of% @Tryz.sizeOf28:=@Tryz.sizeOf28
theorem ZM:type_of% @Tryz.runUnderlying41:=@Tryz.runUnderlying41
theorem ZN:type_of% @Runs.notT:=@Runs.notT
theorem ZO:type_of% @OKS.m:=@OKS.m
theorem ZP:type_of% @Tryz.mixed:=@Tryz.mixed
theorem ZQ:type_of% @Tryz.runUnderlying47:=@Tryz.runUnderlying47
theorem ZR:type_of% @Tryz.runUnderlying59:=@Tryz.runUnderlying59
theorem ZS:type_of% @OKS.box:=@OKS.box
theorem ZT:type_of% @Tryz.zeroValue46:=@Tryz.zeroValue46
theorem ZU:type_of% @Tryz.sizeOf26:=@Tryz.sizeOf26
theorem ZV:type_of% @CK.skip:=@CK.skip
theorem ZW:type_of% @Runs.neq:=@Runs.neq
theorem ZX:type_of% @Runs.nilp:=@Runs.nilp
theorem ZY:type_of% @CK.anyOrd:=@CK.anyOrd
theorem ZZ:type_of% @Tryz.runUnderlying44:=@Tryz.runUnderlying44
theorem Za:type_of% @Tryz.runUnderlying165:=@Tryz.runUnderlying165
theorem Zb:type_of% @Tryz.zeroValue43:=@Tryz.zeroValue43
theorem Zc:type_of% @Tryz.sizeOf34:=@Tryz.sizeOf34
theorem Zd:type_of% @Tryz.sizeOf41:=@Tryz.sizeOf41
theorem Ze:type_of% @Tryz.runUnderlying70:=@Tryz.runUnderlying70
theorem Zf:type_of% @Tryz.runUnderlying80:=@Tryz.runUnderlying80
theorem Zg:type_of% @Tryz.sizeOf70:=@Tryz.sizeOf70
theorem Zh:type_of% @Tryz.runUnderlying130:=@Tryz.runUnderlying130
theorem Zi:type_of% @Tryz.underlying23:=@Tryz.underlying23
theorem Zj:type_of% @wOZ:=@wOZ
theorem Zk:type_of% @Tryz.sizeOf32:=@Tryz.sizeOf32
theorem Zl:type_of% @Tryz.runUnderlying76:=@Tryz.runUnderlying76
theorem Zm:type_of% @Tryz.sizeOf49:=@Tryz.sizeOf49
theorem Zn:type_of% @Tryz.isAgg26:=@Tryz.isAgg26
theorem Zo:type_of% @Tryz.runUnderlying56:=@Tryz.runUnderlying56
theorem Zp:type_of% @Tryz.runUnderlying100:=@Tryz.runUnderlying100
theorem Zq:type_of% @Tryz.isAgg28:=@Tryz.isAgg28
theorem Zr:type_of% @Tryz.runUnderlying118:=@Tryz.runUnderlying118
theorem Zs:type_of% @OKS.append:=@OKS.append
theorem Zt:type_of% @Tryz.sizeOf47:=@Tryz.sizeOf47
theorem Zu:type_of% @Tryz.sizeOf76:=@Tryz.sizeOf76
theorem Zv:type_of% @Tryz.isAgg25:=@Tryz.isAgg25
theorem Zw:type_of% @Tryz.zeroValue49:=@Tryz.zeroValue49
theorem Zx:type_of% @Runs.subw:=@Runs.subw
theorem Zy:type_of% @Tryz.isAgg32:=@Tryz.isAgg32
theorem Zz:type_of% @Tryz.zeroValue76:=@Tryz.zeroValue76
theorem yA:type_of% @CK.forN:=@CK.forN
theorem yB:type_of% @Tryz.zeroValue28:=@Tryz.zeroValue28
theorem yC:type_of% @Tryz.isAgg43:=@Tryz.isAgg43
theorem yD:type_of% @Tryz.sizeOf65:=@Tryz.sizeOf65
theorem yE:type_of% @Tryz.isAgg41:=@Tryz.isAgg41
theorem yF:type_of% @Runs.eql:=@Runs.eql
theorem yG:type_of% @Runs.iaI:=@Runs.iaI
theorem yH:type_of% @Tryz.isAgg34:=@Tryz.isAgg34
theorem yI:type_of% @Tryz.zeroValue70:=@Tryz.zeroValue70
theorem yJ:type_of% @Tryz.sizeOf4:=@Tryz.sizeOf4
theorem yK:type_of% @Tryz.sizeOf44:=@Tryz.sizeOf44
theorem yL:type_of% @Tryz.call35:=@Tryz.call35
theorem yM:type_of% @Tryz.sizeOf118:=@Tryz.sizeOf118
theorem yN:type_of% @Runs.gtr:=@Runs.gtr
theorem yO:type_of% @OKS.both:=@OKS.both
theorem yP:type_of% @Tryz.isAgg46:=@Tryz.isAgg46
theorem yQ:type_of% @Tryz.call27:=@Tryz.call27
theorem yR:type_of% @Tryz.runUnderlying65:=@Tryz.runUnderlying65
theorem yS:type_of% @Tryz.zeroValue4:=@Tryz.zeroValue4
theorem yT:type_of% @OKS.callV:=@OKS.callV
theorem yU:type_of% @OKS.appendRT:=@OKS.appendRT
theorem yV:type_of% @Tryz.sizeOf35:=@Tryz.sizeOf35
theorem yW:type_of% @Runs.mkf:=@Runs.mkf
theorem yX:type_of% @Tryz.zeroValue34:=@Tryz.zeroValue34
theorem yY:type_of% @Tryz.runUnderlying127:=@Tryz.runUnderlying127
theorem yZ:type_of% @Tryz.runUnderlying158:=@Tryz.runUnderlying158
theorem ya:type_of% @CK.fresh:=@CK.fresh
theorem yb:type_of% @Tryz.isAgg49:=@Tryz.isAgg49
theorem yc:type_of% @Tryz.isAgg47:=@Tryz.isAgg47
theorem yd:type_of% @Tryz.isAgg35:=@Tryz.isAgg35
theorem ye:type_of% @OKS.cutD:=@OKS.cutD
theorem yg:type_of% @OKS.ra:=@OKS.ra
theorem yh:type_of% @Tryz.zeroValue23:=@Tryz.zeroValue23
theorem yk:type_of% @Tryz.sizeOf158:=@Tryz.sizeOf158
theorem ym:type_of% @Tryz.runUnderlying143:=@Tryz.runUnderlying143
theorem yo:type_of% @Runs.geq:=@Runs.geq
theorem yp:type_of% @OKS.makeSlice:=@OKS.makeSlice
theorem yq:type_of% @Tryz.isAgg136:=@Tryz.isAgg136
theorem yr:type_of% @Tryz.zeroValue222:=@Tryz.zeroValue222
theorem yt:type_of% @Tryz.zeroValue25:=@Tryz.zeroValue25
theorem yu:type_of% @Tryz.isAgg44:=@Tryz.isAgg44
theorem yw:type_of% @Tryz.isAgg118:=@Tryz.isAgg118
end Go.Proofs.YtnbcoenjobdplaaGreat
namespace Go.Proofs.YtnbcoenjobdplaaGreat
open Go.KL
set_option maxHeartbeats 4000000
theorem wHw (p0:List Int) (ac:Option Addr) (ae:Nat) (w:World) (U:PHeap) (hS:St0 w U []) (aj:Sl U 1 ac ae p0.length (hM KL.encB8 p0)) {r:wAE} (hm:wDZ p0=some r):Gv Tryz.prog 7 [.slice ac p0.length ae] w (wBU w [] U (fun U_ L_ v=>∃ (b0:Nat) (A0p0:Option Addr) (c0p0:Nat),v=.pointer (some ⟨b0,0,none⟩)/\L_=[.blk b0 100 [.slice A0p0 r.bytes.length c0p0,jV r.next,.int .u32 r.state]]/\Sl U_ 1 A0p0 c0p0 r.bytes.length (hM KL.encB8 r.bytes))):=by
 unfold wDZ at hm
 refine Gv.of Tryz.func7 Z Tryz.ntmps7 Tryz.results7 Z (sR fL1 Z (oA Z Z (eN (sR gAq Z (oM Z Z ?_)))))
 let B0:List Value:=[.slice ac p0.length ae,jV 0,.int .u32 17]
 refine zh rfl rfl rfl rfl (fun _=>ZH (pv:=[(0,.slice ac p0.length ae),(2,.int .u32 17)]) (z:=[.slice none 0 0,jV 0,.int .u32 0]) (cs:=B0) rfl (wAC rfl (wAC rfl wAM)) Tryz.zeroValue100 wMF rfl rfl) (ZS (cs:=B0) rfl rfl rfl rfl rfl rfl (by rfl) hS ?_)
 intro W1 b2 ai
 refine oA Z Z (eN (zO ?_))
 cases hm
 exact ⟨Z,_,(zr Z),U,_,ai,b2,ac,ae,Z,Z,aj⟩
theorem wAZ (p0:wAE) (ah:Nat) (ae:Option Addr) (af:Nat) (p1:Int) (w:World) (U:PHeap) (hS:St0 w U [.blk ah 100 [.slice ae p0.bytes.length af,jV p0.next,.int .u32 p0.state]]) (aj:Sl U 1 ae af p0.bytes.length (hM KL.encB8 p0.bytes)) {r:Int × wAE} (hm:wAK p0 p1=some r):Gv Tryz.prog 27 [.pointer (some ⟨ah,0,none⟩),jV p1] w (wBU w [.blk ah 100 [.slice ae p0.bytes.length af,jV p0.next,.int .u32 p0.state]] U (fun U_ L_ v=>∃ (az:Option Addr) (aX:Nat),v=jV r.1/\L_=[.blk ah 100 [.slice az r.2.bytes.length aX,jV r.2.next,.int .u32 r.2.state]]/\Sl U_ 1 az aX r.2.bytes.length (hM KL.encB8 r.2.bytes))):=by
 unfold wAK at hm
 refine Gv.of Tryz.func27 Z Tryz.ntmps27 Tryz.results27 Z (sR fL1 Z (oA Z Z (eN (zG (sR wMj Z (oM Z Z (oR Z (Runs.leq Z Z Z) (oM Z Z ?_))))))))
 by_cases c2:p1 <= 1
 have a7:=hm;rw [if_pos c2] at a7;replace c2:=zF c2
 refine oT Z c2 (oT Z c2 (oT Z c2 (oT Z c2 (oT Z c2 (oT Z c2 (oR Z (zV Z (Zj c2.out) Z) (eN (ZF Z (sR fL1 Z (oA Z Z (eN (zO (zR ?_)))))))))))))
 cases a7
 exact ⟨Z,_,(zr Z),U,_,hS,ae,af,Z,Z,aj⟩
 have a8:=hm;rw [if_neg c2] at a8;replace c2:=zF c2
 refine zj Z Z Z (wF Z c2) Z Z (rU Z (wF Z c2) (ZX Z Z) (rU Z (wF Z c2) (zJ Z Z Zp Z Tryz.sizeOf22) (ZO Z Z Z (wF Z c2) (hS.ldB (j:=0) Z Z Z Tryz.isAgg22 (v:=.slice ae p0.bytes.length af) Z) Z (rU Z (wF Z c2) (za Z Z Tryz.runUnderlying22) (rU Z (wF Z c2) (yF Z Z Z) (oR Z (zZ Z (zw c2.out) Z) (eN (ifc a8 ?_ ?_))))))))
 intro c5 bD
 refine cT Z c5 (sR fL1 Z (oA Z Z (eN (zO (zR ?_)))))
 cases bD
 exact ⟨Z,_,(zr Z),U,_,hS,ae,af,Z,Z,aj⟩
 intro c5 bE
 refine cF Z c5 (kN (zG (ZY ZP [3,3,3,1,3,3,3,1,3,3,3,1,3,3,3,1,3,3,3,3,1,3,3,3,1,3,3,3,3,3] fL30 (by kernel_rfl) ?_)))
 have ag:=hS.drew
 generalize hw_W9:({ w with drawn:=w.drawn + 1 }:World)=W9 at ag ⊢
 refine oM Z Z (oR Z (ZX Z Z) (oR Z (zJ Z Z Zp Z Tryz.sizeOf22) (oL Z (ag.ldB (j:=0) Z Z Z Tryz.isAgg22 (v:=.slice ae p0.bytes.length af) Z) (oM Z Z (oR Z (ZX Z Z) (oR Z (zJ Z Z Zp Z zD) (oL Z (ag.ldB (j:=0) Z Z Z zP (v:=jV p0.next) Z) (oM Z Z (oR Z (ZX Z Z) (oR Z (zJ Z Z Zp Z Tryz.sizeOf22) (oL Z (ag.ldB (j:=0) Z Z Z Tryz.isAgg22 (v:=.slice ae p0.bytes.length af) Z) (oR Z (za Z Z Tryz.runUnderlying22) (bnK bE fun bJ bf br=>oR Z (Runs.rem Z Z Z bf) (bnK br fun ba ay bs=>?_))))))))))))))
 have q:=aj.el (fun _=>rfl) (wAR ay)
 obtain ⟨bH,bI,bm,bn⟩:=q
 refine oR Z (yG Z Z bm Z Tryz.runUnderlying22 Tryz.sizeOf5 (wEK ay) (wET ay)) (oL Z (ag.ldC (f:=0) bn (v:=.int .u8 ba) Z Z Tryz.isAgg5 Z) (oR Z (Runs.cvu Z Z Tryz.runUnderlying5 Tryz.runUnderlying98 Z Z) (oM Z Z (oR Z (ZX Z Z) (oR Z (zJ Z Z Zp Z zD) (oL Z (ag.ldB (j:=0) Z Z Z zP (v:=jV p0.next) Z) (oM Z Z (oR Z (ZX Z Z) (oR Z (zJ Z Z Zp Z Tryz.sizeOf22) (oL Z (ag.ldB (j:=0) Z Z Z Tryz.isAgg22 (v:=.slice ae p0.bytes.length af) Z) (oR Z (za Z Z Tryz.runUnderlying22) (bnK bs fun bF bg bt=>oR Z (Runs.quo Z Z Z bg) (oR Z (Runs.cvu Z Z Tryz.runUnderlying3 Tryz.runUnderlying98 Z Z) (oA Z Z (oA Z Z (eN (zG (ya fun av an=>?_))))))))))))))))))
 have ak:av 0=.pointer (some ⟨ah,0,none⟩):=(an 0).trans rfl
 have ao:av 1=jV p1:=(an 1).trans rfl
 have ap:av 5=.int .u32 (wFh ba):=(an 5).trans rfl
 have aY:av 6=.int .u32 (wFh bF):=(an 6).trans rfl
 clear an
 refine rR (wOJ (.fx 7 .nil .stop)) Z (oM Z ak (oR Z (ZX Z Z) (oR Z (zJ Z Z Zp Z zD) (oL Z (ag.ldB (j:=0) Z Z Z zP (v:=jV p0.next) Z) (oR Z (zX Z Z Z) (oR Z (ZX Z Z) (oR Z (zJ Z Z Zp Z zD) (zu (j:=0) (vs:=[jV (w64 (p0.next + 1))]) Z Z Z Z ag Z Z Z Z zD (zC Z) Z Z Z ?_))))))))
 intro bb bp
 let B0:Res:=.blk ah 100 [.slice ae p0.bytes.length af,jV p0.next,.int .u32 p0.state]
 have aZ:SW w [B0] U U [.blk ah 100 [.slice ae p0.bytes.length af,jV (w64 (p0.next + 1)),.int .u32 p0.state]] bb:=bp
 refine eN (sR (wNc (.fx 15 .nil .stop)) Z (oM Z ak (oM Z ak (oR Z (ZX Z Z) (oR Z (zJ Z Z Zp Z Tryz.sizeOf98) (oL Z (aZ.ldB (j:=0) Z Z Z Tryz.isAgg98 (v:=.int .u32 p0.state) Z) (oR Z (Runs.mulu Z Z Z) (oM Z ap (oR Z (Runs.addu Z Z Z) (oM Z aY (oR Z (Runs.mulu Z Z Z) (oR Z (Runs.addu Z Z Z) (oR Z (Runs.addu Z Z Z) (bnK bt fun au bh bu=>oR Z (Runs.rem Z Z Z bh) (oR Z (ZX Z Z) (oR Z (zJ Z Z Zp Z Tryz.sizeOf98) (zu (j:=0) (vs:=[.int .u32 au]) Z Z Z Z aZ Z Z Z Z Tryz.sizeOf98 (zC Z) Z Z Z ?_)))))))))))))))))
 intro be bq
 have am:SW w [B0] U U [.blk ah 100 [.slice ae p0.bytes.length af,jV (w64 (p0.next + 1)),.int .u32 au]] be:=bq
 refine eN (zG (sR fL6 Z (oM Z aY (oR Z (yF Z Z Z) (oM Z Z (ifc bu ?_ ?_))))))
 intro ai bv
 refine zj Z Z Z (wT Z ai) Z ao (rU Z (wT Z ai) (Runs.leq Z Z Z) (oR Z (zV Z (Zj ai.out) Z) (eN (ifc bv ?_ ?_))))
 intro aw bw
 refine cT Z aw (sR fL5 Z (oM Z ap (oR Z (Runs.cvw Z Z Tryz.runUnderlying98 Tryz.runUnderlying3 Z Z) (oM Z ao (bnK bw fun bK bi bx=>oR Z (Runs.rem Z Z Z bi) (oA Z Z (eN (zO (zR ?_)))))))))
 cases bx
 exact ⟨Z,_,(zr Z),U,_,am,ae,af,Z,Z,aj⟩
 intro aw bz
 refine cF Z aw (kN (sR fL11 Z (oM Z ak (oR Z (ZX Z Z) (oR Z (zJ Z Z Zp Z Tryz.sizeOf98) (oL Z (am.ldB (j:=0) Z Z Z Tryz.isAgg98 (v:=.int .u32 au) Z) (oR Z (Runs.mulu Z Z Z) (oM Z ap (oR Z (Runs.addu Z Z Z) (oR Z (Runs.cvw Z Z Tryz.runUnderlying98 Tryz.runUnderlying3 Z Z) (oM Z ao (bnK bz fun bL bj bA=>oR Z (Runs.rem Z Z Z bj) (oA Z Z (eN (zO ?_)))))))))))))))
 cases bA
 exact ⟨Z,_,(zr Z),U,_,am,ae,af,Z,Z,aj⟩
 intro ai bB
 refine oF Z ai (oF Z ai (oR Z (zZ Z (zw ai.out) Z) (eN (zm Z (kN (sR fL11 Z (oM Z ak (oR Z (ZX Z Z) (oR Z (zJ Z Z Zp Z Tryz.sizeOf98) (oL Z (am.ldB (j:=0) Z Z Z Tryz.isAgg98 (v:=.int .u32 au) Z) (oR Z (Runs.mulu Z Z Z) (oM Z ap (oR Z (Runs.addu Z Z Z) (oR Z (Runs.cvw Z Z Tryz.runUnderlying98 Tryz.runUnderlying3 Z Z) (oM Z ao (bnK bB fun bM bl bC=>oR Z (Runs.rem Z Z Z bl) (oA Z Z (eN (zO ?_)))))))))))))))))))
 cases bC
 exact ⟨Z,_,(zr Z),U,_,am,ae,af,Z,Z,aj⟩
theorem wAt (p0:wAE) (ac:Nat) (ae:Option Addr) (af:Nat) (p1:Int) (p2:Int) (w:World) (U:PHeap) (hS:St0 w U [.blk ac 100 [.slice ae p0.bytes.length af,jV p0.next,.int .u32 p0.state]]) (ay:Sl U 1 ae af p0.bytes.length (hM KL.encB8 p0.bytes)) {r:Int × wAE} (hm:wAS p0 p1 p2=some r):Gv Tryz.prog 28 [.pointer (some ⟨ac,0,none⟩),jV p1,jV p2] w (wBU w [.blk ac 100 [.slice ae p0.bytes.length af,jV p0.next,.int .u32 p0.state]] U (fun U_ L_ v=>∃ (ak:Option Addr) (ao:Nat),v=jV r.1/\L_=[.blk ac 100 [.slice ak r.2.bytes.length ao,jV r.2.next,.int .u32 r.2.state]]/\Sl U_ 1 ak ao r.2.bytes.length (hM KL.encB8 r.2.bytes))):=by
 unfold wAS at hm
 refine Gv.of Tryz.func28 Z Tryz.ntmps28 Tryz.results28 Z (sR fL1 Z (oA Z Z (eN (sR (wIu gAm) Z (oM Z Z (oM Z Z (oM Z Z (oM Z Z (oR Z (Zx Z Z Z) (oR Z (zX Z Z Z) ?_))))))))))
 have q:=bnd hm
 obtain ⟨⟨x2,x3⟩,h4,ap⟩:=q
 try dsimp only at ap
 refine zL 1 Z Z Z Z (zK Z Z yQ (zB Z (zB Z zM)) Z) hS (fun hs=>wAZ p0 ac ae af (w64 ((w64 (p2 - p1)) + 1)) w U hs ay h4) (.inl Z) ?_
 rintro U6 L7 v8 W9 aW aw ⟨aj,an,rfl,rfl,au⟩
 have ax:SW w [.blk ac 100 [.slice ae p0.bytes.length af,jV p0.next,.int .u32 p0.state]] U U6 [.blk ac 100 [.slice aj x3.bytes.length an,jV x3.next,.int .u32 x3.state]] W9:=aw
 refine oR Z (zX Z Z Z) (oA Z Z (eN (zO ?_)))
 cases ap
 exact ⟨Z,_,(zr Z),U6,_,ax,aj,an,Z,Z,au⟩
theorem wGG (p0:wAE) (aa:Nat) (az:Option Addr) (aW:Nat) (p1:Int) (w:World) (U:PHeap) (hS:St0 w U [.blk aa 100 [.slice az p0.bytes.length aW,jV p0.next,.int .u32 p0.state]]) (d7:Sl U 1 az aW p0.bytes.length (hM KL.encB8 p0.bytes)) {r:wAJ × wAE} (hm:wCS p0 p1=some r):Gv Tryz.prog 26 [.pointer (some ⟨aa,0,none⟩),jV p1] w (wBU w [.blk aa 100 [.slice az p0.bytes.length aW,jV p0.next,.int .u32 p0.state]] U (fun U_ L_ v=>∃ (bF:Option Addr) (ca:Nat) (bO:Option Addr) (cq:Nat),v=.agg #[.slice bF r.1.Classes.length ca,jV r.1.Each,jV r.1.Laps,jV r.1.Spare,jV r.1.Loop,jV r.1.Unused]/\L_=[.row bF ca 3 1 (hM KL.encI r.1.Classes),.blk aa 100 [.slice bO r.2.bytes.length cq,jV r.2.next,.int .u32 r.2.state]]/\Sl U_ 1 bO cq r.2.bytes.length (hM KL.encB8 r.2.bytes))):=by
 unfold wCS at hm
 refine Gv.of Tryz.func26 Z Tryz.ntmps26 Tryz.results26 Z (sR (.fx 0 .nil .stop) Z ?_)
 let B0:List Value:=[.slice none 0 0,jV 0,jV 0,jV 0,jV 0,jV 0]
 refine zz (cs:=B0) Z Z Z Z Z yt Z hS ?_
 intro W2 b3 dM
 refine eN (sR (.fl 0 (.fx 1 (.fl 2 (.fx 3 (.fl 4 (.fx 5 (.fl 6 (.fx 7 (.fl 8 (.fl 9 (.fx 10 (.fl 11 (.fl 12 (.fx 13 (.fx 14 .nil .stop) .stop))) .stop))) .stop)) .stop)) .stop)) .stop)) Z (oM Z Z ?_))
 have q:=bnd hm
 obtain ⟨⟨x6,x7⟩,h8,cK⟩:=q
 try dsimp only at cK
 let B1:Res:=.blk aa 100 [.slice az p0.bytes.length aW,jV p0.next,.int .u32 p0.state]
 have dx:SW w [B1] U U [B1,.blk b3 25 B0] W2:=dM.pick [1,0] _ (by decide) rfl
 refine zL 1 Z Z Z Z (zK Z Z Tryz.call28 (zB Z (zB Z (zB Z zM))) Z) dx (fun hs=>wAt p0 aa az aW 1 2 W2 U hs d7 h8) (.inl Z) ?_
 rintro bQ eB eX bV eQ dA ⟨bG,cd,rfl,rfl,db⟩
 have dB:SW w [B1] U bQ [.blk aa 100 [.slice bG x7.bytes.length cd,jV x7.next,.int .u32 x7.state],.blk b3 25 B0] bV:=dA
 refine oM Z Z ?_
 have q:=bnd cK
 obtain ⟨⟨an,bg⟩,dg,cE⟩:=q
 try dsimp only at cE
 refine zL 1 Z Z Z Z (zK Z Z Tryz.call28 (zB Z (zB Z (zB Z zM))) Z) dB (fun hs=>wAt x7 aa bG cd 1 3 bV bQ hs db dg) (.inl Z) ?_
 rintro bR eD eZ bY eS dK ⟨bJ,ci,rfl,rfl,di⟩
 have dL:SW w [B1] U bR [.blk aa 100 [.slice bJ bg.bytes.length ci,jV bg.next,.int .u32 bg.state],.blk b3 25 B0] bY:=dK
 refine oM Z Z ?_
 have q:=bnd cE
 obtain ⟨⟨ao,bh⟩,dm,cG⟩:=q
 try dsimp only at cG
 refine zL 1 Z Z Z Z (zK Z Z yQ (zB Z (zB Z zM)) Z) dL (fun hs=>wAZ bg aa bJ ci 100 bY bR hs di dm) (.inl Z) ?_
 rintro bT eG e8 bZ eT dN ⟨bK,cj,rfl,rfl,dn⟩
 have dO:SW w [B1] U bT [.blk aa 100 [.slice bK bh.bytes.length cj,jV bh.next,.int .u32 bh.state],.blk b3 25 B0] bZ:=dN
 refine oM Z Z ?_
 have q:=bnd cG
 obtain ⟨⟨ap,bi⟩,dp,cH⟩:=q
 try dsimp only at cH
 refine zL 1 Z Z Z Z (zK Z Z yQ (zB Z (zB Z zM)) Z) dO (fun hs=>wAZ bh aa bK cj 100 bZ bT hs dn dp) (.inl Z) ?_
 rintro bU eH e9 b4 eU dP ⟨bL,cm,rfl,rfl,dq⟩
 have dQ:SW w [B1] U bU [.blk aa 100 [.slice bL bi.bytes.length cm,jV bi.next,.int .u32 bi.state],.blk b3 25 B0] b4:=dP
 refine oR Z (zX Z Z Z) (oM Z Z ?_)
 have q:=bnd cH
 obtain ⟨⟨au,bj⟩,dr,cI⟩:=q
 try dsimp only at cI
 refine zL 1 Z Z Z Z (zK Z Z yQ (zB Z (zB Z zM)) Z) dQ (fun hs=>wAZ bi aa bL cm 13 b4 bU hs dq dr) (.inl Z) ?_
 rintro ba eI fb cV eV dR ⟨bM,co,rfl,rfl,dt⟩
 let B2:Res:=.blk aa 100 [.slice bM bj.bytes.length co,jV bj.next,.int .u32 bj.state]
 have dS:SW w [B1] U ba [B2,.blk b3 25 B0] cV:=dR
 refine oR Z (Runs.mulw Z Z Z) ?_
 let B3:List Value:=[.slice none 0 0,jV x6,jV an,jV ao,jV (w64 (200 + ap)),jV (w64 (100 * au))]
 refine oR Z (ZH (pv:=[(1,jV x6),(2,jV an),(3,jV ao),(4,jV (w64 (200 + ap))),(5,jV (w64 (100 * au)))]) (z:=B0) (cs:=B3) Z (wAC Z (wAC Z (wAC Z (wAC Z (wAC Z wAM))))) yt wKZ Z Z) (zz (cs:=B0) Z Z Z Z Z yt Z dS ?_)
 intro eM ah dT
 refine zu (j:=0) (vs:=B3) Z Z Z Z dT Z Z Z Z ZG (zC Z) Z Z Z ?_
 intro bt dU
 have dV:SW w [B1] U ba [.blk ah 25 B3,B2,.blk b3 25 B0] bt:=dU
 refine eN (zG (sR gAq Z (oM Z Z (oM Z Z ?_))))
 have q:=bnd cI
 obtain ⟨⟨bm,bE⟩,dv,cJ⟩:=q
 try dsimp only at cJ
 have dW:SW w [B1] U ba [B2,.blk ah 25 B3,.blk b3 25 B0] bt:=dV.pick [1,0,2] _ (by decide) rfl
 refine zL 1 Z Z Z Z (zK Z Z Tryz.call28 (zB Z (zB Z (zB Z zM))) Z) dW (fun hs=>wAt bj aa bM co 1 p1 bt ba hs dt dv) (.inl Z) ?_
 rintro bs eJ fc cW eW dX ⟨bN,cp,rfl,rfl,dw⟩
 have dY:SW w [B1] U bs [.blk aa 100 [.slice bN bE.bytes.length cp,jV bE.next,.int .u32 bE.state],.blk ah 25 B3,.blk b3 25 B0] cW:=dX
 refine oM Z Z (eN (zT ?_))
 have q:=bnd cJ
 obtain ⟨⟨ep,ew,ey,cM⟩,d8,cC⟩:=q
 try dsimp only at cC
 have q:=wAs d8
 obtain ⟨bz,d9⟩:=q
 replace bz:=zF bz
 refine CK.forN' (fun ax (ay,bB,bC,ai) σ_ w_=>∃ (U_:PHeap) (aY:Option Addr) (bb:Nat) (aj:Option Addr) (am:Nat),σ_ 22=jV (↑ax:Int)/\σ_ 0=.pointer (some ⟨aa,0,none⟩)/\σ_ 4=.pointer (some ⟨b3,0,none⟩)/\σ_ 5=.pointer (some ⟨ah,0,none⟩)/\σ_ 21=jV bm/\PHeap.Le bs U_/\SW w [B1] U U_ [.blk aa 100 [.slice aY ay.length bb,jV bB,.int .u32 bC],.row aj am 3 1 (hM KL.encI ai),.blk ah 25 [.slice aj ai.length am,jV x6,jV an,jV ao,jV (w64 (200 + ap)),jV (w64 (100 * au))],.blk b3 25 B0] w_/\Sl U_ 1 aY bb ay.length (hM KL.encB8 ay)) d9 ?_ ?_ ?_
 have dy:=dY.nilrow 3 1
 exact ⟨bs,bN,cp,none,0,rfl,rfl,rfl,rfl,rfl,(zH _),(dy.pick [1,0,2,3] _ (by decide) rfl),dw⟩
 rintro ax ⟨ay,bB,bC,ai⟩ fd fe bW bx ⟨cN,aY,bb,aj,am,cw,cr,cZ,bv,ct,ee,dz,da⟩ cL
 try dsimp only at cL
 have cc:Hid ((↑ax:Int) < bm):=zF (wAo bx)
 replace bx:=zF bx
 have ea:Hid (w64 ((↑ax:Int) + 1)=(↑(ax + 1):Int)):=zF (by have h1:=bz.out;have h2:=cc.out;rw [wAT] <;> omega)
 refine sR fL1 rfl (zh rfl rfl rfl rfl (fun _=>zU rfl cw ct) (eN (zG (cT Z cc (kN (zG (zT (ZY ZP [3,1004,3,1005,2,0,3,0,aa] (wDE gAw) (by kernel_rfl) ?_))))))))
 have bw:=dz.drew
 generalize hw_W196:({ bW with drawn:=bW.drawn + 1 }:World)=cO at bw ⊢
 refine oR Z (zJ Z bv zy Z zS) ?_
 let B4:Res:=.blk ah 25 [.slice aj ai.length am,jV x6,jV an,jV ao,jV (w64 (200 + ap)),jV (w64 (100 * au))]
 let B5:Res:=.row aj am 3 1 (hM KL.encI ai)
 refine OKS.mt (T:=[aa]) [0] [1,2,3] [B5,B4,.blk b3 25 B0] rfl rfl rfl rfl bw rfl ⟨⟨0,by decide,_,rfl,rfl⟩,trivial⟩ (by decide) rfl (by decide) (fun _ dZ=>(dZ.ldB (j:=1) rfl rfl rfl zc (v:=.slice aj ai.length am) rfl)) rfl (zj rfl rfl rfl rfl rfl cr ?_)
 have q:=bnd cL
 obtain ⟨⟨aX,bD⟩,dd,cD⟩:=q
 try dsimp only at cD
 refine OKS.callHT 1 rfl rfl rfl rfl (zK rfl rfl yQ (zB rfl (zB rfl zM)) rfl) bw (fun hs=>wAZ (⟨ay,bB,bC⟩:wAE) aa aY bb 2 cO cN hs da dd) rfl (T:=[aa]) rfl ⟨fun b h=>(by cases h;exact .head _),trivial⟩ ?_
 rintro aw eC eY cP eh dC ⟨bH,cg,rfl,rfl,de⟩
 let B6:Res:=.blk aa 100 [.slice bH bD.bytes.length cg,jV bD.next,.int .u32 bD.state]
 have dD:SW w [B1] U aw [B6,B5,B4,.blk b3 25 B0] cP:=dC
 refine zW (pv:=[(0,jV aX)]) (zs:=[jV 0]) (cs:=[jV aX]) Z Z Z Z Z (wAC Z wAM) zA zD zt Z Z Z Z Z dD ?_
 intro cQ cX dE
 let B7:Res:=.row (some ⟨cX,0,none⟩) 1 3 1 (hM KL.encI [aX])
 have cy:SW w [B1] U aw [B7,B6,B5,B4,.blk b3 25 B0] cQ:=dE
 refine bnK cD fun bf df eb=>Zs (j:=2) (enc:=KL.encI) (xs:=ai) (ys:=[aX]) (zs:=bf) rfl rfl rfl rfl rfl Zi wFA rfl rfl rfl rfl rfl rfl cy rfl rfl rfl (cy.srcR (j:=0) rfl (by decide) (wAF (f:=KL.encI) (sz:=1) (fun _=>rfl) [aX])) (fun _=>rfl) (fun _=>rfl) df rfl ?_
 intro aZ be cR dF
 let B8:Res:=.row aZ be 3 1 (hM KL.encI bf)
 have dG:SW w [B1] U aw [B7,B6,B8,B4,.blk b3 25 B0] cR:=dF
 refine oR Z (zJ Z bv zy Z zS) (zu (j:=3) (vs:=[.slice aZ bf.length be]) Z Z Z Z dG Z Z Z Z zS (zC Z) Z Z Z ?_)
 intro cS dH
 have dI:SW w [B1] U aw [B7,B6,B8,.blk ah 25 [.slice aZ bf.length be,jV x6,jV an,jV ao,jV (w64 (200 + ap)),jV (w64 (100 * au))],.blk b3 25 B0] cS:=dH
 refine zg (zb (zI (rR fL2 Z (oR Z (zn (zX Z cw Z) (congrArg (jV) ea.out)) (oM Z Z (zg ?_))))))
 cases eb
 exact zI ⟨rfl,⟨aw,bH,cg,aZ,be,rfl,cr,cZ,bv,ct,(ee.trans eh),(dI.pick [1,2,3,4] _ (by decide) rfl),de⟩⟩
 rintro ff eK ⟨bS,bI,ch,bn,bu,c9,eP,cu,c6,c7,eR,cz,dh⟩
 have cY:Hid (¬ ((↑((bm:Int) - 0).toNat:Int) < bm)):=zF (wAa)
 refine sR fL1 Z (oR Z (zU Z c9 c7) (eN (zG (cF Z cY (ZI (zY (zY (ZD (zI (sR gAf Z ?_))))))))))
 let B9:List Value:=[.slice bn cM.length bu,jV x6,jV an,jV ao,jV (w64 (200 + ap)),jV (w64 (100 * au))]
 refine oL Z (cz.ldBA (j:=2) Z Z c6 Zv ZG (vs:=B9) Z Z) (zu (j:=3) (vs:=B9) Z Z Z Z cz Z cu Z Z ZG (zC Z) Z Z Z ?_)
 intro cU dJ
 have cA:SW w [B1] U bS [.blk aa 100 [.slice bI ep.length ch,jV ew,.int .u32 ey],.row bn bu 3 1 (hM KL.encI cM),.blk ah 25 B9,.blk b3 25 B9] cU:=dJ
 refine eN (zO ?_)
 cases cC
 exact ⟨rfl,_,(wFk (v:=.agg B9.toArray) ⟨⟨_,cu,(wEv Zv ZG (cA.blkAt (k:=3) rfl) (vs:=B9) rfl rfl)⟩,trivial⟩),bS,_,(cA.pick [1,0] _ (by decide) rfl),bn,bu,bI,ch,rfl,rfl,dh⟩
theorem wCi (p0:wAE) (ac:Nat) (ae:Option Addr) (af:Nat) (p1:Int) (w:World) (U:PHeap) (hS:St0 w U [.blk ac 100 [.slice ae p0.bytes.length af,jV p0.next,.int .u32 p0.state]]) (ax:Sl U 1 ae af p0.bytes.length (hM KL.encB8 p0.bytes)) {r:Bool × wAE} (hm:wAc p0 p1=some r):Gv Tryz.prog 22 [.pointer (some ⟨ac,0,none⟩),jV p1] w (wBU w [.blk ac 100 [.slice ae p0.bytes.length af,jV p0.next,.int .u32 p0.state]] U (fun U_ L_ v=>∃ (aj:Option Addr) (an:Nat),v=.bool r.1/\L_=[.blk ac 100 [.slice aj r.2.bytes.length an,jV r.2.next,.int .u32 r.2.state]]/\Sl U_ 1 aj an r.2.bytes.length (hM KL.encB8 r.2.bytes))):=by
 unfold wAc at hm
 refine Gv.of Tryz.func22 Z Tryz.ntmps22 Tryz.results22 Z (sR fL1 Z (oA Z Z (eN (sR gAx Z (oM Z Z (oM Z Z ?_))))))
 have q:=bnd hm
 obtain ⟨⟨x2,x3⟩,h4,ao⟩:=q
 try dsimp only at ao
 refine zL 1 Z Z Z Z (zK Z Z yQ (zB Z (zB Z zM)) Z) hS (fun hs=>wAZ p0 ac ae af p1 w U hs ax h4) (.inl Z) ?_
 rintro U6 L7 v8 W9 az av ⟨ai,am,rfl,rfl,aq⟩
 have aw:SW w [.blk ac 100 [.slice ae p0.bytes.length af,jV p0.next,.int .u32 p0.state]] U U6 [.blk ac 100 [.slice ai x3.bytes.length am,jV x3.next,.int .u32 x3.state]] W9:=av
 refine oR Z (yF Z Z Z) (oA Z Z (eN (zO ?_)))
 cases ao
 exact ⟨Z,_,(zr Z),U6,_,aw,ai,am,Z,Z,aq⟩
theorem wEU (p0:wAE) (ae:Nat) (ax:Option Addr) (ay:Nat) (w:World) (U:PHeap) (hS:St0 w U [.blk ae 100 [.slice ax p0.bytes.length ay,jV p0.next,.int .u32 p0.state]]) (cO:Sl U 1 ax ay p0.bytes.length (hM KL.encB8 p0.bytes)) {r:(List Bool) × wAE} (hm:wAi p0=some r):Gv Tryz.prog 29 [.pointer (some ⟨ae,0,none⟩)] w (wBU w [.blk ae 100 [.slice ax p0.bytes.length ay,jV p0.next,.int .u32 p0.state]] U (fun U_ L_ v=>∃ (A0:Option Addr) (c0:Nat) (bE:Option Addr) (bL:Nat),v=.slice A0 r.1.length c0/\L_=[.row A0 c0 4 1 (hM KL.encT r.1),.blk ae 100 [.slice bE r.2.bytes.length bL,jV r.2.next,.int .u32 r.2.state]]/\Sl U_ 1 bE bL r.2.bytes.length (hM KL.encB8 r.2.bytes))):=by
 unfold wAi at hm
 refine Gv.of Tryz.func29 Z Tryz.ntmps29 Tryz.results29 Z (sR fL1 Z (oA Z Z (eN (sR fL1 Z (oA Z Z (eN (zG (sR fL1 Z (oA Z Z (eN (zT ?_)))))))))))
 let B0:Res:=.blk ae 100 [.slice ax p0.bytes.length ay,jV p0.next,.int .u32 p0.state]
 refine CK.iter (fun (aq,ba,bb,ap,bB) σ_ w_=>∃ (U_:PHeap) (ak:Option Addr) (am:Nat) (ah:Option Addr) (aj:Nat),σ_ 0=.pointer (some ⟨ae,0,none⟩)/\σ_ 3=.slice ah ap.length aj/\σ_ 4=jV bB/\PHeap.Le U U_/\SW w [B0] U U_ [.blk ae 100 [.slice ak aq.length am,jV ba,.int .u32 bb],.row ah aj 4 1 (hM KL.encT ap)] w_/\Sl U_ 1 ak am aq.length (hM KL.encB8 aq)) hm ?_ ?_
 have cJ:=hS.nilrow 4 1
 exact ⟨U,ax,ay,none,0,rfl,rfl,rfl,(zH _),(cJ.pick [1,0] _ (by decide) rfl),cO⟩
 rintro ⟨aq,ba,bb,ap,bB⟩ dr dt bJ ⟨aX,ak,am,ah,aj,an,ao,aw,a7,aZ,aY⟩ bz bx
 try dsimp only at bz
 refine zG (sR (wPG (.fx 12 (wON (.nil)) .stop)) Z (oM Z aw (oR Z (zU Z Z Z) (oM Z Z ?_))))
 by_cases aa:bB < 5
 have bX:=bz;rw [if_pos aa] at bX;replace aa:=zF aa
 refine zj Z Z Z (wT Z aa) Z ao (rU Z (wT Z aa) (za Z Z ZQ) (rU Z (wT Z aa) (zU Z Z Z) (zj Z Z Z (wT Z aa) Z Z (ifc bX ?_ ?_))))
 intro ac c7
 refine oT Z ac (oT Z ac (oT Z ac (oT Z ac (zd Z Z Z (wAU Z Z Z) (ZA Z Z Z (wAU Z Z Z) (zd Z Z Z (wAU Z Z Z) (oT Z ac (rU Z (wT Z aa) (zV Z (Zj ac.out) Z) (oR Z (zV Z (Zj aa.out) Z) (eN (ZF Z (kN (zT (sR gAs Z (oM Z an ?_)))))))))))))))
 have q:=bnd c7
 obtain ⟨⟨aW,bC⟩,cA,bY⟩:=q
 try dsimp only at bY
 refine zL 1 Z Z Z Z (zK Z Z Tryz.call22 (zB Z (zB Z zM)) Z) aZ (fun hs=>wCi (⟨aq,ba,bb⟩:wAE) ae ak am 4 bJ aX hs aY cA) (.inl Z) ?_
 rintro av di dp cj ca cK ⟨bh,bu,rfl,rfl,bO⟩
 let B1:Res:=.blk ae 100 [.slice bh bC.bytes.length bu,jV bC.next,.int .u32 bC.state]
 let B2:Res:=.row ah aj 4 1 (hM KL.encT ap)
 have cL:SW w [B0] U av [B1,B2] cj:=cK
 refine oR Z (ZN Z Z) (oA Z Z (eN (sR gAy Z (oM Z ao (oM Z Z (zW (pv:=[(0,.bool (!aW))]) (zs:=[.bool false]) (cs:=[.bool (!aW)]) Z Z Z Z Z (wAC Z wAM) ZQ yJ yS Z Z Z Z Z cL ?_))))))
 intro cm cq cM
 let B3:Res:=.row (some ⟨cq,0,none⟩) 1 4 1 (hM KL.encT [!aW])
 have bS:SW w [B0] U av [B3,B1,B2] cm:=cM
 refine bnK bY fun cd cC c9=>Zs (j:=2) (enc:=KL.encT) (xs:=ap) (ys:=[!aW]) (zs:=cd) rfl rfl rfl rfl rfl Tryz.underlying47 wJy rfl rfl rfl rfl rfl rfl bS rfl rfl rfl (bS.srcR (j:=0) rfl (by decide) (wAF (f:=KL.encT) (sz:=1) (fun _=>rfl) [!aW])) (fun _=>rfl) (fun _=>rfl) cC rfl ?_
 intro bi bv co cN
 have bT:SW w [B0] U av [B3,B1,.row bi bv 4 1 (hM KL.encT cd)] co:=cN
 refine oA Z Z (eN (sR fL1 Z (oM Z Z (eN (ifc c9 ?_ ?_)))))
 intro bw da
 refine zm (nC bw.out) (ZV (zb ?_))
 have q:=nA da
 obtain rfl:=q
 exact zI ⟨rfl,_,rfl,⟨av,bh,bu,bi,bv,an,rfl,aw,(a7.trans ca),(bT.pick [1,2] _ (by decide) rfl),bO⟩⟩
 intro bw db
 refine ZF (nF (bw.out)) (rR fL3 Z (oM Z aw (oR Z (zX Z Z Z) (oA Z Z (zg (zb ?_))))))
 have q:=nA db
 obtain rfl:=q
 exact zI ⟨rfl,_,rfl,⟨av,bh,bu,bi,bv,an,rfl,rfl,(a7.trans ca),(bT.pick [1,2] _ (by decide) rfl),bO⟩⟩
 intro ac cP
 refine zj Z Z Z (wF Z ac) Z ao (rU Z (wF Z ac) (za Z Z ZQ) (rU Z (wF Z ac) (zU Z Z Z) (zj Z Z Z (wF Z ac) Z Z (ifc cP ?_ ?_))))
 intro ag cQ
 refine zj Z Z Z (wT Z ag) Z an ?_
 have q:=bnd cQ
 obtain ⟨⟨dq,a8⟩,cw,bU⟩:=q
 try dsimp only at bU
 refine zL 1 Z Z Z (wT Z ag) (zK Z Z Tryz.call22 (zB Z (zB Z zM)) Z) aZ (fun hs=>wCi (⟨aq,ba,bb⟩:wAE) ae ak am 6 bJ aX hs aY cw) (.inl Z) ?_
 rintro bn dg dm bI bZ cD ⟨be,bp,rfl,rfl,bM⟩
 let B4:Res:=.row ah aj 4 1 (hM KL.encT ap)
 have bP:SW w [B0] U bn [.blk ae 100 [.slice be a8.bytes.length bp,jV a8.next,.int .u32 a8.state],B4] bI:=cD
 refine rU Z (wT Z ag) (ZN Z Z) (rU Z (wF Z ac) (zV Z (Zj ag.out) Z) (rU Z (wT Z aa) (zZ Z (zw ac.out) Z) (oR Z (zV Z (Zj aa.out) Z) (eN (ifc bU ?_ ?_)))))
 intro bq cR
 refine zm (nC bq.out) (ZI (zY ?_))
 have q:=wAf cR
 obtain ⟨dd,cS,cr⟩:=q
 have q:=bx dd cr
 obtain rfl:=q
 refine zY (ZD (zI (sR fL2 Z (oM Z ao (oA Z Z (eN (zO ?_)))))))
 cases cS
 exact ⟨rfl,_,(zr rfl),bn,_,(bP.pick [1,0] _ (by decide) rfl),ah,aj,be,bp,rfl,rfl,bM⟩
 intro bq cU
 refine ZF (nF (bq.out)) (kN (zT (sR gAs Z (oM Z an ?_))))
 have q:=bnd cU
 obtain ⟨⟨az,bA⟩,cy,bV⟩:=q
 try dsimp only at bV
 refine zL 1 Z Z Z Z (zK Z Z Tryz.call22 (zB Z (zB Z zM)) Z) bP (fun hs=>wCi a8 ae be bp 4 bI bn hs bM cy) (.inl Z) ?_
 rintro au dh dn cg b4 cE ⟨bf,br,rfl,rfl,bN⟩
 let B5:Res:=.blk ae 100 [.slice bf bA.bytes.length br,jV bA.next,.int .u32 bA.state]
 have cG:SW w [B0] U au [B5,B4] cg:=cE
 refine oR Z (ZN Z Z) (oA Z Z (eN (sR gAy Z (oM Z ao (oM Z Z (zW (pv:=[(0,.bool (!az))]) (zs:=[.bool false]) (cs:=[.bool (!az)]) Z Z Z Z Z (wAC Z wAM) ZQ yJ yS Z Z Z Z Z cG ?_))))))
 intro ch cp cH
 let B6:Res:=.row (some ⟨cp,0,none⟩) 1 4 1 (hM KL.encT [!az])
 have bQ:SW w [B0] U au [B6,B5,B4] ch:=cH
 refine bnK bV fun cc cz cV=>Zs (j:=2) (enc:=KL.encT) (xs:=ap) (ys:=[!az]) (zs:=cc) rfl rfl rfl rfl rfl Tryz.underlying47 wJy rfl rfl rfl rfl rfl rfl bQ rfl rfl rfl (bQ.srcR (j:=0) rfl (by decide) (wAF (f:=KL.encT) (sz:=1) (fun _=>rfl) [!az])) (fun _=>rfl) (fun _=>rfl) cz rfl ?_
 intro bg bs ci cI
 have bR:SW w [B0] U au [B6,B5,.row bg bs 4 1 (hM KL.encT cc)] ci:=cI
 refine oA Z Z (eN (sR fL1 Z (oM Z Z (eN (ifc cV ?_ ?_)))))
 intro bt cW
 refine zm (nC bt.out) (ZV (zb ?_))
 have q:=nA cW
 obtain rfl:=q
 exact zI ⟨rfl,_,rfl,⟨au,bf,br,bg,bs,an,rfl,aw,((a7.trans bZ).trans b4),(bR.pick [1,2] _ (by decide) rfl),bN⟩⟩
 intro bt cX
 refine ZF (nF (bt.out)) (rR fL3 Z (oM Z aw (oR Z (zX Z Z Z) (oA Z Z (zg (zb ?_))))))
 have q:=nA cX
 obtain rfl:=q
 exact zI ⟨rfl,_,rfl,⟨au,bf,br,bg,bs,an,rfl,rfl,((a7.trans bZ).trans b4),(bR.pick [1,2] _ (by decide) rfl),bN⟩⟩
 intro ag cY
 refine oF Z ag (ZA Z Z Z (zN Z Z (zw ag.out) Z) (oF Z ag (rU Z (wF Z ac) (zZ Z (zw ag.out) Z) (rU Z (wT Z aa) (zZ Z (zw ac.out) Z) (oR Z (zV Z (Zj aa.out) Z) (eN (zm Z (ZI (zY ?_)))))))))
 have q:=wAf cY
 obtain ⟨de,cZ,ct⟩:=q
 have q:=bx de ct
 obtain rfl:=q
 refine zY (ZD (zI (sR fL2 Z (oM Z ao (oA Z Z (eN (zO ?_)))))))
 cases cZ
 exact ⟨rfl,_,(zr rfl),aX,_,(aZ.pick [1,0] _ (by decide) rfl),ah,aj,ak,am,rfl,rfl,aY⟩
 have bW:=bz;rw [if_neg aa] at bW;replace aa:=zF aa
 refine oF Z aa (oF Z aa (oF Z aa (oF Z aa (zd Z Z Z (wAU Z Z Z) (zd Z Z Z (wAU Z Z Z) (zd Z Z Z (wAU Z Z Z) (zd Z Z Z (wAU Z Z Z) (zd Z Z Z (wAU Z Z Z) (ZA Z Z Z (wAU Z Z Z) (zd Z Z Z (wAU Z Z Z) (zd Z Z Z (wAU Z Z Z) (oF Z aa (oR Z (zZ Z (zw aa.out) Z) (eN (zm Z (ZI (zY ?_)))))))))))))))))
 have q:=wAf bW
 obtain ⟨df,c6,cu⟩:=q
 have q:=bx df cu
 obtain rfl:=q
 refine zY (ZD (zI (sR fL2 Z (oM Z ao (oA Z Z (eN (zO ?_)))))))
 cases c6
 exact ⟨rfl,_,(zr rfl),aX,_,(aZ.pick [1,0] _ (by decide) rfl),ah,aj,ak,am,rfl,rfl,aY⟩
theorem wGT (p0:wAE) (ah:Nat) (ff:Option Addr) (fg:Nat) (p1:Int) (p2:Int) (w:World) (U:PHeap) (hS:St0 w U [.blk ah 100 [.slice ff p0.bytes.length fg,jV p0.next,.int .u32 p0.state]]) (xp:Sl U 1 ff fg p0.bytes.length (hM KL.encB8 p0.bytes)) {r:wAI × wAE} (hm:wCA p0 p1 p2=some r):Gv Tryz.prog 6 [.pointer (some ⟨ah,0,none⟩),jV p1,jV p2] w (wBU w [.blk ah 100 [.slice ff p0.bytes.length fg,jV p0.next,.int .u32 p0.state]] U (fun U_ L_ v=>∃ (jM:Option Addr) (lI:Nat) (jN:Option Addr) (lJ:Nat) (l6:List Value) (j6:Option Addr) (l5:Nat),v=.agg #[.slice jM r.1.Rules.Classes.length lI,jV r.1.Rules.Each,jV r.1.Rules.Laps,jV r.1.Rules.Spare,jV r.1.Rules.Loop,jV r.1.Rules.Unused,jV r.1.Start,.slice jN r.1.Teams.length lJ]/\L_=[.row jM lI 3 1 (hM KL.encI r.1.Rules.Classes),.row jN lJ 43 3 l6,.blk ah 100 [.slice j6 r.2.bytes.length l5,jV r.2.next,.int .u32 r.2.state]]/\RlT U U_ wME r.1.Teams l6/\Sl U_ 1 j6 l5 r.2.bytes.length (hM KL.encB8 r.2.bytes))):=by
 unfold wCA at hm
 refine Gv.of Tryz.func6 Z Tryz.ntmps6 Tryz.results6 Z (sR (.fx 0 .nil .stop) Z ?_)
 let B0:List Value:=[.slice none 0 0,jV 0,jV 0,jV 0,jV 0,jV 0,jV 0,.slice none 0 0]
 refine zz (cs:=B0) Z Z Z Z Z yB Z hS ?_
 intro W2 b3 we
 refine eN (sR (.fl 0 (.fl 1 (.fx 2 (.fl 3 gAt) .stop))) Z (oM Z Z (oM Z Z ?_)))
 have q:=bnd hm
 obtain ⟨⟨x6,x7⟩,h8,oU⟩:=q
 try dsimp only at oU
 let B1:Res:=.blk ah 100 [.slice ff p0.bytes.length fg,jV p0.next,.int .u32 p0.state]
 have uw:SW w [B1] U U [B1,.blk b3 28 B0] W2:=we.pick [1,0] _ (by decide) rfl
 refine zL 1 Z Z Z Z (zK Z Z Tryz.call26 (zB Z (zB Z zM)) Z) uw (fun hs=>wGG p0 ah ff fg p2 W2 U hs xp h8) (.inl Z) ?_
 rintro iA A6 BF iD AJ vy ⟨bb,be,jT,lS,rfl,rfl,sV⟩
 let B2:Res:=.row bb be 3 1 (hM KL.encI x6.Classes)
 let B3:Res:=.blk ah 100 [.slice jT x7.bytes.length lS,jV x7.next,.int .u32 x7.state]
 have vN:SW w [B1] U iA [B2,B3,.blk b3 28 B0] iD:=vy
 refine oM Z Z ?_
 have q:=bnd oU
 obtain ⟨⟨dx,gT⟩,sY,oB⟩:=q
 try dsimp only at oB
 have vP:SW w [B1] U iA [B3,B2,.blk b3 28 B0] iD:=vN.pick [1,0,2] _ (by decide) rfl
 refine zL 1 Z Z Z Z (zK Z Z yQ (zB Z (zB Z zM)) Z) vP (fun hs=>wAZ x7 ah jT lS 50 iD iA hs sV sY) (.inl Z) ?_
 rintro fM Bd BK qh AM vX ⟨jW,lV,rfl,rfl,s8⟩
 let B4:Res:=.blk ah 100 [.slice jW gT.bytes.length lV,jV gT.next,.int .u32 gT.state]
 have wb:SW w [B1] U fM [B4,B2,.blk b3 28 B0] qh:=vX
 let B5:List Value:=[.slice bb x6.Classes.length be,jV x6.Each,jV x6.Laps,jV x6.Spare,jV x6.Loop,jV x6.Unused,jV dx,.slice none 0 0]
 refine oR Z (ZH (pv:=[(0,.agg #[.slice bb x6.Classes.length be,jV x6.Each,jV x6.Laps,jV x6.Spare,jV x6.Loop,jV x6.Unused]),(1,jV dx)]) (z:=B0) (cs:=B5) Z (wAC Z (wAC Z wAM)) yB wHg Z Z) (zz (cs:=B0) Z Z Z Z Z yB Z wb ?_)
 intro Bq bi wg
 refine zu (j:=0) (vs:=B5) Z Z Z Z wg Z Z Z Z ZL (zC Z) Z Z Z ?_
 intro iF wh
 have wi:SW w [B1] U fM [.blk bi 28 B5,B4,B2,.blk b3 28 B0] iF:=wh
 refine eN (zG (sR gAq Z (oM Z Z (oM Z Z ?_))))
 have q:=bnd oB
 obtain ⟨⟨bQ,jG⟩,tc,oK⟩:=q
 try dsimp only at oK
 have wp:SW w [B1] U fM [B4,.blk bi 28 B5,B2,.blk b3 28 B0] iF:=wi.pick [1,0,2,3] _ (by decide) rfl
 refine zL 1 Z Z Z Z (zK Z Z Tryz.call28 (zB Z (zB Z (zB Z zM))) Z) wp (fun hs=>wAt gT ah jW lV 1 p1 iF fM hs s8 tc) (.inl Z) ?_
 rintro dE Bi BP qn AN wq ⟨j4,lZ,rfl,rfl,th⟩
 have wu:SW w [B1] U dE [.blk ah 100 [.slice j4 jG.bytes.length lZ,jV jG.next,.int .u32 jG.state],.blk bi 28 B5,B2,.blk b3 28 B0] qn:=wq
 refine oM Z Z (eN (zT ?_))
 have q:=bnd oK
 obtain ⟨⟨AV,AW,AX,AY⟩,xt,od⟩:=q
 try dsimp only at od
 have q:=wAs xt
 obtain ⟨ji,xu⟩:=q
 replace ji:=zF ji
 refine CK.forN' (fun am (e9,jK,jL,cV) σ_ w_=>∃ (U_:PHeap) (fG:Option Addr) (fY:Nat) (dm:Option Addr) (dt:Nat) (bT:List Value),σ_ 23=jV (↑am:Int)/\σ_ 0=.pointer (some ⟨ah,0,none⟩)/\σ_ 6=.pointer (some ⟨b3,0,none⟩)/\σ_ 7=.pointer (some ⟨bi,0,none⟩)/\σ_ 22=jV bQ/\PHeap.Le dE U_/\SW w [B1] U U_ [.blk ah 100 [.slice fG e9.length fY,jV jK,.int .u32 jL],.row bb be 3 1 (hM KL.encI x6.Classes),.row dm dt 43 3 bT,.blk bi 28 [.slice bb x6.Classes.length be,jV x6.Each,jV x6.Laps,jV x6.Spare,jV x6.Loop,jV x6.Unused,jV dx,.slice dm cV.length dt],.blk b3 28 B0] w_/\Sl U_ 1 fG fY e9.length (hM KL.encB8 e9)/\RlT dE U_ wME cV bT) xu ?_ ?_ ?_
 have uC:=wu.nilrow 43 3
 exact ⟨dE,j4,lZ,none,0,[],rfl,rfl,rfl,rfl,rfl,(zH _),(uC.pick [1,3,0,2,4] _ (by decide) rfl),th,RlT.nil⟩
 rintro am ⟨e9,jK,jL,cV⟩ BV Cb pN jg ⟨pq,fG,fY,dm,dt,bT,iY,iS,qW,qX,md,gD,uK,rS,gr⟩ o7
 try dsimp only at o7
 have lL:Hid ((↑am:Int) < bQ):=zF (wAo jg)
 replace jg:=zF jg
 have oc:Hid (w64 ((↑am:Int) + 1)=(↑(am + 1):Int)):=zF (by have h1:=ji.out;have h2:=lL.out;rw [wAT] <;> omega)
 refine sR fL1 Z (oR Z (zU Z iY md) (eN (zG (cT Z lL (kN (zG (zT (sR fL2 Z (oM Z iY (oA Z Z (eN (sR (wDE (.fx 3 (.fl 4 gAn) .stop)) Z (oM Z Z (oR Z (Runs.mulw Z Z Z) (oM Z iS ?_)))))))))))))))
 have q:=bnd o7
 obtain ⟨⟨aw,gK⟩,rW,ou⟩:=q
 try dsimp only at ou
 refine zL 1 Z Z Z Z (zK Z Z Tryz.call28 (zB Z (zB Z (zB Z zM))) Z) uK (fun hs=>wAt (⟨e9,jK,jL⟩:wAE) ah fG fY 1 9 pN pq hs rS rW) (.inl Z) ?_
 rintro fL A9 BG pR cX uY ⟨jQ,lN,rfl,rfl,r9⟩
 let B6:Res:=.blk bi 28 [.slice bb x6.Classes.length be,jV x6.Each,jV x6.Laps,jV x6.Spare,jV x6.Loop,jV x6.Unused,jV dx,.slice dm cV.length dt]
 let B7:Res:=.row dm dt 43 3 bT
 let B8:Res:=.blk ah 100 [.slice jQ gK.bytes.length lN,jV gK.next,.int .u32 gK.state]
 have va:SW w [B1] U fL [B8,B2,B7,B6,.blk b3 28 B0] pR:=uY
 refine oR Z (zX Z Z Z) ?_
 let B9:List Value:=[jV 0,.slice none 0 0,.slice none 0 0]
 let dW:List Value:=[jV (w64 ((w64 (9 * (↑am:Int))) + aw)),.slice none 0 0,.slice none 0 0]
 refine oR Z (ZH (pv:=[(0,jV (w64 ((w64 (9 * (↑am:Int))) + aw)))]) (z:=B9) (cs:=dW) Z (wAC Z wAM) Zb wGn Z Z) (zz (cs:=B9) Z Z Z Z Z Zb Z va ?_)
 intro Bo ao vf
 refine zu (j:=0) (vs:=dW) Z Z Z Z vf Z Z Z Z ZE (zC Z) Z Z Z ?_
 intro iE vj
 have vm:SW w [B1] U fL [.blk ao 43 dW,B8,B2,B7,B6,.blk b3 28 B0] iE:=vj
 refine eN (zG (sR gAo Z (oM Z iS ?_)))
 have q:=bnd ou
 obtain ⟨⟨gP,jy⟩,sq,ox⟩:=q
 try dsimp only at ox
 have vu:SW w [B1] U fL [B8,.blk ao 43 dW,B2,B7,B6,.blk b3 28 B0] iE:=vm.pick [1,0,2,3,4,5] _ (by decide) rfl
 refine zL 1 Z Z Z Z (zK Z Z Tryz.call28 (zB Z (zB Z (zB Z zM))) Z) vu (fun hs=>wAt gK ah jQ lN 1 5 iE fL hs r9 sq) (.inl Z) ?_
 rintro iB Bb BI p7 c7 vD ⟨jR,lP,rfl,rfl,sP⟩
 have vJ:SW w [B1] U iB [.blk ah 100 [.slice jR jy.bytes.length lP,jV jy.next,.int .u32 jy.state],.blk ao 43 dW,B2,B7,B6,.blk b3 28 B0] p7:=vD
 refine oM Z Z (eN (zT ?_))
 have q:=bnd ox
 obtain ⟨⟨AZ,A3,A4,an⟩,xA,oz⟩:=q
 try dsimp only at oz
 have q:=wAs xA
 obtain ⟨jj,xB⟩:=q
 replace jj:=zF jj
 refine CK.forN' (fun eX (eZ,jz,jA,dw) σ_ w_=>∃ (U_:PHeap) (fA:Option Addr) (fS:Nat) (dz:Option Addr) (dI:Nat),σ_ 34=jV (↑eX:Int)/\σ_ 0=.pointer (some ⟨ah,0,none⟩)/\σ_ 6=.pointer (some ⟨b3,0,none⟩)/\σ_ 7=.pointer (some ⟨bi,0,none⟩)/\σ_ 9=.pointer (some ⟨ao,0,none⟩)/\σ_ 22=jV bQ/\σ_ 23=jV (↑am:Int)/\σ_ 33=jV gP/\PHeap.Le iB U_/\SW w [B1] U U_ [.blk ah 100 [.slice fA eZ.length fS,jV jz,.int .u32 jA],.row dz dI 3 1 (hM KL.encI dw),.blk ao 43 [jV (w64 ((w64 (9 * (↑am:Int))) + aw)),.slice dz dw.length dI,.slice none 0 0],B2,B7,B6,.blk b3 28 B0] w_/\Sl U_ 1 fA fS eZ.length (hM KL.encB8 eZ)) xB ?_ ?_ ?_
 have vL:=vJ.nilrow 3 1
 exact ⟨iB,jR,lP,none,0,rfl,iS,qW,qX,rfl,md,iY,rfl,(zH _),(vL.pick [1,0,2,3,4,5,6] _ (by decide) rfl),sP⟩
 rintro eX ⟨eZ,jz,jA,dw⟩ BX Cf lz jh ⟨pC,fA,fS,dz,dI,ms,mf,re,rf,iU,rg,rh,mg,AK,vM,sX⟩ o8
 try dsimp only at o8
 have lT:Hid ((↑eX:Int) < gP):=zF (wAo jh)
 replace jh:=zF jh
 have xG:Hid (w64 ((↑eX:Int) + 1)=(↑(eX + 1):Int)):=zF (by have h1:=jj.out;have h2:=lT.out;rw [wAT] <;> omega)
 refine sR fL1 rfl (zh rfl rfl rfl rfl (fun _=>zU rfl ms mg) (eN (zG (cT Z lT (kN (zG (zT (ZY ZP [3,1004,3,1005,2,0,3,0,ah] (wDE gAw) (by kernel_rfl) ?_))))))))
 have jb:=vM.drew
 generalize hw_W267:({ lz with drawn:=lz.drawn + 1 }:World)=qc at jb ⊢
 refine oR Z (zJ Z iU zk Z zS) ?_
 let fH:Res:=.blk ao 43 [jV (w64 ((w64 (9 * (↑am:Int))) + aw)),.slice dz dw.length dI,.slice none 0 0]
 let ij:Res:=.row dz dI 3 1 (hM KL.encI dw)
 refine OKS.mt (T:=[ah]) [0] [1,2,3,4,5,6] [ij,fH,B2,B7,B6,.blk b3 28 B0] rfl rfl rfl rfl jb rfl ⟨⟨0,by decide,_,rfl,rfl⟩,trivial⟩ (by decide) rfl (by decide) (fun _ xk=>(xk.ldB (j:=1) rfl rfl rfl zc (v:=.slice dz dw.length dI) rfl)) rfl (zj rfl rfl rfl rfl rfl mf ?_)
 have q:=bnd o8
 obtain ⟨⟨fk,jB⟩,sZ,oC⟩:=q
 try dsimp only at oC
 refine OKS.callHT 1 rfl rfl rfl rfl (zK rfl rfl yQ (zB rfl (zB rfl zM)) rfl) jb (fun hs=>wAZ (⟨eZ,jz,jA⟩:wAE) ah fA fS 2 qc pC hs sX sZ) rfl (T:=[ah]) rfl ⟨fun b h=>(by cases h;exact .head _),trivial⟩ ?_
 rintro eC Bc BJ qd AL vO ⟨jU,lU,rfl,rfl,s3⟩
 let fI:Res:=.blk ah 100 [.slice jU jB.bytes.length lU,jV jB.next,.int .u32 jB.state]
 have vQ:SW w [B1] U eC [fI,ij,fH,B2,B7,B6,.blk b3 28 B0] qd:=vO
 refine zW (pv:=[(0,jV fk)]) (zs:=[jV 0]) (cs:=[jV fk]) Z Z Z Z Z (wAC Z wAM) zA zD zt Z Z Z Z Z vQ ?_
 intro qe qG vR
 let ik:Res:=.row (some ⟨qG,0,none⟩) 1 3 1 (hM KL.encI [fk])
 have m8:SW w [B1] U eC [ik,fI,ij,fH,B2,B7,B6,.blk b3 28 B0] qe:=vR
 refine bnK oC fun gU s4 xU=>Zs (j:=2) (enc:=KL.encI) (xs:=dw) (ys:=[fk]) (zs:=gU) rfl rfl rfl rfl rfl Zi wFA rfl rfl rfl rfl rfl rfl m8 rfl rfl rfl (m8.srcR (j:=0) rfl (by decide) (wAF (f:=KL.encI) (sz:=1) (fun _=>rfl) [fk])) (fun _=>rfl) (fun _=>rfl) s4 rfl ?_
 intro fB fT qf vS
 let j7:Res:=.row fB fT 3 1 (hM KL.encI gU)
 have vT:SW w [B1] U eC [ik,fI,j7,fH,B2,B7,B6,.blk b3 28 B0] qf:=vS
 refine oR Z (zJ Z iU zk Z zS) (zu (j:=3) (vs:=[.slice fB gU.length fT]) Z Z Z Z vT Z Z Z Z zS (zC Z) Z Z Z ?_)
 intro qg vU
 have vV:SW w [B1] U eC [ik,fI,j7,.blk ao 43 [jV (w64 ((w64 (9 * (↑am:Int))) + aw)),.slice fB gU.length fT,.slice none 0 0],B2,B7,B6,.blk b3 28 B0] qg:=vU
 refine zg (zb (zI (rR fL2 Z (oR Z (zn (zX Z ms Z) (congrArg (jV) xG.out)) (oM Z Z (zg ?_))))))
 cases xU
 exact zI ⟨rfl,⟨eC,jU,lU,fB,fT,rfl,mf,re,rf,iU,rg,rh,mg,(AK.trans AL),(vV.pick [1,2,3,4,5,6,7] _ (by decide) rfl),s3⟩⟩
 rintro Cg lA ⟨pD,pp,qN,ap,av,rt,eR,mh,gh,mj,ml,mm,ri,c9,vW,s5⟩
 have qO:Hid (¬ ((↑((gP:Int) - 0).toNat:Int) < gP)):=zF (wAa)
 refine sR fL1 rfl (zh rfl rfl rfl rfl (fun _=>zU rfl rt ri) (eN (zG (cF Z qO (ZI (zY (zY (ZD (zI (zG (ZY ZP [3,1005,3,3,1004,3,3,3,1004,3,3,3,ah] (.fl 0 (fC2_9 (.fx 1 (.fl 10 (.fl 11 .nil)) .stop))) (by kernel_rfl) ?_)))))))))))
 have gu:=vW.drew
 generalize hw_W352:({ lA with drawn:=lA.drawn + 1 }:World)=qi at gu ⊢
 refine oM Z eR (oR Z (zJ Z gh ze Z ZG) (oR Z (zJ Z Z zy Z zS) ?_))
 let ak:Res:=.row ap av 3 1 (hM KL.encI an)
 let dX:Res:=.blk ao 43 [jV (w64 ((w64 (9 * (↑am:Int))) + aw)),.slice ap an.length av,.slice none 0 0]
 refine OKS.mt (T:=[ah]) [0] [1,2,3,4,5,6] [ak,dX,B2,B7,B6,.blk b3 28 B0] rfl rfl rfl rfl gu rfl ⟨⟨0,by decide,_,rfl,rfl⟩,trivial⟩ (by decide) rfl (by decide) (fun _ xl=>(xl.ldB (j:=4) rfl rfl rfl zc (v:=.slice bb x6.Classes.length be) rfl)) rfl (zh rfl rfl rfl rfl (fun _=>za rfl rfl zA) (zh rfl rfl rfl rfl (fun _=>zJ rfl gh ze rfl ZG) (zh rfl rfl rfl rfl (fun _=>zJ rfl rfl zy rfl zD) (OKS.mt (T:=[ah]) [0] [1,2,3,4,5,6] [ak,dX,B2,B7,B6,.blk b3 28 B0] rfl rfl rfl rfl gu rfl ⟨⟨0,by decide,_,rfl,rfl⟩,trivial⟩ (by decide) rfl (by decide) (fun _ xm=>(xm.ldB (j:=4) rfl rfl rfl zP (v:=jV x6.Laps) rfl)) rfl (zh rfl rfl rfl rfl (fun _=>Runs.mulw rfl rfl rfl) ?_)))))
 have q:=bnd oz
 obtain ⟨⟨bu,gV⟩,s6,oD⟩:=q
 try dsimp only at oD
 refine OKS.callHT 1 rfl rfl rfl rfl (zK rfl rfl Tryz.call28 (zB rfl (zB rfl (zB rfl zM))) rfl) gu (fun hs=>wAt (⟨AZ,A3,A4⟩:wAE) ah pp qN 300 900 qi pD hs s5 s6) rfl (T:=[ah]) rfl ⟨fun b h=>(by cases h;exact .head _),trivial⟩ ?_
 rintro lm Be BL lB da vY ⟨jX,lW,rfl,rfl,s7⟩
 have vZ:SW w [B1] U lm [.blk ah 100 [.slice jX gV.bytes.length lW,jV gV.next,.int .u32 gV.state],ak,dX,B2,B7,B6,.blk b3 28 B0] lB:=vY
 refine oA Z Z (oA Z Z (eN (zG (sR gAf Z (oM Z eR ?_)))))
 have q:=bnd oD
 obtain ⟨⟨BS,gW⟩,s9,oE⟩:=q
 try dsimp only at oE
 refine zL 1 Z Z Z Z (zK Z Z Tryz.call22 (zB Z (zB Z zM)) Z) vZ (fun hs=>wCi gV ah jX lW 4 lB lm hs s7 s9) (.inl Z) ?_
 rintro ca Bf BM lC db wa ⟨ig,iL,rfl,rfl,mB⟩
 have m9:SW w [B1] U ca [.blk ah 100 [.slice ig gW.bytes.length iL,jV gW.next,.int .u32 gW.state],ak,dX,B2,B7,B6,.blk b3 28 B0] lC:=wa
 refine eN (ifc oE ?_ ?_)
 intro iM xV
 refine ZF (congrArg nB iM.out) (rR (wDE gAg) Z (oM Z eR (oM Z Z (oR Z (zX Z Z Z) ?_))))
 have q:=bnd xV
 obtain ⟨⟨BT,jC⟩,ta,oG⟩:=q
 try dsimp only at oG
 refine zL 1 Z Z Z Z (zK Z Z yQ (zB Z (zB Z zM)) Z) m9 (fun hs=>wAZ gW ah ig iL (w64 ((w64 ((↑x6.Classes.length:Int) * x6.Laps)) + 1)) lC ca hs mB ta) (.inl Z) ?_
 rintro cE Bg BN qj gG wc ⟨jY,lX,rfl,rfl,tb⟩
 have wd:SW w [B1] U cE [.blk ah 100 [.slice jY jC.bytes.length lX,jV jC.next,.int .u32 jC.state],ak,dX,B2,B7,B6,.blk b3 28 B0] qj:=wc
 refine oA Z Z (eN ?_)
 have q:=bnd oG
 obtain ⟨⟨gz,pm,pn,cm⟩,AA,oH⟩:=q
 try dsimp only at oH
 refine CK.cut (fun σ_ w_=>∃ (U_:PHeap) (dU:Option Addr) (eI:Nat) (bw:Option Addr) (ch:Nat) (gb:List Value),σ_ 0=.pointer (some ⟨ah,0,none⟩)/\σ_ 6=.pointer (some ⟨b3,0,none⟩)/\σ_ 7=.pointer (some ⟨bi,0,none⟩)/\σ_ 9=.pointer (some ⟨ao,0,none⟩)/\σ_ 22=jV bQ/\σ_ 23=jV (↑am:Int)/\PHeap.Le cE U_/\SW w [B1] U U_ [.blk ah 100 [.slice dU gz.length eI,jV pm,.int .u32 pn],.row ap av 3 1 (hM KL.encI an),.row bw ch 46 3 gb,.blk ao 43 [jV (w64 ((w64 (9 * (↑am:Int))) + aw)),.slice ap an.length av,.slice bw cm.length ch],.row bb be 3 1 (hM KL.encI x6.Classes),B7,B6,.blk b3 28 B0] w_/\Sl U_ 1 dU eI gz.length (hM KL.encB8 gz)/\RlT cE U_ wIZ cm gb) ?_ ?_
 refine zT (CK.iter (fun (e8,jD,jE,cS,jF) σ_ w_=>∃ (U_:PHeap) (dV:Option Addr) (eJ:Nat) (cA:Option Addr) (cI:Nat) (bP:List Value),σ_ 0=.pointer (some ⟨ah,0,none⟩)/\σ_ 6=.pointer (some ⟨b3,0,none⟩)/\σ_ 7=.pointer (some ⟨bi,0,none⟩)/\σ_ 9=.pointer (some ⟨ao,0,none⟩)/\σ_ 10=jV bu/\σ_ 11=jV jF/\σ_ 22=jV bQ/\σ_ 23=jV (↑am:Int)/\PHeap.Le cE U_/\SW w [B1] U U_ [.blk ah 100 [.slice dV e8.length eJ,jV jD,.int .u32 jE],.row ap av 3 1 (hM KL.encI an),.row cA cI 46 3 bP,.blk ao 43 [jV (w64 ((w64 (9 * (↑am:Int))) + aw)),.slice ap an.length av,.slice cA cS.length cI],.row bb be 3 1 (hM KL.encI x6.Classes),B7,B6,.blk b3 28 B0] w_/\Sl U_ 1 dV eJ e8.length (hM KL.encB8 e8)/\RlT cE U_ wIZ cS bP) AA ?_ ?_)
 have wj:=wd.nilrow 46 3
 exact ⟨cE,jY,lX,none,0,[],eR,mh,gh,mj,rfl,rfl,ml,mm,(zH _),(wj.pick [1,2,0,3,4,5,6,7] _ (by decide) rfl),tb,RlT.nil⟩
 rintro ⟨e8,jD,jE,cS,jF⟩ BY Ch qk ⟨ln,dV,eJ,cA,cI,bP,iV,mn,mo,iW,rj,mp,mq,mr,fd,jc,mC,eW⟩ jm xr
 try dsimp only at jm
 refine zG (sR fL2 Z (oM Z mp (oR Z (yN Z Z Z) (eN ?_))))
 by_cases cJ:0 < jF
 have oI:=jm;rw [if_pos cJ] at oI;replace cJ:=zF cJ
 refine cT Z cJ (kN (zT (sR (wGc gAt) Z (oM Z iV (oR Z (zJ Z iW zk Z zS) (oL Z (jc.ldB (j:=3) Z Z Z zc (v:=.slice ap an.length av) Z) (oR Z (za Z Z zA) ?_)))))))
 have q:=bnd oI
 obtain ⟨⟨bm,jH⟩,tf,oJ⟩:=q
 try dsimp only at oJ
 refine zL 1 Z Z Z Z (zK Z Z yQ (zB Z (zB Z zM)) Z) jc (fun hs=>wAZ (⟨e8,jD,jE⟩:wAE) ah dV eJ (↑an.length:Int) qk ln hs mC tf) (.inl Z) ?_
 rintro dD Bh BO ql dd wk ⟨jZ,lY,rfl,rfl,tg⟩
 let ax:Res:=.blk ao 43 [jV (w64 ((w64 (9 * (↑am:Int))) + aw)),.slice ap an.length av,.slice cA cS.length cI]
 let az:Res:=.row cA cI 46 3 bP
 let j8:Res:=.blk ah 100 [.slice jZ jH.bytes.length lY,jV jH.next,.int .u32 jH.state]
 have wl:SW w [B1] U dD [j8,ak,az,ax,B2,B7,B6,.blk b3 28 B0] ql:=wk
 let il:List Value:=[jV bm,.slice none 0 0,.slice none 0 0]
 refine oR Z (ZH (pv:=[(0,jV bm)]) (z:=B9) (cs:=il) Z (wAC Z wAM) ZT wFS Z Z) (zz (cs:=B9) Z Z Z Z Z ZT Z wl ?_)
 intro Br bj wm
 refine zu (j:=0) (vs:=il) Z Z Z Z wm Z Z Z Z ZJ (zC Z) Z Z Z ?_
 intro qm wn
 have wo:SW w [B1] U dD [.blk bj 46 il,j8,ak,az,ax,B2,B7,B6,.blk b3 28 B0] qm:=wn
 refine eN (zG (sR fL1 Z (oA Z Z (eN (zT (CK.iter (fun (aZ,a7,cU,dQ,dR,po,jI) σ_ w_=>∃ (U_:PHeap) (bg:Option Addr) (bE:Nat) (au:Option Addr) (ba:Nat) (bV:List Value) (bX:Option Addr) (ci:Nat),σ_ 0=.pointer (some ⟨ah,0,none⟩)/\σ_ 6=.pointer (some ⟨b3,0,none⟩)/\σ_ 7=.pointer (some ⟨bi,0,none⟩)/\σ_ 9=.pointer (some ⟨ao,0,none⟩)/\σ_ 10=jV bu/\σ_ 11=jV po/\σ_ 12=.pointer (some ⟨bj,0,none⟩)/\σ_ 13=jV jI/\σ_ 22=jV bQ/\σ_ 23=jV (↑am:Int)/\PHeap.Le dD U_/\SW w [B1] U U_ [.row bg bE 3 1 (hM KL.encI aZ),.row au ba 47 1 bV,.blk bj 46 [jV bm,.slice bg aZ.length bE,.slice au a7.length ba],.blk ah 100 [.slice bX cU.length ci,jV dQ,.int .u32 dR],.row ap av 3 1 (hM KL.encI an),az,ax,.row bb be 3 1 (hM KL.encI x6.Classes),B7,B6,.blk b3 28 B0] w_/\RlT dD U_ wIw a7 bV/\Sl U_ 1 bX ci cU.length (hM KL.encB8 cU)) oJ ?_ ?_))))))
 have wr:=wo.nilrow 3 1
 have wt:=wr.nilrow 47 1
 exact ⟨dD,none,0,none,0,[],jZ,lY,iV,mn,mo,iW,rj,mp,rfl,rfl,mq,mr,(zH _),(wt.pick [1,0,2,3,4,5,6,7,8,9,10] _ (by decide) rfl),RlT.nil,tg⟩
 rintro ⟨aZ,a7,cU,dQ,dR,po,jI⟩ BZ Ci dG ⟨lq,bg,bE,au,ba,bV,bX,ci,dL,gi,eS,cM,eT,eU,cN,gj,gm,gq,bz,cP,dv,i6⟩ jo oa
 try dsimp only at jo
 refine zG (sR fL9 Z (oM Z gj (oR Z (zJ Z eS ze Z ZG) (oR Z (zJ Z Z zy Z zD) (oL Z (cP.ldB (j:=9) Z Z Z zP (v:=jV x6.Laps) Z) (oR Z (zU Z Z Z) (oM Z Z ?_)))))))
 by_cases bF:jI < x6.Laps
 have oO:=jo;rw [if_pos bF] at oO;replace bF:=zF bF
 refine zj Z Z Z (wT Z bF) Z eU (rU Z (wT Z bF) (yN Z Z Z) (oR Z (zV Z (Zj bF.out) Z) (eN (ifc oO ?_ ?_))))
 intro iN xW
 refine cT Z iN (kN (zG (zT (zG (ZY ZP [3,1004,3,3,1005,3,2,0,3,0,ah] (wGc gAz) (by kernel_rfl) ?_)))))
 have jd:=cP.drew
 generalize hw_W645:({ dG with drawn:=dG.drawn + 1 }:World)=lD at jd ⊢
 refine oR Z (zJ Z cN ZB Z zS) ?_
 let dY:Res:=.blk bj 46 [jV bm,.slice bg aZ.length bE,.slice au a7.length ba]
 let bG:Res:=.row au ba 47 1 bV
 let fJ:Res:=.row bg bE 3 1 (hM KL.encI aZ)
 refine OKS.mt (T:=[ah]) [3] [0,1,2,4,5,6,7,8,9,10] [fJ,bG,dY,ak,az,ax,B2,B7,B6,.blk b3 28 B0] rfl rfl rfl rfl jd rfl ⟨⟨3,by decide,_,rfl,rfl⟩,trivial⟩ (by decide) rfl (by decide) (fun _ xn=>(xn.ldB (j:=2) rfl rfl rfl zc (v:=.slice bg aZ.length bE) rfl)) rfl (zj rfl rfl rfl rfl rfl eT (zj rfl rfl rfl rfl rfl dL ?_))
 have q:=bnd xW
 obtain ⟨⟨fm,gX⟩,tl,oP⟩:=q
 try dsimp only at oP
 have wv:SW w [B1] U lq [.blk ah 100 [.slice bX cU.length ci,jV dQ,.int .u32 dR],fJ,bG,dY,ak,az,ax,B2,B7,B6,.blk b3 28 B0] lD:=jd.pick [3,0,1,2,4,5,6,7,8,9,10] _ (by decide) rfl
 refine OKS.callHT 1 rfl rfl rfl rfl (zK rfl rfl yQ (zB rfl (zB rfl zM)) rfl) wv (fun hs=>wAZ (⟨cU,dQ,dR⟩:wAE) ah bX ci 200 lD lq hs i6 tl) rfl (T:=[ah]) rfl ⟨fun b h=>(by cases h;exact .head _),trivial⟩ ?_
 rintro dr Bj BQ qo dN ww ⟨ii,iO,rfl,rfl,mD⟩
 let dZ:Res:=.blk ah 100 [.slice ii gX.bytes.length iO,jV gX.next,.int .u32 gX.state]
 have wy:SW w [B1] U dr [dZ,fJ,bG,dY,ak,az,ax,B2,B7,B6,.blk b3 28 B0] qo:=ww
 refine oR Z (zX Z Z Z) (zW (pv:=[(0,jV (w64 (bu + fm)))]) (zs:=[jV 0]) (cs:=[jV (w64 (bu + fm))]) Z Z Z Z Z (wAC Z wAM) zA zD zt Z Z Z Z Z wy ?_)
 intro qp qH wz
 let bR:Res:=.row (some ⟨qH,0,none⟩) 1 3 1 (hM KL.encI [w64 (bu + fm)])
 have n2:SW w [B1] U dr [bR,dZ,fJ,bG,dY,ak,az,ax,B2,B7,B6,.blk b3 28 B0] qp:=wz
 refine bnK oP fun fq tp xX=>Zs (j:=2) (enc:=KL.encI) (xs:=aZ) (ys:=[w64 (bu + fm)]) (zs:=fq) rfl rfl rfl rfl rfl Zi wFA rfl rfl rfl rfl rfl rfl n2 rfl rfl rfl (n2.srcR (j:=0) rfl (by decide) (wAF (f:=KL.encI) (sz:=1) (fun _=>rfl) [w64 (bu + fm)])) (fun _=>rfl) (fun _=>rfl) tp rfl ?_
 intro dA dJ qq wA
 let bY:Res:=.row dA dJ 3 1 (hM KL.encI fq)
 have wC:SW w [B1] U dr [bR,dZ,bY,bG,dY,ak,az,ax,B2,B7,B6,.blk b3 28 B0] qq:=wA
 refine oR Z (zJ Z cN ZB Z zS) (zu (j:=4) (vs:=[.slice dA fq.length dJ]) Z Z Z Z wC Z Z Z Z zS (zC Z) Z Z Z ?_)
 intro iG wD
 let dn:Res:=.blk bj 46 [jV bm,.slice dA fq.length dJ,.slice au a7.length ba]
 have n3:SW w [B1] U dr [bR,dZ,bY,bG,dn,ak,az,ax,B2,B7,B6,.blk b3 28 B0] iG:=wD
 refine eN (zG (sR fL2 Z (oM Z gj (oR Z (yN Z Z Z) (eN (ifc xX ?_ ?_))))))
 intro iP xY
 refine cT Z iP (ZY ZP [3,1004,3,1005,2,0,3,0,ah] (wDE gAw) (by kernel_rfl) ?_)
 have je:=n3.drew
 generalize hw_W733:({ iG with drawn:=iG.drawn + 1 }:World)=lE at je ⊢
 refine zh rfl rfl rfl rfl (fun _=>zJ rfl cN ZB rfl yK) (OKS.mt (T:=[ah]) [1] [0,2,3,4,5,6,7,8,9,10,11] [bR,bY,bG,dn,ak,az,ax,B2,B7,B6,.blk b3 28 B0] rfl rfl rfl rfl je rfl ⟨⟨1,by decide,_,rfl,rfl⟩,trivial⟩ (by decide) rfl (by decide) (fun _ xo=>(xo.ldB (j:=3) rfl rfl rfl yu (v:=.slice au a7.length ba) rfl)) rfl (zj rfl rfl rfl rfl rfl dL ?_))
 have q:=bnd xY
 obtain ⟨⟨cy,jJ⟩,tq,oQ⟩:=q
 try dsimp only at oQ
 have wE:SW w [B1] U dr [dZ,bR,bY,bG,dn,ak,az,ax,B2,B7,B6,.blk b3 28 B0] lE:=je.pick [1,0,2,3,4,5,6,7,8,9,10,11] _ (by decide) rfl
 refine OKS.callHT 1 rfl rfl rfl rfl (zK rfl rfl Tryz.call29 (zB rfl zM) rfl) wE (fun hs=>wEU gX ah ii iO lE dr hs mD tq) rfl (T:=[ah]) rfl ⟨fun b h=>(by cases h;exact .head _),trivial⟩ ?_
 rintro pE Bk BR lG gH wG ⟨di,eK,j5,l4,rfl,rfl,tr⟩
 let d7:Res:=.blk ah 100 [.slice j5 jJ.bytes.length l4,jV jJ.next,.int .u32 jJ.state]
 have wH:SW w [B1] U pE [.row di eK 4 1 (hM KL.encT cy),d7,bR,bY,bG,dn,ak,az,ax,B2,B7,B6,.blk b3 28 B0] lG:=wG
 have q:=wH.freezeRP (k:=0) rfl
 obtain ⟨cc,gI,mP,ui,wJ⟩:=q
 have Aj:=mP.sl (n:=cy.length) (wAF (f:=KL.encT) (sz:=1) (fun _=>rfl) cy) (by decide)
 have wK:SW w [B1] U cc [d7,bR,bY,bG,dn,ak,az,ax,B2,B7,B6,.blk b3 28 B0] lG:=wJ
 let cC:List Value:=[.slice di cy.length eK]
 refine zW (pv:=[(0,.slice di cy.length eK)]) (zs:=[.slice none 0 0]) (cs:=cC) Z Z Z Z Z (wAC Z wAM) ZZ Zt Tryz.zeroValue47 Z Z Z Z Z wK ?_
 intro qr qI wI
 have o0:RlL cc wFi [cy] cC:=(RlL.cons (R:=wFi) (x:=cy) (vs:=cC) ⟨di,eK,rfl,Aj⟩ RlL.nil)
 have uj:Ows _ cc (bks di):=(ui.le (zH _)).perm (by intro b;first | rfl | (simp only [nE,nH];omega))
 have xC:wIw.f cc cy cC (bks di):=⟨di,eK,rfl,(mP.le (zH _)),rfl⟩
 let im:Res:=.row (some ⟨qI,0,none⟩) 1 47 1 cC
 have n4:SW w [B1] U cc [im,d7,bR,bY,bG,dn,ak,az,ax,B2,B7,B6,.blk b3 28 B0] qr:=wI
 refine bnK oQ fun gZ tt xZ=>?_
 have tu:=dv.le dN
 have tv:=tu.le gH
 have tw:=tv.le gI
 refine yU (R:=wFi) (j:=4) (xs:=a7) (ys:=[cy]) (zs:=gZ) rfl rfl rfl rfl rfl Tryz.underlying44 wMI rfl rfl rfl rfl rfl rfl rfl n4 rfl rfl rfl (tw).toL o0 (n4.srcR (j:=0) rfl (by decide) (RlL.len o0)) tt rfl ?_
 intro fC fU qs wL Bz AG
 have Aw:RlT dD cc wIw gZ (bV ++ cC):=by rw [AG];exact RlT.snoc dv xC uj bz (dN.trans gH) ((dN.trans gH).trans gI)
 let k5:Res:=.row fC fU 47 1 (bV ++ cC)
 have wM:SW w [B1] U cc [im,d7,bR,bY,k5,dn,ak,az,ax,B2,B7,B6,.blk b3 28 B0] qs:=wL
 refine oR Z (zJ Z cN ZB Z yK) (zu (j:=5) (vs:=[.slice fC gZ.length fU]) Z Z Z Z wM Z Z Z Z yK (zC Z) Z Z Z ?_)
 intro qt wN
 have wO:SW w [B1] U cc [im,d7,bR,bY,k5,.blk bj 46 [jV bm,.slice dA fq.length dJ,.slice fC gZ.length fU],ak,az,ax,B2,B7,B6,.blk b3 28 B0] qt:=wN
 refine eN (rR fL3 Z (oM Z eU (oR Z (Zx Z Z Z) (oA Z Z (zg (zb (zI (rR fL3 Z (oM Z gj (oR Z (zX Z Z Z) (oA Z Z (zg ?_))))))))))))
 have q:=nA xZ
 obtain rfl:=q
 have tA:=tr.le gI
 exact zI ⟨rfl,_,rfl,⟨cc,dA,dJ,fC,fU,(bV ++ cC),j5,l4,dL,gi,eS,cM,eT,rfl,cN,rfl,gm,gq,(((bz.trans dN).trans gH).trans gI),(wO.pick [3,4,5,1,6,7,8,9,10,11,12] _ (by decide) rfl),Aw,tA⟩⟩
 intro iP x8
 refine cF Z iP (kN (rR fL3 Z (oM Z eU (oR Z (Zx Z Z Z) (oA Z Z (zg (zb (zI (rR fL3 Z (oM Z gj (oR Z (zX Z Z Z) (oA Z Z (zg ?_)))))))))))))
 have q:=nA x8
 obtain rfl:=q
 have tB:=dv.le dN
 exact zI ⟨rfl,_,rfl,⟨dr,dA,dJ,au,ba,bV,ii,iO,dL,gi,eS,cM,eT,rfl,cN,rfl,gm,gq,(bz.trans dN),(n3.pick [2,3,4,1,5,6,7,8,9,10,11] _ (by decide) rfl),tB,mD⟩⟩
 intro iN yy
 refine cF Z iN (ZI (zY ?_))
 have q:=wAf yy
 obtain ⟨AS,yz,qS⟩:=q
 have q:=oa AS qS
 obtain rfl:=q
 refine zY (ZD (zI (rR (wDE gAu) Z (oR Z (zJ Z cM zk Z Zd) (oL Z (cP.ldB (j:=6) Z Z Z yE (v:=.slice cA cS.length cI) Z) ?_)))))
 let bn:List Value:=[jV bm,.slice bg aZ.length bE,.slice au a7.length ba]
 refine oL Z (cP.ldBA (j:=2) Z Z cN yP ZJ (vs:=bn) Z Z) ?_
 have q:=cP.freezeRP (k:=0) rfl
 obtain ⟨pF,de,mQ,uk,wQ⟩:=q
 have Ak:=mQ.sl (n:=aZ.length) (wAF (f:=KL.encI) (sz:=1) (fun _=>rfl) aZ) (by decide)
 let d8:Res:=.blk ah 100 [.slice bX cU.length ci,jV dQ,.int .u32 dR]
 have wR:SW w [B1] U pF [.row au ba 47 1 bV,.blk bj 46 bn,d8,ak,az,ax,B2,B7,B6,.blk b3 28 B0] dG:=wQ
 have mE:=dv.le de
 have q:=wR.freezeRP (k:=0) rfl
 obtain ⟨bL,cr,mR,ul,wS⟩:=q
 have Al:SlR bL wFi au ba a7:=⟨_,mR.sl (RlL.len (mE).toL) (by decide),RlL.le (mE).toL cr⟩
 have wU:SW w [B1] U bL [.blk bj 46 bn,d8,ak,az,ax,B2,B7,B6,.blk b3 28 B0] dG:=wS
 refine zW (pv:=[(0,.agg bn.toArray)]) (zs:=B9) (cs:=bn) Z Z Z Z Z (wAC Z wAM) ZM ZJ ZT Z Z Z Z Z wU ?_
 intro qu qJ wP
 have tC:=Ak.le cr
 have o3:RlL bL wFe [(⟨bm,aZ,a7⟩:wAA)] bn:=(RlL.cons (R:=wFe) (x:=(⟨bm,aZ,a7⟩:wAA)) (vs:=bn) ⟨bg,bE,au,ba,rfl,tC,Al⟩ RlL.nil)
 obtain ⟨gA,ry,pd⟩:=dv
 have tY:SlF bL wIw au ba a7 (gA ++ bks au):=by have g:=(ry.up (pd.stay (de.trans cr)));exact ⟨_,_,(mR.le (zH _)).sl (RlL.len g.toL) (by decide),g,rfl⟩
 have um:Ows _ bL (bks bg ++ (gA ++ bks au)):=(((pd.cat uk bz (zH _) de).cat ul (bz.trans de) (zH _) cr).le (zH _)).perm (by intro b;first | rfl | (simp only [nE,nH];omega))
 have xD:wIZ.f bL (⟨bm,aZ,a7⟩:wAA) bn (bks bg ++ (gA ++ bks au)):=⟨bg,bE,au,ba,(gA ++ bks au),rfl,(mQ.le cr),tY,rfl⟩
 let io:Res:=.row (some ⟨qJ,0,none⟩) 1 46 3 bn
 have n5:SW w [B1] U bL [io,.blk bj 46 bn,d8,ak,az,ax,B2,B7,B6,.blk b3 28 B0] qu:=wP
 refine bnK yz fun g8 tD z6=>?_
 have tE:=eW.le dd
 have tF:=tE.le bz
 have tG:=tF.le de
 have tH:=tG.le cr
 refine yU (R:=wFe) (j:=4) (xs:=cS) (ys:=[(⟨bm,aZ,a7⟩:wAA)]) (zs:=g8) rfl rfl rfl rfl rfl Tryz.underlying41 wJL rfl rfl rfl rfl rfl rfl rfl n5 rfl rfl rfl (tH).toL o3 (n5.srcR (j:=0) rfl (by decide) (RlL.len o3)) tD rfl ?_
 intro fD fV qv wV BA AH
 have Ax:RlT cE bL wIZ g8 (bP ++ bn):=by rw [AH];exact RlT.snoc eW xD um fd dd (((dd.trans bz).trans de).trans cr)
 let k6:Res:=.row fD fV 46 3 (bP ++ bn)
 have wW:SW w [B1] U bL [io,.blk bj 46 bn,d8,ak,k6,ax,B2,B7,B6,.blk b3 28 B0] qv:=wV
 refine oR Z (zJ Z cM zk Z Zd) (zu (j:=5) (vs:=[.slice fD g8.length fV]) Z Z Z Z wW Z Z Z Z Zd (zC Z) Z Z Z ?_)
 intro qw wX
 have wY:SW w [B1] U bL [io,.blk bj 46 bn,d8,ak,k6,.blk ao 43 [jV (w64 ((w64 (9 * (↑am:Int))) + aw)),.slice ap an.length av,.slice fD g8.length fV],B2,B7,B6,.blk b3 28 B0] qw:=wX
 refine zg (zb ?_)
 have q:=nA z6
 obtain rfl:=q
 have tI:=i6.le de
 have tJ:=tI.le cr
 exact zI ⟨rfl,_,rfl,⟨bL,bX,ci,fD,fV,(bP ++ bn),dL,gi,eS,cM,eT,eU,gm,gq,((((fd.trans dd).trans bz).trans de).trans cr),(wY.pick [2,3,4,5,6,7,8,9] _ (by decide) rfl),tJ,Ax⟩⟩
 have oS:=jo;rw [if_neg bF] at oS;replace bF:=zF bF
 refine oF Z bF (oF Z bF (oR Z (zZ Z (zw bF.out) Z) (eN (zm Z (ZI (zY ?_))))))
 have q:=wAf oS
 obtain ⟨AT,z7,qT⟩:=q
 have q:=oa AT qT
 obtain rfl:=q
 refine zY (ZD (zI (rR (wDE gAu) Z (oR Z (zJ Z cM zk Z Zd) (oL Z (cP.ldB (j:=6) Z Z Z yE (v:=.slice cA cS.length cI) Z) ?_)))))
 let bp:List Value:=[jV bm,.slice bg aZ.length bE,.slice au a7.length ba]
 refine oL Z (cP.ldBA (j:=2) Z Z cN yP ZJ (vs:=bp) Z Z) ?_
 have q:=cP.freezeRP (k:=0) rfl
 obtain ⟨pG,df,mS,uo,w5⟩:=q
 have Am:=mS.sl (n:=aZ.length) (wAF (f:=KL.encI) (sz:=1) (fun _=>rfl) aZ) (by decide)
 let d9:Res:=.blk ah 100 [.slice bX cU.length ci,jV dQ,.int .u32 dR]
 have w6:SW w [B1] U pG [.row au ba 47 1 bV,.blk bj 46 bp,d9,ak,az,ax,B2,B7,B6,.blk b3 28 B0] dG:=w5
 have mF:=dv.le df
 have q:=w6.freezeRP (k:=0) rfl
 obtain ⟨bM,ct,mT,uq,w7⟩:=q
 have An:SlR bM wFi au ba a7:=⟨_,mT.sl (RlL.len (mF).toL) (by decide),RlL.le (mF).toL ct⟩
 have w8:SW w [B1] U bM [.blk bj 46 bp,d9,ak,az,ax,B2,B7,B6,.blk b3 28 B0] dG:=w7
 refine zW (pv:=[(0,.agg bp.toArray)]) (zs:=B9) (cs:=bp) Z Z Z Z Z (wAC Z wAM) ZM ZJ ZT Z Z Z Z Z w8 ?_
 intro qx qK wZ
 have tK:=Am.le ct
 have o5:RlL bM wFe [(⟨bm,aZ,a7⟩:wAA)] bp:=(RlL.cons (R:=wFe) (x:=(⟨bm,aZ,a7⟩:wAA)) (vs:=bp) ⟨bg,bE,au,ba,rfl,tK,An⟩ RlL.nil)
 obtain ⟨gB,rz,pe⟩:=dv
 have tZ:SlF bM wIw au ba a7 (gB ++ bks au):=by have g:=(rz.up (pe.stay (df.trans ct)));exact ⟨_,_,(mT.le (zH _)).sl (RlL.len g.toL) (by decide),g,rfl⟩
 have ur:Ows _ bM (bks bg ++ (gB ++ bks au)):=(((pe.cat uo bz (zH _) df).cat uq (bz.trans df) (zH _) ct).le (zH _)).perm (by intro b;first | rfl | (simp only [nE,nH];omega))
 have xE:wIZ.f bM (⟨bm,aZ,a7⟩:wAA) bp (bks bg ++ (gB ++ bks au)):=⟨bg,bE,au,ba,(gB ++ bks au),rfl,(mS.le ct),tZ,rfl⟩
 let ip:Res:=.row (some ⟨qK,0,none⟩) 1 46 3 bp
 have n7:SW w [B1] U bM [ip,.blk bj 46 bp,d9,ak,az,ax,B2,B7,B6,.blk b3 28 B0] qx:=wZ
 refine bnK z7 fun g9 tL z8=>?_
 have tM:=eW.le dd
 have tN:=tM.le bz
 have tO:=tN.le df
 have tP:=tO.le ct
 refine yU (R:=wFe) (j:=4) (xs:=cS) (ys:=[(⟨bm,aZ,a7⟩:wAA)]) (zs:=g9) rfl rfl rfl rfl rfl Tryz.underlying41 wJL rfl rfl rfl rfl rfl rfl rfl n7 rfl rfl rfl (tP).toL o5 (n7.srcR (j:=0) rfl (by decide) (RlL.len o5)) tL rfl ?_
 intro fE fW qy w9 BB AI
 have Ay:RlT cE bM wIZ g9 (bP ++ bp):=by rw [AI];exact RlT.snoc eW xE ur fd dd (((dd.trans bz).trans df).trans ct)
 let k8:Res:=.row fE fW 46 3 (bP ++ bp)
 have xa:SW w [B1] U bM [ip,.blk bj 46 bp,d9,ak,k8,ax,B2,B7,B6,.blk b3 28 B0] qy:=w9
 refine oR Z (zJ Z cM zk Z Zd) (zu (j:=5) (vs:=[.slice fE g9.length fW]) Z Z Z Z xa Z Z Z Z Zd (zC Z) Z Z Z ?_)
 intro qz xb
 have xc:SW w [B1] U bM [ip,.blk bj 46 bp,d9,ak,k8,.blk ao 43 [jV (w64 ((w64 (9 * (↑am:Int))) + aw)),.slice ap an.length av,.slice fE g9.length fW],B2,B7,B6,.blk b3 28 B0] qz:=xb
 refine zg (zb ?_)
 have q:=nA z8
 obtain rfl:=q
 have tQ:=i6.le df
 have tR:=tQ.le ct
 exact zI ⟨rfl,_,rfl,⟨bM,bX,ci,fE,fW,(bP ++ bp),dL,gi,eS,cM,eT,eU,gm,gq,((((fd.trans dd).trans bz).trans df).trans ct),(xc.pick [2,3,4,5,6,7,8,9] _ (by decide) rfl),tR,Ay⟩⟩
 have oV:=jm;rw [if_neg cJ] at oV;replace cJ:=zF cJ
 refine cF Z cJ (ZI (zY ?_))
 have q:=wAf oV
 obtain ⟨AU,Aa,qU⟩:=q
 have q:=xr AU qU
 obtain rfl:=q
 refine zY (ZD ?_)
 cases Aa
 exact zI ⟨Z,⟨ln,dV,eJ,cA,cI,bP,iV,mn,mo,iW,mq,mr,fd,jc,mC,eW⟩⟩
 rintro Cj lH ⟨Bm,dU,eI,bw,ch,gb,rk,rl,iX,rn,ro,rp,fe,jf,tS,mG⟩
 refine rR (wDE gAu) Z (oR Z (zJ Z iX ze Z ZU) (oL Z (jf.ldB (j:=6) Z Z Z Zn (v:=.slice dm cV.length dt) Z) ?_))
 let bq:List Value:=[jV (w64 ((w64 (9 * (↑am:Int))) + aw)),.slice ap an.length av,.slice bw cm.length ch]
 refine oL Z (jf.ldBA (j:=3) Z Z rn yC ZE (vs:=bq) Z Z) ?_
 have q:=jf.freezeRP (k:=1) rfl
 obtain ⟨pH,dg,mU,ut,xe⟩:=q
 have Ao:=mU.sl (n:=an.length) (wAF (f:=KL.encI) (sz:=1) (fun _=>rfl) an) (by decide)
 let ea:Res:=.blk ah 100 [.slice dU gz.length eI,jV pm,.int .u32 pn]
 have xf:SW w [B1] U pH [ea,.row bw ch 46 3 gb,.blk ao 43 bq,B2,B7,B6,.blk b3 28 B0] lH:=xe
 have mH:=mG.le dg
 have q:=xf.freezeRP (k:=1) rfl
 obtain ⟨bN,cu,mV,uu,xg⟩:=q
 have Ap:SlR bN wFe bw ch cm:=⟨_,mV.sl (RlL.len (mH).toL) (by decide),RlL.le (mH).toL cu⟩
 have xh:SW w [B1] U bN [ea,.blk ao 43 bq,B2,B7,B6,.blk b3 28 B0] lH:=xg
 refine zW (pv:=[(0,.agg bq.toArray)]) (zs:=B9) (cs:=bq) Z Z Z Z Z (wAC Z wAM) ZC ZE Zb Z Z Z Z Z xh ?_
 intro qA qL xd
 have tT:=Ao.le cu
 have o6:RlL bN wFF [(⟨w64 ((w64 (9 * (↑am:Int))) + aw),an,cm⟩:wAD)] bq:=(RlL.cons (R:=wFF) (x:=(⟨w64 ((w64 (9 * (↑am:Int))) + aw),an,cm⟩:wAD)) (vs:=bq) ⟨ap,av,bw,ch,rfl,tT,Ap⟩ RlL.nil)
 obtain ⟨gC,rC,pf⟩:=mG
 have t2:SlF bN wIZ bw ch cm (gC ++ bks bw):=by have g:=(rC.up (pf.stay (dg.trans cu)));exact ⟨_,_,(mV.le (zH _)).sl (RlL.len g.toL) (by decide),g,rfl⟩
 have uv:Ows _ bN (bks ap ++ (gC ++ bks bw)):=(((pf.cat ut fe (zH _) dg).cat uu (fe.trans dg) (zH _) cu).le (zH _)).perm (by intro b;first | rfl | (simp only [nE,nH];omega))
 have xF:wME.f bN (⟨w64 ((w64 (9 * (↑am:Int))) + aw),an,cm⟩:wAD) bq (bks ap ++ (gC ++ bks bw)):=⟨ap,av,bw,ch,(gC ++ bks bw),rfl,(mU.le cu),t2,rfl⟩
 let ir:Res:=.row (some ⟨qL,0,none⟩) 1 43 3 bq
 have n8:SW w [B1] U bN [ir,ea,.blk ao 43 bq,B2,B7,B6,.blk b3 28 B0] qA:=xd
 refine bnK oH fun ib tU Ab=>?_
 have rD:=gr.le cX
 have rE:=rD.le c7
 have rF:=rE.le c9
 have rG:=rF.le da
 have rH:=rG.le db
 have rI:=rH.le gG
 have rJ:=rI.le fe
 have rK:=rJ.le dg
 have rL:=rK.le cu
 refine yU (R:=wFF) (j:=4) (xs:=cV) (ys:=[(⟨w64 ((w64 (9 * (↑am:Int))) + aw),an,cm⟩:wAD)]) (zs:=ib) rfl rfl rfl rfl rfl Tryz.underlying26 wKb rfl rfl rfl rfl rfl rfl rfl n8 rfl rfl rfl (rL).toL o6 (n8.srcR (j:=0) rfl (by decide) (RlL.len o6)) tU rfl ?_
 intro ft fN pI ux Bt AB
 have Aq:RlT dE bN wME ib (bT ++ bq):=by rw [AB];exact RlT.snoc gr xF uv gD (((((cX.trans c7).trans c9).trans da).trans db).trans gG) ((((((((cX.trans c7).trans c9).trans da).trans db).trans gG).trans fe).trans dg).trans cu)
 let k9:Res:=.row ft fN 43 3 (bT ++ bq)
 have uy:SW w [B1] U bN [ir,ea,.blk ao 43 bq,B2,k9,B6,.blk b3 28 B0] pI:=ux
 refine oR Z (zJ Z iX ze Z ZU) (zu (j:=5) (vs:=[.slice ft ib.length fN]) Z Z Z Z uy Z Z Z Z ZU (zC Z) Z Z Z ?_)
 intro pJ uz
 have uA:SW w [B1] U bN [ir,ea,.blk ao 43 bq,B2,k9,.blk bi 28 [.slice bb x6.Classes.length be,jV x6.Each,jV x6.Laps,jV x6.Spare,jV x6.Loop,jV x6.Unused,jV dx,.slice ft ib.length fN],.blk b3 28 B0] pJ:=uz
 refine zg (zb (zI (rR fL2 Z (oR Z (zn (zX Z rp Z) (congrArg (jV) oc.out)) (oM Z Z (zg ?_))))))
 cases Ab
 have rM:=tS.le dg
 have rN:=rM.le cu
 exact zI ⟨rfl,⟨bN,dU,eI,ft,fN,(bT ++ bq),rfl,rk,rl,iX,ro,(((((((((gD.trans cX).trans c7).trans c9).trans da).trans db).trans gG).trans fe).trans dg).trans cu),(uA.pick [1,3,4,5,6] _ (by decide) rfl),rN,Aq⟩⟩
 intro iM xH
 refine zm (congrArg nB (nD.2 iM.out)) (kN ?_)
 have q:=bnd xH
 obtain ⟨⟨gv,pg,ph,cj⟩,Az,oe⟩:=q
 try dsimp only at oe
 refine CK.cut (fun σ_ w_=>∃ (U_:PHeap) (dS:Option Addr) (eD:Nat) (bv:Option Addr) (cd:Nat) (fZ:List Value),σ_ 0=.pointer (some ⟨ah,0,none⟩)/\σ_ 6=.pointer (some ⟨b3,0,none⟩)/\σ_ 7=.pointer (some ⟨bi,0,none⟩)/\σ_ 9=.pointer (some ⟨ao,0,none⟩)/\σ_ 22=jV bQ/\σ_ 23=jV (↑am:Int)/\PHeap.Le ca U_/\SW w [B1] U U_ [.blk ah 100 [.slice dS gv.length eD,jV pg,.int .u32 ph],.row ap av 3 1 (hM KL.encI an),.row bv cd 46 3 fZ,.blk ao 43 [jV (w64 ((w64 (9 * (↑am:Int))) + aw)),.slice ap an.length av,.slice bv cj.length cd],.row bb be 3 1 (hM KL.encI x6.Classes),B7,B6,.blk b3 28 B0] w_/\Sl U_ 1 dS eD gv.length (hM KL.encB8 gv)/\RlT ca U_ wIZ cj fZ) ?_ ?_
 refine zT (CK.iter (fun (eY,jr,jt,cQ,ju) σ_ w_=>∃ (U_:PHeap) (dT:Option Addr) (eG:Nat) (cz:Option Addr) (cG:Nat) (bO:List Value),σ_ 0=.pointer (some ⟨ah,0,none⟩)/\σ_ 6=.pointer (some ⟨b3,0,none⟩)/\σ_ 7=.pointer (some ⟨bi,0,none⟩)/\σ_ 9=.pointer (some ⟨ao,0,none⟩)/\σ_ 10=jV bu/\σ_ 11=jV ju/\σ_ 22=jV bQ/\σ_ 23=jV (↑am:Int)/\PHeap.Le ca U_/\SW w [B1] U U_ [.blk ah 100 [.slice dT eY.length eG,jV jr,.int .u32 jt],.row ap av 3 1 (hM KL.encI an),.row cz cG 46 3 bO,.blk ao 43 [jV (w64 ((w64 (9 * (↑am:Int))) + aw)),.slice ap an.length av,.slice cz cQ.length cG],.row bb be 3 1 (hM KL.encI x6.Classes),B7,B6,.blk b3 28 B0] w_/\Sl U_ 1 dT eG eY.length (hM KL.encB8 eY)/\RlT ca U_ wIZ cQ bO) Az ?_ ?_)
 have uB:=m9.nilrow 46 3
 exact ⟨ca,ig,iL,none,0,[],eR,mh,gh,mj,rfl,rfl,ml,mm,(zH _),(uB.pick [1,2,0,3,4,5,6,7] _ (by decide) rfl),mB,RlT.nil⟩
 rintro ⟨eY,jr,jt,cQ,ju⟩ BU Ca pK ⟨lj,dT,eG,cz,cG,bO,iQ,l7,l8,iR,qV,ma,mb,mc,fb,i7,mu,eV⟩ jk xq
 try dsimp only at jk
 refine zG (sR fL2 Z (oM Z ma (oR Z (yN Z Z Z) (eN ?_))))
 by_cases cH:0 < ju
 have og:=jk;rw [if_pos cH] at og;replace cH:=zF cH
 refine cT Z cH (kN (zT (sR (wGc gAt) Z (oM Z iQ (oR Z (zJ Z iR zk Z zS) (oL Z (i7.ldB (j:=3) Z Z Z zc (v:=.slice ap an.length av) Z) (oR Z (za Z Z zA) ?_)))))))
 have q:=bnd og
 obtain ⟨⟨bl,jv⟩,rP,oh⟩:=q
 try dsimp only at oh
 refine zL 1 Z Z Z Z (zK Z Z yQ (zB Z (zB Z zM)) Z) i7 (fun hs=>wAZ (⟨eY,jr,jt⟩:wAE) ah dT eG (↑an.length:Int) pK lj hs mu rP) (.inl Z) ?_
 rintro dC A5 BD pL cW uD ⟨jO,lK,rfl,rfl,rQ⟩
 let ay:Res:=.blk ao 43 [jV (w64 ((w64 (9 * (↑am:Int))) + aw)),.slice ap an.length av,.slice cz cQ.length cG]
 let aW:Res:=.row cz cG 46 3 bO
 let la:Res:=.blk ah 100 [.slice jO jv.bytes.length lK,jV jv.next,.int .u32 jv.state]
 have uE:SW w [B1] U dC [la,ak,aW,ay,B2,B7,B6,.blk b3 28 B0] pL:=uD
 let it:List Value:=[jV bl,.slice none 0 0,.slice none 0 0]
 refine oR Z (ZH (pv:=[(0,jV bl)]) (z:=B9) (cs:=it) Z (wAC Z wAM) ZT wFS Z Z) (zz (cs:=B9) Z Z Z Z Z ZT Z uE ?_)
 intro Bn bh uF
 refine zu (j:=0) (vs:=it) Z Z Z Z uF Z Z Z Z ZJ (zC Z) Z Z Z ?_
 intro pM uG
 have uH:SW w [B1] U dC [.blk bh 46 it,la,ak,aW,ay,B2,B7,B6,.blk b3 28 B0] pM:=uG
 refine eN (zG (sR fL1 Z (oA Z Z (eN (zT (CK.iter (fun (aX,aY,cR,dO,dP,pi,jw) σ_ w_=>∃ (U_:PHeap) (bf:Option Addr) (bC:Nat) (aq:Option Addr) (a8:Nat) (bU:List Value) (bW:Option Addr) (cg:Nat),σ_ 0=.pointer (some ⟨ah,0,none⟩)/\σ_ 6=.pointer (some ⟨b3,0,none⟩)/\σ_ 7=.pointer (some ⟨bi,0,none⟩)/\σ_ 9=.pointer (some ⟨ao,0,none⟩)/\σ_ 10=jV bu/\σ_ 11=jV pi/\σ_ 12=.pointer (some ⟨bh,0,none⟩)/\σ_ 13=jV jw/\σ_ 22=jV bQ/\σ_ 23=jV (↑am:Int)/\PHeap.Le dC U_/\SW w [B1] U U_ [.row bf bC 3 1 (hM KL.encI aX),.row aq a8 47 1 bU,.blk bh 46 [jV bl,.slice bf aX.length bC,.slice aq aY.length a8],.blk ah 100 [.slice bW cR.length cg,jV dO,.int .u32 dP],.row ap av 3 1 (hM KL.encI an),aW,ay,.row bb be 3 1 (hM KL.encI x6.Classes),B7,B6,.blk b3 28 B0] w_/\RlT dC U_ wIw aY bU/\Sl U_ 1 bW cg cR.length (hM KL.encB8 cR)) oh ?_ ?_))))))
 have uI:=uH.nilrow 3 1
 have uJ:=uI.nilrow 47 1
 exact ⟨dC,none,0,none,0,[],jO,lK,iQ,l7,l8,iR,qV,ma,rfl,rfl,mb,mc,(zH _),(uJ.pick [1,0,2,3,4,5,6,7,8,9,10] _ (by decide) rfl),RlT.nil,rQ⟩
 rintro ⟨aX,aY,cR,dO,dP,pi,jw⟩ BW Cc dF ⟨lk,bf,bC,aq,a8,bU,bW,cg,dK,gc,eM,cK,eP,eQ,cL,ge,gf,gg,bx,cO,du,iZ⟩ jl n9
 try dsimp only at jl
 refine zG (sR fL9 Z (oM Z ge (oR Z (zJ Z eM ze Z ZG) (oR Z (zJ Z Z zy Z zD) (oL Z (cO.ldB (j:=9) Z Z Z zP (v:=jV x6.Laps) Z) (oR Z (zU Z Z Z) (oM Z Z ?_)))))))
 by_cases bD:jw < x6.Laps
 have oq:=jl;rw [if_pos bD] at oq;replace bD:=zF bD
 refine zj Z Z Z (wT Z bD) Z eQ (rU Z (wT Z bD) (yN Z Z Z) (oR Z (zV Z (Zj bD.out) Z) (eN (ifc oq ?_ ?_))))
 intro iH xI
 refine cT Z iH (kN (zG (zT (zG (ZY ZP [3,1004,3,3,1005,3,2,0,3,0,ah] (wGc gAz) (by kernel_rfl) ?_)))))
 have i8:=cO.drew
 generalize hw_W1279:({ dF with drawn:=dF.drawn + 1 }:World)=lu at i8 ⊢
 refine oR Z (zJ Z cL ZB Z zS) ?_
 let eb:Res:=.blk bh 46 [jV bl,.slice bf aX.length bC,.slice aq aY.length a8]
 let bH:Res:=.row aq a8 47 1 bU
 let fK:Res:=.row bf bC 3 1 (hM KL.encI aX)
 refine OKS.mt (T:=[ah]) [3] [0,1,2,4,5,6,7,8,9,10] [fK,bH,eb,ak,aW,ay,B2,B7,B6,.blk b3 28 B0] rfl rfl rfl rfl i8 rfl ⟨⟨3,by decide,_,rfl,rfl⟩,trivial⟩ (by decide) rfl (by decide) (fun _ xi=>(xi.ldB (j:=2) rfl rfl rfl zc (v:=.slice bf aX.length bC) rfl)) rfl (zj rfl rfl rfl rfl rfl eP (zj rfl rfl rfl rfl rfl dK ?_))
 have q:=bnd xI
 obtain ⟨⟨fh,gJ⟩,rT,ot⟩:=q
 try dsimp only at ot
 have uL:SW w [B1] U lk [.blk ah 100 [.slice bW cR.length cg,jV dO,.int .u32 dP],fK,bH,eb,ak,aW,ay,B2,B7,B6,.blk b3 28 B0] lu:=i8.pick [3,0,1,2,4,5,6,7,8,9,10] _ (by decide) rfl
 refine OKS.callHT 1 rfl rfl rfl rfl (zK rfl rfl yQ (zB rfl (zB rfl zM)) rfl) uL (fun hs=>wAZ (⟨cR,dO,dP⟩:wAE) ah bW cg 200 lu lk hs iZ rT) rfl (T:=[ah]) rfl ⟨fun b h=>(by cases h;exact .head _),trivial⟩ ?_
 rintro dq A8 BE pO dM uM ⟨ic,iI,rfl,rfl,mw⟩
 let eh:Res:=.blk ah 100 [.slice ic gJ.bytes.length iI,jV gJ.next,.int .u32 gJ.state]
 have uN:SW w [B1] U dq [eh,fK,bH,eb,ak,aW,ay,B2,B7,B6,.blk b3 28 B0] pO:=uM
 refine oR Z (zX Z Z Z) (zW (pv:=[(0,jV (w64 (bu + fh)))]) (zs:=[jV 0]) (cs:=[jV (w64 (bu + fh))]) Z Z Z Z Z (wAC Z wAM) zA zD zt Z Z Z Z Z uN ?_)
 intro pP qB uO
 let bS:Res:=.row (some ⟨qB,0,none⟩) 1 3 1 (hM KL.encI [w64 (bu + fh)])
 have mW:SW w [B1] U dq [bS,eh,fK,bH,eb,ak,aW,ay,B2,B7,B6,.blk b3 28 B0] pP:=uO
 refine bnK ot fun fj rV xJ=>Zs (j:=2) (enc:=KL.encI) (xs:=aX) (ys:=[w64 (bu + fh)]) (zs:=fj) rfl rfl rfl rfl rfl Zi wFA rfl rfl rfl rfl rfl rfl mW rfl rfl rfl (mW.srcR (j:=0) rfl (by decide) (wAF (f:=KL.encI) (sz:=1) (fun _=>rfl) [w64 (bu + fh)])) (fun _=>rfl) (fun _=>rfl) rV rfl ?_
 intro dy dH pQ uP
 let bZ:Res:=.row dy dH 3 1 (hM KL.encI fj)
 have uQ:SW w [B1] U dq [bS,eh,bZ,bH,eb,ak,aW,ay,B2,B7,B6,.blk b3 28 B0] pQ:=uP
 refine oR Z (zJ Z cL ZB Z zS) (zu (j:=4) (vs:=[.slice dy fj.length dH]) Z Z Z Z uQ Z Z Z Z zS (zC Z) Z Z Z ?_)
 intro iC uR
 let dp:Res:=.blk bh 46 [jV bl,.slice dy fj.length dH,.slice aq aY.length a8]
 have mX:SW w [B1] U dq [bS,eh,bZ,bH,dp,ak,aW,ay,B2,B7,B6,.blk b3 28 B0] iC:=uR
 refine eN (zG (sR fL2 Z (oM Z ge (oR Z (yN Z Z Z) (eN (ifc xJ ?_ ?_))))))
 intro iJ xK
 refine cT Z iJ (ZY ZP [3,1004,3,1005,2,0,3,0,ah] (wDE gAw) (by kernel_rfl) ?_)
 have i9:=mX.drew
 generalize hw_W1367:({ iC with drawn:=iC.drawn + 1 }:World)=lv at i9 ⊢
 refine zh rfl rfl rfl rfl (fun _=>zJ rfl cL ZB rfl yK) (OKS.mt (T:=[ah]) [1] [0,2,3,4,5,6,7,8,9,10,11] [bS,bZ,bH,dp,ak,aW,ay,B2,B7,B6,.blk b3 28 B0] rfl rfl rfl rfl i9 rfl ⟨⟨1,by decide,_,rfl,rfl⟩,trivial⟩ (by decide) rfl (by decide) (fun _ xj=>(xj.ldB (j:=3) rfl rfl rfl yu (v:=.slice aq aY.length a8) rfl)) rfl (zj rfl rfl rfl rfl rfl dK ?_))
 have q:=bnd xK
 obtain ⟨⟨cw,jx⟩,rX,ov⟩:=q
 try dsimp only at ov
 have uS:SW w [B1] U dq [eh,bS,bZ,bH,dp,ak,aW,ay,B2,B7,B6,.blk b3 28 B0] lv:=i9.pick [1,0,2,3,4,5,6,7,8,9,10,11] _ (by decide) rfl
 refine OKS.callHT 1 rfl rfl rfl rfl (zK rfl rfl Tryz.call29 (zB rfl zM) rfl) uS (fun hs=>wEU gJ ah ic iI lv dq hs mw rX) rfl (T:=[ah]) rfl ⟨fun b h=>(by cases h;exact .head _),trivial⟩ ?_
 rintro pt Ba BH lw gE uT ⟨dh,eH,jP,lM,rfl,rfl,rY⟩
 let ep:Res:=.blk ah 100 [.slice jP jx.bytes.length lM,jV jx.next,.int .u32 jx.state]
 have uU:SW w [B1] U pt [.row dh eH 4 1 (hM KL.encT cw),ep,bS,bZ,bH,dp,ak,aW,ay,B2,B7,B6,.blk b3 28 B0] lw:=uT
 have q:=uU.freezeRP (k:=0) rfl
 obtain ⟨b4,gF,mI,t6,uW⟩:=q
 have Ac:=mI.sl (n:=cw.length) (wAF (f:=KL.encT) (sz:=1) (fun _=>rfl) cw) (by decide)
 have uX:SW w [B1] U b4 [ep,bS,bZ,bH,dp,ak,aW,ay,B2,B7,B6,.blk b3 28 B0] lw:=uW
 let cD:List Value:=[.slice dh cw.length eH]
 refine zW (pv:=[(0,.slice dh cw.length eH)]) (zs:=[.slice none 0 0]) (cs:=cD) Z Z Z Z Z (wAC Z wAM) ZZ Zt Tryz.zeroValue47 Z Z Z Z Z uX ?_
 intro pS qC uV
 have oW:RlL b4 wFi [cw] cD:=(RlL.cons (R:=wFi) (x:=cw) (vs:=cD) ⟨dh,eH,rfl,Ac⟩ RlL.nil)
 have t7:Ows _ b4 (bks dh):=(t6.le (zH _)).perm (by intro b;first | rfl | (simp only [nE,nH];omega))
 have xv:wIw.f b4 cw cD (bks dh):=⟨dh,eH,rfl,(mI.le (zH _)),rfl⟩
 let iu:Res:=.row (some ⟨qC,0,none⟩) 1 47 1 cD
 have mY:SW w [B1] U b4 [iu,ep,bS,bZ,bH,dp,ak,aW,ay,B2,B7,B6,.blk b3 28 B0] pS:=uV
 refine bnK ov fun gM rZ xL=>?_
 have r6:=du.le dM
 have r7:=r6.le gE
 have r8:=r7.le gF
 refine yU (R:=wFi) (j:=4) (xs:=aY) (ys:=[cw]) (zs:=gM) rfl rfl rfl rfl rfl Tryz.underlying44 wMI rfl rfl rfl rfl rfl rfl rfl mY rfl rfl rfl (r8).toL oW (mY.srcR (j:=0) rfl (by decide) (RlL.len oW)) rZ rfl ?_
 intro fu fO pT uZ Bu AC
 have Ar:RlT dC b4 wIw gM (bU ++ cD):=by rw [AC];exact RlT.snoc du xv t7 bx (dM.trans gE) ((dM.trans gE).trans gF)
 let lb:Res:=.row fu fO 47 1 (bU ++ cD)
 have u0:SW w [B1] U b4 [iu,ep,bS,bZ,lb,dp,ak,aW,ay,B2,B7,B6,.blk b3 28 B0] pT:=uZ
 refine oR Z (zJ Z cL ZB Z yK) (zu (j:=5) (vs:=[.slice fu gM.length fO]) Z Z Z Z u0 Z Z Z Z yK (zC Z) Z Z Z ?_)
 intro pU u7
 have u9:SW w [B1] U b4 [iu,ep,bS,bZ,lb,.blk bh 46 [jV bl,.slice dy fj.length dH,.slice fu gM.length fO],ak,aW,ay,B2,B7,B6,.blk b3 28 B0] pU:=u7
 refine eN (rR fL3 Z (oM Z eQ (oR Z (Zx Z Z Z) (oA Z Z (zg (zb (zI (rR fL3 Z (oM Z ge (oR Z (zX Z Z Z) (oA Z Z (zg ?_))))))))))))
 have q:=nA xL
 obtain rfl:=q
 have sa:=rY.le gF
 exact zI ⟨rfl,_,rfl,⟨b4,dy,dH,fu,fO,(bU ++ cD),jP,lM,dK,gc,eM,cK,eP,rfl,cL,rfl,gf,gg,(((bx.trans dM).trans gE).trans gF),(u9.pick [3,4,5,1,6,7,8,9,10,11,12] _ (by decide) rfl),Ar,sa⟩⟩
 intro iJ xM
 refine cF Z iJ (kN (rR fL3 Z (oM Z eQ (oR Z (Zx Z Z Z) (oA Z Z (zg (zb (zI (rR fL3 Z (oM Z ge (oR Z (zX Z Z Z) (oA Z Z (zg ?_)))))))))))))
 have q:=nA xM
 obtain rfl:=q
 have sb:=du.le dM
 exact zI ⟨rfl,_,rfl,⟨dq,dy,dH,aq,a8,bU,ic,iI,dK,gc,eM,cK,eP,rfl,cL,rfl,gf,gg,(bx.trans dM),(mX.pick [2,3,4,1,5,6,7,8,9,10,11] _ (by decide) rfl),sb,mw⟩⟩
 intro iH xN
 refine cF Z iH (ZI (zY ?_))
 have q:=wAf xN
 obtain ⟨AO,xO,qP⟩:=q
 have q:=n9 AO qP
 obtain rfl:=q
 refine zY (ZD (zI (rR (wDE gAu) Z (oR Z (zJ Z cK zk Z Zd) (oL Z (cO.ldB (j:=6) Z Z Z yE (v:=.slice cz cQ.length cG) Z) ?_)))))
 let br:List Value:=[jV bl,.slice bf aX.length bC,.slice aq aY.length a8]
 refine oL Z (cO.ldBA (j:=2) Z Z cL yP ZJ (vs:=br) Z Z) ?_
 have q:=cO.freezeRP (k:=0) rfl
 obtain ⟨pu,cY,mJ,t8,vc⟩:=q
 have Ad:=mJ.sl (n:=aX.length) (wAF (f:=KL.encI) (sz:=1) (fun _=>rfl) aX) (by decide)
 let ew:Res:=.blk ah 100 [.slice bW cR.length cg,jV dO,.int .u32 dP]
 have vd:SW w [B1] U pu [.row aq a8 47 1 bU,.blk bh 46 br,ew,ak,aW,ay,B2,B7,B6,.blk b3 28 B0] dF:=vc
 have mx:=du.le cY
 have q:=vd.freezeRP (k:=0) rfl
 obtain ⟨bI,co,mK,ua,ve⟩:=q
 have Ae:SlR bI wFi aq a8 aY:=⟨_,mK.sl (RlL.len (mx).toL) (by decide),RlL.le (mx).toL co⟩
 have vg:SW w [B1] U bI [.blk bh 46 br,ew,ak,aW,ay,B2,B7,B6,.blk b3 28 B0] dF:=ve
 refine zW (pv:=[(0,.agg br.toArray)]) (zs:=B9) (cs:=br) Z Z Z Z Z (wAC Z wAM) ZM ZJ ZT Z Z Z Z Z vg ?_
 intro pV qD vb
 have sc:=Ad.le co
 have oX:RlL bI wFe [(⟨bl,aX,aY⟩:wAA)] br:=(RlL.cons (R:=wFe) (x:=(⟨bl,aX,aY⟩:wAA)) (vs:=br) ⟨bf,bC,aq,a8,rfl,sc,Ae⟩ RlL.nil)
 obtain ⟨gw,ru,o9⟩:=du
 have tV:SlF bI wIw aq a8 aY (gw ++ bks aq):=by have g:=(ru.up (o9.stay (cY.trans co)));exact ⟨_,_,(mK.le (zH _)).sl (RlL.len g.toL) (by decide),g,rfl⟩
 have ub:Ows _ bI (bks bf ++ (gw ++ bks aq)):=(((o9.cat t8 bx (zH _) cY).cat ua (bx.trans cY) (zH _) co).le (zH _)).perm (by intro b;first | rfl | (simp only [nE,nH];omega))
 have xw:wIZ.f bI (⟨bl,aX,aY⟩:wAA) br (bks bf ++ (gw ++ bks aq)):=⟨bf,bC,aq,a8,(gw ++ bks aq),rfl,(mJ.le co),tV,rfl⟩
 let iv:Res:=.row (some ⟨qD,0,none⟩) 1 46 3 br
 have mZ:SW w [B1] U bI [iv,.blk bh 46 br,ew,ak,aW,ay,B2,B7,B6,.blk b3 28 B0] pV:=vb
 refine bnK xO fun gO sd xP=>?_
 have se:=eV.le cW
 have sf:=se.le bx
 have sg:=sf.le cY
 have sh:=sg.le co
 refine yU (R:=wFe) (j:=4) (xs:=cQ) (ys:=[(⟨bl,aX,aY⟩:wAA)]) (zs:=gO) rfl rfl rfl rfl rfl Tryz.underlying41 wJL rfl rfl rfl rfl rfl rfl rfl mZ rfl rfl rfl (sh).toL oX (mZ.srcR (j:=0) rfl (by decide) (RlL.len oX)) sd rfl ?_
 intro fw fP pW vh Bv AD
 have As:RlT ca bI wIZ gO (bO ++ br):=by rw [AD];exact RlT.snoc eV xw ub fb cW (((cW.trans bx).trans cY).trans co)
 let lc:Res:=.row fw fP 46 3 (bO ++ br)
 have vi:SW w [B1] U bI [iv,.blk bh 46 br,ew,ak,lc,ay,B2,B7,B6,.blk b3 28 B0] pW:=vh
 refine oR Z (zJ Z cK zk Z Zd) (zu (j:=5) (vs:=[.slice fw gO.length fP]) Z Z Z Z vi Z Z Z Z Zd (zC Z) Z Z Z ?_)
 intro pX vk
 have vl:SW w [B1] U bI [iv,.blk bh 46 br,ew,ak,lc,.blk ao 43 [jV (w64 ((w64 (9 * (↑am:Int))) + aw)),.slice ap an.length av,.slice fw gO.length fP],B2,B7,B6,.blk b3 28 B0] pX:=vk
 refine zg (zb ?_)
 have q:=nA xP
 obtain rfl:=q
 have sj:=iZ.le cY
 have sm:=sj.le co
 exact zI ⟨rfl,_,rfl,⟨bI,bW,cg,fw,fP,(bO ++ br),dK,gc,eM,cK,eP,eQ,gf,gg,((((fb.trans cW).trans bx).trans cY).trans co),(vl.pick [2,3,4,5,6,7,8,9] _ (by decide) rfl),sm,As⟩⟩
 have ow:=jl;rw [if_neg bD] at ow;replace bD:=zF bD
 refine oF Z bD (oF Z bD (oR Z (zZ Z (zw bD.out) Z) (eN (zm Z (ZI (zY ?_))))))
 have q:=wAf ow
 obtain ⟨AP,xQ,qQ⟩:=q
 have q:=n9 AP qQ
 obtain rfl:=q
 refine zY (ZD (zI (rR (wDE gAu) Z (oR Z (zJ Z cK zk Z Zd) (oL Z (cO.ldB (j:=6) Z Z Z yE (v:=.slice cz cQ.length cG) Z) ?_)))))
 let bs:List Value:=[jV bl,.slice bf aX.length bC,.slice aq aY.length a8]
 refine oL Z (cO.ldBA (j:=2) Z Z cL yP ZJ (vs:=bs) Z Z) ?_
 have q:=cO.freezeRP (k:=0) rfl
 obtain ⟨py,cZ,mL,uc,vo⟩:=q
 have Af:=mL.sl (n:=aX.length) (wAF (f:=KL.encI) (sz:=1) (fun _=>rfl) aX) (by decide)
 let ey:Res:=.blk ah 100 [.slice bW cR.length cg,jV dO,.int .u32 dP]
 have vp:SW w [B1] U py [.row aq a8 47 1 bU,.blk bh 46 bs,ey,ak,aW,ay,B2,B7,B6,.blk b3 28 B0] dF:=vo
 have my:=du.le cZ
 have q:=vp.freezeRP (k:=0) rfl
 obtain ⟨bJ,cp,mM,ud,vq⟩:=q
 have Ag:SlR bJ wFi aq a8 aY:=⟨_,mM.sl (RlL.len (my).toL) (by decide),RlL.le (my).toL cp⟩
 have vr:SW w [B1] U bJ [.blk bh 46 bs,ey,ak,aW,ay,B2,B7,B6,.blk b3 28 B0] dF:=vq
 refine zW (pv:=[(0,.agg bs.toArray)]) (zs:=B9) (cs:=bs) Z Z Z Z Z (wAC Z wAM) ZM ZJ ZT Z Z Z Z Z vr ?_
 intro pY qE vn
 have sn:=Af.le cp
 have oY:RlL bJ wFe [(⟨bl,aX,aY⟩:wAA)] bs:=(RlL.cons (R:=wFe) (x:=(⟨bl,aX,aY⟩:wAA)) (vs:=bs) ⟨bf,bC,aq,a8,rfl,sn,Ag⟩ RlL.nil)
 obtain ⟨gx,rv,pa⟩:=du
 have tW:SlF bJ wIw aq a8 aY (gx ++ bks aq):=by have g:=(rv.up (pa.stay (cZ.trans cp)));exact ⟨_,_,(mM.le (zH _)).sl (RlL.len g.toL) (by decide),g,rfl⟩
 have ue:Ows _ bJ (bks bf ++ (gx ++ bks aq)):=(((pa.cat uc bx (zH _) cZ).cat ud (bx.trans cZ) (zH _) cp).le (zH _)).perm (by intro b;first | rfl | (simp only [nE,nH];omega))
 have xx:wIZ.f bJ (⟨bl,aX,aY⟩:wAA) bs (bks bf ++ (gx ++ bks aq)):=⟨bf,bC,aq,a8,(gx ++ bks aq),rfl,(mL.le cp),tW,rfl⟩
 let iw:Res:=.row (some ⟨qE,0,none⟩) 1 46 3 bs
 have m4:SW w [B1] U bJ [iw,.blk bh 46 bs,ey,ak,aW,ay,B2,B7,B6,.blk b3 28 B0] pY:=vn
 refine bnK xQ fun gQ sr xR=>?_
 have su:=eV.le cW
 have sv:=su.le bx
 have sw:=sv.le cZ
 have sA:=sw.le cp
 refine yU (R:=wFe) (j:=4) (xs:=cQ) (ys:=[(⟨bl,aX,aY⟩:wAA)]) (zs:=gQ) rfl rfl rfl rfl rfl Tryz.underlying41 wJL rfl rfl rfl rfl rfl rfl rfl m4 rfl rfl rfl (sA).toL oY (m4.srcR (j:=0) rfl (by decide) (RlL.len oY)) sr rfl ?_
 intro fy fQ pZ vt Bw AE
 have Au:RlT ca bJ wIZ gQ (bO ++ bs):=by rw [AE];exact RlT.snoc eV xx ue fb cW (((cW.trans bx).trans cZ).trans cp)
 let lh:Res:=.row fy fQ 46 3 (bO ++ bs)
 have vv:SW w [B1] U bJ [iw,.blk bh 46 bs,ey,ak,lh,ay,B2,B7,B6,.blk b3 28 B0] pZ:=vt
 refine oR Z (zJ Z cK zk Z Zd) (zu (j:=5) (vs:=[.slice fy gQ.length fQ]) Z Z Z Z vv Z Z Z Z Zd (zC Z) Z Z Z ?_)
 intro p6 vw
 have vx:SW w [B1] U bJ [iw,.blk bh 46 bs,ey,ak,lh,.blk ao 43 [jV (w64 ((w64 (9 * (↑am:Int))) + aw)),.slice ap an.length av,.slice fy gQ.length fQ],B2,B7,B6,.blk b3 28 B0] p6:=vw
 refine zg (zb ?_)
 have q:=nA xR
 obtain rfl:=q
 have sC:=iZ.le cZ
 have sD:=sC.le cp
 exact zI ⟨rfl,_,rfl,⟨bJ,bW,cg,fy,fQ,(bO ++ bs),dK,gc,eM,cK,eP,eQ,gf,gg,((((fb.trans cW).trans bx).trans cZ).trans cp),(vx.pick [2,3,4,5,6,7,8,9] _ (by decide) rfl),sD,Au⟩⟩
 have oy:=jk;rw [if_neg cH] at oy;replace cH:=zF cH
 refine cF Z cH (ZI (zY ?_))
 have q:=wAf oy
 obtain ⟨AQ,xS,qR⟩:=q
 have q:=xq AQ qR
 obtain rfl:=q
 refine zY (ZD ?_)
 cases xS
 exact zI ⟨Z,⟨lj,dT,eG,cz,cG,bO,iQ,l7,l8,iR,mb,mc,fb,i7,mu,eV⟩⟩
 rintro Cd lx ⟨Bl,dS,eD,bv,cd,fZ,qY,qZ,iT,q0,q8,q9,fc,ja,sE,mz⟩
 refine rR (wDE gAu) Z (oR Z (zJ Z iT ze Z ZU) (oL Z (ja.ldB (j:=6) Z Z Z Zn (v:=.slice dm cV.length dt) Z) ?_))
 let bt:List Value:=[jV (w64 ((w64 (9 * (↑am:Int))) + aw)),.slice ap an.length av,.slice bv cj.length cd]
 refine oL Z (ja.ldBA (j:=3) Z Z q0 yC ZE (vs:=bt) Z Z) ?_
 have q:=ja.freezeRP (k:=1) rfl
 obtain ⟨pz,c6,mN,uf,vA⟩:=q
 have Ah:=mN.sl (n:=an.length) (wAF (f:=KL.encI) (sz:=1) (fun _=>rfl) an) (by decide)
 let eB:Res:=.blk ah 100 [.slice dS gv.length eD,jV pg,.int .u32 ph]
 have vB:SW w [B1] U pz [eB,.row bv cd 46 3 fZ,.blk ao 43 bt,B2,B7,B6,.blk b3 28 B0] lx:=vA
 have mA:=mz.le c6
 have q:=vB.freezeRP (k:=1) rfl
 obtain ⟨bK,cq,mO,ug,vC⟩:=q
 have Ai:SlR bK wFe bv cd cj:=⟨_,mO.sl (RlL.len (mA).toL) (by decide),RlL.le (mA).toL cq⟩
 have vE:SW w [B1] U bK [eB,.blk ao 43 bt,B2,B7,B6,.blk b3 28 B0] lx:=vC
 refine zW (pv:=[(0,.agg bt.toArray)]) (zs:=B9) (cs:=bt) Z Z Z Z Z (wAC Z wAM) ZC ZE Zb Z Z Z Z Z vE ?_
 intro p8 qF vz
 have sF:=Ah.le cq
 have oZ:RlL bK wFF [(⟨w64 ((w64 (9 * (↑am:Int))) + aw),an,cj⟩:wAD)] bt:=(RlL.cons (R:=wFF) (x:=(⟨w64 ((w64 (9 * (↑am:Int))) + aw),an,cj⟩:wAD)) (vs:=bt) ⟨ap,av,bv,cd,rfl,sF,Ai⟩ RlL.nil)
 obtain ⟨gy,rx,pb⟩:=mz
 have tX:SlF bK wIZ bv cd cj (gy ++ bks bv):=by have g:=(rx.up (pb.stay (c6.trans cq)));exact ⟨_,_,(mO.le (zH _)).sl (RlL.len g.toL) (by decide),g,rfl⟩
 have uh:Ows _ bK (bks ap ++ (gy ++ bks bv)):=(((pb.cat uf fc (zH _) c6).cat ug (fc.trans c6) (zH _) cq).le (zH _)).perm (by intro b;first | rfl | (simp only [nE,nH];omega))
 have xz:wME.f bK (⟨w64 ((w64 (9 * (↑am:Int))) + aw),an,cj⟩:wAD) bt (bks ap ++ (gy ++ bks bv)):=⟨ap,av,bv,cd,(gy ++ bks bv),rfl,(mN.le cq),tX,rfl⟩
 let iy:Res:=.row (some ⟨qF,0,none⟩) 1 43 3 bt
 have m5:SW w [B1] U bK [iy,eB,.blk ao 43 bt,B2,B7,B6,.blk b3 28 B0] p8:=vz
 refine bnK oe fun gS sG xT=>?_
 have sH:=gr.le cX
 have sI:=sH.le c7
 have sJ:=sI.le c9
 have sK:=sJ.le da
 have sL:=sK.le db
 have sM:=sL.le fc
 have sN:=sM.le c6
 have sO:=sN.le cq
 refine yU (R:=wFF) (j:=4) (xs:=cV) (ys:=[(⟨w64 ((w64 (9 * (↑am:Int))) + aw),an,cj⟩:wAD)]) (zs:=gS) rfl rfl rfl rfl rfl Tryz.underlying26 wKb rfl rfl rfl rfl rfl rfl rfl m5 rfl rfl rfl (sO).toL oZ (m5.srcR (j:=0) rfl (by decide) (RlL.len oZ)) sG rfl ?_
 intro fz fR p9 vF Bx AF
 have Av:RlT dE bK wME gS (bT ++ bt):=by rw [AF];exact RlT.snoc gr xz uh gD ((((cX.trans c7).trans c9).trans da).trans db) (((((((cX.trans c7).trans c9).trans da).trans db).trans fc).trans c6).trans cq)
 let li:Res:=.row fz fR 43 3 (bT ++ bt)
 have vG:SW w [B1] U bK [iy,eB,.blk ao 43 bt,B2,li,B6,.blk b3 28 B0] p9:=vF
 refine oR Z (zJ Z iT ze Z ZU) (zu (j:=5) (vs:=[.slice fz gS.length fR]) Z Z Z Z vG Z Z Z Z ZU (zC Z) Z Z Z ?_)
 intro qa vH
 have vI:SW w [B1] U bK [iy,eB,.blk ao 43 bt,B2,li,.blk bi 28 [.slice bb x6.Classes.length be,jV x6.Each,jV x6.Laps,jV x6.Spare,jV x6.Loop,jV x6.Unused,jV dx,.slice fz gS.length fR],.blk b3 28 B0] qa:=vH
 refine zg (zb (zI (rR fL2 Z (oR Z (zn (zX Z q9 Z) (congrArg (jV) oc.out)) (oM Z Z (zg ?_))))))
 cases xT
 have sQ:=sE.le c6
 have sS:=sQ.le cq
 exact zI ⟨rfl,⟨bK,dS,eD,fz,fR,(bT ++ bt),rfl,qY,qZ,iT,q8,((((((((gD.trans cX).trans c7).trans c9).trans da).trans db).trans fc).trans c6).trans cq),(vI.pick [1,3,4,5,6] _ (by decide) rfl),sS,Av⟩⟩
 rintro Ce Bp ⟨ll,jS,lQ,ie,iK,lR,rq,Bs,me,rc,rd,BC,m6,sT,sU⟩
 have qM:Hid (¬ ((↑((bQ:Int) - 0).toNat:Int) < bQ)):=zF (wAa)
 refine sR fL1 Z (oR Z (zU Z rq rd) (eN (zG (cF Z qM (ZI (zY (zY (ZD (zI (sR gAf Z ?_))))))))))
 let dB:List Value:=[.slice bb x6.Classes.length be,jV x6.Each,jV x6.Laps,jV x6.Spare,jV x6.Loop,jV x6.Unused,jV dx,.slice ie AY.length iK]
 refine oL Z (m6.ldBA (j:=3) Z Z rc Zq ZL (vs:=dB) Z Z) (zu (j:=4) (vs:=dB) Z Z Z Z m6 Z me Z Z ZL (zC Z) Z Z Z ?_)
 intro qb vK
 have m7:SW w [B1] U ll [.blk ah 100 [.slice jS AV.length lQ,jV AW,.int .u32 AX],B2,.row ie iK 43 3 lR,.blk bi 28 dB,.blk b3 28 dB] qb:=vK
 refine eN (zO ?_)
 cases od
 exact ⟨rfl,_,(wFk (v:=.agg dB.toArray) ⟨⟨_,me,(wEv Zq ZL (m7.blkAt (k:=4) rfl) (vs:=dB) rfl rfl)⟩,trivial⟩),ll,_,(m7.pick [1,2,0] _ (by decide) rfl),bb,be,ie,iK,lR,jS,lQ,rfl,rfl,(sU).low ((AJ.trans AM).trans AN),sT⟩
end Go.Proofs.YtnbcoenjobdplaaGreat
namespace Go.Proofs.YtnbcoenjobdplaaGreat
open Go.KL
set_option maxHeartbeats 4000000
theorem wHH (p0:Int) (p1:Int) (w:World) (U:PHeap) (hS:St0 w U [])  {r:Int} (hm:wCZ p0 p1=some r):Gv Tryz.prog 10 [jV p0,jV p1] w (wBU w [] U (fun U_ L_ v=>v=jV r/\L_=[])):=by
 unfold wCZ at hm
 refine Gv.of Tryz.func10 Z Tryz.ntmps10 Tryz.results10 Z (sR fL1 Z (oA Z Z (eN (zG (sR fL2 Z (oM Z Z (oR Z (Runs.leq Z Z Z) (eN ?_))))))))
 by_cases c1:p1 <= 0
 have ae:=hm;rw [if_pos c1] at ae;replace c1:=zF c1
 refine cT Z c1 (sR fL1 Z (oA Z Z (eN (zO (zR ?_)))))
 cases ae
 exact ⟨Z,_,(zr Z),U,_,hS,Z,Z⟩
 have af:=hm;rw [if_neg c1] at af;replace c1:=zF c1
 refine cF Z c1 (kN (sR fL8 Z (oM Z Z (oM Z Z (bnK af fun x4 h5 aj=>oR Z (Runs.rem Z Z Z h5) (oM Z Z (oR Z (zX Z Z Z) (oM Z Z (bnK aj fun x7 h8 ak=>oR Z (Runs.rem Z Z Z h8) (oA Z Z (eN (zO ?_))))))))))))
 have hE:=nA ak;first | subst r | cases hE
 exact ⟨Z,_,(zr Z),U,_,hS,Z,Z⟩
theorem wCR (p0:Int) (p1:Int) (p2:Int) (w:World) (U:PHeap) (hS:St0 w U [])  {r:Bool} (hm:wBR p0 p1 p2=some r):Gv Tryz.prog 35 [jV p0,jV p1,jV p2] w (wBU w [] U (fun U_ L_ v=>v=.bool r/\L_=[])):=by
 unfold wBR at hm
 refine Gv.of Tryz.func35 Z Tryz.ntmps35 Tryz.results35 Z (sR fL1 Z (oA Z Z (eN (sR fL9 Z (oM Z Z (oM Z Z (oR Z (yo Z Z Z) (oM Z Z ?_))))))))
 by_cases c1:p1 <= p0
 have ac:=hm;rw [if_pos c1] at ac;replace c1:=zF c1
 refine zj Z Z Z (wT Z c1) Z Z (zj Z Z Z (wT Z c1) Z Z (rU Z (wT Z c1) (Runs.leq Z Z Z) (oR Z (zV Z (Zj c1.out) Z) (oA Z Z (eN (zO ?_))))))
 first | (obtain rfl:=nA ac) | cases ac
 exact ⟨Z,_,(zr Z),U,_,hS,Z,Z⟩
 have ag:=hm;rw [if_neg c1] at ag;replace c1:=zF c1
 refine oF Z c1 (oF Z c1 (oF Z c1 (oR Z (zZ Z (zw c1.out) Z) (oA Z Z (eN (zO ?_))))))
 have hE:=nA ag;first | subst r | cases hE
 exact ⟨Z,_,(zr Z),U,_,hS,Z,Z⟩
theorem wGp (p0:Int) (p1:(Int->Option Bool)) (ag:Nat) (ac:Value) (w:World) (U:PHeap) (hS:St0 w U []) (am:Cl U ag 0 [ac]) (an:FnOK Tryz.prog U ac wJg wKY p1) {r:Bool} (hm:wCM p0 p1=some r):Gv Tryz.prog 113 [jV p0,.pointer (some ⟨ag,0,none⟩)] w (wBU w [] U (fun U_ L_ v=>v=.bool r/\L_=[])):=by
 unfold wCM at hm
 refine Gv.of Tryz.func113 Z Tryz.ntmps113 Tryz.results113 Z (sR fL1 Z (oA Z Z (eN (sR gAx Z (oL Z (hS.ldC (f:=0) am (v:=ac) Z Z Tryz.isAgg86 Z) (oM Z Z (bnK hm fun x1 h2 ao=>yT (a:=p0) Z Z Z Z Z Z (zB Z zM) hS an Z h2 ?_)))))))
 rintro U4 L5 v6 W7 aq ak ⟨rfl,rfl⟩
 have aj:sW w U U4 [] W7:=ak
 refine oR Z (ZN Z Z) (oA Z Z (eN (zO ?_)))
 cases ao
 exact ⟨Z,_,(zr Z),U4,_,aj,Z,Z⟩
theorem wEn (p0:List Int) (am:Option Addr) (an:Nat) (p1:(Int->Option Bool)) (ao:Value) (w:World) (U:PHeap) (hS:St0 w U []) (bn:Sl U 1 am an p0.length (hM KL.encI p0)) (bp:FnOK Tryz.prog U ao wJg wKY p1) {r:Int} (hm:wBw p0 p1=some r):Gv Tryz.prog 144 [.slice am p0.length an,ao] w (wBU w [] U (fun U_ L_ v=>v=jV r/\L_=[])):=by
 unfold wBw at hm
 refine Gv.of Tryz.func144 Z Tryz.ntmps144 Tryz.results144 Z (sR fL1 Z (oA Z Z (eN (zG (sR fL3 Z (oM Z Z (oR Z (za Z Z zA) (oM Z Z (eN (zT ?_))))))))))
 have q:=wBe hm
 obtain ⟨r3,ah⟩:=q
 have q:=wBd ah
 obtain ⟨aj,bs⟩:=q
 replace aj:=zF aj
 refine yA (fun k2 _ σ_ w_=>∃ (U_:PHeap),σ_ 8=jV (↑k2:Int)/\σ_ 0=.slice am p0.length an/\σ_ 1=ao/\σ_ 7=jV (↑p0.length:Int)/\PHeap.Le U U_/\sW w U U_ [] w_) bs ?_ ?_ ?_
 exact ⟨U,Z,Z,Z,Z,(zH _),hS⟩
 rintro k2 ⟨⟩ bO bQ W8 ai ⟨bD,ag,aq,au,av,ak,ax⟩ aW bq
 try dsimp only at aW
 have ap:Hid ((↑k2:Int) < (↑p0.length:Int)):=zF (wAo ai)
 replace ai:=zF ai
 have bt:Hid (w64 ((↑k2:Int) + 1)=(↑(k2 + 1):Int)):=zF (by have h1:=aj.out;have h2:=ap.out;rw [wAT] <;> omega)
 refine sR fL1 Z (oR Z (zU Z ag av) (eN (zG (cT Z ap (kN (zG (zT (sR fL2 Z (oM Z ag (oA Z Z (eN (sR (wHS (.fx 5 .nil .stop)) Z (oM Z au (oM Z aq (oM Z Z (bnK aW fun aY aw bu=>?_))))))))))))))))
 have bf:=bn.le ak
 have q:=bf.el (fun _=>rfl) (wAR aw)
 obtain ⟨bG,bK,bi,bj⟩:=q
 refine oR Z (zo Z Z bi Z zA zD (wAj aw)) (oL Z (ax.ldC (f:=0) bj (v:=jV aY) Z Z zP Z) (bnK bu fun bN bg bv=>?_))
 have bh:=bp.le ak
 refine yT (a:=aY) Z Z Z Z Z Z (zB Z zM) ax bh Z bg ?_
 rintro ae bC bM a7 bA bl ⟨rfl,rfl⟩
 have ay:sW w U ae [] a7:=bl
 refine eN (ifc bv ?_ ?_)
 intro af bw
 refine ZF (congrArg nB af.out) (sR fL2 Z (oM Z Z (oA Z Z (eN (zO (zf (zR ?_)))))))
 have q:=wAf bw
 obtain ⟨bB,bx,ba⟩:=q
 have q:=wCI hm ah (bq bB ba)
 obtain rfl:=q
 refine zR (zf (zR ?_))
 cases bx
 exact ⟨Z,_,(zr Z),ae,_,ay,Z,Z⟩
 intro af bz
 refine zm (congrArg nB (nD.2 af.out)) (ZV (zb (zI (rR fL2 Z (oR Z (zn (zX Z ag Z) (congrArg (jV) bt.out)) (oM Z Z (zg ?_)))))))
 have q:=nA bz
 obtain rfl:=q
 exact zI ⟨Z,_,Z,⟨ae,Z,aq,au,av,(ak.trans bA),ay⟩⟩
 rintro ⟨⟩ bP bE ⟨aZ,be,bH,bI,bb,bJ,bm⟩ br
 have az:=wCm hm ah br
 try dsimp only at az
 have a8:Hid (¬ ((↑(((↑p0.length:Int):Int) - 0).toNat:Int) < (↑p0.length:Int))):=zF (wAa)
 refine sR fL1 Z (oR Z (zU Z be bb) (eN (zG (cF Z a8 (ZI (zY (zY (ZD (zI (sR fL1 Z (oA Z Z (eN (zO ?_)))))))))))))
 cases az
 exact ⟨Z,_,(zr Z),aZ,_,bm,Z,Z⟩
theorem wES (p0:List Int) (ae:Option Addr) (af:Nat) (p1:(Int->Option Bool)) (ag:Value) (w:World) (U:PHeap) (hS:St0 w U []) (ao:Sl U 1 ae af p0.length (hM KL.encI p0)) (ap:FnOK Tryz.prog U ag wJg wKY p1) {r:Bool} (hm:wBW p0 p1=some r):Gv Tryz.prog 112 [.slice ae p0.length af,ag] w (wBU w [] U (fun U_ L_ v=>v=.bool r/\L_=[])):=by
 unfold wBW at hm
 refine Gv.of Tryz.func112 Z Tryz.ntmps112 Tryz.results112 Z (sR fL1 Z (oA Z Z (eN (sR gAx Z (oM Z Z (oM Z Z (bnK hm fun x1 h2 ai=>zL 0 Z Z Z Z (zK Z Z Tryz.call144 (zB Z (zB Z zM)) Z) hS (fun hs=>wEn p0 ae af p1 ag w U hs ao ap h2) (.inr Z) ?_)))))))
 rintro U4 L5 v6 W7 au an ⟨rfl,rfl⟩
 have am:sW w U U4 [] W7:=an
 refine oR Z (yo Z Z Z) (oA Z Z (eN (zO ?_)))
 first | (obtain rfl:=nA ai) | cases ai
 exact ⟨Z,_,(zr Z),U4,_,am,Z,Z⟩
theorem wCl (p0:List Int) (ai:Option Addr) (aj:Nat) (p1:(Int->Option Bool)) (ag:Value) (w:World) (U:PHeap) (hS:St0 w U []) (aZ:Sl U 1 ai aj p0.length (hM KL.encI p0)) (an:FnOK Tryz.prog U ag wJg wKY p1) {r:Bool} (hm:wBJ p0 p1=some r):Gv Tryz.prog 72 [.slice ai p0.length aj,ag] w (wBU w [] U (fun U_ L_ v=>v=.bool r/\L_=[])):=by
 unfold wBJ at hm
 refine Gv.of Tryz.func72 Z Tryz.ntmps72 Tryz.results72 Z (sR gAi Z (ZS (cs:=[ag]) Z Z Z Z Z Z (FnOK.cells an) hS ?_))
 intro W1 b2 aW
 have q:=aW.freeze (k:=0) rfl
 obtain ⟨U5,ao,ac,aX⟩:=q
 replace ac:=Cl.of ac
 have aY:sW w U U5 [] W1:=aX
 replace ac:Cl U5 b2 0 [ag]:=ac
 refine oA Z Z (eN (sR gAx Z (oM Z Z (oR Z (yW Z zM (zB Z zM)) ?_))))
 have au:=aZ.le ao
 have av:=an.le ao
 have ax:FnOK Tryz.prog U5 (.func (.func 113) #[] #[.pointer (some ⟨b2,0,none⟩)]) wJg wKY (fun x=>wCM x p1):=⟨113,[],[.pointer (some ⟨b2,0,none⟩)],rfl,Tryz.call113,fun U1 w1 x y vs le hs ha hm=>by obtain rfl:=ha;exact wGp x p1 b2 ag w1 U1 hs (ac.le le) (av.le le) hm⟩
 refine bnK hm fun bf aw a7=>zL 0 Z Z Z Z (zK Z Z Tryz.call112 (zB Z (zB Z zM)) Z) aY (fun hs=>wES p0 ai aj (fun x=>wCM x p1) (.func (.func 113) #[] #[.pointer (some ⟨b2,0,none⟩)]) W1 U5 hs au ax aw) (.inr Z) ?_
 rintro ak ba be aq bb ay ⟨rfl,rfl⟩
 have az:sW w U ak [] aq:=ay
 refine oR Z (ZN Z Z) (oA Z Z (eN (zO ?_)))
 cases a7
 exact ⟨Z,_,(zr Z),ak,_,az,Z,Z⟩
theorem wHI (p0:Int) (w:World) (U:PHeap) (hS:St0 w U [])  {r:Bool} (hm:wBK p0=some r):Gv Tryz.prog 140 [jV p0] w (wBU w [] U (fun U_ L_ v=>v=.bool r/\L_=[])):=by
 unfold wBK at hm
 refine Gv.of Tryz.func140 Z Tryz.ntmps140 Tryz.results140 Z (sR fL1 Z (oA Z Z (eN (sR gAo Z (oM Z Z (bnK hm fun x1 h2 ai=>zL 0 Z Z Z Z (zK Z Z yL (zB Z (zB Z (zB Z zM))) Z) hS (fun hs=>wCR p0 0 3 w U hs h2) (.inr Z) ?_))))))
 rintro U4 L5 v6 W7 ak ah ⟨rfl,rfl⟩
 have ag:sW w U U4 [] W7:=ah
 refine oA Z Z (eN (zO ?_))
 have hE:=nA ai;first | subst r | cases hE
 exact ⟨Z,_,(zr Z),U4,_,ag,Z,Z⟩
theorem wEj (p0:List Int) (ac:Option Addr) (ae:Nat) (w:World) (U:PHeap) (hS:St0 w U []) (an:Sl U 1 ac ae p0.length (hM KL.encI p0)) {r:Bool} (hm:wCJ p0=some r):Gv Tryz.prog 103 [.slice ac p0.length ae] w (wBU w [] U (fun U_ L_ v=>v=.bool r/\L_=[])):=by
 unfold wCJ at hm
 refine Gv.of Tryz.func103 Z Tryz.ntmps103 Tryz.results103 Z (sR fL1 Z (oA Z Z (eN (sR gAo Z (oM Z Z ?_)))))
 have aj:FnOK Tryz.prog U (.func (.func 140) #[] #[]) wJg wKY wBK:=⟨140,[],[],rfl,Tryz.call140,fun U1 w1 x y vs le hs ha hm=>by obtain rfl:=ha;exact wHI x w1 U1 hs  hm⟩
 refine bnK hm fun x2 h3 ao=>zL 0 Z Z Z Z (zK Z Z Tryz.call72 (zB Z (zB Z zM)) Z) hS (fun hs=>wCl p0 ac ae wBK (.func (.func 140) #[] #[]) w U hs an aj h3) (.inr Z) ?_
 rintro U5 L6 v7 W8 au ak ⟨rfl,rfl⟩
 have am:sW w U U5 [] W8:=ak
 refine oA Z Z (eN (zO ?_))
 have hE:=nA ao;first | subst r | cases hE
 exact ⟨Z,_,(zr Z),U5,_,am,Z,Z⟩
theorem wHW (p0:wAJ) (ac:Option Addr) (ae:Nat) (w:World) (U:PHeap) (hS:St0 w U []) (ai:Sl U 1 ac ae p0.Classes.length (hM KL.encI p0.Classes)) {r:Int} (hm:wBq p0=some r):Gv Tryz.prog 177 [.agg #[.slice ac p0.Classes.length ae,jV p0.Each,jV p0.Laps,jV p0.Spare,jV p0.Loop,jV p0.Unused]] w (wBU w [] U (fun U_ L_ v=>v=jV r/\L_=[])):=by
 unfold wBq at hm
 refine Gv.of Tryz.func177 rfl Tryz.ntmps177 Tryz.results177 rfl (sR gAi rfl (ZS (cs:=[.slice ac p0.Classes.length ae,jV p0.Each,jV p0.Laps,jV p0.Spare,jV p0.Loop,jV p0.Unused]) rfl rfl rfl rfl rfl rfl (by rfl) hS ?_))
 intro W1 b2 af
 refine oA Z Z (eN (sR fL3 Z (oR Z (zJ Z Z zy Z zD) (oL Z (af.ldB (j:=0) Z Z Z zP (v:=jV p0.Each) Z) (oA Z Z (eN (zO ?_)))))))
 cases hm
 exact ⟨rfl,_,(zr rfl),U,_,(af.pick [] _ (by decide) rfl),rfl,rfl⟩
theorem wHX (p0:wAJ) (ac:Option Addr) (ae:Nat) (w:World) (U:PHeap) (hS:St0 w U []) (ai:Sl U 1 ac ae p0.Classes.length (hM KL.encI p0.Classes)) {r:Int} (hm:wBr p0=some r):Gv Tryz.prog 178 [.agg #[.slice ac p0.Classes.length ae,jV p0.Each,jV p0.Laps,jV p0.Spare,jV p0.Loop,jV p0.Unused]] w (wBU w [] U (fun U_ L_ v=>v=jV r/\L_=[])):=by
 unfold wBr at hm
 refine Gv.of Tryz.func178 rfl Tryz.ntmps178 Tryz.results178 rfl (sR gAi rfl (ZS (cs:=[.slice ac p0.Classes.length ae,jV p0.Each,jV p0.Laps,jV p0.Spare,jV p0.Loop,jV p0.Unused]) rfl rfl rfl rfl rfl rfl (by rfl) hS ?_))
 intro W1 b2 af
 refine oA Z Z (eN (sR fL3 Z (oR Z (zJ Z Z zy Z zD) (oL Z (af.ldB (j:=0) Z Z Z zP (v:=jV p0.Laps) Z) (oA Z Z (eN (zO ?_)))))))
 cases hm
 exact ⟨rfl,_,(zr rfl),U,_,(af.pick [] _ (by decide) rfl),rfl,rfl⟩
theorem wHY (p0:wAJ) (ac:Option Addr) (ae:Nat) (w:World) (U:PHeap) (hS:St0 w U []) (ai:Sl U 1 ac ae p0.Classes.length (hM KL.encI p0.Classes)) {r:Int} (hm:wBs p0=some r):Gv Tryz.prog 179 [.agg #[.slice ac p0.Classes.length ae,jV p0.Each,jV p0.Laps,jV p0.Spare,jV p0.Loop,jV p0.Unused]] w (wBU w [] U (fun U_ L_ v=>v=jV r/\L_=[])):=by
 unfold wBs at hm
 refine Gv.of Tryz.func179 rfl Tryz.ntmps179 Tryz.results179 rfl (sR gAi rfl (ZS (cs:=[.slice ac p0.Classes.length ae,jV p0.Each,jV p0.Laps,jV p0.Spare,jV p0.Loop,jV p0.Unused]) rfl rfl rfl rfl rfl rfl (by rfl) hS ?_))
 intro W1 b2 af
 refine oA Z Z (eN (sR fL3 Z (oR Z (zJ Z Z zy Z zD) (oL Z (af.ldB (j:=0) Z Z Z zP (v:=jV p0.Spare) Z) (oA Z Z (eN (zO ?_)))))))
 cases hm
 exact ⟨rfl,_,(zr rfl),U,_,(af.pick [] _ (by decide) rfl),rfl,rfl⟩
theorem wHZ (p0:wAJ) (ac:Option Addr) (ae:Nat) (w:World) (U:PHeap) (hS:St0 w U []) (ai:Sl U 1 ac ae p0.Classes.length (hM KL.encI p0.Classes)) {r:Int} (hm:wBt p0=some r):Gv Tryz.prog 180 [.agg #[.slice ac p0.Classes.length ae,jV p0.Each,jV p0.Laps,jV p0.Spare,jV p0.Loop,jV p0.Unused]] w (wBU w [] U (fun U_ L_ v=>v=jV r/\L_=[])):=by
 unfold wBt at hm
 refine Gv.of Tryz.func180 rfl Tryz.ntmps180 Tryz.results180 rfl (sR gAi rfl (ZS (cs:=[.slice ac p0.Classes.length ae,jV p0.Each,jV p0.Laps,jV p0.Spare,jV p0.Loop,jV p0.Unused]) rfl rfl rfl rfl rfl rfl (by rfl) hS ?_))
 intro W1 b2 af
 refine oA Z Z (eN (sR fL3 Z (oR Z (zJ Z Z zy Z zD) (oL Z (af.ldB (j:=0) Z Z Z zP (v:=jV p0.Loop) Z) (oA Z Z (eN (zO ?_)))))))
 cases hm
 exact ⟨rfl,_,(zr rfl),U,_,(af.pick [] _ (by decide) rfl),rfl,rfl⟩
theorem wHa (p0:wAJ) (ac:Option Addr) (ae:Nat) (w:World) (U:PHeap) (hS:St0 w U []) (ai:Sl U 1 ac ae p0.Classes.length (hM KL.encI p0.Classes)) {r:Int} (hm:wBu p0=some r):Gv Tryz.prog 181 [.agg #[.slice ac p0.Classes.length ae,jV p0.Each,jV p0.Laps,jV p0.Spare,jV p0.Loop,jV p0.Unused]] w (wBU w [] U (fun U_ L_ v=>v=jV r/\L_=[])):=by
 unfold wBu at hm
 refine Gv.of Tryz.func181 rfl Tryz.ntmps181 Tryz.results181 rfl (sR gAi rfl (ZS (cs:=[.slice ac p0.Classes.length ae,jV p0.Each,jV p0.Laps,jV p0.Spare,jV p0.Loop,jV p0.Unused]) rfl rfl rfl rfl rfl rfl (by rfl) hS ?_))
 intro W1 b2 af
 refine oA Z Z (eN (sR fL3 Z (oR Z (zJ Z Z zy Z zD) (oL Z (af.ldB (j:=0) Z Z Z zP (v:=jV p0.Unused) Z) (oA Z Z (eN (zO ?_)))))))
 cases hm
 exact ⟨rfl,_,(zr rfl),U,_,(af.pick [] _ (by decide) rfl),rfl,rfl⟩
theorem wIQ  (w:World) (U:PHeap) (hS:St0 w U [])  {r:(List wAQ)} (hm:wEI =some r):Gv Tryz.prog 136 [] w (wBU w [] U (fun U_ L_ v=>∃ (A0:Option Addr) (c0:Nat) (ap:List Value),v=.slice A0 r.length c0/\L_=[.row A0 c0 222 3 ap]/\RlL U_ wHt r ap)):=by
 unfold wEI at hm
 refine Gv.of Tryz.func136 Z Tryz.ntmps136 Tryz.results136 Z (sR fL1 Z (oA Z Z (eN (sR (wHS (.fx 5 (.fl 6 .nil) .stop)) Z ?_))))
 let B0:List Value:=[.nilFunc,jV 0,jV 0]
 let B1:List Value:=[.func (.func 177) #[] #[],jV 1,jV 4]
 refine oR Z (ZH (pv:=[(0,.func (.func 177) #[] #[]),(1,jV 1),(2,jV 4)]) (z:=B0) (cs:=B1) Z (wAC Z (wAC Z (wAC Z wAM))) yr wFn Z Z) ?_
 let B2:List Value:=[.func (.func 178) #[] #[],jV 1,jV 5]
 refine oR Z (ZH (pv:=[(0,.func (.func 178) #[] #[]),(1,jV 1),(2,jV 5)]) (z:=B0) (cs:=B2) Z (wAC Z (wAC Z (wAC Z wAM))) yr wFn Z Z) ?_
 let B3:List Value:=[.func (.func 179) #[] #[],jV 0,jV 600]
 refine oR Z (ZH (pv:=[(0,.func (.func 179) #[] #[]),(1,jV 0),(2,jV 600)]) (z:=B0) (cs:=B3) Z (wAC Z (wAC Z (wAC Z wAM))) yr wFn Z Z) ?_
 let B4:List Value:=[.func (.func 180) #[] #[],jV 0,jV 600]
 refine oR Z (ZH (pv:=[(0,.func (.func 180) #[] #[]),(1,jV 0),(2,jV 600)]) (z:=B0) (cs:=B4) Z (wAC Z (wAC Z (wAC Z wAM))) yr wFn Z Z) ?_
 let B5:List Value:=[.func (.func 181) #[] #[],jV 0,jV 6000]
 refine oR Z (ZH (pv:=[(0,.func (.func 181) #[] #[]),(1,jV 0),(2,jV 6000)]) (z:=B0) (cs:=B5) Z (wAC Z (wAC Z (wAC Z wAM))) yr wFn Z Z) ?_
 let B6:List Value:=[.func (.func 177) #[] #[],jV 1,jV 4,.func (.func 178) #[] #[],jV 1,jV 5,.func (.func 179) #[] #[],jV 0,jV 600,.func (.func 180) #[] #[],jV 0,jV 600,.func (.func 181) #[] #[],jV 0,jV 6000]
 refine zW (pv:=[(0,.agg B1.toArray),(1,.agg B2.toArray),(2,.agg B3.toArray),(3,.agg B4.toArray),(4,.agg B5.toArray)]) (zs:=[.nilFunc,jV 0,jV 0,.nilFunc,jV 0,jV 0,.nilFunc,jV 0,jV 0,.nilFunc,jV 0,jV 0,.nilFunc,jV 0,jV 0]) (cs:=B6) Z Z Z Z Z (wAC Z (wAC Z (wAC Z (wAC Z (wAC Z wAM))))) Tryz.runUnderlying223 Tryz.sizeOf222 yr Z Z Z Z Z hS ?_
 intro W1 b2 aW
 have au:FnOK Tryz.prog U (.func (.func 181) #[] #[]) wIj wIk wBu:=⟨181,[],[],rfl,Tryz.call181,fun U1 w1 x y vs le hs ha hm=>by obtain ⟨pA_0_0,pc_0_0,rfl,hq0_0⟩:=ha;exact wHa x pA_0_0 pc_0_0 w1 U1 hs hq0_0 hm⟩
 have av:FnOK Tryz.prog U (.func (.func 180) #[] #[]) wIj wIk wBt:=⟨180,[],[],rfl,Tryz.call180,fun U1 w1 x y vs le hs ha hm=>by obtain ⟨pA_0_0,pc_0_0,rfl,hq0_0⟩:=ha;exact wHZ x pA_0_0 pc_0_0 w1 U1 hs hq0_0 hm⟩
 have aw:FnOK Tryz.prog U (.func (.func 179) #[] #[]) wIj wIk wBs:=⟨179,[],[],rfl,Tryz.call179,fun U1 w1 x y vs le hs ha hm=>by obtain ⟨pA_0_0,pc_0_0,rfl,hq0_0⟩:=ha;exact wHY x pA_0_0 pc_0_0 w1 U1 hs hq0_0 hm⟩
 have ax:FnOK Tryz.prog U (.func (.func 178) #[] #[]) wIj wIk wBr:=⟨178,[],[],rfl,Tryz.call178,fun U1 w1 x y vs le hs ha hm=>by obtain ⟨pA_0_0,pc_0_0,rfl,hq0_0⟩:=ha;exact wHX x pA_0_0 pc_0_0 w1 U1 hs hq0_0 hm⟩
 have ay:FnOK Tryz.prog U (.func (.func 177) #[] #[]) wIj wIk wBq:=⟨177,[],[],rfl,Tryz.call177,fun U1 w1 x y vs le hs ha hm=>by obtain ⟨pA_0_0,pc_0_0,rfl,hq0_0⟩:=ha;exact wHW x pA_0_0 pc_0_0 w1 U1 hs hq0_0 hm⟩
 have aX:RlL U wHt [(⟨wBq,1,4⟩:wAQ),(⟨wBr,1,5⟩:wAQ),(⟨wBs,0,600⟩:wAQ),(⟨wBt,0,600⟩:wAQ),(⟨wBu,0,6000⟩:wAQ)] B6:=(RlL.cons (R:=wHt) (x:=(⟨wBq,1,4⟩:wAQ)) (vs:=B1) ⟨(.func (.func 177) #[] #[]),rfl,ay⟩ (RlL.cons (R:=wHt) (x:=(⟨wBr,1,5⟩:wAQ)) (vs:=B2) ⟨(.func (.func 178) #[] #[]),rfl,ax⟩ (RlL.cons (R:=wHt) (x:=(⟨wBs,0,600⟩:wAQ)) (vs:=B3) ⟨(.func (.func 179) #[] #[]),rfl,aw⟩ (RlL.cons (R:=wHt) (x:=(⟨wBt,0,600⟩:wAQ)) (vs:=B4) ⟨(.func (.func 180) #[] #[]),rfl,av⟩ (RlL.cons (R:=wHt) (x:=(⟨wBu,0,6000⟩:wAQ)) (vs:=B5) ⟨(.func (.func 181) #[] #[]),rfl,au⟩ RlL.nil)))))
 have az:sW w U U [.row (some ⟨b2,0,none⟩) 5 222 3 B6] W1:=aW
 refine oA Z Z (eN (zO ?_))
 cases hm
 exact ⟨Z,_,(zr Z),U,_,az,(some ⟨b2,0,none⟩),5,B6,Z,Z,aX⟩
theorem wGH (p0:wAQ) (ah:Value) (p1:wAJ) (ap:Nat) (af:Option Addr) (ag:Nat) (w:World) (U:PHeap) (hS:St0 w U []) (aX:FnOK Tryz.prog U ah wIj wIk p0.of) (aY:Cl U ap 0 [.slice af p1.Classes.length ag,jV p1.Each,jV p1.Laps,jV p1.Spare,jV p1.Loop,jV p1.Unused]) (aZ:Sl U 1 af ag p1.Classes.length (hM KL.encI p1.Classes)) {r:Bool} (hm:wBn p0 p1=some r):Gv Tryz.prog 137 [.agg #[ah,jV p0.lo,jV p0.hi],.pointer (some ⟨ap,0,none⟩)] w (wBU w [] U (fun U_ L_ v=>v=.bool r/\L_=[])):=by
 unfold wBn at hm
 refine Gv.of Tryz.func137 Z Tryz.ntmps137 Tryz.results137 Z (sR gAi Z ?_)
 let B0:List Value:=[ah,jV p0.lo,jV p0.hi]
 refine ZS (cs:=B0) rfl rfl rfl rfl rfl rfl (by rfl) hS ?_
 intro W1 b2 aW
 refine yg rfl rfl rfl rfl rfl rfl (eN (zG (ZY ZP [3,1,1,2,3,1,3,1,2,3] (wDE (fC4_7 (.fx 3 (.fx 8 (.fl 9 .nil) .stop) .stop))) (by kernel_rfl) ?_)))
 have ae:=aW.drew
 generalize hw_W6:({ W1 with drawn:=W1.drawn + 1 }:World)=W6 at ae ⊢
 refine oR Z (zJ Z Z Tryz.runUnderlying222 Z Tryz.sizeOf220) (oL Z (ae.ldB (j:=0) Z Z Z Tryz.isAgg220 (v:=ah) Z) (oL Z (ae.ldCA (f:=0) aY Z Z Zv ZG (us:=[.slice af p1.Classes.length ag,jV p1.Each,jV p1.Laps,jV p1.Spare,jV p1.Loop,jV p1.Unused]) Z Z) (oR Z (zJ Z Z Tryz.runUnderlying222 Z zD) (oL Z (ae.ldB (j:=0) Z Z Z zP (v:=jV p0.lo) Z) (oR Z (zJ Z Z Tryz.runUnderlying222 Z zD) (oL Z (ae.ldB (j:=0) Z Z Z zP (v:=jV p0.hi) Z) (bnK hm fun x7 h8 a8=>yT (a:=p1) Z Z Z Z Z Z (zB Z zM) ae aX ⟨af,ag,Z,aZ⟩ h8 ?_)))))))
 rintro aj bb bi an bg aw ⟨rfl,rfl⟩
 have ax:sW w U aj [.blk b2 222 B0] an:=aw
 refine bnK a8 fun bl au a7=>zL 0 Z Z Z Z (zK Z Z yL (zB Z (zB Z (zB Z zM))) Z) ax (fun hs=>wCR x7 p0.lo p0.hi an aj hs au) (.inr Z) ?_
 rintro ak be bj aq bh ay ⟨rfl,rfl⟩
 have az:sW w U ak [.blk b2 222 B0] aq:=ay
 refine oA Z Z (eN (zO ?_))
 have hE:=nA a7;first | subst r | cases hE
 exact ⟨rfl,_,(zr rfl),ak,_,(az.pick [] _ (by decide) rfl),rfl,rfl⟩
theorem wEo (p0:wAQ) (ac:Value) (p1:(wAQ->Option Bool)) (aj:Nat) (ag:Value) (w:World) (U:PHeap) (hS:St0 w U []) (aq:FnOK Tryz.prog U ac wIj wIk p0.of) (au:Cl U aj 0 [ag]) (av:FnOK Tryz.prog U ag wLA wLB p1) {r:Bool} (hm:wAx p0 p1=some r):Gv Tryz.prog 176 [.agg #[ac,jV p0.lo,jV p0.hi],.pointer (some ⟨aj,0,none⟩)] w (wBU w [] U (fun U_ L_ v=>v=.bool r/\L_=[])):=by
 unfold wAx at hm
 refine Gv.of Tryz.func176 Z Tryz.ntmps176 Tryz.results176 Z (sR gAi Z ?_)
 let B0:List Value:=[ac,jV p0.lo,jV p0.hi]
 refine ZS (cs:=B0) rfl rfl rfl rfl rfl rfl (by rfl) hS ?_
 intro W1 b2 af
 refine oA Z Z (eN (sR gAx Z (oL Z (af.ldC (f:=0) au (v:=ag) Z Z Tryz.isAgg225 Z) (oL Z (af.ldBA (j:=0) Z Z Z Tryz.isAgg222 Tryz.sizeOf222 (vs:=B0) Z Z) (bnK hm fun x5 h6 aw=>yT (a:=p0) Z Z Z Z Z Z (zB Z zM) af av ⟨ac,Z,aq⟩ h6 ?_)))))
 rintro U8 L9 aW ak az ao ⟨rfl,rfl⟩
 have ap:sW w U U8 [.blk b2 222 B0] ak:=ao
 refine oR Z (ZN Z Z) (oA Z Z (eN (zO ?_)))
 cases aw
 exact ⟨rfl,_,(zr rfl),U8,_,(ap.pick [] _ (by decide) rfl),rfl,rfl⟩
theorem wDM (p0:List wAQ) (ao:Option Addr) (ap:Nat) (p1:(wAQ->Option Bool)) (aq:Value) (w:World) (U:PHeap) (hS:St0 w U []) (bs:SlR U wHt ao ap p0) (bt:FnOK Tryz.prog U aq wLA wLB p1) {r:Int} (hm:wAn p0 p1=some r):Gv Tryz.prog 201 [.slice ao p0.length ap,aq] w (wBU w [] U (fun U_ L_ v=>v=jV r/\L_=[])):=by
 unfold wAn at hm
 refine Gv.of Tryz.func201 Z Tryz.ntmps201 Tryz.results201 Z (sR fL1 Z (oA Z Z (eN (zG (sR fL3 Z (oM Z Z (oR Z (za Z Z Tryz.runUnderlying223) (oM Z Z (eN (zT ?_))))))))))
 have q:=wBe hm
 obtain ⟨r3,aj⟩:=q
 have q:=wBd aj
 obtain ⟨am,bw⟩:=q
 replace am:=zF am
 refine yA (fun k2 _ σ_ w_=>∃ (U_:PHeap),σ_ 8=jV (↑k2:Int)/\σ_ 0=.slice ao p0.length ap/\σ_ 1=aq/\σ_ 7=jV (↑p0.length:Int)/\PHeap.Le U U_/\sW w U U_ [] w_) bw ?_ ?_ ?_
 exact ⟨U,Z,Z,Z,Z,(zH _),hS⟩
 rintro k2 ⟨⟩ bS bU W8 ak ⟨a8,ah,aw,ax,ay,an,aW⟩ aZ bu
 try dsimp only at aZ
 have av:Hid ((↑k2:Int) < (↑p0.length:Int)):=zF (wAo ak)
 replace ak:=zF ak
 have bx:Hid (w64 ((↑k2:Int) + 1)=(↑(k2 + 1):Int)):=zF (by have h1:=am.out;have h2:=av.out;rw [wAT] <;> omega)
 refine sR fL1 Z (oR Z (zU Z ah ay) (eN (zG (cT Z av (kN (zG (zT (sR fL2 Z (oM Z ah (oA Z Z (eN (sR (wHS (.fx 5 .nil .stop)) Z (oM Z ax (oM Z aw (oM Z Z (bnK aZ fun ae az bz=>?_))))))))))))))))
 have bj:=bs.le an
 have q:=bj.el (wAR az)
 obtain ⟨be,bG,bQ,bp,ai,bE⟩:=q
 obtain ⟨au,rfl,bl⟩:=bE
 replace ai:Cl a8 be (bG + k2 * 3) [au,jV ae.lo,jV ae.hi]:=ai
 refine oR Z (zo Z Z bp Z Tryz.runUnderlying223 Tryz.sizeOf222 (wAj az)) (oL Z (aW.ldCA (f:=0) ai Z Z Tryz.isAgg222 Tryz.sizeOf222 (us:=[au,jV ae.lo,jV ae.hi]) Z Z) (bnK bz fun bR bm bA=>?_))
 have bn:=bt.le an
 refine yT (a:=ae) Z Z Z Z Z Z (zB Z zM) aW bn ⟨au,Z,bl⟩ bm ?_
 rintro af bI bP bb bF bq ⟨rfl,rfl⟩
 have aX:sW w U af [] bb:=bq
 refine eN (ifc bA ?_ ?_)
 intro ag bB
 refine ZF (congrArg nB ag.out) (sR fL2 Z (oM Z Z (oA Z Z (eN (zO (zf (zR ?_)))))))
 have q:=wAf bB
 obtain ⟨bH,bC,bg⟩:=q
 have q:=wCI hm aj (bu bH bg)
 obtain rfl:=q
 refine zR (zf (zR ?_))
 cases bC
 exact ⟨Z,_,(zr Z),af,_,aX,Z,Z⟩
 intro ag bD
 refine zm (congrArg nB (nD.2 ag.out)) (ZV (zb (zI (rR fL2 Z (oR Z (zn (zX Z ah Z) (congrArg (jV) bx.out)) (oM Z Z (zg ?_)))))))
 have q:=nA bD
 obtain rfl:=q
 exact zI ⟨Z,_,Z,⟨af,Z,aw,ax,ay,(an.trans bF),aX⟩⟩
 rintro ⟨⟩ bT bJ ⟨ba,bi,bL,bM,bh,bN,br⟩ bv
 have aY:=wCm hm aj bv
 try dsimp only at aY
 have bf:Hid (¬ ((↑(((↑p0.length:Int):Int) - 0).toNat:Int) < (↑p0.length:Int))):=zF (wAa)
 refine sR fL1 Z (oR Z (zU Z bi bh) (eN (zG (cF Z bf (ZI (zY (zY (ZD (zI (sR fL1 Z (oA Z Z (eN (zO ?_)))))))))))))
 cases aY
 exact ⟨Z,_,(zr Z),ba,_,br,Z,Z⟩
theorem wDC (p0:List wAQ) (ae:Option Addr) (af:Nat) (p1:(wAQ->Option Bool)) (ag:Value) (w:World) (U:PHeap) (hS:St0 w U []) (ao:SlR U wHt ae af p0) (ap:FnOK Tryz.prog U ag wLA wLB p1) {r:Bool} (hm:wAk p0 p1=some r):Gv Tryz.prog 175 [.slice ae p0.length af,ag] w (wBU w [] U (fun U_ L_ v=>v=.bool r/\L_=[])):=by
 unfold wAk at hm
 refine Gv.of Tryz.func175 Z Tryz.ntmps175 Tryz.results175 Z (sR fL1 Z (oA Z Z (eN (sR gAx Z (oM Z Z (oM Z Z (bnK hm fun x1 h2 ai=>zL 0 Z Z Z Z (zK Z Z Tryz.call201 (zB Z (zB Z zM)) Z) hS (fun hs=>wDM p0 ae af p1 ag w U hs ao ap h2) (.inr Z) ?_)))))))
 rintro U4 L5 v6 W7 au an ⟨rfl,rfl⟩
 have am:sW w U U4 [] W7:=an
 refine oR Z (yo Z Z Z) (oA Z Z (eN (zO ?_)))
 first | (obtain rfl:=nA ai) | cases ai
 exact ⟨Z,_,(zr Z),U4,_,am,Z,Z⟩
theorem wFJ (p0:List wAQ) (ai:Option Addr) (aj:Nat) (p1:(wAQ->Option Bool)) (af:Value) (w:World) (U:PHeap) (hS:St0 w U []) (aZ:SlR U wHt ai aj p0) (an:FnOK Tryz.prog U af wLA wLB p1) {r:Bool} (hm:wBa p0 p1=some r):Gv Tryz.prog 135 [.slice ai p0.length aj,af] w (wBU w [] U (fun U_ L_ v=>v=.bool r/\L_=[])):=by
 unfold wBa at hm
 refine Gv.of Tryz.func135 Z Tryz.ntmps135 Tryz.results135 Z (sR gAi Z (ZS (cs:=[af]) Z Z Z Z Z Z (FnOK.cells an) hS ?_))
 intro W1 b2 aW
 have q:=aW.freeze (k:=0) rfl
 obtain ⟨U5,ao,ac,aX⟩:=q
 replace ac:=Cl.of ac
 have aY:sW w U U5 [] W1:=aX
 replace ac:Cl U5 b2 0 [af]:=ac
 refine oA Z Z (eN (sR gAx Z (oM Z Z (oR Z (yW Z zM (zB Z zM)) ?_))))
 have au:=aZ.le ao
 have av:=an.le ao
 have ax:FnOK Tryz.prog U5 (.func (.func 176) #[] #[.pointer (some ⟨b2,0,none⟩)]) wLA wLB (fun x=>wAx x p1):=⟨176,[],[.pointer (some ⟨b2,0,none⟩)],rfl,Tryz.call176,fun U1 w1 x y vs le hs ha hm=>by obtain ⟨pv_0_0,rfl,hq0_0⟩:=ha;exact wEo x pv_0_0 p1 b2 af w1 U1 hs hq0_0 (ac.le le) (av.le le) hm⟩
 refine bnK hm fun bf aw a7=>zL 0 Z Z Z Z (zK Z Z Tryz.call175 (zB Z (zB Z zM)) Z) aY (fun hs=>wDC p0 ai aj (fun x=>wAx x p1) (.func (.func 176) #[] #[.pointer (some ⟨b2,0,none⟩)]) W1 U5 hs au ax aw) (.inr Z) ?_
 rintro ak ba be aq bb ay ⟨rfl,rfl⟩
 have az:sW w U ak [] aq:=ay
 refine oR Z (ZN Z Z) (oA Z Z (eN (zO ?_)))
 cases a7
 exact ⟨Z,_,(zr Z),ak,_,az,Z,Z⟩
theorem wEw (p0:wAJ) (ae:Option Addr) (af:Nat) (w:World) (U:PHeap) (hS:St0 w U []) (bJ:Sl U 1 ae af p0.Classes.length (hM KL.encI p0.Classes)) {r:Int} (hm:wCN p0=some r):Gv Tryz.prog 99 [.agg #[.slice ae p0.Classes.length af,jV p0.Each,jV p0.Laps,jV p0.Spare,jV p0.Loop,jV p0.Unused]] w (wBU w [] U (fun U_ L_ v=>v=jV r/\L_=[])):=by
 unfold wCN at hm
 refine Gv.of Tryz.func99 Z Tryz.ntmps99 Tryz.results99 Z (sR gAi Z ?_)
 let B0:List Value:=[.slice ae p0.Classes.length af,jV p0.Each,jV p0.Laps,jV p0.Spare,jV p0.Loop,jV p0.Unused]
 refine ZS (cs:=B0) rfl rfl rfl rfl rfl rfl (by rfl) hS ?_
 intro W1 b2 bB
 have q:=bB.freeze (k:=0) rfl
 obtain ⟨U5,bV,ag,bI⟩:=q
 replace ag:=Cl.of ag
 have a8:sW w U U5 [] W1:=bI
 replace ag:Cl U5 b2 0 B0:=ag
 refine oA Z Z (eN (zG (zT (sR (wDE (.fx 3 gAd .stop)) Z (oR Z (zJ Z Z zy Z zS) (oL Z (a8.ldC (f:=0) ag (v:=.slice ae p0.Classes.length af) Z Z zc Z) (oR Z (za Z Z zA) (bnK hm fun cj bl bK=>zL 0 Z Z Z Z (zK Z Z yL (zB Z (zB Z (zB Z zM))) Z) a8 (fun hs=>wCR (↑p0.Classes.length:Int) 1 4 W1 U5 hs bl) (.inr Z) ?_))))))))
 rintro ai bY cd ay ba bA ⟨rfl,rfl⟩
 have au:sW w U ai [] ay:=bA
 refine oR Z (ZN Z Z) (oA Z Z (eN (ifc bK ?_ ?_)))
 intro ap bL
 refine zm (nC ap.out) (sR (.fl 0 (.fl 1 (.fx 2 (.fl 3 (.fl 4 (.fx 5 (.fl 6 (.fx 7 (wJf (.nil)) .stop)) .stop))) .stop))) Z (oR Z (zJ Z Z zy Z zS) ?_))
 have aX:=ag.le ba
 refine oL Z (au.ldC (f:=0) aX (v:=.slice ae p0.Classes.length af) Z Z zc Z) ?_
 have bm:=bJ.le bV
 have aY:=bm.le ba
 refine bnK bL fun cm bn bM=>zL 0 Z Z Z Z (zK Z Z Tryz.call103 (zB Z zM) Z) au (fun hs=>wEj p0.Classes ae af ay ai hs aY bn) (.inr Z) ?_
 rintro aj bZ cg az bb bC ⟨rfl,rfl⟩
 have aZ:sW w U aj [] az:=bC
 refine oR Z (ZN Z Z) (oM Z Z (ifc bM ?_ ?_))
 intro ac bN
 refine bnK bN fun bX bp bO=>zL 0 Z Z Z (zQ Z Z (nC ac.out)) (zK Z Z Tryz.call136 zM Z) aZ (fun hs=>wIQ az aj hs bp) (.inr Z) ?_
 rintro bh b4 ch ao be bD ⟨av,aW,bj,rfl,rfl,bq⟩
 have bE:sW w U bh [.row av aW 222 3 bj] ao:=bD
 refine zh Z Z Z (zQ Z Z (nC ac.out)) (fun _=>yW Z zM (zB Z zM)) ?_
 have q:=bE.freezeRR (R:=wHt) (k:=0) rfl bq rfl (by decide)
 obtain ⟨am,bf,bU,bF⟩:=q
 have bG:sW w U am [] ao:=bF
 have br:=aX.le bb
 have bs:=br.le be
 have bt:=bs.le bf
 have bu:=aY.le bb
 have bv:=bu.le be
 have bw:=bv.le bf
 have bz:FnOK Tryz.prog am (.func (.func 137) #[] #[.pointer (some ⟨b2,0,none⟩)]) wLA wLB (fun x=>wBn x p0):=⟨137,[],[.pointer (some ⟨b2,0,none⟩)],rfl,Tryz.call137,fun U1 w1 x y vs le hs ha hm=>by obtain ⟨pv_0_0,rfl,hq0_0⟩:=ha;exact wGH x pv_0_0 p0 b2 ae af w1 U1 hs hq0_0 (bt.le le) (bw.le le) hm⟩
 refine bnK bO fun co bx bP=>zL 0 Z Z Z (zQ Z Z (nC ac.out)) (zK Z Z Tryz.call135 (zB Z (zB Z zM)) Z) bG (fun hs=>wFJ bX av aW (fun x=>wBn x p0) (.func (.func 137) #[] #[.pointer (some ⟨b2,0,none⟩)]) ao am hs bU bz bx) (.inr Z) ?_
 rintro an ca ci bi cc bH ⟨rfl,rfl⟩
 have a7:sW w U an [] bi:=bH
 refine zh Z Z Z (zQ Z Z (nC ac.out)) (fun _=>ZN Z Z) (oR Z (zZ Z (nC ac.out) Z) (oA Z Z (eN (ifc bP ?_ ?_))))
 intro aq bQ
 refine zm (nC aq.out) (ZV (zb (zI (sR fL1 Z (oA Z Z (eN (zO ?_)))))))
 cases bQ
 exact ⟨Z,_,(zr Z),an,_,a7,Z,Z⟩
 intro aq bR
 refine ZF (nF (aq.out)) (sR fL1 Z (oA Z Z (eN (zO (zf (zR ?_))))))
 cases bR
 exact ⟨Z,_,(zr Z),an,_,a7,Z,Z⟩
 intro ac bS
 refine ZA Z Z Z (zN Z Z (nF (ac.out)) Z) (zd Z Z Z (zN Z Z (nF (ac.out)) Z) (ZA Z Z Z (zN Z Z (nF (ac.out)) Z) (zd Z Z Z (zN Z Z (nF (ac.out)) Z) (oR Z (zV Z (nF (ac.out)) Z) (oA Z Z (eN (ZF Z (sR fL1 Z (oA Z Z (eN (zO (zf (zR ?_)))))))))))))
 cases bS
 exact ⟨Z,_,(zr Z),aj,_,aZ,Z,Z⟩
 intro ap bT
 refine ZF (nF (ap.out)) (sR fL1 Z (oA Z Z (eN (zO (zf (zR ?_))))))
 cases bT
 exact ⟨Z,_,(zr Z),ai,_,au,Z,Z⟩
theorem wGU (p0:wAJ) (bb:Option Addr) (bf:Nat) (p1:wAD) (be:Option Addr) (bg:Nat) (am:Option Addr) (ao:Nat) (w:World) (U:PHeap) (hS:St0 w U []) (cW:Sl U 1 bb bf p0.Classes.length (hM KL.encI p0.Classes)) (cX:Sl U 1 be bg p1.Classes.length (hM KL.encI p1.Classes)) (bY:SlR U wFe am ao p1.Legs) {r:Bool} (hm:wBX p0 p1=some r):Gv Tryz.prog 101 [.agg #[.slice bb p0.Classes.length bf,jV p0.Each,jV p0.Laps,jV p0.Spare,jV p0.Loop,jV p0.Unused],.agg #[jV p1.Bib,.slice be p1.Classes.length bg,.slice am p1.Legs.length ao]] w (wBU w [] U (fun U_ L_ v=>v=.bool r/\L_=[])):=by
 unfold wBX at hm
 refine Gv.of Tryz.func101 Z Tryz.ntmps101 Tryz.results101 Z (sR (.fx 0 gAh .stop) Z ?_)
 let B0:List Value:=[.slice bb p0.Classes.length bf,jV p0.Each,jV p0.Laps,jV p0.Spare,jV p0.Loop,jV p0.Unused]
 refine ZS (cs:=B0) rfl rfl rfl rfl rfl rfl (by rfl) hS ?_
 intro W1 b2 bV
 let B1:List Value:=[jV p1.Bib,.slice be p1.Classes.length bg,.slice am p1.Legs.length ao]
 refine ZS (cs:=B1) rfl rfl rfl rfl rfl rfl (by rfl) bV ?_
 intro W5 b6 bx
 refine oA Z Z (eN (zG (sR (wDE (.fx 3 (wNd (.nil)) .stop)) Z (oR Z (zJ Z Z zk Z zS) (oL Z (bx.ldB (j:=0) Z Z Z zc (v:=.slice be p1.Classes.length bg) Z) (oR Z (za Z Z zA) (bnK hm fun x9 bP ca=>zL 0 Z Z Z Z (zK Z Z yL (zB Z (zB Z (zB Z zM))) Z) bx (fun hs=>wCR (↑p1.Classes.length:Int) 1 8 W5 U hs bP) (.inr Z) ?_)))))))
 rintro ax cL c6 bD cE bU ⟨rfl,rfl⟩
 have aq:sW w U ax [.blk b6 43 B1,.blk b2 25 B0] bD:=bU
 refine oR Z (ZN Z Z) (oM Z Z (ifc ca ?_ ?_))
 intro ag cd
 refine zh Z Z Z (zQ Z Z (nC ag.out)) (fun _=>zJ Z Z zk Z Zd) (ZO Z Z Z (zQ Z Z (nC ag.out)) (aq.ldB (j:=0) Z Z Z yE (v:=.slice am p1.Legs.length ao) Z) Z (zh Z Z Z (zQ Z Z (nC ag.out)) (fun _=>za Z Z ZM) (zh Z Z Z (zQ Z Z (nC ag.out)) (fun _=>zJ Z Z zy Z zS) (ZO Z Z Z (zQ Z Z (nC ag.out)) (aq.ldB (j:=1) Z Z Z zc (v:=.slice bb p0.Classes.length bf) Z) Z (zh Z Z Z (zQ Z Z (nC ag.out)) (fun _=>za Z Z zA) (zh Z Z Z (zQ Z Z (nC ag.out)) (fun _=>yN Z Z Z) (oR Z (zZ Z (nC ag.out) Z) (eN (ifc cd ?_ ?_)))))))))
 intro bh cg
 refine cT Z bh (sR fL1 Z (oA Z Z (eN (zO (zR ?_)))))
 have hE:=nA cg;first | subst r | cases hE
 exact ⟨rfl,_,(zr rfl),ax,_,(aq.pick [] _ (by decide) rfl),rfl,rfl⟩
 intro bh av
 refine cF Z bh (kN (zG (sR fL4 Z (oR Z (zJ Z Z zk Z Zd) (oL Z (aq.ldB (j:=0) Z Z Z yE (v:=.slice am p1.Legs.length ao) Z) (oR Z (za Z Z ZM) (oM Z Z (eN (zT ?_)))))))))
 have q:=wBe av
 obtain ⟨cZ,au⟩:=q
 have q:=wBd au
 obtain ⟨br,b4⟩:=q
 replace br:=zF br
 refine yA (fun aw _ σ_ w_=>∃ (U_:PHeap),σ_ 24=jV (↑aw:Int)/\σ_ 2=.pointer (some ⟨b2,0,none⟩)/\σ_ 3=.pointer (some ⟨b6,0,none⟩)/\σ_ 22=.slice am p1.Legs.length ao/\σ_ 23=jV (↑p1.Legs.length:Int)/\PHeap.Le ax U_/\sW w U U_ [.blk b6 43 B1,.blk b2 25 B0] w_) b4 ?_ ?_ ?_
 exact ⟨ax,Z,Z,Z,Z,Z,(zH _),aq⟩
 rintro aw ⟨⟩ da db cN bq ⟨ak,ay,a8,bl,bm,bn,bs,bw⟩ bB ba
 try dsimp only at bB
 have bu:Hid ((↑aw:Int) < (↑p1.Legs.length:Int)):=zF (wAo bq)
 replace bq:=zF bq
 have bz:Hid (w64 ((↑aw:Int) + 1)=(↑(aw + 1):Int)):=zF (by have h1:=br.out;have h2:=bu.out;rw [wAT] <;> omega)
 refine sR fL1 Z (oR Z (zU Z ay bn) (eN (zG (cT Z bu (kN (zG (zT (sR (wDE gAp) Z (oM Z ay (bnK bB fun aj bv ch=>?_))))))))))
 have bQ:=bY.le cE
 have bR:=bQ.le bs
 have q:=bR.el (wAR bv)
 obtain ⟨bG,cG,c7,bS,bp,cD⟩:=q
 obtain ⟨an,ap,az,aW,rfl,cU,cV⟩:=cD
 replace bp:Cl ak bG (cG + aw * 3) [jV aj.Skier,.slice an aj.Loops.length ap,.slice az aj.Bouts.length aW]:=bp
 refine oR Z (zo Z bm bS ay ZM ZJ (wAj bv)) (oL Z (bw.ldCA (f:=0) bp Z Z yP ZJ (us:=[jV aj.Skier,.slice an aj.Loops.length ap,.slice az aj.Bouts.length aW]) Z Z) (zz (cs:=[jV 0,.slice none 0 0,.slice none 0 0]) Z Z Z Z Z ZT Z bw ?_))
 intro cO bH bW
 refine oA Z Z ?_
 let B2:List Value:=[jV aj.Skier,.slice an aj.Loops.length ap,.slice az aj.Bouts.length aW]
 refine zu (j:=0) (vs:=B2) Z Z Z Z bW Z Z Z Z ZJ (zC Z) Z Z Z ?_
 intro bF bX
 have ai:sW w U ak [.blk bH 46 B2,.blk b6 43 B1,.blk b2 25 B0] bF:=bX
 refine eN (sR fL33 Z (oR Z (zJ Z Z ZB Z zS) (oL Z (ai.ldB (j:=0) Z Z Z zc (v:=.slice an aj.Loops.length ap) Z) (oR Z (za Z Z zA) (oR Z (zJ Z a8 zy Z zD) (oL Z (ai.ldB (j:=2) Z Z Z zP (v:=jV p0.Laps) Z) (oR Z (yN Z Z Z) (oM Z Z (ifc ch ?_ ?_)))))))))
 intro aa ci
 refine oT Z aa (oT Z aa (oT Z aa (oT Z aa (oT Z aa (oT Z aa (oT Z aa (zd Z Z Z (wAU Z Z Z) (zd Z Z Z (wAU Z Z Z) (zd Z Z Z (wAU Z Z Z) (zd Z Z Z (wAU Z Z Z) (zd Z Z Z (wAU Z Z Z) (zd Z Z Z (wAU Z Z Z) (oT Z aa (oR Z (zV Z (Zj aa.out) Z) (oM Z Z (oN Z (oN Z (oN Z (oN Z (oN Z (oN Z (oN Z (oN Z (oN Z (oR Z (zV Z Z Z) (eN (ZF Z (sR fL1 Z (oA Z Z (eN (zO (zf (zR ?_)))))))))))))))))))))))))))))))))
 have q:=wAf ci
 obtain ⟨cH,cj,bJ⟩:=q
 have q:=wCI av au (ba cH bJ)
 obtain rfl:=q
 refine zR (zf (zR ?_))
 have hE:=nA cj;first | subst r | cases hE
 exact ⟨rfl,_,(zr rfl),ak,_,(ai.pick [] _ (by decide) rfl),rfl,rfl⟩
 intro aa cm
 refine zj Z Z Z (wF Z aa) Z Z (rU Z (wF Z aa) (zJ Z bl zk Z Zd) (ZO Z Z Z (wF Z aa) (ai.ldB (j:=1) Z Z Z yE (v:=.slice am p1.Legs.length ao) Z) Z (rU Z (wF Z aa) (za Z Z ZM) (rU Z (wF Z aa) (Zx Z Z Z) (rU Z (wF Z aa) (zU Z Z Z) (zj Z Z Z (wF Z aa) Z Z (ifc cm ?_ ?_)))))))
 intro ah co
 refine rU Z (wT Z ah) (zJ Z Z ZB Z zS) (ZO Z Z Z (wT Z ah) (ai.ldB (j:=0) Z Z Z zc (v:=.slice an aj.Loops.length ap) Z) Z (rU Z (wT Z ah) (za Z Z zA) (rU Z (wT Z ah) (zJ Z a8 zy Z zD) (ZO Z Z Z (wT Z ah) (ai.ldB (j:=2) Z Z Z zP (v:=jV p0.Laps) Z) Z (rU Z (wT Z ah) (zU Z Z Z) (rU Z (wF Z aa) (zV Z (Zj ah.out) Z) (oR Z (zZ Z (zw aa.out) Z) (oM Z Z (ifc co ?_ ?_)))))))))
 intro ac cp
 refine oT Z ac (oT Z ac (oT Z ac (oT Z ac (oT Z ac (oT Z ac (oT Z ac (oT Z ac (oT Z ac (oR Z (zV Z (Zj ac.out) Z) (eN (ZF Z (sR fL1 Z (oA Z Z (eN (zO (zf (zR ?_)))))))))))))))))
 have q:=wAf cp
 obtain ⟨cI,cq,bK⟩:=q
 have q:=wCI av au (ba cI bK)
 obtain rfl:=q
 refine zR (zf (zR ?_))
 have hE:=nA cq;first | subst r | cases hE
 exact ⟨rfl,_,(zr rfl),ak,_,(ai.pick [] _ (by decide) rfl),rfl,rfl⟩
 intro ac cr
 refine rU Z (wF Z ac) (zJ Z Z ZB Z yK) (ZO Z Z Z (wF Z ac) (ai.ldB (j:=0) Z Z Z yu (v:=.slice az aj.Bouts.length aW) Z) Z (rU Z (wF Z ac) (za Z Z ZZ) (rU Z (wF Z ac) (zJ Z Z ZB Z zS) (ZO Z Z Z (wF Z ac) (ai.ldB (j:=0) Z Z Z zc (v:=.slice an aj.Loops.length ap) Z) Z (rU Z (wF Z ac) (za Z Z zA) (rU Z (wF Z ac) (Zx Z Z Z) (rU Z (wF Z ac) (Runs.max Z Z Z) (rU Z (wF Z ac) (ZW Z Z Z) (oR Z (zZ Z (zw ac.out) Z) (eN (ifc cr ?_ ?_)))))))))))
 intro bi ct
 refine zm (zw (fun h=>h bi.out)) (ZV (zb (zI (rR fL2 Z (oR Z (zn (zX Z ay Z) (congrArg (jV) bz.out)) (oM Z Z (zg ?_)))))))
 have q:=nA ct
 obtain rfl:=q
 exact zI ⟨rfl,_,rfl,⟨ak,rfl,a8,bl,bm,bn,bs,(ai.pick [1,2] _ (by decide) rfl)⟩⟩
 intro bi cu
 refine cT Z bi (sR fL1 Z (oA Z Z (eN (zO (zf (zR ?_))))))
 have q:=wAf cu
 obtain ⟨cJ,cw,bL⟩:=q
 have q:=wCI av au (ba cJ bL)
 obtain rfl:=q
 refine zR (zf (zR ?_))
 have hE:=nA cw;first | subst r | cases hE
 exact ⟨rfl,_,(zr rfl),ak,_,(ai.pick [] _ (by decide) rfl),rfl,rfl⟩
 intro ah cy
 refine oF Z ah (oF Z ah (oF Z ah (oF Z ah (oF Z ah (oF Z ah (rU Z (wF Z aa) (zZ Z (zw ah.out) Z) (oR Z (zZ Z (zw aa.out) Z) (oM Z Z (zh Z Z Z (zQ Z Z Z) (fun _=>zJ Z Z ZB Z yK) (ZO Z Z Z (zQ Z Z Z) (ai.ldB (j:=0) Z Z Z yu (v:=.slice az aj.Bouts.length aW) Z) Z (zh Z Z Z (zQ Z Z Z) (fun _=>za Z Z ZZ) (zh Z Z Z (zQ Z Z Z) (fun _=>zJ Z Z ZB Z zS) (ZO Z Z Z (zQ Z Z Z) (ai.ldB (j:=0) Z Z Z zc (v:=.slice an aj.Loops.length ap) Z) Z (zh Z Z Z (zQ Z Z Z) (fun _=>za Z Z zA) (zh Z Z Z (zQ Z Z Z) (fun _=>Zx Z Z Z) (zh Z Z Z (zQ Z Z Z) (fun _=>Runs.max Z Z Z) (zh Z Z Z (zQ Z Z Z) (fun _=>ZW Z Z Z) (oR Z (zZ Z Z Z) (eN (ifc cy ?_ ?_))))))))))))))))))))
 intro bj cz
 refine zm (zw (fun h=>h bj.out)) (ZV (zb (zI (rR fL2 Z (oR Z (zn (zX Z ay Z) (congrArg (jV) bz.out)) (oM Z Z (zg ?_)))))))
 have q:=nA cz
 obtain rfl:=q
 exact zI ⟨rfl,_,rfl,⟨ak,rfl,a8,bl,bm,bn,bs,(ai.pick [1,2] _ (by decide) rfl)⟩⟩
 intro bj cA
 refine cT Z bj (sR fL1 Z (oA Z Z (eN (zO (zf (zR ?_))))))
 have q:=wAf cA
 obtain ⟨cK,cC,bM⟩:=q
 have q:=wCI av au (ba cK bM)
 obtain rfl:=q
 refine zR (zf (zR ?_))
 have hE:=nA cC;first | subst r | cases hE
 exact ⟨rfl,_,(zr rfl),ak,_,(ai.pick [] _ (by decide) rfl),rfl,rfl⟩
 rintro ⟨⟩ dd cP ⟨bC,bO,cQ,cR,cS,bN,cY,bT⟩ bZ
 have bA:=wCm av au bZ
 try dsimp only at bA
 have bI:Hid (¬ ((↑(((↑p1.Legs.length:Int):Int) - 0).toNat:Int) < (↑p1.Legs.length:Int))):=zF (wAa)
 refine sR fL1 Z (oR Z (zU Z bO bN) (eN (zG (cF Z bI (ZI (zY (zY (ZD (zI (sR fL1 Z (oA Z Z (eN (zO ?_)))))))))))))
 have hE:=nA bA;first | subst r | cases hE
 exact ⟨rfl,_,(zr rfl),bC,_,(bT.pick [] _ (by decide) rfl),rfl,rfl⟩
 intro ag cc
 refine zd Z Z Z (zN Z Z (nF (ag.out)) Z) (zd Z Z Z (zN Z Z (nF (ag.out)) Z) (zd Z Z Z (zN Z Z (nF (ag.out)) Z) (zd Z Z Z (zN Z Z (nF (ag.out)) Z) (zd Z Z Z (zN Z Z (nF (ag.out)) Z) (zd Z Z Z (zN Z Z (nF (ag.out)) Z) (zd Z Z Z (zN Z Z (nF (ag.out)) Z) (oR Z (zV Z (nF (ag.out)) Z) (eN (ZF Z (sR fL1 Z (oA Z Z (eN (zO (zR ?_))))))))))))))
 have hE:=nA cc;first | subst r | cases hE
 exact ⟨rfl,_,(zr rfl),ax,_,(aq.pick [] _ (by decide) rfl),rfl,rfl⟩
end Go.Proofs.YtnbcoenjobdplaaGreat
namespace Go.Proofs.YtnbcoenjobdplaaGreat
open Go.KL
set_option maxHeartbeats 4000000
theorem wFB (p0:wAD) (ac:Option Addr) (af:Nat) (ae:Option Addr) (ag:Nat) (p1:(wAD->Option Bool)) (an:Nat) (aj:Value) (w:World) (U:PHeap) (hS:St0 w U []) (aw:Sl U 1 ac af p0.Classes.length (hM KL.encI p0.Classes)) (ax:SlR U wFe ae ag p0.Legs) (ay:Cl U an 0 [aj]) (az:FnOK Tryz.prog U aj wJv wJw p1) {r:Bool} (hm:wAz p0 p1=some r):Gv Tryz.prog 139 [.agg #[jV p0.Bib,.slice ac p0.Classes.length af,.slice ae p0.Legs.length ag],.pointer (some ⟨an,0,none⟩)] w (wBU w [] U (fun U_ L_ v=>v=.bool r/\L_=[])):=by
 unfold wAz at hm
 refine Gv.of Tryz.func139 Z Tryz.ntmps139 Tryz.results139 Z (sR gAi Z ?_)
 let B0:List Value:=[jV p0.Bib,.slice ac p0.Classes.length af,.slice ae p0.Legs.length ag]
 refine ZS (cs:=B0) rfl rfl rfl rfl rfl rfl (by rfl) hS ?_
 intro W1 b2 ai
 refine oA Z Z (eN (sR gAx Z (oL Z (ai.ldC (f:=0) ay (v:=aj) Z Z Tryz.isAgg191 Z) (oL Z (ai.ldBA (j:=0) Z Z Z yC ZE (vs:=B0) Z Z) (bnK hm fun x5 h6 aW=>yT (a:=p0) Z Z Z Z Z Z (zB Z zM) ai az ⟨ac,af,ae,ag,Z,aw,ax⟩ h6 ?_)))))
 rintro U8 L9 a7 ao aZ au ⟨rfl,rfl⟩
 have av:sW w U U8 [.blk b2 43 B0] ao:=au
 refine oR Z (ZN Z Z) (oA Z Z (eN (zO ?_)))
 cases aW
 exact ⟨rfl,_,(zr rfl),U8,_,(av.pick [] _ (by decide) rfl),rfl,rfl⟩
theorem wDW (p0:List wAD) (ao:Option Addr) (au:Nat) (p1:(wAD->Option Bool)) (ax:Value) (w:World) (U:PHeap) (hS:St0 w U []) (bw:SlR U wFF ao au p0) (bx:FnOK Tryz.prog U ax wJv wJw p1) {r:Int} (hm:wAq p0 p1=some r):Gv Tryz.prog 182 [.slice ao p0.length au,ax] w (wBU w [] U (fun U_ L_ v=>v=jV r/\L_=[])):=by
 unfold wAq at hm
 refine Gv.of Tryz.func182 Z Tryz.ntmps182 Tryz.results182 Z (sR fL1 Z (oA Z Z (eN (zG (sR fL3 Z (oM Z Z (oR Z (za Z Z ZC) (oM Z Z (eN (zT ?_))))))))))
 have q:=wBe hm
 obtain ⟨r3,aj⟩:=q
 have q:=wBd aj
 obtain ⟨am,bB⟩:=q
 replace am:=zF am
 refine yA (fun k2 _ σ_ w_=>∃ (U_:PHeap),σ_ 8=jV (↑k2:Int)/\σ_ 0=.slice ao p0.length au/\σ_ 1=ax/\σ_ 7=jV (↑p0.length:Int)/\PHeap.Le U U_/\sW w U U_ [] w_) bB ?_ ?_ ?_
 exact ⟨U,Z,Z,Z,Z,(zH _),hS⟩
 rintro k2 ⟨⟩ bW bY W8 ak ⟨be,ah,az,aW,aX,an,aZ⟩ ba bz
 try dsimp only at ba
 have ay:Hid ((↑k2:Int) < (↑p0.length:Int)):=zF (wAo ak)
 replace ak:=zF ak
 have bC:Hid (w64 ((↑k2:Int) + 1)=(↑(k2 + 1):Int)):=zF (by have h1:=am.out;have h2:=ay.out;rw [wAT] <;> omega)
 refine sR fL1 Z (oR Z (zU Z ah aX) (eN (zG (cT Z ay (kN (zG (zT (sR fL2 Z (oM Z ah (oA Z Z (eN (sR (wHS (.fx 5 .nil .stop)) Z (oM Z aW (oM Z az (oM Z Z (bnK ba fun ac aY bD=>?_))))))))))))))))
 have bn:=bw.le an
 have q:=bn.el (wAR aY)
 obtain ⟨bh,bK,bU,bt,ai,bI⟩:=q
 obtain ⟨ap,av,aq,aw,rfl,bp,bq⟩:=bI
 replace ai:Cl be bh (bK + k2 * 3) [jV ac.Bib,.slice ap ac.Classes.length av,.slice aq ac.Legs.length aw]:=ai
 refine oR Z (zo Z Z bt Z ZC ZE (wAj aY)) (oL Z (aZ.ldCA (f:=0) ai Z Z yC ZE (us:=[jV ac.Bib,.slice ap ac.Classes.length av,.slice aq ac.Legs.length aw]) Z Z) (bnK bD fun bV br bE=>?_))
 have bs:=bx.le an
 refine yT (a:=ac) Z Z Z Z Z Z (zB Z zM) aZ bs ⟨ap,av,aq,aw,Z,bp,bq⟩ br ?_
 rintro af bM bT bg bJ bu ⟨rfl,rfl⟩
 have a7:sW w U af [] bg:=bu
 refine eN (ifc bE ?_ ?_)
 intro ag bF
 refine ZF (congrArg nB ag.out) (sR fL2 Z (oM Z Z (oA Z Z (eN (zO (zf (zR ?_)))))))
 have q:=wAf bF
 obtain ⟨bL,bG,bj⟩:=q
 have q:=wCI hm aj (bz bL bj)
 obtain rfl:=q
 refine zR (zf (zR ?_))
 cases bG
 exact ⟨Z,_,(zr Z),af,_,a7,Z,Z⟩
 intro ag bH
 refine zm (congrArg nB (nD.2 ag.out)) (ZV (zb (zI (rR fL2 Z (oR Z (zn (zX Z ah Z) (congrArg (jV) bC.out)) (oM Z Z (zg ?_)))))))
 have q:=nA bH
 obtain rfl:=q
 exact zI ⟨Z,_,Z,⟨af,Z,az,aW,aX,(an.trans bJ),a7⟩⟩
 rintro ⟨⟩ bX bN ⟨bf,bm,bP,bQ,bl,bR,bv⟩ bA
 have a8:=wCm hm aj bA
 try dsimp only at a8
 have bi:Hid (¬ ((↑(((↑p0.length:Int):Int) - 0).toNat:Int) < (↑p0.length:Int))):=zF (wAa)
 refine sR fL1 Z (oR Z (zU Z bm bl) (eN (zG (cF Z bi (ZI (zY (zY (ZD (zI (sR fL1 Z (oA Z Z (eN (zO ?_)))))))))))))
 cases a8
 exact ⟨Z,_,(zr Z),bf,_,bv,Z,Z⟩
theorem wDJ (p0:List wAD) (ae:Option Addr) (af:Nat) (p1:(wAD->Option Bool)) (ag:Value) (w:World) (U:PHeap) (hS:St0 w U []) (ao:SlR U wFF ae af p0) (ap:FnOK Tryz.prog U ag wJv wJw p1) {r:Bool} (hm:wAm p0 p1=some r):Gv Tryz.prog 138 [.slice ae p0.length af,ag] w (wBU w [] U (fun U_ L_ v=>v=.bool r/\L_=[])):=by
 unfold wAm at hm
 refine Gv.of Tryz.func138 Z Tryz.ntmps138 Tryz.results138 Z (sR fL1 Z (oA Z Z (eN (sR gAx Z (oM Z Z (oM Z Z (bnK hm fun x1 h2 ai=>zL 0 Z Z Z Z (zK Z Z Tryz.call182 (zB Z (zB Z zM)) Z) hS (fun hs=>wDW p0 ae af p1 ag w U hs ao ap h2) (.inr Z) ?_)))))))
 rintro U4 L5 v6 W7 au an ⟨rfl,rfl⟩
 have am:sW w U U4 [] W7:=an
 refine oR Z (yo Z Z Z) (oA Z Z (eN (zO ?_)))
 first | (obtain rfl:=nA ai) | cases ai
 exact ⟨Z,_,(zr Z),U4,_,am,Z,Z⟩
theorem wDw (p0:List wAD) (ai:Option Addr) (aj:Nat) (p1:(wAD->Option Bool)) (af:Value) (w:World) (U:PHeap) (hS:St0 w U []) (aZ:SlR U wFF ai aj p0) (an:FnOK Tryz.prog U af wJv wJw p1) {r:Bool} (hm:wBL p0 p1=some r):Gv Tryz.prog 100 [.slice ai p0.length aj,af] w (wBU w [] U (fun U_ L_ v=>v=.bool r/\L_=[])):=by
 unfold wBL at hm
 refine Gv.of Tryz.func100 Z Tryz.ntmps100 Tryz.results100 Z (sR gAi Z (ZS (cs:=[af]) Z Z Z Z Z Z (FnOK.cells an) hS ?_))
 intro W1 b2 aW
 have q:=aW.freeze (k:=0) rfl
 obtain ⟨U5,ao,ac,aX⟩:=q
 replace ac:=Cl.of ac
 have aY:sW w U U5 [] W1:=aX
 replace ac:Cl U5 b2 0 [af]:=ac
 refine oA Z Z (eN (sR gAx Z (oM Z Z (oR Z (yW Z zM (zB Z zM)) ?_))))
 have au:=aZ.le ao
 have av:=an.le ao
 have ax:FnOK Tryz.prog U5 (.func (.func 139) #[] #[.pointer (some ⟨b2,0,none⟩)]) wJv wJw (fun x=>wAz x p1):=⟨139,[],[.pointer (some ⟨b2,0,none⟩)],rfl,Tryz.call139,fun U1 w1 x y vs le hs ha hm=>by obtain ⟨pA_0_1,pc_0_1,pA_0_2,pc_0_2,rfl,hq0_0,hq0_1⟩:=ha;exact wFB x pA_0_1 pc_0_1 pA_0_2 pc_0_2 p1 b2 af w1 U1 hs hq0_0 hq0_1 (ac.le le) (av.le le) hm⟩
 refine bnK hm fun bf aw a7=>zL 0 Z Z Z Z (zK Z Z Tryz.call138 (zB Z (zB Z zM)) Z) aY (fun hs=>wDJ p0 ai aj (fun x=>wAz x p1) (.func (.func 139) #[] #[.pointer (some ⟨b2,0,none⟩)]) W1 U5 hs au ax aw) (.inr Z) ?_
 rintro ak ba be aq bb ay ⟨rfl,rfl⟩
 have az:sW w U ak [] aq:=ay
 refine oR Z (ZN Z Z) (oA Z Z (eN (zO ?_)))
 cases a7
 exact ⟨Z,_,(zr Z),ak,_,az,Z,Z⟩
theorem wHx (p0:wAD) (ae:Option Addr) (af:Nat) (aj:Option Addr) (ak:Nat) (w:World) (U:PHeap) (hS:St0 w U []) (aX:Sl U 1 ae af p0.Classes.length (hM KL.encI p0.Classes)) (bf:SlR U wFe aj ak p0.Legs) {r:Bool} (hm:wCx p0=some r):Gv Tryz.prog 102 [.agg #[jV p0.Bib,.slice ae p0.Classes.length af,.slice aj p0.Legs.length ak]] w (wBU w [] U (fun U_ L_ v=>v=.bool r/\L_=[])):=by
 unfold wCx at hm
 refine Gv.of Tryz.func102 Z Tryz.ntmps102 Tryz.results102 Z (sR gAi Z ?_)
 let B0:List Value:=[jV p0.Bib,.slice ae p0.Classes.length af,.slice aj p0.Legs.length ak]
 refine ZS (cs:=B0) rfl rfl rfl rfl rfl rfl (by rfl) hS ?_
 intro W1 b2 ap
 refine oA Z Z (eN (sR (.fl 0 (.fl 1 (.fx 2 (fC3_5 gAm) .stop))) Z (oR Z (zJ Z Z zk Z zD) (oL Z (ap.ldB (j:=0) Z Z Z zP (v:=jV p0.Bib) Z) (bnK hm fun x5 h6 a8=>zL 0 Z Z Z Z (zK Z Z yL (zB Z (zB Z (zB Z zM))) Z) ap (fun hs=>wCR p0.Bib 1 999 W1 U hs h6) (.inr Z) ?_)))))
 rintro U8 L9 bh an ba ay ⟨rfl,rfl⟩
 have ai:sW w U U8 [.blk b2 43 B0] an:=ay
 refine oM Z Z (ifc a8 ?_ ?_)
 intro ac aY
 refine zh Z Z Z (zQ Z Z (congrArg nB ac.out)) (fun _=>zJ Z Z zk Z zS) (ZO Z Z Z (zQ Z Z (congrArg nB ac.out)) (ai.ldB (j:=0) Z Z Z zc (v:=.slice ae p0.Classes.length af) Z) Z ?_)
 have av:=aX.le ba
 refine bnK aY fun bj aw aZ=>zL 0 Z Z Z (zQ Z Z (congrArg nB ac.out)) (zK Z Z Tryz.call103 (zB Z zM) Z) ai (fun hs=>wEj p0.Classes ae af an U8 hs av aw) (.inr Z) ?_
 rintro am bb bi au bg az ⟨rfl,rfl⟩
 have aW:sW w U am [.blk b2 43 B0] au:=az
 refine oR Z (zV Z (congrArg nB ac.out) Z) (oA Z Z (eN (zO ?_)))
 have hE:=nA aZ;first | subst r | cases hE
 exact ⟨rfl,_,(zr rfl),am,_,(aW.pick [] _ (by decide) rfl),rfl,rfl⟩
 intro ac a7
 refine zd Z Z Z (zN Z Z (congrArg nB (nD.2 ac.out)) Z) (zd Z Z Z (zN Z Z (congrArg nB (nD.2 ac.out)) Z) (ZA Z Z Z (zN Z Z (congrArg nB (nD.2 ac.out)) Z) (oR Z (zZ Z (congrArg nB (nD.2 ac.out)) Z) (oA Z Z (eN (zO ?_))))))
 have hE:=nA a7;first | subst r | cases hE
 exact ⟨rfl,_,(zr rfl),U8,_,(ai.pick [] _ (by decide) rfl),rfl,rfl⟩
theorem wDo {S E:Type} (PY:S->PHeap->List Res->Prop) (PE:E->PHeap->List Res->Prop) (f:S->(wAD × wAA)->Option (S ⊕ E)) (y:Nat) (s0:S) (p1:wAI) (bM:Nat) (bL:Option Addr) (bN:Nat) (ao:Option Addr) (ap:Nat) (w:World) (L:List Res) (U:PHeap) (hS:St ⟨w,L,U⟩ U L w) (hP:PY s0 U L) (hY:YOK Tryz.prog y wMs PY PE f U) (cU:Cl U bM 0 [.slice bL p1.Rules.Classes.length bN,jV p1.Rules.Each,jV p1.Rules.Laps,jV p1.Rules.Spare,jV p1.Rules.Loop,jV p1.Rules.Unused,jV p1.Start,.slice ao p1.Teams.length ap]) (dM:Sl U 1 bL bN p1.Rules.Classes.length (hM KL.encI p1.Rules.Classes)) (cV:SlR U wFF ao ap p1.Teams) {r:S ⊕ E} (hm:wBY f s0 p1=some r):Gv Tryz.prog 141 [.func (.yield y) #[] #[],.pointer (some ⟨bM,0,none⟩)] w (ItS w L U PY PE r):=by
 unfold wBY at hm
 refine Gv.of Tryz.func141 Z Tryz.ntmps141 Tryz.results141 Z (sR fL4 Z (oR Z (zJ Z Z ze Z ZU) (oL Z (hS.ldC (f:=7) cU (v:=.slice ao p1.Teams.length ap) Z Z Zn Z) (oR Z (za Z Z ZC) (oM Z Z (eN (zT ?_)))))))
 have q:=wBe hm
 obtain ⟨dO,bi⟩:=q
 have q:=wBd bi
 obtain ⟨bn,c6⟩:=q
 replace bn:=zF bn
 refine yA (fun ag bP σ_ w_=>∃ (U_:PHeap) (an:List Res),σ_ 10=jV (↑ag:Int)/\σ_ 0=.func (.yield y) #[] #[]/\σ_ 8=.slice ao p1.Teams.length ap/\σ_ 9=jV (↑p1.Teams.length:Int)/\PHeap.Le U U_/\St ⟨w,L,U⟩ U_ an w_/\PY bP U_ an) c6 ?_ ?_ ?_
 exact ⟨U,L,Z,Z,Z,Z,(zH _),hS,hP⟩
 rintro ag bP dS dY dE bl ⟨av,an,bb,cm,bx,bz,br,bI,cD⟩ dp cY
 have bv:Hid ((↑ag:Int) < (↑p1.Teams.length:Int)):=zF (wAo bl)
 replace bl:=zF bl
 have c9:Hid (w64 ((↑ag:Int) + 1)=(↑(ag + 1):Int)):=zF (by have h1:=bn.out;have h2:=bv.out;rw [wAT] <;> omega)
 refine sR fL1 Z (oR Z (zU Z bb bz) (eN (zG (cT Z bv (kN (zG (zT (sR gAv Z (bnK dp fun ac bE bq=>?_)))))))))
 have cE:=cV.le br
 have q:=cE.el (wAR bE)
 obtain ⟨bW,du,dQ,cJ,bf,dn⟩:=q
 obtain ⟨aX,a7,aj,ak,rfl,cG,cH⟩:=dn
 replace bf:Cl av bW (du + ag * 3) [jV ac.Bib,.slice aX ac.Classes.length a7,.slice aj ac.Legs.length ak]:=bf
 refine oR Z (zo Z bx cJ bb ZC ZE (wAj bE)) (oL Z (bI.ldCA (f:=0) bf Z Z yC ZE (us:=[jV ac.Bib,.slice aX ac.Classes.length a7,.slice aj ac.Legs.length ak]) Z Z) ?_)
 let B0:List Value:=[jV 0,.slice none 0 0,.slice none 0 0]
 refine zz (cs:=B0) Z Z Z Z Z Zb Z bI ?_
 intro dF ah cR
 let B1:List Value:=[jV ac.Bib,.slice aX ac.Classes.length a7,.slice aj ac.Legs.length ak]
 refine zu (j:=0) (vs:=B1) Z Z Z Z cR Z Z Z Z ZE (zC Z) Z Z Z ?_
 intro bV cS
 have bJ:St ⟨w,L,U⟩ av (.blk ah 43 B1 :: an) bV:=cS
 refine eN (sR fL4 Z (oR Z (zJ Z Z zk Z Zd) (oL Z (bJ.ldB (j:=0) Z Z Z yE (v:=.slice aj ac.Legs.length ak) Z) (oR Z (za Z Z ZM) (oM Z Z (eN (zT ?_)))))))
 have q:=wBe bq
 obtain ⟨dP,bj⟩:=q
 have q:=wBd bj
 obtain ⟨bp,c7⟩:=q
 replace bp:=zF bp
 refine yA (fun ai bQ σ_ w_=>∃ (U_:PHeap) (aq:List Res),σ_ 17=jV (↑ai:Int)/\σ_ 0=.func (.yield y) #[] #[]/\σ_ 4=.pointer (some ⟨ah,0,none⟩)/\σ_ 8=.slice ao p1.Teams.length ap/\σ_ 9=jV (↑p1.Teams.length:Int)/\σ_ 10=jV (↑ag:Int)/\σ_ 15=.slice aj ac.Legs.length ak/\σ_ 16=jV (↑ac.Legs.length:Int)/\PHeap.Le av U_/\St ⟨w,L,U⟩ U_ (.blk ah 43 B1 :: aq) w_/\PY bQ U_ aq) c7 ?_ ?_ ?_
 exact ⟨av,an,Z,cm,Z,bx,bz,bb,Z,Z,(zH _),bJ,cD⟩
 rintro ai bQ dT dZ dG bm ⟨bt,aq,be,bA,bB,co,cp,cq,bC,bD,ay,bK,cI⟩ dq cZ
 have bw:Hid ((↑ai:Int) < (↑ac.Legs.length:Int)):=zF (wAo bm)
 replace bm:=zF bm
 have da:Hid (w64 ((↑ai:Int) + 1)=(↑(ai + 1):Int)):=zF (by have h1:=bp.out;have h2:=bw.out;rw [wAT] <;> omega)
 refine sR fL1 Z (oR Z (zU Z be bD) (eN (zG (cT Z bw (kN (zG (zT (sR gAv Z (bnK dq fun ae bF dg=>?_)))))))))
 have bG:=cH.le ay
 have q:=bG.el (wAR bF)
 obtain ⟨bX,dv,dR,cK,bg,dm⟩:=q
 obtain ⟨az,aY,aW,aZ,rfl,cu,cw⟩:=dm
 replace bg:Cl bt bX (dv + ai * 3) [jV ae.Skier,.slice az ae.Loops.length aY,.slice aW ae.Bouts.length aZ]:=bg
 refine oR Z (zo Z bC cK be ZM ZJ (wAj bF)) (oL Z (bK.ldCA (f:=0) bg Z Z yP ZJ (us:=[jV ae.Skier,.slice az ae.Loops.length aY,.slice aW ae.Bouts.length aZ]) Z Z) (zz (cs:=B0) Z Z Z Z Z ZT Z bK ?_))
 intro dB ba cL
 let B2:List Value:=[jV ae.Skier,.slice az ae.Loops.length aY,.slice aW ae.Bouts.length aZ]
 refine zu (j:=0) (vs:=B2) Z Z Z Z cL Z Z Z Z ZJ (zC Z) Z Z Z ?_
 intro bU cM
 have bh:St ⟨w,L,U⟩ bt (.blk ba 46 B2 :: .blk ah 43 B1 :: aq) bU:=cM
 refine eN (sR (wDE gAg) Z (oM Z bA (oL Z (bh.ldBA (j:=1) Z Z bB yC ZE (vs:=B1) Z Z) (oL Z (bh.ldBA (j:=0) Z Z Z yP ZJ (vs:=B2) Z Z) ?_))))
 have cy:=cG.le ay
 refine bnK dg fun dz cz ax=>OKS.yieldT 2 (a:=(ac,ae)) Z Z Z Z Z Z (zB Z (zB Z zM)) bh hY (br.trans ay) cI ⟨aX,a7,aj,ak,az,aY,aW,aZ,Z,cy,bG,cu,cw⟩ cz Z ?_
 rintro au a8 dH bu dr bH aw
 rcases dz with dw | dw
 try dsimp only at ax aw
 obtain ⟨rfl,dh⟩:=aw
 have cN:St ⟨w,L,U⟩ au (.blk ba 46 B2 :: .blk ah 43 B1 :: a8) bu:=bH
 refine oR Z (ZN Z Z) (eN (zm Z (ZV (zb (zI (rR fL2 Z (oR Z (zn (zX Z be Z) (congrArg (jV) da.out)) (oM Z Z (zg ?_)))))))))
 have q:=nA ax
 obtain rfl:=q
 exact zI ⟨Z,_,Z,⟨au,a8,Z,bA,bB,co,cp,cq,bC,bD,(ay.trans dr),(cN.drop 0),dh⟩⟩
 try dsimp only at ax aw
 obtain ⟨rfl,di⟩:=aw
 have cO:St ⟨w,L,U⟩ au (.blk ba 46 B2 :: .blk ah 43 B1 :: a8) bu:=bH
 refine oR Z (ZN Z Z) (eN (ZF Z (zO (zf (zR ?_)))))
 have q:=wAf ax
 obtain ⟨dx,db,b4⟩:=q
 have q:=wCI bq bj (cZ dx b4)
 obtain rfl:=q
 refine zR (zf (zf (zR ?_)))
 have q:=wAf db
 obtain ⟨dy,dd,ca⟩:=q
 have q:=wCI hm bi (cY dy ca)
 obtain rfl:=q
 refine zR (zf ?_)
 cases dd
 exact ⟨Z,_,(wMk),au,_,((cO.drop 1).drop 0),di⟩
 rintro dU dW dC ⟨bS,bR,cr,cc,dI,cd,cg,ch,dJ,ci,dt,cP,cA⟩ cW
 have de:=wCm bq bj cW
 have bY:Hid (¬ ((↑(((↑ac.Legs.length:Int):Int) - 0).toNat:Int) < (↑ac.Legs.length:Int))):=zF (wAa)
 refine sR fL1 Z (oR Z (zU Z cr ci) (eN (zG (cF Z bY (ZI (zY (zY (ZD (zb (zI (rR fL2 Z (oR Z (zn (zX Z ch Z) (congrArg (jV) c9.out)) (oM Z Z (zg ?_))))))))))))))
 have q:=nA de
 obtain rfl:=q
 exact zI ⟨Z,_,Z,⟨bS,bR,Z,cc,cd,cg,(br.trans dt),(cP.drop 0),cA⟩⟩
 rintro dV dX dD ⟨bT,dA,ct,dK,dL,cj,dN,cQ,cC⟩ cX
 have df:=wCm hm bi cX
 have bZ:Hid (¬ ((↑(((↑p1.Teams.length:Int):Int) - 0).toNat:Int) < (↑p1.Teams.length:Int))):=zF (wAa)
 refine sR fL1 Z (oR Z (zU Z ct cj) (eN (zG (cF Z bZ (ZI (zY (zY (ZD ?_))))))))
 cases df
 exact ⟨Z,_,(wMk),bT,_,cQ,cC⟩
theorem wEF (p0:wAI) (ae:Option Addr) (ag:Nat) (af:Option Addr) (ah:Nat) (w:World) (U:PHeap) (hS:St0 w U []) (au:Sl U 1 ae ag p0.Rules.Classes.length (hM KL.encI p0.Rules.Classes)) (av:SlR U wFF af ah p0.Teams) {r:Unit} (hm:wCa p0=some r):Gv Tryz.prog 104 [.agg #[.slice ae p0.Rules.Classes.length ag,jV p0.Rules.Each,jV p0.Rules.Laps,jV p0.Rules.Spare,jV p0.Rules.Loop,jV p0.Rules.Unused,jV p0.Start,.slice af p0.Teams.length ah]] w (wBU w [] U (fun U_ L_ v=>∃ (b0:Nat),v=.func (.func 141) #[] #[.pointer (some ⟨b0,0,none⟩)]/\L_=[]/\Cl U_ b0 0 [.slice ae p0.Rules.Classes.length ag,jV p0.Rules.Each,jV p0.Rules.Laps,jV p0.Rules.Spare,jV p0.Rules.Loop,jV p0.Rules.Unused,jV p0.Start,.slice af p0.Teams.length ah])):=by
 unfold wCa at hm
 refine Gv.of Tryz.func104 Z Tryz.ntmps104 Tryz.results104 Z (sR gAi Z ?_)
 let B0:List Value:=[.slice ae p0.Rules.Classes.length ag,jV p0.Rules.Each,jV p0.Rules.Laps,jV p0.Rules.Spare,jV p0.Rules.Loop,jV p0.Rules.Unused,jV p0.Start,.slice af p0.Teams.length ah]
 refine ZS (cs:=B0) rfl rfl rfl rfl rfl rfl (by rfl) hS ?_
 intro W1 b2 ao
 have q:=ao.freeze (k:=0) rfl
 obtain ⟨U5,aw,ac,ap⟩:=q
 replace ac:=Cl.of ac
 have aq:sW w U U5 [] W1:=ap
 replace ac:Cl U5 b2 0 B0:=ac
 refine oA Z Z (eN (sR fL2 Z (oR Z (yW Z zM (zB Z zM)) (oA Z Z (eN (zO ?_))))))
 cases hm
 exact ⟨Z,_,(zr Z),U5,_,aq,b2,Z,Z,ac⟩
theorem wHy (p0:Int) (w:World) (U:PHeap) (hS:St0 w U [])  {r:Bool} (hm:wCd p0=some r):Gv Tryz.prog 105 [jV p0] w (wBU w [] U (fun U_ L_ v=>v=.bool r/\L_=[])):=by
 unfold wCd at hm
 refine Gv.of Tryz.func105 Z Tryz.ntmps105 Tryz.results105 Z (sR fL1 Z (oA Z Z (eN (sR gAo Z (oM Z Z (bnK hm fun x1 h2 ai=>zL 0 Z Z Z Z (zK Z Z yL (zB Z (zB Z (zB Z zM))) Z) hS (fun hs=>wCR p0 1 9000 w U hs h2) (.inr Z) ?_))))))
 rintro U4 L5 v6 W7 ak ah ⟨rfl,rfl⟩
 have ag:sW w U U4 [] W7:=ah
 refine oA Z Z (eN (zO ?_))
 have hE:=nA ai;first | subst r | cases hE
 exact ⟨Z,_,(zr Z),U4,_,ag,Z,Z⟩
theorem wEL (p0:List Bool) (au:Option Addr) (av:Nat) (w:World) (U:PHeap) (hS:St0 w U []) (bX:Sl U 1 au av p0.length (hM KL.encT p0)) {r:wAW × Int} (hm:wCn p0=some r):Gv Tryz.prog 11 [.slice au p0.length av] w (wBU w [] U (fun U_ L_ v=>v=.tuple #[.agg #[jV r.1.Spares,jV r.1.Loops,jV r.1.Unused],jV r.2]/\L_=[])):=by
 unfold wCn at hm
 refine Gv.of Tryz.func11 Z Tryz.ntmps11 Tryz.results11 Z (sR gAi Z ?_)
 let B0:List Value:=[jV 0,jV 0,jV 0]
 refine zz (cs:=B0) Z Z Z Z Z Zw Z hS ?_
 intro W1 b2 bQ
 refine oA Z Z (eN (zG (sR gAq Z (oM Z Z (oR Z (za Z Z ZQ) (bnK hm fun x5 h6 cm=>zL 0 Z Z Z Z (zK Z Z yL (zB Z (zB Z (zB Z zM))) Z) bQ (fun hs=>wCR (↑p0.length:Int) 5 8 W1 U hs h6) (.inr Z) ?_))))))
 rintro U8 L9 cJ bx ct bP ⟨rfl,rfl⟩
 have bp:sW w U U8 [.blk b2 49 B0] bx:=bP
 refine oR Z (ZN Z Z) (eN (ifc cm ?_ ?_))
 intro aw bb
 refine zm (nC aw.out) (kN (sR fL1 Z (oA Z Z (eN (zG (sR fL3 Z (oM Z Z (oR Z (za Z Z ZQ) (oM Z Z (eN (zT ?_)))))))))))
 have q:=wBe bb
 obtain ⟨cI,a7⟩:=q
 have q:=wBd a7
 obtain ⟨ba,b4⟩:=q
 replace ba:=zF ba
 refine yA (fun aj bu σ_ w_=>∃ (U_:PHeap),σ_ 15=jV (↑aj:Int)/\σ_ 0=.slice au p0.length av/\σ_ 2=.pointer (some ⟨b2,0,none⟩)/\σ_ 4=jV bu/\σ_ 13=.slice au p0.length av/\σ_ 14=jV (↑p0.length:Int)/\PHeap.Le U8 U_/\sW w U U_ [.blk b2 49 B0] w_) b4 ?_ ?_ ?_
 exact ⟨U8,Z,Z,Z,Z,Z,Z,(zH _),bp⟩
 rintro aj bu cL cM cz a8 ⟨ak,ap,bh,an,aW,aX,aY,be,aq⟩ cr bY
 have bg:Hid ((↑aj:Int) < (↑p0.length:Int)):=zF (wAo a8)
 replace a8:=zF a8
 have bt:Hid (w64 ((↑aj:Int) + 1)=(↑(aj + 1):Int)):=zF (by have h1:=ba.out;have h2:=bg.out;rw [wAT] <;> omega)
 refine sR fL1 Z (oR Z (zU Z ap aY) (eN (zG (cT Z bg (kN (zG (zT (sR fL3 Z (bnK cr fun cw bl cc=>?_)))))))))
 have bI:=bX.le ct
 have bJ:=bI.le be
 have q:=bJ.el (fun _=>rfl) (wAR bl)
 obtain ⟨cD,cH,bL,bM⟩:=q
 refine oR Z (zo Z aX bL ap ZQ yJ (wAj bl)) (oL Z (aq.ldC (f:=0) bM (v:=.bool cw) Z Z Tryz.isAgg4 Z) (oA Z Z (eN (zG (sR fL2 Z (oM Z aW (oR Z (yF Z Z Z) (eN (ifc cc ?_ ?_)))))))))
 intro ax cd
 refine cT Z ax (sR gAo Z (oR Z (ZH (pv:=[]) (z:=B0) (cs:=B0) Z wAM Zw wGC Z Z) (zu (j:=0) (vs:=B0) Z Z Z Z aq Z an Z Z Zm (zC Z) Z Z Z ?_)))
 intro bz bR
 have bq:sW w U ak [.blk b2 49 B0] bz:=bR
 refine oA Z Z (eN (zO (zR (zf (zR ?_)))))
 have q:=wAf cd
 obtain ⟨cu,cg,bF⟩:=q
 have q:=wCI bb a7 (bY cu bF)
 obtain rfl:=q
 refine zR (zf (zR ?_))
 cases cg
 exact ⟨rfl,_,(wJm (rs:=[.cell 2 49,.tmp 3]) (vs:=[.agg B0.toArray,jV 8]) ⟨⟨_,an,(wEv yb Zm (bq.blkAt (k:=0) rfl) (vs:=B0) rfl rfl)⟩,⟨rfl,trivial⟩⟩ rfl),ak,_,(bq.pick [] _ (by decide) rfl),rfl,rfl⟩
 intro ax ch
 refine cF Z ax (kN (sR fL1 Z (oM Z Z (eN (ifc ch ?_ ?_)))))
 intro ay ci
 refine ZF (congrArg nB ay.out) (rR fL3 Z (oM Z aW (oR Z (Zx Z Z Z) (oA Z Z (zg (zb (zI (rR fL2 Z (oR Z (zn (zX Z ap Z) (congrArg (jV) bt.out)) (oM Z Z (zg ?_)))))))))))
 have q:=nA ci
 obtain rfl:=q
 exact zI ⟨Z,_,Z,⟨ak,Z,bh,an,Z,aX,aY,be,aq⟩⟩
 intro ay cj
 refine zm (congrArg nB (nD.2 ay.out)) (ZV (zb (zI (rR fL2 Z (oR Z (zn (zX Z ap Z) (congrArg (jV) bt.out)) (oM Z Z (zg ?_)))))))
 have q:=nA cj
 obtain rfl:=q
 exact zI ⟨Z,_,Z,⟨ak,Z,bh,an,aW,aX,aY,be,aq⟩⟩
 rintro bf cN cA ⟨ah,bH,bi,ao,bj,cE,bG,cG,bS⟩ bZ
 have co:=wCm bb a7 bZ
 have bE:Hid (¬ ((↑(((↑p0.length:Int):Int) - 0).toNat:Int) < (↑p0.length:Int))):=zF (wAa)
 refine sR fL1 Z (oR Z (zU Z bH bG) (eN (zG (cF Z bE (ZI (zY (zY (ZD (zI (sR (wHS (.fx 5 (.fx 6 .nil .stop) .stop)) Z (oM Z bi (oR Z (za Z Z ZQ) (oR Z (Zx Z Z Z) (oM Z bj ?_))))))))))))))
 let B1:List Value:=[jV (w64 ((↑p0.length:Int) - 5)),jV bf,jV 0]
 refine oR Z (ZH (pv:=[(0,jV (w64 ((↑p0.length:Int) - 5))),(1,jV bf)]) (z:=B0) (cs:=B1) Z (wAC Z (wAC Z wAM)) Zw wGC Z Z) (zz (cs:=B0) Z Z Z Z Z Zw Z bS ?_)
 intro cC am bT
 refine zu (j:=0) (vs:=B1) Z Z Z Z bT Z Z Z Z Zm (zC Z) Z Z Z ?_
 intro bA bU
 have aZ:sW w U ah [.blk am 49 B1,.blk b2 49 B0] bA:=bU
 refine eN (zG (sR fL2 Z (oM Z bj (oR Z (yN Z Z Z) (eN (ifc co ?_ ?_))))))
 intro az cp
 refine cT Z az (rR (wGc (.fx 4 .nil .stop)) Z (oM Z bi (oR Z (za Z Z ZQ) (oR Z (Zx Z Z Z) (oR Z (zJ Z Z Tryz.runUnderlying49 Z zD) (zu (j:=0) (vs:=[jV (w64 (8 - (↑p0.length:Int)))]) Z Z Z Z aZ Z Z Z Z zD (zC Z) Z Z Z ?_))))))
 intro bB bV
 let B2:List Value:=[jV (w64 ((↑p0.length:Int) - 5)),jV bf,jV (w64 (8 - (↑p0.length:Int)))]
 have br:sW w U ah [.blk am 49 B2,.blk b2 49 B0] bB:=bV
 refine eN (sR gAo Z (oL Z (br.ldBA (j:=0) Z Z Z yb Zm (vs:=B2) Z Z) (zu (j:=1) (vs:=B2) Z Z Z Z br Z ao Z Z Zm (zC Z) Z Z Z ?_)))
 intro bC bW
 have bs:sW w U ah [.blk am 49 B2,.blk b2 49 B2] bC:=bW
 refine oA Z Z (eN (zO ?_))
 cases cp
 exact ⟨rfl,_,(wJm (rs:=[.cell 2 49,.tmp 3]) (vs:=[.agg B2.toArray,jV 0]) ⟨⟨_,ao,(wEv yb Zm (bs.blkAt (k:=1) rfl) (vs:=B2) rfl rfl)⟩,⟨rfl,trivial⟩⟩ rfl),ah,_,(bs.pick [] _ (by decide) rfl),rfl,rfl⟩
 intro az cq
 refine cF Z az (kN (sR gAo Z (oL Z (aZ.ldBA (j:=0) Z Z Z yb Zm (vs:=B1) Z Z) (zu (j:=1) (vs:=B1) Z Z Z Z aZ Z ao Z Z Zm (zC Z) Z Z Z ?_))))
 intro bD bN
 have bm:sW w U ah [.blk am 49 B1,.blk b2 49 B1] bD:=bN
 refine oA Z Z (eN (zO ?_))
 cases cq
 exact ⟨rfl,_,(wJm (rs:=[.cell 2 49,.tmp 3]) (vs:=[.agg B1.toArray,jV 0]) ⟨⟨_,ao,(wEv yb Zm (bm.blkAt (k:=1) rfl) (vs:=B1) rfl rfl)⟩,⟨rfl,trivial⟩⟩ rfl),ah,_,(bm.pick [] _ (by decide) rfl),rfl,rfl⟩
 intro aw ca
 refine ZF (nF (aw.out)) (sR gAo Z (oR Z (ZH (pv:=[]) (z:=B0) (cs:=B0) Z wAM Zw wGC Z Z) (zu (j:=0) (vs:=B0) Z Z Z Z bp Z Z Z Z Zm (zC Z) Z Z Z ?_)))
 intro bw bO
 have bn:sW w U U8 [.blk b2 49 B0] bw:=bO
 refine oA Z Z (eN (zO (zR ?_)))
 cases ca
 exact ⟨rfl,_,(wJm (rs:=[.cell 2 49,.tmp 3]) (vs:=[.agg B0.toArray,jV 2]) ⟨⟨_,rfl,(wEv yb Zm (bn.blkAt (k:=0) rfl) (vs:=B0) rfl rfl)⟩,⟨rfl,trivial⟩⟩ rfl),U8,_,(bn.pick [] _ (by decide) rfl),rfl,rfl⟩
theorem wGq (p0:wAI) (aq:Option Addr) (au:Nat) (an:Option Addr) (ao:Nat) (w:World) (U:PHeap) (hS:St0 w U []) (fM:Sl U 1 aq au p0.Rules.Classes.length (hM KL.encI p0.Rules.Classes)) (ma:SlR U wFF an ao p0.Teams) {r:Int} (hm:wDc p0=some r):Gv Tryz.prog 65 [.agg #[.slice aq p0.Rules.Classes.length au,jV p0.Rules.Each,jV p0.Rules.Laps,jV p0.Rules.Spare,jV p0.Rules.Loop,jV p0.Rules.Unused,jV p0.Start,.slice an p0.Teams.length ao]] w (wBU w [] U (fun U_ L_ v=>v=jV r/\L_=[])):=by
 unfold wDc at hm
 refine Go.KX.Gv.ofM Tryz.func65 Z Tryz.ntmps65 Tryz.results65 (zC Z) (sR gAj Z ?_)
 let B0:List Value:=[.slice aq p0.Rules.Classes.length au,jV p0.Rules.Each,jV p0.Rules.Laps,jV p0.Rules.Spare,jV p0.Rules.Loop,jV p0.Rules.Unused,jV p0.Start,.slice an p0.Teams.length ao]
 refine ZS (cs:=B0) rfl rfl rfl rfl rfl rfl (by rfl) hS ?_
 intro W1 b2 jR
 refine zz (cs:=[jV 0]) Z Z Z Z Z Tryz.zeroValue35 Z jR ?_
 intro W5 b6 fA
 refine eN (sR gAq Z (oR Z (zJ Z Z ze Z ZG) ?_))
 let B1:List Value:=[.slice aq p0.Rules.Classes.length au,jV p0.Rules.Each,jV p0.Rules.Laps,jV p0.Rules.Spare,jV p0.Rules.Loop,jV p0.Rules.Unused]
 refine oL Z (fA.ldBA (j:=1) Z Z Z Zv ZG (vs:=B1) Z Z) (bnK hm fun x9 iX mq=>zL 0 Z Z Z Z (zK Z Z Tryz.call99 (zB Z zM) Z) fA (fun hs=>wEw p0.Rules aq au W5 U hs fM iX) (.inr Z) ?_)
 rintro bA oa pL dV fW jE ⟨rfl,rfl⟩
 let B2:Res:=.blk b6 35 [jV 0]
 have db:sW w U bA [B2,.blk b2 28 B0] dV:=jE
 refine oA Z Z (eN (zG (zT (sR fL3 Z (oM Z Z (oR Z (ZW Z Z Z) (oA Z Z (eN (ifc mq ?_ ?_)))))))))
 intro cL ms
 refine zm (zw (fun h=>h cL.out)) (sR (wDE (.fx 3 (wPM (.fx 11 (wOM (.nil)) .stop)) .stop)) Z (oR Z (zJ Z Z ze Z ZU) (oL Z (db.ldB (j:=1) Z Z Z Zn (v:=.slice an p0.Teams.length ao) Z) (oR Z (za Z Z ZC) (bnK ms fun p8 i6 mx=>zL 0 Z Z Z Z (zK Z Z yL (zB Z (zB Z (zB Z zM))) Z) db (fun hs=>wCR (↑p0.Teams.length:Int) 1 12 dV bA hs i6) (.inr Z) ?_)))))
 rintro bi oh pO dX gb jP ⟨rfl,rfl⟩
 have bZ:sW w U bi [B2,.blk b2 28 B0] dX:=jP
 refine oR Z (ZN Z Z) (oM Z Z (ifc mx ?_ ?_))
 intro am my
 refine zh Z Z Z (zQ Z Z (nC am.out)) (fun _=>zJ Z Z ze Z ZU) (ZO Z Z Z (zQ Z Z (nC am.out)) (bZ.ldB (j:=1) Z Z Z Zn (v:=.slice an p0.Teams.length ao) Z) Z (zh Z Z Z (zQ Z Z (nC am.out)) (fun _=>zJ Z Z ze Z ZG) (ZO Z Z Z (zQ Z Z (nC am.out)) (bZ.ldBA (j:=1) Z Z Z Zv ZG (vs:=B1) Z Z) Z (zh Z Z Z (zQ Z Z (nC am.out)) (fun _=>yW Z (zB Z zM) zM) ?_))))
 have i8:=ma.le fW
 have eU:=i8.le gb
 have ja:=fM.le fW
 have eV:=ja.le gb
 have jy:FnOK Tryz.prog bi (.func (.func 101) #[.agg B1.toArray] #[]) wJv wJw (fun x=>wBX p0.Rules x):=⟨101,[.agg B1.toArray],[],rfl,Tryz.call101,fun U1 w1 x y vs le hs ha hm=>by obtain ⟨pA_0_1,pc_0_1,pA_0_2,pc_0_2,rfl,hq0_0,hq0_1⟩:=ha;exact wGU p0.Rules aq au x pA_0_1 pc_0_1 pA_0_2 pc_0_2 w1 U1 hs (eV.le le) hq0_0 hq0_1 hm⟩
 refine bnK my fun qa jd mC=>zL 0 Z Z Z (zQ Z Z (nC am.out)) (zK Z Z Tryz.call100 (zB Z (zB Z zM)) Z) bZ (fun hs=>wDw p0.Teams an ao (fun x=>wBX p0.Rules x) (.func (.func 101) #[.agg B1.toArray] #[]) dX bi hs eU jy jd) (.inr Z) ?_
 rintro bD ow pR dZ gf k5 ⟨rfl,rfl⟩
 have de:sW w U bD [B2,.blk b2 28 B0] dZ:=k5
 refine zh Z Z Z (zQ Z Z (nC am.out)) (fun _=>ZN Z Z) (oR Z (zZ Z (nC am.out) Z) (oA Z Z (eN (ifc mC ?_ ?_))))
 intro cO mD
 refine zm (nC cO.out) (sR (.fl 0 (.fl 1 (.fx 2 (wLf (.fx 7 (wJf (.nil)) .stop)) .stop))) Z (oR Z (zJ Z Z ze Z zD) (oL Z (de.ldB (j:=1) Z Z Z zP (v:=jV p0.Start) Z) (bnK mD fun qb jf mE=>zL 0 Z Z Z Z (zK Z Z yL (zB Z (zB Z (zB Z zM))) Z) de (fun hs=>wCR p0.Start 0 36000 dZ bD hs jf) (.inr Z) ?_))))
 rintro bj oy pS d7 gh lh ⟨rfl,rfl⟩
 have df:sW w U bj [B2,.blk b2 28 B0] d7:=lh
 refine oR Z (ZN Z Z) (oM Z Z (ifc mE ?_ ?_))
 intro av mJ
 refine zh Z Z Z (zQ Z Z (nC av.out)) (fun _=>zJ Z Z ze Z ZU) (ZO Z Z Z (zQ Z Z (nC av.out)) (df.ldB (j:=1) Z Z Z Zn (v:=.slice an p0.Teams.length ao) Z) Z ?_)
 have jj:=eU.le gf
 have e8:=jj.le gh
 have jz:FnOK Tryz.prog bj (.func (.func 102) #[] #[]) wJv wJw wCx:=⟨102,[],[],rfl,Tryz.call102,fun U1 w1 x y vs le hs ha hm=>by obtain ⟨pA_0_1,pc_0_1,pA_0_2,pc_0_2,rfl,hq0_0,hq0_1⟩:=ha;exact wHx x pA_0_1 pc_0_1 pA_0_2 pc_0_2 w1 U1 hs hq0_0 hq0_1 hm⟩
 refine bnK mJ fun qc jk mM=>zL 0 Z Z Z (zQ Z Z (nC av.out)) (zK Z Z Tryz.call100 (zB Z (zB Z zM)) Z) df (fun hs=>wDw p0.Teams an ao wCx (.func (.func 102) #[] #[]) d7 bj hs e8 jz jk) (.inr Z) ?_
 rintro bE oC pU d9 gj lG ⟨rfl,rfl⟩
 have dg:sW w U bE [B2,.blk b2 28 B0] d9:=lG
 refine zh Z Z Z (zQ Z Z (nC av.out)) (fun _=>ZN Z Z) (oR Z (zZ Z (nC av.out) Z) (oA Z Z (eN (ifc mM ?_ ?_))))
 intro cR mR
 refine zm (nC cR.out) (ZV (zb (zI (zG (sR gAf Z (oL Z (dg.ldBA (j:=1) Z Z Z Zq ZL (vs:=B0) Z Z) ?_))))))
 have jq:=eV.le gf
 have jr:=jq.le gh
 have fb:=jr.le gj
 have fc:=e8.le gj
 have q:=bnd mR
 obtain ⟨⟨⟩,jt,fT⟩:=q
 try dsimp only at fT
 refine zL 0 Z Z Z Z (zK Z Z Tryz.call104 (zB Z zM) Z) dg (fun hs=>wEF p0 aq au an ao d9 bE hs fb fc jt) (.inr Z) ?_
 rintro dU oD pV iw gm l7 ⟨ep,rfl,rfl,ju⟩
 have l8:sW w U dU [B2,.blk b2 28 B0] iw:=l7
 refine eN (zT (ya fun ct cj=>?_))
 have cY:ct 1=.pointer (some ⟨b2,0,none⟩):=(cj 1).trans rfl
 have cZ:ct 2=.pointer (some ⟨b6,0,none⟩):=(cj 2).trans rfl
 have iU:ct 51=.func (.func 141) #[] #[.pointer (some ⟨ep,0,none⟩)]:=(cj 51).trans rfl
 clear cj
 refine bnK fT fun gA mn cc=>?_
 have eM:=fb.le gm
 have eP:=fc.le gm
 refine CK.rangeY (S:=Unit) (E:=Int) (ar:=wMs) (PY:=(fun (_:Unit) (U_:PHeap) (L_:List Res)=>L_=[B2,.blk b2 28 B0])) (PE:=(fun (n7:Int) (U_:PHeap) (L_:List Res)=>L_=[.blk b6 35 [jV n7],.blk b2 28 B0])) (exO:=(fun _=>.ret)) (s0:=()) (rr:=gA) iU Tryz.call141 l8 (by decide) (fun _ _ _ h=>by obtain ⟨_,_,_,_,_,_,_,_,rfl,_,_,_,_⟩:=h;rfl) (fun _=>.inl rfl) rfl (fun l w1 L1 PY' PE' bI bH bJ=>wDo PY' PE' _ l _ p0 ep aq au an ao w1 L1 dU bI bH bJ ju eM eP mn) ?_ ?_
 rintro bt pI o7 ⟨⟩ ap pW pE bP oc n3 dq bw pq jD jA mb fN bS a8
 obtain rfl:=jA
 obtain ⟨gq,gw,gr,gx,bL,bN,dv,dD,rfl,pd,pe,mV,pf⟩:=mb
 replace a8:∀ t,bS t=upd (upd ct 52 (.agg #[jV ap.1.Bib,.slice gq ap.1.Classes.length gw,.slice gr ap.1.Legs.length gx])) 53 (.agg #[jV ap.2.Skier,.slice bL ap.2.Loops.length bN,.slice dv ap.2.Bouts.length dD]) t:=a8
 have oW:bS 52=.agg #[jV ap.1.Bib,.slice gq ap.1.Classes.length gw,.slice gr ap.1.Legs.length gx]:=(a8 52).trans ((wDR _ _ (by decide)).trans (wDm _ _ _))
 have iD:bS 53=.agg #[jV ap.2.Skier,.slice bL ap.2.Loops.length bN,.slice dv ap.2.Bouts.length dD]:=(a8 53).trans (wDm _ _ _)
 have oX:bS 1=.pointer (some ⟨b2,0,none⟩):=(a8 1).trans ((wDR _ _ (by decide)).trans ((wDR _ _ (by decide)).trans cY))
 have iE:bS 2=.pointer (some ⟨b6,0,none⟩):=(a8 2).trans ((wDR _ _ (by decide)).trans ((wDR _ _ (by decide)).trans cZ))
 clear a8
 have jF:St bw bP [.obj bt dq,B2,.blk b2 28 B0] n3:=jD
 try dsimp only at fN
 refine rR gAj Z (zz (cs:=[jV 0,.slice none 0 0,.slice none 0 0]) Z Z Z Z Z ZT Z jF ?_)
 intro oH bF jG
 let B3:List Value:=[jV ap.2.Skier,.slice bL ap.2.Loops.length bN,.slice dv ap.2.Bouts.length dD]
 refine zu (j:=0) (vs:=B3) Z Z Z Z jG Z Z iD Z ZJ (zC Z) Z Z Z ?_
 intro gG jH
 have jI:St bw bP [.blk bF 46 B3,.obj bt dq,B2,.blk b2 28 B0] gG:=jH
 refine zg ⟨rfl,rfl,_,_,(jI.pick [1,0,2,3] [.obj bt dq,.blk bF 46 B3,B2,.blk b2 28 B0] (by decide) rfl),fun dW dr jJ=>?_⟩
 have fd:St bw bP [.obj bt dr,.blk bF 46 B3,B2,.blk b2 28 B0] dW:=jJ
 refine zT (sR gAq Z (oR Z (zJ Z Z ZB Z zS) (oL Z (fd.ldB (j:=1) Z Z Z zc (v:=.slice bL ap.2.Loops.length bN) Z) ?_)))
 have jx:FnOK Tryz.prog bP (.func (.func 105) #[] #[]) wJg wKY wCd:=⟨105,[],[],rfl,Tryz.call105,fun U1 w1 x y vs le hs ha hm=>by obtain rfl:=ha;exact wHy x w1 U1 hs  hm⟩
 refine bnK fN fun p7 iY mr=>zL 0 Z Z Z Z (zK Z Z Tryz.call72 (zB Z (zB Z zM)) Z) fd (fun hs=>wCl ap.2.Loops bL bN wCd (.func (.func 105) #[] #[]) dW bP hs mV jx iY) (.inr Z) ?_
 rintro dP od pM gH pt jK ⟨rfl,rfl⟩
 have fe:St bw dP [.obj bt dr,.blk bF 46 B3,B2,.blk b2 28 B0] gH:=jK
 refine oR Z (ZN Z Z) (eN (ifc mr ?_ ?_))
 intro cM mu
 refine zm (nC cM.out) (ZV (zb ?_))
 have q:=nA mu
 obtain rfl:=q
 exact ⟨_,_,(fe.pick [0,2,3] _ (by decide) rfl),rfl,rfl⟩
 intro cM mw
 refine ZF (nF (cM.out)) (sR (.fx 0 .nil .stop) Z (zu (j:=2) (vs:=[jV 3]) Z Z Z Z fe Z iE Z Z yV (zC Z) Z Z Z ?_))
 intro gI jL
 have jM:St bw dP [.obj bt dr,.blk bF 46 B3,.blk b6 35 [jV 3],.blk b2 28 B0] gI:=jL
 refine eN (zO (zf ?_))
 have q:=nA mw
 obtain rfl:=q
 exact ⟨_,_,(jM.pick [0,2,3] _ (by decide) rfl),rfl,rfl⟩
 rintro ag bB oe cJ fY ff
 rcases gA with ⟨⟩ | gD
 try dsimp only at cc
 rintro rfl
 have fg:sW w U bB [B2,.blk b2 28 B0,.obj ag (.deferred (some []))] cJ:=ff
 refine zb (zI (zG (sR gAf Z (oL Z (fg.ldBA (j:=1) Z Z cY Zq ZL (vs:=B0) Z Z) ?_))))
 have eQ:=eM.le fY
 have eR:=eP.le fY
 have q:=bnd cc
 obtain ⟨⟨⟩,iZ,fP⟩:=q
 try dsimp only at fP
 refine zL 0 Z Z Z Z (zK Z Z Tryz.call104 (zB Z zM) Z) fg (fun hs=>wEF p0 aq au an ao cJ bB hs eQ eR iZ) (.inr Z) ?_
 rintro dQ og pN gJ fZ jN ⟨ea,rfl,rfl,i7⟩
 have jO:sW w U dQ [B2,.blk b2 28 B0,.obj ag (.deferred (some []))] gJ:=jN
 refine eN (zT (ya fun cq ch=>?_))
 have cU:cq 1=.pointer (some ⟨b2,0,none⟩):=(ch 1).trans cY
 have cV:cq 2=.pointer (some ⟨b6,0,none⟩):=(ch 2).trans cZ
 have iF:cq 59=.func (.func 141) #[] #[.pointer (some ⟨ea,0,none⟩)]:=(ch 59).trans rfl
 clear ch
 refine bnK fP fun gB mo cd=>?_
 have eS:=eQ.le fZ
 have eT:=eR.le fZ
 refine CK.rangeY (S:=Unit) (E:=Int) (ar:=wMs) (PY:=(fun (_:Unit) (U_:PHeap) (L_:List Res)=>L_=[B2,.blk b2 28 B0,.obj ag (.deferred (some []))])) (PE:=(fun (n8:Int) (U_:PHeap) (L_:List Res)=>L_=[.blk b6 35 [jV n8],.blk b2 28 B0,.obj ag (.deferred (some []))])) (exO:=(fun _=>.ret)) (s0:=()) (rr:=gB) iF Tryz.call141 jO (by decide) (fun _ _ _ h=>by obtain ⟨_,_,_,_,_,_,_,_,rfl,_,_,_,_⟩:=h;rfl) (fun _=>.inl rfl) rfl (fun l w1 L1 PY' PE' bI bH bJ=>wDo PY' PE' _ l _ p0 ea aq au an ao w1 L1 dQ bI bH bJ i7 eS eT mo) ?_ ?_
 rintro be pJ o8 ⟨⟩ aj pX pF bQ oq n4 cm bf pu jQ jB mc fO bT ba
 obtain rfl:=jB
 obtain ⟨co,cp,dw,dE,dx,dF,dy,dG,rfl,pg,ph,pi,pm⟩:=mc
 replace ba:∀ t,bT t=upd (upd cq 60 (.agg #[jV aj.1.Bib,.slice co aj.1.Classes.length cp,.slice dw aj.1.Legs.length dE])) 61 (.agg #[jV aj.2.Skier,.slice dx aj.2.Loops.length dF,.slice dy aj.2.Bouts.length dG]) t:=ba
 have iG:bT 60=.agg #[jV aj.1.Bib,.slice co aj.1.Classes.length cp,.slice dw aj.1.Legs.length dE]:=(ba 60).trans ((wDR _ _ (by decide)).trans (wDm _ _ _))
 have iH:bT 61=.agg #[jV aj.2.Skier,.slice dx aj.2.Loops.length dF,.slice dy aj.2.Bouts.length dG]:=(ba 61).trans (wDm _ _ _)
 have oY:bT 1=.pointer (some ⟨b2,0,none⟩):=(ba 1).trans ((wDR _ _ (by decide)).trans ((wDR _ _ (by decide)).trans cU))
 have iI:bT 2=.pointer (some ⟨b6,0,none⟩):=(ba 2).trans ((wDR _ _ (by decide)).trans ((wDR _ _ (by decide)).trans cV))
 clear ba
 have jS:St bf bQ [.obj be cm,B2,.blk b2 28 B0,.obj ag (.deferred (some []))] n4:=jQ
 try dsimp only at fO
 refine sR gAj Z ?_
 let B4:List Value:=[jV 0,.slice none 0 0,.slice none 0 0]
 refine zz (cs:=B4) Z Z Z Z Z Zb Z jS ?_
 intro oI bn jT
 let B5:List Value:=[jV aj.1.Bib,.slice co aj.1.Classes.length cp,.slice dw aj.1.Legs.length dE]
 refine zu (j:=0) (vs:=B5) Z Z Z Z jT Z Z iG Z ZE (zC Z) Z Z Z ?_
 intro gK jU
 have jW:St bf bQ [.blk bn 43 B5,.obj be cm,B2,.blk b2 28 B0,.obj ag (.deferred (some []))] gK:=jU
 refine eN (rR gAj Z (zz (cs:=B4) Z Z Z Z Z ZT Z jW ?_))
 intro oJ bG jX
 let B6:List Value:=[jV aj.2.Skier,.slice dx aj.2.Loops.length dF,.slice dy aj.2.Bouts.length dG]
 refine zu (j:=0) (vs:=B6) Z Z Z Z jX Z Z iH Z ZJ (zC Z) Z Z Z ?_
 intro gM jY
 have jZ:St bf bQ [.blk bG 46 B6,.blk bn 43 B5,.obj be cm,B2,.blk b2 28 B0,.obj ag (.deferred (some []))] gM:=jY
 refine zg ⟨rfl,rfl,_,_,(jZ.pick [2,0,1,3,4,5] [.obj be cm,.blk bG 46 B6,.blk bn 43 B5,B2,.blk b2 28 B0,.obj ag (.deferred (some []))] (by decide) rfl),fun dY dt j4=>?_⟩
 have dd:St bf bQ [.obj be dt,.blk bG 46 B6,.blk bn 43 B5,B2,.blk b2 28 B0,.obj ag (.deferred (some []))] dY:=j4
 refine zT (sR (wIu gAk) Z (oR Z (zJ Z Z ZB Z zD) (oL Z (dd.ldB (j:=1) Z Z Z zP (v:=jV aj.2.Skier) Z) (oR Z (zJ Z Z zk Z zS) (oL Z (dd.ldB (j:=2) Z Z Z zc (v:=.slice co aj.1.Classes.length cp) Z) (oR Z (za Z Z zA) (oR Z (Zx Z Z Z) (bnK fO fun p9 i9 mz=>zL 0 Z Z Z Z (zK Z Z yL (zB Z (zB Z (zB Z zM))) Z) dd (fun hs=>wCR aj.2.Skier 0 (w64 ((↑aj.1.Classes.length:Int) - 1)) dY bQ hs i9) (.inr Z) ?_))))))))
 rintro dR ot pP gO py j5 ⟨rfl,rfl⟩
 have fh:St bf dR [.obj be dt,.blk bG 46 B6,.blk bn 43 B5,B2,.blk b2 28 B0,.obj ag (.deferred (some []))] gO:=j5
 refine oR Z (ZN Z Z) (eN (ifc mz ?_ ?_))
 intro cN mA
 refine zm (nC cN.out) (ZV (zb ?_))
 have q:=nA mA
 obtain rfl:=q
 exact ⟨_,_,(fh.pick [0,3,4,5] _ (by decide) rfl),rfl,rfl⟩
 intro cN mB
 refine ZF (nF (cN.out)) (sR (.fx 0 .nil .stop) Z (zu (j:=3) (vs:=[jV 1]) Z Z Z Z fh Z iI Z Z yV (zC Z) Z Z Z ?_))
 intro gP j6
 have j7:St bf dR [.obj be dt,.blk bG 46 B6,.blk bn 43 B5,.blk b6 35 [jV 1],.blk b2 28 B0,.obj ag (.deferred (some []))] gP:=j6
 refine eN (zO (zf ?_))
 have q:=nA mB
 obtain rfl:=q
 exact ⟨_,_,(j7.pick [0,3,4,5] _ (by decide) rfl),rfl,rfl⟩
 rintro ai bC ou cK gc fj
 rcases gB with ⟨⟩ | gE
 try dsimp only at cd
 rintro rfl
 have fk:sW w U bC [B2,.blk b2 28 B0,.obj ag (.deferred (some [])),.obj ai (.deferred (some []))] cK:=fj
 refine zb (zI (zG (sR gAf Z (oL Z (fk.ldBA (j:=1) Z Z cU Zq ZL (vs:=B0) Z Z) ?_))))
 have eW:=eS.le gc
 have eX:=eT.le gc
 have q:=bnd cd
 obtain ⟨⟨⟩,jb,fQ⟩:=q
 try dsimp only at fQ
 refine zL 0 Z Z Z Z (zK Z Z Tryz.call104 (zB Z zM) Z) fk (fun hs=>wEF p0 aq au an ao cK bC hs eW eX jb) (.inr Z) ?_
 rintro dS ov pQ gQ ge j8 ⟨eb,rfl,rfl,jc⟩
 have j9:sW w U dS [B2,.blk b2 28 B0,.obj ag (.deferred (some [])),.obj ai (.deferred (some []))] gQ:=j8
 refine eN (zT (ya fun cr ci=>?_))
 have cW:cr 1=.pointer (some ⟨b2,0,none⟩):=(ci 1).trans cU
 have cX:cr 2=.pointer (some ⟨b6,0,none⟩):=(ci 2).trans cV
 have iJ:cr 71=.func (.func 141) #[] #[.pointer (some ⟨eb,0,none⟩)]:=(ci 71).trans rfl
 clear ci
 refine bnK fQ fun gC mp cg=>?_
 have je:=eW.le ge
 have eY:=eX.le ge
 refine CK.rangeY (S:=Unit) (E:=Int) (ar:=wMs) (PY:=(fun (_:Unit) (U_:PHeap) (L_:List Res)=>L_=[B2,.blk b2 28 B0,.obj ag (.deferred (some [])),.obj ai (.deferred (some []))])) (PE:=(fun (n9:Int) (U_:PHeap) (L_:List Res)=>L_=[.blk b6 35 [jV n9],.blk b2 28 B0,.obj ag (.deferred (some [])),.obj ai (.deferred (some []))])) (exO:=(fun _=>.ret)) (s0:=()) (rr:=gC) iJ Tryz.call141 j9 (by decide) (fun _ _ _ h=>by obtain ⟨_,_,_,_,_,_,_,_,rfl,_,_,_,_⟩:=h;rfl) (fun _=>.inl rfl) rfl (fun l w1 L1 PY' PE' bI bH bJ=>wDo PY' PE' _ l _ p0 eb aq au an ao w1 L1 dS bI bH bJ jc je eY mp) ?_ ?_
 rintro aX pK o9 ⟨⟩ ak pY pG bR ox n5 du aY pz k6 jC md ca bU bb
 obtain rfl:=jC
 obtain ⟨gu,gy,gv,gz,dz,dH,bM,bO,rfl,pn,po,pp,mW⟩:=md
 replace bb:∀ t,bU t=upd (upd cr 72 (.agg #[jV ak.1.Bib,.slice gu ak.1.Classes.length gy,.slice gv ak.1.Legs.length gz])) 73 (.agg #[jV ak.2.Skier,.slice dz ak.2.Loops.length dH,.slice bM ak.2.Bouts.length bO]) t:=bb
 have oZ:bU 72=.agg #[jV ak.1.Bib,.slice gu ak.1.Classes.length gy,.slice gv ak.1.Legs.length gz]:=(bb 72).trans ((wDR _ _ (by decide)).trans (wDm _ _ _))
 have iK:bU 73=.agg #[jV ak.2.Skier,.slice dz ak.2.Loops.length dH,.slice bM ak.2.Bouts.length bO]:=(bb 73).trans (wDm _ _ _)
 have iL:bU 1=.pointer (some ⟨b2,0,none⟩):=(bb 1).trans ((wDR _ _ (by decide)).trans ((wDR _ _ (by decide)).trans cW))
 have iM:bU 2=.pointer (some ⟨b6,0,none⟩):=(bb 2).trans ((wDR _ _ (by decide)).trans ((wDR _ _ (by decide)).trans cX))
 clear bb
 have k8:St aY bR [.obj aX du,B2,.blk b2 28 B0,.obj ag (.deferred (some [])),.obj ai (.deferred (some []))] n5:=k6
 try dsimp only at ca
 refine rR gAj Z (zz (cs:=[jV 0,.slice none 0 0,.slice none 0 0]) Z Z Z Z Z ZT Z k8 ?_)
 intro oK a7 k9
 let B7:List Value:=[jV ak.2.Skier,.slice dz ak.2.Loops.length dH,.slice bM ak.2.Bouts.length bO]
 refine zu (j:=0) (vs:=B7) Z Z Z Z k9 Z Z iK Z ZJ (zC Z) Z Z Z ?_
 intro gT la
 have lb:St aY bR [.blk a7 46 B7,.obj aX du,B2,.blk b2 28 B0,.obj ag (.deferred (some [])),.obj ai (.deferred (some []))] gT:=la
 refine zg ⟨rfl,rfl,_,_,(lb.pick [1,0,2,3,4,5] [.obj aX du,.blk a7 46 B7,B2,.blk b2 28 B0,.obj ag (.deferred (some [])),.obj ai (.deferred (some []))] (by decide) rfl),fun gU bK lc=>?_⟩
 have fm:St aY bR [.obj aX bK,.blk a7 46 B7,B2,.blk b2 28 B0,.obj ag (.deferred (some [])),.obj ai (.deferred (some []))] gU:=lc
 refine zT (sR fL4 Z (oR Z (zJ Z Z ZB Z yK) (oL Z (fm.ldB (j:=1) Z Z Z yu (v:=.slice bM ak.2.Bouts.length bO) Z) (oR Z (za Z Z ZZ) (oM Z Z (eN (zT ?_)))))))
 have q:=wBe ca
 obtain ⟨pH,dh⟩:=q
 have q:=wBd dh
 obtain ⟨dn,mg⟩:=q
 replace dn:=zF dn
 refine yA (fun br _ σ_ w_=>∃ (U_:PHeap),σ_ 77=jV (↑br:Int)/\σ_ 1=.pointer (some ⟨b2,0,none⟩)/\σ_ 2=.pointer (some ⟨b6,0,none⟩)/\σ_ 75=.slice bM ak.2.Bouts.length bO/\σ_ 76=jV (↑ak.2.Bouts.length:Int)/\PHeap.Le bR U_/\St aY U_ [.obj aX bK,.blk a7 46 B7,B2,.blk b2 28 B0,.obj ag (.deferred (some [])),.obj ai (.deferred (some []))] w_) mg ?_ ?_ ?_
 exact ⟨bR,Z,iL,iM,Z,Z,(zH _),fm⟩
 rintro br ⟨⟩ qd qg gV di ⟨dT,c6,iN,eD,eG,eH,gg,fq⟩ fU me
 try dsimp only at fU
 have ew:Hid ((↑br:Int) < (↑ak.2.Bouts.length:Int)):=zF (wAo di)
 replace di:=zF di
 have ml:Hid (w64 ((↑br:Int) + 1)=(↑(br + 1):Int)):=zF (by have h1:=dn.out;have h2:=ew.out;rw [wAT] <;> omega)
 refine sR fL1 Z (oR Z (zU Z c6 eH) (eN (zG (cT Z ew (kN (zG (zT (sR fL3 Z (bnK fU fun dL eZ mF=>?_)))))))))
 have jg:=mW.le gg
 have q:=jg.el (wAR eZ)
 obtain ⟨iy,m8,pZ,jv,c9,mX⟩:=q
 obtain ⟨dA,dI,rfl,jh⟩:=mX
 replace c9:Cl dT iy (m8 + br * 1) [.slice dA dL.length dI]:=c9
 refine oR Z (zo Z eG jv c6 ZZ Zt (wAj eZ)) (oL Z (fq.ldC (f:=0) c9 (v:=.slice dA dL.length dI) Z Z yc Z) (oA Z Z (eN (sR (.fl 0 (.fx 1 (wMf (.fx 5 gAk .stop)) .stop)) Z (oM Z Z ?_)))))
 have q:=bnd mF
 obtain ⟨⟨bu,dM⟩,ji,fR⟩:=q
 try dsimp only at fR
 refine zL 0 Z Z Z Z (zK Z Z Tryz.call11 (zB Z zM) Z) fq (fun hs=>wEL dL dA dI gV dT hs jh ji) (.inr Z) ?_
 rintro bV oz pT gW m6 li ⟨rfl,rfl⟩
 have lj:St aY bV [.obj aX bK,.blk a7 46 B7,B2,.blk b2 28 B0,.obj ag (.deferred (some [])),.obj ai (.deferred (some []))] gW:=li
 refine oM Z Z (oR Z (zx Z Z (v:=.agg #[jV bu.Spares,jV bu.Loops,jV bu.Unused]) Z) (oR Z (zx Z Z (v:=jV dM) Z) (zz (cs:=[jV 0,jV 0,jV 0]) Z Z Z Z Z Zw Z lj ?_)))
 intro oO ee lk
 let B8:List Value:=[jV bu.Spares,jV bu.Loops,jV bu.Unused]
 refine zu (j:=0) (vs:=B8) Z Z Z Z lk Z Z Z Z Zm (zC Z) Z Z Z ?_
 intro gX ll
 have ft:St aY bV [.blk ee 49 B8,.obj aX bK,.blk a7 46 B7,B2,.blk b2 28 B0,.obj ag (.deferred (some [])),.obj ai (.deferred (some []))] gX:=ll
 refine oA Z Z (eN (sR fL2 Z (oM Z Z (oR Z (ZW Z Z Z) (eN (ifc fR ?_ ?_))))))
 intro cP mG
 refine zm (zw (fun h=>h cP.out)) (ZV (zb (zI (rR fL2 Z (oR Z (zn (zX Z c6 Z) (congrArg (jV) ml.out)) (oM Z Z (zg ?_)))))))
 have q:=nA mG
 obtain rfl:=q
 exact zI ⟨rfl,_,rfl,⟨bV,rfl,iN,eD,eG,eH,(gg.trans m6),(ft.pick [1,2,3,4,5,6] _ (by decide) rfl)⟩⟩
 intro cP mH
 refine cT Z cP (sR gAf Z (oM Z Z (zu (j:=3) (vs:=[jV dM]) Z Z Z Z ft Z eD Z Z yV (zC Z) Z Z Z ?_)))
 intro gY lm
 have ln:St aY bV [.blk ee 49 B8,.obj aX bK,.blk a7 46 B7,.blk b6 35 [jV dM],.blk b2 28 B0,.obj ag (.deferred (some [])),.obj ai (.deferred (some []))] gY:=lm
 refine eN (zO (zf (zR ?_)))
 have q:=wAf mH
 obtain ⟨n2,mI,iC⟩:=q
 have q:=wCI ca dh (me n2 iC)
 obtain rfl:=q
 refine zR (zf (zf ?_))
 have q:=nA mI
 obtain rfl:=q
 exact ⟨_,_,(ln.pick [1,3,4,5,6] _ (by decide) rfl),rfl,rfl⟩
 rintro ⟨⟩ qh oP ⟨oE,iV,o0,o3,o5,iO,pC,lq⟩ mf
 have fS:=wCm ca dh mf
 try dsimp only at fS
 have iA:Hid (¬ ((↑(((↑ak.2.Bouts.length:Int):Int) - 0).toNat:Int) < (↑ak.2.Bouts.length:Int))):=zF (wAa)
 refine sR fL1 Z (oR Z (zU Z iV iO) (eN (zG (cF Z iA (ZI (zY (zY (ZD (zb ?_)))))))))
 have q:=nA fS
 obtain rfl:=q
 exact ⟨_,_,(lq.pick [0,2,3,4,5] _ (by decide) rfl),rfl,rfl⟩
 rintro az bl oB d8 m7 fu
 rcases gC with ⟨⟩ | gF
 try dsimp only at cg
 rintro rfl
 have lu:sW w U bl [B2,.blk b2 28 B0,.obj ag (.deferred (some [])),.obj ai (.deferred (some [])),.obj az (.deferred (some []))] d8:=fu
 refine zb (zI (sR gAi Z (OKS.makeMap Z Z Z Z Z lu ?_)))
 intro oQ ay fw
 have mY:=MpR.nil wHG wHV
 refine oA Z Z (eN (zG (sR fL4 Z (oR Z (zJ Z cW ze Z ZU) (oL Z (fw.ldB (j:=2) Z Z Z Zn (v:=.slice an p0.Teams.length ao) Z) (oR Z (za Z Z ZC) (oM Z Z (eN (zT (bnK cg fun qf mh mK=>?_))))))))))
 have q:=wAs mh
 obtain ⟨dp,mj⟩:=q
 replace dp:=zF dp
 refine CK.forN' (fun bs fV σ_ w_=>∃ (U_:PHeap) (bX:Array MapEntry) (cS:Nat),σ_ 94=jV (↑bs:Int)/\σ_ 1=.pointer (some ⟨b2,0,none⟩)/\σ_ 2=.pointer (some ⟨b6,0,none⟩)/\σ_ 14=.map (some ay)/\σ_ 92=.slice an p0.Teams.length ao/\σ_ 93=jV (↑p0.Teams.length:Int)/\PHeap.Le bl U_/\sW w U U_ [.obj ay (.map bX cS),B2,.blk b2 28 B0,.obj ag (.deferred (some [])),.obj ai (.deferred (some [])),.obj az (.deferred (some []))] w_/\MpR bX wHG wHV fV) mj ?_ ?_ ?_
 exact ⟨bl,#[],0,Z,cW,cX,Z,Z,Z,(zH _),fw,mY⟩
 rintro bs fV qe qi oS dm ⟨bW,bX,cS,c7,iP,iQ,eI,eJ,eK,gi,fy,jl⟩ m5
 have ey:Hid ((↑bs:Int) < (↑p0.Teams.length:Int)):=zF (wAo dm)
 replace dm:=zF dm
 have mm:Hid (w64 ((↑bs:Int) + 1)=(↑(bs + 1):Int)):=zF (by have h1:=dp.out;have h2:=ey.out;rw [wAT] <;> omega)
 refine sR fL1 Z (oR Z (zU Z c7 eK) (eN (zG (cT Z ey (kN (zG (zT (sR gAv Z (bnK m5 fun ax e9 mL=>?_)))))))))
 have jm:=eY.le m7
 have jo:=jm.le gi
 have q:=jo.el (wAR e9)
 obtain ⟨iz,m9,p6,jw,da,mZ⟩:=q
 obtain ⟨dB,dJ,dC,dK,rfl,pa,pb⟩:=mZ
 replace da:Cl bW iz (m9 + bs * 3) [jV ax.Bib,.slice dB ax.Classes.length dJ,.slice dC ax.Legs.length dK]:=da
 refine oR Z (zo Z eJ jw c7 ZC ZE (wAj e9)) (oL Z (fy.ldCA (f:=0) da Z Z yC ZE (us:=[jV ax.Bib,.slice dB ax.Classes.length dJ,.slice dC ax.Legs.length dK]) Z Z) (zz (cs:=[jV 0,.slice none 0 0,.slice none 0 0]) Z Z Z Z Z Zb Z fy ?_))
 intro oU eh lv
 let B9:List Value:=[jV ax.Bib,.slice dB ax.Classes.length dJ,.slice dC ax.Legs.length dK]
 refine zu (j:=0) (vs:=B9) Z Z Z Z lv Z Z Z Z ZE (zC Z) Z Z Z ?_
 intro gZ lw
 have fz:sW w U bW [.blk eh 43 B9,.obj ay (.map bX cS),B2,.blk b2 28 B0,.obj ag (.deferred (some [])),.obj ai (.deferred (some [])),.obj az (.deferred (some []))] gZ:=lw
 refine eN (rR (wDE (.fx 3 .nil .stop)) rfl (zj rfl rfl rfl rfl rfl eI (zh rfl rfl rfl rfl (fun _=>zJ rfl rfl zk rfl zD) (ZO rfl rfl rfl rfl (fz.ldB (j:=0) rfl rfl rfl zP (v:=jV ax.Bib) rfl) rfl (OKS.mapPut (x:=.tmp 98) (y:=.tmp 100) (j:=1) (mk:=wHG) (mv:=wHV) (a:=ax.Bib) (v:=true) rfl rfl rfl (by first | exact .inl rfl | exact .inr rfl) fz rfl rfl rfl rfl (wDF yY) wHv jl rfl ?_)))))
 intro eC eB g8 m4 lx
 have ly:sW w U bW [.blk eh 43 B9,.obj ay (.map eC eB),B2,.blk b2 28 B0,.obj ag (.deferred (some [])),.obj ai (.deferred (some [])),.obj az (.deferred (some []))] g8:=lx
 refine zg (zb (zI (rR fL2 Z (oR Z (zn (zX Z c7 Z) (congrArg (jV) mm.out)) (oM Z Z (zg ?_))))))
 cases mL
 exact zI ⟨rfl,⟨bW,eC,eB,rfl,iP,iQ,eI,eJ,eK,gi,(ly.pick [1,2,3,4,5,6] _ (by decide) rfl),m4⟩⟩
 rintro qj oV ⟨bm,bq,bp,iW,iR,bY,iS,o6,iT,pD,b4,jp⟩
 have iB:Hid (¬ ((↑(((↑p0.Teams.length:Int):Int) - 0).toNat:Int) < (↑p0.Teams.length:Int))):=zF (wAa)
 refine sR fL1 Z (oR Z (zU Z iW iT) (eN (zG (cF Z iB (ZI (zY (zY (ZD (zI (zG (sR fL6 Z (oM Z iS (oL Z (b4.lenM (j:=0) (mk:=wHG) (mv:=wHV) Z Z Z (wDF yY) jp) (oR Z (zJ Z iR ze Z ZU) (oL Z (b4.ldB (j:=2) Z Z Z Zn (v:=.slice an p0.Teams.length ao) Z) (oR Z (za Z Z ZC) (oR Z (zU Z Z Z) (eN (ifc mK ?_ ?_)))))))))))))))))))
 intro cQ mN
 refine cT Z cQ (sR (.fx 0 .nil .stop) Z (zu (j:=1) (vs:=[jV 5]) Z Z Z Z b4 Z bY Z Z yV (zC Z) Z Z Z ?_))
 intro g9 lz
 let cu:Res:=.blk b6 35 [jV 5]
 have lA:sW w U bm [.obj ay (.map bq bp),cu,.blk b2 28 B0,.obj ag (.deferred (some [])),.obj ai (.deferred (some [])),.obj az (.deferred (some []))] g9:=lz
 refine eN (zO (zR (wEg (by first | exact .inl rfl | exact .inr rfl) (rbs:=[az,ai,ag]) (L:=[.obj ay (.map bq bp),cu,.blk b2 28 B0]) (lA.pick [0,1,2,5,4,3] _ (by decide) rfl) fun ib lB=>?_)))
 have fB:sW w U bm [.obj ay (.map bq bp),cu,.blk b2 28 B0] ib:=lB
 cases mN
 exact ⟨_,(wFk (v:=jV 5) ⟨⟨_,bY,(wIN yd (fB.blkAt (k:=1) rfl) rfl)⟩,trivial⟩),bm,_,(fB.pick [] _ (by decide) rfl),rfl,rfl⟩
 intro cQ mO
 refine cF Z cQ (kN (sR (.fx 0 .nil .stop) Z (zu (j:=1) (vs:=[jV 0]) Z Z Z Z b4 Z bY Z Z yV (zC Z) Z Z Z ?_)))
 intro ic lC
 have lD:sW w U bm [.obj ay (.map bq bp),B2,.blk b2 28 B0,.obj ag (.deferred (some [])),.obj ai (.deferred (some [])),.obj az (.deferred (some []))] ic:=lC
 refine eN (zO (wEg (by first | exact .inl rfl | exact .inr rfl) (rbs:=[az,ai,ag]) (L:=[.obj ay (.map bq bp),B2,.blk b2 28 B0]) (lD.pick [0,1,2,5,4,3] _ (by decide) rfl) fun ie lE=>?_))
 have fC:sW w U bm [.obj ay (.map bq bp),B2,.blk b2 28 B0] ie:=lE
 cases mO
 exact ⟨_,(wFk (v:=jV 0) ⟨⟨_,bY,(wIN yd (fC.blkAt (k:=1) rfl) rfl)⟩,trivial⟩),bm,_,(fC.pick [] _ (by decide) rfl),rfl,rfl⟩
 try dsimp only at cg
 rintro rfl
 let cw:Res:=.blk b6 35 [jV gF]
 have lH:sW w U bl [cw,.blk b2 28 B0,.obj ag (.deferred (some [])),.obj ai (.deferred (some [])),.obj az (.deferred (some []))] d8:=fu
 refine zf (zR (wEg (by first | exact .inl rfl | exact .inr rfl) (rbs:=[az,ai,ag]) (L:=[cw,.blk b2 28 B0]) (lH.pick [0,1,4,3,2] _ (by decide) rfl) fun ig lI=>?_))
 have fD:sW w U bl [cw,.blk b2 28 B0] ig:=lI
 have hE:=nA cg;first | subst r | cases hE
 exact ⟨_,(wFk (v:=jV gF) ⟨⟨_,cX,(wIN yd (fD.blkAt (k:=0) rfl) rfl)⟩,trivial⟩),bl,_,(fD.pick [] _ (by decide) rfl),rfl,rfl⟩
 try dsimp only at cd
 rintro rfl
 let cy:Res:=.blk b6 35 [jV gE]
 have lJ:sW w U bC [cy,.blk b2 28 B0,.obj ag (.deferred (some [])),.obj ai (.deferred (some []))] cK:=fj
 refine zf (zR (wEg (by first | exact .inl rfl | exact .inr rfl) (rbs:=[ai,ag]) (L:=[cy,.blk b2 28 B0]) (lJ.pick [0,1,3,2] _ (by decide) rfl) fun ii lK=>?_))
 have fE:sW w U bC [cy,.blk b2 28 B0] ii:=lK
 have hE:=nA cd;first | subst r | cases hE
 exact ⟨_,(wFk (v:=jV gE) ⟨⟨_,cV,(wIN yd (fE.blkAt (k:=0) rfl) rfl)⟩,trivial⟩),bC,_,(fE.pick [] _ (by decide) rfl),rfl,rfl⟩
 try dsimp only at cc
 rintro rfl
 let cz:Res:=.blk b6 35 [jV gD]
 have lL:sW w U bB [cz,.blk b2 28 B0,.obj ag (.deferred (some []))] cJ:=ff
 refine zf (zR (wEg (by first | exact .inl rfl | exact .inr rfl) (rbs:=[ag]) (L:=[cz,.blk b2 28 B0]) lL fun ij lM=>?_))
 have fG:sW w U bB [cz,.blk b2 28 B0] ij:=lM
 have hE:=nA cc;first | subst r | cases hE
 exact ⟨_,(wFk (v:=jV gD) ⟨⟨_,cZ,(wIN yd (fG.blkAt (k:=0) rfl) rfl)⟩,trivial⟩),bB,_,(fG.pick [] _ (by decide) rfl),rfl,rfl⟩
 intro cR mP
 refine ZF (nF (cR.out)) (sR (.fx 0 .nil .stop) Z (zu (j:=0) (vs:=[jV 3]) Z Z Z Z dg Z Z Z Z yV (zC Z) Z Z Z ?_))
 intro ik lN
 let cA:Res:=.blk b6 35 [jV 3]
 have lP:sW w U bE [cA,.blk b2 28 B0] ik:=lN
 refine eN (zO (zf (zR (wEg (by first | exact .inl rfl | exact .inr rfl) (rbs:=[]) (L:=[cA,.blk b2 28 B0]) lP fun il lQ=>?_))))
 have fH:sW w U bE [cA,.blk b2 28 B0] il:=lQ
 cases mP
 exact ⟨_,(wFk (v:=jV 3) ⟨⟨_,rfl,(wIN yd (fH.blkAt (k:=0) rfl) rfl)⟩,trivial⟩),bE,_,(fH.pick [] _ (by decide) rfl),rfl,rfl⟩
 intro av mQ
 refine zd Z Z Z (zN Z Z (nF (av.out)) Z) (zd Z Z Z (zN Z Z (nF (av.out)) Z) (ZA Z Z Z (zN Z Z (nF (av.out)) Z) (zd Z Z Z (zN Z Z (nF (av.out)) Z) (oR Z (zV Z (nF (av.out)) Z) (oA Z Z (eN (ZF Z (sR (.fx 0 .nil .stop) Z (zu (j:=0) (vs:=[jV 3]) Z Z Z Z df Z Z Z Z yV (zC Z) Z Z Z ?_)))))))))
 intro im lR
 let cC:Res:=.blk b6 35 [jV 3]
 have lS:sW w U bj [cC,.blk b2 28 B0] im:=lR
 refine eN (zO (zf (zR (wEg (by first | exact .inl rfl | exact .inr rfl) (rbs:=[]) (L:=[cC,.blk b2 28 B0]) lS fun io lT=>?_))))
 have fI:sW w U bj [cC,.blk b2 28 B0] io:=lT
 cases mQ
 exact ⟨_,(wFk (v:=jV 3) ⟨⟨_,rfl,(wIN yd (fI.blkAt (k:=0) rfl) rfl)⟩,trivial⟩),bj,_,(fI.pick [] _ (by decide) rfl),rfl,rfl⟩
 intro cO mS
 refine ZF (nF (cO.out)) (sR (.fx 0 .nil .stop) Z (zu (j:=0) (vs:=[jV 2]) Z Z Z Z de Z Z Z Z yV (zC Z) Z Z Z ?_))
 intro ip lU
 let cD:Res:=.blk b6 35 [jV 2]
 have lV:sW w U bD [cD,.blk b2 28 B0] ip:=lU
 refine eN (zO (zf (zR (wEg (by first | exact .inl rfl | exact .inr rfl) (rbs:=[]) (L:=[cD,.blk b2 28 B0]) lV fun iq lW=>?_))))
 have fJ:sW w U bD [cD,.blk b2 28 B0] iq:=lW
 cases mS
 exact ⟨_,(wFk (v:=jV 2) ⟨⟨_,rfl,(wIN yd (fJ.blkAt (k:=0) rfl) rfl)⟩,trivial⟩),bD,_,(fJ.pick [] _ (by decide) rfl),rfl,rfl⟩
 intro am mT
 refine zd Z Z Z (zN Z Z (nF (am.out)) Z) (zd Z Z Z (zN Z Z (nF (am.out)) Z) (zd Z Z Z (zN Z Z (nF (am.out)) Z) (zd Z Z Z (zN Z Z (nF (am.out)) Z) (zd Z Z Z (zN Z Z (nF (am.out)) Z) (ZA Z Z Z (zN Z Z (nF (am.out)) Z) (zd Z Z Z (zN Z Z (nF (am.out)) Z) (oR Z (zV Z (nF (am.out)) Z) (oA Z Z (eN (ZF Z (sR (.fx 0 .nil .stop) Z (zu (j:=0) (vs:=[jV 2]) Z Z Z Z bZ Z Z Z Z yV (zC Z) Z Z Z ?_))))))))))))
 intro ir lX
 let cE:Res:=.blk b6 35 [jV 2]
 have lY:sW w U bi [cE,.blk b2 28 B0] ir:=lX
 refine eN (zO (zf (zR (wEg (by first | exact .inl rfl | exact .inr rfl) (rbs:=[]) (L:=[cE,.blk b2 28 B0]) lY fun it lZ=>?_))))
 have fK:sW w U bi [cE,.blk b2 28 B0] it:=lZ
 cases mT
 exact ⟨_,(wFk (v:=jV 2) ⟨⟨_,rfl,(wIN yd (fK.blkAt (k:=0) rfl) rfl)⟩,trivial⟩),bi,_,(fK.pick [] _ (by decide) rfl),rfl,rfl⟩
 intro cL mU
 refine cT Z cL (sR gAf Z (oM Z Z (zu (j:=0) (vs:=[jV x9]) Z Z Z Z db Z Z Z Z yV (zC Z) Z Z Z ?_)))
 intro iu l4
 let cG:Res:=.blk b6 35 [jV x9]
 have l5:sW w U bA [cG,.blk b2 28 B0] iu:=l4
 refine eN (zO (zf (zR (wEg (by first | exact .inl rfl | exact .inr rfl) (rbs:=[]) (L:=[cG,.blk b2 28 B0]) l5 fun iv l6=>?_))))
 have fL:sW w U bA [cG,.blk b2 28 B0] iv:=l6
 have hE:=nA mU;first | subst r | cases hE
 exact ⟨_,(wFk (v:=jV x9) ⟨⟨_,rfl,(wIN yd (fL.blkAt (k:=0) rfl) rfl)⟩,trivial⟩),bA,_,(fL.pick [] _ (by decide) rfl),rfl,rfl⟩
end Go.Proofs.YtnbcoenjobdplaaGreat
namespace Go.Proofs.YtnbcoenjobdplaaGreat
open Go.KL
set_option maxHeartbeats 4000000
theorem wEY (p0:wAI) (az:Option Addr) (aW:Nat) (am:Option Addr) (an:Nat) (w:World) (U:PHeap) (hS:St0 w U []) (dq:Sl U 1 az aW p0.Rules.Classes.length (hM KL.encI p0.Rules.Classes)) (cd:SlR U wFF am an p0.Teams) {r:(Option wDY) × Int} (hm:wCo p0=some r):Gv Tryz.prog 30 [.agg #[.slice az p0.Rules.Classes.length aW,jV p0.Rules.Each,jV p0.Rules.Laps,jV p0.Rules.Spare,jV p0.Rules.Loop,jV p0.Rules.Unused,jV p0.Start,.slice am p0.Teams.length an]] w (wBU w [] U (fun U_ L_ v=>match r.1 with | none=>v=.tuple #[.pointer none,jV r.2]/\L_=[] | some d=>∃ (b0:Nat) (A0p000:Option Addr) (c0p000:Nat) (A0p02:Option Addr) (c0p02:Nat) (A0p1:Option Addr) (c0p1:Nat) (cs0p1:List Value),v=.tuple #[.pointer (some ⟨b0,0,none⟩),jV r.2]/\L_=[.blk b0 130 [.slice A0p000 d.Race.Rules.Classes.length c0p000,jV d.Race.Rules.Each,jV d.Race.Rules.Laps,jV d.Race.Rules.Spare,jV d.Race.Rules.Loop,jV d.Race.Rules.Unused,jV d.Race.Start,.slice A0p02 d.Race.Teams.length c0p02,.slice A0p1 d.after.length c0p1],.row A0p1 c0p1 23 1 cs0p1]/\Sl U_ 1 A0p000 c0p000 d.Race.Rules.Classes.length (hM KL.encI d.Race.Rules.Classes)/\SlR U_ wFF A0p02 c0p02 d.Race.Teams/\RlL U_ wDT d.after cs0p1)):=by
 unfold wCo at hm
 refine Gv.of Tryz.func30 Z Tryz.ntmps30 Tryz.results30 Z (sR (.fx 0 gAa .stop) Z ?_)
 let B0:List Value:=[.slice az p0.Rules.Classes.length aW,jV p0.Rules.Each,jV p0.Rules.Laps,jV p0.Rules.Spare,jV p0.Rules.Loop,jV p0.Rules.Unused,jV p0.Start,.slice am p0.Teams.length an]
 refine ZS (cs:=B0) rfl rfl rfl rfl rfl rfl (by rfl) hS ?_
 intro W1 b2 di
 refine oA Z Z (oA Z Z (eN (zG (sR gAo Z (oL Z (di.ldBA (j:=0) Z Z Z Zq ZL (vs:=B0) Z Z) (bnK hm fun x5 h6 io=>zL 0 Z Z Z Z (zK Z Z Tryz.call65 (zB Z zM) Z) di (fun hs=>wGq p0 az aW am an W1 U hs dq cd h6) (.inr Z) ?_))))))
 rintro U8 L9 iW dM cp gh ⟨rfl,rfl⟩
 have ca:sW w U U8 [.blk b2 28 B0] dM:=gh
 refine oA Z Z (eN (sR fL2 Z (oM Z Z (oR Z (ZW Z Z Z) (eN (ifc io ?_ ?_))))))
 intro bO g8
 refine zm (zw (fun h=>h bO.out)) (kN (sR gAq Z (oL Z (ca.ldBA (j:=0) Z Z Z Zq ZL (vs:=B0) Z Z) ?_)))
 let B1:List Value:=[.slice az p0.Rules.Classes.length aW,jV p0.Rules.Each,jV p0.Rules.Laps,jV p0.Rules.Spare,jV p0.Rules.Loop,jV p0.Rules.Unused,jV p0.Start,.slice am p0.Teams.length an,.slice none 0 0]
 refine zh rfl rfl rfl rfl (fun _=>ZH (pv:=[(0,.agg B0.toArray)]) (z:=[.slice none 0 0,jV 0,jV 0,jV 0,jV 0,jV 0,jV 0,.slice none 0 0,.slice none 0 0]) (cs:=B1) rfl (wAC rfl wAM) Tryz.zeroValue130 wMH rfl rfl) (ZS (cs:=B1) rfl rfl rfl rfl rfl rfl (by rfl) ca ?_)
 intro iI aX df
 refine oA Z Z (eN (zG (sR fL7 Z (oM Z Z (oR Z (ZX Z Z) (oR Z (zJ Z Z Zh Z ZL) (oR Z (zJ Z Z ze Z ZU) (oL Z (df.ldB (j:=0) Z Z Z Zn (v:=.slice am p0.Teams.length an) Z) (oR Z (za Z Z ZC) (oM Z Z (eN (zT (bnK g8 fun je gV il=>?_)))))))))))))
 have q:=wAs gV
 obtain ⟨co,gW⟩:=q
 replace co:=zF co
 refine CK.forN' (fun ay bm σ_ w_=>∃ (U_:PHeap) (bf:Option Addr) (bi:Nat) (bD:List Value),σ_ 29=jV (↑ay:Int)/\σ_ 5=.pointer (some ⟨aX,0,none⟩)/\σ_ 27=.slice am p0.Teams.length an/\σ_ 28=jV (↑p0.Teams.length:Int)/\PHeap.Le U8 U_/\sW w U U_ [.row bf bi 23 1 bD,.blk aX 130 [.slice az p0.Rules.Classes.length aW,jV p0.Rules.Each,jV p0.Rules.Laps,jV p0.Rules.Spare,jV p0.Rules.Loop,jV p0.Rules.Unused,jV p0.Start,.slice am p0.Teams.length an,.slice bf bm.length bi],.blk b2 28 B0] w_/\RlL U_ wDT bm bD) gW ?_ ?_ ?_
 have gM:=df.nilrow 23 1
 exact ⟨U8,none,0,[],Z,Z,Z,Z,(zH _),gM,RlL.nil⟩
 rintro ay bm ja jk iN ci ⟨bA,bf,bi,bD,bW,cZ,c6,c7,dD,dp,fU⟩ iv
 have cM:Hid ((↑ay:Int) < (↑p0.Teams.length:Int)):=zF (wAo ci)
 replace ci:=zF ci
 have gY:Hid (w64 ((↑ay:Int) + 1)=(↑(ay + 1):Int)):=zF (by have h1:=co.out;have h2:=cM.out;rw [wAT] <;> omega)
 refine sR fL1 Z (oR Z (zU Z bW c7) (eN (zG (cT Z cM (kN (zG (zT (sR gAv Z (bnK iv fun ae db im=>?_)))))))))
 have fV:=cd.le cp
 have fW:=fV.le dD
 have q:=fW.el (wAR db)
 obtain ⟨eb,iB,i6,ge,b4,it⟩:=q
 obtain ⟨cr,cu,a8,ba,rfl,iU,fY⟩:=it
 replace b4:Cl bA eb (iB + ay * 3) [jV ae.Bib,.slice cr ae.Classes.length cu,.slice a8 ae.Legs.length ba]:=b4
 refine oR Z (zo Z c6 ge bW ZC ZE (wAj db)) (oL Z (dp.ldCA (f:=0) b4 Z Z yC ZE (us:=[jV ae.Bib,.slice cr ae.Classes.length cu,.slice a8 ae.Legs.length ba]) Z Z) ?_)
 let B2:List Value:=[jV 0,.slice none 0 0,.slice none 0 0]
 refine zz (cs:=B2) Z Z Z Z Z Zb Z dp ?_
 intro iO aj gO
 let B3:List Value:=[jV ae.Bib,.slice cr ae.Classes.length cu,.slice a8 ae.Legs.length ba]
 refine zu (j:=0) (vs:=B3) Z Z Z Z gO Z Z Z Z ZE (zC Z) Z Z Z ?_
 intro dY gP
 let B4:Res:=.blk aX 130 [.slice az p0.Rules.Classes.length aW,jV p0.Rules.Each,jV p0.Rules.Laps,jV p0.Rules.Spare,jV p0.Rules.Loop,jV p0.Rules.Unused,jV p0.Start,.slice am p0.Teams.length an,.slice bf bm.length bi]
 let B5:Res:=.row bf bi 23 1 bD
 have cc:sW w U bA [.blk aj 43 B3,B5,B4,.blk b2 28 B0] dY:=gP
 refine eN (sR fL6 Z (oM Z cZ (oR Z (ZX Z Z) (oR Z (zJ Z Z Zh Z ZL) (oR Z (zJ Z Z ze Z zD) (oL Z (cc.ldB (j:=2) Z Z Z zP (v:=jV p0.Start) Z) (oA Z Z (eN (sR fL1 Z (oA Z Z (eN (zG (sR fL4 Z (oR Z (zJ Z Z zk Z Zd) (oL Z (cc.ldB (j:=0) Z Z Z yE (v:=.slice a8 ae.Legs.length ba) Z) (oR Z (za Z Z ZM) (oM Z Z (eN (zT ?_)))))))))))))))))))
 have q:=bnd im
 obtain ⟨⟨jb,bb⟩,gQ,dt⟩:=q
 try dsimp only at dt
 have q:=wAs gQ
 obtain ⟨cj,gS⟩:=q
 replace cj:=zF cj
 refine CK.forN' (fun aY (dE,bG) σ_ w_=>∃ (U_:PHeap) (bn:Option Addr) (bs:Nat),σ_ 41=jV (↑aY:Int)/\σ_ 5=.pointer (some ⟨aX,0,none⟩)/\σ_ 8=jV dE/\σ_ 9=.slice bn bG.length bs/\σ_ 27=.slice am p0.Teams.length an/\σ_ 28=jV (↑p0.Teams.length:Int)/\σ_ 29=jV (↑ay:Int)/\σ_ 39=.slice a8 ae.Legs.length ba/\σ_ 40=jV (↑ae.Legs.length:Int)/\PHeap.Le bA U_/\sW w U U_ [.blk aj 43 B3,B5,B4,.blk b2 28 B0,.row bn bs 3 1 (hM KL.encI bG)] w_) gS ?_ ?_ ?_
 have gg:=cc.nilrow 3 1
 exact ⟨bA,none,0,rfl,cZ,rfl,rfl,c6,c7,bW,rfl,rfl,(zH _),(gg.pick [1,2,3,4,0] _ (by decide) rfl)⟩
 rintro aY ⟨dE,bG⟩ i8 jf iG cg ⟨bz,bn,bs,bV,eC,eD,eG,eH,eI,eJ,cN,cO,dz,dd⟩ dx
 try dsimp only at dx
 have cI:Hid ((↑aY:Int) < (↑ae.Legs.length:Int)):=zF (wAo cg)
 replace cg:=zF cg
 have gX:Hid (w64 ((↑aY:Int) + 1)=(↑(aY + 1):Int)):=zF (by have h1:=cj.out;have h2:=cI.out;rw [wAT] <;> omega)
 refine sR fL1 Z (oR Z (zU Z bV cO) (eN (zG (cT Z cI (kN (zG (zT (sR gAv Z (bnK dx fun ag c9 gZ=>?_)))))))))
 have fB:=fY.le dz
 have q:=fB.el (wAR c9)
 obtain ⟨dZ,iz,iY,fZ,bY,ip⟩:=q
 obtain ⟨bu,bv,bI,bJ,rfl,fC,fD⟩:=ip
 replace bY:Cl bz dZ (iz + aY * 3) [jV ag.Skier,.slice bu ag.Loops.length bv,.slice bI ag.Bouts.length bJ]:=bY
 refine oR Z (zo Z cN fZ bV ZM ZJ (wAj c9)) (oL Z (dd.ldCA (f:=0) bY Z Z yP ZJ (us:=[jV ag.Skier,.slice bu ag.Loops.length bv,.slice bI ag.Bouts.length bJ]) Z Z) (zz (cs:=B2) Z Z Z Z Z ZT Z dd ?_))
 intro iH aw gi
 let B6:List Value:=[jV ag.Skier,.slice bu ag.Loops.length bv,.slice bI ag.Bouts.length bJ]
 refine zu (j:=0) (vs:=B6) Z Z Z Z gi Z Z Z Z ZJ (zC Z) Z Z Z ?_
 intro dN gj
 have de:sW w U bz [.blk aw 46 B6,.blk aj 43 B3,B5,B4,.blk b2 28 B0,.row bn bs 3 1 (hM KL.encI bG)] dN:=gj
 refine eN (sR fL4 Z (oR Z (zJ Z Z ZB Z zS) (oL Z (de.ldB (j:=0) Z Z Z zc (v:=.slice bu ag.Loops.length bv) Z) (oR Z (za Z Z zA) (oM Z Z (eN (zT ?_)))))))
 have q:=bnd gZ
 obtain ⟨⟨jc,jd⟩,gT,du⟩:=q
 try dsimp only at du
 have q:=wAs gT
 obtain ⟨cm,gU⟩:=q
 replace cm:=zF cm
 refine CK.forN' (fun a7 (ap,aZ) σ_ w_=>∃ (U_:PHeap) (be:Option Addr) (bh:Nat),σ_ 48=jV (↑a7:Int)/\σ_ 5=.pointer (some ⟨aX,0,none⟩)/\σ_ 8=jV ap/\σ_ 9=.slice be aZ.length bh/\σ_ 11=.pointer (some ⟨aw,0,none⟩)/\σ_ 27=.slice am p0.Teams.length an/\σ_ 28=jV (↑p0.Teams.length:Int)/\σ_ 29=jV (↑ay:Int)/\σ_ 39=.slice a8 ae.Legs.length ba/\σ_ 40=jV (↑ae.Legs.length:Int)/\σ_ 41=jV (↑aY:Int)/\σ_ 47=jV (↑ag.Loops.length:Int)/\PHeap.Le bz U_/\sW w U U_ [.blk aw 46 B6,.blk aj 43 B3,B5,B4,.blk b2 28 B0,.row be bh 3 1 (hM KL.encI aZ)] w_) gU ?_ ?_ ?_
 exact ⟨bz,bn,bs,Z,eC,eD,eG,Z,eH,eI,eJ,cN,cO,bV,Z,(zH _),de⟩
 rintro a7 ⟨ap,aZ⟩ i9 jg dO ch ⟨bq,be,bh,bF,cP,eK,cQ,bE,cR,cS,cU,cV,cW,cX,bS,bH,bj⟩ dy
 try dsimp only at dy
 have cJ:Hid ((↑a7:Int) < (↑ag.Loops.length:Int)):=zF (wAo ch)
 replace ch:=zF ch
 have dr:Hid (w64 ((↑a7:Int) + 1)=(↑(a7 + 1):Int)):=zF (by have h1:=cm.out;have h2:=cJ.out;rw [wAT] <;> omega)
 refine sR fL1 Z (oR Z (zU Z bF bS) (eN (zG (cT Z cJ (kN (zG (zT (sR fL2 Z (oM Z bF (oA Z Z (eN (sR fL8 Z (oM Z eK (oR Z (zJ Z bE ZB Z zS) (oL Z (bj.ldB (j:=0) Z Z Z zc (v:=.slice bu ag.Loops.length bv) Z) (oM Z Z (bnK dy fun av da g9=>?_)))))))))))))))))
 have fE:=fC.le bH
 have q:=fE.el (fun _=>rfl) (wAR da)
 obtain ⟨iP,iV,gb,gf⟩:=q
 refine oR Z (zo Z Z gb Z zA zD (wAj da)) (oL Z (bj.ldC (f:=0) gf (v:=jV av) Z Z zP Z) (oR Z (zX Z Z Z) (oA Z Z (eN (zG (sR fL2 Z (oM Z Z (oR Z (yN Z Z Z) (eN (ifc g9 ?_ ?_))))))))))
 intro bP ib
 refine cT Z bP (sR (wIu (.fx 6 (fC7_9 (.fx 10 (.fx 11 (.fl 12 .nil) .stop) .stop)) .stop)) Z (oR Z (zJ Z bE ZB Z yK) (oL Z (bj.ldB (j:=0) Z Z Z yu (v:=.slice bI ag.Bouts.length bJ) Z) (oM Z Z (oR Z (Zx Z Z Z) (bnK ib fun cw bX ic=>?_))))))
 have fG:=fD.le bH
 have q:=fG.el (wAR bX)
 obtain ⟨d7,iA,iZ,gc,bZ,iq⟩:=q
 obtain ⟨cq,ct,rfl,fH⟩:=iq
 replace bZ:Cl bq d7 (iA + (w64 ((↑a7:Int) - 1)).toNat * 1) [.slice cq cw.length ct]:=bZ
 refine oR Z (yG Z Z gc Z ZZ Zt (wEK bX) (wET bX)) (oL Z (bj.ldC (f:=0) bZ (v:=.slice cq cw.length ct) Z Z yc Z) ?_)
 have q:=bnd ic
 obtain ⟨⟨af,iC⟩,fI,dv⟩:=q
 try dsimp only at dv
 refine zL 0 Z Z Z Z (zK Z Z Tryz.call11 (zB Z zM) Z) bj (fun hs=>wEL cw cq ct dO bq hs fH fI) (.inr Z) ?_
 rintro br iD iX dP iw gm ⟨rfl,rfl⟩
 let B7:Res:=.row be bh 3 1 (hM KL.encI aZ)
 have gq:sW w U br [.blk aw 46 B6,.blk aj 43 B3,B5,B4,.blk b2 28 B0,B7] dP:=gm
 refine oM Z Z (oR Z (zx Z Z (v:=.agg #[jV af.Spares,jV af.Loops,jV af.Unused]) Z) (oR Z (zx Z Z (v:=jV iC) Z) (zz (cs:=[jV 0,jV 0,jV 0]) Z Z Z Z Z Zw Z gq ?_)))
 intro iJ bC gr
 let B8:List Value:=[jV af.Spares,jV af.Loops,jV af.Unused]
 refine zu (j:=0) (vs:=B8) Z Z Z Z gr Z Z Z Z Zm (zC Z) Z Z Z ?_
 intro bN gu
 have gv:sW w U br [.blk bC 49 B8,.blk aw 46 B6,.blk aj 43 B3,B5,B4,.blk b2 28 B0,B7] bN:=gu
 refine oA Z Z (eN (ya fun aq ak=>?_))
 have bT:aq 5=.pointer (some ⟨aX,0,none⟩):=(ak 5).trans cP
 have eM:aq 8=jV (w64 (ap + av)):=(ak 8).trans rfl
 have eP:aq 9=.slice be aZ.length bh:=(ak 9).trans cQ
 have eQ:aq 11=.pointer (some ⟨aw,0,none⟩):=(ak 11).trans bE
 have cY:aq 13=.pointer (some ⟨bC,0,none⟩):=(ak 13).trans rfl
 have eR:aq 27=.slice am p0.Teams.length an:=(ak 27).trans cR
 have eS:aq 28=jV (↑p0.Teams.length:Int):=(ak 28).trans cS
 have eT:aq 29=jV (↑ay:Int):=(ak 29).trans cU
 have eU:aq 39=.slice a8 ae.Legs.length ba:=(ak 39).trans cV
 have eV:aq 40=jV (↑ae.Legs.length:Int):=(ak 40).trans cW
 have eW:aq 41=jV (↑aY:Int):=(ak 41).trans cX
 have eX:aq 47=jV (↑ag.Loops.length:Int):=(ak 47).trans bS
 have eY:aq 48=jV (↑a7:Int):=(ak 48).trans bF
 clear ak
 refine ZY ZP [3,3,1,3,3,3,3,3,1,3,3,1,3,3,3,3,3,1,3,3,3,3] fL22 (by kernel_rfl) ?_
 have bl:=gv.drew
 generalize hw_W268:({ bN with drawn:=bN.drawn + 1 }:World)=iK at bl ⊢
 refine oM Z eM (oR Z (zJ Z cY Tryz.runUnderlying49 Z zD) (oL Z (bl.ldB (j:=0) Z Z Z zP (v:=jV af.Spares) Z) (oM Z bT (oR Z (ZX Z Z) (oR Z (zJ Z Z Zh Z ZL) (oR Z (zJ Z Z ze Z ZG) (oR Z (zJ Z Z zy Z zD) (oL Z (bl.ldB (j:=4) Z Z Z zP (v:=jV p0.Rules.Spare) Z) (oR Z (Runs.mulw Z Z Z) (oR Z (zJ Z cY Tryz.runUnderlying49 Z zD) (oL Z (bl.ldB (j:=0) Z Z Z zP (v:=jV af.Loops) Z) (oM Z bT (oR Z (ZX Z Z) (oR Z (zJ Z Z Zh Z ZL) (oR Z (zJ Z Z ze Z ZG) (oR Z (zJ Z Z zy Z zD) (oL Z (bl.ldB (j:=4) Z Z Z zP (v:=jV p0.Rules.Loop) Z) (oR Z (Runs.mulw Z Z Z) (oR Z (zX Z Z Z) (oR Z (zX Z Z Z) (oA Z Z (eN (rR gAy Z (oM Z eP (oM Z Z (zW (pv:=[(0,jV (w64 ((w64 (ap + av)) + (w64 ((w64 (af.Spares * p0.Rules.Spare)) + (w64 (af.Loops * p0.Rules.Loop)))))))]) (zs:=[jV 0]) (cs:=[jV (w64 ((w64 (ap + av)) + (w64 ((w64 (af.Spares * p0.Rules.Spare)) + (w64 (af.Loops * p0.Rules.Loop))))))]) Z Z Z Z Z (wAC Z wAM) zA zD zt Z Z Z Z Z bl ?_))))))))))))))))))))))))))
 intro dQ d8 gw
 let B9:Res:=.row (some ⟨d8,0,none⟩) 1 3 1 (hM KL.encI [w64 ((w64 (ap + av)) + (w64 ((w64 (af.Spares * p0.Rules.Spare)) + (w64 (af.Loops * p0.Rules.Loop)))))])
 have dg:sW w U br [B9,.blk bC 49 B8,.blk aw 46 B6,.blk aj 43 B3,B5,B4,.blk b2 28 B0,B7] dQ:=gw
 refine bnK dv fun dF fJ ie=>Zs (j:=7) (enc:=KL.encI) (xs:=aZ) (ys:=[w64 ((w64 (ap + av)) + (w64 ((w64 (af.Spares * p0.Rules.Spare)) + (w64 (af.Loops * p0.Rules.Loop)))))]) (zs:=dF) rfl rfl rfl rfl rfl Zi wFA rfl rfl rfl rfl rfl rfl dg rfl rfl rfl (dg.srcR (j:=0) rfl (by decide) (wAF (f:=KL.encI) (sz:=1) (fun _=>rfl) [w64 ((w64 (ap + av)) + (w64 ((w64 (af.Spares * p0.Rules.Spare)) + (w64 (af.Loops * p0.Rules.Loop)))))])) (fun _=>rfl) (fun _=>rfl) fJ rfl ?_
 intro cz cK dR gx
 have gy:sW w U br [B9,.blk bC 49 B8,.blk aw 46 B6,.blk aj 43 B3,B5,B4,.blk b2 28 B0,.row cz cK 3 1 (hM KL.encI dF)] dR:=gx
 refine oA Z Z (zg (zb (zI (rR fL2 Z (oR Z (zn (zX Z eY Z) (congrArg (jV) dr.out)) (oM Z Z (zg ?_)))))))
 cases ie
 exact zI ⟨rfl,⟨br,cz,cK,rfl,bT,rfl,rfl,eQ,eR,eS,eT,eU,eV,eW,eX,(bH.trans iw),(gy.pick [2,3,4,5,6,7] _ (by decide) rfl)⟩⟩
 intro bP ig
 refine cF Z bP (kN (rR gAy Z (oM Z cQ (oM Z Z (zW (pv:=[(0,jV (w64 (ap + av)))]) (zs:=[jV 0]) (cs:=[jV (w64 (ap + av))]) Z Z Z Z Z (wAC Z wAM) zA zD zt Z Z Z Z Z bj ?_)))))
 intro dS d9 gz
 let cD:Res:=.row (some ⟨d9,0,none⟩) 1 3 1 (hM KL.encI [w64 (ap + av)])
 have dh:sW w U bq [cD,.blk aw 46 B6,.blk aj 43 B3,B5,B4,.blk b2 28 B0,.row be bh 3 1 (hM KL.encI aZ)] dS:=gz
 refine bnK ig fun dG fK ii=>Zs (j:=6) (enc:=KL.encI) (xs:=aZ) (ys:=[w64 (ap + av)]) (zs:=dG) rfl rfl rfl rfl rfl Zi wFA rfl rfl rfl rfl rfl rfl dh rfl rfl rfl (dh.srcR (j:=0) rfl (by decide) (wAF (f:=KL.encI) (sz:=1) (fun _=>rfl) [w64 (ap + av)])) (fun _=>rfl) (fun _=>rfl) fK rfl ?_
 intro cA cL dT gA
 have gB:sW w U bq [cD,.blk aw 46 B6,.blk aj 43 B3,B5,B4,.blk b2 28 B0,.row cA cL 3 1 (hM KL.encI dG)] dT:=gA
 refine oA Z Z (zg (zb (zI (rR fL2 Z (oR Z (zn (zX Z bF Z) (congrArg (jV) dr.out)) (oM Z Z (zg ?_)))))))
 cases ii
 exact zI ⟨rfl,⟨bq,cA,cL,rfl,cP,rfl,rfl,bE,cR,cS,cU,cV,cW,cX,bS,bH,(gB.pick [1,2,3,4,5,6] _ (by decide) rfl)⟩⟩
 rintro jh iL ⟨dJ,dH,ee,fy,eZ,e8,e9,iQ,fb,fc,fd,fe,ff,fg,fh,iy,gC⟩
 have eh:Hid (¬ ((↑(((↑ag.Loops.length:Int):Int) - 0).toNat:Int) < (↑ag.Loops.length:Int))):=zF (wAa)
 refine sR fL1 Z (oR Z (zU Z fy fh) (eN (zG (cF Z eh (ZI (zY (zY (ZD (zb (zI (rR fL2 Z (oR Z (zn (zX Z fg Z) (congrArg (jV) gX.out)) (oM Z Z (zg ?_))))))))))))))
 cases du
 exact zI ⟨rfl,⟨dJ,dH,ee,rfl,eZ,e8,e9,fb,fc,fd,fe,ff,(dz.trans iy),(gC.pick [1,2,3,4,5] _ (by decide) rfl)⟩⟩
 rintro ji dU ⟨iF,bK,bQ,fz,bU,iR,fj,fk,fm,fq,iS,ft,dA,dm⟩
 have ep:Hid (¬ ((↑(((↑ae.Legs.length:Int):Int) - 0).toNat:Int) < (↑ae.Legs.length:Int))):=zF (wAa)
 refine sR fL1 Z (oR Z (zU Z fz ft) (eN (zG (cF Z ep (ZI (zY (zY (ZD (zI (rR (wIu (.fx 6 (.fx 7 (.fl 8 (.fl 9 (.fx 10 .nil .stop))) .stop) .stop)) Z (oM Z bU (oM Z bU (oR Z (ZX Z Z) (oR Z (zJ Z Z Zh Z Zk) (oL Z (dm.ldB (j:=2) Z Z Z Zy (v:=.slice bf bm.length bi) Z) (oM Z fj ?_))))))))))))))))
 have q:=dm.freezeR (k:=4) (n:=bb.length) rfl (wAF (f:=KL.encI) (sz:=1) (fun _=>rfl) bb) (by decide)
 obtain ⟨bg,dB,iu,gE⟩:=q
 have gF:sW w U bg [.blk aj 43 B3,B5,B4,.blk b2 28 B0] dU:=gE
 let bw:List Value:=[.slice bK bb.length bQ]
 refine zW (pv:=[(0,.slice bK bb.length bQ)]) (zs:=[.slice none 0 0]) (cs:=bw) Z Z Z Z Z (wAC Z wAM) zq zS yh Z Z Z Z Z gF ?_
 intro dV ea gD
 have dw:RlL bg wDT [bb] bw:=(RlL.cons (R:=wDT) (x:=bb) (vs:=bw) ⟨bK,bQ,rfl,iu⟩ RlL.nil)
 let bL:Res:=.row (some ⟨ea,0,none⟩) 1 23 1 bw
 have dn:sW w U bg [bL,.blk aj 43 B3,B5,B4,.blk b2 28 B0] dV:=gD
 refine bnK dt fun cy fL ij=>?_
 have fM:=fU.le dA
 have fN:=fM.le dB
 refine OKS.appendR (R:=wDT) (j:=2) (xs:=bm) (ys:=[bb]) (zs:=cy) rfl rfl rfl rfl rfl Tryz.underlying32 wKa rfl rfl rfl rfl rfl rfl rfl dn rfl rfl rfl fN dw (dn.srcR (j:=0) rfl (by decide) (RlL.len dw)) fL rfl ?_
 intro bp bt bR dW gG ir
 have gH:sW w U bg [bL,.blk aj 43 B3,.row bp bt 23 1 bR,B4,.blk b2 28 B0] dW:=gG
 refine oR Z (ZX Z Z) (oR Z (zJ Z Z Zh Z Zk) (zu (j:=3) (vs:=[.slice bp cy.length bt]) Z Z Z Z gH Z Z Z Z Zk (zC Z) Z Z Z ?_))
 intro dX gI
 have gJ:sW w U bg [bL,.blk aj 43 B3,.row bp bt 23 1 bR,.blk aX 130 [.slice az p0.Rules.Classes.length aW,jV p0.Rules.Each,jV p0.Rules.Laps,jV p0.Rules.Spare,jV p0.Rules.Loop,jV p0.Rules.Unused,jV p0.Start,.slice am p0.Teams.length an,.slice bp cy.length bt],.blk b2 28 B0] dX:=gI
 refine zg (zb (zI (rR fL2 Z (oR Z (zn (zX Z fq Z) (congrArg (jV) gY.out)) (oM Z Z (zg ?_))))))
 cases ij
 exact zI ⟨rfl,⟨bg,bp,bt,bR,rfl,bU,fk,fm,((dD.trans dA).trans dB),(gJ.pick [2,3,4] _ (by decide) rfl),ir⟩⟩
 rintro jj iM ⟨dK,dI,ew,ey,fA,fu,iT,fw,dC,gK,fO⟩
 have eB:Hid (¬ ((↑(((↑p0.Teams.length:Int):Int) - 0).toNat:Int) < (↑p0.Teams.length:Int))):=zF (wAa)
 refine sR fL1 Z (oR Z (zU Z fA fw) (eN (zG (cF Z eB (ZI (zY (zY (ZD (zI (sR fL3 Z (oM Z fu (oA Z Z (oA Z Z (eN (zO ?_)))))))))))))))
 have fP:=dq.le cp
 have fQ:=fP.le dC
 have fR:=cd.le cp
 have fS:=fR.le dC
 cases il
 exact ⟨rfl,_,(wFc rfl rfl),dK,_,(gK.pick [1,0] _ (by decide) rfl),aX,az,aW,am,an,dI,ew,ey,rfl,rfl,fQ,fS,fO⟩
 intro bO ik
 refine cT Z bO (sR fL3 Z (oM Z Z (oA Z Z (oA Z Z (eN (zO (zR ?_)))))))
 cases ik
 exact ⟨rfl,_,(wFc rfl rfl),U8,_,(ca.pick [] _ (by decide) rfl),rfl,rfl⟩
theorem wBD (p0:List Int) (ae:Option Addr) (am:Nat) (w:World) (U:PHeap) (hS:St0 w U []) (ak:Sl U 1 ae am p0.length (hM KL.encI p0)) {r:(List Int)} (hm:wBB p0=some r):Gv Tryz.prog 66 [.slice ae p0.length am] w (wBU w [] U (fun U_ L_ v=>∃ (A0:Option Addr) (c0:Nat),v=.slice A0 r.length c0/\L_=[.row A0 c0 3 1 (hM KL.encI r)])):=by
 unfold wBB at hm
 refine Gv.of Tryz.func66 Z Tryz.ntmps66 Tryz.results66 Z (sR fL1 Z (oA Z Z (eN (zG (sR fL2 Z (oM Z Z (oR Z (Runs.eqNil Z Z Z zA) (eN ?_))))))))
 by_cases c1:ae.isNone=true
 replace c1:=zF c1
 have aX:p0=[]:=List.eq_nil_of_length_eq_zero (Sl.nilA (Option.isNone_iff_eq_none.1 c1.out ▸ ak))
 have aW:(some [])=some r:=by simpa [aX,app] using hm
 refine ZF (congrArg nB c1.out) (sR fL1 Z (oA Z Z (eN (zO (zR ?_)))))
 have ax:=hS.nilrow 3 1
 cases aW
 exact ⟨Z,_,(zr Z),U,_,ax,none,0,Z,Z⟩
 replace c1:=zF c1
 refine zm (congrArg nB (nD.2 c1.out)) (kN (sR (.fx 0 gAl .stop) Z (OKS.buildSlice0 1 Z Z Z Z Z zA zD hS ?_)))
 intro W6 b7 ay
 have aj:sW w U U [.row (some ⟨b7,0,none⟩) 0 3 1 (hM KL.encI ([]:List Int))] W6:=ay
 refine oM Z Z (bnK hm fun an au az=>OKS.append0 (j:=0) (enc:=KL.encI) (ys:=p0) (zs:=an) Z Z Z Z Z Zi wFA Z Z Z Z Z Z aj Z Z Z (aj.srcS ak) (fun _=>Z) au ?_)
 intro ag ai ao av
 have aw:sW w U U [.row ag ai 3 1 (hM KL.encI an)] ao:=av
 refine oA Z Z (eN (zO ?_))
 have hE:=nA az;first | subst r | cases hE
 exact ⟨Z,_,(zr Z),U,_,aw,ag,ai,Z,Z⟩
theorem wEG (p0:wDY) (ba:Nat) (a7:Option Addr) (bb:Nat) (ay:Option Addr) (az:Nat) (a8:Option Addr) (be:Nat) (w:World) (U:PHeap) (hS:St0 w U [.blk ba 130 [.slice a7 p0.Race.Rules.Classes.length bb,jV p0.Race.Rules.Each,jV p0.Race.Rules.Laps,jV p0.Race.Rules.Spare,jV p0.Race.Rules.Loop,jV p0.Race.Rules.Unused,jV p0.Race.Start,.slice ay p0.Race.Teams.length az,.slice a8 p0.after.length be]]) (eD:Sl U 1 a7 bb p0.Race.Rules.Classes.length (hM KL.encI p0.Race.Rules.Classes)) (dL:SlR U wFF ay az p0.Race.Teams) (dM:SlR U wDT a8 be p0.after) {r:wAP} (hm:wBM p0=some r):Gv Tryz.prog 31 [.pointer (some ⟨ba,0,none⟩)] w (wBU w [.blk ba 130 [.slice a7 p0.Race.Rules.Classes.length bb,jV p0.Race.Rules.Each,jV p0.Race.Rules.Laps,jV p0.Race.Rules.Spare,jV p0.Race.Rules.Loop,jV p0.Race.Rules.Unused,jV p0.Race.Start,.slice ay p0.Race.Teams.length az,.slice a8 p0.after.length be]] U (fun U_ L_ v=>∃ (bT:Option Addr) (bZ:Nat) (bU:Option Addr) (b4:Nat) (cd:List Value),v=.agg #[jV r.Laps,.slice bT r.Bibs.length bZ,.slice bU r.Times.length b4]/\L_=[.row bT bZ 3 1 (hM KL.encI r.Bibs),.row bU b4 23 1 cd,.blk ba 130 [.slice a7 p0.Race.Rules.Classes.length bb,jV p0.Race.Rules.Each,jV p0.Race.Rules.Laps,jV p0.Race.Rules.Spare,jV p0.Race.Rules.Loop,jV p0.Race.Rules.Unused,jV p0.Race.Start,.slice ay p0.Race.Teams.length az,.slice a8 p0.after.length be]]/\RlL U_ wDT r.Times cd)):=by
 unfold wBM at hm
 refine Gv.of Tryz.func31 Z Tryz.ntmps31 Tryz.results31 Z (sR (.fx 0 .nil .stop) Z ?_)
 let B0:List Value:=[jV 0,.slice none 0 0,.slice none 0 0]
 refine zz (cs:=B0) Z Z Z Z Z yX Z hS ?_
 intro W2 b3 dH
 refine eN (zG (ZY ZP [3,3,3,3,3,1,3,3,3,3,3,3,1,3,3,2,0] (wNc (.fx 15 (.fx 16 .nil .stop) .stop)) (by kernel_rfl) ?_))
 have bu:=dH.drew
 generalize hw_W7:({ W2 with drawn:=W2.drawn + 1 }:World)=W7 at bu ⊢
 refine oM Z Z (oR Z (ZX Z Z) (oR Z (zJ Z Z Zh Z ZL) (oR Z (zJ Z Z ze Z ZG) (oR Z (zJ Z Z zy Z zS) (oL Z (bu.ldB (j:=1) Z Z Z zc (v:=.slice a7 p0.Race.Rules.Classes.length bb) Z) (oR Z (za Z Z zA) (oM Z Z (oR Z (ZX Z Z) (oR Z (zJ Z Z Zh Z ZL) (oR Z (zJ Z Z ze Z ZG) (oR Z (zJ Z Z zy Z zD) (oL Z (bu.ldB (j:=1) Z Z Z zP (v:=jV p0.Race.Rules.Laps) Z) (oR Z (Runs.mulw Z Z Z) ?_)))))))))))))
 let B1:List Value:=[jV (w64 ((↑p0.Race.Rules.Classes.length:Int) * p0.Race.Rules.Laps)),.slice none 0 0,.slice none 0 0]
 refine oR Z (ZH (pv:=[(0,jV (w64 ((↑p0.Race.Rules.Classes.length:Int) * p0.Race.Rules.Laps)))]) (z:=B0) (cs:=B1) Z (wAC Z wAM) yX wIl Z Z) (zz (cs:=B0) Z Z Z Z Z yX Z bu ?_)
 intro W8 b9 dn
 refine zu (j:=0) (vs:=B1) Z Z Z Z dn Z Z Z Z Zc (zC Z) Z Z Z ?_
 intro cK dw
 let B2:Res:=.blk ba 130 [.slice a7 p0.Race.Rules.Classes.length bb,jV p0.Race.Rules.Each,jV p0.Race.Rules.Laps,jV p0.Race.Rules.Spare,jV p0.Race.Rules.Loop,jV p0.Race.Rules.Unused,jV p0.Race.Start,.slice ay p0.Race.Teams.length az,.slice a8 p0.after.length be]
 have cq:SW w [B2] U U [.blk b9 34 B1,.blk b3 34 B0,B2] cK:=dw
 refine eN (zG (sR fL7 Z (oM Z Z (oR Z (ZX Z Z) (oR Z (zJ Z Z Zh Z ZL) (oR Z (zJ Z Z ze Z ZU) (oL Z (cq.ldB (j:=2) Z Z Z Zn (v:=.slice ay p0.Race.Teams.length az) Z) (oR Z (za Z Z ZC) (oM Z Z (eN (zT ?_)))))))))))
 have q:=bnd hm
 obtain ⟨⟨cE,d8⟩,dN,cy⟩:=q
 try dsimp only at cy
 have q:=wAs dN
 obtain ⟨bJ,dO⟩:=q
 replace bJ:=zF bJ
 refine CK.forN' (fun av (aw,ax) σ_ w_=>∃ (U_:PHeap) (aW:Option Addr) (aZ:Nat) (am:Option Addr) (au:Nat) (bs:List Value),σ_ 27=jV (↑av:Int)/\σ_ 0=.pointer (some ⟨ba,0,none⟩)/\σ_ 2=.pointer (some ⟨b3,0,none⟩)/\σ_ 3=.pointer (some ⟨b9,0,none⟩)/\σ_ 25=.slice ay p0.Race.Teams.length az/\σ_ 26=jV (↑p0.Race.Teams.length:Int)/\PHeap.Le U U_/\SW w [B2] U U_ [.row aW aZ 3 1 (hM KL.encI aw),.row am au 23 1 bs,.blk b9 34 [jV (w64 ((↑p0.Race.Rules.Classes.length:Int) * p0.Race.Rules.Laps)),.slice aW aw.length aZ,.slice am ax.length au],.blk b3 34 B0,B2] w_/\RlL U_ wDT ax bs) dO ?_ ?_ ?_
 have dI:=cq.nilrow 3 1
 have dJ:=dI.nilrow 23 1
 exact ⟨U,none,0,none,0,[],rfl,rfl,rfl,rfl,rfl,rfl,(zH _),(dJ.pick [1,0,2,3,4] _ (by decide) rfl),RlL.nil⟩
 rintro av ⟨aw,ax⟩ eK eP eb bI ⟨ap,aW,aZ,am,au,bs,bt,ch,cY,bl,ci,cj,bK,cw,dg⟩ cA
 try dsimp only at cA
 have cc:Hid ((↑av:Int) < (↑p0.Race.Teams.length:Int)):=zF (wAo bI)
 replace bI:=zF bI
 have dP:Hid (w64 ((↑av:Int) + 1)=(↑(av + 1):Int)):=zF (by have h1:=bJ.out;have h2:=cc.out;rw [wAT] <;> omega)
 refine sR fL1 Z (oR Z (zU Z bt cj) (eN (zG (cT Z cc (kN (zG (zT (sR (wDE gAp) Z (oM Z bt (bnK cA fun af co dU=>?_))))))))))
 have dh:=dL.le bK
 have q:=dh.el (wAR co)
 obtain ⟨cU,d7,eJ,dm,bG,dX⟩:=q
 obtain ⟨bM,bP,bN,bQ,rfl,eB,eC⟩:=dX
 replace bG:Cl ap cU (d7 + av * 3) [jV af.Bib,.slice bM af.Classes.length bP,.slice bN af.Legs.length bQ]:=bG
 refine oR Z (zo Z ci dm bt ZC ZE (wAj co)) (oL Z (cw.ldCA (f:=0) bG Z Z yC ZE (us:=[jV af.Bib,.slice bM af.Classes.length bP,.slice bN af.Legs.length bQ]) Z Z) (zz (cs:=B0) Z Z Z Z Z Zb Z cw ?_))
 intro ep ai dK
 refine oA Z Z ?_
 let B3:List Value:=[jV af.Bib,.slice bM af.Classes.length bP,.slice bN af.Legs.length bQ]
 refine zu (j:=0) (vs:=B3) Z Z Z Z dK Z Z Z Z ZE (zC Z) Z Z Z ?_
 intro cH dp
 let B4:Res:=.blk b9 34 [jV (w64 ((↑p0.Race.Rules.Classes.length:Int) * p0.Race.Rules.Laps)),.slice aW aw.length aZ,.slice am ax.length au]
 let B5:Res:=.row am au 23 1 bs
 let B6:Res:=.row aW aZ 3 1 (hM KL.encI aw)
 have bH:SW w [B2] U ap [.blk ai 43 B3,B6,B5,B4,.blk b3 34 B0,B2] cH:=dp
 refine eN (sR (wGc gAr) Z (oR Z (zJ Z bl ZK Z zS) (oL Z (bH.ldB (j:=3) Z Z Z zc (v:=.slice aW aw.length aZ) Z) (oR Z (zJ Z Z zk Z zD) (oL Z (bH.ldB (j:=0) Z Z Z zP (v:=jV af.Bib) Z) (zW (pv:=[(0,jV af.Bib)]) (zs:=[jV 0]) (cs:=[jV af.Bib]) Z Z Z Z Z (wAC Z wAM) zA zD zt Z Z Z Z Z bH ?_))))))
 intro cI cQ dq
 let B7:Res:=.row (some ⟨cQ,0,none⟩) 1 3 1 (hM KL.encI [af.Bib])
 have cp:SW w [B2] U ap [B7,.blk ai 43 B3,B6,B5,B4,.blk b3 34 B0,B2] cI:=dq
 refine bnK dU fun bn c6 dQ=>Zs (j:=2) (enc:=KL.encI) (xs:=aw) (ys:=[af.Bib]) (zs:=bn) rfl rfl rfl rfl rfl Zi wFA rfl rfl rfl rfl rfl rfl cp rfl rfl rfl (cp.srcR (j:=0) rfl (by decide) (wAF (f:=KL.encI) (sz:=1) (fun _=>rfl) [af.Bib])) (fun _=>rfl) (fun _=>rfl) c6 rfl ?_
 intro bf bi cJ dr
 let B8:Res:=.row bf bi 3 1 (hM KL.encI bn)
 have dt:SW w [B2] U ap [B7,.blk ai 43 B3,B8,B5,B4,.blk b3 34 B0,B2] cJ:=dr
 refine oR Z (zJ Z bl ZK Z zS) (zu (j:=4) (vs:=[.slice bf bn.length bi]) Z Z Z Z dt Z Z Z Z zS (zC Z) Z Z Z ?_)
 intro bB du
 let B9:Res:=.blk b9 34 [jV (w64 ((↑p0.Race.Rules.Classes.length:Int) * p0.Race.Rules.Laps)),.slice bf bn.length bi,.slice am ax.length au]
 have dv:SW w [B2] U ap [B7,.blk ai 43 B3,B8,B5,B9,.blk b3 34 B0,B2] bB:=du
 refine eN (ZY ZP [3,1,3,3,3,1,3,3,1,2,2,0,3,0] (wPE (.fx 9 (.fx 10 (.fx 11 (.fl 12 (.fx 13 .nil .stop)) .stop) .stop) .stop)) (by kernel_rfl) ?_)
 have bm:=dv.drew
 generalize hw_W120:({ bB with drawn:=bB.drawn + 1 }:World)=cL at bm ⊢
 refine oR Z (zJ Z bl ZK Z Zk) (oL Z (bm.ldB (j:=4) Z Z Z Zy (v:=.slice am ax.length au) Z) (oM Z ch (oR Z (ZX Z Z) (oR Z (zJ Z Z Zh Z Zk) (oL Z (bm.ldB (j:=6) Z Z Z Zy (v:=.slice a8 p0.after.length be) Z) (oM Z Z (bnK dQ fun bR cm dR=>?_)))))))
 have c7:=dM.le bK
 have q:=c7.el (wAR cm)
 obtain ⟨cR,dZ,eI,di,bF,dV⟩:=q
 obtain ⟨bL,bO,rfl,c9⟩:=dV
 replace bF:Cl ap cR (dZ + av * 1) [.slice bL bR.length bO]:=bF
 refine oR Z (zo Z Z di Z zq zS (wAj cm)) (oL Z (bm.ldC (f:=0) bF (v:=.slice bL bR.length bO) Z Z zc Z) (bnK dR fun ak da dS=>zL 0 Z Z Z Z (zK Z Z Tryz.call66 (zB Z zM) Z) bm (fun hs=>wBD bR bL bO cL ap hs c9 da) (.inr Z) ?_))
 rintro cG d9 eH bX cC dx ⟨bp,br,rfl,rfl⟩
 have dy:SW w [B2] U cG [.row bp br 3 1 (hM KL.encI ak),B7,.blk ai 43 B3,B8,B5,B9,.blk b3 34 B0,B2] bX:=dx
 have q:=dy.freezeR (k:=0) (n:=ak.length) rfl (wAF (f:=KL.encI) (sz:=1) (fun _=>rfl) ak) (by decide)
 obtain ⟨aY,cD,dY,dA⟩:=q
 have dB:SW w [B2] U aY [B7,.blk ai 43 B3,B8,B5,B9,.blk b3 34 B0,B2] bX:=dA
 let bq:List Value:=[.slice bp ak.length br]
 refine zW (pv:=[(0,.slice bp ak.length br)]) (zs:=[.slice none 0 0]) (cs:=bq) Z Z Z Z Z (wAC Z wAM) zq zS yh Z Z Z Z Z dB ?_
 intro cM cS dz
 have cz:RlL aY wDT [ak] bq:=(RlL.cons (R:=wDT) (x:=ak) (vs:=bq) ⟨bp,br,rfl,dY⟩ RlL.nil)
 let bz:Res:=.row (some ⟨cS,0,none⟩) 1 23 1 bq
 have cr:SW w [B2] U aY [bz,B7,.blk ai 43 B3,B8,B5,B9,.blk b3 34 B0,B2] cM:=dz
 refine bnK dS fun bS db dT=>?_
 have dd:=dg.le cC
 have de:=dd.le cD
 refine OKS.appendR (R:=wDT) (j:=4) (xs:=ax) (ys:=[ak]) (zs:=bS) rfl rfl rfl rfl rfl Tryz.underlying32 wKa rfl rfl rfl rfl rfl rfl rfl cr rfl rfl rfl de cz (cr.srcR (j:=0) rfl (by decide) (RlL.len cz)) db rfl ?_
 intro bg bj bE cN dC dW
 have dD:SW w [B2] U aY [bz,B7,.blk ai 43 B3,B8,.row bg bj 23 1 bE,B9,.blk b3 34 B0,B2] cN:=dC
 refine oR Z (zJ Z bl ZK Z Zk) (zu (j:=5) (vs:=[.slice bg bS.length bj]) Z Z Z Z dD Z Z Z Z Zk (zC Z) Z Z Z ?_)
 intro cO dE
 have dF:SW w [B2] U aY [bz,B7,.blk ai 43 B3,B8,.row bg bj 23 1 bE,.blk b9 34 [jV (w64 ((↑p0.Race.Rules.Classes.length:Int) * p0.Race.Rules.Laps)),.slice bf bn.length bi,.slice bg bS.length bj],.blk b3 34 B0,B2] cO:=dE
 refine zg (zb (zI (rR fL2 Z (oR Z (zn (zX Z bt Z) (congrArg (jV) dP.out)) (oM Z Z (zg ?_))))))
 cases dT
 exact zI ⟨rfl,⟨aY,bf,bi,bg,bj,bE,rfl,ch,cY,bl,ci,cj,((bK.trans cC).trans cD),(dF.pick [3,4,5,6,7] _ (by decide) rfl),dW⟩⟩
 rintro eM ea ⟨bW,bv,bC,bw,bD,ca,cZ,ew,cg,cW,ey,cX,eG,ct,df⟩
 have cV:Hid (¬ ((↑(((↑p0.Race.Teams.length:Int):Int) - 0).toNat:Int) < (↑p0.Race.Teams.length:Int))):=zF (wAa)
 refine sR fL1 Z (oR Z (zU Z cZ cX) (eN (zG (cF Z cV (ZI (zY (zY (ZD (zI (sR gAf Z ?_))))))))))
 let aX:List Value:=[jV (w64 ((↑p0.Race.Rules.Classes.length:Int) * p0.Race.Rules.Laps)),.slice bv cE.length bC,.slice bw d8.length bD]
 refine oL Z (ct.ldBA (j:=2) Z Z cW yH Zc (vs:=aX) Z Z) (zu (j:=3) (vs:=aX) Z Z Z Z ct Z cg Z Z Zc (zC Z) Z Z Z ?_)
 intro cP dG
 have cu:SW w [B2] U bW [.row bv bC 3 1 (hM KL.encI cE),.row bw bD 23 1 ca,.blk b9 34 aX,.blk b3 34 aX,B2] cP:=dG
 refine eN (zO ?_)
 cases cy
 exact ⟨rfl,_,(wFk (v:=.agg aX.toArray) ⟨⟨_,cg,(wEv yH Zc (cu.blkAt (k:=3) rfl) (vs:=aX) rfl rfl)⟩,trivial⟩),bW,_,(cu.pick [0,1,4] _ (by decide) rfl),bv,bC,bw,bD,ca,rfl,rfl,df⟩
end Go.Proofs.YtnbcoenjobdplaaGreat
