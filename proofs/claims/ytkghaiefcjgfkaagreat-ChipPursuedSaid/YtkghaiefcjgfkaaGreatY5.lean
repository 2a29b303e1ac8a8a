import Derived.Test.YtkghaiefcjgfkaaGreatY4
set_option linter.all false
open List renaming flatMap->hH,length_set->nE,getElem_cons_succ->nG,getElem_cons_zero->nH,getElem_toArray->nI,set->nJ
open Option.some renaming inj->hJ
open Go.Value renaming bool->nA
open Bool renaming eq_false_iff->nB
open Int renaming toNat_natCast->nK
open Eq renaming trans->nL
open Prod.mk renaming injEq->nM
open Nat renaming blt->nN,le_of_ble_eq_true->nO
namespace Go.Proofs.YtkghaiefcjgfkaaGreat
open Go.KL
def gAa:Sch:=.fl 1 (.fl 2 .nil)
def gAb:Sch:=.fl 2 (.fl 3 .nil)
def gAc:Sch:=.fl 3 (.fl 4 .nil)
def gAd:Sch:=.fl 4 (.fl 5 .nil)
def gAe:Sch:=.fl 7 (.fl 8 .nil)
def gAf:Sch:=.fl 11 (.fl 12 .nil)
def gAg:Sch:=.fl 15 (.fl 16 .nil)
def gAh:Sch:=.fx 2 (.fx 3 .nil .stop) .stop
def gAi:Sch:=.fx 0 (.fl 1 .nil) .stop
def gAj:Sch:=.fx 1 (.fl 2 .nil) .stop
def gAk:Sch:=.fx 4 (.fx 5 .nil .stop) .stop
def gAl:Sch:=.fl 10 (.fx 12 .nil .stop)
def gAm:Sch:=.fx 6 gAe .stop
def gAn:Sch:=.fl 0 (.fl 1 (.fx 2 .nil .stop))
def gAo:Sch:=.fl 0 gAj
def gAp:Sch:=.fx 14 gAg .stop
def gAq:Sch:=.fx 15 (.fl 16 (.fx 17 .nil .stop)) .stop
def gAr:Sch:=.fx 11 (.fl 12 (.fl 13 .nil)) .stop
def gAs:Sch:=.fx 0 gAj .stop
def gAt:Sch:=.fx 13 (.fl 14 (.fl 15 .nil)) .stop
def gAu:Sch:=.fl 10 (.fx 11 (.fx 12 .nil .stop) .stop)
def gAv:Sch:=.fx 6 gAl .stop
def gAw:Sch:=.fl 0 (.fl 1 (.fx 2 (.fl 3 .nil) .stop))
def gAx:Sch:=.fl 0 (.fl 1 gAh)
def gAy:Sch:=.fx 0 (.fx 1 gAb .stop) .stop
def gAz:Sch:=.fx 0 (.fx 1 gAh .stop) .stop
def gBa:Sch:=.fx 8 (.fl 9 gAl) .stop
def gBb:Sch:=.fl 0 (.fl 1 (.fx 2 gAc .stop))
set_option maxHeartbeats 4000000
theorem Z {α:Type} {a:α}:a=a:=rfl
section
variable {r:Option Nat} {N:Nat} {P:Program} {l:List Oper} {Q:wER} {D:List Deferred} {ks:List Nat} {σ:Env} {w:World} {i d j e:Nat} {s:Sch} {o:Oper} {b:Bool} {x:Operand} {v:Value} {p:Prop} {inst:Decidable p} {K:List Deferred->Env->World->Prop} {c1 c2:Code}
abbrev jV (n:Int):Value:=.int .i64 n
abbrev SW (w:World) (X:List Res) (U U':PHeap) (L:List Res) (w':World):Prop:=St ⟨w,X,U⟩ U' L w'
abbrev sW (w:World) (U U':PHeap) (L:List Res) (w':World):Prop:=St ⟨w,[],U⟩ U' L w'
abbrev St0 (w:World) (U:PHeap) (L:List Res):Prop:=St ⟨w,L,U⟩ U L w
theorem ifc {α:Type} {G p:Prop} {inst:Decidable p} {a b r:α} (h:@ite α p inst a b=r) (O:Hid p->a=r->G) (h2:Hid (¬ p)->b=r->G):G:=by
 by_cases c:p
 rw [if_pos c] at h;exact O ⟨c⟩ h
 rw [if_neg c] at h;exact h2 ⟨c⟩ h
theorem bnK {α β:Type} {G:Prop} {o:Option α} {f:α->Option β} {r:β} (h:o.bind f=some r) (k:∀ x,o=some x->f x=some r->G):G:=by
 obtain ⟨x,O,h2⟩:=bnd h
 exact k x O h2
theorem oR (h:(l[i]?,o.dst,nN d N,wanted l σ o)=(some o,some d,true,true)) (hr:∀ {w'},Runs P σ w' o v w') (k:OKS N P l Q D ks s (upd σ d v) w):OKS N P l Q D ks (.fl i s) σ w:=by
 simp only [nM] at h;exact OKS.r h.1 h.2.1 h.2.2.1 h.2.2.2 (fun _=>hr) k
theorem oL (h:(l[i]?,o.dst,nN d N,wanted l σ o,wNG (kOf ks i))=(some o,some d,true,true,false)) (hr:wFp P σ w o v) (k:OKS N P l Q D ks s (upd σ d v) w):OKS N P l Q D ks (.fl i s) σ w:=by
 simp only [nM] at h;exact OKS.m h.1 h.2.1 h.2.2.1 h.2.2.2.1 hr h.2.2.2.2 k
theorem oM (h:(l[i]?,o.dst,nN d N,wanted l σ o,o.op)=(some o,some d,true,true,.move x)) (hx:ev σ x=v) (k:OKS N P l Q D ks s (upd σ d v) w):OKS N P l Q D ks (.fl i s) σ w:=by
 simp only [nM] at h;exact OKS.rm h.1 h.2.1 h.2.2.1 h.2.2.2.1 h.2.2.2.2 hx k
theorem oA (h:(l[i]?,o.dst,nN d N,wanted l σ o,o.op)=(some o,some d,true,true,.assign x)) (hx:ev σ x=v) (k:OKS N P l Q D ks s (upd σ d v) w):OKS N P l Q D ks (.fl i s) σ w:=by
 simp only [nM] at h;exact OKS.ra h.1 h.2.1 h.2.2.1 h.2.2.2.1 h.2.2.2.2 hx k
theorem oF (h:(l[i]?,o.dst,nN d N,o.guard,(l[j]?).bind (·.dst),σ e,false == b)=(some o,some d,true,some (j,b),some e,.bool (decide p),false)) (c:Hid (¬ p)) (k:OKS N P l Q D ks s (upd σ d undef) w):OKS N P l Q D ks (.fl i s) σ w:=by
 simp only [nM] at h;exact OKS.p h.1 h.2.1 h.2.2.1 (wGT h.2.2.2.1 h.2.2.2.2.1 (h.2.2.2.2.2.1.trans (wNE c.out)) h.2.2.2.2.2.2) k
theorem oT (h:(l[i]?,o.dst,nN d N,o.guard,(l[j]?).bind (·.dst),σ e,true == b)=(some o,some d,true,some (j,b),some e,.bool (decide p),false)) (c:Hid p) (k:OKS N P l Q D ks s (upd σ d undef) w):OKS N P l Q D ks (.fl i s) σ w:=by
 simp only [nM] at h;exact OKS.p h.1 h.2.1 h.2.2.1 (wGT h.2.2.2.1 h.2.2.2.2.1 (h.2.2.2.2.2.1.trans (wND c.out)) h.2.2.2.2.2.2) k
theorem oN {O:Bool} (h:(l[i]?,o.dst,nN d N,o.guard,(l[j]?).bind (·.dst),σ e,O == b)=(some o,some d,true,some (j,b),some e,.bool O,false)) (k:OKS N P l Q D ks s (upd σ d undef) w):OKS N P l Q D ks (.fl i s) σ w:=by
 simp only [nM] at h;exact OKS.p h.1 h.2.1 h.2.2.1 (wGT h.2.2.2.1 h.2.2.2.2.1 h.2.2.2.2.2.1 h.2.2.2.2.2.2) k
theorem nC {a b:Bool} (h:a=b):nA (!a)=nA (!b):=h ▸ rfl
theorem nF {a:Bool} (h:¬ a=true):nA (!a)=nA (!false):=nC (nB.2 h)
theorem wT (h:(o.guard,(l[j]?).bind (·.dst),σ e)=(some (j,true),some e,.bool (decide p))) (c:Hid p):wanted l σ o=true:=by
 simp only [nM] at h;exact wHZ h.1 h.2.1 (h.2.2.trans (wND c.out))
theorem wF (h:(o.guard,(l[j]?).bind (·.dst),σ e)=(some (j,false),some e,.bool (decide p))) (c:Hid (¬ p)):wanted l σ o=true:=by
 simp only [nM] at h;exact wHZ h.1 h.2.1 (h.2.2.trans (wNE c.out))
theorem rU (h:(l[i]?,o.dst,nN d N)=(some o,some d,true)) (hw:wanted l σ o=true) (hr:∀ {w'},Runs P σ w' o v w') (k:OKS N P l Q D ks s (upd σ d v) w):OKS N P l Q D ks (.fl i s) σ w:=by
 simp only [nM] at h;exact OKS.r h.1 h.2.1 h.2.2 hw (fun _=>hr) k
theorem sR {id:Nat} (s:Sch) (hs:inOrder 0 s l.length=true) (h:OKS N P l (wFZ (fun D σ w=>CK r N P c2 Q D σ w) Q) D [] s σ w):CK r N P (.seq (.region id l.toArray false) c2) Q D σ w:=CK.seq (CK.reg s hs h)
theorem rR {id:Nat} (s:Sch) (hs:inOrder 0 s l.length=true) (h:OKS N P l Q D [] s σ w):CK r N P (.region id l.toArray false) Q D σ w:=CK.reg s hs h
theorem eN (h:K D σ w):OKS N P l (wFZ K Q) D ks .nil σ w:=OKS.e (wHV h)
theorem cT (hz:ev σ x=.bool (decide p)) (c:Hid p) (h:CK r N P c1 Q D σ w):CK r N P (.cond x c1 c2) Q D σ w:=CK.condT (hz.trans (wND c.out)) h
theorem cF (hz:ev σ x=.bool (decide p)) (c:Hid (¬ p)) (h:CK r N P c2 Q D σ w):CK r N P (.cond x c1 c2) Q D σ w:=CK.condF (hz.trans (wNE c.out)) h
theorem kN (h:K D σ w):CK r N P .skip (wFZ K Q) D σ w:=CK.skip (wHV h)
end
def fL1:Sch:=.fl 0 .nil
def fL2:Sch:=.fl 0 (.fl 1 .nil)
def fL3:Sch:=.fl 0 gAa
def fL4:Sch:=.fl 0 (.fl 1 gAb)
def fL5:Sch:=.fl 0 (.fl 1 (.fl 2 gAc))
def fL6:Sch:=.fl 0 (.fl 1 (.fl 2 (.fl 3 gAd)))
def fL7:Sch:=.fl 0 (.fl 1 (.fl 2 (.fl 3 (.fl 4 (.fl 5 (.fl 6 .nil))))))
def fL8:Sch:=.fl 0 (.fl 1 (.fl 2 (.fl 3 (.fl 4 (.fl 5 (.fl 6 (.fl 7 .nil)))))))
def fL9:Sch:=.fl 0 (.fl 1 (.fl 2 (.fl 3 (.fl 4 (.fl 5 (.fl 6 gAe))))))
def fL10:Sch:=.fl 0 (.fl 1 (.fl 2 (.fl 3 (.fl 4 (.fl 5 (.fl 6 (.fl 7 (.fl 8 (.fl 9 .nil)))))))))
def wNC:Sch:=.fl 0 (.fl 1 (.fl 2 (.fl 3 (.fl 4 (.fl 5 (.fl 6 (.fl 7 (.fl 8 (.fl 9 (.fl 10 .nil))))))))))
def fL13:Sch:=.fl 0 (.fl 1 (.fl 2 (.fl 3 (.fl 4 (.fl 5 (.fl 6 (.fl 7 (.fl 8 (.fl 9 (.fl 10 gAf))))))))))
def fL15:Sch:=.fl 0 (.fl 1 (.fl 2 (.fl 3 (.fl 4 (.fl 5 (.fl 6 (.fl 7 (.fl 8 (.fl 9 (.fl 10 (.fl 11 (.fl 12 (.fl 13 (.fl 14 .nil))))))))))))))
def fL17:Sch:=.fl 0 (.fl 1 (.fl 2 (.fl 3 (.fl 4 (.fl 5 (.fl 6 (.fl 7 (.fl 8 (.fl 9 (.fl 10 (.fl 11 (.fl 12 (.fl 13 (.fl 14 gAg))))))))))))))
def fL18:Sch:=.fl 0 (.fl 1 (.fl 2 (.fl 3 (.fl 4 (.fl 5 (.fl 6 (.fl 7 (.fl 8 (.fl 9 (.fl 10 (.fl 11 (.fl 12 (.fl 13 (.fl 14 (.fl 15 (.fl 16 (.fl 17 .nil)))))))))))))))))
def fL19:Sch:=.fl 0 (.fl 1 (.fl 2 (.fl 3 (.fl 4 (.fl 5 (.fl 6 (.fl 7 (.fl 8 (.fl 9 (.fl 10 (.fl 11 (.fl 12 (.fl 13 (.fl 14 (.fl 15 (.fl 16 (.fl 17 (.fl 18 .nil))))))))))))))))))
def fL22:Sch:=.fl 0 (.fl 1 (.fl 2 (.fl 3 (.fl 4 (.fl 5 (.fl 6 (.fl 7 (.fl 8 (.fl 9 (.fl 10 (.fl 11 (.fl 12 (.fl 13 (.fl 14 (.fl 15 (.fl 16 (.fl 17 (.fl 18 (.fl 19 (.fl 20 (.fl 21 .nil)))))))))))))))))))))
def fL30:Sch:=.fl 0 (.fl 1 (.fl 2 (.fl 3 (.fl 4 (.fl 5 (.fl 6 (.fl 7 (.fl 8 (.fl 9 (.fl 10 (.fl 11 (.fl 12 (.fl 13 (.fl 14 (.fl 15 (.fl 16 (.fl 17 (.fl 18 (.fl 19 (.fl 20 (.fl 21 (.fl 22 (.fl 23 (.fl 24 (.fl 25 (.fl 26 (.fl 27 (.fl 28 (.fl 29 .nil)))))))))))))))))))))))))))))
def wDp (s:Sch):Sch:=.fl 0 (.fl 1 (.fl 2 (s)))
def wDu (s:Sch):Sch:=.fl 0 (.fl 1 (.fl 2 (.fl 3 (s))))
def wDk (s:Sch):Sch:=.fl 0 (.fl 1 (.fl 2 (.fl 3 (.fl 4 (s)))))
def wHN (s:Sch):Sch:=.fl 0 (.fl 1 (.fl 2 (.fl 3 (.fl 4 (.fl 5 (s))))))
def wJK (s:Sch):Sch:=.fl 0 (.fl 1 (.fl 2 (.fl 3 (.fl 4 (.fl 5 (.fl 6 (s)))))))
def wNy (s:Sch):Sch:=.fl 0 (.fl 1 (.fl 2 (.fl 3 (.fl 4 (.fl 5 (.fl 6 (.fl 7 (s))))))))
def wMs (s:Sch):Sch:=.fl 0 (.fl 1 (.fl 2 (.fl 3 (.fl 4 (.fl 5 (.fl 6 (.fl 7 (.fl 8 (s)))))))))
def wLr (s:Sch):Sch:=.fl 0 (.fl 1 (.fl 2 (.fl 3 (.fl 4 (.fl 5 (.fl 6 (.fl 7 (.fl 8 (.fl 9 (s))))))))))
def wJm (s:Sch):Sch:=.fl 0 (.fl 1 (.fl 2 (.fl 3 (.fl 4 (.fl 5 (.fl 6 (.fl 7 (.fl 8 (.fl 9 (.fl 10 (s)))))))))))
def wLF (s:Sch):Sch:=.fl 0 (.fl 1 (.fl 2 (.fl 3 (.fl 4 (.fl 5 (.fl 6 (.fl 7 (.fl 8 (.fl 9 (.fl 10 (.fl 11 (.fl 12 (.fl 13 (s))))))))))))))
def wJn (s:Sch):Sch:=.fl 0 (.fl 1 (.fl 2 (.fl 3 (.fl 4 (.fl 5 (.fl 6 (.fl 7 (.fl 8 (.fl 9 (.fl 10 (.fl 11 (.fl 12 (.fl 13 (.fl 14 (s)))))))))))))))
def wNz (s:Sch):Sch:=.fl 0 (.fl 1 (.fl 2 (.fl 3 (.fl 4 (.fl 5 (.fl 6 (.fl 7 (.fl 8 (.fl 9 (.fl 10 (.fl 11 (.fl 12 (.fl 13 (.fl 14 (.fl 15 (s))))))))))))))))
def wOA (s:Sch):Sch:=.fl 0 (.fl 1 (.fl 2 (.fl 3 (.fl 4 (.fl 5 (.fl 6 (.fl 7 (.fl 8 (.fl 9 (.fl 10 (.fl 11 (.fl 12 (.fl 13 (.fl 14 (.fl 15 (.fl 16 (.fl 17 (.fl 18 (.fl 19 (s))))))))))))))))))))
def wOB (s:Sch):Sch:=.fl 0 (.fl 1 (.fl 2 (.fl 3 (.fl 4 (.fl 5 (.fl 6 (.fl 7 (.fl 8 (.fl 9 (.fl 10 (.fl 11 (.fl 12 (.fl 13 (.fl 14 (.fl 15 (.fl 16 (.fl 17 (.fl 18 (.fl 19 (.fl 20 (s)))))))))))))))))))))
def wOC (s:Sch):Sch:=.fl 0 (.fl 1 (.fl 2 (.fl 3 (.fl 4 (.fl 5 (.fl 6 (.fl 7 (.fl 8 (.fl 9 (.fl 10 (.fl 11 (.fl 12 (.fl 13 (.fl 14 (.fl 15 (.fl 16 (.fl 17 (.fl 18 (.fl 19 (.fl 20 (.fl 21 (s))))))))))))))))))))))
def wOD (s:Sch):Sch:=.fl 0 (.fl 1 (.fl 2 (.fl 3 (.fl 4 (.fl 5 (.fl 6 (.fl 7 (.fl 8 (.fl 9 (.fl 10 (.fl 11 (.fl 12 (.fl 13 (.fl 14 (.fl 15 (.fl 16 (.fl 17 (.fl 18 (.fl 19 (.fl 20 (.fl 21 (.fl 22 (.fl 23 (.fl 24 (.fl 25 (.fl 26 (.fl 27 (.fl 28 (.fl 29 (.fl 30 (.fl 31 (.fl 32 (.fl 33 (.fl 34 (.fl 35 (.fl 36 (.fl 37 (.fl 38 (.fl 39 (.fl 40 (.fl 41 (.fl 42 (.fl 43 (.fl 44 (s)))))))))))))))))))))))))))))))))))))))))))))
def fC1_3 (s:Sch):Sch:=.fl 1 (.fl 2 (.fl 3 (s)))
def fC1_4 (s:Sch):Sch:=.fl 1 (.fl 2 (.fl 3 (.fl 4 (s))))
def fC1_5 (s:Sch):Sch:=.fl 1 (.fl 2 (.fl 3 (.fl 4 (.fl 5 (s)))))
def wOE (s:Sch):Sch:=.fl 1 (.fl 2 (.fl 3 (.fl 4 (.fl 5 (.fl 6 (.fl 7 (.fl 8 (.fl 9 (.fl 10 (.fl 11 (.fl 12 (.fl 13 (.fl 14 (.fl 15 (.fl 16 (.fl 17 (.fl 18 (.fl 19 (s)))))))))))))))))))
def wLs (s:Sch):Sch:=.fl 2 (.fl 3 (.fl 4 (.fl 5 (s))))
def wHp (s:Sch):Sch:=.fl 2 (.fl 3 (.fl 4 (.fl 5 (.fl 6 (s)))))
def wLG (s:Sch):Sch:=.fl 3 (.fl 4 (.fl 5 (s)))
def wLt (s:Sch):Sch:=.fl 3 (.fl 4 (.fl 5 (.fl 6 (s))))
def wMt (s:Sch):Sch:=.fl 3 (.fl 4 (.fl 5 (.fl 6 (.fl 7 (s)))))
def wOF (s:Sch):Sch:=.fl 4 (.fl 5 (.fl 6 (s)))
def fC4_7 (s:Sch):Sch:=.fl 4 (.fl 5 (.fl 6 (.fl 7 (s))))
def wOG (s:Sch):Sch:=.fl 4 (.fl 5 (.fl 6 (.fl 7 (.fl 8 (s)))))
def wOH (s:Sch):Sch:=.fl 4 (.fl 5 (.fl 6 (.fl 7 (.fl 8 (.fl 9 (.fl 10 (.fl 11 (.fl 12 (.fl 13 (.fl 14 (.fl 15 (.fl 16 (.fl 17 (.fl 18 (.fl 19 (.fl 20 (.fl 21 (.fl 22 (.fl 23 (s))))))))))))))))))))
def wLH (s:Sch):Sch:=.fl 5 (.fl 6 (.fl 7 (s)))
def wHq (s:Sch):Sch:=.fl 5 (.fl 6 (.fl 7 (.fl 8 (s))))
def wLI (s:Sch):Sch:=.fl 5 (.fl 6 (.fl 7 (.fl 8 (.fl 9 (s)))))
def wMK (s:Sch):Sch:=.fl 5 (.fl 6 (.fl 7 (.fl 8 (.fl 9 (.fl 10 (.fl 11 (.fl 12 (.fl 13 (.fl 14 (.fl 15 (s)))))))))))
def wML (s:Sch):Sch:=.fl 6 (.fl 7 (.fl 8 (.fl 9 (.fl 10 (s)))))
def wMM (s:Sch):Sch:=.fl 6 (.fl 7 (.fl 8 (.fl 9 (.fl 10 (.fl 11 (.fl 12 (s)))))))
def fC7_9 (s:Sch):Sch:=.fl 7 (.fl 8 (.fl 9 (s)))
def wLJ (s:Sch):Sch:=.fl 7 (.fl 8 (.fl 9 (.fl 10 (.fl 11 (s)))))
def wMN (s:Sch):Sch:=.fl 7 (.fl 8 (.fl 9 (.fl 10 (.fl 11 (.fl 12 (s))))))
def wMO (s:Sch):Sch:=.fl 7 (.fl 8 (.fl 9 (.fl 10 (.fl 11 (.fl 12 (.fl 13 (s)))))))
def wMP (s:Sch):Sch:=.fl 8 (.fl 9 (.fl 10 (s)))
def wIZ (s:Sch):Sch:=.fl 8 (.fl 9 (.fl 10 (.fl 11 (s))))
def wOI (s:Sch):Sch:=.fl 9 (.fl 10 (.fl 11 (.fl 12 (s))))
def wOJ (s:Sch):Sch:=.fl 9 (.fl 10 (.fl 11 (.fl 12 (.fl 13 (.fl 14 (.fl 15 (.fl 16 (.fl 17 (.fl 18 (s))))))))))
def wMu (s:Sch):Sch:=.fl 10 (.fl 11 (.fl 12 (.fl 13 (s))))
def wMv (s:Sch):Sch:=.fl 13 (.fl 14 (.fl 15 (s)))
def wMw (s:Sch):Sch:=.fl 15 (.fl 16 (.fl 17 (.fl 18 (.fl 19 (.fl 20 (.fl 21 (.fl 22 (.fl 23 (.fl 24 (.fl 25 (s)))))))))))
def wMx (s:Sch):Sch:=.fl 22 (.fl 23 (.fl 24 (s)))
def wMy (s:Sch):Sch:=.fl 47 (.fl 48 (.fl 49 (.fl 50 (s))))
theorem zA:type_of% @nO:=@nO
theorem zB:type_of% @wKJ:=@wKJ
theorem zC:type_of% @Tryz.sizeOf3:=@Tryz.sizeOf3
theorem zD:type_of% @Tryz.runUnderlying41:=@Tryz.runUnderlying41
theorem zE:type_of% @Tryz.sizeOf115:=@Tryz.sizeOf115
theorem zF:type_of% @Tryz.isAgg3:=@Tryz.isAgg3
theorem zG:type_of% @OKS.callH:=@OKS.callH
theorem zH:type_of% @Enters.mk:=@Enters.mk
theorem zI:type_of% @wHV:=@wHV
theorem zJ:type_of% @CK.seq:=@CK.seq
theorem zK:type_of% @Hid.mk:=@Hid.mk
theorem zL:type_of% @PHeap.Le.refl:=@PHeap.Le.refl
theorem zM:type_of% @Runs.fa:=@Runs.fa
theorem zN:type_of% @wLu:=@wLu
theorem zO:type_of% @wHZ:=@wHZ
theorem zP:type_of% @Tryz.runUnderlying45:=@Tryz.runUnderlying45
theorem zQ:type_of% @Runs.pickT:=@Runs.pickT
theorem zR:type_of% @CK.ret:=@CK.ret
theorem zS:type_of% @wGT:=@wGT
theorem zT:type_of% @Runs.lss:=@Runs.lss
theorem zU:type_of% @OKS.rm:=@OKS.rm
theorem zV:type_of% @Runs.addw:=@Runs.addw
theorem zW:type_of% @wKI:=@wKI
theorem zX:type_of% @OKS.alloc:=@OKS.alloc
theorem zY:type_of% @CK.block:=@CK.block
theorem zZ:type_of% @Runs.ext:=@Runs.ext
theorem za:type_of% @OKS.st:=@OKS.st
theorem zb:type_of% @Tryz.zeroValue115:=@Tryz.zeroValue115
theorem zc:type_of% @OKS.e:=@OKS.e
theorem zd:type_of% @Runs.pickF:=@Runs.pickF
theorem ze:type_of% @OKS.r:=@OKS.r
theorem zf:type_of% @Tryz.sizeOf45:=@Tryz.sizeOf45
theorem zg:type_of% @wKH:=@wKH
theorem zh:type_of% @Tryz.isAgg115:=@Tryz.isAgg115
theorem zi:type_of% @Tryz.runUnderlying101:=@Tryz.runUnderlying101
theorem zj:type_of% @CK.condF:=@CK.condF
theorem zk:type_of% @wJL:=@wJL
theorem zl:type_of% @Runs.build:=@Runs.build
theorem zm:type_of% @Tryz.isAgg45:=@Tryz.isAgg45
theorem zn:type_of% @wJN:=@wJN
theorem zo:type_of% @Tryz.sizeOf37:=@Tryz.sizeOf37
theorem zq:type_of% @OKS.both:=@OKS.both
theorem zr:type_of% @OKS.buildSlice:=@OKS.buildSlice
theorem zt:type_of% @Tryz.zeroValue3:=@Tryz.zeroValue3
theorem zu:type_of% @OKS.box:=@OKS.box
theorem zw:type_of% @Tryz.mixed:=@Tryz.mixed
theorem zx:type_of% @Runs.len:=@Runs.len
theorem zy:type_of% @Tryz.runUnderlying42:=@Tryz.runUnderlying42
theorem zz:type_of% @OKS.px:=@OKS.px
theorem ZA:type_of% @wNE:=@wNE
theorem ZB:type_of% @CK.anyOrd:=@CK.anyOrd
theorem ZC:type_of% @Tryz.sizeOf41:=@Tryz.sizeOf41
theorem ZD:type_of% @OKS.m:=@OKS.m
theorem ZE:type_of% @Tryz.runUnderlying124:=@Tryz.runUnderlying124
theorem ZF:type_of% @Tryz.zeroValue37:=@Tryz.zeroValue37
theorem ZG:type_of% @res1:=@res1
theorem ZH:type_of% @Tryz.isAgg41:=@Tryz.isAgg41
theorem ZI:type_of% @Runs.to:=@Runs.to
theorem ZJ:type_of% @wJM:=@wJM
theorem ZK:type_of% @CK.condT:=@CK.condT
theorem ZL:type_of% @OKS.mx2:=@OKS.mx2
theorem ZM:type_of% @Runs.iaI:=@Runs.iaI
theorem ZN:type_of% @Tryz.runUnderlying121:=@Tryz.runUnderlying121
theorem ZO:type_of% @OKS.cutD:=@OKS.cutD
theorem ZP:type_of% @Tryz.sizeOf183:=@Tryz.sizeOf183
theorem ZQ:type_of% @CK.exit:=@CK.exit
theorem ZR:type_of% @Tryz.runUnderlying43:=@Tryz.runUnderlying43
theorem ZS:type_of% @CK.skip:=@CK.skip
theorem ZT:type_of% @OKS.p:=@OKS.p
theorem ZU:type_of% @Tryz.runUnderlying37:=@Tryz.runUnderlying37
theorem ZV:type_of% @Runs.subw:=@Runs.subw
theorem ZW:type_of% @Tryz.runUnderlying118:=@Tryz.runUnderlying118
theorem ZX:type_of% @Tryz.sizeOf101:=@Tryz.sizeOf101
theorem ZY:type_of% @Runs.notT:=@Runs.notT
theorem ZZ:type_of% @Tryz.sizeOf62:=@Tryz.sizeOf62
theorem Za:type_of% @wND:=@wND
theorem Zb:type_of% @Runs.neq:=@Runs.neq
theorem Zc:type_of% @Runs.nilp:=@Runs.nilp
theorem Zd:type_of% @Tryz.sizeOf42:=@Tryz.sizeOf42
theorem Ze:type_of% @Tryz.runUnderlying3:=@Tryz.runUnderlying3
theorem Zf:type_of% @Runs.iaN:=@Runs.iaN
theorem Zg:type_of% @Tryz.zeroValue118:=@Tryz.zeroValue118
theorem Zh:type_of% @Tryz.runUnderlying25:=@Tryz.runUnderlying25
theorem Zi:type_of% @Tryz.runUnderlying52:=@Tryz.runUnderlying52
theorem Zj:type_of% @Tryz.sizeOf52:=@Tryz.sizeOf52
theorem Zk:type_of% @Tryz.sizeOf43:=@Tryz.sizeOf43
theorem Zl:type_of% @Tryz.runUnderlying188:=@Tryz.runUnderlying188
theorem Zm:type_of% @Tryz.runUnderlying184:=@Tryz.runUnderlying184
theorem Zn:type_of% @OKS.append:=@OKS.append
theorem Zo:type_of% @Tryz.runUnderlying40:=@Tryz.runUnderlying40
theorem Zp:type_of% @Tryz.isAgg101:=@Tryz.isAgg101
theorem Zq:type_of% @Tryz.zeroValue101:=@Tryz.zeroValue101
theorem Zr:type_of% @Tryz.isAgg37:=@Tryz.isAgg37
theorem Zs:type_of% @Tryz.runUnderlying183:=@Tryz.runUnderlying183
theorem Zt:type_of% @Tryz.runUnderlying103:=@Tryz.runUnderlying103
theorem Zu:type_of% @Tryz.runUnderlying80:=@Tryz.runUnderlying80
theorem Zv:type_of% @Tryz.sizeOf121:=@Tryz.sizeOf121
theorem Zw:type_of% @Tryz.sizeOf29:=@Tryz.sizeOf29
theorem Zx:type_of% @Tryz.zeroValue183:=@Tryz.zeroValue183
theorem Zy:type_of% @OKS.ra:=@OKS.ra
theorem Zz:type_of% @Tryz.isAgg62:=@Tryz.isAgg62
theorem yA:type_of% @Tryz.sizeOf118:=@Tryz.sizeOf118
theorem yB:type_of% @Tryz.zeroValue62:=@Tryz.zeroValue62
theorem yC:type_of% @Tryz.isAgg121:=@Tryz.isAgg121
theorem yF:type_of% @Tryz.isAgg43:=@Tryz.isAgg43
theorem yG:type_of% @Tryz.call90:=@Tryz.call90
theorem yH:type_of% @Tryz.sizeOf99:=@Tryz.sizeOf99
theorem yI:type_of% @CK.cut:=@CK.cut
theorem yJ:type_of% @Tryz.zeroValue85:=@Tryz.zeroValue85
theorem yK:type_of% @Tryz.runUnderlying102:=@Tryz.runUnderlying102
theorem yL:type_of% @Tryz.call91:=@Tryz.call91
theorem yM:type_of% @Tryz.isAgg99:=@Tryz.isAgg99
theorem yN:type_of% @Tryz.call106:=@Tryz.call106
theorem yO:type_of% @Runs.eql:=@Runs.eql
theorem yP:type_of% @Tryz.zeroValue52:=@Tryz.zeroValue52
theorem yQ:type_of% @CK.forN:=@CK.forN
theorem yR:type_of% @Tryz.runUnderlying29:=@Tryz.runUnderlying29
theorem yS:type_of% @Tryz.runUnderlying30:=@Tryz.runUnderlying30
theorem yT:type_of% @Tryz.isAgg42:=@Tryz.isAgg42
theorem yV:type_of% @Tryz.isAgg183:=@Tryz.isAgg183
theorem yW:type_of% @Tryz.underlying41:=@Tryz.underlying41
theorem yX:type_of% @Tryz.underlying42:=@Tryz.underlying42
theorem yY:type_of% @Tryz.zeroValue45:=@Tryz.zeroValue45
theorem yZ:type_of% @Tryz.sizeOf40:=@Tryz.sizeOf40
theorem ya:type_of% @Tryz.call57:=@Tryz.call57
theorem yb:type_of% @OKS.stR:=@OKS.stR
theorem yc:type_of% @Tryz.isAgg40:=@Tryz.isAgg40
theorem yd:type_of% @Tryz.sizeOf39:=@Tryz.sizeOf39
theorem ye:type_of% @Runs.gtr:=@Runs.gtr
theorem yf:type_of% @OKS.callV:=@OKS.callV
theorem yg:type_of% @Tryz.runUnderlying151:=@Tryz.runUnderlying151
theorem yh:type_of% @Tryz.runUnderlying39:=@Tryz.runUnderlying39
theorem yi:type_of% @Tryz.isAgg85:=@Tryz.isAgg85
theorem yj:type_of% @Runs.ixA:=@Runs.ixA
theorem yk:type_of% @Tryz.sizeOf122:=@Tryz.sizeOf122
theorem yl:type_of% @CK.iter:=@CK.iter
theorem ym:type_of% @OKS.makeMap:=@OKS.makeMap
theorem yn:type_of% @Tryz.call48:=@Tryz.call48
theorem yo:type_of% @Tryz.zeroValue29:=@Tryz.zeroValue29
theorem yp:type_of% @Tryz.isAgg52:=@Tryz.isAgg52
end Go.Proofs.YtkghaiefcjgfkaaGreat
namespace Go.Proofs.YtkghaiefcjgfkaaGreat
open Go.KL
set_option maxHeartbeats 4000000
theorem wEw (O:List Int) (aa:Option Addr) (ab:Nat) (w:World) (U:PHeap) (hS:St0 w U []) (ah:Sl U 1 aa ab O.length (hH KL.encB8 O)) {r:wAP} (hm:wCM O=some r):Gv Tryz.prog 5 [.slice aa O.length ab] w (wBl w [] U (fun U_ L_ v=>∃ (b0:Nat) (A0p0:Option Addr) (c0p0:Nat),v=.pointer (some ⟨b0,0,none⟩)/\L_=[.blk b0 80 [.slice A0p0 r.bytes.length c0p0,jV r.next,.int .u32 r.state]]/\Sl U_ 1 A0p0 c0p0 r.bytes.length (hH KL.encB8 r.bytes))):=by
 unfold wCM at hm
 refine Gv.of Tryz.func5 Z Tryz.ntmps5 Tryz.results5 Z (sR fL1 Z (oA Z Z (eN (sR gAw Z (oM Z Z ?_)))))
 let B0:List Value:=[.slice aa O.length ab,jV 0,.int .u32 17]
 refine ze rfl rfl rfl rfl (fun _=>zl (pv:=[(0,.slice aa O.length ab),(2,.int .u32 17)]) (z:=[.slice none 0 0,jV 0,.int .u32 0]) (cs:=B0) rfl (wAE rfl (wAE rfl wAL)) Tryz.zeroValue80 wLX rfl rfl) (zu (cs:=B0) rfl rfl rfl rfl rfl rfl (by rfl) hS ?_)
 intro W1 b2 ag
 refine oA Z Z (eN (zR ?_))
 cases hm
 exact ⟨Z,_,(ZG Z),U,_,ag,b2,aa,ab,Z,Z,ah⟩
theorem wCg (O:wAP) (af:Nat) (ab:Option Addr) (ac:Nat) (p1:Int) (w:World) (U:PHeap) (hS:St0 w U [.blk af 80 [.slice ab O.bytes.length ac,jV O.next,.int .u32 O.state]]) (ah:Sl U 1 ab ac O.bytes.length (hH KL.encB8 O.bytes)) {r:Int × wAP} (hm:wAh O p1=some r):Gv Tryz.prog 7 [.pointer (some ⟨af,0,none⟩),jV p1] w (wBl w [.blk af 80 [.slice ab O.bytes.length ac,jV O.next,.int .u32 O.state]] U (fun U_ L_ v=>∃ (aE:Option Addr) (aG:Nat),v=jV r.1/\L_=[.blk af 80 [.slice aE r.2.bytes.length aG,jV r.2.next,.int .u32 r.2.state]]/\Sl U_ 1 aE aG r.2.bytes.length (hH KL.encB8 r.2.bytes))):=by
 unfold wAh at hm
 refine Gv.of Tryz.func7 Z Tryz.ntmps7 Tryz.results7 Z (sR fL1 Z (oA Z Z (eN (zJ (sR fL10 Z (oM Z Z (oR Z (Runs.leq Z Z Z) (oM Z Z ?_))))))))
 by_cases c2:p1 <= 1
 have aJ:=hm;rw [if_pos c2] at aJ;replace c2:=zK c2
 refine oT Z c2 (oT Z c2 (oT Z c2 (oT Z c2 (oT Z c2 (oT Z c2 (oR Z (zQ Z (Za c2.out) Z) (eN (ZK Z (sR fL1 Z (oA Z Z (eN (zR (zW ?_)))))))))))))
 cases aJ
 exact ⟨Z,_,(ZG Z),U,_,hS,ab,ac,Z,Z,ah⟩
 have aK:=hm;rw [if_neg c2] at aK;replace c2:=zK c2
 refine zU Z Z Z (wF Z c2) Z Z (rU Z (wF Z c2) (Zc Z Z) (rU Z (wF Z c2) (zM Z Z Zu Z Tryz.sizeOf22) (ZD Z Z Z (wF Z c2) (hS.ldB (j:=0) Z Z Z Tryz.isAgg22 (v:=.slice ab O.bytes.length ac) Z) Z (rU Z (wF Z c2) (zx Z Z Tryz.runUnderlying22) (rU Z (wF Z c2) (yO Z Z Z) (oR Z (zd Z (ZA c2.out) Z) (eN (ifc aK ?_ ?_))))))))
 intro c5 bg
 refine cT Z c5 (sR fL1 Z (oA Z Z (eN (zR (zW ?_)))))
 cases bg
 exact ⟨Z,_,(ZG Z),U,_,hS,ab,ac,Z,Z,ah⟩
 intro c5 bh
 refine cF Z c5 (kN (zJ (ZB zw [3,3,3,1,3,3,3,1,3,3,3,1,3,3,3,1,3,3,3,3,1,3,3,3,1,3,3,3,3,3] fL30 (by kernel_rfl) ?_)))
 have ae:=hS.drew
 generalize hw_W9:({ w with drawn:=w.drawn + 1 }:World)=W9 at ae ⊢
 refine oM Z Z (oR Z (Zc Z Z) (oR Z (zM Z Z Zu Z Tryz.sizeOf22) (oL Z (ae.ldB (j:=0) Z Z Z Tryz.isAgg22 (v:=.slice ab O.bytes.length ac) Z) (oM Z Z (oR Z (Zc Z Z) (oR Z (zM Z Z Zu Z zC) (oL Z (ae.ldB (j:=0) Z Z Z zF (v:=jV O.next) Z) (oM Z Z (oR Z (Zc Z Z) (oR Z (zM Z Z Zu Z Tryz.sizeOf22) (oL Z (ae.ldB (j:=0) Z Z Z Tryz.isAgg22 (v:=.slice ab O.bytes.length ac) Z) (oR Z (zx Z Z Tryz.runUnderlying22) (bnK bh fun bn aO aY=>oR Z (Runs.rem Z Z Z aO) (bnK aY fun aL az aZ=>?_))))))))))))))
 have q:=ah.el (fun _=>rfl) (wAc az)
 obtain ⟨bk,bm,aU,aV⟩:=q
 refine oR Z (ZM Z Z aU Z Tryz.runUnderlying22 Tryz.sizeOf5 (wCt az) (wCz az)) (oL Z (ae.ldC (f:=0) aV (v:=.int .u8 aL) Z Z Tryz.isAgg5 Z) (oR Z (Runs.cvu Z Z Tryz.runUnderlying5 Tryz.runUnderlying78 Z Z) (oM Z Z (oR Z (Zc Z Z) (oR Z (zM Z Z Zu Z zC) (oL Z (ae.ldB (j:=0) Z Z Z zF (v:=jV O.next) Z) (oM Z Z (oR Z (Zc Z Z) (oR Z (zM Z Z Zu Z Tryz.sizeOf22) (oL Z (ae.ldB (j:=0) Z Z Z Tryz.isAgg22 (v:=.slice ab O.bytes.length ac) Z) (oR Z (zx Z Z Tryz.runUnderlying22) (bnK aZ fun bi aP a6=>oR Z (Runs.quo Z Z Z aP) (oR Z (Runs.cvu Z Z Ze Tryz.runUnderlying78 Z Z) (oA Z Z (oA Z Z (eN (zJ (CK.fresh fun av an=>?_))))))))))))))))))
 have aj:av 0=.pointer (some ⟨af,0,none⟩):=(an 0).trans rfl
 have ao:av 1=jV p1:=(an 1).trans rfl
 have ap:av 5=.int .u32 (wEp aL):=(an 5).trans rfl
 have aH:av 6=.int .u32 (wEp bi):=(an 6).trans rfl
 clear an
 refine rR (wJK (.fx 7 .nil .stop)) Z (oM Z aj (oR Z (Zc Z Z) (oR Z (zM Z Z Zu Z zC) (oL Z (ae.ldB (j:=0) Z Z Z zF (v:=jV O.next) Z) (oR Z (zV Z Z Z) (oR Z (Zc Z Z) (oR Z (zM Z Z Zu Z zC) (za (j:=0) (vs:=[jV (w64 (O.next + 1))]) Z Z Z Z ae Z Z Z Z zC (zA Z) Z Z Z ?_))))))))
 intro aM aW
 let B0:Res:=.blk af 80 [.slice ab O.bytes.length ac,jV O.next,.int .u32 O.state]
 have aI:SW w [B0] U U [.blk af 80 [.slice ab O.bytes.length ac,jV (w64 (O.next + 1)),.int .u32 O.state]] aM:=aW
 refine eN (sR (wJn (.fx 15 .nil .stop)) Z (oM Z aj (oM Z aj (oR Z (Zc Z Z) (oR Z (zM Z Z Zu Z Tryz.sizeOf78) (oL Z (aI.ldB (j:=0) Z Z Z Tryz.isAgg78 (v:=.int .u32 O.state) Z) (oR Z (Runs.mulu Z Z Z) (oM Z ap (oR Z (Runs.addu Z Z Z) (oM Z aH (oR Z (Runs.mulu Z Z Z) (oR Z (Runs.addu Z Z Z) (oR Z (Runs.addu Z Z Z) (bnK a6 fun au aQ a7=>oR Z (Runs.rem Z Z Z aQ) (oR Z (Zc Z Z) (oR Z (zM Z Z Zu Z Tryz.sizeOf78) (za (j:=0) (vs:=[.int .u32 au]) Z Z Z Z aI Z Z Z Z Tryz.sizeOf78 (zA Z) Z Z Z ?_)))))))))))))))))
 intro aN aX
 have am:SW w [B0] U U [.blk af 80 [.slice ab O.bytes.length ac,jV (w64 (O.next + 1)),.int .u32 au]] aN:=aX
 refine eN (zJ (sR fL6 Z (oM Z aH (oR Z (yO Z Z Z) (oM Z Z (ifc a7 ?_ ?_))))))
 intro ag a8
 refine zU Z Z Z (wT Z ag) Z ao (rU Z (wT Z ag) (Runs.leq Z Z Z) (oR Z (zQ Z (Za ag.out) Z) (eN (ifc a8 ?_ ?_))))
 intro ax a9
 refine cT Z ax (sR fL5 Z (oM Z ap (oR Z (Runs.cvw Z Z Tryz.runUnderlying78 Ze Z Z) (oM Z ao (bnK a9 fun bo aR ba=>oR Z (Runs.rem Z Z Z aR) (oA Z Z (eN (zR (zW ?_)))))))))
 cases ba
 exact ⟨Z,_,(ZG Z),U,_,am,ab,ac,Z,Z,ah⟩
 intro ax bb
 refine cF Z ax (kN (sR wNC Z (oM Z aj (oR Z (Zc Z Z) (oR Z (zM Z Z Zu Z Tryz.sizeOf78) (oL Z (am.ldB (j:=0) Z Z Z Tryz.isAgg78 (v:=.int .u32 au) Z) (oR Z (Runs.mulu Z Z Z) (oM Z ap (oR Z (Runs.addu Z Z Z) (oR Z (Runs.cvw Z Z Tryz.runUnderlying78 Ze Z Z) (oM Z ao (bnK bb fun bp aS bc=>oR Z (Runs.rem Z Z Z aS) (oA Z Z (eN (zR ?_)))))))))))))))
 cases bc
 exact ⟨Z,_,(ZG Z),U,_,am,ab,ac,Z,Z,ah⟩
 intro ag be
 refine oF Z ag (oF Z ag (oR Z (zd Z (ZA ag.out) Z) (eN (zj Z (kN (sR wNC Z (oM Z aj (oR Z (Zc Z Z) (oR Z (zM Z Z Zu Z Tryz.sizeOf78) (oL Z (am.ldB (j:=0) Z Z Z Tryz.isAgg78 (v:=.int .u32 au) Z) (oR Z (Runs.mulu Z Z Z) (oM Z ap (oR Z (Runs.addu Z Z Z) (oR Z (Runs.cvw Z Z Tryz.runUnderlying78 Ze Z Z) (oM Z ao (bnK be fun bq aT bf=>oR Z (Runs.rem Z Z Z aT) (oA Z Z (eN (zR ?_)))))))))))))))))))
 cases bf
 exact ⟨Z,_,(ZG Z),U,_,am,ab,ac,Z,Z,ah⟩
theorem wBd (O:wAP) (aa:Nat) (ab:Option Addr) (ac:Nat) (p1:Int) (p2:Int) (w:World) (U:PHeap) (hS:St0 w U [.blk aa 80 [.slice ab O.bytes.length ac,jV O.next,.int .u32 O.state]]) (az:Sl U 1 ab ac O.bytes.length (hH KL.encB8 O.bytes)) {r:Int × wAP} (hm:wAZ O p1 p2=some r):Gv Tryz.prog 6 [.pointer (some ⟨aa,0,none⟩),jV p1,jV p2] w (wBl w [.blk aa 80 [.slice ab O.bytes.length ac,jV O.next,.int .u32 O.state]] U (fun U_ L_ v=>∃ (aj:Option Addr) (ao:Nat),v=jV r.1/\L_=[.blk aa 80 [.slice aj r.2.bytes.length ao,jV r.2.next,.int .u32 r.2.state]]/\Sl U_ 1 aj ao r.2.bytes.length (hH KL.encB8 r.2.bytes))):=by
 unfold wAZ at hm
 refine Gv.of Tryz.func6 Z Tryz.ntmps6 Tryz.results6 Z (sR fL1 Z (oA Z Z (eN (sR (wHN gAm) Z (oM Z Z (oM Z Z (oM Z Z (oM Z Z (oR Z (ZV Z Z Z) (oR Z (zV Z Z Z) ?_))))))))))
 have q:=bnd hm
 obtain ⟨⟨x2,x3⟩,h4,ap⟩:=q
 try dsimp only at ap
 refine zG 1 Z Z Z Z (zH Z Z Tryz.call7 (zB Z (zB Z zN)) Z) hS (fun hs=>wCg O aa ab ac (w64 ((w64 (p2 - p1)) + 1)) w U hs az h4) (.inl Z) ?_
 rintro U6 L7 v8 W9 aF ax ⟨ah,an,rfl,rfl,au⟩
 have ay:SW w [.blk aa 80 [.slice ab O.bytes.length ac,jV O.next,.int .u32 O.state]] U U6 [.blk aa 80 [.slice ah x3.bytes.length an,jV x3.next,.int .u32 x3.state]] W9:=ax
 refine oR Z (zV Z Z Z) (oA Z Z (eN (zR ?_)))
 cases ap
 exact ⟨Z,_,(ZG Z),U6,_,ay,ah,an,Z,Z,au⟩
theorem wFx (p0:Int) (p1:Int) (w:World) (U:PHeap) (hS:St0 w U [])  {r:Int} (hm:wCN p0 p1=some r):Gv Tryz.prog 9 [jV p0,jV p1] w (wBl w [] U (fun U_ L_ v=>v=jV r/\L_=[])):=by
 unfold wCN at hm
 refine Gv.of Tryz.func9 Z Tryz.ntmps9 Tryz.results9 Z (sR fL1 Z (oA Z Z (eN (zJ (sR fL2 Z (oM Z Z (oR Z (Runs.leq Z Z Z) (eN ?_))))))))
 by_cases O:p1 <= 0
 have ab:=hm;rw [if_pos O] at ab;replace O:=zK O
 refine cT Z O (sR fL1 Z (oA Z Z (eN (zR (zW ?_)))))
 cases ab
 exact ⟨Z,_,(ZG Z),U,_,hS,Z,Z⟩
 have ac:=hm;rw [if_neg O] at ac;replace O:=zK O
 refine cF Z O (kN (sR fL8 Z (oM Z Z (oM Z Z (bnK ac fun x4 h5 ah=>oR Z (Runs.rem Z Z Z h5) (oM Z Z (oR Z (zV Z Z Z) (oM Z Z (bnK ah fun x7 h8 aj=>oR Z (Runs.rem Z Z Z h8) (oA Z Z (eN (zR ?_))))))))))))
 have hE:=hJ aj;first | subst r | cases hE
 exact ⟨Z,_,(ZG Z),U,_,hS,Z,Z⟩
theorem wEb (O:List wAK) (ao:Option Addr) (ap:Nat) (p1:(wAK->Option Bool)) (aq:Value) (w:World) (U:PHeap) (hS:St0 w U []) (a8:Sl U 2 ao ap O.length (hH wAe O)) (a9:FnOK Tryz.prog U aq wNP wNQ p1) {r:Bool} (hm:wBJ O p1=some r):Gv Tryz.prog 87 [.slice ao O.length ap,aq] w (wBl w [] U (fun U_ L_ v=>v=.bool r/\L_=[])):=by
 unfold wBJ at hm
 refine Gv.of Tryz.func87 Z Tryz.ntmps87 Tryz.results87 Z (sR fL1 Z (oA Z Z (eN (zJ (sR fL3 Z (oM Z Z (oR Z (zx Z Z Zh) (oM Z Z (eN (zY ?_))))))))))
 have q:=wBs hm
 obtain ⟨r3,ah⟩:=q
 have q:=wBr ah
 obtain ⟨am,bc⟩:=q
 replace am:=zK am
 refine yQ (fun k2 _ σ_ w_=>∃ (U_:PHeap),σ_ 9=jV (↑k2:Int)/\σ_ 1=aq/\σ_ 7=.slice ao O.length ap/\σ_ 8=jV (↑O.length:Int)/\PHeap.Le U U_/\sW w U U_ [] w_) bc ?_ ?_ ?_
 exact ⟨U,Z,Z,Z,Z,(zL _),hS⟩
 rintro k2 ⟨⟩ bB bD W8 aj ⟨aL,ag,ax,ay,az,an,aF⟩ aJ ba
 try dsimp only at aJ
 have av:Hid ((↑k2:Int) < (↑O.length:Int)):=zK (wAx aj)
 replace aj:=zK aj
 have be:Hid (w64 ((↑k2:Int) + 1)=(↑(k2 + 1):Int)):=zK (by have h1:=am.out;have h2:=av.out;rw [wAW] <;> omega)
 refine sR fL1 Z (oR Z (zT Z ag az) (eN (zJ (cT Z av (kN (zJ (zY (sR gAx Z (bnK aJ fun ab aE bf=>?_)))))))))
 have aT:=a8.le an
 have q:=aT.el (fun _=>rfl) (wAc aE)
 obtain ⟨br,bw,aW,aX⟩:=q
 refine oR Z (Zf Z ay aW ag Zh Zw (wCG aE)) (oL Z (aF.ldCA (f:=0) aX Z Z Tryz.isAgg29 Zw (us:=[jV ab.Bib,jV ab.Time]) Z Z) (zX (cs:=[jV 0,jV 0]) Z Z Z Z Z yo Z aF ?_))
 intro bo au aY
 let B0:List Value:=[jV ab.Bib,jV ab.Time]
 refine za (j:=0) (vs:=B0) Z Z Z Z aY Z Z Z Z Zw (zA Z) Z Z Z ?_
 intro aN aZ
 have aG:sW w U aL [.blk au 29 B0] aN:=aZ
 refine eN (sR gAw Z (oM Z ax (oL Z (aG.ldBA (j:=0) Z Z Z Tryz.isAgg29 Zw (vs:=B0) Z Z) (bnK bf fun bA aU bg=>?_))))
 have aV:=a9.le an
 refine yf (a:=ab) Z Z Z Z Z Z (zB Z zN) aG aV Z aU ?_
 rintro ae bn bz aO bk a6 ⟨rfl,rfl⟩
 have aH:sW w U ae [.blk au 29 B0] aO:=a6
 refine oR Z (ZY Z Z) (eN (ifc bg ?_ ?_))
 intro af bh
 refine zj (nC af.out) (ZS (zk (zI (rR fL2 Z (oR Z (ZI (zV Z ag Z) (congrArg (jV) be.out)) (oM Z Z (zc ?_)))))))
 have q:=hJ bh
 obtain rfl:=q
 exact zI ⟨rfl,_,rfl,⟨ae,rfl,ax,ay,az,(an.trans bk),(aH.pick [] _ (by decide) rfl)⟩⟩
 intro af bi
 refine ZK (nF (af.out)) (sR fL1 Z (oA Z Z (eN (zR (zn (zW ?_))))))
 have q:=wAY bi
 obtain ⟨bm,bj,aQ⟩:=q
 have q:=wBo hm ah (ba bm aQ)
 obtain rfl:=q
 refine zW (zn (zW ?_))
 have hE:=hJ bj;first | subst r | cases hE
 exact ⟨rfl,_,(ZG rfl),ae,_,(aH.pick [] _ (by decide) rfl),rfl,rfl⟩
 rintro ⟨⟩ bC bp ⟨aM,aS,bt,bu,aR,bv,a7⟩ bb
 have aI:=wCk hm ah bb
 try dsimp only at aI
 have aP:Hid (¬ ((↑(((↑O.length:Int):Int) - 0).toNat:Int) < (↑O.length:Int))):=zK (wAd)
 refine sR fL1 Z (oR Z (zT Z aS aR) (eN (zJ (cF Z aP (ZQ (zg (zg (ZJ (zI (sR fL1 Z (oA Z Z (eN (zR ?_)))))))))))))
 have hE:=hJ aI;first | subst r | cases hE
 exact ⟨Z,_,(ZG Z),aM,_,a7,Z,Z⟩
theorem wFG (p0:Int) (p1:Int) (p2:Int) (w:World) (U:PHeap) (hS:St0 w U [])  {r:Bool} (hm:wDK p0 p1 p2=some r):Gv Tryz.prog 74 [jV p0,jV p1,jV p2] w (wBl w [] U (fun U_ L_ v=>v=.bool r/\L_=[])):=by
 unfold wDK at hm
 refine Gv.of Tryz.func74 Z Tryz.ntmps74 Tryz.results74 Z (sR fL1 Z (oA Z Z (eN (sR fL9 Z (oM Z Z (oM Z Z (oR Z (Runs.geq Z Z Z) (oM Z Z ?_))))))))
 by_cases O:p1 <= p0
 have aa:=hm;rw [if_pos O] at aa;replace O:=zK O
 refine zU Z Z Z (wT Z O) Z Z (zU Z Z Z (wT Z O) Z Z (rU Z (wT Z O) (Runs.leq Z Z Z) (oR Z (zQ Z (Za O.out) Z) (oA Z Z (eN (zR ?_))))))
 first | (obtain rfl:=hJ aa) | cases aa
 exact ⟨Z,_,(ZG Z),U,_,hS,Z,Z⟩
 have ae:=hm;rw [if_neg O] at ae;replace O:=zK O
 refine oF Z O (oF Z O (oF Z O (oR Z (zd Z (ZA O.out) Z) (oA Z Z (eN (zR ?_))))))
 have hE:=hJ ae;first | subst r | cases hE
 exact ⟨Z,_,(ZG Z),U,_,hS,Z,Z⟩
theorem wFy (p0:wAK) (w:World) (U:PHeap) (hS:St0 w U [])  {r:Bool} (hm:wBK p0=some r):Gv Tryz.prog 88 [.agg #[jV p0.Bib,jV p0.Time]] w (wBl w [] U (fun U_ L_ v=>v=.bool r/\L_=[])):=by
 unfold wBK at hm
 refine Gv.of Tryz.func88 Z Tryz.ntmps88 Tryz.results88 Z (sR gAi Z ?_)
 let B0:List Value:=[jV p0.Bib,jV p0.Time]
 refine zu (cs:=B0) rfl rfl rfl rfl rfl rfl (by rfl) hS ?_
 intro W1 b2 aj
 refine oA Z Z (eN (sR (.fl 0 (.fl 1 (.fx 2 (wLG gAm) .stop))) Z (oR Z (zM Z Z yR Z zC) (oL Z (aj.ldB (j:=0) Z Z Z zF (v:=jV p0.Bib) Z) (bnK hm fun x5 h6 aE=>zG 0 Z Z Z Z (zH Z Z Tryz.call74 (zB Z (zB Z (zB Z zN))) Z) aj (fun hs=>wFG p0.Bib 1 999 W1 U hs h6) (.inr Z) ?_)))))
 rintro U8 L9 aJ ag aH aq ⟨rfl,rfl⟩
 have ae:sW w U U8 [.blk b2 29 B0] ag:=aq
 refine oM Z Z (ifc aE ?_ ?_)
 intro O ax
 refine ze Z Z Z (zO Z Z (congrArg nA O.out)) (fun _=>zM Z Z yR Z zC) (ZD Z Z Z (zO Z Z (congrArg nA O.out)) (ae.ldB (j:=0) Z Z Z zF (v:=jV p0.Time) Z) Z (bnK ax fun aL ao ay=>zG 0 Z Z Z (zO Z Z (congrArg nA O.out)) (zH Z Z Tryz.call74 (zB Z (zB Z (zB Z zN))) Z) ae (fun hs=>wFG p0.Time 0 360000 ag U8 hs ao) (.inr Z) ?_))
 rintro af aF aK an aI au ⟨rfl,rfl⟩
 have av:sW w U af [.blk b2 29 B0] an:=au
 refine oR Z (zQ Z (congrArg nA O.out) Z) (oA Z Z (eN (zR ?_)))
 have hE:=hJ ay;first | subst r | cases hE
 exact ⟨rfl,_,(ZG rfl),af,_,(av.pick [] _ (by decide) rfl),rfl,rfl⟩
 intro O az
 refine ZT Z Z Z (zS Z Z (congrArg nA (nB.2 O.out)) Z) (ZT Z Z Z (zS Z Z (congrArg nA (nB.2 O.out)) Z) (zz Z Z Z (zS Z Z (congrArg nA (nB.2 O.out)) Z) (oR Z (zd Z (congrArg nA (nB.2 O.out)) Z) (oA Z Z (eN (zR ?_))))))
 have hE:=hJ az;first | subst r | cases hE
 exact ⟨rfl,_,(ZG rfl),U8,_,(ae.pick [] _ (by decide) rfl),rfl,rfl⟩
theorem wHd (O:List Int) (ap:Option Addr) (aq:Nat) (w:World) (U:PHeap) (hS:St0 w U []) (aX:Sl U 1 ap aq O.length (hH KL.encI O)) {r:Bool} (hm:wDL O=some r):Gv Tryz.prog 81 [.slice ap O.length aq] w (wBl w [] U (fun U_ L_ v=>v=.bool r/\L_=[])):=by
 unfold wDL at hm
 refine Gv.of Tryz.func81 Z Tryz.ntmps81 Tryz.results81 Z (sR fL1 Z (oA Z Z (eN (sR gAi Z (ym Z Z Z Z Z hS ?_)))))
 intro W1 b2 aT
 have be:=MpR.nil wKU wLQ
 refine oA Z Z (eN (zJ (sR fL3 Z (oM Z Z (oR Z (zx Z Z zD) (oM Z Z (eN (zY ?_))))))))
 have q:=wBs hm
 obtain ⟨bv,am⟩:=q
 have q:=wBr am
 obtain ⟨ao,a6⟩:=q
 replace ao:=zK ao
 refine yQ (fun aa aI σ_ w_=>∃ (U_:PHeap) (ag:Array MapEntry) (ax:Nat),σ_ 9=jV (↑aa:Int)/\σ_ 3=.map (some b2)/\σ_ 7=.slice ap O.length aq/\σ_ 8=jV (↑O.length:Int)/\PHeap.Le U U_/\sW w U U_ [.obj b2 (.map ag ax)] w_/\MpR ag wKU wLQ aI) a6 ?_ ?_ ?_
 exact ⟨U,#[],0,Z,Z,Z,Z,(zL _),aT,be⟩
 rintro aa aI bw bz bj an ⟨ac,ag,ax,aj,ah,aE,aF,aJ,ab,aG⟩ bg aY
 have av:Hid ((↑aa:Int) < (↑O.length:Int)):=zK (wAx an)
 replace an:=zK an
 have a7:Hid (w64 ((↑aa:Int) + 1)=(↑(aa + 1):Int)):=zK (by have h1:=ao.out;have h2:=av.out;rw [wAW] <;> omega)
 refine sR fL1 Z (oR Z (zT Z aj aF) (eN (zJ (cT Z av (kN (zJ (zY (sR fL3 Z (bnK bg fun au aH a8=>?_)))))))))
 have aQ:=aX.le aJ
 have q:=aQ.el (fun _=>rfl) (wAc aH)
 obtain ⟨bm,bu,aR,aS⟩:=q
 refine oR Z (Zf Z aE aR aj zD zC (wCG aH)) (oL Z (ab.ldC (f:=0) aS (v:=jV au) Z Z zF Z) (oA Z Z (eN (zJ (sR fL3 Z (oM Z ah (oM Z Z (oL Z (ab.lookup1 (j:=0) (mk:=wKU) (mv:=wLQ) (a:=au) (z:=false) Z Z Z Z (wBe Tryz.runUnderlying191) wKa Tryz.zeroValue4 aG) (eN (ifc a8 ?_ ?_))))))))))
 intro af a9
 refine ZK (congrArg nA af.out) (sR fL1 Z (oA Z Z (eN (zR (zW (zn (zW ?_)))))))
 have q:=wAY a9
 obtain ⟨bh,ba,aN⟩:=q
 have q:=wBo hm am (aY bh aN)
 obtain rfl:=q
 refine zW (zn (zW ?_))
 have hE:=hJ ba;first | subst r | cases hE
 exact ⟨rfl,_,(ZG rfl),ac,_,(ab.pick [] _ (by decide) rfl),rfl,rfl⟩
 intro af bb
 refine zj (congrArg nA (nB.2 af.out)) (kN (rR gAn rfl (zU rfl rfl rfl rfl rfl ah (zU rfl rfl rfl rfl rfl rfl (OKS.mapPut (x:=.tmp 16) (y:=.tmp 17) (j:=0) (mk:=wKU) (mv:=wLQ) (a:=au) (v:=true) rfl rfl rfl (by first | exact .inl rfl | exact .inr rfl) ab rfl rfl rfl rfl (wBe Tryz.runUnderlying191) wKa aG rfl ?_)))))
 intro az ay aL bf aU
 have aV:sW w U ac [.obj b2 (.map az ay)] aL:=aU
 refine zc (zk (zI (rR fL2 Z (oR Z (ZI (zV Z aj Z) (congrArg (jV) a7.out)) (oM Z Z (zc ?_))))))
 have q:=hJ bb
 obtain rfl:=q
 exact zI ⟨Z,_,Z,⟨ac,az,ay,Z,ah,aE,aF,aJ,aV,bf⟩⟩
 rintro bx bA bk ⟨aK,bo,bn,aP,bp,bq,aO,bt,aW,br⟩ aZ
 have bc:=wCk hm am aZ
 have aM:Hid (¬ ((↑(((↑O.length:Int):Int) - 0).toNat:Int) < (↑O.length:Int))):=zK (wAd)
 refine sR fL1 Z (oR Z (zT Z aP aO) (eN (zJ (cF Z aM (ZQ (zg (zg (ZJ (zI (sR fL1 Z (oA Z Z (eN (zR ?_)))))))))))))
 have hE:=hJ bc;first | subst r | cases hE
 exact ⟨rfl,_,(ZG rfl),aK,_,(aW.pick [] _ (by decide) rfl),rfl,rfl⟩
theorem wGW (p0:List wAK) (am:Option Addr) (an:Nat) (p1:wAX) (w:World) (U:PHeap) (hS:St0 w U []) (bj:Sl U 2 am an p0.length (hH wAe p0)) {r:Int} (hm:wCm p0 p1=some r):Gv Tryz.prog 54 [.slice am p0.length an,.agg #[jV p1.Unit,jV p1.Limit]] w (wBl w [] U (fun U_ L_ v=>v=jV r/\L_=[])):=by
 unfold wCm at hm
 refine Gv.of Tryz.func54 Z Tryz.ntmps54 Tryz.results54 Z (sR gAi Z ?_)
 let B0:List Value:=[jV p1.Unit,jV p1.Limit]
 refine zu (cs:=B0) rfl rfl rfl rfl rfl rfl (by rfl) hS ?_
 intro W1 b2 bV
 refine oA Z Z (eN (sR fL1 Z (oA Z Z (eN (zJ (sR fL3 Z (oM Z Z (oR Z (zx Z Z Zh) (oM Z Z (eN (zY (bnK hm fun av cb cw=>?_))))))))))))
 have q:=wBE cb
 obtain ⟨aP,cc⟩:=q
 replace aP:=zK aP
 refine CK.forN' (fun ah aj σ_ w_=>∃ (U_:PHeap) (ao:Option Addr) (au:Nat),σ_ 10=jV (↑ah:Int)/\σ_ 0=.slice am p0.length an/\σ_ 3=.pointer (some ⟨b2,0,none⟩)/\σ_ 5=.slice ao aj.length au/\σ_ 8=.slice am p0.length an/\σ_ 9=jV (↑p0.length:Int)/\PHeap.Le U U_/\sW w U U_ [.blk b2 35 B0,.row ao au 3 1 (hH KL.encI aj)] w_) cc ?_ ?_ ?_
 have bU:=bV.nilrow 3 1
 exact ⟨U,none,0,rfl,rfl,rfl,rfl,rfl,rfl,(zL _),(bU.pick [1,0] _ (by decide) rfl)⟩
 rintro ah aj de df cL aO ⟨aq,ao,au,aL,bw,bx,bz,a7,a8,bk,bf⟩ cC
 have aY:Hid ((↑ah:Int) < (↑p0.length:Int)):=zK (wAx aO)
 replace aO:=zK aO
 have cd:Hid (w64 ((↑ah:Int) + 1)=(↑(ah + 1):Int)):=zK (by have h1:=aP.out;have h2:=aY.out;rw [wAW] <;> omega)
 refine sR fL1 Z (oR Z (zT Z aL a8) (eN (zJ (cT Z aY (kN (zJ (zY (sR gAx Z (bnK cC fun af bb cx=>?_)))))))))
 have bI:=bj.le bk
 have q:=bI.el (fun _=>rfl) (wAc bb)
 obtain ⟨cN,cV,bL,bM⟩:=q
 refine oR Z (Zf Z a7 bL aL Zh Zw (wCG bb)) (oL Z (bf.ldCA (f:=0) bM Z Z Tryz.isAgg29 Zw (us:=[jV af.Bib,jV af.Time]) Z Z) (zX (cs:=[jV 0,jV 0]) Z Z Z Z Z yo Z bf ?_))
 intro cM aH bW
 let B1:List Value:=[jV af.Bib,jV af.Time]
 refine za (j:=0) (vs:=B1) Z Z Z Z bW Z Z Z Z Zw (zA Z) Z Z Z ?_
 intro bp bX
 let B2:Res:=.row ao au 3 1 (hH KL.encI aj)
 have bg:sW w U aq [.blk aH 29 B1,.blk b2 35 B0,B2] bp:=bX
 refine eN (rR (wDp (.fx 3 (.fx 4 (.fl 5 .nil) .stop) .stop)) Z (oM Z bz (oR Z (zM Z Z yR Z zC) (oL Z (bg.ldB (j:=0) Z Z Z zF (v:=jV af.Bib) Z) (zr (pv:=[(0,jV af.Bib)]) (zs:=[jV 0]) (cs:=[jV af.Bib]) Z Z Z Z Z (wAE Z wAL) zD zC zt Z Z Z Z Z bg ?_)))))
 intro bq bu bY
 let B3:Res:=.row (some ⟨bu,0,none⟩) 1 3 1 (hH KL.encI [af.Bib])
 have bh:sW w U aq [B3,.blk aH 29 B1,.blk b2 35 B0,B2] bq:=bY
 refine bnK cx fun bm bJ cy=>Zn (j:=3) (enc:=KL.encI) (xs:=aj) (ys:=[af.Bib]) (zs:=bm) rfl rfl rfl rfl rfl yW wGs rfl rfl rfl rfl rfl rfl bh rfl rfl rfl (bh.srcR (j:=0) rfl (by decide) (wAC (f:=KL.encI) (sz:=1) (fun _=>rfl) [af.Bib])) (fun _=>rfl) (fun _=>rfl) bJ rfl ?_
 intro aQ aZ br bZ
 have ca:sW w U aq [B3,.blk aH 29 B1,.blk b2 35 B0,.row aQ aZ 3 1 (hH KL.encI bm)] br:=bZ
 refine oA Z Z (zc (zk (zI (rR fL2 Z (oR Z (ZI (zV Z aL Z) (congrArg (jV) cd.out)) (oM Z Z (zc ?_)))))))
 cases cy
 exact zI ⟨rfl,⟨aq,aQ,aZ,rfl,bw,bx,rfl,a7,a8,bk,(ca.pick [2,3] _ (by decide) rfl)⟩⟩
 rintro dg bt ⟨aF,aR,a6,bC,a9,ba,bA,cO,bB,cD,bi⟩
 have bv:Hid (¬ ((↑(((↑p0.length:Int):Int) - 0).toNat:Int) < (↑p0.length:Int))):=zK (wAd)
 refine sR fL1 Z (oR Z (zT Z bC bB) (eN (zJ (cF Z bv (ZQ (zg (zg (ZJ (zI (zJ (zY (sR fL4 Z (oM Z a9 (oR Z (zx Z Z Zh) (oR Z (ye Z Z Z) (oA Z Z (eN (ifc cw ?_ ?_))))))))))))))))))
 intro aK cz
 refine cT Z aK (sR fL1 Z (oA Z Z (eN (zR (zn (zW ?_))))))
 cases cz
 exact ⟨rfl,_,(ZG rfl),aF,_,(bi.pick [] _ (by decide) rfl),rfl,rfl⟩
 intro aK cA
 refine cF Z aK (sR (.fl 0 (.fx 1 (wLs (.fx 6 (wLJ (.fx 12 (wMv (.nil)) .stop)) .stop)) .stop)) Z (oM Z a9 ?_))
 have bK:=bj.le cD
 have bN:FnOK Tryz.prog aF (.func (.func 88) #[] #[]) wNP wNQ wBK:=⟨88,[],[],rfl,Tryz.call88,fun U1 w1 x y vs le hs ha hm=>by obtain rfl:=ha;exact wFy x w1 U1 hs  hm⟩
 refine bnK cA fun c6 bD cf=>zG 0 Z Z Z Z (zH Z Z Tryz.call87 (zB Z (zB Z zN)) Z) bi (fun hs=>wEb p0 am an wBK (.func (.func 88) #[] #[]) bt aF hs bK bN bD) (.inr Z) ?_
 rintro ay cG cW aW cP bO ⟨rfl,rfl⟩
 let B4:Res:=.row aR a6 3 1 (hH KL.encI av)
 have aM:sW w U ay [.blk b2 35 B0,B4] aW:=bO
 refine oR Z (ZY Z Z) (oM Z Z (ifc cf ?_ ?_))
 intro O cg
 refine ze Z Z Z (zO Z Z (nC O.out)) (fun _=>zM Z ba Tryz.runUnderlying35 Z zC) (ZD Z Z Z (zO Z Z (nC O.out)) (aM.ldB (j:=0) Z Z Z zF (v:=jV p1.Unit) Z) Z (bnK cg fun da bF ci=>zG 0 Z Z Z (zO Z Z (nC O.out)) (zH Z Z Tryz.call74 (zB Z (zB Z (zB Z zN))) Z) aM (fun hs=>wFG p1.Unit 1 600 aW ay hs bF) (.inr Z) ?_))
 rintro az cH cX aX cQ bP ⟨rfl,rfl⟩
 have aN:sW w U az [.blk b2 35 B0,B4] aX:=bP
 refine ze Z Z Z (zO Z Z (nC O.out)) (fun _=>ZY Z Z) (oR Z (zd Z (nC O.out) Z) (oM Z Z (ifc ci ?_ ?_)))
 intro aa cj
 refine ze Z Z Z (zO Z Z (nC aa.out)) (fun _=>zM Z ba Tryz.runUnderlying35 Z zC) (ZD Z Z Z (zO Z Z (nC aa.out)) (aN.ldB (j:=0) Z Z Z zF (v:=jV p1.Limit) Z) Z (bnK cj fun db bG cm=>zG 0 Z Z Z (zO Z Z (nC aa.out)) (zH Z Z Tryz.call74 (zB Z (zB Z (zB Z zN))) Z) aN (fun hs=>wFG p1.Limit 0 360000 aX az hs bG) (.inr Z) ?_))
 rintro aU cI cY aG cR bQ ⟨rfl,rfl⟩
 have bc:sW w U aU [.blk b2 35 B0,B4] aG:=bQ
 refine ze Z Z Z (zO Z Z (nC aa.out)) (fun _=>ZY Z Z) (oR Z (zd Z (nC aa.out) Z) (oA Z Z (eN (ifc cm ?_ ?_))))
 intro aI cn
 refine zj (nC aI.out) (sR gAo Z (oM Z bA ?_))
 have q:=bc.freezeR (k:=1) (n:=av.length) rfl (wAC (f:=KL.encI) (sz:=1) (fun _=>rfl) av) (by decide)
 obtain ⟨aV,cS,cB,bR⟩:=q
 have bS:sW w U aV [.blk b2 35 B0] aG:=bR
 refine bnK cn fun dd bH co=>zG 0 Z Z Z Z (zH Z Z Tryz.call81 (zB Z zN) Z) bS (fun hs=>wHd av aR a6 aG aV hs cB bH) (.inr Z) ?_
 rintro aE cJ cZ bo cU bT ⟨rfl,rfl⟩
 have be:sW w U aE [.blk b2 35 B0] bo:=bT
 refine oA Z Z (eN (ifc co ?_ ?_))
 intro aJ cp
 refine ZK (congrArg nA aJ.out) (sR fL1 Z (oA Z Z (eN (zR (zn (zW ?_))))))
 cases cp
 exact ⟨rfl,_,(ZG rfl),aE,_,(be.pick [] _ (by decide) rfl),rfl,rfl⟩
 intro aJ cq
 refine zj (congrArg nA (nB.2 aJ.out)) (ZS (zk (zI (sR fL1 Z (oA Z Z (eN (zR ?_)))))))
 cases cq
 exact ⟨rfl,_,(ZG rfl),aE,_,(be.pick [] _ (by decide) rfl),rfl,rfl⟩
 intro aI cr
 refine ZK (nF (aI.out)) (sR fL1 Z (oA Z Z (eN (zR (zn (zW ?_))))))
 cases cr
 exact ⟨rfl,_,(ZG rfl),aU,_,(bc.pick [] _ (by decide) rfl),rfl,rfl⟩
 intro aa ct
 refine ZT Z Z Z (zS Z Z (nF (aa.out)) Z) (ZT Z Z Z (zS Z Z (nF (aa.out)) Z) (zz Z Z Z (zS Z Z (nF (aa.out)) Z) (ZT Z Z Z (zS Z Z (nF (aa.out)) Z) (oR Z (zQ Z (nF (aa.out)) Z) (oA Z Z (eN (ZK Z (sR fL1 Z (oA Z Z (eN (zR (zn (zW ?_)))))))))))))
 cases ct
 exact ⟨rfl,_,(ZG rfl),az,_,(aN.pick [] _ (by decide) rfl),rfl,rfl⟩
 intro O cu
 refine ZT Z Z Z (zS Z Z (nF (O.out)) Z) (ZT Z Z Z (zS Z Z (nF (O.out)) Z) (zz Z Z Z (zS Z Z (nF (O.out)) Z) (ZT Z Z Z (zS Z Z (nF (O.out)) Z) (oR Z (zQ Z (nF (O.out)) Z) (oM Z Z (oN Z (oN Z (zz Z Z Z (zS Z Z Z Z) (oN Z (oR Z (zQ Z Z Z) (oA Z Z (eN (ZK Z (sR fL1 Z (oA Z Z (eN (zR (zn (zW ?_)))))))))))))))))))
 cases cu
 exact ⟨rfl,_,(ZG rfl),ay,_,(aM.pick [] _ (by decide) rfl),rfl,rfl⟩
theorem wGK (O:List wAK) (af:Option Addr) (ag:Nat) (p1:wAX) (w:World) (U:PHeap) (hS:St0 w U []) (aK:Sl U 2 af ag O.length (hH wAe O)) {r:(List Int) × Int} (hm:wCV O p1=some r):Gv Tryz.prog 23 [.slice af O.length ag,.agg #[jV p1.Unit,jV p1.Limit]] w (wBl w [] U (fun U_ L_ v=>∃ (A0:Option Addr) (c0:Nat),v=.tuple #[.slice A0 r.1.length c0,jV r.2]/\L_=[.row A0 c0 3 1 (hH KL.encI r.1)])):=by
 unfold wCV at hm
 refine Gv.of Tryz.func23 Z Tryz.ntmps23 Tryz.results23 Z (sR (.fx 0 gAa .stop) Z ?_)
 let B0:List Value:=[jV p1.Unit,jV p1.Limit]
 refine zu (cs:=B0) rfl rfl rfl rfl rfl rfl (by rfl) hS ?_
 intro W1 b2 bi
 refine oA Z Z (oA Z Z (eN (zJ (sR gAw Z (oM Z Z (oL Z (bi.ldBA (j:=0) Z Z Z Tryz.isAgg35 Tryz.sizeOf35 (vs:=B0) Z Z) (bnK hm fun x5 h6 cK=>zG 0 Z Z Z Z (zH Z Z Tryz.call54 (zB Z (zB Z zN)) Z) bi (fun hs=>wGW O af ag p1 W1 U hs aK h6) (.inr Z) ?_)))))))
 rintro U8 L9 dh bv bn cg ⟨rfl,rfl⟩
 have bg:sW w U U8 [.blk b2 35 B0] bv:=cg
 refine oA Z Z (eN (sR fL2 Z (oM Z Z (oR Z (Zb Z Z Z) (eN (ifc cK ?_ ?_))))))
 intro aG cG
 refine zj (ZA (fun h=>h aG.out)) (kN (sR fL1 Z (oA Z Z (eN (zJ (sR fL3 Z (oM Z Z (oR Z (zx Z Z Zh) (oM Z Z (eN (zY (bnK cG fun ah cw cI=>?_))))))))))))
 have q:=wBE cw
 obtain ⟨aN,cx⟩:=q
 replace aN:=zK aN
 refine CK.forN' (fun aj bq σ_ w_=>∃ (U_:PHeap),σ_ 22=jV (↑aj:Int)/\σ_ 0=.slice af O.length ag/\σ_ 3=.pointer (some ⟨b2,0,none⟩)/\σ_ 7=jV bq/\σ_ 20=.slice af O.length ag/\σ_ 21=jV (↑O.length:Int)/\PHeap.Le U8 U_/\sW w U U_ [.blk b2 35 B0] w_) cx ?_ ?_ ?_
 exact ⟨U8,Z,Z,Z,Z,Z,Z,(zL _),bg⟩
 rintro aj bq dl dq cV aM ⟨aU,aJ,bJ,bK,bL,a9,ba,bo,bj⟩ cN
 have aZ:Hid ((↑aj:Int) < (↑O.length:Int)):=zK (wAx aM)
 replace aM:=zK aM
 have cB:Hid (w64 ((↑aj:Int) + 1)=(↑(aj + 1):Int)):=zK (by have h1:=aN.out;have h2:=aZ.out;rw [wAW] <;> omega)
 refine sR fL1 Z (oR Z (zT Z aJ ba) (eN (zJ (cT Z aZ (kN (zJ (zY (sR gAx Z (bnK cN fun ap bc cJ=>?_)))))))))
 have bX:=aK.le bn
 have bY:=bX.le bo
 have q:=bY.el (fun _=>rfl) (wAc bc)
 obtain ⟨cZ,dg,cb,cd⟩:=q
 refine oR Z (Zf Z a9 cb aJ Zh Zw (wCG bc)) (oL Z (bj.ldCA (f:=0) cd Z Z Tryz.isAgg29 Zw (us:=[jV ap.Bib,jV ap.Time]) Z Z) (zX (cs:=[jV 0,jV 0]) Z Z Z Z Z yo Z bj ?_))
 intro cW bB cr
 let B1:List Value:=[jV ap.Bib,jV ap.Time]
 refine za (j:=0) (vs:=B1) Z Z Z Z cr Z Z Z Z Zw (zA Z) Z Z Z ?_
 intro bz ct
 have bk:sW w U aU [.blk bB 29 B1,.blk b2 35 B0] bz:=ct
 refine eN (rR fL5 Z (oM Z bL (oR Z (zM Z Z yR Z zC) (oL Z (bk.ldB (j:=0) Z Z Z zF (v:=jV ap.Time) Z) (oR Z (Runs.min Z Z Z) (oA Z Z (zc (zk (zI (rR fL2 Z (oR Z (ZI (zV Z aJ Z) (congrArg (jV) cB.out)) (oM Z Z (zc ?_)))))))))))))
 cases cJ
 exact zI ⟨rfl,⟨aU,rfl,bJ,bK,rfl,a9,ba,bo,(bk.pick [1] _ (by decide) rfl)⟩⟩
 rintro dr cX ⟨aV,bR,bM,bN,bO,dd,bP,cO,cu⟩
 have bF:Hid (¬ ((↑(((↑O.length:Int):Int) - 0).toNat:Int) < (↑O.length:Int))):=zK (wAd)
 refine sR fL1 Z (oR Z (zT Z bR bP) (eN (zJ (cF Z bF (ZQ (zg (zg (ZJ (zI (sR fL1 Z (oA Z Z (eN (zJ (sR fL3 Z (oM Z bM (oR Z (zx Z Z Zh) (oM Z Z (eN (zY (bnK cI fun dm cy cL=>?_))))))))))))))))))))
 have q:=wBE cy
 obtain ⟨aO,cz⟩:=q
 replace aO:=zK aO
 refine CK.forN' (fun am an σ_ w_=>∃ (U_:PHeap) (aq:Option Addr) (ay:Nat),σ_ 33=jV (↑am:Int)/\σ_ 3=.pointer (some ⟨b2,0,none⟩)/\σ_ 7=jV ah/\σ_ 10=.slice aq an.length ay/\σ_ 31=.slice af O.length ag/\σ_ 32=jV (↑O.length:Int)/\PHeap.Le aV U_/\sW w U U_ [.blk b2 35 B0,.row aq ay 3 1 (hH KL.encI an)] w_) cz ?_ ?_ ?_
 have cf:=cu.nilrow 3 1
 exact ⟨aV,none,0,rfl,bN,bO,rfl,rfl,rfl,(zL _),(cf.pick [1,0] _ (by decide) rfl)⟩
 rintro am an dk dn cQ aL ⟨av,aq,ay,aI,aH,a6,bG,a7,a8,bm,be⟩ cM
 have aX:Hid ((↑am:Int) < (↑O.length:Int)):=zK (wAx aL)
 replace aL:=zK aL
 have cA:Hid (w64 ((↑am:Int) + 1)=(↑(am + 1):Int)):=zK (by have h1:=aO.out;have h2:=aX.out;rw [wAW] <;> omega)
 refine sR fL1 Z (oR Z (zT Z aI a8) (eN (zJ (cT Z aX (kN (zJ (zY (sR gAx Z (bnK cM fun ab bb cC=>?_)))))))))
 have bS:=aK.le bn
 have bT:=bS.le cO
 have bU:=bT.le bm
 have q:=bU.el (fun _=>rfl) (wAc bb)
 obtain ⟨cY,df,ca,cc⟩:=q
 refine oR Z (Zf Z a7 ca aI Zh Zw (wCG bb)) (oL Z (be.ldCA (f:=0) cc Z Z Tryz.isAgg29 Zw (us:=[jV ab.Bib,jV ab.Time]) Z Z) (zX (cs:=[jV 0,jV 0]) Z Z Z Z Z yo Z be ?_))
 intro cR aF ci
 let B2:List Value:=[jV ab.Bib,jV ab.Time]
 refine za (j:=0) (vs:=B2) Z Z Z Z ci Z Z Z Z Zw (zA Z) Z Z Z ?_
 intro aE cj
 let B3:Res:=.row aq ay 3 1 (hH KL.encI an)
 have bf:sW w U av [.blk aF 29 B2,.blk b2 35 B0,B3] aE:=cj
 refine eN (sR fL5 rfl (ze rfl rfl rfl rfl (fun _=>zM rfl rfl yR rfl zC) (ZD rfl rfl rfl rfl (bf.ldB (j:=0) rfl rfl rfl zF (v:=jV ab.Time) rfl) rfl (zU rfl rfl rfl rfl rfl a6 (ze rfl rfl rfl rfl (fun _=>ZV rfl rfl rfl) (Zy rfl rfl rfl rfl rfl rfl (eN (ZB zw [3,3,3,3,1,3,3,3,1,3,2,0,3] (wLr (.fx 10 (.fx 11 (.fl 12 .nil) .stop) .stop)) (by kernel_rfl) ?_))))))))
 have az:=bf.drew
 generalize hw_W137:({ aE with drawn:=aE.drawn + 1 }:World)=cS at az ⊢
 refine oM Z bG (oM Z Z (oM Z Z (oR Z (zM Z aH Tryz.runUnderlying35 Z zC) (oL Z (az.ldB (j:=1) Z Z Z zF (v:=jV p1.Unit) Z) (bnK cC fun ao bV cD=>oR Z (Runs.rem Z Z Z bV) (oR Z (ZV Z Z Z) (oR Z (zM Z aH Tryz.runUnderlying35 Z zC) (oL Z (az.ldB (j:=1) Z Z Z zF (v:=jV p1.Limit) Z) (oR Z (Runs.min Z Z Z) (zr (pv:=[(0,jV (min (w64 ((w64 (ab.Time - ah)) - ao)) p1.Limit))]) (zs:=[jV 0]) (cs:=[jV (min (w64 ((w64 (ab.Time - ah)) - ao)) p1.Limit)]) Z Z Z Z Z (wAE Z wAL) zD zC zt Z Z Z Z Z az ?_))))))))))
 intro bw bA cm
 let B4:Res:=.row (some ⟨bA,0,none⟩) 1 3 1 (hH KL.encI [min (w64 ((w64 (ab.Time - ah)) - ao)) p1.Limit])
 have bh:sW w U av [B4,.blk aF 29 B2,.blk b2 35 B0,B3] bw:=cm
 refine bnK cD fun bp bW cE=>Zn (j:=3) (enc:=KL.encI) (xs:=an) (ys:=[min (w64 ((w64 (ab.Time - ah)) - ao)) p1.Limit]) (zs:=bp) rfl rfl rfl rfl rfl yW wGs rfl rfl rfl rfl rfl rfl bh rfl rfl rfl (bh.srcR (j:=0) rfl (by decide) (wAC (f:=KL.encI) (sz:=1) (fun _=>rfl) [min (w64 ((w64 (ab.Time - ah)) - ao)) p1.Limit])) (fun _=>rfl) (fun _=>rfl) bW rfl ?_
 intro aQ aY bx cn
 have co:sW w U av [B4,.blk aF 29 B2,.blk b2 35 B0,.row aQ aY 3 1 (hH KL.encI bp)] bx:=cn
 refine oA Z Z (zc (zk (zI (rR fL2 Z (oR Z (ZI (zV Z aI Z) (congrArg (jV) cA.out)) (oM Z Z (zc ?_)))))))
 cases cE
 exact zI ⟨rfl,⟨av,aQ,aY,rfl,aH,a6,rfl,a7,a8,bm,(co.pick [2,3] _ (by decide) rfl)⟩⟩
 rintro dp cU ⟨bt,br,bC,bQ,c6,da,bH,db,bI,de,cp⟩
 have bD:Hid (¬ ((↑(((↑O.length:Int):Int) - 0).toNat:Int) < (↑O.length:Int))):=zK (wAd)
 refine sR fL1 Z (oR Z (zT Z bQ bI) (eN (zJ (cF Z bD (ZQ (zg (zg (ZJ (zI (sR fL3 Z (oM Z bH (oA Z Z (oA Z Z (eN (zR ?_)))))))))))))))
 cases cL
 exact ⟨rfl,_,(wDw rfl rfl),bt,_,(cp.pick [1] _ (by decide) rfl),br,bC,rfl,rfl⟩
 intro aG cH
 refine cT Z aG (sR fL3 Z (oM Z Z (oA Z Z (oA Z Z (eN (zR (zW ?_)))))))
 have cq:=bg.nilrow 3 1
 cases cH
 exact ⟨rfl,_,(wDw rfl rfl),U8,_,(cq.pick [0] _ (by decide) rfl),none,0,rfl,rfl⟩
end Go.Proofs.YtkghaiefcjgfkaaGreat
namespace Go.Proofs.YtkghaiefcjgfkaaGreat
open Go.KL
set_option maxHeartbeats 4000000
theorem wEx (O:Int) (w:World) (U:PHeap) (hS:St0 w U [])  {r:Bool} (hm:wCn O=some r):Gv Tryz.prog 56 [jV O] w (wBl w [] U (fun U_ L_ v=>v=.bool r/\L_=[])):=by
 unfold wCn at hm
 refine Gv.of Tryz.func56 Z Tryz.ntmps56 Tryz.results56 Z (sR fL1 Z (oA Z Z (eN (sR fL4 Z (oM Z Z (oM Z Z (oR Z (Zb Z Z Z) (oA Z Z (eN (zR ?_))))))))))
 first | (obtain rfl:=hJ hm) | cases hm
 exact ⟨Z,_,(ZG Z),U,_,hS,Z,Z⟩
theorem wEc (p0:Int) (p1:Int) (w:World) (U:PHeap) (hS:St0 w U [])  {r:Int} (hm:wBp p0 p1=some r):Gv Tryz.prog 27 [jV p0,jV p1] w (wBl w [] U (fun U_ L_ v=>v=jV r/\L_=[])):=by
 unfold wBp at hm
 refine Gv.of Tryz.func27 Z Tryz.ntmps27 Tryz.results27 Z (sR fL1 Z (oA Z Z (eN (sR gAo Z (oM Z Z (bnK hm fun x1 h2 aJ=>zG 0 Z Z Z Z (zH Z Z Tryz.call56 (zB Z zN) Z) hS (fun hs=>wEx p0 w U hs h2) (.inr Z) ?_))))))
 rintro U4 L5 v6 W7 aR ax ⟨rfl,rfl⟩
 have au:sW w U U4 [] W7:=ax
 refine oA Z Z (eN (sR gAo Z (oM Z Z (bnK aJ fun aV ap ay=>zG 0 Z Z Z Z (zH Z Z Tryz.call56 (zB Z zN) Z) au (fun hs=>wEx p1 W7 U4 hs ap) (.inr Z) ?_))))
 rintro O aO aS ao aQ av ⟨rfl,rfl⟩
 have aa:sW w U O [] ao:=av
 refine oA Z Z (eN (zJ (sR fL1 Z (oM Z Z (eN (ifc ay ?_ ?_))))))
 intro ab az
 refine ZK (congrArg nA ab.out) (zJ (sR fL1 Z (oM Z Z (eN (ifc az ?_ ?_)))))
 intro ac aE
 refine ZK (congrArg nA ac.out) (sR fL1 Z (oA Z Z (eN (zR (zW (zW ?_))))))
 cases aE
 exact ⟨Z,_,(ZG Z),O,_,aa,Z,Z⟩
 intro ac aF
 refine zj (congrArg nA (nB.2 ac.out)) (kN (sR fL1 Z (oA Z Z (eN (zR (zW ?_))))))
 cases aF
 exact ⟨Z,_,(ZG Z),O,_,aa,Z,Z⟩
 intro ab aG
 refine zj (congrArg nA (nB.2 ab.out)) (kN (zJ (sR fL1 Z (oM Z Z (eN (ifc aG ?_ ?_))))))
 intro ae aH
 refine ZK (congrArg nA ae.out) (sR fL1 Z (oA Z Z (eN (zR (zW ?_)))))
 cases aH
 exact ⟨Z,_,(ZG Z),O,_,aa,Z,Z⟩
 intro ae aI
 refine zj (congrArg nA (nB.2 ae.out)) (kN (zJ (sR fL3 Z (oM Z Z (oM Z Z (oR Z (zT Z Z Z) (eN (ifc aI ?_ ?_))))))))
 intro af aK
 refine cT Z af (sR fL1 Z (oA Z Z (eN (zR (zW ?_)))))
 cases aK
 exact ⟨Z,_,(ZG Z),O,_,aa,Z,Z⟩
 intro af aL
 refine cF Z af (kN (zJ (sR fL3 Z (oM Z Z (oM Z Z (oR Z (ye Z Z Z) (eN (ifc aL ?_ ?_))))))))
 intro ag aM
 refine cT Z ag (sR fL1 Z (oA Z Z (eN (zR (zW ?_)))))
 cases aM
 exact ⟨Z,_,(ZG Z),O,_,aa,Z,Z⟩
 intro ag aN
 refine cF Z ag (kN (sR fL1 Z (oA Z Z (eN (zR ?_)))))
 cases aN
 exact ⟨Z,_,(ZG Z),O,_,aa,Z,Z⟩
theorem wIG (O:List Int) (aj:Option Addr) (am:Nat) (w:World) (U:PHeap) (hS:St0 w U []) (aO:Sl U 1 aj am O.length (hH KL.encI O)) {r:Int} (hm:wDh O=some r):Gv Tryz.prog 26 [.slice aj O.length am] w (wBl w [] U (fun U_ L_ v=>v=jV r/\L_=[])):=by
 unfold wDh at hm
 refine Gv.of Tryz.func26 Z Tryz.ntmps26 Tryz.results26 Z (sR fL1 Z (oA Z Z (eN (sR fL1 Z (oA Z Z (eN (zJ (sR fL3 Z (oM Z Z (oR Z (zx Z Z zD) (oM Z Z (eN (zY ?_)))))))))))))
 have q:=wBs hm
 obtain ⟨r3,af⟩:=q
 have q:=wBr af
 obtain ⟨ah,aR⟩:=q
 replace ah:=zK ah
 refine yQ (fun k2 _ σ_ w_=>∃ (U_:PHeap),σ_ 8=jV (↑k2:Int)/\σ_ 3=jV 0/\σ_ 6=.slice aj O.length am/\σ_ 7=jV (↑O.length:Int)/\PHeap.Le U U_/\sW w U U_ [] w_) aR ?_ ?_ ?_
 exact ⟨U,Z,Z,Z,Z,(zL _),hS⟩
 rintro k2 ⟨⟩ bc bf W8 ag ⟨an,ac,ap,aq,au,az,ae⟩ ay aP
 try dsimp only at ay
 have ao:Hid ((↑k2:Int) < (↑O.length:Int)):=zK (wAx ag)
 replace ag:=zK ag
 have aS:Hid (w64 ((↑k2:Int) + 1)=(↑(k2 + 1):Int)):=zK (by have h1:=ah.out;have h2:=ao.out;rw [wAW] <;> omega)
 refine sR fL1 Z (oR Z (zT Z ac au) (eN (zJ (cT Z ao (kN (zJ (zY (sR fL3 Z (bnK ay fun aY av aT=>?_)))))))))
 have aK:=aO.le az
 have q:=aK.el (fun _=>rfl) (wAc av)
 obtain ⟨a7,ba,aL,aM⟩:=q
 refine oR Z (Zf Z aq aL ac zD zC (wCG av)) (oL Z (ae.ldC (f:=0) aM (v:=jV aY) Z Z zF Z) (oA Z Z (eN (sR fL3 Z (oM Z Z (oM Z ap (oR Z (Zb Z Z Z) (eN (ifc aT ?_ ?_)))))))))
 intro ab aU
 refine zj (ZA (fun h=>h ab.out)) (ZS (zk (zI (rR fL2 Z (oR Z (ZI (zV Z ac Z) (congrArg (jV) aS.out)) (oM Z Z (zc ?_)))))))
 have q:=hJ aU
 obtain rfl:=q
 exact zI ⟨Z,_,Z,⟨an,Z,ap,aq,au,az,ae⟩⟩
 intro ab aV
 refine cT Z ab (sR fL2 Z (oM Z Z (oA Z Z (eN (zR (zn (zW ?_)))))))
 have q:=wAY aV
 obtain ⟨aX,aW,aG⟩:=q
 have q:=wBo hm af (aP aX aG)
 obtain rfl:=q
 refine zW (zn (zW ?_))
 have hE:=hJ aW;first | subst r | cases hE
 exact ⟨Z,_,(ZG Z),an,_,ae,Z,Z⟩
 rintro ⟨⟩ be aZ ⟨aE,aJ,aH,a8,aI,a9,aN⟩ aQ
 have ax:=wCk hm af aQ
 try dsimp only at ax
 have aF:Hid (¬ ((↑(((↑O.length:Int):Int) - 0).toNat:Int) < (↑O.length:Int))):=zK (wAd)
 refine sR fL1 Z (oR Z (zT Z aJ aI) (eN (zJ (cF Z aF (ZQ (zg (zg (ZJ (zI (sR fL2 Z (oM Z aH (oA Z Z (eN (zR ?_))))))))))))))
 cases ax
 exact ⟨Z,_,(ZG Z),aE,_,aN,Z,Z⟩
theorem wFz (p0:Int) (p1:Int) (p2:List Int) (aL:Nat) (af:Option Addr) (ah:Nat) (p3:List wAK) (aM:Nat) (ag:Option Addr) (aj:Nat) (w:World) (U:PHeap) (hS:St0 w U []) (aF:Cl U aL 0 [.slice af p2.length ah]) (aG:Sl U 1 af ah p2.length (hH KL.encI p2)) (aH:Cl U aM 0 [.slice ag p3.length aj]) (aI:Sl U 2 ag aj p3.length (hH wAe p3)) {r:Int} (hm:wBL p0 p1 p2 p3=some r):Gv Tryz.prog 25 [jV p0,jV p1,.pointer (some ⟨aL,0,none⟩),.pointer (some ⟨aM,0,none⟩)] w (wBl w [] U (fun U_ L_ v=>v=jV r/\L_=[])):=by
 unfold wBL at hm
 refine Gv.of Tryz.func25 rfl Tryz.ntmps25 Tryz.results25 rfl (sR fL1 rfl (Zy rfl rfl rfl rfl rfl rfl (eN (zJ (ZB zw [1,3,3,1,1,3,3,1,2,1,3,3,3,1,1,3,3,3,1,2,2,2,3] (wNy (wOJ (.fx 8 (.fx 19 (.fx 20 (.fx 21 (.fl 22 .nil) .stop) .stop) .stop) .stop))) (by kernel_rfl) ?_)))))
 have O:=hS.drew
 generalize hw_W2:({ w with drawn:=w.drawn + 1 }:World)=W2 at O ⊢
 refine oL Z (O.ldC (f:=0) aF (v:=.slice af p2.length ah) Z Z ZH Z) (oM Z Z (bnK hm fun x3 h4 bt=>?_))
 have q:=aG.el (fun _=>rfl) (wAc h4)
 obtain ⟨b6,bM,a6,ba⟩:=q
 refine oR Z (ZM Z Z a6 Z zD zC (wCt h4) (wCz h4)) (oL Z (O.ldC (f:=0) ba (v:=jV x3) Z Z zF Z) (oL Z (O.ldC (f:=0) aF (v:=.slice af p2.length ah) Z Z ZH Z) (oM Z Z (bnK bt fun aN an bn=>?_))))
 have q:=aG.el (fun _=>rfl) (wAc an)
 obtain ⟨bA,bJ,aX,a7⟩:=q
 refine oR Z (ZM Z Z aX Z zD zC (wCt an) (wCz an)) (oL Z (O.ldC (f:=0) a7 (v:=jV aN) Z Z zF Z) (oL Z (O.ldC (f:=0) aH (v:=.slice ag p3.length aj) Z Z Tryz.isAgg25 Z) (oM Z Z (bnK bn fun aO ao bo=>?_))))
 have q:=aI.el (fun _=>rfl) (wAc ao)
 obtain ⟨bB,bK,aY,a8⟩:=q
 refine oR Z (ZM Z Z aY Z Zh Zw (wCt ao) (wCz ao)) (oR Z (zM Z Z yR Z zC) (oL Z (O.ldC (f:=1) a8 (v:=jV aO.Time) Z Z zF Z) (oL Z (O.ldC (f:=0) aH (v:=.slice ag p3.length aj) Z Z Tryz.isAgg25 Z) (oM Z Z (bnK bo fun aP ap bp=>?_)))))
 have q:=aI.el (fun _=>rfl) (wAc ap)
 obtain ⟨bC,bL,aZ,a9⟩:=q
 refine oR Z (ZM Z Z aZ Z Zh Zw (wCt ap) (wCz ap)) (oR Z (zM Z Z yR Z zC) (oL Z (O.ldC (f:=1) a9 (v:=jV aP.Time) Z Z zF Z) (bnK bp fun ac aU bq=>zG 0 Z Z Z Z (zH Z Z Tryz.call27 (zB Z (zB Z zN)) Z) O (fun hs=>wEc x3 aN W2 U hs aU) (.inr Z) ?_)))
 rintro au bw bN az bF bb ⟨rfl,rfl⟩
 have bc:sW w U au [] az:=bb
 refine bnK bq fun ae aV br=>zG 0 Z Z Z Z (zH Z Z Tryz.call27 (zB Z (zB Z zN)) Z) bc (fun hs=>wEc aO.Time aP.Time az au hs aV) (.inr Z) ?_
 rintro av bx bO aS bG be ⟨rfl,rfl⟩
 have bf:sW w U av [] aS:=be
 refine zr (pv:=[(0,jV ac),(1,jV ae)]) (zs:=[jV 0,jV 0]) (cs:=[jV ac,jV ae]) Z Z Z Z Z (wAE Z (wAE Z wAL)) zD zC zt Z Z Z Z Z bf ?_
 intro am aE bg
 have bh:sW w U av [.row (some ⟨aE,0,none⟩) 2 3 1 (hH KL.encI [ac,ae])] am:=bg
 have q:=bh.freezeR (k:=0) (n:=[ac,ae].length) rfl (wAC (f:=KL.encI) (sz:=1) (fun _=>rfl) [ac,ae]) (by decide)
 obtain ⟨ax,bH,bv,bi⟩:=q
 have bj:sW w U ax [] am:=bi
 refine bnK br fun bQ aW bu=>zG 0 Z Z Z Z (zH Z Z Tryz.call26 (zB Z zN) Z) bj (fun hs=>wIG [ac,ae] (some ⟨aE,0,none⟩) 2 am ax hs bv aW) (.inr Z) ?_
 rintro ay bz bP aT bI bk ⟨rfl,rfl⟩
 have bm:sW w U ay [] aT:=bk
 refine oA Z Z (eN (zR ?_))
 have hE:=hJ bu;first | subst r | cases hE
 exact ⟨Z,_,(ZG Z),ay,_,bm,Z,Z⟩
theorem wCC (p0:List Int) (ac:Option Addr) (ae:Nat) (p1:Int) (p2:Int) (p3:((Int × Int)->Option Int)) (aI:Value) (w:World) (U:PHeap) (hS:St0 w U [.row ac ae 3 1 (hH KL.encI p0)]) (bx:FnOK Tryz.prog U aI wMU wMV p3) {r:(List Int)} (hm:wAU p0 p1 p2 p3=some r):Gv Tryz.prog 89 [.slice ac p0.length ae,jV p1,jV p2,aI] w (wBl w [.row ac ae 3 1 (hH KL.encI p0)] U (fun U_ L_ v=>v=.tuple #[]/\L_=[.row ac ae 3 1 (hH KL.encI r)]/\r.length=p0.length)):=by
 unfold wAU at hm
 refine Gv.of Tryz.func89 Z Tryz.ntmps89 Tryz.results89 Z (sR fL3 Z (oM Z Z (oR Z (zV Z Z Z) (oA Z Z (eN (zY ?_))))))
 let B0:Res:=.row ac ae 3 1 (hH KL.encI p0)
 refine yl (fun (l8,x9) σ_ w_=>∃ (U_:PHeap),σ_ 0=.slice ac l8.length ae/\σ_ 1=jV p1/\σ_ 2=jV p2/\σ_ 3=aI/\σ_ 8=jV x9/\PHeap.Le U U_/\SW w [B0] U U_ [.row ac ae 3 1 (hH KL.encI l8)] w_/\l8.length=p0.length) hm ?_ ?_
 exact ⟨U,Z,Z,Z,Z,Z,(zL _),hS,Z⟩
 rintro ⟨l8,x9⟩ ca cc bU ⟨aK,bj,bk,aV,bm,aN,aT,aX,aW⟩ aR bz
 try dsimp only at aR
 refine zJ (sR fL3 Z (oM Z aN (oM Z aV (oR Z (zT Z Z Z) (eN ?_)))))
 by_cases aj:x9 < p2
 have a8:=aR;rw [if_pos aj] at a8;replace aj:=zK aj
 refine cT Z aj (kN (zJ (zY (sR fL2 Z (oM Z aN (oA Z Z (eN (zY (yl (fun (O,ab) σ_ w_=>∃ (U_:PHeap),σ_ 0=.slice ac O.length ae/\σ_ 1=jV p1/\σ_ 2=jV p2/\σ_ 3=aI/\σ_ 8=jV x9/\σ_ 9=jV ab/\PHeap.Le aK U_/\SW w [B0] U U_ [.row ac ae 3 1 (hH KL.encI O)] w_/\O.length=p0.length) a8 ?_ ?_)))))))))
 exact ⟨aK,bj,bk,aV,bm,aN,Z,(zL _),aX,aW⟩
 rintro ⟨O,ab⟩ cb cd aU ⟨bc,ah,az,aO,aE,aP,am,aH,bq,aQ⟩ aS aZ
 try dsimp only at aS
 refine zJ (zJ (ZB zw [3,3,3,3,3,3,3,3,1,3,3,3,3,1,2,3,3] (wLF gAp) (by kernel_rfl) ?_))
 have ap:=bq.drew
 generalize hw_W54:({ aU with drawn:=aU.drawn + 1 }:World)=bV at ap ⊢
 refine oM Z am (oM Z az (oR Z (ye Z Z Z) (oM Z Z ?_)))
 by_cases aa:p1 < ab
 have a9:=aS;rw [if_pos aa] at a9;replace aa:=zK aa
 refine zU Z Z Z (wT Z aa) Z aE (zU Z Z Z (wT Z aa) Z ah (zU Z Z Z (wT Z aa) Z am (bnK a9 fun _ ag bJ=>?_)))
 obtain ⟨bX,af⟩:=ap.rowSome (j:=0) rfl (by rw [wAC (f:=KL.encI) (sz:=1) (fun _=>rfl) O];have hz:=wAR ag;omega)
 refine rU Z (wT Z aa) (ZM Z Z af Z zD zC (wAr ag) (wAs ag)) ?_
 have bA:=wAt (xs:=O) (wAR ag)
 refine ZD rfl rfl rfl (zO rfl rfl (Za aa.out)) (ap.ldR (j:=0) rfl af rfl rfl zF (wAT (sz:=1) (fun _=>rfl) _ _ 0 _ bA (by first | omega | rfl | simp) rfl)) rfl (zU rfl rfl rfl (zO rfl rfl (Za aa.out)) rfl ah (zU rfl rfl rfl (zO rfl rfl (Za aa.out)) rfl am (ze rfl rfl rfl (zO rfl rfl (Za aa.out)) (fun _=>ZV rfl rfl rfl) (bnK bJ fun _ ao bK=>ze rfl rfl rfl (zO rfl rfl (Za aa.out)) (fun _=>ZM rfl rfl af rfl zD zC (wAr ao) (wAs ao)) ?_))))
 have bB:=wAt (xs:=O) (wAR ao)
 refine ZD rfl rfl rfl (zO rfl rfl (Za aa.out)) (ap.ldR (j:=0) rfl af rfl rfl zF (wAT (sz:=1) (fun _=>rfl) _ _ 0 _ bB (by first | omega | rfl | simp) rfl)) rfl (bnK bK fun bZ bn bL=>?_)
 have bo:=bx.le aT
 have bp:=bo.le aH
 refine yf (a:=((gd O ab.toNat),(gd O (w64 (ab - 1)).toNat))) Z Z Z (wT Z aa) Z Z (zB Z (zB Z zN)) ap bp Z bn ?_
 rintro au bT bY aL ba br ⟨rfl,rfl⟩
 have aY:SW w [B0] U au [.row ac ae 3 1 (hH KL.encI O)] aL:=br
 refine rU Z (wT Z aa) (zT Z Z Z) (oR Z (zQ Z (Za aa.out) Z) (eN (ifc bL ?_ ?_)))
 intro aM bM
 refine cT Z aM (kN (zJ (zY (ZB zw [3,3,3,3,3,3,3,3,3,1,3,3,3,1,3,0,3,0] (wJn gAq) (by kernel_rfl) ?_))))
 have aF:=aY.drew
 generalize hw_W80:({ aL with drawn:=aL.drawn + 1 }:World)=bW at aF ⊢
 refine oM Z ah (oM Z am (oM Z ah (oM Z am (oR Z (ZV Z Z Z) (oM Z ah (oM Z am (oR Z (ZV Z Z Z) (oR Z (ZM Z Z af Z zD zC (wAr ao) (wAs ao)) ?_))))))))
 have bC:=wAt (xs:=O) (wAR ao)
 refine ZD rfl rfl rfl rfl (aF.ldR (j:=0) rfl af rfl rfl zF (wAT (sz:=1) (fun _=>rfl) _ _ 0 _ bC (by first | omega | rfl | simp) rfl)) rfl (zU rfl rfl rfl rfl rfl ah (zU rfl rfl rfl rfl rfl am (ze rfl rfl rfl rfl (fun _=>ZM rfl rfl af rfl zD zC (wAr ag) (wAs ag)) ?_)))
 have bD:=wAt (xs:=O) (wAR ag)
 refine ZD rfl rfl rfl rfl (aF.ldR (j:=0) rfl af rfl rfl zF (wAT (sz:=1) (fun _=>rfl) _ _ 0 _ bD (by first | omega | rfl | simp) rfl)) rfl (ze rfl rfl rfl rfl (fun _=>ZM rfl rfl af rfl zD zC (wAr ag) (wAs ag)) ?_)
 have bF:=wAt (xs:=O) (wAR ag)
 refine yb (j:=0) (vs:=[jV (gd O (w64 (ab - 1)).toNat)]) (cs':=hH KL.encI (nJ O ab.toNat (gd O (w64 (ab - 1)).toNat))) rfl rfl rfl rfl aF rfl af rfl rfl rfl zC (by rw [wAC (f:=KL.encI) (sz:=1) (fun _=>rfl)];have hz:=wAR ag;show _ + 1 <= _;first | omega | (simp only [nK];omega) | (simp only [nI,nG,nH];omega)) rfl (wCK (sz:=1) (fo:=0) (fun _=>rfl) _ _ _ _ bF (by first | omega | (simp only [nK];omega) | (simp only [nI,nG,nH];omega)) (zA rfl) rfl) rfl ?_
 intro be bt
 have bu:SW w [B0] U au [.row ac ae 3 1 (hH KL.encI (nJ O ab.toNat (gd O (w64 (ab - 1)).toNat)))] be:=bt
 refine bnK bM fun _ av bN=>ze rfl rfl rfl rfl (fun _=>ZM rfl (nL (b:=(.slice ac O.length ae:Value)) (c:=(.slice ac ((nJ O ab.toNat (gd O (w64 (ab - 1)).toNat)).length) ae:Value)) rfl (by simp only [nE])) af rfl zD zC (wAr av) (wAs av)) ?_
 have bG:=wAt (xs:=(nJ O ab.toNat (gd O (w64 (ab - 1)).toNat))) (by first | exact wAR av | (have hz:=wAR av;simpa only [nE] using hz))
 refine yb (j:=0) (vs:=[jV (gd O ab.toNat)]) (cs':=hH KL.encI (nJ (nJ O ab.toNat (gd O (w64 (ab - 1)).toNat)) (w64 (ab - 1)).toNat (gd O ab.toNat))) rfl rfl rfl rfl bu rfl af rfl rfl rfl zC (by rw [wAC (f:=KL.encI) (sz:=1) (fun _=>rfl)];have hz:=wAR av;show _ + 1 <= _;first | omega | (simp only [nE];omega) | (simp only [nI,nG,nH,nE];omega) | (simp only [nK];omega) | (simp only [nI,nG,nH];omega)) rfl (wCK (sz:=1) (fo:=0) (fun _=>rfl) _ _ _ _ bG (by first | omega | (simp only [nK];omega) | (simp only [nI,nG,nH];omega)) (zA rfl) rfl) rfl ?_
 intro bf bv
 have bw:SW w [B0] U au [.row ac ae 3 1 (hH KL.encI (nJ (nJ O ab.toNat (gd O (w64 (ab - 1)).toNat)) (w64 (ab - 1)).toNat (gd O ab.toNat)))] bf:=bv
 refine zc (zk (zI (rR fL3 Z (oM Z am (oR Z (ZV Z Z Z) (oA Z Z (zc ?_)))))))
 have q:=hJ bN
 obtain rfl:=q
 exact zI ⟨rfl,_,rfl,⟨au,(nL (b:=(.slice ac ((nJ O ab.toNat (gd O (w64 (ab - 1)).toNat)).length) ae:Value)) (c:=(.slice ac ((nJ (nJ O ab.toNat (gd O (w64 (ab - 1)).toNat)) (w64 (ab - 1)).toNat (gd O ab.toNat)).length) ae:Value)) (nL (b:=(.slice ac O.length ae:Value)) (c:=(.slice ac ((nJ O ab.toNat (gd O (w64 (ab - 1)).toNat)).length) ae:Value)) ah (by simp only [nE])) (by simp only [nE])),az,aO,aE,aP,rfl,(aH.trans ba),bw,((nE.trans nE).trans aQ)⟩⟩
 intro aM bO
 refine cF Z aM (ZQ (zg ?_))
 have q:=wAY bO
 obtain ⟨bS,bP,bi⟩:=q
 have q:=aZ bS bi
 obtain rfl:=q
 refine zg (ZJ (zk (zI (rR fL3 Z (oM Z aP (oR Z (zV Z Z Z) (oA Z Z (zc ?_))))))))
 have q:=hJ bP
 obtain rfl:=q
 exact zI ⟨Z,_,Z,⟨au,ah,az,aO,aE,Z,((aT.trans aH).trans ba),aY,aQ⟩⟩
 have a6:=aS;rw [if_neg aa] at a6;replace aa:=zK aa
 refine oF Z aa (oF Z aa (oF Z aa (oF Z aa (oF Z aa (oF Z aa (oF Z aa (oF Z aa (oF Z aa (oF Z aa (zz Z Z Z (zS Z Z (ZA aa.out) Z) (oF Z aa (oR Z (zd Z (ZA aa.out) Z) (eN (zj Z (ZQ (zg ?_))))))))))))))))
 have q:=wAY a6
 obtain ⟨bQ,bH,bg⟩:=q
 have q:=aZ bQ bg
 obtain rfl:=q
 refine zg (ZJ (zk (zI (rR fL3 Z (oM Z aP (oR Z (zV Z Z Z) (oA Z Z (zc ?_))))))))
 have q:=hJ bH
 obtain rfl:=q
 exact zI ⟨Z,_,Z,⟨bc,ah,az,aO,aE,Z,(aT.trans aH),ap,aQ⟩⟩
 have a7:=aR;rw [if_neg aj] at a7;replace aj:=zK aj
 refine cF Z aj (ZQ (zg ?_))
 have q:=wAY a7
 obtain ⟨bR,bI,bh⟩:=q
 have q:=bz bR bh
 obtain rfl:=q
 refine zg (ZJ ?_)
 have hE:=hJ bI;first | subst r | cases hE
 exact ⟨Z,_,(wDv),aK,_,aX,Z,Z,aW⟩
theorem wBi (p0:List Int) (ae:Option Addr) (af:Nat) (p1:Int) (p2:Int) (p3:Int) (p4:((Int × Int)->Option Int)) (aK:Value) (w:World) (U:PHeap) (hS:St0 w U [.row ae af 3 1 (hH KL.encI p0)]) (bq:FnOK Tryz.prog U aK wMU wMV p4) {r:(List Int)} (hm:wAQ p0 p1 p2 p3 p4=some r):Gv Tryz.prog 143 [.slice ae p0.length af,jV p1,jV p2,jV p3,aK] w (wBl w [.row ae af 3 1 (hH KL.encI p0)] U (fun U_ L_ v=>v=.tuple #[]/\L_=[.row ae af 3 1 (hH KL.encI r)]/\r.length=p0.length)):=by
 unfold wAQ at hm
 refine Gv.of Tryz.func143 Z Tryz.ntmps143 Tryz.results143 Z (sR fL1 Z (oA Z Z (eN (zY (bnK hm fun bu aZ bg=>?_)))))
 have q:=wBE aZ
 obtain ⟨aF,a6⟩:=q
 replace aF:=zK aF
 let B0:Res:=.row ae af 3 1 (hH KL.encI p0)
 refine CK.forN' (fun k8 O σ_ w_=>∃ (U_:PHeap),σ_ 10=jV (↑k8:Int)/\σ_ 0=.slice ae O.length af/\σ_ 1=jV p1/\σ_ 2=jV p2/\σ_ 3=jV p3/\PHeap.Le U U_/\SW w [B0] U U_ [.row ae af 3 1 (hH KL.encI O)] w_/\O.length=p0.length) a6 ?_ ?_ ?_
 exact ⟨U,Z,Z,Z,Z,Z,(zL _),hS,Z⟩
 rintro k8 O bt bv aG aE ⟨ax,am,ao,ay,az,aI,bi,aT,aR⟩ bh
 have aH:Hid ((↑k8:Int) < p3):=zK (wAx aE)
 replace aE:=zK aE
 have bb:Hid (w64 ((↑k8:Int) + 1)=(↑(k8 + 1):Int)):=zK (by have h1:=aF.out;have h2:=aH.out;rw [wAW] <;> omega)
 refine zJ (sR fL3 rfl (zU rfl rfl rfl rfl rfl am (zU rfl rfl rfl rfl rfl aI (ze rfl rfl rfl rfl (fun _=>zT rfl rfl rfl) (eN (cT Z aH (kN (zJ (zY (ZB zw [3,3,3,3,3,3,3,3,3,3,3,3,3,1,3,3,3,3,3,1,3,0,3,0] (wOB (.fx 21 (.fl 22 (.fx 23 .nil .stop)) .stop)) (by kernel_rfl) ?_))))))))))
 have aq:=aT.drew
 generalize hw_W32:({ aG with drawn:=aG.drawn + 1 }:World)=bj at aq ⊢
 refine oM Z ao (oM Z ay (oM Z am (oR Z (zV Z Z Z) (oM Z ao (oM Z az (oM Z am (oR Z (zV Z Z Z) (oM Z ao (oM Z az (oM Z am (oR Z (zV Z Z Z) (bnK bh fun _ au bc=>?_))))))))))))
 obtain ⟨bm,ag⟩:=aq.rowSome (j:=0) rfl (by rw [wAC (f:=KL.encI) (sz:=1) (fun _=>rfl) O];have hz:=wAR au;omega)
 refine oR Z (ZM Z Z ag Z zD zC (wAr au) (wAs au)) ?_
 have a7:=wAt (xs:=O) (wAR au)
 refine ZD rfl rfl rfl rfl (aq.ldR (j:=0) rfl ag rfl rfl zF (wAT (sz:=1) (fun _=>rfl) _ _ 0 _ a7 (by first | omega | rfl | simp) rfl)) rfl (zU rfl rfl rfl rfl rfl ao (zU rfl rfl rfl rfl rfl ay (zU rfl rfl rfl rfl rfl am (ze rfl rfl rfl rfl (fun _=>zV rfl rfl rfl) (bnK bc fun _ ah be=>ze rfl rfl rfl rfl (fun _=>ZM rfl rfl ag rfl zD zC (wAr ah) (wAs ah)) ?_)))))
 have a8:=wAt (xs:=O) (wAR ah)
 refine ZD rfl rfl rfl rfl (aq.ldR (j:=0) rfl ag rfl rfl zF (wAT (sz:=1) (fun _=>rfl) _ _ 0 _ a8 (by first | omega | rfl | simp) rfl)) rfl (ze rfl rfl rfl rfl (fun _=>ZM rfl rfl ag rfl zD zC (wAr ah) (wAs ah)) ?_)
 have a9:=wAt (xs:=O) (wAR ah)
 refine yb (j:=0) (vs:=[jV (gd O (w64 (p2 + (↑k8:Int))).toNat)]) (cs':=hH KL.encI (nJ O (w64 (p1 + (↑k8:Int))).toNat (gd O (w64 (p2 + (↑k8:Int))).toNat))) rfl rfl rfl rfl aq rfl ag rfl rfl rfl zC (by rw [wAC (f:=KL.encI) (sz:=1) (fun _=>rfl)];have hz:=wAR ah;show _ + 1 <= _;first | omega | (simp only [nK];omega) | (simp only [nI,nG,nH];omega)) rfl (wCK (sz:=1) (fo:=0) (fun _=>rfl) _ _ _ _ a9 (by first | omega | (simp only [nK];omega) | (simp only [nI,nG,nH];omega)) (zA rfl) rfl) rfl ?_
 intro aM aU
 have aV:SW w [B0] U ax [.row ae af 3 1 (hH KL.encI (nJ O (w64 (p1 + (↑k8:Int))).toNat (gd O (w64 (p2 + (↑k8:Int))).toNat)))] aM:=aU
 refine bnK be fun _ ap bf=>ze rfl rfl rfl rfl (fun _=>ZM rfl (nL (b:=(.slice ae O.length af:Value)) (c:=(.slice ae ((nJ O (w64 (p1 + (↑k8:Int))).toNat (gd O (w64 (p2 + (↑k8:Int))).toNat)).length) af:Value)) rfl (by simp only [nE])) ag rfl zD zC (wAr ap) (wAs ap)) ?_
 have ba:=wAt (xs:=(nJ O (w64 (p1 + (↑k8:Int))).toNat (gd O (w64 (p2 + (↑k8:Int))).toNat))) (by first | exact wAR ap | (have hz:=wAR ap;simpa only [nE] using hz))
 refine yb (j:=0) (vs:=[jV (gd O (w64 (p1 + (↑k8:Int))).toNat)]) (cs':=hH KL.encI (nJ (nJ O (w64 (p1 + (↑k8:Int))).toNat (gd O (w64 (p2 + (↑k8:Int))).toNat)) (w64 (p2 + (↑k8:Int))).toNat (gd O (w64 (p1 + (↑k8:Int))).toNat))) rfl rfl rfl rfl aV rfl ag rfl rfl rfl zC (by rw [wAC (f:=KL.encI) (sz:=1) (fun _=>rfl)];have hz:=wAR ap;show _ + 1 <= _;first | omega | (simp only [nE];omega) | (simp only [nI,nG,nH,nE];omega) | (simp only [nK];omega) | (simp only [nI,nG,nH];omega)) rfl (wCK (sz:=1) (fo:=0) (fun _=>rfl) _ _ _ _ ba (by first | omega | (simp only [nK];omega) | (simp only [nI,nG,nH];omega)) (zA rfl) rfl) rfl ?_
 intro aN aW
 have aX:SW w [B0] U ax [.row ae af 3 1 (hH KL.encI (nJ (nJ O (w64 (p1 + (↑k8:Int))).toNat (gd O (w64 (p2 + (↑k8:Int))).toNat)) (w64 (p2 + (↑k8:Int))).toNat (gd O (w64 (p1 + (↑k8:Int))).toNat)))] aN:=aW
 refine zc (zk (zI (rR fL3 Z (oM Z am (oR Z (ZI (zV Z Z Z) (congrArg (jV) bb.out)) (oA Z Z (zc ?_)))))))
 cases bf
 exact zI ⟨rfl,⟨ax,rfl,(nL (b:=(.slice ae ((nJ O (w64 (p1 + (↑k8:Int))).toNat (gd O (w64 (p2 + (↑k8:Int))).toNat)).length) af:Value)) (c:=(.slice ae ((nJ (nJ O (w64 (p1 + (↑k8:Int))).toNat (gd O (w64 (p2 + (↑k8:Int))).toNat)) (w64 (p2 + (↑k8:Int))).toNat (gd O (w64 (p1 + (↑k8:Int))).toNat)).length) af:Value)) (nL (b:=(.slice ae O.length af:Value)) (c:=(.slice ae ((nJ O (w64 (p1 + (↑k8:Int))).toNat (gd O (w64 (p2 + (↑k8:Int))).toNat)).length) af:Value)) ao (by simp only [nE])) (by simp only [nE])),ay,az,aI,bi,aX,((nE.trans nE).trans aR)⟩⟩
 rintro bw bk ⟨aL,aQ,bn,bo,bp,aP,br,aY,aS⟩
 have aO:Hid (¬ ((↑((p3:Int) - 0).toNat:Int) < p3)):=zK (wAd)
 refine zJ (sR fL3 Z (oM Z aQ (oM Z aP (oR Z (zT Z Z Z) (eN (cF Z aO (ZQ (zg (zg (ZJ ?_))))))))))
 have hE:=hJ bg;first | subst r | cases hE
 exact ⟨Z,_,(wDv),aL,_,aY,Z,Z,aS⟩
theorem wCu (p0:List Int) (O:Option Addr) (aa:Nat) (p1:Int) (p2:Int) (p3:Int) (p4:((Int × Int)->Option Int)) (am:Value) (w:World) (U:PHeap) (hS:St0 w U [.row O aa 3 1 (hH KL.encI p0)]) (aH:FnOK Tryz.prog U am wMU wMV p4) {r:(List Int)} (hm:wAi p0 p1 p2 p3 p4=some r):Gv Tryz.prog 114 [.slice O p0.length aa,jV p1,jV p2,jV p3,am] w (wBl w [.row O aa 3 1 (hH KL.encI p0)] U (fun U_ L_ v=>v=.tuple #[]/\L_=[.row O aa 3 1 (hH KL.encI r)]/\r.length=p0.length)):=by
 unfold wAi at hm
 refine Gv.of Tryz.func114 Z Tryz.ntmps114 Tryz.results114 Z (sR fL4 Z (oM Z Z (oM Z Z (oR Z (ZV Z Z Z) (oA Z Z (eN (sR fL4 Z (oM Z Z (oM Z Z (oR Z (ZV Z Z Z) (oA Z Z (eN ?_))))))))))))
 have q:=bnd hm
 obtain ⟨⟨l2,x3⟩,bD,aU⟩:=q
 try dsimp only at aU
 let B0:Res:=.row O aa 3 1 (hH KL.encI p0)
 refine yI (fun σ_ w_=>∃ (U_:PHeap),σ_ 0=.slice O l2.length aa/\σ_ 2=jV p2/\σ_ 4=am/\σ_ 10=jV x3/\PHeap.Le U U_/\SW w [B0] U U_ [.row O aa 3 1 (hH KL.encI l2)] w_/\l2.length=p0.length) ?_ ?_
 refine zY (yl (fun (af,an,ax) σ_ w_=>∃ (U_:PHeap),σ_ 0=.slice O af.length aa/\σ_ 2=jV p2/\σ_ 4=am/\σ_ 10=jV an/\σ_ 11=jV ax/\PHeap.Le U U_/\SW w [B0] U U_ [.row O aa 3 1 (hH KL.encI af)] w_/\af.length=p0.length) bD ?_ ?_)
 exact ⟨U,Z,Z,Z,Z,Z,(zL _),hS,Z⟩
 rintro ⟨af,an,ax⟩ bR bS aN ⟨az,ap,ah,aq,ab,aj,au,aG,aF⟩ aI bv
 try dsimp only at aI
 refine zJ (sR fL3 Z (oM Z ab (oM Z aj (oR Z (Zb Z Z Z) (eN ?_)))))
 by_cases ae:an=ax
 have aS:=aI;rw [if_pos ae] at aS;replace ae:=zK ae
 refine zj (ZA (fun h=>h ae.out)) (ZQ (zg ?_))
 have q:=wAY aS
 obtain ⟨bI,bw,ba⟩:=q
 have q:=bv bI ba
 obtain rfl:=q
 refine zg (ZJ ?_)
 cases bw
 exact zI ⟨Z,⟨az,ap,ah,aq,ab,au,aG,aF⟩⟩
 have aT:=aI;rw [if_neg ae] at aT;replace ae:=zK ae
 refine cT Z ae (kN (zY (sR fL3 Z (oM Z ab (oM Z aj (oR Z (ye Z Z Z) (eN (ifc aT ?_ ?_))))))))
 intro aE bx
 refine cT Z aE (sR (wJK (.fx 7 .nil .stop)) Z (oM Z ap (oM Z ah (oM Z ab (oR Z (ZV Z Z Z) (oM Z ah (oM Z aj (oM Z aq ?_))))))))
 have be:=aH.le au
 refine bnK bx fun aX bf bz=>zG 1 Z Z Z Z (zH Z Z Tryz.call143 (zB Z (zB Z (zB Z (zB Z (zB Z zN))))) Z) aG (fun hs=>wBi af O aa (w64 (p2 - an)) p2 ax p4 am aN az hs be bf) (.inl Z) ?_
 rintro aK bK bO a6 bF bn ⟨rfl,rfl,aQ⟩
 have bo:SW w [B0] U aK [.row O aa 3 1 (hH KL.encI aX)] a6:=bn
 refine eN (rR fL4 Z (oM Z ab (oM Z aj (oR Z (ZV Z Z Z) (oA Z Z (zc (zk ?_)))))))
 have q:=hJ bz
 obtain rfl:=q
 exact zI ⟨rfl,_,rfl,⟨aK,(nL (b:=(.slice O af.length aa:Value)) (c:=(.slice O aX.length aa:Value)) ap (by rw [aQ])),ah,aq,rfl,aj,(au.trans bF),bo,(aQ.trans aF)⟩⟩
 intro aE bA
 refine cF Z aE (sR (wJm (.fx 11 .nil .stop)) Z (oM Z ap (oM Z ah (oM Z ab (oR Z (ZV Z Z Z) (oM Z ah (oM Z aj (oR Z (zV Z Z Z) (oM Z ab (oR Z (ZV Z Z Z) (oM Z ab (oM Z aq ?_))))))))))))
 have bg:=aH.le au
 refine bnK bA fun aY bh bB=>zG 1 Z Z Z Z (zH Z Z Tryz.call143 (zB Z (zB Z (zB Z (zB Z (zB Z zN))))) Z) aG (fun hs=>wBi af O aa (w64 (p2 - an)) (w64 ((w64 (p2 + ax)) - an)) an p4 am aN az hs bg bh) (.inl Z) ?_
 rintro aL bL bP a7 bG bp ⟨rfl,rfl,aR⟩
 have bq:SW w [B0] U aL [.row O aa 3 1 (hH KL.encI aY)] a7:=bp
 refine eN (rR fL4 Z (oM Z aj (oM Z ab (oR Z (ZV Z Z Z) (oA Z Z (zc (zk ?_)))))))
 have q:=hJ bB
 obtain rfl:=q
 exact zI ⟨rfl,_,rfl,⟨aL,(nL (b:=(.slice O af.length aa:Value)) (c:=(.slice O aY.length aa:Value)) ap (by rw [aR])),ah,aq,ab,rfl,(au.trans bG),bq,(aR.trans aF)⟩⟩
 rintro bT a8 ⟨aZ,bb,aO,bc,aP,bH,br,bi⟩
 refine rR (wJK (.fx 7 .nil .stop)) Z (oM Z bb (oM Z aO (oM Z aP (oR Z (ZV Z Z Z) (oM Z aO (oM Z aP (oM Z bc ?_)))))))
 have bj:=aH.le bH
 refine bnK aU fun bJ bk bC=>zG 1 Z Z Z Z (zH Z Z Tryz.call143 (zB Z (zB Z (zB Z (zB Z (zB Z zN))))) Z) br (fun hs=>wBi l2 O aa (w64 (p2 - x3)) p2 x3 p4 am a8 aZ hs bj bk) (.inl Z) ?_
 rintro aM bM bQ a9 bN bt ⟨rfl,rfl,bm⟩
 have bu:SW w [B0] U aM [.row O aa 3 1 (hH KL.encI bJ)] a9:=bt
 refine zc ?_
 have hE:=hJ bC;first | subst r | cases hE
 exact ⟨Z,_,(wDv),aM,_,bu,Z,Z,(bm.trans bi)⟩
theorem wCi (n_:Nat):∀ (p0:List Int) (O:Option Addr) (aa:Nat) (p1:Int) (p2:Int) (p3:Int) (p4:((Int × Int)->Option Int)) (aj:Value) (w:World) (U:PHeap) (hS:St0 w U [.row O aa 3 1 (hH KL.encI p0)]) (aJ:FnOK Tryz.prog U aj wMU wMV p4) {r:(List Int)} (hm:wAS n_ p0 p1 p2 p3 p4=some r),Gv Tryz.prog 90 [.slice O p0.length aa,jV p1,jV p2,jV p3,aj] w (wBl w [.row O aa 3 1 (hH KL.encI p0)] U (fun U_ L_ v=>v=.tuple #[]/\L_=[.row O aa 3 1 (hH KL.encI r)]/\r.length=p0.length)):=by
 induction n_ with
 | zero =>
  intros
  rename_i hm
  have lX:(none:Option ((List Int)))=some _:=hm
  cases lX
 | succ n_ ih =>
  intro p0 O aa p1 p2 p3 p4 aj w U hS aJ r hm
  have hm:wAo (wAS n_) p0 p1 p2 p3 p4=some r:=hm
  unfold wAo at hm
  refine Gv.of Tryz.func90 Z Tryz.ntmps90 Tryz.results90 Z (zJ (sR fL4 Z (oM Z Z (oM Z Z (oR Z (ZV Z Z Z) (oR Z (yO Z Z Z) (eN ?_)))))))
  by_cases c2:(w64 (p2 - p1))=1
  ·have gm:=hm;rw [if_pos c2] at gm;replace c2:=zK c2
   refine cT Z c2 (sR fL2 Z (oM Z Z (oA Z Z (eN (sR fL2 Z (oM Z Z (oA Z Z (eN (bnK gm fun x4 pG oW=>?_)))))))))
   let B0:Res:=.row O aa 3 1 (hH KL.encI p0)
   refine yI (fun σ_ w_=>∃ (U_:PHeap),σ_ 0=.slice O p0.length aa/\σ_ 1=jV p1/\σ_ 10=jV x4/\PHeap.Le U U_/\SW w [B0] U U_ [B0] w_) ?_ ?_
   ·refine zY (yl (fun (dg,dh) σ_ w_=>∃ (U_:PHeap),σ_ 0=.slice O p0.length aa/\σ_ 1=jV p1/\σ_ 4=aj/\σ_ 10=jV dg/\σ_ 11=jV dh/\PHeap.Le U U_/\SW w [B0] U U_ [B0] w_) pG ?_ ?_)
    ·exact ⟨U,Z,Z,Z,Z,Z,(zL _),hS⟩
    ·rintro ⟨dg,dh⟩ rK rQ fj ⟨gM,bK,cq,dW,cu,dZ,cX,fZ⟩ eF lC
     try dsimp only at eF
     refine zJ (sR fL3 Z (oM Z cu (oM Z dZ (oR Z (zT Z Z Z) (eN ?_)))))
     by_cases bq:dg < dh
     ·have gq:=eF;rw [if_pos bq] at gq;replace bq:=zK bq
      refine cT Z bq (kN (zY (sR fL7 rfl (zU rfl rfl rfl rfl rfl cu (zU rfl rfl rfl rfl rfl dZ (ze rfl rfl rfl rfl (fun _=>zV rfl rfl rfl) (ze rfl rfl rfl rfl (fun _=>Runs.cv64 rfl rfl Ze Zl rfl rfl) (ze rfl rfl rfl rfl (fun _=>Runs.shr1 rfl rfl rfl) (ze rfl rfl rfl rfl (fun _=>Runs.cvw rfl rfl Zl Ze rfl rfl) (Zy rfl rfl rfl rfl rfl rfl (eN (zJ (ZB zw [3,3,3,3,1,3,3,3,1,2,3] (wMs (.fx 9 (.fl 10 .nil) .stop)) (by kernel_rfl) ?_)))))))))))))
      have bT:=fZ.drew
      generalize hw_W34:({ fj with drawn:=fj.drawn + 1 }:World)=qE at bT ⊢
      refine oM Z dW (oM Z bK (oM Z Z (bnK gq fun _ cJ mz=>?_)))
      obtain ⟨qN,cU⟩:=bT.rowSome (j:=0) rfl (by rw [wAC (f:=KL.encI) (sz:=1) (fun _=>rfl) p0];have hz:=wAR cJ;omega)
      refine oR Z (ZM Z Z cU Z zD zC (wAr cJ) (wAs cJ)) ?_
      have lT:=wAt (xs:=p0) (wAR cJ)
      refine ZD rfl rfl rfl rfl (bT.ldR (j:=0) rfl cU rfl rfl zF (wAT (sz:=1) (fun _=>rfl) _ _ 0 _ lT (by first | omega | rfl | simp) rfl)) rfl (zU rfl rfl rfl rfl rfl bK (zU rfl rfl rfl rfl rfl cq (bnK mz fun _ ej mL=>ze rfl rfl rfl rfl (fun _=>ZM rfl rfl cU rfl zD zC (wAr ej) (wAs ej)) ?_)))
      have lU:=wAt (xs:=p0) (wAR ej)
      refine ZD rfl rfl rfl rfl (bT.ldR (j:=0) rfl cU rfl rfl zF (wAT (sz:=1) (fun _=>rfl) _ _ 0 _ lU (by first | omega | rfl | simp) rfl)) rfl (bnK mL fun rH iV mZ=>?_)
      have jg:=aJ.le cX
      refine yf (a:=((gd p0 (w64 ((wAf (w64 (dg + dh))) / 2)).toNat),(gd p0 p1.toNat))) Z Z Z Z Z Z (zB Z (zB Z zN)) bT jg Z iV ?_
      rintro dm qm rn g6 gI k9 ⟨rfl,rfl⟩
      have f7:SW w [B0] U dm [B0] g6:=k9
      refine oR Z (zT Z Z Z) (eN (ifc mZ ?_ ?_))
      ·intro dE og
       refine cT Z dE (rR fL3 Z (oM Z Z (oR Z (zV Z Z Z) (oA Z Z (zc (zk ?_))))))
       have q:=hJ og
       obtain rfl:=q
       exact zI ⟨Z,_,Z,⟨dm,bK,cq,dW,Z,dZ,(cX.trans gI),f7⟩⟩
      ·intro dE oo
       refine cF Z dE (rR fL2 Z (oM Z Z (oA Z Z (zc (zk ?_)))))
       have q:=hJ oo
       obtain rfl:=q
       exact zI ⟨Z,_,Z,⟨dm,bK,cq,dW,cu,Z,(cX.trans gI),f7⟩⟩
     ·have gB:=eF;rw [if_neg bq] at gB;replace bq:=zK bq
      refine cF Z bq (ZQ (zg ?_))
      have q:=wAY gB
      obtain ⟨pT,ow,ir⟩:=q
      have q:=lC pT ir
      obtain rfl:=q
      refine zg (ZJ ?_)
      cases ow
      exact zI ⟨Z,⟨gM,bK,cq,cu,cX,fZ⟩⟩
   ·rintro r7 qH ⟨fb,iC,iD,iE,qY,lm⟩
    refine zJ (sR fL2 Z (oM Z iD (oA Z Z (eN (zY (yl (fun (ah,an) σ_ w_=>∃ (U_:PHeap),σ_ 0=.slice O ah.length aa/\σ_ 10=jV x4/\σ_ 13=jV an/\PHeap.Le fb U_/\SW w [B0] U U_ [.row O aa 3 1 (hH KL.encI ah)] w_/\ah.length=p0.length) oW ?_ ?_))))))
    ·exact ⟨fb,iC,iE,Z,(zL _),lm,Z⟩
    ·rintro ⟨ah,an⟩ rO r8 fz ⟨cg,bN,fO,bH,pN,gb,fU⟩ eJ lG
     try dsimp only at eJ
     refine zJ (sR fL4 Z (oM Z bH (oM Z fO (oR Z (ZV Z Z Z) (oR Z (zT Z Z Z) (eN ?_))))))
     by_cases bt:an < (w64 (x4 - 1))
     ·have gC:=eJ;rw [if_pos bt] at gC;replace bt:=zK bt
      refine cT Z bt (kN (zJ (zY (ZB zw [3,3,3,3,3,3,3,3,3,1,3,3,3,1,3,0,3,0] (wJn gAq) (by kernel_rfl) ?_))))
      have bV:=gb.drew
      generalize hw_W99:({ fz with drawn:=fz.drawn + 1 }:World)=qI at bV ⊢
      refine oM Z bN (oM Z bH (oM Z bN (oM Z bH (oR Z (zV Z Z Z) (oM Z bN (oM Z bH (oR Z (zV Z Z Z) (bnK gC fun _ cE lY=>?_))))))))
      obtain ⟨qJ,bu⟩:=bV.rowSome (j:=0) rfl (by rw [wAC (f:=KL.encI) (sz:=1) (fun _=>rfl) ah];have hz:=wAR cE;omega)
      refine oR Z (ZM Z Z bu Z zD zC (wAr cE) (wAs cE)) ?_
      have lH:=wAt (xs:=ah) (wAR cE)
      refine ZD rfl rfl rfl rfl (bV.ldR (j:=0) rfl bu rfl rfl zF (wAT (sz:=1) (fun _=>rfl) _ _ 0 _ lH (by first | omega | rfl | simp) rfl)) rfl (zU rfl rfl rfl rfl rfl bN (zU rfl rfl rfl rfl rfl bH (bnK lY fun _ bB lZ=>ze rfl rfl rfl rfl (fun _=>ZM rfl rfl bu rfl zD zC (wAr bB) (wAs bB)) ?_)))
      have lI:=wAt (xs:=ah) (wAR bB)
      refine ZD rfl rfl rfl rfl (bV.ldR (j:=0) rfl bu rfl rfl zF (wAT (sz:=1) (fun _=>rfl) _ _ 0 _ lI (by first | omega | rfl | simp) rfl)) rfl (ze rfl rfl rfl rfl (fun _=>ZM rfl rfl bu rfl zD zC (wAr bB) (wAs bB)) ?_)
      have lJ:=wAt (xs:=ah) (wAR bB)
      refine yb (j:=0) (vs:=[jV (gd ah (w64 (an + 1)).toNat)]) (cs':=hH KL.encI (nJ ah an.toNat (gd ah (w64 (an + 1)).toNat))) rfl rfl rfl rfl bV rfl bu rfl rfl rfl zC (by rw [wAC (f:=KL.encI) (sz:=1) (fun _=>rfl)];have hz:=wAR bB;show _ + 1 <= _;first | omega | (simp only [nK];omega) | (simp only [nI,nG,nH];omega)) rfl (wCK (sz:=1) (fo:=0) (fun _=>rfl) _ _ _ _ lJ (by first | omega | (simp only [nK];omega) | (simp only [nI,nG,nH];omega)) (zA rfl) rfl) rfl ?_
      intro gP jK
      have jL:SW w [B0] U cg [.row O aa 3 1 (hH KL.encI (nJ ah an.toNat (gd ah (w64 (an + 1)).toNat)))] gP:=jK
      refine bnK lZ fun _ bO l0=>ze rfl rfl rfl rfl (fun _=>ZM rfl (nL (b:=(.slice O ah.length aa:Value)) (c:=(.slice O ((nJ ah an.toNat (gd ah (w64 (an + 1)).toNat)).length) aa:Value)) rfl (by simp only [nE])) bu rfl zD zC (wAr bO) (wAs bO)) ?_
      have lK:=wAt (xs:=(nJ ah an.toNat (gd ah (w64 (an + 1)).toNat))) (by first | exact wAR bO | (have hz:=wAR bO;simpa only [nE] using hz))
      refine yb (j:=0) (vs:=[jV (gd ah an.toNat)]) (cs':=hH KL.encI (nJ (nJ ah an.toNat (gd ah (w64 (an + 1)).toNat)) (w64 (an + 1)).toNat (gd ah an.toNat))) rfl rfl rfl rfl jL rfl bu rfl rfl rfl zC (by rw [wAC (f:=KL.encI) (sz:=1) (fun _=>rfl)];have hz:=wAR bO;show _ + 1 <= _;first | omega | (simp only [nE];omega) | (simp only [nI,nG,nH,nE];omega) | (simp only [nK];omega) | (simp only [nI,nG,nH];omega)) rfl (wCK (sz:=1) (fo:=0) (fun _=>rfl) _ _ _ _ lK (by first | omega | (simp only [nK];omega) | (simp only [nI,nG,nH];omega)) (zA rfl) rfl) rfl ?_
      intro gQ jM
      have jN:SW w [B0] U cg [.row O aa 3 1 (hH KL.encI (nJ (nJ ah an.toNat (gd ah (w64 (an + 1)).toNat)) (w64 (an + 1)).toNat (gd ah an.toNat)))] gQ:=jM
      refine zc (zk (zI (rR fL3 Z (oM Z bH (oR Z (zV Z Z Z) (oA Z Z (zc ?_)))))))
      have q:=hJ l0
      obtain rfl:=q
      exact zI ⟨rfl,_,rfl,⟨cg,(nL (b:=(.slice O ((nJ ah an.toNat (gd ah (w64 (an + 1)).toNat)).length) aa:Value)) (c:=(.slice O ((nJ (nJ ah an.toNat (gd ah (w64 (an + 1)).toNat)) (w64 (an + 1)).toNat (gd ah an.toNat)).length) aa:Value)) (nL (b:=(.slice O ah.length aa:Value)) (c:=(.slice O ((nJ ah an.toNat (gd ah (w64 (an + 1)).toNat)).length) aa:Value)) bN (by simp only [nE])) (by simp only [nE])),fO,rfl,pN,jN,((nE.trans nE).trans fU)⟩⟩
     ·have ge:=eJ;rw [if_neg bt] at ge;replace bt:=zK bt
      refine cF Z bt (ZQ (zg ?_))
      have q:=wAY ge
      obtain ⟨pO,l4,il⟩:=q
      have q:=lG pO il
      obtain rfl:=q
      refine zg (ZJ (zI (zR (zW ?_))))
      have hE:=hJ l4;first | subst r | cases hE
      exact ⟨Z,_,(wDv),cg,_,gb,Z,Z,fU⟩
  ·have gf:=hm;rw [if_neg c2] at gf;replace c2:=zK c2
   refine cF Z c2 (kN (zJ (sR fL4 Z (oM Z Z (oM Z Z (oR Z (ZV Z Z Z) (oR Z (yO Z Z Z) (eN (ifc gf ?_ ?_)))))))))
   ·intro dq l5
    refine cT Z dq (sR fL2 Z (oM Z Z (oA Z Z (eN (sR fL2 Z (oM Z Z (oA Z Z (eN (bnK l5 fun eO pC l6=>?_)))))))))
    let B1:Res:=.row O aa 3 1 (hH KL.encI p0)
    refine yI (fun σ_ w_=>∃ (U_:PHeap),σ_ 0=.slice O p0.length aa/\σ_ 2=jV p2/\σ_ 14=jV eO/\PHeap.Le U U_/\SW w [B1] U U_ [B1] w_) ?_ ?_
    ·refine zY (yl (fun (de,df) σ_ w_=>∃ (U_:PHeap),σ_ 0=.slice O p0.length aa/\σ_ 2=jV p2/\σ_ 4=aj/\σ_ 14=jV de/\σ_ 15=jV df/\PHeap.Le U U_/\SW w [B1] U U_ [B1] w_) pC ?_ ?_)
     ·exact ⟨U,Z,Z,Z,Z,Z,(zL _),hS⟩
     ·rintro ⟨de,df⟩ rJ rP fh ⟨gL,bI,co,dP,cp,dQ,cW,fV⟩ eE lB
      try dsimp only at eE
      refine zJ (sR fL3 Z (oM Z cp (oM Z dQ (oR Z (zT Z Z Z) (eN ?_)))))
      by_cases bm:de < df
      ·have gg:=eE;rw [if_pos bm] at gg;replace bm:=zK bm
       refine cT Z bm (kN (zY (sR fL7 rfl (zU rfl rfl rfl rfl rfl cp (zU rfl rfl rfl rfl rfl dQ (ze rfl rfl rfl rfl (fun _=>zV rfl rfl rfl) (ze rfl rfl rfl rfl (fun _=>Runs.cv64 rfl rfl Ze Zl rfl rfl) (ze rfl rfl rfl rfl (fun _=>Runs.shr1 rfl rfl rfl) (ze rfl rfl rfl rfl (fun _=>Runs.cvw rfl rfl Zl Ze rfl rfl) (Zy rfl rfl rfl rfl rfl rfl (eN (zJ (ZB zw [3,3,3,3,1,3,3,3,1,2,3,3] (wMs (.fx 9 (.fl 10 (.fl 11 .nil)) .stop)) (by kernel_rfl) ?_)))))))))))))
       have bQ:=fV.drew
       generalize hw_W157:({ fh with drawn:=fh.drawn + 1 }:World)=qz at bQ ⊢
       refine oM Z dP (oM Z bI (oM Z co (bnK gg fun _ cG ma=>?_)))
       obtain ⟨qK,cR⟩:=bQ.rowSome (j:=0) rfl (by rw [wAC (f:=KL.encI) (sz:=1) (fun _=>rfl) p0];have hz:=wAR cG;omega)
       refine oR Z (ZM Z Z cR Z zD zC (wAr cG) (wAs cG)) ?_
       have lL:=wAt (xs:=p0) (wAR cG)
       refine ZD rfl rfl rfl rfl (bQ.ldR (j:=0) rfl cR rfl rfl zF (wAT (sz:=1) (fun _=>rfl) _ _ 0 _ lL (by first | omega | rfl | simp) rfl)) rfl (zU rfl rfl rfl rfl rfl bI (zU rfl rfl rfl rfl rfl rfl (bnK ma fun _ eg mb=>ze rfl rfl rfl rfl (fun _=>ZM rfl rfl cR rfl zD zC (wAr eg) (wAs eg)) ?_)))
       have lM:=wAt (xs:=p0) (wAR eg)
       refine ZD rfl rfl rfl rfl (bQ.ldR (j:=0) rfl cR rfl rfl zF (wAT (sz:=1) (fun _=>rfl) _ _ 0 _ lM (by first | omega | rfl | simp) rfl)) rfl (bnK mb fun rF iF mc=>?_)
       have iG:=aJ.le cW
       refine yf (a:=((gd p0 p2.toNat),(gd p0 (w64 ((wAf (w64 (de + df))) / 2)).toNat))) Z Z Z Z Z Z (zB Z (zB Z zN)) bQ iG Z iF ?_
       rintro di qb q8 gR gG jO ⟨rfl,rfl⟩
       have fW:SW w [B1] U di [B1] gR:=jO
       refine oR Z (zT Z Z Z) (oR Z (Runs.notP Z Z) (eN (ifc mc ?_ ?_)))
       ·intro dr md
        refine zj (ZA (fun h=>h dr.out)) (rR fL2 Z (oM Z Z (oA Z Z (zc (zk ?_)))))
        have q:=hJ md
        obtain rfl:=q
        exact zI ⟨Z,_,Z,⟨di,bI,co,dP,cp,Z,(cW.trans gG),fW⟩⟩
       ·intro dr me
        refine cT Z dr (rR fL3 Z (oM Z Z (oR Z (zV Z Z Z) (oA Z Z (zc (zk ?_))))))
        have q:=hJ me
        obtain rfl:=q
        exact zI ⟨Z,_,Z,⟨di,bI,co,dP,Z,dQ,(cW.trans gG),fW⟩⟩
      ·have gh:=eE;rw [if_neg bm] at gh;replace bm:=zK bm
       refine cF Z bm (ZQ (zg ?_))
       have q:=wAY gh
       obtain ⟨pP,mf,im⟩:=q
       have q:=lB pP im
       obtain rfl:=q
       refine zg (ZJ ?_)
       cases mf
       exact zI ⟨Z,⟨gL,bI,co,cp,cW,fV⟩⟩
    ·rintro rS qA ⟨eV,it,iu,iv,qP,jP⟩
     refine zJ (sR fL2 Z (oM Z iu (oA Z Z (eN (zY (yl (fun (ag,am) σ_ w_=>∃ (U_:PHeap),σ_ 0=.slice O ag.length aa/\σ_ 14=jV eO/\σ_ 17=jV am/\PHeap.Le eV U_/\SW w [B1] U U_ [.row O aa 3 1 (hH KL.encI ag)] w_/\ag.length=p0.length) l6 ?_ ?_))))))
     ·exact ⟨eV,it,iv,Z,(zL _),jP,Z⟩
     ·rintro ⟨ag,am⟩ rL rT fk ⟨ca,bJ,fA,bG,pH,fY,fP⟩ eG lD
      try dsimp only at eG
      refine zJ (sR fL3 Z (oM Z bG (oM Z fA (oR Z (ye Z Z Z) (eN ?_)))))
      by_cases bo:eO < am
      ·have gi:=eG;rw [if_pos bo] at gi;replace bo:=zK bo
       refine cT Z bo (kN (zJ (zY (ZB zw [3,3,3,3,3,3,3,3,3,1,3,3,3,1,3,0,3,0] (wJn gAq) (by kernel_rfl) ?_))))
       have bR:=fY.drew
       generalize hw_W222:({ fk with drawn:=fk.drawn + 1 }:World)=qB at bR ⊢
       refine oM Z bJ (oM Z bG (oM Z bJ (oM Z bG (oR Z (ZV Z Z Z) (oM Z bJ (oM Z bG (oR Z (ZV Z Z Z) (bnK gi fun _ cH mg=>?_))))))))
       obtain ⟨qL,bv⟩:=bR.rowSome (j:=0) rfl (by rw [wAC (f:=KL.encI) (sz:=1) (fun _=>rfl) ag];have hz:=wAR cH;omega)
       refine oR Z (ZM Z Z bv Z zD zC (wAr cH) (wAs cH)) ?_
       have lN:=wAt (xs:=ag) (wAR cH)
       refine ZD rfl rfl rfl rfl (bR.ldR (j:=0) rfl bv rfl rfl zF (wAT (sz:=1) (fun _=>rfl) _ _ 0 _ lN (by first | omega | rfl | simp) rfl)) rfl (zU rfl rfl rfl rfl rfl bJ (zU rfl rfl rfl rfl rfl bG (bnK mg fun _ bC mh=>ze rfl rfl rfl rfl (fun _=>ZM rfl rfl bv rfl zD zC (wAr bC) (wAs bC)) ?_)))
       have lO:=wAt (xs:=ag) (wAR bC)
       refine ZD rfl rfl rfl rfl (bR.ldR (j:=0) rfl bv rfl rfl zF (wAT (sz:=1) (fun _=>rfl) _ _ 0 _ lO (by first | omega | rfl | simp) rfl)) rfl (ze rfl rfl rfl rfl (fun _=>ZM rfl rfl bv rfl zD zC (wAr bC) (wAs bC)) ?_)
       have lP:=wAt (xs:=ag) (wAR bC)
       refine yb (j:=0) (vs:=[jV (gd ag (w64 (am - 1)).toNat)]) (cs':=hH KL.encI (nJ ag am.toNat (gd ag (w64 (am - 1)).toNat))) rfl rfl rfl rfl bR rfl bv rfl rfl rfl zC (by rw [wAC (f:=KL.encI) (sz:=1) (fun _=>rfl)];have hz:=wAR bC;show _ + 1 <= _;first | omega | (simp only [nK];omega) | (simp only [nI,nG,nH];omega)) rfl (wCK (sz:=1) (fo:=0) (fun _=>rfl) _ _ _ _ lP (by first | omega | (simp only [nK];omega) | (simp only [nI,nG,nH];omega)) (zA rfl) rfl) rfl ?_
       intro gS jQ
       have jR:SW w [B1] U ca [.row O aa 3 1 (hH KL.encI (nJ ag am.toNat (gd ag (w64 (am - 1)).toNat)))] gS:=jQ
       refine bnK mh fun _ bP mi=>ze rfl rfl rfl rfl (fun _=>ZM rfl (nL (b:=(.slice O ag.length aa:Value)) (c:=(.slice O ((nJ ag am.toNat (gd ag (w64 (am - 1)).toNat)).length) aa:Value)) rfl (by simp only [nE])) bv rfl zD zC (wAr bP) (wAs bP)) ?_
       have lQ:=wAt (xs:=(nJ ag am.toNat (gd ag (w64 (am - 1)).toNat))) (by first | exact wAR bP | (have hz:=wAR bP;simpa only [nE] using hz))
       refine yb (j:=0) (vs:=[jV (gd ag am.toNat)]) (cs':=hH KL.encI (nJ (nJ ag am.toNat (gd ag (w64 (am - 1)).toNat)) (w64 (am - 1)).toNat (gd ag am.toNat))) rfl rfl rfl rfl jR rfl bv rfl rfl rfl zC (by rw [wAC (f:=KL.encI) (sz:=1) (fun _=>rfl)];have hz:=wAR bP;show _ + 1 <= _;first | omega | (simp only [nE];omega) | (simp only [nI,nG,nH,nE];omega) | (simp only [nK];omega) | (simp only [nI,nG,nH];omega)) rfl (wCK (sz:=1) (fo:=0) (fun _=>rfl) _ _ _ _ lQ (by first | omega | (simp only [nK];omega) | (simp only [nI,nG,nH];omega)) (zA rfl) rfl) rfl ?_
       intro gT jS
       have jT:SW w [B1] U ca [.row O aa 3 1 (hH KL.encI (nJ (nJ ag am.toNat (gd ag (w64 (am - 1)).toNat)) (w64 (am - 1)).toNat (gd ag am.toNat)))] gT:=jS
       refine zc (zk (zI (rR fL3 Z (oM Z bG (oR Z (ZV Z Z Z) (oA Z Z (zc ?_)))))))
       have q:=hJ mi
       obtain rfl:=q
       exact zI ⟨rfl,_,rfl,⟨ca,(nL (b:=(.slice O ((nJ ag am.toNat (gd ag (w64 (am - 1)).toNat)).length) aa:Value)) (c:=(.slice O ((nJ (nJ ag am.toNat (gd ag (w64 (am - 1)).toNat)) (w64 (am - 1)).toNat (gd ag am.toNat)).length) aa:Value)) (nL (b:=(.slice O ag.length aa:Value)) (c:=(.slice O ((nJ ag am.toNat (gd ag (w64 (am - 1)).toNat)).length) aa:Value)) bJ (by simp only [nE])) (by simp only [nE])),fA,rfl,pH,jT,((nE.trans nE).trans fP)⟩⟩
      ·have gj:=eG;rw [if_neg bo] at gj;replace bo:=zK bo
       refine cF Z bo (ZQ (zg ?_))
       have q:=wAY gj
       obtain ⟨pQ,mj,io⟩:=q
       have q:=lD pQ io
       obtain rfl:=q
       refine zg (ZJ (zI (zR (zW ?_))))
       have hE:=hJ mj;first | subst r | cases hE
       exact ⟨Z,_,(wDv),ca,_,fY,Z,Z,fP⟩
   ·intro dq ml
    refine cF Z dq (kN (sR fL7 Z (oM Z Z (oM Z Z (oR Z (zV Z Z Z) (oR Z (Runs.cv64 Z Z Ze Zl Z Z) (oR Z (Runs.shr1 Z Z Z) (oR Z (Runs.cvw Z Z Zl Ze Z Z) (oA Z Z (eN (sR fL4 Z (oM Z Z (oM Z Z (oR Z (zV Z Z Z) (oA Z Z (eN (sR fL2 Z (oA Z Z (oA Z Z (eN (zJ (sR fL3 Z (oM Z Z (oM Z Z (oR Z (ye Z Z Z) (eN (ifc ml ?_ ?_)))))))))))))))))))))))))))
    ·intro dt mm
     refine cT Z dt (sR fL4 Z (oM Z Z (oM Z Z (oR Z (ZV Z Z Z) (oA Z Z (eN (rR fL2 Z (oM Z Z (oA Z Z (eN (sR fL3 Z (oM Z Z (oR Z (ZV Z Z Z) (oA Z Z (eN (bnK mm fun aF pE mn=>?_))))))))))))))))
     let B2:Res:=.row O aa 3 1 (hH KL.encI p0)
     refine yI (fun σ_ w_=>∃ (U_:PHeap),σ_ 0=.slice O p0.length aa/\σ_ 1=jV p1/\σ_ 2=jV p2/\σ_ 3=jV p3/\σ_ 4=aj/\σ_ 18=jV (w64 ((wAf (w64 (p1 + p3))) / 2))/\σ_ 19=jV (w64 ((w64 ((wAf (w64 (p1 + p3))) / 2)) + p2))/\σ_ 20=jV aF/\PHeap.Le U U_/\SW w [B2] U U_ [B2] w_) ?_ ?_
     ·refine zY (yl (fun (bW,bX) σ_ w_=>∃ (U_:PHeap),σ_ 0=.slice O p0.length aa/\σ_ 1=jV p1/\σ_ 2=jV p2/\σ_ 3=jV p3/\σ_ 4=aj/\σ_ 18=jV (w64 ((wAf (w64 (p1 + p3))) / 2))/\σ_ 19=jV (w64 ((w64 ((wAf (w64 (p1 + p3))) / 2)) + p2))/\σ_ 20=jV bW/\σ_ 21=jV bX/\σ_ 22=jV (w64 ((w64 ((w64 ((wAf (w64 (p1 + p3))) / 2)) + p2)) - 1))/\PHeap.Le U U_/\SW w [B2] U U_ [B2] w_) pE ?_ ?_)
      ·exact ⟨U,Z,Z,Z,Z,Z,Z,Z,Z,Z,Z,(zL _),hS⟩
      ·rintro ⟨bW,bX⟩ rM rV fm ⟨gN,bL,dR,dS,dT,cr,dU,dV,ct,dX,dY,cY,f4⟩ eH lE
       try dsimp only at eH
       refine zJ (sR fL3 Z (oM Z ct (oM Z dX (oR Z (zT Z Z Z) (eN ?_)))))
       by_cases bp:bW < bX
       ·have gk:=eH;rw [if_pos bp] at gk;replace bp:=zK bp
        refine cT Z bp (kN (zY (sR fL7 rfl (zU rfl rfl rfl rfl rfl ct (zU rfl rfl rfl rfl rfl dX (ze rfl rfl rfl rfl (fun _=>zV rfl rfl rfl) (ze rfl rfl rfl rfl (fun _=>Runs.cv64 rfl rfl Ze Zl rfl rfl) (ze rfl rfl rfl rfl (fun _=>Runs.shr1 rfl rfl rfl) (ze rfl rfl rfl rfl (fun _=>Runs.cvw rfl rfl Zl Ze rfl rfl) (Zy rfl rfl rfl rfl rfl rfl (eN (zJ (ZB zw [3,3,3,3,3,3,1,3,3,3,1,2,3,3] (wJm gAr) (by kernel_rfl) ?_)))))))))))))
        have bS:=f4.drew
        generalize hw_W285:({ fm with drawn:=fm.drawn + 1 }:World)=qC at bS ⊢
        refine oM Z cr (oM Z bL (oM Z dY (oM Z Z (oR Z (ZV Z Z Z) (bnK gk fun _ cI mo=>?_)))))
        obtain ⟨qM,cS⟩:=bS.rowSome (j:=0) rfl (by rw [wAC (f:=KL.encI) (sz:=1) (fun _=>rfl) p0];have hz:=wAR cI;omega)
        refine oR Z (ZM Z Z cS Z zD zC (wAr cI) (wAs cI)) ?_
        have lR:=wAt (xs:=p0) (wAR cI)
        refine ZD rfl rfl rfl rfl (bS.ldR (j:=0) rfl cS rfl rfl zF (wAT (sz:=1) (fun _=>rfl) _ _ 0 _ lR (by first | omega | rfl | simp) rfl)) rfl (zU rfl rfl rfl rfl rfl bL (zU rfl rfl rfl rfl rfl rfl (bnK mo fun _ eh mp=>ze rfl rfl rfl rfl (fun _=>ZM rfl rfl cS rfl zD zC (wAr eh) (wAs eh)) ?_)))
        have lS:=wAt (xs:=p0) (wAR eh)
        refine ZD rfl rfl rfl rfl (bS.ldR (j:=0) rfl cS rfl rfl zF (wAT (sz:=1) (fun _=>rfl) _ _ 0 _ lS (by first | omega | rfl | simp) rfl)) rfl (bnK mp fun rG iH mq=>?_)
        have iI:=aJ.le cY
        refine yf (a:=((gd p0 (w64 ((w64 ((w64 ((w64 ((wAf (w64 (p1 + p3))) / 2)) + p2)) - 1)) - (w64 ((wAf (w64 (bW + bX))) / 2)))).toNat),(gd p0 (w64 ((wAf (w64 (bW + bX))) / 2)).toNat))) Z Z Z Z Z Z (zB Z (zB Z zN)) bS iI Z iH ?_
        rintro dk qc q9 gU gH jU ⟨rfl,rfl⟩
        have f5:SW w [B2] U dk [B2] gU:=jU
        refine oR Z (zT Z Z Z) (oR Z (Runs.notP Z Z) (eN (ifc mq ?_ ?_)))
        ·intro du mr
         refine zj (ZA (fun h=>h du.out)) (rR fL2 Z (oM Z Z (oA Z Z (zc (zk ?_)))))
         have q:=hJ mr
         obtain rfl:=q
         exact zI ⟨Z,_,Z,⟨dk,bL,dR,dS,dT,cr,dU,dV,ct,Z,dY,(cY.trans gH),f5⟩⟩
        ·intro du ms
         refine cT Z du (rR fL3 Z (oM Z Z (oR Z (zV Z Z Z) (oA Z Z (zc (zk ?_))))))
         have q:=hJ ms
         obtain rfl:=q
         exact zI ⟨Z,_,Z,⟨dk,bL,dR,dS,dT,cr,dU,dV,Z,dX,dY,(cY.trans gH),f5⟩⟩
       ·have gp:=eH;rw [if_neg bp] at gp;replace bp:=zK bp
        refine cF Z bp (ZQ (zg ?_))
        have q:=wAY gp
        obtain ⟨pR,mu,ip⟩:=q
        have q:=lE pR ip
        obtain rfl:=q
        refine zg (ZJ ?_)
        cases mu
        exact zI ⟨Z,⟨gN,bL,dR,dS,dT,cr,dU,dV,ct,cY,f4⟩⟩
     ·rintro rW qD ⟨dl,fB,fC,cw,fD,fE,fG,iw,cx,cZ,f6⟩
      refine sR fL4 Z (oM Z iw (oM Z cx (oR Z (ZV Z Z Z) (oA Z Z (eN (zJ (bnK mn fun ij gE mw=>yI (fun σ_ w_=>∃ (U_:PHeap),σ_ 0=.slice O p0.length aa/\σ_ 1=jV p1/\σ_ 2=jV p2/\σ_ 3=jV p3/\σ_ 4=aj/\σ_ 18=jV (w64 ((wAf (w64 (p1 + p3))) / 2))/\σ_ 20=jV aF/\σ_ 24=jV (w64 ((w64 ((w64 ((wAf (w64 (p1 + p3))) / 2)) + p2)) - aF))/\σ_ 185=.bool ij/\PHeap.Le dl U_/\SW w [B2] U U_ [B2] w_) ?_ ?_)))))))
      ·refine rR fL8 Z (oM Z cx (oM Z cw (oR Z (zT Z Z Z) (oM Z Z ?_))))
       by_cases az:aF < p2
       ·have gt:=gE;rw [if_pos az] at gt;replace az:=zK az
        refine zU Z Z Z (wT Z az) Z cw (zU Z Z Z (wT Z az) Z Z (rU Z (wT Z az) (zT Z Z Z) (oR Z (zQ Z (Za az.out) Z) (zc ?_))))
        have q:=hJ gt
        obtain rfl:=q
        exact zI ⟨Z,⟨dl,fB,fC,cw,fD,fE,fG,cx,Z,Z,(zL _),f6⟩⟩
       ·have gu:=gE;rw [if_neg az] at gu;replace az:=zK az
        refine oF Z az (oF Z az (oF Z az (oR Z (zd Z (ZA az.out) Z) (zc ?_))))
        cases gu
        exact zI ⟨Z,⟨dl,fB,fC,cw,fD,fE,fG,cx,Z,Z,(zL _),f6⟩⟩
      ·rintro rX ci ⟨bh,ba,cy,iz,aK,bb,ax,bz,ap,fH,c6,bw⟩
       refine ifc mw ?_ ?_
       ·intro dv mx
        refine ZK (fH.trans (congrArg nA dv.out)) (rR (wDk (.fx 5 .nil .stop)) Z (oM Z ba (oM Z bz (oM Z iz (oM Z ap (oM Z bb ?_))))))
        have iJ:=aJ.le cZ
        have cK:=iJ.le c6
        refine bnK mx fun bf iK my=>zG 1 Z Z Z Z (zH Z Z Tryz.call114 (zB Z (zB Z (zB Z (zB Z (zB Z zN))))) Z) bw (fun hs=>wCu p0 O aa aF p2 (w64 ((w64 ((w64 ((wAf (w64 (p1 + p3))) / 2)) + p2)) - aF)) p4 aj ci bh hs cK iK) (.inl Z) ?_
        rintro bi qd rc cj eL jW ⟨rfl,rfl,aH⟩
        have bD:SW w [B2] U bi [.row O aa 3 1 (hH KL.encI bf)] cj:=jW
        refine eN (zJ (sR fL8 Z (oM Z cy (oM Z bz (oR Z (zT Z Z Z) (oM Z Z (ifc my ?_ ?_)))))))
        ·intro aO mA
         refine zU Z Z Z (wT Z aO) Z bz (zU Z Z Z (wT Z aO) Z ax (rU Z (wT Z aO) (zT Z Z Z) (oR Z (zQ Z (Za aO.out) Z) (eN (ifc mA ?_ ?_)))))
         ·intro dw mB
          refine cT Z dw (rR (wDk (.fx 5 .nil .stop)) rfl (zU rfl rfl rfl rfl rfl (nL (b:=(.slice O p0.length aa:Value)) (c:=(.slice O bf.length aa:Value)) ba (by rw [aH])) (zU rfl rfl rfl rfl rfl cy (zU rfl rfl rfl rfl rfl bz (zU rfl rfl rfl rfl rfl ax (zU rfl rfl rfl rfl rfl bb ?_))))))
          have fQ:=cK.le eL
          refine bnK mB fun eQ iL mC=>zG 1 Z Z Z Z (zH Z Z yG (zB Z (zB Z (zB Z (zB Z (zB Z zN))))) Z) bD (fun hs=>ih bf O aa p1 aF (w64 ((wAf (w64 (p1 + p3))) / 2)) p4 aj cj bi hs fQ iL) (.inl Z) ?_
          rintro cb qe rd fq pI jX ⟨rfl,rfl,cL⟩
          have eo:SW w [B2] U cb [.row O aa 3 1 (hH KL.encI eQ)] fq:=jX
          refine eN (sR fL8 Z (oM Z ax (oM Z ap (oR Z (zT Z Z Z) (oM Z Z (ifc mC ?_ ?_))))))
          ·intro aP mD
           refine zU Z Z Z (wT Z aP) Z ap (zU Z Z Z (wT Z aP) Z aK (rU Z (wT Z aP) (zT Z Z Z) (oR Z (zQ Z (Za aP.out) Z) (eN (ifc mD ?_ ?_)))))
           ·intro dx mE
            refine cT Z dx (rR (wDk (.fx 5 .nil .stop)) rfl (zU rfl rfl rfl rfl rfl (nL (b:=(.slice O bf.length aa:Value)) (c:=(.slice O eQ.length aa:Value)) (nL (b:=(.slice O p0.length aa:Value)) (c:=(.slice O bf.length aa:Value)) ba (by rw [aH])) (by rw [cL])) (zU rfl rfl rfl rfl rfl ax (zU rfl rfl rfl rfl rfl ap (zU rfl rfl rfl rfl rfl aK (zU rfl rfl rfl rfl rfl bb ?_))))))
            have iM:=fQ.le pI
            refine bnK mE fun pU iN mF=>zG 1 Z Z Z Z (zH Z Z yG (zB Z (zB Z (zB Z (zB Z (zB Z zN))))) Z) eo (fun hs=>ih eQ O aa (w64 ((wAf (w64 (p1 + p3))) / 2)) (w64 ((w64 ((w64 ((wAf (w64 (p1 + p3))) / 2)) + p2)) - aF)) p3 p4 aj fq cb hs iM iN) (.inl Z) ?_
            rintro eW qf re gV qQ jY ⟨rfl,rfl,iO⟩
            have jZ:SW w [B2] U eW [.row O aa 3 1 (hH KL.encI pU)] gV:=jY
            refine zc ?_
            have hE:=hJ mF;first | subst r | cases hE
            exact ⟨Z,_,(wDv),eW,_,jZ,Z,Z,((iO.trans cL).trans aH)⟩
           ·intro dx mG
            refine cF Z dx (ZS ?_)
            have hE:=hJ mG;first | subst r | cases hE
            exact ⟨Z,_,(wDv),cb,_,eo,Z,Z,(cL.trans aH)⟩
          ·intro aP mH
           refine oF Z aP (oF Z aP (oF Z aP (oR Z (zd Z (ZA aP.out) Z) (eN (zj Z (ZS ?_))))))
           have hE:=hJ mH;first | subst r | cases hE
           exact ⟨Z,_,(wDv),cb,_,eo,Z,Z,(cL.trans aH)⟩
         ·intro dw mI
          refine cF Z dw (kN (sR fL8 Z (oM Z ax (oM Z ap (oR Z (zT Z Z Z) (oM Z Z (ifc mI ?_ ?_)))))))
          ·intro aQ mJ
           refine zU Z Z Z (wT Z aQ) Z ap (zU Z Z Z (wT Z aQ) Z aK (rU Z (wT Z aQ) (zT Z Z Z) (oR Z (zQ Z (Za aQ.out) Z) (eN (ifc mJ ?_ ?_)))))
           ·intro dy mK
            refine cT Z dy (rR (wDk (.fx 5 .nil .stop)) rfl (zU rfl rfl rfl rfl rfl (nL (b:=(.slice O p0.length aa:Value)) (c:=(.slice O bf.length aa:Value)) ba (by rw [aH])) (zU rfl rfl rfl rfl rfl ax (zU rfl rfl rfl rfl rfl ap (zU rfl rfl rfl rfl rfl aK (zU rfl rfl rfl rfl rfl bb ?_))))))
            have iP:=cK.le eL
            refine bnK mK fun pV iQ mM=>zG 1 Z Z Z Z (zH Z Z yG (zB Z (zB Z (zB Z (zB Z (zB Z zN))))) Z) bD (fun hs=>ih bf O aa (w64 ((wAf (w64 (p1 + p3))) / 2)) (w64 ((w64 ((w64 ((wAf (w64 (p1 + p3))) / 2)) + p2)) - aF)) p3 p4 aj cj bi hs iP iQ) (.inl Z) ?_
            rintro eX qh rf gW qR j0 ⟨rfl,rfl,iR⟩
            have j3:SW w [B2] U eX [.row O aa 3 1 (hH KL.encI pV)] gW:=j0
            refine zc ?_
            have hE:=hJ mM;first | subst r | cases hE
            exact ⟨Z,_,(wDv),eX,_,j3,Z,Z,(iR.trans aH)⟩
           ·intro dy mN
            refine cF Z dy (ZS ?_)
            have hE:=hJ mN;first | subst r | cases hE
            exact ⟨Z,_,(wDv),bi,_,bD,Z,Z,aH⟩
          ·intro aQ mO
           refine oF Z aQ (oF Z aQ (oF Z aQ (oR Z (zd Z (ZA aQ.out) Z) (eN (zj Z (ZS ?_))))))
           have hE:=hJ mO;first | subst r | cases hE
           exact ⟨Z,_,(wDv),bi,_,bD,Z,Z,aH⟩
        ·intro aO mP
         refine oF Z aO (oF Z aO (oF Z aO (oR Z (zd Z (ZA aO.out) Z) (eN (zj Z (kN (sR fL8 Z (oM Z ax (oM Z ap (oR Z (zT Z Z Z) (oM Z Z (ifc mP ?_ ?_))))))))))))
         ·intro aR mQ
          refine zU Z Z Z (wT Z aR) Z ap (zU Z Z Z (wT Z aR) Z aK (rU Z (wT Z aR) (zT Z Z Z) (oR Z (zQ Z (Za aR.out) Z) (eN (ifc mQ ?_ ?_)))))
          ·intro dz mR
           refine cT Z dz (rR (wDk (.fx 5 .nil .stop)) rfl (zU rfl rfl rfl rfl rfl (nL (b:=(.slice O p0.length aa:Value)) (c:=(.slice O bf.length aa:Value)) ba (by rw [aH])) (zU rfl rfl rfl rfl rfl ax (zU rfl rfl rfl rfl rfl ap (zU rfl rfl rfl rfl rfl aK (zU rfl rfl rfl rfl rfl bb ?_))))))
           have iS:=cK.le eL
           refine bnK mR fun pW iT mS=>zG 1 Z Z Z Z (zH Z Z yG (zB Z (zB Z (zB Z (zB Z (zB Z zN))))) Z) bD (fun hs=>ih bf O aa (w64 ((wAf (w64 (p1 + p3))) / 2)) (w64 ((w64 ((w64 ((wAf (w64 (p1 + p3))) / 2)) + p2)) - aF)) p3 p4 aj cj bi hs iS iT) (.inl Z) ?_
           rintro eY qi rh gX qS j4 ⟨rfl,rfl,iU⟩
           have j5:SW w [B2] U eY [.row O aa 3 1 (hH KL.encI pW)] gX:=j4
           refine zc ?_
           have hE:=hJ mS;first | subst r | cases hE
           exact ⟨Z,_,(wDv),eY,_,j5,Z,Z,(iU.trans aH)⟩
          ·intro dz mT
           refine cF Z dz (ZS ?_)
           have hE:=hJ mT;first | subst r | cases hE
           exact ⟨Z,_,(wDv),bi,_,bD,Z,Z,aH⟩
         ·intro aR mU
          refine oF Z aR (oF Z aR (oF Z aR (oR Z (zd Z (ZA aR.out) Z) (eN (zj Z (ZS ?_))))))
          have hE:=hJ mU;first | subst r | cases hE
          exact ⟨Z,_,(wDv),bi,_,bD,Z,Z,aH⟩
       ·intro dv mV
        refine zj (fH.trans (congrArg nA (nB.2 dv.out))) (kN (zJ (sR fL8 Z (oM Z cy (oM Z bz (oR Z (zT Z Z Z) (oM Z Z (ifc mV ?_ ?_))))))))
        ·intro aS mW
         refine zU Z Z Z (wT Z aS) Z bz (zU Z Z Z (wT Z aS) Z ax (rU Z (wT Z aS) (zT Z Z Z) (oR Z (zQ Z (Za aS.out) Z) (eN (ifc mW ?_ ?_)))))
         ·intro dA mX
          refine cT Z dA (rR (wDk (.fx 5 .nil .stop)) Z (oM Z ba (oM Z cy (oM Z bz (oM Z ax (oM Z bb ?_))))))
          have iW:=aJ.le cZ
          have fR:=iW.le c6
          refine bnK mX fun eS iX mY=>zG 1 Z Z Z Z (zH Z Z yG (zB Z (zB Z (zB Z (zB Z (zB Z zN))))) Z) bw (fun hs=>ih p0 O aa p1 aF (w64 ((wAf (w64 (p1 + p3))) / 2)) p4 aj ci bh hs fR iX) (.inl Z) ?_
          rintro cc qj ri ft pJ j6 ⟨rfl,rfl,cM⟩
          have ez:SW w [B2] U cc [.row O aa 3 1 (hH KL.encI eS)] ft:=j6
          refine eN (sR fL8 Z (oM Z ax (oM Z ap (oR Z (zT Z Z Z) (oM Z Z (ifc mY ?_ ?_))))))
          ·intro aT m2
           refine zU Z Z Z (wT Z aT) Z ap (zU Z Z Z (wT Z aT) Z aK (rU Z (wT Z aT) (zT Z Z Z) (oR Z (zQ Z (Za aT.out) Z) (eN (ifc m2 ?_ ?_)))))
           ·intro dB m3
            refine cT Z dB (rR (wDk (.fx 5 .nil .stop)) rfl (zU rfl rfl rfl rfl rfl (nL (b:=(.slice O p0.length aa:Value)) (c:=(.slice O eS.length aa:Value)) ba (by rw [cM])) (zU rfl rfl rfl rfl rfl ax (zU rfl rfl rfl rfl rfl ap (zU rfl rfl rfl rfl rfl aK (zU rfl rfl rfl rfl rfl bb ?_))))))
            have iY:=fR.le pJ
            refine bnK m3 fun pX iZ m4=>zG 1 Z Z Z Z (zH Z Z yG (zB Z (zB Z (zB Z (zB Z (zB Z zN))))) Z) ez (fun hs=>ih eS O aa (w64 ((wAf (w64 (p1 + p3))) / 2)) (w64 ((w64 ((w64 ((wAf (w64 (p1 + p3))) / 2)) + p2)) - aF)) p3 p4 aj ft cc hs iY iZ) (.inl Z) ?_
            rintro eZ qk rj gY qT j7 ⟨rfl,rfl,i7⟩
            have j8:SW w [B2] U eZ [.row O aa 3 1 (hH KL.encI pX)] gY:=j7
            refine zc ?_
            have hE:=hJ m4;first | subst r | cases hE
            exact ⟨Z,_,(wDv),eZ,_,j8,Z,Z,(i7.trans cM)⟩
           ·intro dB m5
            refine cF Z dB (ZS ?_)
            have hE:=hJ m5;first | subst r | cases hE
            exact ⟨Z,_,(wDv),cc,_,ez,Z,Z,cM⟩
          ·intro aT m6
           refine oF Z aT (oF Z aT (oF Z aT (oR Z (zd Z (ZA aT.out) Z) (eN (zj Z (ZS ?_))))))
           have hE:=hJ m6;first | subst r | cases hE
           exact ⟨Z,_,(wDv),cc,_,ez,Z,Z,cM⟩
         ·intro dA m7
          refine cF Z dA (kN (sR fL8 Z (oM Z ax (oM Z ap (oR Z (zT Z Z Z) (oM Z Z (ifc m7 ?_ ?_)))))))
          ·intro aU m8
           refine zU Z Z Z (wT Z aU) Z ap (zU Z Z Z (wT Z aU) Z aK (rU Z (wT Z aU) (zT Z Z Z) (oR Z (zQ Z (Za aU.out) Z) (eN (ifc m8 ?_ ?_)))))
           ·intro dC m9
            refine cT Z dC (rR (wDk (.fx 5 .nil .stop)) Z (oM Z ba (oM Z ax (oM Z ap (oM Z aK (oM Z bb ?_))))))
            have i8:=aJ.le cZ
            have i9:=i8.le c6
            refine bnK m9 fun pY ja n2=>zG 1 Z Z Z Z (zH Z Z yG (zB Z (zB Z (zB Z (zB Z (zB Z zN))))) Z) bw (fun hs=>ih p0 O aa (w64 ((wAf (w64 (p1 + p3))) / 2)) (w64 ((w64 ((w64 ((wAf (w64 (p1 + p3))) / 2)) + p2)) - aF)) p3 p4 aj ci bh hs i9 ja) (.inl Z) ?_
            rintro e6 qn ro gZ qU j9 ⟨rfl,rfl,jb⟩
            have k7:SW w [B2] U e6 [.row O aa 3 1 (hH KL.encI pY)] gZ:=j9
            refine zc ?_
            have hE:=hJ n2;first | subst r | cases hE
            exact ⟨Z,_,(wDv),e6,_,k7,Z,Z,jb⟩
           ·intro dC n4
            refine cF Z dC (ZS ?_)
            have hE:=hJ n4;first | subst r | cases hE
            exact ⟨Z,_,(wDv),bh,_,bw,Z,Z,Z⟩
          ·intro aU n5
           refine oF Z aU (oF Z aU (oF Z aU (oR Z (zd Z (ZA aU.out) Z) (eN (zj Z (ZS ?_))))))
           have hE:=hJ n5;first | subst r | cases hE
           exact ⟨Z,_,(wDv),bh,_,bw,Z,Z,Z⟩
        ·intro aS n6
         refine oF Z aS (oF Z aS (oF Z aS (oR Z (zd Z (ZA aS.out) Z) (eN (zj Z (kN (sR fL8 Z (oM Z ax (oM Z ap (oR Z (zT Z Z Z) (oM Z Z (ifc n6 ?_ ?_))))))))))))
         ·intro aV n7
          refine zU Z Z Z (wT Z aV) Z ap (zU Z Z Z (wT Z aV) Z aK (rU Z (wT Z aV) (zT Z Z Z) (oR Z (zQ Z (Za aV.out) Z) (eN (ifc n7 ?_ ?_)))))
          ·intro dD n8
           refine cT Z dD (rR (wDk (.fx 5 .nil .stop)) Z (oM Z ba (oM Z ax (oM Z ap (oM Z aK (oM Z bb ?_))))))
           have jc:=aJ.le cZ
           have jd:=jc.le c6
           refine bnK n8 fun pZ je n9=>zG 1 Z Z Z Z (zH Z Z yG (zB Z (zB Z (zB Z (zB Z (zB Z zN))))) Z) bw (fun hs=>ih p0 O aa (w64 ((wAf (w64 (p1 + p3))) / 2)) (w64 ((w64 ((w64 ((wAf (w64 (p1 + p3))) / 2)) + p2)) - aF)) p3 p4 aj ci bh hs jd je) (.inl Z) ?_
           rintro e7 qo rp g7 qV lb ⟨rfl,rfl,jf⟩
           have lc:SW w [B2] U e7 [.row O aa 3 1 (hH KL.encI pZ)] g7:=lb
           refine zc ?_
           have hE:=hJ n9;first | subst r | cases hE
           exact ⟨Z,_,(wDv),e7,_,lc,Z,Z,jf⟩
          ·intro dD oa
           refine cF Z dD (ZS ?_)
           have hE:=hJ oa;first | subst r | cases hE
           exact ⟨Z,_,(wDv),bh,_,bw,Z,Z,Z⟩
         ·intro aV oc
          refine oF Z aV (oF Z aV (oF Z aV (oR Z (zd Z (ZA aV.out) Z) (eN (zj Z (ZS ?_))))))
          have hE:=hJ oc;first | subst r | cases hE
          exact ⟨Z,_,(wDv),bh,_,bw,Z,Z,Z⟩
    ·intro dt od
     refine cF Z dt (sR fL2 Z (oM Z Z (oA Z Z (eN (rR fL2 Z (oM Z Z (oA Z Z (eN (sR fL3 Z (oM Z Z (oR Z (ZV Z Z Z) (oA Z Z (eN (bnK od fun aG pF oe=>?_))))))))))))))
     let B3:Res:=.row O aa 3 1 (hH KL.encI p0)
     refine yI (fun σ_ w_=>∃ (U_:PHeap),σ_ 0=.slice O p0.length aa/\σ_ 1=jV p1/\σ_ 2=jV p2/\σ_ 3=jV p3/\σ_ 4=aj/\σ_ 18=jV (w64 ((wAf (w64 (p1 + p3))) / 2))/\σ_ 19=jV (w64 ((w64 ((wAf (w64 (p1 + p3))) / 2)) + p2))/\σ_ 20=jV aG/\PHeap.Le U U_/\SW w [B3] U U_ [B3] w_) ?_ ?_
     ·refine zY (yl (fun (bY,bZ) σ_ w_=>∃ (U_:PHeap),σ_ 0=.slice O p0.length aa/\σ_ 1=jV p1/\σ_ 2=jV p2/\σ_ 3=jV p3/\σ_ 4=aj/\σ_ 18=jV (w64 ((wAf (w64 (p1 + p3))) / 2))/\σ_ 19=jV (w64 ((w64 ((wAf (w64 (p1 + p3))) / 2)) + p2))/\σ_ 20=jV bY/\σ_ 21=jV bZ/\σ_ 22=jV (w64 ((w64 ((w64 ((wAf (w64 (p1 + p3))) / 2)) + p2)) - 1))/\PHeap.Le U U_/\SW w [B3] U U_ [B3] w_) pF ?_ ?_)
      ·exact ⟨U,Z,Z,Z,Z,Z,Z,Z,Z,Z,Z,(zL _),hS⟩
      ·rintro ⟨bY,bZ⟩ rN rY fu ⟨gO,bM,d4,d5,d6,cz,d7,d8,cA,d9,ef,da,f8⟩ eI lF
       try dsimp only at eI
       refine zJ (sR fL3 Z (oM Z cA (oM Z d9 (oR Z (zT Z Z Z) (eN ?_)))))
       by_cases br:bY < bZ
       ·have gv:=eI;rw [if_pos br] at gv;replace br:=zK br
        refine cT Z br (kN (zY (sR fL7 rfl (zU rfl rfl rfl rfl rfl cA (zU rfl rfl rfl rfl rfl d9 (ze rfl rfl rfl rfl (fun _=>zV rfl rfl rfl) (ze rfl rfl rfl rfl (fun _=>Runs.cv64 rfl rfl Ze Zl rfl rfl) (ze rfl rfl rfl rfl (fun _=>Runs.shr1 rfl rfl rfl) (ze rfl rfl rfl rfl (fun _=>Runs.cvw rfl rfl Zl Ze rfl rfl) (Zy rfl rfl rfl rfl rfl rfl (eN (zJ (ZB zw [3,3,3,3,3,3,1,3,3,3,1,2,3,3] (wJm gAr) (by kernel_rfl) ?_)))))))))))))
        have bU:=f8.drew
        generalize hw_W552:({ fu with drawn:=fu.drawn + 1 }:World)=qF at bU ⊢
        refine oM Z cz (oM Z bM (oM Z ef (oM Z Z (oR Z (ZV Z Z Z) (bnK gv fun _ cN oh=>?_)))))
        obtain ⟨qO,cV⟩:=bU.rowSome (j:=0) rfl (by rw [wAC (f:=KL.encI) (sz:=1) (fun _=>rfl) p0];have hz:=wAR cN;omega)
        refine oR Z (ZM Z Z cV Z zD zC (wAr cN) (wAs cN)) ?_
        have lV:=wAt (xs:=p0) (wAR cN)
        refine ZD rfl rfl rfl rfl (bU.ldR (j:=0) rfl cV rfl rfl zF (wAT (sz:=1) (fun _=>rfl) _ _ 0 _ lV (by first | omega | rfl | simp) rfl)) rfl (zU rfl rfl rfl rfl rfl bM (zU rfl rfl rfl rfl rfl rfl (bnK oh fun _ en oi=>ze rfl rfl rfl rfl (fun _=>ZM rfl rfl cV rfl zD zC (wAr en) (wAs en)) ?_)))
        have lW:=wAt (xs:=p0) (wAR en)
        refine ZD rfl rfl rfl rfl (bU.ldR (j:=0) rfl cV rfl rfl zF (wAT (sz:=1) (fun _=>rfl) _ _ 0 _ lW (by first | omega | rfl | simp) rfl)) rfl (bnK oi fun rI jh oj=>?_)
        have ji:=aJ.le da
        refine yf (a:=((gd p0 (w64 ((w64 ((w64 ((w64 ((wAf (w64 (p1 + p3))) / 2)) + p2)) - 1)) - (w64 ((wAf (w64 (bY + bZ))) / 2)))).toNat),(gd p0 (w64 ((wAf (w64 (bY + bZ))) / 2)).toNat))) Z Z Z Z Z Z (zB Z (zB Z zN)) bU ji Z jh ?_
        rintro dn qp rq g8 gJ lf ⟨rfl,rfl⟩
        have f9:SW w [B3] U dn [B3] g8:=lf
        refine oR Z (zT Z Z Z) (oR Z (Runs.notP Z Z) (eN (ifc oj ?_ ?_)))
        ·intro dF ol
         refine zj (ZA (fun h=>h dF.out)) (rR fL2 Z (oM Z Z (oA Z Z (zc (zk ?_)))))
         have q:=hJ ol
         obtain rfl:=q
         exact zI ⟨Z,_,Z,⟨dn,bM,d4,d5,d6,cz,d7,d8,cA,Z,ef,(da.trans gJ),f9⟩⟩
        ·intro dF om
         refine cT Z dF (rR fL3 Z (oM Z Z (oR Z (zV Z Z Z) (oA Z Z (zc (zk ?_))))))
         have q:=hJ om
         obtain rfl:=q
         exact zI ⟨Z,_,Z,⟨dn,bM,d4,d5,d6,cz,d7,d8,Z,d9,ef,(da.trans gJ),f9⟩⟩
       ·have gw:=eI;rw [if_neg br] at gw;replace br:=zK br
        refine cF Z br (ZQ (zg ?_))
        have q:=wAY gw
        obtain ⟨pS,oq,iq⟩:=q
        have q:=lF pS iq
        obtain rfl:=q
        refine zg (ZJ ?_)
        cases oq
        exact zI ⟨Z,⟨gO,bM,d4,d5,d6,cz,d7,d8,cA,da,f8⟩⟩
     ·rintro rZ qG ⟨dp,fI,fJ,cB,fK,fL,fM,iA,cC,db,ga⟩
      refine sR fL4 Z (oM Z iA (oM Z cC (oR Z (ZV Z Z Z) (oA Z Z (eN (zJ (bnK oe fun ik gF ot=>yI (fun σ_ w_=>∃ (U_:PHeap),σ_ 0=.slice O p0.length aa/\σ_ 1=jV p1/\σ_ 2=jV p2/\σ_ 3=jV p3/\σ_ 4=aj/\σ_ 18=jV (w64 ((wAf (w64 (p1 + p3))) / 2))/\σ_ 20=jV aG/\σ_ 24=jV (w64 ((w64 ((w64 ((wAf (w64 (p1 + p3))) / 2)) + p2)) - aG))/\σ_ 185=.bool ik/\PHeap.Le dp U_/\SW w [B3] U U_ [B3] w_) ?_ ?_)))))))
      ·refine rR fL8 Z (oM Z cC (oM Z cB (oR Z (zT Z Z Z) (oM Z Z ?_))))
       by_cases aE:aG < p2
       ·have gz:=gF;rw [if_pos aE] at gz;replace aE:=zK aE
        refine zU Z Z Z (wT Z aE) Z cB (zU Z Z Z (wT Z aE) Z Z (rU Z (wT Z aE) (zT Z Z Z) (oR Z (zQ Z (Za aE.out) Z) (zc ?_))))
        have q:=hJ gz
        obtain rfl:=q
        exact zI ⟨Z,⟨dp,fI,fJ,cB,fK,fL,fM,cC,Z,Z,(zL _),ga⟩⟩
       ·have gA:=gF;rw [if_neg aE] at gA;replace aE:=zK aE
        refine oF Z aE (oF Z aE (oF Z aE (oR Z (zd Z (ZA aE.out) Z) (zc ?_))))
        cases gA
        exact zI ⟨Z,⟨dp,fI,fJ,cB,fK,fL,fM,cC,Z,Z,(zL _),ga⟩⟩
      ·rintro r6 cm ⟨bj,bc,cD,iB,aL,be,ay,bA,aq,fN,dd,bx⟩
       refine ifc ot ?_ ?_
       ·intro dG ou
        refine ZK (fN.trans (congrArg nA dG.out)) (rR (wDk (.fx 5 .nil .stop)) Z (oM Z bc (oM Z bA (oM Z iB (oM Z aq (oM Z be ?_))))))
        have jj:=aJ.le db
        have cO:=jj.le dd
        refine bnK ou fun bg jk ov=>zG 1 Z Z Z Z (zH Z Z Tryz.call114 (zB Z (zB Z (zB Z (zB Z (zB Z zN))))) Z) bx (fun hs=>wCu p0 O aa aG p2 (w64 ((w64 ((w64 ((wAf (w64 (p1 + p3))) / 2)) + p2)) - aG)) p4 aj cm bj hs cO jk) (.inl Z) ?_
        rintro bk qq rv cn eM lg ⟨rfl,rfl,aI⟩
        have bF:SW w [B3] U bk [.row O aa 3 1 (hH KL.encI bg)] cn:=lg
        refine eN (zJ (sR fL8 Z (oM Z cD (oM Z bA (oR Z (zT Z Z Z) (oM Z Z (ifc ov ?_ ?_)))))))
        ·intro aW ox
         refine zU Z Z Z (wT Z aW) Z bA (zU Z Z Z (wT Z aW) Z ay (rU Z (wT Z aW) (zT Z Z Z) (oR Z (zQ Z (Za aW.out) Z) (eN (ifc ox ?_ ?_)))))
         ·intro dH oy
          refine cT Z dH (rR (wDk (.fx 5 .nil .stop)) rfl (zU rfl rfl rfl rfl rfl (nL (b:=(.slice O p0.length aa:Value)) (c:=(.slice O bg.length aa:Value)) bc (by rw [aI])) (zU rfl rfl rfl rfl rfl cD (zU rfl rfl rfl rfl rfl bA (zU rfl rfl rfl rfl rfl ay (zU rfl rfl rfl rfl rfl be ?_))))))
          have fS:=cO.le eM
          refine bnK oy fun eT jl oz=>zG 1 Z Z Z Z (zH Z Z yG (zB Z (zB Z (zB Z (zB Z (zB Z zN))))) Z) bF (fun hs=>ih bg O aa p1 aG (w64 ((wAf (w64 (p1 + p3))) / 2)) p4 aj cn bk hs fS jl) (.inl Z) ?_
          rintro cd qr rx fw pK lh ⟨rfl,rfl,cP⟩
          have eA:SW w [B3] U cd [.row O aa 3 1 (hH KL.encI eT)] fw:=lh
          refine eN (sR fL8 Z (oM Z ay (oM Z aq (oR Z (zT Z Z Z) (oM Z Z (ifc oz ?_ ?_))))))
          ·intro aX oB
           refine zU Z Z Z (wT Z aX) Z aq (zU Z Z Z (wT Z aX) Z aL (rU Z (wT Z aX) (zT Z Z Z) (oR Z (zQ Z (Za aX.out) Z) (eN (ifc oB ?_ ?_)))))
           ·intro dI oC
            refine cT Z dI (rR (wDk (.fx 5 .nil .stop)) rfl (zU rfl rfl rfl rfl rfl (nL (b:=(.slice O bg.length aa:Value)) (c:=(.slice O eT.length aa:Value)) (nL (b:=(.slice O p0.length aa:Value)) (c:=(.slice O bg.length aa:Value)) bc (by rw [aI])) (by rw [cP])) (zU rfl rfl rfl rfl rfl ay (zU rfl rfl rfl rfl rfl aq (zU rfl rfl rfl rfl rfl aL (zU rfl rfl rfl rfl rfl be ?_))))))
            have jm:=fS.le pK
            refine bnK oC fun p5 jo oD=>zG 1 Z Z Z Z (zH Z Z yG (zB Z (zB Z (zB Z (zB Z (zB Z zN))))) Z) eA (fun hs=>ih eT O aa (w64 ((wAf (w64 (p1 + p3))) / 2)) (w64 ((w64 ((w64 ((wAf (w64 (p1 + p3))) / 2)) + p2)) - aG)) p3 p4 aj fw cd hs jm jo) (.inl Z) ?_
            rintro e8 qs ry g9 qW li ⟨rfl,rfl,jp⟩
            have lj:SW w [B3] U e8 [.row O aa 3 1 (hH KL.encI p5)] g9:=li
            refine zc ?_
            have hE:=hJ oD;first | subst r | cases hE
            exact ⟨Z,_,(wDv),e8,_,lj,Z,Z,((jp.trans cP).trans aI)⟩
           ·intro dI oE
            refine cF Z dI (ZS ?_)
            have hE:=hJ oE;first | subst r | cases hE
            exact ⟨Z,_,(wDv),cd,_,eA,Z,Z,(cP.trans aI)⟩
          ·intro aX oG
           refine oF Z aX (oF Z aX (oF Z aX (oR Z (zd Z (ZA aX.out) Z) (eN (zj Z (ZS ?_))))))
           have hE:=hJ oG;first | subst r | cases hE
           exact ⟨Z,_,(wDv),cd,_,eA,Z,Z,(cP.trans aI)⟩
         ·intro dH oH
          refine cF Z dH (kN (sR fL8 Z (oM Z ay (oM Z aq (oR Z (zT Z Z Z) (oM Z Z (ifc oH ?_ ?_)))))))
          ·intro aY oI
           refine zU Z Z Z (wT Z aY) Z aq (zU Z Z Z (wT Z aY) Z aL (rU Z (wT Z aY) (zT Z Z Z) (oR Z (zQ Z (Za aY.out) Z) (eN (ifc oI ?_ ?_)))))
           ·intro dJ oJ
            refine cT Z dJ (rR (wDk (.fx 5 .nil .stop)) rfl (zU rfl rfl rfl rfl rfl (nL (b:=(.slice O p0.length aa:Value)) (c:=(.slice O bg.length aa:Value)) bc (by rw [aI])) (zU rfl rfl rfl rfl rfl ay (zU rfl rfl rfl rfl rfl aq (zU rfl rfl rfl rfl rfl aL (zU rfl rfl rfl rfl rfl be ?_))))))
            have jq:=cO.le eM
            refine bnK oJ fun p6 jr oK=>zG 1 Z Z Z Z (zH Z Z yG (zB Z (zB Z (zB Z (zB Z (zB Z zN))))) Z) bF (fun hs=>ih bg O aa (w64 ((wAf (w64 (p1 + p3))) / 2)) (w64 ((w64 ((w64 ((wAf (w64 (p1 + p3))) / 2)) + p2)) - aG)) p3 p4 aj cn bk hs jq jr) (.inl Z) ?_
            rintro e9 qt rz ib qX lk ⟨rfl,rfl,jt⟩
            have ll:SW w [B3] U e9 [.row O aa 3 1 (hH KL.encI p6)] ib:=lk
            refine zc ?_
            have hE:=hJ oK;first | subst r | cases hE
            exact ⟨Z,_,(wDv),e9,_,ll,Z,Z,(jt.trans aI)⟩
           ·intro dJ oO
            refine cF Z dJ (ZS ?_)
            have hE:=hJ oO;first | subst r | cases hE
            exact ⟨Z,_,(wDv),bk,_,bF,Z,Z,aI⟩
          ·intro aY oP
           refine oF Z aY (oF Z aY (oF Z aY (oR Z (zd Z (ZA aY.out) Z) (eN (zj Z (ZS ?_))))))
           have hE:=hJ oP;first | subst r | cases hE
           exact ⟨Z,_,(wDv),bk,_,bF,Z,Z,aI⟩
        ·intro aW oQ
         refine oF Z aW (oF Z aW (oF Z aW (oR Z (zd Z (ZA aW.out) Z) (eN (zj Z (kN (sR fL8 Z (oM Z ay (oM Z aq (oR Z (zT Z Z Z) (oM Z Z (ifc oQ ?_ ?_))))))))))))
         ·intro aZ oS
          refine zU Z Z Z (wT Z aZ) Z aq (zU Z Z Z (wT Z aZ) Z aL (rU Z (wT Z aZ) (zT Z Z Z) (oR Z (zQ Z (Za aZ.out) Z) (eN (ifc oS ?_ ?_)))))
          ·intro dK oU
           refine cT Z dK (rR (wDk (.fx 5 .nil .stop)) rfl (zU rfl rfl rfl rfl rfl (nL (b:=(.slice O p0.length aa:Value)) (c:=(.slice O bg.length aa:Value)) bc (by rw [aI])) (zU rfl rfl rfl rfl rfl ay (zU rfl rfl rfl rfl rfl aq (zU rfl rfl rfl rfl rfl aL (zU rfl rfl rfl rfl rfl be ?_))))))
           have ju:=cO.le eM
           refine bnK oU fun p7 jv oV=>zG 1 Z Z Z Z (zH Z Z yG (zB Z (zB Z (zB Z (zB Z (zB Z zN))))) Z) bF (fun hs=>ih bg O aa (w64 ((wAf (w64 (p1 + p3))) / 2)) (w64 ((w64 ((w64 ((wAf (w64 (p1 + p3))) / 2)) + p2)) - aG)) p3 p4 aj cn bk hs ju jv) (.inl Z) ?_
           rintro fc qu rA ic qZ ln ⟨rfl,rfl,jw⟩
           have lp:SW w [B3] U fc [.row O aa 3 1 (hH KL.encI p7)] ic:=ln
           refine zc ?_
           have hE:=hJ oV;first | subst r | cases hE
           exact ⟨Z,_,(wDv),fc,_,lp,Z,Z,(jw.trans aI)⟩
          ·intro dK oZ
           refine cF Z dK (ZS ?_)
           have hE:=hJ oZ;first | subst r | cases hE
           exact ⟨Z,_,(wDv),bk,_,bF,Z,Z,aI⟩
         ·intro aZ o0
          refine oF Z aZ (oF Z aZ (oF Z aZ (oR Z (zd Z (ZA aZ.out) Z) (eN (zj Z (ZS ?_))))))
          have hE:=hJ o0;first | subst r | cases hE
          exact ⟨Z,_,(wDv),bk,_,bF,Z,Z,aI⟩
       ·intro dG o3
        refine zj (fN.trans (congrArg nA (nB.2 dG.out))) (kN (zJ (sR fL8 Z (oM Z cD (oM Z bA (oR Z (zT Z Z Z) (oM Z Z (ifc o3 ?_ ?_))))))))
        ·intro a6 o5
         refine zU Z Z Z (wT Z a6) Z bA (zU Z Z Z (wT Z a6) Z ay (rU Z (wT Z a6) (zT Z Z Z) (oR Z (zQ Z (Za a6.out) Z) (eN (ifc o5 ?_ ?_)))))
         ·intro dL o6
          refine cT Z dL (rR (wDk (.fx 5 .nil .stop)) Z (oM Z bc (oM Z cD (oM Z bA (oM Z ay (oM Z be ?_))))))
          have jx:=aJ.le db
          have fT:=jx.le dd
          refine bnK o6 fun eU jy o7=>zG 1 Z Z Z Z (zH Z Z yG (zB Z (zB Z (zB Z (zB Z (zB Z zN))))) Z) bx (fun hs=>ih p0 O aa p1 aG (w64 ((wAf (w64 (p1 + p3))) / 2)) p4 aj cm bj hs fT jy) (.inl Z) ?_
          rintro cf qv rB fy pM lq ⟨rfl,rfl,cQ⟩
          have eB:SW w [B3] U cf [.row O aa 3 1 (hH KL.encI eU)] fy:=lq
          refine eN (sR fL8 Z (oM Z ay (oM Z aq (oR Z (zT Z Z Z) (oM Z Z (ifc o7 ?_ ?_))))))
          ·intro a7 o8
           refine zU Z Z Z (wT Z a7) Z aq (zU Z Z Z (wT Z a7) Z aL (rU Z (wT Z a7) (zT Z Z Z) (oR Z (zQ Z (Za a7.out) Z) (eN (ifc o8 ?_ ?_)))))
           ·intro dM o9
            refine cT Z dM (rR (wDk (.fx 5 .nil .stop)) rfl (zU rfl rfl rfl rfl rfl (nL (b:=(.slice O p0.length aa:Value)) (c:=(.slice O eU.length aa:Value)) bc (by rw [cQ])) (zU rfl rfl rfl rfl rfl ay (zU rfl rfl rfl rfl rfl aq (zU rfl rfl rfl rfl rfl aL (zU rfl rfl rfl rfl rfl be ?_))))))
            have jz:=fT.le pM
            refine bnK o9 fun p8 jA pd=>zG 1 Z Z Z Z (zH Z Z yG (zB Z (zB Z (zB Z (zB Z (zB Z zN))))) Z) eB (fun hs=>ih eU O aa (w64 ((wAf (w64 (p1 + p3))) / 2)) (w64 ((w64 ((w64 ((wAf (w64 (p1 + p3))) / 2)) + p2)) - aG)) p3 p4 aj fy cf hs jz jA) (.inl Z) ?_
            rintro fd qw rC ie q5 lu ⟨rfl,rfl,jB⟩
            have lv:SW w [B3] U fd [.row O aa 3 1 (hH KL.encI p8)] ie:=lu
            refine zc ?_
            have hE:=hJ pd;first | subst r | cases hE
            exact ⟨Z,_,(wDv),fd,_,lv,Z,Z,(jB.trans cQ)⟩
           ·intro dM pe
            refine cF Z dM (ZS ?_)
            have hE:=hJ pe;first | subst r | cases hE
            exact ⟨Z,_,(wDv),cf,_,eB,Z,Z,cQ⟩
          ·intro a7 pf
           refine oF Z a7 (oF Z a7 (oF Z a7 (oR Z (zd Z (ZA a7.out) Z) (eN (zj Z (ZS ?_))))))
           have hE:=hJ pf;first | subst r | cases hE
           exact ⟨Z,_,(wDv),cf,_,eB,Z,Z,cQ⟩
         ·intro dL pg
          refine cF Z dL (kN (sR fL8 Z (oM Z ay (oM Z aq (oR Z (zT Z Z Z) (oM Z Z (ifc pg ?_ ?_)))))))
          ·intro a8 ph
           refine zU Z Z Z (wT Z a8) Z aq (zU Z Z Z (wT Z a8) Z aL (rU Z (wT Z a8) (zT Z Z Z) (oR Z (zQ Z (Za a8.out) Z) (eN (ifc ph ?_ ?_)))))
           ·intro dN pk
            refine cT Z dN (rR (wDk (.fx 5 .nil .stop)) Z (oM Z bc (oM Z ay (oM Z aq (oM Z aL (oM Z be ?_))))))
            have jC:=aJ.le db
            have jD:=jC.le dd
            refine bnK pk fun p9 jE pm=>zG 1 Z Z Z Z (zH Z Z yG (zB Z (zB Z (zB Z (zB Z (zB Z zN))))) Z) bx (fun hs=>ih p0 O aa (w64 ((wAf (w64 (p1 + p3))) / 2)) (w64 ((w64 ((w64 ((wAf (w64 (p1 + p3))) / 2)) + p2)) - aG)) p3 p4 aj cm bj hs jD jE) (.inl Z) ?_
            rintro ff qx rD ig q6 lw ⟨rfl,rfl,jF⟩
            have lx:SW w [B3] U ff [.row O aa 3 1 (hH KL.encI p9)] ig:=lw
            refine zc ?_
            have hE:=hJ pm;first | subst r | cases hE
            exact ⟨Z,_,(wDv),ff,_,lx,Z,Z,jF⟩
           ·intro dN pn
            refine cF Z dN (ZS ?_)
            have hE:=hJ pn;first | subst r | cases hE
            exact ⟨Z,_,(wDv),bj,_,bx,Z,Z,Z⟩
          ·intro a8 po
           refine oF Z a8 (oF Z a8 (oF Z a8 (oR Z (zd Z (ZA a8.out) Z) (eN (zj Z (ZS ?_))))))
           have hE:=hJ po;first | subst r | cases hE
           exact ⟨Z,_,(wDv),bj,_,bx,Z,Z,Z⟩
        ·intro a6 pp
         refine oF Z a6 (oF Z a6 (oF Z a6 (oR Z (zd Z (ZA a6.out) Z) (eN (zj Z (kN (sR fL8 Z (oM Z ay (oM Z aq (oR Z (zT Z Z Z) (oM Z Z (ifc pp ?_ ?_))))))))))))
         ·intro a9 pq
          refine zU Z Z Z (wT Z a9) Z aq (zU Z Z Z (wT Z a9) Z aL (rU Z (wT Z a9) (zT Z Z Z) (oR Z (zQ Z (Za a9.out) Z) (eN (ifc pq ?_ ?_)))))
          ·intro dO pu
           refine cT Z dO (rR (wDk (.fx 5 .nil .stop)) Z (oM Z bc (oM Z ay (oM Z aq (oM Z aL (oM Z be ?_))))))
           have jG:=aJ.le db
           have jH:=jG.le dd
           refine bnK pu fun qa jI py=>zG 1 Z Z Z Z (zH Z Z yG (zB Z (zB Z (zB Z (zB Z (zB Z zN))))) Z) bx (fun hs=>ih p0 O aa (w64 ((wAf (w64 (p1 + p3))) / 2)) (w64 ((w64 ((w64 ((wAf (w64 (p1 + p3))) / 2)) + p2)) - aG)) p3 p4 aj cm bj hs jH jI) (.inl Z) ?_
           rintro fg qy rE ii q7 ly ⟨rfl,rfl,jJ⟩
           have lA:SW w [B3] U fg [.row O aa 3 1 (hH KL.encI qa)] ii:=ly
           refine zc ?_
           have hE:=hJ py;first | subst r | cases hE
           exact ⟨Z,_,(wDv),fg,_,lA,Z,Z,jJ⟩
          ·intro dO pz
           refine cF Z dO (ZS ?_)
           have hE:=hJ pz;first | subst r | cases hE
           exact ⟨Z,_,(wDv),bj,_,bx,Z,Z,Z⟩
         ·intro a9 pB
          refine oF Z a9 (oF Z a9 (oF Z a9 (oR Z (zd Z (ZA a9.out) Z) (eN (zj Z (ZS ?_))))))
          have hE:=hJ pB;first | subst r | cases hE
          exact ⟨Z,_,(wDv),bj,_,bx,Z,Z,Z⟩
end Go.Proofs.YtkghaiefcjgfkaaGreat
namespace Go.Proofs.YtkghaiefcjgfkaaGreat
open Go.KL
set_option maxHeartbeats 4000000
theorem wEH (p0:List Int) (O:Option Addr) (aa:Nat) (p1:Int) (p2:((Int × Int)->Option Int)) (ae:Value) (w:World) (U:PHeap) (hS:St0 w U [.row O aa 3 1 (hH KL.encI p0)]) (bG:FnOK Tryz.prog U ae wMU wMV p2) {r:(List Int)} (hm:wBX p0 p1 p2=some r):Gv Tryz.prog 55 [.slice O p0.length aa,jV p1,ae] w (wBl w [.row O aa 3 1 (hH KL.encI p0)] U (fun U_ L_ v=>v=.tuple #[]/\L_=[.row O aa 3 1 (hH KL.encI r)]/\r.length=p0.length)):=by
 unfold wBX at hm
 refine Gv.of Tryz.func55 Z Tryz.ntmps55 Tryz.results55 Z (sR fL1 Z (oA Z Z (eN (sR fL3 Z (oM Z Z (oA Z Z (oA Z Z (eN ?_))))))))
 have q:=bnd hm
 obtain ⟨⟨l2,x3⟩,da,bO⟩:=q
 try dsimp only at bO
 let B0:Res:=.row O aa 3 1 (hH KL.encI p0)
 refine yI (fun σ_ w_=>∃ (U_:PHeap),σ_ 0=.slice O l2.length aa/\σ_ 1=jV p1/\σ_ 2=ae/\σ_ 6=jV 20/\σ_ 7=jV x3/\PHeap.Le U U_/\SW w [B0] U U_ [.row O aa 3 1 (hH KL.encI l2)] w_/\l2.length=p0.length) ?_ ?_
 refine zY (yl (fun (ao,bc,aJ) σ_ w_=>∃ (U_:PHeap),σ_ 0=.slice O ao.length aa/\σ_ 1=jV p1/\σ_ 2=ae/\σ_ 6=jV 20/\σ_ 7=jV bc/\σ_ 8=jV aJ/\PHeap.Le U U_/\SW w [B0] U U_ [.row O aa 3 1 (hH KL.encI ao)] w_/\ao.length=p0.length) da ?_ ?_)
 exact ⟨U,Z,Z,Z,Z,Z,Z,(zL _),hS,Z⟩
 rintro ⟨ao,bc,aJ⟩ dw dA ca ⟨bi,aU,aV,aW,aX,bn,aE,ba,bD,bx⟩ a6 cO
 try dsimp only at a6
 refine zJ (sR fL3 Z (oM Z aE (oM Z aV (oR Z (Runs.leq Z Z Z) (eN ?_)))))
 by_cases aj:aJ <= p1
 have bM:=a6;rw [if_pos aj] at bM;replace aj:=zK aj
 refine cT Z aj (kN (zY (sR (wDu (.fx 4 .nil .stop)) Z (oM Z aU (oM Z bn (oM Z aE (oM Z aW ?_)))))))
 have cz:=bG.le ba
 refine bnK bM fun bT cA cX=>zG 1 Z Z Z Z (zH Z Z Tryz.call89 (zB Z (zB Z (zB Z (zB Z zN)))) Z) bD (fun hs=>wCC ao O aa bc aJ p2 ae ca bi hs cz cA) (.inl Z) ?_
 rintro bj dm dt cb de cI ⟨rfl,rfl,bz⟩
 have cJ:SW w [B0] U bj [.row O aa 3 1 (hH KL.encI bT)] cb:=cI
 refine eN (sR fL2 Z (oM Z aE (oA Z Z (eN (rR fL4 Z (oM Z aE (oM Z aX (oR Z (zV Z Z Z) (oA Z Z (zc (zk ?_)))))))))))
 have q:=hJ cX
 obtain rfl:=q
 exact zI ⟨rfl,_,rfl,⟨bj,(nL (b:=(.slice O ao.length aa:Value)) (c:=(.slice O bT.length aa:Value)) aU (by rw [bz])),aV,aW,aX,rfl,rfl,(ba.trans de),cJ,(bz.trans bx)⟩⟩
 have bN:=a6;rw [if_neg aj] at bN;replace aj:=zK aj
 refine cF Z aj (ZQ (zg ?_))
 have q:=wAY bN
 obtain ⟨di,cY,ci⟩:=q
 have q:=cO di ci
 obtain rfl:=q
 refine zg (ZJ ?_)
 cases cY
 exact zI ⟨Z,⟨bi,aU,aV,aW,aX,bn,ba,bD,bx⟩⟩
 rintro dB cc ⟨bV,bo,bp,bq,cn,co,df,cK,cB⟩
 refine sR (wDu (.fx 4 .nil .stop)) Z (oM Z bo (oM Z co (oM Z bp (oM Z bq ?_))))
 have aY:=bG.le df
 refine bnK bO fun bU cC cZ=>zG 1 Z Z Z Z (zH Z Z Tryz.call89 (zB Z (zB Z (zB Z (zB Z zN)))) Z) cK (fun hs=>wCC l2 O aa x3 p1 p2 ae cc bV hs aY cC) (.inl Z) ?_
 rintro aK dn du cd bP cL ⟨rfl,rfl,bA⟩
 have cM:SW w [B0] U aK [.row O aa 3 1 (hH KL.encI bU)] cd:=cL
 refine eN (zY (yl (fun (aF,am) σ_ w_=>∃ (U_:PHeap),σ_ 0=.slice O aF.length aa/\σ_ 1=jV p1/\σ_ 2=ae/\σ_ 6=jV am/\PHeap.Le aK U_/\SW w [B0] U U_ [.row O aa 3 1 (hH KL.encI aF)] w_/\aF.length=p0.length) cZ ?_ ?_))
 exact ⟨aK,(nL (b:=(.slice O l2.length aa:Value)) (c:=(.slice O bU.length aa:Value)) bo (by rw [bA])),bp,bq,cn,(zL _),cM,(bA.trans cB)⟩
 rintro ⟨aF,am⟩ dx dC dp ⟨av,cj,bk,cm,aM,aG,bF,br⟩ a7 cP
 try dsimp only at a7
 refine zJ (sR fL3 Z (oM Z aM (oM Z bk (oR Z (zT Z Z Z) (eN ?_)))))
 by_cases ag:am < p1
 have bH:=a7;rw [if_pos ag] at bH;replace ag:=zK ag
 refine cT Z ag (kN (zY (sR fL4 Z (oM Z aM (oR Z (Runs.mulw Z Z Z) (oA Z Z (oA Z Z (eN ?_))))))))
 have q:=bnd bH
 obtain ⟨⟨aq,bb⟩,c6,bI⟩:=q
 try dsimp only at bI
 refine yI (fun σ_ w_=>∃ (U_:PHeap),σ_ 0=.slice O aq.length aa/\σ_ 1=jV p1/\σ_ 2=ae/\σ_ 6=jV am/\σ_ 7=jV bb/\PHeap.Le av U_/\SW w [B0] U U_ [.row O aa 3 1 (hH KL.encI aq)] w_/\aq.length=p0.length) ?_ ?_
 refine zY (yl (fun (an,aH,aI) σ_ w_=>∃ (U_:PHeap),σ_ 0=.slice O an.length aa/\σ_ 1=jV p1/\σ_ 2=ae/\σ_ 6=jV am/\σ_ 7=jV aH/\σ_ 8=jV aI/\PHeap.Le av U_/\SW w [B0] U U_ [.row O aa 3 1 (hH KL.encI an)] w_/\an.length=p0.length) c6 ?_ ?_)
 exact ⟨av,cj,bk,cm,aM,Z,Z,(zL _),bF,br⟩
 rintro ⟨an,aH,aI⟩ dv dy bW ⟨be,aN,aO,aP,ax,aQ,ay,a8,bB,bt⟩ aZ cN
 try dsimp only at aZ
 refine zJ (sR fL3 Z (oM Z ay (oM Z aO (oR Z (Runs.leq Z Z Z) (eN ?_)))))
 by_cases ah:aI <= p1
 have bJ:=aZ;rw [if_pos ah] at bJ;replace ah:=zK ah
 refine cT Z ah (kN (zY (sR (wJK (.fx 7 .nil .stop)) Z (oM Z aN (oM Z aQ (oM Z aQ (oM Z ax (oR Z (zV Z Z Z) (oM Z ay (oM Z aP ?_))))))))))
 have cp:=aY.le bP
 have cq:=cp.le aG
 have cr:=cq.le a8
 refine bnK bJ fun bQ ct cQ=>zG 1 Z Z Z Z (zH Z Z yG (zB Z (zB Z (zB Z (zB Z (zB Z zN))))) Z) bB (fun hs=>wCi 1000 an O aa aH (w64 (aH + am)) aI p2 ae bW be hs cr ct) (.inl Z) ?_
 rintro bf dk dq bX db cD ⟨rfl,rfl,bu⟩
 have cE:SW w [B0] U bf [.row O aa 3 1 (hH KL.encI bQ)] bX:=cD
 refine eN (sR fL2 Z (oM Z ay (oA Z Z (eN (rR fL5 Z (oM Z ay (oM Z ax (oR Z (Runs.mulw Z Z Z) (oR Z (zV Z Z Z) (oA Z Z (zc (zk ?_))))))))))))
 have q:=hJ cQ
 obtain rfl:=q
 exact zI ⟨rfl,_,rfl,⟨bf,(nL (b:=(.slice O an.length aa:Value)) (c:=(.slice O bQ.length aa:Value)) aN (by rw [bu])),aO,aP,ax,rfl,rfl,(a8.trans db),cE,(bu.trans bt)⟩⟩
 have bK:=aZ;rw [if_neg ah] at bK;replace ah:=zK ah
 refine cF Z ah (ZQ (zg ?_))
 have q:=wAY bK
 obtain ⟨dg,cR,cf⟩:=q
 have q:=cN dg cf
 obtain rfl:=q
 refine zg (ZJ ?_)
 cases cR
 exact zI ⟨Z,⟨be,aN,aO,aP,ax,aQ,a8,bB,bt⟩⟩
 rintro dz bY ⟨bg,aR,az,aS,aT,bm,a9,bC,bv⟩
 refine zJ (sR fL4 Z (oM Z bm (oM Z aT (oR Z (zV Z Z Z) (oA Z Z (eN (sR fL3 Z (oM Z Z (oM Z az (oR Z (zT Z Z Z) (eN (ifc bI ?_ ?_))))))))))))
 intro aL cS
 refine cT Z aL (rR (wDk (.fx 5 .nil .stop)) Z (oM Z aR (oM Z bm (oM Z Z (oM Z az (oM Z aS ?_))))))
 have cu:=aY.le bP
 have cw:=cu.le aG
 have cx:=cw.le a9
 refine bnK cS fun bR cy cU=>zG 1 Z Z Z Z (zH Z Z yG (zB Z (zB Z (zB Z (zB Z (zB Z zN))))) Z) bC (fun hs=>wCi 1000 aq O aa bb (w64 (bb + am)) p1 p2 ae bY bg hs cx cy) (.inl Z) ?_
 rintro bh dl dr bZ dd cG ⟨rfl,rfl,bw⟩
 have cH:SW w [B0] U bh [.row O aa 3 1 (hH KL.encI bR)] bZ:=cG
 refine eN (rR fL3 Z (oM Z aT (oR Z (Runs.mulw Z Z Z) (oA Z Z (zc (zk ?_))))))
 have q:=hJ cU
 obtain rfl:=q
 exact zI ⟨rfl,_,rfl,⟨bh,(nL (b:=(.slice O aq.length aa:Value)) (c:=(.slice O bR.length aa:Value)) aR (by rw [bw])),az,aS,rfl,((aG.trans a9).trans dd),cH,(bw.trans bv)⟩⟩
 intro aL cV
 refine cF Z aL (kN (rR fL3 Z (oM Z aT (oR Z (Runs.mulw Z Z Z) (oA Z Z (zc (zk ?_)))))))
 have q:=hJ cV
 obtain rfl:=q
 exact zI ⟨Z,_,Z,⟨bg,aR,az,aS,Z,(aG.trans a9),bC,bv⟩⟩
 have bL:=a7;rw [if_neg ag] at bL;replace ag:=zK ag
 refine cF Z ag (ZQ (zg ?_))
 have q:=wAY bL
 obtain ⟨dh,cW,cg⟩:=q
 have q:=cP dh cg
 obtain rfl:=q
 refine zg (ZJ ?_)
 have hE:=hJ cW;first | subst r | cases hE
 exact ⟨Z,_,(wDv),av,_,bF,Z,Z,br⟩
theorem wDV (O:List Int) (aa:Option Addr) (ab:Nat) (p1:((Int × Int)->Option Int)) (ae:Value) (w:World) (U:PHeap) (hS:St0 w U [.row aa ab 3 1 (hH KL.encI O)]) (ao:FnOK Tryz.prog U ae wMU wMV p1) {r:(List Int)} (hm:wAm O p1=some r):Gv Tryz.prog 24 [.slice aa O.length ab,ae] w (wBl w [.row aa ab 3 1 (hH KL.encI O)] U (fun U_ L_ v=>v=.tuple #[]/\L_=[.row aa ab 3 1 (hH KL.encI r)]/\r.length=O.length)):=by
 unfold wAm at hm
 refine Gv.of Tryz.func24 Z Tryz.ntmps24 Tryz.results24 Z (rR (wDu (.fx 4 .nil .stop)) Z (oM Z Z (oM Z Z (oR Z (zx Z Z zD) (oM Z Z (bnK hm fun x2 h3 ap=>zG 1 Z Z Z Z (zH Z Z Tryz.call55 (zB Z (zB Z (zB Z zN))) Z) hS (fun hs=>wEH O aa ab (↑O.length:Int) p1 ae w U hs ao h3) (.inl Z) ?_))))))
 rintro U5 L6 v7 W8 av am ⟨rfl,rfl,ah⟩
 have an:SW w [.row aa ab 3 1 (hH KL.encI O)] U U5 [.row aa ab 3 1 (hH KL.encI x2)] W8:=am
 refine zc ?_
 have hE:=hJ ap;first | subst r | cases hE
 exact ⟨Z,_,(wDv),U5,_,an,Z,Z,ah⟩
theorem wGX (O:List wAK) (af:Option Addr) (ag:Nat) (p1:wAX) (w:World) (U:PHeap) (hS:St0 w U []) (dH:Sl U 2 af ag O.length (hH wAe O)) {r:(List wBR) × Int} (hm:wCo O p1=some r):Gv Tryz.prog 8 [.slice af O.length ag,.agg #[jV p1.Unit,jV p1.Limit]] w (wBl w [] U (fun U_ L_ v=>∃ (A0:Option Addr) (c0:Nat),v=.tuple #[.slice A0 r.1.length c0,jV r.2]/\L_=[.row A0 c0 47 3 (hH wBG r.1)])):=by
 unfold wCo at hm
 refine Gv.of Tryz.func8 rfl Tryz.ntmps8 Tryz.results8 rfl (sR gAy rfl (zu (cs:=[.slice af O.length ag]) rfl rfl rfl rfl rfl rfl (by rfl) hS ?_))
 intro W1 b2 dx
 have q:=dx.freeze (k:=0) rfl
 obtain ⟨U5,d6,au,dC⟩:=q
 replace au:=Cl.of au
 have dE:sW w U U5 [] W1:=dC
 replace au:Cl U5 b2 0 [.slice af O.length ag]:=au
 let B0:List Value:=[jV p1.Unit,jV p1.Limit]
 refine zu (cs:=B0) rfl rfl rfl rfl rfl rfl (by rfl) dE ?_
 intro cd ab bc
 refine oA Z Z (oA Z Z (eN (sR (.fl 0 (.fl 1 (.fx 2 (wLG (.fx 6 (.fx 7 (.fl 8 .nil) .stop) .stop)) .stop))) Z (oL Z (bc.ldC (f:=0) au (v:=.slice af O.length ag) Z Z Tryz.isAgg25 Z) (oL Z (bc.ldBA (j:=0) Z Z Z Tryz.isAgg35 Tryz.sizeOf35 (vs:=B0) Z Z) ?_)))))
 have bN:=dH.le d6
 have q:=bnd hm
 obtain ⟨⟨aj,d9⟩,cN,bS⟩:=q
 try dsimp only at bS
 refine zG 0 Z Z Z Z (zH Z Z Tryz.call23 (zB Z (zB Z zN)) Z) bc (fun hs=>wGK O af ag p1 cd U5 hs bN cN) (.inr Z) ?_
 rintro aH eg eO ci bV dt ⟨aE,aI,rfl,rfl⟩
 let B1:Res:=.row aE aI 3 1 (hH KL.encI aj)
 have dw:sW w U aH [B1,.blk ab 35 B0] ci:=dt
 refine oM Z Z (oR Z (zZ Z Z (v:=.slice aE aj.length aI) Z) (oR Z (zZ Z Z (v:=jV d9) Z) (zX (cs:=[.slice none 0 0]) Z Z Z Z Z Tryz.zeroValue41 Z dw ?_)))
 intro eo ac dy
 let B2:List Value:=[.slice aE aj.length aI]
 refine za (j:=0) (vs:=B2) Z Z Z Z dy Z Z Z Z ZC (zA Z) Z Z Z ?_
 intro cm dz
 have bf:sW w U aH [.blk ac 41 B2,B1,.blk ab 35 B0] cm:=dz
 refine oA Z Z (eN (zJ (sR fL2 Z (oM Z Z (oR Z (Zb Z Z Z) (eN (ifc bS ?_ ?_)))))))
 intro a6 dW
 refine zj (ZA (fun h=>h a6.out)) (kN (sR fL1 Z (oA Z Z (eN (zJ (sR fL3 Z ?_))))))
 have bO:=au.le bV
 refine oL Z (bf.ldC (f:=0) bO (v:=.slice af O.length ag) Z Z Tryz.isAgg25 Z) (oR Z (zx Z Z Zh) (oM Z Z (eN (zY (bnK dW fun bm dK dX=>?_)))))
 have q:=wBE dK
 obtain ⟨bj,dL⟩:=q
 replace bj:=zK bj
 refine CK.forN' (fun ae aL σ_ w_=>∃ (U_:PHeap) (aO:Option Addr) (aS:Nat),σ_ 24=jV (↑ae:Int)/\σ_ 2=.pointer (some ⟨b2,0,none⟩)/\σ_ 6=.pointer (some ⟨ac,0,none⟩)/\σ_ 8=.slice aO aL.length aS/\σ_ 23=jV (↑O.length:Int)/\PHeap.Le aH U_/\sW w U U_ [B1,.blk ac 41 B2,.blk ab 35 B0,.row aO aS 3 1 (hH KL.encI aL)] w_) dL ?_ ?_ ?_
 have dA:=bf.nilrow 3 1
 exact ⟨aH,none,0,rfl,rfl,rfl,rfl,rfl,(zL _),(dA.pick [2,1,3,0] _ (by decide) rfl)⟩
 rintro ae aL eR eV ez bh ⟨aZ,aO,aS,a8,cA,cB,cC,bJ,d7,dB⟩ d5
 have bz:Hid ((↑ae:Int) < (↑O.length:Int)):=zK (wAx bh)
 replace bh:=zK bh
 have dO:Hid (w64 ((↑ae:Int) + 1)=(↑(ae + 1):Int)):=zK (by have h1:=bj.out;have h2:=bz.out;rw [wAW] <;> omega)
 refine sR fL1 Z (oR Z (zT Z a8 bJ) (eN (zJ (cT Z bz (kN (zJ (zY (sR fL2 Z (oM Z a8 (oA Z Z (eN (rR (.fl 0 (.fl 1 (.fx 2 (.fx 3 (.fl 4 .nil) .stop) .stop))) Z (oM Z cC (oM Z Z (zr (pv:=[(0,jV (↑ae:Int))]) (zs:=[jV 0]) (cs:=[jV (↑ae:Int)]) Z Z Z Z Z (wAE Z wAL) zD zC zt Z Z Z Z Z dB ?_)))))))))))))))
 intro cn cq dD
 let B3:Res:=.row (some ⟨cq,0,none⟩) 1 3 1 (hH KL.encI [(↑ae:Int)])
 have bR:sW w U aZ [B3,B1,.blk ac 41 B2,.blk ab 35 B0,.row aO aS 3 1 (hH KL.encI aL)] cn:=dD
 refine bnK d5 fun bX cY dY=>Zn (j:=4) (enc:=KL.encI) (xs:=aL) (ys:=[(↑ae:Int)]) (zs:=bX) rfl rfl rfl rfl rfl yW wGs rfl rfl rfl rfl rfl rfl bR rfl rfl rfl (bR.srcR (j:=0) rfl (by decide) (wAC (f:=KL.encI) (sz:=1) (fun _=>rfl) [(↑ae:Int)])) (fun _=>rfl) (fun _=>rfl) cY rfl ?_
 intro bp bA co dF
 have dG:sW w U aZ [B3,B1,.blk ac 41 B2,.blk ab 35 B0,.row bp bA 3 1 (hH KL.encI bX)] co:=dF
 refine oA Z Z (zc (zk (zI (rR fL2 Z (oR Z (ZI (zV Z a8 Z) (congrArg (jV) dO.out)) (oM Z Z (zc ?_)))))))
 cases dY
 exact zI ⟨rfl,⟨aZ,bp,bA,rfl,cA,cB,rfl,bJ,d7,(dG.pick [1,2,3,4] _ (by decide) rfl)⟩⟩
 rintro eW aQ ⟨eh,ao,ap,cE,bB,bC,bD,cw,bT,de⟩
 have cr:Hid (¬ ((↑(((↑O.length:Int):Int) - 0).toNat:Int) < (↑O.length:Int))):=zK (wAd)
 refine sR fL1 Z (oR Z (zT Z cE cw) (eN (zJ (cF Z cr (ZQ (zg (zg (ZJ (zI (sR gAn Z (oM Z bD ?_)))))))))))
 have q:=de.freezeR (k:=0) (n:=aj.length) rfl (wAC (f:=KL.encI) (sz:=1) (fun _=>rfl) aj) (by decide)
 obtain ⟨ca,bU,dZ,dg⟩:=q
 let B4:Res:=.row ao ap 3 1 (hH KL.encI bm)
 have dh:sW w U ca [.blk ac 41 B2,.blk ab 35 B0,B4] aQ:=dg
 have q:=dh.freeze (k:=0) rfl
 obtain ⟨aG,bk,aq,df⟩:=q
 replace aq:=Cl.of aq
 have di:sW w U aG [.blk ab 35 B0,B4] aQ:=df
 replace aq:Cl aG ac 0 B2:=aq
 refine oR Z (Runs.mkf Z zN (zB bC (zB bB zN))) ?_
 have bK:=dZ.le bk
 have cG:=bO.le bT
 have cH:=cG.le bU
 have bL:=cH.le bk
 have cI:=bN.le bV
 have cJ:=cI.le bT
 have cK:=cJ.le bU
 have bM:=cK.le bk
 have dd:FnOK Tryz.prog aG (.func (.func 25) #[] #[.pointer (some ⟨ac,0,none⟩),.pointer (some ⟨b2,0,none⟩)]) wMU wMV (fun x=>wBL x.1 x.2 aj O):=⟨25,[],[.pointer (some ⟨ac,0,none⟩),.pointer (some ⟨b2,0,none⟩)],rfl,Tryz.call25,fun U1 w1 x y vs le hs ha hm=>by obtain rfl:=ha;exact wFz x.1 x.2 aj ac aE aI O b2 af ag w1 U1 hs (aq.le le) (bK.le le) (bL.le le) (bM.le le) hm⟩
 refine bnK dX fun ah cL dP=>?_
 have dk:sW w U aG [B4,.blk ab 35 B0] aQ:=di.pick [1,0] _ (by decide) rfl
 refine zG 1 Z Z Z Z (zH Z Z Tryz.call24 (zB Z (zB Z zN)) Z) dk (fun hs=>wDV bm ao ap (fun x=>wBL x.1 x.2 aj O) (.func (.func 25) #[] #[.pointer (some ⟨ac,0,none⟩),.pointer (some ⟨b2,0,none⟩)]) aQ aG hs dd cL) (.inl Z) ?_
 rintro aW ef eM cf aT dl ⟨rfl,rfl,cM⟩
 let B5:Res:=.row ao ap 3 1 (hH KL.encI ah)
 have dm:sW w U aW [B5,.blk ab 35 B0] cf:=dl
 refine eN (sR fL1 rfl (Zy rfl rfl rfl rfl rfl rfl (eN (zJ (sR fL3 rfl (zU rfl rfl rfl rfl rfl (nL (b:=(.slice ao bm.length ap:Value)) (c:=(.slice ao ah.length ap:Value)) bD (by rw [cM])) (ze rfl rfl rfl rfl (fun _=>zx rfl rfl zD) (zU rfl rfl rfl rfl rfl rfl (eN (zY (bnK dP fun eS dI dQ=>?_)))))))))))
 have q:=wBE dI
 obtain ⟨bi,dJ⟩:=q
 replace bi:=zK bi
 refine CK.forN' (fun aJ aK σ_ w_=>∃ (U_:PHeap) (aN:Option Addr) (aR:Nat),σ_ 37=jV (↑aJ:Int)/\σ_ 2=.pointer (some ⟨b2,0,none⟩)/\σ_ 6=.pointer (some ⟨ac,0,none⟩)/\σ_ 10=.slice aN aK.length aR/\σ_ 35=.slice ao ah.length ap/\σ_ 36=jV (↑ah.length:Int)/\PHeap.Le aW U_/\sW w U U_ [.blk ab 35 B0,.row aN aR 47 3 (hH wBG aK),B5] w_) dJ ?_ ?_ ?_
 have dn:=dm.nilrow 47 3
 exact ⟨aW,none,0,rfl,bB,bC,rfl,rfl,rfl,(zL _),(dn.pick [2,0,1] _ (by decide) rfl)⟩
 rintro aJ aK eQ eT bu bg ⟨aX,aN,aR,a7,bF,bG,cx,bH,bI,aM,be⟩ d4
 have bw:Hid ((↑aJ:Int) < (↑ah.length:Int)):=zK (wAx bg)
 replace bg:=zK bg
 have dN:Hid (w64 ((↑aJ:Int) + 1)=(↑(aJ + 1):Int)):=zK (by have h1:=bi.out;have h2:=bw.out;rw [wAW] <;> omega)
 refine sR fL1 Z (oR Z (zT Z a7 bI) (eN (zJ (cT Z bw (kN (zJ (zY (sR fL3 Z (bnK d4 fun _ a9 dR=>?_)))))))))
 obtain ⟨eA,bP⟩:=be.rowSome (j:=2) rfl (by rw [wAC (f:=KL.encI) (sz:=1) (fun _=>rfl) ah];have hz:=wAR a9;omega)
 refine oR Z (Zf Z bH bP a7 zD zC (wAR a9)) ?_
 have dM:=wAt (xs:=ah) (wAR a9)
 refine ZD rfl rfl rfl rfl (be.ldR (j:=2) rfl bP rfl rfl zF (wAT (sz:=1) (fun _=>rfl) _ _ 0 _ dM (by first | omega | rfl | simp) rfl)) rfl (Zy rfl rfl rfl rfl rfl rfl (eN (ZB zw [3,1,3,3,3,1,1,3,3,1,3,2,0,3] (wJm (.fx 11 (.fx 12 (.fl 13 .nil) .stop) .stop)) (by kernel_rfl) ?_)))
 have av:=be.drew
 generalize hw_W192:({ bu with drawn:=bu.drawn + 1 }:World)=ej at av ⊢
 refine oM Z cx ?_
 have cO:=bL.le aT
 have cP:=cO.le aM
 refine oL Z (av.ldC (f:=0) cP (v:=.slice af O.length ag) Z bF Tryz.isAgg25 Z) (oM Z Z (bnK dR fun ay ba dS=>?_))
 have cQ:=bM.le aT
 have cR:=cQ.le aM
 have q:=cR.el (fun _=>rfl) (wAc ba)
 obtain ⟨eB,eJ,cZ,da⟩:=q
 refine oR Z (ZM Z Z cZ Z Zh Zw (wCt ba) (wCz ba)) (oR Z (zM Z Z yR Z zC) (oL Z (av.ldC (f:=0) da (v:=jV ay.Bib) Z Z zF Z) ?_))
 have cS:=aq.le aT
 have cU:=cS.le aM
 refine oL Z (av.ldC (f:=0) cU (v:=.slice aE aj.length aI) Z bG ZH Z) (oM Z Z (bnK dS fun az bb dT=>?_))
 have cV:=bK.le aT
 have cW:=cV.le aM
 have q:=cW.el (fun _=>rfl) (wAc bb)
 obtain ⟨eE,eL,c6,db⟩:=q
 refine oR Z (ZM Z Z c6 Z zD zC (wCt bb) (wCz bb)) (oL Z (av.ldC (f:=0) db (v:=jV az) Z Z zF Z) ?_)
 let B6:List Value:=[jV ay.Bib,jV az,jV 0]
 let B7:List Value:=[jV 0,jV 0,jV 0]
 refine oR Z (zl (pv:=[(0,jV ay.Bib),(1,jV az)]) (z:=B7) (cs:=B6) Z (wAE Z (wAE Z wAL)) Tryz.zeroValue47 wLW Z Z) (zr (pv:=[(0,.agg B6.toArray)]) (zs:=B7) (cs:=B6) Z Z Z Z Z (wAE Z wAL) yS Tryz.sizeOf47 Tryz.zeroValue47 Z Z Z Z Z av ?_)
 intro cg cp dp
 let B8:Res:=.row (some ⟨cp,0,none⟩) 1 47 3 (hH wBG [(⟨ay.Bib,az,0⟩:wBR)])
 have bQ:sW w U aX [B8,.blk ab 35 B0,.row aN aR 47 3 (hH wBG aK),B5] cg:=dp
 refine bnK dT fun bW cX dU=>Zn (j:=2) (enc:=wBG) (xs:=aK) (ys:=[(⟨ay.Bib,az,0⟩:wBR)]) (zs:=bW) rfl rfl rfl rfl rfl Tryz.underlying30 wNb rfl rfl rfl rfl rfl rfl bQ rfl rfl rfl (bQ.srcR (j:=0) rfl (by decide) (wAC (f:=wBG) (sz:=3) (fun _=>rfl) [(⟨ay.Bib,az,0⟩:wBR)])) (fun _=>rfl) (fun _=>rfl) cX rfl ?_
 intro bo bx cj dq
 have dr:sW w U aX [B8,.blk ab 35 B0,.row bo bx 47 3 (hH wBG bW),B5] cj:=dq
 refine oA Z Z (zc (zk (zI (rR fL2 Z (oR Z (ZI (zV Z a7 Z) (congrArg (jV) dN.out)) (oM Z Z (zc ?_)))))))
 cases dU
 exact zI ⟨rfl,⟨aX,bo,bx,rfl,bF,bG,rfl,bH,bI,aM,(dr.pick [1,2,3] _ (by decide) rfl)⟩⟩
 rintro eU en ⟨cb,bY,ct,cD,eF,eG,cy,eH,cz,eI,du⟩
 have cu:Hid (¬ ((↑(((↑ah.length:Int):Int) - 0).toNat:Int) < (↑ah.length:Int))):=zK (wAd)
 refine sR fL1 Z (oR Z (zT Z cD cz) (eN (zJ (cF Z cu (ZQ (zg (zg (ZJ (zI (sR fL3 Z (oM Z cy (oA Z Z (oA Z Z (eN (zR ?_)))))))))))))))
 cases dQ
 exact ⟨rfl,_,(wDw rfl rfl),cb,_,(du.pick [1] _ (by decide) rfl),bY,ct,rfl,rfl⟩
 intro a6 dV
 refine cT Z a6 (sR fL3 Z (oM Z Z (oA Z Z (oA Z Z (eN (zR (zW ?_)))))))
 have dv:=bf.nilrow 47 3
 cases dV
 exact ⟨rfl,_,(wDw rfl rfl),aH,_,(dv.pick [0] _ (by decide) rfl),none,0,rfl,rfl⟩
theorem wBg (p0:Int) (p1:Int) (p2:Int) (w:World) (U:PHeap) (hS:St0 w U [])  {r:Bool} (hm:wBD p0 p1 p2=some r):Gv Tryz.prog 91 [jV p0,jV p1,jV p2] w (wBl w [] U (fun U_ L_ v=>v=.bool r/\L_=[])):=by
 unfold wBD at hm
 refine Gv.of Tryz.func91 Z Tryz.ntmps91 Tryz.results91 Z (sR fL1 Z (oA Z Z (eN (sR fL9 Z (oM Z Z (oM Z Z (oR Z (Runs.geq Z Z Z) (oM Z Z ?_))))))))
 by_cases O:p1 <= p0
 have aa:=hm;rw [if_pos O] at aa;replace O:=zK O
 refine zU Z Z Z (wT Z O) Z Z (zU Z Z Z (wT Z O) Z Z (rU Z (wT Z O) (Runs.leq Z Z Z) (oR Z (zQ Z (Za O.out) Z) (oA Z Z (eN (zR ?_))))))
 first | (obtain rfl:=hJ aa) | cases aa
 exact ⟨Z,_,(ZG Z),U,_,hS,Z,Z⟩
 have ae:=hm;rw [if_neg O] at ae;replace O:=zK O
 refine oF Z O (oF Z O (oF Z O (oR Z (zd Z (ZA O.out) Z) (oA Z Z (eN (zR ?_))))))
 have hE:=hJ ae;first | subst r | cases hE
 exact ⟨Z,_,(ZG Z),U,_,hS,Z,Z⟩
theorem wGA (O:List Int) (am:Option Addr) (an:Nat) (p1:(Int->Option Bool)) (ao:Value) (w:World) (U:PHeap) (hS:St0 w U []) (aV:Sl U 1 am an O.length (hH KL.encI O)) (aW:FnOK Tryz.prog U ao wNR wNS p1) {r:Bool} (hm:wCO O p1=some r):Gv Tryz.prog 92 [.slice am O.length an,ao] w (wBl w [] U (fun U_ L_ v=>v=.bool r/\L_=[])):=by
 unfold wCO at hm
 refine Gv.of Tryz.func92 Z Tryz.ntmps92 Tryz.results92 Z (sR fL1 Z (oA Z Z (eN (zJ (sR fL3 Z (oM Z Z (oR Z (zx Z Z zD) (oM Z Z (eN (zY ?_))))))))))
 have q:=wBs hm
 obtain ⟨r3,af⟩:=q
 have q:=wBr af
 obtain ⟨ah,aZ⟩:=q
 replace ah:=zK ah
 refine yQ (fun k2 _ σ_ w_=>∃ (U_:PHeap),σ_ 9=jV (↑k2:Int)/\σ_ 1=ao/\σ_ 7=.slice am O.length an/\σ_ 8=jV (↑O.length:Int)/\PHeap.Le U U_/\sW w U U_ [] w_) aZ ?_ ?_ ?_
 exact ⟨U,Z,Z,Z,Z,(zL _),hS⟩
 rintro k2 ⟨⟩ bt bv W8 ag ⟨bg,ae,aq,au,av,aj,ay⟩ aF aX
 try dsimp only at aF
 have ap:Hid ((↑k2:Int) < (↑O.length:Int)):=zK (wAx ag)
 replace ag:=zK ag
 have a6:Hid (w64 ((↑k2:Int) + 1)=(↑(k2 + 1):Int)):=zK (by have h1:=ah.out;have h2:=ap.out;rw [wAW] <;> omega)
 refine sR fL1 Z (oR Z (zT Z ae av) (eN (zJ (cT Z ap (kN (zJ (zY (sR fL3 Z (bnK aF fun aH ax a7=>?_)))))))))
 have aO:=aV.le aj
 have q:=aO.el (fun _=>rfl) (wAc ax)
 obtain ⟨bj,bo,aR,aS⟩:=q
 refine oR Z (Zf Z au aR ae zD zC (wCG ax)) (oL Z (ay.ldC (f:=0) aS (v:=jV aH) Z Z zF Z) (oA Z Z (eN (sR gAw Z (oM Z aq (oM Z Z (bnK a7 fun br aP a8=>?_)))))))
 have aQ:=aW.le aj
 refine yf (a:=aH) Z Z Z Z Z Z (zB Z zN) ay aQ Z aP ?_
 rintro ab bf bq aJ bc aT ⟨rfl,rfl⟩
 have az:sW w U ab [] aJ:=aT
 refine oR Z (ZY Z Z) (eN (ifc a8 ?_ ?_))
 intro ac a9
 refine zj (nC ac.out) (ZS (zk (zI (rR fL2 Z (oR Z (ZI (zV Z ae Z) (congrArg (jV) a6.out)) (oM Z Z (zc ?_)))))))
 have q:=hJ a9
 obtain rfl:=q
 exact zI ⟨Z,_,Z,⟨ab,Z,aq,au,av,(aj.trans bc),az⟩⟩
 intro ac ba
 refine ZK (nF (ac.out)) (sR fL1 Z (oA Z Z (eN (zR (zn (zW ?_))))))
 have q:=wAY ba
 obtain ⟨be,bb,aL⟩:=q
 have q:=wBo hm af (aX be aL)
 obtain rfl:=q
 refine zW (zn (zW ?_))
 have hE:=hJ bb;first | subst r | cases hE
 exact ⟨Z,_,(ZG Z),ab,_,az,Z,Z⟩
 rintro ⟨⟩ bu bh ⟨aI,aN,bk,bm,aM,bn,aU⟩ aY
 have aE:=wCk hm af aY
 try dsimp only at aE
 have aK:Hid (¬ ((↑(((↑O.length:Int):Int) - 0).toNat:Int) < (↑O.length:Int))):=zK (wAd)
 refine sR fL1 Z (oR Z (zT Z aN aM) (eN (zJ (cF Z aK (ZQ (zg (zg (ZJ (zI (sR fL1 Z (oA Z Z (eN (zR ?_)))))))))))))
 have hE:=hJ aE;first | subst r | cases hE
 exact ⟨Z,_,(ZG Z),aI,_,aU,Z,Z⟩
theorem wGt (O:Int) (w:World) (U:PHeap) (hS:St0 w U [])  {r:Bool} (hm:wCY O=some r):Gv Tryz.prog 93 [jV O] w (wBl w [] U (fun U_ L_ v=>v=.bool r/\L_=[])):=by
 unfold wCY at hm
 refine Gv.of Tryz.func93 Z Tryz.ntmps93 Tryz.results93 Z (sR fL1 Z (oA Z Z (eN (sR gAo Z (oM Z Z (bnK hm fun x1 h2 ag=>zG 0 Z Z Z Z (zH Z Z yL (zB Z (zB Z (zB Z zN))) Z) hS (fun hs=>wBg O 0 360000 w U hs h2) (.inr Z) ?_))))))
 rintro U4 L5 v6 W7 aj af ⟨rfl,rfl⟩
 have ae:sW w U U4 [] W7:=af
 refine oA Z Z (eN (zR ?_))
 have hE:=hJ ag;first | subst r | cases hE
 exact ⟨Z,_,(ZG Z),U4,_,ae,Z,Z⟩
theorem wEn (O:List wAF) (ao:Option Addr) (ap:Nat) (p1:(wAF->Option Bool)) (aq:Value) (w:World) (U:PHeap) (hS:St0 w U []) (a8:Sl U 2 ao ap O.length (hH wAA O)) (a9:FnOK Tryz.prog U aq wNT wNU p1) {r:Bool} (hm:wBZ O p1=some r):Gv Tryz.prog 94 [.slice ao O.length ap,aq] w (wBl w [] U (fun U_ L_ v=>v=.bool r/\L_=[])):=by
 unfold wBZ at hm
 refine Gv.of Tryz.func94 Z Tryz.ntmps94 Tryz.results94 Z (sR fL1 Z (oA Z Z (eN (zJ (sR fL3 Z (oM Z Z (oR Z (zx Z Z zy) (oM Z Z (eN (zY ?_))))))))))
 have q:=wBs hm
 obtain ⟨r3,ah⟩:=q
 have q:=wBr ah
 obtain ⟨am,bc⟩:=q
 replace am:=zK am
 refine yQ (fun k2 _ σ_ w_=>∃ (U_:PHeap),σ_ 9=jV (↑k2:Int)/\σ_ 1=aq/\σ_ 7=.slice ao O.length ap/\σ_ 8=jV (↑O.length:Int)/\PHeap.Le U U_/\sW w U U_ [] w_) bc ?_ ?_ ?_
 exact ⟨U,Z,Z,Z,Z,(zL _),hS⟩
 rintro k2 ⟨⟩ bB bD W8 aj ⟨aL,ag,ax,ay,az,an,aF⟩ aJ ba
 try dsimp only at aJ
 have av:Hid ((↑k2:Int) < (↑O.length:Int)):=zK (wAx aj)
 replace aj:=zK aj
 have be:Hid (w64 ((↑k2:Int) + 1)=(↑(k2 + 1):Int)):=zK (by have h1:=am.out;have h2:=av.out;rw [wAW] <;> omega)
 refine sR fL1 Z (oR Z (zT Z ag az) (eN (zJ (cT Z av (kN (zJ (zY (sR gAx Z (bnK aJ fun ab aE bf=>?_)))))))))
 have aT:=a8.le an
 have q:=aT.el (fun _=>rfl) (wAc aE)
 obtain ⟨br,bw,aW,aX⟩:=q
 refine oR Z (Zf Z ay aW ag zy zo (wCG aE)) (oL Z (aF.ldCA (f:=0) aX Z Z Zr zo (us:=[jV ab.Lo,jV ab.Hi]) Z Z) (zX (cs:=[jV 0,jV 0]) Z Z Z Z Z ZF Z aF ?_))
 intro bo au aY
 let B0:List Value:=[jV ab.Lo,jV ab.Hi]
 refine za (j:=0) (vs:=B0) Z Z Z Z aY Z Z Z Z zo (zA Z) Z Z Z ?_
 intro aN aZ
 have aG:sW w U aL [.blk au 37 B0] aN:=aZ
 refine eN (sR gAw Z (oM Z ax (oL Z (aG.ldBA (j:=0) Z Z Z Zr zo (vs:=B0) Z Z) (bnK bf fun bA aU bg=>?_))))
 have aV:=a9.le an
 refine yf (a:=ab) Z Z Z Z Z Z (zB Z zN) aG aV Z aU ?_
 rintro ae bn bz aO bk a6 ⟨rfl,rfl⟩
 have aH:sW w U ae [.blk au 37 B0] aO:=a6
 refine oR Z (ZY Z Z) (eN (ifc bg ?_ ?_))
 intro af bh
 refine zj (nC af.out) (ZS (zk (zI (rR fL2 Z (oR Z (ZI (zV Z ag Z) (congrArg (jV) be.out)) (oM Z Z (zc ?_)))))))
 have q:=hJ bh
 obtain rfl:=q
 exact zI ⟨rfl,_,rfl,⟨ae,rfl,ax,ay,az,(an.trans bk),(aH.pick [] _ (by decide) rfl)⟩⟩
 intro af bi
 refine ZK (nF (af.out)) (sR fL1 Z (oA Z Z (eN (zR (zn (zW ?_))))))
 have q:=wAY bi
 obtain ⟨bm,bj,aQ⟩:=q
 have q:=wBo hm ah (ba bm aQ)
 obtain rfl:=q
 refine zW (zn (zW ?_))
 have hE:=hJ bj;first | subst r | cases hE
 exact ⟨rfl,_,(ZG rfl),ae,_,(aH.pick [] _ (by decide) rfl),rfl,rfl⟩
 rintro ⟨⟩ bC bp ⟨aM,aS,bt,bu,aR,bv,a7⟩ bb
 have aI:=wCk hm ah bb
 try dsimp only at aI
 have aP:Hid (¬ ((↑(((↑O.length:Int):Int) - 0).toNat:Int) < (↑O.length:Int))):=zK (wAd)
 refine sR fL1 Z (oR Z (zT Z aS aR) (eN (zJ (cF Z aP (ZQ (zg (zg (ZJ (zI (sR fL1 Z (oA Z Z (eN (zR ?_)))))))))))))
 have hE:=hJ aI;first | subst r | cases hE
 exact ⟨Z,_,(ZG Z),aM,_,a7,Z,Z⟩
theorem wFP (p0:wAF) (p1:Int) (p2:Int) (w:World) (U:PHeap) (hS:St0 w U [])  {r:Bool} (hm:wCZ p0 p1 p2=some r):Gv Tryz.prog 96 [.agg #[jV p0.Lo,jV p0.Hi],jV p1,jV p2] w (wBl w [] U (fun U_ L_ v=>v=.bool r/\L_=[])):=by
 unfold wCZ at hm
 refine Gv.of Tryz.func96 rfl Tryz.ntmps96 Tryz.results96 rfl (sR gAi rfl (zu (cs:=[jV p0.Lo,jV p0.Hi]) rfl rfl rfl rfl rfl rfl (by rfl) hS ?_))
 intro W1 b2 ac
 refine oA Z Z (eN (sR fL18 Z (oR Z (zM Z Z ZU Z zC) (oL Z (ac.ldB (j:=0) Z Z Z zF (v:=jV p0.Lo) Z) (oR Z (zM Z Z ZU Z zC) (oL Z (ac.ldB (j:=0) Z Z Z zF (v:=jV p0.Hi) Z) (oR Z (Runs.leq Z Z Z) (oM Z Z ?_))))))))
 by_cases O:p0.Lo <= p0.Hi
 have af:=hm;rw [if_pos O] at af;replace O:=zK O
 refine rU Z (wT Z O) (zM Z Z ZU Z zC) (ZD Z Z Z (wT Z O) (ac.ldB (j:=0) Z Z Z zF (v:=jV p0.Lo) Z) Z (zU Z Z Z (wT Z O) Z Z (rU Z (wT Z O) (Runs.geq Z Z Z) (oR Z (zQ Z (Za O.out) Z) (oM Z Z (ifc af ?_ ?_))))))
 intro c7 ag
 refine rU Z (wT Z c7) (zM Z Z ZU Z zC) (ZD Z Z Z (wT Z c7) (ac.ldB (j:=0) Z Z Z zF (v:=jV p0.Hi) Z) Z (zU Z Z Z (wT Z c7) Z Z (rU Z (wT Z c7) (Runs.leq Z Z Z) (oR Z (zQ Z (Za c7.out) Z) (oA Z Z (eN (zR ?_)))))))
 first | (obtain rfl:=hJ ag) | cases ag
 exact ⟨rfl,_,(ZG rfl),U,_,(ac.pick [] _ (by decide) rfl),rfl,rfl⟩
 intro c7 am
 refine oF Z c7 (oF Z c7 (oF Z c7 (oF Z c7 (oR Z (zd Z (ZA c7.out) Z) (oA Z Z (eN (zR ?_)))))))
 have hE:=hJ am;first | subst r | cases hE
 exact ⟨rfl,_,(ZG rfl),U,_,(ac.pick [] _ (by decide) rfl),rfl,rfl⟩
 have ae:=hm;rw [if_neg O] at ae;replace O:=zK O
 refine oF Z O (oF Z O (oF Z O (oF Z O (oR Z (zd Z (ZA O.out) Z) (oM Z Z (oN Z (oN Z (oN Z (oN Z (oR Z (zd Z Z Z) (oA Z Z (eN (zR ?_)))))))))))))
 have hE:=hJ ae;first | subst r | cases hE
 exact ⟨rfl,_,(ZG rfl),U,_,(ac.pick [] _ (by decide) rfl),rfl,rfl⟩
theorem wGu (O:wAF) (w:World) (U:PHeap) (hS:St0 w U [])  {r:Bool} (hm:wCa O=some r):Gv Tryz.prog 95 [.agg #[jV O.Lo,jV O.Hi]] w (wBl w [] U (fun U_ L_ v=>v=.bool r/\L_=[])):=by
 unfold wCa at hm
 refine Gv.of Tryz.func95 Z Tryz.ntmps95 Tryz.results95 Z (sR gAi Z ?_)
 let B0:List Value:=[jV O.Lo,jV O.Hi]
 refine zu (cs:=B0) rfl rfl rfl rfl rfl rfl (by rfl) hS ?_
 intro W1 b2 ac
 refine oA Z Z (eN (sR gAo Z (oL Z (ac.ldBA (j:=0) Z Z Z Zr zo (vs:=B0) Z Z) (bnK hm fun x5 h6 an=>zG 0 Z Z Z Z (zH Z Z Tryz.call96 (zB Z (zB Z (zB Z zN))) Z) ac (fun hs=>wFP O 0 360000 W1 U hs h6) (.inr Z) ?_))))
 rintro U8 L9 aq af ap aj ⟨rfl,rfl⟩
 have am:sW w U U8 [.blk b2 37 B0] af:=aj
 refine oA Z Z (eN (zR ?_))
 have hE:=hJ an;first | subst r | cases hE
 exact ⟨rfl,_,(ZG rfl),U8,_,(am.pick [] _ (by decide) rfl),rfl,rfl⟩
theorem wEd (O:List wAO) (ao:Option Addr) (ap:Nat) (p1:(wAO->Option Bool)) (aq:Value) (w:World) (U:PHeap) (hS:St0 w U []) (a8:Sl U 3 ao ap O.length (hH wAG O)) (a9:FnOK Tryz.prog U aq wNV wNW p1) {r:Bool} (hm:wBM O p1=some r):Gv Tryz.prog 97 [.slice ao O.length ap,aq] w (wBl w [] U (fun U_ L_ v=>v=.bool r/\L_=[])):=by
 unfold wBM at hm
 refine Gv.of Tryz.func97 Z Tryz.ntmps97 Tryz.results97 Z (sR fL1 Z (oA Z Z (eN (zJ (sR fL3 Z (oM Z Z (oR Z (zx Z Z Zo) (oM Z Z (eN (zY ?_))))))))))
 have q:=wBs hm
 obtain ⟨r3,ah⟩:=q
 have q:=wBr ah
 obtain ⟨am,bc⟩:=q
 replace am:=zK am
 refine yQ (fun k2 _ σ_ w_=>∃ (U_:PHeap),σ_ 9=jV (↑k2:Int)/\σ_ 1=aq/\σ_ 7=.slice ao O.length ap/\σ_ 8=jV (↑O.length:Int)/\PHeap.Le U U_/\sW w U U_ [] w_) bc ?_ ?_ ?_
 exact ⟨U,Z,Z,Z,Z,(zL _),hS⟩
 rintro k2 ⟨⟩ bB bD W8 aj ⟨aL,ag,ax,ay,az,an,aF⟩ aJ ba
 try dsimp only at aJ
 have av:Hid ((↑k2:Int) < (↑O.length:Int)):=zK (wAx aj)
 replace aj:=zK aj
 have be:Hid (w64 ((↑k2:Int) + 1)=(↑(k2 + 1):Int)):=zK (by have h1:=am.out;have h2:=av.out;rw [wAW] <;> omega)
 refine sR fL1 Z (oR Z (zT Z ag az) (eN (zJ (cT Z av (kN (zJ (zY (sR gAx Z (bnK aJ fun aa aE bf=>?_)))))))))
 have aT:=a8.le an
 have q:=aT.el (fun _=>rfl) (wAc aE)
 obtain ⟨br,bw,aW,aX⟩:=q
 refine oR Z (Zf Z ay aW ag Zo yd (wCG aE)) (oL Z (aF.ldCA (f:=0) aX Z Z Tryz.isAgg39 yd (us:=[jV aa.Offset.Lo,jV aa.Offset.Hi,jV aa.Error]) Z Z) (zX (cs:=[jV 0,jV 0,jV 0]) Z Z Z Z Z Tryz.zeroValue39 Z aF ?_))
 intro bo au aY
 let B0:List Value:=[jV aa.Offset.Lo,jV aa.Offset.Hi,jV aa.Error]
 refine za (j:=0) (vs:=B0) Z Z Z Z aY Z Z Z Z yd (zA Z) Z Z Z ?_
 intro aN aZ
 have aG:sW w U aL [.blk au 39 B0] aN:=aZ
 refine eN (sR gAw Z (oM Z ax (oL Z (aG.ldBA (j:=0) Z Z Z Tryz.isAgg39 yd (vs:=B0) Z Z) (bnK bf fun bA aU bg=>?_))))
 have aV:=a9.le an
 refine yf (a:=aa) Z Z Z Z Z Z (zB Z zN) aG aV Z aU ?_
 rintro ae bn bz aO bk a6 ⟨rfl,rfl⟩
 have aH:sW w U ae [.blk au 39 B0] aO:=a6
 refine oR Z (ZY Z Z) (eN (ifc bg ?_ ?_))
 intro af bh
 refine zj (nC af.out) (ZS (zk (zI (rR fL2 Z (oR Z (ZI (zV Z ag Z) (congrArg (jV) be.out)) (oM Z Z (zc ?_)))))))
 have q:=hJ bh
 obtain rfl:=q
 exact zI ⟨rfl,_,rfl,⟨ae,rfl,ax,ay,az,(an.trans bk),(aH.pick [] _ (by decide) rfl)⟩⟩
 intro af bi
 refine ZK (nF (af.out)) (sR fL1 Z (oA Z Z (eN (zR (zn (zW ?_))))))
 have q:=wAY bi
 obtain ⟨bm,bj,aQ⟩:=q
 have q:=wBo hm ah (ba bm aQ)
 obtain rfl:=q
 refine zW (zn (zW ?_))
 have hE:=hJ bj;first | subst r | cases hE
 exact ⟨rfl,_,(ZG rfl),ae,_,(aH.pick [] _ (by decide) rfl),rfl,rfl⟩
 rintro ⟨⟩ bC bp ⟨aM,aS,bt,bu,aR,bv,a7⟩ bb
 have aI:=wCk hm ah bb
 try dsimp only at aI
 have aP:Hid (¬ ((↑(((↑O.length:Int):Int) - 0).toNat:Int) < (↑O.length:Int))):=zK (wAd)
 refine sR fL1 Z (oR Z (zT Z aS aR) (eN (zJ (cF Z aP (ZQ (zg (zg (ZJ (zI (sR fL1 Z (oA Z Z (eN (zR ?_)))))))))))))
 have hE:=hJ aI;first | subst r | cases hE
 exact ⟨Z,_,(ZG Z),aM,_,a7,Z,Z⟩
end Go.Proofs.YtkghaiefcjgfkaaGreat
namespace Go.Proofs.YtkghaiefcjgfkaaGreat
open Go.KL
set_option maxHeartbeats 4000000
theorem wGv (O:wAO) (w:World) (U:PHeap) (hS:St0 w U [])  {r:Bool} (hm:wCb O=some r):Gv Tryz.prog 98 [.agg #[jV O.Offset.Lo,jV O.Offset.Hi,jV O.Error]] w (wBl w [] U (fun U_ L_ v=>v=.bool r/\L_=[])):=by
 unfold wCb at hm
 refine Gv.of Tryz.func98 Z Tryz.ntmps98 Tryz.results98 Z (sR gAi Z ?_)
 let B0:List Value:=[jV O.Offset.Lo,jV O.Offset.Hi,jV O.Error]
 refine zu (cs:=B0) rfl rfl rfl rfl rfl rfl (by rfl) hS ?_
 intro W1 b2 aj
 refine oA Z Z (eN (sR (.fl 0 (.fl 1 (.fx 2 (wLG gAm) .stop))) Z (oR Z (zM Z Z yh Z zo) (oL Z (aj.ldBA (j:=0) Z Z Z Zr zo (vs:=[jV O.Offset.Lo,jV O.Offset.Hi]) Z Z) (bnK hm fun x5 h6 aE=>zG 0 Z Z Z Z (zH Z Z Tryz.call96 (zB Z (zB Z (zB Z zN))) Z) aj (fun hs=>wFP O.Offset (-36000) 36000 W1 U hs h6) (.inr Z) ?_)))))
 rintro U8 L9 aJ ag aH aq ⟨rfl,rfl⟩
 have ae:sW w U U8 [.blk b2 39 B0] ag:=aq
 refine oM Z Z (ifc aE ?_ ?_)
 intro aa ax
 refine ze Z Z Z (zO Z Z (congrArg nA aa.out)) (fun _=>zM Z Z yh Z zC) (ZD Z Z Z (zO Z Z (congrArg nA aa.out)) (ae.ldB (j:=0) Z Z Z zF (v:=jV O.Error) Z) Z (bnK ax fun aL ao ay=>zG 0 Z Z Z (zO Z Z (congrArg nA aa.out)) (zH Z Z yL (zB Z (zB Z (zB Z zN))) Z) ae (fun hs=>wBg O.Error 0 600 ag U8 hs ao) (.inr Z) ?_))
 rintro af aF aK an aI au ⟨rfl,rfl⟩
 have av:sW w U af [.blk b2 39 B0] an:=au
 refine oR Z (zQ Z (congrArg nA aa.out) Z) (oA Z Z (eN (zR ?_)))
 have hE:=hJ ay;first | subst r | cases hE
 exact ⟨rfl,_,(ZG rfl),af,_,(av.pick [] _ (by decide) rfl),rfl,rfl⟩
 intro aa az
 refine ZT Z Z Z (zS Z Z (congrArg nA (nB.2 aa.out)) Z) (ZT Z Z Z (zS Z Z (congrArg nA (nB.2 aa.out)) Z) (zz Z Z Z (zS Z Z (congrArg nA (nB.2 aa.out)) Z) (oR Z (zd Z (congrArg nA (nB.2 aa.out)) Z) (oA Z Z (eN (zR ?_))))))
 have hE:=hJ az;first | subst r | cases hE
 exact ⟨rfl,_,(ZG rfl),U8,_,(ae.pick [] _ (by decide) rfl),rfl,rfl⟩
theorem wCv (O:List wAJ) (ao:Option Addr) (ap:Nat) (p1:(wAJ->Option Bool)) (aq:Value) (w:World) (U:PHeap) (hS:St0 w U []) (a8:Sl U 4 ao ap O.length (hH wAB O)) (a9:FnOK Tryz.prog U aq wJt wJu p1) {r:Bool} (hm:wAp O p1=some r):Gv Tryz.prog 99 [.slice ao O.length ap,aq] w (wBl w [] U (fun U_ L_ v=>v=.bool r/\L_=[])):=by
 unfold wAp at hm
 refine Gv.of Tryz.func99 Z Tryz.ntmps99 Tryz.results99 Z (sR fL1 Z (oA Z Z (eN (zJ (sR fL3 Z (oM Z Z (oR Z (zx Z Z ZR) (oM Z Z (eN (zY ?_))))))))))
 have q:=wBs hm
 obtain ⟨r3,ah⟩:=q
 have q:=wBr ah
 obtain ⟨am,bc⟩:=q
 replace am:=zK am
 refine yQ (fun k2 _ σ_ w_=>∃ (U_:PHeap),σ_ 9=jV (↑k2:Int)/\σ_ 1=aq/\σ_ 7=.slice ao O.length ap/\σ_ 8=jV (↑O.length:Int)/\PHeap.Le U U_/\sW w U U_ [] w_) bc ?_ ?_ ?_
 exact ⟨U,Z,Z,Z,Z,(zL _),hS⟩
 rintro k2 ⟨⟩ bB bD W8 aj ⟨aL,ag,ax,ay,az,an,aF⟩ aJ ba
 try dsimp only at aJ
 have av:Hid ((↑k2:Int) < (↑O.length:Int)):=zK (wAx aj)
 replace aj:=zK aj
 have be:Hid (w64 ((↑k2:Int) + 1)=(↑(k2 + 1):Int)):=zK (by have h1:=am.out;have h2:=av.out;rw [wAW] <;> omega)
 refine sR fL1 Z (oR Z (zT Z ag az) (eN (zJ (cT Z av (kN (zJ (zY (sR gAx Z (bnK aJ fun aa aE bf=>?_)))))))))
 have aT:=a8.le an
 have q:=aT.el (fun _=>rfl) (wAc aE)
 obtain ⟨br,bw,aW,aX⟩:=q
 refine oR Z (Zf Z ay aW ag ZR Zj (wCG aE)) (oL Z (aF.ldCA (f:=0) aX Z Z yp Zj (us:=[jV aa.Skier,jV aa.Mat,jV aa.Clock,jV aa.Time]) Z Z) (zX (cs:=[jV 0,jV 0,jV 0,jV 0]) Z Z Z Z Z yP Z aF ?_))
 intro bo au aY
 let B0:List Value:=[jV aa.Skier,jV aa.Mat,jV aa.Clock,jV aa.Time]
 refine za (j:=0) (vs:=B0) Z Z Z Z aY Z Z Z Z Zj (zA Z) Z Z Z ?_
 intro aN aZ
 have aG:sW w U aL [.blk au 52 B0] aN:=aZ
 refine eN (sR gAw Z (oM Z ax (oL Z (aG.ldBA (j:=0) Z Z Z yp Zj (vs:=B0) Z Z) (bnK bf fun bA aU bg=>?_))))
 have aV:=a9.le an
 refine yf (a:=aa) Z Z Z Z Z Z (zB Z zN) aG aV Z aU ?_
 rintro ae bn bz aO bk a6 ⟨rfl,rfl⟩
 have aH:sW w U ae [.blk au 52 B0] aO:=a6
 refine oR Z (ZY Z Z) (eN (ifc bg ?_ ?_))
 intro af bh
 refine zj (nC af.out) (ZS (zk (zI (rR fL2 Z (oR Z (ZI (zV Z ag Z) (congrArg (jV) be.out)) (oM Z Z (zc ?_)))))))
 have q:=hJ bh
 obtain rfl:=q
 exact zI ⟨rfl,_,rfl,⟨ae,rfl,ax,ay,az,(an.trans bk),(aH.pick [] _ (by decide) rfl)⟩⟩
 intro af bi
 refine ZK (nF (af.out)) (sR fL1 Z (oA Z Z (eN (zR (zn (zW ?_))))))
 have q:=wAY bi
 obtain ⟨bm,bj,aQ⟩:=q
 have q:=wBo hm ah (ba bm aQ)
 obtain rfl:=q
 refine zW (zn (zW ?_))
 have hE:=hJ bj;first | subst r | cases hE
 exact ⟨rfl,_,(ZG rfl),ae,_,(aH.pick [] _ (by decide) rfl),rfl,rfl⟩
 rintro ⟨⟩ bC bp ⟨aM,aS,bt,bu,aR,bv,a7⟩ bb
 have aI:=wCk hm ah bb
 try dsimp only at aI
 have aP:Hid (¬ ((↑(((↑O.length:Int):Int) - 0).toNat:Int) < (↑O.length:Int))):=zK (wAd)
 refine sR fL1 Z (oR Z (zT Z aS aR) (eN (zJ (cF Z aP (ZQ (zg (zg (ZJ (zI (sR fL1 Z (oA Z Z (eN (zR ?_)))))))))))))
 have hE:=hJ aI;first | subst r | cases hE
 exact ⟨Z,_,(ZG Z),aM,_,a7,Z,Z⟩
theorem wGw (O:wAJ) (w:World) (U:PHeap) (hS:St0 w U [])  {r:Bool} (hm:wCc O=some r):Gv Tryz.prog 100 [.agg #[jV O.Skier,jV O.Mat,jV O.Clock,jV O.Time]] w (wBl w [] U (fun U_ L_ v=>v=.bool r/\L_=[])):=by
 unfold wCc at hm
 refine Gv.of Tryz.func100 Z Tryz.ntmps100 Tryz.results100 Z (sR gAi Z ?_)
 let B0:List Value:=[jV O.Skier,jV O.Mat,jV O.Clock,jV O.Time]
 refine zu (cs:=B0) rfl rfl rfl rfl rfl rfl (by rfl) hS ?_
 intro W1 b2 ac
 refine oA Z Z (eN (sR gAw Z (oR Z (zM Z Z Zi Z zC) (oL Z (ac.ldB (j:=0) Z Z Z zF (v:=jV O.Time) Z) (bnK hm fun x5 h6 an=>zG 0 Z Z Z Z (zH Z Z yL (zB Z (zB Z (zB Z zN))) Z) ac (fun hs=>wBg O.Time 0 360000 W1 U hs h6) (.inr Z) ?_)))))
 rintro U8 L9 aq af ap aj ⟨rfl,rfl⟩
 have am:sW w U U8 [.blk b2 52 B0] af:=aj
 refine oA Z Z (eN (zR ?_))
 have hE:=hJ an;first | subst r | cases hE
 exact ⟨rfl,_,(ZG rfl),U8,_,(am.pick [] _ (by decide) rfl),rfl,rfl⟩
theorem wCX (O:wAD) (ae:Option Addr) (ag:Nat) (af:Option Addr) (ah:Nat) (ap:Option Addr) (au:Nat) (aq:Option Addr) (av:Nat) (p1:wAM) (w:World) (U:PHeap) (hS:St0 w U []) (aU:Sl U 1 ae ag O.Starts.length (hH KL.encI O.Starts)) (aV:Sl U 2 af ah O.Splits.length (hH wAA O.Splits)) (aW:Sl U 3 ap au O.Clocks.length (hH wAG O.Clocks)) (aX:Sl U 4 aq av O.Readings.length (hH wAB O.Readings)) {r:Bool} (hm:wAj O p1=some r):Gv Tryz.prog 59 [.agg #[.slice ae O.Starts.length ag,.slice af O.Splits.length ah,.slice ap O.Clocks.length au,.slice aq O.Readings.length av],.agg #[jV p1.Skier,jV p1.Mat]] w (wBl w [] U (fun U_ L_ v=>v=.bool r/\L_=[])):=by
 unfold wAj at hm
 refine Gv.of Tryz.func59 Z Tryz.ntmps59 Tryz.results59 Z (sR gAs Z ?_)
 let B0:List Value:=[.slice ae O.Starts.length ag,.slice af O.Splits.length ah,.slice ap O.Clocks.length au,.slice aq O.Readings.length av]
 refine zu (cs:=B0) rfl rfl rfl rfl rfl rfl (by rfl) hS ?_
 intro W1 b2 aL
 let B1:List Value:=[jV p1.Skier,jV p1.Mat]
 refine zu (cs:=B1) rfl rfl rfl rfl rfl rfl (by rfl) aL ?_
 intro W5 b6 ao
 refine oA Z Z (eN (sR (wHN (.fx 6 (wMN gAt) .stop)) Z (oR Z (zM Z Z Tryz.runUnderlying62 Z zC) (oL Z (ao.ldB (j:=0) Z Z Z zF (v:=jV p1.Skier) Z) (oR Z (zM Z Z zP Z ZC) (oL Z (ao.ldB (j:=1) Z Z Z ZH (v:=.slice ae O.Starts.length ag) Z) (oR Z (zx Z Z zD) (oR Z (ZV Z Z Z) (bnK hm fun x9 aH aN=>zG 0 Z Z Z Z (zH Z Z yL (zB Z (zB Z (zB Z zN))) Z) ao (fun hs=>wBg p1.Skier 0 (w64 ((↑O.Starts.length:Int) - 1)) W5 U hs aH) (.inr Z) ?_)))))))))
 rintro an aR a6 ay aY aJ ⟨rfl,rfl⟩
 have ac:sW w U an [.blk b6 62 B1,.blk b2 45 B0] ay:=aJ
 refine oM Z Z (ifc aN ?_ ?_)
 intro aa aO
 refine ze Z Z Z (zO Z Z (congrArg nA aa.out)) (fun _=>zM Z Z Tryz.runUnderlying62 Z zC) (ZD Z Z Z (zO Z Z (congrArg nA aa.out)) (ac.ldB (j:=0) Z Z Z zF (v:=jV p1.Mat) Z) Z (ze Z Z Z (zO Z Z (congrArg nA aa.out)) (fun _=>zM Z Z zP Z Zd) (ZD Z Z Z (zO Z Z (congrArg nA aa.out)) (ac.ldB (j:=1) Z Z Z yT (v:=.slice af O.Splits.length ah) Z) Z (ze Z Z Z (zO Z Z (congrArg nA aa.out)) (fun _=>zx Z Z zy) (bnK aO fun a8 aI aP=>zG 0 Z Z Z (zO Z Z (congrArg nA aa.out)) (zH Z Z yL (zB Z (zB Z (zB Z zN))) Z) ac (fun hs=>wBg p1.Mat 0 (↑O.Splits.length:Int) ay an hs aI) (.inr Z) ?_)))))
 rintro ax aS a7 aF aZ aK ⟨rfl,rfl⟩
 have aM:sW w U ax [.blk b6 62 B1,.blk b2 45 B0] aF:=aK
 refine oR Z (zQ Z (congrArg nA aa.out) Z) (oA Z Z (eN (zR ?_)))
 have hE:=hJ aP;first | subst r | cases hE
 exact ⟨rfl,_,(ZG rfl),ax,_,(aM.pick [] _ (by decide) rfl),rfl,rfl⟩
 intro aa aQ
 refine ZT Z Z Z (zS Z Z (congrArg nA (nB.2 aa.out)) Z) (ZT Z Z Z (zS Z Z (congrArg nA (nB.2 aa.out)) Z) (ZT Z Z Z (zS Z Z (congrArg nA (nB.2 aa.out)) Z) (ZT Z Z Z (zS Z Z (congrArg nA (nB.2 aa.out)) Z) (ZT Z Z Z (zS Z Z (congrArg nA (nB.2 aa.out)) Z) (zz Z Z Z (zS Z Z (congrArg nA (nB.2 aa.out)) Z) (oR Z (zd Z (congrArg nA (nB.2 aa.out)) Z) (oA Z Z (eN (zR ?_)))))))))
 have hE:=hJ aQ;first | subst r | cases hE
 exact ⟨rfl,_,(ZG rfl),an,_,(ac.pick [] _ (by decide) rfl),rfl,rfl⟩
theorem wGx (p0:wAJ) (O:wAD) (aE:Nat) (ah:Option Addr) (an:Nat) (aj:Option Addr) (ao:Nat) (ac:Option Addr) (ae:Nat) (am:Option Addr) (ap:Nat) (w:World) (U:PHeap) (hS:St0 w U []) (az:Cl U aE 0 [.slice ah O.Starts.length an,.slice aj O.Splits.length ao,.slice ac O.Clocks.length ae,.slice am O.Readings.length ap]) (aN:Sl U 1 ah an O.Starts.length (hH KL.encI O.Starts)) (aO:Sl U 2 aj ao O.Splits.length (hH wAA O.Splits)) (aP:Sl U 3 ac ae O.Clocks.length (hH wAG O.Clocks)) (aQ:Sl U 4 am ap O.Readings.length (hH wAB O.Readings)) {r:Bool} (hm:wCd p0 O=some r):Gv Tryz.prog 101 [.agg #[jV p0.Skier,jV p0.Mat,jV p0.Clock,jV p0.Time],.pointer (some ⟨aE,0,none⟩)] w (wBl w [] U (fun U_ L_ v=>v=.bool r/\L_=[])):=by
 unfold wCd at hm
 refine Gv.of Tryz.func101 Z Tryz.ntmps101 Tryz.results101 Z (sR gAi Z ?_)
 let B0:List Value:=[jV p0.Skier,jV p0.Mat,jV p0.Clock,jV p0.Time]
 refine zu (cs:=B0) rfl rfl rfl rfl rfl rfl (by rfl) hS ?_
 intro W1 b2 ag
 refine oA Z Z (eN (sR (wHN (.fx 6 (wMO gAp) .stop)) Z (oL Z (ag.ldCA (f:=0) az Z Z zm zf (us:=[.slice ah O.Starts.length an,.slice aj O.Splits.length ao,.slice ac O.Clocks.length ae,.slice am O.Readings.length ap]) Z Z) (oR Z (zM Z Z Zi Z zC) (oL Z (ag.ldB (j:=0) Z Z Z zF (v:=jV p0.Skier) Z) (oR Z (zM Z Z Zi Z zC) (oL Z (ag.ldB (j:=0) Z Z Z zF (v:=jV p0.Mat) Z) (oR Z (zl (pv:=[(0,jV p0.Skier),(1,jV p0.Mat)]) (z:=[jV 0,jV 0]) (cs:=[jV p0.Skier,jV p0.Mat]) Z (wAE Z (wAE Z wAL)) yB wFF Z Z) (bnK hm fun x5 h6 aU=>zG 0 Z Z Z Z (zH Z Z Tryz.call59 (zB Z (zB Z zN)) Z) ag (fun hs=>wCX O ah an aj ao ac ae am ap (⟨p0.Skier,p0.Mat⟩:wAM) W1 U hs aN aO aP aQ h6) (.inr Z) ?_)))))))))
 rintro U8 L9 aZ ax aV aK ⟨rfl,rfl⟩
 have af:sW w U U8 [.blk b2 52 B0] ax:=aK
 refine oM Z Z (ifc aU ?_ ?_)
 intro ab aR
 refine ze Z Z Z (zO Z Z (congrArg nA ab.out)) (fun _=>zM Z Z Zi Z zC) (ZD Z Z Z (zO Z Z (congrArg nA ab.out)) (af.ldB (j:=0) Z Z Z zF (v:=jV p0.Clock) Z) Z (ze Z Z Z (zO Z Z (congrArg nA ab.out)) (fun _=>zM Z Z zP Z yZ) ?_))
 have aH:=az.le aV
 refine ZD Z Z Z (zO Z Z (congrArg nA ab.out)) (af.ldC (f:=2) aH (v:=.slice ac O.Clocks.length ae) Z Z yc Z) Z (ze Z Z Z (zO Z Z (congrArg nA ab.out)) (fun _=>zx Z Z Zo) (ze Z Z Z (zO Z Z (congrArg nA ab.out)) (fun _=>ZV Z Z Z) (bnK aR fun a7 aI aS=>zG 0 Z Z Z (zO Z Z (congrArg nA ab.out)) (zH Z Z yL (zB Z (zB Z (zB Z zN))) Z) af (fun hs=>wBg p0.Clock 0 (w64 ((↑O.Clocks.length:Int) - 1)) ax U8 hs aI) (.inr Z) ?_)))
 rintro av aW a6 aG aY aL ⟨rfl,rfl⟩
 have aM:sW w U av [.blk b2 52 B0] aG:=aL
 refine oR Z (zQ Z (congrArg nA ab.out) Z) (oA Z Z (eN (zR ?_)))
 have hE:=hJ aS;first | subst r | cases hE
 exact ⟨rfl,_,(ZG rfl),av,_,(aM.pick [] _ (by decide) rfl),rfl,rfl⟩
 intro ab aT
 refine ZT Z Z Z (zS Z Z (congrArg nA (nB.2 ab.out)) Z) (ZT Z Z Z (zS Z Z (congrArg nA (nB.2 ab.out)) Z) (ZT Z Z Z (zS Z Z (congrArg nA (nB.2 ab.out)) Z) (ZT Z Z Z (zS Z Z (congrArg nA (nB.2 ab.out)) Z) (ZT Z Z Z (zS Z Z (congrArg nA (nB.2 ab.out)) Z) (ZT Z Z Z (zS Z Z (congrArg nA (nB.2 ab.out)) Z) (zz Z Z Z (zS Z Z (congrArg nA (nB.2 ab.out)) Z) (oR Z (zd Z (congrArg nA (nB.2 ab.out)) Z) (oA Z Z (eN (zR ?_))))))))))
 have hE:=hJ aT;first | subst r | cases hE
 exact ⟨rfl,_,(ZG rfl),U8,_,(af.pick [] _ (by decide) rfl),rfl,rfl⟩
theorem wEM (O:wAD) (ao:Option Addr) (au:Nat) (ap:Option Addr) (av:Nat) (aq:Option Addr) (ax:Nat) (ah:Option Addr) (aj:Nat) (w:World) (U:PHeap) (hS:St0 w U []) (cm:Sl U 1 ao au O.Starts.length (hH KL.encI O.Starts)) (cn:Sl U 2 ap av O.Splits.length (hH wAA O.Splits)) (co:Sl U 3 aq ax O.Clocks.length (hH wAG O.Clocks)) (cp:Sl U 4 ah aj O.Readings.length (hH wAB O.Readings)) {r:Int} (hm:wCQ O=some r):Gv Tryz.prog 58 [.agg #[.slice ao O.Starts.length au,.slice ap O.Splits.length av,.slice aq O.Clocks.length ax,.slice ah O.Readings.length aj]] w (wBl w [] U (fun U_ L_ v=>v=jV r/\L_=[])):=by
 unfold wCQ at hm
 refine Gv.of Tryz.func58 Z Tryz.ntmps58 Tryz.results58 Z (sR gAi Z ?_)
 let B0:List Value:=[.slice ao O.Starts.length au,.slice ap O.Splits.length av,.slice aq O.Clocks.length ax,.slice ah O.Readings.length aj]
 refine zu (cs:=B0) rfl rfl rfl rfl rfl rfl (by rfl) hS ?_
 intro W1 b2 cd
 have q:=cd.freeze (k:=0) rfl
 obtain ⟨U5,aO,az,cj⟩:=q
 replace az:=Cl.of az
 have bq:sW w U U5 [] W1:=cj
 replace az:Cl U5 b2 0 B0:=az
 refine oA Z Z (eN (zJ (zY (sR (wDp (.fx 3 (wOH (.nil)) .stop)) Z (oR Z (zM Z Z zP Z ZC) (oL Z (bq.ldC (f:=0) az (v:=.slice ao O.Starts.length au) Z Z ZH Z) (oR Z (zx Z Z zD) (bnK hm fun dg bz ct=>zG 0 Z Z Z Z (zH Z Z yL (zB Z (zB Z (zB Z zN))) Z) bq (fun hs=>wBg (↑O.Starts.length:Int) 1 8 W1 U5 hs bz) (.inr Z) ?_))))))))
 rintro an cU da a9 aF cc ⟨rfl,rfl⟩
 have ag:sW w U an [] a9:=cc
 refine oR Z (ZY Z Z) (oM Z Z (ifc ct ?_ ?_))
 intro aa cC
 refine ze Z Z Z (zO Z Z (nC aa.out)) (fun _=>zM Z Z zP Z Zd) ?_
 have aE:=az.le aF
 refine ZD Z Z Z (zO Z Z (nC aa.out)) (ag.ldC (f:=1) aE (v:=.slice ap O.Splits.length av) Z Z yT Z) Z (ze Z Z Z (zO Z Z (nC aa.out)) (fun _=>zx Z Z zy) (ze Z Z Z (zO Z Z (nC aa.out)) (fun _=>ye Z Z Z) (oR Z (zd Z (nC aa.out) Z) (oM Z Z (ifc cC ?_ ?_)))))
 intro ab cD
 refine oT Z ab (oT Z ab (oT Z ab (oT Z ab (oR Z (zQ Z (Za ab.out) Z) (oM Z Z (oN Z (oN Z (oN Z (oN Z (oR Z (zQ Z Z Z) (oA Z Z (eN (ZK Z (sR fL1 Z (oA Z Z (eN (zR (zn (zW ?_)))))))))))))))))))
 cases cD
 exact ⟨Z,_,(ZG Z),an,_,ag,Z,Z⟩
 intro ab cE
 refine rU Z (wF Z ab) (zM Z Z zP Z yZ) (ZD Z Z Z (wF Z ab) (ag.ldC (f:=2) aE (v:=.slice aq O.Clocks.length ax) Z Z yc Z) Z (rU Z (wF Z ab) (zx Z Z Zo) (rU Z (wF Z ab) (ye Z Z Z) (oR Z (zd Z (ZA ab.out) Z) (oM Z Z (ifc cE ?_ ?_))))))
 intro ac cG
 refine oT Z ac (oT Z ac (oT Z ac (oT Z ac (oR Z (zQ Z (Za ac.out) Z) (oA Z Z (eN (ZK Z (sR fL1 Z (oA Z Z (eN (zR (zn (zW ?_)))))))))))))
 cases cG
 exact ⟨Z,_,(ZG Z),an,_,ag,Z,Z⟩
 intro ac cH
 refine rU Z (wF Z ac) (zM Z Z zP Z Zk) (ZD Z Z Z (wF Z ac) (ag.ldC (f:=3) aE (v:=.slice ah O.Readings.length aj) Z Z yF Z) Z (rU Z (wF Z ac) (zx Z Z ZR) (rU Z (wF Z ac) (ye Z Z Z) (oR Z (zd Z (ZA ac.out) Z) (oA Z Z (eN (ifc cH ?_ ?_)))))))
 intro aT cI
 refine cT Z aT (sR fL1 Z (oA Z Z (eN (zR (zn (zW ?_))))))
 cases cI
 exact ⟨Z,_,(ZG Z),an,_,ag,Z,Z⟩
 intro aT cJ
 refine cF Z aT (sR (.fl 0 (.fl 1 (.fx 2 (wLt (.fx 7 (wMP (.nil)) .stop)) .stop))) Z (oR Z (zM Z Z zP Z ZC) (oL Z (ag.ldC (f:=0) aE (v:=.slice ao O.Starts.length au) Z Z ZH Z) ?_)))
 have bH:=cm.le aO
 have bh:=bH.le aF
 have bW:FnOK Tryz.prog an (.func (.func 93) #[] #[]) wNR wNS wCY:=⟨93,[],[],rfl,Tryz.call93,fun U1 w1 x y vs le hs ha hm=>by obtain rfl:=ha;exact wGt x w1 U1 hs  hm⟩
 refine bnK cJ fun di bI cK=>zG 0 Z Z Z Z (zH Z Z Tryz.call92 (zB Z (zB Z zN)) Z) ag (fun hs=>wGA O.Starts ao au wCY (.func (.func 93) #[] #[]) a9 an hs bh bW bI) (.inr Z) ?_
 rintro aK cV db ba aG cf ⟨rfl,rfl⟩
 have aY:sW w U aK [] ba:=cf
 refine oR Z (ZY Z Z) (oM Z Z (ifc cK ?_ ?_))
 intro ae cL
 refine ze Z Z Z (zO Z Z (nC ae.out)) (fun _=>zM Z Z zP Z Zd) ?_
 have bi:=aE.le aG
 refine ZD Z Z Z (zO Z Z (nC ae.out)) (aY.ldC (f:=1) bi (v:=.slice ap O.Splits.length av) Z Z yT Z) Z ?_
 have bJ:=cn.le aO
 have bK:=bJ.le aF
 have bj:=bK.le aG
 have bX:FnOK Tryz.prog aK (.func (.func 95) #[] #[]) wNT wNU wCa:=⟨95,[],[],rfl,Tryz.call95,fun U1 w1 x y vs le hs ha hm=>by obtain rfl:=ha;exact wGu x w1 U1 hs  hm⟩
 refine bnK cL fun dk bL cM=>zG 0 Z Z Z (zO Z Z (nC ae.out)) (zH Z Z Tryz.call94 (zB Z (zB Z zN)) Z) aY (fun hs=>wEn O.Splits ap av wCa (.func (.func 95) #[] #[]) ba aK hs bj bX bL) (.inr Z) ?_
 rintro aL cW dd bb aH cg ⟨rfl,rfl⟩
 have aZ:sW w U aL [] bb:=cg
 refine ze Z Z Z (zO Z Z (nC ae.out)) (fun _=>ZY Z Z) (oR Z (zd Z (nC ae.out) Z) (oA Z Z (eN (ifc cM ?_ ?_))))
 intro aU cN
 refine zj (nC aU.out) (sR gBb Z (oR Z (zM Z Z zP Z yZ) ?_))
 have bk:=bi.le aH
 refine oL Z (aZ.ldC (f:=2) bk (v:=.slice aq O.Clocks.length ax) Z Z yc Z) ?_
 have bM:=co.le aO
 have bN:=bM.le aF
 have bO:=bN.le aG
 have bm:=bO.le aH
 have bY:FnOK Tryz.prog aL (.func (.func 98) #[] #[]) wNV wNW wCb:=⟨98,[],[],rfl,Tryz.call98,fun U1 w1 x y vs le hs ha hm=>by obtain rfl:=ha;exact wGv x w1 U1 hs  hm⟩
 refine bnK cN fun dl bP cO=>zG 0 Z Z Z Z (zH Z Z Tryz.call97 (zB Z (zB Z zN)) Z) aZ (fun hs=>wEd O.Clocks aq ax wCb (.func (.func 98) #[] #[]) bb aL hs bm bY bP) (.inr Z) ?_
 rintro aM cX de bc aI ci ⟨rfl,rfl⟩
 have a6:sW w U aM [] bc:=ci
 refine oR Z (ZY Z Z) (oA Z Z (eN (ifc cO ?_ ?_)))
 intro aV cP
 refine zj (nC aV.out) (zJ (CK.fresh fun cR br=>?_))
 have aW:cR 1=.pointer (some ⟨b2,0,none⟩):=(br 1).trans rfl
 clear br
 refine rR gBb Z (oR Z (zM Z aW zP Z Zk) ?_)
 have bn:=bk.le aI
 refine oL Z (a6.ldC (f:=3) bn (v:=.slice ah O.Readings.length aj) Z Z yF Z) ?_
 have bQ:=cp.le aO
 have bR:=bQ.le aF
 have bS:=bR.le aG
 have bT:=bS.le aH
 have bo:=bT.le aI
 have bZ:FnOK Tryz.prog aM (.func (.func 100) #[] #[]) wJt wJu wCc:=⟨100,[],[],rfl,Tryz.call100,fun U1 w1 x y vs le hs ha hm=>by obtain rfl:=ha;exact wGw x w1 U1 hs  hm⟩
 refine bnK cP fun dm bU cQ=>zG 0 Z Z Z Z (zH Z Z Tryz.call99 (zB Z (zB Z zN)) Z) a6 (fun hs=>wCv O.Readings ah aj wCc (.func (.func 100) #[] #[]) bc aM hs bo bZ bU) (.inr Z) ?_
 rintro aN cY df be aJ ca ⟨rfl,rfl⟩
 have aX:sW w U aN [] be:=ca
 refine oR Z (ZY Z Z) (oA Z Z (eN (ifc cQ ?_ ?_)))
 intro aR cq
 refine zj (nC aR.out) (sR (wDp (.fx 3 gAd .stop)) Z (oR Z (zM Z aW zP Z Zk) ?_))
 have bf:=bn.le aJ
 refine oL Z (aX.ldC (f:=3) bf (v:=.slice ah O.Readings.length aj) Z Z yF Z) (oR Z (Runs.mkf Z zN (zB aW zN)) ?_)
 have bg:=bo.le aJ
 have bu:=bh.le aG
 have bv:=bu.le aH
 have bw:=bv.le aI
 have bx:=bw.le aJ
 have bA:=bj.le aH
 have bB:=bA.le aI
 have bC:=bB.le aJ
 have bD:=bm.le aI
 have bF:=bD.le aJ
 have bV:FnOK Tryz.prog aN (.func (.func 101) #[] #[.pointer (some ⟨b2,0,none⟩)]) wJt wJu (fun x=>wCd x O):=⟨101,[],[.pointer (some ⟨b2,0,none⟩)],rfl,Tryz.call101,fun U1 w1 x y vs le hs ha hm=>by obtain rfl:=ha;exact wGx x O b2 ao au ap av aq ax ah aj w1 U1 hs (bf.le le) (bx.le le) (bC.le le) (bF.le le) (bg.le le) hm⟩
 refine bnK cq fun dh bG cr=>zG 0 Z Z Z Z (zH Z Z Tryz.call99 (zB Z (zB Z zN)) Z) aX (fun hs=>wCv O.Readings ah aj (fun x=>wCd x O) (.func (.func 101) #[] #[.pointer (some ⟨b2,0,none⟩)]) be aN hs bg bV bG) (.inr Z) ?_
 rintro aP cS c6 bt cZ cb ⟨rfl,rfl⟩
 have bp:sW w U aP [] bt:=cb
 refine oR Z (ZY Z Z) (oA Z Z (eN (ifc cr ?_ ?_)))
 intro aS cu
 refine zj (nC aS.out) (ZS (zk (zI (sR fL1 Z (oA Z Z (eN (zR ?_)))))))
 cases cu
 exact ⟨Z,_,(ZG Z),aP,_,bp,Z,Z⟩
 intro aS cw
 refine ZK (nF (aS.out)) (sR fL1 Z (oA Z Z (eN (zR (zn (zW ?_))))))
 cases cw
 exact ⟨Z,_,(ZG Z),aP,_,bp,Z,Z⟩
 intro aR cx
 refine ZK (nF (aR.out)) (sR fL1 Z (oA Z Z (eN (zR (zn (zW ?_))))))
 cases cx
 exact ⟨Z,_,(ZG Z),aN,_,aX,Z,Z⟩
 intro aV cy
 refine ZK (nF (aV.out)) (sR fL1 Z (oA Z Z (eN (zR (zn (zW ?_))))))
 cases cy
 exact ⟨Z,_,(ZG Z),aM,_,a6,Z,Z⟩
 intro aU cz
 refine ZK (nF (aU.out)) (sR fL1 Z (oA Z Z (eN (zR (zn (zW ?_))))))
 cases cz
 exact ⟨Z,_,(ZG Z),aL,_,aZ,Z,Z⟩
 intro ae cA
 refine ZT Z Z Z (zS Z Z (nF (ae.out)) Z) (ZT Z Z Z (zS Z Z (nF (ae.out)) Z) (zz Z Z Z (zS Z Z (nF (ae.out)) Z) (ZT Z Z Z (zS Z Z (nF (ae.out)) Z) (oR Z (zQ Z (nF (ae.out)) Z) (oA Z Z (eN (ZK Z (sR fL1 Z (oA Z Z (eN (zR (zn (zW ?_)))))))))))))
 cases cA
 exact ⟨Z,_,(ZG Z),aK,_,aY,Z,Z⟩
 intro aa cB
 refine ZT Z Z Z (zS Z Z (nF (aa.out)) Z) (ZT Z Z Z (zS Z Z (nF (aa.out)) Z) (ZT Z Z Z (zS Z Z (nF (aa.out)) Z) (ZT Z Z Z (zS Z Z (nF (aa.out)) Z) (oR Z (zQ Z (nF (aa.out)) Z) (oM Z Z (oN Z (oN Z (oN Z (oN Z (oR Z (zQ Z Z Z) (oM Z Z (oN Z (oN Z (oN Z (oN Z (oR Z (zQ Z Z Z) (oA Z Z (eN (ZK Z (sR fL1 Z (oA Z Z (eN (zR (zn (zW ?_)))))))))))))))))))))))))
 cases cB
 exact ⟨Z,_,(ZG Z),an,_,ag,Z,Z⟩
theorem wBa  (w:World) (U:PHeap) (hS:St0 w U [])  {r:wAI} (hm:wCR =some r):Gv Tryz.prog 57 [] w (wBl w [] U (fun U_ L_ v=>v=.agg #[jV r.skier,jV r.mat]/\L_=[])):=by
 unfold wCR at hm
 refine Gv.of Tryz.func57 Z Tryz.ntmps57 Tryz.results57 Z (sR (.fx 0 .nil .stop) Z (zX (cs:=[jV 0,jV 0]) Z Z Z Z Z zb Z hS ?_))
 intro W1 b2 ae
 refine eN (sR (.fl 0 (.fx 1 .nil .stop)) Z ?_)
 let O:List Value:=[jV (-1),jV 0]
 refine oR Z (zl (pv:=[(0,jV (-1)),(1,jV 0)]) (z:=[jV 0,jV 0]) (cs:=O) Z (wAE Z (wAE Z wAL)) zb wBT Z Z) (za (j:=0) (vs:=O) Z Z Z Z ae Z Z Z Z zE (zA Z) Z Z Z ?_)
 intro W5 af
 have aa:sW w U U [.blk b2 115 O] W5:=af
 refine eN (zR ?_)
 cases hm
 exact ⟨rfl,_,(wGq (v:=.agg O.toArray) ⟨⟨_,rfl,(wBC zh zE (aa.blkAt (k:=0) rfl) (vs:=O) rfl rfl)⟩,trivial⟩),U,_,(aa.pick [] _ (by decide) rfl),rfl,rfl⟩
theorem wFV {S E:Type} (PY:S->PHeap->List Res->Prop) (PE:E->PHeap->List Res->Prop) (f:S->wAH->Option (S ⊕ E)) (y:Nat) (s0:S) (O:wAD) (aj:Nat) (bJ:Option Addr) (bN:Nat) (bK:Option Addr) (bO:Nat) (bL:Option Addr) (bP:Nat) (bM:Option Addr) (bQ:Nat) (w:World) (L:List Res) (U:PHeap) (hS:St ⟨w,L,U⟩ U L w) (hP:PY s0 U L) (hY:YOK Tryz.prog y wLR PY PE f U) (aO:Cl U aj 0 [.slice bJ O.Starts.length bN,.slice bK O.Splits.length bO,.slice bL O.Clocks.length bP,.slice bM O.Readings.length bQ]) (iQ:Sl U 1 bJ bN O.Starts.length (hH KL.encI O.Starts)) (iR:Sl U 2 bK bO O.Splits.length (hH wAA O.Splits)) (iS:Sl U 3 bL bP O.Clocks.length (hH wAG O.Clocks)) (iT:Sl U 4 bM bQ O.Readings.length (hH wAB O.Readings)) {r:S ⊕ E} (hm:wBt f s0 O=some r):Gv Tryz.prog 144 [.func (.yield y) #[] #[],.pointer (some ⟨aj,0,none⟩)] w (ItS w L U PY PE r):=by
 unfold wBt at hm
 refine Gv.of Tryz.func144 Z Tryz.ntmps144 Tryz.results144 Z (sR wNC Z (oR Z (zM Z Z zP Z Zd) (oL Z (hS.ldC (f:=1) aO (v:=.slice bK O.Splits.length bO) Z Z yT Z) (oR Z (zx Z Z zy) (oR Z (zM Z Z zP Z yZ) (oL Z (hS.ldC (f:=2) aO (v:=.slice bL O.Clocks.length bP) Z Z yc Z) (oR Z (zx Z Z Zo) (oR Z (zM Z Z zP Z Zk) (oL Z (hS.ldC (f:=3) aO (v:=.slice bM O.Readings.length bQ) Z Z yF Z) (oR Z (zx Z Z ZR) ?_))))))))))
 let B0:List Value:=[jV 1,jV (↑O.Splits.length:Int),jV (↑O.Clocks.length:Int),jV (↑O.Readings.length:Int)]
 refine oR Z (Runs.buildA (pv:=[(0,jV 1),(1,jV (↑O.Splits.length:Int)),(2,jV (↑O.Clocks.length:Int)),(3,jV (↑O.Readings.length:Int))]) (z:=[jV 0,jV 0,jV 0,jV 0]) (cs:=B0) Z (wAE Z (wAE Z (wAE Z (wAE Z wAL)))) Tryz.zeroValue217 Tryz.runUnderlying217 zC Z Z) (oM Z Z (eN (zY ?_)))
 have q:=wBs hm
 obtain ⟨iW,ao⟩:=q
 have q:=wBr ao
 obtain ⟨bA,fT⟩:=q
 replace bA:=zK bA
 refine yQ (fun aa cV σ_ w_=>∃ (U_:PHeap) (aq:List Res),σ_ 18=jV (↑aa:Int)/\σ_ 0=.func (.yield y) #[] #[]/\σ_ 1=.pointer (some ⟨aj,0,none⟩)/\σ_ 17=.agg B0.toArray/\PHeap.Le U U_/\St ⟨w,L,U⟩ U_ aq w_/\PY cV U_ aq) fT ?_ ?_ ?_
 exact ⟨U,L,Z,Z,Z,Z,(zL _),hS,hP⟩
 rintro aa cV i8 ji iq bu ⟨a9,aq,av,cn,bg,bh,an,br,cA⟩ gH aP
 have cg:Hid ((↑aa:Int) < 4):=zK (wAx bu)
 replace bu:=zK bu
 have cM:Hid (w64 ((↑aa:Int) + 1)=(↑(aa + 1):Int)):=zK (by have h1:=bA.out;have h2:=cg.out;rw [wAW] <;> omega)
 refine sR fL1 Z (oR Z (zT Z av Z) (eN (zJ (cT Z cg (kN (zJ (zY (sR fL4 Z (oM Z av (bnK gH fun ae bq gj=>oR Z (yj (cs:=hH KL.encI ([1,(↑O.Splits.length:Int),(↑O.Clocks.length:Int),(↑O.Readings.length:Int)]:List Int)) Z bh av Tryz.runUnderlying217 zC (wCt bq) (wCz bq) (wEr zF (wEa (sz:=1) (fun _=>Z) _ _ 0 _ _ (wAc bq) Z))) (oA Z Z (oA Z Z (eN (sR fL4 Z (oR Z (zM Z bg zP Z ZC) ?_)))))))))))))))
 have fj:=aO.le an
 refine oL Z (br.ldC (f:=0) fj (v:=.slice bJ O.Starts.length bN) Z Z ZH Z) (oR Z (zx Z Z zD) (oA Z Z (eN (zJ ?_))))
 have q:=bnd gj
 obtain ⟨⟨dk,gU⟩,cQ,cN⟩:=q
 try dsimp only at cN
 refine yI (fun σ_ w_=>∃ (U_:PHeap) (au:List Res),σ_ 0=.func (.yield y) #[] #[]/\σ_ 1=.pointer (some ⟨aj,0,none⟩)/\σ_ 3=jV (↑aa:Int)/\σ_ 4=jV ae/\σ_ 5=jV (↑O.Starts.length:Int)/\σ_ 17=.agg B0.toArray/\σ_ 18=jV (↑aa:Int)/\σ_ 30=.bool dk/\PHeap.Le a9 U_/\St ⟨w,L,U⟩ U_ au w_/\PY gU U_ au) ?_ ?_
 refine rR fL6 Z (oM Z Z (oR Z (yO Z Z Z) (oM Z Z ?_)))
 by_cases af:(↑aa:Int)=2
 have cO:=cQ;rw [if_pos af] at cO;replace af:=zK af
 refine oT Z af (oT Z af (oR Z (zQ Z (Za af.out) Z) (zc ?_)))
 cases cO
 exact zI ⟨Z,⟨a9,aq,cn,bg,Z,Z,Z,bh,av,Z,(zL _),br,cA⟩⟩
 have cP:=cQ;rw [if_neg af] at cP;replace af:=zK af
 refine zU Z Z Z (wF Z af) Z Z (rU Z (wF Z af) (yO Z Z Z) (oR Z (zd Z (ZA af.out) Z) (zc ?_)))
 cases cP
 exact zI ⟨Z,⟨a9,aq,cn,bg,Z,Z,Z,bh,av,Z,(zL _),br,cA⟩⟩
 rintro jr iB ⟨aF,au,cp,cq,cr,ct,eO,cu,cw,cx,ap,cH,cB⟩
 refine ifc cN ?_ ?_
 intro bb aV
 refine ZK (cx.trans (congrArg nA bb.out)) (rR fL1 Z (oA Z Z (eN (sR fL2 Z (oM Z Z (oM Z Z (eN (zY ?_))))))))
 have q:=wBs aV
 obtain ⟨iZ,aN⟩:=q
 have q:=wBr aN
 obtain ⟨bD,fW⟩:=q
 replace bD:=zK bD
 refine yQ (fun ac cZ σ_ w_=>∃ (U_:PHeap) (ay:List Res),σ_ 32=jV (↑ac:Int)/\σ_ 0=.func (.yield y) #[] #[]/\σ_ 1=.pointer (some ⟨aj,0,none⟩)/\σ_ 3=jV (↑aa:Int)/\σ_ 4=jV ae/\σ_ 17=.agg B0.toArray/\σ_ 18=jV (↑aa:Int)/\σ_ 31=jV 1/\PHeap.Le aF U_/\St ⟨w,L,U⟩ U_ ay w_/\PY cZ U_ ay) fW ?_ ?_ ?_
 exact ⟨aF,au,Z,cp,cq,cr,ct,cu,cw,Z,(zL _),cH,cB⟩
 rintro ac cZ jb jt iC bx ⟨bW,ay,bp,eQ,eR,eS,cy,eT,eU,cz,bI,fM,e6⟩ aX cL
 have cb:Hid ((↑ac:Int) < 1):=zK (wAx bx)
 replace bx:=zK bx
 have fY:Hid (w64 ((↑ac:Int) + 1)=(↑(ac + 1):Int)):=zK (by have h1:=bD.out;have h2:=cb.out;rw [wAW] <;> omega)
 refine sR fL1 Z (oR Z (zT Z bp cz) (eN (zJ (cT Z cb (kN (zJ (zY (sR fL2 Z (oM Z bp (oA Z Z (eN (sR fL2 Z (oM Z cy (oM Z Z (eN (zY ?_))))))))))))))))
 have q:=wBs aX
 obtain ⟨iV,aK⟩:=q
 have q:=wBr aK
 obtain ⟨bz,fS⟩:=q
 replace bz:=zK bz
 refine yQ (fun ag cW σ_ w_=>∃ (U_:PHeap) (aY:List Res),σ_ 36=jV (↑ag:Int)/\σ_ 0=.func (.yield y) #[] #[]/\σ_ 1=.pointer (some ⟨aj,0,none⟩)/\σ_ 3=jV (↑aa:Int)/\σ_ 4=jV ae/\σ_ 6=jV (↑ac:Int)/\σ_ 17=.agg B0.toArray/\σ_ 18=jV (↑aa:Int)/\σ_ 31=jV 1/\σ_ 32=jV (↑ac:Int)/\σ_ 35=jV ae/\PHeap.Le bW U_/\St ⟨w,L,U⟩ U_ aY w_/\PY cW U_ aY) fS ?_ ?_ ?_
 exact ⟨bW,ay,Z,eQ,eR,eS,cy,Z,eT,eU,cz,bp,Z,(zL _),fM,e6⟩
 rintro ag cW i7 jh ip bt ⟨im,aY,bm,bc,dE,be,dF,bf,dG,dH,dI,dJ,ci,bF,ft,e7⟩ gG cI
 have cc:Hid ((↑ag:Int) < ae):=zK (wAx bt)
 replace bt:=zK bt
 have fZ:Hid (w64 ((↑ag:Int) + 1)=(↑(ag + 1):Int)):=zK (by have h1:=bz.out;have h2:=cc.out;rw [wAW] <;> omega)
 refine sR fL1 Z (oR Z (zT Z bm ci) (eN (zJ (cT Z cc (kN (zJ (zY (sR fL2 Z (oM Z bm (oA Z Z (eN (sR (wDk (.fx 5 (wMM gAt) .stop)) Z (oM Z bc (oM Z be (oM Z bf (oM Z Z ?_))))))))))))))))
 let B1:List Value:=[jV 0,jV 0,jV 0,.bool false]
 refine oR Z (zl (pv:=[(0,jV (↑aa:Int)),(1,jV (↑ac:Int)),(2,jV (↑ag:Int)),(3,.bool true)]) (z:=B1) (cs:=[jV (↑aa:Int),jV (↑ac:Int),jV (↑ag:Int),.bool true]) Z (wAE Z (wAE Z (wAE Z (wAE Z wAL)))) Zq wDE Z Z) (bnK gG fun ig e8 aQ=>OKS.yieldT 0 (a:=(⟨(↑aa:Int),(↑ac:Int),(↑ag:Int),true⟩:wAH)) Z Z Z Z Z Z (zB Z zN) ft hY (((an.trans ap).trans bI).trans bF) e7 Z e8 Z ?_)
 rintro a8 bT iD bX cR cC aG
 rcases ig with gQ | gQ
 try dsimp only at aQ aG
 obtain ⟨rfl,gv⟩:=aG
 have fu:St ⟨w,L,U⟩ a8 bT bX:=cC
 refine oR Z (ZY Z Z) (oM Z Z (zU Z Z Z (zO Z Z Z) Z bc (zU Z Z Z (zO Z Z Z) Z be (zU Z Z Z (zO Z Z Z) Z bf (zU Z Z Z (zO Z Z Z) Z Z (ze Z Z Z (zO Z Z Z) (fun _=>zl (pv:=[(0,jV (↑aa:Int)),(1,jV (↑ac:Int)),(2,jV (↑ag:Int)),(3,.bool false)]) (z:=B1) (cs:=[jV (↑aa:Int),jV (↑ac:Int),jV (↑ag:Int),.bool false]) Z (wAE Z (wAE Z (wAE Z (wAE Z wAL)))) Zq wDE Z Z) (bnK aQ fun ii e9 aR=>OKS.yieldT 0 (a:=(⟨(↑aa:Int),(↑ac:Int),(↑ag:Int),false⟩:wAH)) Z Z Z (zO Z Z Z) Z Z (zB Z zN) fu hY ((((an.trans ap).trans bI).trans bF).trans cR) gv Z e9 Z ?_)))))))
 rintro az aZ iE bY gJ cD aH
 rcases ii with gR | gR
 try dsimp only at aR aH
 obtain ⟨rfl,gw⟩:=aH
 have fw:St ⟨w,L,U⟩ az aZ bY:=cD
 refine ze Z Z Z (zO Z Z Z) (fun _=>ZY Z Z) (oR Z (zd Z Z Z) (eN (zj Z (ZS (zk (zI (rR fL2 Z (oR Z (ZI (zV Z bm Z) (congrArg (jV) fZ.out)) (oM Z Z (zc ?_))))))))))
 have q:=hJ aR
 obtain rfl:=q
 exact zI ⟨Z,_,Z,⟨az,aZ,Z,bc,dE,be,dF,bf,dG,dH,dI,dJ,ci,((bF.trans cR).trans gJ),fw,gw⟩⟩
 try dsimp only at aR aH
 obtain ⟨rfl,gz⟩:=aH
 have fy:St ⟨w,L,U⟩ az aZ bY:=cD
 refine ze Z Z Z (zO Z Z Z) (fun _=>ZY Z Z) (oR Z (zd Z Z Z) (eN (ZK Z (zR (zn (zW ?_))))))
 have q:=wAY aR
 obtain ⟨gV,f6,dr⟩:=q
 have q:=wBo aX aK (cI gV dr)
 obtain rfl:=q
 refine zW (zn (zn (zW ?_)))
 have q:=wAY f6
 obtain ⟨gW,f7,dt⟩:=q
 have q:=wBo aV aN (cL gW dt)
 obtain rfl:=q
 refine zW (zn (zn (zW ?_)))
 have q:=wAY f7
 obtain ⟨gX,f8,du⟩:=q
 have q:=wBo hm ao (aP gX du)
 obtain rfl:=q
 refine zW (zn ?_)
 cases f8
 exact ⟨Z,_,(wDv),az,_,fy,gz⟩
 try dsimp only at aQ aG
 obtain ⟨rfl,gA⟩:=aG
 have fz:St ⟨w,L,U⟩ a8 bT bX:=cC
 refine oR Z (ZY Z Z) (oM Z Z (oN Z (oN Z (oN Z (oN Z (oN Z (zz Z Z Z (zS Z Z Z Z) (oN Z (oR Z (zQ Z Z Z) (eN (ZK Z (zR (zn (zW ?_))))))))))))))
 have q:=wAY aQ
 obtain ⟨gY,f9,dv⟩:=q
 have q:=wBo aX aK (cI gY dv)
 obtain rfl:=q
 refine zW (zn (zn (zW ?_)))
 have q:=wAY f9
 obtain ⟨gZ,ga,dw⟩:=q
 have q:=wBo aV aN (cL gZ dw)
 obtain rfl:=q
 refine zW (zn (zn (zW ?_)))
 have q:=wAY ga
 obtain ⟨g6,gb,dx⟩:=q
 have q:=wBo hm ao (aP g6 dx)
 obtain rfl:=q
 refine zW (zn ?_)
 cases gb
 exact ⟨Z,_,(wDv),a8,_,fz,gA⟩
 rintro jc jj ir ⟨de,c6,eV,dK,dL,dM,dN,iH,dO,dP,dQ,dR,dS,gL,fA,fb⟩ fN
 have ge:=wCk aX aK fN
 have dl:Hid (¬ ((↑((ae:Int) - 0).toNat:Int) < ae)):=zK (wAd)
 refine sR fL1 Z (oR Z (zT Z eV dS) (eN (zJ (cF Z dl (ZQ (zg (zg (ZJ (zk (zI (rR fL2 Z (oR Z (ZI (zV Z dR Z) (congrArg (jV) fY.out)) (oM Z Z (zc ?_))))))))))))))
 have q:=hJ ge
 obtain rfl:=q
 exact zI ⟨Z,_,Z,⟨de,c6,Z,dK,dL,dM,dN,dO,dP,dQ,(bI.trans gL),fA,fb⟩⟩
 rintro jd jk it ⟨df,da,eW,dT,dU,iI,iJ,dV,dW,dX,gM,fB,fc⟩ fO
 have gf:=wCk aV aN fO
 have dm:Hid (¬ ((↑((1:Int) - 0).toNat:Int) < 1)):=zK (wAd)
 refine sR fL1 Z (oR Z (zT Z eW dX) (eN (zJ (cF Z dm (ZQ (zg (zg (ZJ (zk (zI (rR fL2 Z (oR Z (ZI (zV Z dW Z) (congrArg (jV) cM.out)) (oM Z Z (zc ?_))))))))))))))
 have q:=hJ gf
 obtain rfl:=q
 exact zI ⟨Z,_,Z,⟨df,da,Z,dT,dU,dV,((an.trans ap).trans gM),fB,fc⟩⟩
 intro bb aS
 refine zj (cx.trans (congrArg nA (nB.2 bb.out))) (kN (sR fL2 Z (oM Z eO (oM Z Z (eN (zY ?_))))))
 have q:=wBs aS
 obtain ⟨iX,aL⟩:=q
 have q:=wBr aL
 obtain ⟨bB,fU⟩:=q
 replace bB:=zK bB
 refine yQ (fun ab cX σ_ w_=>∃ (U_:PHeap) (ax:List Res),σ_ 32=jV (↑ab:Int)/\σ_ 0=.func (.yield y) #[] #[]/\σ_ 1=.pointer (some ⟨aj,0,none⟩)/\σ_ 3=jV (↑aa:Int)/\σ_ 4=jV ae/\σ_ 17=.agg B0.toArray/\σ_ 18=jV (↑aa:Int)/\σ_ 31=jV (↑O.Starts.length:Int)/\PHeap.Le aF U_/\St ⟨w,L,U⟩ U_ ax w_/\PY cX U_ ax) fU ?_ ?_ ?_
 exact ⟨aF,au,Z,cp,cq,cr,ct,cu,cw,Z,(zL _),cH,cB⟩
 rintro ab cX i9 jl iu bv ⟨bV,ax,bn,dY,dZ,d4,cj,d5,d6,cm,bG,fC,fd⟩ aW cJ
 have cd:Hid ((↑ab:Int) < (↑O.Starts.length:Int)):=zK (wAx bv)
 replace bv:=zK bv
 have f4:Hid (w64 ((↑ab:Int) + 1)=(↑(ab + 1):Int)):=zK (by have h1:=bB.out;have h2:=cd.out;rw [wAW] <;> omega)
 refine sR fL1 Z (oR Z (zT Z bn cm) (eN (zJ (cT Z cd (kN (zJ (zY (sR fL2 Z (oM Z bn (oA Z Z (eN (sR fL2 Z (oM Z cj (oM Z Z (eN (zY ?_))))))))))))))))
 have q:=wBs aW
 obtain ⟨iY,aM⟩:=q
 have q:=wBr aM
 obtain ⟨bC,fV⟩:=q
 replace bC:=zK bC
 refine yQ (fun ah cY σ_ w_=>∃ (U_:PHeap) (a6:List Res),σ_ 36=jV (↑ah:Int)/\σ_ 0=.func (.yield y) #[] #[]/\σ_ 1=.pointer (some ⟨aj,0,none⟩)/\σ_ 3=jV (↑aa:Int)/\σ_ 4=jV ae/\σ_ 6=jV (↑ab:Int)/\σ_ 17=.agg B0.toArray/\σ_ 18=jV (↑aa:Int)/\σ_ 31=jV (↑O.Starts.length:Int)/\σ_ 32=jV (↑ab:Int)/\σ_ 35=jV ae/\PHeap.Le bV U_/\St ⟨w,L,U⟩ U_ a6 w_/\PY cY U_ a6) fV ?_ ?_ ?_
 exact ⟨bV,ax,Z,dY,dZ,d4,cj,Z,d5,d6,cm,bn,Z,(zL _),fC,fd⟩
 rintro ah cY ja jm iv bw ⟨io,a6,bo,bi,d7,bj,d8,bk,d9,ef,eg,eh,co,bH,fD,ff⟩ gI cK
 have cf:Hid ((↑ah:Int) < ae):=zK (wAx bw)
 replace bw:=zK bw
 have f5:Hid (w64 ((↑ah:Int) + 1)=(↑(ah + 1):Int)):=zK (by have h1:=bC.out;have h2:=cf.out;rw [wAW] <;> omega)
 refine sR fL1 Z (oR Z (zT Z bo co) (eN (zJ (cT Z cf (kN (zJ (zY (sR fL2 Z (oM Z bo (oA Z Z (eN (sR (wDk (.fx 5 (wMM gAt) .stop)) Z (oM Z bi (oM Z bj (oM Z bk (oM Z Z ?_))))))))))))))))
 let B2:List Value:=[jV 0,jV 0,jV 0,.bool false]
 refine oR Z (zl (pv:=[(0,jV (↑aa:Int)),(1,jV (↑ab:Int)),(2,jV (↑ah:Int)),(3,.bool true)]) (z:=B2) (cs:=[jV (↑aa:Int),jV (↑ab:Int),jV (↑ah:Int),.bool true]) Z (wAE Z (wAE Z (wAE Z (wAE Z wAL)))) Zq wDE Z Z) (bnK gI fun ij fg aT=>OKS.yieldT 0 (a:=(⟨(↑aa:Int),(↑ab:Int),(↑ah:Int),true⟩:wAH)) Z Z Z Z Z Z (zB Z zN) fD hY (((an.trans ap).trans bG).trans bH) ff Z fg Z ?_)
 rintro ba bU iF bZ cS cE aI
 rcases ij with gS | gS
 try dsimp only at aT aI
 obtain ⟨rfl,gB⟩:=aI
 have fE:St ⟨w,L,U⟩ ba bU bZ:=cE
 refine oR Z (ZY Z Z) (oM Z Z (zU Z Z Z (zO Z Z Z) Z bi (zU Z Z Z (zO Z Z Z) Z bj (zU Z Z Z (zO Z Z Z) Z bk (zU Z Z Z (zO Z Z Z) Z Z (ze Z Z Z (zO Z Z Z) (fun _=>zl (pv:=[(0,jV (↑aa:Int)),(1,jV (↑ab:Int)),(2,jV (↑ah:Int)),(3,.bool false)]) (z:=B2) (cs:=[jV (↑aa:Int),jV (↑ab:Int),jV (↑ah:Int),.bool false]) Z (wAE Z (wAE Z (wAE Z (wAE Z wAL)))) Zq wDE Z Z) (bnK aT fun ik fh aU=>OKS.yieldT 0 (a:=(⟨(↑aa:Int),(↑ab:Int),(↑ah:Int),false⟩:wAH)) Z Z Z (zO Z Z Z) Z Z (zB Z zN) fE hY ((((an.trans ap).trans bG).trans bH).trans cS) gB Z fh Z ?_)))))))
 rintro aE a7 iG ca gN cG aJ
 rcases ik with gT | gT
 try dsimp only at aU aJ
 obtain ⟨rfl,gC⟩:=aJ
 have fG:St ⟨w,L,U⟩ aE a7 ca:=cG
 refine ze Z Z Z (zO Z Z Z) (fun _=>ZY Z Z) (oR Z (zd Z Z Z) (eN (zj Z (ZS (zk (zI (rR fL2 Z (oR Z (ZI (zV Z bo Z) (congrArg (jV) f5.out)) (oM Z Z (zc ?_))))))))))
 have q:=hJ aU
 obtain rfl:=q
 exact zI ⟨Z,_,Z,⟨aE,a7,Z,bi,d7,bj,d8,bk,d9,ef,eg,eh,co,((bH.trans cS).trans gN),fG,gC⟩⟩
 try dsimp only at aU aJ
 obtain ⟨rfl,gE⟩:=aJ
 have fH:St ⟨w,L,U⟩ aE a7 ca:=cG
 refine ze Z Z Z (zO Z Z Z) (fun _=>ZY Z Z) (oR Z (zd Z Z Z) (eN (ZK Z (zR (zn (zW ?_))))))
 have q:=wAY aU
 obtain ⟨g7,gg,dy⟩:=q
 have q:=wBo aW aM (cK g7 dy)
 obtain rfl:=q
 refine zW (zn (zn (zW ?_)))
 have q:=wAY gg
 obtain ⟨g8,gh,dz⟩:=q
 have q:=wBo aS aL (cJ g8 dz)
 obtain rfl:=q
 refine zW (zn (zn (zW ?_)))
 have q:=wAY gh
 obtain ⟨g9,gi,dA⟩:=q
 have q:=wBo hm ao (aP g9 dA)
 obtain rfl:=q
 refine zW (zn ?_)
 cases gi
 exact ⟨Z,_,(wDv),aE,_,fH,gE⟩
 try dsimp only at aT aI
 obtain ⟨rfl,gF⟩:=aI
 have fI:St ⟨w,L,U⟩ ba bU bZ:=cE
 refine oR Z (ZY Z Z) (oM Z Z (oN Z (oN Z (oN Z (oN Z (oN Z (zz Z Z Z (zS Z Z Z Z) (oN Z (oR Z (zQ Z Z Z) (eN (ZK Z (zR (zn (zW ?_))))))))))))))
 have q:=wAY aT
 obtain ⟨ib,gk,dB⟩:=q
 have q:=wBo aW aM (cK ib dB)
 obtain rfl:=q
 refine zW (zn (zn (zW ?_)))
 have q:=wAY gk
 obtain ⟨ic,gm,dC⟩:=q
 have q:=wBo aS aL (cJ ic dC)
 obtain rfl:=q
 refine zW (zn (zn (zW ?_)))
 have q:=wAY gm
 obtain ⟨ie,gp,dD⟩:=q
 have q:=wBo hm ao (aP ie dD)
 obtain rfl:=q
 refine zW (zn ?_)
 cases gp
 exact ⟨Z,_,(wDv),ba,_,fI,gF⟩
 rintro je jo iw ⟨dg,db,eX,ej,en,eo,ez,iK,eA,eB,eE,eF,eG,gO,fJ,fk⟩ fP
 have gq:=wCk aW aM fP
 have dn:Hid (¬ ((↑((ae:Int) - 0).toNat:Int) < ae)):=zK (wAd)
 refine sR fL1 Z (oR Z (zT Z eX eG) (eN (zJ (cF Z dn (ZQ (zg (zg (ZJ (zk (zI (rR fL2 Z (oR Z (ZI (zV Z eF Z) (congrArg (jV) f4.out)) (oM Z Z (zc ?_))))))))))))))
 have q:=hJ gq
 obtain rfl:=q
 exact zI ⟨Z,_,Z,⟨dg,db,Z,ej,en,eo,ez,eA,eB,eE,(bG.trans gO),fJ,fk⟩⟩
 rintro jf jp iz ⟨dh,dd,eY,eH,eI,iL,iM,eJ,eL,eM,gP,fK,fm⟩ fQ
 have gt:=wCk aS aL fQ
 have dp:Hid (¬ ((↑(((↑O.Starts.length:Int):Int) - 0).toNat:Int) < (↑O.Starts.length:Int))):=zK (wAd)
 refine sR fL1 Z (oR Z (zT Z eY eM) (eN (zJ (cF Z dp (ZQ (zg (zg (ZJ (zk (zI (rR fL2 Z (oR Z (ZI (zV Z eL Z) (congrArg (jV) cM.out)) (oM Z Z (zc ?_))))))))))))))
 have q:=hJ gt
 obtain rfl:=q
 exact zI ⟨Z,_,Z,⟨dh,dd,Z,eH,eI,eJ,((an.trans ap).trans gP),fK,fm⟩⟩
 rintro jg jq iA ⟨di,il,eZ,iN,iO,iP,iU,fL,fq⟩ fR
 have gu:=wCk hm ao fR
 have dq:Hid (¬ ((↑((4:Int) - 0).toNat:Int) < 4)):=zK (wAd)
 refine sR fL1 Z (oR Z (zT Z eZ Z) (eN (zJ (cF Z dq (ZQ (zg (zg (ZJ ?_))))))))
 cases gu
 exact ⟨Z,_,(wDv),di,_,fL,fq⟩
end Go.Proofs.YtkghaiefcjgfkaaGreat
namespace Go.Proofs.YtkghaiefcjgfkaaGreat
open Go.KL
set_option maxHeartbeats 4000000
theorem wGB (O:wAD) (ab:Option Addr) (ag:Nat) (ac:Option Addr) (ah:Nat) (ae:Option Addr) (aj:Nat) (af:Option Addr) (am:Nat) (w:World) (U:PHeap) (hS:St0 w U []) (az:Sl U 1 ab ag O.Starts.length (hH KL.encI O.Starts)) (aE:Sl U 2 ac ah O.Splits.length (hH wAA O.Splits)) (aF:Sl U 3 ae aj O.Clocks.length (hH wAG O.Clocks)) (aG:Sl U 4 af am O.Readings.length (hH wAB O.Readings)) {r:Unit} (hm:wCr O=some r):Gv Tryz.prog 115 [.agg #[.slice ab O.Starts.length ag,.slice ac O.Splits.length ah,.slice ae O.Clocks.length aj,.slice af O.Readings.length am]] w (wBl w [] U (fun U_ L_ v=>∃ (b0:Nat),v=.func (.func 144) #[] #[.pointer (some ⟨b0,0,none⟩)]/\L_=[]/\Cl U_ b0 0 [.slice ab O.Starts.length ag,.slice ac O.Splits.length ah,.slice ae O.Clocks.length aj,.slice af O.Readings.length am])):=by
 unfold wCr at hm
 refine Gv.of Tryz.func115 Z Tryz.ntmps115 Tryz.results115 Z (sR gAi Z ?_)
 let B0:List Value:=[.slice ab O.Starts.length ag,.slice ac O.Splits.length ah,.slice ae O.Clocks.length aj,.slice af O.Readings.length am]
 refine zu (cs:=B0) rfl rfl rfl rfl rfl rfl (by rfl) hS ?_
 intro W1 b2 av
 have q:=av.freeze (k:=0) rfl
 obtain ⟨U5,aH,aa,ax⟩:=q
 replace aa:=Cl.of aa
 have ay:sW w U U5 [] W1:=ax
 replace aa:Cl U5 b2 0 B0:=aa
 refine oA Z Z (eN (sR fL2 Z (oR Z (Runs.mkf Z zN (zB Z zN)) (oA Z Z (eN (zR ?_))))))
 cases hm
 exact ⟨Z,_,(ZG Z),U5,_,ay,b2,Z,Z,aa⟩
theorem wGy (O:wAD) (ac:Option Addr) (ae:Nat) (aj:Option Addr) (ao:Nat) (am:Option Addr) (ap:Nat) (an:Option Addr) (aq:Nat) (p1:wAH) (w:World) (U:PHeap) (hS:St0 w U []) (aN:Sl U 1 ac ae O.Starts.length (hH KL.encI O.Starts)) (aO:Sl U 2 aj ao O.Splits.length (hH wAA O.Splits)) (aP:Sl U 3 am ap O.Clocks.length (hH wAG O.Clocks)) (aQ:Sl U 4 an aq O.Readings.length (hH wAB O.Readings)) {r:Bool} (hm:wET O p1=some r):Gv Tryz.prog 116 [.agg #[.slice ac O.Starts.length ae,.slice aj O.Splits.length ao,.slice am O.Clocks.length ap,.slice an O.Readings.length aq],.agg #[jV p1.Kind,jV p1.Skier,jV p1.Index,.bool p1.Up]] w (wBl w [] U (fun U_ L_ v=>v=.bool r/\L_=[])):=by
 unfold wET at hm
 refine Gv.of Tryz.func116 Z Tryz.ntmps116 Tryz.results116 Z (sR gAs Z ?_)
 let B0:List Value:=[.slice ac O.Starts.length ae,.slice aj O.Splits.length ao,.slice am O.Clocks.length ap,.slice an O.Readings.length aq]
 refine zu (cs:=B0) rfl rfl rfl rfl rfl rfl (by rfl) hS ?_
 intro W1 b2 aI
 let B1:List Value:=[jV p1.Kind,jV p1.Skier,jV p1.Index,.bool p1.Up]
 refine zu (cs:=B1) rfl rfl rfl rfl rfl rfl (by rfl) aI ?_
 intro W5 b6 ah
 refine oA Z Z (eN (sR (wHN (.fx 6 (wMN (.nil)) .stop)) Z (oR Z (zM Z Z zi Z zC) (oL Z (ah.ldB (j:=0) Z Z Z zF (v:=jV p1.Skier) Z) (oR Z (zM Z Z zP Z ZC) (oL Z (ah.ldB (j:=1) Z Z Z ZH (v:=.slice ac O.Starts.length ae) Z) (oR Z (zx Z Z zD) (oR Z (ZV Z Z Z) (bnK hm fun x9 aG aJ=>zG 0 Z Z Z Z (zH Z Z yL (zB Z (zB Z (zB Z zN))) Z) ah (fun hs=>wBg p1.Skier 0 (w64 ((↑O.Starts.length:Int) - 1)) W5 U hs aG) (.inr Z) ?_)))))))))
 rintro af aL aS ay aR aH ⟨rfl,rfl⟩
 have ag:sW w U af [.blk b6 101 B1,.blk b2 45 B0] ay:=aH
 refine oM Z Z (ifc aJ ?_ ?_)
 intro ab ax
 refine ze Z Z Z (zO Z Z (congrArg nA ab.out)) (fun _=>zM Z Z zi Z zC) (ZD Z Z Z (zO Z Z (congrArg nA ab.out)) (ag.ldB (j:=0) Z Z Z zF (v:=jV p1.Index) Z) Z (ze Z Z Z (zO Z Z (congrArg nA ab.out)) (fun _=>yO Z Z Z) (oR Z (zQ Z (congrArg nA ab.out) Z) (oA Z Z (eN (zR ?_))))))
 first | (obtain rfl:=hJ ax) | cases ax
 exact ⟨rfl,_,(ZG rfl),af,_,(ag.pick [] _ (by decide) rfl),rfl,rfl⟩
 intro ab aK
 refine ZT Z Z Z (zS Z Z (congrArg nA (nB.2 ab.out)) Z) (ZT Z Z Z (zS Z Z (congrArg nA (nB.2 ab.out)) Z) (ZT Z Z Z (zS Z Z (congrArg nA (nB.2 ab.out)) Z) (oR Z (zd Z (congrArg nA (nB.2 ab.out)) Z) (oA Z Z (eN (zR ?_))))))
 have hE:=hJ aK;first | subst r | cases hE
 exact ⟨rfl,_,(ZG rfl),af,_,(ag.pick [] _ (by decide) rfl),rfl,rfl⟩
theorem wGz (O:wAD) (aG:Option Addr) (aK:Nat) (aH:Option Addr) (aL:Nat) (aI:Option Addr) (aM:Nat) (aJ:Option Addr) (aN:Nat) (p1:wAH) (w:World) (U:PHeap) (hS:St0 w U []) (bI:Sl U 1 aG aK O.Starts.length (hH KL.encI O.Starts)) (bJ:Sl U 2 aH aL O.Splits.length (hH wAA O.Splits)) (bK:Sl U 3 aI aM O.Clocks.length (hH wAG O.Clocks)) (bL:Sl U 4 aJ aN O.Readings.length (hH wAB O.Readings)) {r:wAI × wAI} (hm:wDZ O p1=some r):Gv Tryz.prog 117 [.agg #[.slice aG O.Starts.length aK,.slice aH O.Splits.length aL,.slice aI O.Clocks.length aM,.slice aJ O.Readings.length aN],.agg #[jV p1.Kind,jV p1.Skier,jV p1.Index,.bool p1.Up]] w (wBl w [] U (fun U_ L_ v=>v=.tuple #[.agg #[jV r.1.skier,jV r.1.mat],.agg #[jV r.2.skier,jV r.2.mat]]/\L_=[])):=by
 unfold wDZ at hm
 refine Gv.of Tryz.func117 Z Tryz.ntmps117 Tryz.results117 Z (sR gAz Z ?_)
 let B0:List Value:=[.slice aG O.Starts.length aK,.slice aH O.Splits.length aL,.slice aI O.Clocks.length aM,.slice aJ O.Readings.length aN]
 refine zu (cs:=B0) rfl rfl rfl rfl rfl rfl (by rfl) hS ?_
 intro W1 b2 be
 let B1:List Value:=[jV p1.Kind,jV p1.Skier,jV p1.Index,.bool p1.Up]
 refine zu (cs:=B1) rfl rfl rfl rfl rfl rfl (by rfl) be ?_
 intro W5 b6 bo
 let B2:List Value:=[jV 0,jV 0]
 refine zX (cs:=B2) Z Z Z Z Z zb Z bo ?_
 intro W9 ag bb
 refine zX (cs:=B2) Z Z Z Z Z zb Z bb ?_
 intro aO ah bc
 refine eN ?_
 have q:=bnd hm
 obtain ⟨⟨bz,bA⟩,bw,aS⟩:=q
 try dsimp only at aS
 let B3:List Value:=[jV p1.Skier,jV 0]
 let B4:List Value:=[jV bz,jV bA]
 refine yI (fun σ_ w_=>∃ (U_:PHeap),σ_ 4=.pointer (some ⟨ag,0,none⟩)/\σ_ 5=.pointer (some ⟨ah,0,none⟩)/\PHeap.Le U U_/\sW w U U_ [.blk ah 115 B3,.blk ag 115 B4,.blk b6 101 B1,.blk b2 45 B0] w_) ?_ ?_
 refine bnK bw fun ao aQ aF=>ZB zw [2,3,2,3,0,0] (.fl 1 (.fx 0 (.fx 2 (.fl 3 gAk) (.fx 4 (.fx 2 (.fl 3 (.fx 5 .nil .stop)) .stop) .stop)) (.fx 2 (.fl 3 (.fx 0 gAk .stop)) .stop))) (by kernel_rfl) ?_
 have aq:=bc.drew
 generalize hw_W40:({ aO with drawn:=aO.drawn + 1 }:World)=aP at aq ⊢
 refine oR Z (zM Z Z zi Z zC) (zq ?_ ?_)
 refine zG 0 Z Z Z Z (zH Z Z ya zN Z) aq (fun hs=>wBa aP U hs aQ) (.inr Z) ?_
 rintro an bB bN aV aT bf ⟨rfl,rfl⟩
 have az:sW w U an [.blk ah 115 B2,.blk ag 115 B2,.blk b6 101 B1,.blk b2 45 B0] aV:=bf
 refine zq ?_ ?_
 refine ZL Z Z Z Z (az.ldB (j:=2) Z Z Z zF (v:=jV p1.Skier) Z) (oR Z (zl (pv:=[(0,jV p1.Skier),(1,jV 0)]) (z:=B2) (cs:=B3) Z (wAE Z (wAE Z wAL)) zb wBT Z Z) ?_)
 let B5:List Value:=[jV ao.skier,jV ao.mat]
 refine za (j:=1) (vs:=B5) Z Z Z Z az Z Z Z Z zE (zA Z) Z Z Z ?_
 intro aW bg
 have bh:sW w U an [.blk ah 115 B2,.blk ag 115 B5,.blk b6 101 B1,.blk b2 45 B0] aW:=bg
 refine za (j:=0) (vs:=B3) Z Z Z Z bh Z Z Z Z zE (zA Z) Z Z Z ?_
 intro aX bi
 have bj:sW w U an [.blk ah 115 B3,.blk ag 115 B5,.blk b6 101 B1,.blk b2 45 B0] aX:=bi
 refine zc ?_
 cases aF
 exact zI ⟨Z,⟨an,Z,Z,aT,bj⟩⟩
 let B6:List Value:=[jV ao.skier,jV ao.mat]
 refine za (j:=1) (vs:=B6) Z Z Z Z az Z Z Z Z zE (zA Z) Z Z Z ?_
 intro aY bk
 have aR:sW w U an [.blk ah 115 B2,.blk ag 115 B6,.blk b6 101 B1,.blk b2 45 B0] aY:=bk
 refine ZL Z Z Z Z (aR.ldB (j:=2) Z Z Z zF (v:=jV p1.Skier) Z) (oR Z (zl (pv:=[(0,jV p1.Skier),(1,jV 0)]) (z:=B2) (cs:=B3) Z (wAE Z (wAE Z wAL)) zb wBT Z Z) (za (j:=0) (vs:=B3) Z Z Z Z aR Z Z Z Z zE (zA Z) Z Z Z ?_))
 intro aZ bm
 have bn:sW w U an [.blk ah 115 B3,.blk ag 115 B6,.blk b6 101 B1,.blk b2 45 B0] aZ:=bm
 refine zc ?_
 cases aF
 exact zI ⟨Z,⟨an,Z,Z,aT,bn⟩⟩
 refine ZL Z Z Z Z (aq.ldB (j:=2) Z Z Z zF (v:=jV p1.Skier) Z) (oR Z (zl (pv:=[(0,jV p1.Skier),(1,jV 0)]) (z:=B2) (cs:=B3) Z (wAE Z (wAE Z wAL)) zb wBT Z Z) (zG 0 Z Z Z Z (zH Z Z ya zN Z) aq (fun hs=>wBa aP U hs aQ) (.inr Z) ?_))
 rintro ap bC bO a6 bx bp ⟨rfl,rfl⟩
 have bq:sW w U ap [.blk ah 115 B2,.blk ag 115 B2,.blk b6 101 B1,.blk b2 45 B0] a6:=bp
 let B7:List Value:=[jV ao.skier,jV ao.mat]
 refine za (j:=1) (vs:=B7) Z Z Z Z bq Z Z Z Z zE (zA Z) Z Z Z ?_
 intro a7 br
 have bt:sW w U ap [.blk ah 115 B2,.blk ag 115 B7,.blk b6 101 B1,.blk b2 45 B0] a7:=br
 refine za (j:=0) (vs:=B3) Z Z Z Z bt Z Z Z Z zE (zA Z) Z Z Z ?_
 intro a8 bu
 have bv:sW w U ap [.blk ah 115 B3,.blk ag 115 B7,.blk b6 101 B1,.blk b2 45 B0] a8:=bu
 refine zc ?_
 cases aF
 exact zI ⟨Z,⟨ap,Z,Z,bx,bv⟩⟩
 rintro bP bG ⟨aU,a9,ba,bM,aE⟩
 refine zR ?_
 cases aS
 exact ⟨rfl,_,(wEG (rs:=[.cell 4 115,.cell 5 115]) (vs:=[.agg B4.toArray,.agg B3.toArray]) ⟨⟨_,a9,(wBC zh zE (aE.blkAt (k:=1) rfl) (vs:=B4) rfl rfl)⟩,⟨⟨_,ba,(wBC zh zE (aE.blkAt (k:=0) rfl) (vs:=B3) rfl rfl)⟩,trivial⟩⟩ rfl),aU,_,(aE.pick [] _ (by decide) rfl),rfl,rfl⟩
theorem wHA (O:wAD) (ae:Option Addr) (af:Nat) (ag:Option Addr) (am:Nat) (ah:Option Addr) (an:Nat) (aj:Option Addr) (ao:Nat) (p1:wAH) (w:World) (U:PHeap) (hS:St0 w U []) (aq:Sl U 1 ae af O.Starts.length (hH KL.encI O.Starts)) (aN:Sl U 2 ag am O.Splits.length (hH wAA O.Splits)) (aO:Sl U 3 ah an O.Clocks.length (hH wAG O.Clocks)) (aP:Sl U 4 aj ao O.Readings.length (hH wAB O.Readings)) {r:Int × Int} (hm:wDa O p1=some r):Gv Tryz.prog 118 [.agg #[.slice ae O.Starts.length af,.slice ag O.Splits.length am,.slice ah O.Clocks.length an,.slice aj O.Readings.length ao],.agg #[jV p1.Kind,jV p1.Skier,jV p1.Index,.bool p1.Up]] w (wBl w [] U (fun U_ L_ v=>v=.tuple #[jV r.1,jV r.2]/\L_=[])):=by
 unfold wDa at hm
 refine Gv.of Tryz.func118 rfl Tryz.ntmps118 Tryz.results118 rfl (sR gAy rfl (zu (cs:=[.slice ae O.Starts.length af,.slice ag O.Splits.length am,.slice ah O.Clocks.length an,.slice aj O.Readings.length ao]) rfl rfl rfl rfl rfl rfl (by rfl) hS ?_))
 intro W1 b2 aE
 refine zu (cs:=[jV p1.Kind,jV p1.Skier,jV p1.Index,.bool p1.Up]) rfl rfl rfl rfl rfl rfl (by rfl) aE ?_
 intro W5 b6 aF
 refine Zy rfl rfl rfl rfl rfl rfl (Zy rfl rfl rfl rfl rfl rfl (eN (zJ (ZB zw [3,1,3,1,3,1,3,1,3,1,3,1,3,3,3] fL15 (by kernel_rfl) ?_))))
 have ab:=aF.drew
 generalize hw_W10:({ W5 with drawn:=W5.drawn + 1 }:World)=aI at ab ⊢
 refine oR Z (zM Z Z zP Z ZC) (oL Z (ab.ldB (j:=1) Z Z Z ZH (v:=.slice ae O.Starts.length af) Z) (oR Z (zM Z Z zi Z zC) (oL Z (ab.ldB (j:=0) Z Z Z zF (v:=jV p1.Skier) Z) (bnK hm fun au ac aG=>?_))))
 have q:=aq.el (fun _=>rfl) (wAc ac)
 obtain ⟨aJ,aQ,av,ay⟩:=q
 refine oR Z (ZM Z Z av Z zD zC (wCt ac) (wCz ac)) (oL Z (ab.ldC (f:=0) ay (v:=jV au) Z Z zF Z) (oR Z (zM Z Z zP Z ZC) (oL Z (ab.ldB (j:=1) Z Z Z ZH (v:=.slice ae O.Starts.length af) Z) (oR Z (zM Z Z zi Z zC) (oL Z (ab.ldB (j:=0) Z Z Z zF (v:=jV p1.Skier) Z) ?_)))))
 have q:=aq.el (fun _=>rfl) (wAc ac)
 obtain ⟨aK,aR,ax,az⟩:=q
 refine oR Z (ZM Z Z ax Z zD zC (wCt ac) (wCz ac)) (oL Z (ab.ldC (f:=0) az (v:=jV au) Z Z zF Z) (oR Z (Runs.negw Z Z) (oA Z Z (oA Z Z (eN (zR ?_))))))
 cases aG
 exact ⟨rfl,_,(wDw rfl rfl),U,_,(ab.pick [] _ (by decide) rfl),rfl,rfl⟩
theorem wHB (O:wAD) (ae:Option Addr) (ag:Nat) (af:Option Addr) (ah:Nat) (ap:Option Addr) (au:Nat) (aq:Option Addr) (av:Nat) (p1:wAH) (w:World) (U:PHeap) (hS:St0 w U []) (aU:Sl U 1 ae ag O.Starts.length (hH KL.encI O.Starts)) (aV:Sl U 2 af ah O.Splits.length (hH wAA O.Splits)) (aW:Sl U 3 ap au O.Clocks.length (hH wAG O.Clocks)) (aX:Sl U 4 aq av O.Readings.length (hH wAB O.Readings)) {r:Bool} (hm:wEU O p1=some r):Gv Tryz.prog 119 [.agg #[.slice ae O.Starts.length ag,.slice af O.Splits.length ah,.slice ap O.Clocks.length au,.slice aq O.Readings.length av],.agg #[jV p1.Kind,jV p1.Skier,jV p1.Index,.bool p1.Up]] w (wBl w [] U (fun U_ L_ v=>v=.bool r/\L_=[])):=by
 unfold wEU at hm
 refine Gv.of Tryz.func119 Z Tryz.ntmps119 Tryz.results119 Z (sR gAs Z ?_)
 let B0:List Value:=[.slice ae O.Starts.length ag,.slice af O.Splits.length ah,.slice ap O.Clocks.length au,.slice aq O.Readings.length av]
 refine zu (cs:=B0) rfl rfl rfl rfl rfl rfl (by rfl) hS ?_
 intro W1 b2 aL
 let B1:List Value:=[jV p1.Kind,jV p1.Skier,jV p1.Index,.bool p1.Up]
 refine zu (cs:=B1) rfl rfl rfl rfl rfl rfl (by rfl) aL ?_
 intro W5 b6 ao
 refine oA Z Z (eN (sR (wHN (.fx 6 (wMO gAp) .stop)) Z (oR Z (zM Z Z zi Z zC) (oL Z (ao.ldB (j:=0) Z Z Z zF (v:=jV p1.Skier) Z) (oR Z (zM Z Z zP Z ZC) (oL Z (ao.ldB (j:=1) Z Z Z ZH (v:=.slice ae O.Starts.length ag) Z) (oR Z (zx Z Z zD) (oR Z (ZV Z Z Z) (bnK hm fun x9 aH aN=>zG 0 Z Z Z Z (zH Z Z yL (zB Z (zB Z (zB Z zN))) Z) ao (fun hs=>wBg p1.Skier 0 (w64 ((↑O.Starts.length:Int) - 1)) W5 U hs aH) (.inr Z) ?_)))))))))
 rintro an aR a6 ay aY aJ ⟨rfl,rfl⟩
 have ac:sW w U an [.blk b6 101 B1,.blk b2 45 B0] ay:=aJ
 refine oM Z Z (ifc aN ?_ ?_)
 intro aa aO
 refine ze Z Z Z (zO Z Z (congrArg nA aa.out)) (fun _=>zM Z Z zi Z zC) (ZD Z Z Z (zO Z Z (congrArg nA aa.out)) (ac.ldB (j:=0) Z Z Z zF (v:=jV p1.Index) Z) Z (ze Z Z Z (zO Z Z (congrArg nA aa.out)) (fun _=>zM Z Z zP Z Zd) (ZD Z Z Z (zO Z Z (congrArg nA aa.out)) (ac.ldB (j:=1) Z Z Z yT (v:=.slice af O.Splits.length ah) Z) Z (ze Z Z Z (zO Z Z (congrArg nA aa.out)) (fun _=>zx Z Z zy) (ze Z Z Z (zO Z Z (congrArg nA aa.out)) (fun _=>ZV Z Z Z) (bnK aO fun a8 aI aP=>zG 0 Z Z Z (zO Z Z (congrArg nA aa.out)) (zH Z Z yL (zB Z (zB Z (zB Z zN))) Z) ac (fun hs=>wBg p1.Index 0 (w64 ((↑O.Splits.length:Int) - 1)) ay an hs aI) (.inr Z) ?_))))))
 rintro ax aS a7 aF aZ aK ⟨rfl,rfl⟩
 have aM:sW w U ax [.blk b6 101 B1,.blk b2 45 B0] aF:=aK
 refine oR Z (zQ Z (congrArg nA aa.out) Z) (oA Z Z (eN (zR ?_)))
 have hE:=hJ aP;first | subst r | cases hE
 exact ⟨rfl,_,(ZG rfl),ax,_,(aM.pick [] _ (by decide) rfl),rfl,rfl⟩
 intro aa aQ
 refine ZT Z Z Z (zS Z Z (congrArg nA (nB.2 aa.out)) Z) (ZT Z Z Z (zS Z Z (congrArg nA (nB.2 aa.out)) Z) (ZT Z Z Z (zS Z Z (congrArg nA (nB.2 aa.out)) Z) (ZT Z Z Z (zS Z Z (congrArg nA (nB.2 aa.out)) Z) (ZT Z Z Z (zS Z Z (congrArg nA (nB.2 aa.out)) Z) (ZT Z Z Z (zS Z Z (congrArg nA (nB.2 aa.out)) Z) (zz Z Z Z (zS Z Z (congrArg nA (nB.2 aa.out)) Z) (oR Z (zd Z (congrArg nA (nB.2 aa.out)) Z) (oA Z Z (eN (zR ?_))))))))))
 have hE:=hJ aQ;first | subst r | cases hE
 exact ⟨rfl,_,(ZG rfl),an,_,(ac.pick [] _ (by decide) rfl),rfl,rfl⟩
theorem wHC (p0:wAD) (av:Option Addr) (aE:Nat) (ax:Option Addr) (aF:Nat) (ay:Option Addr) (aG:Nat) (az:Option Addr) (aH:Nat) (O:wAH) (w:World) (U:PHeap) (hS:St0 w U []) (bC:Sl U 1 av aE p0.Starts.length (hH KL.encI p0.Starts)) (bD:Sl U 2 ax aF p0.Splits.length (hH wAA p0.Splits)) (bF:Sl U 3 ay aG p0.Clocks.length (hH wAG p0.Clocks)) (bG:Sl U 4 az aH p0.Readings.length (hH wAB p0.Readings)) {r:wAI × wAI} (hm:wDb p0 O=some r):Gv Tryz.prog 120 [.agg #[.slice av p0.Starts.length aE,.slice ax p0.Splits.length aF,.slice ay p0.Clocks.length aG,.slice az p0.Readings.length aH],.agg #[jV O.Kind,jV O.Skier,jV O.Index,.bool O.Up]] w (wBl w [] U (fun U_ L_ v=>v=.tuple #[.agg #[jV r.1.skier,jV r.1.mat],.agg #[jV r.2.skier,jV r.2.mat]]/\L_=[])):=by
 unfold wDb at hm
 refine Gv.of Tryz.func120 Z Tryz.ntmps120 Tryz.results120 Z (sR gAz Z ?_)
 let B0:List Value:=[.slice av p0.Starts.length aE,.slice ax p0.Splits.length aF,.slice ay p0.Clocks.length aG,.slice az p0.Readings.length aH]
 refine zu (cs:=B0) rfl rfl rfl rfl rfl rfl (by rfl) hS ?_
 intro W1 b2 a9
 let B1:List Value:=[jV O.Kind,jV O.Skier,jV O.Index,.bool O.Up]
 refine zu (cs:=B1) rfl rfl rfl rfl rfl rfl (by rfl) a9 ?_
 intro W5 b6 bv
 let B2:List Value:=[jV 0,jV 0]
 refine zX (cs:=B2) Z Z Z Z Z zb Z bv ?_
 intro W9 ah a6
 refine zX (cs:=B2) Z Z Z Z Z zb Z a6 ?_
 intro aI aj a7
 refine eN ?_
 have q:=bnd hm
 obtain ⟨⟨⟩,aq,aL⟩:=q
 try dsimp only at aL
 let B3:List Value:=[jV O.Skier,jV (w64 (O.Index + 1))]
 let B4:List Value:=[jV O.Skier,jV O.Index]
 refine yI (fun σ_ w_=>∃ (U_:PHeap),σ_ 4=.pointer (some ⟨ah,0,none⟩)/\σ_ 5=.pointer (some ⟨aj,0,none⟩)/\PHeap.Le U U_/\sW w U U_ [.blk aj 115 B3,.blk ah 115 B4,.blk b6 101 B1,.blk b2 45 B0] w_) ?_ ?_
 refine ZB zw [3,1,3,1,3,3,2,3,2,3,3,0,0] (wHN (.fl 7 (.fx 6 (.fx 8 (.fl 9 gAu) (.fx 11 gBa .stop)) (.fx 8 (.fl 9 (.fx 6 gAu (.fx 11 gAv .stop))) (.fx 11 (.fx 6 gBa (.fx 8 (.fl 9 gAv) .stop)) .stop))))) (by kernel_rfl) ?_
 have ao:=a7.drew
 generalize hw_W27:({ aI with drawn:=aI.drawn + 1 }:World)=bx at ao ⊢
 refine oR Z (zM Z Z zi Z zC) (oL Z (ao.ldB (j:=2) Z Z Z zF (v:=jV O.Skier) Z) (oR Z (zM Z Z zi Z zC) (oL Z (ao.ldB (j:=2) Z Z Z zF (v:=jV O.Index) Z) (oR Z (zl (pv:=[(0,jV O.Skier),(1,jV O.Index)]) (z:=B2) (cs:=B4) Z (wAE Z (wAE Z wAL)) zb wBT Z Z) (oR Z (zM Z Z zi Z zC) (oR Z (zM Z Z zi Z zC) (zq ?_ ?_)))))))
 refine ZL Z Z Z Z (ao.ldB (j:=2) Z Z Z zF (v:=jV O.Skier) Z) (zq ?_ ?_)
 refine ZL Z Z Z Z (ao.ldB (j:=2) Z Z Z zF (v:=jV O.Index) Z) (oR Z (zV Z Z Z) (oR Z (zl (pv:=[(0,jV O.Skier),(1,jV (w64 (O.Index + 1)))]) (z:=B2) (cs:=B3) Z (wAE Z (wAE Z wAL)) zb wBT Z Z) (za (j:=1) (vs:=B4) Z Z Z Z ao Z Z Z Z zE (zA Z) Z Z Z ?_)))
 intro aN a8
 have ba:sW w U U [.blk aj 115 B2,.blk ah 115 B4,.blk b6 101 B1,.blk b2 45 B0] aN:=a8
 refine za (j:=0) (vs:=B3) Z Z Z Z ba Z Z Z Z zE (zA Z) Z Z Z ?_
 intro aO bb
 have bc:sW w U U [.blk aj 115 B3,.blk ah 115 B4,.blk b6 101 B1,.blk b2 45 B0] aO:=bb
 refine zc ?_
 cases aq
 exact zI ⟨Z,⟨U,Z,Z,(zL _),bc⟩⟩
 refine za (j:=1) (vs:=B4) Z Z Z Z ao Z Z Z Z zE (zA Z) Z Z Z ?_
 intro aP be
 have aJ:sW w U U [.blk aj 115 B2,.blk ah 115 B4,.blk b6 101 B1,.blk b2 45 B0] aP:=be
 refine ZL Z Z Z Z (aJ.ldB (j:=2) Z Z Z zF (v:=jV O.Index) Z) (oR Z (zV Z Z Z) (oR Z (zl (pv:=[(0,jV O.Skier),(1,jV (w64 (O.Index + 1)))]) (z:=B2) (cs:=B3) Z (wAE Z (wAE Z wAL)) zb wBT Z Z) (za (j:=0) (vs:=B3) Z Z Z Z aJ Z Z Z Z zE (zA Z) Z Z Z ?_)))
 intro aQ bf
 have bg:sW w U U [.blk aj 115 B3,.blk ah 115 B4,.blk b6 101 B1,.blk b2 45 B0] aQ:=bf
 refine zc ?_
 cases aq
 exact zI ⟨Z,⟨U,Z,Z,(zL _),bg⟩⟩
 refine zq ?_ ?_
 refine ZL Z Z Z Z (ao.ldB (j:=2) Z Z Z zF (v:=jV O.Index) Z) (oR Z (zV Z Z Z) (zq ?_ ?_))
 refine ZL Z Z Z Z (ao.ldB (j:=2) Z Z Z zF (v:=jV O.Skier) Z) (oR Z (zl (pv:=[(0,jV O.Skier),(1,jV (w64 (O.Index + 1)))]) (z:=B2) (cs:=B3) Z (wAE Z (wAE Z wAL)) zb wBT Z Z) (za (j:=1) (vs:=B4) Z Z Z Z ao Z Z Z Z zE (zA Z) Z Z Z ?_))
 intro aR bh
 have bi:sW w U U [.blk aj 115 B2,.blk ah 115 B4,.blk b6 101 B1,.blk b2 45 B0] aR:=bh
 refine za (j:=0) (vs:=B3) Z Z Z Z bi Z Z Z Z zE (zA Z) Z Z Z ?_
 intro aS bj
 have bk:sW w U U [.blk aj 115 B3,.blk ah 115 B4,.blk b6 101 B1,.blk b2 45 B0] aS:=bj
 refine zc ?_
 cases aq
 exact zI ⟨Z,⟨U,Z,Z,(zL _),bk⟩⟩
 refine za (j:=1) (vs:=B4) Z Z Z Z ao Z Z Z Z zE (zA Z) Z Z Z ?_
 intro aT bm
 have aK:sW w U U [.blk aj 115 B2,.blk ah 115 B4,.blk b6 101 B1,.blk b2 45 B0] aT:=bm
 refine ZL Z Z Z Z (aK.ldB (j:=2) Z Z Z zF (v:=jV O.Skier) Z) (oR Z (zl (pv:=[(0,jV O.Skier),(1,jV (w64 (O.Index + 1)))]) (z:=B2) (cs:=B3) Z (wAE Z (wAE Z wAL)) zb wBT Z Z) (za (j:=0) (vs:=B3) Z Z Z Z aK Z Z Z Z zE (zA Z) Z Z Z ?_))
 intro aU bn
 have bo:sW w U U [.blk aj 115 B3,.blk ah 115 B4,.blk b6 101 B1,.blk b2 45 B0] aU:=bn
 refine zc ?_
 cases aq
 exact zI ⟨Z,⟨U,Z,Z,(zL _),bo⟩⟩
 refine za (j:=1) (vs:=B4) Z Z Z Z ao Z Z Z Z zE (zA Z) Z Z Z ?_
 intro aV bp
 have ap:sW w U U [.blk aj 115 B2,.blk ah 115 B4,.blk b6 101 B1,.blk b2 45 B0] aV:=bp
 refine zq ?_ ?_
 refine ZL Z Z Z Z (ap.ldB (j:=2) Z Z Z zF (v:=jV O.Skier) Z) (ZL Z Z Z Z (ap.ldB (j:=2) Z Z Z zF (v:=jV O.Index) Z) (oR Z (zV Z Z Z) (oR Z (zl (pv:=[(0,jV O.Skier),(1,jV (w64 (O.Index + 1)))]) (z:=B2) (cs:=B3) Z (wAE Z (wAE Z wAL)) zb wBT Z Z) (za (j:=0) (vs:=B3) Z Z Z Z ap Z Z Z Z zE (zA Z) Z Z Z ?_))))
 intro aW bq
 have br:sW w U U [.blk aj 115 B3,.blk ah 115 B4,.blk b6 101 B1,.blk b2 45 B0] aW:=bq
 refine zc ?_
 cases aq
 exact zI ⟨Z,⟨U,Z,Z,(zL _),br⟩⟩
 refine ZL Z Z Z Z (ap.ldB (j:=2) Z Z Z zF (v:=jV O.Index) Z) (oR Z (zV Z Z Z) (ZL Z Z Z Z (ap.ldB (j:=2) Z Z Z zF (v:=jV O.Skier) Z) (oR Z (zl (pv:=[(0,jV O.Skier),(1,jV (w64 (O.Index + 1)))]) (z:=B2) (cs:=B3) Z (wAE Z (wAE Z wAL)) zb wBT Z Z) (za (j:=0) (vs:=B3) Z Z Z Z ap Z Z Z Z zE (zA Z) Z Z Z ?_))))
 intro aX bt
 have bu:sW w U U [.blk aj 115 B3,.blk ah 115 B4,.blk b6 101 B1,.blk b2 45 B0] aX:=bt
 refine zc ?_
 cases aq
 exact zI ⟨Z,⟨U,Z,Z,(zL _),bu⟩⟩
 rintro bI bA ⟨aM,aY,aZ,bH,au⟩
 refine zR ?_
 cases aL
 exact ⟨rfl,_,(wEG (rs:=[.cell 4 115,.cell 5 115]) (vs:=[.agg B4.toArray,.agg B3.toArray]) ⟨⟨_,aY,(wBC zh zE (au.blkAt (k:=1) rfl) (vs:=B4) rfl rfl)⟩,⟨⟨_,aZ,(wBC zh zE (au.blkAt (k:=0) rfl) (vs:=B3) rfl rfl)⟩,trivial⟩⟩ rfl),aM,_,(au.pick [] _ (by decide) rfl),rfl,rfl⟩
theorem wHD (O:wAD) (ag:Option Addr) (am:Nat) (ae:Option Addr) (af:Nat) (ah:Option Addr) (an:Nat) (aj:Option Addr) (ao:Nat) (p1:wAH) (w:World) (U:PHeap) (hS:St0 w U []) (aN:Sl U 1 ag am O.Starts.length (hH KL.encI O.Starts)) (aq:Sl U 2 ae af O.Splits.length (hH wAA O.Splits)) (aO:Sl U 3 ah an O.Clocks.length (hH wAG O.Clocks)) (aP:Sl U 4 aj ao O.Readings.length (hH wAB O.Readings)) {r:Int × Int} (hm:wDc O p1=some r):Gv Tryz.prog 121 [.agg #[.slice ag O.Starts.length am,.slice ae O.Splits.length af,.slice ah O.Clocks.length an,.slice aj O.Readings.length ao],.agg #[jV p1.Kind,jV p1.Skier,jV p1.Index,.bool p1.Up]] w (wBl w [] U (fun U_ L_ v=>v=.tuple #[jV r.1,jV r.2]/\L_=[])):=by
 unfold wDc at hm
 refine Gv.of Tryz.func121 rfl Tryz.ntmps121 Tryz.results121 rfl (sR gAy rfl (zu (cs:=[.slice ag O.Starts.length am,.slice ae O.Splits.length af,.slice ah O.Clocks.length an,.slice aj O.Readings.length ao]) rfl rfl rfl rfl rfl rfl (by rfl) hS ?_))
 intro W1 b2 aE
 refine zu (cs:=[jV p1.Kind,jV p1.Skier,jV p1.Index,.bool p1.Up]) rfl rfl rfl rfl rfl rfl (by rfl) aE ?_
 intro W5 b6 aF
 refine Zy rfl rfl rfl rfl rfl rfl (Zy rfl rfl rfl rfl rfl rfl (eN (zJ (ZB zw [3,1,3,1,3,3,1,3,1,3,1,3,3,1,3,3,3] fL17 (by kernel_rfl) ?_))))
 have ab:=aF.drew
 generalize hw_W10:({ W5 with drawn:=W5.drawn + 1 }:World)=aI at ab ⊢
 refine oR Z (zM Z Z zP Z Zd) (oL Z (ab.ldB (j:=1) Z Z Z yT (v:=.slice ae O.Splits.length af) Z) (oR Z (zM Z Z zi Z zC) (oL Z (ab.ldB (j:=0) Z Z Z zF (v:=jV p1.Index) Z) (bnK hm fun au ac aG=>?_))))
 have q:=aq.el (fun _=>rfl) (wAc ac)
 obtain ⟨aJ,aQ,av,ay⟩:=q
 refine oR Z (ZM Z Z av Z zy zo (wCt ac) (wCz ac)) (oR Z (zM Z Z ZU Z zC) (oL Z (ab.ldC (f:=1) ay (v:=jV au.Hi) Z Z zF Z) (oR Z (zM Z Z zP Z Zd) (oL Z (ab.ldB (j:=1) Z Z Z yT (v:=.slice ae O.Splits.length af) Z) (oR Z (zM Z Z zi Z zC) (oL Z (ab.ldB (j:=0) Z Z Z zF (v:=jV p1.Index) Z) ?_))))))
 have q:=aq.el (fun _=>rfl) (wAc ac)
 obtain ⟨aK,aR,ax,az⟩:=q
 refine oR Z (ZM Z Z ax Z zy zo (wCt ac) (wCz ac)) (oR Z (zM Z Z ZU Z zC) (oL Z (ab.ldC (f:=0) az (v:=jV au.Lo) Z Z zF Z) (oR Z (Runs.negw Z Z) (oA Z Z (oA Z Z (eN (zR ?_)))))))
 cases aG
 exact ⟨rfl,_,(wDw rfl rfl),U,_,(ab.pick [] _ (by decide) rfl),rfl,rfl⟩
theorem wHE (p0:wAD) (ag:Option Addr) (am:Nat) (ah:Option Addr) (an:Nat) (ae:Option Addr) (af:Nat) (aj:Option Addr) (ao:Nat) (p1:wAH) (w:World) (U:PHeap) (hS:St0 w U []) (aN:Sl U 1 ag am p0.Starts.length (hH KL.encI p0.Starts)) (aO:Sl U 2 ah an p0.Splits.length (hH wAA p0.Splits)) (aP:Sl U 3 ae af p0.Clocks.length (hH wAG p0.Clocks)) (aQ:Sl U 4 aj ao p0.Readings.length (hH wAB p0.Readings)) {r:Bool} (hm:wEV p0 p1=some r):Gv Tryz.prog 122 [.agg #[.slice ag p0.Starts.length am,.slice ah p0.Splits.length an,.slice ae p0.Clocks.length af,.slice aj p0.Readings.length ao],.agg #[jV p1.Kind,jV p1.Skier,jV p1.Index,.bool p1.Up]] w (wBl w [] U (fun U_ L_ v=>v=.bool r/\L_=[])):=by
 unfold wEV at hm
 refine Gv.of Tryz.func122 Z Tryz.ntmps122 Tryz.results122 Z (sR gAs Z ?_)
 let B0:List Value:=[.slice ag p0.Starts.length am,.slice ah p0.Splits.length an,.slice ae p0.Clocks.length af,.slice aj p0.Readings.length ao]
 refine zu (cs:=B0) rfl rfl rfl rfl rfl rfl (by rfl) hS ?_
 intro W1 b2 aJ
 let B1:List Value:=[jV p1.Kind,jV p1.Skier,jV p1.Index,.bool p1.Up]
 refine zu (cs:=B1) rfl rfl rfl rfl rfl rfl (by rfl) aJ ?_
 intro W5 b6 ac
 refine oA Z Z (eN (sR (wLr (.fx 10 gAf .stop)) Z (oR Z (zM Z Z zi Z zC) (oL Z (ac.ldB (j:=0) Z Z Z zF (v:=jV p1.Skier) Z) (oR Z (yO Z Z Z) (oM Z Z ?_))))))
 by_cases O:p1.Skier=0
 have av:=hm;rw [if_pos O] at av;replace O:=zK O
 refine rU Z (wT Z O) (zM Z Z zi Z zC) (ZD Z Z Z (wT Z O) (ac.ldB (j:=0) Z Z Z zF (v:=jV p1.Index) Z) Z (rU Z (wT Z O) (zM Z Z zP Z yZ) (ZD Z Z Z (wT Z O) (ac.ldB (j:=1) Z Z Z yc (v:=.slice ae p0.Clocks.length af) Z) Z (rU Z (wT Z O) (zx Z Z Zo) (rU Z (wT Z O) (ZV Z Z Z) (bnK av fun aT aG aK=>zG 0 Z Z Z (wT Z O) (zH Z Z yL (zB Z (zB Z (zB Z zN))) Z) ac (fun hs=>wBg p1.Index 0 (w64 ((↑p0.Clocks.length:Int) - 1)) W5 U hs aG) (.inr Z) ?_))))))
 rintro au aL aS ay aR aH ⟨rfl,rfl⟩
 have aI:sW w U au [.blk b6 101 B1,.blk b2 45 B0] ay:=aH
 refine oR Z (zQ Z (Za O.out) Z) (oA Z Z (eN (zR ?_)))
 have hE:=hJ aK;first | subst r | cases hE
 exact ⟨rfl,_,(ZG rfl),au,_,(aI.pick [] _ (by decide) rfl),rfl,rfl⟩
 have ax:=hm;rw [if_neg O] at ax;replace O:=zK O
 refine oF Z O (oF Z O (oF Z O (oF Z O (oF Z O (oF Z O (zz Z Z Z (zS Z Z (ZA O.out) Z) (oR Z (zd Z (ZA O.out) Z) (oA Z Z (eN (zR ?_))))))))))
 have hE:=hJ ax;first | subst r | cases hE
 exact ⟨rfl,_,(ZG rfl),U,_,(ac.pick [] _ (by decide) rfl),rfl,rfl⟩
theorem wCf (p0:Int) (w:World) (U:PHeap) (hS:St0 w U [])  {r:wAI} (hm:wCe p0=some r):Gv Tryz.prog 73 [jV p0] w (wBl w [] U (fun U_ L_ v=>v=.agg #[jV r.skier,jV r.mat]/\L_=[])):=by
 unfold wCe at hm
 refine Gv.of Tryz.func73 Z Tryz.ntmps73 Tryz.results73 Z (sR (.fx 0 .nil .stop) Z (zX (cs:=[jV 0,jV 0]) Z Z Z Z Z zb Z hS ?_))
 intro W1 b2 af
 refine eN (sR (wDp (.fx 3 .nil .stop)) Z (oM Z Z (oR Z (zV Z Z Z) ?_)))
 let O:List Value:=[jV (-1),jV (w64 (1 + p0))]
 refine oR Z (zl (pv:=[(0,jV (-1)),(1,jV (w64 (1 + p0)))]) (z:=[jV 0,jV 0]) (cs:=O) Z (wAE Z (wAE Z wAL)) zb wBT Z Z) (za (j:=0) (vs:=O) Z Z Z Z af Z Z Z Z zE (zA Z) Z Z Z ?_)
 intro W5 ag
 have ab:sW w U U [.blk b2 115 O] W5:=ag
 refine eN (zR ?_)
 cases hm
 exact ⟨rfl,_,(wGq (v:=.agg O.toArray) ⟨⟨_,rfl,(wBC zh zE (ab.blkAt (k:=0) rfl) (vs:=O) rfl rfl)⟩,trivial⟩),U,_,(ab.pick [] _ (by decide) rfl),rfl,rfl⟩
theorem wHF (O:wAD) (au:Option Addr) (az:Nat) (av:Option Addr) (aE:Nat) (ax:Option Addr) (aF:Nat) (ay:Option Addr) (aG:Nat) (p1:wAH) (w:World) (U:PHeap) (hS:St0 w U []) (bh:Sl U 1 au az O.Starts.length (hH KL.encI O.Starts)) (bi:Sl U 2 av aE O.Splits.length (hH wAA O.Splits)) (bj:Sl U 3 ax aF O.Clocks.length (hH wAG O.Clocks)) (bk:Sl U 4 ay aG O.Readings.length (hH wAB O.Readings)) {r:wAI × wAI} (hm:wDd O p1=some r):Gv Tryz.prog 123 [.agg #[.slice au O.Starts.length az,.slice av O.Splits.length aE,.slice ax O.Clocks.length aF,.slice ay O.Readings.length aG],.agg #[jV p1.Kind,jV p1.Skier,jV p1.Index,.bool p1.Up]] w (wBl w [] U (fun U_ L_ v=>v=.tuple #[.agg #[jV r.1.skier,jV r.1.mat],.agg #[jV r.2.skier,jV r.2.mat]]/\L_=[])):=by
 unfold wDd at hm
 refine Gv.of Tryz.func123 Z Tryz.ntmps123 Tryz.results123 Z (sR gAz Z ?_)
 let B0:List Value:=[.slice au O.Starts.length az,.slice av O.Splits.length aE,.slice ax O.Clocks.length aF,.slice ay O.Readings.length aG]
 refine zu (cs:=B0) rfl rfl rfl rfl rfl rfl (by rfl) hS ?_
 intro W1 b2 aW
 let B1:List Value:=[jV p1.Kind,jV p1.Skier,jV p1.Index,.bool p1.Up]
 refine zu (cs:=B1) rfl rfl rfl rfl rfl rfl (by rfl) aW ?_
 intro W5 b6 a8
 let B2:List Value:=[jV 0,jV 0]
 refine zX (cs:=B2) Z Z Z Z Z zb Z a8 ?_
 intro W9 aj aS
 refine zX (cs:=B2) Z Z Z Z Z zb Z aS ?_
 intro aI am aT
 refine eN (zJ (ZB zw [2,3,1,2,0,0] (.fl 1 (.fl 2 (.fx 0 (.fx 3 gAk .stop) .stop))) (by kernel_rfl) ?_))
 have ap:=aT.drew
 generalize hw_W18:({ aI with drawn:=aI.drawn + 1 }:World)=aM at ap ⊢
 refine oR Z (zM Z Z zi Z zC) (oL Z (ap.ldB (j:=2) Z Z Z zF (v:=jV p1.Index) Z) (bnK hm fun aK aQ a9=>zG 0 Z Z Z Z (zH Z Z ya zN Z) ap (fun hs=>wBa aM U hs aQ) (.inr Z) ?_))
 rintro aH bb bo aJ bm aU ⟨rfl,rfl⟩
 have aV:sW w U aH [.blk am 115 B2,.blk aj 115 B2,.blk b6 101 B1,.blk b2 45 B0] aJ:=aU
 refine bnK a9 fun aL aR ba=>zG 0 Z Z Z Z (zH Z Z Tryz.call73 (zB Z zN) Z) aV (fun hs=>wCf p1.Index aJ aH hs aR) (.inr Z) ?_
 rintro ah bc bp aN bn aX ⟨rfl,rfl⟩
 have aY:sW w U ah [.blk am 115 B2,.blk aj 115 B2,.blk b6 101 B1,.blk b2 45 B0] aN:=aX
 let B3:List Value:=[jV aK.skier,jV aK.mat]
 refine za (j:=1) (vs:=B3) Z Z Z Z aY Z Z Z Z zE (zA Z) Z Z Z ?_
 intro aO aZ
 have a6:sW w U ah [.blk am 115 B2,.blk aj 115 B3,.blk b6 101 B1,.blk b2 45 B0] aO:=aZ
 let B4:List Value:=[jV aL.skier,jV aL.mat]
 refine za (j:=0) (vs:=B4) Z Z Z Z a6 Z Z Z Z zE (zA Z) Z Z Z ?_
 intro aP a7
 have aq:sW w U ah [.blk am 115 B4,.blk aj 115 B3,.blk b6 101 B1,.blk b2 45 B0] aP:=a7
 refine eN (zR ?_)
 cases ba
 exact ⟨rfl,_,(wEG (rs:=[.cell 4 115,.cell 5 115]) (vs:=[.agg B3.toArray,.agg B4.toArray]) ⟨⟨_,rfl,(wBC zh zE (aq.blkAt (k:=1) rfl) (vs:=B3) rfl rfl)⟩,⟨⟨_,rfl,(wBC zh zE (aq.blkAt (k:=0) rfl) (vs:=B4) rfl rfl)⟩,trivial⟩⟩ rfl),ah,_,(aq.pick [] _ (by decide) rfl),rfl,rfl⟩
theorem wHG (O:wAD) (ag:Option Addr) (am:Nat) (ah:Option Addr) (an:Nat) (ae:Option Addr) (af:Nat) (aj:Option Addr) (ao:Nat) (p1:wAH) (w:World) (U:PHeap) (hS:St0 w U []) (aN:Sl U 1 ag am O.Starts.length (hH KL.encI O.Starts)) (aO:Sl U 2 ah an O.Splits.length (hH wAA O.Splits)) (aq:Sl U 3 ae af O.Clocks.length (hH wAG O.Clocks)) (aP:Sl U 4 aj ao O.Readings.length (hH wAB O.Readings)) {r:Int × Int} (hm:wDe O p1=some r):Gv Tryz.prog 124 [.agg #[.slice ag O.Starts.length am,.slice ah O.Splits.length an,.slice ae O.Clocks.length af,.slice aj O.Readings.length ao],.agg #[jV p1.Kind,jV p1.Skier,jV p1.Index,.bool p1.Up]] w (wBl w [] U (fun U_ L_ v=>v=.tuple #[jV r.1,jV r.2]/\L_=[])):=by
 unfold wDe at hm
 refine Gv.of Tryz.func124 rfl Tryz.ntmps124 Tryz.results124 rfl (sR gAy rfl (zu (cs:=[.slice ag O.Starts.length am,.slice ah O.Splits.length an,.slice ae O.Clocks.length af,.slice aj O.Readings.length ao]) rfl rfl rfl rfl rfl rfl (by rfl) hS ?_))
 intro W1 b2 aE
 refine zu (cs:=[jV p1.Kind,jV p1.Skier,jV p1.Index,.bool p1.Up]) rfl rfl rfl rfl rfl rfl (by rfl) aE ?_
 intro W5 b6 aF
 refine Zy rfl rfl rfl rfl rfl rfl (Zy rfl rfl rfl rfl rfl rfl (eN (zJ (ZB zw [3,1,3,1,3,3,3,1,3,3,1,3,1,3,3,3,1,3,3] fL19 (by kernel_rfl) ?_))))
 have ab:=aF.drew
 generalize hw_W10:({ W5 with drawn:=W5.drawn + 1 }:World)=aI at ab ⊢
 refine oR Z (zM Z Z zP Z yZ) (oL Z (ab.ldB (j:=1) Z Z Z yc (v:=.slice ae O.Clocks.length af) Z) (oR Z (zM Z Z zi Z zC) (oL Z (ab.ldB (j:=0) Z Z Z zF (v:=jV p1.Index) Z) (bnK hm fun au ac aG=>?_))))
 have q:=aq.el (fun _=>rfl) (wAc ac)
 obtain ⟨aJ,aQ,av,ay⟩:=q
 refine oR Z (ZM Z Z av Z Zo yd (wCt ac) (wCz ac)) (oR Z (zM Z Z yh Z zo) (oR Z (zM Z Z ZU Z zC) (oL Z (ab.ldC (f:=0) ay (v:=jV au.Offset.Lo) Z Z zF Z) (oR Z (Runs.negw Z Z) (oR Z (zM Z Z zP Z yZ) (oL Z (ab.ldB (j:=1) Z Z Z yc (v:=.slice ae O.Clocks.length af) Z) (oR Z (zM Z Z zi Z zC) (oL Z (ab.ldB (j:=0) Z Z Z zF (v:=jV p1.Index) Z) ?_))))))))
 have q:=aq.el (fun _=>rfl) (wAc ac)
 obtain ⟨aK,aR,ax,az⟩:=q
 refine oR Z (ZM Z Z ax Z Zo yd (wCt ac) (wCz ac)) (oR Z (zM Z Z yh Z zo) (oR Z (zM Z Z ZU Z zC) (oL Z (ab.ldC (f:=1) az (v:=jV au.Offset.Hi) Z Z zF Z) (oA Z Z (oA Z Z (eN (zR ?_)))))))
 cases aG
 exact ⟨rfl,_,(wDw rfl rfl),U,_,(ab.pick [] _ (by decide) rfl),rfl,rfl⟩
end Go.Proofs.YtkghaiefcjgfkaaGreat
