import Derived.Test.YtkeeechdijfkhaaGreatY6
set_option linter.all false
open List renaming flatMap->nA
open Option.some renaming inj->nB
open Go.Value renaming bool->nD
open Bool renaming eq_false_iff->nE
open Prod.mk renaming injEq->nG
open Nat renaming blt->nH,le_of_ble_eq_true->nI
namespace Go.Proofs.YtkeeechdijfkhaaGreat
open Go.KL
def gAa:Sch:=.fl 1 (.fl 2 .nil)
def gAb:Sch:=.fl 2 (.fl 3 .nil)
def gAc:Sch:=.fl 3 (.fl 4 .nil)
def gAd:Sch:=.fl 4 (.fl 5 .nil)
def gAe:Sch:=.fl 7 (.fl 8 .nil)
def gAf:Sch:=.fl 15 (.fl 16 .nil)
def gAg:Sch:=.fx 1 (.fl 2 .nil) .stop
def gAh:Sch:=.fx 2 (.fx 3 .nil .stop) .stop
def gAi:Sch:=.fx 3 (.fl 4 .nil) .stop
def gAj:Sch:=.fx 17 (.fl 18 .nil) .stop
def gAk:Sch:=.fx 0 (.fl 1 .nil) .stop
def gAl:Sch:=.fx 4 (.fx 5 .nil .stop) .stop
def gAm:Sch:=.fl 10 (.fx 12 .nil .stop)
def gAn:Sch:=.fx 6 gAe .stop
def gAo:Sch:=.fx 1 gAb .stop
def gAp:Sch:=.fl 0 gAg
def gAq:Sch:=.fx 15 gAj .stop
def gAr:Sch:=.fx 15 (.fl 16 (.fx 18 .nil .stop)) .stop
def gAs:Sch:=.fx 3 gAd .stop
def gAt:Sch:=.fx 13 (.fl 14 (.fl 15 .nil)) .stop
def gAu:Sch:=.fl 10 (.fx 11 (.fx 12 .nil .stop) .stop)
def gAv:Sch:=.fx 6 gAm .stop
def gAw:Sch:=.fl 0 (.fl 1 (.fx 2 (.fl 3 .nil) .stop))
def gAx:Sch:=.fl 0 (.fl 1 gAh)
def gAy:Sch:=.fx 14 gAq .stop
def gAz:Sch:=.fx 10 gAr .stop
def gBa:Sch:=.fx 0 (.fx 1 gAh .stop) .stop
def gBb:Sch:=.fx 0 gAo .stop
def gBc:Sch:=.fx 8 (.fl 9 gAm) .stop
def gBd:Sch:=.fl 0 (.fl 1 (.fx 2 gAi .stop))
def gBe:Sch:=.fx 13 gAy .stop
def gBf:Sch:=.fl 0 (.fl 1 (.fx 2 gAc .stop))
def gBg:Sch:=.fx 12 gBe .stop
def gBh:Sch:=.fx 9 gBe .stop
def gBi:Sch:=.fx 4 (.fl 16 gBe) .stop
def gBj:Sch:=.fx 3 gBi .stop
def gBk:Sch:=.fx 4 (.fl 16 gBg) (.fx 12 gBi .stop)
def gBl:Sch:=.fx 4 (.fl 16 gBh) (.fx 9 gBi .stop)
set_option maxHeartbeats 4000000
theorem Z {α:Type} {a:α}:a=a:=rfl
section
variable {r:Option Nat} {N:Nat} {P:Program} {l:List Oper} {Q:wDg} {D:List Deferred} {ks:List Nat} {σ:Env} {w:World} {i d j e:Nat} {s:Sch} {o:Oper} {b:Bool} {x:Operand} {v:Value} {p:Prop} {inst:Decidable p} {K:List Deferred->Env->World->Prop} {c1 c2:Code}
abbrev jV (n:Int):Value:=.int .i64 n
abbrev SW (w:World) (X:List Res) (U U':PHeap) (L:List Res) (w':World):Prop:=St ⟨w,X,U⟩ U' L w'
abbrev sW (w:World) (U U':PHeap) (L:List Res) (w':World):Prop:=St ⟨w,[],U⟩ U' L w'
abbrev St0 (w:World) (U:PHeap) (L:List Res):Prop:=St ⟨w,L,U⟩ U L w
theorem ifc {α:Type} {G p:Prop} {inst:Decidable p} {a b r:α} (h:@ite α p inst a b=r) (h1:Hid p->a=r->G) (h2:Hid (¬ p)->b=r->G):G:=by
 by_cases c:p
 rw [if_pos c] at h;exact h1 ⟨c⟩ h
 rw [if_neg c] at h;exact h2 ⟨c⟩ h
theorem bnK {α β:Type} {G:Prop} {o:Option α} {f:α->Option β} {r:β} (h:o.bind f=some r) (k:∀ x,o=some x->f x=some r->G):G:=by
 obtain ⟨x,h1,h2⟩:=bnd h
 exact k x h1 h2
theorem oR (h:(l[i]?,o.dst,nH d N,wanted l σ o)=(some o,some d,true,true)) (hr:∀ {w'},Runs P σ w' o v w') (k:OKS N P l Q D ks s (upd σ d v) w):OKS N P l Q D ks (.fl i s) σ w:=by
 simp only [nG] at h;exact OKS.r h.1 h.2.1 h.2.2.1 h.2.2.2 (fun _=>hr) k
theorem oL (h:(l[i]?,o.dst,nH d N,wanted l σ o,wSJ (kOf ks i))=(some o,some d,true,true,false)) (hr:wFC P σ w o v) (k:OKS N P l Q D ks s (upd σ d v) w):OKS N P l Q D ks (.fl i s) σ w:=by
 simp only [nG] at h;exact OKS.m h.1 h.2.1 h.2.2.1 h.2.2.2.1 hr h.2.2.2.2 k
theorem oM (h:(l[i]?,o.dst,nH d N,wanted l σ o,o.op)=(some o,some d,true,true,.move x)) (hx:ev σ x=v) (k:OKS N P l Q D ks s (upd σ d v) w):OKS N P l Q D ks (.fl i s) σ w:=by
 simp only [nG] at h;exact OKS.rm h.1 h.2.1 h.2.2.1 h.2.2.2.1 h.2.2.2.2 hx k
theorem oA (h:(l[i]?,o.dst,nH d N,wanted l σ o,o.op)=(some o,some d,true,true,.assign x)) (hx:ev σ x=v) (k:OKS N P l Q D ks s (upd σ d v) w):OKS N P l Q D ks (.fl i s) σ w:=by
 simp only [nG] at h;exact OKS.ra h.1 h.2.1 h.2.2.1 h.2.2.2.1 h.2.2.2.2 hx k
theorem oF (h:(l[i]?,o.dst,nH d N,o.guard,(l[j]?).bind (·.dst),σ e,false == b)=(some o,some d,true,some (j,b),some e,.bool (decide p),false)) (c:Hid (¬ p)) (k:OKS N P l Q D ks s (upd σ d undef) w):OKS N P l Q D ks (.fl i s) σ w:=by
 simp only [nG] at h;exact OKS.p h.1 h.2.1 h.2.2.1 (wGo h.2.2.2.1 h.2.2.2.2.1 (h.2.2.2.2.2.1.trans (wSI c.out)) h.2.2.2.2.2.2) k
theorem oT (h:(l[i]?,o.dst,nH d N,o.guard,(l[j]?).bind (·.dst),σ e,true == b)=(some o,some d,true,some (j,b),some e,.bool (decide p),false)) (c:Hid p) (k:OKS N P l Q D ks s (upd σ d undef) w):OKS N P l Q D ks (.fl i s) σ w:=by
 simp only [nG] at h;exact OKS.p h.1 h.2.1 h.2.2.1 (wGo h.2.2.2.1 h.2.2.2.2.1 (h.2.2.2.2.2.1.trans (wSH c.out)) h.2.2.2.2.2.2) k
theorem oN {b2:Bool} (h:(l[i]?,o.dst,nH d N,o.guard,(l[j]?).bind (·.dst),σ e,b2 == b)=(some o,some d,true,some (j,b),some e,.bool b2,false)) (k:OKS N P l Q D ks s (upd σ d undef) w):OKS N P l Q D ks (.fl i s) σ w:=by
 simp only [nG] at h;exact OKS.p h.1 h.2.1 h.2.2.1 (wGo h.2.2.2.1 h.2.2.2.2.1 h.2.2.2.2.2.1 h.2.2.2.2.2.2) k
theorem nC {a b:Bool} (h:a=b):nD (!a)=nD (!b):=h ▸ rfl
theorem nF {a:Bool} (h:¬ a=true):nD (!a)=nD (!false):=nC (nE.2 h)
theorem wT (h:(o.guard,(l[j]?).bind (·.dst),σ e)=(some (j,true),some e,.bool (decide p))) (c:Hid p):wanted l σ o=true:=by
 simp only [nG] at h;exact wIT h.1 h.2.1 (h.2.2.trans (wSH c.out))
theorem wF (h:(o.guard,(l[j]?).bind (·.dst),σ e)=(some (j,false),some e,.bool (decide p))) (c:Hid (¬ p)):wanted l σ o=true:=by
 simp only [nG] at h;exact wIT h.1 h.2.1 (h.2.2.trans (wSI c.out))
theorem rU (h:(l[i]?,o.dst,nH d N)=(some o,some d,true)) (hw:wanted l σ o=true) (hr:∀ {w'},Runs P σ w' o v w') (k:OKS N P l Q D ks s (upd σ d v) w):OKS N P l Q D ks (.fl i s) σ w:=by
 simp only [nG] at h;exact OKS.r h.1 h.2.1 h.2.2 hw (fun _=>hr) k
theorem sR {id:Nat} (s:Sch) (hs:inOrder 0 s l.length=true) (h:OKS N P l (wFd (fun D σ w=>CK r N P c2 Q D σ w) Q) D [] s σ w):CK r N P (.seq (.region id l.toArray false) c2) Q D σ w:=CK.seq (CK.reg s hs h)
theorem rR {id:Nat} (s:Sch) (hs:inOrder 0 s l.length=true) (h:OKS N P l Q D [] s σ w):CK r N P (.region id l.toArray false) Q D σ w:=CK.reg s hs h
theorem eN (h:K D σ w):OKS N P l (wFd K Q) D ks .nil σ w:=OKS.e (wIP h)
theorem cT (hz:ev σ x=.bool (decide p)) (c:Hid p) (h:CK r N P c1 Q D σ w):CK r N P (.cond x c1 c2) Q D σ w:=CK.condT (hz.trans (wSH c.out)) h
theorem cF (hz:ev σ x=.bool (decide p)) (c:Hid (¬ p)) (h:CK r N P c2 Q D σ w):CK r N P (.cond x c1 c2) Q D σ w:=CK.condF (hz.trans (wSI c.out)) h
theorem kN (h:K D σ w):CK r N P .skip (wFd K Q) D σ w:=CK.skip (wIP h)
end
def fL1:Sch:=.fl 0 .nil
def fL2:Sch:=.fl 0 (.fl 1 .nil)
def fL3:Sch:=.fl 0 gAa
def fL4:Sch:=.fl 0 (.fl 1 gAb)
def fL5:Sch:=.fl 0 (.fl 1 (.fl 2 gAc))
def fL6:Sch:=.fl 0 (.fl 1 (.fl 2 (.fl 3 gAd)))
def fL7:Sch:=.fl 0 (.fl 1 (.fl 2 (.fl 3 (.fl 4 (.fl 5 (.fl 6 .nil))))))
def fL8:Sch:=.fl 0 (.fl 1 (.fl 2 (.fl 3 (.fl 4 (.fl 5 (.fl 6 (.fl 7 .nil)))))))
def fL9:Sch:=.fl 0 (.fl 1 (.fl 2 (.fl 3 (.fl 4 (.fl 5 (.fl 6 gAe))))))
def fL10:Sch:=.fl 0 (.fl 1 (.fl 2 (.fl 3 (.fl 4 (.fl 5 (.fl 6 (.fl 7 (.fl 8 (.fl 9 .nil)))))))))
def wTW:Sch:=.fl 0 (.fl 1 (.fl 2 (.fl 3 (.fl 4 (.fl 5 (.fl 6 (.fl 7 (.fl 8 (.fl 9 (.fl 10 .nil))))))))))
def fL12:Sch:=.fl 0 (.fl 1 (.fl 2 (.fl 3 (.fl 4 (.fl 5 (.fl 6 (.fl 7 (.fl 8 (.fl 9 (.fl 10 (.fl 11 .nil)))))))))))
def fL15:Sch:=.fl 0 (.fl 1 (.fl 2 (.fl 3 (.fl 4 (.fl 5 (.fl 6 (.fl 7 (.fl 8 (.fl 9 (.fl 10 (.fl 11 (.fl 12 (.fl 13 (.fl 14 .nil))))))))))))))
def fL17:Sch:=.fl 0 (.fl 1 (.fl 2 (.fl 3 (.fl 4 (.fl 5 (.fl 6 (.fl 7 (.fl 8 (.fl 9 (.fl 10 (.fl 11 (.fl 12 (.fl 13 (.fl 14 gAf))))))))))))))
def fL18:Sch:=.fl 0 (.fl 1 (.fl 2 (.fl 3 (.fl 4 (.fl 5 (.fl 6 (.fl 7 (.fl 8 (.fl 9 (.fl 10 (.fl 11 (.fl 12 (.fl 13 (.fl 14 (.fl 15 (.fl 16 (.fl 17 .nil)))))))))))))))))
def fL19:Sch:=.fl 0 (.fl 1 (.fl 2 (.fl 3 (.fl 4 (.fl 5 (.fl 6 (.fl 7 (.fl 8 (.fl 9 (.fl 10 (.fl 11 (.fl 12 (.fl 13 (.fl 14 (.fl 15 (.fl 16 (.fl 17 (.fl 18 .nil))))))))))))))))))
def fL22:Sch:=.fl 0 (.fl 1 (.fl 2 (.fl 3 (.fl 4 (.fl 5 (.fl 6 (.fl 7 (.fl 8 (.fl 9 (.fl 10 (.fl 11 (.fl 12 (.fl 13 (.fl 14 (.fl 15 (.fl 16 (.fl 17 (.fl 18 (.fl 19 (.fl 20 (.fl 21 .nil)))))))))))))))))))))
def fL24:Sch:=.fl 0 (.fl 1 (.fl 2 (.fl 3 (.fl 4 (.fl 5 (.fl 6 (.fl 7 (.fl 8 (.fl 9 (.fl 10 (.fl 11 (.fl 12 (.fl 13 (.fl 14 (.fl 15 (.fl 16 (.fl 17 (.fl 18 (.fl 19 (.fl 20 (.fl 21 (.fl 22 (.fl 23 .nil)))))))))))))))))))))))
def fL30:Sch:=.fl 0 (.fl 1 (.fl 2 (.fl 3 (.fl 4 (.fl 5 (.fl 6 (.fl 7 (.fl 8 (.fl 9 (.fl 10 (.fl 11 (.fl 12 (.fl 13 (.fl 14 (.fl 15 (.fl 16 (.fl 17 (.fl 18 (.fl 19 (.fl 20 (.fl 21 (.fl 22 (.fl 23 (.fl 24 (.fl 25 (.fl 26 (.fl 27 (.fl 28 (.fl 29 .nil)))))))))))))))))))))))))))))
def wDj (s:Sch):Sch:=.fl 0 (.fl 1 (.fl 2 (s)))
def wEU (s:Sch):Sch:=.fl 0 (.fl 1 (.fl 2 (.fl 3 (s))))
def wDC (s:Sch):Sch:=.fl 0 (.fl 1 (.fl 2 (.fl 3 (.fl 4 (s)))))
def wIu (s:Sch):Sch:=.fl 0 (.fl 1 (.fl 2 (.fl 3 (.fl 4 (.fl 5 (s))))))
def wJv (s:Sch):Sch:=.fl 0 (.fl 1 (.fl 2 (.fl 3 (.fl 4 (.fl 5 (.fl 6 (s)))))))
def wTX (s:Sch):Sch:=.fl 0 (.fl 1 (.fl 2 (.fl 3 (.fl 4 (.fl 5 (.fl 6 (.fl 7 (.fl 8 (s)))))))))
def fC0_9 (s:Sch):Sch:=.fl 0 (.fl 1 (.fl 2 (.fl 3 (.fl 4 (.fl 5 (.fl 6 (.fl 7 (.fl 8 (.fl 9 (s))))))))))
def wOu (s:Sch):Sch:=.fl 0 (.fl 1 (.fl 2 (.fl 3 (.fl 4 (.fl 5 (.fl 6 (.fl 7 (.fl 8 (.fl 9 (.fl 10 (s)))))))))))
def wTY (s:Sch):Sch:=.fl 0 (.fl 1 (.fl 2 (.fl 3 (.fl 4 (.fl 5 (.fl 6 (.fl 7 (.fl 8 (.fl 9 (.fl 10 (.fl 11 (.fl 12 (.fl 13 (s))))))))))))))
def wJw (s:Sch):Sch:=.fl 0 (.fl 1 (.fl 2 (.fl 3 (.fl 4 (.fl 5 (.fl 6 (.fl 7 (.fl 8 (.fl 9 (.fl 10 (.fl 11 (.fl 12 (.fl 13 (.fl 14 (s)))))))))))))))
def wTZ (s:Sch):Sch:=.fl 0 (.fl 1 (.fl 2 (.fl 3 (.fl 4 (.fl 5 (.fl 6 (.fl 7 (.fl 8 (.fl 9 (.fl 10 (.fl 11 (.fl 12 (.fl 13 (.fl 14 (.fl 15 (.fl 16 (s)))))))))))))))))
def wTa (s:Sch):Sch:=.fl 0 (.fl 1 (.fl 2 (.fl 3 (.fl 4 (.fl 5 (.fl 6 (.fl 7 (.fl 8 (.fl 9 (.fl 10 (.fl 11 (.fl 12 (.fl 13 (.fl 14 (.fl 15 (.fl 16 (.fl 17 (.fl 18 (s)))))))))))))))))))
def wTb (s:Sch):Sch:=.fl 0 (.fl 1 (.fl 2 (.fl 3 (.fl 4 (.fl 5 (.fl 6 (.fl 7 (.fl 8 (.fl 9 (.fl 10 (.fl 11 (.fl 12 (.fl 13 (.fl 14 (.fl 15 (.fl 16 (.fl 17 (.fl 18 (.fl 19 (.fl 20 (s)))))))))))))))))))))
def wTc (s:Sch):Sch:=.fl 0 (.fl 1 (.fl 2 (.fl 3 (.fl 4 (.fl 5 (.fl 6 (.fl 7 (.fl 8 (.fl 9 (.fl 10 (.fl 11 (.fl 12 (.fl 13 (.fl 14 (.fl 15 (.fl 16 (.fl 17 (.fl 18 (.fl 19 (.fl 20 (.fl 21 (s))))))))))))))))))))))
def fC1_3 (s:Sch):Sch:=.fl 1 (.fl 2 (.fl 3 (s)))
def fC1_5 (s:Sch):Sch:=.fl 1 (.fl 2 (.fl 3 (.fl 4 (.fl 5 (s)))))
def wTd (s:Sch):Sch:=.fl 1 (.fl 2 (.fl 3 (.fl 4 (.fl 5 (.fl 6 (.fl 7 (.fl 8 (.fl 9 (.fl 10 (.fl 11 (.fl 12 (.fl 13 (.fl 14 (.fl 15 (.fl 16 (.fl 17 (.fl 18 (.fl 19 (s)))))))))))))))))))
def fC2_5 (s:Sch):Sch:=.fl 2 (.fl 3 (.fl 4 (.fl 5 (s))))
def fC2_6 (s:Sch):Sch:=.fl 2 (.fl 3 (.fl 4 (.fl 5 (.fl 6 (s)))))
def wTe (s:Sch):Sch:=.fl 2 (.fl 3 (.fl 4 (.fl 5 (.fl 6 (.fl 7 (.fl 8 (.fl 9 (.fl 10 (.fl 11 (s))))))))))
def wOv (s:Sch):Sch:=.fl 3 (.fl 4 (.fl 5 (s)))
def wRu (s:Sch):Sch:=.fl 3 (.fl 4 (.fl 5 (.fl 6 (s))))
def wRv (s:Sch):Sch:=.fl 3 (.fl 4 (.fl 5 (.fl 6 (.fl 7 (s)))))
def fC4_6 (s:Sch):Sch:=.fl 4 (.fl 5 (.fl 6 (s)))
def fC4_8 (s:Sch):Sch:=.fl 4 (.fl 5 (.fl 6 (.fl 7 (.fl 8 (s)))))
def wMC (s:Sch):Sch:=.fl 4 (.fl 5 (.fl 6 (.fl 7 (.fl 8 (.fl 9 (.fl 10 (s)))))))
def wTf (s:Sch):Sch:=.fl 4 (.fl 5 (.fl 6 (.fl 7 (.fl 8 (.fl 9 (.fl 10 (.fl 11 (.fl 12 (.fl 13 (.fl 14 (.fl 15 (.fl 16 (.fl 17 (.fl 18 (.fl 19 (.fl 20 (.fl 21 (.fl 22 (.fl 23 (s))))))))))))))))))))
def wPv (s:Sch):Sch:=.fl 5 (.fl 6 (.fl 7 (s)))
def fC5_8 (s:Sch):Sch:=.fl 5 (.fl 6 (.fl 7 (.fl 8 (s))))
def wOw (s:Sch):Sch:=.fl 5 (.fl 6 (.fl 7 (.fl 8 (.fl 9 (s)))))
def wQW (s:Sch):Sch:=.fl 5 (.fl 6 (.fl 7 (.fl 8 (.fl 9 (.fl 10 (.fl 11 (.fl 12 (.fl 13 (.fl 14 (.fl 15 (s)))))))))))
def fC6_8 (s:Sch):Sch:=.fl 6 (.fl 7 (.fl 8 (s)))
def wTg (s:Sch):Sch:=.fl 6 (.fl 7 (.fl 8 (.fl 9 (.fl 10 (s)))))
def wQX (s:Sch):Sch:=.fl 6 (.fl 7 (.fl 8 (.fl 9 (.fl 10 (.fl 11 (.fl 12 (s)))))))
def wTh (s:Sch):Sch:=.fl 7 (.fl 8 (.fl 9 (.fl 10 (.fl 11 (s)))))
def wTi (s:Sch):Sch:=.fl 7 (.fl 8 (.fl 9 (.fl 10 (.fl 11 (.fl 12 (s))))))
def wTj (s:Sch):Sch:=.fl 7 (.fl 8 (.fl 9 (.fl 10 (.fl 11 (.fl 12 (.fl 13 (s)))))))
def wTk (s:Sch):Sch:=.fl 8 (.fl 9 (.fl 10 (s)))
def wJx (s:Sch):Sch:=.fl 8 (.fl 9 (.fl 10 (.fl 11 (s))))
def wTl (s:Sch):Sch:=.fl 8 (.fl 9 (.fl 10 (.fl 11 (.fl 12 (s)))))
def wTm (s:Sch):Sch:=.fl 9 (.fl 10 (.fl 11 (.fl 12 (.fl 13 (.fl 14 (.fl 15 (s)))))))
def wRw (s:Sch):Sch:=.fl 11 (.fl 12 (.fl 13 (.fl 14 (s))))
def wRx (s:Sch):Sch:=.fl 20 (.fl 21 (.fl 22 (s)))
theorem zA:type_of% @nI:=@nI
theorem zB:type_of% @wMp:=@wMp
theorem zC:type_of% @Tryz.sizeOf3:=@Tryz.sizeOf3
theorem zD:type_of% @Tryz.runUnderlying23:=@Tryz.runUnderlying23
theorem zE:type_of% @Tryz.isAgg3:=@Tryz.isAgg3
theorem zF:type_of% @Tryz.sizeOf68:=@Tryz.sizeOf68
theorem zG:type_of% @Enters.mk:=@Enters.mk
theorem zH:type_of% @OKS.callH:=@OKS.callH
theorem zI:type_of% @wIP:=@wIP
theorem zJ:type_of% @Runs.fa:=@Runs.fa
theorem zK:type_of% @PHeap.Le.refl:=@PHeap.Le.refl
theorem zL:type_of% @OKS.rm:=@OKS.rm
theorem zM:type_of% @wPw:=@wPw
theorem zN:type_of% @CK.seq:=@CK.seq
theorem zO:type_of% @Hid.mk:=@Hid.mk
theorem zP:type_of% @Runs.lss:=@Runs.lss
theorem zQ:type_of% @Tryz.runUnderlying28:=@Tryz.runUnderlying28
theorem zR:type_of% @wIT:=@wIT
theorem zS:type_of% @CK.ret:=@CK.ret
theorem zU:type_of% @Runs.addw:=@Runs.addw
theorem zV:type_of% @OKS.r:=@OKS.r
theorem zW:type_of% @wMo:=@wMo
theorem zX:type_of% @OKS.alloc:=@OKS.alloc
theorem zY:type_of% @Runs.pickT:=@Runs.pickT
theorem zZ:type_of% @Runs.pickF:=@Runs.pickF
theorem zd:type_of% @OKS.e:=@OKS.e
theorem ze:type_of% @OKS.st:=@OKS.st
theorem zf:type_of% @CK.block:=@CK.block
theorem zg:type_of% @Tryz.isAgg68:=@Tryz.isAgg68
theorem zh:type_of% @Tryz.zeroValue68:=@Tryz.zeroValue68
theorem zi:type_of% @OKS.both:=@OKS.both
theorem zj:type_of% @wMn:=@wMn
theorem zk:type_of% @Runs.ext:=@Runs.ext
theorem zl:type_of% @Runs.iaI:=@Runs.iaI
theorem zm:type_of% @wLI:=@wLI
theorem zn:type_of% @CK.condF:=@CK.condF
theorem zo:type_of% @wLK:=@wLK
theorem zq:type_of% @Tryz.mixed:=@Tryz.mixed
theorem zr:type_of% @Tryz.runUnderlying118:=@Tryz.runUnderlying118
theorem zt:type_of% @CK.anyOrd:=@CK.anyOrd
theorem zu:type_of% @OKS.mx2:=@OKS.mx2
theorem zw:type_of% @Runs.build:=@Runs.build
theorem zx:type_of% @OKS.cutD:=@OKS.cutD
theorem zy:type_of% @Tryz.sizeOf23:=@Tryz.sizeOf23
theorem zz:type_of% @Tryz.sizeOf28:=@Tryz.sizeOf28
theorem ZA:type_of% @wGo:=@wGo
theorem ZB:type_of% @OKS.buildSlice:=@OKS.buildSlice
theorem ZC:type_of% @Tryz.zeroValue3:=@Tryz.zeroValue3
theorem ZD:type_of% @OKS.m:=@OKS.m
theorem ZE:type_of% @Tryz.runUnderlying39:=@Tryz.runUnderlying39
theorem ZF:type_of% @Tryz.runUnderlying57:=@Tryz.runUnderlying57
theorem ZG:type_of% @OKS.box:=@OKS.box
theorem ZH:type_of% @CK.condT:=@CK.condT
theorem ZI:type_of% @Tryz.isAgg23:=@Tryz.isAgg23
theorem ZJ:type_of% @Tryz.runUnderlying94:=@Tryz.runUnderlying94
theorem ZK:type_of% @Tryz.isAgg28:=@Tryz.isAgg28
theorem ZL:type_of% @wSI:=@wSI
theorem ZM:type_of% @Tryz.runUnderlying3:=@Tryz.runUnderlying3
theorem ZN:type_of% @wIQ:=@wIQ
theorem ZO:type_of% @Tryz.sizeOf179:=@Tryz.sizeOf179
theorem ZP:type_of% @Tryz.runUnderlying97:=@Tryz.runUnderlying97
theorem ZQ:type_of% @Tryz.runUnderlying91:=@Tryz.runUnderlying91
theorem ZR:type_of% @Tryz.sizeOf39:=@Tryz.sizeOf39
theorem ZS:type_of% @CK.skip:=@CK.skip
theorem ZT:type_of% @res1:=@res1
theorem ZU:type_of% @Runs.len:=@Runs.len
theorem ZV:type_of% @Runs.subw:=@Runs.subw
theorem ZW:type_of% @OKS.p:=@OKS.p
theorem ZX:type_of% @CK.exit:=@CK.exit
theorem ZY:type_of% @wSH:=@wSH
theorem Za:type_of% @Tryz.runUnderlying25:=@Tryz.runUnderlying25
theorem Zb:type_of% @Runs.notT:=@Runs.notT
theorem Zc:type_of% @Runs.to:=@Runs.to
theorem Zd:type_of% @Tryz.runUnderlying100:=@Tryz.runUnderlying100
theorem Ze:type_of% @Runs.nilp:=@Runs.nilp
theorem Zf:type_of% @Tryz.zeroValue91:=@Tryz.zeroValue91
theorem Zg:type_of% @Tryz.runUnderlying60:=@Tryz.runUnderlying60
theorem Zh:type_of% @Tryz.runUnderlying24:=@Tryz.runUnderlying24
theorem Zi:type_of% @Tryz.zeroValue179:=@Tryz.zeroValue179
theorem Zj:type_of% @Tryz.call14:=@Tryz.call14
theorem Zk:type_of% @Tryz.runUnderlying34:=@Tryz.runUnderlying34
theorem Zl:type_of% @Tryz.sizeOf25:=@Tryz.sizeOf25
theorem Zm:type_of% @Tryz.sizeOf57:=@Tryz.sizeOf57
theorem Zn:type_of% @Tryz.call84:=@Tryz.call84
theorem Zo:type_of% @Tryz.sizeOf55:=@Tryz.sizeOf55
theorem Zp:type_of% @CK.cut:=@CK.cut
theorem Zq:type_of% @Tryz.zeroValue57:=@Tryz.zeroValue57
theorem Zr:type_of% @Tryz.zeroValue63:=@Tryz.zeroValue63
theorem Zs:type_of% @Tryz.runUnderlying180:=@Tryz.runUnderlying180
theorem Zt:type_of% @Tryz.runUnderlying55:=@Tryz.runUnderlying55
theorem Zu:type_of% @Tryz.runUnderlying62:=@Tryz.runUnderlying62
theorem Zv:type_of% @Tryz.zeroValue39:=@Tryz.zeroValue39
theorem Zw:type_of% @Tryz.sizeOf91:=@Tryz.sizeOf91
theorem Zx:type_of% @OKS.ra:=@OKS.ra
theorem Zy:type_of% @Tryz.runUnderlying179:=@Tryz.runUnderlying179
theorem Zz:type_of% @Tryz.sizeOf24:=@Tryz.sizeOf24
theorem yA:type_of% @Tryz.sizeOf94:=@Tryz.sizeOf94
theorem yB:type_of% @Tryz.sizeOf118:=@Tryz.sizeOf118
theorem yC:type_of% @Runs.eql:=@Runs.eql
theorem yD:type_of% @OKS.append:=@OKS.append
theorem yE:type_of% @Tryz.isAgg94:=@Tryz.isAgg94
theorem yF:type_of% @Tryz.sizeOf62:=@Tryz.sizeOf62
theorem yG:type_of% @Tryz.call17:=@Tryz.call17
theorem yH:type_of% @Tryz.runUnderlying26:=@Tryz.runUnderlying26
theorem yI:type_of% @Tryz.runUnderlying43:=@Tryz.runUnderlying43
theorem yJ:type_of% @OKS.stR:=@OKS.stR
theorem yK:type_of% @Tryz.isAgg25:=@Tryz.isAgg25
theorem yL:type_of% @Tryz.isAgg118:=@Tryz.isAgg118
theorem yM:type_of% @Tryz.sizeOf37:=@Tryz.sizeOf37
theorem yN:type_of% @Runs.gtr:=@Runs.gtr
theorem yO:type_of% @Tryz.runUnderlying120:=@Tryz.runUnderlying120
theorem yP:type_of% @Tryz.isAgg24:=@Tryz.isAgg24
theorem yQ:type_of% @Runs.iaN:=@Runs.iaN
theorem yR:type_of% @Tryz.runUnderlying37:=@Tryz.runUnderlying37
theorem yS:type_of% @Tryz.isAgg63:=@Tryz.isAgg63
theorem yU:type_of% @Runs.neq:=@Runs.neq
theorem yV:type_of% @Tryz.sizeOf26:=@Tryz.sizeOf26
theorem yW:type_of% @Tryz.zeroValue55:=@Tryz.zeroValue55
theorem yX:type_of% @Tryz.call95:=@Tryz.call95
theorem yY:type_of% @Tryz.isAgg39:=@Tryz.isAgg39
theorem yZ:type_of% @OKS.callV:=@OKS.callV
theorem ya:type_of% @CK.forN:=@CK.forN
theorem yb:type_of% @Runs.leq:=@Runs.leq
theorem yc:type_of% @Tryz.isAgg179:=@Tryz.isAgg179
theorem yd:type_of% @Tryz.sizeOf95:=@Tryz.sizeOf95
theorem ye:type_of% @Tryz.call13:=@Tryz.call13
theorem yf:type_of% @CK.iter:=@CK.iter
theorem yg:type_of% @OKS.callHT:=@OKS.callHT
end Go.Proofs.YtkeeechdijfkhaaGreat
namespace Go.Proofs.YtkeeechdijfkhaaGreat
open Go.KL
set_option maxHeartbeats 4000000
theorem wEo (p0:List Int) (ab:Option Addr) (ae:Nat) (w:World) (U:PHeap) (hS:St0 w U []) (am:Sl U 1 ab ae p0.length (nA KL.encB8 p0)) {r:wAB} (hm:wBt p0=some r):Gv Tryz.prog 5 [.slice ab p0.length ae] w (wCQ w [] U (fun U_ L_ v=>∃ (b0:Nat) (A0p0:Option Addr) (c0p0:Nat),v=.pointer (some ⟨b0,0,none⟩)/\L_=[.blk b0 60 [.slice A0p0 r.bytes.length c0p0,jV r.next,.int .u32 r.state]]/\Sl U_ 1 A0p0 c0p0 r.bytes.length (nA KL.encB8 r.bytes))):=by
 unfold wBt at hm
 refine Gv.of Tryz.func5 Z Tryz.ntmps5 Tryz.results5 Z (sR fL1 Z (oA Z Z (eN (sR gAw Z (oM Z Z ?_)))))
 let B0:List Value:=[.slice ab p0.length ae,jV 0,.int .u32 17]
 refine zV rfl rfl rfl rfl (fun _=>zw (pv:=[(0,.slice ab p0.length ae),(2,.int .u32 17)]) (z:=[.slice none 0 0,jV 0,.int .u32 0]) (cs:=B0) rfl (wAC rfl (wAC rfl wAV)) Tryz.zeroValue60 wPc rfl rfl) (ZG (cs:=B0) rfl rfl rfl rfl rfl rfl (by rfl) hS ?_)
 intro W1 b2 ak
 refine oA Z Z (eN (zS ?_))
 cases hm
 exact ⟨Z,_,(ZT Z),U,_,ak,b2,ab,ae,Z,Z,am⟩
theorem wAO (p0:wAB) (aj:Nat) (ae:Option Addr) (ah:Nat) (p1:Int) (w:World) (U:PHeap) (hS:St0 w U [.blk aj 60 [.slice ae p0.bytes.length ah,jV p0.next,.int .u32 p0.state]]) (am:Sl U 1 ae ah p0.bytes.length (nA KL.encB8 p0.bytes)) {r:Int × wAB} (hm:wAJ p0 p1=some r):Gv Tryz.prog 14 [.pointer (some ⟨aj,0,none⟩),jV p1] w (wCQ w [.blk aj 60 [.slice ae p0.bytes.length ah,jV p0.next,.int .u32 p0.state]] U (fun U_ L_ v=>∃ (aY:Option Addr) (ba:Nat),v=jV r.1/\L_=[.blk aj 60 [.slice aY r.2.bytes.length ba,jV r.2.next,.int .u32 r.2.state]]/\Sl U_ 1 aY ba r.2.bytes.length (nA KL.encB8 r.2.bytes))):=by
 unfold wAJ at hm
 refine Gv.of Tryz.func14 Z Tryz.ntmps14 Tryz.results14 Z (sR fL1 Z (oA Z Z (eN (zN (sR fL10 Z (oM Z Z (oR Z (yb Z Z Z) (oM Z Z ?_))))))))
 by_cases c2:p1 <= 1
 have bg:=hm;rw [if_pos c2] at bg;replace c2:=zO c2
 refine oT Z c2 (oT Z c2 (oT Z c2 (oT Z c2 (oT Z c2 (oT Z c2 (oR Z (zY Z (ZY c2.out) Z) (eN (ZH Z (sR fL1 Z (oA Z Z (eN (zS (zW ?_)))))))))))))
 cases bg
 exact ⟨Z,_,(ZT Z),U,_,hS,ae,ah,Z,Z,am⟩
 have bh:=hm;rw [if_neg c2] at bh;replace c2:=zO c2
 refine zL Z Z Z (wF Z c2) Z Z (rU Z (wF Z c2) (Ze Z Z) (rU Z (wF Z c2) (zJ Z Z Zg Z Tryz.sizeOf22) (ZD Z Z Z (wF Z c2) (hS.ldB (j:=0) Z Z Z Tryz.isAgg22 (v:=.slice ae p0.bytes.length ah) Z) Z (rU Z (wF Z c2) (ZU Z Z Tryz.runUnderlying22) (rU Z (wF Z c2) (yC Z Z Z) (oR Z (zZ Z (ZL c2.out) Z) (eN (ifc bh ?_ ?_))))))))
 intro c5 bK
 refine cT Z c5 (sR fL1 Z (oA Z Z (eN (zS (zW ?_)))))
 cases bK
 exact ⟨Z,_,(ZT Z),U,_,hS,ae,ah,Z,Z,am⟩
 intro c5 bL
 refine cF Z c5 (kN (zN (zt zq [3,3,3,1,3,3,3,1,3,3,3,1,3,3,3,1,3,3,3,3,1,3,3,3,1,3,3,3,3,3] fL30 (by kernel_rfl) ?_)))
 have ai:=hS.drew
 generalize hw_W9:({ w with drawn:=w.drawn + 1 }:World)=W9 at ai ⊢
 refine oM Z Z (oR Z (Ze Z Z) (oR Z (zJ Z Z Zg Z Tryz.sizeOf22) (oL Z (ai.ldB (j:=0) Z Z Z Tryz.isAgg22 (v:=.slice ae p0.bytes.length ah) Z) (oM Z Z (oR Z (Ze Z Z) (oR Z (zJ Z Z Zg Z zC) (oL Z (ai.ldB (j:=0) Z Z Z zE (v:=jV p0.next) Z) (oM Z Z (oR Z (Ze Z Z) (oR Z (zJ Z Z Zg Z Tryz.sizeOf22) (oL Z (ai.ldB (j:=0) Z Z Z Tryz.isAgg22 (v:=.slice ae p0.bytes.length ah) Z) (oR Z (ZU Z Z Tryz.runUnderlying22) (bnK bL fun bQ bm bz=>oR Z (Runs.rem Z Z Z bm) (bnK bz fun bi aX bA=>?_))))))))))))))
 have q:=am.el (fun _=>rfl) (wBB aX)
 obtain ⟨bO,bP,bt,bu⟩:=q
 refine oR Z (zl Z Z bt Z Tryz.runUnderlying22 Tryz.sizeOf5 (wCC aX) (wCL aX)) (oL Z (ai.ldC (f:=0) bu (v:=.int .u8 bi) Z Z Tryz.isAgg5 Z) (oR Z (Runs.cvu Z Z Tryz.runUnderlying5 Tryz.runUnderlying58 Z Z) (oM Z Z (oR Z (Ze Z Z) (oR Z (zJ Z Z Zg Z zC) (oL Z (ai.ldB (j:=0) Z Z Z zE (v:=jV p0.next) Z) (oM Z Z (oR Z (Ze Z Z) (oR Z (zJ Z Z Zg Z Tryz.sizeOf22) (oL Z (ai.ldB (j:=0) Z Z Z Tryz.isAgg22 (v:=.slice ae p0.bytes.length ah) Z) (oR Z (ZU Z Z Tryz.runUnderlying22) (bnK bA fun bM bn bB=>oR Z (Runs.quo Z Z Z bn) (oR Z (Runs.cvu Z Z ZM Tryz.runUnderlying58 Z Z) (oA Z Z (oA Z Z (eN (zN (CK.fresh fun aU au=>?_))))))))))))))))))
 have ap:aU 0=.pointer (some ⟨aj,0,none⟩):=(au 0).trans rfl
 have av:aU 1=jV p1:=(au 1).trans rfl
 have az:aU 5=.int .u32 (wEe bi):=(au 5).trans rfl
 have bb:aU 6=.int .u32 (wEe bM):=(au 6).trans rfl
 clear au
 refine rR (wJv (.fx 7 .nil .stop)) Z (oM Z ap (oR Z (Ze Z Z) (oR Z (zJ Z Z Zg Z zC) (oL Z (ai.ldB (j:=0) Z Z Z zE (v:=jV p0.next) Z) (oR Z (zU Z Z Z) (oR Z (Ze Z Z) (oR Z (zJ Z Z Zg Z zC) (ze (j:=0) (vs:=[jV (w64 (p0.next + 1))]) Z Z Z Z ai Z Z Z Z zC (zA Z) Z Z Z ?_))))))))
 intro bj bv
 let B0:Res:=.blk aj 60 [.slice ae p0.bytes.length ah,jV p0.next,.int .u32 p0.state]
 have bf:SW w [B0] U U [.blk aj 60 [.slice ae p0.bytes.length ah,jV (w64 (p0.next + 1)),.int .u32 p0.state]] bj:=bv
 refine eN (sR (wJw (.fx 15 .nil .stop)) Z (oM Z ap (oM Z ap (oR Z (Ze Z Z) (oR Z (zJ Z Z Zg Z Tryz.sizeOf58) (oL Z (bf.ldB (j:=0) Z Z Z Tryz.isAgg58 (v:=.int .u32 p0.state) Z) (oR Z (Runs.mulu Z Z Z) (oM Z az (oR Z (Runs.addu Z Z Z) (oM Z bb (oR Z (Runs.mulu Z Z Z) (oR Z (Runs.addu Z Z Z) (oR Z (Runs.addu Z Z Z) (bnK bB fun aT bo bC=>oR Z (Runs.rem Z Z Z bo) (oR Z (Ze Z Z) (oR Z (zJ Z Z Zg Z Tryz.sizeOf58) (ze (j:=0) (vs:=[.int .u32 aT]) Z Z Z Z bf Z Z Z Z Tryz.sizeOf58 (zA Z) Z Z Z ?_)))))))))))))))))
 intro bk bw
 have aq:SW w [B0] U U [.blk aj 60 [.slice ae p0.bytes.length ah,jV (w64 (p0.next + 1)),.int .u32 aT]] bk:=bw
 refine eN (zN (sR fL6 Z (oM Z bb (oR Z (yC Z Z Z) (oM Z Z (ifc bC ?_ ?_))))))
 intro ak bD
 refine zL Z Z Z (wT Z ak) Z av (rU Z (wT Z ak) (yb Z Z Z) (oR Z (zY Z (ZY ak.out) Z) (eN (ifc bD ?_ ?_))))
 intro aV bE
 refine cT Z aV (sR fL5 Z (oM Z az (oR Z (Runs.cvw Z Z Tryz.runUnderlying58 ZM Z Z) (oM Z av (bnK bE fun bR bp bF=>oR Z (Runs.rem Z Z Z bp) (oA Z Z (eN (zS (zW ?_)))))))))
 cases bF
 exact ⟨Z,_,(ZT Z),U,_,aq,ae,ah,Z,Z,am⟩
 intro aV bG
 refine cF Z aV (kN (sR wTW Z (oM Z ap (oR Z (Ze Z Z) (oR Z (zJ Z Z Zg Z Tryz.sizeOf58) (oL Z (aq.ldB (j:=0) Z Z Z Tryz.isAgg58 (v:=.int .u32 aT) Z) (oR Z (Runs.mulu Z Z Z) (oM Z az (oR Z (Runs.addu Z Z Z) (oR Z (Runs.cvw Z Z Tryz.runUnderlying58 ZM Z Z) (oM Z av (bnK bG fun bS bq bH=>oR Z (Runs.rem Z Z Z bq) (oA Z Z (eN (zS ?_)))))))))))))))
 cases bH
 exact ⟨Z,_,(ZT Z),U,_,aq,ae,ah,Z,Z,am⟩
 intro ak bI
 refine oF Z ak (oF Z ak (oR Z (zZ Z (ZL ak.out) Z) (eN (zn Z (kN (sR wTW Z (oM Z ap (oR Z (Ze Z Z) (oR Z (zJ Z Z Zg Z Tryz.sizeOf58) (oL Z (aq.ldB (j:=0) Z Z Z Tryz.isAgg58 (v:=.int .u32 aT) Z) (oR Z (Runs.mulu Z Z Z) (oM Z az (oR Z (Runs.addu Z Z Z) (oR Z (Runs.cvw Z Z Tryz.runUnderlying58 ZM Z Z) (oM Z av (bnK bI fun bT br bJ=>oR Z (Runs.rem Z Z Z br) (oA Z Z (eN (zS ?_)))))))))))))))))))
 cases bJ
 exact ⟨Z,_,(ZT Z),U,_,aq,ae,ah,Z,Z,am⟩
theorem wAf (p0:wAB) (ab:Nat) (ae:Option Addr) (ah:Nat) (p1:Int) (p2:Int) (w:World) (U:PHeap) (hS:St0 w U [.blk ab 60 [.slice ae p0.bytes.length ah,jV p0.next,.int .u32 p0.state]]) (aX:Sl U 1 ae ah p0.bytes.length (nA KL.encB8 p0.bytes)) {r:Int × wAB} (hm:wAM p0 p1 p2=some r):Gv Tryz.prog 13 [.pointer (some ⟨ab,0,none⟩),jV p1,jV p2] w (wCQ w [.blk ab 60 [.slice ae p0.bytes.length ah,jV p0.next,.int .u32 p0.state]] U (fun U_ L_ v=>∃ (ap:Option Addr) (av:Nat),v=jV r.1/\L_=[.blk ab 60 [.slice ap r.2.bytes.length av,jV r.2.next,.int .u32 r.2.state]]/\Sl U_ 1 ap av r.2.bytes.length (nA KL.encB8 r.2.bytes))):=by
 unfold wAM at hm
 refine Gv.of Tryz.func13 Z Tryz.ntmps13 Tryz.results13 Z (sR fL1 Z (oA Z Z (eN (sR (wIu gAn) Z (oM Z Z (oM Z Z (oM Z Z (oM Z Z (oR Z (ZV Z Z Z) (oR Z (zU Z Z Z) ?_))))))))))
 have q:=bnd hm
 obtain ⟨⟨x2,x3⟩,h4,az⟩:=q
 try dsimp only at az
 refine zH 1 Z Z Z Z (zG Z Z Zj (zB Z (zB Z zM)) Z) hS (fun hs=>wAO p0 ab ae ah (w64 ((w64 (p2 - p1)) + 1)) w U hs aX h4) (.inl Z) ?_
 rintro U6 L7 v8 W9 aZ aV ⟨am,au,rfl,rfl,aT⟩
 have aW:SW w [.blk ab 60 [.slice ae p0.bytes.length ah,jV p0.next,.int .u32 p0.state]] U U6 [.blk ab 60 [.slice am x3.bytes.length au,jV x3.next,.int .u32 x3.state]] W9:=aV
 refine oR Z (zU Z Z Z) (oA Z Z (eN (zS ?_)))
 cases az
 exact ⟨Z,_,(ZT Z),U6,_,aW,am,au,Z,Z,aT⟩
theorem wFW (p0:wAB) (ab:Nat) (fz:Option Addr) (fA:Nat) (p1:Int) (p2:Int) (p3:Int) (w:World) (U:PHeap) (hS:St0 w U [.blk ab 60 [.slice fz p0.bytes.length fA,jV p0.next,.int .u32 p0.state]]) (Fx:Sl U 1 fz fA p0.bytes.length (nA KL.encB8 p0.bytes)) {r:wAD × (List (List Int)) × (List Int) × wAB} (hm:wBN p0 p1 p2 p3=some r):Gv Tryz.prog 4 [.pointer (some ⟨ab,0,none⟩),jV p1,jV p2,jV p3] w (wCQ w [.blk ab 60 [.slice fz p0.bytes.length fA,jV p0.next,.int .u32 p0.state]] U (fun U_ L_ v=>∃ (lA:Option Addr) (ox:Nat) (lB:Option Addr) (oy:Nat) (lC:Option Addr) (oz:Nat) (lD:Option Addr) (oB:Nat) (A1:Option Addr) (c1:Nat) (A2:Option Addr) (c2:Nat) (mf:Option Addr) (pI:Nat),v=.tuple #[.agg #[.slice lA r.1.Starts.length ox,.slice lB r.1.Splits.length oy,.slice lC r.1.Clocks.length oz,.slice lD r.1.Readings.length oB],.slice A1 r.2.1.length c1,.slice A2 r.2.2.1.length c2]/\L_=[.row lA ox 3 1 (nA KL.encI r.1.Starts),.row lB oy 39 2 (nA wAP r.1.Splits),.row lC oz 55 3 (nA wAA r.1.Clocks),.row lD oB 57 4 (nA wAL r.1.Readings),.row A2 c2 3 1 (nA KL.encI r.2.2.1),.blk ab 60 [.slice mf r.2.2.2.bytes.length pI,jV r.2.2.2.next,.int .u32 r.2.2.2.state]]/\SlR U_ wSF A1 c1 r.2.1/\Sl U_ 1 mf pI r.2.2.2.bytes.length (nA KL.encB8 r.2.2.2.bytes))):=by
 unfold wBN at hm
 refine Gv.of Tryz.func4 Z Tryz.ntmps4 Tryz.results4 Z (sR (.fx 0 gAa .stop) Z ?_)
 let B0:List Value:=[.slice none 0 0,.slice none 0 0,.slice none 0 0,.slice none 0 0]
 refine zX (cs:=B0) Z Z Z Z Z Tryz.zeroValue28 Z hS ?_
 intro W2 b3 EI
 refine oA Z Z (oA Z Z (eN (sR (.fx 0 .nil .stop) Z (zX (cs:=B0) Z Z Z Z Z Tryz.zeroValue28 Z EI ?_))))
 intro W6 b7 E6
 refine eN (sR fL1 Z (oA Z Z (eN (sR fL1 Z (oA Z Z (eN (zN (sR gAw Z (oM Z Z (oM Z Z ?_))))))))))
 have q:=bnd hm
 obtain ⟨⟨ii,lc⟩,Bs,rV⟩:=q
 try dsimp only at rV
 let B1:Res:=.blk ab 60 [.slice fz p0.bytes.length fA,jV p0.next,.int .u32 p0.state]
 have Da:SW w [B1] U U [B1,.blk b7 28 B0,.blk b3 28 B0] W6:=E6.pick [2,0,1] _ (by decide) rfl
 refine zH 1 Z Z Z Z (zG Z Z ye (zB Z (zB Z (zB Z zM))) Z) Da (fun hs=>wAf p0 ab fz fA 1 p1 W6 U hs Fx Bs) (.inl Z) ?_
 rintro iQ Hx IZ tJ IM DY ⟨lW,pj,rfl,rfl,Cd⟩
 have Ev:SW w [B1] U iQ [.blk ab 60 [.slice lW lc.bytes.length pj,jV lc.next,.int .u32 lc.state],.blk b7 28 B0,.blk b3 28 B0] tJ:=DY
 refine oM Z Z (eN (zf ?_))
 have q:=bnd rV
 obtain ⟨⟨Ho,Hp,Hq,aW⟩,FH,sk⟩:=q
 try dsimp only at sk
 have q:=wCe FH
 obtain ⟨j5,FI⟩:=q
 replace j5:=zO j5
 refine CK.forN' (fun fj (fu,lu,x57,cM) σ_ w_=>∃ (U_:PHeap) (fY:Option Addr) (gM:Nat) (cX:Option Addr) (dl:Nat),σ_ 28=jV (↑fj:Int)/\σ_ 0=.pointer (some ⟨ab,0,none⟩)/\σ_ 2=jV p2/\σ_ 3=jV p3/\σ_ 8=.pointer (some ⟨b3,0,none⟩)/\σ_ 11=.pointer (some ⟨b7,0,none⟩)/\σ_ 12=.slice none 0 0/\σ_ 13=.slice none 0 0/\σ_ 27=jV ii/\PHeap.Le iQ U_/\SW w [B1] U U_ [.blk ab 60 [.slice fY fu.length gM,jV lu,.int .u32 x57],.row cX dl 3 1 (nA KL.encI cM),.blk b7 28 [.slice cX cM.length dl,.slice none 0 0,.slice none 0 0,.slice none 0 0],.blk b3 28 B0] w_/\Sl U_ 1 fY gM fu.length (nA KL.encB8 fu)) FI ?_ ?_ ?_
 have EZ:=Ev.nilrow 3 1
 exact ⟨iQ,lW,pj,none,0,rfl,rfl,rfl,rfl,rfl,rfl,rfl,rfl,rfl,(zK _),(EZ.pick [1,0,2,3] _ (by decide) rfl),Cd⟩
 rintro fj ⟨fu,lu,x57,cM⟩ Jq JU oh jX ⟨tl,fY,gM,cX,dl,rj,jz,Bf,Bg,Bh,jA,Bi,Bj,re,GW,Fa,CL⟩ sE
 try dsimp only at sE
 have pH:Hid ((↑fj:Int) < ii):=zO (wBs jX)
 replace jX:=zO jX
 have FU:Hid (w64 ((↑fj:Int) + 1)=(↑(fj + 1):Int)):=zO (by have h1:=j5.out;have h2:=pH.out;rw [wAb] <;> omega)
 refine sR fL1 rfl (zV rfl rfl rfl rfl (fun _=>zP rfl rj re) (eN (zN (cT Z pH (kN (zN (zf (zt zq [3,1004,3,1005,3,3,1005,3,2,0,3,0,ab] (wDj (.fl 5 (.fx 3 (.fl 4 (.fx 6 (.fl 7 (.fx 8 (.fx 9 (.fl 10 (.fx 11 .nil .stop)) .stop) .stop)) .stop)) .stop))) (by kernel_rfl) ?_))))))))
 have jL:=Fa.drew
 generalize hw_W140:({ oh with drawn:=oh.drawn + 1 }:World)=tv at jL ⊢
 refine oR Z (zJ Z jA zQ Z zy) ?_
 let B2:Res:=.blk b7 28 [.slice cX cM.length dl,.slice none 0 0,.slice none 0 0,.slice none 0 0]
 let B3:Res:=.row cX dl 3 1 (nA KL.encI cM)
 refine OKS.mt (T:=[ab]) [0] [1,2,3] [B3,B2,.blk b3 28 B0] rfl rfl rfl rfl jL rfl ⟨⟨0,by decide,_,rfl,rfl⟩,trivial⟩ (by decide) rfl (by decide) (fun _ Fk=>(Fk.ldB (j:=1) rfl rfl rfl ZI (v:=.slice cX cM.length dl) rfl)) rfl (zL rfl rfl rfl rfl rfl jz (zL rfl rfl rfl rfl rfl jz ?_))
 have q:=bnd sE
 obtain ⟨⟨fB,ij⟩,Bz,rW⟩:=q
 try dsimp only at rW
 refine yg 1 rfl rfl rfl rfl (zG rfl rfl Zj (zB rfl (zB rfl zM)) rfl) jL (fun hs=>wAO (⟨fu,lu,x57⟩:wAB) ab fY gM 4 tv tl hs CL Bz) rfl (T:=[ab]) rfl ⟨fun b h=>(by cases h;exact .head _),trivial⟩ ?_
 rintro mQ Hw IW m7 GC De ⟨lJ,oP,rfl,rfl,BA⟩
 have Dh:SW w [B1] U mQ [.blk ab 60 [.slice lJ ij.bytes.length oP,jV ij.next,.int .u32 ij.state],B3,B2,.blk b3 28 B0] m7:=De
 refine oR Z (Runs.mulw Z Z Z) ?_
 have q:=bnd rW
 obtain ⟨⟨fC,lf⟩,BB,rX⟩:=q
 try dsimp only at rX
 refine yg 1 rfl rfl rfl rfl (zG rfl rfl Zj (zB rfl (zB rfl zM)) rfl) Dh (fun hs=>wAO ij ab lJ oP 3 m7 mQ hs BA BB) rfl (T:=[ab]) rfl ⟨fun b h=>(by cases h;exact .head _),trivial⟩ ?_
 rintro dW Hy IX tG GD Ds ⟨lM,o0,rfl,rfl,BF⟩
 let B4:Res:=.blk ab 60 [.slice lM lf.bytes.length o0,jV lf.next,.int .u32 lf.state]
 have Dw:SW w [B1] U dW [B4,B3,B2,.blk b3 28 B0] tG:=Ds
 refine oR Z (zU Z Z Z) (ZB (pv:=[(0,jV (w64 ((w64 (300 * fB)) + fC)))]) (zs:=[jV 0]) (cs:=[jV (w64 ((w64 (300 * fB)) + fC))]) Z Z Z Z Z (wAC Z wAV) zD zC ZC Z Z Z Z Z Dw ?_)
 intro tI uv Dz
 let B5:Res:=.row (some ⟨uv,0,none⟩) 1 3 1 (nA KL.encI [w64 ((w64 (300 * fB)) + fC)])
 have rH:SW w [B1] U dW [B5,B4,B3,B2,.blk b3 28 B0] tI:=Dz
 refine bnK rX fun ik BK FV=>yD (j:=2) (enc:=KL.encI) (xs:=cM) (ys:=[w64 ((w64 (300 * fB)) + fC)]) (zs:=ik) rfl rfl rfl rfl rfl Tryz.underlying23 wJX rfl rfl rfl rfl rfl rfl rH rfl rfl rfl (rH.srcR (j:=0) rfl (by decide) (wAE (f:=KL.encI) (sz:=1) (fun _=>rfl) [w64 ((w64 (300 * fB)) + fC)])) (fun _=>rfl) (fun _=>rfl) BK rfl ?_
 intro fR gG tK DC
 let B6:Res:=.row fR gG 3 1 (nA KL.encI ik)
 have DD:SW w [B1] U dW [B5,B4,B6,B2,.blk b3 28 B0] tK:=DC
 refine oR Z (zJ Z jA zQ Z zy) (ze (j:=3) (vs:=[.slice fR ik.length gG]) Z Z Z Z DD Z Z Z Z zy (zA Z) Z Z Z ?_)
 intro tL DE
 have DF:SW w [B1] U dW [B5,B4,B6,.blk b7 28 [.slice fR ik.length gG,.slice none 0 0,.slice none 0 0,.slice none 0 0],.blk b3 28 B0] tL:=DE
 refine zd (zm (zI (rR fL2 Z (oR Z (Zc (zU Z rj Z) (congrArg (jV) FU.out)) (oM Z Z (zd ?_))))))
 cases FV
 exact zI ⟨rfl,⟨dW,lM,o0,fR,gG,rfl,jz,Bf,Bg,Bh,jA,Bi,Bj,re,((GW.trans GC).trans GD),(DF.pick [1,2,3,4] _ (by decide) rfl),BF⟩⟩
 rintro JK tQ ⟨tg,s6,uE,bj,bk,Bl,qP,Ac,Ad,Ae,Af,Ag,Ah,Ai,IN,Eh,BX⟩
 have uF:Hid (¬ ((↑((ii:Int) - 0).toNat:Int) < ii)):=zO (wBM)
 refine sR fL1 Z (oR Z (zP Z Bl Ai) (eN (zN (cF Z uF (ZX (zj (zj (ZN (zI (zN (sR gAw Z (oM Z qP (oM Z Ac ?_)))))))))))))
 have q:=bnd sk
 obtain ⟨⟨io,li⟩,Ca,sb⟩:=q
 try dsimp only at sb
 refine zH 1 Z Z Z Z (zG Z Z Zj (zB Z (zB Z zM)) Z) Eh (fun hs=>wAO (⟨Ho,Hp,Hq⟩:wAB) ab s6 uE p2 tQ tg hs BX Ca) (.inl Z) ?_
 rintro iZ HO Jc ub IP Et ⟨lY,pm,rfl,rfl,Ce⟩
 let B7:Res:=.row bj bk 3 1 (nA KL.encI aW)
 have Eu:SW w [B1] U iZ [.blk ab 60 [.slice lY li.bytes.length pm,jV li.next,.int .u32 li.state],B7,.blk b7 28 [.slice bj aW.length bk,.slice none 0 0,.slice none 0 0,.slice none 0 0],.blk b3 28 B0] ub:=Et
 refine oM Z Z (eN (zf ?_))
 have q:=bnd sb
 obtain ⟨⟨Js,Jt,Ju,aX⟩,FA,sc⟩:=q
 try dsimp only at sc
 have q:=wCe FA
 obtain ⟨j0,FB⟩:=q
 replace j0:=zO j0
 refine CK.forN' (fun fh (fm,lj,lm,cL) σ_ w_=>∃ (U_:PHeap) (fU:Option Addr) (gJ:Nat) (cW:Option Addr) (dk:Nat),σ_ 45=jV (↑fh:Int)/\σ_ 0=.pointer (some ⟨ab,0,none⟩)/\σ_ 3=jV p3/\σ_ 8=.pointer (some ⟨b3,0,none⟩)/\σ_ 11=.pointer (some ⟨b7,0,none⟩)/\σ_ 12=.slice none 0 0/\σ_ 13=.slice none 0 0/\σ_ 44=jV io/\PHeap.Le iZ U_/\SW w [B1] U U_ [.blk ab 60 [.slice fU fm.length gJ,jV lj,.int .u32 lm],B7,.row cW dk 39 2 (nA wAP cL),.blk b7 28 [.slice bj aW.length bk,.slice cW cL.length dk,.slice none 0 0,.slice none 0 0],.blk b3 28 B0] w_/\Sl U_ 1 fU gJ fm.length (nA KL.encB8 fm)) FB ?_ ?_ ?_
 have Ew:=Eu.nilrow 39 2
 exact ⟨iZ,lY,pm,none,0,rfl,qP,Ad,Ae,Af,Ag,Ah,rfl,(zK _),(Ew.pick [1,2,0,3,4] _ (by decide) rfl),Ce⟩
 rintro fh ⟨fm,lj,lm,cL⟩ Jn JN uc jS ⟨th,fU,gJ,cW,dk,ri,jx,An,Ao,jy,Ap,Aq,qS,GP,Ey,Cf⟩ sB
 try dsimp only at sB
 have pn:Hid ((↑fh:Int) < io):=zO (wBs jS)
 replace jS:=zO jS
 have FQ:Hid (w64 ((↑fh:Int) + 1)=(↑(fh + 1):Int)):=zO (by have h1:=j0.out;have h2:=pn.out;rw [wAb] <;> omega)
 refine sR fL1 Z (oR Z (zP Z ri qS) (eN (zN (cT Z pn (kN (zN (zf (sR (.fl 0 gAo) Z (oM Z jx ?_)))))))))
 have q:=bnd sB
 obtain ⟨⟨bS,ip⟩,Cg,sd⟩:=q
 try dsimp only at sd
 refine zH 1 Z Z Z Z (zG Z Z ye (zB Z (zB Z (zB Z zM))) Z) Ey (fun hs=>wAf (⟨fm,lj,lm⟩:wAB) ab fU gJ 3 9 uc th hs Cf Cg) (.inl Z) ?_
 rintro mX HP Jd jb GQ Ez ⟨lZ,po,rfl,rfl,Ch⟩
 let B8:Res:=.blk b7 28 [.slice bj aW.length bk,.slice cW cL.length dk,.slice none 0 0,.slice none 0 0]
 let B9:Res:=.row cW dk 39 2 (nA wAP cL)
 have EA:SW w [B1] U mX [.blk ab 60 [.slice lZ ip.bytes.length po,jV ip.next,.int .u32 ip.state],B7,B9,B8,.blk b3 28 B0] jb:=Ez
 refine zV rfl rfl rfl rfl (fun _=>Runs.mulw rfl rfl rfl) (Zx rfl rfl rfl rfl rfl rfl (eN (zt zq [3,1004,3,3,3,1005,3,3,3,2,0,3,0,ab] (wDC (.fx 5 (fC6_8 (.fx 9 (.fx 10 (.fl 11 (.fx 12 .nil .stop)) .stop) .stop)) .stop)) (by kernel_rfl) ?_)))
 have jM:=EA.drew
 generalize hw_W351:({ jb with drawn:=jb.drawn + 1 }:World)=ud at jM ⊢
 refine zV rfl rfl rfl rfl (fun _=>zJ rfl jy zQ rfl Zz) (OKS.mt (T:=[ab]) [0] [1,2,3,4] [B7,B9,B8,.blk b3 28 B0] rfl rfl rfl rfl jM rfl ⟨⟨0,by decide,_,rfl,rfl⟩,trivial⟩ (by decide) rfl (by decide) (fun _ Fw=>(Fw.ldB (j:=2) rfl rfl rfl yP (v:=.slice cW cL.length dk) rfl)) rfl (zL rfl rfl rfl rfl rfl rfl (zL rfl rfl rfl rfl rfl rfl (zL rfl rfl rfl rfl rfl jx ?_))))
 have q:=bnd sd
 obtain ⟨⟨fG,ln⟩,Ci,sf⟩:=q
 try dsimp only at sf
 refine yg 1 rfl rfl rfl rfl (zG rfl rfl Zj (zB rfl (zB rfl zM)) rfl) jM (fun hs=>wAO ip ab lZ po 30 ud mX hs Ch Ci) rfl (T:=[ab]) rfl ⟨fun b h=>(by cases h;exact .head _),trivial⟩ ?_
 rintro dX HQ Je ue GR EB ⟨l4,pp,rfl,rfl,Cj⟩
 let ga:Res:=.blk ab 60 [.slice l4 ln.bytes.length pp,jV ln.next,.int .u32 ln.state]
 have EC:SW w [B1] U dX [ga,B7,B9,B8,.blk b3 28 B0] ue:=EB
 refine oR Z (Runs.mulw Z Z Z) (oR Z (zU Z Z Z) ?_)
 let iG:List Value:=[jV (w64 (100 * bS)),jV (w64 ((w64 (100 * bS)) + (w64 (10 * fG))))]
 refine oR Z (zw (pv:=[(0,jV (w64 (100 * bS))),(1,jV (w64 ((w64 (100 * bS)) + (w64 (10 * fG)))))]) (z:=[jV 0,jV 0]) (cs:=iG) Z (wAC Z (wAC Z wAV)) Zv wFt Z Z) (ZB (pv:=[(0,.agg iG.toArray)]) (zs:=[jV 0,jV 0]) (cs:=iG) Z Z Z Z Z (wAC Z wAV) Zh ZR Zv Z Z Z Z Z EC ?_)
 intro uf uz ED
 let iH:Res:=.row (some ⟨uz,0,none⟩) 1 39 2 (nA wAP [(⟨w64 (100 * bS),w64 ((w64 (100 * bS)) + (w64 (10 * fG)))⟩:wAH)])
 have rN:SW w [B1] U dX [iH,ga,B7,B9,B8,.blk b3 28 B0] uf:=ED
 refine bnK sf fun iq Ck F7=>yD (j:=3) (enc:=wAP) (xs:=cL) (ys:=[(⟨w64 (100 * bS),w64 ((w64 (100 * bS)) + (w64 (10 * fG)))⟩:wAH)]) (zs:=iq) rfl rfl rfl rfl rfl Tryz.underlying24 wTD rfl rfl rfl rfl rfl rfl rN rfl rfl rfl (rN.srcR (j:=0) rfl (by decide) (wAE (f:=wAP) (sz:=2) (fun _=>rfl) [(⟨w64 (100 * bS),w64 ((w64 (100 * bS)) + (w64 (10 * fG)))⟩:wAH)])) (fun _=>rfl) (fun _=>rfl) Ck rfl ?_
 intro fV gK ug EE
 let mg:Res:=.row fV gK 39 2 (nA wAP iq)
 have EF:SW w [B1] U dX [iH,ga,B7,mg,B8,.blk b3 28 B0] ug:=EE
 refine oR Z (zJ Z jy zQ Z Zz) (ze (j:=4) (vs:=[.slice fV iq.length gK]) Z Z Z Z EF Z Z Z Z Zz (zA Z) Z Z Z ?_)
 intro uh EG
 have EH:SW w [B1] U dX [iH,ga,B7,mg,.blk b7 28 [.slice bj aW.length bk,.slice fV iq.length gK,.slice none 0 0,.slice none 0 0],.blk b3 28 B0] uh:=EG
 refine zd (zm (zI (rR fL2 Z (oR Z (Zc (zU Z ri Z) (congrArg (jV) FQ.out)) (oM Z Z (zd ?_))))))
 cases F7
 exact zI ⟨rfl,⟨dX,l4,pp,fV,gK,rfl,jx,An,Ao,jy,Ap,Aq,qS,((GP.trans GQ).trans GR),(EH.pick [1,2,3,4,5] _ (by decide) rfl),Cj⟩⟩
 rintro JO Ie ⟨mY,s7,uH,bq,br,Bn,Ar,As,Au,qT,Av,Aw,Ax,IQ,rO,Cm⟩
 have uI:Hid (¬ ((↑((io:Int) - 0).toNat:Int) < io)):=zO (wBM)
 refine sR fL1 Z (oR Z (zP Z Bn Ax) (eN (zN (cF Z uI (ZX (zj (zj (ZN (zI (zN (sR fL4 Z (oR Z (zJ Z qT zQ Z zy) (oL Z (rO.ldB (j:=3) Z Z Z ZI (v:=.slice bj aW.length bk) Z) (oR Z (ZU Z Z zD) (oM Z Z (eN (zf ?_)))))))))))))))))
 have q:=bnd sc
 obtain ⟨⟨Hh,Hj,Hk,bw⟩,FC,sg⟩:=q
 try dsimp only at sg
 have q:=wCe FC
 obtain ⟨j3,FD⟩:=q
 replace j3:=zO j3
 let bH:Res:=.blk b7 28 [.slice bj aW.length bk,.slice bq aX.length br,.slice none 0 0,.slice none 0 0]
 refine CK.forN' (fun cf (fq,lp,lq,ft) σ_ w_=>∃ (U_:PHeap) (dP:Option Addr) (eV:Nat) (dQ:Option Addr) (eW:Nat) (gO:List Value),σ_ 66=jV (↑cf:Int)/\σ_ 0=.pointer (some ⟨ab,0,none⟩)/\σ_ 3=jV p3/\σ_ 8=.pointer (some ⟨b3,0,none⟩)/\σ_ 11=.pointer (some ⟨b7,0,none⟩)/\σ_ 12=.slice dQ ft.length eW/\σ_ 13=.slice none 0 0/\σ_ 64=.slice bj aW.length bk/\σ_ 65=jV (↑aW.length:Int)/\PHeap.Le mY U_/\SW w [B1] U U_ [.blk ab 60 [.slice dP fq.length eV,jV lp,.int .u32 lq],.row bj bk 3 1 (nA KL.encI aW),.row bq br 39 2 (nA wAP aX),bH,.blk b3 28 B0,.row dQ eW 23 1 gO] w_/\Sl U_ 1 dP eV fq.length (nA KL.encB8 fq)/\RlL U_ wSF ft gO) FD ?_ ?_ ?_
 have EJ:=rO.nilrow 23 1
 exact ⟨mY,s7,uH,none,0,[],rfl,Ar,As,Au,qT,Av,Aw,rfl,rfl,(zK _),(EJ.pick [1,2,3,4,5,0] _ (by decide) rfl),Cm,RlL.nil⟩
 rintro cf ⟨fq,lp,lq,ft⟩ Jo JP If jU ⟨i7,dP,eV,dQ,eW,gO,jB,Ay,Az,AA,qU,AD,AE,qV,qW,GS,jN,Cn,Co⟩ sC
 try dsimp only at sC
 have pq:Hid ((↑cf:Int) < (↑aW.length:Int)):=zO (wBs jU)
 replace jU:=zO jU
 have FR:Hid (w64 ((↑cf:Int) + 1)=(↑(cf + 1):Int)):=zO (by have h1:=j3.out;have h2:=pq.out;rw [wAb] <;> omega)
 refine sR fL1 Z (oR Z (zP Z jB qW) (eN (zN (cT Z pq (kN (zN (zf (sR fL3 Z (bnK sC fun _ jG F8=>?_)))))))))
 obtain ⟨Ip,rB⟩:=jN.rowSome (j:=1) rfl (by rw [wAE (f:=KL.encI) (sz:=1) (fun _=>rfl) aW];have hz:=wAT jG;omega)
 refine oR Z (yQ Z qV rB jB zD zC (wAT jG)) ?_
 have FO:=wAx (xs:=aW) (wAT jG)
 refine ZD rfl rfl rfl rfl (jN.ldR (j:=1) rfl rB rfl rfl zE (wAS (sz:=1) (fun _=>rfl) _ _ 0 _ FO (by first | omega | rfl | simp) rfl)) rfl (Zx rfl rfl rfl rfl rfl rfl (eN (sR gAp rfl (zL rfl rfl rfl rfl rfl rfl (ZB (pv:=[(0,jV (gd aW cf))]) (zs:=[jV 0]) (cs:=[jV (gd aW cf)]) rfl rfl rfl rfl rfl (wAC rfl wAV) zD zC ZC rfl rfl rfl rfl rfl jN ?_)))))
 intro ui ow EK
 let bO:Res:=.row bq br 39 2 (nA wAP aX)
 let bU:Res:=.row dQ eW 23 1 gO
 have rP:SW w [B1] U i7 [.row (some ⟨ow,0,none⟩) 1 3 1 (nA KL.encI [(gd aW cf)]),.blk ab 60 [.slice dP fq.length eV,jV lp,.int .u32 lq],B7,bO,bH,.blk b3 28 B0,bU] ui:=EK
 refine oA Z Z (eN (zN (sR fL4 Z (oR Z (zJ Z qU zQ Z Zz) (oL Z (rP.ldB (j:=4) Z Z Z yP (v:=.slice bq aX.length br) Z) (oR Z (ZU Z Z Zh) (oM Z Z (eN (zf ?_)))))))))
 have q:=bnd F8
 obtain ⟨⟨Hl,Hm,Hn,Jv,cQ⟩,FF,sh⟩:=q
 try dsimp only at sh
 have q:=wCe FF
 obtain ⟨j4,FG⟩:=q
 replace j4:=zO j4
 refine CK.forN' (fun bM (dv,ir,it,cO,fw) σ_ w_=>∃ (U_:PHeap) (dR:Option Addr) (eX:Nat) (fW:Option Addr) (gL:Nat),σ_ 75=jV (↑bM:Int)/\σ_ 0=.pointer (some ⟨ab,0,none⟩)/\σ_ 3=jV p3/\σ_ 8=.pointer (some ⟨b3,0,none⟩)/\σ_ 11=.pointer (some ⟨b7,0,none⟩)/\σ_ 12=.slice dQ ft.length eW/\σ_ 13=.slice none 0 0/\σ_ 16=jV cO/\σ_ 17=.slice fW fw.length gL/\σ_ 64=.slice bj aW.length bk/\σ_ 65=jV (↑aW.length:Int)/\σ_ 66=jV (↑cf:Int)/\σ_ 73=.slice bq aX.length br/\σ_ 74=jV (↑aX.length:Int)/\PHeap.Le i7 U_/\SW w [B1] U U_ [.blk ab 60 [.slice dR dv.length eX,jV ir,.int .u32 it],B7,bO,bH,.blk b3 28 B0,bU,.row fW gL 3 1 (nA KL.encI fw)] w_/\Sl U_ 1 dR eX dv.length (nA KL.encB8 dv)) FG ?_ ?_ ?_
 exact ⟨i7,dP,eV,(some ⟨ow,0,none⟩),1,rfl,Ay,Az,AA,qU,AD,AE,rfl,rfl,qV,qW,jB,rfl,rfl,(zK _),(rP.pick [1,2,3,4,5,6,0] _ (by decide) rfl),Cn⟩
 rintro bM ⟨dv,ir,it,cO,fw⟩ Jp JQ Ig jW ⟨i8,dR,eX,fW,gL,jC,qX,AG,AI,AJ,AL,AM,AN,AP,AQ,AS,AT,qY,qZ,GT,jO,Cp⟩ sD
 try dsimp only at sD
 have pu:Hid ((↑bM:Int) < (↑aX.length:Int)):=zO (wBs jW)
 replace jW:=zO jW
 have FS:Hid (w64 ((↑bM:Int) + 1)=(↑(bM + 1):Int)):=zO (by have h1:=j4.out;have h2:=pu.out;rw [wAb] <;> omega)
 refine sR fL1 Z (oR Z (zP Z jC qZ) (eN (zN (cT Z pu (kN (zN (zf (sR gAx Z (bnK sD fun _ jH F9=>?_)))))))))
 obtain ⟨Iq,rC⟩:=jO.rowSome (j:=2) rfl (by rw [wAE (f:=wAP) (sz:=2) (fun _=>rfl) aX];have hz:=wAT jH;omega)
 refine oR Z (yQ Z qY rC jC Zh ZR (wAT jH)) ?_
 have FP:=wAx (xs:=aX) (wAT jH)
 let cA:List Value:=[jV ((gd aX bM).Lo),jV ((gd aX bM).Hi)]
 refine ZD rfl rfl rfl rfl (jO.ldRA (j:=2) rfl rC rfl rfl yY ZR (vs:=cA) (wKF (sz:=2) (fun _=>rfl) _ _ _ FP (by first | omega | rfl | simp) rfl) rfl) rfl (zX (cs:=[jV 0,jV 0]) rfl rfl rfl rfl rfl Zv rfl jO ?_)
 intro Ih d7 EL
 refine ze (j:=0) (vs:=cA) Z Z Z Z EL Z Z Z Z ZR (zA Z) Z Z Z ?_
 intro jc EM
 let gb:Res:=.row fW gL 3 1 (nA KL.encI fw)
 let mh:Res:=.blk ab 60 [.slice dR dv.length eX,jV ir,.int .u32 it]
 have jP:SW w [B1] U i8 [.blk d7 39 cA,mh,B7,bO,bH,.blk b3 28 B0,bU,gb] jc:=EM
 refine eN (sR (wIu gAn) Z (oM Z AN (oM Z qX (oR Z (zJ Z Z ZE Z zC) (oL Z (jP.ldB (j:=0) Z Z Z zE (v:=jV ((gd aX bM).Lo)) Z) (oR Z (zJ Z Z ZE Z zC) (oL Z (jP.ldB (j:=0) Z Z Z zE (v:=jV ((gd aX bM).Hi)) Z) ?_)))))))
 have q:=bnd F9
 obtain ⟨⟨fH,lv⟩,Cq,sj⟩:=q
 try dsimp only at sj
 have EN:SW w [B1] U i8 [mh,.blk d7 39 cA,B7,bO,bH,.blk b3 28 B0,bU,gb] jc:=jP.pick [1,0,2,3,4,5,6,7] _ (by decide) rfl
 refine zH 1 Z Z Z Z (zG Z Z ye (zB Z (zB Z (zB Z zM))) Z) EN (fun hs=>wAf (⟨dv,ir,it⟩:wAB) ab dR eX ((gd aX bM).Lo) ((gd aX bM).Hi) jc i8 hs Cp Cq) (.inl Z) ?_
 rintro gv HS Jf uj GU EO ⟨l5,py,rfl,rfl,Cr⟩
 let iI:Res:=.blk ab 60 [.slice l5 lv.bytes.length py,jV lv.next,.int .u32 lv.state]
 have EP:SW w [B1] U gv [iI,.blk d7 39 cA,B7,bO,bH,.blk b3 28 B0,bU,gb] uj:=EO
 refine oR Z (zU Z Z Z) (oA Z Z (eN (rR gBd Z (oM Z AP (oM Z Z (ZB (pv:=[(0,jV (w64 (cO + fH)))]) (zs:=[jV 0]) (cs:=[jV (w64 (cO + fH))]) Z Z Z Z Z (wAC Z wAV) zD zC ZC Z Z Z Z Z EP ?_))))))
 intro uk uA EQ
 let mi:Res:=.row (some ⟨uA,0,none⟩) 1 3 1 (nA KL.encI [w64 (cO + fH)])
 have rQ:SW w [B1] U gv [mi,iI,.blk d7 39 cA,B7,bO,bH,.blk b3 28 B0,bU,gb] uk:=EQ
 refine bnK sj fun sY Cs Ga=>yD (j:=8) (enc:=KL.encI) (xs:=fw) (ys:=[w64 (cO + fH)]) (zs:=sY) rfl rfl rfl rfl rfl Tryz.underlying23 wJX rfl rfl rfl rfl rfl rfl rQ rfl rfl rfl (rQ.srcR (j:=0) rfl (by decide) (wAE (f:=KL.encI) (sz:=1) (fun _=>rfl) [w64 (cO + fH)])) (fun _=>rfl) (fun _=>rfl) Cs rfl ?_
 intro l6 pz ul ER
 have ES:SW w [B1] U gv [mi,iI,.blk d7 39 cA,B7,bO,bH,.blk b3 28 B0,bU,.row l6 pz 3 1 (nA KL.encI sY)] ul:=ER
 refine oA Z Z (zd (zm (zI (rR fL2 Z (oR Z (Zc (zU Z jC Z) (congrArg (jV) FS.out)) (oM Z Z (zd ?_)))))))
 cases Ga
 exact zI ⟨rfl,⟨gv,l5,py,l6,pz,rfl,qX,AG,AI,AJ,AL,AM,rfl,rfl,AQ,AS,AT,qY,qZ,(GT.trans GU),(ES.pick [1,3,4,5,6,7,8] _ (by decide) rfl),Cr⟩⟩
 rintro JR um ⟨HX,ma,pB,iE,jl,Bo,AU,AW,AX,AY,AZ,A3,IJ,A4,A5,A6,A7,IK,A8,sP,ET,Ct⟩
 have uJ:Hid (¬ ((↑(((↑aX.length:Int):Int) - 0).toNat:Int) < (↑aX.length:Int))):=zO (wBM)
 refine sR fL1 Z (oR Z (zP Z Bo A8) (eN (zN (cF Z uJ (ZX (zj (zj (ZN (zI (rR gBd Z (oM Z AZ (oM Z A4 ?_))))))))))))
 have q:=ET.freezeR (k:=6) (n:=cQ.length) rfl (wAE (f:=KL.encI) (sz:=1) (fun _=>rfl) cQ) (by decide)
 obtain ⟨dY,j9,Gi,EV⟩:=q
 let iJ:Res:=.blk ab 60 [.slice ma Hl.length pB,jV Hm,.int .u32 Hn]
 have EW:SW w [B1] U dY [iJ,B7,bO,bH,.blk b3 28 B0,bU] um:=EV
 let ge:List Value:=[.slice iE cQ.length jl]
 refine ZB (pv:=[(0,.slice iE cQ.length jl)]) (zs:=[.slice none 0 0]) (cs:=ge) Z Z Z Z Z (wAC Z wAV) Tryz.runUnderlying29 zy Tryz.zeroValue23 Z Z Z Z Z EW ?_
 intro uo uB EU
 have sv:RlL dY wSF [cQ] ge:=(RlL.cons (R:=wSF) (x:=cQ) (vs:=ge) ⟨iE,jl,rfl,Gi⟩ RlL.nil)
 let mj:Res:=.row (some ⟨uB,0,none⟩) 1 23 1 ge
 have rS:SW w [B1] U dY [mj,iJ,B7,bO,bH,.blk b3 28 B0,bU] uo:=EU
 refine bnK sh fun Hc Cu Gb=>?_
 have Cv:=Co.le sP
 have Cw:=Cv.le j9
 refine OKS.appendR (R:=wSF) (j:=6) (xs:=ft) (ys:=[cQ]) (zs:=Hc) rfl rfl rfl rfl rfl Tryz.underlying29 wTC rfl rfl rfl rfl rfl rfl rfl rS rfl rfl rfl Cw sv (rS.srcR (j:=0) rfl (by decide) (RlL.len sv)) Cu rfl ?_
 intro mb pC pJ up EX Gg
 have EY:SW w [B1] U dY [mj,iJ,B7,bO,bH,.blk b3 28 B0,.row mb pC 23 1 pJ] up:=EX
 refine oA Z Z (zd (zm (zI (rR fL2 Z (oR Z (Zc (zU Z A7 Z) (congrArg (jV) FR.out)) (oM Z Z (zd ?_)))))))
 cases Gb
 have Cx:=Ct.le j9
 exact zI ⟨rfl,⟨dY,ma,pB,mb,pC,pJ,rfl,AU,AW,AX,AY,rfl,A3,A5,A6,((GS.trans sP).trans j9),(EY.pick [1,2,3,4,5,6] _ (by decide) rfl),Cx,Gg⟩⟩
 rintro JT uq ⟨tj,s8,uK,bo,bp,uL,Bp,rc,A9,Ba,Bb,Bc,Bd,IL,Be,IR,E3,Cy,Cz⟩
 have uM:Hid (¬ ((↑(((↑aW.length:Int):Int) - 0).toNat:Int) < (↑aW.length:Int))):=zO (wBM)
 refine sR fL1 Z (oR Z (zP Z Bp Be) (eN (zN (cF Z uM (ZX (zj (zj (ZN (zI (zN (sR gAp Z (oM Z rc ?_))))))))))))
 have q:=bnd sg
 obtain ⟨⟨bA,lw⟩,CA,sm⟩:=q
 try dsimp only at sm
 refine zH 1 Z Z Z Z (zG Z Z ye (zB Z (zB Z (zB Z zM))) Z) E3 (fun hs=>wAf (⟨Hh,Hj,Hk⟩:wAB) ab s8 uK 1 3 uq tj hs Cy CA) (.inl Z) ?_
 rintro i9 HT Jg ur GV E4 ⟨mc,pD,rfl,rfl,CB⟩
 let am:Res:=.row bq br 39 2 (nA wAP aX)
 let aS:Res:=.row bo bp 23 1 uL
 have E5:SW w [B1] U i9 [.blk ab 60 [.slice mc lw.bytes.length pD,jV lw.next,.int .u32 lw.state],B7,am,bH,.blk b3 28 B0,aS] ur:=E4
 refine oM Z Z (eN (zf ?_))
 have q:=bnd sm
 obtain ⟨⟨Hr,Hs,Ht,bz,bD⟩,FJ,sn⟩:=q
 try dsimp only at sn
 have q:=wCe FJ
 obtain ⟨j6,FK⟩:=q
 replace j6:=zO j6
 refine CK.forN' (fun bt (fy,lx,ly,bC,bg) σ_ w_=>∃ (U_:PHeap) (fZ:Option Addr) (gN:Nat) (bN:Option Addr) (bP:Nat) (bh:Option Addr) (bi:Nat),σ_ 99=jV (↑bt:Int)/\σ_ 0=.pointer (some ⟨ab,0,none⟩)/\σ_ 3=jV p3/\σ_ 8=.pointer (some ⟨b3,0,none⟩)/\σ_ 11=.pointer (some ⟨b7,0,none⟩)/\σ_ 12=.slice bo bw.length bp/\σ_ 13=.slice bh bg.length bi/\σ_ 98=jV bA/\PHeap.Le i9 U_/\SW w [B1] U U_ [.blk ab 60 [.slice fZ fy.length gN,jV lx,.int .u32 ly],B7,am,.row bN bP 55 3 (nA wAA bC),.blk b7 28 [.slice bj aW.length bk,.slice bq aX.length br,.slice bN bC.length bP,.slice none 0 0],.blk b3 28 B0,aS,.row bh bi 3 1 (nA KL.encI bg)] w_/\Sl U_ 1 fZ gN fy.length (nA KL.encB8 fy)) FK ?_ ?_ ?_
 have E7:=E5.nilrow 55 3
 have E8:=E7.nilrow 3 1
 exact ⟨i9,mc,pD,none,0,none,0,rfl,rc,A9,Ba,Bb,Bc,Bd,rfl,(zK _),(E8.pick [2,3,4,1,5,6,7,0] _ (by decide) rfl),CB⟩
 rintro bt ⟨fy,lx,ly,bC,bg⟩ Jr JV ut jY ⟨tm,fZ,gN,bN,bP,bh,bi,cb,bJ,cq,cr,bQ,ct,bY,bZ,GX,E9,CD⟩ sF
 try dsimp only at sF
 have pE:Hid ((↑bt:Int) < bA):=zO (wBs jY)
 replace jY:=zO jY
 have FT:Hid (w64 ((↑bt:Int) + 1)=(↑(bt + 1):Int)):=zO (by have h1:=j6.out;have h2:=pE.out;rw [wAb] <;> omega)
 refine sR fL1 Z (oR Z (zP Z cb bZ) (eN (zN (cT Z pE (kN (zN (zf (sR gAp Z (oM Z bJ ?_)))))))))
 have q:=bnd sF
 obtain ⟨⟨aa,iu⟩,CE,so⟩:=q
 try dsimp only at so
 refine zH 1 Z Z Z Z (zG Z Z ye (zB Z (zB Z (zB Z zM))) Z) E9 (fun hs=>wAf (⟨fy,lx,ly⟩:wAB) ab fZ gN (-60) 20 ut tm hs CD CE) (.inl Z) ?_
 rintro mZ HU Jh oi GY Fb ⟨md,pF,rfl,rfl,CF⟩
 let aY:Res:=.blk b7 28 [.slice bj aW.length bk,.slice bq aX.length br,.slice bN bC.length bP,.slice none 0 0]
 let bb:Res:=.row bh bi 3 1 (nA KL.encI bg)
 let bI:Res:=.row bN bP 55 3 (nA wAA bC)
 have Fc:SW w [B1] U mZ [.blk ab 60 [.slice md iu.bytes.length pF,jV iu.next,.int .u32 iu.state],B7,am,bI,aY,.blk b3 28 B0,aS,bb] oi:=Fb
 refine oA Z Z (eN (sR (wDj (.fx 3 (fC4_6 (.fx 7 (.fl 8 (.fx 9 (.fx 10 .nil .stop) .stop)) .stop)) .stop)) Z (oM Z Z (oM Z Z (oM Z bJ ?_)))))
 have q:=bnd so
 obtain ⟨⟨ap,iv⟩,CG,sq⟩:=q
 try dsimp only at sq
 refine zH 1 Z Z Z Z (zG Z Z Zj (zB Z (zB Z zM)) Z) Fc (fun hs=>wAO iu ab md pF 50 oi mZ hs CF CG) (.inl Z) ?_
 rintro m4 HV Ji oj GZ Fd ⟨me,pG,rfl,rfl,CH⟩
 have Fe:SW w [B1] U m4 [.blk ab 60 [.slice me iv.bytes.length pG,jV iv.next,.int .u32 iv.state],B7,am,bI,aY,.blk b3 28 B0,aS,bb] oj:=Fd
 refine oR Z (zU Z Z Z) ?_
 let mn:List Value:=[jV aa,jV (w64 (aa + ap))]
 refine oR Z (zw (pv:=[(0,jV aa),(1,jV (w64 (aa + ap)))]) (z:=[jV 0,jV 0]) (cs:=mn) Z (wAC Z (wAC Z wAV)) Zv wFt Z Z) (oM Z bJ ?_)
 have q:=bnd sq
 obtain ⟨⟨av,fJ⟩,CI,ss⟩:=q
 try dsimp only at ss
 refine zH 1 Z Z Z Z (zG Z Z Zj (zB Z (zB Z zM)) Z) Fe (fun hs=>wAO iv ab me pG 6 oj m4 hs CH CI) (.inl Z) ?_
 rintro bf HW Jj uu G0 Ff ⟨iF,jm,rfl,rfl,rx⟩
 let bm:Res:=.blk ab 60 [.slice iF fJ.bytes.length jm,jV fJ.next,.int .u32 fJ.state]
 have Fg:SW w [B1] U bf [bm,B7,am,bI,aY,.blk b3 28 B0,aS,bb] uu:=Ff
 let au:List Value:=[jV aa,jV (w64 (aa + ap)),jV av]
 let cY:List Value:=[jV 0,jV 0,jV 0]
 refine oR Z (zw (pv:=[(0,.agg mn.toArray),(1,jV av)]) (z:=cY) (cs:=au) Z (wAC Z (wAC Z wAV)) yW wPb Z Z) (zX (cs:=cY) Z Z Z Z Z yW Z Fg ?_)
 intro Ii ai Fh
 refine ze (j:=0) (vs:=au) Z Z Z Z Fh Z Z Z Z Zo (zA Z) Z Z Z ?_
 intro jd Fi
 have Fj:SW w [B1] U bf [.blk ai 55 au,bm,B7,am,bI,aY,.blk b3 28 B0,aS,bb] jd:=Fi
 refine eN (bnK ss fun aV gX Gc=>?_)
 have q:=bnd Gc
 obtain ⟨⟨bv,az⟩,ry,su⟩:=q
 try dsimp only at su
 refine bnK su fun cP CJ Gd=>zt zq [3,1,1,2,0,3,3,3,3,2,3,3,2,0,2,0,3,0,3] (wDj (fC5_8 (.fl 10 (.fl 11 (.fx 3 (.fx 4 (.fl 16 (.fx 9 gBg (.fx 12 gBh .stop))) (.fx 9 gBk (.fx 12 gBl .stop))) (.fx 9 (.fx 3 gBk (.fx 12 gBj .stop)) (.fx 12 (.fx 3 gBl (.fx 9 gBj .stop)) .stop))))))) (by kernel_rfl) ?_
 have bK:=Fj.drew
 generalize hw_W923:({ jd with drawn:=jd.drawn + 1 }:World)=Ij at bK ⊢
 refine zx (s:=.fl 18 .nil) (M:=fun σ_ w_=>∃ (U_:PHeap) (fK:Option Addr) (gz:Nat) (dy:Option Addr) (d9:Nat) (iw:Option Addr) (je:Nat) (iz:Option Addr) (jf:Nat) (fL:Option Addr) (gA:Nat),σ_ 0=.pointer (some ⟨ab,0,none⟩)/\σ_ 3=jV p3/\σ_ 8=.pointer (some ⟨b3,0,none⟩)/\σ_ 11=.pointer (some ⟨b7,0,none⟩)/\σ_ 12=.slice bo bw.length bp/\σ_ 21=.pointer (some ⟨ai,0,none⟩)/\σ_ 98=jV bA/\σ_ 99=jV (↑bt:Int)/\σ_ 112=.pointer (some ⟨b7,2,none⟩)/\σ_ 114=.agg au.toArray/\σ_ 115=.slice iw ([(⟨(⟨aa,w64 (aa + ap)⟩:wAH),av⟩:wAI)].length) je/\σ_ 116=.slice dy aV.length d9/\σ_ 118=.pointer (some ⟨ab,0,none⟩)/\σ_ 119=.pointer (some ⟨ai,0,none⟩)/\σ_ 120=.pointer (some ⟨ai,0,none⟩)/\σ_ 121=jV aa/\σ_ 122=.pointer (some ⟨ai,0,none⟩)/\σ_ 123=.pointer (some ⟨ai,1,none⟩)/\σ_ 124=jV (w64 (aa + ap))/\σ_ 125=jV bv/\σ_ 126=.slice iz ([bv].length) jf/\σ_ 127=.slice fL cP.length gA/\σ_ 128=.pointer (some ⟨b7,2,none⟩)/\PHeap.Le bf U_/\SW w [B1] U U_ [.blk ab 60 [.slice fK az.bytes.length gz,jV az.next,.int .u32 az.state],.blk ai 55 au,B7,am,.row dy d9 55 3 (nA wAA aV),.blk b7 28 [.slice bj aW.length bk,.slice bq aX.length br,.slice dy aV.length d9,.slice none 0 0],.blk b3 28 B0,aS,.row iw je 55 3 (nA wAA [(⟨(⟨aa,w64 (aa + ap)⟩:wAH),av⟩:wAI)]),.row iz jf 3 1 (nA KL.encI [bv]),.row fL gA 3 1 (nA KL.encI cP)] w_/\Sl U_ 1 fK gz az.bytes.length (nA KL.encB8 az.bytes)) ?_ fun Gk=>?_
 rintro Jw HZ ⟨s9,fK,gz,dy,d9,iw,je,iz,jf,fL,gA,uN,uO,uP,uQ,uR,Ir,uS,uT,Is,It,Iu,Iv,Iw,Ix,Iy,Iz,IA,IB,IC,ID,IE,uU,IF,Gr,CT,Bq⟩
 refine oA Z uU (zd (zm (zI (rR fL2 Z (oR Z (Zc (zU Z uT Z) (congrArg (jV) FT.out)) (oM Z Z (zd ?_)))))))
 cases Gd
 exact zI ⟨rfl,⟨s9,fK,gz,dy,d9,fL,gA,rfl,uN,uO,uP,uQ,uR,rfl,uS,((((GX.trans GY).trans GZ).trans G0).trans Gr),(CT.pick [0,2,3,4,5,6,7,10] _ (by decide) rfl),Bq⟩⟩
 refine zx (s:=gAj) (M:=fun σ_ w_=>∃ (U_:PHeap) (dz:Option Addr) (eg:Nat) (dA:Option Addr) (eh:Nat) (cz:Option Addr) (cC:Nat) (dB:Option Addr) (eu:Nat) (dC:Option Addr) (eA:Nat),σ_ 0=.pointer (some ⟨ab,0,none⟩)/\σ_ 3=jV p3/\σ_ 8=.pointer (some ⟨b3,0,none⟩)/\σ_ 11=.pointer (some ⟨b7,0,none⟩)/\σ_ 12=.slice bo bw.length bp/\σ_ 21=.pointer (some ⟨ai,0,none⟩)/\σ_ 98=jV bA/\σ_ 99=jV (↑bt:Int)/\σ_ 112=.pointer (some ⟨b7,2,none⟩)/\σ_ 114=.agg au.toArray/\σ_ 115=.slice dA ([(⟨(⟨aa,w64 (aa + ap)⟩:wAH),av⟩:wAI)].length) eh/\σ_ 116=.slice cz aV.length cC/\σ_ 118=.pointer (some ⟨ab,0,none⟩)/\σ_ 119=.pointer (some ⟨ai,0,none⟩)/\σ_ 120=.pointer (some ⟨ai,0,none⟩)/\σ_ 121=jV aa/\σ_ 122=.pointer (some ⟨ai,0,none⟩)/\σ_ 123=.pointer (some ⟨ai,1,none⟩)/\σ_ 124=jV (w64 (aa + ap))/\σ_ 125=jV bv/\σ_ 126=.slice dB ([bv].length) eu/\σ_ 127=.slice dC cP.length eA/\σ_ 128=.pointer (some ⟨b7,2,none⟩)/\PHeap.Le bf U_/\SW w [B1] U U_ [.blk ab 60 [.slice dz az.bytes.length eg,jV az.next,.int .u32 az.state],.blk ai 55 au,B7,am,aY,.blk b3 28 B0,aS,.row dA eh 55 3 (nA wAA [(⟨(⟨aa,w64 (aa + ap)⟩:wAH),av⟩:wAI)]),.row cz cC 55 3 (nA wAA aV),.row dB eu 3 1 (nA KL.encI [bv]),.row dC eA 3 1 (nA KL.encI cP)] w_/\Sl U_ 1 dz eg az.bytes.length (nA KL.encB8 az.bytes)) ?_ fun Gl=>?_
 rintro Jx H0 ⟨mI,dz,eg,dA,eh,cz,cC,dB,eu,dC,eA,uV,uW,uX,uY,uZ,u5,u6,u7,u9,va,vb,pK,vc,vd,ve,vg,vh,vi,vj,vk,vl,vm,pL,Gs,CU,Br⟩
 refine ze (j:=4) (vs:=[.slice cz aV.length cC]) Z Z Z Z CU Z pL pK Z Zl (zA Z) Z Z Z ?_
 intro tn CV
 have CW:SW w [B1] U mI [.blk ab 60 [.slice dz az.bytes.length eg,jV az.next,.int .u32 az.state],.blk ai 55 au,B7,am,.blk b7 28 [.slice bj aW.length bk,.slice bq aX.length br,.slice cz aV.length cC,.slice none 0 0],.blk b3 28 B0,aS,.row dA eh 55 3 (nA wAA [(⟨(⟨aa,w64 (aa + ap)⟩:wAH),av⟩:wAI)]),.row cz cC 55 3 (nA wAA aV),.row dB eu 3 1 (nA KL.encI [bv]),.row dC eA 3 1 (nA KL.encI cP)] tn:=CV
 exact Gk _ _ ⟨mI,dz,eg,cz,cC,dA,eh,dB,eu,dC,eA,uV,uW,uX,uY,uZ,u5,u6,u7,u9,va,vb,pK,vc,vd,ve,vg,vh,vi,vj,vk,vl,vm,pL,Gs,(CW.pick [0,1,2,3,8,4,5,6,7,9,10] _ (by decide) rfl),Br⟩
 refine zx (s:=gAq) (M:=fun σ_ w_=>∃ (U_:PHeap) (dD:Option Addr) (eD:Nat) (dE:Option Addr) (eE:Nat) (dF:Option Addr) (eF:Nat) (dG:Option Addr) (eH:Nat),σ_ 0=.pointer (some ⟨ab,0,none⟩)/\σ_ 3=jV p3/\σ_ 8=.pointer (some ⟨b3,0,none⟩)/\σ_ 11=.pointer (some ⟨b7,0,none⟩)/\σ_ 12=.slice bo bw.length bp/\σ_ 13=.slice bh bg.length bi/\σ_ 21=.pointer (some ⟨ai,0,none⟩)/\σ_ 98=jV bA/\σ_ 99=jV (↑bt:Int)/\σ_ 112=.pointer (some ⟨b7,2,none⟩)/\σ_ 114=.agg au.toArray/\σ_ 115=.slice dE ([(⟨(⟨aa,w64 (aa + ap)⟩:wAH),av⟩:wAI)].length) eE/\σ_ 116=.slice dF aV.length eF/\σ_ 117=.slice bh bg.length bi/\σ_ 118=.pointer (some ⟨ab,0,none⟩)/\σ_ 119=.pointer (some ⟨ai,0,none⟩)/\σ_ 120=.pointer (some ⟨ai,0,none⟩)/\σ_ 121=jV aa/\σ_ 122=.pointer (some ⟨ai,0,none⟩)/\σ_ 123=.pointer (some ⟨ai,1,none⟩)/\σ_ 124=jV (w64 (aa + ap))/\σ_ 125=jV bv/\σ_ 126=.slice dG ([bv].length) eH/\σ_ 128=.pointer (some ⟨b7,2,none⟩)/\PHeap.Le bf U_/\SW w [B1] U U_ [.blk ab 60 [.slice dD az.bytes.length eD,jV az.next,.int .u32 az.state],.blk ai 55 au,B7,am,aY,.blk b3 28 B0,aS,bb,.row dE eE 55 3 (nA wAA [(⟨(⟨aa,w64 (aa + ap)⟩:wAH),av⟩:wAI)]),.row dF eF 55 3 (nA wAA aV),.row dG eH 3 1 (nA KL.encI [bv])] w_/\Sl U_ 1 dD eD az.bytes.length (nA KL.encB8 az.bytes)) ?_ fun Gm=>?_
 rintro Jy H1 ⟨mJ,dD,eD,dE,eE,dF,eF,dG,eH,vn,vo,vp,vq,vr,IG,vt,vu,vv,vw,vx,vy,vz,vA,vB,vC,vD,vE,vF,vG,vH,vJ,pM,vK,Gt,rD,Bt⟩
 refine yD (j:=7) (enc:=KL.encI) (xs:=bg) (ys:=[bv]) (zs:=cP) rfl rfl rfl rfl rfl Tryz.underlying23 wJX rfl rfl rfl rfl rfl rfl rD rfl vA pM (rD.srcR (j:=10) rfl (by decide) (wAE (f:=KL.encI) (sz:=1) (fun _=>rfl) [bv])) (fun _=>rfl) (fun _=>rfl) CJ rfl ?_
 intro lF oH tp CX
 have CY:SW w [B1] U mJ [.blk ab 60 [.slice dD az.bytes.length eD,jV az.next,.int .u32 az.state],.blk ai 55 au,B7,am,aY,.blk b3 28 B0,aS,.row lF oH 3 1 (nA KL.encI cP),.row dE eE 55 3 (nA wAA [(⟨(⟨aa,w64 (aa + ap)⟩:wAH),av⟩:wAI)]),.row dF eF 55 3 (nA wAA aV),.row dG eH 3 1 (nA KL.encI [bv])] tp:=CX
 exact Gl _ _ ⟨mJ,dD,eD,dE,eE,dF,eF,dG,eH,lF,oH,vn,vo,vp,vq,vr,vt,vu,vv,vw,vx,vy,vz,vB,vC,vD,vE,vF,vG,vH,vJ,pM,rfl,vK,Gt,(CY.pick [0,1,2,3,4,5,6,8,9,10,7] _ (by decide) rfl),Bt⟩
 refine zx (s:=gAy) (M:=fun σ_ w_=>∃ (U_:PHeap) (dH:Option Addr) (eI:Nat) (dI:Option Addr) (eJ:Nat) (dJ:Option Addr) (eK:Nat),σ_ 0=.pointer (some ⟨ab,0,none⟩)/\σ_ 3=jV p3/\σ_ 8=.pointer (some ⟨b3,0,none⟩)/\σ_ 11=.pointer (some ⟨b7,0,none⟩)/\σ_ 12=.slice bo bw.length bp/\σ_ 13=.slice bh bg.length bi/\σ_ 21=.pointer (some ⟨ai,0,none⟩)/\σ_ 98=jV bA/\σ_ 99=jV (↑bt:Int)/\σ_ 112=.pointer (some ⟨b7,2,none⟩)/\σ_ 114=.agg au.toArray/\σ_ 115=.slice dI ([(⟨(⟨aa,w64 (aa + ap)⟩:wAH),av⟩:wAI)].length) eJ/\σ_ 116=.slice dJ aV.length eK/\σ_ 117=.slice bh bg.length bi/\σ_ 118=.pointer (some ⟨ab,0,none⟩)/\σ_ 119=.pointer (some ⟨ai,0,none⟩)/\σ_ 120=.pointer (some ⟨ai,0,none⟩)/\σ_ 121=jV aa/\σ_ 122=.pointer (some ⟨ai,0,none⟩)/\σ_ 123=.pointer (some ⟨ai,1,none⟩)/\σ_ 124=jV (w64 (aa + ap))/\σ_ 125=jV bv/\σ_ 128=.pointer (some ⟨b7,2,none⟩)/\PHeap.Le bf U_/\SW w [B1] U U_ [.blk ab 60 [.slice dH az.bytes.length eI,jV az.next,.int .u32 az.state],.blk ai 55 au,B7,am,aY,.blk b3 28 B0,aS,bb,.row dI eJ 55 3 (nA wAA [(⟨(⟨aa,w64 (aa + ap)⟩:wAH),av⟩:wAI)]),.row dJ eK 55 3 (nA wAA aV)] w_/\Sl U_ 1 dH eI az.bytes.length (nA KL.encB8 az.bytes)) ?_ fun sG=>?_
 rintro Jz H2 ⟨mK,dH,eI,dI,eJ,dJ,eK,vL,vM,vN,vO,vP,vQ,vR,vS,vT,vU,vV,vW,vX,vY,vZ,wa,wb,wc,wd,we,wg,pN,wh,Gu,CZ,Bu⟩
 refine ZB (pv:=[(0,jV bv)]) (zs:=[jV 0]) (cs:=[jV bv]) Z Z Z Z Z (wAC pN wAV) zD zC ZC Z Z Z Z Z CZ ?_
 intro tq ol C0
 have C1:SW w [B1] U mK [.row (some ⟨ol,0,none⟩) 1 3 1 (nA KL.encI [bv]),.blk ab 60 [.slice dH az.bytes.length eI,jV az.next,.int .u32 az.state],.blk ai 55 au,B7,am,aY,.blk b3 28 B0,aS,bb,.row dI eJ 55 3 (nA wAA [(⟨(⟨aa,w64 (aa + ap)⟩:wAH),av⟩:wAI)]),.row dJ eK 55 3 (nA wAA aV)] tq:=C0
 exact Gm _ _ ⟨mK,dH,eI,dI,eJ,dJ,eK,(some ⟨ol,0,none⟩),1,vL,vM,vN,vO,vP,vQ,vR,vS,vT,vU,vV,vW,vX,vY,vZ,wa,wb,wc,wd,we,wg,pN,rfl,wh,Gu,(C1.pick [1,2,3,4,5,6,7,8,9,10,0] _ (by decide) rfl),Bu⟩
 refine zx (s:=gBe) (M:=fun σ_ w_=>∃ (U_:PHeap) (dK:Option Addr) (eL:Nat) (dL:Option Addr) (eM:Nat),σ_ 0=.pointer (some ⟨ab,0,none⟩)/\σ_ 3=jV p3/\σ_ 8=.pointer (some ⟨b3,0,none⟩)/\σ_ 11=.pointer (some ⟨b7,0,none⟩)/\σ_ 12=.slice bo bw.length bp/\σ_ 13=.slice bh bg.length bi/\σ_ 21=.pointer (some ⟨ai,0,none⟩)/\σ_ 98=jV bA/\σ_ 99=jV (↑bt:Int)/\σ_ 112=.pointer (some ⟨b7,2,none⟩)/\σ_ 114=.agg au.toArray/\σ_ 115=.slice dK ([(⟨(⟨aa,w64 (aa + ap)⟩:wAH),av⟩:wAI)].length) eL/\σ_ 116=.slice dL aV.length eM/\σ_ 117=.slice bh bg.length bi/\σ_ 118=.pointer (some ⟨ab,0,none⟩)/\σ_ 119=.pointer (some ⟨ai,0,none⟩)/\σ_ 120=.pointer (some ⟨ai,0,none⟩)/\σ_ 121=jV aa/\σ_ 122=.pointer (some ⟨ai,0,none⟩)/\σ_ 123=.pointer (some ⟨ai,1,none⟩)/\σ_ 124=jV (w64 (aa + ap))/\σ_ 128=.pointer (some ⟨b7,2,none⟩)/\PHeap.Le bf U_/\SW w [B1] U U_ [.blk ai 55 au,bm,B7,am,aY,.blk b3 28 B0,aS,bb,.row dK eL 55 3 (nA wAA [(⟨(⟨aa,w64 (aa + ap)⟩:wAH),av⟩:wAI)]),.row dL eM 55 3 (nA wAA aV)] w_) ?_ fun g8=>?_
 rintro JA m5 ⟨mL,dK,eL,dL,eM,wi,wj,wk,wl,wn,wo,wp,wq,wt,wu,wv,ww,wx,wy,pO,wz,wA,pP,wB,wC,pQ,wD,sK,C2⟩
 have Bv:=rx.le sK
 let mo:Res:=.row dK eL 55 3 (nA wAA [(⟨(⟨aa,w64 (aa + ap)⟩:wAH),av⟩:wAI)])
 let mp:Res:=.row dL eM 55 3 (nA wAA aV)
 have C3:SW w [B1] U mL [bm,.blk ai 55 au,B7,am,aY,.blk b3 28 B0,aS,bb,mo,mp] m5:=C2.pick [1,0,2,3,4,5,6,7,8,9] _ (by decide) rfl
 refine zH 1 Z Z Z Z (zG Z Z ye (zB pO (zB pP (zB pQ zM))) Z) C3 (fun hs=>wAf fJ ab iF jm aa (w64 (aa + ap)) m5 mL hs Bv ry) (.inl Z) ?_
 rintro mM Hu IU tr Gw C4 ⟨lG,oI,rfl,rfl,Bw⟩
 have C5:SW w [B1] U mM [.blk ab 60 [.slice lG az.bytes.length oI,jV az.next,.int .u32 az.state],.blk ai 55 au,B7,am,aY,.blk b3 28 B0,aS,bb,mo,mp] tr:=C4
 exact sG _ _ ⟨mM,lG,oI,dK,eL,dL,eM,wi,wj,wk,wl,wn,wo,wp,wq,wt,wu,wv,ww,wx,wy,pO,wz,wA,pP,wB,wC,pQ,Z,wD,(sK.trans Gw),C5,Bw⟩
 refine zx (s:=.fl 16 gBe) (M:=fun σ_ w_=>∃ (U_:PHeap) (dM:Option Addr) (eO:Nat) (dN:Option Addr) (eQ:Nat),σ_ 0=.pointer (some ⟨ab,0,none⟩)/\σ_ 3=jV p3/\σ_ 8=.pointer (some ⟨b3,0,none⟩)/\σ_ 11=.pointer (some ⟨b7,0,none⟩)/\σ_ 12=.slice bo bw.length bp/\σ_ 13=.slice bh bg.length bi/\σ_ 21=.pointer (some ⟨ai,0,none⟩)/\σ_ 98=jV bA/\σ_ 99=jV (↑bt:Int)/\σ_ 112=.pointer (some ⟨b7,2,none⟩)/\σ_ 114=.agg au.toArray/\σ_ 115=.slice dM ([(⟨(⟨aa,w64 (aa + ap)⟩:wAH),av⟩:wAI)].length) eO/\σ_ 116=.slice dN aV.length eQ/\σ_ 117=.slice bh bg.length bi/\σ_ 118=.pointer (some ⟨ab,0,none⟩)/\σ_ 119=.pointer (some ⟨ai,0,none⟩)/\σ_ 120=.pointer (some ⟨ai,0,none⟩)/\σ_ 121=jV aa/\σ_ 122=.pointer (some ⟨ai,0,none⟩)/\σ_ 123=.pointer (some ⟨ai,1,none⟩)/\σ_ 124=jV (w64 (aa + ap))/\PHeap.Le bf U_/\SW w [B1] U U_ [.blk ai 55 au,bm,B7,am,aY,.blk b3 28 B0,aS,bb,.row dM eO 55 3 (nA wAA [(⟨(⟨aa,w64 (aa + ap)⟩:wAH),av⟩:wAI)]),.row dN eQ 55 3 (nA wAA aV)] w_) ?_ fun Gn=>?_
 rintro JB m6 ⟨mN,dM,eO,dN,eQ,wE,wG,wH,pR,wI,wJ,wK,wL,wM,wN,wO,wP,wQ,wR,pS,wS,wU,pT,wV,wW,pU,sL,C6⟩
 refine oR Z (zJ Z pR zQ Z Zl) ?_
 have Bx:=rx.le sL
 let mq:Res:=.row dM eO 55 3 (nA wAA [(⟨(⟨aa,w64 (aa + ap)⟩:wAH),av⟩:wAI)])
 let mr:Res:=.row dN eQ 55 3 (nA wAA aV)
 have C7:SW w [B1] U mN [bm,.blk ai 55 au,B7,am,aY,.blk b3 28 B0,aS,bb,mq,mr] m6:=C6.pick [1,0,2,3,4,5,6,7,8,9] _ (by decide) rfl
 refine zH 1 Z Z Z Z (zG Z Z ye (zB pS (zB pT (zB pU zM))) Z) C7 (fun hs=>wAf fJ ab iF jm aa (w64 (aa + ap)) m6 mN hs Bx ry) (.inl Z) ?_
 rintro mO Hv IV tu Gx C8 ⟨lH,oK,rfl,rfl,By⟩
 have C9:SW w [B1] U mO [.blk ab 60 [.slice lH az.bytes.length oK,jV az.next,.int .u32 az.state],.blk ai 55 au,B7,am,aY,.blk b3 28 B0,aS,bb,mq,mr] tu:=C8
 exact sG _ _ ⟨mO,lH,oK,dM,eO,dN,eQ,wE,wG,wH,pR,wI,wJ,wK,wL,wM,wN,wO,wP,wQ,wR,pS,wS,wU,pT,wV,wW,pU,Z,Z,(sL.trans Gx),C9,By⟩
 refine zx (s:=.fl 16 gBh) (M:=fun σ_ w_=>∃ (U_:PHeap) (fM:Option Addr) (gB:Nat) (fN:Option Addr) (gC:Nat),σ_ 0=.pointer (some ⟨ab,0,none⟩)/\σ_ 3=jV p3/\σ_ 8=.pointer (some ⟨b3,0,none⟩)/\σ_ 11=.pointer (some ⟨b7,0,none⟩)/\σ_ 12=.slice bo bw.length bp/\σ_ 13=.slice bh bg.length bi/\σ_ 21=.pointer (some ⟨ai,0,none⟩)/\σ_ 98=jV bA/\σ_ 99=jV (↑bt:Int)/\σ_ 112=.pointer (some ⟨b7,2,none⟩)/\σ_ 114=.agg au.toArray/\σ_ 115=.slice fM ([(⟨(⟨aa,w64 (aa + ap)⟩:wAH),av⟩:wAI)].length) gB/\σ_ 116=.slice fN aV.length gC/\σ_ 117=.slice bh bg.length bi/\σ_ 118=.pointer (some ⟨ab,0,none⟩)/\σ_ 119=.pointer (some ⟨ai,0,none⟩)/\σ_ 120=.pointer (some ⟨ai,0,none⟩)/\σ_ 122=.pointer (some ⟨ai,0,none⟩)/\σ_ 123=.pointer (some ⟨ai,1,none⟩)/\σ_ 124=jV (w64 (aa + ap))/\PHeap.Le bf U_/\SW w [B1] U U_ [.blk ai 55 au,bm,B7,am,aY,.blk b3 28 B0,aS,bb,.row fM gB 55 3 (nA wAA [(⟨(⟨aa,w64 (aa + ap)⟩:wAH),av⟩:wAI)]),.row fN gC 55 3 (nA wAA aV)] w_) ?_ fun Gp=>?_
 rintro JC H3 ⟨tc,fM,gB,fN,gC,wX,wY,wZ,pV,w5,w6,w7,w8,w9,xa,xb,xc,xd,xe,xf,xg,pW,xh,xi,xj,Gy,rE⟩
 exact oR Z (zJ Z pV zQ Z Zl) (zu Z Z Z Z (rE.ldB (j:=0) Z Z pW zE (v:=jV aa) Z) (g8 _ _ ⟨tc,fM,gB,fN,gC,wX,wY,wZ,pV,w5,w6,w7,w8,w9,xa,xb,xc,xd,xe,xf,xg,pW,Z,xh,xi,xj,Z,Gy,rE⟩))
 refine zx (s:=gBi) (M:=fun σ_ w_=>∃ (U_:PHeap) (dO:Option Addr) (eU:Nat),σ_ 0=.pointer (some ⟨ab,0,none⟩)/\σ_ 3=jV p3/\σ_ 8=.pointer (some ⟨b3,0,none⟩)/\σ_ 11=.pointer (some ⟨b7,0,none⟩)/\σ_ 12=.slice bo bw.length bp/\σ_ 13=.slice bh bg.length bi/\σ_ 21=.pointer (some ⟨ai,0,none⟩)/\σ_ 98=jV bA/\σ_ 99=jV (↑bt:Int)/\σ_ 112=.pointer (some ⟨b7,2,none⟩)/\σ_ 113=.slice bN bC.length bP/\σ_ 114=.agg au.toArray/\σ_ 115=.slice dO ([(⟨(⟨aa,w64 (aa + ap)⟩:wAH),av⟩:wAI)].length) eU/\σ_ 117=.slice bh bg.length bi/\σ_ 118=.pointer (some ⟨ab,0,none⟩)/\σ_ 119=.pointer (some ⟨ai,0,none⟩)/\σ_ 120=.pointer (some ⟨ai,0,none⟩)/\σ_ 121=jV aa/\σ_ 122=.pointer (some ⟨ai,0,none⟩)/\σ_ 123=.pointer (some ⟨ai,1,none⟩)/\σ_ 124=jV (w64 (aa + ap))/\PHeap.Le bf U_/\SW w [B1] U U_ [.blk ai 55 au,bm,B7,am,bI,aY,.blk b3 28 B0,aS,bb,.row dO eU 55 3 (nA wAA [(⟨(⟨aa,w64 (aa + ap)⟩:wAH),av⟩:wAI)])] w_) ?_ fun j7=>?_
 rintro JD H4 ⟨mP,dO,eU,xk,xl,xm,xn,xo,xp,xq,xr,xt,xu,xw,xx,pX,xz,xA,xB,xC,xD,xE,xF,xG,Gz,rF⟩
 refine yD (j:=4) (enc:=wAA) (xs:=bC) (ys:=[(⟨(⟨aa,w64 (aa + ap)⟩:wAH),av⟩:wAI)]) (zs:=aV) rfl rfl rfl rfl rfl Tryz.underlying25 wLi rfl rfl rfl rfl rfl rfl rF rfl xw pX (rF.srcR (j:=9) rfl (by decide) (wAE (f:=wAA) (sz:=3) (fun _=>rfl) [(⟨(⟨aa,w64 (aa + ap)⟩:wAH),av⟩:wAI)])) (fun _=>rfl) (fun _=>rfl) gX rfl ?_
 intro lI oO tw Db
 have Dc:SW w [B1] U mP [.blk ai 55 au,bm,B7,am,.row lI oO 55 3 (nA wAA aV),aY,.blk b3 28 B0,aS,bb,.row dO eU 55 3 (nA wAA [(⟨(⟨aa,w64 (aa + ap)⟩:wAH),av⟩:wAI)])] tw:=Db
 exact Gn _ _ ⟨mP,dO,eU,lI,oO,xk,xl,xm,xn,xo,xp,xq,xr,xt,xu,xx,pX,rfl,xz,xA,xB,xC,xD,xE,xF,xG,Gz,(Dc.pick [0,1,2,3,5,6,7,8,9,4] _ (by decide) rfl)⟩
 refine zx (s:=.fl 16 gBg) (M:=fun σ_ w_=>∃ (U_:PHeap) (fO:Option Addr) (gD:Nat) (fP:Option Addr) (gE:Nat),σ_ 0=.pointer (some ⟨ab,0,none⟩)/\σ_ 3=jV p3/\σ_ 8=.pointer (some ⟨b3,0,none⟩)/\σ_ 11=.pointer (some ⟨b7,0,none⟩)/\σ_ 12=.slice bo bw.length bp/\σ_ 13=.slice bh bg.length bi/\σ_ 21=.pointer (some ⟨ai,0,none⟩)/\σ_ 98=jV bA/\σ_ 99=jV (↑bt:Int)/\σ_ 112=.pointer (some ⟨b7,2,none⟩)/\σ_ 114=.agg au.toArray/\σ_ 115=.slice fO ([(⟨(⟨aa,w64 (aa + ap)⟩:wAH),av⟩:wAI)].length) gD/\σ_ 116=.slice fP aV.length gE/\σ_ 117=.slice bh bg.length bi/\σ_ 118=.pointer (some ⟨ab,0,none⟩)/\σ_ 119=.pointer (some ⟨ai,0,none⟩)/\σ_ 120=.pointer (some ⟨ai,0,none⟩)/\σ_ 121=jV aa/\σ_ 122=.pointer (some ⟨ai,0,none⟩)/\σ_ 123=.pointer (some ⟨ai,1,none⟩)/\PHeap.Le bf U_/\SW w [B1] U U_ [.blk ai 55 au,bm,B7,am,aY,.blk b3 28 B0,aS,bb,.row fO gD 55 3 (nA wAA [(⟨(⟨aa,w64 (aa + ap)⟩:wAH),av⟩:wAI)]),.row fP gE 55 3 (nA wAA aV)] w_) ?_ fun Gq=>?_
 rintro JE H5 ⟨td,fO,gD,fP,gE,xH,xI,xJ,pY,xK,xL,xM,xN,xO,xP,xR,xS,xT,xU,xV,xW,xX,xY,xZ,pZ,GA,rG⟩
 exact oR Z (zJ Z pY zQ Z Zl) (zu Z Z Z Z (rG.ldB (j:=0) Z Z pZ zE (v:=jV (w64 (aa + ap))) Z) (g8 _ _ ⟨td,fO,gD,fP,gE,xH,xI,xJ,pY,xK,xL,xM,xN,xO,xP,xR,xS,xT,xU,xV,xW,xX,xY,xZ,pZ,Z,Z,GA,rG⟩))
 refine zx (s:=gBj) (M:=fun σ_ w_=>∃ (U_:PHeap),σ_ 0=.pointer (some ⟨ab,0,none⟩)/\σ_ 3=jV p3/\σ_ 8=.pointer (some ⟨b3,0,none⟩)/\σ_ 11=.pointer (some ⟨b7,0,none⟩)/\σ_ 12=.slice bo bw.length bp/\σ_ 13=.slice bh bg.length bi/\σ_ 21=.pointer (some ⟨ai,0,none⟩)/\σ_ 98=jV bA/\σ_ 99=jV (↑bt:Int)/\σ_ 112=.pointer (some ⟨b7,2,none⟩)/\σ_ 113=.slice bN bC.length bP/\σ_ 114=.agg au.toArray/\σ_ 117=.slice bh bg.length bi/\σ_ 118=.pointer (some ⟨ab,0,none⟩)/\σ_ 119=.pointer (some ⟨ai,0,none⟩)/\σ_ 120=.pointer (some ⟨ai,0,none⟩)/\σ_ 121=jV aa/\σ_ 122=.pointer (some ⟨ai,0,none⟩)/\σ_ 123=.pointer (some ⟨ai,1,none⟩)/\σ_ 124=jV (w64 (aa + ap))/\PHeap.Le bf U_/\SW w [B1] U U_ [.blk ai 55 au,bm,B7,am,bI,aY,.blk b3 28 B0,aS,bb] w_) ?_ fun sH=>?_
 rintro JF H6 ⟨mR,x7,x8,yh,yi,yj,yl,ym,yn,yo,yp,yq,p6,yr,yt,yu,yv,yw,yy,y4,y5,GB,Dd⟩
 refine ZB (pv:=[(0,.agg au.toArray)]) (zs:=cY) (cs:=au) Z Z Z Z Z (wAC p6 wAV) Za Zo yW Z Z Z Z Z Dd ?_
 intro tz om Df
 have Dg:SW w [B1] U mR [.row (some ⟨om,0,none⟩) 1 55 3 (nA wAA [(⟨(⟨aa,w64 (aa + ap)⟩:wAH),av⟩:wAI)]),.blk ai 55 au,bm,B7,am,bI,aY,.blk b3 28 B0,aS,bb] tz:=Df
 exact j7 _ _ ⟨mR,(some ⟨om,0,none⟩),1,x7,x8,yh,yi,yj,yl,ym,yn,yo,yp,yq,p6,rfl,yr,yt,yu,yv,yw,yy,y4,y5,GB,(Dg.pick [1,2,3,4,5,6,7,8,9,0] _ (by decide) rfl)⟩
 refine zx (s:=gBl) (M:=fun σ_ w_=>∃ (U_:PHeap) (cR:Option Addr) (de:Nat),σ_ 0=.pointer (some ⟨ab,0,none⟩)/\σ_ 3=jV p3/\σ_ 8=.pointer (some ⟨b3,0,none⟩)/\σ_ 11=.pointer (some ⟨b7,0,none⟩)/\σ_ 12=.slice bo bw.length bp/\σ_ 13=.slice bh bg.length bi/\σ_ 21=.pointer (some ⟨ai,0,none⟩)/\σ_ 98=jV bA/\σ_ 99=jV (↑bt:Int)/\σ_ 112=.pointer (some ⟨b7,2,none⟩)/\σ_ 113=.slice bN bC.length bP/\σ_ 114=.agg au.toArray/\σ_ 115=.slice cR ([(⟨(⟨aa,w64 (aa + ap)⟩:wAH),av⟩:wAI)].length) de/\σ_ 117=.slice bh bg.length bi/\σ_ 118=.pointer (some ⟨ab,0,none⟩)/\σ_ 119=.pointer (some ⟨ai,0,none⟩)/\σ_ 120=.pointer (some ⟨ai,0,none⟩)/\σ_ 122=.pointer (some ⟨ai,0,none⟩)/\σ_ 123=.pointer (some ⟨ai,1,none⟩)/\σ_ 124=jV (w64 (aa + ap))/\PHeap.Le bf U_/\SW w [B1] U U_ [.blk ai 55 au,bm,B7,am,bI,aY,.blk b3 28 B0,aS,bb,.row cR de 55 3 (nA wAA [(⟨(⟨aa,w64 (aa + ap)⟩:wAH),av⟩:wAI)])] w_) ?_ fun sI=>?_
 rintro JG H7 ⟨iR,cR,de,p7,p8,p9,qa,qb,qc,qd,qe,qf,qh,qi,qj,jo,qk,qm,qn,jp,qo,qp,qq,sM,g6⟩
 refine zi ?_ ?_
 refine yD (j:=4) (enc:=wAA) (xs:=bC) (ys:=[(⟨(⟨aa,w64 (aa + ap)⟩:wAH),av⟩:wAI)]) (zs:=aV) rfl rfl rfl rfl rfl Tryz.underlying25 wLi rfl rfl rfl rfl rfl rfl g6 rfl qi jo (g6.srcR (j:=9) rfl (by decide) (wAE (f:=wAA) (sz:=3) (fun _=>rfl) [(⟨(⟨aa,w64 (aa + ap)⟩:wAH),av⟩:wAI)])) (fun _=>rfl) (fun _=>rfl) gX rfl ?_
 intro lK oU tA Di
 have Dj:SW w [B1] U iR [.blk ai 55 au,bm,B7,am,.row lK oU 55 3 (nA wAA aV),aY,.blk b3 28 B0,aS,bb,.row cR de 55 3 (nA wAA [(⟨(⟨aa,w64 (aa + ap)⟩:wAH),av⟩:wAI)])] tA:=Di
 exact Gp _ _ ⟨iR,cR,de,lK,oU,p7,p8,p9,qa,qb,qc,qd,qe,qf,qh,qj,jo,rfl,qk,qm,qn,jp,qo,qp,qq,sM,(Dj.pick [0,1,2,3,5,6,7,8,9,4] _ (by decide) rfl)⟩
 exact zu Z Z Z Z (g6.ldB (j:=0) Z Z jp zE (v:=jV aa) Z) (j7 _ _ ⟨iR,cR,de,p7,p8,p9,qa,qb,qc,qd,qe,qf,qh,qi,qj,jo,qk,qm,qn,jp,Z,qo,qp,qq,sM,g6⟩)
 refine zx (s:=gBk) (M:=fun σ_ w_=>∃ (U_:PHeap) (cS:Option Addr) (df:Nat),σ_ 0=.pointer (some ⟨ab,0,none⟩)/\σ_ 3=jV p3/\σ_ 8=.pointer (some ⟨b3,0,none⟩)/\σ_ 11=.pointer (some ⟨b7,0,none⟩)/\σ_ 12=.slice bo bw.length bp/\σ_ 13=.slice bh bg.length bi/\σ_ 21=.pointer (some ⟨ai,0,none⟩)/\σ_ 98=jV bA/\σ_ 99=jV (↑bt:Int)/\σ_ 112=.pointer (some ⟨b7,2,none⟩)/\σ_ 113=.slice bN bC.length bP/\σ_ 114=.agg au.toArray/\σ_ 115=.slice cS ([(⟨(⟨aa,w64 (aa + ap)⟩:wAH),av⟩:wAI)].length) df/\σ_ 117=.slice bh bg.length bi/\σ_ 118=.pointer (some ⟨ab,0,none⟩)/\σ_ 119=.pointer (some ⟨ai,0,none⟩)/\σ_ 120=.pointer (some ⟨ai,0,none⟩)/\σ_ 121=jV aa/\σ_ 122=.pointer (some ⟨ai,0,none⟩)/\σ_ 123=.pointer (some ⟨ai,1,none⟩)/\PHeap.Le bf U_/\SW w [B1] U U_ [.blk ai 55 au,bm,B7,am,bI,aY,.blk b3 28 B0,aS,bb,.row cS df 55 3 (nA wAA [(⟨(⟨aa,w64 (aa + ap)⟩:wAH),av⟩:wAI)])] w_) ?_ fun sJ=>?_
 rintro JH H8 ⟨iT,cS,df,qr,qt,qu,qv,qw,qx,qy,qz,qA,qB,qC,qD,jq,qE,qF,qG,qH,qI,qJ,jr,sN,g7⟩
 refine zi ?_ ?_
 refine yD (j:=4) (enc:=wAA) (xs:=bC) (ys:=[(⟨(⟨aa,w64 (aa + ap)⟩:wAH),av⟩:wAI)]) (zs:=aV) rfl rfl rfl rfl rfl Tryz.underlying25 wLi rfl rfl rfl rfl rfl rfl g7 rfl qC jq (g7.srcR (j:=9) rfl (by decide) (wAE (f:=wAA) (sz:=3) (fun _=>rfl) [(⟨(⟨aa,w64 (aa + ap)⟩:wAH),av⟩:wAI)])) (fun _=>rfl) (fun _=>rfl) gX rfl ?_
 intro lL oW tB Dk
 have Dl:SW w [B1] U iT [.blk ai 55 au,bm,B7,am,.row lL oW 55 3 (nA wAA aV),aY,.blk b3 28 B0,aS,bb,.row cS df 55 3 (nA wAA [(⟨(⟨aa,w64 (aa + ap)⟩:wAH),av⟩:wAI)])] tB:=Dk
 exact Gq _ _ ⟨iT,cS,df,lL,oW,qr,qt,qu,qv,qw,qx,qy,qz,qA,qB,qD,jq,rfl,qE,qF,qG,qH,qI,qJ,jr,sN,(Dl.pick [0,1,2,3,5,6,7,8,9,4] _ (by decide) rfl)⟩
 exact zu Z Z Z Z (g7.ldB (j:=0) Z Z jr zE (v:=jV (w64 (aa + ap))) Z) (j7 _ _ ⟨iT,cS,df,qr,qt,qu,qv,qw,qx,qy,qz,qA,qB,qC,qD,jq,qE,qF,qG,qH,qI,qJ,jr,Z,sN,g7⟩)
 refine oR Z (zJ Z bQ zQ Z Zl) (oL Z (bK.ldB (j:=5) Z Z Z yK (v:=.slice bN bC.length bP) Z) (oL Z (bK.ldBA (j:=0) Z Z Z Tryz.isAgg55 Zo (vs:=au) Z Z) (oM Z bY (oM Z bJ (oR Z (zJ Z Z Zt Z ZR) (oR Z (zJ Z Z ZE Z zC) (oR Z (zJ Z Z Zt Z ZR) (oR Z (zJ Z Z ZE Z zC) (zi ?_ ?_)))))))))
 refine ZB (pv:=[(0,.agg au.toArray)]) (zs:=cY) (cs:=au) Z Z Z Z Z (wAC Z wAV) Za Zo yW Z Z Z Z Z bK ?_
 intro tC dZ Dm
 let mu:Res:=.row (some ⟨dZ,0,none⟩) 1 55 3 (nA wAA [(⟨(⟨aa,w64 (aa + ap)⟩:wAH),av⟩:wAI)])
 have dr:SW w [B1] U bf [mu,.blk ai 55 au,bm,B7,am,bI,aY,.blk b3 28 B0,aS,bb] tC:=Dm
 refine zi ?_ ?_
 refine yD (j:=5) (enc:=wAA) (xs:=bC) (ys:=[(⟨(⟨aa,w64 (aa + ap)⟩:wAH),av⟩:wAI)]) (zs:=aV) rfl rfl rfl rfl rfl Tryz.underlying25 wLi rfl rfl rfl rfl rfl rfl dr rfl rfl rfl (dr.srcR (j:=0) rfl (by decide) (wAE (f:=wAA) (sz:=3) (fun _=>rfl) [(⟨(⟨aa,w64 (aa + ap)⟩:wAH),av⟩:wAI)])) (fun _=>rfl) (fun _=>rfl) gX rfl ?_
 intro iA jg tD Dn
 have dt:SW w [B1] U bf [mu,.blk ai 55 au,bm,B7,am,.row iA jg 55 3 (nA wAA aV),aY,.blk b3 28 B0,aS,bb] tD:=Dn
 refine oR Z (zJ Z bQ zQ Z Zl) (zi ?_ ?_)
 exact zu rfl rfl rfl rfl (dt.ldB (j:=1) rfl rfl rfl zE (v:=jV aa) rfl) (zu rfl rfl rfl rfl (dt.ldB (j:=1) rfl rfl rfl zE (v:=jV (w64 (aa + ap))) rfl) (g8 _ _ ⟨bf,(some ⟨dZ,0,none⟩),1,iA,jg,bJ,cq,cr,bQ,ct,bY,rfl,bZ,cb,rfl,rfl,rfl,rfl,rfl,rfl,rfl,rfl,rfl,rfl,rfl,rfl,rfl,(zK _),(dt.pick [1,2,3,4,6,7,8,9,0,5] _ (by decide) rfl)⟩))
 exact zu rfl rfl rfl rfl (dt.ldB (j:=1) rfl rfl rfl zE (v:=jV (w64 (aa + ap))) rfl) (zu rfl rfl rfl rfl (dt.ldB (j:=1) rfl rfl rfl zE (v:=jV aa) rfl) (g8 _ _ ⟨bf,(some ⟨dZ,0,none⟩),1,iA,jg,bJ,cq,cr,bQ,ct,bY,rfl,bZ,cb,rfl,rfl,rfl,rfl,rfl,rfl,rfl,rfl,rfl,rfl,rfl,rfl,rfl,(zK _),(dt.pick [1,2,3,4,6,7,8,9,0,5] _ (by decide) rfl)⟩))
 refine zi ?_ ?_
 exact zu rfl rfl rfl rfl (dr.ldB (j:=1) rfl rfl rfl zE (v:=jV aa) rfl) (sJ _ _ ⟨bf,(some ⟨dZ,0,none⟩),1,bJ,cq,cr,bQ,ct,bY,rfl,bZ,cb,rfl,rfl,rfl,rfl,rfl,rfl,rfl,rfl,rfl,rfl,rfl,(zK _),(dr.pick [1,2,3,4,5,6,7,8,9,0] _ (by decide) rfl)⟩)
 exact zu rfl rfl rfl rfl (dr.ldB (j:=1) rfl rfl rfl zE (v:=jV (w64 (aa + ap))) rfl) (sI _ _ ⟨bf,(some ⟨dZ,0,none⟩),1,bJ,cq,cr,bQ,ct,bY,rfl,bZ,cb,rfl,rfl,rfl,rfl,rfl,rfl,rfl,rfl,rfl,rfl,rfl,(zK _),(dr.pick [1,2,3,4,5,6,7,8,9,0] _ (by decide) rfl)⟩)
 refine zi ?_ ?_
 refine zu Z Z Z Z (bK.ldB (j:=0) Z Z Z zE (v:=jV aa) Z) (zi ?_ ?_)
 refine ZB (pv:=[(0,.agg au.toArray)]) (zs:=cY) (cs:=au) Z Z Z Z Z (wAC Z wAV) Za Zo yW Z Z Z Z Z bK ?_
 intro tE oq Do
 have Dp:SW w [B1] U bf [.row (some ⟨oq,0,none⟩) 1 55 3 (nA wAA [(⟨(⟨aa,w64 (aa + ap)⟩:wAH),av⟩:wAI)]),.blk ai 55 au,bm,B7,am,bI,aY,.blk b3 28 B0,aS,bb] tE:=Do
 exact sJ _ _ ⟨bf,(some ⟨oq,0,none⟩),1,bJ,cq,cr,bQ,ct,bY,rfl,bZ,cb,rfl,rfl,rfl,rfl,rfl,rfl,rfl,rfl,rfl,rfl,rfl,(zK _),(Dp.pick [1,2,3,4,5,6,7,8,9,0] _ (by decide) rfl)⟩
 exact zu Z Z Z Z (bK.ldB (j:=0) Z Z Z zE (v:=jV (w64 (aa + ap))) Z) (sH _ _ ⟨bf,bJ,cq,cr,bQ,ct,bY,Z,bZ,cb,Z,Z,Z,Z,Z,Z,Z,Z,Z,Z,Z,(zK _),bK⟩)
 refine zu Z Z Z Z (bK.ldB (j:=0) Z Z Z zE (v:=jV (w64 (aa + ap))) Z) (zi ?_ ?_)
 refine ZB (pv:=[(0,.agg au.toArray)]) (zs:=cY) (cs:=au) Z Z Z Z Z (wAC Z wAV) Za Zo yW Z Z Z Z Z bK ?_
 intro tF ot Dq
 have Dr:SW w [B1] U bf [.row (some ⟨ot,0,none⟩) 1 55 3 (nA wAA [(⟨(⟨aa,w64 (aa + ap)⟩:wAH),av⟩:wAI)]),.blk ai 55 au,bm,B7,am,bI,aY,.blk b3 28 B0,aS,bb] tF:=Dq
 exact sI _ _ ⟨bf,(some ⟨ot,0,none⟩),1,bJ,cq,cr,bQ,ct,bY,rfl,bZ,cb,rfl,rfl,rfl,rfl,rfl,rfl,rfl,rfl,rfl,rfl,rfl,(zK _),(Dr.pick [1,2,3,4,5,6,7,8,9,0] _ (by decide) rfl)⟩
 exact zu Z Z Z Z (bK.ldB (j:=0) Z Z Z zE (v:=jV aa) Z) (sH _ _ ⟨bf,bJ,cq,cr,bQ,ct,bY,Z,bZ,cb,Z,Z,Z,Z,Z,Z,Z,Z,Z,Z,Z,(zK _),bK⟩)
 rintro JI tH ⟨te,s5,uC,bT,bW,cU,dg,Bk,qK,y6,y7,y8,y9,z6,z7,GE,Dt,BC⟩
 have uD:Hid (¬ ((↑((bA:Int) - 0).toNat:Int) < bA)):=zO (wBM)
 refine sR fL1 Z (oR Z (zP Z Bk z7) (eN (zN (cF Z uD (ZX (zj (zj (ZN (zI (zN (sR (wDj gAi) Z (oM Z qK (oM Z y6 (oR Z (zU Z Z Z) ?_))))))))))))))
 have q:=bnd sn
 obtain ⟨⟨dw,lg⟩,BD,rY⟩:=q
 try dsimp only at rY
 refine zH 1 Z Z Z Z (zG Z Z Zj (zB Z (zB Z zM)) Z) Dt (fun hs=>wAO (⟨Hr,Hs,Ht⟩:wAB) ab s5 uC (w64 (p3 + 1)) tH te hs BC BD) (.inl Z) ?_
 rintro tf Hz IY m8 GF Du ⟨lN,o3,rfl,rfl,BE⟩
 let aT:Res:=.row bT bW 55 3 (nA wAA bz)
 let aU:Res:=.row cU dg 3 1 (nA KL.encI bD)
 let mw:Res:=.blk b7 28 [.slice bj aW.length bk,.slice bq aX.length br,.slice bT bz.length bW,.slice none 0 0]
 let my:Res:=.blk ab 60 [.slice lN lg.bytes.length o3,jV lg.next,.int .u32 lg.state]
 have Dv:SW w [B1] U tf [my,B7,am,aT,mw,.blk b3 28 B0,aS,aU] m8:=Du
 refine oM Z Z (eN (zf ?_))
 have BG:=Cz.le GV
 have BH:=BG.le GE
 have BI:=BH.le GF
 have q:=Dv.freezeRR (R:=wSF) (k:=6) rfl BI rfl (by decide)
 obtain ⟨iU,GG,sw,Dx⟩:=q
 have Dy:SW w [B1] U iU [my,B7,am,aT,mw,.blk b3 28 B0,aU] m8:=Dx
 have q:=bnd rY
 obtain ⟨⟨Hd,He,Hf,sZ⟩,Fy,rZ⟩:=q
 try dsimp only at rZ
 have q:=wCe Fy
 obtain ⟨jZ,Fz⟩:=q
 replace jZ:=zO jZ
 refine CK.forN' (fun cI (cJ,fD,fE,cK) σ_ w_=>∃ (U_:PHeap) (cV:Option Addr) (dh:Nat) (cm:Option Addr) (cp:Nat),σ_ 134=jV (↑cI:Int)/\σ_ 0=.pointer (some ⟨ab,0,none⟩)/\σ_ 8=.pointer (some ⟨b3,0,none⟩)/\σ_ 11=.pointer (some ⟨b7,0,none⟩)/\σ_ 12=.slice bo bw.length bp/\σ_ 13=.slice cU bD.length dg/\σ_ 133=jV dw/\PHeap.Le iU U_/\SW w [B1] U U_ [.blk ab 60 [.slice cV cJ.length dh,jV fD,.int .u32 fE],B7,am,aT,.row cm cp 57 4 (nA wAL cK),.blk b7 28 [.slice bj aW.length bk,.slice bq aX.length br,.slice bT bz.length bW,.slice cm cK.length cp],.blk b3 28 B0,aU] w_/\Sl U_ 1 cV dh cJ.length (nA KL.encB8 cJ)) Fz ?_ ?_ ?_
 have DA:=Dy.nilrow 57 4
 have BJ:=BE.le GG
 exact ⟨iU,lN,o3,none,0,rfl,qK,y7,y8,y9,z6,rfl,(zK _),(DA.pick [1,2,3,4,0,5,6,7] _ (by decide) rfl),BJ⟩
 rintro cI ⟨cJ,fD,fE,cK⟩ Jm JJ m9 jR ⟨gm,cV,dh,cm,cp,fc,cD,gP,cG,gQ,gR,eY,ib,DB,rk⟩ sA
 try dsimp only at sA
 have o5:Hid ((↑cI:Int) < dw):=zO (wBs jR)
 replace jR:=zO jR
 have jQ:Hid (w64 ((↑cI:Int) + 1)=(↑(cI + 1):Int)):=zO (by have h1:=jZ.out;have h2:=o5.out;rw [wAb] <;> omega)
 refine sR fL1 Z (oR Z (zP Z fc eY) (eN (zN (cT Z o5 (kN (zN (zf ?_)))))))
 have q:=bnd sA
 obtain ⟨⟨g9,sV,sX,cg,cN,bu⟩,Gj,r6⟩:=q
 try dsimp only at r6
 let aZ:Res:=.blk b7 28 [.slice bj aW.length bk,.slice bq aX.length br,.slice bT bz.length bW,.slice cm cK.length cp]
 let ba:Res:=.row cm cp 57 4 (nA wAL cK)
 let cn:List Value:=[jV cg,jV cN,jV bu,jV 0]
 refine Zp (fun σ_ w_=>∃ (U_:PHeap) (fQ:Option Addr) (gF:Nat) (bB:Nat),σ_ 0=.pointer (some ⟨ab,0,none⟩)/\σ_ 8=.pointer (some ⟨b3,0,none⟩)/\σ_ 11=.pointer (some ⟨b7,0,none⟩)/\σ_ 12=.slice bo bw.length bp/\σ_ 13=.slice cU bD.length dg/\σ_ 22=.pointer (some ⟨bB,0,none⟩)/\σ_ 133=jV dw/\σ_ 134=jV (↑cI:Int)/\PHeap.Le gm U_/\SW w [B1] U U_ [.blk ab 60 [.slice fQ g9.length gF,jV sV,.int .u32 sX],B7,am,aT,ba,aZ,.blk b3 28 B0,aU,.blk bB 57 cn] w_/\Sl U_ 1 fQ gF g9.length (nA KL.encB8 g9)) ?_ ?_
 have q:=bnd Gj
 obtain ⟨⟨cu,ci⟩,rn,r7⟩:=q
 try dsimp only at r7
 have q:=bnd r7
 obtain ⟨⟨cw,bG⟩,jD,r8⟩:=q
 try dsimp only at r8
 have q:=bnd r8
 obtain ⟨⟨cx,bL⟩,gU,ff⟩:=q
 try dsimp only at ff
 refine zt zq [3,3,1,3,1005,3,3,1004,3,3,1005,3,3,1004,3,0,3,2,0,ab] (wEU (wOw (wRw (.fx 4 (.fx 10 (.fx 15 (.fl 16 (.fx 17 (.fx 18 .nil .stop) .stop)) (.fx 17 gAr .stop)) (.fx 17 gAz .stop)) (.fx 17 (.fx 4 gAz .stop) .stop))))) (by kernel_rfl) ?_
 have du:=DB.drew
 generalize hw_W1886:({ m9 with drawn:=m9.drawn + 1 }:World)=tM at du ⊢
 refine zL rfl rfl rfl rfl rfl cD (zV rfl rfl rfl rfl (fun _=>zJ rfl cG zQ rfl zy) (ZD rfl rfl rfl rfl (du.ldB (j:=5) rfl rfl rfl ZI (v:=.slice bj aW.length bk) rfl) rfl (zV rfl rfl rfl rfl (fun _=>ZU rfl rfl zD) (zL rfl rfl rfl rfl rfl cD (zV rfl rfl rfl rfl (fun _=>zJ rfl cG zQ rfl Zz) (OKS.mt (T:=[ab]) [0] [1,2,3,4,5,6,7] [B7,am,aT,ba,aZ,.blk b3 28 B0,aU] rfl rfl rfl rfl du rfl ⟨⟨0,by decide,_,rfl,rfl⟩,trivial⟩ (by decide) rfl (by decide) (fun _ Fm=>(Fm.ldB (j:=4) rfl rfl rfl yP (v:=.slice bq aX.length br) rfl)) rfl (zV rfl rfl rfl rfl (fun _=>ZU rfl rfl Zh) (zV rfl rfl rfl rfl (fun _=>zU rfl rfl rfl) (zL rfl rfl rfl rfl rfl cD (zV rfl rfl rfl rfl (fun _=>zJ rfl cG zQ rfl Zl) (OKS.mt (T:=[ab]) [0] [1,2,3,4,5,6,7] [B7,am,aT,ba,aZ,.blk b3 28 B0,aU] rfl rfl rfl rfl du rfl ⟨⟨0,by decide,_,rfl,rfl⟩,trivial⟩ (by decide) rfl (by decide) (fun _ Fo=>(Fo.ldB (j:=4) rfl rfl rfl yK (v:=.slice bT bz.length bW) rfl)) rfl (zV rfl rfl rfl rfl (fun _=>ZU rfl rfl Za) (zi ?_ ?_)))))))))))))
 refine yg 1 rfl rfl rfl rfl (zG rfl rfl Zj (zB rfl (zB rfl zM)) rfl) du (fun hs=>wAO (⟨cJ,fD,fE⟩:wAB) ab cV dh (↑aW.length:Int) tM gm hs rk rn) rfl (T:=[ab]) rfl ⟨fun b h=>(by cases h;exact .head _),trivial⟩ ?_
 rintro gp HA I0 n5 j8 DG ⟨iB,jh,rfl,rfl,ro⟩
 let mz:Res:=.blk ab 60 [.slice iB ci.bytes.length jh,jV ci.next,.int .u32 ci.state]
 have rI:SW w [B1] U gp [mz,B7,am,aT,ba,aZ,.blk b3 28 B0,aU] n5:=DG
 refine zi ?_ ?_
 refine yg 1 rfl rfl rfl rfl (zG rfl rfl Zj (zB rfl (zB rfl zM)) rfl) rI (fun hs=>wAO ci ab iB jh (w64 ((↑aX.length:Int) + 1)) n5 gp hs ro jD) rfl (T:=[ab]) rfl ⟨fun b h=>(by cases h;exact .head _),trivial⟩ ?_
 rintro gu HB I3 n6 sO DH ⟨iC,ji,rfl,rfl,rp⟩
 let mA:Res:=.blk ab 60 [.slice iC bG.bytes.length ji,jV bG.next,.int .u32 bG.state]
 have rJ:SW w [B1] U gu [mA,B7,am,aT,ba,aZ,.blk b3 28 B0,aU] n6:=DH
 refine zi ?_ ?_
 refine zH 1 Z Z Z Z (zG Z Z Zj (zB Z (zB Z zM)) Z) rJ (fun hs=>wAO bG ab iC ji (↑bz.length:Int) n6 gu hs rp gU) (.inl Z) ?_
 rintro iV HD I4 tO GH DI ⟨lO,o6,rfl,rfl,BL⟩
 let mB:Res:=.blk ab 60 [.slice lO bL.bytes.length o6,jV bL.next,.int .u32 bL.state]
 have DJ:SW w [B1] U iV [mB,B7,am,aT,ba,aZ,.blk b3 28 B0,aU] tO:=DI
 let iK:List Value:=[jV cu,jV cw,jV cx,jV 0]
 let mC:List Value:=[jV 0,jV 0,jV 0,jV 0]
 refine oR Z (zw (pv:=[(0,jV cu),(1,jV cw),(2,jV cx)]) (z:=mC) (cs:=iK) Z (wAC Z (wAC Z (wAC Z wAV))) Zq wGg Z Z) (zX (cs:=mC) Z Z Z Z Z Zq Z DJ ?_)
 intro H9 ou DK
 refine ze (j:=0) (vs:=iK) Z Z Z Z DK Z Z Z Z Zm (zA Z) Z Z Z ?_
 intro tP DL
 have DM:SW w [B1] U iV [.blk ou 57 iK,mB,B7,am,aT,ba,aZ,.blk b3 28 B0,aU] tP:=DL
 refine zd ?_
 cases ff
 exact zI ⟨rfl,⟨iV,lO,o6,ou,cD,gP,cG,gQ,gR,rfl,eY,fc,((j8.trans sO).trans GH),(DM.pick [1,2,3,4,5,6,7,8,0] _ (by decide) rfl),BL⟩⟩
 let gh:List Value:=[jV 0,jV 0,jV 0,jV 0]
 refine zX (cs:=gh) Z Z Z Z Z Zq Z rJ ?_
 intro n7 gw DN
 have DO:SW w [B1] U gu [mA,.blk gw 57 gh,B7,am,aT,ba,aZ,.blk b3 28 B0,aU] n7:=DN.pick [1,0,2,3,4,5,6,7,8] _ (by decide) rfl
 refine zH 1 Z Z Z Z (zG Z Z Zj (zB Z (zB Z zM)) Z) DO (fun hs=>wAO bG ab iC ji (↑bz.length:Int) n7 gu hs rp gU) (.inl Z) ?_
 rintro iW HF I5 tR GI DP ⟨lP,o7,rfl,rfl,BM⟩
 let mD:Res:=.blk ab 60 [.slice lP bL.bytes.length o7,jV bL.next,.int .u32 bL.state]
 have DQ:SW w [B1] U iW [mD,.blk gw 57 gh,B7,am,aT,ba,aZ,.blk b3 28 B0,aU] tR:=DP
 let iM:List Value:=[jV cu,jV cw,jV cx,jV 0]
 refine oR Z (zw (pv:=[(0,jV cu),(1,jV cw),(2,jV cx)]) (z:=gh) (cs:=iM) Z (wAC Z (wAC Z (wAC Z wAV))) Zq wGg Z Z) (ze (j:=1) (vs:=iM) Z Z Z Z DQ Z Z Z Z Zm (zA Z) Z Z Z ?_)
 intro tS DR
 have DS:SW w [B1] U iW [mD,.blk gw 57 iM,B7,am,aT,ba,aZ,.blk b3 28 B0,aU] tS:=DR
 refine zd ?_
 cases ff
 exact zI ⟨rfl,⟨iW,lP,o7,gw,cD,gP,cG,gQ,gR,rfl,eY,fc,((j8.trans sO).trans GI),(DS.pick [0,2,3,4,5,6,7,8,1] _ (by decide) rfl),BM⟩⟩
 let dT:List Value:=[jV 0,jV 0,jV 0,jV 0]
 refine zX (cs:=dT) Z Z Z Z Z Zq Z rI ?_
 intro n8 d5 DT
 have DU:SW w [B1] U gp [mz,.blk d5 57 dT,B7,am,aT,ba,aZ,.blk b3 28 B0,aU] n8:=DT.pick [1,0,2,3,4,5,6,7,8] _ (by decide) rfl
 refine yg 1 rfl rfl rfl rfl (zG rfl rfl Zj (zB rfl (zB rfl zM)) rfl) DU (fun hs=>wAO ci ab iB jh (w64 ((↑aX.length:Int) + 1)) n8 gp hs ro jD) rfl (T:=[ab]) rfl ⟨fun b h=>(by cases h;exact .head _),trivial⟩ ?_
 rintro mS HG I6 n9 GJ DV ⟨lQ,o8,rfl,rfl,BN⟩
 have DW:SW w [B1] U mS [.blk ab 60 [.slice lQ bG.bytes.length o8,jV bG.next,.int .u32 bG.state],.blk d5 57 dT,B7,am,aT,ba,aZ,.blk b3 28 B0,aU] n9:=DV
 refine zH 1 Z Z Z Z (zG Z Z Zj (zB Z (zB Z zM)) Z) DW (fun hs=>wAO bG ab lQ o8 (↑bz.length:Int) n9 mS hs BN gU) (.inl Z) ?_
 rintro iX HH I7 tT GK DX ⟨lR,o9,rfl,rfl,BO⟩
 let mE:Res:=.blk ab 60 [.slice lR bL.bytes.length o9,jV bL.next,.int .u32 bL.state]
 have DZ:SW w [B1] U iX [mE,.blk d5 57 dT,B7,am,aT,ba,aZ,.blk b3 28 B0,aU] tT:=DX
 let iN:List Value:=[jV cu,jV cw,jV cx,jV 0]
 refine oR Z (zw (pv:=[(0,jV cu),(1,jV cw),(2,jV cx)]) (z:=dT) (cs:=iN) Z (wAC Z (wAC Z (wAC Z wAV))) Zq wGg Z Z) (ze (j:=1) (vs:=iN) Z Z Z Z DZ Z Z Z Z Zm (zA Z) Z Z Z ?_)
 intro tU D0
 have D5:SW w [B1] U iX [mE,.blk d5 57 iN,B7,am,aT,ba,aZ,.blk b3 28 B0,aU] tU:=D0
 refine zd ?_
 cases ff
 exact zI ⟨rfl,⟨iX,lR,o9,d5,cD,gP,cG,gQ,gR,rfl,eY,fc,((j8.trans GJ).trans GK),(D5.pick [0,2,3,4,5,6,7,8,1] _ (by decide) rfl),BO⟩⟩
 let cZ:List Value:=[jV 0,jV 0,jV 0,jV 0]
 refine zX (cs:=cZ) Z Z Z Z Z Zq Z du ?_
 intro oa db D6
 have D7:SW w [B1] U gm [.blk ab 60 [.slice cV cJ.length dh,jV fD,.int .u32 fE],.blk db 57 cZ,B7,am,aT,ba,aZ,.blk b3 28 B0,aU] oa:=D6.pick [1,0,2,3,4,5,6,7,8] _ (by decide) rfl
 refine yg 1 rfl rfl rfl rfl (zG rfl rfl Zj (zB rfl (zB rfl zM)) rfl) D7 (fun hs=>wAO (⟨cJ,fD,fE⟩:wAB) ab cV dh (↑aW.length:Int) oa gm hs rk rn) rfl (T:=[ab]) rfl ⟨fun b h=>(by cases h;exact .head _),trivial⟩ ?_
 rintro mT HI I8 oc GL D8 ⟨lT,pf,rfl,rfl,BP⟩
 have D9:SW w [B1] U mT [.blk ab 60 [.slice lT ci.bytes.length pf,jV ci.next,.int .u32 ci.state],.blk db 57 cZ,B7,am,aT,ba,aZ,.blk b3 28 B0,aU] oc:=D8
 refine yg 1 rfl rfl rfl rfl (zG rfl rfl Zj (zB rfl (zB rfl zM)) rfl) D9 (fun hs=>wAO ci ab lT pf (w64 ((↑aX.length:Int) + 1)) oc mT hs BP jD) rfl (T:=[ab]) rfl ⟨fun b h=>(by cases h;exact .head _),trivial⟩ ?_
 rintro mU HJ I9 od GM Ea ⟨lU,pg,rfl,rfl,BQ⟩
 have Eb:SW w [B1] U mU [.blk ab 60 [.slice lU bG.bytes.length pg,jV bG.next,.int .u32 bG.state],.blk db 57 cZ,B7,am,aT,ba,aZ,.blk b3 28 B0,aU] od:=Ea
 refine zH 1 Z Z Z Z (zG Z Z Zj (zB Z (zB Z zM)) Z) Eb (fun hs=>wAO bG ab lU pg (↑bz.length:Int) od mU hs BQ gU) (.inl Z) ?_
 rintro iY HK Ja tV GN Ec ⟨lV,ph,rfl,rfl,BR⟩
 let mF:Res:=.blk ab 60 [.slice lV bL.bytes.length ph,jV bL.next,.int .u32 bL.state]
 have Ee:SW w [B1] U iY [mF,.blk db 57 cZ,B7,am,aT,ba,aZ,.blk b3 28 B0,aU] tV:=Ec
 let iO:List Value:=[jV cu,jV cw,jV cx,jV 0]
 refine oR Z (zw (pv:=[(0,jV cu),(1,jV cw),(2,jV cx)]) (z:=cZ) (cs:=iO) Z (wAC Z (wAC Z (wAC Z wAV))) Zq wGg Z Z) (ze (j:=1) (vs:=iO) Z Z Z Z Ee Z Z Z Z Zm (zA Z) Z Z Z ?_)
 intro tW Ef
 have Eg:SW w [B1] U iY [mF,.blk db 57 iO,B7,am,aT,ba,aZ,.blk b3 28 B0,aU] tW:=Ef
 refine zd ?_
 cases ff
 exact zI ⟨rfl,⟨iY,lV,ph,db,cD,gP,cG,gQ,gR,rfl,eY,fc,((GL.trans GM).trans GN),(Eg.pick [0,2,3,4,5,6,7,8,1] _ (by decide) rfl),BR⟩⟩
 rintro JL oe ⟨mV,fQ,gF,bB,qL,z8,qM,qN,qO,dm,Aa,Ab,ic,fd,BS⟩
 refine sR fL8 Z (oR Z (zJ Z qM zQ Z Zl) (oL Z (fd.ldB (j:=5) Z Z Z yK (v:=.slice bT bz.length bW) Z) (oR Z (zJ Z dm ZF Z zC) (oL Z (fd.ldB (j:=8) Z Z Z zE (v:=jV bu) Z) (bnK r6 fun _ gW FW=>?_)))))
 obtain ⟨Ik,rA⟩:=fd.rowSome (j:=3) rfl (by rw [wAE (f:=wAA) (sz:=3) (fun _=>rfl) bz];have hz:=wAT gW;omega)
 refine oR Z (zl Z Z rA Z Za Zo (wAu gW) (wAv gW)) (oR Z (zJ Z Z Zt Z zC) ?_)
 have FL:=wAx (xs:=bz) (wAT gW)
 refine ZD rfl rfl rfl rfl (fd.ldR (j:=3) rfl rA rfl rfl zE (wAS (sz:=3) (fun _=>rfl) _ _ 2 _ FL (by first | omega | rfl | simp) rfl)) rfl (Zx rfl rfl rfl rfl rfl rfl (eN (zN (zt zq [3,3,1004,3,1004,3,1004,3,1004,3,3,1004,3,1004,3,3,3,3,3,1005,3,3,3,0,ab] (wTa (.fx 19 (wRx (.fx 23 .nil .stop)) .stop)) (by kernel_rfl) ?_))))
 have cd:=fd.drew
 generalize hw_W2138:({ oe with drawn:=oe.drawn + 1 }:World)=tX at cd ⊢
 refine zL rfl rfl rfl rfl rfl qN (zV rfl rfl rfl rfl (fun _=>zJ rfl dm ZF rfl zC) (OKS.mt (T:=[ab]) [0] [1,2,3,4,5,6,7,8] [B7,am,aT,ba,aZ,.blk b3 28 B0,aU,.blk bB 57 cn] rfl rfl rfl rfl cd rfl ⟨⟨0,by decide,_,rfl,rfl⟩,trivial⟩ (by decide) rfl (by decide) (fun _ Fp=>(Fp.ldB (j:=7) rfl rfl rfl zE (v:=jV cg) rfl)) rfl (bnK FW fun il dp FX=>?_)))
 have BT:=sw.le ib
 have rq:=BT.le ic
 have q:=rq.el (wBB dp)
 obtain ⟨uw,Ha,Jk,CM,jJ,Ge⟩:=q
 obtain ⟨sQ,sT,rfl,BU⟩:=Ge
 replace jJ:Cl mV uw (Ha + cg.toNat * 1) [.slice sQ il.length sT]:=jJ
 refine zV rfl rfl rfl rfl (fun _=>zl rfl rfl CM rfl Tryz.runUnderlying29 zy (wCC dp) (wCL dp)) (OKS.mt (T:=[ab]) [0] [1,2,3,4,5,6,7,8] [B7,am,aT,ba,aZ,.blk b3 28 B0,aU,.blk bB 57 cn] rfl rfl rfl rfl cd rfl ⟨⟨0,by decide,_,rfl,rfl⟩,trivial⟩ (by decide) rfl (by decide) (fun _ Fq=>(Fq.ldC (f:=0) jJ (v:=.slice sQ il.length sT) rfl rfl ZI rfl)) rfl (zV rfl rfl rfl rfl (fun _=>zJ rfl dm ZF rfl zC) (OKS.mt (T:=[ab]) [0] [1,2,3,4,5,6,7,8] [B7,am,aT,ba,aZ,.blk b3 28 B0,aU,.blk bB 57 cn] rfl rfl rfl rfl cd rfl ⟨⟨0,by decide,_,rfl,rfl⟩,trivial⟩ (by decide) rfl (by decide) (fun _ Fs=>(Fs.ldB (j:=7) rfl rfl rfl zE (v:=jV cN) rfl)) rfl (bnK FX fun cy dq FZ=>?_))))
 have q:=BU.el (fun _=>rfl) (wBB dq)
 obtain ⟨Il,IS,CN,CQ⟩:=q
 refine zV rfl rfl rfl rfl (fun _=>zl rfl rfl CN rfl zD zC (wCC dq) (wCL dq)) (OKS.mt (T:=[ab]) [0] [1,2,3,4,5,6,7,8] [B7,am,aT,ba,aZ,.blk b3 28 B0,aU,.blk bB 57 cn] rfl rfl rfl rfl cd rfl ⟨⟨0,by decide,_,rfl,rfl⟩,trivial⟩ (by decide) rfl (by decide) (fun _ Ft=>(Ft.ldC (f:=0) CQ (v:=jV cy) rfl rfl zE rfl)) rfl (zL rfl rfl rfl rfl rfl qO (zV rfl rfl rfl rfl (fun _=>zJ rfl dm ZF rfl zC) (OKS.mt (T:=[ab]) [0] [1,2,3,4,5,6,7,8] [B7,am,aT,ba,aZ,.blk b3 28 B0,aU,.blk bB 57 cn] rfl rfl rfl rfl cd rfl ⟨⟨0,by decide,_,rfl,rfl⟩,trivial⟩ (by decide) rfl (by decide) (fun _ Fu=>(Fu.ldB (j:=7) rfl rfl rfl zE (v:=jV bu) rfl)) rfl (bnK FZ fun _ cH F0=>?_)))))
 obtain ⟨Im,gZ⟩:=cd.rowSome (j:=7) rfl (by rw [wAE (f:=KL.encI) (sz:=1) (fun _=>rfl) bD];have hz:=wAT cH;omega)
 refine oR Z (zl Z Z gZ Z zD zC (wAu cH) (wAv cH)) ?_
 have FM:=wAx (xs:=bD) (wAT cH)
 refine OKS.mt (T:=[ab]) [0] [1,2,3,4,5,6,7,8] [B7,am,aT,ba,aZ,.blk b3 28 B0,aU,.blk bB 57 cn] rfl rfl rfl rfl cd rfl ⟨⟨0,by decide,_,rfl,rfl⟩,trivial⟩ (by decide) rfl (by decide) (fun _ Fv=>(Fv.ldR (j:=6) rfl gZ rfl rfl zE (wAS (sz:=1) (fun _=>rfl) _ _ 0 _ FM (by first | omega | rfl | simp) rfl))) rfl (zV rfl rfl rfl rfl (fun _=>zU rfl rfl rfl) (zL rfl rfl rfl rfl rfl qL (zL rfl rfl rfl rfl rfl rfl (zV rfl rfl rfl rfl (fun _=>Runs.negw rfl rfl) (zL rfl rfl rfl rfl rfl rfl ?_)))))
 have q:=bnd F0
 obtain ⟨⟨dx,lh⟩,BV,r9⟩:=q
 try dsimp only at r9
 refine yg 1 rfl rfl rfl rfl (zG rfl rfl ye (zB rfl (zB rfl (zB rfl zM))) rfl) cd (fun hs=>wAf (⟨g9,sV,sX⟩:wAB) ab fQ gF (w64 (-((gd bz bu.toNat).Error))) ((gd bz bu.toNat).Error) tX mV hs BS BV) rfl (T:=[ab]) rfl ⟨fun b h=>(by cases h;exact .head _),trivial⟩ ?_
 rintro bV HM Jb tY ie Ei ⟨fS,gH,rfl,rfl,jE⟩
 let dU:Res:=.blk ab 60 [.slice fS lh.bytes.length gH,jV lh.next,.int .u32 lh.state]
 have Ej:SW w [B1] U bV [dU,B7,am,aT,ba,aZ,.blk b3 28 B0,aU,.blk bB 57 cn] tY:=Ei
 refine oR Z (zU Z Z Z) (oR Z (Runs.max Z Z Z) (oR Z (zJ Z dm ZF Z zC) (ze (j:=8) (vs:=[jV (max 0 (w64 ((w64 (cy + (gd bD bu.toNat))) + dx)))]) Z Z Z Z Ej Z Z Z Z zC (zA Z) Z Z Z ?_)))
 intro ja Ek
 let cB:List Value:=[jV cg,jV cN,jV bu,jV (max 0 (w64 ((w64 (cy + (gd bD bu.toNat))) + dx)))]
 have El:SW w [B1] U bV [dU,B7,am,aT,ba,aZ,.blk b3 28 B0,aU,.blk bB 57 cB] ja:=Ek
 refine eN (zN (CK.fresh fun cj bR=>?_))
 have jt:cj 0=.pointer (some ⟨ab,0,none⟩):=(bR 0).trans qL
 have ju:cj 8=.pointer (some ⟨b3,0,none⟩):=(bR 8).trans z8
 have eZ:cj 11=.pointer (some ⟨b7,0,none⟩):=(bR 11).trans qM
 have gS:cj 12=.slice bo bw.length bp:=(bR 12).trans qN
 have gT:cj 13=.slice cU bD.length dg:=(bR 13).trans qO
 have fb:cj 22=.pointer (some ⟨bB,0,none⟩):=(bR 22).trans dm
 have qQ:cj 23=jV ((gd bz bu.toNat).Error):=(bR 23).trans rfl
 have jv:cj 133=jV dw:=(bR 133).trans Aa
 have jw:cj 134=jV (↑cI:Int):=(bR 134).trans Ab
 clear bR
 refine zt zq [3,1,3,3,1,3,1,3,1,3,1,3,3,3,1,3,1,3,3] fL19 (by kernel_rfl) ?_
 have bE:=El.drew
 generalize hw_W2200:({ ja with drawn:=ja.drawn + 1 }:World)=Ib at bE ⊢
 refine oR Z (zJ Z fb ZF Z zC) (oL Z (bE.ldB (j:=8) Z Z Z zE (v:=jV (max 0 (w64 ((w64 (cy + (gd bD bu.toNat))) + dx)))) Z) (oM Z gS (oR Z (zJ Z fb ZF Z zC) (oL Z (bE.ldB (j:=8) Z Z Z zE (v:=jV cg) Z) ?_))))
 have BW:=rq.le ie
 have q:=BW.el (wBB dp)
 obtain ⟨ux,Hb,Jl,CO,jK,Gf⟩:=q
 obtain ⟨sS,sU,rfl,BY⟩:=Gf
 replace jK:Cl bV ux (Hb + cg.toNat * 1) [.slice sS il.length sU]:=jK
 refine oR Z (zl Z Z CO Z Tryz.runUnderlying29 zy (wCC dp) (wCL dp)) (oL Z (bE.ldC (f:=0) jK (v:=.slice sS il.length sU) Z Z ZI Z) (oR Z (zJ Z fb ZF Z zC) (oL Z (bE.ldB (j:=8) Z Z Z zE (v:=jV cN) Z) ?_)))
 have q:=BY.el (fun _=>rfl) (wBB dq)
 obtain ⟨Io,IT,CP,CR⟩:=q
 refine oR Z (zl Z Z CP Z zD zC (wCC dq) (wCL dq)) (oL Z (bE.ldC (f:=0) CR (v:=jV cy) Z Z zE Z) (oR Z (ZV Z Z Z) (oM Z gT (oR Z (zJ Z fb ZF Z zC) (oL Z (bE.ldB (j:=8) Z Z Z zE (v:=jV bu) Z) (oR Z (zl Z Z gZ Z zD zC (wAu cH) (wAv cH)) ?_))))))
 have FN:=wAx (xs:=bD) (wAT cH)
 refine ZD rfl rfl rfl rfl (bE.ldR (j:=7) rfl gZ rfl rfl zE (wAS (sz:=1) (fun _=>rfl) _ _ 0 _ FN (by first | omega | rfl | simp) rfl)) rfl (zV rfl rfl rfl rfl (fun _=>ZV rfl rfl rfl) (Zx rfl rfl rfl rfl rfl rfl (eN (sR fL9 rfl (zL rfl rfl rfl rfl rfl rfl (zL rfl rfl rfl rfl rfl qQ (zV rfl rfl rfl rfl (fun _=>Runs.negw rfl rfl) (zV rfl rfl rfl rfl (fun _=>Runs.geq rfl rfl rfl) (zL rfl rfl rfl rfl rfl rfl (ifc r9 ?_ ?_))))))))))
 intro bX F1
 refine zL Z Z Z (wT Z bX) Z Z (zL Z Z Z (wT Z bX) Z qQ (rU Z (wT Z bX) (yb Z Z Z) (oR Z (zY Z (ZY bX.out) Z) (eN (ifc F1 ?_ ?_)))))
 intro jj F2
 refine cT Z jj (rR (wDj (.fx 3 (.fx 4 (.fl 5 (.fx 6 .nil .stop)) .stop) .stop)) Z (oR Z (zJ Z eZ zQ Z yV) (oL Z (bE.ldB (j:=5) Z Z Z Tryz.isAgg26 (v:=.slice cm cK.length cp) Z) (oL Z (bE.ldBA (j:=8) Z Z fb Tryz.isAgg57 Zm (vs:=cB) Z Z) (ZB (pv:=[(0,.agg cB.toArray)]) (zs:=[jV 0,jV 0,jV 0,jV 0]) (cs:=cB) Z Z Z Z Z (wAC Z wAV) yH Zm Zq Z Z Z Z Z bE ?_)))))
 intro tZ uy Em
 let iP:Res:=.row (some ⟨uy,0,none⟩) 1 57 4 (nA wAL [(⟨cg,cN,bu,max 0 (w64 ((w64 (cy + (gd bD bu.toNat))) + dx))⟩:wAW)])
 have rK:SW w [B1] U bV [iP,dU,B7,am,aT,ba,aZ,.blk b3 28 B0,aU,.blk bB 57 cB] tZ:=Em
 refine bnK F2 fun im BZ F3=>yD (j:=5) (enc:=wAL) (xs:=cK) (ys:=[(⟨cg,cN,bu,max 0 (w64 ((w64 (cy + (gd bD bu.toNat))) + dx))⟩:wAW)]) (zs:=im) rfl rfl rfl rfl rfl Tryz.underlying26 wTE rfl rfl rfl rfl rfl rfl rK rfl rfl rfl (rK.srcR (j:=0) rfl (by decide) (wAE (f:=wAL) (sz:=4) (fun _=>rfl) [(⟨cg,cN,bu,max 0 (w64 ((w64 (cy + (gd bD bu.toNat))) + dx))⟩:wAW)])) (fun _=>rfl) (fun _=>rfl) BZ rfl ?_
 intro fT gI t7 En
 let mH:Res:=.row fT gI 57 4 (nA wAL im)
 have Eo:SW w [B1] U bV [iP,dU,B7,am,aT,mH,aZ,.blk b3 28 B0,aU,.blk bB 57 cB] t7:=En
 refine oR Z (zJ Z eZ zQ Z yV) (ze (j:=6) (vs:=[.slice fT im.length gI]) Z Z Z Z Eo Z Z Z Z yV (zA Z) Z Z Z ?_)
 intro t8 Ep
 have Er:SW w [B1] U bV [iP,dU,B7,am,aT,mH,.blk b7 28 [.slice bj aW.length bk,.slice bq aX.length br,.slice bT bz.length bW,.slice fT im.length gI],.blk b3 28 B0,aU,.blk bB 57 cB] t8:=Ep
 refine zd (zm (zI (rR fL2 Z (oR Z (Zc (zU Z jw Z) (congrArg (jV) jQ.out)) (oM Z Z (zd ?_))))))
 cases F3
 exact zI ⟨rfl,⟨bV,fS,gH,fT,gI,rfl,jt,ju,eZ,gS,gT,jv,((ib.trans ic).trans ie),(Er.pick [1,2,3,4,5,6,7,8] _ (by decide) rfl),jE⟩⟩
 intro jj F5
 refine cF Z jj (ZS (zm (zI (rR fL2 Z (oR Z (Zc (zU Z jw Z) (congrArg (jV) jQ.out)) (oM Z Z (zd ?_)))))))
 cases F5
 exact zI ⟨rfl,⟨bV,fS,gH,cm,cp,rfl,jt,ju,eZ,gS,gT,jv,((ib.trans ic).trans ie),(bE.pick [0,1,2,3,4,5,6,7] _ (by decide) rfl),jE⟩⟩
 intro bX F6
 refine oF Z bX (oF Z bX (oF Z bX (oR Z (zZ Z (ZL bX.out) Z) (eN (zn Z (ZS (zm (zI (rR fL2 Z (oR Z (Zc (zU Z jw Z) (congrArg (jV) jQ.out)) (oM Z Z (zd ?_))))))))))))
 cases F6
 exact zI ⟨rfl,⟨bV,fS,gH,cm,cp,rfl,jt,ju,eZ,gS,gT,jv,((ib.trans ic).trans ie),(bE.pick [0,1,2,3,4,5,6,7] _ (by decide) rfl),jE⟩⟩
 rintro JM Ic ⟨mW,lX,pk,iD,jk,Bm,II,qR,Aj,Ak,Al,Am,GO,rL,Cb⟩
 have uG:Hid (¬ ((↑((dw:Int) - 0).toNat:Int) < dw)):=zO (wBM)
 refine sR fL1 Z (oR Z (zP Z Bm Am) (eN (zN (cF Z uG (ZX (zj (zj (ZN (zI (sR (wDj gAs) Z ?_))))))))))
 let da:List Value:=[.slice bj aW.length bk,.slice bq aX.length br,.slice bT bz.length bW,.slice iD sZ.length jk]
 refine oL Z (rL.ldBA (j:=5) Z Z Aj ZK zz (vs:=da) Z Z) (oM Z Ak (oM Z Al (ze (j:=6) (vs:=da) Z Z Z Z rL Z qR Z Z zz (zA Z) Z Z Z ?_)))
 intro ua Es
 have rM:SW w [B1] U mW [.blk ab 60 [.slice lX Hd.length pk,jV He,.int .u32 Hf],B7,am,aT,.row iD jk 57 4 (nA wAL sZ),.blk b7 28 da,.blk b3 28 da,aU] ua:=Es
 refine oA Z Z (oA Z Z (eN (zS ?_)))
 have Cc:=sw.le GO
 cases rZ
 exact ⟨rfl,_,(wEL (rs:=[.cell 8 28,.tmp 9,.tmp 10]) (vs:=[.agg da.toArray,.slice bo bw.length bp,.slice cU bD.length dg]) ⟨⟨_,qR,(wBT ZK zz (rM.blkAt (k:=6) rfl) (vs:=da) rfl rfl)⟩,⟨rfl,⟨rfl,trivial⟩⟩⟩ rfl),mW,_,(rM.pick [1,2,3,4,7,0] _ (by decide) rfl),bj,bk,bq,br,bT,bW,iD,jk,bo,bp,cU,dg,lX,pk,rfl,rfl,Cc,Cb⟩
end Go.Proofs.YtkeeechdijfkhaaGreat
namespace Go.Proofs.YtkeeechdijfkhaaGreat
open Go.KL
set_option maxHeartbeats 4000000
theorem wEb (p0:wAB) (aa:Nat) (am:Option Addr) (ap:Nat) (p1:Int) (w:World) (U:PHeap) (hS:St0 w U [.blk aa 60 [.slice am p0.bytes.length ap,jV p0.next,.int .u32 p0.state]]) (cW:Sl U 1 am ap p0.bytes.length (nA KL.encB8 p0.bytes)) {r:(List wAG) × wAB} (hm:wBK p0 p1=some r):Gv Tryz.prog 6 [.pointer (some ⟨aa,0,none⟩),jV p1] w (wCQ w [.blk aa 60 [.slice am p0.bytes.length ap,jV p0.next,.int .u32 p0.state]] U (fun U_ L_ v=>∃ (A0:Option Addr) (c0:Nat) (br:Option Addr) (bI:Nat),v=.slice A0 r.1.length c0/\L_=[.row A0 c0 62 3 (nA wAY r.1),.blk aa 60 [.slice br r.2.bytes.length bI,jV r.2.next,.int .u32 r.2.state]]/\Sl U_ 1 br bI r.2.bytes.length (nA KL.encB8 r.2.bytes))):=by
 unfold wBK at hm
 refine Gv.of Tryz.func6 Z Tryz.ntmps6 Tryz.results6 Z (sR fL1 Z (oA Z Z (eN (sR fL1 Z (oA Z Z (eN (sR fL1 Z (oA Z Z (eN (zN (sR gAw Z (oM Z Z (oM Z Z ?_)))))))))))))
 have q:=bnd hm
 obtain ⟨⟨x2,x3⟩,h4,bP⟩:=q
 try dsimp only at bP
 refine zH 1 Z Z Z Z (zG Z Z ye (zB Z (zB Z (zB Z zM))) Z) hS (fun hs=>wAf p0 aa am ap 1 p1 w U hs cW h4) (.inl Z) ?_
 rintro U6 L7 v8 W9 dt cI ⟨bn,bE,rfl,rfl,cz⟩
 let B0:Res:=.blk aa 60 [.slice am p0.bytes.length ap,jV p0.next,.int .u32 p0.state]
 have cP:SW w [B0] U U6 [.blk aa 60 [.slice bn x3.bytes.length bE,jV x3.next,.int .u32 x3.state]] W9:=cI
 refine oM Z Z (eN (zf ?_))
 have q:=bnd bP
 obtain ⟨⟨dA,dB,dC,dD,dE⟩,cX,bQ⟩:=q
 try dsimp only at bQ
 have q:=wCe cX
 obtain ⟨bb,cY⟩:=q
 replace bb:=zO bb
 refine CK.forN' (fun ai (aj,bi,bj,ak,ae) σ_ w_=>∃ (U_:PHeap) (au:Option Addr) (aT:Nat) (av:Option Addr) (aU:Nat),σ_ 12=jV (↑ai:Int)/\σ_ 0=.pointer (some ⟨aa,0,none⟩)/\σ_ 5=.slice av ak.length aU/\σ_ 6=jV ae/\σ_ 11=jV x2/\PHeap.Le U6 U_/\SW w [B0] U U_ [.blk aa 60 [.slice au aj.length aT,jV bi,.int .u32 bj],.row av aU 62 3 (nA wAY ak)] w_/\Sl U_ 1 au aT aj.length (nA KL.encB8 aj)) cY ?_ ?_ ?_
 have cR:=cP.nilrow 62 3
 exact ⟨U6,bn,bE,none,0,rfl,rfl,rfl,rfl,rfl,(zK _),(cR.pick [1,0] _ (by decide) rfl),cz⟩
 rintro ai ⟨aj,bi,bj,ak,ae⟩ dz dG cd ba ⟨bX,au,aT,av,aU,bL,aV,cq,bJ,bK,df,cS,cC⟩ bS
 try dsimp only at bS
 have bG:Hid ((↑ai:Int) < x2):=zO (wBs ba)
 replace ba:=zO ba
 have cZ:Hid (w64 ((↑ai:Int) + 1)=(↑(ai + 1):Int)):=zO (by have h1:=bb.out;have h2:=bG.out;rw [wAb] <;> omega)
 refine sR fL1 Z (oR Z (zP Z bL bK) (eN (zN (cT Z bG (kN (zN (zf (sR (.fl 0 (.fl 1 (.fx 2 (wOv (.nil)) .stop))) Z (oM Z bJ (oM Z aV ?_))))))))))
 have q:=bnd bS
 obtain ⟨⟨x86,x87⟩,cD,bR⟩:=q
 try dsimp only at bR
 refine zH 1 Z Z Z Z (zG Z Z Zj (zB Z (zB Z zM)) Z) cS (fun hs=>wAO (⟨aj,bi,bj⟩:wAB) aa au aT 25 cd bX hs cC cD) (.inl Z) ?_
 rintro bw dm dy bA dg cU ⟨bq,bH,rfl,rfl,cG⟩
 let B1:Res:=.row av aU 62 3 (nA wAY ak)
 have cV:SW w [B0] U bw [.blk aa 60 [.slice bq x87.bytes.length bH,jV x87.next,.int .u32 x87.state],B1] bA:=cU
 refine oR Z (ZV Z Z Z) (oR Z (Runs.max Z Z Z) (oA Z Z (eN (sR gBf Z (oM Z Z (oM Z aV ?_))))))
 have q:=bnd bR
 obtain ⟨⟨x100,x101⟩,ct,bN⟩:=q
 try dsimp only at bN
 refine zH 1 Z Z Z Z (zG Z Z Zj (zB Z (zB Z zM)) Z) cV (fun hs=>wAO x87 aa bq bH 40 bA bw hs cG ct) (.inl Z) ?_
 rintro bv dh dv bz db cH ⟨bm,bC,rfl,rfl,cu⟩
 have cJ:SW w [B0] U bv [.blk aa 60 [.slice bm x101.bytes.length bC,jV x101.next,.int .u32 x101.state],B1] bz:=cH
 refine oR Z (zU Z Z Z) (oA Z Z (eN (sR (.fl 0 (.fl 1 (.fx 2 (wOv (.fx 6 (.fx 7 (.fl 8 .nil) .stop) .stop)) .stop))) Z (oM Z cq (oM Z aV ?_)))))
 have q:=bnd bN
 obtain ⟨⟨aq,bg⟩,cw,bO⟩:=q
 try dsimp only at bO
 refine zH 1 Z Z Z Z (zG Z Z Zj (zB Z (zB Z zM)) Z) cJ (fun hs=>wAO x101 aa bm bC 20 bz bv hs cu cw) (.inl Z) ?_
 rintro aS dk dw bY de cK ⟨bo,bD,rfl,rfl,cx⟩
 let B2:Res:=.blk aa 60 [.slice bo bg.bytes.length bD,jV bg.next,.int .u32 bg.state]
 have cL:SW w [B0] U aS [B2,B1] bY:=cK
 refine oM Z Z (oM Z Z ?_)
 let B3:List Value:=[jV aq,jV (max 0 (w64 (ae - x86))),jV (w64 ((max 0 (w64 (ae - x86))) + x100))]
 let B4:List Value:=[jV 0,jV 0,jV 0]
 refine oR Z (zw (pv:=[(0,jV aq),(1,jV (max 0 (w64 (ae - x86)))),(2,jV (w64 ((max 0 (w64 (ae - x86))) + x100)))]) (z:=B4) (cs:=B3) Z (wAC Z (wAC Z (wAC Z wAV))) Tryz.zeroValue62 wPd Z Z) (ZB (pv:=[(0,.agg B3.toArray)]) (zs:=B4) (cs:=B3) Z Z Z Z Z (wAC Z wAV) Zk yF Tryz.zeroValue62 Z Z Z Z Z cL ?_)
 intro bZ cg cM
 let B5:Res:=.row (some ⟨cg,0,none⟩) 1 62 3 (nA wAY [(⟨aq,max 0 (w64 (ae - x86)),w64 ((max 0 (w64 (ae - x86))) + x100)⟩:wAG)])
 have bM:SW w [B0] U aS [B5,B2,B1] bZ:=cM
 refine bnK bO fun bT cy da=>yD (j:=2) (enc:=wAY) (xs:=ak) (ys:=[(⟨aq,max 0 (w64 (ae - x86)),w64 ((max 0 (w64 (ae - x86))) + x100)⟩:wAG)]) (zs:=bT) rfl rfl rfl rfl rfl Tryz.underlying34 wTF rfl rfl rfl rfl rfl rfl bM rfl rfl rfl (bM.srcR (j:=0) rfl (by decide) (wAE (f:=wAY) (sz:=3) (fun _=>rfl) [(⟨aq,max 0 (w64 (ae - x86)),w64 ((max 0 (w64 (ae - x86))) + x100)⟩:wAG)])) (fun _=>rfl) (fun _=>rfl) cy rfl ?_
 intro bp bF cb cN
 have cO:SW w [B0] U aS [B5,B2,.row bp bF 62 3 (nA wAY bT)] cb:=cN
 refine oA Z Z (eN (rR fL4 Z (oM Z bJ (oM Z Z (oR Z (Runs.max Z Z Z) (oA Z Z (zd (zm (zI (rR fL2 Z (oR Z (Zc (zU Z bL Z) (congrArg (jV) cZ.out)) (oM Z Z (zd ?_)))))))))))))
 cases da
 exact zI ⟨rfl,⟨aS,bo,bD,bp,bF,rfl,aV,rfl,rfl,bK,(((df.trans dg).trans db).trans de),(cO.pick [1,2] _ (by decide) rfl),cx⟩⟩
 rintro dF dp ⟨bW,bU,ci,bV,cj,cr,dq,cn,dr,cp,du,cQ,cA⟩
 have cm:Hid (¬ ((↑((x2:Int) - 0).toNat:Int) < x2)):=zO (wBM)
 refine sR fL1 Z (oR Z (zP Z cr cp) (eN (zN (cF Z cm (ZX (zj (zj (ZN (zI (sR fL2 Z (oM Z cn (oA Z Z (eN (zS ?_))))))))))))))
 cases bQ
 exact ⟨rfl,_,(ZT rfl),bW,_,(cQ.pick [1,0] _ (by decide) rfl),bV,cj,bU,ci,rfl,rfl,cA⟩
theorem wDs (p0:Int) (p1:Int) (p2:Int) (w:World) (U:PHeap) (hS:St0 w U [])  {r:Bool} (hm:wCS p0 p1 p2=some r):Gv Tryz.prog 44 [jV p0,jV p1,jV p2] w (wCQ w [] U (fun U_ L_ v=>v=.bool r/\L_=[])):=by
 unfold wCS at hm
 refine Gv.of Tryz.func44 Z Tryz.ntmps44 Tryz.results44 Z (sR fL1 Z (oA Z Z (eN (sR fL9 Z (oM Z Z (oM Z Z (oR Z (Runs.geq Z Z Z) (oM Z Z ?_))))))))
 by_cases c1:p1 <= p0
 have ab:=hm;rw [if_pos c1] at ab;replace c1:=zO c1
 refine zL Z Z Z (wT Z c1) Z Z (zL Z Z Z (wT Z c1) Z Z (rU Z (wT Z c1) (yb Z Z Z) (oR Z (zY Z (ZY c1.out) Z) (oA Z Z (eN (zS ?_))))))
 first | (obtain rfl:=nB ab) | cases ab
 exact ⟨Z,_,(ZT Z),U,_,hS,Z,Z⟩
 have ai:=hm;rw [if_neg c1] at ai;replace c1:=zO c1
 refine oF Z c1 (oF Z c1 (oF Z c1 (oR Z (zZ Z (ZL c1.out) Z) (oA Z Z (eN (zS ?_))))))
 have hE:=nB ai;first | subst r | cases hE
 exact ⟨Z,_,(ZT Z),U,_,hS,Z,Z⟩
theorem wGI (p0:List Int) (aq:Option Addr) (au:Nat) (p1:(Int->Option Bool)) (av:Value) (w:World) (U:PHeap) (hS:St0 w U []) (bt:Sl U 1 aq au p0.length (nA KL.encI p0)) (bu:FnOK Tryz.prog U av ar79 rr79 p1) {r:Bool} (hm:wBu p0 p1=some r):Gv Tryz.prog 63 [.slice aq p0.length au,av] w (wCQ w [] U (fun U_ L_ v=>v=.bool r/\L_=[])):=by
 unfold wBu at hm
 refine Gv.of Tryz.func63 Z Tryz.ntmps63 Tryz.results63 Z (sR fL1 Z (oA Z Z (eN (zN (sR fL3 Z (oM Z Z (oR Z (ZU Z Z zD) (oM Z Z (eN (zf ?_))))))))))
 have q:=wCY hm
 obtain ⟨r3,aj⟩:=q
 have q:=wCh aj
 obtain ⟨am,bz⟩:=q
 replace am:=zO am
 refine ya (fun k2 _ σ_ w_=>∃ (U_:PHeap),σ_ 9=jV (↑k2:Int)/\σ_ 1=av/\σ_ 7=.slice aq p0.length au/\σ_ 8=jV (↑p0.length:Int)/\PHeap.Le U U_/\sW w U U_ [] w_) bz ?_ ?_ ?_
 exact ⟨U,Z,Z,Z,Z,(zK _),hS⟩
 rintro k2 ⟨⟩ bU bW W8 ak ⟨bJ,ai,aS,aT,aU,ap,aW⟩ aZ bv
 try dsimp only at aZ
 have az:Hid ((↑k2:Int) < (↑p0.length:Int)):=zO (wBs ak)
 replace ak:=zO ak
 have bA:Hid (w64 ((↑k2:Int) + 1)=(↑(k2 + 1):Int)):=zO (by have h1:=am.out;have h2:=az.out;rw [wAb] <;> omega)
 refine sR fL1 Z (oR Z (zP Z ai aU) (eN (zN (cT Z az (kN (zN (zf (sR fL3 Z (bnK aZ fun x22 aV bB=>?_)))))))))
 have bk:=bt.le ap
 have q:=bk.el (fun _=>rfl) (wBB aV)
 obtain ⟨bM,bQ,bo,bp⟩:=q
 refine oR Z (yQ Z aT bo ai zD zC (wFk aV)) (oL Z (aW.ldC (f:=0) bp (v:=jV x22) Z Z zE Z) (oA Z Z (eN (sR gAw Z (oM Z aS (oM Z Z (bnK bB fun bT bm bC=>?_)))))))
 have bn:=bu.le ap
 refine yZ (a:=x22) Z Z Z Z Z Z (zB Z zM) aW bn Z bm ?_
 rintro ae bI bS bf bG bq ⟨rfl,rfl⟩
 have aX:sW w U ae [] bf:=bq
 refine oR Z (Zb Z Z) (eN (ifc bC ?_ ?_))
 intro ah bD
 refine zn (nC ah.out) (ZS (zm (zI (rR fL2 Z (oR Z (Zc (zU Z ai Z) (congrArg (jV) bA.out)) (oM Z Z (zd ?_)))))))
 have q:=nB bD
 obtain rfl:=q
 exact zI ⟨Z,_,Z,⟨ae,Z,aS,aT,aU,(ap.trans bG),aX⟩⟩
 intro ah bE
 refine ZH (nF (ah.out)) (sR fL1 Z (oA Z Z (eN (zS (zo (zW ?_))))))
 have q:=wAe bE
 obtain ⟨bH,bF,bh⟩:=q
 have q:=wCA hm aj (bv bH bh)
 obtain rfl:=q
 refine zW (zo (zW ?_))
 have hE:=nB bF;first | subst r | cases hE
 exact ⟨Z,_,(ZT Z),ae,_,aX,Z,Z⟩
 rintro ⟨⟩ bV bK ⟨bb,bj,bN,bO,bi,bP,br⟩ bw
 have aY:=wDe hm aj bw
 try dsimp only at aY
 have bg:Hid (¬ ((↑(((↑p0.length:Int):Int) - 0).toNat:Int) < (↑p0.length:Int))):=zO (wBM)
 refine sR fL1 Z (oR Z (zP Z bj bi) (eN (zN (cF Z bg (ZX (zj (zj (ZN (zI (sR fL1 Z (oA Z Z (eN (zS ?_)))))))))))))
 have hE:=nB aY;first | subst r | cases hE
 exact ⟨Z,_,(ZT Z),bb,_,br,Z,Z⟩
theorem wHk (p0:Int) (w:World) (U:PHeap) (hS:St0 w U [])  {r:Bool} (hm:wCE p0=some r):Gv Tryz.prog 64 [jV p0] w (wCQ w [] U (fun U_ L_ v=>v=.bool r/\L_=[])):=by
 unfold wCE at hm
 refine Gv.of Tryz.func64 Z Tryz.ntmps64 Tryz.results64 Z (sR fL1 Z (oA Z Z (eN (sR gAp Z (oM Z Z (bnK hm fun x1 h2 ak=>zH 0 Z Z Z Z (zG Z Z Tryz.call44 (zB Z (zB Z (zB Z zM))) Z) hS (fun hs=>wDs p0 0 360000 w U hs h2) (.inr Z) ?_))))))
 rintro U4 L5 v6 W7 ap aj ⟨rfl,rfl⟩
 have ai:sW w U U4 [] W7:=aj
 refine oA Z Z (eN (zS ?_))
 have hE:=nB ak;first | subst r | cases hE
 exact ⟨Z,_,(ZT Z),U4,_,ai,Z,Z⟩
theorem wEc (p0:List wAH) (au:Option Addr) (av:Nat) (p1:(wAH->Option Bool)) (az:Value) (w:World) (U:PHeap) (hS:St0 w U []) (bC:Sl U 2 au av p0.length (nA wAP p0)) (bD:FnOK Tryz.prog U az wSx wSy p1) {r:Bool} (hm:wBL p0 p1=some r):Gv Tryz.prog 65 [.slice au p0.length av,az] w (wCQ w [] U (fun U_ L_ v=>v=.bool r/\L_=[])):=by
 unfold wBL at hm
 refine Gv.of Tryz.func65 Z Tryz.ntmps65 Tryz.results65 Z (sR fL1 Z (oA Z Z (eN (zN (sR fL3 Z (oM Z Z (oR Z (ZU Z Z Zh) (oM Z Z (eN (zf ?_))))))))))
 have q:=wCY hm
 obtain ⟨r3,ak⟩:=q
 have q:=wCh ak
 obtain ⟨ap,bG⟩:=q
 replace ap:=zO ap
 refine ya (fun k2 _ σ_ w_=>∃ (U_:PHeap),σ_ 9=jV (↑k2:Int)/\σ_ 1=az/\σ_ 7=.slice au p0.length av/\σ_ 8=jV (↑p0.length:Int)/\PHeap.Le U U_/\sW w U U_ [] w_) bG ?_ ?_ ?_
 exact ⟨U,Z,Z,Z,Z,(zK _),hS⟩
 rintro k2 ⟨⟩ cb cf W8 am ⟨bh,aj,aU,aV,aW,aq,aY⟩ bf bE
 try dsimp only at bf
 have aT:Hid ((↑k2:Int) < (↑p0.length:Int)):=zO (wBs am)
 replace am:=zO am
 have bH:Hid (w64 ((↑k2:Int) + 1)=(↑(k2 + 1):Int)):=zO (by have h1:=ap.out;have h2:=aT.out;rw [wAb] <;> omega)
 refine sR fL1 Z (oR Z (zP Z aj aW) (eN (zN (cT Z aT (kN (zN (zf (sR gAx Z (bnK bf fun x22 aX bI=>?_)))))))))
 have bq:=bC.le aq
 have q:=bq.el (fun _=>rfl) (wBB aX)
 obtain ⟨bT,bX,bu,bv⟩:=q
 refine oR Z (yQ Z aV bu aj Zh ZR (wFk aX)) (oL Z (aY.ldCA (f:=0) bv Z Z yY ZR (us:=[jV x22.Lo,jV x22.Hi]) Z Z) (zX (cs:=[jV 0,jV 0]) Z Z Z Z Z Zv Z aY ?_))
 intro bQ aS bw
 let B0:List Value:=[jV x22.Lo,jV x22.Hi]
 refine ze (j:=0) (vs:=B0) Z Z Z Z bw Z Z Z Z ZR (zA Z) Z Z Z ?_
 intro bj bz
 have aZ:sW w U bh [.blk aS 39 B0] bj:=bz
 refine eN (sR gAw Z (oM Z aU (oL Z (aZ.ldBA (j:=0) Z Z Z yY ZR (vs:=B0) Z Z) (bnK bI fun x37 br bJ=>?_))))
 have bt:=bD.le aq
 refine yZ (a:=x22) Z Z Z Z Z Z (zB Z zM) aZ bt Z br ?_
 rintro ah bP bZ bk bN bA ⟨rfl,rfl⟩
 have ba:sW w U ah [.blk aS 39 B0] bk:=bA
 refine oR Z (Zb Z Z) (eN (ifc bJ ?_ ?_))
 intro ai bK
 refine zn (nC ai.out) (ZS (zm (zI (rR fL2 Z (oR Z (Zc (zU Z aj Z) (congrArg (jV) bH.out)) (oM Z Z (zd ?_)))))))
 have q:=nB bK
 obtain rfl:=q
 exact zI ⟨rfl,_,rfl,⟨ah,rfl,aU,aV,aW,(aq.trans bN),(ba.pick [] _ (by decide) rfl)⟩⟩
 intro ai bL
 refine ZH (nF (ai.out)) (sR fL1 Z (oA Z Z (eN (zS (zo (zW ?_))))))
 have q:=wAe bL
 obtain ⟨bO,bM,bn⟩:=q
 have q:=wCA hm ak (bE bO bn)
 obtain rfl:=q
 refine zW (zo (zW ?_))
 have hE:=nB bM;first | subst r | cases hE
 exact ⟨rfl,_,(ZT rfl),ah,_,(ba.pick [] _ (by decide) rfl),rfl,rfl⟩
 rintro ⟨⟩ cd bR ⟨bi,bp,bU,bV,bo,bW,bB⟩ bF
 have bb:=wDe hm ak bF
 try dsimp only at bb
 have bm:Hid (¬ ((↑(((↑p0.length:Int):Int) - 0).toNat:Int) < (↑p0.length:Int))):=zO (wBM)
 refine sR fL1 Z (oR Z (zP Z bp bo) (eN (zN (cF Z bm (ZX (zj (zj (ZN (zI (sR fL1 Z (oA Z Z (eN (zS ?_)))))))))))))
 have hE:=nB bb;first | subst r | cases hE
 exact ⟨Z,_,(ZT Z),bi,_,bB,Z,Z⟩
theorem wFF (p0:wAH) (p1:Int) (p2:Int) (w:World) (U:PHeap) (hS:St0 w U [])  {r:Bool} (hm:wCF p0 p1 p2=some r):Gv Tryz.prog 67 [.agg #[jV p0.Lo,jV p0.Hi],jV p1,jV p2] w (wCQ w [] U (fun U_ L_ v=>v=.bool r/\L_=[])):=by
 unfold wCF at hm
 refine Gv.of Tryz.func67 rfl Tryz.ntmps67 Tryz.results67 rfl (sR gAk rfl (ZG (cs:=[jV p0.Lo,jV p0.Hi]) rfl rfl rfl rfl rfl rfl (by rfl) hS ?_))
 intro W1 b2 ah
 refine oA Z Z (eN (sR fL18 Z (oR Z (zJ Z Z ZE Z zC) (oL Z (ah.ldB (j:=0) Z Z Z zE (v:=jV p0.Lo) Z) (oR Z (zJ Z Z ZE Z zC) (oL Z (ah.ldB (j:=0) Z Z Z zE (v:=jV p0.Hi) Z) (oR Z (yb Z Z Z) (oM Z Z ?_))))))))
 by_cases c5:p0.Lo <= p0.Hi
 have aj:=hm;rw [if_pos c5] at aj;replace c5:=zO c5
 refine rU Z (wT Z c5) (zJ Z Z ZE Z zC) (ZD Z Z Z (wT Z c5) (ah.ldB (j:=0) Z Z Z zE (v:=jV p0.Lo) Z) Z (zL Z Z Z (wT Z c5) Z Z (rU Z (wT Z c5) (Runs.geq Z Z Z) (oR Z (zY Z (ZY c5.out) Z) (oM Z Z (ifc aj ?_ ?_))))))
 intro c7 ak
 refine rU Z (wT Z c7) (zJ Z Z ZE Z zC) (ZD Z Z Z (wT Z c7) (ah.ldB (j:=0) Z Z Z zE (v:=jV p0.Hi) Z) Z (zL Z Z Z (wT Z c7) Z Z (rU Z (wT Z c7) (yb Z Z Z) (oR Z (zY Z (ZY c7.out) Z) (oA Z Z (eN (zS ?_)))))))
 first | (obtain rfl:=nB ak) | cases ak
 exact ⟨rfl,_,(ZT rfl),U,_,(ah.pick [] _ (by decide) rfl),rfl,rfl⟩
 intro c7 aq
 refine oF Z c7 (oF Z c7 (oF Z c7 (oF Z c7 (oR Z (zZ Z (ZL c7.out) Z) (oA Z Z (eN (zS ?_)))))))
 have hE:=nB aq;first | subst r | cases hE
 exact ⟨rfl,_,(ZT rfl),U,_,(ah.pick [] _ (by decide) rfl),rfl,rfl⟩
 have ai:=hm;rw [if_neg c5] at ai;replace c5:=zO c5
 refine oF Z c5 (oF Z c5 (oF Z c5 (oF Z c5 (oR Z (zZ Z (ZL c5.out) Z) (oM Z Z (oN Z (oN Z (oN Z (oN Z (oR Z (zZ Z Z Z) (oA Z Z (eN (zS ?_)))))))))))))
 have hE:=nB ai;first | subst r | cases hE
 exact ⟨rfl,_,(ZT rfl),U,_,(ah.pick [] _ (by decide) rfl),rfl,rfl⟩
theorem wHl (p0:wAH) (w:World) (U:PHeap) (hS:St0 w U [])  {r:Bool} (hm:wCG p0=some r):Gv Tryz.prog 66 [.agg #[jV p0.Lo,jV p0.Hi]] w (wCQ w [] U (fun U_ L_ v=>v=.bool r/\L_=[])):=by
 unfold wCG at hm
 refine Gv.of Tryz.func66 Z Tryz.ntmps66 Tryz.results66 Z (sR gAk Z ?_)
 let B0:List Value:=[jV p0.Lo,jV p0.Hi]
 refine ZG (cs:=B0) rfl rfl rfl rfl rfl rfl (by rfl) hS ?_
 intro W1 b2 ah
 refine oA Z Z (eN (sR gAp Z (oL Z (ah.ldBA (j:=0) Z Z Z yY ZR (vs:=B0) Z Z) (bnK hm fun x5 h6 au=>zH 0 Z Z Z Z (zG Z Z Tryz.call67 (zB Z (zB Z (zB Z zM))) Z) ah (fun hs=>wFF p0 0 360000 W1 U hs h6) (.inr Z) ?_))))
 rintro U8 L9 aS aj az ap ⟨rfl,rfl⟩
 have aq:sW w U U8 [.blk b2 39 B0] aj:=ap
 refine oA Z Z (eN (zS ?_))
 have hE:=nB au;first | subst r | cases hE
 exact ⟨rfl,_,(ZT rfl),U8,_,(aq.pick [] _ (by decide) rfl),rfl,rfl⟩
theorem wEG (p0:List wAI) (au:Option Addr) (av:Nat) (p1:(wAI->Option Bool)) (az:Value) (w:World) (U:PHeap) (hS:St0 w U []) (bC:Sl U 3 au av p0.length (nA wAA p0)) (bD:FnOK Tryz.prog U az wSz wTA p1) {r:Bool} (hm:wBF p0 p1=some r):Gv Tryz.prog 68 [.slice au p0.length av,az] w (wCQ w [] U (fun U_ L_ v=>v=.bool r/\L_=[])):=by
 unfold wBF at hm
 refine Gv.of Tryz.func68 Z Tryz.ntmps68 Tryz.results68 Z (sR fL1 Z (oA Z Z (eN (zN (sR fL3 Z (oM Z Z (oR Z (ZU Z Z Za) (oM Z Z (eN (zf ?_))))))))))
 have q:=wCY hm
 obtain ⟨r3,ak⟩:=q
 have q:=wCh ak
 obtain ⟨ap,bG⟩:=q
 replace ap:=zO ap
 refine ya (fun k2 _ σ_ w_=>∃ (U_:PHeap),σ_ 9=jV (↑k2:Int)/\σ_ 1=az/\σ_ 7=.slice au p0.length av/\σ_ 8=jV (↑p0.length:Int)/\PHeap.Le U U_/\sW w U U_ [] w_) bG ?_ ?_ ?_
 exact ⟨U,Z,Z,Z,Z,(zK _),hS⟩
 rintro k2 ⟨⟩ cb cf W8 am ⟨bh,aj,aU,aV,aW,aq,aY⟩ bf bE
 try dsimp only at bf
 have aT:Hid ((↑k2:Int) < (↑p0.length:Int)):=zO (wBs am)
 replace am:=zO am
 have bH:Hid (w64 ((↑k2:Int) + 1)=(↑(k2 + 1):Int)):=zO (by have h1:=ap.out;have h2:=aT.out;rw [wAb] <;> omega)
 refine sR fL1 Z (oR Z (zP Z aj aW) (eN (zN (cT Z aT (kN (zN (zf (sR gAx Z (bnK bf fun x22 aX bI=>?_)))))))))
 have bq:=bC.le aq
 have q:=bq.el (fun _=>rfl) (wBB aX)
 obtain ⟨bT,bX,bu,bv⟩:=q
 refine oR Z (yQ Z aV bu aj Za Zo (wFk aX)) (oL Z (aY.ldCA (f:=0) bv Z Z Tryz.isAgg55 Zo (us:=[jV x22.Offset.Lo,jV x22.Offset.Hi,jV x22.Error]) Z Z) (zX (cs:=[jV 0,jV 0,jV 0]) Z Z Z Z Z yW Z aY ?_))
 intro bQ aS bw
 let B0:List Value:=[jV x22.Offset.Lo,jV x22.Offset.Hi,jV x22.Error]
 refine ze (j:=0) (vs:=B0) Z Z Z Z bw Z Z Z Z Zo (zA Z) Z Z Z ?_
 intro bj bz
 have aZ:sW w U bh [.blk aS 55 B0] bj:=bz
 refine eN (sR gAw Z (oM Z aU (oL Z (aZ.ldBA (j:=0) Z Z Z Tryz.isAgg55 Zo (vs:=B0) Z Z) (bnK bI fun x37 br bJ=>?_))))
 have bt:=bD.le aq
 refine yZ (a:=x22) Z Z Z Z Z Z (zB Z zM) aZ bt Z br ?_
 rintro ah bP bZ bk bN bA ⟨rfl,rfl⟩
 have ba:sW w U ah [.blk aS 55 B0] bk:=bA
 refine oR Z (Zb Z Z) (eN (ifc bJ ?_ ?_))
 intro ai bK
 refine zn (nC ai.out) (ZS (zm (zI (rR fL2 Z (oR Z (Zc (zU Z aj Z) (congrArg (jV) bH.out)) (oM Z Z (zd ?_)))))))
 have q:=nB bK
 obtain rfl:=q
 exact zI ⟨rfl,_,rfl,⟨ah,rfl,aU,aV,aW,(aq.trans bN),(ba.pick [] _ (by decide) rfl)⟩⟩
 intro ai bL
 refine ZH (nF (ai.out)) (sR fL1 Z (oA Z Z (eN (zS (zo (zW ?_))))))
 have q:=wAe bL
 obtain ⟨bO,bM,bn⟩:=q
 have q:=wCA hm ak (bE bO bn)
 obtain rfl:=q
 refine zW (zo (zW ?_))
 have hE:=nB bM;first | subst r | cases hE
 exact ⟨rfl,_,(ZT rfl),ah,_,(ba.pick [] _ (by decide) rfl),rfl,rfl⟩
 rintro ⟨⟩ cd bR ⟨bi,bp,bU,bV,bo,bW,bB⟩ bF
 have bb:=wDe hm ak bF
 try dsimp only at bb
 have bm:Hid (¬ ((↑(((↑p0.length:Int):Int) - 0).toNat:Int) < (↑p0.length:Int))):=zO (wBM)
 refine sR fL1 Z (oR Z (zP Z bp bo) (eN (zN (cF Z bm (ZX (zj (zj (ZN (zI (sR fL1 Z (oA Z Z (eN (zS ?_)))))))))))))
 have hE:=nB bb;first | subst r | cases hE
 exact ⟨Z,_,(ZT Z),bi,_,bB,Z,Z⟩
theorem wHm (p0:wAI) (w:World) (U:PHeap) (hS:St0 w U [])  {r:Bool} (hm:wCH p0=some r):Gv Tryz.prog 69 [.agg #[jV p0.Offset.Lo,jV p0.Offset.Hi,jV p0.Error]] w (wCQ w [] U (fun U_ L_ v=>v=.bool r/\L_=[])):=by
 unfold wCH at hm
 refine Gv.of Tryz.func69 Z Tryz.ntmps69 Tryz.results69 Z (sR gAk Z ?_)
 let B0:List Value:=[jV p0.Offset.Lo,jV p0.Offset.Hi,jV p0.Error]
 refine ZG (cs:=B0) rfl rfl rfl rfl rfl rfl (by rfl) hS ?_
 intro W1 b2 ap
 refine oA Z Z (eN (sR (.fl 0 (.fl 1 (.fx 2 (wOv gAn) .stop))) Z (oR Z (zJ Z Z Zt Z ZR) (oL Z (ap.ldBA (j:=0) Z Z Z yY ZR (vs:=[jV p0.Offset.Lo,jV p0.Offset.Hi]) Z Z) (bnK hm fun x5 h6 aY=>zH 0 Z Z Z Z (zG Z Z Tryz.call67 (zB Z (zB Z (zB Z zM))) Z) ap (fun hs=>wFF p0.Offset (-36000) 36000 W1 U hs h6) (.inr Z) ?_)))))
 rintro U8 L9 bg ak bb aS ⟨rfl,rfl⟩
 have ai:sW w U U8 [.blk b2 55 B0] ak:=aS
 refine oM Z Z (ifc aY ?_ ?_)
 intro ab aV
 refine zV Z Z Z (zR Z Z (congrArg nD ab.out)) (fun _=>zJ Z Z Zt Z zC) (ZD Z Z Z (zR Z Z (congrArg nD ab.out)) (ai.ldB (j:=0) Z Z Z zE (v:=jV p0.Error) Z) Z (bnK aV fun bi av aW=>zH 0 Z Z Z (zR Z Z (congrArg nD ab.out)) (zG Z Z Tryz.call44 (zB Z (zB Z (zB Z zM))) Z) ai (fun hs=>wDs p0.Error 0 600 ak U8 hs av) (.inr Z) ?_))
 rintro aj aZ bh au bf aT ⟨rfl,rfl⟩
 have aU:sW w U aj [.blk b2 55 B0] au:=aT
 refine oR Z (zY Z (congrArg nD ab.out) Z) (oA Z Z (eN (zS ?_)))
 have hE:=nB aW;first | subst r | cases hE
 exact ⟨rfl,_,(ZT rfl),aj,_,(aU.pick [] _ (by decide) rfl),rfl,rfl⟩
 intro ab aX
 refine ZW Z Z Z (ZA Z Z (congrArg nD (nE.2 ab.out)) Z) (ZW Z Z Z (ZA Z Z (congrArg nD (nE.2 ab.out)) Z) (OKS.px Z Z Z (ZA Z Z (congrArg nD (nE.2 ab.out)) Z) (oR Z (zZ Z (congrArg nD (nE.2 ab.out)) Z) (oA Z Z (eN (zS ?_))))))
 have hE:=nB aX;first | subst r | cases hE
 exact ⟨rfl,_,(ZT rfl),U8,_,(ai.pick [] _ (by decide) rfl),rfl,rfl⟩
theorem wCW (p0:List wAW) (au:Option Addr) (av:Nat) (p1:(wAW->Option Bool)) (az:Value) (w:World) (U:PHeap) (hS:St0 w U []) (bC:Sl U 4 au av p0.length (nA wAL p0)) (bD:FnOK Tryz.prog U az wRW wRX p1) {r:Bool} (hm:wAo p0 p1=some r):Gv Tryz.prog 70 [.slice au p0.length av,az] w (wCQ w [] U (fun U_ L_ v=>v=.bool r/\L_=[])):=by
 unfold wAo at hm
 refine Gv.of Tryz.func70 Z Tryz.ntmps70 Tryz.results70 Z (sR fL1 Z (oA Z Z (eN (zN (sR fL3 Z (oM Z Z (oR Z (ZU Z Z yH) (oM Z Z (eN (zf ?_))))))))))
 have q:=wCY hm
 obtain ⟨r3,ak⟩:=q
 have q:=wCh ak
 obtain ⟨ap,bG⟩:=q
 replace ap:=zO ap
 refine ya (fun k2 _ σ_ w_=>∃ (U_:PHeap),σ_ 9=jV (↑k2:Int)/\σ_ 1=az/\σ_ 7=.slice au p0.length av/\σ_ 8=jV (↑p0.length:Int)/\PHeap.Le U U_/\sW w U U_ [] w_) bG ?_ ?_ ?_
 exact ⟨U,Z,Z,Z,Z,(zK _),hS⟩
 rintro k2 ⟨⟩ cb cf W8 am ⟨bh,aj,aU,aV,aW,aq,aY⟩ bf bE
 try dsimp only at bf
 have aT:Hid ((↑k2:Int) < (↑p0.length:Int)):=zO (wBs am)
 replace am:=zO am
 have bH:Hid (w64 ((↑k2:Int) + 1)=(↑(k2 + 1):Int)):=zO (by have h1:=ap.out;have h2:=aT.out;rw [wAb] <;> omega)
 refine sR fL1 Z (oR Z (zP Z aj aW) (eN (zN (cT Z aT (kN (zN (zf (sR gAx Z (bnK bf fun x22 aX bI=>?_)))))))))
 have bq:=bC.le aq
 have q:=bq.el (fun _=>rfl) (wBB aX)
 obtain ⟨bT,bX,bu,bv⟩:=q
 refine oR Z (yQ Z aV bu aj yH Zm (wFk aX)) (oL Z (aY.ldCA (f:=0) bv Z Z Tryz.isAgg57 Zm (us:=[jV x22.Skier,jV x22.Mat,jV x22.Clock,jV x22.Time]) Z Z) (zX (cs:=[jV 0,jV 0,jV 0,jV 0]) Z Z Z Z Z Zq Z aY ?_))
 intro bQ aS bw
 let B0:List Value:=[jV x22.Skier,jV x22.Mat,jV x22.Clock,jV x22.Time]
 refine ze (j:=0) (vs:=B0) Z Z Z Z bw Z Z Z Z Zm (zA Z) Z Z Z ?_
 intro bj bz
 have aZ:sW w U bh [.blk aS 57 B0] bj:=bz
 refine eN (sR gAw Z (oM Z aU (oL Z (aZ.ldBA (j:=0) Z Z Z Tryz.isAgg57 Zm (vs:=B0) Z Z) (bnK bI fun x37 br bJ=>?_))))
 have bt:=bD.le aq
 refine yZ (a:=x22) Z Z Z Z Z Z (zB Z zM) aZ bt Z br ?_
 rintro ah bP bZ bk bN bA ⟨rfl,rfl⟩
 have ba:sW w U ah [.blk aS 57 B0] bk:=bA
 refine oR Z (Zb Z Z) (eN (ifc bJ ?_ ?_))
 intro ai bK
 refine zn (nC ai.out) (ZS (zm (zI (rR fL2 Z (oR Z (Zc (zU Z aj Z) (congrArg (jV) bH.out)) (oM Z Z (zd ?_)))))))
 have q:=nB bK
 obtain rfl:=q
 exact zI ⟨rfl,_,rfl,⟨ah,rfl,aU,aV,aW,(aq.trans bN),(ba.pick [] _ (by decide) rfl)⟩⟩
 intro ai bL
 refine ZH (nF (ai.out)) (sR fL1 Z (oA Z Z (eN (zS (zo (zW ?_))))))
 have q:=wAe bL
 obtain ⟨bO,bM,bn⟩:=q
 have q:=wCA hm ak (bE bO bn)
 obtain rfl:=q
 refine zW (zo (zW ?_))
 have hE:=nB bM;first | subst r | cases hE
 exact ⟨rfl,_,(ZT rfl),ah,_,(ba.pick [] _ (by decide) rfl),rfl,rfl⟩
 rintro ⟨⟩ cd bR ⟨bi,bp,bU,bV,bo,bW,bB⟩ bF
 have bb:=wDe hm ak bF
 try dsimp only at bb
 have bm:Hid (¬ ((↑(((↑p0.length:Int):Int) - 0).toNat:Int) < (↑p0.length:Int))):=zO (wBM)
 refine sR fL1 Z (oR Z (zP Z bp bo) (eN (zN (cF Z bm (ZX (zj (zj (ZN (zI (sR fL1 Z (oA Z Z (eN (zS ?_)))))))))))))
 have hE:=nB bb;first | subst r | cases hE
 exact ⟨Z,_,(ZT Z),bi,_,bB,Z,Z⟩
theorem wHn (p0:wAW) (w:World) (U:PHeap) (hS:St0 w U [])  {r:Bool} (hm:wCI p0=some r):Gv Tryz.prog 71 [.agg #[jV p0.Skier,jV p0.Mat,jV p0.Clock,jV p0.Time]] w (wCQ w [] U (fun U_ L_ v=>v=.bool r/\L_=[])):=by
 unfold wCI at hm
 refine Gv.of Tryz.func71 Z Tryz.ntmps71 Tryz.results71 Z (sR gAk Z ?_)
 let B0:List Value:=[jV p0.Skier,jV p0.Mat,jV p0.Clock,jV p0.Time]
 refine ZG (cs:=B0) rfl rfl rfl rfl rfl rfl (by rfl) hS ?_
 intro W1 b2 ah
 refine oA Z Z (eN (sR gAw Z (oR Z (zJ Z Z ZF Z zC) (oL Z (ah.ldB (j:=0) Z Z Z zE (v:=jV p0.Time) Z) (bnK hm fun x5 h6 au=>zH 0 Z Z Z Z (zG Z Z Tryz.call44 (zB Z (zB Z (zB Z zM))) Z) ah (fun hs=>wDs p0.Time 0 360000 W1 U hs h6) (.inr Z) ?_)))))
 rintro U8 L9 aS aj az ap ⟨rfl,rfl⟩
 have aq:sW w U U8 [.blk b2 57 B0] aj:=ap
 refine oA Z Z (eN (zS ?_))
 have hE:=nB au;first | subst r | cases hE
 exact ⟨rfl,_,(ZT rfl),U8,_,(aq.pick [] _ (by decide) rfl),rfl,rfl⟩
theorem wDc (p0:wAD) (ai:Option Addr) (ak:Nat) (aj:Option Addr) (am:Nat) (az:Option Addr) (aT:Nat) (aS:Option Addr) (aU:Nat) (p1:wAa) (w:World) (U:PHeap) (hS:St0 w U []) (bt:Sl U 1 ai ak p0.Starts.length (nA KL.encI p0.Starts)) (bu:Sl U 2 aj am p0.Splits.length (nA wAP p0.Splits)) (bv:Sl U 3 az aT p0.Clocks.length (nA wAA p0.Clocks)) (bw:Sl U 4 aS aU p0.Readings.length (nA wAL p0.Readings)) {r:Bool} (hm:wAq p0 p1=some r):Gv Tryz.prog 31 [.agg #[.slice ai p0.Starts.length ak,.slice aj p0.Splits.length am,.slice az p0.Clocks.length aT,.slice aS p0.Readings.length aU],.agg #[jV p1.Skier,jV p1.Mat]] w (wCQ w [] U (fun U_ L_ v=>v=.bool r/\L_=[])):=by
 unfold wAq at hm
 refine Gv.of Tryz.func31 Z Tryz.ntmps31 Tryz.results31 Z (sR (.fx 0 gAg .stop) Z ?_)
 let B0:List Value:=[.slice ai p0.Starts.length ak,.slice aj p0.Splits.length am,.slice az p0.Clocks.length aT,.slice aS p0.Readings.length aU]
 refine ZG (cs:=B0) rfl rfl rfl rfl rfl rfl (by rfl) hS ?_
 intro W1 b2 bi
 let B1:List Value:=[jV p1.Skier,jV p1.Mat]
 refine ZG (cs:=B1) rfl rfl rfl rfl rfl rfl (by rfl) bi ?_
 intro W5 b6 av
 refine oA Z Z (eN (sR (wIu (.fx 6 (wTi gAt) .stop)) Z (oR Z (zJ Z Z yR Z zC) (oL Z (av.ldB (j:=0) Z Z Z zE (v:=jV p1.Skier) Z) (oR Z (zJ Z Z zQ Z zy) (oL Z (av.ldB (j:=1) Z Z Z ZI (v:=.slice ai p0.Starts.length ak) Z) (oR Z (ZU Z Z zD) (oR Z (ZV Z Z Z) (bnK hm fun x9 bb bk=>zH 0 Z Z Z Z (zG Z Z Tryz.call44 (zB Z (zB Z (zB Z zM))) Z) av (fun hs=>wDs p1.Skier 0 (w64 ((↑p0.Starts.length:Int) - 1)) W5 U hs bb) (.inr Z) ?_)))))))))
 rintro au bp bB aW bz bg ⟨rfl,rfl⟩
 have ah:sW w U au [.blk b6 37 B1,.blk b2 28 B0] aW:=bg
 refine oM Z Z (ifc bk ?_ ?_)
 intro ab bm
 refine zV Z Z Z (zR Z Z (congrArg nD ab.out)) (fun _=>zJ Z Z yR Z zC) (ZD Z Z Z (zR Z Z (congrArg nD ab.out)) (ah.ldB (j:=0) Z Z Z zE (v:=jV p1.Mat) Z) Z (zV Z Z Z (zR Z Z (congrArg nD ab.out)) (fun _=>zJ Z Z zQ Z Zz) (ZD Z Z Z (zR Z Z (congrArg nD ab.out)) (ah.ldB (j:=1) Z Z Z yP (v:=.slice aj p0.Splits.length am) Z) Z (zV Z Z Z (zR Z Z (congrArg nD ab.out)) (fun _=>ZU Z Z Zh) (bnK bm fun x21 bf bn=>zH 0 Z Z Z (zR Z Z (congrArg nD ab.out)) (zG Z Z Tryz.call44 (zB Z (zB Z (zB Z zM))) Z) ah (fun hs=>wDs p1.Mat 0 (↑p0.Splits.length:Int) aW au hs bf) (.inr Z) ?_)))))
 rintro aV bq bC aZ bA bh ⟨rfl,rfl⟩
 have bj:sW w U aV [.blk b6 37 B1,.blk b2 28 B0] aZ:=bh
 refine oR Z (zY Z (congrArg nD ab.out) Z) (oA Z Z (eN (zS ?_)))
 have hE:=nB bn;first | subst r | cases hE
 exact ⟨rfl,_,(ZT rfl),aV,_,(bj.pick [] _ (by decide) rfl),rfl,rfl⟩
 intro ab bo
 refine ZW Z Z Z (ZA Z Z (congrArg nD (nE.2 ab.out)) Z) (ZW Z Z Z (ZA Z Z (congrArg nD (nE.2 ab.out)) Z) (ZW Z Z Z (ZA Z Z (congrArg nD (nE.2 ab.out)) Z) (ZW Z Z Z (ZA Z Z (congrArg nD (nE.2 ab.out)) Z) (ZW Z Z Z (ZA Z Z (congrArg nD (nE.2 ab.out)) Z) (OKS.px Z Z Z (ZA Z Z (congrArg nD (nE.2 ab.out)) Z) (oR Z (zZ Z (congrArg nD (nE.2 ab.out)) Z) (oA Z Z (eN (zS ?_)))))))))
 have hE:=nB bo;first | subst r | cases hE
 exact ⟨rfl,_,(ZT rfl),au,_,(ah.pick [] _ (by decide) rfl),rfl,rfl⟩
theorem wHo (p0:wAW) (p1:wAD) (aY:Nat) (am:Option Addr) (au:Nat) (ap:Option Addr) (av:Nat) (ah:Option Addr) (ai:Nat) (aq:Option Addr) (az:Nat) (w:World) (U:PHeap) (hS:St0 w U []) (aX:Cl U aY 0 [.slice am p1.Starts.length au,.slice ap p1.Splits.length av,.slice ah p1.Clocks.length ai,.slice aq p1.Readings.length az]) (bk:Sl U 1 am au p1.Starts.length (nA KL.encI p1.Starts)) (bm:Sl U 2 ap av p1.Splits.length (nA wAP p1.Splits)) (bn:Sl U 3 ah ai p1.Clocks.length (nA wAA p1.Clocks)) (bo:Sl U 4 aq az p1.Readings.length (nA wAL p1.Readings)) {r:Bool} (hm:wCJ p0 p1=some r):Gv Tryz.prog 72 [.agg #[jV p0.Skier,jV p0.Mat,jV p0.Clock,jV p0.Time],.pointer (some ⟨aY,0,none⟩)] w (wCQ w [] U (fun U_ L_ v=>v=.bool r/\L_=[])):=by
 unfold wCJ at hm
 refine Gv.of Tryz.func72 Z Tryz.ntmps72 Tryz.results72 Z (sR gAk Z ?_)
 let B0:List Value:=[jV p0.Skier,jV p0.Mat,jV p0.Clock,jV p0.Time]
 refine ZG (cs:=B0) rfl rfl rfl rfl rfl rfl (by rfl) hS ?_
 intro W1 b2 ak
 refine oA Z Z (eN (sR (wIu (.fx 6 (wTj (.fx 14 gAf .stop)) .stop)) Z (oL Z (ak.ldCA (f:=0) aX Z Z ZK zz (us:=[.slice am p1.Starts.length au,.slice ap p1.Splits.length av,.slice ah p1.Clocks.length ai,.slice aq p1.Readings.length az]) Z Z) (oR Z (zJ Z Z ZF Z zC) (oL Z (ak.ldB (j:=0) Z Z Z zE (v:=jV p0.Skier) Z) (oR Z (zJ Z Z ZF Z zC) (oL Z (ak.ldB (j:=0) Z Z Z zE (v:=jV p0.Mat) Z) (oR Z (zw (pv:=[(0,jV p0.Skier),(1,jV p0.Mat)]) (z:=[jV 0,jV 0]) (cs:=[jV p0.Skier,jV p0.Mat]) Z (wAC Z (wAC Z wAV)) Tryz.zeroValue37 wLg Z Z) (bnK hm fun x5 h6 bt=>zH 0 Z Z Z Z (zG Z Z Tryz.call31 (zB Z (zB Z zM)) Z) ak (fun hs=>wDc p1 am au ap av ah ai aq az (⟨p0.Skier,p0.Mat⟩:wAa) W1 U hs bk bm bn bo h6) (.inr Z) ?_)))))))))
 rintro U8 L9 bA aV bu bh ⟨rfl,rfl⟩
 have aj:sW w U U8 [.blk b2 57 B0] aV:=bh
 refine oM Z Z (ifc bt ?_ ?_)
 intro ae bp
 refine zV Z Z Z (zR Z Z (congrArg nD ae.out)) (fun _=>zJ Z Z ZF Z zC) (ZD Z Z Z (zR Z Z (congrArg nD ae.out)) (aj.ldB (j:=0) Z Z Z zE (v:=jV p0.Clock) Z) Z (zV Z Z Z (zR Z Z (congrArg nD ae.out)) (fun _=>zJ Z Z zQ Z Zl) ?_))
 have bb:=aX.le bu
 refine ZD Z Z Z (zR Z Z (congrArg nD ae.out)) (aj.ldC (f:=2) bb (v:=.slice ah p1.Clocks.length ai) Z Z yK Z) Z (zV Z Z Z (zR Z Z (congrArg nD ae.out)) (fun _=>ZU Z Z Za) (zV Z Z Z (zR Z Z (congrArg nD ae.out)) (fun _=>ZV Z Z Z) (bnK bp fun bC bf bq=>zH 0 Z Z Z (zR Z Z (congrArg nD ae.out)) (zG Z Z Tryz.call44 (zB Z (zB Z (zB Z zM))) Z) aj (fun hs=>wDs p0.Clock 0 (w64 ((↑p1.Clocks.length:Int) - 1)) aV U8 hs bf) (.inr Z) ?_)))
 rintro aU bv bB ba bz bi ⟨rfl,rfl⟩
 have bj:sW w U aU [.blk b2 57 B0] ba:=bi
 refine oR Z (zY Z (congrArg nD ae.out) Z) (oA Z Z (eN (zS ?_)))
 have hE:=nB bq;first | subst r | cases hE
 exact ⟨rfl,_,(ZT rfl),aU,_,(bj.pick [] _ (by decide) rfl),rfl,rfl⟩
 intro ae br
 refine ZW Z Z Z (ZA Z Z (congrArg nD (nE.2 ae.out)) Z) (ZW Z Z Z (ZA Z Z (congrArg nD (nE.2 ae.out)) Z) (ZW Z Z Z (ZA Z Z (congrArg nD (nE.2 ae.out)) Z) (ZW Z Z Z (ZA Z Z (congrArg nD (nE.2 ae.out)) Z) (ZW Z Z Z (ZA Z Z (congrArg nD (nE.2 ae.out)) Z) (ZW Z Z Z (ZA Z Z (congrArg nD (nE.2 ae.out)) Z) (OKS.px Z Z Z (ZA Z Z (congrArg nD (nE.2 ae.out)) Z) (oR Z (zZ Z (congrArg nD (nE.2 ae.out)) Z) (oA Z Z (eN (zS ?_))))))))))
 have hE:=nB br;first | subst r | cases hE
 exact ⟨rfl,_,(ZT rfl),U8,_,(aj.pick [] _ (by decide) rfl),rfl,rfl⟩
end Go.Proofs.YtkeeechdijfkhaaGreat
namespace Go.Proofs.YtkeeechdijfkhaaGreat
open Go.KL
set_option maxHeartbeats 4000000
theorem wJY (p0:wAD) (av:Option Addr) (aT:Nat) (az:Option Addr) (aU:Nat) (aS:Option Addr) (aV:Nat) (am:Option Addr) (ap:Nat) (w:World) (U:PHeap) (hS:St0 w U []) (cU:Sl U 1 av aT p0.Starts.length (nA KL.encI p0.Starts)) (cV:Sl U 2 az aU p0.Splits.length (nA wAP p0.Splits)) (cW:Sl U 3 aS aV p0.Clocks.length (nA wAA p0.Clocks)) (cX:Sl U 4 am ap p0.Readings.length (nA wAL p0.Readings)) {r:Int} (hm:wDZ p0=some r):Gv Tryz.prog 42 [.agg #[.slice av p0.Starts.length aT,.slice az p0.Splits.length aU,.slice aS p0.Clocks.length aV,.slice am p0.Readings.length ap]] w (wCQ w [] U (fun U_ L_ v=>v=jV r/\L_=[])):=by
 unfold wDZ at hm
 refine Gv.of Tryz.func42 Z Tryz.ntmps42 Tryz.results42 Z (sR gAk Z ?_)
 let B0:List Value:=[.slice av p0.Starts.length aT,.slice az p0.Splits.length aU,.slice aS p0.Clocks.length aV,.slice am p0.Readings.length ap]
 refine ZG (cs:=B0) rfl rfl rfl rfl rfl rfl (by rfl) hS ?_
 intro W1 b2 cO
 have q:=cO.freeze (k:=0) rfl
 obtain ⟨U5,bm,aX,cS⟩:=q
 replace aX:=Cl.of aX
 have bT:sW w U U5 [] W1:=cS
 replace aX:Cl U5 b2 0 B0:=aX
 refine oA Z Z (eN (zN (zf (sR (wDj (.fx 3 (wTf (.nil)) .stop)) Z (oR Z (zJ Z Z zQ Z zy) (oL Z (bT.ldC (f:=0) aX (v:=.slice av p0.Starts.length aT) Z Z ZI Z) (oR Z (ZU Z Z zD) (bnK hm fun dR cb da=>zH 0 Z Z Z Z (zG Z Z Tryz.call44 (zB Z (zB Z (zB Z zM))) Z) bT (fun hs=>wDs (↑p0.Starts.length:Int) 1 8 W1 U5 hs cb) (.inr Z) ?_))))))))
 rintro au dF dM bE aZ cN ⟨rfl,rfl⟩
 have ak:sW w U au [] bE:=cN
 refine oR Z (Zb Z Z) (oM Z Z (ifc da ?_ ?_))
 intro ab dm
 refine zV Z Z Z (zR Z Z (nC ab.out)) (fun _=>zJ Z Z zQ Z Zz) ?_
 have aY:=aX.le aZ
 refine ZD Z Z Z (zR Z Z (nC ab.out)) (ak.ldC (f:=1) aY (v:=.slice az p0.Splits.length aU) Z Z yP Z) Z (zV Z Z Z (zR Z Z (nC ab.out)) (fun _=>ZU Z Z Zh) (zV Z Z Z (zR Z Z (nC ab.out)) (fun _=>yN Z Z Z) (oR Z (zZ Z (nC ab.out) Z) (oM Z Z (ifc dm ?_ ?_)))))
 intro ae dp
 refine oT Z ae (oT Z ae (oT Z ae (oT Z ae (oR Z (zY Z (ZY ae.out) Z) (oM Z Z (oN Z (oN Z (oN Z (oN Z (oR Z (zY Z Z Z) (oA Z Z (eN (ZH Z (sR fL1 Z (oA Z Z (eN (zS (zo (zW ?_)))))))))))))))))))
 cases dp
 exact ⟨Z,_,(ZT Z),au,_,ak,Z,Z⟩
 intro ae dq
 refine rU Z (wF Z ae) (zJ Z Z zQ Z Zl) (ZD Z Z Z (wF Z ae) (ak.ldC (f:=2) aY (v:=.slice aS p0.Clocks.length aV) Z Z yK Z) Z (rU Z (wF Z ae) (ZU Z Z Za) (rU Z (wF Z ae) (yN Z Z Z) (oR Z (zZ Z (ZL ae.out) Z) (oM Z Z (ifc dq ?_ ?_))))))
 intro ah dr
 refine oT Z ah (oT Z ah (oT Z ah (oT Z ah (oR Z (zY Z (ZY ah.out) Z) (oA Z Z (eN (ZH Z (sR fL1 Z (oA Z Z (eN (zS (zo (zW ?_)))))))))))))
 cases dr
 exact ⟨Z,_,(ZT Z),au,_,ak,Z,Z⟩
 intro ah dt
 refine rU Z (wF Z ah) (zJ Z Z zQ Z yV) (ZD Z Z Z (wF Z ah) (ak.ldC (f:=3) aY (v:=.slice am p0.Readings.length ap) Z Z Tryz.isAgg26 Z) Z (rU Z (wF Z ah) (ZU Z Z yH) (rU Z (wF Z ah) (yN Z Z Z) (oR Z (zZ Z (ZL ah.out) Z) (oA Z Z (eN (ifc dt ?_ ?_)))))))
 intro br du
 refine cT Z br (sR fL1 Z (oA Z Z (eN (zS (zo (zW ?_))))))
 cases du
 exact ⟨Z,_,(ZT Z),au,_,ak,Z,Z⟩
 intro br dv
 refine cF Z br (sR (.fl 0 (.fl 1 (.fx 2 (wRu (.fx 7 (wTk (.nil)) .stop)) .stop))) Z (oR Z (zJ Z Z zQ Z zy) (oL Z (ak.ldC (f:=0) aY (v:=.slice av p0.Starts.length aT) Z Z ZI Z) ?_)))
 have cn:=cU.le bm
 have bL:=cn.le aZ
 have cH:FnOK Tryz.prog au (.func (.func 64) #[] #[]) ar79 rr79 wCE:=⟨64,[],[],rfl,Tryz.call64,fun U1 w1 x y vs le hs ha hm=>by obtain rfl:=ha;exact wHk x w1 U1 hs  hm⟩
 refine bnK dv fun dT cp dw=>zH 0 Z Z Z Z (zG Z Z Tryz.call63 (zB Z (zB Z zM)) Z) ak (fun hs=>wGI p0.Starts av aT wCE (.func (.func 64) #[] #[]) bE au hs bL cH cp) (.inr Z) ?_
 rintro bh dG dN bF ba cP ⟨rfl,rfl⟩
 have bz:sW w U bh [] bF:=cP
 refine oR Z (Zb Z Z) (oM Z Z (ifc dw ?_ ?_))
 intro ai dx
 refine zV Z Z Z (zR Z Z (nC ai.out)) (fun _=>zJ Z Z zQ Z Zz) ?_
 have bM:=aY.le ba
 refine ZD Z Z Z (zR Z Z (nC ai.out)) (bz.ldC (f:=1) bM (v:=.slice az p0.Splits.length aU) Z Z yP Z) Z ?_
 have cq:=cV.le bm
 have cr:=cq.le aZ
 have bN:=cr.le ba
 have cI:FnOK Tryz.prog bh (.func (.func 66) #[] #[]) wSx wSy wCG:=⟨66,[],[],rfl,Tryz.call66,fun U1 w1 x y vs le hs ha hm=>by obtain rfl:=ha;exact wHl x w1 U1 hs  hm⟩
 refine bnK dx fun dU ct dy=>zH 0 Z Z Z (zR Z Z (nC ai.out)) (zG Z Z Tryz.call65 (zB Z (zB Z zM)) Z) bz (fun hs=>wEc p0.Splits az aU wCG (.func (.func 66) #[] #[]) bF bh hs bN cI ct) (.inr Z) ?_
 rintro bi dH dO bG bb cQ ⟨rfl,rfl⟩
 have bA:sW w U bi [] bG:=cQ
 refine zV Z Z Z (zR Z Z (nC ai.out)) (fun _=>Zb Z Z) (oR Z (zZ Z (nC ai.out) Z) (oA Z Z (eN (ifc dy ?_ ?_))))
 intro bt dz
 refine zn (nC bt.out) (sR gBf Z (oR Z (zJ Z Z zQ Z Zl) ?_))
 have bO:=bM.le bb
 refine oL Z (bA.ldC (f:=2) bO (v:=.slice aS p0.Clocks.length aV) Z Z yK Z) ?_
 have cu:=cW.le bm
 have cw:=cu.le aZ
 have cx:=cw.le ba
 have bP:=cx.le bb
 have cJ:FnOK Tryz.prog bi (.func (.func 69) #[] #[]) wSz wTA wCH:=⟨69,[],[],rfl,Tryz.call69,fun U1 w1 x y vs le hs ha hm=>by obtain rfl:=ha;exact wHm x w1 U1 hs  hm⟩
 refine bnK dz fun dV cy dA=>zH 0 Z Z Z Z (zG Z Z Tryz.call68 (zB Z (zB Z zM)) Z) bA (fun hs=>wEG p0.Clocks aS aV wCH (.func (.func 69) #[] #[]) bG bi hs bP cJ cy) (.inr Z) ?_
 rintro bj dI dP bH bf cR ⟨rfl,rfl⟩
 have bB:sW w U bj [] bH:=cR
 refine oR Z (Zb Z Z) (oA Z Z (eN (ifc dA ?_ ?_)))
 intro bu dB
 refine zn (nC bu.out) (zN (CK.fresh fun dD bU=>?_))
 have bv:dD 1=.pointer (some ⟨b2,0,none⟩):=(bU 1).trans rfl
 clear bU
 refine rR gBf Z (oR Z (zJ Z bv zQ Z yV) ?_)
 have bQ:=bO.le bf
 refine oL Z (bB.ldC (f:=3) bQ (v:=.slice am p0.Readings.length ap) Z Z Tryz.isAgg26 Z) ?_
 have cz:=cX.le bm
 have cA:=cz.le aZ
 have cB:=cA.le ba
 have cC:=cB.le bb
 have bR:=cC.le bf
 have cK:FnOK Tryz.prog bj (.func (.func 71) #[] #[]) wRW wRX wCI:=⟨71,[],[],rfl,Tryz.call71,fun U1 w1 x y vs le hs ha hm=>by obtain rfl:=ha;exact wHn x w1 U1 hs  hm⟩
 refine bnK dB fun x92 cD dC=>zH 0 Z Z Z Z (zG Z Z Tryz.call70 (zB Z (zB Z zM)) Z) bB (fun hs=>wCW p0.Readings am ap wCI (.func (.func 71) #[] #[]) bH bj hs bR cK cD) (.inr Z) ?_
 rintro bk dJ dQ bI bg cL ⟨rfl,rfl⟩
 have bw:sW w U bk [] bI:=cL
 refine oR Z (Zb Z Z) (oA Z Z (eN (ifc dC ?_ ?_)))
 intro bp cY
 refine zn (nC bp.out) (sR (wDj gAs) Z (oR Z (zJ Z bv zQ Z yV) ?_))
 have bJ:=bQ.le bg
 refine oL Z (bw.ldC (f:=3) bJ (v:=.slice am p0.Readings.length ap) Z Z Tryz.isAgg26 Z) (oR Z (Runs.mkf Z zM (zB bv zM)) ?_)
 have bK:=bR.le bg
 have bW:=bL.le ba
 have bX:=bW.le bb
 have bY:=bX.le bf
 have bZ:=bY.le bg
 have cd:=bN.le bb
 have cf:=cd.le bf
 have cg:=cf.le bg
 have ci:=bP.le bf
 have cj:=ci.le bg
 have cG:FnOK Tryz.prog bk (.func (.func 72) #[] #[.pointer (some ⟨b2,0,none⟩)]) wRW wRX (fun x=>wCJ x p0):=⟨72,[],[.pointer (some ⟨b2,0,none⟩)],rfl,Tryz.call72,fun U1 w1 x y vs le hs ha hm=>by obtain rfl:=ha;exact wHo x p0 b2 av aT az aU aS aV am ap w1 U1 hs (bJ.le le) (bZ.le le) (cg.le le) (cj.le le) (bK.le le) hm⟩
 refine bnK cY fun dS cm cZ=>zH 0 Z Z Z Z (zG Z Z Tryz.call70 (zB Z (zB Z zM)) Z) bw (fun hs=>wCW p0.Readings am ap (fun x=>wCJ x p0) (.func (.func 72) #[] #[.pointer (some ⟨b2,0,none⟩)]) bI bk hs bK cG cm) (.inr Z) ?_
 rintro bn dE dL bV dK cM ⟨rfl,rfl⟩
 have bS:sW w U bn [] bV:=cM
 refine oR Z (Zb Z Z) (oA Z Z (eN (ifc cZ ?_ ?_)))
 intro bq db
 refine zn (nC bq.out) (ZS (zm (zI (sR fL1 Z (oA Z Z (eN (zS ?_)))))))
 cases db
 exact ⟨Z,_,(ZT Z),bn,_,bS,Z,Z⟩
 intro bq de
 refine ZH (nF (bq.out)) (sR fL1 Z (oA Z Z (eN (zS (zo (zW ?_))))))
 cases de
 exact ⟨Z,_,(ZT Z),bn,_,bS,Z,Z⟩
 intro bp df
 refine ZH (nF (bp.out)) (sR fL1 Z (oA Z Z (eN (zS (zo (zW ?_))))))
 cases df
 exact ⟨Z,_,(ZT Z),bk,_,bw,Z,Z⟩
 intro bu dg
 refine ZH (nF (bu.out)) (sR fL1 Z (oA Z Z (eN (zS (zo (zW ?_))))))
 cases dg
 exact ⟨Z,_,(ZT Z),bj,_,bB,Z,Z⟩
 intro bt dh
 refine ZH (nF (bt.out)) (sR fL1 Z (oA Z Z (eN (zS (zo (zW ?_))))))
 cases dh
 exact ⟨Z,_,(ZT Z),bi,_,bA,Z,Z⟩
 intro ai dk
 refine ZW Z Z Z (ZA Z Z (nF (ai.out)) Z) (ZW Z Z Z (ZA Z Z (nF (ai.out)) Z) (OKS.px Z Z Z (ZA Z Z (nF (ai.out)) Z) (ZW Z Z Z (ZA Z Z (nF (ai.out)) Z) (oR Z (zY Z (nF (ai.out)) Z) (oA Z Z (eN (ZH Z (sR fL1 Z (oA Z Z (eN (zS (zo (zW ?_)))))))))))))
 cases dk
 exact ⟨Z,_,(ZT Z),bh,_,bz,Z,Z⟩
 intro ab dl
 refine ZW Z Z Z (ZA Z Z (nF (ab.out)) Z) (ZW Z Z Z (ZA Z Z (nF (ab.out)) Z) (ZW Z Z Z (ZA Z Z (nF (ab.out)) Z) (ZW Z Z Z (ZA Z Z (nF (ab.out)) Z) (oR Z (zY Z (nF (ab.out)) Z) (oM Z Z (oN Z (oN Z (oN Z (oN Z (oR Z (zY Z Z Z) (oM Z Z (oN Z (oN Z (oN Z (oN Z (oR Z (zY Z Z Z) (oA Z Z (eN (ZH Z (sR fL1 Z (oA Z Z (eN (zS (zo (zW ?_)))))))))))))))))))))))))
 cases dl
 exact ⟨Z,_,(ZT Z),au,_,ak,Z,Z⟩
theorem wBQ  (w:World) (U:PHeap) (hS:St0 w U [])  {r:wAF} (hm:wBp =some r):Gv Tryz.prog 17 [] w (wCQ w [] U (fun U_ L_ v=>v=.agg #[jV r.skier,jV r.mat]/\L_=[])):=by
 unfold wBp at hm
 refine Gv.of Tryz.func17 Z Tryz.ntmps17 Tryz.results17 Z (sR (.fx 0 .nil .stop) Z (zX (cs:=[jV 0,jV 0]) Z Z Z Z Z zh Z hS ?_))
 intro W1 b2 ai
 refine eN (sR (.fl 0 (.fx 1 .nil .stop)) Z ?_)
 let B0:List Value:=[jV (-1),jV 0]
 refine oR Z (zw (pv:=[(0,jV (-1)),(1,jV 0)]) (z:=[jV 0,jV 0]) (cs:=B0) Z (wAC Z (wAC Z wAV)) zh wBr Z Z) (ze (j:=0) (vs:=B0) Z Z Z Z ai Z Z Z Z zF (zA Z) Z Z Z ?_)
 intro W5 aj
 have ab:sW w U U [.blk b2 68 B0] W5:=aj
 refine eN (zS ?_)
 cases hm
 exact ⟨rfl,_,(wMH (v:=.agg B0.toArray) ⟨⟨_,rfl,(wBT zg zF (ab.blkAt (k:=0) rfl) (vs:=B0) rfl rfl)⟩,trivial⟩),U,_,(ab.pick [] _ (by decide) rfl),rfl,rfl⟩
theorem wFX {S E:Type} (PY:S->PHeap->List Res->Prop) (PE:E->PHeap->List Res->Prop) (f:S->wAK->Option (S ⊕ E)) (y:Nat) (s0:S) (p1:wAD) (ap:Nat) (cq:Option Addr) (cw:Nat) (cr:Option Addr) (cx:Nat) (ct:Option Addr) (cy:Nat) (cu:Option Addr) (cz:Nat) (w:World) (L:List Res) (U:PHeap) (hS:St ⟨w,L,U⟩ U L w) (hP:PY s0 U L) (hY:YOK Tryz.prog y wTB PY PE f U) (bm:Cl U ap 0 [.slice cq p1.Starts.length cw,.slice cr p1.Splits.length cx,.slice ct p1.Clocks.length cy,.slice cu p1.Readings.length cz]) (j5:Sl U 1 cq cw p1.Starts.length (nA KL.encI p1.Starts)) (j6:Sl U 2 cr cx p1.Splits.length (nA wAP p1.Splits)) (j7:Sl U 3 ct cy p1.Clocks.length (nA wAA p1.Clocks)) (j8:Sl U 4 cu cz p1.Readings.length (nA wAL p1.Readings)) {r:S ⊕ E} (hm:wBf f s0 p1=some r):Gv Tryz.prog 94 [.func (.yield y) #[] #[],.pointer (some ⟨ap,0,none⟩)] w (ItS w L U PY PE r):=by
 unfold wBf at hm
 refine Gv.of Tryz.func94 Z Tryz.ntmps94 Tryz.results94 Z (sR wTW Z (oR Z (zJ Z Z zQ Z Zz) (oL Z (hS.ldC (f:=1) bm (v:=.slice cr p1.Splits.length cx) Z Z yP Z) (oR Z (ZU Z Z Zh) (oR Z (zJ Z Z zQ Z Zl) (oL Z (hS.ldC (f:=2) bm (v:=.slice ct p1.Clocks.length cy) Z Z yK Z) (oR Z (ZU Z Z Za) (oR Z (zJ Z Z zQ Z yV) (oL Z (hS.ldC (f:=3) bm (v:=.slice cu p1.Readings.length cz) Z Z Tryz.isAgg26 Z) (oR Z (ZU Z Z yH) ?_))))))))))
 let B0:List Value:=[jV 1,jV (↑p1.Splits.length:Int),jV (↑p1.Clocks.length:Int),jV (↑p1.Readings.length:Int)]
 refine oR Z (Runs.buildA (pv:=[(0,jV 1),(1,jV (↑p1.Splits.length:Int)),(2,jV (↑p1.Clocks.length:Int)),(3,jV (↑p1.Readings.length:Int))]) (z:=[jV 0,jV 0,jV 0,jV 0]) (cs:=B0) Z (wAC Z (wAC Z (wAC Z (wAC Z wAV)))) Tryz.zeroValue174 Tryz.runUnderlying174 zC Z Z) (oM Z Z (eN (zf ?_)))
 have q:=wCY hm
 obtain ⟨lc,av⟩:=q
 have q:=wCh av
 obtain ⟨cd,ii⟩:=q
 replace cd:=zO cd
 refine ya (fun ab dG σ_ w_=>∃ (U_:PHeap) (aS:List Res),σ_ 18=jV (↑ab:Int)/\σ_ 0=.func (.yield y) #[] #[]/\σ_ 1=.pointer (some ⟨ap,0,none⟩)/\σ_ 17=.agg B0.toArray/\PHeap.Le U U_/\St ⟨w,L,U⟩ U_ aS w_/\PY dG U_ aS) ii ?_ ?_ ?_
 exact ⟨U,L,Z,Z,Z,Z,(zK _),hS,hP⟩
 rintro ab dG lj lA jC bW ⟨bE,aS,aU,cV,bK,bL,au,bU,dk⟩ iW bn
 have cQ:Hid ((↑ab:Int) < 4):=zO (wBs bW)
 replace bW:=zO bW
 have dy:Hid (w64 ((↑ab:Int) + 1)=(↑(ab + 1):Int)):=zO (by have h1:=cd.out;have h2:=cQ.out;rw [wAb] <;> omega)
 refine sR fL1 Z (oR Z (zP Z aU Z) (eN (zN (cT Z cQ (kN (zN (zf (sR fL4 Z (oM Z aU (bnK iW fun ai bT iF=>oR Z (Runs.ixA (cs:=nA KL.encI ([1,(↑p1.Splits.length:Int),(↑p1.Clocks.length:Int),(↑p1.Readings.length:Int)]:List Int)) Z bL aU Tryz.runUnderlying174 zC (wCC bT) (wCL bT) (wFh zE (wEF (sz:=1) (fun _=>Z) _ _ 0 _ _ (wBB bT) Z))) (oA Z Z (oA Z Z (eN (sR fL4 Z (oR Z (zJ Z bK zQ Z zy) ?_)))))))))))))))
 have gF:=bm.le au
 refine oL Z (bU.ldC (f:=0) gF (v:=.slice cq p1.Starts.length cw) Z Z ZI Z) (oR Z (ZU Z Z zD) (oA Z Z (eN (zN ?_))))
 have q:=bnd iF
 obtain ⟨⟨dU,jf⟩,dC,dz⟩:=q
 try dsimp only at dz
 refine Zp (fun σ_ w_=>∃ (U_:PHeap) (aT:List Res),σ_ 0=.func (.yield y) #[] #[]/\σ_ 1=.pointer (some ⟨ap,0,none⟩)/\σ_ 3=jV (↑ab:Int)/\σ_ 4=jV ai/\σ_ 5=jV (↑p1.Starts.length:Int)/\σ_ 17=.agg B0.toArray/\σ_ 18=jV (↑ab:Int)/\σ_ 30=.bool dU/\PHeap.Le bE U_/\St ⟨w,L,U⟩ U_ aT w_/\PY jf U_ aT) ?_ ?_
 refine rR fL6 Z (oM Z Z (oR Z (yC Z Z Z) (oM Z Z ?_)))
 by_cases aj:(↑ab:Int)=2
 have dA:=dC;rw [if_pos aj] at dA;replace aj:=zO aj
 refine oT Z aj (oT Z aj (oR Z (zY Z (ZY aj.out) Z) (zd ?_)))
 cases dA
 exact zI ⟨Z,⟨bE,aS,cV,bK,Z,Z,Z,bL,aU,Z,(zK _),bU,dk⟩⟩
 have dB:=dC;rw [if_neg aj] at dB;replace aj:=zO aj
 refine zL Z Z Z (wF Z aj) Z Z (rU Z (wF Z aj) (yC Z Z Z) (oR Z (zZ Z (ZL aj.out) Z) (zd ?_)))
 cases dB
 exact zI ⟨Z,⟨bE,aS,cV,bK,Z,Z,Z,bL,aU,Z,(zK _),bU,dk⟩⟩
 rintro lI jM ⟨aZ,aT,cX,cY,cZ,da,fW,db,de,df,az,dt,dl⟩
 refine ifc dz ?_ ?_
 intro bG bu
 refine ZH (df.trans (congrArg nD bG.out)) (rR fL1 Z (oA Z Z (eN (sR fL2 Z (oM Z Z (oM Z Z (eN (zf ?_))))))))
 have q:=wCY bu
 obtain ⟨lh,bk⟩:=q
 have q:=wCh bk
 obtain ⟨ci,il⟩:=q
 replace ci:=zO ci
 refine ya (fun ah dK σ_ w_=>∃ (U_:PHeap) (aW:List Res),σ_ 32=jV (↑ah:Int)/\σ_ 0=.func (.yield y) #[] #[]/\σ_ 1=.pointer (some ⟨ap,0,none⟩)/\σ_ 3=jV (↑ab:Int)/\σ_ 4=jV ai/\σ_ 17=.agg B0.toArray/\σ_ 18=jV (↑ab:Int)/\σ_ 31=jV 1/\PHeap.Le aZ U_/\St ⟨w,L,U⟩ U_ aW w_/\PY dK U_ aW) il ?_ ?_ ?_
 exact ⟨aZ,aT,Z,cX,cY,cZ,da,db,de,Z,(zK _),dt,dl⟩
 rintro ah dK lp lJ jN bZ ⟨cH,aW,bS,fY,fZ,ga,dg,gb,ge,dh,cp,g7,gp⟩ bw dx
 have cM:Hid ((↑ah:Int) < 1):=zO (wBs bZ)
 replace bZ:=zO bZ
 have im:Hid (w64 ((↑ah:Int) + 1)=(↑(ah + 1):Int)):=zO (by have h1:=ci.out;have h2:=cM.out;rw [wAb] <;> omega)
 refine sR fL1 Z (oR Z (zP Z bS dh) (eN (zN (cT Z cM (kN (zN (zf (sR fL2 Z (oM Z bS (oA Z Z (eN (sR fL2 Z (oM Z dg (oM Z Z (eN (zf ?_))))))))))))))))
 have q:=wCY bw
 obtain ⟨k9,bh⟩:=q
 have q:=wCh bh
 obtain ⟨cb,ig⟩:=q
 replace cb:=zO cb
 refine ya (fun ak dH σ_ w_=>∃ (U_:PHeap) (bz:List Res),σ_ 36=jV (↑ak:Int)/\σ_ 0=.func (.yield y) #[] #[]/\σ_ 1=.pointer (some ⟨ap,0,none⟩)/\σ_ 3=jV (↑ab:Int)/\σ_ 4=jV ai/\σ_ 6=jV (↑ah:Int)/\σ_ 17=.agg B0.toArray/\σ_ 18=jV (↑ab:Int)/\σ_ 31=jV 1/\σ_ 32=jV (↑ah:Int)/\σ_ 35=jV ai/\PHeap.Le cH U_/\St ⟨w,L,U⟩ U_ bz w_/\PY dH U_ bz) ig ?_ ?_ ?_
 exact ⟨cH,aW,Z,fY,fZ,ga,dg,Z,gb,ge,dh,bS,Z,(zK _),g7,gp⟩
 rintro ak dH li ly jB bV ⟨jz,bz,bP,bH,eJ,bI,eK,bJ,eL,eM,eO,eQ,cR,cj,gJ,gu⟩ iV du
 have cN:Hid ((↑ak:Int) < ai):=zO (wBs bV)
 replace bV:=zO bV
 have io:Hid (w64 ((↑ak:Int) + 1)=(↑(ak + 1):Int)):=zO (by have h1:=cb.out;have h2:=cN.out;rw [wAb] <;> omega)
 refine sR fL1 Z (oR Z (zP Z bP cR) (eN (zN (cT Z cN (kN (zN (zf (sR fL2 Z (oM Z bP (oA Z Z (eN (sR (wDC (.fx 5 (wQX gAt) .stop)) Z (oM Z bH (oM Z bI (oM Z bJ (oM Z Z ?_))))))))))))))))
 let B1:List Value:=[jV 0,jV 0,jV 0,.bool false]
 refine oR Z (zw (pv:=[(0,jV (↑ab:Int)),(1,jV (↑ah:Int)),(2,jV (↑ak:Int)),(3,.bool true)]) (z:=B1) (cs:=[jV (↑ab:Int),jV (↑ah:Int),jV (↑ak:Int),.bool true]) Z (wAC Z (wAC Z (wAC Z (wAC Z wAV)))) Tryz.zeroValue118 wFu Z Z) (bnK iV fun ju gv bo=>OKS.yieldT 0 (a:=(⟨(↑ab:Int),(↑ah:Int),(↑ak:Int),true⟩:wAK)) Z Z Z Z Z Z (zB Z zM) gJ hY (((au.trans az).trans cp).trans cj) gu Z gv Z ?_)
 rintro bD cC jO cI dD dm ba
 rcases ju with jb | jb
 try dsimp only at bo ba
 obtain ⟨rfl,iM⟩:=ba
 have gK:St ⟨w,L,U⟩ bD cC cI:=dm
 refine oR Z (Zb Z Z) (oM Z Z (zL Z Z Z (zR Z Z Z) Z bH (zL Z Z Z (zR Z Z Z) Z bI (zL Z Z Z (zR Z Z Z) Z bJ (zL Z Z Z (zR Z Z Z) Z Z (zV Z Z Z (zR Z Z Z) (fun _=>zw (pv:=[(0,jV (↑ab:Int)),(1,jV (↑ah:Int)),(2,jV (↑ak:Int)),(3,.bool false)]) (z:=B1) (cs:=[jV (↑ab:Int),jV (↑ah:Int),jV (↑ak:Int),.bool false]) Z (wAC Z (wAC Z (wAC Z (wAC Z wAV)))) Tryz.zeroValue118 wFu Z Z) (bnK bo fun jv gw bp=>OKS.yieldT 0 (a:=(⟨(↑ab:Int),(↑ah:Int),(↑ak:Int),false⟩:wAK)) Z Z Z (zR Z Z Z) Z Z (zB Z zM) gK hY ((((au.trans az).trans cp).trans cj).trans dD) iM Z gw Z ?_)))))))
 rintro aX bA jP cJ iY dp bb
 rcases jv with jc | jc
 try dsimp only at bp bb
 obtain ⟨rfl,iN⟩:=bb
 have gL:St ⟨w,L,U⟩ aX bA cJ:=dp
 refine zV Z Z Z (zR Z Z Z) (fun _=>Zb Z Z) (oR Z (zZ Z Z Z) (eN (zn Z (ZS (zm (zI (rR fL2 Z (oR Z (Zc (zU Z bP Z) (congrArg (jV) io.out)) (oM Z Z (zd ?_))))))))))
 have q:=nB bp
 obtain rfl:=q
 exact zI ⟨Z,_,Z,⟨aX,bA,Z,bH,eJ,bI,eK,bJ,eL,eM,eO,eQ,cR,((cj.trans dD).trans iY),gL,iN⟩⟩
 try dsimp only at bp bb
 obtain ⟨rfl,iO⟩:=bb
 have gM:St ⟨w,L,U⟩ aX bA cJ:=dp
 refine zV Z Z Z (zR Z Z Z) (fun _=>Zb Z Z) (oR Z (zZ Z Z Z) (eN (ZH Z (zS (zo (zW ?_))))))
 have q:=wAe bp
 obtain ⟨jg,ir,d5⟩:=q
 have q:=wCA bw bh (du jg d5)
 obtain rfl:=q
 refine zW (zo (zo (zW ?_)))
 have q:=wAe ir
 obtain ⟨jh,it,d7⟩:=q
 have q:=wCA bu bk (dx jh d7)
 obtain rfl:=q
 refine zW (zo (zo (zW ?_)))
 have q:=wAe it
 obtain ⟨ji,iu,d9⟩:=q
 have q:=wCA hm av (bn ji d9)
 obtain rfl:=q
 refine zW (zo ?_)
 cases iu
 exact ⟨Z,_,(wDk),aX,_,gM,iO⟩
 try dsimp only at bo ba
 obtain ⟨rfl,iP⟩:=ba
 have gN:St ⟨w,L,U⟩ bD cC cI:=dm
 refine oR Z (Zb Z Z) (oM Z Z (oN Z (oN Z (oN Z (oN Z (oN Z (OKS.px Z Z Z (ZA Z Z Z Z) (oN Z (oR Z (zY Z Z Z) (eN (ZH Z (zS (zo (zW ?_))))))))))))))
 have q:=wAe bo
 obtain ⟨jj,iv,eg⟩:=q
 have q:=wCA bw bh (du jj eg)
 obtain rfl:=q
 refine zW (zo (zo (zW ?_)))
 have q:=wAe iv
 obtain ⟨jk,iw,eh⟩:=q
 have q:=wCA bu bk (dx jk eh)
 obtain rfl:=q
 refine zW (zo (zo (zW ?_)))
 have q:=wAe iw
 obtain ⟨jl,iz,eu⟩:=q
 have q:=wCA hm av (bn jl eu)
 obtain rfl:=q
 refine zW (zo ?_)
 cases iz
 exact ⟨Z,_,(wDk),bD,_,gN,iP⟩
 rintro lq lB jD ⟨dP,dL,gf,eU,eV,eW,eX,jS,eY,eZ,fb,fc,fd,iZ,gO,gz⟩ g8
 have iA:=wDe bw bh g8
 have dV:Hid (¬ ((↑((ai:Int) - 0).toNat:Int) < ai)):=zO (wBM)
 refine sR fL1 Z (oR Z (zP Z gf fd) (eN (zN (cF Z dV (ZX (zj (zj (ZN (zm (zI (rR fL2 Z (oR Z (Zc (zU Z fc Z) (congrArg (jV) im.out)) (oM Z Z (zd ?_))))))))))))))
 have q:=nB iA
 obtain rfl:=q
 exact zI ⟨Z,_,Z,⟨dP,dL,Z,eU,eV,eW,eX,eY,eZ,fb,(cp.trans iZ),gO,gz⟩⟩
 rintro lu lC jE ⟨dQ,dM,gg,ff,fh,jU,jW,fj,fm,fq,i7,gP,gA⟩ g9
 have iB:=wDe bu bk g9
 have dW:Hid (¬ ((↑((1:Int) - 0).toNat:Int) < 1)):=zO (wBM)
 refine sR fL1 Z (oR Z (zP Z gg fq) (eN (zN (cF Z dW (ZX (zj (zj (ZN (zm (zI (rR fL2 Z (oR Z (Zc (zU Z fm Z) (congrArg (jV) dy.out)) (oM Z Z (zd ?_))))))))))))))
 have q:=nB iB
 obtain rfl:=q
 exact zI ⟨Z,_,Z,⟨dQ,dM,Z,ff,fh,fj,((au.trans az).trans i7),gP,gA⟩⟩
 intro bG bq
 refine zn (df.trans (congrArg nD (nE.2 bG.out))) (kN (sR fL2 Z (oM Z fW (oM Z Z (eN (zf ?_))))))
 have q:=wCY bq
 obtain ⟨lf,bi⟩:=q
 have q:=wCh bi
 obtain ⟨cf,ij⟩:=q
 replace cf:=zO cf
 refine ya (fun ae dI σ_ w_=>∃ (U_:PHeap) (aV:List Res),σ_ 32=jV (↑ae:Int)/\σ_ 0=.func (.yield y) #[] #[]/\σ_ 1=.pointer (some ⟨ap,0,none⟩)/\σ_ 3=jV (↑ab:Int)/\σ_ 4=jV ai/\σ_ 17=.agg B0.toArray/\σ_ 18=jV (↑ab:Int)/\σ_ 31=jV (↑p1.Starts.length:Int)/\PHeap.Le aZ U_/\St ⟨w,L,U⟩ U_ aV w_/\PY dI U_ aV) ij ?_ ?_ ?_
 exact ⟨aZ,aT,Z,cX,cY,cZ,da,db,de,Z,(zK _),dt,dl⟩
 rintro ae dI lm lD jG bX ⟨cG,aV,bQ,ft,fu,fw,cS,fy,fz,cU,cm,gQ,gB⟩ bv dv
 have cO:Hid ((↑ae:Int) < (↑p1.Starts.length:Int)):=zO (wBs bX)
 replace bX:=zO bX
 have ip:Hid (w64 ((↑ae:Int) + 1)=(↑(ae + 1):Int)):=zO (by have h1:=cf.out;have h2:=cO.out;rw [wAb] <;> omega)
 refine sR fL1 Z (oR Z (zP Z bQ cU) (eN (zN (cT Z cO (kN (zN (zf (sR fL2 Z (oM Z bQ (oA Z Z (eN (sR fL2 Z (oM Z cS (oM Z Z (eN (zf ?_))))))))))))))))
 have q:=wCY bv
 obtain ⟨lg,bj⟩:=q
 have q:=wCh bj
 obtain ⟨cg,ik⟩:=q
 replace cg:=zO cg
 refine ya (fun am dJ σ_ w_=>∃ (U_:PHeap) (bB:List Res),σ_ 36=jV (↑am:Int)/\σ_ 0=.func (.yield y) #[] #[]/\σ_ 1=.pointer (some ⟨ap,0,none⟩)/\σ_ 3=jV (↑ab:Int)/\σ_ 4=jV ai/\σ_ 6=jV (↑ae:Int)/\σ_ 17=.agg B0.toArray/\σ_ 18=jV (↑ab:Int)/\σ_ 31=jV (↑p1.Starts.length:Int)/\σ_ 32=jV (↑ae:Int)/\σ_ 35=jV ai/\PHeap.Le cG U_/\St ⟨w,L,U⟩ U_ bB w_/\PY dJ U_ bB) ik ?_ ?_ ?_
 exact ⟨cG,aV,Z,ft,fu,fw,cS,Z,fy,fz,cU,bQ,Z,(zK _),gQ,gB⟩
 rintro am dJ ln lE jH bY ⟨jA,bB,bR,bM,fA,bN,fB,bO,fC,fD,fE,fG,cW,cn,gR,gC⟩ iX dw
 have cP:Hid ((↑am:Int) < ai):=zO (wBs bY)
 replace bY:=zO bY
 have iq:Hid (w64 ((↑am:Int) + 1)=(↑(am + 1):Int)):=zO (by have h1:=cg.out;have h2:=cP.out;rw [wAb] <;> omega)
 refine sR fL1 Z (oR Z (zP Z bR cW) (eN (zN (cT Z cP (kN (zN (zf (sR fL2 Z (oM Z bR (oA Z Z (eN (sR (wDC (.fx 5 (wQX gAt) .stop)) Z (oM Z bM (oM Z bN (oM Z bO (oM Z Z ?_))))))))))))))))
 let B2:List Value:=[jV 0,jV 0,jV 0,.bool false]
 refine oR Z (zw (pv:=[(0,jV (↑ab:Int)),(1,jV (↑ae:Int)),(2,jV (↑am:Int)),(3,.bool true)]) (z:=B2) (cs:=[jV (↑ab:Int),jV (↑ae:Int),jV (↑am:Int),.bool true]) Z (wAC Z (wAC Z (wAC Z (wAC Z wAV)))) Tryz.zeroValue118 wFu Z Z) (bnK iX fun jw gD br=>OKS.yieldT 0 (a:=(⟨(↑ab:Int),(↑ae:Int),(↑am:Int),true⟩:wAK)) Z Z Z Z Z Z (zB Z zM) gR hY (((au.trans az).trans cm).trans cn) gC Z gD Z ?_)
 rintro bF cD jQ cK dE dq bf
 rcases jw with jd | jd
 try dsimp only at br bf
 obtain ⟨rfl,iQ⟩:=bf
 have gS:St ⟨w,L,U⟩ bF cD cK:=dq
 refine oR Z (Zb Z Z) (oM Z Z (zL Z Z Z (zR Z Z Z) Z bM (zL Z Z Z (zR Z Z Z) Z bN (zL Z Z Z (zR Z Z Z) Z bO (zL Z Z Z (zR Z Z Z) Z Z (zV Z Z Z (zR Z Z Z) (fun _=>zw (pv:=[(0,jV (↑ab:Int)),(1,jV (↑ae:Int)),(2,jV (↑am:Int)),(3,.bool false)]) (z:=B2) (cs:=[jV (↑ab:Int),jV (↑ae:Int),jV (↑am:Int),.bool false]) Z (wAC Z (wAC Z (wAC Z (wAC Z wAV)))) Tryz.zeroValue118 wFu Z Z) (bnK br fun jx gE bt=>OKS.yieldT 0 (a:=(⟨(↑ab:Int),(↑ae:Int),(↑am:Int),false⟩:wAK)) Z Z Z (zR Z Z Z) Z Z (zB Z zM) gS hY ((((au.trans az).trans cm).trans cn).trans dE) iQ Z gE Z ?_)))))))
 rintro aY bC jR cL i8 dr bg
 rcases jx with je | je
 try dsimp only at bt bg
 obtain ⟨rfl,iR⟩:=bg
 have gT:St ⟨w,L,U⟩ aY bC cL:=dr
 refine zV Z Z Z (zR Z Z Z) (fun _=>Zb Z Z) (oR Z (zZ Z Z Z) (eN (zn Z (ZS (zm (zI (rR fL2 Z (oR Z (Zc (zU Z bR Z) (congrArg (jV) iq.out)) (oM Z Z (zd ?_))))))))))
 have q:=nB bt
 obtain rfl:=q
 exact zI ⟨Z,_,Z,⟨aY,bC,Z,bM,fA,bN,fB,bO,fC,fD,fE,fG,cW,((cn.trans dE).trans i8),gT,iR⟩⟩
 try dsimp only at bt bg
 obtain ⟨rfl,iT⟩:=bg
 have gU:St ⟨w,L,U⟩ aY bC cL:=dr
 refine zV Z Z Z (zR Z Z Z) (fun _=>Zb Z Z) (oR Z (zZ Z Z Z) (eN (ZH Z (zS (zo (zW ?_))))))
 have q:=wAe bt
 obtain ⟨jm,iC,eA⟩:=q
 have q:=wCA bv bj (dw jm eA)
 obtain rfl:=q
 refine zW (zo (zo (zW ?_)))
 have q:=wAe iC
 obtain ⟨jo,iD,eD⟩:=q
 have q:=wCA bq bi (dv jo eD)
 obtain rfl:=q
 refine zW (zo (zo (zW ?_)))
 have q:=wAe iD
 obtain ⟨jp,iE,eE⟩:=q
 have q:=wCA hm av (bn jp eE)
 obtain rfl:=q
 refine zW (zo ?_)
 cases iE
 exact ⟨Z,_,(wDk),aY,_,gU,iT⟩
 try dsimp only at br bf
 obtain ⟨rfl,iU⟩:=bf
 have gW:St ⟨w,L,U⟩ bF cD cK:=dq
 refine oR Z (Zb Z Z) (oM Z Z (oN Z (oN Z (oN Z (oN Z (oN Z (OKS.px Z Z Z (ZA Z Z Z Z) (oN Z (oR Z (zY Z Z Z) (eN (ZH Z (zS (zo (zW ?_))))))))))))))
 have q:=wAe br
 obtain ⟨jq,iG,eF⟩:=q
 have q:=wCA bv bj (dw jq eF)
 obtain rfl:=q
 refine zW (zo (zo (zW ?_)))
 have q:=wAe iG
 obtain ⟨jr,iH,eH⟩:=q
 have q:=wCA bq bi (dv jr eH)
 obtain rfl:=q
 refine zW (zo (zo (zW ?_)))
 have q:=wAe iH
 obtain ⟨jt,iI,eI⟩:=q
 have q:=wCA hm av (bn jt eI)
 obtain rfl:=q
 refine zW (zo ?_)
 cases iI
 exact ⟨Z,_,(wDk),bF,_,gW,iU⟩
 rintro lv lF jJ ⟨dR,dN,gh,fH,fJ,fK,fL,jX,fM,fN,fO,fP,fQ,i9,gX,gG⟩ ib
 have iJ:=wDe bv bj ib
 have dX:Hid (¬ ((↑((ai:Int) - 0).toNat:Int) < ai)):=zO (wBM)
 refine sR fL1 Z (oR Z (zP Z gh fQ) (eN (zN (cF Z dX (ZX (zj (zj (ZN (zm (zI (rR fL2 Z (oR Z (Zc (zU Z fP Z) (congrArg (jV) ip.out)) (oM Z Z (zd ?_))))))))))))))
 have q:=nB iJ
 obtain rfl:=q
 exact zI ⟨Z,_,Z,⟨dR,dN,Z,fH,fJ,fK,fL,fM,fN,fO,(cm.trans i9),gX,gG⟩⟩
 rintro lw lG jK ⟨dS,dO,gi,fR,fS,jY,jZ,fT,fU,fV,ja,gZ,gH⟩ ic
 have iK:=wDe bq bi ic
 have dY:Hid (¬ ((↑(((↑p1.Starts.length:Int):Int) - 0).toNat:Int) < (↑p1.Starts.length:Int))):=zO (wBM)
 refine sR fL1 Z (oR Z (zP Z gi fV) (eN (zN (cF Z dY (ZX (zj (zj (ZN (zm (zI (rR fL2 Z (oR Z (Zc (zU Z fU Z) (congrArg (jV) dy.out)) (oM Z Z (zd ?_))))))))))))))
 have q:=nB iK
 obtain rfl:=q
 exact zI ⟨Z,_,Z,⟨dS,dO,Z,fR,fS,fT,((au.trans az).trans ja),gZ,gH⟩⟩
 rintro lx lH jL ⟨dT,jy,gm,j0,j3,j4,j9,g6,gI⟩ ie
 have iL:=wDe hm av ie
 have dZ:Hid (¬ ((↑((4:Int) - 0).toNat:Int) < 4)):=zO (wBM)
 refine sR fL1 Z (oR Z (zP Z gm Z) (eN (zN (cF Z dZ (ZX (zj (zj (ZN ?_))))))))
 cases iL
 exact ⟨Z,_,(wDk),dT,_,g6,gI⟩
theorem wGJ (p0:wAD) (ae:Option Addr) (ak:Nat) (ah:Option Addr) (am:Nat) (ai:Option Addr) (ap:Nat) (aj:Option Addr) (aq:Nat) (w:World) (U:PHeap) (hS:St0 w U []) (aX:Sl U 1 ae ak p0.Starts.length (nA KL.encI p0.Starts)) (aY:Sl U 2 ah am p0.Splits.length (nA wAP p0.Splits)) (aZ:Sl U 3 ai ap p0.Clocks.length (nA wAA p0.Clocks)) (ba:Sl U 4 aj aq p0.Readings.length (nA wAL p0.Readings)) {r:Unit} (hm:wCU p0=some r):Gv Tryz.prog 73 [.agg #[.slice ae p0.Starts.length ak,.slice ah p0.Splits.length am,.slice ai p0.Clocks.length ap,.slice aj p0.Readings.length aq]] w (wCQ w [] U (fun U_ L_ v=>∃ (b0:Nat),v=.func (.func 94) #[] #[.pointer (some ⟨b0,0,none⟩)]/\L_=[]/\Cl U_ b0 0 [.slice ae p0.Starts.length ak,.slice ah p0.Splits.length am,.slice ai p0.Clocks.length ap,.slice aj p0.Readings.length aq])):=by
 unfold wCU at hm
 refine Gv.of Tryz.func73 Z Tryz.ntmps73 Tryz.results73 Z (sR gAk Z ?_)
 let B0:List Value:=[.slice ae p0.Starts.length ak,.slice ah p0.Splits.length am,.slice ai p0.Clocks.length ap,.slice aj p0.Readings.length aq]
 refine ZG (cs:=B0) rfl rfl rfl rfl rfl rfl (by rfl) hS ?_
 intro W1 b2 aU
 have q:=aU.freeze (k:=0) rfl
 obtain ⟨U5,bb,ab,aV⟩:=q
 replace ab:=Cl.of ab
 have aW:sW w U U5 [] W1:=aV
 replace ab:Cl U5 b2 0 B0:=ab
 refine oA Z Z (eN (sR fL2 Z (oR Z (Runs.mkf Z zM (zB Z zM)) (oA Z Z (eN (zS ?_))))))
 cases hm
 exact ⟨Z,_,(ZT Z),U5,_,aW,b2,Z,Z,ab⟩
end Go.Proofs.YtkeeechdijfkhaaGreat
namespace Go.Proofs.YtkeeechdijfkhaaGreat
open Go.KL
set_option maxHeartbeats 4000000
theorem wHp (p0:wAD) (aZ:Option Addr) (bg:Nat) (ba:Option Addr) (bh:Nat) (bb:Option Addr) (bi:Nat) (bf:Option Addr) (bj:Nat) (p1:wAK) (w:World) (U:PHeap) (hS:St0 w U []) (cn:Sl U 1 aZ bg p0.Starts.length (nA KL.encI p0.Starts)) (cp:Sl U 2 ba bh p0.Splits.length (nA wAP p0.Splits)) (cq:Sl U 3 bb bi p0.Clocks.length (nA wAA p0.Clocks)) (cr:Sl U 4 bf bj p0.Readings.length (nA wAL p0.Readings)) {r:wAF × wAF} (hm:wDN p0 p1=some r):Gv Tryz.prog 105 [.agg #[.slice aZ p0.Starts.length bg,.slice ba p0.Splits.length bh,.slice bb p0.Clocks.length bi,.slice bf p0.Readings.length bj],.agg #[jV p1.Kind,jV p1.Skier,jV p1.Index,.bool p1.Up]] w (wCQ w [] U (fun U_ L_ v=>v=.tuple #[.agg #[jV r.1.skier,jV r.1.mat],.agg #[jV r.2.skier,jV r.2.mat]]/\L_=[])):=by
 unfold wDN at hm
 refine Gv.of Tryz.func105 Z Tryz.ntmps105 Tryz.results105 Z (sR gBa Z ?_)
 let B0:List Value:=[.slice aZ p0.Starts.length bg,.slice ba p0.Splits.length bh,.slice bb p0.Clocks.length bi,.slice bf p0.Readings.length bj]
 refine ZG (cs:=B0) rfl rfl rfl rfl rfl rfl (by rfl) hS ?_
 intro W1 b2 bH
 let B1:List Value:=[jV p1.Kind,jV p1.Skier,jV p1.Index,.bool p1.Up]
 refine ZG (cs:=B1) rfl rfl rfl rfl rfl rfl (by rfl) bH ?_
 intro W5 b6 bQ
 let B2:List Value:=[jV 0,jV 0]
 refine zX (cs:=B2) Z Z Z Z Z zh Z bQ ?_
 intro W9 ak bF
 refine zX (cs:=B2) Z Z Z Z Z zh Z bF ?_
 intro bk am bG
 refine eN ?_
 have q:=bnd hm
 obtain ⟨⟨bZ,cb⟩,bX,bp⟩:=q
 try dsimp only at bp
 let B3:List Value:=[jV p1.Skier,jV 0]
 let B4:List Value:=[jV bZ,jV cb]
 refine Zp (fun σ_ w_=>∃ (U_:PHeap),σ_ 4=.pointer (some ⟨ak,0,none⟩)/\σ_ 5=.pointer (some ⟨am,0,none⟩)/\PHeap.Le U U_/\sW w U U_ [.blk am 68 B3,.blk ak 68 B4,.blk b6 118 B1,.blk b2 28 B0] w_) ?_ ?_
 refine bnK bX fun x22 bn aY=>zt zq [2,3,2,3,0,0] (.fl 1 (.fx 0 (.fx 2 (.fl 3 gAl) (.fx 4 (.fx 2 (.fl 3 (.fx 5 .nil .stop)) .stop) .stop)) (.fx 2 (.fl 3 (.fx 0 gAl .stop)) .stop))) (by kernel_rfl) ?_
 have az:=bG.drew
 generalize hw_W40:({ bk with drawn:=bk.drawn + 1 }:World)=bm at az ⊢
 refine oR Z (zJ Z Z zr Z zC) (zi ?_ ?_)
 refine zH 0 Z Z Z Z (zG Z Z yG zM Z) az (fun hs=>wBQ bm U hs bn) (.inr Z) ?_
 rintro au cd cu bt bq bI ⟨rfl,rfl⟩
 have aW:sW w U au [.blk am 68 B2,.blk ak 68 B2,.blk b6 118 B1,.blk b2 28 B0] bt:=bI
 refine zi ?_ ?_
 refine zu Z Z Z Z (aW.ldB (j:=2) Z Z Z zE (v:=jV p1.Skier) Z) (oR Z (zw (pv:=[(0,jV p1.Skier),(1,jV 0)]) (z:=B2) (cs:=B3) Z (wAC Z (wAC Z wAV)) zh wBr Z Z) ?_)
 let B5:List Value:=[jV x22.skier,jV x22.mat]
 refine ze (j:=1) (vs:=B5) Z Z Z Z aW Z Z Z Z zF (zA Z) Z Z Z ?_
 intro bu bJ
 have bK:sW w U au [.blk am 68 B2,.blk ak 68 B5,.blk b6 118 B1,.blk b2 28 B0] bu:=bJ
 refine ze (j:=0) (vs:=B3) Z Z Z Z bK Z Z Z Z zF (zA Z) Z Z Z ?_
 intro bv bL
 have bM:sW w U au [.blk am 68 B3,.blk ak 68 B5,.blk b6 118 B1,.blk b2 28 B0] bv:=bL
 refine zd ?_
 cases aY
 exact zI ⟨Z,⟨au,Z,Z,bq,bM⟩⟩
 let B6:List Value:=[jV x22.skier,jV x22.mat]
 refine ze (j:=1) (vs:=B6) Z Z Z Z aW Z Z Z Z zF (zA Z) Z Z Z ?_
 intro bw bN
 have bo:sW w U au [.blk am 68 B2,.blk ak 68 B6,.blk b6 118 B1,.blk b2 28 B0] bw:=bN
 refine zu Z Z Z Z (bo.ldB (j:=2) Z Z Z zE (v:=jV p1.Skier) Z) (oR Z (zw (pv:=[(0,jV p1.Skier),(1,jV 0)]) (z:=B2) (cs:=B3) Z (wAC Z (wAC Z wAV)) zh wBr Z Z) (ze (j:=0) (vs:=B3) Z Z Z Z bo Z Z Z Z zF (zA Z) Z Z Z ?_))
 intro bz bO
 have bP:sW w U au [.blk am 68 B3,.blk ak 68 B6,.blk b6 118 B1,.blk b2 28 B0] bz:=bO
 refine zd ?_
 cases aY
 exact zI ⟨Z,⟨au,Z,Z,bq,bP⟩⟩
 refine zu Z Z Z Z (az.ldB (j:=2) Z Z Z zE (v:=jV p1.Skier) Z) (oR Z (zw (pv:=[(0,jV p1.Skier),(1,jV 0)]) (z:=B2) (cs:=B3) Z (wAC Z (wAC Z wAV)) zh wBr Z Z) (zH 0 Z Z Z Z (zG Z Z yG zM Z) az (fun hs=>wBQ bm U hs bn) (.inr Z) ?_))
 rintro av cf cw bA bY bR ⟨rfl,rfl⟩
 have bS:sW w U av [.blk am 68 B2,.blk ak 68 B2,.blk b6 118 B1,.blk b2 28 B0] bA:=bR
 let B7:List Value:=[jV x22.skier,jV x22.mat]
 refine ze (j:=1) (vs:=B7) Z Z Z Z bS Z Z Z Z zF (zA Z) Z Z Z ?_
 intro bB bT
 have bU:sW w U av [.blk am 68 B2,.blk ak 68 B7,.blk b6 118 B1,.blk b2 28 B0] bB:=bT
 refine ze (j:=0) (vs:=B3) Z Z Z Z bU Z Z Z Z zF (zA Z) Z Z Z ?_
 intro bC bV
 have bW:sW w U av [.blk am 68 B3,.blk ak 68 B7,.blk b6 118 B1,.blk b2 28 B0] bC:=bV
 refine zd ?_
 cases aY
 exact zI ⟨Z,⟨av,Z,Z,bY,bW⟩⟩
 rintro cx cj ⟨br,bD,bE,ct,aX⟩
 refine zS ?_
 cases bp
 exact ⟨rfl,_,(wEL (rs:=[.cell 4 68,.cell 5 68]) (vs:=[.agg B4.toArray,.agg B3.toArray]) ⟨⟨_,bD,(wBT zg zF (aX.blkAt (k:=1) rfl) (vs:=B4) rfl rfl)⟩,⟨⟨_,bE,(wBT zg zF (aX.blkAt (k:=0) rfl) (vs:=B3) rfl rfl)⟩,trivial⟩⟩ rfl),br,_,(aX.pick [] _ (by decide) rfl),rfl,rfl⟩
theorem wHq (p0:wAD) (ai:Option Addr) (aj:Nat) (ak:Option Addr) (aq:Nat) (am:Option Addr) (au:Nat) (ap:Option Addr) (av:Nat) (p1:wAK) (w:World) (U:PHeap) (hS:St0 w U []) (aS:Sl U 1 ai aj p0.Starts.length (nA KL.encI p0.Starts)) (bk:Sl U 2 ak aq p0.Splits.length (nA wAP p0.Splits)) (bm:Sl U 3 am au p0.Clocks.length (nA wAA p0.Clocks)) (bn:Sl U 4 ap av p0.Readings.length (nA wAL p0.Readings)) {r:Int × Int} (hm:wDO p0 p1=some r):Gv Tryz.prog 106 [.agg #[.slice ai p0.Starts.length aj,.slice ak p0.Splits.length aq,.slice am p0.Clocks.length au,.slice ap p0.Readings.length av],.agg #[jV p1.Kind,jV p1.Skier,jV p1.Index,.bool p1.Up]] w (wCQ w [] U (fun U_ L_ v=>v=.tuple #[jV r.1,jV r.2]/\L_=[])):=by
 unfold wDO at hm
 refine Gv.of Tryz.func106 rfl Tryz.ntmps106 Tryz.results106 rfl (sR gBb rfl (ZG (cs:=[.slice ai p0.Starts.length aj,.slice ak p0.Splits.length aq,.slice am p0.Clocks.length au,.slice ap p0.Readings.length av]) rfl rfl rfl rfl rfl rfl (by rfl) hS ?_))
 intro W1 b2 aY
 refine ZG (cs:=[jV p1.Kind,jV p1.Skier,jV p1.Index,.bool p1.Up]) rfl rfl rfl rfl rfl rfl (by rfl) aY ?_
 intro W5 b6 aZ
 refine Zx rfl rfl rfl rfl rfl rfl (Zx rfl rfl rfl rfl rfl rfl (eN (zN (zt zq [3,1,3,1,3,1,3,1,3,1,3,1,3,3,3] fL15 (by kernel_rfl) ?_))))
 have ae:=aZ.drew
 generalize hw_W10:({ W5 with drawn:=W5.drawn + 1 }:World)=bf at ae ⊢
 refine oR Z (zJ Z Z zQ Z zy) (oL Z (ae.ldB (j:=1) Z Z Z ZI (v:=.slice ai p0.Starts.length aj) Z) (oR Z (zJ Z Z zr Z zC) (oL Z (ae.ldB (j:=0) Z Z Z zE (v:=jV p1.Skier) Z) (bnK hm fun aT ah ba=>?_))))
 have q:=aS.el (fun _=>rfl) (wBB ah)
 obtain ⟨bg,bo,aU,aW⟩:=q
 refine oR Z (zl Z Z aU Z zD zC (wCC ah) (wCL ah)) (oL Z (ae.ldC (f:=0) aW (v:=jV aT) Z Z zE Z) (oR Z (zJ Z Z zQ Z zy) (oL Z (ae.ldB (j:=1) Z Z Z ZI (v:=.slice ai p0.Starts.length aj) Z) (oR Z (zJ Z Z zr Z zC) (oL Z (ae.ldB (j:=0) Z Z Z zE (v:=jV p1.Skier) Z) ?_)))))
 have q:=aS.el (fun _=>rfl) (wBB ah)
 obtain ⟨bh,bp,aV,aX⟩:=q
 refine oR Z (zl Z Z aV Z zD zC (wCC ah) (wCL ah)) (oL Z (ae.ldC (f:=0) aX (v:=jV aT) Z Z zE Z) (oR Z (Runs.negw Z Z) (oA Z Z (oA Z Z (eN (zS ?_))))))
 cases ba
 exact ⟨rfl,_,(wHd rfl rfl),U,_,(ae.pick [] _ (by decide) rfl),rfl,rfl⟩
theorem wHr (p0:wAD) (aU:Option Addr) (aY:Nat) (aV:Option Addr) (aZ:Nat) (aW:Option Addr) (ba:Nat) (aX:Option Addr) (bb:Nat) (p1:wAK) (w:World) (U:PHeap) (hS:St0 w U []) (cg:Sl U 1 aU aY p0.Starts.length (nA KL.encI p0.Starts)) (ci:Sl U 2 aV aZ p0.Splits.length (nA wAP p0.Splits)) (cj:Sl U 3 aW ba p0.Clocks.length (nA wAA p0.Clocks)) (cm:Sl U 4 aX bb p0.Readings.length (nA wAL p0.Readings)) {r:wAF × wAF} (hm:wDP p0 p1=some r):Gv Tryz.prog 108 [.agg #[.slice aU p0.Starts.length aY,.slice aV p0.Splits.length aZ,.slice aW p0.Clocks.length ba,.slice aX p0.Readings.length bb],.agg #[jV p1.Kind,jV p1.Skier,jV p1.Index,.bool p1.Up]] w (wCQ w [] U (fun U_ L_ v=>v=.tuple #[.agg #[jV r.1.skier,jV r.1.mat],.agg #[jV r.2.skier,jV r.2.mat]]/\L_=[])):=by
 unfold wDP at hm
 refine Gv.of Tryz.func108 Z Tryz.ntmps108 Tryz.results108 Z (sR gBa Z ?_)
 let B0:List Value:=[.slice aU p0.Starts.length aY,.slice aV p0.Splits.length aZ,.slice aW p0.Clocks.length ba,.slice aX p0.Readings.length bb]
 refine ZG (cs:=B0) rfl rfl rfl rfl rfl rfl (by rfl) hS ?_
 intro W1 b2 bE
 let B1:List Value:=[jV p1.Kind,jV p1.Skier,jV p1.Index,.bool p1.Up]
 refine ZG (cs:=B1) rfl rfl rfl rfl rfl rfl (by rfl) bE ?_
 intro W5 b6 bX
 let B2:List Value:=[jV 0,jV 0]
 refine zX (cs:=B2) Z Z Z Z Z zh Z bX ?_
 intro W9 am bB
 refine zX (cs:=B2) Z Z Z Z Z zh Z bB ?_
 intro bf ap bC
 refine eN ?_
 have q:=bnd hm
 obtain ⟨⟨⟩,aS,bi⟩:=q
 try dsimp only at bi
 let B3:List Value:=[jV p1.Skier,jV (w64 (p1.Index + 1))]
 let B4:List Value:=[jV p1.Skier,jV p1.Index]
 refine Zp (fun σ_ w_=>∃ (U_:PHeap),σ_ 4=.pointer (some ⟨am,0,none⟩)/\σ_ 5=.pointer (some ⟨ap,0,none⟩)/\PHeap.Le U U_/\sW w U U_ [.blk ap 68 B3,.blk am 68 B4,.blk b6 118 B1,.blk b2 28 B0] w_) ?_ ?_
 refine zt zq [3,1,3,1,3,3,2,3,2,3,3,0,0] (wIu (.fl 7 (.fx 6 (.fx 8 (.fl 9 gAu) (.fx 11 gBc .stop)) (.fx 8 (.fl 9 (.fx 6 gAu (.fx 11 gAv .stop))) (.fx 11 (.fx 6 gBc (.fx 8 (.fl 9 gAv) .stop)) .stop))))) (by kernel_rfl) ?_
 have av:=bC.drew
 generalize hw_W27:({ bf with drawn:=bf.drawn + 1 }:World)=bZ at av ⊢
 refine oR Z (zJ Z Z zr Z zC) (oL Z (av.ldB (j:=2) Z Z Z zE (v:=jV p1.Skier) Z) (oR Z (zJ Z Z zr Z zC) (oL Z (av.ldB (j:=2) Z Z Z zE (v:=jV p1.Index) Z) (oR Z (zw (pv:=[(0,jV p1.Skier),(1,jV p1.Index)]) (z:=B2) (cs:=B4) Z (wAC Z (wAC Z wAV)) zh wBr Z Z) (oR Z (zJ Z Z zr Z zC) (oR Z (zJ Z Z zr Z zC) (zi ?_ ?_)))))))
 refine zu Z Z Z Z (av.ldB (j:=2) Z Z Z zE (v:=jV p1.Skier) Z) (zi ?_ ?_)
 refine zu Z Z Z Z (av.ldB (j:=2) Z Z Z zE (v:=jV p1.Index) Z) (oR Z (zU Z Z Z) (oR Z (zw (pv:=[(0,jV p1.Skier),(1,jV (w64 (p1.Index + 1)))]) (z:=B2) (cs:=B3) Z (wAC Z (wAC Z wAV)) zh wBr Z Z) (ze (j:=1) (vs:=B4) Z Z Z Z av Z Z Z Z zF (zA Z) Z Z Z ?_)))
 intro bk bD
 have bF:sW w U U [.blk ap 68 B2,.blk am 68 B4,.blk b6 118 B1,.blk b2 28 B0] bk:=bD
 refine ze (j:=0) (vs:=B3) Z Z Z Z bF Z Z Z Z zF (zA Z) Z Z Z ?_
 intro bm bG
 have bH:sW w U U [.blk ap 68 B3,.blk am 68 B4,.blk b6 118 B1,.blk b2 28 B0] bm:=bG
 refine zd ?_
 cases aS
 exact zI ⟨Z,⟨U,Z,Z,(zK _),bH⟩⟩
 refine ze (j:=1) (vs:=B4) Z Z Z Z av Z Z Z Z zF (zA Z) Z Z Z ?_
 intro bn bI
 have bg:sW w U U [.blk ap 68 B2,.blk am 68 B4,.blk b6 118 B1,.blk b2 28 B0] bn:=bI
 refine zu Z Z Z Z (bg.ldB (j:=2) Z Z Z zE (v:=jV p1.Index) Z) (oR Z (zU Z Z Z) (oR Z (zw (pv:=[(0,jV p1.Skier),(1,jV (w64 (p1.Index + 1)))]) (z:=B2) (cs:=B3) Z (wAC Z (wAC Z wAV)) zh wBr Z Z) (ze (j:=0) (vs:=B3) Z Z Z Z bg Z Z Z Z zF (zA Z) Z Z Z ?_)))
 intro bo bJ
 have bK:sW w U U [.blk ap 68 B3,.blk am 68 B4,.blk b6 118 B1,.blk b2 28 B0] bo:=bJ
 refine zd ?_
 cases aS
 exact zI ⟨Z,⟨U,Z,Z,(zK _),bK⟩⟩
 refine zi ?_ ?_
 refine zu Z Z Z Z (av.ldB (j:=2) Z Z Z zE (v:=jV p1.Index) Z) (oR Z (zU Z Z Z) (zi ?_ ?_))
 refine zu Z Z Z Z (av.ldB (j:=2) Z Z Z zE (v:=jV p1.Skier) Z) (oR Z (zw (pv:=[(0,jV p1.Skier),(1,jV (w64 (p1.Index + 1)))]) (z:=B2) (cs:=B3) Z (wAC Z (wAC Z wAV)) zh wBr Z Z) (ze (j:=1) (vs:=B4) Z Z Z Z av Z Z Z Z zF (zA Z) Z Z Z ?_))
 intro bp bL
 have bM:sW w U U [.blk ap 68 B2,.blk am 68 B4,.blk b6 118 B1,.blk b2 28 B0] bp:=bL
 refine ze (j:=0) (vs:=B3) Z Z Z Z bM Z Z Z Z zF (zA Z) Z Z Z ?_
 intro bq bN
 have bO:sW w U U [.blk ap 68 B3,.blk am 68 B4,.blk b6 118 B1,.blk b2 28 B0] bq:=bN
 refine zd ?_
 cases aS
 exact zI ⟨Z,⟨U,Z,Z,(zK _),bO⟩⟩
 refine ze (j:=1) (vs:=B4) Z Z Z Z av Z Z Z Z zF (zA Z) Z Z Z ?_
 intro br bP
 have bh:sW w U U [.blk ap 68 B2,.blk am 68 B4,.blk b6 118 B1,.blk b2 28 B0] br:=bP
 refine zu Z Z Z Z (bh.ldB (j:=2) Z Z Z zE (v:=jV p1.Skier) Z) (oR Z (zw (pv:=[(0,jV p1.Skier),(1,jV (w64 (p1.Index + 1)))]) (z:=B2) (cs:=B3) Z (wAC Z (wAC Z wAV)) zh wBr Z Z) (ze (j:=0) (vs:=B3) Z Z Z Z bh Z Z Z Z zF (zA Z) Z Z Z ?_))
 intro bt bQ
 have bR:sW w U U [.blk ap 68 B3,.blk am 68 B4,.blk b6 118 B1,.blk b2 28 B0] bt:=bQ
 refine zd ?_
 cases aS
 exact zI ⟨Z,⟨U,Z,Z,(zK _),bR⟩⟩
 refine ze (j:=1) (vs:=B4) Z Z Z Z av Z Z Z Z zF (zA Z) Z Z Z ?_
 intro bu bS
 have az:sW w U U [.blk ap 68 B2,.blk am 68 B4,.blk b6 118 B1,.blk b2 28 B0] bu:=bS
 refine zi ?_ ?_
 refine zu Z Z Z Z (az.ldB (j:=2) Z Z Z zE (v:=jV p1.Skier) Z) (zu Z Z Z Z (az.ldB (j:=2) Z Z Z zE (v:=jV p1.Index) Z) (oR Z (zU Z Z Z) (oR Z (zw (pv:=[(0,jV p1.Skier),(1,jV (w64 (p1.Index + 1)))]) (z:=B2) (cs:=B3) Z (wAC Z (wAC Z wAV)) zh wBr Z Z) (ze (j:=0) (vs:=B3) Z Z Z Z az Z Z Z Z zF (zA Z) Z Z Z ?_))))
 intro bv bT
 have bU:sW w U U [.blk ap 68 B3,.blk am 68 B4,.blk b6 118 B1,.blk b2 28 B0] bv:=bT
 refine zd ?_
 cases aS
 exact zI ⟨Z,⟨U,Z,Z,(zK _),bU⟩⟩
 refine zu Z Z Z Z (az.ldB (j:=2) Z Z Z zE (v:=jV p1.Index) Z) (oR Z (zU Z Z Z) (zu Z Z Z Z (az.ldB (j:=2) Z Z Z zE (v:=jV p1.Skier) Z) (oR Z (zw (pv:=[(0,jV p1.Skier),(1,jV (w64 (p1.Index + 1)))]) (z:=B2) (cs:=B3) Z (wAC Z (wAC Z wAV)) zh wBr Z Z) (ze (j:=0) (vs:=B3) Z Z Z Z az Z Z Z Z zF (zA Z) Z Z Z ?_))))
 intro bw bV
 have bW:sW w U U [.blk ap 68 B3,.blk am 68 B4,.blk b6 118 B1,.blk b2 28 B0] bw:=bV
 refine zd ?_
 cases aS
 exact zI ⟨Z,⟨U,Z,Z,(zK _),bW⟩⟩
 rintro cp cd ⟨bj,bz,bA,cn,aT⟩
 refine zS ?_
 cases bi
 exact ⟨rfl,_,(wEL (rs:=[.cell 4 68,.cell 5 68]) (vs:=[.agg B4.toArray,.agg B3.toArray]) ⟨⟨_,bz,(wBT zg zF (aT.blkAt (k:=1) rfl) (vs:=B4) rfl rfl)⟩,⟨⟨_,bA,(wBT zg zF (aT.blkAt (k:=0) rfl) (vs:=B3) rfl rfl)⟩,trivial⟩⟩ rfl),bj,_,(aT.pick [] _ (by decide) rfl),rfl,rfl⟩
theorem wHs (p0:wAD) (ak:Option Addr) (aq:Nat) (ai:Option Addr) (aj:Nat) (am:Option Addr) (au:Nat) (ap:Option Addr) (av:Nat) (p1:wAK) (w:World) (U:PHeap) (hS:St0 w U []) (bk:Sl U 1 ak aq p0.Starts.length (nA KL.encI p0.Starts)) (aS:Sl U 2 ai aj p0.Splits.length (nA wAP p0.Splits)) (bm:Sl U 3 am au p0.Clocks.length (nA wAA p0.Clocks)) (bn:Sl U 4 ap av p0.Readings.length (nA wAL p0.Readings)) {r:Int × Int} (hm:wDQ p0 p1=some r):Gv Tryz.prog 109 [.agg #[.slice ak p0.Starts.length aq,.slice ai p0.Splits.length aj,.slice am p0.Clocks.length au,.slice ap p0.Readings.length av],.agg #[jV p1.Kind,jV p1.Skier,jV p1.Index,.bool p1.Up]] w (wCQ w [] U (fun U_ L_ v=>v=.tuple #[jV r.1,jV r.2]/\L_=[])):=by
 unfold wDQ at hm
 refine Gv.of Tryz.func109 rfl Tryz.ntmps109 Tryz.results109 rfl (sR gBb rfl (ZG (cs:=[.slice ak p0.Starts.length aq,.slice ai p0.Splits.length aj,.slice am p0.Clocks.length au,.slice ap p0.Readings.length av]) rfl rfl rfl rfl rfl rfl (by rfl) hS ?_))
 intro W1 b2 aY
 refine ZG (cs:=[jV p1.Kind,jV p1.Skier,jV p1.Index,.bool p1.Up]) rfl rfl rfl rfl rfl rfl (by rfl) aY ?_
 intro W5 b6 aZ
 refine Zx rfl rfl rfl rfl rfl rfl (Zx rfl rfl rfl rfl rfl rfl (eN (zN (zt zq [3,1,3,1,3,3,1,3,1,3,1,3,3,1,3,3,3] fL17 (by kernel_rfl) ?_))))
 have ae:=aZ.drew
 generalize hw_W10:({ W5 with drawn:=W5.drawn + 1 }:World)=bf at ae ⊢
 refine oR Z (zJ Z Z zQ Z Zz) (oL Z (ae.ldB (j:=1) Z Z Z yP (v:=.slice ai p0.Splits.length aj) Z) (oR Z (zJ Z Z zr Z zC) (oL Z (ae.ldB (j:=0) Z Z Z zE (v:=jV p1.Index) Z) (bnK hm fun aT ah ba=>?_))))
 have q:=aS.el (fun _=>rfl) (wBB ah)
 obtain ⟨bg,bo,aU,aW⟩:=q
 refine oR Z (zl Z Z aU Z Zh ZR (wCC ah) (wCL ah)) (oR Z (zJ Z Z ZE Z zC) (oL Z (ae.ldC (f:=1) aW (v:=jV aT.Hi) Z Z zE Z) (oR Z (zJ Z Z zQ Z Zz) (oL Z (ae.ldB (j:=1) Z Z Z yP (v:=.slice ai p0.Splits.length aj) Z) (oR Z (zJ Z Z zr Z zC) (oL Z (ae.ldB (j:=0) Z Z Z zE (v:=jV p1.Index) Z) ?_))))))
 have q:=aS.el (fun _=>rfl) (wBB ah)
 obtain ⟨bh,bp,aV,aX⟩:=q
 refine oR Z (zl Z Z aV Z Zh ZR (wCC ah) (wCL ah)) (oR Z (zJ Z Z ZE Z zC) (oL Z (ae.ldC (f:=0) aX (v:=jV aT.Lo) Z Z zE Z) (oR Z (Runs.negw Z Z) (oA Z Z (oA Z Z (eN (zS ?_)))))))
 cases ba
 exact ⟨rfl,_,(wHd rfl rfl),U,_,(ae.pick [] _ (by decide) rfl),rfl,rfl⟩
theorem wCb (p0:Int) (w:World) (U:PHeap) (hS:St0 w U [])  {r:wAF} (hm:wCa p0=some r):Gv Tryz.prog 112 [jV p0] w (wCQ w [] U (fun U_ L_ v=>v=.agg #[jV r.skier,jV r.mat]/\L_=[])):=by
 unfold wCa at hm
 refine Gv.of Tryz.func112 Z Tryz.ntmps112 Tryz.results112 Z (sR (.fx 0 .nil .stop) Z (zX (cs:=[jV 0,jV 0]) Z Z Z Z Z zh Z hS ?_))
 intro W1 b2 aj
 refine eN (sR (wDj (.fx 3 .nil .stop)) Z (oM Z Z (oR Z (zU Z Z Z) ?_)))
 let B0:List Value:=[jV (-1),jV (w64 (1 + p0))]
 refine oR Z (zw (pv:=[(0,jV (-1)),(1,jV (w64 (1 + p0)))]) (z:=[jV 0,jV 0]) (cs:=B0) Z (wAC Z (wAC Z wAV)) zh wBr Z Z) (ze (j:=0) (vs:=B0) Z Z Z Z aj Z Z Z Z zF (zA Z) Z Z Z ?_)
 intro W5 ak
 have ae:sW w U U [.blk b2 68 B0] W5:=ak
 refine eN (zS ?_)
 cases hm
 exact ⟨rfl,_,(wMH (v:=.agg B0.toArray) ⟨⟨_,rfl,(wBT zg zF (ae.blkAt (k:=0) rfl) (vs:=B0) rfl rfl)⟩,trivial⟩),U,_,(ae.pick [] _ (by decide) rfl),rfl,rfl⟩
theorem wHt (p0:wAD) (aT:Option Addr) (aX:Nat) (aU:Option Addr) (aY:Nat) (aV:Option Addr) (aZ:Nat) (aW:Option Addr) (ba:Nat) (p1:wAK) (w:World) (U:PHeap) (hS:St0 w U []) (bL:Sl U 1 aT aX p0.Starts.length (nA KL.encI p0.Starts)) (bM:Sl U 2 aU aY p0.Splits.length (nA wAP p0.Splits)) (bN:Sl U 3 aV aZ p0.Clocks.length (nA wAA p0.Clocks)) (bO:Sl U 4 aW ba p0.Readings.length (nA wAL p0.Readings)) {r:wAF × wAF} (hm:wDR p0 p1=some r):Gv Tryz.prog 111 [.agg #[.slice aT p0.Starts.length aX,.slice aU p0.Splits.length aY,.slice aV p0.Clocks.length aZ,.slice aW p0.Readings.length ba],.agg #[jV p1.Kind,jV p1.Skier,jV p1.Index,.bool p1.Up]] w (wCQ w [] U (fun U_ L_ v=>v=.tuple #[.agg #[jV r.1.skier,jV r.1.mat],.agg #[jV r.2.skier,jV r.2.mat]]/\L_=[])):=by
 unfold wDR at hm
 refine Gv.of Tryz.func111 Z Tryz.ntmps111 Tryz.results111 Z (sR gBa Z ?_)
 let B0:List Value:=[.slice aT p0.Starts.length aX,.slice aU p0.Splits.length aY,.slice aV p0.Clocks.length aZ,.slice aW p0.Readings.length ba]
 refine ZG (cs:=B0) rfl rfl rfl rfl rfl rfl (by rfl) hS ?_
 intro W1 b2 bv
 let B1:List Value:=[jV p1.Kind,jV p1.Skier,jV p1.Index,.bool p1.Up]
 refine ZG (cs:=B1) rfl rfl rfl rfl rfl rfl (by rfl) bv ?_
 intro W5 b6 bD
 let B2:List Value:=[jV 0,jV 0]
 refine zX (cs:=B2) Z Z Z Z Z zh Z bD ?_
 intro W9 ap bq
 refine zX (cs:=B2) Z Z Z Z Z zh Z bq ?_
 intro bf aq br
 refine eN (zN (zt zq [2,3,1,2,0,0] (.fl 1 (.fl 2 (.fx 0 (.fx 3 gAl .stop) .stop))) (by kernel_rfl) ?_))
 have az:=br.drew
 generalize hw_W18:({ bf with drawn:=bf.drawn + 1 }:World)=bj at az ⊢
 refine oR Z (zJ Z Z zr Z zC) (oL Z (az.ldB (j:=2) Z Z Z zE (v:=jV p1.Index) Z) (bnK hm fun bh bo bE=>zH 0 Z Z Z Z (zG Z Z yG zM Z) az (fun hs=>wBQ bj U hs bo) (.inr Z) ?_))
 rintro bb bG bR bg bP bt ⟨rfl,rfl⟩
 have bu:sW w U bb [.blk aq 68 B2,.blk ap 68 B2,.blk b6 118 B1,.blk b2 28 B0] bg:=bt
 refine bnK bE fun bi bp bF=>zH 0 Z Z Z Z (zG Z Z Tryz.call112 (zB Z zM) Z) bu (fun hs=>wCb p1.Index bg bb hs bp) (.inr Z) ?_
 rintro am bH bS bk bQ bw ⟨rfl,rfl⟩
 have bz:sW w U am [.blk aq 68 B2,.blk ap 68 B2,.blk b6 118 B1,.blk b2 28 B0] bk:=bw
 let B3:List Value:=[jV bh.skier,jV bh.mat]
 refine ze (j:=1) (vs:=B3) Z Z Z Z bz Z Z Z Z zF (zA Z) Z Z Z ?_
 intro bm bA
 have bB:sW w U am [.blk aq 68 B2,.blk ap 68 B3,.blk b6 118 B1,.blk b2 28 B0] bm:=bA
 let B4:List Value:=[jV bi.skier,jV bi.mat]
 refine ze (j:=0) (vs:=B4) Z Z Z Z bB Z Z Z Z zF (zA Z) Z Z Z ?_
 intro bn bC
 have aS:sW w U am [.blk aq 68 B4,.blk ap 68 B3,.blk b6 118 B1,.blk b2 28 B0] bn:=bC
 refine eN (zS ?_)
 cases bF
 exact ⟨rfl,_,(wEL (rs:=[.cell 4 68,.cell 5 68]) (vs:=[.agg B3.toArray,.agg B4.toArray]) ⟨⟨_,rfl,(wBT zg zF (aS.blkAt (k:=1) rfl) (vs:=B3) rfl rfl)⟩,⟨⟨_,rfl,(wBT zg zF (aS.blkAt (k:=0) rfl) (vs:=B4) rfl rfl)⟩,trivial⟩⟩ rfl),am,_,(aS.pick [] _ (by decide) rfl),rfl,rfl⟩
theorem wHu (p0:wAD) (ak:Option Addr) (aq:Nat) (am:Option Addr) (au:Nat) (ai:Option Addr) (aj:Nat) (ap:Option Addr) (av:Nat) (p1:wAK) (w:World) (U:PHeap) (hS:St0 w U []) (bk:Sl U 1 ak aq p0.Starts.length (nA KL.encI p0.Starts)) (bm:Sl U 2 am au p0.Splits.length (nA wAP p0.Splits)) (aS:Sl U 3 ai aj p0.Clocks.length (nA wAA p0.Clocks)) (bn:Sl U 4 ap av p0.Readings.length (nA wAL p0.Readings)) {r:Int × Int} (hm:wDS p0 p1=some r):Gv Tryz.prog 113 [.agg #[.slice ak p0.Starts.length aq,.slice am p0.Splits.length au,.slice ai p0.Clocks.length aj,.slice ap p0.Readings.length av],.agg #[jV p1.Kind,jV p1.Skier,jV p1.Index,.bool p1.Up]] w (wCQ w [] U (fun U_ L_ v=>v=.tuple #[jV r.1,jV r.2]/\L_=[])):=by
 unfold wDS at hm
 refine Gv.of Tryz.func113 rfl Tryz.ntmps113 Tryz.results113 rfl (sR gBb rfl (ZG (cs:=[.slice ak p0.Starts.length aq,.slice am p0.Splits.length au,.slice ai p0.Clocks.length aj,.slice ap p0.Readings.length av]) rfl rfl rfl rfl rfl rfl (by rfl) hS ?_))
 intro W1 b2 aY
 refine ZG (cs:=[jV p1.Kind,jV p1.Skier,jV p1.Index,.bool p1.Up]) rfl rfl rfl rfl rfl rfl (by rfl) aY ?_
 intro W5 b6 aZ
 refine Zx rfl rfl rfl rfl rfl rfl (Zx rfl rfl rfl rfl rfl rfl (eN (zN (zt zq [3,1,3,1,3,3,3,1,3,3,1,3,1,3,3,3,1,3,3] fL19 (by kernel_rfl) ?_))))
 have ae:=aZ.drew
 generalize hw_W10:({ W5 with drawn:=W5.drawn + 1 }:World)=bf at ae ⊢
 refine oR Z (zJ Z Z zQ Z Zl) (oL Z (ae.ldB (j:=1) Z Z Z yK (v:=.slice ai p0.Clocks.length aj) Z) (oR Z (zJ Z Z zr Z zC) (oL Z (ae.ldB (j:=0) Z Z Z zE (v:=jV p1.Index) Z) (bnK hm fun aT ah ba=>?_))))
 have q:=aS.el (fun _=>rfl) (wBB ah)
 obtain ⟨bg,bo,aU,aW⟩:=q
 refine oR Z (zl Z Z aU Z Za Zo (wCC ah) (wCL ah)) (oR Z (zJ Z Z Zt Z ZR) (oR Z (zJ Z Z ZE Z zC) (oL Z (ae.ldC (f:=0) aW (v:=jV aT.Offset.Lo) Z Z zE Z) (oR Z (Runs.negw Z Z) (oR Z (zJ Z Z zQ Z Zl) (oL Z (ae.ldB (j:=1) Z Z Z yK (v:=.slice ai p0.Clocks.length aj) Z) (oR Z (zJ Z Z zr Z zC) (oL Z (ae.ldB (j:=0) Z Z Z zE (v:=jV p1.Index) Z) ?_))))))))
 have q:=aS.el (fun _=>rfl) (wBB ah)
 obtain ⟨bh,bp,aV,aX⟩:=q
 refine oR Z (zl Z Z aV Z Za Zo (wCC ah) (wCL ah)) (oR Z (zJ Z Z Zt Z ZR) (oR Z (zJ Z Z ZE Z zC) (oL Z (ae.ldC (f:=1) aX (v:=jV aT.Offset.Hi) Z Z zE Z) (oA Z Z (oA Z Z (eN (zS ?_)))))))
 cases ba
 exact ⟨rfl,_,(wHd rfl rfl),U,_,(ae.pick [] _ (by decide) rfl),rfl,rfl⟩
end Go.Proofs.YtkeeechdijfkhaaGreat
