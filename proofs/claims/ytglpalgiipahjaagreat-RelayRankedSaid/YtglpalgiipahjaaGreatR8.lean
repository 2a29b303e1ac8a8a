import Derived.Test.YtglpalgiipahjaaGreatR7
set_option linter.all false
open List renaming flatMap->nA
open Option.some renaming inj->nB
open Go.Value renaming bool->nD
open Bool renaming eq_false_iff->nE
open Prod.mk renaming injEq->nG
open Nat renaming blt->nH,le_of_ble_eq_true->nI
namespace Go.Proofs.YtglpalgiipahjaaGreat
open Go.KL
def gAa:Sch:=.fl 1 (.fl 2 .nil)
def gAb:Sch:=.fl 2 (.fl 3 .nil)
def gAc:Sch:=.fl 3 (.fl 4 .nil)
def gAd:Sch:=.fl 4 (.fl 5 .nil)
def gAe:Sch:=.fl 7 (.fl 8 .nil)
def gAf:Sch:=.fl 0 (.fx 1 .nil .stop)
def gAg:Sch:=.fx 3 (.fl 4 .nil) .stop
def gAh:Sch:=.fx 1 (.fl 2 .nil) .stop
def gAi:Sch:=.fx 0 (.fl 1 .nil) .stop
def gAj:Sch:=.fx 0 (.fx 1 .nil .stop) .stop
def gAk:Sch:=.fx 6 (.fl 7 .nil) .stop
def gAl:Sch:=.fl 1 (.fx 2 (.fl 3 .nil) .stop)
def gAm:Sch:=.fx 6 gAe .stop
def gAn:Sch:=.fl 5 (.fx 6 (.fx 7 .nil .stop) .stop)
def gAo:Sch:=.fl 0 gAh
def gAp:Sch:=.fx 3 (.fl 4 (.fx 5 .nil .stop)) .stop
def gAq:Sch:=.fl 0 gAl
def gAr:Sch:=.fx 4 (.fx 5 (.fl 6 (.fx 7 .nil .stop)) .stop) .stop
def gAs:Sch:=.fl 0 (.fx 1 gAb .stop)
def gAt:Sch:=.fx 4 gAn .stop
def gAu:Sch:=.fx 3 (.fx 4 (.fl 5 (.fx 6 .nil .stop)) .stop) .stop
def gAv:Sch:=.fl 0 (.fl 1 (.fx 2 (.fx 3 .nil .stop) .stop))
def gAw:Sch:=.fx 3 gAr .stop
def gAx:Sch:=.fl 0 (.fl 1 (.fx 2 gAc .stop))
def gAy:Sch:=.fl 0 (.fl 1 (.fx 2 gAg .stop))
def gAz:Sch:=.fx 4 (.fl 5 (.fx 6 (.fx 7 (.fl 8 (.fx 9 .nil .stop)) .stop) .stop)) .stop
set_option maxHeartbeats 4000000
theorem Z {α:Type} {a:α}:a=a:=rfl
section
variable {r:Option Nat} {N:Nat} {P:Program} {l:List Oper} {Q:wEB} {D:List Deferred} {ks:List Nat} {σ:Env} {w:World} {i d j e:Nat} {s:Sch} {o:Oper} {b:Bool} {x:Operand} {v:Value} {p:Prop} {inst:Decidable p} {K:List Deferred->Env->World->Prop} {c1 c2:Code}
abbrev jV (n:Int):Value:=.int .i64 n
abbrev SW (w:World) (X:List Res) (φ φ':PHeap) (L:List Res) (w':World):Prop:=St ⟨w,X,φ⟩ φ' L w'
abbrev sW (w:World) (φ φ':PHeap) (L:List Res) (w':World):Prop:=St ⟨w,[],φ⟩ φ' L w'
abbrev St0 (w:World) (φ:PHeap) (L:List Res):Prop:=St ⟨w,L,φ⟩ φ L w
theorem ifc {α:Type} {G p:Prop} {inst:Decidable p} {a b r:α} (h:@ite α p inst a b=r) (h1:Hid p->a=r->G) (h2:Hid (¬ p)->b=r->G):G:=by
 by_cases c:p
 rw [if_pos c] at h;exact h1 ⟨c⟩ h
 rw [if_neg c] at h;exact h2 ⟨c⟩ h
theorem bnK {α β:Type} {G:Prop} {o:Option α} {f:α->Option β} {r:β} (h:o.bind f=some r) (k:∀ x,o=some x->f x=some r->G):G:=by
 obtain ⟨x,h1,h2⟩:=bnd h
 exact k x h1 h2
theorem oR (h:(l[i]?,o.dst,nH d N,wanted l σ o)=(some o,some d,true,true)) (hr:∀ {w'},Runs P σ w' o v w') (k:OKS N P l Q D ks s (upd σ d v) w):OKS N P l Q D ks (.fl i s) σ w:=by
 simp only [nG] at h;exact OKS.r h.1 h.2.1 h.2.2.1 h.2.2.2 (fun _=>hr) k
theorem oL (h:(l[i]?,o.dst,nH d N,wanted l σ o,wUK (kOf ks i))=(some o,some d,true,true,false)) (hr:wFw P σ w o v) (k:OKS N P l Q D ks s (upd σ d v) w):OKS N P l Q D ks (.fl i s) σ w:=by
 simp only [nG] at h;exact OKS.m h.1 h.2.1 h.2.2.1 h.2.2.2.1 hr h.2.2.2.2 k
theorem oM (h:(l[i]?,o.dst,nH d N,wanted l σ o,o.op)=(some o,some d,true,true,.move x)) (hx:ev σ x=v) (k:OKS N P l Q D ks s (upd σ d v) w):OKS N P l Q D ks (.fl i s) σ w:=by
 simp only [nG] at h;exact OKS.rm h.1 h.2.1 h.2.2.1 h.2.2.2.1 h.2.2.2.2 hx k
theorem oA (h:(l[i]?,o.dst,nH d N,wanted l σ o,o.op)=(some o,some d,true,true,.assign x)) (hx:ev σ x=v) (k:OKS N P l Q D ks s (upd σ d v) w):OKS N P l Q D ks (.fl i s) σ w:=by
 simp only [nG] at h;exact OKS.ra h.1 h.2.1 h.2.2.1 h.2.2.2.1 h.2.2.2.2 hx k
theorem oF (h:(l[i]?,o.dst,nH d N,o.guard,(l[j]?).bind (·.dst),σ e,false == b)=(some o,some d,true,some (j,b),some e,.bool (decide p),false)) (c:Hid (¬ p)) (k:OKS N P l Q D ks s (upd σ d undef) w):OKS N P l Q D ks (.fl i s) σ w:=by
 simp only [nG] at h;exact OKS.p h.1 h.2.1 h.2.2.1 (wIE h.2.2.2.1 h.2.2.2.2.1 (h.2.2.2.2.2.1.trans (wUJ c.out)) h.2.2.2.2.2.2) k
theorem oT (h:(l[i]?,o.dst,nH d N,o.guard,(l[j]?).bind (·.dst),σ e,true == b)=(some o,some d,true,some (j,b),some e,.bool (decide p),false)) (c:Hid p) (k:OKS N P l Q D ks s (upd σ d undef) w):OKS N P l Q D ks (.fl i s) σ w:=by
 simp only [nG] at h;exact OKS.p h.1 h.2.1 h.2.2.1 (wIE h.2.2.2.1 h.2.2.2.2.1 (h.2.2.2.2.2.1.trans (wUI c.out)) h.2.2.2.2.2.2) k
theorem oN {b2:Bool} (h:(l[i]?,o.dst,nH d N,o.guard,(l[j]?).bind (·.dst),σ e,b2 == b)=(some o,some d,true,some (j,b),some e,.bool b2,false)) (k:OKS N P l Q D ks s (upd σ d undef) w):OKS N P l Q D ks (.fl i s) σ w:=by
 simp only [nG] at h;exact OKS.p h.1 h.2.1 h.2.2.1 (wIE h.2.2.2.1 h.2.2.2.2.1 h.2.2.2.2.2.1 h.2.2.2.2.2.2) k
theorem nC {a b:Bool} (h:a=b):nD (!a)=nD (!b):=h ▸ rfl
theorem nF {a:Bool} (h:¬ a=true):nD (!a)=nD (!false):=nC (nE.2 h)
theorem wT (h:(o.guard,(l[j]?).bind (·.dst),σ e)=(some (j,true),some e,.bool (decide p))) (c:Hid p):wanted l σ o=true:=by
 simp only [nG] at h;exact wJr h.1 h.2.1 (h.2.2.trans (wUI c.out))
theorem wF (h:(o.guard,(l[j]?).bind (·.dst),σ e)=(some (j,false),some e,.bool (decide p))) (c:Hid (¬ p)):wanted l σ o=true:=by
 simp only [nG] at h;exact wJr h.1 h.2.1 (h.2.2.trans (wUJ c.out))
theorem rU (h:(l[i]?,o.dst,nH d N)=(some o,some d,true)) (hw:wanted l σ o=true) (hr:∀ {w'},Runs P σ w' o v w') (k:OKS N P l Q D ks s (upd σ d v) w):OKS N P l Q D ks (.fl i s) σ w:=by
 simp only [nG] at h;exact OKS.r h.1 h.2.1 h.2.2 hw (fun _=>hr) k
theorem sR {id:Nat} (s:Sch) (hs:inOrder 0 s l.length=true) (h:OKS N P l (wGb (fun D σ w=>CK r N P c2 Q D σ w) Q) D [] s σ w):CK r N P (.seq (.region id l.toArray false) c2) Q D σ w:=CK.seq (CK.reg s hs h)
theorem rR {id:Nat} (s:Sch) (hs:inOrder 0 s l.length=true) (h:OKS N P l Q D [] s σ w):CK r N P (.region id l.toArray false) Q D σ w:=CK.reg s hs h
theorem eN (h:K D σ w):OKS N P l (wGb K Q) D ks .nil σ w:=OKS.e (wJn h)
theorem cT (hz:ev σ x=.bool (decide p)) (c:Hid p) (h:CK r N P c1 Q D σ w):CK r N P (.cond x c1 c2) Q D σ w:=CK.condT (hz.trans (wUI c.out)) h
theorem cF (hz:ev σ x=.bool (decide p)) (c:Hid (¬ p)) (h:CK r N P c2 Q D σ w):CK r N P (.cond x c1 c2) Q D σ w:=CK.condF (hz.trans (wUJ c.out)) h
theorem kN (h:K D σ w):CK r N P .skip (wGb K Q) D σ w:=CK.skip (wJn h)
end
def fL1:Sch:=.fl 0 .nil
def fL2:Sch:=.fl 0 (.fl 1 .nil)
def fL3:Sch:=.fl 0 gAa
def fL4:Sch:=.fl 0 (.fl 1 gAb)
def fL5:Sch:=.fl 0 (.fl 1 (.fl 2 gAc))
def fL6:Sch:=.fl 0 (.fl 1 (.fl 2 (.fl 3 gAd)))
def fL7:Sch:=.fl 0 (.fl 1 (.fl 2 (.fl 3 (.fl 4 (.fl 5 (.fl 6 .nil))))))
def fL8:Sch:=.fl 0 (.fl 1 (.fl 2 (.fl 3 (.fl 4 (.fl 5 (.fl 6 (.fl 7 .nil)))))))
def fL9:Sch:=.fl 0 (.fl 1 (.fl 2 (.fl 3 (.fl 4 (.fl 5 (.fl 6 gAe))))))
def fL10:Sch:=.fl 0 (.fl 1 (.fl 2 (.fl 3 (.fl 4 (.fl 5 (.fl 6 (.fl 7 (.fl 8 (.fl 9 .nil)))))))))
def fL11:Sch:=.fl 0 (.fl 1 (.fl 2 (.fl 3 (.fl 4 (.fl 5 (.fl 6 (.fl 7 (.fl 8 (.fl 9 (.fl 10 .nil))))))))))
def fL14:Sch:=.fl 0 (.fl 1 (.fl 2 (.fl 3 (.fl 4 (.fl 5 (.fl 6 (.fl 7 (.fl 8 (.fl 9 (.fl 10 (.fl 11 (.fl 12 (.fl 13 .nil)))))))))))))
def fL16:Sch:=.fl 0 (.fl 1 (.fl 2 (.fl 3 (.fl 4 (.fl 5 (.fl 6 (.fl 7 (.fl 8 (.fl 9 (.fl 10 (.fl 11 (.fl 12 (.fl 13 (.fl 14 (.fl 15 .nil)))))))))))))))
def fL17:Sch:=.fl 0 (.fl 1 (.fl 2 (.fl 3 (.fl 4 (.fl 5 (.fl 6 (.fl 7 (.fl 8 (.fl 9 (.fl 10 (.fl 11 (.fl 12 (.fl 13 (.fl 14 (.fl 15 (.fl 16 .nil))))))))))))))))
def fL22:Sch:=.fl 0 (.fl 1 (.fl 2 (.fl 3 (.fl 4 (.fl 5 (.fl 6 (.fl 7 (.fl 8 (.fl 9 (.fl 10 (.fl 11 (.fl 12 (.fl 13 (.fl 14 (.fl 15 (.fl 16 (.fl 17 (.fl 18 (.fl 19 (.fl 20 (.fl 21 .nil)))))))))))))))))))))
def fL27:Sch:=.fl 0 (.fl 1 (.fl 2 (.fl 3 (.fl 4 (.fl 5 (.fl 6 (.fl 7 (.fl 8 (.fl 9 (.fl 10 (.fl 11 (.fl 12 (.fl 13 (.fl 14 (.fl 15 (.fl 16 (.fl 17 (.fl 18 (.fl 19 (.fl 20 (.fl 21 (.fl 22 (.fl 23 (.fl 24 (.fl 25 (.fl 26 .nil))))))))))))))))))))))))))
def fL30:Sch:=.fl 0 (.fl 1 (.fl 2 (.fl 3 (.fl 4 (.fl 5 (.fl 6 (.fl 7 (.fl 8 (.fl 9 (.fl 10 (.fl 11 (.fl 12 (.fl 13 (.fl 14 (.fl 15 (.fl 16 (.fl 17 (.fl 18 (.fl 19 (.fl 20 (.fl 21 (.fl 22 (.fl 23 (.fl 24 (.fl 25 (.fl 26 (.fl 27 (.fl 28 (.fl 29 .nil)))))))))))))))))))))))))))))
def fL33:Sch:=.fl 0 (.fl 1 (.fl 2 (.fl 3 (.fl 4 (.fl 5 (.fl 6 (.fl 7 (.fl 8 (.fl 9 (.fl 10 (.fl 11 (.fl 12 (.fl 13 (.fl 14 (.fl 15 (.fl 16 (.fl 17 (.fl 18 (.fl 19 (.fl 20 (.fl 21 (.fl 22 (.fl 23 (.fl 24 (.fl 25 (.fl 26 (.fl 27 (.fl 28 (.fl 29 (.fl 30 (.fl 31 (.fl 32 .nil))))))))))))))))))))))))))))))))
def fL39:Sch:=.fl 0 (.fl 1 (.fl 2 (.fl 3 (.fl 4 (.fl 5 (.fl 6 (.fl 7 (.fl 8 (.fl 9 (.fl 10 (.fl 11 (.fl 12 (.fl 13 (.fl 14 (.fl 15 (.fl 16 (.fl 17 (.fl 18 (.fl 19 (.fl 20 (.fl 21 (.fl 22 (.fl 23 (.fl 24 (.fl 25 (.fl 26 (.fl 27 (.fl 28 (.fl 29 (.fl 30 (.fl 31 (.fl 32 (.fl 33 (.fl 34 (.fl 35 (.fl 36 (.fl 37 (.fl 38 .nil))))))))))))))))))))))))))))))))))))))
def fL51:Sch:=.fl 0 (.fl 1 (.fl 2 (.fl 3 (.fl 4 (.fl 5 (.fl 6 (.fl 7 (.fl 8 (.fl 9 (.fl 10 (.fl 11 (.fl 12 (.fl 13 (.fl 14 (.fl 15 (.fl 16 (.fl 17 (.fl 18 (.fl 19 (.fl 20 (.fl 21 (.fl 22 (.fl 23 (.fl 24 (.fl 25 (.fl 26 (.fl 27 (.fl 28 (.fl 29 (.fl 30 (.fl 31 (.fl 32 (.fl 33 (.fl 34 (.fl 35 (.fl 36 (.fl 37 (.fl 38 (.fl 39 (.fl 40 (.fl 41 (.fl 42 (.fl 43 (.fl 44 (.fl 45 (.fl 46 (.fl 47 (.fl 48 (.fl 49 (.fl 50 .nil))))))))))))))))))))))))))))))))))))))))))))))))))
def fL53:Sch:=.fl 0 (.fl 1 (.fl 2 (.fl 3 (.fl 4 (.fl 5 (.fl 6 (.fl 7 (.fl 8 (.fl 9 (.fl 10 (.fl 11 (.fl 12 (.fl 13 (.fl 14 (.fl 15 (.fl 16 (.fl 17 (.fl 18 (.fl 19 (.fl 20 (.fl 21 (.fl 22 (.fl 23 (.fl 24 (.fl 25 (.fl 26 (.fl 27 (.fl 28 (.fl 29 (.fl 30 (.fl 31 (.fl 32 (.fl 33 (.fl 34 (.fl 35 (.fl 36 (.fl 37 (.fl 38 (.fl 39 (.fl 40 (.fl 41 (.fl 42 (.fl 43 (.fl 44 (.fl 45 (.fl 46 (.fl 47 (.fl 48 (.fl 49 (.fl 50 (.fl 51 (.fl 52 .nil))))))))))))))))))))))))))))))))))))))))))))))))))))
def wDy (s:Sch):Sch:=.fl 0 (.fl 1 (.fl 2 (s)))
def wHQ (s:Sch):Sch:=.fl 0 (.fl 1 (.fl 2 (.fl 3 (s))))
def wKd (s:Sch):Sch:=.fl 0 (.fl 1 (.fl 2 (.fl 3 (.fl 4 (s)))))
def wMe (s:Sch):Sch:=.fl 0 (.fl 1 (.fl 2 (.fl 3 (.fl 4 (.fl 5 (s))))))
def wRo (s:Sch):Sch:=.fl 0 (.fl 1 (.fl 2 (.fl 3 (.fl 4 (.fl 5 (.fl 6 (s)))))))
def fC0_7 (s:Sch):Sch:=.fl 0 (.fl 1 (.fl 2 (.fl 3 (.fl 4 (.fl 5 (.fl 6 (.fl 7 (s))))))))
def wVK (s:Sch):Sch:=.fl 0 (.fl 1 (.fl 2 (.fl 3 (.fl 4 (.fl 5 (.fl 6 (.fl 7 (.fl 8 (s)))))))))
def fC0_9 (s:Sch):Sch:=.fl 0 (.fl 1 (.fl 2 (.fl 3 (.fl 4 (.fl 5 (.fl 6 (.fl 7 (.fl 8 (.fl 9 (s))))))))))
def wVL (s:Sch):Sch:=.fl 0 (.fl 1 (.fl 2 (.fl 3 (.fl 4 (.fl 5 (.fl 6 (.fl 7 (.fl 8 (.fl 9 (.fl 10 (.fl 11 (s))))))))))))
def wSS (s:Sch):Sch:=.fl 0 (.fl 1 (.fl 2 (.fl 3 (.fl 4 (.fl 5 (.fl 6 (.fl 7 (.fl 8 (.fl 9 (.fl 10 (.fl 11 (.fl 12 (s)))))))))))))
def wST (s:Sch):Sch:=.fl 0 (.fl 1 (.fl 2 (.fl 3 (.fl 4 (.fl 5 (.fl 6 (.fl 7 (.fl 8 (.fl 9 (.fl 10 (.fl 11 (.fl 12 (.fl 13 (.fl 14 (s)))))))))))))))
def wVM (s:Sch):Sch:=.fl 0 (.fl 1 (.fl 2 (.fl 3 (.fl 4 (.fl 5 (.fl 6 (.fl 7 (.fl 8 (.fl 9 (.fl 10 (.fl 11 (.fl 12 (.fl 13 (.fl 14 (.fl 15 (s))))))))))))))))
def wVN (s:Sch):Sch:=.fl 0 (.fl 1 (.fl 2 (.fl 3 (.fl 4 (.fl 5 (.fl 6 (.fl 7 (.fl 8 (.fl 9 (.fl 10 (.fl 11 (.fl 12 (.fl 13 (.fl 14 (.fl 15 (.fl 16 (.fl 17 (.fl 18 (.fl 19 (.fl 20 (.fl 21 (.fl 22 (.fl 23 (.fl 24 (.fl 25 (.fl 26 (.fl 27 (.fl 28 (.fl 29 (.fl 30 (.fl 31 (s))))))))))))))))))))))))))))))))
def wRp (s:Sch):Sch:=.fl 2 (.fl 3 (.fl 4 (s)))
def wIz (s:Sch):Sch:=.fl 2 (.fl 3 (.fl 4 (.fl 5 (.fl 6 (s)))))
def fC2_9 (s:Sch):Sch:=.fl 2 (.fl 3 (.fl 4 (.fl 5 (.fl 6 (.fl 7 (.fl 8 (.fl 9 (s))))))))
def fC3_5 (s:Sch):Sch:=.fl 3 (.fl 4 (.fl 5 (s)))
def wRq (s:Sch):Sch:=.fl 3 (.fl 4 (.fl 5 (.fl 6 (s))))
def wVO (s:Sch):Sch:=.fl 3 (.fl 4 (.fl 5 (.fl 6 (.fl 7 (.fl 8 (.fl 9 (.fl 10 (.fl 11 (.fl 12 (.fl 13 (.fl 14 (.fl 15 (.fl 16 (.fl 17 (.fl 18 (.fl 19 (.fl 20 (.fl 21 (.fl 22 (s))))))))))))))))))))
def fC4_7 (s:Sch):Sch:=.fl 4 (.fl 5 (.fl 6 (.fl 7 (s))))
def wVP (s:Sch):Sch:=.fl 4 (.fl 5 (.fl 6 (.fl 7 (.fl 8 (.fl 9 (.fl 10 (s)))))))
def wVQ (s:Sch):Sch:=.fl 4 (.fl 5 (.fl 6 (.fl 7 (.fl 8 (.fl 9 (.fl 10 (.fl 11 (.fl 12 (.fl 13 (s))))))))))
def fC5_7 (s:Sch):Sch:=.fl 5 (.fl 6 (.fl 7 (s)))
def wVR (s:Sch):Sch:=.fl 5 (.fl 6 (.fl 7 (.fl 8 (s))))
def fC6_9 (s:Sch):Sch:=.fl 6 (.fl 7 (.fl 8 (.fl 9 (s))))
def fC7_9 (s:Sch):Sch:=.fl 7 (.fl 8 (.fl 9 (s)))
def wQg (s:Sch):Sch:=.fl 8 (.fl 9 (.fl 10 (s)))
def wVS (s:Sch):Sch:=.fl 9 (.fl 10 (.fl 11 (.fl 12 (s))))
def wTu (s:Sch):Sch:=.fl 12 (.fl 13 (.fl 14 (s)))
def wTv (s:Sch):Sch:=.fl 13 (.fl 14 (.fl 15 (.fl 16 (s))))
def wTw (s:Sch):Sch:=.fl 17 (.fl 18 (.fl 19 (s)))
def wTx (s:Sch):Sch:=.fl 20 (.fl 21 (.fl 22 (s)))
def wTy (s:Sch):Sch:=.fl 24 (.fl 25 (.fl 26 (s)))
def wTz (s:Sch):Sch:=.fl 33 (.fl 34 (.fl 35 (s)))
theorem zA:type_of% @nI:=@nI
theorem zB:type_of% @Tryz.runUnderlying22:=@Tryz.runUnderlying22
theorem zC:type_of% @wOb:=@wOb
theorem zD:type_of% @Runs.fa:=@Runs.fa
theorem zF:type_of% @Tryz.sizeOf3:=@Tryz.sizeOf3
theorem zG:type_of% @CK.seq:=@CK.seq
theorem zH:type_of% @Hid.mk:=@Hid.mk
theorem zI:type_of% @wJn:=@wJn
theorem zJ:type_of% @OKS.p:=@OKS.p
theorem zK:type_of% @Tryz.isAgg3:=@Tryz.isAgg3
theorem zL:type_of% @Enters.mk:=@Enters.mk
theorem zM:type_of% @OKS.callH:=@OKS.callH
theorem zN:type_of% @wOa:=@wOa
theorem zO:type_of% @wJr:=@wJr
theorem zP:type_of% @CK.ret:=@CK.ret
theorem zQ:type_of% @wRr:=@wRr
theorem zR:type_of% @CK.block:=@CK.block
theorem zS:type_of% @PHeap.Le.refl:=@PHeap.Le.refl
theorem zU:type_of% @Runs.lss:=@Runs.lss
theorem zV:type_of% @Tryz.runUnderlying27:=@Tryz.runUnderlying27
theorem zW:type_of% @Tryz.sizeOf22:=@Tryz.sizeOf22
theorem zX:type_of% @wOZ:=@wOZ
theorem zY:type_of% @Runs.addw:=@Runs.addw
theorem zZ:type_of% @Tryz.runUnderlying73:=@Tryz.runUnderlying73
theorem zd:type_of% @Runs.len:=@Runs.len
theorem ze:type_of% @wMf:=@wMf
theorem zf:type_of% @OKS.rm:=@OKS.rm
theorem zg:type_of% @wMg:=@wMg
theorem zh:type_of% @Runs.pickT:=@Runs.pickT
theorem zj:type_of% @OKS.r:=@OKS.r
theorem zk:type_of% @Runs.pickF:=@Runs.pickF
theorem zm:type_of% @Tryz.isAgg22:=@Tryz.isAgg22
theorem zn:type_of% @OKS.e:=@OKS.e
theorem zo:type_of% @Tryz.runUnderlying66:=@Tryz.runUnderlying66
theorem zq:type_of% @Tryz.runUnderlying59:=@Tryz.runUnderlying59
theorem zr:type_of% @wIE:=@wIE
theorem zt:type_of% @Tryz.runUnderlying25:=@Tryz.runUnderlying25
theorem zu:type_of% @CK.condF:=@CK.condF
theorem zw:type_of% @res1:=@res1
theorem zx:type_of% @OKS.st:=@OKS.st
theorem zy:type_of% @Tryz.sizeOf73:=@Tryz.sizeOf73
theorem zz:type_of% @Tryz.runUnderlying76:=@Tryz.runUnderlying76
theorem ZA:type_of% @Tryz.runUnderlying51:=@Tryz.runUnderlying51
theorem ZB:type_of% @wJo:=@wJo
theorem ZC:type_of% @Runs.to:=@Runs.to
theorem ZD:type_of% @OKS.alloc:=@OKS.alloc
theorem ZE:type_of% @Tryz.runUnderlying24:=@Tryz.runUnderlying24
theorem ZF:type_of% @OKS.buildSlice:=@OKS.buildSlice
theorem ZG:type_of% @CK.condT:=@CK.condT
theorem ZH:type_of% @Runs.iaN:=@Runs.iaN
theorem ZI:type_of% @wUJ:=@wUJ
theorem ZJ:type_of% @CK.exit:=@CK.exit
theorem ZK:type_of% @Tryz.sizeOf76:=@Tryz.sizeOf76
theorem ZL:type_of% @Tryz.sizeOf25:=@Tryz.sizeOf25
theorem ZM:type_of% @OKS.m:=@OKS.m
theorem ZN:type_of% @Tryz.sizeOf27:=@Tryz.sizeOf27
theorem ZO:type_of% @Tryz.runUnderlying46:=@Tryz.runUnderlying46
theorem ZP:type_of% @Tryz.runUnderlying71:=@Tryz.runUnderlying71
theorem ZQ:type_of% @Runs.nilp:=@Runs.nilp
theorem ZR:type_of% @Tryz.runUnderlying204:=@Tryz.runUnderlying204
theorem ZS:type_of% @Tryz.sizeOf66:=@Tryz.sizeOf66
theorem ZT:type_of% @Tryz.mixed:=@Tryz.mixed
theorem ZU:type_of% @Tryz.runUnderlying77:=@Tryz.runUnderlying77
theorem ZV:type_of% @Tryz.sizeOf59:=@Tryz.sizeOf59
theorem ZW:type_of% @Runs.notT:=@Runs.notT
theorem ZX:type_of% @Runs.ext:=@Runs.ext
theorem ZY:type_of% @Tryz.sizeOf24:=@Tryz.sizeOf24
theorem Za:type_of% @OKS.box:=@OKS.box
theorem Zb:type_of% @CK.anyOrd:=@CK.anyOrd
theorem Zc:type_of% @Tryz.zeroValue76:=@Tryz.zeroValue76
theorem Zd:type_of% @Runs.build:=@Runs.build
theorem Ze:type_of% @Tryz.sizeOf71:=@Tryz.sizeOf71
theorem Zf:type_of% @CK.skip:=@CK.skip
theorem Zg:type_of% @Tryz.runUnderlying74:=@Tryz.runUnderlying74
theorem Zh:type_of% @Tryz.isAgg25:=@Tryz.isAgg25
theorem Zi:type_of% @Tryz.zeroValue73:=@Tryz.zeroValue73
theorem Zj:type_of% @Runs.iaI:=@Runs.iaI
theorem Zk:type_of% @wUI:=@wUI
theorem Zl:type_of% @Tryz.runUnderlying192:=@Tryz.runUnderlying192
theorem Zm:type_of% @Tryz.runUnderlying179:=@Tryz.runUnderlying179
theorem Zn:type_of% @Tryz.sizeOf46:=@Tryz.sizeOf46
theorem Zo:type_of% @Runs.subw:=@Runs.subw
theorem Zp:type_of% @Tryz.sizeOf79:=@Tryz.sizeOf79
theorem Zq:type_of% @Runs.neq:=@Runs.neq
theorem Zr:type_of% @Tryz.underlying22:=@Tryz.underlying22
theorem Zs:type_of% @Tryz.zeroValue3:=@Tryz.zeroValue3
theorem Zt:type_of% @Tryz.isAgg27:=@Tryz.isAgg27
theorem Zu:type_of% @OKS.append:=@OKS.append
theorem Zv:type_of% @Tryz.isAgg46:=@Tryz.isAgg46
theorem Zw:type_of% @Tryz.zeroValue79:=@Tryz.zeroValue79
theorem Zx:type_of% @Tryz.sizeOf74:=@Tryz.sizeOf74
theorem Zy:type_of% @Tryz.isAgg73:=@Tryz.isAgg73
theorem Zz:type_of% @Tryz.isAgg66:=@Tryz.isAgg66
theorem yA:type_of% @Tryz.zeroValue27:=@Tryz.zeroValue27
theorem yB:type_of% @Runs.gtr:=@Runs.gtr
theorem yC:type_of% @Tryz.sizeOf77:=@Tryz.sizeOf77
theorem yD:type_of% @Tryz.isAgg71:=@Tryz.isAgg71
theorem yE:type_of% @Tryz.call34:=@Tryz.call34
theorem yF:type_of% @OKS.appendR:=@OKS.appendR
theorem yG:type_of% @CK.forN:=@CK.forN
theorem yH:type_of% @CK.fresh:=@CK.fresh
theorem yI:type_of% @Tryz.isAgg76:=@Tryz.isAgg76
theorem yJ:type_of% @Tryz.sizeOf37:=@Tryz.sizeOf37
theorem yK:type_of% @Tryz.zeroValue66:=@Tryz.zeroValue66
theorem yL:type_of% @Tryz.zeroValue59:=@Tryz.zeroValue59
theorem yM:type_of% @Tryz.runUnderlying176:=@Tryz.runUnderlying176
theorem yN:type_of% @Tryz.call103:=@Tryz.call103
theorem yO:type_of% @Tryz.isAgg37:=@Tryz.isAgg37
theorem yP:type_of% @Tryz.runUnderlying45:=@Tryz.runUnderlying45
theorem yQ:type_of% @Runs.eql:=@Runs.eql
theorem yR:type_of% @Tryz.isAgg74:=@Tryz.isAgg74
theorem yS:type_of% @Tryz.isAgg77:=@Tryz.isAgg77
theorem yT:type_of% @Tryz.runUnderlying190:=@Tryz.runUnderlying190
theorem yU:type_of% @OKS.makeSlice:=@OKS.makeSlice
theorem yV:type_of% @Tryz.isAgg200:=@Tryz.isAgg200
theorem yW:type_of% @OKS.px:=@OKS.px
theorem yX:type_of% @Tryz.zeroValue298:=@Tryz.zeroValue298
theorem yY:type_of% @OKS.callV:=@OKS.callV
theorem yZ:type_of% @Tryz.isAgg24:=@Tryz.isAgg24
theorem ya:type_of% @Tryz.sizeOf4:=@Tryz.sizeOf4
theorem yb:type_of% @Runs.geq:=@Runs.geq
theorem yc:type_of% @Runs.mkf:=@Runs.mkf
theorem yd:type_of% @Tryz.isAgg79:=@Tryz.isAgg79
theorem ye:type_of% @Tryz.sizeOf45:=@Tryz.sizeOf45
end Go.Proofs.YtglpalgiipahjaaGreat
namespace Go.Proofs.YtglpalgiipahjaaGreat
open Go.KL
set_option maxHeartbeats 4000000
theorem wFV (p0:List Int) (ab:Option Addr) (ae:Nat) (w:World) (φ:PHeap) (hS:St0 w φ []) (am:Sl φ 1 ab ae p0.length (nA KL.encB8 p0)) {r:wAB} (hm:wCR p0=some r):Gv Tryz.prog 24 [.slice ab p0.length ae] w (wCM w [] φ (fun φ_ L_ v=>∃ (b0:Nat) (A0p0:Option Addr) (c0p0:Nat),v=.pointer (some ⟨b0,0,none⟩)/\L_=[.blk b0 192 [.slice A0p0 r.bytes.length c0p0,jV r.next,.int .u32 r.state]]/\Sl φ_ 1 A0p0 c0p0 r.bytes.length (nA KL.encB8 r.bytes))):=by
 unfold wCR at hm
 refine Gv.of Tryz.func24 Z Tryz.ntmps24 Tryz.results24 Z (sR fL1 Z (oA Z Z (eN (sR gAq Z (oM Z Z ?_)))))
 let B0:List Value:=[.slice ab p0.length ae,jV 0,.int .u32 17]
 refine zj rfl rfl rfl rfl (fun _=>Zd (pv:=[(0,.slice ab p0.length ae),(2,.int .u32 17)]) (z:=[.slice none 0 0,jV 0,.int .u32 0]) (cs:=B0) rfl (wAN rfl (wAN rfl wAa)) Tryz.zeroValue192 wQI rfl rfl) (Za (cs:=B0) rfl rfl rfl rfl rfl rfl (by rfl) hS ?_)
 intro W1 b2 ak
 refine oA Z Z (eN (zP ?_))
 cases hm
 exact ⟨Z,_,(zw Z),φ,_,ak,b2,ab,ae,Z,Z,am⟩
theorem wAV (p0:wAB) (aj:Nat) (ae:Option Addr) (ah:Nat) (p1:Int) (w:World) (φ:PHeap) (hS:St0 w φ [.blk aj 192 [.slice ae p0.bytes.length ah,jV p0.next,.int .u32 p0.state]]) (am:Sl φ 1 ae ah p0.bytes.length (nA KL.encB8 p0.bytes)) {r:Int × wAB} (hm:wAH p0 p1=some r):Gv Tryz.prog 34 [.pointer (some ⟨aj,0,none⟩),jV p1] w (wCM w [.blk aj 192 [.slice ae p0.bytes.length ah,jV p0.next,.int .u32 p0.state]] φ (fun φ_ L_ v=>∃ (aZ:Option Addr) (bb:Nat),v=jV r.1/\L_=[.blk aj 192 [.slice aZ r.2.bytes.length bb,jV r.2.next,.int .u32 r.2.state]]/\Sl φ_ 1 aZ bb r.2.bytes.length (nA KL.encB8 r.2.bytes))):=by
 unfold wAH at hm
 refine Gv.of Tryz.func34 Z Tryz.ntmps34 Tryz.results34 Z (sR fL1 Z (oA Z Z (eN (zG (sR fL10 Z (oM Z Z (oR Z (Runs.leq Z Z Z) (oM Z Z ?_))))))))
 by_cases c2:p1 <= 1
 have bf:=hm;rw [if_pos c2] at bf;replace c2:=zH c2
 refine oT Z c2 (oT Z c2 (oT Z c2 (oT Z c2 (oT Z c2 (oT Z c2 (oR Z (zh Z (Zk c2.out) Z) (eN (ZG Z (sR fL1 Z (oA Z Z (eN (zP (zN ?_)))))))))))))
 cases bf
 exact ⟨Z,_,(zw Z),φ,_,hS,ae,ah,Z,Z,am⟩
 have bg:=hm;rw [if_neg c2] at bg;replace c2:=zH c2
 refine zf Z Z Z (wF Z c2) Z Z (rU Z (wF Z c2) (ZQ Z Z) (rU Z (wF Z c2) (zD Z Z Zl Z Tryz.sizeOf61) (ZM Z Z Z (wF Z c2) (hS.ldB (j:=0) Z Z Z Tryz.isAgg61 (v:=.slice ae p0.bytes.length ah) Z) Z (rU Z (wF Z c2) (zd Z Z Tryz.runUnderlying61) (rU Z (wF Z c2) (yQ Z Z Z) (oR Z (zk Z (ZI c2.out) Z) (eN (ifc bg ?_ ?_))))))))
 intro c5 bI
 refine cT Z c5 (sR fL1 Z (oA Z Z (eN (zP (zN ?_)))))
 cases bI
 exact ⟨Z,_,(zw Z),φ,_,hS,ae,ah,Z,Z,am⟩
 intro c5 bJ
 refine cF Z c5 (kN (zG (Zb ZT [3,3,3,1,3,3,3,1,3,3,3,1,3,3,3,1,3,3,3,3,1,3,3,3,1,3,3,3,3,3] fL30 (by kernel_rfl) ?_)))
 have ai:=hS.drew
 generalize hw_W9:({ w with drawn:=w.drawn + 1 }:World)=W9 at ai ⊢
 refine oM Z Z (oR Z (ZQ Z Z) (oR Z (zD Z Z Zl Z Tryz.sizeOf61) (oL Z (ai.ldB (j:=0) Z Z Z Tryz.isAgg61 (v:=.slice ae p0.bytes.length ah) Z) (oM Z Z (oR Z (ZQ Z Z) (oR Z (zD Z Z Zl Z zF) (oL Z (ai.ldB (j:=0) Z Z Z zK (v:=jV p0.next) Z) (oM Z Z (oR Z (ZQ Z Z) (oR Z (zD Z Z Zl Z Tryz.sizeOf61) (oL Z (ai.ldB (j:=0) Z Z Z Tryz.isAgg61 (v:=.slice ae p0.bytes.length ah) Z) (oR Z (zd Z Z Tryz.runUnderlying61) (bnK bJ fun bN bk bv=>oR Z (Runs.rem Z Z Z bk) (bnK bv fun bh aY bw=>?_))))))))))))))
 have q:=am.el (fun _=>rfl) (wAZ aY)
 obtain ⟨bL,bM,br,bs⟩:=q
 refine oR Z (Zj Z Z br Z Tryz.runUnderlying61 Tryz.sizeOf5 (wDO aY) (wDV aY)) (oL Z (ai.ldC (f:=0) bs (v:=.int .u8 bh) Z Z Tryz.isAgg5 Z) (oR Z (Runs.cvu Z Z Tryz.runUnderlying5 yT Z Z) (oM Z Z (oR Z (ZQ Z Z) (oR Z (zD Z Z Zl Z zF) (oL Z (ai.ldB (j:=0) Z Z Z zK (v:=jV p0.next) Z) (oM Z Z (oR Z (ZQ Z Z) (oR Z (zD Z Z Zl Z Tryz.sizeOf61) (oL Z (ai.ldB (j:=0) Z Z Z Tryz.isAgg61 (v:=.slice ae p0.bytes.length ah) Z) (oR Z (zd Z Z Tryz.runUnderlying61) (bnK bw fun x20 bl bz=>oR Z (Runs.quo Z Z Z bl) (oR Z (Runs.cvu Z Z Tryz.runUnderlying3 yT Z Z) (oA Z Z (oA Z Z (eN (zG (yH fun aV au=>?_))))))))))))))))))
 have ap:aV 0=.pointer (some ⟨aj,0,none⟩):=(au 0).trans rfl
 have av:aV 1=jV p1:=(au 1).trans rfl
 have aw:aV 5=.int .u32 (wFK bh):=(au 5).trans rfl
 have bd:aV 6=.int .u32 (wFK x20):=(au 6).trans rfl
 clear au
 refine rR (wRo (.fx 7 .nil .stop)) Z (oM Z ap (oR Z (ZQ Z Z) (oR Z (zD Z Z Zl Z zF) (oL Z (ai.ldB (j:=0) Z Z Z zK (v:=jV p0.next) Z) (oR Z (zY Z Z Z) (oR Z (ZQ Z Z) (oR Z (zD Z Z Zl Z zF) (zx (j:=0) (vs:=[jV (w64 (p0.next + 1))]) Z Z Z Z ai Z Z Z Z zF (zA Z) Z Z Z ?_))))))))
 intro bi bt
 let B0:Res:=.blk aj 192 [.slice ae p0.bytes.length ah,jV p0.next,.int .u32 p0.state]
 have be:SW w [B0] φ φ [.blk aj 192 [.slice ae p0.bytes.length ah,jV (w64 (p0.next + 1)),.int .u32 p0.state]] bi:=bt
 refine eN (sR (wST (.fx 15 .nil .stop)) Z (oM Z ap (oM Z ap (oR Z (ZQ Z Z) (oR Z (zD Z Z Zl Z Tryz.sizeOf190) (oL Z (be.ldB (j:=0) Z Z Z Tryz.isAgg190 (v:=.int .u32 p0.state) Z) (oR Z (Runs.mulu Z Z Z) (oM Z aw (oR Z (Runs.addu Z Z Z) (oM Z bd (oR Z (Runs.mulu Z Z Z) (oR Z (Runs.addu Z Z Z) (oR Z (Runs.addu Z Z Z) (bnK bz fun aU bm bA=>oR Z (Runs.rem Z Z Z bm) (oR Z (ZQ Z Z) (oR Z (zD Z Z Zl Z Tryz.sizeOf190) (zx (j:=0) (vs:=[.int .u32 aU]) Z Z Z Z be Z Z Z Z Tryz.sizeOf190 (zA Z) Z Z Z ?_)))))))))))))))))
 intro bj bu
 have aq:SW w [B0] φ φ [.blk aj 192 [.slice ae p0.bytes.length ah,jV (w64 (p0.next + 1)),.int .u32 aU]] bj:=bu
 refine eN (zG (sR fL6 Z (oM Z bd (oR Z (yQ Z Z Z) (oM Z Z (ifc bA ?_ ?_))))))
 intro ak bB
 refine zf Z Z Z (wT Z ak) Z av (rU Z (wT Z ak) (Runs.leq Z Z Z) (oR Z (zh Z (Zk ak.out) Z) (eN (ifc bB ?_ ?_))))
 intro aW bC
 refine cT Z aW (sR fL5 Z (oM Z aw (oR Z (Runs.cvw Z Z yT Tryz.runUnderlying3 Z Z) (oM Z av (bnK bC fun bO bn bD=>oR Z (Runs.rem Z Z Z bn) (oA Z Z (eN (zP (zN ?_)))))))))
 cases bD
 exact ⟨Z,_,(zw Z),φ,_,aq,ae,ah,Z,Z,am⟩
 intro aW bE
 refine cF Z aW (kN (sR fL11 Z (oM Z ap (oR Z (ZQ Z Z) (oR Z (zD Z Z Zl Z Tryz.sizeOf190) (oL Z (aq.ldB (j:=0) Z Z Z Tryz.isAgg190 (v:=.int .u32 aU) Z) (oR Z (Runs.mulu Z Z Z) (oM Z aw (oR Z (Runs.addu Z Z Z) (oR Z (Runs.cvw Z Z yT Tryz.runUnderlying3 Z Z) (oM Z av (bnK bE fun bP bp bF=>oR Z (Runs.rem Z Z Z bp) (oA Z Z (eN (zP ?_)))))))))))))))
 cases bF
 exact ⟨Z,_,(zw Z),φ,_,aq,ae,ah,Z,Z,am⟩
 intro ak bG
 refine oF Z ak (oF Z ak (oR Z (zk Z (ZI ak.out) Z) (eN (zu Z (kN (sR fL11 Z (oM Z ap (oR Z (ZQ Z Z) (oR Z (zD Z Z Zl Z Tryz.sizeOf190) (oL Z (aq.ldB (j:=0) Z Z Z Tryz.isAgg190 (v:=.int .u32 aU) Z) (oR Z (Runs.mulu Z Z Z) (oM Z aw (oR Z (Runs.addu Z Z Z) (oR Z (Runs.cvw Z Z yT Tryz.runUnderlying3 Z Z) (oM Z av (bnK bG fun bQ bq bH=>oR Z (Runs.rem Z Z Z bq) (oA Z Z (eN (zP ?_)))))))))))))))))))
 cases bH
 exact ⟨Z,_,(zw Z),φ,_,aq,ae,ah,Z,Z,am⟩
theorem wAt (p0:wAB) (ab:Nat) (ae:Option Addr) (ah:Nat) (p1:Int) (p2:Int) (w:World) (φ:PHeap) (hS:St0 w φ [.blk ab 192 [.slice ae p0.bytes.length ah,jV p0.next,.int .u32 p0.state]]) (aY:Sl φ 1 ae ah p0.bytes.length (nA KL.encB8 p0.bytes)) {r:Int × wAB} (hm:wAQ p0 p1 p2=some r):Gv Tryz.prog 64 [.pointer (some ⟨ab,0,none⟩),jV p1,jV p2] w (wCM w [.blk ab 192 [.slice ae p0.bytes.length ah,jV p0.next,.int .u32 p0.state]] φ (fun φ_ L_ v=>∃ (ap:Option Addr) (au:Nat),v=jV r.1/\L_=[.blk ab 192 [.slice ap r.2.bytes.length au,jV r.2.next,.int .u32 r.2.state]]/\Sl φ_ 1 ap au r.2.bytes.length (nA KL.encB8 r.2.bytes))):=by
 unfold wAQ at hm
 refine Gv.of Tryz.func64 Z Tryz.ntmps64 Tryz.results64 Z (sR fL1 Z (oA Z Z (eN (sR (wMe gAm) Z (oM Z Z (oM Z Z (oM Z Z (oM Z Z (oR Z (Zo Z Z Z) (oR Z (zY Z Z Z) ?_))))))))))
 have q:=bnd hm
 obtain ⟨⟨x2,x3⟩,h4,av⟩:=q
 try dsimp only at av
 refine zM 1 Z Z Z Z (zL Z Z yE (zC Z (zC Z zQ)) Z) hS (fun hs=>wAV p0 ab ae ah (w64 ((w64 (p2 - p1)) + 1)) w φ hs aY h4) (.inl Z) ?_
 rintro aw L7 v8 W9 ba aW ⟨am,aq,rfl,rfl,aU⟩
 have aX:SW w [.blk ab 192 [.slice ae p0.bytes.length ah,jV p0.next,.int .u32 p0.state]] φ aw [.blk ab 192 [.slice am x3.bytes.length aq,jV x3.next,.int .u32 x3.state]] W9:=aW
 refine oR Z (zY Z Z Z) (oA Z Z (eN (zP ?_)))
 cases av
 exact ⟨Z,_,(zw Z),aw,_,aX,am,aq,Z,Z,aU⟩
theorem wFm (p0:wAB) (aa:Nat) (aX:Option Addr) (aY:Nat) (p1:Int) (w:World) (φ:PHeap) (hS:St0 w φ [.blk aa 192 [.slice aX p0.bytes.length aY,jV p0.next,.int .u32 p0.state]]) (eI:Sl φ 1 aX aY p0.bytes.length (nA KL.encB8 p0.bytes)) {r:wAJ × wAB} (hm:wCI p0 p1=some r):Gv Tryz.prog 100 [.pointer (some ⟨aa,0,none⟩),jV p1] w (wCM w [.blk aa 192 [.slice aX p0.bytes.length aY,jV p0.next,.int .u32 p0.state]] φ (fun φ_ L_ v=>∃ (bG:Option Addr) (bX:Nat) (bP:Option Addr) (cq:Nat),v=.agg #[.slice bG r.1.Classes.length bX,jV r.1.Each,jV r.1.Laps,jV r.1.Spare,jV r.1.Loop,jV r.1.Unused]/\L_=[.row bG bX 3 1 (nA KL.encI r.1.Classes),.blk aa 192 [.slice bP r.2.bytes.length cq,jV r.2.next,.int .u32 r.2.state]]/\Sl φ_ 1 bP cq r.2.bytes.length (nA KL.encB8 r.2.bytes))):=by
 unfold wCI at hm
 refine Gv.of Tryz.func100 Z Tryz.ntmps100 Tryz.results100 Z (sR (.fx 0 .nil .stop) Z ?_)
 let B0:List Value:=[.slice none 0 0,jV 0,jV 0,jV 0,jV 0,jV 0]
 refine ZD (cs:=B0) Z Z Z Z Z Tryz.zeroValue24 Z hS ?_
 intro W2 b3 dW
 refine eN (sR (.fl 0 (.fx 1 (.fl 2 (.fx 3 (.fl 4 (.fx 5 (.fl 6 (.fx 7 (.fl 8 (.fl 9 (.fx 10 (.fl 11 (.fl 12 (.fx 13 (.fx 14 .nil .stop) .stop))) .stop))) .stop)) .stop)) .stop)) .stop)) Z (oM Z Z ?_))
 have q:=bnd hm
 obtain ⟨⟨x6,x7⟩,h8,cK⟩:=q
 try dsimp only at cK
 let B1:Res:=.blk aa 192 [.slice aX p0.bytes.length aY,jV p0.next,.int .u32 p0.state]
 have dH:SW w [B1] φ φ [B1,.blk b3 24 B0] W2:=dW.pick [1,0] _ (by decide) rfl
 refine zM 1 Z Z Z Z (zL Z Z Tryz.call64 (zC Z (zC Z (zC Z zQ))) Z) dH (fun hs=>wAt p0 aa aX aY 1 2 W2 φ hs eI h8) (.inl Z) ?_
 rintro cN eW fu bR ff dK ⟨bH,bZ,rfl,rfl,dq⟩
 have dL:SW w [B1] φ cN [.blk aa 192 [.slice bH x7.bytes.length bZ,jV x7.next,.int .u32 x7.state],.blk b3 24 B0] bR:=dK
 refine oM Z Z ?_
 have q:=bnd cK
 obtain ⟨⟨au,bi⟩,dv,cE⟩:=q
 try dsimp only at cE
 refine zM 1 Z Z Z Z (zL Z Z Tryz.call64 (zC Z (zC Z (zC Z zQ))) Z) dL (fun hs=>wAt x7 aa bH bZ 1 3 bR cN hs dq dv) (.inl Z) ?_
 rintro cO eY fy bU fh dU ⟨bK,cg,rfl,rfl,dx⟩
 have dV:SW w [B1] φ cO [.blk aa 192 [.slice bK bi.bytes.length cg,jV bi.next,.int .u32 bi.state],.blk b3 24 B0] bU:=dU
 refine oM Z Z ?_
 have q:=bnd cE
 obtain ⟨⟨x35,x36⟩,dy,cG⟩:=q
 try dsimp only at cG
 refine zM 1 Z Z Z Z (zL Z Z yE (zC Z (zC Z zQ)) Z) dV (fun hs=>wAV bi aa bK cg 100 bU cO hs dx dy) (.inl Z) ?_
 rintro cQ eZ fz bV fj dX ⟨bL,ci,rfl,rfl,dz⟩
 have dY:SW w [B1] φ cQ [.blk aa 192 [.slice bL x36.bytes.length ci,jV x36.next,.int .u32 x36.state],.blk b3 24 B0] bV:=dX
 refine oM Z Z ?_
 have q:=bnd cG
 obtain ⟨⟨av,bj⟩,dA,cH⟩:=q
 try dsimp only at cH
 refine zM 1 Z Z Z Z (zL Z Z yE (zC Z (zC Z zQ)) Z) dY (fun hs=>wAV x36 aa bL ci 100 bV cQ hs dz dA) (.inl Z) ?_
 rintro cR e8 fA bW fm dZ ⟨bM,cj,rfl,rfl,dB⟩
 have d7:SW w [B1] φ cR [.blk aa 192 [.slice bM bj.bytes.length cj,jV bj.next,.int .u32 bj.state],.blk b3 24 B0] bW:=dZ
 refine oR Z (zY Z Z Z) (oM Z Z ?_)
 have q:=bnd cH
 obtain ⟨⟨az,bk⟩,dC,cI⟩:=q
 try dsimp only at cI
 refine zM 1 Z Z Z Z (zL Z Z yE (zC Z (zC Z zQ)) Z) d7 (fun hs=>wAV bj aa bM cj 13 bW cR hs dB dC) (.inl Z) ?_
 rintro bn e9 fB cZ fq d8 ⟨bN,cm,rfl,rfl,dD⟩
 let B2:Res:=.blk aa 192 [.slice bN bk.bytes.length cm,jV bk.next,.int .u32 bk.state]
 have d9:SW w [B1] φ bn [B2,.blk b3 24 B0] cZ:=d8
 refine oR Z (Runs.mulw Z Z Z) ?_
 let B3:List Value:=[.slice none 0 0,jV x6,jV au,jV x35,jV (w64 (200 + av)),jV (w64 (100 * az))]
 refine oR Z (Zd (pv:=[(1,jV x6),(2,jV au),(3,jV x35),(4,jV (w64 (200 + av))),(5,jV (w64 (100 * az)))]) (z:=B0) (cs:=B3) Z (wAN Z (wAN Z (wAN Z (wAN Z (wAN Z wAa))))) Tryz.zeroValue24 wRN Z Z) (ZD (cs:=B0) Z Z Z Z Z Tryz.zeroValue24 Z d9 ?_)
 intro fd aj ef
 refine zx (j:=0) (vs:=B3) Z Z Z Z ef Z Z Z Z ZY (zA Z) Z Z Z ?_
 intro bt eh
 have eu:SW w [B1] φ bn [.blk aj 24 B3,B2,.blk b3 24 B0] bt:=eh
 refine eN (zG (sR gAq Z (oM Z Z (oM Z Z ?_))))
 have q:=bnd cI
 obtain ⟨⟨bm,x85⟩,dF,cJ⟩:=q
 try dsimp only at cJ
 have eC:SW w [B1] φ bn [B2,.blk aj 24 B3,.blk b3 24 B0] bt:=eu.pick [1,0,2] _ (by decide) rfl
 refine zM 1 Z Z Z Z (zL Z Z Tryz.call64 (zC Z (zC Z (zC Z zQ))) Z) eC (fun hs=>wAt bk aa bN cm 1 p1 bt bn hs dD dF) (.inl Z) ?_
 rintro bF fb fC da ft eD ⟨bO,cp,rfl,rfl,dG⟩
 have eG:SW w [B1] φ bF [.blk aa 192 [.slice bO x85.bytes.length cp,jV x85.next,.int .u32 x85.state],.blk aj 24 B3,.blk b3 24 B0] da:=eD
 refine oM Z Z (eN (zR ?_))
 have q:=bnd cJ
 obtain ⟨⟨eS,eT,eU,cM⟩,eJ,cC⟩:=q
 try dsimp only at cC
 have q:=wBU eJ
 obtain ⟨bA,eK⟩:=q
 replace bA:=zH bA
 refine CK.forN' (fun aV (aW,bC,bD,ak) σ_ w_=>∃ (φ_:PHeap) (bb:Option Addr) (bf:Nat) (am:Option Addr) (aq:Nat),σ_ 22=jV (↑aV:Int)/\σ_ 0=.pointer (some ⟨aa,0,none⟩)/\σ_ 4=.pointer (some ⟨b3,0,none⟩)/\σ_ 5=.pointer (some ⟨aj,0,none⟩)/\σ_ 21=jV bm/\PHeap.Le bF φ_/\SW w [B1] φ φ_ [.blk aa 192 [.slice bb aW.length bf,jV bC,.int .u32 bD],.row am aq 3 1 (nA KL.encI ak),.blk aj 24 [.slice am ak.length aq,jV x6,jV au,jV x35,jV (w64 (200 + av)),jV (w64 (100 * az))],.blk b3 24 B0] w_/\Sl φ_ 1 bb bf aW.length (nA KL.encB8 aW)) eK ?_ ?_ ?_
 have dI:=eG.nilrow 3 1
 exact ⟨bF,bO,cp,none,0,rfl,rfl,rfl,rfl,rfl,(zS _),(dI.pick [1,0,2,3] _ (by decide) rfl),dG⟩
 rintro aV ⟨aW,bC,bD,ak⟩ fD fE bS bz ⟨eV,bb,bf,am,aq,cw,cr,df,bv,ct,eQ,dJ,dp⟩ cL
 try dsimp only at cL
 have bY:Hid ((↑aV:Int) < bm):=zH (wBI bz)
 replace bz:=zH bz
 have eM:Hid (w64 ((↑aV:Int) + 1)=(↑(aV + 1):Int)):=zH (by have h1:=bA.out;have h2:=bY.out;rw [wAU] <;> omega)
 refine sR fL1 rfl (zj rfl rfl rfl rfl (fun _=>zU rfl cw ct) (eN (zG (cT Z bY (kN (zG (zR (Zb ZT [3,1004,3,1005,2,0,3,0,aa] (wDy gAw) (by kernel_rfl) ?_))))))))
 have bw:=dJ.drew
 generalize hw_W196:({ bS with drawn:=bS.drawn + 1 }:World)=cS at bw ⊢
 refine oR Z (zD Z bv ZE Z zW) ?_
 let B4:Res:=.blk aj 24 [.slice am ak.length aq,jV x6,jV au,jV x35,jV (w64 (200 + av)),jV (w64 (100 * az))]
 let B5:Res:=.row am aq 3 1 (nA KL.encI ak)
 refine OKS.mt (T:=[aa]) [0] [1,2,3] [B5,B4,.blk b3 24 B0] rfl rfl rfl rfl bw rfl ⟨⟨0,by decide,_,rfl,rfl⟩,trivial⟩ (by decide) rfl (by decide) (fun _ eH=>(eH.ldB (j:=1) rfl rfl rfl zm (v:=.slice am ak.length aq) rfl)) rfl (zf rfl rfl rfl rfl rfl cr ?_)
 have q:=bnd cL
 obtain ⟨⟨aZ,bE⟩,dr,cD⟩:=q
 try dsimp only at cD
 refine OKS.callHT 1 rfl rfl rfl rfl (zL rfl rfl yE (zC rfl (zC rfl zQ)) rfl) bw (fun hs=>wAV (⟨aW,bC,bD⟩:wAB) aa bb bf 2 cS eV hs dp dr) rfl (T:=[aa]) rfl ⟨fun b h=>(by cases h;exact .head _),trivial⟩ ?_
 rintro ba eX fw cU eR dM ⟨bI,b5,rfl,rfl,dt⟩
 let B6:Res:=.blk aa 192 [.slice bI bE.bytes.length b5,jV bE.next,.int .u32 bE.state]
 have dN:SW w [B1] φ ba [B6,B5,B4,.blk b3 24 B0] cU:=dM
 refine ZF (pv:=[(0,jV aZ)]) (zs:=[jV 0]) (cs:=[jV aZ]) Z Z Z Z Z (wAN Z wAa) zB zF Zs Z Z Z Z Z dN ?_
 intro cV db dO
 let B7:Res:=.row (some ⟨db,0,none⟩) 1 3 1 (nA KL.encI [aZ])
 have cy:SW w [B1] φ ba [B7,B6,B5,B4,.blk b3 24 B0] cV:=dO
 refine bnK cD fun bh du eP=>Zu (j:=2) (enc:=KL.encI) (xs:=ak) (ys:=[aZ]) (zs:=bh) rfl rfl rfl rfl rfl Zr wFU rfl rfl rfl rfl rfl rfl cy rfl rfl rfl (cy.srcR (j:=0) rfl (by decide) (wAK (f:=KL.encI) (sz:=1) (fun _=>rfl) [aZ])) (fun _=>rfl) (fun _=>rfl) du rfl ?_
 intro bd bg cW dP
 let B8:Res:=.row bd bg 3 1 (nA KL.encI bh)
 have dQ:SW w [B1] φ ba [B7,B6,B8,B4,.blk b3 24 B0] cW:=dP
 refine oR Z (zD Z bv ZE Z zW) (zx (j:=3) (vs:=[.slice bd bh.length bg]) Z Z Z Z dQ Z Z Z Z zW (zA Z) Z Z Z ?_)
 intro cX dR
 have dS:SW w [B1] φ ba [B7,B6,B8,.blk aj 24 [.slice bd bh.length bg,jV x6,jV au,jV x35,jV (w64 (200 + av)),jV (w64 (100 * az))],.blk b3 24 B0] cX:=dR
 refine zn (ze (zI (rR fL2 Z (oR Z (ZC (zY Z cw Z) (congrArg (jV) eM.out)) (oM Z Z (zn ?_))))))
 cases eP
 exact zI ⟨rfl,⟨ba,bI,b5,bd,bg,rfl,cr,df,bv,ct,(eQ.trans eR),(dS.pick [1,2,3,4] _ (by decide) rfl),dt⟩⟩
 rintro fG fc ⟨cP,bJ,cd,bp,bu,dm,fe,cu,dg,dh,fg,cz,dw⟩
 have de:Hid (¬ ((↑((bm:Int) - 0).toNat:Int) < bm)):=zH (wAp)
 refine sR fL1 Z (oR Z (zU Z dm dh) (eN (zG (cF Z de (ZJ (zX (zX (ZB (zI (sR gAf Z ?_))))))))))
 let B9:List Value:=[.slice bp cM.length bu,jV x6,jV au,jV x35,jV (w64 (200 + av)),jV (w64 (100 * az))]
 refine oL Z (cz.ldBA (j:=2) Z Z dg yZ ZY (vs:=B9) Z Z) (zx (j:=3) (vs:=B9) Z Z Z Z cz Z cu Z Z ZY (zA Z) Z Z Z ?_)
 intro cY dT
 have cA:SW w [B1] φ cP [.blk aa 192 [.slice bJ eS.length cd,jV eT,.int .u32 eU],.row bp bu 3 1 (nA KL.encI cM),.blk aj 24 B9,.blk b3 24 B9] cY:=dT
 refine eN (zP ?_)
 cases cC
 exact ⟨rfl,_,(wFl (v:=.agg B9.toArray) ⟨⟨_,cu,(wFD yZ ZY (cA.blkAt (k:=3) rfl) (vs:=B9) rfl rfl)⟩,trivial⟩),cP,_,(cA.pick [1,0] _ (by decide) rfl),bp,bu,bJ,cd,rfl,rfl,dw⟩
theorem wCY (p0:wAB) (ab:Nat) (ae:Option Addr) (ah:Nat) (p1:Int) (w:World) (φ:PHeap) (hS:St0 w φ [.blk ab 192 [.slice ae p0.bytes.length ah,jV p0.next,.int .u32 p0.state]]) (aX:Sl φ 1 ae ah p0.bytes.length (nA KL.encB8 p0.bytes)) {r:Bool × wAB} (hm:wAb p0 p1=some r):Gv Tryz.prog 101 [.pointer (some ⟨ab,0,none⟩),jV p1] w (wCM w [.blk ab 192 [.slice ae p0.bytes.length ah,jV p0.next,.int .u32 p0.state]] φ (fun φ_ L_ v=>∃ (am:Option Addr) (aq:Nat),v=.bool r.1/\L_=[.blk ab 192 [.slice am r.2.bytes.length aq,jV r.2.next,.int .u32 r.2.state]]/\Sl φ_ 1 am aq r.2.bytes.length (nA KL.encB8 r.2.bytes))):=by
 unfold wAb at hm
 refine Gv.of Tryz.func101 Z Tryz.ntmps101 Tryz.results101 Z (sR fL1 Z (oA Z Z (eN (sR gAx Z (oM Z Z (oM Z Z ?_))))))
 have q:=bnd hm
 obtain ⟨⟨x2,x3⟩,h4,au⟩:=q
 try dsimp only at au
 refine zM 1 Z Z Z Z (zL Z Z yE (zC Z (zC Z zQ)) Z) hS (fun hs=>wAV p0 ab ae ah p1 w φ hs aX h4) (.inl Z) ?_
 rintro av L7 v8 W9 aZ aV ⟨ak,ap,rfl,rfl,az⟩
 have aW:SW w [.blk ab 192 [.slice ae p0.bytes.length ah,jV p0.next,.int .u32 p0.state]] φ av [.blk ab 192 [.slice ak x3.bytes.length ap,jV x3.next,.int .u32 x3.state]] W9:=aV
 refine oR Z (yQ Z Z Z) (oA Z Z (eN (zP ?_)))
 cases au
 exact ⟨Z,_,(zw Z),av,_,aW,ak,ap,Z,Z,az⟩
theorem wEA (p0:wAB) (ae:Nat) (aV:Option Addr) (aW:Nat) (w:World) (φ:PHeap) (hS:St0 w φ [.blk ae 192 [.slice aV p0.bytes.length aW,jV p0.next,.int .u32 p0.state]]) (cS:Sl φ 1 aV aW p0.bytes.length (nA KL.encB8 p0.bytes)) {r:(List Bool) × wAB} (hm:wAi p0=some r):Gv Tryz.prog 102 [.pointer (some ⟨ae,0,none⟩)] w (wCM w [.blk ae 192 [.slice aV p0.bytes.length aW,jV p0.next,.int .u32 p0.state]] φ (fun φ_ L_ v=>∃ (A0:Option Addr) (c0:Nat) (bF:Option Addr) (bM:Nat),v=.slice A0 r.1.length c0/\L_=[.row A0 c0 4 1 (nA KL.encT r.1),.blk ae 192 [.slice bF r.2.bytes.length bM,jV r.2.next,.int .u32 r.2.state]]/\Sl φ_ 1 bF bM r.2.bytes.length (nA KL.encB8 r.2.bytes))):=by
 unfold wAi at hm
 refine Gv.of Tryz.func102 Z Tryz.ntmps102 Tryz.results102 Z (sR fL1 Z (oA Z Z (eN (sR fL1 Z (oA Z Z (eN (zG (sR fL1 Z (oA Z Z (eN (zR ?_)))))))))))
 let B0:Res:=.blk ae 192 [.slice aV p0.bytes.length aW,jV p0.next,.int .u32 p0.state]
 refine CK.iter (fun (az,be,x35,aw,bB) σ_ w_=>∃ (φ_:PHeap) (ap:Option Addr) (aq:Nat) (aj:Option Addr) (am:Nat),σ_ 0=.pointer (some ⟨ae,0,none⟩)/\σ_ 3=.slice aj aw.length am/\σ_ 4=jV bB/\PHeap.Le φ φ_/\SW w [B0] φ φ_ [.blk ae 192 [.slice ap az.length aq,jV be,.int .u32 x35],.row aj am 4 1 (nA KL.encT aw)] w_/\Sl φ_ 1 ap aq az.length (nA KL.encB8 az)) hm ?_ ?_
 have cN:=hS.nilrow 4 1
 exact ⟨φ,aV,aW,none,0,rfl,rfl,rfl,(zS _),(cN.pick [1,0] _ (by decide) rfl),cS⟩
 rintro ⟨az,be,x35,aw,bB⟩ dB dC bK ⟨bf,ap,aq,aj,am,au,av,aU,bd,bb,ba⟩ bz bw
 try dsimp only at bz
 refine zG (sR (wVL (.fx 12 (wTv (.nil)) .stop)) Z (oM Z aU (oR Z (zU Z Z Z) (oM Z Z ?_))))
 by_cases aa:bB < 5
 have bY:=bz;rw [if_pos aa] at bY;replace aa:=zH aa
 refine zf Z Z Z (wT Z aa) Z av (rU Z (wT Z aa) (zd Z Z ZU) (rU Z (wT Z aa) (zU Z Z Z) (zf Z Z Z (wT Z aa) Z Z (ifc bY ?_ ?_))))
 intro ab dh
 refine oT Z ab (oT Z ab (oT Z ab (oT Z ab (zJ Z Z Z (wAC Z Z Z) (yW Z Z Z (wAC Z Z Z) (zJ Z Z Z (wAC Z Z Z) (oT Z ab (rU Z (wT Z aa) (zh Z (Zk ab.out) Z) (oR Z (zh Z (Zk aa.out) Z) (eN (ZG Z (kN (zR (sR gAs Z (oM Z au ?_)))))))))))))))
 have q:=bnd dh
 obtain ⟨⟨x61,bC⟩,cG,bZ⟩:=q
 try dsimp only at bZ
 refine zM 1 Z Z Z Z (zL Z Z Tryz.call101 (zC Z (zC Z zQ)) Z) bb (fun hs=>wCY (⟨az,be,x35⟩:wAB) ae ap aq 4 bK bf hs ba cG) (.inl Z) ?_
 rintro aZ dx dA cq cg cO ⟨bj,bt,rfl,rfl,bP⟩
 let B1:Res:=.blk ae 192 [.slice bj bC.bytes.length bt,jV bC.next,.int .u32 bC.state]
 let B2:Res:=.row aj am 4 1 (nA KL.encT aw)
 have cP:SW w [B0] φ aZ [B1,B2] cq:=cO
 refine oR Z (ZW Z Z) (oA Z Z (eN (sR gAy Z (oM Z av (oM Z Z (ZF (pv:=[(0,.bool (!x61))]) (zs:=[.bool false]) (cs:=[.bool (!x61)]) Z Z Z Z Z (wAN Z wAa) ZU ya Tryz.zeroValue4 Z Z Z Z Z cP ?_))))))
 intro cr cw cQ
 let B3:Res:=.row (some ⟨cw,0,none⟩) 1 4 1 (nA KL.encT [!x61])
 have bT:SW w [B0] φ aZ [B3,B1,B2] cr:=cQ
 refine bnK bZ fun x80 cH dm=>Zu (j:=2) (enc:=KL.encT) (xs:=aw) (ys:=[!x61]) (zs:=x80) rfl rfl rfl rfl rfl Tryz.underlying77 wMO rfl rfl rfl rfl rfl rfl bT rfl rfl rfl (bT.srcR (j:=0) rfl (by decide) (wAK (f:=KL.encT) (sz:=1) (fun _=>rfl) [!x61])) (fun _=>rfl) (fun _=>rfl) cH rfl ?_
 intro bk bu ct cR
 have bU:SW w [B0] φ aZ [B3,B1,.row bk bu 4 1 (nA KL.encT x80)] ct:=cR
 refine oA Z Z (eN (sR fL1 Z (oM Z Z (eN (ifc dm ?_ ?_)))))
 intro bv dp
 refine zu (nC bv.out) (Zf (ze ?_))
 obtain rfl:=nB dp
 exact zI ⟨rfl,_,rfl,⟨aZ,bj,bt,bk,bu,au,rfl,aU,(bd.trans cg),(bU.pick [1,2] _ (by decide) rfl),bP⟩⟩
 intro bv dq
 refine ZG (nF (bv.out)) (rR fL3 Z (oM Z aU (oR Z (zY Z Z Z) (oA Z Z (zn (ze ?_))))))
 obtain rfl:=nB dq
 exact zI ⟨rfl,_,rfl,⟨aZ,bj,bt,bk,bu,au,rfl,rfl,(bd.trans cg),(bU.pick [1,2] _ (by decide) rfl),bP⟩⟩
 intro ab cU
 refine zf Z Z Z (wF Z ab) Z av (rU Z (wF Z ab) (zd Z Z ZU) (rU Z (wF Z ab) (zU Z Z Z) (zf Z Z Z (wF Z ab) Z Z (ifc cU ?_ ?_))))
 intro ai cV
 refine zf Z Z Z (wT Z ai) Z au ?_
 have q:=bnd cV
 obtain ⟨⟨x112,x113⟩,cC,bV⟩:=q
 try dsimp only at bV
 refine zM 1 Z Z Z (wT Z ai) (zL Z Z Tryz.call101 (zC Z (zC Z zQ)) Z) bb (fun hs=>wCY (⟨az,be,x35⟩:wAB) ae ap aq 6 bK bf hs ba cC) (.inl Z) ?_
 rintro bD dv dy bJ b5 cI ⟨bg,bn,rfl,rfl,bN⟩
 let B4:Res:=.row aj am 4 1 (nA KL.encT aw)
 have bQ:SW w [B0] φ bD [.blk ae 192 [.slice bg x113.bytes.length bn,jV x113.next,.int .u32 x113.state],B4] bJ:=cI
 refine rU Z (wT Z ai) (ZW Z Z) (rU Z (wF Z ab) (zh Z (Zk ai.out) Z) (rU Z (wT Z aa) (zk Z (ZI ab.out) Z) (oR Z (zh Z (Zk aa.out) Z) (eN (ifc bV ?_ ?_)))))
 intro bp cW
 refine zu (nC bp.out) (ZJ (zX ?_))
 have q:=wAW cW
 obtain ⟨dr,cX,cy⟩:=q
 obtain rfl:=bw dr cy
 refine zX (ZB (zI (sR fL2 Z (oM Z av (oA Z Z (eN (zP ?_)))))))
 cases cX
 exact ⟨rfl,_,(zw rfl),bD,_,(bQ.pick [1,0] _ (by decide) rfl),aj,am,bg,bn,rfl,rfl,bN⟩
 intro bp cY
 refine ZG (nF (bp.out)) (kN (zR (sR gAs Z (oM Z au ?_))))
 have q:=bnd cY
 obtain ⟨⟨aX,bA⟩,cD,bW⟩:=q
 try dsimp only at bW
 refine zM 1 Z Z Z Z (zL Z Z Tryz.call101 (zC Z (zC Z zQ)) Z) bQ (fun hs=>wCY x113 ae bg bn 4 bJ bD hs bN cD) (.inl Z) ?_
 rintro aY dw dz cj cd cJ ⟨bh,bq,rfl,rfl,bO⟩
 let B5:Res:=.blk ae 192 [.slice bh bA.bytes.length bq,jV bA.next,.int .u32 bA.state]
 have cK:SW w [B0] φ aY [B5,B4] cj:=cJ
 refine oR Z (ZW Z Z) (oA Z Z (eN (sR gAy Z (oM Z av (oM Z Z (ZF (pv:=[(0,.bool (!aX))]) (zs:=[.bool false]) (cs:=[.bool (!aX)]) Z Z Z Z Z (wAN Z wAa) ZU ya Tryz.zeroValue4 Z Z Z Z Z cK ?_))))))
 intro cm cu cL
 let B6:Res:=.row (some ⟨cu,0,none⟩) 1 4 1 (nA KL.encT [!aX])
 have bR:SW w [B0] φ aY [B6,B5,B4] cm:=cL
 refine bnK bW fun ci cE cZ=>Zu (j:=2) (enc:=KL.encT) (xs:=aw) (ys:=[!aX]) (zs:=ci) rfl rfl rfl rfl rfl Tryz.underlying77 wMO rfl rfl rfl rfl rfl rfl bR rfl rfl rfl (bR.srcR (j:=0) rfl (by decide) (wAK (f:=KL.encT) (sz:=1) (fun _=>rfl) [!aX])) (fun _=>rfl) (fun _=>rfl) cE rfl ?_
 intro bi br cp cM
 have bS:SW w [B0] φ aY [B6,B5,.row bi br 4 1 (nA KL.encT ci)] cp:=cM
 refine oA Z Z (eN (sR fL1 Z (oM Z Z (eN (ifc cZ ?_ ?_)))))
 intro bs da
 refine zu (nC bs.out) (Zf (ze ?_))
 obtain rfl:=nB da
 exact zI ⟨rfl,_,rfl,⟨aY,bh,bq,bi,br,au,rfl,aU,((bd.trans b5).trans cd),(bS.pick [1,2] _ (by decide) rfl),bO⟩⟩
 intro bs db
 refine ZG (nF (bs.out)) (rR fL3 Z (oM Z aU (oR Z (zY Z Z Z) (oA Z Z (zn (ze ?_))))))
 obtain rfl:=nB db
 exact zI ⟨rfl,_,rfl,⟨aY,bh,bq,bi,br,au,rfl,rfl,((bd.trans b5).trans cd),(bS.pick [1,2] _ (by decide) rfl),bO⟩⟩
 intro ai de
 refine oF Z ai (yW Z Z Z (zr Z Z (ZI ai.out) Z) (oF Z ai (rU Z (wF Z ab) (zk Z (ZI ai.out) Z) (rU Z (wT Z aa) (zk Z (ZI ab.out) Z) (oR Z (zh Z (Zk aa.out) Z) (eN (zu Z (ZJ (zX ?_)))))))))
 have q:=wAW de
 obtain ⟨dt,df,cz⟩:=q
 obtain rfl:=bw dt cz
 refine zX (ZB (zI (sR fL2 Z (oM Z av (oA Z Z (eN (zP ?_)))))))
 cases df
 exact ⟨rfl,_,(zw rfl),bf,_,(bb.pick [1,0] _ (by decide) rfl),aj,am,ap,aq,rfl,rfl,ba⟩
 have bX:=bz;rw [if_neg aa] at bX;replace aa:=zH aa
 refine oF Z aa (oF Z aa (oF Z aa (oF Z aa (zJ Z Z Z (wAC Z Z Z) (zJ Z Z Z (wAC Z Z Z) (zJ Z Z Z (wAC Z Z Z) (zJ Z Z Z (wAC Z Z Z) (zJ Z Z Z (wAC Z Z Z) (yW Z Z Z (wAC Z Z Z) (zJ Z Z Z (wAC Z Z Z) (zJ Z Z Z (wAC Z Z Z) (oF Z aa (oR Z (zk Z (ZI aa.out) Z) (eN (zu Z (ZJ (zX ?_)))))))))))))))))
 have q:=wAW bX
 obtain ⟨du,dg,cA⟩:=q
 obtain rfl:=bw du cA
 refine zX (ZB (zI (sR fL2 Z (oM Z av (oA Z Z (eN (zP ?_)))))))
 cases dg
 exact ⟨rfl,_,(zw rfl),bf,_,(bb.pick [1,0] _ (by decide) rfl),aj,am,ap,aq,rfl,rfl,ba⟩
theorem wGP (p0:wAB) (aj:Nat) (eY:Option Addr) (eZ:Nat) (p1:Int) (p2:Int) (w:World) (φ:PHeap) (hS:St0 w φ [.blk aj 192 [.slice eY p0.bytes.length eZ,jV p0.next,.int .u32 p0.state]]) (xl:Sl φ 1 eY eZ p0.bytes.length (nA KL.encB8 p0.bytes)) {r:wAL × wAB} (hm:wBp p0 p1 p2=some r):Gv Tryz.prog 23 [.pointer (some ⟨aj,0,none⟩),jV p1,jV p2] w (wCM w [.blk aj 192 [.slice eY p0.bytes.length eZ,jV p0.next,.int .u32 p0.state]] φ (fun φ_ L_ v=>∃ (j7:Option Addr) (lR:Nat) (j8:Option Addr) (lS:Nat) (me:List Value) (lx:Option Addr) (md:Nat),v=.agg #[.slice j7 r.1.Rules.Classes.length lR,jV r.1.Rules.Each,jV r.1.Rules.Laps,jV r.1.Rules.Spare,jV r.1.Rules.Loop,jV r.1.Rules.Unused,jV r.1.Start,.slice j8 r.1.Teams.length lS]/\L_=[.row j7 lR 3 1 (nA KL.encI r.1.Rules.Classes),.row j8 lS 73 3 me,.blk aj 192 [.slice lx r.2.bytes.length md,jV r.2.next,.int .u32 r.2.state]]/\RlL φ_ wFr r.1.Teams me/\Sl φ_ 1 lx md r.2.bytes.length (nA KL.encB8 r.2.bytes))):=by
 unfold wBp at hm
 refine Gv.of Tryz.func23 Z Tryz.ntmps23 Tryz.results23 Z (sR (.fx 0 .nil .stop) Z ?_)
 let B0:List Value:=[.slice none 0 0,jV 0,jV 0,jV 0,jV 0,jV 0,jV 0,.slice none 0 0]
 refine ZD (cs:=B0) Z Z Z Z Z yA Z hS ?_
 intro W2 b3 vU
 refine eN (sR (.fl 0 (.fl 1 (.fx 2 (.fl 3 gAt) .stop))) Z (oM Z Z (oM Z Z ?_)))
 have q:=bnd hm
 obtain ⟨⟨x6,x7⟩,h8,oH⟩:=q
 try dsimp only at oH
 let B1:Res:=.blk aj 192 [.slice eY p0.bytes.length eZ,jV p0.next,.int .u32 p0.state]
 have uh:SW w [B1] φ φ [B1,.blk b3 27 B0] W2:=vU.pick [1,0] _ (by decide) rfl
 refine zM 1 Z Z Z Z (zL Z Z Tryz.call100 (zC Z (zC Z zQ)) Z) uh (fun hs=>wFm p0 aj eY eZ p2 W2 φ hs xl h8) (.inl Z) ?_
 rintro j4 AM Bj ir Bd vv ⟨bb,bd,lj,l3,rfl,rfl,sO⟩
 let B2:Res:=.row bb bd 3 1 (nA KL.encI x6.Classes)
 let B3:Res:=.blk aj 192 [.slice lj x7.bytes.length l3,jV x7.next,.int .u32 x7.state]
 have vA:SW w [B1] φ j4 [B2,B3,.blk b3 27 B0] ir:=vv
 refine oM Z Z ?_
 have q:=bnd oH
 obtain ⟨⟨cG,gK⟩,sQ,og⟩:=q
 try dsimp only at og
 have vC:SW w [B1] φ j4 [B3,B2,.blk b3 27 B0] ir:=vA.pick [1,0,2] _ (by decide) rfl
 refine zM 1 Z Z Z Z (zL Z Z yE (zC Z (zC Z zQ)) Z) vC (fun hs=>wAV x7 aj lj l3 50 ir j4 hs sO sQ) (.inl Z) ?_
 rintro gR AU Bo p9 Bf vM ⟨ln,l6,rfl,rfl,sZ⟩
 let B4:Res:=.blk aj 192 [.slice ln gK.bytes.length l6,jV gK.next,.int .u32 gK.state]
 have vQ:SW w [B1] φ gR [B4,B2,.blk b3 27 B0] p9:=vM
 let B5:List Value:=[.slice bb x6.Classes.length bd,jV x6.Each,jV x6.Laps,jV x6.Spare,jV x6.Loop,jV x6.Unused,jV cG,.slice none 0 0]
 refine oR Z (Zd (pv:=[(0,.agg #[.slice bb x6.Classes.length bd,jV x6.Each,jV x6.Laps,jV x6.Spare,jV x6.Loop,jV x6.Unused]),(1,jV cG)]) (z:=B0) (cs:=B5) Z (wAN Z (wAN Z wAa)) yA wKJ Z Z) (ZD (cs:=B0) Z Z Z Z Z yA Z vQ ?_)
 intro Ba bf vV
 refine zx (j:=0) (vs:=B5) Z Z Z Z vV Z Z Z Z ZN (zA Z) Z Z Z ?_
 intro iu vW
 have vX:SW w [B1] φ gR [.blk bf 27 B5,B4,B2,.blk b3 27 B0] iu:=vW
 refine eN (zG (sR gAq Z (oM Z Z (oM Z Z ?_))))
 have q:=bnd og
 obtain ⟨⟨bF,jQ⟩,s8,ox⟩:=q
 try dsimp only at ox
 have we:SW w [B1] φ gR [B4,.blk bf 27 B5,B2,.blk b3 27 B0] iu:=vX.pick [1,0,2,3] _ (by decide) rfl
 refine zM 1 Z Z Z Z (zL Z Z Tryz.call64 (zC Z (zC Z (zC Z zQ))) Z) we (fun hs=>wAt gK aj ln l6 1 p1 iu gR hs sZ s8) (.inl Z) ?_
 rintro j6 A3 Bt qf Bg wg ⟨lv,mb,rfl,rfl,tf⟩
 have wj:SW w [B1] φ j6 [.blk aj 192 [.slice lv jQ.bytes.length mb,jV jQ.next,.int .u32 jQ.state],.blk bf 27 B5,B2,.blk b3 27 B0] qf:=wg
 refine oM Z Z (eN (zR ?_))
 have q:=bnd ox
 obtain ⟨⟨An,Ao,Ap,Aq⟩,xo,m7⟩:=q
 try dsimp only at m7
 have q:=wBU xo
 obtain ⟨ji,xp⟩:=q
 replace ji:=zH ji
 refine CK.forN' (fun aq (eX,x95,x96,cr) σ_ w_=>∃ (φ_:PHeap) (ft:Option Addr) (fJ:Nat) (cw:Option Addr) (cA:Nat) (fK:List Value),σ_ 23=jV (↑aq:Int)/\σ_ 0=.pointer (some ⟨aj,0,none⟩)/\σ_ 6=.pointer (some ⟨b3,0,none⟩)/\σ_ 7=.pointer (some ⟨bf,0,none⟩)/\σ_ 22=jV bF/\PHeap.Le j6 φ_/\SW w [B1] φ φ_ [.blk aj 192 [.slice ft eX.length fJ,jV x95,.int .u32 x96],.row bb bd 3 1 (nA KL.encI x6.Classes),.row cw cA 73 3 fK,.blk bf 27 [.slice bb x6.Classes.length bd,jV x6.Each,jV x6.Laps,jV x6.Spare,jV x6.Loop,jV x6.Unused,jV cG,.slice cw cr.length cA],.blk b3 27 B0] w_/\Sl φ_ 1 ft fJ eX.length (nA KL.encB8 eX)/\RlL φ_ wFr cr fK) xp ?_ ?_ ?_
 have up:=wj.nilrow 73 3
 exact ⟨j6,lv,mb,none,0,[],rfl,rfl,rfl,rfl,rfl,(zS _),(up.pick [1,3,0,2,4] _ (by decide) rfl),tf,RlL.nil⟩
 rintro aq ⟨eX,x95,x96,cr⟩ BA BG pF jg ⟨Av,ft,fJ,cw,cA,fK,iW,iP,qR,qS,mn,o7,ut,rG,mG⟩ o5
 try dsimp only at o5
 have lU:Hid ((↑aq:Int) < bF):=zH (wBI jg)
 replace jg:=zH jg
 have m6:Hid (w64 ((↑aq:Int) + 1)=(↑(aq + 1):Int)):=zH (by have h1:=ji.out;have h2:=lU.out;rw [wAU] <;> omega)
 refine sR fL1 Z (oR Z (zU Z iW mn) (eN (zG (cT Z lU (kN (zG (zR (sR fL2 Z (oM Z iW (oA Z Z (eN (sR (wDy (.fx 3 (.fl 4 gAn) .stop)) Z (oM Z Z (oR Z (Runs.mulw Z Z Z) (oM Z iP ?_)))))))))))))))
 have q:=bnd o5
 obtain ⟨⟨aW,gI⟩,rI,n9⟩:=q
 try dsimp only at n9
 refine zM 1 Z Z Z Z (zL Z Z Tryz.call64 (zC Z (zC Z (zC Z zQ))) Z) ut (fun hs=>wAt (⟨eX,x95,x96⟩:wAB) aj ft fJ 1 9 pF Av hs rG rI) (.inl Z) ?_
 rintro gQ AQ Bl pM gg uN ⟨lc,lW,rfl,rfl,r6⟩
 let B6:Res:=.blk bf 27 [.slice bb x6.Classes.length bd,jV x6.Each,jV x6.Laps,jV x6.Spare,jV x6.Loop,jV x6.Unused,jV cG,.slice cw cr.length cA]
 let B7:Res:=.row cw cA 73 3 fK
 let B8:Res:=.blk aj 192 [.slice lc gI.bytes.length lW,jV gI.next,.int .u32 gI.state]
 have uX:SW w [B1] φ gQ [B8,B2,B7,B6,.blk b3 27 B0] pM:=uN
 refine oR Z (zY Z Z Z) ?_
 let B9:List Value:=[jV 0,.slice none 0 0,.slice none 0 0]
 let dJ:List Value:=[jV (w64 ((w64 (9 * (↑aq:Int))) + aW)),.slice none 0 0,.slice none 0 0]
 refine oR Z (Zd (pv:=[(0,jV (w64 ((w64 (9 * (↑aq:Int))) + aW)))]) (z:=B9) (cs:=dJ) Z (wAN Z wAa) Zi wKM Z Z) (ZD (cs:=B9) Z Z Z Z Z Zi Z uX ?_)
 intro A8 au vb
 refine zx (j:=0) (vs:=dJ) Z Z Z Z vb Z Z Z Z zy (zA Z) Z Z Z ?_
 intro it vh
 have vi:SW w [B1] φ gQ [.blk au 73 dJ,B8,B2,B7,B6,.blk b3 27 B0] it:=vh
 refine eN (zG (sR gAo Z (oM Z iP ?_)))
 have q:=bnd n9
 obtain ⟨⟨gJ,jG⟩,sw,od⟩:=q
 try dsimp only at od
 have vt:SW w [B1] φ gQ [B8,.blk au 73 dJ,B2,B7,B6,.blk b3 27 B0] it:=vi.pick [1,0,2,3,4,5] _ (by decide) rfl
 refine zM 1 Z Z Z Z (zL Z Z Tryz.call64 (zC Z (zC Z (zC Z zQ))) Z) vt (fun hs=>wAt gI aj lc lW 1 5 it gQ hs r6 sw) (.inl Z) ?_
 rintro j5 AS Bm pX gv vw ⟨li,lZ,rfl,rfl,sN⟩
 have vx:SW w [B1] φ j5 [.blk aj 192 [.slice li jG.bytes.length lZ,jV jG.next,.int .u32 jG.state],.blk au 73 dJ,B2,B7,B6,.blk b3 27 B0] pX:=vw
 refine oM Z Z (eN (zR ?_))
 have q:=bnd od
 obtain ⟨⟨Ar,As,Au,av⟩,xq,oe⟩:=q
 try dsimp only at oe
 have q:=wBU xq
 obtain ⟨jj,xr⟩:=q
 replace jj:=zH jj
 refine CK.forN' (fun eT (eV,jJ,jK,cE) σ_ w_=>∃ (φ_:PHeap) (fj:Option Addr) (fE:Nat) (cK:Option Addr) (cS:Nat),σ_ 34=jV (↑eT:Int)/\σ_ 0=.pointer (some ⟨aj,0,none⟩)/\σ_ 6=.pointer (some ⟨b3,0,none⟩)/\σ_ 7=.pointer (some ⟨bf,0,none⟩)/\σ_ 9=.pointer (some ⟨au,0,none⟩)/\σ_ 22=jV bF/\σ_ 23=jV (↑aq:Int)/\σ_ 33=jV gJ/\PHeap.Le j5 φ_/\SW w [B1] φ φ_ [.blk aj 192 [.slice fj eV.length fE,jV jJ,.int .u32 jK],.row cK cS 3 1 (nA KL.encI cE),.blk au 73 [jV (w64 ((w64 (9 * (↑aq:Int))) + aW)),.slice cK cE.length cS,.slice none 0 0],B2,B7,B6,.blk b3 27 B0] w_/\Sl φ_ 1 fj fE eV.length (nA KL.encB8 eV)) xr ?_ ?_ ?_
 have vy:=vx.nilrow 3 1
 exact ⟨j5,li,lZ,none,0,rfl,iP,qR,qS,rfl,mn,iW,rfl,(zS _),(vy.pick [1,0,2,3,4,5,6] _ (by decide) rfl),sN⟩
 rintro eT ⟨eV,jJ,jK,cE⟩ BC BK lJ jh ⟨AA,fj,fE,cK,cS,mD,mp,rc,re,iR,ri,rj,mq,Af,vz,sP⟩ o6
 try dsimp only at o6
 have l4:Hid ((↑eT:Int) < gJ):=zH (wBI jh)
 replace jh:=zH jh
 have xt:Hid (w64 ((↑eT:Int) + 1)=(↑(eT + 1):Int)):=zH (by have h1:=jj.out;have h2:=l4.out;rw [wAU] <;> omega)
 refine sR fL1 rfl (zj rfl rfl rfl rfl (fun _=>zU rfl mD mq) (eN (zG (cT Z l4 (kN (zG (zR (Zb ZT [3,1004,3,1005,2,0,3,0,aj] (wDy gAw) (by kernel_rfl) ?_))))))))
 have jb:=vz.drew
 generalize hw_W267:({ lJ with drawn:=lJ.drawn + 1 }:World)=pY at jb ⊢
 refine oR Z (zD Z iR zZ Z zW) ?_
 let fu:Res:=.blk au 73 [jV (w64 ((w64 (9 * (↑aq:Int))) + aW)),.slice cK cE.length cS,.slice none 0 0]
 let g8:Res:=.row cK cS 3 1 (nA KL.encI cE)
 refine OKS.mt (T:=[aj]) [0] [1,2,3,4,5,6] [g8,fu,B2,B7,B6,.blk b3 27 B0] rfl rfl rfl rfl jb rfl ⟨⟨0,by decide,_,rfl,rfl⟩,trivial⟩ (by decide) rfl (by decide) (fun _ xg=>(xg.ldB (j:=1) rfl rfl rfl zm (v:=.slice cK cE.length cS) rfl)) rfl (zf rfl rfl rfl rfl rfl mp ?_)
 have q:=bnd o6
 obtain ⟨⟨fb,jL⟩,sS,oh⟩:=q
 try dsimp only at oh
 refine OKS.callHT 1 rfl rfl rfl rfl (zL rfl rfl yE (zC rfl (zC rfl zQ)) rfl) jb (fun hs=>wAV (⟨eV,jJ,jK⟩:wAB) aj fj fE 2 pY AA hs sP sS) rfl (T:=[aj]) rfl ⟨fun b h=>(by cases h;exact .head _),trivial⟩ ?_
 rintro fe AT Bn pZ Ag vB ⟨lm,l5,rfl,rfl,sT⟩
 let fw:Res:=.blk aj 192 [.slice lm jL.bytes.length l5,jV jL.next,.int .u32 jL.state]
 have vD:SW w [B1] φ fe [fw,g8,fu,B2,B7,B6,.blk b3 27 B0] pZ:=vB
 refine ZF (pv:=[(0,jV fb)]) (zs:=[jV 0]) (cs:=[jV fb]) Z Z Z Z Z (wAN Z wAa) zB zF Zs Z Z Z Z Z vD ?_
 intro p6 qB vE
 let g9:Res:=.row (some ⟨qB,0,none⟩) 1 3 1 (nA KL.encI [fb])
 have mS:SW w [B1] φ fe [g9,fw,g8,fu,B2,B7,B6,.blk b3 27 B0] p6:=vE
 refine bnK oh fun gL sU xI=>Zu (j:=2) (enc:=KL.encI) (xs:=cE) (ys:=[fb]) (zs:=gL) rfl rfl rfl rfl rfl Zr wFU rfl rfl rfl rfl rfl rfl mS rfl rfl rfl (mS.srcR (j:=0) rfl (by decide) (wAK (f:=KL.encI) (sz:=1) (fun _=>rfl) [fb])) (fun _=>rfl) (fun _=>rfl) sU rfl ?_
 intro fm fG p7 vG
 let ly:Res:=.row fm fG 3 1 (nA KL.encI gL)
 have vH:SW w [B1] φ fe [g9,fw,ly,fu,B2,B7,B6,.blk b3 27 B0] p7:=vG
 refine oR Z (zD Z iR zZ Z zW) (zx (j:=3) (vs:=[.slice fm gL.length fG]) Z Z Z Z vH Z Z Z Z zW (zA Z) Z Z Z ?_)
 intro p8 vJ
 have vK:SW w [B1] φ fe [g9,fw,ly,.blk au 73 [jV (w64 ((w64 (9 * (↑aq:Int))) + aW)),.slice fm gL.length fG,.slice none 0 0],B2,B7,B6,.blk b3 27 B0] p8:=vJ
 refine zn (ze (zI (rR fL2 Z (oR Z (ZC (zY Z mD Z) (congrArg (jV) xt.out)) (oM Z Z (zn ?_))))))
 cases xI
 exact zI ⟨rfl,⟨fe,lm,l5,fm,fG,rfl,mp,rc,re,iR,ri,rj,mq,(Af.trans Ag),(vK.pick [1,2,3,4,5,6,7] _ (by decide) rfl),sT⟩⟩
 rintro BL lK ⟨AD,pz,qI,aw,aV,ry,eP,mr,fR,ms,mu,mw,rk,gw,vL,sV⟩
 have qJ:Hid (¬ ((↑((gJ:Int) - 0).toNat:Int) < gJ)):=zH (wAp)
 refine sR fL1 rfl (zj rfl rfl rfl rfl (fun _=>zU rfl ry rk) (eN (zG (cF Z qJ (ZJ (zX (zX (ZB (zI (zG (Zb ZT [3,1005,3,3,1004,3,3,3,1004,3,3,3,aj] (.fl 0 (fC2_9 (.fx 1 (.fl 10 (.fl 11 .nil)) .stop))) (by kernel_rfl) ?_)))))))))))
 have fZ:=vL.drew
 generalize hw_W352:({ lK with drawn:=lK.drawn + 1 }:World)=qa at fZ ⊢
 refine oM Z eP (oR Z (zD Z fR zV Z ZY) (oR Z (zD Z Z ZE Z zW) ?_))
 let ap:Res:=.row aw aV 3 1 (nA KL.encI av)
 let dK:Res:=.blk au 73 [jV (w64 ((w64 (9 * (↑aq:Int))) + aW)),.slice aw av.length aV,.slice none 0 0]
 refine OKS.mt (T:=[aj]) [0] [1,2,3,4,5,6] [ap,dK,B2,B7,B6,.blk b3 27 B0] rfl rfl rfl rfl fZ rfl ⟨⟨0,by decide,_,rfl,rfl⟩,trivial⟩ (by decide) rfl (by decide) (fun _ xh=>(xh.ldB (j:=4) rfl rfl rfl zm (v:=.slice bb x6.Classes.length bd) rfl)) rfl (zj rfl rfl rfl rfl (fun _=>zd rfl rfl zB) (zj rfl rfl rfl rfl (fun _=>zD rfl fR zV rfl ZY) (zj rfl rfl rfl rfl (fun _=>zD rfl rfl ZE rfl zF) (OKS.mt (T:=[aj]) [0] [1,2,3,4,5,6] [ap,dK,B2,B7,B6,.blk b3 27 B0] rfl rfl rfl rfl fZ rfl ⟨⟨0,by decide,_,rfl,rfl⟩,trivial⟩ (by decide) rfl (by decide) (fun _ xi=>(xi.ldB (j:=4) rfl rfl rfl zK (v:=jV x6.Laps) rfl)) rfl (zj rfl rfl rfl rfl (fun _=>Runs.mulw rfl rfl rfl) ?_)))))
 have q:=bnd oe
 obtain ⟨⟨bp,x356⟩,sX,oj⟩:=q
 try dsimp only at oj
 refine OKS.callHT 1 rfl rfl rfl rfl (zL rfl rfl Tryz.call64 (zC rfl (zC rfl (zC rfl zQ))) rfl) fZ (fun hs=>wAt (⟨Ar,As,Au⟩:wAB) aj pz qI 300 900 qa AD hs sV sX) rfl (T:=[aj]) rfl ⟨fun b h=>(by cases h;exact .head _),trivial⟩ ?_
 rintro pq AW Bp lL gx vN ⟨lq,l7,rfl,rfl,sY⟩
 have vO:SW w [B1] φ pq [.blk aj 192 [.slice lq x356.bytes.length l7,jV x356.next,.int .u32 x356.state],ap,dK,B2,B7,B6,.blk b3 27 B0] lL:=vN
 refine oA Z Z (oA Z Z (eN (zG (sR gAf Z (oM Z eP ?_)))))
 have q:=bnd oj
 obtain ⟨⟨Bw,gM⟩,s5,om⟩:=q
 try dsimp only at om
 refine zM 1 Z Z Z Z (zL Z Z Tryz.call101 (zC Z (zC Z zQ)) Z) vO (fun hs=>wCY x356 aj lq l7 4 lL pq hs sY s5) (.inl Z) ?_
 rintro ff AX Bq lM gy vP ⟨gX,iB,rfl,rfl,mH⟩
 have mT:SW w [B1] φ ff [.blk aj 192 [.slice gX gM.bytes.length iB,jV gM.next,.int .u32 gM.state],ap,dK,B2,B7,B6,.blk b3 27 B0] lM:=vP
 refine eN (ifc om ?_ ?_)
 intro iC xJ
 refine ZG (congrArg nD iC.out) (rR (wDy gAg) Z (oM Z eP (oM Z Z (oR Z (zY Z Z Z) ?_))))
 have q:=bnd xJ
 obtain ⟨⟨Bx,jM⟩,s6,oq⟩:=q
 try dsimp only at oq
 refine zM 1 Z Z Z Z (zL Z Z yE (zC Z (zC Z zQ)) Z) mT (fun hs=>wAV gM aj gX iB (w64 ((w64 ((↑x6.Classes.length:Int) * x6.Laps)) + 1)) lM ff hs mH s6) (.inl Z) ?_
 rintro gS AY Br qb pa vR ⟨ls,l8,rfl,rfl,s7⟩
 have vS:SW w [B1] φ gS [.blk aj 192 [.slice ls jM.bytes.length l8,jV jM.next,.int .u32 jM.state],ap,dK,B2,B7,B6,.blk b3 27 B0] qb:=vR
 refine oA Z Z (eN ?_)
 have q:=bnd oq
 obtain ⟨⟨gb,pg,ph,cZ⟩,Ad,ot⟩:=q
 try dsimp only at ot
 refine CK.cut (fun σ_ w_=>∃ (φ_:PHeap) (dC:Option Addr) (d9:Nat) (cL:Option Addr) (cU:Nat) (fL:List Value),σ_ 0=.pointer (some ⟨aj,0,none⟩)/\σ_ 6=.pointer (some ⟨b3,0,none⟩)/\σ_ 7=.pointer (some ⟨bf,0,none⟩)/\σ_ 9=.pointer (some ⟨au,0,none⟩)/\σ_ 22=jV bF/\σ_ 23=jV (↑aq:Int)/\PHeap.Le gS φ_/\SW w [B1] φ φ_ [.blk aj 192 [.slice dC gb.length d9,jV pg,.int .u32 ph],.row aw aV 3 1 (nA KL.encI av),.row cL cU 76 3 fL,.blk au 73 [jV (w64 ((w64 (9 * (↑aq:Int))) + aW)),.slice aw av.length aV,.slice cL cZ.length cU],.row bb bd 3 1 (nA KL.encI x6.Classes),B7,B6,.blk b3 27 B0] w_/\Sl φ_ 1 dC d9 gb.length (nA KL.encB8 gb)/\RlL φ_ wGN cZ fL) ?_ ?_
 refine zR (CK.iter (fun (eW,jN,jO,cp,jP) σ_ w_=>∃ (φ_:PHeap) (dD:Option Addr) (ef:Nat) (bT:Option Addr) (bW:Nat) (eI:List Value),σ_ 0=.pointer (some ⟨aj,0,none⟩)/\σ_ 6=.pointer (some ⟨b3,0,none⟩)/\σ_ 7=.pointer (some ⟨bf,0,none⟩)/\σ_ 9=.pointer (some ⟨au,0,none⟩)/\σ_ 10=jV bp/\σ_ 11=jV jP/\σ_ 22=jV bF/\σ_ 23=jV (↑aq:Int)/\PHeap.Le gS φ_/\SW w [B1] φ φ_ [.blk aj 192 [.slice dD eW.length ef,jV jN,.int .u32 jO],.row aw aV 3 1 (nA KL.encI av),.row bT bW 76 3 eI,.blk au 73 [jV (w64 ((w64 (9 * (↑aq:Int))) + aW)),.slice aw av.length aV,.slice bT cp.length bW],.row bb bd 3 1 (nA KL.encI x6.Classes),B7,B6,.blk b3 27 B0] w_/\Sl φ_ 1 dD ef eW.length (nA KL.encB8 eW)/\RlL φ_ wGN cp eI) Ad ?_ ?_)
 have vY:=vS.nilrow 76 3
 exact ⟨gS,ls,l8,none,0,[],eP,mr,fR,ms,rfl,rfl,mu,mw,(zS _),(vY.pick [1,2,0,3,4,5,6,7] _ (by decide) rfl),s7,RlL.nil⟩
 rintro ⟨eW,jN,jO,cp,jP⟩ BD BM qc ⟨pu,dD,ef,bT,bW,eI,iT,my,mz,iU,rn,mA,mB,mC,jr,jc,mI,iZ⟩ jm xn
 try dsimp only at jm
 refine zG (sR fL2 Z (oM Z mA (oR Z (yB Z Z Z) (eN ?_))))
 by_cases bX:0 < jP
 have ou:=jm;rw [if_pos bX] at ou;replace bX:=zH bX
 refine cT Z bX (kN (zR (sR (wHQ gAt) Z (oM Z iT (oR Z (zD Z iU zZ Z zW) (oL Z (jc.ldB (j:=3) Z Z Z zm (v:=.slice aw av.length aV) Z) (oR Z (zd Z Z zB) ?_)))))))
 have q:=bnd ou
 obtain ⟨⟨bq,jR⟩,s9,ow⟩:=q
 try dsimp only at ow
 refine zM 1 Z Z Z Z (zL Z Z yE (zC Z (zC Z zQ)) Z) jc (fun hs=>wAV (⟨eW,jN,jO⟩:wAB) aj dD ef (↑av.length:Int) qc pu hs mI s9) (.inl Z) ?_
 rintro gT AZ Bs qd gz vZ ⟨lu,ma,rfl,rfl,tc⟩
 let az:Res:=.blk au 73 [jV (w64 ((w64 (9 * (↑aq:Int))) + aW)),.slice aw av.length aV,.slice bT cp.length bW]
 let aX:Res:=.row bT bW 76 3 eI
 let lz:Res:=.blk aj 192 [.slice lu jR.bytes.length ma,jV jR.next,.int .u32 jR.state]
 have wa:SW w [B1] φ gT [lz,ap,aX,az,B2,B7,B6,.blk b3 27 B0] qd:=vZ
 let ib:List Value:=[jV bq,.slice none 0 0,.slice none 0 0]
 refine oR Z (Zd (pv:=[(0,jV bq)]) (z:=B9) (cs:=ib) Z (wAN Z wAa) Zc wKN Z Z) (ZD (cs:=B9) Z Z Z Z Z Zc Z wa ?_)
 intro Bb bg wb
 refine zx (j:=0) (vs:=ib) Z Z Z Z wb Z Z Z Z ZK (zA Z) Z Z Z ?_
 intro qe wc
 have wd:SW w [B1] φ gT [.blk bg 76 ib,lz,ap,aX,az,B2,B7,B6,.blk b3 27 B0] qe:=wc
 refine eN (zG (sR fL1 Z (oA Z Z (eN (zR (CK.iter (fun (ba,bi,cq,dh,dm,pi,jS) σ_ w_=>∃ (φ_:PHeap) (bH:Option Addr) (bL:Nat) (bk:Option Addr) (bm:Nat) (cD:List Value) (bN:Option Addr) (bR:Nat),σ_ 0=.pointer (some ⟨aj,0,none⟩)/\σ_ 6=.pointer (some ⟨b3,0,none⟩)/\σ_ 7=.pointer (some ⟨bf,0,none⟩)/\σ_ 9=.pointer (some ⟨au,0,none⟩)/\σ_ 10=jV bp/\σ_ 11=jV pi/\σ_ 12=.pointer (some ⟨bg,0,none⟩)/\σ_ 13=jV jS/\σ_ 22=jV bF/\σ_ 23=jV (↑aq:Int)/\PHeap.Le gT φ_/\SW w [B1] φ φ_ [.row bH bL 3 1 (nA KL.encI ba),.row bk bm 77 1 cD,.blk bg 76 [jV bq,.slice bH ba.length bL,.slice bk bi.length bm],.blk aj 192 [.slice bN cq.length bR,jV dh,.int .u32 dm],.row aw aV 3 1 (nA KL.encI av),aX,az,.row bb bd 3 1 (nA KL.encI x6.Classes),B7,B6,.blk b3 27 B0] w_/\RlL φ_ wJF bi cD/\Sl φ_ 1 bN bR cq.length (nA KL.encB8 cq)) ow ?_ ?_))))))
 have wh:=wd.nilrow 3 1
 have wi:=wh.nilrow 77 1
 exact ⟨gT,none,0,none,0,[],lu,ma,iT,my,mz,iU,rn,mA,rfl,rfl,mB,mC,(zS _),(wi.pick [1,0,2,3,4,5,6,7,8,9,10] _ (by decide) rfl),RlL.nil,tc⟩
 rintro ⟨ba,bi,cq,dh,dm,pi,jS⟩ BE BN cQ ⟨py,bH,bL,bk,bm,cD,bN,bR,cY,fS,eQ,b5,eR,eS,cd,fT,fU,fV,de,ci,fY,i6⟩ jo m5
 try dsimp only at jo
 refine zG (sR fL9 Z (oM Z fT (oR Z (zD Z eQ zV Z ZY) (oR Z (zD Z Z ZE Z zF) (oL Z (ci.ldB (j:=9) Z Z Z zK (v:=jV x6.Laps) Z) (oR Z (zU Z Z Z) (oM Z Z ?_)))))))
 by_cases bu:jS < x6.Laps
 have oy:=jo;rw [if_pos bu] at oy;replace bu:=zH bu
 refine zf Z Z Z (wT Z bu) Z eS (rU Z (wT Z bu) (yB Z Z Z) (oR Z (zh Z (Zk bu.out) Z) (eN (ifc oy ?_ ?_))))
 intro iD xK
 refine cT Z iD (kN (zG (zR (zG (Zb ZT [3,1004,3,3,1005,3,2,0,3,0,aj] (wHQ gAz) (by kernel_rfl) ?_)))))
 have jd:=ci.drew
 generalize hw_W645:({ cQ with drawn:=cQ.drawn + 1 }:World)=lN at jd ⊢
 refine oR Z (zD Z cd zz Z zW) ?_
 let dL:Res:=.blk bg 76 [jV bq,.slice bH ba.length bL,.slice bk bi.length bm]
 let bv:Res:=.row bk bm 77 1 cD
 let fy:Res:=.row bH bL 3 1 (nA KL.encI ba)
 refine OKS.mt (T:=[aj]) [3] [0,1,2,4,5,6,7,8,9,10] [fy,bv,dL,ap,aX,az,B2,B7,B6,.blk b3 27 B0] rfl rfl rfl rfl jd rfl ⟨⟨3,by decide,_,rfl,rfl⟩,trivial⟩ (by decide) rfl (by decide) (fun _ xj=>(xj.ldB (j:=2) rfl rfl rfl zm (v:=.slice bH ba.length bL) rfl)) rfl (zf rfl rfl rfl rfl rfl eR (zf rfl rfl rfl rfl rfl cY ?_))
 have q:=bnd xK
 obtain ⟨⟨fc,gN⟩,tg,oz⟩:=q
 try dsimp only at oz
 have wk:SW w [B1] φ py [.blk aj 192 [.slice bN cq.length bR,jV dh,.int .u32 dm],fy,bv,dL,ap,aX,az,B2,B7,B6,.blk b3 27 B0] lN:=jd.pick [3,0,1,2,4,5,6,7,8,9,10] _ (by decide) rfl
 refine OKS.callHT 1 rfl rfl rfl rfl (zL rfl rfl yE (zC rfl (zC rfl zQ)) rfl) wk (fun hs=>wAV (⟨cq,dh,dm⟩:wAB) aj bN bR 200 lN py hs i6 tg) rfl (T:=[aj]) rfl ⟨fun b h=>(by cases h;exact .head _),trivial⟩ ?_
 rintro cI A4 Bu qg gA wl ⟨gZ,iE,rfl,rfl,mJ⟩
 let dM:Res:=.blk aj 192 [.slice gZ gN.bytes.length iE,jV gN.next,.int .u32 gN.state]
 have wn:SW w [B1] φ cI [dM,fy,bv,dL,ap,aX,az,B2,B7,B6,.blk b3 27 B0] qg:=wl
 refine oR Z (zY Z Z Z) (ZF (pv:=[(0,jV (w64 (bp + fc)))]) (zs:=[jV 0]) (cs:=[jV (w64 (bp + fc))]) Z Z Z Z Z (wAN Z wAa) zB zF Zs Z Z Z Z Z wn ?_)
 intro qh qC wo
 let bI:Res:=.row (some ⟨qC,0,none⟩) 1 3 1 (nA KL.encI [w64 (bp + fc)])
 have mU:SW w [B1] φ cI [bI,dM,fy,bv,dL,ap,aX,az,B2,B7,B6,.blk b3 27 B0] qh:=wo
 refine bnK oz fun fd th xL=>Zu (j:=2) (enc:=KL.encI) (xs:=ba) (ys:=[w64 (bp + fc)]) (zs:=fd) rfl rfl rfl rfl rfl Zr wFU rfl rfl rfl rfl rfl rfl mU rfl rfl rfl (mU.srcR (j:=0) rfl (by decide) (wAK (f:=KL.encI) (sz:=1) (fun _=>rfl) [w64 (bp + fc)])) (fun _=>rfl) (fun _=>rfl) th rfl ?_
 intro cM cV qi wp
 let bO:Res:=.row cM cV 3 1 (nA KL.encI fd)
 have wq:SW w [B1] φ cI [bI,dM,bO,bv,dL,ap,aX,az,B2,B7,B6,.blk b3 27 B0] qi:=wp
 refine oR Z (zD Z cd zz Z zW) (zx (j:=4) (vs:=[.slice cM fd.length cV]) Z Z Z Z wq Z Z Z Z zW (zA Z) Z Z Z ?_)
 intro iv wt
 let cy:Res:=.blk bg 76 [jV bq,.slice cM fd.length cV,.slice bk bi.length bm]
 have mV:SW w [B1] φ cI [bI,dM,bO,bv,cy,ap,aX,az,B2,B7,B6,.blk b3 27 B0] iv:=wt
 refine eN (zG (sR fL2 Z (oM Z fT (oR Z (yB Z Z Z) (eN (ifc xL ?_ ?_))))))
 intro iF xM
 refine cT Z iF (Zb ZT [3,1004,3,1005,2,0,3,0,aj] (wDy gAw) (by kernel_rfl) ?_)
 have je:=mV.drew
 generalize hw_W727:({ iv with drawn:=iv.drawn + 1 }:World)=lO at je ⊢
 refine zj rfl rfl rfl rfl (fun _=>zD rfl cd zz rfl Zx) (OKS.mt (T:=[aj]) [1] [0,2,3,4,5,6,7,8,9,10,11] [bI,bO,bv,cy,ap,aX,az,B2,B7,B6,.blk b3 27 B0] rfl rfl rfl rfl je rfl ⟨⟨1,by decide,_,rfl,rfl⟩,trivial⟩ (by decide) rfl (by decide) (fun _ xk=>(xk.ldB (j:=3) rfl rfl rfl yR (v:=.slice bk bi.length bm) rfl)) rfl (zf rfl rfl rfl rfl rfl cY ?_))
 have q:=bnd xM
 obtain ⟨⟨cu,jU⟩,tj,oB⟩:=q
 try dsimp only at oB
 have wu:SW w [B1] φ cI [dM,bI,bO,bv,cy,ap,aX,az,B2,B7,B6,.blk b3 27 B0] lO:=je.pick [1,0,2,3,4,5,6,7,8,9,10,11] _ (by decide) rfl
 refine OKS.callHT 1 rfl rfl rfl rfl (zL rfl rfl Tryz.call102 (zC rfl zQ) rfl) wu (fun hs=>wEA gN aj gZ iE lO cI hs mJ tj) rfl (T:=[aj]) rfl ⟨fun b h=>(by cases h;exact .head _),trivial⟩ ?_
 rintro AE A5 Bv lP pb wv ⟨fq,fH,lw,mc,rfl,rfl,tl⟩
 let dN:Res:=.blk aj 192 [.slice lw jU.bytes.length mc,jV jU.next,.int .u32 jU.state]
 have ww:SW w [B1] φ AE [.row fq fH 4 1 (nA KL.encT cu),dN,bI,bO,bv,cy,ap,aX,az,B2,B7,B6,.blk b3 27 B0] lP:=wv
 have q:=ww.freezeR (k:=0) (n:=cu.length) rfl (wAK (f:=KL.encT) (sz:=1) (fun _=>rfl) cu) (by decide)
 obtain ⟨du,jt,yz,wz⟩:=q
 have wA:SW w [B1] φ du [dN,bI,bO,bv,cy,ap,aX,az,B2,B7,B6,.blk b3 27 B0] lP:=wz
 let fz:List Value:=[.slice fq cu.length fH]
 refine ZF (pv:=[(0,.slice fq cu.length fH)]) (zs:=[.slice none 0 0]) (cs:=fz) Z Z Z Z Z (wAN Z wAa) Zg yC Tryz.zeroValue77 Z Z Z Z Z wA ?_
 intro qj qD wy
 have oX:RlL du wJF [cu] fz:=(RlL.cons (R:=wJF) (x:=cu) (vs:=fz) ⟨fq,fH,rfl,yz⟩ RlL.nil)
 let ic:Res:=.row (some ⟨qD,0,none⟩) 1 77 1 fz
 have mW:SW w [B1] φ du [ic,dN,bI,bO,bv,cy,ap,aX,az,B2,B7,B6,.blk b3 27 B0] qj:=wy
 refine bnK oB fun jW tp xN=>?_
 have tq:=fY.le gA
 have tr:=tq.le pb
 have tu:=tr.le jt
 refine yF (R:=wJF) (j:=4) (xs:=bi) (ys:=[cu]) (zs:=jW) rfl rfl rfl rfl rfl Tryz.underlying74 wQJ rfl rfl rfl rfl rfl rfl rfl mW rfl rfl rfl tu oX (mW.srcR (j:=0) rfl (by decide) (RlL.len oX)) tp rfl ?_
 intro dE eh iJ qk wC yh
 have wD:SW w [B1] φ du [ic,dN,bI,bO,.row dE eh 77 1 iJ,cy,ap,aX,az,B2,B7,B6,.blk b3 27 B0] qk:=wC
 refine oR Z (zD Z cd zz Z Zx) (zx (j:=5) (vs:=[.slice dE jW.length eh]) Z Z Z Z wD Z Z Z Z Zx (zA Z) Z Z Z ?_)
 intro ql wE
 have wG:SW w [B1] φ du [ic,dN,bI,bO,.row dE eh 77 1 iJ,.blk bg 76 [jV bq,.slice cM fd.length cV,.slice dE jW.length eh],ap,aX,az,B2,B7,B6,.blk b3 27 B0] ql:=wE
 refine eN (rR fL3 Z (oM Z eS (oR Z (Zo Z Z Z) (oA Z Z (zn (ze (zI (rR fL3 Z (oM Z fT (oR Z (zY Z Z Z) (oA Z Z (zn ?_))))))))))))
 obtain rfl:=nB xN
 have tv:=tl.le jt
 exact zI ⟨rfl,_,rfl,⟨du,cM,cV,dE,eh,iJ,lw,mc,cY,fS,eQ,b5,eR,rfl,cd,rfl,fU,fV,(((de.trans gA).trans pb).trans jt),(wG.pick [3,4,5,1,6,7,8,9,10,11,12] _ (by decide) rfl),yh,tv⟩⟩
 intro iF xO
 refine cF Z iF (kN (rR fL3 Z (oM Z eS (oR Z (Zo Z Z Z) (oA Z Z (zn (ze (zI (rR fL3 Z (oM Z fT (oR Z (zY Z Z Z) (oA Z Z (zn ?_)))))))))))))
 obtain rfl:=nB xO
 have tz:=fY.le gA
 exact zI ⟨rfl,_,rfl,⟨cI,cM,cV,bk,bm,cD,gZ,iE,cY,fS,eQ,b5,eR,rfl,cd,rfl,fU,fV,(de.trans gA),(mV.pick [2,3,4,1,5,6,7,8,9,10,11] _ (by decide) rfl),tz,mJ⟩⟩
 intro iD xP
 refine cF Z iD (ZJ (zX ?_))
 have q:=wAW xP
 obtain ⟨Ak,xR,qN⟩:=q
 obtain rfl:=m5 Ak qN
 refine zX (ZB (zI (rR (wDy gAu) Z (oR Z (zD Z b5 zZ Z Ze) (oL Z (ci.ldB (j:=6) Z Z Z yD (v:=.slice bT cp.length bW) Z) ?_)))))
 let bw:List Value:=[jV bq,.slice bH ba.length bL,.slice bk bi.length bm]
 refine oL Z (ci.ldBA (j:=2) Z Z cd yI ZK (vs:=bw) Z Z) ?_
 have q:=ci.freezeR (k:=0) (n:=ba.length) rfl (wAK (f:=KL.encI) (sz:=1) (fun _=>rfl) ba) (by decide)
 obtain ⟨AG,gB,z6,wI⟩:=q
 let dO:Res:=.blk aj 192 [.slice bN cq.length bR,jV dh,.int .u32 dm]
 have wJ:SW w [B1] φ AG [.row bk bm 77 1 cD,.blk bg 76 bw,dO,ap,aX,az,B2,B7,B6,.blk b3 27 B0] cQ:=wI
 have tA:=fY.le gB
 have q:=wJ.freezeRR (R:=wJF) (k:=0) rfl tA rfl (by decide)
 obtain ⟨dv,gC,z7,wK⟩:=q
 have wL:SW w [B1] φ dv [.blk bg 76 bw,dO,ap,aX,az,B2,B7,B6,.blk b3 27 B0] cQ:=wK
 refine ZF (pv:=[(0,.agg bw.toArray)]) (zs:=B9) (cs:=bw) Z Z Z Z Z (wAN Z wAa) ZP ZK Zc Z Z Z Z Z wL ?_
 intro qm qE wH
 have tB:=z6.le gC
 have oY:RlL dv wGN [(⟨bq,ba,bi⟩:wAG)] bw:=(RlL.cons (R:=wGN) (x:=(⟨bq,ba,bi⟩:wAG)) (vs:=bw) ⟨bH,bL,bk,bm,rfl,tB,z7⟩ RlL.nil)
 let ie:Res:=.row (some ⟨qE,0,none⟩) 1 76 3 bw
 have mX:SW w [B1] φ dv [ie,.blk bg 76 bw,dO,ap,aX,az,B2,B7,B6,.blk b3 27 B0] qm:=wH
 refine bnK xR fun jX tC xS=>?_
 have tD:=iZ.le gz
 have tE:=tD.le de
 have tF:=tE.le gB
 have tG:=tF.le gC
 refine yF (R:=wGN) (j:=4) (xs:=cp) (ys:=[(⟨bq,ba,bi⟩:wAG)]) (zs:=jX) rfl rfl rfl rfl rfl Tryz.underlying71 wLJ rfl rfl rfl rfl rfl rfl rfl mX rfl rfl rfl tG oY (mX.srcR (j:=0) rfl (by decide) (RlL.len oY)) tC rfl ?_
 intro dF eu iK qn wM yk
 have wN:SW w [B1] φ dv [ie,.blk bg 76 bw,dO,ap,.row dF eu 76 3 iK,az,B2,B7,B6,.blk b3 27 B0] qn:=wM
 refine oR Z (zD Z b5 zZ Z Ze) (zx (j:=5) (vs:=[.slice dF jX.length eu]) Z Z Z Z wN Z Z Z Z Ze (zA Z) Z Z Z ?_)
 intro qo wO
 have wP:SW w [B1] φ dv [ie,.blk bg 76 bw,dO,ap,.row dF eu 76 3 iK,.blk au 73 [jV (w64 ((w64 (9 * (↑aq:Int))) + aW)),.slice aw av.length aV,.slice dF jX.length eu],B2,B7,B6,.blk b3 27 B0] qo:=wO
 refine zn (ze ?_)
 obtain rfl:=nB xS
 have tH:=i6.le gB
 have tI:=tH.le gC
 exact zI ⟨rfl,_,rfl,⟨dv,bN,bR,dF,eu,iK,cY,fS,eQ,b5,eR,eS,fU,fV,((((jr.trans gz).trans de).trans gB).trans gC),(wP.pick [2,3,4,5,6,7,8,9] _ (by decide) rfl),tI,yk⟩⟩
 have oG:=jo;rw [if_neg bu] at oG;replace bu:=zH bu
 refine oF Z bu (oF Z bu (oR Z (zk Z (ZI bu.out) Z) (eN (zu Z (ZJ (zX ?_))))))
 have q:=wAW oG
 obtain ⟨Al,xT,qO⟩:=q
 obtain rfl:=m5 Al qO
 refine zX (ZB (zI (rR (wDy gAu) Z (oR Z (zD Z b5 zZ Z Ze) (oL Z (ci.ldB (j:=6) Z Z Z yD (v:=.slice bT cp.length bW) Z) ?_)))))
 let bz:List Value:=[jV bq,.slice bH ba.length bL,.slice bk bi.length bm]
 refine oL Z (ci.ldBA (j:=2) Z Z cd yI ZK (vs:=bz) Z Z) ?_
 have q:=ci.freezeR (k:=0) (n:=ba.length) rfl (wAK (f:=KL.encI) (sz:=1) (fun _=>rfl) ba) (by decide)
 obtain ⟨AI,gD,z8,wR⟩:=q
 let dP:Res:=.blk aj 192 [.slice bN cq.length bR,jV dh,.int .u32 dm]
 have wS:SW w [B1] φ AI [.row bk bm 77 1 cD,.blk bg 76 bz,dP,ap,aX,az,B2,B7,B6,.blk b3 27 B0] cQ:=wR
 have tJ:=fY.le gD
 have q:=wS.freezeRR (R:=wJF) (k:=0) rfl tJ rfl (by decide)
 obtain ⟨dw,gE,Aa,wU⟩:=q
 have wV:SW w [B1] φ dw [.blk bg 76 bz,dP,ap,aX,az,B2,B7,B6,.blk b3 27 B0] cQ:=wU
 refine ZF (pv:=[(0,.agg bz.toArray)]) (zs:=B9) (cs:=bz) Z Z Z Z Z (wAN Z wAa) ZP ZK Zc Z Z Z Z Z wV ?_
 intro qp qF wQ
 have tK:=z8.le gE
 have o0:RlL dw wGN [(⟨bq,ba,bi⟩:wAG)] bz:=(RlL.cons (R:=wGN) (x:=(⟨bq,ba,bi⟩:wAG)) (vs:=bz) ⟨bH,bL,bk,bm,rfl,tK,Aa⟩ RlL.nil)
 let ig:Res:=.row (some ⟨qF,0,none⟩) 1 76 3 bz
 have mY:SW w [B1] φ dw [ig,.blk bg 76 bz,dP,ap,aX,az,B2,B7,B6,.blk b3 27 B0] qp:=wQ
 refine bnK xT fun jY tL xU=>?_
 have tM:=iZ.le gz
 have tO:=tM.le de
 have tP:=tO.le gD
 have tQ:=tP.le gE
 refine yF (R:=wGN) (j:=4) (xs:=cp) (ys:=[(⟨bq,ba,bi⟩:wAG)]) (zs:=jY) rfl rfl rfl rfl rfl Tryz.underlying71 wLJ rfl rfl rfl rfl rfl rfl rfl mY rfl rfl rfl tQ o0 (mY.srcR (j:=0) rfl (by decide) (RlL.len o0)) tL rfl ?_
 intro dG eC iL qq wW ym
 have wX:SW w [B1] φ dw [ig,.blk bg 76 bz,dP,ap,.row dG eC 76 3 iL,az,B2,B7,B6,.blk b3 27 B0] qq:=wW
 refine oR Z (zD Z b5 zZ Z Ze) (zx (j:=5) (vs:=[.slice dG jY.length eC]) Z Z Z Z wX Z Z Z Z Ze (zA Z) Z Z Z ?_)
 intro qr wY
 have wZ:SW w [B1] φ dw [ig,.blk bg 76 bz,dP,ap,.row dG eC 76 3 iL,.blk au 73 [jV (w64 ((w64 (9 * (↑aq:Int))) + aW)),.slice aw av.length aV,.slice dG jY.length eC],B2,B7,B6,.blk b3 27 B0] qr:=wY
 refine zn (ze ?_)
 obtain rfl:=nB xU
 have tR:=i6.le gD
 have tS:=tR.le gE
 exact zI ⟨rfl,_,rfl,⟨dw,bN,bR,dG,eC,iL,cY,fS,eQ,b5,eR,eS,fU,fV,((((jr.trans gz).trans de).trans gD).trans gE),(wZ.pick [2,3,4,5,6,7,8,9] _ (by decide) rfl),tS,ym⟩⟩
 have oI:=jm;rw [if_neg bX] at oI;replace bX:=zH bX
 refine cF Z bX (ZJ (zX ?_))
 have q:=wAW oI
 obtain ⟨Am,xV,qP⟩:=q
 obtain rfl:=xn Am qP
 refine zX (ZB ?_)
 cases xV
 exact zI ⟨Z,⟨pu,dD,ef,bT,bW,eI,iT,my,mz,iU,mB,mC,jr,jc,mI,iZ⟩⟩
 rintro BO lQ ⟨BQ,dC,d9,cL,cU,fL,ro,rp,iV,rq,rt,ru,pe,jf,tT,tU⟩
 refine rR (wDy gAu) Z (oR Z (zD Z iV zV Z ZL) (oL Z (jf.ldB (j:=6) Z Z Z Zh (v:=.slice cw cr.length cA) Z) ?_))
 let bA:List Value:=[jV (w64 ((w64 (9 * (↑aq:Int))) + aW)),.slice aw av.length aV,.slice cL cZ.length cU]
 refine oL Z (jf.ldBA (j:=3) Z Z rq Zy zy (vs:=bA) Z Z) ?_
 have q:=jf.freezeR (k:=1) (n:=av.length) rfl (wAK (f:=KL.encI) (sz:=1) (fun _=>rfl) av) (by decide)
 obtain ⟨AJ,gF,Ab,w6⟩:=q
 let dQ:Res:=.blk aj 192 [.slice dC gb.length d9,jV pg,.int .u32 ph]
 have w7:SW w [B1] φ AJ [dQ,.row cL cU 76 3 fL,.blk au 73 bA,B2,B7,B6,.blk b3 27 B0] lQ:=w6
 have tV:=tU.le gF
 have q:=w7.freezeRR (R:=wGN) (k:=1) rfl tV rfl (by decide)
 obtain ⟨dx,gG,Ac,w8⟩:=q
 have w9:SW w [B1] φ dx [dQ,.blk au 73 bA,B2,B7,B6,.blk b3 27 B0] lQ:=w8
 refine ZF (pv:=[(0,.agg bA.toArray)]) (zs:=B9) (cs:=bA) Z Z Z Z Z (wAN Z wAa) zt zy Zi Z Z Z Z Z w9 ?_
 intro qt qG w5
 have tW:=Ab.le gG
 have o3:RlL dx wFr [(⟨w64 ((w64 (9 * (↑aq:Int))) + aW),av,cZ⟩:wAF)] bA:=(RlL.cons (R:=wFr) (x:=(⟨w64 ((w64 (9 * (↑aq:Int))) + aW),av,cZ⟩:wAF)) (vs:=bA) ⟨aw,aV,cL,cU,rfl,tW,Ac⟩ RlL.nil)
 let ii:Res:=.row (some ⟨qG,0,none⟩) 1 73 3 bA
 have mZ:SW w [B1] φ dx [ii,dQ,.blk au 73 bA,B2,B7,B6,.blk b3 27 B0] qt:=w5
 refine bnK ot fun jZ tX xW=>?_
 have tY:=mG.le gg
 have tZ:=tY.le gv
 have t7:=tZ.le gw
 have t8:=t7.le gx
 have ua:=t8.le gy
 have ub:=ua.le pa
 have uc:=ub.le pe
 have ud:=uc.le gF
 have ue:=ud.le gG
 refine yF (R:=wFr) (j:=4) (xs:=cr) (ys:=[(⟨w64 ((w64 (9 * (↑aq:Int))) + aW),av,cZ⟩:wAF)]) (zs:=jZ) rfl rfl rfl rfl rfl Tryz.underlying25 wNH rfl rfl rfl rfl rfl rfl rfl mZ rfl rfl rfl ue o3 (mZ.srcR (j:=0) rfl (by decide) (RlL.len o3)) tX rfl ?_
 intro dH eD iM qu xa yo
 have xb:SW w [B1] φ dx [ii,dQ,.blk au 73 bA,B2,.row dH eD 73 3 iM,B6,.blk b3 27 B0] qu:=xa
 refine oR Z (zD Z iV zV Z ZL) (zx (j:=5) (vs:=[.slice dH jZ.length eD]) Z Z Z Z xb Z Z Z Z ZL (zA Z) Z Z Z ?_)
 intro qv xc
 have xd:SW w [B1] φ dx [ii,dQ,.blk au 73 bA,B2,.row dH eD 73 3 iM,.blk bf 27 [.slice bb x6.Classes.length bd,jV x6.Each,jV x6.Laps,jV x6.Spare,jV x6.Loop,jV x6.Unused,jV cG,.slice dH jZ.length eD],.blk b3 27 B0] qv:=xc
 refine zn (ze (zI (rR fL2 Z (oR Z (ZC (zY Z ru Z) (congrArg (jV) m6.out)) (oM Z Z (zn ?_))))))
 cases xW
 have uf:=tT.le gF
 have ug:=uf.le gG
 exact zI ⟨rfl,⟨dx,dC,d9,dH,eD,iM,rfl,ro,rp,iV,rt,(((((((((o7.trans gg).trans gv).trans gw).trans gx).trans gy).trans pa).trans pe).trans gF).trans gG),(xd.pick [1,3,4,5,6] _ (by decide) rfl),ug,yo⟩⟩
 intro iC xX
 refine zu (congrArg nD (nE.2 iC.out)) (kN ?_)
 have q:=bnd xX
 obtain ⟨⟨gc,pj,pm,da⟩,Ae,oK⟩:=q
 try dsimp only at oK
 refine CK.cut (fun σ_ w_=>∃ (φ_:PHeap) (dI:Option Addr) (eG:Nat) (cN:Option Addr) (cW:Nat) (fM:List Value),σ_ 0=.pointer (some ⟨aj,0,none⟩)/\σ_ 6=.pointer (some ⟨b3,0,none⟩)/\σ_ 7=.pointer (some ⟨bf,0,none⟩)/\σ_ 9=.pointer (some ⟨au,0,none⟩)/\σ_ 22=jV bF/\σ_ 23=jV (↑aq:Int)/\PHeap.Le ff φ_/\SW w [B1] φ φ_ [.blk aj 192 [.slice dI gc.length eG,jV pj,.int .u32 pm],.row aw aV 3 1 (nA KL.encI av),.row cN cW 76 3 fM,.blk au 73 [jV (w64 ((w64 (9 * (↑aq:Int))) + aW)),.slice aw av.length aV,.slice cN da.length cW],.row bb bd 3 1 (nA KL.encI x6.Classes),B7,B6,.blk b3 27 B0] w_/\Sl φ_ 1 dI eG gc.length (nA KL.encB8 gc)/\RlL φ_ wGN da fM) ?_ ?_
 refine zR (CK.iter (fun (eU,jw,jx,cj,jy) σ_ w_=>∃ (φ_:PHeap) (dy:Option Addr) (dY:Nat) (bS:Option Addr) (bU:Nat) (eH:List Value),σ_ 0=.pointer (some ⟨aj,0,none⟩)/\σ_ 6=.pointer (some ⟨b3,0,none⟩)/\σ_ 7=.pointer (some ⟨bf,0,none⟩)/\σ_ 9=.pointer (some ⟨au,0,none⟩)/\σ_ 10=jV bp/\σ_ 11=jV jy/\σ_ 22=jV bF/\σ_ 23=jV (↑aq:Int)/\PHeap.Le ff φ_/\SW w [B1] φ φ_ [.blk aj 192 [.slice dy eU.length dY,jV jw,.int .u32 jx],.row aw aV 3 1 (nA KL.encI av),.row bS bU 76 3 eH,.blk au 73 [jV (w64 ((w64 (9 * (↑aq:Int))) + aW)),.slice aw av.length aV,.slice bS cj.length bU],.row bb bd 3 1 (nA KL.encI x6.Classes),B7,B6,.blk b3 27 B0] w_/\Sl φ_ 1 dy dY eU.length (nA KL.encB8 eU)/\RlL φ_ wGN cj eH) Ae ?_ ?_)
 have ui:=mT.nilrow 76 3
 exact ⟨ff,gX,iB,none,0,[],eP,mr,fR,ms,rfl,rfl,mu,mw,(zS _),(ui.pick [1,2,0,3,4,5,6,7] _ (by decide) rfl),mH,RlL.nil⟩
 rintro ⟨eU,jw,jx,cj,jy⟩ Bz BF pC ⟨pn,dy,dY,bS,bU,eH,iN,mg,mh,iO,qQ,mi,mj,ml,jp,i7,mE,iX⟩ jk xm
 try dsimp only at jk
 refine zG (sR fL2 Z (oM Z mi (oR Z (yB Z Z Z) (eN ?_))))
 by_cases bV:0 < jy
 have m8:=jk;rw [if_pos bV] at m8;replace bV:=zH bV
 refine cT Z bV (kN (zR (sR (wHQ gAt) Z (oM Z iN (oR Z (zD Z iO zZ Z zW) (oL Z (i7.ldB (j:=3) Z Z Z zm (v:=.slice aw av.length aV) Z) (oR Z (zd Z Z zB) ?_)))))))
 have q:=bnd m8
 obtain ⟨⟨bn,jz⟩,rC,m9⟩:=q
 try dsimp only at m9
 refine zM 1 Z Z Z Z (zL Z Z yE (zC Z (zC Z zQ)) Z) i7 (fun hs=>wAV (⟨eU,jw,jx⟩:wAB) aj dy dY (↑av.length:Int) pC pn hs mE rC) (.inl Z) ?_
 rintro gP AL Bh pD ge uj ⟨j9,lT,rfl,rfl,rD⟩
 let aU:Res:=.blk au 73 [jV (w64 ((w64 (9 * (↑aq:Int))) + aW)),.slice aw av.length aV,.slice bS cj.length bU]
 let aY:Res:=.row bS bU 76 3 eH
 let lB:Res:=.blk aj 192 [.slice j9 jz.bytes.length lT,jV jz.next,.int .u32 jz.state]
 have uk:SW w [B1] φ gP [lB,ap,aY,aU,B2,B7,B6,.blk b3 27 B0] pD:=uj
 let ij:List Value:=[jV bn,.slice none 0 0,.slice none 0 0]
 refine oR Z (Zd (pv:=[(0,jV bn)]) (z:=B9) (cs:=ij) Z (wAN Z wAa) Zc wKN Z Z) (ZD (cs:=B9) Z Z Z Z Z Zc Z uk ?_)
 intro A6 be ul
 refine zx (j:=0) (vs:=ij) Z Z Z Z ul Z Z Z Z ZK (zA Z) Z Z Z ?_
 intro pE um
 have uo:SW w [B1] φ gP [.blk be 76 ij,lB,ap,aY,aU,B2,B7,B6,.blk b3 27 B0] pE:=um
 refine eN (zG (sR fL1 Z (oA Z Z (eN (zR (CK.iter (fun (aZ,bh,cm,df,dg,pf,jA) σ_ w_=>∃ (φ_:PHeap) (bG:Option Addr) (bK:Nat) (bj:Option Addr) (bl:Nat) (cC:List Value) (bM:Option Addr) (bQ:Nat),σ_ 0=.pointer (some ⟨aj,0,none⟩)/\σ_ 6=.pointer (some ⟨b3,0,none⟩)/\σ_ 7=.pointer (some ⟨bf,0,none⟩)/\σ_ 9=.pointer (some ⟨au,0,none⟩)/\σ_ 10=jV bp/\σ_ 11=jV pf/\σ_ 12=.pointer (some ⟨be,0,none⟩)/\σ_ 13=jV jA/\σ_ 22=jV bF/\σ_ 23=jV (↑aq:Int)/\PHeap.Le gP φ_/\SW w [B1] φ φ_ [.row bG bK 3 1 (nA KL.encI aZ),.row bj bl 77 1 cC,.blk be 76 [jV bn,.slice bG aZ.length bK,.slice bj bh.length bl],.blk aj 192 [.slice bM cm.length bQ,jV df,.int .u32 dg],.row aw aV 3 1 (nA KL.encI av),aY,aU,.row bb bd 3 1 (nA KL.encI x6.Classes),B7,B6,.blk b3 27 B0] w_/\RlL φ_ wJF bh cC/\Sl φ_ 1 bM bQ cm.length (nA KL.encB8 cm)) m9 ?_ ?_))))))
 have uq:=uo.nilrow 3 1
 have ur:=uq.nilrow 77 1
 exact ⟨gP,none,0,none,0,[],j9,lT,iN,mg,mh,iO,qQ,mi,rfl,rfl,mj,ml,(zS _),(ur.pick [1,0,2,3,4,5,6,7,8,9,10] _ (by decide) rfl),RlL.nil,rD⟩
 rintro ⟨aZ,bh,cm,df,dg,pf,jA⟩ BB BH cP ⟨po,bG,bK,bj,bl,cC,bM,bQ,cX,fN,eJ,bY,eK,eM,bZ,fO,fP,fQ,db,cg,fW,iY⟩ jl m4
 try dsimp only at jl
 refine zG (sR fL9 Z (oM Z fO (oR Z (zD Z eJ zV Z ZY) (oR Z (zD Z Z ZE Z zF) (oL Z (cg.ldB (j:=9) Z Z Z zK (v:=jV x6.Laps) Z) (oR Z (zU Z Z Z) (oM Z Z ?_)))))))
 by_cases bt:jA < x6.Laps
 have n5:=jl;rw [if_pos bt] at n5;replace bt:=zH bt
 refine zf Z Z Z (wT Z bt) Z eM (rU Z (wT Z bt) (yB Z Z Z) (oR Z (zh Z (Zk bt.out) Z) (eN (ifc n5 ?_ ?_))))
 intro iw xu
 refine cT Z iw (kN (zG (zR (zG (Zb ZT [3,1004,3,3,1005,3,2,0,3,0,aj] (wHQ gAz) (by kernel_rfl) ?_)))))
 have i8:=cg.drew
 generalize hw_W1231:({ cP with drawn:=cP.drawn + 1 }:World)=lE at i8 ⊢
 refine oR Z (zD Z bZ zz Z zW) ?_
 let dR:Res:=.blk be 76 [jV bn,.slice bG aZ.length bK,.slice bj bh.length bl]
 let bB:Res:=.row bj bl 77 1 cC
 let fA:Res:=.row bG bK 3 1 (nA KL.encI aZ)
 refine OKS.mt (T:=[aj]) [3] [0,1,2,4,5,6,7,8,9,10] [fA,bB,dR,ap,aY,aU,B2,B7,B6,.blk b3 27 B0] rfl rfl rfl rfl i8 rfl ⟨⟨3,by decide,_,rfl,rfl⟩,trivial⟩ (by decide) rfl (by decide) (fun _ xe=>(xe.ldB (j:=2) rfl rfl rfl zm (v:=.slice bG aZ.length bK) rfl)) rfl (zf rfl rfl rfl rfl rfl eK (zf rfl rfl rfl rfl rfl cX ?_))
 have q:=bnd xu
 obtain ⟨⟨e8,gH⟩,rE,n7⟩:=q
 try dsimp only at n7
 have uu:SW w [B1] φ po [.blk aj 192 [.slice bM cm.length bQ,jV df,.int .u32 dg],fA,bB,dR,ap,aY,aU,B2,B7,B6,.blk b3 27 B0] lE:=i8.pick [3,0,1,2,4,5,6,7,8,9,10] _ (by decide) rfl
 refine OKS.callHT 1 rfl rfl rfl rfl (zL rfl rfl yE (zC rfl (zC rfl zQ)) rfl) uu (fun hs=>wAV (⟨cm,df,dg⟩:wAB) aj bM bQ 200 lE po hs iY rE) rfl (T:=[aj]) rfl ⟨fun b h=>(by cases h;exact .head _),trivial⟩ ?_
 rintro cH AN Bi pG gf uv ⟨gU,iy,rfl,rfl,mF⟩
 let dS:Res:=.blk aj 192 [.slice gU gH.bytes.length iy,jV gH.next,.int .u32 gH.state]
 have uw:SW w [B1] φ cH [dS,fA,bB,dR,ap,aY,aU,B2,B7,B6,.blk b3 27 B0] pG:=uv
 refine oR Z (zY Z Z Z) (ZF (pv:=[(0,jV (w64 (bp + e8)))]) (zs:=[jV 0]) (cs:=[jV (w64 (bp + e8))]) Z Z Z Z Z (wAN Z wAa) zB zF Zs Z Z Z Z Z uw ?_)
 intro pH qw ux
 let bJ:Res:=.row (some ⟨qw,0,none⟩) 1 3 1 (nA KL.encI [w64 (bp + e8)])
 have mK:SW w [B1] φ cH [bJ,dS,fA,bB,dR,ap,aY,aU,B2,B7,B6,.blk b3 27 B0] pH:=ux
 refine bnK n7 fun e9 rF xw=>Zu (j:=2) (enc:=KL.encI) (xs:=aZ) (ys:=[w64 (bp + e8)]) (zs:=e9) rfl rfl rfl rfl rfl Zr wFU rfl rfl rfl rfl rfl rfl mK rfl rfl rfl (mK.srcR (j:=0) rfl (by decide) (wAK (f:=KL.encI) (sz:=1) (fun _=>rfl) [w64 (bp + e8)])) (fun _=>rfl) (fun _=>rfl) rF rfl ?_
 intro cJ cR pI uy
 let bP:Res:=.row cJ cR 3 1 (nA KL.encI e9)
 have uz:SW w [B1] φ cH [bJ,dS,bP,bB,dR,ap,aY,aU,B2,B7,B6,.blk b3 27 B0] pI:=uy
 refine oR Z (zD Z bZ zz Z zW) (zx (j:=4) (vs:=[.slice cJ e9.length cR]) Z Z Z Z uz Z Z Z Z zW (zA Z) Z Z Z ?_)
 intro iq uA
 let cz:Res:=.blk be 76 [jV bn,.slice cJ e9.length cR,.slice bj bh.length bl]
 have mL:SW w [B1] φ cH [bJ,dS,bP,bB,cz,ap,aY,aU,B2,B7,B6,.blk b3 27 B0] iq:=uA
 refine eN (zG (sR fL2 Z (oM Z fO (oR Z (yB Z Z Z) (eN (ifc xw ?_ ?_))))))
 intro iz xx
 refine cT Z iz (Zb ZT [3,1004,3,1005,2,0,3,0,aj] (wDy gAw) (by kernel_rfl) ?_)
 have i9:=mL.drew
 generalize hw_W1313:({ iq with drawn:=iq.drawn + 1 }:World)=lF at i9 ⊢
 refine zj rfl rfl rfl rfl (fun _=>zD rfl bZ zz rfl Zx) (OKS.mt (T:=[aj]) [1] [0,2,3,4,5,6,7,8,9,10,11] [bJ,bP,bB,cz,ap,aY,aU,B2,B7,B6,.blk b3 27 B0] rfl rfl rfl rfl i9 rfl ⟨⟨1,by decide,_,rfl,rfl⟩,trivial⟩ (by decide) rfl (by decide) (fun _ xf=>(xf.ldB (j:=3) rfl rfl rfl yR (v:=.slice bj bh.length bl) rfl)) rfl (zf rfl rfl rfl rfl rfl cX ?_))
 have q:=bnd xx
 obtain ⟨⟨ct,jB⟩,rH,n8⟩:=q
 try dsimp only at n8
 have uB:SW w [B1] φ cH [dS,bJ,bP,bB,cz,ap,aY,aU,B2,B7,B6,.blk b3 27 B0] lF:=i9.pick [1,0,2,3,4,5,6,7,8,9,10,11] _ (by decide) rfl
 refine OKS.callHT 1 rfl rfl rfl rfl (zL rfl rfl Tryz.call102 (zC rfl zQ) rfl) uB (fun hs=>wEA gH aj gU iy lF cH hs mF rH) rfl (T:=[aj]) rfl ⟨fun b h=>(by cases h;exact .head _),trivial⟩ ?_
 rintro Aw AP Bk lG o8 uC ⟨fg,fC,k9,lV,rfl,rfl,rJ⟩
 let dU:Res:=.blk aj 192 [.slice k9 jB.bytes.length lV,jV jB.next,.int .u32 jB.state]
 have uD:SW w [B1] φ Aw [.row fg fC 4 1 (nA KL.encT ct),dU,bJ,bP,bB,cz,ap,aY,aU,B2,B7,B6,.blk b3 27 B0] lG:=uC
 have q:=uD.freezeR (k:=0) (n:=ct.length) rfl (wAK (f:=KL.encT) (sz:=1) (fun _=>rfl) ct) (by decide)
 obtain ⟨dp,jq,yp,uF⟩:=q
 have uG:SW w [B1] φ dp [dU,bJ,bP,bB,cz,ap,aY,aU,B2,B7,B6,.blk b3 27 B0] lG:=uF
 let fB:List Value:=[.slice fg ct.length fC]
 refine ZF (pv:=[(0,.slice fg ct.length fC)]) (zs:=[.slice none 0 0]) (cs:=fB) Z Z Z Z Z (wAN Z wAa) Zg yC Tryz.zeroValue77 Z Z Z Z Z uG ?_
 intro pJ qx uE
 have oO:RlL dp wJF [ct] fB:=(RlL.cons (R:=wJF) (x:=ct) (vs:=fB) ⟨fg,fC,rfl,yp⟩ RlL.nil)
 let ik:Res:=.row (some ⟨qx,0,none⟩) 1 77 1 fB
 have mM:SW w [B1] φ dp [ik,dU,bJ,bP,bB,cz,ap,aY,aU,B2,B7,B6,.blk b3 27 B0] pJ:=uE
 refine bnK n8 fun jC rK xz=>?_
 have rL:=fW.le gf
 have rM:=rL.le o8
 have rN:=rM.le jq
 refine yF (R:=wJF) (j:=4) (xs:=bh) (ys:=[ct]) (zs:=jC) rfl rfl rfl rfl rfl Tryz.underlying74 wQJ rfl rfl rfl rfl rfl rfl rfl mM rfl rfl rfl rN oO (mM.srcR (j:=0) rfl (by decide) (RlL.len oO)) rK rfl ?_
 intro dz dZ iG pK uH xY
 have uJ:SW w [B1] φ dp [ik,dU,bJ,bP,.row dz dZ 77 1 iG,cz,ap,aY,aU,B2,B7,B6,.blk b3 27 B0] pK:=uH
 refine oR Z (zD Z bZ zz Z Zx) (zx (j:=5) (vs:=[.slice dz jC.length dZ]) Z Z Z Z uJ Z Z Z Z Zx (zA Z) Z Z Z ?_)
 intro pL uK
 have uL:SW w [B1] φ dp [ik,dU,bJ,bP,.row dz dZ 77 1 iG,.blk be 76 [jV bn,.slice cJ e9.length cR,.slice dz jC.length dZ],ap,aY,aU,B2,B7,B6,.blk b3 27 B0] pL:=uK
 refine eN (rR fL3 Z (oM Z eM (oR Z (Zo Z Z Z) (oA Z Z (zn (ze (zI (rR fL3 Z (oM Z fO (oR Z (zY Z Z Z) (oA Z Z (zn ?_))))))))))))
 obtain rfl:=nB xz
 have rP:=rJ.le jq
 exact zI ⟨rfl,_,rfl,⟨dp,cJ,cR,dz,dZ,iG,k9,lV,cX,fN,eJ,bY,eK,rfl,bZ,rfl,fP,fQ,(((db.trans gf).trans o8).trans jq),(uL.pick [3,4,5,1,6,7,8,9,10,11,12] _ (by decide) rfl),xY,rP⟩⟩
 intro iz xA
 refine cF Z iz (kN (rR fL3 Z (oM Z eM (oR Z (Zo Z Z Z) (oA Z Z (zn (ze (zI (rR fL3 Z (oM Z fO (oR Z (zY Z Z Z) (oA Z Z (zn ?_)))))))))))))
 obtain rfl:=nB xA
 have rQ:=fW.le gf
 exact zI ⟨rfl,_,rfl,⟨cH,cJ,cR,bj,bl,cC,gU,iy,cX,fN,eJ,bY,eK,rfl,bZ,rfl,fP,fQ,(db.trans gf),(mL.pick [2,3,4,1,5,6,7,8,9,10,11] _ (by decide) rfl),rQ,mF⟩⟩
 intro iw xB
 refine cF Z iw (ZJ (zX ?_))
 have q:=wAW xB
 obtain ⟨Ah,xC,qK⟩:=q
 obtain rfl:=m4 Ah qK
 refine zX (ZB (zI (rR (wDy gAu) Z (oR Z (zD Z bY zZ Z Ze) (oL Z (cg.ldB (j:=6) Z Z Z yD (v:=.slice bS cj.length bU) Z) ?_)))))
 let bC:List Value:=[jV bn,.slice bG aZ.length bK,.slice bj bh.length bl]
 refine oL Z (cg.ldBA (j:=2) Z Z bZ yI ZK (vs:=bC) Z Z) ?_
 have q:=cg.freezeR (k:=0) (n:=aZ.length) rfl (wAK (f:=KL.encI) (sz:=1) (fun _=>rfl) aZ) (by decide)
 obtain ⟨Ax,gh,yq,uP⟩:=q
 let dV:Res:=.blk aj 192 [.slice bM cm.length bQ,jV df,.int .u32 dg]
 have uQ:SW w [B1] φ Ax [.row bj bl 77 1 cC,.blk be 76 bC,dV,ap,aY,aU,B2,B7,B6,.blk b3 27 B0] cP:=uP
 have rS:=fW.le gh
 have q:=uQ.freezeRR (R:=wJF) (k:=0) rfl rS rfl (by decide)
 obtain ⟨dq,gi,yr,uR⟩:=q
 have uS:SW w [B1] φ dq [.blk be 76 bC,dV,ap,aY,aU,B2,B7,B6,.blk b3 27 B0] cP:=uR
 refine ZF (pv:=[(0,.agg bC.toArray)]) (zs:=B9) (cs:=bC) Z Z Z Z Z (wAN Z wAa) ZP ZK Zc Z Z Z Z Z uS ?_
 intro pN qy uM
 have rT:=yq.le gi
 have oP:RlL dq wGN [(⟨bn,aZ,bh⟩:wAG)] bC:=(RlL.cons (R:=wGN) (x:=(⟨bn,aZ,bh⟩:wAG)) (vs:=bC) ⟨bG,bK,bj,bl,rfl,rT,yr⟩ RlL.nil)
 let il:Res:=.row (some ⟨qy,0,none⟩) 1 76 3 bC
 have mN:SW w [B1] φ dq [il,.blk be 76 bC,dV,ap,aY,aU,B2,B7,B6,.blk b3 27 B0] pN:=uM
 refine bnK xC fun jD rV xD=>?_
 have rW:=iX.le ge
 have rX:=rW.le db
 have rY:=rX.le gh
 have rZ:=rY.le gi
 refine yF (R:=wGN) (j:=4) (xs:=cj) (ys:=[(⟨bn,aZ,bh⟩:wAG)]) (zs:=jD) rfl rfl rfl rfl rfl Tryz.underlying71 wLJ rfl rfl rfl rfl rfl rfl rfl mN rfl rfl rfl rZ oP (mN.srcR (j:=0) rfl (by decide) (RlL.len oP)) rV rfl ?_
 intro dA d7 iH pO uT xZ
 have uU:SW w [B1] φ dq [il,.blk be 76 bC,dV,ap,.row dA d7 76 3 iH,aU,B2,B7,B6,.blk b3 27 B0] pO:=uT
 refine oR Z (zD Z bY zZ Z Ze) (zx (j:=5) (vs:=[.slice dA jD.length d7]) Z Z Z Z uU Z Z Z Z Ze (zA Z) Z Z Z ?_)
 intro pP uV
 have uW:SW w [B1] φ dq [il,.blk be 76 bC,dV,ap,.row dA d7 76 3 iH,.blk au 73 [jV (w64 ((w64 (9 * (↑aq:Int))) + aW)),.slice aw av.length aV,.slice dA jD.length d7],B2,B7,B6,.blk b3 27 B0] pP:=uV
 refine zn (ze ?_)
 obtain rfl:=nB xD
 have r7:=iY.le gh
 have r8:=r7.le gi
 exact zI ⟨rfl,_,rfl,⟨dq,bM,bQ,dA,d7,iH,cX,fN,eJ,bY,eK,eM,fP,fQ,((((jp.trans ge).trans db).trans gh).trans gi),(uW.pick [2,3,4,5,6,7,8,9] _ (by decide) rfl),r8,xZ⟩⟩
 have oa:=jl;rw [if_neg bt] at oa;replace bt:=zH bt
 refine oF Z bt (oF Z bt (oR Z (zk Z (ZI bt.out) Z) (eN (zu Z (ZJ (zX ?_))))))
 have q:=wAW oa
 obtain ⟨Ai,xE,qL⟩:=q
 obtain rfl:=m4 Ai qL
 refine zX (ZB (zI (rR (wDy gAu) Z (oR Z (zD Z bY zZ Z Ze) (oL Z (cg.ldB (j:=6) Z Z Z yD (v:=.slice bS cj.length bU) Z) ?_)))))
 let bD:List Value:=[jV bn,.slice bG aZ.length bK,.slice bj bh.length bl]
 refine oL Z (cg.ldBA (j:=2) Z Z bZ yI ZK (vs:=bD) Z Z) ?_
 have q:=cg.freezeR (k:=0) (n:=aZ.length) rfl (wAK (f:=KL.encI) (sz:=1) (fun _=>rfl) aZ) (by decide)
 obtain ⟨Ay,gj,yt,uZ⟩:=q
 let dW:Res:=.blk aj 192 [.slice bM cm.length bQ,jV df,.int .u32 dg]
 have u7:SW w [B1] φ Ay [.row bj bl 77 1 cC,.blk be 76 bD,dW,ap,aY,aU,B2,B7,B6,.blk b3 27 B0] cP:=uZ
 have r9:=fW.le gj
 have q:=u7.freezeRR (R:=wJF) (k:=0) rfl r9 rfl (by decide)
 obtain ⟨dr,gm,yu,u9⟩:=q
 have va:SW w [B1] φ dr [.blk be 76 bD,dW,ap,aY,aU,B2,B7,B6,.blk b3 27 B0] cP:=u9
 refine ZF (pv:=[(0,.agg bD.toArray)]) (zs:=B9) (cs:=bD) Z Z Z Z Z (wAN Z wAa) ZP ZK Zc Z Z Z Z Z va ?_
 intro pQ qz uY
 have sb:=yt.le gm
 have oU:RlL dr wGN [(⟨bn,aZ,bh⟩:wAG)] bD:=(RlL.cons (R:=wGN) (x:=(⟨bn,aZ,bh⟩:wAG)) (vs:=bD) ⟨bG,bK,bj,bl,rfl,sb,yu⟩ RlL.nil)
 let im:Res:=.row (some ⟨qz,0,none⟩) 1 76 3 bD
 have mO:SW w [B1] φ dr [im,.blk be 76 bD,dW,ap,aY,aU,B2,B7,B6,.blk b3 27 B0] pQ:=uY
 refine bnK xE fun jE sc xF=>?_
 have sd:=iX.le ge
 have se:=sd.le db
 have sf:=se.le gj
 have sg:=sf.le gm
 refine yF (R:=wGN) (j:=4) (xs:=cj) (ys:=[(⟨bn,aZ,bh⟩:wAG)]) (zs:=jE) rfl rfl rfl rfl rfl Tryz.underlying71 wLJ rfl rfl rfl rfl rfl rfl rfl mO rfl rfl rfl sg oU (mO.srcR (j:=0) rfl (by decide) (RlL.len oU)) sc rfl ?_
 intro dB d8 iI pR vc x8
 have vd:SW w [B1] φ dr [im,.blk be 76 bD,dW,ap,.row dB d8 76 3 iI,aU,B2,B7,B6,.blk b3 27 B0] pR:=vc
 refine oR Z (zD Z bY zZ Z Ze) (zx (j:=5) (vs:=[.slice dB jE.length d8]) Z Z Z Z vd Z Z Z Z Ze (zA Z) Z Z Z ?_)
 intro pS ve
 have vg:SW w [B1] φ dr [im,.blk be 76 bD,dW,ap,.row dB d8 76 3 iI,.blk au 73 [jV (w64 ((w64 (9 * (↑aq:Int))) + aW)),.slice aw av.length aV,.slice dB jE.length d8],B2,B7,B6,.blk b3 27 B0] pS:=ve
 refine zn (ze ?_)
 obtain rfl:=nB xF
 have sh:=iY.le gj
 have sj:=sh.le gm
 exact zI ⟨rfl,_,rfl,⟨dr,bM,bQ,dB,d8,iI,cX,fN,eJ,bY,eK,eM,fP,fQ,((((jp.trans ge).trans db).trans gj).trans gm),(vg.pick [2,3,4,5,6,7,8,9] _ (by decide) rfl),sj,x8⟩⟩
 have oc:=jk;rw [if_neg bV] at oc;replace bV:=zH bV
 refine cF Z bV (ZJ (zX ?_))
 have q:=wAW oc
 obtain ⟨Aj,xG,qM⟩:=q
 obtain rfl:=xm Aj qM
 refine zX (ZB ?_)
 cases xG
 exact zI ⟨Z,⟨pn,dy,dY,bS,bU,eH,iN,mg,mh,iO,mj,ml,jp,i7,mE,iX⟩⟩
 rintro BI lH ⟨BP,dI,eG,cN,cW,fM,qT,qU,iQ,qV,qW,qX,o9,ja,sm,sn⟩
 refine rR (wDy gAu) Z (oR Z (zD Z iQ zV Z ZL) (oL Z (ja.ldB (j:=6) Z Z Z Zh (v:=.slice cw cr.length cA) Z) ?_))
 let bE:List Value:=[jV (w64 ((w64 (9 * (↑aq:Int))) + aW)),.slice aw av.length aV,.slice cN da.length cW]
 refine oL Z (ja.ldBA (j:=3) Z Z qV Zy zy (vs:=bE) Z Z) ?_
 have q:=ja.freezeR (k:=1) (n:=av.length) rfl (wAK (f:=KL.encI) (sz:=1) (fun _=>rfl) av) (by decide)
 obtain ⟨Az,gq,yw,vk⟩:=q
 let dX:Res:=.blk aj 192 [.slice dI gc.length eG,jV pj,.int .u32 pm]
 have vl:SW w [B1] φ Az [dX,.row cN cW 76 3 fM,.blk au 73 bE,B2,B7,B6,.blk b3 27 B0] lH:=vk
 have sq:=sn.le gq
 have q:=vl.freezeRR (R:=wGN) (k:=1) rfl sq rfl (by decide)
 obtain ⟨dt,gu,yy,vm⟩:=q
 have vn:SW w [B1] φ dt [dX,.blk au 73 bE,B2,B7,B6,.blk b3 27 B0] lH:=vm
 refine ZF (pv:=[(0,.agg bE.toArray)]) (zs:=B9) (cs:=bE) Z Z Z Z Z (wAN Z wAa) zt zy Zi Z Z Z Z Z vn ?_
 intro pT qA vj
 have su:=yw.le gu
 have oW:RlL dt wFr [(⟨w64 ((w64 (9 * (↑aq:Int))) + aW),av,da⟩:wAF)] bE:=(RlL.cons (R:=wFr) (x:=(⟨w64 ((w64 (9 * (↑aq:Int))) + aW),av,da⟩:wAF)) (vs:=bE) ⟨aw,aV,cN,cW,rfl,su,yy⟩ RlL.nil)
 let io:Res:=.row (some ⟨qA,0,none⟩) 1 73 3 bE
 have mP:SW w [B1] φ dt [io,dX,.blk au 73 bE,B2,B7,B6,.blk b3 27 B0] pT:=vj
 refine bnK oK fun jH sv xH=>?_
 have sA:=mG.le gg
 have sC:=sA.le gv
 have sD:=sC.le gw
 have sE:=sD.le gx
 have sF:=sE.le gy
 have sG:=sF.le o9
 have sH:=sG.le gq
 have sI:=sH.le gu
 refine yF (R:=wFr) (j:=4) (xs:=cr) (ys:=[(⟨w64 ((w64 (9 * (↑aq:Int))) + aW),av,da⟩:wAF)]) (zs:=jH) rfl rfl rfl rfl rfl Tryz.underlying25 wNH rfl rfl rfl rfl rfl rfl rfl mP rfl rfl rfl sI oW (mP.srcR (j:=0) rfl (by decide) (RlL.len oW)) sv rfl ?_
 intro fh fD mf pU vo yg
 let lD:Res:=.row fh fD 73 3 mf
 have vp:SW w [B1] φ dt [io,dX,.blk au 73 bE,B2,lD,B6,.blk b3 27 B0] pU:=vo
 refine oR Z (zD Z iQ zV Z ZL) (zx (j:=5) (vs:=[.slice fh jH.length fD]) Z Z Z Z vp Z Z Z Z ZL (zA Z) Z Z Z ?_)
 intro pV vq
 have vr:SW w [B1] φ dt [io,dX,.blk au 73 bE,B2,lD,.blk bf 27 [.slice bb x6.Classes.length bd,jV x6.Each,jV x6.Laps,jV x6.Spare,jV x6.Loop,jV x6.Unused,jV cG,.slice fh jH.length fD],.blk b3 27 B0] pV:=vq
 refine zn (ze (zI (rR fL2 Z (oR Z (ZC (zY Z qX Z) (congrArg (jV) m6.out)) (oM Z Z (zn ?_))))))
 cases xH
 have sJ:=sm.le gq
 have sK:=sJ.le gu
 exact zI ⟨rfl,⟨dt,dI,eG,fh,fD,mf,rfl,qT,qU,iQ,qW,((((((((o7.trans gg).trans gv).trans gw).trans gx).trans gy).trans o9).trans gq).trans gu),(vr.pick [1,3,4,5,6] _ (by decide) rfl),sK,yg⟩⟩
 rintro BJ A9 ⟨pp,lh,lX,gW,iA,lY,rx,Bc,mo,qY,qZ,Be,mQ,sL,sM⟩
 have qH:Hid (¬ ((↑((bF:Int) - 0).toNat:Int) < bF)):=zH (wAp)
 refine sR fL1 Z (oR Z (zU Z rx qZ) (eN (zG (cF Z qH (ZJ (zX (zX (ZB (zI (sR gAf Z ?_))))))))))
 let cO:List Value:=[.slice bb x6.Classes.length bd,jV x6.Each,jV x6.Laps,jV x6.Spare,jV x6.Loop,jV x6.Unused,jV cG,.slice gW Aq.length iA]
 refine oL Z (mQ.ldBA (j:=3) Z Z qY Zt ZN (vs:=cO) Z Z) (zx (j:=4) (vs:=cO) Z Z Z Z mQ Z mo Z Z ZN (zA Z) Z Z Z ?_)
 intro pW vu
 have mR:SW w [B1] φ pp [.blk aj 192 [.slice lh An.length lX,jV Ao,.int .u32 Ap],B2,.row gW iA 73 3 lY,.blk bf 27 cO,.blk b3 27 cO] pW:=vu
 refine eN (zP ?_)
 cases m7
 exact ⟨rfl,_,(wFl (v:=.agg cO.toArray) ⟨⟨_,mo,(wFD Zt ZN (mR.blkAt (k:=4) rfl) (vs:=cO) rfl rfl)⟩,trivial⟩),pp,_,(mR.pick [1,2,0] _ (by decide) rfl),bb,bd,gW,iA,lY,lh,lX,rfl,rfl,sM,sL⟩
end Go.Proofs.YtglpalgiipahjaaGreat
namespace Go.Proofs.YtglpalgiipahjaaGreat
open Go.KL
set_option maxHeartbeats 4000000
theorem wDC (p0:Int) (p1:Int) (p2:Int) (w:World) (φ:PHeap) (hS:St0 w φ [])  {r:Bool} (hm:wBz p0 p1 p2=some r):Gv Tryz.prog 103 [jV p0,jV p1,jV p2] w (wCM w [] φ (fun φ_ L_ v=>v=.bool r/\L_=[])):=by
 unfold wBz at hm
 refine Gv.of Tryz.func103 Z Tryz.ntmps103 Tryz.results103 Z (sR fL1 Z (oA Z Z (eN (sR fL9 Z (oM Z Z (oM Z Z (oR Z (yb Z Z Z) (oM Z Z ?_))))))))
 by_cases c1:p1 <= p0
 have ah:=hm;rw [if_pos c1] at ah;replace c1:=zH c1
 refine zf Z Z Z (wT Z c1) Z Z (zf Z Z Z (wT Z c1) Z Z (rU Z (wT Z c1) (Runs.leq Z Z Z) (oR Z (zh Z (Zk c1.out) Z) (oA Z Z (eN (zP ?_))))))
 cases ah
 exact ⟨Z,_,(zw Z),φ,_,hS,Z,Z⟩
 have ai:=hm;rw [if_neg c1] at ai;replace c1:=zH c1
 refine oF Z c1 (oF Z c1 (oF Z c1 (oR Z (zk Z (ZI c1.out) Z) (oA Z Z (eN (zP ?_))))))
 have hE:=nB ai;first | subst r | cases hE
 exact ⟨Z,_,(zw Z),φ,_,hS,Z,Z⟩
theorem wGm (p0:Int) (p1:(Int->Option Bool)) (ah:Nat) (ab:Value) (w:World) (φ:PHeap) (hS:St0 w φ []) (aq:Cl φ ah 0 [ab]) (au:FnOK Tryz.prog φ ab wHd wJG p1) {r:Bool} (hm:wCA p0 p1=some r):Gv Tryz.prog 197 [jV p0,.pointer (some ⟨ah,0,none⟩)] w (wCM w [] φ (fun φ_ L_ v=>v=.bool r/\L_=[])):=by
 unfold wCA at hm
 refine Gv.of Tryz.func197 Z Tryz.ntmps197 Tryz.results197 Z (sR fL1 Z (oA Z Z (eN (sR gAx Z (oL Z (hS.ldC (f:=0) aq (v:=ab) Z Z Tryz.isAgg188 Z) (oM Z Z (bnK hm fun x1 h2 av=>yY (a:=p0) Z Z Z Z Z Z (zC Z zQ) hS au Z h2 ?_)))))))
 rintro ai L5 v6 W7 az ap ⟨rfl,rfl⟩
 have am:sW w φ ai [] W7:=ap
 refine oR Z (ZW Z Z) (oA Z Z (eN (zP ?_)))
 cases av
 exact ⟨Z,_,(zw Z),ai,_,am,Z,Z⟩
theorem wER (p0:List Int) (ap:Option Addr) (aq:Nat) (p1:(Int->Option Bool)) (au:Value) (w:World) (φ:PHeap) (hS:St0 w φ []) (br:Sl φ 1 ap aq p0.length (nA KL.encI p0)) (bs:FnOK Tryz.prog φ au wHd wJG p1) {r:Int} (hm:wBn p0 p1=some r):Gv Tryz.prog 146 [.slice ap p0.length aq,au] w (wCM w [] φ (fun φ_ L_ v=>v=jV r/\L_=[])):=by
 unfold wBn at hm
 refine Gv.of Tryz.func146 Z Tryz.ntmps146 Tryz.results146 Z (sR fL1 Z (oA Z Z (eN (zG (sR fL3 Z (oM Z Z (oR Z (zd Z Z zB) (oM Z Z (eN (zR ?_))))))))))
 have q:=wCc hm
 obtain ⟨r3,ai⟩:=q
 have q:=wCj ai
 obtain ⟨ak,bv⟩:=q
 replace ak:=zH ak
 refine yG (fun k2 _ σ_ w_=>∃ (φ_:PHeap),σ_ 8=jV (↑k2:Int)/\σ_ 0=.slice ap p0.length aq/\σ_ 1=au/\σ_ 7=jV (↑p0.length:Int)/\PHeap.Le φ φ_/\sW w φ φ_ [] w_) bv ?_ ?_ ?_
 exact ⟨φ,Z,Z,Z,Z,(zS _),hS⟩
 rintro k2 ⟨⟩ bR bT W8 aj ⟨bU,ah,az,aU,aV,am,aX⟩ ba bt
 try dsimp only at ba
 have aw:Hid ((↑k2:Int) < (↑p0.length:Int)):=zH (wBI aj)
 replace aj:=zH aj
 have bw:Hid (w64 ((↑k2:Int) + 1)=(↑(k2 + 1):Int)):=zH (by have h1:=ak.out;have h2:=aw.out;rw [wAU] <;> omega)
 refine sR fL1 Z (oR Z (zU Z ah aV) (eN (zG (cT Z aw (kN (zG (zR (sR fL2 Z (oM Z ah (oA Z Z (eN (sR (wKd (.fx 5 .nil .stop)) Z (oM Z aU (oM Z az (oM Z Z (bnK ba fun bd aW bz=>?_))))))))))))))))
 have bj:=br.le am
 have q:=bj.el (fun _=>rfl) (wAZ aW)
 obtain ⟨bK,bO,bm,bn⟩:=q
 refine oR Z (ZH Z Z bm Z zB zF (wBT aW)) (oL Z (aX.ldC (f:=0) bn (v:=jV bd) Z Z zK Z) (bnK bz fun x30 bk bA=>?_))
 have bl:=bs.le am
 refine yY (a:=bd) Z Z Z Z Z Z (zC Z zQ) aX bl Z bk ?_
 rintro av bH bQ be bE bp ⟨rfl,rfl⟩
 have aY:sW w φ av [] be:=bp
 refine eN (ifc bA ?_ ?_)
 intro ae bB
 refine ZG (congrArg nD ae.out) (sR fL2 Z (oM Z Z (oA Z Z (eN (zP (zg (zN ?_)))))))
 have q:=wAW bB
 obtain ⟨bF,bC,bg⟩:=q
 obtain rfl:=wBQ hm ai (bt bF bg)
 refine zN (zg (zN ?_))
 cases bC
 exact ⟨Z,_,(zw Z),av,_,aY,Z,Z⟩
 intro ae bD
 refine zu (congrArg nD (nE.2 ae.out)) (Zf (ze (zI (rR fL2 Z (oR Z (ZC (zY Z ah Z) (congrArg (jV) bw.out)) (oM Z Z (zn ?_)))))))
 obtain rfl:=nB bD
 exact zI ⟨Z,_,Z,⟨av,Z,az,aU,aV,(am.trans bE),aY⟩⟩
 rintro ⟨⟩ bS bI ⟨bG,bi,bL,bM,bh,bN,bq⟩ bu
 have aZ:=wDL hm ai bu
 try dsimp only at aZ
 have bf:Hid (¬ ((↑(((↑p0.length:Int):Int) - 0).toNat:Int) < (↑p0.length:Int))):=zH (wAp)
 refine sR fL1 Z (oR Z (zU Z bi bh) (eN (zG (cF Z bf (ZJ (zX (zX (ZB (zI (sR fL1 Z (oA Z Z (eN (zP ?_)))))))))))))
 cases aZ
 exact ⟨Z,_,(zw Z),bG,_,bq,Z,Z⟩
theorem wDz (p0:List Int) (ae:Option Addr) (ah:Nat) (p1:(Int->Option Bool)) (ai:Value) (w:World) (φ:PHeap) (hS:St0 w φ []) (au:Sl φ 1 ae ah p0.length (nA KL.encI p0)) (av:FnOK Tryz.prog φ ai wHd wJG p1) {r:Bool} (hm:wBX p0 p1=some r):Gv Tryz.prog 196 [.slice ae p0.length ah,ai] w (wCM w [] φ (fun φ_ L_ v=>v=.bool r/\L_=[])):=by
 unfold wBX at hm
 refine Gv.of Tryz.func196 Z Tryz.ntmps196 Tryz.results196 Z (sR fL1 Z (oA Z Z (eN (sR gAx Z (oM Z Z (oM Z Z (bnK hm fun x1 h2 aw=>zM 0 Z Z Z Z (zL Z Z Tryz.call146 (zC Z (zC Z zQ)) Z) hS (fun hs=>wER p0 ae ah p1 ai w φ hs au av h2) (.inr Z) ?_)))))))
 rintro aj L5 v6 W7 aU aq ⟨rfl,rfl⟩
 have ap:sW w φ aj [] W7:=aq
 refine oR Z (yb Z Z Z) (oA Z Z (eN (zP ?_)))
 cases aw
 exact ⟨Z,_,(zw Z),aj,_,ap,Z,Z⟩
theorem wFG (p0:List Int) (ak:Option Addr) (am:Nat) (p1:(Int->Option Bool)) (ai:Value) (w:World) (φ:PHeap) (hS:St0 w φ []) (bd:Sl φ 1 ak am p0.length (nA KL.encI p0)) (aq:FnOK Tryz.prog φ ai wHd wJG p1) {r:Bool} (hm:wCd p0 p1=some r):Gv Tryz.prog 114 [.slice ak p0.length am,ai] w (wCM w [] φ (fun φ_ L_ v=>v=.bool r/\L_=[])):=by
 unfold wCd at hm
 refine Gv.of Tryz.func114 Z Tryz.ntmps114 Tryz.results114 Z (sR gAi Z (Za (cs:=[ai]) Z Z Z Z Z Z (FnOK.cells aq) hS ?_))
 intro W1 b2 aZ
 have q:=aZ.freeze (k:=0) rfl
 obtain ⟨aj,au,ab,ba⟩:=q
 replace ab:=Cl.of ab
 have bb:sW w φ aj [] W1:=ba
 replace ab:Cl aj b2 0 [ai]:=ab
 refine oA Z Z (eN (sR gAx Z (oM Z Z (oR Z (yc Z zQ (zC Z zQ)) ?_))))
 have az:=bd.le au
 have aU:=aq.le au
 have aW:FnOK Tryz.prog aj (.func (.func 197) #[] #[.pointer (some ⟨b2,0,none⟩)]) wHd wJG (fun x=>wCA x p1):=⟨197,[],[.pointer (some ⟨b2,0,none⟩)],rfl,Tryz.call197,fun bg w1 x y vs le hs ha hm=>by obtain rfl:=ha;exact wGm x p1 b2 ai w1 bg hs (ab.le le) (aU.le le) hm⟩
 refine bnK hm fun bk aV be=>zM 0 Z Z Z Z (zL Z Z Tryz.call196 (zC Z (zC Z zQ)) Z) bb (fun hs=>wDz p0 ak am (fun x=>wCA x p1) (.func (.func 197) #[] #[.pointer (some ⟨b2,0,none⟩)]) W1 aj hs az aW aV) (.inr Z) ?_
 rintro av bh bj aw bi aX ⟨rfl,rfl⟩
 have aY:sW w φ av [] aw:=aX
 refine oR Z (ZW Z Z) (oA Z Z (eN (zP ?_)))
 cases be
 exact ⟨Z,_,(zw Z),av,_,aY,Z,Z⟩
theorem wHG (p0:Int) (w:World) (φ:PHeap) (hS:St0 w φ [])  {r:Bool} (hm:wBK p0=some r):Gv Tryz.prog 195 [jV p0] w (wCM w [] φ (fun φ_ L_ v=>v=.bool r/\L_=[])):=by
 unfold wBK at hm
 refine Gv.of Tryz.func195 Z Tryz.ntmps195 Tryz.results195 Z (sR fL1 Z (oA Z Z (eN (sR gAo Z (oM Z Z (bnK hm fun x1 h2 ak=>zM 0 Z Z Z Z (zL Z Z yN (zC Z (zC Z (zC Z zQ))) Z) hS (fun hs=>wDC p0 0 3 w φ hs h2) (.inr Z) ?_))))))
 rintro ab L5 v6 W7 ap aj ⟨rfl,rfl⟩
 have ai:sW w φ ab [] W7:=aj
 refine oA Z Z (eN (zP ?_))
 have hE:=nB ak;first | subst r | cases hE
 exact ⟨Z,_,(zw Z),ab,_,ai,Z,Z⟩
theorem wFW (p0:List Int) (ab:Option Addr) (ae:Nat) (w:World) (φ:PHeap) (hS:St0 w φ []) (aq:Sl φ 1 ab ae p0.length (nA KL.encI p0)) {r:Bool} (hm:wCS p0=some r):Gv Tryz.prog 112 [.slice ab p0.length ae] w (wCM w [] φ (fun φ_ L_ v=>v=.bool r/\L_=[])):=by
 unfold wCS at hm
 refine Gv.of Tryz.func112 Z Tryz.ntmps112 Tryz.results112 Z (sR fL1 Z (oA Z Z (eN (sR gAo Z (oM Z Z ?_)))))
 have ak:FnOK Tryz.prog φ (.func (.func 195) #[] #[]) wHd wJG wBK:=⟨195,[],[],rfl,Tryz.call195,fun aw w1 x y vs le hs ha hm=>by obtain rfl:=ha;exact wHG x w1 aw hs  hm⟩
 refine bnK hm fun x2 h3 au=>zM 0 Z Z Z Z (zL Z Z Tryz.call114 (zC Z (zC Z zQ)) Z) hS (fun hs=>wFG p0 ab ae wBK (.func (.func 195) #[] #[]) w φ hs aq ak h3) (.inr Z) ?_
 rintro ah L6 v7 W8 aU am ⟨rfl,rfl⟩
 have ap:sW w φ ah [] W8:=am
 refine oA Z Z (eN (zP ?_))
 have hE:=nB au;first | subst r | cases hE
 exact ⟨Z,_,(zw Z),ah,_,ap,Z,Z⟩
theorem wHf (p0:wAJ) (ab:Option Addr) (ae:Nat) (w:World) (φ:PHeap) (hS:St0 w φ []) (ak:Sl φ 1 ab ae p0.Classes.length (nA KL.encI p0.Classes)) {r:Int} (hm:wBh p0=some r):Gv Tryz.prog 259 [.agg #[.slice ab p0.Classes.length ae,jV p0.Each,jV p0.Laps,jV p0.Spare,jV p0.Loop,jV p0.Unused]] w (wCM w [] φ (fun φ_ L_ v=>v=jV r/\L_=[])):=by
 unfold wBh at hm
 refine Gv.of Tryz.func259 rfl Tryz.ntmps259 Tryz.results259 rfl (sR gAi rfl (Za (cs:=[.slice ab p0.Classes.length ae,jV p0.Each,jV p0.Laps,jV p0.Spare,jV p0.Loop,jV p0.Unused]) rfl rfl rfl rfl rfl rfl (by rfl) hS ?_))
 intro W1 b2 ah
 refine oA Z Z (eN (sR fL3 Z (oR Z (zD Z Z ZE Z zF) (oL Z (ah.ldB (j:=0) Z Z Z zK (v:=jV p0.Each) Z) (oA Z Z (eN (zP ?_)))))))
 cases hm
 exact ⟨rfl,_,(zw rfl),φ,_,(ah.pick [] _ (by decide) rfl),rfl,rfl⟩
theorem wHg (p0:wAJ) (ab:Option Addr) (ae:Nat) (w:World) (φ:PHeap) (hS:St0 w φ []) (ak:Sl φ 1 ab ae p0.Classes.length (nA KL.encI p0.Classes)) {r:Int} (hm:wBi p0=some r):Gv Tryz.prog 260 [.agg #[.slice ab p0.Classes.length ae,jV p0.Each,jV p0.Laps,jV p0.Spare,jV p0.Loop,jV p0.Unused]] w (wCM w [] φ (fun φ_ L_ v=>v=jV r/\L_=[])):=by
 unfold wBi at hm
 refine Gv.of Tryz.func260 rfl Tryz.ntmps260 Tryz.results260 rfl (sR gAi rfl (Za (cs:=[.slice ab p0.Classes.length ae,jV p0.Each,jV p0.Laps,jV p0.Spare,jV p0.Loop,jV p0.Unused]) rfl rfl rfl rfl rfl rfl (by rfl) hS ?_))
 intro W1 b2 ah
 refine oA Z Z (eN (sR fL3 Z (oR Z (zD Z Z ZE Z zF) (oL Z (ah.ldB (j:=0) Z Z Z zK (v:=jV p0.Laps) Z) (oA Z Z (eN (zP ?_)))))))
 cases hm
 exact ⟨rfl,_,(zw rfl),φ,_,(ah.pick [] _ (by decide) rfl),rfl,rfl⟩
theorem wHh (p0:wAJ) (ab:Option Addr) (ae:Nat) (w:World) (φ:PHeap) (hS:St0 w φ []) (ak:Sl φ 1 ab ae p0.Classes.length (nA KL.encI p0.Classes)) {r:Int} (hm:wBj p0=some r):Gv Tryz.prog 261 [.agg #[.slice ab p0.Classes.length ae,jV p0.Each,jV p0.Laps,jV p0.Spare,jV p0.Loop,jV p0.Unused]] w (wCM w [] φ (fun φ_ L_ v=>v=jV r/\L_=[])):=by
 unfold wBj at hm
 refine Gv.of Tryz.func261 rfl Tryz.ntmps261 Tryz.results261 rfl (sR gAi rfl (Za (cs:=[.slice ab p0.Classes.length ae,jV p0.Each,jV p0.Laps,jV p0.Spare,jV p0.Loop,jV p0.Unused]) rfl rfl rfl rfl rfl rfl (by rfl) hS ?_))
 intro W1 b2 ah
 refine oA Z Z (eN (sR fL3 Z (oR Z (zD Z Z ZE Z zF) (oL Z (ah.ldB (j:=0) Z Z Z zK (v:=jV p0.Spare) Z) (oA Z Z (eN (zP ?_)))))))
 cases hm
 exact ⟨rfl,_,(zw rfl),φ,_,(ah.pick [] _ (by decide) rfl),rfl,rfl⟩
theorem wHi (p0:wAJ) (ab:Option Addr) (ae:Nat) (w:World) (φ:PHeap) (hS:St0 w φ []) (ak:Sl φ 1 ab ae p0.Classes.length (nA KL.encI p0.Classes)) {r:Int} (hm:wBk p0=some r):Gv Tryz.prog 262 [.agg #[.slice ab p0.Classes.length ae,jV p0.Each,jV p0.Laps,jV p0.Spare,jV p0.Loop,jV p0.Unused]] w (wCM w [] φ (fun φ_ L_ v=>v=jV r/\L_=[])):=by
 unfold wBk at hm
 refine Gv.of Tryz.func262 rfl Tryz.ntmps262 Tryz.results262 rfl (sR gAi rfl (Za (cs:=[.slice ab p0.Classes.length ae,jV p0.Each,jV p0.Laps,jV p0.Spare,jV p0.Loop,jV p0.Unused]) rfl rfl rfl rfl rfl rfl (by rfl) hS ?_))
 intro W1 b2 ah
 refine oA Z Z (eN (sR fL3 Z (oR Z (zD Z Z ZE Z zF) (oL Z (ah.ldB (j:=0) Z Z Z zK (v:=jV p0.Loop) Z) (oA Z Z (eN (zP ?_)))))))
 cases hm
 exact ⟨rfl,_,(zw rfl),φ,_,(ah.pick [] _ (by decide) rfl),rfl,rfl⟩
theorem wHj (p0:wAJ) (ab:Option Addr) (ae:Nat) (w:World) (φ:PHeap) (hS:St0 w φ []) (ak:Sl φ 1 ab ae p0.Classes.length (nA KL.encI p0.Classes)) {r:Int} (hm:wBl p0=some r):Gv Tryz.prog 263 [.agg #[.slice ab p0.Classes.length ae,jV p0.Each,jV p0.Laps,jV p0.Spare,jV p0.Loop,jV p0.Unused]] w (wCM w [] φ (fun φ_ L_ v=>v=jV r/\L_=[])):=by
 unfold wBl at hm
 refine Gv.of Tryz.func263 rfl Tryz.ntmps263 Tryz.results263 rfl (sR gAi rfl (Za (cs:=[.slice ab p0.Classes.length ae,jV p0.Each,jV p0.Laps,jV p0.Spare,jV p0.Loop,jV p0.Unused]) rfl rfl rfl rfl rfl rfl (by rfl) hS ?_))
 intro W1 b2 ah
 refine oA Z Z (eN (sR fL3 Z (oR Z (zD Z Z ZE Z zF) (oL Z (ah.ldB (j:=0) Z Z Z zK (v:=jV p0.Unused) Z) (oA Z Z (eN (zP ?_)))))))
 cases hm
 exact ⟨rfl,_,(zw rfl),φ,_,(ah.pick [] _ (by decide) rfl),rfl,rfl⟩
theorem wJH  (w:World) (φ:PHeap) (hS:St0 w φ [])  {r:(List wAO)} (hm:wDu =some r):Gv Tryz.prog 191 [] w (wCM w [] φ (fun φ_ L_ v=>∃ (A0:Option Addr) (c0:Nat) (av:List Value),v=.slice A0 r.length c0/\L_=[.row A0 c0 298 3 av]/\RlL φ_ wIk r av)):=by
 unfold wDu at hm
 refine Gv.of Tryz.func191 Z Tryz.ntmps191 Tryz.results191 Z (sR fL1 Z (oA Z Z (eN (sR (wKd (.fx 5 (.fl 6 .nil) .stop)) Z ?_))))
 let B0:List Value:=[.nilFunc,jV 0,jV 0]
 let B1:List Value:=[.func (.func 259) #[] #[],jV 1,jV 4]
 refine oR Z (Zd (pv:=[(0,.func (.func 259) #[] #[]),(1,jV 1),(2,jV 4)]) (z:=B0) (cs:=B1) Z (wAN Z (wAN Z (wAN Z wAa))) yX wFT Z Z) ?_
 let B2:List Value:=[.func (.func 260) #[] #[],jV 1,jV 5]
 refine oR Z (Zd (pv:=[(0,.func (.func 260) #[] #[]),(1,jV 1),(2,jV 5)]) (z:=B0) (cs:=B2) Z (wAN Z (wAN Z (wAN Z wAa))) yX wFT Z Z) ?_
 let B3:List Value:=[.func (.func 261) #[] #[],jV 0,jV 600]
 refine oR Z (Zd (pv:=[(0,.func (.func 261) #[] #[]),(1,jV 0),(2,jV 600)]) (z:=B0) (cs:=B3) Z (wAN Z (wAN Z (wAN Z wAa))) yX wFT Z Z) ?_
 let B4:List Value:=[.func (.func 262) #[] #[],jV 0,jV 600]
 refine oR Z (Zd (pv:=[(0,.func (.func 262) #[] #[]),(1,jV 0),(2,jV 600)]) (z:=B0) (cs:=B4) Z (wAN Z (wAN Z (wAN Z wAa))) yX wFT Z Z) ?_
 let B5:List Value:=[.func (.func 263) #[] #[],jV 0,jV 6000]
 refine oR Z (Zd (pv:=[(0,.func (.func 263) #[] #[]),(1,jV 0),(2,jV 6000)]) (z:=B0) (cs:=B5) Z (wAN Z (wAN Z (wAN Z wAa))) yX wFT Z Z) ?_
 let B6:List Value:=[.func (.func 259) #[] #[],jV 1,jV 4,.func (.func 260) #[] #[],jV 1,jV 5,.func (.func 261) #[] #[],jV 0,jV 600,.func (.func 262) #[] #[],jV 0,jV 600,.func (.func 263) #[] #[],jV 0,jV 6000]
 refine ZF (pv:=[(0,.agg B1.toArray),(1,.agg B2.toArray),(2,.agg B3.toArray),(3,.agg B4.toArray),(4,.agg B5.toArray)]) (zs:=[.nilFunc,jV 0,jV 0,.nilFunc,jV 0,jV 0,.nilFunc,jV 0,jV 0,.nilFunc,jV 0,jV 0,.nilFunc,jV 0,jV 0]) (cs:=B6) Z Z Z Z Z (wAN Z (wAN Z (wAN Z (wAN Z (wAN Z wAa))))) Tryz.runUnderlying299 Tryz.sizeOf298 yX Z Z Z Z Z hS ?_
 intro W1 b2 aZ
 have az:FnOK Tryz.prog φ (.func (.func 263) #[] #[]) wKH wKI wBl:=⟨263,[],[],rfl,Tryz.call263,fun ab w1 x y vs le hs ha hm=>by obtain ⟨pA_0_0,pc_0_0,rfl,hq0_0⟩:=ha;exact wHj x pA_0_0 pc_0_0 w1 ab hs hq0_0 hm⟩
 have aU:FnOK Tryz.prog φ (.func (.func 262) #[] #[]) wKH wKI wBk:=⟨262,[],[],rfl,Tryz.call262,fun ab w1 x y vs le hs ha hm=>by obtain ⟨pA_0_0,pc_0_0,rfl,hq0_0⟩:=ha;exact wHi x pA_0_0 pc_0_0 w1 ab hs hq0_0 hm⟩
 have aV:FnOK Tryz.prog φ (.func (.func 261) #[] #[]) wKH wKI wBj:=⟨261,[],[],rfl,Tryz.call261,fun ab w1 x y vs le hs ha hm=>by obtain ⟨pA_0_0,pc_0_0,rfl,hq0_0⟩:=ha;exact wHh x pA_0_0 pc_0_0 w1 ab hs hq0_0 hm⟩
 have aW:FnOK Tryz.prog φ (.func (.func 260) #[] #[]) wKH wKI wBi:=⟨260,[],[],rfl,Tryz.call260,fun ab w1 x y vs le hs ha hm=>by obtain ⟨pA_0_0,pc_0_0,rfl,hq0_0⟩:=ha;exact wHg x pA_0_0 pc_0_0 w1 ab hs hq0_0 hm⟩
 have aX:FnOK Tryz.prog φ (.func (.func 259) #[] #[]) wKH wKI wBh:=⟨259,[],[],rfl,Tryz.call259,fun ab w1 x y vs le hs ha hm=>by obtain ⟨pA_0_0,pc_0_0,rfl,hq0_0⟩:=ha;exact wHf x pA_0_0 pc_0_0 w1 ab hs hq0_0 hm⟩
 have ba:RlL φ wIk [(⟨wBh,1,4⟩:wAO),(⟨wBi,1,5⟩:wAO),(⟨wBj,0,600⟩:wAO),(⟨wBk,0,600⟩:wAO),(⟨wBl,0,6000⟩:wAO)] B6:=(RlL.cons (R:=wIk) (x:=(⟨wBh,1,4⟩:wAO)) (vs:=B1) ⟨(.func (.func 259) #[] #[]),rfl,aX⟩ (RlL.cons (R:=wIk) (x:=(⟨wBi,1,5⟩:wAO)) (vs:=B2) ⟨(.func (.func 260) #[] #[]),rfl,aW⟩ (RlL.cons (R:=wIk) (x:=(⟨wBj,0,600⟩:wAO)) (vs:=B3) ⟨(.func (.func 261) #[] #[]),rfl,aV⟩ (RlL.cons (R:=wIk) (x:=(⟨wBk,0,600⟩:wAO)) (vs:=B4) ⟨(.func (.func 262) #[] #[]),rfl,aU⟩ (RlL.cons (R:=wIk) (x:=(⟨wBl,0,6000⟩:wAO)) (vs:=B5) ⟨(.func (.func 263) #[] #[]),rfl,az⟩ RlL.nil)))))
 have aY:sW w φ φ [.row (some ⟨b2,0,none⟩) 5 298 3 B6] W1:=aZ
 refine oA Z Z (eN (zP ?_))
 cases hm
 exact ⟨Z,_,(zw Z),φ,_,aY,(some ⟨b2,0,none⟩),5,B6,Z,Z,ba⟩
theorem wFn (p0:wAO) (aj:Value) (p1:wAJ) (au:Nat) (ah:Option Addr) (ai:Nat) (w:World) (φ:PHeap) (hS:St0 w φ []) (bb:FnOK Tryz.prog φ aj wKH wKI p0.of) (bd:Cl φ au 0 [.slice ah p1.Classes.length ai,jV p1.Each,jV p1.Laps,jV p1.Spare,jV p1.Loop,jV p1.Unused]) (be:Sl φ 1 ah ai p1.Classes.length (nA KL.encI p1.Classes)) {r:Bool} (hm:wBf p0 p1=some r):Gv Tryz.prog 192 [.agg #[aj,jV p0.lo,jV p0.hi],.pointer (some ⟨au,0,none⟩)] w (wCM w [] φ (fun φ_ L_ v=>v=.bool r/\L_=[])):=by
 unfold wBf at hm
 refine Gv.of Tryz.func192 Z Tryz.ntmps192 Tryz.results192 Z (sR gAi Z ?_)
 let B0:List Value:=[aj,jV p0.lo,jV p0.hi]
 refine Za (cs:=B0) rfl rfl rfl rfl rfl rfl (by rfl) hS ?_
 intro W1 b2 ba
 refine OKS.ra rfl rfl rfl rfl rfl rfl (eN (zG (Zb ZT [3,1,1,2,3,1,3,1,2,3] (wDy (fC4_7 (.fx 3 (.fx 8 (.fl 9 .nil) .stop) .stop))) (by kernel_rfl) ?_)))
 have ae:=ba.drew
 generalize hw_W6:({ W1 with drawn:=W1.drawn + 1 }:World)=W6 at ae ⊢
 refine oR Z (zD Z Z Tryz.runUnderlying298 Z Tryz.sizeOf296) (oL Z (ae.ldB (j:=0) Z Z Z Tryz.isAgg296 (v:=aj) Z) (oL Z (ae.ldCA (f:=0) bd Z Z yZ ZY (us:=[.slice ah p1.Classes.length ai,jV p1.Each,jV p1.Laps,jV p1.Spare,jV p1.Loop,jV p1.Unused]) Z Z) (oR Z (zD Z Z Tryz.runUnderlying298 Z zF) (oL Z (ae.ldB (j:=0) Z Z Z zK (v:=jV p0.lo) Z) (oR Z (zD Z Z Tryz.runUnderlying298 Z zF) (oL Z (ae.ldB (j:=0) Z Z Z zK (v:=jV p0.hi) Z) (bnK hm fun x7 h8 bg=>yY (a:=p1) Z Z Z Z Z Z (zC Z zQ) ae bb ⟨ah,ai,Z,be⟩ h8 ?_)))))))
 rintro av bi bn ap bl aW ⟨rfl,rfl⟩
 have aX:sW w φ av [.blk b2 298 B0] ap:=aW
 refine bnK bg fun x17 aU bf=>zM 0 Z Z Z Z (zL Z Z yN (zC Z (zC Z (zC Z zQ))) Z) aX (fun hs=>wDC x7 p0.lo p0.hi ap av hs aU) (.inr Z) ?_
 rintro aw bj bp az bm aY ⟨rfl,rfl⟩
 have aZ:sW w φ aw [.blk b2 298 B0] az:=aY
 refine oA Z Z (eN (zP ?_))
 have hE:=nB bf;first | subst r | cases hE
 exact ⟨rfl,_,(zw rfl),aw,_,(aZ.pick [] _ (by decide) rfl),rfl,rfl⟩
theorem wES (p0:wAO) (ab:Value) (p1:(wAO->Option Bool)) (ak:Nat) (ai:Value) (w:World) (φ:PHeap) (hS:St0 w φ []) (az:FnOK Tryz.prog φ ab wKH wKI p0.of) (aU:Cl φ ak 0 [ai]) (aV:FnOK Tryz.prog φ ai wNw wNx p1) {r:Bool} (hm:wAx p0 p1=some r):Gv Tryz.prog 258 [.agg #[ab,jV p0.lo,jV p0.hi],.pointer (some ⟨ak,0,none⟩)] w (wCM w [] φ (fun φ_ L_ v=>v=.bool r/\L_=[])):=by
 unfold wAx at hm
 refine Gv.of Tryz.func258 Z Tryz.ntmps258 Tryz.results258 Z (sR gAi Z ?_)
 let B0:List Value:=[ab,jV p0.lo,jV p0.hi]
 refine Za (cs:=B0) rfl rfl rfl rfl rfl rfl (by rfl) hS ?_
 intro W1 b2 ah
 refine oA Z Z (eN (sR gAx Z (oL Z (ah.ldC (f:=0) aU (v:=ai) Z Z Tryz.isAgg301 Z) (oL Z (ah.ldBA (j:=0) Z Z Z Tryz.isAgg298 Tryz.sizeOf298 (vs:=B0) Z Z) (bnK hm fun x5 h6 aW=>yY (a:=p0) Z Z Z Z Z Z (zC Z zQ) ah aV ⟨ab,Z,az⟩ h6 ?_)))))
 rintro am L9 ba ap aZ av ⟨rfl,rfl⟩
 have aw:sW w φ am [.blk b2 298 B0] ap:=av
 refine oR Z (ZW Z Z) (oA Z Z (eN (zP ?_)))
 cases aW
 exact ⟨rfl,_,(zw rfl),am,_,(aw.pick [] _ (by decide) rfl),rfl,rfl⟩
theorem wDA (p0:List wAO) (au:Option Addr) (av:Nat) (p1:(wAO->Option Bool)) (aw:Value) (w:World) (φ:PHeap) (hS:St0 w φ []) (bu:SlR φ wIk au av p0) (bv:FnOK Tryz.prog φ aw wNw wNx p1) {r:Int} (hm:wAn p0 p1=some r):Gv Tryz.prog 311 [.slice au p0.length av,aw] w (wCM w [] φ (fun φ_ L_ v=>v=jV r/\L_=[])):=by
 unfold wAn at hm
 refine Gv.of Tryz.func311 Z Tryz.ntmps311 Tryz.results311 Z (sR fL1 Z (oA Z Z (eN (zG (sR fL3 Z (oM Z Z (oR Z (zd Z Z Tryz.runUnderlying299) (oM Z Z (eN (zR ?_))))))))))
 have q:=wCc hm
 obtain ⟨r3,ak⟩:=q
 have q:=wCj ak
 obtain ⟨ap,bA⟩:=q
 replace ap:=zH ap
 refine yG (fun k2 _ σ_ w_=>∃ (φ_:PHeap),σ_ 8=jV (↑k2:Int)/\σ_ 0=.slice au p0.length av/\σ_ 1=aw/\σ_ 7=jV (↑p0.length:Int)/\PHeap.Le φ φ_/\sW w φ φ_ [] w_) bA ?_ ?_ ?_
 exact ⟨φ,Z,Z,Z,Z,(zS _),hS⟩
 rintro k2 ⟨⟩ bX bZ W8 am ⟨bL,ai,aW,aX,aY,aq,ba⟩ be bw
 try dsimp only at be
 have aV:Hid ((↑k2:Int) < (↑p0.length:Int)):=zH (wBI am)
 replace am:=zH am
 have bB:Hid (w64 ((↑k2:Int) + 1)=(↑(k2 + 1):Int)):=zH (by have h1:=ap.out;have h2:=aV.out;rw [wAU] <;> omega)
 refine sR fL1 Z (oR Z (zU Z ai aY) (eN (zG (cT Z aV (kN (zG (zR (sR fL2 Z (oM Z ai (oA Z Z (eN (sR (wKd (.fx 5 .nil .stop)) Z (oM Z aX (oM Z aW (oM Z Z (bnK be fun ae aZ bC=>?_))))))))))))))))
 have bm:=bu.le aq
 have q:=bm.el (wAZ aZ)
 obtain ⟨bh,bJ,bV,br,aj,bH⟩:=q
 obtain ⟨az,rfl,bn⟩:=bH
 replace aj:Cl bL bh (bJ + k2 * 3) [az,jV ae.lo,jV ae.hi]:=aj
 refine oR Z (ZH Z Z br Z Tryz.runUnderlying299 Tryz.sizeOf298 (wBT aZ)) (oL Z (ba.ldCA (f:=0) aj Z Z Tryz.isAgg298 Tryz.sizeOf298 (us:=[az,jV ae.lo,jV ae.hi]) Z Z) (bnK bC fun bW bp bD=>?_))
 have bq:=bv.le aq
 refine yY (a:=ae) Z Z Z Z Z Z (zC Z zQ) ba bq ⟨az,Z,bn⟩ bp ?_
 rintro aU bN bU bg bI bs ⟨rfl,rfl⟩
 have bb:sW w φ aU [] bg:=bs
 refine eN (ifc bD ?_ ?_)
 intro ah bE
 refine ZG (congrArg nD ah.out) (sR fL2 Z (oM Z Z (oA Z Z (eN (zP (zg (zN ?_)))))))
 have q:=wAW bE
 obtain ⟨bK,bF,bj⟩:=q
 obtain rfl:=wBQ hm ak (bw bK bj)
 refine zN (zg (zN ?_))
 cases bF
 exact ⟨Z,_,(zw Z),aU,_,bb,Z,Z⟩
 intro ah bG
 refine zu (congrArg nD (nE.2 ah.out)) (Zf (ze (zI (rR fL2 Z (oR Z (ZC (zY Z ai Z) (congrArg (jV) bB.out)) (oM Z Z (zn ?_)))))))
 obtain rfl:=nB bG
 exact zI ⟨Z,_,Z,⟨aU,Z,aW,aX,aY,(aq.trans bI),bb⟩⟩
 rintro ⟨⟩ bY bO ⟨bM,bl,bQ,bR,bk,bS,bt⟩ bz
 have bd:=wDL hm ak bz
 try dsimp only at bd
 have bi:Hid (¬ ((↑(((↑p0.length:Int):Int) - 0).toNat:Int) < (↑p0.length:Int))):=zH (wAp)
 refine sR fL1 Z (oR Z (zU Z bl bk) (eN (zG (cF Z bi (ZJ (zX (zX (ZB (zI (sR fL1 Z (oA Z Z (eN (zP ?_)))))))))))))
 cases bd
 exact ⟨Z,_,(zw Z),bM,_,bt,Z,Z⟩
theorem wCs (p0:List wAO) (ae:Option Addr) (ah:Nat) (p1:(wAO->Option Bool)) (ai:Value) (w:World) (φ:PHeap) (hS:St0 w φ []) (au:SlR φ wIk ae ah p0) (av:FnOK Tryz.prog φ ai wNw wNx p1) {r:Bool} (hm:wAj p0 p1=some r):Gv Tryz.prog 257 [.slice ae p0.length ah,ai] w (wCM w [] φ (fun φ_ L_ v=>v=.bool r/\L_=[])):=by
 unfold wAj at hm
 refine Gv.of Tryz.func257 Z Tryz.ntmps257 Tryz.results257 Z (sR fL1 Z (oA Z Z (eN (sR gAx Z (oM Z Z (oM Z Z (bnK hm fun x1 h2 aw=>zM 0 Z Z Z Z (zL Z Z Tryz.call311 (zC Z (zC Z zQ)) Z) hS (fun hs=>wDA p0 ae ah p1 ai w φ hs au av h2) (.inr Z) ?_)))))))
 rintro aj L5 v6 W7 aU aq ⟨rfl,rfl⟩
 have ap:sW w φ aj [] W7:=aq
 refine oR Z (yb Z Z Z) (oA Z Z (eN (zP ?_)))
 cases aw
 exact ⟨Z,_,(zw Z),aj,_,ap,Z,Z⟩
theorem wEj (p0:List wAO) (ak:Option Addr) (am:Nat) (p1:(wAO->Option Bool)) (ah:Value) (w:World) (φ:PHeap) (hS:St0 w φ []) (bd:SlR φ wIk ak am p0) (aq:FnOK Tryz.prog φ ah wNw wNx p1) {r:Bool} (hm:wBa p0 p1=some r):Gv Tryz.prog 190 [.slice ak p0.length am,ah] w (wCM w [] φ (fun φ_ L_ v=>v=.bool r/\L_=[])):=by
 unfold wBa at hm
 refine Gv.of Tryz.func190 Z Tryz.ntmps190 Tryz.results190 Z (sR gAi Z (Za (cs:=[ah]) Z Z Z Z Z Z (FnOK.cells aq) hS ?_))
 intro W1 b2 aZ
 have q:=aZ.freeze (k:=0) rfl
 obtain ⟨aj,au,ab,ba⟩:=q
 replace ab:=Cl.of ab
 have bb:sW w φ aj [] W1:=ba
 replace ab:Cl aj b2 0 [ah]:=ab
 refine oA Z Z (eN (sR gAx Z (oM Z Z (oR Z (yc Z zQ (zC Z zQ)) ?_))))
 have az:=bd.le au
 have aU:=aq.le au
 have aW:FnOK Tryz.prog aj (.func (.func 258) #[] #[.pointer (some ⟨b2,0,none⟩)]) wNw wNx (fun x=>wAx x p1):=⟨258,[],[.pointer (some ⟨b2,0,none⟩)],rfl,Tryz.call258,fun bg w1 x y vs le hs ha hm=>by obtain ⟨pv_0_0,rfl,hq0_0⟩:=ha;exact wES x pv_0_0 p1 b2 ah w1 bg hs hq0_0 (ab.le le) (aU.le le) hm⟩
 refine bnK hm fun bk aV be=>zM 0 Z Z Z Z (zL Z Z Tryz.call257 (zC Z (zC Z zQ)) Z) bb (fun hs=>wCs p0 ak am (fun x=>wAx x p1) (.func (.func 258) #[] #[.pointer (some ⟨b2,0,none⟩)]) W1 aj hs az aW aV) (.inr Z) ?_
 rintro av bh bj aw bi aX ⟨rfl,rfl⟩
 have aY:sW w φ av [] aw:=aX
 refine oR Z (ZW Z Z) (oA Z Z (eN (zP ?_)))
 cases be
 exact ⟨Z,_,(zw Z),av,_,aY,Z,Z⟩
theorem wGn (p0:wAJ) (ae:Option Addr) (ah:Nat) (w:World) (φ:PHeap) (hS:St0 w φ []) (bM:Sl φ 1 ae ah p0.Classes.length (nA KL.encI p0.Classes)) {r:Int} (hm:wCf p0=some r):Gv Tryz.prog 109 [.agg #[.slice ae p0.Classes.length ah,jV p0.Each,jV p0.Laps,jV p0.Spare,jV p0.Loop,jV p0.Unused]] w (wCM w [] φ (fun φ_ L_ v=>v=jV r/\L_=[])):=by
 unfold wCf at hm
 refine Gv.of Tryz.func109 Z Tryz.ntmps109 Tryz.results109 Z (sR gAi Z ?_)
 let B0:List Value:=[.slice ae p0.Classes.length ah,jV p0.Each,jV p0.Laps,jV p0.Spare,jV p0.Loop,jV p0.Unused]
 refine Za (cs:=B0) rfl rfl rfl rfl rfl rfl (by rfl) hS ?_
 intro W1 b2 bE
 have q:=bE.freeze (k:=0) rfl
 obtain ⟨aw,bY,ai,bL⟩:=q
 replace ai:=Cl.of ai
 have bg:sW w φ aw [] W1:=bL
 replace ai:Cl aw b2 0 B0:=ai
 refine oA Z Z (eN (zG (zR (sR (wDy (.fx 3 gAd .stop)) Z (oR Z (zD Z Z ZE Z zW) (oL Z (bg.ldC (f:=0) ai (v:=.slice ae p0.Classes.length ah) Z Z zm Z) (oR Z (zd Z Z zB) (bnK hm fun cy bn bN=>zM 0 Z Z Z Z (zL Z Z yN (zC Z (zC Z (zC Z zQ))) Z) bg (fun hs=>wDC (↑p0.Classes.length:Int) 1 4 W1 aw hs bn) (.inr Z) ?_))))))))
 rintro au ci cr aY bh bD ⟨rfl,rfl⟩
 have aq:sW w φ au [] aY:=bD
 refine oR Z (ZW Z Z) (oA Z Z (eN (ifc bN ?_ ?_)))
 intro am bO
 refine zu (nC am.out) (sR (.fl 0 (.fl 1 (.fx 2 (.fl 3 (.fl 4 (.fx 5 (.fl 6 (.fx 7 (wQg (.nil)) .stop)) .stop))) .stop))) Z (oR Z (zD Z Z ZE Z zW) ?_))
 have bb:=ai.le bh
 refine oL Z (aq.ldC (f:=0) bb (v:=.slice ae p0.Classes.length ah) Z Z zm Z) ?_
 have bp:=bM.le bY
 have bd:=bp.le bh
 refine bnK bO fun cz bq bP=>zM 0 Z Z Z Z (zL Z Z Tryz.call112 (zC Z zQ) Z) aq (fun hs=>wFW p0.Classes ae ah aY au hs bd bq) (.inr Z) ?_
 rintro av cj ct aZ bi bF ⟨rfl,rfl⟩
 have be:sW w φ av [] aZ:=bF
 refine oR Z (ZW Z Z) (oM Z Z (ifc bP ?_ ?_))
 intro ab bQ
 refine bnK bQ fun b5 br bR=>zM 0 Z Z Z (zO Z Z (nC ab.out)) (zL Z Z Tryz.call191 zQ Z) be (fun hs=>wJH aZ av hs br) (.inr Z) ?_
 rintro cg cm cu ak bj bG ⟨aV,ba,bm,rfl,rfl,bs⟩
 have bH:sW w φ cg [.row aV ba 298 3 bm] ak:=bG
 refine zj Z Z Z (zO Z Z (nC ab.out)) (fun _=>yc Z zQ (zC Z zQ)) ?_
 have q:=bH.freezeRR (R:=wIk) (k:=0) rfl bs rfl (by decide)
 obtain ⟨az,bk,bX,bI⟩:=q
 have bJ:sW w φ az [] ak:=bI
 have bt:=bb.le bi
 have bu:=bt.le bj
 have bv:=bu.le bk
 have bw:=bd.le bi
 have bz:=bw.le bj
 have bA:=bz.le bk
 have bC:FnOK Tryz.prog az (.func (.func 192) #[] #[.pointer (some ⟨b2,0,none⟩)]) wNw wNx (fun x=>wBf x p0):=⟨192,[],[.pointer (some ⟨b2,0,none⟩)],rfl,Tryz.call192,fun cd w1 x y vs le hs ha hm=>by obtain ⟨pv_0_0,rfl,hq0_0⟩:=ha;exact wFn x pv_0_0 p0 b2 ae ah w1 cd hs hq0_0 (bv.le le) (bA.le le) hm⟩
 refine bnK bR fun cA bB bS=>zM 0 Z Z Z (zO Z Z (nC ab.out)) (zL Z Z Tryz.call190 (zC Z (zC Z zQ)) Z) bJ (fun hs=>wEj b5 aV ba (fun x=>wBf x p0) (.func (.func 192) #[] #[.pointer (some ⟨b2,0,none⟩)]) ak az hs bX bC bB) (.inr Z) ?_
 rintro aU cp cw bl cq bK ⟨rfl,rfl⟩
 have bf:sW w φ aU [] bl:=bK
 refine zj Z Z Z (zO Z Z (nC ab.out)) (fun _=>ZW Z Z) (oR Z (zk Z (nC ab.out) Z) (oA Z Z (eN (ifc bS ?_ ?_))))
 intro ap bT
 refine zu (nC ap.out) (Zf (ze (zI (sR fL1 Z (oA Z Z (eN (zP ?_)))))))
 cases bT
 exact ⟨Z,_,(zw Z),aU,_,bf,Z,Z⟩
 intro ap bU
 refine ZG (nF (ap.out)) (sR fL1 Z (oA Z Z (eN (zP (zg (zN ?_))))))
 cases bU
 exact ⟨Z,_,(zw Z),aU,_,bf,Z,Z⟩
 intro ab bV
 refine yW Z Z Z (zr Z Z (nF (ab.out)) Z) (zJ Z Z Z (zr Z Z (nF (ab.out)) Z) (yW Z Z Z (zr Z Z (nF (ab.out)) Z) (zJ Z Z Z (zr Z Z (nF (ab.out)) Z) (oR Z (zh Z (nF (ab.out)) Z) (oA Z Z (eN (ZG Z (sR fL1 Z (oA Z Z (eN (zP (zg (zN ?_)))))))))))))
 cases bV
 exact ⟨Z,_,(zw Z),av,_,be,Z,Z⟩
 intro am bW
 refine ZG (nF (am.out)) (sR fL1 Z (oA Z Z (eN (zP (zg (zN ?_))))))
 cases bW
 exact ⟨Z,_,(zw Z),au,_,aq,Z,Z⟩
theorem wGQ (p0:wAJ) (bi:Option Addr) (bk:Nat) (p1:wAF) (bj:Option Addr) (bl:Nat) (aq:Option Addr) (av:Nat) (w:World) (φ:PHeap) (hS:St0 w φ []) (dh:Sl φ 1 bi bk p0.Classes.length (nA KL.encI p0.Classes)) (dm:Sl φ 1 bj bl p1.Classes.length (nA KL.encI p1.Classes)) (cg:SlR φ wGN aq av p1.Legs) {r:Bool} (hm:wBY p0 p1=some r):Gv Tryz.prog 167 [.agg #[.slice bi p0.Classes.length bk,jV p0.Each,jV p0.Laps,jV p0.Spare,jV p0.Loop,jV p0.Unused],.agg #[jV p1.Bib,.slice bj p1.Classes.length bl,.slice aq p1.Legs.length av]] w (wCM w [] φ (fun φ_ L_ v=>v=.bool r/\L_=[])):=by
 unfold wBY at hm
 refine Gv.of Tryz.func167 Z Tryz.ntmps167 Tryz.results167 Z (sR (.fx 0 gAh .stop) Z ?_)
 let B0:List Value:=[.slice bi p0.Classes.length bk,jV p0.Each,jV p0.Laps,jV p0.Spare,jV p0.Loop,jV p0.Unused]
 refine Za (cs:=B0) rfl rfl rfl rfl rfl rfl (by rfl) hS ?_
 intro W1 b2 bZ
 let B1:List Value:=[jV p1.Bib,.slice bj p1.Classes.length bl,.slice aq p1.Legs.length av]
 refine Za (cs:=B1) rfl rfl rfl rfl rfl rfl (by rfl) bZ ?_
 intro W5 b6 bD
 refine oA Z Z (eN (zG (sR (wDy (.fx 3 (wVQ (.nil)) .stop)) Z (oR Z (zD Z Z zZ Z zW) (oL Z (bD.ldB (j:=0) Z Z Z zm (v:=.slice bj p1.Classes.length bl) Z) (oR Z (zd Z Z zB) (bnK hm fun x9 bT cm=>zM 0 Z Z Z Z (zL Z Z yN (zC Z (zC Z (zC Z zQ))) Z) bD (fun hs=>wDC (↑p1.Classes.length:Int) 1 8 W5 φ hs bT) (.inr Z) ?_)))))))
 rintro ba cV dr bH cN bY ⟨rfl,rfl⟩
 have az:sW w φ ba [.blk b6 73 B1,.blk b2 24 B0] bH:=bY
 refine oR Z (ZW Z Z) (oM Z Z (ifc cm ?_ ?_))
 intro ai cq
 refine zj Z Z Z (zO Z Z (nC ai.out)) (fun _=>zD Z Z zZ Z Ze) (ZM Z Z Z (zO Z Z (nC ai.out)) (az.ldB (j:=0) Z Z Z yD (v:=.slice aq p1.Legs.length av) Z) Z (zj Z Z Z (zO Z Z (nC ai.out)) (fun _=>zd Z Z ZP) (zj Z Z Z (zO Z Z (nC ai.out)) (fun _=>zD Z Z ZE Z zW) (ZM Z Z Z (zO Z Z (nC ai.out)) (az.ldB (j:=1) Z Z Z zm (v:=.slice bi p0.Classes.length bk) Z) Z (zj Z Z Z (zO Z Z (nC ai.out)) (fun _=>zd Z Z zB) (zj Z Z Z (zO Z Z (nC ai.out)) (fun _=>yB Z Z Z) (oR Z (zk Z (nC ai.out) Z) (eN (ifc cq ?_ ?_)))))))))
 intro bm cr
 refine cT Z bm (sR fL1 Z (oA Z Z (eN (zP (zN ?_)))))
 have hE:=nB cr;first | subst r | cases hE
 exact ⟨rfl,_,(zw rfl),ba,_,(az.pick [] _ (by decide) rfl),rfl,rfl⟩
 intro bm aV
 refine cF Z bm (kN (zG (sR fL4 Z (oR Z (zD Z Z zZ Z Ze) (oL Z (az.ldB (j:=0) Z Z Z yD (v:=.slice aq p1.Legs.length av) Z) (oR Z (zd Z Z ZP) (oM Z Z (eN (zR ?_)))))))))
 have q:=wCc aV
 obtain ⟨dq,aU⟩:=q
 have q:=wCj aU
 obtain ⟨bv,cj⟩:=q
 replace bv:=zH bv
 refine yG (fun aW _ σ_ w_=>∃ (φ_:PHeap),σ_ 24=jV (↑aW:Int)/\σ_ 2=.pointer (some ⟨b2,0,none⟩)/\σ_ 3=.pointer (some ⟨b6,0,none⟩)/\σ_ 22=.slice aq p1.Legs.length av/\σ_ 23=jV (↑p1.Legs.length:Int)/\PHeap.Le ba φ_/\sW w φ φ_ [.blk b6 73 B1,.blk b2 24 B0] w_) cj ?_ ?_ ?_
 exact ⟨ba,Z,Z,Z,Z,Z,(zS _),az⟩
 rintro aW ⟨⟩ dv dw cX bu ⟨ap,aX,bg,bq,br,bs,bw,bC⟩ bG bh
 try dsimp only at bG
 have bA:Hid ((↑aW:Int) < (↑p1.Legs.length:Int)):=zH (wBI bu)
 replace bu:=zH bu
 have bE:Hid (w64 ((↑aW:Int) + 1)=(↑(aW + 1):Int)):=zH (by have h1:=bv.out;have h2:=bA.out;rw [wAU] <;> omega)
 refine sR fL1 Z (oR Z (zU Z aX bs) (eN (zG (cT Z bA (kN (zG (zR (sR (wDy gAp) Z (oM Z aX (bnK bG fun am bB ct=>?_))))))))))
 have bU:=cg.le cN
 have bV:=bU.le bw
 have q:=bV.el (wAZ bB)
 obtain ⟨bK,cO,dt,bW,bt,cM⟩:=q
 obtain ⟨au,aw,aY,aZ,rfl,df,dg⟩:=cM
 replace bt:Cl ap bK (cO + aW * 3) [jV am.Skier,.slice au am.Loops.length aw,.slice aY am.Bouts.length aZ]:=bt
 refine oR Z (ZH Z br bW aX ZP ZK (wBT bB)) (oL Z (bC.ldCA (f:=0) bt Z Z yI ZK (us:=[jV am.Skier,.slice au am.Loops.length aw,.slice aY am.Bouts.length aZ]) Z Z) (ZD (cs:=[jV 0,.slice none 0 0,.slice none 0 0]) Z Z Z Z Z Zc Z bC ?_))
 intro cY bL b5
 refine oA Z Z ?_
 let B2:List Value:=[jV am.Skier,.slice au am.Loops.length aw,.slice aY am.Bouts.length aZ]
 refine zx (j:=0) (vs:=B2) Z Z Z Z b5 Z Z Z Z ZK (zA Z) Z Z Z ?_
 intro bJ cd
 have ak:sW w φ ap [.blk bL 76 B2,.blk b6 73 B1,.blk b2 24 B0] bJ:=cd
 refine eN (sR fL33 Z (oR Z (zD Z Z zz Z zW) (oL Z (ak.ldB (j:=0) Z Z Z zm (v:=.slice au am.Loops.length aw) Z) (oR Z (zd Z Z zB) (oR Z (zD Z bg ZE Z zF) (oL Z (ak.ldB (j:=2) Z Z Z zK (v:=jV p0.Laps) Z) (oR Z (yB Z Z Z) (oM Z Z (ifc ct ?_ ?_)))))))))
 intro aa cu
 refine oT Z aa (oT Z aa (oT Z aa (oT Z aa (oT Z aa (oT Z aa (oT Z aa (zJ Z Z Z (wAC Z Z Z) (zJ Z Z Z (wAC Z Z Z) (zJ Z Z Z (wAC Z Z Z) (zJ Z Z Z (wAC Z Z Z) (zJ Z Z Z (wAC Z Z Z) (zJ Z Z Z (wAC Z Z Z) (oT Z aa (oR Z (zh Z (Zk aa.out) Z) (oM Z Z (oN Z (oN Z (oN Z (oN Z (oN Z (oN Z (oN Z (oN Z (oN Z (oR Z (zh Z Z Z) (eN (ZG Z (sR fL1 Z (oA Z Z (eN (zP (zg (zN ?_)))))))))))))))))))))))))))))))))
 have q:=wAW cu
 obtain ⟨cP,cw,bN⟩:=q
 obtain rfl:=wBQ aV aU (bh cP bN)
 refine zN (zg (zN ?_))
 have hE:=nB cw;first | subst r | cases hE
 exact ⟨rfl,_,(zw rfl),ap,_,(ak.pick [] _ (by decide) rfl),rfl,rfl⟩
 intro aa cy
 refine zf Z Z Z (wF Z aa) Z Z (rU Z (wF Z aa) (zD Z bq zZ Z Ze) (ZM Z Z Z (wF Z aa) (ak.ldB (j:=1) Z Z Z yD (v:=.slice aq p1.Legs.length av) Z) Z (rU Z (wF Z aa) (zd Z Z ZP) (rU Z (wF Z aa) (Zo Z Z Z) (rU Z (wF Z aa) (zU Z Z Z) (zf Z Z Z (wF Z aa) Z Z (ifc cy ?_ ?_)))))))
 intro aj cz
 refine rU Z (wT Z aj) (zD Z Z zz Z zW) (ZM Z Z Z (wT Z aj) (ak.ldB (j:=0) Z Z Z zm (v:=.slice au am.Loops.length aw) Z) Z (rU Z (wT Z aj) (zd Z Z zB) (rU Z (wT Z aj) (zD Z bg ZE Z zF) (ZM Z Z Z (wT Z aj) (ak.ldB (j:=2) Z Z Z zK (v:=jV p0.Laps) Z) Z (rU Z (wT Z aj) (zU Z Z Z) (rU Z (wF Z aa) (zh Z (Zk aj.out) Z) (oR Z (zk Z (ZI aa.out) Z) (oM Z Z (ifc cz ?_ ?_)))))))))
 intro ab cA
 refine oT Z ab (oT Z ab (oT Z ab (oT Z ab (oT Z ab (oT Z ab (oT Z ab (oT Z ab (oT Z ab (oR Z (zh Z (Zk ab.out) Z) (eN (ZG Z (sR fL1 Z (oA Z Z (eN (zP (zg (zN ?_)))))))))))))))))
 have q:=wAW cA
 obtain ⟨cQ,cC,bO⟩:=q
 obtain rfl:=wBQ aV aU (bh cQ bO)
 refine zN (zg (zN ?_))
 have hE:=nB cC;first | subst r | cases hE
 exact ⟨rfl,_,(zw rfl),ap,_,(ak.pick [] _ (by decide) rfl),rfl,rfl⟩
 intro ab cD
 refine rU Z (wF Z ab) (zD Z Z zz Z Zx) (ZM Z Z Z (wF Z ab) (ak.ldB (j:=0) Z Z Z yR (v:=.slice aY am.Bouts.length aZ) Z) Z (rU Z (wF Z ab) (zd Z Z Zg) (rU Z (wF Z ab) (zD Z Z zz Z zW) (ZM Z Z Z (wF Z ab) (ak.ldB (j:=0) Z Z Z zm (v:=.slice au am.Loops.length aw) Z) Z (rU Z (wF Z ab) (zd Z Z zB) (rU Z (wF Z ab) (Zo Z Z Z) (rU Z (wF Z ab) (Runs.max Z Z Z) (rU Z (wF Z ab) (Zq Z Z Z) (oR Z (zk Z (ZI ab.out) Z) (eN (ifc cD ?_ ?_)))))))))))
 intro bn cE
 refine zu (ZI (fun h=>h bn.out)) (Zf (ze (zI (rR fL2 Z (oR Z (ZC (zY Z aX Z) (congrArg (jV) bE.out)) (oM Z Z (zn ?_)))))))
 obtain rfl:=nB cE
 exact zI ⟨rfl,_,rfl,⟨ap,rfl,bg,bq,br,bs,bw,(ak.pick [1,2] _ (by decide) rfl)⟩⟩
 intro bn cG
 refine cT Z bn (sR fL1 Z (oA Z Z (eN (zP (zg (zN ?_))))))
 have q:=wAW cG
 obtain ⟨cR,cH,bP⟩:=q
 obtain rfl:=wBQ aV aU (bh cR bP)
 refine zN (zg (zN ?_))
 have hE:=nB cH;first | subst r | cases hE
 exact ⟨rfl,_,(zw rfl),ap,_,(ak.pick [] _ (by decide) rfl),rfl,rfl⟩
 intro aj cI
 refine oF Z aj (oF Z aj (oF Z aj (oF Z aj (oF Z aj (oF Z aj (rU Z (wF Z aa) (zk Z (ZI aj.out) Z) (oR Z (zk Z (ZI aa.out) Z) (oM Z Z (zj Z Z Z (zO Z Z Z) (fun _=>zD Z Z zz Z Zx) (ZM Z Z Z (zO Z Z Z) (ak.ldB (j:=0) Z Z Z yR (v:=.slice aY am.Bouts.length aZ) Z) Z (zj Z Z Z (zO Z Z Z) (fun _=>zd Z Z Zg) (zj Z Z Z (zO Z Z Z) (fun _=>zD Z Z zz Z zW) (ZM Z Z Z (zO Z Z Z) (ak.ldB (j:=0) Z Z Z zm (v:=.slice au am.Loops.length aw) Z) Z (zj Z Z Z (zO Z Z Z) (fun _=>zd Z Z zB) (zj Z Z Z (zO Z Z Z) (fun _=>Zo Z Z Z) (zj Z Z Z (zO Z Z Z) (fun _=>Runs.max Z Z Z) (zj Z Z Z (zO Z Z Z) (fun _=>Zq Z Z Z) (oR Z (zk Z Z Z) (eN (ifc cI ?_ ?_))))))))))))))))))))
 intro bp cJ
 refine zu (ZI (fun h=>h bp.out)) (Zf (ze (zI (rR fL2 Z (oR Z (ZC (zY Z aX Z) (congrArg (jV) bE.out)) (oM Z Z (zn ?_)))))))
 obtain rfl:=nB cJ
 exact zI ⟨rfl,_,rfl,⟨ap,rfl,bg,bq,br,bs,bw,(ak.pick [1,2] _ (by decide) rfl)⟩⟩
 intro bp cK
 refine cT Z bp (sR fL1 Z (oA Z Z (eN (zP (zg (zN ?_))))))
 have q:=wAW cK
 obtain ⟨cS,cL,bQ⟩:=q
 obtain rfl:=wBQ aV aU (bh cS bQ)
 refine zN (zg (zN ?_))
 have hE:=nB cL;first | subst r | cases hE
 exact ⟨rfl,_,(zw rfl),ap,_,(ak.pick [] _ (by decide) rfl),rfl,rfl⟩
 rintro ⟨⟩ dx cZ ⟨cU,bS,da,db,de,bR,dp,bX⟩ ci
 have bF:=wDL aV aU ci
 try dsimp only at bF
 have bM:Hid (¬ ((↑(((↑p1.Legs.length:Int):Int) - 0).toNat:Int) < (↑p1.Legs.length:Int))):=zH (wAp)
 refine sR fL1 Z (oR Z (zU Z bS bR) (eN (zG (cF Z bM (ZJ (zX (zX (ZB (zI (sR fL1 Z (oA Z Z (eN (zP ?_)))))))))))))
 have hE:=nB bF;first | subst r | cases hE
 exact ⟨rfl,_,(zw rfl),cU,_,(bX.pick [] _ (by decide) rfl),rfl,rfl⟩
 intro ai cp
 refine zJ Z Z Z (zr Z Z (nF (ai.out)) Z) (zJ Z Z Z (zr Z Z (nF (ai.out)) Z) (zJ Z Z Z (zr Z Z (nF (ai.out)) Z) (zJ Z Z Z (zr Z Z (nF (ai.out)) Z) (zJ Z Z Z (zr Z Z (nF (ai.out)) Z) (zJ Z Z Z (zr Z Z (nF (ai.out)) Z) (zJ Z Z Z (zr Z Z (nF (ai.out)) Z) (oR Z (zh Z (nF (ai.out)) Z) (eN (ZG Z (sR fL1 Z (oA Z Z (eN (zP (zN ?_))))))))))))))
 have hE:=nB cp;first | subst r | cases hE
 exact ⟨rfl,_,(zw rfl),ba,_,(az.pick [] _ (by decide) rfl),rfl,rfl⟩
end Go.Proofs.YtglpalgiipahjaaGreat
namespace Go.Proofs.YtglpalgiipahjaaGreat
open Go.KL
set_option maxHeartbeats 4000000
theorem wEf (p0:wAF) (ab:Option Addr) (ah:Nat) (ae:Option Addr) (ai:Nat) (p1:(wAF->Option Bool)) (aq:Nat) (am:Value) (w:World) (φ:PHeap) (hS:St0 w φ []) (aW:Sl φ 1 ab ah p0.Classes.length (nA KL.encI p0.Classes)) (aX:SlR φ wGN ae ai p0.Legs) (aY:Cl φ aq 0 [am]) (aZ:FnOK Tryz.prog φ am wLG wLH p1) {r:Bool} (hm:wAz p0 p1=some r):Gv Tryz.prog 240 [.agg #[jV p0.Bib,.slice ab p0.Classes.length ah,.slice ae p0.Legs.length ai],.pointer (some ⟨aq,0,none⟩)] w (wCM w [] φ (fun φ_ L_ v=>v=.bool r/\L_=[])):=by
 unfold wAz at hm
 refine Gv.of Tryz.func240 Z Tryz.ntmps240 Tryz.results240 Z (sR gAi Z ?_)
 let B0:List Value:=[jV p0.Bib,.slice ab p0.Classes.length ah,.slice ae p0.Legs.length ai]
 refine Za (cs:=B0) rfl rfl rfl rfl rfl rfl (by rfl) hS ?_
 intro W1 b2 ak
 refine oA Z Z (eN (sR gAx Z (oL Z (ak.ldC (f:=0) aY (v:=am) Z Z Tryz.isAgg101 Z) (oL Z (ak.ldBA (j:=0) Z Z Z Zy zy (vs:=B0) Z Z) (bnK hm fun x5 h6 ba=>yY (a:=p0) Z Z Z Z Z Z (zC Z zQ) ak aZ ⟨ab,ah,ae,ai,Z,aW,aX⟩ h6 ?_)))))
 rintro au L9 bf av be aU ⟨rfl,rfl⟩
 have aV:sW w φ au [.blk b2 73 B0] av:=aU
 refine oR Z (ZW Z Z) (oA Z Z (eN (zP ?_)))
 cases ba
 exact ⟨rfl,_,(zw rfl),au,_,(aV.pick [] _ (by decide) rfl),rfl,rfl⟩
theorem wBv (p0:List wAF) (au:Option Addr) (az:Nat) (p1:(wAF->Option Bool)) (aW:Value) (w:World) (φ:PHeap) (hS:St0 w φ []) (bA:SlR φ wFr au az p0) (bB:FnOK Tryz.prog φ aW wLG wLH p1) {r:Int} (hm:wAR p0 p1=some r):Gv Tryz.prog 36 [.slice au p0.length az,aW] w (wCM w [] φ (fun φ_ L_ v=>v=jV r/\L_=[])):=by
 unfold wAR at hm
 refine Gv.of Tryz.func36 Z Tryz.ntmps36 Tryz.results36 Z (sR fL1 Z (oA Z Z (eN (zG (sR fL3 Z (oM Z Z (oR Z (zd Z Z zt) (oM Z Z (eN (zR ?_))))))))))
 have q:=wCc hm
 obtain ⟨r3,ak⟩:=q
 have q:=wCj ak
 obtain ⟨ap,bE⟩:=q
 replace ap:=zH ap
 refine yG (fun k2 _ σ_ w_=>∃ (φ_:PHeap),σ_ 8=jV (↑k2:Int)/\σ_ 0=.slice au p0.length az/\σ_ 1=aW/\σ_ 7=jV (↑p0.length:Int)/\PHeap.Le φ φ_/\sW w φ φ_ [] w_) bE ?_ ?_ ?_
 exact ⟨φ,Z,Z,Z,Z,(zS _),hS⟩
 rintro k2 ⟨⟩ cd ci W8 am ⟨bP,ai,aZ,ba,bb,aq,be⟩ bh bC
 try dsimp only at bh
 have aY:Hid ((↑k2:Int) < (↑p0.length:Int)):=zH (wBI am)
 replace am:=zH am
 have bF:Hid (w64 ((↑k2:Int) + 1)=(↑(k2 + 1):Int)):=zH (by have h1:=ap.out;have h2:=aY.out;rw [wAU] <;> omega)
 refine sR fL1 Z (oR Z (zU Z ai bb) (eN (zG (cT Z aY (kN (zG (zR (sR fL2 Z (oM Z ai (oA Z Z (eN (sR (wKd (.fx 5 .nil .stop)) Z (oM Z ba (oM Z aZ (oM Z Z (bnK bh fun ab bd bG=>?_))))))))))))))))
 have bq:=bA.le aq
 have q:=bq.el (wAZ bd)
 obtain ⟨bk,bN,bZ,bv,aj,bL⟩:=q
 obtain ⟨av,aU,aw,aV,rfl,br,bs⟩:=bL
 replace aj:Cl bP bk (bN + k2 * 3) [jV ab.Bib,.slice av ab.Classes.length aU,.slice aw ab.Legs.length aV]:=aj
 refine oR Z (ZH Z Z bv Z zt zy (wBT bd)) (oL Z (be.ldCA (f:=0) aj Z Z Zy zy (us:=[jV ab.Bib,.slice av ab.Classes.length aU,.slice aw ab.Legs.length aV]) Z Z) (bnK bG fun b5 bt bH=>?_))
 have bu:=bB.le aq
 refine yY (a:=ab) Z Z Z Z Z Z (zC Z zQ) be bu ⟨av,aU,aw,aV,Z,br,bs⟩ bt ?_
 rintro aX bR bY bj bM bw ⟨rfl,rfl⟩
 have bf:sW w φ aX [] bj:=bw
 refine eN (ifc bH ?_ ?_)
 intro ah bI
 refine ZG (congrArg nD ah.out) (sR fL2 Z (oM Z Z (oA Z Z (eN (zP (zg (zN ?_)))))))
 have q:=wAW bI
 obtain ⟨bO,bJ,bm⟩:=q
 obtain rfl:=wBQ hm ak (bC bO bm)
 refine zN (zg (zN ?_))
 cases bJ
 exact ⟨Z,_,(zw Z),aX,_,bf,Z,Z⟩
 intro ah bK
 refine zu (congrArg nD (nE.2 ah.out)) (Zf (ze (zI (rR fL2 Z (oR Z (ZC (zY Z ai Z) (congrArg (jV) bF.out)) (oM Z Z (zn ?_)))))))
 obtain rfl:=nB bK
 exact zI ⟨Z,_,Z,⟨aX,Z,aZ,ba,bb,(aq.trans bM),bf⟩⟩
 rintro ⟨⟩ cg bS ⟨bQ,bp,bU,bV,bn,bW,bz⟩ bD
 have bg:=wDL hm ak bD
 try dsimp only at bg
 have bl:Hid (¬ ((↑(((↑p0.length:Int):Int) - 0).toNat:Int) < (↑p0.length:Int))):=zH (wAp)
 refine sR fL1 Z (oR Z (zU Z bp bn) (eN (zG (cF Z bl (ZJ (zX (zX (ZB (zI (sR fL1 Z (oA Z Z (eN (zP ?_)))))))))))))
 cases bg
 exact ⟨Z,_,(zw Z),bQ,_,bz,Z,Z⟩
theorem wCy (p0:List wAF) (ae:Option Addr) (ah:Nat) (p1:(wAF->Option Bool)) (ai:Value) (w:World) (φ:PHeap) (hS:St0 w φ []) (au:SlR φ wFr ae ah p0) (av:FnOK Tryz.prog φ ai wLG wLH p1) {r:Bool} (hm:wAl p0 p1=some r):Gv Tryz.prog 239 [.slice ae p0.length ah,ai] w (wCM w [] φ (fun φ_ L_ v=>v=.bool r/\L_=[])):=by
 unfold wAl at hm
 refine Gv.of Tryz.func239 Z Tryz.ntmps239 Tryz.results239 Z (sR fL1 Z (oA Z Z (eN (sR gAx Z (oM Z Z (oM Z Z (bnK hm fun x1 h2 aw=>zM 0 Z Z Z Z (zL Z Z Tryz.call36 (zC Z (zC Z zQ)) Z) hS (fun hs=>wBv p0 ae ah p1 ai w φ hs au av h2) (.inr Z) ?_)))))))
 rintro aj L5 v6 W7 aU aq ⟨rfl,rfl⟩
 have ap:sW w φ aj [] W7:=aq
 refine oR Z (yb Z Z Z) (oA Z Z (eN (zP ?_)))
 cases aw
 exact ⟨Z,_,(zw Z),aj,_,ap,Z,Z⟩
theorem wDd (p0:List wAF) (ak:Option Addr) (am:Nat) (p1:(wAF->Option Bool)) (ah:Value) (w:World) (φ:PHeap) (hS:St0 w φ []) (bd:SlR φ wFr ak am p0) (aq:FnOK Tryz.prog φ ah wLG wLH p1) {r:Bool} (hm:wBL p0 p1=some r):Gv Tryz.prog 166 [.slice ak p0.length am,ah] w (wCM w [] φ (fun φ_ L_ v=>v=.bool r/\L_=[])):=by
 unfold wBL at hm
 refine Gv.of Tryz.func166 Z Tryz.ntmps166 Tryz.results166 Z (sR gAi Z (Za (cs:=[ah]) Z Z Z Z Z Z (FnOK.cells aq) hS ?_))
 intro W1 b2 aZ
 have q:=aZ.freeze (k:=0) rfl
 obtain ⟨aj,au,ab,ba⟩:=q
 replace ab:=Cl.of ab
 have bb:sW w φ aj [] W1:=ba
 replace ab:Cl aj b2 0 [ah]:=ab
 refine oA Z Z (eN (sR gAx Z (oM Z Z (oR Z (yc Z zQ (zC Z zQ)) ?_))))
 have az:=bd.le au
 have aU:=aq.le au
 have aW:FnOK Tryz.prog aj (.func (.func 240) #[] #[.pointer (some ⟨b2,0,none⟩)]) wLG wLH (fun x=>wAz x p1):=⟨240,[],[.pointer (some ⟨b2,0,none⟩)],rfl,Tryz.call240,fun bg w1 x y vs le hs ha hm=>by obtain ⟨pA_0_1,pc_0_1,pA_0_2,pc_0_2,rfl,hq0_0,hq0_1⟩:=ha;exact wEf x pA_0_1 pc_0_1 pA_0_2 pc_0_2 p1 b2 ah w1 bg hs hq0_0 hq0_1 (ab.le le) (aU.le le) hm⟩
 refine bnK hm fun bk aV be=>zM 0 Z Z Z Z (zL Z Z Tryz.call239 (zC Z (zC Z zQ)) Z) bb (fun hs=>wCy p0 ak am (fun x=>wAz x p1) (.func (.func 240) #[] #[.pointer (some ⟨b2,0,none⟩)]) W1 aj hs az aW aV) (.inr Z) ?_
 rintro av bh bj aw bi aX ⟨rfl,rfl⟩
 have aY:sW w φ av [] aw:=aX
 refine oR Z (ZW Z Z) (oA Z Z (eN (zP ?_)))
 cases be
 exact ⟨Z,_,(zw Z),av,_,aY,Z,Z⟩
theorem wIm (p0:wAF) (ae:Option Addr) (ah:Nat) (ak:Option Addr) (am:Nat) (w:World) (φ:PHeap) (hS:St0 w φ []) (bb:Sl φ 1 ae ah p0.Classes.length (nA KL.encI p0.Classes)) (bk:SlR φ wGN ak am p0.Legs) {r:Bool} (hm:wCo p0=some r):Gv Tryz.prog 168 [.agg #[jV p0.Bib,.slice ae p0.Classes.length ah,.slice ak p0.Legs.length am]] w (wCM w [] φ (fun φ_ L_ v=>v=.bool r/\L_=[])):=by
 unfold wCo at hm
 refine Gv.of Tryz.func168 Z Tryz.ntmps168 Tryz.results168 Z (sR gAi Z ?_)
 let B0:List Value:=[jV p0.Bib,.slice ae p0.Classes.length ah,.slice ak p0.Legs.length am]
 refine Za (cs:=B0) rfl rfl rfl rfl rfl rfl (by rfl) hS ?_
 intro W1 b2 av
 refine oA Z Z (eN (sR (.fl 0 (.fl 1 (.fx 2 (fC3_5 gAm) .stop))) Z (oR Z (zD Z Z zZ Z zF) (oL Z (av.ldB (j:=0) Z Z Z zK (v:=jV p0.Bib) Z) (bnK hm fun x5 h6 bg=>zM 0 Z Z Z Z (zL Z Z yN (zC Z (zC Z (zC Z zQ))) Z) av (fun hs=>wDC p0.Bib 1 999 W1 φ hs h6) (.inr Z) ?_)))))
 rintro ap L9 bm aq bh aY ⟨rfl,rfl⟩
 have aj:sW w φ ap [.blk b2 73 B0] aq:=aY
 refine oM Z Z (ifc bg ?_ ?_)
 intro ab bd
 refine zj Z Z Z (zO Z Z (congrArg nD ab.out)) (fun _=>zD Z Z zZ Z zW) (ZM Z Z Z (zO Z Z (congrArg nD ab.out)) (aj.ldB (j:=0) Z Z Z zm (v:=.slice ae p0.Classes.length ah) Z) Z ?_)
 have aV:=bb.le bh
 refine bnK bd fun bp aW be=>zM 0 Z Z Z (zO Z Z (congrArg nD ab.out)) (zL Z Z Tryz.call112 (zC Z zQ) Z) aj (fun hs=>wFW p0.Classes ae ah aq ap hs aV aW) (.inr Z) ?_
 rintro aw bi bn aU bl aZ ⟨rfl,rfl⟩
 have ba:sW w φ aw [.blk b2 73 B0] aU:=aZ
 refine oR Z (zh Z (congrArg nD ab.out) Z) (oA Z Z (eN (zP ?_)))
 have hE:=nB be;first | subst r | cases hE
 exact ⟨rfl,_,(zw rfl),aw,_,(ba.pick [] _ (by decide) rfl),rfl,rfl⟩
 intro ab bf
 refine zJ Z Z Z (zr Z Z (congrArg nD (nE.2 ab.out)) Z) (zJ Z Z Z (zr Z Z (congrArg nD (nE.2 ab.out)) Z) (yW Z Z Z (zr Z Z (congrArg nD (nE.2 ab.out)) Z) (oR Z (zk Z (congrArg nD (nE.2 ab.out)) Z) (oA Z Z (eN (zP ?_))))))
 have hE:=nB bf;first | subst r | cases hE
 exact ⟨rfl,_,(zw rfl),ap,_,(aj.pick [] _ (by decide) rfl),rfl,rfl⟩
theorem wDT {S E:Type} (PY:S->PHeap->List Res->Prop) (PE:E->PHeap->List Res->Prop) (f:S->(wAF × wAG)->Option (S ⊕ E)) (y:Nat) (s0:S) (p1:wAL) (bP:Nat) (bO:Option Addr) (bQ:Nat) (au:Option Addr) (av:Nat) (w:World) (L:List Res) (φ:PHeap) (hS:St ⟨w,L,φ⟩ φ L w) (hP:PY s0 φ L) (hY:YOK Tryz.prog y wRM PY PE f φ) (da:Cl φ bP 0 [.slice bO p1.Rules.Classes.length bQ,jV p1.Rules.Each,jV p1.Rules.Laps,jV p1.Rules.Spare,jV p1.Rules.Loop,jV p1.Rules.Unused,jV p1.Start,.slice au p1.Teams.length av]) (d7:Sl φ 1 bO bQ p1.Rules.Classes.length (nA KL.encI p1.Rules.Classes)) (db:SlR φ wFr au av p1.Teams) {r:S ⊕ E} (hm:wBZ f s0 p1=some r):Gv Tryz.prog 241 [.func (.yield y) #[] #[],.pointer (some ⟨bP,0,none⟩)] w (ItS w L φ PY PE r):=by
 unfold wBZ at hm
 refine Gv.of Tryz.func241 Z Tryz.ntmps241 Tryz.results241 Z (sR fL4 Z (oR Z (zD Z Z zV Z ZL) (oL Z (hS.ldC (f:=7) da (v:=.slice au p1.Teams.length av) Z Z Zh Z) (oR Z (zd Z Z zt) (oM Z Z (eN (zR ?_)))))))
 have q:=wCc hm
 obtain ⟨d9,bm⟩:=q
 have q:=wCj bm
 obtain ⟨br,dm⟩:=q
 replace br:=zH br
 refine yG (fun ah bS σ_ w_=>∃ (φ_:PHeap) (aq:List Res),σ_ 10=jV (↑ah:Int)/\σ_ 0=.func (.yield y) #[] #[]/\σ_ 8=.slice au p1.Teams.length av/\σ_ 9=jV (↑p1.Teams.length:Int)/\PHeap.Le φ φ_/\St ⟨w,L,φ⟩ φ_ aq w_/\PY bS φ_ aq) dm ?_ ?_ ?_
 exact ⟨φ,L,Z,Z,Z,Z,(zS _),hS,hP⟩
 rintro ah bS eC eK dS bp ⟨be,aq,bh,cu,bB,bC,bu,bL,cK⟩ dC dg
 have bz:Hid ((↑ah:Int) < (↑p1.Teams.length:Int)):=zH (wBI bp)
 replace bp:=zH bp
 have dq:Hid (w64 ((↑ah:Int) + 1)=(↑(ah + 1):Int)):=zH (by have h1:=br.out;have h2:=bz.out;rw [wAU] <;> omega)
 refine sR fL1 Z (oR Z (zU Z bh bC) (eN (zG (cT Z bz (kN (zG (zR (sR gAv Z (bnK dC fun ab bH bt=>?_)))))))))
 have cL:=db.le bu
 have q:=cL.el (wAZ bH)
 obtain ⟨bY,dG,eh,cP,bj,dB⟩:=q
 obtain ⟨aY,bb,ak,am,rfl,cM,cN⟩:=dB
 replace bj:Cl be bY (dG + ah * 3) [jV ab.Bib,.slice aY ab.Classes.length bb,.slice ak ab.Legs.length am]:=bj
 refine oR Z (ZH Z bB cP bh zt zy (wBT bH)) (oL Z (bL.ldCA (f:=0) bj Z Z Zy zy (us:=[jV ab.Bib,.slice aY ab.Classes.length bb,.slice ak ab.Legs.length am]) Z Z) ?_)
 let B0:List Value:=[jV 0,.slice none 0 0,.slice none 0 0]
 refine ZD (cs:=B0) Z Z Z Z Z Zi Z bL ?_
 intro dT ai cY
 let B1:List Value:=[jV ab.Bib,.slice aY ab.Classes.length bb,.slice ak ab.Legs.length am]
 refine zx (j:=0) (vs:=B1) Z Z Z Z cY Z Z Z Z zy (zA Z) Z Z Z ?_
 intro bX cZ
 have bM:St ⟨w,L,φ⟩ be (.blk ai 73 B1 :: aq) bX:=cZ
 refine eN (sR fL4 Z (oR Z (zD Z Z zZ Z Ze) (oL Z (bM.ldB (j:=0) Z Z Z yD (v:=.slice ak ab.Legs.length am) Z) (oR Z (zd Z Z ZP) (oM Z Z (eN (zR ?_)))))))
 have q:=wCc bt
 obtain ⟨ef,bn⟩:=q
 have q:=wCj bn
 obtain ⟨bs,dp⟩:=q
 replace bs:=zH bs
 refine yG (fun aj bT σ_ w_=>∃ (φ_:PHeap) (aw:List Res),σ_ 17=jV (↑aj:Int)/\σ_ 0=.func (.yield y) #[] #[]/\σ_ 4=.pointer (some ⟨ai,0,none⟩)/\σ_ 8=.slice au p1.Teams.length av/\σ_ 9=jV (↑p1.Teams.length:Int)/\σ_ 10=jV (↑ah:Int)/\σ_ 15=.slice ak ab.Legs.length am/\σ_ 16=jV (↑ab.Legs.length:Int)/\PHeap.Le be φ_/\St ⟨w,L,φ⟩ φ_ (.blk ai 73 B1 :: aw) w_/\PY bT φ_ aw) dp ?_ ?_ ?_
 exact ⟨be,aq,Z,cu,Z,bB,bC,bh,Z,Z,(zS _),bM,cK⟩
 rintro aj bT eD eM dU bq ⟨bU,aw,bi,bD,bE,cw,cy,cz,bF,bG,aV,bN,cO⟩ dD dh
 have bA:Hid ((↑aj:Int) < (↑ab.Legs.length:Int)):=zH (wBI bq)
 replace bq:=zH bq
 have dr:Hid (w64 ((↑aj:Int) + 1)=(↑(aj + 1):Int)):=zH (by have h1:=bs.out;have h2:=bA.out;rw [wAU] <;> omega)
 refine sR fL1 Z (oR Z (zU Z bi bG) (eN (zG (cT Z bA (kN (zG (zR (sR gAv Z (bnK dD fun x91 bI dx=>?_)))))))))
 have bJ:=cN.le aV
 have q:=bJ.el (wAZ bI)
 obtain ⟨bZ,dH,eu,cQ,bk,dA⟩:=q
 obtain ⟨aW,aZ,aX,ba,rfl,cD,cE⟩:=dA
 replace bk:Cl bU bZ (dH + aj * 3) [jV x91.Skier,.slice aW x91.Loops.length aZ,.slice aX x91.Bouts.length ba]:=bk
 refine oR Z (ZH Z bF cQ bi ZP ZK (wBT bI)) (oL Z (bN.ldCA (f:=0) bk Z Z yI ZK (us:=[jV x91.Skier,.slice aW x91.Loops.length aZ,.slice aX x91.Bouts.length ba]) Z Z) (ZD (cs:=B0) Z Z Z Z Z Zc Z bN ?_))
 intro dP bg cR
 let B2:List Value:=[jV x91.Skier,.slice aW x91.Loops.length aZ,.slice aX x91.Bouts.length ba]
 refine zx (j:=0) (vs:=B2) Z Z Z Z cR Z Z Z Z ZK (zA Z) Z Z Z ?_
 intro bW cS
 have bl:St ⟨w,L,φ⟩ bU (.blk bg 76 B2 :: .blk ai 73 B1 :: aw) bW:=cS
 refine eN (sR (wDy gAg) Z (oM Z bD (oL Z (bl.ldBA (j:=1) Z Z bE Zy zy (vs:=B1) Z Z) (oL Z (bl.ldBA (j:=0) Z Z Z yI ZK (vs:=B2) Z Z) ?_))))
 have cG:=cM.le aV
 refine bnK dx fun dL cH aU=>OKS.yieldT 2 (a:=(ab,x91)) Z Z Z Z Z Z (zC Z (zC Z zQ)) bl hY (bu.trans aV) cO ⟨aY,bb,ak,am,aW,aZ,aX,ba,Z,cG,bJ,cD,cE⟩ cH Z ?_
 rintro bd bf dV bw dE bK az
 rcases dL with dI | dI
 try dsimp only at aU az
 obtain ⟨rfl,dy⟩:=az
 have cU:St ⟨w,L,φ⟩ bd (.blk bg 76 B2 :: .blk ai 73 B1 :: bf) bw:=bK
 refine oR Z (ZW Z Z) (eN (zu Z (Zf (ze (zI (rR fL2 Z (oR Z (ZC (zY Z bi Z) (congrArg (jV) dr.out)) (oM Z Z (zn ?_)))))))))
 obtain rfl:=nB aU
 exact zI ⟨Z,_,Z,⟨bd,bf,Z,bD,bE,cw,cy,cz,bF,bG,(aV.trans dE),(cU.drop 0),dy⟩⟩
 try dsimp only at aU az
 obtain ⟨rfl,dz⟩:=az
 have cV:St ⟨w,L,φ⟩ bd (.blk bg 76 B2 :: .blk ai 73 B1 :: bf) bw:=bK
 refine oR Z (ZW Z Z) (eN (ZG Z (zP (zg (zN ?_)))))
 have q:=wAW aU
 obtain ⟨dJ,dt,cg⟩:=q
 obtain rfl:=wBQ bt bn (dh dJ cg)
 refine zN (zg (zg (zN ?_)))
 have q:=wAW dt
 obtain ⟨dK,du,ci⟩:=q
 obtain rfl:=wBQ hm bm (dg dK ci)
 refine zN (zg ?_)
 cases du
 exact ⟨Z,_,(res0),bd,_,((cV.drop 1).drop 0),dz⟩
 rintro eG eI dQ ⟨dM,bV,cA,cj,dW,cm,cp,cq,dX,cr,dF,cW,cI⟩ de
 have dv:=wDL bt bn de
 have b5:Hid (¬ ((↑(((↑ab.Legs.length:Int):Int) - 0).toNat:Int) < (↑ab.Legs.length:Int))):=zH (wAp)
 refine sR fL1 Z (oR Z (zU Z cA cr) (eN (zG (cF Z b5 (ZJ (zX (zX (ZB (ze (zI (rR fL2 Z (oR Z (ZC (zY Z cq Z) (congrArg (jV) dq.out)) (oM Z Z (zn ?_))))))))))))))
 obtain rfl:=nB dv
 exact zI ⟨Z,_,Z,⟨dM,bV,Z,cj,cm,cp,(bu.trans dF),(cW.drop 0),cI⟩⟩
 rintro eH eJ dR ⟨dN,dO,cC,dY,dZ,ct,d8,cX,cJ⟩ df
 have dw:=wDL hm bm df
 have cd:Hid (¬ ((↑(((↑p1.Teams.length:Int):Int) - 0).toNat:Int) < (↑p1.Teams.length:Int))):=zH (wAp)
 refine sR fL1 Z (oR Z (zU Z cC ct) (eN (zG (cF Z cd (ZJ (zX (zX (ZB ?_))))))))
 cases dw
 exact ⟨Z,_,(res0),dN,_,cX,cJ⟩
theorem wDo (p0:wAL) (ae:Option Addr) (ai:Nat) (ah:Option Addr) (aj:Nat) (w:World) (φ:PHeap) (hS:St0 w φ []) (aU:Sl φ 1 ae ai p0.Rules.Classes.length (nA KL.encI p0.Rules.Classes)) (aV:SlR φ wFr ah aj p0.Teams) {r:Unit} (hm:wCN p0=some r):Gv Tryz.prog 169 [.agg #[.slice ae p0.Rules.Classes.length ai,jV p0.Rules.Each,jV p0.Rules.Laps,jV p0.Rules.Spare,jV p0.Rules.Loop,jV p0.Rules.Unused,jV p0.Start,.slice ah p0.Teams.length aj]] w (wCM w [] φ (fun φ_ L_ v=>∃ (b0:Nat),v=.func (.func 241) #[] #[.pointer (some ⟨b0,0,none⟩)]/\L_=[]/\Cl φ_ b0 0 [.slice ae p0.Rules.Classes.length ai,jV p0.Rules.Each,jV p0.Rules.Laps,jV p0.Rules.Spare,jV p0.Rules.Loop,jV p0.Rules.Unused,jV p0.Start,.slice ah p0.Teams.length aj])):=by
 unfold wCN at hm
 refine Gv.of Tryz.func169 Z Tryz.ntmps169 Tryz.results169 Z (sR gAi Z ?_)
 let B0:List Value:=[.slice ae p0.Rules.Classes.length ai,jV p0.Rules.Each,jV p0.Rules.Laps,jV p0.Rules.Spare,jV p0.Rules.Loop,jV p0.Rules.Unused,jV p0.Start,.slice ah p0.Teams.length aj]
 refine Za (cs:=B0) rfl rfl rfl rfl rfl rfl (by rfl) hS ?_
 intro W1 b2 av
 have q:=av.freeze (k:=0) rfl
 obtain ⟨ak,aW,ab,aw⟩:=q
 replace ab:=Cl.of ab
 have az:sW w φ ak [] W1:=aw
 replace ab:Cl ak b2 0 B0:=ab
 refine oA Z Z (eN (sR fL2 Z (oR Z (yc Z zQ (zC Z zQ)) (oA Z Z (eN (zP ?_))))))
 cases hm
 exact ⟨Z,_,(zw Z),ak,_,az,b2,Z,Z,ab⟩
theorem wIn (p0:Int) (w:World) (φ:PHeap) (hS:St0 w φ [])  {r:Bool} (hm:wCT p0=some r):Gv Tryz.prog 170 [jV p0] w (wCM w [] φ (fun φ_ L_ v=>v=.bool r/\L_=[])):=by
 unfold wCT at hm
 refine Gv.of Tryz.func170 Z Tryz.ntmps170 Tryz.results170 Z (sR fL1 Z (oA Z Z (eN (sR gAo Z (oM Z Z (bnK hm fun x1 h2 ak=>zM 0 Z Z Z Z (zL Z Z yN (zC Z (zC Z (zC Z zQ))) Z) hS (fun hs=>wDC p0 1 9000 w φ hs h2) (.inr Z) ?_))))))
 rintro ab L5 v6 W7 ap aj ⟨rfl,rfl⟩
 have ai:sW w φ ab [] W7:=aj
 refine oA Z Z (eN (zP ?_))
 have hE:=nB ak;first | subst r | cases hE
 exact ⟨Z,_,(zw Z),ab,_,ai,Z,Z⟩
theorem wEc (p0:List Bool) (az:Option Addr) (aU:Nat) (w:World) (φ:PHeap) (hS:St0 w φ []) (cg:Sl φ 1 az aU p0.length (nA KL.encT p0)) {r:wAd × Int} (hm:wCg p0=some r):Gv Tryz.prog 27 [.slice az p0.length aU] w (wCM w [] φ (fun φ_ L_ v=>v=.tuple #[.agg #[jV r.1.Spares,jV r.1.Loops,jV r.1.Unused],jV r.2]/\L_=[])):=by
 unfold wCg at hm
 refine Gv.of Tryz.func27 Z Tryz.ntmps27 Tryz.results27 Z (sR gAi Z ?_)
 let B0:List Value:=[jV 0,jV 0,jV 0]
 refine ZD (cs:=B0) Z Z Z Z Z Zw Z hS ?_
 intro W1 b2 bV
 refine oA Z Z (eN (zG (sR gAq Z (oM Z Z (oR Z (zd Z Z ZU) (bnK hm fun x5 h6 cz=>zM 0 Z Z Z Z (zL Z Z yN (zC Z (zC Z (zC Z zQ))) Z) bV (fun hs=>wDC (↑p0.length:Int) 5 8 W1 φ hs h6) (.inr Z) ?_))))))
 rintro am L9 cS bD cG bU ⟨rfl,rfl⟩
 have bt:sW w φ am [.blk b2 79 B0] bD:=bU
 refine oR Z (ZW Z Z) (eN (ifc cz ?_ ?_))
 intro aW bi
 refine zu (nC aW.out) (kN (sR fL1 Z (oA Z Z (eN (zG (sR fL3 Z (oM Z Z (oR Z (zd Z Z ZU) (oM Z Z (eN (zR ?_)))))))))))
 have q:=wCc bi
 obtain ⟨cR,bf⟩:=q
 have q:=wCj bf
 obtain ⟨bh,cm⟩:=q
 replace bh:=zH bh
 refine yG (fun ak bA σ_ w_=>∃ (φ_:PHeap),σ_ 15=jV (↑ak:Int)/\σ_ 0=.slice az p0.length aU/\σ_ 2=.pointer (some ⟨b2,0,none⟩)/\σ_ 4=jV bA/\σ_ 13=.slice az p0.length aU/\σ_ 14=jV (↑p0.length:Int)/\PHeap.Le am φ_/\sW w φ φ_ [.blk b2 79 B0] w_) cm ?_ ?_ ?_
 exact ⟨am,Z,Z,Z,Z,Z,Z,(zS _),bt⟩
 rintro ak bA cV cW cK bg ⟨aV,av,bm,aq,ba,bb,bd,bj,aw⟩ cE ci
 have bl:Hid ((↑ak:Int) < (↑p0.length:Int)):=zH (wBI bg)
 replace bg:=zH bg
 have bz:Hid (w64 ((↑ak:Int) + 1)=(↑(ak + 1):Int)):=zH (by have h1:=bh.out;have h2:=bl.out;rw [wAU] <;> omega)
 refine sR fL1 Z (oR Z (zU Z av bd) (eN (zG (cT Z bl (kN (zG (zR (sR fL3 Z (bnK cE fun cI bq cq=>?_)))))))))
 have bN:=cg.le cG
 have bO:=bN.le bj
 have q:=bO.el (fun _=>rfl) (wAZ bq)
 obtain ⟨cN,cQ,bQ,bR⟩:=q
 refine oR Z (ZH Z bb bQ av ZU ya (wBT bq)) (oL Z (aw.ldC (f:=0) bR (v:=.bool cI) Z Z Tryz.isAgg4 Z) (oA Z Z (eN (zG (sR fL2 Z (oM Z ba (oR Z (yQ Z Z Z) (eN (ifc cq ?_ ?_)))))))))
 intro aX cr
 refine cT Z aX (sR gAo Z (oR Z (Zd (pv:=[]) (z:=B0) (cs:=B0) Z wAa Zw wHt Z Z) (zx (j:=0) (vs:=B0) Z Z Z Z aw Z aq Z Z Zp (zA Z) Z Z Z ?_)))
 intro bE bW
 have bu:sW w φ aV [.blk b2 79 B0] bE:=bW
 refine oA Z Z (eN (zP (zN (zg (zN ?_)))))
 have q:=wAW cr
 obtain ⟨cH,ct,bK⟩:=q
 obtain rfl:=wBQ bi bf (ci cH bK)
 refine zN (zg (zN ?_))
 cases ct
 exact ⟨rfl,_,(wKl (rs:=[.cell 2 79,.tmp 3]) (vs:=[.agg B0.toArray,jV 8]) ⟨⟨_,aq,(wFD yd Zp (bu.blkAt (k:=0) rfl) (vs:=B0) rfl rfl)⟩,⟨rfl,trivial⟩⟩ rfl),aV,_,(bu.pick [] _ (by decide) rfl),rfl,rfl⟩
 intro aX cu
 refine cF Z aX (kN (sR fL1 Z (oM Z Z (eN (ifc cu ?_ ?_)))))
 intro aY cw
 refine ZG (congrArg nD aY.out) (rR fL3 Z (oM Z ba (oR Z (Zo Z Z Z) (oA Z Z (zn (ze (zI (rR fL2 Z (oR Z (ZC (zY Z av Z) (congrArg (jV) bz.out)) (oM Z Z (zn ?_)))))))))))
 obtain rfl:=nB cw
 exact zI ⟨Z,_,Z,⟨aV,Z,bm,aq,Z,bb,bd,bj,aw⟩⟩
 intro aY cy
 refine zu (congrArg nD (nE.2 aY.out)) (Zf (ze (zI (rR fL2 Z (oR Z (ZC (zY Z av Z) (congrArg (jV) bz.out)) (oM Z Z (zn ?_)))))))
 obtain rfl:=nB cy
 exact zI ⟨Z,_,Z,⟨aV,Z,bm,aq,ba,bb,bd,bj,aw⟩⟩
 rintro bk cX cL ⟨aj,bM,bn,au,bp,cO,bL,cP,bX⟩ cj
 have cA:=wDL bi bf cj
 have bJ:Hid (¬ ((↑(((↑p0.length:Int):Int) - 0).toNat:Int) < (↑p0.length:Int))):=zH (wAp)
 refine sR fL1 Z (oR Z (zU Z bM bL) (eN (zG (cF Z bJ (ZJ (zX (zX (ZB (zI (sR (wKd (.fx 5 (.fx 6 .nil .stop) .stop)) Z (oM Z bn (oR Z (zd Z Z ZU) (oR Z (Zo Z Z Z) (oM Z bp ?_))))))))))))))
 let B1:List Value:=[jV (w64 ((↑p0.length:Int) - 5)),jV bk,jV 0]
 refine oR Z (Zd (pv:=[(0,jV (w64 ((↑p0.length:Int) - 5))),(1,jV bk)]) (z:=B0) (cs:=B1) Z (wAN Z (wAN Z wAa)) Zw wHt Z Z) (ZD (cs:=B0) Z Z Z Z Z Zw Z bX ?_)
 intro cM ap bY
 refine zx (j:=0) (vs:=B1) Z Z Z Z bY Z Z Z Z Zp (zA Z) Z Z Z ?_
 intro bF bZ
 have be:sW w φ aj [.blk ap 79 B1,.blk b2 79 B0] bF:=bZ
 refine eN (zG (sR fL2 Z (oM Z bp (oR Z (yB Z Z Z) (eN (ifc cA ?_ ?_))))))
 intro aZ cC
 refine cT Z aZ (rR (wHQ (.fx 4 .nil .stop)) Z (oM Z bn (oR Z (zd Z Z ZU) (oR Z (Zo Z Z Z) (oR Z (zD Z Z Tryz.runUnderlying79 Z zF) (zx (j:=0) (vs:=[jV (w64 (8 - (↑p0.length:Int)))]) Z Z Z Z be Z Z Z Z zF (zA Z) Z Z Z ?_))))))
 intro bG b5
 let B2:List Value:=[jV (w64 ((↑p0.length:Int) - 5)),jV bk,jV (w64 (8 - (↑p0.length:Int)))]
 have bv:sW w φ aj [.blk ap 79 B2,.blk b2 79 B0] bG:=b5
 refine eN (sR gAo Z (oL Z (bv.ldBA (j:=0) Z Z Z yd Zp (vs:=B2) Z Z) (zx (j:=1) (vs:=B2) Z Z Z Z bv Z au Z Z Zp (zA Z) Z Z Z ?_)))
 intro bH cd
 have bw:sW w φ aj [.blk ap 79 B2,.blk b2 79 B2] bH:=cd
 refine oA Z Z (eN (zP ?_))
 cases cC
 exact ⟨rfl,_,(wKl (rs:=[.cell 2 79,.tmp 3]) (vs:=[.agg B2.toArray,jV 0]) ⟨⟨_,au,(wFD yd Zp (bw.blkAt (k:=1) rfl) (vs:=B2) rfl rfl)⟩,⟨rfl,trivial⟩⟩ rfl),aj,_,(bw.pick [] _ (by decide) rfl),rfl,rfl⟩
 intro aZ cD
 refine cF Z aZ (kN (sR gAo Z (oL Z (be.ldBA (j:=0) Z Z Z yd Zp (vs:=B1) Z Z) (zx (j:=1) (vs:=B1) Z Z Z Z be Z au Z Z Zp (zA Z) Z Z Z ?_))))
 intro bI bS
 have br:sW w φ aj [.blk ap 79 B1,.blk b2 79 B1] bI:=bS
 refine oA Z Z (eN (zP ?_))
 cases cD
 exact ⟨rfl,_,(wKl (rs:=[.cell 2 79,.tmp 3]) (vs:=[.agg B1.toArray,jV 0]) ⟨⟨_,au,(wFD yd Zp (br.blkAt (k:=1) rfl) (vs:=B1) rfl rfl)⟩,⟨rfl,trivial⟩⟩ rfl),aj,_,(br.pick [] _ (by decide) rfl),rfl,rfl⟩
 intro aW cp
 refine ZG (nF (aW.out)) (sR gAo Z (oR Z (Zd (pv:=[]) (z:=B0) (cs:=B0) Z wAa Zw wHt Z Z) (zx (j:=0) (vs:=B0) Z Z Z Z bt Z Z Z Z Zp (zA Z) Z Z Z ?_)))
 intro bC bT
 have bs:sW w φ am [.blk b2 79 B0] bC:=bT
 refine oA Z Z (eN (zP (zN ?_)))
 cases cp
 exact ⟨rfl,_,(wKl (rs:=[.cell 2 79,.tmp 3]) (vs:=[.agg B0.toArray,jV 2]) ⟨⟨_,rfl,(wFD yd Zp (bs.blkAt (k:=0) rfl) (vs:=B0) rfl rfl)⟩,⟨rfl,trivial⟩⟩ rfl),am,_,(bs.pick [] _ (by decide) rfl),rfl,rfl⟩
theorem wKO (p0:wAL) (aw:Option Addr) (az:Nat) (au:Option Addr) (av:Nat) (w:World) (φ:PHeap) (hS:St0 w φ []) (gc:Sl φ 1 aw az p0.Rules.Classes.length (nA KL.encI p0.Rules.Classes)) (mH:SlR φ wFr au av p0.Teams) {r:Int} (hm:wDb p0=some r):Gv Tryz.prog 89 [.agg #[.slice aw p0.Rules.Classes.length az,jV p0.Rules.Each,jV p0.Rules.Laps,jV p0.Rules.Spare,jV p0.Rules.Loop,jV p0.Rules.Unused,jV p0.Start,.slice au p0.Teams.length av]] w (wCM w [] φ (fun φ_ L_ v=>v=jV r/\L_=[])):=by
 unfold wDb at hm
 refine Go.KX.Gv.ofM Tryz.func89 Z Tryz.ntmps89 Tryz.results89 (zA Z) (sR gAj Z ?_)
 let B0:List Value:=[.slice aw p0.Rules.Classes.length az,jV p0.Rules.Each,jV p0.Rules.Laps,jV p0.Rules.Spare,jV p0.Rules.Loop,jV p0.Rules.Unused,jV p0.Start,.slice au p0.Teams.length av]
 refine Za (cs:=B0) rfl rfl rfl rfl rfl rfl (by rfl) hS ?_
 intro W1 b2 lv
 refine ZD (cs:=[jV 0]) Z Z Z Z Z Tryz.zeroValue37 Z lv ?_
 intro W5 b6 fP
 refine eN (sR gAq Z (oR Z (zD Z Z zV Z ZY) ?_))
 let B1:List Value:=[.slice aw p0.Rules.Classes.length az,jV p0.Rules.Each,jV p0.Rules.Laps,jV p0.Rules.Spare,jV p0.Rules.Loop,jV p0.Rules.Unused]
 refine oL Z (fP.ldBA (j:=1) Z Z Z yZ ZY (vs:=B1) Z Z) (bnK hm fun x9 jp mV=>zM 0 Z Z Z Z (zL Z Z Tryz.call109 (zC Z zQ) Z) fP (fun hs=>wGn p0.Rules aw az W5 φ hs gc jp) (.inr Z) ?_)
 rintro bU o9 qv d9 gv j7 ⟨rfl,rfl⟩
 let B2:Res:=.blk b6 37 [jV 0]
 have dv:sW w φ bU [B2,.blk b2 27 B0] d9:=j7
 refine oA Z Z (eN (zG (zR (sR fL3 Z (oM Z Z (oR Z (Zq Z Z Z) (oA Z Z (eN (ifc mV ?_ ?_)))))))))
 intro cU mX
 refine zu (ZI (fun h=>h cU.out)) (sR (wDy (.fx 3 (wVP (.fx 11 (wTu (.nil)) .stop)) .stop)) Z (oR Z (zD Z Z zV Z ZL) (oL Z (dv.ldB (j:=1) Z Z Z Zh (v:=.slice au p0.Teams.length av) Z) (oR Z (zd Z Z zt) (bnK mX fun qL jt m4=>zM 0 Z Z Z Z (zL Z Z yN (zC Z (zC Z (zC Z zQ))) Z) dv (fun hs=>wDC (↑p0.Teams.length:Int) 1 12 d9 bU hs jt) (.inr Z) ?_)))))
 rintro bu pg qy eh gy ls ⟨rfl,rfl⟩
 have cd:sW w φ bu [B2,.blk b2 27 B0] eh:=ls
 refine oR Z (ZW Z Z) (oM Z Z (ifc m4 ?_ ?_))
 intro aq m5
 refine zj Z Z Z (zO Z Z (nC aq.out)) (fun _=>zD Z Z zV Z ZL) (ZM Z Z Z (zO Z Z (nC aq.out)) (cd.ldB (j:=1) Z Z Z Zh (v:=.slice au p0.Teams.length av) Z) Z (zj Z Z Z (zO Z Z (nC aq.out)) (fun _=>zD Z Z zV Z ZY) (ZM Z Z Z (zO Z Z (nC aq.out)) (cd.ldBA (j:=1) Z Z Z yZ ZY (vs:=B1) Z Z) Z (zj Z Z Z (zO Z Z (nC aq.out)) (fun _=>yc Z (zC Z zQ) zQ) ?_))))
 have jv:=mH.le gv
 have ff:=jv.le gy
 have jx:=gc.le gv
 have fg:=jx.le gy
 have jX:FnOK Tryz.prog bu (.func (.func 167) #[.agg B1.toArray] #[]) wLG wLH (fun x=>wBY p0.Rules x):=⟨167,[.agg B1.toArray],[],rfl,Tryz.call167,fun bT w1 x y vs le hs ha hm=>by obtain ⟨pA_0_1,pc_0_1,pA_0_2,pc_0_2,rfl,hq0_0,hq0_1⟩:=ha;exact wGQ p0.Rules aw az x pA_0_1 pc_0_1 pA_0_2 pc_0_2 w1 bT hs (fg.le le) hq0_0 hq0_1 hm⟩
 refine bnK m5 fun qM jA m9=>zM 0 Z Z Z (zO Z Z (nC aq.out)) (zL Z Z Tryz.call166 (zC Z (zC Z zQ)) Z) cd (fun hs=>wDd p0.Teams au av (fun x=>wBY p0.Rules x) (.func (.func 167) #[.agg B1.toArray] #[]) eh bu hs ff jX jA) (.inr Z) ?_
 rintro bX pn qB eC gB lK ⟨rfl,rfl⟩
 have dx:sW w φ bX [B2,.blk b2 27 B0] eC:=lK
 refine zj Z Z Z (zO Z Z (nC aq.out)) (fun _=>ZW Z Z) (oR Z (zk Z (nC aq.out) Z) (oA Z Z (eN (ifc m9 ?_ ?_))))
 intro cX n5
 refine zu (nC cX.out) (sR (.fl 0 (.fl 1 (.fx 2 (wRq (.fx 7 (wQg (.nil)) .stop)) .stop))) Z (oR Z (zD Z Z zV Z zF) (oL Z (dx.ldB (j:=1) Z Z Z zK (v:=jV p0.Start) Z) (bnK n5 fun qN jC n7=>zM 0 Z Z Z Z (zL Z Z yN (zC Z (zC Z (zC Z zQ))) Z) dx (fun hs=>wDC p0.Start 0 36000 eC bX hs jC) (.inr Z) ?_))))
 rintro bv pp qC eD gD lR ⟨rfl,rfl⟩
 have dy:sW w φ bv [B2,.blk b2 27 B0] eD:=lR
 refine oR Z (ZW Z Z) (oM Z Z (ifc n7 ?_ ?_))
 intro aU od
 refine zj Z Z Z (zO Z Z (nC aU.out)) (fun _=>zD Z Z zV Z ZL) (ZM Z Z Z (zO Z Z (nC aU.out)) (dy.ldB (j:=1) Z Z Z Zh (v:=.slice au p0.Teams.length av) Z) Z ?_)
 have jH:=ff.le gB
 have ft:=jH.le gD
 have jY:FnOK Tryz.prog bv (.func (.func 168) #[] #[]) wLG wLH wCo:=⟨168,[],[],rfl,Tryz.call168,fun bT w1 x y vs le hs ha hm=>by obtain ⟨pA_0_1,pc_0_1,pA_0_2,pc_0_2,rfl,hq0_0,hq0_1⟩:=ha;exact wIm x pA_0_1 pc_0_1 pA_0_2 pc_0_2 w1 bT hs hq0_0 hq0_1 hm⟩
 refine bnK od fun qO jJ oh=>zM 0 Z Z Z (zO Z Z (nC aU.out)) (zL Z Z Tryz.call166 (zC Z (zC Z zQ)) Z) dy (fun hs=>wDd p0.Teams au av wCo (.func (.func 168) #[] #[]) eD bv hs ft jY jJ) (.inr Z) ?_
 rintro bY py qE eH gF me ⟨rfl,rfl⟩
 have dz:sW w φ bY [B2,.blk b2 27 B0] eH:=me
 refine zj Z Z Z (zO Z Z (nC aU.out)) (fun _=>ZW Z Z) (oR Z (zk Z (nC aU.out) Z) (oA Z Z (eN (ifc oh ?_ ?_))))
 intro da ou
 refine zu (nC da.out) (Zf (ze (zI (zG (sR gAf Z (oL Z (dz.ldBA (j:=1) Z Z Z Zt ZN (vs:=B0) Z Z) ?_))))))
 have jO:=fg.le gB
 have jP:=jO.le gD
 have fw:=jP.le gF
 have fy:=ft.le gF
 have q:=bnd ou
 obtain ⟨⟨⟩,jQ,gm⟩:=q
 try dsimp only at gm
 refine zM 0 Z Z Z Z (zL Z Z Tryz.call169 (zC Z zQ) Z) dz (fun hs=>wDo p0 aw az au av eH bY hs fw fy jQ) (.inr Z) ?_
 rintro ib pz qF iR gG mF ⟨eP,rfl,rfl,jR⟩
 have mG:sW w φ ib [B2,.blk b2 27 B0] iR:=mF
 refine eN (zR (yH fun cC ct=>?_))
 have dm:cC 1=.pointer (some ⟨b2,0,none⟩):=(ct 1).trans rfl
 have dp:cC 2=.pointer (some ⟨b6,0,none⟩):=(ct 2).trans rfl
 have jl:cC 51=.func (.func 241) #[] #[.pointer (some ⟨eP,0,none⟩)]:=(ct 51).trans rfl
 clear ct
 refine bnK gm fun gP mS cj=>?_
 have e8:=fw.le gG
 have e9:=fy.le gG
 refine CK.rangeY (S:=Unit) (E:=Int) (ar:=wRM) (PY:=(fun (_:Unit) (φ_:PHeap) (L_:List Res)=>L_=[B2,.blk b2 27 B0])) (PE:=(fun (o6:Int) (φ_:PHeap) (L_:List Res)=>L_=[.blk b6 37 [jV o6],.blk b2 27 B0])) (exO:=(fun _=>.ret)) (s0:=()) (rr:=gP) jl Tryz.call241 mG (by decide) (fun _ _ _ h=>by obtain ⟨_,_,_,_,_,_,_,_,rfl,_,_,_,_⟩:=h;rfl) (fun _=>.inl rfl) rfl (fun l w1 L1 PY' PE' bG bF bH=>wDT PY' PE' _ l _ p0 eP aw az au av w1 L1 ib bG bF bH jR e8 e9 mS) ?_ ?_
 rintro bs qr pV ⟨⟩ x146 qG qn bN pa o0 dF bB qg j6 jZ mI ge bQ bf
 obtain rfl:=jZ
 obtain ⟨gH,gL,gI,gM,bJ,bL,dJ,dR,rfl,p6,p7,oz,p8⟩:=mI
 replace bf:∀ t,bQ t=upd (upd cC 52 (.agg #[jV x146.1.Bib,.slice gH x146.1.Classes.length gL,.slice gI x146.1.Legs.length gM])) 53 (.agg #[jV x146.2.Skier,.slice bJ x146.2.Loops.length bL,.slice dJ x146.2.Bouts.length dR]) t:=bf
 have pN:bQ 52=.agg #[jV x146.1.Bib,.slice gH x146.1.Classes.length gL,.slice gI x146.1.Legs.length gM]:=(bf 52).trans ((wCb _ _ (by decide)).trans (wCe _ _ _))
 have iY:bQ 53=.agg #[jV x146.2.Skier,.slice bJ x146.2.Loops.length bL,.slice dJ x146.2.Bouts.length dR]:=(bf 53).trans (wCe _ _ _)
 have pO:bQ 1=.pointer (some ⟨b2,0,none⟩):=(bf 1).trans ((wCb _ _ (by decide)).trans ((wCb _ _ (by decide)).trans dm))
 have iZ:bQ 2=.pointer (some ⟨b6,0,none⟩):=(bf 2).trans ((wCb _ _ (by decide)).trans ((wCb _ _ (by decide)).trans dp))
 clear bf
 have j8:St bB bN [.obj bs dF,B2,.blk b2 27 B0] o0:=j6
 try dsimp only at ge
 refine rR gAj Z (ZD (cs:=[jV 0,.slice none 0 0,.slice none 0 0]) Z Z Z Z Z Zc Z j8 ?_)
 intro pD bD j9
 let B3:List Value:=[jV x146.2.Skier,.slice bJ x146.2.Loops.length bL,.slice dJ x146.2.Bouts.length dR]
 refine zx (j:=0) (vs:=B3) Z Z Z Z j9 Z Z iY Z ZK (zA Z) Z Z Z ?_
 intro ic k9
 have lc:St bB bN [.blk bD 76 B3,.obj bs dF,B2,.blk b2 27 B0] ic:=k9
 refine zn ⟨rfl,rfl,_,_,(lc.pick [1,0,2,3] [.obj bs dF,.blk bD 76 B3,B2,.blk b2 27 B0] (by decide) rfl),fun ef dG lh=>?_⟩
 have fz:St bB bN [.obj bs dG,.blk bD 76 B3,B2,.blk b2 27 B0] ef:=lh
 refine zR (sR gAq Z (oR Z (zD Z Z zz Z zW) (oL Z (fz.ldB (j:=1) Z Z Z zm (v:=.slice bJ x146.2.Loops.length bL) Z) ?_)))
 have jW:FnOK Tryz.prog bN (.func (.func 170) #[] #[]) wHd wJG wCT:=⟨170,[],[],rfl,Tryz.call170,fun bT w1 x y vs le hs ha hm=>by obtain rfl:=ha;exact wIn x w1 bT hs  hm⟩
 refine bnK ge fun x191 jq mW=>zM 0 Z Z Z Z (zL Z Z Tryz.call114 (zC Z (zC Z zQ)) Z) fz (fun hs=>wFG x146.2.Loops bJ bL wCT (.func (.func 170) #[] #[]) ef bN hs oz jW jq) (.inr Z) ?_
 rintro gW pb qw ie qh li ⟨rfl,rfl⟩
 have fA:St bB gW [.obj bs dG,.blk bD 76 B3,B2,.blk b2 27 B0] ie:=li
 refine oR Z (ZW Z Z) (eN (ifc mW ?_ ?_))
 intro cV mY
 refine zu (nC cV.out) (Zf (ze ?_))
 obtain rfl:=nB mY
 exact ⟨_,_,(fA.pick [0,2,3] _ (by decide) rfl),rfl,rfl⟩
 intro cV mZ
 refine ZG (nF (cV.out)) (sR (.fx 0 .nil .stop) Z (zx (j:=2) (vs:=[jV 3]) Z Z Z Z fA Z iZ Z Z yJ (zA Z) Z Z Z ?_))
 intro ig lj
 have lm:St bB gW [.obj bs dG,.blk bD 76 B3,.blk b6 37 [jV 3],.blk b2 27 B0] ig:=lj
 refine eN (zP (zg ?_))
 obtain rfl:=nB mZ
 exact ⟨_,_,(lm.pick [0,2,3] _ (by decide) rfl),rfl,rfl⟩
 rintro ai bV pe cR gw fB
 rcases gP with ⟨⟩ | gS
 try dsimp only at cj
 rintro rfl
 have fC:sW w φ bV [B2,.blk b2 27 B0,.obj ai (.deferred (some []))] cR:=fB
 refine ze (zI (zG (sR gAf Z (oL Z (fC.ldBA (j:=1) Z Z dm Zt ZN (vs:=B0) Z Z) ?_))))
 have fb:=e8.le gw
 have fc:=e9.le gw
 have q:=bnd cj
 obtain ⟨⟨⟩,jr,gg⟩:=q
 try dsimp only at gg
 refine zM 0 Z Z Z Z (zL Z Z Tryz.call169 (zC Z zQ) Z) fC (fun hs=>wDo p0 aw az au av cR bV hs fb fc jr) (.inr Z) ?_
 rintro gX pf qx ii gx ln ⟨eI,rfl,rfl,ju⟩
 have lq:sW w φ gX [B2,.blk b2 27 B0,.obj ai (.deferred (some []))] ii:=ln
 refine eN (zR (yH fun cz cq=>?_))
 have de:cz 1=.pointer (some ⟨b2,0,none⟩):=(cq 1).trans dm
 have df:cz 2=.pointer (some ⟨b6,0,none⟩):=(cq 2).trans dp
 have i6:cz 59=.func (.func 241) #[] #[.pointer (some ⟨eI,0,none⟩)]:=(cq 59).trans rfl
 clear cq
 refine bnK gg fun gQ mT cm=>?_
 have fd:=fb.le gx
 have fe:=fc.le gx
 refine CK.rangeY (S:=Unit) (E:=Int) (ar:=wRM) (PY:=(fun (_:Unit) (φ_:PHeap) (L_:List Res)=>L_=[B2,.blk b2 27 B0,.obj ai (.deferred (some []))])) (PE:=(fun (o7:Int) (φ_:PHeap) (L_:List Res)=>L_=[.blk b6 37 [jV o7],.blk b2 27 B0,.obj ai (.deferred (some []))])) (exO:=(fun _=>.ret)) (s0:=()) (rr:=gQ) i6 Tryz.call241 lq (by decide) (fun _ _ _ h=>by obtain ⟨_,_,_,_,_,_,_,_,rfl,_,_,_,_⟩:=h;rfl) (fun _=>.inl rfl) rfl (fun l w1 L1 PY' PE' bG bF bH=>wDT PY' PE' _ l _ p0 eI aw az au av w1 L1 gX bG bF bH ju fd fe mT) ?_ ?_
 rintro bi qt pW ⟨⟩ am qH qo bO ph o3 cu bj qi lu j4 mJ gf bR bg
 obtain rfl:=j4
 obtain ⟨cw,cy,dK,dS,dL,dT,dM,dU,rfl,p9,qa,qb,qc⟩:=mJ
 replace bg:∀ t,bR t=upd (upd cz 60 (.agg #[jV am.1.Bib,.slice cw am.1.Classes.length cy,.slice dK am.1.Legs.length dS])) 61 (.agg #[jV am.2.Skier,.slice dL am.2.Loops.length dT,.slice dM am.2.Bouts.length dU]) t:=bg
 have i7:bR 60=.agg #[jV am.1.Bib,.slice cw am.1.Classes.length cy,.slice dK am.1.Legs.length dS]:=(bg 60).trans ((wCb _ _ (by decide)).trans (wCe _ _ _))
 have i8:bR 61=.agg #[jV am.2.Skier,.slice dL am.2.Loops.length dT,.slice dM am.2.Bouts.length dU]:=(bg 61).trans (wCe _ _ _)
 have pP:bR 1=.pointer (some ⟨b2,0,none⟩):=(bg 1).trans ((wCb _ _ (by decide)).trans ((wCb _ _ (by decide)).trans de))
 have i9:bR 2=.pointer (some ⟨b6,0,none⟩):=(bg 2).trans ((wCb _ _ (by decide)).trans ((wCb _ _ (by decide)).trans df))
 clear bg
 have lw:St bj bO [.obj bi cu,B2,.blk b2 27 B0,.obj ai (.deferred (some []))] o3:=lu
 try dsimp only at gf
 refine sR gAj Z ?_
 let B4:List Value:=[jV 0,.slice none 0 0,.slice none 0 0]
 refine ZD (cs:=B4) Z Z Z Z Z Zi Z lw ?_
 intro pE bm lx
 let B5:List Value:=[jV am.1.Bib,.slice cw am.1.Classes.length cy,.slice dK am.1.Legs.length dS]
 refine zx (j:=0) (vs:=B5) Z Z Z Z lx Z Z i7 Z zy (zA Z) Z Z Z ?_
 intro ij ly
 have lz:St bj bO [.blk bm 73 B5,.obj bi cu,B2,.blk b2 27 B0,.obj ai (.deferred (some []))] ij:=ly
 refine eN (rR gAj Z (ZD (cs:=B4) Z Z Z Z Z Zc Z lz ?_))
 intro pF bE lA
 let B6:List Value:=[jV am.2.Skier,.slice dL am.2.Loops.length dT,.slice dM am.2.Bouts.length dU]
 refine zx (j:=0) (vs:=B6) Z Z Z Z lA Z Z i8 Z ZK (zA Z) Z Z Z ?_
 intro ik lB
 have lD:St bj bO [.blk bE 76 B6,.blk bm 73 B5,.obj bi cu,B2,.blk b2 27 B0,.obj ai (.deferred (some []))] ik:=lB
 refine zn ⟨rfl,rfl,_,_,(lD.pick [2,0,1,3,4,5] [.obj bi cu,.blk bE 76 B6,.blk bm 73 B5,B2,.blk b2 27 B0,.obj ai (.deferred (some []))] (by decide) rfl),fun eu dH lE=>?_⟩
 have dw:St bj bO [.obj bi dH,.blk bE 76 B6,.blk bm 73 B5,B2,.blk b2 27 B0,.obj ai (.deferred (some []))] eu:=lE
 refine zR (sR (wMe gAk) Z (oR Z (zD Z Z zz Z zF) (oL Z (dw.ldB (j:=1) Z Z Z zK (v:=jV am.2.Skier) Z) (oR Z (zD Z Z zZ Z zW) (oL Z (dw.ldB (j:=2) Z Z Z zm (v:=.slice cw am.1.Classes.length cy) Z) (oR Z (zd Z Z zB) (oR Z (Zo Z Z Z) (bnK gf fun x341 jw m6=>zM 0 Z Z Z Z (zL Z Z yN (zC Z (zC Z (zC Z zQ))) Z) dw (fun hs=>wDC am.2.Skier 0 (w64 ((↑am.1.Classes.length:Int) - 1)) eu bO hs jw) (.inr Z) ?_))))))))
 rintro gZ pi qz il qj lF ⟨rfl,rfl⟩
 have fD:St bj gZ [.obj bi dH,.blk bE 76 B6,.blk bm 73 B5,B2,.blk b2 27 B0,.obj ai (.deferred (some []))] il:=lF
 refine oR Z (ZW Z Z) (eN (ifc m6 ?_ ?_))
 intro cW m7
 refine zu (nC cW.out) (Zf (ze ?_))
 obtain rfl:=nB m7
 exact ⟨_,_,(fD.pick [0,3,4,5] _ (by decide) rfl),rfl,rfl⟩
 intro cW m8
 refine ZG (nF (cW.out)) (sR (.fx 0 .nil .stop) Z (zx (j:=3) (vs:=[jV 1]) Z Z Z Z fD Z i9 Z Z yJ (zA Z) Z Z Z ?_))
 intro im lG
 have lH:St bj gZ [.obj bi dH,.blk bE 76 B6,.blk bm 73 B5,.blk b6 37 [jV 1],.blk b2 27 B0,.obj ai (.deferred (some []))] im:=lG
 refine eN (zP (zg ?_))
 obtain rfl:=nB m8
 exact ⟨_,_,(lH.pick [0,3,4,5] _ (by decide) rfl),rfl,rfl⟩
 rintro ak bW pj cS gz fE
 rcases gQ with ⟨⟩ | gT
 try dsimp only at cm
 rintro rfl
 have fG:sW w φ bW [B2,.blk b2 27 B0,.obj ai (.deferred (some [])),.obj ak (.deferred (some []))] cS:=fE
 refine ze (zI (zG (sR gAf Z (oL Z (fG.ldBA (j:=1) Z Z de Zt ZN (vs:=B0) Z Z) ?_))))
 have fh:=fd.le gz
 have fj:=fe.le gz
 have q:=bnd cm
 obtain ⟨⟨⟩,jy,gh⟩:=q
 try dsimp only at gh
 refine zM 0 Z Z Z Z (zL Z Z Tryz.call169 (zC Z zQ) Z) fG (fun hs=>wDo p0 aw az au av cS bW hs fh fj jy) (.inr Z) ?_
 rintro g8 pm qA io gA lI ⟨eJ,rfl,rfl,jz⟩
 have lJ:sW w φ g8 [B2,.blk b2 27 B0,.obj ai (.deferred (some [])),.obj ak (.deferred (some []))] io:=lI
 refine eN (zR (yH fun cA cr=>?_))
 have dg:cA 1=.pointer (some ⟨b2,0,none⟩):=(cr 1).trans de
 have dh:cA 2=.pointer (some ⟨b6,0,none⟩):=(cr 2).trans df
 have ja:cA 71=.func (.func 241) #[] #[.pointer (some ⟨eJ,0,none⟩)]:=(cr 71).trans rfl
 clear cr
 refine bnK gh fun gR mU cp=>?_
 have jB:=fh.le gA
 have fm:=fj.le gA
 refine CK.rangeY (S:=Unit) (E:=Int) (ar:=wRM) (PY:=(fun (_:Unit) (φ_:PHeap) (L_:List Res)=>L_=[B2,.blk b2 27 B0,.obj ai (.deferred (some [])),.obj ak (.deferred (some []))])) (PE:=(fun (o8:Int) (φ_:PHeap) (L_:List Res)=>L_=[.blk b6 37 [jV o8],.blk b2 27 B0,.obj ai (.deferred (some [])),.obj ak (.deferred (some []))])) (exO:=(fun _=>.ret)) (s0:=()) (rr:=gR) ja Tryz.call241 lJ (by decide) (fun _ _ _ h=>by obtain ⟨_,_,_,_,_,_,_,_,rfl,_,_,_,_⟩:=h;rfl) (fun _=>.inl rfl) rfl (fun l w1 L1 PY' PE' bG bF bH=>wDT PY' PE' _ l _ p0 eJ aw az au av w1 L1 g8 bG bF bH jz jB fm mU) ?_ ?_
 rintro ba qu pX ⟨⟩ ap qI qp bP po o5 dI bb qk lL j5 mK ci bS bh
 obtain rfl:=j5
 obtain ⟨gJ,gN,gK,gO,dN,dV,bK,bM,rfl,qd,qe,qf,oB⟩:=mK
 replace bh:∀ t,bS t=upd (upd cA 72 (.agg #[jV ap.1.Bib,.slice gJ ap.1.Classes.length gN,.slice gK ap.1.Legs.length gO])) 73 (.agg #[jV ap.2.Skier,.slice dN ap.2.Loops.length dV,.slice bK ap.2.Bouts.length bM]) t:=bh
 have pQ:bS 72=.agg #[jV ap.1.Bib,.slice gJ ap.1.Classes.length gN,.slice gK ap.1.Legs.length gO]:=(bh 72).trans ((wCb _ _ (by decide)).trans (wCe _ _ _))
 have jb:bS 73=.agg #[jV ap.2.Skier,.slice dN ap.2.Loops.length dV,.slice bK ap.2.Bouts.length bM]:=(bh 73).trans (wCe _ _ _)
 have jc:bS 1=.pointer (some ⟨b2,0,none⟩):=(bh 1).trans ((wCb _ _ (by decide)).trans ((wCb _ _ (by decide)).trans dg))
 have jd:bS 2=.pointer (some ⟨b6,0,none⟩):=(bh 2).trans ((wCb _ _ (by decide)).trans ((wCb _ _ (by decide)).trans dh))
 clear bh
 have lM:St bb bP [.obj ba dI,B2,.blk b2 27 B0,.obj ai (.deferred (some [])),.obj ak (.deferred (some []))] o5:=lL
 try dsimp only at ci
 refine rR gAj Z (ZD (cs:=[jV 0,.slice none 0 0,.slice none 0 0]) Z Z Z Z Z Zc Z lM ?_)
 intro pG be lN
 let B7:List Value:=[jV ap.2.Skier,.slice dN ap.2.Loops.length dV,.slice bK ap.2.Bouts.length bM]
 refine zx (j:=0) (vs:=B7) Z Z Z Z lN Z Z jb Z ZK (zA Z) Z Z Z ?_
 intro iq lO
 have lP:St bb bP [.blk be 76 B7,.obj ba dI,B2,.blk b2 27 B0,.obj ai (.deferred (some [])),.obj ak (.deferred (some []))] iq:=lO
 refine zn ⟨rfl,rfl,_,_,(lP.pick [1,0,2,3,4,5] [.obj ba dI,.blk be 76 B7,B2,.blk b2 27 B0,.obj ai (.deferred (some [])),.obj ak (.deferred (some []))] (by decide) rfl),fun ir bI lQ=>?_⟩
 have fH:St bb bP [.obj ba bI,.blk be 76 B7,B2,.blk b2 27 B0,.obj ai (.deferred (some [])),.obj ak (.deferred (some []))] ir:=lQ
 refine zR (sR fL4 Z (oR Z (zD Z Z zz Z Zx) (oL Z (fH.ldB (j:=1) Z Z Z yR (v:=.slice bK ap.2.Bouts.length bM) Z) (oR Z (zd Z Z Zg) (oM Z Z (eN (zR ?_)))))))
 have q:=wCc ci
 obtain ⟨qq,dA⟩:=q
 have q:=wCj dA
 obtain ⟨dD,mN⟩:=q
 replace dD:=zH dD
 refine yG (fun bq _ σ_ w_=>∃ (φ_:PHeap),σ_ 77=jV (↑bq:Int)/\σ_ 1=.pointer (some ⟨b2,0,none⟩)/\σ_ 2=.pointer (some ⟨b6,0,none⟩)/\σ_ 75=.slice bK ap.2.Bouts.length bM/\σ_ 76=jV (↑ap.2.Bouts.length:Int)/\PHeap.Le bP φ_/\St bb φ_ [.obj ba bI,.blk be 76 B7,B2,.blk b2 27 B0,.obj ai (.deferred (some [])),.obj ak (.deferred (some []))] w_) mN ?_ ?_ ?_
 exact ⟨bP,Z,jc,jd,Z,Z,(zS _),fH⟩
 rintro bq ⟨⟩ qP qS it dB ⟨g9,dq,je,eU,eV,eW,gC,fJ⟩ gq mL
 try dsimp only at gq
 have eQ:Hid ((↑bq:Int) < (↑ap.2.Bouts.length:Int)):=zH (wBI dB)
 replace dB:=zH dB
 have mQ:Hid (w64 ((↑bq:Int) + 1)=(↑(bq + 1):Int)):=zH (by have h1:=dD.out;have h2:=eQ.out;rw [wAU] <;> omega)
 refine sR fL1 Z (oR Z (zU Z dq eW) (eN (zG (cT Z eQ (kN (zG (zR (sR fL3 Z (bnK gq fun dZ fq n8=>?_)))))))))
 have jD:=oB.le gC
 have q:=jD.el (wAZ fq)
 obtain ⟨iT,oW,qJ,jS,dt,oG⟩:=q
 obtain ⟨dO,dW,rfl,jE⟩:=oG
 replace dt:Cl g9 iT (oW + bq * 1) [.slice dO dZ.length dW]:=dt
 refine oR Z (ZH Z eV jS dq Zg yC (wBT fq)) (oL Z (fJ.ldC (f:=0) dt (v:=.slice dO dZ.length dW) Z Z yS Z) (oA Z Z (eN (sR (.fl 0 (.fx 1 (wRp (.fx 5 gAk .stop)) .stop)) Z (oM Z Z ?_)))))
 have q:=bnd n8
 obtain ⟨⟨bt,d7⟩,jG,gi⟩:=q
 try dsimp only at gi
 refine zM 0 Z Z Z Z (zL Z Z Tryz.call27 (zC Z zQ) Z) fJ (fun hs=>wEc dZ dO dW it g9 hs jE jG) (.inr Z) ?_
 rintro cD pq qD iu oP lS ⟨rfl,rfl⟩
 have lT:St bb cD [.obj ba bI,.blk be 76 B7,B2,.blk b2 27 B0,.obj ai (.deferred (some [])),.obj ak (.deferred (some []))] iu:=lS
 refine oM Z Z (oR Z (ZX Z Z (v:=.agg #[jV bt.Spares,jV bt.Loops,jV bt.Unused]) Z) (oR Z (ZX Z Z (v:=jV d7) Z) (ZD (cs:=[jV 0,jV 0,jV 0]) Z Z Z Z Z Zw Z lT ?_)))
 intro pH eK lU
 let B8:List Value:=[jV bt.Spares,jV bt.Loops,jV bt.Unused]
 refine zx (j:=0) (vs:=B8) Z Z Z Z lU Z Z Z Z Zp (zA Z) Z Z Z ?_
 intro iv lV
 have fK:St bb cD [.blk eK 79 B8,.obj ba bI,.blk be 76 B7,B2,.blk b2 27 B0,.obj ai (.deferred (some [])),.obj ak (.deferred (some []))] iv:=lV
 refine oA Z Z (eN (sR fL2 Z (oM Z Z (oR Z (Zq Z Z Z) (eN (ifc gi ?_ ?_))))))
 intro cY n9
 refine zu (ZI (fun h=>h cY.out)) (Zf (ze (zI (rR fL2 Z (oR Z (ZC (zY Z dq Z) (congrArg (jV) mQ.out)) (oM Z Z (zn ?_)))))))
 obtain rfl:=nB n9
 exact zI ⟨rfl,_,rfl,⟨cD,rfl,je,eU,eV,eW,(gC.trans oP),(fK.pick [1,2,3,4,5,6] _ (by decide) rfl)⟩⟩
 intro cY oa
 refine cT Z cY (sR gAf Z (oM Z Z (zx (j:=3) (vs:=[jV d7]) Z Z Z Z fK Z eU Z Z yJ (zA Z) Z Z Z ?_)))
 intro iw lW
 have lX:St bb cD [.blk eK 79 B8,.obj ba bI,.blk be 76 B7,.blk b6 37 [jV d7],.blk b2 27 B0,.obj ai (.deferred (some [])),.obj ak (.deferred (some []))] iw:=lW
 refine eN (zP (zg (zN ?_)))
 have q:=wAW oa
 obtain ⟨oY,oc,iX⟩:=q
 obtain rfl:=wBQ ci dA (mL oY iX)
 refine zN (zg (zg ?_))
 obtain rfl:=nB oc
 exact ⟨_,_,(lX.pick [1,3,4,5,6] _ (by decide) rfl),rfl,rfl⟩
 rintro ⟨⟩ qT pI ⟨qW,jm,pR,pS,pT,jf,ql,lY⟩ mM
 have gj:=wDL ci dA mM
 try dsimp only at gj
 have iV:Hid (¬ ((↑(((↑ap.2.Bouts.length:Int):Int) - 0).toNat:Int) < (↑ap.2.Bouts.length:Int))):=zH (wAp)
 refine sR fL1 Z (oR Z (zU Z jm jf) (eN (zG (cF Z iV (ZJ (zX (zX (ZB (ze ?_)))))))))
 obtain rfl:=nB gj
 exact ⟨_,_,(lY.pick [0,2,3,4,5] _ (by decide) rfl),rfl,rfl⟩
 rintro aY bw pu eG oU fL
 rcases gR with ⟨⟩ | gU
 try dsimp only at cp
 rintro rfl
 have lZ:sW w φ bw [B2,.blk b2 27 B0,.obj ai (.deferred (some [])),.obj ak (.deferred (some [])),.obj aY (.deferred (some []))] eG:=fL
 refine ze (zI (sR gAi Z (OKS.makeMap Z Z Z Z Z lZ ?_)))
 intro pJ aX fM
 have oH:=MpR.nil wHF wHe
 refine oA Z Z (eN (zG (sR fL4 Z (oR Z (zD Z dg zV Z ZL) (oL Z (fM.ldB (j:=2) Z Z Z Zh (v:=.slice au p0.Teams.length av) Z) (oR Z (zd Z Z zt) (oM Z Z (eN (zR (bnK cp fun qR mO oe=>?_))))))))))
 have q:=wBU mO
 obtain ⟨dE,mP⟩:=q
 replace dE:=zH dE
 refine CK.forN' (fun br gu σ_ w_=>∃ (φ_:PHeap) (bZ:Array MapEntry) (db:Nat),σ_ 94=jV (↑br:Int)/\σ_ 1=.pointer (some ⟨b2,0,none⟩)/\σ_ 2=.pointer (some ⟨b6,0,none⟩)/\σ_ 14=.map (some aX)/\σ_ 92=.slice au p0.Teams.length av/\σ_ 93=jV (↑p0.Teams.length:Int)/\PHeap.Le bw φ_/\sW w φ φ_ [.obj aX (.map bZ db),B2,.blk b2 27 B0,.obj ai (.deferred (some [])),.obj ak (.deferred (some [])),.obj aY (.deferred (some []))] w_/\MpR bZ wHF wHe gu) mP ?_ ?_ ?_
 exact ⟨bw,#[],0,Z,dg,dh,Z,Z,Z,(zS _),fM,oH⟩
 rintro br gu qQ qU pK dC ⟨cE,bZ,db,dr,jg,jh,eX,eY,eZ,gE,fN,jK⟩ oO
 have eR:Hid ((↑br:Int) < (↑p0.Teams.length:Int)):=zH (wBI dC)
 replace dC:=zH dC
 have mR:Hid (w64 ((↑br:Int) + 1)=(↑(br + 1):Int)):=zH (by have h1:=dE.out;have h2:=eR.out;rw [wAU] <;> omega)
 refine sR fL1 Z (oR Z (zU Z dr eZ) (eN (zG (cT Z eR (kN (zG (zR (sR gAv Z (bnK oO fun aW fu og=>?_)))))))))
 have jL:=fm.le oU
 have jM:=jL.le gE
 have q:=jM.el (wAZ fu)
 obtain ⟨iU,oX,qK,jU,du,oI⟩:=q
 obtain ⟨dP,dX,dQ,dY,rfl,pY,pZ⟩:=oI
 replace du:Cl cE iU (oX + br * 3) [jV aW.Bib,.slice dP aW.Classes.length dX,.slice dQ aW.Legs.length dY]:=du
 refine oR Z (ZH Z eY jU dr zt zy (wBT fu)) (oL Z (fN.ldCA (f:=0) du Z Z Zy zy (us:=[jV aW.Bib,.slice dP aW.Classes.length dX,.slice dQ aW.Legs.length dY]) Z Z) (ZD (cs:=[jV 0,.slice none 0 0,.slice none 0 0]) Z Z Z Z Z Zi Z fN ?_))
 intro pL eM l3
 let B9:List Value:=[jV aW.Bib,.slice dP aW.Classes.length dX,.slice dQ aW.Legs.length dY]
 refine zx (j:=0) (vs:=B9) Z Z Z Z l3 Z Z Z Z zy (zA Z) Z Z Z ?_
 intro iy l4
 have fO:sW w φ cE [.blk eM 73 B9,.obj aX (.map bZ db),B2,.blk b2 27 B0,.obj ai (.deferred (some [])),.obj ak (.deferred (some [])),.obj aY (.deferred (some []))] iy:=l4
 refine eN (rR (wDy (.fx 3 .nil .stop)) rfl (zf rfl rfl rfl rfl rfl eX (zj rfl rfl rfl rfl (fun _=>zD rfl rfl zZ rfl zF) (ZM rfl rfl rfl rfl (fO.ldB (j:=0) rfl rfl rfl zK (v:=jV aW.Bib) rfl) rfl (OKS.mapPut (x:=.tmp 98) (y:=.tmp 100) (j:=1) (mk:=wHF) (mv:=wHe) (a:=aW.Bib) (v:=true) rfl rfl rfl (by first | exact .inl rfl | exact .inr rfl) fO rfl rfl rfl rfl (wDH yM) wIl jK rfl ?_)))))
 intro eT eS iz oK l5
 have l6:sW w φ cE [.blk eM 73 B9,.obj aX (.map eT eS),B2,.blk b2 27 B0,.obj ai (.deferred (some [])),.obj ak (.deferred (some [])),.obj aY (.deferred (some []))] iz:=l5
 refine zn (ze (zI (rR fL2 Z (oR Z (ZC (zY Z dr Z) (congrArg (jV) mR.out)) (oM Z Z (zn ?_))))))
 cases og
 exact zI ⟨rfl,⟨cE,eT,eS,rfl,jg,jh,eX,eY,eZ,gE,(l6.pick [1,2,3,4,5,6] _ (by decide) rfl),oK⟩⟩
 rintro qV pM ⟨bz,bp,bn,jo,ji,b5,jj,pU,jk,qm,cg,jN⟩
 have iW:Hid (¬ ((↑(((↑p0.Teams.length:Int):Int) - 0).toNat:Int) < (↑p0.Teams.length:Int))):=zH (wAp)
 refine sR fL1 Z (oR Z (zU Z jo jk) (eN (zG (cF Z iW (ZJ (zX (zX (ZB (zI (zG (sR fL6 Z (oM Z jj (oL Z (cg.lenM (j:=0) (mk:=wHF) (mv:=wHe) Z Z Z (wDH yM) jN) (oR Z (zD Z ji zV Z ZL) (oL Z (cg.ldB (j:=2) Z Z Z Zh (v:=.slice au p0.Teams.length av) Z) (oR Z (zd Z Z zt) (oR Z (zU Z Z Z) (eN (ifc oe ?_ ?_)))))))))))))))))))
 intro cZ oj
 refine cT Z cZ (sR (.fx 0 .nil .stop) Z (zx (j:=1) (vs:=[jV 5]) Z Z Z Z cg Z b5 Z Z yJ (zA Z) Z Z Z ?_))
 intro iA l7
 let cG:Res:=.blk b6 37 [jV 5]
 have l8:sW w φ bz [.obj aX (.map bp bn),cG,.blk b2 27 B0,.obj ai (.deferred (some [])),.obj ak (.deferred (some [])),.obj aY (.deferred (some []))] iA:=l7
 refine eN (zP (zN (wEK (by first | exact .inl rfl | exact .inr rfl) (rbs:=[aY,ak,ai]) (L:=[.obj aX (.map bp bn),cG,.blk b2 27 B0]) (l8.pick [0,1,2,5,4,3] _ (by decide) rfl) fun iB ma=>?_)))
 have fQ:sW w φ bz [.obj aX (.map bp bn),cG,.blk b2 27 B0] iB:=ma
 cases oj
 exact ⟨_,(wFl (v:=jV 5) ⟨⟨_,b5,(wJB yO (fQ.blkAt (k:=1) rfl) rfl)⟩,trivial⟩),bz,_,(fQ.pick [] _ (by decide) rfl),rfl,rfl⟩
 intro cZ om
 refine cF Z cZ (kN (sR (.fx 0 .nil .stop) Z (zx (j:=1) (vs:=[jV 0]) Z Z Z Z cg Z b5 Z Z yJ (zA Z) Z Z Z ?_)))
 intro iC mb
 have mc:sW w φ bz [.obj aX (.map bp bn),B2,.blk b2 27 B0,.obj ai (.deferred (some [])),.obj ak (.deferred (some [])),.obj aY (.deferred (some []))] iC:=mb
 refine eN (zP (wEK (by first | exact .inl rfl | exact .inr rfl) (rbs:=[aY,ak,ai]) (L:=[.obj aX (.map bp bn),B2,.blk b2 27 B0]) (mc.pick [0,1,2,5,4,3] _ (by decide) rfl) fun iD md=>?_))
 have fR:sW w φ bz [.obj aX (.map bp bn),B2,.blk b2 27 B0] iD:=md
 cases om
 exact ⟨_,(wFl (v:=jV 0) ⟨⟨_,b5,(wJB yO (fR.blkAt (k:=1) rfl) rfl)⟩,trivial⟩),bz,_,(fR.pick [] _ (by decide) rfl),rfl,rfl⟩
 try dsimp only at cp
 rintro rfl
 let cH:Res:=.blk b6 37 [jV gU]
 have mf:sW w φ bw [cH,.blk b2 27 B0,.obj ai (.deferred (some [])),.obj ak (.deferred (some [])),.obj aY (.deferred (some []))] eG:=fL
 refine zg (zN (wEK (by first | exact .inl rfl | exact .inr rfl) (rbs:=[aY,ak,ai]) (L:=[cH,.blk b2 27 B0]) (mf.pick [0,1,4,3,2] _ (by decide) rfl) fun iE mg=>?_))
 have fS:sW w φ bw [cH,.blk b2 27 B0] iE:=mg
 have hE:=nB cp;first | subst r | cases hE
 exact ⟨_,(wFl (v:=jV gU) ⟨⟨_,dh,(wJB yO (fS.blkAt (k:=0) rfl) rfl)⟩,trivial⟩),bw,_,(fS.pick [] _ (by decide) rfl),rfl,rfl⟩
 try dsimp only at cm
 rintro rfl
 let cI:Res:=.blk b6 37 [jV gT]
 have mh:sW w φ bW [cI,.blk b2 27 B0,.obj ai (.deferred (some [])),.obj ak (.deferred (some []))] cS:=fE
 refine zg (zN (wEK (by first | exact .inl rfl | exact .inr rfl) (rbs:=[ak,ai]) (L:=[cI,.blk b2 27 B0]) (mh.pick [0,1,3,2] _ (by decide) rfl) fun iF mi=>?_))
 have fT:sW w φ bW [cI,.blk b2 27 B0] iF:=mi
 have hE:=nB cm;first | subst r | cases hE
 exact ⟨_,(wFl (v:=jV gT) ⟨⟨_,df,(wJB yO (fT.blkAt (k:=0) rfl) rfl)⟩,trivial⟩),bW,_,(fT.pick [] _ (by decide) rfl),rfl,rfl⟩
 try dsimp only at cj
 rintro rfl
 let cJ:Res:=.blk b6 37 [jV gS]
 have mj:sW w φ bV [cJ,.blk b2 27 B0,.obj ai (.deferred (some []))] cR:=fB
 refine zg (zN (wEK (by first | exact .inl rfl | exact .inr rfl) (rbs:=[ai]) (L:=[cJ,.blk b2 27 B0]) mj fun iG ml=>?_))
 have fU:sW w φ bV [cJ,.blk b2 27 B0] iG:=ml
 have hE:=nB cj;first | subst r | cases hE
 exact ⟨_,(wFl (v:=jV gS) ⟨⟨_,dp,(wJB yO (fU.blkAt (k:=0) rfl) rfl)⟩,trivial⟩),bV,_,(fU.pick [] _ (by decide) rfl),rfl,rfl⟩
 intro da oq
 refine ZG (nF (da.out)) (sR (.fx 0 .nil .stop) Z (zx (j:=0) (vs:=[jV 3]) Z Z Z Z dz Z Z Z Z yJ (zA Z) Z Z Z ?_))
 intro iH mn
 let cK:Res:=.blk b6 37 [jV 3]
 have mo:sW w φ bY [cK,.blk b2 27 B0] iH:=mn
 refine eN (zP (zg (zN (wEK (by first | exact .inl rfl | exact .inr rfl) (rbs:=[]) (L:=[cK,.blk b2 27 B0]) mo fun iI mp=>?_))))
 have fV:sW w φ bY [cK,.blk b2 27 B0] iI:=mp
 cases oq
 exact ⟨_,(wFl (v:=jV 3) ⟨⟨_,rfl,(wJB yO (fV.blkAt (k:=0) rfl) rfl)⟩,trivial⟩),bY,_,(fV.pick [] _ (by decide) rfl),rfl,rfl⟩
 intro aU ot
 refine zJ Z Z Z (zr Z Z (nF (aU.out)) Z) (zJ Z Z Z (zr Z Z (nF (aU.out)) Z) (yW Z Z Z (zr Z Z (nF (aU.out)) Z) (zJ Z Z Z (zr Z Z (nF (aU.out)) Z) (oR Z (zh Z (nF (aU.out)) Z) (oA Z Z (eN (ZG Z (sR (.fx 0 .nil .stop) Z (zx (j:=0) (vs:=[jV 3]) Z Z Z Z dy Z Z Z Z yJ (zA Z) Z Z Z ?_)))))))))
 intro iJ mq
 let cL:Res:=.blk b6 37 [jV 3]
 have mr:sW w φ bv [cL,.blk b2 27 B0] iJ:=mq
 refine eN (zP (zg (zN (wEK (by first | exact .inl rfl | exact .inr rfl) (rbs:=[]) (L:=[cL,.blk b2 27 B0]) mr fun iK ms=>?_))))
 have fW:sW w φ bv [cL,.blk b2 27 B0] iK:=ms
 cases ot
 exact ⟨_,(wFl (v:=jV 3) ⟨⟨_,rfl,(wJB yO (fW.blkAt (k:=0) rfl) rfl)⟩,trivial⟩),bv,_,(fW.pick [] _ (by decide) rfl),rfl,rfl⟩
 intro cX ow
 refine ZG (nF (cX.out)) (sR (.fx 0 .nil .stop) Z (zx (j:=0) (vs:=[jV 2]) Z Z Z Z dx Z Z Z Z yJ (zA Z) Z Z Z ?_))
 intro iL mu
 let cM:Res:=.blk b6 37 [jV 2]
 have mw:sW w φ bX [cM,.blk b2 27 B0] iL:=mu
 refine eN (zP (zg (zN (wEK (by first | exact .inl rfl | exact .inr rfl) (rbs:=[]) (L:=[cM,.blk b2 27 B0]) mw fun iM my=>?_))))
 have fY:sW w φ bX [cM,.blk b2 27 B0] iM:=my
 cases ow
 exact ⟨_,(wFl (v:=jV 2) ⟨⟨_,rfl,(wJB yO (fY.blkAt (k:=0) rfl) rfl)⟩,trivial⟩),bX,_,(fY.pick [] _ (by decide) rfl),rfl,rfl⟩
 intro aq ox
 refine zJ Z Z Z (zr Z Z (nF (aq.out)) Z) (zJ Z Z Z (zr Z Z (nF (aq.out)) Z) (zJ Z Z Z (zr Z Z (nF (aq.out)) Z) (zJ Z Z Z (zr Z Z (nF (aq.out)) Z) (zJ Z Z Z (zr Z Z (nF (aq.out)) Z) (yW Z Z Z (zr Z Z (nF (aq.out)) Z) (zJ Z Z Z (zr Z Z (nF (aq.out)) Z) (oR Z (zh Z (nF (aq.out)) Z) (oA Z Z (eN (ZG Z (sR (.fx 0 .nil .stop) Z (zx (j:=0) (vs:=[jV 2]) Z Z Z Z cd Z Z Z Z yJ (zA Z) Z Z Z ?_))))))))))))
 intro iN mz
 let cN:Res:=.blk b6 37 [jV 2]
 have mA:sW w φ bu [cN,.blk b2 27 B0] iN:=mz
 refine eN (zP (zg (zN (wEK (by first | exact .inl rfl | exact .inr rfl) (rbs:=[]) (L:=[cN,.blk b2 27 B0]) mA fun iO mB=>?_))))
 have fZ:sW w φ bu [cN,.blk b2 27 B0] iO:=mB
 cases ox
 exact ⟨_,(wFl (v:=jV 2) ⟨⟨_,rfl,(wJB yO (fZ.blkAt (k:=0) rfl) rfl)⟩,trivial⟩),bu,_,(fZ.pick [] _ (by decide) rfl),rfl,rfl⟩
 intro cU oy
 refine cT Z cU (sR gAf Z (oM Z Z (zx (j:=0) (vs:=[jV x9]) Z Z Z Z dv Z Z Z Z yJ (zA Z) Z Z Z ?_)))
 intro iP mC
 let cO:Res:=.blk b6 37 [jV x9]
 have mD:sW w φ bU [cO,.blk b2 27 B0] iP:=mC
 refine eN (zP (zg (zN (wEK (by first | exact .inl rfl | exact .inr rfl) (rbs:=[]) (L:=[cO,.blk b2 27 B0]) mD fun iQ mE=>?_))))
 have gb:sW w φ bU [cO,.blk b2 27 B0] iQ:=mE
 have hE:=nB oy;first | subst r | cases hE
 exact ⟨_,(wFl (v:=jV x9) ⟨⟨_,rfl,(wJB yO (gb.blkAt (k:=0) rfl) rfl)⟩,trivial⟩),bU,_,(gb.pick [] _ (by decide) rfl),rfl,rfl⟩
end Go.Proofs.YtglpalgiipahjaaGreat
namespace Go.Proofs.YtglpalgiipahjaaGreat
open Go.KL
set_option maxHeartbeats 4000000
theorem wEy (p0:wAL) (aX:Option Addr) (aY:Nat) (aq:Option Addr) (au:Nat) (w:World) (φ:PHeap) (hS:St0 w φ []) (dE:Sl φ 1 aX aY p0.Rules.Classes.length (nA KL.encI p0.Rules.Classes)) (cp:SlR φ wFr aq au p0.Teams) {r:(Option wDx) × Int} (hm:wCx p0=some r):Gv Tryz.prog 85 [.agg #[.slice aX p0.Rules.Classes.length aY,jV p0.Rules.Each,jV p0.Rules.Laps,jV p0.Rules.Spare,jV p0.Rules.Loop,jV p0.Rules.Unused,jV p0.Start,.slice aq p0.Teams.length au]] w (wCM w [] φ (fun φ_ L_ v=>match r.1 with | none=>v=.tuple #[.pointer none,jV r.2]/\L_=[] | some d=>∃ (b0:Nat) (A0p000:Option Addr) (c0p000:Nat) (A0p02:Option Addr) (c0p02:Nat) (A0p1:Option Addr) (c0p1:Nat) (cs0p1:List Value),v=.tuple #[.pointer (some ⟨b0,0,none⟩),jV r.2]/\L_=[.blk b0 179 [.slice A0p000 d.Race.Rules.Classes.length c0p000,jV d.Race.Rules.Each,jV d.Race.Rules.Laps,jV d.Race.Rules.Spare,jV d.Race.Rules.Loop,jV d.Race.Rules.Unused,jV d.Race.Start,.slice A0p02 d.Race.Teams.length c0p02,.slice A0p1 d.after.length c0p1],.row A0p1 c0p1 22 1 cs0p1]/\Sl φ_ 1 A0p000 c0p000 d.Race.Rules.Classes.length (nA KL.encI d.Race.Rules.Classes)/\SlR φ_ wFr A0p02 c0p02 d.Race.Teams/\RlL φ_ wGO d.after cs0p1)):=by
 unfold wCx at hm
 refine Gv.of Tryz.func85 Z Tryz.ntmps85 Tryz.results85 Z (sR (.fx 0 gAa .stop) Z ?_)
 let B0:List Value:=[.slice aX p0.Rules.Classes.length aY,jV p0.Rules.Each,jV p0.Rules.Laps,jV p0.Rules.Spare,jV p0.Rules.Loop,jV p0.Rules.Unused,jV p0.Start,.slice aq p0.Teams.length au]
 refine Za (cs:=B0) rfl rfl rfl rfl rfl rfl (by rfl) hS ?_
 intro W1 b2 dA
 refine oA Z Z (oA Z Z (eN (zG (sR gAo Z (oL Z (dA.ldBA (j:=0) Z Z Z Zt ZN (vs:=B0) Z Z) (bnK hm fun x5 h6 iH=>zM 0 Z Z Z Z (zL Z Z Tryz.call89 (zC Z zQ) Z) dA (fun hs=>wKO p0 aX aY aq au W1 φ hs dE cp h6) (.inr Z) ?_))))))
 rintro bM L9 jk dW cz gG ⟨rfl,rfl⟩
 have cj:sW w φ bM [.blk b2 27 B0] dW:=gG
 refine oA Z Z (eN (sR fL2 Z (oM Z Z (oR Z (Zq Z Z Z) (eN (ifc iH ?_ ?_))))))
 intro bR iv
 refine zu (ZI (fun h=>h bR.out)) (kN (sR gAq Z (oL Z (cj.ldBA (j:=0) Z Z Z Zt ZN (vs:=B0) Z Z) ?_)))
 let B1:List Value:=[.slice aX p0.Rules.Classes.length aY,jV p0.Rules.Each,jV p0.Rules.Laps,jV p0.Rules.Spare,jV p0.Rules.Loop,jV p0.Rules.Unused,jV p0.Start,.slice aq p0.Teams.length au,.slice none 0 0]
 refine zj rfl rfl rfl rfl (fun _=>Zd (pv:=[(0,.agg B0.toArray)]) (z:=[.slice none 0 0,jV 0,jV 0,jV 0,jV 0,jV 0,jV 0,.slice none 0 0,.slice none 0 0]) (cs:=B1) rfl (wAN rfl wAa) Tryz.zeroValue179 wQH rfl rfl) (Za (cs:=B1) rfl rfl rfl rfl rfl rfl (by rfl) cj ?_)
 intro i6 aZ dx
 refine oA Z Z (eN (zG (sR fL7 Z (oM Z Z (oR Z (ZQ Z Z) (oR Z (zD Z Z Zm Z ZN) (oR Z (zD Z Z zV Z ZL) (oL Z (dx.ldB (j:=0) Z Z Z Zh (v:=.slice aq p0.Teams.length au) Z) (oR Z (zd Z Z zt) (oM Z Z (eN (zR (bnK iv fun jy ip iF=>?_)))))))))))))
 have q:=wBU ip
 obtain ⟨cy,iq⟩:=q
 replace cy:=zH cy
 refine CK.forN' (fun aW bn σ_ w_=>∃ (φ_:PHeap) (bi:Option Addr) (bk:Nat) (bD:List Value),σ_ 29=jV (↑aW:Int)/\σ_ 5=.pointer (some ⟨aZ,0,none⟩)/\σ_ 27=.slice aq p0.Teams.length au/\σ_ 28=jV (↑p0.Teams.length:Int)/\PHeap.Le bM φ_/\sW w φ φ_ [.row bi bk 22 1 bD,.blk aZ 179 [.slice aX p0.Rules.Classes.length aY,jV p0.Rules.Each,jV p0.Rules.Laps,jV p0.Rules.Spare,jV p0.Rules.Loop,jV p0.Rules.Unused,jV p0.Start,.slice aq p0.Teams.length au,.slice bi bn.length bk],.blk b2 27 B0] w_/\RlL φ_ wGO bn bD) iq ?_ ?_ ?_
 have ig:=dx.nilrow 22 1
 exact ⟨bM,none,0,[],Z,Z,Z,Z,(zS _),ig,RlL.nil⟩
 rintro aW bn ju jE jb ct ⟨bL,bi,bk,bD,bZ,dm,dp,dq,dQ,dD,gw⟩ iN
 have cU:Hid ((↑aW:Int) < (↑p0.Teams.length:Int)):=zH (wBI ct)
 replace ct:=zH ct
 have it:Hid (w64 ((↑aW:Int) + 1)=(↑(aW + 1):Int)):=zH (by have h1:=cy.out;have h2:=cU.out;rw [wAU] <;> omega)
 refine sR fL1 Z (oR Z (zU Z bZ dq) (eN (zG (cT Z cU (kN (zG (zR (sR gAv Z (bnK iN fun ae du iG=>?_)))))))))
 have gx:=cp.le cz
 have gy:=gx.le dQ
 have q:=gy.el (wAZ du)
 obtain ⟨eP,iT,jp,gD,ci,iL⟩:=q
 obtain ⟨cC,cE,be,bf,rfl,ji,gz⟩:=iL
 replace ci:Cl bL eP (iT + aW * 3) [jV ae.Bib,.slice cC ae.Classes.length cE,.slice be ae.Legs.length bf]:=ci
 refine oR Z (ZH Z dp gD bZ zt zy (wBT du)) (oL Z (dD.ldCA (f:=0) ci Z Z Zy zy (us:=[jV ae.Bib,.slice cC ae.Classes.length cE,.slice be ae.Legs.length bf]) Z Z) ?_)
 let B2:List Value:=[jV 0,.slice none 0 0,.slice none 0 0]
 refine ZD (cs:=B2) Z Z Z Z Z Zi Z dD ?_
 intro jc am ii
 let B3:List Value:=[jV ae.Bib,.slice cC ae.Classes.length cE,.slice be ae.Legs.length bf]
 refine zx (j:=0) (vs:=B3) Z Z Z Z ii Z Z Z Z zy (zA Z) Z Z Z ?_
 intro eG ij
 let B4:Res:=.blk aZ 179 [.slice aX p0.Rules.Classes.length aY,jV p0.Rules.Each,jV p0.Rules.Laps,jV p0.Rules.Spare,jV p0.Rules.Loop,jV p0.Rules.Unused,jV p0.Start,.slice aq p0.Teams.length au,.slice bi bn.length bk]
 let B5:Res:=.row bi bk 22 1 bD
 have cm:sW w φ bL [.blk am 73 B3,B5,B4,.blk b2 27 B0] eG:=ij
 refine eN (sR fL6 Z (oM Z dm (oR Z (ZQ Z Z) (oR Z (zD Z Z Zm Z ZN) (oR Z (zD Z Z zV Z zF) (oL Z (cm.ldB (j:=2) Z Z Z zK (v:=jV p0.Start) Z) (oA Z Z (eN (sR fL1 Z (oA Z Z (eN (zG (sR fL4 Z (oR Z (zD Z Z zZ Z Ze) (oL Z (cm.ldB (j:=0) Z Z Z yD (v:=.slice be ae.Legs.length bf) Z) (oR Z (zd Z Z ZP) (oM Z Z (eN (zR ?_)))))))))))))))))))
 have q:=bnd iG
 obtain ⟨⟨jv,bg⟩,ik,dG⟩:=q
 try dsimp only at dG
 have q:=wBU ik
 obtain ⟨cu,il⟩:=q
 replace cu:=zH cu
 refine CK.forN' (fun ba (x106,bG) σ_ w_=>∃ (φ_:PHeap) (bq:Option Addr) (bs:Nat),σ_ 41=jV (↑ba:Int)/\σ_ 5=.pointer (some ⟨aZ,0,none⟩)/\σ_ 8=jV x106/\σ_ 9=.slice bq bG.length bs/\σ_ 27=.slice aq p0.Teams.length au/\σ_ 28=jV (↑p0.Teams.length:Int)/\σ_ 29=jV (↑aW:Int)/\σ_ 39=.slice be ae.Legs.length bf/\σ_ 40=jV (↑ae.Legs.length:Int)/\PHeap.Le bL φ_/\sW w φ φ_ [.blk am 73 B3,B5,B4,.blk b2 27 B0,.row bq bs 3 1 (nA KL.encI bG)] w_) il ?_ ?_ ?_
 have gF:=cm.nilrow 3 1
 exact ⟨bL,none,0,rfl,dm,rfl,rfl,dp,dq,bZ,rfl,rfl,(zS _),(gF.pick [1,2,3,4,0] _ (by decide) rfl)⟩
 rintro ba ⟨x106,bG⟩ jr jz iY cq ⟨bK,bq,bs,bY,eW,eX,eY,eZ,e8,e9,cV,cW,dM,dv⟩ dK
 try dsimp only at dK
 have cP:Hid ((↑ba:Int) < (↑ae.Legs.length:Int)):=zH (wBI cq)
 replace cq:=zH cq
 have ir:Hid (w64 ((↑ba:Int) + 1)=(↑(ba + 1):Int)):=zH (by have h1:=cu.out;have h2:=cP.out;rw [wAU] <;> omega)
 refine sR fL1 Z (oR Z (zU Z bY cW) (eN (zG (cT Z cP (kN (zG (zR (sR gAv Z (bnK dK fun ai dr iu=>?_)))))))))
 have fT:=gz.le dM
 have q:=fT.el (wAZ dr)
 obtain ⟨eH,iQ,jm,gA,cd,iI⟩:=q
 obtain ⟨bu,bv,bI,bJ,rfl,fU,fV⟩:=iI
 replace cd:Cl bK eH (iQ + ba * 3) [jV ai.Skier,.slice bu ai.Loops.length bv,.slice bI ai.Bouts.length bJ]:=cd
 refine oR Z (ZH Z cV gA bY ZP ZK (wBT dr)) (oL Z (dv.ldCA (f:=0) cd Z Z yI ZK (us:=[jV ai.Skier,.slice bu ai.Loops.length bv,.slice bI ai.Bouts.length bJ]) Z Z) (ZD (cs:=B2) Z Z Z Z Z Zc Z dv ?_))
 intro iZ aU gH
 let B6:List Value:=[jV ai.Skier,.slice bu ai.Loops.length bv,.slice bI ai.Bouts.length bJ]
 refine zx (j:=0) (vs:=B6) Z Z Z Z gH Z Z Z Z ZK (zA Z) Z Z Z ?_
 intro dX gI
 have dw:sW w φ bK [.blk aU 76 B6,.blk am 73 B3,B5,B4,.blk b2 27 B0,.row bq bs 3 1 (nA KL.encI bG)] dX:=gI
 refine eN (sR fL4 Z (oR Z (zD Z Z zz Z zW) (oL Z (dw.ldB (j:=0) Z Z Z zm (v:=.slice bu ai.Loops.length bv) Z) (oR Z (zd Z Z zB) (oM Z Z (eN (zR ?_)))))))
 have q:=bnd iu
 obtain ⟨⟨jw,jx⟩,im,dH⟩:=q
 try dsimp only at dH
 have q:=wBU im
 obtain ⟨cw,io⟩:=q
 replace cw:=zH cw
 refine CK.forN' (fun bd (x177,bb) σ_ w_=>∃ (φ_:PHeap) (bh:Option Addr) (bj:Nat),σ_ 48=jV (↑bd:Int)/\σ_ 5=.pointer (some ⟨aZ,0,none⟩)/\σ_ 8=jV x177/\σ_ 9=.slice bh bb.length bj/\σ_ 11=.pointer (some ⟨aU,0,none⟩)/\σ_ 27=.slice aq p0.Teams.length au/\σ_ 28=jV (↑p0.Teams.length:Int)/\σ_ 29=jV (↑aW:Int)/\σ_ 39=.slice be ae.Legs.length bf/\σ_ 40=jV (↑ae.Legs.length:Int)/\σ_ 41=jV (↑ba:Int)/\σ_ 47=jV (↑ai.Loops.length:Int)/\PHeap.Le bK φ_/\sW w φ φ_ [.blk aU 76 B6,.blk am 73 B3,B5,B4,.blk b2 27 B0,.row bh bj 3 1 (nA KL.encI bb)] w_) io ?_ ?_ ?_
 exact ⟨bK,bq,bs,Z,eW,eX,eY,Z,eZ,e8,e9,cV,cW,bY,Z,(zS _),dw⟩
 rintro bd ⟨x177,bb⟩ jt jA dY cr ⟨bw,bh,bj,bF,cX,fb,cY,bE,cZ,da,db,de,df,dg,bV,bH,bl⟩ dL
 try dsimp only at dL
 have cQ:Hid ((↑bd:Int) < (↑ai.Loops.length:Int)):=zH (wBI cr)
 replace cr:=zH cr
 have dF:Hid (w64 ((↑bd:Int) + 1)=(↑(bd + 1):Int)):=zH (by have h1:=cw.out;have h2:=cQ.out;rw [wAU] <;> omega)
 refine sR fL1 Z (oR Z (zU Z bF bV) (eN (zG (cT Z cQ (kN (zG (zR (sR fL2 Z (oM Z bF (oA Z Z (eN (sR fL8 Z (oM Z fb (oR Z (zD Z bE zz Z zW) (oL Z (bl.ldB (j:=0) Z Z Z zm (v:=.slice bu ai.Loops.length bv) Z) (oM Z Z (bnK dL fun az dt iw=>?_)))))))))))))))))
 have fW:=fU.le bH
 have q:=fW.el (fun _=>rfl) (wAZ dt)
 obtain ⟨jd,jj,gB,gE⟩:=q
 refine oR Z (ZH Z Z gB Z zB zF (wBT dt)) (oL Z (bl.ldC (f:=0) gE (v:=jV az) Z Z zK Z) (oR Z (zY Z Z Z) (oA Z Z (eN (zG (sR fL2 Z (oM Z Z (oR Z (yB Z Z Z) (eN (ifc iw ?_ ?_))))))))))
 intro bS iy
 refine cT Z bS (sR (wMe (.fx 6 (fC7_9 (.fx 10 (.fx 11 (.fl 12 .nil) .stop) .stop)) .stop)) Z (oR Z (zD Z bE zz Z Zx) (oL Z (bl.ldB (j:=0) Z Z Z yR (v:=.slice bI ai.Bouts.length bJ) Z) (oM Z Z (oR Z (Zo Z Z Z) (bnK iy fun cG b5 iz=>?_))))))
 have fY:=fV.le bH
 have q:=fY.el (wAZ b5)
 obtain ⟨eI,iR,jo,gC,cg,iJ⟩:=q
 obtain ⟨cA,cD,rfl,fZ⟩:=iJ
 replace cg:Cl bw eI (iR + (w64 ((↑bd:Int) - 1)).toNat * 1) [.slice cA cG.length cD]:=cg
 refine oR Z (Zj Z Z gC Z Zg yC (wDO b5) (wDV b5)) (oL Z (bl.ldC (f:=0) cg (v:=.slice cA cG.length cD) Z Z yS Z) ?_)
 have q:=bnd iz
 obtain ⟨⟨ah,x235⟩,gb,dI⟩:=q
 try dsimp only at dI
 refine zM 0 Z Z Z Z (zL Z Z Tryz.call27 (zC Z zQ) Z) bl (fun hs=>wEc cG cA cD dY bw hs fZ gb) (.inr Z) ?_
 rintro bz iW jl dZ iO gJ ⟨rfl,rfl⟩
 let B7:Res:=.row bh bj 3 1 (nA KL.encI bb)
 have gK:sW w φ bz [.blk aU 76 B6,.blk am 73 B3,B5,B4,.blk b2 27 B0,B7] dZ:=gJ
 refine oM Z Z (oR Z (ZX Z Z (v:=.agg #[jV ah.Spares,jV ah.Loops,jV ah.Unused]) Z) (oR Z (ZX Z Z (v:=jV x235) Z) (ZD (cs:=[jV 0,jV 0,jV 0]) Z Z Z Z Z Zw Z gK ?_)))
 intro i7 bC gL
 let B8:List Value:=[jV ah.Spares,jV ah.Loops,jV ah.Unused]
 refine zx (j:=0) (vs:=B8) Z Z Z Z gL Z Z Z Z Zp (zA Z) Z Z Z ?_
 intro bQ gM
 have gN:sW w φ bz [.blk bC 79 B8,.blk aU 76 B6,.blk am 73 B3,B5,B4,.blk b2 27 B0,B7] bQ:=gM
 refine oA Z Z (eN (yH fun av ap=>?_))
 have bW:av 5=.pointer (some ⟨aZ,0,none⟩):=(ap 5).trans cX
 have fc:av 8=jV (w64 (x177 + az)):=(ap 8).trans rfl
 have fd:av 9=.slice bh bb.length bj:=(ap 9).trans cY
 have fe:av 11=.pointer (some ⟨aU,0,none⟩):=(ap 11).trans bE
 have dh:av 13=.pointer (some ⟨bC,0,none⟩):=(ap 13).trans rfl
 have ff:av 27=.slice aq p0.Teams.length au:=(ap 27).trans cZ
 have fg:av 28=jV (↑p0.Teams.length:Int):=(ap 28).trans da
 have fh:av 29=jV (↑aW:Int):=(ap 29).trans db
 have fj:av 39=.slice be ae.Legs.length bf:=(ap 39).trans de
 have fm:av 40=jV (↑ae.Legs.length:Int):=(ap 40).trans df
 have fq:av 41=jV (↑ba:Int):=(ap 41).trans dg
 have ft:av 47=jV (↑ai.Loops.length:Int):=(ap 47).trans bV
 have fu:av 48=jV (↑bd:Int):=(ap 48).trans bF
 clear ap
 refine Zb ZT [3,3,1,3,3,3,3,3,1,3,3,1,3,3,3,3,3,1,3,3,3,3] fL22 (by kernel_rfl) ?_
 have bm:=gN.drew
 generalize hw_W268:({ bQ with drawn:=bQ.drawn + 1 }:World)=i8 at bm ⊢
 refine oM Z fc (oR Z (zD Z dh Tryz.runUnderlying79 Z zF) (oL Z (bm.ldB (j:=0) Z Z Z zK (v:=jV ah.Spares) Z) (oM Z bW (oR Z (ZQ Z Z) (oR Z (zD Z Z Zm Z ZN) (oR Z (zD Z Z zV Z ZY) (oR Z (zD Z Z ZE Z zF) (oL Z (bm.ldB (j:=4) Z Z Z zK (v:=jV p0.Rules.Spare) Z) (oR Z (Runs.mulw Z Z Z) (oR Z (zD Z dh Tryz.runUnderlying79 Z zF) (oL Z (bm.ldB (j:=0) Z Z Z zK (v:=jV ah.Loops) Z) (oM Z bW (oR Z (ZQ Z Z) (oR Z (zD Z Z Zm Z ZN) (oR Z (zD Z Z zV Z ZY) (oR Z (zD Z Z ZE Z zF) (oL Z (bm.ldB (j:=4) Z Z Z zK (v:=jV p0.Rules.Loop) Z) (oR Z (Runs.mulw Z Z Z) (oR Z (zY Z Z Z) (oR Z (zY Z Z Z) (oA Z Z (eN (rR gAy Z (oM Z fd (oM Z Z (ZF (pv:=[(0,jV (w64 ((w64 (x177 + az)) + (w64 ((w64 (ah.Spares * p0.Rules.Spare)) + (w64 (ah.Loops * p0.Rules.Loop)))))))]) (zs:=[jV 0]) (cs:=[jV (w64 ((w64 (x177 + az)) + (w64 ((w64 (ah.Spares * p0.Rules.Spare)) + (w64 (ah.Loops * p0.Rules.Loop))))))]) Z Z Z Z Z (wAN Z wAa) zB zF Zs Z Z Z Z Z bm ?_))))))))))))))))))))))))))
 intro d7 eJ gO
 let B9:Res:=.row (some ⟨eJ,0,none⟩) 1 3 1 (nA KL.encI [w64 ((w64 (x177 + az)) + (w64 ((w64 (ah.Spares * p0.Rules.Spare)) + (w64 (ah.Loops * p0.Rules.Loop)))))])
 have dy:sW w φ bz [B9,.blk bC 79 B8,.blk aU 76 B6,.blk am 73 B3,B5,B4,.blk b2 27 B0,B7] d7:=gO
 refine bnK dI fun dR gc iA=>Zu (j:=7) (enc:=KL.encI) (xs:=bb) (ys:=[w64 ((w64 (x177 + az)) + (w64 ((w64 (ah.Spares * p0.Rules.Spare)) + (w64 (ah.Loops * p0.Rules.Loop)))))]) (zs:=dR) rfl rfl rfl rfl rfl Zr wFU rfl rfl rfl rfl rfl rfl dy rfl rfl rfl (dy.srcR (j:=0) rfl (by decide) (wAK (f:=KL.encI) (sz:=1) (fun _=>rfl) [w64 ((w64 (x177 + az)) + (w64 ((w64 (ah.Spares * p0.Rules.Spare)) + (w64 (ah.Loops * p0.Rules.Loop)))))])) (fun _=>rfl) (fun _=>rfl) gc rfl ?_
 intro cI cR d8 gP
 have gQ:sW w φ bz [B9,.blk bC 79 B8,.blk aU 76 B6,.blk am 73 B3,B5,B4,.blk b2 27 B0,.row cI cR 3 1 (nA KL.encI dR)] d8:=gP
 refine oA Z Z (zn (ze (zI (rR fL2 Z (oR Z (ZC (zY Z fu Z) (congrArg (jV) dF.out)) (oM Z Z (zn ?_)))))))
 cases iA
 exact zI ⟨rfl,⟨bz,cI,cR,rfl,bW,rfl,rfl,fe,ff,fg,fh,fj,fm,fq,ft,(bH.trans iO),(gQ.pick [2,3,4,5,6,7] _ (by decide) rfl)⟩⟩
 intro bS iB
 refine cF Z bS (kN (rR gAy Z (oM Z cY (oM Z Z (ZF (pv:=[(0,jV (w64 (x177 + az)))]) (zs:=[jV 0]) (cs:=[jV (w64 (x177 + az))]) Z Z Z Z Z (wAN Z wAa) zB zF Zs Z Z Z Z Z bl ?_)))))
 intro d9 eK gR
 let cL:Res:=.row (some ⟨eK,0,none⟩) 1 3 1 (nA KL.encI [w64 (x177 + az)])
 have dz:sW w φ bw [cL,.blk aU 76 B6,.blk am 73 B3,B5,B4,.blk b2 27 B0,.row bh bj 3 1 (nA KL.encI bb)] d9:=gR
 refine bnK iB fun dS ge iC=>Zu (j:=6) (enc:=KL.encI) (xs:=bb) (ys:=[w64 (x177 + az)]) (zs:=dS) rfl rfl rfl rfl rfl Zr wFU rfl rfl rfl rfl rfl rfl dz rfl rfl rfl (dz.srcR (j:=0) rfl (by decide) (wAK (f:=KL.encI) (sz:=1) (fun _=>rfl) [w64 (x177 + az)])) (fun _=>rfl) (fun _=>rfl) ge rfl ?_
 intro cJ cS ef gS
 have gT:sW w φ bw [cL,.blk aU 76 B6,.blk am 73 B3,B5,B4,.blk b2 27 B0,.row cJ cS 3 1 (nA KL.encI dS)] ef:=gS
 refine oA Z Z (zn (ze (zI (rR fL2 Z (oR Z (ZC (zY Z bF Z) (congrArg (jV) dF.out)) (oM Z Z (zn ?_)))))))
 cases iC
 exact zI ⟨rfl,⟨bw,cJ,cS,rfl,cX,rfl,rfl,bE,cZ,da,db,de,df,dg,bV,bH,(gT.pick [1,2,3,4,5,6] _ (by decide) rfl)⟩⟩
 rintro jB i9 ⟨iU,dT,eQ,fQ,fw,fy,fz,je,fA,fB,fC,fD,fE,fG,fH,iP,gU⟩
 have eR:Hid (¬ ((↑(((↑ai.Loops.length:Int):Int) - 0).toNat:Int) < (↑ai.Loops.length:Int))):=zH (wAp)
 refine sR fL1 Z (oR Z (zU Z fQ fH) (eN (zG (cF Z eR (ZJ (zX (zX (ZB (ze (zI (rR fL2 Z (oR Z (ZC (zY Z fG Z) (congrArg (jV) ir.out)) (oM Z Z (zn ?_))))))))))))))
 cases dH
 exact zI ⟨rfl,⟨iU,dT,eQ,rfl,fw,fy,fz,fA,fB,fC,fD,fE,(dM.trans iP),(gU.pick [1,2,3,4,5] _ (by decide) rfl)⟩⟩
 rintro jC eh ⟨jG,bN,bT,fR,bX,jf,fJ,fK,fL,fM,jg,fN,dN,dB⟩
 have eS:Hid (¬ ((↑(((↑ae.Legs.length:Int):Int) - 0).toNat:Int) < (↑ae.Legs.length:Int))):=zH (wAp)
 refine sR fL1 Z (oR Z (zU Z fR fN) (eN (zG (cF Z eS (ZJ (zX (zX (ZB (zI (rR (wMe (.fx 6 (.fx 7 (.fl 8 (.fl 9 (.fx 10 .nil .stop))) .stop) .stop)) Z (oM Z bX (oM Z bX (oR Z (ZQ Z Z) (oR Z (zD Z Z Zm Z Zn) (oL Z (dB.ldB (j:=2) Z Z Z Zv (v:=.slice bi bn.length bk) Z) (oM Z fJ ?_))))))))))))))))
 have q:=dB.freezeR (k:=4) (n:=bg.length) rfl (wAK (f:=KL.encI) (sz:=1) (fun _=>rfl) bg) (by decide)
 obtain ⟨bp,dO,iM,gX⟩:=q
 have gZ:sW w φ bp [.blk am 73 B3,B5,B4,.blk b2 27 B0] eh:=gX
 let bA:List Value:=[.slice bN bg.length bT]
 refine ZF (pv:=[(0,.slice bN bg.length bT)]) (zs:=[.slice none 0 0]) (cs:=bA) Z Z Z Z Z (wAN Z wAa) ZO zW Tryz.zeroValue22 Z Z Z Z Z gZ ?_
 intro eu eM gW
 have dJ:RlL bp wGO [bg] bA:=(RlL.cons (R:=wGO) (x:=bg) (vs:=bA) ⟨bN,bT,rfl,iM⟩ RlL.nil)
 let bO:Res:=.row (some ⟨eM,0,none⟩) 1 22 1 bA
 have dC:sW w φ bp [bO,.blk am 73 B3,B5,B4,.blk b2 27 B0] eu:=gW
 refine bnK dG fun cH gf iD=>?_
 have gg:=gw.le dN
 have gh:=gg.le dO
 refine yF (R:=wGO) (j:=2) (xs:=bn) (ys:=[bg]) (zs:=cH) rfl rfl rfl rfl rfl Tryz.underlying46 wSM rfl rfl rfl rfl rfl rfl rfl dC rfl rfl rfl gh dJ (dC.srcR (j:=0) rfl (by decide) (RlL.len dJ)) gf rfl ?_
 intro br bt bU eC g8 iK
 have g9:sW w φ bp [bO,.blk am 73 B3,.row br bt 22 1 bU,B4,.blk b2 27 B0] eC:=g8
 refine oR Z (ZQ Z Z) (oR Z (zD Z Z Zm Z Zn) (zx (j:=3) (vs:=[.slice br cH.length bt]) Z Z Z Z g9 Z Z Z Z Zn (zA Z) Z Z Z ?_))
 intro eD ib
 have ic:sW w φ bp [bO,.blk am 73 B3,.row br bt 22 1 bU,.blk aZ 179 [.slice aX p0.Rules.Classes.length aY,jV p0.Rules.Each,jV p0.Rules.Laps,jV p0.Rules.Spare,jV p0.Rules.Loop,jV p0.Rules.Unused,jV p0.Start,.slice aq p0.Teams.length au,.slice br cH.length bt],.blk b2 27 B0] eD:=ib
 refine zn (ze (zI (rR fL2 Z (oR Z (ZC (zY Z fM Z) (congrArg (jV) it.out)) (oM Z Z (zn ?_))))))
 cases iD
 exact zI ⟨rfl,⟨bp,br,bt,bU,rfl,bX,fK,fL,((dQ.trans dN).trans dO),(ic.pick [2,3,4] _ (by decide) rfl),iK⟩⟩
 rintro jD ja ⟨iV,dU,eT,eU,fS,fO,jh,fP,dP,ie,gi⟩
 have eV:Hid (¬ ((↑(((↑p0.Teams.length:Int):Int) - 0).toNat:Int) < (↑p0.Teams.length:Int))):=zH (wAp)
 refine sR fL1 Z (oR Z (zU Z fS fP) (eN (zG (cF Z eV (ZJ (zX (zX (ZB (zI (sR fL3 Z (oM Z fO (oA Z Z (oA Z Z (eN (zP ?_)))))))))))))))
 have gj:=dE.le cz
 have gm:=gj.le dP
 have gq:=cp.le cz
 have gu:=gq.le dP
 cases iF
 exact ⟨rfl,_,(wNX rfl rfl),iV,_,(ie.pick [1,0] _ (by decide) rfl),aZ,aX,aY,aq,au,dU,eT,eU,rfl,rfl,gm,gu,gi⟩
 intro bR iE
 refine cT Z bR (sR fL3 Z (oM Z Z (oA Z Z (oA Z Z (eN (zP (zN ?_)))))))
 cases iE
 exact ⟨rfl,_,(wNX rfl rfl),bM,_,(cj.pick [] _ (by decide) rfl),rfl,rfl⟩
theorem wFJ (p0:List Int) (ae:Option Addr) (aq:Nat) (w:World) (φ:PHeap) (hS:St0 w φ []) (ap:Sl φ 1 ae aq p0.length (nA KL.encI p0)) {r:(List Int)} (hm:wCX p0=some r):Gv Tryz.prog 162 [.slice ae p0.length aq] w (wCM w [] φ (fun φ_ L_ v=>∃ (A0:Option Addr) (c0:Nat),v=.slice A0 r.length c0/\L_=[.row A0 c0 3 1 (nA KL.encI r)])):=by
 unfold wCX at hm
 refine Gv.of Tryz.func162 Z Tryz.ntmps162 Tryz.results162 Z (sR fL1 Z (oA Z Z (eN (zG (sR fL2 Z (oM Z Z (oR Z (Runs.eqNil Z Z Z zB) (eN ?_))))))))
 by_cases c1:ae.isNone=true
 replace c1:=zH c1
 have bb:p0=[]:=List.eq_nil_of_length_eq_zero (Sl.nilA (Option.isNone_iff_eq_none.1 c1.out ▸ ap))
 have ba:(some [])=some r:=by simpa [bb,app] using hm
 refine ZG (congrArg nD c1.out) (sR fL1 Z (oA Z Z (eN (zP (zN ?_)))))
 have aX:=hS.nilrow 3 1
 cases ba
 exact ⟨Z,_,(zw Z),φ,_,aX,none,0,Z,Z⟩
 replace c1:=zH c1
 refine zu (congrArg nD (nE.2 c1.out)) (kN (sR (.fx 0 gAl .stop) Z (OKS.buildSlice0 1 Z Z Z Z Z zB zF hS ?_)))
 intro W6 b7 aY
 have am:sW w φ φ [.row (some ⟨b7,0,none⟩) 0 3 1 (nA KL.encI ([]:List Int))] W6:=aY
 refine oM Z Z (bnK hm fun au aU aZ=>Zu (j:=0) (enc:=KL.encI) (xs:=([]:List Int)) (ys:=p0) (zs:=au) Z Z Z Z Z Zr wFU Z Z Z Z Z Z am Z Z Z (am.srcS ap) (fun _=>Z) (fun _=>Z) aU Z ?_)
 intro ai ak av aV
 have aW:sW w φ φ [.row ai ak 3 1 (nA KL.encI au)] av:=aV
 refine oA Z Z (eN (zP ?_))
 have hE:=nB aZ;first | subst r | cases hE
 exact ⟨Z,_,(zw Z),φ,_,aW,ai,ak,Z,Z⟩
theorem wDp (p0:wDx) (bf:Nat) (bd:Option Addr) (bg:Nat) (aW:Option Addr) (aX:Nat) (be:Option Addr) (bh:Nat) (w:World) (φ:PHeap) (hS:St0 w φ [.blk bf 179 [.slice bd p0.Race.Rules.Classes.length bg,jV p0.Race.Rules.Each,jV p0.Race.Rules.Laps,jV p0.Race.Rules.Spare,jV p0.Race.Rules.Loop,jV p0.Race.Rules.Unused,jV p0.Race.Start,.slice aW p0.Race.Teams.length aX,.slice be p0.after.length bh]]) (eZ:Sl φ 1 bd bg p0.Race.Rules.Classes.length (nA KL.encI p0.Race.Rules.Classes)) (dW:SlR φ wFr aW aX p0.Race.Teams) (dX:SlR φ wGO be bh p0.after) {r:wAM} (hm:wBM p0=some r):Gv Tryz.prog 86 [.pointer (some ⟨bf,0,none⟩)] w (wCM w [.blk bf 179 [.slice bd p0.Race.Rules.Classes.length bg,jV p0.Race.Rules.Each,jV p0.Race.Rules.Laps,jV p0.Race.Rules.Spare,jV p0.Race.Rules.Loop,jV p0.Race.Rules.Unused,jV p0.Race.Start,.slice aW p0.Race.Teams.length aX,.slice be p0.after.length bh]] φ (fun φ_ L_ v=>∃ (bV:Option Addr) (b5:Nat) (bW:Option Addr) (cd:Nat) (cj:List Value),v=.agg #[jV r.Laps,.slice bV r.Bibs.length b5,.slice bW r.Times.length cd]/\L_=[.row bV b5 3 1 (nA KL.encI r.Bibs),.row bW cd 22 1 cj,.blk bf 179 [.slice bd p0.Race.Rules.Classes.length bg,jV p0.Race.Rules.Each,jV p0.Race.Rules.Laps,jV p0.Race.Rules.Spare,jV p0.Race.Rules.Loop,jV p0.Race.Rules.Unused,jV p0.Race.Start,.slice aW p0.Race.Teams.length aX,.slice be p0.after.length bh]]/\RlL φ_ wGO r.Times cj)):=by
 unfold wBM at hm
 refine Gv.of Tryz.func86 Z Tryz.ntmps86 Tryz.results86 Z (sR (.fx 0 .nil .stop) Z ?_)
 let B0:List Value:=[jV 0,.slice none 0 0,.slice none 0 0]
 refine ZD (cs:=B0) Z Z Z Z Z yK Z hS ?_
 intro W2 b3 dS
 refine eN (zG (Zb ZT [3,3,3,3,3,1,3,3,3,3,3,3,1,3,3,2,0] (wST (.fx 15 (.fx 16 .nil .stop) .stop)) (by kernel_rfl) ?_))
 have bz:=dS.drew
 generalize hw_W7:({ W2 with drawn:=W2.drawn + 1 }:World)=W7 at bz ⊢
 refine oM Z Z (oR Z (ZQ Z Z) (oR Z (zD Z Z Zm Z ZN) (oR Z (zD Z Z zV Z ZY) (oR Z (zD Z Z ZE Z zW) (oL Z (bz.ldB (j:=1) Z Z Z zm (v:=.slice bd p0.Race.Rules.Classes.length bg) Z) (oR Z (zd Z Z zB) (oM Z Z (oR Z (ZQ Z Z) (oR Z (zD Z Z Zm Z ZN) (oR Z (zD Z Z zV Z ZY) (oR Z (zD Z Z ZE Z zF) (oL Z (bz.ldB (j:=1) Z Z Z zK (v:=jV p0.Race.Rules.Laps) Z) (oR Z (Runs.mulw Z Z Z) ?_)))))))))))))
 let B1:List Value:=[jV (w64 ((↑p0.Race.Rules.Classes.length:Int) * p0.Race.Rules.Laps)),.slice none 0 0,.slice none 0 0]
 refine oR Z (Zd (pv:=[(0,jV (w64 ((↑p0.Race.Rules.Classes.length:Int) * p0.Race.Rules.Laps)))]) (z:=B0) (cs:=B1) Z (wAN Z wAa) yK wKL Z Z) (ZD (cs:=B0) Z Z Z Z Z yK Z bz ?_)
 intro W8 b9 dA
 refine zx (j:=0) (vs:=B1) Z Z Z Z dA Z Z Z Z ZS (zA Z) Z Z Z ?_
 intro cP dH
 let B2:Res:=.blk bf 179 [.slice bd p0.Race.Rules.Classes.length bg,jV p0.Race.Rules.Each,jV p0.Race.Rules.Laps,jV p0.Race.Rules.Spare,jV p0.Race.Rules.Loop,jV p0.Race.Rules.Unused,jV p0.Race.Start,.slice aW p0.Race.Teams.length aX,.slice be p0.after.length bh]
 have cy:SW w [B2] φ φ [.blk b9 66 B1,.blk b3 66 B0,B2] cP:=dH
 refine eN (zG (sR fL7 Z (oM Z Z (oR Z (ZQ Z Z) (oR Z (zD Z Z Zm Z ZN) (oR Z (zD Z Z zV Z ZL) (oL Z (cy.ldB (j:=2) Z Z Z Zh (v:=.slice aW p0.Race.Teams.length aX) Z) (oR Z (zd Z Z zt) (oM Z Z (eN (zR ?_)))))))))))
 have q:=bnd hm
 obtain ⟨⟨cK,eK⟩,dY,cE⟩:=q
 try dsimp only at cE
 have q:=wBU dY
 obtain ⟨bM,dZ⟩:=q
 replace bM:=zH bM
 refine CK.forN' (fun az (aU,aV) σ_ w_=>∃ (φ_:PHeap) (aZ:Option Addr) (bb:Nat) (ap:Option Addr) (aw:Nat) (bv:List Value),σ_ 27=jV (↑az:Int)/\σ_ 0=.pointer (some ⟨bf,0,none⟩)/\σ_ 2=.pointer (some ⟨b3,0,none⟩)/\σ_ 3=.pointer (some ⟨b9,0,none⟩)/\σ_ 25=.slice aW p0.Race.Teams.length aX/\σ_ 26=jV (↑p0.Race.Teams.length:Int)/\PHeap.Le φ φ_/\SW w [B2] φ φ_ [.row aZ bb 3 1 (nA KL.encI aU),.row ap aw 22 1 bv,.blk b9 66 [jV (w64 ((↑p0.Race.Rules.Classes.length:Int) * p0.Race.Rules.Laps)),.slice aZ aU.length bb,.slice ap aV.length aw],.blk b3 66 B0,B2] w_/\RlL φ_ wGO aV bv) dZ ?_ ?_ ?_
 have dT:=cy.nilrow 3 1
 have dU:=dT.nilrow 22 1
 exact ⟨φ,none,0,none,0,[],rfl,rfl,rfl,rfl,rfl,rfl,(zS _),(dU.pick [1,0,2,3,4] _ (by decide) rfl),RlL.nil⟩
 rintro az ⟨aU,aV⟩ fd ff eR bL ⟨aY,aZ,bb,ap,aw,bv,bw,cp,df,bp,cq,cr,bN,cD,dw⟩ cH
 try dsimp only at cH
 have ci:Hid ((↑az:Int) < (↑p0.Race.Teams.length:Int)):=zH (wBI bL)
 replace bL:=zH bL
 have d7:Hid (w64 ((↑az:Int) + 1)=(↑(az + 1):Int)):=zH (by have h1:=bM.out;have h2:=ci.out;rw [wAU] <;> omega)
 refine sR fL1 Z (oR Z (zU Z bw cr) (eN (zG (cT Z ci (kN (zG (zR (sR (wDy gAp) Z (oM Z bw (bnK cH fun x80 cu eu=>?_))))))))))
 have dx:=dW.le bN
 have q:=dx.el (wAZ cu)
 obtain ⟨cZ,eJ,fc,dz,bJ,eG⟩:=q
 obtain ⟨bP,bS,bQ,bT,rfl,eX,eY⟩:=eG
 replace bJ:Cl aY cZ (eJ + az * 3) [jV x80.Bib,.slice bP x80.Classes.length bS,.slice bQ x80.Legs.length bT]:=bJ
 refine oR Z (ZH Z cq dz bw zt zy (wBT cu)) (oL Z (cD.ldCA (f:=0) bJ Z Z Zy zy (us:=[jV x80.Bib,.slice bP x80.Classes.length bS,.slice bQ x80.Legs.length bT]) Z Z) (ZD (cs:=B0) Z Z Z Z Z Zi Z cD ?_))
 intro eU aj dV
 refine oA Z Z ?_
 let B3:List Value:=[jV x80.Bib,.slice bP x80.Classes.length bS,.slice bQ x80.Legs.length bT]
 refine zx (j:=0) (vs:=B3) Z Z Z Z dV Z Z Z Z zy (zA Z) Z Z Z ?_
 intro cM dB
 let B4:Res:=.blk b9 66 [jV (w64 ((↑p0.Race.Rules.Classes.length:Int) * p0.Race.Rules.Laps)),.slice aZ aU.length bb,.slice ap aV.length aw]
 let B5:Res:=.row ap aw 22 1 bv
 let B6:Res:=.row aZ bb 3 1 (nA KL.encI aU)
 have bK:SW w [B2] φ aY [.blk aj 73 B3,B6,B5,B4,.blk b3 66 B0,B2] cM:=dB
 refine eN (sR (wHQ gAr) Z (oR Z (zD Z bp zo Z zW) (oL Z (bK.ldB (j:=3) Z Z Z zm (v:=.slice aZ aU.length bb) Z) (oR Z (zD Z Z zZ Z zF) (oL Z (bK.ldB (j:=0) Z Z Z zK (v:=jV x80.Bib) Z) (ZF (pv:=[(0,jV x80.Bib)]) (zs:=[jV 0]) (cs:=[jV x80.Bib]) Z Z Z Z Z (wAN Z wAa) zB zF Zs Z Z Z Z Z bK ?_))))))
 intro cN cW dC
 let B7:Res:=.row (some ⟨cW,0,none⟩) 1 3 1 (nA KL.encI [x80.Bib])
 have cw:SW w [B2] φ aY [B7,.blk aj 73 B3,B6,B5,B4,.blk b3 66 B0,B2] cN:=dC
 refine bnK eu fun br dh d8=>Zu (j:=2) (enc:=KL.encI) (xs:=aU) (ys:=[x80.Bib]) (zs:=br) rfl rfl rfl rfl rfl Zr wFU rfl rfl rfl rfl rfl rfl cw rfl rfl rfl (cw.srcR (j:=0) rfl (by decide) (wAK (f:=KL.encI) (sz:=1) (fun _=>rfl) [x80.Bib])) (fun _=>rfl) (fun _=>rfl) dh rfl ?_
 intro bj bm cO dD
 let B8:Res:=.row bj bm 3 1 (nA KL.encI br)
 have dE:SW w [B2] φ aY [B7,.blk aj 73 B3,B8,B5,B4,.blk b3 66 B0,B2] cO:=dD
 refine oR Z (zD Z bp zo Z zW) (zx (j:=4) (vs:=[.slice bj br.length bm]) Z Z Z Z dE Z Z Z Z zW (zA Z) Z Z Z ?_)
 intro bE dF
 let B9:Res:=.blk b9 66 [jV (w64 ((↑p0.Race.Rules.Classes.length:Int) * p0.Race.Rules.Laps)),.slice bj br.length bm,.slice ap aV.length aw]
 have dG:SW w [B2] φ aY [B7,.blk aj 73 B3,B8,B5,B9,.blk b3 66 B0,B2] bE:=dF
 refine eN (Zb ZT [3,1,3,3,3,1,3,3,1,2,2,0,3,0] (wVK (.fx 9 (.fx 10 (.fx 11 (.fl 12 (.fx 13 .nil .stop)) .stop) .stop) .stop)) (by kernel_rfl) ?_)
 have bq:=dG.drew
 generalize hw_W120:({ bE with drawn:=bE.drawn + 1 }:World)=cQ at bq ⊢
 refine oR Z (zD Z bp zo Z Zn) (oL Z (bq.ldB (j:=4) Z Z Z Zv (v:=.slice ap aV.length aw) Z) (oM Z cp (oR Z (ZQ Z Z) (oR Z (zD Z Z Zm Z Zn) (oL Z (bq.ldB (j:=6) Z Z Z Zv (v:=.slice be p0.after.length bh) Z) (oM Z Z (bnK d8 fun bU ct d9=>?_)))))))
 have dm:=dX.le bN
 have q:=dm.el (wAZ ct)
 obtain ⟨cX,eI,fb,dy,bI,eC⟩:=q
 obtain ⟨bO,bR,rfl,dp⟩:=eC
 replace bI:Cl aY cX (eI + az * 1) [.slice bO bU.length bR]:=bI
 refine oR Z (ZH Z Z dy Z ZO zW (wBT ct)) (oL Z (bq.ldC (f:=0) bI (v:=.slice bO bU.length bR) Z Z zm Z) (bnK d9 fun am dq ef=>zM 0 Z Z Z Z (zL Z Z Tryz.call162 (zC Z zQ) Z) bq (fun hs=>wFJ bU bO bR cQ aY hs dp dq) (.inr Z) ?_))
 rintro eM eP e9 bY cI dI ⟨bs,bu,rfl,rfl⟩
 have dJ:SW w [B2] φ eM [.row bs bu 3 1 (nA KL.encI am),B7,.blk aj 73 B3,B8,B5,B9,.blk b3 66 B0,B2] bY:=dI
 have q:=dJ.freezeR (k:=0) (n:=am.length) rfl (wAK (f:=KL.encI) (sz:=1) (fun _=>rfl) am) (by decide)
 obtain ⟨bi,cJ,eH,dL⟩:=q
 have dM:SW w [B2] φ bi [B7,.blk aj 73 B3,B8,B5,B9,.blk b3 66 B0,B2] bY:=dL
 let bt:List Value:=[.slice bs am.length bu]
 refine ZF (pv:=[(0,.slice bs am.length bu)]) (zs:=[.slice none 0 0]) (cs:=bt) Z Z Z Z Z (wAN Z wAa) ZO zW Tryz.zeroValue22 Z Z Z Z Z dM ?_
 intro cR cY dK
 have cG:RlL bi wGO [am] bt:=(RlL.cons (R:=wGO) (x:=am) (vs:=bt) ⟨bs,bu,rfl,eH⟩ RlL.nil)
 let bD:Res:=.row (some ⟨cY,0,none⟩) 1 22 1 bt
 have cz:SW w [B2] φ bi [bD,B7,.blk aj 73 B3,B8,B5,B9,.blk b3 66 B0,B2] cR:=dK
 refine bnK ef fun x158 dr eh=>?_
 have dt:=dw.le cI
 have du:=dt.le cJ
 refine yF (R:=wGO) (j:=4) (xs:=aV) (ys:=[am]) (zs:=x158) rfl rfl rfl rfl rfl Tryz.underlying46 wSM rfl rfl rfl rfl rfl rfl rfl cz rfl rfl rfl du cG (cz.srcR (j:=0) rfl (by decide) (RlL.len cG)) dr rfl ?_
 intro bk bn bH cS dN eD
 have dO:SW w [B2] φ bi [bD,B7,.blk aj 73 B3,B8,.row bk bn 22 1 bH,B9,.blk b3 66 B0,B2] cS:=dN
 refine oR Z (zD Z bp zo Z Zn) (zx (j:=5) (vs:=[.slice bk x158.length bn]) Z Z Z Z dO Z Z Z Z Zn (zA Z) Z Z Z ?_)
 intro cU dP
 have dQ:SW w [B2] φ bi [bD,B7,.blk aj 73 B3,B8,.row bk bn 22 1 bH,.blk b9 66 [jV (w64 ((↑p0.Race.Rules.Classes.length:Int) * p0.Race.Rules.Laps)),.slice bj br.length bm,.slice bk x158.length bn],.blk b3 66 B0,B2] cU:=dP
 refine zn (ze (zI (rR fL2 Z (oR Z (ZC (zY Z bw Z) (congrArg (jV) d7.out)) (oM Z Z (zn ?_))))))
 cases eh
 exact zI ⟨rfl,⟨bi,bj,bm,bk,bn,bH,rfl,cp,df,bp,cq,cr,((bN.trans cI).trans cJ),(dQ.pick [3,4,5,6,7] _ (by decide) rfl),eD⟩⟩
 rintro fe eQ ⟨cL,bA,bF,bB,bG,cg,dg,eV,cm,db,eW,de,e8,cA,dv⟩
 have da:Hid (¬ ((↑(((↑p0.Race.Teams.length:Int):Int) - 0).toNat:Int) < (↑p0.Race.Teams.length:Int))):=zH (wAp)
 refine sR fL1 Z (oR Z (zU Z dg de) (eN (zG (cF Z da (ZJ (zX (zX (ZB (zI (sR gAf Z ?_))))))))))
 let ba:List Value:=[jV (w64 ((↑p0.Race.Rules.Classes.length:Int) * p0.Race.Rules.Laps)),.slice bA cK.length bF,.slice bB eK.length bG]
 refine oL Z (cA.ldBA (j:=2) Z Z db Zz ZS (vs:=ba) Z Z) (zx (j:=3) (vs:=ba) Z Z Z Z cA Z cm Z Z ZS (zA Z) Z Z Z ?_)
 intro cV dR
 have cC:SW w [B2] φ cL [.row bA bF 3 1 (nA KL.encI cK),.row bB bG 22 1 cg,.blk b9 66 ba,.blk b3 66 ba,B2] cV:=dR
 refine eN (zP ?_)
 cases cE
 exact ⟨rfl,_,(wFl (v:=.agg ba.toArray) ⟨⟨_,cm,(wFD Zz ZS (cC.blkAt (k:=3) rfl) (vs:=ba) rfl rfl)⟩,trivial⟩),cL,_,(cC.pick [0,1,4] _ (by decide) rfl),bA,bF,bB,bG,cg,rfl,rfl,dv⟩
end Go.Proofs.YtglpalgiipahjaaGreat
