import Derived.Test.YtfcmijinklojbaaU5
set_option linter.all false
open List renaming flatMap->hH,set->nG,length_append->nH,length_cons->nI,length_nil->nJ,getElem_cons_succ->nK,getElem_cons_zero->nL,getElem_toArray->nM
open Go.Value renaming bool->nA
open Bool renaming eq_false_iff->nB
open Option.some renaming inj->nD
open Prod.mk renaming injEq->nE
open Int renaming toNat_natCast->nN
open Nat renaming blt->nO,le_of_ble_eq_true->nR
namespace Go.Proofs.Ytfcmijinklojbaa
open Go.KL
def gAa:Sch:=.fl 1 (.fl 2 .nil)
def gAb:Sch:=.fl 2 (.fl 3 .nil)
def gAc:Sch:=.fl 3 (.fl 4 .nil)
def gAd:Sch:=.fl 4 (.fl 5 .nil)
def gAe:Sch:=.fl 8 (.fl 9 .nil)
def gAf:Sch:=.fl 12 (.fl 13 .nil)
def gAg:Sch:=.fx 0 (.fl 1 .nil) .stop
def gAh:Sch:=.fx 1 (.fl 2 .nil) .stop
def gAi:Sch:=.fx 0 (.fx 1 .nil .stop) .stop
def gAj:Sch:=.fx 5 (.fx 6 .nil .stop) .stop
def gAk:Sch:=.fl 0 (.fx 1 .nil .stop)
def gAl:Sch:=.fx 3 (.fl 4 .nil) .stop
def gAm:Sch:=.fx 17 (.fl 18 .nil) .stop
def gAn:Sch:=.fl 0 gAh
def gAo:Sch:=.fx 0 gAh .stop
def gAp:Sch:=.fx 3 gAd .stop
def gAq:Sch:=.fx 0 gAa .stop
def gAr:Sch:=.fl 0 (.fx 1 (.fx 2 .nil .stop) .stop)
def gAs:Sch:=.fx 11 gAf .stop
def gAt:Sch:=.fl 0 (.fl 1 (.fx 2 .nil .stop))
def gAu:Sch:=.fl 1 (.fx 2 (.fl 3 .nil) .stop)
def gAv:Sch:=.fx 3 (.fx 4 (.fl 5 .nil) .stop) .stop
def gAw:Sch:=.fl 0 (.fl 1 (.fx 2 (.fx 3 .nil .stop) .stop))
def gAx:Sch:=.fl 0 (.fx 1 gAb .stop)
def gAy:Sch:=.fl 0 (.fl 1 (.fx 2 gAc .stop))
set_option maxHeartbeats 4000000
theorem Z {α:Type} {a:α}:a=a:=rfl
section
variable {r:Option Nat} {N:Nat} {P:Program} {l:List Oper} {Q:wDc} {D:List Deferred} {ks:List Nat} {σ:Env} {w:World} {i d j e:Nat} {s:Sch} {o:Oper} {b:Bool} {x:Operand} {v:Value} {p:Prop} {inst:Decidable p} {K:List Deferred->Env->World->Prop} {c1 c2:Code}
abbrev jV (n:Int):Value:=.int .i64 n
abbrev SW (w:World) (X:List Res) (U U':PHeap) (L:List Res) (w':World):Prop:=St ⟨w,X,U⟩ U' L w'
abbrev sW (w:World) (U U':PHeap) (L:List Res) (w':World):Prop:=St ⟨w,[],U⟩ U' L w'
abbrev St0 (w:World) (U:PHeap) (L:List Res):Prop:=St ⟨w,L,U⟩ U L w
theorem ifc {α:Type} {G p:Prop} {inst:Decidable p} {a b r:α} (h:@ite α p inst a b=r) (h1:Hid p->a=r->G) (h2:Hid (¬ p)->b=r->G):G:=by
 by_cases c:p
 rw [if_pos c] at h;exact h1 ⟨c⟩ h
 rw [if_neg c] at h;exact h2 ⟨c⟩ h
theorem bnK {α β:Type} {G:Prop} {o:Option α} {f:α->Option β} {r:β} (h:o.bind f=some r) (k:∀ x,o=some x->f x=some r->G):G:=by
 obtain ⟨x,h1,h2⟩:=bnd h
 exact k x h1 h2
theorem oR (h:(l[i]?,o.dst,nO d N,wanted l σ o)=(some o,some d,true,true)) (hr:∀ {w'},Runs P σ w' o v w') (k:OKS N P l Q D ks s (upd σ d v) w):OKS N P l Q D ks (.fl i s) σ w:=by
 simp only [nE] at h;exact OKS.r h.1 h.2.1 h.2.2.1 h.2.2.2 (fun _=>hr) k
theorem oL (h:(l[i]?,o.dst,nO d N,wanted l σ o,wSM (kOf ks i))=(some o,some d,true,true,false)) (hr:wGD P σ w o v) (k:OKS N P l Q D ks s (upd σ d v) w):OKS N P l Q D ks (.fl i s) σ w:=by
 simp only [nE] at h;exact OKS.m h.1 h.2.1 h.2.2.1 h.2.2.2.1 hr h.2.2.2.2 k
theorem oM (h:(l[i]?,o.dst,nO d N,wanted l σ o,o.op)=(some o,some d,true,true,.move x)) (hx:ev σ x=v) (k:OKS N P l Q D ks s (upd σ d v) w):OKS N P l Q D ks (.fl i s) σ w:=by
 simp only [nE] at h;exact OKS.rm h.1 h.2.1 h.2.2.1 h.2.2.2.1 h.2.2.2.2 hx k
theorem oA (h:(l[i]?,o.dst,nO d N,wanted l σ o,o.op)=(some o,some d,true,true,.assign x)) (hx:ev σ x=v) (k:OKS N P l Q D ks s (upd σ d v) w):OKS N P l Q D ks (.fl i s) σ w:=by
 simp only [nE] at h;exact OKS.ra h.1 h.2.1 h.2.2.1 h.2.2.2.1 h.2.2.2.2 hx k
theorem oF (h:(l[i]?,o.dst,nO d N,o.guard,(l[j]?).bind (·.dst),σ e,false == b)=(some o,some d,true,some (j,b),some e,.bool (decide p),false)) (c:Hid (¬ p)) (k:OKS N P l Q D ks s (upd σ d undef) w):OKS N P l Q D ks (.fl i s) σ w:=by
 simp only [nE] at h;exact OKS.p h.1 h.2.1 h.2.2.1 (wHN h.2.2.2.1 h.2.2.2.2.1 (h.2.2.2.2.2.1.trans (wSL c.out)) h.2.2.2.2.2.2) k
theorem oT (h:(l[i]?,o.dst,nO d N,o.guard,(l[j]?).bind (·.dst),σ e,true == b)=(some o,some d,true,some (j,b),some e,.bool (decide p),false)) (c:Hid p) (k:OKS N P l Q D ks s (upd σ d undef) w):OKS N P l Q D ks (.fl i s) σ w:=by
 simp only [nE] at h;exact OKS.p h.1 h.2.1 h.2.2.1 (wHN h.2.2.2.1 h.2.2.2.2.1 (h.2.2.2.2.2.1.trans (wSK c.out)) h.2.2.2.2.2.2) k
theorem oN {b2:Bool} (h:(l[i]?,o.dst,nO d N,o.guard,(l[j]?).bind (·.dst),σ e,b2 == b)=(some o,some d,true,some (j,b),some e,.bool b2,false)) (k:OKS N P l Q D ks s (upd σ d undef) w):OKS N P l Q D ks (.fl i s) σ w:=by
 simp only [nE] at h;exact OKS.p h.1 h.2.1 h.2.2.1 (wHN h.2.2.2.1 h.2.2.2.2.1 h.2.2.2.2.2.1 h.2.2.2.2.2.2) k
theorem nC {a b:Bool} (h:a=b):nA (!a)=nA (!b):=h ▸ rfl
theorem nF {a:Bool} (h:¬ a=true):nA (!a)=nA (!false):=nC (nB.2 h)
theorem wT (h:(o.guard,(l[j]?).bind (·.dst),σ e)=(some (j,true),some e,.bool (decide p))) (c:Hid p):wanted l σ o=true:=by
 simp only [nE] at h;exact wIg h.1 h.2.1 (h.2.2.trans (wSK c.out))
theorem wF (h:(o.guard,(l[j]?).bind (·.dst),σ e)=(some (j,false),some e,.bool (decide p))) (c:Hid (¬ p)):wanted l σ o=true:=by
 simp only [nE] at h;exact wIg h.1 h.2.1 (h.2.2.trans (wSL c.out))
theorem rU (h:(l[i]?,o.dst,nO d N)=(some o,some d,true)) (hw:wanted l σ o=true) (hr:∀ {w'},Runs P σ w' o v w') (k:OKS N P l Q D ks s (upd σ d v) w):OKS N P l Q D ks (.fl i s) σ w:=by
 simp only [nE] at h;exact OKS.r h.1 h.2.1 h.2.2 hw (fun _=>hr) k
theorem sR {id:Nat} (s:Sch) (hs:inOrder 0 s l.length=true) (h:OKS N P l (wEI (fun D σ w=>CK r N P c2 Q D σ w) Q) D [] s σ w):CK r N P (.seq (.region id l.toArray false) c2) Q D σ w:=CK.seq (CK.reg s hs h)
theorem rR {id:Nat} (s:Sch) (hs:inOrder 0 s l.length=true) (h:OKS N P l Q D [] s σ w):CK r N P (.region id l.toArray false) Q D σ w:=CK.reg s hs h
theorem eN (h:K D σ w):OKS N P l (wEI K Q) D ks .nil σ w:=OKS.e (wIb h)
theorem cT (hz:ev σ x=.bool (decide p)) (c:Hid p) (h:CK r N P c1 Q D σ w):CK r N P (.cond x c1 c2) Q D σ w:=CK.condT (hz.trans (wSK c.out)) h
theorem cF (hz:ev σ x=.bool (decide p)) (c:Hid (¬ p)) (h:CK r N P c2 Q D σ w):CK r N P (.cond x c1 c2) Q D σ w:=CK.condF (hz.trans (wSL c.out)) h
theorem kN (h:K D σ w):CK r N P .skip (wEI K Q) D σ w:=CK.skip (wIb h)
end
def fL1:Sch:=.fl 0 .nil
def fL2:Sch:=.fl 0 (.fl 1 .nil)
def fL3:Sch:=.fl 0 gAa
def fL4:Sch:=.fl 0 (.fl 1 gAb)
def fL5:Sch:=.fl 0 (.fl 1 (.fl 2 gAc))
def fL6:Sch:=.fl 0 (.fl 1 (.fl 2 (.fl 3 gAd)))
def fL7:Sch:=.fl 0 (.fl 1 (.fl 2 (.fl 3 (.fl 4 (.fl 5 (.fl 6 .nil))))))
def fL8:Sch:=.fl 0 (.fl 1 (.fl 2 (.fl 3 (.fl 4 (.fl 5 (.fl 6 (.fl 7 .nil)))))))
def fL9:Sch:=.fl 0 (.fl 1 (.fl 2 (.fl 3 (.fl 4 (.fl 5 (.fl 6 (.fl 7 (.fl 8 .nil))))))))
def fL10:Sch:=.fl 0 (.fl 1 (.fl 2 (.fl 3 (.fl 4 (.fl 5 (.fl 6 (.fl 7 gAe)))))))
def fL11:Sch:=.fl 0 (.fl 1 (.fl 2 (.fl 3 (.fl 4 (.fl 5 (.fl 6 (.fl 7 (.fl 8 (.fl 9 (.fl 10 .nil))))))))))
def fL13:Sch:=.fl 0 (.fl 1 (.fl 2 (.fl 3 (.fl 4 (.fl 5 (.fl 6 (.fl 7 (.fl 8 (.fl 9 (.fl 10 (.fl 11 (.fl 12 .nil))))))))))))
def fL14:Sch:=.fl 0 (.fl 1 (.fl 2 (.fl 3 (.fl 4 (.fl 5 (.fl 6 (.fl 7 (.fl 8 (.fl 9 (.fl 10 (.fl 11 gAf)))))))))))
def fL15:Sch:=.fl 0 (.fl 1 (.fl 2 (.fl 3 (.fl 4 (.fl 5 (.fl 6 (.fl 7 (.fl 8 (.fl 9 (.fl 10 (.fl 11 (.fl 12 (.fl 13 (.fl 14 .nil))))))))))))))
def fL16:Sch:=.fl 0 (.fl 1 (.fl 2 (.fl 3 (.fl 4 (.fl 5 (.fl 6 (.fl 7 (.fl 8 (.fl 9 (.fl 10 (.fl 11 (.fl 12 (.fl 13 (.fl 14 (.fl 15 .nil)))))))))))))))
def fL20:Sch:=.fl 0 (.fl 1 (.fl 2 (.fl 3 (.fl 4 (.fl 5 (.fl 6 (.fl 7 (.fl 8 (.fl 9 (.fl 10 (.fl 11 (.fl 12 (.fl 13 (.fl 14 (.fl 15 (.fl 16 (.fl 17 (.fl 18 (.fl 19 .nil)))))))))))))))))))
def fL30:Sch:=.fl 0 (.fl 1 (.fl 2 (.fl 3 (.fl 4 (.fl 5 (.fl 6 (.fl 7 (.fl 8 (.fl 9 (.fl 10 (.fl 11 (.fl 12 (.fl 13 (.fl 14 (.fl 15 (.fl 16 (.fl 17 (.fl 18 (.fl 19 (.fl 20 (.fl 21 (.fl 22 (.fl 23 (.fl 24 (.fl 25 (.fl 26 (.fl 27 (.fl 28 (.fl 29 .nil)))))))))))))))))))))))))))))
def fL31:Sch:=.fl 0 (.fl 1 (.fl 2 (.fl 3 (.fl 4 (.fl 5 (.fl 6 (.fl 7 (.fl 8 (.fl 9 (.fl 10 (.fl 11 (.fl 12 (.fl 13 (.fl 14 (.fl 15 (.fl 16 (.fl 17 (.fl 18 (.fl 19 (.fl 20 (.fl 21 (.fl 22 (.fl 23 (.fl 24 (.fl 25 (.fl 26 (.fl 27 (.fl 28 (.fl 29 (.fl 30 .nil))))))))))))))))))))))))))))))
def fL32:Sch:=.fl 0 (.fl 1 (.fl 2 (.fl 3 (.fl 4 (.fl 5 (.fl 6 (.fl 7 (.fl 8 (.fl 9 (.fl 10 (.fl 11 (.fl 12 (.fl 13 (.fl 14 (.fl 15 (.fl 16 (.fl 17 (.fl 18 (.fl 19 (.fl 20 (.fl 21 (.fl 22 (.fl 23 (.fl 24 (.fl 25 (.fl 26 (.fl 27 (.fl 28 (.fl 29 (.fl 30 (.fl 31 .nil)))))))))))))))))))))))))))))))
def wDw (s:Sch):Sch:=.fl 0 (.fl 1 (.fl 2 (s)))
def wEX (s:Sch):Sch:=.fl 0 (.fl 1 (.fl 2 (.fl 3 (s))))
def wEQ (s:Sch):Sch:=.fl 0 (.fl 1 (.fl 2 (.fl 3 (.fl 4 (s)))))
def wJu (s:Sch):Sch:=.fl 0 (.fl 1 (.fl 2 (.fl 3 (.fl 4 (.fl 5 (s))))))
def wOr (s:Sch):Sch:=.fl 0 (.fl 1 (.fl 2 (.fl 3 (.fl 4 (.fl 5 (.fl 6 (s)))))))
def wJF (s:Sch):Sch:=.fl 0 (.fl 1 (.fl 2 (.fl 3 (.fl 4 (.fl 5 (.fl 6 (.fl 7 (s))))))))
def wTS (s:Sch):Sch:=.fl 0 (.fl 1 (.fl 2 (.fl 3 (.fl 4 (.fl 5 (.fl 6 (.fl 7 (.fl 8 (s)))))))))
def wTT (s:Sch):Sch:=.fl 0 (.fl 1 (.fl 2 (.fl 3 (.fl 4 (.fl 5 (.fl 6 (.fl 7 (.fl 8 (.fl 9 (s))))))))))
def wHz (s:Sch):Sch:=.fl 0 (.fl 1 (.fl 2 (.fl 3 (.fl 4 (.fl 5 (.fl 6 (.fl 7 (.fl 8 (.fl 9 (.fl 10 (s)))))))))))
def wLg (s:Sch):Sch:=.fl 0 (.fl 1 (.fl 2 (.fl 3 (.fl 4 (.fl 5 (.fl 6 (.fl 7 (.fl 8 (.fl 9 (.fl 10 (.fl 11 (s))))))))))))
def wOs (s:Sch):Sch:=.fl 0 (.fl 1 (.fl 2 (.fl 3 (.fl 4 (.fl 5 (.fl 6 (.fl 7 (.fl 8 (.fl 9 (.fl 10 (.fl 11 (.fl 12 (s)))))))))))))
def wTU (s:Sch):Sch:=.fl 0 (.fl 1 (.fl 2 (.fl 3 (.fl 4 (.fl 5 (.fl 6 (.fl 7 (.fl 8 (.fl 9 (.fl 10 (.fl 11 (.fl 12 (.fl 13 (.fl 14 (s)))))))))))))))
def wTV (s:Sch):Sch:=.fl 0 (.fl 1 (.fl 2 (.fl 3 (.fl 4 (.fl 5 (.fl 6 (.fl 7 (.fl 8 (.fl 9 (.fl 10 (.fl 11 (.fl 12 (.fl 13 (.fl 14 (.fl 15 (s))))))))))))))))
def wQV (s:Sch):Sch:=.fl 0 (.fl 1 (.fl 2 (.fl 3 (.fl 4 (.fl 5 (.fl 6 (.fl 7 (.fl 8 (.fl 9 (.fl 10 (.fl 11 (.fl 12 (.fl 13 (.fl 14 (.fl 15 (.fl 16 (s)))))))))))))))))
def fC1_3 (s:Sch):Sch:=.fl 1 (.fl 2 (.fl 3 (s)))
def fC2_4 (s:Sch):Sch:=.fl 2 (.fl 3 (.fl 4 (s)))
def wJG (s:Sch):Sch:=.fl 2 (.fl 3 (.fl 4 (.fl 5 (.fl 6 (s)))))
def wTW (s:Sch):Sch:=.fl 2 (.fl 3 (.fl 4 (.fl 5 (.fl 6 (.fl 7 (.fl 8 (.fl 9 (.fl 10 (s)))))))))
def wPr (s:Sch):Sch:=.fl 3 (.fl 4 (.fl 5 (s)))
def fC3_6 (s:Sch):Sch:=.fl 3 (.fl 4 (.fl 5 (.fl 6 (s))))
def fC3_7 (s:Sch):Sch:=.fl 3 (.fl 4 (.fl 5 (.fl 6 (.fl 7 (s)))))
def wQW (s:Sch):Sch:=.fl 3 (.fl 4 (.fl 5 (.fl 6 (.fl 7 (.fl 8 (.fl 9 (.fl 10 (s))))))))
def wLh (s:Sch):Sch:=.fl 3 (.fl 4 (.fl 5 (.fl 6 (.fl 7 (.fl 8 (.fl 9 (.fl 10 (.fl 11 (.fl 12 (.fl 13 (.fl 14 (.fl 15 (.fl 16 (.fl 17 (.fl 18 (s))))))))))))))))
def wRs (s:Sch):Sch:=.fl 4 (.fl 5 (.fl 6 (s)))
def wTX (s:Sch):Sch:=.fl 4 (.fl 5 (.fl 6 (.fl 7 (.fl 8 (s)))))
def wTY (s:Sch):Sch:=.fl 4 (.fl 5 (.fl 6 (.fl 7 (.fl 8 (.fl 9 (.fl 10 (s)))))))
def wMV (s:Sch):Sch:=.fl 5 (.fl 6 (.fl 7 (s)))
def wTZ (s:Sch):Sch:=.fl 5 (.fl 6 (.fl 7 (.fl 8 (s))))
def wRt (s:Sch):Sch:=.fl 5 (.fl 6 (.fl 7 (.fl 8 (.fl 9 (s)))))
def wTa (s:Sch):Sch:=.fl 6 (.fl 7 (.fl 8 (s)))
def wQX (s:Sch):Sch:=.fl 6 (.fl 7 (.fl 8 (.fl 9 (.fl 10 (s)))))
def wOt (s:Sch):Sch:=.fl 6 (.fl 7 (.fl 8 (.fl 9 (.fl 10 (.fl 11 (s))))))
def wQY (s:Sch):Sch:=.fl 6 (.fl 7 (.fl 8 (.fl 9 (.fl 10 (.fl 11 (.fl 12 (s)))))))
def wTb (s:Sch):Sch:=.fl 8 (.fl 9 (.fl 10 (s)))
def wQZ (s:Sch):Sch:=.fl 9 (.fl 10 (.fl 11 (.fl 12 (.fl 13 (.fl 14 (.fl 15 (s)))))))
def wRu (s:Sch):Sch:=.fl 10 (.fl 11 (.fl 12 (s)))
def wOu (s:Sch):Sch:=.fl 10 (.fl 11 (.fl 12 (.fl 13 (.fl 14 (.fl 15 (.fl 16 (.fl 17 (.fl 18 (.fl 19 (.fl 20 (.fl 21 (.fl 22 (.fl 23 (s))))))))))))))
def wRv (s:Sch):Sch:=.fl 11 (.fl 12 (.fl 13 (.fl 14 (.fl 15 (.fl 16 (s))))))
def wRw (s:Sch):Sch:=.fl 11 (.fl 12 (.fl 13 (.fl 14 (.fl 15 (.fl 16 (.fl 17 (.fl 18 (s))))))))
def wRx (s:Sch):Sch:=.fl 11 (.fl 12 (.fl 13 (.fl 14 (.fl 15 (.fl 16 (.fl 17 (.fl 18 (.fl 19 (s)))))))))
def wOv (s:Sch):Sch:=.fl 14 (.fl 15 (.fl 16 (s)))
def wRy (s:Sch):Sch:=.fl 16 (.fl 17 (.fl 18 (s)))
def wOw (s:Sch):Sch:=.fl 17 (.fl 18 (.fl 19 (s)))
def wRz (s:Sch):Sch:=.fl 18 (.fl 19 (.fl 20 (s)))
theorem zA:type_of% @Try.runUnderlying23:=@Try.runUnderlying23
theorem zB:type_of% @wMZ:=@wMZ
theorem zC:type_of% @nR:=@nR
theorem zD:type_of% @Try.sizeOf3:=@Try.sizeOf3
theorem zE:type_of% @wIg:=@wIg
theorem zF:type_of% @wHN:=@wHN
theorem zG:type_of% @OKS.p:=@OKS.p
theorem zH:type_of% @Try.sizeOf44:=@Try.sizeOf44
theorem zI:type_of% @wIb:=@wIb
theorem zJ:type_of% @CK.seq:=@CK.seq
theorem zK:type_of% @Runs.fa:=@Runs.fa
theorem zL:type_of% @Enters.mk:=@Enters.mk
theorem zM:type_of% @OKS.callH:=@OKS.callH
theorem zN:type_of% @Hid.mk:=@Hid.mk
theorem zO:type_of% @Try.isAgg3:=@Try.isAgg3
theorem zP:type_of% @Runs.pickF:=@Runs.pickF
theorem zQ:type_of% @CK.ret:=@CK.ret
theorem zR:type_of% @Try.runUnderlying26:=@Try.runUnderlying26
theorem zS:type_of% @wPs:=@wPs
theorem zU:type_of% @Runs.pickT:=@Runs.pickT
theorem zV:type_of% @OKS.r:=@OKS.r
theorem zW:type_of% @OKS.rm:=@OKS.rm
theorem zX:type_of% @PHeap.Le.refl:=@PHeap.Le.refl
theorem zY:type_of% @Try.runUnderlying54:=@Try.runUnderlying54
theorem zZ:type_of% @Try.sizeOf23:=@Try.sizeOf23
theorem zd:type_of% @Try.isAgg23:=@Try.isAgg23
theorem ze:type_of% @wMY:=@wMY
theorem zf:type_of% @Try.isAgg44:=@Try.isAgg44
theorem zg:type_of% @CK.condF:=@CK.condF
theorem zh:type_of% @Try.runUnderlying44:=@Try.runUnderlying44
theorem zi:type_of% @CK.block:=@CK.block
theorem zj:type_of% @Try.runUnderlying99:=@Try.runUnderlying99
theorem zk:type_of% @Runs.addw:=@Runs.addw
theorem zm:type_of% @wSL:=@wSL
theorem zn:type_of% @OKS.e:=@OKS.e
theorem zo:type_of% @Runs.lss:=@Runs.lss
theorem zp:type_of% @wKt:=@wKt
theorem zq:type_of% @wMX:=@wMX
theorem zr:type_of% @Runs.len:=@Runs.len
theorem zt:type_of% @OKS.st:=@OKS.st
theorem zu:type_of% @Try.sizeOf26:=@Try.sizeOf26
theorem zw:type_of% @Try.zeroValue44:=@Try.zeroValue44
theorem zx:type_of% @OKS.alloc:=@OKS.alloc
theorem zy:type_of% @OKS.m:=@OKS.m
theorem zz:type_of% @Try.sizeOf54:=@Try.sizeOf54
theorem ZA:type_of% @Try.runUnderlying24:=@Try.runUnderlying24
theorem ZB:type_of% @CK.condT:=@CK.condT
theorem ZC:type_of% @Runs.ext:=@Runs.ext
theorem ZD:type_of% @res1:=@res1
theorem ZE:type_of% @wKv:=@wKv
theorem ZF:type_of% @Try.zeroValue54:=@Try.zeroValue54
theorem ZG:type_of% @Runs.subw:=@Runs.subw
theorem ZH:type_of% @Try.sizeOf35:=@Try.sizeOf35
theorem ZI:type_of% @Runs.to:=@Runs.to
theorem ZJ:type_of% @wIc:=@wIc
theorem ZK:type_of% @Try.isAgg54:=@Try.isAgg54
theorem ZL:type_of% @Runs.neq:=@Runs.neq
theorem ZM:type_of% @Runs.build:=@Runs.build
theorem ZN:type_of% @CK.anyOrd:=@CK.anyOrd
theorem ZO:type_of% @Try.mixed:=@Try.mixed
theorem ZP:type_of% @Runs.iaI:=@Runs.iaI
theorem ZQ:type_of% @Runs.nilp:=@Runs.nilp
theorem ZR:type_of% @Runs.notT:=@Runs.notT
theorem ZS:type_of% @CK.exit:=@CK.exit
theorem ZT:type_of% @Try.isAgg26:=@Try.isAgg26
theorem ZU:type_of% @OKS.buildSlice0:=@OKS.buildSlice0
theorem ZV:type_of% @OKS.px:=@OKS.px
theorem ZW:type_of% @Try.runUnderlying35:=@Try.runUnderlying35
theorem ZX:type_of% @Try.isAgg89:=@Try.isAgg89
theorem ZY:type_of% @OKS.box:=@OKS.box
theorem Za:type_of% @CK.skip:=@CK.skip
theorem Zb:type_of% @OKS.cutD:=@OKS.cutD
theorem Zc:type_of% @OKS.both:=@OKS.both
theorem Zd:type_of% @Try.underlying23:=@Try.underlying23
theorem Ze:type_of% @Runs.iaN:=@Runs.iaN
theorem Zf:type_of% @wSK:=@wSK
theorem Zg:type_of% @Runs.eql:=@Runs.eql
theorem Zh:type_of% @Runs.iaA:=@Runs.iaA
theorem Zi:type_of% @Try.sizeOf24:=@Try.sizeOf24
theorem Zj:type_of% @Try.runUnderlying52:=@Try.runUnderlying52
theorem Zk:type_of% @Try.runUnderlying93:=@Try.runUnderlying93
theorem Zl:type_of% @Runs.gtr:=@Runs.gtr
theorem Zm:type_of% @Try.zeroValue26:=@Try.zeroValue26
theorem Zn:type_of% @Try.zeroValue35:=@Try.zeroValue35
theorem Zo:type_of% @Try.isAgg24:=@Try.isAgg24
theorem Zp:type_of% @Try.isAgg35:=@Try.isAgg35
theorem Zq:type_of% @Try.runUnderlying37:=@Try.runUnderlying37
theorem Zr:type_of% @Try.sizeOf52:=@Try.sizeOf52
theorem Zs:type_of% @Try.runUnderlying124:=@Try.runUnderlying124
theorem Zt:type_of% @OKS.append0:=@OKS.append0
theorem Zu:type_of% @Try.call70:=@Try.call70
theorem Zv:type_of% @Try.runUnderlying95:=@Try.runUnderlying95
theorem Zw:type_of% @Try.isAgg52:=@Try.isAgg52
theorem Zx:type_of% @Try.sizeOf124:=@Try.sizeOf124
theorem Zy:type_of% @OKS.buildSlice:=@OKS.buildSlice
theorem Zz:type_of% @Try.sizeOf93:=@Try.sizeOf93
theorem yA:type_of% @Try.zeroValue3:=@Try.zeroValue3
theorem yB:type_of% @CK.cut:=@CK.cut
theorem yC:type_of% @Try.sizeOf4:=@Try.sizeOf4
theorem yD:type_of% @CK.forN:=@CK.forN
theorem yE:type_of% @Try.call60:=@Try.call60
theorem yF:type_of% @Try.call68:=@Try.call68
end Go.Proofs.Ytfcmijinklojbaa
namespace Go.Proofs.Ytfcmijinklojbaa
open Go.KL
set_option maxHeartbeats 4000000
theorem wFU (p0:wAB) (ap:Option Addr) (aq:Nat) (au:Option Addr) (az:Nat) (av:Option Addr) (aQ:Nat) (p1:Int) (w:World) (U:PHeap) (hS:St0 w U []) (bi:Sl U 1 ap aq p0.Shots.length (hH KL.encI p0.Shots)) (bj:Sl U 1 au az p0.Down.length (hH KL.encI p0.Down)) (bk:Sl U 2 av aQ p0.Across.length (hH wAA p0.Across)) {r:Bool} (hm:wBT p0 p1=some r):Gv Try.prog 16 [.agg #[.slice ap p0.Shots.length aq,.slice au p0.Down.length az,.slice av p0.Across.length aQ],jV p1] w (wCt w [] U (fun U_ L_ v=>v=.bool r/\L_=[])):=by
 unfold wBT at hm
 refine Gv.of Try.func16 rfl Try.ntmps16 Try.results16 rfl (sR gAg rfl (ZY (cs:=[.slice ap p0.Shots.length aq,.slice au p0.Down.length az,.slice av p0.Across.length aQ]) rfl rfl rfl rfl rfl rfl (by rfl) hS ?_))
 intro W1 b2 ae
 refine oA Z Z (eN (sR fL30 Z (oR Z (zK Z Z zR Z zZ) (oL Z (ae.ldB (j:=0) Z Z Z zd (v:=.slice ap p0.Shots.length aq) Z) (oR Z (zr Z Z zA) (oM Z Z (oR Z (Zl Z Z Z) (oM Z Z ?_))))))))
 by_cases c5:p1 < (↑p0.Shots.length:Int)
 have aV:=hm;rw [if_pos c5] at aV;replace c5:=zN c5
 refine rU Z (wT Z c5) (zK Z Z zR Z zZ) (zy Z Z Z (wT Z c5) (ae.ldB (j:=0) Z Z Z zd (v:=.slice ap p0.Shots.length aq) Z) Z (rU Z (wT Z c5) (zr Z Z zA) (rU Z (wT Z c5) (Runs.leq Z Z Z) (oR Z (zU Z (Zf c5.out) Z) (oM Z Z (ifc aV ?_ ?_))))))
 intro c7 be
 refine oT Z c7 (oT Z c7 (oT Z c7 (oT Z c7 (oR Z (zU Z (Zf c7.out) Z) (oM Z Z (oN Z (oN Z (oN Z (oN Z (oR Z (zU Z Z Z) (oM Z Z (oN Z (oN Z (oN Z (oN Z (oR Z (zU Z Z Z) (oA Z Z (eN (zQ ?_)))))))))))))))))))
 have hE:=nD be;first | subst r | cases hE
 exact ⟨rfl,_,(ZD rfl),U,_,(ae.pick [] _ (by decide) rfl),rfl,rfl⟩
 intro c7 bf
 refine rU Z (wF Z c7) (zK Z Z zR Z zZ) (zy Z Z Z (wF Z c7) (ae.ldB (j:=0) Z Z Z zd (v:=.slice ap p0.Shots.length aq) Z) Z (rU Z (wF Z c7) (zr Z Z zA) (rU Z (wF Z c7) (Zl Z Z Z) (oR Z (zP Z (zm c7.out) Z) (oM Z Z (ifc bf ?_ ?_))))))
 intro ah aW
 refine oT Z ah (oT Z ah (oT Z ah (oT Z ah (oR Z (zU Z (Zf ah.out) Z) (oM Z Z (oN Z (oN Z (oN Z (oN Z (oR Z (zU Z Z Z) (oA Z Z (eN (zQ ?_)))))))))))))
 have hE:=nD aW;first | subst r | cases hE
 exact ⟨rfl,_,(ZD rfl),U,_,(ae.pick [] _ (by decide) rfl),rfl,rfl⟩
 intro ah aX
 refine rU Z (wF Z ah) (zK Z Z zR Z zZ) (zy Z Z Z (wF Z ah) (ae.ldB (j:=0) Z Z Z zd (v:=.slice au p0.Down.length az) Z) Z (rU Z (wF Z ah) (zr Z Z zA) (rU Z (wF Z ah) (Zl Z Z Z) (oR Z (zP Z (zm ah.out) Z) (oM Z Z (ifc aX ?_ ?_))))))
 intro ai aY
 refine oT Z ai (oT Z ai (oT Z ai (oT Z ai (oR Z (zU Z (Zf ai.out) Z) (oA Z Z (eN (zQ ?_)))))))
 have hE:=nD aY;first | subst r | cases hE
 exact ⟨rfl,_,(ZD rfl),U,_,(ae.pick [] _ (by decide) rfl),rfl,rfl⟩
 intro ai aS
 refine rU Z (wF Z ai) (zK Z Z zR Z Zi) (zy Z Z Z (wF Z ai) (ae.ldB (j:=0) Z Z Z Zo (v:=.slice av p0.Across.length aQ) Z) Z (rU Z (wF Z ai) (zr Z Z ZA) (rU Z (wF Z ai) (Zl Z Z Z) (oR Z (zP Z (zm ai.out) Z) (oA Z Z (eN (zQ ?_)))))))
 first | (obtain rfl:=nD aS) | cases aS
 exact ⟨rfl,_,(ZD rfl),U,_,(ae.pick [] _ (by decide) rfl),rfl,rfl⟩
 have aT:=hm;rw [if_neg c5] at aT;replace c5:=zN c5
 refine oF Z c5 (oF Z c5 (oF Z c5 (oF Z c5 (oR Z (zP Z (zm c5.out) Z) (oM Z Z (zV Z Z Z (zE Z Z Z) (fun _=>zK Z Z zR Z zZ) (zy Z Z Z (zE Z Z Z) (ae.ldB (j:=0) Z Z Z zd (v:=.slice ap p0.Shots.length aq) Z) Z (zV Z Z Z (zE Z Z Z) (fun _=>zr Z Z zA) (zV Z Z Z (zE Z Z Z) (fun _=>Zl Z Z Z) (oR Z (zP Z Z Z) (oM Z Z (ifc aT ?_ ?_))))))))))))
 intro aj aZ
 refine oT Z aj (oT Z aj (oT Z aj (oT Z aj (oR Z (zU Z (Zf aj.out) Z) (oM Z Z (oN Z (oN Z (oN Z (oN Z (oR Z (zU Z Z Z) (oA Z Z (eN (zQ ?_)))))))))))))
 have hE:=nD aZ;first | subst r | cases hE
 exact ⟨rfl,_,(ZD rfl),U,_,(ae.pick [] _ (by decide) rfl),rfl,rfl⟩
 intro aj ba
 refine rU Z (wF Z aj) (zK Z Z zR Z zZ) (zy Z Z Z (wF Z aj) (ae.ldB (j:=0) Z Z Z zd (v:=.slice au p0.Down.length az) Z) Z (rU Z (wF Z aj) (zr Z Z zA) (rU Z (wF Z aj) (Zl Z Z Z) (oR Z (zP Z (zm aj.out) Z) (oM Z Z (ifc ba ?_ ?_))))))
 intro ak bb
 refine oT Z ak (oT Z ak (oT Z ak (oT Z ak (oR Z (zU Z (Zf ak.out) Z) (oA Z Z (eN (zQ ?_)))))))
 have hE:=nD bb;first | subst r | cases hE
 exact ⟨rfl,_,(ZD rfl),U,_,(ae.pick [] _ (by decide) rfl),rfl,rfl⟩
 intro ak aU
 refine rU Z (wF Z ak) (zK Z Z zR Z Zi) (zy Z Z Z (wF Z ak) (ae.ldB (j:=0) Z Z Z Zo (v:=.slice av p0.Across.length aQ) Z) Z (rU Z (wF Z ak) (zr Z Z ZA) (rU Z (wF Z ak) (Zl Z Z Z) (oR Z (zP Z (zm ak.out) Z) (oA Z Z (eN (zQ ?_)))))))
 first | (obtain rfl:=nD aU) | cases aU
 exact ⟨rfl,_,(ZD rfl),U,_,(ae.pick [] _ (by decide) rfl),rfl,rfl⟩
theorem wBm (w:World) (U:PHeap) (hS:St0 w U []) {r:Bool} (hm:wAh=some r):Gv Try.prog 15 [] w (wCt w [] U (fun U_ L_ v=>v=.bool r/\L_=[])):=by
 cases hm
 refine (xr15 w).mono ?_
 rintro v w' ⟨rfl,k⟩
 exact ⟨U,[],hS.grow k,Z,Z⟩
theorem wBZ (p0:List Int) (ak:Option Addr) (am:Nat) (w:World) (U:PHeap) (hS:St0 w U []) (aR:Sl U 1 ak am p0.length (hH KL.encI p0)) {r:(List Int)} (hm:wBA p0=some r):Gv Try.prog 18 [.slice ak p0.length am] w (wCt w [] U (fun U_ L_ v=>∃ (A0:Option Addr) (c0:Nat),v=.slice A0 r.length c0/\L_=[.row A0 c0 3 1 (hH KL.encI r)])):=by
 unfold wBA at hm
 refine Gv.of Try.func18 Z Try.ntmps18 Try.results18 Z (sR fL1 Z (oA Z Z (eN (sR gAn Z (oM Z Z ?_)))))
 have av:=hS.nilrow 3 1
 have aj:sW w U U [.row none 0 3 1 (hH KL.encI ([]:List Int))] w:=av
 refine bnK hm fun x4 h5 aS=>OKS.append (j:=0) (enc:=KL.encI) (xs:=([]:List Int)) (ys:=p0) (zs:=x4) Z Z Z Z Z Zd wFr Z Z Z Z Z Z aj Z Z Z (aj.srcS aR) (fun _=>Z) (fun _=>Z) h5 Z ?_
 intro A7 c8 W9 az
 have aQ:sW w U U [.row A7 c8 3 1 (hH KL.encI x4)] W9:=az
 refine oA Z Z (eN (zQ ?_))
 have hE:=nD aS;first | subst r | cases hE
 exact ⟨Z,_,(ZD Z),U,_,aQ,A7,c8,Z,Z⟩
theorem wDe (p0:List wAD) (ak:Option Addr) (am:Nat) (w:World) (U:PHeap) (hS:St0 w U []) (aR:Sl U 2 ak am p0.length (hH wAA p0)) {r:(List wAD)} (hm:wAv p0=some r):Gv Try.prog 58 [.slice ak p0.length am] w (wCt w [] U (fun U_ L_ v=>∃ (A0:Option Addr) (c0:Nat),v=.slice A0 r.length c0/\L_=[.row A0 c0 35 2 (hH wAA r)])):=by
 unfold wAv at hm
 refine Gv.of Try.func58 Z Try.ntmps58 Try.results58 Z (sR fL1 Z (oA Z Z (eN (sR gAn Z (oM Z Z ?_)))))
 have av:=hS.nilrow 35 2
 have aj:sW w U U [.row none 0 35 2 (hH wAA ([]:List wAD))] w:=av
 refine bnK hm fun x4 h5 aS=>OKS.append (j:=0) (enc:=wAA) (xs:=([]:List wAD)) (ys:=p0) (zs:=x4) Z Z Z Z Z Try.underlying24 wLS Z Z Z Z Z Z aj Z Z Z (aj.srcS aR) (fun _=>Z) (fun _=>Z) h5 Z ?_
 intro A7 c8 W9 az
 have aQ:sW w U U [.row A7 c8 35 2 (hH wAA x4)] W9:=az
 refine oA Z Z (eN (zQ ?_))
 have hE:=nD aS;first | subst r | cases hE
 exact ⟨Z,_,(ZD Z),U,_,aQ,A7,c8,Z,Z⟩
theorem wCX (p0:wAB) (aj:Option Addr) (ap:Nat) (ak:Option Addr) (aq:Nat) (am:Option Addr) (au:Nat) (w:World) (U:PHeap) (hS:St0 w U []) (bM:Sl U 1 aj ap p0.Shots.length (hH KL.encI p0.Shots)) (bN:Sl U 1 ak aq p0.Down.length (hH KL.encI p0.Down)) (bO:Sl U 2 am au p0.Across.length (hH wAA p0.Across)) {r:wAB} (hm:wCC p0=some r):Gv Try.prog 17 [.agg #[.slice aj p0.Shots.length ap,.slice ak p0.Down.length aq,.slice am p0.Across.length au]] w (wCt w [] U (fun U_ L_ v=>∃ (be:Option Addr) (bn:Nat) (bf:Option Addr) (bo:Nat) (bg:Option Addr) (bp:Nat),v=.agg #[.slice be r.Shots.length bn,.slice bf r.Down.length bo,.slice bg r.Across.length bp]/\L_=[.row be bn 3 1 (hH KL.encI r.Shots),.row bf bo 3 1 (hH KL.encI r.Down),.row bg bp 35 2 (hH wAA r.Across)])):=by
 unfold wCC at hm
 refine Gv.of Try.func17 Z Try.ntmps17 Try.results17 Z (sR gAi Z ?_)
 let B0:List Value:=[.slice aj p0.Shots.length ap,.slice ak p0.Down.length aq,.slice am p0.Across.length au]
 refine ZY (cs:=B0) rfl rfl rfl rfl rfl rfl (by rfl) hS ?_
 intro W1 b2 bF
 let B1:List Value:=[.slice none 0 0,.slice none 0 0,.slice none 0 0]
 refine zx (cs:=B1) Z Z Z Z Z Zm Z bF ?_
 intro W5 b6 bL
 refine eN (zJ (ZN ZO [3,1,2,3,1,2,3,1,2,3,0] (.fl 0 (.fl 1 (.fl 3 (.fl 4 (.fl 6 (.fl 7 (.fx 2 (.fx 5 (.fx 8 (.fl 9 (.fx 10 .nil .stop)) .stop) .stop) .stop))))))) (by kernel_rfl) ?_))
 have ai:=bL.drew
 generalize hw_W10:({ W5 with drawn:=W5.drawn + 1 }:World)=bs at ai ⊢
 refine oR Z (zK Z Z zR Z zZ) (oL Z (ai.ldB (j:=1) Z Z Z zd (v:=.slice aj p0.Shots.length ap) Z) (oR Z (zK Z Z zR Z zZ) (oL Z (ai.ldB (j:=1) Z Z Z zd (v:=.slice ak p0.Down.length aq) Z) (oR Z (zK Z Z zR Z Zi) (oL Z (ai.ldB (j:=1) Z Z Z Zo (v:=.slice am p0.Across.length au) Z) (bnK hm fun aZ bv bP=>zM 0 Z Z Z Z (zL Z Z Try.call18 (zB Z zS) Z) ai (fun hs=>wBZ p0.Shots aj ap bs U hs bM bv) (.inr Z) ?_))))))
 rintro bi bT bY bk br bD ⟨av,aU,rfl,rfl⟩
 let B2:Res:=.row av aU 3 1 (hH KL.encI aZ)
 have bE:sW w U bi [B2,.blk b6 26 B1,.blk b2 26 B0] bk:=bD
 have bw:=bN.le br
 refine bnK bP fun ba bz bQ=>zM 0 Z Z Z Z (zL Z Z Try.call18 (zB Z zS) Z) bE (fun hs=>wBZ p0.Down ak aq bk bi hs bw bz) (.inr Z) ?_
 rintro bj bU bZ bl bS bG ⟨az,aV,rfl,rfl⟩
 let B3:Res:=.row az aV 3 1 (hH KL.encI ba)
 have bH:sW w U bj [B3,B2,.blk b6 26 B1,.blk b2 26 B0] bl:=bG
 have bA:=bO.le br
 have bB:=bA.le bS
 refine bnK bQ fun bb bC bR=>zM 0 Z Z Z Z (zL Z Z Try.call58 (zB Z zS) Z) bH (fun hs=>wDe p0.Across am au bl bj hs bB bC) (.inr Z) ?_
 rintro aY bV b5 bt bX bI ⟨aQ,aW,rfl,rfl⟩
 let B4:Res:=.row aQ aW 35 2 (hH wAA bb)
 have bJ:sW w U aY [B4,B3,B2,.blk b6 26 B1,.blk b2 26 B0] bt:=bI
 let B5:List Value:=[.slice av aZ.length aU,.slice az ba.length aV,.slice aQ bb.length aW]
 refine oR Z (ZM (pv:=[(0,.slice av aZ.length aU),(1,.slice az ba.length aV),(2,.slice aQ bb.length aW)]) (z:=B1) (cs:=B5) Z (wAR Z (wAR Z (wAR Z wAo))) Zm wIw Z Z) (zt (j:=3) (vs:=B5) Z Z Z Z bJ Z Z Z Z zu (zC Z) Z Z Z ?_)
 intro bu bK
 have bq:sW w U aY [B4,B3,B2,.blk b6 26 B5,.blk b2 26 B0] bu:=bK
 refine eN (zQ ?_)
 cases bR
 exact ⟨rfl,_,(wIh (v:=.agg B5.toArray) ⟨⟨_,rfl,(wBR ZT zu (bq.blkAt (k:=3) rfl) (vs:=B5) rfl rfl)⟩,trivial⟩),aY,_,(bq.pick [2,1,0] _ (by decide) rfl),av,aU,az,aV,aQ,aW,rfl,rfl⟩
theorem wCe (p0:wAB) (ab:Option Addr) (ah:Nat) (ae:Option Addr) (ai:Nat) (aU:Option Addr) (aV:Nat) (w:World) (U:PHeap) (hS:St0 w U []) (cz:Sl U 1 ab ah p0.Shots.length (hH KL.encI p0.Shots)) (cA:Sl U 1 ae ai p0.Down.length (hH KL.encI p0.Down)) (cB:Sl U 2 aU aV p0.Across.length (hH wAA p0.Across)) {r:wAC} (hm:wCK p0=some r):Gv Try.prog 19 [.agg #[.slice ab p0.Shots.length ah,.slice ae p0.Down.length ai,.slice aU p0.Across.length aV]] w (wCt w [] U (fun U_ L_ v=>∃ (bn:Option Addr) (bt:Nat) (bo:Option Addr) (bu:Nat) (bp:Option Addr) (bv:Nat),v=.agg #[.slice bn r.Shots.length bt,.slice bo r.Down.length bu,.slice bp r.Across.length bv]/\L_=[.row bp bv 124 2 (hH wAE r.Across)]/\Sl U_ 1 bn bt r.Shots.length (hH KL.encI r.Shots)/\Sl U_ 1 bo bu r.Down.length (hH KL.encI r.Down))):=by
 unfold wCK at hm
 refine Gv.of Try.func19 Z Try.ntmps19 Try.results19 Z (sR gAi Z ?_)
 let B0:List Value:=[.slice ab p0.Shots.length ah,.slice ae p0.Down.length ai,.slice aU p0.Across.length aV]
 refine ZY (cs:=B0) rfl rfl rfl rfl rfl rfl (by rfl) hS ?_
 intro W1 b2 cm
 let B1:List Value:=[.slice none 0 0,.slice none 0 0,.slice none 0 0]
 refine zx (cs:=B1) Z Z Z Z Z ZF Z cm ?_
 intro W5 b6 bj
 refine eN (sR (wEQ gAj) Z (oR Z (zK Z Z zR Z zZ) (oL Z (bj.ldB (j:=1) Z Z Z zd (v:=.slice ab p0.Shots.length ah) Z) (oR Z (zK Z Z zR Z zZ) (oL Z (bj.ldB (j:=1) Z Z Z zd (v:=.slice ae p0.Down.length ai) Z) ?_)))))
 let B2:List Value:=[.slice ab p0.Shots.length ah,.slice ae p0.Down.length ai,.slice none 0 0]
 refine oR Z (ZM (pv:=[(0,.slice ab p0.Shots.length ah),(1,.slice ae p0.Down.length ai)]) (z:=B1) (cs:=B2) Z (wAR Z (wAR Z wAo)) ZF wGQ Z Z) (zx (cs:=B1) Z Z Z Z Z ZF Z bj ?_)
 intro W9 aQ ci
 refine zt (j:=0) (vs:=B2) Z Z Z Z ci Z Z Z Z zz (zC Z) Z Z Z ?_
 intro bM cj
 have bF:sW w U U [.blk aQ 54 B2,.blk b6 54 B1,.blk b2 26 B0] bM:=cj
 refine eN (zJ (sR fL4 Z (oR Z (zK Z Z zR Z Zi) (oL Z (bF.ldB (j:=2) Z Z Z Zo (v:=.slice aU p0.Across.length aV) Z) (oR Z (zr Z Z ZA) (oM Z Z (eN (zi (bnK hm fun bK cC cG=>?_)))))))))
 have q:=wCQ cC
 obtain ⟨bm,cD⟩:=q
 replace bm:=zN bm
 refine CK.forN' (fun aT au σ_ w_=>∃ (U_:PHeap) (av:Option Addr) (aR:Nat),σ_ 14=jV (↑aT:Int)/\σ_ 2=.pointer (some ⟨b6,0,none⟩)/\σ_ 3=.pointer (some ⟨aQ,0,none⟩)/\σ_ 12=.slice aU p0.Across.length aV/\σ_ 13=jV (↑p0.Across.length:Int)/\PHeap.Le U U_/\sW w U U_ [.row av aR 124 2 (hH wAE au),.blk aQ 54 [.slice ab p0.Shots.length ah,.slice ae p0.Down.length ai,.slice av au.length aR],.blk b6 54 B1,.blk b2 26 B0] w_) cD ?_ ?_ ?_
 have cn:=bF.nilrow 124 2
 exact ⟨U,none,0,Z,Z,Z,Z,Z,(zX _),cn⟩
 rintro aT au cV cW cM bl ⟨aS,av,aR,bi,bV,bh,bA,bB,bJ,bG⟩ cJ
 have bw:Hid ((↑aT:Int) < (↑p0.Across.length:Int)):=zN (wCO bl)
 replace bl:=zN bl
 have cE:Hid (w64 ((↑aT:Int) + 1)=(↑(aT + 1):Int)):=zN (by have h1:=bm.out;have h2:=bw.out;rw [wAM] <;> omega)
 refine sR fL1 Z (oR Z (zo Z bi bB) (eN (zJ (cT Z bw (kN (zJ (zi (sR gAw Z (bnK cJ fun x57 bC cH=>?_)))))))))
 have bZ:=cB.le bJ
 have q:=bZ.el (fun _=>rfl) (wAV bC)
 obtain ⟨cR,cU,b9,cf⟩:=q
 refine oR Z (Ze Z bA b9 bi ZA ZH (wCd bC)) (oL Z (bG.ldCA (f:=0) cf Z Z Zp ZH (us:=[jV x57.Skier,jV x57.Lane]) Z Z) (zx (cs:=[jV 0,jV 0]) Z Z Z Z Z Zn Z bG ?_))
 intro cO aX cp
 let B3:List Value:=[jV x57.Skier,jV x57.Lane]
 refine zt (j:=0) (vs:=B3) Z Z Z Z cp Z Z Z Z ZH (zC Z) Z Z Z ?_
 intro bN cq
 let B4:Res:=.blk aQ 54 [.slice ab p0.Shots.length ah,.slice ae p0.Down.length ai,.slice av au.length aR]
 let B5:Res:=.row av aR 124 2 (hH wAE au)
 have bk:sW w U aS [.blk aX 35 B3,B5,B4,.blk b6 54 B1,.blk b2 26 B0] bN:=cq
 refine eN (rR (wDw (.fx 3 (.fx 4 (.fl 5 (.fx 6 .nil .stop)) .stop) .stop)) Z (oR Z (zK Z bh zY Z Zr) (oL Z (bk.ldB (j:=2) Z Z Z Zw (v:=.slice av au.length aR) Z) (oL Z (bk.ldBA (j:=0) Z Z Z Zp ZH (vs:=B3) Z Z) (Zy (pv:=[(0,.agg B3.toArray)]) (zs:=[jV 0,jV 0]) (cs:=B3) Z Z Z Z Z (wAR Z wAo) Zj Zx Try.zeroValue124 Z Z Z Z Z bk ?_)))))
 intro bO bR cr
 let B6:Res:=.row (some ⟨bR,0,none⟩) 1 124 2 (hH wAE [(⟨x57.Skier,x57.Lane⟩:wAl)])
 have bH:sW w U aS [B6,.blk aX 35 B3,B5,B4,.blk b6 54 B1,.blk b2 26 B0] bO:=cr
 refine bnK cH fun aZ b5 cI=>OKS.append (j:=2) (enc:=wAE) (xs:=au) (ys:=[(⟨x57.Skier,x57.Lane⟩:wAl)]) (zs:=aZ) rfl rfl rfl rfl rfl Try.underlying52 wRZ rfl rfl rfl rfl rfl rfl bH rfl rfl rfl (bH.srcR (j:=0) rfl (by decide) (wAI (f:=wAE) (sz:=2) (fun _=>rfl) [(⟨x57.Skier,x57.Lane⟩:wAl)])) (fun _=>rfl) (fun _=>rfl) b5 rfl ?_
 intro aW aY bP ct
 let B7:Res:=.row aW aY 124 2 (hH wAE aZ)
 have cu:sW w U aS [B6,.blk aX 35 B3,B7,B4,.blk b6 54 B1,.blk b2 26 B0] bP:=ct
 refine oR Z (zK Z bh zY Z Zr) (zt (j:=3) (vs:=[.slice aW aZ.length aY]) Z Z Z Z cu Z Z Z Z Zr (zC Z) Z Z Z ?_)
 intro bQ cw
 have cy:sW w U aS [B6,.blk aX 35 B3,B7,.blk aQ 54 [.slice ab p0.Shots.length ah,.slice ae p0.Down.length ai,.slice aW aZ.length aY],.blk b6 54 B1,.blk b2 26 B0] bQ:=cw
 refine zn (zp (zI (rR fL2 Z (oR Z (ZI (zk Z bi Z) (congrArg (jV) cE.out)) (oM Z Z (zn ?_))))))
 cases cI
 exact zI ⟨rfl,⟨aS,aW,aY,rfl,bV,bh,bA,bB,bJ,(cy.pick [2,3,4,5] _ (by decide) rfl)⟩⟩
 rintro cX cQ ⟨bs,ba,bg,bW,bz,bT,cS,bU,bI,bD⟩
 have bS:Hid (¬ ((↑(((↑p0.Across.length:Int):Int) - 0).toNat:Int) < (↑p0.Across.length:Int))):=zN (wBi)
 refine sR fL1 Z (oR Z (zo Z bW bU) (eN (zJ (cF Z bS (ZS (zq (zq (ZJ (zI (sR gAk Z ?_))))))))))
 let B8:List Value:=[.slice ab p0.Shots.length ah,.slice ae p0.Down.length ai,.slice ba bK.length bg]
 refine oL Z (bD.ldBA (j:=1) Z Z bT ZK zz (vs:=B8) Z Z) (zt (j:=2) (vs:=B8) Z Z Z Z bD Z bz Z Z zz (zC Z) Z Z Z ?_)
 intro bL cg
 have bE:sW w U bs [.row ba bg 124 2 (hH wAE bK),.blk aQ 54 B8,.blk b6 54 B8,.blk b2 26 B0] bL:=cg
 refine eN (zQ ?_)
 have bX:=cz.le bI
 have bY:=cA.le bI
 cases cG
 exact ⟨rfl,_,(wIh (v:=.agg B8.toArray) ⟨⟨_,bz,(wBR ZK zz (bE.blkAt (k:=2) rfl) (vs:=B8) rfl rfl)⟩,trivial⟩),bs,_,(bE.pick [0] _ (by decide) rfl),ab,ah,ae,ai,ba,bg,rfl,rfl,bX,bY⟩
theorem wAq (p0:Int) (p1:Int) (p2:Int) (w:World) (U:PHeap) (hS:St0 w U [])  {r:Bool} (hm:wAb p0 p1 p2=some r):Gv Try.prog 70 [jV p0,jV p1,jV p2] w (wCt w [] U (fun U_ L_ v=>v=.bool r/\L_=[])):=by
 unfold wAb at hm
 refine Gv.of Try.func70 Z Try.ntmps70 Try.results70 Z (sR fL1 Z (oA Z Z (eN (sR fL9 Z (oM Z Z (oM Z Z (oR Z (Runs.geq Z Z Z) (oM Z Z ?_))))))))
 by_cases c1:p1 <= p0
 have ab:=hm;rw [if_pos c1] at ab;replace c1:=zN c1
 refine zW Z Z Z (wT Z c1) Z Z (zW Z Z Z (wT Z c1) Z Z (rU Z (wT Z c1) (Runs.leq Z Z Z) (oR Z (zU Z (Zf c1.out) Z) (oA Z Z (eN (zQ ?_))))))
 first | (obtain rfl:=nD ab) | cases ab
 exact ⟨Z,_,(ZD Z),U,_,hS,Z,Z⟩
 have ai:=hm;rw [if_neg c1] at ai;replace c1:=zN c1
 refine oF Z c1 (oF Z c1 (oF Z c1 (oR Z (zP Z (zm c1.out) Z) (oA Z Z (eN (zQ ?_))))))
 have hE:=nD ai;first | subst r | cases hE
 exact ⟨Z,_,(ZD Z),U,_,hS,Z,Z⟩
theorem wGR (p0:Int) (p1:(Int->Option Bool)) (ai:Nat) (ab:Value) (w:World) (U:PHeap) (hS:St0 w U []) (aq:Cl U ai 0 [ab]) (au:FnOK Try.prog U ab wLR wOE p1) {r:Bool} (hm:wBt p0 p1=some r):Gv Try.prog 102 [jV p0,.pointer (some ⟨ai,0,none⟩)] w (wCt w [] U (fun U_ L_ v=>v=.bool r/\L_=[])):=by
 unfold wBt at hm
 refine Gv.of Try.func102 Z Try.ntmps102 Try.results102 Z (sR fL1 Z (oA Z Z (eN (sR gAy Z (oL Z (hS.ldC (f:=0) aq (v:=ab) Z Z Try.isAgg74 Z) (oM Z Z (bnK hm fun x1 h2 av=>OKS.callV (a:=p0) Z Z Z Z Z Z (zB Z zS) hS au Z h2 ?_)))))))
 rintro U4 L5 v6 W7 aQ ap ⟨rfl,rfl⟩
 have am:sW w U U4 [] W7:=ap
 refine oR Z (ZR Z Z) (oA Z Z (eN (zQ ?_)))
 cases av
 exact ⟨Z,_,(ZD Z),U4,_,am,Z,Z⟩
theorem wCu (p0:List Int) (aq:Option Addr) (au:Nat) (p1:(Int->Option Bool)) (av:Value) (w:World) (U:PHeap) (hS:St0 w U []) (bp:Sl U 1 aq au p0.length (hH KL.encI p0)) (bq:FnOK Try.prog U av wLR wOE p1) {r:Int} (hm:wAg p0 p1=some r):Gv Try.prog 97 [.slice aq p0.length au,av] w (wCt w [] U (fun U_ L_ v=>v=jV r/\L_=[])):=by
 unfold wAg at hm
 refine Gv.of Try.func97 Z Try.ntmps97 Try.results97 Z (sR fL1 Z (oA Z Z (eN (zJ (sR fL3 Z (oM Z Z (oR Z (zr Z Z zA) (oM Z Z (eN (zi ?_))))))))))
 have q:=wDL hm
 obtain ⟨r3,aj⟩:=q
 have q:=wDK aj
 obtain ⟨am,bt⟩:=q
 replace am:=zN am
 refine yD (fun k2 _ σ_ w_=>∃ (U_:PHeap),σ_ 8=jV (↑k2:Int)/\σ_ 0=.slice aq p0.length au/\σ_ 1=av/\σ_ 7=jV (↑p0.length:Int)/\PHeap.Le U U_/\sW w U U_ [] w_) bt ?_ ?_ ?_
 exact ⟨U,Z,Z,Z,Z,(zX _),hS⟩
 rintro k2 ⟨⟩ bQ bS W8 ak ⟨bF,ai,aQ,aR,aS,ap,aU⟩ aX br
 try dsimp only at aX
 have az:Hid ((↑k2:Int) < (↑p0.length:Int)):=zN (wCO ak)
 replace ak:=zN ak
 have bu:Hid (w64 ((↑k2:Int) + 1)=(↑(k2 + 1):Int)):=zN (by have h1:=am.out;have h2:=az.out;rw [wAM] <;> omega)
 refine sR fL1 Z (oR Z (zo Z ai aS) (eN (zJ (cT Z az (kN (zJ (zi (sR fL2 Z (oM Z ai (oA Z Z (eN (sR (wEQ (.fx 5 .nil .stop)) Z (oM Z aR (oM Z aQ (oM Z Z (bnK aX fun aZ aT bv=>?_))))))))))))))))
 have bi:=bp.le ap
 have q:=bi.el (fun _=>rfl) (wAV aT)
 obtain ⟨bI,bM,bl,bm⟩:=q
 refine oR Z (Ze Z Z bl Z zA zD (wCd aT)) (oL Z (aU.ldC (f:=0) bm (v:=jV aZ) Z Z zO Z) (bnK bv fun bP bj bw=>?_))
 have bk:=bq.le ap
 refine OKS.callV (a:=aZ) Z Z Z Z Z Z (zB Z zS) aU bk Z bj ?_
 rintro ae bE bO bb bC bn ⟨rfl,rfl⟩
 have aV:sW w U ae [] bb:=bn
 refine eN (ifc bw ?_ ?_)
 intro ah bz
 refine ZB (congrArg nA ah.out) (sR fL2 Z (oM Z Z (oA Z Z (eN (zQ (ZE (ze ?_)))))))
 have q:=wAj bz
 obtain ⟨bD,bA,bf⟩:=q
 have q:=wDl hm aj (br bD bf)
 obtain rfl:=q
 refine ze (ZE (ze ?_))
 cases bA
 exact ⟨Z,_,(ZD Z),ae,_,aV,Z,Z⟩
 intro ah bB
 refine zg (congrArg nA (nB.2 ah.out)) (Za (zp (zI (rR fL2 Z (oR Z (ZI (zk Z ai Z) (congrArg (jV) bu.out)) (oM Z Z (zn ?_)))))))
 have q:=nD bB
 obtain rfl:=q
 exact zI ⟨Z,_,Z,⟨ae,Z,aQ,aR,aS,(ap.trans bC),aV⟩⟩
 rintro ⟨⟩ bR bG ⟨ba,bh,bJ,bK,bg,bL,bo⟩ bs
 have aW:=wEA hm aj bs
 try dsimp only at aW
 have be:Hid (¬ ((↑(((↑p0.length:Int):Int) - 0).toNat:Int) < (↑p0.length:Int))):=zN (wBi)
 refine sR fL1 Z (oR Z (zo Z bh bg) (eN (zJ (cF Z be (ZS (zq (zq (ZJ (zI (sR fL1 Z (oA Z Z (eN (zQ ?_)))))))))))))
 cases aW
 exact ⟨Z,_,(ZD Z),ba,_,bo,Z,Z⟩
theorem wCi (p0:List Int) (ae:Option Addr) (ah:Nat) (p1:(Int->Option Bool)) (ai:Value) (w:World) (U:PHeap) (hS:St0 w U []) (av:Sl U 1 ae ah p0.length (hH KL.encI p0)) (az:FnOK Try.prog U ai wLR wOE p1) {r:Bool} (hm:wAf p0 p1=some r):Gv Try.prog 98 [.slice ae p0.length ah,ai] w (wCt w [] U (fun U_ L_ v=>v=.bool r/\L_=[])):=by
 unfold wAf at hm
 refine Gv.of Try.func98 Z Try.ntmps98 Try.results98 Z (sR fL1 Z (oA Z Z (eN (sR gAy Z (oM Z Z (oM Z Z (bnK hm fun x1 h2 ak=>zM 0 Z Z Z Z (zL Z Z Try.call97 (zB Z (zB Z zS)) Z) hS (fun hs=>wCu p0 ae ah p1 ai w U hs av az h2) (.inr Z) ?_)))))))
 rintro U4 L5 v6 W7 aR au ⟨rfl,rfl⟩
 have aq:sW w U U4 [] W7:=au
 refine oR Z (Runs.geq Z Z Z) (oA Z Z (eN (zQ ?_)))
 first | (obtain rfl:=nD ak) | cases ak
 exact ⟨Z,_,(ZD Z),U4,_,aq,Z,Z⟩
theorem wDh (p0:List Int) (ak:Option Addr) (am:Nat) (p1:(Int->Option Bool)) (ai:Value) (w:World) (U:PHeap) (hS:St0 w U []) (ba:Sl U 1 ak am p0.length (hH KL.encI p0)) (au:FnOK Try.prog U ai wLR wOE p1) {r:Bool} (hm:wBx p0 p1=some r):Gv Try.prog 79 [.slice ak p0.length am,ai] w (wCt w [] U (fun U_ L_ v=>v=.bool r/\L_=[])):=by
 unfold wBx at hm
 refine Gv.of Try.func79 Z Try.ntmps79 Try.results79 Z (sR gAg Z (ZY (cs:=[ai]) Z Z Z Z Z Z (FnOK.cells au) hS ?_))
 intro W1 b2 aX
 have q:=aX.freeze (k:=0) rfl
 obtain ⟨U5,av,ab,aY⟩:=q
 replace ab:=Cl.of ab
 have aZ:sW w U U5 [] W1:=aY
 replace ab:Cl U5 b2 0 [ai]:=ab
 refine oA Z Z (eN (sR gAy Z (oM Z Z (oR Z (Runs.mkf Z zS (zB Z zS)) ?_))))
 have aR:=ba.le av
 have aS:=au.le av
 have aU:FnOK Try.prog U5 (.func (.func 102) #[] #[.pointer (some ⟨b2,0,none⟩)]) wLR wOE (fun x=>wBt x p1):=⟨102,[],[.pointer (some ⟨b2,0,none⟩)],rfl,Try.call102,fun U1 w1 x y vs le hs ha hm=>by obtain rfl:=ha;exact wGR x p1 b2 ai w1 U1 hs (ab.le le) (aS.le le) hm⟩
 refine bnK hm fun x13 aT bb=>zM 0 Z Z Z Z (zL Z Z Try.call98 (zB Z (zB Z zS)) Z) aZ (fun hs=>wCi p0 ak am (fun x=>wBt x p1) (.func (.func 102) #[] #[.pointer (some ⟨b2,0,none⟩)]) W1 U5 hs aR aU aT) (.inr Z) ?_
 rintro ap bf bh aQ bg aV ⟨rfl,rfl⟩
 have aW:sW w U ap [] aQ:=aV
 refine oR Z (ZR Z Z) (oA Z Z (eN (zQ ?_)))
 cases bb
 exact ⟨Z,_,(ZD Z),ap,_,aW,Z,Z⟩
theorem wGs (p0:Int) (w:World) (U:PHeap) (hS:St0 w U [])  {r:Bool} (hm:wBc p0=some r):Gv Try.prog 109 [jV p0] w (wCt w [] U (fun U_ L_ v=>v=.bool r/\L_=[])):=by
 unfold wBc at hm
 refine Gv.of Try.func109 Z Try.ntmps109 Try.results109 Z (sR fL1 Z (oA Z Z (eN (sR gAn Z (oM Z Z (bnK hm fun x1 h2 ak=>zM 0 Z Z Z Z (zL Z Z Zu (zB Z (zB Z (zB Z zS))) Z) hS (fun hs=>wAq p0 0 8 w U hs h2) (.inr Z) ?_))))))
 rintro U4 L5 v6 W7 ap aj ⟨rfl,rfl⟩
 have ai:sW w U U4 [] W7:=aj
 refine oA Z Z (eN (zQ ?_))
 have hE:=nD ak;first | subst r | cases hE
 exact ⟨Z,_,(ZD Z),U4,_,ai,Z,Z⟩
theorem wGt (p0:Int) (w:World) (U:PHeap) (hS:St0 w U [])  {r:Bool} (hm:wBd p0=some r):Gv Try.prog 110 [jV p0] w (wCt w [] U (fun U_ L_ v=>v=.bool r/\L_=[])):=by
 unfold wBd at hm
 refine Gv.of Try.func110 Z Try.ntmps110 Try.results110 Z (sR fL1 Z (oA Z Z (eN (sR gAn Z (oM Z Z (bnK hm fun x1 h2 ak=>zM 0 Z Z Z Z (zL Z Z Zu (zB Z (zB Z (zB Z zS))) Z) hS (fun hs=>wAq p0 0 5 w U hs h2) (.inr Z) ?_))))))
 rintro U4 L5 v6 W7 ap aj ⟨rfl,rfl⟩
 have ai:sW w U U4 [] W7:=aj
 refine oA Z Z (eN (zQ ?_))
 have hE:=nD ak;first | subst r | cases hE
 exact ⟨Z,_,(ZD Z),U4,_,ai,Z,Z⟩
theorem wGu (p0:wAD) (p1:Int) (aR:Nat) (w:World) (U:PHeap) (hS:St0 w U []) (az:Cl U aR 0 [jV p1]) {r:Bool} (hm:wBe p0 p1=some r):Gv Try.prog 112 [.agg #[jV p0.Skier,jV p0.Lane],.pointer (some ⟨aR,0,none⟩)] w (wCt w [] U (fun U_ L_ v=>v=.bool r/\L_=[])):=by
 unfold wBe at hm
 refine Gv.of Try.func112 Z Try.ntmps112 Try.results112 Z (sR gAg Z ?_)
 let B0:List Value:=[jV p0.Skier,jV p0.Lane]
 refine ZY (cs:=B0) rfl rfl rfl rfl rfl rfl (by rfl) hS ?_
 intro W1 b2 aq
 refine oA Z Z (eN (sR (wEX (.fx 4 (wRt (.fx 10 (wRx (.nil)) .stop)) .stop)) Z (oR Z (zK Z Z ZW Z zD) (oL Z (aq.ldB (j:=0) Z Z Z zO (v:=jV p0.Skier) Z) (oL Z (aq.ldC (f:=0) az (v:=jV p1) Z Z zO Z) (oR Z (ZG Z Z Z) (bnK hm fun x5 h6 bf=>zM 0 Z Z Z Z (zL Z Z Zu (zB Z (zB Z (zB Z zS))) Z) aq (fun hs=>wAq p0.Skier 0 (w64 (p1 - 1)) W1 U hs h6) (.inr Z) ?_)))))))
 rintro U8 L9 bk au bg aX ⟨rfl,rfl⟩
 have ai:sW w U U8 [.blk b2 35 B0] au:=aX
 refine oM Z Z (ifc bf ?_ ?_)
 intro aa aZ
 refine zV Z Z Z (zE Z Z (congrArg nA aa.out)) (fun _=>zK Z Z ZW Z zD) (zy Z Z Z (zE Z Z (congrArg nA aa.out)) (ai.ldB (j:=0) Z Z Z zO (v:=jV p0.Lane) Z) Z ?_)
 have aU:=az.le bg
 refine zy Z Z Z (zE Z Z (congrArg nA aa.out)) (ai.ldC (f:=0) aU (v:=jV p1) Z Z zO Z) Z (zV Z Z Z (zE Z Z (congrArg nA aa.out)) (fun _=>ZG Z Z Z) (bnK aZ fun bm aV ba=>zM 0 Z Z Z (zE Z Z (congrArg nA aa.out)) (zL Z Z Zu (zB Z (zB Z (zB Z zS))) Z) ai (fun hs=>wAq p0.Lane 0 (w64 (p1 - 1)) au U8 hs aV) (.inr Z) ?_))
 rintro am bh bl aT bj aY ⟨rfl,rfl⟩
 have aj:sW w U am [.blk b2 35 B0] aT:=aY
 refine oR Z (zU Z (congrArg nA aa.out) Z) (oM Z Z (ifc ba ?_ ?_))
 intro ab aQ
 refine zV Z Z Z (zE Z Z (congrArg nA ab.out)) (fun _=>zK Z Z ZW Z zD) (zy Z Z Z (zE Z Z (congrArg nA ab.out)) (aj.ldB (j:=0) Z Z Z zO (v:=jV p0.Skier) Z) Z (zV Z Z Z (zE Z Z (congrArg nA ab.out)) (fun _=>zK Z Z ZW Z zD) (zy Z Z Z (zE Z Z (congrArg nA ab.out)) (aj.ldB (j:=0) Z Z Z zO (v:=jV p0.Lane) Z) Z (zV Z Z Z (zE Z Z (congrArg nA ab.out)) (fun _=>ZL Z Z Z) (oR Z (zU Z (congrArg nA ab.out) Z) (oA Z Z (eN (zQ ?_))))))))
 first | (obtain rfl:=nD aQ) | cases aQ
 exact ⟨rfl,_,(ZD rfl),am,_,(aj.pick [] _ (by decide) rfl),rfl,rfl⟩
 intro ab bb
 refine zG Z Z Z (zF Z Z (congrArg nA (nB.2 ab.out)) Z) (zG Z Z Z (zF Z Z (congrArg nA (nB.2 ab.out)) Z) (zG Z Z Z (zF Z Z (congrArg nA (nB.2 ab.out)) Z) (zG Z Z Z (zF Z Z (congrArg nA (nB.2 ab.out)) Z) (zG Z Z Z (zF Z Z (congrArg nA (nB.2 ab.out)) Z) (oR Z (zP Z (congrArg nA (nB.2 ab.out)) Z) (oA Z Z (eN (zQ ?_))))))))
 have hE:=nD bb;first | subst r | cases hE
 exact ⟨rfl,_,(ZD rfl),am,_,(aj.pick [] _ (by decide) rfl),rfl,rfl⟩
 intro aa be
 refine zG Z Z Z (zF Z Z (congrArg nA (nB.2 aa.out)) Z) (zG Z Z Z (zF Z Z (congrArg nA (nB.2 aa.out)) Z) (zG Z Z Z (zF Z Z (congrArg nA (nB.2 aa.out)) Z) (zG Z Z Z (zF Z Z (congrArg nA (nB.2 aa.out)) Z) (ZV Z Z Z (zF Z Z (congrArg nA (nB.2 aa.out)) Z) (oR Z (zP Z (congrArg nA (nB.2 aa.out)) Z) (oM Z Z (oN Z (oN Z (oN Z (oN Z (oN Z (oR Z (zP Z Z Z) (oA Z Z (eN (zQ ?_)))))))))))))))
 have hE:=nD be;first | subst r | cases hE
 exact ⟨rfl,_,(ZD rfl),U8,_,(ai.pick [] _ (by decide) rfl),rfl,rfl⟩
theorem wDx (p0:wAD) (p1:(wAD->Option Bool)) (ak:Nat) (ah:Value) (w:World) (U:PHeap) (hS:St0 w U []) (az:Cl U ak 0 [ah]) (aQ:FnOK Try.prog U ah wSH wSI p1) {r:Bool} (hm:wAw p0 p1=some r):Gv Try.prog 119 [.agg #[jV p0.Skier,jV p0.Lane],.pointer (some ⟨ak,0,none⟩)] w (wCt w [] U (fun U_ L_ v=>v=.bool r/\L_=[])):=by
 unfold wAw at hm
 refine Gv.of Try.func119 Z Try.ntmps119 Try.results119 Z (sR gAg Z ?_)
 let B0:List Value:=[jV p0.Skier,jV p0.Lane]
 refine ZY (cs:=B0) rfl rfl rfl rfl rfl rfl (by rfl) hS ?_
 intro W1 b2 ae
 refine oA Z Z (eN (sR gAy Z (oL Z (ae.ldC (f:=0) az (v:=ah) Z Z Try.isAgg81 Z) (oL Z (ae.ldBA (j:=0) Z Z Z Zp ZH (vs:=B0) Z Z) (bnK hm fun x5 h6 aR=>OKS.callV (a:=p0) Z Z Z Z Z Z (zB Z zS) ae aQ Z h6 ?_)))))
 rintro U8 L9 aV am aU au ⟨rfl,rfl⟩
 have av:sW w U U8 [.blk b2 35 B0] am:=au
 refine oR Z (ZR Z Z) (oA Z Z (eN (zQ ?_)))
 cases aR
 exact ⟨rfl,_,(ZD rfl),U8,_,(av.pick [] _ (by decide) rfl),rfl,rfl⟩
theorem wCj (p0:List wAD) (aq:Option Addr) (au:Nat) (p1:(wAD->Option Bool)) (av:Value) (w:World) (U:PHeap) (hS:St0 w U []) (bp:Sl U 2 aq au p0.length (hH wAA p0)) (bq:FnOK Try.prog U av wSH wSI p1) {r:Int} (hm:wAk p0 p1=some r):Gv Try.prog 82 [.slice aq p0.length au,av] w (wCt w [] U (fun U_ L_ v=>v=jV r/\L_=[])):=by
 unfold wAk at hm
 refine Gv.of Try.func82 Z Try.ntmps82 Try.results82 Z (sR fL1 Z (oA Z Z (eN (zJ (sR fL3 Z (oM Z Z (oR Z (zr Z Z ZA) (oM Z Z (eN (zi ?_))))))))))
 have q:=wDL hm
 obtain ⟨r3,aj⟩:=q
 have q:=wDK aj
 obtain ⟨am,bt⟩:=q
 replace am:=zN am
 refine yD (fun k2 _ σ_ w_=>∃ (U_:PHeap),σ_ 8=jV (↑k2:Int)/\σ_ 0=.slice aq p0.length au/\σ_ 1=av/\σ_ 7=jV (↑p0.length:Int)/\PHeap.Le U U_/\sW w U U_ [] w_) bt ?_ ?_ ?_
 exact ⟨U,Z,Z,Z,Z,(zX _),hS⟩
 rintro k2 ⟨⟩ bQ bS W8 ak ⟨bF,ai,aR,aS,aT,ap,aV⟩ aY br
 try dsimp only at aY
 have aQ:Hid ((↑k2:Int) < (↑p0.length:Int)):=zN (wCO ak)
 replace ak:=zN ak
 have bu:Hid (w64 ((↑k2:Int) + 1)=(↑(k2 + 1):Int)):=zN (by have h1:=am.out;have h2:=aQ.out;rw [wAM] <;> omega)
 refine sR fL1 Z (oR Z (zo Z ai aT) (eN (zJ (cT Z aQ (kN (zJ (zi (sR fL2 Z (oM Z ai (oA Z Z (eN (sR (wEQ (.fx 5 .nil .stop)) Z (oM Z aS (oM Z aR (oM Z Z (bnK aY fun az aU bv=>?_))))))))))))))))
 have bi:=bp.le ap
 have q:=bi.el (fun _=>rfl) (wAV aU)
 obtain ⟨bI,bM,bl,bm⟩:=q
 refine oR Z (Ze Z Z bl Z ZA ZH (wCd aU)) (oL Z (aV.ldCA (f:=0) bm Z Z Zp ZH (us:=[jV az.Skier,jV az.Lane]) Z Z) (bnK bv fun bP bj bw=>?_))
 have bk:=bq.le ap
 refine OKS.callV (a:=az) Z Z Z Z Z Z (zB Z zS) aV bk Z bj ?_
 rintro ae bE bO bb bC bn ⟨rfl,rfl⟩
 have aW:sW w U ae [] bb:=bn
 refine eN (ifc bw ?_ ?_)
 intro ah bz
 refine ZB (congrArg nA ah.out) (sR fL2 Z (oM Z Z (oA Z Z (eN (zQ (ZE (ze ?_)))))))
 have q:=wAj bz
 obtain ⟨bD,bA,bf⟩:=q
 have q:=wDl hm aj (br bD bf)
 obtain rfl:=q
 refine ze (ZE (ze ?_))
 cases bA
 exact ⟨Z,_,(ZD Z),ae,_,aW,Z,Z⟩
 intro ah bB
 refine zg (congrArg nA (nB.2 ah.out)) (Za (zp (zI (rR fL2 Z (oR Z (ZI (zk Z ai Z) (congrArg (jV) bu.out)) (oM Z Z (zn ?_)))))))
 have q:=nD bB
 obtain rfl:=q
 exact zI ⟨Z,_,Z,⟨ae,Z,aR,aS,aT,(ap.trans bC),aW⟩⟩
 rintro ⟨⟩ bR bG ⟨ba,bh,bJ,bK,bg,bL,bo⟩ bs
 have aX:=wEA hm aj bs
 try dsimp only at aX
 have be:Hid (¬ ((↑(((↑p0.length:Int):Int) - 0).toNat:Int) < (↑p0.length:Int))):=zN (wBi)
 refine sR fL1 Z (oR Z (zo Z bh bg) (eN (zJ (cF Z be (ZS (zq (zq (ZJ (zI (sR fL1 Z (oA Z Z (eN (zQ ?_)))))))))))))
 cases aX
 exact ⟨Z,_,(ZD Z),ba,_,bo,Z,Z⟩
end Go.Proofs.Ytfcmijinklojbaa
namespace Go.Proofs.Ytfcmijinklojbaa
open Go.KL
set_option maxHeartbeats 4000000
theorem wCb (p0:List wAD) (ae:Option Addr) (ah:Nat) (p1:(wAD->Option Bool)) (ai:Value) (w:World) (U:PHeap) (hS:St0 w U []) (av:Sl U 2 ae ah p0.length (hH wAA p0)) (az:FnOK Try.prog U ai wSH wSI p1) {r:Bool} (hm:wAe p0 p1=some r):Gv Try.prog 37 [.slice ae p0.length ah,ai] w (wCt w [] U (fun U_ L_ v=>v=.bool r/\L_=[])):=by
 unfold wAe at hm
 refine Gv.of Try.func37 Z Try.ntmps37 Try.results37 Z (sR fL1 Z (oA Z Z (eN (sR gAy Z (oM Z Z (oM Z Z (bnK hm fun x1 h2 ak=>zM 0 Z Z Z Z (zL Z Z Try.call82 (zB Z (zB Z zS)) Z) hS (fun hs=>wCj p0 ae ah p1 ai w U hs av az h2) (.inr Z) ?_)))))))
 rintro U4 L5 v6 W7 aR au ⟨rfl,rfl⟩
 have aq:sW w U U4 [] W7:=au
 refine oR Z (Runs.geq Z Z Z) (oA Z Z (eN (zQ ?_)))
 first | (obtain rfl:=nD ak) | cases ak
 exact ⟨Z,_,(ZD Z),U4,_,aq,Z,Z⟩
theorem wET (p0:List wAD) (ak:Option Addr) (am:Nat) (p1:(wAD->Option Bool)) (ai:Value) (w:World) (U:PHeap) (hS:St0 w U []) (ba:Sl U 2 ak am p0.length (hH wAA p0)) (au:FnOK Try.prog U ai wSH wSI p1) {r:Bool} (hm:wBh p0 p1=some r):Gv Try.prog 111 [.slice ak p0.length am,ai] w (wCt w [] U (fun U_ L_ v=>v=.bool r/\L_=[])):=by
 unfold wBh at hm
 refine Gv.of Try.func111 Z Try.ntmps111 Try.results111 Z (sR gAg Z (ZY (cs:=[ai]) Z Z Z Z Z Z (FnOK.cells au) hS ?_))
 intro W1 b2 aX
 have q:=aX.freeze (k:=0) rfl
 obtain ⟨U5,av,ab,aY⟩:=q
 replace ab:=Cl.of ab
 have aZ:sW w U U5 [] W1:=aY
 replace ab:Cl U5 b2 0 [ai]:=ab
 refine oA Z Z (eN (sR gAy Z (oM Z Z (oR Z (Runs.mkf Z zS (zB Z zS)) ?_))))
 have aR:=ba.le av
 have aS:=au.le av
 have aU:FnOK Try.prog U5 (.func (.func 119) #[] #[.pointer (some ⟨b2,0,none⟩)]) wSH wSI (fun x=>wAw x p1):=⟨119,[],[.pointer (some ⟨b2,0,none⟩)],rfl,Try.call119,fun U1 w1 x y vs le hs ha hm=>by obtain rfl:=ha;exact wDx x p1 b2 ai w1 U1 hs (ab.le le) (aS.le le) hm⟩
 refine bnK hm fun x13 aT bb=>zM 0 Z Z Z Z (zL Z Z Try.call37 (zB Z (zB Z zS)) Z) aZ (fun hs=>wCb p0 ak am (fun x=>wAw x p1) (.func (.func 119) #[] #[.pointer (some ⟨b2,0,none⟩)]) W1 U5 hs aR aU aT) (.inr Z) ?_
 rintro ap bf bh aQ bg aV ⟨rfl,rfl⟩
 have aW:sW w U ap [] aQ:=aV
 refine oR Z (ZR Z Z) (oA Z Z (eN (zQ ?_)))
 cases bb
 exact ⟨Z,_,(ZD Z),ap,_,aW,Z,Z⟩
theorem wIx (p0:wAD) (p1:wAD) (w:World) (U:PHeap) (hS:St0 w U [])  {r:Bool} (hm:wCR p0 p1=some r):Gv Try.prog 113 [.agg #[jV p0.Skier,jV p0.Lane],.agg #[jV p1.Skier,jV p1.Lane]] w (wCt w [] U (fun U_ L_ v=>v=.bool r/\L_=[])):=by
 unfold wCR at hm
 refine Gv.of Try.func113 rfl Try.ntmps113 Try.results113 rfl (sR gAo rfl (ZY (cs:=[jV p0.Skier,jV p0.Lane]) rfl rfl rfl rfl rfl rfl (by rfl) hS ?_))
 intro W1 b2 ap
 refine ZY (cs:=[jV p1.Skier,jV p1.Lane]) rfl rfl rfl rfl rfl rfl (by rfl) ap ?_
 intro W5 b6 ae
 refine oA Z Z (eN (sR fL20 Z (oR Z (zK Z Z ZW Z zD) (oL Z (ae.ldB (j:=1) Z Z Z zO (v:=jV p0.Skier) Z) (oR Z (zK Z Z ZW Z zD) (oL Z (ae.ldB (j:=0) Z Z Z zO (v:=jV p1.Skier) Z) (oR Z (zo Z Z Z) (oM Z Z ?_))))))))
 by_cases c9:p0.Skier < p1.Skier
 have aj:=hm;rw [if_pos c9] at aj;replace c9:=zN c9
 refine oT Z c9 (oT Z c9 (oT Z c9 (oT Z c9 (oT Z c9 (oT Z c9 (zG Z Z Z (wAG Z Z Z) (zG Z Z Z (wAG Z Z Z) (zG Z Z Z (wAG Z Z Z) (zG Z Z Z (wAG Z Z Z) (zG Z Z Z (wAG Z Z Z) (oT Z c9 (oR Z (zU Z (Zf c9.out) Z) (oA Z Z (eN (zQ ?_)))))))))))))))
 have hE:=nD aj;first | subst r | cases hE
 exact ⟨rfl,_,(ZD rfl),U,_,(ae.pick [] _ (by decide) rfl),rfl,rfl⟩
 have ak:=hm;rw [if_neg c9] at ak;replace c9:=zN c9
 refine rU Z (wF Z c9) (zK Z Z ZW Z zD) (zy Z Z Z (wF Z c9) (ae.ldB (j:=1) Z Z Z zO (v:=jV p0.Skier) Z) Z (rU Z (wF Z c9) (zK Z Z ZW Z zD) (zy Z Z Z (wF Z c9) (ae.ldB (j:=0) Z Z Z zO (v:=jV p1.Skier) Z) Z (rU Z (wF Z c9) (Zg Z Z Z) (zW Z Z Z (wF Z c9) Z Z (ifc ak ?_ ?_))))))
 intro ab am
 refine rU Z (wT Z ab) (zK Z Z ZW Z zD) (zy Z Z Z (wT Z ab) (ae.ldB (j:=1) Z Z Z zO (v:=jV p0.Lane) Z) Z (rU Z (wT Z ab) (zK Z Z ZW Z zD) (zy Z Z Z (wT Z ab) (ae.ldB (j:=0) Z Z Z zO (v:=jV p1.Lane) Z) Z (rU Z (wT Z ab) (zo Z Z Z) (rU Z (wF Z c9) (zU Z (Zf ab.out) Z) (oR Z (zP Z (zm c9.out) Z) (oA Z Z (eN (zQ ?_)))))))))
 first | (obtain rfl:=nD am) | cases am
 exact ⟨rfl,_,(ZD rfl),U,_,(ae.pick [] _ (by decide) rfl),rfl,rfl⟩
 intro ab aq
 refine oF Z ab (oF Z ab (oF Z ab (oF Z ab (oF Z ab (rU Z (wF Z c9) (zP Z (zm ab.out) Z) (oR Z (zP Z (zm c9.out) Z) (oA Z Z (eN (zQ ?_)))))))))
 have hE:=nD aq;first | subst r | cases hE
 exact ⟨rfl,_,(ZD rfl),U,_,(ae.pick [] _ (by decide) rfl),rfl,rfl⟩
theorem wIF (p0:wAB) (az:Option Addr) (aR:Nat) (aQ:Option Addr) (aS:Nat) (am:Option Addr) (ap:Nat) (w:World) (U:PHeap) (hS:St0 w U []) (cC:Sl U 1 az aR p0.Shots.length (hH KL.encI p0.Shots)) (cD:Sl U 1 aQ aS p0.Down.length (hH KL.encI p0.Down)) (cE:Sl U 2 am ap p0.Across.length (hH wAA p0.Across)) {r:Int} (hm:wCT p0=some r):Gv Try.prog 95 [.agg #[.slice az p0.Shots.length aR,.slice aQ p0.Down.length aS,.slice am p0.Across.length ap]] w (wCt w [] U (fun U_ L_ v=>v=jV r/\L_=[])):=by
 unfold wCT at hm
 refine Gv.of Try.func95 Z Try.ntmps95 Try.results95 Z (sR gAg Z ?_)
 let B0:List Value:=[.slice az p0.Shots.length aR,.slice aQ p0.Down.length aS,.slice am p0.Across.length ap]
 refine ZY (cs:=B0) rfl rfl rfl rfl rfl rfl (by rfl) hS ?_
 intro W1 b2 bD
 refine oA Z Z (eN (sR (wDw (.fx 3 (.fx 4 .nil .stop) .stop)) Z (oR Z (zK Z Z zR Z zZ) (oL Z (bD.ldB (j:=0) Z Z Z zd (v:=.slice az p0.Shots.length aR) Z) (oR Z (zr Z Z zA) (zx (cs:=[jV 0]) Z Z Z Z Z yA Z bD ?_))))))
 intro W5 b6 cA
 let B1:List Value:=[jV (↑p0.Shots.length:Int)]
 refine zt (j:=0) (vs:=B1) Z Z Z Z cA Z Z Z Z zD (zC Z) Z Z Z ?_
 intro W9 cq
 have bB:sW w U U [.blk b6 3 B1,.blk b2 26 B0] W9:=cq
 refine eN (zJ (zi (sR (.fl 0 (.fx 1 (wTW (.nil)) .stop)) Z (oL Z (bB.ldB (j:=0) Z Z Z zO (v:=jV (↑p0.Shots.length:Int)) Z) (bnK hm fun dK bS cS=>zM 0 Z Z Z Z (zL Z Z Zu (zB Z (zB Z (zB Z zS))) Z) bB (fun hs=>wAq (↑p0.Shots.length:Int) 1 8 W9 U hs bS) (.inr Z) ?_)))))
 rintro aU du dG bt bp ct ⟨rfl,rfl⟩
 have au:sW w U aU [.blk b6 3 B1,.blk b2 26 B0] bt:=ct
 refine oR Z (ZR Z Z) (oM Z Z (ifc cS ?_ ?_))
 intro ab cU
 refine zV Z Z Z (zE Z Z (nC ab.out)) (fun _=>zK Z Z zR Z zZ) (zy Z Z Z (zE Z Z (nC ab.out)) (au.ldB (j:=1) Z Z Z zd (v:=.slice aQ p0.Down.length aS) Z) Z (zV Z Z Z (zE Z Z (nC ab.out)) (fun _=>zr Z Z zA) (zy Z Z Z (zE Z Z (nC ab.out)) (au.ldB (j:=0) Z Z Z zO (v:=jV (↑p0.Shots.length:Int)) Z) Z (zV Z Z Z (zE Z Z (nC ab.out)) (fun _=>ZL Z Z Z) (oR Z (zP Z (nC ab.out) Z) (oA Z Z (eN (ifc cU ?_ ?_))))))))
 intro bh cV
 refine zg (zm (fun h=>h bh.out)) (sR (.fl 0 (.fl 1 (.fx 2 (fC3_6 (.fx 7 (wTb (.nil)) .stop)) .stop))) Z (oR Z (zK Z Z zR Z zZ) (oL Z (au.ldB (j:=1) Z Z Z zd (v:=.slice az p0.Shots.length aR) Z) ?_)))
 have bT:=cC.le bp
 have cm:FnOK Try.prog aU (.func (.func 109) #[] #[]) wLR wOE wBc:=⟨109,[],[],rfl,Try.call109,fun U1 w1 x y vs le hs ha hm=>by obtain rfl:=ha;exact wGs x w1 U1 hs  hm⟩
 refine bnK cV fun x28 bU cW=>zM 0 Z Z Z Z (zL Z Z Try.call79 (zB Z (zB Z zS)) Z) au (fun hs=>wDh p0.Shots az aR wBc (.func (.func 109) #[] #[]) bt aU hs bT cm bU) (.inr Z) ?_
 rintro aX dw dH bu bJ cu ⟨rfl,rfl⟩
 have bm:sW w U aX [.blk b6 3 B1,.blk b2 26 B0] bu:=cu
 refine oR Z (ZR Z Z) (oM Z Z (ifc cW ?_ ?_))
 intro ae cX
 refine zV Z Z Z (zE Z Z (nC ae.out)) (fun _=>zK Z Z zR Z zZ) (zy Z Z Z (zE Z Z (nC ae.out)) (bm.ldB (j:=1) Z Z Z zd (v:=.slice aQ p0.Down.length aS) Z) Z ?_)
 have bV:=cD.le bp
 have bW:=bV.le bJ
 have cn:FnOK Try.prog aX (.func (.func 110) #[] #[]) wLR wOE wBd:=⟨110,[],[],rfl,Try.call110,fun U1 w1 x y vs le hs ha hm=>by obtain rfl:=ha;exact wGt x w1 U1 hs  hm⟩
 refine bnK cX fun x43 bX cY=>zM 0 Z Z Z (zE Z Z (nC ae.out)) (zL Z Z Try.call79 (zB Z (zB Z zS)) Z) bm (fun hs=>wDh p0.Down aQ aS wBd (.func (.func 110) #[] #[]) bu aX hs bW cn bX) (.inr Z) ?_
 rintro br dx dI bf dh cw ⟨rfl,rfl⟩
 have bn:sW w U br [.blk b6 3 B1,.blk b2 26 B0] bf:=cw
 refine zV Z Z Z (zE Z Z (nC ae.out)) (fun _=>ZR Z Z) (oR Z (zP Z (nC ae.out) Z) (oA Z Z (eN (ifc cY ?_ ?_))))
 intro bi cZ
 refine zg (nC bi.out) (sR (wDw gAp) Z (oR Z (zK Z Z zR Z Zi) (oL Z (bn.ldB (j:=1) Z Z Z Zo (v:=.slice am p0.Across.length ap) Z) ?_)))
 have q:=bn.freeze (k:=0) rfl
 obtain ⟨aY,dm,aV,cy⟩:=q
 replace aV:=Cl.of aV
 have cz:sW w U aY [.blk b2 26 B0] bf:=cy
 replace aV:Cl aY b6 0 B1:=aV
 refine oR Z (Runs.mkf Z zS (zB Z zS)) ?_
 have bY:=cE.le bp
 have bZ:=bY.le bJ
 have b5:=bZ.le dh
 have bA:=b5.le dm
 have cp:FnOK Try.prog aY (.func (.func 112) #[] #[.pointer (some ⟨b6,0,none⟩)]) wSH wSI (fun x=>wBe x (↑p0.Shots.length:Int)):=⟨112,[],[.pointer (some ⟨b6,0,none⟩)],rfl,Try.call112,fun U1 w1 x y vs le hs ha hm=>by obtain rfl:=ha;exact wGu x (↑p0.Shots.length:Int) b6 w1 U1 hs (aV.le le) hm⟩
 refine bnK cZ fun x65 b9 da=>zM 0 Z Z Z Z (zL Z Z Try.call111 (zB Z (zB Z zS)) Z) cz (fun hs=>wET p0.Across am ap (fun x=>wBe x (↑p0.Shots.length:Int)) (.func (.func 112) #[] #[.pointer (some ⟨b6,0,none⟩)]) bf aY hs bA cp b9) (.inr Z) ?_
 rintro aZ dy dJ bM dp cB ⟨rfl,rfl⟩
 have bE:sW w U aZ [.blk b2 26 B0] bM:=cB
 refine oR Z (ZR Z Z) (oA Z Z (eN (ifc da ?_ ?_)))
 intro bj de
 refine zg (nC bj.out) (Za (zp (zI (zJ (sR fL1 Z (oA Z Z (eN (zi (CK.iter (fun bq σ_ w_=>∃ (U_:PHeap),σ_ 1=.pointer (some ⟨b2,0,none⟩)/\σ_ 4=jV bq/\PHeap.Le aZ U_/\sW w U U_ [.blk b2 26 B0] w_) de ?_ ?_)))))))))
 exact ⟨aZ,Z,Z,(zX _),bE⟩
 rintro bq dL dM bv ⟨bs,ba,bb,bK,bo⟩ bI bF
 refine zJ (sR fL5 Z (oM Z bb (oR Z (zK Z ba zR Z Zi) (oL Z (bo.ldB (j:=0) Z Z Z Zo (v:=.slice am p0.Across.length ap) Z) (oR Z (zr Z Z ZA) (oR Z (zo Z Z Z) (eN ?_)))))))
 by_cases ak:bq < (↑p0.Across.length:Int)
 have bH:=bI;rw [if_pos ak] at bH;replace ak:=zN ak
 refine cT Z ak (kN (zJ (zi (zJ (ZN ZO [3,1,3,3,3,1,3,1,3,3,1,2,3] (wHz (.fx 11 (.fl 12 .nil) .stop)) (by kernel_rfl) ?_)))))
 have av:=bo.drew
 generalize hw_W96:({ bv with drawn:=bv.drawn + 1 }:World)=bN at av ⊢
 refine oR Z (zK Z ba zR Z Zi) (oL Z (av.ldB (j:=0) Z Z Z Zo (v:=.slice am p0.Across.length ap) Z) (oM Z bb (oR Z (ZG Z Z Z) (bnK bH fun x97 bl df=>?_))))
 have bQ:=bA.le dp
 have bz:=bQ.le bK
 have q:=bz.el (fun _=>rfl) (wAV bl)
 obtain ⟨dB,dD,cf,ci⟩:=q
 refine oR Z (ZP Z Z cf Z ZA ZH (wBp bl) (wBs bl)) (oL Z (av.ldCA (f:=0) ci Z Z Zp ZH (us:=[jV x97.Skier,jV x97.Lane]) Z Z) (oR Z (zK Z ba zR Z Zi) (oL Z (av.ldB (j:=0) Z Z Z Zo (v:=.slice am p0.Across.length ap) Z) (oM Z bb (bnK df fun x106 bk cG=>?_)))))
 have q:=bz.el (fun _=>rfl) (wAV bk)
 obtain ⟨dC,dE,cg,cj⟩:=q
 refine oR Z (ZP Z Z cg Z ZA ZH (wBp bk) (wBs bk)) (oL Z (av.ldCA (f:=0) cj Z Z Zp ZH (us:=[jV x106.Skier,jV x106.Lane]) Z Z) (bnK cG fun x113 bR cH=>zM 0 Z Z Z Z (zL Z Z Try.call113 (zB Z (zB Z zS)) Z) av (fun hs=>wIx x97 x106 bN bs hs bR) (.inr Z) ?_))
 rintro be dt dF bL dg cr ⟨rfl,rfl⟩
 have bC:sW w U be [.blk b2 26 B0] bL:=cr
 refine oR Z (ZR Z Z) (eN (ifc cH ?_ ?_))
 intro bg cI
 refine zg (nC bg.out) (Za (zp (zI (rR fL3 Z (oM Z bb (oR Z (zk Z Z Z) (oA Z Z (zn ?_))))))))
 have q:=nD cI
 obtain rfl:=q
 exact zI ⟨Z,_,Z,⟨be,ba,Z,(bK.trans dg),bC⟩⟩
 intro bg cJ
 refine ZB (nF (bg.out)) (sR fL1 Z (oA Z Z (eN (zQ (ZE (ze ?_))))))
 have q:=wAj cJ
 obtain ⟨dq,cK,bO⟩:=q
 have q:=bF dq bO
 obtain rfl:=q
 refine ze (ZE (ze ?_))
 cases cK
 exact ⟨rfl,_,(ZD rfl),be,_,(bC.pick [] _ (by decide) rfl),rfl,rfl⟩
 have bG:=bI;rw [if_neg ak] at bG;replace ak:=zN ak
 refine cF Z ak (ZS (zq ?_))
 have q:=wAj bG
 obtain ⟨dr,cM,bP⟩:=q
 have q:=bF dr bP
 obtain rfl:=q
 refine zq (ZJ (zI (sR fL1 Z (oA Z Z (eN (zQ ?_))))))
 cases cM
 exact ⟨rfl,_,(ZD rfl),bs,_,(bo.pick [] _ (by decide) rfl),rfl,rfl⟩
 intro bj cN
 refine ZB (nF (bj.out)) (sR fL1 Z (oA Z Z (eN (zQ (ZE (ze ?_))))))
 cases cN
 exact ⟨rfl,_,(ZD rfl),aZ,_,(bE.pick [] _ (by decide) rfl),rfl,rfl⟩
 intro bi cO
 refine ZB (nF (bi.out)) (sR fL1 Z (oA Z Z (eN (zQ (ZE (ze ?_))))))
 cases cO
 exact ⟨rfl,_,(ZD rfl),br,_,(bn.pick [] _ (by decide) rfl),rfl,rfl⟩
 intro ae cP
 refine zG Z Z Z (zF Z Z (nF (ae.out)) Z) (zG Z Z Z (zF Z Z (nF (ae.out)) Z) (ZV Z Z Z (zF Z Z (nF (ae.out)) Z) (zG Z Z Z (zF Z Z (nF (ae.out)) Z) (oR Z (zU Z (nF (ae.out)) Z) (oA Z Z (eN (ZB Z (sR fL1 Z (oA Z Z (eN (zQ (ZE (ze ?_)))))))))))))
 cases cP
 exact ⟨rfl,_,(ZD rfl),aX,_,(bm.pick [] _ (by decide) rfl),rfl,rfl⟩
 intro bh cQ
 refine cT Z bh (sR fL1 Z (oA Z Z (eN (zQ (ZE (ze ?_))))))
 cases cQ
 exact ⟨rfl,_,(ZD rfl),aU,_,(au.pick [] _ (by decide) rfl),rfl,rfl⟩
 intro ab cR
 refine zG Z Z Z (zF Z Z (nF (ab.out)) Z) (zG Z Z Z (zF Z Z (nF (ab.out)) Z) (zG Z Z Z (zF Z Z (nF (ab.out)) Z) (zG Z Z Z (zF Z Z (nF (ab.out)) Z) (zG Z Z Z (zF Z Z (nF (ab.out)) Z) (oR Z (zU Z (nF (ab.out)) Z) (oA Z Z (eN (ZB Z (sR fL1 Z (oA Z Z (eN (zQ (ZE (ze ?_))))))))))))))
 cases cR
 exact ⟨rfl,_,(ZD rfl),aU,_,(au.pick [] _ (by decide) rfl),rfl,rfl⟩
theorem wDO (p0:wAB) (aq:Option Addr) (au:Nat) (az:Option Addr) (aQ:Nat) (ak:Option Addr) (am:Nat) (w:World) (U:PHeap) (hS:St0 w U []) (cJ:Sl U 1 aq au p0.Shots.length (hH KL.encI p0.Shots)) (cK:Sl U 1 az aQ p0.Down.length (hH KL.encI p0.Down)) (bG:Sl U 2 ak am p0.Across.length (hH wAA p0.Across)) {r:wAF} (hm:wBG p0=some r):Gv Try.prog 45 [.agg #[.slice aq p0.Shots.length au,.slice az p0.Down.length aQ,.slice ak p0.Across.length am]] w (wCt w [] U (fun U_ L_ v=>∃ (b0:Nat) (A0p00:Option Addr) (c0p00:Nat) (A0p01:Option Addr) (c0p01:Nat) (A0p02:Option Addr) (c0p02:Nat) (m0p1:Nat) (es0p1:Array MapEntry) (ck0p1:Nat),v=.pointer (some ⟨b0,0,none⟩)/\L_=[.blk b0 99 ([.slice A0p00 r.Bout.Shots.length c0p00,.slice A0p01 r.Bout.Down.length c0p01,.slice A0p02 r.Bout.Across.length c0p02,.map (some m0p1)] ++ ((hH KL.encI r.hits.l) ++ ((hH KL.encI r.used.l) ++ (hH KL.encT r.met.l)))),.obj m0p1 (.map es0p1 ck0p1)]/\Sl U_ 1 A0p00 c0p00 r.Bout.Shots.length (hH KL.encI r.Bout.Shots)/\Sl U_ 1 A0p01 c0p01 r.Bout.Down.length (hH KL.encI r.Bout.Down)/\Sl U_ 2 A0p02 c0p02 r.Bout.Across.length (hH wAA r.Bout.Across)/\MpR es0p1 wGP wGg r.may)):=by
 unfold wBG at hm
 refine Gv.of Try.func45 Z Try.ntmps45 Try.results45 Z (sR gAg Z ?_)
 let B0:List Value:=[.slice aq p0.Shots.length au,.slice az p0.Down.length aQ,.slice ak p0.Across.length am]
 refine ZY (cs:=B0) rfl rfl rfl rfl rfl rfl (by rfl) hS ?_
 intro W1 b2 bD
 refine oA Z Z (eN (sR (.fl 0 (.fx 1 (.fl 2 gAl) .stop)) Z (oL Z (bD.ldBA (j:=0) Z Z Z ZT zu (vs:=B0) Z Z) (OKS.makeMap Z Z Z Z Z bD ?_))))
 intro W5 b6 cI
 have cY:=MpR.nil wGP wGg
 let B1:List Value:=[.slice aq p0.Shots.length au,.slice az p0.Down.length aQ,.slice ak p0.Across.length am,.map (some b6),jV 0,jV 0,jV 0,jV 0,jV 0,jV 0,jV 0,jV 0,jV 0,jV 0,jV 0,jV 0,jV 0,jV 0,jV 0,jV 0,jV 0,jV 0,jV 0,jV 0,jV 0,jV 0,jV 0,jV 0,jV 0,jV 0,jV 0,jV 0,jV 0,jV 0,jV 0,jV 0,jV 0,jV 0,jV 0,jV 0,jV 0,jV 0,jV 0,jV 0,jV 0,jV 0,jV 0,jV 0,jV 0,jV 0,jV 0,jV 0,jV 0,jV 0,jV 0,jV 0,jV 0,jV 0,jV 0,jV 0,jV 0,jV 0,jV 0,jV 0,jV 0,jV 0,jV 0,jV 0,jV 0,jV 0,jV 0,jV 0,jV 0,jV 0,jV 0,jV 0,.bool false,.bool false,.bool false,.bool false,.bool false,.bool false,.bool false,.bool false,.bool false,.bool false,.bool false,.bool false,.bool false,.bool false,.bool false,.bool false]
 refine zV rfl rfl rfl rfl (fun _=>ZM (pv:=[(0,.agg B0.toArray),(1,.map (some b6))]) (z:=[.slice none 0 0,.slice none 0 0,.slice none 0 0,.map none,jV 0,jV 0,jV 0,jV 0,jV 0,jV 0,jV 0,jV 0,jV 0,jV 0,jV 0,jV 0,jV 0,jV 0,jV 0,jV 0,jV 0,jV 0,jV 0,jV 0,jV 0,jV 0,jV 0,jV 0,jV 0,jV 0,jV 0,jV 0,jV 0,jV 0,jV 0,jV 0,jV 0,jV 0,jV 0,jV 0,jV 0,jV 0,jV 0,jV 0,jV 0,jV 0,jV 0,jV 0,jV 0,jV 0,jV 0,jV 0,jV 0,jV 0,jV 0,jV 0,jV 0,jV 0,jV 0,jV 0,jV 0,jV 0,jV 0,jV 0,jV 0,jV 0,jV 0,jV 0,jV 0,jV 0,jV 0,jV 0,jV 0,jV 0,jV 0,jV 0,.bool false,.bool false,.bool false,.bool false,.bool false,.bool false,.bool false,.bool false,.bool false,.bool false,.bool false,.bool false,.bool false,.bool false,.bool false,.bool false]) (cs:=B1) rfl (wAR rfl (wAR rfl wAo)) Try.zeroValue99 wPX rfl rfl) (ZY (cs:=B1) rfl rfl rfl rfl rfl rfl (by rfl) cI ?_)
 intro dg ai bC
 refine oA Z Z (eN (zJ (sR fL4 Z (oR Z (zK Z Z zR Z zZ) (oL Z (bC.ldB (j:=2) Z Z Z zd (v:=.slice aq p0.Shots.length au) Z) (oR Z (zr Z Z zA) (oM Z Z (eN (zi (bnK hm fun dB cM cU=>?_))))))))))
 have q:=wCQ cM
 obtain ⟨bf,cN⟩:=q
 replace bf:=zN bf
 refine CK.forN' (fun ab bH σ_ w_=>∃ (U_:PHeap) (aY:Array MapEntry) (bp:Nat),σ_ 14=jV (↑ab:Int)/\σ_ 1=.pointer (some ⟨b2,0,none⟩)/\σ_ 3=.pointer (some ⟨ai,0,none⟩)/\σ_ 13=jV (↑p0.Shots.length:Int)/\PHeap.Le U U_/\sW w U U_ [.blk ai 99 B1,.obj b6 (.map aY bp),.blk b2 26 B0] w_/\MpR aY wGP wGg bH) cN ?_ ?_ ?_
 exact ⟨U,#[],0,Z,Z,Z,Z,(zX _),bC,cY⟩
 rintro ab bH dz dE dq be ⟨bi,aY,bp,ba,bV,bw,bz,de,bE,ct⟩ cZ
 have bn:Hid ((↑ab:Int) < (↑p0.Shots.length:Int)):=zN (wCO be)
 replace be:=zN be
 have cR:Hid (w64 ((↑ab:Int) + 1)=(↑(ab + 1):Int)):=zN (by have h1:=bf.out;have h2:=bn.out;rw [wAM] <;> omega)
 refine sR fL1 rfl (zV rfl rfl rfl rfl (fun _=>zo rfl ba bz) (eN (zJ (cT Z bn (kN (zJ (zi (sR fL2 rfl (zW rfl rfl rfl rfl rfl ba (OKS.ra rfl rfl rfl rfl rfl rfl (eN (rR (wOr (.fx 7 .nil .stop)) rfl (zW rfl rfl rfl rfl rfl bw (zV rfl rfl rfl rfl (fun _=>ZQ rfl rfl) (zV rfl rfl rfl rfl (fun _=>zK rfl rfl zj rfl Try.sizeOf92) (zy rfl rfl rfl rfl (bE.ldB (j:=0) rfl rfl rfl Try.isAgg92 (v:=.map (some b6)) rfl) rfl (zW rfl rfl rfl rfl rfl rfl (zW rfl rfl rfl rfl rfl rfl (zV rfl rfl rfl rfl (fun _=>ZM (pv:=[(0,jV (↑ab:Int)),(1,jV (↑ab:Int))]) (z:=[jV 0,jV 0]) (cs:=[jV (↑ab:Int),jV (↑ab:Int)]) rfl (wAR rfl (wAR rfl wAo)) Zn wHF rfl rfl) (OKS.mapPut (x:=.tmp 20) (y:=.tmp 23) (j:=1) (mk:=wGP) (mv:=wGg) (a:=(⟨(↑ab:Int),(↑ab:Int)⟩:wAD)) (v:=true) rfl rfl rfl (by first | exact .inl rfl | exact .inr rfl) bE rfl rfl rfl rfl (wEm Try.runUnderlying92) wJg ct rfl ?_))))))))))))))))))))
 intro bs bq bM cX cG
 have cH:sW w U bi [.blk ai 99 B1,.obj b6 (.map bs bq),.blk b2 26 B0] bM:=cG
 refine zn (zp (zI (rR fL2 Z (oR Z (ZI (zk Z ba Z) (congrArg (jV) cR.out)) (oM Z Z (zn ?_))))))
 cases cZ
 exact zI ⟨Z,⟨bi,bs,bq,Z,bV,bw,bz,de,cH,cX⟩⟩
 rintro dF dt ⟨bj,bS,bP,b5,bW,bX,bY,aU,bF,cu⟩
 have bQ:Hid (¬ ((↑(((↑p0.Shots.length:Int):Int) - 0).toNat:Int) < (↑p0.Shots.length:Int))):=zN (wBi)
 refine sR fL1 Z (oR Z (zo Z b5 bY) (eN (zJ (cF Z bQ (ZS (zq (zq (ZJ (zI (zJ (sR fL4 Z (oR Z (zK Z bW zR Z Zi) (oL Z (bF.ldB (j:=2) Z Z Z Zo (v:=.slice ak p0.Across.length am) Z) (oR Z (zr Z Z ZA) (oM Z Z (eN (zi (bnK cU fun dC cO cV=>?_))))))))))))))))))
 have q:=wCQ cO
 obtain ⟨bg,cP⟩:=q
 replace bg:=zN bg
 refine CK.forN' (fun av bI σ_ w_=>∃ (U_:PHeap) (aS:Array MapEntry) (aX:Nat),σ_ 28=jV (↑av:Int)/\σ_ 3=.pointer (some ⟨ai,0,none⟩)/\σ_ 26=.slice ak p0.Across.length am/\σ_ 27=jV (↑p0.Across.length:Int)/\PHeap.Le bj U_/\sW w U U_ [.blk ai 99 B1,.obj b6 (.map aS aX),.blk b2 26 B0] w_/\MpR aS wGP wGg bI) cP ?_ ?_ ?_
 exact ⟨bj,bS,bP,Z,bX,Z,Z,(zX _),bF,cu⟩
 rintro av bI dA dG du bb ⟨aV,aS,aX,aZ,bt,bu,bv,bJ,bB,b9⟩ da
 have bm:Hid ((↑av:Int) < (↑p0.Across.length:Int)):=zN (wCO bb)
 replace bb:=zN bb
 have cQ:Hid (w64 ((↑av:Int) + 1)=(↑(av + 1):Int)):=zN (by have h1:=bg.out;have h2:=bm.out;rw [wAM] <;> omega)
 refine sR fL1 Z (oR Z (zo Z aZ bv) (eN (zJ (cT Z bm (kN (zJ (zi (sR gAw Z (bnK da fun x112 bA cS=>?_)))))))))
 have cf:=bG.le aU
 have cg:=cf.le bJ
 have q:=cg.el (fun _=>rfl) (wAV bA)
 obtain ⟨dw,dy,cw,cy⟩:=q
 refine oR Z (Ze Z bu cw aZ ZA ZH (wCd bA)) (oL Z (bB.ldCA (f:=0) cy Z Z Zp ZH (us:=[jV x112.Skier,jV x112.Lane]) Z Z) (zx (cs:=[jV 0,jV 0]) Z Z Z Z Z Zn Z bB ?_))
 intro dh bl cz
 let B2:List Value:=[jV x112.Skier,jV x112.Lane]
 refine zt (j:=0) (vs:=B2) Z Z Z Z cz Z Z Z Z ZH (zC Z) Z Z Z ?_
 intro aW cA
 have cB:sW w U aV [.blk bl 35 B2,.blk ai 99 B1,.obj b6 (.map aS aX),.blk b2 26 B0] aW:=cA
 refine eN (ZN ZO [3,3,3,1,1,0] (wEQ (.fx 5 .nil .stop)) (by kernel_rfl) ?_)
 have aT:=cB.drew
 generalize hw_W129:({ aW with drawn:=aW.drawn + 1 }:World)=dm at aT ⊢
 refine zW rfl rfl rfl rfl rfl bt (zV rfl rfl rfl rfl (fun _=>ZQ rfl rfl) (zV rfl rfl rfl rfl (fun _=>zK rfl rfl zj rfl Try.sizeOf92) (zy rfl rfl rfl rfl (aT.ldB (j:=1) rfl rfl rfl Try.isAgg92 (v:=.map (some b6)) rfl) rfl (zy rfl rfl rfl rfl (aT.ldBA (j:=0) rfl rfl rfl Zp ZH (vs:=B2) rfl rfl) rfl (OKS.mapPut (x:=.tmp 35) (y:=.tmp 36) (j:=2) (mk:=wGP) (mv:=wGg) (a:=x112) (v:=true) rfl rfl rfl (by first | exact .inl rfl | exact .inr rfl) aT rfl rfl rfl rfl (wEm Try.runUnderlying92) wJg b9 rfl ?_)))))
 intro br bo bL cW cC
 have cD:sW w U aV [.blk bl 35 B2,.blk ai 99 B1,.obj b6 (.map br bo),.blk b2 26 B0] bL:=cC
 refine zn (zp (zI (rR fL2 Z (oR Z (ZI (zk Z aZ Z) (congrArg (jV) cQ.out)) (oM Z Z (zn ?_))))))
 cases cS
 exact zI ⟨rfl,⟨aV,br,bo,rfl,bt,bu,bv,bJ,(cD.pick [1,2,3] _ (by decide) rfl),cW⟩⟩
 rintro dD dp ⟨bK,bR,bN,bZ,bT,dx,bU,bh,cE,ci⟩
 have bO:Hid (¬ ((↑(((↑p0.Across.length:Int):Int) - 0).toNat:Int) < (↑p0.Across.length:Int))):=zN (wBi)
 refine sR fL1 Z (oR Z (zo Z bZ bU) (eN (zJ (cF Z bO (ZS (zq (zq (ZJ (zI (sR fL2 Z (oM Z bT (oA Z Z (eN (zQ ?_))))))))))))))
 have cj:=cJ.le aU
 have cm:=cj.le bh
 have cn:=cK.le aU
 have cp:=cn.le bh
 have cq:=bG.le aU
 have cr:=cq.le bh
 cases cV
 exact ⟨rfl,_,(ZD rfl),bK,_,(cE.pick [0,1] _ (by decide) rfl),ai,aq,au,az,aQ,ak,am,b6,bR,bN,rfl,rfl,cm,cp,cr,ci⟩
theorem wEN (p0:wAB) (ah:Option Addr) (ak:Nat) (ai:Option Addr) (am:Nat) (aj:Option Addr) (ap:Nat) (w:World) (U:PHeap) (hS:St0 w U []) (bh:Sl U 1 ah ak p0.Shots.length (hH KL.encI p0.Shots)) (bi:Sl U 1 ai am p0.Down.length (hH KL.encI p0.Down)) (bj:Sl U 2 aj ap p0.Across.length (hH wAA p0.Across)) {r:(Option wAF) × Int} (hm:wBo p0=some r):Gv Try.prog 69 [.agg #[.slice ah p0.Shots.length ak,.slice ai p0.Down.length am,.slice aj p0.Across.length ap]] w (wCt w [] U (fun U_ L_ v=>match r.1 with | none=>v=.tuple #[.pointer none,jV r.2]/\L_=[] | some d=>∃ (b0:Nat) (A0p00:Option Addr) (c0p00:Nat) (A0p01:Option Addr) (c0p01:Nat) (A0p02:Option Addr) (c0p02:Nat) (m0p1:Nat) (es0p1:Array MapEntry) (ck0p1:Nat),v=.tuple #[.pointer (some ⟨b0,0,none⟩),jV r.2]/\L_=[.blk b0 99 ([.slice A0p00 d.Bout.Shots.length c0p00,.slice A0p01 d.Bout.Down.length c0p01,.slice A0p02 d.Bout.Across.length c0p02,.map (some m0p1)] ++ ((hH KL.encI d.hits.l) ++ ((hH KL.encI d.used.l) ++ (hH KL.encT d.met.l)))),.obj m0p1 (.map es0p1 ck0p1)]/\Sl U_ 1 A0p00 c0p00 d.Bout.Shots.length (hH KL.encI d.Bout.Shots)/\Sl U_ 1 A0p01 c0p01 d.Bout.Down.length (hH KL.encI d.Bout.Down)/\Sl U_ 2 A0p02 c0p02 d.Bout.Across.length (hH wAA d.Bout.Across)/\MpR es0p1 wGP wGg d.may)):=by
 unfold wBo at hm
 refine Gv.of Try.func69 Z Try.ntmps69 Try.results69 Z (sR gAq Z ?_)
 let B0:List Value:=[.slice ah p0.Shots.length ak,.slice ai p0.Down.length am,.slice aj p0.Across.length ap]
 refine ZY (cs:=B0) rfl rfl rfl rfl rfl rfl (by rfl) hS ?_
 intro W1 b2 bg
 refine oA Z Z (oA Z Z (eN (zJ (sR gAn Z (oL Z (bg.ldBA (j:=0) Z Z Z ZT zu (vs:=B0) Z Z) (bnK hm fun x5 h6 bD=>zM 0 Z Z Z Z (zL Z Z Try.call95 (zB Z zS) Z) bg (fun hs=>wIF p0 ah ak ai am aj ap W1 U hs bh bi bj h6) (.inr Z) ?_))))))
 rintro U8 L9 bH aV az bv ⟨rfl,rfl⟩
 have av:sW w U U8 [.blk b2 26 B0] aV:=bv
 refine oA Z Z (eN (sR fL2 Z (oM Z Z (oR Z (ZL Z Z Z) (eN (ifc bD ?_ ?_))))))
 intro au bA
 refine zg (zm (fun h=>h au.out)) (kN (sR gAx Z (oL Z (av.ldBA (j:=0) Z Z Z ZT zu (vs:=B0) Z Z) ?_)))
 have bm:=bh.le az
 have bn:=bi.le az
 have bo:=bj.le az
 refine bnK bA fun ab bp bB=>zM 0 Z Z Z Z (zL Z Z Try.call45 (zB Z zS) Z) av (fun hs=>wDO p0 ah ak ai am aj ap aV U8 hs bm bn bo bp) (.inr Z) ?_
 rintro aU bE bI bl bG bw ⟨aY,aR,aZ,aS,ba,aT,bb,aQ,bf,be,rfl,rfl,bq,br,bs,bt⟩
 have bz:sW w U aU [.blk aY 99 ([.slice aR ab.Bout.Shots.length aZ,.slice aS ab.Bout.Down.length ba,.slice aT ab.Bout.Across.length bb,.map (some aQ)] ++ ((hH KL.encI ab.hits.l) ++ ((hH KL.encI ab.used.l) ++ (hH KL.encT ab.met.l)))),.obj aQ (.map bf be),.blk b2 26 B0] bl:=bw
 refine oA Z Z (oA Z Z (eN (zQ ?_)))
 cases bB
 exact ⟨rfl,_,(wHH rfl rfl),aU,_,(bz.pick [0,1] _ (by decide) rfl),aY,aR,aZ,aS,ba,aT,bb,aQ,bf,be,rfl,rfl,bq,br,bs,bt⟩
 intro au bC
 refine cT Z au (sR fL3 Z (oM Z Z (oA Z Z (oA Z Z (eN (zQ (ze ?_)))))))
 cases bC
 exact ⟨rfl,_,(wHH rfl rfl),U8,_,(av.pick [] _ (by decide) rfl),rfl,rfl⟩
theorem wDa (p0:wAF) (am:Nat) (ai:Option Addr) (ap:Nat) (aj:Option Addr) (aq:Nat) (ak:Option Addr) (au:Nat) (ab:Nat) (av:Array MapEntry) (az:Nat) (p1:Int) (p2:Int) (w:World) (U:PHeap) (hS:St0 w U [.blk am 99 ([.slice ai p0.Bout.Shots.length ap,.slice aj p0.Bout.Down.length aq,.slice ak p0.Bout.Across.length au,.map (some ab)] ++ ((hH KL.encI p0.hits.l) ++ ((hH KL.encI p0.used.l) ++ (hH KL.encT p0.met.l)))),.obj ab (.map av az)]) (aR:Sl U 1 ai ap p0.Bout.Shots.length (hH KL.encI p0.Bout.Shots)) (aS:Sl U 1 aj aq p0.Bout.Down.length (hH KL.encI p0.Bout.Down)) (aT:Sl U 2 ak au p0.Bout.Across.length (hH wAA p0.Bout.Across)) (aQ:MpR av wGP wGg p0.may) {r:Bool} (hm:wBP p0 p1 p2=some r):Gv Try.prog 78 [.pointer (some ⟨am,0,none⟩),jV p1,jV p2] w (wCt w [.blk am 99 ([.slice ai p0.Bout.Shots.length ap,.slice aj p0.Bout.Down.length aq,.slice ak p0.Bout.Across.length au,.map (some ab)] ++ ((hH KL.encI p0.hits.l) ++ ((hH KL.encI p0.used.l) ++ (hH KL.encT p0.met.l)))),.obj ab (.map av az)] U (fun U_ L_ v=>v=.bool r/\L_=[.blk am 99 ([.slice ai p0.Bout.Shots.length ap,.slice aj p0.Bout.Down.length aq,.slice ak p0.Bout.Across.length au,.map (some ab)] ++ ((hH KL.encI p0.hits.l) ++ ((hH KL.encI p0.used.l) ++ (hH KL.encT p0.met.l)))),.obj ab (.map av az)])):=by
 unfold wBP at hm
 refine Gv.of Try.func78 Z Try.ntmps78 Try.results78 Z (sR fL1 Z (oA Z Z (eN (sR fL9 Z (oM Z Z (oR Z (ZQ Z Z) (oR Z (zK Z Z zj Z Try.sizeOf92) (oL Z (hS.ldB (j:=0) Z Z Z Try.isAgg92 (v:=.map (some ab)) Z) (oM Z Z (oM Z Z (oR Z (ZM (pv:=[(0,jV p1),(1,jV p2)]) (z:=[jV 0,jV 0]) (cs:=[jV p1,jV p2]) Z (wAR Z (wAR Z wAo)) Zn wHF Z Z) (oL Z (hS.lookup1 (j:=1) (mk:=wGP) (mv:=wGg) (a:=(⟨p1,p2⟩:wAD)) (z:=false) Z Z Z Z (wEm Try.runUnderlying92) wJg Try.zeroValue4 aQ) (oA Z Z (eN (zQ ?_)))))))))))))))
 cases hm
 exact ⟨Z,_,(ZD Z),U,_,hS,Z,Z⟩
end Go.Proofs.Ytfcmijinklojbaa
namespace Go.Proofs.Ytfcmijinklojbaa
open Go.KL
set_option maxHeartbeats 4000000
theorem wFV (p0:wAF) (am:Nat) (ai:Option Addr) (ap:Nat) (aj:Option Addr) (aq:Nat) (ak:Option Addr) (au:Nat) (ah:Nat) (aQ:Array MapEntry) (aR:Nat) (p1:Int) (p2:Int) (w:World) (U:PHeap) (hS:St0 w U []) (av:Cl U am 0 ([.slice ai p0.Bout.Shots.length ap,.slice aj p0.Bout.Down.length aq,.slice ak p0.Bout.Across.length au,.map (some ah)] ++ ((hH KL.encI p0.hits.l) ++ ((hH KL.encI p0.used.l) ++ (hH KL.encT p0.met.l))))) (aS:Sl U 1 ai ap p0.Bout.Shots.length (hH KL.encI p0.Bout.Shots)) (aT:Sl U 1 aj aq p0.Bout.Down.length (hH KL.encI p0.Bout.Down)) (aU:Sl U 2 ak au p0.Bout.Across.length (hH wAA p0.Bout.Across)) (az:MpF U ah aQ aR wGP wGg p0.may) {r:Bool} (hm:wCW p0 p1 p2=some r):Gv Try.prog 78 [.pointer (some ⟨am,0,none⟩),jV p1,jV p2] w (wCt w [] U (fun U_ L_ v=>v=.bool r/\L_=[])):=by
 unfold wCW at hm
 refine Gv.of Try.func78 Z Try.ntmps78 Try.results78 Z (sR fL1 Z (oA Z Z (eN (sR fL9 Z (oM Z Z (oR Z (ZQ Z Z) (oR Z (zK Z Z zj Z Try.sizeOf92) (oL Z (hS.ldC (f:=3) av (v:=.map (some ah)) Z Z Try.isAgg92 Z) (oM Z Z (oM Z Z (oR Z (ZM (pv:=[(0,jV p1),(1,jV p2)]) (z:=[jV 0,jV 0]) (cs:=[jV p1,jV p2]) Z (wAR Z (wAR Z wAo)) Zn wHF Z Z) (oL Z (hS.lookupF1 (mk:=wGP) (mv:=wGg) (a:=(⟨p1,p2⟩:wAD)) (z:=false) az Z Z Z (wEm Try.runUnderlying92) wJg Try.zeroValue4) (oA Z Z (eN (zQ ?_)))))))))))))))
 cases hm
 exact ⟨Z,_,(ZD Z),U,_,hS,Z,Z⟩
theorem wDf {S E:Type} (PY:S->PHeap->List Res->Prop) (PE:E->PHeap->List Res->Prop) (f:S->Int->Option (S ⊕ E)) (y:Nat) (s0:S) (p1:wAF) (bs:Nat) (ai:Nat) (be:Option Addr) (bi:Nat) (av:Option Addr) (az:Nat) (bf:Option Addr) (bj:Nat) (bl:Nat) (bk:Array MapEntry) (bt:Nat) (p2:Unit) (bg:Nat) (p3:Int) (bh:Nat) (w:World) (L:List Res) (U:PHeap) (hS:St ⟨w,L,U⟩ U L w) (hP:PY s0 U L) (hY:YOK Try.prog y wLR PY PE f U) (hV:∀ s_ U_ L_,PY s_ U_ L_->∃ (i_ j_:Nat) (a0_:Arr Int 64) (a1_:Arr Int 8) (a2_:Arr Bool 16),L_[i_]?=some (.blk ai 99 ([.slice be p1.Bout.Shots.length bi,.slice av p1.Bout.Down.length az,.slice bf p1.Bout.Across.length bj,.map (some bl)] ++ ((hH KL.encI a0_.l) ++ ((hH KL.encI a1_.l) ++ (hH KL.encT a2_.l)))))/\L_[j_]?=some (.obj bl (.map bk bt))) (bU:Cl U bs 0 [.pointer (some ⟨ai,0,none⟩)]) (bV:Sl U 1 be bi p1.Bout.Shots.length (hH KL.encI p1.Bout.Shots)) (bW:Sl U 1 av az p1.Bout.Down.length (hH KL.encI p1.Bout.Down)) (bX:Sl U 2 bf bj p1.Bout.Across.length (hH wAA p1.Bout.Across)) (bY:MpR bk wGP wGg p1.may) (bZ:Cl U bg 0 [.func (.func 78) #[.pointer (some ⟨ai,0,none⟩)] #[]]) (b5:Cl U bh 0 [jV p3]) {r:S ⊕ E} (hm:wAp f s0 p1 p2 p3=some r):Gv Try.prog 83 [.func (.yield y) #[] #[],.pointer (some ⟨bs,0,none⟩),.pointer (some ⟨bg,0,none⟩),.pointer (some ⟨bh,0,none⟩)] w (ItS w L U PY PE r):=by
 unfold wAp at hm
 refine Gv.of Try.func83 Z Try.ntmps83 Try.results83 Z (sR fL7 Z (oL Z (hS.ldC (f:=0) bU (v:=.pointer (some ⟨ai,0,none⟩)) Z Z ZX Z) (oR Z (ZQ Z Z) (oR Z (zK Z Z zj Z zu) (oR Z (zK Z Z zR Z zZ) ?_)))))
 have q:=hV _ _ _ hP
 obtain ⟨i2,j3,a6,a7,a8,ci,cP⟩:=q
 refine oL Z (hS.ldB (j:=i2) ci Z Z zd (v:=.slice av p1.Bout.Down.length az) Z) (oR Z (zr Z Z zA) (oM Z Z (eN (zi ?_))))
 have q:=wDL hm
 obtain ⟨cS,aY⟩:=q
 have q:=wDK aY
 obtain ⟨bb,cg⟩:=q
 replace bb:=zN bb
 refine yD (fun ah bv σ_ w_=>∃ (U_:PHeap) (aj:List Res),σ_ 12=jV (↑ah:Int)/\σ_ 0=.func (.yield y) #[] #[]/\σ_ 2=.pointer (some ⟨bg,0,none⟩)/\σ_ 3=.pointer (some ⟨bh,0,none⟩)/\σ_ 11=jV (↑p1.Bout.Down.length:Int)/\PHeap.Le U U_/\St ⟨w,L,U⟩ U_ aj w_/\PY bv U_ aj) cg ?_ ?_ ?_
 exact ⟨U,L,Z,Z,Z,Z,Z,(zX _),hS,hP⟩
 rintro ah bv cU cW bz ba ⟨aR,aj,am,aS,aT,aU,aV,ae,aX,aW⟩ cu b9
 have bn:Hid ((↑ah:Int) < (↑p1.Bout.Down.length:Int)):=zN (wCO ba)
 replace ba:=zN ba
 have bq:Hid (w64 ((↑ah:Int) + 1)=(↑(ah + 1):Int)):=zN (by have h1:=bb.out;have h2:=bn.out;rw [wAM] <;> omega)
 refine sR fL1 Z (oR Z (zo Z am aV) (eN (zJ (cT Z bn (kN (zJ (zi (sR fL2 Z (oM Z am (oA Z Z (eN (sR (wDw (.fx 3 (wRs (.fx 7 gAe .stop)) .stop)) Z ?_))))))))))))
 have bJ:=bZ.le ae
 refine oL Z (aX.ldC (f:=0) bJ (v:=.func (.func 78) #[.pointer (some ⟨ai,0,none⟩)] #[]) Z aT Try.isAgg131 Z) ?_
 have bK:=b5.le ae
 refine oL Z (aX.ldC (f:=0) bK (v:=jV p3) Z aU zO Z) (oM Z Z ?_)
 have q:=hV _ _ _ aW
 obtain ⟨cw,cy,bB,bC,bD,aZ,br⟩:=q
 have bL:=bV.le ae
 have bM:=bW.le ae
 have bN:=bX.le ae
 refine bnK cu fun x55 bO cm=>OKS.callP (i1:=cw) (i2:=cy) (v0:=.bool x55) rfl rfl rfl rfl (zL rfl rfl Try.call78 (zB rfl (zB rfl zS)) rfl) aX aZ br (fun e=>by rw [e,br] at aZ;cases aZ) (fun hs=>wDa (⟨p1.Bout,p1.may,bB,bC,bD⟩:wAF) ai be bi av az bf bj bl bk bt p3 (↑ah:Int) bz aR hs bL bM bN bY bO) rfl ?_
 intro bA bQ
 have bo:St ⟨w,L,U⟩ aR aj bA:=bQ
 refine oM Z Z (ifc cm ?_ ?_)
 intro ab cn
 refine zW Z Z Z (zE Z Z (congrArg nA ab.out)) Z aS (zW Z Z Z (zE Z Z (congrArg nA ab.out)) Z Z (bnK cn fun cD bP aq=>OKS.yieldT 0 (a:=(↑ah:Int)) Z Z Z (zE Z Z (congrArg nA ab.out)) Z Z (zB Z zS) bo hY ae aW Z bP Z ?_))
 rintro ak aQ cK bm cz bp ap
 rcases cD with cB | cB
 try dsimp only at aq ap
 obtain ⟨rfl,cr⟩:=ap
 have bR:St ⟨w,L,U⟩ ak aQ bm:=bp
 refine zV Z Z Z (zE Z Z (congrArg nA ab.out)) (fun _=>ZR Z Z) (oR Z (zU Z (congrArg nA ab.out) Z) (eN (zg Z (Za (zp (zI (rR fL2 Z (oR Z (ZI (zk Z am Z) (congrArg (jV) bq.out)) (oM Z Z (zn ?_))))))))))
 have q:=nD aq
 obtain rfl:=q
 exact zI ⟨Z,_,Z,⟨ak,aQ,Z,aS,aT,aU,aV,(ae.trans cz),bR,cr⟩⟩
 try dsimp only at aq ap
 obtain ⟨rfl,ct⟩:=ap
 have bS:St ⟨w,L,U⟩ ak aQ bm:=bp
 refine zV Z Z Z (zE Z Z (congrArg nA ab.out)) (fun _=>ZR Z Z) (oR Z (zU Z (congrArg nA ab.out) Z) (eN (ZB Z (zQ (ZE (ze ?_))))))
 have q:=wAj aq
 obtain ⟨cC,cp,bF⟩:=q
 have q:=wDl hm aY (b9 cC bF)
 obtain rfl:=q
 refine ze (ZE ?_)
 cases cp
 exact ⟨Z,_,(res0),ak,_,bS,ct⟩
 intro ab cq
 refine zG Z Z Z (zF Z Z (congrArg nA (nB.2 ab.out)) Z) (zG Z Z Z (zF Z Z (congrArg nA (nB.2 ab.out)) Z) (ZV Z Z Z (zF Z Z (congrArg nA (nB.2 ab.out)) Z) (zG Z Z Z (zF Z Z (congrArg nA (nB.2 ab.out)) Z) (oR Z (zP Z (congrArg nA (nB.2 ab.out)) Z) (eN (zg Z (Za (zp (zI (rR fL2 Z (oR Z (ZI (zk Z am Z) (congrArg (jV) bq.out)) (oM Z Z (zn ?_)))))))))))))
 have q:=nD cq
 obtain rfl:=q
 exact zI ⟨Z,_,Z,⟨aR,aj,Z,aS,aT,aU,aV,ae,bo,aW⟩⟩
 rintro cV cX cG ⟨bw,cE,bH,cM,cN,cO,bG,cR,bT,bI⟩ cf
 have cj:=wEA hm aY cf
 have bE:Hid (¬ ((↑(((↑p1.Bout.Down.length:Int):Int) - 0).toNat:Int) < (↑p1.Bout.Down.length:Int))):=zN (wBi)
 refine sR fL1 Z (oR Z (zo Z bH bG) (eN (zJ (cF Z bE (ZS (zq (zq (ZJ ?_))))))))
 cases cj
 exact ⟨Z,_,(res0),bw,_,bT,bI⟩
theorem wDt (p0:Unit) (aj:Nat) (p1:Int) (w:World) (U:PHeap) (hS:St0 w U [])  {r:Unit} (hm:wBH p0 p1=some r):Gv Try.prog 43 [.pointer (some ⟨aj,0,none⟩),jV p1] w (wCt w [] U (fun U_ L_ v=>∃ (b0:Nat) (b1:Nat) (b2:Nat),v=.func (.func 83) #[] #[.pointer (some ⟨b0,0,none⟩),.pointer (some ⟨b1,0,none⟩),.pointer (some ⟨b2,0,none⟩)]/\L_=[]/\Cl U_ b0 0 [.pointer (some ⟨aj,0,none⟩)]/\Cl U_ b1 0 [.func (.func 78) #[.pointer (some ⟨aj,0,none⟩)] #[]]/\Cl U_ b2 0 [jV p1])):=by
 unfold wBH at hm
 refine Gv.of Try.func43 Z Try.ntmps43 Try.results43 Z (sR gAo Z ?_)
 let B0:List Value:=[.pointer (some ⟨aj,0,none⟩)]
 refine ZY (cs:=B0) rfl rfl rfl rfl rfl rfl (by rfl) hS ?_
 intro W1 b2 bh
 have q:=bh.freeze (k:=0) rfl
 obtain ⟨U5,bp,ah,bk⟩:=q
 replace ah:=Cl.of ah
 have bl:sW w U U5 [] W1:=bk
 replace ah:Cl U5 b2 0 B0:=ah
 refine ZY (cs:=[jV p1]) rfl rfl rfl rfl rfl rfl (by rfl) bl ?_
 intro aX aS ba
 have q:=ba.freeze (k:=0) rfl
 obtain ⟨ap,bm,ab,bb⟩:=q
 replace ab:=Cl.of ab
 have aU:sW w U ap [] aX:=bb
 replace ab:Cl ap aS 0 [jV p1]:=ab
 refine oA Z Z (eN (sR gAw Z ?_))
 have aT:=ah.le bm
 refine oL Z (aU.ldC (f:=0) aT (v:=.pointer (some ⟨aj,0,none⟩)) Z Z ZX Z) (oR Z (Runs.mkf Z (zB Z zS) zS) (zx (cs:=[.nilFunc]) Z Z Z Z Z Try.zeroValue131 Z aU ?_))
 intro bo au be
 let B1:List Value:=[.func (.func 78) B0.toArray #[]]
 refine zt (j:=0) (vs:=B1) Z Z Z Z be Z Z Z Z Try.sizeOf131 (zC Z) Z Z Z ?_
 intro az bf
 have bg:sW w U ap [.blk au 131 B1] az:=bf
 refine eN (sR fL2 Z ?_)
 have q:=bg.freeze (k:=0) rfl
 obtain ⟨aq,aV,ae,bi⟩:=q
 replace ae:=Cl.of ae
 have bj:sW w U aq [] az:=bi
 replace ae:Cl aq au 0 B1:=ae
 refine oR Z (Runs.mkf Z zS (zB Z (zB Z (zB Z zS)))) (oA Z Z (eN (zQ ?_)))
 have aY:=aT.le aV
 have aZ:=ab.le aV
 cases hm
 exact ⟨Z,_,(ZD Z),aq,_,bj,b2,au,aS,Z,Z,aY,ae,aZ⟩
theorem wFD (n_:Nat):∀ (p0:Int) (p1:wAF) (bi:Nat) (ah:Nat) (ai:Option Addr) (aj:Nat) (ak:Option Addr) (ap:Nat) (am:Option Addr) (aq:Nat) (ae:Nat) (au:Array MapEntry) (av:Nat) (p2:Unit) (br:Nat) (w:World) (U:PHeap) (hS:St0 w U [.blk ah 99 ([.slice ai p1.Bout.Shots.length aj,.slice ak p1.Bout.Down.length ap,.slice am p1.Bout.Across.length aq,.map (some ae)] ++ ((hH KL.encI p1.hits.l) ++ ((hH KL.encI p1.used.l) ++ (hH KL.encT p1.met.l)))),.obj ae (.map au av)]) (bY:Cl U bi 0 [.pointer (some ⟨ah,0,none⟩)]) (dR:Sl U 1 ai aj p1.Bout.Shots.length (hH KL.encI p1.Bout.Shots)) (dS:Sl U 1 ak ap p1.Bout.Down.length (hH KL.encI p1.Bout.Down)) (dT:Sl U 2 am aq p1.Bout.Across.length (hH wAA p1.Bout.Across)) (bZ:MpR au wGP wGg p1.may) (dU:Cl U br 0 [.func (.func 84) #[] #[.pointer (some ⟨bi,0,none⟩),.pointer (some ⟨br,0,none⟩)]]) {r:Bool × (Arr Int 64 × Arr Int 8 × Arr Bool 16)} (hm:wAi n_ p0 p1 p2=some r),Gv Try.prog 84 [jV p0,.pointer (some ⟨bi,0,none⟩),.pointer (some ⟨br,0,none⟩)] w (wCt w [.blk ah 99 ([.slice ai p1.Bout.Shots.length aj,.slice ak p1.Bout.Down.length ap,.slice am p1.Bout.Across.length aq,.map (some ae)] ++ ((hH KL.encI p1.hits.l) ++ ((hH KL.encI p1.used.l) ++ (hH KL.encT p1.met.l)))),.obj ae (.map au av)] U (fun U_ L_ v=>v=.bool r.1/\L_=[.blk ah 99 ([.slice ai p1.Bout.Shots.length aj,.slice ak p1.Bout.Down.length ap,.slice am p1.Bout.Across.length aq,.map (some ae)] ++ ((hH KL.encI r.2.1.l) ++ ((hH KL.encI r.2.2.1.l) ++ (hH KL.encT r.2.2.2.l)))),.obj ae (.map au av)])):=by
 induction n_ with
 | zero =>
  intros
  rename_i hm
  have gX:(none:Option (Bool × (Arr Int 64 × Arr Int 8 × Arr Bool 16)))=some _:=hm
  cases gX
 | succ n_ ih =>
  intro p0 p1 bi ah ai aj ak ap am aq ae au av p2 br w U hS bY dR dS dT bZ dU r hm
  have hm:wBj (wAi n_) p0 p1 p2=some r:=hm
  unfold wBj at hm
  refine Go.KX.Gv.ofM Try.func84 Z Try.ntmps84 Try.results84 (zC Z) ?_
  have fS:=hS.mks0
  refine sR gAi rfl (ZY (cs:=[jV p0]) rfl rfl rfl rfl rfl rfl (by rfl) fS ?_)
  intro W5 b6 gA
  refine zx (cs:=[.bool false]) Z Z Z Z Z Try.zeroValue4 Z gA ?_
  intro W9 bj fG
  refine eN (zJ (ZN ZO [1,1,3,3,3,3,0] (wJu (.fx 6 .nil .stop)) (by kernel_rfl) ?_))
  have bV:=fG.drew
  generalize hw_W14:({ W9 with drawn:=W9.drawn + 1 }:World)=iI at bV ⊢
  refine zy rfl rfl rfl rfl (bV.ldC (f:=0) bY (v:=.pointer (some ⟨ah,0,none⟩)) rfl rfl ZX rfl) rfl (zy rfl rfl rfl rfl (bV.ldB (j:=1) rfl rfl rfl zO (v:=jV p0) rfl) rfl (zV rfl rfl rfl rfl (fun _=>ZQ rfl rfl) (zV rfl rfl rfl rfl (fun _=>zK rfl rfl zj rfl Try.sizeOf97) (zV rfl rfl rfl rfl (fun _=>ZI (Zh rfl rfl rfl Try.runUnderlying97 Try.sizeOf96 (by decide) (by decide)) rfl) (bnK hm fun _ be b5=>zV rfl rfl rfl rfl (fun _=>Zh rfl rfl rfl Try.runUnderlying96 yC (wCA be) (wCB be)) ?_)))))
  have gO:=Arr.at_ p1.met (k:=(8 + p0.toNat)) (by have hz0:=wAd be;omega)
  refine zt (j:=3) (vs:=[.bool true]) (cs':=[.slice ai p1.Bout.Shots.length aj,.slice ak p1.Bout.Down.length ap,.slice am p1.Bout.Across.length aq,.map (some ae)] ++ ((hH KL.encI p1.hits.l) ++ ((hH KL.encI p1.used.l) ++ (hH KL.encT (p1.met.set (8 + p0.toNat) true).l)))) rfl rfl rfl rfl bV rfl ((rfl:ev _ _=.pointer (some ⟨ah,84 + p0.toNat * 1,none⟩)).trans (wED (by omega))) rfl rfl yC (by have hz0:=wAd be;simp only [nH,nI,nJ,wAa (f:=KL.encI) (sz:=1) (N:=64) p1.hits (fun _=>rfl) rfl,wAa (f:=KL.encI) (sz:=1) (N:=8) p1.used (fun _=>rfl) rfl,wAa (f:=KL.encT) (sz:=1) (N:=16) p1.met (fun _=>rfl) rfl];omega) rfl (wCn (n:=4) rfl (wCn (n:=64) (wAa (f:=KL.encI) (sz:=1) (N:=64) p1.hits (fun _=>rfl) rfl) (wCn (n:=8) (wAa (f:=KL.encI) (sz:=1) (N:=8) p1.used (fun _=>rfl) rfl) (wSS (sz:=1) (fo:=0) (fun _=>rfl) _ _ _ _ gO (zC rfl) rfl)))) rfl ?_
  intro ey fR
  let B0:Res:=.blk b6 3 [jV p0]
  let B1:Res:=.blk bj 4 [.bool false]
  have cN:SW w [.blk ah 99 ([.slice ai p1.Bout.Shots.length aj,.slice ak p1.Bout.Down.length ap,.slice am p1.Bout.Across.length aq,.map (some ae)] ++ ((hH KL.encI p1.hits.l) ++ ((hH KL.encI p1.used.l) ++ (hH KL.encT p1.met.l)))),.obj ae (.map au av)] U U [B1,B0,mks [],.blk ah 99 ([.slice ai p1.Bout.Shots.length aj,.slice ak p1.Bout.Down.length ap,.slice am p1.Bout.Across.length aq,.map (some ae)] ++ ((hH KL.encI p1.hits.l) ++ ((hH KL.encI p1.used.l) ++ (hH KL.encT (p1.met.set (8 + p0.toNat) true).l)))),.obj ae (.map au av)] ey:=fR
  refine eN (zJ (sR fL7 Z (oL Z (cN.ldC (f:=0) bY (v:=.pointer (some ⟨ah,0,none⟩)) Z Z ZX Z) (oR Z (ZQ Z Z) (oR Z (zK Z Z zj Z zu) (oR Z (zK Z Z zR Z zZ) (oL Z (cN.ldB (j:=3) Z Z Z zd (v:=.slice ai p1.Bout.Shots.length aj) Z) (oR Z (zr Z Z zA) (oM Z Z (eN (zi ?_)))))))))))
  have q:=wDL b5
  obtain ⟨i5,bX⟩:=q
  have q:=wDK bX
  obtain ⟨cR,gH⟩:=q
  replace cR:=zN cR
  refine CK.forND (fun ab (aU,aS,ba) D_ σ_ w_=>∃ (U_:PHeap) (aX:List Nat),D_=List.map Go.KX.mark aX/\σ_ 19=jV (↑ab:Int)/\σ_ 1=.pointer (some ⟨bi,0,none⟩)/\σ_ 2=.pointer (some ⟨br,0,none⟩)/\σ_ 3=.pointer (some ⟨b6,0,none⟩)/\σ_ 4=.pointer (some ⟨bj,0,none⟩)/\σ_ 18=jV (↑p1.Bout.Shots.length:Int)/\PHeap.Le U U_/\SW w [.blk ah 99 ([.slice ai p1.Bout.Shots.length aj,.slice ak p1.Bout.Down.length ap,.slice am p1.Bout.Across.length aq,.map (some ae)] ++ ((hH KL.encI p1.hits.l) ++ ((hH KL.encI p1.used.l) ++ (hH KL.encT p1.met.l)))),.obj ae (.map au av)] U U_ [B1,B0,mks aX,.blk ah 99 ([.slice ai p1.Bout.Shots.length aj,.slice ak p1.Bout.Down.length ap,.slice am p1.Bout.Across.length aq,.map (some ae)] ++ ((hH KL.encI aU.l) ++ ((hH KL.encI aS.l) ++ (hH KL.encT ba.l)))),.obj ae (.map au av)] w_) gH ?_ ?_ ?_
  ·exact ⟨U,[],Z,Z,Z,Z,Z,Z,Z,(zX _),cN⟩
  ·rintro ab ⟨aU,aS,ba⟩ jc D_ jd iL cQ ⟨bR,aX,rfl,bJ,bk,cJ,bI,bT,bU,bu,gw⟩ d5 dV
   try dsimp only at d5
   have dh:Hid ((↑ab:Int) < (↑p1.Bout.Shots.length:Int)):=zN (wCO cQ)
   replace cQ:=zN cQ
   have cP:Hid (w64 ((↑ab:Int) + 1)=(↑(ab + 1):Int)):=zN (by have h1:=cR.out;have h2:=dh.out;rw [wAM] <;> omega)
   refine sR fL1 Z (oR Z (zo Z bJ bU) (eN (zJ (cT Z dh (kN (zJ (zi (sR gAr Z (oM Z bJ (zx (cs:=[jV 0]) Z Z Z Z Z yA Z gw ?_))))))))))
   intro iO aW gx
   let B2:List Value:=[jV (↑ab:Int)]
   refine zt (j:=0) (vs:=B2) Z Z Z Z gx Z Z Z Z zD (zC Z) Z Z Z ?_
   intro cA gy
   have gz:SW w [.blk ah 99 ([.slice ai p1.Bout.Shots.length aj,.slice ak p1.Bout.Down.length ap,.slice am p1.Bout.Across.length aq,.map (some ae)] ++ ((hH KL.encI p1.hits.l) ++ ((hH KL.encI p1.used.l) ++ (hH KL.encT p1.met.l)))),.obj ae (.map au av)] U bR [.blk aW 3 B2,B1,B0,mks aX,.blk ah 99 ([.slice ai p1.Bout.Shots.length aj,.slice ak p1.Bout.Down.length ap,.slice am p1.Bout.Across.length aq,.map (some ae)] ++ ((hH KL.encI aU.l) ++ ((hH KL.encI aS.l) ++ (hH KL.encT ba.l)))),.obj ae (.map au av)] cA:=gy
   refine eN (zJ (zJ (ZN ZO [1,1,3,3,3,3,1,3,1,1,1,0,3,3] (wHz gAs) (by kernel_rfl) ?_)))
   have bp:=gz.drew
   generalize hw_W69:({ cA with drawn:=cA.drawn + 1 }:World)=cZ at bp ⊢
   have cM:=bY.le bu
   refine zy rfl rfl rfl rfl (bp.ldC (f:=0) cM (v:=.pointer (some ⟨ah,0,none⟩)) rfl bk ZX rfl) rfl (zy rfl rfl rfl rfl (bp.ldB (j:=0) rfl rfl rfl zO (v:=jV (↑ab:Int)) rfl) rfl (zV rfl rfl rfl rfl (fun _=>ZQ rfl rfl) (zV rfl rfl rfl rfl (fun _=>zK rfl rfl zj rfl Try.sizeOf97) (zV rfl rfl rfl rfl (fun _=>ZI (Zh rfl rfl rfl Try.runUnderlying97 Try.sizeOf96 (by decide) (by decide)) rfl) (bnK d5 fun _ aR ik=>zV rfl rfl rfl rfl (fun _=>Zh rfl rfl rfl Try.runUnderlying96 yC (wCA aR) (wCB aR)) ?_)))))
   have gU:=Arr.at_ ba (k:=ab) (by have hz0:=wAd aR;omega)
   refine zy rfl rfl rfl rfl (bp.ldB (j:=4) rfl rfl ((rfl:ev _ _=.pointer (some ⟨ah,76 + ab * 1,none⟩)).trans (wED (by omega))) Try.isAgg4 (wEC (n:=4) rfl (wEC (n:=64) (wAa (f:=KL.encI) (sz:=1) (N:=64) aU (fun _=>rfl) rfl) (wEC (n:=8) (wAa (f:=KL.encI) (sz:=1) (N:=8) aS (fun _=>rfl) rfl) (wSR (sz:=1) (fun _=>rfl) _ _ 0 _ gU rfl))))) rfl (zW rfl rfl rfl rfl rfl rfl (ifc ik ?_ ?_))
   ·intro bf im
    refine zG Z Z Z (zF Z Z (congrArg nA bf.out) Z) (zG Z Z Z (zF Z Z (congrArg nA bf.out) Z) (zG Z Z Z (zF Z Z (congrArg nA bf.out) Z) (ZV Z Z Z (zF Z Z (congrArg nA bf.out) Z) (zG Z Z Z (zF Z Z (congrArg nA bf.out) Z) (oR Z (zU Z (congrArg nA bf.out) Z) (eN (ZB Z (ZS (zq (ZJ (zI (rR fL2 Z (oR Z (ZI (zk Z bJ Z) (congrArg (jV) cP.out)) (oM Z Z (zn ?_)))))))))))))))
    have q:=nD im
    obtain rfl:=q
    exact zI ⟨_,rfl,⟨bR,aX,rfl,rfl,bk,cJ,bI,bT,bU,bu,(bp.pick [1,2,3,4,5] _ (by decide) rfl)⟩⟩
   ·intro bf io
    refine zy Z Z Z (zE Z Z (congrArg nA (nB.2 bf.out))) (bp.ldC (f:=0) cM (v:=.pointer (some ⟨ah,0,none⟩)) Z bk ZX Z) Z (zy Z Z Z (zE Z Z (congrArg nA (nB.2 bf.out))) (bp.ldB (j:=0) Z Z Z zO (v:=jV (↑ab:Int)) Z) Z (zy Z Z Z (zE Z Z (congrArg nA (nB.2 bf.out))) (bp.ldB (j:=2) Z Z bI zO (v:=jV p0) Z) Z ?_))
    have dH:=dR.le bu
    have dI:=dS.le bu
    have dJ:=dT.le bu
    refine bnK io fun x84 fw ip=>?_
    have gB:SW w [.blk ah 99 ([.slice ai p1.Bout.Shots.length aj,.slice ak p1.Bout.Down.length ap,.slice am p1.Bout.Across.length aq,.map (some ae)] ++ ((hH KL.encI p1.hits.l) ++ ((hH KL.encI p1.used.l) ++ (hH KL.encT p1.met.l)))),.obj ae (.map au av)] U bR [.blk ah 99 ([.slice ai p1.Bout.Shots.length aj,.slice ak p1.Bout.Down.length ap,.slice am p1.Bout.Across.length aq,.map (some ae)] ++ ((hH KL.encI aU.l) ++ ((hH KL.encI aS.l) ++ (hH KL.encT ba.l)))),.obj ae (.map au av),.blk aW 3 B2,B1,B0,mks aX] cZ:=bp.pick [4,5,0,1,2,3] _ (by decide) rfl
    refine zM 2 Z Z Z (zE Z Z (congrArg nA (nB.2 bf.out))) (zL Z Z Try.call78 (zB Z (zB Z (zB Z zS))) Z) gB (fun hs=>wDa (⟨p1.Bout,p1.may,aU,aS,ba⟩:wAF) ah ai aj ak ap am aq ae au av (↑ab:Int) p0 cZ bR hs dH dI dJ bZ fw) (.inl Z) ?_
    rintro bm iF i9 cB bB gC ⟨rfl,rfl⟩
    have dQ:SW w [.blk ah 99 ([.slice ai p1.Bout.Shots.length aj,.slice ak p1.Bout.Down.length ap,.slice am p1.Bout.Across.length aq,.map (some ae)] ++ ((hH KL.encI p1.hits.l) ++ ((hH KL.encI p1.used.l) ++ (hH KL.encT p1.met.l)))),.obj ae (.map au av)] U bm [.blk ah 99 ([.slice ai p1.Bout.Shots.length aj,.slice ak p1.Bout.Down.length ap,.slice am p1.Bout.Across.length aq,.map (some ae)] ++ ((hH KL.encI aU.l) ++ ((hH KL.encI aS.l) ++ (hH KL.encT ba.l)))),.obj ae (.map au av),.blk aW 3 B2,B1,B0,mks aX] cB:=gC
    refine zV Z Z Z (zE Z Z (congrArg nA (nB.2 bf.out))) (fun _=>ZR Z Z) (oR Z (zP Z (congrArg nA (nB.2 bf.out)) Z) (eN (ifc ip ?_ ?_)))
    ·intro cE iq
     refine zg (nC cE.out) (kN (zJ (ZN ZO [1,1,3,3,3,3,0] (wJu (.fx 6 .nil .stop)) (by kernel_rfl) ?_)))
     have bW:=dQ.drew
     generalize hw_W98:({ cB with drawn:=cB.drawn + 1 }:World)=iP at bW ⊢
     have bz:=cM.le bB
     refine zy rfl rfl rfl rfl (bW.ldC (f:=0) bz (v:=.pointer (some ⟨ah,0,none⟩)) rfl bk ZX rfl) rfl (zy rfl rfl rfl rfl (bW.ldB (j:=2) rfl rfl rfl zO (v:=jV (↑ab:Int)) rfl) rfl (zV rfl rfl rfl rfl (fun _=>ZQ rfl rfl) (zV rfl rfl rfl rfl (fun _=>zK rfl rfl zj rfl Try.sizeOf97) (zV rfl rfl rfl rfl (fun _=>ZI (Zh rfl rfl rfl Try.runUnderlying97 Try.sizeOf96 (by decide) (by decide)) rfl) (zV rfl rfl rfl rfl (fun _=>Zh rfl rfl rfl Try.runUnderlying96 yC (wCA aR) (wCB aR)) ?_)))))
     have gI:=Arr.at_ ba (k:=ab) (by have hz0:=wAd aR;omega)
     refine zt (j:=0) (vs:=[.bool true]) (cs':=[.slice ai p1.Bout.Shots.length aj,.slice ak p1.Bout.Down.length ap,.slice am p1.Bout.Across.length aq,.map (some ae)] ++ ((hH KL.encI aU.l) ++ ((hH KL.encI aS.l) ++ (hH KL.encT (ba.set ab true).l)))) rfl rfl rfl rfl bW rfl ((rfl:ev _ _=.pointer (some ⟨ah,76 + ab * 1,none⟩)).trans (wED (by omega))) rfl rfl yC (by have hz0:=wAd aR;simp only [nH,nI,nJ,wAa (f:=KL.encI) (sz:=1) (N:=64) aU (fun _=>rfl) rfl,wAa (f:=KL.encI) (sz:=1) (N:=8) aS (fun _=>rfl) rfl,wAa (f:=KL.encT) (sz:=1) (N:=16) ba (fun _=>rfl) rfl];omega) rfl (wCn (n:=4) rfl (wCn (n:=64) (wAa (f:=KL.encI) (sz:=1) (N:=64) aU (fun _=>rfl) rfl) (wCn (n:=8) (wAa (f:=KL.encI) (sz:=1) (N:=8) aS (fun _=>rfl) rfl) (wSS (sz:=1) (fo:=0) (fun _=>rfl) _ _ _ _ gI (zC rfl) rfl)))) rfl ?_
     intro cr fD
     have fE:SW w [.blk ah 99 ([.slice ai p1.Bout.Shots.length aj,.slice ak p1.Bout.Down.length ap,.slice am p1.Bout.Across.length aq,.map (some ae)] ++ ((hH KL.encI p1.hits.l) ++ ((hH KL.encI p1.used.l) ++ (hH KL.encT p1.met.l)))),.obj ae (.map au av)] U bm [.blk ah 99 ([.slice ai p1.Bout.Shots.length aj,.slice ak p1.Bout.Down.length ap,.slice am p1.Bout.Across.length aq,.map (some ae)] ++ ((hH KL.encI aU.l) ++ ((hH KL.encI aS.l) ++ (hH KL.encT (ba.set ab true).l)))),.obj ae (.map au av),.blk aW 3 B2,B1,B0,mks aX] cr:=fD
     refine eN (zJ (zJ (ZN ZO [1,1,3,3,3,1,1,3,3,3,1,1,3,1,3] fL15 (by kernel_rfl) ?_)))
     have bg:=fE.drew
     generalize hw_W105:({ cr with drawn:=cr.drawn + 1 }:World)=ct at bg ⊢
     refine oL Z (bg.ldC (f:=0) bz (v:=.pointer (some ⟨ah,0,none⟩)) Z bk ZX Z) (oL Z (bg.ldB (j:=2) Z Z Z zO (v:=jV (↑ab:Int)) Z) (oR Z (ZQ Z Z) (oR Z (zK Z Z zj Z Zz) (oR Z (Zh Z Z Z Zk zD (wCA aR) (wCB aR)) ?_))))
     have gJ:=Arr.at_ aS (k:=ab) (by have hz0:=wAd aR;omega)
     refine zy rfl rfl rfl rfl (bg.ldB (j:=0) rfl rfl ((rfl:ev _ _=.pointer (some ⟨ah,68 + ab * 1,none⟩)).trans (wED (by omega))) zO (wEC (n:=4) rfl (wEC (n:=64) (wAa (f:=KL.encI) (sz:=1) (N:=64) aU (fun _=>rfl) rfl) (wIN (sz:=1) (fun _=>rfl) _ _ 0 _ gJ rfl)))) rfl (zy rfl rfl rfl rfl (bg.ldC (f:=0) bz (v:=.pointer (some ⟨ah,0,none⟩)) rfl bk ZX rfl) rfl (zV rfl rfl rfl rfl (fun _=>ZQ rfl rfl) (zV rfl rfl rfl rfl (fun _=>zK rfl rfl zj rfl zu) (zV rfl rfl rfl rfl (fun _=>zK rfl rfl zR rfl zZ) (zy rfl rfl rfl rfl (bg.ldB (j:=0) rfl rfl rfl zd (v:=.slice ai p1.Bout.Shots.length aj) rfl) rfl (zy rfl rfl rfl rfl (bg.ldB (j:=2) rfl rfl rfl zO (v:=jV (↑ab:Int)) rfl) rfl (bnK iq fun x107 dA gZ=>?_)))))))
     have dB:=dH.le bB
     have q:=dB.el (fun _=>rfl) (wAV dA)
     obtain ⟨iQ,iZ,fy,fz⟩:=q
     refine oR Z (Ze Z Z fy Z zA zD (wCd dA)) (oL Z (bg.ldC (f:=0) fz (v:=jV x107) Z Z zO Z) (oR Z (zo Z Z Z) (eN (ifc gZ ?_ ?_))))
     ·intro cC g6
      refine cT Z cC (zJ (CK.fresh fun cm bM=>?_))
      have dm:cm 1=.pointer (some ⟨bi,0,none⟩):=(bM 1).trans bk
      have eJ:cm 3=.pointer (some ⟨b6,0,none⟩):=(bM 3).trans bI
      have dp:cm 4=.pointer (some ⟨bj,0,none⟩):=(bM 4).trans bT
      have dq:cm 5=.pointer (some ⟨aW,0,none⟩):=(bM 5).trans rfl
      clear bM
      refine ZN ZO [1,1,3,3,3,1,3,3,3,3,0] (wTT (.fx 10 .nil .stop)) (by kernel_rfl) ?_
      have bK:=bg.drew
      generalize hw_W124:({ ct with drawn:=ct.drawn + 1 }:World)=iG at bK ⊢
      refine oL Z (bK.ldC (f:=0) bz (v:=.pointer (some ⟨ah,0,none⟩)) Z dm ZX Z) (oL Z (bK.ldB (j:=2) Z Z dq zO (v:=jV (↑ab:Int)) Z) (oR Z (ZQ Z Z) (oR Z (zK Z Z zj Z Zz) (oR Z (Zh Z Z Z Zk zD (wCA aR) (wCB aR)) ?_))))
      have gK:=Arr.at_ aS (k:=ab) (by have hz0:=wAd aR;omega)
      refine zy rfl rfl rfl rfl (bK.ldB (j:=0) rfl rfl ((rfl:ev _ _=.pointer (some ⟨ah,68 + ab * 1,none⟩)).trans (wED (by omega))) zO (wEC (n:=4) rfl (wEC (n:=64) (wAa (f:=KL.encI) (sz:=1) (N:=64) aU (fun _=>rfl) rfl) (wIN (sz:=1) (fun _=>rfl) _ _ 0 _ gK rfl)))) rfl (zV rfl rfl rfl rfl (fun _=>zk rfl rfl rfl) (zV rfl rfl rfl rfl (fun _=>ZQ rfl rfl) (zV rfl rfl rfl rfl (fun _=>zK rfl rfl zj rfl Zz) (zV rfl rfl rfl rfl (fun _=>Zh rfl rfl rfl Zk zD (wCA aR) (wCB aR)) ?_))))
      have gL:=Arr.at_ aS (k:=ab) (by have hz0:=wAd aR;omega)
      refine zt (j:=0) (vs:=[jV (w64 ((aS.get ab) + 1))]) (cs':=[.slice ai p1.Bout.Shots.length aj,.slice ak p1.Bout.Down.length ap,.slice am p1.Bout.Across.length aq,.map (some ae)] ++ ((hH KL.encI aU.l) ++ ((hH KL.encI (aS.set ab (w64 ((aS.get ab) + 1))).l) ++ (hH KL.encT (ba.set ab true).l)))) rfl rfl rfl rfl bK rfl ((rfl:ev _ _=.pointer (some ⟨ah,68 + ab * 1,none⟩)).trans (wED (by omega))) rfl rfl zD (by have hz0:=wAd aR;simp only [nH,nI,nJ,wAa (f:=KL.encI) (sz:=1) (N:=64) aU (fun _=>rfl) rfl,wAa (f:=KL.encI) (sz:=1) (N:=8) aS (fun _=>rfl) rfl,wAa (f:=KL.encT) (sz:=1) (N:=16) (ba.set ab true) (fun _=>rfl) rfl];omega) rfl (wCn (n:=4) rfl (wCn (n:=64) (wAa (f:=KL.encI) (sz:=1) (N:=64) aU (fun _=>rfl) rfl) (wKy (sz:=1) (fo:=0) (fun _=>rfl) _ _ _ _ gL (zC rfl) rfl))) rfl ?_
      intro cu fH
      have fJ:SW w [.blk ah 99 ([.slice ai p1.Bout.Shots.length aj,.slice ak p1.Bout.Down.length ap,.slice am p1.Bout.Across.length aq,.map (some ae)] ++ ((hH KL.encI p1.hits.l) ++ ((hH KL.encI p1.used.l) ++ (hH KL.encT p1.met.l)))),.obj ae (.map au av)] U bm [.blk ah 99 ([.slice ai p1.Bout.Shots.length aj,.slice ak p1.Bout.Down.length ap,.slice am p1.Bout.Across.length aq,.map (some ae)] ++ ((hH KL.encI aU.l) ++ ((hH KL.encI (aS.set ab (w64 ((aS.get ab) + 1))).l) ++ (hH KL.encT (ba.set ab true).l)))),.obj ae (.map au av),.blk aW 3 B2,B1,B0,mks aX] cu:=fH
      refine eN (zJ (ZN ZO [1,1,1,3,3,3,3,1,3,3,3,3,3,0] (wOs (.fx 13 .nil .stop)) (by kernel_rfl) ?_))
      have bD:=fJ.drew
      generalize hw_W131:({ cu with drawn:=cu.drawn + 1 }:World)=iH at bD ⊢
      refine oL Z (bD.ldC (f:=0) bz (v:=.pointer (some ⟨ah,0,none⟩)) Z dm ZX Z) (oL Z (bD.ldB (j:=2) Z Z dq zO (v:=jV (↑ab:Int)) Z) (oL Z (bD.ldB (j:=4) Z Z eJ zO (v:=jV p0) Z) (oR Z (ZQ Z Z) (oR Z (zK Z Z zj Z Try.sizeOf95) (oR Z (Zh Z Z Z Zv Zz (wCA aR) (wCB aR)) (oR Z (Zh Z Z Z Zk zD (wCA be) (wCB be)) ?_))))))
      have gM:=Arr.at_ aU (k:=(ab * 8 + p0.toNat)) (by have hz0:=wAd aR;have hz1:=wAd be;omega)
      refine zy rfl rfl rfl rfl (bD.ldB (j:=0) rfl rfl ((rfl:ev _ _=.pointer (some ⟨ah,4 + ab * 8 + p0.toNat * 1,none⟩)).trans (wED (by omega))) zO (wEC (n:=4) rfl (wIN (sz:=1) (fun _=>rfl) _ _ 0 _ gM rfl))) rfl (zV rfl rfl rfl rfl (fun _=>zk rfl rfl rfl) (zV rfl rfl rfl rfl (fun _=>ZQ rfl rfl) (zV rfl rfl rfl rfl (fun _=>zK rfl rfl zj rfl Try.sizeOf95) (zV rfl rfl rfl rfl (fun _=>Zh rfl rfl rfl Zv Zz (wCA aR) (wCB aR)) (zV rfl rfl rfl rfl (fun _=>Zh rfl rfl rfl Zk zD (wCA be) (wCB be)) ?_)))))
      have gN:=Arr.at_ aU (k:=(ab * 8 + p0.toNat)) (by have hz0:=wAd aR;have hz1:=wAd be;omega)
      refine zt (j:=0) (vs:=[jV (w64 ((aU.get (ab * 8 + p0.toNat)) + 1))]) (cs':=[.slice ai p1.Bout.Shots.length aj,.slice ak p1.Bout.Down.length ap,.slice am p1.Bout.Across.length aq,.map (some ae)] ++ ((hH KL.encI (aU.set (ab * 8 + p0.toNat) (w64 ((aU.get (ab * 8 + p0.toNat)) + 1))).l) ++ ((hH KL.encI (aS.set ab (w64 ((aS.get ab) + 1))).l) ++ (hH KL.encT (ba.set ab true).l)))) rfl rfl rfl rfl bD rfl ((rfl:ev _ _=.pointer (some ⟨ah,4 + ab * 8 + p0.toNat * 1,none⟩)).trans (wED (by omega))) rfl rfl zD (by have hz0:=wAd aR;have hz1:=wAd be;simp only [nH,nI,nJ,wAa (f:=KL.encI) (sz:=1) (N:=64) aU (fun _=>rfl) rfl,wAa (f:=KL.encI) (sz:=1) (N:=8) (aS.set ab (w64 ((aS.get ab) + 1))) (fun _=>rfl) rfl,wAa (f:=KL.encT) (sz:=1) (N:=16) (ba.set ab true) (fun _=>rfl) rfl];omega) rfl (wCn (n:=4) rfl (wKy (sz:=1) (fo:=0) (fun _=>rfl) _ _ _ _ gN (zC rfl) rfl)) rfl ?_
      intro ei fK
      have fL:SW w [.blk ah 99 ([.slice ai p1.Bout.Shots.length aj,.slice ak p1.Bout.Down.length ap,.slice am p1.Bout.Across.length aq,.map (some ae)] ++ ((hH KL.encI p1.hits.l) ++ ((hH KL.encI p1.used.l) ++ (hH KL.encT p1.met.l)))),.obj ae (.map au av)] U bm [.blk ah 99 ([.slice ai p1.Bout.Shots.length aj,.slice ak p1.Bout.Down.length ap,.slice am p1.Bout.Across.length aq,.map (some ae)] ++ ((hH KL.encI (aU.set (ab * 8 + p0.toNat) (w64 ((aU.get (ab * 8 + p0.toNat)) + 1))).l) ++ ((hH KL.encI (aS.set ab (w64 ((aS.get ab) + 1))).l) ++ (hH KL.encT (ba.set ab true).l)))),.obj ae (.map au av),.blk aW 3 B2,B1,B0,mks aX] ei:=fK
      refine eN (sR (.fx 0 .nil .stop) Z (zt (j:=3) (vs:=[.bool true]) Z Z Z Z fL Z dp Z Z yC (zC Z) Z Z Z ?_))
      intro ej fM
      let B3:Res:=.blk bj 4 [.bool true]
      have fN:SW w [.blk ah 99 ([.slice ai p1.Bout.Shots.length aj,.slice ak p1.Bout.Down.length ap,.slice am p1.Bout.Across.length aq,.map (some ae)] ++ ((hH KL.encI p1.hits.l) ++ ((hH KL.encI p1.used.l) ++ (hH KL.encT p1.met.l)))),.obj ae (.map au av)] U bm [.blk ah 99 ([.slice ai p1.Bout.Shots.length aj,.slice ak p1.Bout.Down.length ap,.slice am p1.Bout.Across.length aq,.map (some ae)] ++ ((hH KL.encI (aU.set (ab * 8 + p0.toNat) (w64 ((aU.get (ab * 8 + p0.toNat)) + 1))).l) ++ ((hH KL.encI (aS.set ab (w64 ((aS.get ab) + 1))).l) ++ (hH KL.encT (ba.set ab true).l)))),.obj ae (.map au av),.blk aW 3 B2,B3,B0,mks aX] ej:=fM
      refine eN (zQ (ze (ZE (ze ?_))))
      have q:=wAj g6
      obtain ⟨iv,g7,eH⟩:=q
      have q:=wDl b5 bX (dV iv eH)
      obtain rfl:=q
      refine ze (ZE (ze (wFM (by first | exact .inl rfl | exact .inr rfl) (rbs:=aX) (L:=[.blk ah 99 ([.slice ai p1.Bout.Shots.length aj,.slice ak p1.Bout.Down.length ap,.slice am p1.Bout.Across.length aq,.map (some ae)] ++ ((hH KL.encI (aU.set (ab * 8 + p0.toNat) (w64 ((aU.get (ab * 8 + p0.toNat)) + 1))).l) ++ ((hH KL.encI (aS.set ab (w64 ((aS.get ab) + 1))).l) ++ (hH KL.encT (ba.set ab true).l)))),.obj ae (.map au av),.blk aW 3 B2,B3,B0]) (fN.pick [5,0,1,2,3,4] _ (by decide) rfl) fun en fO=>?_)))
      have dK:SW w [.blk ah 99 ([.slice ai p1.Bout.Shots.length aj,.slice ak p1.Bout.Down.length ap,.slice am p1.Bout.Across.length aq,.map (some ae)] ++ ((hH KL.encI p1.hits.l) ++ ((hH KL.encI p1.used.l) ++ (hH KL.encT p1.met.l)))),.obj ae (.map au av)] U bm [.blk ah 99 ([.slice ai p1.Bout.Shots.length aj,.slice ak p1.Bout.Down.length ap,.slice am p1.Bout.Across.length aq,.map (some ae)] ++ ((hH KL.encI (aU.set (ab * 8 + p0.toNat) (w64 ((aU.get (ab * 8 + p0.toNat)) + 1))).l) ++ ((hH KL.encI (aS.set ab (w64 ((aS.get ab) + 1))).l) ++ (hH KL.encT (ba.set ab true).l)))),.obj ae (.map au av),.blk aW 3 B2,B3,B0] en:=fO
      cases g7
      exact ⟨_,(wIh (v:=.bool true) ⟨⟨_,dp,(wQe Try.isAgg4 (dK.blkAt (k:=3) rfl) rfl)⟩,trivial⟩),bm,_,(dK.pick [0,1] _ (by decide) rfl),rfl,rfl⟩
     ·intro cC g8
      refine cF Z cC (kN (sR gAt Z (oL Z (bg.ldC (f:=0) bz (v:=.pointer (some ⟨ah,0,none⟩)) Z bk ZX Z) (oL Z (bg.ldB (j:=2) Z Z Z zO (v:=jV (↑ab:Int)) Z) ?_))))
      have q:=bnd g8
      obtain ⟨⟨⟩,eY,dW⟩:=q
      try dsimp only at dW
      refine zM 0 Z Z Z Z (zL Z Z Try.call43 (zB Z (zB Z zS)) Z) bg (fun hs=>wDt () ah (↑ab:Int) ct bm hs eY) (.inr Z) ?_
      rintro cX iA i7 eu bF fP ⟨de,df,dg,rfl,rfl,eZ,e8,e9⟩
      have fQ:SW w [.blk ah 99 ([.slice ai p1.Bout.Shots.length aj,.slice ak p1.Bout.Down.length ap,.slice am p1.Bout.Across.length aq,.map (some ae)] ++ ((hH KL.encI p1.hits.l) ++ ((hH KL.encI p1.used.l) ++ (hH KL.encT p1.met.l)))),.obj ae (.map au av)] U cX [.blk ah 99 ([.slice ai p1.Bout.Shots.length aj,.slice ak p1.Bout.Down.length ap,.slice am p1.Bout.Across.length aq,.map (some ae)] ++ ((hH KL.encI aU.l) ++ ((hH KL.encI aS.l) ++ (hH KL.encT (ba.set ab true).l)))),.obj ae (.map au av),.blk aW 3 B2,B1,B0,mks aX] eu:=fP
      refine eN (zi (CK.fresh fun bt bq=>?_))
      have dr:bt 1=.pointer (some ⟨bi,0,none⟩):=(bq 1).trans bk
      have dt:bt 2=.pointer (some ⟨br,0,none⟩):=(bq 2).trans cJ
      have du:bt 3=.pointer (some ⟨b6,0,none⟩):=(bq 3).trans bI
      have cG:bt 4=.pointer (some ⟨bj,0,none⟩):=(bq 4).trans bT
      have eK:bt 5=.pointer (some ⟨aW,0,none⟩):=(bq 5).trans rfl
      have dw:bt 18=jV (↑p1.Bout.Shots.length:Int):=(bq 18).trans bU
      have dx:bt 19=jV (↑ab:Int):=(bq 19).trans bJ
      have eL:bt 82=.func (.func 83) #[] #[.pointer (some ⟨de,0,none⟩),.pointer (some ⟨df,0,none⟩),.pointer (some ⟨dg,0,none⟩)]:=(bq 82).trans rfl
      clear bq
      refine bnK dW fun d7 gW b9=>?_
      have dC:=dB.le bF
      have fb:=dI.le bB
      have dD:=fb.le bF
      have fc:=dJ.le bB
      have dE:=fc.le bF
      refine CK.rangeYV (fun U_ L_=>∃ (i_ j_:Nat) (a0_:Arr Int 64) (a1_:Arr Int 8) (a2_:Arr Bool 16),L_[i_]?=some (.blk ah 99 ([.slice ai p1.Bout.Shots.length aj,.slice ak p1.Bout.Down.length ap,.slice am p1.Bout.Across.length aq,.map (some ae)] ++ ((hH KL.encI a0_.l) ++ ((hH KL.encI a1_.l) ++ (hH KL.encT a2_.l)))))/\L_[j_]?=some (.obj ae (.map au av))) (by rintro _ _ _ ⟨i,j,a0,a1,a2,hi,hj⟩;exact ⟨i + 1,j + 1,a0,a1,a2,hi,hj⟩) (S:=(Arr Int 64) × (Arr Int 8) × (Arr Bool 16)) (E:=(Arr Int 64) × (Arr Int 8) × (Arr Bool 16) × Bool) (ar:=wLR) (PY:=(fun (s_:(Arr Int 64) × (Arr Int 8) × (Arr Bool 16)) (U_:PHeap) (L_:List Res)=>match s_ with | (a303,a304,a305)=>L_=[.blk ah 99 ([.slice ai p1.Bout.Shots.length aj,.slice ak p1.Bout.Down.length ap,.slice am p1.Bout.Across.length aq,.map (some ae)] ++ ((hH KL.encI a303.l) ++ ((hH KL.encI a304.l) ++ (hH KL.encT a305.l)))),.obj ae (.map au av),.blk aW 3 [jV (↑ab:Int)],B1,B0,mks aX])) (PE:=(fun (s_:(Arr Int 64) × (Arr Int 8) × (Arr Bool 16) × Bool) (U_:PHeap) (L_:List Res)=>match s_ with | (a314,a315,a316,b317)=>L_=[.blk ah 99 ([.slice ai p1.Bout.Shots.length aj,.slice ak p1.Bout.Down.length ap,.slice am p1.Bout.Across.length aq,.map (some ae)] ++ ((hH KL.encI a314.l) ++ ((hH KL.encI a315.l) ++ (hH KL.encT a316.l)))),.obj ae (.map au av),.blk aW 3 [jV (↑ab:Int)],.blk bj 4 [.bool b317],B0,mks aX])) (exO:=(fun _=>.ret)) (s0:=(aU,aS,(ba.set ab true))) (rr:=d7) eL Try.call83 fQ (by decide) (fun _ _ _ h=>by obtain rfl:=h;rfl) (fun _=>.inl rfl) rfl (by rintro ⟨a303,a304,a305⟩ _ _ rfl;exact ⟨0,1,a303,a304,a305,rfl,rfl⟩) (fun l w1 L1 PY' PE' fC fA gE gD=>wDf PY' PE' _ l _ (⟨p1.Bout,p1.may,aU,aS,(ba.set ab true)⟩:wAF) de ah ai aj ak ap am aq ae au av () df (↑ab:Int) dg w1 L1 cX fC fA gE gD eZ dC dD dE bZ e8 e9 gW) ?_ ?_
      ·rintro bA i6 iX ⟨a303,a304,a305⟩ aT ja i0 cf iB iz iu bv bO fT fB gF cO bs bh
       obtain rfl:=fB
       obtain rfl:=gF
       replace bh:∀ t,bs t=upd bt 83 (jV aT) t:=bh
       have eM:bs 83=jV aT:=(bh 83).trans (wDB _ _ _)
       have cH:bs 1=.pointer (some ⟨bi,0,none⟩):=(bh 1).trans ((wCV _ _ (by decide)).trans dr)
       have eO:bs 2=.pointer (some ⟨br,0,none⟩):=(bh 2).trans ((wCV _ _ (by decide)).trans dt)
       have dy:bs 3=.pointer (some ⟨b6,0,none⟩):=(bh 3).trans ((wCV _ _ (by decide)).trans du)
       have eP:bs 4=.pointer (some ⟨bj,0,none⟩):=(bh 4).trans ((wCV _ _ (by decide)).trans cG)
       have cI:bs 5=.pointer (some ⟨aW,0,none⟩):=(bh 5).trans ((wCV _ _ (by decide)).trans eK)
       have iR:bs 18=jV (↑p1.Bout.Shots.length:Int):=(bh 18).trans ((wCV _ _ (by decide)).trans dw)
       have iT:bs 19=jV (↑ab:Int):=(bh 19).trans ((wCV _ _ (by decide)).trans dx)
       clear bh
       have fU:St bv cf [.obj bA iu,.blk ah 99 ([.slice ai p1.Bout.Shots.length aj,.slice ak p1.Bout.Down.length ap,.slice am p1.Bout.Across.length aq,.map (some ae)] ++ ((hH KL.encI a303.l) ++ ((hH KL.encI a304.l) ++ (hH KL.encT a305.l)))),.obj ae (.map au av),.blk aW 3 B2,B1,B0,mks aX] iz:=fT
       try dsimp only at cO
       refine rR fL1 Z (oA Z eM (zn ⟨Z,Z,_,_,fU,fun cw bG fV=>?_⟩))
       have fW:St bv cf [.obj bA bG,.blk ah 99 ([.slice ai p1.Bout.Shots.length aj,.slice ak p1.Bout.Down.length ap,.slice am p1.Bout.Across.length aq,.map (some ae)] ++ ((hH KL.encI a303.l) ++ ((hH KL.encI a304.l) ++ (hH KL.encT a305.l)))),.obj ae (.map au av),.blk aW 3 B2,B1,B0,mks aX] cw:=fV
       refine zi (zJ (ZN ZO [3,1,3,3,1,1,3,3,3,3,3,1,3,3,3,1,3,0,3] (wQV gAm) (by kernel_rfl) ?_))
       have bo:=fW.drew
       generalize hw_W362:({ cw with drawn:=cw.drawn + 1 }:World)=cY at bo ⊢
       refine oM Z Z (oL Z (bo.ldB (j:=5) Z Z dy zO (v:=jV p0) Z) (oR Z (ZL Z Z Z) (oM Z Z ?_)))
       by_cases aY:aT=p0
       ·have dX:=cO;rw [if_pos aY] at dX;replace aY:=zN aY
        refine zG Z Z Z (zF Z Z (zm (fun h=>h aY.out)) Z) (zG Z Z Z (zF Z Z (zm (fun h=>h aY.out)) Z) (zG Z Z Z (zF Z Z (zm (fun h=>h aY.out)) Z) (zG Z Z Z (zF Z Z (zm (fun h=>h aY.out)) Z) (zG Z Z Z (zF Z Z (zm (fun h=>h aY.out)) Z) (zG Z Z Z (zF Z Z (zm (fun h=>h aY.out)) Z) (zG Z Z Z (zF Z Z (zm (fun h=>h aY.out)) Z) (zG Z Z Z (zF Z Z (zm (fun h=>h aY.out)) Z) (zG Z Z Z (zF Z Z (zm (fun h=>h aY.out)) Z) (oR Z (zP Z (zm (fun h=>h aY.out)) Z) (oM Z Z (oN Z (oN Z (ZV Z Z Z (zF Z Z Z Z) (oR Z (zP Z Z Z) (eN (zg Z (Za (zp ?_))))))))))))))))))
        have q:=nD dX
        obtain rfl:=q
        exact ⟨_,_,bo,Z,Z⟩
       ·have dY:=cO;rw [if_neg aY] at dY;replace aY:=zN aY
        have fd:=bz.le bF
        have cK:=fd.le bO
        refine zy Z Z Z (wT Z aY) (bo.ldC (f:=0) cK (v:=.pointer (some ⟨ah,0,none⟩)) Z cH ZX Z) Z (zy Z Z Z (wT Z aY) (bo.ldB (j:=3) Z Z cI zO (v:=jV (↑ab:Int)) Z) Z (zW Z Z Z (wT Z aY) Z Z (rU Z (wT Z aY) (ZQ Z Z) (rU Z (wT Z aY) (zK Z Z zj Z Try.sizeOf95) (rU Z (wT Z aY) (Zh Z Z Z Zv Zz (wCA aR) (wCB aR)) (bnK dY fun _ bl g9=>rU Z (wT Z aY) (Zh Z Z Z Zk zD (wCA bl) (wCB bl)) ?_))))))
        have gP:=Arr.at_ a303 (k:=(ab * 8 + aT.toNat)) (by have hz0:=wAd aR;have hz1:=wAd bl;omega)
        refine zy rfl rfl rfl (zE rfl rfl (Zf aY.out)) (bo.ldB (j:=1) rfl rfl ((rfl:ev _ _=.pointer (some ⟨ah,4 + ab * 8 + aT.toNat * 1,none⟩)).trans (wED (by omega))) zO (wEC (n:=4) rfl (wIN (sz:=1) (fun _=>rfl) _ _ 0 _ gP rfl))) rfl (zV rfl rfl rfl (zE rfl rfl (Zf aY.out)) (fun _=>Zl rfl rfl rfl) (zV rfl rfl rfl rfl (fun _=>zU rfl (Zf aY.out) rfl) (zW rfl rfl rfl rfl rfl rfl (ifc g9 ?_ ?_))))
        ·intro bn ib
         have ff:=dU.le bu
         have fg:=ff.le bB
         have fh:=fg.le bF
         have dF:=fh.le bO
         refine zy Z Z Z (wT Z bn) (bo.ldC (f:=0) dF (v:=.func (.func 84) #[] #[.pointer (some ⟨bi,0,none⟩),.pointer (some ⟨br,0,none⟩)]) Z eO Try.isAgg74 Z) Z (zW Z Z Z (wT Z bn) Z Z ?_)
         have fj:=dC.le bO
         have fm:=dD.le bO
         have ft:=dE.le bO
         have q:=bnd ib
         obtain ⟨⟨jb,az⟩,fu,dZ⟩:=q
         try dsimp only at dZ
         have fY:St bv cf [.blk ah 99 ([.slice ai p1.Bout.Shots.length aj,.slice ak p1.Bout.Down.length ap,.slice am p1.Bout.Across.length aq,.map (some ae)] ++ ((hH KL.encI a303.l) ++ ((hH KL.encI a304.l) ++ (hH KL.encT a305.l)))),.obj ae (.map au av),.obj bA bG,.blk aW 3 B2,B1,B0,mks aX] cY:=bo.pick [1,2,0,3,4,5,6] _ (by decide) rfl
         refine zM 2 Z Z Z (wT Z bn) (zL Z Z Try.call84 (zB Z zS) Z) fY (fun hs=>ih aT (⟨p1.Bout,p1.may,a303,a304,a305⟩:wAF) bi ah ai aj ak ap am aq ae au av () br cY cf hs cK fj fm ft bZ dF fu) (.inl Z) ?_
         rintro bQ iC i8 cy ir fZ ⟨rfl,rfl⟩
         have dL:St bv bQ [.blk ah 99 ([.slice ai p1.Bout.Shots.length aj,.slice ak p1.Bout.Down.length ap,.slice am p1.Bout.Across.length aq,.map (some ae)] ++ ((hH KL.encI az.1.l) ++ ((hH KL.encI az.2.1.l) ++ (hH KL.encT az.2.2.l)))),.obj ae (.map au av),.obj bA bG,.blk aW 3 B2,B1,B0,mks aX] cy:=fZ
         refine oR Z (zU Z (Zf bn.out) Z) (eN (ifc dZ ?_ ?_))
         ·intro cD ic
          refine ZB (congrArg nA cD.out) (zJ (ZN ZO [1,1,3,3,3,3,3,1,3,3,3,3,3,0] (wOs (.fx 13 .nil .stop)) (by kernel_rfl) ?_))
          have bL:=dL.drew
          generalize hw_W398:({ cy with drawn:=cy.drawn + 1 }:World)=iJ at bL ⊢
          have dG:=cK.le ir
          refine oL Z (bL.ldC (f:=0) dG (v:=.pointer (some ⟨ah,0,none⟩)) Z cH ZX Z) (oL Z (bL.ldB (j:=3) Z Z cI zO (v:=jV (↑ab:Int)) Z) (oM Z Z (oR Z (ZQ Z Z) (oR Z (zK Z Z zj Z Try.sizeOf95) (oR Z (Zh Z Z Z Zv Zz (wCA aR) (wCB aR)) (oR Z (Zh Z Z Z Zk zD (wCA bl) (wCB bl)) ?_))))))
          have gQ:=Arr.at_ az.1 (k:=(ab * 8 + aT.toNat)) (by have hz0:=wAd aR;have hz1:=wAd bl;omega)
          refine zy rfl rfl rfl rfl (bL.ldB (j:=0) rfl rfl ((rfl:ev _ _=.pointer (some ⟨ah,4 + ab * 8 + aT.toNat * 1,none⟩)).trans (wED (by omega))) zO (wEC (n:=4) rfl (wIN (sz:=1) (fun _=>rfl) _ _ 0 _ gQ rfl))) rfl (zV rfl rfl rfl rfl (fun _=>ZG rfl rfl rfl) (zV rfl rfl rfl rfl (fun _=>ZQ rfl rfl) (zV rfl rfl rfl rfl (fun _=>zK rfl rfl zj rfl Try.sizeOf95) (zV rfl rfl rfl rfl (fun _=>Zh rfl rfl rfl Zv Zz (wCA aR) (wCB aR)) (zV rfl rfl rfl rfl (fun _=>Zh rfl rfl rfl Zk zD (wCA bl) (wCB bl)) ?_)))))
          have gR:=Arr.at_ az.1 (k:=(ab * 8 + aT.toNat)) (by have hz0:=wAd aR;have hz1:=wAd bl;omega)
          refine zt (j:=0) (vs:=[jV (w64 ((az.1.get (ab * 8 + aT.toNat)) - 1))]) (cs':=[.slice ai p1.Bout.Shots.length aj,.slice ak p1.Bout.Down.length ap,.slice am p1.Bout.Across.length aq,.map (some ae)] ++ ((hH KL.encI (az.1.set (ab * 8 + aT.toNat) (w64 ((az.1.get (ab * 8 + aT.toNat)) - 1))).l) ++ ((hH KL.encI az.2.1.l) ++ (hH KL.encT az.2.2.l)))) rfl rfl rfl rfl bL rfl ((rfl:ev _ _=.pointer (some ⟨ah,4 + ab * 8 + aT.toNat * 1,none⟩)).trans (wED (by omega))) rfl rfl zD (by have hz0:=wAd aR;have hz1:=wAd bl;simp only [nH,nI,nJ,wAa (f:=KL.encI) (sz:=1) (N:=64) az.1 (fun _=>rfl) rfl,wAa (f:=KL.encI) (sz:=1) (N:=8) az.2.1 (fun _=>rfl) rfl,wAa (f:=KL.encT) (sz:=1) (N:=16) az.2.2 (fun _=>rfl) rfl];omega) rfl (wCn (n:=4) rfl (wKy (sz:=1) (fo:=0) (fun _=>rfl) _ _ _ _ gR (zC rfl) rfl)) rfl ?_
          intro cz ga
          have gb:St bv bQ [.blk ah 99 ([.slice ai p1.Bout.Shots.length aj,.slice ak p1.Bout.Down.length ap,.slice am p1.Bout.Across.length aq,.map (some ae)] ++ ((hH KL.encI (az.1.set (ab * 8 + aT.toNat) (w64 ((az.1.get (ab * 8 + aT.toNat)) - 1))).l) ++ ((hH KL.encI az.2.1.l) ++ (hH KL.encT az.2.2.l)))),.obj ae (.map au av),.obj bA bG,.blk aW 3 B2,B1,B0,mks aX] cz:=ga
          refine eN (zJ (CK.fresh fun cn bN=>?_))
          have eQ:cn 1=.pointer (some ⟨bi,0,none⟩):=(bN 1).trans cH
          have eT:cn 3=.pointer (some ⟨b6,0,none⟩):=(bN 3).trans dy
          have eU:cn 4=.pointer (some ⟨bj,0,none⟩):=(bN 4).trans eP
          have eV:cn 5=.pointer (some ⟨aW,0,none⟩):=(bN 5).trans cI
          clear bN
          refine ZN ZO [1,1,1,3,3,3,3,1,3,3,3,3,3,0] (wOs (.fx 13 .nil .stop)) (by kernel_rfl) ?_
          have bE:=gb.drew
          generalize hw_W412:({ cz with drawn:=cz.drawn + 1 }:World)=iK at bE ⊢
          refine oL Z (bE.ldC (f:=0) dG (v:=.pointer (some ⟨ah,0,none⟩)) Z eQ ZX Z) (oL Z (bE.ldB (j:=3) Z Z eV zO (v:=jV (↑ab:Int)) Z) (oL Z (bE.ldB (j:=5) Z Z eT zO (v:=jV p0) Z) (oR Z (ZQ Z Z) (oR Z (zK Z Z zj Z Try.sizeOf95) (oR Z (Zh Z Z Z Zv Zz (wCA aR) (wCB aR)) (oR Z (Zh Z Z Z Zk zD (wCA be) (wCB be)) ?_))))))
          have gS:=Arr.at_ (az.1.set (ab * 8 + aT.toNat) (w64 ((az.1.get (ab * 8 + aT.toNat)) - 1))) (k:=(ab * 8 + p0.toNat)) (by have hz0:=wAd aR;have hz1:=wAd be;omega)
          refine zy rfl rfl rfl rfl (bE.ldB (j:=0) rfl rfl ((rfl:ev _ _=.pointer (some ⟨ah,4 + ab * 8 + p0.toNat * 1,none⟩)).trans (wED (by omega))) zO (wEC (n:=4) rfl (wIN (sz:=1) (fun _=>rfl) _ _ 0 _ gS rfl))) rfl (zV rfl rfl rfl rfl (fun _=>zk rfl rfl rfl) (zV rfl rfl rfl rfl (fun _=>ZQ rfl rfl) (zV rfl rfl rfl rfl (fun _=>zK rfl rfl zj rfl Try.sizeOf95) (zV rfl rfl rfl rfl (fun _=>Zh rfl rfl rfl Zv Zz (wCA aR) (wCB aR)) (zV rfl rfl rfl rfl (fun _=>Zh rfl rfl rfl Zk zD (wCA be) (wCB be)) ?_)))))
          have gT:=Arr.at_ (az.1.set (ab * 8 + aT.toNat) (w64 ((az.1.get (ab * 8 + aT.toNat)) - 1))) (k:=(ab * 8 + p0.toNat)) (by have hz0:=wAd aR;have hz1:=wAd be;omega)
          refine zt (j:=0) (vs:=[jV (w64 (((az.1.set (ab * 8 + aT.toNat) (w64 ((az.1.get (ab * 8 + aT.toNat)) - 1))).get (ab * 8 + p0.toNat)) + 1))]) (cs':=[.slice ai p1.Bout.Shots.length aj,.slice ak p1.Bout.Down.length ap,.slice am p1.Bout.Across.length aq,.map (some ae)] ++ ((hH KL.encI ((az.1.set (ab * 8 + aT.toNat) (w64 ((az.1.get (ab * 8 + aT.toNat)) - 1))).set (ab * 8 + p0.toNat) (w64 (((az.1.set (ab * 8 + aT.toNat) (w64 ((az.1.get (ab * 8 + aT.toNat)) - 1))).get (ab * 8 + p0.toNat)) + 1))).l) ++ ((hH KL.encI az.2.1.l) ++ (hH KL.encT az.2.2.l)))) rfl rfl rfl rfl bE rfl ((rfl:ev _ _=.pointer (some ⟨ah,4 + ab * 8 + p0.toNat * 1,none⟩)).trans (wED (by omega))) rfl rfl zD (by have hz0:=wAd aR;have hz1:=wAd be;simp only [nH,nI,nJ,wAa (f:=KL.encI) (sz:=1) (N:=64) (az.1.set (ab * 8 + aT.toNat) (w64 ((az.1.get (ab * 8 + aT.toNat)) - 1))) (fun _=>rfl) rfl,wAa (f:=KL.encI) (sz:=1) (N:=8) az.2.1 (fun _=>rfl) rfl,wAa (f:=KL.encT) (sz:=1) (N:=16) az.2.2 (fun _=>rfl) rfl];omega) rfl (wCn (n:=4) rfl (wKy (sz:=1) (fo:=0) (fun _=>rfl) _ _ _ _ gT (zC rfl) rfl)) rfl ?_
          intro ez gc
          have ge:St bv bQ [.blk ah 99 ([.slice ai p1.Bout.Shots.length aj,.slice ak p1.Bout.Down.length ap,.slice am p1.Bout.Across.length aq,.map (some ae)] ++ ((hH KL.encI ((az.1.set (ab * 8 + aT.toNat) (w64 ((az.1.get (ab * 8 + aT.toNat)) - 1))).set (ab * 8 + p0.toNat) (w64 (((az.1.set (ab * 8 + aT.toNat) (w64 ((az.1.get (ab * 8 + aT.toNat)) - 1))).get (ab * 8 + p0.toNat)) + 1))).l) ++ ((hH KL.encI az.2.1.l) ++ (hH KL.encT az.2.2.l)))),.obj ae (.map au av),.obj bA bG,.blk aW 3 B2,B1,B0,mks aX] ez:=gc
          refine eN (sR (.fx 0 .nil .stop) Z (zt (j:=4) (vs:=[.bool true]) Z Z Z Z ge Z eU Z Z yC (zC Z) Z Z Z ?_))
          intro eA gf
          have gg:St bv bQ [.blk ah 99 ([.slice ai p1.Bout.Shots.length aj,.slice ak p1.Bout.Down.length ap,.slice am p1.Bout.Across.length aq,.map (some ae)] ++ ((hH KL.encI ((az.1.set (ab * 8 + aT.toNat) (w64 ((az.1.get (ab * 8 + aT.toNat)) - 1))).set (ab * 8 + p0.toNat) (w64 (((az.1.set (ab * 8 + aT.toNat) (w64 ((az.1.get (ab * 8 + aT.toNat)) - 1))).get (ab * 8 + p0.toNat)) + 1))).l) ++ ((hH KL.encI az.2.1.l) ++ (hH KL.encT az.2.2.l)))),.obj ae (.map au av),.obj bA bG,.blk aW 3 B2,.blk bj 4 [.bool true],B0,mks aX] eA:=gf
          refine eN (zQ (ZE ?_))
          have q:=nD ic
          obtain rfl:=q
          exact ⟨_,_,(gg.pick [2,0,1,3,4,5,6] _ (by decide) rfl),rfl,rfl⟩
         ·intro cD ie
          refine zg (congrArg nA (nB.2 cD.out)) (Za (zp ?_))
          have q:=nD ie
          obtain rfl:=q
          exact ⟨_,_,(dL.pick [2,0,1,3,4,5,6] _ (by decide) rfl),rfl,rfl⟩
        ·intro bn ig
         refine oF Z bn (oF Z bn (ZV Z Z Z (zF Z Z (zm bn.out) Z) (oR Z (zP Z (zm bn.out) Z) (eN (zg Z (Za (zp ?_)))))))
         have q:=nD ig
         obtain rfl:=q
         exact ⟨_,_,bo,Z,Z⟩
      ·rintro bH bw iE bS it dM
       rcases d7 with ⟨d8,d9,eb⟩ | ⟨cg,ci,cj,ed⟩
       ·try dsimp only at b9
        rintro rfl
        have gh:SW w [.blk ah 99 ([.slice ai p1.Bout.Shots.length aj,.slice ak p1.Bout.Down.length ap,.slice am p1.Bout.Across.length aq,.map (some ae)] ++ ((hH KL.encI p1.hits.l) ++ ((hH KL.encI p1.used.l) ++ (hH KL.encT p1.met.l)))),.obj ae (.map au av)] U bw [.blk ah 99 ([.slice ai p1.Bout.Shots.length aj,.slice ak p1.Bout.Down.length ap,.slice am p1.Bout.Across.length aq,.map (some ae)] ++ ((hH KL.encI d8.l) ++ ((hH KL.encI d9.l) ++ (hH KL.encT eb.l)))),.obj ae (.map au av),.blk aW 3 B2,B1,B0,mks aX,.obj bH (.deferred (some []))] bS:=dM
        have gi:SW w [.blk ah 99 ([.slice ai p1.Bout.Shots.length aj,.slice ak p1.Bout.Down.length ap,.slice am p1.Bout.Across.length aq,.map (some ae)] ++ ((hH KL.encI p1.hits.l) ++ ((hH KL.encI p1.used.l) ++ (hH KL.encT p1.met.l)))),.obj ae (.map au av)] U bw [mks (bH :: aX),.blk ah 99 ([.slice ai p1.Bout.Shots.length aj,.slice ak p1.Bout.Down.length ap,.slice am p1.Bout.Across.length aq,.map (some ae)] ++ ((hH KL.encI d8.l) ++ ((hH KL.encI d9.l) ++ (hH KL.encT eb.l)))),.obj ae (.map au av),.blk aW 3 B2,B1,B0] bS:=(gh.pick [5,6,0,1,2,3,4] _ (by decide) rfl).mksAdd
        refine zp (zp (zI (rR fL2 Z (oR Z (ZI (zk Z dx Z) (congrArg (jV) cP.out)) (oM Z Z (zn ?_))))))
        have q:=nD b9
        obtain rfl:=q
        exact zI ⟨_,rfl,⟨bw,(bH :: aX),rfl,rfl,dr,dt,du,cG,dw,(((bu.trans bB).trans bF).trans it),(gi.pick [4,5,0,1,2] _ (by decide) rfl)⟩⟩
       ·try dsimp only at b9
        rintro rfl
        let B4:Res:=.blk bj 4 [.bool ed]
        have gj:SW w [.blk ah 99 ([.slice ai p1.Bout.Shots.length aj,.slice ak p1.Bout.Down.length ap,.slice am p1.Bout.Across.length aq,.map (some ae)] ++ ((hH KL.encI p1.hits.l) ++ ((hH KL.encI p1.used.l) ++ (hH KL.encT p1.met.l)))),.obj ae (.map au av)] U bw [.blk ah 99 ([.slice ai p1.Bout.Shots.length aj,.slice ak p1.Bout.Down.length ap,.slice am p1.Bout.Across.length aq,.map (some ae)] ++ ((hH KL.encI cg.l) ++ ((hH KL.encI ci.l) ++ (hH KL.encT cj.l)))),.obj ae (.map au av),.blk aW 3 B2,B4,B0,mks aX,.obj bH (.deferred (some []))] bS:=dM
        have gm:SW w [.blk ah 99 ([.slice ai p1.Bout.Shots.length aj,.slice ak p1.Bout.Down.length ap,.slice am p1.Bout.Across.length aq,.map (some ae)] ++ ((hH KL.encI p1.hits.l) ++ ((hH KL.encI p1.used.l) ++ (hH KL.encT p1.met.l)))),.obj ae (.map au av)] U bw [mks (bH :: aX),.blk ah 99 ([.slice ai p1.Bout.Shots.length aj,.slice ak p1.Bout.Down.length ap,.slice am p1.Bout.Across.length aq,.map (some ae)] ++ ((hH KL.encI cg.l) ++ ((hH KL.encI ci.l) ++ (hH KL.encT cj.l)))),.obj ae (.map au av),.blk aW 3 B2,B4,B0] bS:=(gj.pick [5,6,0,1,2,3,4] _ (by decide) rfl).mksAdd
        refine ZE (ZE (ze ?_))
        have q:=wAj b9
        obtain ⟨iw,ii,eI⟩:=q
        have q:=wDl b5 bX (dV iw eI)
        obtain rfl:=q
        refine ze (ZE (ze (wFM (by first | exact .inl rfl | exact .inr rfl) (rbs:=(bH :: aX)) (L:=[.blk ah 99 ([.slice ai p1.Bout.Shots.length aj,.slice ak p1.Bout.Down.length ap,.slice am p1.Bout.Across.length aq,.map (some ae)] ++ ((hH KL.encI cg.l) ++ ((hH KL.encI ci.l) ++ (hH KL.encT cj.l)))),.obj ae (.map au av),.blk aW 3 B2,B4,B0]) gm fun eC gp=>?_)))
        have dO:SW w [.blk ah 99 ([.slice ai p1.Bout.Shots.length aj,.slice ak p1.Bout.Down.length ap,.slice am p1.Bout.Across.length aq,.map (some ae)] ++ ((hH KL.encI p1.hits.l) ++ ((hH KL.encI p1.used.l) ++ (hH KL.encT p1.met.l)))),.obj ae (.map au av)] U bw [.blk ah 99 ([.slice ai p1.Bout.Shots.length aj,.slice ak p1.Bout.Down.length ap,.slice am p1.Bout.Across.length aq,.map (some ae)] ++ ((hH KL.encI cg.l) ++ ((hH KL.encI ci.l) ++ (hH KL.encT cj.l)))),.obj ae (.map au av),.blk aW 3 B2,B4,B0] eC:=gp
        cases ii
        exact ⟨_,(wIh (v:=.bool ed) ⟨⟨_,cG,(wQe Try.isAgg4 (dO.blkAt (k:=3) rfl) rfl)⟩,trivial⟩),bw,_,(dO.pick [0,1] _ (by decide) rfl),rfl,rfl⟩
    ·intro cE ij
     refine ZB (nF (cE.out)) (ZS (zq (ZJ (zI (rR fL2 Z (oR Z (ZI (zk Z bJ Z) (congrArg (jV) cP.out)) (oM Z Z (zn ?_))))))))
     have q:=nD ij
     obtain rfl:=q
     exact zI ⟨_,rfl,⟨bm,aX,rfl,rfl,bk,cJ,bI,bT,bU,(bu.trans bB),(dQ.pick [3,4,5,0,1] _ (by decide) rfl)⟩⟩
  ·rintro ⟨cU,cV,cW⟩ D_ je iM ⟨cq,d6,rfl,eX,iU,iV,iW,dz,eW,iY,gq⟩ gG
   have d4:=wEA b5 bX gG
   try dsimp only at d4
   have eG:Hid (¬ ((↑(((↑p1.Bout.Shots.length:Int):Int) - 0).toNat:Int) < (↑p1.Bout.Shots.length:Int))):=zN (wBi)
   refine sR fL1 Z (oR Z (zo Z eX eW) (eN (zJ (cF Z eG (ZS (zq (zq (ZJ (zI (sR (.fx 0 .nil .stop) Z (zt (j:=0) (vs:=[.bool false]) Z Z Z Z gq Z dz Z Z yC (zC Z) Z Z Z ?_)))))))))))
   intro eE gt
   have gu:SW w [.blk ah 99 ([.slice ai p1.Bout.Shots.length aj,.slice ak p1.Bout.Down.length ap,.slice am p1.Bout.Across.length aq,.map (some ae)] ++ ((hH KL.encI p1.hits.l) ++ ((hH KL.encI p1.used.l) ++ (hH KL.encT p1.met.l)))),.obj ae (.map au av)] U cq [B1,B0,mks d6,.blk ah 99 ([.slice ai p1.Bout.Shots.length aj,.slice ak p1.Bout.Down.length ap,.slice am p1.Bout.Across.length aq,.map (some ae)] ++ ((hH KL.encI cU.l) ++ ((hH KL.encI cV.l) ++ (hH KL.encT cW.l)))),.obj ae (.map au av)] eE:=gt
   refine eN (zQ (wFM (by first | exact .inl rfl | exact .inr rfl) (rbs:=d6) (L:=[B1,B0,.blk ah 99 ([.slice ai p1.Bout.Shots.length aj,.slice ak p1.Bout.Down.length ap,.slice am p1.Bout.Across.length aq,.map (some ae)] ++ ((hH KL.encI cU.l) ++ ((hH KL.encI cV.l) ++ (hH KL.encT cW.l)))),.obj ae (.map au av)]) (gu.pick [2,0,1,3,4] _ (by decide) rfl) fun eF gv=>?_))
   have dP:SW w [.blk ah 99 ([.slice ai p1.Bout.Shots.length aj,.slice ak p1.Bout.Down.length ap,.slice am p1.Bout.Across.length aq,.map (some ae)] ++ ((hH KL.encI p1.hits.l) ++ ((hH KL.encI p1.used.l) ++ (hH KL.encT p1.met.l)))),.obj ae (.map au av)] U cq [B1,B0,.blk ah 99 ([.slice ai p1.Bout.Shots.length aj,.slice ak p1.Bout.Down.length ap,.slice am p1.Bout.Across.length aq,.map (some ae)] ++ ((hH KL.encI cU.l) ++ ((hH KL.encI cV.l) ++ (hH KL.encT cW.l)))),.obj ae (.map au av)] eF:=gv
   cases d4
   exact ⟨_,(wIh (v:=.bool false) ⟨⟨_,dz,(wQe Try.isAgg4 (dP.blkAt (k:=0) rfl) rfl)⟩,trivial⟩),cq,_,(dP.pick [2,3] _ (by decide) rfl),rfl,rfl⟩
end Go.Proofs.Ytfcmijinklojbaa
namespace Go.Proofs.Ytfcmijinklojbaa
open Go.KL
set_option maxHeartbeats 4000000
theorem wFW (p0:wAF) (ah:Nat) (ak:Option Addr) (ap:Nat) (ai:Option Addr) (aj:Nat) (am:Option Addr) (aq:Nat) (ab:Nat) (au:Array MapEntry) (av:Nat) (w:World) (U:PHeap) (hS:St0 w U [.blk ah 99 ([.slice ak p0.Bout.Shots.length ap,.slice ai p0.Bout.Down.length aj,.slice am p0.Bout.Across.length aq,.map (some ab)] ++ ((hH KL.encI p0.hits.l) ++ ((hH KL.encI p0.used.l) ++ (hH KL.encT p0.met.l)))),.obj ab (.map au av)]) (bR:Sl U 1 ak ap p0.Bout.Shots.length (hH KL.encI p0.Bout.Shots)) (bS:Sl U 1 ai aj p0.Bout.Down.length (hH KL.encI p0.Bout.Down)) (bT:Sl U 2 am aq p0.Bout.Across.length (hH wAA p0.Bout.Across)) (bU:MpR au wGP wGg p0.may) {r:(List Int)} (hm:wBU p0=some r):Gv Try.prog 85 [.pointer (some ⟨ah,0,none⟩)] w (wCt w [.blk ah 99 ([.slice ak p0.Bout.Shots.length ap,.slice ai p0.Bout.Down.length aj,.slice am p0.Bout.Across.length aq,.map (some ab)] ++ ((hH KL.encI p0.hits.l) ++ ((hH KL.encI p0.used.l) ++ (hH KL.encT p0.met.l)))),.obj ab (.map au av)] U (fun U_ L_ v=>∃ (A0:Option Addr) (c0:Nat),v=.slice A0 r.length c0/\L_=[.row A0 c0 3 1 (hH KL.encI r),.blk ah 99 ([.slice ak p0.Bout.Shots.length ap,.slice ai p0.Bout.Down.length aj,.slice am p0.Bout.Across.length aq,.map (some ab)] ++ ((hH KL.encI p0.hits.l) ++ ((hH KL.encI p0.used.l) ++ (hH KL.encT p0.met.l)))),.obj ab (.map au av)])):=by
 unfold wBU at hm
 refine Gv.of Try.func85 Z Try.ntmps85 Try.results85 Z (sR fL1 Z (oA Z Z (eN (sR fL1 Z (oA Z Z (eN (zJ (sR fL7 Z (oM Z Z (oR Z (ZQ Z Z) (oR Z (zK Z Z zj Z zu) (oR Z (zK Z Z zR Z zZ) (oL Z (hS.ldB (j:=0) Z Z Z zd (v:=.slice ai p0.Bout.Down.length aj) Z) (oR Z (zr Z Z zA) (oM Z Z (eN (zi (bnK hm fun bX bF bI=>?_))))))))))))))))))
 have q:=wCQ bF
 obtain ⟨ba,bG⟩:=q
 replace ba:=zN ba
 refine CK.forN' (fun ae aR σ_ w_=>∃ (U_:PHeap) (az:Option Addr) (aQ:Nat),σ_ 11=jV (↑ae:Int)/\σ_ 0=.pointer (some ⟨ah,0,none⟩)/\σ_ 3=.slice az aR.length aQ/\σ_ 10=jV (↑p0.Bout.Down.length:Int)/\PHeap.Le U U_/\SW w [.blk ah 99 ([.slice ak p0.Bout.Shots.length ap,.slice ai p0.Bout.Down.length aj,.slice am p0.Bout.Across.length aq,.map (some ab)] ++ ((hH KL.encI p0.hits.l) ++ ((hH KL.encI p0.used.l) ++ (hH KL.encT p0.met.l)))),.obj ab (.map au av)] U U_ [.blk ah 99 ([.slice ak p0.Bout.Shots.length ap,.slice ai p0.Bout.Down.length aj,.slice am p0.Bout.Across.length aq,.map (some ab)] ++ ((hH KL.encI p0.hits.l) ++ ((hH KL.encI p0.used.l) ++ (hH KL.encT p0.met.l)))),.obj ab (.map au av),.row az aQ 3 1 (hH KL.encI aR)] w_) bG ?_ ?_ ?_
 have bA:=hS.nilrow 3 1
 exact ⟨U,none,0,rfl,rfl,rfl,rfl,(zX _),(bA.pick [1,2,0] _ (by decide) rfl)⟩
 rintro ae aR bW bY bO aZ ⟨aS,az,aQ,aT,aV,bj,aW,bm,aY⟩ bN
 have bh:Hid ((↑ae:Int) < (↑p0.Bout.Down.length:Int)):=zN (wCO aZ)
 replace aZ:=zN aZ
 have bl:Hid (w64 ((↑ae:Int) + 1)=(↑(ae + 1):Int)):=zN (by have h1:=ba.out;have h2:=bh.out;rw [wAM] <;> omega)
 refine sR fL1 rfl (zV rfl rfl rfl rfl (fun _=>zo rfl aT aW) (eN (zJ (cT Z bh (kN (zJ (zi (sR fL2 rfl (zW rfl rfl rfl rfl rfl aT (OKS.ra rfl rfl rfl rfl rfl rfl (eN (sR fL7 rfl (zW rfl rfl rfl rfl rfl aV (zW rfl rfl rfl rfl rfl rfl (zV rfl rfl rfl rfl (fun _=>ZQ rfl rfl) (zV rfl rfl rfl rfl (fun _=>zK rfl rfl zj rfl Try.sizeOf97) (zV rfl rfl rfl rfl (fun _=>ZI (Zh rfl rfl rfl Try.runUnderlying97 Try.sizeOf96 (by decide) (by decide)) rfl) (bnK bN fun _ aX bJ=>zV rfl rfl rfl rfl (fun _=>Zh rfl rfl rfl Try.runUnderlying96 yC (wCA aX) (wCB aX)) ?_))))))))))))))))))
 have bH:=Arr.at_ p0.met (k:=(8 + ae)) (by have hz0:=wAd aX;omega)
 refine zy rfl rfl rfl rfl (aY.ldB (j:=0) rfl rfl ((rfl:ev _ _=.pointer (some ⟨ah,84 + ae * 1,none⟩)).trans (wED (by omega))) Try.isAgg4 (wEC (n:=4) rfl (wEC (n:=64) (wAa (f:=KL.encI) (sz:=1) (N:=64) p0.hits (fun _=>rfl) rfl) (wEC (n:=8) (wAa (f:=KL.encI) (sz:=1) (N:=8) p0.used (fun _=>rfl) rfl) (wSR (sz:=1) (fun _=>rfl) _ _ 0 _ bH rfl))))) rfl (eN (ifc bJ ?_ ?_))
 intro aU bK
 refine ZB (congrArg nA aU.out) (rR (.fl 0 (.fl 1 (.fx 2 gAl .stop))) Z (oM Z bj (oM Z Z (Zy (pv:=[(0,jV (↑ae:Int))]) (zs:=[jV 0]) (cs:=[jV (↑ae:Int)]) Z Z Z Z Z (wAR Z wAo) zA zD yA Z Z Z Z Z aY ?_))))
 intro bp br bB
 let B0:Res:=.row (some ⟨br,0,none⟩) 1 3 1 (hH KL.encI [(↑ae:Int)])
 have bk:SW w [.blk ah 99 ([.slice ak p0.Bout.Shots.length ap,.slice ai p0.Bout.Down.length aj,.slice am p0.Bout.Across.length aq,.map (some ab)] ++ ((hH KL.encI p0.hits.l) ++ ((hH KL.encI p0.used.l) ++ (hH KL.encT p0.met.l)))),.obj ab (.map au av)] U aS [B0,.blk ah 99 ([.slice ak p0.Bout.Shots.length ap,.slice ai p0.Bout.Down.length aj,.slice am p0.Bout.Across.length aq,.map (some ab)] ++ ((hH KL.encI p0.hits.l) ++ ((hH KL.encI p0.used.l) ++ (hH KL.encT p0.met.l)))),.obj ab (.map au av),.row az aQ 3 1 (hH KL.encI aR)] bp:=bB
 refine bnK bK fun x53 bz bL=>OKS.append (j:=3) (enc:=KL.encI) (xs:=aR) (ys:=[(↑ae:Int)]) (zs:=x53) rfl rfl rfl rfl rfl Zd wFr rfl rfl rfl rfl rfl rfl bk rfl rfl rfl (bk.srcR (j:=0) rfl (by decide) (wAI (f:=KL.encI) (sz:=1) (fun _=>rfl) [(↑ae:Int)])) (fun _=>rfl) (fun _=>rfl) bz rfl ?_
 intro be bi bq bC
 have bD:SW w [.blk ah 99 ([.slice ak p0.Bout.Shots.length ap,.slice ai p0.Bout.Down.length aj,.slice am p0.Bout.Across.length aq,.map (some ab)] ++ ((hH KL.encI p0.hits.l) ++ ((hH KL.encI p0.used.l) ++ (hH KL.encT p0.met.l)))),.obj ab (.map au av)] U aS [B0,.blk ah 99 ([.slice ak p0.Bout.Shots.length ap,.slice ai p0.Bout.Down.length aj,.slice am p0.Bout.Across.length aq,.map (some ab)] ++ ((hH KL.encI p0.hits.l) ++ ((hH KL.encI p0.used.l) ++ (hH KL.encT p0.met.l)))),.obj ab (.map au av),.row be bi 3 1 (hH KL.encI x53)] bq:=bC
 refine oA Z Z (zn (zp (zI (rR fL2 Z (oR Z (ZI (zk Z aT Z) (congrArg (jV) bl.out)) (oM Z Z (zn ?_)))))))
 cases bL
 exact zI ⟨rfl,⟨aS,be,bi,rfl,aV,rfl,aW,bm,(bD.pick [1,2,3] _ (by decide) rfl)⟩⟩
 intro aU bM
 refine zg (congrArg nA (nB.2 aU.out)) (Za (zp (zI (rR fL2 Z (oR Z (ZI (zk Z aT Z) (congrArg (jV) bl.out)) (oM Z Z (zn ?_)))))))
 cases bM
 exact zI ⟨Z,⟨aS,az,aQ,Z,aV,bj,aW,bm,aY⟩⟩
 rintro bZ bP ⟨bo,bn,bs,bw,bQ,bu,bv,bV,bE⟩
 have bt:Hid (¬ ((↑(((↑p0.Bout.Down.length:Int):Int) - 0).toNat:Int) < (↑p0.Bout.Down.length:Int))):=zN (wBi)
 refine sR fL1 Z (oR Z (zo Z bw bv) (eN (zJ (cF Z bt (ZS (zq (zq (ZJ (zI (sR fL2 Z (oM Z bu (oA Z Z (eN (zQ ?_))))))))))))))
 have hE:=nD bI;first | subst r | cases hE
 exact ⟨rfl,_,(ZD rfl),bo,_,(bE.pick [2,0,1] _ (by decide) rfl),bn,bs,rfl,rfl⟩
theorem wBL (p0:wAF) (ah:Nat) (aj:Option Addr) (am:Nat) (ae:Option Addr) (ai:Nat) (ak:Option Addr) (ap:Nat) (ab:Nat) (aq:Array MapEntry) (au:Nat) (w:World) (U:PHeap) (hS:St0 w U [.blk ah 99 ([.slice aj p0.Bout.Shots.length am,.slice ae p0.Bout.Down.length ai,.slice ak p0.Bout.Across.length ap,.map (some ab)] ++ ((hH KL.encI p0.hits.l) ++ ((hH KL.encI p0.used.l) ++ (hH KL.encT p0.met.l)))),.obj ab (.map aq au)]) (dM:Sl U 1 aj am p0.Bout.Shots.length (hH KL.encI p0.Bout.Shots)) (dO:Sl U 1 ae ai p0.Bout.Down.length (hH KL.encI p0.Bout.Down)) (dP:Sl U 2 ak ap p0.Bout.Across.length (hH wAA p0.Bout.Across)) (ci:MpR aq wGP wGg p0.may) {r:(List Int) × (Arr Int 64 × Arr Int 8 × Arr Bool 16)} (hm:wAL p0=some r):Gv Try.prog 46 [.pointer (some ⟨ah,0,none⟩)] w (wCt w [.blk ah 99 ([.slice aj p0.Bout.Shots.length am,.slice ae p0.Bout.Down.length ai,.slice ak p0.Bout.Across.length ap,.map (some ab)] ++ ((hH KL.encI p0.hits.l) ++ ((hH KL.encI p0.used.l) ++ (hH KL.encT p0.met.l)))),.obj ab (.map aq au)] U (fun U_ L_ v=>∃ (A0:Option Addr) (c0:Nat),v=.slice A0 r.1.length c0/\L_=[.row A0 c0 3 1 (hH KL.encI r.1),.blk ah 99 ([.slice aj p0.Bout.Shots.length am,.slice ae p0.Bout.Down.length ai,.slice ak p0.Bout.Across.length ap,.map (some ab)] ++ ((hH KL.encI r.2.1.l) ++ ((hH KL.encI r.2.2.1.l) ++ (hH KL.encT r.2.2.2.l)))),.obj ab (.map aq au)]/\(r.1=[]->A0=none))):=by
 unfold wAL at hm
 refine Gv.of Try.func46 Z Try.ntmps46 Try.results46 Z (sR gAg Z ?_)
 let B0:List Value:=[.pointer (some ⟨ah,0,none⟩)]
 refine ZY (cs:=B0) rfl rfl rfl rfl rfl rfl (by rfl) hS ?_
 intro W3 b4 dL
 have q:=dL.freeze (k:=0) rfl
 obtain ⟨U7,bz,aU,dy⟩:=q
 replace aU:=Cl.of aU
 have dz:SW w [.blk ah 99 ([.slice aj p0.Bout.Shots.length am,.slice ae p0.Bout.Down.length ai,.slice ak p0.Bout.Across.length ap,.map (some ab)] ++ ((hH KL.encI p0.hits.l) ++ ((hH KL.encI p0.used.l) ++ (hH KL.encT p0.met.l)))),.obj ab (.map aq au)] U U7 [.blk ah 99 ([.slice aj p0.Bout.Shots.length am,.slice ae p0.Bout.Down.length ai,.slice ak p0.Bout.Across.length ap,.map (some ab)] ++ ((hH KL.encI p0.hits.l) ++ ((hH KL.encI p0.used.l) ++ (hH KL.encT p0.met.l)))),.obj ab (.map aq au)] W3:=dy
 replace aU:Cl U7 b4 0 B0:=aU
 refine oA Z Z (eN (sR (.fx 0 .nil .stop) Z (zx (cs:=[.nilFunc]) Z Z Z Z Z Try.zeroValue74 Z dz ?_)))
 intro ej aS dC
 refine eN (sR gAk Z (oR Z (Runs.mkf Z zS (zB Z (zB Z zS))) ?_))
 let B1:List Value:=[.func (.func 84) #[] #[.pointer (some ⟨b4,0,none⟩),.pointer (some ⟨aS,0,none⟩)]]
 refine zt (j:=0) (vs:=B1) Z Z Z Z dC Z Z Z Z Try.sizeOf74 (zC Z) Z Z Z ?_
 intro bH dF
 have bp:SW w [.blk ah 99 ([.slice aj p0.Bout.Shots.length am,.slice ae p0.Bout.Down.length ai,.slice ak p0.Bout.Across.length ap,.map (some ab)] ++ ((hH KL.encI p0.hits.l) ++ ((hH KL.encI p0.used.l) ++ (hH KL.encT p0.met.l)))),.obj ab (.map aq au)] U U7 [.blk aS 74 B1,.blk ah 99 ([.slice aj p0.Bout.Shots.length am,.slice ae p0.Bout.Down.length ai,.slice ak p0.Bout.Across.length ap,.map (some ab)] ++ ((hH KL.encI p0.hits.l) ++ ((hH KL.encI p0.used.l) ++ (hH KL.encT p0.met.l)))),.obj ab (.map aq au)] bH:=dF
 refine eN (zJ (sR fL7 Z (oL Z (bp.ldC (f:=0) aU (v:=.pointer (some ⟨ah,0,none⟩)) Z Z ZX Z) (oR Z (ZQ Z Z) (oR Z (zK Z Z zj Z zu) (oR Z (zK Z Z zR Z zZ) (oL Z (bp.ldB (j:=1) Z Z Z zd (v:=.slice ae p0.Bout.Down.length ai) Z) (oR Z (zr Z Z zA) (oM Z Z (eN (zi ?_)))))))))))
 have q:=bp.freeze (k:=0) rfl
 obtain ⟨bb,bg,aX,dJ⟩:=q
 replace aX:=Cl.of aX
 have dK:SW w [.blk ah 99 ([.slice aj p0.Bout.Shots.length am,.slice ae p0.Bout.Down.length ai,.slice ak p0.Bout.Across.length ap,.map (some ab)] ++ ((hH KL.encI p0.hits.l) ++ ((hH KL.encI p0.used.l) ++ (hH KL.encT p0.met.l)))),.obj ab (.map aq au)] U bb [.blk ah 99 ([.slice aj p0.Bout.Shots.length am,.slice ae p0.Bout.Down.length ai,.slice ak p0.Bout.Across.length ap,.map (some ab)] ++ ((hH KL.encI p0.hits.l) ++ ((hH KL.encI p0.used.l) ++ (hH KL.encT p0.met.l)))),.obj ab (.map aq au)] bH:=dJ
 replace aX:Cl bb aS 0 B1:=aX
 have q:=wDL hm
 obtain ⟨eK,bq⟩:=q
 have q:=wDK bq
 obtain ⟨bu,dU⟩:=q
 replace bu:=zN bu
 refine yD (fun az (bI,bJ,bK) σ_ w_=>∃ (U_:PHeap),σ_ 13=jV (↑az:Int)/\σ_ 1=.pointer (some ⟨b4,0,none⟩)/\σ_ 3=.pointer (some ⟨aS,0,none⟩)/\σ_ 11=.slice ae p0.Bout.Down.length ai/\σ_ 12=jV (↑p0.Bout.Down.length:Int)/\PHeap.Le bb U_/\SW w [.blk ah 99 ([.slice aj p0.Bout.Shots.length am,.slice ae p0.Bout.Down.length ai,.slice ak p0.Bout.Across.length ap,.map (some ab)] ++ ((hH KL.encI p0.hits.l) ++ ((hH KL.encI p0.used.l) ++ (hH KL.encT p0.met.l)))),.obj ab (.map aq au)] U U_ [.blk ah 99 ([.slice aj p0.Bout.Shots.length am,.slice ae p0.Bout.Down.length ai,.slice ak p0.Bout.Across.length ap,.map (some ab)] ++ ((hH KL.encI bI.l) ++ ((hH KL.encI bJ.l) ++ (hH KL.encT bK.l)))),.obj ab (.map aq au)] w_) dU ?_ ?_ ?_
 exact ⟨bb,Z,Z,Z,Z,Z,(zX _),dK⟩
 rintro az ⟨bI,bJ,bK⟩ eT fc ey bs ⟨bD,bf,cO,cP,bS,bT,aV,cf⟩ cp dS
 try dsimp only at cp
 have bO:Hid ((↑az:Int) < (↑p0.Bout.Down.length:Int)):=zN (wCO bs)
 replace bs:=zN bs
 have dX:Hid (w64 ((↑az:Int) + 1)=(↑(az + 1):Int)):=zN (by have h1:=bu.out;have h2:=bO.out;rw [wAM] <;> omega)
 refine sR fL1 Z (oR Z (zo Z bf bT) (eN (zJ (cT Z bO (kN (zJ (zi (sR fL5 Z (oM Z bf (bnK cp fun ba bZ bw=>?_))))))))))
 have dt:=dO.le bz
 have du:=dt.le bg
 have b5:=du.le aV
 have q:=b5.el (fun _=>rfl) (wAV bZ)
 obtain ⟨eA,eJ,dw,dx⟩:=q
 refine oR Z (Ze Z bS dw bf zA zD (wCd bZ)) (oL Z (cf.ldC (f:=0) dx (v:=jV ba) Z Z zO Z) (oA Z Z (oA Z Z (eN (sR fL2 Z (oM Z Z (oM Z Z (eN (zi ?_)))))))))
 have q:=wDL bw
 obtain ⟨eL,br⟩:=q
 have q:=wDK br
 obtain ⟨bv,dV⟩:=q
 replace bv:=zN bv
 refine yD (fun aY (aQ,aR,be) σ_ w_=>∃ (U_:PHeap),σ_ 19=jV (↑aY:Int)/\σ_ 1=.pointer (some ⟨b4,0,none⟩)/\σ_ 3=.pointer (some ⟨aS,0,none⟩)/\σ_ 4=jV (↑az:Int)/\σ_ 11=.slice ae p0.Bout.Down.length ai/\σ_ 12=jV (↑p0.Bout.Down.length:Int)/\σ_ 13=jV (↑az:Int)/\σ_ 18=jV ba/\PHeap.Le bD U_/\SW w [.blk ah 99 ([.slice aj p0.Bout.Shots.length am,.slice ae p0.Bout.Down.length ai,.slice ak p0.Bout.Across.length ap,.map (some ab)] ++ ((hH KL.encI p0.hits.l) ++ ((hH KL.encI p0.used.l) ++ (hH KL.encT p0.met.l)))),.obj ab (.map aq au)] U U_ [.blk ah 99 ([.slice aj p0.Bout.Shots.length am,.slice ae p0.Bout.Down.length ai,.slice ak p0.Bout.Across.length ap,.map (some ab)] ++ ((hH KL.encI aQ.l) ++ ((hH KL.encI aR.l) ++ (hH KL.encT be.l)))),.obj ab (.map aq au)] w_) dV ?_ ?_ ?_
 exact ⟨bD,Z,cO,cP,Z,bS,bT,bf,Z,(zX _),cf⟩
 rintro aY ⟨aQ,aR,be⟩ eU fd ez bt ⟨bE,bU,bm,bP,bQ,cC,cD,cE,bR,aW,cg⟩ cq dT
 try dsimp only at cq
 have bM:Hid ((↑aY:Int) < ba):=zN (wCO bt)
 replace bt:=zN bt
 have dW:Hid (w64 ((↑aY:Int) + 1)=(↑(aY + 1):Int)):=zN (by have h1:=bv.out;have h2:=bM.out;rw [wAM] <;> omega)
 refine sR fL1 Z (oR Z (zo Z bU bR) (eN (zJ (cT Z bM (kN (zJ (zi (sR (wEX (.fx 4 .nil .stop)) Z ?_))))))))
 have cS:=aU.le bg
 have cU:=cS.le aV
 have bn:=cU.le aW
 refine zy rfl rfl rfl rfl (cg.ldC (f:=0) bn (v:=.pointer (some ⟨ah,0,none⟩)) rfl bm ZX rfl) rfl (zV rfl rfl rfl rfl (fun _=>ZQ rfl rfl) (zV rfl rfl rfl rfl (fun _=>zK rfl rfl zj rfl Try.sizeOf97) (zV rfl rfl rfl rfl (fun _=>Runs.slA rfl rfl Try.runUnderlying97 Try.sizeOf96) (OKS.clearB (j:=0) (off:=76) (vs:=hH KL.encT (Arr.fill 16 false).l) (cs':=[.slice aj p0.Bout.Shots.length am,.slice ae p0.Bout.Down.length ai,.slice ak p0.Bout.Across.length ap,.map (some ab)] ++ ((hH KL.encI aQ.l) ++ ((hH KL.encI aR.l) ++ (hH KL.encT (Arr.fill 16 false).l)))) rfl rfl rfl rfl cg rfl rfl Try.runUnderlying139 Try.zeroValue96 (by kernel_rfl) (by simp only [nH,nI,nJ,wAa (f:=KL.encI) (sz:=1) (N:=64) aQ (fun _=>rfl) rfl,wAa (f:=KL.encI) (sz:=1) (N:=8) aR (fun _=>rfl) rfl,wAa (f:=KL.encT) (sz:=1) (N:=16) be (fun _=>rfl) rfl,wAa (f:=KL.encT) (sz:=1) (N:=16) (Arr.fill 16 false) (fun _=>rfl) rfl];omega) (wJP (fun _=>rfl) _) (wCn (n:=4) rfl (wCn (n:=64) (wAa (f:=KL.encI) (sz:=1) (N:=64) aQ (fun _=>rfl) rfl) (wCn (n:=8) (wAa (f:=KL.encI) (sz:=1) (N:=8) aR (fun _=>rfl) rfl) (wPF _ _ (by rw [wAa (f:=KL.encT) (sz:=1) (N:=16) (Arr.fill 16 false) (fun _=>rfl) rfl,wAa (f:=KL.encT) (sz:=1) (N:=16) be (fun _=>rfl) rfl]))))) rfl ?_))))
 intro bF dA
 have b9:SW w [.blk ah 99 ([.slice aj p0.Bout.Shots.length am,.slice ae p0.Bout.Down.length ai,.slice ak p0.Bout.Across.length ap,.map (some ab)] ++ ((hH KL.encI p0.hits.l) ++ ((hH KL.encI p0.used.l) ++ (hH KL.encT p0.met.l)))),.obj ab (.map aq au)] U bE [.blk ah 99 ([.slice aj p0.Bout.Shots.length am,.slice ae p0.Bout.Down.length ai,.slice ak p0.Bout.Across.length ap,.map (some ab)] ++ ((hH KL.encI aQ.l) ++ ((hH KL.encI aR.l) ++ (hH KL.encT (Arr.fill 16 false).l)))),.obj ab (.map aq au)] bF:=dA
 refine eN (sR (.fl 0 gAu) Z ?_)
 have cV:=aX.le aV
 have bV:=cV.le aW
 refine oL Z (b9.ldC (f:=0) bV (v:=.func (.func 84) #[] #[.pointer (some ⟨b4,0,none⟩),.pointer (some ⟨aS,0,none⟩)]) Z bP Try.isAgg74 Z) (oM Z bQ ?_)
 have cW:=dM.le bz
 have cX:=cW.le bg
 have cY:=cX.le aV
 have bW:=cY.le aW
 have bX:=b5.le aW
 have cZ:=dP.le bz
 have da:=cZ.le bg
 have de:=da.le aV
 have bY:=de.le aW
 have q:=bnd cq
 obtain ⟨⟨eP,av⟩,df,cj⟩:=q
 try dsimp only at cj
 refine zM 2 Z Z Z Z (zL Z Z Try.call84 (zB Z zS) Z) b9 (fun hs=>wFD 1000 (↑az:Int) (⟨p0.Bout,p0.may,aQ,aR,(Arr.fill 16 false)⟩:wAF) b4 ah aj am ae ai ak ap ab aq au () aS bF bE hs bn bW bX bY ci bV df) (.inl Z) ?_
 rintro bj ef eM bG aZ dB ⟨rfl,rfl⟩
 have bo:SW w [.blk ah 99 ([.slice aj p0.Bout.Shots.length am,.slice ae p0.Bout.Down.length ai,.slice ak p0.Bout.Across.length ap,.map (some ab)] ++ ((hH KL.encI p0.hits.l) ++ ((hH KL.encI p0.used.l) ++ (hH KL.encT p0.met.l)))),.obj ab (.map aq au)] U bj [.blk ah 99 ([.slice aj p0.Bout.Shots.length am,.slice ae p0.Bout.Down.length ai,.slice ak p0.Bout.Across.length ap,.map (some ab)] ++ ((hH KL.encI av.1.l) ++ ((hH KL.encI av.2.1.l) ++ (hH KL.encT av.2.2.l)))),.obj ab (.map aq au)] bG:=dB
 refine oR Z (ZR Z Z) (eN (ifc cj ?_ ?_))
 intro bl dY
 refine zg (nC bl.out) (Za (zp (zI (rR fL2 Z (oR Z (ZI (zk Z bU Z) (congrArg (jV) dW.out)) (oM Z Z (zn ?_)))))))
 have q:=nD dY
 obtain rfl:=q
 exact zI ⟨Z,_,Z,⟨bj,Z,bm,bP,bQ,cC,cD,cE,bR,(aW.trans aZ),bo⟩⟩
 intro bl dZ
 refine ZB (nF (bl.out)) (sR gAn Z ?_)
 have dg:=bn.le aZ
 refine oL Z (bo.ldC (f:=0) dg (v:=.pointer (some ⟨ah,0,none⟩)) Z bm ZX Z) ?_
 have dh:=bW.le aZ
 have dm:=bX.le aZ
 have dp:=bY.le aZ
 refine bnK dZ fun ed dq d4=>zM 2 Z Z Z Z (zL Z Z Try.call85 (zB Z zS) Z) bo (fun hs=>wFW (⟨p0.Bout,p0.may,av.1,av.2.1,av.2.2⟩:wAF) ah aj am ae ai ak ap ab aq au bG bj hs dh dm dp ci dq) (.inl Z) ?_
 rintro bC ei eO cu eH dD ⟨bA,bN,rfl,rfl⟩
 have dE:SW w [.blk ah 99 ([.slice aj p0.Bout.Shots.length am,.slice ae p0.Bout.Down.length ai,.slice ak p0.Bout.Across.length ap,.map (some ab)] ++ ((hH KL.encI p0.hits.l) ++ ((hH KL.encI p0.used.l) ++ (hH KL.encT p0.met.l)))),.obj ab (.map aq au)] U bC [.row bA bN 3 1 (hH KL.encI ed),.blk ah 99 ([.slice aj p0.Bout.Shots.length am,.slice ae p0.Bout.Down.length ai,.slice ak p0.Bout.Across.length ap,.map (some ab)] ++ ((hH KL.encI av.1.l) ++ ((hH KL.encI av.2.1.l) ++ (hH KL.encT av.2.2.l)))),.obj ab (.map aq au)] cu:=dD
 refine oA Z Z (eN (zQ (ZE (ze ?_))))
 have q:=wAj d4
 obtain ⟨d9,d5,cA⟩:=q
 have q:=wDl bw br (dT d9 cA)
 obtain rfl:=q
 refine ze (ZE (ZE (ze ?_)))
 have q:=wAj d5
 obtain ⟨eb,d6,cB⟩:=q
 have q:=wDl hm bq (dS eb cB)
 obtain rfl:=q
 refine ze (ZE (ze (bnK d6 fun eQ dr d7=>?_)))
 cases d7
 exact ⟨Z,_,(ZD Z),bC,_,dE,bA,bN,Z,Z,(fun h=>absurd h (wPK dr))⟩
 rintro ⟨eV,eW,eX⟩ e9 en ⟨cr,cQ,cG,cH,eC,cI,cJ,cK,cM,d8,dG⟩ dQ
 have cm:=wEA bw br dQ
 try dsimp only at cm
 have cy:Hid (¬ ((↑((ba:Int) - 0).toNat:Int) < ba)):=zN (wBi)
 refine sR fL1 Z (oR Z (zo Z cQ cM) (eN (zJ (cF Z cy (ZS (zq (zq (ZJ (zp (zI (rR fL2 Z (oR Z (ZI (zk Z cK Z) (congrArg (jV) dX.out)) (oM Z Z (zn ?_))))))))))))))
 have q:=nD cm
 obtain rfl:=q
 exact zI ⟨Z,_,Z,⟨cr,Z,cG,cH,cI,cJ,(aV.trans d8),dG⟩⟩
 rintro ⟨eY,eZ,e8⟩ fb eu ⟨ct,cR,eE,eF,eG,cN,eI,dH⟩ dR
 have cn:=wEA hm bq dR
 try dsimp only at cn
 have cz:Hid (¬ ((↑(((↑p0.Bout.Down.length:Int):Int) - 0).toNat:Int) < (↑p0.Bout.Down.length:Int))):=zN (wBi)
 refine sR fL1 Z (oR Z (zo Z cR cN) (eN (zJ (cF Z cz (ZS (zq (zq (ZJ (zI (sR fL1 Z (oA Z Z (eN (zQ ?_)))))))))))))
 have dI:=dH.nilrow 3 1
 cases cn
 exact ⟨Z,_,(ZD Z),ct,_,dI,none,0,Z,Z,(fun _=>Z)⟩
theorem wEp (p0:wAB) (aT:Option Addr) (aV:Nat) (aU:Option Addr) (aW:Nat) (bb:Option Addr) (be:Nat) (p1:Int) (p2:Int) (w:World) (U:PHeap) (hS:St0 w U []) (cz:Sl U 1 aT aV p0.Shots.length (hH KL.encI p0.Shots)) (cA:Sl U 1 aU aW p0.Down.length (hH KL.encI p0.Down)) (cB:Sl U 2 bb be p0.Across.length (hH wAA p0.Across)) {r:(Option wAF) × Int} (hm:wBM p0 p1 p2=some r):Gv Try.prog 49 [.agg #[.slice aT p0.Shots.length aV,.slice aU p0.Down.length aW,.slice bb p0.Across.length be],jV p1,jV p2] w (wCt w [] U (fun U_ L_ v=>match r.1 with | none=>v=.tuple #[.pointer none,jV r.2]/\L_=[] | some d=>∃ (b0:Nat) (A0p00:Option Addr) (c0p00:Nat) (A0p01:Option Addr) (c0p01:Nat) (A0p02:Option Addr) (c0p02:Nat) (m0p1:Nat) (es0p1:Array MapEntry) (ck0p1:Nat),v=.tuple #[.pointer (some ⟨b0,0,none⟩),jV r.2]/\L_=[.blk b0 99 ([.slice A0p00 d.Bout.Shots.length c0p00,.slice A0p01 d.Bout.Down.length c0p01,.slice A0p02 d.Bout.Across.length c0p02,.map (some m0p1)] ++ ((hH KL.encI d.hits.l) ++ ((hH KL.encI d.used.l) ++ (hH KL.encT d.met.l)))),.obj m0p1 (.map es0p1 ck0p1)]/\Sl U_ 1 A0p00 c0p00 d.Bout.Shots.length (hH KL.encI d.Bout.Shots)/\Sl U_ 1 A0p01 c0p01 d.Bout.Down.length (hH KL.encI d.Bout.Down)/\Sl U_ 2 A0p02 c0p02 d.Bout.Across.length (hH wAA d.Bout.Across)/\MpR es0p1 wGP wGg d.may)):=by
 unfold wBM at hm
 refine Gv.of Try.func49 Z Try.ntmps49 Try.results49 Z (sR gAq Z ?_)
 let B0:List Value:=[.slice aT p0.Shots.length aV,.slice aU p0.Down.length aW,.slice bb p0.Across.length be]
 refine ZY (cs:=B0) rfl rfl rfl rfl rfl rfl (by rfl) hS ?_
 intro W1 b2 bK
 refine oA Z Z (oA Z Z (eN (sR (.fl 0 (.fx 1 (wJG (.nil)) .stop)) Z (oL Z (bK.ldBA (j:=0) Z Z Z ZT zu (vs:=B0) Z Z) ?_))))
 have q:=bnd hm
 obtain ⟨⟨x5,x6⟩,h7,aX⟩:=q
 try dsimp only at aX
 refine zM 0 Z Z Z Z (zL Z Z Try.call69 (zB Z zS) Z) bK (fun hs=>wEN p0 aT aV aU aW bb be W1 U hs cz cA cB h7) (.inr Z) ?_
 rintro U9 cY dr aY dh bJ bI
 rcases x5 with _ | x26
 try dsimp only at aX
 obtain ⟨rfl,rfl⟩:=bI
 have bp:sW w U U9 [.blk b2 26 B0] aY:=bJ
 refine oM Z Z (oR Z (ZC Z Z (v:=.pointer none) Z) (oR Z (ZC Z Z (v:=jV x6) Z) (oA Z Z (oA Z Z (eN (zJ (zi (sR fL3 Z (oM Z Z (oR Z (ZL Z Z Z) (oA Z Z (eN (ifc aX ?_ ?_)))))))))))))
 intro bk cI
 refine zg (zm (fun h=>h bk.out)) (sR (wEQ (.fx 5 (wQY (.fx 13 (wOv (.nil)) .stop)) .stop)) Z (oM Z Z (oR Z (zK Z Z zR Z zZ) (oL Z (bp.ldB (j:=0) Z Z Z zd (v:=.slice aT p0.Shots.length aV) Z) (oR Z (zr Z Z zA) (oR Z (ZG Z Z Z) (bnK cI fun dy bX cJ=>zM 0 Z Z Z Z (zL Z Z Zu (zB Z (zB Z (zB Z zS))) Z) bp (fun hs=>wAq p1 0 (w64 ((↑p0.Shots.length:Int) - 1)) aY U9 hs bX) (.inr Z) ?_)))))))
 rintro bg da dt bA dm cr ⟨rfl,rfl⟩
 have bq:sW w U bg [.blk b2 26 B0] bA:=cr
 refine oR Z (ZR Z Z) (oM Z Z (ifc cJ ?_ ?_))
 intro ab cK
 refine zW Z Z Z (zE Z Z (nC ab.out)) Z Z (zV Z Z Z (zE Z Z (nC ab.out)) (fun _=>zK Z Z zR Z zZ) (zy Z Z Z (zE Z Z (nC ab.out)) (bq.ldB (j:=0) Z Z Z zd (v:=.slice aU p0.Down.length aW) Z) Z (zV Z Z Z (zE Z Z (nC ab.out)) (fun _=>zr Z Z zA) (zV Z Z Z (zE Z Z (nC ab.out)) (fun _=>ZG Z Z Z) (bnK cK fun x42 bY cM=>zM 0 Z Z Z (zE Z Z (nC ab.out)) (zL Z Z Zu (zB Z (zB Z (zB Z zS))) Z) bq (fun hs=>wAq p2 0 (w64 ((↑p0.Down.length:Int) - 1)) bA bg hs bY) (.inr Z) ?_)))))
 rintro bz de du bQ dp ct ⟨rfl,rfl⟩
 have cu:sW w U bz [.blk b2 26 B0] bQ:=ct
 refine zV Z Z Z (zE Z Z (nC ab.out)) (fun _=>ZR Z Z) (oR Z (zP Z (nC ab.out) Z) (oA Z Z (eN (ifc cM ?_ ?_))))
 intro bl cN
 refine zg (nC bl.out) (sR gAx Z (oM Z Z ?_))
 cases cN
 intro bl cO
 refine ZB (nF (bl.out)) (sR fL2 Z (oA Z Z (oA Z Z (eN (zQ (ZE (ze ?_)))))))
 cases cO
 exact ⟨rfl,_,(wHH rfl rfl),bz,_,(cu.pick [] _ (by decide) rfl),rfl,rfl⟩
 intro ab cP
 refine zG Z Z Z (zF Z Z (nF (ab.out)) Z) (zG Z Z Z (zF Z Z (nF (ab.out)) Z) (zG Z Z Z (zF Z Z (nF (ab.out)) Z) (zG Z Z Z (zF Z Z (nF (ab.out)) Z) (zG Z Z Z (zF Z Z (nF (ab.out)) Z) (ZV Z Z Z (zF Z Z (nF (ab.out)) Z) (zG Z Z Z (zF Z Z (nF (ab.out)) Z) (oR Z (zU Z (nF (ab.out)) Z) (oA Z Z (eN (ZB Z (sR fL2 Z (oA Z Z (oA Z Z (eN (zQ (ZE (ze ?_)))))))))))))))))
 cases cP
 exact ⟨rfl,_,(wHH rfl rfl),bg,_,(bq.pick [] _ (by decide) rfl),rfl,rfl⟩
 intro bk cQ
 refine cT Z bk (sR fL3 Z (oM Z Z (oA Z Z (oA Z Z (eN (zQ (ZE (ze ?_))))))))
 cases cQ
 exact ⟨rfl,_,(wHH rfl rfl),U9,_,(bp.pick [] _ (by decide) rfl),rfl,rfl⟩
 try dsimp only at aX
 obtain ⟨aj,am,av,ap,az,aq,aQ,ah,aS,aR,rfl,rfl,bZ,b5,b9,bE⟩:=bI
 have br:sW w U U9 [.blk aj 99 ([.slice am x26.Bout.Shots.length av,.slice ap x26.Bout.Down.length az,.slice aq x26.Bout.Across.length aQ,.map (some ah)] ++ ((hH KL.encI x26.hits.l) ++ ((hH KL.encI x26.used.l) ++ (hH KL.encT x26.met.l)))),.obj ah (.map aS aR),.blk b2 26 B0] aY:=bJ
 refine oM Z Z (oR Z (ZC Z Z (v:=.pointer (some ⟨aj,0,none⟩)) Z) (oR Z (ZC Z Z (v:=jV x6) Z) (oA Z Z (oA Z Z (eN (zJ (zi (sR fL3 Z (oM Z Z (oR Z (ZL Z Z Z) (oA Z Z (eN (ifc aX ?_ ?_)))))))))))))
 intro bm cR
 refine zg (zm (fun h=>h bm.out)) (sR (wEQ (.fx 5 (wQY (.fx 13 (wOv (.nil)) .stop)) .stop)) Z (oM Z Z (oR Z (zK Z Z zR Z zZ) (oL Z (br.ldB (j:=2) Z Z Z zd (v:=.slice aT p0.Shots.length aV) Z) (oR Z (zr Z Z zA) (oR Z (ZG Z Z Z) (bnK cR fun dz cf cS=>zM 0 Z Z Z Z (zL Z Z Zu (zB Z (zB Z (zB Z zS))) Z) br (fun hs=>wAq p1 0 (w64 ((↑p0.Shots.length:Int) - 1)) aY U9 hs cf) (.inr Z) ?_)))))))
 rintro bh df dw bB bu cw ⟨rfl,rfl⟩
 have bs:sW w U bh [.blk aj 99 ([.slice am x26.Bout.Shots.length av,.slice ap x26.Bout.Down.length az,.slice aq x26.Bout.Across.length aQ,.map (some ah)] ++ ((hH KL.encI x26.hits.l) ++ ((hH KL.encI x26.used.l) ++ (hH KL.encT x26.met.l)))),.obj ah (.map aS aR),.blk b2 26 B0] bB:=cw
 refine oR Z (ZR Z Z) (oM Z Z (ifc cS ?_ ?_))
 intro ae cU
 refine zW Z Z Z (zE Z Z (nC ae.out)) Z Z (zV Z Z Z (zE Z Z (nC ae.out)) (fun _=>zK Z Z zR Z zZ) (zy Z Z Z (zE Z Z (nC ae.out)) (bs.ldB (j:=2) Z Z Z zd (v:=.slice aU p0.Down.length aW) Z) Z (zV Z Z Z (zE Z Z (nC ae.out)) (fun _=>zr Z Z zA) (zV Z Z Z (zE Z Z (nC ae.out)) (fun _=>ZG Z Z Z) (bnK cU fun x78 ci cV=>zM 0 Z Z Z (zE Z Z (nC ae.out)) (zL Z Z Zu (zB Z (zB Z (zB Z zS))) Z) bs (fun hs=>wAq p2 0 (w64 ((↑p0.Down.length:Int) - 1)) bB bh hs ci) (.inr Z) ?_)))))
 rintro bi dg dx bC bv cy ⟨rfl,rfl⟩
 have bL:sW w U bi [.blk aj 99 ([.slice am x26.Bout.Shots.length av,.slice ap x26.Bout.Down.length az,.slice aq x26.Bout.Across.length aQ,.map (some ah)] ++ ((hH KL.encI x26.hits.l) ++ ((hH KL.encI x26.used.l) ++ (hH KL.encT x26.met.l)))),.obj ah (.map aS aR),.blk b2 26 B0] bC:=cy
 refine zV Z Z Z (zE Z Z (nC ae.out)) (fun _=>ZR Z Z) (oR Z (zP Z (nC ae.out) Z) (oA Z Z (eN (ifc cV ?_ ?_))))
 intro bn cW
 refine zg (nC bn.out) (sR gAx Z (oM Z Z ?_))
 have cj:=bZ.le bu
 have bF:=cj.le bv
 have cm:=b5.le bu
 have bG:=cm.le bv
 have cn:=b9.le bu
 have bH:=cn.le bv
 have q:=bnd cW
 obtain ⟨⟨x96,x97⟩,cp,bM⟩:=q
 try dsimp only at bM
 refine zM 2 Z Z Z Z (zL Z Z Try.call46 (zB Z zS) Z) bL (fun hs=>wBL x26 aj am av ap az aq aQ ah aS aR bC bi hs bF bG bH bE cp) (.inl Z) ?_
 rintro bf cZ dq bP bt cq ⟨bw,bR,rfl,rfl,bS⟩
 have bo:sW w U bf [.row bw bR 3 1 (hH KL.encI x96),.blk aj 99 ([.slice am x26.Bout.Shots.length av,.slice ap x26.Bout.Down.length az,.slice aq x26.Bout.Across.length aQ,.map (some ah)] ++ ((hH KL.encI x97.1.l) ++ ((hH KL.encI x97.2.1.l) ++ (hH KL.encT x97.2.2.l)))),.obj ah (.map aS aR),.blk b2 26 B0] bP:=cq
 have bT:bw.isNone=decide (x96=[]):=wHZ (j:=0) bo rfl (fun _=>rfl) (by decide) bS
 refine zV rfl rfl rfl rfl (fun _=>Runs.neNilR (b:=decide (¬ (x96=[]))) rfl rfl rfl zA (by simp [bT])) (OKS.ra rfl rfl rfl rfl rfl rfl (eN (ifc bM ?_ ?_)))
 intro bj cC
 refine zg (zm (fun h=>h bj.out)) (Za (zp (zI (sR fL3 Z (oM Z Z (oA Z Z (oA Z Z (eN (zQ ?_)))))))))
 have bU:=bF.le bt
 have bV:=bG.le bt
 have bW:=bH.le bt
 cases cC
 exact ⟨rfl,_,(wHH rfl rfl),bf,_,(bo.pick [1,2] _ (by decide) rfl),aj,am,av,ap,az,aq,aQ,ah,aS,aR,rfl,rfl,bU,bV,bW,bE⟩
 intro bj cD
 refine cT Z bj (sR fL2 Z (oA Z Z (oA Z Z (eN (zQ (ZE (ze ?_)))))))
 cases cD
 exact ⟨rfl,_,(wHH rfl rfl),bf,_,(bo.pick [] _ (by decide) rfl),rfl,rfl⟩
 intro bn cE
 refine ZB (nF (bn.out)) (sR fL2 Z (oA Z Z (oA Z Z (eN (zQ (ZE (ze ?_)))))))
 cases cE
 exact ⟨rfl,_,(wHH rfl rfl),bi,_,(bL.pick [] _ (by decide) rfl),rfl,rfl⟩
 intro ae cG
 refine zG Z Z Z (zF Z Z (nF (ae.out)) Z) (zG Z Z Z (zF Z Z (nF (ae.out)) Z) (zG Z Z Z (zF Z Z (nF (ae.out)) Z) (zG Z Z Z (zF Z Z (nF (ae.out)) Z) (zG Z Z Z (zF Z Z (nF (ae.out)) Z) (ZV Z Z Z (zF Z Z (nF (ae.out)) Z) (zG Z Z Z (zF Z Z (nF (ae.out)) Z) (oR Z (zU Z (nF (ae.out)) Z) (oA Z Z (eN (ZB Z (sR fL2 Z (oA Z Z (oA Z Z (eN (zQ (ZE (ze ?_)))))))))))))))))
 cases cG
 exact ⟨rfl,_,(wHH rfl rfl),bh,_,(bs.pick [] _ (by decide) rfl),rfl,rfl⟩
 intro bm cH
 refine cT Z bm (sR fL3 Z (oM Z Z (oA Z Z (oA Z Z (eN (zQ (ZE (ze ?_))))))))
 cases cH
 exact ⟨rfl,_,(wHH rfl rfl),U9,_,(br.pick [] _ (by decide) rfl),rfl,rfl⟩
theorem wEO (p0:Int) (p1:List Int) (aj:Option Addr) (ak:Nat) (w:World) (U:PHeap) (hS:St0 w U []) (bf:Sl U 1 aj ak p1.length (hH KL.encI p1)) {r:Int} (hm:wCU p0 p1=some r):Gv Try.prog 47 [jV p0,.slice aj p1.length ak] w (wCt w [] U (fun U_ L_ v=>v=jV r/\L_=[])):=by
 unfold wCU at hm
 refine Gv.of Try.func47 Z Try.ntmps47 Try.results47 Z (sR fL1 Z (oA Z Z (eN (zJ (sR fL3 Z (oM Z Z (oR Z (zr Z Z zA) (oM Z Z (eN (zi (bnK hm fun bt bh bk=>?_)))))))))))
 have q:=wCQ bh
 obtain ⟨ai,bg⟩:=q
 replace ai:=zN ai
 refine CK.forN' (fun k7 x6 σ_ w_=>∃ (U_:PHeap),σ_ 9=jV (↑k7:Int)/\σ_ 0=jV x6/\σ_ 7=.slice aj p1.length ak/\σ_ 8=jV (↑p1.length:Int)/\PHeap.Le U U_/\sW w U U_ [] w_) bg ?_ ?_ ?_
 exact ⟨U,Z,Z,Z,Z,(zX _),hS⟩
 rintro k7 x6 bs bu bm ah ⟨aS,ae,aV,ap,aq,az,av⟩ bl
 have am:Hid ((↑k7:Int) < (↑p1.length:Int)):=zN (wCO ah)
 replace ah:=zN ah
 have bi:Hid (w64 ((↑k7:Int) + 1)=(↑(k7 + 1):Int)):=zN (by have h1:=ai.out;have h2:=am.out;rw [wAM] <;> omega)
 refine sR fL1 Z (oR Z (zo Z ae aq) (eN (zJ (cT Z am (kN (zJ (zi (sR fL3 Z (bnK bl fun x28 au bj=>?_)))))))))
 have aZ:=bf.le az
 have q:=aZ.el (fun _=>rfl) (wAV au)
 obtain ⟨bo,br,ba,bb⟩:=q
 refine oR Z (Ze Z ap ba ae zA zD (wCd au)) (oL Z (av.ldC (f:=0) bb (v:=jV x28) Z Z zO Z) (oA Z Z (eN (rR fL4 Z (oM Z aV (oM Z Z (oR Z (Runs.min Z Z Z) (oA Z Z (zn (zp (zI (rR fL2 Z (oR Z (ZI (zk Z ae Z) (congrArg (jV) bi.out)) (oM Z Z (zn ?_)))))))))))))))
 cases bj
 exact zI ⟨Z,⟨aS,Z,Z,ap,aq,az,av⟩⟩
 rintro bv bn ⟨aT,aY,aW,bp,aX,bq,be⟩
 have aU:Hid (¬ ((↑(((↑p1.length:Int):Int) - 0).toNat:Int) < (↑p1.length:Int))):=zN (wBi)
 refine sR fL1 Z (oR Z (zo Z aY aX) (eN (zJ (cF Z aU (ZS (zq (zq (ZJ (zI (sR fL2 Z (oM Z aW (oA Z Z (eN (zQ ?_))))))))))))))
 have hE:=nD bk;first | subst r | cases hE
 exact ⟨Z,_,(ZD Z),aT,_,be,Z,Z⟩
theorem wCp (p0:wAF) (am:Nat) (ae:Option Addr) (ai:Nat) (ah:Option Addr) (aj:Nat) (ak:Option Addr) (ap:Nat) (ab:Nat) (aq:Array MapEntry) (au:Nat) (p1:Int) (p2:Int) (w:World) (U:PHeap) (hS:St0 w U [.blk am 99 ([.slice ae p0.Bout.Shots.length ai,.slice ah p0.Bout.Down.length aj,.slice ak p0.Bout.Across.length ap,.map (some ab)] ++ ((hH KL.encI p0.hits.l) ++ ((hH KL.encI p0.used.l) ++ (hH KL.encT p0.met.l)))),.obj ab (.map aq au)]) (be:Sl U 1 ae ai p0.Bout.Shots.length (hH KL.encI p0.Bout.Shots)) (bf:Sl U 1 ah aj p0.Bout.Down.length (hH KL.encI p0.Bout.Down)) (bA:Sl U 2 ak ap p0.Bout.Across.length (hH wAA p0.Bout.Across)) (bB:MpR aq wGP wGg p0.may) {r:Int} (hm:wBX p0 p1 p2=some r):Gv Try.prog 65 [.pointer (some ⟨am,0,none⟩),jV p1,jV p2] w (wCt w [.blk am 99 ([.slice ae p0.Bout.Shots.length ai,.slice ah p0.Bout.Down.length aj,.slice ak p0.Bout.Across.length ap,.map (some ab)] ++ ((hH KL.encI p0.hits.l) ++ ((hH KL.encI p0.used.l) ++ (hH KL.encT p0.met.l)))),.obj ab (.map aq au)] U (fun U_ L_ v=>v=jV r/\L_=[.blk am 99 ([.slice ae p0.Bout.Shots.length ai,.slice ah p0.Bout.Down.length aj,.slice ak p0.Bout.Across.length ap,.map (some ab)] ++ ((hH KL.encI p0.hits.l) ++ ((hH KL.encI p0.used.l) ++ (hH KL.encT p0.met.l)))),.obj ab (.map aq au)])):=by
 unfold wBX at hm
 refine Gv.of Try.func65 Z Try.ntmps65 Try.results65 Z (sR fL1 Z (oA Z Z (eN (zJ (sR (wDw gAl) Z (oM Z Z (oM Z Z (oM Z Z (bnK hm fun x3 h4 bG=>zM 2 Z Z Z Z (zL Z Z Try.call78 (zB Z (zB Z (zB Z zS))) Z) hS (fun hs=>wDa p0 am ae ai ah aj ak ap ab aq au p1 p2 w U hs be bf bA bB h4) (.inl Z) ?_)))))))))
 rintro U6 L7 v8 W9 bg br ⟨rfl,rfl⟩
 have bb:SW w [.blk am 99 ([.slice ae p0.Bout.Shots.length ai,.slice ah p0.Bout.Down.length aj,.slice ak p0.Bout.Across.length ap,.map (some ab)] ++ ((hH KL.encI p0.hits.l) ++ ((hH KL.encI p0.used.l) ++ (hH KL.encT p0.met.l)))),.obj ab (.map aq au)] U U6 [.blk am 99 ([.slice ae p0.Bout.Shots.length ai,.slice ah p0.Bout.Down.length aj,.slice ak p0.Bout.Across.length ap,.map (some ab)] ++ ((hH KL.encI p0.hits.l) ++ ((hH KL.encI p0.used.l) ++ (hH KL.encT p0.met.l)))),.obj ab (.map aq au)] W9:=br
 refine oR Z (ZR Z Z) (eN (ifc bG ?_ ?_))
 intro aT bC
 refine zg (nC aT.out) (kN (zJ (ZN ZO [3,3,3,3,1,3,3,1,3,3,3,3,1,3,3,1,2,2,3] (wTV (.fx 16 gAm .stop)) (by kernel_rfl) ?_)))
 have az:=bb.drew
 generalize hw_W16:({ W9 with drawn:=W9.drawn + 1 }:World)=bL at az ⊢
 refine oM Z Z (oR Z (ZQ Z Z) (oR Z (zK Z Z zj Z zu) (oR Z (zK Z Z zR Z zZ) (oL Z (az.ldB (j:=0) Z Z Z zd (v:=.slice ae p0.Bout.Shots.length ai) Z) (oM Z Z (bnK bC fun bh aU bD=>?_))))))
 have bj:=be.le bg
 have q:=bj.el (fun _=>rfl) (wAV aU)
 obtain ⟨bM,bQ,bn,bp⟩:=q
 refine oR Z (ZP Z Z bn Z zA zD (wBp aU) (wBs aU)) (oL Z (az.ldC (f:=0) bp (v:=jV bh) Z Z zO Z) (oM Z Z (oR Z (ZQ Z Z) (oR Z (zK Z Z zj Z zu) (oR Z (zK Z Z zR Z zZ) (oL Z (az.ldB (j:=0) Z Z Z zd (v:=.slice ah p0.Bout.Down.length aj) Z) (oM Z Z (bnK bD fun av aV bE=>?_))))))))
 have bk:=bf.le bg
 have q:=bk.el (fun _=>rfl) (wAV aV)
 obtain ⟨bN,bR,bo,bq⟩:=q
 refine oR Z (ZP Z Z bo Z zA zD (wBp aV) (wBs aV)) (oL Z (az.ldC (f:=0) bq (v:=jV av) Z Z zO Z) (Zy (pv:=[(0,jV av)]) (zs:=[jV 0]) (cs:=[jV av]) Z Z Z Z Z (wAR Z wAo) zA zD yA Z Z Z Z Z az ?_))
 intro aR ba bs
 have bt:SW w [.blk am 99 ([.slice ae p0.Bout.Shots.length ai,.slice ah p0.Bout.Down.length aj,.slice ak p0.Bout.Across.length ap,.map (some ab)] ++ ((hH KL.encI p0.hits.l) ++ ((hH KL.encI p0.used.l) ++ (hH KL.encT p0.met.l)))),.obj ab (.map aq au)] U U6 [.row (some ⟨ba,0,none⟩) 1 3 1 (hH KL.encI [av]),.blk am 99 ([.slice ae p0.Bout.Shots.length ai,.slice ah p0.Bout.Down.length aj,.slice ak p0.Bout.Across.length ap,.map (some ab)] ++ ((hH KL.encI p0.hits.l) ++ ((hH KL.encI p0.used.l) ++ (hH KL.encT p0.met.l)))),.obj ab (.map aq au)] aR:=bs
 have q:=bt.freezeR (k:=0) (n:=[av].length) rfl (wAI (f:=KL.encI) (sz:=1) (fun _=>rfl) [av]) (by decide)
 obtain ⟨aY,bO,bI,bu⟩:=q
 have bv:SW w [.blk am 99 ([.slice ae p0.Bout.Shots.length ai,.slice ah p0.Bout.Down.length aj,.slice ak p0.Bout.Across.length ap,.map (some ab)] ++ ((hH KL.encI p0.hits.l) ++ ((hH KL.encI p0.used.l) ++ (hH KL.encT p0.met.l)))),.obj ab (.map aq au)] U aY [.blk am 99 ([.slice ae p0.Bout.Shots.length ai,.slice ah p0.Bout.Down.length aj,.slice ak p0.Bout.Across.length ap,.map (some ab)] ++ ((hH KL.encI p0.hits.l) ++ ((hH KL.encI p0.used.l) ++ (hH KL.encT p0.met.l)))),.obj ab (.map aq au)] aR:=bu
 refine bnK bE fun x43 bm bF=>zM 0 Z Z Z Z (zL Z Z Try.call47 (zB Z (zB Z zS)) Z) bv (fun hs=>wEO bh [av] (some ⟨ba,0,none⟩) 1 aR aY hs bI bm) (.inr Z) ?_
 rintro aZ bJ bS bi bP bw ⟨rfl,rfl⟩
 have bz:SW w [.blk am 99 ([.slice ae p0.Bout.Shots.length ai,.slice ah p0.Bout.Down.length aj,.slice ak p0.Bout.Across.length ap,.map (some ab)] ++ ((hH KL.encI p0.hits.l) ++ ((hH KL.encI p0.used.l) ++ (hH KL.encT p0.met.l)))),.obj ab (.map aq au)] U aZ [.blk am 99 ([.slice ae p0.Bout.Shots.length ai,.slice ah p0.Bout.Down.length aj,.slice ak p0.Bout.Across.length ap,.map (some ab)] ++ ((hH KL.encI p0.hits.l) ++ ((hH KL.encI p0.used.l) ++ (hH KL.encT p0.met.l)))),.obj ab (.map aq au)] bi:=bw
 refine oA Z Z (eN (zQ ?_))
 have hE:=nD bF;first | subst r | cases hE
 exact ⟨Z,_,(ZD Z),aZ,_,bz,Z,Z⟩
 intro aT bH
 refine ZB (nF (aT.out)) (sR fL1 Z (oA Z Z (eN (zQ (ze ?_)))))
 cases bH
 exact ⟨Z,_,(ZD Z),U6,_,bb,Z,Z⟩
end Go.Proofs.Ytfcmijinklojbaa
namespace Go.Proofs.Ytfcmijinklojbaa
open Go.KL
set_option maxHeartbeats 4000000
theorem wCN (p0:List Int) (ae:Option Addr) (aq:Nat) (w:World) (U:PHeap) (hS:St0 w U []) (ap:Sl U 1 ae aq p0.length (hH KL.encI p0)) {r:(List Int)} (hm:wAP p0=some r):Gv Try.prog 44 [.slice ae p0.length aq] w (wCt w [] U (fun U_ L_ v=>∃ (A0:Option Addr) (c0:Nat),v=.slice A0 r.length c0/\L_=[.row A0 c0 3 1 (hH KL.encI r)])):=by
 unfold wAP at hm
 refine Gv.of Try.func44 Z Try.ntmps44 Try.results44 Z (sR fL1 Z (oA Z Z (eN (zJ (sR fL2 Z (oM Z Z (oR Z (Runs.eqNil Z Z Z zA) (eN ?_))))))))
 by_cases c1:ae.isNone=true
 replace c1:=zN c1
 have aY:p0=[]:=List.eq_nil_of_length_eq_zero (Sl.nilA (Option.isNone_iff_eq_none.1 c1.out ▸ ap))
 have aX:(some [])=some r:=by simpa [aY,app] using hm
 refine ZB (congrArg nA c1.out) (sR fL1 Z (oA Z Z (eN (zQ (ze ?_)))))
 have aU:=hS.nilrow 3 1
 cases aX
 exact ⟨Z,_,(ZD Z),U,_,aU,none,0,Z,Z⟩
 replace c1:=zN c1
 refine zg (congrArg nA (nB.2 c1.out)) (kN (sR (.fx 0 gAu .stop) Z (ZU 1 Z Z Z Z Z zA zD hS ?_)))
 intro W6 b7 aV
 have am:sW w U U [.row (some ⟨b7,0,none⟩) 0 3 1 (hH KL.encI ([]:List Int))] W6:=aV
 refine oM Z Z (bnK hm fun au aR aW=>Zt (j:=0) (enc:=KL.encI) (ys:=p0) (zs:=au) Z Z Z Z Z Zd wFr Z Z Z Z Z Z am Z Z Z (am.srcS ap) (fun _=>Z) aR ?_)
 intro ai ak av aS
 have aT:sW w U U [.row ai ak 3 1 (hH KL.encI au)] av:=aS
 refine oA Z Z (eN (zQ ?_))
 have hE:=nD aW;first | subst r | cases hE
 exact ⟨Z,_,(ZD Z),U,_,aT,ai,ak,Z,Z⟩
theorem wCS (p0:wAF) (aQ:Nat) (ak:Option Addr) (ap:Nat) (am:Option Addr) (aq:Nat) (ae:Option Addr) (ah:Nat) (ab:Nat) (aR:Array MapEntry) (aS:Nat) (p1:Int) (p2:Int) (p3:Int) (w:World) (U:PHeap) (hS:St0 w U [.blk aQ 99 ([.slice ak p0.Bout.Shots.length ap,.slice am p0.Bout.Down.length aq,.slice ae p0.Bout.Across.length ah,.map (some ab)] ++ ((hH KL.encI p0.hits.l) ++ ((hH KL.encI p0.used.l) ++ (hH KL.encT p0.met.l)))),.obj ab (.map aR aS)]) (cD:Sl U 1 ak ap p0.Bout.Shots.length (hH KL.encI p0.Bout.Shots)) (cE:Sl U 1 am aq p0.Bout.Down.length (hH KL.encI p0.Bout.Down)) (cG:Sl U 2 ae ah p0.Bout.Across.length (hH wAA p0.Bout.Across)) (df:MpR aR wGP wGg p0.may) {r:wAF} (hm:wAT p0 p1 p2 p3=some r):Gv Try.prog 64 [.pointer (some ⟨aQ,0,none⟩),jV p1,jV p2,jV p3] w (wCt w [.blk aQ 99 ([.slice ak p0.Bout.Shots.length ap,.slice am p0.Bout.Down.length aq,.slice ae p0.Bout.Across.length ah,.map (some ab)] ++ ((hH KL.encI p0.hits.l) ++ ((hH KL.encI p0.used.l) ++ (hH KL.encT p0.met.l)))),.obj ab (.map aR aS)] U (fun U_ L_ v=>∃ (b0:Nat) (A0p00:Option Addr) (c0p00:Nat) (A0p01:Option Addr) (c0p01:Nat) (A0p02:Option Addr) (c0p02:Nat) (m0p1:Nat) (es0p1:Array MapEntry) (ck0p1:Nat),v=.pointer (some ⟨b0,0,none⟩)/\L_=[.blk b0 99 ([.slice A0p00 r.Bout.Shots.length c0p00,.slice A0p01 r.Bout.Down.length c0p01,.slice A0p02 r.Bout.Across.length c0p02,.map (some m0p1)] ++ ((hH KL.encI r.hits.l) ++ ((hH KL.encI r.used.l) ++ (hH KL.encT r.met.l)))),.obj m0p1 (.map es0p1 ck0p1),.blk aQ 99 ([.slice ak p0.Bout.Shots.length ap,.slice am p0.Bout.Down.length aq,.slice ae p0.Bout.Across.length ah,.map (some ab)] ++ ((hH KL.encI p0.hits.l) ++ ((hH KL.encI p0.used.l) ++ (hH KL.encT p0.met.l)))),.obj ab (.map aR aS)]/\Sl U_ 1 A0p00 c0p00 r.Bout.Shots.length (hH KL.encI r.Bout.Shots)/\Sl U_ 1 A0p01 c0p01 r.Bout.Down.length (hH KL.encI r.Bout.Down)/\Sl U_ 2 A0p02 c0p02 r.Bout.Across.length (hH wAA r.Bout.Across)/\MpR es0p1 wGP wGg r.may)):=by
 unfold wAT at hm
 refine Gv.of Try.func64 rfl Try.ntmps64 Try.results64 rfl (sR fL1 rfl (OKS.ra rfl rfl rfl rfl rfl rfl (eN (zJ (ZN ZO [3,3,3,3,1,2,3,3,3,3,1,2,3,3] (wEQ (wQX (.fx 5 gAs .stop))) (by kernel_rfl) ?_)))))
 have bg:=hS.drew
 generalize hw_W4:({ w with drawn:=w.drawn + 1 }:World)=W4 at bg ⊢
 refine oM Z Z (oR Z (ZQ Z Z) (oR Z (zK Z Z zj Z zu) (oR Z (zK Z Z zR Z zZ) (oL Z (bg.ldB (j:=0) Z Z Z zd (v:=.slice ak p0.Bout.Shots.length ap) Z) (oM Z Z (oR Z (ZQ Z Z) (oR Z (zK Z Z zj Z zu) (oR Z (zK Z Z zR Z zZ) (oL Z (bg.ldB (j:=0) Z Z Z zd (v:=.slice am p0.Bout.Down.length aq) Z) (bnK hm fun x5 h6 cQ=>zM 0 Z Z Z Z (zL Z Z Try.call44 (zB Z zS) Z) bg (fun hs=>wCN p0.Bout.Shots ak ap W4 U hs cD h6) (.inr Z) ?_))))))))))
 rintro U8 L9 dh bB bI cq ⟨aV,aX,rfl,rfl⟩
 let B0:Res:=.row aV aX 3 1 (hH KL.encI x5)
 have cr:SW w [.blk aQ 99 ([.slice ak p0.Bout.Shots.length ap,.slice am p0.Bout.Down.length aq,.slice ae p0.Bout.Across.length ah,.map (some ab)] ++ ((hH KL.encI p0.hits.l) ++ ((hH KL.encI p0.used.l) ++ (hH KL.encT p0.met.l)))),.obj ab (.map aR aS)] U U8 [B0,.blk aQ 99 ([.slice ak p0.Bout.Shots.length ap,.slice am p0.Bout.Down.length aq,.slice ae p0.Bout.Across.length ah,.map (some ab)] ++ ((hH KL.encI p0.hits.l) ++ ((hH KL.encI p0.used.l) ++ (hH KL.encT p0.met.l)))),.obj ab (.map aR aS)] bB:=cq
 have bU:=cE.le bI
 refine bnK cQ fun au bV cM=>zM 0 Z Z Z Z (zL Z Z Try.call44 (zB Z zS) Z) cr (fun hs=>wCN p0.Bout.Down am aq bB U8 hs bU bV) (.inr Z) ?_
 rintro bl cX dm bL cV ct ⟨aW,aY,rfl,rfl⟩
 let B1:Res:=.row aW aY 3 1 (hH KL.encI au)
 have bq:SW w [.blk aQ 99 ([.slice ak p0.Bout.Shots.length ap,.slice am p0.Bout.Down.length aq,.slice ae p0.Bout.Across.length ah,.map (some ab)] ++ ((hH KL.encI p0.hits.l) ++ ((hH KL.encI p0.used.l) ++ (hH KL.encT p0.met.l)))),.obj ab (.map aR aS)] U bl [B1,B0,.blk aQ 99 ([.slice ak p0.Bout.Shots.length ap,.slice am p0.Bout.Down.length aq,.slice ae p0.Bout.Across.length ah,.map (some ab)] ++ ((hH KL.encI p0.hits.l) ++ ((hH KL.encI p0.used.l) ++ (hH KL.encT p0.met.l)))),.obj ab (.map aR aS)] bL:=ct
 refine oA Z Z (oA Z Z (eN (sR (wOr (.fx 7 .nil .stop)) Z (oM Z Z (oM Z Z (bnK cM fun _ aT cN=>?_))))))
 obtain ⟨da,be⟩:=bq.rowSome (j:=1) rfl (by rw [wAI (f:=KL.encI) (sz:=1) (fun _=>rfl) x5];have hz:=wAd aT;omega)
 refine oR Z (ZP Z Z be Z zA zD (wCA aT) (wCB aT)) ?_
 have cH:=wDV (xs:=x5) (wAd aT)
 refine zy rfl rfl rfl rfl (bq.ldR (j:=1) rfl be rfl rfl zO (wDH (sz:=1) (fun _=>rfl) _ _ 0 _ cH (by first | omega | rfl | simp) rfl)) rfl (zW rfl rfl rfl rfl rfl rfl (zV rfl rfl rfl rfl (fun _=>ZG rfl rfl rfl) (zV rfl rfl rfl rfl (fun _=>ZP rfl rfl be rfl zA zD (wCA aT) (wCB aT)) ?_)))
 have cI:=wDV (xs:=x5) (wAd aT)
 refine OKS.stR (j:=1) (vs:=[jV (w64 ((gd x5 p1.toNat) - p3))]) (cs':=hH KL.encI (nG x5 p1.toNat (w64 ((gd x5 p1.toNat) - p3)))) rfl rfl rfl rfl bq rfl be rfl rfl rfl zD (by rw [wAI (f:=KL.encI) (sz:=1) (fun _=>rfl)];have hz:=wAd aT;show _ + 1 <= _;first | omega | (simp only [nN];omega) | (simp only [nM,nK,nL];omega)) rfl (wEx (sz:=1) (fo:=0) (fun _=>rfl) _ _ _ _ cI (by first | omega | (simp only [nN];omega) | (simp only [nM,nK,nL];omega)) (zC rfl) rfl) rfl ?_
 intro bM cu
 let B2:Res:=.row aV aX 3 1 (hH KL.encI (nG x5 p1.toNat (w64 ((gd x5 p1.toNat) - p3))))
 have br:SW w [.blk aQ 99 ([.slice ak p0.Bout.Shots.length ap,.slice am p0.Bout.Down.length aq,.slice ae p0.Bout.Across.length ah,.map (some ab)] ++ ((hH KL.encI p0.hits.l) ++ ((hH KL.encI p0.used.l) ++ (hH KL.encT p0.met.l)))),.obj ab (.map aR aS)] U bl [B1,B2,.blk aQ 99 ([.slice ak p0.Bout.Shots.length ap,.slice am p0.Bout.Down.length aq,.slice ae p0.Bout.Across.length ah,.map (some ab)] ++ ((hH KL.encI p0.hits.l) ++ ((hH KL.encI p0.used.l) ++ (hH KL.encT p0.met.l)))),.obj ab (.map aR aS)] bM:=cu
 refine eN (sR (wOr (.fx 7 .nil .stop)) Z (oM Z Z (oM Z Z (bnK cN fun _ aU cO=>?_))))
 obtain ⟨de,bf⟩:=br.rowSome (j:=0) rfl (by rw [wAI (f:=KL.encI) (sz:=1) (fun _=>rfl) au];have hz:=wAd aU;omega)
 refine oR Z (ZP Z Z bf Z zA zD (wCA aU) (wCB aU)) ?_
 have cJ:=wDV (xs:=au) (wAd aU)
 refine zy rfl rfl rfl rfl (br.ldR (j:=0) rfl bf rfl rfl zO (wDH (sz:=1) (fun _=>rfl) _ _ 0 _ cJ (by first | omega | rfl | simp) rfl)) rfl (zW rfl rfl rfl rfl rfl rfl (zV rfl rfl rfl rfl (fun _=>ZG rfl rfl rfl) (zV rfl rfl rfl rfl (fun _=>ZP rfl rfl bf rfl zA zD (wCA aU) (wCB aU)) ?_)))
 have cK:=wDV (xs:=au) (wAd aU)
 refine OKS.stR (j:=0) (vs:=[jV (w64 ((gd au p2.toNat) - p3))]) (cs':=hH KL.encI (nG au p2.toNat (w64 ((gd au p2.toNat) - p3)))) rfl rfl rfl rfl br rfl bf rfl rfl rfl zD (by rw [wAI (f:=KL.encI) (sz:=1) (fun _=>rfl)];have hz:=wAd aU;show _ + 1 <= _;first | omega | (simp only [nN];omega) | (simp only [nM,nK,nL];omega)) rfl (wEx (sz:=1) (fo:=0) (fun _=>rfl) _ _ _ _ cK (by first | omega | (simp only [nN];omega) | (simp only [nM,nK,nL];omega)) (zC rfl) rfl) rfl ?_
 intro ba cw
 let B3:Res:=.row aW aY 3 1 (hH KL.encI (nG au p2.toNat (w64 ((gd au p2.toNat) - p3))))
 have bG:SW w [.blk aQ 99 ([.slice ak p0.Bout.Shots.length ap,.slice am p0.Bout.Down.length aq,.slice ae p0.Bout.Across.length ah,.map (some ab)] ++ ((hH KL.encI p0.hits.l) ++ ((hH KL.encI p0.used.l) ++ (hH KL.encT p0.met.l)))),.obj ab (.map aR aS)] U bl [B3,B2,.blk aQ 99 ([.slice ak p0.Bout.Shots.length ap,.slice am p0.Bout.Down.length aq,.slice ae p0.Bout.Across.length ah,.map (some ab)] ++ ((hH KL.encI p0.hits.l) ++ ((hH KL.encI p0.used.l) ++ (hH KL.encT p0.met.l)))),.obj ab (.map aR aS)] ba:=cw
 refine eN (sR (wJF (.fx 8 (.fl 9 .nil) .stop)) rfl (zW rfl rfl rfl rfl rfl (Eq.trans (b:=(.slice aV x5.length aX:Value)) (c:=(.slice aV ((nG x5 p1.toNat (w64 ((gd x5 p1.toNat) - p3))).length) aX:Value)) rfl (by simp only [List.length_set])) (zW rfl rfl rfl rfl rfl (Eq.trans (b:=(.slice aW au.length aY:Value)) (c:=(.slice aW ((nG au p2.toNat (w64 ((gd au p2.toNat) - p3))).length) aY:Value)) rfl (by simp only [List.length_set])) (zW rfl rfl rfl rfl rfl rfl (zV rfl rfl rfl rfl (fun _=>ZQ rfl rfl) (zV rfl rfl rfl rfl (fun _=>zK rfl rfl zj rfl zu) (zV rfl rfl rfl rfl (fun _=>zK rfl rfl zR rfl Zi) (zy rfl rfl rfl rfl (bG.ldB (j:=2) rfl rfl rfl Zo (v:=.slice ae p0.Bout.Across.length ah) rfl) rfl (zV rfl rfl rfl rfl (fun _=>ZM (pv:=[(0,.slice aV ((nG x5 p1.toNat (w64 ((gd x5 p1.toNat) - p3))).length) aX),(1,.slice aW ((nG au p2.toNat (w64 ((gd au p2.toNat) - p3))).length) aY),(2,.slice ae p0.Bout.Across.length ah)]) (z:=[.slice none 0 0,.slice none 0 0,.slice none 0 0]) (cs:=[.slice aV ((nG x5 p1.toNat (w64 ((gd x5 p1.toNat) - p3))).length) aX,.slice aW ((nG au p2.toNat (w64 ((gd au p2.toNat) - p3))).length) aY,.slice ae p0.Bout.Across.length ah]) rfl (wAR rfl (wAR rfl (wAR rfl wAo))) Zm wIw rfl rfl) ?_)))))))))
 have q:=bG.freezeR (k:=1) (n:=(nG x5 p1.toNat (w64 ((gd x5 p1.toNat) - p3))).length) rfl (wAI (f:=KL.encI) (sz:=1) (fun _=>rfl) (nG x5 p1.toNat (w64 ((gd x5 p1.toNat) - p3)))) (by decide)
 obtain ⟨bK,cW,cS,cy⟩:=q
 have cz:SW w [.blk aQ 99 ([.slice ak p0.Bout.Shots.length ap,.slice am p0.Bout.Down.length aq,.slice ae p0.Bout.Across.length ah,.map (some ab)] ++ ((hH KL.encI p0.hits.l) ++ ((hH KL.encI p0.used.l) ++ (hH KL.encT p0.met.l)))),.obj ab (.map aR aS)] U bK [B3,.blk aQ 99 ([.slice ak p0.Bout.Shots.length ap,.slice am p0.Bout.Down.length aq,.slice ae p0.Bout.Across.length ah,.map (some ab)] ++ ((hH KL.encI p0.hits.l) ++ ((hH KL.encI p0.used.l) ++ (hH KL.encT p0.met.l)))),.obj ab (.map aR aS)] ba:=cy
 have q:=cz.freezeR (k:=0) (n:=(nG au p2.toNat (w64 ((gd au p2.toNat) - p3))).length) rfl (wAI (f:=KL.encI) (sz:=1) (fun _=>rfl) (nG au p2.toNat (w64 ((gd au p2.toNat) - p3)))) (by decide)
 obtain ⟨bz,bJ,cU,cA⟩:=q
 have cB:SW w [.blk aQ 99 ([.slice ak p0.Bout.Shots.length ap,.slice am p0.Bout.Down.length aq,.slice ae p0.Bout.Across.length ah,.map (some ab)] ++ ((hH KL.encI p0.hits.l) ++ ((hH KL.encI p0.used.l) ++ (hH KL.encT p0.met.l)))),.obj ab (.map aR aS)] U bz [.blk aQ 99 ([.slice ak p0.Bout.Shots.length ap,.slice am p0.Bout.Down.length aq,.slice ae p0.Bout.Across.length ah,.map (some ab)] ++ ((hH KL.encI p0.hits.l) ++ ((hH KL.encI p0.used.l) ++ (hH KL.encT p0.met.l)))),.obj ab (.map aR aS)] ba:=cA
 have bX:=cS.le bJ
 have bY:=cG.le bI
 have bZ:=bY.le cV
 have b5:=bZ.le cW
 have b9:=b5.le bJ
 refine bnK cO fun x65 cf cP=>zM 0 Z Z Z Z (zL Z Z Try.call45 (zB Z zS) Z) cB (fun hs=>wDO (⟨(nG x5 p1.toNat (w64 ((gd x5 p1.toNat) - p3))),(nG au p2.toNat (w64 ((gd au p2.toNat) - p3))),p0.Bout.Across⟩:wAB) aV aX aW aY ae ah ba bz hs bX cU b9 cf) (.inr Z) ?_
 rintro bm cY dp bO dg cC ⟨bb,bi,bn,bj,bo,bk,bp,aZ,bR,bQ,rfl,rfl,cg,ci,cj,cm⟩
 have bH:SW w [.blk aQ 99 ([.slice ak p0.Bout.Shots.length ap,.slice am p0.Bout.Down.length aq,.slice ae p0.Bout.Across.length ah,.map (some ab)] ++ ((hH KL.encI p0.hits.l) ++ ((hH KL.encI p0.used.l) ++ (hH KL.encT p0.met.l)))),.obj ab (.map aR aS)] U bm [.blk bb 99 ([.slice bi x65.Bout.Shots.length bn,.slice bj x65.Bout.Down.length bo,.slice bk x65.Bout.Across.length bp,.map (some aZ)] ++ ((hH KL.encI x65.hits.l) ++ ((hH KL.encI x65.used.l) ++ (hH KL.encT x65.met.l)))),.obj aZ (.map bR bQ),.blk aQ 99 ([.slice ak p0.Bout.Shots.length ap,.slice am p0.Bout.Down.length aq,.slice ae p0.Bout.Across.length ah,.map (some ab)] ++ ((hH KL.encI p0.hits.l) ++ ((hH KL.encI p0.used.l) ++ (hH KL.encT p0.met.l)))),.obj ab (.map aR aS)] bO:=cC
 refine oA Z Z (eN (zJ (CK.fresh fun bs bh=>?_)))
 have bS:bs 1=jV p1:=(bh 1).trans rfl
 have bT:bs 2=jV p2:=(bh 2).trans rfl
 have bF:bs 11=.pointer (some ⟨bb,0,none⟩):=(bh 11).trans rfl
 clear bh
 refine rR (wOr (.fx 7 .nil .stop)) Z (oM Z bF (oR Z (ZQ Z Z) (oR Z (zK Z Z zj Z Try.sizeOf92) (oL Z (bH.ldB (j:=0) Z Z Z Try.isAgg92 (v:=.map (some aZ)) Z) (oM Z bS (oM Z bT (oR Z (ZM (pv:=[(0,jV p1),(1,jV p2)]) (z:=[jV 0,jV 0]) (cs:=[jV p1,jV p2]) Z (wAR Z (wAR Z wAo)) Zn wHF Z Z) (OKS.mapDel (j:=1) (mk:=wGP) (mv:=wGg) (a:=(⟨p1,p2⟩:wAD)) Z Z Z Z bH Z Z Z (wEm Try.runUnderlying92) wJg cm false Z ?_))))))))
 intro bE bD bP cR cn
 have cp:SW w [.blk aQ 99 ([.slice ak p0.Bout.Shots.length ap,.slice am p0.Bout.Down.length aq,.slice ae p0.Bout.Across.length ah,.map (some ab)] ++ ((hH KL.encI p0.hits.l) ++ ((hH KL.encI p0.used.l) ++ (hH KL.encT p0.met.l)))),.obj ab (.map aR aS)] U bm [.blk bb 99 ([.slice bi x65.Bout.Shots.length bn,.slice bj x65.Bout.Down.length bo,.slice bk x65.Bout.Across.length bp,.map (some aZ)] ++ ((hH KL.encI x65.hits.l) ++ ((hH KL.encI x65.used.l) ++ (hH KL.encT x65.met.l)))),.obj aZ (.map bE bD),.blk aQ 99 ([.slice ak p0.Bout.Shots.length ap,.slice am p0.Bout.Down.length aq,.slice ae p0.Bout.Across.length ah,.map (some ab)] ++ ((hH KL.encI p0.hits.l) ++ ((hH KL.encI p0.used.l) ++ (hH KL.encT p0.met.l)))),.obj ab (.map aR aS)] bP:=cn
 refine eN (sR fL2 Z (oM Z bF (oA Z Z (eN (zQ ?_)))))
 cases cP
 exact ⟨Z,_,(ZD Z),bm,_,cp,bb,bi,bn,bj,bo,bk,bp,aZ,bE,bD,Z,Z,cg,ci,cj,cR⟩
theorem wDP (p0:wAF) (ae:Nat) (ah:Option Addr) (ak:Nat) (ai:Option Addr) (am:Nat) (aj:Option Addr) (ap:Nat) (ab:Nat) (aq:Array MapEntry) (au:Nat) (p1:Int) (p2:Int) (w:World) (U:PHeap) (hS:St0 w U [.blk ae 99 ([.slice ah p0.Bout.Shots.length ak,.slice ai p0.Bout.Down.length am,.slice aj p0.Bout.Across.length ap,.map (some ab)] ++ ((hH KL.encI p0.hits.l) ++ ((hH KL.encI p0.used.l) ++ (hH KL.encT p0.met.l)))),.obj ab (.map aq au)]) (bR:Sl U 1 ah ak p0.Bout.Shots.length (hH KL.encI p0.Bout.Shots)) (bS:Sl U 1 ai am p0.Bout.Down.length (hH KL.encI p0.Bout.Down)) (bT:Sl U 2 aj ap p0.Bout.Across.length (hH wAA p0.Bout.Across)) (bU:MpR aq wGP wGg p0.may) {r:wAH} (hm:wBC p0 p1 p2=some r):Gv Try.prog 48 [.pointer (some ⟨ae,0,none⟩),jV p1,jV p2] w (wCt w [.blk ae 99 ([.slice ah p0.Bout.Shots.length ak,.slice ai p0.Bout.Down.length am,.slice aj p0.Bout.Across.length ap,.map (some ab)] ++ ((hH KL.encI p0.hits.l) ++ ((hH KL.encI p0.used.l) ++ (hH KL.encT p0.met.l)))),.obj ab (.map aq au)] U (fun U_ L_ v=>v=.agg #[jV r.Lo,jV r.Hi]/\L_=[.blk ae 99 ([.slice ah p0.Bout.Shots.length ak,.slice ai p0.Bout.Down.length am,.slice aj p0.Bout.Across.length ap,.map (some ab)] ++ ((hH KL.encI p0.hits.l) ++ ((hH KL.encI p0.used.l) ++ (hH KL.encT p0.met.l)))),.obj ab (.map aq au)])):=by
 unfold wBC at hm
 refine Gv.of Try.func48 Z Try.ntmps48 Try.results48 Z (sR (.fx 0 .nil .stop) Z ?_)
 let B0:List Value:=[jV 0,jV 0]
 refine zx (cs:=B0) Z Z Z Z Z zw Z hS ?_
 intro W3 b4 da
 refine eN (sR gAr Z ?_)
 let B1:List Value:=[jV (-1),jV 0]
 refine oR Z (ZM (pv:=[(0,jV (-1))]) (z:=B0) (cs:=B1) Z (wAR Z wAo) zw wBl Z Z) (zx (cs:=B0) Z Z Z Z Z zw Z da ?_)
 intro W7 b8 dg
 refine zt (j:=0) (vs:=B1) Z Z Z Z dg Z Z Z Z zH (zC Z) Z Z Z ?_
 intro bw cR
 have cV:SW w [.blk ae 99 ([.slice ah p0.Bout.Shots.length ak,.slice ai p0.Bout.Down.length am,.slice aj p0.Bout.Across.length ap,.map (some ab)] ++ ((hH KL.encI p0.hits.l) ++ ((hH KL.encI p0.used.l) ++ (hH KL.encT p0.met.l)))),.obj ab (.map aq au)] U U [.blk b8 44 B1,.blk b4 44 B0,.blk ae 99 ([.slice ah p0.Bout.Shots.length ak,.slice ai p0.Bout.Down.length am,.slice aj p0.Bout.Across.length ap,.map (some ab)] ++ ((hH KL.encI p0.hits.l) ++ ((hH KL.encI p0.used.l) ++ (hH KL.encT p0.met.l)))),.obj ab (.map aq au)] bw:=cR
 refine eN (zJ (sR (wDw gAp) Z (oM Z Z (oM Z Z (oM Z Z (bnK hm fun x14 cw dw=>?_))))))
 have cX:SW w [.blk ae 99 ([.slice ah p0.Bout.Shots.length ak,.slice ai p0.Bout.Down.length am,.slice aj p0.Bout.Across.length ap,.map (some ab)] ++ ((hH KL.encI p0.hits.l) ++ ((hH KL.encI p0.used.l) ++ (hH KL.encT p0.met.l)))),.obj ab (.map aq au)] U U [.blk ae 99 ([.slice ah p0.Bout.Shots.length ak,.slice ai p0.Bout.Down.length am,.slice aj p0.Bout.Across.length ap,.map (some ab)] ++ ((hH KL.encI p0.hits.l) ++ ((hH KL.encI p0.used.l) ++ (hH KL.encT p0.met.l)))),.obj ab (.map aq au),.blk b8 44 B1,.blk b4 44 B0] bw:=cV.pick [2,3,0,1] _ (by decide) rfl
 refine zM 2 Z Z Z Z (zL Z Z Try.call65 (zB Z (zB Z (zB Z zS))) Z) cX (fun hs=>wCp p0 ae ah ak ai am aj ap ab aq au p1 p2 bw U hs bR bS bT bU cw) (.inl Z) ?_
 rintro bv dA dK cg bG cY ⟨rfl,rfl⟩
 have cZ:SW w [.blk ae 99 ([.slice ah p0.Bout.Shots.length ak,.slice ai p0.Bout.Down.length am,.slice aj p0.Bout.Across.length ap,.map (some ab)] ++ ((hH KL.encI p0.hits.l) ++ ((hH KL.encI p0.used.l) ++ (hH KL.encT p0.met.l)))),.obj ab (.map aq au)] U bv [.blk ae 99 ([.slice ah p0.Bout.Shots.length ak,.slice ai p0.Bout.Down.length am,.slice aj p0.Bout.Across.length ap,.map (some ab)] ++ ((hH KL.encI p0.hits.l) ++ ((hH KL.encI p0.used.l) ++ (hH KL.encT p0.met.l)))),.obj ab (.map aq au),.blk b8 44 B1,.blk b4 44 B0] cg:=cY
 refine oR Z (zk Z Z Z) (oM Z Z (eN (zi ?_)))
 have q:=bnd dw
 obtain ⟨⟨dy,dz⟩,dm,bV⟩:=q
 try dsimp only at bV
 have q:=wCQ dm
 obtain ⟨bE,dp⟩:=q
 replace bE:=zN bE
 refine CK.forN' (fun az (bo,bu) σ_ w_=>∃ (U_:PHeap),σ_ 15=jV (↑az:Int)/\σ_ 0=.pointer (some ⟨ae,0,none⟩)/\σ_ 1=jV p1/\σ_ 2=jV p2/\σ_ 6=.pointer (some ⟨b4,0,none⟩)/\σ_ 7=.pointer (some ⟨b8,0,none⟩)/\σ_ 14=jV (w64 (x14 + 1))/\PHeap.Le bv U_/\SW w [.blk ae 99 ([.slice ah p0.Bout.Shots.length ak,.slice ai p0.Bout.Down.length am,.slice aj p0.Bout.Across.length ap,.map (some ab)] ++ ((hH KL.encI p0.hits.l) ++ ((hH KL.encI p0.used.l) ++ (hH KL.encT p0.met.l)))),.obj ab (.map aq au)] U U_ [.blk ae 99 ([.slice ah p0.Bout.Shots.length ak,.slice ai p0.Bout.Down.length am,.slice aj p0.Bout.Across.length ap,.map (some ab)] ++ ((hH KL.encI p0.hits.l) ++ ((hH KL.encI p0.used.l) ++ (hH KL.encT p0.met.l)))),.obj ab (.map aq au),.blk b8 44 [jV bo,jV bu],.blk b4 44 B0] w_) dp ?_ ?_ ?_
 exact ⟨bv,Z,Z,Z,Z,Z,Z,Z,(zX _),cZ⟩
 rintro az ⟨bo,bu⟩ dO dQ ci bD ⟨bY,bk,bq,br,bs,bB,aV,bt,bi,de⟩ bX
 try dsimp only at bX
 have bN:Hid ((↑az:Int) < (w64 (x14 + 1))):=zN (wCO bD)
 replace bD:=zN bD
 have bC:Hid (w64 ((↑az:Int) + 1)=(↑(az + 1):Int)):=zN (by have h1:=bE.out;have h2:=bN.out;rw [wAM] <;> omega)
 refine sR fL1 Z (oR Z (zo Z bk bt) (eN (zJ (cT Z bN (kN (zJ (zi (sR fL2 Z (oM Z bk (oA Z Z (eN (sR (wEX (.fx 4 (.fx 5 (.fl 6 .nil) .stop) .stop)) Z (oM Z bq (oM Z br (oM Z bs (oM Z Z ?_))))))))))))))))
 have cy:=bR.le bG
 have cz:=cy.le bi
 have cA:=bS.le bG
 have cB:=cA.le bi
 have cC:=bT.le bG
 have cD:=cC.le bi
 refine bnK bX fun av cE dx=>zM 2 Z Z Z Z (zL Z Z Try.call64 (zB Z (zB Z (zB Z (zB Z zS)))) Z) de (fun hs=>wCS p0 ae ah ak ai am aj ap ab aq au p1 p2 (↑az:Int) ci bY hs cz cB cD bU cE) (.inl Z) ?_
 rintro bL dB dL bM bH df ⟨ba,aW,bb,aX,be,aY,bf,aS,bh,bg,rfl,rfl,cG,cH,cI,cJ⟩
 let B2:Res:=.blk b8 44 [jV bo,jV bu]
 have dh:SW w [.blk ae 99 ([.slice ah p0.Bout.Shots.length ak,.slice ai p0.Bout.Down.length am,.slice aj p0.Bout.Across.length ap,.map (some ab)] ++ ((hH KL.encI p0.hits.l) ++ ((hH KL.encI p0.used.l) ++ (hH KL.encT p0.met.l)))),.obj ab (.map aq au)] U bL [.blk ba 99 ([.slice aW av.Bout.Shots.length bb,.slice aX av.Bout.Down.length be,.slice aY av.Bout.Across.length bf,.map (some aS)] ++ ((hH KL.encI av.hits.l) ++ ((hH KL.encI av.used.l) ++ (hH KL.encT av.met.l)))),.obj aS (.map bh bg),.blk ae 99 ([.slice ah p0.Bout.Shots.length ak,.slice ai p0.Bout.Down.length am,.slice aj p0.Bout.Across.length ap,.map (some ab)] ++ ((hH KL.encI p0.hits.l) ++ ((hH KL.encI p0.used.l) ++ (hH KL.encT p0.met.l)))),.obj ab (.map aq au),B2,.blk b4 44 B0] bM:=df
 have q:=bnd dx
 obtain ⟨⟨x92,x93⟩,cK,bW⟩:=q
 try dsimp only at bW
 refine zM 2 Z Z Z Z (zL Z Z Try.call46 (zB Z zS) Z) dh (fun hs=>wBL av ba aW bb aX be aY bf aS bh bg bM bL hs cG cH cI cJ cK) (.inl Z) ?_
 rintro aU dC dM cj bF cM ⟨bI,cm,rfl,rfl,ct⟩
 let B3:Res:=.row bI cm 3 1 (hH KL.encI x92)
 have bl:SW w [.blk ae 99 ([.slice ah p0.Bout.Shots.length ak,.slice ai p0.Bout.Down.length am,.slice aj p0.Bout.Across.length ap,.map (some ab)] ++ ((hH KL.encI p0.hits.l) ++ ((hH KL.encI p0.used.l) ++ (hH KL.encT p0.met.l)))),.obj ab (.map aq au)] U aU [B3,.blk ba 99 ([.slice aW av.Bout.Shots.length bb,.slice aX av.Bout.Down.length be,.slice aY av.Bout.Across.length bf,.map (some aS)] ++ ((hH KL.encI x93.1.l) ++ ((hH KL.encI x93.2.1.l) ++ (hH KL.encT x93.2.2.l)))),.obj aS (.map bh bg),.blk ae 99 ([.slice ah p0.Bout.Shots.length ak,.slice ai p0.Bout.Down.length am,.slice aj p0.Bout.Across.length ap,.map (some ab)] ++ ((hH KL.encI p0.hits.l) ++ ((hH KL.encI p0.used.l) ++ (hH KL.encT p0.met.l)))),.obj ab (.map aq au),B2,.blk b4 44 B0] cj:=cM
 have cu:bI.isNone=decide (x92=[]):=wHZ (j:=0) bl rfl (fun _=>rfl) (by decide) ct
 refine oR Z (Runs.eqNilR Z Z Z zA cu) (eN (ifc bW ?_ ?_))
 intro bz dq
 refine cT Z bz (zJ (sR fL3 Z (oR Z (zK Z aV zh Z zD) (oL Z (bl.ldB (j:=5) Z Z Z zO (v:=jV bo) Z) (oR Z (zo Z Z Z) (eN (ifc dq ?_ ?_)))))))
 intro bA dr
 refine cT Z bA (rR gAt Z (oM Z Z (oR Z (zK Z aV zh Z zD) (zt (j:=5) (vs:=[jV (↑az:Int)]) Z Z Z Z bl Z Z Z Z zD (zC Z) Z Z Z ?_))))
 intro bZ cN
 have cO:SW w [.blk ae 99 ([.slice ah p0.Bout.Shots.length ak,.slice ai p0.Bout.Down.length am,.slice aj p0.Bout.Across.length ap,.map (some ab)] ++ ((hH KL.encI p0.hits.l) ++ ((hH KL.encI p0.used.l) ++ (hH KL.encT p0.met.l)))),.obj ab (.map aq au)] U aU [B3,.blk ba 99 ([.slice aW av.Bout.Shots.length bb,.slice aX av.Bout.Down.length be,.slice aY av.Bout.Across.length bf,.map (some aS)] ++ ((hH KL.encI x93.1.l) ++ ((hH KL.encI x93.2.1.l) ++ (hH KL.encT x93.2.2.l)))),.obj aS (.map bh bg),.blk ae 99 ([.slice ah p0.Bout.Shots.length ak,.slice ai p0.Bout.Down.length am,.slice aj p0.Bout.Across.length ap,.map (some ab)] ++ ((hH KL.encI p0.hits.l) ++ ((hH KL.encI p0.used.l) ++ (hH KL.encT p0.met.l)))),.obj ab (.map aq au),.blk b8 44 [jV (↑az:Int),jV bu],.blk b4 44 B0] bZ:=cN
 refine eN (rR gAt Z (oM Z Z (oR Z (zK Z aV zh Z zD) (zt (j:=5) (vs:=[jV (↑az:Int)]) Z Z Z Z cO Z Z Z Z zD (zC Z) Z Z Z ?_))))
 intro b5 cP
 have cQ:SW w [.blk ae 99 ([.slice ah p0.Bout.Shots.length ak,.slice ai p0.Bout.Down.length am,.slice aj p0.Bout.Across.length ap,.map (some ab)] ++ ((hH KL.encI p0.hits.l) ++ ((hH KL.encI p0.used.l) ++ (hH KL.encT p0.met.l)))),.obj ab (.map aq au)] U aU [B3,.blk ba 99 ([.slice aW av.Bout.Shots.length bb,.slice aX av.Bout.Down.length be,.slice aY av.Bout.Across.length bf,.map (some aS)] ++ ((hH KL.encI x93.1.l) ++ ((hH KL.encI x93.2.1.l) ++ (hH KL.encT x93.2.2.l)))),.obj aS (.map bh bg),.blk ae 99 ([.slice ah p0.Bout.Shots.length ak,.slice ai p0.Bout.Down.length am,.slice aj p0.Bout.Across.length ap,.map (some ab)] ++ ((hH KL.encI p0.hits.l) ++ ((hH KL.encI p0.used.l) ++ (hH KL.encT p0.met.l)))),.obj ab (.map aq au),.blk b8 44 [jV (↑az:Int),jV (↑az:Int)],.blk b4 44 B0] b5:=cP
 refine zn (zp (zI (rR fL2 Z (oR Z (ZI (zk Z bk Z) (congrArg (jV) bC.out)) (oM Z Z (zn ?_))))))
 cases dr
 exact zI ⟨rfl,⟨aU,rfl,bq,br,bs,bB,aV,bt,((bi.trans bH).trans bF),(cQ.pick [3,4,5,6] _ (by decide) rfl)⟩⟩
 intro bA dt
 refine cF Z bA (kN (rR gAt Z (oM Z Z (oR Z (zK Z aV zh Z zD) (zt (j:=5) (vs:=[jV (↑az:Int)]) Z Z Z Z bl Z Z Z Z zD (zC Z) Z Z Z ?_)))))
 intro b9 cS
 have cU:SW w [.blk ae 99 ([.slice ah p0.Bout.Shots.length ak,.slice ai p0.Bout.Down.length am,.slice aj p0.Bout.Across.length ap,.map (some ab)] ++ ((hH KL.encI p0.hits.l) ++ ((hH KL.encI p0.used.l) ++ (hH KL.encT p0.met.l)))),.obj ab (.map aq au)] U aU [B3,.blk ba 99 ([.slice aW av.Bout.Shots.length bb,.slice aX av.Bout.Down.length be,.slice aY av.Bout.Across.length bf,.map (some aS)] ++ ((hH KL.encI x93.1.l) ++ ((hH KL.encI x93.2.1.l) ++ (hH KL.encT x93.2.2.l)))),.obj aS (.map bh bg),.blk ae 99 ([.slice ah p0.Bout.Shots.length ak,.slice ai p0.Bout.Down.length am,.slice aj p0.Bout.Across.length ap,.map (some ab)] ++ ((hH KL.encI p0.hits.l) ++ ((hH KL.encI p0.used.l) ++ (hH KL.encT p0.met.l)))),.obj ab (.map aq au),.blk b8 44 [jV bo,jV (↑az:Int)],.blk b4 44 B0] b9:=cS
 refine zn (zp (zI (rR fL2 Z (oR Z (ZI (zk Z bk Z) (congrArg (jV) bC.out)) (oM Z Z (zn ?_))))))
 cases dt
 exact zI ⟨rfl,⟨aU,rfl,bq,br,bs,bB,aV,bt,((bi.trans bH).trans bF),(cU.pick [3,4,5,6] _ (by decide) rfl)⟩⟩
 intro bz du
 refine cF Z bz (Za (zp (zI (rR fL2 Z (oR Z (ZI (zk Z bk Z) (congrArg (jV) bC.out)) (oM Z Z (zn ?_)))))))
 cases du
 exact zI ⟨rfl,⟨aU,rfl,bq,br,bs,bB,aV,bt,((bi.trans bH).trans bF),(bl.pick [3,4,5,6] _ (by decide) rfl)⟩⟩
 rintro dP dD ⟨bK,cr,dG,dH,dI,bO,cp,cq,dJ,bP⟩
 have cn:Hid (¬ ((↑((w64 (x14 + 1):Int) - 0).toNat:Int) < (w64 (x14 + 1)))):=zN (wBi)
 refine sR fL1 Z (oR Z (zo Z cr cq) (eN (zJ (cF Z cn (ZS (zq (zq (ZJ (zI (sR gAk Z ?_))))))))))
 let B4:List Value:=[jV dy,jV dz]
 refine oL Z (bP.ldBA (j:=2) Z Z cp zf zH (vs:=B4) Z Z) (zt (j:=3) (vs:=B4) Z Z Z Z bP Z bO Z Z zH (zC Z) Z Z Z ?_)
 intro cf cW
 have bQ:SW w [.blk ae 99 ([.slice ah p0.Bout.Shots.length ak,.slice ai p0.Bout.Down.length am,.slice aj p0.Bout.Across.length ap,.map (some ab)] ++ ((hH KL.encI p0.hits.l) ++ ((hH KL.encI p0.used.l) ++ (hH KL.encT p0.met.l)))),.obj ab (.map aq au)] U bK [.blk ae 99 ([.slice ah p0.Bout.Shots.length ak,.slice ai p0.Bout.Down.length am,.slice aj p0.Bout.Across.length ap,.map (some ab)] ++ ((hH KL.encI p0.hits.l) ++ ((hH KL.encI p0.used.l) ++ (hH KL.encT p0.met.l)))),.obj ab (.map aq au),.blk b8 44 B4,.blk b4 44 B4] cf:=cW
 refine eN (zQ ?_)
 cases bV
 exact ⟨rfl,_,(wIh (v:=.agg B4.toArray) ⟨⟨_,bO,(wBR zf zH (bQ.blkAt (k:=3) rfl) (vs:=B4) rfl rfl)⟩,trivial⟩),bK,_,(bQ.pick [0,1] _ (by decide) rfl),rfl,rfl⟩
theorem wIy (p0:wAB) (aY:Option Addr) (bb:Nat) (aZ:Option Addr) (be:Nat) (ba:Option Addr) (bf:Nat) (p1:Int) (p2:Int) (w:World) (U:PHeap) (hS:St0 w U []) (bM:Sl U 1 aY bb p0.Shots.length (hH KL.encI p0.Shots)) (bN:Sl U 1 aZ be p0.Down.length (hH KL.encI p0.Down)) (bO:Sl U 2 ba bf p0.Across.length (hH wAA p0.Across)) {r:wAH × Int} (hm:wBD p0 p1 p2=some r):Gv Try.prog 14 [.agg #[.slice aY p0.Shots.length bb,.slice aZ p0.Down.length be,.slice ba p0.Across.length bf],jV p1,jV p2] w (wCt w [] U (fun U_ L_ v=>v=.tuple #[.agg #[jV r.1.Lo,jV r.1.Hi],jV r.2]/\L_=[])):=by
 unfold wBD at hm
 refine Gv.of Try.func14 Z Try.ntmps14 Try.results14 Z (sR gAo Z ?_)
 let B0:List Value:=[.slice aY p0.Shots.length bb,.slice aZ p0.Down.length be,.slice ba p0.Across.length bf]
 refine ZY (cs:=B0) rfl rfl rfl rfl rfl rfl (by rfl) hS ?_
 intro W1 b2 bF
 let B1:List Value:=[jV 0,jV 0]
 refine zx (cs:=B1) Z Z Z Z Z zw Z bF ?_
 intro W5 b6 br
 refine oA Z Z (eN (sR (wDw (.fx 3 (wTX (.nil)) .stop)) Z (oL Z (br.ldBA (j:=1) Z Z Z ZT zu (vs:=B0) Z Z) (oM Z Z (oM Z Z ?_)))))
 have q:=bnd hm
 obtain ⟨⟨x9,bg⟩,bz,aU⟩:=q
 try dsimp only at aU
 refine zM 0 Z Z Z Z (zL Z Z Try.call49 (zB Z (zB Z (zB Z zS))) Z) br (fun hs=>wEp p0 aY bb aZ be ba bf p1 p2 W5 U hs bM bN bO bz) (.inr Z) ?_
 rintro aj bV b5 bi bY bm bl
 rcases x9 with _ | aa
 try dsimp only at aU
 obtain ⟨rfl,rfl⟩:=bl
 have bG:sW w U aj [.blk b6 44 B1,.blk b2 26 B0] bi:=bm
 refine oM Z Z (oR Z (ZC Z Z (v:=.pointer none) Z) (oR Z (ZC Z Z (v:=jV bg) Z) (oA Z Z (oA Z Z (eN (zJ (sR fL2 Z (oM Z Z (oR Z (ZL Z Z Z) (eN (ifc aU ?_ ?_)))))))))))
 intro bj bP
 refine zg (zm (fun h=>h bj.out)) (kN (sR (wDw gAv) Z (oM Z Z (oM Z Z (oM Z Z ?_)))))
 cases bP
 intro bj bQ
 refine cT Z bj (sR (.fl 0 gAu) Z (oR Z (ZM (pv:=[]) (z:=B1) (cs:=B1) Z wAo zw wBl Z Z) (oM Z Z (zt (j:=0) (vs:=B1) Z Z Z Z bG Z Z Z Z zH (zC Z) Z Z Z ?_))))
 intro bs bH
 have bn:sW w U aj [.blk b6 44 B1,.blk b2 26 B0] bs:=bH
 refine oA Z Z (eN (zQ (ze ?_)))
 cases bQ
 exact ⟨rfl,_,(wCZ (rs:=[.cell 6 44,.tmp 7]) (vs:=[.agg B1.toArray,jV bg]) ⟨⟨_,rfl,(wBR zf zH (bn.blkAt (k:=0) rfl) (vs:=B1) rfl rfl)⟩,⟨rfl,trivial⟩⟩ rfl),aj,_,(bn.pick [] _ (by decide) rfl),rfl,rfl⟩
 try dsimp only at aU
 obtain ⟨ak,aq,az,au,aQ,av,aR,ah,aT,aS,rfl,rfl,bA,bB,bC,bD⟩:=bl
 have bo:sW w U aj [.blk ak 99 ([.slice aq aa.Bout.Shots.length az,.slice au aa.Bout.Down.length aQ,.slice av aa.Bout.Across.length aR,.map (some ah)] ++ ((hH KL.encI aa.hits.l) ++ ((hH KL.encI aa.used.l) ++ (hH KL.encT aa.met.l)))),.obj ah (.map aT aS),.blk b6 44 B1,.blk b2 26 B0] bi:=bm
 refine oM Z Z (oR Z (ZC Z Z (v:=.pointer (some ⟨ak,0,none⟩)) Z) (oR Z (ZC Z Z (v:=jV bg) Z) (oA Z Z (oA Z Z (eN (zJ (sR fL2 Z (oM Z Z (oR Z (ZL Z Z Z) (eN (ifc aU ?_ ?_)))))))))))
 intro bk bR
 refine zg (zm (fun h=>h bk.out)) (kN (sR (wDw gAv) Z (oM Z Z (oM Z Z (oM Z Z (bnK bR fun x47 bE bS=>zM 2 Z Z Z Z (zL Z Z Try.call48 (zB Z (zB Z (zB Z zS))) Z) bo (fun hs=>wDP aa ak aq az au aQ av aR ah aT aS p1 p2 bi aj hs bA bB bC bD bE) (.inl Z) ?_))))))
 rintro bh bW b9 bu bZ bI ⟨rfl,rfl⟩
 have bJ:sW w U bh [.blk ak 99 ([.slice aq aa.Bout.Shots.length az,.slice au aa.Bout.Down.length aQ,.slice av aa.Bout.Across.length aR,.map (some ah)] ++ ((hH KL.encI aa.hits.l) ++ ((hH KL.encI aa.used.l) ++ (hH KL.encT aa.met.l)))),.obj ah (.map aT aS),.blk b6 44 B1,.blk b2 26 B0] bu:=bI
 let B2:List Value:=[jV x47.Lo,jV x47.Hi]
 refine zt (j:=2) (vs:=B2) Z Z Z Z bJ Z Z Z Z zH (zC Z) Z Z Z ?_
 intro bv bK
 have bp:sW w U bh [.blk ak 99 ([.slice aq aa.Bout.Shots.length az,.slice au aa.Bout.Down.length aQ,.slice av aa.Bout.Across.length aR,.map (some ah)] ++ ((hH KL.encI aa.hits.l) ++ ((hH KL.encI aa.used.l) ++ (hH KL.encT aa.met.l)))),.obj ah (.map aT aS),.blk b6 44 B2,.blk b2 26 B0] bv:=bK
 refine oA Z Z (eN (zQ ?_))
 cases bS
 exact ⟨rfl,_,(wCZ (rs:=[.cell 6 44,.tmp 7]) (vs:=[.agg B2.toArray,jV 0]) ⟨⟨_,rfl,(wBR zf zH (bp.blkAt (k:=2) rfl) (vs:=B2) rfl rfl)⟩,⟨rfl,trivial⟩⟩ rfl),bh,_,(bp.pick [] _ (by decide) rfl),rfl,rfl⟩
 intro bk bT
 refine cT Z bk (sR (.fl 0 gAu) Z (oR Z (ZM (pv:=[]) (z:=B1) (cs:=B1) Z wAo zw wBl Z Z) (oM Z Z (zt (j:=2) (vs:=B1) Z Z Z Z bo Z Z Z Z zH (zC Z) Z Z Z ?_))))
 intro bw bL
 have bq:sW w U aj [.blk ak 99 ([.slice aq aa.Bout.Shots.length az,.slice au aa.Bout.Down.length aQ,.slice av aa.Bout.Across.length aR,.map (some ah)] ++ ((hH KL.encI aa.hits.l) ++ ((hH KL.encI aa.used.l) ++ (hH KL.encT aa.met.l)))),.obj ah (.map aT aS),.blk b6 44 B1,.blk b2 26 B0] bw:=bL
 refine oA Z Z (eN (zQ (ze ?_)))
 cases bT
 exact ⟨rfl,_,(wCZ (rs:=[.cell 6 44,.tmp 7]) (vs:=[.agg B1.toArray,jV bg]) ⟨⟨_,rfl,(wBR zf zH (bq.blkAt (k:=2) rfl) (vs:=B1) rfl rfl)⟩,⟨rfl,trivial⟩⟩ rfl),aj,_,(bq.pick [] _ (by decide) rfl),rfl,rfl⟩
theorem wAm (p0:Int) (p1:Int) (p2:Int) (w:World) (U:PHeap) (hS:St0 w U [])  {r:Bool} (hm:wAQ p0 p1 p2=some r):Gv Try.prog 60 [jV p0,jV p1,jV p2] w (wCt w [] U (fun U_ L_ v=>v=.bool r/\L_=[])):=by
 unfold wAQ at hm
 refine Gv.of Try.func60 Z Try.ntmps60 Try.results60 Z (sR fL1 Z (oA Z Z (eN (sR fL9 Z (oM Z Z (oM Z Z (oR Z (zo Z Z Z) (oM Z Z ?_))))))))
 by_cases c1:p0 < p1
 have ai:=hm;rw [if_pos c1] at ai;replace c1:=zN c1
 refine oT Z c1 (oT Z c1 (oT Z c1 (oR Z (zU Z (Zf c1.out) Z) (oA Z Z (eN (zQ ?_))))))
 have hE:=nD ai;first | subst r | cases hE
 exact ⟨Z,_,(ZD Z),U,_,hS,Z,Z⟩
 have ab:=hm;rw [if_neg c1] at ab;replace c1:=zN c1
 refine zW Z Z Z (wF Z c1) Z Z (zW Z Z Z (wF Z c1) Z Z (rU Z (wF Z c1) (Zl Z Z Z) (oR Z (zP Z (zm c1.out) Z) (oA Z Z (eN (zQ ?_))))))
 first | (obtain rfl:=nD ab) | cases ab
 exact ⟨Z,_,(ZD Z),U,_,hS,Z,Z⟩
theorem wCw (p0:wAC) (aY:Option Addr) (ba:Nat) (aZ:Option Addr) (bb:Nat) (ap:Option Addr) (aq:Nat) (w:World) (U:PHeap) (hS:St0 w U []) (dJ:Sl U 1 aY ba p0.Shots.length (hH KL.encI p0.Shots)) (dK:Sl U 1 aZ bb p0.Down.length (hH KL.encI p0.Down)) (bX:Sl U 2 ap aq p0.Across.length (hH wAE p0.Across)) {r:Int} (hm:wBV p0=some r):Gv Try.prog 59 [.agg #[.slice aY p0.Shots.length ba,.slice aZ p0.Down.length bb,.slice ap p0.Across.length aq]] w (wCt w [] U (fun U_ L_ v=>v=jV r/\L_=[])):=by
 unfold wBV at hm
 refine Gv.of Try.func59 Z Try.ntmps59 Try.results59 Z (sR gAg Z ?_)
 let B0:List Value:=[.slice aY p0.Shots.length ba,.slice aZ p0.Down.length bb,.slice ap p0.Across.length aq]
 refine ZY (cs:=B0) rfl rfl rfl rfl rfl rfl (by rfl) hS ?_
 intro W1 b2 aU
 refine oA Z Z (eN (sR fL4 Z (oR Z (zK Z Z zY Z zZ) (oL Z (aU.ldB (j:=0) Z Z Z zd (v:=.slice aY p0.Shots.length ba) Z) (oR Z (zr Z Z zA) (oA Z Z (eN (zJ (sR fL13 Z (oM Z Z (oR Z (zo Z Z Z) (oM Z Z ?_))))))))))))
 by_cases c5:(↑p0.Shots.length:Int) < 1
 have ci:=hm;rw [if_pos c5] at ci;replace c5:=zN c5
 refine oT Z c5 (oT Z c5 (oR Z (zU Z (Zf c5.out) Z) (oM Z Z (oN Z (oN Z (oN Z (oN Z (oN Z (oR Z (zU Z Z Z) (eN (ZB Z (sR fL1 Z (oA Z Z (eN (zQ (ze ?_))))))))))))))))
 cases ci
 exact ⟨rfl,_,(ZD rfl),U,_,(aU.pick [] _ (by decide) rfl),rfl,rfl⟩
 have cj:=hm;rw [if_neg c5] at cj;replace c5:=zN c5
 refine zW Z Z Z (wF Z c5) Z Z (rU Z (wF Z c5) (Zl Z Z Z) (oR Z (zP Z (zm c5.out) Z) (oM Z Z (ifc cj ?_ ?_))))
 intro c8 eH
 refine oT Z c8 (oT Z c8 (oT Z c8 (oT Z c8 (oT Z c8 (oR Z (zU Z (Zf c8.out) Z) (eN (ZB Z (sR fL1 Z (oA Z Z (eN (zQ (ze ?_))))))))))))
 cases eH
 exact ⟨rfl,_,(ZD rfl),U,_,(aU.pick [] _ (by decide) rfl),rfl,rfl⟩
 intro c8 dP
 refine rU Z (wF Z c8) (zK Z Z zY Z zZ) (zy Z Z Z (wF Z c8) (aU.ldB (j:=0) Z Z Z zd (v:=.slice aZ p0.Down.length bb) Z) Z (rU Z (wF Z c8) (zr Z Z zA) (zW Z Z Z (wF Z c8) Z Z (rU Z (wF Z c8) (ZL Z Z Z) (oR Z (zP Z (zm c8.out) Z) (eN (ifc dP ?_ ?_)))))))
 intro bt bn
 refine zg (zm (fun h=>h bt.out)) (kN (zJ (sR fL1 Z (oA Z Z (eN (zi ?_))))))
 have q:=wDL bn
 obtain ⟨fE,bl⟩:=q
 have q:=wDK bl
 obtain ⟨bH,dM⟩:=q
 replace bH:=zN bH
 refine yD (fun aX _ σ_ w_=>∃ (U_:PHeap),σ_ 4=jV (↑aX:Int)/\σ_ 1=.pointer (some ⟨b2,0,none⟩)/\σ_ 3=jV (↑p0.Shots.length:Int)/\PHeap.Le U U_/\sW w U U_ [.blk b2 54 B0] w_) dM ?_ ?_ ?_
 exact ⟨U,Z,Z,Z,(zX _),aU⟩
 rintro aX ⟨⟩ fQ fT cC bG ⟨cA,bi,bB,bR,bJ,bF⟩ cq bZ
 try dsimp only at cq
 have bQ:Hid ((↑aX:Int) < (↑p0.Shots.length:Int)):=zN (wCO bG)
 replace bG:=zN bG
 have dO:Hid (w64 ((↑aX:Int) + 1)=(↑(aX + 1):Int)):=zN (by have h1:=bH.out;have h2:=bQ.out;rw [wAM] <;> omega)
 refine zJ (sR fL3 Z (oM Z bi (oM Z bR (oR Z (zo Z Z Z) (eN (cT Z bQ (kN (zJ (zi (sR (wEQ (.fx 5 (wOt (.fx 12 (.fl 13 .nil) .stop)) .stop)) Z (oR Z (zK Z bB zY Z zZ) (oL Z (bF.ldB (j:=0) Z Z Z zd (v:=.slice aY p0.Shots.length ba) Z) (oM Z bi (bnK cq fun cz bT ej=>?_))))))))))))))
 have cY:=dJ.le bJ
 have q:=cY.el (fun _=>rfl) (wAV bT)
 obtain ⟨ft,fC,dr,dA⟩:=q
 refine oR Z (Ze Z Z dr Z zA zD (wCd bT)) (oL Z (bF.ldC (f:=0) dA (v:=jV cz) Z Z zO Z) (bnK ej fun fN cZ en=>zM 0 Z Z Z Z (zL Z Z yE (zB Z (zB Z (zB Z zS))) Z) bF (fun hs=>wAm cz 0 8 cC cA hs cZ) (.inr Z) ?_))
 rintro bq eY fJ bP ct dG ⟨rfl,rfl⟩
 have bk:sW w U bq [.blk b2 54 B0] bP:=dG
 refine oM Z Z (ifc en ?_ ?_)
 intro ab eu
 refine zG Z Z Z (zF Z Z (congrArg nA ab.out) Z) (zG Z Z Z (zF Z Z (congrArg nA ab.out) Z) (zG Z Z Z (zF Z Z (congrArg nA ab.out) Z) (zG Z Z Z (zF Z Z (congrArg nA ab.out) Z) (zG Z Z Z (zF Z Z (congrArg nA ab.out) Z) (ZV Z Z Z (zF Z Z (congrArg nA ab.out) Z) (oR Z (zU Z (congrArg nA ab.out) Z) (eN (ZB Z (sR fL1 Z (oA Z Z (eN (zQ (ZE (ze ?_))))))))))))))
 have q:=wAj eu
 obtain ⟨eU,ey,cN⟩:=q
 have q:=wDl bn bl (bZ eU cN)
 obtain rfl:=q
 refine ze (ZE (ze ?_))
 cases ey
 exact ⟨rfl,_,(ZD rfl),bq,_,(bk.pick [] _ (by decide) rfl),rfl,rfl⟩
 intro ab ez
 refine zV Z Z Z (zE Z Z (congrArg nA (nB.2 ab.out))) (fun _=>zK Z bB zY Z zZ) (zy Z Z Z (zE Z Z (congrArg nA (nB.2 ab.out))) (bk.ldB (j:=0) Z Z Z zd (v:=.slice aZ p0.Down.length bb) Z) Z (zW Z Z Z (zE Z Z (congrArg nA (nB.2 ab.out))) Z bi (bnK ez fun x57 bU eA=>?_)))
 have da:=dK.le bJ
 have de:=da.le ct
 have q:=de.el (fun _=>rfl) (wAV bU)
 obtain ⟨fu,fD,dt,dB⟩:=q
 refine zV Z Z Z (zE Z Z (congrArg nA (nB.2 ab.out))) (fun _=>Ze Z Z dt Z zA zD (wCd bU)) (zy Z Z Z (zE Z Z (congrArg nA (nB.2 ab.out))) (bk.ldC (f:=0) dB (v:=jV x57) Z Z zO Z) Z (bnK eA fun fO df eC=>zM 0 Z Z Z (zE Z Z (congrArg nA (nB.2 ab.out))) (zL Z Z yE (zB Z (zB Z (zB Z zS))) Z) bk (fun hs=>wAm x57 0 5 bP bq hs df) (.inr Z) ?_))
 rintro br eZ fK cD eK dH ⟨rfl,rfl⟩
 have bW:sW w U br [.blk b2 54 B0] cD:=dH
 refine oR Z (zP Z (congrArg nA (nB.2 ab.out)) Z) (eN (ifc eC ?_ ?_))
 intro bw eE
 refine ZB (congrArg nA bw.out) (sR fL1 Z (oA Z Z (eN (zQ (ZE (ze ?_))))))
 have q:=wAj eE
 obtain ⟨eV,eF,cO⟩:=q
 have q:=wDl bn bl (bZ eV cO)
 obtain rfl:=q
 refine ze (ZE (ze ?_))
 cases eF
 exact ⟨rfl,_,(ZD rfl),br,_,(bW.pick [] _ (by decide) rfl),rfl,rfl⟩
 intro bw eG
 refine zg (congrArg nA (nB.2 bw.out)) (Za (zp (zI (rR fL3 Z (oM Z bi (oR Z (ZI (zk Z Z Z) (congrArg (jV) dO.out)) (oA Z Z (zn ?_))))))))
 have q:=nD eG
 obtain rfl:=q
 exact zI ⟨Z,_,Z,⟨br,Z,bB,bR,((bJ.trans ct).trans eK),bW⟩⟩
 rintro ⟨⟩ fU fc ⟨bL,cQ,cP,bS,cu,dI⟩ dL
 have cm:=wEA bn bl dL
 try dsimp only at cm
 have cE:Hid (¬ ((↑(((↑p0.Shots.length:Int):Int) - 0).toNat:Int) < (↑p0.Shots.length:Int))):=zN (wBi)
 refine zJ (sR fL3 Z (oM Z cQ (oM Z bS (oR Z (zo Z Z Z) (eN (cF Z cE (ZS (zq (zq (ZJ (zI (zJ (sR fL1 Z (oA Z Z (eN (zi (CK.iter (fun x96 σ_ w_=>∃ (U_:PHeap),σ_ 1=.pointer (some ⟨b2,0,none⟩)/\σ_ 3=jV (↑p0.Shots.length:Int)/\σ_ 5=jV x96/\PHeap.Le bL U_/\sW w U U_ [.blk b2 54 B0] w_) cm ?_ ?_)))))))))))))))))
 exact ⟨bL,cP,bS,Z,(zX _),dI⟩
 rintro x96 fR fV fd ⟨bf,bh,bz,bA,bI,aV⟩ cn bm
 refine zJ (sR fL5 Z (oM Z bA (oR Z (zK Z bh zY Z Zr) (oL Z (aV.ldB (j:=0) Z Z Z Zw (v:=.slice ap p0.Across.length aq) Z) (oR Z (zr Z Z Zj) (oR Z (zo Z Z Z) (eN ?_)))))))
 by_cases av:x96 < (↑p0.Across.length:Int)
 have b5:=cn;rw [if_pos av] at b5;replace av:=zN av
 refine cT Z av (kN (zJ (zi (sR (wEQ gAj) Z (oR Z (zK Z bh zY Z Zr) (oL Z (aV.ldB (j:=0) Z Z Z Zw (v:=.slice ap p0.Across.length aq) Z) (oM Z bA (bnK b5 fun x112 bC dQ=>?_))))))))
 have cR:=bX.le cu
 have cS:=cR.le bI
 have q:=cS.el (fun _=>rfl) (wAV bC)
 obtain ⟨ff,fw,dg,du⟩:=q
 refine oR Z (ZP Z Z dg Z Zj Zx (wBp bC) (wBs bC)) (oL Z (aV.ldCA (f:=0) du Z Z Try.isAgg124 Zx (us:=[jV x112.Skier,jV x112.Lane]) Z Z) (zx (cs:=[jV 0,jV 0]) Z Z Z Z Z Try.zeroValue124 Z aV ?_))
 intro e9 bs dC
 let B1:List Value:=[jV x112.Skier,jV x112.Lane]
 refine zt (j:=0) (vs:=B1) Z Z Z Z dC Z Z Z Z Zx (zC Z) Z Z Z ?_
 intro bM dD
 have bV:sW w U bf [.blk bs 124 B1,.blk b2 54 B0] bM:=dD
 refine eN (sR (wEX (.fx 4 (wRt (.fx 10 (wRw (.nil)) .stop)) .stop)) Z (oR Z (zK Z Z Zs Z zD) (oL Z (bV.ldB (j:=0) Z Z Z zO (v:=jV x112.Skier) Z) (oM Z bz (oR Z (ZG Z Z Z) (bnK dQ fun fL cU dR=>zM 0 Z Z Z Z (zL Z Z yE (zB Z (zB Z (zB Z zS))) Z) bV (fun hs=>wAm x112.Skier 0 (w64 ((↑p0.Shots.length:Int) - 1)) bM bf hs cU) (.inr Z) ?_))))))
 rintro bo eW fG bN eI dE ⟨rfl,rfl⟩
 have bD:sW w U bo [.blk bs 124 B1,.blk b2 54 B0] bN:=dE
 refine oM Z Z (ifc dR ?_ ?_)
 intro ae dS
 refine zG Z Z Z (zF Z Z (congrArg nA ae.out) Z) (zG Z Z Z (zF Z Z (congrArg nA ae.out) Z) (zG Z Z Z (zF Z Z (congrArg nA ae.out) Z) (zG Z Z Z (zF Z Z (congrArg nA ae.out) Z) (ZV Z Z Z (zF Z Z (congrArg nA ae.out) Z) (oR Z (zU Z (congrArg nA ae.out) Z) (oM Z Z (oN Z (oN Z (oN Z (oN Z (oN Z (oR Z (zU Z Z Z) (eN (ZB Z (sR fL1 Z (oA Z Z (eN (zQ (ZE (ze ?_))))))))))))))))))))
 have q:=wAj dS
 obtain ⟨eL,dT,cG⟩:=q
 have q:=bm eL cG
 obtain rfl:=q
 refine ze (ZE (ze ?_))
 cases dT
 exact ⟨rfl,_,(ZD rfl),bo,_,(bD.pick [] _ (by decide) rfl),rfl,rfl⟩
 intro ae dU
 refine zV Z Z Z (zE Z Z (congrArg nA (nB.2 ae.out))) (fun _=>zK Z Z Zs Z zD) (zy Z Z Z (zE Z Z (congrArg nA (nB.2 ae.out))) (bD.ldB (j:=0) Z Z Z zO (v:=jV x112.Lane) Z) Z (zW Z Z Z (zE Z Z (congrArg nA (nB.2 ae.out))) Z bz (zV Z Z Z (zE Z Z (congrArg nA (nB.2 ae.out))) (fun _=>ZG Z Z Z) (bnK dU fun fM cV dV=>zM 0 Z Z Z (zE Z Z (congrArg nA (nB.2 ae.out))) (zL Z Z yE (zB Z (zB Z (zB Z zS))) Z) bD (fun hs=>wAm x112.Lane 0 (w64 ((↑p0.Shots.length:Int) - 1)) bN bo hs cV) (.inr Z) ?_))))
 rintro bg eX fH cB eJ dF ⟨rfl,rfl⟩
 have aW:sW w U bg [.blk bs 124 B1,.blk b2 54 B0] cB:=dF
 refine oR Z (zP Z (congrArg nA (nB.2 ae.out)) Z) (oM Z Z (ifc dV ?_ ?_))
 intro ah dW
 refine zG Z Z Z (zF Z Z (congrArg nA ah.out) Z) (zG Z Z Z (zF Z Z (congrArg nA ah.out) Z) (zG Z Z Z (zF Z Z (congrArg nA ah.out) Z) (zG Z Z Z (zF Z Z (congrArg nA ah.out) Z) (zG Z Z Z (zF Z Z (congrArg nA ah.out) Z) (oR Z (zU Z (congrArg nA ah.out) Z) (eN (ZB Z (sR fL1 Z (oA Z Z (eN (zQ (ZE (ze ?_)))))))))))))
 have q:=wAj dW
 obtain ⟨eM,dX,cH⟩:=q
 have q:=bm eM cH
 obtain rfl:=q
 refine ze (ZE (ze ?_))
 cases dX
 exact ⟨rfl,_,(ZD rfl),bg,_,(aW.pick [] _ (by decide) rfl),rfl,rfl⟩
 intro ah dY
 refine zV Z Z Z (zE Z Z (congrArg nA (nB.2 ah.out))) (fun _=>zK Z Z Zs Z zD) (zy Z Z Z (zE Z Z (congrArg nA (nB.2 ah.out))) (aW.ldB (j:=0) Z Z Z zO (v:=jV x112.Skier) Z) Z (zV Z Z Z (zE Z Z (congrArg nA (nB.2 ah.out))) (fun _=>zK Z Z Zs Z zD) (zy Z Z Z (zE Z Z (congrArg nA (nB.2 ah.out))) (aW.ldB (j:=0) Z Z Z zO (v:=jV x112.Lane) Z) Z (zV Z Z Z (zE Z Z (congrArg nA (nB.2 ah.out))) (fun _=>Zg Z Z Z) (oR Z (zP Z (congrArg nA (nB.2 ah.out)) Z) (eN (ifc dY ?_ ?_)))))))
 intro bu dZ
 refine cT Z bu (sR fL1 Z (oA Z Z (eN (zQ (ZE (ze ?_))))))
 have q:=wAj dZ
 obtain ⟨eO,d4,cI⟩:=q
 have q:=bm eO cI
 obtain rfl:=q
 refine ze (ZE (ze ?_))
 cases d4
 exact ⟨rfl,_,(ZD rfl),bg,_,(aW.pick [] _ (by decide) rfl),rfl,rfl⟩
 intro bu d5
 refine cF Z bu (Za (zp (zI (rR fL3 Z (oM Z bA (oR Z (zk Z Z Z) (oA Z Z (zn ?_))))))))
 have q:=nD d5
 obtain rfl:=q
 exact zI ⟨rfl,_,rfl,⟨bg,bh,bz,rfl,((bI.trans eI).trans eJ),(aW.pick [1] _ (by decide) rfl)⟩⟩
 have b9:=cn;rw [if_neg av] at b9;replace av:=zN av
 refine cF Z av (ZS (zq ?_))
 have q:=wAj b9
 obtain ⟨eP,d6,cJ⟩:=q
 have q:=bm eP cJ
 obtain rfl:=q
 refine zq (ZJ (zI (zJ (sR fL1 Z (oA Z Z (eN (zi (CK.iter (fun bK σ_ w_=>∃ (U_:PHeap),σ_ 1=.pointer (some ⟨b2,0,none⟩)/\σ_ 7=jV bK/\PHeap.Le bf U_/\sW w U U_ [.blk b2 54 B0] w_) d6 ?_ ?_))))))))
 exact ⟨bf,bh,Z,(zX _),aV⟩
 rintro bK fP fS bO ⟨bp,aQ,aR,cr,bE⟩ cp bY
 refine zJ (sR fL5 Z (oM Z aR (oR Z (zK Z aQ zY Z Zr) (oL Z (bE.ldB (j:=0) Z Z Z Zw (v:=.slice ap p0.Across.length aq) Z) (oR Z (zr Z Z Zj) (oR Z (zo Z Z Z) (eN ?_)))))))
 by_cases az:bK < (↑p0.Across.length:Int)
 have cf:=cp;rw [if_pos az] at cf;replace az:=zN az
 refine cT Z az (kN (zJ (zi (zJ (ZN ZO [3,1,3,3,3,1,3,3,1,3,3,3,1,3,3,1,3,3,3,3,1,3,3,1,3,3,3,3,1,3,3] fL31 (by kernel_rfl) ?_)))))
 have am:=bE.drew
 generalize hw_W190:({ bO with drawn:=bO.drawn + 1 }:World)=fb at am ⊢
 refine oR Z (zK Z aQ zY Z Zr) (oL Z (am.ldB (j:=0) Z Z Z Zw (v:=.slice ap p0.Across.length aq) Z) (oM Z aR (bnK cf fun cw aS d7=>?_)))
 have cW:=bX.le cu
 have cX:=cW.le bI
 have bj:=cX.le cr
 have q:=bj.el (fun _=>rfl) (wAV aS)
 obtain ⟨fg,fy,dh,dw⟩:=q
 refine oR Z (ZP Z Z dh Z Zj Zx (wBp aS) (wBs aS)) (oR Z (zK Z Z Zs Z zD) (oL Z (am.ldC (f:=0) dw (v:=jV cw.Skier) Z Z zO Z) (oR Z (Runs.mulw Z Z Z) (oR Z (zK Z aQ zY Z Zr) (oL Z (am.ldB (j:=0) Z Z Z Zw (v:=.slice ap p0.Across.length aq) Z) (oM Z aR ?_))))))
 have q:=bj.el (fun _=>rfl) (wAV aS)
 obtain ⟨fh,fz,dm,dx⟩:=q
 refine oR Z (ZP Z Z dm Z Zj Zx (wBp aS) (wBs aS)) (oR Z (zK Z Z Zs Z zD) (oL Z (am.ldC (f:=1) dx (v:=jV cw.Lane) Z Z zO Z) (oR Z (zk Z Z Z) (oR Z (zK Z aQ zY Z Zr) (oL Z (am.ldB (j:=0) Z Z Z Zw (v:=.slice ap p0.Across.length aq) Z) (oM Z aR (oR Z (ZG Z Z Z) (bnK d7 fun cy aT d8=>?_))))))))
 have q:=bj.el (fun _=>rfl) (wAV aT)
 obtain ⟨fj,fA,dp,dy⟩:=q
 refine oR Z (ZP Z Z dp Z Zj Zx (wBp aT) (wBs aT)) (oR Z (zK Z Z Zs Z zD) (oL Z (am.ldC (f:=0) dy (v:=jV cy.Skier) Z Z zO Z) (oR Z (Runs.mulw Z Z Z) (oR Z (zK Z aQ zY Z Zr) (oL Z (am.ldB (j:=0) Z Z Z Zw (v:=.slice ap p0.Across.length aq) Z) (oM Z aR (oR Z (ZG Z Z Z) ?_)))))))
 have q:=bj.el (fun _=>rfl) (wAV aT)
 obtain ⟨fm,fB,dq,dz⟩:=q
 refine oR Z (ZP Z Z dq Z Zj Zx (wBp aT) (wBs aT)) (oR Z (zK Z Z Zs Z zD) (oL Z (am.ldC (f:=1) dz (v:=jV cy.Lane) Z Z zO Z) (oR Z (zk Z Z Z) (oR Z (Runs.leq Z Z Z) (eN (ifc d8 ?_ ?_))))))
 intro bv d9
 refine cT Z bv (sR fL1 Z (oA Z Z (eN (zQ (ZE (ze ?_))))))
 have q:=wAj d9
 obtain ⟨eQ,eb,cK⟩:=q
 have q:=bY eQ cK
 obtain rfl:=q
 refine ze (ZE (ze ?_))
 cases eb
 exact ⟨rfl,_,(ZD rfl),bp,_,(am.pick [] _ (by decide) rfl),rfl,rfl⟩
 intro bv ed
 refine cF Z bv (Za (zp (zI (rR fL3 Z (oM Z aR (oR Z (zk Z Z Z) (oA Z Z (zn ?_))))))))
 have q:=nD ed
 obtain rfl:=q
 exact zI ⟨Z,_,Z,⟨bp,aQ,Z,cr,am⟩⟩
 have cg:=cp;rw [if_neg az] at cg;replace az:=zN az
 refine cF Z az (ZS (zq ?_))
 have q:=wAj cg
 obtain ⟨eT,ef,cM⟩:=q
 have q:=bY eT cM
 obtain rfl:=q
 refine zq (ZJ (zI (sR fL1 Z (oA Z Z (eN (zQ ?_))))))
 cases ef
 exact ⟨rfl,_,(ZD rfl),bp,_,(bE.pick [] _ (by decide) rfl),rfl,rfl⟩
 intro bt ei
 refine cT Z bt (sR fL1 Z (oA Z Z (eN (zQ (ze ?_)))))
 cases ei
 exact ⟨rfl,_,(ZD rfl),U,_,(aU.pick [] _ (by decide) rfl),rfl,rfl⟩
end Go.Proofs.Ytfcmijinklojbaa
