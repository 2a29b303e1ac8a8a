import Derived.Test.YtkedcbligiebkaaY3
set_option linter.all false
open List renaming flatMap->hD,length_set->nB,getElem_cons_succ->nD,getElem_cons_zero->nE,getElem_toArray->nG,set->nH
open Option.some renaming inj->hH
open Go.Value renaming bool->hJ
open Bool renaming eq_false_iff->nA
open Int renaming toNat_natCast->nI
open Eq renaming trans->nJ
open Prod.mk renaming injEq->nK
open Nat renaming blt->nL,le_of_ble_eq_true->nM
namespace Go.Proofs.Ytkedcbligiebkaa
open Go.KL
def gAa:Sch:=.fl 1 (.fl 2 .nil)
def gAb:Sch:=.fl 2 (.fl 3 .nil)
def gAc:Sch:=.fl 3 (.fl 4 .nil)
def gAd:Sch:=.fl 4 (.fl 5 .nil)
def gAe:Sch:=.fl 7 (.fl 8 .nil)
def gAf:Sch:=.fl 15 (.fl 16 .nil)
def gAg:Sch:=.fx 2 (.fx 3 .nil .stop) .stop
def gAh:Sch:=.fx 0 (.fl 1 .nil) .stop
def gAi:Sch:=.fx 1 (.fl 2 .nil) .stop
def gAj:Sch:=.fx 4 (.fx 5 .nil .stop) .stop
def gAk:Sch:=.fl 10 (.fx 12 .nil .stop)
def gAl:Sch:=.fx 6 gAe .stop
def gAm:Sch:=.fl 0 (.fl 1 (.fx 2 .nil .stop))
def gAn:Sch:=.fl 0 gAi
def gAo:Sch:=.fx 14 gAf .stop
def gAp:Sch:=.fx 15 (.fl 16 (.fx 17 .nil .stop)) .stop
def gAq:Sch:=.fx 11 (.fl 12 (.fl 13 .nil)) .stop
def gAr:Sch:=.fx 13 (.fl 14 (.fl 15 .nil)) .stop
def gAs:Sch:=.fl 10 (.fx 11 (.fx 12 .nil .stop) .stop)
def gAt:Sch:=.fx 6 gAk .stop
def gAu:Sch:=.fl 0 (.fl 1 (.fx 2 (.fl 3 .nil) .stop))
def gAv:Sch:=.fl 0 (.fl 1 gAg)
def gAw:Sch:=.fx 0 (.fx 1 gAb .stop) .stop
def gAx:Sch:=.fx 0 (.fx 1 gAg .stop) .stop
def gAy:Sch:=.fx 8 (.fl 9 gAk) .stop
def gAz:Sch:=.fl 0 (.fl 1 (.fx 2 gAc .stop))
set_option maxHeartbeats 4000000
theorem Z {α:Type} {a:α}:a=a:=rfl
section
variable {r:Option Nat} {N:Nat} {P:Program} {l:List Oper} {Q:wDV} {D:List Deferred} {ks:List Nat} {σ:Env} {w:World} {i d j e:Nat} {s:Sch} {o:Oper} {b:Bool} {x:Operand} {v:Value} {p:Prop} {inst:Decidable p} {K:List Deferred->Env->World->Prop} {c1 c2:Code}
abbrev jV (n:Int):Value:=.int .i64 n
abbrev SW (w:World) (X:List Res) (U U':PHeap) (L:List Res) (w':World):Prop:=St ⟨w,X,U⟩ U' L w'
abbrev sW (w:World) (U U':PHeap) (L:List Res) (w':World):Prop:=St ⟨w,[],U⟩ U' L w'
abbrev St0 (w:World) (U:PHeap) (L:List Res):Prop:=St ⟨w,L,U⟩ U L w
theorem ifc {α:Type} {G p:Prop} {inst:Decidable p} {a b r:α} (h:@ite α p inst a b=r) (O:Hid p->a=r->G) (h2:Hid (¬ p)->b=r->G):G:=by
 by_cases c:p
 rw [if_pos c] at h;exact O ⟨c⟩ h
 rw [if_neg c] at h;exact h2 ⟨c⟩ h
theorem bnK {α β:Type} {G:Prop} {o:Option α} {f:α->Option β} {r:β} (h:o.bind f=some r) (k:∀ x,o=some x->f x=some r->G):G:=by
 obtain ⟨x,O,h2⟩:=bnd h
 exact k x O h2
theorem oR (h:(l[i]?,o.dst,nL d N,wanted l σ o)=(some o,some d,true,true)) (hr:∀ {w'},Runs P σ w' o v w') (k:OKS N P l Q D ks s (upd σ d v) w):OKS N P l Q D ks (.fl i s) σ w:=by
 simp only [nK] at h;exact OKS.r h.1 h.2.1 h.2.2.1 h.2.2.2 (fun _=>hr) k
theorem oL (h:(l[i]?,o.dst,nL d N,wanted l σ o,wLd (kOf ks i))=(some o,some d,true,true,false)) (hr:wER P σ w o v) (k:OKS N P l Q D ks s (upd σ d v) w):OKS N P l Q D ks (.fl i s) σ w:=by
 simp only [nK] at h;exact OKS.m h.1 h.2.1 h.2.2.1 h.2.2.2.1 hr h.2.2.2.2 k
theorem oM (h:(l[i]?,o.dst,nL d N,wanted l σ o,o.op)=(some o,some d,true,true,.move x)) (hx:ev σ x=v) (k:OKS N P l Q D ks s (upd σ d v) w):OKS N P l Q D ks (.fl i s) σ w:=by
 simp only [nK] at h;exact OKS.rm h.1 h.2.1 h.2.2.1 h.2.2.2.1 h.2.2.2.2 hx k
theorem oA (h:(l[i]?,o.dst,nL d N,wanted l σ o,o.op)=(some o,some d,true,true,.assign x)) (hx:ev σ x=v) (k:OKS N P l Q D ks s (upd σ d v) w):OKS N P l Q D ks (.fl i s) σ w:=by
 simp only [nK] at h;exact OKS.ra h.1 h.2.1 h.2.2.1 h.2.2.2.1 h.2.2.2.2 hx k
theorem oF (h:(l[i]?,o.dst,nL d N,o.guard,(l[j]?).bind (·.dst),σ e,false == b)=(some o,some d,true,some (j,b),some e,.bool (decide p),false)) (c:Hid (¬ p)) (k:OKS N P l Q D ks s (upd σ d undef) w):OKS N P l Q D ks (.fl i s) σ w:=by
 simp only [nK] at h;exact OKS.p h.1 h.2.1 h.2.2.1 (wFJ h.2.2.2.1 h.2.2.2.2.1 (h.2.2.2.2.2.1.trans (wLb c.out)) h.2.2.2.2.2.2) k
theorem oT (h:(l[i]?,o.dst,nL d N,o.guard,(l[j]?).bind (·.dst),σ e,true == b)=(some o,some d,true,some (j,b),some e,.bool (decide p),false)) (c:Hid p) (k:OKS N P l Q D ks s (upd σ d undef) w):OKS N P l Q D ks (.fl i s) σ w:=by
 simp only [nK] at h;exact OKS.p h.1 h.2.1 h.2.2.1 (wFJ h.2.2.2.1 h.2.2.2.2.1 (h.2.2.2.2.2.1.trans (wLa c.out)) h.2.2.2.2.2.2) k
theorem oN {O:Bool} (h:(l[i]?,o.dst,nL d N,o.guard,(l[j]?).bind (·.dst),σ e,O == b)=(some o,some d,true,some (j,b),some e,.bool O,false)) (k:OKS N P l Q D ks s (upd σ d undef) w):OKS N P l Q D ks (.fl i s) σ w:=by
 simp only [nK] at h;exact OKS.p h.1 h.2.1 h.2.2.1 (wFJ h.2.2.2.1 h.2.2.2.2.1 h.2.2.2.2.2.1 h.2.2.2.2.2.2) k
theorem nC {a b:Bool} (h:a=b):hJ (!a)=hJ (!b):=h ▸ rfl
theorem nF {a:Bool} (h:¬ a=true):hJ (!a)=hJ (!false):=nC (nA.2 h)
theorem wT (h:(o.guard,(l[j]?).bind (·.dst),σ e)=(some (j,true),some e,.bool (decide p))) (c:Hid p):wanted l σ o=true:=by
 simp only [nK] at h;exact wGC h.1 h.2.1 (h.2.2.trans (wLa c.out))
theorem wF (h:(o.guard,(l[j]?).bind (·.dst),σ e)=(some (j,false),some e,.bool (decide p))) (c:Hid (¬ p)):wanted l σ o=true:=by
 simp only [nK] at h;exact wGC h.1 h.2.1 (h.2.2.trans (wLb c.out))
theorem rU (h:(l[i]?,o.dst,nL d N)=(some o,some d,true)) (hw:wanted l σ o=true) (hr:∀ {w'},Runs P σ w' o v w') (k:OKS N P l Q D ks s (upd σ d v) w):OKS N P l Q D ks (.fl i s) σ w:=by
 simp only [nK] at h;exact OKS.r h.1 h.2.1 h.2.2 hw (fun _=>hr) k
theorem sR {id:Nat} (s:Sch) (hs:inOrder 0 s l.length=true) (h:OKS N P l (wEM (fun D σ w=>CK r N P c2 Q D σ w) Q) D [] s σ w):CK r N P (.seq (.region id l.toArray false) c2) Q D σ w:=CK.seq (CK.reg s hs h)
theorem rR {id:Nat} (s:Sch) (hs:inOrder 0 s l.length=true) (h:OKS N P l Q D [] s σ w):CK r N P (.region id l.toArray false) Q D σ w:=CK.reg s hs h
theorem eN (h:K D σ w):OKS N P l (wEM K Q) D ks .nil σ w:=OKS.e (wFz h)
theorem cT (hz:ev σ x=.bool (decide p)) (c:Hid p) (h:CK r N P c1 Q D σ w):CK r N P (.cond x c1 c2) Q D σ w:=CK.condT (hz.trans (wLa c.out)) h
theorem cF (hz:ev σ x=.bool (decide p)) (c:Hid (¬ p)) (h:CK r N P c2 Q D σ w):CK r N P (.cond x c1 c2) Q D σ w:=CK.condF (hz.trans (wLb c.out)) h
theorem kN (h:K D σ w):CK r N P .skip (wEM K Q) D σ w:=CK.skip (wFz h)
end
def fL1:Sch:=.fl 0 .nil
def fL2:Sch:=.fl 0 (.fl 1 .nil)
def fL3:Sch:=.fl 0 gAa
def fL4:Sch:=.fl 0 (.fl 1 gAb)
def fL5:Sch:=.fl 0 (.fl 1 (.fl 2 gAc))
def fL6:Sch:=.fl 0 (.fl 1 (.fl 2 (.fl 3 gAd)))
def fL7:Sch:=.fl 0 (.fl 1 (.fl 2 (.fl 3 (.fl 4 (.fl 5 (.fl 6 .nil))))))
def fL8:Sch:=.fl 0 (.fl 1 (.fl 2 (.fl 3 (.fl 4 (.fl 5 (.fl 6 (.fl 7 .nil)))))))
def fL9:Sch:=.fl 0 (.fl 1 (.fl 2 (.fl 3 (.fl 4 (.fl 5 (.fl 6 gAe))))))
def wMJ:Sch:=.fl 0 (.fl 1 (.fl 2 (.fl 3 (.fl 4 (.fl 5 (.fl 6 (.fl 7 (.fl 8 (.fl 9 .nil)))))))))
def fL11:Sch:=.fl 0 (.fl 1 (.fl 2 (.fl 3 (.fl 4 (.fl 5 (.fl 6 (.fl 7 (.fl 8 (.fl 9 (.fl 10 .nil))))))))))
def fL13:Sch:=.fl 0 (.fl 1 (.fl 2 (.fl 3 (.fl 4 (.fl 5 (.fl 6 (.fl 7 (.fl 8 (.fl 9 (.fl 10 (.fl 11 (.fl 12 .nil))))))))))))
def fL15:Sch:=.fl 0 (.fl 1 (.fl 2 (.fl 3 (.fl 4 (.fl 5 (.fl 6 (.fl 7 (.fl 8 (.fl 9 (.fl 10 (.fl 11 (.fl 12 (.fl 13 (.fl 14 .nil))))))))))))))
def fL17:Sch:=.fl 0 (.fl 1 (.fl 2 (.fl 3 (.fl 4 (.fl 5 (.fl 6 (.fl 7 (.fl 8 (.fl 9 (.fl 10 (.fl 11 (.fl 12 (.fl 13 (.fl 14 gAf))))))))))))))
def fL18:Sch:=.fl 0 (.fl 1 (.fl 2 (.fl 3 (.fl 4 (.fl 5 (.fl 6 (.fl 7 (.fl 8 (.fl 9 (.fl 10 (.fl 11 (.fl 12 (.fl 13 (.fl 14 (.fl 15 (.fl 16 (.fl 17 .nil)))))))))))))))))
def fL19:Sch:=.fl 0 (.fl 1 (.fl 2 (.fl 3 (.fl 4 (.fl 5 (.fl 6 (.fl 7 (.fl 8 (.fl 9 (.fl 10 (.fl 11 (.fl 12 (.fl 13 (.fl 14 (.fl 15 (.fl 16 (.fl 17 (.fl 18 .nil))))))))))))))))))
def fL22:Sch:=.fl 0 (.fl 1 (.fl 2 (.fl 3 (.fl 4 (.fl 5 (.fl 6 (.fl 7 (.fl 8 (.fl 9 (.fl 10 (.fl 11 (.fl 12 (.fl 13 (.fl 14 (.fl 15 (.fl 16 (.fl 17 (.fl 18 (.fl 19 (.fl 20 (.fl 21 .nil)))))))))))))))))))))
def fL30:Sch:=.fl 0 (.fl 1 (.fl 2 (.fl 3 (.fl 4 (.fl 5 (.fl 6 (.fl 7 (.fl 8 (.fl 9 (.fl 10 (.fl 11 (.fl 12 (.fl 13 (.fl 14 (.fl 15 (.fl 16 (.fl 17 (.fl 18 (.fl 19 (.fl 20 (.fl 21 (.fl 22 (.fl 23 (.fl 24 (.fl 25 (.fl 26 (.fl 27 (.fl 28 (.fl 29 .nil)))))))))))))))))))))))))))))
def fL39:Sch:=.fl 0 (.fl 1 (.fl 2 (.fl 3 (.fl 4 (.fl 5 (.fl 6 (.fl 7 (.fl 8 (.fl 9 (.fl 10 (.fl 11 (.fl 12 (.fl 13 (.fl 14 (.fl 15 (.fl 16 (.fl 17 (.fl 18 (.fl 19 (.fl 20 (.fl 21 (.fl 22 (.fl 23 (.fl 24 (.fl 25 (.fl 26 (.fl 27 (.fl 28 (.fl 29 (.fl 30 (.fl 31 (.fl 32 (.fl 33 (.fl 34 (.fl 35 (.fl 36 (.fl 37 (.fl 38 .nil))))))))))))))))))))))))))))))))))))))
def wDt (s:Sch):Sch:=.fl 0 (.fl 1 (.fl 2 (s)))
def wDL (s:Sch):Sch:=.fl 0 (.fl 1 (.fl 2 (.fl 3 (s))))
def wDD (s:Sch):Sch:=.fl 0 (.fl 1 (.fl 2 (.fl 3 (.fl 4 (s)))))
def wHD (s:Sch):Sch:=.fl 0 (.fl 1 (.fl 2 (.fl 3 (.fl 4 (.fl 5 (s))))))
def wHE (s:Sch):Sch:=.fl 0 (.fl 1 (.fl 2 (.fl 3 (.fl 4 (.fl 5 (.fl 6 (s)))))))
def fC0_7 (s:Sch):Sch:=.fl 0 (.fl 1 (.fl 2 (.fl 3 (.fl 4 (.fl 5 (.fl 6 (.fl 7 (s))))))))
def wLT (s:Sch):Sch:=.fl 0 (.fl 1 (.fl 2 (.fl 3 (.fl 4 (.fl 5 (.fl 6 (.fl 7 (.fl 8 (s)))))))))
def wMK (s:Sch):Sch:=.fl 0 (.fl 1 (.fl 2 (.fl 3 (.fl 4 (.fl 5 (.fl 6 (.fl 7 (.fl 8 (.fl 9 (s))))))))))
def wIE (s:Sch):Sch:=.fl 0 (.fl 1 (.fl 2 (.fl 3 (.fl 4 (.fl 5 (.fl 6 (.fl 7 (.fl 8 (.fl 9 (.fl 10 (s)))))))))))
def wML (s:Sch):Sch:=.fl 0 (.fl 1 (.fl 2 (.fl 3 (.fl 4 (.fl 5 (.fl 6 (.fl 7 (.fl 8 (.fl 9 (.fl 10 (.fl 11 (.fl 12 (.fl 13 (s))))))))))))))
def wIF (s:Sch):Sch:=.fl 0 (.fl 1 (.fl 2 (.fl 3 (.fl 4 (.fl 5 (.fl 6 (.fl 7 (.fl 8 (.fl 9 (.fl 10 (.fl 11 (.fl 12 (.fl 13 (.fl 14 (s)))))))))))))))
def wMM (s:Sch):Sch:=.fl 0 (.fl 1 (.fl 2 (.fl 3 (.fl 4 (.fl 5 (.fl 6 (.fl 7 (.fl 8 (.fl 9 (.fl 10 (.fl 11 (.fl 12 (.fl 13 (.fl 14 (.fl 15 (s))))))))))))))))
def wMN (s:Sch):Sch:=.fl 0 (.fl 1 (.fl 2 (.fl 3 (.fl 4 (.fl 5 (.fl 6 (.fl 7 (.fl 8 (.fl 9 (.fl 10 (.fl 11 (.fl 12 (.fl 13 (.fl 14 (.fl 15 (.fl 16 (.fl 17 (.fl 18 (.fl 19 (.fl 20 (s)))))))))))))))))))))
def wMO (s:Sch):Sch:=.fl 0 (.fl 1 (.fl 2 (.fl 3 (.fl 4 (.fl 5 (.fl 6 (.fl 7 (.fl 8 (.fl 9 (.fl 10 (.fl 11 (.fl 12 (.fl 13 (.fl 14 (.fl 15 (.fl 16 (.fl 17 (.fl 18 (.fl 19 (.fl 20 (.fl 21 (s))))))))))))))))))))))
def fC1_5 (s:Sch):Sch:=.fl 1 (.fl 2 (.fl 3 (.fl 4 (.fl 5 (s)))))
def wMP (s:Sch):Sch:=.fl 1 (.fl 2 (.fl 3 (.fl 4 (.fl 5 (.fl 6 (.fl 7 (.fl 8 (.fl 9 (.fl 10 (.fl 11 (.fl 12 (.fl 13 (.fl 14 (.fl 15 (.fl 16 (.fl 17 (.fl 18 (.fl 19 (s)))))))))))))))))))
def wMQ (s:Sch):Sch:=.fl 2 (.fl 3 (.fl 4 (.fl 5 (s))))
def wMR (s:Sch):Sch:=.fl 2 (.fl 3 (.fl 4 (.fl 5 (.fl 6 (s)))))
def wLU (s:Sch):Sch:=.fl 3 (.fl 4 (.fl 5 (s)))
def wMS (s:Sch):Sch:=.fl 3 (.fl 4 (.fl 5 (.fl 6 (s))))
def wMT (s:Sch):Sch:=.fl 3 (.fl 4 (.fl 5 (.fl 6 (.fl 7 (s)))))
def fC4_8 (s:Sch):Sch:=.fl 4 (.fl 5 (.fl 6 (.fl 7 (.fl 8 (s)))))
def wMU (s:Sch):Sch:=.fl 4 (.fl 5 (.fl 6 (.fl 7 (.fl 8 (.fl 9 (.fl 10 (.fl 11 (.fl 12 (.fl 13 (.fl 14 (.fl 15 (.fl 16 (.fl 17 (.fl 18 (.fl 19 (.fl 20 (.fl 21 (.fl 22 (.fl 23 (s))))))))))))))))))))
def wIb (s:Sch):Sch:=.fl 5 (.fl 6 (.fl 7 (s)))
def fC5_8 (s:Sch):Sch:=.fl 5 (.fl 6 (.fl 7 (.fl 8 (s))))
def wKW (s:Sch):Sch:=.fl 5 (.fl 6 (.fl 7 (.fl 8 (.fl 9 (s)))))
def wKo (s:Sch):Sch:=.fl 5 (.fl 6 (.fl 7 (.fl 8 (.fl 9 (.fl 10 (.fl 11 (.fl 12 (.fl 13 (.fl 14 (.fl 15 (s)))))))))))
def fC6_8 (s:Sch):Sch:=.fl 6 (.fl 7 (.fl 8 (s)))
def wKp (s:Sch):Sch:=.fl 6 (.fl 7 (.fl 8 (.fl 9 (.fl 10 (s)))))
def wKq (s:Sch):Sch:=.fl 6 (.fl 7 (.fl 8 (.fl 9 (.fl 10 (.fl 11 (.fl 12 (s)))))))
def wMV (s:Sch):Sch:=.fl 7 (.fl 8 (.fl 9 (.fl 10 (.fl 11 (s)))))
def wMW (s:Sch):Sch:=.fl 7 (.fl 8 (.fl 9 (.fl 10 (.fl 11 (.fl 12 (s))))))
def wMX (s:Sch):Sch:=.fl 7 (.fl 8 (.fl 9 (.fl 10 (.fl 11 (.fl 12 (.fl 13 (s)))))))
def wMY (s:Sch):Sch:=.fl 8 (.fl 9 (.fl 10 (s)))
def wHF (s:Sch):Sch:=.fl 8 (.fl 9 (.fl 10 (.fl 11 (s))))
def wMZ (s:Sch):Sch:=.fl 9 (.fl 10 (.fl 11 (.fl 12 (.fl 13 (.fl 14 (.fl 15 (.fl 16 (.fl 17 (.fl 18 (s))))))))))
def wLV (s:Sch):Sch:=.fl 10 (.fl 11 (.fl 12 (.fl 13 (s))))
def wLW (s:Sch):Sch:=.fl 13 (.fl 14 (.fl 15 (s)))
theorem zA:type_of% @nM:=@nM
theorem zB:type_of% @wIg:=@wIg
theorem zC:type_of% @Try.sizeOf3:=@Try.sizeOf3
theorem zD:type_of% @Try.runUnderlying41:=@Try.runUnderlying41
theorem zE:type_of% @Try.isAgg3:=@Try.isAgg3
theorem zF:type_of% @wFz:=@wFz
theorem zG:type_of% @Try.sizeOf71:=@Try.sizeOf71
theorem zH:type_of% @Hid.mk:=@Hid.mk
theorem zI:type_of% @Runs.fa:=@Runs.fa
theorem zJ:type_of% @CK.seq:=@CK.seq
theorem zK:type_of% @Enters.mk:=@Enters.mk
theorem zL:type_of% @OKS.callH:=@OKS.callH
theorem zM:type_of% @PHeap.Le.refl:=@PHeap.Le.refl
theorem zN:type_of% @OKS.rm:=@OKS.rm
theorem zO:type_of% @Runs.lss:=@Runs.lss
theorem zP:type_of% @wIf:=@wIf
theorem zQ:type_of% @wKX:=@wKX
theorem zR:type_of% @Runs.addw:=@Runs.addw
theorem zS:type_of% @wGC:=@wGC
theorem zT:type_of% @CK.ret:=@CK.ret
theorem zU:type_of% @CK.block:=@CK.block
theorem zV:type_of% @wHe:=@wHe
theorem zW:type_of% @OKS.e:=@OKS.e
theorem zX:type_of% @Try.runUnderlying45:=@Try.runUnderlying45
theorem zY:type_of% @OKS.alloc:=@OKS.alloc
theorem zZ:type_of% @Try.runUnderlying37:=@Try.runUnderlying37
theorem za:type_of% @OKS.st:=@OKS.st
theorem zb:type_of% @OKS.r:=@OKS.r
theorem zc:type_of% @wIe:=@wIe
theorem zd:type_of% @wHc:=@wHc
theorem ze:type_of% @Try.runUnderlying42:=@Try.runUnderlying42
theorem zh:type_of% @Try.isAgg71:=@Try.isAgg71
theorem zi:type_of% @Try.sizeOf37:=@Try.sizeOf37
theorem zj:type_of% @Try.zeroValue71:=@Try.zeroValue71
theorem zk:type_of% @Runs.pickT:=@Runs.pickT
theorem zl:type_of% @CK.condF:=@CK.condF
theorem zm:type_of% @Runs.pickF:=@Runs.pickF
theorem zn:type_of% @Runs.ext:=@Runs.ext
theorem zo:type_of% @OKS.both:=@OKS.both
theorem zq:type_of% @Runs.build:=@Runs.build
theorem zr:type_of% @Runs.iaI:=@Runs.iaI
theorem zt:type_of% @OKS.m:=@OKS.m
theorem zu:type_of% @Try.runUnderlying106:=@Try.runUnderlying106
theorem zw:type_of% @CK.anyOrd:=@CK.anyOrd
theorem zx:type_of% @Try.mixed:=@Try.mixed
theorem zy:type_of% @wLb:=@wLb
theorem zz:type_of% @Try.sizeOf45:=@Try.sizeOf45
theorem ZA:type_of% @CK.condT:=@CK.condT
theorem ZB:type_of% @Runs.len:=@Runs.len
theorem ZC:type_of% @wHd:=@wHd
theorem ZD:type_of% @OKS.box:=@OKS.box
theorem ZE:type_of% @Try.sizeOf41:=@Try.sizeOf41
theorem ZF:type_of% @OKS.buildSlice:=@OKS.buildSlice
theorem ZG:type_of% @Try.runUnderlying91:=@Try.runUnderlying91
theorem ZH:type_of% @Try.runUnderlying94:=@Try.runUnderlying94
theorem ZI:type_of% @Try.isAgg41:=@Try.isAgg41
theorem ZJ:type_of% @Runs.to:=@Runs.to
theorem ZK:type_of% @res1:=@res1
theorem ZL:type_of% @CK.skip:=@CK.skip
theorem ZM:type_of% @CK.exit:=@CK.exit
theorem ZN:type_of% @Try.zeroValue3:=@Try.zeroValue3
theorem ZO:type_of% @OKS.mx2:=@OKS.mx2
theorem ZP:type_of% @Try.isAgg45:=@Try.isAgg45
theorem ZQ:type_of% @OKS.cutD:=@OKS.cutD
theorem ZR:type_of% @wFJ:=@wFJ
theorem ZS:type_of% @Try.runUnderlying88:=@Try.runUnderlying88
theorem ZT:type_of% @Try.sizeOf133:=@Try.sizeOf133
theorem ZU:type_of% @Try.runUnderlying3:=@Try.runUnderlying3
theorem ZV:type_of% @Runs.notT:=@Runs.notT
theorem ZW:type_of% @wLa:=@wLa
theorem ZX:type_of% @Try.zeroValue37:=@Try.zeroValue37
theorem ZY:type_of% @Runs.nilp:=@Runs.nilp
theorem ZZ:type_of% @Try.runUnderlying25:=@Try.runUnderlying25
theorem Za:type_of% @Runs.subw:=@Runs.subw
theorem Zb:type_of% @Runs.iaN:=@Runs.iaN
theorem Zc:type_of% @Try.runUnderlying111:=@Try.runUnderlying111
theorem Zd:type_of% @Try.zeroValue88:=@Try.zeroValue88
theorem Ze:type_of% @Try.runUnderlying61:=@Try.runUnderlying61
theorem Zf:type_of% @Try.runUnderlying50:=@Try.runUnderlying50
theorem Zg:type_of% @Try.zeroValue133:=@Try.zeroValue133
theorem Zh:type_of% @Try.sizeOf29:=@Try.sizeOf29
theorem Zi:type_of% @Try.isAgg37:=@Try.isAgg37
theorem Zj:type_of% @OKS.p:=@OKS.p
theorem Zk:type_of% @Try.runUnderlying40:=@Try.runUnderlying40
theorem Zl:type_of% @Try.call42:=@Try.call42
theorem Zm:type_of% @Try.runUnderlying134:=@Try.runUnderlying134
theorem Zn:type_of% @Try.zeroValue66:=@Try.zeroValue66
theorem Zo:type_of% @Runs.neq:=@Runs.neq
theorem Zp:type_of% @CK.cut:=@CK.cut
theorem Zq:type_of% @Try.runUnderlying43:=@Try.runUnderlying43
theorem Zr:type_of% @Try.sizeOf91:=@Try.sizeOf91
theorem Zs:type_of% @Try.sizeOf88:=@Try.sizeOf88
theorem Zt:type_of% @Try.runUnderlying133:=@Try.runUnderlying133
theorem Zu:type_of% @Try.isAgg91:=@Try.isAgg91
theorem Zv:type_of% @Try.runUnderlying29:=@Try.runUnderlying29
theorem Zw:type_of% @Try.sizeOf50:=@Try.sizeOf50
theorem Zx:type_of% @Try.sizeOf106:=@Try.sizeOf106
theorem Zy:type_of% @OKS.append:=@OKS.append
theorem Zz:type_of% @Runs.gtr:=@Runs.gtr
theorem yA:type_of% @OKS.stR:=@OKS.stR
theorem yB:type_of% @Try.sizeOf42:=@Try.sizeOf42
theorem yC:type_of% @Try.sizeOf43:=@Try.sizeOf43
theorem yD:type_of% @Try.call21:=@Try.call21
theorem yE:type_of% @CK.forN:=@CK.forN
theorem yF:type_of% @OKS.ra:=@OKS.ra
theorem yG:type_of% @Try.isAgg106:=@Try.isAgg106
theorem yH:type_of% @Try.runUnderlying108:=@Try.runUnderlying108
theorem yI:type_of% @OKS.callV:=@OKS.callV
theorem yJ:type_of% @Try.runUnderlying39:=@Try.runUnderlying39
theorem yK:type_of% @Try.isAgg66:=@Try.isAgg66
theorem yL:type_of% @Try.sizeOf39:=@Try.sizeOf39
theorem yM:type_of% @Try.sizeOf54:=@Try.sizeOf54
theorem yN:type_of% @Try.call64:=@Try.call64
theorem yO:type_of% @OKS.makeMap:=@OKS.makeMap
theorem yP:type_of% @Try.isAgg42:=@Try.isAgg42
theorem yQ:type_of% @Try.isAgg43:=@Try.isAgg43
theorem yR:type_of% @Try.sizeOf40:=@Try.sizeOf40
theorem yS:type_of% @Try.isAgg133:=@Try.isAgg133
theorem yT:type_of% @Try.sizeOf92:=@Try.sizeOf92
theorem yU:type_of% @CK.iter:=@CK.iter
end Go.Proofs.Ytkedcbligiebkaa
namespace Go.Proofs.Ytkedcbligiebkaa
open Go.KL
set_option maxHeartbeats 4000000
theorem wFN (O:List Int) (aa:Option Addr) (ab:Nat) (w:World) (U:PHeap) (hS:St0 w U []) (ai:Sl U 1 aa ab O.length (hD KL.encB8 O)) {r:wAL} (hm:wCa O=some r):Gv Try.prog 4 [.slice aa O.length ab] w (wBz w [] U (fun U_ L_ v=>∃ (b0:Nat) (A0p0:Option Addr) (c0p0:Nat),v=.pointer (some ⟨b0,0,none⟩)/\L_=[.blk b0 61 [.slice A0p0 r.bytes.length c0p0,jV r.next,.int .u32 r.state]]/\Sl U_ 1 A0p0 c0p0 r.bytes.length (hD KL.encB8 r.bytes))):=by
 unfold wCa at hm
 refine Gv.of Try.func4 Z Try.ntmps4 Try.results4 Z (sR fL1 Z (oA Z Z (eN (sR gAu Z (oM Z Z ?_)))))
 let B0:List Value:=[.slice aa O.length ab,jV 0,.int .u32 17]
 refine zb rfl rfl rfl rfl (fun _=>zq (pv:=[(0,.slice aa O.length ab),(2,.int .u32 17)]) (z:=[.slice none 0 0,jV 0,.int .u32 0]) (cs:=B0) rfl (wAC rfl (wAC rfl wAR)) Try.zeroValue61 wJt rfl rfl) (ZD (cs:=B0) rfl rfl rfl rfl rfl rfl (by rfl) hS ?_)
 intro W1 b2 ag
 refine oA Z Z (eN (zT ?_))
 cases hm
 exact ⟨Z,_,(ZK Z),U,_,ag,b2,aa,ab,Z,Z,ai⟩
theorem wBX (O:wAL) (af:Nat) (ab:Option Addr) (ac:Nat) (p1:Int) (w:World) (U:PHeap) (hS:St0 w U [.blk af 61 [.slice ab O.bytes.length ac,jV O.next,.int .u32 O.state]]) (ai:Sl U 1 ab ac O.bytes.length (hD KL.encB8 O.bytes)) {r:Int × wAL} (hm:wAa O p1=some r):Gv Try.prog 6 [.pointer (some ⟨af,0,none⟩),jV p1] w (wBz w [.blk af 61 [.slice ab O.bytes.length ac,jV O.next,.int .u32 O.state]] U (fun U_ L_ v=>∃ (ay:Option Addr) (aE:Nat),v=jV r.1/\L_=[.blk af 61 [.slice ay r.2.bytes.length aE,jV r.2.next,.int .u32 r.2.state]]/\Sl U_ 1 ay aE r.2.bytes.length (hD KL.encB8 r.2.bytes))):=by
 unfold wAa at hm
 refine Gv.of Try.func6 Z Try.ntmps6 Try.results6 Z (sR fL1 Z (oA Z Z (eN (zJ (sR wMJ Z (oM Z Z (oR Z (Runs.leq Z Z Z) (oM Z Z ?_))))))))
 by_cases c2:p1 <= 1
 have aH:=hm;rw [if_pos c2] at aH;replace c2:=zH c2
 refine oT Z c2 (oT Z c2 (oT Z c2 (oT Z c2 (oT Z c2 (oT Z c2 (oR Z (zk Z (ZW c2.out) Z) (eN (ZA Z (sR fL1 Z (oA Z Z (eN (zT (zP ?_)))))))))))))
 cases aH
 exact ⟨Z,_,(ZK Z),U,_,hS,ab,ac,Z,Z,ai⟩
 have aI:=hm;rw [if_neg c2] at aI;replace c2:=zH c2
 refine zN Z Z Z (wF Z c2) Z Z (rU Z (wF Z c2) (ZY Z Z) (rU Z (wF Z c2) (zI Z Z Ze Z Try.sizeOf22) (zt Z Z Z (wF Z c2) (hS.ldB (j:=0) Z Z Z Try.isAgg22 (v:=.slice ab O.bytes.length ac) Z) Z (rU Z (wF Z c2) (ZB Z Z Try.runUnderlying22) (rU Z (wF Z c2) (Runs.eql Z Z Z) (oR Z (zm Z (zy c2.out) Z) (eN (ifc aI ?_ ?_))))))))
 intro c5 bf
 refine cT Z c5 (sR fL1 Z (oA Z Z (eN (zT (zP ?_)))))
 cases bf
 exact ⟨Z,_,(ZK Z),U,_,hS,ab,ac,Z,Z,ai⟩
 intro c5 bg
 refine cF Z c5 (kN (zJ (zw zx [3,3,3,1,3,3,3,1,3,3,3,1,3,3,3,1,3,3,3,3,1,3,3,3,1,3,3,3,3,3] fL30 (by kernel_rfl) ?_)))
 have ae:=hS.drew
 generalize hw_W9:({ w with drawn:=w.drawn + 1 }:World)=W9 at ae ⊢
 refine oM Z Z (oR Z (ZY Z Z) (oR Z (zI Z Z Ze Z Try.sizeOf22) (oL Z (ae.ldB (j:=0) Z Z Z Try.isAgg22 (v:=.slice ab O.bytes.length ac) Z) (oM Z Z (oR Z (ZY Z Z) (oR Z (zI Z Z Ze Z zC) (oL Z (ae.ldB (j:=0) Z Z Z zE (v:=jV O.next) Z) (oM Z Z (oR Z (ZY Z Z) (oR Z (zI Z Z Ze Z Try.sizeOf22) (oL Z (ae.ldB (j:=0) Z Z Z Try.isAgg22 (v:=.slice ab O.bytes.length ac) Z) (oR Z (ZB Z Z Try.runUnderlying22) (bnK bg fun bm aM aW=>oR Z (Runs.rem Z Z Z aM) (bnK aW fun aJ ax aX=>?_))))))))))))))
 have q:=ai.el (fun _=>rfl) (wAr ax)
 obtain ⟨bj,bk,aS,aT⟩:=q
 refine oR Z (zr Z Z aS Z Try.runUnderlying22 Try.sizeOf5 (wCS ax) (wCY ax)) (oL Z (ae.ldC (f:=0) aT (v:=.int .u8 aJ) Z Z Try.isAgg5 Z) (oR Z (Runs.cvu Z Z Try.runUnderlying5 Try.runUnderlying59 Z Z) (oM Z Z (oR Z (ZY Z Z) (oR Z (zI Z Z Ze Z zC) (oL Z (ae.ldB (j:=0) Z Z Z zE (v:=jV O.next) Z) (oM Z Z (oR Z (ZY Z Z) (oR Z (zI Z Z Ze Z Try.sizeOf22) (oL Z (ae.ldB (j:=0) Z Z Z Try.isAgg22 (v:=.slice ab O.bytes.length ac) Z) (oR Z (ZB Z Z Try.runUnderlying22) (bnK aX fun bh aN aY=>oR Z (Runs.quo Z Z Z aN) (oR Z (Runs.cvu Z Z ZU Try.runUnderlying59 Z Z) (oA Z Z (oA Z Z (eN (zJ (CK.fresh fun au am=>?_))))))))))))))))))
 have aj:au 0=.pointer (some ⟨af,0,none⟩):=(am 0).trans rfl
 have an:au 1=jV p1:=(am 1).trans rfl
 have ao:au 5=.int .u32 (wDl aJ):=(am 5).trans rfl
 have aF:au 6=.int .u32 (wDl bh):=(am 6).trans rfl
 clear am
 refine rR (wHE (.fx 7 .nil .stop)) Z (oM Z aj (oR Z (ZY Z Z) (oR Z (zI Z Z Ze Z zC) (oL Z (ae.ldB (j:=0) Z Z Z zE (v:=jV O.next) Z) (oR Z (zR Z Z Z) (oR Z (ZY Z Z) (oR Z (zI Z Z Ze Z zC) (za (j:=0) (vs:=[jV (w64 (O.next + 1))]) Z Z Z Z ae Z Z Z Z zC (zA Z) Z Z Z ?_))))))))
 intro aK aU
 let B0:Res:=.blk af 61 [.slice ab O.bytes.length ac,jV O.next,.int .u32 O.state]
 have aG:SW w [B0] U U [.blk af 61 [.slice ab O.bytes.length ac,jV (w64 (O.next + 1)),.int .u32 O.state]] aK:=aU
 refine eN (sR (wIF (.fx 15 .nil .stop)) Z (oM Z aj (oM Z aj (oR Z (ZY Z Z) (oR Z (zI Z Z Ze Z Try.sizeOf59) (oL Z (aG.ldB (j:=0) Z Z Z Try.isAgg59 (v:=.int .u32 O.state) Z) (oR Z (Runs.mulu Z Z Z) (oM Z ao (oR Z (Runs.addu Z Z Z) (oM Z aF (oR Z (Runs.mulu Z Z Z) (oR Z (Runs.addu Z Z Z) (oR Z (Runs.addu Z Z Z) (bnK aY fun aq aO aZ=>oR Z (Runs.rem Z Z Z aO) (oR Z (ZY Z Z) (oR Z (zI Z Z Ze Z Try.sizeOf59) (za (j:=0) (vs:=[.int .u32 aq]) Z Z Z Z aG Z Z Z Z Try.sizeOf59 (zA Z) Z Z Z ?_)))))))))))))))))
 intro aL aV
 have ak:SW w [B0] U U [.blk af 61 [.slice ab O.bytes.length ac,jV (w64 (O.next + 1)),.int .u32 aq]] aL:=aV
 refine eN (zJ (sR fL6 Z (oM Z aF (oR Z (Runs.eql Z Z Z) (oM Z Z (ifc aZ ?_ ?_))))))
 intro ag a7
 refine zN Z Z Z (wT Z ag) Z an (rU Z (wT Z ag) (Runs.leq Z Z Z) (oR Z (zk Z (ZW ag.out) Z) (eN (ifc a7 ?_ ?_))))
 intro av a8
 refine cT Z av (sR fL5 Z (oM Z ao (oR Z (Runs.cvw Z Z Try.runUnderlying59 ZU Z Z) (oM Z an (bnK a8 fun bn aP a9=>oR Z (Runs.rem Z Z Z aP) (oA Z Z (eN (zT (zP ?_)))))))))
 cases a9
 exact ⟨Z,_,(ZK Z),U,_,ak,ab,ac,Z,Z,ai⟩
 intro av ba
 refine cF Z av (kN (sR fL11 Z (oM Z aj (oR Z (ZY Z Z) (oR Z (zI Z Z Ze Z Try.sizeOf59) (oL Z (ak.ldB (j:=0) Z Z Z Try.isAgg59 (v:=.int .u32 aq) Z) (oR Z (Runs.mulu Z Z Z) (oM Z ao (oR Z (Runs.addu Z Z Z) (oR Z (Runs.cvw Z Z Try.runUnderlying59 ZU Z Z) (oM Z an (bnK ba fun bo aQ bb=>oR Z (Runs.rem Z Z Z aQ) (oA Z Z (eN (zT ?_)))))))))))))))
 cases bb
 exact ⟨Z,_,(ZK Z),U,_,ak,ab,ac,Z,Z,ai⟩
 intro ag bc
 refine oF Z ag (oF Z ag (oR Z (zm Z (zy ag.out) Z) (eN (zl Z (kN (sR fL11 Z (oM Z aj (oR Z (ZY Z Z) (oR Z (zI Z Z Ze Z Try.sizeOf59) (oL Z (ak.ldB (j:=0) Z Z Z Try.isAgg59 (v:=.int .u32 aq) Z) (oR Z (Runs.mulu Z Z Z) (oM Z ao (oR Z (Runs.addu Z Z Z) (oR Z (Runs.cvw Z Z Try.runUnderlying59 ZU Z Z) (oM Z an (bnK bc fun bp aR be=>oR Z (Runs.rem Z Z Z aR) (oA Z Z (eN (zT ?_)))))))))))))))))))
 cases be
 exact ⟨Z,_,(ZK Z),U,_,ak,ab,ac,Z,Z,ai⟩
theorem wAx (O:wAL) (aa:Nat) (ab:Option Addr) (ac:Nat) (p1:Int) (p2:Int) (w:World) (U:PHeap) (hS:St0 w U [.blk aa 61 [.slice ab O.bytes.length ac,jV O.next,.int .u32 O.state]]) (ax:Sl U 1 ab ac O.bytes.length (hD KL.encB8 O.bytes)) {r:Int × wAL} (hm:wAT O p1 p2=some r):Gv Try.prog 5 [.pointer (some ⟨aa,0,none⟩),jV p1,jV p2] w (wBz w [.blk aa 61 [.slice ab O.bytes.length ac,jV O.next,.int .u32 O.state]] U (fun U_ L_ v=>∃ (aj:Option Addr) (an:Nat),v=jV r.1/\L_=[.blk aa 61 [.slice aj r.2.bytes.length an,jV r.2.next,.int .u32 r.2.state]]/\Sl U_ 1 aj an r.2.bytes.length (hD KL.encB8 r.2.bytes))):=by
 unfold wAT at hm
 refine Gv.of Try.func5 Z Try.ntmps5 Try.results5 Z (sR fL1 Z (oA Z Z (eN (sR (wHD gAl) Z (oM Z Z (oM Z Z (oM Z Z (oM Z Z (oR Z (Za Z Z Z) (oR Z (zR Z Z Z) ?_))))))))))
 have q:=bnd hm
 obtain ⟨⟨x2,x3⟩,h4,ao⟩:=q
 try dsimp only at ao
 refine zL 1 Z Z Z Z (zK Z Z Try.call6 (zB Z (zB Z zQ)) Z) hS (fun hs=>wBX O aa ab ac (w64 ((w64 (p2 - p1)) + 1)) w U hs ax h4) (.inl Z) ?_
 rintro U6 L7 v8 W9 az av ⟨ai,am,rfl,rfl,aq⟩
 have aw:SW w [.blk aa 61 [.slice ab O.bytes.length ac,jV O.next,.int .u32 O.state]] U U6 [.blk aa 61 [.slice ai x3.bytes.length am,jV x3.next,.int .u32 x3.state]] W9:=av
 refine oR Z (zR Z Z Z) (oA Z Z (eN (zT ?_)))
 cases ao
 exact ⟨Z,_,(ZK Z),U6,_,aw,ai,am,Z,Z,aq⟩
theorem wEe (p0:Int) (p1:Int) (w:World) (U:PHeap) (hS:St0 w U [])  {r:Int} (hm:wBh p0 p1=some r):Gv Try.prog 18 [jV p0,jV p1] w (wBz w [] U (fun U_ L_ v=>v=jV r/\L_=[])):=by
 unfold wBh at hm
 refine Gv.of Try.func18 Z Try.ntmps18 Try.results18 Z (sR fL1 Z (oA Z Z (eN (zJ (sR fL2 Z (oM Z Z (oR Z (Runs.leq Z Z Z) (eN ?_))))))))
 by_cases O:p1 <= 0
 have ab:=hm;rw [if_pos O] at ab;replace O:=zH O
 refine cT Z O (sR fL1 Z (oA Z Z (eN (zT (zP ?_)))))
 cases ab
 exact ⟨Z,_,(ZK Z),U,_,hS,Z,Z⟩
 have ac:=hm;rw [if_neg O] at ac;replace O:=zH O
 refine cF Z O (kN (sR fL8 Z (oM Z Z (oM Z Z (bnK ac fun x4 h5 ai=>oR Z (Runs.rem Z Z Z h5) (oM Z Z (oR Z (zR Z Z Z) (oM Z Z (bnK ai fun x7 h8 aj=>oR Z (Runs.rem Z Z Z h8) (oA Z Z (eN (zT ?_))))))))))))
 have hE:=hH aj;first | subst r | cases hE
 exact ⟨Z,_,(ZK Z),U,_,hS,Z,Z⟩
theorem wEf (O:Int) (p1:Int) (w:World) (U:PHeap) (hS:St0 w U [])  {r:Int} (hm:wCH O p1=some r):Gv Try.prog 8 [jV O,jV p1] w (wBz w [] U (fun U_ L_ v=>v=jV r/\L_=[])):=by
 unfold wCH at hm
 refine Gv.of Try.func8 Z Try.ntmps8 Try.results8 Z (sR fL1 Z (oA Z Z (eN (sR gAu Z (oM Z Z (oM Z Z (bnK hm fun x1 h2 ai=>zL 0 Z Z Z Z (zK Z Z Try.call18 (zB Z (zB Z zQ)) Z) hS (fun hs=>wEe O p1 w U hs h2) (.inr Z) ?_)))))))
 rintro U4 L5 v6 W7 ak ag ⟨rfl,rfl⟩
 have af:sW w U U4 [] W7:=ag
 refine oA Z Z (eN (zT ?_))
 have hE:=hH ai;first | subst r | cases hE
 exact ⟨Z,_,(ZK Z),U4,_,af,Z,Z⟩
theorem wDY (O:List wAI) (an:Option Addr) (ao:Nat) (p1:(wAI->Option Bool)) (ap:Value) (w:World) (U:PHeap) (hS:St0 w U []) (a7:Sl U 2 an ao O.length (hD wAb O)) (a8:FnOK Try.prog U ap ar97 rr97 p1) {r:Bool} (hm:wBB O p1=some r):Gv Try.prog 37 [.slice an O.length ao,ap] w (wBz w [] U (fun U_ L_ v=>v=.bool r/\L_=[])):=by
 unfold wBB at hm
 refine Gv.of Try.func37 Z Try.ntmps37 Try.results37 Z (sR fL1 Z (oA Z Z (eN (zJ (sR fL3 Z (oM Z Z (oR Z (ZB Z Z ZZ) (oM Z Z (eN (zU ?_))))))))))
 have q:=wBx hm
 obtain ⟨r3,ai⟩:=q
 have q:=wBw ai
 obtain ⟨ak,bb⟩:=q
 replace ak:=zH ak
 refine yE (fun k2 _ σ_ w_=>∃ (U_:PHeap),σ_ 9=jV (↑k2:Int)/\σ_ 1=ap/\σ_ 7=.slice an O.length ao/\σ_ 8=jV (↑O.length:Int)/\PHeap.Le U U_/\sW w U U_ [] w_) bb ?_ ?_ ?_
 exact ⟨U,Z,Z,Z,Z,(zM _),hS⟩
 rintro k2 ⟨⟩ bA bC W8 aj ⟨aJ,ag,av,aw,ax,am,az⟩ aH a9
 try dsimp only at aH
 have au:Hid ((↑k2:Int) < (↑O.length:Int)):=zH (wBG aj)
 replace aj:=zH aj
 have bc:Hid (w64 ((↑k2:Int) + 1)=(↑(k2 + 1):Int)):=zH (by have h1:=ak.out;have h2:=au.out;rw [wAY] <;> omega)
 refine sR fL1 Z (oR Z (zO Z ag ax) (eN (zJ (cT Z au (kN (zJ (zU (sR gAv Z (bnK aH fun ab ay be=>?_)))))))))
 have aR:=a7.le am
 have q:=aR.el (fun _=>rfl) (wAr ay)
 obtain ⟨bq,bv,aU,aV⟩:=q
 refine oR Z (Zb Z aw aU ag ZZ Zh (wCz ay)) (oL Z (az.ldCA (f:=0) aV Z Z Try.isAgg29 Zh (us:=[jV ab.Bib,jV ab.Time]) Z Z) (zY (cs:=[jV 0,jV 0]) Z Z Z Z Z Try.zeroValue29 Z az ?_))
 intro bn aq aW
 let B0:List Value:=[jV ab.Bib,jV ab.Time]
 refine za (j:=0) (vs:=B0) Z Z Z Z aW Z Z Z Z Zh (zA Z) Z Z Z ?_
 intro aL aX
 have aE:sW w U aJ [.blk aq 29 B0] aL:=aX
 refine eN (sR gAu Z (oM Z av (oL Z (aE.ldBA (j:=0) Z Z Z Try.isAgg29 Zh (vs:=B0) Z Z) (bnK be fun bz aS bf=>?_))))
 have aT:=a8.le am
 refine yI (a:=ab) Z Z Z Z Z Z (zB Z zQ) aE aT Z aS ?_
 rintro ae bm bx aM bj aY ⟨rfl,rfl⟩
 have aF:sW w U ae [.blk aq 29 B0] aM:=aY
 refine oR Z (ZV Z Z) (eN (ifc bf ?_ ?_))
 intro af bg
 refine zl (nC af.out) (ZL (zd (zF (rR fL2 Z (oR Z (ZJ (zR Z ag Z) (congrArg (jV) bc.out)) (oM Z Z (zW ?_)))))))
 have q:=hH bg
 obtain rfl:=q
 exact zF ⟨rfl,_,rfl,⟨ae,rfl,av,aw,ax,(am.trans bj),(aF.pick [] _ (by decide) rfl)⟩⟩
 intro af bh
 refine ZA (nF (af.out)) (sR fL1 Z (oA Z Z (eN (zT (zV (zP ?_))))))
 have q:=wAV bh
 obtain ⟨bk,bi,aO⟩:=q
 have q:=wBA hm ai (a9 bk aO)
 obtain rfl:=q
 refine zP (zV (zP ?_))
 have hE:=hH bi;first | subst r | cases hE
 exact ⟨rfl,_,(ZK rfl),ae,_,(aF.pick [] _ (by decide) rfl),rfl,rfl⟩
 rintro ⟨⟩ bB bo ⟨aK,aQ,br,bt,aP,bu,aZ⟩ ba
 have aG:=wCl hm ai ba
 try dsimp only at aG
 have aN:Hid (¬ ((↑(((↑O.length:Int):Int) - 0).toNat:Int) < (↑O.length:Int))):=zH (wAp)
 refine sR fL1 Z (oR Z (zO Z aQ aP) (eN (zJ (cF Z aN (ZM (zc (zc (ZC (zF (sR fL1 Z (oA Z Z (eN (zT ?_)))))))))))))
 have hE:=hH aG;first | subst r | cases hE
 exact ⟨Z,_,(ZK Z),aK,_,aZ,Z,Z⟩
theorem wDv (p0:Int) (p1:Int) (p2:Int) (w:World) (U:PHeap) (hS:St0 w U [])  {r:Bool} (hm:wCU p0 p1 p2=some r):Gv Try.prog 39 [jV p0,jV p1,jV p2] w (wBz w [] U (fun U_ L_ v=>v=.bool r/\L_=[])):=by
 unfold wCU at hm
 refine Gv.of Try.func39 Z Try.ntmps39 Try.results39 Z (sR fL1 Z (oA Z Z (eN (sR fL9 Z (oM Z Z (oM Z Z (oR Z (Runs.geq Z Z Z) (oM Z Z ?_))))))))
 by_cases O:p1 <= p0
 have aa:=hm;rw [if_pos O] at aa;replace O:=zH O
 refine zN Z Z Z (wT Z O) Z Z (zN Z Z Z (wT Z O) Z Z (rU Z (wT Z O) (Runs.leq Z Z Z) (oR Z (zk Z (ZW O.out) Z) (oA Z Z (eN (zT ?_))))))
 first | (obtain rfl:=hH aa) | cases aa
 exact ⟨Z,_,(ZK Z),U,_,hS,Z,Z⟩
 have ae:=hm;rw [if_neg O] at ae;replace O:=zH O
 refine oF Z O (oF Z O (oF Z O (oR Z (zm Z (zy O.out) Z) (oA Z Z (eN (zT ?_))))))
 have hE:=hH ae;first | subst r | cases hE
 exact ⟨Z,_,(ZK Z),U,_,hS,Z,Z⟩
theorem wEg (p0:wAI) (w:World) (U:PHeap) (hS:St0 w U [])  {r:Bool} (hm:wBC p0=some r):Gv Try.prog 38 [.agg #[jV p0.Bib,jV p0.Time]] w (wBz w [] U (fun U_ L_ v=>v=.bool r/\L_=[])):=by
 unfold wBC at hm
 refine Gv.of Try.func38 Z Try.ntmps38 Try.results38 Z (sR gAh Z ?_)
 let B0:List Value:=[jV p0.Bib,jV p0.Time]
 refine ZD (cs:=B0) rfl rfl rfl rfl rfl rfl (by rfl) hS ?_
 intro W1 b2 aj
 refine oA Z Z (eN (sR (.fl 0 (.fl 1 (.fx 2 (wLU gAl) .stop))) Z (oR Z (zI Z Z Zv Z zC) (oL Z (aj.ldB (j:=0) Z Z Z zE (v:=jV p0.Bib) Z) (bnK hm fun x5 h6 ay=>zL 0 Z Z Z Z (zK Z Z Try.call39 (zB Z (zB Z (zB Z zQ))) Z) aj (fun hs=>wDv p0.Bib 1 999 W1 U hs h6) (.inr Z) ?_)))))
 rintro U8 L9 aH ag aF ap ⟨rfl,rfl⟩
 have ae:sW w U U8 [.blk b2 29 B0] ag:=ap
 refine oM Z Z (ifc ay ?_ ?_)
 intro O av
 refine zb Z Z Z (zS Z Z (congrArg hJ O.out)) (fun _=>zI Z Z Zv Z zC) (zt Z Z Z (zS Z Z (congrArg hJ O.out)) (ae.ldB (j:=0) Z Z Z zE (v:=jV p0.Time) Z) Z (bnK av fun aJ an aw=>zL 0 Z Z Z (zS Z Z (congrArg hJ O.out)) (zK Z Z Try.call39 (zB Z (zB Z (zB Z zQ))) Z) ae (fun hs=>wDv p0.Time 0 360000 ag U8 hs an) (.inr Z) ?_))
 rintro af az aI am aG aq ⟨rfl,rfl⟩
 have au:sW w U af [.blk b2 29 B0] am:=aq
 refine oR Z (zk Z (congrArg hJ O.out) Z) (oA Z Z (eN (zT ?_)))
 have hE:=hH aw;first | subst r | cases hE
 exact ⟨rfl,_,(ZK rfl),af,_,(au.pick [] _ (by decide) rfl),rfl,rfl⟩
 intro O ax
 refine Zj Z Z Z (ZR Z Z (congrArg hJ (nA.2 O.out)) Z) (Zj Z Z Z (ZR Z Z (congrArg hJ (nA.2 O.out)) Z) (OKS.px Z Z Z (ZR Z Z (congrArg hJ (nA.2 O.out)) Z) (oR Z (zm Z (congrArg hJ (nA.2 O.out)) Z) (oA Z Z (eN (zT ?_))))))
 have hE:=hH ax;first | subst r | cases hE
 exact ⟨rfl,_,(ZK rfl),U8,_,(ae.pick [] _ (by decide) rfl),rfl,rfl⟩
theorem wGF (O:List Int) (ao:Option Addr) (ap:Nat) (w:World) (U:PHeap) (hS:St0 w U []) (aV:Sl U 1 ao ap O.length (hD KL.encI O)) {r:Bool} (hm:wCb O=some r):Gv Try.prog 40 [.slice ao O.length ap] w (wBz w [] U (fun U_ L_ v=>v=.bool r/\L_=[])):=by
 unfold wCb at hm
 refine Gv.of Try.func40 Z Try.ntmps40 Try.results40 Z (sR fL1 Z (oA Z Z (eN (sR gAh Z (yO Z Z Z Z Z hS ?_)))))
 intro W1 b2 aR
 have bc:=MpR.nil wIu wJn
 refine oA Z Z (eN (zJ (sR fL3 Z (oM Z Z (oR Z (ZB Z Z zD) (oM Z Z (eN (zU ?_))))))))
 have q:=wBx hm
 obtain ⟨bu,ak⟩:=q
 have q:=wBw ak
 obtain ⟨an,aY⟩:=q
 replace an:=zH an
 refine yE (fun aa aG σ_ w_=>∃ (U_:PHeap) (ag:Array MapEntry) (av:Nat),σ_ 9=jV (↑aa:Int)/\σ_ 3=.map (some b2)/\σ_ 7=.slice ao O.length ap/\σ_ 8=jV (↑O.length:Int)/\PHeap.Le U U_/\sW w U U_ [.obj b2 (.map ag av)] w_/\MpR ag wIu wJn aG) aY ?_ ?_ ?_
 exact ⟨U,#[],0,Z,Z,Z,Z,(zM _),aR,bc⟩
 rintro aa aG bv bx bi am ⟨ac,ag,av,aj,ai,ay,az,aH,ab,aE⟩ bf aW
 have au:Hid ((↑aa:Int) < (↑O.length:Int)):=zH (wBG am)
 replace am:=zH am
 have aZ:Hid (w64 ((↑aa:Int) + 1)=(↑(aa + 1):Int)):=zH (by have h1:=an.out;have h2:=au.out;rw [wAY] <;> omega)
 refine sR fL1 Z (oR Z (zO Z aj az) (eN (zJ (cT Z au (kN (zJ (zU (sR fL3 Z (bnK bf fun aq aF a7=>?_)))))))))
 have aO:=aV.le aH
 have q:=aO.el (fun _=>rfl) (wAr aF)
 obtain ⟨bk,bt,aP,aQ⟩:=q
 refine oR Z (Zb Z ay aP aj zD zC (wCz aF)) (oL Z (ab.ldC (f:=0) aQ (v:=jV aq) Z Z zE Z) (oA Z Z (eN (zJ (sR fL3 Z (oM Z ai (oM Z Z (oL Z (ab.lookup1 (j:=0) (mk:=wIu) (mv:=wJn) (a:=aq) (z:=false) Z Z Z Z (wBY Try.runUnderlying110) wIx Try.zeroValue4 aE) (eN (ifc a7 ?_ ?_))))))))))
 intro af a8
 refine ZA (congrArg hJ af.out) (sR fL1 Z (oA Z Z (eN (zT (zP (zV (zP ?_)))))))
 have q:=wAV a8
 obtain ⟨bg,a9,aL⟩:=q
 have q:=wBA hm ak (aW bg aL)
 obtain rfl:=q
 refine zP (zV (zP ?_))
 have hE:=hH a9;first | subst r | cases hE
 exact ⟨rfl,_,(ZK rfl),ac,_,(ab.pick [] _ (by decide) rfl),rfl,rfl⟩
 intro af ba
 refine zl (congrArg hJ (nA.2 af.out)) (kN (rR gAm rfl (zN rfl rfl rfl rfl rfl ai (zN rfl rfl rfl rfl rfl rfl (OKS.mapPut (x:=.tmp 16) (y:=.tmp 17) (j:=0) (mk:=wIu) (mv:=wJn) (a:=aq) (v:=true) rfl rfl rfl (by first | exact .inl rfl | exact .inr rfl) ab rfl rfl rfl rfl (wBY Try.runUnderlying110) wIx aE rfl ?_)))))
 intro ax aw aJ be aS
 have aT:sW w U ac [.obj b2 (.map ax aw)] aJ:=aS
 refine zW (zd (zF (rR fL2 Z (oR Z (ZJ (zR Z aj Z) (congrArg (jV) aZ.out)) (oM Z Z (zW ?_))))))
 have q:=hH ba
 obtain rfl:=q
 exact zF ⟨Z,_,Z,⟨ac,ax,aw,Z,ai,ay,az,aH,aT,be⟩⟩
 rintro bw bz bj ⟨aI,bn,bm,aN,bo,bp,aM,br,aU,bq⟩ aX
 have bb:=wCl hm ak aX
 have aK:Hid (¬ ((↑(((↑O.length:Int):Int) - 0).toNat:Int) < (↑O.length:Int))):=zH (wAp)
 refine sR fL1 Z (oR Z (zO Z aN aM) (eN (zJ (cF Z aK (ZM (zc (zc (ZC (zF (sR fL1 Z (oA Z Z (eN (zT ?_)))))))))))))
 have hE:=hH bb;first | subst r | cases hE
 exact ⟨rfl,_,(ZK rfl),aI,_,(aU.pick [] _ (by decide) rfl),rfl,rfl⟩
theorem wFO (p0:List wAI) (ak:Option Addr) (am:Nat) (p1:wAX) (w:World) (U:PHeap) (hS:St0 w U []) (bi:Sl U 2 ak am p0.length (hD wAb p0)) {r:Int} (hm:wCB p0 p1=some r):Gv Try.prog 27 [.slice ak p0.length am,.agg #[jV p1.Unit,jV p1.Limit]] w (wBz w [] U (fun U_ L_ v=>v=jV r/\L_=[])):=by
 unfold wCB at hm
 refine Gv.of Try.func27 Z Try.ntmps27 Try.results27 Z (sR gAh Z ?_)
 let B0:List Value:=[jV p1.Unit,jV p1.Limit]
 refine ZD (cs:=B0) rfl rfl rfl rfl rfl rfl (by rfl) hS ?_
 intro W1 b2 bT
 refine oA Z Z (eN (sR fL1 Z (oA Z Z (eN (zJ (sR fL3 Z (oM Z Z (oR Z (ZB Z Z ZZ) (oM Z Z (eN (zU (bnK hm fun au bZ cx=>?_))))))))))))
 have q:=wBN bZ
 obtain ⟨aN,ca⟩:=q
 replace aN:=zH aN
 refine CK.forN' (fun ai aj σ_ w_=>∃ (U_:PHeap) (an:Option Addr) (aq:Nat),σ_ 10=jV (↑ai:Int)/\σ_ 0=.slice ak p0.length am/\σ_ 3=.pointer (some ⟨b2,0,none⟩)/\σ_ 5=.slice an aj.length aq/\σ_ 8=.slice ak p0.length am/\σ_ 9=jV (↑p0.length:Int)/\PHeap.Le U U_/\sW w U U_ [.blk b2 35 B0,.row an aq 3 1 (hD KL.encI aj)] w_) ca ?_ ?_ ?_
 have bS:=bT.nilrow 3 1
 exact ⟨U,none,0,rfl,rfl,rfl,rfl,rfl,rfl,(zM _),(bS.pick [1,0] _ (by decide) rfl)⟩
 rintro ai aj dd de cM aM ⟨ap,an,aq,aJ,bv,bw,bx,aZ,a7,bj,be⟩ cD
 have aW:Hid ((↑ai:Int) < (↑p0.length:Int)):=zH (wBG aM)
 replace aM:=zH aM
 have cb:Hid (w64 ((↑ai:Int) + 1)=(↑(ai + 1):Int)):=zH (by have h1:=aN.out;have h2:=aW.out;rw [wAY] <;> omega)
 refine sR fL1 Z (oR Z (zO Z aJ a7) (eN (zJ (cT Z aW (kN (zJ (zU (sR gAv Z (bnK cD fun af ba cy=>?_)))))))))
 have bG:=bi.le bj
 have q:=bG.el (fun _=>rfl) (wAr ba)
 obtain ⟨cO,cW,bJ,bK⟩:=q
 refine oR Z (Zb Z aZ bJ aJ ZZ Zh (wCz ba)) (oL Z (be.ldCA (f:=0) bK Z Z Try.isAgg29 Zh (us:=[jV af.Bib,jV af.Time]) Z Z) (zY (cs:=[jV 0,jV 0]) Z Z Z Z Z Try.zeroValue29 Z be ?_))
 intro cN aF bU
 let B1:List Value:=[jV af.Bib,jV af.Time]
 refine za (j:=0) (vs:=B1) Z Z Z Z bU Z Z Z Z Zh (zA Z) Z Z Z ?_
 intro bo bV
 let B2:Res:=.row an aq 3 1 (hD KL.encI aj)
 have bf:sW w U ap [.blk aF 29 B1,.blk b2 35 B0,B2] bo:=bV
 refine eN (rR (wDt (.fx 3 (.fx 4 (.fl 5 .nil) .stop) .stop)) Z (oM Z bx (oR Z (zI Z Z Zv Z zC) (oL Z (bf.ldB (j:=0) Z Z Z zE (v:=jV af.Bib) Z) (ZF (pv:=[(0,jV af.Bib)]) (zs:=[jV 0]) (cs:=[jV af.Bib]) Z Z Z Z Z (wAC Z wAR) zD zC ZN Z Z Z Z Z bf ?_)))))
 intro bp bt bW
 let B3:Res:=.row (some ⟨bt,0,none⟩) 1 3 1 (hD KL.encI [af.Bib])
 have bg:sW w U ap [B3,.blk aF 29 B1,.blk b2 35 B0,B2] bp:=bW
 refine bnK cy fun bk bH cz=>Zy (j:=3) (enc:=KL.encI) (xs:=aj) (ys:=[af.Bib]) (zs:=bk) rfl rfl rfl rfl rfl Try.underlying41 wIw rfl rfl rfl rfl rfl rfl bg rfl rfl rfl (bg.srcR (j:=0) rfl (by decide) (wAG (f:=KL.encI) (sz:=1) (fun _=>rfl) [af.Bib])) (fun _=>rfl) (fun _=>rfl) bH rfl ?_
 intro aO aX bq bX
 have bY:sW w U ap [B3,.blk aF 29 B1,.blk b2 35 B0,.row aO aX 3 1 (hD KL.encI bk)] bq:=bX
 refine oA Z Z (zW (zd (zF (rR fL2 Z (oR Z (ZJ (zR Z aJ Z) (congrArg (jV) cb.out)) (oM Z Z (zW ?_)))))))
 cases cz
 exact zF ⟨rfl,⟨ap,aO,aX,rfl,bv,bw,rfl,aZ,a7,bj,(bY.pick [2,3] _ (by decide) rfl)⟩⟩
 rintro df br ⟨az,aP,aY,bB,a8,a9,bz,cP,bA,cE,bh⟩
 have bu:Hid (¬ ((↑(((↑p0.length:Int):Int) - 0).toNat:Int) < (↑p0.length:Int))):=zH (wAp)
 refine sR fL1 Z (oR Z (zO Z bB bA) (eN (zJ (cF Z bu (ZM (zc (zc (ZC (zF (zJ (zU (sR fL4 Z (oM Z a8 (oR Z (ZB Z Z ZZ) (oR Z (Zz Z Z Z) (oA Z Z (eN (ifc cx ?_ ?_))))))))))))))))))
 intro aI cA
 refine cT Z aI (sR fL1 Z (oA Z Z (eN (zT (zV (zP ?_))))))
 cases cA
 exact ⟨rfl,_,(ZK rfl),az,_,(bh.pick [] _ (by decide) rfl),rfl,rfl⟩
 intro aI cB
 refine cF Z aI (sR (.fl 0 (.fx 1 (wMQ (.fx 6 (wMV (.fx 12 (wLW (.nil)) .stop)) .stop)) .stop)) Z (oM Z a8 ?_))
 have bI:=bi.le cE
 have bL:FnOK Try.prog az (.func (.func 38) #[] #[]) ar97 rr97 wBC:=⟨38,[],[],rfl,Try.call38,fun U1 w1 x y vs le hs ha hm=>by obtain rfl:=ha;exact wEg x w1 U1 hs  hm⟩
 refine bnK cB fun c8 bC cc=>zL 0 Z Z Z Z (zK Z Z Try.call37 (zB Z (zB Z zQ)) Z) bh (fun hs=>wDY p0 ak am wBC (.func (.func 38) #[] #[]) br az hs bI bL bC) (.inr Z) ?_
 rintro aw cH cX aU cQ bM ⟨rfl,rfl⟩
 let B4:Res:=.row aP aY 3 1 (hD KL.encI au)
 have aK:sW w U aw [.blk b2 35 B0,B4] aU:=bM
 refine oR Z (ZV Z Z) (oM Z Z (ifc cc ?_ ?_))
 intro O cd
 refine zb Z Z Z (zS Z Z (nC O.out)) (fun _=>zI Z a9 Try.runUnderlying35 Z zC) (zt Z Z Z (zS Z Z (nC O.out)) (aK.ldB (j:=0) Z Z Z zE (v:=jV p1.Unit) Z) Z (bnK cd fun c9 bD ci=>zL 0 Z Z Z (zS Z Z (nC O.out)) (zK Z Z Try.call39 (zB Z (zB Z (zB Z zQ))) Z) aK (fun hs=>wDv p1.Unit 1 600 aU aw hs bD) (.inr Z) ?_))
 rintro ax cI cY aV cR bN ⟨rfl,rfl⟩
 have aL:sW w U ax [.blk b2 35 B0,B4] aV:=bN
 refine zb Z Z Z (zS Z Z (nC O.out)) (fun _=>ZV Z Z) (oR Z (zm Z (nC O.out) Z) (oM Z Z (ifc ci ?_ ?_)))
 intro aa cj
 refine zb Z Z Z (zS Z Z (nC aa.out)) (fun _=>zI Z a9 Try.runUnderlying35 Z zC) (zt Z Z Z (zS Z Z (nC aa.out)) (aL.ldB (j:=0) Z Z Z zE (v:=jV p1.Limit) Z) Z (bnK cj fun da bE cm=>zL 0 Z Z Z (zS Z Z (nC aa.out)) (zK Z Z Try.call39 (zB Z (zB Z (zB Z zQ))) Z) aL (fun hs=>wDv p1.Limit 0 360000 aV ax hs bE) (.inr Z) ?_))
 rintro aS cJ cZ aE cS bO ⟨rfl,rfl⟩
 have bb:sW w U aS [.blk b2 35 B0,B4] aE:=bO
 refine zb Z Z Z (zS Z Z (nC aa.out)) (fun _=>ZV Z Z) (oR Z (zm Z (nC aa.out) Z) (oA Z Z (eN (ifc cm ?_ ?_))))
 intro aG co
 refine zl (nC aG.out) (sR gAn Z (oM Z bz ?_))
 have q:=bb.freezeR (k:=1) (n:=au.length) rfl (wAG (f:=KL.encI) (sz:=1) (fun _=>rfl) au) (by decide)
 obtain ⟨aT,cU,cC,bP⟩:=q
 have bQ:sW w U aT [.blk b2 35 B0] aE:=bP
 refine bnK co fun db bF cp=>zL 0 Z Z Z Z (zK Z Z Try.call40 (zB Z zQ) Z) bQ (fun hs=>wGF au aP aY aE aT hs cC bF) (.inr Z) ?_
 rintro ay cK c6 bn cV bR ⟨rfl,rfl⟩
 have bc:sW w U ay [.blk b2 35 B0] bn:=bR
 refine oA Z Z (eN (ifc cp ?_ ?_))
 intro aH cq
 refine ZA (congrArg hJ aH.out) (sR fL1 Z (oA Z Z (eN (zT (zV (zP ?_))))))
 cases cq
 exact ⟨rfl,_,(ZK rfl),ay,_,(bc.pick [] _ (by decide) rfl),rfl,rfl⟩
 intro aH cr
 refine zl (congrArg hJ (nA.2 aH.out)) (ZL (zd (zF (sR fL1 Z (oA Z Z (eN (zT ?_)))))))
 cases cr
 exact ⟨rfl,_,(ZK rfl),ay,_,(bc.pick [] _ (by decide) rfl),rfl,rfl⟩
 intro aG ct
 refine ZA (nF (aG.out)) (sR fL1 Z (oA Z Z (eN (zT (zV (zP ?_))))))
 cases ct
 exact ⟨rfl,_,(ZK rfl),aS,_,(bb.pick [] _ (by decide) rfl),rfl,rfl⟩
 intro aa cu
 refine Zj Z Z Z (ZR Z Z (nF (aa.out)) Z) (Zj Z Z Z (ZR Z Z (nF (aa.out)) Z) (OKS.px Z Z Z (ZR Z Z (nF (aa.out)) Z) (Zj Z Z Z (ZR Z Z (nF (aa.out)) Z) (oR Z (zk Z (nF (aa.out)) Z) (oA Z Z (eN (ZA Z (sR fL1 Z (oA Z Z (eN (zT (zV (zP ?_)))))))))))))
 cases cu
 exact ⟨rfl,_,(ZK rfl),ax,_,(aL.pick [] _ (by decide) rfl),rfl,rfl⟩
 intro O cw
 refine Zj Z Z Z (ZR Z Z (nF (O.out)) Z) (Zj Z Z Z (ZR Z Z (nF (O.out)) Z) (OKS.px Z Z Z (ZR Z Z (nF (O.out)) Z) (Zj Z Z Z (ZR Z Z (nF (O.out)) Z) (oR Z (zk Z (nF (O.out)) Z) (oM Z Z (oN Z (oN Z (OKS.px Z Z Z (ZR Z Z Z Z) (oN Z (oR Z (zk Z Z Z) (oA Z Z (eN (ZA Z (sR fL1 Z (oA Z Z (eN (zT (zV (zP ?_)))))))))))))))))))
 cases cw
 exact ⟨rfl,_,(ZK rfl),aw,_,(aK.pick [] _ (by decide) rfl),rfl,rfl⟩
theorem wEx (O:List wAI) (af:Option Addr) (ag:Nat) (p1:wAX) (w:World) (U:PHeap) (hS:St0 w U []) (aI:Sl U 2 af ag O.length (hD wAb O)) {r:(List Int) × Int} (hm:wBo O p1=some r):Gv Try.prog 13 [.slice af O.length ag,.agg #[jV p1.Unit,jV p1.Limit]] w (wBz w [] U (fun U_ L_ v=>∃ (A0:Option Addr) (c0:Nat),v=.tuple #[.slice A0 r.1.length c0,jV r.2]/\L_=[.row A0 c0 3 1 (hD KL.encI r.1)])):=by
 unfold wBo at hm
 refine Gv.of Try.func13 Z Try.ntmps13 Try.results13 Z (sR (.fx 0 gAa .stop) Z ?_)
 let B0:List Value:=[jV p1.Unit,jV p1.Limit]
 refine ZD (cs:=B0) rfl rfl rfl rfl rfl rfl (by rfl) hS ?_
 intro W1 b2 bh
 refine oA Z Z (oA Z Z (eN (zJ (sR gAu Z (oM Z Z (oL Z (bh.ldBA (j:=0) Z Z Z Try.isAgg35 Try.sizeOf35 (vs:=B0) Z Z) (bnK hm fun x5 h6 cL=>zL 0 Z Z Z Z (zK Z Z Try.call27 (zB Z (zB Z zQ)) Z) bh (fun hs=>wFO O af ag p1 W1 U hs aI h6) (.inr Z) ?_)))))))
 rintro U8 L9 dg bu bm cd ⟨rfl,rfl⟩
 have bf:sW w U U8 [.blk b2 35 B0] bu:=cd
 refine oA Z Z (eN (sR fL2 Z (oM Z Z (oR Z (Zo Z Z Z) (eN (ifc cL ?_ ?_))))))
 intro aE cH
 refine zl (zy (fun h=>h aE.out)) (kN (sR fL1 Z (oA Z Z (eN (zJ (sR fL3 Z (oM Z Z (oR Z (ZB Z Z ZZ) (oM Z Z (eN (zU (bnK cH fun ai cx cJ=>?_))))))))))))
 have q:=wBN cx
 obtain ⟨aL,cy⟩:=q
 replace aL:=zH aL
 refine CK.forN' (fun aj bp σ_ w_=>∃ (U_:PHeap),σ_ 22=jV (↑aj:Int)/\σ_ 0=.slice af O.length ag/\σ_ 3=.pointer (some ⟨b2,0,none⟩)/\σ_ 7=jV bp/\σ_ 20=.slice af O.length ag/\σ_ 21=jV (↑O.length:Int)/\PHeap.Le U8 U_/\sW w U U_ [.blk b2 35 B0] w_) cy ?_ ?_ ?_
 exact ⟨U8,Z,Z,Z,Z,Z,Z,(zM _),bf⟩
 rintro aj bp dk dp cW aK ⟨aS,aH,bH,bI,bJ,a8,a9,bn,bi⟩ cO
 have aX:Hid ((↑aj:Int) < (↑O.length:Int)):=zH (wBG aK)
 replace aK:=zH aK
 have cC:Hid (w64 ((↑aj:Int) + 1)=(↑(aj + 1):Int)):=zH (by have h1:=aL.out;have h2:=aX.out;rw [wAY] <;> omega)
 refine sR fL1 Z (oR Z (zO Z aH a9) (eN (zJ (cT Z aX (kN (zJ (zU (sR gAv Z (bnK cO fun ao bb cK=>?_)))))))))
 have bV:=aI.le bm
 have bW:=bV.le bn
 have q:=bW.el (fun _=>rfl) (wAr bb)
 obtain ⟨c6,df,bZ,cb⟩:=q
 refine oR Z (Zb Z a8 bZ aH ZZ Zh (wCz bb)) (oL Z (bi.ldCA (f:=0) cb Z Z Try.isAgg29 Zh (us:=[jV ao.Bib,jV ao.Time]) Z Z) (zY (cs:=[jV 0,jV 0]) Z Z Z Z Z Try.zeroValue29 Z bi ?_))
 intro cX bA ct
 let B1:List Value:=[jV ao.Bib,jV ao.Time]
 refine za (j:=0) (vs:=B1) Z Z Z Z ct Z Z Z Z Zh (zA Z) Z Z Z ?_
 intro bx cu
 have bj:sW w U aS [.blk bA 29 B1,.blk b2 35 B0] bx:=cu
 refine eN (rR fL5 Z (oM Z bJ (oR Z (zI Z Z Zv Z zC) (oL Z (bj.ldB (j:=0) Z Z Z zE (v:=jV ao.Time) Z) (oR Z (Runs.min Z Z Z) (oA Z Z (zW (zd (zF (rR fL2 Z (oR Z (ZJ (zR Z aH Z) (congrArg (jV) cC.out)) (oM Z Z (zW ?_)))))))))))))
 cases cK
 exact zF ⟨rfl,⟨aS,rfl,bH,bI,rfl,a8,a9,bn,(bj.pick [1] _ (by decide) rfl)⟩⟩
 rintro dq cY ⟨aT,bP,bK,bL,bM,db,bN,cP,cw⟩
 have bD:Hid (¬ ((↑(((↑O.length:Int):Int) - 0).toNat:Int) < (↑O.length:Int))):=zH (wAp)
 refine sR fL1 Z (oR Z (zO Z bP bN) (eN (zJ (cF Z bD (ZM (zc (zc (ZC (zF (sR fL1 Z (oA Z Z (eN (zJ (sR fL3 Z (oM Z bK (oR Z (ZB Z Z ZZ) (oM Z Z (eN (zU (bnK cJ fun dl cz cM=>?_))))))))))))))))))))
 have q:=wBN cz
 obtain ⟨aM,cA⟩:=q
 replace aM:=zH aM
 refine CK.forN' (fun ak am σ_ w_=>∃ (U_:PHeap) (ap:Option Addr) (aw:Nat),σ_ 33=jV (↑ak:Int)/\σ_ 3=.pointer (some ⟨b2,0,none⟩)/\σ_ 7=jV ai/\σ_ 10=.slice ap am.length aw/\σ_ 31=.slice af O.length ag/\σ_ 32=jV (↑O.length:Int)/\PHeap.Le aT U_/\sW w U U_ [.blk b2 35 B0,.row ap aw 3 1 (hD KL.encI am)] w_) cA ?_ ?_ ?_
 have cc:=cw.nilrow 3 1
 exact ⟨aT,none,0,rfl,bL,bM,rfl,rfl,rfl,(zM _),(cc.pick [1,0] _ (by decide) rfl)⟩
 rintro ak am di dm cR aJ ⟨au,ap,aw,aG,aF,aY,bE,aZ,a7,bk,bc⟩ cN
 have aV:Hid ((↑ak:Int) < (↑O.length:Int)):=zH (wBG aJ)
 replace aJ:=zH aJ
 have cB:Hid (w64 ((↑ak:Int) + 1)=(↑(ak + 1):Int)):=zH (by have h1:=aM.out;have h2:=aV.out;rw [wAY] <;> omega)
 refine sR fL1 Z (oR Z (zO Z aG a7) (eN (zJ (cT Z aV (kN (zJ (zU (sR gAv Z (bnK cN fun ab ba cD=>?_)))))))))
 have bQ:=aI.le bm
 have bR:=bQ.le cP
 have bS:=bR.le bk
 have q:=bS.el (fun _=>rfl) (wAr ba)
 obtain ⟨cZ,de,bY,ca⟩:=q
 refine oR Z (Zb Z aZ bY aG ZZ Zh (wCz ba)) (oL Z (bc.ldCA (f:=0) ca Z Z Try.isAgg29 Zh (us:=[jV ab.Bib,jV ab.Time]) Z Z) (zY (cs:=[jV 0,jV 0]) Z Z Z Z Z Try.zeroValue29 Z bc ?_))
 intro cS az ci
 let B2:List Value:=[jV ab.Bib,jV ab.Time]
 refine za (j:=0) (vs:=B2) Z Z Z Z ci Z Z Z Z Zh (zA Z) Z Z Z ?_
 intro ay cj
 let B3:Res:=.row ap aw 3 1 (hD KL.encI am)
 have be:sW w U au [.blk az 29 B2,.blk b2 35 B0,B3] ay:=cj
 refine eN (sR fL5 rfl (zb rfl rfl rfl rfl (fun _=>zI rfl rfl Zv rfl zC) (zt rfl rfl rfl rfl (be.ldB (j:=0) rfl rfl rfl zE (v:=jV ab.Time) rfl) rfl (zN rfl rfl rfl rfl rfl aY (zb rfl rfl rfl rfl (fun _=>Za rfl rfl rfl) (yF rfl rfl rfl rfl rfl rfl (eN (zw zx [3,3,3,3,1,3,3,3,1,3,2,0,3] (wMK (.fx 10 (.fx 11 (.fl 12 .nil) .stop) .stop)) (by kernel_rfl) ?_))))))))
 have ax:=be.drew
 generalize hw_W137:({ ay with drawn:=ay.drawn + 1 }:World)=cU at ax ⊢
 refine oM Z bE (oM Z Z (oM Z Z (oR Z (zI Z aF Try.runUnderlying35 Z zC) (oL Z (ax.ldB (j:=1) Z Z Z zE (v:=jV p1.Unit) Z) (bnK cD fun an bT cE=>oR Z (Runs.rem Z Z Z bT) (oR Z (Za Z Z Z) (oR Z (zI Z aF Try.runUnderlying35 Z zC) (oL Z (ax.ldB (j:=1) Z Z Z zE (v:=jV p1.Limit) Z) (oR Z (Runs.min Z Z Z) (ZF (pv:=[(0,jV (min (w64 ((w64 (ab.Time - ai)) - an)) p1.Limit))]) (zs:=[jV 0]) (cs:=[jV (min (w64 ((w64 (ab.Time - ai)) - an)) p1.Limit)]) Z Z Z Z Z (wAC Z wAR) zD zC ZN Z Z Z Z Z ax ?_))))))))))
 intro bv bz cm
 let B4:Res:=.row (some ⟨bz,0,none⟩) 1 3 1 (hD KL.encI [min (w64 ((w64 (ab.Time - ai)) - an)) p1.Limit])
 have bg:sW w U au [B4,.blk az 29 B2,.blk b2 35 B0,B3] bv:=cm
 refine bnK cE fun bo bU cG=>Zy (j:=3) (enc:=KL.encI) (xs:=am) (ys:=[min (w64 ((w64 (ab.Time - ai)) - an)) p1.Limit]) (zs:=bo) rfl rfl rfl rfl rfl Try.underlying41 wIw rfl rfl rfl rfl rfl rfl bg rfl rfl rfl (bg.srcR (j:=0) rfl (by decide) (wAG (f:=KL.encI) (sz:=1) (fun _=>rfl) [min (w64 ((w64 (ab.Time - ai)) - an)) p1.Limit])) (fun _=>rfl) (fun _=>rfl) bU rfl ?_
 intro aO aW bw co
 have cp:sW w U au [B4,.blk az 29 B2,.blk b2 35 B0,.row aO aW 3 1 (hD KL.encI bo)] bw:=co
 refine oA Z Z (zW (zd (zF (rR fL2 Z (oR Z (ZJ (zR Z aG Z) (congrArg (jV) cB.out)) (oM Z Z (zW ?_)))))))
 cases cG
 exact zF ⟨rfl,⟨au,aO,aW,rfl,aF,aY,rfl,aZ,a7,bk,(cp.pick [2,3] _ (by decide) rfl)⟩⟩
 rintro dn cV ⟨br,bq,bB,bO,c8,c9,bF,da,bG,dd,cq⟩
 have bC:Hid (¬ ((↑(((↑O.length:Int):Int) - 0).toNat:Int) < (↑O.length:Int))):=zH (wAp)
 refine sR fL1 Z (oR Z (zO Z bO bG) (eN (zJ (cF Z bC (ZM (zc (zc (ZC (zF (sR fL3 Z (oM Z bF (oA Z Z (oA Z Z (eN (zT ?_)))))))))))))))
 cases cM
 exact ⟨rfl,_,(wEz rfl rfl),br,_,(cq.pick [1] _ (by decide) rfl),bq,bB,rfl,rfl⟩
 intro aE cI
 refine cT Z aE (sR fL3 Z (oM Z Z (oA Z Z (oA Z Z (eN (zT (zP ?_)))))))
 have cr:=bf.nilrow 3 1
 cases cI
 exact ⟨rfl,_,(wEz rfl rfl),U8,_,(cr.pick [0] _ (by decide) rfl),none,0,rfl,rfl⟩
end Go.Proofs.Ytkedcbligiebkaa
namespace Go.Proofs.Ytkedcbligiebkaa
open Go.KL
set_option maxHeartbeats 4000000
theorem wDp (O:Int) (w:World) (U:PHeap) (hS:St0 w U [])  {r:Bool} (hm:wCC O=some r):Gv Try.prog 29 [jV O] w (wBz w [] U (fun U_ L_ v=>v=.bool r/\L_=[])):=by
 unfold wCC at hm
 refine Gv.of Try.func29 Z Try.ntmps29 Try.results29 Z (sR fL1 Z (oA Z Z (eN (sR fL4 Z (oM Z Z (oM Z Z (oR Z (Zo Z Z Z) (oA Z Z (eN (zT ?_))))))))))
 first | (obtain rfl:=hH hm) | cases hm
 exact ⟨Z,_,(ZK Z),U,_,hS,Z,Z⟩
theorem wDZ (p0:Int) (p1:Int) (w:World) (U:PHeap) (hS:St0 w U [])  {r:Int} (hm:wBS p0 p1=some r):Gv Try.prog 17 [jV p0,jV p1] w (wBz w [] U (fun U_ L_ v=>v=jV r/\L_=[])):=by
 unfold wBS at hm
 refine Gv.of Try.func17 Z Try.ntmps17 Try.results17 Z (sR fL1 Z (oA Z Z (eN (sR gAn Z (oM Z Z (bnK hm fun x1 h2 aH=>zL 0 Z Z Z Z (zK Z Z Try.call29 (zB Z zQ) Z) hS (fun hs=>wDp p0 w U hs h2) (.inr Z) ?_))))))
 rintro U4 L5 v6 W7 aP av ⟨rfl,rfl⟩
 have aq:sW w U U4 [] W7:=av
 refine oA Z Z (eN (sR gAn Z (oM Z Z (bnK aH fun aT ao aw=>zL 0 Z Z Z Z (zK Z Z Try.call29 (zB Z zQ) Z) aq (fun hs=>wDp p1 W7 U4 hs ao) (.inr Z) ?_))))
 rintro O aM aQ an aO au ⟨rfl,rfl⟩
 have aa:sW w U O [] an:=au
 refine oA Z Z (eN (zJ (sR fL1 Z (oM Z Z (eN (ifc aw ?_ ?_))))))
 intro ab ax
 refine ZA (congrArg hJ ab.out) (zJ (sR fL1 Z (oM Z Z (eN (ifc ax ?_ ?_)))))
 intro ac ay
 refine ZA (congrArg hJ ac.out) (sR fL1 Z (oA Z Z (eN (zT (zP (zP ?_))))))
 cases ay
 exact ⟨Z,_,(ZK Z),O,_,aa,Z,Z⟩
 intro ac az
 refine zl (congrArg hJ (nA.2 ac.out)) (kN (sR fL1 Z (oA Z Z (eN (zT (zP ?_))))))
 cases az
 exact ⟨Z,_,(ZK Z),O,_,aa,Z,Z⟩
 intro ab aE
 refine zl (congrArg hJ (nA.2 ab.out)) (kN (zJ (sR fL1 Z (oM Z Z (eN (ifc aE ?_ ?_))))))
 intro ae aF
 refine ZA (congrArg hJ ae.out) (sR fL1 Z (oA Z Z (eN (zT (zP ?_)))))
 cases aF
 exact ⟨Z,_,(ZK Z),O,_,aa,Z,Z⟩
 intro ae aG
 refine zl (congrArg hJ (nA.2 ae.out)) (kN (zJ (sR fL3 Z (oM Z Z (oM Z Z (oR Z (zO Z Z Z) (eN (ifc aG ?_ ?_))))))))
 intro af aI
 refine cT Z af (sR fL1 Z (oA Z Z (eN (zT (zP ?_)))))
 cases aI
 exact ⟨Z,_,(ZK Z),O,_,aa,Z,Z⟩
 intro af aJ
 refine cF Z af (kN (zJ (sR fL3 Z (oM Z Z (oM Z Z (oR Z (Zz Z Z Z) (eN (ifc aJ ?_ ?_))))))))
 intro ag aK
 refine cT Z ag (sR fL1 Z (oA Z Z (eN (zT (zP ?_)))))
 cases aK
 exact ⟨Z,_,(ZK Z),O,_,aa,Z,Z⟩
 intro ag aL
 refine cF Z ag (kN (sR fL1 Z (oA Z Z (eN (zT ?_)))))
 cases aL
 exact ⟨Z,_,(ZK Z),O,_,aa,Z,Z⟩
theorem wGh (O:List Int) (aj:Option Addr) (ak:Nat) (w:World) (U:PHeap) (hS:St0 w U []) (aM:Sl U 1 aj ak O.length (hD KL.encI O)) {r:Int} (hm:wDA O=some r):Gv Try.prog 16 [.slice aj O.length ak] w (wBz w [] U (fun U_ L_ v=>v=jV r/\L_=[])):=by
 unfold wDA at hm
 refine Gv.of Try.func16 Z Try.ntmps16 Try.results16 Z (sR fL1 Z (oA Z Z (eN (sR fL1 Z (oA Z Z (eN (zJ (sR fL3 Z (oM Z Z (oR Z (ZB Z Z zD) (oM Z Z (eN (zU ?_)))))))))))))
 have q:=wBx hm
 obtain ⟨r3,af⟩:=q
 have q:=wBw af
 obtain ⟨ai,aP⟩:=q
 replace ai:=zH ai
 refine yE (fun k2 _ σ_ w_=>∃ (U_:PHeap),σ_ 8=jV (↑k2:Int)/\σ_ 3=jV 0/\σ_ 6=.slice aj O.length ak/\σ_ 7=jV (↑O.length:Int)/\PHeap.Le U U_/\sW w U U_ [] w_) aP ?_ ?_ ?_
 exact ⟨U,Z,Z,Z,Z,(zM _),hS⟩
 rintro k2 ⟨⟩ bb be W8 ag ⟨am,ac,ao,ap,aq,ax,ae⟩ aw aN
 try dsimp only at aw
 have an:Hid ((↑k2:Int) < (↑O.length:Int)):=zH (wBG ag)
 replace ag:=zH ag
 have aQ:Hid (w64 ((↑k2:Int) + 1)=(↑(k2 + 1):Int)):=zH (by have h1:=ai.out;have h2:=an.out;rw [wAY] <;> omega)
 refine sR fL1 Z (oR Z (zO Z ac aq) (eN (zJ (cT Z an (kN (zJ (zU (sR fL3 Z (bnK aw fun aW au aR=>?_)))))))))
 have aI:=aM.le ax
 have q:=aI.el (fun _=>rfl) (wAr au)
 obtain ⟨aZ,a9,aJ,aK⟩:=q
 refine oR Z (Zb Z ap aJ ac zD zC (wCz au)) (oL Z (ae.ldC (f:=0) aK (v:=jV aW) Z Z zE Z) (oA Z Z (eN (sR fL3 Z (oM Z Z (oM Z ao (oR Z (Zo Z Z Z) (eN (ifc aR ?_ ?_)))))))))
 intro ab aS
 refine zl (zy (fun h=>h ab.out)) (ZL (zd (zF (rR fL2 Z (oR Z (ZJ (zR Z ac Z) (congrArg (jV) aQ.out)) (oM Z Z (zW ?_)))))))
 have q:=hH aS
 obtain rfl:=q
 exact zF ⟨Z,_,Z,⟨am,Z,ao,ap,aq,ax,ae⟩⟩
 intro ab aT
 refine cT Z ab (sR fL2 Z (oM Z Z (oA Z Z (eN (zT (zV (zP ?_)))))))
 have q:=wAV aT
 obtain ⟨aV,aU,aE⟩:=q
 have q:=wBA hm af (aN aV aE)
 obtain rfl:=q
 refine zP (zV (zP ?_))
 have hE:=hH aU;first | subst r | cases hE
 exact ⟨Z,_,(ZK Z),am,_,ae,Z,Z⟩
 rintro ⟨⟩ bc aX ⟨ay,aH,aF,a7,aG,a8,aL⟩ aO
 have av:=wCl hm af aO
 try dsimp only at av
 have az:Hid (¬ ((↑(((↑O.length:Int):Int) - 0).toNat:Int) < (↑O.length:Int))):=zH (wAp)
 refine sR fL1 Z (oR Z (zO Z aH aG) (eN (zJ (cF Z az (ZM (zc (zc (ZC (zF (sR fL2 Z (oM Z aF (oA Z Z (eN (zT ?_))))))))))))))
 cases av
 exact ⟨Z,_,(ZK Z),ay,_,aL,Z,Z⟩
theorem wEh (p0:Int) (p1:Int) (p2:List Int) (aJ:Nat) (af:Option Addr) (ai:Nat) (p3:List wAI) (aK:Nat) (ag:Option Addr) (aj:Nat) (w:World) (U:PHeap) (hS:St0 w U []) (az:Cl U aJ 0 [.slice af p2.length ai]) (aE:Sl U 1 af ai p2.length (hD KL.encI p2)) (aF:Cl U aK 0 [.slice ag p3.length aj]) (aG:Sl U 2 ag aj p3.length (hD wAb p3)) {r:Int} (hm:wBD p0 p1 p2 p3=some r):Gv Try.prog 15 [jV p0,jV p1,.pointer (some ⟨aJ,0,none⟩),.pointer (some ⟨aK,0,none⟩)] w (wBz w [] U (fun U_ L_ v=>v=jV r/\L_=[])):=by
 unfold wBD at hm
 refine Gv.of Try.func15 rfl Try.ntmps15 Try.results15 rfl (sR fL1 rfl (yF rfl rfl rfl rfl rfl rfl (eN (zJ (zw zx [1,3,3,1,1,3,3,1,2,1,3,3,3,1,1,3,3,3,1,2,2,2,3] (fC0_7 (wMZ (.fx 8 (.fx 19 (.fx 20 (.fx 21 (.fl 22 .nil) .stop) .stop) .stop) .stop))) (by kernel_rfl) ?_)))))
 have O:=hS.drew
 generalize hw_W2:({ w with drawn:=w.drawn + 1 }:World)=W2 at O ⊢
 refine oL Z (O.ldC (f:=0) az (v:=.slice af p2.length ai) Z Z ZI Z) (oM Z Z (bnK hm fun x3 h4 br=>?_))
 have q:=aE.el (fun _=>rfl) (wAr h4)
 obtain ⟨b6,bK,aY,a9⟩:=q
 refine oR Z (zr Z Z aY Z zD zC (wCS h4) (wCY h4)) (oL Z (O.ldC (f:=0) a9 (v:=jV x3) Z Z zE Z) (oL Z (O.ldC (f:=0) az (v:=.slice af p2.length ai) Z Z ZI Z) (oM Z Z (bnK br fun aL am bm=>?_))))
 have q:=aE.el (fun _=>rfl) (wAr am)
 obtain ⟨bz,bH,aV,aZ⟩:=q
 refine oR Z (zr Z Z aV Z zD zC (wCS am) (wCY am)) (oL Z (O.ldC (f:=0) aZ (v:=jV aL) Z Z zE Z) (oL Z (O.ldC (f:=0) aF (v:=.slice ag p3.length aj) Z Z Try.isAgg25 Z) (oM Z Z (bnK bm fun aM an bn=>?_))))
 have q:=aG.el (fun _=>rfl) (wAr an)
 obtain ⟨bA,bI,aW,a7⟩:=q
 refine oR Z (zr Z Z aW Z ZZ Zh (wCS an) (wCY an)) (oR Z (zI Z Z Zv Z zC) (oL Z (O.ldC (f:=1) a7 (v:=jV aM.Time) Z Z zE Z) (oL Z (O.ldC (f:=0) aF (v:=.slice ag p3.length aj) Z Z Try.isAgg25 Z) (oM Z Z (bnK bn fun aN ao bo=>?_)))))
 have q:=aG.el (fun _=>rfl) (wAr ao)
 obtain ⟨bB,bJ,aX,a8⟩:=q
 refine oR Z (zr Z Z aX Z ZZ Zh (wCS ao) (wCY ao)) (oR Z (zI Z Z Zv Z zC) (oL Z (O.ldC (f:=1) a8 (v:=jV aN.Time) Z Z zE Z) (bnK bo fun ac aS bp=>zL 0 Z Z Z Z (zK Z Z Try.call17 (zB Z (zB Z zQ)) Z) O (fun hs=>wDZ x3 aL W2 U hs aS) (.inr Z) ?_)))
 rintro aq bv bL ax bD ba ⟨rfl,rfl⟩
 have bb:sW w U aq [] ax:=ba
 refine bnK bp fun ae aT bq=>zL 0 Z Z Z Z (zK Z Z Try.call17 (zB Z (zB Z zQ)) Z) bb (fun hs=>wDZ aM.Time aN.Time ax aq hs aT) (.inr Z) ?_
 rintro au bw bM aQ bE bc ⟨rfl,rfl⟩
 have be:sW w U au [] aQ:=bc
 refine ZF (pv:=[(0,jV ac),(1,jV ae)]) (zs:=[jV 0,jV 0]) (cs:=[jV ac,jV ae]) Z Z Z Z Z (wAC Z (wAC Z wAR)) zD zC ZN Z Z Z Z Z be ?_
 intro ak ay bf
 have bg:sW w U au [.row (some ⟨ay,0,none⟩) 2 3 1 (hD KL.encI [ac,ae])] ak:=bf
 have q:=bg.freezeR (k:=0) (n:=[ac,ae].length) rfl (wAG (f:=KL.encI) (sz:=1) (fun _=>rfl) [ac,ae]) (by decide)
 obtain ⟨av,bF,bu,bh⟩:=q
 have bi:sW w U av [] ak:=bh
 refine bnK bq fun bO aU bt=>zL 0 Z Z Z Z (zK Z Z Try.call16 (zB Z zQ) Z) bi (fun hs=>wGh [ac,ae] (some ⟨ay,0,none⟩) 2 ak av hs bu aU) (.inr Z) ?_
 rintro aw bx bN aR bG bj ⟨rfl,rfl⟩
 have bk:sW w U aw [] aR:=bj
 refine oA Z Z (eN (zT ?_))
 have hE:=hH bt;first | subst r | cases hE
 exact ⟨Z,_,(ZK Z),aw,_,bk,Z,Z⟩
theorem wBb (p0:List Int) (ac:Option Addr) (ae:Nat) (p1:Int) (p2:Int) (p3:((Int × Int)->Option Int)) (aG:Value) (w:World) (U:PHeap) (hS:St0 w U [.row ac ae 3 1 (hD KL.encI p0)]) (bw:FnOK Try.prog U aG wKw wKx p3) {r:(List Int)} (hm:wAS p0 p1 p2 p3=some r):Gv Try.prog 41 [.slice ac p0.length ae,jV p1,jV p2,aG] w (wBz w [.row ac ae 3 1 (hD KL.encI p0)] U (fun U_ L_ v=>v=.tuple #[]/\L_=[.row ac ae 3 1 (hD KL.encI r)]/\r.length=p0.length)):=by
 unfold wAS at hm
 refine Gv.of Try.func41 Z Try.ntmps41 Try.results41 Z (sR fL3 Z (oM Z Z (oR Z (zR Z Z Z) (oA Z Z (eN (zU ?_))))))
 let B0:Res:=.row ac ae 3 1 (hD KL.encI p0)
 refine yU (fun (l8,x9) σ_ w_=>∃ (U_:PHeap),σ_ 0=.slice ac l8.length ae/\σ_ 1=jV p1/\σ_ 2=jV p2/\σ_ 3=aG/\σ_ 8=jV x9/\PHeap.Le U U_/\SW w [B0] U U_ [.row ac ae 3 1 (hD KL.encI l8)] w_/\l8.length=p0.length) hm ?_ ?_
 exact ⟨U,Z,Z,Z,Z,Z,(zM _),hS,Z⟩
 rintro ⟨l8,x9⟩ bY ca bS ⟨aI,bi,bj,aT,bk,aL,aR,aV,aU⟩ aP bx
 try dsimp only at aP
 refine zJ (sR fL3 Z (oM Z aL (oM Z aT (oR Z (zO Z Z Z) (eN ?_)))))
 by_cases aj:x9 < p2
 have a7:=aP;rw [if_pos aj] at a7;replace aj:=zH aj
 refine cT Z aj (kN (zJ (zU (sR fL2 Z (oM Z aL (oA Z Z (eN (zU (yU (fun (O,ab) σ_ w_=>∃ (U_:PHeap),σ_ 0=.slice ac O.length ae/\σ_ 1=jV p1/\σ_ 2=jV p2/\σ_ 3=aG/\σ_ 8=jV x9/\σ_ 9=jV ab/\PHeap.Le aI U_/\SW w [B0] U U_ [.row ac ae 3 1 (hD KL.encI O)] w_/\O.length=p0.length) a7 ?_ ?_)))))))))
 exact ⟨aI,bi,bj,aT,bk,aL,Z,(zM _),aV,aU⟩
 rintro ⟨O,ab⟩ bZ cb aS ⟨bb,ai,ax,aM,ay,aN,ak,aF,bp,aO⟩ aQ aX
 try dsimp only at aQ
 refine zJ (zJ (zw zx [3,3,3,3,3,3,3,3,1,3,3,3,3,1,2,3,3] (wML gAo) (by kernel_rfl) ?_))
 have ao:=bp.drew
 generalize hw_W54:({ aS with drawn:=aS.drawn + 1 }:World)=bT at ao ⊢
 refine oM Z ak (oM Z ax (oR Z (Zz Z Z Z) (oM Z Z ?_)))
 by_cases aa:p1 < ab
 have a8:=aQ;rw [if_pos aa] at a8;replace aa:=zH aa
 refine zN Z Z Z (wT Z aa) Z ay (zN Z Z Z (wT Z aa) Z ai (zN Z Z Z (wT Z aa) Z ak (bnK a8 fun _ ag bH=>?_)))
 obtain ⟨bV,af⟩:=ao.rowSome (j:=0) rfl (by rw [wAG (f:=KL.encI) (sz:=1) (fun _=>rfl) O];have hz:=wAM ag;omega)
 refine rU Z (wT Z aa) (zr Z Z af Z zD zC (wAn ag) (wAo ag)) ?_
 have bz:=wAk (xs:=O) (wAM ag)
 refine zt rfl rfl rfl (zS rfl rfl (ZW aa.out)) (ao.ldR (j:=0) rfl af rfl rfl zE (wAO (sz:=1) (fun _=>rfl) _ _ 0 _ bz (by first | omega | rfl | simp) rfl)) rfl (zN rfl rfl rfl (zS rfl rfl (ZW aa.out)) rfl ai (zN rfl rfl rfl (zS rfl rfl (ZW aa.out)) rfl ak (zb rfl rfl rfl (zS rfl rfl (ZW aa.out)) (fun _=>Za rfl rfl rfl) (bnK bH fun _ an bI=>zb rfl rfl rfl (zS rfl rfl (ZW aa.out)) (fun _=>zr rfl rfl af rfl zD zC (wAn an) (wAo an)) ?_))))
 have bA:=wAk (xs:=O) (wAM an)
 refine zt rfl rfl rfl (zS rfl rfl (ZW aa.out)) (ao.ldR (j:=0) rfl af rfl rfl zE (wAO (sz:=1) (fun _=>rfl) _ _ 0 _ bA (by first | omega | rfl | simp) rfl)) rfl (bnK bI fun bX bm bJ=>?_)
 have bn:=bw.le aR
 have bo:=bn.le aF
 refine yI (a:=((gd O ab.toNat),(gd O (w64 (ab - 1)).toNat))) Z Z Z (wT Z aa) Z Z (zB Z (zB Z zQ)) ao bo Z bm ?_
 rintro aq bR bW aJ a9 bq ⟨rfl,rfl⟩
 have aW:SW w [B0] U aq [.row ac ae 3 1 (hD KL.encI O)] aJ:=bq
 refine rU Z (wT Z aa) (zO Z Z Z) (oR Z (zk Z (ZW aa.out) Z) (eN (ifc bJ ?_ ?_)))
 intro aK bK
 refine cT Z aK (kN (zJ (zU (zw zx [3,3,3,3,3,3,3,3,3,1,3,3,3,1,3,0,3,0] (wIF gAp) (by kernel_rfl) ?_))))
 have az:=aW.drew
 generalize hw_W80:({ aJ with drawn:=aJ.drawn + 1 }:World)=bU at az ⊢
 refine oM Z ai (oM Z ak (oM Z ai (oM Z ak (oR Z (Za Z Z Z) (oM Z ai (oM Z ak (oR Z (Za Z Z Z) (oR Z (zr Z Z af Z zD zC (wAn an) (wAo an)) ?_))))))))
 have bB:=wAk (xs:=O) (wAM an)
 refine zt rfl rfl rfl rfl (az.ldR (j:=0) rfl af rfl rfl zE (wAO (sz:=1) (fun _=>rfl) _ _ 0 _ bB (by first | omega | rfl | simp) rfl)) rfl (zN rfl rfl rfl rfl rfl ai (zN rfl rfl rfl rfl rfl ak (zb rfl rfl rfl rfl (fun _=>zr rfl rfl af rfl zD zC (wAn ag) (wAo ag)) ?_)))
 have bC:=wAk (xs:=O) (wAM ag)
 refine zt rfl rfl rfl rfl (az.ldR (j:=0) rfl af rfl rfl zE (wAO (sz:=1) (fun _=>rfl) _ _ 0 _ bC (by first | omega | rfl | simp) rfl)) rfl (zb rfl rfl rfl rfl (fun _=>zr rfl rfl af rfl zD zC (wAn ag) (wAo ag)) ?_)
 have bD:=wAk (xs:=O) (wAM ag)
 refine yA (j:=0) (vs:=[jV (gd O (w64 (ab - 1)).toNat)]) (cs':=hD KL.encI (nH O ab.toNat (gd O (w64 (ab - 1)).toNat))) rfl rfl rfl rfl az rfl af rfl rfl rfl zC (by rw [wAG (f:=KL.encI) (sz:=1) (fun _=>rfl)];have hz:=wAM ag;show _ + 1 <= _;first | omega | (simp only [nI];omega) | (simp only [nG,nD,nE];omega)) rfl (wBf (sz:=1) (fo:=0) (fun _=>rfl) _ _ _ _ bD (by first | omega | (simp only [nI];omega) | (simp only [nG,nD,nE];omega)) (zA rfl) rfl) rfl ?_
 intro bc br
 have bt:SW w [B0] U aq [.row ac ae 3 1 (hD KL.encI (nH O ab.toNat (gd O (w64 (ab - 1)).toNat)))] bc:=br
 refine bnK bK fun _ au bL=>zb rfl rfl rfl rfl (fun _=>zr rfl (nJ (b:=(.slice ac O.length ae:Value)) (c:=(.slice ac ((nH O ab.toNat (gd O (w64 (ab - 1)).toNat)).length) ae:Value)) rfl (by simp only [nB])) af rfl zD zC (wAn au) (wAo au)) ?_
 have bE:=wAk (xs:=(nH O ab.toNat (gd O (w64 (ab - 1)).toNat))) (by first | exact wAM au | (have hz:=wAM au;simpa only [nB] using hz))
 refine yA (j:=0) (vs:=[jV (gd O ab.toNat)]) (cs':=hD KL.encI (nH (nH O ab.toNat (gd O (w64 (ab - 1)).toNat)) (w64 (ab - 1)).toNat (gd O ab.toNat))) rfl rfl rfl rfl bt rfl af rfl rfl rfl zC (by rw [wAG (f:=KL.encI) (sz:=1) (fun _=>rfl)];have hz:=wAM au;show _ + 1 <= _;first | omega | (simp only [nB];omega) | (simp only [nG,nD,nE,nB];omega) | (simp only [nI];omega) | (simp only [nG,nD,nE];omega)) rfl (wBf (sz:=1) (fo:=0) (fun _=>rfl) _ _ _ _ bE (by first | omega | (simp only [nI];omega) | (simp only [nG,nD,nE];omega)) (zA rfl) rfl) rfl ?_
 intro be bu
 have bv:SW w [B0] U aq [.row ac ae 3 1 (hD KL.encI (nH (nH O ab.toNat (gd O (w64 (ab - 1)).toNat)) (w64 (ab - 1)).toNat (gd O ab.toNat)))] be:=bu
 refine zW (zd (zF (rR fL3 Z (oM Z ak (oR Z (Za Z Z Z) (oA Z Z (zW ?_)))))))
 have q:=hH bL
 obtain rfl:=q
 exact zF ⟨rfl,_,rfl,⟨aq,(nJ (b:=(.slice ac ((nH O ab.toNat (gd O (w64 (ab - 1)).toNat)).length) ae:Value)) (c:=(.slice ac ((nH (nH O ab.toNat (gd O (w64 (ab - 1)).toNat)) (w64 (ab - 1)).toNat (gd O ab.toNat)).length) ae:Value)) (nJ (b:=(.slice ac O.length ae:Value)) (c:=(.slice ac ((nH O ab.toNat (gd O (w64 (ab - 1)).toNat)).length) ae:Value)) ai (by simp only [nB])) (by simp only [nB])),ax,aM,ay,aN,rfl,(aF.trans a9),bv,((nB.trans nB).trans aO)⟩⟩
 intro aK bM
 refine cF Z aK (ZM (zc ?_))
 have q:=wAV bM
 obtain ⟨bQ,bN,bh⟩:=q
 have q:=aX bQ bh
 obtain rfl:=q
 refine zc (ZC (zd (zF (rR fL3 Z (oM Z aN (oR Z (zR Z Z Z) (oA Z Z (zW ?_))))))))
 have q:=hH bN
 obtain rfl:=q
 exact zF ⟨Z,_,Z,⟨aq,ai,ax,aM,ay,Z,((aR.trans aF).trans a9),aW,aO⟩⟩
 have aY:=aQ;rw [if_neg aa] at aY;replace aa:=zH aa
 refine oF Z aa (oF Z aa (oF Z aa (oF Z aa (oF Z aa (oF Z aa (oF Z aa (oF Z aa (oF Z aa (oF Z aa (OKS.px Z Z Z (ZR Z Z (zy aa.out) Z) (oF Z aa (oR Z (zm Z (zy aa.out) Z) (eN (zl Z (ZM (zc ?_))))))))))))))))
 have q:=wAV aY
 obtain ⟨bO,bF,bf⟩:=q
 have q:=aX bO bf
 obtain rfl:=q
 refine zc (ZC (zd (zF (rR fL3 Z (oM Z aN (oR Z (zR Z Z Z) (oA Z Z (zW ?_))))))))
 have q:=hH bF
 obtain rfl:=q
 exact zF ⟨Z,_,Z,⟨bb,ai,ax,aM,ay,Z,(aR.trans aF),ao,aO⟩⟩
 have aZ:=aP;rw [if_neg aj] at aZ;replace aj:=zH aj
 refine cF Z aj (ZM (zc ?_))
 have q:=wAV aZ
 obtain ⟨bP,bG,bg⟩:=q
 have q:=bx bP bg
 obtain rfl:=q
 refine zc (ZC ?_)
 have hE:=hH bG;first | subst r | cases hE
 exact ⟨Z,_,(wDM),aI,_,aV,Z,Z,aU⟩
theorem wBP (p0:List Int) (ae:Option Addr) (af:Nat) (p1:Int) (p2:Int) (p3:Int) (p4:((Int × Int)->Option Int)) (aI:Value) (w:World) (U:PHeap) (hS:St0 w U [.row ae af 3 1 (hD KL.encI p0)]) (bp:FnOK Try.prog U aI wKw wKx p4) {r:(List Int)} (hm:wAN p0 p1 p2 p3 p4=some r):Gv Try.prog 62 [.slice ae p0.length af,jV p1,jV p2,jV p3,aI] w (wBz w [.row ae af 3 1 (hD KL.encI p0)] U (fun U_ L_ v=>v=.tuple #[]/\L_=[.row ae af 3 1 (hD KL.encI r)]/\r.length=p0.length)):=by
 unfold wAN at hm
 refine Gv.of Try.func62 Z Try.ntmps62 Try.results62 Z (sR fL1 Z (oA Z Z (eN (zU (bnK hm fun bt aX bf=>?_)))))
 have q:=wBN aX
 obtain ⟨az,aY⟩:=q
 replace az:=zH az
 let B0:Res:=.row ae af 3 1 (hD KL.encI p0)
 refine CK.forN' (fun k8 O σ_ w_=>∃ (U_:PHeap),σ_ 10=jV (↑k8:Int)/\σ_ 0=.slice ae O.length af/\σ_ 1=jV p1/\σ_ 2=jV p2/\σ_ 3=jV p3/\PHeap.Le U U_/\SW w [B0] U U_ [.row ae af 3 1 (hD KL.encI O)] w_/\O.length=p0.length) aY ?_ ?_ ?_
 exact ⟨U,Z,Z,Z,Z,Z,(zM _),hS,Z⟩
 rintro k8 O br bu aE ay ⟨av,ak,an,aw,ax,aG,bh,aR,aP⟩ bg
 have aF:Hid ((↑k8:Int) < p3):=zH (wBG ay)
 replace ay:=zH ay
 have ba:Hid (w64 ((↑k8:Int) + 1)=(↑(k8 + 1):Int)):=zH (by have h1:=az.out;have h2:=aF.out;rw [wAY] <;> omega)
 refine zJ (sR fL3 rfl (zN rfl rfl rfl rfl rfl ak (zN rfl rfl rfl rfl rfl aG (zb rfl rfl rfl rfl (fun _=>zO rfl rfl rfl) (eN (cT Z aF (kN (zJ (zU (zw zx [3,3,3,3,3,3,3,3,3,3,3,3,3,1,3,3,3,3,3,1,3,0,3,0] (wMN (.fx 21 (.fl 22 (.fx 23 .nil .stop)) .stop)) (by kernel_rfl) ?_))))))))))
 have ap:=aR.drew
 generalize hw_W32:({ aE with drawn:=aE.drawn + 1 }:World)=bi at ap ⊢
 refine oM Z an (oM Z aw (oM Z ak (oR Z (zR Z Z Z) (oM Z an (oM Z ax (oM Z ak (oR Z (zR Z Z Z) (oM Z an (oM Z ax (oM Z ak (oR Z (zR Z Z Z) (bnK bg fun _ aq bb=>?_))))))))))))
 obtain ⟨bk,ag⟩:=ap.rowSome (j:=0) rfl (by rw [wAG (f:=KL.encI) (sz:=1) (fun _=>rfl) O];have hz:=wAM aq;omega)
 refine oR Z (zr Z Z ag Z zD zC (wAn aq) (wAo aq)) ?_
 have aZ:=wAk (xs:=O) (wAM aq)
 refine zt rfl rfl rfl rfl (ap.ldR (j:=0) rfl ag rfl rfl zE (wAO (sz:=1) (fun _=>rfl) _ _ 0 _ aZ (by first | omega | rfl | simp) rfl)) rfl (zN rfl rfl rfl rfl rfl an (zN rfl rfl rfl rfl rfl aw (zN rfl rfl rfl rfl rfl ak (zb rfl rfl rfl rfl (fun _=>zR rfl rfl rfl) (bnK bb fun _ ai bc=>zb rfl rfl rfl rfl (fun _=>zr rfl rfl ag rfl zD zC (wAn ai) (wAo ai)) ?_)))))
 have a7:=wAk (xs:=O) (wAM ai)
 refine zt rfl rfl rfl rfl (ap.ldR (j:=0) rfl ag rfl rfl zE (wAO (sz:=1) (fun _=>rfl) _ _ 0 _ a7 (by first | omega | rfl | simp) rfl)) rfl (zb rfl rfl rfl rfl (fun _=>zr rfl rfl ag rfl zD zC (wAn ai) (wAo ai)) ?_)
 have a8:=wAk (xs:=O) (wAM ai)
 refine yA (j:=0) (vs:=[jV (gd O (w64 (p2 + (↑k8:Int))).toNat)]) (cs':=hD KL.encI (nH O (w64 (p1 + (↑k8:Int))).toNat (gd O (w64 (p2 + (↑k8:Int))).toNat))) rfl rfl rfl rfl ap rfl ag rfl rfl rfl zC (by rw [wAG (f:=KL.encI) (sz:=1) (fun _=>rfl)];have hz:=wAM ai;show _ + 1 <= _;first | omega | (simp only [nI];omega) | (simp only [nG,nD,nE];omega)) rfl (wBf (sz:=1) (fo:=0) (fun _=>rfl) _ _ _ _ a8 (by first | omega | (simp only [nI];omega) | (simp only [nG,nD,nE];omega)) (zA rfl) rfl) rfl ?_
 intro aK aS
 have aT:SW w [B0] U av [.row ae af 3 1 (hD KL.encI (nH O (w64 (p1 + (↑k8:Int))).toNat (gd O (w64 (p2 + (↑k8:Int))).toNat)))] aK:=aS
 refine bnK bc fun _ ao be=>zb rfl rfl rfl rfl (fun _=>zr rfl (nJ (b:=(.slice ae O.length af:Value)) (c:=(.slice ae ((nH O (w64 (p1 + (↑k8:Int))).toNat (gd O (w64 (p2 + (↑k8:Int))).toNat)).length) af:Value)) rfl (by simp only [nB])) ag rfl zD zC (wAn ao) (wAo ao)) ?_
 have a9:=wAk (xs:=(nH O (w64 (p1 + (↑k8:Int))).toNat (gd O (w64 (p2 + (↑k8:Int))).toNat))) (by first | exact wAM ao | (have hz:=wAM ao;simpa only [nB] using hz))
 refine yA (j:=0) (vs:=[jV (gd O (w64 (p1 + (↑k8:Int))).toNat)]) (cs':=hD KL.encI (nH (nH O (w64 (p1 + (↑k8:Int))).toNat (gd O (w64 (p2 + (↑k8:Int))).toNat)) (w64 (p2 + (↑k8:Int))).toNat (gd O (w64 (p1 + (↑k8:Int))).toNat))) rfl rfl rfl rfl aT rfl ag rfl rfl rfl zC (by rw [wAG (f:=KL.encI) (sz:=1) (fun _=>rfl)];have hz:=wAM ao;show _ + 1 <= _;first | omega | (simp only [nB];omega) | (simp only [nG,nD,nE,nB];omega) | (simp only [nI];omega) | (simp only [nG,nD,nE];omega)) rfl (wBf (sz:=1) (fo:=0) (fun _=>rfl) _ _ _ _ a9 (by first | omega | (simp only [nI];omega) | (simp only [nG,nD,nE];omega)) (zA rfl) rfl) rfl ?_
 intro aL aU
 have aV:SW w [B0] U av [.row ae af 3 1 (hD KL.encI (nH (nH O (w64 (p1 + (↑k8:Int))).toNat (gd O (w64 (p2 + (↑k8:Int))).toNat)) (w64 (p2 + (↑k8:Int))).toNat (gd O (w64 (p1 + (↑k8:Int))).toNat)))] aL:=aU
 refine zW (zd (zF (rR fL3 Z (oM Z ak (oR Z (ZJ (zR Z Z Z) (congrArg (jV) ba.out)) (oA Z Z (zW ?_)))))))
 cases be
 exact zF ⟨rfl,⟨av,rfl,(nJ (b:=(.slice ae ((nH O (w64 (p1 + (↑k8:Int))).toNat (gd O (w64 (p2 + (↑k8:Int))).toNat)).length) af:Value)) (c:=(.slice ae ((nH (nH O (w64 (p1 + (↑k8:Int))).toNat (gd O (w64 (p2 + (↑k8:Int))).toNat)) (w64 (p2 + (↑k8:Int))).toNat (gd O (w64 (p1 + (↑k8:Int))).toNat)).length) af:Value)) (nJ (b:=(.slice ae O.length af:Value)) (c:=(.slice ae ((nH O (w64 (p1 + (↑k8:Int))).toNat (gd O (w64 (p2 + (↑k8:Int))).toNat)).length) af:Value)) an (by simp only [nB])) (by simp only [nB])),aw,ax,aG,bh,aV,((nB.trans nB).trans aP)⟩⟩
 rintro bv bj ⟨aJ,aO,bm,bn,bo,aN,bq,aW,aQ⟩
 have aM:Hid (¬ ((↑((p3:Int) - 0).toNat:Int) < p3)):=zH (wAp)
 refine zJ (sR fL3 Z (oM Z aO (oM Z aN (oR Z (zO Z Z Z) (eN (cF Z aM (ZM (zc (zc (ZC ?_))))))))))
 have hE:=hH bf;first | subst r | cases hE
 exact ⟨Z,_,(wDM),aJ,_,aW,Z,Z,aQ⟩
theorem wCK (p0:List Int) (O:Option Addr) (aa:Nat) (p1:Int) (p2:Int) (p3:Int) (p4:((Int × Int)->Option Int)) (ak:Value) (w:World) (U:PHeap) (hS:St0 w U [.row O aa 3 1 (hD KL.encI p0)]) (aF:FnOK Try.prog U ak wKw wKx p4) {r:(List Int)} (hm:wAe p0 p1 p2 p3 p4=some r):Gv Try.prog 48 [.slice O p0.length aa,jV p1,jV p2,jV p3,ak] w (wBz w [.row O aa 3 1 (hD KL.encI p0)] U (fun U_ L_ v=>v=.tuple #[]/\L_=[.row O aa 3 1 (hD KL.encI r)]/\r.length=p0.length)):=by
 unfold wAe at hm
 refine Gv.of Try.func48 Z Try.ntmps48 Try.results48 Z (sR fL4 Z (oM Z Z (oM Z Z (oR Z (Za Z Z Z) (oA Z Z (eN (sR fL4 Z (oM Z Z (oM Z Z (oR Z (Za Z Z Z) (oA Z Z (eN ?_))))))))))))
 have q:=bnd hm
 obtain ⟨⟨l2,x3⟩,bC,aS⟩:=q
 try dsimp only at aS
 let B0:Res:=.row O aa 3 1 (hD KL.encI p0)
 refine Zp (fun σ_ w_=>∃ (U_:PHeap),σ_ 0=.slice O l2.length aa/\σ_ 2=jV p2/\σ_ 4=ak/\σ_ 10=jV x3/\PHeap.Le U U_/\SW w [B0] U U_ [.row O aa 3 1 (hD KL.encI l2)] w_/\l2.length=p0.length) ?_ ?_
 refine zU (yU (fun (af,am,av) σ_ w_=>∃ (U_:PHeap),σ_ 0=.slice O af.length aa/\σ_ 2=jV p2/\σ_ 4=ak/\σ_ 10=jV am/\σ_ 11=jV av/\PHeap.Le U U_/\SW w [B0] U U_ [.row O aa 3 1 (hD KL.encI af)] w_/\af.length=p0.length) bC ?_ ?_)
 exact ⟨U,Z,Z,Z,Z,Z,(zM _),hS,Z⟩
 rintro ⟨af,am,av⟩ bP bQ aL ⟨ax,ao,ai,ap,ab,aj,aq,aE,az⟩ aG bu
 try dsimp only at aG
 refine zJ (sR fL3 Z (oM Z ab (oM Z aj (oR Z (Zo Z Z Z) (eN ?_)))))
 by_cases ae:am=av
 have aQ:=aG;rw [if_pos ae] at aQ;replace ae:=zH ae
 refine zl (zy (fun h=>h ae.out)) (ZM (zc ?_))
 have q:=wAV aQ
 obtain ⟨bG,bv,a9⟩:=q
 have q:=bu bG a9
 obtain rfl:=q
 refine zc (ZC ?_)
 cases bv
 exact zF ⟨Z,⟨ax,ao,ai,ap,ab,aq,aE,az⟩⟩
 have aR:=aG;rw [if_neg ae] at aR;replace ae:=zH ae
 refine cT Z ae (kN (zU (sR fL3 Z (oM Z ab (oM Z aj (oR Z (Zz Z Z Z) (eN (ifc aR ?_ ?_))))))))
 intro ay bw
 refine cT Z ay (sR (wHE (.fx 7 .nil .stop)) Z (oM Z ao (oM Z ai (oM Z ab (oR Z (Za Z Z Z) (oM Z ai (oM Z aj (oM Z ap ?_))))))))
 have bc:=aF.le aq
 refine bnK bw fun aV be bx=>zL 1 Z Z Z Z (zK Z Z Try.call62 (zB Z (zB Z (zB Z (zB Z (zB Z zQ))))) Z) aE (fun hs=>wBP af O aa (w64 (p2 - am)) p2 av p4 ak aL ax hs bc be) (.inl Z) ?_
 rintro aI bI bM aY bD bm ⟨rfl,rfl,aO⟩
 have bn:SW w [B0] U aI [.row O aa 3 1 (hD KL.encI aV)] aY:=bm
 refine eN (rR fL4 Z (oM Z ab (oM Z aj (oR Z (Za Z Z Z) (oA Z Z (zW (zd ?_)))))))
 have q:=hH bx
 obtain rfl:=q
 exact zF ⟨rfl,_,rfl,⟨aI,(nJ (b:=(.slice O af.length aa:Value)) (c:=(.slice O aV.length aa:Value)) ao (by rw [aO])),ai,ap,rfl,aj,(aq.trans bD),bn,(aO.trans az)⟩⟩
 intro ay bz
 refine cF Z ay (sR (wIE (.fx 11 .nil .stop)) Z (oM Z ao (oM Z ai (oM Z ab (oR Z (Za Z Z Z) (oM Z ai (oM Z aj (oR Z (zR Z Z Z) (oM Z ab (oR Z (Za Z Z Z) (oM Z ab (oM Z ap ?_))))))))))))
 have bf:=aF.le aq
 refine bnK bz fun aW bg bA=>zL 1 Z Z Z Z (zK Z Z Try.call62 (zB Z (zB Z (zB Z (zB Z (zB Z zQ))))) Z) aE (fun hs=>wBP af O aa (w64 (p2 - am)) (w64 ((w64 (p2 + av)) - am)) am p4 ak aL ax hs bf bg) (.inl Z) ?_
 rintro aJ bJ bN aZ bE bo ⟨rfl,rfl,aP⟩
 have bp:SW w [B0] U aJ [.row O aa 3 1 (hD KL.encI aW)] aZ:=bo
 refine eN (rR fL4 Z (oM Z aj (oM Z ab (oR Z (Za Z Z Z) (oA Z Z (zW (zd ?_)))))))
 have q:=hH bA
 obtain rfl:=q
 exact zF ⟨rfl,_,rfl,⟨aJ,(nJ (b:=(.slice O af.length aa:Value)) (c:=(.slice O aW.length aa:Value)) ao (by rw [aP])),ai,ap,ab,rfl,(aq.trans bE),bp,(aP.trans az)⟩⟩
 rintro bR a7 ⟨aX,ba,aM,bb,aN,bF,bq,bh⟩
 refine rR (wHE (.fx 7 .nil .stop)) Z (oM Z ba (oM Z aM (oM Z aN (oR Z (Za Z Z Z) (oM Z aM (oM Z aN (oM Z bb ?_)))))))
 have bi:=aF.le bF
 refine bnK aS fun bH bj bB=>zL 1 Z Z Z Z (zK Z Z Try.call62 (zB Z (zB Z (zB Z (zB Z (zB Z zQ))))) Z) bq (fun hs=>wBP l2 O aa (w64 (p2 - x3)) p2 x3 p4 ak a7 aX hs bi bj) (.inl Z) ?_
 rintro aK bK bO a8 bL br ⟨rfl,rfl,bk⟩
 have bt:SW w [B0] U aK [.row O aa 3 1 (hD KL.encI bH)] a8:=br
 refine zW ?_
 have hE:=hH bB;first | subst r | cases hE
 exact ⟨Z,_,(wDM),aK,_,bt,Z,Z,(bk.trans bh)⟩
theorem wBy (n_:Nat):∀ (p0:List Int) (O:Option Addr) (aa:Nat) (p1:Int) (p2:Int) (p3:Int) (p4:((Int × Int)->Option Int)) (aj:Value) (w:World) (U:PHeap) (hS:St0 w U [.row O aa 3 1 (hD KL.encI p0)]) (aH:FnOK Try.prog U aj wKw wKx p4) {r:(List Int)} (hm:wAQ n_ p0 p1 p2 p3 p4=some r),Gv Try.prog 42 [.slice O p0.length aa,jV p1,jV p2,jV p3,aj] w (wBz w [.row O aa 3 1 (hD KL.encI p0)] U (fun U_ L_ v=>v=.tuple #[]/\L_=[.row O aa 3 1 (hD KL.encI r)]/\r.length=p0.length)):=by
 induction n_ with
 | zero =>
  intros
  rename_i hm
  have lY:(none:Option ((List Int)))=some _:=hm
  cases lY
 | succ n_ ih =>
  intro p0 O aa p1 p2 p3 p4 aj w U hS aH r hm
  have hm:wAl (wAQ n_) p0 p1 p2 p3 p4=some r:=hm
  unfold wAl at hm
  refine Gv.of Try.func42 Z Try.ntmps42 Try.results42 Z (zJ (sR fL4 Z (oM Z Z (oM Z Z (oR Z (Za Z Z Z) (oR Z (Runs.eql Z Z Z) (eN ?_)))))))
  by_cases c2:(w64 (p2 - p1))=1
  ·have gm:=hm;rw [if_pos c2] at gm;replace c2:=zH c2
   refine cT Z c2 (sR fL2 Z (oM Z Z (oA Z Z (eN (sR fL2 Z (oM Z Z (oA Z Z (eN (bnK gm fun x4 pI o3=>?_)))))))))
   let B0:Res:=.row O aa 3 1 (hD KL.encI p0)
   refine Zp (fun σ_ w_=>∃ (U_:PHeap),σ_ 0=.slice O p0.length aa/\σ_ 1=jV p1/\σ_ 10=jV x4/\PHeap.Le U U_/\SW w [B0] U U_ [B0] w_) ?_ ?_
   ·refine zU (yU (fun (df,dg) σ_ w_=>∃ (U_:PHeap),σ_ 0=.slice O p0.length aa/\σ_ 1=jV p1/\σ_ 4=aj/\σ_ 10=jV df/\σ_ 11=jV dg/\PHeap.Le U U_/\SW w [B0] U U_ [B0] w_) pI ?_ ?_)
    ·exact ⟨U,Z,Z,Z,Z,Z,(zM _),hS⟩
    ·rintro ⟨df,dg⟩ rK rQ fj ⟨gL,bI,cr,dV,cw,dY,cY,fZ⟩ eD lD
     try dsimp only at eD
     refine zJ (sR fL3 Z (oM Z cw (oM Z dY (oR Z (zO Z Z Z) (eN ?_)))))
     by_cases bp:df < dg
     ·have gq:=eD;rw [if_pos bp] at gq;replace bp:=zH bp
      refine cT Z bp (kN (zU (sR fL7 rfl (zN rfl rfl rfl rfl rfl cw (zN rfl rfl rfl rfl rfl dY (zb rfl rfl rfl rfl (fun _=>zR rfl rfl rfl) (zb rfl rfl rfl rfl (fun _=>Runs.cv64 rfl rfl ZU Zc rfl rfl) (zb rfl rfl rfl rfl (fun _=>Runs.shr1 rfl rfl rfl) (zb rfl rfl rfl rfl (fun _=>Runs.cvw rfl rfl Zc ZU rfl rfl) (yF rfl rfl rfl rfl rfl rfl (eN (zJ (zw zx [3,3,3,3,1,3,3,3,1,2,3] (wLT (.fx 9 (.fl 10 .nil) .stop)) (by kernel_rfl) ?_)))))))))))))
      have bR:=fZ.drew
      generalize hw_W34:({ fj with drawn:=fj.drawn + 1 }:World)=qF at bR ⊢
      refine oM Z dV (oM Z bI (oM Z Z (bnK gq fun _ cK mA=>?_)))
      obtain ⟨qO,cV⟩:=bR.rowSome (j:=0) rfl (by rw [wAG (f:=KL.encI) (sz:=1) (fun _=>rfl) p0];have hz:=wAM cK;omega)
      refine oR Z (zr Z Z cV Z zD zC (wAn cK) (wAo cK)) ?_
      have lU:=wAk (xs:=p0) (wAM cK)
      refine zt rfl rfl rfl rfl (bR.ldR (j:=0) rfl cV rfl rfl zE (wAO (sz:=1) (fun _=>rfl) _ _ 0 _ lU (by first | omega | rfl | simp) rfl)) rfl (zN rfl rfl rfl rfl rfl bI (zN rfl rfl rfl rfl rfl cr (bnK mA fun _ ek mM=>zb rfl rfl rfl rfl (fun _=>zr rfl rfl cV rfl zD zC (wAn ek) (wAo ek)) ?_)))
      have lV:=wAk (xs:=p0) (wAM ek)
      refine zt rfl rfl rfl rfl (bR.ldR (j:=0) rfl cV rfl rfl zE (wAO (sz:=1) (fun _=>rfl) _ _ 0 _ lV (by first | omega | rfl | simp) rfl)) rfl (bnK mM fun rH iU m3=>?_)
      have jf:=aH.le cY
      refine yI (a:=((gd p0 (w64 ((wAc (w64 (df + dg))) / 2)).toNat),(gd p0 p1.toNat))) Z Z Z Z Z Z (zB Z (zB Z zQ)) bR jf Z iU ?_
      rintro dl qn rn gZ gI k7 ⟨rfl,rfl⟩
      have f7:SW w [B0] U dl [B0] gZ:=k7
      refine oR Z (zO Z Z Z) (eN (ifc m3 ?_ ?_))
      ·intro dD oj
       refine cT Z dD (rR fL3 Z (oM Z Z (oR Z (zR Z Z Z) (oA Z Z (zW (zd ?_))))))
       have q:=hH oj
       obtain rfl:=q
       exact zF ⟨Z,_,Z,⟨dl,bI,cr,dV,Z,dY,(cY.trans gI),f7⟩⟩
      ·intro dD ou
       refine cF Z dD (rR fL2 Z (oM Z Z (oA Z Z (zW (zd ?_)))))
       have q:=hH ou
       obtain rfl:=q
       exact zF ⟨Z,_,Z,⟨dl,bI,cr,dV,cw,Z,(cY.trans gI),f7⟩⟩
     ·have gC:=eD;rw [if_neg bp] at gC;replace bp:=zH bp
      refine cF Z bp (ZM (zc ?_))
      have q:=wAV gC
      obtain ⟨pU,oz,iq⟩:=q
      have q:=lD pU iq
      obtain rfl:=q
      refine zc (ZC ?_)
      cases oz
      exact zF ⟨Z,⟨gL,bI,cr,cw,cY,fZ⟩⟩
   ·rintro r6 qI ⟨fb,iB,iC,iD,qZ,lm⟩
    refine zJ (sR fL2 Z (oM Z iC (oA Z Z (eN (zU (yU (fun (ai,am) σ_ w_=>∃ (U_:PHeap),σ_ 0=.slice O ai.length aa/\σ_ 10=jV x4/\σ_ 13=jV am/\PHeap.Le fb U_/\SW w [B0] U U_ [.row O aa 3 1 (hD KL.encI ai)] w_/\ai.length=p0.length) o3 ?_ ?_))))))
    ·exact ⟨fb,iB,iD,Z,(zM _),lm,Z⟩
    ·rintro ⟨ai,am⟩ rO r7 fz ⟨cd,bL,fO,bF,pO,gb,fU⟩ eH lH
     try dsimp only at eH
     refine zJ (sR fL4 Z (oM Z bF (oM Z fO (oR Z (Za Z Z Z) (oR Z (zO Z Z Z) (eN ?_))))))
     by_cases br:am < (w64 (x4 - 1))
     ·have gD:=eH;rw [if_pos br] at gD;replace br:=zH br
      refine cT Z br (kN (zJ (zU (zw zx [3,3,3,3,3,3,3,3,3,1,3,3,3,1,3,0,3,0] (wIF gAp) (by kernel_rfl) ?_))))
      have bT:=gb.drew
      generalize hw_W99:({ fz with drawn:=fz.drawn + 1 }:World)=qJ at bT ⊢
      refine oM Z bL (oM Z bF (oM Z bL (oM Z bF (oR Z (zR Z Z Z) (oM Z bL (oM Z bF (oR Z (zR Z Z Z) (bnK gD fun _ cG lZ=>?_))))))))
      obtain ⟨qK,bt⟩:=bT.rowSome (j:=0) rfl (by rw [wAG (f:=KL.encI) (sz:=1) (fun _=>rfl) ai];have hz:=wAM cG;omega)
      refine oR Z (zr Z Z bt Z zD zC (wAn cG) (wAo cG)) ?_
      have lI:=wAk (xs:=ai) (wAM cG)
      refine zt rfl rfl rfl rfl (bT.ldR (j:=0) rfl bt rfl rfl zE (wAO (sz:=1) (fun _=>rfl) _ _ 0 _ lI (by first | omega | rfl | simp) rfl)) rfl (zN rfl rfl rfl rfl rfl bL (zN rfl rfl rfl rfl rfl bF (bnK lZ fun _ bA l0=>zb rfl rfl rfl rfl (fun _=>zr rfl rfl bt rfl zD zC (wAn bA) (wAo bA)) ?_)))
      have lJ:=wAk (xs:=ai) (wAM bA)
      refine zt rfl rfl rfl rfl (bT.ldR (j:=0) rfl bt rfl rfl zE (wAO (sz:=1) (fun _=>rfl) _ _ 0 _ lJ (by first | omega | rfl | simp) rfl)) rfl (zb rfl rfl rfl rfl (fun _=>zr rfl rfl bt rfl zD zC (wAn bA) (wAo bA)) ?_)
      have lK:=wAk (xs:=ai) (wAM bA)
      refine yA (j:=0) (vs:=[jV (gd ai (w64 (am + 1)).toNat)]) (cs':=hD KL.encI (nH ai am.toNat (gd ai (w64 (am + 1)).toNat))) rfl rfl rfl rfl bT rfl bt rfl rfl rfl zC (by rw [wAG (f:=KL.encI) (sz:=1) (fun _=>rfl)];have hz:=wAM bA;show _ + 1 <= _;first | omega | (simp only [nI];omega) | (simp only [nG,nD,nE];omega)) rfl (wBf (sz:=1) (fo:=0) (fun _=>rfl) _ _ _ _ lK (by first | omega | (simp only [nI];omega) | (simp only [nG,nD,nE];omega)) (zA rfl) rfl) rfl ?_
      intro gO jJ
      have jK:SW w [B0] U cd [.row O aa 3 1 (hD KL.encI (nH ai am.toNat (gd ai (w64 (am + 1)).toNat)))] gO:=jJ
      refine bnK l0 fun _ bM l4=>zb rfl rfl rfl rfl (fun _=>zr rfl (nJ (b:=(.slice O ai.length aa:Value)) (c:=(.slice O ((nH ai am.toNat (gd ai (w64 (am + 1)).toNat)).length) aa:Value)) rfl (by simp only [nB])) bt rfl zD zC (wAn bM) (wAo bM)) ?_
      have lL:=wAk (xs:=(nH ai am.toNat (gd ai (w64 (am + 1)).toNat))) (by first | exact wAM bM | (have hz:=wAM bM;simpa only [nB] using hz))
      refine yA (j:=0) (vs:=[jV (gd ai am.toNat)]) (cs':=hD KL.encI (nH (nH ai am.toNat (gd ai (w64 (am + 1)).toNat)) (w64 (am + 1)).toNat (gd ai am.toNat))) rfl rfl rfl rfl jK rfl bt rfl rfl rfl zC (by rw [wAG (f:=KL.encI) (sz:=1) (fun _=>rfl)];have hz:=wAM bM;show _ + 1 <= _;first | omega | (simp only [nB];omega) | (simp only [nG,nD,nE,nB];omega) | (simp only [nI];omega) | (simp only [nG,nD,nE];omega)) rfl (wBf (sz:=1) (fo:=0) (fun _=>rfl) _ _ _ _ lL (by first | omega | (simp only [nI];omega) | (simp only [nG,nD,nE];omega)) (zA rfl) rfl) rfl ?_
      intro gP jL
      have jM:SW w [B0] U cd [.row O aa 3 1 (hD KL.encI (nH (nH ai am.toNat (gd ai (w64 (am + 1)).toNat)) (w64 (am + 1)).toNat (gd ai am.toNat)))] gP:=jL
      refine zW (zd (zF (rR fL3 Z (oM Z bF (oR Z (zR Z Z Z) (oA Z Z (zW ?_)))))))
      have q:=hH l4
      obtain rfl:=q
      exact zF ⟨rfl,_,rfl,⟨cd,(nJ (b:=(.slice O ((nH ai am.toNat (gd ai (w64 (am + 1)).toNat)).length) aa:Value)) (c:=(.slice O ((nH (nH ai am.toNat (gd ai (w64 (am + 1)).toNat)) (w64 (am + 1)).toNat (gd ai am.toNat)).length) aa:Value)) (nJ (b:=(.slice O ai.length aa:Value)) (c:=(.slice O ((nH ai am.toNat (gd ai (w64 (am + 1)).toNat)).length) aa:Value)) bL (by simp only [nB])) (by simp only [nB])),fO,rfl,pO,jM,((nB.trans nB).trans fU)⟩⟩
     ·have ge:=eH;rw [if_neg br] at ge;replace br:=zH br
      refine cF Z br (ZM (zc ?_))
      have q:=wAV ge
      obtain ⟨pP,l5,ik⟩:=q
      have q:=lH pP ik
      obtain rfl:=q
      refine zc (ZC (zF (zT (zP ?_))))
      have hE:=hH l5;first | subst r | cases hE
      exact ⟨Z,_,(wDM),cd,_,gb,Z,Z,fU⟩
  ·have gf:=hm;rw [if_neg c2] at gf;replace c2:=zH c2
   refine cF Z c2 (kN (zJ (sR fL4 Z (oM Z Z (oM Z Z (oR Z (Za Z Z Z) (oR Z (Runs.eql Z Z Z) (eN (ifc gf ?_ ?_)))))))))
   ·intro dp l6
    refine cT Z dp (sR fL2 Z (oM Z Z (oA Z Z (eN (sR fL2 Z (oM Z Z (oA Z Z (eN (bnK l6 fun eL pF ma=>?_)))))))))
    let B1:Res:=.row O aa 3 1 (hD KL.encI p0)
    refine Zp (fun σ_ w_=>∃ (U_:PHeap),σ_ 0=.slice O p0.length aa/\σ_ 2=jV p2/\σ_ 14=jV eL/\PHeap.Le U U_/\SW w [B1] U U_ [B1] w_) ?_ ?_
    ·refine zU (yU (fun (dd,de) σ_ w_=>∃ (U_:PHeap),σ_ 0=.slice O p0.length aa/\σ_ 2=jV p2/\σ_ 4=aj/\σ_ 14=jV dd/\σ_ 15=jV de/\PHeap.Le U U_/\SW w [B1] U U_ [B1] w_) pF ?_ ?_)
     ·exact ⟨U,Z,Z,Z,Z,Z,(zM _),hS⟩
     ·rintro ⟨dd,de⟩ rJ rP fh ⟨gK,bG,cp,dO,cq,dP,cX,fV⟩ eC lB
      try dsimp only at eC
      refine zJ (sR fL3 Z (oM Z cq (oM Z dP (oR Z (zO Z Z Z) (eN ?_)))))
      by_cases bk:dd < de
      ·have gg:=eC;rw [if_pos bk] at gg;replace bk:=zH bk
       refine cT Z bk (kN (zU (sR fL7 rfl (zN rfl rfl rfl rfl rfl cq (zN rfl rfl rfl rfl rfl dP (zb rfl rfl rfl rfl (fun _=>zR rfl rfl rfl) (zb rfl rfl rfl rfl (fun _=>Runs.cv64 rfl rfl ZU Zc rfl rfl) (zb rfl rfl rfl rfl (fun _=>Runs.shr1 rfl rfl rfl) (zb rfl rfl rfl rfl (fun _=>Runs.cvw rfl rfl Zc ZU rfl rfl) (yF rfl rfl rfl rfl rfl rfl (eN (zJ (zw zx [3,3,3,3,1,3,3,3,1,2,3,3] (wLT (.fx 9 (.fl 10 (.fl 11 .nil)) .stop)) (by kernel_rfl) ?_)))))))))))))
       have bO:=fV.drew
       generalize hw_W157:({ fh with drawn:=fh.drawn + 1 }:World)=qA at bO ⊢
       refine oM Z dO (oM Z bG (oM Z cp (bnK gg fun _ cH mb=>?_)))
       obtain ⟨qL,cS⟩:=bO.rowSome (j:=0) rfl (by rw [wAG (f:=KL.encI) (sz:=1) (fun _=>rfl) p0];have hz:=wAM cH;omega)
       refine oR Z (zr Z Z cS Z zD zC (wAn cH) (wAo cH)) ?_
       have lM:=wAk (xs:=p0) (wAM cH)
       refine zt rfl rfl rfl rfl (bO.ldR (j:=0) rfl cS rfl rfl zE (wAO (sz:=1) (fun _=>rfl) _ _ 0 _ lM (by first | omega | rfl | simp) rfl)) rfl (zN rfl rfl rfl rfl rfl bG (zN rfl rfl rfl rfl rfl rfl (bnK mb fun _ eh mc=>zb rfl rfl rfl rfl (fun _=>zr rfl rfl cS rfl zD zC (wAn eh) (wAo eh)) ?_)))
       have lN:=wAk (xs:=p0) (wAM eh)
       refine zt rfl rfl rfl rfl (bO.ldR (j:=0) rfl cS rfl rfl zE (wAO (sz:=1) (fun _=>rfl) _ _ 0 _ lN (by first | omega | rfl | simp) rfl)) rfl (bnK mc fun rF iE md=>?_)
       have iF:=aH.le cX
       refine yI (a:=((gd p0 p2.toNat),(gd p0 (w64 ((wAc (w64 (dd + de))) / 2)).toNat))) Z Z Z Z Z Z (zB Z (zB Z zQ)) bO iF Z iE ?_
       rintro dh qc q9 gQ gG jN ⟨rfl,rfl⟩
       have fW:SW w [B1] U dh [B1] gQ:=jN
       refine oR Z (zO Z Z Z) (oR Z (Runs.notP Z Z) (eN (ifc md ?_ ?_)))
       ·intro dq me
        refine zl (zy (fun h=>h dq.out)) (rR fL2 Z (oM Z Z (oA Z Z (zW (zd ?_)))))
        have q:=hH me
        obtain rfl:=q
        exact zF ⟨Z,_,Z,⟨dh,bG,cp,dO,cq,Z,(cX.trans gG),fW⟩⟩
       ·intro dq mf
        refine cT Z dq (rR fL3 Z (oM Z Z (oR Z (zR Z Z Z) (oA Z Z (zW (zd ?_))))))
        have q:=hH mf
        obtain rfl:=q
        exact zF ⟨Z,_,Z,⟨dh,bG,cp,dO,Z,dP,(cX.trans gG),fW⟩⟩
      ·have gh:=eC;rw [if_neg bk] at gh;replace bk:=zH bk
       refine cF Z bk (ZM (zc ?_))
       have q:=wAV gh
       obtain ⟨pQ,mg,il⟩:=q
       have q:=lB pQ il
       obtain rfl:=q
       refine zc (ZC ?_)
       cases mg
       exact zF ⟨Z,⟨gK,bG,cp,cq,cX,fV⟩⟩
    ·rintro rS qB ⟨eV,ir,it,iu,qQ,jO⟩
     refine zJ (sR fL2 Z (oM Z it (oA Z Z (eN (zU (yU (fun (ag,ak) σ_ w_=>∃ (U_:PHeap),σ_ 0=.slice O ag.length aa/\σ_ 14=jV eL/\σ_ 17=jV ak/\PHeap.Le eV U_/\SW w [B1] U U_ [.row O aa 3 1 (hD KL.encI ag)] w_/\ag.length=p0.length) ma ?_ ?_))))))
     ·exact ⟨eV,ir,iu,Z,(zM _),jO,Z⟩
     ·rintro ⟨ag,ak⟩ rL rT fk ⟨bY,bH,fA,bE,pJ,fY,fP⟩ eE lE
      try dsimp only at eE
      refine zJ (sR fL3 Z (oM Z bE (oM Z fA (oR Z (Zz Z Z Z) (eN ?_)))))
      by_cases bn:eL < ak
      ·have gi:=eE;rw [if_pos bn] at gi;replace bn:=zH bn
       refine cT Z bn (kN (zJ (zU (zw zx [3,3,3,3,3,3,3,3,3,1,3,3,3,1,3,0,3,0] (wIF gAp) (by kernel_rfl) ?_))))
       have bP:=fY.drew
       generalize hw_W222:({ fk with drawn:=fk.drawn + 1 }:World)=qC at bP ⊢
       refine oM Z bH (oM Z bE (oM Z bH (oM Z bE (oR Z (Za Z Z Z) (oM Z bH (oM Z bE (oR Z (Za Z Z Z) (bnK gi fun _ cI mh=>?_))))))))
       obtain ⟨qM,bu⟩:=bP.rowSome (j:=0) rfl (by rw [wAG (f:=KL.encI) (sz:=1) (fun _=>rfl) ag];have hz:=wAM cI;omega)
       refine oR Z (zr Z Z bu Z zD zC (wAn cI) (wAo cI)) ?_
       have lO:=wAk (xs:=ag) (wAM cI)
       refine zt rfl rfl rfl rfl (bP.ldR (j:=0) rfl bu rfl rfl zE (wAO (sz:=1) (fun _=>rfl) _ _ 0 _ lO (by first | omega | rfl | simp) rfl)) rfl (zN rfl rfl rfl rfl rfl bH (zN rfl rfl rfl rfl rfl bE (bnK mh fun _ bB mi=>zb rfl rfl rfl rfl (fun _=>zr rfl rfl bu rfl zD zC (wAn bB) (wAo bB)) ?_)))
       have lP:=wAk (xs:=ag) (wAM bB)
       refine zt rfl rfl rfl rfl (bP.ldR (j:=0) rfl bu rfl rfl zE (wAO (sz:=1) (fun _=>rfl) _ _ 0 _ lP (by first | omega | rfl | simp) rfl)) rfl (zb rfl rfl rfl rfl (fun _=>zr rfl rfl bu rfl zD zC (wAn bB) (wAo bB)) ?_)
       have lQ:=wAk (xs:=ag) (wAM bB)
       refine yA (j:=0) (vs:=[jV (gd ag (w64 (ak - 1)).toNat)]) (cs':=hD KL.encI (nH ag ak.toNat (gd ag (w64 (ak - 1)).toNat))) rfl rfl rfl rfl bP rfl bu rfl rfl rfl zC (by rw [wAG (f:=KL.encI) (sz:=1) (fun _=>rfl)];have hz:=wAM bB;show _ + 1 <= _;first | omega | (simp only [nI];omega) | (simp only [nG,nD,nE];omega)) rfl (wBf (sz:=1) (fo:=0) (fun _=>rfl) _ _ _ _ lQ (by first | omega | (simp only [nI];omega) | (simp only [nG,nD,nE];omega)) (zA rfl) rfl) rfl ?_
       intro gR jP
       have jQ:SW w [B1] U bY [.row O aa 3 1 (hD KL.encI (nH ag ak.toNat (gd ag (w64 (ak - 1)).toNat)))] gR:=jP
       refine bnK mi fun _ bN mj=>zb rfl rfl rfl rfl (fun _=>zr rfl (nJ (b:=(.slice O ag.length aa:Value)) (c:=(.slice O ((nH ag ak.toNat (gd ag (w64 (ak - 1)).toNat)).length) aa:Value)) rfl (by simp only [nB])) bu rfl zD zC (wAn bN) (wAo bN)) ?_
       have lR:=wAk (xs:=(nH ag ak.toNat (gd ag (w64 (ak - 1)).toNat))) (by first | exact wAM bN | (have hz:=wAM bN;simpa only [nB] using hz))
       refine yA (j:=0) (vs:=[jV (gd ag ak.toNat)]) (cs':=hD KL.encI (nH (nH ag ak.toNat (gd ag (w64 (ak - 1)).toNat)) (w64 (ak - 1)).toNat (gd ag ak.toNat))) rfl rfl rfl rfl jQ rfl bu rfl rfl rfl zC (by rw [wAG (f:=KL.encI) (sz:=1) (fun _=>rfl)];have hz:=wAM bN;show _ + 1 <= _;first | omega | (simp only [nB];omega) | (simp only [nG,nD,nE,nB];omega) | (simp only [nI];omega) | (simp only [nG,nD,nE];omega)) rfl (wBf (sz:=1) (fo:=0) (fun _=>rfl) _ _ _ _ lR (by first | omega | (simp only [nI];omega) | (simp only [nG,nD,nE];omega)) (zA rfl) rfl) rfl ?_
       intro gS jR
       have jS:SW w [B1] U bY [.row O aa 3 1 (hD KL.encI (nH (nH ag ak.toNat (gd ag (w64 (ak - 1)).toNat)) (w64 (ak - 1)).toNat (gd ag ak.toNat)))] gS:=jR
       refine zW (zd (zF (rR fL3 Z (oM Z bE (oR Z (Za Z Z Z) (oA Z Z (zW ?_)))))))
       have q:=hH mj
       obtain rfl:=q
       exact zF ⟨rfl,_,rfl,⟨bY,(nJ (b:=(.slice O ((nH ag ak.toNat (gd ag (w64 (ak - 1)).toNat)).length) aa:Value)) (c:=(.slice O ((nH (nH ag ak.toNat (gd ag (w64 (ak - 1)).toNat)) (w64 (ak - 1)).toNat (gd ag ak.toNat)).length) aa:Value)) (nJ (b:=(.slice O ag.length aa:Value)) (c:=(.slice O ((nH ag ak.toNat (gd ag (w64 (ak - 1)).toNat)).length) aa:Value)) bH (by simp only [nB])) (by simp only [nB])),fA,rfl,pJ,jS,((nB.trans nB).trans fP)⟩⟩
      ·have gj:=eE;rw [if_neg bn] at gj;replace bn:=zH bn
       refine cF Z bn (ZM (zc ?_))
       have q:=wAV gj
       obtain ⟨pR,ml,im⟩:=q
       have q:=lE pR im
       obtain rfl:=q
       refine zc (ZC (zF (zT (zP ?_))))
       have hE:=hH ml;first | subst r | cases hE
       exact ⟨Z,_,(wDM),bY,_,fY,Z,Z,fP⟩
   ·intro dp mm
    refine cF Z dp (kN (sR fL7 Z (oM Z Z (oM Z Z (oR Z (zR Z Z Z) (oR Z (Runs.cv64 Z Z ZU Zc Z Z) (oR Z (Runs.shr1 Z Z Z) (oR Z (Runs.cvw Z Z Zc ZU Z Z) (oA Z Z (eN (sR fL4 Z (oM Z Z (oM Z Z (oR Z (zR Z Z Z) (oA Z Z (eN (sR fL2 Z (oA Z Z (oA Z Z (eN (zJ (sR fL3 Z (oM Z Z (oM Z Z (oR Z (Zz Z Z Z) (eN (ifc mm ?_ ?_)))))))))))))))))))))))))))
    ·intro dr mn
     refine cT Z dr (sR fL4 Z (oM Z Z (oM Z Z (oR Z (Za Z Z Z) (oA Z Z (eN (rR fL2 Z (oM Z Z (oA Z Z (eN (sR fL3 Z (oM Z Z (oR Z (Za Z Z Z) (oA Z Z (eN (bnK mn fun az pG mo=>?_))))))))))))))))
     let B2:Res:=.row O aa 3 1 (hD KL.encI p0)
     refine Zp (fun σ_ w_=>∃ (U_:PHeap),σ_ 0=.slice O p0.length aa/\σ_ 1=jV p1/\σ_ 2=jV p2/\σ_ 3=jV p3/\σ_ 4=aj/\σ_ 18=jV (w64 ((wAc (w64 (p1 + p3))) / 2))/\σ_ 19=jV (w64 ((w64 ((wAc (w64 (p1 + p3))) / 2)) + p2))/\σ_ 20=jV az/\PHeap.Le U U_/\SW w [B2] U U_ [B2] w_) ?_ ?_
     ·refine zU (yU (fun (bU,bV) σ_ w_=>∃ (U_:PHeap),σ_ 0=.slice O p0.length aa/\σ_ 1=jV p1/\σ_ 2=jV p2/\σ_ 3=jV p3/\σ_ 4=aj/\σ_ 18=jV (w64 ((wAc (w64 (p1 + p3))) / 2))/\σ_ 19=jV (w64 ((w64 ((wAc (w64 (p1 + p3))) / 2)) + p2))/\σ_ 20=jV bU/\σ_ 21=jV bV/\σ_ 22=jV (w64 ((w64 ((w64 ((wAc (w64 (p1 + p3))) / 2)) + p2)) - 1))/\PHeap.Le U U_/\SW w [B2] U U_ [B2] w_) pG ?_ ?_)
      ·exact ⟨U,Z,Z,Z,Z,Z,Z,Z,Z,Z,Z,(zM _),hS⟩
      ·rintro ⟨bU,bV⟩ rM rV fm ⟨gM,bJ,dQ,dR,dS,ct,dT,dU,cu,dW,dX,cZ,f4⟩ eF lF
       try dsimp only at eF
       refine zJ (sR fL3 Z (oM Z cu (oM Z dW (oR Z (zO Z Z Z) (eN ?_)))))
       by_cases bo:bU < bV
       ·have gk:=eF;rw [if_pos bo] at gk;replace bo:=zH bo
        refine cT Z bo (kN (zU (sR fL7 rfl (zN rfl rfl rfl rfl rfl cu (zN rfl rfl rfl rfl rfl dW (zb rfl rfl rfl rfl (fun _=>zR rfl rfl rfl) (zb rfl rfl rfl rfl (fun _=>Runs.cv64 rfl rfl ZU Zc rfl rfl) (zb rfl rfl rfl rfl (fun _=>Runs.shr1 rfl rfl rfl) (zb rfl rfl rfl rfl (fun _=>Runs.cvw rfl rfl Zc ZU rfl rfl) (yF rfl rfl rfl rfl rfl rfl (eN (zJ (zw zx [3,3,3,3,3,3,1,3,3,3,1,2,3,3] (wIE gAq) (by kernel_rfl) ?_)))))))))))))
        have bQ:=f4.drew
        generalize hw_W285:({ fm with drawn:=fm.drawn + 1 }:World)=qD at bQ ⊢
        refine oM Z ct (oM Z bJ (oM Z dX (oM Z Z (oR Z (Za Z Z Z) (bnK gk fun _ cJ mp=>?_)))))
        obtain ⟨qN,cU⟩:=bQ.rowSome (j:=0) rfl (by rw [wAG (f:=KL.encI) (sz:=1) (fun _=>rfl) p0];have hz:=wAM cJ;omega)
        refine oR Z (zr Z Z cU Z zD zC (wAn cJ) (wAo cJ)) ?_
        have lS:=wAk (xs:=p0) (wAM cJ)
        refine zt rfl rfl rfl rfl (bQ.ldR (j:=0) rfl cU rfl rfl zE (wAO (sz:=1) (fun _=>rfl) _ _ 0 _ lS (by first | omega | rfl | simp) rfl)) rfl (zN rfl rfl rfl rfl rfl bJ (zN rfl rfl rfl rfl rfl rfl (bnK mp fun _ ej mq=>zb rfl rfl rfl rfl (fun _=>zr rfl rfl cU rfl zD zC (wAn ej) (wAo ej)) ?_)))
        have lT:=wAk (xs:=p0) (wAM ej)
        refine zt rfl rfl rfl rfl (bQ.ldR (j:=0) rfl cU rfl rfl zE (wAO (sz:=1) (fun _=>rfl) _ _ 0 _ lT (by first | omega | rfl | simp) rfl)) rfl (bnK mq fun rG iG mr=>?_)
        have iH:=aH.le cZ
        refine yI (a:=((gd p0 (w64 ((w64 ((w64 ((w64 ((wAc (w64 (p1 + p3))) / 2)) + p2)) - 1)) - (w64 ((wAc (w64 (bU + bV))) / 2)))).toNat),(gd p0 (w64 ((wAc (w64 (bU + bV))) / 2)).toNat))) Z Z Z Z Z Z (zB Z (zB Z zQ)) bQ iH Z iG ?_
        rintro di qd rc gT gH jT ⟨rfl,rfl⟩
        have f5:SW w [B2] U di [B2] gT:=jT
        refine oR Z (zO Z Z Z) (oR Z (Runs.notP Z Z) (eN (ifc mr ?_ ?_)))
        ·intro dt ms
         refine zl (zy (fun h=>h dt.out)) (rR fL2 Z (oM Z Z (oA Z Z (zW (zd ?_)))))
         have q:=hH ms
         obtain rfl:=q
         exact zF ⟨Z,_,Z,⟨di,bJ,dQ,dR,dS,ct,dT,dU,cu,Z,dX,(cZ.trans gH),f5⟩⟩
        ·intro dt mu
         refine cT Z dt (rR fL3 Z (oM Z Z (oR Z (zR Z Z Z) (oA Z Z (zW (zd ?_))))))
         have q:=hH mu
         obtain rfl:=q
         exact zF ⟨Z,_,Z,⟨di,bJ,dQ,dR,dS,ct,dT,dU,Z,dW,dX,(cZ.trans gH),f5⟩⟩
       ·have gp:=eF;rw [if_neg bo] at gp;replace bo:=zH bo
        refine cF Z bo (ZM (zc ?_))
        have q:=wAV gp
        obtain ⟨pS,mw,io⟩:=q
        have q:=lF pS io
        obtain rfl:=q
        refine zc (ZC ?_)
        cases mw
        exact zF ⟨Z,⟨gM,bJ,dQ,dR,dS,ct,dT,dU,cu,cZ,f4⟩⟩
     ·rintro rW qE ⟨dk,fB,fC,cx,fD,fE,fG,iv,cy,c6,f6⟩
      refine sR fL4 Z (oM Z iv (oM Z cy (oR Z (Za Z Z Z) (oA Z Z (eN (zJ (bnK mo fun ii gE mx=>Zp (fun σ_ w_=>∃ (U_:PHeap),σ_ 0=.slice O p0.length aa/\σ_ 1=jV p1/\σ_ 2=jV p2/\σ_ 3=jV p3/\σ_ 4=aj/\σ_ 18=jV (w64 ((wAc (w64 (p1 + p3))) / 2))/\σ_ 20=jV az/\σ_ 24=jV (w64 ((w64 ((w64 ((wAc (w64 (p1 + p3))) / 2)) + p2)) - az))/\σ_ 185=.bool ii/\PHeap.Le dk U_/\SW w [B2] U U_ [B2] w_) ?_ ?_)))))))
      ·refine rR fL8 Z (oM Z cy (oM Z cx (oR Z (zO Z Z Z) (oM Z Z ?_))))
       by_cases ax:az < p2
       ·have gt:=gE;rw [if_pos ax] at gt;replace ax:=zH ax
        refine zN Z Z Z (wT Z ax) Z cx (zN Z Z Z (wT Z ax) Z Z (rU Z (wT Z ax) (zO Z Z Z) (oR Z (zk Z (ZW ax.out) Z) (zW ?_))))
        have q:=hH gt
        obtain rfl:=q
        exact zF ⟨Z,⟨dk,fB,fC,cx,fD,fE,fG,cy,Z,Z,(zM _),f6⟩⟩
       ·have gu:=gE;rw [if_neg ax] at gu;replace ax:=zH ax
        refine oF Z ax (oF Z ax (oF Z ax (oR Z (zm Z (zy ax.out) Z) (zW ?_))))
        cases gu
        exact zF ⟨Z,⟨dk,fB,fC,cx,fD,fE,fG,cy,Z,Z,(zM _),f6⟩⟩
      ·rintro rX ci ⟨bg,a9,cz,iw,aI,ba,av,bx,ao,fH,c8,bv⟩
       refine ifc mx ?_ ?_
       ·intro du my
        refine ZA (fH.trans (congrArg hJ du.out)) (rR (wDD (.fx 5 .nil .stop)) Z (oM Z a9 (oM Z bx (oM Z iw (oM Z ao (oM Z ba ?_))))))
        have iI:=aH.le c6
        have cL:=iI.le c8
        refine bnK my fun be iJ mz=>zL 1 Z Z Z Z (zK Z Z Try.call48 (zB Z (zB Z (zB Z (zB Z (zB Z zQ))))) Z) bv (fun hs=>wCK p0 O aa az p2 (w64 ((w64 ((w64 ((wAc (w64 (p1 + p3))) / 2)) + p2)) - az)) p4 aj ci bg hs cL iJ) (.inl Z) ?_
        rintro bh qe rd cj eI jU ⟨rfl,rfl,aF⟩
        have bC:SW w [B2] U bh [.row O aa 3 1 (hD KL.encI be)] cj:=jU
        refine eN (zJ (sR fL8 Z (oM Z cz (oM Z bx (oR Z (zO Z Z Z) (oM Z Z (ifc mz ?_ ?_)))))))
        ·intro aM mB
         refine zN Z Z Z (wT Z aM) Z bx (zN Z Z Z (wT Z aM) Z av (rU Z (wT Z aM) (zO Z Z Z) (oR Z (zk Z (ZW aM.out) Z) (eN (ifc mB ?_ ?_)))))
         ·intro dv mC
          refine cT Z dv (rR (wDD (.fx 5 .nil .stop)) rfl (zN rfl rfl rfl rfl rfl (nJ (b:=(.slice O p0.length aa:Value)) (c:=(.slice O be.length aa:Value)) a9 (by rw [aF])) (zN rfl rfl rfl rfl rfl cz (zN rfl rfl rfl rfl rfl bx (zN rfl rfl rfl rfl rfl av (zN rfl rfl rfl rfl rfl ba ?_))))))
          have fQ:=cL.le eI
          refine bnK mC fun eM iK mD=>zL 1 Z Z Z Z (zK Z Z Zl (zB Z (zB Z (zB Z (zB Z (zB Z zQ))))) Z) bC (fun hs=>ih be O aa p1 az (w64 ((wAc (w64 (p1 + p3))) / 2)) p4 aj cj bh hs fQ iK) (.inl Z) ?_
          rintro bZ qf re fq pK jW ⟨rfl,rfl,cM⟩
          have eo:SW w [B2] U bZ [.row O aa 3 1 (hD KL.encI eM)] fq:=jW
          refine eN (sR fL8 Z (oM Z av (oM Z ao (oR Z (zO Z Z Z) (oM Z Z (ifc mD ?_ ?_))))))
          ·intro aN mE
           refine zN Z Z Z (wT Z aN) Z ao (zN Z Z Z (wT Z aN) Z aI (rU Z (wT Z aN) (zO Z Z Z) (oR Z (zk Z (ZW aN.out) Z) (eN (ifc mE ?_ ?_)))))
           ·intro dw mF
            refine cT Z dw (rR (wDD (.fx 5 .nil .stop)) rfl (zN rfl rfl rfl rfl rfl (nJ (b:=(.slice O be.length aa:Value)) (c:=(.slice O eM.length aa:Value)) (nJ (b:=(.slice O p0.length aa:Value)) (c:=(.slice O be.length aa:Value)) a9 (by rw [aF])) (by rw [cM])) (zN rfl rfl rfl rfl rfl av (zN rfl rfl rfl rfl rfl ao (zN rfl rfl rfl rfl rfl aI (zN rfl rfl rfl rfl rfl ba ?_))))))
            have iL:=fQ.le pK
            refine bnK mF fun pV iM mG=>zL 1 Z Z Z Z (zK Z Z Zl (zB Z (zB Z (zB Z (zB Z (zB Z zQ))))) Z) eo (fun hs=>ih eM O aa (w64 ((wAc (w64 (p1 + p3))) / 2)) (w64 ((w64 ((w64 ((wAc (w64 (p1 + p3))) / 2)) + p2)) - az)) p3 p4 aj fq bZ hs iL iM) (.inl Z) ?_
            rintro eW qh rf gU qR jX ⟨rfl,rfl,iN⟩
            have jY:SW w [B2] U eW [.row O aa 3 1 (hD KL.encI pV)] gU:=jX
            refine zW ?_
            have hE:=hH mG;first | subst r | cases hE
            exact ⟨Z,_,(wDM),eW,_,jY,Z,Z,((iN.trans cM).trans aF)⟩
           ·intro dw mH
            refine cF Z dw (ZL ?_)
            have hE:=hH mH;first | subst r | cases hE
            exact ⟨Z,_,(wDM),bZ,_,eo,Z,Z,(cM.trans aF)⟩
          ·intro aN mI
           refine oF Z aN (oF Z aN (oF Z aN (oR Z (zm Z (zy aN.out) Z) (eN (zl Z (ZL ?_))))))
           have hE:=hH mI;first | subst r | cases hE
           exact ⟨Z,_,(wDM),bZ,_,eo,Z,Z,(cM.trans aF)⟩
         ·intro dv mJ
          refine cF Z dv (kN (sR fL8 Z (oM Z av (oM Z ao (oR Z (zO Z Z Z) (oM Z Z (ifc mJ ?_ ?_)))))))
          ·intro aO mK
           refine zN Z Z Z (wT Z aO) Z ao (zN Z Z Z (wT Z aO) Z aI (rU Z (wT Z aO) (zO Z Z Z) (oR Z (zk Z (ZW aO.out) Z) (eN (ifc mK ?_ ?_)))))
           ·intro dx mL
            refine cT Z dx (rR (wDD (.fx 5 .nil .stop)) rfl (zN rfl rfl rfl rfl rfl (nJ (b:=(.slice O p0.length aa:Value)) (c:=(.slice O be.length aa:Value)) a9 (by rw [aF])) (zN rfl rfl rfl rfl rfl av (zN rfl rfl rfl rfl rfl ao (zN rfl rfl rfl rfl rfl aI (zN rfl rfl rfl rfl rfl ba ?_))))))
            have iO:=cL.le eI
            refine bnK mL fun pW iP mN=>zL 1 Z Z Z Z (zK Z Z Zl (zB Z (zB Z (zB Z (zB Z (zB Z zQ))))) Z) bC (fun hs=>ih be O aa (w64 ((wAc (w64 (p1 + p3))) / 2)) (w64 ((w64 ((w64 ((wAc (w64 (p1 + p3))) / 2)) + p2)) - az)) p3 p4 aj cj bh hs iO iP) (.inl Z) ?_
            rintro eX qi rh gV qS jZ ⟨rfl,rfl,iQ⟩
            have j0:SW w [B2] U eX [.row O aa 3 1 (hD KL.encI pW)] gV:=jZ
            refine zW ?_
            have hE:=hH mN;first | subst r | cases hE
            exact ⟨Z,_,(wDM),eX,_,j0,Z,Z,(iQ.trans aF)⟩
           ·intro dx mO
            refine cF Z dx (ZL ?_)
            have hE:=hH mO;first | subst r | cases hE
            exact ⟨Z,_,(wDM),bh,_,bC,Z,Z,aF⟩
          ·intro aO mP
           refine oF Z aO (oF Z aO (oF Z aO (oR Z (zm Z (zy aO.out) Z) (eN (zl Z (ZL ?_))))))
           have hE:=hH mP;first | subst r | cases hE
           exact ⟨Z,_,(wDM),bh,_,bC,Z,Z,aF⟩
        ·intro aM mQ
         refine oF Z aM (oF Z aM (oF Z aM (oR Z (zm Z (zy aM.out) Z) (eN (zl Z (kN (sR fL8 Z (oM Z av (oM Z ao (oR Z (zO Z Z Z) (oM Z Z (ifc mQ ?_ ?_))))))))))))
         ·intro aP mR
          refine zN Z Z Z (wT Z aP) Z ao (zN Z Z Z (wT Z aP) Z aI (rU Z (wT Z aP) (zO Z Z Z) (oR Z (zk Z (ZW aP.out) Z) (eN (ifc mR ?_ ?_)))))
          ·intro dy mS
           refine cT Z dy (rR (wDD (.fx 5 .nil .stop)) rfl (zN rfl rfl rfl rfl rfl (nJ (b:=(.slice O p0.length aa:Value)) (c:=(.slice O be.length aa:Value)) a9 (by rw [aF])) (zN rfl rfl rfl rfl rfl av (zN rfl rfl rfl rfl rfl ao (zN rfl rfl rfl rfl rfl aI (zN rfl rfl rfl rfl rfl ba ?_))))))
           have iR:=cL.le eI
           refine bnK mS fun pX iS mT=>zL 1 Z Z Z Z (zK Z Z Zl (zB Z (zB Z (zB Z (zB Z (zB Z zQ))))) Z) bC (fun hs=>ih be O aa (w64 ((wAc (w64 (p1 + p3))) / 2)) (w64 ((w64 ((w64 ((wAc (w64 (p1 + p3))) / 2)) + p2)) - az)) p3 p4 aj cj bh hs iR iS) (.inl Z) ?_
           rintro eY qj ri gW qT j3 ⟨rfl,rfl,iT⟩
           have j4:SW w [B2] U eY [.row O aa 3 1 (hD KL.encI pX)] gW:=j3
           refine zW ?_
           have hE:=hH mT;first | subst r | cases hE
           exact ⟨Z,_,(wDM),eY,_,j4,Z,Z,(iT.trans aF)⟩
          ·intro dy mU
           refine cF Z dy (ZL ?_)
           have hE:=hH mU;first | subst r | cases hE
           exact ⟨Z,_,(wDM),bh,_,bC,Z,Z,aF⟩
         ·intro aP mV
          refine oF Z aP (oF Z aP (oF Z aP (oR Z (zm Z (zy aP.out) Z) (eN (zl Z (ZL ?_))))))
          have hE:=hH mV;first | subst r | cases hE
          exact ⟨Z,_,(wDM),bh,_,bC,Z,Z,aF⟩
       ·intro du mW
        refine zl (fH.trans (congrArg hJ (nA.2 du.out))) (kN (zJ (sR fL8 Z (oM Z cz (oM Z bx (oR Z (zO Z Z Z) (oM Z Z (ifc mW ?_ ?_))))))))
        ·intro aQ mX
         refine zN Z Z Z (wT Z aQ) Z bx (zN Z Z Z (wT Z aQ) Z av (rU Z (wT Z aQ) (zO Z Z Z) (oR Z (zk Z (ZW aQ.out) Z) (eN (ifc mX ?_ ?_)))))
         ·intro dz mY
          refine cT Z dz (rR (wDD (.fx 5 .nil .stop)) Z (oM Z a9 (oM Z cz (oM Z bx (oM Z av (oM Z ba ?_))))))
          have iV:=aH.le c6
          have fR:=iV.le c8
          refine bnK mY fun eQ iW mZ=>zL 1 Z Z Z Z (zK Z Z Zl (zB Z (zB Z (zB Z (zB Z (zB Z zQ))))) Z) bv (fun hs=>ih p0 O aa p1 az (w64 ((wAc (w64 (p1 + p3))) / 2)) p4 aj ci bg hs fR iW) (.inl Z) ?_
          rintro ca qk rj ft pL j5 ⟨rfl,rfl,cN⟩
          have ep:SW w [B2] U ca [.row O aa 3 1 (hD KL.encI eQ)] ft:=j5
          refine eN (sR fL8 Z (oM Z av (oM Z ao (oR Z (zO Z Z Z) (oM Z Z (ifc mZ ?_ ?_))))))
          ·intro aR m4
           refine zN Z Z Z (wT Z aR) Z ao (zN Z Z Z (wT Z aR) Z aI (rU Z (wT Z aR) (zO Z Z Z) (oR Z (zk Z (ZW aR.out) Z) (eN (ifc m4 ?_ ?_)))))
           ·intro dA m5
            refine cT Z dA (rR (wDD (.fx 5 .nil .stop)) rfl (zN rfl rfl rfl rfl rfl (nJ (b:=(.slice O p0.length aa:Value)) (c:=(.slice O eQ.length aa:Value)) a9 (by rw [cN])) (zN rfl rfl rfl rfl rfl av (zN rfl rfl rfl rfl rfl ao (zN rfl rfl rfl rfl rfl aI (zN rfl rfl rfl rfl rfl ba ?_))))))
            have iX:=fR.le pL
            refine bnK m5 fun pY iY m6=>zL 1 Z Z Z Z (zK Z Z Zl (zB Z (zB Z (zB Z (zB Z (zB Z zQ))))) Z) ep (fun hs=>ih eQ O aa (w64 ((wAc (w64 (p1 + p3))) / 2)) (w64 ((w64 ((w64 ((wAc (w64 (p1 + p3))) / 2)) + p2)) - az)) p3 p4 aj ft ca hs iX iY) (.inl Z) ?_
            rintro eZ qm rk gX qU j6 ⟨rfl,rfl,iZ⟩
            have j7:SW w [B2] U eZ [.row O aa 3 1 (hD KL.encI pY)] gX:=j6
            refine zW ?_
            have hE:=hH m6;first | subst r | cases hE
            exact ⟨Z,_,(wDM),eZ,_,j7,Z,Z,(iZ.trans cN)⟩
           ·intro dA m7
            refine cF Z dA (ZL ?_)
            have hE:=hH m7;first | subst r | cases hE
            exact ⟨Z,_,(wDM),ca,_,ep,Z,Z,cN⟩
          ·intro aR m8
           refine oF Z aR (oF Z aR (oF Z aR (oR Z (zm Z (zy aR.out) Z) (eN (zl Z (ZL ?_))))))
           have hE:=hH m8;first | subst r | cases hE
           exact ⟨Z,_,(wDM),ca,_,ep,Z,Z,cN⟩
         ·intro dz m9
          refine cF Z dz (kN (sR fL8 Z (oM Z av (oM Z ao (oR Z (zO Z Z Z) (oM Z Z (ifc m9 ?_ ?_)))))))
          ·intro aS n4
           refine zN Z Z Z (wT Z aS) Z ao (zN Z Z Z (wT Z aS) Z aI (rU Z (wT Z aS) (zO Z Z Z) (oR Z (zk Z (ZW aS.out) Z) (eN (ifc n4 ?_ ?_)))))
           ·intro dB n5
            refine cT Z dB (rR (wDD (.fx 5 .nil .stop)) Z (oM Z a9 (oM Z av (oM Z ao (oM Z aI (oM Z ba ?_))))))
            have i7:=aH.le c6
            have i8:=i7.le c8
            refine bnK n5 fun pZ i9 n6=>zL 1 Z Z Z Z (zK Z Z Zl (zB Z (zB Z (zB Z (zB Z (zB Z zQ))))) Z) bv (fun hs=>ih p0 O aa (w64 ((wAc (w64 (p1 + p3))) / 2)) (w64 ((w64 ((w64 ((wAc (w64 (p1 + p3))) / 2)) + p2)) - az)) p3 p4 aj ci bg hs i8 i9) (.inl Z) ?_
            rintro e6 qo ro gY qV j8 ⟨rfl,rfl,ja⟩
            have j9:SW w [B2] U e6 [.row O aa 3 1 (hD KL.encI pZ)] gY:=j8
            refine zW ?_
            have hE:=hH n6;first | subst r | cases hE
            exact ⟨Z,_,(wDM),e6,_,j9,Z,Z,ja⟩
           ·intro dB n7
            refine cF Z dB (ZL ?_)
            have hE:=hH n7;first | subst r | cases hE
            exact ⟨Z,_,(wDM),bg,_,bv,Z,Z,Z⟩
          ·intro aS n8
           refine oF Z aS (oF Z aS (oF Z aS (oR Z (zm Z (zy aS.out) Z) (eN (zl Z (ZL ?_))))))
           have hE:=hH n8;first | subst r | cases hE
           exact ⟨Z,_,(wDM),bg,_,bv,Z,Z,Z⟩
        ·intro aQ n9
         refine oF Z aQ (oF Z aQ (oF Z aQ (oR Z (zm Z (zy aQ.out) Z) (eN (zl Z (kN (sR fL8 Z (oM Z av (oM Z ao (oR Z (zO Z Z Z) (oM Z Z (ifc n9 ?_ ?_))))))))))))
         ·intro aT oa
          refine zN Z Z Z (wT Z aT) Z ao (zN Z Z Z (wT Z aT) Z aI (rU Z (wT Z aT) (zO Z Z Z) (oR Z (zk Z (ZW aT.out) Z) (eN (ifc oa ?_ ?_)))))
          ·intro dC oc
           refine cT Z dC (rR (wDD (.fx 5 .nil .stop)) Z (oM Z a9 (oM Z av (oM Z ao (oM Z aI (oM Z ba ?_))))))
           have jb:=aH.le c6
           have jc:=jb.le c8
           refine bnK oc fun p5 jd od=>zL 1 Z Z Z Z (zK Z Z Zl (zB Z (zB Z (zB Z (zB Z (zB Z zQ))))) Z) bv (fun hs=>ih p0 O aa (w64 ((wAc (w64 (p1 + p3))) / 2)) (w64 ((w64 ((w64 ((wAc (w64 (p1 + p3))) / 2)) + p2)) - az)) p3 p4 aj ci bg hs jc jd) (.inl Z) ?_
           rintro e7 qp rp g6 qW k9 ⟨rfl,rfl,je⟩
           have lb:SW w [B2] U e7 [.row O aa 3 1 (hD KL.encI p5)] g6:=k9
           refine zW ?_
           have hE:=hH od;first | subst r | cases hE
           exact ⟨Z,_,(wDM),e7,_,lb,Z,Z,je⟩
          ·intro dC oe
           refine cF Z dC (ZL ?_)
           have hE:=hH oe;first | subst r | cases hE
           exact ⟨Z,_,(wDM),bg,_,bv,Z,Z,Z⟩
         ·intro aT og
          refine oF Z aT (oF Z aT (oF Z aT (oR Z (zm Z (zy aT.out) Z) (eN (zl Z (ZL ?_))))))
          have hE:=hH og;first | subst r | cases hE
          exact ⟨Z,_,(wDM),bg,_,bv,Z,Z,Z⟩
    ·intro dr oh
     refine cF Z dr (sR fL2 Z (oM Z Z (oA Z Z (eN (rR fL2 Z (oM Z Z (oA Z Z (eN (sR fL3 Z (oM Z Z (oR Z (Za Z Z Z) (oA Z Z (eN (bnK oh fun aE pH oi=>?_))))))))))))))
     let B3:Res:=.row O aa 3 1 (hD KL.encI p0)
     refine Zp (fun σ_ w_=>∃ (U_:PHeap),σ_ 0=.slice O p0.length aa/\σ_ 1=jV p1/\σ_ 2=jV p2/\σ_ 3=jV p3/\σ_ 4=aj/\σ_ 18=jV (w64 ((wAc (w64 (p1 + p3))) / 2))/\σ_ 19=jV (w64 ((w64 ((wAc (w64 (p1 + p3))) / 2)) + p2))/\σ_ 20=jV aE/\PHeap.Le U U_/\SW w [B3] U U_ [B3] w_) ?_ ?_
     ·refine zU (yU (fun (bW,bX) σ_ w_=>∃ (U_:PHeap),σ_ 0=.slice O p0.length aa/\σ_ 1=jV p1/\σ_ 2=jV p2/\σ_ 3=jV p3/\σ_ 4=aj/\σ_ 18=jV (w64 ((wAc (w64 (p1 + p3))) / 2))/\σ_ 19=jV (w64 ((w64 ((wAc (w64 (p1 + p3))) / 2)) + p2))/\σ_ 20=jV bW/\σ_ 21=jV bX/\σ_ 22=jV (w64 ((w64 ((w64 ((wAc (w64 (p1 + p3))) / 2)) + p2)) - 1))/\PHeap.Le U U_/\SW w [B3] U U_ [B3] w_) pH ?_ ?_)
      ·exact ⟨U,Z,Z,Z,Z,Z,Z,Z,Z,Z,Z,(zM _),hS⟩
      ·rintro ⟨bW,bX⟩ rN rY fu ⟨gN,bK,dZ,d5,d6,cA,d7,d8,cB,d9,ef,c9,f8⟩ eG lG
       try dsimp only at eG
       refine zJ (sR fL3 Z (oM Z cB (oM Z d9 (oR Z (zO Z Z Z) (eN ?_)))))
       by_cases bq:bW < bX
       ·have gv:=eG;rw [if_pos bq] at gv;replace bq:=zH bq
        refine cT Z bq (kN (zU (sR fL7 rfl (zN rfl rfl rfl rfl rfl cB (zN rfl rfl rfl rfl rfl d9 (zb rfl rfl rfl rfl (fun _=>zR rfl rfl rfl) (zb rfl rfl rfl rfl (fun _=>Runs.cv64 rfl rfl ZU Zc rfl rfl) (zb rfl rfl rfl rfl (fun _=>Runs.shr1 rfl rfl rfl) (zb rfl rfl rfl rfl (fun _=>Runs.cvw rfl rfl Zc ZU rfl rfl) (yF rfl rfl rfl rfl rfl rfl (eN (zJ (zw zx [3,3,3,3,3,3,1,3,3,3,1,2,3,3] (wIE gAq) (by kernel_rfl) ?_)))))))))))))
        have bS:=f8.drew
        generalize hw_W552:({ fu with drawn:=fu.drawn + 1 }:World)=qG at bS ⊢
        refine oM Z cA (oM Z bK (oM Z ef (oM Z Z (oR Z (Za Z Z Z) (bnK gv fun _ cO ol=>?_)))))
        obtain ⟨qP,cW⟩:=bS.rowSome (j:=0) rfl (by rw [wAG (f:=KL.encI) (sz:=1) (fun _=>rfl) p0];have hz:=wAM cO;omega)
        refine oR Z (zr Z Z cW Z zD zC (wAn cO) (wAo cO)) ?_
        have lW:=wAk (xs:=p0) (wAM cO)
        refine zt rfl rfl rfl rfl (bS.ldR (j:=0) rfl cW rfl rfl zE (wAO (sz:=1) (fun _=>rfl) _ _ 0 _ lW (by first | omega | rfl | simp) rfl)) rfl (zN rfl rfl rfl rfl rfl bK (zN rfl rfl rfl rfl rfl rfl (bnK ol fun _ en om=>zb rfl rfl rfl rfl (fun _=>zr rfl rfl cW rfl zD zC (wAn en) (wAo en)) ?_)))
        have lX:=wAk (xs:=p0) (wAM en)
        refine zt rfl rfl rfl rfl (bS.ldR (j:=0) rfl cW rfl rfl zE (wAO (sz:=1) (fun _=>rfl) _ _ 0 _ lX (by first | omega | rfl | simp) rfl)) rfl (bnK om fun rI jg oo=>?_)
        have jh:=aH.le c9
        refine yI (a:=((gd p0 (w64 ((w64 ((w64 ((w64 ((wAc (w64 (p1 + p3))) / 2)) + p2)) - 1)) - (w64 ((wAc (w64 (bW + bX))) / 2)))).toNat),(gd p0 (w64 ((wAc (w64 (bW + bX))) / 2)).toNat))) Z Z Z Z Z Z (zB Z (zB Z zQ)) bS jh Z jg ?_
        rintro dm qq rq g7 gJ lc ⟨rfl,rfl⟩
        have f9:SW w [B3] U dm [B3] g7:=lc
        refine oR Z (zO Z Z Z) (oR Z (Runs.notP Z Z) (eN (ifc oo ?_ ?_)))
        ·intro dE oq
         refine zl (zy (fun h=>h dE.out)) (rR fL2 Z (oM Z Z (oA Z Z (zW (zd ?_)))))
         have q:=hH oq
         obtain rfl:=q
         exact zF ⟨Z,_,Z,⟨dm,bK,dZ,d5,d6,cA,d7,d8,cB,Z,ef,(c9.trans gJ),f9⟩⟩
        ·intro dE ot
         refine cT Z dE (rR fL3 Z (oM Z Z (oR Z (zR Z Z Z) (oA Z Z (zW (zd ?_))))))
         have q:=hH ot
         obtain rfl:=q
         exact zF ⟨Z,_,Z,⟨dm,bK,dZ,d5,d6,cA,d7,d8,Z,d9,ef,(c9.trans gJ),f9⟩⟩
       ·have gw:=eG;rw [if_neg bq] at gw;replace bq:=zH bq
        refine cF Z bq (ZM (zc ?_))
        have q:=wAV gw
        obtain ⟨pT,ov,ip⟩:=q
        have q:=lG pT ip
        obtain rfl:=q
        refine zc (ZC ?_)
        cases ov
        exact zF ⟨Z,⟨gN,bK,dZ,d5,d6,cA,d7,d8,cB,c9,f8⟩⟩
     ·rintro rZ qH ⟨dn,fI,fJ,cC,fK,fL,fM,iz,cD,da,ga⟩
      refine sR fL4 Z (oM Z iz (oM Z cD (oR Z (Za Z Z Z) (oA Z Z (eN (zJ (bnK oi fun ij gF ow=>Zp (fun σ_ w_=>∃ (U_:PHeap),σ_ 0=.slice O p0.length aa/\σ_ 1=jV p1/\σ_ 2=jV p2/\σ_ 3=jV p3/\σ_ 4=aj/\σ_ 18=jV (w64 ((wAc (w64 (p1 + p3))) / 2))/\σ_ 20=jV aE/\σ_ 24=jV (w64 ((w64 ((w64 ((wAc (w64 (p1 + p3))) / 2)) + p2)) - aE))/\σ_ 185=.bool ij/\PHeap.Le dn U_/\SW w [B3] U U_ [B3] w_) ?_ ?_)))))))
      ·refine rR fL8 Z (oM Z cD (oM Z cC (oR Z (zO Z Z Z) (oM Z Z ?_))))
       by_cases ay:aE < p2
       ·have gA:=gF;rw [if_pos ay] at gA;replace ay:=zH ay
        refine zN Z Z Z (wT Z ay) Z cC (zN Z Z Z (wT Z ay) Z Z (rU Z (wT Z ay) (zO Z Z Z) (oR Z (zk Z (ZW ay.out) Z) (zW ?_))))
        have q:=hH gA
        obtain rfl:=q
        exact zF ⟨Z,⟨dn,fI,fJ,cC,fK,fL,fM,cD,Z,Z,(zM _),ga⟩⟩
       ·have gB:=gF;rw [if_neg ay] at gB;replace ay:=zH ay
        refine oF Z ay (oF Z ay (oF Z ay (oR Z (zm Z (zy ay.out) Z) (zW ?_))))
        cases gB
        exact zF ⟨Z,⟨dn,fI,fJ,cC,fK,fL,fM,cD,Z,Z,(zM _),ga⟩⟩
      ·rintro r5 cm ⟨bi,bb,cE,iA,aJ,bc,aw,bz,ap,fN,db,bw⟩
       refine ifc ow ?_ ?_
       ·intro dF ox
        refine ZA (fN.trans (congrArg hJ dF.out)) (rR (wDD (.fx 5 .nil .stop)) Z (oM Z bb (oM Z bz (oM Z iA (oM Z ap (oM Z bc ?_))))))
        have ji:=aH.le da
        have cP:=ji.le db
        refine bnK ox fun bf jj oy=>zL 1 Z Z Z Z (zK Z Z Try.call48 (zB Z (zB Z (zB Z (zB Z (zB Z zQ))))) Z) bw (fun hs=>wCK p0 O aa aE p2 (w64 ((w64 ((w64 ((wAc (w64 (p1 + p3))) / 2)) + p2)) - aE)) p4 aj cm bi hs cP jj) (.inl Z) ?_
        rintro bj qr rv co eJ lf ⟨rfl,rfl,aG⟩
        have bD:SW w [B3] U bj [.row O aa 3 1 (hD KL.encI bf)] co:=lf
        refine eN (zJ (sR fL8 Z (oM Z cE (oM Z bz (oR Z (zO Z Z Z) (oM Z Z (ifc oy ?_ ?_)))))))
        ·intro aU oB
         refine zN Z Z Z (wT Z aU) Z bz (zN Z Z Z (wT Z aU) Z aw (rU Z (wT Z aU) (zO Z Z Z) (oR Z (zk Z (ZW aU.out) Z) (eN (ifc oB ?_ ?_)))))
         ·intro dG oC
          refine cT Z dG (rR (wDD (.fx 5 .nil .stop)) rfl (zN rfl rfl rfl rfl rfl (nJ (b:=(.slice O p0.length aa:Value)) (c:=(.slice O bf.length aa:Value)) bb (by rw [aG])) (zN rfl rfl rfl rfl rfl cE (zN rfl rfl rfl rfl rfl bz (zN rfl rfl rfl rfl rfl aw (zN rfl rfl rfl rfl rfl bc ?_))))))
          have fS:=cP.le eJ
          refine bnK oC fun eT jk oD=>zL 1 Z Z Z Z (zK Z Z Zl (zB Z (zB Z (zB Z (zB Z (zB Z zQ))))) Z) bD (fun hs=>ih bf O aa p1 aE (w64 ((wAc (w64 (p1 + p3))) / 2)) p4 aj co bj hs fS jk) (.inl Z) ?_
          rintro cb qs rx fw pM lg ⟨rfl,rfl,cQ⟩
          have ez:SW w [B3] U cb [.row O aa 3 1 (hD KL.encI eT)] fw:=lg
          refine eN (sR fL8 Z (oM Z aw (oM Z ap (oR Z (zO Z Z Z) (oM Z Z (ifc oD ?_ ?_))))))
          ·intro aV oE
           refine zN Z Z Z (wT Z aV) Z ap (zN Z Z Z (wT Z aV) Z aJ (rU Z (wT Z aV) (zO Z Z Z) (oR Z (zk Z (ZW aV.out) Z) (eN (ifc oE ?_ ?_)))))
           ·intro dH oG
            refine cT Z dH (rR (wDD (.fx 5 .nil .stop)) rfl (zN rfl rfl rfl rfl rfl (nJ (b:=(.slice O bf.length aa:Value)) (c:=(.slice O eT.length aa:Value)) (nJ (b:=(.slice O p0.length aa:Value)) (c:=(.slice O bf.length aa:Value)) bb (by rw [aG])) (by rw [cQ])) (zN rfl rfl rfl rfl rfl aw (zN rfl rfl rfl rfl rfl ap (zN rfl rfl rfl rfl rfl aJ (zN rfl rfl rfl rfl rfl bc ?_))))))
            have jl:=fS.le pM
            refine bnK oG fun p6 jm oH=>zL 1 Z Z Z Z (zK Z Z Zl (zB Z (zB Z (zB Z (zB Z (zB Z zQ))))) Z) ez (fun hs=>ih eT O aa (w64 ((wAc (w64 (p1 + p3))) / 2)) (w64 ((w64 ((w64 ((wAc (w64 (p1 + p3))) / 2)) + p2)) - aE)) p3 p4 aj fw cb hs jl jm) (.inl Z) ?_
            rintro e8 qt ry g8 qX li ⟨rfl,rfl,jo⟩
            have lj:SW w [B3] U e8 [.row O aa 3 1 (hD KL.encI p6)] g8:=li
            refine zW ?_
            have hE:=hH oH;first | subst r | cases hE
            exact ⟨Z,_,(wDM),e8,_,lj,Z,Z,((jo.trans cQ).trans aG)⟩
           ·intro dH oI
            refine cF Z dH (ZL ?_)
            have hE:=hH oI;first | subst r | cases hE
            exact ⟨Z,_,(wDM),cb,_,ez,Z,Z,(cQ.trans aG)⟩
          ·intro aV oJ
           refine oF Z aV (oF Z aV (oF Z aV (oR Z (zm Z (zy aV.out) Z) (eN (zl Z (ZL ?_))))))
           have hE:=hH oJ;first | subst r | cases hE
           exact ⟨Z,_,(wDM),cb,_,ez,Z,Z,(cQ.trans aG)⟩
         ·intro dG oK
          refine cF Z dG (kN (sR fL8 Z (oM Z aw (oM Z ap (oR Z (zO Z Z Z) (oM Z Z (ifc oK ?_ ?_)))))))
          ·intro aW oO
           refine zN Z Z Z (wT Z aW) Z ap (zN Z Z Z (wT Z aW) Z aJ (rU Z (wT Z aW) (zO Z Z Z) (oR Z (zk Z (ZW aW.out) Z) (eN (ifc oO ?_ ?_)))))
           ·intro dI oP
            refine cT Z dI (rR (wDD (.fx 5 .nil .stop)) rfl (zN rfl rfl rfl rfl rfl (nJ (b:=(.slice O p0.length aa:Value)) (c:=(.slice O bf.length aa:Value)) bb (by rw [aG])) (zN rfl rfl rfl rfl rfl aw (zN rfl rfl rfl rfl rfl ap (zN rfl rfl rfl rfl rfl aJ (zN rfl rfl rfl rfl rfl bc ?_))))))
            have jp:=cP.le eJ
            refine bnK oP fun p7 jq oQ=>zL 1 Z Z Z Z (zK Z Z Zl (zB Z (zB Z (zB Z (zB Z (zB Z zQ))))) Z) bD (fun hs=>ih bf O aa (w64 ((wAc (w64 (p1 + p3))) / 2)) (w64 ((w64 ((w64 ((wAc (w64 (p1 + p3))) / 2)) + p2)) - aE)) p3 p4 aj co bj hs jp jq) (.inl Z) ?_
            rintro e9 qu rz g9 qY lk ⟨rfl,rfl,jr⟩
            have ll:SW w [B3] U e9 [.row O aa 3 1 (hD KL.encI p7)] g9:=lk
            refine zW ?_
            have hE:=hH oQ;first | subst r | cases hE
            exact ⟨Z,_,(wDM),e9,_,ll,Z,Z,(jr.trans aG)⟩
           ·intro dI oS
            refine cF Z dI (ZL ?_)
            have hE:=hH oS;first | subst r | cases hE
            exact ⟨Z,_,(wDM),bj,_,bD,Z,Z,aG⟩
          ·intro aW oU
           refine oF Z aW (oF Z aW (oF Z aW (oR Z (zm Z (zy aW.out) Z) (eN (zl Z (ZL ?_))))))
           have hE:=hH oU;first | subst r | cases hE
           exact ⟨Z,_,(wDM),bj,_,bD,Z,Z,aG⟩
        ·intro aU oV
         refine oF Z aU (oF Z aU (oF Z aU (oR Z (zm Z (zy aU.out) Z) (eN (zl Z (kN (sR fL8 Z (oM Z aw (oM Z ap (oR Z (zO Z Z Z) (oM Z Z (ifc oV ?_ ?_))))))))))))
         ·intro aX oW
          refine zN Z Z Z (wT Z aX) Z ap (zN Z Z Z (wT Z aX) Z aJ (rU Z (wT Z aX) (zO Z Z Z) (oR Z (zk Z (ZW aX.out) Z) (eN (ifc oW ?_ ?_)))))
          ·intro dJ oZ
           refine cT Z dJ (rR (wDD (.fx 5 .nil .stop)) rfl (zN rfl rfl rfl rfl rfl (nJ (b:=(.slice O p0.length aa:Value)) (c:=(.slice O bf.length aa:Value)) bb (by rw [aG])) (zN rfl rfl rfl rfl rfl aw (zN rfl rfl rfl rfl rfl ap (zN rfl rfl rfl rfl rfl aJ (zN rfl rfl rfl rfl rfl bc ?_))))))
           have jt:=cP.le eJ
           refine bnK oZ fun p8 ju o0=>zL 1 Z Z Z Z (zK Z Z Zl (zB Z (zB Z (zB Z (zB Z (zB Z zQ))))) Z) bD (fun hs=>ih bf O aa (w64 ((wAc (w64 (p1 + p3))) / 2)) (w64 ((w64 ((w64 ((wAc (w64 (p1 + p3))) / 2)) + p2)) - aE)) p3 p4 aj co bj hs jt ju) (.inl Z) ?_
           rintro fc qv rA ib q5 ln ⟨rfl,rfl,jv⟩
           have lp:SW w [B3] U fc [.row O aa 3 1 (hD KL.encI p8)] ib:=ln
           refine zW ?_
           have hE:=hH o0;first | subst r | cases hE
           exact ⟨Z,_,(wDM),fc,_,lp,Z,Z,(jv.trans aG)⟩
          ·intro dJ o5
           refine cF Z dJ (ZL ?_)
           have hE:=hH o5;first | subst r | cases hE
           exact ⟨Z,_,(wDM),bj,_,bD,Z,Z,aG⟩
         ·intro aX o6
          refine oF Z aX (oF Z aX (oF Z aX (oR Z (zm Z (zy aX.out) Z) (eN (zl Z (ZL ?_))))))
          have hE:=hH o6;first | subst r | cases hE
          exact ⟨Z,_,(wDM),bj,_,bD,Z,Z,aG⟩
       ·intro dF o7
        refine zl (fN.trans (congrArg hJ (nA.2 dF.out))) (kN (zJ (sR fL8 Z (oM Z cE (oM Z bz (oR Z (zO Z Z Z) (oM Z Z (ifc o7 ?_ ?_))))))))
        ·intro aY o8
         refine zN Z Z Z (wT Z aY) Z bz (zN Z Z Z (wT Z aY) Z aw (rU Z (wT Z aY) (zO Z Z Z) (oR Z (zk Z (ZW aY.out) Z) (eN (ifc o8 ?_ ?_)))))
         ·intro dK o9
          refine cT Z dK (rR (wDD (.fx 5 .nil .stop)) Z (oM Z bb (oM Z cE (oM Z bz (oM Z aw (oM Z bc ?_))))))
          have jw:=aH.le da
          have fT:=jw.le db
          refine bnK o9 fun eU jx pc=>zL 1 Z Z Z Z (zK Z Z Zl (zB Z (zB Z (zB Z (zB Z (zB Z zQ))))) Z) bw (fun hs=>ih p0 O aa p1 aE (w64 ((wAc (w64 (p1 + p3))) / 2)) p4 aj cm bi hs fT jx) (.inl Z) ?_
          rintro cc qw rB fy pN lq ⟨rfl,rfl,cR⟩
          have eB:SW w [B3] U cc [.row O aa 3 1 (hD KL.encI eU)] fy:=lq
          refine eN (sR fL8 Z (oM Z aw (oM Z ap (oR Z (zO Z Z Z) (oM Z Z (ifc pc ?_ ?_))))))
          ·intro aZ pd
           refine zN Z Z Z (wT Z aZ) Z ap (zN Z Z Z (wT Z aZ) Z aJ (rU Z (wT Z aZ) (zO Z Z Z) (oR Z (zk Z (ZW aZ.out) Z) (eN (ifc pd ?_ ?_)))))
           ·intro dL pe
            refine cT Z dL (rR (wDD (.fx 5 .nil .stop)) rfl (zN rfl rfl rfl rfl rfl (nJ (b:=(.slice O p0.length aa:Value)) (c:=(.slice O eU.length aa:Value)) bb (by rw [cR])) (zN rfl rfl rfl rfl rfl aw (zN rfl rfl rfl rfl rfl ap (zN rfl rfl rfl rfl rfl aJ (zN rfl rfl rfl rfl rfl bc ?_))))))
            have jy:=fT.le pN
            refine bnK pe fun p9 jz pf=>zL 1 Z Z Z Z (zK Z Z Zl (zB Z (zB Z (zB Z (zB Z (zB Z zQ))))) Z) eB (fun hs=>ih eU O aa (w64 ((wAc (w64 (p1 + p3))) / 2)) (w64 ((w64 ((w64 ((wAc (w64 (p1 + p3))) / 2)) + p2)) - aE)) p3 p4 aj fy cc hs jy jz) (.inl Z) ?_
            rintro fd qx rC ic q6 lu ⟨rfl,rfl,jA⟩
            have lv:SW w [B3] U fd [.row O aa 3 1 (hD KL.encI p9)] ic:=lu
            refine zW ?_
            have hE:=hH pf;first | subst r | cases hE
            exact ⟨Z,_,(wDM),fd,_,lv,Z,Z,(jA.trans cR)⟩
           ·intro dL pj
            refine cF Z dL (ZL ?_)
            have hE:=hH pj;first | subst r | cases hE
            exact ⟨Z,_,(wDM),cc,_,eB,Z,Z,cR⟩
          ·intro aZ pk
           refine oF Z aZ (oF Z aZ (oF Z aZ (oR Z (zm Z (zy aZ.out) Z) (eN (zl Z (ZL ?_))))))
           have hE:=hH pk;first | subst r | cases hE
           exact ⟨Z,_,(wDM),cc,_,eB,Z,Z,cR⟩
         ·intro dK pm
          refine cF Z dK (kN (sR fL8 Z (oM Z aw (oM Z ap (oR Z (zO Z Z Z) (oM Z Z (ifc pm ?_ ?_)))))))
          ·intro a7 pn
           refine zN Z Z Z (wT Z a7) Z ap (zN Z Z Z (wT Z a7) Z aJ (rU Z (wT Z a7) (zO Z Z Z) (oR Z (zk Z (ZW a7.out) Z) (eN (ifc pn ?_ ?_)))))
           ·intro dM po
            refine cT Z dM (rR (wDD (.fx 5 .nil .stop)) Z (oM Z bb (oM Z aw (oM Z ap (oM Z aJ (oM Z bc ?_))))))
            have jB:=aH.le da
            have jC:=jB.le db
            refine bnK po fun qa jD pp=>zL 1 Z Z Z Z (zK Z Z Zl (zB Z (zB Z (zB Z (zB Z (zB Z zQ))))) Z) bw (fun hs=>ih p0 O aa (w64 ((wAc (w64 (p1 + p3))) / 2)) (w64 ((w64 ((w64 ((wAc (w64 (p1 + p3))) / 2)) + p2)) - aE)) p3 p4 aj cm bi hs jC jD) (.inl Z) ?_
            rintro ff qy rD ie q7 lw ⟨rfl,rfl,jE⟩
            have lx:SW w [B3] U ff [.row O aa 3 1 (hD KL.encI qa)] ie:=lw
            refine zW ?_
            have hE:=hH pp;first | subst r | cases hE
            exact ⟨Z,_,(wDM),ff,_,lx,Z,Z,jE⟩
           ·intro dM pq
            refine cF Z dM (ZL ?_)
            have hE:=hH pq;first | subst r | cases hE
            exact ⟨Z,_,(wDM),bi,_,bw,Z,Z,Z⟩
          ·intro a7 pu
           refine oF Z a7 (oF Z a7 (oF Z a7 (oR Z (zm Z (zy a7.out) Z) (eN (zl Z (ZL ?_))))))
           have hE:=hH pu;first | subst r | cases hE
           exact ⟨Z,_,(wDM),bi,_,bw,Z,Z,Z⟩
        ·intro aY py
         refine oF Z aY (oF Z aY (oF Z aY (oR Z (zm Z (zy aY.out) Z) (eN (zl Z (kN (sR fL8 Z (oM Z aw (oM Z ap (oR Z (zO Z Z Z) (oM Z Z (ifc py ?_ ?_))))))))))))
         ·intro a8 pz
          refine zN Z Z Z (wT Z a8) Z ap (zN Z Z Z (wT Z a8) Z aJ (rU Z (wT Z a8) (zO Z Z Z) (oR Z (zk Z (ZW a8.out) Z) (eN (ifc pz ?_ ?_)))))
          ·intro dN pA
           refine cT Z dN (rR (wDD (.fx 5 .nil .stop)) Z (oM Z bb (oM Z aw (oM Z ap (oM Z aJ (oM Z bc ?_))))))
           have jF:=aH.le da
           have jG:=jF.le db
           refine bnK pA fun qb jH pB=>zL 1 Z Z Z Z (zK Z Z Zl (zB Z (zB Z (zB Z (zB Z (zB Z zQ))))) Z) bw (fun hs=>ih p0 O aa (w64 ((wAc (w64 (p1 + p3))) / 2)) (w64 ((w64 ((w64 ((wAc (w64 (p1 + p3))) / 2)) + p2)) - aE)) p3 p4 aj cm bi hs jG jH) (.inl Z) ?_
           rintro fg qz rE ig q8 ly ⟨rfl,rfl,jI⟩
           have lA:SW w [B3] U fg [.row O aa 3 1 (hD KL.encI qb)] ig:=ly
           refine zW ?_
           have hE:=hH pB;first | subst r | cases hE
           exact ⟨Z,_,(wDM),fg,_,lA,Z,Z,jI⟩
          ·intro dN pC
           refine cF Z dN (ZL ?_)
           have hE:=hH pC;first | subst r | cases hE
           exact ⟨Z,_,(wDM),bi,_,bw,Z,Z,Z⟩
         ·intro a8 pD
          refine oF Z a8 (oF Z a8 (oF Z a8 (oR Z (zm Z (zy a8.out) Z) (eN (zl Z (ZL ?_))))))
          have hE:=hH pD;first | subst r | cases hE
          exact ⟨Z,_,(wDM),bi,_,bw,Z,Z,Z⟩
end Go.Proofs.Ytkedcbligiebkaa
namespace Go.Proofs.Ytkedcbligiebkaa
open Go.KL
set_option maxHeartbeats 4000000
theorem wDP (p0:List Int) (O:Option Addr) (aa:Nat) (p1:Int) (p2:((Int × Int)->Option Int)) (ae:Value) (w:World) (U:PHeap) (hS:St0 w U [.row O aa 3 1 (hD KL.encI p0)]) (bE:FnOK Try.prog U ae wKw wKx p2) {r:(List Int)} (hm:wBH p0 p1 p2=some r):Gv Try.prog 28 [.slice O p0.length aa,jV p1,ae] w (wBz w [.row O aa 3 1 (hD KL.encI p0)] U (fun U_ L_ v=>v=.tuple #[]/\L_=[.row O aa 3 1 (hD KL.encI r)]/\r.length=p0.length)):=by
 unfold wBH at hm
 refine Gv.of Try.func28 Z Try.ntmps28 Try.results28 Z (sR fL1 Z (oA Z Z (eN (sR fL3 Z (oM Z Z (oA Z Z (oA Z Z (eN ?_))))))))
 have q:=bnd hm
 obtain ⟨⟨l2,x3⟩,c9,bM⟩:=q
 try dsimp only at bM
 let B0:Res:=.row O aa 3 1 (hD KL.encI p0)
 refine Zp (fun σ_ w_=>∃ (U_:PHeap),σ_ 0=.slice O l2.length aa/\σ_ 1=jV p1/\σ_ 2=ae/\σ_ 6=jV 20/\σ_ 7=jV x3/\PHeap.Le U U_/\SW w [B0] U U_ [.row O aa 3 1 (hD KL.encI l2)] w_/\l2.length=p0.length) ?_ ?_
 refine zU (yU (fun (an,bb,aH) σ_ w_=>∃ (U_:PHeap),σ_ 0=.slice O an.length aa/\σ_ 1=jV p1/\σ_ 2=ae/\σ_ 6=jV 20/\σ_ 7=jV bb/\σ_ 8=jV aH/\PHeap.Le U U_/\SW w [B0] U U_ [.row O aa 3 1 (hD KL.encI an)] w_/\an.length=p0.length) c9 ?_ ?_)
 exact ⟨U,Z,Z,Z,Z,Z,Z,(zM _),hS,Z⟩
 rintro ⟨an,bb,aH⟩ dv dz bY ⟨bh,aS,aT,aU,aV,bm,ay,a9,bC,bw⟩ aY cP
 try dsimp only at aY
 refine zJ (sR fL3 Z (oM Z ay (oM Z aT (oR Z (Runs.leq Z Z Z) (eN ?_)))))
 by_cases aj:aH <= p1
 have bK:=aY;rw [if_pos aj] at bK;replace aj:=zH aj
 refine cT Z aj (kN (zU (sR (wDL (.fx 4 .nil .stop)) Z (oM Z aS (oM Z bm (oM Z ay (oM Z aU ?_)))))))
 have cA:=bE.le a9
 refine bnK bK fun bR cB cY=>zL 1 Z Z Z Z (zK Z Z Try.call41 (zB Z (zB Z (zB Z (zB Z zQ)))) Z) bC (fun hs=>wBb an O aa bb aH p2 ae bY bh hs cA cB) (.inl Z) ?_
 rintro bi dl dr bZ dd cJ ⟨rfl,rfl,bx⟩
 have cK:SW w [B0] U bi [.row O aa 3 1 (hD KL.encI bR)] bZ:=cJ
 refine eN (sR fL2 Z (oM Z ay (oA Z Z (eN (rR fL4 Z (oM Z ay (oM Z aV (oR Z (zR Z Z Z) (oA Z Z (zW (zd ?_)))))))))))
 have q:=hH cY
 obtain rfl:=q
 exact zF ⟨rfl,_,rfl,⟨bi,(nJ (b:=(.slice O an.length aa:Value)) (c:=(.slice O bR.length aa:Value)) aS (by rw [bx])),aT,aU,aV,rfl,rfl,(a9.trans dd),cK,(bx.trans bw)⟩⟩
 have bL:=aY;rw [if_neg aj] at bL;replace aj:=zH aj
 refine cF Z aj (ZM (zc ?_))
 have q:=wAV bL
 obtain ⟨dh,cZ,ci⟩:=q
 have q:=cP dh ci
 obtain rfl:=q
 refine zc (ZC ?_)
 cases cZ
 exact zF ⟨Z,⟨bh,aS,aT,aU,aV,bm,a9,bC,bw⟩⟩
 rintro dA ca ⟨bT,bn,bo,bp,co,cp,de,cL,cC⟩
 refine sR (wDL (.fx 4 .nil .stop)) Z (oM Z bn (oM Z cp (oM Z bo (oM Z bp ?_))))
 have aW:=bE.le de
 refine bnK bM fun bS cD c6=>zL 1 Z Z Z Z (zK Z Z Try.call41 (zB Z (zB Z (zB Z (zB Z zQ)))) Z) cL (fun hs=>wBb l2 O aa x3 p1 p2 ae ca bT hs aW cD) (.inl Z) ?_
 rintro aI dm dt cb bN cM ⟨rfl,rfl,bz⟩
 have cN:SW w [B0] U aI [.row O aa 3 1 (hD KL.encI bS)] cb:=cM
 refine eN (zU (yU (fun (az,ak) σ_ w_=>∃ (U_:PHeap),σ_ 0=.slice O az.length aa/\σ_ 1=jV p1/\σ_ 2=ae/\σ_ 6=jV ak/\PHeap.Le aI U_/\SW w [B0] U U_ [.row O aa 3 1 (hD KL.encI az)] w_/\az.length=p0.length) c6 ?_ ?_))
 exact ⟨aI,(nJ (b:=(.slice O l2.length aa:Value)) (c:=(.slice O bS.length aa:Value)) bn (by rw [bz])),bo,bp,co,(zM _),cN,(bz.trans cC)⟩
 rintro ⟨az,ak⟩ dw dB dn ⟨au,cj,bj,cm,aK,aE,bD,bq⟩ aZ cQ
 try dsimp only at aZ
 refine zJ (sR fL3 Z (oM Z aK (oM Z bj (oR Z (zO Z Z Z) (eN ?_)))))
 by_cases ag:ak < p1
 have bF:=aZ;rw [if_pos ag] at bF;replace ag:=zH ag
 refine cT Z ag (kN (zU (sR fL4 Z (oM Z aK (oR Z (Runs.mulw Z Z Z) (oA Z Z (oA Z Z (eN ?_))))))))
 have q:=bnd bF
 obtain ⟨⟨ap,ba⟩,c8,bG⟩:=q
 try dsimp only at bG
 refine Zp (fun σ_ w_=>∃ (U_:PHeap),σ_ 0=.slice O ap.length aa/\σ_ 1=jV p1/\σ_ 2=ae/\σ_ 6=jV ak/\σ_ 7=jV ba/\PHeap.Le au U_/\SW w [B0] U U_ [.row O aa 3 1 (hD KL.encI ap)] w_/\ap.length=p0.length) ?_ ?_
 refine zU (yU (fun (am,aF,aG) σ_ w_=>∃ (U_:PHeap),σ_ 0=.slice O am.length aa/\σ_ 1=jV p1/\σ_ 2=ae/\σ_ 6=jV ak/\σ_ 7=jV aF/\σ_ 8=jV aG/\PHeap.Le au U_/\SW w [B0] U U_ [.row O aa 3 1 (hD KL.encI am)] w_/\am.length=p0.length) c8 ?_ ?_)
 exact ⟨au,cj,bj,cm,aK,Z,Z,(zM _),bD,bq⟩
 rintro ⟨am,aF,aG⟩ du dx bU ⟨bc,aL,aM,aN,av,aO,aw,a7,bA,br⟩ aX cO
 try dsimp only at aX
 refine zJ (sR fL3 Z (oM Z aw (oM Z aM (oR Z (Runs.leq Z Z Z) (eN ?_)))))
 by_cases ai:aG <= p1
 have bH:=aX;rw [if_pos ai] at bH;replace ai:=zH ai
 refine cT Z ai (kN (zU (sR (wHE (.fx 7 .nil .stop)) Z (oM Z aL (oM Z aO (oM Z aO (oM Z av (oR Z (zR Z Z Z) (oM Z aw (oM Z aN ?_))))))))))
 have cq:=aW.le bN
 have cr:=cq.le aE
 have ct:=cr.le a7
 refine bnK bH fun bO cu cR=>zL 1 Z Z Z Z (zK Z Z Zl (zB Z (zB Z (zB Z (zB Z (zB Z zQ))))) Z) bA (fun hs=>wBy 1000 am O aa aF (w64 (aF + ak)) aG p2 ae bU bc hs ct cu) (.inl Z) ?_
 rintro be di dp bV da cE ⟨rfl,rfl,bt⟩
 have cG:SW w [B0] U be [.row O aa 3 1 (hD KL.encI bO)] bV:=cE
 refine eN (sR fL2 Z (oM Z aw (oA Z Z (eN (rR fL5 Z (oM Z aw (oM Z av (oR Z (Runs.mulw Z Z Z) (oR Z (zR Z Z Z) (oA Z Z (zW (zd ?_))))))))))))
 have q:=hH cR
 obtain rfl:=q
 exact zF ⟨rfl,_,rfl,⟨be,(nJ (b:=(.slice O am.length aa:Value)) (c:=(.slice O bO.length aa:Value)) aL (by rw [bt])),aM,aN,av,rfl,rfl,(a7.trans da),cG,(bt.trans br)⟩⟩
 have bI:=aX;rw [if_neg ai] at bI;replace ai:=zH ai
 refine cF Z ai (ZM (zc ?_))
 have q:=wAV bI
 obtain ⟨df,cS,cc⟩:=q
 have q:=cO df cc
 obtain rfl:=q
 refine zc (ZC ?_)
 cases cS
 exact zF ⟨Z,⟨bc,aL,aM,aN,av,aO,a7,bA,br⟩⟩
 rintro dy bW ⟨bf,aP,ax,aQ,aR,bk,a8,bB,bu⟩
 refine zJ (sR fL4 Z (oM Z bk (oM Z aR (oR Z (zR Z Z Z) (oA Z Z (eN (sR fL3 Z (oM Z Z (oM Z ax (oR Z (zO Z Z Z) (eN (ifc bG ?_ ?_))))))))))))
 intro aJ cU
 refine cT Z aJ (rR (wDD (.fx 5 .nil .stop)) Z (oM Z aP (oM Z bk (oM Z Z (oM Z ax (oM Z aQ ?_))))))
 have cw:=aW.le bN
 have cx:=cw.le aE
 have cy:=cx.le a8
 refine bnK cU fun bP cz cV=>zL 1 Z Z Z Z (zK Z Z Zl (zB Z (zB Z (zB Z (zB Z (zB Z zQ))))) Z) bB (fun hs=>wBy 1000 ap O aa ba (w64 (ba + ak)) p1 p2 ae bW bf hs cy cz) (.inl Z) ?_
 rintro bg dk dq bX db cH ⟨rfl,rfl,bv⟩
 have cI:SW w [B0] U bg [.row O aa 3 1 (hD KL.encI bP)] bX:=cH
 refine eN (rR fL3 Z (oM Z aR (oR Z (Runs.mulw Z Z Z) (oA Z Z (zW (zd ?_))))))
 have q:=hH cV
 obtain rfl:=q
 exact zF ⟨rfl,_,rfl,⟨bg,(nJ (b:=(.slice O ap.length aa:Value)) (c:=(.slice O bP.length aa:Value)) aP (by rw [bv])),ax,aQ,rfl,((aE.trans a8).trans db),cI,(bv.trans bu)⟩⟩
 intro aJ cW
 refine cF Z aJ (kN (rR fL3 Z (oM Z aR (oR Z (Runs.mulw Z Z Z) (oA Z Z (zW (zd ?_)))))))
 have q:=hH cW
 obtain rfl:=q
 exact zF ⟨Z,_,Z,⟨bf,aP,ax,aQ,Z,(aE.trans a8),bB,bu⟩⟩
 have bJ:=aZ;rw [if_neg ag] at bJ;replace ag:=zH ag
 refine cF Z ag (ZM (zc ?_))
 have q:=wAV bJ
 obtain ⟨dg,cX,cd⟩:=q
 have q:=cQ dg cd
 obtain rfl:=q
 refine zc (ZC ?_)
 have hE:=hH cX;first | subst r | cases hE
 exact ⟨Z,_,(wDM),au,_,bD,Z,Z,bq⟩
theorem wCo (O:List Int) (aa:Option Addr) (ab:Nat) (p1:((Int × Int)->Option Int)) (ae:Value) (w:World) (U:PHeap) (hS:St0 w U [.row aa ab 3 1 (hD KL.encI O)]) (an:FnOK Try.prog U ae wKw wKx p1) {r:(List Int)} (hm:wAi O p1=some r):Gv Try.prog 14 [.slice aa O.length ab,ae] w (wBz w [.row aa ab 3 1 (hD KL.encI O)] U (fun U_ L_ v=>v=.tuple #[]/\L_=[.row aa ab 3 1 (hD KL.encI r)]/\r.length=O.length)):=by
 unfold wAi at hm
 refine Gv.of Try.func14 Z Try.ntmps14 Try.results14 Z (rR (wDL (.fx 4 .nil .stop)) Z (oM Z Z (oM Z Z (oR Z (ZB Z Z zD) (oM Z Z (bnK hm fun x2 h3 ao=>zL 1 Z Z Z Z (zK Z Z Try.call28 (zB Z (zB Z (zB Z zQ))) Z) hS (fun hs=>wDP O aa ab (↑O.length:Int) p1 ae w U hs an h3) (.inl Z) ?_))))))
 rintro U5 L6 v7 W8 au ak ⟨rfl,rfl,ai⟩
 have am:SW w [.row aa ab 3 1 (hD KL.encI O)] U U5 [.row aa ab 3 1 (hD KL.encI x2)] W8:=ak
 refine zW ?_
 have hE:=hH ao;first | subst r | cases hE
 exact ⟨Z,_,(wDM),U5,_,am,Z,Z,ai⟩
theorem wFP (O:List wAI) (af:Option Addr) (ag:Nat) (p1:wAX) (w:World) (U:PHeap) (hS:St0 w U []) (dG:Sl U 2 af ag O.length (hD wAb O)) {r:(List wBF) × Int} (hm:wCD O p1=some r):Gv Try.prog 7 [.slice af O.length ag,.agg #[jV p1.Unit,jV p1.Limit]] w (wBz w [] U (fun U_ L_ v=>∃ (A0:Option Addr) (c0:Nat),v=.tuple #[.slice A0 r.1.length c0,jV r.2]/\L_=[.row A0 c0 47 3 (hD wAy r.1)])):=by
 unfold wCD at hm
 refine Gv.of Try.func7 rfl Try.ntmps7 Try.results7 rfl (sR gAw rfl (ZD (cs:=[.slice af O.length ag]) rfl rfl rfl rfl rfl rfl (by rfl) hS ?_))
 intro W1 b2 dw
 have q:=dw.freeze (k:=0) rfl
 obtain ⟨U5,d6,aq,dB⟩:=q
 replace aq:=Cl.of aq
 have dD:sW w U U5 [] W1:=dB
 replace aq:Cl U5 b2 0 [.slice af O.length ag]:=aq
 let B0:List Value:=[jV p1.Unit,jV p1.Limit]
 refine ZD (cs:=B0) rfl rfl rfl rfl rfl rfl (by rfl) dD ?_
 intro cb ab bb
 refine oA Z Z (oA Z Z (eN (sR (.fl 0 (.fl 1 (.fx 2 (wLU (.fx 6 (.fx 7 (.fl 8 .nil) .stop) .stop)) .stop))) Z (oL Z (bb.ldC (f:=0) aq (v:=.slice af O.length ag) Z Z Try.isAgg25 Z) (oL Z (bb.ldBA (j:=0) Z Z Z Try.isAgg35 Try.sizeOf35 (vs:=B0) Z Z) ?_)))))
 have bL:=dG.le d6
 have q:=bnd hm
 obtain ⟨⟨aj,d9⟩,cO,bQ⟩:=q
 try dsimp only at bQ
 refine zL 0 Z Z Z Z (zK Z Z Try.call13 (zB Z (zB Z zQ)) Z) bb (fun hs=>wEx O af ag p1 cb U5 hs bL cO) (.inr Z) ?_
 rintro aF eh eL ci bT dr ⟨ay,aG,rfl,rfl⟩
 let B1:Res:=.row ay aG 3 1 (hD KL.encI aj)
 have dv:sW w U aF [B1,.blk ab 35 B0] ci:=dr
 refine oM Z Z (oR Z (zn Z Z (v:=.slice ay aj.length aG) Z) (oR Z (zn Z Z (v:=jV d9) Z) (zY (cs:=[.slice none 0 0]) Z Z Z Z Z Try.zeroValue41 Z dv ?_)))
 intro eo ac dx
 let B2:List Value:=[.slice ay aj.length aG]
 refine za (j:=0) (vs:=B2) Z Z Z Z dx Z Z Z Z ZE (zA Z) Z Z Z ?_
 intro cm dy
 have be:sW w U aF [.blk ac 41 B2,B1,.blk ab 35 B0] cm:=dy
 refine oA Z Z (eN (zJ (sR fL2 Z (oM Z Z (oR Z (Zo Z Z Z) (eN (ifc bQ ?_ ?_)))))))
 intro aY dV
 refine zl (zy (fun h=>h aY.out)) (kN (sR fL1 Z (oA Z Z (eN (zJ (sR fL3 Z ?_))))))
 have bM:=aq.le bT
 refine oL Z (be.ldC (f:=0) bM (v:=.slice af O.length ag) Z Z Try.isAgg25 Z) (oR Z (ZB Z Z ZZ) (oM Z Z (eN (zU (bnK dV fun bk dJ dW=>?_)))))
 have q:=wBN dJ
 obtain ⟨bi,dK⟩:=q
 replace bi:=zH bi
 refine CK.forN' (fun ae aJ σ_ w_=>∃ (U_:PHeap) (aM:Option Addr) (aQ:Nat),σ_ 24=jV (↑ae:Int)/\σ_ 2=.pointer (some ⟨b2,0,none⟩)/\σ_ 6=.pointer (some ⟨ac,0,none⟩)/\σ_ 8=.slice aM aJ.length aQ/\σ_ 23=jV (↑O.length:Int)/\PHeap.Le aF U_/\sW w U U_ [B1,.blk ac 41 B2,.blk ab 35 B0,.row aM aQ 3 1 (hD KL.encI aJ)] w_) dK ?_ ?_ ?_
 have dz:=be.nilrow 3 1
 exact ⟨aF,none,0,rfl,rfl,rfl,rfl,rfl,(zM _),(dz.pick [2,1,3,0] _ (by decide) rfl)⟩
 rintro ae aJ eO eV ep bg ⟨aX,aM,aQ,a7,cB,cC,cD,bH,d7,dA⟩ d5
 have bx:Hid ((↑ae:Int) < (↑O.length:Int)):=zH (wBG bg)
 replace bg:=zH bg
 have dN:Hid (w64 ((↑ae:Int) + 1)=(↑(ae + 1):Int)):=zH (by have h1:=bi.out;have h2:=bx.out;rw [wAY] <;> omega)
 refine sR fL1 Z (oR Z (zO Z a7 bH) (eN (zJ (cT Z bx (kN (zJ (zU (sR fL2 Z (oM Z a7 (oA Z Z (eN (rR (.fl 0 (.fl 1 (.fx 2 (.fx 3 (.fl 4 .nil) .stop) .stop))) Z (oM Z cD (oM Z Z (ZF (pv:=[(0,jV (↑ae:Int))]) (zs:=[jV 0]) (cs:=[jV (↑ae:Int)]) Z Z Z Z Z (wAC Z wAR) zD zC ZN Z Z Z Z Z dA ?_)))))))))))))))
 intro co cr dC
 let B3:Res:=.row (some ⟨cr,0,none⟩) 1 3 1 (hD KL.encI [(↑ae:Int)])
 have bP:sW w U aX [B3,B1,.blk ac 41 B2,.blk ab 35 B0,.row aM aQ 3 1 (hD KL.encI aJ)] co:=dC
 refine bnK d5 fun bV cZ dX=>Zy (j:=4) (enc:=KL.encI) (xs:=aJ) (ys:=[(↑ae:Int)]) (zs:=bV) rfl rfl rfl rfl rfl Try.underlying41 wIw rfl rfl rfl rfl rfl rfl bP rfl rfl rfl (bP.srcR (j:=0) rfl (by decide) (wAG (f:=KL.encI) (sz:=1) (fun _=>rfl) [(↑ae:Int)])) (fun _=>rfl) (fun _=>rfl) cZ rfl ?_
 intro bo bz cp dE
 have dF:sW w U aX [B3,B1,.blk ac 41 B2,.blk ab 35 B0,.row bo bz 3 1 (hD KL.encI bV)] cp:=dE
 refine oA Z Z (zW (zd (zF (rR fL2 Z (oR Z (ZJ (zR Z a7 Z) (congrArg (jV) dN.out)) (oM Z Z (zW ?_)))))))
 cases dX
 exact zF ⟨rfl,⟨aX,bo,bz,rfl,cB,cC,rfl,bH,d7,(dF.pick [1,2,3,4] _ (by decide) rfl)⟩⟩
 rintro eW aO ⟨ej,an,ao,cG,bA,bB,bC,cx,bR,dd⟩
 have ct:Hid (¬ ((↑(((↑O.length:Int):Int) - 0).toNat:Int) < (↑O.length:Int))):=zH (wAp)
 refine sR fL1 Z (oR Z (zO Z cG cx) (eN (zJ (cF Z ct (ZM (zc (zc (ZC (zF (sR gAm Z (oM Z bC ?_)))))))))))
 have q:=dd.freezeR (k:=0) (n:=aj.length) rfl (wAG (f:=KL.encI) (sz:=1) (fun _=>rfl) aj) (by decide)
 obtain ⟨bY,bS,dY,df⟩:=q
 let B4:Res:=.row an ao 3 1 (hD KL.encI bk)
 have dg:sW w U bY [.blk ac 41 B2,.blk ab 35 B0,B4] aO:=df
 have q:=dg.freeze (k:=0) rfl
 obtain ⟨aE,bj,ap,de⟩:=q
 replace ap:=Cl.of ap
 have dh:sW w U aE [.blk ab 35 B0,B4] aO:=de
 replace ap:Cl aE ac 0 B2:=ap
 refine oR Z (Runs.mkf Z zQ (zB bB (zB bA zQ))) ?_
 have bI:=dY.le bj
 have cH:=bM.le bR
 have cI:=cH.le bS
 have bJ:=cI.le bj
 have cJ:=bL.le bT
 have cK:=cJ.le bR
 have cL:=cK.le bS
 have bK:=cL.le bj
 have db:FnOK Try.prog aE (.func (.func 15) #[] #[.pointer (some ⟨ac,0,none⟩),.pointer (some ⟨b2,0,none⟩)]) wKw wKx (fun x=>wBD x.1 x.2 aj O):=⟨15,[],[.pointer (some ⟨ac,0,none⟩),.pointer (some ⟨b2,0,none⟩)],rfl,Try.call15,fun U1 w1 x y vs le hs ha hm=>by obtain rfl:=ha;exact wEh x.1 x.2 aj ac ay aG O b2 af ag w1 U1 hs (ap.le le) (bI.le le) (bJ.le le) (bK.le le) hm⟩
 refine bnK dW fun ai cM dO=>?_
 have di:sW w U aE [B4,.blk ab 35 B0] aO:=dh.pick [1,0] _ (by decide) rfl
 refine zL 1 Z Z Z Z (zK Z Z Try.call14 (zB Z (zB Z zQ)) Z) di (fun hs=>wCo bk an ao (fun x=>wBD x.1 x.2 aj O) (.func (.func 15) #[] #[.pointer (some ⟨ac,0,none⟩),.pointer (some ⟨b2,0,none⟩)]) aO aE hs db cM) (.inl Z) ?_
 rintro aU ef eJ cc aR dk ⟨rfl,rfl,cN⟩
 let B5:Res:=.row an ao 3 1 (hD KL.encI ai)
 have dl:sW w U aU [B5,.blk ab 35 B0] cc:=dk
 refine eN (sR fL1 rfl (yF rfl rfl rfl rfl rfl rfl (eN (zJ (sR fL3 rfl (zN rfl rfl rfl rfl rfl (nJ (b:=(.slice an bk.length ao:Value)) (c:=(.slice an ai.length ao:Value)) bC (by rw [cN])) (zb rfl rfl rfl rfl (fun _=>ZB rfl rfl zD) (zN rfl rfl rfl rfl rfl rfl (eN (zU (bnK dO fun eQ dH dP=>?_)))))))))))
 have q:=wBN dH
 obtain ⟨bh,dI⟩:=q
 replace bh:=zH bh
 refine CK.forN' (fun aH aI σ_ w_=>∃ (U_:PHeap) (aL:Option Addr) (aP:Nat),σ_ 37=jV (↑aH:Int)/\σ_ 2=.pointer (some ⟨b2,0,none⟩)/\σ_ 6=.pointer (some ⟨ac,0,none⟩)/\σ_ 10=.slice aL aI.length aP/\σ_ 35=.slice an ai.length ao/\σ_ 36=jV (↑ai.length:Int)/\PHeap.Le aU U_/\sW w U U_ [.blk ab 35 B0,.row aL aP 47 3 (hD wAy aI),B5] w_) dI ?_ ?_ ?_
 have dm:=dl.nilrow 47 3
 exact ⟨aU,none,0,rfl,bA,bB,rfl,rfl,rfl,(zM _),(dm.pick [2,0,1] _ (by decide) rfl)⟩
 rintro aH aI eM eT bt bf ⟨aV,aL,aP,aZ,bD,bE,cy,bF,bG,aK,bc⟩ dZ
 have bv:Hid ((↑aH:Int) < (↑ai.length:Int)):=zH (wBG bf)
 replace bf:=zH bf
 have dM:Hid (w64 ((↑aH:Int) + 1)=(↑(aH + 1):Int)):=zH (by have h1:=bh.out;have h2:=bv.out;rw [wAY] <;> omega)
 refine sR fL1 Z (oR Z (zO Z aZ bG) (eN (zJ (cT Z bv (kN (zJ (zU (sR fL3 Z (bnK dZ fun _ a8 dQ=>?_)))))))))
 obtain ⟨ez,bN⟩:=bc.rowSome (j:=2) rfl (by rw [wAG (f:=KL.encI) (sz:=1) (fun _=>rfl) ai];have hz:=wAM a8;omega)
 refine oR Z (Zb Z bF bN aZ zD zC (wAM a8)) ?_
 have dL:=wAk (xs:=ai) (wAM a8)
 refine zt rfl rfl rfl rfl (bc.ldR (j:=2) rfl bN rfl rfl zE (wAO (sz:=1) (fun _=>rfl) _ _ 0 _ dL (by first | omega | rfl | simp) rfl)) rfl (yF rfl rfl rfl rfl rfl rfl (eN (zw zx [3,1,3,3,3,1,1,3,3,1,3,2,0,3] (wIE (.fx 11 (.fx 12 (.fl 13 .nil) .stop) .stop)) (by kernel_rfl) ?_)))
 have au:=bc.drew
 generalize hw_W192:({ bt with drawn:=bt.drawn + 1 }:World)=ek at au ⊢
 refine oM Z cy ?_
 have cP:=bJ.le aR
 have cQ:=cP.le aK
 refine oL Z (au.ldC (f:=0) cQ (v:=.slice af O.length ag) Z bD Try.isAgg25 Z) (oM Z Z (bnK dQ fun aw a9 dR=>?_))
 have cR:=bK.le aR
 have cS:=cR.le aK
 have q:=cS.el (fun _=>rfl) (wAr a9)
 obtain ⟨eB,eH,c6,c9⟩:=q
 refine oR Z (zr Z Z c6 Z ZZ Zh (wCS a9) (wCY a9)) (oR Z (zI Z Z Zv Z zC) (oL Z (au.ldC (f:=0) c9 (v:=jV aw.Bib) Z Z zE Z) ?_))
 have cU:=ap.le aR
 have cV:=cU.le aK
 refine oL Z (au.ldC (f:=0) cV (v:=.slice ay aj.length aG) Z bE ZI Z) (oM Z Z (bnK dR fun ax ba dS=>?_))
 have cW:=bI.le aR
 have cX:=cW.le aK
 have q:=cX.el (fun _=>rfl) (wAr ba)
 obtain ⟨eC,eI,c8,da⟩:=q
 refine oR Z (zr Z Z c8 Z zD zC (wCS ba) (wCY ba)) (oL Z (au.ldC (f:=0) da (v:=jV ax) Z Z zE Z) ?_)
 let B6:List Value:=[jV aw.Bib,jV ax,jV 0]
 let B7:List Value:=[jV 0,jV 0,jV 0]
 refine oR Z (zq (pv:=[(0,jV aw.Bib),(1,jV ax)]) (z:=B7) (cs:=B6) Z (wAC Z (wAC Z wAR)) Try.zeroValue47 wJr Z Z) (ZF (pv:=[(0,.agg B6.toArray)]) (zs:=B7) (cs:=B6) Z Z Z Z Z (wAC Z wAR) Try.runUnderlying30 Try.sizeOf47 Try.zeroValue47 Z Z Z Z Z au ?_)
 intro cd cq dn
 let B8:Res:=.row (some ⟨cq,0,none⟩) 1 47 3 (hD wAy [(⟨aw.Bib,ax,0⟩:wBF)])
 have bO:sW w U aV [B8,.blk ab 35 B0,.row aL aP 47 3 (hD wAy aI),B5] cd:=dn
 refine bnK dS fun bU cY dT=>Zy (j:=2) (enc:=wAy) (xs:=aI) (ys:=[(⟨aw.Bib,ax,0⟩:wBF)]) (zs:=bU) rfl rfl rfl rfl rfl Try.underlying30 wLq rfl rfl rfl rfl rfl rfl bO rfl rfl rfl (bO.srcR (j:=0) rfl (by decide) (wAG (f:=wAy) (sz:=3) (fun _=>rfl) [(⟨aw.Bib,ax,0⟩:wBF)])) (fun _=>rfl) (fun _=>rfl) cY rfl ?_
 intro bn bw cj dp
 have dq:sW w U aV [B8,.blk ab 35 B0,.row bn bw 47 3 (hD wAy bU),B5] cj:=dp
 refine oA Z Z (zW (zd (zF (rR fL2 Z (oR Z (ZJ (zR Z aZ Z) (congrArg (jV) dM.out)) (oM Z Z (zW ?_)))))))
 cases dT
 exact zF ⟨rfl,⟨aV,bn,bw,rfl,bD,bE,rfl,bF,bG,aK,(dq.pick [1,2,3] _ (by decide) rfl)⟩⟩
 rintro eU en ⟨bZ,bW,cu,cE,eD,eE,cz,eF,cA,eG,dt⟩
 have cw:Hid (¬ ((↑(((↑ai.length:Int):Int) - 0).toNat:Int) < (↑ai.length:Int))):=zH (wAp)
 refine sR fL1 Z (oR Z (zO Z cE cA) (eN (zJ (cF Z cw (ZM (zc (zc (ZC (zF (sR fL3 Z (oM Z cz (oA Z Z (oA Z Z (eN (zT ?_)))))))))))))))
 cases dP
 exact ⟨rfl,_,(wEz rfl rfl),bZ,_,(dt.pick [1] _ (by decide) rfl),bW,cu,rfl,rfl⟩
 intro aY dU
 refine cT Z aY (sR fL3 Z (oM Z Z (oA Z Z (oA Z Z (eN (zT (zP ?_)))))))
 have du:=be.nilrow 47 3
 cases dU
 exact ⟨rfl,_,(wEz rfl rfl),aF,_,(du.pick [0] _ (by decide) rfl),none,0,rfl,rfl⟩
theorem wDj (O:wAL) (aa:Nat) (ab:Option Addr) (ac:Nat) (p1:Int) (w:World) (U:PHeap) (hS:St0 w U [.blk aa 61 [.slice ab O.bytes.length ac,jV O.next,.int .u32 O.state]]) (aw:Sl U 1 ab ac O.bytes.length (hD KL.encB8 O.bytes)) {r:Bool × wAL} (hm:wAw O p1=some r):Gv Try.prog 9 [.pointer (some ⟨aa,0,none⟩),jV p1] w (wBz w [.blk aa 61 [.slice ab O.bytes.length ac,jV O.next,.int .u32 O.state]] U (fun U_ L_ v=>∃ (ai:Option Addr) (am:Nat),v=.bool r.1/\L_=[.blk aa 61 [.slice ai r.2.bytes.length am,jV r.2.next,.int .u32 r.2.state]]/\Sl U_ 1 ai am r.2.bytes.length (hD KL.encB8 r.2.bytes))):=by
 unfold wAw at hm
 refine Gv.of Try.func9 Z Try.ntmps9 Try.results9 Z (sR fL1 Z (oA Z Z (eN (sR gAz Z (oM Z Z (oM Z Z ?_))))))
 have q:=bnd hm
 obtain ⟨⟨x2,x3⟩,h4,an⟩:=q
 try dsimp only at an
 refine zL 1 Z Z Z Z (zK Z Z Try.call6 (zB Z (zB Z zQ)) Z) hS (fun hs=>wBX O aa ab ac p1 w U hs aw h4) (.inl Z) ?_
 rintro U6 L7 v8 W9 ay au ⟨ag,ak,rfl,rfl,ap⟩
 have av:SW w [.blk aa 61 [.slice ab O.bytes.length ac,jV O.next,.int .u32 O.state]] U U6 [.blk aa 61 [.slice ag x3.bytes.length ak,jV x3.next,.int .u32 x3.state]] W9:=au
 refine oR Z (Runs.eql Z Z Z) (oA Z Z (eN (zT ?_)))
 cases an
 exact ⟨Z,_,(ZK Z),U6,_,av,ag,ak,Z,Z,ap⟩
theorem wDN (p0:Int) (p1:Int) (p2:Int) (w:World) (U:PHeap) (hS:St0 w U [])  {r:Bool} (hm:wCE p0 p1 p2=some r):Gv Try.prog 45 [jV p0,jV p1,jV p2] w (wBz w [] U (fun U_ L_ v=>v=.bool r/\L_=[])):=by
 unfold wCE at hm
 refine Gv.of Try.func45 Z Try.ntmps45 Try.results45 Z (sR fL1 Z (oA Z Z (eN (sR fL9 Z (oM Z Z (oM Z Z (oR Z (Runs.geq Z Z Z) (oM Z Z ?_))))))))
 by_cases O:p1 <= p0
 have aa:=hm;rw [if_pos O] at aa;replace O:=zH O
 refine zN Z Z Z (wT Z O) Z Z (zN Z Z Z (wT Z O) Z Z (rU Z (wT Z O) (Runs.leq Z Z Z) (oR Z (zk Z (ZW O.out) Z) (oA Z Z (eN (zT ?_))))))
 first | (obtain rfl:=hH aa) | cases aa
 exact ⟨Z,_,(ZK Z),U,_,hS,Z,Z⟩
 have ae:=hm;rw [if_neg O] at ae;replace O:=zH O
 refine oF Z O (oF Z O (oF Z O (oR Z (zm Z (zy O.out) Z) (oA Z Z (eN (zT ?_))))))
 have hE:=hH ae;first | subst r | cases hE
 exact ⟨Z,_,(ZK Z),U,_,hS,Z,Z⟩
theorem wEi (O:List Int) (ak:Option Addr) (am:Nat) (p1:(Int->Option Bool)) (an:Value) (w:World) (U:PHeap) (hS:St0 w U []) (aT:Sl U 1 ak am O.length (hD KL.encI O)) (aU:FnOK Try.prog U an ar48 rr48 p1) {r:Bool} (hm:wBi O p1=some r):Gv Try.prog 49 [.slice ak O.length am,an] w (wBz w [] U (fun U_ L_ v=>v=.bool r/\L_=[])):=by
 unfold wBi at hm
 refine Gv.of Try.func49 Z Try.ntmps49 Try.results49 Z (sR fL1 Z (oA Z Z (eN (zJ (sR fL3 Z (oM Z Z (oR Z (ZB Z Z zD) (oM Z Z (eN (zU ?_))))))))))
 have q:=wBx hm
 obtain ⟨r3,af⟩:=q
 have q:=wBw af
 obtain ⟨ai,aX⟩:=q
 replace ai:=zH ai
 refine yE (fun k2 _ σ_ w_=>∃ (U_:PHeap),σ_ 9=jV (↑k2:Int)/\σ_ 1=an/\σ_ 7=.slice ak O.length am/\σ_ 8=jV (↑O.length:Int)/\PHeap.Le U U_/\sW w U U_ [] w_) aX ?_ ?_ ?_
 exact ⟨U,Z,Z,Z,Z,(zM _),hS⟩
 rintro k2 ⟨⟩ br bu W8 ag ⟨bf,ae,ap,aq,au,aj,aw⟩ az aV
 try dsimp only at az
 have ao:Hid ((↑k2:Int) < (↑O.length:Int)):=zH (wBG ag)
 replace ag:=zH ag
 have aY:Hid (w64 ((↑k2:Int) + 1)=(↑(k2 + 1):Int)):=zH (by have h1:=ai.out;have h2:=ao.out;rw [wAY] <;> omega)
 refine sR fL1 Z (oR Z (zO Z ae au) (eN (zJ (cT Z ao (kN (zJ (zU (sR fL3 Z (bnK az fun aF av aZ=>?_)))))))))
 have aM:=aT.le aj
 have q:=aM.el (fun _=>rfl) (wAr av)
 obtain ⟨bi,bn,aP,aQ⟩:=q
 refine oR Z (Zb Z aq aP ae zD zC (wCz av)) (oL Z (aw.ldC (f:=0) aQ (v:=jV aF) Z Z zE Z) (oA Z Z (eN (sR gAu Z (oM Z ap (oM Z Z (bnK aZ fun bq aN a7=>?_)))))))
 have aO:=aU.le aj
 refine yI (a:=aF) Z Z Z Z Z Z (zB Z zQ) aw aO Z aN ?_
 rintro ab be bp aH bb aR ⟨rfl,rfl⟩
 have ax:sW w U ab [] aH:=aR
 refine oR Z (ZV Z Z) (eN (ifc a7 ?_ ?_))
 intro ac a8
 refine zl (nC ac.out) (ZL (zd (zF (rR fL2 Z (oR Z (ZJ (zR Z ae Z) (congrArg (jV) aY.out)) (oM Z Z (zW ?_)))))))
 have q:=hH a8
 obtain rfl:=q
 exact zF ⟨Z,_,Z,⟨ab,Z,ap,aq,au,(aj.trans bb),ax⟩⟩
 intro ac a9
 refine ZA (nF (ac.out)) (sR fL1 Z (oA Z Z (eN (zT (zV (zP ?_))))))
 have q:=wAV a9
 obtain ⟨bc,ba,aJ⟩:=q
 have q:=wBA hm af (aV bc aJ)
 obtain rfl:=q
 refine zP (zV (zP ?_))
 have hE:=hH ba;first | subst r | cases hE
 exact ⟨Z,_,(ZK Z),ab,_,ax,Z,Z⟩
 rintro ⟨⟩ bt bg ⟨aG,aL,bj,bk,aK,bm,aS⟩ aW
 have ay:=wCl hm af aW
 try dsimp only at ay
 have aI:Hid (¬ ((↑(((↑O.length:Int):Int) - 0).toNat:Int) < (↑O.length:Int))):=zH (wAp)
 refine sR fL1 Z (oR Z (zO Z aL aK) (eN (zJ (cF Z aI (ZM (zc (zc (ZC (zF (sR fL1 Z (oA Z Z (eN (zT ?_)))))))))))))
 have hE:=hH ay;first | subst r | cases hE
 exact ⟨Z,_,(ZK Z),aG,_,aS,Z,Z⟩
theorem wFh (O:Int) (w:World) (U:PHeap) (hS:St0 w U [])  {r:Bool} (hm:wBp O=some r):Gv Try.prog 50 [jV O] w (wBz w [] U (fun U_ L_ v=>v=.bool r/\L_=[])):=by
 unfold wBp at hm
 refine Gv.of Try.func50 Z Try.ntmps50 Try.results50 Z (sR fL1 Z (oA Z Z (eN (sR gAn Z (oM Z Z (bnK hm fun x1 h2 ag=>zL 0 Z Z Z Z (zK Z Z Try.call45 (zB Z (zB Z (zB Z zQ))) Z) hS (fun hs=>wDN O 0 360000 w U hs h2) (.inr Z) ?_))))))
 rintro U4 L5 v6 W7 aj af ⟨rfl,rfl⟩
 have ae:sW w U U4 [] W7:=af
 refine oA Z Z (eN (zT ?_))
 have hE:=hH ag;first | subst r | cases hE
 exact ⟨Z,_,(ZK Z),U4,_,ae,Z,Z⟩
theorem wDk (O:List wAA) (an:Option Addr) (ao:Nat) (p1:(wAA->Option Bool)) (ap:Value) (w:World) (U:PHeap) (hS:St0 w U []) (a7:Sl U 2 an ao O.length (hD wAE O)) (a8:FnOK Try.prog U ap wKe wKf p1) {r:Bool} (hm:wBI O p1=some r):Gv Try.prog 51 [.slice an O.length ao,ap] w (wBz w [] U (fun U_ L_ v=>v=.bool r/\L_=[])):=by
 unfold wBI at hm
 refine Gv.of Try.func51 Z Try.ntmps51 Try.results51 Z (sR fL1 Z (oA Z Z (eN (zJ (sR fL3 Z (oM Z Z (oR Z (ZB Z Z ze) (oM Z Z (eN (zU ?_))))))))))
 have q:=wBx hm
 obtain ⟨r3,ai⟩:=q
 have q:=wBw ai
 obtain ⟨ak,bb⟩:=q
 replace ak:=zH ak
 refine yE (fun k2 _ σ_ w_=>∃ (U_:PHeap),σ_ 9=jV (↑k2:Int)/\σ_ 1=ap/\σ_ 7=.slice an O.length ao/\σ_ 8=jV (↑O.length:Int)/\PHeap.Le U U_/\sW w U U_ [] w_) bb ?_ ?_ ?_
 exact ⟨U,Z,Z,Z,Z,(zM _),hS⟩
 rintro k2 ⟨⟩ bA bC W8 aj ⟨aJ,ag,av,aw,ax,am,az⟩ aH a9
 try dsimp only at aH
 have au:Hid ((↑k2:Int) < (↑O.length:Int)):=zH (wBG aj)
 replace aj:=zH aj
 have bc:Hid (w64 ((↑k2:Int) + 1)=(↑(k2 + 1):Int)):=zH (by have h1:=ak.out;have h2:=au.out;rw [wAY] <;> omega)
 refine sR fL1 Z (oR Z (zO Z ag ax) (eN (zJ (cT Z au (kN (zJ (zU (sR gAv Z (bnK aH fun ab ay be=>?_)))))))))
 have aR:=a7.le am
 have q:=aR.el (fun _=>rfl) (wAr ay)
 obtain ⟨bq,bv,aU,aV⟩:=q
 refine oR Z (Zb Z aw aU ag ze zi (wCz ay)) (oL Z (az.ldCA (f:=0) aV Z Z Zi zi (us:=[jV ab.Lo,jV ab.Hi]) Z Z) (zY (cs:=[jV 0,jV 0]) Z Z Z Z Z ZX Z az ?_))
 intro bn aq aW
 let B0:List Value:=[jV ab.Lo,jV ab.Hi]
 refine za (j:=0) (vs:=B0) Z Z Z Z aW Z Z Z Z zi (zA Z) Z Z Z ?_
 intro aL aX
 have aE:sW w U aJ [.blk aq 37 B0] aL:=aX
 refine eN (sR gAu Z (oM Z av (oL Z (aE.ldBA (j:=0) Z Z Z Zi zi (vs:=B0) Z Z) (bnK be fun bz aS bf=>?_))))
 have aT:=a8.le am
 refine yI (a:=ab) Z Z Z Z Z Z (zB Z zQ) aE aT Z aS ?_
 rintro ae bm bx aM bj aY ⟨rfl,rfl⟩
 have aF:sW w U ae [.blk aq 37 B0] aM:=aY
 refine oR Z (ZV Z Z) (eN (ifc bf ?_ ?_))
 intro af bg
 refine zl (nC af.out) (ZL (zd (zF (rR fL2 Z (oR Z (ZJ (zR Z ag Z) (congrArg (jV) bc.out)) (oM Z Z (zW ?_)))))))
 have q:=hH bg
 obtain rfl:=q
 exact zF ⟨rfl,_,rfl,⟨ae,rfl,av,aw,ax,(am.trans bj),(aF.pick [] _ (by decide) rfl)⟩⟩
 intro af bh
 refine ZA (nF (af.out)) (sR fL1 Z (oA Z Z (eN (zT (zV (zP ?_))))))
 have q:=wAV bh
 obtain ⟨bk,bi,aO⟩:=q
 have q:=wBA hm ai (a9 bk aO)
 obtain rfl:=q
 refine zP (zV (zP ?_))
 have hE:=hH bi;first | subst r | cases hE
 exact ⟨rfl,_,(ZK rfl),ae,_,(aF.pick [] _ (by decide) rfl),rfl,rfl⟩
 rintro ⟨⟩ bB bo ⟨aK,aQ,br,bt,aP,bu,aZ⟩ ba
 have aG:=wCl hm ai ba
 try dsimp only at aG
 have aN:Hid (¬ ((↑(((↑O.length:Int):Int) - 0).toNat:Int) < (↑O.length:Int))):=zH (wAp)
 refine sR fL1 Z (oR Z (zO Z aQ aP) (eN (zJ (cF Z aN (ZM (zc (zc (ZC (zF (sR fL1 Z (oA Z Z (eN (zT ?_)))))))))))))
 have hE:=hH aG;first | subst r | cases hE
 exact ⟨Z,_,(ZK Z),aK,_,aZ,Z,Z⟩
theorem wED (p0:wAA) (p1:Int) (p2:Int) (w:World) (U:PHeap) (hS:St0 w U [])  {r:Bool} (hm:wBq p0 p1 p2=some r):Gv Try.prog 53 [.agg #[jV p0.Lo,jV p0.Hi],jV p1,jV p2] w (wBz w [] U (fun U_ L_ v=>v=.bool r/\L_=[])):=by
 unfold wBq at hm
 refine Gv.of Try.func53 rfl Try.ntmps53 Try.results53 rfl (sR gAh rfl (ZD (cs:=[jV p0.Lo,jV p0.Hi]) rfl rfl rfl rfl rfl rfl (by rfl) hS ?_))
 intro W1 b2 ac
 refine oA Z Z (eN (sR fL18 Z (oR Z (zI Z Z zZ Z zC) (oL Z (ac.ldB (j:=0) Z Z Z zE (v:=jV p0.Lo) Z) (oR Z (zI Z Z zZ Z zC) (oL Z (ac.ldB (j:=0) Z Z Z zE (v:=jV p0.Hi) Z) (oR Z (Runs.leq Z Z Z) (oM Z Z ?_))))))))
 by_cases O:p0.Lo <= p0.Hi
 have af:=hm;rw [if_pos O] at af;replace O:=zH O
 refine rU Z (wT Z O) (zI Z Z zZ Z zC) (zt Z Z Z (wT Z O) (ac.ldB (j:=0) Z Z Z zE (v:=jV p0.Lo) Z) Z (zN Z Z Z (wT Z O) Z Z (rU Z (wT Z O) (Runs.geq Z Z Z) (oR Z (zk Z (ZW O.out) Z) (oM Z Z (ifc af ?_ ?_))))))
 intro c7 ag
 refine rU Z (wT Z c7) (zI Z Z zZ Z zC) (zt Z Z Z (wT Z c7) (ac.ldB (j:=0) Z Z Z zE (v:=jV p0.Hi) Z) Z (zN Z Z Z (wT Z c7) Z Z (rU Z (wT Z c7) (Runs.leq Z Z Z) (oR Z (zk Z (ZW c7.out) Z) (oA Z Z (eN (zT ?_)))))))
 first | (obtain rfl:=hH ag) | cases ag
 exact ⟨rfl,_,(ZK rfl),U,_,(ac.pick [] _ (by decide) rfl),rfl,rfl⟩
 intro c7 ak
 refine oF Z c7 (oF Z c7 (oF Z c7 (oF Z c7 (oR Z (zm Z (zy c7.out) Z) (oA Z Z (eN (zT ?_)))))))
 have hE:=hH ak;first | subst r | cases hE
 exact ⟨rfl,_,(ZK rfl),U,_,(ac.pick [] _ (by decide) rfl),rfl,rfl⟩
 have ae:=hm;rw [if_neg O] at ae;replace O:=zH O
 refine oF Z O (oF Z O (oF Z O (oF Z O (oR Z (zm Z (zy O.out) Z) (oM Z Z (oN Z (oN Z (oN Z (oN Z (oR Z (zm Z Z Z) (oA Z Z (eN (zT ?_)))))))))))))
 have hE:=hH ae;first | subst r | cases hE
 exact ⟨rfl,_,(ZK rfl),U,_,(ac.pick [] _ (by decide) rfl),rfl,rfl⟩
theorem wFi (O:wAA) (w:World) (U:PHeap) (hS:St0 w U [])  {r:Bool} (hm:wBr O=some r):Gv Try.prog 52 [.agg #[jV O.Lo,jV O.Hi]] w (wBz w [] U (fun U_ L_ v=>v=.bool r/\L_=[])):=by
 unfold wBr at hm
 refine Gv.of Try.func52 Z Try.ntmps52 Try.results52 Z (sR gAh Z ?_)
 let B0:List Value:=[jV O.Lo,jV O.Hi]
 refine ZD (cs:=B0) rfl rfl rfl rfl rfl rfl (by rfl) hS ?_
 intro W1 b2 ac
 refine oA Z Z (eN (sR gAn Z (oL Z (ac.ldBA (j:=0) Z Z Z Zi zi (vs:=B0) Z Z) (bnK hm fun x5 h6 am=>zL 0 Z Z Z Z (zK Z Z Try.call53 (zB Z (zB Z (zB Z zQ))) Z) ac (fun hs=>wED O 0 360000 W1 U hs h6) (.inr Z) ?_))))
 rintro U8 L9 ap af ao aj ⟨rfl,rfl⟩
 have ak:sW w U U8 [.blk b2 37 B0] af:=aj
 refine oA Z Z (eN (zT ?_))
 have hE:=hH am;first | subst r | cases hE
 exact ⟨rfl,_,(ZK rfl),U8,_,(ak.pick [] _ (by decide) rfl),rfl,rfl⟩
theorem wDa (O:List wAF) (an:Option Addr) (ao:Nat) (p1:(wAF->Option Bool)) (ap:Value) (w:World) (U:PHeap) (hS:St0 w U []) (a7:Sl U 3 an ao O.length (hD wAP O)) (a8:FnOK Try.prog U ap wLm wLn p1) {r:Bool} (hm:wBE O p1=some r):Gv Try.prog 54 [.slice an O.length ao,ap] w (wBz w [] U (fun U_ L_ v=>v=.bool r/\L_=[])):=by
 unfold wBE at hm
 refine Gv.of Try.func54 Z Try.ntmps54 Try.results54 Z (sR fL1 Z (oA Z Z (eN (zJ (sR fL3 Z (oM Z Z (oR Z (ZB Z Z Zk) (oM Z Z (eN (zU ?_))))))))))
 have q:=wBx hm
 obtain ⟨r3,ai⟩:=q
 have q:=wBw ai
 obtain ⟨ak,bb⟩:=q
 replace ak:=zH ak
 refine yE (fun k2 _ σ_ w_=>∃ (U_:PHeap),σ_ 9=jV (↑k2:Int)/\σ_ 1=ap/\σ_ 7=.slice an O.length ao/\σ_ 8=jV (↑O.length:Int)/\PHeap.Le U U_/\sW w U U_ [] w_) bb ?_ ?_ ?_
 exact ⟨U,Z,Z,Z,Z,(zM _),hS⟩
 rintro k2 ⟨⟩ bA bC W8 aj ⟨aJ,ag,av,aw,ax,am,az⟩ aH a9
 try dsimp only at aH
 have au:Hid ((↑k2:Int) < (↑O.length:Int)):=zH (wBG aj)
 replace aj:=zH aj
 have bc:Hid (w64 ((↑k2:Int) + 1)=(↑(k2 + 1):Int)):=zH (by have h1:=ak.out;have h2:=au.out;rw [wAY] <;> omega)
 refine sR fL1 Z (oR Z (zO Z ag ax) (eN (zJ (cT Z au (kN (zJ (zU (sR gAv Z (bnK aH fun aa ay be=>?_)))))))))
 have aR:=a7.le am
 have q:=aR.el (fun _=>rfl) (wAr ay)
 obtain ⟨bq,bv,aU,aV⟩:=q
 refine oR Z (Zb Z aw aU ag Zk yL (wCz ay)) (oL Z (az.ldCA (f:=0) aV Z Z Try.isAgg39 yL (us:=[jV aa.Offset.Lo,jV aa.Offset.Hi,jV aa.Error]) Z Z) (zY (cs:=[jV 0,jV 0,jV 0]) Z Z Z Z Z Try.zeroValue39 Z az ?_))
 intro bn aq aW
 let B0:List Value:=[jV aa.Offset.Lo,jV aa.Offset.Hi,jV aa.Error]
 refine za (j:=0) (vs:=B0) Z Z Z Z aW Z Z Z Z yL (zA Z) Z Z Z ?_
 intro aL aX
 have aE:sW w U aJ [.blk aq 39 B0] aL:=aX
 refine eN (sR gAu Z (oM Z av (oL Z (aE.ldBA (j:=0) Z Z Z Try.isAgg39 yL (vs:=B0) Z Z) (bnK be fun bz aS bf=>?_))))
 have aT:=a8.le am
 refine yI (a:=aa) Z Z Z Z Z Z (zB Z zQ) aE aT Z aS ?_
 rintro ae bm bx aM bj aY ⟨rfl,rfl⟩
 have aF:sW w U ae [.blk aq 39 B0] aM:=aY
 refine oR Z (ZV Z Z) (eN (ifc bf ?_ ?_))
 intro af bg
 refine zl (nC af.out) (ZL (zd (zF (rR fL2 Z (oR Z (ZJ (zR Z ag Z) (congrArg (jV) bc.out)) (oM Z Z (zW ?_)))))))
 have q:=hH bg
 obtain rfl:=q
 exact zF ⟨rfl,_,rfl,⟨ae,rfl,av,aw,ax,(am.trans bj),(aF.pick [] _ (by decide) rfl)⟩⟩
 intro af bh
 refine ZA (nF (af.out)) (sR fL1 Z (oA Z Z (eN (zT (zV (zP ?_))))))
 have q:=wAV bh
 obtain ⟨bk,bi,aO⟩:=q
 have q:=wBA hm ai (a9 bk aO)
 obtain rfl:=q
 refine zP (zV (zP ?_))
 have hE:=hH bi;first | subst r | cases hE
 exact ⟨rfl,_,(ZK rfl),ae,_,(aF.pick [] _ (by decide) rfl),rfl,rfl⟩
 rintro ⟨⟩ bB bo ⟨aK,aQ,br,bt,aP,bu,aZ⟩ ba
 have aG:=wCl hm ai ba
 try dsimp only at aG
 have aN:Hid (¬ ((↑(((↑O.length:Int):Int) - 0).toNat:Int) < (↑O.length:Int))):=zH (wAp)
 refine sR fL1 Z (oR Z (zO Z aQ aP) (eN (zJ (cF Z aN (ZM (zc (zc (ZC (zF (sR fL1 Z (oA Z Z (eN (zT ?_)))))))))))))
 have hE:=hH aG;first | subst r | cases hE
 exact ⟨Z,_,(ZK Z),aK,_,aZ,Z,Z⟩
end Go.Proofs.Ytkedcbligiebkaa
namespace Go.Proofs.Ytkedcbligiebkaa
open Go.KL
set_option maxHeartbeats 4000000
theorem wFj (O:wAF) (w:World) (U:PHeap) (hS:St0 w U [])  {r:Bool} (hm:wBs O=some r):Gv Try.prog 55 [.agg #[jV O.Offset.Lo,jV O.Offset.Hi,jV O.Error]] w (wBz w [] U (fun U_ L_ v=>v=.bool r/\L_=[])):=by
 unfold wBs at hm
 refine Gv.of Try.func55 Z Try.ntmps55 Try.results55 Z (sR gAh Z ?_)
 let B0:List Value:=[jV O.Offset.Lo,jV O.Offset.Hi,jV O.Error]
 refine ZD (cs:=B0) rfl rfl rfl rfl rfl rfl (by rfl) hS ?_
 intro W1 b2 aj
 refine oA Z Z (eN (sR (.fl 0 (.fl 1 (.fx 2 (wLU gAl) .stop))) Z (oR Z (zI Z Z yJ Z zi) (oL Z (aj.ldBA (j:=0) Z Z Z Zi zi (vs:=[jV O.Offset.Lo,jV O.Offset.Hi]) Z Z) (bnK hm fun x5 h6 ay=>zL 0 Z Z Z Z (zK Z Z Try.call53 (zB Z (zB Z (zB Z zQ))) Z) aj (fun hs=>wED O.Offset (-36000) 36000 W1 U hs h6) (.inr Z) ?_)))))
 rintro U8 L9 aH ag aF ap ⟨rfl,rfl⟩
 have ae:sW w U U8 [.blk b2 39 B0] ag:=ap
 refine oM Z Z (ifc ay ?_ ?_)
 intro aa av
 refine zb Z Z Z (zS Z Z (congrArg hJ aa.out)) (fun _=>zI Z Z yJ Z zC) (zt Z Z Z (zS Z Z (congrArg hJ aa.out)) (ae.ldB (j:=0) Z Z Z zE (v:=jV O.Error) Z) Z (bnK av fun aJ an aw=>zL 0 Z Z Z (zS Z Z (congrArg hJ aa.out)) (zK Z Z Try.call45 (zB Z (zB Z (zB Z zQ))) Z) ae (fun hs=>wDN O.Error 0 600 ag U8 hs an) (.inr Z) ?_))
 rintro af az aI am aG aq ⟨rfl,rfl⟩
 have au:sW w U af [.blk b2 39 B0] am:=aq
 refine oR Z (zk Z (congrArg hJ aa.out) Z) (oA Z Z (eN (zT ?_)))
 have hE:=hH aw;first | subst r | cases hE
 exact ⟨rfl,_,(ZK rfl),af,_,(au.pick [] _ (by decide) rfl),rfl,rfl⟩
 intro aa ax
 refine Zj Z Z Z (ZR Z Z (congrArg hJ (nA.2 aa.out)) Z) (Zj Z Z Z (ZR Z Z (congrArg hJ (nA.2 aa.out)) Z) (OKS.px Z Z Z (ZR Z Z (congrArg hJ (nA.2 aa.out)) Z) (oR Z (zm Z (congrArg hJ (nA.2 aa.out)) Z) (oA Z Z (eN (zT ?_))))))
 have hE:=hH ax;first | subst r | cases hE
 exact ⟨rfl,_,(ZK rfl),U8,_,(ae.pick [] _ (by decide) rfl),rfl,rfl⟩
theorem wCL (O:List wAJ) (an:Option Addr) (ao:Nat) (p1:(wAJ->Option Bool)) (ap:Value) (w:World) (U:PHeap) (hS:St0 w U []) (a7:Sl U 4 an ao O.length (hD wAH O)) (a8:FnOK Try.prog U ap wKy wKz p1) {r:Bool} (hm:wAm O p1=some r):Gv Try.prog 56 [.slice an O.length ao,ap] w (wBz w [] U (fun U_ L_ v=>v=.bool r/\L_=[])):=by
 unfold wAm at hm
 refine Gv.of Try.func56 Z Try.ntmps56 Try.results56 Z (sR fL1 Z (oA Z Z (eN (zJ (sR fL3 Z (oM Z Z (oR Z (ZB Z Z Zq) (oM Z Z (eN (zU ?_))))))))))
 have q:=wBx hm
 obtain ⟨r3,ai⟩:=q
 have q:=wBw ai
 obtain ⟨ak,bb⟩:=q
 replace ak:=zH ak
 refine yE (fun k2 _ σ_ w_=>∃ (U_:PHeap),σ_ 9=jV (↑k2:Int)/\σ_ 1=ap/\σ_ 7=.slice an O.length ao/\σ_ 8=jV (↑O.length:Int)/\PHeap.Le U U_/\sW w U U_ [] w_) bb ?_ ?_ ?_
 exact ⟨U,Z,Z,Z,Z,(zM _),hS⟩
 rintro k2 ⟨⟩ bA bC W8 aj ⟨aJ,ag,av,aw,ax,am,az⟩ aH a9
 try dsimp only at aH
 have au:Hid ((↑k2:Int) < (↑O.length:Int)):=zH (wBG aj)
 replace aj:=zH aj
 have bc:Hid (w64 ((↑k2:Int) + 1)=(↑(k2 + 1):Int)):=zH (by have h1:=ak.out;have h2:=au.out;rw [wAY] <;> omega)
 refine sR fL1 Z (oR Z (zO Z ag ax) (eN (zJ (cT Z au (kN (zJ (zU (sR gAv Z (bnK aH fun aa ay be=>?_)))))))))
 have aR:=a7.le am
 have q:=aR.el (fun _=>rfl) (wAr ay)
 obtain ⟨bq,bv,aU,aV⟩:=q
 refine oR Z (Zb Z aw aU ag Zq Zw (wCz ay)) (oL Z (az.ldCA (f:=0) aV Z Z Try.isAgg50 Zw (us:=[jV aa.Skier,jV aa.Mat,jV aa.Clock,jV aa.Time]) Z Z) (zY (cs:=[jV 0,jV 0,jV 0,jV 0]) Z Z Z Z Z Try.zeroValue50 Z az ?_))
 intro bn aq aW
 let B0:List Value:=[jV aa.Skier,jV aa.Mat,jV aa.Clock,jV aa.Time]
 refine za (j:=0) (vs:=B0) Z Z Z Z aW Z Z Z Z Zw (zA Z) Z Z Z ?_
 intro aL aX
 have aE:sW w U aJ [.blk aq 50 B0] aL:=aX
 refine eN (sR gAu Z (oM Z av (oL Z (aE.ldBA (j:=0) Z Z Z Try.isAgg50 Zw (vs:=B0) Z Z) (bnK be fun bz aS bf=>?_))))
 have aT:=a8.le am
 refine yI (a:=aa) Z Z Z Z Z Z (zB Z zQ) aE aT Z aS ?_
 rintro ae bm bx aM bj aY ⟨rfl,rfl⟩
 have aF:sW w U ae [.blk aq 50 B0] aM:=aY
 refine oR Z (ZV Z Z) (eN (ifc bf ?_ ?_))
 intro af bg
 refine zl (nC af.out) (ZL (zd (zF (rR fL2 Z (oR Z (ZJ (zR Z ag Z) (congrArg (jV) bc.out)) (oM Z Z (zW ?_)))))))
 have q:=hH bg
 obtain rfl:=q
 exact zF ⟨rfl,_,rfl,⟨ae,rfl,av,aw,ax,(am.trans bj),(aF.pick [] _ (by decide) rfl)⟩⟩
 intro af bh
 refine ZA (nF (af.out)) (sR fL1 Z (oA Z Z (eN (zT (zV (zP ?_))))))
 have q:=wAV bh
 obtain ⟨bk,bi,aO⟩:=q
 have q:=wBA hm ai (a9 bk aO)
 obtain rfl:=q
 refine zP (zV (zP ?_))
 have hE:=hH bi;first | subst r | cases hE
 exact ⟨rfl,_,(ZK rfl),ae,_,(aF.pick [] _ (by decide) rfl),rfl,rfl⟩
 rintro ⟨⟩ bB bo ⟨aK,aQ,br,bt,aP,bu,aZ⟩ ba
 have aG:=wCl hm ai ba
 try dsimp only at aG
 have aN:Hid (¬ ((↑(((↑O.length:Int):Int) - 0).toNat:Int) < (↑O.length:Int))):=zH (wAp)
 refine sR fL1 Z (oR Z (zO Z aQ aP) (eN (zJ (cF Z aN (ZM (zc (zc (ZC (zF (sR fL1 Z (oA Z Z (eN (zT ?_)))))))))))))
 have hE:=hH aG;first | subst r | cases hE
 exact ⟨Z,_,(ZK Z),aK,_,aZ,Z,Z⟩
theorem wFk (O:wAJ) (w:World) (U:PHeap) (hS:St0 w U [])  {r:Bool} (hm:wBt O=some r):Gv Try.prog 57 [.agg #[jV O.Skier,jV O.Mat,jV O.Clock,jV O.Time]] w (wBz w [] U (fun U_ L_ v=>v=.bool r/\L_=[])):=by
 unfold wBt at hm
 refine Gv.of Try.func57 Z Try.ntmps57 Try.results57 Z (sR gAh Z ?_)
 let B0:List Value:=[jV O.Skier,jV O.Mat,jV O.Clock,jV O.Time]
 refine ZD (cs:=B0) rfl rfl rfl rfl rfl rfl (by rfl) hS ?_
 intro W1 b2 ac
 refine oA Z Z (eN (sR gAu Z (oR Z (zI Z Z Zf Z zC) (oL Z (ac.ldB (j:=0) Z Z Z zE (v:=jV O.Time) Z) (bnK hm fun x5 h6 am=>zL 0 Z Z Z Z (zK Z Z Try.call45 (zB Z (zB Z (zB Z zQ))) Z) ac (fun hs=>wDN O.Time 0 360000 W1 U hs h6) (.inr Z) ?_)))))
 rintro U8 L9 ap af ao aj ⟨rfl,rfl⟩
 have ak:sW w U U8 [.blk b2 50 B0] af:=aj
 refine oA Z Z (eN (zT ?_))
 have hE:=hH am;first | subst r | cases hE
 exact ⟨rfl,_,(ZK rfl),U8,_,(ak.pick [] _ (by decide) rfl),rfl,rfl⟩
theorem wDF (O:wAD) (ae:Option Addr) (ag:Nat) (af:Option Addr) (ai:Nat) (ao:Option Addr) (aq:Nat) (ap:Option Addr) (au:Nat) (p1:wAW) (w:World) (U:PHeap) (hS:St0 w U []) (aS:Sl U 1 ae ag O.Starts.length (hD KL.encI O.Starts)) (aT:Sl U 2 af ai O.Splits.length (hD wAE O.Splits)) (aU:Sl U 3 ao aq O.Clocks.length (hD wAP O.Clocks)) (aV:Sl U 4 ap au O.Readings.length (hD wAH O.Readings)) {r:Bool} (hm:wAq O p1=some r):Gv Try.prog 32 [.agg #[.slice ae O.Starts.length ag,.slice af O.Splits.length ai,.slice ao O.Clocks.length aq,.slice ap O.Readings.length au],.agg #[jV p1.Skier,jV p1.Mat]] w (wBz w [] U (fun U_ L_ v=>v=.bool r/\L_=[])):=by
 unfold wAq at hm
 refine Gv.of Try.func32 Z Try.ntmps32 Try.results32 Z (sR (.fx 0 gAi .stop) Z ?_)
 let B0:List Value:=[.slice ae O.Starts.length ag,.slice af O.Splits.length ai,.slice ao O.Clocks.length aq,.slice ap O.Readings.length au]
 refine ZD (cs:=B0) rfl rfl rfl rfl rfl rfl (by rfl) hS ?_
 intro W1 b2 aJ
 let B1:List Value:=[jV p1.Skier,jV p1.Mat]
 refine ZD (cs:=B1) rfl rfl rfl rfl rfl rfl (by rfl) aJ ?_
 intro W5 b6 an
 refine oA Z Z (eN (sR (wHD (.fx 6 (wMW gAr) .stop)) Z (oR Z (zI Z Z Try.runUnderlying54 Z zC) (oL Z (an.ldB (j:=0) Z Z Z zE (v:=jV p1.Skier) Z) (oR Z (zI Z Z zX Z ZE) (oL Z (an.ldB (j:=1) Z Z Z ZI (v:=.slice ae O.Starts.length ag) Z) (oR Z (ZB Z Z zD) (oR Z (Za Z Z Z) (bnK hm fun x9 aF aL=>zL 0 Z Z Z Z (zK Z Z Try.call45 (zB Z (zB Z (zB Z zQ))) Z) an (fun hs=>wDN p1.Skier 0 (w64 ((↑O.Starts.length:Int) - 1)) W5 U hs aF) (.inr Z) ?_)))))))))
 rintro am aP aY aw aW aH ⟨rfl,rfl⟩
 have ac:sW w U am [.blk b6 54 B1,.blk b2 45 B0] aw:=aH
 refine oM Z Z (ifc aL ?_ ?_)
 intro aa aM
 refine zb Z Z Z (zS Z Z (congrArg hJ aa.out)) (fun _=>zI Z Z Try.runUnderlying54 Z zC) (zt Z Z Z (zS Z Z (congrArg hJ aa.out)) (ac.ldB (j:=0) Z Z Z zE (v:=jV p1.Mat) Z) Z (zb Z Z Z (zS Z Z (congrArg hJ aa.out)) (fun _=>zI Z Z zX Z yB) (zt Z Z Z (zS Z Z (congrArg hJ aa.out)) (ac.ldB (j:=1) Z Z Z yP (v:=.slice af O.Splits.length ai) Z) Z (zb Z Z Z (zS Z Z (congrArg hJ aa.out)) (fun _=>ZB Z Z ze) (bnK aM fun a7 aG aN=>zL 0 Z Z Z (zS Z Z (congrArg hJ aa.out)) (zK Z Z Try.call45 (zB Z (zB Z (zB Z zQ))) Z) ac (fun hs=>wDN p1.Mat 0 (↑O.Splits.length:Int) aw am hs aG) (.inr Z) ?_)))))
 rintro av aQ aZ az aX aI ⟨rfl,rfl⟩
 have aK:sW w U av [.blk b6 54 B1,.blk b2 45 B0] az:=aI
 refine oR Z (zk Z (congrArg hJ aa.out) Z) (oA Z Z (eN (zT ?_)))
 have hE:=hH aN;first | subst r | cases hE
 exact ⟨rfl,_,(ZK rfl),av,_,(aK.pick [] _ (by decide) rfl),rfl,rfl⟩
 intro aa aO
 refine Zj Z Z Z (ZR Z Z (congrArg hJ (nA.2 aa.out)) Z) (Zj Z Z Z (ZR Z Z (congrArg hJ (nA.2 aa.out)) Z) (Zj Z Z Z (ZR Z Z (congrArg hJ (nA.2 aa.out)) Z) (Zj Z Z Z (ZR Z Z (congrArg hJ (nA.2 aa.out)) Z) (Zj Z Z Z (ZR Z Z (congrArg hJ (nA.2 aa.out)) Z) (OKS.px Z Z Z (ZR Z Z (congrArg hJ (nA.2 aa.out)) Z) (oR Z (zm Z (congrArg hJ (nA.2 aa.out)) Z) (oA Z Z (eN (zT ?_)))))))))
 have hE:=hH aO;first | subst r | cases hE
 exact ⟨rfl,_,(ZK rfl),am,_,(ac.pick [] _ (by decide) rfl),rfl,rfl⟩
theorem wFl (p0:wAJ) (O:wAD) (ay:Nat) (ai:Option Addr) (am:Nat) (aj:Option Addr) (an:Nat) (ac:Option Addr) (ae:Nat) (ak:Option Addr) (ao:Nat) (w:World) (U:PHeap) (hS:St0 w U []) (ax:Cl U ay 0 [.slice ai O.Starts.length am,.slice aj O.Splits.length an,.slice ac O.Clocks.length ae,.slice ak O.Readings.length ao]) (aL:Sl U 1 ai am O.Starts.length (hD KL.encI O.Starts)) (aM:Sl U 2 aj an O.Splits.length (hD wAE O.Splits)) (aN:Sl U 3 ac ae O.Clocks.length (hD wAP O.Clocks)) (aO:Sl U 4 ak ao O.Readings.length (hD wAH O.Readings)) {r:Bool} (hm:wBu p0 O=some r):Gv Try.prog 58 [.agg #[jV p0.Skier,jV p0.Mat,jV p0.Clock,jV p0.Time],.pointer (some ⟨ay,0,none⟩)] w (wBz w [] U (fun U_ L_ v=>v=.bool r/\L_=[])):=by
 unfold wBu at hm
 refine Gv.of Try.func58 Z Try.ntmps58 Try.results58 Z (sR gAh Z ?_)
 let B0:List Value:=[jV p0.Skier,jV p0.Mat,jV p0.Clock,jV p0.Time]
 refine ZD (cs:=B0) rfl rfl rfl rfl rfl rfl (by rfl) hS ?_
 intro W1 b2 ag
 refine oA Z Z (eN (sR (wHD (.fx 6 (wMX gAo) .stop)) Z (oL Z (ag.ldCA (f:=0) ax Z Z ZP zz (us:=[.slice ai O.Starts.length am,.slice aj O.Splits.length an,.slice ac O.Clocks.length ae,.slice ak O.Readings.length ao]) Z Z) (oR Z (zI Z Z Zf Z zC) (oL Z (ag.ldB (j:=0) Z Z Z zE (v:=jV p0.Skier) Z) (oR Z (zI Z Z Zf Z zC) (oL Z (ag.ldB (j:=0) Z Z Z zE (v:=jV p0.Mat) Z) (oR Z (zq (pv:=[(0,jV p0.Skier),(1,jV p0.Mat)]) (z:=[jV 0,jV 0]) (cs:=[jV p0.Skier,jV p0.Mat]) Z (wAC Z (wAC Z wAR)) Try.zeroValue54 wGE Z Z) (bnK hm fun x5 h6 aS=>zL 0 Z Z Z Z (zK Z Z Try.call32 (zB Z (zB Z zQ)) Z) ag (fun hs=>wDF O ai am aj an ac ae ak ao (⟨p0.Skier,p0.Mat⟩:wAW) W1 U hs aL aM aN aO h6) (.inr Z) ?_)))))))))
 rintro U8 L9 aX av aT aI ⟨rfl,rfl⟩
 have af:sW w U U8 [.blk b2 50 B0] av:=aI
 refine oM Z Z (ifc aS ?_ ?_)
 intro ab aP
 refine zb Z Z Z (zS Z Z (congrArg hJ ab.out)) (fun _=>zI Z Z Zf Z zC) (zt Z Z Z (zS Z Z (congrArg hJ ab.out)) (af.ldB (j:=0) Z Z Z zE (v:=jV p0.Clock) Z) Z (zb Z Z Z (zS Z Z (congrArg hJ ab.out)) (fun _=>zI Z Z zX Z yR) ?_))
 have aF:=ax.le aT
 refine zt Z Z Z (zS Z Z (congrArg hJ ab.out)) (af.ldC (f:=2) aF (v:=.slice ac O.Clocks.length ae) Z Z Try.isAgg40 Z) Z (zb Z Z Z (zS Z Z (congrArg hJ ab.out)) (fun _=>ZB Z Z Zk) (zb Z Z Z (zS Z Z (congrArg hJ ab.out)) (fun _=>Za Z Z Z) (bnK aP fun aZ aG aQ=>zL 0 Z Z Z (zS Z Z (congrArg hJ ab.out)) (zK Z Z Try.call45 (zB Z (zB Z (zB Z zQ))) Z) af (fun hs=>wDN p0.Clock 0 (w64 ((↑O.Clocks.length:Int) - 1)) av U8 hs aG) (.inr Z) ?_)))
 rintro au aU aY aE aW aJ ⟨rfl,rfl⟩
 have aK:sW w U au [.blk b2 50 B0] aE:=aJ
 refine oR Z (zk Z (congrArg hJ ab.out) Z) (oA Z Z (eN (zT ?_)))
 have hE:=hH aQ;first | subst r | cases hE
 exact ⟨rfl,_,(ZK rfl),au,_,(aK.pick [] _ (by decide) rfl),rfl,rfl⟩
 intro ab aR
 refine Zj Z Z Z (ZR Z Z (congrArg hJ (nA.2 ab.out)) Z) (Zj Z Z Z (ZR Z Z (congrArg hJ (nA.2 ab.out)) Z) (Zj Z Z Z (ZR Z Z (congrArg hJ (nA.2 ab.out)) Z) (Zj Z Z Z (ZR Z Z (congrArg hJ (nA.2 ab.out)) Z) (Zj Z Z Z (ZR Z Z (congrArg hJ (nA.2 ab.out)) Z) (Zj Z Z Z (ZR Z Z (congrArg hJ (nA.2 ab.out)) Z) (OKS.px Z Z Z (ZR Z Z (congrArg hJ (nA.2 ab.out)) Z) (oR Z (zm Z (congrArg hJ (nA.2 ab.out)) Z) (oA Z Z (eN (zT ?_))))))))))
 have hE:=hH aR;first | subst r | cases hE
 exact ⟨rfl,_,(ZK rfl),U8,_,(af.pick [] _ (by decide) rfl),rfl,rfl⟩
theorem wGi (O:wAD) (an:Option Addr) (aq:Nat) (ao:Option Addr) (au:Nat) (ap:Option Addr) (av:Nat) (ai:Option Addr) (aj:Nat) (w:World) (U:PHeap) (hS:St0 w U []) (cm:Sl U 1 an aq O.Starts.length (hD KL.encI O.Starts)) (co:Sl U 2 ao au O.Splits.length (hD wAE O.Splits)) (cp:Sl U 3 ap av O.Clocks.length (hD wAP O.Clocks)) (cq:Sl U 4 ai aj O.Readings.length (hD wAH O.Readings)) {r:Int} (hm:wDB O=some r):Gv Try.prog 43 [.agg #[.slice an O.Starts.length aq,.slice ao O.Splits.length au,.slice ap O.Clocks.length av,.slice ai O.Readings.length aj]] w (wBz w [] U (fun U_ L_ v=>v=jV r/\L_=[])):=by
 unfold wDB at hm
 refine Gv.of Try.func43 Z Try.ntmps43 Try.results43 Z (sR gAh Z ?_)
 let B0:List Value:=[.slice an O.Starts.length aq,.slice ao O.Splits.length au,.slice ap O.Clocks.length av,.slice ai O.Readings.length aj]
 refine ZD (cs:=B0) rfl rfl rfl rfl rfl rfl (by rfl) hS ?_
 intro W1 b2 cb
 have q:=cb.freeze (k:=0) rfl
 obtain ⟨U5,aM,ax,cj⟩:=q
 replace ax:=Cl.of ax
 have bp:sW w U U5 [] W1:=cj
 replace ax:Cl U5 b2 0 B0:=ax
 refine oA Z Z (eN (zJ (zU (sR (wDt (.fx 3 (wMU (.nil)) .stop)) Z (oR Z (zI Z Z zX Z ZE) (oL Z (bp.ldC (f:=0) ax (v:=.slice an O.Starts.length aq) Z Z ZI Z) (oR Z (ZB Z Z zD) (bnK hm fun df bx cu=>zL 0 Z Z Z Z (zK Z Z Try.call45 (zB Z (zB Z (zB Z zQ))) Z) bp (fun hs=>wDN (↑O.Starts.length:Int) 1 8 W1 U5 hs bx) (.inr Z) ?_))))))))
 rintro am cV c9 a8 az ca ⟨rfl,rfl⟩
 have ag:sW w U am [] a8:=ca
 refine oR Z (ZV Z Z) (oM Z Z (ifc cu ?_ ?_))
 intro aa cD
 refine zb Z Z Z (zS Z Z (nC aa.out)) (fun _=>zI Z Z zX Z yB) ?_
 have ay:=ax.le az
 refine zt Z Z Z (zS Z Z (nC aa.out)) (ag.ldC (f:=1) ay (v:=.slice ao O.Splits.length au) Z Z yP Z) Z (zb Z Z Z (zS Z Z (nC aa.out)) (fun _=>ZB Z Z ze) (zb Z Z Z (zS Z Z (nC aa.out)) (fun _=>Zz Z Z Z) (oR Z (zm Z (nC aa.out) Z) (oM Z Z (ifc cD ?_ ?_)))))
 intro ab cE
 refine oT Z ab (oT Z ab (oT Z ab (oT Z ab (oR Z (zk Z (ZW ab.out) Z) (oM Z Z (oN Z (oN Z (oN Z (oN Z (oR Z (zk Z Z Z) (oA Z Z (eN (ZA Z (sR fL1 Z (oA Z Z (eN (zT (zV (zP ?_)))))))))))))))))))
 cases cE
 exact ⟨Z,_,(ZK Z),am,_,ag,Z,Z⟩
 intro ab cG
 refine rU Z (wF Z ab) (zI Z Z zX Z yR) (zt Z Z Z (wF Z ab) (ag.ldC (f:=2) ay (v:=.slice ap O.Clocks.length av) Z Z Try.isAgg40 Z) Z (rU Z (wF Z ab) (ZB Z Z Zk) (rU Z (wF Z ab) (Zz Z Z Z) (oR Z (zm Z (zy ab.out) Z) (oM Z Z (ifc cG ?_ ?_))))))
 intro ac cH
 refine oT Z ac (oT Z ac (oT Z ac (oT Z ac (oR Z (zk Z (ZW ac.out) Z) (oA Z Z (eN (ZA Z (sR fL1 Z (oA Z Z (eN (zT (zV (zP ?_)))))))))))))
 cases cH
 exact ⟨Z,_,(ZK Z),am,_,ag,Z,Z⟩
 intro ac cI
 refine rU Z (wF Z ac) (zI Z Z zX Z yC) (zt Z Z Z (wF Z ac) (ag.ldC (f:=3) ay (v:=.slice ai O.Readings.length aj) Z Z yQ Z) Z (rU Z (wF Z ac) (ZB Z Z Zq) (rU Z (wF Z ac) (Zz Z Z Z) (oR Z (zm Z (zy ac.out) Z) (oA Z Z (eN (ifc cI ?_ ?_)))))))
 intro aR cJ
 refine cT Z aR (sR fL1 Z (oA Z Z (eN (zT (zV (zP ?_))))))
 cases cJ
 exact ⟨Z,_,(ZK Z),am,_,ag,Z,Z⟩
 intro aR cK
 refine cF Z aR (sR (.fl 0 (.fl 1 (.fx 2 (wMS (.fx 7 (wMY (.nil)) .stop)) .stop))) Z (oR Z (zI Z Z zX Z ZE) (oL Z (ag.ldC (f:=0) ay (v:=.slice an O.Starts.length aq) Z Z ZI Z) ?_)))
 have bF:=cm.le aM
 have bg:=bF.le az
 have bU:FnOK Try.prog am (.func (.func 50) #[] #[]) ar48 rr48 wBp:=⟨50,[],[],rfl,Try.call50,fun U1 w1 x y vs le hs ha hm=>by obtain rfl:=ha;exact wFh x w1 U1 hs  hm⟩
 refine bnK cK fun dh bG cL=>zL 0 Z Z Z Z (zK Z Z Try.call49 (zB Z (zB Z zQ)) Z) ag (fun hs=>wEi O.Starts an aq wBp (.func (.func 50) #[] #[]) a8 am hs bg bU bG) (.inr Z) ?_
 rintro aI cW da a9 aE cc ⟨rfl,rfl⟩
 have aW:sW w U aI [] a9:=cc
 refine oR Z (ZV Z Z) (oM Z Z (ifc cL ?_ ?_))
 intro ae cM
 refine zb Z Z Z (zS Z Z (nC ae.out)) (fun _=>zI Z Z zX Z yB) ?_
 have bh:=ay.le aE
 refine zt Z Z Z (zS Z Z (nC ae.out)) (aW.ldC (f:=1) bh (v:=.slice ao O.Splits.length au) Z Z yP Z) Z ?_
 have bH:=co.le aM
 have bI:=bH.le az
 have bi:=bI.le aE
 have bV:FnOK Try.prog aI (.func (.func 52) #[] #[]) wKe wKf wBr:=⟨52,[],[],rfl,Try.call52,fun U1 w1 x y vs le hs ha hm=>by obtain rfl:=ha;exact wFi x w1 U1 hs  hm⟩
 refine bnK cM fun di bJ cN=>zL 0 Z Z Z (zS Z Z (nC ae.out)) (zK Z Z Try.call51 (zB Z (zB Z zQ)) Z) aW (fun hs=>wDk O.Splits ao au wBr (.func (.func 52) #[] #[]) a9 aI hs bi bV bJ) (.inr Z) ?_
 rintro aJ cX db ba aF cd ⟨rfl,rfl⟩
 have aX:sW w U aJ [] ba:=cd
 refine zb Z Z Z (zS Z Z (nC ae.out)) (fun _=>ZV Z Z) (oR Z (zm Z (nC ae.out) Z) (oA Z Z (eN (ifc cN ?_ ?_))))
 intro aS cO
 refine zl (nC aS.out) (sR gAz Z (oR Z (zI Z Z zX Z yR) ?_))
 have bj:=bh.le aF
 refine oL Z (aX.ldC (f:=2) bj (v:=.slice ap O.Clocks.length av) Z Z Try.isAgg40 Z) ?_
 have bK:=cp.le aM
 have bL:=bK.le az
 have bM:=bL.le aE
 have bk:=bM.le aF
 have bW:FnOK Try.prog aJ (.func (.func 55) #[] #[]) wLm wLn wBs:=⟨55,[],[],rfl,Try.call55,fun U1 w1 x y vs le hs ha hm=>by obtain rfl:=ha;exact wFj x w1 U1 hs  hm⟩
 refine bnK cO fun dk bN cP=>zL 0 Z Z Z Z (zK Z Z Try.call54 (zB Z (zB Z zQ)) Z) aX (fun hs=>wDa O.Clocks ap av wBs (.func (.func 55) #[] #[]) ba aJ hs bk bW bN) (.inr Z) ?_
 rintro aK cY dd bb aG ci ⟨rfl,rfl⟩
 have aY:sW w U aK [] bb:=ci
 refine oR Z (ZV Z Z) (oA Z Z (eN (ifc cP ?_ ?_)))
 intro aT cQ
 refine zl (nC aT.out) (zJ (CK.fresh fun cS bq=>?_))
 have aU:cS 1=.pointer (some ⟨b2,0,none⟩):=(bq 1).trans rfl
 clear bq
 refine rR gAz Z (oR Z (zI Z aU zX Z yC) ?_)
 have bm:=bj.le aG
 refine oL Z (aY.ldC (f:=3) bm (v:=.slice ai O.Readings.length aj) Z Z yQ Z) ?_
 have bO:=cq.le aM
 have bP:=bO.le az
 have bQ:=bP.le aE
 have bR:=bQ.le aF
 have bn:=bR.le aG
 have bX:FnOK Try.prog aK (.func (.func 57) #[] #[]) wKy wKz wBt:=⟨57,[],[],rfl,Try.call57,fun U1 w1 x y vs le hs ha hm=>by obtain rfl:=ha;exact wFk x w1 U1 hs  hm⟩
 refine bnK cQ fun dl bS cR=>zL 0 Z Z Z Z (zK Z Z Try.call56 (zB Z (zB Z zQ)) Z) aY (fun hs=>wCL O.Readings ai aj wBt (.func (.func 57) #[] #[]) bb aK hs bn bX bS) (.inr Z) ?_
 rintro aL cZ de bc aH bY ⟨rfl,rfl⟩
 have aV:sW w U aL [] bc:=bY
 refine oR Z (ZV Z Z) (oA Z Z (eN (ifc cR ?_ ?_)))
 intro aP cr
 refine zl (nC aP.out) (sR (wDt (.fx 3 gAd .stop)) Z (oR Z (zI Z aU zX Z yC) ?_))
 have be:=bm.le aH
 refine oL Z (aV.ldC (f:=3) be (v:=.slice ai O.Readings.length aj) Z Z yQ Z) (oR Z (Runs.mkf Z zQ (zB aU zQ)) ?_)
 have bf:=bn.le aH
 have bt:=bg.le aE
 have bu:=bt.le aF
 have bv:=bu.le aG
 have bw:=bv.le aH
 have bz:=bi.le aF
 have bA:=bz.le aG
 have bB:=bA.le aH
 have bC:=bk.le aG
 have bD:=bC.le aH
 have bT:FnOK Try.prog aL (.func (.func 58) #[] #[.pointer (some ⟨b2,0,none⟩)]) wKy wKz (fun x=>wBu x O):=⟨58,[],[.pointer (some ⟨b2,0,none⟩)],rfl,Try.call58,fun U1 w1 x y vs le hs ha hm=>by obtain rfl:=ha;exact wFl x O b2 an aq ao au ap av ai aj w1 U1 hs (be.le le) (bw.le le) (bB.le le) (bD.le le) (bf.le le) hm⟩
 refine bnK cr fun dg bE ct=>zL 0 Z Z Z Z (zK Z Z Try.call56 (zB Z (zB Z zQ)) Z) aV (fun hs=>wCL O.Readings ai aj (fun x=>wBu x O) (.func (.func 58) #[] #[.pointer (some ⟨b2,0,none⟩)]) bc aL hs bf bT bE) (.inr Z) ?_
 rintro aN cU c8 br c6 bZ ⟨rfl,rfl⟩
 have bo:sW w U aN [] br:=bZ
 refine oR Z (ZV Z Z) (oA Z Z (eN (ifc ct ?_ ?_)))
 intro aQ cw
 refine zl (nC aQ.out) (ZL (zd (zF (sR fL1 Z (oA Z Z (eN (zT ?_)))))))
 cases cw
 exact ⟨Z,_,(ZK Z),aN,_,bo,Z,Z⟩
 intro aQ cx
 refine ZA (nF (aQ.out)) (sR fL1 Z (oA Z Z (eN (zT (zV (zP ?_))))))
 cases cx
 exact ⟨Z,_,(ZK Z),aN,_,bo,Z,Z⟩
 intro aP cy
 refine ZA (nF (aP.out)) (sR fL1 Z (oA Z Z (eN (zT (zV (zP ?_))))))
 cases cy
 exact ⟨Z,_,(ZK Z),aL,_,aV,Z,Z⟩
 intro aT cz
 refine ZA (nF (aT.out)) (sR fL1 Z (oA Z Z (eN (zT (zV (zP ?_))))))
 cases cz
 exact ⟨Z,_,(ZK Z),aK,_,aY,Z,Z⟩
 intro aS cA
 refine ZA (nF (aS.out)) (sR fL1 Z (oA Z Z (eN (zT (zV (zP ?_))))))
 cases cA
 exact ⟨Z,_,(ZK Z),aJ,_,aX,Z,Z⟩
 intro ae cB
 refine Zj Z Z Z (ZR Z Z (nF (ae.out)) Z) (Zj Z Z Z (ZR Z Z (nF (ae.out)) Z) (OKS.px Z Z Z (ZR Z Z (nF (ae.out)) Z) (Zj Z Z Z (ZR Z Z (nF (ae.out)) Z) (oR Z (zk Z (nF (ae.out)) Z) (oA Z Z (eN (ZA Z (sR fL1 Z (oA Z Z (eN (zT (zV (zP ?_)))))))))))))
 cases cB
 exact ⟨Z,_,(ZK Z),aI,_,aW,Z,Z⟩
 intro aa cC
 refine Zj Z Z Z (ZR Z Z (nF (aa.out)) Z) (Zj Z Z Z (ZR Z Z (nF (aa.out)) Z) (Zj Z Z Z (ZR Z Z (nF (aa.out)) Z) (Zj Z Z Z (ZR Z Z (nF (aa.out)) Z) (oR Z (zk Z (nF (aa.out)) Z) (oM Z Z (oN Z (oN Z (oN Z (oN Z (oR Z (zk Z Z Z) (oM Z Z (oN Z (oN Z (oN Z (oN Z (oR Z (zk Z Z Z) (oA Z Z (eN (ZA Z (sR fL1 Z (oA Z Z (eN (zT (zV (zP ?_)))))))))))))))))))))))))
 cases cC
 exact ⟨Z,_,(ZK Z),am,_,ag,Z,Z⟩
theorem wBK  (w:World) (U:PHeap) (hS:St0 w U [])  {r:wAB} (hm:wBc =some r):Gv Try.prog 21 [] w (wBz w [] U (fun U_ L_ v=>v=.agg #[jV r.skier,jV r.mat]/\L_=[])):=by
 unfold wBc at hm
 refine Gv.of Try.func21 Z Try.ntmps21 Try.results21 Z (sR (.fx 0 .nil .stop) Z (zY (cs:=[jV 0,jV 0]) Z Z Z Z Z zj Z hS ?_))
 intro W1 b2 ae
 refine eN (sR (.fl 0 (.fx 1 .nil .stop)) Z ?_)
 let O:List Value:=[jV (-1),jV 0]
 refine oR Z (zq (pv:=[(0,jV (-1)),(1,jV 0)]) (z:=[jV 0,jV 0]) (cs:=O) Z (wAC Z (wAC Z wAR)) zj wBW Z Z) (za (j:=0) (vs:=O) Z Z Z Z ae Z Z Z Z zG (zA Z) Z Z Z ?_)
 intro W5 af
 have aa:sW w U U [.blk b2 71 O] W5:=af
 refine eN (zT ?_)
 cases hm
 exact ⟨rfl,_,(wIJ (v:=.agg O.toArray) ⟨⟨_,rfl,(wBL zh zG (aa.blkAt (k:=0) rfl) (vs:=O) rfl rfl)⟩,trivial⟩),U,_,(aa.pick [] _ (by decide) rfl),rfl,rfl⟩
theorem wEI {S E:Type} (PY:S->PHeap->List Res->Prop) (PE:E->PHeap->List Res->Prop) (f:S->wAK->Option (S ⊕ E)) (y:Nat) (s0:S) (O:wAD) (aj:Nat) (bH:Option Addr) (bL:Nat) (bI:Option Addr) (bM:Nat) (bJ:Option Addr) (bN:Nat) (bK:Option Addr) (bO:Nat) (w:World) (L:List Res) (U:PHeap) (hS:St ⟨w,L,U⟩ U L w) (hP:PY s0 U L) (hY:YOK Try.prog y wLo PY PE f U) (aM:Cl U aj 0 [.slice bH O.Starts.length bL,.slice bI O.Splits.length bM,.slice bJ O.Clocks.length bN,.slice bK O.Readings.length bO]) (iP:Sl U 1 bH bL O.Starts.length (hD KL.encI O.Starts)) (iQ:Sl U 2 bI bM O.Splits.length (hD wAE O.Splits)) (iR:Sl U 3 bJ bN O.Clocks.length (hD wAP O.Clocks)) (iS:Sl U 4 bK bO O.Readings.length (hD wAH O.Readings)) {r:S ⊕ E} (hm:wBV f s0 O=some r):Gv Try.prog 63 [.func (.yield y) #[] #[],.pointer (some ⟨aj,0,none⟩)] w (ItS w L U PY PE r):=by
 unfold wBV at hm
 refine Gv.of Try.func63 Z Try.ntmps63 Try.results63 Z (sR fL11 Z (oR Z (zI Z Z zX Z yB) (oL Z (hS.ldC (f:=1) aM (v:=.slice bI O.Splits.length bM) Z Z yP Z) (oR Z (ZB Z Z ze) (oR Z (zI Z Z zX Z yR) (oL Z (hS.ldC (f:=2) aM (v:=.slice bJ O.Clocks.length bN) Z Z Try.isAgg40 Z) (oR Z (ZB Z Z Zk) (oR Z (zI Z Z zX Z yC) (oL Z (hS.ldC (f:=3) aM (v:=.slice bK O.Readings.length bO) Z Z yQ Z) (oR Z (ZB Z Z Zq) ?_))))))))))
 let B0:List Value:=[jV 1,jV (↑O.Splits.length:Int),jV (↑O.Clocks.length:Int),jV (↑O.Readings.length:Int)]
 refine oR Z (Runs.buildA (pv:=[(0,jV 1),(1,jV (↑O.Splits.length:Int)),(2,jV (↑O.Clocks.length:Int)),(3,jV (↑O.Readings.length:Int))]) (z:=[jV 0,jV 0,jV 0,jV 0]) (cs:=B0) Z (wAC Z (wAC Z (wAC Z (wAC Z wAR)))) Try.zeroValue128 Try.runUnderlying128 zC Z Z) (oM Z Z (eN (zU ?_)))
 have q:=wBx hm
 obtain ⟨iV,an⟩:=q
 have q:=wBw an
 obtain ⟨bz,fT⟩:=q
 replace bz:=zH bz
 refine yE (fun aa cW σ_ w_=>∃ (U_:PHeap) (ap:List Res),σ_ 18=jV (↑aa:Int)/\σ_ 0=.func (.yield y) #[] #[]/\σ_ 1=.pointer (some ⟨aj,0,none⟩)/\σ_ 17=.agg B0.toArray/\PHeap.Le U U_/\St ⟨w,L,U⟩ U_ ap w_/\PY cW U_ ap) fT ?_ ?_ ?_
 exact ⟨U,L,Z,Z,Z,Z,(zM _),hS,hP⟩
 rintro aa cW i7 jh ip bt ⟨a8,ap,au,co,bf,bg,am,bq,cB⟩ gH aN
 have cd:Hid ((↑aa:Int) < 4):=zH (wBG bt)
 replace bt:=zH bt
 have cN:Hid (w64 ((↑aa:Int) + 1)=(↑(aa + 1):Int)):=zH (by have h1:=bz.out;have h2:=cd.out;rw [wAY] <;> omega)
 refine sR fL1 Z (oR Z (zO Z au Z) (eN (zJ (cT Z cd (kN (zJ (zU (sR fL4 Z (oM Z au (bnK gH fun ae bp gj=>oR Z (Runs.ixA (cs:=hD KL.encI ([1,(↑O.Splits.length:Int),(↑O.Clocks.length:Int),(↑O.Readings.length:Int)]:List Int)) Z bg au Try.runUnderlying128 zC (wCS bp) (wCY bp) (wIh zE (wDX (sz:=1) (fun _=>Z) _ _ 0 _ _ (wAr bp) Z))) (oA Z Z (oA Z Z (eN (sR fL4 Z (oR Z (zI Z bf zX Z ZE) ?_)))))))))))))))
 have fj:=aM.le am
 refine oL Z (bq.ldC (f:=0) fj (v:=.slice bH O.Starts.length bL) Z Z ZI Z) (oR Z (ZB Z Z zD) (oA Z Z (eN (zJ ?_))))
 have q:=bnd gj
 obtain ⟨⟨di,gT⟩,cR,cO⟩:=q
 try dsimp only at cO
 refine Zp (fun σ_ w_=>∃ (U_:PHeap) (aq:List Res),σ_ 0=.func (.yield y) #[] #[]/\σ_ 1=.pointer (some ⟨aj,0,none⟩)/\σ_ 3=jV (↑aa:Int)/\σ_ 4=jV ae/\σ_ 5=jV (↑O.Starts.length:Int)/\σ_ 17=.agg B0.toArray/\σ_ 18=jV (↑aa:Int)/\σ_ 30=.bool di/\PHeap.Le a8 U_/\St ⟨w,L,U⟩ U_ aq w_/\PY gT U_ aq) ?_ ?_
 refine rR fL6 Z (oM Z Z (oR Z (Runs.eql Z Z Z) (oM Z Z ?_)))
 by_cases af:(↑aa:Int)=2
 have cP:=cR;rw [if_pos af] at cP;replace af:=zH af
 refine oT Z af (oT Z af (oR Z (zk Z (ZW af.out) Z) (zW ?_)))
 cases cP
 exact zF ⟨Z,⟨a8,ap,co,bf,Z,Z,Z,bg,au,Z,(zM _),bq,cB⟩⟩
 have cQ:=cR;rw [if_neg af] at cQ;replace af:=zH af
 refine zN Z Z Z (wF Z af) Z Z (rU Z (wF Z af) (Runs.eql Z Z Z) (oR Z (zm Z (zy af.out) Z) (zW ?_)))
 cases cQ
 exact zF ⟨Z,⟨a8,ap,co,bf,Z,Z,Z,bg,au,Z,(zM _),bq,cB⟩⟩
 rintro jq iA ⟨az,aq,cq,cr,ct,cu,eL,cw,cx,cy,ao,cI,cC⟩
 refine ifc cO ?_ ?_
 intro ba aT
 refine ZA (cy.trans (congrArg hJ ba.out)) (rR fL1 Z (oA Z Z (eN (sR fL2 Z (oM Z Z (oM Z Z (eN (zU ?_))))))))
 have q:=wBx aT
 obtain ⟨iY,aL⟩:=q
 have q:=wBw aL
 obtain ⟨bC,fW⟩:=q
 replace bC:=zH bC
 refine yE (fun ac c6 σ_ w_=>∃ (U_:PHeap) (aw:List Res),σ_ 32=jV (↑ac:Int)/\σ_ 0=.func (.yield y) #[] #[]/\σ_ 1=.pointer (some ⟨aj,0,none⟩)/\σ_ 3=jV (↑aa:Int)/\σ_ 4=jV ae/\σ_ 17=.agg B0.toArray/\σ_ 18=jV (↑aa:Int)/\σ_ 31=jV 1/\PHeap.Le az U_/\St ⟨w,L,U⟩ U_ aw w_/\PY c6 U_ aw) fW ?_ ?_ ?_
 exact ⟨az,aq,Z,cq,cr,ct,cu,cw,cx,Z,(zM _),cI,cC⟩
 rintro ac c6 ja jr iB bw ⟨bU,aw,bo,eM,eO,eQ,cz,eT,eU,cA,bG,fM,e6⟩ aV cM
 have bZ:Hid ((↑ac:Int) < 1):=zH (wBG bw)
 replace bw:=zH bw
 have fY:Hid (w64 ((↑ac:Int) + 1)=(↑(ac + 1):Int)):=zH (by have h1:=bC.out;have h2:=bZ.out;rw [wAY] <;> omega)
 refine sR fL1 Z (oR Z (zO Z bo cA) (eN (zJ (cT Z bZ (kN (zJ (zU (sR fL2 Z (oM Z bo (oA Z Z (eN (sR fL2 Z (oM Z cz (oM Z Z (eN (zU ?_))))))))))))))))
 have q:=wBx aV
 obtain ⟨iU,aI⟩:=q
 have q:=wBw aI
 obtain ⟨bx,fS⟩:=q
 replace bx:=zH bx
 refine yE (fun ag cX σ_ w_=>∃ (U_:PHeap) (aW:List Res),σ_ 36=jV (↑ag:Int)/\σ_ 0=.func (.yield y) #[] #[]/\σ_ 1=.pointer (some ⟨aj,0,none⟩)/\σ_ 3=jV (↑aa:Int)/\σ_ 4=jV ae/\σ_ 6=jV (↑ac:Int)/\σ_ 17=.agg B0.toArray/\σ_ 18=jV (↑aa:Int)/\σ_ 31=jV 1/\σ_ 32=jV (↑ac:Int)/\σ_ 35=jV ae/\PHeap.Le bU U_/\St ⟨w,L,U⟩ U_ aW w_/\PY cX U_ aW) fS ?_ ?_ ?_
 exact ⟨bU,aw,Z,eM,eO,eQ,cz,Z,eT,eU,cA,bo,Z,(zM _),fM,e6⟩
 rintro ag cX iZ jg io br ⟨il,aW,bk,bb,dD,bc,dE,be,dF,dG,dH,dI,ci,bD,ft,e7⟩ gG cJ
 have ca:Hid ((↑ag:Int) < ae):=zH (wBG br)
 replace br:=zH br
 have fZ:Hid (w64 ((↑ag:Int) + 1)=(↑(ag + 1):Int)):=zH (by have h1:=bx.out;have h2:=ca.out;rw [wAY] <;> omega)
 refine sR fL1 Z (oR Z (zO Z bk ci) (eN (zJ (cT Z ca (kN (zJ (zU (sR fL2 Z (oM Z bk (oA Z Z (eN (sR (wDD (.fx 5 (wKq gAr) .stop)) Z (oM Z bb (oM Z bc (oM Z be (oM Z Z ?_))))))))))))))))
 let B1:List Value:=[jV 0,jV 0,jV 0,.bool false]
 refine oR Z (zq (pv:=[(0,jV (↑aa:Int)),(1,jV (↑ac:Int)),(2,jV (↑ag:Int)),(3,.bool true)]) (z:=B1) (cs:=[jV (↑aa:Int),jV (↑ac:Int),jV (↑ag:Int),.bool true]) Z (wAC Z (wAC Z (wAC Z (wAC Z wAR)))) Try.zeroValue106 wEU Z Z) (bnK gG fun ie e8 aO=>OKS.yieldT 0 (a:=(⟨(↑aa:Int),(↑ac:Int),(↑ag:Int),true⟩:wAK)) Z Z Z Z Z Z (zB Z zQ) ft hY (((am.trans ao).trans bG).trans bD) e7 Z e8 Z ?_)
 rintro a7 bR iC bV cS cD aE
 rcases ie with gP | gP
 try dsimp only at aO aE
 obtain ⟨rfl,gv⟩:=aE
 have fu:St ⟨w,L,U⟩ a7 bR bV:=cD
 refine oR Z (ZV Z Z) (oM Z Z (zN Z Z Z (zS Z Z Z) Z bb (zN Z Z Z (zS Z Z Z) Z bc (zN Z Z Z (zS Z Z Z) Z be (zN Z Z Z (zS Z Z Z) Z Z (zb Z Z Z (zS Z Z Z) (fun _=>zq (pv:=[(0,jV (↑aa:Int)),(1,jV (↑ac:Int)),(2,jV (↑ag:Int)),(3,.bool false)]) (z:=B1) (cs:=[jV (↑aa:Int),jV (↑ac:Int),jV (↑ag:Int),.bool false]) Z (wAC Z (wAC Z (wAC Z (wAC Z wAR)))) Try.zeroValue106 wEU Z Z) (bnK aO fun ig e9 aP=>OKS.yieldT 0 (a:=(⟨(↑aa:Int),(↑ac:Int),(↑ag:Int),false⟩:wAK)) Z Z Z (zS Z Z Z) Z Z (zB Z zQ) fu hY ((((am.trans ao).trans bG).trans bD).trans cS) gv Z e9 Z ?_)))))))
 rintro ax aX iD bW gJ cE aF
 rcases ig with gQ | gQ
 try dsimp only at aP aF
 obtain ⟨rfl,gw⟩:=aF
 have fw:St ⟨w,L,U⟩ ax aX bW:=cE
 refine zb Z Z Z (zS Z Z Z) (fun _=>ZV Z Z) (oR Z (zm Z Z Z) (eN (zl Z (ZL (zd (zF (rR fL2 Z (oR Z (ZJ (zR Z bk Z) (congrArg (jV) fZ.out)) (oM Z Z (zW ?_))))))))))
 have q:=hH aP
 obtain rfl:=q
 exact zF ⟨Z,_,Z,⟨ax,aX,Z,bb,dD,bc,dE,be,dF,dG,dH,dI,ci,((bD.trans cS).trans gJ),fw,gw⟩⟩
 try dsimp only at aP aF
 obtain ⟨rfl,gA⟩:=aF
 have fy:St ⟨w,L,U⟩ ax aX bW:=cE
 refine zb Z Z Z (zS Z Z Z) (fun _=>ZV Z Z) (oR Z (zm Z Z Z) (eN (ZA Z (zT (zV (zP ?_))))))
 have q:=wAV aP
 obtain ⟨gU,f6,dq⟩:=q
 have q:=wBA aV aI (cJ gU dq)
 obtain rfl:=q
 refine zP (zV (zV (zP ?_)))
 have q:=wAV f6
 obtain ⟨gV,f7,dr⟩:=q
 have q:=wBA aT aL (cM gV dr)
 obtain rfl:=q
 refine zP (zV (zV (zP ?_)))
 have q:=wAV f7
 obtain ⟨gW,f8,dt⟩:=q
 have q:=wBA hm an (aN gW dt)
 obtain rfl:=q
 refine zP (zV ?_)
 cases f8
 exact ⟨Z,_,(wDM),ax,_,fy,gA⟩
 try dsimp only at aO aE
 obtain ⟨rfl,gB⟩:=aE
 have fz:St ⟨w,L,U⟩ a7 bR bV:=cD
 refine oR Z (ZV Z Z) (oM Z Z (oN Z (oN Z (oN Z (oN Z (oN Z (OKS.px Z Z Z (ZR Z Z Z Z) (oN Z (oR Z (zk Z Z Z) (eN (ZA Z (zT (zV (zP ?_))))))))))))))
 have q:=wAV aO
 obtain ⟨gX,f9,du⟩:=q
 have q:=wBA aV aI (cJ gX du)
 obtain rfl:=q
 refine zP (zV (zV (zP ?_)))
 have q:=wAV f9
 obtain ⟨gY,ga,dv⟩:=q
 have q:=wBA aT aL (cM gY dv)
 obtain rfl:=q
 refine zP (zV (zV (zP ?_)))
 have q:=wAV ga
 obtain ⟨gZ,gb,dw⟩:=q
 have q:=wBA hm an (aN gZ dw)
 obtain rfl:=q
 refine zP (zV ?_)
 cases gb
 exact ⟨Z,_,(wDM),a7,_,fz,gB⟩
 rintro jb ji iq ⟨dd,c8,eV,dJ,dK,dL,dM,iG,dN,dO,dP,dQ,dR,gK,fA,fb⟩ fN
 have ge:=wCl aV aI fN
 have dk:Hid (¬ ((↑((ae:Int) - 0).toNat:Int) < ae)):=zH (wAp)
 refine sR fL1 Z (oR Z (zO Z eV dR) (eN (zJ (cF Z dk (ZM (zc (zc (ZC (zd (zF (rR fL2 Z (oR Z (ZJ (zR Z dQ Z) (congrArg (jV) fY.out)) (oM Z Z (zW ?_))))))))))))))
 have q:=hH ge
 obtain rfl:=q
 exact zF ⟨Z,_,Z,⟨dd,c8,Z,dJ,dK,dL,dM,dN,dO,dP,(bG.trans gK),fA,fb⟩⟩
 rintro jc jj ir ⟨de,c9,eW,dS,dT,iH,iI,dU,dV,dW,gL,fB,fc⟩ fO
 have gf:=wCl aT aL fO
 have dl:Hid (¬ ((↑((1:Int) - 0).toNat:Int) < 1)):=zH (wAp)
 refine sR fL1 Z (oR Z (zO Z eW dW) (eN (zJ (cF Z dl (ZM (zc (zc (ZC (zd (zF (rR fL2 Z (oR Z (ZJ (zR Z dV Z) (congrArg (jV) cN.out)) (oM Z Z (zW ?_))))))))))))))
 have q:=hH gf
 obtain rfl:=q
 exact zF ⟨Z,_,Z,⟨de,c9,Z,dS,dT,dU,((am.trans ao).trans gL),fB,fc⟩⟩
 intro ba aQ
 refine zl (cy.trans (congrArg hJ (nA.2 ba.out))) (kN (sR fL2 Z (oM Z eL (oM Z Z (eN (zU ?_))))))
 have q:=wBx aQ
 obtain ⟨iW,aJ⟩:=q
 have q:=wBw aJ
 obtain ⟨bA,fU⟩:=q
 replace bA:=zH bA
 refine yE (fun ab cY σ_ w_=>∃ (U_:PHeap) (av:List Res),σ_ 32=jV (↑ab:Int)/\σ_ 0=.func (.yield y) #[] #[]/\σ_ 1=.pointer (some ⟨aj,0,none⟩)/\σ_ 3=jV (↑aa:Int)/\σ_ 4=jV ae/\σ_ 17=.agg B0.toArray/\σ_ 18=jV (↑aa:Int)/\σ_ 31=jV (↑O.Starts.length:Int)/\PHeap.Le az U_/\St ⟨w,L,U⟩ U_ av w_/\PY cY U_ av) fU ?_ ?_ ?_
 exact ⟨az,aq,Z,cq,cr,ct,cu,cw,cx,Z,(zM _),cI,cC⟩
 rintro ab cY i8 jk it bu ⟨bT,av,bm,dX,dY,dZ,cj,d5,d6,cm,bE,fC,fd⟩ aU cK
 have cb:Hid ((↑ab:Int) < (↑O.Starts.length:Int)):=zH (wBG bu)
 replace bu:=zH bu
 have f4:Hid (w64 ((↑ab:Int) + 1)=(↑(ab + 1):Int)):=zH (by have h1:=bA.out;have h2:=cb.out;rw [wAY] <;> omega)
 refine sR fL1 Z (oR Z (zO Z bm cm) (eN (zJ (cT Z cb (kN (zJ (zU (sR fL2 Z (oM Z bm (oA Z Z (eN (sR fL2 Z (oM Z cj (oM Z Z (eN (zU ?_))))))))))))))))
 have q:=wBx aU
 obtain ⟨iX,aK⟩:=q
 have q:=wBw aK
 obtain ⟨bB,fV⟩:=q
 replace bB:=zH bB
 refine yE (fun ai cZ σ_ w_=>∃ (U_:PHeap) (aY:List Res),σ_ 36=jV (↑ai:Int)/\σ_ 0=.func (.yield y) #[] #[]/\σ_ 1=.pointer (some ⟨aj,0,none⟩)/\σ_ 3=jV (↑aa:Int)/\σ_ 4=jV ae/\σ_ 6=jV (↑ab:Int)/\σ_ 17=.agg B0.toArray/\σ_ 18=jV (↑aa:Int)/\σ_ 31=jV (↑O.Starts.length:Int)/\σ_ 32=jV (↑ab:Int)/\σ_ 35=jV ae/\PHeap.Le bT U_/\St ⟨w,L,U⟩ U_ aY w_/\PY cZ U_ aY) fV ?_ ?_ ?_
 exact ⟨bT,av,Z,dX,dY,dZ,cj,Z,d5,d6,cm,bm,Z,(zM _),fC,fd⟩
 rintro ai cZ i9 jl iu bv ⟨im,aY,bn,bh,d7,bi,d8,bj,d9,ef,eh,ej,cp,bF,fD,ff⟩ gI cL
 have cc:Hid ((↑ai:Int) < ae):=zH (wBG bv)
 replace bv:=zH bv
 have f5:Hid (w64 ((↑ai:Int) + 1)=(↑(ai + 1):Int)):=zH (by have h1:=bB.out;have h2:=cc.out;rw [wAY] <;> omega)
 refine sR fL1 Z (oR Z (zO Z bn cp) (eN (zJ (cT Z cc (kN (zJ (zU (sR fL2 Z (oM Z bn (oA Z Z (eN (sR (wDD (.fx 5 (wKq gAr) .stop)) Z (oM Z bh (oM Z bi (oM Z bj (oM Z Z ?_))))))))))))))))
 let B2:List Value:=[jV 0,jV 0,jV 0,.bool false]
 refine oR Z (zq (pv:=[(0,jV (↑aa:Int)),(1,jV (↑ab:Int)),(2,jV (↑ai:Int)),(3,.bool true)]) (z:=B2) (cs:=[jV (↑aa:Int),jV (↑ab:Int),jV (↑ai:Int),.bool true]) Z (wAC Z (wAC Z (wAC Z (wAC Z wAR)))) Try.zeroValue106 wEU Z Z) (bnK gI fun ii fg aR=>OKS.yieldT 0 (a:=(⟨(↑aa:Int),(↑ab:Int),(↑ai:Int),true⟩:wAK)) Z Z Z Z Z Z (zB Z zQ) fD hY (((am.trans ao).trans bE).trans bF) ff Z fg Z ?_)
 rintro a9 bS iE bX cU cG aG
 rcases ii with gR | gR
 try dsimp only at aR aG
 obtain ⟨rfl,gC⟩:=aG
 have fE:St ⟨w,L,U⟩ a9 bS bX:=cG
 refine oR Z (ZV Z Z) (oM Z Z (zN Z Z Z (zS Z Z Z) Z bh (zN Z Z Z (zS Z Z Z) Z bi (zN Z Z Z (zS Z Z Z) Z bj (zN Z Z Z (zS Z Z Z) Z Z (zb Z Z Z (zS Z Z Z) (fun _=>zq (pv:=[(0,jV (↑aa:Int)),(1,jV (↑ab:Int)),(2,jV (↑ai:Int)),(3,.bool false)]) (z:=B2) (cs:=[jV (↑aa:Int),jV (↑ab:Int),jV (↑ai:Int),.bool false]) Z (wAC Z (wAC Z (wAC Z (wAC Z wAR)))) Try.zeroValue106 wEU Z Z) (bnK aR fun ij fh aS=>OKS.yieldT 0 (a:=(⟨(↑aa:Int),(↑ab:Int),(↑ai:Int),false⟩:wAK)) Z Z Z (zS Z Z Z) Z Z (zB Z zQ) fE hY ((((am.trans ao).trans bE).trans bF).trans cU) gC Z fh Z ?_)))))))
 rintro ay aZ iF bY gM cH aH
 rcases ij with gS | gS
 try dsimp only at aS aH
 obtain ⟨rfl,gD⟩:=aH
 have fG:St ⟨w,L,U⟩ ay aZ bY:=cH
 refine zb Z Z Z (zS Z Z Z) (fun _=>ZV Z Z) (oR Z (zm Z Z Z) (eN (zl Z (ZL (zd (zF (rR fL2 Z (oR Z (ZJ (zR Z bn Z) (congrArg (jV) f5.out)) (oM Z Z (zW ?_))))))))))
 have q:=hH aS
 obtain rfl:=q
 exact zF ⟨Z,_,Z,⟨ay,aZ,Z,bh,d7,bi,d8,bj,d9,ef,eh,ej,cp,((bF.trans cU).trans gM),fG,gD⟩⟩
 try dsimp only at aS aH
 obtain ⟨rfl,gE⟩:=aH
 have fH:St ⟨w,L,U⟩ ay aZ bY:=cH
 refine zb Z Z Z (zS Z Z Z) (fun _=>ZV Z Z) (oR Z (zm Z Z Z) (eN (ZA Z (zT (zV (zP ?_))))))
 have q:=wAV aS
 obtain ⟨g6,gg,dx⟩:=q
 have q:=wBA aU aK (cL g6 dx)
 obtain rfl:=q
 refine zP (zV (zV (zP ?_)))
 have q:=wAV gg
 obtain ⟨g7,gh,dy⟩:=q
 have q:=wBA aQ aJ (cK g7 dy)
 obtain rfl:=q
 refine zP (zV (zV (zP ?_)))
 have q:=wAV gh
 obtain ⟨g8,gi,dz⟩:=q
 have q:=wBA hm an (aN g8 dz)
 obtain rfl:=q
 refine zP (zV ?_)
 cases gi
 exact ⟨Z,_,(wDM),ay,_,fH,gE⟩
 try dsimp only at aR aG
 obtain ⟨rfl,gF⟩:=aG
 have fI:St ⟨w,L,U⟩ a9 bS bX:=cG
 refine oR Z (ZV Z Z) (oM Z Z (oN Z (oN Z (oN Z (oN Z (oN Z (OKS.px Z Z Z (ZR Z Z Z Z) (oN Z (oR Z (zk Z Z Z) (eN (ZA Z (zT (zV (zP ?_))))))))))))))
 have q:=wAV aR
 obtain ⟨g9,gk,dA⟩:=q
 have q:=wBA aU aK (cL g9 dA)
 obtain rfl:=q
 refine zP (zV (zV (zP ?_)))
 have q:=wAV gk
 obtain ⟨ib,gm,dB⟩:=q
 have q:=wBA aQ aJ (cK ib dB)
 obtain rfl:=q
 refine zP (zV (zV (zP ?_)))
 have q:=wAV gm
 obtain ⟨ic,gp,dC⟩:=q
 have q:=wBA hm an (aN ic dC)
 obtain rfl:=q
 refine zP (zV ?_)
 cases gp
 exact ⟨Z,_,(wDM),a9,_,fI,gF⟩
 rintro jd jm iv ⟨df,da,eX,ek,en,eo,ep,iJ,ez,eB,eC,eD,eE,gN,fJ,fk⟩ fP
 have gq:=wCl aU aK fP
 have dm:Hid (¬ ((↑((ae:Int) - 0).toNat:Int) < ae)):=zH (wAp)
 refine sR fL1 Z (oR Z (zO Z eX eE) (eN (zJ (cF Z dm (ZM (zc (zc (ZC (zd (zF (rR fL2 Z (oR Z (ZJ (zR Z eD Z) (congrArg (jV) f4.out)) (oM Z Z (zW ?_))))))))))))))
 have q:=hH gq
 obtain rfl:=q
 exact zF ⟨Z,_,Z,⟨df,da,Z,ek,en,eo,ep,ez,eB,eC,(bE.trans gN),fJ,fk⟩⟩
 rintro je jo iw ⟨dg,db,eY,eF,eG,iK,iL,eH,eI,eJ,gO,fK,fm⟩ fQ
 have gt:=wCl aQ aJ fQ
 have dn:Hid (¬ ((↑(((↑O.Starts.length:Int):Int) - 0).toNat:Int) < (↑O.Starts.length:Int))):=zH (wAp)
 refine sR fL1 Z (oR Z (zO Z eY eJ) (eN (zJ (cF Z dn (ZM (zc (zc (ZC (zd (zF (rR fL2 Z (oR Z (ZJ (zR Z eI Z) (congrArg (jV) cN.out)) (oM Z Z (zW ?_))))))))))))))
 have q:=hH gt
 obtain rfl:=q
 exact zF ⟨Z,_,Z,⟨dg,db,Z,eF,eG,eH,((am.trans ao).trans gO),fK,fm⟩⟩
 rintro jf jp iz ⟨dh,ik,eZ,iM,iN,iO,iT,fL,fq⟩ fR
 have gu:=wCl hm an fR
 have dp:Hid (¬ ((↑((4:Int) - 0).toNat:Int) < 4)):=zH (wAp)
 refine sR fL1 Z (oR Z (zO Z eZ Z) (eN (zJ (cF Z dp (ZM (zc (zc (ZC ?_))))))))
 cases gu
 exact ⟨Z,_,(wDM),dh,_,fL,fq⟩
end Go.Proofs.Ytkedcbligiebkaa
namespace Go.Proofs.Ytkedcbligiebkaa
open Go.KL
set_option maxHeartbeats 4000000
theorem wEj (O:wAD) (ab:Option Addr) (ag:Nat) (ac:Option Addr) (ai:Nat) (ae:Option Addr) (aj:Nat) (af:Option Addr) (ak:Nat) (w:World) (U:PHeap) (hS:St0 w U []) (ax:Sl U 1 ab ag O.Starts.length (hD KL.encI O.Starts)) (ay:Sl U 2 ac ai O.Splits.length (hD wAE O.Splits)) (az:Sl U 3 ae aj O.Clocks.length (hD wAP O.Clocks)) (aE:Sl U 4 af ak O.Readings.length (hD wAH O.Readings)) {r:Unit} (hm:wCI O=some r):Gv Try.prog 59 [.agg #[.slice ab O.Starts.length ag,.slice ac O.Splits.length ai,.slice ae O.Clocks.length aj,.slice af O.Readings.length ak]] w (wBz w [] U (fun U_ L_ v=>∃ (b0:Nat),v=.func (.func 63) #[] #[.pointer (some ⟨b0,0,none⟩)]/\L_=[]/\Cl U_ b0 0 [.slice ab O.Starts.length ag,.slice ac O.Splits.length ai,.slice ae O.Clocks.length aj,.slice af O.Readings.length ak])):=by
 unfold wCI at hm
 refine Gv.of Try.func59 Z Try.ntmps59 Try.results59 Z (sR gAh Z ?_)
 let B0:List Value:=[.slice ab O.Starts.length ag,.slice ac O.Splits.length ai,.slice ae O.Clocks.length aj,.slice af O.Readings.length ak]
 refine ZD (cs:=B0) rfl rfl rfl rfl rfl rfl (by rfl) hS ?_
 intro W1 b2 au
 have q:=au.freeze (k:=0) rfl
 obtain ⟨U5,aF,aa,av⟩:=q
 replace aa:=Cl.of aa
 have aw:sW w U U5 [] W1:=av
 replace aa:Cl U5 b2 0 B0:=aa
 refine oA Z Z (eN (sR fL2 Z (oR Z (Runs.mkf Z zQ (zB Z zQ)) (oA Z Z (eN (zT ?_))))))
 cases hm
 exact ⟨Z,_,(ZK Z),U5,_,aw,b2,Z,Z,aa⟩
theorem wFm (O:wAD) (aE:Option Addr) (aI:Nat) (aF:Option Addr) (aJ:Nat) (aG:Option Addr) (aK:Nat) (aH:Option Addr) (aL:Nat) (p1:wAK) (w:World) (U:PHeap) (hS:St0 w U []) (bG:Sl U 1 aE aI O.Starts.length (hD KL.encI O.Starts)) (bH:Sl U 2 aF aJ O.Splits.length (hD wAE O.Splits)) (bI:Sl U 3 aG aK O.Clocks.length (hD wAP O.Clocks)) (bJ:Sl U 4 aH aL O.Readings.length (hD wAH O.Readings)) {r:wAB × wAB} (hm:wCr O p1=some r):Gv Try.prog 68 [.agg #[.slice aE O.Starts.length aI,.slice aF O.Splits.length aJ,.slice aG O.Clocks.length aK,.slice aH O.Readings.length aL],.agg #[jV p1.Kind,jV p1.Skier,jV p1.Index,.bool p1.Up]] w (wBz w [] U (fun U_ L_ v=>v=.tuple #[.agg #[jV r.1.skier,jV r.1.mat],.agg #[jV r.2.skier,jV r.2.mat]]/\L_=[])):=by
 unfold wCr at hm
 refine Gv.of Try.func68 Z Try.ntmps68 Try.results68 Z (sR gAx Z ?_)
 let B0:List Value:=[.slice aE O.Starts.length aI,.slice aF O.Splits.length aJ,.slice aG O.Clocks.length aK,.slice aH O.Readings.length aL]
 refine ZD (cs:=B0) rfl rfl rfl rfl rfl rfl (by rfl) hS ?_
 intro W1 b2 bc
 let B1:List Value:=[jV p1.Kind,jV p1.Skier,jV p1.Index,.bool p1.Up]
 refine ZD (cs:=B1) rfl rfl rfl rfl rfl rfl (by rfl) bc ?_
 intro W5 b6 bn
 let B2:List Value:=[jV 0,jV 0]
 refine zY (cs:=B2) Z Z Z Z Z zj Z bn ?_
 intro W9 ag ba
 refine zY (cs:=B2) Z Z Z Z Z zj Z ba ?_
 intro aM ai bb
 refine eN ?_
 have q:=bnd hm
 obtain ⟨⟨bx,bz⟩,bv,aQ⟩:=q
 try dsimp only at aQ
 let B3:List Value:=[jV p1.Skier,jV 0]
 let B4:List Value:=[jV bx,jV bz]
 refine Zp (fun σ_ w_=>∃ (U_:PHeap),σ_ 4=.pointer (some ⟨ag,0,none⟩)/\σ_ 5=.pointer (some ⟨ai,0,none⟩)/\PHeap.Le U U_/\sW w U U_ [.blk ai 71 B3,.blk ag 71 B4,.blk b6 106 B1,.blk b2 45 B0] w_) ?_ ?_
 refine bnK bv fun an aO az=>zw zx [2,3,2,3,0,0] (.fl 1 (.fx 0 (.fx 2 (.fl 3 gAj) (.fx 4 (.fx 2 (.fl 3 (.fx 5 .nil .stop)) .stop) .stop)) (.fx 2 (.fl 3 (.fx 0 gAj .stop)) .stop))) (by kernel_rfl) ?_
 have ap:=bb.drew
 generalize hw_W40:({ aM with drawn:=aM.drawn + 1 }:World)=aN at ap ⊢
 refine oR Z (zI Z Z zu Z zC) (zo ?_ ?_)
 refine zL 0 Z Z Z Z (zK Z Z yD zQ Z) ap (fun hs=>wBK aN U hs aO) (.inr Z) ?_
 rintro am bA bL aT aR be ⟨rfl,rfl⟩
 have ax:sW w U am [.blk ai 71 B2,.blk ag 71 B2,.blk b6 106 B1,.blk b2 45 B0] aT:=be
 refine zo ?_ ?_
 refine ZO Z Z Z Z (ax.ldB (j:=2) Z Z Z zE (v:=jV p1.Skier) Z) (oR Z (zq (pv:=[(0,jV p1.Skier),(1,jV 0)]) (z:=B2) (cs:=B3) Z (wAC Z (wAC Z wAR)) zj wBW Z Z) ?_)
 let B5:List Value:=[jV an.skier,jV an.mat]
 refine za (j:=1) (vs:=B5) Z Z Z Z ax Z Z Z Z zG (zA Z) Z Z Z ?_
 intro aU bf
 have bg:sW w U am [.blk ai 71 B2,.blk ag 71 B5,.blk b6 106 B1,.blk b2 45 B0] aU:=bf
 refine za (j:=0) (vs:=B3) Z Z Z Z bg Z Z Z Z zG (zA Z) Z Z Z ?_
 intro aV bh
 have bi:sW w U am [.blk ai 71 B3,.blk ag 71 B5,.blk b6 106 B1,.blk b2 45 B0] aV:=bh
 refine zW ?_
 cases az
 exact zF ⟨Z,⟨am,Z,Z,aR,bi⟩⟩
 let B6:List Value:=[jV an.skier,jV an.mat]
 refine za (j:=1) (vs:=B6) Z Z Z Z ax Z Z Z Z zG (zA Z) Z Z Z ?_
 intro aW bj
 have aP:sW w U am [.blk ai 71 B2,.blk ag 71 B6,.blk b6 106 B1,.blk b2 45 B0] aW:=bj
 refine ZO Z Z Z Z (aP.ldB (j:=2) Z Z Z zE (v:=jV p1.Skier) Z) (oR Z (zq (pv:=[(0,jV p1.Skier),(1,jV 0)]) (z:=B2) (cs:=B3) Z (wAC Z (wAC Z wAR)) zj wBW Z Z) (za (j:=0) (vs:=B3) Z Z Z Z aP Z Z Z Z zG (zA Z) Z Z Z ?_))
 intro aX bk
 have bm:sW w U am [.blk ai 71 B3,.blk ag 71 B6,.blk b6 106 B1,.blk b2 45 B0] aX:=bk
 refine zW ?_
 cases az
 exact zF ⟨Z,⟨am,Z,Z,aR,bm⟩⟩
 refine ZO Z Z Z Z (ap.ldB (j:=2) Z Z Z zE (v:=jV p1.Skier) Z) (oR Z (zq (pv:=[(0,jV p1.Skier),(1,jV 0)]) (z:=B2) (cs:=B3) Z (wAC Z (wAC Z wAR)) zj wBW Z Z) (zL 0 Z Z Z Z (zK Z Z yD zQ Z) ap (fun hs=>wBK aN U hs aO) (.inr Z) ?_))
 rintro ao bB bM aY bw bo ⟨rfl,rfl⟩
 have bp:sW w U ao [.blk ai 71 B2,.blk ag 71 B2,.blk b6 106 B1,.blk b2 45 B0] aY:=bo
 let B7:List Value:=[jV an.skier,jV an.mat]
 refine za (j:=1) (vs:=B7) Z Z Z Z bp Z Z Z Z zG (zA Z) Z Z Z ?_
 intro aZ bq
 have br:sW w U ao [.blk ai 71 B2,.blk ag 71 B7,.blk b6 106 B1,.blk b2 45 B0] aZ:=bq
 refine za (j:=0) (vs:=B3) Z Z Z Z br Z Z Z Z zG (zA Z) Z Z Z ?_
 intro a7 bt
 have bu:sW w U ao [.blk ai 71 B3,.blk ag 71 B7,.blk b6 106 B1,.blk b2 45 B0] a7:=bt
 refine zW ?_
 cases az
 exact zF ⟨Z,⟨ao,Z,Z,bw,bu⟩⟩
 rintro bN bE ⟨aS,a8,a9,bK,ay⟩
 refine zT ?_
 cases aQ
 exact ⟨rfl,_,(wDn (rs:=[.cell 4 71,.cell 5 71]) (vs:=[.agg B4.toArray,.agg B3.toArray]) ⟨⟨_,a8,(wBL zh zG (ay.blkAt (k:=1) rfl) (vs:=B4) rfl rfl)⟩,⟨⟨_,a9,(wBL zh zG (ay.blkAt (k:=0) rfl) (vs:=B3) rfl rfl)⟩,trivial⟩⟩ rfl),aS,_,(ay.pick [] _ (by decide) rfl),rfl,rfl⟩
theorem wFn (O:wAD) (ae:Option Addr) (af:Nat) (ag:Option Addr) (ak:Nat) (ai:Option Addr) (am:Nat) (aj:Option Addr) (an:Nat) (p1:wAK) (w:World) (U:PHeap) (hS:St0 w U []) (ap:Sl U 1 ae af O.Starts.length (hD KL.encI O.Starts)) (aL:Sl U 2 ag ak O.Splits.length (hD wAE O.Splits)) (aM:Sl U 3 ai am O.Clocks.length (hD wAP O.Clocks)) (aN:Sl U 4 aj an O.Readings.length (hD wAH O.Readings)) {r:Int × Int} (hm:wCs O p1=some r):Gv Try.prog 69 [.agg #[.slice ae O.Starts.length af,.slice ag O.Splits.length ak,.slice ai O.Clocks.length am,.slice aj O.Readings.length an],.agg #[jV p1.Kind,jV p1.Skier,jV p1.Index,.bool p1.Up]] w (wBz w [] U (fun U_ L_ v=>v=.tuple #[jV r.1,jV r.2]/\L_=[])):=by
 unfold wCs at hm
 refine Gv.of Try.func69 rfl Try.ntmps69 Try.results69 rfl (sR gAw rfl (ZD (cs:=[.slice ae O.Starts.length af,.slice ag O.Splits.length ak,.slice ai O.Clocks.length am,.slice aj O.Readings.length an]) rfl rfl rfl rfl rfl rfl (by rfl) hS ?_))
 intro W1 b2 ay
 refine ZD (cs:=[jV p1.Kind,jV p1.Skier,jV p1.Index,.bool p1.Up]) rfl rfl rfl rfl rfl rfl (by rfl) ay ?_
 intro W5 b6 az
 refine yF rfl rfl rfl rfl rfl rfl (yF rfl rfl rfl rfl rfl rfl (eN (zJ (zw zx [3,1,3,1,3,1,3,1,3,1,3,1,3,3,3] fL15 (by kernel_rfl) ?_))))
 have ab:=az.drew
 generalize hw_W10:({ W5 with drawn:=W5.drawn + 1 }:World)=aG at ab ⊢
 refine oR Z (zI Z Z zX Z ZE) (oL Z (ab.ldB (j:=1) Z Z Z ZI (v:=.slice ae O.Starts.length af) Z) (oR Z (zI Z Z zu Z zC) (oL Z (ab.ldB (j:=0) Z Z Z zE (v:=jV p1.Skier) Z) (bnK hm fun aq ac aE=>?_))))
 have q:=ap.el (fun _=>rfl) (wAr ac)
 obtain ⟨aH,aO,au,aw⟩:=q
 refine oR Z (zr Z Z au Z zD zC (wCS ac) (wCY ac)) (oL Z (ab.ldC (f:=0) aw (v:=jV aq) Z Z zE Z) (oR Z (zI Z Z zX Z ZE) (oL Z (ab.ldB (j:=1) Z Z Z ZI (v:=.slice ae O.Starts.length af) Z) (oR Z (zI Z Z zu Z zC) (oL Z (ab.ldB (j:=0) Z Z Z zE (v:=jV p1.Skier) Z) ?_)))))
 have q:=ap.el (fun _=>rfl) (wAr ac)
 obtain ⟨aI,aP,av,ax⟩:=q
 refine oR Z (zr Z Z av Z zD zC (wCS ac) (wCY ac)) (oL Z (ab.ldC (f:=0) ax (v:=jV aq) Z Z zE Z) (oR Z (Runs.negw Z Z) (oA Z Z (oA Z Z (eN (zT ?_))))))
 cases aE
 exact ⟨rfl,_,(wEz rfl rfl),U,_,(ab.pick [] _ (by decide) rfl),rfl,rfl⟩
theorem wFo (p0:wAD) (au:Option Addr) (ay:Nat) (av:Option Addr) (az:Nat) (aw:Option Addr) (aE:Nat) (ax:Option Addr) (aF:Nat) (O:wAK) (w:World) (U:PHeap) (hS:St0 w U []) (bB:Sl U 1 au ay p0.Starts.length (hD KL.encI p0.Starts)) (bC:Sl U 2 av az p0.Splits.length (hD wAE p0.Splits)) (bD:Sl U 3 aw aE p0.Clocks.length (hD wAP p0.Clocks)) (bE:Sl U 4 ax aF p0.Readings.length (hD wAH p0.Readings)) {r:wAB × wAB} (hm:wCt p0 O=some r):Gv Try.prog 71 [.agg #[.slice au p0.Starts.length ay,.slice av p0.Splits.length az,.slice aw p0.Clocks.length aE,.slice ax p0.Readings.length aF],.agg #[jV O.Kind,jV O.Skier,jV O.Index,.bool O.Up]] w (wBz w [] U (fun U_ L_ v=>v=.tuple #[.agg #[jV r.1.skier,jV r.1.mat],.agg #[jV r.2.skier,jV r.2.mat]]/\L_=[])):=by
 unfold wCt at hm
 refine Gv.of Try.func71 Z Try.ntmps71 Try.results71 Z (sR gAx Z ?_)
 let B0:List Value:=[.slice au p0.Starts.length ay,.slice av p0.Splits.length az,.slice aw p0.Clocks.length aE,.slice ax p0.Readings.length aF]
 refine ZD (cs:=B0) rfl rfl rfl rfl rfl rfl (by rfl) hS ?_
 intro W1 b2 a8
 let B1:List Value:=[jV O.Kind,jV O.Skier,jV O.Index,.bool O.Up]
 refine ZD (cs:=B1) rfl rfl rfl rfl rfl rfl (by rfl) a8 ?_
 intro W5 b6 bu
 let B2:List Value:=[jV 0,jV 0]
 refine zY (cs:=B2) Z Z Z Z Z zj Z bu ?_
 intro W9 ai aY
 refine zY (cs:=B2) Z Z Z Z Z zj Z aY ?_
 intro aG aj aZ
 refine eN ?_
 have q:=bnd hm
 obtain ⟨⟨⟩,ap,aJ⟩:=q
 try dsimp only at aJ
 let B3:List Value:=[jV O.Skier,jV (w64 (O.Index + 1))]
 let B4:List Value:=[jV O.Skier,jV O.Index]
 refine Zp (fun σ_ w_=>∃ (U_:PHeap),σ_ 4=.pointer (some ⟨ai,0,none⟩)/\σ_ 5=.pointer (some ⟨aj,0,none⟩)/\PHeap.Le U U_/\sW w U U_ [.blk aj 71 B3,.blk ai 71 B4,.blk b6 106 B1,.blk b2 45 B0] w_) ?_ ?_
 refine zw zx [3,1,3,1,3,3,2,3,2,3,3,0,0] (wHD (.fl 7 (.fx 6 (.fx 8 (.fl 9 gAs) (.fx 11 gAy .stop)) (.fx 8 (.fl 9 (.fx 6 gAs (.fx 11 gAt .stop))) (.fx 11 (.fx 6 gAy (.fx 8 (.fl 9 gAt) .stop)) .stop))))) (by kernel_rfl) ?_
 have an:=aZ.drew
 generalize hw_W27:({ aG with drawn:=aG.drawn + 1 }:World)=bw at an ⊢
 refine oR Z (zI Z Z zu Z zC) (oL Z (an.ldB (j:=2) Z Z Z zE (v:=jV O.Skier) Z) (oR Z (zI Z Z zu Z zC) (oL Z (an.ldB (j:=2) Z Z Z zE (v:=jV O.Index) Z) (oR Z (zq (pv:=[(0,jV O.Skier),(1,jV O.Index)]) (z:=B2) (cs:=B4) Z (wAC Z (wAC Z wAR)) zj wBW Z Z) (oR Z (zI Z Z zu Z zC) (oR Z (zI Z Z zu Z zC) (zo ?_ ?_)))))))
 refine ZO Z Z Z Z (an.ldB (j:=2) Z Z Z zE (v:=jV O.Skier) Z) (zo ?_ ?_)
 refine ZO Z Z Z Z (an.ldB (j:=2) Z Z Z zE (v:=jV O.Index) Z) (oR Z (zR Z Z Z) (oR Z (zq (pv:=[(0,jV O.Skier),(1,jV (w64 (O.Index + 1)))]) (z:=B2) (cs:=B3) Z (wAC Z (wAC Z wAR)) zj wBW Z Z) (za (j:=1) (vs:=B4) Z Z Z Z an Z Z Z Z zG (zA Z) Z Z Z ?_)))
 intro aL a7
 have a9:sW w U U [.blk aj 71 B2,.blk ai 71 B4,.blk b6 106 B1,.blk b2 45 B0] aL:=a7
 refine za (j:=0) (vs:=B3) Z Z Z Z a9 Z Z Z Z zG (zA Z) Z Z Z ?_
 intro aM ba
 have bb:sW w U U [.blk aj 71 B3,.blk ai 71 B4,.blk b6 106 B1,.blk b2 45 B0] aM:=ba
 refine zW ?_
 cases ap
 exact zF ⟨Z,⟨U,Z,Z,(zM _),bb⟩⟩
 refine za (j:=1) (vs:=B4) Z Z Z Z an Z Z Z Z zG (zA Z) Z Z Z ?_
 intro aN bc
 have aH:sW w U U [.blk aj 71 B2,.blk ai 71 B4,.blk b6 106 B1,.blk b2 45 B0] aN:=bc
 refine ZO Z Z Z Z (aH.ldB (j:=2) Z Z Z zE (v:=jV O.Index) Z) (oR Z (zR Z Z Z) (oR Z (zq (pv:=[(0,jV O.Skier),(1,jV (w64 (O.Index + 1)))]) (z:=B2) (cs:=B3) Z (wAC Z (wAC Z wAR)) zj wBW Z Z) (za (j:=0) (vs:=B3) Z Z Z Z aH Z Z Z Z zG (zA Z) Z Z Z ?_)))
 intro aO be
 have bf:sW w U U [.blk aj 71 B3,.blk ai 71 B4,.blk b6 106 B1,.blk b2 45 B0] aO:=be
 refine zW ?_
 cases ap
 exact zF ⟨Z,⟨U,Z,Z,(zM _),bf⟩⟩
 refine zo ?_ ?_
 refine ZO Z Z Z Z (an.ldB (j:=2) Z Z Z zE (v:=jV O.Index) Z) (oR Z (zR Z Z Z) (zo ?_ ?_))
 refine ZO Z Z Z Z (an.ldB (j:=2) Z Z Z zE (v:=jV O.Skier) Z) (oR Z (zq (pv:=[(0,jV O.Skier),(1,jV (w64 (O.Index + 1)))]) (z:=B2) (cs:=B3) Z (wAC Z (wAC Z wAR)) zj wBW Z Z) (za (j:=1) (vs:=B4) Z Z Z Z an Z Z Z Z zG (zA Z) Z Z Z ?_))
 intro aP bg
 have bh:sW w U U [.blk aj 71 B2,.blk ai 71 B4,.blk b6 106 B1,.blk b2 45 B0] aP:=bg
 refine za (j:=0) (vs:=B3) Z Z Z Z bh Z Z Z Z zG (zA Z) Z Z Z ?_
 intro aQ bi
 have bj:sW w U U [.blk aj 71 B3,.blk ai 71 B4,.blk b6 106 B1,.blk b2 45 B0] aQ:=bi
 refine zW ?_
 cases ap
 exact zF ⟨Z,⟨U,Z,Z,(zM _),bj⟩⟩
 refine za (j:=1) (vs:=B4) Z Z Z Z an Z Z Z Z zG (zA Z) Z Z Z ?_
 intro aR bk
 have aI:sW w U U [.blk aj 71 B2,.blk ai 71 B4,.blk b6 106 B1,.blk b2 45 B0] aR:=bk
 refine ZO Z Z Z Z (aI.ldB (j:=2) Z Z Z zE (v:=jV O.Skier) Z) (oR Z (zq (pv:=[(0,jV O.Skier),(1,jV (w64 (O.Index + 1)))]) (z:=B2) (cs:=B3) Z (wAC Z (wAC Z wAR)) zj wBW Z Z) (za (j:=0) (vs:=B3) Z Z Z Z aI Z Z Z Z zG (zA Z) Z Z Z ?_))
 intro aS bm
 have bn:sW w U U [.blk aj 71 B3,.blk ai 71 B4,.blk b6 106 B1,.blk b2 45 B0] aS:=bm
 refine zW ?_
 cases ap
 exact zF ⟨Z,⟨U,Z,Z,(zM _),bn⟩⟩
 refine za (j:=1) (vs:=B4) Z Z Z Z an Z Z Z Z zG (zA Z) Z Z Z ?_
 intro aT bo
 have ao:sW w U U [.blk aj 71 B2,.blk ai 71 B4,.blk b6 106 B1,.blk b2 45 B0] aT:=bo
 refine zo ?_ ?_
 refine ZO Z Z Z Z (ao.ldB (j:=2) Z Z Z zE (v:=jV O.Skier) Z) (ZO Z Z Z Z (ao.ldB (j:=2) Z Z Z zE (v:=jV O.Index) Z) (oR Z (zR Z Z Z) (oR Z (zq (pv:=[(0,jV O.Skier),(1,jV (w64 (O.Index + 1)))]) (z:=B2) (cs:=B3) Z (wAC Z (wAC Z wAR)) zj wBW Z Z) (za (j:=0) (vs:=B3) Z Z Z Z ao Z Z Z Z zG (zA Z) Z Z Z ?_))))
 intro aU bp
 have bq:sW w U U [.blk aj 71 B3,.blk ai 71 B4,.blk b6 106 B1,.blk b2 45 B0] aU:=bp
 refine zW ?_
 cases ap
 exact zF ⟨Z,⟨U,Z,Z,(zM _),bq⟩⟩
 refine ZO Z Z Z Z (ao.ldB (j:=2) Z Z Z zE (v:=jV O.Index) Z) (oR Z (zR Z Z Z) (ZO Z Z Z Z (ao.ldB (j:=2) Z Z Z zE (v:=jV O.Skier) Z) (oR Z (zq (pv:=[(0,jV O.Skier),(1,jV (w64 (O.Index + 1)))]) (z:=B2) (cs:=B3) Z (wAC Z (wAC Z wAR)) zj wBW Z Z) (za (j:=0) (vs:=B3) Z Z Z Z ao Z Z Z Z zG (zA Z) Z Z Z ?_))))
 intro aV br
 have bt:sW w U U [.blk aj 71 B3,.blk ai 71 B4,.blk b6 106 B1,.blk b2 45 B0] aV:=br
 refine zW ?_
 cases ap
 exact zF ⟨Z,⟨U,Z,Z,(zM _),bt⟩⟩
 rintro bG bz ⟨aK,aW,aX,bF,aq⟩
 refine zT ?_
 cases aJ
 exact ⟨rfl,_,(wDn (rs:=[.cell 4 71,.cell 5 71]) (vs:=[.agg B4.toArray,.agg B3.toArray]) ⟨⟨_,aW,(wBL zh zG (aq.blkAt (k:=1) rfl) (vs:=B4) rfl rfl)⟩,⟨⟨_,aX,(wBL zh zG (aq.blkAt (k:=0) rfl) (vs:=B3) rfl rfl)⟩,trivial⟩⟩ rfl),aK,_,(aq.pick [] _ (by decide) rfl),rfl,rfl⟩
theorem wFp (O:wAD) (ag:Option Addr) (ak:Nat) (ae:Option Addr) (af:Nat) (ai:Option Addr) (am:Nat) (aj:Option Addr) (an:Nat) (p1:wAK) (w:World) (U:PHeap) (hS:St0 w U []) (aL:Sl U 1 ag ak O.Starts.length (hD KL.encI O.Starts)) (ap:Sl U 2 ae af O.Splits.length (hD wAE O.Splits)) (aM:Sl U 3 ai am O.Clocks.length (hD wAP O.Clocks)) (aN:Sl U 4 aj an O.Readings.length (hD wAH O.Readings)) {r:Int × Int} (hm:wCu O p1=some r):Gv Try.prog 72 [.agg #[.slice ag O.Starts.length ak,.slice ae O.Splits.length af,.slice ai O.Clocks.length am,.slice aj O.Readings.length an],.agg #[jV p1.Kind,jV p1.Skier,jV p1.Index,.bool p1.Up]] w (wBz w [] U (fun U_ L_ v=>v=.tuple #[jV r.1,jV r.2]/\L_=[])):=by
 unfold wCu at hm
 refine Gv.of Try.func72 rfl Try.ntmps72 Try.results72 rfl (sR gAw rfl (ZD (cs:=[.slice ag O.Starts.length ak,.slice ae O.Splits.length af,.slice ai O.Clocks.length am,.slice aj O.Readings.length an]) rfl rfl rfl rfl rfl rfl (by rfl) hS ?_))
 intro W1 b2 ay
 refine ZD (cs:=[jV p1.Kind,jV p1.Skier,jV p1.Index,.bool p1.Up]) rfl rfl rfl rfl rfl rfl (by rfl) ay ?_
 intro W5 b6 az
 refine yF rfl rfl rfl rfl rfl rfl (yF rfl rfl rfl rfl rfl rfl (eN (zJ (zw zx [3,1,3,1,3,3,1,3,1,3,1,3,3,1,3,3,3] fL17 (by kernel_rfl) ?_))))
 have ab:=az.drew
 generalize hw_W10:({ W5 with drawn:=W5.drawn + 1 }:World)=aG at ab ⊢
 refine oR Z (zI Z Z zX Z yB) (oL Z (ab.ldB (j:=1) Z Z Z yP (v:=.slice ae O.Splits.length af) Z) (oR Z (zI Z Z zu Z zC) (oL Z (ab.ldB (j:=0) Z Z Z zE (v:=jV p1.Index) Z) (bnK hm fun aq ac aE=>?_))))
 have q:=ap.el (fun _=>rfl) (wAr ac)
 obtain ⟨aH,aO,au,aw⟩:=q
 refine oR Z (zr Z Z au Z ze zi (wCS ac) (wCY ac)) (oR Z (zI Z Z zZ Z zC) (oL Z (ab.ldC (f:=1) aw (v:=jV aq.Hi) Z Z zE Z) (oR Z (zI Z Z zX Z yB) (oL Z (ab.ldB (j:=1) Z Z Z yP (v:=.slice ae O.Splits.length af) Z) (oR Z (zI Z Z zu Z zC) (oL Z (ab.ldB (j:=0) Z Z Z zE (v:=jV p1.Index) Z) ?_))))))
 have q:=ap.el (fun _=>rfl) (wAr ac)
 obtain ⟨aI,aP,av,ax⟩:=q
 refine oR Z (zr Z Z av Z ze zi (wCS ac) (wCY ac)) (oR Z (zI Z Z zZ Z zC) (oL Z (ab.ldC (f:=0) ax (v:=jV aq.Lo) Z Z zE Z) (oR Z (Runs.negw Z Z) (oA Z Z (oA Z Z (eN (zT ?_)))))))
 cases aE
 exact ⟨rfl,_,(wEz rfl rfl),U,_,(ab.pick [] _ (by decide) rfl),rfl,rfl⟩
theorem wCP (p0:Int) (w:World) (U:PHeap) (hS:St0 w U [])  {r:wAB} (hm:wCO p0=some r):Gv Try.prog 75 [jV p0] w (wBz w [] U (fun U_ L_ v=>v=.agg #[jV r.skier,jV r.mat]/\L_=[])):=by
 unfold wCO at hm
 refine Gv.of Try.func75 Z Try.ntmps75 Try.results75 Z (sR (.fx 0 .nil .stop) Z (zY (cs:=[jV 0,jV 0]) Z Z Z Z Z zj Z hS ?_))
 intro W1 b2 af
 refine eN (sR (wDt (.fx 3 .nil .stop)) Z (oM Z Z (oR Z (zR Z Z Z) ?_)))
 let O:List Value:=[jV (-1),jV (w64 (1 + p0))]
 refine oR Z (zq (pv:=[(0,jV (-1)),(1,jV (w64 (1 + p0)))]) (z:=[jV 0,jV 0]) (cs:=O) Z (wAC Z (wAC Z wAR)) zj wBW Z Z) (za (j:=0) (vs:=O) Z Z Z Z af Z Z Z Z zG (zA Z) Z Z Z ?_)
 intro W5 ag
 have ab:sW w U U [.blk b2 71 O] W5:=ag
 refine eN (zT ?_)
 cases hm
 exact ⟨rfl,_,(wIJ (v:=.agg O.toArray) ⟨⟨_,rfl,(wBL zh zG (ab.blkAt (k:=0) rfl) (vs:=O) rfl rfl)⟩,trivial⟩),U,_,(ab.pick [] _ (by decide) rfl),rfl,rfl⟩
theorem wFq (O:wAD) (aq:Option Addr) (ax:Nat) (au:Option Addr) (ay:Nat) (av:Option Addr) (az:Nat) (aw:Option Addr) (aE:Nat) (p1:wAK) (w:World) (U:PHeap) (hS:St0 w U []) (bg:Sl U 1 aq ax O.Starts.length (hD KL.encI O.Starts)) (bh:Sl U 2 au ay O.Splits.length (hD wAE O.Splits)) (bi:Sl U 3 av az O.Clocks.length (hD wAP O.Clocks)) (bj:Sl U 4 aw aE O.Readings.length (hD wAH O.Readings)) {r:wAB × wAB} (hm:wCv O p1=some r):Gv Try.prog 74 [.agg #[.slice aq O.Starts.length ax,.slice au O.Splits.length ay,.slice av O.Clocks.length az,.slice aw O.Readings.length aE],.agg #[jV p1.Kind,jV p1.Skier,jV p1.Index,.bool p1.Up]] w (wBz w [] U (fun U_ L_ v=>v=.tuple #[.agg #[jV r.1.skier,jV r.1.mat],.agg #[jV r.2.skier,jV r.2.mat]]/\L_=[])):=by
 unfold wCv at hm
 refine Gv.of Try.func74 Z Try.ntmps74 Try.results74 Z (sR gAx Z ?_)
 let B0:List Value:=[.slice aq O.Starts.length ax,.slice au O.Splits.length ay,.slice av O.Clocks.length az,.slice aw O.Readings.length aE]
 refine ZD (cs:=B0) rfl rfl rfl rfl rfl rfl (by rfl) hS ?_
 intro W1 b2 aU
 let B1:List Value:=[jV p1.Kind,jV p1.Skier,jV p1.Index,.bool p1.Up]
 refine ZD (cs:=B1) rfl rfl rfl rfl rfl rfl (by rfl) aU ?_
 intro W5 b6 a7
 let B2:List Value:=[jV 0,jV 0]
 refine zY (cs:=B2) Z Z Z Z Z zj Z a7 ?_
 intro W9 aj aQ
 refine zY (cs:=B2) Z Z Z Z Z zj Z aQ ?_
 intro aG ak aR
 refine eN (zJ (zw zx [2,3,1,2,0,0] (.fl 1 (.fl 2 (.fx 0 (.fx 3 gAj .stop) .stop))) (by kernel_rfl) ?_))
 have ao:=aR.drew
 generalize hw_W18:({ aG with drawn:=aG.drawn + 1 }:World)=aK at ao ⊢
 refine oR Z (zI Z Z zu Z zC) (oL Z (ao.ldB (j:=2) Z Z Z zE (v:=jV p1.Index) Z) (bnK hm fun aI aO a8=>zL 0 Z Z Z Z (zK Z Z yD zQ Z) ao (fun hs=>wBK aK U hs aO) (.inr Z) ?_))
 rintro aF ba bn aH bk aS ⟨rfl,rfl⟩
 have aT:sW w U aF [.blk ak 71 B2,.blk aj 71 B2,.blk b6 106 B1,.blk b2 45 B0] aH:=aS
 refine bnK a8 fun aJ aP a9=>zL 0 Z Z Z Z (zK Z Z Try.call75 (zB Z zQ) Z) aT (fun hs=>wCP p1.Index aH aF hs aP) (.inr Z) ?_
 rintro ai bb bo aL bm aV ⟨rfl,rfl⟩
 have aW:sW w U ai [.blk ak 71 B2,.blk aj 71 B2,.blk b6 106 B1,.blk b2 45 B0] aL:=aV
 let B3:List Value:=[jV aI.skier,jV aI.mat]
 refine za (j:=1) (vs:=B3) Z Z Z Z aW Z Z Z Z zG (zA Z) Z Z Z ?_
 intro aM aX
 have aY:sW w U ai [.blk ak 71 B2,.blk aj 71 B3,.blk b6 106 B1,.blk b2 45 B0] aM:=aX
 let B4:List Value:=[jV aJ.skier,jV aJ.mat]
 refine za (j:=0) (vs:=B4) Z Z Z Z aY Z Z Z Z zG (zA Z) Z Z Z ?_
 intro aN aZ
 have ap:sW w U ai [.blk ak 71 B4,.blk aj 71 B3,.blk b6 106 B1,.blk b2 45 B0] aN:=aZ
 refine eN (zT ?_)
 cases a9
 exact ⟨rfl,_,(wDn (rs:=[.cell 4 71,.cell 5 71]) (vs:=[.agg B3.toArray,.agg B4.toArray]) ⟨⟨_,rfl,(wBL zh zG (ap.blkAt (k:=1) rfl) (vs:=B3) rfl rfl)⟩,⟨⟨_,rfl,(wBL zh zG (ap.blkAt (k:=0) rfl) (vs:=B4) rfl rfl)⟩,trivial⟩⟩ rfl),ai,_,(ap.pick [] _ (by decide) rfl),rfl,rfl⟩
theorem wFr (O:wAD) (ag:Option Addr) (ak:Nat) (ai:Option Addr) (am:Nat) (ae:Option Addr) (af:Nat) (aj:Option Addr) (an:Nat) (p1:wAK) (w:World) (U:PHeap) (hS:St0 w U []) (aL:Sl U 1 ag ak O.Starts.length (hD KL.encI O.Starts)) (aM:Sl U 2 ai am O.Splits.length (hD wAE O.Splits)) (ap:Sl U 3 ae af O.Clocks.length (hD wAP O.Clocks)) (aN:Sl U 4 aj an O.Readings.length (hD wAH O.Readings)) {r:Int × Int} (hm:wCw O p1=some r):Gv Try.prog 76 [.agg #[.slice ag O.Starts.length ak,.slice ai O.Splits.length am,.slice ae O.Clocks.length af,.slice aj O.Readings.length an],.agg #[jV p1.Kind,jV p1.Skier,jV p1.Index,.bool p1.Up]] w (wBz w [] U (fun U_ L_ v=>v=.tuple #[jV r.1,jV r.2]/\L_=[])):=by
 unfold wCw at hm
 refine Gv.of Try.func76 rfl Try.ntmps76 Try.results76 rfl (sR gAw rfl (ZD (cs:=[.slice ag O.Starts.length ak,.slice ai O.Splits.length am,.slice ae O.Clocks.length af,.slice aj O.Readings.length an]) rfl rfl rfl rfl rfl rfl (by rfl) hS ?_))
 intro W1 b2 ay
 refine ZD (cs:=[jV p1.Kind,jV p1.Skier,jV p1.Index,.bool p1.Up]) rfl rfl rfl rfl rfl rfl (by rfl) ay ?_
 intro W5 b6 az
 refine yF rfl rfl rfl rfl rfl rfl (yF rfl rfl rfl rfl rfl rfl (eN (zJ (zw zx [3,1,3,1,3,3,3,1,3,3,1,3,1,3,3,3,1,3,3] fL19 (by kernel_rfl) ?_))))
 have ab:=az.drew
 generalize hw_W10:({ W5 with drawn:=W5.drawn + 1 }:World)=aG at ab ⊢
 refine oR Z (zI Z Z zX Z yR) (oL Z (ab.ldB (j:=1) Z Z Z Try.isAgg40 (v:=.slice ae O.Clocks.length af) Z) (oR Z (zI Z Z zu Z zC) (oL Z (ab.ldB (j:=0) Z Z Z zE (v:=jV p1.Index) Z) (bnK hm fun aq ac aE=>?_))))
 have q:=ap.el (fun _=>rfl) (wAr ac)
 obtain ⟨aH,aO,au,aw⟩:=q
 refine oR Z (zr Z Z au Z Zk yL (wCS ac) (wCY ac)) (oR Z (zI Z Z yJ Z zi) (oR Z (zI Z Z zZ Z zC) (oL Z (ab.ldC (f:=0) aw (v:=jV aq.Offset.Lo) Z Z zE Z) (oR Z (Runs.negw Z Z) (oR Z (zI Z Z zX Z yR) (oL Z (ab.ldB (j:=1) Z Z Z Try.isAgg40 (v:=.slice ae O.Clocks.length af) Z) (oR Z (zI Z Z zu Z zC) (oL Z (ab.ldB (j:=0) Z Z Z zE (v:=jV p1.Index) Z) ?_))))))))
 have q:=ap.el (fun _=>rfl) (wAr ac)
 obtain ⟨aI,aP,av,ax⟩:=q
 refine oR Z (zr Z Z av Z Zk yL (wCS ac) (wCY ac)) (oR Z (zI Z Z yJ Z zi) (oR Z (zI Z Z zZ Z zC) (oL Z (ab.ldC (f:=1) ax (v:=jV aq.Offset.Hi) Z Z zE Z) (oA Z Z (oA Z Z (eN (zT ?_)))))))
 cases aE
 exact ⟨rfl,_,(wEz rfl rfl),U,_,(ab.pick [] _ (by decide) rfl),rfl,rfl⟩
end Go.Proofs.Ytkedcbligiebkaa
