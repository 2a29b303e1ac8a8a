import Derived.Test.YtfcmijinklojbaaGreatR5
set_option linter.all false
open List renaming flatMap->hH,getElem_cons_succ->nE,getElem_cons_zero->nG,getElem_toArray->nH,length_set->nK,set->nL,length_append->nO
open Go.Value renaming bool->nA
open Bool renaming eq_false_iff->nB
open Option.some renaming inj->nD
open Int renaming toNat_natCast->nI
open Prod.mk renaming injEq->nJ
open Nat renaming blt->nM,le_of_ble_eq_true->nN
open Eq renaming trans->nP
namespace Go.Proofs.YtfcmijinklojbaaGreat
open Go.KL
def gAa:Sch:=.fl 1 (.fl 2 .nil)
def gAb:Sch:=.fl 2 (.fl 3 .nil)
def gAc:Sch:=.fl 3 (.fl 4 .nil)
def gAd:Sch:=.fl 4 (.fl 5 .nil)
def gAe:Sch:=.fl 6 (.fl 7 .nil)
def gAf:Sch:=.fl 8 (.fl 9 .nil)
def gAg:Sch:=.fx 0 (.fl 1 .nil) .stop
def gAh:Sch:=.fx 1 (.fl 2 .nil) .stop
def gAi:Sch:=.fx 0 (.fx 1 .nil .stop) .stop
def gAj:Sch:=.fx 5 (.fx 6 .nil .stop) .stop
def gAk:Sch:=.fx 3 (.fx 4 .nil .stop) .stop
def gAl:Sch:=.fx 3 (.fl 4 .nil) .stop
def gAm:Sch:=.fl 0 gAh
def gAn:Sch:=.fx 0 gAh .stop
def gAo:Sch:=.fx 0 gAa .stop
def gAp:Sch:=.fl 1 (.fx 2 (.fl 3 .nil) .stop)
def gAq:Sch:=.fx 17 (.fl 18 (.fx 19 .nil .stop)) .stop
def gAr:Sch:=.fl 0 (.fl 1 (.fx 2 (.fx 3 .nil .stop) .stop))
def gAs:Sch:=.fl 0 gAp
def gAt:Sch:=.fl 0 (.fl 1 (.fx 2 gAc .stop))
def gAu:Sch:=.fl 0 (.fl 1 (.fl 3 (.fl 4 (.fx 2 (.fx 5 gAe .stop) .stop))))
set_option maxHeartbeats 4000000
theorem Z {α:Type} {a:α}:a=a:=rfl
section
variable {r:Option Nat} {N:Nat} {P:Program} {l:List Oper} {Q:wDG} {D:List Deferred} {ks:List Nat} {σ:Env} {w:World} {i d j e:Nat} {s:Sch} {o:Oper} {b:Bool} {x:Operand} {v:Value} {p:Prop} {inst:Decidable p} {K:List Deferred->Env->World->Prop} {c1 c2:Code}
abbrev jV (n:Int):Value:=.int .i64 n
abbrev SW (w:World) (X:List Res) (U U':PHeap) (L:List Res) (w':World):Prop:=St ⟨w,X,U⟩ U' L w'
abbrev sW (w:World) (U U':PHeap) (L:List Res) (w':World):Prop:=St ⟨w,[],U⟩ U' L w'
abbrev St0 (w:World) (U:PHeap) (L:List Res):Prop:=St ⟨w,L,U⟩ U L w
theorem ifc {α:Type} {G p:Prop} {inst:Decidable p} {a b r:α} (h:@ite α p inst a b=r) (h1:Hid p->a=r->G) (h2:Hid (¬ p)->b=r->G):G:=by
 by_cases c:p
 rw [if_pos c] at h;exact h1 ⟨c⟩ h
 rw [if_neg c] at h;exact h2 ⟨c⟩ h
theorem bnK {α β:Type} {G:Prop} {o:Option α} {f:α->Option β} {r:β} (h:o.bind f=some r) (k:∀ x,o=some x->f x=some r->G):G:=by
 obtain ⟨x,h1,h2⟩:=bnd h
 exact k x h1 h2
theorem oR (h:(l[i]?,o.dst,nM d N,wanted l σ o)=(some o,some d,true,true)) (hr:∀ {w'},Runs P σ w' o v w') (k:OKS N P l Q D ks s (upd σ d v) w):OKS N P l Q D ks (.fl i s) σ w:=by
 simp only [nJ] at h;exact OKS.r h.1 h.2.1 h.2.2.1 h.2.2.2 (fun _=>hr) k
theorem oL (h:(l[i]?,o.dst,nM d N,wanted l σ o,wRF (kOf ks i))=(some o,some d,true,true,false)) (hr:wGL P σ w o v) (k:OKS N P l Q D ks s (upd σ d v) w):OKS N P l Q D ks (.fl i s) σ w:=by
 simp only [nJ] at h;exact OKS.m h.1 h.2.1 h.2.2.1 h.2.2.2.1 hr h.2.2.2.2 k
theorem oM (h:(l[i]?,o.dst,nM d N,wanted l σ o,o.op)=(some o,some d,true,true,.move x)) (hx:ev σ x=v) (k:OKS N P l Q D ks s (upd σ d v) w):OKS N P l Q D ks (.fl i s) σ w:=by
 simp only [nJ] at h;exact OKS.rm h.1 h.2.1 h.2.2.1 h.2.2.2.1 h.2.2.2.2 hx k
theorem oA (h:(l[i]?,o.dst,nM d N,wanted l σ o,o.op)=(some o,some d,true,true,.assign x)) (hx:ev σ x=v) (k:OKS N P l Q D ks s (upd σ d v) w):OKS N P l Q D ks (.fl i s) σ w:=by
 simp only [nJ] at h;exact OKS.ra h.1 h.2.1 h.2.2.1 h.2.2.2.1 h.2.2.2.2 hx k
theorem oF (h:(l[i]?,o.dst,nM d N,o.guard,(l[j]?).bind (·.dst),σ e,false == b)=(some o,some d,true,some (j,b),some e,.bool (decide p),false)) (c:Hid (¬ p)) (k:OKS N P l Q D ks s (upd σ d undef) w):OKS N P l Q D ks (.fl i s) σ w:=by
 simp only [nJ] at h;exact OKS.p h.1 h.2.1 h.2.2.1 (wGg h.2.2.2.1 h.2.2.2.2.1 (h.2.2.2.2.2.1.trans (wRE c.out)) h.2.2.2.2.2.2) k
theorem oT (h:(l[i]?,o.dst,nM d N,o.guard,(l[j]?).bind (·.dst),σ e,true == b)=(some o,some d,true,some (j,b),some e,.bool (decide p),false)) (c:Hid p) (k:OKS N P l Q D ks s (upd σ d undef) w):OKS N P l Q D ks (.fl i s) σ w:=by
 simp only [nJ] at h;exact OKS.p h.1 h.2.1 h.2.2.1 (wGg h.2.2.2.1 h.2.2.2.2.1 (h.2.2.2.2.2.1.trans (wRD c.out)) h.2.2.2.2.2.2) k
theorem oN {b2:Bool} (h:(l[i]?,o.dst,nM d N,o.guard,(l[j]?).bind (·.dst),σ e,b2 == b)=(some o,some d,true,some (j,b),some e,.bool b2,false)) (k:OKS N P l Q D ks s (upd σ d undef) w):OKS N P l Q D ks (.fl i s) σ w:=by
 simp only [nJ] at h;exact OKS.p h.1 h.2.1 h.2.2.1 (wGg h.2.2.2.1 h.2.2.2.2.1 h.2.2.2.2.2.1 h.2.2.2.2.2.2) k
theorem nC {a b:Bool} (h:a=b):nA (!a)=nA (!b):=h ▸ rfl
theorem nF {a:Bool} (h:¬ a=true):nA (!a)=nA (!false):=nC (nB.2 h)
theorem wT (h:(o.guard,(l[j]?).bind (·.dst),σ e)=(some (j,true),some e,.bool (decide p))) (c:Hid p):wanted l σ o=true:=by
 simp only [nJ] at h;exact wIE h.1 h.2.1 (h.2.2.trans (wRD c.out))
theorem wF (h:(o.guard,(l[j]?).bind (·.dst),σ e)=(some (j,false),some e,.bool (decide p))) (c:Hid (¬ p)):wanted l σ o=true:=by
 simp only [nJ] at h;exact wIE h.1 h.2.1 (h.2.2.trans (wRE c.out))
theorem rU (h:(l[i]?,o.dst,nM d N)=(some o,some d,true)) (hw:wanted l σ o=true) (hr:∀ {w'},Runs P σ w' o v w') (k:OKS N P l Q D ks s (upd σ d v) w):OKS N P l Q D ks (.fl i s) σ w:=by
 simp only [nJ] at h;exact OKS.r h.1 h.2.1 h.2.2 hw (fun _=>hr) k
theorem sR {id:Nat} (s:Sch) (hs:inOrder 0 s l.length=true) (h:OKS N P l (wEL (fun D σ w=>CK r N P c2 Q D σ w) Q) D [] s σ w):CK r N P (.seq (.region id l.toArray false) c2) Q D σ w:=CK.seq (CK.reg s hs h)
theorem rR {id:Nat} (s:Sch) (hs:inOrder 0 s l.length=true) (h:OKS N P l Q D [] s σ w):CK r N P (.region id l.toArray false) Q D σ w:=CK.reg s hs h
theorem eN (h:K D σ w):OKS N P l (wEL K Q) D ks .nil σ w:=OKS.e (wHz h)
theorem cT (hz:ev σ x=.bool (decide p)) (c:Hid p) (h:CK r N P c1 Q D σ w):CK r N P (.cond x c1 c2) Q D σ w:=CK.condT (hz.trans (wRD c.out)) h
theorem cF (hz:ev σ x=.bool (decide p)) (c:Hid (¬ p)) (h:CK r N P c2 Q D σ w):CK r N P (.cond x c1 c2) Q D σ w:=CK.condF (hz.trans (wRE c.out)) h
theorem kN (h:K D σ w):CK r N P .skip (wEL K Q) D σ w:=CK.skip (wHz h)
end
def fL1:Sch:=.fl 0 .nil
def fL2:Sch:=.fl 0 (.fl 1 .nil)
def fL3:Sch:=.fl 0 gAa
def fL4:Sch:=.fl 0 (.fl 1 gAb)
def fL5:Sch:=.fl 0 (.fl 1 (.fl 2 gAc))
def fL6:Sch:=.fl 0 (.fl 1 (.fl 2 (.fl 3 gAd)))
def fL7:Sch:=.fl 0 (.fl 1 (.fl 2 (.fl 3 (.fl 4 (.fl 5 (.fl 6 .nil))))))
def fL8:Sch:=.fl 0 (.fl 1 (.fl 2 (.fl 3 (.fl 4 (.fl 5 gAe)))))
def fL9:Sch:=.fl 0 (.fl 1 (.fl 2 (.fl 3 (.fl 4 (.fl 5 (.fl 6 (.fl 7 (.fl 8 .nil))))))))
def wSG:Sch:=.fl 0 (.fl 1 (.fl 2 (.fl 3 (.fl 4 (.fl 5 (.fl 6 (.fl 7 gAf)))))))
def fL11:Sch:=.fl 0 (.fl 1 (.fl 2 (.fl 3 (.fl 4 (.fl 5 (.fl 6 (.fl 7 (.fl 8 (.fl 9 (.fl 10 .nil))))))))))
def fL12:Sch:=.fl 0 (.fl 1 (.fl 2 (.fl 3 (.fl 4 (.fl 5 (.fl 6 (.fl 7 (.fl 8 (.fl 9 (.fl 10 (.fl 11 .nil)))))))))))
def fL13:Sch:=.fl 0 (.fl 1 (.fl 2 (.fl 3 (.fl 4 (.fl 5 (.fl 6 (.fl 7 (.fl 8 (.fl 9 (.fl 10 (.fl 11 (.fl 12 .nil))))))))))))
def fL14:Sch:=.fl 0 (.fl 1 (.fl 2 (.fl 3 (.fl 4 (.fl 5 (.fl 6 (.fl 7 (.fl 8 (.fl 9 (.fl 10 (.fl 11 (.fl 12 (.fl 13 .nil)))))))))))))
def fL15:Sch:=.fl 0 (.fl 1 (.fl 2 (.fl 3 (.fl 4 (.fl 5 (.fl 6 (.fl 7 (.fl 8 (.fl 9 (.fl 10 (.fl 11 (.fl 12 (.fl 13 (.fl 14 .nil))))))))))))))
def fL16:Sch:=.fl 0 (.fl 1 (.fl 2 (.fl 3 (.fl 4 (.fl 5 (.fl 6 (.fl 7 (.fl 8 (.fl 9 (.fl 10 (.fl 11 (.fl 12 (.fl 13 (.fl 14 (.fl 15 .nil)))))))))))))))
def fL20:Sch:=.fl 0 (.fl 1 (.fl 2 (.fl 3 (.fl 4 (.fl 5 (.fl 6 (.fl 7 (.fl 8 (.fl 9 (.fl 10 (.fl 11 (.fl 12 (.fl 13 (.fl 14 (.fl 15 (.fl 16 (.fl 17 (.fl 18 (.fl 19 .nil)))))))))))))))))))
def fL30:Sch:=.fl 0 (.fl 1 (.fl 2 (.fl 3 (.fl 4 (.fl 5 (.fl 6 (.fl 7 (.fl 8 (.fl 9 (.fl 10 (.fl 11 (.fl 12 (.fl 13 (.fl 14 (.fl 15 (.fl 16 (.fl 17 (.fl 18 (.fl 19 (.fl 20 (.fl 21 (.fl 22 (.fl 23 (.fl 24 (.fl 25 (.fl 26 (.fl 27 (.fl 28 (.fl 29 .nil)))))))))))))))))))))))))))))
def fL31:Sch:=.fl 0 (.fl 1 (.fl 2 (.fl 3 (.fl 4 (.fl 5 (.fl 6 (.fl 7 (.fl 8 (.fl 9 (.fl 10 (.fl 11 (.fl 12 (.fl 13 (.fl 14 (.fl 15 (.fl 16 (.fl 17 (.fl 18 (.fl 19 (.fl 20 (.fl 21 (.fl 22 (.fl 23 (.fl 24 (.fl 25 (.fl 26 (.fl 27 (.fl 28 (.fl 29 (.fl 30 .nil))))))))))))))))))))))))))))))
def wKI (s:Sch):Sch:=.fl 0 (.fl 1 (.fl 2 (s)))
def wIf (s:Sch):Sch:=.fl 0 (.fl 1 (.fl 2 (.fl 3 (s))))
def wKJ (s:Sch):Sch:=.fl 0 (.fl 1 (.fl 2 (.fl 3 (.fl 4 (s)))))
def wSH (s:Sch):Sch:=.fl 0 (.fl 1 (.fl 2 (.fl 3 (.fl 4 (.fl 5 (s))))))
def wNs (s:Sch):Sch:=.fl 0 (.fl 1 (.fl 2 (.fl 3 (.fl 4 (.fl 5 (.fl 6 (s)))))))
def wQm (s:Sch):Sch:=.fl 0 (.fl 1 (.fl 2 (.fl 3 (.fl 4 (.fl 5 (.fl 6 (.fl 7 (s))))))))
def fC0_9 (s:Sch):Sch:=.fl 0 (.fl 1 (.fl 2 (.fl 3 (.fl 4 (.fl 5 (.fl 6 (.fl 7 (.fl 8 (.fl 9 (s))))))))))
def wPS (s:Sch):Sch:=.fl 0 (.fl 1 (.fl 2 (.fl 3 (.fl 4 (.fl 5 (.fl 6 (.fl 7 (.fl 8 (.fl 9 (.fl 10 (s)))))))))))
def wHy (s:Sch):Sch:=.fl 0 (.fl 1 (.fl 2 (.fl 3 (.fl 4 (.fl 5 (.fl 6 (.fl 7 (.fl 8 (.fl 9 (.fl 10 (.fl 11 (.fl 12 (s)))))))))))))
def wNt (s:Sch):Sch:=.fl 0 (.fl 1 (.fl 2 (.fl 3 (.fl 4 (.fl 5 (.fl 6 (.fl 7 (.fl 8 (.fl 9 (.fl 10 (.fl 11 (.fl 12 (.fl 13 (.fl 14 (.fl 15 (.fl 16 (s)))))))))))))))))
def wJL (s:Sch):Sch:=.fl 2 (.fl 3 (.fl 4 (.fl 5 (.fl 6 (s)))))
def wSI (s:Sch):Sch:=.fl 2 (.fl 3 (.fl 4 (.fl 5 (.fl 6 (.fl 7 (.fl 8 (.fl 9 (.fl 10 (s)))))))))
def wSJ (s:Sch):Sch:=.fl 2 (.fl 3 (.fl 4 (.fl 5 (.fl 6 (.fl 7 (.fl 8 (.fl 9 (.fl 10 (.fl 11 (s))))))))))
def wSK (s:Sch):Sch:=.fl 3 (.fl 4 (.fl 5 (s)))
def fC3_6 (s:Sch):Sch:=.fl 3 (.fl 4 (.fl 5 (.fl 6 (s))))
def wJM (s:Sch):Sch:=.fl 3 (.fl 4 (.fl 5 (.fl 6 (.fl 7 (s)))))
def fC4_6 (s:Sch):Sch:=.fl 4 (.fl 5 (.fl 6 (s)))
def wSL (s:Sch):Sch:=.fl 5 (.fl 6 (.fl 7 (s)))
def wSM (s:Sch):Sch:=.fl 5 (.fl 6 (.fl 7 (.fl 8 (s))))
def wQn (s:Sch):Sch:=.fl 5 (.fl 6 (.fl 7 (.fl 8 (.fl 9 (s)))))
def wSN (s:Sch):Sch:=.fl 6 (.fl 7 (.fl 8 (.fl 9 (.fl 10 (.fl 11 (s))))))
def wPT (s:Sch):Sch:=.fl 7 (.fl 8 (.fl 9 (.fl 10 (s))))
def wNu (s:Sch):Sch:=.fl 8 (.fl 9 (.fl 10 (s)))
def wSO (s:Sch):Sch:=.fl 8 (.fl 9 (.fl 10 (.fl 11 (.fl 12 (.fl 13 (.fl 14 (.fl 15 (s))))))))
def wNv (s:Sch):Sch:=.fl 10 (.fl 11 (.fl 12 (.fl 13 (.fl 14 (.fl 15 (.fl 16 (.fl 17 (.fl 18 (.fl 19 (.fl 20 (.fl 21 (.fl 22 (.fl 23 (s))))))))))))))
def wQo (s:Sch):Sch:=.fl 11 (.fl 12 (.fl 13 (.fl 14 (.fl 15 (.fl 16 (s))))))
def wQp (s:Sch):Sch:=.fl 11 (.fl 12 (.fl 13 (.fl 14 (.fl 15 (.fl 16 (.fl 17 (.fl 18 (s))))))))
def wQq (s:Sch):Sch:=.fl 11 (.fl 12 (.fl 13 (.fl 14 (.fl 15 (.fl 16 (.fl 17 (.fl 18 (.fl 19 (s)))))))))
def wNw (s:Sch):Sch:=.fl 14 (.fl 15 (.fl 16 (s)))
def wQr (s:Sch):Sch:=.fl 17 (.fl 18 (.fl 19 (.fl 20 (.fl 21 (.fl 22 (.fl 23 (.fl 24 (.fl 25 (.fl 26 (.fl 27 (.fl 28 (.fl 29 (.fl 30 (s))))))))))))))
def wQs (s:Sch):Sch:=.fl 32 (.fl 33 (.fl 34 (s)))
theorem zA:type_of% @Tryz.runUnderlying22:=@Tryz.runUnderlying22
theorem zB:type_of% @wLd:=@wLd
theorem zC:type_of% @wIE:=@wIE
theorem zD:type_of% @CK.seq:=@CK.seq
theorem zE:type_of% @Hid.mk:=@Hid.mk
theorem zF:type_of% @wGg:=@wGg
theorem zG:type_of% @wHz:=@wHz
theorem zH:type_of% @wLc:=@wLc
theorem zI:type_of% @CK.ret:=@CK.ret
theorem zJ:type_of% @Enters.mk:=@Enters.mk
theorem zK:type_of% @OKS.callH:=@OKS.callH
theorem zL:type_of% @OKS.p:=@OKS.p
theorem zM:type_of% @Runs.pickF:=@Runs.pickF
theorem zN:type_of% @Tryz.sizeOf3:=@Tryz.sizeOf3
theorem zO:type_of% @Tryz.runUnderlying25:=@Tryz.runUnderlying25
theorem zP:type_of% @wOr:=@wOr
theorem zQ:type_of% @Tryz.isAgg3:=@Tryz.isAgg3
theorem zR:type_of% @Runs.pickT:=@Runs.pickT
theorem zS:type_of% @Tryz.sizeOf22:=@Tryz.sizeOf22
theorem zU:type_of% @Runs.fa:=@Runs.fa
theorem zV:type_of% @wKL:=@wKL
theorem zW:type_of% @OKS.rm:=@OKS.rm
theorem zX:type_of% @OKS.r:=@OKS.r
theorem zY:type_of% @Tryz.isAgg22:=@Tryz.isAgg22
theorem zZ:type_of% @PHeap.Le.refl:=@PHeap.Le.refl
theorem zd:type_of% @CK.block:=@CK.block
theorem ze:type_of% @Runs.lss:=@Runs.lss
theorem zf:type_of% @Tryz.runUnderlying118:=@Tryz.runUnderlying118
theorem zg:type_of% @nN:=@nN
theorem zh:type_of% @wLb:=@wLb
theorem zi:type_of% @Runs.len:=@Runs.len
theorem zj:type_of% @wKK:=@wKK
theorem zk:type_of% @wRE:=@wRE
theorem zl:type_of% @Tryz.runUnderlying26:=@Tryz.runUnderlying26
theorem zm:type_of% @Tryz.runUnderlying34:=@Tryz.runUnderlying34
theorem zn:type_of% @res1:=@res1
theorem zo:type_of% @Runs.addw:=@Runs.addw
theorem zp:type_of% @CK.condF:=@CK.condF
theorem zq:type_of% @OKS.e:=@OKS.e
theorem zr:type_of% @Tryz.sizeOf25:=@Tryz.sizeOf25
theorem zt:type_of% @CK.condT:=@CK.condT
theorem zu:type_of% @Runs.iaN:=@Runs.iaN
theorem zw:type_of% @Runs.neq:=@Runs.neq
theorem zx:type_of% @OKS.m:=@OKS.m
theorem zy:type_of% @wIA:=@wIA
theorem zz:type_of% @Runs.ext:=@Runs.ext
theorem ZA:type_of% @Tryz.runUnderlying23:=@Tryz.runUnderlying23
theorem ZB:type_of% @Runs.to:=@Runs.to
theorem ZC:type_of% @CK.exit:=@CK.exit
theorem ZD:type_of% @Tryz.sizeOf34:=@Tryz.sizeOf34
theorem ZE:type_of% @OKS.alloc:=@OKS.alloc
theorem ZF:type_of% @OKS.px:=@OKS.px
theorem ZG:type_of% @CK.skip:=@CK.skip
theorem ZH:type_of% @Runs.nilp:=@Runs.nilp
theorem ZI:type_of% @OKS.box:=@OKS.box
theorem ZJ:type_of% @Tryz.isAgg25:=@Tryz.isAgg25
theorem ZK:type_of% @Tryz.isAgg101:=@Tryz.isAgg101
theorem ZL:type_of% @Tryz.mixed:=@Tryz.mixed
theorem ZM:type_of% @Tryz.sizeOf59:=@Tryz.sizeOf59
theorem ZN:type_of% @Tryz.isAgg34:=@Tryz.isAgg34
theorem ZO:type_of% @Tryz.runUnderlying112:=@Tryz.runUnderlying112
theorem ZP:type_of% @CK.anyOrd:=@CK.anyOrd
theorem ZQ:type_of% @Runs.notT:=@Runs.notT
theorem ZR:type_of% @Runs.gtr:=@Runs.gtr
theorem ZS:type_of% @Tryz.zeroValue34:=@Tryz.zeroValue34
theorem ZT:type_of% @Runs.iaA:=@Runs.iaA
theorem ZU:type_of% @Tryz.runUnderlying32:=@Tryz.runUnderlying32
theorem ZV:type_of% @Tryz.runUnderlying59:=@Tryz.runUnderlying59
theorem ZW:type_of% @Tryz.zeroValue25:=@Tryz.zeroValue25
theorem ZX:type_of% @wRD:=@wRD
theorem ZY:type_of% @Runs.subw:=@Runs.subw
theorem Za:type_of% @Tryz.runUnderlying114:=@Tryz.runUnderlying114
theorem Zb:type_of% @Tryz.runUnderlying95:=@Tryz.runUnderlying95
theorem Zc:type_of% @Tryz.sizeOf32:=@Tryz.sizeOf32
theorem Zd:type_of% @Tryz.sizeOf112:=@Tryz.sizeOf112
theorem Ze:type_of% @Runs.eql:=@Runs.eql
theorem Zf:type_of% @CK.forN:=@CK.forN
theorem Zg:type_of% @OKS.st:=@OKS.st
theorem Zh:type_of% @Tryz.sizeOf23:=@Tryz.sizeOf23
theorem Zi:type_of% @OKS.both:=@OKS.both
theorem Zj:type_of% @Tryz.isAgg23:=@Tryz.isAgg23
theorem Zk:type_of% @Tryz.sizeOf95:=@Tryz.sizeOf95
theorem Zl:type_of% @Tryz.isAgg59:=@Tryz.isAgg59
theorem Zm:type_of% @Tryz.isAgg32:=@Tryz.isAgg32
theorem Zn:type_of% @Runs.iaI:=@Runs.iaI
theorem Zo:type_of% @OKS.cutD:=@OKS.cutD
theorem Zp:type_of% @Tryz.sizeOf114:=@Tryz.sizeOf114
theorem Zq:type_of% @Tryz.sizeOf4:=@Tryz.sizeOf4
theorem Zr:type_of% @Tryz.runUnderlying116:=@Tryz.runUnderlying116
end Go.Proofs.YtfcmijinklojbaaGreat
namespace Go.Proofs.YtfcmijinklojbaaGreat
open Go.KL
set_option maxHeartbeats 4000000
theorem wEl (p0:wAB) (ap:Option Addr) (aq:Nat) (au:Option Addr) (aS:Nat) (az:Option Addr) (aT:Nat) (p1:Int) (w:World) (U:PHeap) (hS:St0 w U []) (bl:Sl U 1 ap aq p0.Shots.length (hH KL.encI p0.Shots)) (bm:Sl U 1 au aS p0.Down.length (hH KL.encI p0.Down)) (bn:Sl U 2 az aT p0.Across.length (hH wAA p0.Across)) {r:Bool} (hm:wAv p0 p1=some r):Gv Tryz.prog 5 [.agg #[.slice ap p0.Shots.length aq,.slice au p0.Down.length aS,.slice az p0.Across.length aT],jV p1] w (wCb w [] U (fun U_ L_ v=>v=.bool r/\L_=[])):=by
 unfold wAv at hm
 refine Gv.of Tryz.func5 rfl Tryz.ntmps5 Tryz.results5 rfl (sR gAg rfl (ZI (cs:=[.slice ap p0.Shots.length aq,.slice au p0.Down.length aS,.slice az p0.Across.length aT]) rfl rfl rfl rfl rfl rfl (by rfl) hS ?_))
 intro W1 b2 ae
 refine oA Z Z (eN (sR fL30 Z (oR Z (zU Z Z zO Z zS) (oL Z (ae.ldB (j:=0) Z Z Z zY (v:=.slice ap p0.Shots.length aq) Z) (oR Z (zi Z Z zA) (oM Z Z (oR Z (ZR Z Z Z) (oM Z Z ?_))))))))
 by_cases c5:p1 < (↑p0.Shots.length:Int)
 have aY:=hm;rw [if_pos c5] at aY;replace c5:=zE c5
 refine rU Z (wT Z c5) (zU Z Z zO Z zS) (zx Z Z Z (wT Z c5) (ae.ldB (j:=0) Z Z Z zY (v:=.slice ap p0.Shots.length aq) Z) Z (rU Z (wT Z c5) (zi Z Z zA) (rU Z (wT Z c5) (Runs.leq Z Z Z) (oR Z (zR Z (ZX c5.out) Z) (oM Z Z (ifc aY ?_ ?_))))))
 intro c7 bh
 refine oT Z c7 (oT Z c7 (oT Z c7 (oT Z c7 (oR Z (zR Z (ZX c7.out) Z) (oM Z Z (oN Z (oN Z (oN Z (oN Z (oR Z (zR Z Z Z) (oM Z Z (oN Z (oN Z (oN Z (oN Z (oR Z (zR Z Z Z) (oA Z Z (eN (zI ?_)))))))))))))))))))
 have hE:=nD bh;first | subst r | cases hE
 exact ⟨rfl,_,(zn rfl),U,_,(ae.pick [] _ (by decide) rfl),rfl,rfl⟩
 intro c7 bi
 refine rU Z (wF Z c7) (zU Z Z zO Z zS) (zx Z Z Z (wF Z c7) (ae.ldB (j:=0) Z Z Z zY (v:=.slice ap p0.Shots.length aq) Z) Z (rU Z (wF Z c7) (zi Z Z zA) (rU Z (wF Z c7) (ZR Z Z Z) (oR Z (zM Z (zk c7.out) Z) (oM Z Z (ifc bi ?_ ?_))))))
 intro ah aZ
 refine oT Z ah (oT Z ah (oT Z ah (oT Z ah (oR Z (zR Z (ZX ah.out) Z) (oM Z Z (oN Z (oN Z (oN Z (oN Z (oR Z (zR Z Z Z) (oA Z Z (eN (zI ?_)))))))))))))
 have hE:=nD aZ;first | subst r | cases hE
 exact ⟨rfl,_,(zn rfl),U,_,(ae.pick [] _ (by decide) rfl),rfl,rfl⟩
 intro ah ba
 refine rU Z (wF Z ah) (zU Z Z zO Z zS) (zx Z Z Z (wF Z ah) (ae.ldB (j:=0) Z Z Z zY (v:=.slice au p0.Down.length aS) Z) Z (rU Z (wF Z ah) (zi Z Z zA) (rU Z (wF Z ah) (ZR Z Z Z) (oR Z (zM Z (zk ah.out) Z) (oM Z Z (ifc ba ?_ ?_))))))
 intro ai bb
 refine oT Z ai (oT Z ai (oT Z ai (oT Z ai (oR Z (zR Z (ZX ai.out) Z) (oA Z Z (eN (zI ?_)))))))
 have hE:=nD bb;first | subst r | cases hE
 exact ⟨rfl,_,(zn rfl),U,_,(ae.pick [] _ (by decide) rfl),rfl,rfl⟩
 intro ai aV
 refine rU Z (wF Z ai) (zU Z Z zO Z Zh) (zx Z Z Z (wF Z ai) (ae.ldB (j:=0) Z Z Z Zj (v:=.slice az p0.Across.length aT) Z) Z (rU Z (wF Z ai) (zi Z Z ZA) (rU Z (wF Z ai) (ZR Z Z Z) (oR Z (zM Z (zk ai.out) Z) (oA Z Z (eN (zI ?_)))))))
 first | (obtain rfl:=nD aV) | cases aV
 exact ⟨rfl,_,(zn rfl),U,_,(ae.pick [] _ (by decide) rfl),rfl,rfl⟩
 have aW:=hm;rw [if_neg c5] at aW;replace c5:=zE c5
 refine oF Z c5 (oF Z c5 (oF Z c5 (oF Z c5 (oR Z (zM Z (zk c5.out) Z) (oM Z Z (zX Z Z Z (zC Z Z Z) (fun _=>zU Z Z zO Z zS) (zx Z Z Z (zC Z Z Z) (ae.ldB (j:=0) Z Z Z zY (v:=.slice ap p0.Shots.length aq) Z) Z (zX Z Z Z (zC Z Z Z) (fun _=>zi Z Z zA) (zX Z Z Z (zC Z Z Z) (fun _=>ZR Z Z Z) (oR Z (zM Z Z Z) (oM Z Z (ifc aW ?_ ?_))))))))))))
 intro aj be
 refine oT Z aj (oT Z aj (oT Z aj (oT Z aj (oR Z (zR Z (ZX aj.out) Z) (oM Z Z (oN Z (oN Z (oN Z (oN Z (oR Z (zR Z Z Z) (oA Z Z (eN (zI ?_)))))))))))))
 have hE:=nD be;first | subst r | cases hE
 exact ⟨rfl,_,(zn rfl),U,_,(ae.pick [] _ (by decide) rfl),rfl,rfl⟩
 intro aj bf
 refine rU Z (wF Z aj) (zU Z Z zO Z zS) (zx Z Z Z (wF Z aj) (ae.ldB (j:=0) Z Z Z zY (v:=.slice au p0.Down.length aS) Z) Z (rU Z (wF Z aj) (zi Z Z zA) (rU Z (wF Z aj) (ZR Z Z Z) (oR Z (zM Z (zk aj.out) Z) (oM Z Z (ifc bf ?_ ?_))))))
 intro ak bg
 refine oT Z ak (oT Z ak (oT Z ak (oT Z ak (oR Z (zR Z (ZX ak.out) Z) (oA Z Z (eN (zI ?_)))))))
 have hE:=nD bg;first | subst r | cases hE
 exact ⟨rfl,_,(zn rfl),U,_,(ae.pick [] _ (by decide) rfl),rfl,rfl⟩
 intro ak aX
 refine rU Z (wF Z ak) (zU Z Z zO Z Zh) (zx Z Z Z (wF Z ak) (ae.ldB (j:=0) Z Z Z Zj (v:=.slice az p0.Across.length aT) Z) Z (rU Z (wF Z ak) (zi Z Z ZA) (rU Z (wF Z ak) (ZR Z Z Z) (oR Z (zM Z (zk ak.out) Z) (oA Z Z (eN (zI ?_)))))))
 first | (obtain rfl:=nD aX) | cases aX
 exact ⟨rfl,_,(zn rfl),U,_,(ae.pick [] _ (by decide) rfl),rfl,rfl⟩
theorem wBV (w:World) (U:PHeap) (hS:St0 w U []) {r:Bool} (hm:wAc=some r):Gv Tryz.prog 6 [] w (wCb w [] U (fun U_ L_ v=>v=.bool r/\L_=[])):=by
 cases hm
 refine (xr6 w).mono ?_
 rintro v w' ⟨rfl,k⟩
 exact ⟨U,[],hS.grow k,Z,Z⟩
theorem wAm (p0:List Int) (ak:Option Addr) (am:Nat) (w:World) (U:PHeap) (hS:St0 w U []) (aU:Sl U 1 ak am p0.length (hH KL.encI p0)) {r:(List Int)} (hm:wAb p0=some r):Gv Tryz.prog 9 [.slice ak p0.length am] w (wCb w [] U (fun U_ L_ v=>∃ (A0:Option Addr) (c0:Nat),v=.slice A0 r.length c0/\L_=[.row A0 c0 3 1 (hH KL.encI r)])):=by
 unfold wAb at hm
 refine Gv.of Tryz.func9 Z Tryz.ntmps9 Tryz.results9 Z (sR fL1 Z (oA Z Z (eN (sR gAm Z (oM Z Z ?_)))))
 have az:=hS.nilrow 3 1
 have aj:sW w U U [.row none 0 3 1 (hH KL.encI ([]:List Int))] w:=az
 refine bnK hm fun x4 h5 aV=>OKS.append (j:=0) (enc:=KL.encI) (xs:=([]:List Int)) (ys:=p0) (zs:=x4) Z Z Z Z Z Tryz.underlying22 wQV Z Z Z Z Z Z aj Z Z Z (aj.srcS aU) (fun _=>Z) (fun _=>Z) h5 Z ?_
 intro A7 c8 W9 aS
 have aT:sW w U U [.row A7 c8 3 1 (hH KL.encI x4)] W9:=aS
 refine oA Z Z (eN (zI ?_))
 have hE:=nD aV;first | subst r | cases hE
 exact ⟨Z,_,(zn Z),U,_,aT,A7,c8,Z,Z⟩
theorem wDD (p0:List wAC) (ak:Option Addr) (am:Nat) (w:World) (U:PHeap) (hS:St0 w U []) (aU:Sl U 2 ak am p0.length (hH wAA p0)) {r:(List wAC)} (hm:wAf p0=some r):Gv Tryz.prog 44 [.slice ak p0.length am] w (wCb w [] U (fun U_ L_ v=>∃ (A0:Option Addr) (c0:Nat),v=.slice A0 r.length c0/\L_=[.row A0 c0 59 2 (hH wAA r)])):=by
 unfold wAf at hm
 refine Gv.of Tryz.func44 Z Tryz.ntmps44 Tryz.results44 Z (sR fL1 Z (oA Z Z (eN (sR gAm Z (oM Z Z ?_)))))
 have az:=hS.nilrow 59 2
 have aj:sW w U U [.row none 0 59 2 (hH wAA ([]:List wAC))] w:=az
 refine bnK hm fun x4 h5 aV=>OKS.append (j:=0) (enc:=wAA) (xs:=([]:List wAC)) (ys:=p0) (zs:=x4) Z Z Z Z Z Tryz.underlying23 wSA Z Z Z Z Z Z aj Z Z Z (aj.srcS aU) (fun _=>Z) (fun _=>Z) h5 Z ?_
 intro A7 c8 W9 aS
 have aT:sW w U U [.row A7 c8 59 2 (hH wAA x4)] W9:=aS
 refine oA Z Z (eN (zI ?_))
 have hE:=nD aV;first | subst r | cases hE
 exact ⟨Z,_,(zn Z),U,_,aT,A7,c8,Z,Z⟩
theorem wCF (p0:wAB) (aj:Option Addr) (ap:Nat) (ak:Option Addr) (aq:Nat) (am:Option Addr) (au:Nat) (w:World) (U:PHeap) (hS:St0 w U []) (bO:Sl U 1 aj ap p0.Shots.length (hH KL.encI p0.Shots)) (bP:Sl U 1 ak aq p0.Down.length (hH KL.encI p0.Down)) (bQ:Sl U 2 am au p0.Across.length (hH wAA p0.Across)) {r:wAB} (hm:wBl p0=some r):Gv Tryz.prog 7 [.agg #[.slice aj p0.Shots.length ap,.slice ak p0.Down.length aq,.slice am p0.Across.length au]] w (wCb w [] U (fun U_ L_ v=>∃ (bg:Option Addr) (bp:Nat) (bh:Option Addr) (bq:Nat) (bi:Option Addr) (br:Nat),v=.agg #[.slice bg r.Shots.length bp,.slice bh r.Down.length bq,.slice bi r.Across.length br]/\L_=[.row bg bp 3 1 (hH KL.encI r.Shots),.row bh bq 3 1 (hH KL.encI r.Down),.row bi br 59 2 (hH wAA r.Across)])):=by
 unfold wBl at hm
 refine Gv.of Tryz.func7 Z Tryz.ntmps7 Tryz.results7 Z (sR gAi Z ?_)
 let B0:List Value:=[.slice aj p0.Shots.length ap,.slice ak p0.Down.length aq,.slice am p0.Across.length au]
 refine ZI (cs:=B0) rfl rfl rfl rfl rfl rfl (by rfl) hS ?_
 intro W1 b2 bH
 let B1:List Value:=[.slice none 0 0,.slice none 0 0,.slice none 0 0]
 refine ZE (cs:=B1) Z Z Z Z Z ZW Z bH ?_
 intro W5 b6 bN
 refine eN (zD (ZP ZL [3,1,2,3,1,2,3,1,2,3,0] (.fl 0 (.fl 1 (.fl 3 (.fl 4 (.fl 6 (.fl 7 (.fx 2 (.fx 5 (.fx 8 (.fl 9 (.fx 10 .nil .stop)) .stop) .stop) .stop))))))) (by kernel_rfl) ?_))
 have ai:=bN.drew
 generalize hw_W10:({ W5 with drawn:=W5.drawn + 1 }:World)=bu at ai ⊢
 refine oR Z (zU Z Z zO Z zS) (oL Z (ai.ldB (j:=1) Z Z Z zY (v:=.slice aj p0.Shots.length ap) Z) (oR Z (zU Z Z zO Z zS) (oL Z (ai.ldB (j:=1) Z Z Z zY (v:=.slice ak p0.Down.length aq) Z) (oR Z (zU Z Z zO Z Zh) (oL Z (ai.ldB (j:=1) Z Z Z Zj (v:=.slice am p0.Across.length au) Z) (bnK hm fun be bz bR=>zK 0 Z Z Z Z (zJ Z Z Tryz.call9 (zB Z zP) Z) ai (fun hs=>wAm p0.Shots aj ap bu U hs bO bz) (.inr Z) ?_))))))
 rintro bk bV b5 bm bt bF ⟨az,aX,rfl,rfl⟩
 let B2:Res:=.row az aX 3 1 (hH KL.encI be)
 have bG:sW w U bk [B2,.blk b6 25 B1,.blk b2 25 B0] bm:=bF
 have bA:=bP.le bt
 refine bnK bR fun bf bB bS=>zK 0 Z Z Z Z (zJ Z Z Tryz.call9 (zB Z zP) Z) bG (fun hs=>wAm p0.Down ak aq bm bk hs bA bB) (.inr Z) ?_
 rintro bl bW b8 bn bU bI ⟨aS,aY,rfl,rfl⟩
 let B3:Res:=.row aS aY 3 1 (hH KL.encI bf)
 have bJ:sW w U bl [B3,B2,.blk b6 25 B1,.blk b2 25 B0] bn:=bI
 have bC:=bQ.le bt
 have bD:=bC.le bU
 refine bnK bS fun x40 bE bT=>zK 0 Z Z Z Z (zJ Z Z Tryz.call44 (zB Z zP) Z) bJ (fun hs=>wDD p0.Across am au bn bl hs bD bE) (.inr Z) ?_
 rintro bb bX b9 bv bZ bK ⟨aT,aZ,rfl,rfl⟩
 let B4:Res:=.row aT aZ 59 2 (hH wAA x40)
 have bL:sW w U bb [B4,B3,B2,.blk b6 25 B1,.blk b2 25 B0] bv:=bK
 let B5:List Value:=[.slice az be.length aX,.slice aS bf.length aY,.slice aT x40.length aZ]
 refine oR Z (Runs.build (pv:=[(0,.slice az be.length aX),(1,.slice aS bf.length aY),(2,.slice aT x40.length aZ)]) (z:=B1) (cs:=B5) Z (wBq Z (wBq Z (wBq Z wDL))) ZW wOZ Z Z) (Zg (j:=3) (vs:=B5) Z Z Z Z bL Z Z Z Z zr (zg Z) Z Z Z ?_)
 intro bw bM
 have bs:sW w U bb [B4,B3,B2,.blk b6 25 B5,.blk b2 25 B0] bw:=bM
 refine eN (zI ?_)
 cases bT
 exact ⟨rfl,_,(wKx (v:=.agg B5.toArray) ⟨⟨_,rfl,(wOx ZJ zr (bs.blkAt (k:=3) rfl) (vs:=B5) rfl rfl)⟩,trivial⟩),bb,_,(bs.pick [2,1,0] _ (by decide) rfl),az,aX,aS,aY,aT,aZ,rfl,rfl⟩
theorem wBe (p0:List (List Int)) (bf:Option Addr) (bh:Nat) (w:World) (U:PHeap) (hS:St0 w U []) (cn:SlR U wEV bf bh p0) {r:(List (List Int))} (hm:wBC p0=some r):Gv Tryz.prog 8 [.slice bf p0.length bh] w (wCb w [] U (fun U_ L_ v=>∃ (A0:Option Addr) (c0:Nat) (bz:List Hd),v=.slice A0 r.length c0/\L_=[.row A0 c0 22 1 (hH wFr bz),inn 3 1 KL.encI bz r])):=by
 unfold wBC at hm
 refine Gv.of Tryz.func8 Z Tryz.ntmps8 Tryz.results8 Z (sR fL1 Z (oA Z Z (eN (sR fL1 Z (oA Z Z (eN (zD (sR fL3 Z (oM Z Z (oR Z (zi Z Z zl) (oM Z Z (eN (zd (bnK hm fun cM cq cw=>?_))))))))))))))
 have q:=wDI cq
 obtain ⟨be,cr⟩:=q
 replace be:=zE be
 refine CK.forN' (fun am aj σ_ w_=>∃ (U_:PHeap) (ap:Option Addr) (aT:Nat) (ab:List Hd),σ_ 8=jV (↑am:Int)/\σ_ 3=.slice ap aj.length aT/\σ_ 6=.slice bf p0.length bh/\σ_ 7=jV (↑p0.length:Int)/\PHeap.Le U U_/\sW w U U_ [.row ap aT 22 1 (hH wFr ab),inn 3 1 KL.encI ab aj] w_) cr ?_ ?_ ?_
 have bZ:=hS.nilrow 22 1
 have b5:=bZ.innNil 3 1 KL.encI
 have b8:sW w U U [inn 3 1 KL.encI ([]:List Hd) ([]:List (List Int)),.row none 0 22 1 []] w:=b5
 exact ⟨U,none,0,[],rfl,rfl,rfl,rfl,(zZ _),(b8.pick [1,0] _ (by decide) rfl)⟩
 rintro am aj cL cO bE bb ⟨bn,ap,aT,ab,aX,bL,bs,bt,bB,bw⟩ cB
 have bq:Hid ((↑am:Int) < (↑p0.length:Int)):=zE (wBz bb)
 replace bb:=zE bb
 have ct:Hid (w64 ((↑am:Int) + 1)=(↑(am + 1):Int)):=zE (by have h1:=be.out;have h2:=bq.out;rw [wAO] <;> omega)
 refine sR fL1 Z (oR Z (ze Z aX bt) (eN (zD (cT Z bq (kN (zD (zd (sR fL3 Z (bnK cB fun x50 bu cx=>?_)))))))))
 have bO:=cn.le bB
 have q:=bO.el (wAN bu)
 obtain ⟨bG,cD,cK,bS,aY,cA⟩:=q
 obtain ⟨bg,bi,rfl,bP⟩:=cA
 replace aY:Cl bn bG (cD + am * 1) [.slice bg x50.length bi]:=aY
 refine oR Z (zu Z bs bS aX zl zS (wBP bu)) (oL Z (bw.ldC (f:=0) aY (v:=.slice bg x50.length bi) Z Z zY Z) (oA Z Z (eN (rR (.fl 0 (.fl 1 (.fx 2 (.fx 3 (.fx 4 (.fl 5 .nil) .stop) .stop) .stop))) Z (oM Z bL (oM Z Z (bnK cx fun aa bQ cy=>zK 0 Z Z Z Z (zJ Z Z Tryz.call9 (zB Z zP) Z) bw (fun hs=>wAm x50 bg bi bE bn hs bP bQ) (.inr Z) ?_)))))))
 rintro ai cE cJ bF cC b9 ⟨ae,ah,rfl,rfl⟩
 let B0:Res:=.row ap aT 22 1 (hH wFr ab)
 let B1:Res:=.row ae ah 3 1 (hH KL.encI aa)
 have cd:sW w U ai [B1,B0,inn 3 1 KL.encI ab aj] bF:=b9
 let B2:List Value:=[.slice ae aa.length ah]
 refine OKS.buildSlice (pv:=[(0,.slice ae aa.length ah)]) (zs:=[.slice none 0 0]) (cs:=B2) Z Z Z Z Z (wBq Z wDL) zl zS Tryz.zeroValue22 Z Z Z Z Z cd ?_
 intro aW bo cf
 let B3:Res:=.row (some ⟨bo,0,none⟩) 1 22 1 B2
 have cg:sW w U ai [B3,B1,B0,inn 3 1 KL.encI ab aj] aW:=cf
 have ci:sW w U ai [B1,B3,B0,inn 3 1 KL.encI ab aj] aW:=cg.pick [1,0,2,3] _ (by decide) rfl
 have cj:=ci.innOne
 let B4:Res:=.row (some ⟨bo,0,none⟩) 1 22 1 (hH wFr [(⟨ae,aa.length,ah⟩:Hd)])
 have aU:sW w U ai [inn 3 1 KL.encI [(⟨ae,aa.length,ah⟩:Hd)] [aa],B4,B0,inn 3 1 KL.encI ab aj] aW:=cj
 refine bnK cy fun x88 bR cz=>?_
 have aZ:=aU.innFit (j:=3) rfl
 have ba:=aU.innFit (j:=0) rfl
 have q:=wRU bR aZ ba
 obtain ⟨cp,bA⟩:=q
 refine OKS.append (j:=2) (enc:=wFr) (xs:=ab) (ys:=[(⟨ae,aa.length,ah⟩:Hd)]) rfl rfl rfl rfl rfl Tryz.underlying26 wPM rfl rfl rfl rfl rfl rfl aU rfl (slen rfl aZ) (slen rfl ba) (aU.srcR (j:=1) rfl (by decide) (wAJ (f:=wFr) (sz:=1) (fun _=>rfl) [(⟨ae,aa.length,ah⟩:Hd)])) (fun _=>rfl) (fun _=>rfl) cp rfl ?_
 intro bk br aS cm
 have cu:(ab ++ [(⟨ae,aa.length,ah⟩:Hd)]:List Hd).length=x88.length:=by rw [bA,nO,nO,aZ.len,ba.len]
 rw [cu]
 let B5:Res:=.row bk br 22 1 (hH wFr (ab ++ [(⟨ae,aa.length,ah⟩:Hd)]:List Hd))
 have bT:sW w U ai [inn 3 1 KL.encI [(⟨ae,aa.length,ah⟩:Hd)] [aa],B4,B5,inn 3 1 KL.encI ab aj] aS:=cm
 have bU:sW w U ai [inn 3 1 KL.encI ab aj,inn 3 1 KL.encI [(⟨ae,aa.length,ah⟩:Hd)] [aa],B4,B5] aS:=bT.pick [3,0,1,2] _ (by decide) rfl
 have bv:=bU.innApp
 rw [<- bA] at bv
 have bV:sW w U ai [inn 3 1 KL.encI (ab ++ [(⟨ae,aa.length,ah⟩:Hd)]:List Hd) x88,B4,B5] aS:=bv
 have bW:=bV.drop 1
 have bX:sW w U ai [inn 3 1 KL.encI (ab ++ [(⟨ae,aa.length,ah⟩:Hd)]:List Hd) x88,B5] aS:=bW
 refine oA Z Z (zq (zj (zG (rR fL2 Z (oR Z (ZB (zo Z aX Z) (congrArg (jV) ct.out)) (oM Z Z (zq ?_)))))))
 cases cz
 exact zG ⟨rfl,⟨ai,bk,br,(ab ++ [(⟨ae,aa.length,ah⟩:Hd)]:List Hd),rfl,rfl,bs,bt,(bB.trans cC),(bX.pick [1,0] _ (by decide) rfl)⟩⟩
 rintro cN cG ⟨bD,bC,bH,bN,bM,bJ,cH,bK,cI,bY⟩
 have bI:Hid (¬ ((↑(((↑p0.length:Int):Int) - 0).toNat:Int) < (↑p0.length:Int))):=zE (wBO)
 refine sR fL1 Z (oR Z (ze Z bM bK) (eN (zD (cF Z bI (ZC (zh (zh (zy (zG (sR fL2 Z (oM Z bJ (oA Z Z (eN (zI ?_))))))))))))))
 have hE:=nD cw;first | subst r | cases hE
 exact ⟨Z,_,(zn Z),bD,_,bY,bC,bH,bN,Z,Z⟩
theorem wCL (p0:wAB) (ab:Option Addr) (ah:Nat) (ae:Option Addr) (ai:Nat) (aX:Option Addr) (aY:Nat) (w:World) (U:PHeap) (hS:St0 w U []) (cy:Sl U 1 ab ah p0.Shots.length (hH KL.encI p0.Shots)) (cz:Sl U 1 ae ai p0.Down.length (hH KL.encI p0.Down)) (cA:Sl U 2 aX aY p0.Across.length (hH wAA p0.Across)) {r:wAE} (hm:wBu p0=some r):Gv Tryz.prog 10 [.agg #[.slice ab p0.Shots.length ah,.slice ae p0.Down.length ai,.slice aX p0.Across.length aY]] w (wCb w [] U (fun U_ L_ v=>∃ (bp:Option Addr) (bv:Nat) (bq:Option Addr) (bw:Nat) (br:Option Addr) (bz:Nat),v=.agg #[.slice bp r.Shots.length bv,.slice bq r.Down.length bw,.slice br r.Across.length bz]/\L_=[.row br bz 95 2 (hH wAD r.Across)]/\Sl U_ 1 bp bv r.Shots.length (hH KL.encI r.Shots)/\Sl U_ 1 bq bw r.Down.length (hH KL.encI r.Down))):=by
 unfold wBu at hm
 refine Gv.of Tryz.func10 Z Tryz.ntmps10 Tryz.results10 Z (sR gAi Z ?_)
 let B0:List Value:=[.slice ab p0.Shots.length ah,.slice ae p0.Down.length ai,.slice aX p0.Across.length aY]
 refine ZI (cs:=B0) rfl rfl rfl rfl rfl rfl (by rfl) hS ?_
 intro W1 b2 cm
 let B1:List Value:=[.slice none 0 0,.slice none 0 0,.slice none 0 0]
 refine ZE (cs:=B1) Z Z Z Z Z ZS Z cm ?_
 intro W5 b6 bl
 refine eN (sR (wKJ gAj) Z (oR Z (zU Z Z zO Z zS) (oL Z (bl.ldB (j:=1) Z Z Z zY (v:=.slice ab p0.Shots.length ah) Z) (oR Z (zU Z Z zO Z zS) (oL Z (bl.ldB (j:=1) Z Z Z zY (v:=.slice ae p0.Down.length ai) Z) ?_)))))
 let B2:List Value:=[.slice ab p0.Shots.length ah,.slice ae p0.Down.length ai,.slice none 0 0]
 refine oR Z (Runs.build (pv:=[(0,.slice ab p0.Shots.length ah),(1,.slice ae p0.Down.length ai)]) (z:=B1) (cs:=B2) Z (wBq Z (wBq Z wDL)) ZS wOa Z Z) (ZE (cs:=B1) Z Z Z Z Z ZS Z bl ?_)
 intro W9 aT ci
 refine Zg (j:=0) (vs:=B2) Z Z Z Z ci Z Z Z Z ZD (zg Z) Z Z Z ?_
 intro bO cj
 have bH:sW w U U [.blk aT 34 B2,.blk b6 34 B1,.blk b2 25 B0] bO:=cj
 refine eN (zD (sR fL4 Z (oR Z (zU Z Z zO Z Zh) (oL Z (bH.ldB (j:=2) Z Z Z Zj (v:=.slice aX p0.Across.length aY) Z) (oR Z (zi Z Z ZA) (oM Z Z (eN (zd (bnK hm fun bM cB cE=>?_)))))))))
 have q:=wDI cB
 obtain ⟨bo,cC⟩:=q
 replace bo:=zE bo
 refine CK.forN' (fun aW au σ_ w_=>∃ (U_:PHeap) (az:Option Addr) (aU:Nat),σ_ 14=jV (↑aW:Int)/\σ_ 2=.pointer (some ⟨b6,0,none⟩)/\σ_ 3=.pointer (some ⟨aT,0,none⟩)/\σ_ 12=.slice aX p0.Across.length aY/\σ_ 13=jV (↑p0.Across.length:Int)/\PHeap.Le U U_/\sW w U U_ [.row az aU 95 2 (hH wAD au),.blk aT 34 [.slice ab p0.Shots.length ah,.slice ae p0.Down.length ai,.slice az au.length aU],.blk b6 34 B1,.blk b2 25 B0] w_) cC ?_ ?_ ?_
 have cn:=bH.nilrow 95 2
 exact ⟨U,none,0,Z,Z,Z,Z,Z,(zZ _),cn⟩
 rintro aW au cS cU cK bn ⟨aV,az,aU,bk,bX,bj,bC,bD,bL,bI⟩ cI
 have bA:Hid ((↑aW:Int) < (↑p0.Across.length:Int)):=zE (wBz bn)
 replace bn:=zE bn
 have cD:Hid (w64 ((↑aW:Int) + 1)=(↑(aW + 1):Int)):=zE (by have h1:=bo.out;have h2:=bA.out;rw [wAO] <;> omega)
 refine sR fL1 Z (oR Z (ze Z bk bD) (eN (zD (cT Z bA (kN (zD (zd (sR gAr Z (bnK cI fun x57 bE cG=>?_)))))))))
 have b8:=cA.le bL
 have q:=b8.el (fun _=>rfl) (wAN bE)
 obtain ⟨cP,cR,cd,cf⟩:=q
 refine oR Z (zu Z bC cd bk ZA ZM (wBP bE)) (oL Z (bI.ldCA (f:=0) cf Z Z Zl ZM (us:=[jV x57.Skier,jV x57.Lane]) Z Z) (ZE (cs:=[jV 0,jV 0]) Z Z Z Z Z Tryz.zeroValue59 Z bI ?_))
 intro cM ba cp
 let B3:List Value:=[jV x57.Skier,jV x57.Lane]
 refine Zg (j:=0) (vs:=B3) Z Z Z Z cp Z Z Z Z ZM (zg Z) Z Z Z ?_
 intro bP cq
 let B4:Res:=.blk aT 34 [.slice ab p0.Shots.length ah,.slice ae p0.Down.length ai,.slice az au.length aU]
 let B5:Res:=.row az aU 95 2 (hH wAD au)
 have bm:sW w U aV [.blk ba 59 B3,B5,B4,.blk b6 34 B1,.blk b2 25 B0] bP:=cq
 refine eN (rR (wKI (.fx 3 (.fx 4 (.fl 5 (.fx 6 .nil .stop)) .stop) .stop)) Z (oR Z (zU Z bj zm Z Zc) (oL Z (bm.ldB (j:=2) Z Z Z Zm (v:=.slice az au.length aU) Z) (oL Z (bm.ldBA (j:=0) Z Z Z Zl ZM (vs:=B3) Z Z) (OKS.buildSlice (pv:=[(0,.agg B3.toArray)]) (zs:=[jV 0,jV 0]) (cs:=B3) Z Z Z Z Z (wBq Z wDL) ZU Zk Tryz.zeroValue95 Z Z Z Z Z bm ?_)))))
 intro bQ bT cr
 let B6:Res:=.row (some ⟨bT,0,none⟩) 1 95 2 (hH wAD [(⟨x57.Skier,x57.Lane⟩:wAU)])
 have bJ:sW w U aV [B6,.blk ba 59 B3,B5,B4,.blk b6 34 B1,.blk b2 25 B0] bQ:=cr
 refine bnK cG fun x77 b9 cH=>OKS.append (j:=2) (enc:=wAD) (xs:=au) (ys:=[(⟨x57.Skier,x57.Lane⟩:wAU)]) (zs:=x77) rfl rfl rfl rfl rfl Tryz.underlying32 wSB rfl rfl rfl rfl rfl rfl bJ rfl rfl rfl (bJ.srcR (j:=0) rfl (by decide) (wAJ (f:=wAD) (sz:=2) (fun _=>rfl) [(⟨x57.Skier,x57.Lane⟩:wAU)])) (fun _=>rfl) (fun _=>rfl) b9 rfl ?_
 intro aZ bb bR ct
 let B7:Res:=.row aZ bb 95 2 (hH wAD x77)
 have cu:sW w U aV [B6,.blk ba 59 B3,B7,B4,.blk b6 34 B1,.blk b2 25 B0] bR:=ct
 refine oR Z (zU Z bj zm Z Zc) (Zg (j:=3) (vs:=[.slice aZ x77.length bb]) Z Z Z Z cu Z Z Z Z Zc (zg Z) Z Z Z ?_)
 intro bS cw
 have cx:sW w U aV [B6,.blk ba 59 B3,B7,.blk aT 34 [.slice ab p0.Shots.length ah,.slice ae p0.Down.length ai,.slice aZ x77.length bb],.blk b6 34 B1,.blk b2 25 B0] bS:=cw
 refine zq (zj (zG (rR fL2 Z (oR Z (ZB (zo Z bk Z) (congrArg (jV) cD.out)) (oM Z Z (zq ?_))))))
 cases cH
 exact zG ⟨rfl,⟨aV,aZ,bb,rfl,bX,bj,bC,bD,bL,(cx.pick [2,3,4,5] _ (by decide) rfl)⟩⟩
 rintro cV cO ⟨bu,be,bi,bY,bB,bV,cQ,bW,bK,bF⟩
 have bU:Hid (¬ ((↑(((↑p0.Across.length:Int):Int) - 0).toNat:Int) < (↑p0.Across.length:Int))):=zE (wBO)
 refine sR fL1 Z (oR Z (ze Z bY bW) (eN (zD (cF Z bU (ZC (zh (zh (zy (zG (sR (.fl 0 (.fx 1 .nil .stop)) Z ?_))))))))))
 let B8:List Value:=[.slice ab p0.Shots.length ah,.slice ae p0.Down.length ai,.slice be bM.length bi]
 refine oL Z (bF.ldBA (j:=1) Z Z bV ZN ZD (vs:=B8) Z Z) (Zg (j:=2) (vs:=B8) Z Z Z Z bF Z bB Z Z ZD (zg Z) Z Z Z ?_)
 intro bN cg
 have bG:sW w U bu [.row be bi 95 2 (hH wAD bM),.blk aT 34 B8,.blk b6 34 B8,.blk b2 25 B0] bN:=cg
 refine eN (zI ?_)
 have bZ:=cy.le bK
 have b5:=cz.le bK
 cases cE
 exact ⟨rfl,_,(wKx (v:=.agg B8.toArray) ⟨⟨_,bB,(wOx ZN ZD (bG.blkAt (k:=2) rfl) (vs:=B8) rfl rfl)⟩,trivial⟩),bu,_,(bG.pick [0] _ (by decide) rfl),ab,ah,ae,ai,be,bi,rfl,rfl,bZ,b5⟩
theorem wAn (p0:Int) (p1:Int) (p2:Int) (w:World) (U:PHeap) (hS:St0 w U [])  {r:Bool} (hm:wAL p0 p1 p2=some r):Gv Tryz.prog 45 [jV p0,jV p1,jV p2] w (wCb w [] U (fun U_ L_ v=>v=.bool r/\L_=[])):=by
 unfold wAL at hm
 refine Gv.of Tryz.func45 Z Tryz.ntmps45 Tryz.results45 Z (sR fL1 Z (oA Z Z (eN (sR fL9 Z (oM Z Z (oM Z Z (oR Z (ze Z Z Z) (oM Z Z ?_))))))))
 by_cases c1:p0 < p1
 have ai:=hm;rw [if_pos c1] at ai;replace c1:=zE c1
 refine oT Z c1 (oT Z c1 (oT Z c1 (oR Z (zR Z (ZX c1.out) Z) (oA Z Z (eN (zI ?_))))))
 have hE:=nD ai;first | subst r | cases hE
 exact ⟨Z,_,(zn Z),U,_,hS,Z,Z⟩
 have ab:=hm;rw [if_neg c1] at ab;replace c1:=zE c1
 refine zW Z Z Z (wF Z c1) Z Z (zW Z Z Z (wF Z c1) Z Z (rU Z (wF Z c1) (ZR Z Z Z) (oR Z (zM Z (zk c1.out) Z) (oA Z Z (eN (zI ?_))))))
 first | (obtain rfl:=nD ab) | cases ab
 exact ⟨Z,_,(zn Z),U,_,hS,Z,Z⟩
theorem wCG (p0:wAE) (be:Option Addr) (bg:Nat) (bf:Option Addr) (bh:Nat) (ap:Option Addr) (aq:Nat) (w:World) (U:PHeap) (hS:St0 w U []) (dH:Sl U 1 be bg p0.Shots.length (hH KL.encI p0.Shots)) (dI:Sl U 1 bf bh p0.Down.length (hH KL.encI p0.Down)) (b9:Sl U 2 ap aq p0.Across.length (hH wAD p0.Across)) {r:Int} (hm:wAk p0=some r):Gv Tryz.prog 11 [.agg #[.slice be p0.Shots.length bg,.slice bf p0.Down.length bh,.slice ap p0.Across.length aq]] w (wCb w [] U (fun U_ L_ v=>v=jV r/\L_=[])):=by
 unfold wAk at hm
 refine Gv.of Tryz.func11 Z Tryz.ntmps11 Tryz.results11 Z (sR gAg Z ?_)
 let B0:List Value:=[.slice be p0.Shots.length bg,.slice bf p0.Down.length bh,.slice ap p0.Across.length aq]
 refine ZI (cs:=B0) rfl rfl rfl rfl rfl rfl (by rfl) hS ?_
 intro W1 b2 aY
 refine oA Z Z (eN (sR fL4 Z (oR Z (zU Z Z zm Z zS) (oL Z (aY.ldB (j:=0) Z Z Z zY (v:=.slice be p0.Shots.length bg) Z) (oR Z (zi Z Z zA) (oA Z Z (eN (zD (sR fL13 Z (oM Z Z (oR Z (ze Z Z Z) (oM Z Z ?_))))))))))))
 by_cases c5:(↑p0.Shots.length:Int) < 1
 have cn:=hm;rw [if_pos c5] at cn;replace c5:=zE c5
 refine oT Z c5 (oT Z c5 (oR Z (zR Z (ZX c5.out) Z) (oM Z Z (oN Z (oN Z (oN Z (oN Z (oN Z (oR Z (zR Z Z Z) (eN (zt Z (sR fL1 Z (oA Z Z (eN (zI (zH ?_))))))))))))))))
 cases cn
 exact ⟨rfl,_,(zn rfl),U,_,(aY.pick [] _ (by decide) rfl),rfl,rfl⟩
 have cp:=hm;rw [if_neg c5] at cp;replace c5:=zE c5
 refine zW Z Z Z (wF Z c5) Z Z (rU Z (wF Z c5) (ZR Z Z Z) (oR Z (zM Z (zk c5.out) Z) (oM Z Z (ifc cp ?_ ?_))))
 intro c8 eC
 refine oT Z c8 (oT Z c8 (oT Z c8 (oT Z c8 (oT Z c8 (oR Z (zR Z (ZX c8.out) Z) (eN (zt Z (sR fL1 Z (oA Z Z (eN (zI (zH ?_))))))))))))
 cases eC
 exact ⟨rfl,_,(zn rfl),U,_,(aY.pick [] _ (by decide) rfl),rfl,rfl⟩
 intro c8 dM
 refine rU Z (wF Z c8) (zU Z Z zm Z zS) (zx Z Z Z (wF Z c8) (aY.ldB (j:=0) Z Z Z zY (v:=.slice bf p0.Down.length bh) Z) Z (rU Z (wF Z c8) (zi Z Z zA) (zW Z Z Z (wF Z c8) Z Z (rU Z (wF Z c8) (zw Z Z Z) (oR Z (zM Z (zk c8.out) Z) (eN (ifc dM ?_ ?_)))))))
 intro bz br
 refine zp (zk (fun h=>h bz.out)) (kN (zD (sR fL1 Z (oA Z Z (eN (zd ?_))))))
 have q:=wBp br
 obtain ⟨fw,bp⟩:=q
 have q:=wCA bp
 obtain ⟨bL,dK⟩:=q
 replace bL:=zE bL
 refine Zf (fun bb _ σ_ w_=>∃ (U_:PHeap),σ_ 4=jV (↑bb:Int)/\σ_ 1=.pointer (some ⟨b2,0,none⟩)/\σ_ 3=jV (↑p0.Shots.length:Int)/\PHeap.Le U U_/\sW w U U_ [.blk b2 34 B0] w_) dK ?_ ?_ ?_
 exact ⟨U,Z,Z,Z,(zZ _),aY⟩
 rintro bb ⟨⟩ fH fL cD bK ⟨cB,bm,bF,bW,bN,bJ⟩ cu cf
 try dsimp only at cu
 have bV:Hid ((↑bb:Int) < (↑p0.Shots.length:Int)):=zE (wBz bK)
 replace bK:=zE bK
 have dL:Hid (w64 ((↑bb:Int) + 1)=(↑(bb + 1):Int)):=zE (by have h1:=bL.out;have h2:=bV.out;rw [wAO] <;> omega)
 refine zD (sR fL3 Z (oM Z bm (oM Z bW (oR Z (ze Z Z Z) (eN (cT Z bV (kN (zD (zd (sR (wKJ (.fx 5 (wSN (.fx 12 (.fl 13 .nil) .stop)) .stop)) Z (oR Z (zU Z bF zm Z zS) (oL Z (bJ.ldB (j:=0) Z Z Z zY (v:=.slice be p0.Shots.length bg) Z) (oM Z bm (bnK cu fun x33 bY ed=>?_))))))))))))))
 have cY:=dH.le bN
 have q:=cY.el (fun _=>rfl) (wAN bY)
 obtain ⟨fe,ft,dp,dy⟩:=q
 refine oR Z (zu Z Z dp Z zA zN (wBP bY)) (oL Z (bJ.ldC (f:=0) dy (v:=jV x33) Z Z zQ Z) (bnK ed fun x41 cZ ef=>zK 0 Z Z Z Z (zJ Z Z Tryz.call45 (zB Z (zB Z (zB Z zP))) Z) bJ (fun hs=>wAn x33 0 8 cD cB hs cZ) (.inr Z) ?_))
 rintro bu eR fA bU cx dE ⟨rfl,rfl⟩
 have bo:sW w U bu [.blk b2 34 B0] bU:=dE
 refine oM Z Z (ifc ef ?_ ?_)
 intro ab eh
 refine zL Z Z Z (zF Z Z (congrArg nA ab.out) Z) (zL Z Z Z (zF Z Z (congrArg nA ab.out) Z) (zL Z Z Z (zF Z Z (congrArg nA ab.out) Z) (zL Z Z Z (zF Z Z (congrArg nA ab.out) Z) (zL Z Z Z (zF Z Z (congrArg nA ab.out) Z) (ZF Z Z Z (zF Z Z (congrArg nA ab.out) Z) (oR Z (zR Z (congrArg nA ab.out) Z) (eN (zt Z (sR fL1 Z (oA Z Z (eN (zI (zV (zH ?_))))))))))))))
 have q:=wAI eh
 obtain ⟨eM,ei,cN⟩:=q
 have q:=wBI br bp (cf eM cN)
 obtain rfl:=q
 refine zH (zV (zH ?_))
 cases ei
 exact ⟨rfl,_,(zn rfl),bu,_,(bo.pick [] _ (by decide) rfl),rfl,rfl⟩
 intro ab ej
 refine zX Z Z Z (zC Z Z (congrArg nA (nB.2 ab.out))) (fun _=>zU Z bF zm Z zS) (zx Z Z Z (zC Z Z (congrArg nA (nB.2 ab.out))) (bo.ldB (j:=0) Z Z Z zY (v:=.slice bf p0.Down.length bh) Z) Z (zW Z Z Z (zC Z Z (congrArg nA (nB.2 ab.out))) Z bm (bnK ej fun x57 bZ en=>?_)))
 have da:=dI.le bN
 have db:=da.le cx
 have q:=db.el (fun _=>rfl) (wAN bZ)
 obtain ⟨ff,fu,dq,dz⟩:=q
 refine zX Z Z Z (zC Z Z (congrArg nA (nB.2 ab.out))) (fun _=>zu Z Z dq Z zA zN (wBP bZ)) (zx Z Z Z (zC Z Z (congrArg nA (nB.2 ab.out))) (bo.ldC (f:=0) dz (v:=jV x57) Z Z zQ Z) Z (bnK en fun fE de eu=>zK 0 Z Z Z (zC Z Z (congrArg nA (nB.2 ab.out))) (zJ Z Z Tryz.call45 (zB Z (zB Z (zB Z zP))) Z) bo (fun hs=>wAn x57 0 5 bU bu hs de) (.inr Z) ?_))
 rintro bv eS fB cE eF dF ⟨rfl,rfl⟩
 have b8:sW w U bv [.blk b2 34 B0] cE:=dF
 refine oR Z (zM Z (congrArg nA (nB.2 ab.out)) Z) (eN (ifc eu ?_ ?_))
 intro bC ey
 refine zt (congrArg nA bC.out) (sR fL1 Z (oA Z Z (eN (zI (zV (zH ?_))))))
 have q:=wAI ey
 obtain ⟨eO,ez,cO⟩:=q
 have q:=wBI br bp (cf eO cO)
 obtain rfl:=q
 refine zH (zV (zH ?_))
 cases ez
 exact ⟨rfl,_,(zn rfl),bv,_,(b8.pick [] _ (by decide) rfl),rfl,rfl⟩
 intro bC eA
 refine zp (congrArg nA (nB.2 bC.out)) (ZG (zj (zG (rR fL3 Z (oM Z bm (oR Z (ZB (zo Z Z Z) (congrArg (jV) dL.out)) (oA Z Z (zq ?_))))))))
 have q:=nD eA
 obtain rfl:=q
 exact zG ⟨Z,_,Z,⟨bv,Z,bF,bW,((bN.trans cx).trans eF),b8⟩⟩
 rintro ⟨⟩ fM eW ⟨bQ,cQ,cP,bX,cy,dG⟩ dJ
 have cq:=wCR br bp dJ
 try dsimp only at cq
 have cG:Hid (¬ ((↑(((↑p0.Shots.length:Int):Int) - 0).toNat:Int) < (↑p0.Shots.length:Int))):=zE (wBO)
 refine zD (sR fL3 Z (oM Z cQ (oM Z bX (oR Z (ze Z Z Z) (eN (cF Z cG (ZC (zh (zh (zy (zG (zD (sR fL1 Z (oA Z Z (eN (zd (CK.iter (fun bP σ_ w_=>∃ (U_:PHeap),σ_ 1=.pointer (some ⟨b2,0,none⟩)/\σ_ 3=jV (↑p0.Shots.length:Int)/\σ_ 5=jV bP/\PHeap.Le bQ U_/\sW w U U_ [.blk b2 34 B0] w_) cq ?_ ?_)))))))))))))))))
 exact ⟨bQ,cP,bX,Z,(zZ _),dG⟩
 rintro bP fJ fN eX ⟨bj,bl,bD,bE,bM,aZ⟩ cr bq
 refine zD (sR fL5 Z (oM Z bE (oR Z (zU Z bl zm Z Zc) (oL Z (aZ.ldB (j:=0) Z Z Z Zm (v:=.slice ap p0.Across.length aq) Z) (oR Z (zi Z Z ZU) (oR Z (ze Z Z Z) (eN ?_)))))))
 by_cases aS:bP < (↑p0.Across.length:Int)
 have cg:=cr;rw [if_pos aS] at cg;replace aS:=zE aS
 refine cT Z aS (kN (zD (zd (sR (wKJ gAj) Z (oR Z (zU Z bl zm Z Zc) (oL Z (aZ.ldB (j:=0) Z Z Z Zm (v:=.slice ap p0.Across.length aq) Z) (oM Z bE (bnK cg fun au bG dN=>?_))))))))
 have cR:=b9.le cy
 have cS:=cR.le bM
 have q:=cS.el (fun _=>rfl) (wAN bG)
 obtain ⟨eY,fg,df,dr⟩:=q
 refine oR Z (Zn Z Z df Z ZU Zk (wDH bG) (wDK bG)) (oL Z (aZ.ldCA (f:=0) dr Z Z Tryz.isAgg95 Zk (us:=[jV au.Skier,jV au.Lane]) Z Z) (ZE (cs:=[jV 0,jV 0]) Z Z Z Z Z Tryz.zeroValue95 Z aZ ?_))
 intro eU bw dA
 let B1:List Value:=[jV au.Skier,jV au.Lane]
 refine Zg (j:=0) (vs:=B1) Z Z Z Z dA Z Z Z Z Zk (zg Z) Z Z Z ?_
 intro bR dB
 have b5:sW w U bj [.blk bw 95 B1,.blk b2 34 B0] bR:=dB
 refine eN (sR (wIf (.fx 4 (wQn (.fx 10 (wQp (.nil)) .stop)) .stop)) Z (oR Z (zU Z Z Zb Z zN) (oL Z (b5.ldB (j:=0) Z Z Z zQ (v:=jV au.Skier) Z) (oM Z bD (oR Z (ZY Z Z Z) (bnK dN fun fC cU dO=>zK 0 Z Z Z Z (zJ Z Z Tryz.call45 (zB Z (zB Z (zB Z zP))) Z) b5 (fun hs=>wAn au.Skier 0 (w64 ((↑p0.Shots.length:Int) - 1)) bR bj hs cU) (.inr Z) ?_))))))
 rintro bs eP fy bS eD dC ⟨rfl,rfl⟩
 have bH:sW w U bs [.blk bw 95 B1,.blk b2 34 B0] bS:=dC
 refine oM Z Z (ifc dO ?_ ?_)
 intro ae dP
 refine zL Z Z Z (zF Z Z (congrArg nA ae.out) Z) (zL Z Z Z (zF Z Z (congrArg nA ae.out) Z) (zL Z Z Z (zF Z Z (congrArg nA ae.out) Z) (zL Z Z Z (zF Z Z (congrArg nA ae.out) Z) (ZF Z Z Z (zF Z Z (congrArg nA ae.out) Z) (oR Z (zR Z (congrArg nA ae.out) Z) (oM Z Z (oN Z (oN Z (oN Z (oN Z (oN Z (oR Z (zR Z Z Z) (eN (zt Z (sR fL1 Z (oA Z Z (eN (zI (zV (zH ?_))))))))))))))))))))
 have q:=wAI dP
 obtain ⟨eG,dQ,cH⟩:=q
 have q:=bq eG cH
 obtain rfl:=q
 refine zH (zV (zH ?_))
 cases dQ
 exact ⟨rfl,_,(zn rfl),bs,_,(bH.pick [] _ (by decide) rfl),rfl,rfl⟩
 intro ae dR
 refine zX Z Z Z (zC Z Z (congrArg nA (nB.2 ae.out))) (fun _=>zU Z Z Zb Z zN) (zx Z Z Z (zC Z Z (congrArg nA (nB.2 ae.out))) (bH.ldB (j:=0) Z Z Z zQ (v:=jV au.Lane) Z) Z (zW Z Z Z (zC Z Z (congrArg nA (nB.2 ae.out))) Z bD (zX Z Z Z (zC Z Z (congrArg nA (nB.2 ae.out))) (fun _=>ZY Z Z Z) (bnK dR fun fD cV dS=>zK 0 Z Z Z (zC Z Z (congrArg nA (nB.2 ae.out))) (zJ Z Z Tryz.call45 (zB Z (zB Z (zB Z zP))) Z) bH (fun hs=>wAn au.Lane 0 (w64 ((↑p0.Shots.length:Int) - 1)) bS bs hs cV) (.inr Z) ?_))))
 rintro bk eQ fz cC eE dD ⟨rfl,rfl⟩
 have ba:sW w U bk [.blk bw 95 B1,.blk b2 34 B0] cC:=dD
 refine oR Z (zM Z (congrArg nA (nB.2 ae.out)) Z) (oM Z Z (ifc dS ?_ ?_))
 intro ah dT
 refine zL Z Z Z (zF Z Z (congrArg nA ah.out) Z) (zL Z Z Z (zF Z Z (congrArg nA ah.out) Z) (zL Z Z Z (zF Z Z (congrArg nA ah.out) Z) (zL Z Z Z (zF Z Z (congrArg nA ah.out) Z) (zL Z Z Z (zF Z Z (congrArg nA ah.out) Z) (oR Z (zR Z (congrArg nA ah.out) Z) (eN (zt Z (sR fL1 Z (oA Z Z (eN (zI (zV (zH ?_)))))))))))))
 have q:=wAI dT
 obtain ⟨eH,dU,cI⟩:=q
 have q:=bq eH cI
 obtain rfl:=q
 refine zH (zV (zH ?_))
 cases dU
 exact ⟨rfl,_,(zn rfl),bk,_,(ba.pick [] _ (by decide) rfl),rfl,rfl⟩
 intro ah dV
 refine zX Z Z Z (zC Z Z (congrArg nA (nB.2 ah.out))) (fun _=>zU Z Z Zb Z zN) (zx Z Z Z (zC Z Z (congrArg nA (nB.2 ah.out))) (ba.ldB (j:=0) Z Z Z zQ (v:=jV au.Skier) Z) Z (zX Z Z Z (zC Z Z (congrArg nA (nB.2 ah.out))) (fun _=>zU Z Z Zb Z zN) (zx Z Z Z (zC Z Z (congrArg nA (nB.2 ah.out))) (ba.ldB (j:=0) Z Z Z zQ (v:=jV au.Lane) Z) Z (zX Z Z Z (zC Z Z (congrArg nA (nB.2 ah.out))) (fun _=>Ze Z Z Z) (oR Z (zM Z (congrArg nA (nB.2 ah.out)) Z) (eN (ifc dV ?_ ?_)))))))
 intro bA dW
 refine cT Z bA (sR fL1 Z (oA Z Z (eN (zI (zV (zH ?_))))))
 have q:=wAI dW
 obtain ⟨eI,dX,cJ⟩:=q
 have q:=bq eI cJ
 obtain rfl:=q
 refine zH (zV (zH ?_))
 cases dX
 exact ⟨rfl,_,(zn rfl),bk,_,(ba.pick [] _ (by decide) rfl),rfl,rfl⟩
 intro bA dY
 refine cF Z bA (ZG (zj (zG (rR fL3 Z (oM Z bE (oR Z (zo Z Z Z) (oA Z Z (zq ?_))))))))
 have q:=nD dY
 obtain rfl:=q
 exact zG ⟨rfl,_,rfl,⟨bk,bl,bD,rfl,((bM.trans eD).trans eE),(ba.pick [1] _ (by decide) rfl)⟩⟩
 have ci:=cr;rw [if_neg aS] at ci;replace aS:=zE aS
 refine cF Z aS (ZC (zh ?_))
 have q:=wAI ci
 obtain ⟨eJ,dZ,cK⟩:=q
 have q:=bq eJ cK
 obtain rfl:=q
 refine zh (zy (zG (zD (sR fL1 Z (oA Z Z (eN (zd (CK.iter (fun bO σ_ w_=>∃ (U_:PHeap),σ_ 1=.pointer (some ⟨b2,0,none⟩)/\σ_ 7=jV bO/\PHeap.Le bj U_/\sW w U U_ [.blk b2 34 B0] w_) dZ ?_ ?_))))))))
 exact ⟨bj,bl,Z,(zZ _),aZ⟩
 rintro bO fG fK bT ⟨bt,aU,aV,cw,bI⟩ ct cd
 refine zD (sR fL5 Z (oM Z aV (oR Z (zU Z aU zm Z Zc) (oL Z (bI.ldB (j:=0) Z Z Z Zm (v:=.slice ap p0.Across.length aq) Z) (oR Z (zi Z Z ZU) (oR Z (ze Z Z Z) (eN ?_)))))))
 by_cases aT:bO < (↑p0.Across.length:Int)
 have cj:=ct;rw [if_pos aT] at cj;replace aT:=zE aT
 refine cT Z aT (kN (zD (zd (zD (ZP ZL [3,1,3,3,3,1,3,3,1,3,3,3,1,3,3,1,3,3,3,3,1,3,3,1,3,3,3,3,1,3,3] fL31 (by kernel_rfl) ?_)))))
 have am:=bI.drew
 generalize hw_W190:({ bT with drawn:=bT.drawn + 1 }:World)=eV at am ⊢
 refine oR Z (zU Z aU zm Z Zc) (oL Z (am.ldB (j:=0) Z Z Z Zm (v:=.slice ap p0.Across.length aq) Z) (oM Z aV (bnK cj fun cz aW d4=>?_)))
 have cW:=b9.le cy
 have cX:=cW.le bM
 have bn:=cX.le cw
 have q:=bn.el (fun _=>rfl) (wAN aW)
 obtain ⟨eZ,fh,dg,dt⟩:=q
 refine oR Z (Zn Z Z dg Z ZU Zk (wDH aW) (wDK aW)) (oR Z (zU Z Z Zb Z zN) (oL Z (am.ldC (f:=0) dt (v:=jV cz.Skier) Z Z zQ Z) (oR Z (Runs.mulw Z Z Z) (oR Z (zU Z aU zm Z Zc) (oL Z (am.ldB (j:=0) Z Z Z Zm (v:=.slice ap p0.Across.length aq) Z) (oM Z aV ?_))))))
 have q:=bn.el (fun _=>rfl) (wAN aW)
 obtain ⟨fb,fj,dh,du⟩:=q
 refine oR Z (Zn Z Z dh Z ZU Zk (wDH aW) (wDK aW)) (oR Z (zU Z Z Zb Z zN) (oL Z (am.ldC (f:=1) du (v:=jV cz.Lane) Z Z zQ Z) (oR Z (zo Z Z Z) (oR Z (zU Z aU zm Z Zc) (oL Z (am.ldB (j:=0) Z Z Z Zm (v:=.slice ap p0.Across.length aq) Z) (oM Z aV (oR Z (ZY Z Z Z) (bnK d4 fun cA aX d5=>?_))))))))
 have q:=bn.el (fun _=>rfl) (wAN aX)
 obtain ⟨fc,fm,dk,dw⟩:=q
 refine oR Z (Zn Z Z dk Z ZU Zk (wDH aX) (wDK aX)) (oR Z (zU Z Z Zb Z zN) (oL Z (am.ldC (f:=0) dw (v:=jV cA.Skier) Z Z zQ Z) (oR Z (Runs.mulw Z Z Z) (oR Z (zU Z aU zm Z Zc) (oL Z (am.ldB (j:=0) Z Z Z Zm (v:=.slice ap p0.Across.length aq) Z) (oM Z aV (oR Z (ZY Z Z Z) ?_)))))))
 have q:=bn.el (fun _=>rfl) (wAN aX)
 obtain ⟨fd,fq,dm,dx⟩:=q
 refine oR Z (Zn Z Z dm Z ZU Zk (wDH aX) (wDK aX)) (oR Z (zU Z Z Zb Z zN) (oL Z (am.ldC (f:=1) dx (v:=jV cA.Lane) Z Z zQ Z) (oR Z (zo Z Z Z) (oR Z (Runs.leq Z Z Z) (eN (ifc d5 ?_ ?_))))))
 intro bB d6
 refine cT Z bB (sR fL1 Z (oA Z Z (eN (zI (zV (zH ?_))))))
 have q:=wAI d6
 obtain ⟨eK,d7,cL⟩:=q
 have q:=cd eK cL
 obtain rfl:=q
 refine zH (zV (zH ?_))
 cases d7
 exact ⟨rfl,_,(zn rfl),bt,_,(am.pick [] _ (by decide) rfl),rfl,rfl⟩
 intro bB d8
 refine cF Z bB (ZG (zj (zG (rR fL3 Z (oM Z aV (oR Z (zo Z Z Z) (oA Z Z (zq ?_))))))))
 have q:=nD d8
 obtain rfl:=q
 exact zG ⟨Z,_,Z,⟨bt,aU,Z,cw,am⟩⟩
 have cm:=ct;rw [if_neg aT] at cm;replace aT:=zE aT
 refine cF Z aT (ZC (zh ?_))
 have q:=wAI cm
 obtain ⟨eL,d9,cM⟩:=q
 have q:=cd eL cM
 obtain rfl:=q
 refine zh (zy (zG (sR fL1 Z (oA Z Z (eN (zI ?_))))))
 cases d9
 exact ⟨rfl,_,(zn rfl),bt,_,(bI.pick [] _ (by decide) rfl),rfl,rfl⟩
 intro bz eb
 refine cT Z bz (sR fL1 Z (oA Z Z (eN (zI (zH ?_)))))
 cases eb
 exact ⟨rfl,_,(zn rfl),U,_,(aY.pick [] _ (by decide) rfl),rfl,rfl⟩
end Go.Proofs.YtfcmijinklojbaaGreat
namespace Go.Proofs.YtfcmijinklojbaaGreat
open Go.KL
set_option maxHeartbeats 4000000
theorem wCI (p0:Int) (p1:Int) (p2:Int) (w:World) (U:PHeap) (hS:St0 w U [])  {r:Bool} (hm:wBD p0 p1 p2=some r):Gv Tryz.prog 46 [jV p0,jV p1,jV p2] w (wCb w [] U (fun U_ L_ v=>v=.bool r/\L_=[])):=by
 unfold wBD at hm
 refine Gv.of Tryz.func46 Z Tryz.ntmps46 Tryz.results46 Z (sR fL1 Z (oA Z Z (eN (sR fL9 Z (oM Z Z (oM Z Z (oR Z (Runs.geq Z Z Z) (oM Z Z ?_))))))))
 by_cases c1:p1 <= p0
 have ab:=hm;rw [if_pos c1] at ab;replace c1:=zE c1
 refine zW Z Z Z (wT Z c1) Z Z (zW Z Z Z (wT Z c1) Z Z (rU Z (wT Z c1) (Runs.leq Z Z Z) (oR Z (zR Z (ZX c1.out) Z) (oA Z Z (eN (zI ?_))))))
 first | (obtain rfl:=nD ab) | cases ab
 exact ⟨Z,_,(zn Z),U,_,hS,Z,Z⟩
 have ai:=hm;rw [if_neg c1] at ai;replace c1:=zE c1
 refine oF Z c1 (oF Z c1 (oF Z c1 (oR Z (zM Z (zk c1.out) Z) (oA Z Z (eN (zI ?_))))))
 have hE:=nD ai;first | subst r | cases hE
 exact ⟨Z,_,(zn Z),U,_,hS,Z,Z⟩
theorem wFg (p0:Int) (p1:(Int->Option Bool)) (ai:Nat) (ab:Value) (w:World) (U:PHeap) (hS:St0 w U []) (aq:Cl U ai 0 [ab]) (au:FnOK Tryz.prog U ab wJx wLQ p1) {r:Bool} (hm:wBg p0 p1=some r):Gv Tryz.prog 92 [jV p0,.pointer (some ⟨ai,0,none⟩)] w (wCb w [] U (fun U_ L_ v=>v=.bool r/\L_=[])):=by
 unfold wBg at hm
 refine Gv.of Tryz.func92 Z Tryz.ntmps92 Tryz.results92 Z (sR fL1 Z (oA Z Z (eN (sR gAt Z (oL Z (hS.ldC (f:=0) aq (v:=ab) Z Z Tryz.isAgg98 Z) (oM Z Z (bnK hm fun x1 h2 az=>OKS.callV (a:=p0) Z Z Z Z Z Z (zB Z zP) hS au Z h2 ?_)))))))
 rintro U4 L5 v6 W7 aT ap ⟨rfl,rfl⟩
 have am:sW w U U4 [] W7:=ap
 refine oR Z (ZQ Z Z) (oA Z Z (eN (zI ?_)))
 cases az
 exact ⟨Z,_,(zn Z),U4,_,am,Z,Z⟩
theorem wDY (p0:List Int) (aq:Option Addr) (au:Nat) (p1:(Int->Option Bool)) (az:Value) (w:World) (U:PHeap) (hS:St0 w U []) (br:Sl U 1 aq au p0.length (hH KL.encI p0)) (bs:FnOK Tryz.prog U az wJx wLQ p1) {r:Int} (hm:wAt p0 p1=some r):Gv Tryz.prog 114 [.slice aq p0.length au,az] w (wCb w [] U (fun U_ L_ v=>v=jV r/\L_=[])):=by
 unfold wAt at hm
 refine Gv.of Tryz.func114 Z Tryz.ntmps114 Tryz.results114 Z (sR fL1 Z (oA Z Z (eN (zD (sR fL3 Z (oM Z Z (oR Z (zi Z Z zA) (oM Z Z (eN (zd ?_))))))))))
 have q:=wBp hm
 obtain ⟨r3,aj⟩:=q
 have q:=wCA aj
 obtain ⟨am,bv⟩:=q
 replace am:=zE am
 refine Zf (fun k2 _ σ_ w_=>∃ (U_:PHeap),σ_ 8=jV (↑k2:Int)/\σ_ 0=.slice aq p0.length au/\σ_ 1=az/\σ_ 7=jV (↑p0.length:Int)/\PHeap.Le U U_/\sW w U U_ [] w_) bv ?_ ?_ ?_
 exact ⟨U,Z,Z,Z,Z,(zZ _),hS⟩
 rintro k2 ⟨⟩ bR bT W8 ak ⟨bH,ai,aT,aU,aV,ap,aX⟩ ba bt
 try dsimp only at ba
 have aS:Hid ((↑k2:Int) < (↑p0.length:Int)):=zE (wBz ak)
 replace ak:=zE ak
 have bw:Hid (w64 ((↑k2:Int) + 1)=(↑(k2 + 1):Int)):=zE (by have h1:=am.out;have h2:=aS.out;rw [wAO] <;> omega)
 refine sR fL1 Z (oR Z (ze Z ai aV) (eN (zD (cT Z aS (kN (zD (zd (sR fL2 Z (oM Z ai (oA Z Z (eN (sR (wKJ (.fx 5 .nil .stop)) Z (oM Z aU (oM Z aT (oM Z Z (bnK ba fun x22 aW bz=>?_))))))))))))))))
 have bk:=br.le ap
 have q:=bk.el (fun _=>rfl) (wAN aW)
 obtain ⟨bK,bO,bn,bo⟩:=q
 refine oR Z (zu Z Z bn Z zA zN (wBP aW)) (oL Z (aX.ldC (f:=0) bo (v:=jV x22) Z Z zQ Z) (bnK bz fun x30 bl bA=>?_))
 have bm:=bs.le ap
 refine OKS.callV (a:=x22) Z Z Z Z Z Z (zB Z zP) aX bm Z bl ?_
 rintro ae bG bQ bf bE bp ⟨rfl,rfl⟩
 have aY:sW w U ae [] bf:=bp
 refine eN (ifc bA ?_ ?_)
 intro ah bB
 refine zt (congrArg nA ah.out) (sR fL2 Z (oM Z Z (oA Z Z (eN (zI (zV (zH ?_)))))))
 have q:=wAI bB
 obtain ⟨bF,bC,bh⟩:=q
 have q:=wBI hm aj (bt bF bh)
 obtain rfl:=q
 refine zH (zV (zH ?_))
 cases bC
 exact ⟨Z,_,(zn Z),ae,_,aY,Z,Z⟩
 intro ah bD
 refine zp (congrArg nA (nB.2 ah.out)) (ZG (zj (zG (rR fL2 Z (oR Z (ZB (zo Z ai Z) (congrArg (jV) bw.out)) (oM Z Z (zq ?_)))))))
 have q:=nD bD
 obtain rfl:=q
 exact zG ⟨Z,_,Z,⟨ae,Z,aT,aU,aV,(ap.trans bE),aY⟩⟩
 rintro ⟨⟩ bS bI ⟨be,bj,bL,bM,bi,bN,bq⟩ bu
 have aZ:=wCR hm aj bu
 try dsimp only at aZ
 have bg:Hid (¬ ((↑(((↑p0.length:Int):Int) - 0).toNat:Int) < (↑p0.length:Int))):=zE (wBO)
 refine sR fL1 Z (oR Z (ze Z bj bi) (eN (zD (cF Z bg (ZC (zh (zh (zy (zG (sR fL1 Z (oA Z Z (eN (zI ?_)))))))))))))
 cases aZ
 exact ⟨Z,_,(zn Z),be,_,bq,Z,Z⟩
theorem wCO (p0:List Int) (ae:Option Addr) (ah:Nat) (p1:(Int->Option Bool)) (ai:Value) (w:World) (U:PHeap) (hS:St0 w U []) (az:Sl U 1 ae ah p0.length (hH KL.encI p0)) (aS:FnOK Tryz.prog U ai wJx wLQ p1) {r:Bool} (hm:wAR p0 p1=some r):Gv Tryz.prog 91 [.slice ae p0.length ah,ai] w (wCb w [] U (fun U_ L_ v=>v=.bool r/\L_=[])):=by
 unfold wAR at hm
 refine Gv.of Tryz.func91 Z Tryz.ntmps91 Tryz.results91 Z (sR fL1 Z (oA Z Z (eN (sR gAt Z (oM Z Z (oM Z Z (bnK hm fun x1 h2 ak=>zK 0 Z Z Z Z (zJ Z Z Tryz.call114 (zB Z (zB Z zP)) Z) hS (fun hs=>wDY p0 ae ah p1 ai w U hs az aS h2) (.inr Z) ?_)))))))
 rintro U4 L5 v6 W7 aU au ⟨rfl,rfl⟩
 have aq:sW w U U4 [] W7:=au
 refine oR Z (Runs.geq Z Z Z) (oA Z Z (eN (zI ?_)))
 first | (obtain rfl:=nD ak) | cases ak
 exact ⟨Z,_,(zn Z),U4,_,aq,Z,Z⟩
theorem wBk (p0:List Int) (ak:Option Addr) (am:Nat) (p1:(Int->Option Bool)) (ai:Value) (w:World) (U:PHeap) (hS:St0 w U []) (bf:Sl U 1 ak am p0.length (hH KL.encI p0)) (au:FnOK Tryz.prog U ai wJx wLQ p1) {r:Bool} (hm:wAd p0 p1=some r):Gv Tryz.prog 47 [.slice ak p0.length am,ai] w (wCb w [] U (fun U_ L_ v=>v=.bool r/\L_=[])):=by
 unfold wAd at hm
 refine Gv.of Tryz.func47 Z Tryz.ntmps47 Tryz.results47 Z (sR gAg Z (ZI (cs:=[ai]) Z Z Z Z Z Z (FnOK.cells au) hS ?_))
 intro W1 b2 ba
 have q:=ba.freeze (k:=0) rfl
 obtain ⟨U5,az,ab,bb⟩:=q
 replace ab:=Cl.of ab
 have be:sW w U U5 [] W1:=bb
 replace ab:Cl U5 b2 0 [ai]:=ab
 refine oA Z Z (eN (sR gAt Z (oM Z Z (oR Z (Runs.mkf Z zP (zB Z zP)) ?_))))
 have aU:=bf.le az
 have aV:=au.le az
 have aX:FnOK Tryz.prog U5 (.func (.func 92) #[] #[.pointer (some ⟨b2,0,none⟩)]) wJx wLQ (fun x=>wBg x p1):=⟨92,[],[.pointer (some ⟨b2,0,none⟩)],rfl,Tryz.call92,fun U1 w1 x y vs le hs ha hm=>by obtain rfl:=ha;exact wFg x p1 b2 ai w1 U1 hs (ab.le le) (aV.le le) hm⟩
 refine bnK hm fun bl aW bg=>zK 0 Z Z Z Z (zJ Z Z Tryz.call91 (zB Z (zB Z zP)) Z) be (fun hs=>wCO p0 ak am (fun x=>wBg x p1) (.func (.func 92) #[] #[.pointer (some ⟨b2,0,none⟩)]) W1 U5 hs aU aX aW) (.inr Z) ?_
 rintro ap bi bk aT bj aY ⟨rfl,rfl⟩
 have aZ:sW w U ap [] aT:=aY
 refine oR Z (ZQ Z Z) (oA Z Z (eN (zI ?_)))
 cases bg
 exact ⟨Z,_,(zn Z),ap,_,aZ,Z,Z⟩
theorem wGN (p0:Int) (w:World) (U:PHeap) (hS:St0 w U [])  {r:Bool} (hm:wBF p0=some r):Gv Tryz.prog 48 [jV p0] w (wCb w [] U (fun U_ L_ v=>v=.bool r/\L_=[])):=by
 unfold wBF at hm
 refine Gv.of Tryz.func48 Z Tryz.ntmps48 Tryz.results48 Z (sR fL1 Z (oA Z Z (eN (sR gAm Z (oM Z Z (bnK hm fun x1 h2 ak=>zK 0 Z Z Z Z (zJ Z Z Tryz.call46 (zB Z (zB Z (zB Z zP))) Z) hS (fun hs=>wCI p0 0 8 w U hs h2) (.inr Z) ?_))))))
 rintro U4 L5 v6 W7 ap aj ⟨rfl,rfl⟩
 have ai:sW w U U4 [] W7:=aj
 refine oA Z Z (eN (zI ?_))
 have hE:=nD ak;first | subst r | cases hE
 exact ⟨Z,_,(zn Z),U4,_,ai,Z,Z⟩
theorem wGO (p0:Int) (w:World) (U:PHeap) (hS:St0 w U [])  {r:Bool} (hm:wBG p0=some r):Gv Tryz.prog 49 [jV p0] w (wCb w [] U (fun U_ L_ v=>v=.bool r/\L_=[])):=by
 unfold wBG at hm
 refine Gv.of Tryz.func49 Z Tryz.ntmps49 Tryz.results49 Z (sR fL1 Z (oA Z Z (eN (sR gAm Z (oM Z Z (bnK hm fun x1 h2 ak=>zK 0 Z Z Z Z (zJ Z Z Tryz.call46 (zB Z (zB Z (zB Z zP))) Z) hS (fun hs=>wCI p0 0 5 w U hs h2) (.inr Z) ?_))))))
 rintro U4 L5 v6 W7 ap aj ⟨rfl,rfl⟩
 have ai:sW w U U4 [] W7:=aj
 refine oA Z Z (eN (zI ?_))
 have hE:=nD ak;first | subst r | cases hE
 exact ⟨Z,_,(zn Z),U4,_,ai,Z,Z⟩
theorem wGP (p0:wAC) (p1:Int) (aU:Nat) (w:World) (U:PHeap) (hS:St0 w U []) (aS:Cl U aU 0 [jV p1]) {r:Bool} (hm:wBH p0 p1=some r):Gv Tryz.prog 51 [.agg #[jV p0.Skier,jV p0.Lane],.pointer (some ⟨aU,0,none⟩)] w (wCb w [] U (fun U_ L_ v=>v=.bool r/\L_=[])):=by
 unfold wBH at hm
 refine Gv.of Tryz.func51 Z Tryz.ntmps51 Tryz.results51 Z (sR gAg Z ?_)
 let B0:List Value:=[jV p0.Skier,jV p0.Lane]
 refine ZI (cs:=B0) rfl rfl rfl rfl rfl rfl (by rfl) hS ?_
 intro W1 b2 aq
 refine oA Z Z (eN (sR (wIf (.fx 4 (wQn (.fx 10 (wQq (.nil)) .stop)) .stop)) Z (oR Z (zU Z Z ZV Z zN) (oL Z (aq.ldB (j:=0) Z Z Z zQ (v:=jV p0.Skier) Z) (oL Z (aq.ldC (f:=0) aS (v:=jV p1) Z Z zQ Z) (oR Z (ZY Z Z Z) (bnK hm fun x5 h6 bi=>zK 0 Z Z Z Z (zJ Z Z Tryz.call46 (zB Z (zB Z (zB Z zP))) Z) aq (fun hs=>wCI p0.Skier 0 (w64 (p1 - 1)) W1 U hs h6) (.inr Z) ?_)))))))
 rintro U8 L9 bn au bj ba ⟨rfl,rfl⟩
 have ai:sW w U U8 [.blk b2 59 B0] au:=ba
 refine oM Z Z (ifc bi ?_ ?_)
 intro aa be
 refine zX Z Z Z (zC Z Z (congrArg nA aa.out)) (fun _=>zU Z Z ZV Z zN) (zx Z Z Z (zC Z Z (congrArg nA aa.out)) (ai.ldB (j:=0) Z Z Z zQ (v:=jV p0.Lane) Z) Z ?_)
 have aX:=aS.le bj
 refine zx Z Z Z (zC Z Z (congrArg nA aa.out)) (ai.ldC (f:=0) aX (v:=jV p1) Z Z zQ Z) Z (zX Z Z Z (zC Z Z (congrArg nA aa.out)) (fun _=>ZY Z Z Z) (bnK be fun bp aY bf=>zK 0 Z Z Z (zC Z Z (congrArg nA aa.out)) (zJ Z Z Tryz.call46 (zB Z (zB Z (zB Z zP))) Z) ai (fun hs=>wCI p0.Lane 0 (w64 (p1 - 1)) au U8 hs aY) (.inr Z) ?_))
 rintro am bk bo aW bm bb ⟨rfl,rfl⟩
 have aj:sW w U am [.blk b2 59 B0] aW:=bb
 refine oR Z (zR Z (congrArg nA aa.out) Z) (oM Z Z (ifc bf ?_ ?_))
 intro ab aT
 refine zX Z Z Z (zC Z Z (congrArg nA ab.out)) (fun _=>zU Z Z ZV Z zN) (zx Z Z Z (zC Z Z (congrArg nA ab.out)) (aj.ldB (j:=0) Z Z Z zQ (v:=jV p0.Skier) Z) Z (zX Z Z Z (zC Z Z (congrArg nA ab.out)) (fun _=>zU Z Z ZV Z zN) (zx Z Z Z (zC Z Z (congrArg nA ab.out)) (aj.ldB (j:=0) Z Z Z zQ (v:=jV p0.Lane) Z) Z (zX Z Z Z (zC Z Z (congrArg nA ab.out)) (fun _=>zw Z Z Z) (oR Z (zR Z (congrArg nA ab.out) Z) (oA Z Z (eN (zI ?_))))))))
 first | (obtain rfl:=nD aT) | cases aT
 exact ⟨rfl,_,(zn rfl),am,_,(aj.pick [] _ (by decide) rfl),rfl,rfl⟩
 intro ab bg
 refine zL Z Z Z (zF Z Z (congrArg nA (nB.2 ab.out)) Z) (zL Z Z Z (zF Z Z (congrArg nA (nB.2 ab.out)) Z) (zL Z Z Z (zF Z Z (congrArg nA (nB.2 ab.out)) Z) (zL Z Z Z (zF Z Z (congrArg nA (nB.2 ab.out)) Z) (zL Z Z Z (zF Z Z (congrArg nA (nB.2 ab.out)) Z) (oR Z (zM Z (congrArg nA (nB.2 ab.out)) Z) (oA Z Z (eN (zI ?_))))))))
 have hE:=nD bg;first | subst r | cases hE
 exact ⟨rfl,_,(zn rfl),am,_,(aj.pick [] _ (by decide) rfl),rfl,rfl⟩
 intro aa bh
 refine zL Z Z Z (zF Z Z (congrArg nA (nB.2 aa.out)) Z) (zL Z Z Z (zF Z Z (congrArg nA (nB.2 aa.out)) Z) (zL Z Z Z (zF Z Z (congrArg nA (nB.2 aa.out)) Z) (zL Z Z Z (zF Z Z (congrArg nA (nB.2 aa.out)) Z) (ZF Z Z Z (zF Z Z (congrArg nA (nB.2 aa.out)) Z) (oR Z (zM Z (congrArg nA (nB.2 aa.out)) Z) (oM Z Z (oN Z (oN Z (oN Z (oN Z (oN Z (oR Z (zM Z Z Z) (oA Z Z (eN (zI ?_)))))))))))))))
 have hE:=nD bh;first | subst r | cases hE
 exact ⟨rfl,_,(zn rfl),U8,_,(ai.pick [] _ (by decide) rfl),rfl,rfl⟩
theorem wDZ (p0:wAC) (p1:(wAC->Option Bool)) (ak:Nat) (ah:Value) (w:World) (U:PHeap) (hS:St0 w U []) (aS:Cl U ak 0 [ah]) (aT:FnOK Tryz.prog U ah wQz wRA p1) {r:Bool} (hm:wAh p0 p1=some r):Gv Tryz.prog 94 [.agg #[jV p0.Skier,jV p0.Lane],.pointer (some ⟨ak,0,none⟩)] w (wCb w [] U (fun U_ L_ v=>v=.bool r/\L_=[])):=by
 unfold wAh at hm
 refine Gv.of Tryz.func94 Z Tryz.ntmps94 Tryz.results94 Z (sR gAg Z ?_)
 let B0:List Value:=[jV p0.Skier,jV p0.Lane]
 refine ZI (cs:=B0) rfl rfl rfl rfl rfl rfl (by rfl) hS ?_
 intro W1 b2 ae
 refine oA Z Z (eN (sR gAt Z (oL Z (ae.ldC (f:=0) aS (v:=ah) Z Z Tryz.isAgg64 Z) (oL Z (ae.ldBA (j:=0) Z Z Z Zl ZM (vs:=B0) Z Z) (bnK hm fun x5 h6 aU=>OKS.callV (a:=p0) Z Z Z Z Z Z (zB Z zP) ae aT Z h6 ?_)))))
 rintro U8 L9 aY am aX au ⟨rfl,rfl⟩
 have az:sW w U U8 [.blk b2 59 B0] am:=au
 refine oR Z (ZQ Z Z) (oA Z Z (eN (zI ?_)))
 cases aU
 exact ⟨rfl,_,(zn rfl),U8,_,(az.pick [] _ (by decide) rfl),rfl,rfl⟩
theorem wCP (p0:List wAC) (aq:Option Addr) (au:Nat) (p1:(wAC->Option Bool)) (az:Value) (w:World) (U:PHeap) (hS:St0 w U []) (br:Sl U 2 aq au p0.length (hH wAA p0)) (bs:FnOK Tryz.prog U az wQz wRA p1) {r:Int} (hm:wAT p0 p1=some r):Gv Tryz.prog 74 [.slice aq p0.length au,az] w (wCb w [] U (fun U_ L_ v=>v=jV r/\L_=[])):=by
 unfold wAT at hm
 refine Gv.of Tryz.func74 Z Tryz.ntmps74 Tryz.results74 Z (sR fL1 Z (oA Z Z (eN (zD (sR fL3 Z (oM Z Z (oR Z (zi Z Z ZA) (oM Z Z (eN (zd ?_))))))))))
 have q:=wBp hm
 obtain ⟨r3,aj⟩:=q
 have q:=wCA aj
 obtain ⟨am,bv⟩:=q
 replace am:=zE am
 refine Zf (fun k2 _ σ_ w_=>∃ (U_:PHeap),σ_ 8=jV (↑k2:Int)/\σ_ 0=.slice aq p0.length au/\σ_ 1=az/\σ_ 7=jV (↑p0.length:Int)/\PHeap.Le U U_/\sW w U U_ [] w_) bv ?_ ?_ ?_
 exact ⟨U,Z,Z,Z,Z,(zZ _),hS⟩
 rintro k2 ⟨⟩ bR bT W8 ak ⟨bH,ai,aT,aU,aV,ap,aX⟩ ba bt
 try dsimp only at ba
 have aS:Hid ((↑k2:Int) < (↑p0.length:Int)):=zE (wBz ak)
 replace ak:=zE ak
 have bw:Hid (w64 ((↑k2:Int) + 1)=(↑(k2 + 1):Int)):=zE (by have h1:=am.out;have h2:=aS.out;rw [wAO] <;> omega)
 refine sR fL1 Z (oR Z (ze Z ai aV) (eN (zD (cT Z aS (kN (zD (zd (sR fL2 Z (oM Z ai (oA Z Z (eN (sR (wKJ (.fx 5 .nil .stop)) Z (oM Z aU (oM Z aT (oM Z Z (bnK ba fun x22 aW bz=>?_))))))))))))))))
 have bk:=br.le ap
 have q:=bk.el (fun _=>rfl) (wAN aW)
 obtain ⟨bK,bO,bn,bo⟩:=q
 refine oR Z (zu Z Z bn Z ZA ZM (wBP aW)) (oL Z (aX.ldCA (f:=0) bo Z Z Zl ZM (us:=[jV x22.Skier,jV x22.Lane]) Z Z) (bnK bz fun x30 bl bA=>?_))
 have bm:=bs.le ap
 refine OKS.callV (a:=x22) Z Z Z Z Z Z (zB Z zP) aX bm Z bl ?_
 rintro ae bG bQ bf bE bp ⟨rfl,rfl⟩
 have aY:sW w U ae [] bf:=bp
 refine eN (ifc bA ?_ ?_)
 intro ah bB
 refine zt (congrArg nA ah.out) (sR fL2 Z (oM Z Z (oA Z Z (eN (zI (zV (zH ?_)))))))
 have q:=wAI bB
 obtain ⟨bF,bC,bh⟩:=q
 have q:=wBI hm aj (bt bF bh)
 obtain rfl:=q
 refine zH (zV (zH ?_))
 cases bC
 exact ⟨Z,_,(zn Z),ae,_,aY,Z,Z⟩
 intro ah bD
 refine zp (congrArg nA (nB.2 ah.out)) (ZG (zj (zG (rR fL2 Z (oR Z (ZB (zo Z ai Z) (congrArg (jV) bw.out)) (oM Z Z (zq ?_)))))))
 have q:=nD bD
 obtain rfl:=q
 exact zG ⟨Z,_,Z,⟨ae,Z,aT,aU,aV,(ap.trans bE),aY⟩⟩
 rintro ⟨⟩ bS bI ⟨be,bj,bL,bM,bi,bN,bq⟩ bu
 have aZ:=wCR hm aj bu
 try dsimp only at aZ
 have bg:Hid (¬ ((↑(((↑p0.length:Int):Int) - 0).toNat:Int) < (↑p0.length:Int))):=zE (wBO)
 refine sR fL1 Z (oR Z (ze Z bj bi) (eN (zD (cF Z bg (ZC (zh (zh (zy (zG (sR fL1 Z (oA Z Z (eN (zI ?_)))))))))))))
 cases aZ
 exact ⟨Z,_,(zn Z),be,_,bq,Z,Z⟩
theorem wCJ (p0:List wAC) (ae:Option Addr) (ah:Nat) (p1:(wAC->Option Bool)) (ai:Value) (w:World) (U:PHeap) (hS:St0 w U []) (az:Sl U 2 ae ah p0.length (hH wAA p0)) (aS:FnOK Tryz.prog U ai wQz wRA p1) {r:Bool} (hm:wAP p0 p1=some r):Gv Tryz.prog 93 [.slice ae p0.length ah,ai] w (wCb w [] U (fun U_ L_ v=>v=.bool r/\L_=[])):=by
 unfold wAP at hm
 refine Gv.of Tryz.func93 Z Tryz.ntmps93 Tryz.results93 Z (sR fL1 Z (oA Z Z (eN (sR gAt Z (oM Z Z (oM Z Z (bnK hm fun x1 h2 ak=>zK 0 Z Z Z Z (zJ Z Z Tryz.call74 (zB Z (zB Z zP)) Z) hS (fun hs=>wCP p0 ae ah p1 ai w U hs az aS h2) (.inr Z) ?_)))))))
 rintro U4 L5 v6 W7 aU au ⟨rfl,rfl⟩
 have aq:sW w U U4 [] W7:=au
 refine oR Z (Runs.geq Z Z Z) (oA Z Z (eN (zI ?_)))
 first | (obtain rfl:=nD ak) | cases ak
 exact ⟨Z,_,(zn Z),U4,_,aq,Z,Z⟩
theorem wDq (p0:List wAC) (ak:Option Addr) (am:Nat) (p1:(wAC->Option Bool)) (ai:Value) (w:World) (U:PHeap) (hS:St0 w U []) (bf:Sl U 2 ak am p0.length (hH wAA p0)) (au:FnOK Tryz.prog U ai wQz wRA p1) {r:Bool} (hm:wBM p0 p1=some r):Gv Tryz.prog 50 [.slice ak p0.length am,ai] w (wCb w [] U (fun U_ L_ v=>v=.bool r/\L_=[])):=by
 unfold wBM at hm
 refine Gv.of Tryz.func50 Z Tryz.ntmps50 Tryz.results50 Z (sR gAg Z (ZI (cs:=[ai]) Z Z Z Z Z Z (FnOK.cells au) hS ?_))
 intro W1 b2 ba
 have q:=ba.freeze (k:=0) rfl
 obtain ⟨U5,az,ab,bb⟩:=q
 replace ab:=Cl.of ab
 have be:sW w U U5 [] W1:=bb
 replace ab:Cl U5 b2 0 [ai]:=ab
 refine oA Z Z (eN (sR gAt Z (oM Z Z (oR Z (Runs.mkf Z zP (zB Z zP)) ?_))))
 have aU:=bf.le az
 have aV:=au.le az
 have aX:FnOK Tryz.prog U5 (.func (.func 94) #[] #[.pointer (some ⟨b2,0,none⟩)]) wQz wRA (fun x=>wAh x p1):=⟨94,[],[.pointer (some ⟨b2,0,none⟩)],rfl,Tryz.call94,fun U1 w1 x y vs le hs ha hm=>by obtain rfl:=ha;exact wDZ x p1 b2 ai w1 U1 hs (ab.le le) (aV.le le) hm⟩
 refine bnK hm fun bl aW bg=>zK 0 Z Z Z Z (zJ Z Z Tryz.call93 (zB Z (zB Z zP)) Z) be (fun hs=>wCJ p0 ak am (fun x=>wAh x p1) (.func (.func 94) #[] #[.pointer (some ⟨b2,0,none⟩)]) W1 U5 hs aU aX aW) (.inr Z) ?_
 rintro ap bi bk aT bj aY ⟨rfl,rfl⟩
 have aZ:sW w U ap [] aT:=aY
 refine oR Z (ZQ Z Z) (oA Z Z (eN (zI ?_)))
 cases bg
 exact ⟨Z,_,(zn Z),ap,_,aZ,Z,Z⟩
theorem wIX (p0:wAC) (p1:wAC) (w:World) (U:PHeap) (hS:St0 w U [])  {r:Bool} (hm:wCB p0 p1=some r):Gv Tryz.prog 52 [.agg #[jV p0.Skier,jV p0.Lane],.agg #[jV p1.Skier,jV p1.Lane]] w (wCb w [] U (fun U_ L_ v=>v=.bool r/\L_=[])):=by
 unfold wCB at hm
 refine Gv.of Tryz.func52 rfl Tryz.ntmps52 Tryz.results52 rfl (sR gAn rfl (ZI (cs:=[jV p0.Skier,jV p0.Lane]) rfl rfl rfl rfl rfl rfl (by rfl) hS ?_))
 intro W1 b2 ap
 refine ZI (cs:=[jV p1.Skier,jV p1.Lane]) rfl rfl rfl rfl rfl rfl (by rfl) ap ?_
 intro W5 b6 ae
 refine oA Z Z (eN (sR fL20 Z (oR Z (zU Z Z ZV Z zN) (oL Z (ae.ldB (j:=1) Z Z Z zQ (v:=jV p0.Skier) Z) (oR Z (zU Z Z ZV Z zN) (oL Z (ae.ldB (j:=0) Z Z Z zQ (v:=jV p1.Skier) Z) (oR Z (ze Z Z Z) (oM Z Z ?_))))))))
 by_cases c9:p0.Skier < p1.Skier
 have aj:=hm;rw [if_pos c9] at aj;replace c9:=zE c9
 refine oT Z c9 (oT Z c9 (oT Z c9 (oT Z c9 (oT Z c9 (oT Z c9 (zL Z Z Z (wAH Z Z Z) (zL Z Z Z (wAH Z Z Z) (zL Z Z Z (wAH Z Z Z) (zL Z Z Z (wAH Z Z Z) (zL Z Z Z (wAH Z Z Z) (oT Z c9 (oR Z (zR Z (ZX c9.out) Z) (oA Z Z (eN (zI ?_)))))))))))))))
 have hE:=nD aj;first | subst r | cases hE
 exact ⟨rfl,_,(zn rfl),U,_,(ae.pick [] _ (by decide) rfl),rfl,rfl⟩
 have ak:=hm;rw [if_neg c9] at ak;replace c9:=zE c9
 refine rU Z (wF Z c9) (zU Z Z ZV Z zN) (zx Z Z Z (wF Z c9) (ae.ldB (j:=1) Z Z Z zQ (v:=jV p0.Skier) Z) Z (rU Z (wF Z c9) (zU Z Z ZV Z zN) (zx Z Z Z (wF Z c9) (ae.ldB (j:=0) Z Z Z zQ (v:=jV p1.Skier) Z) Z (rU Z (wF Z c9) (Ze Z Z Z) (zW Z Z Z (wF Z c9) Z Z (ifc ak ?_ ?_))))))
 intro ab am
 refine rU Z (wT Z ab) (zU Z Z ZV Z zN) (zx Z Z Z (wT Z ab) (ae.ldB (j:=1) Z Z Z zQ (v:=jV p0.Lane) Z) Z (rU Z (wT Z ab) (zU Z Z ZV Z zN) (zx Z Z Z (wT Z ab) (ae.ldB (j:=0) Z Z Z zQ (v:=jV p1.Lane) Z) Z (rU Z (wT Z ab) (ze Z Z Z) (rU Z (wF Z c9) (zR Z (ZX ab.out) Z) (oR Z (zM Z (zk c9.out) Z) (oA Z Z (eN (zI ?_)))))))))
 first | (obtain rfl:=nD am) | cases am
 exact ⟨rfl,_,(zn rfl),U,_,(ae.pick [] _ (by decide) rfl),rfl,rfl⟩
 intro ab aq
 refine oF Z ab (oF Z ab (oF Z ab (oF Z ab (oF Z ab (rU Z (wF Z c9) (zM Z (zk ab.out) Z) (oR Z (zM Z (zk c9.out) Z) (oA Z Z (eN (zI ?_)))))))))
 have hE:=nD aq;first | subst r | cases hE
 exact ⟨rfl,_,(zn rfl),U,_,(ae.pick [] _ (by decide) rfl),rfl,rfl⟩
theorem wEt (p0:wAB) (aS:Option Addr) (aU:Nat) (aT:Option Addr) (aV:Nat) (am:Option Addr) (ap:Nat) (w:World) (U:PHeap) (hS:St0 w U []) (cC:Sl U 1 aS aU p0.Shots.length (hH KL.encI p0.Shots)) (cD:Sl U 1 aT aV p0.Down.length (hH KL.encI p0.Down)) (cE:Sl U 2 am ap p0.Across.length (hH wAA p0.Across)) {r:Int} (hm:wBs p0=some r):Gv Tryz.prog 12 [.agg #[.slice aS p0.Shots.length aU,.slice aT p0.Down.length aV,.slice am p0.Across.length ap]] w (wCb w [] U (fun U_ L_ v=>v=jV r/\L_=[])):=by
 unfold wBs at hm
 refine Gv.of Tryz.func12 Z Tryz.ntmps12 Tryz.results12 Z (sR gAg Z ?_)
 let B0:List Value:=[.slice aS p0.Shots.length aU,.slice aT p0.Down.length aV,.slice am p0.Across.length ap]
 refine ZI (cs:=B0) rfl rfl rfl rfl rfl rfl (by rfl) hS ?_
 intro W1 b2 bG
 refine oA Z Z (eN (sR (wKI gAk) Z (oR Z (zU Z Z zO Z zS) (oL Z (bG.ldB (j:=0) Z Z Z zY (v:=.slice aS p0.Shots.length aU) Z) (oR Z (zi Z Z zA) (ZE (cs:=[jV 0]) Z Z Z Z Z Tryz.zeroValue3 Z bG ?_))))))
 intro W5 b6 cA
 let B1:List Value:=[jV (↑p0.Shots.length:Int)]
 refine Zg (j:=0) (vs:=B1) Z Z Z Z cA Z Z Z Z zN (zg Z) Z Z Z ?_
 intro W9 cr
 have bE:sW w U U [.blk b6 3 B1,.blk b2 25 B0] W9:=cr
 refine eN (zD (zd (sR (.fl 0 (.fx 1 (wSI (.nil)) .stop)) Z (oL Z (bE.ldB (j:=0) Z Z Z zQ (v:=jV (↑p0.Shots.length:Int)) Z) (bnK hm fun x12 bV cR=>zK 0 Z Z Z Z (zJ Z Z Tryz.call46 (zB Z (zB Z (zB Z zP))) Z) bE (fun hs=>wCI (↑p0.Shots.length:Int) 1 8 W9 U hs bV) (.inr Z) ?_)))))
 rintro aX dq dD bw bs cu ⟨rfl,rfl⟩
 have au:sW w U aX [.blk b6 3 B1,.blk b2 25 B0] bw:=cu
 refine oR Z (ZQ Z Z) (oM Z Z (ifc cR ?_ ?_))
 intro ab cS
 refine zX Z Z Z (zC Z Z (nC ab.out)) (fun _=>zU Z Z zO Z zS) (zx Z Z Z (zC Z Z (nC ab.out)) (au.ldB (j:=1) Z Z Z zY (v:=.slice aT p0.Down.length aV) Z) Z (zX Z Z Z (zC Z Z (nC ab.out)) (fun _=>zi Z Z zA) (zx Z Z Z (zC Z Z (nC ab.out)) (au.ldB (j:=0) Z Z Z zQ (v:=jV (↑p0.Shots.length:Int)) Z) Z (zX Z Z Z (zC Z Z (nC ab.out)) (fun _=>zw Z Z Z) (oR Z (zM Z (nC ab.out) Z) (oA Z Z (eN (ifc cS ?_ ?_))))))))
 intro bk cU
 refine zp (zk (fun h=>h bk.out)) (sR (.fl 0 (.fl 1 (.fx 2 (fC3_6 (.fx 7 (wNu (.nil)) .stop)) .stop))) Z (oR Z (zU Z Z zO Z zS) (oL Z (au.ldB (j:=1) Z Z Z zY (v:=.slice aS p0.Shots.length aU) Z) ?_)))
 have bW:=cC.le bs
 have cn:FnOK Tryz.prog aX (.func (.func 48) #[] #[]) wJx wLQ wBF:=⟨48,[],[],rfl,Tryz.call48,fun U1 w1 x y vs le hs ha hm=>by obtain rfl:=ha;exact wGN x w1 U1 hs  hm⟩
 refine bnK cU fun dH bX cV=>zK 0 Z Z Z Z (zJ Z Z Tryz.call47 (zB Z (zB Z zP)) Z) au (fun hs=>wBk p0.Shots aS aU wBF (.func (.func 48) #[] #[]) bw aX hs bW cn bX) (.inr Z) ?_
 rintro ba dr dE bz bM cw ⟨rfl,rfl⟩
 have bp:sW w U ba [.blk b6 3 B1,.blk b2 25 B0] bz:=cw
 refine oR Z (ZQ Z Z) (oM Z Z (ifc cV ?_ ?_))
 intro ae cW
 refine zX Z Z Z (zC Z Z (nC ae.out)) (fun _=>zU Z Z zO Z zS) (zx Z Z Z (zC Z Z (nC ae.out)) (bp.ldB (j:=1) Z Z Z zY (v:=.slice aT p0.Down.length aV) Z) Z ?_)
 have bY:=cD.le bs
 have bZ:=bY.le bM
 have cp:FnOK Tryz.prog ba (.func (.func 49) #[] #[]) wJx wLQ wBG:=⟨49,[],[],rfl,Tryz.call49,fun U1 w1 x y vs le hs ha hm=>by obtain rfl:=ha;exact wGO x w1 U1 hs  hm⟩
 refine bnK cW fun x43 b5 cX=>zK 0 Z Z Z (zC Z Z (nC ae.out)) (zJ Z Z Tryz.call47 (zB Z (zB Z zP)) Z) bp (fun hs=>wBk p0.Down aT aV wBG (.func (.func 49) #[] #[]) bz ba hs bZ cp b5) (.inr Z) ?_
 rintro bu dt dF bi df cx ⟨rfl,rfl⟩
 have bq:sW w U bu [.blk b6 3 B1,.blk b2 25 B0] bi:=cx
 refine zX Z Z Z (zC Z Z (nC ae.out)) (fun _=>ZQ Z Z) (oR Z (zM Z (nC ae.out) Z) (oA Z Z (eN (ifc cX ?_ ?_))))
 intro bl cY
 refine zp (nC bl.out) (sR (wKI (.fx 3 gAd .stop)) Z (oR Z (zU Z Z zO Z Zh) (oL Z (bq.ldB (j:=1) Z Z Z Zj (v:=.slice am p0.Across.length ap) Z) ?_)))
 have q:=bq.freeze (k:=0) rfl
 obtain ⟨bb,dg,aY,cy⟩:=q
 replace aY:=Cl.of aY
 have cz:sW w U bb [.blk b2 25 B0] bi:=cy
 replace aY:Cl bb b6 0 B1:=aY
 refine oR Z (Runs.mkf Z zP (zB Z zP)) ?_
 have b8:=cE.le bs
 have b9:=b8.le bM
 have cd:=b9.le df
 have bD:=cd.le dg
 have cq:FnOK Tryz.prog bb (.func (.func 51) #[] #[.pointer (some ⟨b6,0,none⟩)]) wQz wRA (fun x=>wBH x (↑p0.Shots.length:Int)):=⟨51,[],[.pointer (some ⟨b6,0,none⟩)],rfl,Tryz.call51,fun U1 w1 x y vs le hs ha hm=>by obtain rfl:=ha;exact wGP x (↑p0.Shots.length:Int) b6 w1 U1 hs (aY.le le) hm⟩
 refine bnK cY fun x65 cf cZ=>zK 0 Z Z Z Z (zJ Z Z Tryz.call50 (zB Z (zB Z zP)) Z) cz (fun hs=>wDq p0.Across am ap (fun x=>wBH x (↑p0.Shots.length:Int)) (.func (.func 51) #[] #[.pointer (some ⟨b6,0,none⟩)]) bi bb hs bD cq cf) (.inr Z) ?_
 rintro be du dG bP dh cB ⟨rfl,rfl⟩
 have bH:sW w U be [.blk b2 25 B0] bP:=cB
 refine oR Z (ZQ Z Z) (oA Z Z (eN (ifc cZ ?_ ?_)))
 intro bm da
 refine zp (nC bm.out) (ZG (zj (zG (zD (sR fL1 Z (oA Z Z (eN (zd (CK.iter (fun x80 σ_ w_=>∃ (U_:PHeap),σ_ 1=.pointer (some ⟨b2,0,none⟩)/\σ_ 4=jV x80/\PHeap.Le be U_/\sW w U U_ [.blk b2 25 B0] w_) da ?_ ?_)))))))))
 exact ⟨be,Z,Z,(zZ _),bH⟩
 rintro x80 dI dJ bA ⟨bv,bf,bg,bN,br⟩ bL bI
 refine zD (sR fL5 Z (oM Z bg (oR Z (zU Z bf zO Z Zh) (oL Z (br.ldB (j:=0) Z Z Z Zj (v:=.slice am p0.Across.length ap) Z) (oR Z (zi Z Z ZA) (oR Z (ze Z Z Z) (eN ?_)))))))
 by_cases ak:x80 < (↑p0.Across.length:Int)
 have bK:=bL;rw [if_pos ak] at bK;replace ak:=zE ak
 refine cT Z ak (kN (zD (zd (zD (ZP ZL [3,1,3,3,3,1,3,1,3,3,1,2,3] (wPS (.fx 11 (.fl 12 .nil) .stop)) (by kernel_rfl) ?_)))))
 have az:=br.drew
 generalize hw_W96:({ bA with drawn:=bA.drawn + 1 }:World)=bQ at az ⊢
 refine oR Z (zU Z bf zO Z Zh) (oL Z (az.ldB (j:=0) Z Z Z Zj (v:=.slice am p0.Across.length ap) Z) (oM Z bg (oR Z (ZY Z Z Z) (bnK bK fun x97 bo db=>?_))))
 have bT:=bD.le dh
 have bC:=bT.le bN
 have q:=bC.el (fun _=>rfl) (wAN bo)
 obtain ⟨dy,dA,cg,cj⟩:=q
 refine oR Z (Zn Z Z cg Z ZA ZM (wDH bo) (wDK bo)) (oL Z (az.ldCA (f:=0) cj Z Z Zl ZM (us:=[jV x97.Skier,jV x97.Lane]) Z Z) (oR Z (zU Z bf zO Z Zh) (oL Z (az.ldB (j:=0) Z Z Z Zj (v:=.slice am p0.Across.length ap) Z) (oM Z bg (bnK db fun bt bn cG=>?_)))))
 have q:=bC.el (fun _=>rfl) (wAN bn)
 obtain ⟨dz,dB,ci,cm⟩:=q
 refine oR Z (Zn Z Z ci Z ZA ZM (wDH bn) (wDK bn)) (oL Z (az.ldCA (f:=0) cm Z Z Zl ZM (us:=[jV bt.Skier,jV bt.Lane]) Z Z) (bnK cG fun x113 bU cH=>zK 0 Z Z Z Z (zJ Z Z Tryz.call52 (zB Z (zB Z zP)) Z) az (fun hs=>wIX x97 bt bQ bv hs bU) (.inr Z) ?_))
 rintro bh dp dC bO de ct ⟨rfl,rfl⟩
 have bF:sW w U bh [.blk b2 25 B0] bO:=ct
 refine oR Z (ZQ Z Z) (eN (ifc cH ?_ ?_))
 intro bj cI
 refine zp (nC bj.out) (ZG (zj (zG (rR fL3 Z (oM Z bg (oR Z (zo Z Z Z) (oA Z Z (zq ?_))))))))
 have q:=nD cI
 obtain rfl:=q
 exact zG ⟨Z,_,Z,⟨bh,bf,Z,(bN.trans de),bF⟩⟩
 intro bj cJ
 refine zt (nF (bj.out)) (sR fL1 Z (oA Z Z (eN (zI (zV (zH ?_))))))
 have q:=wAI cJ
 obtain ⟨dk,cK,bR⟩:=q
 have q:=bI dk bR
 obtain rfl:=q
 refine zH (zV (zH ?_))
 cases cK
 exact ⟨rfl,_,(zn rfl),bh,_,(bF.pick [] _ (by decide) rfl),rfl,rfl⟩
 have bJ:=bL;rw [if_neg ak] at bJ;replace ak:=zE ak
 refine cF Z ak (ZC (zh ?_))
 have q:=wAI bJ
 obtain ⟨dm,cL,bS⟩:=q
 have q:=bI dm bS
 obtain rfl:=q
 refine zh (zy (zG (sR fL1 Z (oA Z Z (eN (zI ?_))))))
 cases cL
 exact ⟨rfl,_,(zn rfl),bv,_,(br.pick [] _ (by decide) rfl),rfl,rfl⟩
 intro bm cM
 refine zt (nF (bm.out)) (sR fL1 Z (oA Z Z (eN (zI (zV (zH ?_))))))
 cases cM
 exact ⟨rfl,_,(zn rfl),be,_,(bH.pick [] _ (by decide) rfl),rfl,rfl⟩
 intro bl cN
 refine zt (nF (bl.out)) (sR fL1 Z (oA Z Z (eN (zI (zV (zH ?_))))))
 cases cN
 exact ⟨rfl,_,(zn rfl),bu,_,(bq.pick [] _ (by decide) rfl),rfl,rfl⟩
 intro ae cO
 refine zL Z Z Z (zF Z Z (nF (ae.out)) Z) (zL Z Z Z (zF Z Z (nF (ae.out)) Z) (ZF Z Z Z (zF Z Z (nF (ae.out)) Z) (zL Z Z Z (zF Z Z (nF (ae.out)) Z) (oR Z (zR Z (nF (ae.out)) Z) (oA Z Z (eN (zt Z (sR fL1 Z (oA Z Z (eN (zI (zV (zH ?_)))))))))))))
 cases cO
 exact ⟨rfl,_,(zn rfl),ba,_,(bp.pick [] _ (by decide) rfl),rfl,rfl⟩
 intro bk cP
 refine cT Z bk (sR fL1 Z (oA Z Z (eN (zI (zV (zH ?_))))))
 cases cP
 exact ⟨rfl,_,(zn rfl),aX,_,(au.pick [] _ (by decide) rfl),rfl,rfl⟩
 intro ab cQ
 refine zL Z Z Z (zF Z Z (nF (ab.out)) Z) (zL Z Z Z (zF Z Z (nF (ab.out)) Z) (zL Z Z Z (zF Z Z (nF (ab.out)) Z) (zL Z Z Z (zF Z Z (nF (ab.out)) Z) (zL Z Z Z (zF Z Z (nF (ab.out)) Z) (oR Z (zR Z (nF (ab.out)) Z) (oA Z Z (eN (zt Z (sR fL1 Z (oA Z Z (eN (zI (zV (zH ?_))))))))))))))
 cases cQ
 exact ⟨rfl,_,(zn rfl),aX,_,(au.pick [] _ (by decide) rfl),rfl,rfl⟩
theorem wHJ (p0:wAB) (aq:Option Addr) (au:Nat) (aS:Option Addr) (aT:Nat) (ak:Option Addr) (am:Nat) (w:World) (U:PHeap) (hS:St0 w U []) (cK:Sl U 1 aq au p0.Shots.length (hH KL.encI p0.Shots)) (cL:Sl U 1 aS aT p0.Down.length (hH KL.encI p0.Down)) (bK:Sl U 2 ak am p0.Across.length (hH wAA p0.Across)) {r:wAF} (hm:wCX p0=some r):Gv Tryz.prog 77 [.agg #[.slice aq p0.Shots.length au,.slice aS p0.Down.length aT,.slice ak p0.Across.length am]] w (wCb w [] U (fun U_ L_ v=>∃ (b0:Nat) (A0p00:Option Addr) (c0p00:Nat) (A0p01:Option Addr) (c0p01:Nat) (A0p02:Option Addr) (c0p02:Nat) (m0p1:Nat) (es0p1:Array MapEntry) (ck0p1:Nat),v=.pointer (some ⟨b0,0,none⟩)/\L_=[.blk b0 118 ([.slice A0p00 r.Bout.Shots.length c0p00,.slice A0p01 r.Bout.Down.length c0p01,.slice A0p02 r.Bout.Across.length c0p02,.map (some m0p1)] ++ ((hH KL.encI r.hits.l) ++ ((hH KL.encI r.used.l) ++ (hH KL.encT r.met.l)))),.obj m0p1 (.map es0p1 ck0p1)]/\Sl U_ 1 A0p00 c0p00 r.Bout.Shots.length (hH KL.encI r.Bout.Shots)/\Sl U_ 1 A0p01 c0p01 r.Bout.Down.length (hH KL.encI r.Bout.Down)/\Sl U_ 2 A0p02 c0p02 r.Bout.Across.length (hH wAA r.Bout.Across)/\MpR es0p1 wDP wDl r.may)):=by
 unfold wCX at hm
 refine Gv.of Tryz.func77 Z Tryz.ntmps77 Tryz.results77 Z (sR gAg Z ?_)
 let B0:List Value:=[.slice aq p0.Shots.length au,.slice aS p0.Down.length aT,.slice ak p0.Across.length am]
 refine ZI (cs:=B0) rfl rfl rfl rfl rfl rfl (by rfl) hS ?_
 intro W1 b2 bH
 refine oA Z Z (eN (sR (.fl 0 (.fx 1 (.fl 2 gAl) .stop)) Z (oL Z (bH.ldBA (j:=0) Z Z Z ZJ zr (vs:=B0) Z Z) (OKS.makeMap Z Z Z Z Z bH ?_))))
 intro W5 b6 cJ
 have cY:=MpR.nil wDP wDl
 let B1:List Value:=[.slice aq p0.Shots.length au,.slice aS p0.Down.length aT,.slice ak p0.Across.length am,.map (some b6),jV 0,jV 0,jV 0,jV 0,jV 0,jV 0,jV 0,jV 0,jV 0,jV 0,jV 0,jV 0,jV 0,jV 0,jV 0,jV 0,jV 0,jV 0,jV 0,jV 0,jV 0,jV 0,jV 0,jV 0,jV 0,jV 0,jV 0,jV 0,jV 0,jV 0,jV 0,jV 0,jV 0,jV 0,jV 0,jV 0,jV 0,jV 0,jV 0,jV 0,jV 0,jV 0,jV 0,jV 0,jV 0,jV 0,jV 0,jV 0,jV 0,jV 0,jV 0,jV 0,jV 0,jV 0,jV 0,jV 0,jV 0,jV 0,jV 0,jV 0,jV 0,jV 0,jV 0,jV 0,jV 0,jV 0,jV 0,jV 0,jV 0,jV 0,jV 0,jV 0,.bool false,.bool false,.bool false,.bool false,.bool false,.bool false,.bool false,.bool false,.bool false,.bool false,.bool false,.bool false,.bool false,.bool false,.bool false,.bool false]
 refine zX rfl rfl rfl rfl (fun _=>Runs.build (pv:=[(0,.agg B0.toArray),(1,.map (some b6))]) (z:=[.slice none 0 0,.slice none 0 0,.slice none 0 0,.map none,jV 0,jV 0,jV 0,jV 0,jV 0,jV 0,jV 0,jV 0,jV 0,jV 0,jV 0,jV 0,jV 0,jV 0,jV 0,jV 0,jV 0,jV 0,jV 0,jV 0,jV 0,jV 0,jV 0,jV 0,jV 0,jV 0,jV 0,jV 0,jV 0,jV 0,jV 0,jV 0,jV 0,jV 0,jV 0,jV 0,jV 0,jV 0,jV 0,jV 0,jV 0,jV 0,jV 0,jV 0,jV 0,jV 0,jV 0,jV 0,jV 0,jV 0,jV 0,jV 0,jV 0,jV 0,jV 0,jV 0,jV 0,jV 0,jV 0,jV 0,jV 0,jV 0,jV 0,jV 0,jV 0,jV 0,jV 0,jV 0,jV 0,jV 0,jV 0,jV 0,.bool false,.bool false,.bool false,.bool false,.bool false,.bool false,.bool false,.bool false,.bool false,.bool false,.bool false,.bool false,.bool false,.bool false,.bool false,.bool false]) (cs:=B1) rfl (wBq rfl (wBq rfl wDL)) Tryz.zeroValue118 wNL rfl rfl) (ZI (cs:=B1) rfl rfl rfl rfl rfl rfl (by rfl) cJ ?_)
 intro df ai bG
 refine oA Z Z (eN (zD (sR fL4 Z (oR Z (zU Z Z zO Z zS) (oL Z (bG.ldB (j:=2) Z Z Z zY (v:=.slice aq p0.Shots.length au) Z) (oR Z (zi Z Z zA) (oM Z Z (eN (zd (bnK hm fun dz cM cU=>?_))))))))))
 have q:=wDI cM
 obtain ⟨bj,cN⟩:=q
 replace bj:=zE bj
 refine CK.forN' (fun ab bL σ_ w_=>∃ (U_:PHeap) (be:Array MapEntry) (bt:Nat),σ_ 14=jV (↑ab:Int)/\σ_ 1=.pointer (some ⟨b2,0,none⟩)/\σ_ 3=.pointer (some ⟨ai,0,none⟩)/\σ_ 13=jV (↑p0.Shots.length:Int)/\PHeap.Le U U_/\sW w U U_ [.blk ai 118 B1,.obj b6 (.map be bt),.blk b2 25 B0] w_/\MpR be wDP wDl bL) cN ?_ ?_ ?_
 exact ⟨U,#[],0,Z,Z,Z,Z,(zZ _),bG,cY⟩
 rintro ab bL dx dC dm bi ⟨bm,be,bt,bg,bZ,bC,bD,db,bI,cw⟩ cZ
 have br:Hid ((↑ab:Int) < (↑p0.Shots.length:Int)):=zE (wBz bi)
 replace bi:=zE bi
 have cR:Hid (w64 ((↑ab:Int) + 1)=(↑(ab + 1):Int)):=zE (by have h1:=bj.out;have h2:=br.out;rw [wAO] <;> omega)
 refine sR fL1 rfl (zX rfl rfl rfl rfl (fun _=>ze rfl bg bD) (eN (zD (cT Z br (kN (zD (zd (sR fL2 rfl (zW rfl rfl rfl rfl rfl bg (OKS.ra rfl rfl rfl rfl rfl rfl (eN (rR (wNs (.fx 7 .nil .stop)) rfl (zW rfl rfl rfl rfl rfl bC (zX rfl rfl rfl rfl (fun _=>ZH rfl rfl) (zX rfl rfl rfl rfl (fun _=>zU rfl rfl zf rfl Tryz.sizeOf111) (zx rfl rfl rfl rfl (bI.ldB (j:=0) rfl rfl rfl Tryz.isAgg111 (v:=.map (some b6)) rfl) rfl (zW rfl rfl rfl rfl rfl rfl (zW rfl rfl rfl rfl rfl rfl (zX rfl rfl rfl rfl (fun _=>Runs.build (pv:=[(0,jV (↑ab:Int)),(1,jV (↑ab:Int))]) (z:=[jV 0,jV 0]) (cs:=[jV (↑ab:Int),jV (↑ab:Int)]) rfl (wBq rfl (wBq rfl wDL)) Tryz.zeroValue59 wIV rfl rfl) (OKS.mapPut (x:=.tmp 20) (y:=.tmp 23) (j:=1) (mk:=wDP) (mv:=wDl) (a:=(⟨(↑ab:Int),(↑ab:Int)⟩:wAC)) (v:=true) rfl rfl rfl (by first | exact .inl rfl | exact .inr rfl) bI rfl rfl rfl rfl (wEr Tryz.runUnderlying111) wIW cw rfl ?_))))))))))))))))))))
 intro bw bu bQ cX cH
 have cI:sW w U bm [.blk ai 118 B1,.obj b6 (.map bw bu),.blk b2 25 B0] bQ:=cH
 refine zq (zj (zG (rR fL2 Z (oR Z (ZB (zo Z bg Z) (congrArg (jV) cR.out)) (oM Z Z (zq ?_))))))
 cases cZ
 exact zG ⟨Z,⟨bm,bw,bu,Z,bZ,bC,bD,db,cI,cX⟩⟩
 rintro dD dq ⟨bn,bW,bT,cf,b5,b8,b9,aY,bJ,cx⟩
 have bU:Hid (¬ ((↑(((↑p0.Shots.length:Int):Int) - 0).toNat:Int) < (↑p0.Shots.length:Int))):=zE (wBO)
 refine sR fL1 Z (oR Z (ze Z cf b9) (eN (zD (cF Z bU (ZC (zh (zh (zy (zG (zD (sR fL4 Z (oR Z (zU Z b5 zO Z Zh) (oL Z (bJ.ldB (j:=2) Z Z Z Zj (v:=.slice ak p0.Across.length am) Z) (oR Z (zi Z Z ZA) (oM Z Z (eN (zd (bnK cU fun dA cO cV=>?_))))))))))))))))))
 have q:=wDI cO
 obtain ⟨bk,cP⟩:=q
 replace bk:=zE bk
 refine CK.forN' (fun az bM σ_ w_=>∃ (U_:PHeap) (aW:Array MapEntry) (bb:Nat),σ_ 28=jV (↑az:Int)/\σ_ 3=.pointer (some ⟨ai,0,none⟩)/\σ_ 26=.slice ak p0.Across.length am/\σ_ 27=jV (↑p0.Across.length:Int)/\PHeap.Le bn U_/\sW w U U_ [.blk ai 118 B1,.obj b6 (.map aW bb),.blk b2 25 B0] w_/\MpR aW wDP wDl bM) cP ?_ ?_ ?_
 exact ⟨bn,bW,bT,Z,b8,Z,Z,(zZ _),bJ,cx⟩
 rintro az bM dy dE dr bh ⟨aZ,aW,bb,bf,bz,bA,bB,bN,bF,cg⟩ da
 have bq:Hid ((↑az:Int) < (↑p0.Across.length:Int)):=zE (wBz bh)
 replace bh:=zE bh
 have cQ:Hid (w64 ((↑az:Int) + 1)=(↑(az + 1):Int)):=zE (by have h1:=bk.out;have h2:=bq.out;rw [wAO] <;> omega)
 refine sR fL1 Z (oR Z (ze Z bf bB) (eN (zD (cT Z bq (kN (zD (zd (sR gAr Z (bnK da fun aU bE cS=>?_)))))))))
 have ci:=bK.le aY
 have cj:=ci.le bN
 have q:=cj.el (fun _=>rfl) (wAN bE)
 obtain ⟨dt,dw,cy,cz⟩:=q
 refine oR Z (zu Z bA cy bf ZA ZM (wBP bE)) (oL Z (bF.ldCA (f:=0) cz Z Z Zl ZM (us:=[jV aU.Skier,jV aU.Lane]) Z Z) (ZE (cs:=[jV 0,jV 0]) Z Z Z Z Z Tryz.zeroValue59 Z bF ?_))
 intro dg bp cA
 let B2:List Value:=[jV aU.Skier,jV aU.Lane]
 refine Zg (j:=0) (vs:=B2) Z Z Z Z cA Z Z Z Z ZM (zg Z) Z Z Z ?_
 intro ba cB
 have cC:sW w U aZ [.blk bp 59 B2,.blk ai 118 B1,.obj b6 (.map aW bb),.blk b2 25 B0] ba:=cB
 refine eN (ZP ZL [3,3,3,1,1,0] (wKJ (.fx 5 .nil .stop)) (by kernel_rfl) ?_)
 have aX:=cC.drew
 generalize hw_W129:({ ba with drawn:=ba.drawn + 1 }:World)=dh at aX ⊢
 refine zW rfl rfl rfl rfl rfl bz (zX rfl rfl rfl rfl (fun _=>ZH rfl rfl) (zX rfl rfl rfl rfl (fun _=>zU rfl rfl zf rfl Tryz.sizeOf111) (zx rfl rfl rfl rfl (aX.ldB (j:=1) rfl rfl rfl Tryz.isAgg111 (v:=.map (some b6)) rfl) rfl (zx rfl rfl rfl rfl (aX.ldBA (j:=0) rfl rfl rfl Zl ZM (vs:=B2) rfl rfl) rfl (OKS.mapPut (x:=.tmp 35) (y:=.tmp 36) (j:=2) (mk:=wDP) (mv:=wDl) (a:=aU) (v:=true) rfl rfl rfl (by first | exact .inl rfl | exact .inr rfl) aX rfl rfl rfl rfl (wEr Tryz.runUnderlying111) wIW cg rfl ?_)))))
 intro bv bs bP cW cD
 have cE:sW w U aZ [.blk bp 59 B2,.blk ai 118 B1,.obj b6 (.map bv bs),.blk b2 25 B0] bP:=cD
 refine zq (zj (zG (rR fL2 Z (oR Z (ZB (zo Z bf Z) (congrArg (jV) cQ.out)) (oM Z Z (zq ?_))))))
 cases cS
 exact zG ⟨rfl,⟨aZ,bv,bs,rfl,bz,bA,bB,bN,(cE.pick [1,2,3] _ (by decide) rfl),cW⟩⟩
 rintro dB dk ⟨bO,bV,bR,cd,bX,du,bY,bl,cG,cm⟩
 have bS:Hid (¬ ((↑(((↑p0.Across.length:Int):Int) - 0).toNat:Int) < (↑p0.Across.length:Int))):=zE (wBO)
 refine sR fL1 Z (oR Z (ze Z cd bY) (eN (zD (cF Z bS (ZC (zh (zh (zy (zG (sR fL2 Z (oM Z bX (oA Z Z (eN (zI ?_))))))))))))))
 have cn:=cK.le aY
 have cp:=cn.le bl
 have cq:=cL.le aY
 have cr:=cq.le bl
 have ct:=bK.le aY
 have cu:=ct.le bl
 cases cV
 exact ⟨rfl,_,(zn rfl),bO,_,(cG.pick [0,1] _ (by decide) rfl),ai,aq,au,aS,aT,ak,am,b6,bV,bR,rfl,rfl,cp,cr,cu,cm⟩
end Go.Proofs.YtfcmijinklojbaaGreat
namespace Go.Proofs.YtfcmijinklojbaaGreat
open Go.KL
set_option maxHeartbeats 4000000
theorem wDA (p0:wAB) (ah:Option Addr) (ak:Nat) (ai:Option Addr) (am:Nat) (aj:Option Addr) (ap:Nat) (w:World) (U:PHeap) (hS:St0 w U []) (bk:Sl U 1 ah ak p0.Shots.length (hH KL.encI p0.Shots)) (bl:Sl U 1 ai am p0.Down.length (hH KL.encI p0.Down)) (bm:Sl U 2 aj ap p0.Across.length (hH wAA p0.Across)) {r:(Option wAF) × Int} (hm:wBQ p0=some r):Gv Tryz.prog 53 [.agg #[.slice ah p0.Shots.length ak,.slice ai p0.Down.length am,.slice aj p0.Across.length ap]] w (wCb w [] U (fun U_ L_ v=>match r.1 with | none=>v=.tuple #[.pointer none,jV r.2]/\L_=[] | some d=>∃ (b0:Nat) (A0p00:Option Addr) (c0p00:Nat) (A0p01:Option Addr) (c0p01:Nat) (A0p02:Option Addr) (c0p02:Nat) (m0p1:Nat) (es0p1:Array MapEntry) (ck0p1:Nat),v=.tuple #[.pointer (some ⟨b0,0,none⟩),jV r.2]/\L_=[.blk b0 118 ([.slice A0p00 d.Bout.Shots.length c0p00,.slice A0p01 d.Bout.Down.length c0p01,.slice A0p02 d.Bout.Across.length c0p02,.map (some m0p1)] ++ ((hH KL.encI d.hits.l) ++ ((hH KL.encI d.used.l) ++ (hH KL.encT d.met.l)))),.obj m0p1 (.map es0p1 ck0p1)]/\Sl U_ 1 A0p00 c0p00 d.Bout.Shots.length (hH KL.encI d.Bout.Shots)/\Sl U_ 1 A0p01 c0p01 d.Bout.Down.length (hH KL.encI d.Bout.Down)/\Sl U_ 2 A0p02 c0p02 d.Bout.Across.length (hH wAA d.Bout.Across)/\MpR es0p1 wDP wDl d.may)):=by
 unfold wBQ at hm
 refine Gv.of Tryz.func53 Z Tryz.ntmps53 Tryz.results53 Z (sR gAo Z ?_)
 let B0:List Value:=[.slice ah p0.Shots.length ak,.slice ai p0.Down.length am,.slice aj p0.Across.length ap]
 refine ZI (cs:=B0) rfl rfl rfl rfl rfl rfl (by rfl) hS ?_
 intro W1 b2 bj
 refine oA Z Z (oA Z Z (eN (zD (sR gAm Z (oL Z (bj.ldBA (j:=0) Z Z Z ZJ zr (vs:=B0) Z Z) (bnK hm fun x5 h6 bG=>zK 0 Z Z Z Z (zJ Z Z Tryz.call12 (zB Z zP) Z) bj (fun hs=>wEt p0 ah ak ai am aj ap W1 U hs bk bl bm h6) (.inr Z) ?_))))))
 rintro U8 L9 bK aY aS bA ⟨rfl,rfl⟩
 have az:sW w U U8 [.blk b2 25 B0] aY:=bA
 refine oA Z Z (eN (sR fL2 Z (oM Z Z (oR Z (zw Z Z Z) (eN (ifc bG ?_ ?_))))))
 intro au bD
 refine zp (zk (fun h=>h au.out)) (kN (sR (.fl 0 (.fx 1 gAb .stop)) Z (oL Z (az.ldBA (j:=0) Z Z Z ZJ zr (vs:=B0) Z Z) ?_)))
 have bp:=bk.le aS
 have bq:=bl.le aS
 have br:=bm.le aS
 refine bnK bD fun ab bs bE=>zK 0 Z Z Z Z (zJ Z Z Tryz.call77 (zB Z zP) Z) az (fun hs=>wHJ p0 ah ak ai am aj ap aY U8 hs bp bq br bs) (.inr Z) ?_
 rintro aX bH bL bo bJ bB ⟨bb,aU,be,aV,bf,aW,bg,aT,bi,bh,rfl,rfl,bt,bu,bv,bw⟩
 have bC:sW w U aX [.blk bb 118 ([.slice aU ab.Bout.Shots.length be,.slice aV ab.Bout.Down.length bf,.slice aW ab.Bout.Across.length bg,.map (some aT)] ++ ((hH KL.encI ab.hits.l) ++ ((hH KL.encI ab.used.l) ++ (hH KL.encT ab.met.l)))),.obj aT (.map bi bh),.blk b2 25 B0] bo:=bB
 refine oA Z Z (oA Z Z (eN (zI ?_)))
 cases bE
 exact ⟨rfl,_,(wDX rfl rfl),aX,_,(bC.pick [0,1] _ (by decide) rfl),bb,aU,be,aV,bf,aW,bg,aT,bi,bh,rfl,rfl,bt,bu,bv,bw⟩
 intro au bF
 refine cT Z au (sR fL3 Z (oM Z Z (oA Z Z (oA Z Z (eN (zI (zH ?_)))))))
 cases bF
 exact ⟨rfl,_,(wDX rfl rfl),U8,_,(az.pick [] _ (by decide) rfl),rfl,rfl⟩
theorem wEW (p0:List Int) (ae:Option Addr) (ai:Nat) (p1:Int) (ah:Nat) (w:World) (U:PHeap) (hS:St0 w U []) (ak:Sl U 1 ae ai p0.length (hH KL.encI p0)) (aj:Cl U ah 0 [jV p1]) {r:Bool} (hm:wBE p0 p1=some r):Gv Tryz.prog 55 [.slice ae p0.length ai,.pointer (some ⟨ah,0,none⟩)] w (wCb w [] U (fun U_ L_ v=>v=.bool r/\L_=[])):=by
 unfold wBE at hm
 refine Gv.of Tryz.func55 Z Tryz.ntmps55 Tryz.results55 Z (sR fL1 Z (oA Z Z (eN (sR fL5 Z (oM Z Z (oR Z (zi Z Z zA) (oL Z (hS.ldC (f:=0) aj (v:=jV p1) Z Z zQ Z) (oR Z (Ze Z Z Z) (oA Z Z (eN (zI ?_)))))))))))
 first | (obtain rfl:=nD hm) | cases hm
 exact ⟨Z,_,(zn Z),U,_,hS,Z,Z⟩
theorem wEX (p0:List Int) (ab:Option Addr) (ae:Nat) (p1:((List Int)->Option Bool)) (ak:Nat) (ah:Value) (w:World) (U:PHeap) (hS:St0 w U []) (az:Sl U 1 ab ae p0.length (hH KL.encI p0)) (aS:Cl U ak 0 [ah]) (aT:FnOK Tryz.prog U ah wJy wJz p1) {r:Bool} (hm:wBN p0 p1=some r):Gv Tryz.prog 96 [.slice ab p0.length ae,.pointer (some ⟨ak,0,none⟩)] w (wCb w [] U (fun U_ L_ v=>v=.bool r/\L_=[])):=by
 unfold wBN at hm
 refine Gv.of Tryz.func96 Z Tryz.ntmps96 Tryz.results96 Z (sR fL1 Z (oA Z Z (eN (sR gAt Z (oL Z (hS.ldC (f:=0) aS (v:=ah) Z Z Tryz.isAgg105 Z) (oM Z Z (bnK hm fun x1 h2 aU=>OKS.callV (a:=p0) Z Z Z Z Z Z (zB Z zP) hS aT ⟨ab,ae,Z,az⟩ h2 ?_)))))))
 rintro U4 L5 v6 W7 aW au ⟨rfl,rfl⟩
 have aq:sW w U U4 [] W7:=au
 refine oR Z (ZQ Z Z) (oA Z Z (eN (zI ?_)))
 cases aU
 exact ⟨Z,_,(zn Z),U4,_,aq,Z,Z⟩
theorem wDE (p0:List (List Int)) (au:Option Addr) (aS:Nat) (p1:((List Int)->Option Bool)) (aU:Value) (w:World) (U:PHeap) (hS:St0 w U []) (bw:SlR U wEV au aS p0) (bz:FnOK Tryz.prog U aU wJy wJz p1) {r:Int} (hm:wAy p0 p1=some r):Gv Tryz.prog 122 [.slice au p0.length aS,aU] w (wCb w [] U (fun U_ L_ v=>v=jV r/\L_=[])):=by
 unfold wAy at hm
 refine Gv.of Tryz.func122 Z Tryz.ntmps122 Tryz.results122 Z (sR fL1 Z (oA Z Z (eN (zD (sR fL3 Z (oM Z Z (oR Z (zi Z Z zl) (oM Z Z (eN (zd ?_))))))))))
 have q:=wBp hm
 obtain ⟨r3,ak⟩:=q
 have q:=wCA ak
 obtain ⟨ap,bC⟩:=q
 replace ap:=zE ap
 refine Zf (fun k2 _ σ_ w_=>∃ (U_:PHeap),σ_ 8=jV (↑k2:Int)/\σ_ 0=.slice au p0.length aS/\σ_ 1=aU/\σ_ 7=jV (↑p0.length:Int)/\PHeap.Le U U_/\sW w U U_ [] w_) bC ?_ ?_ ?_
 exact ⟨U,Z,Z,Z,Z,(zZ _),hS⟩
 rintro k2 ⟨⟩ bW bY W8 am ⟨bh,ai,aW,aX,aY,aq,ba⟩ bf bA
 try dsimp only at bf
 have aV:Hid ((↑k2:Int) < (↑p0.length:Int)):=zE (wBz am)
 replace am:=zE am
 have bD:Hid (w64 ((↑k2:Int) + 1)=(↑(k2 + 1):Int)):=zE (by have h1:=ap.out;have h2:=aV.out;rw [wAO] <;> omega)
 refine sR fL1 Z (oR Z (ze Z ai aY) (eN (zD (cT Z aV (kN (zD (zd (sR fL2 Z (oM Z ai (oA Z Z (eN (sR (wKJ (.fx 5 .nil .stop)) Z (oM Z aX (oM Z aW (oM Z Z (bnK bf fun x22 aZ bE=>?_))))))))))))))))
 have bp:=bw.le aq
 have q:=bp.el (wAN aZ)
 obtain ⟨bk,bL,bV,bt,aj,bJ⟩:=q
 obtain ⟨az,aT,rfl,bq⟩:=bJ
 replace aj:Cl bh bk (bL + k2 * 1) [.slice az x22.length aT]:=aj
 refine oR Z (zu Z Z bt Z zl zS (wBP aZ)) (oL Z (ba.ldC (f:=0) aj (v:=.slice az x22.length aT) Z Z zY Z) (bnK bE fun x35 br bF=>?_))
 have bs:=bz.le aq
 refine OKS.callV (a:=x22) Z Z Z Z Z Z (zB Z zP) ba bs ⟨az,aT,Z,bq⟩ br ?_
 rintro ae bN bU bj bK bu ⟨rfl,rfl⟩
 have bb:sW w U ae [] bj:=bu
 refine eN (ifc bF ?_ ?_)
 intro ah bG
 refine zt (congrArg nA ah.out) (sR fL2 Z (oM Z Z (oA Z Z (eN (zI (zV (zH ?_)))))))
 have q:=wAI bG
 obtain ⟨bM,bH,bm⟩:=q
 have q:=wBI hm ak (bA bM bm)
 obtain rfl:=q
 refine zH (zV (zH ?_))
 cases bH
 exact ⟨Z,_,(zn Z),ae,_,bb,Z,Z⟩
 intro ah bI
 refine zp (congrArg nA (nB.2 ah.out)) (ZG (zj (zG (rR fL2 Z (oR Z (ZB (zo Z ai Z) (congrArg (jV) bD.out)) (oM Z Z (zq ?_)))))))
 have q:=nD bI
 obtain rfl:=q
 exact zG ⟨Z,_,Z,⟨ae,Z,aW,aX,aY,(aq.trans bK),bb⟩⟩
 rintro ⟨⟩ bX bO ⟨bi,bo,bQ,bR,bn,bS,bv⟩ bB
 have be:=wCR hm ak bB
 try dsimp only at be
 have bl:Hid (¬ ((↑(((↑p0.length:Int):Int) - 0).toNat:Int) < (↑p0.length:Int))):=zE (wBO)
 refine sR fL1 Z (oR Z (ze Z bo bn) (eN (zD (cF Z bl (ZC (zh (zh (zy (zG (sR fL1 Z (oA Z Z (eN (zI ?_)))))))))))))
 cases be
 exact ⟨Z,_,(zn Z),bi,_,bv,Z,Z⟩
theorem wCr (p0:List (List Int)) (ae:Option Addr) (ah:Nat) (p1:((List Int)->Option Bool)) (ai:Value) (w:World) (U:PHeap) (hS:St0 w U []) (az:SlR U wEV ae ah p0) (aS:FnOK Tryz.prog U ai wJy wJz p1) {r:Bool} (hm:wAq p0 p1=some r):Gv Tryz.prog 95 [.slice ae p0.length ah,ai] w (wCb w [] U (fun U_ L_ v=>v=.bool r/\L_=[])):=by
 unfold wAq at hm
 refine Gv.of Tryz.func95 Z Tryz.ntmps95 Tryz.results95 Z (sR fL1 Z (oA Z Z (eN (sR gAt Z (oM Z Z (oM Z Z (bnK hm fun x1 h2 ak=>zK 0 Z Z Z Z (zJ Z Z Tryz.call122 (zB Z (zB Z zP)) Z) hS (fun hs=>wDE p0 ae ah p1 ai w U hs az aS h2) (.inr Z) ?_)))))))
 rintro U4 L5 v6 W7 aU au ⟨rfl,rfl⟩
 have aq:sW w U U4 [] W7:=au
 refine oR Z (Runs.geq Z Z Z) (oA Z Z (eN (zI ?_)))
 first | (obtain rfl:=nD ak) | cases ak
 exact ⟨Z,_,(zn Z),U4,_,aq,Z,Z⟩
theorem wDQ (p0:List (List Int)) (ak:Option Addr) (am:Nat) (p1:((List Int)->Option Bool)) (ah:Value) (w:World) (U:PHeap) (hS:St0 w U []) (bf:SlR U wEV ak am p0) (au:FnOK Tryz.prog U ah wJy wJz p1) {r:Bool} (hm:wBa p0 p1=some r):Gv Tryz.prog 54 [.slice ak p0.length am,ah] w (wCb w [] U (fun U_ L_ v=>v=.bool r/\L_=[])):=by
 unfold wBa at hm
 refine Gv.of Tryz.func54 Z Tryz.ntmps54 Tryz.results54 Z (sR gAg Z (ZI (cs:=[ah]) Z Z Z Z Z Z (FnOK.cells au) hS ?_))
 intro W1 b2 ba
 have q:=ba.freeze (k:=0) rfl
 obtain ⟨U5,az,ab,bb⟩:=q
 replace ab:=Cl.of ab
 have be:sW w U U5 [] W1:=bb
 replace ab:Cl U5 b2 0 [ah]:=ab
 refine oA Z Z (eN (sR gAt Z (oM Z Z (oR Z (Runs.mkf Z zP (zB Z zP)) ?_))))
 have aU:=bf.le az
 have aV:=au.le az
 have aX:FnOK Tryz.prog U5 (.func (.func 96) #[] #[.pointer (some ⟨b2,0,none⟩)]) wJy wJz (fun x=>wBN x p1):=⟨96,[],[.pointer (some ⟨b2,0,none⟩)],rfl,Tryz.call96,fun U1 w1 x y vs le hs ha hm=>by obtain ⟨pA_0,pc_0,rfl,hq0_0⟩:=ha;exact wEX x pA_0 pc_0 p1 b2 ah w1 U1 hs hq0_0 (ab.le le) (aV.le le) hm⟩
 refine bnK hm fun bl aW bg=>zK 0 Z Z Z Z (zJ Z Z Tryz.call95 (zB Z (zB Z zP)) Z) be (fun hs=>wCr p0 ak am (fun x=>wBN x p1) (.func (.func 96) #[] #[.pointer (some ⟨b2,0,none⟩)]) W1 U5 hs aU aX aW) (.inr Z) ?_
 rintro ap bi bk aT bj aY ⟨rfl,rfl⟩
 have aZ:sW w U ap [] aT:=aY
 refine oR Z (ZQ Z Z) (oA Z Z (eN (zI ?_)))
 cases bg
 exact ⟨Z,_,(zn Z),ap,_,aZ,Z,Z⟩
theorem wBY (p0:List Int) (ae:Option Addr) (aq:Nat) (w:World) (U:PHeap) (hS:St0 w U []) (ap:Sl U 1 ae aq p0.length (hH KL.encI p0)) {r:(List Int)} (hm:wAW p0=some r):Gv Tryz.prog 56 [.slice ae p0.length aq] w (wCb w [] U (fun U_ L_ v=>∃ (A0:Option Addr) (c0:Nat),v=.slice A0 r.length c0/\L_=[.row A0 c0 3 1 (hH KL.encI r)])):=by
 unfold wAW at hm
 refine Gv.of Tryz.func56 Z Tryz.ntmps56 Tryz.results56 Z (sR fL1 Z (oA Z Z (eN (zD (sR fL2 Z (oM Z Z (oR Z (Runs.eqNil Z Z Z zA) (eN ?_))))))))
 by_cases c1:ae.isNone=true
 replace c1:=zE c1
 have bb:p0=[]:=List.eq_nil_of_length_eq_zero (Sl.nilA (Option.isNone_iff_eq_none.1 c1.out ▸ ap))
 have ba:(some [])=some r:=by simpa [bb,app] using hm
 refine zt (congrArg nA c1.out) (sR fL1 Z (oA Z Z (eN (zI (zH ?_)))))
 have aX:=hS.nilrow 3 1
 cases ba
 exact ⟨Z,_,(zn Z),U,_,aX,none,0,Z,Z⟩
 replace c1:=zE c1
 refine zp (congrArg nA (nB.2 c1.out)) (kN (sR (.fx 0 gAp .stop) Z (OKS.buildSlice0 1 Z Z Z Z Z zA zN hS ?_)))
 intro W6 b7 aY
 have am:sW w U U [.row (some ⟨b7,0,none⟩) 0 3 1 (hH KL.encI ([]:List Int))] W6:=aY
 refine oM Z Z (bnK hm fun au aU aZ=>OKS.append (j:=0) (enc:=KL.encI) (xs:=([]:List Int)) (ys:=p0) (zs:=au) Z Z Z Z Z Tryz.underlying22 wQV Z Z Z Z Z Z am Z Z Z (am.srcS ap) (fun _=>Z) (fun _=>Z) aU Z ?_)
 intro ai ak az aV
 have aW:sW w U U [.row ai ak 3 1 (hH KL.encI au)] az:=aV
 refine oA Z Z (eN (zI ?_))
 have hE:=nD aZ;first | subst r | cases hE
 exact ⟨Z,_,(zn Z),U,_,aW,ai,ak,Z,Z⟩
theorem wCx (p0:wAF) (am:Nat) (ai:Option Addr) (ap:Nat) (aj:Option Addr) (aq:Nat) (ak:Option Addr) (au:Nat) (ab:Nat) (az:Array MapEntry) (aS:Nat) (p1:Int) (p2:Int) (w:World) (U:PHeap) (hS:St0 w U [.blk am 118 ([.slice ai p0.Bout.Shots.length ap,.slice aj p0.Bout.Down.length aq,.slice ak p0.Bout.Across.length au,.map (some ab)] ++ ((hH KL.encI p0.hits.l) ++ ((hH KL.encI p0.used.l) ++ (hH KL.encT p0.met.l)))),.obj ab (.map az aS)]) (aU:Sl U 1 ai ap p0.Bout.Shots.length (hH KL.encI p0.Bout.Shots)) (aV:Sl U 1 aj aq p0.Bout.Down.length (hH KL.encI p0.Bout.Down)) (aW:Sl U 2 ak au p0.Bout.Across.length (hH wAA p0.Bout.Across)) (aT:MpR az wDP wDl p0.may) {r:Bool} (hm:wAj p0 p1 p2=some r):Gv Tryz.prog 57 [.pointer (some ⟨am,0,none⟩),jV p1,jV p2] w (wCb w [.blk am 118 ([.slice ai p0.Bout.Shots.length ap,.slice aj p0.Bout.Down.length aq,.slice ak p0.Bout.Across.length au,.map (some ab)] ++ ((hH KL.encI p0.hits.l) ++ ((hH KL.encI p0.used.l) ++ (hH KL.encT p0.met.l)))),.obj ab (.map az aS)] U (fun U_ L_ v=>v=.bool r/\L_=[.blk am 118 ([.slice ai p0.Bout.Shots.length ap,.slice aj p0.Bout.Down.length aq,.slice ak p0.Bout.Across.length au,.map (some ab)] ++ ((hH KL.encI p0.hits.l) ++ ((hH KL.encI p0.used.l) ++ (hH KL.encT p0.met.l)))),.obj ab (.map az aS)])):=by
 unfold wAj at hm
 refine Gv.of Tryz.func57 Z Tryz.ntmps57 Tryz.results57 Z (sR fL1 Z (oA Z Z (eN (sR fL9 Z (oM Z Z (oR Z (ZH Z Z) (oR Z (zU Z Z zf Z Tryz.sizeOf111) (oL Z (hS.ldB (j:=0) Z Z Z Tryz.isAgg111 (v:=.map (some ab)) Z) (oM Z Z (oM Z Z (oR Z (Runs.build (pv:=[(0,jV p1),(1,jV p2)]) (z:=[jV 0,jV 0]) (cs:=[jV p1,jV p2]) Z (wBq Z (wBq Z wDL)) Tryz.zeroValue59 wIV Z Z) (oL Z (hS.lookup1 (j:=1) (mk:=wDP) (mv:=wDl) (a:=(⟨p1,p2⟩:wAC)) (z:=false) Z Z Z Z (wEr Tryz.runUnderlying111) wIW Tryz.zeroValue4 aT) (oA Z Z (eN (zI ?_)))))))))))))))
 cases hm
 exact ⟨Z,_,(zn Z),U,_,hS,Z,Z⟩
theorem wEm (p0:wAF) (am:Nat) (ai:Option Addr) (ap:Nat) (aj:Option Addr) (aq:Nat) (ak:Option Addr) (au:Nat) (ah:Nat) (aT:Array MapEntry) (aU:Nat) (p1:Int) (p2:Int) (w:World) (U:PHeap) (hS:St0 w U []) (az:Cl U am 0 ([.slice ai p0.Bout.Shots.length ap,.slice aj p0.Bout.Down.length aq,.slice ak p0.Bout.Across.length au,.map (some ah)] ++ ((hH KL.encI p0.hits.l) ++ ((hH KL.encI p0.used.l) ++ (hH KL.encT p0.met.l))))) (aV:Sl U 1 ai ap p0.Bout.Shots.length (hH KL.encI p0.Bout.Shots)) (aW:Sl U 1 aj aq p0.Bout.Down.length (hH KL.encI p0.Bout.Down)) (aX:Sl U 2 ak au p0.Bout.Across.length (hH wAA p0.Bout.Across)) (aS:MpF U ah aT aU wDP wDl p0.may) {r:Bool} (hm:wCE p0 p1 p2=some r):Gv Tryz.prog 57 [.pointer (some ⟨am,0,none⟩),jV p1,jV p2] w (wCb w [] U (fun U_ L_ v=>v=.bool r/\L_=[])):=by
 unfold wCE at hm
 refine Gv.of Tryz.func57 Z Tryz.ntmps57 Tryz.results57 Z (sR fL1 Z (oA Z Z (eN (sR fL9 Z (oM Z Z (oR Z (ZH Z Z) (oR Z (zU Z Z zf Z Tryz.sizeOf111) (oL Z (hS.ldC (f:=3) az (v:=.map (some ah)) Z Z Tryz.isAgg111 Z) (oM Z Z (oM Z Z (oR Z (Runs.build (pv:=[(0,jV p1),(1,jV p2)]) (z:=[jV 0,jV 0]) (cs:=[jV p1,jV p2]) Z (wBq Z (wBq Z wDL)) Tryz.zeroValue59 wIV Z Z) (oL Z (hS.lookupF1 (mk:=wDP) (mv:=wDl) (a:=(⟨p1,p2⟩:wAC)) (z:=false) aS Z Z Z (wEr Tryz.runUnderlying111) wIW Tryz.zeroValue4) (oA Z Z (eN (zI ?_)))))))))))))))
 cases hm
 exact ⟨Z,_,(zn Z),U,_,hS,Z,Z⟩
theorem wEY (p0:Int) (w:World) (U:PHeap) (hS:St0 w U [])  {r:Bool} (hm:wBR p0=some r):Gv Tryz.prog 58 [jV p0] w (wCb w [] U (fun U_ L_ v=>v=.bool r/\L_=[])):=by
 unfold wBR at hm
 refine Gv.of Tryz.func58 Z Tryz.ntmps58 Tryz.results58 Z (sR fL1 Z (oA Z Z (eN (sR fL3 Z (oM Z Z (oR Z (Runs.geq Z Z Z) (oA Z Z (eN (zI ?_)))))))))
 first | (obtain rfl:=nD hm) | cases hm
 exact ⟨Z,_,(zn Z),U,_,hS,Z,Z⟩
theorem wEZ (p0:Int) (w:World) (U:PHeap) (hS:St0 w U [])  {r:Bool} (hm:wBS p0=some r):Gv Tryz.prog 59 [jV p0] w (wCb w [] U (fun U_ L_ v=>v=.bool r/\L_=[])):=by
 unfold wBS at hm
 refine Gv.of Tryz.func59 Z Tryz.ntmps59 Tryz.results59 Z (sR fL1 Z (oA Z Z (eN (sR fL3 Z (oM Z Z (oR Z (Ze Z Z Z) (oA Z Z (eN (zI ?_)))))))))
 first | (obtain rfl:=nD hm) | cases hm
 exact ⟨Z,_,(zn Z),U,_,hS,Z,Z⟩
theorem wIY (p0:wAB) (bv:Option Addr) (bw:Nat) (bG:Option Addr) (bH:Nat) (cY:Option Addr) (da:Nat) (p1:List (List Int)) (bB:Option Addr) (bC:Nat) (w:World) (U:PHeap) (hS:St0 w U []) (dU:Sl U 1 bv bw p0.Shots.length (hH KL.encI p0.Shots)) (dV:Sl U 1 bG bH p0.Down.length (hH KL.encI p0.Down)) (mp:Sl U 2 cY da p0.Across.length (hH wAA p0.Across)) (fP:SlR U wEV bB bC p1) {r:Bool × Int} (hm:wBc p0 p1=some r):Gv Tryz.prog 13 [.agg #[.slice bv p0.Shots.length bw,.slice bG p0.Down.length bH,.slice cY p0.Across.length da],.slice bB p1.length bC] w (wCb w [] U (fun U_ L_ v=>v=.tuple #[.bool r.1,jV r.2]/\L_=[])):=by
 unfold wBc at hm
 refine Gv.of Tryz.func13 Z Tryz.ntmps13 Tryz.results13 Z (sR gAo Z ?_)
 let B0:List Value:=[.slice bv p0.Shots.length bw,.slice bG p0.Down.length bH,.slice cY p0.Across.length da]
 refine ZI (cs:=B0) rfl rfl rfl rfl rfl rfl (by rfl) hS ?_
 intro W1 b2 fH
 refine oA Z Z (oA Z Z (eN (sR (.fl 0 (.fx 1 (wJL (.nil)) .stop)) Z (oL Z (fH.ldBA (j:=0) Z Z Z ZJ zr (vs:=B0) Z Z) ?_))))
 have q:=bnd hm
 obtain ⟨⟨x5,x6⟩,h7,cj⟩:=q
 try dsimp only at cj
 refine zK 0 Z Z Z Z (zJ Z Z Tryz.call53 (zB Z zP) Z) fH (fun hs=>wDA p0 bv bw bG bH cY da W1 U hs dU dV mp h7) (.inr Z) ?_
 rintro U9 pu qA eP bV fD fB
 rcases x5 with _ | aa
 try dsimp only at cj
 obtain ⟨rfl,rfl⟩:=fB
 have fE:sW w U U9 [.blk b2 25 B0] eP:=fD
 refine oM Z Z (oR Z (zz Z Z (v:=.pointer none) Z) (oR Z (zz Z Z (v:=jV x6) Z) (oA Z Z (oA Z Z (eN (sR (wKI gAk) Z (oR Z (zU Z Z zO Z zS) (oL Z (fE.ldB (j:=0) Z Z Z zY (v:=.slice bv p0.Shots.length bw) Z) (oR Z (zi Z Z zA) (ZE (cs:=[jV 0]) Z Z Z Z Z Tryz.zeroValue3 Z fE ?_))))))))))
 intro pQ bN lI
 let B1:List Value:=[jV (↑p0.Shots.length:Int)]
 refine Zg (j:=0) (vs:=B1) Z Z Z Z lI Z Z Z Z zN (zg Z) Z Z Z ?_
 intro dB lN
 have cL:sW w U U9 [.blk bN 3 B1,.blk b2 25 B0] dB:=lN
 refine eN (zD (zd (sR fL3 Z (oM Z Z (oR Z (zw Z Z Z) (oA Z Z (eN (ifc cj ?_ ?_))))))))
 intro dI oe
 refine zp (zk (fun h=>h dI.out)) (sR (wNs (.fx 7 (wNu (.nil)) .stop)) Z (oM Z Z (oR Z (zi Z Z zl) (oL Z (cL.ldB (j:=0) Z Z Z zQ (v:=jV (↑p0.Shots.length:Int)) Z) (oR Z (zw Z Z Z) (oM Z Z (ifc oe ?_ ?_)))))))
 intro bq og
 refine zW Z Z Z (zC Z Z (zk (fun h=>h bq.out))) Z Z ?_
 have q:=cL.freeze (k:=0) rfl
 obtain ⟨cr,eb,cg,lV⟩:=q
 replace cg:=Cl.of cg
 have lW:sW w U cr [.blk b2 25 B0] dB:=lV
 replace cg:Cl cr bN 0 B1:=cg
 refine zX Z Z Z (zC Z Z (zk (fun h=>h bq.out))) (fun _=>Runs.mkf Z zP (zB Z zP)) ?_
 have jq:=fP.le bV
 have fz:=jq.le eb
 have lu:FnOK Tryz.prog cr (.func (.func 55) #[] #[.pointer (some ⟨bN,0,none⟩)]) wJy wJz (fun x=>wBE x (↑p0.Shots.length:Int)):=⟨55,[],[.pointer (some ⟨bN,0,none⟩)],rfl,Tryz.call55,fun U1 w1 x y vs le hs ha hm=>by obtain ⟨pA_0,pc_0,rfl,hq0_0⟩:=ha;exact wEW x pA_0 pc_0 (↑p0.Shots.length:Int) bN w1 U1 hs hq0_0 (cg.le le) hm⟩
 refine bnK og fun x47 jv oj=>zK 0 Z Z Z (zC Z Z (zk (fun h=>h bq.out))) (zJ Z Z Tryz.call54 (zB Z (zB Z zP)) Z) lW (fun hs=>wDQ p1 bB bC (fun x=>wBE x (↑p0.Shots.length:Int)) (.func (.func 55) #[] #[.pointer (some ⟨bN,0,none⟩)]) dB cr hs fz lu jv) (.inr Z) ?_
 rintro dw pF qH dE ed lZ ⟨rfl,rfl⟩
 have fN:sW w U dw [.blk b2 25 B0] dE:=lZ
 refine zX Z Z Z (zC Z Z (zk (fun h=>h bq.out))) (fun _=>ZQ Z Z) (oR Z (zM Z (zk (fun h=>h bq.out)) Z) (oA Z Z (eN (ifc oj ?_ ?_))))
 intro dK oH
 refine zp (nC dK.out) (ZG (zj (zG (zD (ZP ZL [3,1,2,3,1,2,3,3] gAu (by kernel_rfl) ?_)))))
 have cN:=fN.drew
 generalize hw_W60:({ dE with drawn:=dE.drawn + 1 }:World)=gz at cN ⊢
 refine oR Z (zU Z Z zO Z zS) (oL Z (cN.ldB (j:=0) Z Z Z zY (v:=.slice bv p0.Shots.length bw) Z) (oR Z (zU Z Z zO Z zS) (oL Z (cN.ldB (j:=0) Z Z Z zY (v:=.slice bG p0.Down.length bH) Z) ?_)))
 have jU:=dU.le bV
 have jW:=jU.le eb
 have jY:=jW.le ed
 refine bnK oH fun en j0 oY=>zK 0 Z Z Z Z (zJ Z Z Tryz.call56 (zB Z zP) Z) cN (fun hs=>wBY p0.Shots bv bw gz dw hs jY j0) (.inr Z) ?_
 rintro eO pJ qK eV gh mh ⟨bz,bA,rfl,rfl⟩
 let B2:Res:=.row bz bA 3 1 (hH KL.encI en)
 have mi:sW w U eO [B2,.blk b2 25 B0] eV:=mh
 have j5:=dV.le bV
 have j6:=j5.le eb
 have j7:=j6.le ed
 have j8:=j7.le gh
 refine bnK oY fun x81 j9 cR=>zK 0 Z Z Z Z (zJ Z Z Tryz.call56 (zB Z zP) Z) mi (fun hs=>wBY p0.Down bG bH eV eO hs j8 j9) (.inr Z) ?_
 rintro dz pK qL gB ph mn ⟨bl,br,rfl,rfl⟩
 have mo:sW w U dz [.row bl br 3 1 (hH KL.encI x81),B2,.blk b2 25 B0] gB:=mn
 refine oA Z Z (oA Z Z (eN (zD (sR fL3 Z (oM Z Z (oR Z (zi Z Z zl) (oM Z Z (eN (zd ?_)))))))))
 have q:=wBp cR
 obtain ⟨qw,cO⟩:=q
 have q:=wCA cO
 obtain ⟨d4,mz⟩:=q
 replace d4:=zE d4
 refine Zf (fun aZ (cS,cU) σ_ w_=>∃ (U_:PHeap),σ_ 46=jV (↑aZ:Int)/\σ_ 6=.pointer none/\σ_ 9=.slice bz cS.length bA/\σ_ 10=.slice bl cU.length br/\σ_ 44=.slice bB p1.length bC/\σ_ 45=jV (↑p1.length:Int)/\PHeap.Le dz U_/\sW w U U_ [.blk b2 25 B0,.row bz bA 3 1 (hH KL.encI cS),.row bl br 3 1 (hH KL.encI cU)] w_/\cS.length=en.length/\cU.length=x81.length) mz ?_ ?_ ?_
 exact ⟨dz,rfl,rfl,rfl,rfl,rfl,rfl,(zZ _),(mo.pick [2,1,0] _ (by decide) rfl),rfl,rfl⟩
 rintro aZ ⟨cS,cU⟩ qU rj pN dW ⟨dm,cB,gP,gQ,gR,fb,fc,gf,fC,iJ,iK⟩ fZ fQ
 try dsimp only at fZ
 have eW:Hid ((↑aZ:Int) < (↑p1.length:Int)):=zE (wBz dW)
 replace dW:=zE dW
 have mL:Hid (w64 ((↑aZ:Int) + 1)=(↑(aZ + 1):Int)):=zE (by have h1:=d4.out;have h2:=eW.out;rw [wAO] <;> omega)
 refine sR fL1 Z (oR Z (ze Z cB fc) (eN (zD (cT Z eW (kN (zD (zd (sR fL5 Z (oM Z cB (bnK fZ fun bM ft cQ=>?_))))))))))
 have iL:=fz.le ed
 have iM:=iL.le gh
 have iN:=iM.le ph
 have iO:=iN.le gf
 have q:=iO.el (wAN ft)
 obtain ⟨gC,pi,qM,lf,dQ,o0⟩:=q
 obtain ⟨ef,eh,rfl,iP⟩:=o0
 replace dQ:Cl dm gC (pi + aZ * 1) [.slice ef bM.length eh]:=dQ
 refine oR Z (zu Z fb lf cB zl zS (wBP ft)) (oL Z (fC.ldC (f:=0) dQ (v:=.slice ef bM.length eh) Z Z zY Z) (oA Z Z (oA Z Z (eN (sR fL3 Z (oM Z Z (oR Z (zi Z Z zA) (oM Z Z (eN (zd ?_))))))))))
 have q:=wBp cQ
 obtain ⟨qx,cP⟩:=q
 have q:=wCA cP
 obtain ⟨d5,mA⟩:=q
 replace d5:=zE d5
 refine Zf (fun bj (bb,aY) σ_ w_=>∃ (U_:PHeap),σ_ 53=jV (↑bj:Int)/\σ_ 6=.pointer none/\σ_ 9=.slice bz bb.length bA/\σ_ 10=.slice bl aY.length br/\σ_ 11=jV (↑aZ:Int)/\σ_ 44=.slice bB p1.length bC/\σ_ 45=jV (↑p1.length:Int)/\σ_ 46=jV (↑aZ:Int)/\σ_ 51=.slice ef bM.length eh/\σ_ 52=jV (↑bM.length:Int)/\PHeap.Le dm U_/\sW w U U_ [.blk b2 25 B0,.row bz bA 3 1 (hH KL.encI bb),.row bl br 3 1 (hH KL.encI aY)] w_/\bb.length=en.length/\aY.length=x81.length) mA ?_ ?_ ?_
 exact ⟨dm,Z,gP,gQ,gR,Z,fb,fc,cB,Z,Z,(zZ _),fC,iJ,iK⟩
 rintro bj ⟨bb,aY⟩ qV rn eQ dX ⟨bY,cC,fd,dL,dM,cu,gS,gT,gU,fe,ff,gg,cJ,iQ,iU⟩ ga fR
 try dsimp only at ga
 have eX:Hid ((↑bj:Int) < (↑bM.length:Int)):=zE (wBz dX)
 replace dX:=zE dX
 have mM:Hid (w64 ((↑bj:Int) + 1)=(↑(bj + 1):Int)):=zE (by have h1:=d5.out;have h2:=eX.out;rw [wAO] <;> omega)
 refine sR fL1 Z (oR Z (ze Z cC ff) (eN (zD (cT Z eX (kN (zD (zd (sR fL5 Z (oM Z cC (bnK ga fun bD fu mP=>?_))))))))))
 have iV:=iP.le gg
 have q:=iV.el (fun _=>rfl) (wAN fu)
 obtain ⟨pV,qu,lg,lj⟩:=q
 refine oR Z (zu Z fe lg cC zA zN (wBP fu)) (oL Z (cJ.ldC (f:=0) lj (v:=jV bD) Z Z zQ Z) (oA Z Z (oA Z Z (eN (zD (sR (wHy (.fx 13 (wNw (.nil)) .stop)) Z (oM Z Z (oR Z (ze Z Z Z) (oM Z Z (ifc mP ?_ ?_))))))))))
 intro bI mQ
 refine oT Z bI (oT Z bI (oR Z (zR Z (ZX bI.out) Z) (oM Z Z (oN Z (oN Z (oN Z (zL Z Z Z (wAH Z Z Z) (zL Z Z Z (wAH Z Z Z) (zL Z Z Z (wAH Z Z Z) (ZF Z Z Z (wAH Z Z Z) (zL Z Z Z (wAH Z Z Z) (oN Z (oR Z (zR Z Z Z) (eN (zt Z (sR fL2 Z (oA Z Z (oA Z Z (eN (zI (zH (zV (zH ?_)))))))))))))))))))))))
 have q:=wAI mQ
 obtain ⟨pk,mR,gJ⟩:=q
 have q:=wBI cQ cP (fR pk gJ)
 obtain rfl:=q
 refine zH (zV (zV (zH ?_)))
 have q:=wAI mR
 obtain ⟨pm,mS,gK⟩:=q
 have q:=wBI cR cO (fQ pm gK)
 obtain rfl:=q
 refine zH (zV (zH ?_))
 cases mS
 exact ⟨rfl,_,(wDX rfl rfl),bY,_,(cJ.pick [] _ (by decide) rfl),rfl,rfl⟩
 intro bI mT
 refine zW Z Z Z (wF Z bI) Z Z (rU Z (wF Z bI) (ZR Z Z Z) (oR Z (zM Z (zk bI.out) Z) (oM Z Z (ifc mT ?_ ?_))))
 intro bn mU
 refine oT Z bn (oT Z bn (oT Z bn (zL Z Z Z (wAH Z Z Z) (zL Z Z Z (wAH Z Z Z) (zL Z Z Z (wAH Z Z Z) (ZF Z Z Z (wAH Z Z Z) (zL Z Z Z (wAH Z Z Z) (oT Z bn (oR Z (zR Z (ZX bn.out) Z) (eN (zt Z (sR fL2 Z (oA Z Z (oA Z Z (eN (zI (zH (zV (zH ?_)))))))))))))))))))
 have q:=wAI mU
 obtain ⟨pn,mV,gL⟩:=q
 have q:=wBI cQ cP (fR pn gL)
 obtain rfl:=q
 refine zH (zV (zV (zH ?_)))
 have q:=wAI mV
 obtain ⟨po,mW,gM⟩:=q
 have q:=wBI cR cO (fQ po gM)
 obtain rfl:=q
 refine zH (zV (zH ?_))
 cases mW
 exact ⟨rfl,_,(wDX rfl rfl),bY,_,(cJ.pick [] _ (by decide) rfl),rfl,rfl⟩
 intro bn mX
 refine zW Z Z Z (wF Z bn) Z Z (rU Z (wF Z bn) (ZR Z Z Z) (zW Z Z Z (wF Z bn) Z Z (ifc mX ?_ ?_)))
 intro bu mY
 refine zW Z Z Z (wT Z bu) Z fd (zW Z Z Z (wT Z bu) Z cu (zW Z Z Z (wT Z bu) Z Z ?_))
 cases mY
 intro bu mZ
 refine zL rfl rfl rfl (zF rfl rfl (zk bu.out) rfl) (zL rfl rfl rfl (zF rfl rfl (zk bu.out) rfl) (zL rfl rfl rfl (zF rfl rfl (zk bu.out) rfl) (ZF rfl rfl rfl (zF rfl rfl (zk bu.out) rfl) (zL rfl rfl rfl (zF rfl rfl (zk bu.out) rfl) (zX rfl rfl rfl (zC rfl rfl (zk bn.out)) (fun _=>zM rfl (zk bu.out) rfl) (zX rfl rfl rfl rfl (fun _=>zM rfl (zk bn.out) rfl) (eN (zp rfl (kN (ZP ZL [3,3,3,3,3,3,3,1,3,3,3,3,3,1,3,3,3,0,3,0] (wNt gAq) (by kernel_rfl) ?_))))))))))
 have bT:=cJ.drew
 generalize hw_W212:({ eQ with drawn:=eQ.drawn + 1 }:World)=pO at bT ⊢
 refine oM Z dL (oM Z cu (oM Z dM (oM Z Z (oM Z dL (oM Z cu (bnK mZ fun _ bP m0=>?_))))))
 obtain ⟨pW,cE⟩:=bT.rowSome (j:=1) rfl (by rw [wAJ (f:=KL.encI) (sz:=1) (fun _=>rfl) bb];have hz:=wAe bP;omega)
 refine oR Z (zu Z Z cE Z zA zN (wAe bP)) ?_
 have mD:=wEO (xs:=bb) (wAe bP)
 refine zx rfl rfl rfl rfl (bT.ldR (j:=1) rfl cE rfl rfl zQ (wDd (sz:=1) (fun _=>rfl) _ _ 0 _ mD (by first | omega | rfl | simp) rfl)) rfl (zW rfl rfl rfl rfl rfl rfl (zX rfl rfl rfl rfl (fun _=>ZY rfl rfl rfl) (zW rfl rfl rfl rfl rfl dM (zW rfl rfl rfl rfl rfl rfl (bnK m0 fun _ bQ m4=>?_)))))
 obtain ⟨pX,cG⟩:=bT.rowSome (j:=2) rfl (by rw [wAJ (f:=KL.encI) (sz:=1) (fun _=>rfl) aY];have hz:=wAe bQ;omega)
 refine oR Z (zu Z Z cG Z zA zN (wAe bQ)) ?_
 have mE:=wEO (xs:=aY) (wAe bQ)
 refine zx rfl rfl rfl rfl (bT.ldR (j:=2) rfl cG rfl rfl zQ (wDd (sz:=1) (fun _=>rfl) _ _ 0 _ mE (by first | omega | rfl | simp) rfl)) rfl (zW rfl rfl rfl rfl rfl rfl (zX rfl rfl rfl rfl (fun _=>ZY rfl rfl rfl) (zX rfl rfl rfl rfl (fun _=>zu rfl rfl cE rfl zA zN (wAe bP)) ?_)))
 have mF:=wEO (xs:=bb) (wAe bP)
 refine OKS.stR (j:=1) (vs:=[jV (w64 ((gd bb aZ) - bD))]) (cs':=hH KL.encI (nL bb aZ (w64 ((gd bb aZ) - bD)))) rfl rfl rfl rfl bT rfl cE rfl rfl rfl zN (by rw [wAJ (f:=KL.encI) (sz:=1) (fun _=>rfl)];have hz:=wAe bP;show _ + 1 <= _;first | omega | (simp only [nI];omega) | (simp only [nH,nE,nG];omega)) rfl (wIF (sz:=1) (fo:=0) (fun _=>rfl) _ _ _ _ mF (by first | omega | (simp only [nI];omega) | (simp only [nH,nE,nG];omega)) (zg rfl) rfl) rfl ?_
 intro gm lx
 let B3:Res:=.row bz bA 3 1 (hH KL.encI (nL bb aZ (w64 ((gd bb aZ) - bD))))
 have ly:sW w U bY [.blk b2 25 B0,B3,.row bl br 3 1 (hH KL.encI aY)] gm:=lx
 refine oR Z (zu Z Z cG Z zA zN (wAe bQ)) ?_
 have mG:=wEO (xs:=aY) (wAe bQ)
 refine OKS.stR (j:=2) (vs:=[jV (w64 ((gd aY bj) - bD))]) (cs':=hH KL.encI (nL aY bj (w64 ((gd aY bj) - bD)))) rfl rfl rfl rfl ly rfl cG rfl rfl rfl zN (by rw [wAJ (f:=KL.encI) (sz:=1) (fun _=>rfl)];have hz:=wAe bQ;show _ + 1 <= _;first | omega | (simp only [nI];omega) | (simp only [nH,nE,nG];omega)) rfl (wIF (sz:=1) (fo:=0) (fun _=>rfl) _ _ _ _ mG (by first | omega | (simp only [nI];omega) | (simp only [nH,nE,nG];omega)) (zg rfl) rfl) rfl ?_
 intro gp lz
 have lA:sW w U bY [.blk b2 25 B0,B3,.row bl br 3 1 (hH KL.encI (nL aY bj (w64 ((gd aY bj) - bD))))] gp:=lz
 refine zq (zj (zG (rR fL2 Z (oR Z (ZB (zo Z cC Z) (congrArg (jV) mM.out)) (oM Z Z (zq ?_))))))
 have q:=nD m4
 obtain rfl:=q
 exact zG ⟨rfl,_,rfl,⟨bY,rfl,fd,(nP (b:=(.slice bz bb.length bA:Value)) (c:=(.slice bz ((nL bb aZ (w64 ((gd bb aZ) - bD))).length) bA:Value)) dL (by simp only [nK])),(nP (b:=(.slice bl aY.length br:Value)) (c:=(.slice bl ((nL aY bj (w64 ((gd aY bj) - bD))).length) br:Value)) dM (by simp only [nK])),cu,gS,gT,gU,fe,ff,gg,lA,(nK.trans iQ),(nK.trans iU)⟩⟩
 rintro ⟨qY,qZ⟩ ro pP ⟨gi,iF,gW,gX,gZ,p7,g6,g7,g8,p8,g9,pb,lB,iW,iX⟩ mq
 have fS:=wCR cQ cP mq
 try dsimp only at fS
 have gF:Hid (¬ ((↑(((↑bM.length:Int):Int) - 0).toNat:Int) < (↑bM.length:Int))):=zE (wBO)
 refine sR fL1 Z (oR Z (ze Z iF g9) (eN (zD (cF Z gF (ZC (zh (zh (zy (zj (zG (rR fL2 Z (oR Z (ZB (zo Z g8 Z) (congrArg (jV) mL.out)) (oM Z Z (zq ?_))))))))))))))
 have q:=nD fS
 obtain rfl:=q
 exact zG ⟨Z,_,Z,⟨gi,Z,gW,gX,gZ,g6,g7,(gf.trans pb),lB,iW,iX⟩⟩
 rintro ⟨eu,de⟩ rp eR ⟨pL,iG,p9,ib,ic,qa,ie,qj,lC,qf,qg⟩ mr
 have fT:=wCR cR cO mr
 try dsimp only at fT
 have gG:Hid (¬ ((↑(((↑p1.length:Int):Int) - 0).toNat:Int) < (↑p1.length:Int))):=zE (wBO)
 refine sR fL1 Z (oR Z (ze Z iG ie) (eN (zD (cF Z gG (ZC (zh (zh (zy (zG (sR (.fl 0 (.fx 1 (.fl 2 (.fl 3 (.fx 4 (wSL (.nil)) .stop))) .stop)) Z (oM Z ib ?_)))))))))))
 have q:=lC.freezeR (k:=1) (n:=eu.length) rfl (wAJ (f:=KL.encI) (sz:=1) (fun _=>rfl) eu) (by decide)
 obtain ⟨dp,qk,o6,lD⟩:=q
 let B4:Res:=.row bl br 3 1 (hH KL.encI de)
 have lE:sW w U dp [.blk b2 25 B0,B4] eR:=lD
 have lp:FnOK Tryz.prog dp (.func (.func 58) #[] #[]) wJx wLQ wBR:=⟨58,[],[],rfl,Tryz.call58,fun U1 w1 x y vs le hs ha hm=>by obtain rfl:=ha;exact wEY x w1 U1 hs  hm⟩
 refine bnK fT fun qO iY m5=>zK 0 Z Z Z Z (zJ Z Z Tryz.call47 (zB Z (zB Z zP)) Z) lE (fun hs=>wBk eu bz bA wBR (.func (.func 58) #[] #[]) eR dp hs o6 lp iY) (.inr Z) ?_
 rintro eH py qB dA ql lF ⟨rfl,rfl⟩
 have fG:sW w U eH [.blk b2 25 B0,B4] dA:=lF
 refine oM Z Z (ifc m5 ?_ ?_)
 intro bJ m6
 refine zW Z Z Z (zC Z Z (congrArg nA bJ.out)) Z ic ?_
 have q:=fG.freezeR (k:=1) (n:=de.length) rfl (wAJ (f:=KL.encI) (sz:=1) (fun _=>rfl) de) (by decide)
 obtain ⟨dq,qm,o7,lG⟩:=q
 have lH:sW w U dq [.blk b2 25 B0] dA:=lG
 have lq:FnOK Tryz.prog dq (.func (.func 59) #[] #[]) wJx wLQ wBS:=⟨59,[],[],rfl,Tryz.call59,fun U1 w1 x y vs le hs ha hm=>by obtain rfl:=ha;exact wEZ x w1 U1 hs  hm⟩
 refine bnK m6 fun qP iZ m7=>zK 0 Z Z Z (zC Z Z (congrArg nA bJ.out)) (zJ Z Z Tryz.call47 (zB Z (zB Z zP)) Z) lH (fun hs=>wBk de bl br wBS (.func (.func 59) #[] #[]) dA dq hs o7 lq iZ) (.inr Z) ?_
 rintro eI pz qC gq qn lJ ⟨rfl,rfl⟩
 have lK:sW w U eI [.blk b2 25 B0] gq:=lJ
 refine oR Z (zR Z (congrArg nA bJ.out) Z) (oA Z Z (oA Z Z (eN (zI ?_))))
 cases m7
 exact ⟨rfl,_,(wDX rfl rfl),eI,_,(lK.pick [] _ (by decide) rfl),rfl,rfl⟩
 intro bJ m8
 refine zL Z Z Z (zF Z Z (congrArg nA (nB.2 bJ.out)) Z) (ZF Z Z Z (zF Z Z (congrArg nA (nB.2 bJ.out)) Z) (oR Z (zM Z (congrArg nA (nB.2 bJ.out)) Z) (oA Z Z (oA Z Z (eN (zI ?_))))))
 cases m8
 exact ⟨rfl,_,(wDX rfl rfl),eH,_,(fG.pick [] _ (by decide) rfl),rfl,rfl⟩
 intro dK m9
 refine zt (nF (dK.out)) (sR fL2 Z (oA Z Z (oA Z Z (eN (zI (zV (zH ?_)))))))
 cases m9
 exact ⟨rfl,_,(wDX rfl rfl),dw,_,(fN.pick [] _ (by decide) rfl),rfl,rfl⟩
 intro bq n5
 refine oT Z bq (oT Z bq (ZF Z Z Z (zF Z Z (ZX bq.out) Z) (oT Z bq (oR Z (zR Z (ZX bq.out) Z) (oA Z Z (eN (zt Z (sR fL2 Z (oA Z Z (oA Z Z (eN (zI (zV (zH ?_))))))))))))))
 cases n5
 exact ⟨rfl,_,(wDX rfl rfl),U9,_,(cL.pick [] _ (by decide) rfl),rfl,rfl⟩
 intro dI n6
 refine cT Z dI (sR fL3 Z (oM Z Z (oA Z Z (oA Z Z (eN (zI (zV (zH ?_))))))))
 cases n6
 exact ⟨rfl,_,(wDX rfl rfl),U9,_,(cL.pick [] _ (by decide) rfl),rfl,rfl⟩
 try dsimp only at cj
 obtain ⟨aj,ap,az,aq,aS,au,aT,ae,aV,aU,rfl,rfl,i0,i4,i5,i6⟩:=fB
 have fJ:sW w U U9 [.blk aj 118 ([.slice ap aa.Bout.Shots.length az,.slice aq aa.Bout.Down.length aS,.slice au aa.Bout.Across.length aT,.map (some ae)] ++ ((hH KL.encI aa.hits.l) ++ ((hH KL.encI aa.used.l) ++ (hH KL.encT aa.met.l)))),.obj ae (.map aV aU),.blk b2 25 B0] eP:=fD
 refine oM Z Z (oR Z (zz Z Z (v:=.pointer (some ⟨aj,0,none⟩)) Z) (oR Z (zz Z Z (v:=jV x6) Z) (oA Z Z (oA Z Z (eN (sR (wKI gAk) Z (oR Z (zU Z Z zO Z zS) (oL Z (fJ.ldB (j:=2) Z Z Z zY (v:=.slice bv p0.Shots.length bw) Z) (oR Z (zi Z Z zA) (ZE (cs:=[jV 0]) Z Z Z Z Z Tryz.zeroValue3 Z fJ ?_))))))))))
 intro pR bO lL
 let B5:List Value:=[jV (↑p0.Shots.length:Int)]
 refine Zg (j:=0) (vs:=B5) Z Z Z Z lL Z Z Z Z zN (zg Z) Z Z Z ?_
 intro dC lM
 have cK:sW w U U9 [.blk bO 3 B5,.blk aj 118 ([.slice ap aa.Bout.Shots.length az,.slice aq aa.Bout.Down.length aS,.slice au aa.Bout.Across.length aT,.map (some ae)] ++ ((hH KL.encI aa.hits.l) ++ ((hH KL.encI aa.used.l) ++ (hH KL.encT aa.met.l)))),.obj ae (.map aV aU),.blk b2 25 B0] dC:=lM
 refine eN (zD (zd (sR fL3 Z (oM Z Z (oR Z (zw Z Z Z) (oA Z Z (eN (ifc cj ?_ ?_))))))))
 intro dG n7
 refine zp (zk (fun h=>h dG.out)) (sR (wNs (.fx 7 (wNu (.nil)) .stop)) Z (oM Z Z (oR Z (zi Z Z zl) (oL Z (cK.ldB (j:=0) Z Z Z zQ (v:=jV (↑p0.Shots.length:Int)) Z) (oR Z (zw Z Z Z) (oM Z Z (ifc n7 ?_ ?_)))))))
 intro bo n9
 refine zW Z Z Z (zC Z Z (zk (fun h=>h bo.out))) Z Z ?_
 have q:=cK.freeze (k:=0) rfl
 obtain ⟨cq,bW,cf,lO⟩:=q
 replace cf:=Cl.of cf
 have lP:sW w U cq [.blk aj 118 ([.slice ap aa.Bout.Shots.length az,.slice aq aa.Bout.Down.length aS,.slice au aa.Bout.Across.length aT,.map (some ae)] ++ ((hH KL.encI aa.hits.l) ++ ((hH KL.encI aa.used.l) ++ (hH KL.encT aa.met.l)))),.obj ae (.map aV aU),.blk b2 25 B0] dC:=lO
 replace cf:Cl cq bO 0 B5:=cf
 refine zX Z Z Z (zC Z Z (zk (fun h=>h bo.out))) (fun _=>Runs.mkf Z zP (zB Z zP)) ?_
 have i7:=fP.le bV
 have fw:=i7.le bW
 have ls:FnOK Tryz.prog cq (.func (.func 55) #[] #[.pointer (some ⟨bO,0,none⟩)]) wJy wJz (fun x=>wBE x (↑p0.Shots.length:Int)):=⟨55,[],[.pointer (some ⟨bO,0,none⟩)],rfl,Tryz.call55,fun U1 w1 x y vs le hs ha hm=>by obtain ⟨pA_0,pc_0,rfl,hq0_0⟩:=ha;exact wEW x pA_0 pc_0 (↑p0.Shots.length:Int) bO w1 U1 hs hq0_0 (cf.le le) hm⟩
 refine bnK n9 fun qQ i8 oa=>zK 0 Z Z Z (zC Z Z (zk (fun h=>h bo.out))) (zJ Z Z Tryz.call54 (zB Z (zB Z zP)) Z) lP (fun hs=>wDQ p1 bB bC (fun x=>wBE x (↑p0.Shots.length:Int)) (.func (.func 55) #[] #[.pointer (some ⟨bO,0,none⟩)]) dC cq hs fw ls i8) (.inr Z) ?_
 rintro dr pC qD dD bX lQ ⟨rfl,rfl⟩
 have fK:sW w U dr [.blk aj 118 ([.slice ap aa.Bout.Shots.length az,.slice aq aa.Bout.Down.length aS,.slice au aa.Bout.Across.length aT,.map (some ae)] ++ ((hH KL.encI aa.hits.l) ++ ((hH KL.encI aa.used.l) ++ (hH KL.encT aa.met.l)))),.obj ae (.map aV aU),.blk b2 25 B0] dD:=lQ
 refine zX Z Z Z (zC Z Z (zk (fun h=>h bo.out))) (fun _=>ZQ Z Z) (oR Z (zM Z (zk (fun h=>h bo.out)) Z) (oA Z Z (eN (ifc oa ?_ ?_))))
 intro dH oc
 refine zp (nC dH.out) (ZG (zj (zG (zD (ZP ZL [3,1,2,3,1,2,3,3] gAu (by kernel_rfl) ?_)))))
 have cM:=fK.drew
 generalize hw_W352:({ dD with drawn:=dD.drawn + 1 }:World)=gt at cM ⊢
 refine oR Z (zU Z Z zO Z zS) (oL Z (cM.ldB (j:=2) Z Z Z zY (v:=.slice bv p0.Shots.length bw) Z) (oR Z (zU Z Z zO Z zS) (oL Z (cM.ldB (j:=2) Z Z Z zY (v:=.slice bG p0.Down.length bH) Z) ?_)))
 have i9:=dU.le bV
 have ja:=i9.le bW
 have jb:=ja.le bX
 refine bnK oc fun ei jc od=>zK 0 Z Z Z Z (zJ Z Z Tryz.call56 (zB Z zP) Z) cM (fun hs=>wBY p0.Shots bv bw gt dr hs jb jc) (.inr Z) ?_
 rintro eJ pD qE eS cm lR ⟨bk,bp,rfl,rfl⟩
 let B6:Res:=.row bk bp 3 1 (hH KL.encI ei)
 have lS:sW w U eJ [B6,.blk aj 118 ([.slice ap aa.Bout.Shots.length az,.slice aq aa.Bout.Down.length aS,.slice au aa.Bout.Across.length aT,.map (some ae)] ++ ((hH KL.encI aa.hits.l) ++ ((hH KL.encI aa.used.l) ++ (hH KL.encT aa.met.l)))),.obj ae (.map aV aU),.blk b2 25 B0] eS:=lR
 have jd:=dV.le bV
 have je:=jd.le bW
 have jf:=je.le bX
 have jg:=jf.le cm
 refine bnK od fun ej jh d8=>zK 0 Z Z Z Z (zJ Z Z Tryz.call56 (zB Z zP) Z) lS (fun hs=>wBY p0.Down bG bH eS eJ hs jg jh) (.inr Z) ?_
 rintro dt pE qF gu cX lT ⟨bg,bh,rfl,rfl⟩
 have lU:sW w U dt [.row bg bh 3 1 (hH KL.encI ej),B6,.blk aj 118 ([.slice ap aa.Bout.Shots.length az,.slice aq aa.Bout.Down.length aS,.slice au aa.Bout.Across.length aT,.map (some ae)] ++ ((hH KL.encI aa.hits.l) ++ ((hH KL.encI aa.used.l) ++ (hH KL.encT aa.met.l)))),.obj ae (.map aV aU),.blk b2 25 B0] gu:=lT
 refine oA Z Z (oA Z Z (eN (zD (sR fL3 Z (oM Z Z (oR Z (zi Z Z zl) (oM Z Z (eN (zd ?_)))))))))
 have q:=wBp d8
 obtain ⟨qy,dS⟩:=q
 have q:=wCA dS
 obtain ⟨d6,mB⟩:=q
 replace d6:=zE d6
 refine Zf (fun am (cV,cW) σ_ w_=>∃ (U_:PHeap),σ_ 46=jV (↑am:Int)/\σ_ 6=.pointer (some ⟨aj,0,none⟩)/\σ_ 9=.slice bk cV.length bp/\σ_ 10=.slice bg cW.length bh/\σ_ 44=.slice bB p1.length bC/\σ_ 45=jV (↑p1.length:Int)/\PHeap.Le dt U_/\sW w U U_ [.blk aj 118 ([.slice ap aa.Bout.Shots.length az,.slice aq aa.Bout.Down.length aS,.slice au aa.Bout.Across.length aT,.map (some ae)] ++ ((hH KL.encI aa.hits.l) ++ ((hH KL.encI aa.used.l) ++ (hH KL.encT aa.met.l)))),.obj ae (.map aV aU),.blk b2 25 B0,.row bk bp 3 1 (hH KL.encI cV),.row bg bh 3 1 (hH KL.encI cW)] w_/\cV.length=ei.length/\cW.length=ej.length) mB ?_ ?_ ?_
 exact ⟨dt,rfl,rfl,rfl,rfl,rfl,rfl,(zZ _),(lU.pick [2,3,4,1,0] _ (by decide) rfl),rfl,rfl⟩
 rintro am ⟨cV,cW⟩ qW rq pS dY ⟨du,cD,ig,ii,ij,fg,fh,cn,fL,ji,jj⟩ gb ms
 try dsimp only at gb
 have eY:Hid ((↑am:Int) < (↑p1.length:Int)):=zE (wBz dY)
 replace dY:=zE dY
 have mN:Hid (w64 ((↑am:Int) + 1)=(↑(am + 1):Int)):=zE (by have h1:=d6.out;have h2:=eY.out;rw [wAO] <;> omega)
 refine sR fL1 Z (oR Z (ze Z cD fh) (eN (zD (cT Z eY (kN (zD (zd (sR fL5 Z (oM Z cD (bnK gb fun bE fy d9=>?_))))))))))
 have jk:=fw.le bX
 have jl:=jk.le cm
 have jm:=jl.le cX
 have jo:=jm.le cn
 have q:=jo.el (wAN fy)
 obtain ⟨gD,pj,qN,lh,dR,o5⟩:=q
 obtain ⟨cZ,db,rfl,jp⟩:=o5
 replace dR:Cl du gD (pj + am * 1) [.slice cZ bE.length db]:=dR
 refine oR Z (zu Z fg lh cD zl zS (wBP fy)) (oL Z (fL.ldC (f:=0) dR (v:=.slice cZ bE.length db) Z Z zY Z) (oA Z Z (oA Z Z (eN (sR fL3 Z (oM Z Z (oR Z (zi Z Z zA) (oM Z Z (eN (zd ?_))))))))))
 have q:=wBp d9
 obtain ⟨qz,dT⟩:=q
 have q:=wCA dT
 obtain ⟨d7,mC⟩:=q
 replace d7:=zE d7
 refine Zf (fun ba (aW,aX) σ_ w_=>∃ (U_:PHeap),σ_ 53=jV (↑ba:Int)/\σ_ 6=.pointer (some ⟨aj,0,none⟩)/\σ_ 9=.slice bk aW.length bp/\σ_ 10=.slice bg aX.length bh/\σ_ 11=jV (↑am:Int)/\σ_ 44=.slice bB p1.length bC/\σ_ 45=jV (↑p1.length:Int)/\σ_ 46=jV (↑am:Int)/\σ_ 51=.slice cZ bE.length db/\σ_ 52=jV (↑bE.length:Int)/\PHeap.Le du U_/\sW w U U_ [.blk aj 118 ([.slice ap aa.Bout.Shots.length az,.slice aq aa.Bout.Down.length aS,.slice au aa.Bout.Across.length aT,.map (some ae)] ++ ((hH KL.encI aa.hits.l) ++ ((hH KL.encI aa.used.l) ++ (hH KL.encT aa.met.l)))),.obj ae (.map aV aU),.blk b2 25 B0,.row bk bp 3 1 (hH KL.encI aW),.row bg bh 3 1 (hH KL.encI aX)] w_/\aW.length=ei.length/\aX.length=ej.length) mC ?_ ?_ ?_
 exact ⟨du,Z,ig,ii,ij,Z,fg,fh,cD,Z,Z,(zZ _),fL,ji,jj⟩
 rintro ba ⟨aW,aX⟩ qX rt gv dZ ⟨bZ,bL,b5,cw,cx,b8,cy,cz,cA,b9,cd,cp,ci,jr,jt⟩ gc mu
 try dsimp only at gc
 have eZ:Hid ((↑ba:Int) < (↑bE.length:Int)):=zE (wBz dZ)
 replace dZ:=zE dZ
 have mO:Hid (w64 ((↑ba:Int) + 1)=(↑(ba + 1):Int)):=zE (by have h1:=d7.out;have h2:=eZ.out;rw [wAO] <;> omega)
 refine sR fL1 Z (oR Z (ze Z bL cd) (eN (zD (cT Z eZ (kN (zD (zd (sR fL5 Z (oM Z bL (bnK gc fun bt fA oh=>?_))))))))))
 have ju:=jp.le cp
 have q:=ju.el (fun _=>rfl) (wAN fA)
 obtain ⟨pY,qv,li,lm⟩:=q
 refine oR Z (zu Z b9 li bL zA zN (wBP fA)) (oL Z (ci.ldC (f:=0) lm (v:=jV bt) Z Z zQ Z) (oA Z Z (oA Z Z (eN (zD (bnK oh fun gE ge oi=>?_))))))
 let B7:Res:=.row bg bh 3 1 (hH KL.encI aX)
 let B8:Res:=.row bk bp 3 1 (hH KL.encI aW)
 refine CK.cut (fun σ_ w_=>∃ (U_:PHeap),σ_ 6=.pointer (some ⟨aj,0,none⟩)/\σ_ 9=.slice bk aW.length bp/\σ_ 10=.slice bg aX.length bh/\σ_ 11=jV (↑am:Int)/\σ_ 13=jV (↑ba:Int)/\σ_ 14=jV bt/\σ_ 44=.slice bB p1.length bC/\σ_ 45=jV (↑p1.length:Int)/\σ_ 46=jV (↑am:Int)/\σ_ 51=.slice cZ bE.length db/\σ_ 52=jV (↑bE.length:Int)/\σ_ 53=jV (↑ba:Int)/\σ_ 74=.bool gE/\PHeap.Le bZ U_/\sW w U U_ [.blk aj 118 ([.slice ap aa.Bout.Shots.length az,.slice aq aa.Bout.Down.length aS,.slice au aa.Bout.Across.length aT,.map (some ae)] ++ ((hH KL.encI aa.hits.l) ++ ((hH KL.encI aa.used.l) ++ (hH KL.encT aa.met.l)))),.obj ae (.map aV aU),.blk b2 25 B0,B8,B7] w_) ?_ ?_
 refine rR (wHy (.fx 13 (wNw (.nil)) .stop)) Z (oM Z Z (oR Z (ze Z Z Z) (oM Z Z ?_)))
 by_cases bi:bt < 0
 have fU:=ge;rw [if_pos bi] at fU;replace bi:=zE bi
 refine oT Z bi (oT Z bi (oR Z (zR Z (ZX bi.out) Z) (oM Z Z (oN Z (oN Z (oN Z (zL Z Z Z (wAH Z Z Z) (zL Z Z Z (wAH Z Z Z) (zL Z Z Z (wAH Z Z Z) (ZF Z Z Z (wAH Z Z Z) (zL Z Z Z (wAH Z Z Z) (oN Z (oR Z (zR Z Z Z) (zq ?_))))))))))))))
 cases fU
 exact zG ⟨Z,⟨bZ,b5,cw,cx,b8,Z,Z,cy,cz,cA,b9,cd,bL,Z,(zZ _),ci⟩⟩
 have fV:=ge;rw [if_neg bi] at fV;replace bi:=zE bi
 refine zW Z Z Z (wF Z bi) Z Z (rU Z (wF Z bi) (ZR Z Z Z) (oR Z (zM Z (zk bi.out) Z) (oM Z Z (ifc fV ?_ ?_))))
 intro be ol
 refine oT Z be (oT Z be (oT Z be (zL Z Z Z (wAH Z Z Z) (zL Z Z Z (wAH Z Z Z) (zL Z Z Z (wAH Z Z Z) (ZF Z Z Z (wAH Z Z Z) (zL Z Z Z (wAH Z Z Z) (oT Z be (oR Z (zR Z (ZX be.out) Z) (zq ?_))))))))))
 cases ol
 exact zG ⟨Z,⟨bZ,b5,cw,cx,b8,Z,Z,cy,cz,cA,b9,cd,bL,Z,(zZ _),ci⟩⟩
 intro be om
 refine zW Z Z Z (wF Z be) Z Z (rU Z (wF Z be) (ZR Z Z Z) (zW Z Z Z (wF Z be) Z Z (ifc om ?_ ?_)))
 intro bf oq
 refine zW Z Z Z (wT Z bf) Z b5 (zW Z Z Z (wT Z bf) Z b8 (zW Z Z Z (wT Z bf) Z Z ?_))
 have jw:=i0.le bW
 have jx:=jw.le bX
 have jy:=jx.le cm
 have jz:=jy.le cX
 have jA:=jz.le cn
 have jB:=jA.le cp
 have jC:=i4.le bW
 have jD:=jC.le bX
 have jE:=jD.le cm
 have jG:=jE.le cX
 have jH:=jG.le cn
 have jJ:=jH.le cp
 have jK:=i5.le bW
 have jL:=jK.le bX
 have jM:=jL.le cm
 have jN:=jM.le cX
 have jO:=jN.le cn
 have jP:=jO.le cp
 refine bnK oq fun qR jQ ot=>zK 2 Z Z Z (wT Z bf) (zJ Z Z Tryz.call57 (zB Z (zB Z (zB Z zP))) Z) ci (fun hs=>wCx aa aj ap az aq aS au aT ae aV aU (↑am:Int) (↑ba:Int) gv bZ hs jB jJ jP i6 jQ) (.inl Z) ?_
 rintro eK pG qG gw pe lX ⟨rfl,rfl⟩
 have lY:sW w U eK [.blk aj 118 ([.slice ap aa.Bout.Shots.length az,.slice aq aa.Bout.Down.length aS,.slice au aa.Bout.Across.length aT,.map (some ae)] ++ ((hH KL.encI aa.hits.l) ++ ((hH KL.encI aa.used.l) ++ (hH KL.encT aa.met.l)))),.obj ae (.map aV aU),.blk b2 25 B0,B8,B7] gw:=lX
 refine rU Z (wT Z bf) (ZQ Z Z) (rU Z (wF Z be) (zR Z (ZX bf.out) Z) (oR Z (zM Z (zk be.out) Z) (zq ?_)))
 cases ot
 exact zG ⟨Z,⟨eK,b5,cw,cx,b8,Z,Z,cy,cz,cA,b9,cd,bL,Z,pe,lY⟩⟩
 intro bf ou
 refine oF Z bf (oF Z bf (oF Z bf (ZF Z Z Z (zF Z Z (zk bf.out) Z) (oF Z bf (rU Z (wF Z be) (zM Z (zk bf.out) Z) (oR Z (zM Z (zk be.out) Z) (zq ?_)))))))
 cases ou
 exact zG ⟨Z,⟨bZ,b5,cw,cx,b8,Z,Z,cy,cz,cA,b9,cd,bL,Z,(zZ _),ci⟩⟩
 rintro ru eT ⟨ct,ik,dN,dO,dP,fj,fm,il,im,io,ip,iq,ir,fq,pf,fM⟩
 refine ifc oi ?_ ?_
 intro dJ ow
 refine zt (fq.trans (congrArg nA dJ.out)) (sR fL2 Z (oA Z Z (oA Z Z (eN (zI (zH (zV (zH ?_))))))))
 have q:=wAI ow
 obtain ⟨pp,ox,gN⟩:=q
 have q:=wBI d9 dT (mu pp gN)
 obtain rfl:=q
 refine zH (zV (zV (zH ?_)))
 have q:=wAI ox
 obtain ⟨pq,oy,gO⟩:=q
 have q:=wBI d8 dS (ms pq gO)
 obtain rfl:=q
 refine zH (zV (zH ?_))
 cases oy
 exact ⟨rfl,_,(wDX rfl rfl),ct,_,(fM.pick [] _ (by decide) rfl),rfl,rfl⟩
 intro dJ oz
 refine zp (fq.trans (congrArg nA (nB.2 dJ.out))) (kN (ZP ZL [3,3,3,3,3,3,3,1,3,3,3,3,3,1,3,3,3,0,3,0] (wNt gAq) (by kernel_rfl) ?_))
 have bU:=fM.drew
 generalize hw_W555:({ eT with drawn:=eT.drawn + 1 }:World)=pT at bU ⊢
 refine oM Z dN (oM Z dP (oM Z dO (oM Z fj (oM Z dN (oM Z dP (bnK oz fun _ bR oB=>?_))))))
 obtain ⟨pZ,cH⟩:=bU.rowSome (j:=3) rfl (by rw [wAJ (f:=KL.encI) (sz:=1) (fun _=>rfl) aW];have hz:=wAe bR;omega)
 refine oR Z (zu Z Z cH Z zA zN (wAe bR)) ?_
 have mH:=wEO (xs:=aW) (wAe bR)
 refine zx rfl rfl rfl rfl (bU.ldR (j:=3) rfl cH rfl rfl zQ (wDd (sz:=1) (fun _=>rfl) _ _ 0 _ mH (by first | omega | rfl | simp) rfl)) rfl (zW rfl rfl rfl rfl rfl fm (zX rfl rfl rfl rfl (fun _=>ZY rfl rfl rfl) (zW rfl rfl rfl rfl rfl dO (zW rfl rfl rfl rfl rfl fj (bnK oB fun _ bS oG=>?_)))))
 obtain ⟨p6,cI⟩:=bU.rowSome (j:=4) rfl (by rw [wAJ (f:=KL.encI) (sz:=1) (fun _=>rfl) aX];have hz:=wAe bS;omega)
 refine oR Z (zu Z Z cI Z zA zN (wAe bS)) ?_
 have mI:=wEO (xs:=aX) (wAe bS)
 refine zx rfl rfl rfl rfl (bU.ldR (j:=4) rfl cI rfl rfl zQ (wDd (sz:=1) (fun _=>rfl) _ _ 0 _ mI (by first | omega | rfl | simp) rfl)) rfl (zW rfl rfl rfl rfl rfl fm (zX rfl rfl rfl rfl (fun _=>ZY rfl rfl rfl) (zX rfl rfl rfl rfl (fun _=>zu rfl rfl cH rfl zA zN (wAe bR)) ?_)))
 have mJ:=wEO (xs:=aW) (wAe bR)
 refine OKS.stR (j:=3) (vs:=[jV (w64 ((gd aW am) - bt))]) (cs':=hH KL.encI (nL aW am (w64 ((gd aW am) - bt)))) rfl rfl rfl rfl bU rfl cH rfl rfl rfl zN (by rw [wAJ (f:=KL.encI) (sz:=1) (fun _=>rfl)];have hz:=wAe bR;show _ + 1 <= _;first | omega | (simp only [nI];omega) | (simp only [nH,nE,nG];omega)) rfl (wIF (sz:=1) (fo:=0) (fun _=>rfl) _ _ _ _ mJ (by first | omega | (simp only [nI];omega) | (simp only [nH,nE,nG];omega)) (zg rfl) rfl) rfl ?_
 intro gx l3
 let B9:Res:=.row bk bp 3 1 (hH KL.encI (nL aW am (w64 ((gd aW am) - bt))))
 have l4:sW w U ct [.blk aj 118 ([.slice ap aa.Bout.Shots.length az,.slice aq aa.Bout.Down.length aS,.slice au aa.Bout.Across.length aT,.map (some ae)] ++ ((hH KL.encI aa.hits.l) ++ ((hH KL.encI aa.used.l) ++ (hH KL.encT aa.met.l)))),.obj ae (.map aV aU),.blk b2 25 B0,B9,B7] gx:=l3
 refine oR Z (zu Z Z cI Z zA zN (wAe bS)) ?_
 have mK:=wEO (xs:=aX) (wAe bS)
 refine OKS.stR (j:=4) (vs:=[jV (w64 ((gd aX ba) - bt))]) (cs':=hH KL.encI (nL aX ba (w64 ((gd aX ba) - bt)))) rfl rfl rfl rfl l4 rfl cI rfl rfl rfl zN (by rw [wAJ (f:=KL.encI) (sz:=1) (fun _=>rfl)];have hz:=wAe bS;show _ + 1 <= _;first | omega | (simp only [nI];omega) | (simp only [nH,nE,nG];omega)) rfl (wIF (sz:=1) (fo:=0) (fun _=>rfl) _ _ _ _ mK (by first | omega | (simp only [nI];omega) | (simp only [nH,nE,nG];omega)) (zg rfl) rfl) rfl ?_
 intro gy l5
 have l6:sW w U ct [.blk aj 118 ([.slice ap aa.Bout.Shots.length az,.slice aq aa.Bout.Down.length aS,.slice au aa.Bout.Across.length aT,.map (some ae)] ++ ((hH KL.encI aa.hits.l) ++ ((hH KL.encI aa.used.l) ++ (hH KL.encT aa.met.l)))),.obj ae (.map aV aU),.blk b2 25 B0,B9,.row bg bh 3 1 (hH KL.encI (nL aX ba (w64 ((gd aX ba) - bt))))] gy:=l5
 refine zq (zj (zG (rR fL2 Z (oR Z (ZB (zo Z ir Z) (congrArg (jV) mO.out)) (oM Z Z (zq ?_))))))
 have q:=nD oG
 obtain rfl:=q
 exact zG ⟨rfl,_,rfl,⟨ct,rfl,ik,(nP (b:=(.slice bk aW.length bp:Value)) (c:=(.slice bk ((nL aW am (w64 ((gd aW am) - bt))).length) bp:Value)) dN (by simp only [nK])),(nP (b:=(.slice bg aX.length bh:Value)) (c:=(.slice bg ((nL aX ba (w64 ((gd aX ba) - bt))).length) bh:Value)) dO (by simp only [nK])),dP,il,im,io,ip,iq,(cp.trans pf),l6,(nK.trans jr),(nK.trans jt)⟩⟩
 rintro ⟨re,ri⟩ rx pU ⟨gj,iH,it,iu,iv,qb,iw,iy,iz,qc,iA,pg,l7,jR,jS⟩ mw
 have fW:=wCR d9 dT mw
 try dsimp only at fW
 have gH:Hid (¬ ((↑(((↑bE.length:Int):Int) - 0).toNat:Int) < (↑bE.length:Int))):=zE (wBO)
 refine sR fL1 Z (oR Z (ze Z iH iA) (eN (zD (cF Z gH (ZC (zh (zh (zy (zj (zG (rR fL2 Z (oR Z (ZB (zo Z iz Z) (congrArg (jV) mN.out)) (oM Z Z (zq ?_))))))))))))))
 have q:=nD fW
 obtain rfl:=q
 exact zG ⟨Z,_,Z,⟨gj,Z,it,iu,iv,iw,iy,(cn.trans pg),l7,jR,jS⟩⟩
 rintro ⟨ey,df⟩ ry eU ⟨pM,iI,qd,iB,iC,qe,iE,qo,l8,qh,qi⟩ my
 have fY:=wCR d8 dS my
 try dsimp only at fY
 have gI:Hid (¬ ((↑(((↑p1.length:Int):Int) - 0).toNat:Int) < (↑p1.length:Int))):=zE (wBO)
 refine sR fL1 Z (oR Z (ze Z iI iE) (eN (zD (cF Z gI (ZC (zh (zh (zy (zG (sR (.fl 0 (.fx 1 (.fl 2 (.fl 3 (.fx 4 (wSL (.nil)) .stop))) .stop)) Z (oM Z iB ?_)))))))))))
 have q:=l8.freezeR (k:=3) (n:=ey.length) rfl (wAJ (f:=KL.encI) (sz:=1) (fun _=>rfl) ey) (by decide)
 obtain ⟨dx,qp,o9,l9⟩:=q
 let ez:Res:=.row bg bh 3 1 (hH KL.encI df)
 have ma:sW w U dx [.blk aj 118 ([.slice ap aa.Bout.Shots.length az,.slice aq aa.Bout.Down.length aS,.slice au aa.Bout.Across.length aT,.map (some ae)] ++ ((hH KL.encI aa.hits.l) ++ ((hH KL.encI aa.used.l) ++ (hH KL.encT aa.met.l)))),.obj ae (.map aV aU),.blk b2 25 B0,ez] eU:=l9
 have lv:FnOK Tryz.prog dx (.func (.func 58) #[] #[]) wJx wLQ wBR:=⟨58,[],[],rfl,Tryz.call58,fun U1 w1 x y vs le hs ha hm=>by obtain rfl:=ha;exact wEY x w1 U1 hs  hm⟩
 refine bnK fY fun qS jX oI=>zK 0 Z Z Z Z (zJ Z Z Tryz.call47 (zB Z (zB Z zP)) Z) ma (fun hs=>wBk ey bk bp wBR (.func (.func 58) #[] #[]) eU dx hs o9 lv jX) (.inr Z) ?_
 rintro eL pH qI dF qq mb ⟨rfl,rfl⟩
 have fO:sW w U eL [.blk aj 118 ([.slice ap aa.Bout.Shots.length az,.slice aq aa.Bout.Down.length aS,.slice au aa.Bout.Across.length aT,.map (some ae)] ++ ((hH KL.encI aa.hits.l) ++ ((hH KL.encI aa.used.l) ++ (hH KL.encT aa.met.l)))),.obj ae (.map aV aU),.blk b2 25 B0,ez] dF:=mb
 refine oM Z Z (ifc oI ?_ ?_)
 intro bK oK
 refine zW Z Z Z (zC Z Z (congrArg nA bK.out)) Z iC ?_
 have q:=fO.freezeR (k:=3) (n:=df.length) rfl (wAJ (f:=KL.encI) (sz:=1) (fun _=>rfl) df) (by decide)
 obtain ⟨dy,qr,pa,mc⟩:=q
 have md:sW w U dy [.blk aj 118 ([.slice ap aa.Bout.Shots.length az,.slice aq aa.Bout.Down.length aS,.slice au aa.Bout.Across.length aT,.map (some ae)] ++ ((hH KL.encI aa.hits.l) ++ ((hH KL.encI aa.used.l) ++ (hH KL.encT aa.met.l)))),.obj ae (.map aV aU),.blk b2 25 B0] dF:=mc
 have lw:FnOK Tryz.prog dy (.func (.func 59) #[] #[]) wJx wLQ wBS:=⟨59,[],[],rfl,Tryz.call59,fun U1 w1 x y vs le hs ha hm=>by obtain rfl:=ha;exact wEZ x w1 U1 hs  hm⟩
 refine bnK oK fun qT jZ oO=>zK 0 Z Z Z (zC Z Z (congrArg nA bK.out)) (zJ Z Z Tryz.call47 (zB Z (zB Z zP)) Z) md (fun hs=>wBk df bg bh wBS (.func (.func 59) #[] #[]) dF dy hs pa lw jZ) (.inr Z) ?_
 rintro eM pI qJ gA qt mf ⟨rfl,rfl⟩
 have mg:sW w U eM [.blk aj 118 ([.slice ap aa.Bout.Shots.length az,.slice aq aa.Bout.Down.length aS,.slice au aa.Bout.Across.length aT,.map (some ae)] ++ ((hH KL.encI aa.hits.l) ++ ((hH KL.encI aa.used.l) ++ (hH KL.encT aa.met.l)))),.obj ae (.map aV aU),.blk b2 25 B0] gA:=mf
 refine oR Z (zR Z (congrArg nA bK.out) Z) (oA Z Z (oA Z Z (eN (zI ?_))))
 cases oO
 exact ⟨rfl,_,(wDX rfl rfl),eM,_,(mg.pick [] _ (by decide) rfl),rfl,rfl⟩
 intro bK oP
 refine zL Z Z Z (zF Z Z (congrArg nA (nB.2 bK.out)) Z) (ZF Z Z Z (zF Z Z (congrArg nA (nB.2 bK.out)) Z) (oR Z (zM Z (congrArg nA (nB.2 bK.out)) Z) (oA Z Z (oA Z Z (eN (zI ?_))))))
 cases oP
 exact ⟨rfl,_,(wDX rfl rfl),eL,_,(fO.pick [] _ (by decide) rfl),rfl,rfl⟩
 intro dH oU
 refine zt (nF (dH.out)) (sR fL2 Z (oA Z Z (oA Z Z (eN (zI (zV (zH ?_)))))))
 cases oU
 exact ⟨rfl,_,(wDX rfl rfl),dr,_,(fK.pick [] _ (by decide) rfl),rfl,rfl⟩
 intro bo oW
 refine oT Z bo (oT Z bo (ZF Z Z Z (zF Z Z (ZX bo.out) Z) (oT Z bo (oR Z (zR Z (ZX bo.out) Z) (oA Z Z (eN (zt Z (sR fL2 Z (oA Z Z (oA Z Z (eN (zI (zV (zH ?_))))))))))))))
 cases oW
 exact ⟨rfl,_,(wDX rfl rfl),U9,_,(cK.pick [] _ (by decide) rfl),rfl,rfl⟩
 intro dG oX
 refine cT Z dG (sR fL3 Z (oM Z Z (oA Z Z (oA Z Z (eN (zI (zV (zH ?_))))))))
 cases oX
 exact ⟨rfl,_,(wDX rfl rfl),U9,_,(cK.pick [] _ (by decide) rfl),rfl,rfl⟩
end Go.Proofs.YtfcmijinklojbaaGreat
namespace Go.Proofs.YtfcmijinklojbaaGreat
open Go.KL
set_option maxHeartbeats 4000000
theorem wCn (p0:wAE) (aU:Option Addr) (aW:Nat) (aV:Option Addr) (aX:Nat) (aj:Option Addr) (ak:Nat) (p1:Int) (p2:Int) (w:World) (U:PHeap) (hS:St0 w U []) (bC:Sl U 1 aU aW p0.Shots.length (hH KL.encI p0.Shots)) (bD:Sl U 1 aV aX p0.Down.length (hH KL.encI p0.Down)) (bq:Sl U 2 aj ak p0.Across.length (hH wAD p0.Across)) {r:Bool} (hm:wAz p0 p1 p2=some r):Gv Tryz.prog 60 [.agg #[.slice aU p0.Shots.length aW,.slice aV p0.Down.length aX,.slice aj p0.Across.length ak],jV p1,jV p2] w (wCb w [] U (fun U_ L_ v=>v=.bool r/\L_=[])):=by
 unfold wAz at hm
 refine Gv.of Tryz.func60 Z Tryz.ntmps60 Tryz.results60 Z (sR gAg Z ?_)
 let B0:List Value:=[.slice aU p0.Shots.length aW,.slice aV p0.Down.length aX,.slice aj p0.Across.length ak]
 refine ZI (cs:=B0) rfl rfl rfl rfl rfl rfl (by rfl) hS ?_
 intro W1 b2 bp
 refine oA Z Z (eN (zD (sR fL1 Z (oA Z Z (eN (zd (CK.iter (fun x8 σ_ w_=>∃ (U_:PHeap),σ_ 1=jV p1/\σ_ 2=jV p2/\σ_ 3=.pointer (some ⟨b2,0,none⟩)/\σ_ 7=jV x8/\PHeap.Le U U_/\sW w U U_ [.blk b2 34 B0] w_) hm ?_ ?_)))))))
 exact ⟨U,Z,Z,Z,Z,(zZ _),bp⟩
 rintro x8 bF bG bA ⟨am,aq,au,az,aS,bj,ae⟩ bi be
 refine zD (sR fL5 Z (oM Z aS (oR Z (zU Z az zm Z Zc) (oL Z (ae.ldB (j:=0) Z Z Z Zm (v:=.slice aj p0.Across.length ak) Z) (oR Z (zi Z Z ZU) (oR Z (ze Z Z Z) (eN ?_)))))))
 by_cases ab:x8 < (↑p0.Across.length:Int)
 have bf:=bi;rw [if_pos ab] at bf;replace ab:=zE ab
 refine cT Z ab (kN (zD (zd (sR fL9 Z (oR Z (zU Z az zm Z Zc) (oL Z (ae.ldB (j:=0) Z Z Z Zm (v:=.slice aj p0.Across.length ak) Z) (oM Z aS (bnK bf fun aY aT br=>?_))))))))
 have bm:=bq.le bj
 have q:=bm.el (fun _=>rfl) (wAN aT)
 obtain ⟨bB,bE,bn,bo⟩:=q
 refine oR Z (Zn Z Z bn Z ZU Zk (wDH aT) (wDK aT)) (oL Z (ae.ldCA (f:=0) bo Z Z Tryz.isAgg95 Zk (us:=[jV aY.Skier,jV aY.Lane]) Z Z) (oM Z aq (oM Z au (oR Z (Runs.build (pv:=[(0,jV p1),(1,jV p2)]) (z:=[jV 0,jV 0]) (cs:=[jV p1,jV p2]) Z (wBq Z (wBq Z wDL)) Tryz.zeroValue95 wOb Z Z) (oR Z (Runs.eqS (enc:=wAD) (a:=aY) (b:=(⟨p1,p2⟩:wAU)) Z Z Z eqT95 eqG95) (eN (ifc br ?_ ?_)))))))
 intro ap bs
 refine cT Z ap (sR fL1 Z (oA Z Z (eN (zI (zV (zH ?_))))))
 have q:=wAI bs
 obtain ⟨bv,bt,bk⟩:=q
 have q:=be bv bk
 obtain rfl:=q
 refine zH (zV (zH ?_))
 have hE:=nD bt;first | subst r | cases hE
 exact ⟨rfl,_,(zn rfl),am,_,(ae.pick [] _ (by decide) rfl),rfl,rfl⟩
 intro ap bu
 refine cF Z ap (ZG (zj (zG (rR fL3 Z (oM Z aS (oR Z (zo Z Z Z) (oA Z Z (zq ?_))))))))
 have q:=nD bu
 obtain rfl:=q
 exact zG ⟨Z,_,Z,⟨am,aq,au,az,Z,bj,ae⟩⟩
 have bg:=bi;rw [if_neg ab] at bg;replace ab:=zE ab
 refine cF Z ab (ZC (zh ?_))
 have q:=wAI bg
 obtain ⟨bw,bh,bl⟩:=q
 have q:=be bw bl
 obtain rfl:=q
 refine zh (zy (zG (sR fL4 Z (oM Z aq (oM Z au (oR Z (Ze Z Z Z) (oA Z Z (eN (zI ?_)))))))))
 first | (obtain rfl:=nD bh) | cases bh
 exact ⟨rfl,_,(zn rfl),am,_,(ae.pick [] _ (by decide) rfl),rfl,rfl⟩
theorem wDR (p0:wAE) (aZ:Option Addr) (ba:Nat) (bi:Option Addr) (bk:Nat) (br:Option Addr) (bs:Nat) (p1:List (List Int)) (bj:Option Addr) (bl:Nat) (w:World) (U:PHeap) (hS:St0 w U []) (cd:Sl U 1 aZ ba p0.Shots.length (hH KL.encI p0.Shots)) (cf:Sl U 1 bi bk p0.Down.length (hH KL.encI p0.Down)) (da:Sl U 2 br bs p0.Across.length (hH wAD p0.Across)) (cg:SlR U wEV bj bl p1) {r:Bool × Int} (hm:wAV p0 p1=some r):Gv Tryz.prog 14 [.agg #[.slice aZ p0.Shots.length ba,.slice bi p0.Down.length bk,.slice br p0.Across.length bs],.slice bj p1.length bl] w (wCb w [] U (fun U_ L_ v=>v=.tuple #[.bool r.1,jV r.2]/\L_=[])):=by
 unfold wAV at hm
 refine Gv.of Tryz.func14 Z Tryz.ntmps14 Tryz.results14 Z (sR gAo Z ?_)
 let B0:List Value:=[.slice aZ p0.Shots.length ba,.slice bi p0.Down.length bk,.slice br p0.Across.length bs]
 refine ZI (cs:=B0) rfl rfl rfl rfl rfl rfl (by rfl) hS ?_
 intro W1 b2 cZ
 refine oA Z Z (oA Z Z (eN (zD (sR gAm Z (oL Z (cZ.ldBA (j:=0) Z Z Z ZN ZD (vs:=B0) Z Z) (bnK hm fun x5 h6 iq=>zK 0 Z Z Z Z (zJ Z Z Tryz.call11 (zB Z zP) Z) cZ (fun hs=>wCG p0 aZ ba bi bk br bs W1 U hs cd cf da h6) (.inr Z) ?_))))))
 rintro U8 L9 ju dJ az ge ⟨rfl,rfl⟩
 have bB:sW w U U8 [.blk b2 34 B0] dJ:=ge
 refine oA Z Z (eN (sR fL2 Z (oM Z Z (oR Z (zw Z Z Z) (eN (ifc iq ?_ ?_))))))
 intro bH gG
 refine zp (zk (fun h=>h bH.out)) (kN (sR fL4 Z (oR Z (zU Z Z zm Z zS) (oL Z (bB.ldB (j:=0) Z Z Z zY (v:=.slice aZ p0.Shots.length ba) Z) (oR Z (zi Z Z zA) (oA Z Z (eN (zD (sR fL4 Z (oM Z Z (oR Z (zi Z Z zl) (oM Z Z (oR Z (zw Z Z Z) (eN (ifc gG ?_ ?_)))))))))))))))
 intro bI ct
 refine zp (zk (fun h=>h bI.out)) (kN (zD (sR fL1 Z (oA Z Z (eN (zd ?_))))))
 have q:=wBp ct
 obtain ⟨jr,b9⟩:=q
 have q:=wCA b9
 obtain ⟨cq,gx⟩:=q
 replace cq:=zE cq
 refine Zf (fun bg _ σ_ w_=>∃ (U_:PHeap),σ_ 8=jV (↑bg:Int)/\σ_ 1=.slice bj p1.length bl/\σ_ 2=.pointer (some ⟨b2,0,none⟩)/\σ_ 7=jV (↑p0.Shots.length:Int)/\PHeap.Le U8 U_/\sW w U U_ [.blk b2 34 B0] w_) gx ?_ ?_ ?_
 exact ⟨U8,Z,Z,Z,Z,(zZ _),bB⟩
 rintro bg ⟨⟩ jL jR iZ cm ⟨bF,bS,cI,ed,bR,dk,b5⟩ dg gq
 try dsimp only at dg
 have cD:Hid ((↑bg:Int) < (↑p0.Shots.length:Int)):=zE (wBz cm)
 replace cm:=zE cm
 have gA:Hid (w64 ((↑bg:Int) + 1)=(↑(bg + 1):Int)):=zE (by have h1:=cq.out;have h2:=cD.out;rw [wAO] <;> omega)
 refine zD (sR fL3 Z (oM Z bS (oM Z bR (oR Z (ze Z Z Z) (eN (cT Z cD (kN (zD (zd (sR fL7 Z (oM Z cI (oM Z bS (bnK dg fun x40 cY il=>?_)))))))))))))
 have fD:=cg.le az
 have fE:=fD.le dk
 have q:=fE.el (wAN cY)
 obtain ⟨dR,iH,jD,fU,bY,iy⟩:=q
 obtain ⟨du,dB,rfl,jg⟩:=iy
 replace bY:Cl bF dR (iH + bg * 1) [.slice du x40.length dB]:=bY
 refine oR Z (zu Z Z fU Z zl zS (wBP cY)) (oL Z (b5.ldC (f:=0) bY (v:=.slice du x40.length dB) Z Z zY Z) (oR Z (zi Z Z zA) (oM Z bR (oR Z (zw Z Z Z) (eN (ifc il ?_ ?_))))))
 intro bL im
 refine zp (zk (fun h=>h bL.out)) (ZG (zj (zG (rR fL3 Z (oM Z bS (oR Z (ZB (zo Z Z Z) (congrArg (jV) gA.out)) (oA Z Z (zq ?_))))))))
 have q:=nD im
 obtain rfl:=q
 exact zG ⟨Z,_,Z,⟨bF,Z,cI,ed,bR,dk,b5⟩⟩
 intro bL io
 refine cT Z bL (sR fL2 Z (oA Z Z (oA Z Z (eN (zI (zV (zH ?_)))))))
 have q:=wAI io
 obtain ⟨iM,ip,dZ⟩:=q
 have q:=wBI ct b9 (gq iM dZ)
 obtain rfl:=q
 refine zH (zV (zH ?_))
 cases ip
 exact ⟨rfl,_,(wDX rfl rfl),bF,_,(b5.pick [] _ (by decide) rfl),rfl,rfl⟩
 rintro ⟨⟩ jW i5 ⟨cy,ez,eh,ei,cJ,aX,gk⟩ gv
 have bf:=wCR ct b9 gv
 try dsimp only at bf
 have dU:Hid (¬ ((↑(((↑p0.Shots.length:Int):Int) - 0).toNat:Int) < (↑p0.Shots.length:Int))):=zE (wBO)
 refine zD (sR fL3 Z (oM Z ez (oM Z cJ (oR Z (ze Z Z Z) (eN (cF Z dU (ZC (zh (zh (zy (zG (zD (sR fL1 Z (oA Z Z (eN (zd ?_))))))))))))))))
 have q:=wBp bf
 obtain ⟨jt,bq⟩:=q
 have q:=wCA bq
 obtain ⟨cr,gy⟩:=q
 replace cr:=zE cr
 refine Zf (fun am _ σ_ w_=>∃ (U_:PHeap),σ_ 9=jV (↑am:Int)/\σ_ 1=.slice bj p1.length bl/\σ_ 2=.pointer (some ⟨b2,0,none⟩)/\σ_ 7=jV (↑p0.Shots.length:Int)/\PHeap.Le cy U_/\sW w U U_ [.blk b2 34 B0] w_) gy ?_ ?_ ?_
 exact ⟨cy,Z,eh,ei,cJ,(zZ _),gk⟩
 rintro am ⟨⟩ jM jX i6 cn ⟨cz,cL,ej,en,cK,aT,gm⟩ bD ci
 try dsimp only at bD
 have cE:Hid ((↑am:Int) < (↑p0.Shots.length:Int)):=zE (wBz cn)
 replace cn:=zE cn
 have gB:Hid (w64 ((↑am:Int) + 1)=(↑(am + 1):Int)):=zE (by have h1:=cr.out;have h2:=cE.out;rw [wAO] <;> omega)
 refine zD (sR fL3 Z (oM Z cL (oM Z cK (oR Z (ze Z Z Z) (eN (cT Z cE (kN (zD (zd (sR fL2 Z (oA Z Z (oA Z Z (eN (zD (sR fL1 Z (oA Z Z (eN (zd ?_))))))))))))))))))
 have q:=wBp bD
 obtain ⟨jq,b8⟩:=q
 have q:=wCA b8
 obtain ⟨cp,gw⟩:=q
 replace cp:=zE cp
 refine Zf (fun aq (x101,x102) σ_ w_=>∃ (U_:PHeap),σ_ 12=jV (↑aq:Int)/\σ_ 1=.slice bj p1.length bl/\σ_ 2=.pointer (some ⟨b2,0,none⟩)/\σ_ 7=jV (↑p0.Shots.length:Int)/\σ_ 9=jV (↑am:Int)/\σ_ 10=jV x101/\σ_ 11=jV x102/\PHeap.Le cz U_/\sW w U U_ [.blk b2 34 B0] w_) gw ?_ ?_ ?_
 exact ⟨cz,Z,ej,en,cK,cL,Z,Z,(zZ _),gm⟩
 rintro aq ⟨x101,x102⟩ jK jP dI cj ⟨bE,ap,aU,bo,bp,au,bv,bw,bh,bZ⟩ df gp
 try dsimp only at df
 have cC:Hid ((↑aq:Int) < (↑p0.Shots.length:Int)):=zE (wBz cj)
 replace cj:=zE cj
 have gz:Hid (w64 ((↑aq:Int) + 1)=(↑(aq + 1):Int)):=zE (by have h1:=cp.out;have h2:=cC.out;rw [wAO] <;> omega)
 refine zD (sR fL3 Z (oM Z ap (oM Z bp (oR Z (ze Z Z Z) (eN (cT Z cC (kN (zD (zd (zD (bnK df fun dL iz gC=>CK.cut (fun σ_ w_=>∃ (U_:PHeap),σ_ 1=.slice bj p1.length bl/\σ_ 2=.pointer (some ⟨b2,0,none⟩)/\σ_ 7=jV (↑p0.Shots.length:Int)/\σ_ 9=jV (↑am:Int)/\σ_ 10=jV x101/\σ_ 11=jV x102/\σ_ 12=jV (↑aq:Int)/\σ_ 81=.bool dL/\PHeap.Le bE U_/\sW w U U_ [.blk b2 34 B0] w_) ?_ ?_)))))))))))
 refine rR (wNs (.fx 7 (wSO (.fx 16 (wQr (.fx 31 (wQs (.nil)) .stop)) .stop)) .stop)) Z (oM Z aU (oM Z au (bnK iz fun x130 bz gD=>?_)))
 have eA:=cg.le az
 have eC:=eA.le aX
 have eD:=eC.le aT
 have cM:=eD.le bh
 have q:=cM.el (wAN bz)
 obtain ⟨dM,iB,jy,fH,bT,ir⟩:=q
 obtain ⟨dm,dw,rfl,eE⟩:=ir
 replace bT:Cl bE dM (iB + am * 1) [.slice dm x130.length dw]:=bT
 refine oR Z (zu Z Z fH Z zl zS (wBP bz)) (oL Z (bZ.ldC (f:=0) bT (v:=.slice dm x130.length dw) Z Z zY Z) (oM Z ap (bnK gD fun cw bA gE=>?_)))
 have q:=eE.el (fun _=>rfl) (wAN bA)
 obtain ⟨i7,ji,fJ,fV⟩:=q
 refine oR Z (zu Z Z fJ Z zA zN (wBP bA)) (oL Z (bZ.ldC (f:=0) fV (v:=jV cw) Z Z zQ Z) (bnK gE fun jE eF gF=>zK 0 Z Z Z Z (zJ Z Z Tryz.call45 (zB Z (zB Z (zB Z zP))) Z) bZ (fun hs=>wAn cw 0 5 dI bE hs eF) (.inr Z) ?_))
 rintro bt iU jv cA aS gf ⟨rfl,rfl⟩
 have bC:sW w U bt [.blk b2 34 B0] cA:=gf
 refine oM Z Z (ifc gF ?_ ?_)
 intro ae gH
 refine zL Z Z Z (zF Z Z (congrArg nA ae.out) Z) (zL Z Z Z (zF Z Z (congrArg nA ae.out) Z) (zL Z Z Z (zF Z Z (congrArg nA ae.out) Z) (zL Z Z Z (zF Z Z (congrArg nA ae.out) Z) (zL Z Z Z (zF Z Z (congrArg nA ae.out) Z) (zL Z Z Z (zF Z Z (congrArg nA ae.out) Z) (zL Z Z Z (zF Z Z (congrArg nA ae.out) Z) (ZF Z Z Z (zF Z Z (congrArg nA ae.out) Z) (oR Z (zR Z (congrArg nA ae.out) Z) (oM Z Z (oN Z (oN Z (oN Z (oN Z (oN Z (oN Z (oN Z (oN Z (oN Z (zL Z Z Z (wAH Z Z Z) (zL Z Z Z (wAH Z Z Z) (zL Z Z Z (wAH Z Z Z) (ZF Z Z Z (wAH Z Z Z) (zL Z Z Z (wAH Z Z Z) (oN Z (oR Z (zR Z Z Z) (zq ?_))))))))))))))))))))))))))
 cases gH
 exact zG ⟨Z,⟨bt,aU,bo,bp,au,bv,bw,ap,Z,aS,bC⟩⟩
 intro ae gI
 refine zW Z Z Z (zC Z Z (congrArg nA (nB.2 ae.out))) Z aU (zW Z Z Z (zC Z Z (congrArg nA (nB.2 ae.out))) Z ap (bnK gI fun dC cN gJ=>?_))
 have cO:=cM.le aS
 have q:=cO.el (wAN cN)
 obtain ⟨dN,iC,jz,fK,bU,it⟩:=q
 obtain ⟨dp,dx,rfl,eG⟩:=it
 replace bU:Cl bt dN (iC + aq * 1) [.slice dp dC.length dx]:=bU
 refine zX Z Z Z (zC Z Z (congrArg nA (nB.2 ae.out))) (fun _=>zu Z Z fK Z zl zS (wBP cN)) (zx Z Z Z (zC Z Z (congrArg nA (nB.2 ae.out))) (bC.ldC (f:=0) bU (v:=.slice dp dC.length dx) Z Z zY Z) Z (zW Z Z Z (zC Z Z (congrArg nA (nB.2 ae.out))) Z au (bnK gJ fun dD cP gK=>?_)))
 have q:=eG.el (fun _=>rfl) (wAN cP)
 obtain ⟨i8,jj,fL,fW⟩:=q
 refine zX Z Z Z (zC Z Z (congrArg nA (nB.2 ae.out))) (fun _=>zu Z Z fL Z zA zN (wBP cP)) (zx Z Z Z (zC Z Z (congrArg nA (nB.2 ae.out))) (bC.ldC (f:=0) fW (v:=jV dD) Z Z zQ Z) Z (bnK gK fun jG eH gL=>zK 0 Z Z Z (zC Z Z (congrArg nA (nB.2 ae.out))) (zJ Z Z Tryz.call45 (zB Z (zB Z (zB Z zP))) Z) bC (fun hs=>wAn dD 0 5 cA bt hs eH) (.inr Z) ?_))
 rintro bm iV jw cB aW gg ⟨rfl,rfl⟩
 have bb:sW w U bm [.blk b2 34 B0] cB:=gg
 refine oR Z (zM Z (congrArg nA (nB.2 ae.out)) Z) (oM Z Z (ifc gL ?_ ?_))
 intro ab gM
 refine zL Z Z Z (zF Z Z (congrArg nA ab.out) Z) (zL Z Z Z (zF Z Z (congrArg nA ab.out) Z) (zL Z Z Z (zF Z Z (congrArg nA ab.out) Z) (zL Z Z Z (zF Z Z (congrArg nA ab.out) Z) (zL Z Z Z (zF Z Z (congrArg nA ab.out) Z) (zL Z Z Z (zF Z Z (congrArg nA ab.out) Z) (zL Z Z Z (zF Z Z (congrArg nA ab.out) Z) (zL Z Z Z (zF Z Z (congrArg nA ab.out) Z) (zL Z Z Z (zF Z Z (congrArg nA ab.out) Z) (zL Z Z Z (wAH Z Z Z) (zL Z Z Z (wAH Z Z Z) (zL Z Z Z (wAH Z Z Z) (ZF Z Z Z (wAH Z Z Z) (zL Z Z Z (wAH Z Z Z) (zL Z Z Z (zF Z Z (congrArg nA ab.out) Z) (oR Z (zR Z (congrArg nA ab.out) Z) (zq ?_))))))))))))))))
 cases gM
 exact zG ⟨Z,⟨bm,aU,bo,bp,au,bv,bw,ap,Z,(aS.trans aW),bb⟩⟩
 intro ab gN
 refine zW Z Z Z (zC Z Z (congrArg nA (nB.2 ab.out))) Z aU (zW Z Z Z (zC Z Z (congrArg nA (nB.2 ab.out))) Z au ?_)
 have eI:=cO.le aW
 have q:=eI.el (wAN bz)
 obtain ⟨dO,iE,jA,fM,bV,iu⟩:=q
 obtain ⟨dq,dy,rfl,eJ⟩:=iu
 replace bV:Cl bm dO (iE + am * 1) [.slice dq x130.length dy]:=bV
 refine zX Z Z Z (zC Z Z (congrArg nA (nB.2 ab.out))) (fun _=>zu Z Z fM Z zl zS (wBP bz)) (zx Z Z Z (zC Z Z (congrArg nA (nB.2 ab.out))) (bb.ldC (f:=0) bV (v:=.slice dq x130.length dy) Z Z zY Z) Z (zW Z Z Z (zC Z Z (congrArg nA (nB.2 ab.out))) Z ap ?_))
 have q:=eJ.el (fun _=>rfl) (wAN bA)
 obtain ⟨i9,jk,fN,fY⟩:=q
 refine zX Z Z Z (zC Z Z (congrArg nA (nB.2 ab.out))) (fun _=>zu Z Z fN Z zA zN (wBP bA)) (zx Z Z Z (zC Z Z (congrArg nA (nB.2 ab.out))) (bb.ldC (f:=0) fY (v:=jV cw) Z Z zQ Z) Z (zX Z Z Z (zC Z Z (congrArg nA (nB.2 ab.out))) (fun _=>ZR Z Z Z) (zW Z Z Z (zC Z Z (congrArg nA (nB.2 ab.out))) Z Z (ifc gN ?_ ?_))))
 intro ai gO
 refine zx Z Z Z (wT Z ai) (bb.ldBA (j:=0) Z Z bo ZN ZD (vs:=B0) Z Z) Z (zW Z Z Z (wT Z ai) Z au (zW Z Z Z (wT Z ai) Z ap ?_))
 have eK:=cd.le az
 have eL:=eK.le aX
 have eM:=eL.le aT
 have eO:=eM.le bh
 have eP:=eO.le aS
 have eQ:=eP.le aW
 have eR:=cf.le az
 have eS:=eR.le aX
 have eT:=eS.le aT
 have eU:=eT.le bh
 have eV:=eU.le aS
 have eW:=eV.le aW
 have eX:=da.le az
 have eY:=eX.le aX
 have eZ:=eY.le aT
 have fb:=eZ.le bh
 have fc:=fb.le aS
 have fd:=fc.le aW
 refine bnK gO fun jH fe gP=>zK 0 Z Z Z (wT Z ai) (zJ Z Z Tryz.call60 (zB Z (zB Z (zB Z zP))) Z) bb (fun hs=>wCn p0 aZ ba bi bk br bs (↑am:Int) (↑aq:Int) cB bm hs eQ eW fd fe) (.inr Z) ?_
 rintro cx iW jx dK iA gh ⟨rfl,rfl⟩
 have gi:sW w U cx [.blk b2 34 B0] dK:=gh
 refine rU Z (wT Z ai) (ZQ Z Z) (zX Z Z Z (zC Z Z (congrArg nA (nB.2 ab.out))) (fun _=>zR Z (ZX ai.out) Z) (oR Z (zM Z (congrArg nA (nB.2 ab.out)) Z) (zq ?_)))
 cases gP
 exact zG ⟨Z,⟨cx,aU,bo,bp,au,bv,bw,ap,Z,((aS.trans aW).trans iA),gi⟩⟩
 intro ai gQ
 refine oF Z ai (oF Z ai (oF Z ai (ZF Z Z Z (zF Z Z (zk ai.out) Z) (oF Z ai (zX Z Z Z (zC Z Z (congrArg nA (nB.2 ab.out))) (fun _=>zM Z (zk ai.out) Z) (oR Z (zM Z (congrArg nA (nB.2 ab.out)) Z) (zq ?_)))))))
 cases gQ
 exact zG ⟨Z,⟨bm,aU,bo,bp,au,bv,bw,ap,Z,(aS.trans aW),bb⟩⟩
 rintro jQ iY ⟨bu,bM,d4,d5,bN,d6,d7,bO,cG,dh,be⟩
 refine ifc gC ?_ ?_
 intro bJ gR
 refine zt (cG.trans (congrArg nA bJ.out)) (sR fL2 Z (oA Z Z (oA Z Z (eN (zI (zH (zV (zH ?_))))))))
 have q:=wAI gR
 obtain ⟨iI,gS,dV⟩:=q
 have q:=wBI bD b8 (gp iI dV)
 obtain rfl:=q
 refine zH (zV (zH (zV (zH ?_))))
 have q:=wAI gS
 obtain ⟨iJ,gT,dW⟩:=q
 have q:=wBI bf bq (ci iJ dW)
 obtain rfl:=q
 refine zH (zV (zH ?_))
 cases gT
 exact ⟨rfl,_,(wDX rfl rfl),bu,_,(be.pick [] _ (by decide) rfl),rfl,rfl⟩
 intro bJ gU
 refine zp (cG.trans (congrArg nA (nB.2 bJ.out))) (kN (sR wSG Z (oM Z d6 (oM Z bM (oM Z bN (bnK gU fun dE cQ gW=>?_))))))
 have ff:=cg.le az
 have fg:=ff.le aX
 have fh:=fg.le aT
 have fj:=fh.le bh
 have cR:=fj.le dh
 have q:=cR.el (wAN cQ)
 obtain ⟨dP,iF,jB,fO,bW,iv⟩:=q
 obtain ⟨dr,dz,rfl,fm⟩:=iv
 replace bW:Cl bu dP (iF + am * 1) [.slice dr dE.length dz]:=bW
 refine oR Z (zu Z Z fO Z zl zS (wBP cQ)) (oL Z (be.ldC (f:=0) bW (v:=.slice dr dE.length dz) Z Z zY Z) (oM Z bO (bnK gW fun iN cS gX=>?_)))
 have q:=fm.el (fun _=>rfl) (wAN cS)
 obtain ⟨ja,jl,fP,fZ⟩:=q
 refine oR Z (zu Z Z fP Z zA zN (wBP cS)) (oL Z (be.ldC (f:=0) fZ (v:=jV iN) Z Z zQ Z) (oR Z (zo Z Z Z) (oA Z Z (eN (rR wSG Z (oM Z d7 (oM Z bM (oM Z bO (bnK gX fun dF cU gZ=>?_)))))))))
 have q:=cR.el (wAN cU)
 obtain ⟨dQ,iG,jC,fQ,bX,iw⟩:=q
 obtain ⟨dt,dA,rfl,fq⟩:=iw
 replace bX:Cl bu dQ (iG + aq * 1) [.slice dt dF.length dA]:=bX
 refine oR Z (zu Z Z fQ Z zl zS (wBP cU)) (oL Z (be.ldC (f:=0) bX (v:=.slice dt dF.length dA) Z Z zY Z) (oM Z bN (bnK gZ fun iO cV g6=>?_)))
 have q:=fq.el (fun _=>rfl) (wAN cV)
 obtain ⟨jb,jm,fR,ga⟩:=q
 refine oR Z (zu Z Z fR Z zA zN (wBP cV)) (oL Z (be.ldC (f:=0) ga (v:=jV iO) Z Z zQ Z) (oR Z (zo Z Z Z) (oA Z Z (zq (zj (zG (rR fL3 Z (oM Z bO (oR Z (ZB (zo Z Z Z) (congrArg (jV) gz.out)) (oA Z Z (zq ?_)))))))))))
 have q:=nD g6
 obtain rfl:=q
 exact zG ⟨Z,_,Z,⟨bu,Z,bM,d4,d5,bN,Z,Z,(bh.trans dh),be⟩⟩
 rintro ⟨jN,jO⟩ jS i0 ⟨bG,eu,d8,bP,cH,bQ,d9,eb,cu,aV⟩ gt
 have db:=wCR bD b8 gt
 try dsimp only at db
 have dS:Hid (¬ ((↑(((↑p0.Shots.length:Int):Int) - 0).toNat:Int) < (↑p0.Shots.length:Int))):=zE (wBO)
 refine zD (sR fL3 Z (oM Z eu (oM Z cH (oR Z (ze Z Z Z) (eN (cF Z dS (ZC (zh (zh (zy (zG (sR fL16 Z (oM Z d9 (oR Z (zU Z bP zm Z zS) (oL Z (aV.ldB (j:=0) Z Z Z zY (v:=.slice aZ p0.Shots.length ba) Z) (oM Z bQ (bnK db fun iP cW g7=>?_)))))))))))))))))
 have ft:=cd.le az
 have fu:=ft.le aX
 have fw:=fu.le aT
 have fy:=fw.le cu
 have q:=fy.el (fun _=>rfl) (wAN cW)
 obtain ⟨jc,jo,fS,gb⟩:=q
 refine oR Z (zu Z Z fS Z zA zN (wBP cW)) (oL Z (aV.ldC (f:=0) gb (v:=jV iP) Z Z zQ Z) (oR Z (ZR Z Z Z) (oM Z Z (ifc g7 ?_ ?_))))
 intro ah g8
 refine oT Z ah (oT Z ah (oT Z ah (oT Z ah (oT Z ah (oT Z ah (oT Z ah (oR Z (zR Z (ZX ah.out) Z) (eN (zt Z (sR fL2 Z (oA Z Z (oA Z Z (eN (zI (zV (zH ?_))))))))))))))))
 have q:=wAI g8
 obtain ⟨iK,g9,dX⟩:=q
 have q:=wBI bf bq (ci iK dX)
 obtain rfl:=q
 refine zH (zV (zH ?_))
 cases g9
 exact ⟨rfl,_,(wDX rfl rfl),bG,_,(aV.pick [] _ (by decide) rfl),rfl,rfl⟩
 intro ah ib
 refine zW Z Z Z (wF Z ah) Z eb (rU Z (wF Z ah) (zU Z bP zm Z zS) (zx Z Z Z (wF Z ah) (aV.ldB (j:=0) Z Z Z zY (v:=.slice bi p0.Down.length bk) Z) Z (zW Z Z Z (wF Z ah) Z bQ (bnK ib fun iQ cX ic=>?_))))
 have fz:=cf.le az
 have fA:=fz.le aX
 have fB:=fA.le aT
 have fC:=fB.le cu
 have q:=fC.el (fun _=>rfl) (wAN cX)
 obtain ⟨jd,jp,fT,gc⟩:=q
 refine rU Z (wF Z ah) (zu Z Z fT Z zA zN (wBP cX)) (zx Z Z Z (wF Z ah) (aV.ldC (f:=0) gc (v:=jV iQ) Z Z zQ Z) Z (rU Z (wF Z ah) (zw Z Z Z) (oR Z (zM Z (zk ah.out) Z) (eN (ifc ic ?_ ?_)))))
 intro bK ie
 refine zp (zk (fun h=>h bK.out)) (ZG (zj (zG (rR fL3 Z (oM Z bQ (oR Z (ZB (zo Z Z Z) (congrArg (jV) gB.out)) (oA Z Z (zq ?_))))))))
 have q:=nD ie
 obtain rfl:=q
 exact zG ⟨Z,_,Z,⟨bG,Z,d8,bP,cH,(aT.trans cu),aV⟩⟩
 intro bK ig
 refine cT Z bK (sR fL2 Z (oA Z Z (oA Z Z (eN (zI (zV (zH ?_)))))))
 have q:=wAI ig
 obtain ⟨iL,ii,dY⟩:=q
 have q:=wBI bf bq (ci iL dY)
 obtain rfl:=q
 refine zH (zV (zH ?_))
 cases ii
 exact ⟨rfl,_,(wDX rfl rfl),bG,_,(aV.pick [] _ (by decide) rfl),rfl,rfl⟩
 rintro ⟨⟩ jU i4 ⟨dG,ey,je,jf,ef,jh,gj⟩ gu
 have de:=wCR bf bq gu
 try dsimp only at de
 have dT:Hid (¬ ((↑(((↑p0.Shots.length:Int):Int) - 0).toNat:Int) < (↑p0.Shots.length:Int))):=zE (wBO)
 refine zD (sR fL3 Z (oM Z ey (oM Z ef (oR Z (ze Z Z Z) (eN (cF Z dT (ZC (zh (zh (zy (zG (sR fL2 Z (oA Z Z (oA Z Z (eN (zI ?_))))))))))))))))
 cases de
 exact ⟨rfl,_,(wDX rfl rfl),dG,_,(gj.pick [] _ (by decide) rfl),rfl,rfl⟩
 intro bI ij
 refine cT Z bI (sR fL2 Z (oA Z Z (oA Z Z (eN (zI (zH ?_))))))
 cases ij
 exact ⟨rfl,_,(wDX rfl rfl),U8,_,(bB.pick [] _ (by decide) rfl),rfl,rfl⟩
 intro bH ik
 refine cT Z bH (sR fL3 Z (oM Z Z (oA Z Z (oA Z Z (eN (zI (zH ?_)))))))
 cases ik
 exact ⟨rfl,_,(wDX rfl rfl),U8,_,(bB.pick [] _ (by decide) rfl),rfl,rfl⟩
theorem wEJ (p0:Int) (p1:wAF) (ap:Nat) (ai:Nat) (ak:Option Addr) (aq:Nat) (ae:Option Addr) (ah:Nat) (am:Option Addr) (au:Nat) (az:Nat) (aZ:Array MapEntry) (ba:Nat) (w:World) (U:PHeap) (hS:St0 w U []) (aW:Cl U ap 0 [.pointer (some ⟨ai,0,none⟩)]) (aX:Cl U ai 0 ([.slice ak p1.Bout.Shots.length aq,.slice ae p1.Bout.Down.length ah,.slice am p1.Bout.Across.length au,.map (some az)] ++ ((hH KL.encI p1.hits.l) ++ ((hH KL.encI p1.used.l) ++ (hH KL.encT p1.met.l))))) (be:Sl U 1 ak aq p1.Bout.Shots.length (hH KL.encI p1.Bout.Shots)) (bf:Sl U 1 ae ah p1.Bout.Down.length (hH KL.encI p1.Bout.Down)) (bg:Sl U 2 am au p1.Bout.Across.length (hH wAA p1.Bout.Across)) (bh:MpF U az aZ ba wDP wDl p1.may) {r:Bool} (hm:wAl p0 p1=some r):Gv Tryz.prog 97 [jV p0,.pointer (some ⟨ap,0,none⟩)] w (wCb w [] U (fun U_ L_ v=>v=.bool r/\L_=[])):=by
 unfold wAl at hm
 refine Gv.of Tryz.func97 Z Tryz.ntmps97 Tryz.results97 Z (sR fL1 Z (oA Z Z (eN (sR (wQm (.fx 8 (.fl 9 .nil) .stop)) Z (oM Z Z (oL Z (hS.ldC (f:=0) aW (v:=.pointer (some ⟨ai,0,none⟩)) Z Z ZK Z) (oR Z (ZH Z Z) (oR Z (zU Z Z zf Z zr) (oR Z (zU Z Z zO Z zS) (oL Z (hS.ldC (f:=1) aX (v:=.slice ae p1.Bout.Down.length ah) Z Z zY Z) (oR Z (zi Z Z zA) (oR Z (ZY Z Z Z) (bnK hm fun x1 h2 aY=>zK 0 Z Z Z Z (zJ Z Z Tryz.call46 (zB Z (zB Z (zB Z zP))) Z) hS (fun hs=>wCI p0 0 (w64 ((↑p1.Bout.Down.length:Int) - 1)) w U hs h2) (.inr Z) ?_)))))))))))))
 rintro U4 L5 v6 W7 bi aV ⟨rfl,rfl⟩
 have aU:sW w U U4 [] W7:=aV
 refine oA Z Z (eN (zI ?_))
 have hE:=nD aY;first | subst r | cases hE
 exact ⟨Z,_,(zn Z),U4,_,aU,Z,Z⟩
theorem wEn (p0:wAF) (ae:Nat) (ah:Option Addr) (ak:Nat) (ai:Option Addr) (am:Nat) (aj:Option Addr) (ap:Nat) (ab:Nat) (aq:Array MapEntry) (au:Nat) (p1:List Int) (bh:Option Addr) (bi:Nat) (w:World) (U:PHeap) (hS:St0 w U [.blk ae 118 ([.slice ah p0.Bout.Shots.length ak,.slice ai p0.Bout.Down.length am,.slice aj p0.Bout.Across.length ap,.map (some ab)] ++ ((hH KL.encI p0.hits.l) ++ ((hH KL.encI p0.used.l) ++ (hH KL.encT p0.met.l)))),.obj ab (.map aq au)]) (cH:Sl U 1 ah ak p0.Bout.Shots.length (hH KL.encI p0.Bout.Shots)) (cI:Sl U 1 ai am p0.Bout.Down.length (hH KL.encI p0.Bout.Down)) (cJ:Sl U 2 aj ap p0.Bout.Across.length (hH wAA p0.Bout.Across)) (cK:MpR aq wDP wDl p0.may) (bB:Sl U 1 bh bi p1.length (hH KL.encI p1)) {r:Int} (hm:wBm p0 p1=some r):Gv Tryz.prog 61 [.pointer (some ⟨ae,0,none⟩),.slice bh p1.length bi] w (wCb w [.blk ae 118 ([.slice ah p0.Bout.Shots.length ak,.slice ai p0.Bout.Down.length am,.slice aj p0.Bout.Across.length ap,.map (some ab)] ++ ((hH KL.encI p0.hits.l) ++ ((hH KL.encI p0.used.l) ++ (hH KL.encT p0.met.l)))),.obj ab (.map aq au)] U (fun U_ L_ v=>v=jV r/\L_=[.blk ae 118 ([.slice ah p0.Bout.Shots.length ak,.slice ai p0.Bout.Down.length am,.slice aj p0.Bout.Across.length ap,.map (some ab)] ++ ((hH KL.encI p0.hits.l) ++ ((hH KL.encI p0.used.l) ++ (hH KL.encT p0.met.l)))),.obj ab (.map aq au)])):=by
 unfold wBm at hm
 refine Gv.of Tryz.func61 Z Tryz.ntmps61 Tryz.results61 Z (sR gAg Z ?_)
 let B0:List Value:=[.pointer (some ⟨ae,0,none⟩)]
 refine ZI (cs:=B0) rfl rfl rfl rfl rfl rfl (by rfl) hS ?_
 intro W3 b4 cB
 have q:=cB.freeze (k:=0) rfl
 obtain ⟨U7,aZ,aV,cq⟩:=q
 replace aV:=Cl.of aV
 have cr:SW w [.blk ae 118 ([.slice ah p0.Bout.Shots.length ak,.slice ai p0.Bout.Down.length am,.slice aj p0.Bout.Across.length ap,.map (some ab)] ++ ((hH KL.encI p0.hits.l) ++ ((hH KL.encI p0.used.l) ++ (hH KL.encT p0.met.l)))),.obj ab (.map aq au)] U U7 [.blk ae 118 ([.slice ah p0.Bout.Shots.length ak,.slice ai p0.Bout.Down.length am,.slice aj p0.Bout.Across.length ap,.map (some ab)] ++ ((hH KL.encI p0.hits.l) ++ ((hH KL.encI p0.used.l) ++ (hH KL.encT p0.met.l)))),.obj ab (.map aq au)] W3:=cq
 replace aV:Cl U7 b4 0 B0:=aV
 refine oA Z Z (eN (zD (sR gAs Z (oM Z Z (oR Z (Runs.mkf Z zP (zB Z zP)) ?_)))))
 have q:=cr.freezeMT (k:=1) rfl cK
 obtain ⟨bH,aY,cN,cu,db⟩:=q
 have cw:SW w [.blk ae 118 ([.slice ah p0.Bout.Shots.length ak,.slice ai p0.Bout.Down.length am,.slice aj p0.Bout.Across.length ap,.map (some ab)] ++ ((hH KL.encI p0.hits.l) ++ ((hH KL.encI p0.used.l) ++ (hH KL.encT p0.met.l)))),.obj ab (.map aq au)] U bH [.blk ae 118 ([.slice ah p0.Bout.Shots.length ak,.slice ai p0.Bout.Down.length am,.slice aj p0.Bout.Across.length ap,.map (some ab)] ++ ((hH KL.encI p0.hits.l) ++ ((hH KL.encI p0.used.l) ++ (hH KL.encT p0.met.l))))] W3:=cu
 have q:=cw.freezeTB (k:=0) rfl
 obtain ⟨ba,aS,aU,cx,de⟩:=q
 replace aU:=Cl.of aU
 have cy:SW w [.blk ae 118 ([.slice ah p0.Bout.Shots.length ak,.slice ai p0.Bout.Down.length am,.slice aj p0.Bout.Across.length ap,.map (some ab)] ++ ((hH KL.encI p0.hits.l) ++ ((hH KL.encI p0.used.l) ++ (hH KL.encT p0.met.l)))),.obj ab (.map aq au)] U ba [] W3:=cx
 replace aU:Cl ba ae 0 ([.slice ah p0.Bout.Shots.length ak,.slice ai p0.Bout.Down.length am,.slice aj p0.Bout.Across.length ap,.map (some ab)] ++ ((hH KL.encI p0.hits.l) ++ ((hH KL.encI p0.used.l) ++ (hH KL.encT p0.met.l)))):=aU
 have bO:=bB.le aZ
 have bP:=bO.le aY
 have bQ:=bP.le aS
 have bR:=aV.le aY
 have bS:=bR.le aS
 have bT:=cH.le aZ
 have bU:=bT.le aY
 have bV:=bU.le aS
 have bW:=cI.le aZ
 have bX:=bW.le aY
 have bY:=bX.le aS
 have bZ:=cJ.le aZ
 have b5:=bZ.le aY
 have b8:=b5.le aS
 have b9:=cN.le aS
 have cp:FnOK Tryz.prog ba (.func (.func 97) #[] #[.pointer (some ⟨b4,0,none⟩)]) wJx wLQ (fun x=>wAl x p0):=⟨97,[],[.pointer (some ⟨b4,0,none⟩)],rfl,Tryz.call97,fun U1 w1 x y vs le hs ha hm=>by obtain rfl:=ha;exact wEJ x p0 b4 ae ah ak ai am aj ap ab aq au w1 U1 hs (bS.le le) (aU.le le) (bV.le le) (bY.le le) (b8.le le) (b9.le le) hm⟩
 refine bnK hm fun x40 cd cU=>zK 0 Z Z Z Z (zJ Z Z Tryz.call47 (zB Z (zB Z zP)) Z) cy (fun hs=>wBk p1 bh bi (fun x=>wAl x p0) (.func (.func 97) #[] #[.pointer (some ⟨b4,0,none⟩)]) W3 ba hs bQ cp cd) (.inr Z) ?_
 rintro bI dh dx bj cY cz ⟨rfl,rfl⟩
 have cA:SW w [.blk ae 118 ([.slice ah p0.Bout.Shots.length ak,.slice ai p0.Bout.Down.length am,.slice aj p0.Bout.Across.length ap,.map (some ab)] ++ ((hH KL.encI p0.hits.l) ++ ((hH KL.encI p0.used.l) ++ (hH KL.encT p0.met.l)))),.obj ab (.map aq au)] U bI [] bj:=cz
 have q:=de _ _ _ cY cA
 obtain ⟨bJ,cZ,cC⟩:=q
 have cD:SW w [.blk ae 118 ([.slice ah p0.Bout.Shots.length ak,.slice ai p0.Bout.Down.length am,.slice aj p0.Bout.Across.length ap,.map (some ab)] ++ ((hH KL.encI p0.hits.l) ++ ((hH KL.encI p0.used.l) ++ (hH KL.encT p0.met.l)))),.obj ab (.map aq au)] U bJ [.blk ae 118 ([.slice ah p0.Bout.Shots.length ak,.slice ai p0.Bout.Down.length am,.slice aj p0.Bout.Across.length ap,.map (some ab)] ++ ((hH KL.encI p0.hits.l) ++ ((hH KL.encI p0.used.l) ++ (hH KL.encT p0.met.l))))] bj:=cC
 have q:=db _ _ _ cZ cD
 obtain ⟨bb,da,cE⟩:=q
 have bA:SW w [.blk ae 118 ([.slice ah p0.Bout.Shots.length ak,.slice ai p0.Bout.Down.length am,.slice aj p0.Bout.Across.length ap,.map (some ab)] ++ ((hH KL.encI p0.hits.l) ++ ((hH KL.encI p0.used.l) ++ (hH KL.encT p0.met.l)))),.obj ab (.map aq au)] U bb [.obj ab (.map aq au),.blk ae 118 ([.slice ah p0.Bout.Shots.length ak,.slice ai p0.Bout.Down.length am,.slice aj p0.Bout.Across.length ap,.map (some ab)] ++ ((hH KL.encI p0.hits.l) ++ ((hH KL.encI p0.used.l) ++ (hH KL.encT p0.met.l))))] bj:=cE
 refine oR Z (ZQ Z Z) (eN (ifc cU ?_ ?_))
 intro bk br
 refine zp (nC bk.out) (kN (zD (sR fL1 Z (oA Z Z (eN (zd ?_))))))
 have q:=wBp br
 obtain ⟨dw,bo⟩:=q
 have q:=wCA bo
 obtain ⟨bq,cO⟩:=q
 replace bq:=zE bq
 refine Zf (fun aX _ σ_ w_=>∃ (U_:PHeap),σ_ 5=jV (1 + ↑aX:Int)/\σ_ 1=.slice bh p1.length bi/\PHeap.Le bb U_/\SW w [.blk ae 118 ([.slice ah p0.Bout.Shots.length ak,.slice ai p0.Bout.Down.length am,.slice aj p0.Bout.Across.length ap,.map (some ab)] ++ ((hH KL.encI p0.hits.l) ++ ((hH KL.encI p0.used.l) ++ (hH KL.encT p0.met.l)))),.obj ab (.map aq au)] U U_ [.obj ab (.map aq au),.blk ae 118 ([.slice ah p0.Bout.Shots.length ak,.slice ai p0.Bout.Down.length am,.slice aj p0.Bout.Across.length ap,.map (some ab)] ++ ((hH KL.encI p0.hits.l) ++ ((hH KL.encI p0.used.l) ++ (hH KL.encT p0.met.l))))] w_) cO ?_ ?_ ?_
 exact ⟨bb,Z,Z,(zZ _),bA⟩
 rintro aX ⟨⟩ dy dA bv bp ⟨bu,bg,bf,bE,cG⟩ bD cM
 try dsimp only at bD
 have bw:Hid ((1 + ↑aX:Int) < (↑p1.length:Int)):=zE (lp_lt bp)
 replace bp:=zE bp
 have cP:Hid (w64 ((1 + ↑aX:Int) + 1)=(1 + ↑(aX + 1):Int)):=zE (by have h1:=bq.out;have h2:=bw.out;rw [wAO] <;> omega)
 refine zD (sR fL4 rfl (zW rfl rfl rfl rfl rfl bg (zW rfl rfl rfl rfl rfl bf (zX rfl rfl rfl rfl (fun _=>zi rfl rfl zA) (zX rfl rfl rfl rfl (fun _=>ze rfl rfl rfl) (eN (cT Z bw (kN (zD (zd (zD (ZP ZL [3,3,3,1,3,3,3,3,1,3] wSG (by kernel_rfl) ?_))))))))))))
 have aW:=cG.drew
 generalize hw_W80:({ bv with drawn:=bv.drawn + 1 }:World)=dm at aW ⊢
 refine oM Z bf (oM Z bg (bnK bD fun x81 bm cV=>?_))
 have cf:=bB.le aZ
 have cg:=cf.le da
 have bz:=cg.le bE
 have q:=bz.el (fun _=>rfl) (wAN bm)
 obtain ⟨dp,dt,ci,cm⟩:=q
 refine oR Z (Zn Z Z ci Z zA zN (wDH bm) (wDK bm)) (oL Z (aW.ldC (f:=0) cm (v:=jV x81) Z Z zQ Z) (oM Z bf (oM Z bg (oR Z (ZY Z Z Z) (bnK cV fun x91 bn cW=>?_)))))
 have q:=bz.el (fun _=>rfl) (wAN bn)
 obtain ⟨dq,du,cj,cn⟩:=q
 refine oR Z (Zn Z Z cj Z zA zN (wDH bn) (wDK bn)) (oL Z (aW.ldC (f:=0) cn (v:=jV x91) Z Z zQ Z) (oR Z (Runs.leq Z Z Z) (eN (ifc cW ?_ ?_))))
 intro bl cX
 refine cT Z bl (sR fL1 Z (oA Z Z (eN (zI (zV (zH ?_))))))
 have q:=wAI cX
 obtain ⟨df,cQ,bL⟩:=q
 have q:=wBI br bo (cM df bL)
 obtain rfl:=q
 refine zH (zV (zH ?_))
 cases cQ
 exact ⟨rfl,_,(zn rfl),bu,_,(aW.pick [1,0] _ (by decide) rfl),rfl,rfl⟩
 intro bl cR
 refine cF Z bl (ZG (zj (zG (rR fL3 Z (oM Z bg (oR Z (ZB (zo Z Z Z) (congrArg (jV) cP.out)) (oA Z Z (zq ?_))))))))
 have q:=nD cR
 obtain rfl:=q
 exact zG ⟨Z,_,Z,⟨bu,Z,bf,bE,aW⟩⟩
 rintro ⟨⟩ dz dk ⟨bG,bN,bM,dr,ct⟩ cL
 have bC:=wCR br bo cL
 try dsimp only at bC
 have bK:Hid (¬ ((1 + ↑(((↑p1.length:Int):Int) - 1).toNat:Int) < (↑p1.length:Int))):=zE (wRJ)
 refine zD (sR fL4 Z (oM Z bN (oM Z bM (oR Z (zi Z Z zA) (oR Z (ze Z Z Z) (eN (cF Z bK (ZC (zh (zh (zy (zG (sR fL1 Z (oA Z Z (eN (zI ?_))))))))))))))))
 cases bC
 exact ⟨rfl,_,(zn rfl),bG,_,(ct.pick [1,0] _ (by decide) rfl),rfl,rfl⟩
 intro bk cS
 refine zt (nF (bk.out)) (sR fL1 Z (oA Z Z (eN (zI (zH ?_)))))
 cases cS
 exact ⟨rfl,_,(zn rfl),bb,_,(bA.pick [1,0] _ (by decide) rfl),rfl,rfl⟩
end Go.Proofs.YtfcmijinklojbaaGreat
namespace Go.Proofs.YtfcmijinklojbaaGreat
open Go.KL
set_option maxHeartbeats 4000000
theorem wEo (p0:Int) (p1:wAF) (aS:Nat) (ae:Nat) (ai:Option Addr) (am:Nat) (aj:Option Addr) (ap:Nat) (ak:Option Addr) (aq:Nat) (au:Nat) (aU:Array MapEntry) (aV:Nat) (p2:Int) (aT:Nat) (w:World) (U:PHeap) (hS:St0 w U []) (ba:Cl U aS 0 [.pointer (some ⟨ae,0,none⟩)]) (bb:Cl U ae 0 ([.slice ai p1.Bout.Shots.length am,.slice aj p1.Bout.Down.length ap,.slice ak p1.Bout.Across.length aq,.map (some au)] ++ ((hH KL.encI p1.hits.l) ++ ((hH KL.encI p1.used.l) ++ (hH KL.encT p1.met.l))))) (be:Sl U 1 ai am p1.Bout.Shots.length (hH KL.encI p1.Bout.Shots)) (bf:Sl U 1 aj ap p1.Bout.Down.length (hH KL.encI p1.Bout.Down)) (bg:Sl U 2 ak aq p1.Bout.Across.length (hH wAA p1.Bout.Across)) (bh:MpF U au aU aV wDP wDl p1.may) (bi:Cl U aT 0 [jV p2]) {r:Bool} (hm:wAw p0 p1 p2=some r):Gv Tryz.prog 115 [jV p0,.pointer (some ⟨aS,0,none⟩),.pointer (some ⟨aT,0,none⟩)] w (wCb w [] U (fun U_ L_ v=>v=.bool r/\L_=[])):=by
 unfold wAw at hm
 refine Gv.of Tryz.func115 Z Tryz.ntmps115 Tryz.results115 Z (sR fL1 Z (oA Z Z (eN (sR (wKI gAl) Z (oL Z (hS.ldC (f:=0) ba (v:=.pointer (some ⟨ae,0,none⟩)) Z Z ZK Z) (oL Z (hS.ldC (f:=0) bi (v:=jV p2) Z Z zQ Z) (oM Z Z (bnK hm fun x1 h2 bj=>zK 0 Z Z Z Z (zJ Z Z Tryz.call57 (zB Z (zB Z (zB Z zP))) Z) hS (fun hs=>wEm p1 ae ai am aj ap ak aq au aU aV p2 p0 w U hs bb be bf bg bh h2) (.inr Z) ?_))))))))
 rintro U4 L5 v6 W7 bl aZ ⟨rfl,rfl⟩
 have aY:sW w U U4 [] W7:=aZ
 refine oA Z Z (eN (zI ?_))
 have hE:=nD bj;first | subst r | cases hE
 exact ⟨Z,_,(zn Z),U4,_,aY,Z,Z⟩
theorem wFh (p0:wAF) (ae:Nat) (ah:Option Addr) (ak:Nat) (ai:Option Addr) (am:Nat) (aj:Option Addr) (ap:Nat) (ab:Nat) (aq:Array MapEntry) (au:Nat) (p1:Int) (p2:List Int) (bh:Option Addr) (bi:Nat) (w:World) (U:PHeap) (hS:St0 w U [.blk ae 118 ([.slice ah p0.Bout.Shots.length ak,.slice ai p0.Bout.Down.length am,.slice aj p0.Bout.Across.length ap,.map (some ab)] ++ ((hH KL.encI p0.hits.l) ++ ((hH KL.encI p0.used.l) ++ (hH KL.encT p0.met.l)))),.obj ab (.map aq au)]) (cm:Sl U 1 ah ak p0.Bout.Shots.length (hH KL.encI p0.Bout.Shots)) (cn:Sl U 1 ai am p0.Bout.Down.length (hH KL.encI p0.Bout.Down)) (cp:Sl U 2 aj ap p0.Bout.Across.length (hH wAA p0.Bout.Across)) (cq:MpR aq wDP wDl p0.may) (cr:Sl U 1 bh bi p2.length (hH KL.encI p2)) {r:Bool} (hm:wCC p0 p1 p2=some r):Gv Tryz.prog 81 [.pointer (some ⟨ae,0,none⟩),jV p1,.slice bh p2.length bi] w (wCb w [.blk ae 118 ([.slice ah p0.Bout.Shots.length ak,.slice ai p0.Bout.Down.length am,.slice aj p0.Bout.Across.length ap,.map (some ab)] ++ ((hH KL.encI p0.hits.l) ++ ((hH KL.encI p0.used.l) ++ (hH KL.encT p0.met.l)))),.obj ab (.map aq au)] U (fun U_ L_ v=>v=.bool r/\L_=[.blk ae 118 ([.slice ah p0.Bout.Shots.length ak,.slice ai p0.Bout.Down.length am,.slice aj p0.Bout.Across.length ap,.map (some ab)] ++ ((hH KL.encI p0.hits.l) ++ ((hH KL.encI p0.used.l) ++ (hH KL.encT p0.met.l)))),.obj ab (.map aq au)])):=by
 unfold wCC at hm
 refine Gv.of Tryz.func81 Z Tryz.ntmps81 Tryz.results81 Z (sR gAn Z ?_)
 let B0:List Value:=[.pointer (some ⟨ae,0,none⟩)]
 refine ZI (cs:=B0) rfl rfl rfl rfl rfl rfl (by rfl) hS ?_
 intro W3 b4 b8
 have q:=b8.freeze (k:=0) rfl
 obtain ⟨U7,bf,aY,bS⟩:=q
 replace aY:=Cl.of aY
 have bT:SW w [.blk ae 118 ([.slice ah p0.Bout.Shots.length ak,.slice ai p0.Bout.Down.length am,.slice aj p0.Bout.Across.length ap,.map (some ab)] ++ ((hH KL.encI p0.hits.l) ++ ((hH KL.encI p0.used.l) ++ (hH KL.encT p0.met.l)))),.obj ab (.map aq au)] U U7 [.blk ae 118 ([.slice ah p0.Bout.Shots.length ak,.slice ai p0.Bout.Down.length am,.slice aj p0.Bout.Across.length ap,.map (some ab)] ++ ((hH KL.encI p0.hits.l) ++ ((hH KL.encI p0.used.l) ++ (hH KL.encT p0.met.l)))),.obj ab (.map aq au)] W3:=bS
 replace aY:Cl U7 b4 0 B0:=aY
 refine ZI (cs:=[jV p1]) rfl rfl rfl rfl rfl rfl (by rfl) bT ?_
 intro be aU bU
 have q:=bU.freeze (k:=0) rfl
 obtain ⟨bk,aZ,aW,bV⟩:=q
 replace aW:=Cl.of aW
 have bW:SW w [.blk ae 118 ([.slice ah p0.Bout.Shots.length ak,.slice ai p0.Bout.Down.length am,.slice aj p0.Bout.Across.length ap,.map (some ab)] ++ ((hH KL.encI p0.hits.l) ++ ((hH KL.encI p0.used.l) ++ (hH KL.encT p0.met.l)))),.obj ab (.map aq au)] U bk [.blk ae 118 ([.slice ah p0.Bout.Shots.length ak,.slice ai p0.Bout.Down.length am,.slice aj p0.Bout.Across.length ap,.map (some ab)] ++ ((hH KL.encI p0.hits.l) ++ ((hH KL.encI p0.used.l) ++ (hH KL.encT p0.met.l)))),.obj ab (.map aq au)] be:=bV
 replace aW:Cl bk aU 0 [jV p1]:=aW
 refine oA Z Z (eN (sR gAs Z (oM Z Z (oR Z (Runs.mkf Z zP (zB Z (zB Z zP))) ?_))))
 have q:=bW.freezeMT (k:=1) rfl cq
 obtain ⟨bo,aT,ct,bX,cy⟩:=q
 have bY:SW w [.blk ae 118 ([.slice ah p0.Bout.Shots.length ak,.slice ai p0.Bout.Down.length am,.slice aj p0.Bout.Across.length ap,.map (some ab)] ++ ((hH KL.encI p0.hits.l) ++ ((hH KL.encI p0.used.l) ++ (hH KL.encT p0.met.l)))),.obj ab (.map aq au)] U bo [.blk ae 118 ([.slice ah p0.Bout.Shots.length ak,.slice ai p0.Bout.Down.length am,.slice aj p0.Bout.Across.length ap,.map (some ab)] ++ ((hH KL.encI p0.hits.l) ++ ((hH KL.encI p0.used.l) ++ (hH KL.encT p0.met.l))))] be:=bX
 have q:=bY.freezeTB (k:=0) rfl
 obtain ⟨bb,az,aX,bZ,cz⟩:=q
 replace aX:=Cl.of aX
 have b5:SW w [.blk ae 118 ([.slice ah p0.Bout.Shots.length ak,.slice ai p0.Bout.Down.length am,.slice aj p0.Bout.Across.length ap,.map (some ab)] ++ ((hH KL.encI p0.hits.l) ++ ((hH KL.encI p0.used.l) ++ (hH KL.encT p0.met.l)))),.obj ab (.map aq au)] U bb [] be:=bZ
 replace aX:Cl bb ae 0 ([.slice ah p0.Bout.Shots.length ak,.slice ai p0.Bout.Down.length am,.slice aj p0.Bout.Across.length ap,.map (some ab)] ++ ((hH KL.encI p0.hits.l) ++ ((hH KL.encI p0.used.l) ++ (hH KL.encT p0.met.l)))):=aX
 have bs:=cr.le bf
 have bt:=bs.le aZ
 have bu:=bt.le aT
 have bv:=bu.le az
 have bw:=aY.le aZ
 have bz:=bw.le aT
 have bA:=bz.le az
 have bB:=cm.le bf
 have bC:=bB.le aZ
 have bD:=bC.le aT
 have bE:=bD.le az
 have bF:=cn.le bf
 have bG:=bF.le aZ
 have bH:=bG.le aT
 have bI:=bH.le az
 have bJ:=cp.le bf
 have bK:=bJ.le aZ
 have bL:=bK.le aT
 have bM:=bL.le az
 have bN:=ct.le az
 have bO:=aW.le aT
 have bP:=bO.le az
 have bR:FnOK Tryz.prog bb (.func (.func 115) #[] #[.pointer (some ⟨b4,0,none⟩),.pointer (some ⟨aU,0,none⟩)]) wJx wLQ (fun x=>wAw x p0 p1):=⟨115,[],[.pointer (some ⟨b4,0,none⟩),.pointer (some ⟨aU,0,none⟩)],rfl,Tryz.call115,fun U1 w1 x y vs le hs ha hm=>by obtain rfl:=ha;exact wEo x p0 b4 ae ah ak ai am aj ap ab aq au p1 aU w1 U1 hs (bA.le le) (aX.le le) (bE.le le) (bI.le le) (bM.le le) (bN.le le) (bP.le le) hm⟩
 refine bnK hm fun x56 bQ cu=>zK 0 Z Z Z Z (zJ Z Z Tryz.call91 (zB Z (zB Z zP)) Z) b5 (fun hs=>wCO p2 bh bi (fun x=>wAw x p0 p1) (.func (.func 115) #[] #[.pointer (some ⟨b4,0,none⟩),.pointer (some ⟨aU,0,none⟩)]) be bb hs bv bR bQ) (.inr Z) ?_
 rintro bp cB cD bg cw b9 ⟨rfl,rfl⟩
 have cd:SW w [.blk ae 118 ([.slice ah p0.Bout.Shots.length ak,.slice ai p0.Bout.Down.length am,.slice aj p0.Bout.Across.length ap,.map (some ab)] ++ ((hH KL.encI p0.hits.l) ++ ((hH KL.encI p0.used.l) ++ (hH KL.encT p0.met.l)))),.obj ab (.map aq au)] U bp [] bg:=b9
 have q:=cz _ _ _ cw cd
 obtain ⟨bq,cx,cf⟩:=q
 have cg:SW w [.blk ae 118 ([.slice ah p0.Bout.Shots.length ak,.slice ai p0.Bout.Down.length am,.slice aj p0.Bout.Across.length ap,.map (some ab)] ++ ((hH KL.encI p0.hits.l) ++ ((hH KL.encI p0.used.l) ++ (hH KL.encT p0.met.l)))),.obj ab (.map aq au)] U bq [.blk ae 118 ([.slice ah p0.Bout.Shots.length ak,.slice ai p0.Bout.Down.length am,.slice aj p0.Bout.Across.length ap,.map (some ab)] ++ ((hH KL.encI p0.hits.l) ++ ((hH KL.encI p0.used.l) ++ (hH KL.encT p0.met.l))))] bg:=cf
 have q:=cy _ _ _ cx cg
 obtain ⟨bm,cC,ci⟩:=q
 have cj:SW w [.blk ae 118 ([.slice ah p0.Bout.Shots.length ak,.slice ai p0.Bout.Down.length am,.slice aj p0.Bout.Across.length ap,.map (some ab)] ++ ((hH KL.encI p0.hits.l) ++ ((hH KL.encI p0.used.l) ++ (hH KL.encT p0.met.l)))),.obj ab (.map aq au)] U bm [.obj ab (.map aq au),.blk ae 118 ([.slice ah p0.Bout.Shots.length ak,.slice ai p0.Bout.Down.length am,.slice aj p0.Bout.Across.length ap,.map (some ab)] ++ ((hH KL.encI p0.hits.l) ++ ((hH KL.encI p0.used.l) ++ (hH KL.encT p0.met.l))))] bg:=ci
 refine oA Z Z (eN (zI ?_))
 have hE:=nD cu;first | subst r | cases hE
 exact ⟨rfl,_,(zn rfl),bm,_,(cj.pick [1,0] _ (by decide) rfl),rfl,rfl⟩
theorem wEa (p0:wAF) (ah:Nat) (ae:Option Addr) (ai:Nat) (ak:Option Addr) (am:Nat) (aq:Option Addr) (au:Nat) (ab:Nat) (az:Array MapEntry) (aS:Nat) (p1:List Int) (aW:Option Addr) (aX:Nat) (p2:Int) (w:World) (U:PHeap) (hS:St0 w U [.blk ah 118 ([.slice ae p0.Bout.Shots.length ai,.slice ak p0.Bout.Down.length am,.slice aq p0.Bout.Across.length au,.map (some ab)] ++ ((hH KL.encI p0.hits.l) ++ ((hH KL.encI p0.used.l) ++ (hH KL.encT p0.met.l)))),.obj ab (.map az aS)]) (cG:Sl U 1 ae ai p0.Bout.Shots.length (hH KL.encI p0.Bout.Shots)) (bK:Sl U 1 ak am p0.Bout.Down.length (hH KL.encI p0.Bout.Down)) (cH:Sl U 2 aq au p0.Bout.Across.length (hH wAA p0.Bout.Across)) (cI:MpR az wDP wDl p0.may) (bL:Sl U 1 aW aX p1.length (hH KL.encI p1)) {r:Int} (hm:wBf p0 p1 p2=some r):Gv Tryz.prog 62 [.pointer (some ⟨ah,0,none⟩),.slice aW p1.length aX,jV p2] w (wCb w [.blk ah 118 ([.slice ae p0.Bout.Shots.length ai,.slice ak p0.Bout.Down.length am,.slice aq p0.Bout.Across.length au,.map (some ab)] ++ ((hH KL.encI p0.hits.l) ++ ((hH KL.encI p0.used.l) ++ (hH KL.encT p0.met.l)))),.obj ab (.map az aS)] U (fun U_ L_ v=>v=jV r/\L_=[.blk ah 118 ([.slice ae p0.Bout.Shots.length ai,.slice ak p0.Bout.Down.length am,.slice aq p0.Bout.Across.length au,.map (some ab)] ++ ((hH KL.encI p0.hits.l) ++ ((hH KL.encI p0.used.l) ++ (hH KL.encT p0.met.l)))),.obj ab (.map az aS)])):=by
 unfold wBf at hm
 refine Gv.of Tryz.func62 Z Tryz.ntmps62 Tryz.results62 Z (sR fL1 Z (oA Z Z (eN (sR fL1 Z (oA Z Z (eN (zD (sR fL3 Z (oM Z Z (oR Z (zi Z Z zA) (oM Z Z (eN (zd (bnK hm fun dE cJ cO=>?_))))))))))))))
 have q:=wDI cJ
 obtain ⟨bs,cK⟩:=q
 replace bs:=zE bs
 refine CK.forN' (fun k9 x8 σ_ w_=>∃ (U_:PHeap),σ_ 14=jV (↑k9:Int)/\σ_ 0=.pointer (some ⟨ah,0,none⟩)/\σ_ 1=.slice aW p1.length aX/\σ_ 2=jV p2/\σ_ 7=jV x8/\σ_ 12=.slice aW p1.length aX/\σ_ 13=jV (↑p1.length:Int)/\PHeap.Le U U_/\SW w [.blk ah 118 ([.slice ae p0.Bout.Shots.length ai,.slice ak p0.Bout.Down.length am,.slice aq p0.Bout.Across.length au,.map (some ab)] ++ ((hH KL.encI p0.hits.l) ++ ((hH KL.encI p0.used.l) ++ (hH KL.encT p0.met.l)))),.obj ab (.map az aS)] U U_ [.blk ah 118 ([.slice ae p0.Bout.Shots.length ai,.slice ak p0.Bout.Down.length am,.slice aq p0.Bout.Across.length au,.map (some ab)] ++ ((hH KL.encI p0.hits.l) ++ ((hH KL.encI p0.used.l) ++ (hH KL.encT p0.met.l)))),.obj ab (.map az aS)] w_) cK ?_ ?_ ?_
 exact ⟨U,Z,Z,Z,Z,Z,Z,Z,(zZ _),hS⟩
 rintro k9 x8 dC dH dg bq ⟨bQ,bm,bB,bX,bY,bZ,bC,bD,bu,bg⟩ cZ
 have bz:Hid ((↑k9:Int) < (↑p1.length:Int)):=zE (wBz bq)
 replace bq:=zE bq
 have cN:Hid (w64 ((↑k9:Int) + 1)=(↑(k9 + 1):Int)):=zE (by have h1:=bs.out;have h2:=bz.out;rw [wAO] <;> omega)
 refine sR fL1 Z (oR Z (ze Z bm bD) (eN (zD (cT Z bz (kN (zD (zd (sR fL3 Z (bnK cZ fun x33 bF cV=>?_)))))))))
 have ct:=bL.le bu
 have q:=ct.el (fun _=>rfl) (wAN bF)
 obtain ⟨dm,dz,cy,cB⟩:=q
 refine oR Z (zu Z bC cy bm zA zN (wBP bF)) (oL Z (bg.ldC (f:=0) cB (v:=jV x33) Z Z zQ Z) (oA Z Z (eN (rR fL11 Z (oM Z bZ (oM Z bB (oR Z (ZH Z Z) (oR Z (zU Z Z zf Z zr) (oR Z (zU Z Z zO Z zS) (oL Z (bg.ldB (j:=0) Z Z Z zY (v:=.slice ak p0.Bout.Down.length am) Z) (oM Z Z (bnK cV fun x41 bn cW=>?_))))))))))))
 have cu:=bK.le bu
 have q:=cu.el (fun _=>rfl) (wAN bn)
 obtain ⟨dp,dA,cz,cC⟩:=q
 refine oR Z (Zn Z Z cz Z zA zN (wDH bn) (wDK bn)) (oL Z (bg.ldC (f:=0) cC (v:=jV x41) Z Z zQ Z) (oR Z (zo Z Z Z) (oA Z Z (zq (zj (zG (rR fL2 Z (oR Z (ZB (zo Z bm Z) (congrArg (jV) cN.out)) (oM Z Z (zq ?_))))))))))
 cases cW
 exact zG ⟨Z,⟨bQ,Z,bB,bX,bY,Z,bC,bD,bu,bg⟩⟩
 rintro dI dh ⟨bv,cg,bE,b5,b8,b9,dw,cd,bh,bJ⟩
 have bU:Hid (¬ ((↑(((↑p1.length:Int):Int) - 0).toNat:Int) < (↑p1.length:Int))):=zE (wBO)
 refine sR fL1 Z (oR Z (ze Z cg cd) (eN (zD (cF Z bU (ZC (zh (zh (zy (zG (zD (sR fL7 Z (oM Z bE (oR Z (ZH Z Z) (oR Z (zU Z Z zf Z zr) (oR Z (zU Z Z zO Z zS) (oL Z (bJ.ldB (j:=0) Z Z Z zY (v:=.slice ae p0.Bout.Shots.length ai) Z) (oR Z (zi Z Z zA) (oM Z Z (eN (zd (bnK cO fun dF cL cX=>?_)))))))))))))))))))))
 have q:=wDI cL
 obtain ⟨bt,cM⟩:=q
 replace bt:=zE bt
 refine CK.forN' (fun aV bN σ_ w_=>∃ (U_:PHeap),σ_ 35=jV (↑aV:Int)/\σ_ 0=.pointer (some ⟨ah,0,none⟩)/\σ_ 1=.slice aW p1.length aX/\σ_ 2=jV p2/\σ_ 7=jV bN/\σ_ 33=.slice ae p0.Bout.Shots.length ai/\σ_ 34=jV (↑p0.Bout.Shots.length:Int)/\PHeap.Le bv U_/\SW w [.blk ah 118 ([.slice ae p0.Bout.Shots.length ai,.slice ak p0.Bout.Down.length am,.slice aq p0.Bout.Across.length au,.map (some ab)] ++ ((hH KL.encI p0.hits.l) ++ ((hH KL.encI p0.used.l) ++ (hH KL.encT p0.met.l)))),.obj ab (.map az aS)] U U_ [.blk ah 118 ([.slice ae p0.Bout.Shots.length ai,.slice ak p0.Bout.Down.length am,.slice aq p0.Bout.Across.length au,.map (some ab)] ++ ((hH KL.encI p0.hits.l) ++ ((hH KL.encI p0.used.l) ++ (hH KL.encT p0.met.l)))),.obj ab (.map az aS)] w_) cM ?_ ?_ ?_
 exact ⟨bv,Z,bE,b5,b8,b9,Z,Z,(zZ _),bJ⟩
 rintro aV bN dD dJ bS br ⟨bw,aU,aZ,ba,bb,bl,be,bf,aT,bo⟩ da
 have bA:Hid ((↑aV:Int) < (↑p0.Bout.Shots.length:Int)):=zE (wBz br)
 replace br:=zE br
 have bp:Hid (w64 ((↑aV:Int) + 1)=(↑(aV + 1):Int)):=zE (by have h1:=bt.out;have h2:=bA.out;rw [wAO] <;> omega)
 refine sR fL1 Z (oR Z (ze Z aU bf) (eN (zD (cT Z bA (kN (zD (zd (sR fL5 Z (oM Z aU (bnK da fun db bG cY=>?_))))))))))
 have cw:=cG.le bh
 have bH:=cw.le aT
 have q:=bH.el (fun _=>rfl) (wAN bG)
 obtain ⟨dk,dy,cx,cA⟩:=q
 refine oR Z (zu Z be cx aU zA zN (wBP bG)) (oL Z (bo.ldC (f:=0) cA (v:=jV db) Z Z zQ Z) (oA Z Z (oA Z Z (eN (sR (wNs (.fx 7 (.fl 8 .nil) .stop)) Z (oM Z Z (oM Z bb (oR Z (zw Z Z Z) (oM Z Z (ifc cY ?_ ?_))))))))))
 intro ap cP
 refine zL Z Z Z (zF Z Z (zk (fun h=>h ap.out)) Z) (zL Z Z Z (zF Z Z (zk (fun h=>h ap.out)) Z) (zL Z Z Z (zF Z Z (zk (fun h=>h ap.out)) Z) (ZF Z Z Z (zF Z Z (zk (fun h=>h ap.out)) Z) (oR Z (zM Z (zk (fun h=>h ap.out)) Z) (eN (zp Z (ZG (zj (zG (rR fL2 Z (oR Z (ZB (zo Z aU Z) (congrArg (jV) bp.out)) (oM Z Z (zq ?_)))))))))))))
 cases cP
 exact zG ⟨Z,⟨bw,Z,aZ,ba,bb,bl,be,bf,aT,bo⟩⟩
 intro ap cQ
 refine zW Z Z Z (wT Z ap) Z aZ (zW Z Z Z (wT Z ap) Z Z (zW Z Z Z (wT Z ap) Z ba ?_))
 have ci:=bK.le bh
 have cj:=ci.le aT
 have cm:=cH.le bh
 have cn:=cm.le aT
 have cp:=bL.le bh
 have cq:=cp.le aT
 refine bnK cQ fun x114 cr cR=>zK 2 Z Z Z (wT Z ap) (zJ Z Z Tryz.call81 (zB Z (zB Z (zB Z zP))) Z) bo (fun hs=>wFh p0 ah ae ai ak am aq au ab az aS (↑aV:Int) p1 aW aX bS bw hs bH cj cn cI cq cr) (.inl Z) ?_
 rintro bj de dB bR bM cD ⟨rfl,rfl⟩
 have bI:SW w [.blk ah 118 ([.slice ae p0.Bout.Shots.length ai,.slice ak p0.Bout.Down.length am,.slice aq p0.Bout.Across.length au,.map (some ab)] ++ ((hH KL.encI p0.hits.l) ++ ((hH KL.encI p0.used.l) ++ (hH KL.encT p0.met.l)))),.obj ab (.map az aS)] U bj [.blk ah 118 ([.slice ae p0.Bout.Shots.length ai,.slice ak p0.Bout.Down.length am,.slice aq p0.Bout.Across.length au,.map (some ab)] ++ ((hH KL.encI p0.hits.l) ++ ((hH KL.encI p0.used.l) ++ (hH KL.encT p0.met.l)))),.obj ab (.map az aS)] bR:=cD
 refine oR Z (zR Z (ZX ap.out) Z) (eN (ifc cR ?_ ?_))
 intro bk cS
 refine zt (congrArg nA bk.out) (rR fL4 Z (oM Z bl (oM Z Z (oR Z (ZY Z Z Z) (oA Z Z (zq (zj (zG (rR fL2 Z (oR Z (ZB (zo Z aU Z) (congrArg (jV) bp.out)) (oM Z Z (zq ?_))))))))))))
 cases cS
 exact zG ⟨Z,⟨bj,Z,aZ,ba,bb,Z,be,bf,(aT.trans bM),bI⟩⟩
 intro bk cU
 refine zp (congrArg nA (nB.2 bk.out)) (ZG (zj (zG (rR fL2 Z (oR Z (ZB (zo Z aU Z) (congrArg (jV) bp.out)) (oM Z Z (zq ?_)))))))
 cases cU
 exact zG ⟨Z,⟨bj,Z,aZ,ba,bb,bl,be,bf,(aT.trans bM),bI⟩⟩
 rintro dG df ⟨bP,cf,dq,dr,dt,bV,du,bW,dx,cE⟩
 have bT:Hid (¬ ((↑(((↑p0.Bout.Shots.length:Int):Int) - 0).toNat:Int) < (↑p0.Bout.Shots.length:Int))):=zE (wBO)
 refine sR fL1 Z (oR Z (ze Z cf bW) (eN (zD (cF Z bT (ZC (zh (zh (zy (zG (sR fL2 Z (oM Z bV (oA Z Z (eN (zI ?_))))))))))))))
 have hE:=nD cX;first | subst r | cases hE
 exact ⟨Z,_,(zn Z),bP,_,cE,Z,Z⟩
theorem wHK (p0:wAB) (ba:Option Addr) (bg:Nat) (bb:Option Addr) (bh:Nat) (be:Option Addr) (bi:Nat) (p1:List Int) (bf:Option Addr) (bj:Nat) (w:World) (U:PHeap) (hS:St0 w U []) (bP:Sl U 1 ba bg p0.Shots.length (hH KL.encI p0.Shots)) (bQ:Sl U 1 bb bh p0.Down.length (hH KL.encI p0.Down)) (bR:Sl U 2 be bi p0.Across.length (hH wAA p0.Across)) (bS:Sl U 1 bf bj p1.length (hH KL.encI p1)) {r:Int × Int} (hm:wBv p0 p1=some r):Gv Tryz.prog 15 [.agg #[.slice ba p0.Shots.length bg,.slice bb p0.Down.length bh,.slice be p0.Across.length bi],.slice bf p1.length bj] w (wCb w [] U (fun U_ L_ v=>v=.tuple #[jV r.1,jV r.2]/\L_=[])):=by
 unfold wBv at hm
 refine Gv.of Tryz.func15 Z Tryz.ntmps15 Tryz.results15 Z (sR gAo Z ?_)
 let B0:List Value:=[.slice ba p0.Shots.length bg,.slice bb p0.Down.length bh,.slice be p0.Across.length bi]
 refine ZI (cs:=B0) rfl rfl rfl rfl rfl rfl (by rfl) hS ?_
 intro W1 b2 bz
 refine oA Z Z (oA Z Z (eN (sR (.fl 0 (.fx 1 (wJL (.nil)) .stop)) Z (oL Z (bz.ldBA (j:=0) Z Z Z ZJ zr (vs:=B0) Z Z) ?_))))
 have q:=bnd hm
 obtain ⟨⟨x5,x6⟩,h7,aV⟩:=q
 try dsimp only at aV
 refine zK 0 Z Z Z Z (zJ Z Z Tryz.call53 (zB Z zP) Z) bz (fun hs=>wDA p0 ba bg bb bh be bi W1 U hs bP bQ bR h7) (.inr Z) ?_
 rintro U9 cg cn bm cd bw bv
 rcases x5 with _ | aa
 try dsimp only at aV
 obtain ⟨rfl,rfl⟩:=bv
 have bM:sW w U U9 [.blk b2 25 B0] bm:=bw
 refine oM Z Z (oR Z (zz Z Z (v:=.pointer none) Z) (oR Z (zz Z Z (v:=jV x6) Z) (oA Z Z (oA Z Z (eN (zD (sR fL2 Z (oM Z Z (oR Z (Ze Z Z Z) (eN (ifc aV ?_ ?_)))))))))))
 intro aX bT
 refine cT Z aX (rR gAs Z (oM Z Z (oM Z Z ?_)))
 cases bT
 intro aX bU
 refine cF Z aX (kN (zD (sR fL2 Z (oM Z Z (oR Z (zw Z Z Z) (eN (cT Z aX (sR fL3 Z (oM Z Z (oA Z Z (oA Z Z (eN (zI (zH ?_))))))))))))))
 cases bU
 exact ⟨rfl,_,(wDX rfl rfl),U9,_,(bM.pick [] _ (by decide) rfl),rfl,rfl⟩
 try dsimp only at aV
 obtain ⟨ai,ak,au,am,az,ap,aS,ae,aU,aT,rfl,rfl,bq,br,bs,bt⟩:=bv
 have bA:sW w U U9 [.blk ai 118 ([.slice ak aa.Bout.Shots.length au,.slice am aa.Bout.Down.length az,.slice ap aa.Bout.Across.length aS,.map (some ae)] ++ ((hH KL.encI aa.hits.l) ++ ((hH KL.encI aa.used.l) ++ (hH KL.encT aa.met.l)))),.obj ae (.map aU aT),.blk b2 25 B0] bm:=bw
 refine oM Z Z (oR Z (zz Z Z (v:=.pointer (some ⟨ai,0,none⟩)) Z) (oR Z (zz Z Z (v:=jV x6) Z) (oA Z Z (oA Z Z (eN (zD (sR fL2 Z (oM Z Z (oR Z (Ze Z Z Z) (eN (ifc aV ?_ ?_)))))))))))
 intro aY bV
 refine cT Z aY (rR gAs Z (oM Z Z (oM Z Z ?_)))
 have bu:=bS.le cd
 refine bnK bV fun x41 bF bW=>zK 2 Z Z Z Z (zJ Z Z Tryz.call61 (zB Z (zB Z zP)) Z) bA (fun hs=>wEn aa ai ak au am az ap aS ae aU aT p1 bf bj bm U9 hs bq br bs bt bu bF) (.inl Z) ?_
 rintro bk ci cp bp aZ bN ⟨rfl,rfl⟩
 have bB:sW w U bk [.blk ai 118 ([.slice ak aa.Bout.Shots.length au,.slice am aa.Bout.Down.length az,.slice ap aa.Bout.Across.length aS,.map (some ae)] ++ ((hH KL.encI aa.hits.l) ++ ((hH KL.encI aa.used.l) ++ (hH KL.encT aa.met.l)))),.obj ae (.map aU aT),.blk b2 25 B0] bp:=bN
 refine oA Z Z (eN (zD (sR fL2 Z (oM Z Z (oR Z (zw Z Z Z) (eN (ifc bW ?_ ?_)))))))
 intro bn bX
 refine zp (zk (fun h=>h bn.out)) (kN (sR gAs Z (oM Z Z (oM Z Z ?_))))
 have bG:=bq.le aZ
 have bH:=br.le aZ
 have bI:=bs.le aZ
 have bJ:=bu.le aZ
 refine bnK bX fun x57 bK bY=>zK 2 Z Z Z Z (zJ Z Z Tryz.call62 (zB Z (zB Z (zB Z zP))) Z) bB (fun hs=>wEa aa ai ak au am az ap aS ae aU aT p1 bf bj (-1) bp bk hs bG bH bI bt bJ bK) (.inl Z) ?_
 rintro bl cj cq bE cm bO ⟨rfl,rfl⟩
 have bC:sW w U bl [.blk ai 118 ([.slice ak aa.Bout.Shots.length au,.slice am aa.Bout.Down.length az,.slice ap aa.Bout.Across.length aS,.map (some ae)] ++ ((hH KL.encI aa.hits.l) ++ ((hH KL.encI aa.used.l) ++ (hH KL.encT aa.met.l)))),.obj ae (.map aU aT),.blk b2 25 B0] bE:=bO
 refine oA Z Z (eN (zD (sR fL2 Z (oM Z Z (oR Z (Runs.leq Z Z Z) (eN (ifc bY ?_ ?_)))))))
 intro bo bZ
 refine cT Z bo (sR fL2 Z (oA Z Z (oA Z Z (eN (zI (zH ?_))))))
 cases bZ
 exact ⟨rfl,_,(wDX rfl rfl),bl,_,(bC.pick [] _ (by decide) rfl),rfl,rfl⟩
 intro bo b5
 refine cF Z bo (kN (sR fL3 Z (oM Z Z (oA Z Z (oA Z Z (eN (zI ?_)))))))
 cases b5
 exact ⟨rfl,_,(wDX rfl rfl),bl,_,(bC.pick [] _ (by decide) rfl),rfl,rfl⟩
 intro bn b8
 refine cT Z bn (sR fL3 Z (oM Z Z (oA Z Z (oA Z Z (eN (zI (zH ?_)))))))
 cases b8
 exact ⟨rfl,_,(wDX rfl rfl),bk,_,(bB.pick [] _ (by decide) rfl),rfl,rfl⟩
 intro aY b9
 refine cF Z aY (kN (zD (sR fL2 Z (oM Z Z (oR Z (zw Z Z Z) (eN (cT Z aY (sR fL3 Z (oM Z Z (oA Z Z (oA Z Z (eN (zI (zH ?_))))))))))))))
 cases b9
 exact ⟨rfl,_,(wDX rfl rfl),U9,_,(bA.pick [] _ (by decide) rfl),rfl,rfl⟩
theorem wEp (p0:wAE) (bt:Option Addr) (bv:Nat) (aU:Option Addr) (aV:Nat) (bu:Option Addr) (bw:Nat) (p1:List Int) (am:Option Addr) (ap:Nat) (w:World) (U:PHeap) (hS:St0 w U []) (dY:Sl U 1 bt bv p0.Shots.length (hH KL.encI p0.Shots)) (dZ:Sl U 1 aU aV p0.Down.length (hH KL.encI p0.Down)) (d4:Sl U 2 bu bw p0.Across.length (hH wAD p0.Across)) (bm:Sl U 1 am ap p1.length (hH KL.encI p1)) {r:Int × Int} (hm:wBn p0 p1=some r):Gv Tryz.prog 63 [.agg #[.slice bt p0.Shots.length bv,.slice aU p0.Down.length aV,.slice bu p0.Across.length bw],.slice am p1.length ap] w (wCb w [] U (fun U_ L_ v=>v=.tuple #[jV r.1,jV r.2]/\L_=[])):=by
 unfold wBn at hm
 refine Gv.of Tryz.func63 Z Tryz.ntmps63 Tryz.results63 Z (sR gAo Z ?_)
 let B0:List Value:=[.slice bt p0.Shots.length bv,.slice aU p0.Down.length aV,.slice bu p0.Across.length bw]
 refine ZI (cs:=B0) rfl rfl rfl rfl rfl rfl (by rfl) hS ?_
 intro W1 b2 cR
 refine oA Z Z (oA Z Z (eN (zD (sR fL1 Z (oA Z Z (eN (zd ?_)))))))
 have q:=wBp hm
 obtain ⟨r7,bl⟩:=q
 have q:=wCA bl
 obtain ⟨bq,db⟩:=q
 replace bq:=zE bq
 refine Zf (fun k6 _ σ_ w_=>∃ (U_:PHeap),σ_ 6=jV (↑k6:Int)/\σ_ 1=.slice am p1.length ap/\σ_ 2=.pointer (some ⟨b2,0,none⟩)/\PHeap.Le U U_/\sW w U U_ [.blk b2 34 B0] w_) db ?_ ?_ ?_
 exact ⟨U,Z,Z,Z,(zZ _),cR⟩
 rintro k6 ⟨⟩ eh eu bB bn ⟨b9,bh,bg,bJ,bY,cQ⟩ bU cX
 try dsimp only at bU
 have bD:Hid ((↑k6:Int) < (↑p1.length:Int)):=zE (wBz bn)
 replace bn:=zE bn
 have df:Hid (w64 ((↑k6:Int) + 1)=(↑(k6 + 1):Int)):=zE (by have h1:=bq.out;have h2:=bD.out;rw [wAO] <;> omega)
 refine zD (sR fL4 rfl (zW rfl rfl rfl rfl rfl bh (zW rfl rfl rfl rfl rfl bg (zX rfl rfl rfl rfl (fun _=>zi rfl rfl zA) (zX rfl rfl rfl rfl (fun _=>ze rfl rfl rfl) (eN (cT Z bD (kN (zD (zd (zD (ZP ZL [3,3,3,1,3,1,3,3,2] (wQm (.fx 8 .nil .stop)) (by kernel_rfl) ?_))))))))))))
 have aS:=cQ.drew
 generalize hw_W26:({ bB with drawn:=bB.drawn + 1 }:World)=cd at aS ⊢
 refine oM Z bg (oM Z bh (bnK bU fun b5 bN dx=>?_))
 have cD:=bm.le bY
 have q:=cD.el (fun _=>rfl) (wAN bN)
 obtain ⟨dW,d9,cK,cO⟩:=q
 refine oR Z (zu Z Z cK Z zA zN (wBP bN)) (oL Z (aS.ldC (f:=0) cO (v:=jV b5) Z Z zQ Z) (oR Z (zU Z bJ zm Z zS) (oL Z (aS.ldB (j:=0) Z Z Z zY (v:=.slice aU p0.Down.length aV) Z) (oR Z (zi Z Z zA) (oR Z (ZY Z Z Z) (bnK dx fun x35 cE dy=>zK 0 Z Z Z Z (zJ Z Z Tryz.call45 (zB Z (zB Z (zB Z zP))) Z) aS (fun hs=>wAn b5 0 (w64 ((↑p0.Down.length:Int) - 1)) cd b9 hs cE) (.inr Z) ?_))))))
 rintro aX dM ef cf dF cS ⟨rfl,rfl⟩
 have bR:sW w U aX [.blk b2 34 B0] cf:=cS
 refine eN (ifc dy ?_ ?_)
 intro bb dz
 refine zt (congrArg nA bb.out) (sR fL2 Z (oA Z Z (oA Z Z (eN (zI (zV (zH ?_)))))))
 have q:=wAI dz
 obtain ⟨dI,dA,cp⟩:=q
 have q:=wBI hm bl (cX dI cp)
 obtain rfl:=q
 refine zH (zV (zH ?_))
 cases dA
 exact ⟨rfl,_,(wDX rfl rfl),aX,_,(bR.pick [] _ (by decide) rfl),rfl,rfl⟩
 intro bb dB
 refine zp (congrArg nA (nB.2 bb.out)) (ZG (zj (zG (rR fL3 Z (oM Z bh (oR Z (ZB (zo Z Z Z) (congrArg (jV) df.out)) (oA Z Z (zq ?_))))))))
 have q:=nD dB
 obtain rfl:=q
 exact zG ⟨Z,_,Z,⟨aX,Z,bg,bJ,(bY.trans dF),bR⟩⟩
 rintro ⟨⟩ eC dR ⟨bA,cy,bK,dX,bZ,cU⟩ cZ
 have aT:=wCR hm bl cZ
 try dsimp only at aT
 have cj:Hid (¬ ((↑(((↑p1.length:Int):Int) - 0).toNat:Int) < (↑p1.length:Int))):=zE (wBO)
 refine zD (sR fL4 Z (oM Z cy (oM Z bK (oR Z (zi Z Z zA) (oR Z (ze Z Z Z) (eN (cF Z cj (ZC (zh (zh (zy (zG (sR fL1 Z (oA Z Z (eN (zD (sR fL1 Z (oA Z Z (eN (zd ?_))))))))))))))))))))
 have q:=wBp aT
 obtain ⟨eb,bk⟩:=q
 have q:=wCA bk
 obtain ⟨bp,de⟩:=q
 replace bp:=zE bp
 refine Zf (fun ah x67 σ_ w_=>∃ (U_:PHeap),σ_ 8=jV (↑ah:Int)/\σ_ 1=.slice am p1.length ap/\σ_ 7=jV x67/\PHeap.Le bA U_/\sW w U U_ [.blk b2 34 B0] w_) de ?_ ?_ ?_
 exact ⟨bA,Z,bK,Z,(zZ _),cU⟩
 rintro ah x67 ej eD bC bo ⟨aY,ak,aq,bL,bs,cV⟩ dE da
 have bE:Hid ((↑ah:Int) < (↑p1.length:Int)):=zE (wBz bo)
 replace bo:=zE bo
 have dg:Hid (w64 ((↑ah:Int) + 1)=(↑(ah + 1):Int)):=zE (by have h1:=bp.out;have h2:=bE.out;rw [wAO] <;> omega)
 refine zD (sR fL4 Z (oM Z ak (oM Z aq (oR Z (zi Z Z zA) (oR Z (ze Z Z Z) (eN (cT Z bE (kN (zD (zd (zD (bnK dE fun cg bW dC=>CK.cut (fun σ_ w_=>∃ (U_:PHeap),σ_ 1=.slice am p1.length ap/\σ_ 7=jV x67/\σ_ 8=jV (↑ah:Int)/\σ_ 45=.bool cg/\PHeap.Le aY U_/\sW w U U_ [.blk b2 34 B0] w_) ?_ ?_))))))))))))
 refine ZP ZL [3,3,3,3,3,3,1,3,3,3,3,1,3,3] fL14 (by kernel_rfl) ?_
 have au:=cV.drew
 generalize hw_W92:({ bC with drawn:=bC.drawn + 1 }:World)=dS at au ⊢
 refine oM Z ak (oR Z (ZR Z Z Z) (oM Z Z ?_))
 by_cases aa:0 < (↑ah:Int)
 have bT:=bW;rw [if_pos aa] at bT;replace aa:=zE aa
 refine zW Z Z Z (wT Z aa) Z aq (zW Z Z Z (wT Z aa) Z ak (bnK bT fun dL bO dD=>?_))
 have cG:=bm.le bZ
 have bP:=cG.le bs
 have q:=bP.el (fun _=>rfl) (wAN bO)
 obtain ⟨dT,d6,cH,cL⟩:=q
 refine rU Z (wT Z aa) (zu Z Z cH Z zA zN (wBP bO)) (zx Z Z Z (wT Z aa) (au.ldC (f:=0) cL (v:=jV dL) Z Z zQ Z) Z (zW Z Z Z (wT Z aa) Z aq (zW Z Z Z (wT Z aa) Z ak (rU Z (wT Z aa) (ZY Z Z Z) (bnK dD fun dJ bi dh=>?_)))))
 have q:=bP.el (fun _=>rfl) (wAN bi)
 obtain ⟨dU,d7,cI,cM⟩:=q
 refine rU Z (wT Z aa) (Zn Z Z cI Z zA zN (wDH bi) (wDK bi)) (zx Z Z Z (wT Z aa) (au.ldC (f:=0) cM (v:=jV dJ) Z Z zQ Z) Z (rU Z (wT Z aa) (Runs.leq Z Z Z) (oR Z (zR Z (ZX aa.out) Z) (zq ?_))))
 have q:=nD dh
 obtain rfl:=q
 exact zG ⟨Z,⟨aY,aq,bL,ak,Z,(zZ _),au⟩⟩
 have bS:=bW;rw [if_neg aa] at bS;replace aa:=zE aa
 refine oF Z aa (oF Z aa (oF Z aa (oF Z aa (oF Z aa (oF Z aa (oF Z aa (oF Z aa (oF Z aa (oF Z aa (oR Z (zM Z (zk aa.out) Z) (zq ?_)))))))))))
 cases bS
 exact zG ⟨Z,⟨aY,aq,bL,ak,Z,(zZ _),au⟩⟩
 rintro ey dO ⟨aW,cq,cr,ct,bF,bX,bQ⟩
 refine ifc dC ?_ ?_
 intro aZ dk
 refine zt (bF.trans (congrArg nA aZ.out)) (sR fL2 Z (oA Z Z (oA Z Z (eN (zI (zH (zV (zH ?_))))))))
 have q:=wAI dk
 obtain ⟨dG,dm,cm⟩:=q
 have q:=wBI aT bk (da dG cm)
 obtain rfl:=q
 refine zH (zV (zH ?_))
 cases dm
 exact ⟨rfl,_,(wDX rfl rfl),aW,_,(bQ.pick [] _ (by decide) rfl),rfl,rfl⟩
 intro aZ dp
 refine zp (bF.trans (congrArg nA (nB.2 aZ.out))) (kN (sR fL1 Z (oA Z Z (eN (zD (sR fL1 Z (oA Z Z (eN (zd (CK.iter (fun (x135,x136) σ_ w_=>∃ (U_:PHeap),σ_ 1=.slice am p1.length ap/\σ_ 7=jV x67/\σ_ 8=jV (↑ah:Int)/\σ_ 9=jV x135/\σ_ 10=jV x136/\PHeap.Le aW U_/\sW w U U_ [.blk b2 34 B0] w_) dp ?_ ?_))))))))))
 exact ⟨aW,cq,cr,ct,Z,Z,(zZ _),bQ⟩
 rintro ⟨x135,x136⟩ ei ez dP ⟨bz,be,bG,bf,bH,bI,br,bj⟩ bV cW
 try dsimp only at bV
 refine zD (sR fL6 Z (oM Z bI (oM Z be (oM Z bf (bnK bV fun dK bM dq=>?_)))))
 have cz:=bm.le bZ
 have cA:=cz.le bs
 have cB:=cA.le bX
 have cC:=cB.le br
 have q:=cC.el (fun _=>rfl) (wAN bM)
 obtain ⟨dV,d8,cJ,cN⟩:=q
 refine oR Z (zu Z Z cJ Z zA zN (wBP bM)) (oL Z (bj.ldC (f:=0) cN (v:=jV dK) Z Z zQ Z) (oR Z (ze Z Z Z) (eN (ifc dq ?_ ?_))))
 intro ba dr
 refine cT Z ba (kN (zD (zd (rR fL3 Z (oM Z bH (oR Z (Runs.mulw Z Z Z) (oA Z Z (zq (zj (zG (rR fL3 Z (oM Z bI (oR Z (zo Z Z Z) (oA Z Z (zq ?_)))))))))))))))
 have q:=nD dr
 obtain rfl:=q
 exact zG ⟨Z,_,Z,⟨bz,be,bG,bf,Z,Z,br,bj⟩⟩
 intro ba dt
 refine cF Z ba (ZC (zh ?_))
 have q:=wAI dt
 obtain ⟨dH,du,cn⟩:=q
 have q:=cW dH cn
 obtain rfl:=q
 refine zh (zy (zG (rR fL4 Z (oM Z bG (oM Z bH (oR Z (zo Z Z Z) (oA Z Z (zq (zj (zG (rR fL3 Z (oM Z bf (oR Z (ZB (zo Z Z Z) (congrArg (jV) dg.out)) (oA Z Z (zq ?_)))))))))))))))
 have q:=nD du
 obtain rfl:=q
 exact zG ⟨Z,_,Z,⟨bz,Z,be,Z,((bs.trans bX).trans br),bj⟩⟩
 rintro en eA dQ ⟨b8,cx,cu,cw,d5,cP⟩ cY
 have dw:=wCR aT bk cY
 have ci:Hid (¬ ((↑(((↑p1.length:Int):Int) - 0).toNat:Int) < (↑p1.length:Int))):=zE (wBO)
 refine zD (sR fL4 Z (oM Z cx (oM Z cu (oR Z (zi Z Z zA) (oR Z (ze Z Z Z) (eN (cF Z ci (ZC (zh (zh (zy (zG (sR fL3 Z (oM Z cw (oA Z Z (oA Z Z (eN (zI ?_))))))))))))))))))
 cases dw
 exact ⟨rfl,_,(wDX rfl rfl),b8,_,(cP.pick [] _ (by decide) rfl),rfl,rfl⟩
theorem wCo (p0:Int) (p1:Int) (w:World) (U:PHeap) (hS:St0 w U [])  {r:Bool} (hm:wBA p0 p1=some r):Gv Tryz.prog 98 [jV p0,jV p1] w (wCb w [] U (fun U_ L_ v=>v=.bool r/\L_=[])):=by
 unfold wBA at hm
 refine Gv.of Tryz.func98 Z Tryz.ntmps98 Tryz.results98 Z (sR fL1 Z (oA Z Z (eN (zD (sR fL1 Z (oA Z Z (eN (zd (bnK hm fun bo bb bg=>?_)))))))))
 have q:=wDI bb
 obtain ⟨ah,ba⟩:=q
 replace ah:=zE ah
 refine CK.forN' (fun k7 x6 σ_ w_=>∃ (U_:PHeap),σ_ 5=jV (↑k7:Int)/\σ_ 0=jV x6/\σ_ 1=jV p1/\PHeap.Le U U_/\sW w U U_ [] w_) ba ?_ ?_ ?_
 exact ⟨U,Z,Z,Z,(zZ _),hS⟩
 rintro k7 x6 bn bp bj ae ⟨aq,ak,aS,aj,bi,aY⟩ bh
 have ai:Hid ((↑k7:Int) < p1):=zE (wBz ae)
 replace ae:=zE ae
 have be:Hid (w64 ((↑k7:Int) + 1)=(↑(k7 + 1):Int)):=zE (by have h1:=ah.out;have h2:=ai.out;rw [wAO] <;> omega)
 refine zD (sR fL3 Z (oM Z ak (oM Z aj (oR Z (ze Z Z Z) (eN (cT Z ai (kN (zD (zd (rR fL3 Z (oM Z aS (bnK bh fun bm aW bf=>oR Z (Runs.quo Z Z Z aW) (oA Z Z (zq (zj (zG (rR fL3 Z (oM Z ak (oR Z (ZB (zo Z Z Z) (congrArg (jV) be.out)) (oA Z Z (zq ?_)))))))))))))))))))))
 cases bf
 exact zG ⟨Z,⟨aq,Z,Z,aj,bi,aY⟩⟩
 rintro bq bk ⟨au,aV,aT,aU,bl,aZ⟩
 have az:Hid (¬ ((↑((p1:Int) - 0).toNat:Int) < p1)):=zE (wBO)
 refine zD (sR fL3 Z (oM Z aV (oM Z aU (oR Z (ze Z Z Z) (eN (cF Z az (ZC (zh (zh (zy (zG (sR fL4 Z (oM Z aT (bnK bg fun x42 aX am=>oR Z (Runs.rem Z Z Z aX) (oR Z (Ze Z Z Z) (oA Z Z (eN (zI ?_))))))))))))))))))
 first | (obtain rfl:=nD am) | cases am
 exact ⟨Z,_,(zn Z),au,_,aZ,Z,Z⟩
end Go.Proofs.YtfcmijinklojbaaGreat
namespace Go.Proofs.YtfcmijinklojbaaGreat
open Go.KL
set_option maxHeartbeats 4000000
theorem wCs (p0:wAE) (bA:Option Addr) (bC:Nat) (bB:Option Addr) (bD:Nat) (bN:Option Addr) (bO:Nat) (p1:Int) (p2:Int) (p3:Int) (p4:Int) (w:World) (U:PHeap) (hS:St0 w U []) (bT:Sl U 1 bA bC p0.Shots.length (hH KL.encI p0.Shots)) (cH:Sl U 1 bB bD p0.Down.length (hH KL.encI p0.Down)) (cI:Sl U 2 bN bO p0.Across.length (hH wAD p0.Across)) {r:Int} (hm:wBB p0 p1 p2 p3 p4=some r):Gv Tryz.prog 64 [.agg #[.slice bA p0.Shots.length bC,.slice bB p0.Down.length bD,.slice bN p0.Across.length bO],jV p1,jV p2,jV p3,jV p4] w (wCb w [] U (fun U_ L_ v=>v=jV r/\L_=[])):=by
 unfold wBB at hm
 refine Gv.of Tryz.func64 Z Tryz.ntmps64 Tryz.results64 Z (sR gAg Z ?_)
 let B0:List Value:=[.slice bA p0.Shots.length bC,.slice bB p0.Down.length bD,.slice bN p0.Across.length bO]
 refine ZI (cs:=B0) rfl rfl rfl rfl rfl rfl (by rfl) hS ?_
 intro W1 b2 eY
 refine oA Z Z (eN (sR fL1 Z (oA Z Z (eN (zD (sR fL1 Z (oA Z Z (eN (zd (CK.iter (fun (bI,x12) σ_ w_=>∃ (U_:PHeap),σ_ 1=jV p1/\σ_ 2=jV p2/\σ_ 3=jV p3/\σ_ 4=jV p4/\σ_ 5=.pointer (some ⟨b2,0,none⟩)/\σ_ 11=jV bI/\σ_ 12=jV x12/\PHeap.Le U U_/\sW w U U_ [.blk b2 34 B0] w_) hm ?_ ?_))))))))))
 exact ⟨U,Z,Z,Z,Z,Z,Z,Z,(zZ _),eY⟩
 rintro ⟨bI,x12⟩ gN gQ da ⟨bU,b9,cB,cC,cD,bR,cd,bM,bl,cn⟩ cr fc
 try dsimp only at cr
 refine zD (sR fL5 Z (oM Z bM (oR Z (zU Z bR zm Z zS) (oL Z (cn.ldB (j:=0) Z Z Z zY (v:=.slice bA p0.Shots.length bC) Z) (oR Z (zi Z Z zA) (oR Z (ze Z Z Z) (eN ?_)))))))
 by_cases bn:x12 < (↑p0.Shots.length:Int)
 have cO:=cr;rw [if_pos bn] at cO;replace bn:=zE bn
 refine cT Z bn (kN (bnK cO fun x32 gc fV=>CK.cut (fun σ_ w_=>∃ (U_:PHeap),σ_ 1=jV p1/\σ_ 2=jV p2/\σ_ 3=jV p3/\σ_ 4=jV p4/\σ_ 5=.pointer (some ⟨b2,0,none⟩)/\σ_ 11=jV x32/\σ_ 12=jV x12/\PHeap.Le bU U_/\sW w U U_ [.blk b2 34 B0] w_) ?_ ?_))
 refine zd (zD (sR (.fl 0 (.fl 1 (.fx 2 .nil .stop))) Z (oM Z b9 (oM Z bM (bnK gc fun x36 eI fW=>zK 0 Z Z Z Z (zJ Z Z Tryz.call98 (zB Z (zB Z zP)) Z) cn (fun hs=>wCo p1 x12 da bU hs eI) (.inr Z) ?_)))))
 rintro bL gu gJ df am fb ⟨rfl,rfl⟩
 have bS:sW w U bL [.blk b2 34 B0] df:=fb
 refine eN (ifc fW ?_ ?_)
 intro b8 fY
 refine zt (congrArg nA b8.out) (rR fL8 Z (oM Z cd (oR Z (zU Z bR zm Z zS) (oL Z (bS.ldB (j:=0) Z Z Z zY (v:=.slice bB p0.Down.length bD) Z) (oM Z bM (bnK fY fun x48 ci fZ=>?_))))))
 have eJ:=cH.le bl
 have cG:=eJ.le am
 have q:=cG.el (fun _=>rfl) (wAN ci)
 obtain ⟨gC,gF,eO,eR⟩:=q
 refine oR Z (Zn Z Z eO Z zA zN (wDH ci) (wDK ci)) (oL Z (bS.ldC (f:=0) eR (v:=jV x48) Z Z zQ Z) (oR Z (zo Z Z Z) (oA Z Z (eN (sR fL1 Z (oA Z Z (eN (zD (sR fL1 Z (oA Z Z (eN (zd (CK.iter (fun (bY,bK) σ_ w_=>∃ (U_:PHeap),σ_ 1=jV p1/\σ_ 2=jV p2/\σ_ 3=jV p3/\σ_ 4=jV p4/\σ_ 5=.pointer (some ⟨b2,0,none⟩)/\σ_ 11=jV (w64 (bI + x48))/\σ_ 12=jV x12/\σ_ 13=.bool bY/\σ_ 14=jV bK/\PHeap.Le bL U_/\sW w U U_ [.blk b2 34 B0] w_) fZ ?_ ?_)))))))))))))
 exact ⟨bL,b9,cB,cC,cD,bR,Z,bM,Z,Z,(zZ _),bS⟩
 rintro ⟨bY,bK⟩ gP gW dg ⟨bH,bg,bh,bi,bj,aT,bq,aq,cE,bk,bu,bs⟩ cu fe
 try dsimp only at cu
 refine zD (sR fL5 Z (oM Z bk (oR Z (zU Z aT zm Z zS) (oL Z (bs.ldB (j:=0) Z Z Z zY (v:=.slice bB p0.Down.length bD) Z) (oR Z (zi Z Z zA) (oR Z (ze Z Z Z) (eN ?_)))))))
 by_cases bo:bK < (↑p0.Down.length:Int)
 have cQ:=cu;rw [if_pos bo] at cQ;replace bo:=zE bo
 refine cT Z bo (kN (bnK cQ fun dk cV ga=>CK.cut (fun σ_ w_=>∃ (U_:PHeap),σ_ 1=jV p1/\σ_ 2=jV p2/\σ_ 3=jV p3/\σ_ 4=jV p4/\σ_ 5=.pointer (some ⟨b2,0,none⟩)/\σ_ 11=jV (w64 (bI + x48))/\σ_ 12=jV x12/\σ_ 13=.bool dk/\σ_ 14=jV bK/\PHeap.Le bH U_/\sW w U U_ [.blk b2 34 B0] w_) ?_ ?_))
 refine zd (rR (wIf (.fx 4 (wSM (.fx 9 (wNv (.nil)) .stop)) .stop)) Z (oM Z cE (oM Z Z ?_)))
 by_cases ab:bY=true
 have cR:=cV;rw [if_pos ab] at cR;replace ab:=zE ab
 refine zL Z Z Z (zF Z Z (congrArg nA ab.out) Z) (zL Z Z Z (zF Z Z (congrArg nA ab.out) Z) (ZF Z Z Z (zF Z Z (congrArg nA ab.out) Z) (zL Z Z Z (zF Z Z (congrArg nA ab.out) Z) (zL Z Z Z (wAH Z Z Z) (zL Z Z Z (wAH Z Z Z) (zL Z Z Z (wAH Z Z Z) (ZF Z Z Z (wAH Z Z Z) (zL Z Z Z (zF Z Z (congrArg nA ab.out) Z) (zL Z Z Z (zF Z Z (congrArg nA ab.out) Z) (zL Z Z Z (wAH Z Z Z) (zL Z Z Z (wAH Z Z Z) (zL Z Z Z (wAH Z Z Z) (zL Z Z Z (wAH Z Z Z) (zL Z Z Z (wAH Z Z Z) (zL Z Z Z (wAH Z Z Z) (zL Z Z Z (wAH Z Z Z) (zL Z Z Z (wAH Z Z Z) (zL Z Z Z (wAH Z Z Z) (zL Z Z Z (zF Z Z (congrArg nA ab.out) Z) (oR Z (zR Z (congrArg nA ab.out) Z) (oA Z Z (zq (zj ?_)))))))))))))))))))))))
 cases cR
 exact zG ⟨Z,⟨bH,bg,bh,bi,bj,aT,bq,aq,Z,bk,(zZ _),bs⟩⟩
 have cS:=cV;rw [if_neg ab] at cS;replace ab:=zE ab
 refine zW Z Z Z (zC Z Z (congrArg nA (nB.2 ab.out))) Z bg (zW Z Z Z (zC Z Z (congrArg nA (nB.2 ab.out))) Z bk (bnK cS fun x94 eK gb=>zK 0 Z Z Z (zC Z Z (congrArg nA (nB.2 ab.out))) (zJ Z Z Tryz.call98 (zB Z (zB Z zP)) Z) bs (fun hs=>wCo p1 bK dg bH hs eK) (.inr Z) ?_))
 rintro bW gv gK cy bE eS ⟨rfl,rfl⟩
 have cj:sW w U bW [.blk b2 34 B0] cy:=eS
 refine zW Z Z Z (zC Z Z (congrArg nA (nB.2 ab.out))) Z Z (ifc gb ?_ ?_)
 intro au ff
 refine zx Z Z Z (zC Z Z (congrArg nA au.out)) (cj.ldBA (j:=0) Z Z aT ZN ZD (vs:=B0) Z Z) Z (zW Z Z Z (zC Z Z (congrArg nA au.out)) Z aq (zW Z Z Z (zC Z Z (congrArg nA au.out)) Z bk ?_))
 have dS:=bT.le bl
 have dT:=dS.le am
 have dU:=dT.le bu
 have dV:=dU.le bE
 have dW:=cG.le bu
 have dX:=dW.le bE
 have dY:=cI.le bl
 have dZ:=dY.le am
 have d4:=dZ.le bu
 have d5:=d4.le bE
 refine bnK ff fun x116 d6 fg=>zK 0 Z Z Z (zC Z Z (congrArg nA au.out)) (zJ Z Z Tryz.call60 (zB Z (zB Z (zB Z zP))) Z) cj (fun hs=>wCn p0 bA bC bB bD bN bO x12 bK cy bW hs dV dX d5 d6) (.inr Z) ?_
 rintro bP gp gG cZ cw eT ⟨rfl,rfl⟩
 have cm:sW w U bP [.blk b2 34 B0] cZ:=eT
 refine zX Z Z Z (zC Z Z (congrArg nA (nB.2 ab.out))) (fun _=>zR Z (congrArg nA au.out) Z) (zW Z Z Z (zC Z Z (congrArg nA (nB.2 ab.out))) Z Z (ifc fg ?_ ?_))
 intro ah fh
 refine zW Z Z Z (zC Z Z (congrArg nA ah.out)) Z aq (zW Z Z Z (zC Z Z (congrArg nA ah.out)) Z bi (zX Z Z Z (zC Z Z (congrArg nA ah.out)) (fun _=>Ze Z Z Z) (zW Z Z Z (zC Z Z (congrArg nA ah.out)) Z Z (ifc fh ?_ ?_))))
 intro aV fj
 refine zW Z Z Z (wT Z aV) Z bk (zW Z Z Z (wT Z aV) Z bj (rU Z (wT Z aV) (Ze Z Z Z) (zX Z Z Z (zC Z Z (congrArg nA ah.out)) (fun _=>zR Z (ZX aV.out) Z) (zX Z Z Z (zC Z Z (congrArg nA ah.out)) (fun _=>Runs.notP Z Z) (zX Z Z Z (zC Z Z (congrArg nA (nB.2 ab.out))) (fun _=>zR Z (congrArg nA ah.out) Z) (oR Z (zM Z (congrArg nA (nB.2 ab.out)) Z) (oA Z Z (zq (zj ?_)))))))))
 have q:=nD fj
 obtain rfl:=q
 exact zG ⟨Z,⟨bP,bg,bh,bi,bj,aT,bq,aq,Z,bk,(bE.trans cw),cm⟩⟩
 intro aV fm
 refine oF Z aV (oF Z aV (oF Z aV (zX Z Z Z (zC Z Z (congrArg nA ah.out)) (fun _=>zM Z (zk aV.out) Z) (zX Z Z Z (zC Z Z (congrArg nA ah.out)) (fun _=>ZQ Z Z) (zX Z Z Z (zC Z Z (congrArg nA (nB.2 ab.out))) (fun _=>zR Z (congrArg nA ah.out) Z) (oR Z (zM Z (congrArg nA (nB.2 ab.out)) Z) (oA Z Z (zq (zj ?_)))))))))
 cases fm
 exact zG ⟨Z,⟨bP,bg,bh,bi,bj,aT,bq,aq,Z,bk,(bE.trans cw),cm⟩⟩
 intro ah fq
 refine zL Z Z Z (zF Z Z (congrArg nA (nB.2 ah.out)) Z) (zL Z Z Z (zF Z Z (congrArg nA (nB.2 ah.out)) Z) (zL Z Z Z (zF Z Z (congrArg nA (nB.2 ah.out)) Z) (zL Z Z Z (zF Z Z (congrArg nA (nB.2 ah.out)) Z) (zL Z Z Z (wAH Z Z Z) (zL Z Z Z (wAH Z Z Z) (zL Z Z Z (wAH Z Z Z) (zL Z Z Z (zF Z Z (congrArg nA (nB.2 ah.out)) Z) (zL Z Z Z (zF Z Z (congrArg nA (nB.2 ah.out)) Z) (zX Z Z Z (zC Z Z (congrArg nA (nB.2 ab.out))) (fun _=>zM Z (congrArg nA (nB.2 ah.out)) Z) (oR Z (zM Z (congrArg nA (nB.2 ab.out)) Z) (oA Z Z (zq (zj ?_)))))))))))))
 cases fq
 exact zG ⟨Z,⟨bP,bg,bh,bi,bj,aT,bq,aq,Z,bk,(bE.trans cw),cm⟩⟩
 intro au ft
 refine zL Z Z Z (zF Z Z (congrArg nA (nB.2 au.out)) Z) (zL Z Z Z (zF Z Z (congrArg nA (nB.2 au.out)) Z) (zL Z Z Z (zF Z Z (congrArg nA (nB.2 au.out)) Z) (ZF Z Z Z (zF Z Z (congrArg nA (nB.2 au.out)) Z) (zX Z Z Z (zC Z Z (congrArg nA (nB.2 ab.out))) (fun _=>zM Z (congrArg nA (nB.2 au.out)) Z) (zW Z Z Z (zC Z Z (congrArg nA (nB.2 ab.out))) Z Z (oN Z (oN Z (oN Z (oN Z (zL Z Z Z (wAH Z Z Z) (zL Z Z Z (wAH Z Z Z) (zL Z Z Z (wAH Z Z Z) (oN Z (oN Z (zX Z Z Z (zC Z Z (congrArg nA (nB.2 ab.out))) (fun _=>zM Z Z Z) (oR Z (zM Z (congrArg nA (nB.2 ab.out)) Z) (oA Z Z (zq (zj ?_)))))))))))))))))))
 cases ft
 exact zG ⟨Z,⟨bW,bg,bh,bi,bj,aT,bq,aq,Z,bk,bE,cj⟩⟩
 rintro gR gx ⟨cW,dr,dt,du,dw,dx,dy,dz,dA,dB,ge,eU⟩
 refine rR fL3 Z (oM Z dB (oR Z (zo Z Z Z) (oA Z Z (zq ?_))))
 have q:=nD ga
 obtain rfl:=q
 exact zG ⟨Z,_,Z,⟨cW,dr,dt,du,dw,dx,dy,dz,dA,Z,(bu.trans ge),eU⟩⟩
 have cJ:=cu;rw [if_neg bo] at cJ;replace bo:=zE bo
 refine cF Z bo (ZC (zh ?_))
 have q:=wAI cJ
 obtain ⟨gh,fu,dm⟩:=q
 have q:=fe gh dm
 obtain rfl:=q
 refine zh (zy (zG (sR fL6 Z (oM Z cE (oM Z Z (ifc fu ?_ ?_))))))
 intro aW fw
 refine zW Z Z Z (zC Z Z (congrArg nA aW.out)) Z aq (zW Z Z Z (zC Z Z (congrArg nA aW.out)) Z bh (zX Z Z Z (zC Z Z (congrArg nA aW.out)) (fun _=>zw Z Z Z) (oR Z (zR Z (congrArg nA aW.out) Z) (eN (ifc fw ?_ ?_)))))
 intro bZ fy
 refine zp (zk (fun h=>h bZ.out)) (ZG (zj ?_))
 cases fy
 exact zG ⟨Z,⟨bH,bg,bh,bi,bj,aT,bq,aq,(am.trans bu),bs⟩⟩
 intro bZ fz
 refine cT Z bZ (rR fL8 Z (oM Z bq (oR Z (zU Z aT zm Z zS) (oL Z (bs.ldB (j:=0) Z Z Z zY (v:=.slice bA p0.Shots.length bC) Z) (oM Z aq (bnK fz fun gk cf fA=>?_))))))
 have d7:=bT.le bl
 have d8:=d7.le am
 have d9:=d8.le bu
 have q:=d9.el (fun _=>rfl) (wAN cf)
 obtain ⟨gA,gD,eL,eP⟩:=q
 refine oR Z (Zn Z Z eL Z zA zN (wDH cf) (wDK cf)) (oL Z (bs.ldC (f:=0) eP (v:=jV gk) Z Z zQ Z) (oR Z (ZY Z Z Z) (oA Z Z (zq (zj ?_)))))
 cases fA
 exact zG ⟨Z,⟨bH,bg,bh,bi,bj,aT,Z,aq,(am.trans bu),bs⟩⟩
 intro aW fB
 refine zL Z Z Z (zF Z Z (congrArg nA (nB.2 aW.out)) Z) (zL Z Z Z (zF Z Z (congrArg nA (nB.2 aW.out)) Z) (zL Z Z Z (zF Z Z (congrArg nA (nB.2 aW.out)) Z) (oR Z (zM Z (congrArg nA (nB.2 aW.out)) Z) (eN (zp Z (ZG (zj ?_)))))))
 cases fB
 exact zG ⟨Z,⟨bH,bg,bh,bi,bj,aT,bq,aq,(am.trans bu),bs⟩⟩
 intro b8 fC
 refine zp (congrArg nA (nB.2 b8.out)) (kN (sR fL1 Z (oA Z Z (eN (zD (sR fL1 Z (oA Z Z (eN (zd (CK.iter (fun (bX,bJ) σ_ w_=>∃ (U_:PHeap),σ_ 1=jV p1/\σ_ 2=jV p2/\σ_ 3=jV p3/\σ_ 4=jV p4/\σ_ 5=.pointer (some ⟨b2,0,none⟩)/\σ_ 11=jV bI/\σ_ 12=jV x12/\σ_ 13=.bool bX/\σ_ 14=jV bJ/\PHeap.Le bL U_/\sW w U U_ [.blk b2 34 B0] w_) fC ?_ ?_))))))))))
 exact ⟨bL,b9,cB,cC,cD,bR,cd,bM,Z,Z,(zZ _),bS⟩
 rintro ⟨bX,bJ⟩ gO gS db ⟨bG,aZ,ba,bb,be,aS,bp,ap,cA,bf,bt,br⟩ ct fd
 try dsimp only at ct
 refine zD (sR fL5 Z (oM Z bf (oR Z (zU Z aS zm Z zS) (oL Z (br.ldB (j:=0) Z Z Z zY (v:=.slice bB p0.Down.length bD) Z) (oR Z (zi Z Z zA) (oR Z (ze Z Z Z) (eN ?_)))))))
 by_cases bm:bJ < (↑p0.Down.length:Int)
 have cK:=ct;rw [if_pos bm] at cK;replace bm:=zE bm
 refine cT Z bm (kN (bnK cK fun dh cU fD=>CK.cut (fun σ_ w_=>∃ (U_:PHeap),σ_ 1=jV p1/\σ_ 2=jV p2/\σ_ 3=jV p3/\σ_ 4=jV p4/\σ_ 5=.pointer (some ⟨b2,0,none⟩)/\σ_ 11=jV bI/\σ_ 12=jV x12/\σ_ 13=.bool dh/\σ_ 14=jV bJ/\PHeap.Le bG U_/\sW w U U_ [.blk b2 34 B0] w_) ?_ ?_))
 refine zd (rR (wIf (.fx 4 (wSM (.fx 9 (wNv (.nil)) .stop)) .stop)) Z (oM Z cA (oM Z Z ?_)))
 by_cases aa:bX=true
 have cL:=cU;rw [if_pos aa] at cL;replace aa:=zE aa
 refine zL Z Z Z (zF Z Z (congrArg nA aa.out) Z) (zL Z Z Z (zF Z Z (congrArg nA aa.out) Z) (ZF Z Z Z (zF Z Z (congrArg nA aa.out) Z) (zL Z Z Z (zF Z Z (congrArg nA aa.out) Z) (zL Z Z Z (wAH Z Z Z) (zL Z Z Z (wAH Z Z Z) (zL Z Z Z (wAH Z Z Z) (ZF Z Z Z (wAH Z Z Z) (zL Z Z Z (zF Z Z (congrArg nA aa.out) Z) (zL Z Z Z (zF Z Z (congrArg nA aa.out) Z) (zL Z Z Z (wAH Z Z Z) (zL Z Z Z (wAH Z Z Z) (zL Z Z Z (wAH Z Z Z) (zL Z Z Z (wAH Z Z Z) (zL Z Z Z (wAH Z Z Z) (zL Z Z Z (wAH Z Z Z) (zL Z Z Z (wAH Z Z Z) (zL Z Z Z (wAH Z Z Z) (zL Z Z Z (wAH Z Z Z) (zL Z Z Z (zF Z Z (congrArg nA aa.out) Z) (oR Z (zR Z (congrArg nA aa.out) Z) (oA Z Z (zq (zj ?_)))))))))))))))))))))))
 cases cL
 exact zG ⟨Z,⟨bG,aZ,ba,bb,be,aS,bp,ap,Z,bf,(zZ _),br⟩⟩
 have cM:=cU;rw [if_neg aa] at cM;replace aa:=zE aa
 refine zW Z Z Z (zC Z Z (congrArg nA (nB.2 aa.out))) Z aZ (zW Z Z Z (zC Z Z (congrArg nA (nB.2 aa.out))) Z bf (bnK cM fun gL eb fE=>zK 0 Z Z Z (zC Z Z (congrArg nA (nB.2 aa.out))) (zJ Z Z Tryz.call98 (zB Z (zB Z zP)) Z) br (fun hs=>wCo p1 bJ db bG hs eb) (.inr Z) ?_))
 rintro bV gq gH cz bF eV ⟨rfl,rfl⟩
 have cp:sW w U bV [.blk b2 34 B0] cz:=eV
 refine zW Z Z Z (zC Z Z (congrArg nA (nB.2 aa.out))) Z Z (ifc fE ?_ ?_)
 intro az fG
 refine zx Z Z Z (zC Z Z (congrArg nA az.out)) (cp.ldBA (j:=0) Z Z aS ZN ZD (vs:=B0) Z Z) Z (zW Z Z Z (zC Z Z (congrArg nA az.out)) Z ap (zW Z Z Z (zC Z Z (congrArg nA az.out)) Z bf ?_))
 have ed:=bT.le bl
 have ef:=ed.le am
 have eh:=ef.le bt
 have ei:=eh.le bF
 have ej:=cH.le bl
 have en:=ej.le am
 have eu:=en.le bt
 have ey:=eu.le bF
 have ez:=cI.le bl
 have eA:=ez.le am
 have eC:=eA.le bt
 have eD:=eC.le bF
 refine bnK fG fun gM eE fH=>zK 0 Z Z Z (zC Z Z (congrArg nA az.out)) (zJ Z Z Tryz.call60 (zB Z (zB Z (zB Z zP))) Z) cp (fun hs=>wCn p0 bA bC bB bD bN bO x12 bJ cz bV hs ei ey eD eE) (.inr Z) ?_
 rintro bQ gt gI de cx eW ⟨rfl,rfl⟩
 have cq:sW w U bQ [.blk b2 34 B0] de:=eW
 refine zX Z Z Z (zC Z Z (congrArg nA (nB.2 aa.out))) (fun _=>zR Z (congrArg nA az.out) Z) (zW Z Z Z (zC Z Z (congrArg nA (nB.2 aa.out))) Z Z (ifc fH ?_ ?_))
 intro ai fJ
 refine zW Z Z Z (zC Z Z (congrArg nA ai.out)) Z ap (zW Z Z Z (zC Z Z (congrArg nA ai.out)) Z bb (zX Z Z Z (zC Z Z (congrArg nA ai.out)) (fun _=>Ze Z Z Z) (zW Z Z Z (zC Z Z (congrArg nA ai.out)) Z Z (ifc fJ ?_ ?_))))
 intro aX fK
 refine zW Z Z Z (wT Z aX) Z bf (zW Z Z Z (wT Z aX) Z be (rU Z (wT Z aX) (Ze Z Z Z) (zX Z Z Z (zC Z Z (congrArg nA ai.out)) (fun _=>zR Z (ZX aX.out) Z) (zX Z Z Z (zC Z Z (congrArg nA ai.out)) (fun _=>Runs.notP Z Z) (zX Z Z Z (zC Z Z (congrArg nA (nB.2 aa.out))) (fun _=>zR Z (congrArg nA ai.out) Z) (oR Z (zM Z (congrArg nA (nB.2 aa.out)) Z) (oA Z Z (zq (zj ?_)))))))))
 have q:=nD fK
 obtain rfl:=q
 exact zG ⟨Z,⟨bQ,aZ,ba,bb,be,aS,bp,ap,Z,bf,(bF.trans cx),cq⟩⟩
 intro aX fL
 refine oF Z aX (oF Z aX (oF Z aX (zX Z Z Z (zC Z Z (congrArg nA ai.out)) (fun _=>zM Z (zk aX.out) Z) (zX Z Z Z (zC Z Z (congrArg nA ai.out)) (fun _=>ZQ Z Z) (zX Z Z Z (zC Z Z (congrArg nA (nB.2 aa.out))) (fun _=>zR Z (congrArg nA ai.out) Z) (oR Z (zM Z (congrArg nA (nB.2 aa.out)) Z) (oA Z Z (zq (zj ?_)))))))))
 cases fL
 exact zG ⟨Z,⟨bQ,aZ,ba,bb,be,aS,bp,ap,Z,bf,(bF.trans cx),cq⟩⟩
 intro ai fM
 refine zL Z Z Z (zF Z Z (congrArg nA (nB.2 ai.out)) Z) (zL Z Z Z (zF Z Z (congrArg nA (nB.2 ai.out)) Z) (zL Z Z Z (zF Z Z (congrArg nA (nB.2 ai.out)) Z) (zL Z Z Z (zF Z Z (congrArg nA (nB.2 ai.out)) Z) (zL Z Z Z (wAH Z Z Z) (zL Z Z Z (wAH Z Z Z) (zL Z Z Z (wAH Z Z Z) (zL Z Z Z (zF Z Z (congrArg nA (nB.2 ai.out)) Z) (zL Z Z Z (zF Z Z (congrArg nA (nB.2 ai.out)) Z) (zX Z Z Z (zC Z Z (congrArg nA (nB.2 aa.out))) (fun _=>zM Z (congrArg nA (nB.2 ai.out)) Z) (oR Z (zM Z (congrArg nA (nB.2 aa.out)) Z) (oA Z Z (zq (zj ?_)))))))))))))
 cases fM
 exact zG ⟨Z,⟨bQ,aZ,ba,bb,be,aS,bp,ap,Z,bf,(bF.trans cx),cq⟩⟩
 intro az fN
 refine zL Z Z Z (zF Z Z (congrArg nA (nB.2 az.out)) Z) (zL Z Z Z (zF Z Z (congrArg nA (nB.2 az.out)) Z) (zL Z Z Z (zF Z Z (congrArg nA (nB.2 az.out)) Z) (ZF Z Z Z (zF Z Z (congrArg nA (nB.2 az.out)) Z) (zX Z Z Z (zC Z Z (congrArg nA (nB.2 aa.out))) (fun _=>zM Z (congrArg nA (nB.2 az.out)) Z) (zW Z Z Z (zC Z Z (congrArg nA (nB.2 aa.out))) Z Z (oN Z (oN Z (oN Z (oN Z (zL Z Z Z (wAH Z Z Z) (zL Z Z Z (wAH Z Z Z) (zL Z Z Z (wAH Z Z Z) (oN Z (oN Z (zX Z Z Z (zC Z Z (congrArg nA (nB.2 aa.out))) (fun _=>zM Z Z Z) (oR Z (zM Z (congrArg nA (nB.2 aa.out)) Z) (oA Z Z (zq (zj ?_)))))))))))))))))))
 cases fN
 exact zG ⟨Z,⟨bV,aZ,ba,bb,be,aS,bp,ap,Z,bf,bF,cp⟩⟩
 rintro gT gy ⟨cX,dC,dD,dE,dF,dG,dH,dI,dJ,dK,gf,eX⟩
 refine rR fL3 Z (oM Z dK (oR Z (zo Z Z Z) (oA Z Z (zq ?_))))
 have q:=nD fD
 obtain rfl:=q
 exact zG ⟨Z,_,Z,⟨cX,dC,dD,dE,dF,dG,dH,dI,dJ,Z,(bt.trans gf),eX⟩⟩
 have cN:=ct;rw [if_neg bm] at cN;replace bm:=zE bm
 refine cF Z bm (ZC (zh ?_))
 have q:=wAI cN
 obtain ⟨gi,fO,dp⟩:=q
 have q:=fd gi dp
 obtain rfl:=q
 refine zh (zy (zG (sR fL6 Z (oM Z cA (oM Z Z (ifc fO ?_ ?_))))))
 intro aY fP
 refine zW Z Z Z (zC Z Z (congrArg nA aY.out)) Z ap (zW Z Z Z (zC Z Z (congrArg nA aY.out)) Z ba (zX Z Z Z (zC Z Z (congrArg nA aY.out)) (fun _=>zw Z Z Z) (oR Z (zR Z (congrArg nA aY.out) Z) (eN (ifc fP ?_ ?_)))))
 intro b5 fQ
 refine zp (zk (fun h=>h b5.out)) (ZG (zj ?_))
 cases fQ
 exact zG ⟨Z,⟨bG,aZ,ba,bb,be,aS,bp,ap,(am.trans bt),br⟩⟩
 intro b5 fR
 refine cT Z b5 (rR fL8 Z (oM Z bp (oR Z (zU Z aS zm Z zS) (oL Z (br.ldB (j:=0) Z Z Z zY (v:=.slice bA p0.Shots.length bC) Z) (oM Z ap (bnK fR fun gm cg fS=>?_))))))
 have eF:=bT.le bl
 have eG:=eF.le am
 have eH:=eG.le bt
 have q:=eH.el (fun _=>rfl) (wAN cg)
 obtain ⟨gB,gE,eM,eQ⟩:=q
 refine oR Z (Zn Z Z eM Z zA zN (wDH cg) (wDK cg)) (oL Z (br.ldC (f:=0) eQ (v:=jV gm) Z Z zQ Z) (oR Z (ZY Z Z Z) (oA Z Z (zq (zj ?_)))))
 cases fS
 exact zG ⟨Z,⟨bG,aZ,ba,bb,be,aS,Z,ap,(am.trans bt),br⟩⟩
 intro aY fT
 refine zL Z Z Z (zF Z Z (congrArg nA (nB.2 aY.out)) Z) (zL Z Z Z (zF Z Z (congrArg nA (nB.2 aY.out)) Z) (zL Z Z Z (zF Z Z (congrArg nA (nB.2 aY.out)) Z) (oR Z (zM Z (congrArg nA (nB.2 aY.out)) Z) (eN (zp Z (ZG (zj ?_)))))))
 cases fT
 exact zG ⟨Z,⟨bG,aZ,ba,bb,be,aS,bp,ap,(am.trans bt),br⟩⟩
 rintro gU gz ⟨cY,dL,dM,dN,dO,dP,dQ,dR,gg,eZ⟩
 refine rR fL3 Z (oM Z dR (oR Z (zo Z Z Z) (oA Z Z (zq ?_))))
 have q:=nD fV
 obtain rfl:=q
 exact zG ⟨Z,_,Z,⟨cY,dL,dM,dN,dO,dP,dQ,Z,(bl.trans gg),eZ⟩⟩
 have cP:=cr;rw [if_neg bn] at cP;replace bn:=zE bn
 refine cF Z bn (ZC (zh ?_))
 have q:=wAI cP
 obtain ⟨gj,fU,dq⟩:=q
 have q:=fc gj dq
 obtain rfl:=q
 refine zh (zy (zG (sR fL2 Z (oM Z cd (oA Z Z (eN (zI ?_)))))))
 have hE:=nD fU;first | subst r | cases hE
 exact ⟨rfl,_,(zn rfl),bU,_,(cn.pick [] _ (by decide) rfl),rfl,rfl⟩
theorem wCZ (p0:wAE) (ae:Option Addr) (aj:Nat) (ah:Option Addr) (ak:Nat) (ai:Option Addr) (am:Nat) (p1:List Int) (ba:Option Addr) (bb:Nat) (w:World) (U:PHeap) (hS:St0 w U []) (bl:Sl U 1 ae aj p0.Shots.length (hH KL.encI p0.Shots)) (bm:Sl U 1 ah ak p0.Down.length (hH KL.encI p0.Down)) (bn:Sl U 2 ai am p0.Across.length (hH wAD p0.Across)) (bE:Sl U 1 ba bb p1.length (hH KL.encI p1)) {r:Int × Int} (hm:wAX p0 p1=some r):Gv Tryz.prog 16 [.agg #[.slice ae p0.Shots.length aj,.slice ah p0.Down.length ak,.slice ai p0.Across.length am],.slice ba p1.length bb] w (wCb w [] U (fun U_ L_ v=>v=.tuple #[jV r.1,jV r.2]/\L_=[])):=by
 unfold wAX at hm
 refine Gv.of Tryz.func16 Z Tryz.ntmps16 Tryz.results16 Z (sR gAo Z ?_)
 let B0:List Value:=[.slice ae p0.Shots.length aj,.slice ah p0.Down.length ak,.slice ai p0.Across.length am]
 refine ZI (cs:=B0) rfl rfl rfl rfl rfl rfl (by rfl) hS ?_
 intro W1 b2 bj
 refine oA Z Z (oA Z Z (eN (zD (sR gAm Z (oL Z (bj.ldBA (j:=0) Z Z Z ZN ZD (vs:=B0) Z Z) (bnK hm fun x5 h6 bM=>zK 0 Z Z Z Z (zJ Z Z Tryz.call11 (zB Z zP) Z) bj (fun hs=>wCG p0 ae aj ah ak ai am W1 U hs bl bm bn h6) (.inr Z) ?_))))))
 rintro U8 L9 bR be aq bB ⟨rfl,rfl⟩
 have aX:sW w U U8 [.blk b2 34 B0] be:=bB
 refine oA Z Z (eN (sR fL2 Z (oM Z Z (oR Z (zw Z Z Z) (eN (ifc bM ?_ ?_))))))
 intro aU bF
 refine zp (zk (fun h=>h aU.out)) (kN (sR (.fl 0 (.fl 1 (.fx 2 (wJM (.nil)) .stop))) Z (oL Z (aX.ldBA (j:=0) Z Z Z ZN ZD (vs:=B0) Z Z) (oM Z Z ?_))))
 have bg:=bl.le aq
 have bh:=bm.le aq
 have bi:=bn.le aq
 have bs:=bE.le aq
 have q:=bnd bF
 obtain ⟨⟨bp,x22⟩,bt,bo⟩:=q
 try dsimp only at bo
 refine zK 0 Z Z Z Z (zJ Z Z Tryz.call63 (zB Z (zB Z zP)) Z) aX (fun hs=>wEp p0 ae aj ah ak ai am p1 ba bb be U8 hs bg bh bi bs bt) (.inr Z) ?_
 rintro au bN bS bf aZ bC ⟨rfl,rfl⟩
 have aY:sW w U au [.blk b2 34 B0] bf:=bC
 refine oM Z Z (oR Z (zz Z Z (v:=jV bp) Z) (oR Z (zz Z Z (v:=jV x22) Z) (oA Z Z (oA Z Z (eN (zD (sR fL2 Z (oM Z Z (oR Z (zw Z Z Z) (eN (ifc bo ?_ ?_)))))))))))
 intro aV bG
 refine zp (zk (fun h=>h aV.out)) (kN (sR gAs Z (oL Z (aY.ldBA (j:=0) Z Z Z ZN ZD (vs:=B0) Z Z) (oM Z Z ?_))))
 have bu:=bg.le aZ
 have bv:=bh.le aZ
 have bw:=bi.le aZ
 refine bnK bG fun x37 bz bH=>zK 0 Z Z Z Z (zJ Z Z Tryz.call64 (zB Z (zB Z (zB Z (zB Z (zB Z zP))))) Z) aY (fun hs=>wCs p0 ae aj ah ak ai am bp (-1) (-1) (-1) bf au hs bu bv bw bz) (.inr Z) ?_
 rintro az bO bT br bQ bD ⟨rfl,rfl⟩
 have bk:sW w U az [.blk b2 34 B0] br:=bD
 refine oA Z Z (eN (zD (sR fL2 Z (oM Z Z (oR Z (ze Z Z Z) (eN (ifc bH ?_ ?_)))))))
 intro aW bI
 refine cT Z aW (sR fL2 Z (oA Z Z (oA Z Z (eN (zI (zH ?_))))))
 cases bI
 exact ⟨rfl,_,(wDX rfl rfl),az,_,(bk.pick [] _ (by decide) rfl),rfl,rfl⟩
 intro aW bJ
 refine cF Z aW (kN (sR fL3 Z (oM Z Z (oA Z Z (oA Z Z (eN (zI ?_)))))))
 cases bJ
 exact ⟨rfl,_,(wDX rfl rfl),az,_,(bk.pick [] _ (by decide) rfl),rfl,rfl⟩
 intro aV bK
 refine cT Z aV (sR fL3 Z (oM Z Z (oA Z Z (oA Z Z (eN (zI (zH ?_)))))))
 cases bK
 exact ⟨rfl,_,(wDX rfl rfl),au,_,(aY.pick [] _ (by decide) rfl),rfl,rfl⟩
 intro aU bL
 refine cT Z aU (sR fL3 Z (oM Z Z (oA Z Z (oA Z Z (eN (zI (zH ?_)))))))
 cases bL
 exact ⟨rfl,_,(wDX rfl rfl),U8,_,(aX.pick [] _ (by decide) rfl),rfl,rfl⟩
theorem wEb {S E:Type} (PY:S->PHeap->List Res->Prop) (PE:E->PHeap->List Res->Prop) (f:S->Int->Option (S ⊕ E)) (y:Nat) (s0:S) (p1:wAF) (bv:Nat) (ai:Nat) (bh:Option Addr) (bl:Nat) (az:Option Addr) (aS:Nat) (bi:Option Addr) (bm:Nat) (bo:Nat) (bn:Array MapEntry) (bw:Nat) (p2:Unit) (bj:Nat) (p3:Int) (bk:Nat) (w:World) (L:List Res) (U:PHeap) (hS:St ⟨w,L,U⟩ U L w) (hP:PY s0 U L) (hY:YOK Tryz.prog y wJx PY PE f U) (hV:∀ s_ U_ L_,PY s_ U_ L_->∃ (i_ j_:Nat) (a0_:Arr Int 64) (a1_:Arr Int 8) (a2_:Arr Bool 16),L_[i_]?=some (.blk ai 118 ([.slice bh p1.Bout.Shots.length bl,.slice az p1.Bout.Down.length aS,.slice bi p1.Bout.Across.length bm,.map (some bo)] ++ ((hH KL.encI a0_.l) ++ ((hH KL.encI a1_.l) ++ (hH KL.encT a2_.l)))))/\L_[j_]?=some (.obj bo (.map bn bw))) (bX:Cl U bv 0 [.pointer (some ⟨ai,0,none⟩)]) (bY:Sl U 1 bh bl p1.Bout.Shots.length (hH KL.encI p1.Bout.Shots)) (bZ:Sl U 1 az aS p1.Bout.Down.length (hH KL.encI p1.Bout.Down)) (b5:Sl U 2 bi bm p1.Bout.Across.length (hH wAA p1.Bout.Across)) (b8:MpR bn wDP wDl p1.may) (b9:Cl U bj 0 [.func (.func 57) #[.pointer (some ⟨ai,0,none⟩)] #[]]) (cd:Cl U bk 0 [jV p3]) {r:S ⊕ E} (hm:wAr f s0 p1 p2 p3=some r):Gv Tryz.prog 123 [.func (.yield y) #[] #[],.pointer (some ⟨bv,0,none⟩),.pointer (some ⟨bj,0,none⟩),.pointer (some ⟨bk,0,none⟩)] w (ItS w L U PY PE r):=by
 unfold wAr at hm
 refine Gv.of Tryz.func123 Z Tryz.ntmps123 Tryz.results123 Z (sR fL7 Z (oL Z (hS.ldC (f:=0) bX (v:=.pointer (some ⟨ai,0,none⟩)) Z Z ZK Z) (oR Z (ZH Z Z) (oR Z (zU Z Z zf Z zr) (oR Z (zU Z Z zO Z zS) ?_)))))
 have q:=hV _ _ _ hP
 obtain ⟨i2,j3,a6,a7,a8,cj,cP⟩:=q
 refine oL Z (hS.ldB (j:=i2) cj Z Z zY (v:=.slice az p1.Bout.Down.length aS) Z) (oR Z (zi Z Z zA) (oM Z Z (eN (zd ?_))))
 have q:=wBp hm
 obtain ⟨cS,bb⟩:=q
 have q:=wCA bb
 obtain ⟨bg,ci⟩:=q
 replace bg:=zE bg
 refine Zf (fun ah bA σ_ w_=>∃ (U_:PHeap) (aj:List Res),σ_ 12=jV (↑ah:Int)/\σ_ 0=.func (.yield y) #[] #[]/\σ_ 2=.pointer (some ⟨bj,0,none⟩)/\σ_ 3=.pointer (some ⟨bk,0,none⟩)/\σ_ 11=jV (↑p1.Bout.Down.length:Int)/\PHeap.Le U U_/\St ⟨w,L,U⟩ U_ aj w_/\PY bA U_ aj) ci ?_ ?_ ?_
 exact ⟨U,L,Z,Z,Z,Z,Z,(zZ _),hS,hP⟩
 rintro ah bA cU cW bC bf ⟨aU,aj,am,aV,aW,aX,aY,ae,ba,aZ⟩ cw cf
 have bq:Hid ((↑ah:Int) < (↑p1.Bout.Down.length:Int)):=zE (wBz bf)
 replace bf:=zE bf
 have bt:Hid (w64 ((↑ah:Int) + 1)=(↑(ah + 1):Int)):=zE (by have h1:=bg.out;have h2:=bq.out;rw [wAO] <;> omega)
 refine sR fL1 Z (oR Z (ze Z am aY) (eN (zD (cT Z bq (kN (zD (zd (sR fL2 Z (oM Z am (oA Z Z (eN (sR (wKI (.fx 3 (fC4_6 (.fx 7 gAf .stop)) .stop)) Z ?_))))))))))))
 have bM:=b9.le ae
 refine oL Z (ba.ldC (f:=0) bM (v:=.func (.func 57) #[.pointer (some ⟨ai,0,none⟩)] #[]) Z aW Tryz.isAgg106 Z) ?_
 have bN:=cd.le ae
 refine oL Z (ba.ldC (f:=0) bN (v:=jV p3) Z aX zQ Z) (oM Z Z ?_)
 have q:=hV _ _ _ aZ
 obtain ⟨cx,cy,bE,bF,bG,be,bu⟩:=q
 have bO:=bY.le ae
 have bP:=bZ.le ae
 have bQ:=b5.le ae
 refine bnK cw fun cD bR cn=>OKS.callP (i1:=cx) (i2:=cy) (v0:=.bool cD) rfl rfl rfl rfl (zJ rfl rfl Tryz.call57 (zB rfl (zB rfl zP)) rfl) ba be bu (fun e=>by rw [e,bu] at be;cases be) (fun hs=>wCx (⟨p1.Bout,p1.may,bE,bF,bG⟩:wAF) ai bh bl az aS bi bm bo bn bw p3 (↑ah:Int) bC aU hs bO bP bQ b8 bR) rfl ?_
 intro bD bT
 have br:St ⟨w,L,U⟩ aU aj bD:=bT
 refine oM Z Z (ifc cn ?_ ?_)
 intro ab cp
 refine zW Z Z Z (zC Z Z (congrArg nA ab.out)) Z aV (zW Z Z Z (zC Z Z (congrArg nA ab.out)) Z Z (bnK cp fun cE bS aq=>OKS.yieldT 0 (a:=(↑ah:Int)) Z Z Z (zC Z Z (congrArg nA ab.out)) Z Z (zB Z zP) br hY ae aZ Z bS Z ?_))
 rintro ak aT cL bp cz bs ap
 rcases cE with cB | cB
 try dsimp only at aq ap
 obtain ⟨rfl,ct⟩:=ap
 have bU:St ⟨w,L,U⟩ ak aT bp:=bs
 refine zX Z Z Z (zC Z Z (congrArg nA ab.out)) (fun _=>ZQ Z Z) (oR Z (zR Z (congrArg nA ab.out) Z) (eN (zp Z (ZG (zj (zG (rR fL2 Z (oR Z (ZB (zo Z am Z) (congrArg (jV) bt.out)) (oM Z Z (zq ?_))))))))))
 have q:=nD aq
 obtain rfl:=q
 exact zG ⟨Z,_,Z,⟨ak,aT,Z,aV,aW,aX,aY,(ae.trans cz),bU,ct⟩⟩
 try dsimp only at aq ap
 obtain ⟨rfl,cu⟩:=ap
 have bV:St ⟨w,L,U⟩ ak aT bp:=bs
 refine zX Z Z Z (zC Z Z (congrArg nA ab.out)) (fun _=>ZQ Z Z) (oR Z (zR Z (congrArg nA ab.out) Z) (eN (zt Z (zI (zV (zH ?_))))))
 have q:=wAI aq
 obtain ⟨cC,cq,bI⟩:=q
 have q:=wBI hm bb (cf cC bI)
 obtain rfl:=q
 refine zH (zV ?_)
 cases cq
 exact ⟨Z,_,(res0),ak,_,bV,cu⟩
 intro ab cr
 refine zL Z Z Z (zF Z Z (congrArg nA (nB.2 ab.out)) Z) (zL Z Z Z (zF Z Z (congrArg nA (nB.2 ab.out)) Z) (ZF Z Z Z (zF Z Z (congrArg nA (nB.2 ab.out)) Z) (zL Z Z Z (zF Z Z (congrArg nA (nB.2 ab.out)) Z) (oR Z (zM Z (congrArg nA (nB.2 ab.out)) Z) (eN (zp Z (ZG (zj (zG (rR fL2 Z (oR Z (ZB (zo Z am Z) (congrArg (jV) bt.out)) (oM Z Z (zq ?_)))))))))))))
 have q:=nD cr
 obtain rfl:=q
 exact zG ⟨Z,_,Z,⟨aU,aj,Z,aV,aW,aX,aY,ae,br,aZ⟩⟩
 rintro cV cX cH ⟨bB,cG,bK,cM,cN,cO,bJ,cR,bW,bL⟩ cg
 have cm:=wCR hm bb cg
 have bH:Hid (¬ ((↑(((↑p1.Bout.Down.length:Int):Int) - 0).toNat:Int) < (↑p1.Bout.Down.length:Int))):=zE (wBO)
 refine sR fL1 Z (oR Z (ze Z bK bJ) (eN (zD (cF Z bH (ZC (zh (zh (zy ?_))))))))
 cases cm
 exact ⟨Z,_,(res0),bB,_,bW,bL⟩
end Go.Proofs.YtfcmijinklojbaaGreat
