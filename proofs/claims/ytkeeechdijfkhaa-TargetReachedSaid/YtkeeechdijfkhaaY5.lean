import Derived.Test.YtkeeechdijfkhaaY4
set_option linter.all false
open List renaming flatMap->hH,getElem_cons_succ->nE,getElem_cons_zero->nG,getElem_toArray->nH,set->nJ,length_set->nK,length_append->nM,length_cons->nO,length_nil->nQ
open Go.Value renaming bool->nA
open Bool renaming eq_false_iff->nB
open Option.some renaming inj->nD
open Int renaming toNat_natCast->nI
open Prod.mk renaming injEq->nL
open Nat renaming blt->nR,le_of_ble_eq_true->nT
open Eq renaming trans->nS
namespace Go.Proofs.Ytkeeechdijfkhaa
open Go.KL
def gAa:Sch:=.fl 1 (.fl 2 .nil)
def gAb:Sch:=.fl 2 (.fl 3 .nil)
def gAc:Sch:=.fl 3 (.fl 4 .nil)
def gAd:Sch:=.fl 4 (.fl 5 .nil)
def gAe:Sch:=.fl 7 (.fl 8 .nil)
def gAf:Sch:=.fl 8 (.fl 9 .nil)
def gAg:Sch:=.fx 0 (.fl 1 .nil) .stop
def gAh:Sch:=.fx 5 (.fl 6 .nil) .stop
def gAi:Sch:=.fx 1 (.fl 2 .nil) .stop
def gAj:Sch:=.fl 0 (.fx 1 .nil .stop)
def gAk:Sch:=.fx 3 (.fl 4 .nil) .stop
def gAl:Sch:=.fx 0 (.fx 1 .nil .stop) .stop
def gAm:Sch:=.fx 17 (.fl 18 .nil) .stop
def gAn:Sch:=.fl 1 (.fx 2 (.fl 3 .nil) .stop)
def gAo:Sch:=.fl 0 gAi
def gAp:Sch:=.fx 21 (.fl 22 (.fl 23 .nil)) .stop
def gAq:Sch:=.fx 0 gAi .stop
def gAr:Sch:=.fx 3 gAd .stop
def gAs:Sch:=.fx 0 gAa .stop
def gAt:Sch:=.fl 0 (.fx 1 (.fx 2 .nil .stop) .stop)
def gAu:Sch:=.fx 11 (.fl 12 (.fl 13 .nil)) .stop
def gAv:Sch:=.fl 0 (.fl 1 (.fx 2 .nil .stop))
def gAw:Sch:=.fx 3 (.fx 4 (.fl 5 .nil) .stop) .stop
def gAx:Sch:=.fl 0 gAn
def gAy:Sch:=.fl 0 (.fl 1 (.fx 2 (.fx 3 .nil .stop) .stop))
def gAz:Sch:=.fl 0 (.fx 1 gAb .stop)
def gBa:Sch:=.fl 0 (.fl 1 (.fx 2 gAc .stop))
def gBb:Sch:=.fl 0 (.fl 1 (.fx 2 gAk .stop))
set_option maxHeartbeats 4000000
theorem Z {α:Type} {a:α}:a=a:=rfl
section
variable {r:Option Nat} {N:Nat} {P:Program} {l:List Oper} {Q:wCU} {D:List Deferred} {ks:List Nat} {σ:Env} {w:World} {i d j e:Nat} {s:Sch} {o:Oper} {b:Bool} {x:Operand} {v:Value} {p:Prop} {inst:Decidable p} {K:List Deferred->Env->World->Prop} {c1 c2:Code}
abbrev jV (n:Int):Value:=.int .i64 n
abbrev SW (w:World) (X:List Res) (U U':PHeap) (L:List Res) (w':World):Prop:=St ⟨w,X,U⟩ U' L w'
abbrev sW (w:World) (U U':PHeap) (L:List Res) (w':World):Prop:=St ⟨w,[],U⟩ U' L w'
abbrev St0 (w:World) (U:PHeap) (L:List Res):Prop:=St ⟨w,L,U⟩ U L w
theorem ifc {α:Type} {G p:Prop} {inst:Decidable p} {a b r:α} (h:@ite α p inst a b=r) (h1:Hid p->a=r->G) (h2:Hid (¬ p)->b=r->G):G:=by
 by_cases c:p
 rw [if_pos c] at h;exact h1 ⟨c⟩ h
 rw [if_neg c] at h;exact h2 ⟨c⟩ h
theorem bnK {α β:Type} {G:Prop} {o:Option α} {f:α->Option β} {r:β} (h:o.bind f=some r) (k:∀ x,o=some x->f x=some r->G):G:=by
 obtain ⟨x,h1,h2⟩:=bnd h
 exact k x h1 h2
theorem oR (h:(l[i]?,o.dst,nR d N,wanted l σ o)=(some o,some d,true,true)) (hr:∀ {w'},Runs P σ w' o v w') (k:OKS N P l Q D ks s (upd σ d v) w):OKS N P l Q D ks (.fl i s) σ w:=by
 simp only [nL] at h;exact OKS.r h.1 h.2.1 h.2.2.1 h.2.2.2 (fun _=>hr) k
theorem oL (h:(l[i]?,o.dst,nR d N,wanted l σ o,wOw (kOf ks i))=(some o,some d,true,true,false)) (hr:wEh P σ w o v) (k:OKS N P l Q D ks s (upd σ d v) w):OKS N P l Q D ks (.fl i s) σ w:=by
 simp only [nL] at h;exact OKS.m h.1 h.2.1 h.2.2.1 h.2.2.2.1 hr h.2.2.2.2 k
theorem oM (h:(l[i]?,o.dst,nR d N,wanted l σ o,o.op)=(some o,some d,true,true,.move x)) (hx:ev σ x=v) (k:OKS N P l Q D ks s (upd σ d v) w):OKS N P l Q D ks (.fl i s) σ w:=by
 simp only [nL] at h;exact OKS.rm h.1 h.2.1 h.2.2.1 h.2.2.2.1 h.2.2.2.2 hx k
theorem oA (h:(l[i]?,o.dst,nR d N,wanted l σ o,o.op)=(some o,some d,true,true,.assign x)) (hx:ev σ x=v) (k:OKS N P l Q D ks s (upd σ d v) w):OKS N P l Q D ks (.fl i s) σ w:=by
 simp only [nL] at h;exact OKS.ra h.1 h.2.1 h.2.2.1 h.2.2.2.1 h.2.2.2.2 hx k
theorem oF (h:(l[i]?,o.dst,nR d N,o.guard,(l[j]?).bind (·.dst),σ e,false == b)=(some o,some d,true,some (j,b),some e,.bool (decide p),false)) (c:Hid (¬ p)) (k:OKS N P l Q D ks s (upd σ d undef) w):OKS N P l Q D ks (.fl i s) σ w:=by
 simp only [nL] at h;exact OKS.p h.1 h.2.1 h.2.2.1 (wFU h.2.2.2.1 h.2.2.2.2.1 (h.2.2.2.2.2.1.trans (wOv c.out)) h.2.2.2.2.2.2) k
theorem oT (h:(l[i]?,o.dst,nR d N,o.guard,(l[j]?).bind (·.dst),σ e,true == b)=(some o,some d,true,some (j,b),some e,.bool (decide p),false)) (c:Hid p) (k:OKS N P l Q D ks s (upd σ d undef) w):OKS N P l Q D ks (.fl i s) σ w:=by
 simp only [nL] at h;exact OKS.p h.1 h.2.1 h.2.2.1 (wFU h.2.2.2.1 h.2.2.2.2.1 (h.2.2.2.2.2.1.trans (wOu c.out)) h.2.2.2.2.2.2) k
theorem oN {b2:Bool} (h:(l[i]?,o.dst,nR d N,o.guard,(l[j]?).bind (·.dst),σ e,b2 == b)=(some o,some d,true,some (j,b),some e,.bool b2,false)) (k:OKS N P l Q D ks s (upd σ d undef) w):OKS N P l Q D ks (.fl i s) σ w:=by
 simp only [nL] at h;exact OKS.p h.1 h.2.1 h.2.2.1 (wFU h.2.2.2.1 h.2.2.2.2.1 h.2.2.2.2.2.1 h.2.2.2.2.2.2) k
theorem nC {a b:Bool} (h:a=b):nA (!a)=nA (!b):=h ▸ rfl
theorem nF {a:Bool} (h:¬ a=true):nA (!a)=nA (!false):=nC (nB.2 h)
theorem wT (h:(o.guard,(l[j]?).bind (·.dst),σ e)=(some (j,true),some e,.bool (decide p))) (c:Hid p):wanted l σ o=true:=by
 simp only [nL] at h;exact wGs h.1 h.2.1 (h.2.2.trans (wOu c.out))
theorem wF (h:(o.guard,(l[j]?).bind (·.dst),σ e)=(some (j,false),some e,.bool (decide p))) (c:Hid (¬ p)):wanted l σ o=true:=by
 simp only [nL] at h;exact wGs h.1 h.2.1 (h.2.2.trans (wOv c.out))
theorem rU (h:(l[i]?,o.dst,nR d N)=(some o,some d,true)) (hw:wanted l σ o=true) (hr:∀ {w'},Runs P σ w' o v w') (k:OKS N P l Q D ks s (upd σ d v) w):OKS N P l Q D ks (.fl i s) σ w:=by
 simp only [nL] at h;exact OKS.r h.1 h.2.1 h.2.2 hw (fun _=>hr) k
theorem sR {id:Nat} (s:Sch) (hs:inOrder 0 s l.length=true) (h:OKS N P l (wDS (fun D σ w=>CK r N P c2 Q D σ w) Q) D [] s σ w):CK r N P (.seq (.region id l.toArray false) c2) Q D σ w:=CK.seq (CK.reg s hs h)
theorem rR {id:Nat} (s:Sch) (hs:inOrder 0 s l.length=true) (h:OKS N P l Q D [] s σ w):CK r N P (.region id l.toArray false) Q D σ w:=CK.reg s hs h
theorem eN (h:K D σ w):OKS N P l (wDS K Q) D ks .nil σ w:=OKS.e (wGo h)
theorem cT (hz:ev σ x=.bool (decide p)) (c:Hid p) (h:CK r N P c1 Q D σ w):CK r N P (.cond x c1 c2) Q D σ w:=CK.condT (hz.trans (wOu c.out)) h
theorem cF (hz:ev σ x=.bool (decide p)) (c:Hid (¬ p)) (h:CK r N P c2 Q D σ w):CK r N P (.cond x c1 c2) Q D σ w:=CK.condF (hz.trans (wOv c.out)) h
theorem kN (h:K D σ w):CK r N P .skip (wDS K Q) D σ w:=CK.skip (wGo h)
end
def fL1:Sch:=.fl 0 .nil
def fL2:Sch:=.fl 0 (.fl 1 .nil)
def fL3:Sch:=.fl 0 gAa
def fL4:Sch:=.fl 0 (.fl 1 gAb)
def fL5:Sch:=.fl 0 (.fl 1 (.fl 2 gAc))
def fL6:Sch:=.fl 0 (.fl 1 (.fl 2 (.fl 3 gAd)))
def fL7:Sch:=.fl 0 (.fl 1 (.fl 2 (.fl 3 (.fl 4 (.fl 5 (.fl 6 .nil))))))
def fL9:Sch:=.fl 0 (.fl 1 (.fl 2 (.fl 3 (.fl 4 (.fl 5 (.fl 6 gAe))))))
def fL10:Sch:=.fl 0 (.fl 1 (.fl 2 (.fl 3 (.fl 4 (.fl 5 (.fl 6 (.fl 7 gAf)))))))
def fL11:Sch:=.fl 0 (.fl 1 (.fl 2 (.fl 3 (.fl 4 (.fl 5 (.fl 6 (.fl 7 (.fl 8 (.fl 9 (.fl 10 .nil))))))))))
def fL12:Sch:=.fl 0 (.fl 1 (.fl 2 (.fl 3 (.fl 4 (.fl 5 (.fl 6 (.fl 7 (.fl 8 (.fl 9 (.fl 10 (.fl 11 .nil)))))))))))
def fL13:Sch:=.fl 0 (.fl 1 (.fl 2 (.fl 3 (.fl 4 (.fl 5 (.fl 6 (.fl 7 (.fl 8 (.fl 9 (.fl 10 (.fl 11 (.fl 12 .nil))))))))))))
def fL15:Sch:=.fl 0 (.fl 1 (.fl 2 (.fl 3 (.fl 4 (.fl 5 (.fl 6 (.fl 7 (.fl 8 (.fl 9 (.fl 10 (.fl 11 (.fl 12 (.fl 13 (.fl 14 .nil))))))))))))))
def fL20:Sch:=.fl 0 (.fl 1 (.fl 2 (.fl 3 (.fl 4 (.fl 5 (.fl 6 (.fl 7 (.fl 8 (.fl 9 (.fl 10 (.fl 11 (.fl 12 (.fl 13 (.fl 14 (.fl 15 (.fl 16 (.fl 17 (.fl 18 (.fl 19 .nil)))))))))))))))))))
def fL30:Sch:=.fl 0 (.fl 1 (.fl 2 (.fl 3 (.fl 4 (.fl 5 (.fl 6 (.fl 7 (.fl 8 (.fl 9 (.fl 10 (.fl 11 (.fl 12 (.fl 13 (.fl 14 (.fl 15 (.fl 16 (.fl 17 (.fl 18 (.fl 19 (.fl 20 (.fl 21 (.fl 22 (.fl 23 (.fl 24 (.fl 25 (.fl 26 (.fl 27 (.fl 28 (.fl 29 .nil)))))))))))))))))))))))))))))
def wGJ (s:Sch):Sch:=.fl 0 (.fl 1 (.fl 2 (s)))
def wKA (s:Sch):Sch:=.fl 0 (.fl 1 (.fl 2 (.fl 3 (s))))
def wGS (s:Sch):Sch:=.fl 0 (.fl 1 (.fl 2 (.fl 3 (.fl 4 (s)))))
def wIw (s:Sch):Sch:=.fl 0 (.fl 1 (.fl 2 (.fl 3 (.fl 4 (.fl 5 (s))))))
def wHO (s:Sch):Sch:=.fl 0 (.fl 1 (.fl 2 (.fl 3 (.fl 4 (.fl 5 (.fl 6 (s)))))))
def wMm (s:Sch):Sch:=.fl 0 (.fl 1 (.fl 2 (.fl 3 (.fl 4 (.fl 5 (.fl 6 (.fl 7 (s))))))))
def wPr (s:Sch):Sch:=.fl 0 (.fl 1 (.fl 2 (.fl 3 (.fl 4 (.fl 5 (.fl 6 (.fl 7 (.fl 8 (s)))))))))
def fC0_9 (s:Sch):Sch:=.fl 0 (.fl 1 (.fl 2 (.fl 3 (.fl 4 (.fl 5 (.fl 6 (.fl 7 (.fl 8 (.fl 9 (s))))))))))
def wNO (s:Sch):Sch:=.fl 0 (.fl 1 (.fl 2 (.fl 3 (.fl 4 (.fl 5 (.fl 6 (.fl 7 (.fl 8 (.fl 9 (.fl 10 (s)))))))))))
def wGn (s:Sch):Sch:=.fl 0 (.fl 1 (.fl 2 (.fl 3 (.fl 4 (.fl 5 (.fl 6 (.fl 7 (.fl 8 (.fl 9 (.fl 10 (.fl 11 (.fl 12 (s)))))))))))))
def wPs (s:Sch):Sch:=.fl 0 (.fl 1 (.fl 2 (.fl 3 (.fl 4 (.fl 5 (.fl 6 (.fl 7 (.fl 8 (.fl 9 (.fl 10 (.fl 11 (.fl 12 (.fl 13 (.fl 14 (s)))))))))))))))
def wPt (s:Sch):Sch:=.fl 0 (.fl 1 (.fl 2 (.fl 3 (.fl 4 (.fl 5 (.fl 6 (.fl 7 (.fl 8 (.fl 9 (.fl 10 (.fl 11 (.fl 12 (.fl 13 (.fl 14 (.fl 15 (s))))))))))))))))
def wPu (s:Sch):Sch:=.fl 0 (.fl 1 (.fl 2 (.fl 3 (.fl 4 (.fl 5 (.fl 6 (.fl 7 (.fl 8 (.fl 9 (.fl 10 (.fl 11 (.fl 12 (.fl 13 (.fl 14 (.fl 15 (.fl 16 (s)))))))))))))))))
def wMn (s:Sch):Sch:=.fl 2 (.fl 3 (.fl 4 (.fl 5 (.fl 6 (s)))))
def wPv (s:Sch):Sch:=.fl 2 (.fl 3 (.fl 4 (.fl 5 (.fl 6 (.fl 7 (.fl 8 (.fl 9 (.fl 10 (s)))))))))
def fC3_5 (s:Sch):Sch:=.fl 3 (.fl 4 (.fl 5 (s)))
def fC3_6 (s:Sch):Sch:=.fl 3 (.fl 4 (.fl 5 (.fl 6 (s))))
def wPw (s:Sch):Sch:=.fl 4 (.fl 5 (.fl 6 (s)))
def fC4_8 (s:Sch):Sch:=.fl 4 (.fl 5 (.fl 6 (.fl 7 (.fl 8 (s)))))
def fC5_9 (s:Sch):Sch:=.fl 5 (.fl 6 (.fl 7 (.fl 8 (.fl 9 (s)))))
def wPx (s:Sch):Sch:=.fl 6 (.fl 7 (.fl 8 (.fl 9 (.fl 10 (s)))))
def wNP (s:Sch):Sch:=.fl 6 (.fl 7 (.fl 8 (.fl 9 (.fl 10 (.fl 11 (.fl 12 (s)))))))
def wPy (s:Sch):Sch:=.fl 8 (.fl 9 (.fl 10 (s)))
def wNQ (s:Sch):Sch:=.fl 9 (.fl 10 (.fl 11 (.fl 12 (.fl 13 (.fl 14 (.fl 15 (.fl 16 (.fl 17 (.fl 18 (.fl 19 (.fl 20 (s))))))))))))
def wOm (s:Sch):Sch:=.fl 10 (.fl 11 (.fl 12 (.fl 13 (.fl 14 (.fl 15 (.fl 16 (s)))))))
def wOn (s:Sch):Sch:=.fl 11 (.fl 12 (.fl 13 (.fl 14 (.fl 15 (.fl 16 (.fl 17 (.fl 18 (.fl 19 (s)))))))))
def wLz (s:Sch):Sch:=.fl 14 (.fl 15 (.fl 16 (s)))
theorem zA:type_of% @Try.runUnderlying23:=@Try.runUnderlying23
theorem zB:type_of% @Try.runUnderlying26:=@Try.runUnderlying26
theorem zC:type_of% @Try.sizeOf3:=@Try.sizeOf3
theorem zD:type_of% @nT:=@nT
theorem zE:type_of% @wKE:=@wKE
theorem zF:type_of% @Runs.fa:=@Runs.fa
theorem zG:type_of% @Hid.mk:=@Hid.mk
theorem zH:type_of% @wGo:=@wGo
theorem zI:type_of% @CK.seq:=@CK.seq
theorem zJ:type_of% @Try.isAgg3:=@Try.isAgg3
theorem zK:type_of% @OKS.r:=@OKS.r
theorem zL:type_of% @Try.runUnderlying67:=@Try.runUnderlying67
theorem zM:type_of% @wFU:=@wFU
theorem zN:type_of% @Enters.mk:=@Enters.mk
theorem zO:type_of% @Try.sizeOf23:=@Try.sizeOf23
theorem zP:type_of% @wGs:=@wGs
theorem zQ:type_of% @OKS.callH:=@OKS.callH
theorem zR:type_of% @CK.ret:=@CK.ret
theorem zS:type_of% @wMo:=@wMo
theorem zU:type_of% @OKS.p:=@OKS.p
theorem zV:type_of% @Try.isAgg23:=@Try.isAgg23
theorem zW:type_of% @Runs.addw:=@Runs.addw
theorem zX:type_of% @Runs.pickF:=@Runs.pickF
theorem zY:type_of% @PHeap.Le.refl:=@PHeap.Le.refl
theorem zZ:type_of% @OKS.rm:=@OKS.rm
theorem zd:type_of% @Runs.pickT:=@Runs.pickT
theorem ze:type_of% @Runs.nilp:=@Runs.nilp
theorem zf:type_of% @Runs.lss:=@Runs.lss
theorem zg:type_of% @wKD:=@wKD
theorem zh:type_of% @CK.block:=@CK.block
theorem zi:type_of% @wIx:=@wIx
theorem zj:type_of% @Try.sizeOf26:=@Try.sizeOf26
theorem zk:type_of% @CK.condF:=@CK.condF
theorem zl:type_of% @OKS.m:=@OKS.m
theorem zm:type_of% @Try.sizeOf24:=@Try.sizeOf24
theorem zn:type_of% @wKC:=@wKC
theorem zo:type_of% @OKS.e:=@OKS.e
theorem zp:type_of% @Try.runUnderlying24:=@Try.runUnderlying24
theorem zq:type_of% @wOv:=@wOv
theorem zr:type_of% @Try.sizeOf39:=@Try.sizeOf39
theorem zt:type_of% @wIy:=@wIy
theorem zu:type_of% @OKS.buildSlice:=@OKS.buildSlice
theorem zw:type_of% @Runs.to:=@Runs.to
theorem zx:type_of% @CK.condT:=@CK.condT
theorem zy:type_of% @Try.zeroValue39:=@Try.zeroValue39
theorem zz:type_of% @res1:=@res1
theorem ZA:type_of% @OKS.st:=@OKS.st
theorem ZB:type_of% @Try.runUnderlying51:=@Try.runUnderlying51
theorem ZC:type_of% @Try.zeroValue3:=@Try.zeroValue3
theorem ZD:type_of% @Try.runUnderlying39:=@Try.runUnderlying39
theorem ZE:type_of% @Try.runUnderlying61:=@Try.runUnderlying61
theorem ZF:type_of% @Runs.iaA:=@Runs.iaA
theorem ZG:type_of% @Try.isAgg52:=@Try.isAgg52
theorem ZH:type_of% @Runs.len:=@Runs.len
theorem ZI:type_of% @Runs.iaI:=@Runs.iaI
theorem ZJ:type_of% @CK.anyOrd:=@CK.anyOrd
theorem ZK:type_of% @Try.mixed:=@Try.mixed
theorem ZL:type_of% @wGp:=@wGp
theorem ZM:type_of% @CK.skip:=@CK.skip
theorem ZN:type_of% @Runs.notT:=@Runs.notT
theorem ZO:type_of% @Try.isAgg24:=@Try.isAgg24
theorem ZP:type_of% @Runs.ext:=@Runs.ext
theorem ZQ:type_of% @Runs.build:=@Runs.build
theorem ZR:type_of% @OKS.box:=@OKS.box
theorem ZS:type_of% @CK.exit:=@CK.exit
theorem ZT:type_of% @Try.underlying23:=@Try.underlying23
theorem ZU:type_of% @Try.sizeOf33:=@Try.sizeOf33
theorem ZV:type_of% @Try.runUnderlying63:=@Try.runUnderlying63
theorem ZW:type_of% @Try.runUnderlying33:=@Try.runUnderlying33
theorem ZX:type_of% @OKS.append:=@OKS.append
theorem ZY:type_of% @Runs.iaN:=@Runs.iaN
theorem Za:type_of% @OKS.alloc:=@OKS.alloc
theorem Zb:type_of% @OKS.px:=@OKS.px
theorem Zc:type_of% @Try.isAgg26:=@Try.isAgg26
theorem Zd:type_of% @Try.sizeOf61:=@Try.sizeOf61
theorem Ze:type_of% @Runs.neq:=@Runs.neq
theorem Zf:type_of% @wOu:=@wOu
theorem Zg:type_of% @Try.isAgg39:=@Try.isAgg39
theorem Zh:type_of% @Runs.subw:=@Runs.subw
theorem Zi:type_of% @Try.runUnderlying3:=@Try.runUnderlying3
theorem Zj:type_of% @Try.zeroValue26:=@Try.zeroValue26
theorem Zk:type_of% @Try.zeroValue33:=@Try.zeroValue33
theorem Zl:type_of% @Runs.eql:=@Runs.eql
theorem Zm:type_of% @Try.sizeOf4:=@Try.sizeOf4
theorem Zn:type_of% @Try.sizeOf63:=@Try.sizeOf63
theorem Zo:type_of% @Try.call37:=@Try.call37
end Go.Proofs.Ytkeeechdijfkhaa
namespace Go.Proofs.Ytkeeechdijfkhaa
open Go.KL
set_option maxHeartbeats 4000000
theorem wFw (p0:List Int) (ab:Option Addr) (ae:Nat) (w:World) (U:PHeap) (hS:St0 w U []) (am:Sl U 1 ab ae p0.length (hH KL.encB8 p0)) {r:wAE} (hm:wCF p0=some r):Gv Try.prog 5 [.slice ab p0.length ae] w (wCb w [] U (fun U_ L_ v=>∃ (b0:Nat) (A0p0:Option Addr) (c0p0:Nat),v=.pointer (some ⟨b0,0,none⟩)/\L_=[.blk b0 51 [.slice A0p0 r.bytes.length c0p0,jV r.next,.int .u32 r.state]]/\Sl U_ 1 A0p0 c0p0 r.bytes.length (hH KL.encB8 r.bytes))):=by
 unfold wCF at hm
 refine Gv.of Try.func5 Z Try.ntmps5 Try.results5 Z (sR fL1 Z (oA Z Z (eN (sR gAx Z (oM Z Z ?_)))))
 let B0:List Value:=[.slice ab p0.length ae,jV 0,.int .u32 17]
 refine zK rfl rfl rfl rfl (fun _=>ZQ (pv:=[(0,.slice ab p0.length ae),(2,.int .u32 17)]) (z:=[.slice none 0 0,jV 0,.int .u32 0]) (cs:=B0) rfl (wAJ rfl (wAJ rfl wAc)) Try.zeroValue51 wMc rfl rfl) (ZR (cs:=B0) rfl rfl rfl rfl rfl rfl (by rfl) hS ?_)
 intro W1 b2 ak
 refine oA Z Z (eN (zR ?_))
 cases hm
 exact ⟨Z,_,(zz Z),U,_,ak,b2,ab,ae,Z,Z,am⟩
theorem wBa (p0:wAE) (aj:Nat) (ae:Option Addr) (ah:Nat) (p1:Int) (w:World) (U:PHeap) (hS:St0 w U [.blk aj 51 [.slice ae p0.bytes.length ah,jV p0.next,.int .u32 p0.state]]) (am:Sl U 1 ae ah p0.bytes.length (hH KL.encB8 p0.bytes)) {r:Int × wAE} (hm:wAU p0 p1=some r):Gv Try.prog 14 [.pointer (some ⟨aj,0,none⟩),jV p1] w (wCb w [.blk aj 51 [.slice ae p0.bytes.length ah,jV p0.next,.int .u32 p0.state]] U (fun U_ L_ v=>∃ (ba:Option Addr) (be:Nat),v=jV r.1/\L_=[.blk aj 51 [.slice ba r.2.bytes.length be,jV r.2.next,.int .u32 r.2.state]]/\Sl U_ 1 ba be r.2.bytes.length (hH KL.encB8 r.2.bytes))):=by
 unfold wAU at hm
 refine Gv.of Try.func14 Z Try.ntmps14 Try.results14 Z (sR fL1 Z (oA Z Z (eN (zI (sR fL10 Z (oM Z Z (oR Z (Runs.leq Z Z Z) (oM Z Z ?_))))))))
 by_cases c2:p1 <= 1
 have bh:=hm;rw [if_pos c2] at bh;replace c2:=zG c2
 refine oT Z c2 (oT Z c2 (oT Z c2 (oT Z c2 (oT Z c2 (oT Z c2 (oR Z (zd Z (Zf c2.out) Z) (eN (zx Z (sR fL1 Z (oA Z Z (eN (zR (zg ?_)))))))))))))
 cases bh
 exact ⟨Z,_,(zz Z),U,_,hS,ae,ah,Z,Z,am⟩
 have bi:=hm;rw [if_neg c2] at bi;replace c2:=zG c2
 refine zZ Z Z Z (wF Z c2) Z Z (rU Z (wF Z c2) (ze Z Z) (rU Z (wF Z c2) (zF Z Z ZB Z Try.sizeOf22) (zl Z Z Z (wF Z c2) (hS.ldB (j:=0) Z Z Z Try.isAgg22 (v:=.slice ae p0.bytes.length ah) Z) Z (rU Z (wF Z c2) (ZH Z Z Try.runUnderlying22) (rU Z (wF Z c2) (Zl Z Z Z) (oR Z (zX Z (zq c2.out) Z) (eN (ifc bi ?_ ?_))))))))
 intro c5 bJ
 refine cT Z c5 (sR fL1 Z (oA Z Z (eN (zR (zg ?_)))))
 cases bJ
 exact ⟨Z,_,(zz Z),U,_,hS,ae,ah,Z,Z,am⟩
 intro c5 bK
 refine cF Z c5 (kN (zI (ZJ ZK [3,3,3,1,3,3,3,1,3,3,3,1,3,3,3,1,3,3,3,3,1,3,3,3,1,3,3,3,3,3] fL30 (by kernel_rfl) ?_)))
 have ai:=hS.drew
 generalize hw_W9:({ w with drawn:=w.drawn + 1 }:World)=W9 at ai ⊢
 refine oM Z Z (oR Z (ze Z Z) (oR Z (zF Z Z ZB Z Try.sizeOf22) (oL Z (ai.ldB (j:=0) Z Z Z Try.isAgg22 (v:=.slice ae p0.bytes.length ah) Z) (oM Z Z (oR Z (ze Z Z) (oR Z (zF Z Z ZB Z zC) (oL Z (ai.ldB (j:=0) Z Z Z zJ (v:=jV p0.next) Z) (oM Z Z (oR Z (ze Z Z) (oR Z (zF Z Z ZB Z Try.sizeOf22) (oL Z (ai.ldB (j:=0) Z Z Z Try.isAgg22 (v:=.slice ae p0.bytes.length ah) Z) (oR Z (ZH Z Z Try.runUnderlying22) (bnK bK fun bO bm bw=>oR Z (Runs.rem Z Z Z bm) (bnK bw fun bj aZ bz=>?_))))))))))))))
 have q:=am.el (fun _=>rfl) (wBe aZ)
 obtain ⟨bM,bN,bs,bt⟩:=q
 refine oR Z (ZI Z Z bs Z Try.runUnderlying22 Try.sizeOf5 (wEL aZ) (wEp aZ)) (oL Z (ai.ldC (f:=0) bt (v:=.int .u8 bj) Z Z Try.isAgg5 Z) (oR Z (Runs.cvu Z Z Try.runUnderlying5 Try.runUnderlying49 Z Z) (oM Z Z (oR Z (ze Z Z) (oR Z (zF Z Z ZB Z zC) (oL Z (ai.ldB (j:=0) Z Z Z zJ (v:=jV p0.next) Z) (oM Z Z (oR Z (ze Z Z) (oR Z (zF Z Z ZB Z Try.sizeOf22) (oL Z (ai.ldB (j:=0) Z Z Z Try.isAgg22 (v:=.slice ae p0.bytes.length ah) Z) (oR Z (ZH Z Z Try.runUnderlying22) (bnK bz fun x20 bn bA=>oR Z (Runs.quo Z Z Z bn) (oR Z (Runs.cvu Z Z Zi Try.runUnderlying49 Z Z) (oA Z Z (oA Z Z (eN (zI (CK.fresh fun aW av=>?_))))))))))))))))))
 have aq:aW 0=.pointer (some ⟨aj,0,none⟩):=(av 0).trans rfl
 have az:aW 1=jV p1:=(av 1).trans rfl
 have aU:aW 5=.int .u32 (wDR bj):=(av 5).trans rfl
 have bf:aW 6=.int .u32 (wDR x20):=(av 6).trans rfl
 clear av
 refine rR (wHO (.fx 7 .nil .stop)) Z (oM Z aq (oR Z (ze Z Z) (oR Z (zF Z Z ZB Z zC) (oL Z (ai.ldB (j:=0) Z Z Z zJ (v:=jV p0.next) Z) (oR Z (zW Z Z Z) (oR Z (ze Z Z) (oR Z (zF Z Z ZB Z zC) (ZA (j:=0) (vs:=[jV (w64 (p0.next + 1))]) Z Z Z Z ai Z Z Z Z zC (zD Z) Z Z Z ?_))))))))
 intro bk bu
 let B0:Res:=.blk aj 51 [.slice ae p0.bytes.length ah,jV p0.next,.int .u32 p0.state]
 have bg:SW w [B0] U U [.blk aj 51 [.slice ae p0.bytes.length ah,jV (w64 (p0.next + 1)),.int .u32 p0.state]] bk:=bu
 refine eN (sR (wPs (.fx 15 .nil .stop)) Z (oM Z aq (oM Z aq (oR Z (ze Z Z) (oR Z (zF Z Z ZB Z Try.sizeOf49) (oL Z (bg.ldB (j:=0) Z Z Z Try.isAgg49 (v:=.int .u32 p0.state) Z) (oR Z (Runs.mulu Z Z Z) (oM Z aU (oR Z (Runs.addu Z Z Z) (oM Z bf (oR Z (Runs.mulu Z Z Z) (oR Z (Runs.addu Z Z Z) (oR Z (Runs.addu Z Z Z) (bnK bA fun x32 bo bB=>oR Z (Runs.rem Z Z Z bo) (oR Z (ze Z Z) (oR Z (zF Z Z ZB Z Try.sizeOf49) (ZA (j:=0) (vs:=[.int .u32 x32]) Z Z Z Z bg Z Z Z Z Try.sizeOf49 (zD Z) Z Z Z ?_)))))))))))))))))
 intro bl bv
 have au:SW w [B0] U U [.blk aj 51 [.slice ae p0.bytes.length ah,jV (w64 (p0.next + 1)),.int .u32 x32]] bl:=bv
 refine eN (zI (sR fL6 Z (oM Z bf (oR Z (Zl Z Z Z) (oM Z Z (ifc bB ?_ ?_))))))
 intro ak bC
 refine zZ Z Z Z (wT Z ak) Z az (rU Z (wT Z ak) (Runs.leq Z Z Z) (oR Z (zd Z (Zf ak.out) Z) (eN (ifc bC ?_ ?_))))
 intro aX bD
 refine cT Z aX (sR fL5 Z (oM Z aU (oR Z (Runs.cvw Z Z Try.runUnderlying49 Zi Z Z) (oM Z az (bnK bD fun x42 bp bE=>oR Z (Runs.rem Z Z Z bp) (oA Z Z (eN (zR (zg ?_)))))))))
 cases bE
 exact ⟨Z,_,(zz Z),U,_,au,ae,ah,Z,Z,am⟩
 intro aX bF
 refine cF Z aX (kN (sR fL11 Z (oM Z aq (oR Z (ze Z Z) (oR Z (zF Z Z ZB Z Try.sizeOf49) (oL Z (au.ldB (j:=0) Z Z Z Try.isAgg49 (v:=.int .u32 x32) Z) (oR Z (Runs.mulu Z Z Z) (oM Z aU (oR Z (Runs.addu Z Z Z) (oR Z (Runs.cvw Z Z Try.runUnderlying49 Zi Z Z) (oM Z az (bnK bF fun x46 bq bG=>oR Z (Runs.rem Z Z Z bq) (oA Z Z (eN (zR ?_)))))))))))))))
 cases bG
 exact ⟨Z,_,(zz Z),U,_,au,ae,ah,Z,Z,am⟩
 intro ak bH
 refine oF Z ak (oF Z ak (oR Z (zX Z (zq ak.out) Z) (eN (zk Z (kN (sR fL11 Z (oM Z aq (oR Z (ze Z Z) (oR Z (zF Z Z ZB Z Try.sizeOf49) (oL Z (au.ldB (j:=0) Z Z Z Try.isAgg49 (v:=.int .u32 x32) Z) (oR Z (Runs.mulu Z Z Z) (oM Z aU (oR Z (Runs.addu Z Z Z) (oR Z (Runs.cvw Z Z Try.runUnderlying49 Zi Z Z) (oM Z az (bnK bH fun x50 br bI=>oR Z (Runs.rem Z Z Z br) (oA Z Z (eN (zR ?_)))))))))))))))))))
 cases bI
 exact ⟨Z,_,(zz Z),U,_,au,ae,ah,Z,Z,am⟩
theorem wBo (p0:wAE) (ab:Nat) (ae:Option Addr) (ah:Nat) (p1:Int) (p2:Int) (w:World) (U:PHeap) (hS:St0 w U [.blk ab 51 [.slice ae p0.bytes.length ah,jV p0.next,.int .u32 p0.state]]) (ba:Sl U 1 ae ah p0.bytes.length (hH KL.encB8 p0.bytes)) {r:Int × wAE} (hm:wAS p0 p1 p2=some r):Gv Try.prog 12 [.pointer (some ⟨ab,0,none⟩),jV p1,jV p2] w (wCb w [.blk ab 51 [.slice ae p0.bytes.length ah,jV p0.next,.int .u32 p0.state]] U (fun U_ L_ v=>∃ (aq:Option Addr) (az:Nat),v=jV r.1/\L_=[.blk ab 51 [.slice aq r.2.bytes.length az,jV r.2.next,.int .u32 r.2.state]]/\Sl U_ 1 aq az r.2.bytes.length (hH KL.encB8 r.2.bytes))):=by
 unfold wAS at hm
 refine Gv.of Try.func12 Z Try.ntmps12 Try.results12 Z (sR fL1 Z (oA Z Z (eN (sR (wIw (.fx 6 gAe .stop)) Z (oM Z Z (oM Z Z (oM Z Z (oM Z Z (oR Z (Zh Z Z Z) (oR Z (zW Z Z Z) ?_))))))))))
 have q:=bnd hm
 obtain ⟨⟨x2,x3⟩,h4,aU⟩:=q
 try dsimp only at aU
 refine zQ 1 Z Z Z Z (zN Z Z Try.call14 (zE Z (zE Z zS)) Z) hS (fun hs=>wBa p0 ab ae ah (w64 ((w64 (p2 - p1)) + 1)) w U hs ba h4) (.inl Z) ?_
 rintro U6 L7 v8 W9 be aY ⟨am,av,rfl,rfl,aW⟩
 have aZ:SW w [.blk ab 51 [.slice ae p0.bytes.length ah,jV p0.next,.int .u32 p0.state]] U U6 [.blk ab 51 [.slice am x3.bytes.length av,jV x3.next,.int .u32 x3.state]] W9:=aY
 refine oR Z (zW Z Z Z) (oA Z Z (eN (zR ?_)))
 cases aU
 exact ⟨Z,_,(zz Z),U6,_,aZ,am,av,Z,Z,aW⟩
theorem wBM (p0:wAE) (ab:Nat) (ae:Option Addr) (ah:Nat) (p1:Int) (w:World) (U:PHeap) (hS:St0 w U [.blk ab 51 [.slice ae p0.bytes.length ah,jV p0.next,.int .u32 p0.state]]) (aZ:Sl U 1 ae ah p0.bytes.length (hH KL.encB8 p0.bytes)) {r:Bool × wAE} (hm:wAV p0 p1=some r):Gv Try.prog 13 [.pointer (some ⟨ab,0,none⟩),jV p1] w (wCb w [.blk ab 51 [.slice ae p0.bytes.length ah,jV p0.next,.int .u32 p0.state]] U (fun U_ L_ v=>∃ (am:Option Addr) (av:Nat),v=.bool r.1/\L_=[.blk ab 51 [.slice am r.2.bytes.length av,jV r.2.next,.int .u32 r.2.state]]/\Sl U_ 1 am av r.2.bytes.length (hH KL.encB8 r.2.bytes))):=by
 unfold wAV at hm
 refine Gv.of Try.func13 Z Try.ntmps13 Try.results13 Z (sR fL1 Z (oA Z Z (eN (sR gBa Z (oM Z Z (oM Z Z ?_))))))
 have q:=bnd hm
 obtain ⟨⟨x2,x3⟩,h4,az⟩:=q
 try dsimp only at az
 refine zQ 1 Z Z Z Z (zN Z Z Try.call14 (zE Z (zE Z zS)) Z) hS (fun hs=>wBa p0 ab ae ah p1 w U hs aZ h4) (.inl Z) ?_
 rintro U6 L7 v8 W9 bb aX ⟨ak,au,rfl,rfl,aV⟩
 have aY:SW w [.blk ab 51 [.slice ae p0.bytes.length ah,jV p0.next,.int .u32 p0.state]] U U6 [.blk ab 51 [.slice ak x3.bytes.length au,jV x3.next,.int .u32 x3.state]] W9:=aX
 refine oR Z (Zl Z Z Z) (oA Z Z (eN (zR ?_)))
 cases az
 exact ⟨Z,_,(zz Z),U6,_,aY,ak,au,Z,Z,aV⟩
theorem wBj (p0:List wAA) (av:Option Addr) (az:Nat) (p1:wAA) (w:World) (U:PHeap) (hS:St0 w U []) (bs:Sl U 2 av az p0.length (hH wAB p0)) {r:Int} (hm:wAT p0 p1=some r):Gv Try.prog 19 [.slice av p0.length az,.agg #[jV p1.Skier,jV p1.Lane]] w (wCb w [] U (fun U_ L_ v=>v=jV r/\L_=[])):=by
 unfold wAT at hm
 refine Gv.of Try.func19 Z Try.ntmps19 Try.results19 Z (sR gAg Z ?_)
 let B0:List Value:=[jV p1.Skier,jV p1.Lane]
 refine ZR (cs:=B0) rfl rfl rfl rfl rfl rfl (by rfl) hS ?_
 intro W1 b2 bq
 refine oA Z Z (eN (zI (sR fL3 Z (oM Z Z (oR Z (ZH Z Z zp) (oM Z Z (eN (zh ?_))))))))
 have q:=wDV hm
 obtain ⟨r7,am⟩:=q
 have q:=wDU am
 obtain ⟨au,bv⟩:=q
 replace au:=zG au
 refine CK.forN (fun k6 _ σ_ w_=>∃ (U_:PHeap),σ_ 8=jV (↑k6:Int)/\σ_ 0=.slice av p0.length az/\σ_ 3=.pointer (some ⟨b2,0,none⟩)/\σ_ 7=jV (↑p0.length:Int)/\PHeap.Le U U_/\sW w U U_ [.blk b2 39 B0] w_) bv ?_ ?_ ?_
 exact ⟨U,Z,Z,Z,Z,(zY _),bq⟩
 rintro k6 ⟨⟩ bN bO aV aq ⟨aU,ak,aY,aZ,ba,bg,bp⟩ bf bt
 try dsimp only at bf
 have aX:Hid ((↑k6:Int) < (↑p0.length:Int)):=zG (wBx aq)
 replace aq:=zG aq
 have bw:Hid (w64 ((↑k6:Int) + 1)=(↑(k6 + 1):Int)):=zG (by have h1:=au.out;have h2:=aX.out;rw [wAf] <;> omega)
 refine sR fL1 rfl (zK rfl rfl rfl rfl (fun _=>zf rfl ak ba) (eN (zI (cT Z aX (kN (zI (zh (sR fL2 rfl (zZ rfl rfl rfl rfl rfl ak (OKS.ra rfl rfl rfl rfl rfl rfl (eN (zI (ZJ ZK [1,3,3,3,1,3] fL6 (by kernel_rfl) ?_)))))))))))))
 have ae:=bp.drew
 generalize hw_W27:({ aV with drawn:=aV.drawn + 1 }:World)=bF at ae ⊢
 refine oL Z (ae.ldBA (j:=0) Z Z aZ Zg zr (vs:=B0) Z Z) (oM Z aY (oM Z Z (bnK bf fun x28 bb bz=>?_)))
 have bm:=bs.le bg
 have q:=bm.el (fun _=>rfl) (wBe bb)
 obtain ⟨bH,bL,bn,bo⟩:=q
 refine oR Z (ZY Z Z bn Z zp zr (wEM bb)) (oL Z (ae.ldCA (f:=0) bo Z Z Zg zr (us:=[jV x28.Skier,jV x28.Lane]) Z Z) (oR Z (Runs.eqS (enc:=wAB) (a:=p1) (b:=x28) Z Z Z eqT39 eqG39) (eN (ifc bz ?_ ?_))))
 intro aj bA
 refine cT Z aj (sR fL2 Z (oM Z Z (oA Z Z (eN (zR (zt (zg ?_)))))))
 have q:=wCB bA
 obtain ⟨bD,bB,bj⟩:=q
 have q:=wEN hm am (bt bD bj)
 obtain rfl:=q
 refine zg (zt (zg ?_))
 cases bB
 exact ⟨rfl,_,(zz rfl),aU,_,(ae.pick [] _ (by decide) rfl),rfl,rfl⟩
 intro aj bC
 refine cF Z aj (ZM (zi (zH (rR fL2 Z (oR Z (zw (zW Z ak Z) (congrArg (jV) bw.out)) (oM Z Z (zo ?_)))))))
 have q:=nD bC
 obtain rfl:=q
 exact zH ⟨Z,_,Z,⟨aU,Z,aY,aZ,ba,bg,ae⟩⟩
 rintro ⟨⟩ bP bG ⟨bh,bl,bI,bJ,bk,bK,br⟩ bu
 have be:=wEq hm am bu
 try dsimp only at be
 have bi:Hid (¬ ((↑(((↑p0.length:Int):Int) - 0).toNat:Int) < (↑p0.length:Int))):=zG (wBQ)
 refine sR fL1 Z (oR Z (zf Z bl bk) (eN (zI (cF Z bi (ZS (zn (zn (ZL (zH (sR fL1 Z (oA Z Z (eN (zR ?_)))))))))))))
 cases be
 exact ⟨rfl,_,(zz rfl),bh,_,(br.pick [] _ (by decide) rfl),rfl,rfl⟩
theorem wAQ (p0:List wAA) (ah:Option Addr) (ai:Nat) (p1:wAA) (w:World) (U:PHeap) (hS:St0 w U []) (aW:Sl U 2 ah ai p0.length (hH wAB p0)) {r:Bool} (hm:wAG p0 p1=some r):Gv Try.prog 8 [.slice ah p0.length ai,.agg #[jV p1.Skier,jV p1.Lane]] w (wCb w [] U (fun U_ L_ v=>v=.bool r/\L_=[])):=by
 unfold wAG at hm
 refine Gv.of Try.func8 Z Try.ntmps8 Try.results8 Z (sR gAg Z ?_)
 let B0:List Value:=[jV p1.Skier,jV p1.Lane]
 refine ZR (cs:=B0) rfl rfl rfl rfl rfl rfl (by rfl) hS ?_
 intro W1 b2 ak
 refine oA Z Z (eN (sR gBa Z (oM Z Z (oL Z (ak.ldBA (j:=0) Z Z Z Zg zr (vs:=B0) Z Z) (bnK hm fun x5 h6 am=>zQ 0 Z Z Z Z (zN Z Z Try.call19 (zE Z (zE Z zS)) Z) ak (fun hs=>wBj p0 ah ai p1 W1 U hs aW h6) (.inr Z) ?_)))))
 rintro U8 L9 aZ au aY aU ⟨rfl,rfl⟩
 have aV:sW w U U8 [.blk b2 39 B0] au:=aU
 refine oR Z (Runs.geq Z Z Z) (oA Z Z (eN (zR ?_)))
 first | (obtain rfl:=nD am) | cases am
 exact ⟨rfl,_,(zz rfl),U8,_,(aV.pick [] _ (by decide) rfl),rfl,rfl⟩
theorem wED (p0:wAE) (am:Nat) (cU:Option Addr) (cV:Nat) (p1:Int) (w:World) (U:PHeap) (hS:St0 w U [.blk am 51 [.slice cU p0.bytes.length cV,jV p0.next,.int .u32 p0.state]]) (po:Sl U 1 cU cV p0.bytes.length (hH KL.encB8 p0.bytes)) {r:wAC × (List (List Int)) × wAE} (hm:wBK p0 p1=some r):Gv Try.prog 4 [.pointer (some ⟨am,0,none⟩),jV p1] w (wCb w [.blk am 51 [.slice cU p0.bytes.length cV,jV p0.next,.int .u32 p0.state]] U (fun U_ L_ v=>∃ (fN:Option Addr) (gD:Nat) (fO:Option Addr) (gE:Nat) (fP:Option Addr) (gF:Nat) (A1:Option Addr) (c1:Nat) (gT:List Value) (fY:Option Addr) (gS:Nat),v=.tuple #[.agg #[.slice fN r.1.Shots.length gD,.slice fO r.1.Down.length gE,.slice fP r.1.Across.length gF],.slice A1 r.2.1.length c1]/\L_=[.row fN gD 3 1 (hH KL.encI r.1.Shots),.row fO gE 3 1 (hH KL.encI r.1.Down),.row A1 c1 23 1 gT,.blk am 51 [.slice fY r.2.2.bytes.length gS,jV r.2.2.next,.int .u32 r.2.2.state]]/\Sl U_ 2 fP gF r.1.Across.length (hH wAB r.1.Across)/\RlL U_ wMG r.2.1 gT/\Sl U_ 1 fY gS r.2.2.bytes.length (hH KL.encB8 r.2.2.bytes))):=by
 unfold wBK at hm
 refine Gv.of Try.func4 Z Try.ntmps4 Try.results4 Z (sR gAg Z ?_)
 let B0:List Value:=[.slice none 0 0,.slice none 0 0,.slice none 0 0]
 refine Za (cs:=B0) Z Z Z Z Z Zj Z hS ?_
 intro W2 b3 oa
 refine oA Z Z (eN (sR (.fx 0 .nil .stop) Z (Za (cs:=B0) Z Z Z Z Z Zj Z oa ?_)))
 intro W6 b7 o7
 refine eN (sR gAx Z (oM Z Z (oM Z Z ?_)))
 have q:=bnd hm
 obtain ⟨⟨aW,x11⟩,lP,iu⟩:=q
 try dsimp only at iu
 let B1:Res:=.blk am 51 [.slice cU p0.bytes.length cV,jV p0.next,.int .u32 p0.state]
 have mP:SW w [B1] U U [B1,.blk b7 26 B0,.blk b3 26 B0] W6:=o7.pick [2,0,1] _ (by decide) rfl
 refine zQ 1 Z Z Z Z (zN Z Z Try.call12 (zE Z (zE Z (zE Z zS))) Z) mP (fun hs=>wBo p0 am cU cV 1 p1 W6 U hs po lP) (.inl Z) ?_
 rintro eh qZ rL iZ rJ mW ⟨fR,gI,rfl,rfl,lS⟩
 have mY:SW w [B1] U eh [.blk am 51 [.slice fR x11.bytes.length gI,jV x11.next,.int .u32 x11.state],.blk b7 26 B0,.blk b3 26 B0] iZ:=mW
 refine oA Z Z (eN (zI (sR fL2 Z (oM Z Z (oM Z Z (eN (zh ?_)))))))
 have q:=bnd iu
 obtain ⟨⟨qW,qX,qY,aZ⟩,pB,iG⟩:=q
 try dsimp only at iG
 have q:=wBp pB
 obtain ⟨ff,pC⟩:=q
 replace ff:=zG ff
 refine CK.forN' (fun bs (dL,x56,x57,ft) σ_ w_=>∃ (U_:PHeap) (db:Option Addr) (dA:Nat) (dg:Option Addr) (dC:Nat),σ_ 18=jV (↑bs:Int)/\σ_ 0=.pointer (some ⟨am,0,none⟩)/\σ_ 4=.pointer (some ⟨b3,0,none⟩)/\σ_ 6=.pointer (some ⟨b7,0,none⟩)/\σ_ 7=jV aW/\σ_ 17=jV aW/\PHeap.Le eh U_/\SW w [B1] U U_ [.blk am 51 [.slice db dL.length dA,jV x56,.int .u32 x57],.row dg dC 39 2 (hH wAB ft),.blk b7 26 [.slice none 0 0,.slice none 0 0,.slice dg ft.length dC],.blk b3 26 B0] w_/\Sl U_ 1 db dA dL.length (hH KL.encB8 dL)) pC ?_ ?_ ?_
 have oO:=mY.nilrow 39 2
 exact ⟨eh,fR,gI,none,0,rfl,rfl,rfl,rfl,rfl,rfl,(zY _),(oO.pick [1,0,2,3] _ (by decide) rfl),lS⟩
 rintro bs ⟨dL,x56,x57,ft⟩ sd sv ry fb ⟨gj,db,dA,dg,dC,eM,lg,ls,ly,ib,ic,qJ,pb,mE⟩ iL
 try dsimp only at iL
 have gO:Hid ((↑bs:Int) < aW):=zG (wBx fb)
 replace fb:=zG fb
 have pY:Hid (w64 ((↑bs:Int) + 1)=(↑(bs + 1):Int)):=zG (by have h1:=ff.out;have h2:=gO.out;rw [wAf] <;> omega)
 refine sR fL1 Z (oR Z (zf Z eM ic) (eN (zI (cT Z gO (kN (zI (zh (sR fL2 Z (oM Z eM (oA Z Z (eN (sR fL2 Z (oM Z ib (oM Z Z (eN (zh ?_))))))))))))))))
 have q:=bnd iL
 obtain ⟨⟨se,sf,sg,sj⟩,pp,it⟩:=q
 try dsimp only at it
 have q:=wBp pp
 obtain ⟨fc,pq⟩:=q
 replace fc:=zG fc
 refine CK.forN' (fun bE (cO,fB,fC,b9) σ_ w_=>∃ (U_:PHeap) (cx:Option Addr) (cC:Nat) (bQ:Option Addr) (bS:Nat),σ_ 22=jV (↑bE:Int)/\σ_ 0=.pointer (some ⟨am,0,none⟩)/\σ_ 4=.pointer (some ⟨b3,0,none⟩)/\σ_ 6=.pointer (some ⟨b7,0,none⟩)/\σ_ 7=jV aW/\σ_ 8=jV (↑bs:Int)/\σ_ 17=jV aW/\σ_ 18=jV (↑bs:Int)/\σ_ 21=jV aW/\PHeap.Le gj U_/\SW w [B1] U U_ [.blk am 51 [.slice cx cO.length cC,jV fB,.int .u32 fC],.row bQ bS 39 2 (hH wAB b9),.blk b7 26 [.slice none 0 0,.slice none 0 0,.slice bQ b9.length bS],.blk b3 26 B0] w_/\Sl U_ 1 cx cC cO.length (hH KL.encB8 cO)) pq ?_ ?_ ?_
 exact ⟨gj,db,dA,dg,dC,Z,lg,ls,ly,ib,Z,ic,eM,Z,(zY _),pb,mE⟩
 rintro bE ⟨cO,fB,fC,b9⟩ r9 sk iX eZ ⟨gg,cx,cC,bQ,bS,cI,dE,eG,cG,eH,cH,eI,eJ,dF,fu,il,ig⟩ fh
 try dsimp only at fh
 have gH:Hid ((↑bE:Int) < aW):=zG (wBx eZ)
 replace eZ:=zG eZ
 have eY:Hid (w64 ((↑bE:Int) + 1)=(↑(bE + 1):Int)):=zG (by have h1:=fc.out;have h2:=gH.out;rw [wAf] <;> omega)
 refine sR fL1 Z (oR Z (zf Z cI dF) (eN (zI (cT Z gH (kN (zI (zh (sR fL2 Z (oM Z cI (oA Z Z (eN (sR (wGS gAh) Z (oM Z cH (oM Z Z (oR Z (Ze Z Z Z) (oM Z Z ?_))))))))))))))))
 by_cases bu:(↑bs:Int)=(↑bE:Int)
 have iv:=fh;rw [if_pos bu] at iv;replace bu:=zG bu
 refine zU Z Z Z (zM Z Z (zq (fun h=>h bu.out)) Z) (Zb Z Z Z (zM Z Z (zq (fun h=>h bu.out)) Z) (oR Z (zX Z (zq (fun h=>h bu.out)) Z) (eN (zk Z (ZM (zi (zH (rR fL2 Z (oR Z (zw (zW Z cI Z) (congrArg (jV) eY.out)) (oM Z Z (zo ?_)))))))))))
 cases iv
 exact zH ⟨Z,⟨gg,cx,cC,bQ,bS,Z,dE,eG,cG,eH,cH,eI,eJ,dF,fu,il,ig⟩⟩
 have iw:=fh;rw [if_neg bu] at iw;replace bu:=zG bu
 refine zZ Z Z Z (wT Z bu) Z dE ?_
 have q:=bnd iw
 obtain ⟨⟨rW,fD⟩,lQ,iy⟩:=q
 try dsimp only at iy
 refine zQ 1 Z Z Z (wT Z bu) (zN Z Z Try.call13 (zE Z (zE Z zS)) Z) il (fun hs=>wBM (⟨cO,fB,fC⟩:wAE) am cx cC 4 iX gg hs ig lQ) (.inl Z) ?_
 rintro cq rc rM iY iM mQ ⟨dR,eu,rfl,rfl,ii⟩
 let B2:Res:=.blk am 51 [.slice dR fD.bytes.length eu,jV fD.next,.int .u32 fD.state]
 let B3:Res:=.blk b7 26 [.slice none 0 0,.slice none 0 0,.slice bQ b9.length bS]
 let B4:Res:=.row bQ bS 39 2 (hH wAB b9)
 have eQ:SW w [B1] U cq [B2,B4,B3,.blk b3 26 B0] iY:=mQ
 refine oR Z (zd Z (Zf bu.out) Z) (eN (ifc iy ?_ ?_))
 intro ey pZ
 refine zx (congrArg nA ey.out) (rR (wGS (.fx 5 (.fx 6 (.fl 7 (.fx 8 .nil .stop)) .stop) .stop)) Z (oR Z (zF Z cG zB Z zm) (oL Z (eQ.ldB (j:=2) Z Z Z ZO (v:=.slice bQ b9.length bS) Z) (oM Z cH (oM Z Z ?_)))))
 let B5:List Value:=[jV (↑bs:Int),jV (↑bE:Int)]
 refine oR Z (ZQ (pv:=[(0,jV (↑bs:Int)),(1,jV (↑bE:Int))]) (z:=[jV 0,jV 0]) (cs:=B5) Z (wAJ Z (wAJ Z wAc)) zy wCR Z Z) (zu (pv:=[(0,.agg B5.toArray)]) (zs:=[jV 0,jV 0]) (cs:=B5) Z Z Z Z Z (wAJ Z wAc) zp zr zy Z Z Z Z Z eQ ?_)
 intro i0 jo mR
 let B6:Res:=.row (some ⟨jo,0,none⟩) 1 39 2 (hH wAB [(⟨(↑bs:Int),(↑bE:Int)⟩:wAA)])
 have im:SW w [B1] U cq [B6,B2,B4,B3,.blk b3 26 B0] i0:=mR
 refine bnK pZ fun dP lR p6=>ZX (j:=2) (enc:=wAB) (xs:=b9) (ys:=[(⟨(↑bs:Int),(↑bE:Int)⟩:wAA)]) (zs:=dP) rfl rfl rfl rfl rfl Try.underlying24 wHp rfl rfl rfl rfl rfl rfl im rfl rfl rfl (im.srcR (j:=0) rfl (by decide) (wAF (f:=wAB) (sz:=2) (fun _=>rfl) [(⟨(↑bs:Int),(↑bE:Int)⟩:wAA)])) (fun _=>rfl) (fun _=>rfl) lR rfl ?_
 intro cY dw i3 mS
 let B7:Res:=.row cY dw 39 2 (hH wAB dP)
 have mT:SW w [B1] U cq [B6,B2,B7,B3,.blk b3 26 B0] i3:=mS
 refine oR Z (zF Z cG zB Z zm) (ZA (j:=3) (vs:=[.slice cY dP.length dw]) Z Z Z Z mT Z Z Z Z zm (zD Z) Z Z Z ?_)
 intro i4 mU
 have mV:SW w [B1] U cq [B6,B2,B7,.blk b7 26 [.slice none 0 0,.slice none 0 0,.slice cY dP.length dw],.blk b3 26 B0] i4:=mU
 refine zo (zi (zH (rR fL2 Z (oR Z (zw (zW Z cI Z) (congrArg (jV) eY.out)) (oM Z Z (zo ?_))))))
 cases p6
 exact zH ⟨rfl,⟨cq,dR,eu,cY,dw,rfl,dE,eG,cG,eH,cH,eI,eJ,dF,(fu.trans iM),(mV.pick [1,2,3,4] _ (by decide) rfl),ii⟩⟩
 intro ey p7
 refine zk (congrArg nA (nB.2 ey.out)) (ZM (zi (zH (rR fL2 Z (oR Z (zw (zW Z cI Z) (congrArg (jV) eY.out)) (oM Z Z (zo ?_)))))))
 cases p7
 exact zH ⟨Z,⟨cq,dR,eu,bQ,bS,Z,dE,eG,cG,eH,cH,eI,eJ,dF,(fu.trans iM),eQ,ii⟩⟩
 rintro sn ru ⟨iU,iR,jr,iT,jt,lL,jy,jz,jA,jB,rD,jC,jD,jE,qH,mX,lT⟩
 have ju:Hid (¬ ((↑((aW:Int) - 0).toNat:Int) < aW)):=zG (wBQ)
 refine sR fL1 Z (oR Z (zf Z lL jE) (eN (zI (cF Z ju (ZS (zn (zn (ZL (zi (zH (rR fL2 Z (oR Z (zw (zW Z jD Z) (congrArg (jV) pY.out)) (oM Z Z (zo ?_))))))))))))))
 cases it
 exact zH ⟨Z,⟨iU,iR,jr,iT,jt,Z,jy,jz,jA,jB,jC,(qJ.trans qH),mX,lT⟩⟩
 rintro sq rx ⟨gh,fS,gJ,ba,bb,lM,jG,jH,gW,eK,jJ,rK,mZ,lU⟩
 have jv:Hid (¬ ((↑((aW:Int) - 0).toNat:Int) < aW)):=zG (wBQ)
 refine sR fL1 Z (oR Z (zf Z lM jJ) (eN (zI (cF Z jv (ZS (zn (zn (ZL (zH (sR (.fl 0 (.fx 1 (.fl 2 (.fx 3 .nil .stop)) .stop)) Z (oM Z eK (bnK iG fun ak lV p8=>OKS.makeSlice (enc:=KL.encI) (z:=(0:Int)) (v:=jV 0) Z Z Z Z Z (wDW zA) wEz Z Z Z Z Z Z lV mZ ?_))))))))))))
 intro i5 au m0
 let B8:Res:=.row (some ⟨au,0,none⟩) ak.length 3 1 (hH KL.encI ak)
 let B9:Res:=.blk am 51 [.slice fS qW.length gJ,jV qX,.int .u32 qY]
 let fZ:Res:=.row ba bb 39 2 (hH wAB aZ)
 have m4:SW w [B1] U gh [B8,B9,fZ,.blk b7 26 [.slice none 0 0,.slice none 0 0,.slice ba aZ.length bb],.blk b3 26 B0] i5:=m0
 refine oR Z (zF Z gW zB Z zO) (ZA (j:=3) (vs:=[.slice (some ⟨au,0,none⟩) ak.length ak.length]) Z Z Z Z m4 Z Z Z Z zO (zD Z) Z Z Z ?_)
 intro gp m5
 let ga:Res:=.blk b7 26 [.slice none 0 0,.slice (some ⟨au,0,none⟩) ak.length ak.length,.slice ba aZ.length bb]
 have m6:SW w [B1] U gh [B8,B9,fZ,ga,.blk b3 26 B0] gp:=m5
 refine eN (sR fL1 Z (oA Z Z (eN (zI (sR fL2 Z (oM Z eK (oM Z Z (eN (zh ?_)))))))))
 have q:=m6.freezeR (k:=2) (n:=aZ.length) rfl (wAF (f:=wAB) (sz:=2) (fun _=>rfl) aZ) (by decide)
 obtain ⟨ei,qI,fg,m7⟩:=q
 have m8:SW w [B1] U ei [B8,B9,ga,.blk b3 26 B0] gp:=m7
 have q:=bnd p8
 obtain ⟨⟨qP,qQ,qR,iO,iP,qS⟩,pt,iz⟩:=q
 try dsimp only at iz
 have q:=wBp pt
 obtain ⟨fd,pu⟩:=q
 replace fd:=zG fd
 refine CK.forN' (fun aa (cP,fE,fG,cd,cf,bV) σ_ w_=>∃ (U_:PHeap) (cZ:Option Addr) (dx:Nat) (ci:Option Addr) (cu:Nat) (bR:Option Addr) (bT:Nat) (dD:List Value),σ_ 46=jV (↑aa:Int)/\σ_ 0=.pointer (some ⟨am,0,none⟩)/\σ_ 4=.pointer (some ⟨b3,0,none⟩)/\σ_ 6=.pointer (some ⟨b7,0,none⟩)/\σ_ 7=jV aW/\σ_ 10=.slice bR bV.length bT/\σ_ 45=jV aW/\PHeap.Le ei U_/\SW w [B1] U U_ [.blk am 51 [.slice cZ cP.length dx,jV fE,.int .u32 fG],.row ci cu 3 1 (hH KL.encI cd),.row (some ⟨au,0,none⟩) ak.length 3 1 (hH KL.encI cf),.blk b7 26 [.slice ci cd.length cu,.slice (some ⟨au,0,none⟩) cf.length ak.length,.slice ba aZ.length bb],.blk b3 26 B0,.row bR bT 23 1 dD] w_/\Sl U_ 1 cZ dx cP.length (hH KL.encB8 cP)/\cf.length=ak.length/\RlL U_ wMG bV dD) pu ?_ ?_ ?_
 have m9:=m8.nilrow 3 1
 have n6:=m9.nilrow 23 1
 have lW:=lU.le qI
 exact ⟨ei,fS,gJ,none,0,none,0,[],rfl,jG,jH,gW,eK,rfl,rfl,(zY _),(n6.pick [3,1,2,4,5,0] _ (by decide) rfl),lW,rfl,RlL.nil⟩
 rintro aa ⟨cP,fE,fG,cd,cf,bV⟩ sb ss gu e8 ⟨iV,cZ,dx,ci,cu,bR,bT,dD,eL,gX,jK,dG,gZ,jL,g7,fw,n9,lX,lY,lZ⟩ iJ
 try dsimp only at iJ
 have gK:Hid ((↑aa:Int) < aW):=zG (wBx e8)
 replace e8:=zG e8
 have pW:Hid (w64 ((↑aa:Int) + 1)=(↑(aa + 1):Int)):=zG (by have h1:=fd.out;have h2:=gK.out;rw [wAf] <;> omega)
 refine sR fL1 rfl (zK rfl rfl rfl rfl (fun _=>zf rfl eL g7) (eN (zI (cT Z gK (kN (zI (zh (sR fL2 rfl (zZ rfl rfl rfl rfl rfl eL (OKS.ra rfl rfl rfl rfl rfl rfl (eN (zI (ZJ ZK [3,1004,3,1005,2,0,3,0,am] (wGJ (.fx 3 (.fx 4 (.fx 5 (.fl 6 (.fx 7 .nil .stop)) .stop) .stop) .stop)) (by kernel_rfl) ?_)))))))))))))
 have eR:=n9.drew
 generalize hw_W434:({ gu with drawn:=gu.drawn + 1 }:World)=i6 at eR ⊢
 refine oR Z (zF Z dG zB Z zO) ?_
 let av:Res:=.row bR bT 23 1 dD
 let dh:Res:=.blk b7 26 [.slice ci cd.length cu,.slice (some ⟨au,0,none⟩) cf.length ak.length,.slice ba aZ.length bb]
 let cj:Res:=.row (some ⟨au,0,none⟩) ak.length 3 1 (hH KL.encI cf)
 let dV:Res:=.row ci cu 3 1 (hH KL.encI cd)
 refine OKS.mt (T:=[am]) [0] [1,2,3,4,5] [dV,cj,dh,.blk b3 26 B0,av] rfl rfl rfl rfl eR rfl ⟨⟨0,by decide,_,rfl,rfl⟩,trivial⟩ (by decide) rfl (by decide) (fun _ pn=>(pn.ldB (j:=2) rfl rfl rfl zV (v:=.slice ci cd.length cu) rfl)) rfl (zZ rfl rfl rfl rfl rfl gX ?_)
 have q:=bnd iJ
 obtain ⟨⟨cW,fH⟩,l3,iA⟩:=q
 try dsimp only at iA
 refine OKS.callHT 1 rfl rfl rfl rfl (zN rfl rfl Try.call12 (zE rfl (zE rfl (zE rfl zS))) rfl) eR (fun hs=>wBo (⟨cP,fE,fG⟩:wAE) am cZ dx 3 6 i6 iV hs lX l3) rfl (T:=[am]) rfl ⟨fun b h=>(by cases h;exact .head _),trivial⟩ ?_
 rintro bW re rN i7 dM oc ⟨fT,gL,rfl,rfl,l4⟩
 let cA:Res:=.blk am 51 [.slice fT fH.bytes.length gL,jV fH.next,.int .u32 fH.state]
 have od:SW w [B1] U bW [cA,dV,cj,dh,.blk b3 26 B0,av] i7:=oc
 refine zu (pv:=[(0,jV cW)]) (zs:=[jV 0]) (cs:=[jV cW]) Z Z Z Z Z (wAJ Z wAc) zA zC ZC Z Z Z Z Z od ?_
 intro i8 jp oe
 let dk:Res:=.row (some ⟨jp,0,none⟩) 1 3 1 (hH KL.encI [cW])
 have io:SW w [B1] U bW [dk,cA,dV,cj,dh,.blk b3 26 B0,av] i8:=oe
 refine bnK iA fun aY l5 p9=>ZX (j:=2) (enc:=KL.encI) (xs:=cd) (ys:=[cW]) (zs:=aY) rfl rfl rfl rfl rfl ZT wEz rfl rfl rfl rfl rfl rfl io rfl rfl rfl (io.srcR (j:=0) rfl (by decide) (wAF (f:=KL.encI) (sz:=1) (fun _=>rfl) [cW])) (fun _=>rfl) (fun _=>rfl) l5 rfl ?_
 intro bo bp i9 og
 let az:Res:=.row bo bp 3 1 (hH KL.encI aY)
 have oh:SW w [B1] U bW [dk,cA,az,cj,dh,.blk b3 26 B0,av] i9:=og
 refine oR Z (zF Z dG zB Z zO) (ZA (j:=4) (vs:=[.slice bo aY.length bp]) Z Z Z Z oh Z Z Z Z zO (zD Z) Z Z Z ?_)
 intro ja oi
 let gb:Res:=.blk b7 26 [.slice bo aY.length bp,.slice (some ⟨au,0,none⟩) cf.length ak.length,.slice ba aZ.length bb]
 have oj:SW w [B1] U bW [dk,cA,az,cj,gb,.blk b3 26 B0,av] ja:=oi
 refine eN (sR gAo Z (oM Z gZ (bnK p9 fun aV l6 qa=>OKS.makeSlice (enc:=KL.encI) (z:=(0:Int)) (v:=jV 0) Z Z Z Z Z (wDW zA) wEz Z Z Z Z Z Z l6 oj ?_)))
 intro jb aX ol
 have dJ:SW w [B1] U bW [.row (some ⟨aX,0,none⟩) aV.length 3 1 (hH KL.encI aV),dk,cA,az,cj,gb,.blk b3 26 B0,av] jb:=ol
 refine oA Z Z (eN (zI (sR fL6 Z (oR Z (zF Z dG zB Z zO) (oL Z (dJ.ldB (j:=5) Z Z Z zV (v:=.slice bo aY.length bp) Z) (oM Z Z (bnK qa fun _ eO qb=>?_)))))))
 obtain ⟨rC,ik⟩:=dJ.rowSome (j:=3) rfl (by rw [wAF (f:=KL.encI) (sz:=1) (fun _=>rfl) aY];have hz:=wAI eO;omega)
 refine oR Z (ZY Z Z ik Z zA zC (wAI eO)) ?_
 have pD:=wBf (xs:=aY) (wAI eO)
 refine zl rfl rfl rfl rfl (dJ.ldR (j:=3) rfl ik rfl rfl zJ (wAl (sz:=1) (fun _=>rfl) _ _ 0 _ pD (by first | omega | rfl | simp) rfl)) rfl (zZ rfl rfl rfl rfl rfl rfl (eN (zh ?_)))
 have q:=bnd qb
 obtain ⟨⟨qT,qU,qV,iQ,cg⟩,py,iB⟩:=q
 try dsimp only at iB
 have q:=wBp py
 obtain ⟨fe,pz⟩:=q
 replace fe:=zG fe
 refine CK.forN' (fun bU (cQ,fJ,fK,ab,ai) σ_ w_=>∃ (U_:PHeap) (da:Option Addr) (dy:Nat),σ_ 63=jV (↑bU:Int)/\σ_ 0=.pointer (some ⟨am,0,none⟩)/\σ_ 4=.pointer (some ⟨b3,0,none⟩)/\σ_ 6=.pointer (some ⟨b7,0,none⟩)/\σ_ 7=jV aW/\σ_ 10=.slice bR bV.length bT/\σ_ 11=jV (↑aa:Int)/\σ_ 12=.slice (some ⟨aX,0,none⟩) ai.length aV.length/\σ_ 45=jV aW/\σ_ 46=jV (↑aa:Int)/\σ_ 62=jV (gd aY aa)/\PHeap.Le bW U_/\SW w [B1] U U_ [.blk am 51 [.slice da cQ.length dy,jV fJ,.int .u32 fK],az,.row (some ⟨au,0,none⟩) ak.length 3 1 (hH KL.encI ab),.blk b7 26 [.slice bo aY.length bp,.slice (some ⟨au,0,none⟩) ab.length ak.length,.slice ba aZ.length bb],.blk b3 26 B0,av,.row (some ⟨aX,0,none⟩) aV.length 3 1 (hH KL.encI ai)] w_/\Sl U_ 1 da dy cQ.length (hH KL.encB8 cQ)/\ab.length=ak.length/\ai.length=aV.length) pz ?_ ?_ ?_
 exact ⟨bW,fT,gL,rfl,gX,jK,dG,gZ,jL,rfl,rfl,g7,eL,rfl,(zY _),(dJ.pick [2,3,4,5,6,7,0] _ (by decide) rfl),l4,lY,rfl⟩
 rintro bU ⟨cQ,fJ,fK,ab,ai⟩ sc su jc e9 ⟨gi,da,dy,bD,bm,bI,bg,bB,bJ,bl,bn,bK,bL,bC,fy,om,l7,bM,bN⟩ iK
 try dsimp only at iK
 have gM:Hid ((↑bU:Int) < (gd aY aa)):=zG (wBx e9)
 replace e9:=zG e9
 have pX:Hid (w64 ((↑bU:Int) + 1)=(↑(bU + 1):Int)):=zG (by have h1:=fe.out;have h2:=gM.out;rw [wAf] <;> omega)
 refine sR fL1 Z (oR Z (zf Z bD bC) (eN (zI (cT Z gM (kN ?_)))))
 have q:=bnd iK
 obtain ⟨⟨fj,qM,qN,fm,fq⟩,qG,iC⟩:=q
 try dsimp only at iC
 refine CK.cut (fun σ_ w_=>∃ (U_:PHeap) (de:Option Addr) (dz:Nat),σ_ 0=.pointer (some ⟨am,0,none⟩)/\σ_ 4=.pointer (some ⟨b3,0,none⟩)/\σ_ 6=.pointer (some ⟨b7,0,none⟩)/\σ_ 7=jV aW/\σ_ 10=.slice bR bV.length bT/\σ_ 11=jV (↑aa:Int)/\σ_ 12=.slice (some ⟨aX,0,none⟩) fq.length aV.length/\σ_ 45=jV aW/\σ_ 46=jV (↑aa:Int)/\σ_ 62=jV (gd aY aa)/\σ_ 63=jV (↑bU:Int)/\PHeap.Le gi U_/\SW w [B1] U U_ [.blk am 51 [.slice de fj.length dz,jV qM,.int .u32 qN],az,.row (some ⟨au,0,none⟩) ak.length 3 1 (hH KL.encI fm),.blk b7 26 [.slice bo aY.length bp,.slice (some ⟨au,0,none⟩) fm.length ak.length,.slice ba aZ.length bb],.blk b3 26 B0,av,.row (some ⟨aX,0,none⟩) aV.length 3 1 (hH KL.encI fq)] w_/\Sl U_ 1 de dz fj.length (hH KL.encB8 fj)/\fm.length=ak.length/\fq.length=aV.length) ?_ ?_
 refine zh (sR fL2 Z (oM Z bl (oA Z Z (eN (zI (sR gAj Z (oM Z bm ?_)))))))
 have q:=bnd qG
 obtain ⟨⟨rX,cX⟩,l8,iD⟩:=q
 try dsimp only at iD
 refine zQ 1 Z Z Z Z (zN Z Z Try.call13 (zE Z (zE Z zS)) Z) om (fun hs=>wBM (⟨cQ,fJ,fK⟩:wAE) am da dy 4 jc gi hs l7 l8) (.inl Z) ?_
 rintro dv ri rO en bw oq ⟨df,dB,rfl,rfl,eP⟩
 let be:Res:=.blk b7 26 [.slice bo aY.length bp,.slice (some ⟨au,0,none⟩) ab.length ak.length,.slice ba aZ.length bb]
 let bF:Res:=.row (some ⟨au,0,none⟩) ak.length 3 1 (hH KL.encI ab)
 let cn:Res:=.row (some ⟨aX,0,none⟩) aV.length 3 1 (hH KL.encI ai)
 have cL:SW w [B1] U dv [.blk am 51 [.slice df cX.bytes.length dB,jV cX.next,.int .u32 cX.state],az,bF,be,.blk b3 26 B0,av,cn] en:=oq
 refine eN (ifc iD ?_ ?_)
 intro ez qc
 refine zx (congrArg nA ez.out) (rR gAx Z (oM Z bm (oM Z bB ?_)))
 have q:=bnd qc
 obtain ⟨⟨aq,dQ⟩,l9,iE⟩:=q
 try dsimp only at iE
 refine zQ 1 Z Z Z Z (zN Z Z Try.call14 (zE Z (zE Z zS)) Z) cL (fun hs=>wBa cX am df dB aW en dv hs eP l9) (.inl Z) ?_
 rintro ej rj rP gv cw ot ⟨dS,eA,rfl,rfl,ij⟩
 have dK:SW w [B1] U ej [.blk am 51 [.slice dS dQ.bytes.length eA,jV dQ.next,.int .u32 dQ.state],az,bF,be,.blk b3 26 B0,av,cn] gv:=ot
 refine oA Z Z (eN (sR (wMm (.fx 8 (wNQ gAp) .stop)) Z (oR Z (zF Z bg zB Z zO) (oL Z (dK.ldB (j:=3) Z Z Z zV (v:=.slice (some ⟨au,0,none⟩) ab.length ak.length) Z) (oM Z Z (bnK iE fun _ bf qd=>oR Z (ZI Z Z Z Z zA zC (wAr bf) (wAs bf)) ?_))))))
 have pE:=wBf (xs:=ab) (wAI bf)
 refine zl rfl rfl rfl rfl (dK.ldR (j:=2) rfl rfl rfl rfl zJ (wAl (sz:=1) (fun _=>rfl) _ _ 0 _ pE (by first | omega | rfl | simp) rfl)) rfl (zK rfl rfl rfl rfl (fun _=>zf rfl rfl rfl) (zZ rfl rfl rfl rfl rfl rfl (ifc qd ?_ ?_)))
 intro bO qe
 refine zZ Z Z Z (wT Z bO) Z bm ?_
 have q:=bnd qe
 obtain ⟨⟨rY,fL⟩,ma,iF⟩:=q
 try dsimp only at iF
 refine zQ 1 Z Z Z (wT Z bO) (zN Z Z Try.call13 (zE Z (zE Z zS)) Z) dK (fun hs=>wBM dQ am dS eA 4 gv ej hs ij ma) (.inl Z) ?_
 rintro bX rk rQ gw cR ou ⟨cy,cD,rfl,rfl,dH⟩
 let bG:Res:=.blk am 51 [.slice cy fL.bytes.length cD,jV fL.next,.int .u32 fL.state]
 have cM:SW w [B1] U bX [bG,az,bF,be,.blk b3 26 B0,av,cn] gw:=ou
 refine rU Z (wT Z bO) (ZN Z Z) (oR Z (zd Z (Zf bO.out) Z) (oM Z Z (ifc iF ?_ ?_)))
 intro bh qf
 refine zU Z Z Z (zM Z Z (nC bh.out) Z) (zU Z Z Z (zM Z Z (nC bh.out) Z) (zU Z Z Z (zM Z Z (nC bh.out) Z) (zU Z Z Z (zM Z Z (nC bh.out) Z) (zU Z Z Z (wAb Z Z Z) (zU Z Z Z (wAb Z Z Z) (zU Z Z Z (wAb Z Z Z) (zU Z Z Z (wAb Z Z Z) (zU Z Z Z (wAb Z Z Z) (Zb Z Z Z (wAb Z Z Z) (zU Z Z Z (zM Z Z (nC bh.out) Z) (oR Z (zX Z (nC bh.out) Z) (eN (zk Z (ZM (zi ?_)))))))))))))))
 cases qf
 exact zH ⟨Z,⟨bX,cy,cD,bm,bI,bg,bB,bJ,bl,bn,bK,bL,bC,bD,((bw.trans cw).trans cR),cM,dH,bM,bN⟩⟩
 intro bh qg
 refine zZ Z Z Z (zP Z Z (nF (bh.out))) Z Z (zZ Z Z Z (zP Z Z (nF (bh.out))) Z bl (zK Z Z Z (zP Z Z (nF (bh.out))) (fun _=>Zl Z Z Z) (zZ Z Z Z (zP Z Z (nF (bh.out))) Z Z (ifc qg ?_ ?_))))
 intro bi qh
 refine oT Z bi (oT Z bi (oT Z bi (oT Z bi (oT Z bi (Zb Z Z Z (zM Z Z (Zf bi.out) Z) (zK Z Z Z (zP Z Z (nF (bh.out))) (fun _=>zd Z (Zf bi.out) Z) (oR Z (zd Z (nF (bh.out)) Z) (eN (zx Z (sR (wIw (.fx 6 .nil .stop)) Z (oM Z bn (oM Z Z (bnK qh fun _ bZ qi=>oR Z (ZI Z Z Z Z zA zC (wAr bZ) (wAs bZ)) ?_)))))))))))))
 have pF:=wBf (xs:=ai) (wAI bZ)
 refine zl rfl rfl rfl rfl (cM.ldR (j:=6) rfl rfl rfl rfl zJ (wAl (sz:=1) (fun _=>rfl) _ _ 0 _ pF (by first | omega | rfl | simp) rfl)) rfl (zK rfl rfl rfl rfl (fun _=>zW rfl rfl rfl) (zK rfl rfl rfl rfl (fun _=>ZI rfl rfl rfl rfl zA zC (wAr bZ) (wAs bZ)) ?_))
 have pG:=wBf (xs:=ai) (wAI bZ)
 refine OKS.stR (j:=6) (vs:=[jV (w64 ((gd ai aq.toNat) + 1))]) (cs':=hH KL.encI (nJ ai aq.toNat (w64 ((gd ai aq.toNat) + 1)))) rfl rfl rfl rfl cM rfl rfl rfl rfl rfl zC (by rw [wAF (f:=KL.encI) (sz:=1) (fun _=>rfl)];have hz:=wAI bZ;show _ + 1 <= _;first | omega | (simp only [nI];omega) | (simp only [nH,nE,nG];omega)) rfl (wCV (sz:=1) (fo:=0) (fun _=>rfl) _ _ _ _ pG (by first | omega | (simp only [nI];omega) | (simp only [nH,nE,nG];omega)) (zD rfl) rfl) rfl ?_
 intro jd ow
 let dp:Res:=.row (some ⟨aX,0,none⟩) aV.length 3 1 (hH KL.encI (nJ ai aq.toNat (w64 ((gd ai aq.toNat) + 1))))
 have eS:SW w [B1] U bX [bG,az,bF,be,.blk b3 26 B0,av,dp] jd:=ow
 refine eN (CK.fresh fun bz bq=>?_)
 have jM:bz 0=.pointer (some ⟨am,0,none⟩):=(bq 0).trans bm
 have jN:bz 4=.pointer (some ⟨b3,0,none⟩):=(bq 4).trans bI
 have g8:bz 6=.pointer (some ⟨b7,0,none⟩):=(bq 6).trans bg
 have jO:bz 7=jV aW:=(bq 7).trans bB
 have jP:bz 10=.slice bR bV.length bT:=(bq 10).trans bJ
 have jQ:bz 11=jV (↑aa:Int):=(bq 11).trans bl
 have jR:bz 12=.slice (some ⟨aX,0,none⟩) ((nJ ai aq.toNat (w64 ((gd ai aq.toNat) + 1))).length) aV.length:=(bq 12).trans (nS (b:=(.slice (some ⟨aX,0,none⟩) ai.length aV.length:Value)) (c:=(.slice (some ⟨aX,0,none⟩) ((nJ ai aq.toNat (w64 ((gd ai aq.toNat) + 1))).length) aV.length:Value)) bn (by simp only [nK]))
 have jS:bz 13=jV aq:=(bq 13).trans rfl
 have jU:bz 45=jV aW:=(bq 45).trans bK
 have jW:bz 46=jV (↑aa:Int):=(bq 46).trans bL
 have jX:bz 62=jV (gd aY aa):=(bq 62).trans bC
 have jY:bz 63=jV (↑bU:Int):=(bq 63).trans bD
 clear bq
 refine rR (wHO (.fx 7 .nil .stop)) Z (oR Z (zF Z g8 zB Z zO) (oL Z (eS.ldB (j:=3) Z Z Z zV (v:=.slice (some ⟨au,0,none⟩) ab.length ak.length) Z) (oM Z jS (oR Z (ZI Z Z Z Z zA zC (wAr bf) (wAs bf)) ?_))))
 have pH:=wBf (xs:=ab) (wAI bf)
 refine zl rfl rfl rfl rfl (eS.ldR (j:=2) rfl rfl rfl rfl zJ (wAl (sz:=1) (fun _=>rfl) _ _ 0 _ pH (by first | omega | rfl | simp) rfl)) rfl (zK rfl rfl rfl rfl (fun _=>zW rfl rfl rfl) (zK rfl rfl rfl rfl (fun _=>ZI rfl rfl rfl rfl zA zC (wAr bf) (wAs bf)) ?_))
 have pI:=wBf (xs:=ab) (wAI bf)
 refine OKS.stR (j:=2) (vs:=[jV (w64 ((gd ab aq.toNat) + 1))]) (cs':=hH KL.encI (nJ ab aq.toNat (w64 ((gd ab aq.toNat) + 1)))) rfl rfl rfl rfl eS rfl rfl rfl rfl rfl zC (by rw [wAF (f:=KL.encI) (sz:=1) (fun _=>rfl)];have hz:=wAI bf;show _ + 1 <= _;first | omega | (simp only [nI];omega) | (simp only [nH,nE,nG];omega)) rfl (wCV (sz:=1) (fo:=0) (fun _=>rfl) _ _ _ _ pI (by first | omega | (simp only [nI];omega) | (simp only [nH,nE,nG];omega)) (zD rfl) rfl) rfl ?_
 intro gy ox
 let dW:Res:=.row (some ⟨au,0,none⟩) ak.length 3 1 (hH KL.encI (nJ ab aq.toNat (w64 ((gd ab aq.toNat) + 1))))
 have oy:SW w [B1] U bX [bG,az,dW,be,.blk b3 26 B0,av,dp] gy:=ox
 have oz:SW w [B1] U bX [bG,az,dW,.blk b7 26 [.slice bo aY.length bp,.slice (some ⟨au,0,none⟩) ((nJ ab aq.toNat (w64 ((gd ab aq.toNat) + 1))).length) ak.length,.slice ba aZ.length bb],.blk b3 26 B0,av,dp] gy:=by simpa only [B0,B1,av,az,be,bG,dp,dW,nK] using oy
 refine zo (zi ?_)
 cases qi
 exact zH ⟨Z,⟨bX,cy,cD,jM,jN,g8,jO,jP,jQ,jR,jU,jW,jX,jY,((bw.trans cw).trans cR),oz,dH,(nK.trans bM),(nK.trans bN)⟩⟩
 intro bi qj
 refine rU Z (wF Z bi) (zF Z bg zB Z zm) (zl Z Z Z (wF Z bi) (cM.ldB (j:=3) Z Z Z ZO (v:=.slice ba aZ.length bb) Z) Z (zZ Z Z Z (wF Z bi) Z bl (zZ Z Z Z (wF Z bi) Z Z (rU Z (wF Z bi) (ZQ (pv:=[(0,jV (↑aa:Int)),(1,jV aq)]) (z:=[jV 0,jV 0]) (cs:=[jV (↑aa:Int),jV aq]) Z (wAJ Z (wAJ Z wAc)) zy wCR Z Z) ?_))))
 have mb:=fg.le fw
 have mc:=mb.le dM
 have md:=mc.le fy
 have mf:=md.le bw
 have mg:=mf.le cw
 have mh:=mg.le cR
 refine bnK qj fun rZ mi qk=>zQ 0 Z Z Z (wF Z bi) (zN Z Z Try.call8 (zE Z (zE Z zS)) Z) cM (fun hs=>wAQ aZ ba bb (⟨(↑aa:Int),aq⟩:wAA) gw bX hs mh mi) (.inr Z) ?_
 rintro cr rn rS je dN oB ⟨rfl,rfl⟩
 have eT:SW w [B1] U cr [bG,az,bF,be,.blk b3 26 B0,av,cn] je:=oB
 refine zK Z Z Z (zP Z Z (nF (bh.out))) (fun _=>zX Z (zq bi.out) Z) (oR Z (zd Z (nF (bh.out)) Z) (eN (ifc qk ?_ ?_)))
 intro eC ql
 refine zx (congrArg nA eC.out) (sR (wIw (.fx 6 .nil .stop)) Z (oM Z bn (oM Z Z (bnK ql fun _ b5 qm=>oR Z (ZI Z Z Z Z zA zC (wAr b5) (wAs b5)) ?_))))
 have pJ:=wBf (xs:=ai) (wAI b5)
 refine zl rfl rfl rfl rfl (eT.ldR (j:=6) rfl rfl rfl rfl zJ (wAl (sz:=1) (fun _=>rfl) _ _ 0 _ pJ (by first | omega | rfl | simp) rfl)) rfl (zK rfl rfl rfl rfl (fun _=>zW rfl rfl rfl) (zK rfl rfl rfl rfl (fun _=>ZI rfl rfl rfl rfl zA zC (wAr b5) (wAs b5)) ?_))
 have pK:=wBf (xs:=ai) (wAI b5)
 refine OKS.stR (j:=6) (vs:=[jV (w64 ((gd ai aq.toNat) + 1))]) (cs':=hH KL.encI (nJ ai aq.toNat (w64 ((gd ai aq.toNat) + 1)))) rfl rfl rfl rfl eT rfl rfl rfl rfl rfl zC (by rw [wAF (f:=KL.encI) (sz:=1) (fun _=>rfl)];have hz:=wAI b5;show _ + 1 <= _;first | omega | (simp only [nI];omega) | (simp only [nH,nE,nG];omega)) rfl (wCV (sz:=1) (fo:=0) (fun _=>rfl) _ _ _ _ pK (by first | omega | (simp only [nI];omega) | (simp only [nH,nE,nG];omega)) (zD rfl) rfl) rfl ?_
 intro jf oG
 let dq:Res:=.row (some ⟨aX,0,none⟩) aV.length 3 1 (hH KL.encI (nJ ai aq.toNat (w64 ((gd ai aq.toNat) + 1))))
 have eU:SW w [B1] U cr [bG,az,bF,be,.blk b3 26 B0,av,dq] jf:=oG
 refine eN (CK.fresh fun bA br=>?_)
 have jZ:bA 0=.pointer (some ⟨am,0,none⟩):=(br 0).trans bm
 have j0:bA 4=.pointer (some ⟨b3,0,none⟩):=(br 4).trans bI
 have g9:bA 6=.pointer (some ⟨b7,0,none⟩):=(br 6).trans bg
 have j4:bA 7=jV aW:=(br 7).trans bB
 have j5:bA 10=.slice bR bV.length bT:=(br 10).trans bJ
 have j6:bA 11=jV (↑aa:Int):=(br 11).trans bl
 have j7:bA 12=.slice (some ⟨aX,0,none⟩) ((nJ ai aq.toNat (w64 ((gd ai aq.toNat) + 1))).length) aV.length:=(br 12).trans (nS (b:=(.slice (some ⟨aX,0,none⟩) ai.length aV.length:Value)) (c:=(.slice (some ⟨aX,0,none⟩) ((nJ ai aq.toNat (w64 ((gd ai aq.toNat) + 1))).length) aV.length:Value)) bn (by simp only [nK]))
 have j8:bA 13=jV aq:=(br 13).trans rfl
 have j9:bA 45=jV aW:=(br 45).trans bK
 have k9:bA 46=jV (↑aa:Int):=(br 46).trans bL
 have lc:bA 62=jV (gd aY aa):=(br 62).trans bC
 have lf:bA 63=jV (↑bU:Int):=(br 63).trans bD
 clear br
 refine rR (wHO (.fx 7 .nil .stop)) Z (oR Z (zF Z g9 zB Z zO) (oL Z (eU.ldB (j:=3) Z Z Z zV (v:=.slice (some ⟨au,0,none⟩) ab.length ak.length) Z) (oM Z j8 (oR Z (ZI Z Z Z Z zA zC (wAr bf) (wAs bf)) ?_))))
 have pL:=wBf (xs:=ab) (wAI bf)
 refine zl rfl rfl rfl rfl (eU.ldR (j:=2) rfl rfl rfl rfl zJ (wAl (sz:=1) (fun _=>rfl) _ _ 0 _ pL (by first | omega | rfl | simp) rfl)) rfl (zK rfl rfl rfl rfl (fun _=>zW rfl rfl rfl) (zK rfl rfl rfl rfl (fun _=>ZI rfl rfl rfl rfl zA zC (wAr bf) (wAs bf)) ?_))
 have pM:=wBf (xs:=ab) (wAI bf)
 refine OKS.stR (j:=2) (vs:=[jV (w64 ((gd ab aq.toNat) + 1))]) (cs':=hH KL.encI (nJ ab aq.toNat (w64 ((gd ab aq.toNat) + 1)))) rfl rfl rfl rfl eU rfl rfl rfl rfl rfl zC (by rw [wAF (f:=KL.encI) (sz:=1) (fun _=>rfl)];have hz:=wAI bf;show _ + 1 <= _;first | omega | (simp only [nI];omega) | (simp only [nH,nE,nG];omega)) rfl (wCV (sz:=1) (fo:=0) (fun _=>rfl) _ _ _ _ pM (by first | omega | (simp only [nI];omega) | (simp only [nH,nE,nG];omega)) (zD rfl) rfl) rfl ?_
 intro gz oH
 let dX:Res:=.row (some ⟨au,0,none⟩) ak.length 3 1 (hH KL.encI (nJ ab aq.toNat (w64 ((gd ab aq.toNat) + 1))))
 have oI:SW w [B1] U cr [bG,az,dX,be,.blk b3 26 B0,av,dq] gz:=oH
 have oK:SW w [B1] U cr [bG,az,dX,.blk b7 26 [.slice bo aY.length bp,.slice (some ⟨au,0,none⟩) ((nJ ab aq.toNat (w64 ((gd ab aq.toNat) + 1))).length) ak.length,.slice ba aZ.length bb],.blk b3 26 B0,av,dq] gz:=by simpa only [B0,B1,av,az,be,bG,dq,dX,nK] using oI
 refine zo (zi ?_)
 cases qm
 have mn:=dH.le dN
 exact zH ⟨Z,⟨cr,cy,cD,jZ,j0,g9,j4,j5,j6,j7,j9,k9,lc,lf,(((bw.trans cw).trans cR).trans dN),oK,mn,(nK.trans bM),(nK.trans bN)⟩⟩
 intro eC qn
 refine zk (congrArg nA (nB.2 eC.out)) (ZM (zi ?_))
 cases qn
 have mo:=dH.le dN
 exact zH ⟨Z,⟨cr,cy,cD,bm,bI,bg,bB,bJ,bl,bn,bK,bL,bC,bD,(((bw.trans cw).trans cR).trans dN),eT,mo,bM,bN⟩⟩
 intro bO qo
 refine oF Z bO (Zb Z Z Z (zM Z Z (zq bO.out) Z) (oF Z bO (oR Z (zX Z (zq bO.out) Z) (oM Z Z (oN Z (oN Z (oN Z (oN Z (zU Z Z Z (wAb Z Z Z) (zU Z Z Z (wAb Z Z Z) (zU Z Z Z (wAb Z Z Z) (zU Z Z Z (wAb Z Z Z) (zU Z Z Z (wAb Z Z Z) (Zb Z Z Z (wAb Z Z Z) (oN Z (oR Z (zX Z Z Z) (eN (zk Z (ZM (zi ?_))))))))))))))))))))
 cases qo
 exact zH ⟨Z,⟨ej,dS,eA,bm,bI,bg,bB,bJ,bl,bn,bK,bL,bC,bD,(bw.trans cw),dK,ij,bM,bN⟩⟩
 intro ez qp
 refine zk (congrArg nA (nB.2 ez.out)) (kN (sR (wMm (.fx 8 (wNQ gAp) .stop)) Z (oR Z (zF Z bg zB Z zO) (oL Z (cL.ldB (j:=3) Z Z Z zV (v:=.slice (some ⟨au,0,none⟩) ab.length ak.length) Z) (oM Z Z (bnK qp fun _ bv qq=>oR Z (ZY Z Z Z Z zA zC (wAI bv)) ?_))))))
 have pN:=wBf (xs:=ab) (wAI bv)
 refine zl rfl rfl rfl rfl (cL.ldR (j:=2) rfl rfl rfl rfl zJ (wAl (sz:=1) (fun _=>rfl) _ _ 0 _ pN (by first | omega | rfl | simp) rfl)) rfl (zK rfl rfl rfl rfl (fun _=>zf rfl rfl rfl) (zZ rfl rfl rfl rfl rfl rfl (ifc qq ?_ ?_)))
 intro bP qr
 refine zZ Z Z Z (wT Z bP) Z bm ?_
 have q:=bnd qr
 obtain ⟨⟨r6,fM⟩,mp,iH⟩:=q
 try dsimp only at iH
 refine zQ 1 Z Z Z (wT Z bP) (zN Z Z Try.call13 (zE Z (zE Z zS)) Z) cL (fun hs=>wBM cX am df dB 4 en dv hs eP mp) (.inl Z) ?_
 rintro bY ro rT gA cS oP ⟨cz,cE,rfl,rfl,dI⟩
 let bH:Res:=.blk am 51 [.slice cz fM.bytes.length cE,jV fM.next,.int .u32 fM.state]
 have cN:SW w [B1] U bY [bH,az,bF,be,.blk b3 26 B0,av,cn] gA:=oP
 refine rU Z (wT Z bP) (ZN Z Z) (oR Z (zd Z (Zf bP.out) Z) (oM Z Z (ifc iH ?_ ?_)))
 intro bj qt
 refine zU Z Z Z (zM Z Z (nC bj.out) Z) (zU Z Z Z (zM Z Z (nC bj.out) Z) (zU Z Z Z (zM Z Z (nC bj.out) Z) (zU Z Z Z (zM Z Z (nC bj.out) Z) (zU Z Z Z (wAb Z Z Z) (zU Z Z Z (wAb Z Z Z) (zU Z Z Z (wAb Z Z Z) (zU Z Z Z (wAb Z Z Z) (zU Z Z Z (wAb Z Z Z) (Zb Z Z Z (wAb Z Z Z) (zU Z Z Z (zM Z Z (nC bj.out) Z) (oR Z (zX Z (nC bj.out) Z) (eN (zk Z (ZM (zi ?_)))))))))))))))
 cases qt
 exact zH ⟨Z,⟨bY,cz,cE,bm,bI,bg,bB,bJ,bl,bn,bK,bL,bC,bD,(bw.trans cS),cN,dI,bM,bN⟩⟩
 intro bj qu
 refine zZ Z Z Z (zP Z Z (nF (bj.out))) Z Z (zZ Z Z Z (zP Z Z (nF (bj.out))) Z bl (zK Z Z Z (zP Z Z (nF (bj.out))) (fun _=>Zl Z Z Z) (zZ Z Z Z (zP Z Z (nF (bj.out))) Z Z (ifc qu ?_ ?_))))
 intro bk qv
 refine oT Z bk (oT Z bk (oT Z bk (oT Z bk (oT Z bk (Zb Z Z Z (zM Z Z (Zf bk.out) Z) (zK Z Z Z (zP Z Z (nF (bj.out))) (fun _=>zd Z (Zf bk.out) Z) (oR Z (zd Z (nF (bj.out)) Z) (eN (zx Z (sR (wIw (.fx 6 .nil .stop)) Z (oM Z bn (oM Z Z (bnK qv fun _ cJ qw=>oR Z (ZY Z Z Z Z zA zC (wAI cJ)) ?_)))))))))))))
 have pO:=wBf (xs:=ai) (wAI cJ)
 refine zl rfl rfl rfl rfl (cN.ldR (j:=6) rfl rfl rfl rfl zJ (wAl (sz:=1) (fun _=>rfl) _ _ 0 _ pO (by first | omega | rfl | simp) rfl)) rfl (zK rfl rfl rfl rfl (fun _=>zW rfl rfl rfl) (zK rfl rfl rfl rfl (fun _=>ZY rfl rfl rfl rfl zA zC (wAI cJ)) ?_))
 have pP:=wBf (xs:=ai) (wAI cJ)
 refine OKS.stR (j:=6) (vs:=[jV (w64 ((gd ai aa) + 1))]) (cs':=hH KL.encI (nJ ai aa (w64 ((gd ai aa) + 1)))) rfl rfl rfl rfl cN rfl rfl rfl rfl rfl zC (by rw [wAF (f:=KL.encI) (sz:=1) (fun _=>rfl)];have hz:=wAI cJ;show _ + 1 <= _;first | omega | (simp only [nI];omega) | (simp only [nH,nE,nG];omega)) rfl (wCV (sz:=1) (fo:=0) (fun _=>rfl) _ _ _ _ pP (by first | omega | (simp only [nI];omega) | (simp only [nH,nE,nG];omega)) (zD rfl) rfl) rfl ?_
 intro jg oU
 let dr:Res:=.row (some ⟨aX,0,none⟩) aV.length 3 1 (hH KL.encI (nJ ai aa (w64 ((gd ai aa) + 1))))
 have eV:SW w [B1] U bY [bH,az,bF,be,.blk b3 26 B0,av,dr] jg:=oU
 refine eN (rR (wHO (.fx 7 .nil .stop)) Z (oR Z (zF Z bg zB Z zO) (oL Z (eV.ldB (j:=3) Z Z Z zV (v:=.slice (some ⟨au,0,none⟩) ab.length ak.length) Z) (oM Z Z (oR Z (ZY Z Z Z Z zA zC (wAI bv)) ?_)))))
 have pQ:=wBf (xs:=ab) (wAI bv)
 refine zl rfl rfl rfl rfl (eV.ldR (j:=2) rfl rfl rfl rfl zJ (wAl (sz:=1) (fun _=>rfl) _ _ 0 _ pQ (by first | omega | rfl | simp) rfl)) rfl (zK rfl rfl rfl rfl (fun _=>zW rfl rfl rfl) (zK rfl rfl rfl rfl (fun _=>ZY rfl rfl rfl rfl zA zC (wAI bv)) ?_))
 have pR:=wBf (xs:=ab) (wAI bv)
 refine OKS.stR (j:=2) (vs:=[jV (w64 ((gd ab aa) + 1))]) (cs':=hH KL.encI (nJ ab aa (w64 ((gd ab aa) + 1)))) rfl rfl rfl rfl eV rfl rfl rfl rfl rfl zC (by rw [wAF (f:=KL.encI) (sz:=1) (fun _=>rfl)];have hz:=wAI bv;show _ + 1 <= _;first | omega | (simp only [nI];omega) | (simp only [nH,nE,nG];omega)) rfl (wCV (sz:=1) (fo:=0) (fun _=>rfl) _ _ _ _ pR (by first | omega | (simp only [nI];omega) | (simp only [nH,nE,nG];omega)) (zD rfl) rfl) rfl ?_
 intro gB oW
 let dZ:Res:=.row (some ⟨au,0,none⟩) ak.length 3 1 (hH KL.encI (nJ ab aa (w64 ((gd ab aa) + 1))))
 have oX:SW w [B1] U bY [bH,az,dZ,be,.blk b3 26 B0,av,dr] gB:=oW
 have oY:SW w [B1] U bY [bH,az,dZ,.blk b7 26 [.slice bo aY.length bp,.slice (some ⟨au,0,none⟩) ((nJ ab aa (w64 ((gd ab aa) + 1))).length) ak.length,.slice ba aZ.length bb],.blk b3 26 B0,av,dr] gB:=by simpa only [B0,B1,av,az,be,bH,dr,dZ,nK] using oX
 refine zo (zi ?_)
 cases qw
 exact zH ⟨rfl,⟨bY,cz,cE,bm,bI,bg,bB,bJ,bl,(nS (b:=(.slice (some ⟨aX,0,none⟩) ai.length aV.length:Value)) (c:=(.slice (some ⟨aX,0,none⟩) ((nJ ai aa (w64 ((gd ai aa) + 1))).length) aV.length:Value)) bn (by simp only [nK])),bK,bL,bC,bD,(bw.trans cS),oY,dI,(nK.trans bM),(nK.trans bN)⟩⟩
 intro bk qx
 refine rU Z (wF Z bk) (zF Z bg zB Z zm) (zl Z Z Z (wF Z bk) (cN.ldB (j:=3) Z Z Z ZO (v:=.slice ba aZ.length bb) Z) Z (zZ Z Z Z (wF Z bk) Z bl (zZ Z Z Z (wF Z bk) Z Z (rU Z (wF Z bk) (ZQ (pv:=[(0,jV (↑aa:Int)),(1,jV (↑aa:Int))]) (z:=[jV 0,jV 0]) (cs:=[jV (↑aa:Int),jV (↑aa:Int)]) Z (wAJ Z (wAJ Z wAc)) zy wCR Z Z) ?_))))
 have mq:=fg.le fw
 have mr:=mq.le dM
 have ms:=mr.le fy
 have mu:=ms.le bw
 have mw:=mu.le cS
 refine bnK qx fun r8 my qy=>zQ 0 Z Z Z (wF Z bk) (zN Z Z Try.call8 (zE Z (zE Z zS)) Z) cN (fun hs=>wAQ aZ ba bb (⟨(↑aa:Int),(↑aa:Int)⟩:wAA) gA bY hs mw my) (.inr Z) ?_
 rintro ct rp rV jh dO o0 ⟨rfl,rfl⟩
 have eW:SW w [B1] U ct [bH,az,bF,be,.blk b3 26 B0,av,cn] jh:=o0
 refine zK Z Z Z (zP Z Z (nF (bj.out))) (fun _=>zX Z (zq bk.out) Z) (oR Z (zd Z (nF (bj.out)) Z) (eN (ifc qy ?_ ?_)))
 intro eD qz
 refine zx (congrArg nA eD.out) (sR (wIw (.fx 6 .nil .stop)) Z (oM Z bn (oM Z Z (bnK qz fun _ cK qA=>oR Z (ZY Z Z Z Z zA zC (wAI cK)) ?_))))
 have pS:=wBf (xs:=ai) (wAI cK)
 refine zl rfl rfl rfl rfl (eW.ldR (j:=6) rfl rfl rfl rfl zJ (wAl (sz:=1) (fun _=>rfl) _ _ 0 _ pS (by first | omega | rfl | simp) rfl)) rfl (zK rfl rfl rfl rfl (fun _=>zW rfl rfl rfl) (zK rfl rfl rfl rfl (fun _=>ZY rfl rfl rfl rfl zA zC (wAI cK)) ?_))
 have pT:=wBf (xs:=ai) (wAI cK)
 refine OKS.stR (j:=6) (vs:=[jV (w64 ((gd ai aa) + 1))]) (cs':=hH KL.encI (nJ ai aa (w64 ((gd ai aa) + 1)))) rfl rfl rfl rfl eW rfl rfl rfl rfl rfl zC (by rw [wAF (f:=KL.encI) (sz:=1) (fun _=>rfl)];have hz:=wAI cK;show _ + 1 <= _;first | omega | (simp only [nI];omega) | (simp only [nH,nE,nG];omega)) rfl (wCV (sz:=1) (fo:=0) (fun _=>rfl) _ _ _ _ pT (by first | omega | (simp only [nI];omega) | (simp only [nH,nE,nG];omega)) (zD rfl) rfl) rfl ?_
 intro ji o6
 let dt:Res:=.row (some ⟨aX,0,none⟩) aV.length 3 1 (hH KL.encI (nJ ai aa (w64 ((gd ai aa) + 1))))
 have eX:SW w [B1] U ct [bH,az,bF,be,.blk b3 26 B0,av,dt] ji:=o6
 refine eN (rR (wHO (.fx 7 .nil .stop)) Z (oR Z (zF Z bg zB Z zO) (oL Z (eX.ldB (j:=3) Z Z Z zV (v:=.slice (some ⟨au,0,none⟩) ab.length ak.length) Z) (oM Z Z (oR Z (ZY Z Z Z Z zA zC (wAI bv)) ?_)))))
 have pU:=wBf (xs:=ab) (wAI bv)
 refine zl rfl rfl rfl rfl (eX.ldR (j:=2) rfl rfl rfl rfl zJ (wAl (sz:=1) (fun _=>rfl) _ _ 0 _ pU (by first | omega | rfl | simp) rfl)) rfl (zK rfl rfl rfl rfl (fun _=>zW rfl rfl rfl) (zK rfl rfl rfl rfl (fun _=>ZY rfl rfl rfl rfl zA zC (wAI bv)) ?_))
 have pV:=wBf (xs:=ab) (wAI bv)
 refine OKS.stR (j:=2) (vs:=[jV (w64 ((gd ab aa) + 1))]) (cs':=hH KL.encI (nJ ab aa (w64 ((gd ab aa) + 1)))) rfl rfl rfl rfl eX rfl rfl rfl rfl rfl zC (by rw [wAF (f:=KL.encI) (sz:=1) (fun _=>rfl)];have hz:=wAI bv;show _ + 1 <= _;first | omega | (simp only [nI];omega) | (simp only [nH,nE,nG];omega)) rfl (wCV (sz:=1) (fo:=0) (fun _=>rfl) _ _ _ _ pV (by first | omega | (simp only [nI];omega) | (simp only [nH,nE,nG];omega)) (zD rfl) rfl) rfl ?_
 intro gC o8
 let d7:Res:=.row (some ⟨au,0,none⟩) ak.length 3 1 (hH KL.encI (nJ ab aa (w64 ((gd ab aa) + 1))))
 have o9:SW w [B1] U ct [bH,az,d7,be,.blk b3 26 B0,av,dt] gC:=o8
 have pa:SW w [B1] U ct [bH,az,d7,.blk b7 26 [.slice bo aY.length bp,.slice (some ⟨au,0,none⟩) ((nJ ab aa (w64 ((gd ab aa) + 1))).length) ak.length,.slice ba aZ.length bb],.blk b3 26 B0,av,dt] gC:=by simpa only [B0,B1,av,az,be,bH,dt,d7,nK] using o9
 refine zo (zi ?_)
 cases qA
 have mz:=dI.le dO
 exact zH ⟨rfl,⟨ct,cz,cE,bm,bI,bg,bB,bJ,bl,(nS (b:=(.slice (some ⟨aX,0,none⟩) ai.length aV.length:Value)) (c:=(.slice (some ⟨aX,0,none⟩) ((nJ ai aa (w64 ((gd ai aa) + 1))).length) aV.length:Value)) bn (by simp only [nK])),bK,bL,bC,bD,((bw.trans cS).trans dO),pa,mz,(nK.trans bM),(nK.trans bN)⟩⟩
 intro eD qB
 refine zk (congrArg nA (nB.2 eD.out)) (ZM (zi ?_))
 cases qB
 have mA:=dI.le dO
 exact zH ⟨Z,⟨ct,cz,cE,bm,bI,bg,bB,bJ,bl,bn,bK,bL,bC,bD,((bw.trans cS).trans dO),eW,mA,bM,bN⟩⟩
 intro bP qC
 refine oF Z bP (Zb Z Z Z (zM Z Z (zq bP.out) Z) (oF Z bP (oR Z (zX Z (zq bP.out) Z) (oM Z Z (oN Z (oN Z (oN Z (oN Z (zU Z Z Z (wAb Z Z Z) (zU Z Z Z (wAb Z Z Z) (zU Z Z Z (wAb Z Z Z) (zU Z Z Z (wAb Z Z Z) (zU Z Z Z (wAb Z Z Z) (Zb Z Z Z (wAb Z Z Z) (oN Z (oR Z (zX Z Z Z) (eN (zk Z (ZM (zi ?_))))))))))))))))))))
 cases qC
 exact zH ⟨Z,⟨dv,df,dB,bm,bI,bg,bB,bJ,bl,bn,bK,bL,bC,bD,bw,cL,eP,bM,bN⟩⟩
 rintro sw rA ⟨iW,de,dz,lh,li,lj,lm,ln,lp,lq,lu,lv,lw,lx,qK,pe,mB,mC,mD⟩
 refine rR fL2 Z (oR Z (zw (zW Z lx Z) (congrArg (jV) pX.out)) (oM Z Z (zo ?_)))
 cases iC
 exact zH ⟨Z,⟨iW,de,dz,Z,lh,li,lj,lm,ln,lp,lq,lu,lv,lw,(fy.trans qK),pe,mB,mC,mD⟩⟩
 rintro sA jj ⟨rq,fU,gN,lN,lz,lA,lB,lC,lD,rE,lE,lF,lG,lH,iN,pf,mF,mG,rH⟩
 have jw:Hid (¬ ((↑(((gd aY aa):Int) - 0).toNat:Int) < (gd aY aa))):=zG (wBQ)
 refine sR fL1 Z (oR Z (zf Z lN lH) (eN (zI (cF Z jw (ZS (zn (zn (ZL (zH (rR gBb Z (oM Z lD (oM Z lE ?_))))))))))))
 have q:=pf.freezeR (k:=6) (n:=cg.length) rfl (wAF (f:=KL.encI) (sz:=1) (fun _=>rfl) cg) (by decide)
 obtain ⟨cB,fz,qF,ph⟩:=q
 let d8:Res:=.blk b7 26 [.slice bo aY.length bp,.slice (some ⟨au,0,none⟩) iQ.length ak.length,.slice ba aZ.length bb]
 let d9:Res:=.row (some ⟨au,0,none⟩) ak.length 3 1 (hH KL.encI iQ)
 let eb:Res:=.blk am 51 [.slice fU qT.length gN,jV qU,.int .u32 qV]
 have pi:SW w [B1] U cB [eb,az,d9,d8,.blk b3 26 B0,av] jj:=ph
 let du:List Value:=[.slice (some ⟨aX,0,none⟩) cg.length aV.length]
 refine zu (pv:=[(0,.slice (some ⟨aX,0,none⟩) cg.length aV.length)]) (zs:=[.slice none 0 0]) (cs:=du) Z Z Z Z Z (wAJ Z wAc) Try.runUnderlying27 zO Try.zeroValue23 Z Z Z Z Z pi ?_
 intro jk jq pg
 have iI:RlL cB wMG [cg] du:=(RlL.cons (R:=wMG) (x:=cg) (vs:=du) ⟨(some ⟨aX,0,none⟩),aV.length,rfl,qF⟩ RlL.nil)
 let gc:Res:=.row (some ⟨jq,0,none⟩) 1 23 1 du
 have ip:SW w [B1] U cB [gc,eb,az,d9,d8,.blk b3 26 B0,av] jk:=pg
 refine bnK iB fun qO mH qD=>?_
 have mI:=lZ.le dM
 have mJ:=mI.le iN
 have mK:=mJ.le fz
 refine OKS.appendR (R:=wMG) (j:=6) (xs:=bV) (ys:=[cg]) (zs:=qO) rfl rfl rfl rfl rfl Try.underlying27 wNJ rfl rfl rfl rfl rfl rfl rfl ip rfl rfl rfl mK iI (ip.srcR (j:=0) rfl (by decide) (RlL.len iI)) mH rfl ?_
 intro fV gP gU jl pj qE
 have pk:SW w [B1] U cB [gc,eb,az,d9,d8,.blk b3 26 B0,.row fV gP 23 1 gU] jl:=pj
 refine oA Z Z (zo (zi (zH (rR fL2 Z (oR Z (zw (zW Z lG Z) (congrArg (jV) pW.out)) (oM Z Z (zo ?_)))))))
 cases qD
 have mL:=mF.le fz
 exact zH ⟨rfl,⟨cB,fU,gN,bo,bp,fV,gP,gU,rfl,lz,lA,lB,lC,rfl,lF,(((fw.trans dM).trans iN).trans fz),(pk.pick [1,2,3,4,5,6] _ (by decide) rfl),mL,mG,qE⟩⟩
 rintro sB rB ⟨gm,fW,gQ,dT,eE,dU,eF,gR,lO,rF,ie,lI,rG,lJ,lK,qL,iq,mM,rI,mN⟩
 have jx:Hid (¬ ((↑((aW:Int) - 0).toNat:Int) < aW)):=zG (wBQ)
 refine sR fL1 Z (oR Z (zf Z lO lK) (eN (zI (cF Z jx (ZS (zn (zn (ZL (zH (sR gAx Z ?_))))))))))
 let cp:List Value:=[.slice dT iO.length eE,.slice (some ⟨au,0,none⟩) iP.length ak.length,.slice ba aZ.length bb]
 refine oL Z (iq.ldBA (j:=3) Z Z lI Zc zj (vs:=cp) Z Z) (oM Z lJ (ZA (j:=4) (vs:=cp) Z Z Z Z iq Z ie Z Z zj (zD Z) Z Z Z ?_))
 intro jm pm
 have ir:SW w [B1] U gm [.blk am 51 [.slice fW qP.length gQ,jV qQ,.int .u32 qR],.row dT eE 3 1 (hH KL.encI iO),.row (some ⟨au,0,none⟩) ak.length 3 1 (hH KL.encI iP),.blk b7 26 cp,.blk b3 26 cp,.row dU eF 23 1 gR] jm:=pm
 refine oA Z Z (eN (zR ?_))
 have mO:=fg.le qL
 cases iz
 exact ⟨rfl,_,(wKK (rs:=[.cell 4 26,.tmp 5]) (vs:=[.agg cp.toArray,.slice dU qS.length eF]) ⟨⟨_,ie,(wGW Zc zj (ir.blkAt (k:=4) rfl) (vs:=cp) rfl rfl)⟩,⟨rfl,trivial⟩⟩ rfl),gm,_,(ir.pick [1,2,5,0] _ (by decide) rfl),dT,eE,(some ⟨au,0,none⟩),ak.length,ba,bb,dU,eF,gR,fW,gQ,rfl,rfl,mO,mN,mM⟩
end Go.Proofs.Ytkeeechdijfkhaa
namespace Go.Proofs.Ytkeeechdijfkhaa
open Go.KL
set_option maxHeartbeats 4000000
theorem wAv (p0:Int) (p1:Int) (p2:Int) (w:World) (U:PHeap) (hS:St0 w U [])  {r:Bool} (hm:wAW p0 p1 p2=some r):Gv Try.prog 37 [jV p0,jV p1,jV p2] w (wCb w [] U (fun U_ L_ v=>v=.bool r/\L_=[])):=by
 unfold wAW at hm
 refine Gv.of Try.func37 Z Try.ntmps37 Try.results37 Z (sR fL1 Z (oA Z Z (eN (sR fL9 Z (oM Z Z (oM Z Z (oR Z (Runs.geq Z Z Z) (oM Z Z ?_))))))))
 by_cases c1:p1 <= p0
 have ab:=hm;rw [if_pos c1] at ab;replace c1:=zG c1
 refine zZ Z Z Z (wT Z c1) Z Z (zZ Z Z Z (wT Z c1) Z Z (rU Z (wT Z c1) (Runs.leq Z Z Z) (oR Z (zd Z (Zf c1.out) Z) (oA Z Z (eN (zR ?_))))))
 first | (obtain rfl:=nD ab) | cases ab
 exact ⟨Z,_,(zz Z),U,_,hS,Z,Z⟩
 have ai:=hm;rw [if_neg c1] at ai;replace c1:=zG c1
 refine oF Z c1 (oF Z c1 (oF Z c1 (oR Z (zX Z (zq c1.out) Z) (oA Z Z (eN (zR ?_))))))
 have hE:=nD ai;first | subst r | cases hE
 exact ⟨Z,_,(zz Z),U,_,hS,Z,Z⟩
theorem wEY (p0:Int) (p1:(Int->Option Bool)) (ai:Nat) (ab:Value) (w:World) (U:PHeap) (hS:St0 w U []) (au:Cl U ai 0 [ab]) (av:FnOK Try.prog U ab wMb wOT p1) {r:Bool} (hm:wAy p0 p1=some r):Gv Try.prog 78 [jV p0,.pointer (some ⟨ai,0,none⟩)] w (wCb w [] U (fun U_ L_ v=>v=.bool r/\L_=[])):=by
 unfold wAy at hm
 refine Gv.of Try.func78 Z Try.ntmps78 Try.results78 Z (sR fL1 Z (oA Z Z (eN (sR gBa Z (oL Z (hS.ldC (f:=0) au (v:=ab) Z Z Try.isAgg47 Z) (oM Z Z (bnK hm fun x1 h2 az=>OKS.callV (a:=p0) Z Z Z Z Z Z (zE Z zS) hS av Z h2 ?_)))))))
 rintro U4 L5 v6 W7 aV aq ⟨rfl,rfl⟩
 have am:sW w U U4 [] W7:=aq
 refine oR Z (ZN Z Z) (oA Z Z (eN (zR ?_)))
 cases az
 exact ⟨Z,_,(zz Z),U4,_,am,Z,Z⟩
theorem wCg (p0:List Int) (au:Option Addr) (av:Nat) (p1:(Int->Option Bool)) (az:Value) (w:World) (U:PHeap) (hS:St0 w U []) (bt:Sl U 1 au av p0.length (hH KL.encI p0)) (bu:FnOK Try.prog U az wMb wOT p1) {r:Int} (hm:wAw p0 p1=some r):Gv Try.prog 63 [.slice au p0.length av,az] w (wCb w [] U (fun U_ L_ v=>v=jV r/\L_=[])):=by
 unfold wAw at hm
 refine Gv.of Try.func63 Z Try.ntmps63 Try.results63 Z (sR fL1 Z (oA Z Z (eN (zI (sR fL3 Z (oM Z Z (oR Z (ZH Z Z zA) (oM Z Z (eN (zh ?_))))))))))
 have q:=wDV hm
 obtain ⟨r3,aj⟩:=q
 have q:=wDU aj
 obtain ⟨am,bz⟩:=q
 replace am:=zG am
 refine CK.forN (fun k2 _ σ_ w_=>∃ (U_:PHeap),σ_ 8=jV (↑k2:Int)/\σ_ 0=.slice au p0.length av/\σ_ 1=az/\σ_ 7=jV (↑p0.length:Int)/\PHeap.Le U U_/\sW w U U_ [] w_) bz ?_ ?_ ?_
 exact ⟨U,Z,Z,Z,Z,(zY _),hS⟩
 rintro k2 ⟨⟩ bT bV W8 ak ⟨bJ,ai,aV,aW,aX,aq,aZ⟩ be bv
 try dsimp only at be
 have aU:Hid ((↑k2:Int) < (↑p0.length:Int)):=zG (wBx ak)
 replace ak:=zG ak
 have bA:Hid (w64 ((↑k2:Int) + 1)=(↑(k2 + 1):Int)):=zG (by have h1:=am.out;have h2:=aU.out;rw [wAf] <;> omega)
 refine sR fL1 Z (oR Z (zf Z ai aX) (eN (zI (cT Z aU (kN (zI (zh (sR fL2 Z (oM Z ai (oA Z Z (eN (sR (wGS (.fx 5 .nil .stop)) Z (oM Z aW (oM Z aV (oM Z Z (bnK be fun x22 aY bB=>?_))))))))))))))))
 have bm:=bt.le aq
 have q:=bm.el (fun _=>rfl) (wBe aY)
 obtain ⟨bM,bQ,bp,bq⟩:=q
 refine oR Z (ZY Z Z bp Z zA zC (wEM aY)) (oL Z (aZ.ldC (f:=0) bq (v:=jV x22) Z Z zJ Z) (bnK bB fun x30 bn bC=>?_))
 have bo:=bu.le aq
 refine OKS.callV (a:=x22) Z Z Z Z Z Z (zE Z zS) aZ bo Z bn ?_
 rintro ae bI bS bh bG br ⟨rfl,rfl⟩
 have ba:sW w U ae [] bh:=br
 refine eN (ifc bC ?_ ?_)
 intro ah bD
 refine zx (congrArg nA ah.out) (sR fL2 Z (oM Z Z (oA Z Z (eN (zR (zt (zg ?_)))))))
 have q:=wCB bD
 obtain ⟨bH,bE,bj⟩:=q
 have q:=wEN hm aj (bv bH bj)
 obtain rfl:=q
 refine zg (zt (zg ?_))
 cases bE
 exact ⟨Z,_,(zz Z),ae,_,ba,Z,Z⟩
 intro ah bF
 refine zk (congrArg nA (nB.2 ah.out)) (ZM (zi (zH (rR fL2 Z (oR Z (zw (zW Z ai Z) (congrArg (jV) bA.out)) (oM Z Z (zo ?_)))))))
 have q:=nD bF
 obtain rfl:=q
 exact zH ⟨Z,_,Z,⟨ae,Z,aV,aW,aX,(aq.trans bG),ba⟩⟩
 rintro ⟨⟩ bU bK ⟨bg,bl,bN,bO,bk,bP,bs⟩ bw
 have bb:=wEq hm aj bw
 try dsimp only at bb
 have bi:Hid (¬ ((↑(((↑p0.length:Int):Int) - 0).toNat:Int) < (↑p0.length:Int))):=zG (wBQ)
 refine sR fL1 Z (oR Z (zf Z bl bk) (eN (zI (cF Z bi (ZS (zn (zn (ZL (zH (sR fL1 Z (oA Z Z (eN (zR ?_)))))))))))))
 cases bb
 exact ⟨Z,_,(zz Z),bg,_,bs,Z,Z⟩
theorem wCW (p0:List Int) (ae:Option Addr) (ah:Nat) (p1:(Int->Option Bool)) (ai:Value) (w:World) (U:PHeap) (hS:St0 w U []) (az:Sl U 1 ae ah p0.length (hH KL.encI p0)) (aU:FnOK Try.prog U ai wMb wOT p1) {r:Bool} (hm:wAn p0 p1=some r):Gv Try.prog 64 [.slice ae p0.length ah,ai] w (wCb w [] U (fun U_ L_ v=>v=.bool r/\L_=[])):=by
 unfold wAn at hm
 refine Gv.of Try.func64 Z Try.ntmps64 Try.results64 Z (sR fL1 Z (oA Z Z (eN (sR gBa Z (oM Z Z (oM Z Z (bnK hm fun x1 h2 ak=>zQ 0 Z Z Z Z (zN Z Z Try.call63 (zE Z (zE Z zS)) Z) hS (fun hs=>wCg p0 ae ah p1 ai w U hs az aU h2) (.inr Z) ?_)))))))
 rintro U4 L5 v6 W7 aW av ⟨rfl,rfl⟩
 have au:sW w U U4 [] W7:=av
 refine oR Z (Runs.geq Z Z Z) (oA Z Z (eN (zR ?_)))
 first | (obtain rfl:=nD ak) | cases ak
 exact ⟨Z,_,(zz Z),U4,_,au,Z,Z⟩
theorem wDO (p0:List Int) (ak:Option Addr) (am:Nat) (p1:(Int->Option Bool)) (ai:Value) (w:World) (U:PHeap) (hS:St0 w U []) (bh:Sl U 1 ak am p0.length (hH KL.encI p0)) (av:FnOK Try.prog U ai wMb wOT p1) {r:Bool} (hm:wBN p0 p1=some r):Gv Try.prog 61 [.slice ak p0.length am,ai] w (wCb w [] U (fun U_ L_ v=>v=.bool r/\L_=[])):=by
 unfold wBN at hm
 refine Gv.of Try.func61 Z Try.ntmps61 Try.results61 Z (sR gAg Z (ZR (cs:=[ai]) Z Z Z Z Z Z (FnOK.cells av) hS ?_))
 intro W1 b2 be
 have q:=be.freeze (k:=0) rfl
 obtain ⟨U5,az,ab,bf⟩:=q
 replace ab:=Cl.of ab
 have bg:sW w U U5 [] W1:=bf
 replace ab:Cl U5 b2 0 [ai]:=ab
 refine oA Z Z (eN (sR gBa Z (oM Z Z (oR Z (Runs.mkf Z zS (zE Z zS)) ?_))))
 have aW:=bh.le az
 have aX:=av.le az
 have aZ:FnOK Try.prog U5 (.func (.func 78) #[] #[.pointer (some ⟨b2,0,none⟩)]) wMb wOT (fun x=>wAy x p1):=⟨78,[],[.pointer (some ⟨b2,0,none⟩)],rfl,Try.call78,fun U1 w1 x y vs le hs ha hm=>by obtain rfl:=ha;exact wEY x p1 b2 ai w1 U1 hs (ab.le le) (aX.le le) hm⟩
 refine bnK hm fun bn aY bi=>zQ 0 Z Z Z Z (zN Z Z Try.call64 (zE Z (zE Z zS)) Z) bg (fun hs=>wCW p0 ak am (fun x=>wAy x p1) (.func (.func 78) #[] #[.pointer (some ⟨b2,0,none⟩)]) W1 U5 hs aW aZ aY) (.inr Z) ?_
 rintro aq bk bm aV bl ba ⟨rfl,rfl⟩
 have bb:sW w U aq [] aV:=ba
 refine oR Z (ZN Z Z) (oA Z Z (eN (zR ?_)))
 cases bi
 exact ⟨Z,_,(zz Z),aq,_,bb,Z,Z⟩
theorem wFA (p0:Int) (w:World) (U:PHeap) (hS:St0 w U [])  {r:Bool} (hm:wBB p0=some r):Gv Try.prog 72 [jV p0] w (wCb w [] U (fun U_ L_ v=>v=.bool r/\L_=[])):=by
 unfold wBB at hm
 refine Gv.of Try.func72 Z Try.ntmps72 Try.results72 Z (sR fL1 Z (oA Z Z (eN (sR gAo Z (oM Z Z (bnK hm fun x1 h2 ak=>zQ 0 Z Z Z Z (zN Z Z Zo (zE Z (zE Z (zE Z zS))) Z) hS (fun hs=>wAv p0 0 8 w U hs h2) (.inr Z) ?_))))))
 rintro U4 L5 v6 W7 aq aj ⟨rfl,rfl⟩
 have ai:sW w U U4 [] W7:=aj
 refine oA Z Z (eN (zR ?_))
 have hE:=nD ak;first | subst r | cases hE
 exact ⟨Z,_,(zz Z),U4,_,ai,Z,Z⟩
theorem wFB (p0:Int) (w:World) (U:PHeap) (hS:St0 w U [])  {r:Bool} (hm:wBC p0=some r):Gv Try.prog 73 [jV p0] w (wCb w [] U (fun U_ L_ v=>v=.bool r/\L_=[])):=by
 unfold wBC at hm
 refine Gv.of Try.func73 Z Try.ntmps73 Try.results73 Z (sR fL1 Z (oA Z Z (eN (sR gAo Z (oM Z Z (bnK hm fun x1 h2 ak=>zQ 0 Z Z Z Z (zN Z Z Zo (zE Z (zE Z (zE Z zS))) Z) hS (fun hs=>wAv p0 0 5 w U hs h2) (.inr Z) ?_))))))
 rintro U4 L5 v6 W7 aq aj ⟨rfl,rfl⟩
 have ai:sW w U U4 [] W7:=aj
 refine oA Z Z (eN (zR ?_))
 have hE:=nD ak;first | subst r | cases hE
 exact ⟨Z,_,(zz Z),U4,_,ai,Z,Z⟩
theorem wFC (p0:wAA) (p1:Int) (aW:Nat) (w:World) (U:PHeap) (hS:St0 w U []) (aU:Cl U aW 0 [jV p1]) {r:Bool} (hm:wBD p0 p1=some r):Gv Try.prog 75 [.agg #[jV p0.Skier,jV p0.Lane],.pointer (some ⟨aW,0,none⟩)] w (wCb w [] U (fun U_ L_ v=>v=.bool r/\L_=[])):=by
 unfold wBD at hm
 refine Gv.of Try.func75 Z Try.ntmps75 Try.results75 Z (sR gAg Z ?_)
 let B0:List Value:=[jV p0.Skier,jV p0.Lane]
 refine ZR (cs:=B0) rfl rfl rfl rfl rfl rfl (by rfl) hS ?_
 intro W1 b2 au
 refine oA Z Z (eN (sR (wKA (.fx 4 (fC5_9 (.fx 10 (wOn (.nil)) .stop)) .stop)) Z (oR Z (zF Z Z ZD Z zC) (oL Z (au.ldB (j:=0) Z Z Z zJ (v:=jV p0.Skier) Z) (oL Z (au.ldC (f:=0) aU (v:=jV p1) Z Z zJ Z) (oR Z (Zh Z Z Z) (bnK hm fun x5 h6 bk=>zQ 0 Z Z Z Z (zN Z Z Zo (zE Z (zE Z (zE Z zS))) Z) au (fun hs=>wAv p0.Skier 0 (w64 (p1 - 1)) W1 U hs h6) (.inr Z) ?_)))))))
 rintro U8 L9 bp av bl be ⟨rfl,rfl⟩
 have ai:sW w U U8 [.blk b2 39 B0] av:=be
 refine oM Z Z (ifc bk ?_ ?_)
 intro aa bg
 refine zK Z Z Z (zP Z Z (congrArg nA aa.out)) (fun _=>zF Z Z ZD Z zC) (zl Z Z Z (zP Z Z (congrArg nA aa.out)) (ai.ldB (j:=0) Z Z Z zJ (v:=jV p0.Lane) Z) Z ?_)
 have aZ:=aU.le bl
 refine zl Z Z Z (zP Z Z (congrArg nA aa.out)) (ai.ldC (f:=0) aZ (v:=jV p1) Z Z zJ Z) Z (zK Z Z Z (zP Z Z (congrArg nA aa.out)) (fun _=>Zh Z Z Z) (bnK bg fun br ba bh=>zQ 0 Z Z Z (zP Z Z (congrArg nA aa.out)) (zN Z Z Zo (zE Z (zE Z (zE Z zS))) Z) ai (fun hs=>wAv p0.Lane 0 (w64 (p1 - 1)) av U8 hs ba) (.inr Z) ?_))
 rintro am bm bq aY bo bf ⟨rfl,rfl⟩
 have aj:sW w U am [.blk b2 39 B0] aY:=bf
 refine oR Z (zd Z (congrArg nA aa.out) Z) (oM Z Z (ifc bh ?_ ?_))
 intro ab aV
 refine zK Z Z Z (zP Z Z (congrArg nA ab.out)) (fun _=>zF Z Z ZD Z zC) (zl Z Z Z (zP Z Z (congrArg nA ab.out)) (aj.ldB (j:=0) Z Z Z zJ (v:=jV p0.Skier) Z) Z (zK Z Z Z (zP Z Z (congrArg nA ab.out)) (fun _=>zF Z Z ZD Z zC) (zl Z Z Z (zP Z Z (congrArg nA ab.out)) (aj.ldB (j:=0) Z Z Z zJ (v:=jV p0.Lane) Z) Z (zK Z Z Z (zP Z Z (congrArg nA ab.out)) (fun _=>Ze Z Z Z) (oR Z (zd Z (congrArg nA ab.out) Z) (oA Z Z (eN (zR ?_))))))))
 first | (obtain rfl:=nD aV) | cases aV
 exact ⟨rfl,_,(zz rfl),am,_,(aj.pick [] _ (by decide) rfl),rfl,rfl⟩
 intro ab bi
 refine zU Z Z Z (zM Z Z (congrArg nA (nB.2 ab.out)) Z) (zU Z Z Z (zM Z Z (congrArg nA (nB.2 ab.out)) Z) (zU Z Z Z (zM Z Z (congrArg nA (nB.2 ab.out)) Z) (zU Z Z Z (zM Z Z (congrArg nA (nB.2 ab.out)) Z) (zU Z Z Z (zM Z Z (congrArg nA (nB.2 ab.out)) Z) (oR Z (zX Z (congrArg nA (nB.2 ab.out)) Z) (oA Z Z (eN (zR ?_))))))))
 have hE:=nD bi;first | subst r | cases hE
 exact ⟨rfl,_,(zz rfl),am,_,(aj.pick [] _ (by decide) rfl),rfl,rfl⟩
 intro aa bj
 refine zU Z Z Z (zM Z Z (congrArg nA (nB.2 aa.out)) Z) (zU Z Z Z (zM Z Z (congrArg nA (nB.2 aa.out)) Z) (zU Z Z Z (zM Z Z (congrArg nA (nB.2 aa.out)) Z) (zU Z Z Z (zM Z Z (congrArg nA (nB.2 aa.out)) Z) (Zb Z Z Z (zM Z Z (congrArg nA (nB.2 aa.out)) Z) (oR Z (zX Z (congrArg nA (nB.2 aa.out)) Z) (oM Z Z (oN Z (oN Z (oN Z (oN Z (oN Z (oR Z (zX Z Z Z) (oA Z Z (eN (zR ?_)))))))))))))))
 have hE:=nD bj;first | subst r | cases hE
 exact ⟨rfl,_,(zz rfl),U8,_,(ai.pick [] _ (by decide) rfl),rfl,rfl⟩
theorem wCh (p0:wAA) (p1:(wAA->Option Bool)) (ak:Nat) (ah:Value) (w:World) (U:PHeap) (hS:St0 w U []) (aU:Cl U ak 0 [ah]) (aV:FnOK Try.prog U ah wJx wJy p1) {r:Bool} (hm:wAY p0 p1=some r):Gv Try.prog 84 [.agg #[jV p0.Skier,jV p0.Lane],.pointer (some ⟨ak,0,none⟩)] w (wCb w [] U (fun U_ L_ v=>v=.bool r/\L_=[])):=by
 unfold wAY at hm
 refine Gv.of Try.func84 Z Try.ntmps84 Try.results84 Z (sR gAg Z ?_)
 let B0:List Value:=[jV p0.Skier,jV p0.Lane]
 refine ZR (cs:=B0) rfl rfl rfl rfl rfl rfl (by rfl) hS ?_
 intro W1 b2 ae
 refine oA Z Z (eN (sR gBa Z (oL Z (ae.ldC (f:=0) aU (v:=ah) Z Z Try.isAgg137 Z) (oL Z (ae.ldBA (j:=0) Z Z Z Zg zr (vs:=B0) Z Z) (bnK hm fun x5 h6 aW=>OKS.callV (a:=p0) Z Z Z Z Z Z (zE Z zS) ae aV Z h6 ?_)))))
 rintro U8 L9 ba am aZ av ⟨rfl,rfl⟩
 have az:sW w U U8 [.blk b2 39 B0] am:=av
 refine oR Z (ZN Z Z) (oA Z Z (eN (zR ?_)))
 cases aW
 exact ⟨rfl,_,(zz rfl),U8,_,(az.pick [] _ (by decide) rfl),rfl,rfl⟩
theorem wBX (p0:List wAA) (au:Option Addr) (av:Nat) (p1:(wAA->Option Bool)) (az:Value) (w:World) (U:PHeap) (hS:St0 w U []) (bt:Sl U 2 au av p0.length (hH wAB p0)) (bu:FnOK Try.prog U az wJx wJy p1) {r:Int} (hm:wAO p0 p1=some r):Gv Try.prog 87 [.slice au p0.length av,az] w (wCb w [] U (fun U_ L_ v=>v=jV r/\L_=[])):=by
 unfold wAO at hm
 refine Gv.of Try.func87 Z Try.ntmps87 Try.results87 Z (sR fL1 Z (oA Z Z (eN (zI (sR fL3 Z (oM Z Z (oR Z (ZH Z Z zp) (oM Z Z (eN (zh ?_))))))))))
 have q:=wDV hm
 obtain ⟨r3,aj⟩:=q
 have q:=wDU aj
 obtain ⟨am,bz⟩:=q
 replace am:=zG am
 refine CK.forN (fun k2 _ σ_ w_=>∃ (U_:PHeap),σ_ 8=jV (↑k2:Int)/\σ_ 0=.slice au p0.length av/\σ_ 1=az/\σ_ 7=jV (↑p0.length:Int)/\PHeap.Le U U_/\sW w U U_ [] w_) bz ?_ ?_ ?_
 exact ⟨U,Z,Z,Z,Z,(zY _),hS⟩
 rintro k2 ⟨⟩ bT bV W8 ak ⟨bJ,ai,aV,aW,aX,aq,aZ⟩ be bv
 try dsimp only at be
 have aU:Hid ((↑k2:Int) < (↑p0.length:Int)):=zG (wBx ak)
 replace ak:=zG ak
 have bA:Hid (w64 ((↑k2:Int) + 1)=(↑(k2 + 1):Int)):=zG (by have h1:=am.out;have h2:=aU.out;rw [wAf] <;> omega)
 refine sR fL1 Z (oR Z (zf Z ai aX) (eN (zI (cT Z aU (kN (zI (zh (sR fL2 Z (oM Z ai (oA Z Z (eN (sR (wGS (.fx 5 .nil .stop)) Z (oM Z aW (oM Z aV (oM Z Z (bnK be fun x22 aY bB=>?_))))))))))))))))
 have bm:=bt.le aq
 have q:=bm.el (fun _=>rfl) (wBe aY)
 obtain ⟨bM,bQ,bp,bq⟩:=q
 refine oR Z (ZY Z Z bp Z zp zr (wEM aY)) (oL Z (aZ.ldCA (f:=0) bq Z Z Zg zr (us:=[jV x22.Skier,jV x22.Lane]) Z Z) (bnK bB fun x30 bn bC=>?_))
 have bo:=bu.le aq
 refine OKS.callV (a:=x22) Z Z Z Z Z Z (zE Z zS) aZ bo Z bn ?_
 rintro ae bI bS bh bG br ⟨rfl,rfl⟩
 have ba:sW w U ae [] bh:=br
 refine eN (ifc bC ?_ ?_)
 intro ah bD
 refine zx (congrArg nA ah.out) (sR fL2 Z (oM Z Z (oA Z Z (eN (zR (zt (zg ?_)))))))
 have q:=wCB bD
 obtain ⟨bH,bE,bj⟩:=q
 have q:=wEN hm aj (bv bH bj)
 obtain rfl:=q
 refine zg (zt (zg ?_))
 cases bE
 exact ⟨Z,_,(zz Z),ae,_,ba,Z,Z⟩
 intro ah bF
 refine zk (congrArg nA (nB.2 ah.out)) (ZM (zi (zH (rR fL2 Z (oR Z (zw (zW Z ai Z) (congrArg (jV) bA.out)) (oM Z Z (zo ?_)))))))
 have q:=nD bF
 obtain rfl:=q
 exact zH ⟨Z,_,Z,⟨ae,Z,aV,aW,aX,(aq.trans bG),ba⟩⟩
 rintro ⟨⟩ bU bK ⟨bg,bl,bN,bO,bk,bP,bs⟩ bw
 have bb:=wEq hm aj bw
 try dsimp only at bb
 have bi:Hid (¬ ((↑(((↑p0.length:Int):Int) - 0).toNat:Int) < (↑p0.length:Int))):=zG (wBQ)
 refine sR fL1 Z (oR Z (zf Z bl bk) (eN (zI (cF Z bi (ZS (zn (zn (ZL (zH (sR fL1 Z (oA Z Z (eN (zR ?_)))))))))))))
 cases bb
 exact ⟨Z,_,(zz Z),bg,_,bs,Z,Z⟩
theorem wBT (p0:List wAA) (ae:Option Addr) (ah:Nat) (p1:(wAA->Option Bool)) (ai:Value) (w:World) (U:PHeap) (hS:St0 w U []) (az:Sl U 2 ae ah p0.length (hH wAB p0)) (aU:FnOK Try.prog U ai wJx wJy p1) {r:Bool} (hm:wAM p0 p1=some r):Gv Try.prog 83 [.slice ae p0.length ah,ai] w (wCb w [] U (fun U_ L_ v=>v=.bool r/\L_=[])):=by
 unfold wAM at hm
 refine Gv.of Try.func83 Z Try.ntmps83 Try.results83 Z (sR fL1 Z (oA Z Z (eN (sR gBa Z (oM Z Z (oM Z Z (bnK hm fun x1 h2 ak=>zQ 0 Z Z Z Z (zN Z Z Try.call87 (zE Z (zE Z zS)) Z) hS (fun hs=>wBX p0 ae ah p1 ai w U hs az aU h2) (.inr Z) ?_)))))))
 rintro U4 L5 v6 W7 aW av ⟨rfl,rfl⟩
 have au:sW w U U4 [] W7:=av
 refine oR Z (Runs.geq Z Z Z) (oA Z Z (eN (zR ?_)))
 first | (obtain rfl:=nD ak) | cases ak
 exact ⟨Z,_,(zz Z),U4,_,au,Z,Z⟩
theorem wCy (p0:List wAA) (ak:Option Addr) (am:Nat) (p1:(wAA->Option Bool)) (ai:Value) (w:World) (U:PHeap) (hS:St0 w U []) (bh:Sl U 2 ak am p0.length (hH wAB p0)) (av:FnOK Try.prog U ai wJx wJy p1) {r:Bool} (hm:wAo p0 p1=some r):Gv Try.prog 74 [.slice ak p0.length am,ai] w (wCb w [] U (fun U_ L_ v=>v=.bool r/\L_=[])):=by
 unfold wAo at hm
 refine Gv.of Try.func74 Z Try.ntmps74 Try.results74 Z (sR gAg Z (ZR (cs:=[ai]) Z Z Z Z Z Z (FnOK.cells av) hS ?_))
 intro W1 b2 be
 have q:=be.freeze (k:=0) rfl
 obtain ⟨U5,az,ab,bf⟩:=q
 replace ab:=Cl.of ab
 have bg:sW w U U5 [] W1:=bf
 replace ab:Cl U5 b2 0 [ai]:=ab
 refine oA Z Z (eN (sR gBa Z (oM Z Z (oR Z (Runs.mkf Z zS (zE Z zS)) ?_))))
 have aW:=bh.le az
 have aX:=av.le az
 have aZ:FnOK Try.prog U5 (.func (.func 84) #[] #[.pointer (some ⟨b2,0,none⟩)]) wJx wJy (fun x=>wAY x p1):=⟨84,[],[.pointer (some ⟨b2,0,none⟩)],rfl,Try.call84,fun U1 w1 x y vs le hs ha hm=>by obtain rfl:=ha;exact wCh x p1 b2 ai w1 U1 hs (ab.le le) (aX.le le) hm⟩
 refine bnK hm fun bn aY bi=>zQ 0 Z Z Z Z (zN Z Z Try.call83 (zE Z (zE Z zS)) Z) bg (fun hs=>wBT p0 ak am (fun x=>wAY x p1) (.func (.func 84) #[] #[.pointer (some ⟨b2,0,none⟩)]) W1 U5 hs aW aZ aY) (.inr Z) ?_
 rintro aq bk bm aV bl ba ⟨rfl,rfl⟩
 have bb:sW w U aq [] aV:=ba
 refine oR Z (ZN Z Z) (oA Z Z (eN (zR ?_)))
 cases bi
 exact ⟨Z,_,(zz Z),aq,_,bb,Z,Z⟩
theorem wHK (p0:wAA) (p1:wAA) (w:World) (U:PHeap) (hS:St0 w U [])  {r:Bool} (hm:wCG p0 p1=some r):Gv Try.prog 76 [.agg #[jV p0.Skier,jV p0.Lane],.agg #[jV p1.Skier,jV p1.Lane]] w (wCb w [] U (fun U_ L_ v=>v=.bool r/\L_=[])):=by
 unfold wCG at hm
 refine Gv.of Try.func76 rfl Try.ntmps76 Try.results76 rfl (sR gAq rfl (ZR (cs:=[jV p0.Skier,jV p0.Lane]) rfl rfl rfl rfl rfl rfl (by rfl) hS ?_))
 intro W1 b2 aq
 refine ZR (cs:=[jV p1.Skier,jV p1.Lane]) rfl rfl rfl rfl rfl rfl (by rfl) aq ?_
 intro W5 b6 ae
 refine oA Z Z (eN (sR fL20 Z (oR Z (zF Z Z ZD Z zC) (oL Z (ae.ldB (j:=1) Z Z Z zJ (v:=jV p0.Skier) Z) (oR Z (zF Z Z ZD Z zC) (oL Z (ae.ldB (j:=0) Z Z Z zJ (v:=jV p1.Skier) Z) (oR Z (zf Z Z Z) (oM Z Z ?_))))))))
 by_cases c9:p0.Skier < p1.Skier
 have aj:=hm;rw [if_pos c9] at aj;replace c9:=zG c9
 refine oT Z c9 (oT Z c9 (oT Z c9 (oT Z c9 (oT Z c9 (oT Z c9 (zU Z Z Z (wAb Z Z Z) (zU Z Z Z (wAb Z Z Z) (zU Z Z Z (wAb Z Z Z) (zU Z Z Z (wAb Z Z Z) (zU Z Z Z (wAb Z Z Z) (oT Z c9 (oR Z (zd Z (Zf c9.out) Z) (oA Z Z (eN (zR ?_)))))))))))))))
 have hE:=nD aj;first | subst r | cases hE
 exact ⟨rfl,_,(zz rfl),U,_,(ae.pick [] _ (by decide) rfl),rfl,rfl⟩
 have ak:=hm;rw [if_neg c9] at ak;replace c9:=zG c9
 refine rU Z (wF Z c9) (zF Z Z ZD Z zC) (zl Z Z Z (wF Z c9) (ae.ldB (j:=1) Z Z Z zJ (v:=jV p0.Skier) Z) Z (rU Z (wF Z c9) (zF Z Z ZD Z zC) (zl Z Z Z (wF Z c9) (ae.ldB (j:=0) Z Z Z zJ (v:=jV p1.Skier) Z) Z (rU Z (wF Z c9) (Zl Z Z Z) (zZ Z Z Z (wF Z c9) Z Z (ifc ak ?_ ?_))))))
 intro ab am
 refine rU Z (wT Z ab) (zF Z Z ZD Z zC) (zl Z Z Z (wT Z ab) (ae.ldB (j:=1) Z Z Z zJ (v:=jV p0.Lane) Z) Z (rU Z (wT Z ab) (zF Z Z ZD Z zC) (zl Z Z Z (wT Z ab) (ae.ldB (j:=0) Z Z Z zJ (v:=jV p1.Lane) Z) Z (rU Z (wT Z ab) (zf Z Z Z) (rU Z (wF Z c9) (zd Z (Zf ab.out) Z) (oR Z (zX Z (zq c9.out) Z) (oA Z Z (eN (zR ?_)))))))))
 first | (obtain rfl:=nD am) | cases am
 exact ⟨rfl,_,(zz rfl),U,_,(ae.pick [] _ (by decide) rfl),rfl,rfl⟩
 intro ab au
 refine oF Z ab (oF Z ab (oF Z ab (oF Z ab (oF Z ab (rU Z (wF Z c9) (zX Z (zq ab.out) Z) (oR Z (zX Z (zq c9.out) Z) (oA Z Z (eN (zR ?_)))))))))
 have hE:=nD au;first | subst r | cases hE
 exact ⟨rfl,_,(zz rfl),U,_,(ae.pick [] _ (by decide) rfl),rfl,rfl⟩
theorem wGQ (p0:wAC) (aU:Option Addr) (aW:Nat) (aV:Option Addr) (aX:Nat) (am:Option Addr) (aq:Nat) (w:World) (U:PHeap) (hS:St0 w U []) (cI:Sl U 1 aU aW p0.Shots.length (hH KL.encI p0.Shots)) (cJ:Sl U 1 aV aX p0.Down.length (hH KL.encI p0.Down)) (cK:Sl U 2 am aq p0.Across.length (hH wAB p0.Across)) {r:Int} (hm:wBn p0=some r):Gv Try.prog 56 [.agg #[.slice aU p0.Shots.length aW,.slice aV p0.Down.length aX,.slice am p0.Across.length aq]] w (wCb w [] U (fun U_ L_ v=>v=jV r/\L_=[])):=by
 unfold wBn at hm
 refine Gv.of Try.func56 Z Try.ntmps56 Try.results56 Z (sR gAg Z ?_)
 let B0:List Value:=[.slice aU p0.Shots.length aW,.slice aV p0.Down.length aX,.slice am p0.Across.length aq]
 refine ZR (cs:=B0) rfl rfl rfl rfl rfl rfl (by rfl) hS ?_
 intro W1 b2 bJ
 refine oA Z Z (eN (sR (wGJ (.fx 3 (.fx 4 .nil .stop) .stop)) Z (oR Z (zF Z Z zB Z zO) (oL Z (bJ.ldB (j:=0) Z Z Z zV (v:=.slice aU p0.Shots.length aW) Z) (oR Z (ZH Z Z zA) (Za (cs:=[jV 0]) Z Z Z Z Z ZC Z bJ ?_))))))
 intro W5 b6 cG
 let B1:List Value:=[jV (↑p0.Shots.length:Int)]
 refine ZA (j:=0) (vs:=B1) Z Z Z Z cG Z Z Z Z zC (zD Z) Z Z Z ?_
 intro W9 cy
 have bH:sW w U U [.blk b6 3 B1,.blk b2 26 B0] W9:=cy
 refine eN (zI (zh (sR (.fl 0 (.fx 1 (wPv (.nil)) .stop)) Z (oL Z (bH.ldB (j:=0) Z Z Z zJ (v:=jV (↑p0.Shots.length:Int)) Z) (bnK hm fun dM bY cX=>zQ 0 Z Z Z Z (zN Z Z Zo (zE Z (zE Z (zE Z zS))) Z) bH (fun hs=>wAv (↑p0.Shots.length:Int) 1 8 W9 U hs bY) (.inr Z) ?_)))))
 rintro aZ dw dH bB bu cA ⟨rfl,rfl⟩
 have av:sW w U aZ [.blk b6 3 B1,.blk b2 26 B0] bB:=cA
 refine oR Z (ZN Z Z) (oM Z Z (ifc cX ?_ ?_))
 intro ab cY
 refine zK Z Z Z (zP Z Z (nC ab.out)) (fun _=>zF Z Z zB Z zO) (zl Z Z Z (zP Z Z (nC ab.out)) (av.ldB (j:=1) Z Z Z zV (v:=.slice aV p0.Down.length aX) Z) Z (zK Z Z Z (zP Z Z (nC ab.out)) (fun _=>ZH Z Z zA) (zl Z Z Z (zP Z Z (nC ab.out)) (av.ldB (j:=0) Z Z Z zJ (v:=jV (↑p0.Shots.length:Int)) Z) Z (zK Z Z Z (zP Z Z (nC ab.out)) (fun _=>Ze Z Z Z) (oR Z (zX Z (nC ab.out) Z) (oA Z Z (eN (ifc cY ?_ ?_))))))))
 intro bm cZ
 refine zk (zq (fun h=>h bm.out)) (sR (.fl 0 (.fl 1 (.fx 2 (fC3_6 (.fx 7 (wPy (.nil)) .stop)) .stop))) Z (oR Z (zF Z Z zB Z zO) (oL Z (av.ldB (j:=1) Z Z Z zV (v:=.slice aU p0.Shots.length aW) Z) ?_)))
 have bZ:=cI.le bu
 have cu:FnOK Try.prog aZ (.func (.func 72) #[] #[]) wMb wOT wBB:=⟨72,[],[],rfl,Try.call72,fun U1 w1 x y vs le hs ha hm=>by obtain rfl:=ha;exact wFA x w1 U1 hs  hm⟩
 refine bnK cZ fun x28 b5 da=>zQ 0 Z Z Z Z (zN Z Z Try.call61 (zE Z (zE Z zS)) Z) av (fun hs=>wDO p0.Shots aU aW wBB (.func (.func 72) #[] #[]) bB aZ hs bZ cu b5) (.inr Z) ?_
 rintro be dx dI bC bP cB ⟨rfl,rfl⟩
 have br:sW w U be [.blk b6 3 B1,.blk b2 26 B0] bC:=cB
 refine oR Z (ZN Z Z) (oM Z Z (ifc da ?_ ?_))
 intro ae db
 refine zK Z Z Z (zP Z Z (nC ae.out)) (fun _=>zF Z Z zB Z zO) (zl Z Z Z (zP Z Z (nC ae.out)) (br.ldB (j:=1) Z Z Z zV (v:=.slice aV p0.Down.length aX) Z) Z ?_)
 have b9:=cJ.le bu
 have cd:=b9.le bP
 have cw:FnOK Try.prog be (.func (.func 73) #[] #[]) wMb wOT wBC:=⟨73,[],[],rfl,Try.call73,fun U1 w1 x y vs le hs ha hm=>by obtain rfl:=ha;exact wFB x w1 U1 hs  hm⟩
 refine bnK db fun x43 cf de=>zQ 0 Z Z Z (zP Z Z (nC ae.out)) (zN Z Z Try.call61 (zE Z (zE Z zS)) Z) br (fun hs=>wDO p0.Down aV aX wBC (.func (.func 73) #[] #[]) bC be hs cd cw cf) (.inr Z) ?_
 rintro bz dy dJ bk dp cC ⟨rfl,rfl⟩
 have bs:sW w U bz [.blk b6 3 B1,.blk b2 26 B0] bk:=cC
 refine zK Z Z Z (zP Z Z (nC ae.out)) (fun _=>ZN Z Z) (oR Z (zX Z (nC ae.out) Z) (oA Z Z (eN (ifc de ?_ ?_))))
 intro bn df
 refine zk (nC bn.out) (sR (wGJ gAr) Z (oR Z (zF Z Z zB Z zm) (oL Z (bs.ldB (j:=1) Z Z Z ZO (v:=.slice am p0.Across.length aq) Z) ?_)))
 have q:=bs.freeze (k:=0) rfl
 obtain ⟨bf,dq,ba,cD⟩:=q
 replace ba:=Cl.of ba
 have cE:sW w U bf [.blk b2 26 B0] bk:=cD
 replace ba:Cl bf b6 0 B1:=ba
 refine oR Z (Runs.mkf Z zS (zE Z zS)) ?_
 have cg:=cK.le bu
 have ci:=cg.le bP
 have cj:=ci.le dp
 have bG:=cj.le dq
 have cx:FnOK Try.prog bf (.func (.func 75) #[] #[.pointer (some ⟨b6,0,none⟩)]) wJx wJy (fun x=>wBD x (↑p0.Shots.length:Int)):=⟨75,[],[.pointer (some ⟨b6,0,none⟩)],rfl,Try.call75,fun U1 w1 x y vs le hs ha hm=>by obtain rfl:=ha;exact wFC x (↑p0.Shots.length:Int) b6 w1 U1 hs (ba.le le) hm⟩
 refine bnK df fun x65 cn dg=>zQ 0 Z Z Z Z (zN Z Z Try.call74 (zE Z (zE Z zS)) Z) cE (fun hs=>wCy p0.Across am aq (fun x=>wBD x (↑p0.Shots.length:Int)) (.func (.func 75) #[] #[.pointer (some ⟨b6,0,none⟩)]) bk bf hs bG cx cn) (.inr Z) ?_
 rintro bg dz dK bS dr cH ⟨rfl,rfl⟩
 have bK:sW w U bg [.blk b2 26 B0] bS:=cH
 refine oR Z (ZN Z Z) (oA Z Z (eN (ifc dg ?_ ?_)))
 intro bo dh
 refine zk (nC bo.out) (ZM (zi (zH (zI (sR fL1 Z (oA Z Z (eN (zh (CK.iter (fun x80 σ_ w_=>∃ (U_:PHeap),σ_ 1=.pointer (some ⟨b2,0,none⟩)/\σ_ 4=jV x80/\PHeap.Le bg U_/\sW w U U_ [.blk b2 26 B0] w_) dh ?_ ?_)))))))))
 exact ⟨bg,Z,Z,(zY _),bK⟩
 rintro x80 dN dO bD ⟨bA,bh,bi,bQ,bt⟩ bO bL
 refine zI (sR fL5 Z (oM Z bi (oR Z (zF Z bh zB Z zm) (oL Z (bt.ldB (j:=0) Z Z Z ZO (v:=.slice am p0.Across.length aq) Z) (oR Z (ZH Z Z zp) (oR Z (zf Z Z Z) (eN ?_)))))))
 by_cases ak:x80 < (↑p0.Across.length:Int)
 have bN:=bO;rw [if_pos ak] at bN;replace ak:=zG ak
 refine cT Z ak (kN (zI (zh (zI (ZJ ZK [3,1,3,3,3,1,3,1,3,3,1,2,3] (wNO (.fx 11 (.fl 12 .nil) .stop)) (by kernel_rfl) ?_)))))
 have az:=bt.drew
 generalize hw_W96:({ bD with drawn:=bD.drawn + 1 }:World)=bT at az ⊢
 refine oR Z (zF Z bh zB Z zm) (oL Z (az.ldB (j:=0) Z Z Z ZO (v:=.slice am p0.Across.length aq) Z) (oM Z bi (oR Z (Zh Z Z Z) (bnK bN fun bw bq dk=>?_))))
 have bW:=bG.le dr
 have bF:=bW.le bQ
 have q:=bF.el (fun _=>rfl) (wBe bq)
 obtain ⟨dC,dE,cp,cr⟩:=q
 refine oR Z (ZI Z Z cp Z zp zr (wEL bq) (wEp bq)) (oL Z (az.ldCA (f:=0) cr Z Z Zg zr (us:=[jV bw.Skier,jV bw.Lane]) Z Z) (oR Z (zF Z bh zB Z zm) (oL Z (az.ldB (j:=0) Z Z Z ZO (v:=.slice am p0.Across.length aq) Z) (oM Z bi (bnK dk fun bv bp cL=>?_)))))
 have q:=bF.el (fun _=>rfl) (wBe bp)
 obtain ⟨dD,dF,cq,ct⟩:=q
 refine oR Z (ZI Z Z cq Z zp zr (wEL bp) (wEp bp)) (oL Z (az.ldCA (f:=0) ct Z Z Zg zr (us:=[jV bv.Skier,jV bv.Lane]) Z Z) (bnK cL fun dL bX cM=>zQ 0 Z Z Z Z (zN Z Z Try.call76 (zE Z (zE Z zS)) Z) az (fun hs=>wHK bw bv bT bA hs bX) (.inr Z) ?_))
 rintro bj dv dG bR dm cz ⟨rfl,rfl⟩
 have bI:sW w U bj [.blk b2 26 B0] bR:=cz
 refine oR Z (ZN Z Z) (eN (ifc cM ?_ ?_))
 intro bl cN
 refine zk (nC bl.out) (ZM (zi (zH (rR fL3 Z (oM Z bi (oR Z (zW Z Z Z) (oA Z Z (zo ?_))))))))
 have q:=nD cN
 obtain rfl:=q
 exact zH ⟨Z,_,Z,⟨bj,bh,Z,(bQ.trans dm),bI⟩⟩
 intro bl cO
 refine zx (nF (bl.out)) (sR fL1 Z (oA Z Z (eN (zR (zt (zg ?_))))))
 have q:=wCB cO
 obtain ⟨dt,cP,bU⟩:=q
 have q:=bL dt bU
 obtain rfl:=q
 refine zg (zt (zg ?_))
 cases cP
 exact ⟨rfl,_,(zz rfl),bj,_,(bI.pick [] _ (by decide) rfl),rfl,rfl⟩
 have bM:=bO;rw [if_neg ak] at bM;replace ak:=zG ak
 refine cF Z ak (ZS (zn ?_))
 have q:=wCB bM
 obtain ⟨du,cQ,bV⟩:=q
 have q:=bL du bV
 obtain rfl:=q
 refine zn (ZL (zH (sR fL1 Z (oA Z Z (eN (zR ?_))))))
 cases cQ
 exact ⟨rfl,_,(zz rfl),bA,_,(bt.pick [] _ (by decide) rfl),rfl,rfl⟩
 intro bo cR
 refine zx (nF (bo.out)) (sR fL1 Z (oA Z Z (eN (zR (zt (zg ?_))))))
 cases cR
 exact ⟨rfl,_,(zz rfl),bg,_,(bK.pick [] _ (by decide) rfl),rfl,rfl⟩
 intro bn cS
 refine zx (nF (bn.out)) (sR fL1 Z (oA Z Z (eN (zR (zt (zg ?_))))))
 cases cS
 exact ⟨rfl,_,(zz rfl),bz,_,(bs.pick [] _ (by decide) rfl),rfl,rfl⟩
 intro ae cU
 refine zU Z Z Z (zM Z Z (nF (ae.out)) Z) (zU Z Z Z (zM Z Z (nF (ae.out)) Z) (Zb Z Z Z (zM Z Z (nF (ae.out)) Z) (zU Z Z Z (zM Z Z (nF (ae.out)) Z) (oR Z (zd Z (nF (ae.out)) Z) (oA Z Z (eN (zx Z (sR fL1 Z (oA Z Z (eN (zR (zt (zg ?_)))))))))))))
 cases cU
 exact ⟨rfl,_,(zz rfl),be,_,(br.pick [] _ (by decide) rfl),rfl,rfl⟩
 intro bm cV
 refine cT Z bm (sR fL1 Z (oA Z Z (eN (zR (zt (zg ?_))))))
 cases cV
 exact ⟨rfl,_,(zz rfl),aZ,_,(av.pick [] _ (by decide) rfl),rfl,rfl⟩
 intro ab cW
 refine zU Z Z Z (zM Z Z (nF (ab.out)) Z) (zU Z Z Z (zM Z Z (nF (ab.out)) Z) (zU Z Z Z (zM Z Z (nF (ab.out)) Z) (zU Z Z Z (zM Z Z (nF (ab.out)) Z) (zU Z Z Z (zM Z Z (nF (ab.out)) Z) (oR Z (zd Z (nF (ab.out)) Z) (oA Z Z (eN (zx Z (sR fL1 Z (oA Z Z (eN (zR (zt (zg ?_))))))))))))))
 cases cW
 exact ⟨rfl,_,(zz rfl),aZ,_,(av.pick [] _ (by decide) rfl),rfl,rfl⟩
theorem wDc (p0:wAC) (au:Option Addr) (av:Nat) (aU:Option Addr) (aV:Nat) (ak:Option Addr) (am:Nat) (w:World) (U:PHeap) (hS:St0 w U []) (cO:Sl U 1 au av p0.Shots.length (hH KL.encI p0.Shots)) (cP:Sl U 1 aU aV p0.Down.length (hH KL.encI p0.Down)) (bM:Sl U 2 ak am p0.Across.length (hH wAB p0.Across)) {r:wAD} (hm:wBR p0=some r):Gv Try.prog 42 [.agg #[.slice au p0.Shots.length av,.slice aU p0.Down.length aV,.slice ak p0.Across.length am]] w (wCb w [] U (fun U_ L_ v=>∃ (b0:Nat) (A0p00:Option Addr) (c0p00:Nat) (A0p01:Option Addr) (c0p01:Nat) (A0p02:Option Addr) (c0p02:Nat) (m0p1:Nat) (es0p1:Array MapEntry) (ck0p1:Nat),v=.pointer (some ⟨b0,0,none⟩)/\L_=[.blk b0 67 ([.slice A0p00 r.Bout.Shots.length c0p00,.slice A0p01 r.Bout.Down.length c0p01,.slice A0p02 r.Bout.Across.length c0p02,.map (some m0p1)] ++ ((hH KL.encI r.hits.l) ++ ((hH KL.encI r.used.l) ++ (hH KL.encT r.met.l)))),.obj m0p1 (.map es0p1 ck0p1)]/\Sl U_ 1 A0p00 c0p00 r.Bout.Shots.length (hH KL.encI r.Bout.Shots)/\Sl U_ 1 A0p01 c0p01 r.Bout.Down.length (hH KL.encI r.Bout.Down)/\Sl U_ 2 A0p02 c0p02 r.Bout.Across.length (hH wAB r.Bout.Across)/\MpR es0p1 wGK wGi r.may)):=by
 unfold wBR at hm
 refine Gv.of Try.func42 Z Try.ntmps42 Try.results42 Z (sR gAg Z ?_)
 let B0:List Value:=[.slice au p0.Shots.length av,.slice aU p0.Down.length aV,.slice ak p0.Across.length am]
 refine ZR (cs:=B0) rfl rfl rfl rfl rfl rfl (by rfl) hS ?_
 intro W1 b2 bJ
 refine oA Z Z (eN (sR (.fl 0 (.fx 1 (.fl 2 gAk) .stop)) Z (oL Z (bJ.ldBA (j:=0) Z Z Z Zc zj (vs:=B0) Z Z) (OKS.makeMap Z Z Z Z Z bJ ?_))))
 intro W5 b6 cN
 have de:=MpR.nil wGK wGi
 let B1:List Value:=[.slice au p0.Shots.length av,.slice aU p0.Down.length aV,.slice ak p0.Across.length am,.map (some b6),jV 0,jV 0,jV 0,jV 0,jV 0,jV 0,jV 0,jV 0,jV 0,jV 0,jV 0,jV 0,jV 0,jV 0,jV 0,jV 0,jV 0,jV 0,jV 0,jV 0,jV 0,jV 0,jV 0,jV 0,jV 0,jV 0,jV 0,jV 0,jV 0,jV 0,jV 0,jV 0,jV 0,jV 0,jV 0,jV 0,jV 0,jV 0,jV 0,jV 0,jV 0,jV 0,jV 0,jV 0,jV 0,jV 0,jV 0,jV 0,jV 0,jV 0,jV 0,jV 0,jV 0,jV 0,jV 0,jV 0,jV 0,jV 0,jV 0,jV 0,jV 0,jV 0,jV 0,jV 0,jV 0,jV 0,jV 0,jV 0,jV 0,jV 0,jV 0,jV 0,.bool false,.bool false,.bool false,.bool false,.bool false,.bool false,.bool false,.bool false,.bool false,.bool false,.bool false,.bool false,.bool false,.bool false,.bool false,.bool false]
 refine zK rfl rfl rfl rfl (fun _=>ZQ (pv:=[(0,.agg B0.toArray),(1,.map (some b6))]) (z:=[.slice none 0 0,.slice none 0 0,.slice none 0 0,.map none,jV 0,jV 0,jV 0,jV 0,jV 0,jV 0,jV 0,jV 0,jV 0,jV 0,jV 0,jV 0,jV 0,jV 0,jV 0,jV 0,jV 0,jV 0,jV 0,jV 0,jV 0,jV 0,jV 0,jV 0,jV 0,jV 0,jV 0,jV 0,jV 0,jV 0,jV 0,jV 0,jV 0,jV 0,jV 0,jV 0,jV 0,jV 0,jV 0,jV 0,jV 0,jV 0,jV 0,jV 0,jV 0,jV 0,jV 0,jV 0,jV 0,jV 0,jV 0,jV 0,jV 0,jV 0,jV 0,jV 0,jV 0,jV 0,jV 0,jV 0,jV 0,jV 0,jV 0,jV 0,jV 0,jV 0,jV 0,jV 0,jV 0,jV 0,jV 0,jV 0,.bool false,.bool false,.bool false,.bool false,.bool false,.bool false,.bool false,.bool false,.bool false,.bool false,.bool false,.bool false,.bool false,.bool false,.bool false,.bool false]) (cs:=B1) rfl (wAJ rfl (wAJ rfl wAc)) Try.zeroValue67 wMd rfl rfl) (ZR (cs:=B1) rfl rfl rfl rfl rfl rfl (by rfl) cN ?_)
 intro dm ai bI
 refine oA Z Z (eN (zI (sR fL4 Z (oR Z (zF Z Z zB Z zO) (oL Z (bI.ldB (j:=2) Z Z Z zV (v:=.slice au p0.Shots.length av) Z) (oR Z (ZH Z Z zA) (oM Z Z (eN (zh (bnK hm fun dC cQ cY=>?_))))))))))
 have q:=wBp cQ
 obtain ⟨bl,cR⟩:=q
 replace bl:=zG bl
 refine CK.forN' (fun ab bN σ_ w_=>∃ (U_:PHeap) (bg:Array MapEntry) (bv:Nat),σ_ 14=jV (↑ab:Int)/\σ_ 1=.pointer (some ⟨b2,0,none⟩)/\σ_ 3=.pointer (some ⟨ai,0,none⟩)/\σ_ 13=jV (↑p0.Shots.length:Int)/\PHeap.Le U U_/\sW w U U_ [.blk ai 67 B1,.obj b6 (.map bg bv),.blk b2 26 B0] w_/\MpR bg wGK wGi bN) cR ?_ ?_ ?_
 exact ⟨U,#[],0,Z,Z,Z,Z,(zY _),bI,de⟩
 rintro ab bN dA dF dt bk ⟨bo,bg,bv,bi,b9,bE,bF,dh,bK,cA⟩ df
 have bt:Hid ((↑ab:Int) < (↑p0.Shots.length:Int)):=zG (wBx bk)
 replace bk:=zG bk
 have cW:Hid (w64 ((↑ab:Int) + 1)=(↑(ab + 1):Int)):=zG (by have h1:=bl.out;have h2:=bt.out;rw [wAf] <;> omega)
 refine sR fL1 rfl (zK rfl rfl rfl rfl (fun _=>zf rfl bi bF) (eN (zI (cT Z bt (kN (zI (zh (sR fL2 rfl (zZ rfl rfl rfl rfl rfl bi (OKS.ra rfl rfl rfl rfl rfl rfl (eN (rR (wHO (.fx 7 .nil .stop)) rfl (zZ rfl rfl rfl rfl rfl bE (zK rfl rfl rfl rfl (fun _=>ze rfl rfl) (zK rfl rfl rfl rfl (fun _=>zF rfl rfl zL rfl Try.sizeOf60) (zl rfl rfl rfl rfl (bK.ldB (j:=0) rfl rfl rfl Try.isAgg60 (v:=.map (some b6)) rfl) rfl (zZ rfl rfl rfl rfl rfl rfl (zZ rfl rfl rfl rfl rfl rfl (zK rfl rfl rfl rfl (fun _=>ZQ (pv:=[(0,jV (↑ab:Int)),(1,jV (↑ab:Int))]) (z:=[jV 0,jV 0]) (cs:=[jV (↑ab:Int),jV (↑ab:Int)]) rfl (wAJ rfl (wAJ rfl wAc)) zy wCR rfl rfl) (OKS.mapPut (x:=.tmp 20) (y:=.tmp 23) (j:=1) (mk:=wGK) (mv:=wGi) (a:=(⟨(↑ab:Int),(↑ab:Int)⟩:wAA)) (v:=true) rfl rfl rfl (by first | exact .inl rfl | exact .inr rfl) bK rfl rfl rfl rfl (wDW Try.runUnderlying60) wJV cA rfl ?_))))))))))))))))))))
 intro bA bw bS db cL
 have cM:sW w U bo [.blk ai 67 B1,.obj b6 (.map bA bw),.blk b2 26 B0] bS:=cL
 refine zo (zi (zH (rR fL2 Z (oR Z (zw (zW Z bi Z) (congrArg (jV) cW.out)) (oM Z Z (zo ?_))))))
 cases df
 exact zH ⟨Z,⟨bo,bA,bw,Z,b9,bE,bF,dh,cM,db⟩⟩
 rintro dG dv ⟨bp,bY,bV,cj,cd,cf,cg,ba,bL,cB⟩
 have bW:Hid (¬ ((↑(((↑p0.Shots.length:Int):Int) - 0).toNat:Int) < (↑p0.Shots.length:Int))):=zG (wBQ)
 refine sR fL1 Z (oR Z (zf Z cj cg) (eN (zI (cF Z bW (ZS (zn (zn (ZL (zH (zI (sR fL4 Z (oR Z (zF Z cd zB Z zm) (oL Z (bL.ldB (j:=2) Z Z Z ZO (v:=.slice ak p0.Across.length am) Z) (oR Z (ZH Z Z zp) (oM Z Z (eN (zh (bnK cY fun dD cS cZ=>?_))))))))))))))))))
 have q:=wBp cS
 obtain ⟨bm,cU⟩:=q
 replace bm:=zG bm
 refine CK.forN' (fun az bO σ_ w_=>∃ (U_:PHeap) (aY:Array MapEntry) (bf:Nat),σ_ 28=jV (↑az:Int)/\σ_ 3=.pointer (some ⟨ai,0,none⟩)/\σ_ 26=.slice ak p0.Across.length am/\σ_ 27=jV (↑p0.Across.length:Int)/\PHeap.Le bp U_/\sW w U U_ [.blk ai 67 B1,.obj b6 (.map aY bf),.blk b2 26 B0] w_/\MpR aY wGK wGi bO) cU ?_ ?_ ?_
 exact ⟨bp,bY,bV,Z,cf,Z,Z,(zY _),bL,cB⟩
 rintro az bO dB dH dw bj ⟨bb,aY,bf,bh,bB,bC,bD,bP,bH,cn⟩ dg
 have bs:Hid ((↑az:Int) < (↑p0.Across.length:Int)):=zG (wBx bj)
 replace bj:=zG bj
 have cV:Hid (w64 ((↑az:Int) + 1)=(↑(az + 1):Int)):=zG (by have h1:=bm.out;have h2:=bs.out;rw [wAf] <;> omega)
 refine sR fL1 Z (oR Z (zf Z bh bD) (eN (zI (cT Z bs (kN (zI (zh (sR gAy Z (bnK dg fun aW bG cX=>?_)))))))))
 have cp:=bM.le ba
 have cq:=cp.le bP
 have q:=cq.el (fun _=>rfl) (wBe bG)
 obtain ⟨dx,dz,cC,cD⟩:=q
 refine oR Z (ZY Z bC cC bh zp zr (wEM bG)) (oL Z (bH.ldCA (f:=0) cD Z Z Zg zr (us:=[jV aW.Skier,jV aW.Lane]) Z Z) (Za (cs:=[jV 0,jV 0]) Z Z Z Z Z zy Z bH ?_))
 intro dp br cE
 let B2:List Value:=[jV aW.Skier,jV aW.Lane]
 refine ZA (j:=0) (vs:=B2) Z Z Z Z cE Z Z Z Z zr (zD Z) Z Z Z ?_
 intro be cG
 have cH:sW w U bb [.blk br 39 B2,.blk ai 67 B1,.obj b6 (.map aY bf),.blk b2 26 B0] be:=cG
 refine eN (ZJ ZK [3,3,3,1,1,0] (wGS (.fx 5 .nil .stop)) (by kernel_rfl) ?_)
 have aZ:=cH.drew
 generalize hw_W129:({ be with drawn:=be.drawn + 1 }:World)=dq at aZ ⊢
 refine zZ rfl rfl rfl rfl rfl bB (zK rfl rfl rfl rfl (fun _=>ze rfl rfl) (zK rfl rfl rfl rfl (fun _=>zF rfl rfl zL rfl Try.sizeOf60) (zl rfl rfl rfl rfl (aZ.ldB (j:=1) rfl rfl rfl Try.isAgg60 (v:=.map (some b6)) rfl) rfl (zl rfl rfl rfl rfl (aZ.ldBA (j:=0) rfl rfl rfl Zg zr (vs:=B2) rfl rfl) rfl (OKS.mapPut (x:=.tmp 35) (y:=.tmp 36) (j:=2) (mk:=wGK) (mv:=wGi) (a:=aW) (v:=true) rfl rfl rfl (by first | exact .inl rfl | exact .inr rfl) aZ rfl rfl rfl rfl (wDW Try.runUnderlying60) wJV cn rfl ?_)))))
 intro bz bu bR da cI
 have cJ:sW w U bb [.blk br 39 B2,.blk ai 67 B1,.obj b6 (.map bz bu),.blk b2 26 B0] bR:=cI
 refine zo (zi (zH (rR fL2 Z (oR Z (zw (zW Z bh Z) (congrArg (jV) cV.out)) (oM Z Z (zo ?_))))))
 cases cX
 exact zH ⟨rfl,⟨bb,bz,bu,rfl,bB,bC,bD,bP,(cJ.pick [1,2,3] _ (by decide) rfl),da⟩⟩
 rintro dE dr ⟨bQ,bX,bT,ci,bZ,dy,b5,bn,cK,cr⟩
 have bU:Hid (¬ ((↑(((↑p0.Across.length:Int):Int) - 0).toNat:Int) < (↑p0.Across.length:Int))):=zG (wBQ)
 refine sR fL1 Z (oR Z (zf Z ci b5) (eN (zI (cF Z bU (ZS (zn (zn (ZL (zH (sR fL2 Z (oM Z bZ (oA Z Z (eN (zR ?_))))))))))))))
 have ct:=cO.le ba
 have cu:=ct.le bn
 have cw:=cP.le ba
 have cx:=cw.le bn
 have cy:=bM.le ba
 have cz:=cy.le bn
 cases cZ
 exact ⟨rfl,_,(zz rfl),bQ,_,(cK.pick [0,1] _ (by decide) rfl),ai,au,av,aU,aV,ak,am,b6,bX,bT,rfl,rfl,cu,cx,cz,cr⟩
end Go.Proofs.Ytkeeechdijfkhaa
namespace Go.Proofs.Ytkeeechdijfkhaa
open Go.KL
set_option maxHeartbeats 4000000
theorem wDp (p0:wAC) (ae:Option Addr) (aj:Nat) (ah:Option Addr) (ak:Nat) (ai:Option Addr) (am:Nat) (w:World) (U:PHeap) (hS:St0 w U []) (bl:Sl U 1 ae aj p0.Shots.length (hH KL.encI p0.Shots)) (bm:Sl U 1 ah ak p0.Down.length (hH KL.encI p0.Down)) (bn:Sl U 2 ai am p0.Across.length (hH wAB p0.Across)) {r:(Option wAD) × Int} (hm:wBY p0=some r):Gv Try.prog 36 [.agg #[.slice ae p0.Shots.length aj,.slice ah p0.Down.length ak,.slice ai p0.Across.length am]] w (wCb w [] U (fun U_ L_ v=>match r.1 with | none=>v=.tuple #[.pointer none,jV r.2]/\L_=[] | some d=>∃ (b0:Nat) (A0p00:Option Addr) (c0p00:Nat) (A0p01:Option Addr) (c0p01:Nat) (A0p02:Option Addr) (c0p02:Nat) (m0p1:Nat) (es0p1:Array MapEntry) (ck0p1:Nat),v=.tuple #[.pointer (some ⟨b0,0,none⟩),jV r.2]/\L_=[.blk b0 67 ([.slice A0p00 d.Bout.Shots.length c0p00,.slice A0p01 d.Bout.Down.length c0p01,.slice A0p02 d.Bout.Across.length c0p02,.map (some m0p1)] ++ ((hH KL.encI d.hits.l) ++ ((hH KL.encI d.used.l) ++ (hH KL.encT d.met.l)))),.obj m0p1 (.map es0p1 ck0p1)]/\Sl U_ 1 A0p00 c0p00 d.Bout.Shots.length (hH KL.encI d.Bout.Shots)/\Sl U_ 1 A0p01 c0p01 d.Bout.Down.length (hH KL.encI d.Bout.Down)/\Sl U_ 2 A0p02 c0p02 d.Bout.Across.length (hH wAB d.Bout.Across)/\MpR es0p1 wGK wGi d.may)):=by
 unfold wBY at hm
 refine Gv.of Try.func36 Z Try.ntmps36 Try.results36 Z (sR gAs Z ?_)
 let B0:List Value:=[.slice ae p0.Shots.length aj,.slice ah p0.Down.length ak,.slice ai p0.Across.length am]
 refine ZR (cs:=B0) rfl rfl rfl rfl rfl rfl (by rfl) hS ?_
 intro W1 b2 bk
 refine oA Z Z (oA Z Z (eN (zI (sR gAo Z (oL Z (bk.ldBA (j:=0) Z Z Z Zc zj (vs:=B0) Z Z) (bnK hm fun x5 h6 bH=>zQ 0 Z Z Z Z (zN Z Z Try.call56 (zE Z zS) Z) bk (fun hs=>wGQ p0 ae aj ah ak ai am W1 U hs bl bm bn h6) (.inr Z) ?_))))))
 rintro U8 L9 bL aZ az bB ⟨rfl,rfl⟩
 have av:sW w U U8 [.blk b2 26 B0] aZ:=bB
 refine oA Z Z (eN (sR fL2 Z (oM Z Z (oR Z (Ze Z Z Z) (eN (ifc bH ?_ ?_))))))
 intro au bE
 refine zk (zq (fun h=>h au.out)) (kN (sR gAz Z (oL Z (av.ldBA (j:=0) Z Z Z Zc zj (vs:=B0) Z Z) ?_)))
 have bq:=bl.le az
 have br:=bm.le az
 have bs:=bn.le az
 refine bnK bE fun x20 bt bF=>zQ 0 Z Z Z Z (zN Z Z Try.call42 (zE Z zS) Z) av (fun hs=>wDc p0 ae aj ah ak ai am aZ U8 hs bq br bs bt) (.inr Z) ?_
 rintro aY bI bM bp bK bC ⟨be,aV,bf,aW,bg,aX,bh,aU,bj,bi,rfl,rfl,bu,bv,bw,bz⟩
 have bD:sW w U aY [.blk be 67 ([.slice aV x20.Bout.Shots.length bf,.slice aW x20.Bout.Down.length bg,.slice aX x20.Bout.Across.length bh,.map (some aU)] ++ ((hH KL.encI x20.hits.l) ++ ((hH KL.encI x20.used.l) ++ (hH KL.encT x20.met.l)))),.obj aU (.map bj bi),.blk b2 26 B0] bp:=bC
 refine oA Z Z (oA Z Z (eN (zR ?_)))
 cases bF
 exact ⟨rfl,_,(wHP rfl rfl),aY,_,(bD.pick [0,1] _ (by decide) rfl),be,aV,bf,aW,bg,aX,bh,aU,bj,bi,rfl,rfl,bu,bv,bw,bz⟩
 intro au bG
 refine cT Z au (sR fL3 Z (oM Z Z (oA Z Z (oA Z Z (eN (zR (zg ?_)))))))
 cases bG
 exact ⟨rfl,_,(wHP rfl rfl),U8,_,(av.pick [] _ (by decide) rfl),rfl,rfl⟩
theorem wCO (p0:wAD) (am:Nat) (ai:Option Addr) (aq:Nat) (aj:Option Addr) (au:Nat) (ak:Option Addr) (av:Nat) (ab:Nat) (az:Array MapEntry) (aU:Nat) (p1:Int) (p2:Int) (w:World) (U:PHeap) (hS:St0 w U [.blk am 67 ([.slice ai p0.Bout.Shots.length aq,.slice aj p0.Bout.Down.length au,.slice ak p0.Bout.Across.length av,.map (some ab)] ++ ((hH KL.encI p0.hits.l) ++ ((hH KL.encI p0.used.l) ++ (hH KL.encT p0.met.l)))),.obj ab (.map az aU)]) (aW:Sl U 1 ai aq p0.Bout.Shots.length (hH KL.encI p0.Bout.Shots)) (aX:Sl U 1 aj au p0.Bout.Down.length (hH KL.encI p0.Bout.Down)) (aY:Sl U 2 ak av p0.Bout.Across.length (hH wAB p0.Bout.Across)) (aV:MpR az wGK wGi p0.may) {r:Bool} (hm:wAi p0 p1 p2=some r):Gv Try.prog 58 [.pointer (some ⟨am,0,none⟩),jV p1,jV p2] w (wCb w [.blk am 67 ([.slice ai p0.Bout.Shots.length aq,.slice aj p0.Bout.Down.length au,.slice ak p0.Bout.Across.length av,.map (some ab)] ++ ((hH KL.encI p0.hits.l) ++ ((hH KL.encI p0.used.l) ++ (hH KL.encT p0.met.l)))),.obj ab (.map az aU)] U (fun U_ L_ v=>v=.bool r/\L_=[.blk am 67 ([.slice ai p0.Bout.Shots.length aq,.slice aj p0.Bout.Down.length au,.slice ak p0.Bout.Across.length av,.map (some ab)] ++ ((hH KL.encI p0.hits.l) ++ ((hH KL.encI p0.used.l) ++ (hH KL.encT p0.met.l)))),.obj ab (.map az aU)])):=by
 unfold wAi at hm
 refine Gv.of Try.func58 Z Try.ntmps58 Try.results58 Z (sR fL1 Z (oA Z Z (eN (sR fL9 Z (oM Z Z (oR Z (ze Z Z) (oR Z (zF Z Z zL Z Try.sizeOf60) (oL Z (hS.ldB (j:=0) Z Z Z Try.isAgg60 (v:=.map (some ab)) Z) (oM Z Z (oM Z Z (oR Z (ZQ (pv:=[(0,jV p1),(1,jV p2)]) (z:=[jV 0,jV 0]) (cs:=[jV p1,jV p2]) Z (wAJ Z (wAJ Z wAc)) zy wCR Z Z) (oL Z (hS.lookup1 (j:=1) (mk:=wGK) (mv:=wGi) (a:=(⟨p1,p2⟩:wAA)) (z:=false) Z Z Z Z (wDW Try.runUnderlying60) wJV Try.zeroValue4 aV) (oA Z Z (eN (zR ?_)))))))))))))))
 cases hm
 exact ⟨Z,_,(zz Z),U,_,hS,Z,Z⟩
theorem wDd {S E:Type} (PY:S->PHeap->List Res->Prop) (PE:E->PHeap->List Res->Prop) (f:S->Int->Option (S ⊕ E)) (y:Nat) (s0:S) (p1:wAD) (bz:Nat) (ai:Nat) (bj:Option Addr) (bn:Nat) (az:Option Addr) (aU:Nat) (bk:Option Addr) (bo:Nat) (bq:Nat) (bp:Array MapEntry) (bA:Nat) (p2:Unit) (bl:Nat) (p3:Int) (bm:Nat) (w:World) (L:List Res) (U:PHeap) (hS:St ⟨w,L,U⟩ U L w) (hP:PY s0 U L) (hY:YOK Try.prog y wMb PY PE f U) (hV:∀ s_ U_ L_,PY s_ U_ L_->∃ (i_ j_:Nat) (a0_:Arr Int 64) (a1_:Arr Int 8) (a2_:Arr Bool 16),L_[i_]?=some (.blk ai 67 ([.slice bj p1.Bout.Shots.length bn,.slice az p1.Bout.Down.length aU,.slice bk p1.Bout.Across.length bo,.map (some bq)] ++ ((hH KL.encI a0_.l) ++ ((hH KL.encI a1_.l) ++ (hH KL.encT a2_.l)))))/\L_[j_]?=some (.obj bq (.map bp bA))) (bZ:Cl U bz 0 [.pointer (some ⟨ai,0,none⟩)]) (b5:Sl U 1 bj bn p1.Bout.Shots.length (hH KL.encI p1.Bout.Shots)) (b9:Sl U 1 az aU p1.Bout.Down.length (hH KL.encI p1.Bout.Down)) (cd:Sl U 2 bk bo p1.Bout.Across.length (hH wAB p1.Bout.Across)) (cf:MpR bp wGK wGi p1.may) (cg:Cl U bl 0 [.func (.func 58) #[.pointer (some ⟨ai,0,none⟩)] #[]]) (ci:Cl U bm 0 [jV p3]) {r:S ⊕ E} (hm:wAe f s0 p1 p2 p3=some r):Gv Try.prog 77 [.func (.yield y) #[] #[],.pointer (some ⟨bz,0,none⟩),.pointer (some ⟨bl,0,none⟩),.pointer (some ⟨bm,0,none⟩)] w (ItS w L U PY PE r):=by
 unfold wAe at hm
 refine Gv.of Try.func77 Z Try.ntmps77 Try.results77 Z (sR fL7 Z (oL Z (hS.ldC (f:=0) bZ (v:=.pointer (some ⟨ai,0,none⟩)) Z Z ZG Z) (oR Z (ze Z Z) (oR Z (zF Z Z zL Z zj) (oR Z (zF Z Z zB Z zO) ?_)))))
 have q:=hV _ _ _ hP
 obtain ⟨i2,j3,a6,a7,a8,cq,cS⟩:=q
 refine oL Z (hS.ldB (j:=i2) cq Z Z zV (v:=.slice az p1.Bout.Down.length aU) Z) (oR Z (ZH Z Z zA) (oM Z Z (eN (zh ?_))))
 have q:=wDV hm
 obtain ⟨cW,bf⟩:=q
 have q:=wDU bf
 obtain ⟨bi,cp⟩:=q
 replace bi:=zG bi
 refine CK.forN (fun ah bC σ_ w_=>∃ (U_:PHeap) (aj:List Res),σ_ 12=jV (↑ah:Int)/\σ_ 0=.func (.yield y) #[] #[]/\σ_ 2=.pointer (some ⟨bl,0,none⟩)/\σ_ 3=.pointer (some ⟨bm,0,none⟩)/\σ_ 11=jV (↑p1.Bout.Down.length:Int)/\PHeap.Le U U_/\St ⟨w,L,U⟩ U_ aj w_/\PY bC U_ aj) cp ?_ ?_ ?_
 exact ⟨U,L,Z,Z,Z,Z,Z,(zY _),hS,hP⟩
 rintro ah bC cX cZ bE bh ⟨aW,aj,am,aX,aY,aZ,ba,ae,be,bb⟩ cA cj
 have bs:Hid ((↑ah:Int) < (↑p1.Bout.Down.length:Int)):=zG (wBx bh)
 replace bh:=zG bh
 have bv:Hid (w64 ((↑ah:Int) + 1)=(↑(ah + 1):Int)):=zG (by have h1:=bi.out;have h2:=bs.out;rw [wAf] <;> omega)
 refine sR fL1 Z (oR Z (zf Z am ba) (eN (zI (cT Z bs (kN (zI (zh (sR fL2 Z (oM Z am (oA Z Z (eN (sR (wGJ (.fx 3 (wPw (.fx 7 gAf .stop)) .stop)) Z ?_))))))))))))
 have bO:=cg.le ae
 refine oL Z (be.ldC (f:=0) bO (v:=.func (.func 58) #[.pointer (some ⟨ai,0,none⟩)] #[]) Z aY Try.isAgg127 Z) ?_
 have bP:=ci.le ae
 refine oL Z (be.ldC (f:=0) bP (v:=jV p3) Z aZ zJ Z) (oM Z Z ?_)
 have q:=hV _ _ _ bb
 obtain ⟨cB,cC,bG,bH,bI,bg,bw⟩:=q
 have bQ:=b5.le ae
 have bR:=b9.le ae
 have bS:=cd.le ae
 refine bnK cA fun x55 bT ct=>OKS.callP (i1:=cB) (i2:=cC) (v0:=.bool x55) rfl rfl rfl rfl (zN rfl rfl Try.call58 (zE rfl (zE rfl zS)) rfl) be bg bw (fun e=>by rw [e,bw] at bg;cases bg) (fun hs=>wCO (⟨p1.Bout,p1.may,bG,bH,bI⟩:wAD) ai bj bn az aU bk bo bq bp bA p3 (↑ah:Int) bE aW hs bQ bR bS cf bT) rfl ?_
 intro bF bV
 have bt:St ⟨w,L,U⟩ aW aj bF:=bV
 refine oM Z Z (ifc ct ?_ ?_)
 intro ab cu
 refine zZ Z Z Z (zP Z Z (congrArg nA ab.out)) Z aX (zZ Z Z Z (zP Z Z (congrArg nA ab.out)) Z Z (bnK cu fun cI bU au=>OKS.yieldT 0 (a:=(↑ah:Int)) Z Z Z (zP Z Z (congrArg nA ab.out)) Z Z (zE Z zS) bt hY ae bb Z bU Z ?_))
 rintro ak aV cO br cD bu aq
 rcases cI with cG | cG
 try dsimp only at au aq
 obtain ⟨rfl,cy⟩:=aq
 have bW:St ⟨w,L,U⟩ ak aV br:=bu
 refine zK Z Z Z (zP Z Z (congrArg nA ab.out)) (fun _=>ZN Z Z) (oR Z (zd Z (congrArg nA ab.out) Z) (eN (zk Z (ZM (zi (zH (rR fL2 Z (oR Z (zw (zW Z am Z) (congrArg (jV) bv.out)) (oM Z Z (zo ?_))))))))))
 have q:=nD au
 obtain rfl:=q
 exact zH ⟨Z,_,Z,⟨ak,aV,Z,aX,aY,aZ,ba,(ae.trans cD),bW,cy⟩⟩
 try dsimp only at au aq
 obtain ⟨rfl,cz⟩:=aq
 have bX:St ⟨w,L,U⟩ ak aV br:=bu
 refine zK Z Z Z (zP Z Z (congrArg nA ab.out)) (fun _=>ZN Z Z) (oR Z (zd Z (congrArg nA ab.out) Z) (eN (zx Z (zR (zt (zg ?_))))))
 have q:=wCB au
 obtain ⟨cH,cw,bK⟩:=q
 have q:=wEN hm bf (cj cH bK)
 obtain rfl:=q
 refine zg (zt ?_)
 cases cw
 exact ⟨Z,_,(res0),ak,_,bX,cz⟩
 intro ab cx
 refine zU Z Z Z (zM Z Z (congrArg nA (nB.2 ab.out)) Z) (zU Z Z Z (zM Z Z (congrArg nA (nB.2 ab.out)) Z) (Zb Z Z Z (zM Z Z (congrArg nA (nB.2 ab.out)) Z) (zU Z Z Z (zM Z Z (congrArg nA (nB.2 ab.out)) Z) (oR Z (zX Z (congrArg nA (nB.2 ab.out)) Z) (eN (zk Z (ZM (zi (zH (rR fL2 Z (oR Z (zw (zW Z am Z) (congrArg (jV) bv.out)) (oM Z Z (zo ?_)))))))))))))
 have q:=nD cx
 obtain rfl:=q
 exact zH ⟨Z,_,Z,⟨aW,aj,Z,aX,aY,aZ,ba,ae,bt,bb⟩⟩
 rintro cY da cK ⟨bD,cJ,bM,cP,cQ,cR,bL,cV,bY,bN⟩ cn
 have cr:=wEq hm bf cn
 have bJ:Hid (¬ ((↑(((↑p1.Bout.Down.length:Int):Int) - 0).toNat:Int) < (↑p1.Bout.Down.length:Int))):=zG (wBQ)
 refine sR fL1 Z (oR Z (zf Z bM bL) (eN (zI (cF Z bJ (ZS (zn (zn (ZL ?_))))))))
 cases cr
 exact ⟨Z,_,(res0),bD,_,bY,bN⟩
theorem wEE (p0:Unit) (aj:Nat) (p1:Int) (w:World) (U:PHeap) (hS:St0 w U [])  {r:Unit} (hm:wBL p0 p1=some r):Gv Try.prog 59 [.pointer (some ⟨aj,0,none⟩),jV p1] w (wCb w [] U (fun U_ L_ v=>∃ (b0:Nat) (b1:Nat) (b2:Nat),v=.func (.func 77) #[] #[.pointer (some ⟨b0,0,none⟩),.pointer (some ⟨b1,0,none⟩),.pointer (some ⟨b2,0,none⟩)]/\L_=[]/\Cl U_ b0 0 [.pointer (some ⟨aj,0,none⟩)]/\Cl U_ b1 0 [.func (.func 58) #[.pointer (some ⟨aj,0,none⟩)] #[]]/\Cl U_ b2 0 [jV p1])):=by
 unfold wBL at hm
 refine Gv.of Try.func59 Z Try.ntmps59 Try.results59 Z (sR gAq Z ?_)
 let B0:List Value:=[.pointer (some ⟨aj,0,none⟩)]
 refine ZR (cs:=B0) rfl rfl rfl rfl rfl rfl (by rfl) hS ?_
 intro W1 b2 bm
 have q:=bm.freeze (k:=0) rfl
 obtain ⟨U5,bu,ah,bp⟩:=q
 replace ah:=Cl.of ah
 have bq:sW w U U5 [] W1:=bp
 replace ah:Cl U5 b2 0 B0:=ah
 refine ZR (cs:=[jV p1]) rfl rfl rfl rfl rfl rfl (by rfl) bq ?_
 intro be aX bh
 have q:=bh.freeze (k:=0) rfl
 obtain ⟨aq,br,ab,bi⟩:=q
 replace ab:=Cl.of ab
 have aZ:sW w U aq [] be:=bi
 replace ab:Cl aq aX 0 [jV p1]:=ab
 refine oA Z Z (eN (sR gAy Z ?_))
 have aY:=ah.le br
 refine oL Z (aZ.ldC (f:=0) aY (v:=.pointer (some ⟨aj,0,none⟩)) Z Z ZG Z) (oR Z (Runs.mkf Z (zE Z zS) zS) (Za (cs:=[.nilFunc]) Z Z Z Z Z Try.zeroValue127 Z aZ ?_))
 intro bt av bj
 let B1:List Value:=[.func (.func 58) B0.toArray #[]]
 refine ZA (j:=0) (vs:=B1) Z Z Z Z bj Z Z Z Z Try.sizeOf127 (zD Z) Z Z Z ?_
 intro aU bk
 have bl:sW w U aq [.blk av 127 B1] aU:=bk
 refine eN (sR fL2 Z ?_)
 have q:=bl.freeze (k:=0) rfl
 obtain ⟨au,ba,ae,bn⟩:=q
 replace ae:=Cl.of ae
 have bo:sW w U au [] aU:=bn
 replace ae:Cl au av 0 B1:=ae
 refine oR Z (Runs.mkf Z zS (zE Z (zE Z (zE Z zS)))) (oA Z Z (eN (zR ?_)))
 have bf:=aY.le ba
 have bg:=ab.le ba
 cases hm
 exact ⟨Z,_,(zz Z),au,_,bo,b2,av,aX,Z,Z,bf,ae,bg⟩
theorem wDe (n_:Nat):∀ (p0:Int) (p1:wAD) (bn:Nat) (ah:Nat) (ai:Option Addr) (aj:Nat) (ak:Option Addr) (aq:Nat) (am:Option Addr) (au:Nat) (ae:Nat) (av:Array MapEntry) (az:Nat) (p2:Unit) (bw:Nat) (w:World) (U:PHeap) (hS:St0 w U [.blk ah 67 ([.slice ai p1.Bout.Shots.length aj,.slice ak p1.Bout.Down.length aq,.slice am p1.Bout.Across.length au,.map (some ae)] ++ ((hH KL.encI p1.hits.l) ++ ((hH KL.encI p1.used.l) ++ (hH KL.encT p1.met.l)))),.obj ae (.map av az)]) (cf:Cl U bn 0 [.pointer (some ⟨ah,0,none⟩)]) (dQ:Sl U 1 ai aj p1.Bout.Shots.length (hH KL.encI p1.Bout.Shots)) (dR:Sl U 1 ak aq p1.Bout.Down.length (hH KL.encI p1.Bout.Down)) (dS:Sl U 2 am au p1.Bout.Across.length (hH wAB p1.Bout.Across)) (cg:MpR av wGK wGi p1.may) (dT:Cl U bw 0 [.func (.func 57) #[] #[.pointer (some ⟨bn,0,none⟩),.pointer (some ⟨bw,0,none⟩)]]) {r:Bool × (Arr Int 64 × Arr Int 8 × Arr Bool 16)} (hm:wAN n_ p0 p1 p2=some r),Gv Try.prog 57 [jV p0,.pointer (some ⟨bn,0,none⟩),.pointer (some ⟨bw,0,none⟩)] w (wCb w [.blk ah 67 ([.slice ai p1.Bout.Shots.length aj,.slice ak p1.Bout.Down.length aq,.slice am p1.Bout.Across.length au,.map (some ae)] ++ ((hH KL.encI p1.hits.l) ++ ((hH KL.encI p1.used.l) ++ (hH KL.encT p1.met.l)))),.obj ae (.map av az)] U (fun U_ L_ v=>v=.bool r.1/\L_=[.blk ah 67 ([.slice ai p1.Bout.Shots.length aj,.slice ak p1.Bout.Down.length aq,.slice am p1.Bout.Across.length au,.map (some ae)] ++ ((hH KL.encI r.2.1.l) ++ ((hH KL.encI r.2.2.1.l) ++ (hH KL.encT r.2.2.2.l)))),.obj ae (.map av az)])):=by
 induction n_ with
 | zero =>
  intros
  rename_i hm
  have gS:(none:Option (Bool × (Arr Int 64 × Arr Int 8 × Arr Bool 16)))=some _:=hm
  cases gS
 | succ n_ ih =>
  intro p0 p1 bn ah ai aj ak aq am au ae av az p2 bw w U hS cf dQ dR dS cg dT r hm
  have hm:wAt (wAN n_) p0 p1 p2=some r:=hm
  unfold wAt at hm
  refine Go.KX.Gv.ofM Try.func57 Z Try.ntmps57 Try.results57 (zD Z) ?_
  have fM:=hS.mks0
  refine sR gAl rfl (ZR (cs:=[jV p0]) rfl rfl rfl rfl rfl rfl (by rfl) fM ?_)
  intro W5 b6 gw
  refine Za (cs:=[.bool false]) Z Z Z Z Z Try.zeroValue4 Z gw ?_
  intro W9 bo fz
  refine eN (zI (ZJ ZK [1,1,3,3,3,3,0] (wIw (.fx 6 .nil .stop)) (by kernel_rfl) ?_))
  have b5:=fz.drew
  generalize hw_W14:({ W9 with drawn:=W9.drawn + 1 }:World)=iE at b5 ⊢
  refine zl rfl rfl rfl rfl (b5.ldC (f:=0) cf (v:=.pointer (some ⟨ah,0,none⟩)) rfl rfl ZG rfl) rfl (zl rfl rfl rfl rfl (b5.ldB (j:=1) rfl rfl rfl zJ (v:=jV p0) rfl) rfl (zK rfl rfl rfl rfl (fun _=>ze rfl rfl) (zK rfl rfl rfl rfl (fun _=>zF rfl rfl zL rfl Try.sizeOf65) (zK rfl rfl rfl rfl (fun _=>zw (ZF rfl rfl rfl Try.runUnderlying65 Try.sizeOf64 (by decide) (by decide)) rfl) (bnK hm fun _ bj ci=>zK rfl rfl rfl rfl (fun _=>ZF rfl rfl rfl Try.runUnderlying64 Zm (wAr bj) (wAs bj)) ?_)))))
  have gK:=Arr.at_ p1.met (k:=(8 + p0.toNat)) (by have hz0:=wAI bj;omega)
  refine ZA (j:=3) (vs:=[.bool true]) (cs':=[.slice ai p1.Bout.Shots.length aj,.slice ak p1.Bout.Down.length aq,.slice am p1.Bout.Across.length au,.map (some ae)] ++ ((hH KL.encI p1.hits.l) ++ ((hH KL.encI p1.used.l) ++ (hH KL.encT (p1.met.set (8 + p0.toNat) true).l)))) rfl rfl rfl rfl b5 rfl ((rfl:ev _ _=.pointer (some ⟨ah,84 + p0.toNat * 1,none⟩)).trans (wCl (by omega))) rfl rfl Zm (by have hz0:=wAI bj;simp only [nM,nO,nQ,wAL (f:=KL.encI) (sz:=1) (N:=64) p1.hits (fun _=>rfl) rfl,wAL (f:=KL.encI) (sz:=1) (N:=8) p1.used (fun _=>rfl) rfl,wAL (f:=KL.encT) (sz:=1) (N:=16) p1.met (fun _=>rfl) rfl];omega) rfl (wBc (n:=4) rfl (wBc (n:=64) (wAL (f:=KL.encI) (sz:=1) (N:=64) p1.hits (fun _=>rfl) rfl) (wBc (n:=8) (wAL (f:=KL.encI) (sz:=1) (N:=8) p1.used (fun _=>rfl) rfl) (wPB (sz:=1) (fo:=0) (fun _=>rfl) _ _ _ _ gK (zD rfl) rfl)))) rfl ?_
  intro eu fL
  let B0:Res:=.blk b6 3 [jV p0]
  let B1:Res:=.blk bo 4 [.bool false]
  have cQ:SW w [.blk ah 67 ([.slice ai p1.Bout.Shots.length aj,.slice ak p1.Bout.Down.length aq,.slice am p1.Bout.Across.length au,.map (some ae)] ++ ((hH KL.encI p1.hits.l) ++ ((hH KL.encI p1.used.l) ++ (hH KL.encT p1.met.l)))),.obj ae (.map av az)] U U [B1,B0,mks [],.blk ah 67 ([.slice ai p1.Bout.Shots.length aj,.slice ak p1.Bout.Down.length aq,.slice am p1.Bout.Across.length au,.map (some ae)] ++ ((hH KL.encI p1.hits.l) ++ ((hH KL.encI p1.used.l) ++ (hH KL.encT (p1.met.set (8 + p0.toNat) true).l)))),.obj ae (.map av az)] eu:=fL
  refine eN (zI (sR fL7 Z (oL Z (cQ.ldC (f:=0) cf (v:=.pointer (some ⟨ah,0,none⟩)) Z Z ZG Z) (oR Z (ze Z Z) (oR Z (zF Z Z zL Z zj) (oR Z (zF Z Z zB Z zO) (oL Z (cQ.ldB (j:=3) Z Z Z zV (v:=.slice ai p1.Bout.Shots.length aj) Z) (oR Z (ZH Z Z zA) (oM Z Z (eN (zh ?_)))))))))))
  have q:=wDV ci
  obtain ⟨iX,cd⟩:=q
  have q:=wDU cd
  obtain ⟨cV,gD⟩:=q
  replace cV:=zG cV
  refine CK.forND (fun ab (aZ,aX,bh) D_ σ_ w_=>∃ (U_:PHeap) (be:List Nat),D_=List.map Go.KX.mark be/\σ_ 19=jV (↑ab:Int)/\σ_ 1=.pointer (some ⟨bn,0,none⟩)/\σ_ 2=.pointer (some ⟨bw,0,none⟩)/\σ_ 3=.pointer (some ⟨b6,0,none⟩)/\σ_ 4=.pointer (some ⟨bo,0,none⟩)/\σ_ 18=jV (↑p1.Bout.Shots.length:Int)/\PHeap.Le U U_/\SW w [.blk ah 67 ([.slice ai p1.Bout.Shots.length aj,.slice ak p1.Bout.Down.length aq,.slice am p1.Bout.Across.length au,.map (some ae)] ++ ((hH KL.encI p1.hits.l) ++ ((hH KL.encI p1.used.l) ++ (hH KL.encT p1.met.l)))),.obj ae (.map av az)] U U_ [B1,B0,mks be,.blk ah 67 ([.slice ai p1.Bout.Shots.length aj,.slice ak p1.Bout.Down.length aq,.slice am p1.Bout.Across.length au,.map (some ae)] ++ ((hH KL.encI aZ.l) ++ ((hH KL.encI aX.l) ++ (hH KL.encT bh.l)))),.obj ae (.map av az)] w_) gD ?_ ?_ ?_
  ·exact ⟨U,[],Z,Z,Z,Z,Z,Z,Z,(zY _),cQ⟩
  ·rintro ab ⟨aZ,aX,bh⟩ i6 D_ i7 iH cU ⟨bW,be,rfl,bO,bp,cN,bN,bY,bZ,bB,gm⟩ d7 dU
   try dsimp only at d7
   have dm:Hid ((↑ab:Int) < (↑p1.Bout.Shots.length:Int)):=zG (wBx cU)
   replace cU:=zG cU
   have cS:Hid (w64 ((↑ab:Int) + 1)=(↑(ab + 1):Int)):=zG (by have h1:=cV.out;have h2:=dm.out;rw [wAf] <;> omega)
   refine sR fL1 Z (oR Z (zf Z bO bZ) (eN (zI (cT Z dm (kN (zI (zh (sR gAt Z (oM Z bO (Za (cs:=[jV 0]) Z Z Z Z Z ZC Z gm ?_))))))))))
   intro iK bb gp
   let B2:List Value:=[jV (↑ab:Int)]
   refine ZA (j:=0) (vs:=B2) Z Z Z Z gp Z Z Z Z zC (zD Z) Z Z Z ?_
   intro cE gu
   have gv:SW w [.blk ah 67 ([.slice ai p1.Bout.Shots.length aj,.slice ak p1.Bout.Down.length aq,.slice am p1.Bout.Across.length au,.map (some ae)] ++ ((hH KL.encI p1.hits.l) ++ ((hH KL.encI p1.used.l) ++ (hH KL.encT p1.met.l)))),.obj ae (.map av az)] U bW [.blk bb 3 B2,B1,B0,mks be,.blk ah 67 ([.slice ai p1.Bout.Shots.length aj,.slice ak p1.Bout.Down.length aq,.slice am p1.Bout.Across.length au,.map (some ae)] ++ ((hH KL.encI aZ.l) ++ ((hH KL.encI aX.l) ++ (hH KL.encT bh.l)))),.obj ae (.map av az)] cE:=gu
   refine eN (zI (zI (ZJ ZK [1,1,3,3,3,3,1,3,1,1,1,0,3,3] (wNO gAu) (by kernel_rfl) ?_)))
   have bu:=gv.drew
   generalize hw_W69:({ cE with drawn:=cE.drawn + 1 }:World)=de at bu ⊢
   have cP:=cf.le bB
   refine zl rfl rfl rfl rfl (bu.ldC (f:=0) cP (v:=.pointer (some ⟨ah,0,none⟩)) rfl bp ZG rfl) rfl (zl rfl rfl rfl rfl (bu.ldB (j:=0) rfl rfl rfl zJ (v:=jV (↑ab:Int)) rfl) rfl (zK rfl rfl rfl rfl (fun _=>ze rfl rfl) (zK rfl rfl rfl rfl (fun _=>zF rfl rfl zL rfl Try.sizeOf65) (zK rfl rfl rfl rfl (fun _=>zw (ZF rfl rfl rfl Try.runUnderlying65 Try.sizeOf64 (by decide) (by decide)) rfl) (bnK d7 fun _ aW ig=>zK rfl rfl rfl rfl (fun _=>ZF rfl rfl rfl Try.runUnderlying64 Zm (wAr aW) (wAs aW)) ?_)))))
   have gQ:=Arr.at_ bh (k:=ab) (by have hz0:=wAI aW;omega)
   refine zl rfl rfl rfl rfl (bu.ldB (j:=4) rfl rfl ((rfl:ev _ _=.pointer (some ⟨ah,76 + ab * 1,none⟩)).trans (wCl (by omega))) Try.isAgg4 (wCk (n:=4) rfl (wCk (n:=64) (wAL (f:=KL.encI) (sz:=1) (N:=64) aZ (fun _=>rfl) rfl) (wCk (n:=8) (wAL (f:=KL.encI) (sz:=1) (N:=8) aX (fun _=>rfl) rfl) (wPA (sz:=1) (fun _=>rfl) _ _ 0 _ gQ rfl))))) rfl (zZ rfl rfl rfl rfl rfl rfl (ifc ig ?_ ?_))
   ·intro bk ii
    refine zU Z Z Z (zM Z Z (congrArg nA bk.out) Z) (zU Z Z Z (zM Z Z (congrArg nA bk.out) Z) (zU Z Z Z (zM Z Z (congrArg nA bk.out) Z) (Zb Z Z Z (zM Z Z (congrArg nA bk.out) Z) (zU Z Z Z (zM Z Z (congrArg nA bk.out) Z) (oR Z (zd Z (congrArg nA bk.out) Z) (eN (zx Z (ZS (zn (ZL (zH (rR fL2 Z (oR Z (zw (zW Z bO Z) (congrArg (jV) cS.out)) (oM Z Z (zo ?_)))))))))))))))
    have q:=nD ii
    obtain rfl:=q
    exact zH ⟨_,rfl,⟨bW,be,rfl,rfl,bp,cN,bN,bY,bZ,bB,(bu.pick [1,2,3,4,5] _ (by decide) rfl)⟩⟩
   ·intro bk ij
    refine zl Z Z Z (zP Z Z (congrArg nA (nB.2 bk.out))) (bu.ldC (f:=0) cP (v:=.pointer (some ⟨ah,0,none⟩)) Z bp ZG Z) Z (zl Z Z Z (zP Z Z (congrArg nA (nB.2 bk.out))) (bu.ldB (j:=0) Z Z Z zJ (v:=jV (↑ab:Int)) Z) Z (zl Z Z Z (zP Z Z (congrArg nA (nB.2 bk.out))) (bu.ldB (j:=2) Z Z bN zJ (v:=jV p0) Z) Z ?_))
    have dH:=dQ.le bB
    have dI:=dR.le bB
    have dJ:=dS.le bB
    refine bnK ij fun x84 fh ik=>?_
    have gx:SW w [.blk ah 67 ([.slice ai p1.Bout.Shots.length aj,.slice ak p1.Bout.Down.length aq,.slice am p1.Bout.Across.length au,.map (some ae)] ++ ((hH KL.encI p1.hits.l) ++ ((hH KL.encI p1.used.l) ++ (hH KL.encT p1.met.l)))),.obj ae (.map av az)] U bW [.blk ah 67 ([.slice ai p1.Bout.Shots.length aj,.slice ak p1.Bout.Down.length aq,.slice am p1.Bout.Across.length au,.map (some ae)] ++ ((hH KL.encI aZ.l) ++ ((hH KL.encI aX.l) ++ (hH KL.encT bh.l)))),.obj ae (.map av az),.blk bb 3 B2,B1,B0,mks be] de:=bu.pick [4,5,0,1,2,3] _ (by decide) rfl
    refine zQ 2 Z Z Z (zP Z Z (congrArg nA (nB.2 bk.out))) (zN Z Z Try.call58 (zE Z (zE Z (zE Z zS))) Z) gx (fun hs=>wCO (⟨p1.Bout,p1.may,aZ,aX,bh⟩:wAD) ah ai aj ak aq am au ae av az (↑ab:Int) p0 de bW hs dH dI dJ cg fh) (.inl Z) ?_
    rintro br iB i3 cG bG gy ⟨rfl,rfl⟩
    have dP:SW w [.blk ah 67 ([.slice ai p1.Bout.Shots.length aj,.slice ak p1.Bout.Down.length aq,.slice am p1.Bout.Across.length au,.map (some ae)] ++ ((hH KL.encI p1.hits.l) ++ ((hH KL.encI p1.used.l) ++ (hH KL.encT p1.met.l)))),.obj ae (.map av az)] U br [.blk ah 67 ([.slice ai p1.Bout.Shots.length aj,.slice ak p1.Bout.Down.length aq,.slice am p1.Bout.Across.length au,.map (some ae)] ++ ((hH KL.encI aZ.l) ++ ((hH KL.encI aX.l) ++ (hH KL.encT bh.l)))),.obj ae (.map av az),.blk bb 3 B2,B1,B0,mks be] cG:=gy
    refine zK Z Z Z (zP Z Z (congrArg nA (nB.2 bk.out))) (fun _=>ZN Z Z) (oR Z (zX Z (congrArg nA (nB.2 bk.out)) Z) (eN (ifc ik ?_ ?_)))
    ·intro cJ il
     refine zk (nC cJ.out) (kN (zI (ZJ ZK [1,1,3,3,3,3,0] (wIw (.fx 6 .nil .stop)) (by kernel_rfl) ?_)))
     have b9:=dP.drew
     generalize hw_W98:({ cG with drawn:=cG.drawn + 1 }:World)=iL at b9 ⊢
     have bE:=cP.le bG
     refine zl rfl rfl rfl rfl (b9.ldC (f:=0) bE (v:=.pointer (some ⟨ah,0,none⟩)) rfl bp ZG rfl) rfl (zl rfl rfl rfl rfl (b9.ldB (j:=2) rfl rfl rfl zJ (v:=jV (↑ab:Int)) rfl) rfl (zK rfl rfl rfl rfl (fun _=>ze rfl rfl) (zK rfl rfl rfl rfl (fun _=>zF rfl rfl zL rfl Try.sizeOf65) (zK rfl rfl rfl rfl (fun _=>zw (ZF rfl rfl rfl Try.runUnderlying65 Try.sizeOf64 (by decide) (by decide)) rfl) (zK rfl rfl rfl rfl (fun _=>ZF rfl rfl rfl Try.runUnderlying64 Zm (wAr aW) (wAs aW)) ?_)))))
     have gE:=Arr.at_ bh (k:=ab) (by have hz0:=wAI aW;omega)
     refine ZA (j:=0) (vs:=[.bool true]) (cs':=[.slice ai p1.Bout.Shots.length aj,.slice ak p1.Bout.Down.length aq,.slice am p1.Bout.Across.length au,.map (some ae)] ++ ((hH KL.encI aZ.l) ++ ((hH KL.encI aX.l) ++ (hH KL.encT (bh.set ab true).l)))) rfl rfl rfl rfl b9 rfl ((rfl:ev _ _=.pointer (some ⟨ah,76 + ab * 1,none⟩)).trans (wCl (by omega))) rfl rfl Zm (by have hz0:=wAI aW;simp only [nM,nO,nQ,wAL (f:=KL.encI) (sz:=1) (N:=64) aZ (fun _=>rfl) rfl,wAL (f:=KL.encI) (sz:=1) (N:=8) aX (fun _=>rfl) rfl,wAL (f:=KL.encT) (sz:=1) (N:=16) bh (fun _=>rfl) rfl];omega) rfl (wBc (n:=4) rfl (wBc (n:=64) (wAL (f:=KL.encI) (sz:=1) (N:=64) aZ (fun _=>rfl) rfl) (wBc (n:=8) (wAL (f:=KL.encI) (sz:=1) (N:=8) aX (fun _=>rfl) rfl) (wPB (sz:=1) (fo:=0) (fun _=>rfl) _ _ _ _ gE (zD rfl) rfl)))) rfl ?_
     intro cy fw
     have fy:SW w [.blk ah 67 ([.slice ai p1.Bout.Shots.length aj,.slice ak p1.Bout.Down.length aq,.slice am p1.Bout.Across.length au,.map (some ae)] ++ ((hH KL.encI p1.hits.l) ++ ((hH KL.encI p1.used.l) ++ (hH KL.encT p1.met.l)))),.obj ae (.map av az)] U br [.blk ah 67 ([.slice ai p1.Bout.Shots.length aj,.slice ak p1.Bout.Down.length aq,.slice am p1.Bout.Across.length au,.map (some ae)] ++ ((hH KL.encI aZ.l) ++ ((hH KL.encI aX.l) ++ (hH KL.encT (bh.set ab true).l)))),.obj ae (.map av az),.blk bb 3 B2,B1,B0,mks be] cy:=fw
     refine eN (zI (zI (ZJ ZK [1,1,3,3,3,1,1,3,3,3,1,1,3,1,3] fL15 (by kernel_rfl) ?_)))
     have bl:=fy.drew
     generalize hw_W105:({ cy with drawn:=cy.drawn + 1 }:World)=cz at bl ⊢
     refine oL Z (bl.ldC (f:=0) bE (v:=.pointer (some ⟨ah,0,none⟩)) Z bp ZG Z) (oL Z (bl.ldB (j:=2) Z Z Z zJ (v:=jV (↑ab:Int)) Z) (oR Z (ze Z Z) (oR Z (zF Z Z zL Z Zd) (oR Z (ZF Z Z Z ZE zC (wAr aW) (wAs aW)) ?_))))
     have gF:=Arr.at_ aX (k:=ab) (by have hz0:=wAI aW;omega)
     refine zl rfl rfl rfl rfl (bl.ldB (j:=0) rfl rfl ((rfl:ev _ _=.pointer (some ⟨ah,68 + ab * 1,none⟩)).trans (wCl (by omega))) zJ (wCk (n:=4) rfl (wCk (n:=64) (wAL (f:=KL.encI) (sz:=1) (N:=64) aZ (fun _=>rfl) rfl) (wGX (sz:=1) (fun _=>rfl) _ _ 0 _ gF rfl)))) rfl (zl rfl rfl rfl rfl (bl.ldC (f:=0) bE (v:=.pointer (some ⟨ah,0,none⟩)) rfl bp ZG rfl) rfl (zK rfl rfl rfl rfl (fun _=>ze rfl rfl) (zK rfl rfl rfl rfl (fun _=>zF rfl rfl zL rfl zj) (zK rfl rfl rfl rfl (fun _=>zF rfl rfl zB rfl zO) (zl rfl rfl rfl rfl (bl.ldB (j:=0) rfl rfl rfl zV (v:=.slice ai p1.Bout.Shots.length aj) rfl) rfl (zl rfl rfl rfl rfl (bl.ldB (j:=2) rfl rfl rfl zJ (v:=jV (↑ab:Int)) rfl) rfl (bnK il fun iv dA gT=>?_)))))))
     have dB:=dH.le bG
     have q:=dB.el (fun _=>rfl) (wBe dA)
     obtain ⟨iM,iV,fj,fm⟩:=q
     refine oR Z (ZY Z Z fj Z zA zC (wEM dA)) (oL Z (bl.ldC (f:=0) fm (v:=jV iv) Z Z zJ Z) (oR Z (zf Z Z Z) (eN (ifc gT ?_ ?_))))
     ·intro cH gU
      refine cT Z cH (zI (CK.fresh fun ct bR=>?_))
      have dp:ct 1=.pointer (some ⟨bn,0,none⟩):=(bR 1).trans bp
      have eH:ct 3=.pointer (some ⟨b6,0,none⟩):=(bR 3).trans bN
      have dq:ct 4=.pointer (some ⟨bo,0,none⟩):=(bR 4).trans bY
      have dr:ct 5=.pointer (some ⟨bb,0,none⟩):=(bR 5).trans rfl
      clear bR
      refine ZJ ZK [1,1,3,3,3,1,3,3,3,3,0] (fC0_9 (.fx 10 .nil .stop)) (by kernel_rfl) ?_
      have bP:=bl.drew
      generalize hw_W124:({ cz with drawn:=cz.drawn + 1 }:World)=iC at bP ⊢
      refine oL Z (bP.ldC (f:=0) bE (v:=.pointer (some ⟨ah,0,none⟩)) Z dp ZG Z) (oL Z (bP.ldB (j:=2) Z Z dr zJ (v:=jV (↑ab:Int)) Z) (oR Z (ze Z Z) (oR Z (zF Z Z zL Z Zd) (oR Z (ZF Z Z Z ZE zC (wAr aW) (wAs aW)) ?_))))
      have gG:=Arr.at_ aX (k:=ab) (by have hz0:=wAI aW;omega)
      refine zl rfl rfl rfl rfl (bP.ldB (j:=0) rfl rfl ((rfl:ev _ _=.pointer (some ⟨ah,68 + ab * 1,none⟩)).trans (wCl (by omega))) zJ (wCk (n:=4) rfl (wCk (n:=64) (wAL (f:=KL.encI) (sz:=1) (N:=64) aZ (fun _=>rfl) rfl) (wGX (sz:=1) (fun _=>rfl) _ _ 0 _ gG rfl)))) rfl (zK rfl rfl rfl rfl (fun _=>zW rfl rfl rfl) (zK rfl rfl rfl rfl (fun _=>ze rfl rfl) (zK rfl rfl rfl rfl (fun _=>zF rfl rfl zL rfl Zd) (zK rfl rfl rfl rfl (fun _=>ZF rfl rfl rfl ZE zC (wAr aW) (wAs aW)) ?_))))
      have gH:=Arr.at_ aX (k:=ab) (by have hz0:=wAI aW;omega)
      refine ZA (j:=0) (vs:=[jV (w64 ((aX.get ab) + 1))]) (cs':=[.slice ai p1.Bout.Shots.length aj,.slice ak p1.Bout.Down.length aq,.slice am p1.Bout.Across.length au,.map (some ae)] ++ ((hH KL.encI aZ.l) ++ ((hH KL.encI (aX.set ab (w64 ((aX.get ab) + 1))).l) ++ (hH KL.encT (bh.set ab true).l)))) rfl rfl rfl rfl bP rfl ((rfl:ev _ _=.pointer (some ⟨ah,68 + ab * 1,none⟩)).trans (wCl (by omega))) rfl rfl zC (by have hz0:=wAI aW;simp only [nM,nO,nQ,wAL (f:=KL.encI) (sz:=1) (N:=64) aZ (fun _=>rfl) rfl,wAL (f:=KL.encI) (sz:=1) (N:=8) aX (fun _=>rfl) rfl,wAL (f:=KL.encT) (sz:=1) (N:=16) (bh.set ab true) (fun _=>rfl) rfl];omega) rfl (wBc (n:=4) rfl (wBc (n:=64) (wAL (f:=KL.encI) (sz:=1) (N:=64) aZ (fun _=>rfl) rfl) (wJB (sz:=1) (fo:=0) (fun _=>rfl) _ _ _ _ gH (zD rfl) rfl))) rfl ?_
      intro cA fA
      have fB:SW w [.blk ah 67 ([.slice ai p1.Bout.Shots.length aj,.slice ak p1.Bout.Down.length aq,.slice am p1.Bout.Across.length au,.map (some ae)] ++ ((hH KL.encI p1.hits.l) ++ ((hH KL.encI p1.used.l) ++ (hH KL.encT p1.met.l)))),.obj ae (.map av az)] U br [.blk ah 67 ([.slice ai p1.Bout.Shots.length aj,.slice ak p1.Bout.Down.length aq,.slice am p1.Bout.Across.length au,.map (some ae)] ++ ((hH KL.encI aZ.l) ++ ((hH KL.encI (aX.set ab (w64 ((aX.get ab) + 1))).l) ++ (hH KL.encT (bh.set ab true).l)))),.obj ae (.map av az),.blk bb 3 B2,B1,B0,mks be] cA:=fA
      refine eN (zI (ZJ ZK [1,1,1,3,3,3,3,1,3,3,3,3,3,0] (wGn (.fx 13 .nil .stop)) (by kernel_rfl) ?_))
      have bI:=fB.drew
      generalize hw_W131:({ cA with drawn:=cA.drawn + 1 }:World)=iD at bI ⊢
      refine oL Z (bI.ldC (f:=0) bE (v:=.pointer (some ⟨ah,0,none⟩)) Z dp ZG Z) (oL Z (bI.ldB (j:=2) Z Z dr zJ (v:=jV (↑ab:Int)) Z) (oL Z (bI.ldB (j:=4) Z Z eH zJ (v:=jV p0) Z) (oR Z (ze Z Z) (oR Z (zF Z Z zL Z Zn) (oR Z (ZF Z Z Z ZV Zd (wAr aW) (wAs aW)) (oR Z (ZF Z Z Z ZE zC (wAr bj) (wAs bj)) ?_))))))
      have gI:=Arr.at_ aZ (k:=(ab * 8 + p0.toNat)) (by have hz0:=wAI aW;have hz1:=wAI bj;omega)
      refine zl rfl rfl rfl rfl (bI.ldB (j:=0) rfl rfl ((rfl:ev _ _=.pointer (some ⟨ah,4 + ab * 8 + p0.toNat * 1,none⟩)).trans (wCl (by omega))) zJ (wCk (n:=4) rfl (wGX (sz:=1) (fun _=>rfl) _ _ 0 _ gI rfl))) rfl (zK rfl rfl rfl rfl (fun _=>zW rfl rfl rfl) (zK rfl rfl rfl rfl (fun _=>ze rfl rfl) (zK rfl rfl rfl rfl (fun _=>zF rfl rfl zL rfl Zn) (zK rfl rfl rfl rfl (fun _=>ZF rfl rfl rfl ZV Zd (wAr aW) (wAs aW)) (zK rfl rfl rfl rfl (fun _=>ZF rfl rfl rfl ZE zC (wAr bj) (wAs bj)) ?_)))))
      have gJ:=Arr.at_ aZ (k:=(ab * 8 + p0.toNat)) (by have hz0:=wAI aW;have hz1:=wAI bj;omega)
      refine ZA (j:=0) (vs:=[jV (w64 ((aZ.get (ab * 8 + p0.toNat)) + 1))]) (cs':=[.slice ai p1.Bout.Shots.length aj,.slice ak p1.Bout.Down.length aq,.slice am p1.Bout.Across.length au,.map (some ae)] ++ ((hH KL.encI (aZ.set (ab * 8 + p0.toNat) (w64 ((aZ.get (ab * 8 + p0.toNat)) + 1))).l) ++ ((hH KL.encI (aX.set ab (w64 ((aX.get ab) + 1))).l) ++ (hH KL.encT (bh.set ab true).l)))) rfl rfl rfl rfl bI rfl ((rfl:ev _ _=.pointer (some ⟨ah,4 + ab * 8 + p0.toNat * 1,none⟩)).trans (wCl (by omega))) rfl rfl zC (by have hz0:=wAI aW;have hz1:=wAI bj;simp only [nM,nO,nQ,wAL (f:=KL.encI) (sz:=1) (N:=64) aZ (fun _=>rfl) rfl,wAL (f:=KL.encI) (sz:=1) (N:=8) (aX.set ab (w64 ((aX.get ab) + 1))) (fun _=>rfl) rfl,wAL (f:=KL.encT) (sz:=1) (N:=16) (bh.set ab true) (fun _=>rfl) rfl];omega) rfl (wBc (n:=4) rfl (wJB (sz:=1) (fo:=0) (fun _=>rfl) _ _ _ _ gJ (zD rfl) rfl)) rfl ?_
      intro eh fC
      have fD:SW w [.blk ah 67 ([.slice ai p1.Bout.Shots.length aj,.slice ak p1.Bout.Down.length aq,.slice am p1.Bout.Across.length au,.map (some ae)] ++ ((hH KL.encI p1.hits.l) ++ ((hH KL.encI p1.used.l) ++ (hH KL.encT p1.met.l)))),.obj ae (.map av az)] U br [.blk ah 67 ([.slice ai p1.Bout.Shots.length aj,.slice ak p1.Bout.Down.length aq,.slice am p1.Bout.Across.length au,.map (some ae)] ++ ((hH KL.encI (aZ.set (ab * 8 + p0.toNat) (w64 ((aZ.get (ab * 8 + p0.toNat)) + 1))).l) ++ ((hH KL.encI (aX.set ab (w64 ((aX.get ab) + 1))).l) ++ (hH KL.encT (bh.set ab true).l)))),.obj ae (.map av az),.blk bb 3 B2,B1,B0,mks be] eh:=fC
      refine eN (sR (.fx 0 .nil .stop) Z (ZA (j:=3) (vs:=[.bool true]) Z Z Z Z fD Z dq Z Z Zm (zD Z) Z Z Z ?_))
      intro ei fE
      let B3:Res:=.blk bo 4 [.bool true]
      have fG:SW w [.blk ah 67 ([.slice ai p1.Bout.Shots.length aj,.slice ak p1.Bout.Down.length aq,.slice am p1.Bout.Across.length au,.map (some ae)] ++ ((hH KL.encI p1.hits.l) ++ ((hH KL.encI p1.used.l) ++ (hH KL.encT p1.met.l)))),.obj ae (.map av az)] U br [.blk ah 67 ([.slice ai p1.Bout.Shots.length aj,.slice ak p1.Bout.Down.length aq,.slice am p1.Bout.Across.length au,.map (some ae)] ++ ((hH KL.encI (aZ.set (ab * 8 + p0.toNat) (w64 ((aZ.get (ab * 8 + p0.toNat)) + 1))).l) ++ ((hH KL.encI (aX.set ab (w64 ((aX.get ab) + 1))).l) ++ (hH KL.encT (bh.set ab true).l)))),.obj ae (.map av az),.blk bb 3 B2,B3,B0,mks be] ei:=fE
      refine eN (zR (zg (zt (zg ?_))))
      have q:=wCB gU
      obtain ⟨iq,gW,eF⟩:=q
      have q:=wEN ci cd (dU iq eF)
      obtain rfl:=q
      refine zg (zt (zg (wGx (by first | exact .inl rfl | exact .inr rfl) (rbs:=be) (L:=[.blk ah 67 ([.slice ai p1.Bout.Shots.length aj,.slice ak p1.Bout.Down.length aq,.slice am p1.Bout.Across.length au,.map (some ae)] ++ ((hH KL.encI (aZ.set (ab * 8 + p0.toNat) (w64 ((aZ.get (ab * 8 + p0.toNat)) + 1))).l) ++ ((hH KL.encI (aX.set ab (w64 ((aX.get ab) + 1))).l) ++ (hH KL.encT (bh.set ab true).l)))),.obj ae (.map av az),.blk bb 3 B2,B3,B0]) (fG.pick [5,0,1,2,3,4] _ (by decide) rfl) fun ej fH=>?_)))
      have dK:SW w [.blk ah 67 ([.slice ai p1.Bout.Shots.length aj,.slice ak p1.Bout.Down.length aq,.slice am p1.Bout.Across.length au,.map (some ae)] ++ ((hH KL.encI p1.hits.l) ++ ((hH KL.encI p1.used.l) ++ (hH KL.encT p1.met.l)))),.obj ae (.map av az)] U br [.blk ah 67 ([.slice ai p1.Bout.Shots.length aj,.slice ak p1.Bout.Down.length aq,.slice am p1.Bout.Across.length au,.map (some ae)] ++ ((hH KL.encI (aZ.set (ab * 8 + p0.toNat) (w64 ((aZ.get (ab * 8 + p0.toNat)) + 1))).l) ++ ((hH KL.encI (aX.set ab (w64 ((aX.get ab) + 1))).l) ++ (hH KL.encT (bh.set ab true).l)))),.obj ae (.map av az),.blk bb 3 B2,B3,B0] ej:=fH
      cases gW
      exact ⟨_,(wJc (v:=.bool true) ⟨⟨_,dq,(wNX Try.isAgg4 (dK.blkAt (k:=3) rfl) rfl)⟩,trivial⟩),br,_,(dK.pick [0,1] _ (by decide) rfl),rfl,rfl⟩
     ·intro cH gX
      refine cF Z cH (kN (sR gAv Z (oL Z (bl.ldC (f:=0) bE (v:=.pointer (some ⟨ah,0,none⟩)) Z bp ZG Z) (oL Z (bl.ldB (j:=2) Z Z Z zJ (v:=jV (↑ab:Int)) Z) ?_))))
      have q:=bnd gX
      obtain ⟨⟨⟩,eU,dV⟩:=q
      try dsimp only at dV
      refine zQ 0 Z Z Z Z (zN Z Z Try.call59 (zE Z (zE Z zS)) Z) bl (fun hs=>wEE () ah (↑ab:Int) cz br hs eU) (.inr Z) ?_
      rintro da iw iZ en bK fJ ⟨dg,dh,dk,rfl,rfl,eV,eW,eX⟩
      have fK:SW w [.blk ah 67 ([.slice ai p1.Bout.Shots.length aj,.slice ak p1.Bout.Down.length aq,.slice am p1.Bout.Across.length au,.map (some ae)] ++ ((hH KL.encI p1.hits.l) ++ ((hH KL.encI p1.used.l) ++ (hH KL.encT p1.met.l)))),.obj ae (.map av az)] U da [.blk ah 67 ([.slice ai p1.Bout.Shots.length aj,.slice ak p1.Bout.Down.length aq,.slice am p1.Bout.Across.length au,.map (some ae)] ++ ((hH KL.encI aZ.l) ++ ((hH KL.encI aX.l) ++ (hH KL.encT (bh.set ab true).l)))),.obj ae (.map av az),.blk bb 3 B2,B1,B0,mks be] en:=fJ
      refine eN (zh (CK.fresh fun bA bv=>?_))
      have dt:bA 1=.pointer (some ⟨bn,0,none⟩):=(bv 1).trans bp
      have du:bA 2=.pointer (some ⟨bw,0,none⟩):=(bv 2).trans cN
      have dv:bA 3=.pointer (some ⟨b6,0,none⟩):=(bv 3).trans bN
      have cK:bA 4=.pointer (some ⟨bo,0,none⟩):=(bv 4).trans bY
      have eI:bA 5=.pointer (some ⟨bb,0,none⟩):=(bv 5).trans rfl
      have dw:bA 18=jV (↑p1.Bout.Shots.length:Int):=(bv 18).trans bZ
      have dx:bA 19=jV (↑ab:Int):=(bv 19).trans bO
      have eJ:bA 82=.func (.func 77) #[] #[.pointer (some ⟨dg,0,none⟩),.pointer (some ⟨dh,0,none⟩),.pointer (some ⟨dk,0,none⟩)]:=(bv 82).trans rfl
      clear bv
      refine bnK dV fun d9 gR cj=>?_
      have dC:=dB.le bK
      have eY:=dI.le bG
      have dD:=eY.le bK
      have eZ:=dJ.le bG
      have dE:=eZ.le bK
      refine CK.rangeYV (fun U_ L_=>∃ (i_ j_:Nat) (a0_:Arr Int 64) (a1_:Arr Int 8) (a2_:Arr Bool 16),L_[i_]?=some (.blk ah 67 ([.slice ai p1.Bout.Shots.length aj,.slice ak p1.Bout.Down.length aq,.slice am p1.Bout.Across.length au,.map (some ae)] ++ ((hH KL.encI a0_.l) ++ ((hH KL.encI a1_.l) ++ (hH KL.encT a2_.l)))))/\L_[j_]?=some (.obj ae (.map av az))) (by rintro _ _ _ ⟨i,j,a0,a1,a2,hi,hj⟩;exact ⟨i + 1,j + 1,a0,a1,a2,hi,hj⟩) (S:=(Arr Int 64) × (Arr Int 8) × (Arr Bool 16)) (E:=(Arr Int 64) × (Arr Int 8) × (Arr Bool 16) × Bool) (ar:=wMb) (PY:=(fun (s_:(Arr Int 64) × (Arr Int 8) × (Arr Bool 16)) (U_:PHeap) (L_:List Res)=>match s_ with | (a303,a304,a305)=>L_=[.blk ah 67 ([.slice ai p1.Bout.Shots.length aj,.slice ak p1.Bout.Down.length aq,.slice am p1.Bout.Across.length au,.map (some ae)] ++ ((hH KL.encI a303.l) ++ ((hH KL.encI a304.l) ++ (hH KL.encT a305.l)))),.obj ae (.map av az),.blk bb 3 [jV (↑ab:Int)],B1,B0,mks be])) (PE:=(fun (s_:(Arr Int 64) × (Arr Int 8) × (Arr Bool 16) × Bool) (U_:PHeap) (L_:List Res)=>match s_ with | (a314,a315,a316,b317)=>L_=[.blk ah 67 ([.slice ai p1.Bout.Shots.length aj,.slice ak p1.Bout.Down.length aq,.slice am p1.Bout.Across.length au,.map (some ae)] ++ ((hH KL.encI a314.l) ++ ((hH KL.encI a315.l) ++ (hH KL.encT a316.l)))),.obj ae (.map av az),.blk bb 3 [jV (↑ab:Int)],.blk bo 4 [.bool b317],B0,mks be])) (exO:=(fun _=>.ret)) (s0:=(aZ,aX,(bh.set ab true))) (rr:=d9) eJ Try.call77 fK (by decide) (fun _ _ _ h=>by obtain rfl:=h;rfl) (fun _=>.inl rfl) rfl (by rintro ⟨a303,a304,a305⟩ _ _ rfl;exact ⟨0,1,a303,a304,a305,rfl,rfl⟩) (fun l w1 L1 PY' PE' fu fq gA gz=>wDd PY' PE' _ l _ (⟨p1.Bout,p1.may,aZ,aX,(bh.set ab true)⟩:wAD) dg ah ai aj ak aq am au ae av az () dh (↑ab:Int) dk w1 L1 da fu fq gA gz eV dC dD dE cg eW eX gR) ?_ ?_
      ·rintro bF iY iT ⟨a303,a304,a305⟩ aY i4 iW cn iy iu ip bC bT fN ft gB cR bz bm
       obtain rfl:=ft
       obtain rfl:=gB
       replace bm:∀ t,bz t=upd bA 83 (jV aY) t:=bm
       have eK:bz 83=jV aY:=(bm 83).trans (wCA _ _ _)
       have cL:bz 1=.pointer (some ⟨bn,0,none⟩):=(bm 1).trans ((wBv _ _ (by decide)).trans dt)
       have eL:bz 2=.pointer (some ⟨bw,0,none⟩):=(bm 2).trans ((wBv _ _ (by decide)).trans du)
       have dy:bz 3=.pointer (some ⟨b6,0,none⟩):=(bm 3).trans ((wBv _ _ (by decide)).trans dv)
       have eM:bz 4=.pointer (some ⟨bo,0,none⟩):=(bm 4).trans ((wBv _ _ (by decide)).trans cK)
       have cM:bz 5=.pointer (some ⟨bb,0,none⟩):=(bm 5).trans ((wBv _ _ (by decide)).trans eI)
       have iN:bz 18=jV (↑p1.Bout.Shots.length:Int):=(bm 18).trans ((wBv _ _ (by decide)).trans dw)
       have iO:bz 19=jV (↑ab:Int):=(bm 19).trans ((wBv _ _ (by decide)).trans dx)
       clear bm
       have fO:St bC cn [.obj bF ip,.blk ah 67 ([.slice ai p1.Bout.Shots.length aj,.slice ak p1.Bout.Down.length aq,.slice am p1.Bout.Across.length au,.map (some ae)] ++ ((hH KL.encI a303.l) ++ ((hH KL.encI a304.l) ++ (hH KL.encT a305.l)))),.obj ae (.map av az),.blk bb 3 B2,B1,B0,mks be] iu:=fN
       try dsimp only at cR
       refine rR fL1 Z (oA Z eK (zo ⟨Z,Z,_,_,fO,fun cB bL fP=>?_⟩))
       have fQ:St bC cn [.obj bF bL,.blk ah 67 ([.slice ai p1.Bout.Shots.length aj,.slice ak p1.Bout.Down.length aq,.slice am p1.Bout.Across.length au,.map (some ae)] ++ ((hH KL.encI a303.l) ++ ((hH KL.encI a304.l) ++ (hH KL.encT a305.l)))),.obj ae (.map av az),.blk bb 3 B2,B1,B0,mks be] cB:=fP
       refine zh (zI (ZJ ZK [3,1,3,3,1,1,3,3,3,3,3,1,3,3,3,1,3,0,3] (wPu gAm) (by kernel_rfl) ?_))
       have bt:=fQ.drew
       generalize hw_W362:({ cB with drawn:=cB.drawn + 1 }:World)=db at bt ⊢
       refine oM Z Z (oL Z (bt.ldB (j:=5) Z Z dy zJ (v:=jV p0) Z) (oR Z (Ze Z Z Z) (oM Z Z ?_)))
       by_cases bf:aY=p0
       ·have dW:=cR;rw [if_pos bf] at dW;replace bf:=zG bf
        refine zU Z Z Z (zM Z Z (zq (fun h=>h bf.out)) Z) (zU Z Z Z (zM Z Z (zq (fun h=>h bf.out)) Z) (zU Z Z Z (zM Z Z (zq (fun h=>h bf.out)) Z) (zU Z Z Z (zM Z Z (zq (fun h=>h bf.out)) Z) (zU Z Z Z (zM Z Z (zq (fun h=>h bf.out)) Z) (zU Z Z Z (zM Z Z (zq (fun h=>h bf.out)) Z) (zU Z Z Z (zM Z Z (zq (fun h=>h bf.out)) Z) (zU Z Z Z (zM Z Z (zq (fun h=>h bf.out)) Z) (zU Z Z Z (zM Z Z (zq (fun h=>h bf.out)) Z) (oR Z (zX Z (zq (fun h=>h bf.out)) Z) (oM Z Z (oN Z (oN Z (Zb Z Z Z (zM Z Z Z Z) (oR Z (zX Z Z Z) (eN (zk Z (ZM (zi ?_))))))))))))))))))
        have q:=nD dW
        obtain rfl:=q
        exact ⟨_,_,bt,Z,Z⟩
       ·have dX:=cR;rw [if_neg bf] at dX;replace bf:=zG bf
        have e8:=bE.le bK
        have cO:=e8.le bT
        refine zl Z Z Z (wT Z bf) (bt.ldC (f:=0) cO (v:=.pointer (some ⟨ah,0,none⟩)) Z cL ZG Z) Z (zl Z Z Z (wT Z bf) (bt.ldB (j:=3) Z Z cM zJ (v:=jV (↑ab:Int)) Z) Z (zZ Z Z Z (wT Z bf) Z Z (rU Z (wT Z bf) (ze Z Z) (rU Z (wT Z bf) (zF Z Z zL Z Zn) (rU Z (wT Z bf) (ZF Z Z Z ZV Zd (wAr aW) (wAs aW)) (bnK dX fun _ bq gZ=>rU Z (wT Z bf) (ZF Z Z Z ZE zC (wAr bq) (wAs bq)) ?_))))))
        have gL:=Arr.at_ a303 (k:=(ab * 8 + aY.toNat)) (by have hz0:=wAI aW;have hz1:=wAI bq;omega)
        refine zl rfl rfl rfl (zP rfl rfl (Zf bf.out)) (bt.ldB (j:=1) rfl rfl ((rfl:ev _ _=.pointer (some ⟨ah,4 + ab * 8 + aY.toNat * 1,none⟩)).trans (wCl (by omega))) zJ (wCk (n:=4) rfl (wGX (sz:=1) (fun _=>rfl) _ _ 0 _ gL rfl))) rfl (zK rfl rfl rfl (zP rfl rfl (Zf bf.out)) (fun _=>Runs.gtr rfl rfl rfl) (zK rfl rfl rfl rfl (fun _=>zd rfl (Zf bf.out) rfl) (zZ rfl rfl rfl rfl rfl rfl (ifc gZ ?_ ?_))))
        ·intro bs g7
         have e9:=dT.le bB
         have fb:=e9.le bG
         have fc:=fb.le bK
         have dF:=fc.le bT
         refine zl Z Z Z (wT Z bs) (bt.ldC (f:=0) dF (v:=.func (.func 57) #[] #[.pointer (some ⟨bn,0,none⟩),.pointer (some ⟨bw,0,none⟩)]) Z eL Try.isAgg47 Z) Z (zZ Z Z Z (wT Z bs) Z Z ?_)
         have fd:=dC.le bT
         have fe:=dD.le bT
         have ff:=dE.le bT
         have q:=bnd g7
         obtain ⟨⟨i5,aU⟩,fg,dY⟩:=q
         try dsimp only at dY
         have fR:St bC cn [.blk ah 67 ([.slice ai p1.Bout.Shots.length aj,.slice ak p1.Bout.Down.length aq,.slice am p1.Bout.Across.length au,.map (some ae)] ++ ((hH KL.encI a303.l) ++ ((hH KL.encI a304.l) ++ (hH KL.encT a305.l)))),.obj ae (.map av az),.obj bF bL,.blk bb 3 B2,B1,B0,mks be] db:=bt.pick [1,2,0,3,4,5,6] _ (by decide) rfl
         refine zQ 2 Z Z Z (wT Z bs) (zN Z Z Try.call57 (zE Z zS) Z) fR (fun hs=>ih aY (⟨p1.Bout,p1.may,a303,a304,a305⟩:wAD) bn ah ai aj ak aq am au ae av az () bw db cn hs cO fd fe ff cg dF fg) (.inl Z) ?_
         rintro bV iz i0 cC im fS ⟨rfl,rfl⟩
         have dL:St bC bV [.blk ah 67 ([.slice ai p1.Bout.Shots.length aj,.slice ak p1.Bout.Down.length aq,.slice am p1.Bout.Across.length au,.map (some ae)] ++ ((hH KL.encI aU.1.l) ++ ((hH KL.encI aU.2.1.l) ++ (hH KL.encT aU.2.2.l)))),.obj ae (.map av az),.obj bF bL,.blk bb 3 B2,B1,B0,mks be] cC:=fS
         refine oR Z (zd Z (Zf bs.out) Z) (eN (ifc dY ?_ ?_))
         ·intro cI g8
          refine zx (congrArg nA cI.out) (zI (ZJ ZK [1,1,3,3,3,3,3,1,3,3,3,3,3,0] (wGn (.fx 13 .nil .stop)) (by kernel_rfl) ?_))
          have bQ:=dL.drew
          generalize hw_W398:({ cC with drawn:=cC.drawn + 1 }:World)=iF at bQ ⊢
          have dG:=cO.le im
          refine oL Z (bQ.ldC (f:=0) dG (v:=.pointer (some ⟨ah,0,none⟩)) Z cL ZG Z) (oL Z (bQ.ldB (j:=3) Z Z cM zJ (v:=jV (↑ab:Int)) Z) (oM Z Z (oR Z (ze Z Z) (oR Z (zF Z Z zL Z Zn) (oR Z (ZF Z Z Z ZV Zd (wAr aW) (wAs aW)) (oR Z (ZF Z Z Z ZE zC (wAr bq) (wAs bq)) ?_))))))
          have gM:=Arr.at_ aU.1 (k:=(ab * 8 + aY.toNat)) (by have hz0:=wAI aW;have hz1:=wAI bq;omega)
          refine zl rfl rfl rfl rfl (bQ.ldB (j:=0) rfl rfl ((rfl:ev _ _=.pointer (some ⟨ah,4 + ab * 8 + aY.toNat * 1,none⟩)).trans (wCl (by omega))) zJ (wCk (n:=4) rfl (wGX (sz:=1) (fun _=>rfl) _ _ 0 _ gM rfl))) rfl (zK rfl rfl rfl rfl (fun _=>Zh rfl rfl rfl) (zK rfl rfl rfl rfl (fun _=>ze rfl rfl) (zK rfl rfl rfl rfl (fun _=>zF rfl rfl zL rfl Zn) (zK rfl rfl rfl rfl (fun _=>ZF rfl rfl rfl ZV Zd (wAr aW) (wAs aW)) (zK rfl rfl rfl rfl (fun _=>ZF rfl rfl rfl ZE zC (wAr bq) (wAs bq)) ?_)))))
          have gN:=Arr.at_ aU.1 (k:=(ab * 8 + aY.toNat)) (by have hz0:=wAI aW;have hz1:=wAI bq;omega)
          refine ZA (j:=0) (vs:=[jV (w64 ((aU.1.get (ab * 8 + aY.toNat)) - 1))]) (cs':=[.slice ai p1.Bout.Shots.length aj,.slice ak p1.Bout.Down.length aq,.slice am p1.Bout.Across.length au,.map (some ae)] ++ ((hH KL.encI (aU.1.set (ab * 8 + aY.toNat) (w64 ((aU.1.get (ab * 8 + aY.toNat)) - 1))).l) ++ ((hH KL.encI aU.2.1.l) ++ (hH KL.encT aU.2.2.l)))) rfl rfl rfl rfl bQ rfl ((rfl:ev _ _=.pointer (some ⟨ah,4 + ab * 8 + aY.toNat * 1,none⟩)).trans (wCl (by omega))) rfl rfl zC (by have hz0:=wAI aW;have hz1:=wAI bq;simp only [nM,nO,nQ,wAL (f:=KL.encI) (sz:=1) (N:=64) aU.1 (fun _=>rfl) rfl,wAL (f:=KL.encI) (sz:=1) (N:=8) aU.2.1 (fun _=>rfl) rfl,wAL (f:=KL.encT) (sz:=1) (N:=16) aU.2.2 (fun _=>rfl) rfl];omega) rfl (wBc (n:=4) rfl (wJB (sz:=1) (fo:=0) (fun _=>rfl) _ _ _ _ gN (zD rfl) rfl)) rfl ?_
          intro cD fT
          have fU:St bC bV [.blk ah 67 ([.slice ai p1.Bout.Shots.length aj,.slice ak p1.Bout.Down.length aq,.slice am p1.Bout.Across.length au,.map (some ae)] ++ ((hH KL.encI (aU.1.set (ab * 8 + aY.toNat) (w64 ((aU.1.get (ab * 8 + aY.toNat)) - 1))).l) ++ ((hH KL.encI aU.2.1.l) ++ (hH KL.encT aU.2.2.l)))),.obj ae (.map av az),.obj bF bL,.blk bb 3 B2,B1,B0,mks be] cD:=fT
          refine eN (zI (CK.fresh fun cu bS=>?_))
          have eO:cu 1=.pointer (some ⟨bn,0,none⟩):=(bS 1).trans cL
          have eP:cu 3=.pointer (some ⟨b6,0,none⟩):=(bS 3).trans dy
          have eQ:cu 4=.pointer (some ⟨bo,0,none⟩):=(bS 4).trans eM
          have eR:cu 5=.pointer (some ⟨bb,0,none⟩):=(bS 5).trans cM
          clear bS
          refine ZJ ZK [1,1,1,3,3,3,3,1,3,3,3,3,3,0] (wGn (.fx 13 .nil .stop)) (by kernel_rfl) ?_
          have bJ:=fU.drew
          generalize hw_W412:({ cD with drawn:=cD.drawn + 1 }:World)=iG at bJ ⊢
          refine oL Z (bJ.ldC (f:=0) dG (v:=.pointer (some ⟨ah,0,none⟩)) Z eO ZG Z) (oL Z (bJ.ldB (j:=3) Z Z eR zJ (v:=jV (↑ab:Int)) Z) (oL Z (bJ.ldB (j:=5) Z Z eP zJ (v:=jV p0) Z) (oR Z (ze Z Z) (oR Z (zF Z Z zL Z Zn) (oR Z (ZF Z Z Z ZV Zd (wAr aW) (wAs aW)) (oR Z (ZF Z Z Z ZE zC (wAr bj) (wAs bj)) ?_))))))
          have gO:=Arr.at_ (aU.1.set (ab * 8 + aY.toNat) (w64 ((aU.1.get (ab * 8 + aY.toNat)) - 1))) (k:=(ab * 8 + p0.toNat)) (by have hz0:=wAI aW;have hz1:=wAI bj;omega)
          refine zl rfl rfl rfl rfl (bJ.ldB (j:=0) rfl rfl ((rfl:ev _ _=.pointer (some ⟨ah,4 + ab * 8 + p0.toNat * 1,none⟩)).trans (wCl (by omega))) zJ (wCk (n:=4) rfl (wGX (sz:=1) (fun _=>rfl) _ _ 0 _ gO rfl))) rfl (zK rfl rfl rfl rfl (fun _=>zW rfl rfl rfl) (zK rfl rfl rfl rfl (fun _=>ze rfl rfl) (zK rfl rfl rfl rfl (fun _=>zF rfl rfl zL rfl Zn) (zK rfl rfl rfl rfl (fun _=>ZF rfl rfl rfl ZV Zd (wAr aW) (wAs aW)) (zK rfl rfl rfl rfl (fun _=>ZF rfl rfl rfl ZE zC (wAr bj) (wAs bj)) ?_)))))
          have gP:=Arr.at_ (aU.1.set (ab * 8 + aY.toNat) (w64 ((aU.1.get (ab * 8 + aY.toNat)) - 1))) (k:=(ab * 8 + p0.toNat)) (by have hz0:=wAI aW;have hz1:=wAI bj;omega)
          refine ZA (j:=0) (vs:=[jV (w64 (((aU.1.set (ab * 8 + aY.toNat) (w64 ((aU.1.get (ab * 8 + aY.toNat)) - 1))).get (ab * 8 + p0.toNat)) + 1))]) (cs':=[.slice ai p1.Bout.Shots.length aj,.slice ak p1.Bout.Down.length aq,.slice am p1.Bout.Across.length au,.map (some ae)] ++ ((hH KL.encI ((aU.1.set (ab * 8 + aY.toNat) (w64 ((aU.1.get (ab * 8 + aY.toNat)) - 1))).set (ab * 8 + p0.toNat) (w64 (((aU.1.set (ab * 8 + aY.toNat) (w64 ((aU.1.get (ab * 8 + aY.toNat)) - 1))).get (ab * 8 + p0.toNat)) + 1))).l) ++ ((hH KL.encI aU.2.1.l) ++ (hH KL.encT aU.2.2.l)))) rfl rfl rfl rfl bJ rfl ((rfl:ev _ _=.pointer (some ⟨ah,4 + ab * 8 + p0.toNat * 1,none⟩)).trans (wCl (by omega))) rfl rfl zC (by have hz0:=wAI aW;have hz1:=wAI bj;simp only [nM,nO,nQ,wAL (f:=KL.encI) (sz:=1) (N:=64) (aU.1.set (ab * 8 + aY.toNat) (w64 ((aU.1.get (ab * 8 + aY.toNat)) - 1))) (fun _=>rfl) rfl,wAL (f:=KL.encI) (sz:=1) (N:=8) aU.2.1 (fun _=>rfl) rfl,wAL (f:=KL.encT) (sz:=1) (N:=16) aU.2.2 (fun _=>rfl) rfl];omega) rfl (wBc (n:=4) rfl (wJB (sz:=1) (fo:=0) (fun _=>rfl) _ _ _ _ gP (zD rfl) rfl)) rfl ?_
          intro ey fV
          have fW:St bC bV [.blk ah 67 ([.slice ai p1.Bout.Shots.length aj,.slice ak p1.Bout.Down.length aq,.slice am p1.Bout.Across.length au,.map (some ae)] ++ ((hH KL.encI ((aU.1.set (ab * 8 + aY.toNat) (w64 ((aU.1.get (ab * 8 + aY.toNat)) - 1))).set (ab * 8 + p0.toNat) (w64 (((aU.1.set (ab * 8 + aY.toNat) (w64 ((aU.1.get (ab * 8 + aY.toNat)) - 1))).get (ab * 8 + p0.toNat)) + 1))).l) ++ ((hH KL.encI aU.2.1.l) ++ (hH KL.encT aU.2.2.l)))),.obj ae (.map av az),.obj bF bL,.blk bb 3 B2,B1,B0,mks be] ey:=fV
          refine eN (sR (.fx 0 .nil .stop) Z (ZA (j:=4) (vs:=[.bool true]) Z Z Z Z fW Z eQ Z Z Zm (zD Z) Z Z Z ?_))
          intro ez fY
          have fZ:St bC bV [.blk ah 67 ([.slice ai p1.Bout.Shots.length aj,.slice ak p1.Bout.Down.length aq,.slice am p1.Bout.Across.length au,.map (some ae)] ++ ((hH KL.encI ((aU.1.set (ab * 8 + aY.toNat) (w64 ((aU.1.get (ab * 8 + aY.toNat)) - 1))).set (ab * 8 + p0.toNat) (w64 (((aU.1.set (ab * 8 + aY.toNat) (w64 ((aU.1.get (ab * 8 + aY.toNat)) - 1))).get (ab * 8 + p0.toNat)) + 1))).l) ++ ((hH KL.encI aU.2.1.l) ++ (hH KL.encT aU.2.2.l)))),.obj ae (.map av az),.obj bF bL,.blk bb 3 B2,.blk bo 4 [.bool true],B0,mks be] ez:=fY
          refine eN (zR (zt ?_))
          have q:=nD g8
          obtain rfl:=q
          exact ⟨_,_,(fZ.pick [2,0,1,3,4,5,6] _ (by decide) rfl),rfl,rfl⟩
         ·intro cI g9
          refine zk (congrArg nA (nB.2 cI.out)) (ZM (zi ?_))
          have q:=nD g9
          obtain rfl:=q
          exact ⟨_,_,(dL.pick [2,0,1,3,4,5,6] _ (by decide) rfl),rfl,rfl⟩
        ·intro bs ib
         refine oF Z bs (oF Z bs (Zb Z Z Z (zM Z Z (zq bs.out) Z) (oR Z (zX Z (zq bs.out) Z) (eN (zk Z (ZM (zi ?_)))))))
         have q:=nD ib
         obtain rfl:=q
         exact ⟨_,_,bt,Z,Z⟩
      ·rintro bM bD iA bX io dM
       rcases d9 with ⟨eb,ec,ed⟩ | ⟨cp,cq,cr,ef⟩
       ·try dsimp only at cj
        rintro rfl
        have ga:SW w [.blk ah 67 ([.slice ai p1.Bout.Shots.length aj,.slice ak p1.Bout.Down.length aq,.slice am p1.Bout.Across.length au,.map (some ae)] ++ ((hH KL.encI p1.hits.l) ++ ((hH KL.encI p1.used.l) ++ (hH KL.encT p1.met.l)))),.obj ae (.map av az)] U bD [.blk ah 67 ([.slice ai p1.Bout.Shots.length aj,.slice ak p1.Bout.Down.length aq,.slice am p1.Bout.Across.length au,.map (some ae)] ++ ((hH KL.encI eb.l) ++ ((hH KL.encI ec.l) ++ (hH KL.encT ed.l)))),.obj ae (.map av az),.blk bb 3 B2,B1,B0,mks be,.obj bM (.deferred (some []))] bX:=dM
        have gb:SW w [.blk ah 67 ([.slice ai p1.Bout.Shots.length aj,.slice ak p1.Bout.Down.length aq,.slice am p1.Bout.Across.length au,.map (some ae)] ++ ((hH KL.encI p1.hits.l) ++ ((hH KL.encI p1.used.l) ++ (hH KL.encT p1.met.l)))),.obj ae (.map av az)] U bD [mks (bM :: be),.blk ah 67 ([.slice ai p1.Bout.Shots.length aj,.slice ak p1.Bout.Down.length aq,.slice am p1.Bout.Across.length au,.map (some ae)] ++ ((hH KL.encI eb.l) ++ ((hH KL.encI ec.l) ++ (hH KL.encT ed.l)))),.obj ae (.map av az),.blk bb 3 B2,B1,B0] bX:=(ga.pick [5,6,0,1,2,3,4] _ (by decide) rfl).mksAdd
        refine zi (zi (zH (rR fL2 Z (oR Z (zw (zW Z dx Z) (congrArg (jV) cS.out)) (oM Z Z (zo ?_))))))
        have q:=nD cj
        obtain rfl:=q
        exact zH ⟨_,rfl,⟨bD,(bM :: be),rfl,rfl,dt,du,dv,cK,dw,(((bB.trans bG).trans bK).trans io),(gb.pick [4,5,0,1,2] _ (by decide) rfl)⟩⟩
       ·try dsimp only at cj
        rintro rfl
        let B4:Res:=.blk bo 4 [.bool ef]
        have gc:SW w [.blk ah 67 ([.slice ai p1.Bout.Shots.length aj,.slice ak p1.Bout.Down.length aq,.slice am p1.Bout.Across.length au,.map (some ae)] ++ ((hH KL.encI p1.hits.l) ++ ((hH KL.encI p1.used.l) ++ (hH KL.encT p1.met.l)))),.obj ae (.map av az)] U bD [.blk ah 67 ([.slice ai p1.Bout.Shots.length aj,.slice ak p1.Bout.Down.length aq,.slice am p1.Bout.Across.length au,.map (some ae)] ++ ((hH KL.encI cp.l) ++ ((hH KL.encI cq.l) ++ (hH KL.encT cr.l)))),.obj ae (.map av az),.blk bb 3 B2,B4,B0,mks be,.obj bM (.deferred (some []))] bX:=dM
        have ge:SW w [.blk ah 67 ([.slice ai p1.Bout.Shots.length aj,.slice ak p1.Bout.Down.length aq,.slice am p1.Bout.Across.length au,.map (some ae)] ++ ((hH KL.encI p1.hits.l) ++ ((hH KL.encI p1.used.l) ++ (hH KL.encT p1.met.l)))),.obj ae (.map av az)] U bD [mks (bM :: be),.blk ah 67 ([.slice ai p1.Bout.Shots.length aj,.slice ak p1.Bout.Down.length aq,.slice am p1.Bout.Across.length au,.map (some ae)] ++ ((hH KL.encI cp.l) ++ ((hH KL.encI cq.l) ++ (hH KL.encT cr.l)))),.obj ae (.map av az),.blk bb 3 B2,B4,B0] bX:=(gc.pick [5,6,0,1,2,3,4] _ (by decide) rfl).mksAdd
        refine zt (zt (zg ?_))
        have q:=wCB cj
        obtain ⟨ir,ic,eG⟩:=q
        have q:=wEN ci cd (dU ir eG)
        obtain rfl:=q
        refine zg (zt (zg (wGx (by first | exact .inl rfl | exact .inr rfl) (rbs:=(bM :: be)) (L:=[.blk ah 67 ([.slice ai p1.Bout.Shots.length aj,.slice ak p1.Bout.Down.length aq,.slice am p1.Bout.Across.length au,.map (some ae)] ++ ((hH KL.encI cp.l) ++ ((hH KL.encI cq.l) ++ (hH KL.encT cr.l)))),.obj ae (.map av az),.blk bb 3 B2,B4,B0]) ge fun eA gf=>?_)))
        have dN:SW w [.blk ah 67 ([.slice ai p1.Bout.Shots.length aj,.slice ak p1.Bout.Down.length aq,.slice am p1.Bout.Across.length au,.map (some ae)] ++ ((hH KL.encI p1.hits.l) ++ ((hH KL.encI p1.used.l) ++ (hH KL.encT p1.met.l)))),.obj ae (.map av az)] U bD [.blk ah 67 ([.slice ai p1.Bout.Shots.length aj,.slice ak p1.Bout.Down.length aq,.slice am p1.Bout.Across.length au,.map (some ae)] ++ ((hH KL.encI cp.l) ++ ((hH KL.encI cq.l) ++ (hH KL.encT cr.l)))),.obj ae (.map av az),.blk bb 3 B2,B4,B0] eA:=gf
        cases ic
        exact ⟨_,(wJc (v:=.bool ef) ⟨⟨_,cK,(wNX Try.isAgg4 (dN.blkAt (k:=3) rfl) rfl)⟩,trivial⟩),bD,_,(dN.pick [0,1] _ (by decide) rfl),rfl,rfl⟩
    ·intro cJ ie
     refine zx (nF (cJ.out)) (ZS (zn (ZL (zH (rR fL2 Z (oR Z (zw (zW Z bO Z) (congrArg (jV) cS.out)) (oM Z Z (zo ?_))))))))
     have q:=nD ie
     obtain rfl:=q
     exact zH ⟨_,rfl,⟨br,be,rfl,rfl,bp,cN,bN,bY,bZ,(bB.trans bG),(dP.pick [3,4,5,0,1] _ (by decide) rfl)⟩⟩
  ·rintro ⟨cX,cY,cZ⟩ D_ i8 iI ⟨cx,d8,rfl,eT,iP,iQ,iR,dz,eS,iU,gg⟩ gC
   have dZ:=wEq ci cd gC
   try dsimp only at dZ
   have eE:Hid (¬ ((↑(((↑p1.Bout.Shots.length:Int):Int) - 0).toNat:Int) < (↑p1.Bout.Shots.length:Int))):=zG (wBQ)
   refine sR fL1 Z (oR Z (zf Z eT eS) (eN (zI (cF Z eE (ZS (zn (zn (ZL (zH (sR (.fx 0 .nil .stop) Z (ZA (j:=0) (vs:=[.bool false]) Z Z Z Z gg Z dz Z Z Zm (zD Z) Z Z Z ?_)))))))))))
   intro eC gh
   have gi:SW w [.blk ah 67 ([.slice ai p1.Bout.Shots.length aj,.slice ak p1.Bout.Down.length aq,.slice am p1.Bout.Across.length au,.map (some ae)] ++ ((hH KL.encI p1.hits.l) ++ ((hH KL.encI p1.used.l) ++ (hH KL.encT p1.met.l)))),.obj ae (.map av az)] U cx [B1,B0,mks d8,.blk ah 67 ([.slice ai p1.Bout.Shots.length aj,.slice ak p1.Bout.Down.length aq,.slice am p1.Bout.Across.length au,.map (some ae)] ++ ((hH KL.encI cX.l) ++ ((hH KL.encI cY.l) ++ (hH KL.encT cZ.l)))),.obj ae (.map av az)] eC:=gh
   refine eN (zR (wGx (by first | exact .inl rfl | exact .inr rfl) (rbs:=d8) (L:=[B1,B0,.blk ah 67 ([.slice ai p1.Bout.Shots.length aj,.slice ak p1.Bout.Down.length aq,.slice am p1.Bout.Across.length au,.map (some ae)] ++ ((hH KL.encI cX.l) ++ ((hH KL.encI cY.l) ++ (hH KL.encT cZ.l)))),.obj ae (.map av az)]) (gi.pick [2,0,1,3,4] _ (by decide) rfl) fun eD gj=>?_))
   have dO:SW w [.blk ah 67 ([.slice ai p1.Bout.Shots.length aj,.slice ak p1.Bout.Down.length aq,.slice am p1.Bout.Across.length au,.map (some ae)] ++ ((hH KL.encI p1.hits.l) ++ ((hH KL.encI p1.used.l) ++ (hH KL.encT p1.met.l)))),.obj ae (.map av az)] U cx [B1,B0,.blk ah 67 ([.slice ai p1.Bout.Shots.length aj,.slice ak p1.Bout.Down.length aq,.slice am p1.Bout.Across.length au,.map (some ae)] ++ ((hH KL.encI cX.l) ++ ((hH KL.encI cY.l) ++ (hH KL.encT cZ.l)))),.obj ae (.map av az)] eD:=gj
   cases dZ
   exact ⟨_,(wJc (v:=.bool false) ⟨⟨_,dz,(wNX Try.isAgg4 (dO.blkAt (k:=0) rfl) rfl)⟩,trivial⟩),cx,_,(dO.pick [2,3] _ (by decide) rfl),rfl,rfl⟩
end Go.Proofs.Ytkeeechdijfkhaa
namespace Go.Proofs.Ytkeeechdijfkhaa
open Go.KL
set_option maxHeartbeats 4000000
theorem wDl (p0:wAD) (ah:Nat) (ak:Option Addr) (aq:Nat) (ai:Option Addr) (aj:Nat) (am:Option Addr) (au:Nat) (ab:Nat) (av:Array MapEntry) (az:Nat) (w:World) (U:PHeap) (hS:St0 w U [.blk ah 67 ([.slice ak p0.Bout.Shots.length aq,.slice ai p0.Bout.Down.length aj,.slice am p0.Bout.Across.length au,.map (some ab)] ++ ((hH KL.encI p0.hits.l) ++ ((hH KL.encI p0.used.l) ++ (hH KL.encT p0.met.l)))),.obj ab (.map av az)]) (bW:Sl U 1 ak aq p0.Bout.Shots.length (hH KL.encI p0.Bout.Shots)) (bX:Sl U 1 ai aj p0.Bout.Down.length (hH KL.encI p0.Bout.Down)) (bY:Sl U 2 am au p0.Bout.Across.length (hH wAB p0.Bout.Across)) (bZ:MpR av wGK wGi p0.may) {r:(List Int)} (hm:wAk p0=some r):Gv Try.prog 60 [.pointer (some ⟨ah,0,none⟩)] w (wCb w [.blk ah 67 ([.slice ak p0.Bout.Shots.length aq,.slice ai p0.Bout.Down.length aj,.slice am p0.Bout.Across.length au,.map (some ab)] ++ ((hH KL.encI p0.hits.l) ++ ((hH KL.encI p0.used.l) ++ (hH KL.encT p0.met.l)))),.obj ab (.map av az)] U (fun U_ L_ v=>∃ (A0:Option Addr) (c0:Nat),v=.slice A0 r.length c0/\L_=[.row A0 c0 3 1 (hH KL.encI r),.blk ah 67 ([.slice ak p0.Bout.Shots.length aq,.slice ai p0.Bout.Down.length aj,.slice am p0.Bout.Across.length au,.map (some ab)] ++ ((hH KL.encI p0.hits.l) ++ ((hH KL.encI p0.used.l) ++ (hH KL.encT p0.met.l)))),.obj ab (.map av az)])):=by
 unfold wAk at hm
 refine Gv.of Try.func60 Z Try.ntmps60 Try.results60 Z (sR fL1 Z (oA Z Z (eN (sR fL1 Z (oA Z Z (eN (zI (sR fL7 Z (oM Z Z (oR Z (ze Z Z) (oR Z (zF Z Z zL Z zj) (oR Z (zF Z Z zB Z zO) (oL Z (hS.ldB (j:=0) Z Z Z zV (v:=.slice ai p0.Bout.Down.length aj) Z) (oR Z (ZH Z Z zA) (oM Z Z (eN (zh (bnK hm fun cd bK bN=>?_))))))))))))))))))
 have q:=wBp bK
 obtain ⟨bh,bL⟩:=q
 replace bh:=zG bh
 refine CK.forN' (fun ae aW σ_ w_=>∃ (U_:PHeap) (aU:Option Addr) (aV:Nat),σ_ 11=jV (↑ae:Int)/\σ_ 0=.pointer (some ⟨ah,0,none⟩)/\σ_ 3=.slice aU aW.length aV/\σ_ 10=jV (↑p0.Bout.Down.length:Int)/\PHeap.Le U U_/\SW w [.blk ah 67 ([.slice ak p0.Bout.Shots.length aq,.slice ai p0.Bout.Down.length aj,.slice am p0.Bout.Across.length au,.map (some ab)] ++ ((hH KL.encI p0.hits.l) ++ ((hH KL.encI p0.used.l) ++ (hH KL.encT p0.met.l)))),.obj ab (.map av az)] U U_ [.blk ah 67 ([.slice ak p0.Bout.Shots.length aq,.slice ai p0.Bout.Down.length aj,.slice am p0.Bout.Across.length au,.map (some ab)] ++ ((hH KL.encI p0.hits.l) ++ ((hH KL.encI p0.used.l) ++ (hH KL.encT p0.met.l)))),.obj ab (.map av az),.row aU aV 3 1 (hH KL.encI aW)] w_) bL ?_ ?_ ?_
 have bF:=hS.nilrow 3 1
 exact ⟨U,none,0,rfl,rfl,rfl,rfl,(zY _),(bF.pick [1,2,0] _ (by decide) rfl)⟩
 rintro ae aW b9 cf bT bg ⟨aX,aU,aV,aY,ba,bo,bb,br,bf⟩ bS
 have bm:Hid ((↑ae:Int) < (↑p0.Bout.Down.length:Int)):=zG (wBx bg)
 replace bg:=zG bg
 have bq:Hid (w64 ((↑ae:Int) + 1)=(↑(ae + 1):Int)):=zG (by have h1:=bh.out;have h2:=bm.out;rw [wAf] <;> omega)
 refine sR fL1 rfl (zK rfl rfl rfl rfl (fun _=>zf rfl aY bb) (eN (zI (cT Z bm (kN (zI (zh (sR fL2 rfl (zZ rfl rfl rfl rfl rfl aY (OKS.ra rfl rfl rfl rfl rfl rfl (eN (sR fL7 rfl (zZ rfl rfl rfl rfl rfl ba (zZ rfl rfl rfl rfl rfl rfl (zK rfl rfl rfl rfl (fun _=>ze rfl rfl) (zK rfl rfl rfl rfl (fun _=>zF rfl rfl zL rfl Try.sizeOf65) (zK rfl rfl rfl rfl (fun _=>zw (ZF rfl rfl rfl Try.runUnderlying65 Try.sizeOf64 (by decide) (by decide)) rfl) (bnK bS fun _ be bO=>zK rfl rfl rfl rfl (fun _=>ZF rfl rfl rfl Try.runUnderlying64 Zm (wAr be) (wAs be)) ?_))))))))))))))))))
 have bM:=Arr.at_ p0.met (k:=(8 + ae)) (by have hz0:=wAI be;omega)
 refine zl rfl rfl rfl rfl (bf.ldB (j:=0) rfl rfl ((rfl:ev _ _=.pointer (some ⟨ah,84 + ae * 1,none⟩)).trans (wCl (by omega))) Try.isAgg4 (wCk (n:=4) rfl (wCk (n:=64) (wAL (f:=KL.encI) (sz:=1) (N:=64) p0.hits (fun _=>rfl) rfl) (wCk (n:=8) (wAL (f:=KL.encI) (sz:=1) (N:=8) p0.used (fun _=>rfl) rfl) (wPA (sz:=1) (fun _=>rfl) _ _ 0 _ bM rfl))))) rfl (eN (ifc bO ?_ ?_))
 intro aZ bP
 refine zx (congrArg nA aZ.out) (rR gBb Z (oM Z bo (oM Z Z (zu (pv:=[(0,jV (↑ae:Int))]) (zs:=[jV 0]) (cs:=[jV (↑ae:Int)]) Z Z Z Z Z (wAJ Z wAc) zA zC ZC Z Z Z Z Z bf ?_))))
 intro bu bw bG
 let B0:Res:=.row (some ⟨bw,0,none⟩) 1 3 1 (hH KL.encI [(↑ae:Int)])
 have bp:SW w [.blk ah 67 ([.slice ak p0.Bout.Shots.length aq,.slice ai p0.Bout.Down.length aj,.slice am p0.Bout.Across.length au,.map (some ab)] ++ ((hH KL.encI p0.hits.l) ++ ((hH KL.encI p0.used.l) ++ (hH KL.encT p0.met.l)))),.obj ab (.map av az)] U aX [B0,.blk ah 67 ([.slice ak p0.Bout.Shots.length aq,.slice ai p0.Bout.Down.length aj,.slice am p0.Bout.Across.length au,.map (some ab)] ++ ((hH KL.encI p0.hits.l) ++ ((hH KL.encI p0.used.l) ++ (hH KL.encT p0.met.l)))),.obj ab (.map av az),.row aU aV 3 1 (hH KL.encI aW)] bu:=bG
 refine bnK bP fun x53 bE bQ=>ZX (j:=3) (enc:=KL.encI) (xs:=aW) (ys:=[(↑ae:Int)]) (zs:=x53) rfl rfl rfl rfl rfl ZT wEz rfl rfl rfl rfl rfl rfl bp rfl rfl rfl (bp.srcR (j:=0) rfl (by decide) (wAF (f:=KL.encI) (sz:=1) (fun _=>rfl) [(↑ae:Int)])) (fun _=>rfl) (fun _=>rfl) bE rfl ?_
 intro bj bn bv bH
 have bI:SW w [.blk ah 67 ([.slice ak p0.Bout.Shots.length aq,.slice ai p0.Bout.Down.length aj,.slice am p0.Bout.Across.length au,.map (some ab)] ++ ((hH KL.encI p0.hits.l) ++ ((hH KL.encI p0.used.l) ++ (hH KL.encT p0.met.l)))),.obj ab (.map av az)] U aX [B0,.blk ah 67 ([.slice ak p0.Bout.Shots.length aq,.slice ai p0.Bout.Down.length aj,.slice am p0.Bout.Across.length au,.map (some ab)] ++ ((hH KL.encI p0.hits.l) ++ ((hH KL.encI p0.used.l) ++ (hH KL.encT p0.met.l)))),.obj ab (.map av az),.row bj bn 3 1 (hH KL.encI x53)] bv:=bH
 refine oA Z Z (zo (zi (zH (rR fL2 Z (oR Z (zw (zW Z aY Z) (congrArg (jV) bq.out)) (oM Z Z (zo ?_)))))))
 cases bQ
 exact zH ⟨rfl,⟨aX,bj,bn,rfl,ba,rfl,bb,br,(bI.pick [1,2,3] _ (by decide) rfl)⟩⟩
 intro aZ bR
 refine zk (congrArg nA (nB.2 aZ.out)) (ZM (zi (zH (rR fL2 Z (oR Z (zw (zW Z aY Z) (congrArg (jV) bq.out)) (oM Z Z (zo ?_)))))))
 cases bR
 exact zH ⟨Z,⟨aX,aU,aV,Z,ba,bo,bb,br,bf⟩⟩
 rintro cg bU ⟨bt,bs,bz,bD,bV,bB,bC,b5,bJ⟩
 have bA:Hid (¬ ((↑(((↑p0.Bout.Down.length:Int):Int) - 0).toNat:Int) < (↑p0.Bout.Down.length:Int))):=zG (wBQ)
 refine sR fL1 Z (oR Z (zf Z bD bC) (eN (zI (cF Z bA (ZS (zn (zn (ZL (zH (sR fL2 Z (oM Z bB (oA Z Z (eN (zR ?_))))))))))))))
 have hE:=nD bN;first | subst r | cases hE
 exact ⟨rfl,_,(zz rfl),bt,_,(bJ.pick [2,0,1] _ (by decide) rfl),bs,bz,rfl,rfl⟩
theorem wBu (p0:wAD) (ah:Nat) (aj:Option Addr) (am:Nat) (ae:Option Addr) (ai:Nat) (ak:Option Addr) (aq:Nat) (ab:Nat) (au:Array MapEntry) (av:Nat) (w:World) (U:PHeap) (hS:St0 w U [.blk ah 67 ([.slice aj p0.Bout.Shots.length am,.slice ae p0.Bout.Down.length ai,.slice ak p0.Bout.Across.length aq,.map (some ab)] ++ ((hH KL.encI p0.hits.l) ++ ((hH KL.encI p0.used.l) ++ (hH KL.encT p0.met.l)))),.obj ab (.map au av)]) (dL:Sl U 1 aj am p0.Bout.Shots.length (hH KL.encI p0.Bout.Shots)) (dM:Sl U 1 ae ai p0.Bout.Down.length (hH KL.encI p0.Bout.Down)) (dN:Sl U 2 ak aq p0.Bout.Across.length (hH wAB p0.Bout.Across)) (cp:MpR au wGK wGi p0.may) {r:(List Int) × (Arr Int 64 × Arr Int 8 × Arr Bool 16)} (hm:wAZ p0=some r):Gv Try.prog 38 [.pointer (some ⟨ah,0,none⟩)] w (wCb w [.blk ah 67 ([.slice aj p0.Bout.Shots.length am,.slice ae p0.Bout.Down.length ai,.slice ak p0.Bout.Across.length aq,.map (some ab)] ++ ((hH KL.encI p0.hits.l) ++ ((hH KL.encI p0.used.l) ++ (hH KL.encT p0.met.l)))),.obj ab (.map au av)] U (fun U_ L_ v=>∃ (A0:Option Addr) (c0:Nat),v=.slice A0 r.1.length c0/\L_=[.row A0 c0 3 1 (hH KL.encI r.1),.blk ah 67 ([.slice aj p0.Bout.Shots.length am,.slice ae p0.Bout.Down.length ai,.slice ak p0.Bout.Across.length aq,.map (some ab)] ++ ((hH KL.encI r.2.1.l) ++ ((hH KL.encI r.2.2.1.l) ++ (hH KL.encT r.2.2.2.l)))),.obj ab (.map au av)]/\(r.1=[]->A0=none))):=by
 unfold wAZ at hm
 refine Gv.of Try.func38 Z Try.ntmps38 Try.results38 Z (sR gAg Z ?_)
 let B0:List Value:=[.pointer (some ⟨ah,0,none⟩)]
 refine ZR (cs:=B0) rfl rfl rfl rfl rfl rfl (by rfl) hS ?_
 intro W3 b4 dK
 have q:=dK.freeze (k:=0) rfl
 obtain ⟨U7,bD,aZ,dx⟩:=q
 replace aZ:=Cl.of aZ
 have dy:SW w [.blk ah 67 ([.slice aj p0.Bout.Shots.length am,.slice ae p0.Bout.Down.length ai,.slice ak p0.Bout.Across.length aq,.map (some ab)] ++ ((hH KL.encI p0.hits.l) ++ ((hH KL.encI p0.used.l) ++ (hH KL.encT p0.met.l)))),.obj ab (.map au av)] U U7 [.blk ah 67 ([.slice aj p0.Bout.Shots.length am,.slice ae p0.Bout.Down.length ai,.slice ak p0.Bout.Across.length aq,.map (some ab)] ++ ((hH KL.encI p0.hits.l) ++ ((hH KL.encI p0.used.l) ++ (hH KL.encT p0.met.l)))),.obj ab (.map au av)] W3:=dx
 replace aZ:Cl U7 b4 0 B0:=aZ
 refine oA Z Z (eN (sR (.fx 0 .nil .stop) Z (Za (cs:=[.nilFunc]) Z Z Z Z Z Try.zeroValue47 Z dy ?_)))
 intro eh aX dB
 refine eN (sR gAj Z (oR Z (Runs.mkf Z zS (zE Z (zE Z zS))) ?_))
 let B1:List Value:=[.func (.func 57) #[] #[.pointer (some ⟨b4,0,none⟩),.pointer (some ⟨aX,0,none⟩)]]
 refine ZA (j:=0) (vs:=B1) Z Z Z Z dB Z Z Z Z Try.sizeOf47 (zD Z) Z Z Z ?_
 intro bL dE
 have bt:SW w [.blk ah 67 ([.slice aj p0.Bout.Shots.length am,.slice ae p0.Bout.Down.length ai,.slice ak p0.Bout.Across.length aq,.map (some ab)] ++ ((hH KL.encI p0.hits.l) ++ ((hH KL.encI p0.used.l) ++ (hH KL.encT p0.met.l)))),.obj ab (.map au av)] U U7 [.blk aX 47 B1,.blk ah 67 ([.slice aj p0.Bout.Shots.length am,.slice ae p0.Bout.Down.length ai,.slice ak p0.Bout.Across.length aq,.map (some ab)] ++ ((hH KL.encI p0.hits.l) ++ ((hH KL.encI p0.used.l) ++ (hH KL.encT p0.met.l)))),.obj ab (.map au av)] bL:=dE
 refine eN (zI (sR fL7 Z (oL Z (bt.ldC (f:=0) aZ (v:=.pointer (some ⟨ah,0,none⟩)) Z Z ZG Z) (oR Z (ze Z Z) (oR Z (zF Z Z zL Z zj) (oR Z (zF Z Z zB Z zO) (oL Z (bt.ldB (j:=1) Z Z Z zV (v:=.slice ae p0.Bout.Down.length ai) Z) (oR Z (ZH Z Z zA) (oM Z Z (eN (zh ?_)))))))))))
 have q:=bt.freeze (k:=0) rfl
 obtain ⟨bh,bk,be,dI⟩:=q
 replace be:=Cl.of be
 have dJ:SW w [.blk ah 67 ([.slice aj p0.Bout.Shots.length am,.slice ae p0.Bout.Down.length ai,.slice ak p0.Bout.Across.length aq,.map (some ab)] ++ ((hH KL.encI p0.hits.l) ++ ((hH KL.encI p0.used.l) ++ (hH KL.encT p0.met.l)))),.obj ab (.map au av)] U bh [.blk ah 67 ([.slice aj p0.Bout.Shots.length am,.slice ae p0.Bout.Down.length ai,.slice ak p0.Bout.Across.length aq,.map (some ab)] ++ ((hH KL.encI p0.hits.l) ++ ((hH KL.encI p0.used.l) ++ (hH KL.encT p0.met.l)))),.obj ab (.map au av)] bL:=dI
 replace be:Cl bh aX 0 B1:=be
 have q:=wDV hm
 obtain ⟨eH,bu⟩:=q
 have q:=wDU bu
 obtain ⟨bA,dS⟩:=q
 replace bA:=zG bA
 refine CK.forN (fun aU (bM,bN,bO) σ_ w_=>∃ (U_:PHeap),σ_ 13=jV (↑aU:Int)/\σ_ 1=.pointer (some ⟨b4,0,none⟩)/\σ_ 3=.pointer (some ⟨aX,0,none⟩)/\σ_ 11=.slice ae p0.Bout.Down.length ai/\σ_ 12=jV (↑p0.Bout.Down.length:Int)/\PHeap.Le bh U_/\SW w [.blk ah 67 ([.slice aj p0.Bout.Shots.length am,.slice ae p0.Bout.Down.length ai,.slice ak p0.Bout.Across.length aq,.map (some ab)] ++ ((hH KL.encI p0.hits.l) ++ ((hH KL.encI p0.used.l) ++ (hH KL.encT p0.met.l)))),.obj ab (.map au av)] U U_ [.blk ah 67 ([.slice aj p0.Bout.Shots.length am,.slice ae p0.Bout.Down.length ai,.slice ak p0.Bout.Across.length aq,.map (some ab)] ++ ((hH KL.encI bM.l) ++ ((hH KL.encI bN.l) ++ (hH KL.encT bO.l)))),.obj ab (.map au av)] w_) dS ?_ ?_ ?_
 exact ⟨bh,Z,Z,Z,Z,Z,(zY _),dJ⟩
 rintro aU ⟨bM,bN,bO⟩ eO eY en bw ⟨bH,bj,cQ,cR,bW,bX,ba,cj⟩ cu dQ
 try dsimp only at cu
 have bS:Hid ((↑aU:Int) < (↑p0.Bout.Down.length:Int)):=zG (wBx bw)
 replace bw:=zG bw
 have dV:Hid (w64 ((↑aU:Int) + 1)=(↑(aU + 1):Int)):=zG (by have h1:=bA.out;have h2:=bS.out;rw [wAf] <;> omega)
 refine sR fL1 Z (oR Z (zf Z bj bX) (eN (zI (cT Z bS (kN (zI (zh (sR fL5 Z (oM Z bj (bnK cu fun x60 cf bC=>?_))))))))))
 have dt:=dM.le bD
 have du:=dt.le bk
 have cg:=du.le ba
 have q:=cg.el (fun _=>rfl) (wBe cf)
 obtain ⟨ey,eG,dv,dw⟩:=q
 refine oR Z (ZY Z bW dv bj zA zC (wEM cf)) (oL Z (cj.ldC (f:=0) dw (v:=jV x60) Z Z zJ Z) (oA Z Z (oA Z Z (eN (sR fL2 Z (oM Z Z (oM Z Z (eN (zh ?_)))))))))
 have q:=wDV bC
 obtain ⟨eI,bv⟩:=q
 have q:=wDU bv
 obtain ⟨bB,dT⟩:=q
 replace bB:=zG bB
 refine CK.forN (fun bf (aV,aW,bi) σ_ w_=>∃ (U_:PHeap),σ_ 19=jV (↑bf:Int)/\σ_ 1=.pointer (some ⟨b4,0,none⟩)/\σ_ 3=.pointer (some ⟨aX,0,none⟩)/\σ_ 4=jV (↑aU:Int)/\σ_ 11=.slice ae p0.Bout.Down.length ai/\σ_ 12=jV (↑p0.Bout.Down.length:Int)/\σ_ 13=jV (↑aU:Int)/\σ_ 18=jV x60/\PHeap.Le bH U_/\SW w [.blk ah 67 ([.slice aj p0.Bout.Shots.length am,.slice ae p0.Bout.Down.length ai,.slice ak p0.Bout.Across.length aq,.map (some ab)] ++ ((hH KL.encI p0.hits.l) ++ ((hH KL.encI p0.used.l) ++ (hH KL.encT p0.met.l)))),.obj ab (.map au av)] U U_ [.blk ah 67 ([.slice aj p0.Bout.Shots.length am,.slice ae p0.Bout.Down.length ai,.slice ak p0.Bout.Across.length aq,.map (some ab)] ++ ((hH KL.encI aV.l) ++ ((hH KL.encI aW.l) ++ (hH KL.encT bi.l)))),.obj ab (.map au av)] w_) dT ?_ ?_ ?_
 exact ⟨bH,Z,cQ,cR,Z,bW,bX,bj,Z,(zY _),cj⟩
 rintro bf ⟨aV,aW,bi⟩ eP eZ eu bz ⟨bI,bY,bq,bT,bU,cG,cH,cI,bV,bb,cn⟩ cw dR
 try dsimp only at cw
 have bQ:Hid ((↑bf:Int) < x60):=zG (wBx bz)
 replace bz:=zG bz
 have dU:Hid (w64 ((↑bf:Int) + 1)=(↑(bf + 1):Int)):=zG (by have h1:=bB.out;have h2:=bQ.out;rw [wAf] <;> omega)
 refine sR fL1 Z (oR Z (zf Z bY bV) (eN (zI (cT Z bQ (kN (zI (zh (sR (wKA (.fx 4 .nil .stop)) Z ?_))))))))
 have cV:=aZ.le bk
 have cW:=cV.le ba
 have br:=cW.le bb
 refine zl rfl rfl rfl rfl (cn.ldC (f:=0) br (v:=.pointer (some ⟨ah,0,none⟩)) rfl bq ZG rfl) rfl (zK rfl rfl rfl rfl (fun _=>ze rfl rfl) (zK rfl rfl rfl rfl (fun _=>zF rfl rfl zL rfl Try.sizeOf65) (zK rfl rfl rfl rfl (fun _=>Runs.slA rfl rfl Try.runUnderlying65 Try.sizeOf64) (OKS.clearB (j:=0) (off:=76) (vs:=hH KL.encT (Arr.fill 16 false).l) (cs':=[.slice aj p0.Bout.Shots.length am,.slice ae p0.Bout.Down.length ai,.slice ak p0.Bout.Across.length aq,.map (some ab)] ++ ((hH KL.encI aV.l) ++ ((hH KL.encI aW.l) ++ (hH KL.encT (Arr.fill 16 false).l)))) rfl rfl rfl rfl cn rfl rfl Try.runUnderlying131 Try.zeroValue64 (by kernel_rfl) (by simp only [nM,nO,nQ,wAL (f:=KL.encI) (sz:=1) (N:=64) aV (fun _=>rfl) rfl,wAL (f:=KL.encI) (sz:=1) (N:=8) aW (fun _=>rfl) rfl,wAL (f:=KL.encT) (sz:=1) (N:=16) bi (fun _=>rfl) rfl,wAL (f:=KL.encT) (sz:=1) (N:=16) (Arr.fill 16 false) (fun _=>rfl) rfl];omega) (wHY (fun _=>rfl) _) (wBc (n:=4) rfl (wBc (n:=64) (wAL (f:=KL.encI) (sz:=1) (N:=64) aV (fun _=>rfl) rfl) (wBc (n:=8) (wAL (f:=KL.encI) (sz:=1) (N:=8) aW (fun _=>rfl) rfl) (wMJ _ _ (by rw [wAL (f:=KL.encT) (sz:=1) (N:=16) (Arr.fill 16 false) (fun _=>rfl) rfl,wAL (f:=KL.encT) (sz:=1) (N:=16) bi (fun _=>rfl) rfl]))))) rfl ?_))))
 intro bJ dz
 have ci:SW w [.blk ah 67 ([.slice aj p0.Bout.Shots.length am,.slice ae p0.Bout.Down.length ai,.slice ak p0.Bout.Across.length aq,.map (some ab)] ++ ((hH KL.encI p0.hits.l) ++ ((hH KL.encI p0.used.l) ++ (hH KL.encT p0.met.l)))),.obj ab (.map au av)] U bI [.blk ah 67 ([.slice aj p0.Bout.Shots.length am,.slice ae p0.Bout.Down.length ai,.slice ak p0.Bout.Across.length aq,.map (some ab)] ++ ((hH KL.encI aV.l) ++ ((hH KL.encI aW.l) ++ (hH KL.encT (Arr.fill 16 false).l)))),.obj ab (.map au av)] bJ:=dz
 refine eN (sR gAx Z ?_)
 have cX:=be.le ba
 have bZ:=cX.le bb
 refine oL Z (ci.ldC (f:=0) bZ (v:=.func (.func 57) #[] #[.pointer (some ⟨b4,0,none⟩),.pointer (some ⟨aX,0,none⟩)]) Z bT Try.isAgg47 Z) (oM Z bU ?_)
 have cY:=dL.le bD
 have cZ:=cY.le bk
 have da:=cZ.le ba
 have b5:=da.le bb
 have b9:=cg.le bb
 have db:=dN.le bD
 have de:=db.le bk
 have df:=de.le ba
 have cd:=df.le bb
 have q:=bnd cw
 obtain ⟨⟨eL,az⟩,dg,cq⟩:=q
 try dsimp only at cq
 refine zQ 2 Z Z Z Z (zN Z Z Try.call57 (zE Z zS) Z) ci (fun hs=>wDe 1000 (↑aU:Int) (⟨p0.Bout,p0.may,aV,aW,(Arr.fill 16 false)⟩:wAD) b4 ah aj am ae ai ak aq ab au av () aX bJ bI hs br b5 b9 cd cp bZ dg) (.inl Z) ?_
 rintro bn ef eJ bK bg dA ⟨rfl,rfl⟩
 have bs:SW w [.blk ah 67 ([.slice aj p0.Bout.Shots.length am,.slice ae p0.Bout.Down.length ai,.slice ak p0.Bout.Across.length aq,.map (some ab)] ++ ((hH KL.encI p0.hits.l) ++ ((hH KL.encI p0.used.l) ++ (hH KL.encT p0.met.l)))),.obj ab (.map au av)] U bn [.blk ah 67 ([.slice aj p0.Bout.Shots.length am,.slice ae p0.Bout.Down.length ai,.slice ak p0.Bout.Across.length aq,.map (some ab)] ++ ((hH KL.encI az.1.l) ++ ((hH KL.encI az.2.1.l) ++ (hH KL.encT az.2.2.l)))),.obj ab (.map au av)] bK:=dA
 refine oR Z (ZN Z Z) (eN (ifc cq ?_ ?_))
 intro bp dW
 refine zk (nC bp.out) (ZM (zi (zH (rR fL2 Z (oR Z (zw (zW Z bY Z) (congrArg (jV) dU.out)) (oM Z Z (zo ?_)))))))
 have q:=nD dW
 obtain rfl:=q
 exact zH ⟨Z,_,Z,⟨bn,Z,bq,bT,bU,cG,cH,cI,bV,(bb.trans bg),bs⟩⟩
 intro bp dX
 refine zx (nF (bp.out)) (sR gAo Z ?_)
 have dh:=br.le bg
 refine oL Z (bs.ldC (f:=0) dh (v:=.pointer (some ⟨ah,0,none⟩)) Z bq ZG Z) ?_
 have dk:=b5.le bg
 have dm:=b9.le bg
 have dp:=cd.le bg
 refine bnK dX fun ed dq dY=>zQ 2 Z Z Z Z (zN Z Z Try.call60 (zE Z zS) Z) bs (fun hs=>wDl (⟨p0.Bout,p0.may,az.1,az.2.1,az.2.2⟩:wAD) ah aj am ae ai ak aq ab au av bK bn hs dk dm dp cp dq) (.inl Z) ?_
 rintro bG eg eK cz eE dC ⟨bE,bR,rfl,rfl⟩
 have dD:SW w [.blk ah 67 ([.slice aj p0.Bout.Shots.length am,.slice ae p0.Bout.Down.length ai,.slice ak p0.Bout.Across.length aq,.map (some ab)] ++ ((hH KL.encI p0.hits.l) ++ ((hH KL.encI p0.used.l) ++ (hH KL.encT p0.met.l)))),.obj ab (.map au av)] U bG [.row bE bR 3 1 (hH KL.encI ed),.blk ah 67 ([.slice aj p0.Bout.Shots.length am,.slice ae p0.Bout.Down.length ai,.slice ak p0.Bout.Across.length aq,.map (some ab)] ++ ((hH KL.encI az.1.l) ++ ((hH KL.encI az.2.1.l) ++ (hH KL.encT az.2.2.l)))),.obj ab (.map au av)] cz:=dC
 refine oA Z Z (eN (zR (zt (zg ?_))))
 have q:=wCB dY
 obtain ⟨eb,dZ,cD⟩:=q
 have q:=wEN bC bv (dR eb cD)
 obtain rfl:=q
 refine zg (zt (zt (zg ?_)))
 have q:=wCB dZ
 obtain ⟨ec,d7,cE⟩:=q
 have q:=wEN hm bu (dQ ec cE)
 obtain rfl:=q
 refine zg (zt (zg (bnK d7 fun eM dr d8=>?_)))
 cases d8
 exact ⟨Z,_,(zz Z),bG,_,dD,bE,bR,Z,Z,(fun h=>absurd h (wMO dr))⟩
 rintro ⟨eQ,eR,eS⟩ eW ei ⟨cx,cS,cJ,cK,ez,cL,cM,cN,cO,d9,dF⟩ dO
 have cr:=wEq bC bv dO
 try dsimp only at cr
 have cB:Hid (¬ ((↑((x60:Int) - 0).toNat:Int) < x60)):=zG (wBQ)
 refine sR fL1 Z (oR Z (zf Z cS cO) (eN (zI (cF Z cB (ZS (zn (zn (ZL (zi (zH (rR fL2 Z (oR Z (zw (zW Z cN Z) (congrArg (jV) dV.out)) (oM Z Z (zo ?_))))))))))))))
 have q:=nD cr
 obtain rfl:=q
 exact zH ⟨Z,_,Z,⟨cx,Z,cJ,cK,cL,cM,(ba.trans d9),dF⟩⟩
 rintro ⟨eT,eU,eV⟩ eX ej ⟨cy,cU,eA,eC,eD,cP,eF,dG⟩ dP
 have ct:=wEq hm bu dP
 try dsimp only at ct
 have cC:Hid (¬ ((↑(((↑p0.Bout.Down.length:Int):Int) - 0).toNat:Int) < (↑p0.Bout.Down.length:Int))):=zG (wBQ)
 refine sR fL1 Z (oR Z (zf Z cU cP) (eN (zI (cF Z cC (ZS (zn (zn (ZL (zH (sR fL1 Z (oA Z Z (eN (zR ?_)))))))))))))
 have dH:=dG.nilrow 3 1
 cases ct
 exact ⟨Z,_,(zz Z),cy,_,dH,none,0,Z,Z,(fun _=>Z)⟩
theorem wFD (p0:wAC) (aY:Option Addr) (ba:Nat) (aZ:Option Addr) (bb:Nat) (bi:Option Addr) (bj:Nat) (p1:Int) (p2:Int) (w:World) (U:PHeap) (hS:St0 w U []) (cE:Sl U 1 aY ba p0.Shots.length (hH KL.encI p0.Shots)) (cG:Sl U 1 aZ bb p0.Down.length (hH KL.encI p0.Down)) (cH:Sl U 2 bi bj p0.Across.length (hH wAB p0.Across)) {r:(Option wAD) × Int} (hm:wBq p0 p1 p2=some r):Gv Try.prog 15 [.agg #[.slice aY p0.Shots.length ba,.slice aZ p0.Down.length bb,.slice bi p0.Across.length bj],jV p1,jV p2] w (wCb w [] U (fun U_ L_ v=>match r.1 with | none=>v=.tuple #[.pointer none,jV r.2]/\L_=[] | some d=>∃ (b0:Nat) (A0p00:Option Addr) (c0p00:Nat) (A0p01:Option Addr) (c0p01:Nat) (A0p02:Option Addr) (c0p02:Nat) (m0p1:Nat) (es0p1:Array MapEntry) (ck0p1:Nat),v=.tuple #[.pointer (some ⟨b0,0,none⟩),jV r.2]/\L_=[.blk b0 67 ([.slice A0p00 d.Bout.Shots.length c0p00,.slice A0p01 d.Bout.Down.length c0p01,.slice A0p02 d.Bout.Across.length c0p02,.map (some m0p1)] ++ ((hH KL.encI d.hits.l) ++ ((hH KL.encI d.used.l) ++ (hH KL.encT d.met.l)))),.obj m0p1 (.map es0p1 ck0p1)]/\Sl U_ 1 A0p00 c0p00 d.Bout.Shots.length (hH KL.encI d.Bout.Shots)/\Sl U_ 1 A0p01 c0p01 d.Bout.Down.length (hH KL.encI d.Bout.Down)/\Sl U_ 2 A0p02 c0p02 d.Bout.Across.length (hH wAB d.Bout.Across)/\MpR es0p1 wGK wGi d.may)):=by
 unfold wBq at hm
 refine Gv.of Try.func15 Z Try.ntmps15 Try.results15 Z (sR gAs Z ?_)
 let B0:List Value:=[.slice aY p0.Shots.length ba,.slice aZ p0.Down.length bb,.slice bi p0.Across.length bj]
 refine ZR (cs:=B0) rfl rfl rfl rfl rfl rfl (by rfl) hS ?_
 intro W1 b2 bR
 refine oA Z Z (oA Z Z (eN (sR (.fl 0 (.fx 1 (wMn (.nil)) .stop)) Z (oL Z (bR.ldBA (j:=0) Z Z Z Zc zj (vs:=B0) Z Z) ?_))))
 have q:=bnd hm
 obtain ⟨⟨x5,x6⟩,h7,be⟩:=q
 try dsimp only at be
 refine zQ 0 Z Z Z Z (zN Z Z Try.call36 (zE Z zS) Z) bR (fun hs=>wDp p0 aY ba aZ bb bi bj W1 U hs cE cG cH h7) (.inr Z) ?_
 rintro U9 de du bf dp bQ bP
 rcases x5 with _ | x26
 try dsimp only at be
 obtain ⟨rfl,rfl⟩:=bP
 have bu:sW w U U9 [.blk b2 26 B0] bf:=bQ
 refine oM Z Z (oR Z (ZP Z Z (v:=.pointer none) Z) (oR Z (ZP Z Z (v:=jV x6) Z) (oA Z Z (oA Z Z (eN (zI (zh (sR fL3 Z (oM Z Z (oR Z (Ze Z Z Z) (oA Z Z (eN (ifc be ?_ ?_)))))))))))))
 intro bp cN
 refine zk (zq (fun h=>h bp.out)) (sR (wGS (.fx 5 (wNP (.fx 13 (wLz (.nil)) .stop)) .stop)) Z (oM Z Z (oR Z (zF Z Z zB Z zO) (oL Z (bu.ldB (j:=0) Z Z Z zV (v:=.slice aY p0.Shots.length ba) Z) (oR Z (ZH Z Z zA) (oR Z (Zh Z Z Z) (bnK cN fun x30 cf cO=>zQ 0 Z Z Z Z (zN Z Z Zo (zE Z (zE Z (zE Z zS))) Z) bu (fun hs=>wAv p1 0 (w64 ((↑p0.Shots.length:Int) - 1)) bf U9 hs cf) (.inr Z) ?_)))))))
 rintro bl dg dv bH dq cz ⟨rfl,rfl⟩
 have bv:sW w U bl [.blk b2 26 B0] bH:=cz
 refine oR Z (ZN Z Z) (oM Z Z (ifc cO ?_ ?_))
 intro ab cP
 refine zZ Z Z Z (zP Z Z (nC ab.out)) Z Z (zK Z Z Z (zP Z Z (nC ab.out)) (fun _=>zF Z Z zB Z zO) (zl Z Z Z (zP Z Z (nC ab.out)) (bv.ldB (j:=0) Z Z Z zV (v:=.slice aZ p0.Down.length bb) Z) Z (zK Z Z Z (zP Z Z (nC ab.out)) (fun _=>ZH Z Z zA) (zK Z Z Z (zP Z Z (nC ab.out)) (fun _=>Zh Z Z Z) (bnK cP fun x42 cg cQ=>zQ 0 Z Z Z (zP Z Z (nC ab.out)) (zN Z Z Zo (zE Z (zE Z (zE Z zS))) Z) bv (fun hs=>wAv p2 0 (w64 ((↑p0.Down.length:Int) - 1)) bH bl hs cg) (.inr Z) ?_)))))
 rintro bG dh dw bW dr cA ⟨rfl,rfl⟩
 have cB:sW w U bG [.blk b2 26 B0] bW:=cA
 refine zK Z Z Z (zP Z Z (nC ab.out)) (fun _=>ZN Z Z) (oR Z (zX Z (nC ab.out) Z) (oA Z Z (eN (ifc cQ ?_ ?_))))
 intro bq cR
 refine zk (nC bq.out) (sR gAz Z (oM Z Z ?_))
 cases cR
 intro bq cS
 refine zx (nF (bq.out)) (sR fL2 Z (oA Z Z (oA Z Z (eN (zR (zt (zg ?_)))))))
 cases cS
 exact ⟨rfl,_,(wHP rfl rfl),bG,_,(cB.pick [] _ (by decide) rfl),rfl,rfl⟩
 intro ab cU
 refine zU Z Z Z (zM Z Z (nF (ab.out)) Z) (zU Z Z Z (zM Z Z (nF (ab.out)) Z) (zU Z Z Z (zM Z Z (nF (ab.out)) Z) (zU Z Z Z (zM Z Z (nF (ab.out)) Z) (zU Z Z Z (zM Z Z (nF (ab.out)) Z) (Zb Z Z Z (zM Z Z (nF (ab.out)) Z) (zU Z Z Z (zM Z Z (nF (ab.out)) Z) (oR Z (zd Z (nF (ab.out)) Z) (oA Z Z (eN (zx Z (sR fL2 Z (oA Z Z (oA Z Z (eN (zR (zt (zg ?_)))))))))))))))))
 cases cU
 exact ⟨rfl,_,(wHP rfl rfl),bl,_,(bv.pick [] _ (by decide) rfl),rfl,rfl⟩
 intro bp cV
 refine cT Z bp (sR fL3 Z (oM Z Z (oA Z Z (oA Z Z (eN (zR (zt (zg ?_))))))))
 cases cV
 exact ⟨rfl,_,(wHP rfl rfl),U9,_,(bu.pick [] _ (by decide) rfl),rfl,rfl⟩
 try dsimp only at be
 obtain ⟨aj,am,az,aq,aU,au,aV,ah,aX,aW,rfl,rfl,ci,cj,cn,bL⟩:=bP
 have bw:sW w U U9 [.blk aj 67 ([.slice am x26.Bout.Shots.length az,.slice aq x26.Bout.Down.length aU,.slice au x26.Bout.Across.length aV,.map (some ah)] ++ ((hH KL.encI x26.hits.l) ++ ((hH KL.encI x26.used.l) ++ (hH KL.encT x26.met.l)))),.obj ah (.map aX aW),.blk b2 26 B0] bf:=bQ
 refine oM Z Z (oR Z (ZP Z Z (v:=.pointer (some ⟨aj,0,none⟩)) Z) (oR Z (ZP Z Z (v:=jV x6) Z) (oA Z Z (oA Z Z (eN (zI (zh (sR fL3 Z (oM Z Z (oR Z (Ze Z Z Z) (oA Z Z (eN (ifc be ?_ ?_)))))))))))))
 intro br cW
 refine zk (zq (fun h=>h br.out)) (sR (wGS (.fx 5 (wNP (.fx 13 (wLz (.nil)) .stop)) .stop)) Z (oM Z Z (oR Z (zF Z Z zB Z zO) (oL Z (bw.ldB (j:=2) Z Z Z zV (v:=.slice aY p0.Shots.length ba) Z) (oR Z (ZH Z Z zA) (oR Z (Zh Z Z Z) (bnK cW fun x66 cp cX=>zQ 0 Z Z Z Z (zN Z Z Zo (zE Z (zE Z (zE Z zS))) Z) bw (fun hs=>wAv p1 0 (w64 ((↑p0.Shots.length:Int) - 1)) bf U9 hs cp) (.inr Z) ?_)))))))
 rintro bm dk dx bI bB cC ⟨rfl,rfl⟩
 have bz:sW w U bm [.blk aj 67 ([.slice am x26.Bout.Shots.length az,.slice aq x26.Bout.Down.length aU,.slice au x26.Bout.Across.length aV,.map (some ah)] ++ ((hH KL.encI x26.hits.l) ++ ((hH KL.encI x26.used.l) ++ (hH KL.encT x26.met.l)))),.obj ah (.map aX aW),.blk b2 26 B0] bI:=cC
 refine oR Z (ZN Z Z) (oM Z Z (ifc cX ?_ ?_))
 intro ae cY
 refine zZ Z Z Z (zP Z Z (nC ae.out)) Z Z (zK Z Z Z (zP Z Z (nC ae.out)) (fun _=>zF Z Z zB Z zO) (zl Z Z Z (zP Z Z (nC ae.out)) (bz.ldB (j:=2) Z Z Z zV (v:=.slice aZ p0.Down.length bb) Z) Z (zK Z Z Z (zP Z Z (nC ae.out)) (fun _=>ZH Z Z zA) (zK Z Z Z (zP Z Z (nC ae.out)) (fun _=>Zh Z Z Z) (bnK cY fun x78 cr cZ=>zQ 0 Z Z Z (zP Z Z (nC ae.out)) (zN Z Z Zo (zE Z (zE Z (zE Z zS))) Z) bz (fun hs=>wAv p2 0 (w64 ((↑p0.Down.length:Int) - 1)) bI bm hs cr) (.inr Z) ?_)))))
 rintro bn dm dy bJ bC cD ⟨rfl,rfl⟩
 have bS:sW w U bn [.blk aj 67 ([.slice am x26.Bout.Shots.length az,.slice aq x26.Bout.Down.length aU,.slice au x26.Bout.Across.length aV,.map (some ah)] ++ ((hH KL.encI x26.hits.l) ++ ((hH KL.encI x26.used.l) ++ (hH KL.encT x26.met.l)))),.obj ah (.map aX aW),.blk b2 26 B0] bJ:=cD
 refine zK Z Z Z (zP Z Z (nC ae.out)) (fun _=>ZN Z Z) (oR Z (zX Z (nC ae.out) Z) (oA Z Z (eN (ifc cZ ?_ ?_))))
 intro bs da
 refine zk (nC bs.out) (sR gAz Z (oM Z Z ?_))
 have ct:=ci.le bB
 have bM:=ct.le bC
 have cu:=cj.le bB
 have bN:=cu.le bC
 have cw:=cn.le bB
 have bO:=cw.le bC
 have q:=bnd da
 obtain ⟨⟨bD,bE⟩,cx,bT⟩:=q
 try dsimp only at bT
 refine zQ 2 Z Z Z Z (zN Z Z Try.call38 (zE Z zS) Z) bS (fun hs=>wBu x26 aj am az aq aU au aV ah aX aW bJ bn hs bM bN bO bL cx) (.inl Z) ?_
 rintro bk df dt bV bA cy ⟨bF,bX,rfl,rfl,bY⟩
 have bt:sW w U bk [.row bF bX 3 1 (hH KL.encI bD),.blk aj 67 ([.slice am x26.Bout.Shots.length az,.slice aq x26.Bout.Down.length aU,.slice au x26.Bout.Across.length aV,.map (some ah)] ++ ((hH KL.encI bE.1.l) ++ ((hH KL.encI bE.2.1.l) ++ (hH KL.encT bE.2.2.l)))),.obj ah (.map aX aW),.blk b2 26 B0] bV:=cy
 have bZ:bF.isNone=decide (bD=[]):=wIU (j:=0) bt rfl (fun _=>rfl) (by decide) bY
 refine zK rfl rfl rfl rfl (fun _=>Runs.neNilR (b:=decide (¬ (bD=[]))) rfl rfl rfl zA (by simp [bZ])) (OKS.ra rfl rfl rfl rfl rfl rfl (eN (ifc bT ?_ ?_)))
 intro bo cI
 refine zk (zq (fun h=>h bo.out)) (ZM (zi (zH (sR fL3 Z (oM Z Z (oA Z Z (oA Z Z (eN (zR ?_)))))))))
 have b5:=bM.le bA
 have b9:=bN.le bA
 have cd:=bO.le bA
 cases cI
 exact ⟨rfl,_,(wHP rfl rfl),bk,_,(bt.pick [1,2] _ (by decide) rfl),aj,am,az,aq,aU,au,aV,ah,aX,aW,rfl,rfl,b5,b9,cd,bL⟩
 intro bo cJ
 refine cT Z bo (sR fL2 Z (oA Z Z (oA Z Z (eN (zR (zt (zg ?_)))))))
 cases cJ
 exact ⟨rfl,_,(wHP rfl rfl),bk,_,(bt.pick [] _ (by decide) rfl),rfl,rfl⟩
 intro bs cK
 refine zx (nF (bs.out)) (sR fL2 Z (oA Z Z (oA Z Z (eN (zR (zt (zg ?_)))))))
 cases cK
 exact ⟨rfl,_,(wHP rfl rfl),bn,_,(bS.pick [] _ (by decide) rfl),rfl,rfl⟩
 intro ae cL
 refine zU Z Z Z (zM Z Z (nF (ae.out)) Z) (zU Z Z Z (zM Z Z (nF (ae.out)) Z) (zU Z Z Z (zM Z Z (nF (ae.out)) Z) (zU Z Z Z (zM Z Z (nF (ae.out)) Z) (zU Z Z Z (zM Z Z (nF (ae.out)) Z) (Zb Z Z Z (zM Z Z (nF (ae.out)) Z) (zU Z Z Z (zM Z Z (nF (ae.out)) Z) (oR Z (zd Z (nF (ae.out)) Z) (oA Z Z (eN (zx Z (sR fL2 Z (oA Z Z (oA Z Z (eN (zR (zt (zg ?_)))))))))))))))))
 cases cL
 exact ⟨rfl,_,(wHP rfl rfl),bm,_,(bz.pick [] _ (by decide) rfl),rfl,rfl⟩
 intro br cM
 refine cT Z br (sR fL3 Z (oM Z Z (oA Z Z (oA Z Z (eN (zR (zt (zg ?_))))))))
 cases cM
 exact ⟨rfl,_,(wHP rfl rfl),U9,_,(bw.pick [] _ (by decide) rfl),rfl,rfl⟩
theorem wGR (p0:Int) (p1:List Int) (aj:Option Addr) (ak:Nat) (w:World) (U:PHeap) (hS:St0 w U []) (bj:Sl U 1 aj ak p1.length (hH KL.encI p1)) {r:Int} (hm:wCr p0 p1=some r):Gv Try.prog 47 [jV p0,.slice aj p1.length ak] w (wCb w [] U (fun U_ L_ v=>v=jV r/\L_=[])):=by
 unfold wCr at hm
 refine Gv.of Try.func47 Z Try.ntmps47 Try.results47 Z (sR fL1 Z (oA Z Z (eN (zI (sR fL3 Z (oM Z Z (oR Z (ZH Z Z zA) (oM Z Z (eN (zh (bnK hm fun bz bl bo=>?_)))))))))))
 have q:=wBp bl
 obtain ⟨ai,bk⟩:=q
 replace ai:=zG ai
 refine CK.forN' (fun k7 x6 σ_ w_=>∃ (U_:PHeap),σ_ 9=jV (↑k7:Int)/\σ_ 0=jV x6/\σ_ 7=.slice aj p1.length ak/\σ_ 8=jV (↑p1.length:Int)/\PHeap.Le U U_/\sW w U U_ [] w_) bk ?_ ?_ ?_
 exact ⟨U,Z,Z,Z,Z,(zY _),hS⟩
 rintro k7 x6 bw bA bq ah ⟨aW,ae,aZ,aq,au,aU,az⟩ bp
 have am:Hid ((↑k7:Int) < (↑p1.length:Int)):=zG (wBx ah)
 replace ah:=zG ah
 have bm:Hid (w64 ((↑k7:Int) + 1)=(↑(k7 + 1):Int)):=zG (by have h1:=ai.out;have h2:=am.out;rw [wAf] <;> omega)
 refine sR fL1 Z (oR Z (zf Z ae au) (eN (zI (cT Z am (kN (zI (zh (sR fL3 Z (bnK bp fun x28 av bn=>?_)))))))))
 have bf:=bj.le aU
 have q:=bf.el (fun _=>rfl) (wBe av)
 obtain ⟨bs,bv,bg,bh⟩:=q
 refine oR Z (ZY Z aq bg ae zA zC (wEM av)) (oL Z (az.ldC (f:=0) bh (v:=jV x28) Z Z zJ Z) (oA Z Z (eN (rR fL4 Z (oM Z aZ (oM Z Z (oR Z (Runs.min Z Z Z) (oA Z Z (zo (zi (zH (rR fL2 Z (oR Z (zw (zW Z ae Z) (congrArg (jV) bm.out)) (oM Z Z (zo ?_)))))))))))))))
 cases bn
 exact zH ⟨Z,⟨aW,Z,Z,aq,au,aU,az⟩⟩
 rintro bB br ⟨aX,be,ba,bt,bb,bu,bi⟩
 have aY:Hid (¬ ((↑(((↑p1.length:Int):Int) - 0).toNat:Int) < (↑p1.length:Int))):=zG (wBQ)
 refine sR fL1 Z (oR Z (zf Z be bb) (eN (zI (cF Z aY (ZS (zn (zn (ZL (zH (sR fL2 Z (oM Z ba (oA Z Z (eN (zR ?_))))))))))))))
 have hE:=nD bo;first | subst r | cases hE
 exact ⟨Z,_,(zz Z),aX,_,bi,Z,Z⟩
theorem wEZ (p0:wAD) (am:Nat) (ae:Option Addr) (ai:Nat) (ah:Option Addr) (aj:Nat) (ak:Option Addr) (aq:Nat) (ab:Nat) (au:Array MapEntry) (av:Nat) (p1:Int) (p2:Int) (w:World) (U:PHeap) (hS:St0 w U [.blk am 67 ([.slice ae p0.Bout.Shots.length ai,.slice ah p0.Bout.Down.length aj,.slice ak p0.Bout.Across.length aq,.map (some ab)] ++ ((hH KL.encI p0.hits.l) ++ ((hH KL.encI p0.used.l) ++ (hH KL.encT p0.met.l)))),.obj ab (.map au av)]) (bi:Sl U 1 ae ai p0.Bout.Shots.length (hH KL.encI p0.Bout.Shots)) (bj:Sl U 1 ah aj p0.Bout.Down.length (hH KL.encI p0.Bout.Down)) (bE:Sl U 2 ak aq p0.Bout.Across.length (hH wAB p0.Bout.Across)) (bF:MpR au wGK wGi p0.may) {r:Int} (hm:wBO p0 p1 p2=some r):Gv Try.prog 39 [.pointer (some ⟨am,0,none⟩),jV p1,jV p2] w (wCb w [.blk am 67 ([.slice ae p0.Bout.Shots.length ai,.slice ah p0.Bout.Down.length aj,.slice ak p0.Bout.Across.length aq,.map (some ab)] ++ ((hH KL.encI p0.hits.l) ++ ((hH KL.encI p0.used.l) ++ (hH KL.encT p0.met.l)))),.obj ab (.map au av)] U (fun U_ L_ v=>v=jV r/\L_=[.blk am 67 ([.slice ae p0.Bout.Shots.length ai,.slice ah p0.Bout.Down.length aj,.slice ak p0.Bout.Across.length aq,.map (some ab)] ++ ((hH KL.encI p0.hits.l) ++ ((hH KL.encI p0.used.l) ++ (hH KL.encT p0.met.l)))),.obj ab (.map au av)])):=by
 unfold wBO at hm
 refine Gv.of Try.func39 Z Try.ntmps39 Try.results39 Z (sR fL1 Z (oA Z Z (eN (zI (sR (wGJ gAk) Z (oM Z Z (oM Z Z (oM Z Z (bnK hm fun x3 h4 bK=>zQ 2 Z Z Z Z (zN Z Z Try.call58 (zE Z (zE Z (zE Z zS))) Z) hS (fun hs=>wCO p0 am ae ai ah aj ak aq ab au av p1 p2 w U hs bi bj bE bF h4) (.inl Z) ?_)))))))))
 rintro U6 L7 v8 W9 bk bv ⟨rfl,rfl⟩
 have bh:SW w [.blk am 67 ([.slice ae p0.Bout.Shots.length ai,.slice ah p0.Bout.Down.length aj,.slice ak p0.Bout.Across.length aq,.map (some ab)] ++ ((hH KL.encI p0.hits.l) ++ ((hH KL.encI p0.used.l) ++ (hH KL.encT p0.met.l)))),.obj ab (.map au av)] U U6 [.blk am 67 ([.slice ae p0.Bout.Shots.length ai,.slice ah p0.Bout.Down.length aj,.slice ak p0.Bout.Across.length aq,.map (some ab)] ++ ((hH KL.encI p0.hits.l) ++ ((hH KL.encI p0.used.l) ++ (hH KL.encT p0.met.l)))),.obj ab (.map au av)] W9:=bv
 refine oR Z (ZN Z Z) (eN (ifc bK ?_ ?_))
 intro aX bG
 refine zk (nC aX.out) (kN (zI (ZJ ZK [3,3,3,3,1,3,3,1,3,3,3,3,1,3,3,1,2,2,3] (wPt (.fx 16 gAm .stop)) (by kernel_rfl) ?_)))
 have az:=bh.drew
 generalize hw_W16:({ W9 with drawn:=W9.drawn + 1 }:World)=bP at az ⊢
 refine oM Z Z (oR Z (ze Z Z) (oR Z (zF Z Z zL Z zj) (oR Z (zF Z Z zB Z zO) (oL Z (az.ldB (j:=0) Z Z Z zV (v:=.slice ae p0.Bout.Shots.length ai) Z) (oM Z Z (bnK bG fun bl aY bH=>?_))))))
 have bn:=bi.le bk
 have q:=bn.el (fun _=>rfl) (wBe aY)
 obtain ⟨bQ,bU,br,bt⟩:=q
 refine oR Z (ZI Z Z br Z zA zC (wEL aY) (wEp aY)) (oL Z (az.ldC (f:=0) bt (v:=jV bl) Z Z zJ Z) (oM Z Z (oR Z (ze Z Z) (oR Z (zF Z Z zL Z zj) (oR Z (zF Z Z zB Z zO) (oL Z (az.ldB (j:=0) Z Z Z zV (v:=.slice ah p0.Bout.Down.length aj) Z) (oM Z Z (bnK bH fun x25 aZ bI=>?_))))))))
 have bo:=bj.le bk
 have q:=bo.el (fun _=>rfl) (wBe aZ)
 obtain ⟨bR,bV,bs,bu⟩:=q
 refine oR Z (ZI Z Z bs Z zA zC (wEL aZ) (wEp aZ)) (oL Z (az.ldC (f:=0) bu (v:=jV x25) Z Z zJ Z) (zu (pv:=[(0,jV x25)]) (zs:=[jV 0]) (cs:=[jV x25]) Z Z Z Z Z (wAJ Z wAc) zA zC ZC Z Z Z Z Z az ?_))
 intro aV bg bw
 have bz:SW w [.blk am 67 ([.slice ae p0.Bout.Shots.length ai,.slice ah p0.Bout.Down.length aj,.slice ak p0.Bout.Across.length aq,.map (some ab)] ++ ((hH KL.encI p0.hits.l) ++ ((hH KL.encI p0.used.l) ++ (hH KL.encT p0.met.l)))),.obj ab (.map au av)] U U6 [.row (some ⟨bg,0,none⟩) 1 3 1 (hH KL.encI [x25]),.blk am 67 ([.slice ae p0.Bout.Shots.length ai,.slice ah p0.Bout.Down.length aj,.slice ak p0.Bout.Across.length aq,.map (some ab)] ++ ((hH KL.encI p0.hits.l) ++ ((hH KL.encI p0.used.l) ++ (hH KL.encT p0.met.l)))),.obj ab (.map au av)] aV:=bw
 have q:=bz.freezeR (k:=0) (n:=[x25].length) rfl (wAF (f:=KL.encI) (sz:=1) (fun _=>rfl) [x25]) (by decide)
 obtain ⟨be,bS,bM,bA⟩:=q
 have bB:SW w [.blk am 67 ([.slice ae p0.Bout.Shots.length ai,.slice ah p0.Bout.Down.length aj,.slice ak p0.Bout.Across.length aq,.map (some ab)] ++ ((hH KL.encI p0.hits.l) ++ ((hH KL.encI p0.used.l) ++ (hH KL.encT p0.met.l)))),.obj ab (.map au av)] U be [.blk am 67 ([.slice ae p0.Bout.Shots.length ai,.slice ah p0.Bout.Down.length aj,.slice ak p0.Bout.Across.length aq,.map (some ab)] ++ ((hH KL.encI p0.hits.l) ++ ((hH KL.encI p0.used.l) ++ (hH KL.encT p0.met.l)))),.obj ab (.map au av)] aV:=bA
 refine bnK bI fun x43 bq bJ=>zQ 0 Z Z Z Z (zN Z Z Try.call47 (zE Z (zE Z zS)) Z) bB (fun hs=>wGR bl [x25] (some ⟨bg,0,none⟩) 1 aV be hs bM bq) (.inr Z) ?_
 rintro bf bN bW bm bT bC ⟨rfl,rfl⟩
 have bD:SW w [.blk am 67 ([.slice ae p0.Bout.Shots.length ai,.slice ah p0.Bout.Down.length aj,.slice ak p0.Bout.Across.length aq,.map (some ab)] ++ ((hH KL.encI p0.hits.l) ++ ((hH KL.encI p0.used.l) ++ (hH KL.encT p0.met.l)))),.obj ab (.map au av)] U bf [.blk am 67 ([.slice ae p0.Bout.Shots.length ai,.slice ah p0.Bout.Down.length aj,.slice ak p0.Bout.Across.length aq,.map (some ab)] ++ ((hH KL.encI p0.hits.l) ++ ((hH KL.encI p0.used.l) ++ (hH KL.encT p0.met.l)))),.obj ab (.map au av)] bm:=bC
 refine oA Z Z (eN (zR ?_))
 have hE:=nD bJ;first | subst r | cases hE
 exact ⟨Z,_,(zz Z),bf,_,bD,Z,Z⟩
 intro aX bL
 refine zx (nF (aX.out)) (sR fL1 Z (oA Z Z (eN (zR (zg ?_)))))
 cases bL
 exact ⟨Z,_,(zz Z),U6,_,bh,Z,Z⟩
end Go.Proofs.Ytkeeechdijfkhaa
namespace Go.Proofs.Ytkeeechdijfkhaa
open Go.KL
set_option maxHeartbeats 4000000
theorem wBb (p0:List Int) (ae:Option Addr) (au:Nat) (w:World) (U:PHeap) (hS:St0 w U []) (aq:Sl U 1 ae au p0.length (hH KL.encI p0)) {r:(List Int)} (hm:wAP p0=some r):Gv Try.prog 21 [.slice ae p0.length au] w (wCb w [] U (fun U_ L_ v=>∃ (A0:Option Addr) (c0:Nat),v=.slice A0 r.length c0/\L_=[.row A0 c0 3 1 (hH KL.encI r)])):=by
 unfold wAP at hm
 refine Gv.of Try.func21 Z Try.ntmps21 Try.results21 Z (sR fL1 Z (oA Z Z (eN (zI (sR fL2 Z (oM Z Z (oR Z (Runs.eqNil Z Z Z zA) (eN ?_))))))))
 by_cases c1:ae.isNone=true
 replace c1:=zG c1
 have be:p0=[]:=List.eq_nil_of_length_eq_zero (Sl.nilA (Option.isNone_iff_eq_none.1 c1.out ▸ aq))
 have bb:(some [])=some r:=by simpa [be,app] using hm
 refine zx (congrArg nA c1.out) (sR fL1 Z (oA Z Z (eN (zR (zg ?_)))))
 have aY:=hS.nilrow 3 1
 cases bb
 exact ⟨Z,_,(zz Z),U,_,aY,none,0,Z,Z⟩
 replace c1:=zG c1
 refine zk (congrArg nA (nB.2 c1.out)) (kN (sR (.fx 0 gAn .stop) Z (OKS.buildSlice0 1 Z Z Z Z Z zA zC hS ?_)))
 intro W6 b7 aZ
 have am:sW w U U [.row (some ⟨b7,0,none⟩) 0 3 1 (hH KL.encI ([]:List Int))] W6:=aZ
 refine oM Z Z (bnK hm fun x11 aV ba=>ZX (j:=0) (enc:=KL.encI) (xs:=([]:List Int)) (ys:=p0) (zs:=x11) Z Z Z Z Z ZT wEz Z Z Z Z Z Z am Z Z Z (am.srcS aq) (fun _=>Z) (fun _=>Z) aV Z ?_)
 intro ai ak av aW
 have aX:sW w U U [.row ai ak 3 1 (hH KL.encI x11)] av:=aW
 refine oA Z Z (eN (zR ?_))
 have hE:=nD ba;first | subst r | cases hE
 exact ⟨Z,_,(zz Z),U,_,aX,ai,ak,Z,Z⟩
theorem wDf (p0:wAD) (aV:Nat) (ak:Option Addr) (aq:Nat) (am:Option Addr) (au:Nat) (ae:Option Addr) (ah:Nat) (ab:Nat) (aW:Array MapEntry) (aX:Nat) (p1:Int) (p2:Int) (p3:Int) (w:World) (U:PHeap) (hS:St0 w U [.blk aV 67 ([.slice ak p0.Bout.Shots.length aq,.slice am p0.Bout.Down.length au,.slice ae p0.Bout.Across.length ah,.map (some ab)] ++ ((hH KL.encI p0.hits.l) ++ ((hH KL.encI p0.used.l) ++ (hH KL.encT p0.met.l)))),.obj ab (.map aW aX)]) (cI:Sl U 1 ak aq p0.Bout.Shots.length (hH KL.encI p0.Bout.Shots)) (cJ:Sl U 1 am au p0.Bout.Down.length (hH KL.encI p0.Bout.Down)) (cK:Sl U 2 ae ah p0.Bout.Across.length (hH wAB p0.Bout.Across)) (dh:MpR aW wGK wGi p0.may) {r:wAD} (hm:wAp p0 p1 p2 p3=some r):Gv Try.prog 40 [.pointer (some ⟨aV,0,none⟩),jV p1,jV p2,jV p3] w (wCb w [.blk aV 67 ([.slice ak p0.Bout.Shots.length aq,.slice am p0.Bout.Down.length au,.slice ae p0.Bout.Across.length ah,.map (some ab)] ++ ((hH KL.encI p0.hits.l) ++ ((hH KL.encI p0.used.l) ++ (hH KL.encT p0.met.l)))),.obj ab (.map aW aX)] U (fun U_ L_ v=>∃ (b0:Nat) (A0p00:Option Addr) (c0p00:Nat) (A0p01:Option Addr) (c0p01:Nat) (A0p02:Option Addr) (c0p02:Nat) (m0p1:Nat) (es0p1:Array MapEntry) (ck0p1:Nat),v=.pointer (some ⟨b0,0,none⟩)/\L_=[.blk b0 67 ([.slice A0p00 r.Bout.Shots.length c0p00,.slice A0p01 r.Bout.Down.length c0p01,.slice A0p02 r.Bout.Across.length c0p02,.map (some m0p1)] ++ ((hH KL.encI r.hits.l) ++ ((hH KL.encI r.used.l) ++ (hH KL.encT r.met.l)))),.obj m0p1 (.map es0p1 ck0p1),.blk aV 67 ([.slice ak p0.Bout.Shots.length aq,.slice am p0.Bout.Down.length au,.slice ae p0.Bout.Across.length ah,.map (some ab)] ++ ((hH KL.encI p0.hits.l) ++ ((hH KL.encI p0.used.l) ++ (hH KL.encT p0.met.l)))),.obj ab (.map aW aX)]/\Sl U_ 1 A0p00 c0p00 r.Bout.Shots.length (hH KL.encI r.Bout.Shots)/\Sl U_ 1 A0p01 c0p01 r.Bout.Down.length (hH KL.encI r.Bout.Down)/\Sl U_ 2 A0p02 c0p02 r.Bout.Across.length (hH wAB r.Bout.Across)/\MpR es0p1 wGK wGi r.may)):=by
 unfold wAp at hm
 refine Gv.of Try.func40 rfl Try.ntmps40 Try.results40 rfl (sR fL1 rfl (OKS.ra rfl rfl rfl rfl rfl rfl (eN (zI (ZJ ZK [3,3,3,3,1,2,3,3,3,3,1,2,3,3] (wGS (wPx (.fx 5 gAu .stop))) (by kernel_rfl) ?_)))))
 have bl:=hS.drew
 generalize hw_W4:({ w with drawn:=w.drawn + 1 }:World)=W4 at bl ⊢
 refine oM Z Z (oR Z (ze Z Z) (oR Z (zF Z Z zL Z zj) (oR Z (zF Z Z zB Z zO) (oL Z (bl.ldB (j:=0) Z Z Z zV (v:=.slice ak p0.Bout.Shots.length aq) Z) (oM Z Z (oR Z (ze Z Z) (oR Z (zF Z Z zL Z zj) (oR Z (zF Z Z zB Z zO) (oL Z (bl.ldB (j:=0) Z Z Z zV (v:=.slice am p0.Bout.Down.length au) Z) (bnK hm fun x5 h6 cU=>zQ 0 Z Z Z Z (zN Z Z Try.call21 (zE Z zS) Z) bl (fun hs=>wBb p0.Bout.Shots ak aq W4 U hs cI h6) (.inr Z) ?_))))))))))
 rintro U8 L9 dm bG bN cx ⟨ba,be,rfl,rfl⟩
 let B0:Res:=.row ba be 3 1 (hH KL.encI x5)
 have cy:SW w [.blk aV 67 ([.slice ak p0.Bout.Shots.length aq,.slice am p0.Bout.Down.length au,.slice ae p0.Bout.Across.length ah,.map (some ab)] ++ ((hH KL.encI p0.hits.l) ++ ((hH KL.encI p0.used.l) ++ (hH KL.encT p0.met.l)))),.obj ab (.map aW aX)] U U8 [B0,.blk aV 67 ([.slice ak p0.Bout.Shots.length aq,.slice am p0.Bout.Down.length au,.slice ae p0.Bout.Across.length ah,.map (some ab)] ++ ((hH KL.encI p0.hits.l) ++ ((hH KL.encI p0.used.l) ++ (hH KL.encT p0.met.l)))),.obj ab (.map aW aX)] bG:=cx
 have bZ:=cJ.le bN
 refine bnK cU fun av b5 cP=>zQ 0 Z Z Z Z (zN Z Z Try.call21 (zE Z zS) Z) cy (fun hs=>wBb p0.Bout.Down am au bG U8 hs bZ b5) (.inr Z) ?_
 rintro bq da dp bQ cY cz ⟨bb,bf,rfl,rfl⟩
 let B1:Res:=.row bb bf 3 1 (hH KL.encI av)
 have bv:SW w [.blk aV 67 ([.slice ak p0.Bout.Shots.length aq,.slice am p0.Bout.Down.length au,.slice ae p0.Bout.Across.length ah,.map (some ab)] ++ ((hH KL.encI p0.hits.l) ++ ((hH KL.encI p0.used.l) ++ (hH KL.encT p0.met.l)))),.obj ab (.map aW aX)] U bq [B1,B0,.blk aV 67 ([.slice ak p0.Bout.Shots.length aq,.slice am p0.Bout.Down.length au,.slice ae p0.Bout.Across.length ah,.map (some ab)] ++ ((hH KL.encI p0.hits.l) ++ ((hH KL.encI p0.used.l) ++ (hH KL.encT p0.met.l)))),.obj ab (.map aW aX)] bQ:=cz
 refine oA Z Z (oA Z Z (eN (sR (wHO (.fx 7 .nil .stop)) Z (oM Z Z (oM Z Z (bnK cP fun _ aY cQ=>?_))))))
 obtain ⟨df,bj⟩:=bv.rowSome (j:=1) rfl (by rw [wAF (f:=KL.encI) (sz:=1) (fun _=>rfl) x5];have hz:=wAI aY;omega)
 refine oR Z (ZI Z Z bj Z zA zC (wAr aY) (wAs aY)) ?_
 have cL:=wBf (xs:=x5) (wAI aY)
 refine zl rfl rfl rfl rfl (bv.ldR (j:=1) rfl bj rfl rfl zJ (wAl (sz:=1) (fun _=>rfl) _ _ 0 _ cL (by first | omega | rfl | simp) rfl)) rfl (zZ rfl rfl rfl rfl rfl rfl (zK rfl rfl rfl rfl (fun _=>Zh rfl rfl rfl) (zK rfl rfl rfl rfl (fun _=>ZI rfl rfl bj rfl zA zC (wAr aY) (wAs aY)) ?_)))
 have cM:=wBf (xs:=x5) (wAI aY)
 refine OKS.stR (j:=1) (vs:=[jV (w64 ((gd x5 p1.toNat) - p3))]) (cs':=hH KL.encI (nJ x5 p1.toNat (w64 ((gd x5 p1.toNat) - p3)))) rfl rfl rfl rfl bv rfl bj rfl rfl rfl zC (by rw [wAF (f:=KL.encI) (sz:=1) (fun _=>rfl)];have hz:=wAI aY;show _ + 1 <= _;first | omega | (simp only [nI];omega) | (simp only [nH,nE,nG];omega)) rfl (wCV (sz:=1) (fo:=0) (fun _=>rfl) _ _ _ _ cM (by first | omega | (simp only [nI];omega) | (simp only [nH,nE,nG];omega)) (zD rfl) rfl) rfl ?_
 intro bR cA
 let B2:Res:=.row ba be 3 1 (hH KL.encI (nJ x5 p1.toNat (w64 ((gd x5 p1.toNat) - p3))))
 have bw:SW w [.blk aV 67 ([.slice ak p0.Bout.Shots.length aq,.slice am p0.Bout.Down.length au,.slice ae p0.Bout.Across.length ah,.map (some ab)] ++ ((hH KL.encI p0.hits.l) ++ ((hH KL.encI p0.used.l) ++ (hH KL.encT p0.met.l)))),.obj ab (.map aW aX)] U bq [B1,B2,.blk aV 67 ([.slice ak p0.Bout.Shots.length aq,.slice am p0.Bout.Down.length au,.slice ae p0.Bout.Across.length ah,.map (some ab)] ++ ((hH KL.encI p0.hits.l) ++ ((hH KL.encI p0.used.l) ++ (hH KL.encT p0.met.l)))),.obj ab (.map aW aX)] bR:=cA
 refine eN (sR (wHO (.fx 7 .nil .stop)) Z (oM Z Z (oM Z Z (bnK cQ fun _ aZ cR=>?_))))
 obtain ⟨dg,bk⟩:=bw.rowSome (j:=0) rfl (by rw [wAF (f:=KL.encI) (sz:=1) (fun _=>rfl) av];have hz:=wAI aZ;omega)
 refine oR Z (ZI Z Z bk Z zA zC (wAr aZ) (wAs aZ)) ?_
 have cN:=wBf (xs:=av) (wAI aZ)
 refine zl rfl rfl rfl rfl (bw.ldR (j:=0) rfl bk rfl rfl zJ (wAl (sz:=1) (fun _=>rfl) _ _ 0 _ cN (by first | omega | rfl | simp) rfl)) rfl (zZ rfl rfl rfl rfl rfl rfl (zK rfl rfl rfl rfl (fun _=>Zh rfl rfl rfl) (zK rfl rfl rfl rfl (fun _=>ZI rfl rfl bk rfl zA zC (wAr aZ) (wAs aZ)) ?_)))
 have cO:=wBf (xs:=av) (wAI aZ)
 refine OKS.stR (j:=0) (vs:=[jV (w64 ((gd av p2.toNat) - p3))]) (cs':=hH KL.encI (nJ av p2.toNat (w64 ((gd av p2.toNat) - p3)))) rfl rfl rfl rfl bw rfl bk rfl rfl rfl zC (by rw [wAF (f:=KL.encI) (sz:=1) (fun _=>rfl)];have hz:=wAI aZ;show _ + 1 <= _;first | omega | (simp only [nI];omega) | (simp only [nH,nE,nG];omega)) rfl (wCV (sz:=1) (fo:=0) (fun _=>rfl) _ _ _ _ cO (by first | omega | (simp only [nI];omega) | (simp only [nH,nE,nG];omega)) (zD rfl) rfl) rfl ?_
 intro bh cB
 let B3:Res:=.row bb bf 3 1 (hH KL.encI (nJ av p2.toNat (w64 ((gd av p2.toNat) - p3))))
 have bL:SW w [.blk aV 67 ([.slice ak p0.Bout.Shots.length aq,.slice am p0.Bout.Down.length au,.slice ae p0.Bout.Across.length ah,.map (some ab)] ++ ((hH KL.encI p0.hits.l) ++ ((hH KL.encI p0.used.l) ++ (hH KL.encT p0.met.l)))),.obj ab (.map aW aX)] U bq [B3,B2,.blk aV 67 ([.slice ak p0.Bout.Shots.length aq,.slice am p0.Bout.Down.length au,.slice ae p0.Bout.Across.length ah,.map (some ab)] ++ ((hH KL.encI p0.hits.l) ++ ((hH KL.encI p0.used.l) ++ (hH KL.encT p0.met.l)))),.obj ab (.map aW aX)] bh:=cB
 refine eN (sR (wMm (.fx 8 (.fl 9 .nil) .stop)) rfl (zZ rfl rfl rfl rfl rfl (nS (b:=(.slice ba x5.length be:Value)) (c:=(.slice ba ((nJ x5 p1.toNat (w64 ((gd x5 p1.toNat) - p3))).length) be:Value)) rfl (by simp only [nK])) (zZ rfl rfl rfl rfl rfl (nS (b:=(.slice bb av.length bf:Value)) (c:=(.slice bb ((nJ av p2.toNat (w64 ((gd av p2.toNat) - p3))).length) bf:Value)) rfl (by simp only [nK])) (zZ rfl rfl rfl rfl rfl rfl (zK rfl rfl rfl rfl (fun _=>ze rfl rfl) (zK rfl rfl rfl rfl (fun _=>zF rfl rfl zL rfl zj) (zK rfl rfl rfl rfl (fun _=>zF rfl rfl zB rfl zm) (zl rfl rfl rfl rfl (bL.ldB (j:=2) rfl rfl rfl ZO (v:=.slice ae p0.Bout.Across.length ah) rfl) rfl (zK rfl rfl rfl rfl (fun _=>ZQ (pv:=[(0,.slice ba ((nJ x5 p1.toNat (w64 ((gd x5 p1.toNat) - p3))).length) be),(1,.slice bb ((nJ av p2.toNat (w64 ((gd av p2.toNat) - p3))).length) bf),(2,.slice ae p0.Bout.Across.length ah)]) (z:=[.slice none 0 0,.slice none 0 0,.slice none 0 0]) (cs:=[.slice ba ((nJ x5 p1.toNat (w64 ((gd x5 p1.toNat) - p3))).length) be,.slice bb ((nJ av p2.toNat (w64 ((gd av p2.toNat) - p3))).length) bf,.slice ae p0.Bout.Across.length ah]) rfl (wAJ rfl (wAJ rfl (wAJ rfl wAc))) Zj wJU rfl rfl) ?_)))))))))
 have q:=bL.freezeR (k:=1) (n:=(nJ x5 p1.toNat (w64 ((gd x5 p1.toNat) - p3))).length) rfl (wAF (f:=KL.encI) (sz:=1) (fun _=>rfl) (nJ x5 p1.toNat (w64 ((gd x5 p1.toNat) - p3)))) (by decide)
 obtain ⟨bP,cZ,cW,cC⟩:=q
 have cD:SW w [.blk aV 67 ([.slice ak p0.Bout.Shots.length aq,.slice am p0.Bout.Down.length au,.slice ae p0.Bout.Across.length ah,.map (some ab)] ++ ((hH KL.encI p0.hits.l) ++ ((hH KL.encI p0.used.l) ++ (hH KL.encT p0.met.l)))),.obj ab (.map aW aX)] U bP [B3,.blk aV 67 ([.slice ak p0.Bout.Shots.length aq,.slice am p0.Bout.Down.length au,.slice ae p0.Bout.Across.length ah,.map (some ab)] ++ ((hH KL.encI p0.hits.l) ++ ((hH KL.encI p0.used.l) ++ (hH KL.encT p0.met.l)))),.obj ab (.map aW aX)] bh:=cC
 have q:=cD.freezeR (k:=0) (n:=(nJ av p2.toNat (w64 ((gd av p2.toNat) - p3))).length) rfl (wAF (f:=KL.encI) (sz:=1) (fun _=>rfl) (nJ av p2.toNat (w64 ((gd av p2.toNat) - p3)))) (by decide)
 obtain ⟨bE,bO,cX,cE⟩:=q
 have cG:SW w [.blk aV 67 ([.slice ak p0.Bout.Shots.length aq,.slice am p0.Bout.Down.length au,.slice ae p0.Bout.Across.length ah,.map (some ab)] ++ ((hH KL.encI p0.hits.l) ++ ((hH KL.encI p0.used.l) ++ (hH KL.encT p0.met.l)))),.obj ab (.map aW aX)] U bE [.blk aV 67 ([.slice ak p0.Bout.Shots.length aq,.slice am p0.Bout.Down.length au,.slice ae p0.Bout.Across.length ah,.map (some ab)] ++ ((hH KL.encI p0.hits.l) ++ ((hH KL.encI p0.used.l) ++ (hH KL.encT p0.met.l)))),.obj ab (.map aW aX)] bh:=cE
 have cd:=cW.le bO
 have cf:=cK.le bN
 have cg:=cf.le cY
 have ci:=cg.le cZ
 have cj:=ci.le bO
 refine bnK cR fun x65 cn cS=>zQ 0 Z Z Z Z (zN Z Z Try.call42 (zE Z zS) Z) cG (fun hs=>wDc (⟨(nJ x5 p1.toNat (w64 ((gd x5 p1.toNat) - p3))),(nJ av p2.toNat (w64 ((gd av p2.toNat) - p3))),p0.Bout.Across⟩:wAC) ba be bb bf ae ah bh bE hs cd cX cj cn) (.inr Z) ?_
 rintro br db dq bT dk cH ⟨bi,bn,bs,bo,bt,bp,bu,bg,bW,bV,rfl,rfl,cp,cq,cr,ct⟩
 have bM:SW w [.blk aV 67 ([.slice ak p0.Bout.Shots.length aq,.slice am p0.Bout.Down.length au,.slice ae p0.Bout.Across.length ah,.map (some ab)] ++ ((hH KL.encI p0.hits.l) ++ ((hH KL.encI p0.used.l) ++ (hH KL.encT p0.met.l)))),.obj ab (.map aW aX)] U br [.blk bi 67 ([.slice bn x65.Bout.Shots.length bs,.slice bo x65.Bout.Down.length bt,.slice bp x65.Bout.Across.length bu,.map (some bg)] ++ ((hH KL.encI x65.hits.l) ++ ((hH KL.encI x65.used.l) ++ (hH KL.encT x65.met.l)))),.obj bg (.map bW bV),.blk aV 67 ([.slice ak p0.Bout.Shots.length aq,.slice am p0.Bout.Down.length au,.slice ae p0.Bout.Across.length ah,.map (some ab)] ++ ((hH KL.encI p0.hits.l) ++ ((hH KL.encI p0.used.l) ++ (hH KL.encT p0.met.l)))),.obj ab (.map aW aX)] bT:=cH
 refine oA Z Z (eN (zI (CK.fresh fun bz bm=>?_)))
 have bX:bz 1=jV p1:=(bm 1).trans rfl
 have bY:bz 2=jV p2:=(bm 2).trans rfl
 have bK:bz 11=.pointer (some ⟨bi,0,none⟩):=(bm 11).trans rfl
 clear bm
 refine rR (wHO (.fx 7 .nil .stop)) Z (oM Z bK (oR Z (ze Z Z) (oR Z (zF Z Z zL Z Try.sizeOf60) (oL Z (bM.ldB (j:=0) Z Z Z Try.isAgg60 (v:=.map (some bg)) Z) (oM Z bX (oM Z bY (oR Z (ZQ (pv:=[(0,jV p1),(1,jV p2)]) (z:=[jV 0,jV 0]) (cs:=[jV p1,jV p2]) Z (wAJ Z (wAJ Z wAc)) zy wCR Z Z) (OKS.mapDel (j:=1) (mk:=wGK) (mv:=wGi) (a:=(⟨p1,p2⟩:wAA)) Z Z Z Z bM Z Z Z (wDW Try.runUnderlying60) wJV ct false Z ?_))))))))
 intro bJ bI bU cV cu
 have cw:SW w [.blk aV 67 ([.slice ak p0.Bout.Shots.length aq,.slice am p0.Bout.Down.length au,.slice ae p0.Bout.Across.length ah,.map (some ab)] ++ ((hH KL.encI p0.hits.l) ++ ((hH KL.encI p0.used.l) ++ (hH KL.encT p0.met.l)))),.obj ab (.map aW aX)] U br [.blk bi 67 ([.slice bn x65.Bout.Shots.length bs,.slice bo x65.Bout.Down.length bt,.slice bp x65.Bout.Across.length bu,.map (some bg)] ++ ((hH KL.encI x65.hits.l) ++ ((hH KL.encI x65.used.l) ++ (hH KL.encT x65.met.l)))),.obj bg (.map bJ bI),.blk aV 67 ([.slice ak p0.Bout.Shots.length aq,.slice am p0.Bout.Down.length au,.slice ae p0.Bout.Across.length ah,.map (some ab)] ++ ((hH KL.encI p0.hits.l) ++ ((hH KL.encI p0.used.l) ++ (hH KL.encT p0.met.l)))),.obj ab (.map aW aX)] bU:=cu
 refine eN (sR fL2 Z (oM Z bK (oA Z Z (eN (zR ?_)))))
 cases cS
 exact ⟨Z,_,(zz Z),br,_,cw,bi,bn,bs,bo,bt,bp,bu,bg,bJ,bI,Z,Z,cp,cq,cr,cV⟩
theorem wEa (p0:wAD) (ae:Nat) (ah:Option Addr) (ak:Nat) (ai:Option Addr) (am:Nat) (aj:Option Addr) (aq:Nat) (ab:Nat) (au:Array MapEntry) (av:Nat) (p1:Int) (p2:Int) (w:World) (U:PHeap) (hS:St0 w U [.blk ae 67 ([.slice ah p0.Bout.Shots.length ak,.slice ai p0.Bout.Down.length am,.slice aj p0.Bout.Across.length aq,.map (some ab)] ++ ((hH KL.encI p0.hits.l) ++ ((hH KL.encI p0.used.l) ++ (hH KL.encT p0.met.l)))),.obj ab (.map au av)]) (bV:Sl U 1 ah ak p0.Bout.Shots.length (hH KL.encI p0.Bout.Shots)) (bW:Sl U 1 ai am p0.Bout.Down.length (hH KL.encI p0.Bout.Down)) (bX:Sl U 2 aj aq p0.Bout.Across.length (hH wAB p0.Bout.Across)) (bY:MpR au wGK wGi p0.may) {r:wBi} (hm:wBP p0 p1 p2=some r):Gv Try.prog 16 [.pointer (some ⟨ae,0,none⟩),jV p1,jV p2] w (wCb w [.blk ae 67 ([.slice ah p0.Bout.Shots.length ak,.slice ai p0.Bout.Down.length am,.slice aj p0.Bout.Across.length aq,.map (some ab)] ++ ((hH KL.encI p0.hits.l) ++ ((hH KL.encI p0.used.l) ++ (hH KL.encT p0.met.l)))),.obj ab (.map au av)] U (fun U_ L_ v=>v=.agg #[jV r.Lo,jV r.Hi]/\L_=[.blk ae 67 ([.slice ah p0.Bout.Shots.length ak,.slice ai p0.Bout.Down.length am,.slice aj p0.Bout.Across.length aq,.map (some ab)] ++ ((hH KL.encI p0.hits.l) ++ ((hH KL.encI p0.used.l) ++ (hH KL.encT p0.met.l)))),.obj ab (.map au av)])):=by
 unfold wBP at hm
 refine Gv.of Try.func16 Z Try.ntmps16 Try.results16 Z (sR (.fx 0 .nil .stop) Z ?_)
 let B0:List Value:=[jV 0,jV 0]
 refine Za (cs:=B0) Z Z Z Z Z Zk Z hS ?_
 intro W3 b4 df
 refine eN (sR gAt Z ?_)
 let B1:List Value:=[jV (-1),jV 0]
 refine oR Z (ZQ (pv:=[(0,jV (-1))]) (z:=B0) (cs:=B1) Z (wAJ Z wAc) Zk wHJ Z Z) (Za (cs:=B0) Z Z Z Z Z Zk Z df ?_)
 intro W7 b8 dk
 refine ZA (j:=0) (vs:=B1) Z Z Z Z dk Z Z Z Z ZU (zD Z) Z Z Z ?_
 intro bC cV
 have cY:SW w [.blk ae 67 ([.slice ah p0.Bout.Shots.length ak,.slice ai p0.Bout.Down.length am,.slice aj p0.Bout.Across.length aq,.map (some ab)] ++ ((hH KL.encI p0.hits.l) ++ ((hH KL.encI p0.used.l) ++ (hH KL.encT p0.met.l)))),.obj ab (.map au av)] U U [.blk b8 33 B1,.blk b4 33 B0,.blk ae 67 ([.slice ah p0.Bout.Shots.length ak,.slice ai p0.Bout.Down.length am,.slice aj p0.Bout.Across.length aq,.map (some ab)] ++ ((hH KL.encI p0.hits.l) ++ ((hH KL.encI p0.used.l) ++ (hH KL.encT p0.met.l)))),.obj ab (.map au av)] bC:=cV
 refine eN (zI (sR (wGJ gAr) Z (oM Z Z (oM Z Z (oM Z Z (bnK hm fun bA cB dw=>?_))))))
 have da:SW w [.blk ae 67 ([.slice ah p0.Bout.Shots.length ak,.slice ai p0.Bout.Down.length am,.slice aj p0.Bout.Across.length aq,.map (some ab)] ++ ((hH KL.encI p0.hits.l) ++ ((hH KL.encI p0.used.l) ++ (hH KL.encT p0.met.l)))),.obj ab (.map au av)] U U [.blk ae 67 ([.slice ah p0.Bout.Shots.length ak,.slice ai p0.Bout.Down.length am,.slice aj p0.Bout.Across.length aq,.map (some ab)] ++ ((hH KL.encI p0.hits.l) ++ ((hH KL.encI p0.used.l) ++ (hH KL.encT p0.met.l)))),.obj ab (.map au av),.blk b8 33 B1,.blk b4 33 B0] bC:=cY.pick [2,3,0,1] _ (by decide) rfl
 refine zQ 2 Z Z Z Z (zN Z Z Try.call39 (zE Z (zE Z (zE Z zS))) Z) da (fun hs=>wEZ p0 ae ah ak ai am aj aq ab au av p1 p2 bC U hs bV bW bX bY cB) (.inl Z) ?_
 rintro bB dA dK cp bK db ⟨rfl,rfl⟩
 have de:SW w [.blk ae 67 ([.slice ah p0.Bout.Shots.length ak,.slice ai p0.Bout.Down.length am,.slice aj p0.Bout.Across.length aq,.map (some ab)] ++ ((hH KL.encI p0.hits.l) ++ ((hH KL.encI p0.used.l) ++ (hH KL.encT p0.met.l)))),.obj ab (.map au av)] U bB [.blk ae 67 ([.slice ah p0.Bout.Shots.length ak,.slice ai p0.Bout.Down.length am,.slice aj p0.Bout.Across.length aq,.map (some ab)] ++ ((hH KL.encI p0.hits.l) ++ ((hH KL.encI p0.used.l) ++ (hH KL.encT p0.met.l)))),.obj ab (.map au av),.blk b8 33 B1,.blk b4 33 B0] cp:=db
 refine oR Z (zW Z Z Z) (oM Z Z (eN (zh ?_)))
 have q:=bnd dw
 obtain ⟨⟨dy,dz⟩,dp,bZ⟩:=q
 try dsimp only at bZ
 have q:=wBp dp
 obtain ⟨bI,dq⟩:=q
 replace bI:=zG bI
 refine CK.forN' (fun az (x33,x34) σ_ w_=>∃ (U_:PHeap),σ_ 15=jV (↑az:Int)/\σ_ 0=.pointer (some ⟨ae,0,none⟩)/\σ_ 1=jV p1/\σ_ 2=jV p2/\σ_ 6=.pointer (some ⟨b4,0,none⟩)/\σ_ 7=.pointer (some ⟨b8,0,none⟩)/\σ_ 14=jV (w64 (bA + 1))/\PHeap.Le bB U_/\SW w [.blk ae 67 ([.slice ah p0.Bout.Shots.length ak,.slice ai p0.Bout.Down.length am,.slice aj p0.Bout.Across.length aq,.map (some ab)] ++ ((hH KL.encI p0.hits.l) ++ ((hH KL.encI p0.used.l) ++ (hH KL.encT p0.met.l)))),.obj ab (.map au av)] U U_ [.blk ae 67 ([.slice ah p0.Bout.Shots.length ak,.slice ai p0.Bout.Down.length am,.slice aj p0.Bout.Across.length aq,.map (some ab)] ++ ((hH KL.encI p0.hits.l) ++ ((hH KL.encI p0.used.l) ++ (hH KL.encT p0.met.l)))),.obj ab (.map au av),.blk b8 33 [jV x33,jV x34],.blk b4 33 B0] w_) dq ?_ ?_ ?_
 exact ⟨bB,Z,Z,Z,Z,Z,Z,Z,(zY _),de⟩
 rintro az ⟨x33,x34⟩ dN dP cq bH ⟨cf,bp,bu,bv,bw,bF,ba,bz,bn,dg⟩ b9
 try dsimp only at b9
 have bR:Hid ((↑az:Int) < (w64 (bA + 1))):=zG (wBx bH)
 replace bH:=zG bH
 have bG:Hid (w64 ((↑az:Int) + 1)=(↑(az + 1):Int)):=zG (by have h1:=bI.out;have h2:=bR.out;rw [wAf] <;> omega)
 refine sR fL1 Z (oR Z (zf Z bp bz) (eN (zI (cT Z bR (kN (zI (zh (sR fL2 Z (oM Z bp (oA Z Z (eN (sR (wKA (.fx 4 gAh .stop)) Z (oM Z bu (oM Z bv (oM Z bw (oM Z Z ?_))))))))))))))))
 have cC:=bV.le bK
 have cD:=cC.le bn
 have cE:=bW.le bK
 have cG:=cE.le bn
 have cH:=bX.le bK
 have cI:=cH.le bn
 refine bnK b9 fun x66 cJ dx=>zQ 2 Z Z Z Z (zN Z Z Try.call40 (zE Z (zE Z (zE Z (zE Z zS)))) Z) dg (fun hs=>wDf p0 ae ah ak ai am aj aq ab au av p1 p2 (↑az:Int) cq cf hs cD cG cI bY cJ) (.inl Z) ?_
 rintro bP dB dL bQ bL dh ⟨bh,bb,bi,be,bj,bf,bk,aX,bm,bl,rfl,rfl,cK,cL,cM,cN⟩
 let B2:Res:=.blk b8 33 [jV x33,jV x34]
 have dm:SW w [.blk ae 67 ([.slice ah p0.Bout.Shots.length ak,.slice ai p0.Bout.Down.length am,.slice aj p0.Bout.Across.length aq,.map (some ab)] ++ ((hH KL.encI p0.hits.l) ++ ((hH KL.encI p0.used.l) ++ (hH KL.encT p0.met.l)))),.obj ab (.map au av)] U bP [.blk bh 67 ([.slice bb x66.Bout.Shots.length bi,.slice be x66.Bout.Down.length bj,.slice bf x66.Bout.Across.length bk,.map (some aX)] ++ ((hH KL.encI x66.hits.l) ++ ((hH KL.encI x66.used.l) ++ (hH KL.encT x66.met.l)))),.obj aX (.map bm bl),.blk ae 67 ([.slice ah p0.Bout.Shots.length ak,.slice ai p0.Bout.Down.length am,.slice aj p0.Bout.Across.length aq,.map (some ab)] ++ ((hH KL.encI p0.hits.l) ++ ((hH KL.encI p0.used.l) ++ (hH KL.encT p0.met.l)))),.obj ab (.map au av),B2,.blk b4 33 B0] bQ:=dh
 have q:=bnd dx
 obtain ⟨⟨cd,aV⟩,cO,b5⟩:=q
 try dsimp only at b5
 refine zQ 2 Z Z Z Z (zN Z Z Try.call38 (zE Z zS) Z) dm (fun hs=>wBu x66 bh bb bi be bj bf bk aX bm bl bQ bP hs cK cL cM cN cO) (.inl Z) ?_
 rintro aZ dC dM cr bJ cP ⟨bM,ct,rfl,rfl,cz⟩
 let B3:Res:=.row bM ct 3 1 (hH KL.encI cd)
 have bq:SW w [.blk ae 67 ([.slice ah p0.Bout.Shots.length ak,.slice ai p0.Bout.Down.length am,.slice aj p0.Bout.Across.length aq,.map (some ab)] ++ ((hH KL.encI p0.hits.l) ++ ((hH KL.encI p0.used.l) ++ (hH KL.encT p0.met.l)))),.obj ab (.map au av)] U aZ [B3,.blk bh 67 ([.slice bb x66.Bout.Shots.length bi,.slice be x66.Bout.Down.length bj,.slice bf x66.Bout.Across.length bk,.map (some aX)] ++ ((hH KL.encI aV.1.l) ++ ((hH KL.encI aV.2.1.l) ++ (hH KL.encT aV.2.2.l)))),.obj aX (.map bm bl),.blk ae 67 ([.slice ah p0.Bout.Shots.length ak,.slice ai p0.Bout.Down.length am,.slice aj p0.Bout.Across.length aq,.map (some ab)] ++ ((hH KL.encI p0.hits.l) ++ ((hH KL.encI p0.used.l) ++ (hH KL.encT p0.met.l)))),.obj ab (.map au av),B2,.blk b4 33 B0] cr:=cP
 have cA:bM.isNone=decide (cd=[]):=wIU (j:=0) bq rfl (fun _=>rfl) (by decide) cz
 refine oR Z (Runs.eqNilR Z Z Z zA cA) (eN (ifc b5 ?_ ?_))
 intro bD dr
 refine cT Z bD (zI (sR fL3 Z (oR Z (zF Z ba ZW Z zC) (oL Z (bq.ldB (j:=5) Z Z Z zJ (v:=jV x33) Z) (oR Z (zf Z Z Z) (eN (ifc dr ?_ ?_)))))))
 intro bE dt
 refine cT Z bE (rR gAv Z (oM Z Z (oR Z (zF Z ba ZW Z zC) (ZA (j:=5) (vs:=[jV (↑az:Int)]) Z Z Z Z bq Z Z Z Z zC (zD Z) Z Z Z ?_))))
 intro cg cQ
 have cR:SW w [.blk ae 67 ([.slice ah p0.Bout.Shots.length ak,.slice ai p0.Bout.Down.length am,.slice aj p0.Bout.Across.length aq,.map (some ab)] ++ ((hH KL.encI p0.hits.l) ++ ((hH KL.encI p0.used.l) ++ (hH KL.encT p0.met.l)))),.obj ab (.map au av)] U aZ [B3,.blk bh 67 ([.slice bb x66.Bout.Shots.length bi,.slice be x66.Bout.Down.length bj,.slice bf x66.Bout.Across.length bk,.map (some aX)] ++ ((hH KL.encI aV.1.l) ++ ((hH KL.encI aV.2.1.l) ++ (hH KL.encT aV.2.2.l)))),.obj aX (.map bm bl),.blk ae 67 ([.slice ah p0.Bout.Shots.length ak,.slice ai p0.Bout.Down.length am,.slice aj p0.Bout.Across.length aq,.map (some ab)] ++ ((hH KL.encI p0.hits.l) ++ ((hH KL.encI p0.used.l) ++ (hH KL.encT p0.met.l)))),.obj ab (.map au av),.blk b8 33 [jV (↑az:Int),jV x34],.blk b4 33 B0] cg:=cQ
 refine eN (rR gAv Z (oM Z Z (oR Z (zF Z ba ZW Z zC) (ZA (j:=5) (vs:=[jV (↑az:Int)]) Z Z Z Z cR Z Z Z Z zC (zD Z) Z Z Z ?_))))
 intro ci cS
 have cU:SW w [.blk ae 67 ([.slice ah p0.Bout.Shots.length ak,.slice ai p0.Bout.Down.length am,.slice aj p0.Bout.Across.length aq,.map (some ab)] ++ ((hH KL.encI p0.hits.l) ++ ((hH KL.encI p0.used.l) ++ (hH KL.encT p0.met.l)))),.obj ab (.map au av)] U aZ [B3,.blk bh 67 ([.slice bb x66.Bout.Shots.length bi,.slice be x66.Bout.Down.length bj,.slice bf x66.Bout.Across.length bk,.map (some aX)] ++ ((hH KL.encI aV.1.l) ++ ((hH KL.encI aV.2.1.l) ++ (hH KL.encT aV.2.2.l)))),.obj aX (.map bm bl),.blk ae 67 ([.slice ah p0.Bout.Shots.length ak,.slice ai p0.Bout.Down.length am,.slice aj p0.Bout.Across.length aq,.map (some ab)] ++ ((hH KL.encI p0.hits.l) ++ ((hH KL.encI p0.used.l) ++ (hH KL.encT p0.met.l)))),.obj ab (.map au av),.blk b8 33 [jV (↑az:Int),jV (↑az:Int)],.blk b4 33 B0] ci:=cS
 refine zo (zi (zH (rR fL2 Z (oR Z (zw (zW Z bp Z) (congrArg (jV) bG.out)) (oM Z Z (zo ?_))))))
 cases dt
 exact zH ⟨rfl,⟨aZ,rfl,bu,bv,bw,bF,ba,bz,((bn.trans bL).trans bJ),(cU.pick [3,4,5,6] _ (by decide) rfl)⟩⟩
 intro bE du
 refine cF Z bE (kN (rR gAv Z (oM Z Z (oR Z (zF Z ba ZW Z zC) (ZA (j:=5) (vs:=[jV (↑az:Int)]) Z Z Z Z bq Z Z Z Z zC (zD Z) Z Z Z ?_)))))
 intro cj cW
 have cX:SW w [.blk ae 67 ([.slice ah p0.Bout.Shots.length ak,.slice ai p0.Bout.Down.length am,.slice aj p0.Bout.Across.length aq,.map (some ab)] ++ ((hH KL.encI p0.hits.l) ++ ((hH KL.encI p0.used.l) ++ (hH KL.encT p0.met.l)))),.obj ab (.map au av)] U aZ [B3,.blk bh 67 ([.slice bb x66.Bout.Shots.length bi,.slice be x66.Bout.Down.length bj,.slice bf x66.Bout.Across.length bk,.map (some aX)] ++ ((hH KL.encI aV.1.l) ++ ((hH KL.encI aV.2.1.l) ++ (hH KL.encT aV.2.2.l)))),.obj aX (.map bm bl),.blk ae 67 ([.slice ah p0.Bout.Shots.length ak,.slice ai p0.Bout.Down.length am,.slice aj p0.Bout.Across.length aq,.map (some ab)] ++ ((hH KL.encI p0.hits.l) ++ ((hH KL.encI p0.used.l) ++ (hH KL.encT p0.met.l)))),.obj ab (.map au av),.blk b8 33 [jV x33,jV (↑az:Int)],.blk b4 33 B0] cj:=cW
 refine zo (zi (zH (rR fL2 Z (oR Z (zw (zW Z bp Z) (congrArg (jV) bG.out)) (oM Z Z (zo ?_))))))
 cases du
 exact zH ⟨rfl,⟨aZ,rfl,bu,bv,bw,bF,ba,bz,((bn.trans bL).trans bJ),(cX.pick [3,4,5,6] _ (by decide) rfl)⟩⟩
 intro bD dv
 refine cF Z bD (ZM (zi (zH (rR fL2 Z (oR Z (zw (zW Z bp Z) (congrArg (jV) bG.out)) (oM Z Z (zo ?_)))))))
 cases dv
 exact zH ⟨rfl,⟨aZ,rfl,bu,bv,bw,bF,ba,bz,((bn.trans bL).trans bJ),(bq.pick [3,4,5,6] _ (by decide) rfl)⟩⟩
 rintro dO dD ⟨bO,cy,dG,dH,dI,bS,cw,cx,dJ,bT⟩
 have cu:Hid (¬ ((↑((w64 (bA + 1):Int) - 0).toNat:Int) < (w64 (bA + 1)))):=zG (wBQ)
 refine sR fL1 Z (oR Z (zf Z cy cx) (eN (zI (cF Z cu (ZS (zn (zn (ZL (zH (sR gAj Z ?_))))))))))
 let B4:List Value:=[jV dy,jV dz]
 refine oL Z (bT.ldBA (j:=2) Z Z cw Try.isAgg33 ZU (vs:=B4) Z Z) (ZA (j:=3) (vs:=B4) Z Z Z Z bT Z bS Z Z ZU (zD Z) Z Z Z ?_)
 intro cn cZ
 have bU:SW w [.blk ae 67 ([.slice ah p0.Bout.Shots.length ak,.slice ai p0.Bout.Down.length am,.slice aj p0.Bout.Across.length aq,.map (some ab)] ++ ((hH KL.encI p0.hits.l) ++ ((hH KL.encI p0.used.l) ++ (hH KL.encT p0.met.l)))),.obj ab (.map au av)] U bO [.blk ae 67 ([.slice ah p0.Bout.Shots.length ak,.slice ai p0.Bout.Down.length am,.slice aj p0.Bout.Across.length aq,.map (some ab)] ++ ((hH KL.encI p0.hits.l) ++ ((hH KL.encI p0.used.l) ++ (hH KL.encT p0.met.l)))),.obj ab (.map au av),.blk b8 33 B4,.blk b4 33 B4] cn:=cZ
 refine eN (zR ?_)
 cases bZ
 exact ⟨rfl,_,(wJc (v:=.agg B4.toArray) ⟨⟨_,bS,(wGW Try.isAgg33 ZU (bU.blkAt (k:=3) rfl) (vs:=B4) rfl rfl)⟩,trivial⟩),bO,_,(bU.pick [0,1] _ (by decide) rfl),rfl,rfl⟩
theorem wHL (p0:wAC) (be:Option Addr) (bh:Nat) (bf:Option Addr) (bi:Nat) (bg:Option Addr) (bj:Nat) (p1:Int) (p2:Int) (w:World) (U:PHeap) (hS:St0 w U []) (bQ:Sl U 1 be bh p0.Shots.length (hH KL.encI p0.Shots)) (bR:Sl U 1 bf bi p0.Down.length (hH KL.encI p0.Down)) (bS:Sl U 2 bg bj p0.Across.length (hH wAB p0.Across)) {r:wBi × Int} (hm:wCH p0 p1 p2=some r):Gv Try.prog 6 [.agg #[.slice be p0.Shots.length bh,.slice bf p0.Down.length bi,.slice bg p0.Across.length bj],jV p1,jV p2] w (wCb w [] U (fun U_ L_ v=>v=.tuple #[.agg #[jV r.1.Lo,jV r.1.Hi],jV r.2]/\L_=[])):=by
 unfold wCH at hm
 refine Gv.of Try.func6 Z Try.ntmps6 Try.results6 Z (sR gAq Z ?_)
 let B0:List Value:=[.slice be p0.Shots.length bh,.slice bf p0.Down.length bi,.slice bg p0.Across.length bj]
 refine ZR (cs:=B0) rfl rfl rfl rfl rfl rfl (by rfl) hS ?_
 intro W1 b2 bJ
 let B1:List Value:=[jV 0,jV 0]
 refine Za (cs:=B1) Z Z Z Z Z Zk Z bJ ?_
 intro W5 b6 bv
 refine oA Z Z (eN (sR (wGJ (.fx 3 (fC4_8 (.nil)) .stop)) Z (oL Z (bv.ldBA (j:=1) Z Z Z Zc zj (vs:=B0) Z Z) (oM Z Z (oM Z Z ?_)))))
 have q:=bnd hm
 obtain ⟨⟨x9,bk⟩,bD,aY⟩:=q
 try dsimp only at aY
 refine zQ 0 Z Z Z Z (zN Z Z Try.call15 (zE Z (zE Z (zE Z zS))) Z) bv (fun hs=>wFD p0 be bh bf bi bg bj p1 p2 W5 U hs bQ bR bS bD) (.inr Z) ?_
 rintro ai bZ cg bm cd bq bp
 rcases x9 with _ | x30
 try dsimp only at aY
 obtain ⟨rfl,rfl⟩:=bp
 have bK:sW w U ai [.blk b6 33 B1,.blk b2 26 B0] bm:=bq
 refine oM Z Z (oR Z (ZP Z Z (v:=.pointer none) Z) (oR Z (ZP Z Z (v:=jV bk) Z) (oA Z Z (oA Z Z (eN (zI (sR fL2 Z (oM Z Z (oR Z (Ze Z Z Z) (eN (ifc aY ?_ ?_)))))))))))
 intro bn bT
 refine zk (zq (fun h=>h bn.out)) (kN (sR (wGJ gAw) Z (oM Z Z (oM Z Z (oM Z Z ?_)))))
 cases bT
 intro bn bU
 refine cT Z bn (sR gAx Z (oR Z (ZQ (pv:=[]) (z:=B1) (cs:=B1) Z wAc Zk wHJ Z Z) (oM Z Z (ZA (j:=0) (vs:=B1) Z Z Z Z bK Z Z Z Z ZU (zD Z) Z Z Z ?_))))
 intro bw bL
 have br:sW w U ai [.blk b6 33 B1,.blk b2 26 B0] bw:=bL
 refine oA Z Z (eN (zR (zg ?_)))
 cases bU
 exact ⟨rfl,_,(wKK (rs:=[.cell 6 33,.tmp 7]) (vs:=[.agg B1.toArray,jV bk]) ⟨⟨_,rfl,(wGW Try.isAgg33 ZU (br.blkAt (k:=0) rfl) (vs:=B1) rfl rfl)⟩,⟨rfl,trivial⟩⟩ rfl),ai,_,(br.pick [] _ (by decide) rfl),rfl,rfl⟩
 try dsimp only at aY
 obtain ⟨aj,aq,az,au,aU,av,aV,ae,aX,aW,rfl,rfl,bE,bF,bG,bH⟩:=bp
 have bs:sW w U ai [.blk aj 67 ([.slice aq x30.Bout.Shots.length az,.slice au x30.Bout.Down.length aU,.slice av x30.Bout.Across.length aV,.map (some ae)] ++ ((hH KL.encI x30.hits.l) ++ ((hH KL.encI x30.used.l) ++ (hH KL.encT x30.met.l)))),.obj ae (.map aX aW),.blk b6 33 B1,.blk b2 26 B0] bm:=bq
 refine oM Z Z (oR Z (ZP Z Z (v:=.pointer (some ⟨aj,0,none⟩)) Z) (oR Z (ZP Z Z (v:=jV bk) Z) (oA Z Z (oA Z Z (eN (zI (sR fL2 Z (oM Z Z (oR Z (Ze Z Z Z) (eN (ifc aY ?_ ?_)))))))))))
 intro bo bV
 refine zk (zq (fun h=>h bo.out)) (kN (sR (wGJ gAw) Z (oM Z Z (oM Z Z (oM Z Z (bnK bV fun x47 bI bW=>zQ 2 Z Z Z Z (zN Z Z Try.call16 (zE Z (zE Z (zE Z zS))) Z) bs (fun hs=>wEa x30 aj aq az au aU av aV ae aX aW p1 p2 bm ai hs bE bF bG bH bI) (.inl Z) ?_))))))
 rintro bl b5 ci bA cf bM ⟨rfl,rfl⟩
 have bN:sW w U bl [.blk aj 67 ([.slice aq x30.Bout.Shots.length az,.slice au x30.Bout.Down.length aU,.slice av x30.Bout.Across.length aV,.map (some ae)] ++ ((hH KL.encI x30.hits.l) ++ ((hH KL.encI x30.used.l) ++ (hH KL.encT x30.met.l)))),.obj ae (.map aX aW),.blk b6 33 B1,.blk b2 26 B0] bA:=bM
 let B2:List Value:=[jV x47.Lo,jV x47.Hi]
 refine ZA (j:=2) (vs:=B2) Z Z Z Z bN Z Z Z Z ZU (zD Z) Z Z Z ?_
 intro bB bO
 have bt:sW w U bl [.blk aj 67 ([.slice aq x30.Bout.Shots.length az,.slice au x30.Bout.Down.length aU,.slice av x30.Bout.Across.length aV,.map (some ae)] ++ ((hH KL.encI x30.hits.l) ++ ((hH KL.encI x30.used.l) ++ (hH KL.encT x30.met.l)))),.obj ae (.map aX aW),.blk b6 33 B2,.blk b2 26 B0] bB:=bO
 refine oA Z Z (eN (zR ?_))
 cases bW
 exact ⟨rfl,_,(wKK (rs:=[.cell 6 33,.tmp 7]) (vs:=[.agg B2.toArray,jV 0]) ⟨⟨_,rfl,(wGW Try.isAgg33 ZU (bt.blkAt (k:=2) rfl) (vs:=B2) rfl rfl)⟩,⟨rfl,trivial⟩⟩ rfl),bl,_,(bt.pick [] _ (by decide) rfl),rfl,rfl⟩
 intro bo bX
 refine cT Z bo (sR gAx Z (oR Z (ZQ (pv:=[]) (z:=B1) (cs:=B1) Z wAc Zk wHJ Z Z) (oM Z Z (ZA (j:=2) (vs:=B1) Z Z Z Z bs Z Z Z Z ZU (zD Z) Z Z Z ?_))))
 intro bC bP
 have bu:sW w U ai [.blk aj 67 ([.slice aq x30.Bout.Shots.length az,.slice au x30.Bout.Down.length aU,.slice av x30.Bout.Across.length aV,.map (some ae)] ++ ((hH KL.encI x30.hits.l) ++ ((hH KL.encI x30.used.l) ++ (hH KL.encT x30.met.l)))),.obj ae (.map aX aW),.blk b6 33 B1,.blk b2 26 B0] bC:=bP
 refine oA Z Z (eN (zR (zg ?_)))
 cases bX
 exact ⟨rfl,_,(wKK (rs:=[.cell 6 33,.tmp 7]) (vs:=[.agg B1.toArray,jV bk]) ⟨⟨_,rfl,(wGW Try.isAgg33 ZU (bu.blkAt (k:=2) rfl) (vs:=B1) rfl rfl)⟩,⟨rfl,trivial⟩⟩ rfl),ai,_,(bu.pick [] _ (by decide) rfl),rfl,rfl⟩
theorem wCJ (p0:List Int) (ak:Option Addr) (am:Nat) (w:World) (U:PHeap) (hS:St0 w U []) (aW:Sl U 1 ak am p0.length (hH KL.encI p0)) {r:(List Int)} (hm:wAm p0=some r):Gv Try.prog 17 [.slice ak p0.length am] w (wCb w [] U (fun U_ L_ v=>∃ (A0:Option Addr) (c0:Nat),v=.slice A0 r.length c0/\L_=[.row A0 c0 3 1 (hH KL.encI r)])):=by
 unfold wAm at hm
 refine Gv.of Try.func17 Z Try.ntmps17 Try.results17 Z (sR fL1 Z (oA Z Z (eN (sR gAo Z (oM Z Z ?_)))))
 have az:=hS.nilrow 3 1
 have aj:sW w U U [.row none 0 3 1 (hH KL.encI ([]:List Int))] w:=az
 refine bnK hm fun x4 h5 aX=>ZX (j:=0) (enc:=KL.encI) (xs:=([]:List Int)) (ys:=p0) (zs:=x4) Z Z Z Z Z ZT wEz Z Z Z Z Z Z aj Z Z Z (aj.srcS aW) (fun _=>Z) (fun _=>Z) h5 Z ?_
 intro A7 c8 W9 aU
 have aV:sW w U U [.row A7 c8 3 1 (hH KL.encI x4)] W9:=aU
 refine oA Z Z (eN (zR ?_))
 have hE:=nD aX;first | subst r | cases hE
 exact ⟨Z,_,(zz Z),U,_,aV,A7,c8,Z,Z⟩
theorem wCT (p0:List wAA) (ak:Option Addr) (am:Nat) (w:World) (U:PHeap) (hS:St0 w U []) (aW:Sl U 2 ak am p0.length (hH wAB p0)) {r:(List wAA)} (hm:wAX p0=some r):Gv Try.prog 18 [.slice ak p0.length am] w (wCb w [] U (fun U_ L_ v=>∃ (A0:Option Addr) (c0:Nat),v=.slice A0 r.length c0/\L_=[.row A0 c0 39 2 (hH wAB r)])):=by
 unfold wAX at hm
 refine Gv.of Try.func18 Z Try.ntmps18 Try.results18 Z (sR fL1 Z (oA Z Z (eN (sR gAo Z (oM Z Z ?_)))))
 have az:=hS.nilrow 39 2
 have aj:sW w U U [.row none 0 39 2 (hH wAB ([]:List wAA))] w:=az
 refine bnK hm fun x4 h5 aX=>ZX (j:=0) (enc:=wAB) (xs:=([]:List wAA)) (ys:=p0) (zs:=x4) Z Z Z Z Z Try.underlying24 wHp Z Z Z Z Z Z aj Z Z Z (aj.srcS aW) (fun _=>Z) (fun _=>Z) h5 Z ?_
 intro A7 c8 W9 aU
 have aV:sW w U U [.row A7 c8 39 2 (hH wAB x4)] W9:=aU
 refine oA Z Z (eN (zR ?_))
 have hE:=nD aX;first | subst r | cases hE
 exact ⟨Z,_,(zz Z),U,_,aV,A7,c8,Z,Z⟩
theorem wDm (p0:wAC) (aj:Option Addr) (aq:Nat) (ak:Option Addr) (au:Nat) (am:Option Addr) (av:Nat) (w:World) (U:PHeap) (hS:St0 w U []) (bO:Sl U 1 aj aq p0.Shots.length (hH KL.encI p0.Shots)) (bP:Sl U 1 ak au p0.Down.length (hH KL.encI p0.Down)) (bQ:Sl U 2 am av p0.Across.length (hH wAB p0.Across)) {r:wAC} (hm:wBF p0=some r):Gv Try.prog 7 [.agg #[.slice aj p0.Shots.length aq,.slice ak p0.Down.length au,.slice am p0.Across.length av]] w (wCb w [] U (fun U_ L_ v=>∃ (bg:Option Addr) (bp:Nat) (bh:Option Addr) (bq:Nat) (bi:Option Addr) (br:Nat),v=.agg #[.slice bg r.Shots.length bp,.slice bh r.Down.length bq,.slice bi r.Across.length br]/\L_=[.row bg bp 3 1 (hH KL.encI r.Shots),.row bh bq 3 1 (hH KL.encI r.Down),.row bi br 39 2 (hH wAB r.Across)])):=by
 unfold wBF at hm
 refine Gv.of Try.func7 Z Try.ntmps7 Try.results7 Z (sR gAl Z ?_)
 let B0:List Value:=[.slice aj p0.Shots.length aq,.slice ak p0.Down.length au,.slice am p0.Across.length av]
 refine ZR (cs:=B0) rfl rfl rfl rfl rfl rfl (by rfl) hS ?_
 intro W1 b2 bH
 let B1:List Value:=[.slice none 0 0,.slice none 0 0,.slice none 0 0]
 refine Za (cs:=B1) Z Z Z Z Z Zj Z bH ?_
 intro W5 b6 bN
 refine eN (zI (ZJ ZK [3,1,2,3,1,2,3,1,2,3,0] (.fl 0 (.fl 1 (.fl 3 (.fl 4 (.fl 6 (.fl 7 (.fx 2 (.fx 5 (.fx 8 (.fl 9 (.fx 10 .nil .stop)) .stop) .stop) .stop))))))) (by kernel_rfl) ?_))
 have ai:=bN.drew
 generalize hw_W10:({ W5 with drawn:=W5.drawn + 1 }:World)=bu at ai ⊢
 refine oR Z (zF Z Z zB Z zO) (oL Z (ai.ldB (j:=1) Z Z Z zV (v:=.slice aj p0.Shots.length aq) Z) (oR Z (zF Z Z zB Z zO) (oL Z (ai.ldB (j:=1) Z Z Z zV (v:=.slice ak p0.Down.length au) Z) (oR Z (zF Z Z zB Z zm) (oL Z (ai.ldB (j:=1) Z Z Z ZO (v:=.slice am p0.Across.length av) Z) (bnK hm fun x11 bz bR=>zQ 0 Z Z Z Z (zN Z Z Try.call17 (zE Z zS) Z) ai (fun hs=>wCJ p0.Shots aj aq bu U hs bO bz) (.inr Z) ?_))))))
 rintro bk bV b5 bm bt bF ⟨az,aZ,rfl,rfl⟩
 let B2:Res:=.row az aZ 3 1 (hH KL.encI x11)
 have bG:sW w U bk [B2,.blk b6 26 B1,.blk b2 26 B0] bm:=bF
 have bA:=bP.le bt
 refine bnK bR fun x25 bB bS=>zQ 0 Z Z Z Z (zN Z Z Try.call17 (zE Z zS) Z) bG (fun hs=>wCJ p0.Down ak au bm bk hs bA bB) (.inr Z) ?_
 rintro bl bW b9 bn bU bI ⟨aU,ba,rfl,rfl⟩
 let B3:Res:=.row aU ba 3 1 (hH KL.encI x25)
 have bJ:sW w U bl [B3,B2,.blk b6 26 B1,.blk b2 26 B0] bn:=bI
 have bC:=bQ.le bt
 have bD:=bC.le bU
 refine bnK bS fun x40 bE bT=>zQ 0 Z Z Z Z (zN Z Z Try.call18 (zE Z zS) Z) bJ (fun hs=>wCT p0.Across am av bn bl hs bD bE) (.inr Z) ?_
 rintro bf bX cd bv bZ bK ⟨aV,bb,rfl,rfl⟩
 let B4:Res:=.row aV bb 39 2 (hH wAB x40)
 have bL:sW w U bf [B4,B3,B2,.blk b6 26 B1,.blk b2 26 B0] bv:=bK
 let B5:List Value:=[.slice az x11.length aZ,.slice aU x25.length ba,.slice aV x40.length bb]
 refine oR Z (ZQ (pv:=[(0,.slice az x11.length aZ),(1,.slice aU x25.length ba),(2,.slice aV x40.length bb)]) (z:=B1) (cs:=B5) Z (wAJ Z (wAJ Z (wAJ Z wAc))) Zj wJU Z Z) (ZA (j:=3) (vs:=B5) Z Z Z Z bL Z Z Z Z zj (zD Z) Z Z Z ?_)
 intro bw bM
 have bs:sW w U bf [B4,B3,B2,.blk b6 26 B5,.blk b2 26 B0] bw:=bM
 refine eN (zR ?_)
 cases bT
 exact ⟨rfl,_,(wJc (v:=.agg B5.toArray) ⟨⟨_,rfl,(wGW Zc zj (bs.blkAt (k:=3) rfl) (vs:=B5) rfl rfl)⟩,trivial⟩),bf,_,(bs.pick [2,1,0] _ (by decide) rfl),az,aZ,aU,ba,aV,bb,rfl,rfl⟩
end Go.Proofs.Ytkeeechdijfkhaa
