import Derived.Test.YtfcmijinklojbaaT4
set_option linter.all false
open List renaming flatMap->hH,getElem_cons_succ->nE,getElem_cons_zero->nG,getElem_toArray->nH,length_set->nJ,set->nK,length_append->nM,length_cons->nO,length_nil->nQ
open Go.Value renaming bool->nA
open Bool renaming eq_false_iff->nB
open Option.some renaming inj->nD
open Int renaming toNat_natCast->nI
open Prod.mk renaming injEq->nL
open Nat renaming blt->nR,le_of_ble_eq_true->nS
open Eq renaming trans->nT
namespace Go.Proofs.Ytfcmijinklojbaa
open Go.KL
def gAa:Sch:=.fl 1 (.fl 2 .nil)
def gAb:Sch:=.fl 2 (.fl 3 .nil)
def gAc:Sch:=.fl 3 (.fl 4 .nil)
def gAd:Sch:=.fl 4 (.fl 5 .nil)
def gAe:Sch:=.fl 7 (.fl 8 .nil)
def gAf:Sch:=.fl 8 (.fl 9 .nil)
def gAg:Sch:=.fx 0 (.fl 1 .nil) .stop
def gAh:Sch:=.fx 1 (.fl 2 .nil) .stop
def gAi:Sch:=.fl 0 (.fx 1 .nil .stop)
def gAj:Sch:=.fx 3 (.fl 4 .nil) .stop
def gAk:Sch:=.fx 17 (.fl 18 .nil) .stop
def gAl:Sch:=.fl 0 gAh
def gAm:Sch:=.fx 21 (.fl 22 (.fl 23 .nil)) .stop
def gAn:Sch:=.fx 0 gAh .stop
def gAo:Sch:=.fx 0 gAa .stop
def gAp:Sch:=.fl 0 (.fl 1 (.fx 2 (.fl 3 .nil) .stop))
def gAq:Sch:=.fl 0 (.fl 1 (.fx 2 (.fx 3 .nil .stop) .stop))
def gAr:Sch:=.fl 0 (.fx 1 gAb .stop)
def gAs:Sch:=.fl 0 (.fl 1 (.fx 2 gAc .stop))
def gAt:Sch:=.fl 0 (.fl 1 (.fx 2 gAj .stop))
set_option maxHeartbeats 4000000
theorem Z {α:Type} {a:α}:a=a:=rfl
section
variable {r:Option Nat} {N:Nat} {P:Program} {l:List Oper} {Q:wCp} {D:List Deferred} {ks:List Nat} {σ:Env} {w:World} {i d j e:Nat} {s:Sch} {o:Oper} {b:Bool} {x:Operand} {v:Value} {p:Prop} {inst:Decidable p} {K:List Deferred->Env->World->Prop} {c1 c2:Code}
abbrev jV (n:Int):Value:=.int .i64 n
abbrev SW (w:World) (X:List Res) (U U':PHeap) (L:List Res) (w':World):Prop:=St ⟨w,X,U⟩ U' L w'
abbrev sW (w:World) (U U':PHeap) (L:List Res) (w':World):Prop:=St ⟨w,[],U⟩ U' L w'
abbrev St0 (w:World) (U:PHeap) (L:List Res):Prop:=St ⟨w,L,U⟩ U L w
theorem ifc {α:Type} {G p:Prop} {inst:Decidable p} {a b r:α} (h:@ite α p inst a b=r) (h1:Hid p->a=r->G) (h2:Hid (¬ p)->b=r->G):G:=by
 by_cases c:p
 rw [if_pos c] at h;exact h1 ⟨c⟩ h
 rw [if_neg c] at h;exact h2 ⟨c⟩ h
theorem bnK {α β:Type} {G:Prop} {o:Option α} {f:α->Option β} {r:β} (h:o.bind f=some r) (k:∀ x,o=some x->f x=some r->G):G:=by
 obtain ⟨x,h1,h2⟩:=bnd h
 exact k x h1 h2
theorem oR (h:(l[i]?,o.dst,nR d N,wanted l σ o)=(some o,some d,true,true)) (hr:∀ {w'},Runs P σ w' o v w') (k:OKS N P l Q D ks s (upd σ d v) w):OKS N P l Q D ks (.fl i s) σ w:=by
 simp only [nL] at h;exact OKS.r h.1 h.2.1 h.2.2.1 h.2.2.2 (fun _=>hr) k
theorem oL (h:(l[i]?,o.dst,nR d N,wanted l σ o,wQO (kOf ks i))=(some o,some d,true,true,false)) (hr:wFV P σ w o v) (k:OKS N P l Q D ks s (upd σ d v) w):OKS N P l Q D ks (.fl i s) σ w:=by
 simp only [nL] at h;exact OKS.m h.1 h.2.1 h.2.2.1 h.2.2.2.1 hr h.2.2.2.2 k
theorem oM (h:(l[i]?,o.dst,nR d N,wanted l σ o,o.op)=(some o,some d,true,true,.move x)) (hx:ev σ x=v) (k:OKS N P l Q D ks s (upd σ d v) w):OKS N P l Q D ks (.fl i s) σ w:=by
 simp only [nL] at h;exact OKS.rm h.1 h.2.1 h.2.2.1 h.2.2.2.1 h.2.2.2.2 hx k
theorem oA (h:(l[i]?,o.dst,nR d N,wanted l σ o,o.op)=(some o,some d,true,true,.assign x)) (hx:ev σ x=v) (k:OKS N P l Q D ks s (upd σ d v) w):OKS N P l Q D ks (.fl i s) σ w:=by
 simp only [nL] at h;exact OKS.ra h.1 h.2.1 h.2.2.1 h.2.2.2.1 h.2.2.2.2 hx k
theorem oF (h:(l[i]?,o.dst,nR d N,o.guard,(l[j]?).bind (·.dst),σ e,false == b)=(some o,some d,true,some (j,b),some e,.bool (decide p),false)) (c:Hid (¬ p)) (k:OKS N P l Q D ks s (upd σ d undef) w):OKS N P l Q D ks (.fl i s) σ w:=by
 simp only [nL] at h;exact OKS.p h.1 h.2.1 h.2.2.1 (wGJ h.2.2.2.1 h.2.2.2.2.1 (h.2.2.2.2.2.1.trans (wQN c.out)) h.2.2.2.2.2.2) k
theorem oT (h:(l[i]?,o.dst,nR d N,o.guard,(l[j]?).bind (·.dst),σ e,true == b)=(some o,some d,true,some (j,b),some e,.bool (decide p),false)) (c:Hid p) (k:OKS N P l Q D ks s (upd σ d undef) w):OKS N P l Q D ks (.fl i s) σ w:=by
 simp only [nL] at h;exact OKS.p h.1 h.2.1 h.2.2.1 (wGJ h.2.2.2.1 h.2.2.2.2.1 (h.2.2.2.2.2.1.trans (wQM c.out)) h.2.2.2.2.2.2) k
theorem oN {b2:Bool} (h:(l[i]?,o.dst,nR d N,o.guard,(l[j]?).bind (·.dst),σ e,b2 == b)=(some o,some d,true,some (j,b),some e,.bool b2,false)) (k:OKS N P l Q D ks s (upd σ d undef) w):OKS N P l Q D ks (.fl i s) σ w:=by
 simp only [nL] at h;exact OKS.p h.1 h.2.1 h.2.2.1 (wGJ h.2.2.2.1 h.2.2.2.2.1 h.2.2.2.2.2.1 h.2.2.2.2.2.2) k
theorem nC {a b:Bool} (h:a=b):nA (!a)=nA (!b):=h ▸ rfl
theorem nF {a:Bool} (h:¬ a=true):nA (!a)=nA (!false):=nC (nB.2 h)
theorem wT (h:(o.guard,(l[j]?).bind (·.dst),σ e)=(some (j,true),some e,.bool (decide p))) (c:Hid p):wanted l σ o=true:=by
 simp only [nL] at h;exact wHb h.1 h.2.1 (h.2.2.trans (wQM c.out))
theorem wF (h:(o.guard,(l[j]?).bind (·.dst),σ e)=(some (j,false),some e,.bool (decide p))) (c:Hid (¬ p)):wanted l σ o=true:=by
 simp only [nL] at h;exact wHb h.1 h.2.1 (h.2.2.trans (wQN c.out))
theorem rU (h:(l[i]?,o.dst,nR d N)=(some o,some d,true)) (hw:wanted l σ o=true) (hr:∀ {w'},Runs P σ w' o v w') (k:OKS N P l Q D ks s (upd σ d v) w):OKS N P l Q D ks (.fl i s) σ w:=by
 simp only [nL] at h;exact OKS.r h.1 h.2.1 h.2.2 hw (fun _=>hr) k
theorem sR {id:Nat} (s:Sch) (hs:inOrder 0 s l.length=true) (h:OKS N P l (wDz (fun D σ w=>CK r N P c2 Q D σ w) Q) D [] s σ w):CK r N P (.seq (.region id l.toArray false) c2) Q D σ w:=CK.seq (CK.reg s hs h)
theorem rR {id:Nat} (s:Sch) (hs:inOrder 0 s l.length=true) (h:OKS N P l Q D [] s σ w):CK r N P (.region id l.toArray false) Q D σ w:=CK.reg s hs h
theorem eN (h:K D σ w):OKS N P l (wDz K Q) D ks .nil σ w:=OKS.e (wHW h)
theorem cT (hz:ev σ x=.bool (decide p)) (c:Hid p) (h:CK r N P c1 Q D σ w):CK r N P (.cond x c1 c2) Q D σ w:=CK.condT (hz.trans (wQM c.out)) h
theorem cF (hz:ev σ x=.bool (decide p)) (c:Hid (¬ p)) (h:CK r N P c2 Q D σ w):CK r N P (.cond x c1 c2) Q D σ w:=CK.condF (hz.trans (wQN c.out)) h
theorem kN (h:K D σ w):CK r N P .skip (wDz K Q) D σ w:=CK.skip (wHW h)
end
def fL1:Sch:=.fl 0 .nil
def fL2:Sch:=.fl 0 (.fl 1 .nil)
def fL3:Sch:=.fl 0 gAa
def fL4:Sch:=.fl 0 (.fl 1 gAb)
def fL5:Sch:=.fl 0 (.fl 1 (.fl 2 gAc))
def fL6:Sch:=.fl 0 (.fl 1 (.fl 2 (.fl 3 gAd)))
def fL7:Sch:=.fl 0 (.fl 1 (.fl 2 (.fl 3 (.fl 4 (.fl 5 (.fl 6 .nil))))))
def fL9:Sch:=.fl 0 (.fl 1 (.fl 2 (.fl 3 (.fl 4 (.fl 5 (.fl 6 gAe))))))
def fL10:Sch:=.fl 0 (.fl 1 (.fl 2 (.fl 3 (.fl 4 (.fl 5 (.fl 6 (.fl 7 gAf)))))))
def fL11:Sch:=.fl 0 (.fl 1 (.fl 2 (.fl 3 (.fl 4 (.fl 5 (.fl 6 (.fl 7 (.fl 8 (.fl 9 (.fl 10 .nil))))))))))
def fL13:Sch:=.fl 0 (.fl 1 (.fl 2 (.fl 3 (.fl 4 (.fl 5 (.fl 6 (.fl 7 (.fl 8 (.fl 9 (.fl 10 (.fl 11 (.fl 12 .nil))))))))))))
def fL15:Sch:=.fl 0 (.fl 1 (.fl 2 (.fl 3 (.fl 4 (.fl 5 (.fl 6 (.fl 7 (.fl 8 (.fl 9 (.fl 10 (.fl 11 (.fl 12 (.fl 13 (.fl 14 .nil))))))))))))))
def fL20:Sch:=.fl 0 (.fl 1 (.fl 2 (.fl 3 (.fl 4 (.fl 5 (.fl 6 (.fl 7 (.fl 8 (.fl 9 (.fl 10 (.fl 11 (.fl 12 (.fl 13 (.fl 14 (.fl 15 (.fl 16 (.fl 17 (.fl 18 (.fl 19 .nil)))))))))))))))))))
def fL28:Sch:=.fl 0 (.fl 1 (.fl 2 (.fl 3 (.fl 4 (.fl 5 (.fl 6 (.fl 7 (.fl 8 (.fl 9 (.fl 10 (.fl 11 (.fl 12 (.fl 13 (.fl 14 (.fl 15 (.fl 16 (.fl 17 (.fl 18 (.fl 19 (.fl 20 (.fl 21 (.fl 22 (.fl 23 (.fl 24 (.fl 25 (.fl 26 (.fl 27 .nil)))))))))))))))))))))))))))
def fL29:Sch:=.fl 0 (.fl 1 (.fl 2 (.fl 3 (.fl 4 (.fl 5 (.fl 6 (.fl 7 (.fl 8 (.fl 9 (.fl 10 (.fl 11 (.fl 12 (.fl 13 (.fl 14 (.fl 15 (.fl 16 (.fl 17 (.fl 18 (.fl 19 (.fl 20 (.fl 21 (.fl 22 (.fl 23 (.fl 24 (.fl 25 (.fl 26 (.fl 27 (.fl 28 .nil))))))))))))))))))))))))))))
def fL30:Sch:=.fl 0 (.fl 1 (.fl 2 (.fl 3 (.fl 4 (.fl 5 (.fl 6 (.fl 7 (.fl 8 (.fl 9 (.fl 10 (.fl 11 (.fl 12 (.fl 13 (.fl 14 (.fl 15 (.fl 16 (.fl 17 (.fl 18 (.fl 19 (.fl 20 (.fl 21 (.fl 22 (.fl 23 (.fl 24 (.fl 25 (.fl 26 (.fl 27 (.fl 28 (.fl 29 .nil)))))))))))))))))))))))))))))
def wDo (s:Sch):Sch:=.fl 0 (.fl 1 (.fl 2 (s)))
def wIA (s:Sch):Sch:=.fl 0 (.fl 1 (.fl 2 (.fl 3 (s))))
def wGw (s:Sch):Sch:=.fl 0 (.fl 1 (.fl 2 (.fl 3 (.fl 4 (s)))))
def wHE (s:Sch):Sch:=.fl 0 (.fl 1 (.fl 2 (.fl 3 (.fl 4 (.fl 5 (s))))))
def wHF (s:Sch):Sch:=.fl 0 (.fl 1 (.fl 2 (.fl 3 (.fl 4 (.fl 5 (.fl 6 (s)))))))
def wKn (s:Sch):Sch:=.fl 0 (.fl 1 (.fl 2 (.fl 3 (.fl 4 (.fl 5 (.fl 6 (.fl 7 (s))))))))
def wRL (s:Sch):Sch:=.fl 0 (.fl 1 (.fl 2 (.fl 3 (.fl 4 (.fl 5 (.fl 6 (.fl 7 (.fl 8 (s)))))))))
def fC0_9 (s:Sch):Sch:=.fl 0 (.fl 1 (.fl 2 (.fl 3 (.fl 4 (.fl 5 (.fl 6 (.fl 7 (.fl 8 (.fl 9 (s))))))))))
def wNG (s:Sch):Sch:=.fl 0 (.fl 1 (.fl 2 (.fl 3 (.fl 4 (.fl 5 (.fl 6 (.fl 7 (.fl 8 (.fl 9 (.fl 10 (s)))))))))))
def wRM (s:Sch):Sch:=.fl 0 (.fl 1 (.fl 2 (.fl 3 (.fl 4 (.fl 5 (.fl 6 (.fl 7 (.fl 8 (.fl 9 (.fl 10 (.fl 11 (s))))))))))))
def wKH (s:Sch):Sch:=.fl 0 (.fl 1 (.fl 2 (.fl 3 (.fl 4 (.fl 5 (.fl 6 (.fl 7 (.fl 8 (.fl 9 (.fl 10 (.fl 11 (.fl 12 (s)))))))))))))
def wRN (s:Sch):Sch:=.fl 0 (.fl 1 (.fl 2 (.fl 3 (.fl 4 (.fl 5 (.fl 6 (.fl 7 (.fl 8 (.fl 9 (.fl 10 (.fl 11 (.fl 12 (.fl 13 (.fl 14 (s)))))))))))))))
def wRO (s:Sch):Sch:=.fl 0 (.fl 1 (.fl 2 (.fl 3 (.fl 4 (.fl 5 (.fl 6 (.fl 7 (.fl 8 (.fl 9 (.fl 10 (.fl 11 (.fl 12 (.fl 13 (.fl 14 (.fl 15 (s))))))))))))))))
def wRP (s:Sch):Sch:=.fl 0 (.fl 1 (.fl 2 (.fl 3 (.fl 4 (.fl 5 (.fl 6 (.fl 7 (.fl 8 (.fl 9 (.fl 10 (.fl 11 (.fl 12 (.fl 13 (.fl 14 (.fl 15 (.fl 16 (s)))))))))))))))))
def fC1_3 (s:Sch):Sch:=.fl 1 (.fl 2 (.fl 3 (s)))
def fC2_5 (s:Sch):Sch:=.fl 2 (.fl 3 (.fl 4 (.fl 5 (s))))
def wJa (s:Sch):Sch:=.fl 2 (.fl 3 (.fl 4 (.fl 5 (.fl 6 (s)))))
def wRQ (s:Sch):Sch:=.fl 2 (.fl 3 (.fl 4 (.fl 5 (.fl 6 (.fl 7 (.fl 8 (.fl 9 (.fl 10 (s)))))))))
def fC3_5 (s:Sch):Sch:=.fl 3 (.fl 4 (.fl 5 (s)))
def fC3_6 (s:Sch):Sch:=.fl 3 (.fl 4 (.fl 5 (.fl 6 (s))))
def wRR (s:Sch):Sch:=.fl 3 (.fl 4 (.fl 5 (.fl 6 (.fl 7 (s)))))
def wRS (s:Sch):Sch:=.fl 4 (.fl 5 (.fl 6 (s)))
def wRT (s:Sch):Sch:=.fl 4 (.fl 5 (.fl 6 (.fl 7 (.fl 8 (s)))))
def wRU (s:Sch):Sch:=.fl 4 (.fl 5 (.fl 6 (.fl 7 (.fl 8 (.fl 9 (.fl 10 (s)))))))
def wPz (s:Sch):Sch:=.fl 5 (.fl 6 (.fl 7 (s)))
def fC5_9 (s:Sch):Sch:=.fl 5 (.fl 6 (.fl 7 (.fl 8 (.fl 9 (s)))))
def wRV (s:Sch):Sch:=.fl 6 (.fl 7 (.fl 8 (.fl 9 (.fl 10 (s)))))
def wOc (s:Sch):Sch:=.fl 6 (.fl 7 (.fl 8 (.fl 9 (.fl 10 (.fl 11 (.fl 12 (s)))))))
def wRW (s:Sch):Sch:=.fl 6 (.fl 7 (.fl 8 (.fl 9 (.fl 10 (.fl 11 (.fl 12 (.fl 13 (.fl 14 (.fl 15 (.fl 16 (.fl 17 (.fl 18 (.fl 19 (.fl 20 (.fl 21 (.fl 22 (.fl 23 (.fl 24 (.fl 25 (.fl 26 (.fl 27 (s))))))))))))))))))))))
def wRX (s:Sch):Sch:=.fl 8 (.fl 9 (.fl 10 (s)))
def wOd (s:Sch):Sch:=.fl 9 (.fl 10 (.fl 11 (.fl 12 (.fl 13 (.fl 14 (.fl 15 (s)))))))
def wOe (s:Sch):Sch:=.fl 9 (.fl 10 (.fl 11 (.fl 12 (.fl 13 (.fl 14 (.fl 15 (.fl 16 (.fl 17 (.fl 18 (.fl 19 (.fl 20 (s))))))))))))
def wQA (s:Sch):Sch:=.fl 10 (.fl 11 (.fl 12 (s)))
def wQB (s:Sch):Sch:=.fl 11 (.fl 12 (.fl 13 (.fl 14 (.fl 15 (.fl 16 (.fl 17 (.fl 18 (.fl 19 (s)))))))))
def wNH (s:Sch):Sch:=.fl 14 (.fl 15 (.fl 16 (s)))
def wNI (s:Sch):Sch:=.fl 17 (.fl 18 (.fl 19 (s)))
theorem zA:type_of% @wKr:=@wKr
theorem zB:type_of% @Try.runUnderlying23:=@Try.runUnderlying23
theorem zC:type_of% @nS:=@nS
theorem zD:type_of% @Try.sizeOf3:=@Try.sizeOf3
theorem zE:type_of% @Try.runUnderlying26:=@Try.runUnderlying26
theorem zF:type_of% @CK.seq:=@CK.seq
theorem zG:type_of% @Enters.mk:=@Enters.mk
theorem zH:type_of% @OKS.callH:=@OKS.callH
theorem zI:type_of% @OKS.p:=@OKS.p
theorem zJ:type_of% @Runs.fa:=@Runs.fa
theorem zK:type_of% @wHb:=@wHb
theorem zL:type_of% @wHW:=@wHW
theorem zM:type_of% @Try.isAgg3:=@Try.isAgg3
theorem zN:type_of% @OKS.r:=@OKS.r
theorem zO:type_of% @Hid.mk:=@Hid.mk
theorem zP:type_of% @wGJ:=@wGJ
theorem zQ:type_of% @wOB:=@wOB
theorem zR:type_of% @CK.ret:=@CK.ret
theorem zS:type_of% @Runs.pickT:=@Runs.pickT
theorem zU:type_of% @Try.runUnderlying99:=@Try.runUnderlying99
theorem zV:type_of% @OKS.rm:=@OKS.rm
theorem zW:type_of% @wKq:=@wKq
theorem zX:type_of% @Runs.pickF:=@Runs.pickF
theorem zY:type_of% @Try.sizeOf23:=@Try.sizeOf23
theorem zZ:type_of% @Try.sizeOf26:=@Try.sizeOf26
theorem zd:type_of% @Runs.addw:=@Runs.addw
theorem ze:type_of% @Try.sizeOf44:=@Try.sizeOf44
theorem zf:type_of% @wQN:=@wQN
theorem zg:type_of% @CK.condF:=@CK.condF
theorem zh:type_of% @Runs.lss:=@Runs.lss
theorem zi:type_of% @Try.isAgg23:=@Try.isAgg23
theorem zj:type_of% @CK.block:=@CK.block
theorem zk:type_of% @PHeap.Le.refl:=@PHeap.Le.refl
theorem zl:type_of% @Runs.nilp:=@Runs.nilp
theorem zm:type_of% @wJb:=@wJb
theorem zo:type_of% @Runs.ext:=@Runs.ext
theorem zp:type_of% @Try.runUnderlying44:=@Try.runUnderlying44
theorem zq:type_of% @OKS.m:=@OKS.m
theorem zr:type_of% @OKS.e:=@OKS.e
theorem zt:type_of% @CK.condT:=@CK.condT
theorem zu:type_of% @wKp:=@wKp
theorem zw:type_of% @wJc:=@wJc
theorem zx:type_of% @res1:=@res1
theorem zy:type_of% @Runs.neq:=@Runs.neq
theorem zz:type_of% @Try.zeroValue44:=@Try.zeroValue44
theorem ZA:type_of% @Runs.len:=@Runs.len
theorem ZB:type_of% @OKS.st:=@OKS.st
theorem ZC:type_of% @Runs.to:=@Runs.to
theorem ZD:type_of% @Try.isAgg26:=@Try.isAgg26
theorem ZE:type_of% @Runs.notT:=@Runs.notT
theorem ZF:type_of% @Try.isAgg44:=@Try.isAgg44
theorem ZG:type_of% @Try.runUnderlying87:=@Try.runUnderlying87
theorem ZH:type_of% @OKS.box:=@OKS.box
theorem ZI:type_of% @Try.isAgg89:=@Try.isAgg89
theorem ZJ:type_of% @CK.skip:=@CK.skip
theorem ZK:type_of% @CK.anyOrd:=@CK.anyOrd
theorem ZL:type_of% @Try.mixed:=@Try.mixed
theorem ZM:type_of% @wHX:=@wHX
theorem ZN:type_of% @Runs.build:=@Runs.build
theorem ZO:type_of% @Try.runUnderlying93:=@Try.runUnderlying93
theorem ZP:type_of% @Runs.eql:=@Runs.eql
theorem ZQ:type_of% @Runs.iaI:=@Runs.iaI
theorem ZR:type_of% @Runs.iaA:=@Runs.iaA
theorem ZS:type_of% @Try.sizeOf35:=@Try.sizeOf35
theorem ZT:type_of% @Try.runUnderlying24:=@Try.runUnderlying24
theorem ZU:type_of% @Try.runUnderlying35:=@Try.runUnderlying35
theorem ZV:type_of% @CK.exit:=@CK.exit
theorem ZW:type_of% @OKS.alloc:=@OKS.alloc
theorem ZX:type_of% @wQM:=@wQM
theorem ZY:type_of% @Runs.subw:=@Runs.subw
theorem Za:type_of% @OKS.px:=@OKS.px
theorem Zb:type_of% @Runs.iaN:=@Runs.iaN
theorem Zc:type_of% @Try.runUnderlying95:=@Try.runUnderlying95
theorem Zd:type_of% @Try.sizeOf24:=@Try.sizeOf24
theorem Ze:type_of% @Try.call70:=@Try.call70
theorem Zf:type_of% @Try.zeroValue35:=@Try.zeroValue35
theorem Zg:type_of% @Try.sizeOf93:=@Try.sizeOf93
theorem Zh:type_of% @OKS.buildSlice:=@OKS.buildSlice
theorem Zi:type_of% @Try.zeroValue3:=@Try.zeroValue3
theorem Zj:type_of% @Try.isAgg24:=@Try.isAgg24
theorem Zk:type_of% @Try.runUnderlying3:=@Try.runUnderlying3
theorem Zl:type_of% @Try.zeroValue26:=@Try.zeroValue26
theorem Zm:type_of% @Try.isAgg35:=@Try.isAgg35
theorem Zn:type_of% @Try.sizeOf4:=@Try.sizeOf4
theorem Zo:type_of% @CK.fresh:=@CK.fresh
theorem Zp:type_of% @Try.sizeOf95:=@Try.sizeOf95
end Go.Proofs.Ytfcmijinklojbaa
namespace Go.Proofs.Ytfcmijinklojbaa
open Go.KL
set_option maxHeartbeats 4000000
theorem wEH (p0:List Int) (ab:Option Addr) (ae:Nat) (w:World) (U:PHeap) (hS:St0 w U []) (am:Sl U 1 ab ae p0.length (hH KL.encB8 p0)) {r:wAE} (hm:wCE p0=some r):Gv Try.prog 8 [.slice ab p0.length ae] w (wCY w [] U (fun U_ L_ v=>∃ (b0:Nat) (A0p0:Option Addr) (c0p0:Nat),v=.pointer (some ⟨b0,0,none⟩)/\L_=[.blk b0 87 [.slice A0p0 r.bytes.length c0p0,jV r.next,.int .u32 r.state]]/\Sl U_ 1 A0p0 c0p0 r.bytes.length (hH KL.encB8 r.bytes))):=by
 unfold wCE at hm
 refine Gv.of Try.func8 Z Try.ntmps8 Try.results8 Z (sR fL1 Z (oA Z Z (eN (sR gAp Z (oM Z Z ?_)))))
 let B0:List Value:=[.slice ab p0.length ae,jV 0,.int .u32 17]
 refine zN rfl rfl rfl rfl (fun _=>ZN (pv:=[(0,.slice ab p0.length ae),(2,.int .u32 17)]) (z:=[.slice none 0 0,jV 0,.int .u32 0]) (cs:=B0) rfl (wAb rfl (wAb rfl wAz)) Try.zeroValue87 wNk rfl rfl) (ZH (cs:=B0) rfl rfl rfl rfl rfl rfl (by rfl) hS ?_)
 intro W1 b2 ak
 refine oA Z Z (eN (zR ?_))
 cases hm
 exact ⟨Z,_,(zx Z),U,_,ak,b2,ab,ae,Z,Z,am⟩
theorem wBF (p0:wAE) (aj:Nat) (ae:Option Addr) (ah:Nat) (p1:Int) (w:World) (U:PHeap) (hS:St0 w U [.blk aj 87 [.slice ae p0.bytes.length ah,jV p0.next,.int .u32 p0.state]]) (am:Sl U 1 ae ah p0.bytes.length (hH KL.encB8 p0.bytes)) {r:Int × wAE} (hm:wAQ p0 p1=some r):Gv Try.prog 29 [.pointer (some ⟨aj,0,none⟩),jV p1] w (wCY w [.blk aj 87 [.slice ae p0.bytes.length ah,jV p0.next,.int .u32 p0.state]] U (fun U_ L_ v=>∃ (ba:Option Addr) (be:Nat),v=jV r.1/\L_=[.blk aj 87 [.slice ba r.2.bytes.length be,jV r.2.next,.int .u32 r.2.state]]/\Sl U_ 1 ba be r.2.bytes.length (hH KL.encB8 r.2.bytes))):=by
 unfold wAQ at hm
 refine Gv.of Try.func29 Z Try.ntmps29 Try.results29 Z (sR fL1 Z (oA Z Z (eN (zF (sR fL10 Z (oM Z Z (oR Z (Runs.leq Z Z Z) (oM Z Z ?_))))))))
 by_cases c2:p1 <= 1
 have bh:=hm;rw [if_pos c2] at bh;replace c2:=zO c2
 refine oT Z c2 (oT Z c2 (oT Z c2 (oT Z c2 (oT Z c2 (oT Z c2 (oR Z (zS Z (ZX c2.out) Z) (eN (zt Z (sR fL1 Z (oA Z Z (eN (zR (zW ?_)))))))))))))
 cases bh
 exact ⟨Z,_,(zx Z),U,_,hS,ae,ah,Z,Z,am⟩
 have bi:=hm;rw [if_neg c2] at bi;replace c2:=zO c2
 refine zV Z Z Z (wF Z c2) Z Z (rU Z (wF Z c2) (zl Z Z) (rU Z (wF Z c2) (zJ Z Z ZG Z Try.sizeOf22) (zq Z Z Z (wF Z c2) (hS.ldB (j:=0) Z Z Z Try.isAgg22 (v:=.slice ae p0.bytes.length ah) Z) Z (rU Z (wF Z c2) (ZA Z Z Try.runUnderlying22) (rU Z (wF Z c2) (ZP Z Z Z) (oR Z (zX Z (zf c2.out) Z) (eN (ifc bi ?_ ?_))))))))
 intro c5 bI
 refine cT Z c5 (sR fL1 Z (oA Z Z (eN (zR (zW ?_)))))
 cases bI
 exact ⟨Z,_,(zx Z),U,_,hS,ae,ah,Z,Z,am⟩
 intro c5 bJ
 refine cF Z c5 (kN (zF (ZK ZL [3,3,3,1,3,3,3,1,3,3,3,1,3,3,3,1,3,3,3,3,1,3,3,3,1,3,3,3,3,3] fL30 (by kernel_rfl) ?_)))
 have ai:=hS.drew
 generalize hw_W9:({ w with drawn:=w.drawn + 1 }:World)=W9 at ai ⊢
 refine oM Z Z (oR Z (zl Z Z) (oR Z (zJ Z Z ZG Z Try.sizeOf22) (oL Z (ai.ldB (j:=0) Z Z Z Try.isAgg22 (v:=.slice ae p0.bytes.length ah) Z) (oM Z Z (oR Z (zl Z Z) (oR Z (zJ Z Z ZG Z zD) (oL Z (ai.ldB (j:=0) Z Z Z zM (v:=jV p0.next) Z) (oM Z Z (oR Z (zl Z Z) (oR Z (zJ Z Z ZG Z Try.sizeOf22) (oL Z (ai.ldB (j:=0) Z Z Z Try.isAgg22 (v:=.slice ae p0.bytes.length ah) Z) (oR Z (ZA Z Z Try.runUnderlying22) (bnK bJ fun bO bl bv=>oR Z (Runs.rem Z Z Z bl) (bnK bv fun x13 aZ bw=>?_))))))))))))))
 have q:=am.el (fun _=>rfl) (wBo aZ)
 obtain ⟨bM,bN,br,bs⟩:=q
 refine oR Z (ZQ Z Z br Z Try.runUnderlying22 Try.sizeOf5 (wEY aZ) (wEz aZ)) (oL Z (ai.ldC (f:=0) bs (v:=.int .u8 x13) Z Z Try.isAgg5 Z) (oR Z (Runs.cvu Z Z Try.runUnderlying5 Try.runUnderlying85 Z Z) (oM Z Z (oR Z (zl Z Z) (oR Z (zJ Z Z ZG Z zD) (oL Z (ai.ldB (j:=0) Z Z Z zM (v:=jV p0.next) Z) (oM Z Z (oR Z (zl Z Z) (oR Z (zJ Z Z ZG Z Try.sizeOf22) (oL Z (ai.ldB (j:=0) Z Z Z Try.isAgg22 (v:=.slice ae p0.bytes.length ah) Z) (oR Z (ZA Z Z Try.runUnderlying22) (bnK bw fun bK bm bz=>oR Z (Runs.quo Z Z Z bm) (oR Z (Runs.cvu Z Z Zk Try.runUnderlying85 Z Z) (oA Z Z (oA Z Z (eN (zF (Zo fun aW au=>?_))))))))))))))))))
 have ap:aW 0=.pointer (some ⟨aj,0,none⟩):=(au 0).trans rfl
 have av:aW 1=jV p1:=(au 1).trans rfl
 have az:aW 5=.int .u32 (wDy x13):=(au 5).trans rfl
 have bf:aW 6=.int .u32 (wDy bK):=(au 6).trans rfl
 clear au
 refine rR (wHF (.fx 7 .nil .stop)) Z (oM Z ap (oR Z (zl Z Z) (oR Z (zJ Z Z ZG Z zD) (oL Z (ai.ldB (j:=0) Z Z Z zM (v:=jV p0.next) Z) (oR Z (zd Z Z Z) (oR Z (zl Z Z) (oR Z (zJ Z Z ZG Z zD) (ZB (j:=0) (vs:=[jV (w64 (p0.next + 1))]) Z Z Z Z ai Z Z Z Z zD (zC Z) Z Z Z ?_))))))))
 intro bj bt
 let B0:Res:=.blk aj 87 [.slice ae p0.bytes.length ah,jV p0.next,.int .u32 p0.state]
 have bg:SW w [B0] U U [.blk aj 87 [.slice ae p0.bytes.length ah,jV (w64 (p0.next + 1)),.int .u32 p0.state]] bj:=bt
 refine eN (sR (wRN (.fx 15 .nil .stop)) Z (oM Z ap (oM Z ap (oR Z (zl Z Z) (oR Z (zJ Z Z ZG Z Try.sizeOf85) (oL Z (bg.ldB (j:=0) Z Z Z Try.isAgg85 (v:=.int .u32 p0.state) Z) (oR Z (Runs.mulu Z Z Z) (oM Z az (oR Z (Runs.addu Z Z Z) (oM Z bf (oR Z (Runs.mulu Z Z Z) (oR Z (Runs.addu Z Z Z) (oR Z (Runs.addu Z Z Z) (bnK bz fun x32 bn bA=>oR Z (Runs.rem Z Z Z bn) (oR Z (zl Z Z) (oR Z (zJ Z Z ZG Z Try.sizeOf85) (ZB (j:=0) (vs:=[.int .u32 x32]) Z Z Z Z bg Z Z Z Z Try.sizeOf85 (zC Z) Z Z Z ?_)))))))))))))))))
 intro bk bu
 have aq:SW w [B0] U U [.blk aj 87 [.slice ae p0.bytes.length ah,jV (w64 (p0.next + 1)),.int .u32 x32]] bk:=bu
 refine eN (zF (sR fL6 Z (oM Z bf (oR Z (ZP Z Z Z) (oM Z Z (ifc bA ?_ ?_))))))
 intro ak bB
 refine zV Z Z Z (wT Z ak) Z av (rU Z (wT Z ak) (Runs.leq Z Z Z) (oR Z (zS Z (ZX ak.out) Z) (eN (ifc bB ?_ ?_))))
 intro aX bC
 refine cT Z aX (sR fL5 Z (oM Z az (oR Z (Runs.cvw Z Z Try.runUnderlying85 Zk Z Z) (oM Z av (bnK bC fun x42 bo bD=>oR Z (Runs.rem Z Z Z bo) (oA Z Z (eN (zR (zW ?_)))))))))
 cases bD
 exact ⟨Z,_,(zx Z),U,_,aq,ae,ah,Z,Z,am⟩
 intro aX bE
 refine cF Z aX (kN (sR fL11 Z (oM Z ap (oR Z (zl Z Z) (oR Z (zJ Z Z ZG Z Try.sizeOf85) (oL Z (aq.ldB (j:=0) Z Z Z Try.isAgg85 (v:=.int .u32 x32) Z) (oR Z (Runs.mulu Z Z Z) (oM Z az (oR Z (Runs.addu Z Z Z) (oR Z (Runs.cvw Z Z Try.runUnderlying85 Zk Z Z) (oM Z av (bnK bE fun x46 bp bF=>oR Z (Runs.rem Z Z Z bp) (oA Z Z (eN (zR ?_)))))))))))))))
 cases bF
 exact ⟨Z,_,(zx Z),U,_,aq,ae,ah,Z,Z,am⟩
 intro ak bG
 refine oF Z ak (oF Z ak (oR Z (zX Z (zf ak.out) Z) (eN (zg Z (kN (sR fL11 Z (oM Z ap (oR Z (zl Z Z) (oR Z (zJ Z Z ZG Z Try.sizeOf85) (oL Z (aq.ldB (j:=0) Z Z Z Try.isAgg85 (v:=.int .u32 x32) Z) (oR Z (Runs.mulu Z Z Z) (oM Z az (oR Z (Runs.addu Z Z Z) (oR Z (Runs.cvw Z Z Try.runUnderlying85 Zk Z Z) (oM Z av (bnK bG fun x50 bq bH=>oR Z (Runs.rem Z Z Z bq) (oA Z Z (eN (zR ?_)))))))))))))))))))
 cases bH
 exact ⟨Z,_,(zx Z),U,_,aq,ae,ah,Z,Z,am⟩
theorem wCP (p0:wAE) (ab:Nat) (ae:Option Addr) (ah:Nat) (p1:Int) (p2:Int) (w:World) (U:PHeap) (hS:St0 w U [.blk ab 87 [.slice ae p0.bytes.length ah,jV p0.next,.int .u32 p0.state]]) (ba:Sl U 1 ae ah p0.bytes.length (hH KL.encB8 p0.bytes)) {r:Int × wAE} (hm:wAa p0 p1 p2=some r):Gv Try.prog 40 [.pointer (some ⟨ab,0,none⟩),jV p1,jV p2] w (wCY w [.blk ab 87 [.slice ae p0.bytes.length ah,jV p0.next,.int .u32 p0.state]] U (fun U_ L_ v=>∃ (ap:Option Addr) (av:Nat),v=jV r.1/\L_=[.blk ab 87 [.slice ap r.2.bytes.length av,jV r.2.next,.int .u32 r.2.state]]/\Sl U_ 1 ap av r.2.bytes.length (hH KL.encB8 r.2.bytes))):=by
 unfold wAa at hm
 refine Gv.of Try.func40 Z Try.ntmps40 Try.results40 Z (sR fL1 Z (oA Z Z (eN (sR (wHE (.fx 6 gAe .stop)) Z (oM Z Z (oM Z Z (oM Z Z (oM Z Z (oR Z (ZY Z Z Z) (oR Z (zd Z Z Z) ?_))))))))))
 have q:=bnd hm
 obtain ⟨⟨x2,x3⟩,h4,az⟩:=q
 try dsimp only at az
 refine zH 1 Z Z Z Z (zG Z Z Try.call29 (zA Z (zA Z zQ)) Z) hS (fun hs=>wBF p0 ab ae ah (w64 ((w64 (p2 - p1)) + 1)) w U hs ba h4) (.inl Z) ?_
 rintro U6 L7 v8 W9 be aY ⟨am,au,rfl,rfl,aW⟩
 have aZ:SW w [.blk ab 87 [.slice ae p0.bytes.length ah,jV p0.next,.int .u32 p0.state]] U U6 [.blk ab 87 [.slice am x3.bytes.length au,jV x3.next,.int .u32 x3.state]] W9:=aY
 refine oR Z (zd Z Z Z) (oA Z Z (eN (zR ?_)))
 cases az
 exact ⟨Z,_,(zx Z),U6,_,aZ,am,au,Z,Z,aW⟩
theorem wBG (p0:wAE) (ab:Nat) (ae:Option Addr) (ah:Nat) (p1:Int) (w:World) (U:PHeap) (hS:St0 w U [.blk ab 87 [.slice ae p0.bytes.length ah,jV p0.next,.int .u32 p0.state]]) (aZ:Sl U 1 ae ah p0.bytes.length (hH KL.encB8 p0.bytes)) {r:Bool × wAE} (hm:wAW p0 p1=some r):Gv Try.prog 33 [.pointer (some ⟨ab,0,none⟩),jV p1] w (wCY w [.blk ab 87 [.slice ae p0.bytes.length ah,jV p0.next,.int .u32 p0.state]] U (fun U_ L_ v=>∃ (am:Option Addr) (au:Nat),v=.bool r.1/\L_=[.blk ab 87 [.slice am r.2.bytes.length au,jV r.2.next,.int .u32 r.2.state]]/\Sl U_ 1 am au r.2.bytes.length (hH KL.encB8 r.2.bytes))):=by
 unfold wAW at hm
 refine Gv.of Try.func33 Z Try.ntmps33 Try.results33 Z (sR fL1 Z (oA Z Z (eN (sR gAs Z (oM Z Z (oM Z Z ?_))))))
 have q:=bnd hm
 obtain ⟨⟨x2,x3⟩,h4,av⟩:=q
 try dsimp only at av
 refine zH 1 Z Z Z Z (zG Z Z Try.call29 (zA Z (zA Z zQ)) Z) hS (fun hs=>wBF p0 ab ae ah p1 w U hs aZ h4) (.inl Z) ?_
 rintro U6 L7 v8 W9 bb aX ⟨ak,aq,rfl,rfl,aV⟩
 have aY:SW w [.blk ab 87 [.slice ae p0.bytes.length ah,jV p0.next,.int .u32 p0.state]] U U6 [.blk ab 87 [.slice ak x3.bytes.length aq,jV x3.next,.int .u32 x3.state]] W9:=aX
 refine oR Z (ZP Z Z Z) (oA Z Z (eN (zR ?_)))
 cases av
 exact ⟨Z,_,(zx Z),U6,_,aY,ak,aq,Z,Z,aV⟩
theorem wCG (p0:List wAA) (au:Option Addr) (av:Nat) (p1:wAA) (w:World) (U:PHeap) (hS:St0 w U []) (bs:Sl U 2 au av p0.length (hH wAB p0)) {r:Int} (hm:wAd p0 p1=some r):Gv Try.prog 41 [.slice au p0.length av,.agg #[jV p1.Skier,jV p1.Lane]] w (wCY w [] U (fun U_ L_ v=>v=jV r/\L_=[])):=by
 unfold wAd at hm
 refine Gv.of Try.func41 Z Try.ntmps41 Try.results41 Z (sR gAg Z ?_)
 let B0:List Value:=[jV p1.Skier,jV p1.Lane]
 refine ZH (cs:=B0) rfl rfl rfl rfl rfl rfl (by rfl) hS ?_
 intro W1 b2 bq
 refine oA Z Z (eN (zF (sR fL3 Z (oM Z Z (oR Z (ZA Z Z ZT) (oM Z Z (eN (zj ?_))))))))
 have q:=wDe hm
 obtain ⟨r7,am⟩:=q
 have q:=wDd am
 obtain ⟨aq,bv⟩:=q
 replace aq:=zO aq
 refine CK.forN (fun k6 _ σ_ w_=>∃ (U_:PHeap),σ_ 8=jV (↑k6:Int)/\σ_ 0=.slice au p0.length av/\σ_ 3=.pointer (some ⟨b2,0,none⟩)/\σ_ 7=jV (↑p0.length:Int)/\PHeap.Le U U_/\sW w U U_ [.blk b2 35 B0] w_) bv ?_ ?_ ?_
 exact ⟨U,Z,Z,Z,Z,(zk _),bq⟩
 rintro k6 ⟨⟩ bN bO aV ap ⟨az,ak,aY,aZ,ba,bg,bp⟩ bf bt
 try dsimp only at bf
 have aX:Hid ((↑k6:Int) < (↑p0.length:Int)):=zO (wCJ ap)
 replace ap:=zO ap
 have bw:Hid (w64 ((↑k6:Int) + 1)=(↑(k6 + 1):Int)):=zO (by have h1:=aq.out;have h2:=aX.out;rw [wAX] <;> omega)
 refine sR fL1 rfl (zN rfl rfl rfl rfl (fun _=>zh rfl ak ba) (eN (zF (cT Z aX (kN (zF (zj (sR fL2 rfl (zV rfl rfl rfl rfl rfl ak (OKS.ra rfl rfl rfl rfl rfl rfl (eN (zF (ZK ZL [1,3,3,3,1,3] fL6 (by kernel_rfl) ?_)))))))))))))
 have ae:=bp.drew
 generalize hw_W27:({ aV with drawn:=aV.drawn + 1 }:World)=bF at ae ⊢
 refine oL Z (ae.ldBA (j:=0) Z Z aZ Zm ZS (vs:=B0) Z Z) (oM Z aY (oM Z Z (bnK bf fun x28 bb bz=>?_)))
 have bm:=bs.le bg
 have q:=bm.el (fun _=>rfl) (wBo bb)
 obtain ⟨bH,bL,bn,bo⟩:=q
 refine oR Z (Zb Z Z bn Z ZT ZS (wEZ bb)) (oL Z (ae.ldCA (f:=0) bo Z Z Zm ZS (us:=[jV x28.Skier,jV x28.Lane]) Z Z) (oR Z (Runs.eqS (enc:=wAB) (a:=p1) (b:=x28) Z Z Z eqT35 eqG35) (eN (ifc bz ?_ ?_))))
 intro aj bA
 refine cT Z aj (sR fL2 Z (oM Z Z (oA Z Z (eN (zR (zw (zW ?_)))))))
 have q:=wBh bA
 obtain ⟨bD,bB,bj⟩:=q
 have q:=wDK hm am (bt bD bj)
 obtain rfl:=q
 refine zW (zw (zW ?_))
 cases bB
 exact ⟨rfl,_,(zx rfl),az,_,(ae.pick [] _ (by decide) rfl),rfl,rfl⟩
 intro aj bC
 refine cF Z aj (ZJ (zm (zL (rR fL2 Z (oR Z (ZC (zd Z ak Z) (congrArg (jV) bw.out)) (oM Z Z (zr ?_)))))))
 have q:=nD bC
 obtain rfl:=q
 exact zL ⟨Z,_,Z,⟨az,Z,aY,aZ,ba,bg,ae⟩⟩
 rintro ⟨⟩ bP bG ⟨bh,bl,bI,bJ,bk,bK,br⟩ bu
 have be:=wFA hm am bu
 try dsimp only at be
 have bi:Hid (¬ ((↑(((↑p0.length:Int):Int) - 0).toNat:Int) < (↑p0.length:Int))):=zO (wBe)
 refine sR fL1 Z (oR Z (zh Z bl bk) (eN (zF (cF Z bi (ZV (zu (zu (ZM (zL (sR fL1 Z (oA Z Z (eN (zR ?_)))))))))))))
 cases be
 exact ⟨rfl,_,(zx rfl),bh,_,(br.pick [] _ (by decide) rfl),rfl,rfl⟩
theorem wBH (p0:List wAA) (ah:Option Addr) (ai:Nat) (p1:wAA) (w:World) (U:PHeap) (hS:St0 w U []) (aW:Sl U 2 ah ai p0.length (hH wAB p0)) {r:Bool} (hm:wAJ p0 p1=some r):Gv Try.prog 10 [.slice ah p0.length ai,.agg #[jV p1.Skier,jV p1.Lane]] w (wCY w [] U (fun U_ L_ v=>v=.bool r/\L_=[])):=by
 unfold wAJ at hm
 refine Gv.of Try.func10 Z Try.ntmps10 Try.results10 Z (sR gAg Z ?_)
 let B0:List Value:=[jV p1.Skier,jV p1.Lane]
 refine ZH (cs:=B0) rfl rfl rfl rfl rfl rfl (by rfl) hS ?_
 intro W1 b2 ak
 refine oA Z Z (eN (sR gAs Z (oM Z Z (oL Z (ak.ldBA (j:=0) Z Z Z Zm ZS (vs:=B0) Z Z) (bnK hm fun x5 h6 am=>zH 0 Z Z Z Z (zG Z Z Try.call41 (zA Z (zA Z zQ)) Z) ak (fun hs=>wCG p0 ah ai p1 W1 U hs aW h6) (.inr Z) ?_)))))
 rintro U8 L9 aZ aq aY az ⟨rfl,rfl⟩
 have aV:sW w U U8 [.blk b2 35 B0] aq:=az
 refine oR Z (Runs.geq Z Z Z) (oA Z Z (eN (zR ?_)))
 first | (obtain rfl:=nD am) | cases am
 exact ⟨rfl,_,(zx rfl),U8,_,(aV.pick [] _ (by decide) rfl),rfl,rfl⟩
theorem wEq (p0:wAE) (am:Nat) (cV:Option Addr) (cW:Nat) (p1:Int) (w:World) (U:PHeap) (hS:St0 w U [.blk am 87 [.slice cV p0.bytes.length cW,jV p0.next,.int .u32 p0.state]]) (pD:Sl U 1 cV cW p0.bytes.length (hH KL.encB8 p0.bytes)) {r:wAC × (List (List Int)) × wAE} (hm:wBZ p0 p1=some r):Gv Try.prog 7 [.pointer (some ⟨am,0,none⟩),jV p1] w (wCY w [.blk am 87 [.slice cV p0.bytes.length cW,jV p0.next,.int .u32 p0.state]] U (fun U_ L_ v=>∃ (fT:Option Addr) (gJ:Nat) (fU:Option Addr) (gK:Nat) (fV:Option Addr) (gL:Nat) (A1:Option Addr) (c1:Nat) (g8:List Value) (gf:Option Addr) (g7:Nat),v=.tuple #[.agg #[.slice fT r.1.Shots.length gJ,.slice fU r.1.Down.length gK,.slice fV r.1.Across.length gL],.slice A1 r.2.1.length c1]/\L_=[.row fT gJ 3 1 (hH KL.encI r.1.Shots),.row fU gK 3 1 (hH KL.encI r.1.Down),.row A1 c1 23 1 g8,.blk am 87 [.slice gf r.2.2.bytes.length g7,jV r.2.2.next,.int .u32 r.2.2.state]]/\Sl U_ 2 fV gL r.1.Across.length (hH wAB r.1.Across)/\RlL U_ wNP r.2.1 g8/\Sl U_ 1 gf g7 r.2.2.bytes.length (hH KL.encB8 r.2.2.bytes))):=by
 unfold wBZ at hm
 refine Gv.of Try.func7 Z Try.ntmps7 Try.results7 Z (sR gAg Z ?_)
 let B0:List Value:=[.slice none 0 0,.slice none 0 0,.slice none 0 0]
 refine ZW (cs:=B0) Z Z Z Z Z Zl Z hS ?_
 intro W2 b3 om
 refine oA Z Z (eN (sR (.fx 0 .nil .stop) Z (ZW (cs:=B0) Z Z Z Z Z Zl Z om ?_)))
 intro W6 b7 pi
 refine eN (sR gAp Z (oM Z Z (oM Z Z ?_)))
 have q:=bnd hm
 obtain ⟨⟨aW,fK⟩,lX,iB⟩:=q
 try dsimp only at iB
 let B1:Res:=.blk am 87 [.slice cV p0.bytes.length cW,jV p0.next,.int .u32 p0.state]
 have mY:SW w [B1] U U [B1,.blk b7 26 B0,.blk b3 26 B0] W6:=pi.pick [2,0,1] _ (by decide) rfl
 refine zH 1 Z Z Z Z (zG Z Z Try.call40 (zA Z (zA Z (zA Z zQ))) Z) mY (fun hs=>wCP p0 am cV cW 1 p1 W6 U hs pD lX) (.inl Z) ?_
 rintro en rq rW i7 rT m8 ⟨fY,gO,rfl,rfl,l3⟩
 have n5:SW w [B1] U en [.blk am 87 [.slice fY fK.bytes.length gO,jV fK.next,.int .u32 fK.state],.blk b7 26 B0,.blk b3 26 B0] i7:=m8
 refine oA Z Z (eN (zF (sR fL2 Z (oM Z Z (oM Z Z (eN (zj ?_)))))))
 have q:=bnd iB
 obtain ⟨⟨rn,ro,rp,aZ⟩,pK,iM⟩:=q
 try dsimp only at iM
 have q:=wBz pK
 obtain ⟨fu,pL⟩:=q
 replace fu:=zO fu
 refine CK.forN' (fun bs (dN,x56,x57,fC) σ_ w_=>∃ (U_:PHeap) (de:Option Addr) (dC:Nat) (dh:Option Addr) (dE:Nat),σ_ 18=jV (↑bs:Int)/\σ_ 0=.pointer (some ⟨am,0,none⟩)/\σ_ 4=.pointer (some ⟨b3,0,none⟩)/\σ_ 6=.pointer (some ⟨b7,0,none⟩)/\σ_ 7=jV aW/\σ_ 17=jV aW/\PHeap.Le en U_/\SW w [B1] U U_ [.blk am 87 [.slice de dN.length dC,jV x56,.int .u32 x57],.row dh dE 35 2 (hH wAB fC),.blk b7 26 [.slice none 0 0,.slice none 0 0,.slice dh fC.length dE],.blk b3 26 B0] w_/\Sl U_ 1 de dC dN.length (hH KL.encB8 dN)) pL ?_ ?_ ?_
 have o7:=n5.nilrow 35 2
 exact ⟨en,fY,gO,none,0,rfl,rfl,rfl,rfl,rfl,rfl,(zk _),(o7.pick [1,0,2,3] _ (by decide) rfl),l3⟩
 rintro bs ⟨dN,x56,x57,fC⟩ sv sJ rI fh ⟨gx,de,dC,dh,dE,eQ,ls,lB,lG,ik,il,qS,pn,mN⟩ iR
 try dsimp only at iR
 have gU:Hid ((↑bs:Int) < aW):=zO (wCJ fh)
 replace fh:=zO fh
 have qd:Hid (w64 ((↑bs:Int) + 1)=(↑(bs + 1):Int)):=zO (by have h1:=fu.out;have h2:=gU.out;rw [wAX] <;> omega)
 refine sR fL1 Z (oR Z (zh Z eQ il) (eN (zF (cT Z gU (kN (zF (zj (sR fL2 Z (oM Z eQ (oA Z Z (eN (sR fL2 Z (oM Z ik (oM Z Z (eN (zj ?_))))))))))))))))
 have q:=bnd iR
 obtain ⟨⟨sA,sB,sC,sD⟩,pE,iA⟩:=q
 try dsimp only at iA
 have q:=wBz pE
 obtain ⟨fj,pF⟩:=q
 replace fj:=zO fj
 refine CK.forN' (fun bE (cP,x120,x121,b9) σ_ w_=>∃ (U_:PHeap) (cx:Option Addr) (cC:Nat) (bQ:Option Addr) (bS:Nat),σ_ 22=jV (↑bE:Int)/\σ_ 0=.pointer (some ⟨am,0,none⟩)/\σ_ 4=.pointer (some ⟨b3,0,none⟩)/\σ_ 6=.pointer (some ⟨b7,0,none⟩)/\σ_ 7=jV aW/\σ_ 8=jV (↑bs:Int)/\σ_ 17=jV aW/\σ_ 18=jV (↑bs:Int)/\σ_ 21=jV aW/\PHeap.Le gx U_/\SW w [B1] U U_ [.blk am 87 [.slice cx cP.length cC,jV x120,.int .u32 x121],.row bQ bS 35 2 (hH wAB b9),.blk b7 26 [.slice none 0 0,.slice none 0 0,.slice bQ b9.length bS],.blk b3 26 B0] w_/\Sl U_ 1 cx cC cP.length (hH KL.encB8 cP)) pF ?_ ?_ ?_
 exact ⟨gx,de,dC,dh,dE,Z,ls,lB,lG,ik,Z,il,eQ,Z,(zk _),pn,mN⟩
 rintro bE ⟨cP,x120,x121,b9⟩ sq sE i5 fd ⟨gu,cx,cC,bQ,bS,cI,dG,eJ,cG,eK,cH,eL,eM,dH,fD,it,io⟩ fy
 try dsimp only at fy
 have gN:Hid ((↑bE:Int) < aW):=zO (wCJ fd)
 replace fd:=zO fd
 have fc:Hid (w64 ((↑bE:Int) + 1)=(↑(bE + 1):Int)):=zO (by have h1:=fj.out;have h2:=gN.out;rw [wAX] <;> omega)
 refine sR fL1 Z (oR Z (zh Z cI dH) (eN (zF (cT Z gN (kN (zF (zj (sR fL2 Z (oM Z cI (oA Z Z (eN (sR (wGw (.fx 5 (.fl 6 .nil) .stop)) Z (oM Z cH (oM Z Z (oR Z (zy Z Z Z) (oM Z Z ?_))))))))))))))))
 by_cases bu:(↑bs:Int)=(↑bE:Int)
 have iC:=fy;rw [if_pos bu] at iC;replace bu:=zO bu
 refine zI Z Z Z (zP Z Z (zf (fun h=>h bu.out)) Z) (Za Z Z Z (zP Z Z (zf (fun h=>h bu.out)) Z) (oR Z (zX Z (zf (fun h=>h bu.out)) Z) (eN (zg Z (ZJ (zm (zL (rR fL2 Z (oR Z (ZC (zd Z cI Z) (congrArg (jV) fc.out)) (oM Z Z (zr ?_)))))))))))
 cases iC
 exact zL ⟨Z,⟨gu,cx,cC,bQ,bS,Z,dG,eJ,cG,eK,cH,eL,eM,dH,fD,it,io⟩⟩
 have iD:=fy;rw [if_neg bu] at iD;replace bu:=zO bu
 refine zV Z Z Z (wT Z bu) Z dG ?_
 have q:=bnd iD
 obtain ⟨⟨se,fL⟩,lY,iE⟩:=q
 try dsimp only at iE
 refine zH 1 Z Z Z (wT Z bu) (zG Z Z Try.call33 (zA Z (zA Z zQ)) Z) it (fun hs=>wBG (⟨cP,x120,x121⟩:wAE) am cx cC 4 i5 gu hs io lY) (.inl Z) ?_
 rintro cq rt rX i6 iT mZ ⟨dT,eA,rfl,rfl,ip⟩
 let B2:Res:=.blk am 87 [.slice dT fL.bytes.length eA,jV fL.next,.int .u32 fL.state]
 let B3:Res:=.blk b7 26 [.slice none 0 0,.slice none 0 0,.slice bQ b9.length bS]
 let B4:Res:=.row bQ bS 35 2 (hH wAB b9)
 have eT:SW w [B1] U cq [B2,B4,B3,.blk b3 26 B0] i6:=mZ
 refine oR Z (zS Z (ZX bu.out) Z) (eN (ifc iE ?_ ?_))
 intro eC qe
 refine zt (congrArg nA eC.out) (rR (wGw (.fx 5 (.fx 6 (.fl 7 (.fx 8 .nil .stop)) .stop) .stop)) Z (oR Z (zJ Z cG zE Z Zd) (oL Z (eT.ldB (j:=2) Z Z Z Zj (v:=.slice bQ b9.length bS) Z) (oM Z cH (oM Z Z ?_)))))
 let B5:List Value:=[jV (↑bs:Int),jV (↑bE:Int)]
 refine oR Z (ZN (pv:=[(0,jV (↑bs:Int)),(1,jV (↑bE:Int))]) (z:=[jV 0,jV 0]) (cs:=B5) Z (wAb Z (wAb Z wAz)) Zf wDm Z Z) (Zh (pv:=[(0,.agg B5.toArray)]) (zs:=[jV 0,jV 0]) (cs:=B5) Z Z Z Z Z (wAb Z wAz) ZT ZS Zf Z Z Z Z Z eT ?_)
 intro i8 jv m0
 let B6:Res:=.row (some ⟨jv,0,none⟩) 1 35 2 (hH wAB [(⟨(↑bs:Int),(↑bE:Int)⟩:wAA)])
 have iu:SW w [B1] U cq [B6,B2,B4,B3,.blk b3 26 B0] i8:=m0
 refine bnK qe fun dR lZ qf=>OKS.append (j:=2) (enc:=wAB) (xs:=b9) (ys:=[(⟨(↑bs:Int),(↑bE:Int)⟩:wAA)]) (zs:=dR) rfl rfl rfl rfl rfl Try.underlying24 wOX rfl rfl rfl rfl rfl rfl iu rfl rfl rfl (iu.srcR (j:=0) rfl (by decide) (wAG (f:=wAB) (sz:=2) (fun _=>rfl) [(⟨(↑bs:Int),(↑bE:Int)⟩:wAA)])) (fun _=>rfl) (fun _=>rfl) lZ rfl ?_
 intro cZ dx i9 m4
 let B7:Res:=.row cZ dx 35 2 (hH wAB dR)
 have m5:SW w [B1] U cq [B6,B2,B7,B3,.blk b3 26 B0] i9:=m4
 refine oR Z (zJ Z cG zE Z Zd) (ZB (j:=3) (vs:=[.slice cZ dR.length dx]) Z Z Z Z m5 Z Z Z Z Zd (zC Z) Z Z Z ?_)
 intro ja m6
 have m7:SW w [B1] U cq [B6,B2,B7,.blk b7 26 [.slice none 0 0,.slice none 0 0,.slice cZ dR.length dx],.blk b3 26 B0] ja:=m6
 refine zr (zm (zL (rR fL2 Z (oR Z (ZC (zd Z cI Z) (congrArg (jV) fc.out)) (oM Z Z (zr ?_))))))
 cases qf
 exact zL ⟨rfl,⟨cq,dT,eA,cZ,dx,rfl,dG,eJ,cG,eK,cH,eL,eM,dH,(fD.trans iT),(m7.pick [1,2,3,4] _ (by decide) rfl),ip⟩⟩
 intro eC qg
 refine zg (congrArg nA (nB.2 eC.out)) (ZJ (zm (zL (rR fL2 Z (oR Z (ZC (zd Z cI Z) (congrArg (jV) fc.out)) (oM Z Z (zr ?_)))))))
 cases qg
 exact zL ⟨Z,⟨cq,dT,eA,bQ,bS,Z,dG,eJ,cG,eK,cH,eL,eM,dH,(fD.trans iT),eT,ip⟩⟩
 rintro sF rG ⟨i0,iY,jy,iZ,jz,lT,jE,jG,jH,jJ,rM,jK,jL,jM,qQ,m9,l4⟩
 have jA:Hid (¬ ((↑((aW:Int) - 0).toNat:Int) < aW)):=zO (wBe)
 refine sR fL1 Z (oR Z (zh Z lT jM) (eN (zF (cF Z jA (ZV (zu (zu (ZM (zm (zL (rR fL2 Z (oR Z (ZC (zd Z jL Z) (congrArg (jV) qd.out)) (oM Z Z (zr ?_))))))))))))))
 cases iA
 exact zL ⟨Z,⟨i0,iY,jy,iZ,jz,Z,jE,jG,jH,jJ,jK,(qS.trans qQ),m9,l4⟩⟩
 rintro sG rH ⟨gv,fZ,gP,ba,bb,lU,jN,jO,ib,eO,jP,rV,n7,l5⟩
 have jB:Hid (¬ ((↑((aW:Int) - 0).toNat:Int) < aW)):=zO (wBe)
 refine sR fL1 Z (oR Z (zh Z lU jP) (eN (zF (cF Z jB (ZV (zu (zu (ZM (zL (sR (.fl 0 (.fx 1 (.fl 2 (.fx 3 .nil .stop)) .stop)) Z (oM Z eO (bnK iM fun ak l6 qh=>OKS.makeSlice (enc:=KL.encI) (z:=(0:Int)) (v:=jV 0) Z Z Z Z Z (wDq zB) wJT Z Z Z Z Z Z l6 n7 ?_))))))))))))
 intro jb aq n9
 let B8:Res:=.row (some ⟨aq,0,none⟩) ak.length 3 1 (hH KL.encI ak)
 let B9:Res:=.blk am 87 [.slice fZ rn.length gP,jV ro,.int .u32 rp]
 let gg:Res:=.row ba bb 35 2 (hH wAB aZ)
 have oa:SW w [B1] U gv [B8,B9,gg,.blk b7 26 [.slice none 0 0,.slice none 0 0,.slice ba aZ.length bb],.blk b3 26 B0] jb:=n9
 refine oR Z (zJ Z ib zE Z zY) (ZB (j:=3) (vs:=[.slice (some ⟨aq,0,none⟩) ak.length ak.length]) Z Z Z Z oa Z Z Z Z zY (zC Z) Z Z Z ?_)
 intro gz oc
 let gh:Res:=.blk b7 26 [.slice none 0 0,.slice (some ⟨aq,0,none⟩) ak.length ak.length,.slice ba aZ.length bb]
 have od:SW w [B1] U gv [B8,B9,gg,gh,.blk b3 26 B0] gz:=oc
 refine eN (sR fL1 Z (oA Z Z (eN (zF (sR fL2 Z (oM Z eO (oM Z Z (eN (zj ?_)))))))))
 have q:=od.freezeR (k:=2) (n:=aZ.length) rfl (wAG (f:=wAB) (sz:=2) (fun _=>rfl) aZ) (by decide)
 obtain ⟨eu,qR,fw,oe⟩:=q
 have og:SW w [B1] U eu [B8,B9,gh,.blk b3 26 B0] gz:=oe
 have q:=bnd qh
 obtain ⟨⟨qY,qZ,rc,iV,iW,re⟩,pG,iF⟩:=q
 try dsimp only at iF
 have q:=wBz pG
 obtain ⟨fm,pH⟩:=q
 replace fm:=zO fm
 refine CK.forN' (fun aa (cQ,fM,fN,cb,cf,bV) σ_ w_=>∃ (U_:PHeap) (da:Option Addr) (dy:Nat) (ci:Option Addr) (cu:Nat) (bR:Option Addr) (bT:Nat) (dF:List Value),σ_ 46=jV (↑aa:Int)/\σ_ 0=.pointer (some ⟨am,0,none⟩)/\σ_ 4=.pointer (some ⟨b3,0,none⟩)/\σ_ 6=.pointer (some ⟨b7,0,none⟩)/\σ_ 7=jV aW/\σ_ 10=.slice bR bV.length bT/\σ_ 45=jV aW/\PHeap.Le eu U_/\SW w [B1] U U_ [.blk am 87 [.slice da cQ.length dy,jV fM,.int .u32 fN],.row ci cu 3 1 (hH KL.encI cb),.row (some ⟨aq,0,none⟩) ak.length 3 1 (hH KL.encI cf),.blk b7 26 [.slice ci cb.length cu,.slice (some ⟨aq,0,none⟩) cf.length ak.length,.slice ba aZ.length bb],.blk b3 26 B0,.row bR bT 23 1 dF] w_/\Sl U_ 1 da dy cQ.length (hH KL.encB8 cQ)/\cf.length=ak.length/\RlL U_ wNP bV dF) pH ?_ ?_ ?_
 have oh:=og.nilrow 3 1
 have oi:=oh.nilrow 23 1
 have l7:=l5.le qR
 exact ⟨eu,fZ,gP,none,0,none,0,[],rfl,jN,jO,ib,eO,rfl,rfl,(zk _),(oi.pick [3,1,2,4,5,0] _ (by decide) rfl),l7,rfl,RlL.nil⟩
 rintro aa ⟨cQ,fM,fN,cb,cf,bV⟩ ss sH gA ff ⟨i3,da,dy,ci,cu,bR,bT,dF,eP,ic,jQ,dI,ie,jR,ig,fE,oj,l8,l9,ma⟩ iP
 try dsimp only at iP
 have gQ:Hid ((↑aa:Int) < aW):=zO (wCJ ff)
 replace ff:=zO ff
 have qb:Hid (w64 ((↑aa:Int) + 1)=(↑(aa + 1):Int)):=zO (by have h1:=fm.out;have h2:=gQ.out;rw [wAX] <;> omega)
 refine sR fL1 rfl (zN rfl rfl rfl rfl (fun _=>zh rfl eP ig) (eN (zF (cT Z gQ (kN (zF (zj (sR fL2 rfl (zV rfl rfl rfl rfl rfl eP (OKS.ra rfl rfl rfl rfl rfl rfl (eN (zF (ZK ZL [3,1004,3,1005,2,0,3,0,am] (wDo (.fx 3 (.fx 4 (.fx 5 (.fl 6 (.fx 7 .nil .stop)) .stop) .stop) .stop)) (by kernel_rfl) ?_)))))))))))))
 have eU:=oj.drew
 generalize hw_W434:({ gA with drawn:=gA.drawn + 1 }:World)=jc at eU ⊢
 refine oR Z (zJ Z dI zE Z zY) ?_
 let au:Res:=.row bR bT 23 1 dF
 let dk:Res:=.blk b7 26 [.slice ci cb.length cu,.slice (some ⟨aq,0,none⟩) cf.length ak.length,.slice ba aZ.length bb]
 let cj:Res:=.row (some ⟨aq,0,none⟩) ak.length 3 1 (hH KL.encI cf)
 let dX:Res:=.row ci cu 3 1 (hH KL.encI cb)
 refine OKS.mt (T:=[am]) [0] [1,2,3,4,5] [dX,cj,dk,.blk b3 26 B0,au] rfl rfl rfl rfl eU rfl ⟨⟨0,by decide,_,rfl,rfl⟩,trivial⟩ (by decide) rfl (by decide) (fun _ pC=>(pC.ldB (j:=2) rfl rfl rfl zi (v:=.slice ci cb.length cu) rfl)) rfl (zV rfl rfl rfl rfl rfl ic ?_)
 have q:=bnd iP
 obtain ⟨⟨cX,fO⟩,mb,iG⟩:=q
 try dsimp only at iG
 refine OKS.callHT 1 rfl rfl rfl rfl (zG rfl rfl Try.call40 (zA rfl (zA rfl (zA rfl zQ))) rfl) eU (fun hs=>wCP (⟨cQ,fM,fN⟩:wAE) am da dy 3 6 jc i3 hs l8 mb) rfl (T:=[am]) rfl ⟨fun b h=>(by cases h;exact .head _),trivial⟩ ?_
 rintro bW ru rY jd dO oq ⟨ga,gR,rfl,rfl,md⟩
 let cA:Res:=.blk am 87 [.slice ga fO.bytes.length gR,jV fO.next,.int .u32 fO.state]
 have ot:SW w [B1] U bW [cA,dX,cj,dk,.blk b3 26 B0,au] jd:=oq
 refine Zh (pv:=[(0,jV cX)]) (zs:=[jV 0]) (cs:=[jV cX]) Z Z Z Z Z (wAb Z wAz) zB zD Zi Z Z Z Z Z ot ?_
 intro je jw ou
 let dm:Res:=.row (some ⟨jw,0,none⟩) 1 3 1 (hH KL.encI [cX])
 have iv:SW w [B1] U bW [dm,cA,dX,cj,dk,.blk b3 26 B0,au] je:=ou
 refine bnK iG fun aY mf qi=>OKS.append (j:=2) (enc:=KL.encI) (xs:=cb) (ys:=[cX]) (zs:=aY) rfl rfl rfl rfl rfl Try.underlying23 wJT rfl rfl rfl rfl rfl rfl iv rfl rfl rfl (iv.srcR (j:=0) rfl (by decide) (wAG (f:=KL.encI) (sz:=1) (fun _=>rfl) [cX])) (fun _=>rfl) (fun _=>rfl) mf rfl ?_
 intro bo bp jf ow
 let av:Res:=.row bo bp 3 1 (hH KL.encI aY)
 have ox:SW w [B1] U bW [dm,cA,av,cj,dk,.blk b3 26 B0,au] jf:=ow
 refine oR Z (zJ Z dI zE Z zY) (ZB (j:=4) (vs:=[.slice bo aY.length bp]) Z Z Z Z ox Z Z Z Z zY (zC Z) Z Z Z ?_)
 intro jg oy
 let gi:Res:=.blk b7 26 [.slice bo aY.length bp,.slice (some ⟨aq,0,none⟩) cf.length ak.length,.slice ba aZ.length bb]
 have oz:SW w [B1] U bW [dm,cA,av,cj,gi,.blk b3 26 B0,au] jg:=oy
 refine eN (sR gAl Z (oM Z ie (bnK qi fun aV mg qj=>OKS.makeSlice (enc:=KL.encI) (z:=(0:Int)) (v:=jV 0) Z Z Z Z Z (wDq zB) wJT Z Z Z Z Z Z mg oz ?_)))
 intro jh aX oB
 have dL:SW w [B1] U bW [.row (some ⟨aX,0,none⟩) aV.length 3 1 (hH KL.encI aV),dm,cA,av,cj,gi,.blk b3 26 B0,au] jh:=oB
 refine oA Z Z (eN (zF (sR fL6 Z (oR Z (zJ Z dI zE Z zY) (oL Z (dL.ldB (j:=5) Z Z Z zi (v:=.slice bo aY.length bp) Z) (oM Z Z (bnK qj fun _ eR qk=>?_)))))))
 obtain ⟨rL,ir⟩:=dL.rowSome (j:=3) rfl (by rw [wAG (f:=KL.encI) (sz:=1) (fun _=>rfl) aY];have hz:=wAK eR;omega)
 refine oR Z (Zb Z Z ir Z zB zD (wAK eR)) ?_
 have pM:=wBx (xs:=aY) (wAK eR)
 refine zq rfl rfl rfl rfl (dL.ldR (j:=3) rfl ir rfl rfl zM (wAj (sz:=1) (fun _=>rfl) _ _ 0 _ pM (by first | omega | rfl | simp) rfl)) rfl (zV rfl rfl rfl rfl rfl rfl (eN (zj ?_)))
 have q:=bnd qk
 obtain ⟨⟨ri,rj,rk,iX,cg⟩,pI,iH⟩:=q
 try dsimp only at iH
 have q:=wBz pI
 obtain ⟨ft,pJ⟩:=q
 replace ft:=zO ft
 refine CK.forN' (fun bU (cR,fP,fQ,ab,ai) σ_ w_=>∃ (U_:PHeap) (db:Option Addr) (dA:Nat),σ_ 63=jV (↑bU:Int)/\σ_ 0=.pointer (some ⟨am,0,none⟩)/\σ_ 4=.pointer (some ⟨b3,0,none⟩)/\σ_ 6=.pointer (some ⟨b7,0,none⟩)/\σ_ 7=jV aW/\σ_ 10=.slice bR bV.length bT/\σ_ 11=jV (↑aa:Int)/\σ_ 12=.slice (some ⟨aX,0,none⟩) ai.length aV.length/\σ_ 45=jV aW/\σ_ 46=jV (↑aa:Int)/\σ_ 62=jV (gd aY aa)/\PHeap.Le bW U_/\SW w [B1] U U_ [.blk am 87 [.slice db cR.length dA,jV fP,.int .u32 fQ],av,.row (some ⟨aq,0,none⟩) ak.length 3 1 (hH KL.encI ab),.blk b7 26 [.slice bo aY.length bp,.slice (some ⟨aq,0,none⟩) ab.length ak.length,.slice ba aZ.length bb],.blk b3 26 B0,au,.row (some ⟨aX,0,none⟩) aV.length 3 1 (hH KL.encI ai)] w_/\Sl U_ 1 db dA cR.length (hH KL.encB8 cR)/\ab.length=ak.length/\ai.length=aV.length) pJ ?_ ?_ ?_
 exact ⟨bW,ga,gR,rfl,ic,jQ,dI,ie,jR,rfl,rfl,ig,eP,rfl,(zk _),(dL.pick [2,3,4,5,6,7,0] _ (by decide) rfl),md,l9,rfl⟩
 rintro bU ⟨cR,fP,fQ,ab,ai⟩ su sI ji fg ⟨gw,db,dA,bD,bm,bI,bg,bB,bJ,bl,bn,bK,bL,bC,fG,oG,mh,bM,bN⟩ iQ
 try dsimp only at iQ
 have gS:Hid ((↑bU:Int) < (gd aY aa)):=zO (wCJ fg)
 replace fg:=zO fg
 have qc:Hid (w64 ((↑bU:Int) + 1)=(↑(bU + 1):Int)):=zO (by have h1:=ft.out;have h2:=gS.out;rw [wAX] <;> omega)
 refine sR fL1 Z (oR Z (zh Z bD bC) (eN (zF (cT Z gS (kN ?_)))))
 have q:=bnd iQ
 obtain ⟨⟨fz,qV,qW,fA,fB⟩,qP,iI⟩:=q
 try dsimp only at iI
 refine CK.cut (fun σ_ w_=>∃ (U_:PHeap) (df:Option Addr) (dB:Nat),σ_ 0=.pointer (some ⟨am,0,none⟩)/\σ_ 4=.pointer (some ⟨b3,0,none⟩)/\σ_ 6=.pointer (some ⟨b7,0,none⟩)/\σ_ 7=jV aW/\σ_ 10=.slice bR bV.length bT/\σ_ 11=jV (↑aa:Int)/\σ_ 12=.slice (some ⟨aX,0,none⟩) fB.length aV.length/\σ_ 45=jV aW/\σ_ 46=jV (↑aa:Int)/\σ_ 62=jV (gd aY aa)/\σ_ 63=jV (↑bU:Int)/\PHeap.Le gw U_/\SW w [B1] U U_ [.blk am 87 [.slice df fz.length dB,jV qV,.int .u32 qW],av,.row (some ⟨aq,0,none⟩) ak.length 3 1 (hH KL.encI fA),.blk b7 26 [.slice bo aY.length bp,.slice (some ⟨aq,0,none⟩) fA.length ak.length,.slice ba aZ.length bb],.blk b3 26 B0,au,.row (some ⟨aX,0,none⟩) aV.length 3 1 (hH KL.encI fB)] w_/\Sl U_ 1 df dB fz.length (hH KL.encB8 fz)/\fA.length=ak.length/\fB.length=aV.length) ?_ ?_
 refine zj (sR fL2 Z (oM Z bl (oA Z Z (eN (zF (sR gAi Z (oM Z bm ?_)))))))
 have q:=bnd qP
 obtain ⟨⟨sf,cY⟩,mi,iJ⟩:=q
 try dsimp only at iJ
 refine zH 1 Z Z Z Z (zG Z Z Try.call33 (zA Z (zA Z zQ)) Z) oG (fun hs=>wBG (⟨cR,fP,fQ⟩:wAE) am db dA 4 ji gw hs mh mi) (.inl Z) ?_
 rintro dw rx rZ ez bw oH ⟨dg,dD,rfl,rfl,eS⟩
 let be:Res:=.blk b7 26 [.slice bo aY.length bp,.slice (some ⟨aq,0,none⟩) ab.length ak.length,.slice ba aZ.length bb]
 let bF:Res:=.row (some ⟨aq,0,none⟩) ak.length 3 1 (hH KL.encI ab)
 let cn:Res:=.row (some ⟨aX,0,none⟩) aV.length 3 1 (hH KL.encI ai)
 have cM:SW w [B1] U dw [.blk am 87 [.slice dg cY.bytes.length dD,jV cY.next,.int .u32 cY.state],av,bF,be,.blk b3 26 B0,au,cn] ez:=oH
 refine eN (ifc iJ ?_ ?_)
 intro eD ql
 refine zt (congrArg nA eD.out) (rR gAp Z (oM Z bm (oM Z bB ?_)))
 have q:=bnd ql
 obtain ⟨⟨ap,dS⟩,mn,iK⟩:=q
 try dsimp only at iK
 refine zH 1 Z Z Z Z (zG Z Z Try.call29 (zA Z (zA Z zQ)) Z) cM (fun hs=>wBF cY am dg dD aW ez dw hs eS mn) (.inl Z) ?_
 rintro ey ry r6 gB cw oI ⟨dU,eE,rfl,rfl,iq⟩
 have dM:SW w [B1] U ey [.blk am 87 [.slice dU dS.bytes.length eE,jV dS.next,.int .u32 dS.state],av,bF,be,.blk b3 26 B0,au,cn] gB:=oI
 refine oA Z Z (eN (sR (wKn (.fx 8 (wOe gAm) .stop)) Z (oR Z (zJ Z bg zE Z zY) (oL Z (dM.ldB (j:=3) Z Z Z zi (v:=.slice (some ⟨aq,0,none⟩) ab.length ak.length) Z) (oM Z Z (bnK iK fun _ bf qm=>oR Z (ZQ Z Z Z Z zB zD (wAx bf) (wAy bf)) ?_))))))
 have pN:=wBx (xs:=ab) (wAK bf)
 refine zq rfl rfl rfl rfl (dM.ldR (j:=2) rfl rfl rfl rfl zM (wAj (sz:=1) (fun _=>rfl) _ _ 0 _ pN (by first | omega | rfl | simp) rfl)) rfl (zN rfl rfl rfl rfl (fun _=>zh rfl rfl rfl) (zV rfl rfl rfl rfl rfl rfl (ifc qm ?_ ?_)))
 intro bO qn
 refine zV Z Z Z (wT Z bO) Z bm ?_
 have q:=bnd qn
 obtain ⟨⟨sg,fR⟩,mo,iL⟩:=q
 try dsimp only at iL
 refine zH 1 Z Z Z (wT Z bO) (zG Z Z Try.call33 (zA Z (zA Z zQ)) Z) dM (fun hs=>wBG dS am dU eE 4 gB ey hs iq mo) (.inl Z) ?_
 rintro bX rA r8 gC cS oK ⟨cy,cD,rfl,rfl,dJ⟩
 let bG:Res:=.blk am 87 [.slice cy fR.bytes.length cD,jV fR.next,.int .u32 fR.state]
 have cN:SW w [B1] U bX [bG,av,bF,be,.blk b3 26 B0,au,cn] gC:=oK
 refine rU Z (wT Z bO) (ZE Z Z) (oR Z (zS Z (ZX bO.out) Z) (oM Z Z (ifc iL ?_ ?_)))
 intro bh qo
 refine zI Z Z Z (zP Z Z (nC bh.out) Z) (zI Z Z Z (zP Z Z (nC bh.out) Z) (zI Z Z Z (zP Z Z (nC bh.out) Z) (zI Z Z Z (zP Z Z (nC bh.out) Z) (zI Z Z Z (wAF Z Z Z) (zI Z Z Z (wAF Z Z Z) (zI Z Z Z (wAF Z Z Z) (zI Z Z Z (wAF Z Z Z) (zI Z Z Z (wAF Z Z Z) (Za Z Z Z (wAF Z Z Z) (zI Z Z Z (zP Z Z (nC bh.out) Z) (oR Z (zX Z (nC bh.out) Z) (eN (zg Z (ZJ (zm ?_)))))))))))))))
 cases qo
 exact zL ⟨Z,⟨bX,cy,cD,bm,bI,bg,bB,bJ,bl,bn,bK,bL,bC,bD,((bw.trans cw).trans cS),cN,dJ,bM,bN⟩⟩
 intro bh qp
 refine zV Z Z Z (zK Z Z (nF (bh.out))) Z Z (zV Z Z Z (zK Z Z (nF (bh.out))) Z bl (zN Z Z Z (zK Z Z (nF (bh.out))) (fun _=>ZP Z Z Z) (zV Z Z Z (zK Z Z (nF (bh.out))) Z Z (ifc qp ?_ ?_))))
 intro bi qq
 refine oT Z bi (oT Z bi (oT Z bi (oT Z bi (oT Z bi (Za Z Z Z (zP Z Z (ZX bi.out) Z) (zN Z Z Z (zK Z Z (nF (bh.out))) (fun _=>zS Z (ZX bi.out) Z) (oR Z (zS Z (nF (bh.out)) Z) (eN (zt Z (sR (wHE (.fx 6 .nil .stop)) Z (oM Z bn (oM Z Z (bnK qq fun _ bZ qr=>oR Z (ZQ Z Z Z Z zB zD (wAx bZ) (wAy bZ)) ?_)))))))))))))
 have pO:=wBx (xs:=ai) (wAK bZ)
 refine zq rfl rfl rfl rfl (cN.ldR (j:=6) rfl rfl rfl rfl zM (wAj (sz:=1) (fun _=>rfl) _ _ 0 _ pO (by first | omega | rfl | simp) rfl)) rfl (zN rfl rfl rfl rfl (fun _=>zd rfl rfl rfl) (zN rfl rfl rfl rfl (fun _=>ZQ rfl rfl rfl rfl zB zD (wAx bZ) (wAy bZ)) ?_))
 have pP:=wBx (xs:=ai) (wAK bZ)
 refine OKS.stR (j:=6) (vs:=[jV (w64 ((gd ai ap.toNat) + 1))]) (cs':=hH KL.encI (nK ai ap.toNat (w64 ((gd ai ap.toNat) + 1)))) rfl rfl rfl rfl cN rfl rfl rfl rfl rfl zD (by rw [wAG (f:=KL.encI) (sz:=1) (fun _=>rfl)];have hz:=wAK bZ;show _ + 1 <= _;first | omega | (simp only [nI];omega) | (simp only [nH,nE,nG];omega)) rfl (wCv (sz:=1) (fo:=0) (fun _=>rfl) _ _ _ _ pP (by first | omega | (simp only [nI];omega) | (simp only [nH,nE,nG];omega)) (zC rfl) rfl) rfl ?_
 intro jj oO
 let dq:Res:=.row (some ⟨aX,0,none⟩) aV.length 3 1 (hH KL.encI (nK ai ap.toNat (w64 ((gd ai ap.toNat) + 1))))
 have eV:SW w [B1] U bX [bG,av,bF,be,.blk b3 26 B0,au,dq] jj:=oO
 refine eN (Zo fun bz bq=>?_)
 have jS:bz 0=.pointer (some ⟨am,0,none⟩):=(bq 0).trans bm
 have jU:bz 4=.pointer (some ⟨b3,0,none⟩):=(bq 4).trans bI
 have ii:bz 6=.pointer (some ⟨b7,0,none⟩):=(bq 6).trans bg
 have jW:bz 7=jV aW:=(bq 7).trans bB
 have jX:bz 10=.slice bR bV.length bT:=(bq 10).trans bJ
 have jY:bz 11=jV (↑aa:Int):=(bq 11).trans bl
 have jZ:bz 12=.slice (some ⟨aX,0,none⟩) ((nK ai ap.toNat (w64 ((gd ai ap.toNat) + 1))).length) aV.length:=(bq 12).trans (nT (b:=(.slice (some ⟨aX,0,none⟩) ai.length aV.length:Value)) (c:=(.slice (some ⟨aX,0,none⟩) ((nK ai ap.toNat (w64 ((gd ai ap.toNat) + 1))).length) aV.length:Value)) bn (by simp only [nJ]))
 have j0:bz 13=jV ap:=(bq 13).trans rfl
 have j4:bz 45=jV aW:=(bq 45).trans bK
 have j5:bz 46=jV (↑aa:Int):=(bq 46).trans bL
 have j6:bz 62=jV (gd aY aa):=(bq 62).trans bC
 have j7:bz 63=jV (↑bU:Int):=(bq 63).trans bD
 clear bq
 refine rR (wHF (.fx 7 .nil .stop)) Z (oR Z (zJ Z ii zE Z zY) (oL Z (eV.ldB (j:=3) Z Z Z zi (v:=.slice (some ⟨aq,0,none⟩) ab.length ak.length) Z) (oM Z j0 (oR Z (ZQ Z Z Z Z zB zD (wAx bf) (wAy bf)) ?_))))
 have pQ:=wBx (xs:=ab) (wAK bf)
 refine zq rfl rfl rfl rfl (eV.ldR (j:=2) rfl rfl rfl rfl zM (wAj (sz:=1) (fun _=>rfl) _ _ 0 _ pQ (by first | omega | rfl | simp) rfl)) rfl (zN rfl rfl rfl rfl (fun _=>zd rfl rfl rfl) (zN rfl rfl rfl rfl (fun _=>ZQ rfl rfl rfl rfl zB zD (wAx bf) (wAy bf)) ?_))
 have pR:=wBx (xs:=ab) (wAK bf)
 refine OKS.stR (j:=2) (vs:=[jV (w64 ((gd ab ap.toNat) + 1))]) (cs':=hH KL.encI (nK ab ap.toNat (w64 ((gd ab ap.toNat) + 1)))) rfl rfl rfl rfl eV rfl rfl rfl rfl rfl zD (by rw [wAG (f:=KL.encI) (sz:=1) (fun _=>rfl)];have hz:=wAK bf;show _ + 1 <= _;first | omega | (simp only [nI];omega) | (simp only [nH,nE,nG];omega)) rfl (wCv (sz:=1) (fo:=0) (fun _=>rfl) _ _ _ _ pR (by first | omega | (simp only [nI];omega) | (simp only [nH,nE,nG];omega)) (zC rfl) rfl) rfl ?_
 intro gE oP
 let dY:Res:=.row (some ⟨aq,0,none⟩) ak.length 3 1 (hH KL.encI (nK ab ap.toNat (w64 ((gd ab ap.toNat) + 1))))
 have oU:SW w [B1] U bX [bG,av,dY,be,.blk b3 26 B0,au,dq] gE:=oP
 have oW:SW w [B1] U bX [bG,av,dY,.blk b7 26 [.slice bo aY.length bp,.slice (some ⟨aq,0,none⟩) ((nK ab ap.toNat (w64 ((gd ab ap.toNat) + 1))).length) ak.length,.slice ba aZ.length bb],.blk b3 26 B0,au,dq] gE:=by simpa only [B0,B1,au,av,be,bG,dq,dY,nJ] using oU
 refine zr (zm ?_)
 cases qr
 exact zL ⟨Z,⟨bX,cy,cD,jS,jU,ii,jW,jX,jY,jZ,j4,j5,j6,j7,((bw.trans cw).trans cS),oW,dJ,(nJ.trans bM),(nJ.trans bN)⟩⟩
 intro bi qt
 refine rU Z (wF Z bi) (zJ Z bg zE Z Zd) (zq Z Z Z (wF Z bi) (cN.ldB (j:=3) Z Z Z Zj (v:=.slice ba aZ.length bb) Z) Z (zV Z Z Z (wF Z bi) Z bl (zV Z Z Z (wF Z bi) Z Z (rU Z (wF Z bi) (ZN (pv:=[(0,jV (↑aa:Int)),(1,jV ap)]) (z:=[jV 0,jV 0]) (cs:=[jV (↑aa:Int),jV ap]) Z (wAb Z (wAb Z wAz)) Zf wDm Z Z) ?_))))
 have mp:=fw.le fE
 have mq:=mp.le dO
 have mr:=mq.le fG
 have ms:=mr.le bw
 have mu:=ms.le cw
 have mw:=mu.le cS
 refine bnK qt fun sj my qu=>zH 0 Z Z Z (wF Z bi) (zG Z Z Try.call10 (zA Z (zA Z zQ)) Z) cN (fun hs=>wBH aZ ba bb (⟨(↑aa:Int),ap⟩:wAA) gC bX hs mw my) (.inr Z) ?_
 rintro cr rB r9 jk dP oX ⟨rfl,rfl⟩
 have eW:SW w [B1] U cr [bG,av,bF,be,.blk b3 26 B0,au,cn] jk:=oX
 refine zN Z Z Z (zK Z Z (nF (bh.out))) (fun _=>zX Z (zf bi.out) Z) (oR Z (zS Z (nF (bh.out)) Z) (eN (ifc qu ?_ ?_)))
 intro eF qv
 refine zt (congrArg nA eF.out) (sR (wHE (.fx 6 .nil .stop)) Z (oM Z bn (oM Z Z (bnK qv fun _ b5 qw=>oR Z (ZQ Z Z Z Z zB zD (wAx b5) (wAy b5)) ?_))))
 have pS:=wBx (xs:=ai) (wAK b5)
 refine zq rfl rfl rfl rfl (eW.ldR (j:=6) rfl rfl rfl rfl zM (wAj (sz:=1) (fun _=>rfl) _ _ 0 _ pS (by first | omega | rfl | simp) rfl)) rfl (zN rfl rfl rfl rfl (fun _=>zd rfl rfl rfl) (zN rfl rfl rfl rfl (fun _=>ZQ rfl rfl rfl rfl zB zD (wAx b5) (wAy b5)) ?_))
 have pT:=wBx (xs:=ai) (wAK b5)
 refine OKS.stR (j:=6) (vs:=[jV (w64 ((gd ai ap.toNat) + 1))]) (cs':=hH KL.encI (nK ai ap.toNat (w64 ((gd ai ap.toNat) + 1)))) rfl rfl rfl rfl eW rfl rfl rfl rfl rfl zD (by rw [wAG (f:=KL.encI) (sz:=1) (fun _=>rfl)];have hz:=wAK b5;show _ + 1 <= _;first | omega | (simp only [nI];omega) | (simp only [nH,nE,nG];omega)) rfl (wCv (sz:=1) (fo:=0) (fun _=>rfl) _ _ _ _ pT (by first | omega | (simp only [nI];omega) | (simp only [nH,nE,nG];omega)) (zC rfl) rfl) rfl ?_
 intro jl oY
 let dr:Res:=.row (some ⟨aX,0,none⟩) aV.length 3 1 (hH KL.encI (nK ai ap.toNat (w64 ((gd ai ap.toNat) + 1))))
 have eX:SW w [B1] U cr [bG,av,bF,be,.blk b3 26 B0,au,dr] jl:=oY
 refine eN (Zo fun bA br=>?_)
 have j8:bA 0=.pointer (some ⟨am,0,none⟩):=(br 0).trans bm
 have j9:bA 4=.pointer (some ⟨b3,0,none⟩):=(br 4).trans bI
 have ij:bA 6=.pointer (some ⟨b7,0,none⟩):=(br 6).trans bg
 have lc:bA 7=jV aW:=(br 7).trans bB
 have lf:bA 10=.slice bR bV.length bT:=(br 10).trans bJ
 have lg:bA 11=jV (↑aa:Int):=(br 11).trans bl
 have lh:bA 12=.slice (some ⟨aX,0,none⟩) ((nK ai ap.toNat (w64 ((gd ai ap.toNat) + 1))).length) aV.length:=(br 12).trans (nT (b:=(.slice (some ⟨aX,0,none⟩) ai.length aV.length:Value)) (c:=(.slice (some ⟨aX,0,none⟩) ((nK ai ap.toNat (w64 ((gd ai ap.toNat) + 1))).length) aV.length:Value)) bn (by simp only [nJ]))
 have li:bA 13=jV ap:=(br 13).trans rfl
 have lj:bA 45=jV aW:=(br 45).trans bK
 have lm:bA 46=jV (↑aa:Int):=(br 46).trans bL
 have lp:bA 62=jV (gd aY aa):=(br 62).trans bC
 have lq:bA 63=jV (↑bU:Int):=(br 63).trans bD
 clear br
 refine rR (wHF (.fx 7 .nil .stop)) Z (oR Z (zJ Z ij zE Z zY) (oL Z (eX.ldB (j:=3) Z Z Z zi (v:=.slice (some ⟨aq,0,none⟩) ab.length ak.length) Z) (oM Z li (oR Z (ZQ Z Z Z Z zB zD (wAx bf) (wAy bf)) ?_))))
 have pU:=wBx (xs:=ab) (wAK bf)
 refine zq rfl rfl rfl rfl (eX.ldR (j:=2) rfl rfl rfl rfl zM (wAj (sz:=1) (fun _=>rfl) _ _ 0 _ pU (by first | omega | rfl | simp) rfl)) rfl (zN rfl rfl rfl rfl (fun _=>zd rfl rfl rfl) (zN rfl rfl rfl rfl (fun _=>ZQ rfl rfl rfl rfl zB zD (wAx bf) (wAy bf)) ?_))
 have pV:=wBx (xs:=ab) (wAK bf)
 refine OKS.stR (j:=2) (vs:=[jV (w64 ((gd ab ap.toNat) + 1))]) (cs':=hH KL.encI (nK ab ap.toNat (w64 ((gd ab ap.toNat) + 1)))) rfl rfl rfl rfl eX rfl rfl rfl rfl rfl zD (by rw [wAG (f:=KL.encI) (sz:=1) (fun _=>rfl)];have hz:=wAK bf;show _ + 1 <= _;first | omega | (simp only [nI];omega) | (simp only [nH,nE,nG];omega)) rfl (wCv (sz:=1) (fo:=0) (fun _=>rfl) _ _ _ _ pV (by first | omega | (simp only [nI];omega) | (simp only [nH,nE,nG];omega)) (zC rfl) rfl) rfl ?_
 intro gF o0
 let dZ:Res:=.row (some ⟨aq,0,none⟩) ak.length 3 1 (hH KL.encI (nK ab ap.toNat (w64 ((gd ab ap.toNat) + 1))))
 have o5:SW w [B1] U cr [bG,av,dZ,be,.blk b3 26 B0,au,dr] gF:=o0
 have o6:SW w [B1] U cr [bG,av,dZ,.blk b7 26 [.slice bo aY.length bp,.slice (some ⟨aq,0,none⟩) ((nK ab ap.toNat (w64 ((gd ab ap.toNat) + 1))).length) ak.length,.slice ba aZ.length bb],.blk b3 26 B0,au,dr] gF:=by simpa only [B0,B1,au,av,be,bG,dr,dZ,nJ] using o5
 refine zr (zm ?_)
 cases qw
 have mz:=dJ.le dP
 exact zL ⟨Z,⟨cr,cy,cD,j8,j9,ij,lc,lf,lg,lh,lj,lm,lp,lq,(((bw.trans cw).trans cS).trans dP),o6,mz,(nJ.trans bM),(nJ.trans bN)⟩⟩
 intro eF qx
 refine zg (congrArg nA (nB.2 eF.out)) (ZJ (zm ?_))
 cases qx
 have mA:=dJ.le dP
 exact zL ⟨Z,⟨cr,cy,cD,bm,bI,bg,bB,bJ,bl,bn,bK,bL,bC,bD,(((bw.trans cw).trans cS).trans dP),eW,mA,bM,bN⟩⟩
 intro bO qy
 refine oF Z bO (Za Z Z Z (zP Z Z (zf bO.out) Z) (oF Z bO (oR Z (zX Z (zf bO.out) Z) (oM Z Z (oN Z (oN Z (oN Z (oN Z (zI Z Z Z (wAF Z Z Z) (zI Z Z Z (wAF Z Z Z) (zI Z Z Z (wAF Z Z Z) (zI Z Z Z (wAF Z Z Z) (zI Z Z Z (wAF Z Z Z) (Za Z Z Z (wAF Z Z Z) (oN Z (oR Z (zX Z Z Z) (eN (zg Z (ZJ (zm ?_))))))))))))))))))))
 cases qy
 exact zL ⟨Z,⟨ey,dU,eE,bm,bI,bg,bB,bJ,bl,bn,bK,bL,bC,bD,(bw.trans cw),dM,iq,bM,bN⟩⟩
 intro eD qz
 refine zg (congrArg nA (nB.2 eD.out)) (kN (sR (wKn (.fx 8 (wOe gAm) .stop)) Z (oR Z (zJ Z bg zE Z zY) (oL Z (cM.ldB (j:=3) Z Z Z zi (v:=.slice (some ⟨aq,0,none⟩) ab.length ak.length) Z) (oM Z Z (bnK qz fun _ bv qA=>oR Z (Zb Z Z Z Z zB zD (wAK bv)) ?_))))))
 have pW:=wBx (xs:=ab) (wAK bv)
 refine zq rfl rfl rfl rfl (cM.ldR (j:=2) rfl rfl rfl rfl zM (wAj (sz:=1) (fun _=>rfl) _ _ 0 _ pW (by first | omega | rfl | simp) rfl)) rfl (zN rfl rfl rfl rfl (fun _=>zh rfl rfl rfl) (zV rfl rfl rfl rfl rfl rfl (ifc qA ?_ ?_)))
 intro bP qB
 refine zV Z Z Z (wT Z bP) Z bm ?_
 have q:=bnd qB
 obtain ⟨⟨sk,fS⟩,mB,iN⟩:=q
 try dsimp only at iN
 refine zH 1 Z Z Z (wT Z bP) (zG Z Z Try.call33 (zA Z (zA Z zQ)) Z) cM (fun hs=>wBG cY am dg dD 4 ez dw hs eS mB) (.inl Z) ?_
 rintro bY rC sc gG cU o9 ⟨cz,cE,rfl,rfl,dK⟩
 let bH:Res:=.blk am 87 [.slice cz fS.bytes.length cE,jV fS.next,.int .u32 fS.state]
 have cO:SW w [B1] U bY [bH,av,bF,be,.blk b3 26 B0,au,cn] gG:=o9
 refine rU Z (wT Z bP) (ZE Z Z) (oR Z (zS Z (ZX bP.out) Z) (oM Z Z (ifc iN ?_ ?_)))
 intro bj qC
 refine zI Z Z Z (zP Z Z (nC bj.out) Z) (zI Z Z Z (zP Z Z (nC bj.out) Z) (zI Z Z Z (zP Z Z (nC bj.out) Z) (zI Z Z Z (zP Z Z (nC bj.out) Z) (zI Z Z Z (wAF Z Z Z) (zI Z Z Z (wAF Z Z Z) (zI Z Z Z (wAF Z Z Z) (zI Z Z Z (wAF Z Z Z) (zI Z Z Z (wAF Z Z Z) (Za Z Z Z (wAF Z Z Z) (zI Z Z Z (zP Z Z (nC bj.out) Z) (oR Z (zX Z (nC bj.out) Z) (eN (zg Z (ZJ (zm ?_)))))))))))))))
 cases qC
 exact zL ⟨Z,⟨bY,cz,cE,bm,bI,bg,bB,bJ,bl,bn,bK,bL,bC,bD,(bw.trans cU),cO,dK,bM,bN⟩⟩
 intro bj qD
 refine zV Z Z Z (zK Z Z (nF (bj.out))) Z Z (zV Z Z Z (zK Z Z (nF (bj.out))) Z bl (zN Z Z Z (zK Z Z (nF (bj.out))) (fun _=>ZP Z Z Z) (zV Z Z Z (zK Z Z (nF (bj.out))) Z Z (ifc qD ?_ ?_))))
 intro bk qE
 refine oT Z bk (oT Z bk (oT Z bk (oT Z bk (oT Z bk (Za Z Z Z (zP Z Z (ZX bk.out) Z) (zN Z Z Z (zK Z Z (nF (bj.out))) (fun _=>zS Z (ZX bk.out) Z) (oR Z (zS Z (nF (bj.out)) Z) (eN (zt Z (sR (wHE (.fx 6 .nil .stop)) Z (oM Z bn (oM Z Z (bnK qE fun _ cJ qF=>oR Z (Zb Z Z Z Z zB zD (wAK cJ)) ?_)))))))))))))
 have pX:=wBx (xs:=ai) (wAK cJ)
 refine zq rfl rfl rfl rfl (cO.ldR (j:=6) rfl rfl rfl rfl zM (wAj (sz:=1) (fun _=>rfl) _ _ 0 _ pX (by first | omega | rfl | simp) rfl)) rfl (zN rfl rfl rfl rfl (fun _=>zd rfl rfl rfl) (zN rfl rfl rfl rfl (fun _=>Zb rfl rfl rfl rfl zB zD (wAK cJ)) ?_))
 have pY:=wBx (xs:=ai) (wAK cJ)
 refine OKS.stR (j:=6) (vs:=[jV (w64 ((gd ai aa) + 1))]) (cs':=hH KL.encI (nK ai aa (w64 ((gd ai aa) + 1)))) rfl rfl rfl rfl cO rfl rfl rfl rfl rfl zD (by rw [wAG (f:=KL.encI) (sz:=1) (fun _=>rfl)];have hz:=wAK cJ;show _ + 1 <= _;first | omega | (simp only [nI];omega) | (simp only [nH,nE,nG];omega)) rfl (wCv (sz:=1) (fo:=0) (fun _=>rfl) _ _ _ _ pY (by first | omega | (simp only [nI];omega) | (simp only [nH,nE,nG];omega)) (zC rfl) rfl) rfl ?_
 intro jm pa
 let dt:Res:=.row (some ⟨aX,0,none⟩) aV.length 3 1 (hH KL.encI (nK ai aa (w64 ((gd ai aa) + 1))))
 have eY:SW w [B1] U bY [bH,av,bF,be,.blk b3 26 B0,au,dt] jm:=pa
 refine eN (rR (wHF (.fx 7 .nil .stop)) Z (oR Z (zJ Z bg zE Z zY) (oL Z (eY.ldB (j:=3) Z Z Z zi (v:=.slice (some ⟨aq,0,none⟩) ab.length ak.length) Z) (oM Z Z (oR Z (Zb Z Z Z Z zB zD (wAK bv)) ?_)))))
 have pZ:=wBx (xs:=ab) (wAK bv)
 refine zq rfl rfl rfl rfl (eY.ldR (j:=2) rfl rfl rfl rfl zM (wAj (sz:=1) (fun _=>rfl) _ _ 0 _ pZ (by first | omega | rfl | simp) rfl)) rfl (zN rfl rfl rfl rfl (fun _=>zd rfl rfl rfl) (zN rfl rfl rfl rfl (fun _=>Zb rfl rfl rfl rfl zB zD (wAK bv)) ?_))
 have p6:=wBx (xs:=ab) (wAK bv)
 refine OKS.stR (j:=2) (vs:=[jV (w64 ((gd ab aa) + 1))]) (cs':=hH KL.encI (nK ab aa (w64 ((gd ab aa) + 1)))) rfl rfl rfl rfl eY rfl rfl rfl rfl rfl zD (by rw [wAG (f:=KL.encI) (sz:=1) (fun _=>rfl)];have hz:=wAK bv;show _ + 1 <= _;first | omega | (simp only [nI];omega) | (simp only [nH,nE,nG];omega)) rfl (wCv (sz:=1) (fo:=0) (fun _=>rfl) _ _ _ _ p6 (by first | omega | (simp only [nI];omega) | (simp only [nH,nE,nG];omega)) (zC rfl) rfl) rfl ?_
 intro gH pb
 let d8:Res:=.row (some ⟨aq,0,none⟩) ak.length 3 1 (hH KL.encI (nK ab aa (w64 ((gd ab aa) + 1))))
 have pe:SW w [B1] U bY [bH,av,d8,be,.blk b3 26 B0,au,dt] gH:=pb
 have pf:SW w [B1] U bY [bH,av,d8,.blk b7 26 [.slice bo aY.length bp,.slice (some ⟨aq,0,none⟩) ((nK ab aa (w64 ((gd ab aa) + 1))).length) ak.length,.slice ba aZ.length bb],.blk b3 26 B0,au,dt] gH:=by simpa only [B0,B1,au,av,be,bH,dt,d8,nJ] using pe
 refine zr (zm ?_)
 cases qF
 exact zL ⟨rfl,⟨bY,cz,cE,bm,bI,bg,bB,bJ,bl,(nT (b:=(.slice (some ⟨aX,0,none⟩) ai.length aV.length:Value)) (c:=(.slice (some ⟨aX,0,none⟩) ((nK ai aa (w64 ((gd ai aa) + 1))).length) aV.length:Value)) bn (by simp only [nJ])),bK,bL,bC,bD,(bw.trans cU),pf,dK,(nJ.trans bM),(nJ.trans bN)⟩⟩
 intro bk qG
 refine rU Z (wF Z bk) (zJ Z bg zE Z Zd) (zq Z Z Z (wF Z bk) (cO.ldB (j:=3) Z Z Z Zj (v:=.slice ba aZ.length bb) Z) Z (zV Z Z Z (wF Z bk) Z bl (zV Z Z Z (wF Z bk) Z Z (rU Z (wF Z bk) (ZN (pv:=[(0,jV (↑aa:Int)),(1,jV (↑aa:Int))]) (z:=[jV 0,jV 0]) (cs:=[jV (↑aa:Int),jV (↑aa:Int)]) Z (wAb Z (wAb Z wAz)) Zf wDm Z Z) ?_))))
 have mC:=fw.le fE
 have mD:=mC.le dO
 have mE:=mD.le fG
 have mF:=mE.le bw
 have mG:=mF.le cU
 refine bnK qG fun sn mH qH=>zH 0 Z Z Z (wF Z bk) (zG Z Z Try.call10 (zA Z (zA Z zQ)) Z) cO (fun hs=>wBH aZ ba bb (⟨(↑aa:Int),(↑aa:Int)⟩:wAA) gG bY hs mG mH) (.inr Z) ?_
 rintro ct rD sd jo dQ pg ⟨rfl,rfl⟩
 have eZ:SW w [B1] U ct [bH,av,bF,be,.blk b3 26 B0,au,cn] jo:=pg
 refine zN Z Z Z (zK Z Z (nF (bj.out))) (fun _=>zX Z (zf bk.out) Z) (oR Z (zS Z (nF (bj.out)) Z) (eN (ifc qH ?_ ?_)))
 intro eG qI
 refine zt (congrArg nA eG.out) (sR (wHE (.fx 6 .nil .stop)) Z (oM Z bn (oM Z Z (bnK qI fun _ cK qJ=>oR Z (Zb Z Z Z Z zB zD (wAK cK)) ?_))))
 have p7:=wBx (xs:=ai) (wAK cK)
 refine zq rfl rfl rfl rfl (eZ.ldR (j:=6) rfl rfl rfl rfl zM (wAj (sz:=1) (fun _=>rfl) _ _ 0 _ p7 (by first | omega | rfl | simp) rfl)) rfl (zN rfl rfl rfl rfl (fun _=>zd rfl rfl rfl) (zN rfl rfl rfl rfl (fun _=>Zb rfl rfl rfl rfl zB zD (wAK cK)) ?_))
 have p8:=wBx (xs:=ai) (wAK cK)
 refine OKS.stR (j:=6) (vs:=[jV (w64 ((gd ai aa) + 1))]) (cs':=hH KL.encI (nK ai aa (w64 ((gd ai aa) + 1)))) rfl rfl rfl rfl eZ rfl rfl rfl rfl rfl zD (by rw [wAG (f:=KL.encI) (sz:=1) (fun _=>rfl)];have hz:=wAK cK;show _ + 1 <= _;first | omega | (simp only [nI];omega) | (simp only [nH,nE,nG];omega)) rfl (wCv (sz:=1) (fo:=0) (fun _=>rfl) _ _ _ _ p8 (by first | omega | (simp only [nI];omega) | (simp only [nH,nE,nG];omega)) (zC rfl) rfl) rfl ?_
 intro jp ph
 let du:Res:=.row (some ⟨aX,0,none⟩) aV.length 3 1 (hH KL.encI (nK ai aa (w64 ((gd ai aa) + 1))))
 have fb:SW w [B1] U ct [bH,av,bF,be,.blk b3 26 B0,au,du] jp:=ph
 refine eN (rR (wHF (.fx 7 .nil .stop)) Z (oR Z (zJ Z bg zE Z zY) (oL Z (fb.ldB (j:=3) Z Z Z zi (v:=.slice (some ⟨aq,0,none⟩) ab.length ak.length) Z) (oM Z Z (oR Z (Zb Z Z Z Z zB zD (wAK bv)) ?_)))))
 have p9:=wBx (xs:=ab) (wAK bv)
 refine zq rfl rfl rfl rfl (fb.ldR (j:=2) rfl rfl rfl rfl zM (wAj (sz:=1) (fun _=>rfl) _ _ 0 _ p9 (by first | omega | rfl | simp) rfl)) rfl (zN rfl rfl rfl rfl (fun _=>zd rfl rfl rfl) (zN rfl rfl rfl rfl (fun _=>Zb rfl rfl rfl rfl zB zD (wAK bv)) ?_))
 have qa:=wBx (xs:=ab) (wAK bv)
 refine OKS.stR (j:=2) (vs:=[jV (w64 ((gd ab aa) + 1))]) (cs':=hH KL.encI (nK ab aa (w64 ((gd ab aa) + 1)))) rfl rfl rfl rfl fb rfl rfl rfl rfl rfl zD (by rw [wAG (f:=KL.encI) (sz:=1) (fun _=>rfl)];have hz:=wAK bv;show _ + 1 <= _;first | omega | (simp only [nI];omega) | (simp only [nH,nE,nG];omega)) rfl (wCv (sz:=1) (fo:=0) (fun _=>rfl) _ _ _ _ qa (by first | omega | (simp only [nI];omega) | (simp only [nH,nE,nG];omega)) (zC rfl) rfl) rfl ?_
 intro gI pj
 let d9:Res:=.row (some ⟨aq,0,none⟩) ak.length 3 1 (hH KL.encI (nK ab aa (w64 ((gd ab aa) + 1))))
 have pk:SW w [B1] U ct [bH,av,d9,be,.blk b3 26 B0,au,du] gI:=pj
 have pm:SW w [B1] U ct [bH,av,d9,.blk b7 26 [.slice bo aY.length bp,.slice (some ⟨aq,0,none⟩) ((nK ab aa (w64 ((gd ab aa) + 1))).length) ak.length,.slice ba aZ.length bb],.blk b3 26 B0,au,du] gI:=by simpa only [B0,B1,au,av,be,bH,du,d9,nJ] using pk
 refine zr (zm ?_)
 cases qJ
 have mI:=dK.le dQ
 exact zL ⟨rfl,⟨ct,cz,cE,bm,bI,bg,bB,bJ,bl,(nT (b:=(.slice (some ⟨aX,0,none⟩) ai.length aV.length:Value)) (c:=(.slice (some ⟨aX,0,none⟩) ((nK ai aa (w64 ((gd ai aa) + 1))).length) aV.length:Value)) bn (by simp only [nJ])),bK,bL,bC,bD,((bw.trans cU).trans dQ),pm,mI,(nJ.trans bM),(nJ.trans bN)⟩⟩
 intro eG qK
 refine zg (congrArg nA (nB.2 eG.out)) (ZJ (zm ?_))
 cases qK
 have mJ:=dK.le dQ
 exact zL ⟨Z,⟨ct,cz,cE,bm,bI,bg,bB,bJ,bl,bn,bK,bL,bC,bD,((bw.trans cU).trans dQ),eZ,mJ,bM,bN⟩⟩
 intro bP qL
 refine oF Z bP (Za Z Z Z (zP Z Z (zf bP.out) Z) (oF Z bP (oR Z (zX Z (zf bP.out) Z) (oM Z Z (oN Z (oN Z (oN Z (oN Z (zI Z Z Z (wAF Z Z Z) (zI Z Z Z (wAF Z Z Z) (zI Z Z Z (wAF Z Z Z) (zI Z Z Z (wAF Z Z Z) (zI Z Z Z (wAF Z Z Z) (Za Z Z Z (wAF Z Z Z) (oN Z (oR Z (zX Z Z Z) (eN (zg Z (ZJ (zm ?_))))))))))))))))))))
 cases qL
 exact zL ⟨Z,⟨dw,dg,dD,bm,bI,bg,bB,bJ,bl,bn,bK,bL,bC,bD,bw,cM,eS,bM,bN⟩⟩
 rintro sK rJ ⟨i4,df,dB,lu,lv,lw,lx,ly,lz,lA,lC,lD,lE,lF,qT,po,mK,mL,mM⟩
 refine rR fL2 Z (oR Z (ZC (zd Z lF Z) (congrArg (jV) qc.out)) (oM Z Z (zr ?_)))
 cases iI
 exact zL ⟨Z,⟨i4,df,dB,Z,lu,lv,lw,lx,ly,lz,lA,lC,lD,lE,(fG.trans qT),po,mK,mL,mM⟩⟩
 rintro sL jq ⟨rE,gb,gT,lV,lH,lI,lJ,lK,lL,rN,lM,lN,lO,lP,iU,pp,mO,mP,rQ⟩
 have jC:Hid (¬ ((↑(((gd aY aa):Int) - 0).toNat:Int) < (gd aY aa))):=zO (wBe)
 refine sR fL1 Z (oR Z (zh Z lV lP) (eN (zF (cF Z jC (ZV (zu (zu (ZM (zL (rR gAt Z (oM Z lL (oM Z lM ?_))))))))))))
 have q:=pp.freezeR (k:=6) (n:=cg.length) rfl (wAG (f:=KL.encI) (sz:=1) (fun _=>rfl) cg) (by decide)
 obtain ⟨cB,fH,qO,pt⟩:=q
 let eb:Res:=.blk b7 26 [.slice bo aY.length bp,.slice (some ⟨aq,0,none⟩) iX.length ak.length,.slice ba aZ.length bb]
 let ec:Res:=.row (some ⟨aq,0,none⟩) ak.length 3 1 (hH KL.encI iX)
 let ed:Res:=.blk am 87 [.slice gb ri.length gT,jV rj,.int .u32 rk]
 have pu:SW w [B1] U cB [ed,av,ec,eb,.blk b3 26 B0,au] jq:=pt
 let dv:List Value:=[.slice (some ⟨aX,0,none⟩) cg.length aV.length]
 refine Zh (pv:=[(0,.slice (some ⟨aX,0,none⟩) cg.length aV.length)]) (zs:=[.slice none 0 0]) (cs:=dv) Z Z Z Z Z (wAb Z wAz) Try.runUnderlying27 zY Try.zeroValue23 Z Z Z Z Z pu ?_
 intro jr jx pq
 have iO:RlL cB wNP [cg] dv:=(RlL.cons (R:=wNP) (x:=cg) (vs:=dv) ⟨(some ⟨aX,0,none⟩),aV.length,rfl,qO⟩ RlL.nil)
 let gj:Res:=.row (some ⟨jx,0,none⟩) 1 23 1 dv
 have iw:SW w [B1] U cB [gj,ed,av,ec,eb,.blk b3 26 B0,au] jr:=pq
 refine bnK iH fun qX mQ qM=>?_
 have mR:=ma.le dO
 have mS:=mR.le iU
 have mT:=mS.le fH
 refine OKS.appendR (R:=wNP) (j:=6) (xs:=bV) (ys:=[cg]) (zs:=qX) rfl rfl rfl rfl rfl Try.underlying27 wOW rfl rfl rfl rfl rfl rfl rfl iw rfl rfl rfl mT iO (iw.srcR (j:=0) rfl (by decide) (RlL.len iO)) mQ rfl ?_
 intro gc gW g9 jt py qN
 have pz:SW w [B1] U cB [gj,ed,av,ec,eb,.blk b3 26 B0,.row gc gW 23 1 g9] jt:=py
 refine oA Z Z (zr (zm (zL (rR fL2 Z (oR Z (ZC (zd Z lO Z) (congrArg (jV) qb.out)) (oM Z Z (zr ?_)))))))
 cases qM
 have mU:=mO.le fH
 exact zL ⟨rfl,⟨cB,gb,gT,bo,bp,gc,gW,g9,rfl,lH,lI,lJ,lK,rfl,lN,(((fE.trans dO).trans iU).trans fH),(pz.pick [1,2,3,4,5,6] _ (by decide) rfl),mU,mP,qN⟩⟩
 rintro sM rK ⟨gy,ge,gX,dV,eH,dW,eI,gZ,lW,rO,im,lQ,rP,lR,lS,qU,iy,mV,rS,mW⟩
 have jD:Hid (¬ ((↑((aW:Int) - 0).toNat:Int) < aW)):=zO (wBe)
 refine sR fL1 Z (oR Z (zh Z lW lS) (eN (zF (cF Z jD (ZV (zu (zu (ZM (zL (sR gAp Z ?_))))))))))
 let cp:List Value:=[.slice dV iV.length eH,.slice (some ⟨aq,0,none⟩) iW.length ak.length,.slice ba aZ.length bb]
 refine oL Z (iy.ldBA (j:=3) Z Z lQ ZD zZ (vs:=cp) Z Z) (oM Z lR (ZB (j:=4) (vs:=cp) Z Z Z Z iy Z im Z Z zZ (zC Z) Z Z Z ?_))
 intro ju pB
 have iz:SW w [B1] U gy [.blk am 87 [.slice ge qY.length gX,jV qZ,.int .u32 rc],.row dV eH 3 1 (hH KL.encI iV),.row (some ⟨aq,0,none⟩) ak.length 3 1 (hH KL.encI iW),.blk b7 26 cp,.blk b3 26 cp,.row dW eI 23 1 gZ] ju:=pB
 refine oA Z Z (eN (zR ?_))
 have mX:=fw.le qU
 cases iF
 exact ⟨rfl,_,(wEg (rs:=[.cell 4 26,.tmp 5]) (vs:=[.agg cp.toArray,.slice dW re.length eI]) ⟨⟨_,im,(wCy ZD zZ (iz.blkAt (k:=4) rfl) (vs:=cp) rfl rfl)⟩,⟨rfl,trivial⟩⟩ rfl),gy,_,(iz.pick [1,2,5,0] _ (by decide) rfl),dV,eH,(some ⟨aq,0,none⟩),ak.length,ba,bb,dW,eI,gZ,ge,gX,rfl,rfl,mX,mW,mV⟩
end Go.Proofs.Ytfcmijinklojbaa
namespace Go.Proofs.Ytfcmijinklojbaa
open Go.KL
set_option maxHeartbeats 4000000
theorem wAY (p0:Int) (p1:Int) (p2:Int) (w:World) (U:PHeap) (hS:St0 w U [])  {r:Bool} (hm:wAO p0 p1 p2=some r):Gv Try.prog 70 [jV p0,jV p1,jV p2] w (wCY w [] U (fun U_ L_ v=>v=.bool r/\L_=[])):=by
 unfold wAO at hm
 refine Gv.of Try.func70 Z Try.ntmps70 Try.results70 Z (sR fL1 Z (oA Z Z (eN (sR fL9 Z (oM Z Z (oM Z Z (oR Z (Runs.geq Z Z Z) (oM Z Z ?_))))))))
 by_cases c1:p1 <= p0
 have ab:=hm;rw [if_pos c1] at ab;replace c1:=zO c1
 refine zV Z Z Z (wT Z c1) Z Z (zV Z Z Z (wT Z c1) Z Z (rU Z (wT Z c1) (Runs.leq Z Z Z) (oR Z (zS Z (ZX c1.out) Z) (oA Z Z (eN (zR ?_))))))
 first | (obtain rfl:=nD ab) | cases ab
 exact ⟨Z,_,(zx Z),U,_,hS,Z,Z⟩
 have ai:=hm;rw [if_neg c1] at ai;replace c1:=zO c1
 refine oF Z c1 (oF Z c1 (oF Z c1 (oR Z (zX Z (zf c1.out) Z) (oA Z Z (eN (zR ?_))))))
 have hE:=nD ai;first | subst r | cases hE
 exact ⟨Z,_,(zx Z),U,_,hS,Z,Z⟩
theorem wFM (p0:Int) (p1:(Int->Option Bool)) (ai:Nat) (ab:Value) (w:World) (U:PHeap) (hS:St0 w U []) (aq:Cl U ai 0 [ab]) (au:FnOK Try.prog U ab wKh wMX p1) {r:Bool} (hm:wBK p0 p1=some r):Gv Try.prog 102 [jV p0,.pointer (some ⟨ai,0,none⟩)] w (wCY w [] U (fun U_ L_ v=>v=.bool r/\L_=[])):=by
 unfold wBK at hm
 refine Gv.of Try.func102 Z Try.ntmps102 Try.results102 Z (sR fL1 Z (oA Z Z (eN (sR gAs Z (oL Z (hS.ldC (f:=0) aq (v:=ab) Z Z Try.isAgg74 Z) (oM Z Z (bnK hm fun x1 h2 av=>OKS.callV (a:=p0) Z Z Z Z Z Z (zA Z zQ) hS au Z h2 ?_)))))))
 rintro U4 L5 v6 W7 aV ap ⟨rfl,rfl⟩
 have am:sW w U U4 [] W7:=ap
 refine oR Z (ZE Z Z) (oA Z Z (eN (zR ?_)))
 cases av
 exact ⟨Z,_,(zx Z),U4,_,am,Z,Z⟩
theorem wCK (p0:List Int) (aq:Option Addr) (au:Nat) (p1:(Int->Option Bool)) (av:Value) (w:World) (U:PHeap) (hS:St0 w U []) (bu:Sl U 1 aq au p0.length (hH KL.encI p0)) (bv:FnOK Try.prog U av wKh wMX p1) {r:Int} (hm:wAT p0 p1=some r):Gv Try.prog 97 [.slice aq p0.length au,av] w (wCY w [] U (fun U_ L_ v=>v=jV r/\L_=[])):=by
 unfold wAT at hm
 refine Gv.of Try.func97 Z Try.ntmps97 Try.results97 Z (sR fL1 Z (oA Z Z (eN (zF (sR fL3 Z (oM Z Z (oR Z (ZA Z Z zB) (oM Z Z (eN (zj ?_))))))))))
 have q:=wDe hm
 obtain ⟨r3,aj⟩:=q
 have q:=wDd aj
 obtain ⟨am,bA⟩:=q
 replace am:=zO am
 refine CK.forN (fun k2 _ σ_ w_=>∃ (U_:PHeap),σ_ 8=jV (↑k2:Int)/\σ_ 0=.slice aq p0.length au/\σ_ 1=av/\σ_ 7=jV (↑p0.length:Int)/\PHeap.Le U U_/\sW w U U_ [] w_) bA ?_ ?_ ?_
 exact ⟨U,Z,Z,Z,Z,(zk _),hS⟩
 rintro k2 ⟨⟩ bV bX W8 ak ⟨bK,ai,aV,aW,aX,ap,aZ⟩ be bw
 try dsimp only at be
 have az:Hid ((↑k2:Int) < (↑p0.length:Int)):=zO (wCJ ak)
 replace ak:=zO ak
 have bB:Hid (w64 ((↑k2:Int) + 1)=(↑(k2 + 1):Int)):=zO (by have h1:=am.out;have h2:=az.out;rw [wAX] <;> omega)
 refine sR fL1 Z (oR Z (zh Z ai aX) (eN (zF (cT Z az (kN (zF (zj (sR fL2 Z (oM Z ai (oA Z Z (eN (sR (wGw (.fx 5 .nil .stop)) Z (oM Z aW (oM Z aV (oM Z Z (bnK be fun bg aY bC=>?_))))))))))))))))
 have bn:=bu.le ap
 have q:=bn.el (fun _=>rfl) (wBo aY)
 obtain ⟨bN,bR,bq,br⟩:=q
 refine oR Z (Zb Z Z bq Z zB zD (wEZ aY)) (oL Z (aZ.ldC (f:=0) br (v:=jV bg) Z Z zM Z) (bnK bC fun bU bo bD=>?_))
 have bp:=bv.le ap
 refine OKS.callV (a:=bg) Z Z Z Z Z Z (zA Z zQ) aZ bp Z bo ?_
 rintro ae bJ bT bi bH bs ⟨rfl,rfl⟩
 have ba:sW w U ae [] bi:=bs
 refine eN (ifc bD ?_ ?_)
 intro ah bE
 refine zt (congrArg nA ah.out) (sR fL2 Z (oM Z Z (oA Z Z (eN (zR (zw (zW ?_)))))))
 have q:=wBh bE
 obtain ⟨bI,bF,bk⟩:=q
 have q:=wDK hm aj (bw bI bk)
 obtain rfl:=q
 refine zW (zw (zW ?_))
 cases bF
 exact ⟨Z,_,(zx Z),ae,_,ba,Z,Z⟩
 intro ah bG
 refine zg (congrArg nA (nB.2 ah.out)) (ZJ (zm (zL (rR fL2 Z (oR Z (ZC (zd Z ai Z) (congrArg (jV) bB.out)) (oM Z Z (zr ?_)))))))
 have q:=nD bG
 obtain rfl:=q
 exact zL ⟨Z,_,Z,⟨ae,Z,aV,aW,aX,(ap.trans bH),ba⟩⟩
 rintro ⟨⟩ bW bL ⟨bh,bm,bO,bP,bl,bQ,bt⟩ bz
 have bb:=wFA hm aj bz
 try dsimp only at bb
 have bj:Hid (¬ ((↑(((↑p0.length:Int):Int) - 0).toNat:Int) < (↑p0.length:Int))):=zO (wBe)
 refine sR fL1 Z (oR Z (zh Z bm bl) (eN (zF (cF Z bj (ZV (zu (zu (ZM (zL (sR fL1 Z (oA Z Z (eN (zR ?_)))))))))))))
 cases bb
 exact ⟨Z,_,(zx Z),bh,_,bt,Z,Z⟩
theorem wBt (p0:List Int) (ae:Option Addr) (ah:Nat) (p1:(Int->Option Bool)) (ai:Value) (w:World) (U:PHeap) (hS:St0 w U []) (av:Sl U 1 ae ah p0.length (hH KL.encI p0)) (az:FnOK Try.prog U ai wKh wMX p1) {r:Bool} (hm:wAS p0 p1=some r):Gv Try.prog 98 [.slice ae p0.length ah,ai] w (wCY w [] U (fun U_ L_ v=>v=.bool r/\L_=[])):=by
 unfold wAS at hm
 refine Gv.of Try.func98 Z Try.ntmps98 Try.results98 Z (sR fL1 Z (oA Z Z (eN (sR gAs Z (oM Z Z (oM Z Z (bnK hm fun x1 h2 ak=>zH 0 Z Z Z Z (zG Z Z Try.call97 (zA Z (zA Z zQ)) Z) hS (fun hs=>wCK p0 ae ah p1 ai w U hs av az h2) (.inr Z) ?_)))))))
 rintro U4 L5 v6 W7 aW au ⟨rfl,rfl⟩
 have aq:sW w U U4 [] W7:=au
 refine oR Z (Runs.geq Z Z Z) (oA Z Z (eN (zR ?_)))
 first | (obtain rfl:=nD ak) | cases ak
 exact ⟨Z,_,(zx Z),U4,_,aq,Z,Z⟩
theorem wCw (p0:List Int) (ak:Option Addr) (am:Nat) (p1:(Int->Option Bool)) (ai:Value) (w:World) (U:PHeap) (hS:St0 w U []) (bh:Sl U 1 ak am p0.length (hH KL.encI p0)) (au:FnOK Try.prog U ai wKh wMX p1) {r:Bool} (hm:wBO p0 p1=some r):Gv Try.prog 79 [.slice ak p0.length am,ai] w (wCY w [] U (fun U_ L_ v=>v=.bool r/\L_=[])):=by
 unfold wBO at hm
 refine Gv.of Try.func79 Z Try.ntmps79 Try.results79 Z (sR gAg Z (ZH (cs:=[ai]) Z Z Z Z Z Z (FnOK.cells au) hS ?_))
 intro W1 b2 be
 have q:=be.freeze (k:=0) rfl
 obtain ⟨U5,av,ab,bf⟩:=q
 replace ab:=Cl.of ab
 have bg:sW w U U5 [] W1:=bf
 replace ab:Cl U5 b2 0 [ai]:=ab
 refine oA Z Z (eN (sR gAs Z (oM Z Z (oR Z (Runs.mkf Z zQ (zA Z zQ)) ?_))))
 have aW:=bh.le av
 have aX:=au.le av
 have aZ:FnOK Try.prog U5 (.func (.func 102) #[] #[.pointer (some ⟨b2,0,none⟩)]) wKh wMX (fun x=>wBK x p1):=⟨102,[],[.pointer (some ⟨b2,0,none⟩)],rfl,Try.call102,fun U1 w1 x y vs le hs ha hm=>by obtain rfl:=ha;exact wFM x p1 b2 ai w1 U1 hs (ab.le le) (aX.le le) hm⟩
 refine bnK hm fun x13 aY bi=>zH 0 Z Z Z Z (zG Z Z Try.call98 (zA Z (zA Z zQ)) Z) bg (fun hs=>wBt p0 ak am (fun x=>wBK x p1) (.func (.func 102) #[] #[.pointer (some ⟨b2,0,none⟩)]) W1 U5 hs aW aZ aY) (.inr Z) ?_
 rintro ap bk bm aV bl ba ⟨rfl,rfl⟩
 have bb:sW w U ap [] aV:=ba
 refine oR Z (ZE Z Z) (oA Z Z (eN (zR ?_)))
 cases bi
 exact ⟨Z,_,(zx Z),ap,_,bb,Z,Z⟩
theorem wFp (p0:Int) (w:World) (U:PHeap) (hS:St0 w U [])  {r:Bool} (hm:wBP p0=some r):Gv Try.prog 109 [jV p0] w (wCY w [] U (fun U_ L_ v=>v=.bool r/\L_=[])):=by
 unfold wBP at hm
 refine Gv.of Try.func109 Z Try.ntmps109 Try.results109 Z (sR fL1 Z (oA Z Z (eN (sR gAl Z (oM Z Z (bnK hm fun x1 h2 ak=>zH 0 Z Z Z Z (zG Z Z Ze (zA Z (zA Z (zA Z zQ))) Z) hS (fun hs=>wAY p0 0 8 w U hs h2) (.inr Z) ?_))))))
 rintro U4 L5 v6 W7 ap aj ⟨rfl,rfl⟩
 have ai:sW w U U4 [] W7:=aj
 refine oA Z Z (eN (zR ?_))
 have hE:=nD ak;first | subst r | cases hE
 exact ⟨Z,_,(zx Z),U4,_,ai,Z,Z⟩
theorem wFq (p0:Int) (w:World) (U:PHeap) (hS:St0 w U [])  {r:Bool} (hm:wBQ p0=some r):Gv Try.prog 110 [jV p0] w (wCY w [] U (fun U_ L_ v=>v=.bool r/\L_=[])):=by
 unfold wBQ at hm
 refine Gv.of Try.func110 Z Try.ntmps110 Try.results110 Z (sR fL1 Z (oA Z Z (eN (sR gAl Z (oM Z Z (bnK hm fun x1 h2 ak=>zH 0 Z Z Z Z (zG Z Z Ze (zA Z (zA Z (zA Z zQ))) Z) hS (fun hs=>wAY p0 0 5 w U hs h2) (.inr Z) ?_))))))
 rintro U4 L5 v6 W7 ap aj ⟨rfl,rfl⟩
 have ai:sW w U U4 [] W7:=aj
 refine oA Z Z (eN (zR ?_))
 have hE:=nD ak;first | subst r | cases hE
 exact ⟨Z,_,(zx Z),U4,_,ai,Z,Z⟩
theorem wFr (p0:wAA) (p1:Int) (aW:Nat) (w:World) (U:PHeap) (hS:St0 w U []) (az:Cl U aW 0 [jV p1]) {r:Bool} (hm:wBR p0 p1=some r):Gv Try.prog 112 [.agg #[jV p0.Skier,jV p0.Lane],.pointer (some ⟨aW,0,none⟩)] w (wCY w [] U (fun U_ L_ v=>v=.bool r/\L_=[])):=by
 unfold wBR at hm
 refine Gv.of Try.func112 Z Try.ntmps112 Try.results112 Z (sR gAg Z ?_)
 let B0:List Value:=[jV p0.Skier,jV p0.Lane]
 refine ZH (cs:=B0) rfl rfl rfl rfl rfl rfl (by rfl) hS ?_
 intro W1 b2 aq
 refine oA Z Z (eN (sR (wIA (.fx 4 (fC5_9 (.fx 10 (wQB (.nil)) .stop)) .stop)) Z (oR Z (zJ Z Z ZU Z zD) (oL Z (aq.ldB (j:=0) Z Z Z zM (v:=jV p0.Skier) Z) (oL Z (aq.ldC (f:=0) az (v:=jV p1) Z Z zM Z) (oR Z (ZY Z Z Z) (bnK hm fun x5 h6 bk=>zH 0 Z Z Z Z (zG Z Z Ze (zA Z (zA Z (zA Z zQ))) Z) aq (fun hs=>wAY p0.Skier 0 (w64 (p1 - 1)) W1 U hs h6) (.inr Z) ?_)))))))
 rintro U8 L9 bp au bl be ⟨rfl,rfl⟩
 have ai:sW w U U8 [.blk b2 35 B0] au:=be
 refine oM Z Z (ifc bk ?_ ?_)
 intro aa bg
 refine zN Z Z Z (zK Z Z (congrArg nA aa.out)) (fun _=>zJ Z Z ZU Z zD) (zq Z Z Z (zK Z Z (congrArg nA aa.out)) (ai.ldB (j:=0) Z Z Z zM (v:=jV p0.Lane) Z) Z ?_)
 have aZ:=az.le bl
 refine zq Z Z Z (zK Z Z (congrArg nA aa.out)) (ai.ldC (f:=0) aZ (v:=jV p1) Z Z zM Z) Z (zN Z Z Z (zK Z Z (congrArg nA aa.out)) (fun _=>ZY Z Z Z) (bnK bg fun br ba bh=>zH 0 Z Z Z (zK Z Z (congrArg nA aa.out)) (zG Z Z Ze (zA Z (zA Z (zA Z zQ))) Z) ai (fun hs=>wAY p0.Lane 0 (w64 (p1 - 1)) au U8 hs ba) (.inr Z) ?_))
 rintro am bm bq aY bo bf ⟨rfl,rfl⟩
 have aj:sW w U am [.blk b2 35 B0] aY:=bf
 refine oR Z (zS Z (congrArg nA aa.out) Z) (oM Z Z (ifc bh ?_ ?_))
 intro ab aV
 refine zN Z Z Z (zK Z Z (congrArg nA ab.out)) (fun _=>zJ Z Z ZU Z zD) (zq Z Z Z (zK Z Z (congrArg nA ab.out)) (aj.ldB (j:=0) Z Z Z zM (v:=jV p0.Skier) Z) Z (zN Z Z Z (zK Z Z (congrArg nA ab.out)) (fun _=>zJ Z Z ZU Z zD) (zq Z Z Z (zK Z Z (congrArg nA ab.out)) (aj.ldB (j:=0) Z Z Z zM (v:=jV p0.Lane) Z) Z (zN Z Z Z (zK Z Z (congrArg nA ab.out)) (fun _=>zy Z Z Z) (oR Z (zS Z (congrArg nA ab.out) Z) (oA Z Z (eN (zR ?_))))))))
 first | (obtain rfl:=nD aV) | cases aV
 exact ⟨rfl,_,(zx rfl),am,_,(aj.pick [] _ (by decide) rfl),rfl,rfl⟩
 intro ab bi
 refine zI Z Z Z (zP Z Z (congrArg nA (nB.2 ab.out)) Z) (zI Z Z Z (zP Z Z (congrArg nA (nB.2 ab.out)) Z) (zI Z Z Z (zP Z Z (congrArg nA (nB.2 ab.out)) Z) (zI Z Z Z (zP Z Z (congrArg nA (nB.2 ab.out)) Z) (zI Z Z Z (zP Z Z (congrArg nA (nB.2 ab.out)) Z) (oR Z (zX Z (congrArg nA (nB.2 ab.out)) Z) (oA Z Z (eN (zR ?_))))))))
 have hE:=nD bi;first | subst r | cases hE
 exact ⟨rfl,_,(zx rfl),am,_,(aj.pick [] _ (by decide) rfl),rfl,rfl⟩
 intro aa bj
 refine zI Z Z Z (zP Z Z (congrArg nA (nB.2 aa.out)) Z) (zI Z Z Z (zP Z Z (congrArg nA (nB.2 aa.out)) Z) (zI Z Z Z (zP Z Z (congrArg nA (nB.2 aa.out)) Z) (zI Z Z Z (zP Z Z (congrArg nA (nB.2 aa.out)) Z) (Za Z Z Z (zP Z Z (congrArg nA (nB.2 aa.out)) Z) (oR Z (zX Z (congrArg nA (nB.2 aa.out)) Z) (oM Z Z (oN Z (oN Z (oN Z (oN Z (oN Z (oR Z (zX Z Z Z) (oA Z Z (eN (zR ?_)))))))))))))))
 have hE:=nD bj;first | subst r | cases hE
 exact ⟨rfl,_,(zx rfl),U8,_,(ai.pick [] _ (by decide) rfl),rfl,rfl⟩
theorem wDI (p0:wAA) (p1:(wAA->Option Bool)) (ak:Nat) (ah:Value) (w:World) (U:PHeap) (hS:St0 w U []) (az:Cl U ak 0 [ah]) (aV:FnOK Try.prog U ah wQJ wQK p1) {r:Bool} (hm:wAf p0 p1=some r):Gv Try.prog 119 [.agg #[jV p0.Skier,jV p0.Lane],.pointer (some ⟨ak,0,none⟩)] w (wCY w [] U (fun U_ L_ v=>v=.bool r/\L_=[])):=by
 unfold wAf at hm
 refine Gv.of Try.func119 Z Try.ntmps119 Try.results119 Z (sR gAg Z ?_)
 let B0:List Value:=[jV p0.Skier,jV p0.Lane]
 refine ZH (cs:=B0) rfl rfl rfl rfl rfl rfl (by rfl) hS ?_
 intro W1 b2 ae
 refine oA Z Z (eN (sR gAs Z (oL Z (ae.ldC (f:=0) az (v:=ah) Z Z Try.isAgg81 Z) (oL Z (ae.ldBA (j:=0) Z Z Z Zm ZS (vs:=B0) Z Z) (bnK hm fun x5 h6 aW=>OKS.callV (a:=p0) Z Z Z Z Z Z (zA Z zQ) ae aV Z h6 ?_)))))
 rintro U8 L9 ba am aZ au ⟨rfl,rfl⟩
 have av:sW w U U8 [.blk b2 35 B0] am:=au
 refine oR Z (ZE Z Z) (oA Z Z (eN (zR ?_)))
 cases aW
 exact ⟨rfl,_,(zx rfl),U8,_,(av.pick [] _ (by decide) rfl),rfl,rfl⟩
theorem wBu (p0:List wAA) (aq:Option Addr) (au:Nat) (p1:(wAA->Option Bool)) (av:Value) (w:World) (U:PHeap) (hS:St0 w U []) (bu:Sl U 2 aq au p0.length (hH wAB p0)) (bv:FnOK Try.prog U av wQJ wQK p1) {r:Int} (hm:wAV p0 p1=some r):Gv Try.prog 82 [.slice aq p0.length au,av] w (wCY w [] U (fun U_ L_ v=>v=jV r/\L_=[])):=by
 unfold wAV at hm
 refine Gv.of Try.func82 Z Try.ntmps82 Try.results82 Z (sR fL1 Z (oA Z Z (eN (zF (sR fL3 Z (oM Z Z (oR Z (ZA Z Z ZT) (oM Z Z (eN (zj ?_))))))))))
 have q:=wDe hm
 obtain ⟨r3,aj⟩:=q
 have q:=wDd aj
 obtain ⟨am,bA⟩:=q
 replace am:=zO am
 refine CK.forN (fun k2 _ σ_ w_=>∃ (U_:PHeap),σ_ 8=jV (↑k2:Int)/\σ_ 0=.slice aq p0.length au/\σ_ 1=av/\σ_ 7=jV (↑p0.length:Int)/\PHeap.Le U U_/\sW w U U_ [] w_) bA ?_ ?_ ?_
 exact ⟨U,Z,Z,Z,Z,(zk _),hS⟩
 rintro k2 ⟨⟩ bV bX W8 ak ⟨bK,ai,aW,aX,aY,ap,ba⟩ bf bw
 try dsimp only at bf
 have aV:Hid ((↑k2:Int) < (↑p0.length:Int)):=zO (wCJ ak)
 replace ak:=zO ak
 have bB:Hid (w64 ((↑k2:Int) + 1)=(↑(k2 + 1):Int)):=zO (by have h1:=am.out;have h2:=aV.out;rw [wAX] <;> omega)
 refine sR fL1 Z (oR Z (zh Z ai aY) (eN (zF (cT Z aV (kN (zF (zj (sR fL2 Z (oM Z ai (oA Z Z (eN (sR (wGw (.fx 5 .nil .stop)) Z (oM Z aX (oM Z aW (oM Z Z (bnK bf fun az aZ bC=>?_))))))))))))))))
 have bn:=bu.le ap
 have q:=bn.el (fun _=>rfl) (wBo aZ)
 obtain ⟨bN,bR,bq,br⟩:=q
 refine oR Z (Zb Z Z bq Z ZT ZS (wEZ aZ)) (oL Z (ba.ldCA (f:=0) br Z Z Zm ZS (us:=[jV az.Skier,jV az.Lane]) Z Z) (bnK bC fun bU bo bD=>?_))
 have bp:=bv.le ap
 refine OKS.callV (a:=az) Z Z Z Z Z Z (zA Z zQ) ba bp Z bo ?_
 rintro ae bJ bT bi bH bs ⟨rfl,rfl⟩
 have bb:sW w U ae [] bi:=bs
 refine eN (ifc bD ?_ ?_)
 intro ah bE
 refine zt (congrArg nA ah.out) (sR fL2 Z (oM Z Z (oA Z Z (eN (zR (zw (zW ?_)))))))
 have q:=wBh bE
 obtain ⟨bI,bF,bk⟩:=q
 have q:=wDK hm aj (bw bI bk)
 obtain rfl:=q
 refine zW (zw (zW ?_))
 cases bF
 exact ⟨Z,_,(zx Z),ae,_,bb,Z,Z⟩
 intro ah bG
 refine zg (congrArg nA (nB.2 ah.out)) (ZJ (zm (zL (rR fL2 Z (oR Z (ZC (zd Z ai Z) (congrArg (jV) bB.out)) (oM Z Z (zr ?_)))))))
 have q:=nD bG
 obtain rfl:=q
 exact zL ⟨Z,_,Z,⟨ae,Z,aW,aX,aY,(ap.trans bH),bb⟩⟩
 rintro ⟨⟩ bW bL ⟨bh,bm,bO,bP,bl,bQ,bt⟩ bz
 have be:=wFA hm aj bz
 try dsimp only at be
 have bj:Hid (¬ ((↑(((↑p0.length:Int):Int) - 0).toNat:Int) < (↑p0.length:Int))):=zO (wBe)
 refine sR fL1 Z (oR Z (zh Z bm bl) (eN (zF (cF Z bj (ZV (zu (zu (ZM (zL (sR fL1 Z (oA Z Z (eN (zR ?_)))))))))))))
 cases be
 exact ⟨Z,_,(zx Z),bh,_,bt,Z,Z⟩
theorem wBm (p0:List wAA) (ae:Option Addr) (ah:Nat) (p1:(wAA->Option Bool)) (ai:Value) (w:World) (U:PHeap) (hS:St0 w U []) (av:Sl U 2 ae ah p0.length (hH wAB p0)) (az:FnOK Try.prog U ai wQJ wQK p1) {r:Bool} (hm:wAP p0 p1=some r):Gv Try.prog 37 [.slice ae p0.length ah,ai] w (wCY w [] U (fun U_ L_ v=>v=.bool r/\L_=[])):=by
 unfold wAP at hm
 refine Gv.of Try.func37 Z Try.ntmps37 Try.results37 Z (sR fL1 Z (oA Z Z (eN (sR gAs Z (oM Z Z (oM Z Z (bnK hm fun x1 h2 ak=>zH 0 Z Z Z Z (zG Z Z Try.call82 (zA Z (zA Z zQ)) Z) hS (fun hs=>wBu p0 ae ah p1 ai w U hs av az h2) (.inr Z) ?_)))))))
 rintro U4 L5 v6 W7 aW au ⟨rfl,rfl⟩
 have aq:sW w U U4 [] W7:=au
 refine oR Z (Runs.geq Z Z Z) (oA Z Z (eN (zR ?_)))
 first | (obtain rfl:=nD ak) | cases ak
 exact ⟨Z,_,(zx Z),U4,_,aq,Z,Z⟩
theorem wDa (p0:List wAA) (ak:Option Addr) (am:Nat) (p1:(wAA->Option Bool)) (ai:Value) (w:World) (U:PHeap) (hS:St0 w U []) (bh:Sl U 2 ak am p0.length (hH wAB p0)) (au:FnOK Try.prog U ai wQJ wQK p1) {r:Bool} (hm:wAv p0 p1=some r):Gv Try.prog 111 [.slice ak p0.length am,ai] w (wCY w [] U (fun U_ L_ v=>v=.bool r/\L_=[])):=by
 unfold wAv at hm
 refine Gv.of Try.func111 Z Try.ntmps111 Try.results111 Z (sR gAg Z (ZH (cs:=[ai]) Z Z Z Z Z Z (FnOK.cells au) hS ?_))
 intro W1 b2 be
 have q:=be.freeze (k:=0) rfl
 obtain ⟨U5,av,ab,bf⟩:=q
 replace ab:=Cl.of ab
 have bg:sW w U U5 [] W1:=bf
 replace ab:Cl U5 b2 0 [ai]:=ab
 refine oA Z Z (eN (sR gAs Z (oM Z Z (oR Z (Runs.mkf Z zQ (zA Z zQ)) ?_))))
 have aW:=bh.le av
 have aX:=au.le av
 have aZ:FnOK Try.prog U5 (.func (.func 119) #[] #[.pointer (some ⟨b2,0,none⟩)]) wQJ wQK (fun x=>wAf x p1):=⟨119,[],[.pointer (some ⟨b2,0,none⟩)],rfl,Try.call119,fun U1 w1 x y vs le hs ha hm=>by obtain rfl:=ha;exact wDI x p1 b2 ai w1 U1 hs (ab.le le) (aX.le le) hm⟩
 refine bnK hm fun x13 aY bi=>zH 0 Z Z Z Z (zG Z Z Try.call37 (zA Z (zA Z zQ)) Z) bg (fun hs=>wBm p0 ak am (fun x=>wAf x p1) (.func (.func 119) #[] #[.pointer (some ⟨b2,0,none⟩)]) W1 U5 hs aW aZ aY) (.inr Z) ?_
 rintro ap bk bm aV bl ba ⟨rfl,rfl⟩
 have bb:sW w U ap [] aV:=ba
 refine oR Z (ZE Z Z) (oA Z Z (eN (zR ?_)))
 cases bi
 exact ⟨Z,_,(zx Z),ap,_,bb,Z,Z⟩
theorem wHs (p0:wAA) (p1:wAA) (w:World) (U:PHeap) (hS:St0 w U [])  {r:Bool} (hm:wCb p0 p1=some r):Gv Try.prog 113 [.agg #[jV p0.Skier,jV p0.Lane],.agg #[jV p1.Skier,jV p1.Lane]] w (wCY w [] U (fun U_ L_ v=>v=.bool r/\L_=[])):=by
 unfold wCb at hm
 refine Gv.of Try.func113 rfl Try.ntmps113 Try.results113 rfl (sR gAn rfl (ZH (cs:=[jV p0.Skier,jV p0.Lane]) rfl rfl rfl rfl rfl rfl (by rfl) hS ?_))
 intro W1 b2 ap
 refine ZH (cs:=[jV p1.Skier,jV p1.Lane]) rfl rfl rfl rfl rfl rfl (by rfl) ap ?_
 intro W5 b6 ae
 refine oA Z Z (eN (sR fL20 Z (oR Z (zJ Z Z ZU Z zD) (oL Z (ae.ldB (j:=1) Z Z Z zM (v:=jV p0.Skier) Z) (oR Z (zJ Z Z ZU Z zD) (oL Z (ae.ldB (j:=0) Z Z Z zM (v:=jV p1.Skier) Z) (oR Z (zh Z Z Z) (oM Z Z ?_))))))))
 by_cases c9:p0.Skier < p1.Skier
 have aj:=hm;rw [if_pos c9] at aj;replace c9:=zO c9
 refine oT Z c9 (oT Z c9 (oT Z c9 (oT Z c9 (oT Z c9 (oT Z c9 (zI Z Z Z (wAF Z Z Z) (zI Z Z Z (wAF Z Z Z) (zI Z Z Z (wAF Z Z Z) (zI Z Z Z (wAF Z Z Z) (zI Z Z Z (wAF Z Z Z) (oT Z c9 (oR Z (zS Z (ZX c9.out) Z) (oA Z Z (eN (zR ?_)))))))))))))))
 have hE:=nD aj;first | subst r | cases hE
 exact ⟨rfl,_,(zx rfl),U,_,(ae.pick [] _ (by decide) rfl),rfl,rfl⟩
 have ak:=hm;rw [if_neg c9] at ak;replace c9:=zO c9
 refine rU Z (wF Z c9) (zJ Z Z ZU Z zD) (zq Z Z Z (wF Z c9) (ae.ldB (j:=1) Z Z Z zM (v:=jV p0.Skier) Z) Z (rU Z (wF Z c9) (zJ Z Z ZU Z zD) (zq Z Z Z (wF Z c9) (ae.ldB (j:=0) Z Z Z zM (v:=jV p1.Skier) Z) Z (rU Z (wF Z c9) (ZP Z Z Z) (zV Z Z Z (wF Z c9) Z Z (ifc ak ?_ ?_))))))
 intro ab am
 refine rU Z (wT Z ab) (zJ Z Z ZU Z zD) (zq Z Z Z (wT Z ab) (ae.ldB (j:=1) Z Z Z zM (v:=jV p0.Lane) Z) Z (rU Z (wT Z ab) (zJ Z Z ZU Z zD) (zq Z Z Z (wT Z ab) (ae.ldB (j:=0) Z Z Z zM (v:=jV p1.Lane) Z) Z (rU Z (wT Z ab) (zh Z Z Z) (rU Z (wF Z c9) (zS Z (ZX ab.out) Z) (oR Z (zX Z (zf c9.out) Z) (oA Z Z (eN (zR ?_)))))))))
 first | (obtain rfl:=nD am) | cases am
 exact ⟨rfl,_,(zx rfl),U,_,(ae.pick [] _ (by decide) rfl),rfl,rfl⟩
 intro ab aq
 refine oF Z ab (oF Z ab (oF Z ab (oF Z ab (oF Z ab (rU Z (wF Z c9) (zX Z (zf ab.out) Z) (oR Z (zX Z (zf c9.out) Z) (oA Z Z (eN (zR ?_)))))))))
 have hE:=nD aq;first | subst r | cases hE
 exact ⟨rfl,_,(zx rfl),U,_,(ae.pick [] _ (by decide) rfl),rfl,rfl⟩
theorem wHC (p0:wAC) (az:Option Addr) (aW:Nat) (aV:Option Addr) (aX:Nat) (am:Option Addr) (ap:Nat) (w:World) (U:PHeap) (hS:St0 w U []) (cH:Sl U 1 az aW p0.Shots.length (hH KL.encI p0.Shots)) (cI:Sl U 1 aV aX p0.Down.length (hH KL.encI p0.Down)) (cJ:Sl U 2 am ap p0.Across.length (hH wAB p0.Across)) {r:Int} (hm:wCO p0=some r):Gv Try.prog 95 [.agg #[.slice az p0.Shots.length aW,.slice aV p0.Down.length aX,.slice am p0.Across.length ap]] w (wCY w [] U (fun U_ L_ v=>v=jV r/\L_=[])):=by
 unfold wCO at hm
 refine Gv.of Try.func95 Z Try.ntmps95 Try.results95 Z (sR gAg Z ?_)
 let B0:List Value:=[.slice az p0.Shots.length aW,.slice aV p0.Down.length aX,.slice am p0.Across.length ap]
 refine ZH (cs:=B0) rfl rfl rfl rfl rfl rfl (by rfl) hS ?_
 intro W1 b2 bI
 refine oA Z Z (eN (sR (wDo (.fx 3 (.fx 4 .nil .stop) .stop)) Z (oR Z (zJ Z Z zE Z zY) (oL Z (bI.ldB (j:=0) Z Z Z zi (v:=.slice az p0.Shots.length aW) Z) (oR Z (ZA Z Z zB) (ZW (cs:=[jV 0]) Z Z Z Z Z Zi Z bI ?_))))))
 intro W5 b6 cE
 let B1:List Value:=[jV (↑p0.Shots.length:Int)]
 refine ZB (j:=0) (vs:=B1) Z Z Z Z cE Z Z Z Z zD (zC Z) Z Z Z ?_
 intro W9 cx
 have bG:sW w U U [.blk b6 3 B1,.blk b2 26 B0] W9:=cx
 refine eN (zF (zj (sR (.fl 0 (.fx 1 (wRQ (.nil)) .stop)) Z (oL Z (bG.ldB (j:=0) Z Z Z zM (v:=jV (↑p0.Shots.length:Int)) Z) (bnK hm fun dM bX cX=>zH 0 Z Z Z Z (zG Z Z Ze (zA Z (zA Z (zA Z zQ))) Z) bG (fun hs=>wAY (↑p0.Shots.length:Int) 1 8 W9 U hs bX) (.inr Z) ?_)))))
 rintro aZ dw dI bA bu cz ⟨rfl,rfl⟩
 have au:sW w U aZ [.blk b6 3 B1,.blk b2 26 B0] bA:=cz
 refine oR Z (ZE Z Z) (oM Z Z (ifc cX ?_ ?_))
 intro ab cY
 refine zN Z Z Z (zK Z Z (nC ab.out)) (fun _=>zJ Z Z zE Z zY) (zq Z Z Z (zK Z Z (nC ab.out)) (au.ldB (j:=1) Z Z Z zi (v:=.slice aV p0.Down.length aX) Z) Z (zN Z Z Z (zK Z Z (nC ab.out)) (fun _=>ZA Z Z zB) (zq Z Z Z (zK Z Z (nC ab.out)) (au.ldB (j:=0) Z Z Z zM (v:=jV (↑p0.Shots.length:Int)) Z) Z (zN Z Z Z (zK Z Z (nC ab.out)) (fun _=>zy Z Z Z) (oR Z (zX Z (nC ab.out) Z) (oA Z Z (eN (ifc cY ?_ ?_))))))))
 intro bm cZ
 refine zg (zf (fun h=>h bm.out)) (sR (.fl 0 (.fl 1 (.fx 2 (fC3_6 (.fx 7 (wRX (.nil)) .stop)) .stop))) Z (oR Z (zJ Z Z zE Z zY) (oL Z (au.ldB (j:=1) Z Z Z zi (v:=.slice az p0.Shots.length aW) Z) ?_)))
 have bY:=cH.le bu
 have ct:FnOK Try.prog aZ (.func (.func 109) #[] #[]) wKh wMX wBP:=⟨109,[],[],rfl,Try.call109,fun U1 w1 x y vs le hs ha hm=>by obtain rfl:=ha;exact wFp x w1 U1 hs  hm⟩
 refine bnK cZ fun x28 bZ da=>zH 0 Z Z Z Z (zG Z Z Try.call79 (zA Z (zA Z zQ)) Z) au (fun hs=>wCw p0.Shots az aW wBP (.func (.func 109) #[] #[]) bA aZ hs bY ct bZ) (.inr Z) ?_
 rintro be dx dJ bB bO cA ⟨rfl,rfl⟩
 have br:sW w U be [.blk b6 3 B1,.blk b2 26 B0] bB:=cA
 refine oR Z (ZE Z Z) (oM Z Z (ifc da ?_ ?_))
 intro ae db
 refine zN Z Z Z (zK Z Z (nC ae.out)) (fun _=>zJ Z Z zE Z zY) (zq Z Z Z (zK Z Z (nC ae.out)) (br.ldB (j:=1) Z Z Z zi (v:=.slice aV p0.Down.length aX) Z) Z ?_)
 have b5:=cI.le bu
 have b9:=b5.le bO
 have cu:FnOK Try.prog be (.func (.func 110) #[] #[]) wKh wMX wBQ:=⟨110,[],[],rfl,Try.call110,fun U1 w1 x y vs le hs ha hm=>by obtain rfl:=ha;exact wFq x w1 U1 hs  hm⟩
 refine bnK db fun x43 cb de=>zH 0 Z Z Z (zK Z Z (nC ae.out)) (zG Z Z Try.call79 (zA Z (zA Z zQ)) Z) br (fun hs=>wCw p0.Down aV aX wBQ (.func (.func 110) #[] #[]) bB be hs b9 cu cb) (.inr Z) ?_
 rintro bw dy dK bk dp cB ⟨rfl,rfl⟩
 have bs:sW w U bw [.blk b6 3 B1,.blk b2 26 B0] bk:=cB
 refine zN Z Z Z (zK Z Z (nC ae.out)) (fun _=>ZE Z Z) (oR Z (zX Z (nC ae.out) Z) (oA Z Z (eN (ifc de ?_ ?_))))
 intro bn df
 refine zg (nC bn.out) (sR (wDo (.fx 3 gAd .stop)) Z (oR Z (zJ Z Z zE Z Zd) (oL Z (bs.ldB (j:=1) Z Z Z Zj (v:=.slice am p0.Across.length ap) Z) ?_)))
 have q:=bs.freeze (k:=0) rfl
 obtain ⟨bf,dq,ba,cC⟩:=q
 replace ba:=Cl.of ba
 have cD:sW w U bf [.blk b2 26 B0] bk:=cC
 replace ba:Cl bf b6 0 B1:=ba
 refine oR Z (Runs.mkf Z zQ (zA Z zQ)) ?_
 have cf:=cJ.le bu
 have cg:=cf.le bO
 have ci:=cg.le dp
 have bF:=ci.le dq
 have cw:FnOK Try.prog bf (.func (.func 112) #[] #[.pointer (some ⟨b6,0,none⟩)]) wQJ wQK (fun x=>wBR x (↑p0.Shots.length:Int)):=⟨112,[],[.pointer (some ⟨b6,0,none⟩)],rfl,Try.call112,fun U1 w1 x y vs le hs ha hm=>by obtain rfl:=ha;exact wFr x (↑p0.Shots.length:Int) b6 w1 U1 hs (ba.le le) hm⟩
 refine bnK df fun x65 cj dg=>zH 0 Z Z Z Z (zG Z Z Try.call111 (zA Z (zA Z zQ)) Z) cD (fun hs=>wDa p0.Across am ap (fun x=>wBR x (↑p0.Shots.length:Int)) (.func (.func 112) #[] #[.pointer (some ⟨b6,0,none⟩)]) bk bf hs bF cw cj) (.inr Z) ?_
 rintro bg dA dL bR dr cG ⟨rfl,rfl⟩
 have bJ:sW w U bg [.blk b2 26 B0] bR:=cG
 refine oR Z (ZE Z Z) (oA Z Z (eN (ifc dg ?_ ?_)))
 intro bo dh
 refine zg (nC bo.out) (ZJ (zm (zL (zF (sR fL1 Z (oA Z Z (eN (zj (CK.iter (fun bv σ_ w_=>∃ (U_:PHeap),σ_ 1=.pointer (some ⟨b2,0,none⟩)/\σ_ 4=jV bv/\PHeap.Le bg U_/\sW w U U_ [.blk b2 26 B0] w_) dh ?_ ?_)))))))))
 exact ⟨bg,Z,Z,(zk _),bJ⟩
 rintro bv dN dO bC ⟨bz,bh,bi,bP,bt⟩ bN bK
 refine zF (sR fL5 Z (oM Z bi (oR Z (zJ Z bh zE Z Zd) (oL Z (bt.ldB (j:=0) Z Z Z Zj (v:=.slice am p0.Across.length ap) Z) (oR Z (ZA Z Z ZT) (oR Z (zh Z Z Z) (eN ?_)))))))
 by_cases ak:bv < (↑p0.Across.length:Int)
 have bM:=bN;rw [if_pos ak] at bM;replace ak:=zO ak
 refine cT Z ak (kN (zF (zj (zF (ZK ZL [3,1,3,3,3,1,3,1,3,3,1,2,3] (wNG (.fx 11 (.fl 12 .nil) .stop)) (by kernel_rfl) ?_)))))
 have av:=bt.drew
 generalize hw_W96:({ bC with drawn:=bC.drawn + 1 }:World)=bS at av ⊢
 refine oR Z (zJ Z bh zE Z Zd) (oL Z (av.ldB (j:=0) Z Z Z Zj (v:=.slice am p0.Across.length ap) Z) (oM Z bi (oR Z (ZY Z Z Z) (bnK bM fun x97 bq dk=>?_))))
 have bV:=bF.le dr
 have bE:=bV.le bP
 have q:=bE.el (fun _=>rfl) (wBo bq)
 obtain ⟨dD,dF,cn,cq⟩:=q
 refine oR Z (ZQ Z Z cn Z ZT ZS (wEY bq) (wEz bq)) (oL Z (av.ldCA (f:=0) cq Z Z Zm ZS (us:=[jV x97.Skier,jV x97.Lane]) Z Z) (oR Z (zJ Z bh zE Z Zd) (oL Z (av.ldB (j:=0) Z Z Z Zj (v:=.slice am p0.Across.length ap) Z) (oM Z bi (bnK dk fun x106 bp cK=>?_)))))
 have q:=bE.el (fun _=>rfl) (wBo bp)
 obtain ⟨dE,dG,cp,cr⟩:=q
 refine oR Z (ZQ Z Z cp Z ZT ZS (wEY bp) (wEz bp)) (oL Z (av.ldCA (f:=0) cr Z Z Zm ZS (us:=[jV x106.Skier,jV x106.Lane]) Z Z) (bnK cK fun x113 bW cM=>zH 0 Z Z Z Z (zG Z Z Try.call113 (zA Z (zA Z zQ)) Z) av (fun hs=>wHs x97 x106 bS bz hs bW) (.inr Z) ?_))
 rintro bj dv dH bQ dm cy ⟨rfl,rfl⟩
 have bH:sW w U bj [.blk b2 26 B0] bQ:=cy
 refine oR Z (ZE Z Z) (eN (ifc cM ?_ ?_))
 intro bl cN
 refine zg (nC bl.out) (ZJ (zm (zL (rR fL3 Z (oM Z bi (oR Z (zd Z Z Z) (oA Z Z (zr ?_))))))))
 have q:=nD cN
 obtain rfl:=q
 exact zL ⟨Z,_,Z,⟨bj,bh,Z,(bP.trans dm),bH⟩⟩
 intro bl cO
 refine zt (nF (bl.out)) (sR fL1 Z (oA Z Z (eN (zR (zw (zW ?_))))))
 have q:=wBh cO
 obtain ⟨dt,cP,bT⟩:=q
 have q:=bK dt bT
 obtain rfl:=q
 refine zW (zw (zW ?_))
 cases cP
 exact ⟨rfl,_,(zx rfl),bj,_,(bH.pick [] _ (by decide) rfl),rfl,rfl⟩
 have bL:=bN;rw [if_neg ak] at bL;replace ak:=zO ak
 refine cF Z ak (ZV (zu ?_))
 have q:=wBh bL
 obtain ⟨du,cQ,bU⟩:=q
 have q:=bK du bU
 obtain rfl:=q
 refine zu (ZM (zL (sR fL1 Z (oA Z Z (eN (zR ?_))))))
 cases cQ
 exact ⟨rfl,_,(zx rfl),bz,_,(bt.pick [] _ (by decide) rfl),rfl,rfl⟩
 intro bo cR
 refine zt (nF (bo.out)) (sR fL1 Z (oA Z Z (eN (zR (zw (zW ?_))))))
 cases cR
 exact ⟨rfl,_,(zx rfl),bg,_,(bJ.pick [] _ (by decide) rfl),rfl,rfl⟩
 intro bn cS
 refine zt (nF (bn.out)) (sR fL1 Z (oA Z Z (eN (zR (zw (zW ?_))))))
 cases cS
 exact ⟨rfl,_,(zx rfl),bw,_,(bs.pick [] _ (by decide) rfl),rfl,rfl⟩
 intro ae cU
 refine zI Z Z Z (zP Z Z (nF (ae.out)) Z) (zI Z Z Z (zP Z Z (nF (ae.out)) Z) (Za Z Z Z (zP Z Z (nF (ae.out)) Z) (zI Z Z Z (zP Z Z (nF (ae.out)) Z) (oR Z (zS Z (nF (ae.out)) Z) (oA Z Z (eN (zt Z (sR fL1 Z (oA Z Z (eN (zR (zw (zW ?_)))))))))))))
 cases cU
 exact ⟨rfl,_,(zx rfl),be,_,(br.pick [] _ (by decide) rfl),rfl,rfl⟩
 intro bm cV
 refine cT Z bm (sR fL1 Z (oA Z Z (eN (zR (zw (zW ?_))))))
 cases cV
 exact ⟨rfl,_,(zx rfl),aZ,_,(au.pick [] _ (by decide) rfl),rfl,rfl⟩
 intro ab cW
 refine zI Z Z Z (zP Z Z (nF (ab.out)) Z) (zI Z Z Z (zP Z Z (nF (ab.out)) Z) (zI Z Z Z (zP Z Z (nF (ab.out)) Z) (zI Z Z Z (zP Z Z (nF (ab.out)) Z) (zI Z Z Z (zP Z Z (nF (ab.out)) Z) (oR Z (zS Z (nF (ab.out)) Z) (oA Z Z (eN (zt Z (sR fL1 Z (oA Z Z (eN (zR (zw (zW ?_))))))))))))))
 cases cW
 exact ⟨rfl,_,(zx rfl),aZ,_,(au.pick [] _ (by decide) rfl),rfl,rfl⟩
theorem wDG (p0:wAC) (aq:Option Addr) (au:Nat) (az:Option Addr) (aV:Nat) (ak:Option Addr) (am:Nat) (w:World) (U:PHeap) (hS:St0 w U []) (cO:Sl U 1 aq au p0.Shots.length (hH KL.encI p0.Shots)) (cP:Sl U 1 az aV p0.Down.length (hH KL.encI p0.Down)) (bL:Sl U 2 ak am p0.Across.length (hH wAB p0.Across)) {r:wAD} (hm:wBa p0=some r):Gv Try.prog 45 [.agg #[.slice aq p0.Shots.length au,.slice az p0.Down.length aV,.slice ak p0.Across.length am]] w (wCY w [] U (fun U_ L_ v=>∃ (b0:Nat) (A0p00:Option Addr) (c0p00:Nat) (A0p01:Option Addr) (c0p01:Nat) (A0p02:Option Addr) (c0p02:Nat) (m0p1:Nat) (es0p1:Array MapEntry) (ck0p1:Nat),v=.pointer (some ⟨b0,0,none⟩)/\L_=[.blk b0 99 ([.slice A0p00 r.Bout.Shots.length c0p00,.slice A0p01 r.Bout.Down.length c0p01,.slice A0p02 r.Bout.Across.length c0p02,.map (some m0p1)] ++ ((hH KL.encI r.hits.l) ++ ((hH KL.encI r.used.l) ++ (hH KL.encT r.met.l)))),.obj m0p1 (.map es0p1 ck0p1)]/\Sl U_ 1 A0p00 c0p00 r.Bout.Shots.length (hH KL.encI r.Bout.Shots)/\Sl U_ 1 A0p01 c0p01 r.Bout.Down.length (hH KL.encI r.Bout.Down)/\Sl U_ 2 A0p02 c0p02 r.Bout.Across.length (hH wAB r.Bout.Across)/\MpR es0p1 wFL wFc r.may)):=by
 unfold wBa at hm
 refine Gv.of Try.func45 Z Try.ntmps45 Try.results45 Z (sR gAg Z ?_)
 let B0:List Value:=[.slice aq p0.Shots.length au,.slice az p0.Down.length aV,.slice ak p0.Across.length am]
 refine ZH (cs:=B0) rfl rfl rfl rfl rfl rfl (by rfl) hS ?_
 intro W1 b2 bI
 refine oA Z Z (eN (sR (.fl 0 (.fx 1 (.fl 2 gAj) .stop)) Z (oL Z (bI.ldBA (j:=0) Z Z Z ZD zZ (vs:=B0) Z Z) (OKS.makeMap Z Z Z Z Z bI ?_))))
 intro W5 b6 cN
 have de:=MpR.nil wFL wFc
 let B1:List Value:=[.slice aq p0.Shots.length au,.slice az p0.Down.length aV,.slice ak p0.Across.length am,.map (some b6),jV 0,jV 0,jV 0,jV 0,jV 0,jV 0,jV 0,jV 0,jV 0,jV 0,jV 0,jV 0,jV 0,jV 0,jV 0,jV 0,jV 0,jV 0,jV 0,jV 0,jV 0,jV 0,jV 0,jV 0,jV 0,jV 0,jV 0,jV 0,jV 0,jV 0,jV 0,jV 0,jV 0,jV 0,jV 0,jV 0,jV 0,jV 0,jV 0,jV 0,jV 0,jV 0,jV 0,jV 0,jV 0,jV 0,jV 0,jV 0,jV 0,jV 0,jV 0,jV 0,jV 0,jV 0,jV 0,jV 0,jV 0,jV 0,jV 0,jV 0,jV 0,jV 0,jV 0,jV 0,jV 0,jV 0,jV 0,jV 0,jV 0,jV 0,jV 0,jV 0,.bool false,.bool false,.bool false,.bool false,.bool false,.bool false,.bool false,.bool false,.bool false,.bool false,.bool false,.bool false,.bool false,.bool false,.bool false,.bool false]
 refine zN rfl rfl rfl rfl (fun _=>ZN (pv:=[(0,.agg B0.toArray),(1,.map (some b6))]) (z:=[.slice none 0 0,.slice none 0 0,.slice none 0 0,.map none,jV 0,jV 0,jV 0,jV 0,jV 0,jV 0,jV 0,jV 0,jV 0,jV 0,jV 0,jV 0,jV 0,jV 0,jV 0,jV 0,jV 0,jV 0,jV 0,jV 0,jV 0,jV 0,jV 0,jV 0,jV 0,jV 0,jV 0,jV 0,jV 0,jV 0,jV 0,jV 0,jV 0,jV 0,jV 0,jV 0,jV 0,jV 0,jV 0,jV 0,jV 0,jV 0,jV 0,jV 0,jV 0,jV 0,jV 0,jV 0,jV 0,jV 0,jV 0,jV 0,jV 0,jV 0,jV 0,jV 0,jV 0,jV 0,jV 0,jV 0,jV 0,jV 0,jV 0,jV 0,jV 0,jV 0,jV 0,jV 0,jV 0,jV 0,jV 0,jV 0,.bool false,.bool false,.bool false,.bool false,.bool false,.bool false,.bool false,.bool false,.bool false,.bool false,.bool false,.bool false,.bool false,.bool false,.bool false,.bool false]) (cs:=B1) rfl (wAb rfl (wAb rfl wAz)) Try.zeroValue99 wNl rfl rfl) (ZH (cs:=B1) rfl rfl rfl rfl rfl rfl (by rfl) cN ?_)
 intro dm ai bH
 refine oA Z Z (eN (zF (sR fL4 Z (oR Z (zJ Z Z zE Z zY) (oL Z (bH.ldB (j:=2) Z Z Z zi (v:=.slice aq p0.Shots.length au) Z) (oR Z (ZA Z Z zB) (oM Z Z (eN (zj (bnK hm fun dD cQ cY=>?_))))))))))
 have q:=wBz cQ
 obtain ⟨bk,cR⟩:=q
 replace bk:=zO bk
 refine CK.forN' (fun ab bM σ_ w_=>∃ (U_:PHeap) (bf:Array MapEntry) (bu:Nat),σ_ 14=jV (↑ab:Int)/\σ_ 1=.pointer (some ⟨b2,0,none⟩)/\σ_ 3=.pointer (some ⟨ai,0,none⟩)/\σ_ 13=jV (↑p0.Shots.length:Int)/\PHeap.Le U U_/\sW w U U_ [.blk ai 99 B1,.obj b6 (.map bf bu),.blk b2 26 B0] w_/\MpR bf wFL wFc bM) cR ?_ ?_ ?_
 exact ⟨U,#[],0,Z,Z,Z,Z,(zk _),bH,de⟩
 rintro ab bM dB dG dt bj ⟨bn,bf,bu,bh,b5,bD,bE,dh,bJ,cz⟩ df
 have bs:Hid ((↑ab:Int) < (↑p0.Shots.length:Int)):=zO (wCJ bj)
 replace bj:=zO bj
 have cW:Hid (w64 ((↑ab:Int) + 1)=(↑(ab + 1):Int)):=zO (by have h1:=bk.out;have h2:=bs.out;rw [wAX] <;> omega)
 refine sR fL1 rfl (zN rfl rfl rfl rfl (fun _=>zh rfl bh bE) (eN (zF (cT Z bs (kN (zF (zj (sR fL2 rfl (zV rfl rfl rfl rfl rfl bh (OKS.ra rfl rfl rfl rfl rfl rfl (eN (rR (wHF (.fx 7 .nil .stop)) rfl (zV rfl rfl rfl rfl rfl bD (zN rfl rfl rfl rfl (fun _=>zl rfl rfl) (zN rfl rfl rfl rfl (fun _=>zJ rfl rfl zU rfl Try.sizeOf92) (zq rfl rfl rfl rfl (bJ.ldB (j:=0) rfl rfl rfl Try.isAgg92 (v:=.map (some b6)) rfl) rfl (zV rfl rfl rfl rfl rfl rfl (zV rfl rfl rfl rfl rfl rfl (zN rfl rfl rfl rfl (fun _=>ZN (pv:=[(0,jV (↑ab:Int)),(1,jV (↑ab:Int))]) (z:=[jV 0,jV 0]) (cs:=[jV (↑ab:Int),jV (↑ab:Int)]) rfl (wAb rfl (wAb rfl wAz)) Zf wDm rfl rfl) (OKS.mapPut (x:=.tmp 20) (y:=.tmp 23) (j:=1) (mk:=wFL) (mv:=wFc) (a:=(⟨(↑ab:Int),(↑ab:Int)⟩:wAA)) (v:=true) rfl rfl rfl (by first | exact .inl rfl | exact .inr rfl) bJ rfl rfl rfl rfl (wDq Try.runUnderlying92) wIb cz rfl ?_))))))))))))))))))))
 intro bz bv bR db cK
 have cM:sW w U bn [.blk ai 99 B1,.obj b6 (.map bz bv),.blk b2 26 B0] bR:=cK
 refine zr (zm (zL (rR fL2 Z (oR Z (ZC (zd Z bh Z) (congrArg (jV) cW.out)) (oM Z Z (zr ?_))))))
 cases df
 exact zL ⟨Z,⟨bn,bz,bv,Z,b5,bD,bE,dh,cM,db⟩⟩
 rintro dH dv ⟨bo,bX,bU,ci,b9,cb,cf,aZ,bK,cA⟩
 have bV:Hid (¬ ((↑(((↑p0.Shots.length:Int):Int) - 0).toNat:Int) < (↑p0.Shots.length:Int))):=zO (wBe)
 refine sR fL1 Z (oR Z (zh Z ci cf) (eN (zF (cF Z bV (ZV (zu (zu (ZM (zL (zF (sR fL4 Z (oR Z (zJ Z b9 zE Z Zd) (oL Z (bK.ldB (j:=2) Z Z Z Zj (v:=.slice ak p0.Across.length am) Z) (oR Z (ZA Z Z ZT) (oM Z Z (eN (zj (bnK cY fun dE cS cZ=>?_))))))))))))))))))
 have q:=wBz cS
 obtain ⟨bl,cU⟩:=q
 replace bl:=zO bl
 refine CK.forN' (fun av bN σ_ w_=>∃ (U_:PHeap) (aX:Array MapEntry) (be:Nat),σ_ 28=jV (↑av:Int)/\σ_ 3=.pointer (some ⟨ai,0,none⟩)/\σ_ 26=.slice ak p0.Across.length am/\σ_ 27=jV (↑p0.Across.length:Int)/\PHeap.Le bo U_/\sW w U U_ [.blk ai 99 B1,.obj b6 (.map aX be),.blk b2 26 B0] w_/\MpR aX wFL wFc bN) cU ?_ ?_ ?_
 exact ⟨bo,bX,bU,Z,cb,Z,Z,(zk _),bK,cA⟩
 rintro av bN dC dI dw bi ⟨ba,aX,be,bg,bA,bB,bC,bO,bG,cj⟩ dg
 have br:Hid ((↑av:Int) < (↑p0.Across.length:Int)):=zO (wCJ bi)
 replace bi:=zO bi
 have cV:Hid (w64 ((↑av:Int) + 1)=(↑(av + 1):Int)):=zO (by have h1:=bl.out;have h2:=br.out;rw [wAX] <;> omega)
 refine sR fL1 Z (oR Z (zh Z bg bC) (eN (zF (cT Z br (kN (zF (zj (sR gAq Z (bnK dg fun x112 bF cX=>?_)))))))))
 have cn:=bL.le aZ
 have cp:=cn.le bO
 have q:=cp.el (fun _=>rfl) (wBo bF)
 obtain ⟨dx,dA,cB,cC⟩:=q
 refine oR Z (Zb Z bB cB bg ZT ZS (wEZ bF)) (oL Z (bG.ldCA (f:=0) cC Z Z Zm ZS (us:=[jV x112.Skier,jV x112.Lane]) Z Z) (ZW (cs:=[jV 0,jV 0]) Z Z Z Z Z Zf Z bG ?_))
 intro dp bq cD
 let B2:List Value:=[jV x112.Skier,jV x112.Lane]
 refine ZB (j:=0) (vs:=B2) Z Z Z Z cD Z Z Z Z ZS (zC Z) Z Z Z ?_
 intro bb cE
 have cG:sW w U ba [.blk bq 35 B2,.blk ai 99 B1,.obj b6 (.map aX be),.blk b2 26 B0] bb:=cE
 refine eN (ZK ZL [3,3,3,1,1,0] (wGw (.fx 5 .nil .stop)) (by kernel_rfl) ?_)
 have aY:=cG.drew
 generalize hw_W129:({ bb with drawn:=bb.drawn + 1 }:World)=dq at aY ⊢
 refine zV rfl rfl rfl rfl rfl bA (zN rfl rfl rfl rfl (fun _=>zl rfl rfl) (zN rfl rfl rfl rfl (fun _=>zJ rfl rfl zU rfl Try.sizeOf92) (zq rfl rfl rfl rfl (aY.ldB (j:=1) rfl rfl rfl Try.isAgg92 (v:=.map (some b6)) rfl) rfl (zq rfl rfl rfl rfl (aY.ldBA (j:=0) rfl rfl rfl Zm ZS (vs:=B2) rfl rfl) rfl (OKS.mapPut (x:=.tmp 35) (y:=.tmp 36) (j:=2) (mk:=wFL) (mv:=wFc) (a:=x112) (v:=true) rfl rfl rfl (by first | exact .inl rfl | exact .inr rfl) aY rfl rfl rfl rfl (wDq Try.runUnderlying92) wIb cj rfl ?_)))))
 intro bw bt bQ da cH
 have cI:sW w U ba [.blk bq 35 B2,.blk ai 99 B1,.obj b6 (.map bw bt),.blk b2 26 B0] bQ:=cH
 refine zr (zm (zL (rR fL2 Z (oR Z (ZC (zd Z bg Z) (congrArg (jV) cV.out)) (oM Z Z (zr ?_))))))
 cases cX
 exact zL ⟨rfl,⟨ba,bw,bt,rfl,bA,bB,bC,bO,(cI.pick [1,2,3] _ (by decide) rfl),da⟩⟩
 rintro dF dr ⟨bP,bW,bS,cg,bY,dy,bZ,bm,cJ,cq⟩
 have bT:Hid (¬ ((↑(((↑p0.Across.length:Int):Int) - 0).toNat:Int) < (↑p0.Across.length:Int))):=zO (wBe)
 refine sR fL1 Z (oR Z (zh Z cg bZ) (eN (zF (cF Z bT (ZV (zu (zu (ZM (zL (sR fL2 Z (oM Z bY (oA Z Z (eN (zR ?_))))))))))))))
 have cr:=cO.le aZ
 have ct:=cr.le bm
 have cu:=cP.le aZ
 have cw:=cu.le bm
 have cx:=bL.le aZ
 have cy:=cx.le bm
 cases cZ
 exact ⟨rfl,_,(zx rfl),bP,_,(cJ.pick [0,1] _ (by decide) rfl),ai,aq,au,az,aV,ak,am,b6,bW,bS,rfl,rfl,ct,cw,cy,cq⟩
end Go.Proofs.Ytfcmijinklojbaa
namespace Go.Proofs.Ytfcmijinklojbaa
open Go.KL
set_option maxHeartbeats 4000000
theorem wCQ (p0:wAC) (ah:Option Addr) (ak:Nat) (ai:Option Addr) (am:Nat) (aj:Option Addr) (ap:Nat) (w:World) (U:PHeap) (hS:St0 w U []) (bm:Sl U 1 ah ak p0.Shots.length (hH KL.encI p0.Shots)) (bn:Sl U 1 ai am p0.Down.length (hH KL.encI p0.Down)) (bo:Sl U 2 aj ap p0.Across.length (hH wAB p0.Across)) {r:(Option wAD) × Int} (hm:wBI p0=some r):Gv Try.prog 69 [.agg #[.slice ah p0.Shots.length ak,.slice ai p0.Down.length am,.slice aj p0.Across.length ap]] w (wCY w [] U (fun U_ L_ v=>match r.1 with | none=>v=.tuple #[.pointer none,jV r.2]/\L_=[] | some d=>∃ (b0:Nat) (A0p00:Option Addr) (c0p00:Nat) (A0p01:Option Addr) (c0p01:Nat) (A0p02:Option Addr) (c0p02:Nat) (m0p1:Nat) (es0p1:Array MapEntry) (ck0p1:Nat),v=.tuple #[.pointer (some ⟨b0,0,none⟩),jV r.2]/\L_=[.blk b0 99 ([.slice A0p00 d.Bout.Shots.length c0p00,.slice A0p01 d.Bout.Down.length c0p01,.slice A0p02 d.Bout.Across.length c0p02,.map (some m0p1)] ++ ((hH KL.encI d.hits.l) ++ ((hH KL.encI d.used.l) ++ (hH KL.encT d.met.l)))),.obj m0p1 (.map es0p1 ck0p1)]/\Sl U_ 1 A0p00 c0p00 d.Bout.Shots.length (hH KL.encI d.Bout.Shots)/\Sl U_ 1 A0p01 c0p01 d.Bout.Down.length (hH KL.encI d.Bout.Down)/\Sl U_ 2 A0p02 c0p02 d.Bout.Across.length (hH wAB d.Bout.Across)/\MpR es0p1 wFL wFc d.may)):=by
 unfold wBI at hm
 refine Gv.of Try.func69 Z Try.ntmps69 Try.results69 Z (sR gAo Z ?_)
 let B0:List Value:=[.slice ah p0.Shots.length ak,.slice ai p0.Down.length am,.slice aj p0.Across.length ap]
 refine ZH (cs:=B0) rfl rfl rfl rfl rfl rfl (by rfl) hS ?_
 intro W1 b2 bl
 refine oA Z Z (oA Z Z (eN (zF (sR gAl Z (oL Z (bl.ldBA (j:=0) Z Z Z ZD zZ (vs:=B0) Z Z) (bnK hm fun x5 h6 bI=>zH 0 Z Z Z Z (zG Z Z Try.call95 (zA Z zQ) Z) bl (fun hs=>wHC p0 ah ak ai am aj ap W1 U hs bm bn bo h6) (.inr Z) ?_))))))
 rintro U8 L9 bM ba az bC ⟨rfl,rfl⟩
 have av:sW w U U8 [.blk b2 26 B0] ba:=bC
 refine oA Z Z (eN (sR fL2 Z (oM Z Z (oR Z (zy Z Z Z) (eN (ifc bI ?_ ?_))))))
 intro au bF
 refine zg (zf (fun h=>h au.out)) (kN (sR gAr Z (oL Z (av.ldBA (j:=0) Z Z Z ZD zZ (vs:=B0) Z Z) ?_)))
 have br:=bm.le az
 have bs:=bn.le az
 have bt:=bo.le az
 refine bnK bF fun ab bu bG=>zH 0 Z Z Z Z (zG Z Z Try.call45 (zA Z zQ) Z) av (fun hs=>wDG p0 ah ak ai am aj ap ba U8 hs br bs bt bu) (.inr Z) ?_
 rintro aZ bJ bN bq bL bD ⟨bf,aW,bg,aX,bh,aY,bi,aV,bk,bj,rfl,rfl,bv,bw,bz,bA⟩
 have bE:sW w U aZ [.blk bf 99 ([.slice aW ab.Bout.Shots.length bg,.slice aX ab.Bout.Down.length bh,.slice aY ab.Bout.Across.length bi,.map (some aV)] ++ ((hH KL.encI ab.hits.l) ++ ((hH KL.encI ab.used.l) ++ (hH KL.encT ab.met.l)))),.obj aV (.map bk bj),.blk b2 26 B0] bq:=bD
 refine oA Z Z (oA Z Z (eN (zR ?_)))
 cases bG
 exact ⟨rfl,_,(wFh rfl rfl),aZ,_,(bE.pick [0,1] _ (by decide) rfl),bf,aW,bg,aX,bh,aY,bi,aV,bk,bj,rfl,rfl,bv,bw,bz,bA⟩
 intro au bH
 refine cT Z au (sR fL3 Z (oM Z Z (oA Z Z (oA Z Z (eN (zR (zW ?_)))))))
 cases bH
 exact ⟨rfl,_,(wFh rfl rfl),U8,_,(av.pick [] _ (by decide) rfl),rfl,rfl⟩
theorem wCk (p0:wAD) (am:Nat) (ai:Option Addr) (ap:Nat) (aj:Option Addr) (aq:Nat) (ak:Option Addr) (au:Nat) (ab:Nat) (av:Array MapEntry) (az:Nat) (p1:Int) (p2:Int) (w:World) (U:PHeap) (hS:St0 w U [.blk am 99 ([.slice ai p0.Bout.Shots.length ap,.slice aj p0.Bout.Down.length aq,.slice ak p0.Bout.Across.length au,.map (some ab)] ++ ((hH KL.encI p0.hits.l) ++ ((hH KL.encI p0.used.l) ++ (hH KL.encT p0.met.l)))),.obj ab (.map av az)]) (aW:Sl U 1 ai ap p0.Bout.Shots.length (hH KL.encI p0.Bout.Shots)) (aX:Sl U 1 aj aq p0.Bout.Down.length (hH KL.encI p0.Bout.Down)) (aY:Sl U 2 ak au p0.Bout.Across.length (hH wAB p0.Bout.Across)) (aV:MpR av wFL wFc p0.may) {r:Bool} (hm:wAp p0 p1 p2=some r):Gv Try.prog 78 [.pointer (some ⟨am,0,none⟩),jV p1,jV p2] w (wCY w [.blk am 99 ([.slice ai p0.Bout.Shots.length ap,.slice aj p0.Bout.Down.length aq,.slice ak p0.Bout.Across.length au,.map (some ab)] ++ ((hH KL.encI p0.hits.l) ++ ((hH KL.encI p0.used.l) ++ (hH KL.encT p0.met.l)))),.obj ab (.map av az)] U (fun U_ L_ v=>v=.bool r/\L_=[.blk am 99 ([.slice ai p0.Bout.Shots.length ap,.slice aj p0.Bout.Down.length aq,.slice ak p0.Bout.Across.length au,.map (some ab)] ++ ((hH KL.encI p0.hits.l) ++ ((hH KL.encI p0.used.l) ++ (hH KL.encT p0.met.l)))),.obj ab (.map av az)])):=by
 unfold wAp at hm
 refine Gv.of Try.func78 Z Try.ntmps78 Try.results78 Z (sR fL1 Z (oA Z Z (eN (sR fL9 Z (oM Z Z (oR Z (zl Z Z) (oR Z (zJ Z Z zU Z Try.sizeOf92) (oL Z (hS.ldB (j:=0) Z Z Z Try.isAgg92 (v:=.map (some ab)) Z) (oM Z Z (oM Z Z (oR Z (ZN (pv:=[(0,jV p1),(1,jV p2)]) (z:=[jV 0,jV 0]) (cs:=[jV p1,jV p2]) Z (wAb Z (wAb Z wAz)) Zf wDm Z Z) (oL Z (hS.lookup1 (j:=1) (mk:=wFL) (mv:=wFc) (a:=(⟨p1,p2⟩:wAA)) (z:=false) Z Z Z Z (wDq Try.runUnderlying92) wIb Try.zeroValue4 aV) (oA Z Z (eN (zR ?_)))))))))))))))
 cases hm
 exact ⟨Z,_,(zx Z),U,_,hS,Z,Z⟩
theorem wET (p0:wAD) (am:Nat) (ai:Option Addr) (ap:Nat) (aj:Option Addr) (aq:Nat) (ak:Option Addr) (au:Nat) (ah:Nat) (aV:Array MapEntry) (aW:Nat) (p1:Int) (p2:Int) (w:World) (U:PHeap) (hS:St0 w U []) (av:Cl U am 0 ([.slice ai p0.Bout.Shots.length ap,.slice aj p0.Bout.Down.length aq,.slice ak p0.Bout.Across.length au,.map (some ah)] ++ ((hH KL.encI p0.hits.l) ++ ((hH KL.encI p0.used.l) ++ (hH KL.encT p0.met.l))))) (aX:Sl U 1 ai ap p0.Bout.Shots.length (hH KL.encI p0.Bout.Shots)) (aY:Sl U 1 aj aq p0.Bout.Down.length (hH KL.encI p0.Bout.Down)) (aZ:Sl U 2 ak au p0.Bout.Across.length (hH wAB p0.Bout.Across)) (az:MpF U ah aV aW wFL wFc p0.may) {r:Bool} (hm:wBk p0 p1 p2=some r):Gv Try.prog 78 [.pointer (some ⟨am,0,none⟩),jV p1,jV p2] w (wCY w [] U (fun U_ L_ v=>v=.bool r/\L_=[])):=by
 unfold wBk at hm
 refine Gv.of Try.func78 Z Try.ntmps78 Try.results78 Z (sR fL1 Z (oA Z Z (eN (sR fL9 Z (oM Z Z (oR Z (zl Z Z) (oR Z (zJ Z Z zU Z Try.sizeOf92) (oL Z (hS.ldC (f:=3) av (v:=.map (some ah)) Z Z Try.isAgg92 Z) (oM Z Z (oM Z Z (oR Z (ZN (pv:=[(0,jV p1),(1,jV p2)]) (z:=[jV 0,jV 0]) (cs:=[jV p1,jV p2]) Z (wAb Z (wAb Z wAz)) Zf wDm Z Z) (oL Z (hS.lookupF1 (mk:=wFL) (mv:=wFc) (a:=(⟨p1,p2⟩:wAA)) (z:=false) az Z Z Z (wDq Try.runUnderlying92) wIb Try.zeroValue4) (oA Z Z (eN (zR ?_)))))))))))))))
 cases hm
 exact ⟨Z,_,(zx Z),U,_,hS,Z,Z⟩
theorem wEI {S E:Type} (PY:S->PHeap->List Res->Prop) (PE:E->PHeap->List Res->Prop) (f:S->Int->Option (S ⊕ E)) (y:Nat) (s0:S) (p1:wAD) (bz:Nat) (ai:Nat) (bj:Option Addr) (bn:Nat) (av:Option Addr) (az:Nat) (bk:Option Addr) (bo:Nat) (bq:Nat) (bp:Array MapEntry) (bA:Nat) (p2:Unit) (bl:Nat) (p3:Int) (bm:Nat) (w:World) (L:List Res) (U:PHeap) (hS:St ⟨w,L,U⟩ U L w) (hP:PY s0 U L) (hY:YOK Try.prog y wKh PY PE f U) (hV:∀ s_ U_ L_,PY s_ U_ L_->∃ (i_ j_:Nat) (a0_:Arr Int 64) (a1_:Arr Int 8) (a2_:Arr Bool 16),L_[i_]?=some (.blk ai 99 ([.slice bj p1.Bout.Shots.length bn,.slice av p1.Bout.Down.length az,.slice bk p1.Bout.Across.length bo,.map (some bq)] ++ ((hH KL.encI a0_.l) ++ ((hH KL.encI a1_.l) ++ (hH KL.encT a2_.l)))))/\L_[j_]?=some (.obj bq (.map bp bA))) (bZ:Cl U bz 0 [.pointer (some ⟨ai,0,none⟩)]) (b5:Sl U 1 bj bn p1.Bout.Shots.length (hH KL.encI p1.Bout.Shots)) (b9:Sl U 1 av az p1.Bout.Down.length (hH KL.encI p1.Bout.Down)) (cb:Sl U 2 bk bo p1.Bout.Across.length (hH wAB p1.Bout.Across)) (cf:MpR bp wFL wFc p1.may) (cg:Cl U bl 0 [.func (.func 78) #[.pointer (some ⟨ai,0,none⟩)] #[]]) (ci:Cl U bm 0 [jV p3]) {r:S ⊕ E} (hm:wAk f s0 p1 p2 p3=some r):Gv Try.prog 83 [.func (.yield y) #[] #[],.pointer (some ⟨bz,0,none⟩),.pointer (some ⟨bl,0,none⟩),.pointer (some ⟨bm,0,none⟩)] w (ItS w L U PY PE r):=by
 unfold wAk at hm
 refine Gv.of Try.func83 Z Try.ntmps83 Try.results83 Z (sR fL7 Z (oL Z (hS.ldC (f:=0) bZ (v:=.pointer (some ⟨ai,0,none⟩)) Z Z ZI Z) (oR Z (zl Z Z) (oR Z (zJ Z Z zU Z zZ) (oR Z (zJ Z Z zE Z zY) ?_)))))
 have q:=hV _ _ _ hP
 obtain ⟨i2,j3,a6,a7,a8,cq,cU⟩:=q
 refine oL Z (hS.ldB (j:=i2) cq Z Z zi (v:=.slice av p1.Bout.Down.length az) Z) (oR Z (ZA Z Z zB) (oM Z Z (eN (zj ?_))))
 have q:=wDe hm
 obtain ⟨cX,bf⟩:=q
 have q:=wDd bf
 obtain ⟨bi,cp⟩:=q
 replace bi:=zO bi
 refine CK.forN (fun ah bC σ_ w_=>∃ (U_:PHeap) (aj:List Res),σ_ 12=jV (↑ah:Int)/\σ_ 0=.func (.yield y) #[] #[]/\σ_ 2=.pointer (some ⟨bl,0,none⟩)/\σ_ 3=.pointer (some ⟨bm,0,none⟩)/\σ_ 11=jV (↑p1.Bout.Down.length:Int)/\PHeap.Le U U_/\St ⟨w,L,U⟩ U_ aj w_/\PY bC U_ aj) cp ?_ ?_ ?_
 exact ⟨U,L,Z,Z,Z,Z,Z,(zk _),hS,hP⟩
 rintro ah bC cY da bE bh ⟨aW,aj,am,aX,aY,aZ,ba,ae,be,bb⟩ cA cj
 have bs:Hid ((↑ah:Int) < (↑p1.Bout.Down.length:Int)):=zO (wCJ bh)
 replace bh:=zO bh
 have bv:Hid (w64 ((↑ah:Int) + 1)=(↑(ah + 1):Int)):=zO (by have h1:=bi.out;have h2:=bs.out;rw [wAX] <;> omega)
 refine sR fL1 Z (oR Z (zh Z am ba) (eN (zF (cT Z bs (kN (zF (zj (sR fL2 Z (oM Z am (oA Z Z (eN (sR (wDo (.fx 3 (wRS (.fx 7 gAf .stop)) .stop)) Z ?_))))))))))))
 have bO:=cg.le ae
 refine oL Z (be.ldC (f:=0) bO (v:=.func (.func 78) #[.pointer (some ⟨ai,0,none⟩)] #[]) Z aY Try.isAgg131 Z) ?_
 have bP:=ci.le ae
 refine oL Z (be.ldC (f:=0) bP (v:=jV p3) Z aZ zM Z) (oM Z Z ?_)
 have q:=hV _ _ _ bb
 obtain ⟨cB,cC,bG,bH,bI,bg,bw⟩:=q
 have bQ:=b5.le ae
 have bR:=b9.le ae
 have bS:=cb.le ae
 refine bnK cA fun x55 bT ct=>OKS.callP (i1:=cB) (i2:=cC) (v0:=.bool x55) rfl rfl rfl rfl (zG rfl rfl Try.call78 (zA rfl (zA rfl zQ)) rfl) be bg bw (fun e=>by rw [e,bw] at bg;cases bg) (fun hs=>wCk (⟨p1.Bout,p1.may,bG,bH,bI⟩:wAD) ai bj bn av az bk bo bq bp bA p3 (↑ah:Int) bE aW hs bQ bR bS cf bT) rfl ?_
 intro bF bV
 have bt:St ⟨w,L,U⟩ aW aj bF:=bV
 refine oM Z Z (ifc ct ?_ ?_)
 intro ab cu
 refine zV Z Z Z (zK Z Z (congrArg nA ab.out)) Z aX (zV Z Z Z (zK Z Z (congrArg nA ab.out)) Z Z (bnK cu fun cI bU aq=>OKS.yieldT 0 (a:=(↑ah:Int)) Z Z Z (zK Z Z (congrArg nA ab.out)) Z Z (zA Z zQ) bt hY ae bb Z bU Z ?_))
 rintro ak aV cP br cD bu ap
 rcases cI with cG | cG
 try dsimp only at aq ap
 obtain ⟨rfl,cy⟩:=ap
 have bW:St ⟨w,L,U⟩ ak aV br:=bu
 refine zN Z Z Z (zK Z Z (congrArg nA ab.out)) (fun _=>ZE Z Z) (oR Z (zS Z (congrArg nA ab.out) Z) (eN (zg Z (ZJ (zm (zL (rR fL2 Z (oR Z (ZC (zd Z am Z) (congrArg (jV) bv.out)) (oM Z Z (zr ?_))))))))))
 have q:=nD aq
 obtain rfl:=q
 exact zL ⟨Z,_,Z,⟨ak,aV,Z,aX,aY,aZ,ba,(ae.trans cD),bW,cy⟩⟩
 try dsimp only at aq ap
 obtain ⟨rfl,cz⟩:=ap
 have bX:St ⟨w,L,U⟩ ak aV br:=bu
 refine zN Z Z Z (zK Z Z (congrArg nA ab.out)) (fun _=>ZE Z Z) (oR Z (zS Z (congrArg nA ab.out) Z) (eN (zt Z (zR (zw (zW ?_))))))
 have q:=wBh aq
 obtain ⟨cH,cw,bK⟩:=q
 have q:=wDK hm bf (cj cH bK)
 obtain rfl:=q
 refine zW (zw ?_)
 cases cw
 exact ⟨Z,_,(res0),ak,_,bX,cz⟩
 intro ab cx
 refine zI Z Z Z (zP Z Z (congrArg nA (nB.2 ab.out)) Z) (zI Z Z Z (zP Z Z (congrArg nA (nB.2 ab.out)) Z) (Za Z Z Z (zP Z Z (congrArg nA (nB.2 ab.out)) Z) (zI Z Z Z (zP Z Z (congrArg nA (nB.2 ab.out)) Z) (oR Z (zX Z (congrArg nA (nB.2 ab.out)) Z) (eN (zg Z (ZJ (zm (zL (rR fL2 Z (oR Z (ZC (zd Z am Z) (congrArg (jV) bv.out)) (oM Z Z (zr ?_)))))))))))))
 have q:=nD cx
 obtain rfl:=q
 exact zL ⟨Z,_,Z,⟨aW,aj,Z,aX,aY,aZ,ba,ae,bt,bb⟩⟩
 rintro cZ db cK ⟨bD,cJ,bM,cQ,cR,cS,bL,cW,bY,bN⟩ cn
 have cr:=wFA hm bf cn
 have bJ:Hid (¬ ((↑(((↑p1.Bout.Down.length:Int):Int) - 0).toNat:Int) < (↑p1.Bout.Down.length:Int))):=zO (wBe)
 refine sR fL1 Z (oR Z (zh Z bM bL) (eN (zF (cF Z bJ (ZV (zu (zu (ZM ?_))))))))
 cases cr
 exact ⟨Z,_,(res0),bD,_,bY,bN⟩
theorem wEr (p0:Unit) (aj:Nat) (p1:Int) (w:World) (U:PHeap) (hS:St0 w U [])  {r:Unit} (hm:wBb p0 p1=some r):Gv Try.prog 43 [.pointer (some ⟨aj,0,none⟩),jV p1] w (wCY w [] U (fun U_ L_ v=>∃ (b0:Nat) (b1:Nat) (b2:Nat),v=.func (.func 83) #[] #[.pointer (some ⟨b0,0,none⟩),.pointer (some ⟨b1,0,none⟩),.pointer (some ⟨b2,0,none⟩)]/\L_=[]/\Cl U_ b0 0 [.pointer (some ⟨aj,0,none⟩)]/\Cl U_ b1 0 [.func (.func 78) #[.pointer (some ⟨aj,0,none⟩)] #[]]/\Cl U_ b2 0 [jV p1])):=by
 unfold wBb at hm
 refine Gv.of Try.func43 Z Try.ntmps43 Try.results43 Z (sR gAn Z ?_)
 let B0:List Value:=[.pointer (some ⟨aj,0,none⟩)]
 refine ZH (cs:=B0) rfl rfl rfl rfl rfl rfl (by rfl) hS ?_
 intro W1 b2 bm
 have q:=bm.freeze (k:=0) rfl
 obtain ⟨U5,bu,ah,bp⟩:=q
 replace ah:=Cl.of ah
 have bq:sW w U U5 [] W1:=bp
 replace ah:Cl U5 b2 0 B0:=ah
 refine ZH (cs:=[jV p1]) rfl rfl rfl rfl rfl rfl (by rfl) bq ?_
 intro be aX bh
 have q:=bh.freeze (k:=0) rfl
 obtain ⟨ap,br,ab,bi⟩:=q
 replace ab:=Cl.of ab
 have aZ:sW w U ap [] be:=bi
 replace ab:Cl ap aX 0 [jV p1]:=ab
 refine oA Z Z (eN (sR gAq Z ?_))
 have aY:=ah.le br
 refine oL Z (aZ.ldC (f:=0) aY (v:=.pointer (some ⟨aj,0,none⟩)) Z Z ZI Z) (oR Z (Runs.mkf Z (zA Z zQ) zQ) (ZW (cs:=[.nilFunc]) Z Z Z Z Z Try.zeroValue131 Z aZ ?_))
 intro bt au bj
 let B1:List Value:=[.func (.func 78) B0.toArray #[]]
 refine ZB (j:=0) (vs:=B1) Z Z Z Z bj Z Z Z Z Try.sizeOf131 (zC Z) Z Z Z ?_
 intro az bk
 have bl:sW w U ap [.blk au 131 B1] az:=bk
 refine eN (sR fL2 Z ?_)
 have q:=bl.freeze (k:=0) rfl
 obtain ⟨aq,ba,ae,bn⟩:=q
 replace ae:=Cl.of ae
 have bo:sW w U aq [] az:=bn
 replace ae:Cl aq au 0 B1:=ae
 refine oR Z (Runs.mkf Z zQ (zA Z (zA Z (zA Z zQ)))) (oA Z Z (eN (zR ?_)))
 have bf:=aY.le ba
 have bg:=ab.le ba
 cases hm
 exact ⟨Z,_,(zx Z),aq,_,bo,b2,au,aX,Z,Z,bf,ae,bg⟩
theorem wEJ (n_:Nat):∀ (p0:Int) (p1:wAD) (bn:Nat) (ah:Nat) (ai:Option Addr) (aj:Nat) (ak:Option Addr) (ap:Nat) (am:Option Addr) (aq:Nat) (ae:Nat) (au:Array MapEntry) (av:Nat) (p2:Unit) (bw:Nat) (w:World) (U:PHeap) (hS:St0 w U [.blk ah 99 ([.slice ai p1.Bout.Shots.length aj,.slice ak p1.Bout.Down.length ap,.slice am p1.Bout.Across.length aq,.map (some ae)] ++ ((hH KL.encI p1.hits.l) ++ ((hH KL.encI p1.used.l) ++ (hH KL.encT p1.met.l)))),.obj ae (.map au av)]) (cf:Cl U bn 0 [.pointer (some ⟨ah,0,none⟩)]) (dS:Sl U 1 ai aj p1.Bout.Shots.length (hH KL.encI p1.Bout.Shots)) (dT:Sl U 1 ak ap p1.Bout.Down.length (hH KL.encI p1.Bout.Down)) (dU:Sl U 2 am aq p1.Bout.Across.length (hH wAB p1.Bout.Across)) (cg:MpR au wFL wFc p1.may) (dV:Cl U bw 0 [.func (.func 84) #[] #[.pointer (some ⟨bn,0,none⟩),.pointer (some ⟨bw,0,none⟩)]]) {r:Bool × (Arr Int 64 × Arr Int 8 × Arr Bool 16)} (hm:wAU n_ p0 p1 p2=some r),Gv Try.prog 84 [jV p0,.pointer (some ⟨bn,0,none⟩),.pointer (some ⟨bw,0,none⟩)] w (wCY w [.blk ah 99 ([.slice ai p1.Bout.Shots.length aj,.slice ak p1.Bout.Down.length ap,.slice am p1.Bout.Across.length aq,.map (some ae)] ++ ((hH KL.encI p1.hits.l) ++ ((hH KL.encI p1.used.l) ++ (hH KL.encT p1.met.l)))),.obj ae (.map au av)] U (fun U_ L_ v=>v=.bool r.1/\L_=[.blk ah 99 ([.slice ai p1.Bout.Shots.length aj,.slice ak p1.Bout.Down.length ap,.slice am p1.Bout.Across.length aq,.map (some ae)] ++ ((hH KL.encI r.2.1.l) ++ ((hH KL.encI r.2.2.1.l) ++ (hH KL.encT r.2.2.2.l)))),.obj ae (.map au av)])):=by
 induction n_ with
 | zero =>
  intros
  rename_i hm
  have g8:(none:Option (Bool × (Arr Int 64 × Arr Int 8 × Arr Bool 16)))=some _:=hm
  cases g8
 | succ n_ ih =>
  intro p0 p1 bn ah ai aj ak ap am aq ae au av p2 bw w U hS cf dS dT dU cg dV r hm
  have hm:wBA (wAU n_) p0 p1 p2=some r:=hm
  unfold wBA at hm
  refine Go.KX.Gv.ofM Try.func84 Z Try.ntmps84 Try.results84 (zC Z) ?_
  have fT:=hS.mks0
  refine sR (.fx 0 (.fx 1 .nil .stop) .stop) rfl (ZH (cs:=[jV p0]) rfl rfl rfl rfl rfl rfl (by rfl) fT ?_)
  intro W5 b6 gD
  refine ZW (cs:=[.bool false]) Z Z Z Z Z Try.zeroValue4 Z gD ?_
  intro W9 bo fH
  refine eN (zF (ZK ZL [1,1,3,3,3,3,0] (wHE (.fx 6 .nil .stop)) (by kernel_rfl) ?_))
  have b5:=fH.drew
  generalize hw_W14:({ W9 with drawn:=W9.drawn + 1 }:World)=iK at b5 ⊢
  refine zq rfl rfl rfl rfl (b5.ldC (f:=0) cf (v:=.pointer (some ⟨ah,0,none⟩)) rfl rfl ZI rfl) rfl (zq rfl rfl rfl rfl (b5.ldB (j:=1) rfl rfl rfl zM (v:=jV p0) rfl) rfl (zN rfl rfl rfl rfl (fun _=>zl rfl rfl) (zN rfl rfl rfl rfl (fun _=>zJ rfl rfl zU rfl Try.sizeOf97) (zN rfl rfl rfl rfl (fun _=>ZC (ZR rfl rfl rfl Try.runUnderlying97 Try.sizeOf96 (by decide) (by decide)) rfl) (bnK hm fun _ bj ci=>zN rfl rfl rfl rfl (fun _=>ZR rfl rfl rfl Try.runUnderlying96 Zn (wAx bj) (wAy bj)) ?_)))))
  have gR:=Arr.at_ p1.met (k:=(8 + p0.toNat)) (by have hz0:=wAK bj;omega)
  refine ZB (j:=3) (vs:=[.bool true]) (cs':=[.slice ai p1.Bout.Shots.length aj,.slice ak p1.Bout.Down.length ap,.slice am p1.Bout.Across.length aq,.map (some ae)] ++ ((hH KL.encI p1.hits.l) ++ ((hH KL.encI p1.used.l) ++ (hH KL.encT (p1.met.set (8 + p0.toNat) true).l)))) rfl rfl rfl rfl b5 rfl ((rfl:ev _ _=.pointer (some ⟨ah,84 + p0.toNat * 1,none⟩)).trans (wDN (by omega))) rfl rfl Zn (by have hz0:=wAK bj;simp only [nM,nO,nQ,wAN (f:=KL.encI) (sz:=1) (N:=64) p1.hits (fun _=>rfl) rfl,wAN (f:=KL.encI) (sz:=1) (N:=8) p1.used (fun _=>rfl) rfl,wAN (f:=KL.encT) (sz:=1) (N:=16) p1.met (fun _=>rfl) rfl];omega) rfl (wCA (n:=4) rfl (wCA (n:=64) (wAN (f:=KL.encI) (sz:=1) (N:=64) p1.hits (fun _=>rfl) rfl) (wCA (n:=8) (wAN (f:=KL.encI) (sz:=1) (N:=8) p1.used (fun _=>rfl) rfl) (wQU (sz:=1) (fo:=0) (fun _=>rfl) _ _ _ _ gR (zC rfl) rfl)))) rfl ?_
  intro eA fS
  let B0:Res:=.blk b6 3 [jV p0]
  let B1:Res:=.blk bo 4 [.bool false]
  have cR:SW w [.blk ah 99 ([.slice ai p1.Bout.Shots.length aj,.slice ak p1.Bout.Down.length ap,.slice am p1.Bout.Across.length aq,.map (some ae)] ++ ((hH KL.encI p1.hits.l) ++ ((hH KL.encI p1.used.l) ++ (hH KL.encT p1.met.l)))),.obj ae (.map au av)] U U [B1,B0,mks [],.blk ah 99 ([.slice ai p1.Bout.Shots.length aj,.slice ak p1.Bout.Down.length ap,.slice am p1.Bout.Across.length aq,.map (some ae)] ++ ((hH KL.encI p1.hits.l) ++ ((hH KL.encI p1.used.l) ++ (hH KL.encT (p1.met.set (8 + p0.toNat) true).l)))),.obj ae (.map au av)] eA:=fS
  refine eN (zF (sR fL7 Z (oL Z (cR.ldC (f:=0) cf (v:=.pointer (some ⟨ah,0,none⟩)) Z Z ZI Z) (oR Z (zl Z Z) (oR Z (zJ Z Z zU Z zZ) (oR Z (zJ Z Z zE Z zY) (oL Z (cR.ldB (j:=3) Z Z Z zi (v:=.slice ai p1.Bout.Shots.length aj) Z) (oR Z (ZA Z Z zB) (oM Z Z (eN (zj ?_)))))))))))
  have q:=wDe ci
  obtain ⟨i5,cb⟩:=q
  have q:=wDd cb
  obtain ⟨cW,gK⟩:=q
  replace cW:=zO cW
  refine CK.forND (fun ab (aZ,aX,bh) D_ σ_ w_=>∃ (U_:PHeap) (be:List Nat),D_=List.map Go.KX.mark be/\σ_ 19=jV (↑ab:Int)/\σ_ 1=.pointer (some ⟨bn,0,none⟩)/\σ_ 2=.pointer (some ⟨bw,0,none⟩)/\σ_ 3=.pointer (some ⟨b6,0,none⟩)/\σ_ 4=.pointer (some ⟨bo,0,none⟩)/\σ_ 18=jV (↑p1.Bout.Shots.length:Int)/\PHeap.Le U U_/\SW w [.blk ah 99 ([.slice ai p1.Bout.Shots.length aj,.slice ak p1.Bout.Down.length ap,.slice am p1.Bout.Across.length aq,.map (some ae)] ++ ((hH KL.encI p1.hits.l) ++ ((hH KL.encI p1.used.l) ++ (hH KL.encT p1.met.l)))),.obj ae (.map au av)] U U_ [B1,B0,mks be,.blk ah 99 ([.slice ai p1.Bout.Shots.length aj,.slice ak p1.Bout.Down.length ap,.slice am p1.Bout.Across.length aq,.map (some ae)] ++ ((hH KL.encI aZ.l) ++ ((hH KL.encI aX.l) ++ (hH KL.encT bh.l)))),.obj ae (.map au av)] w_) gK ?_ ?_ ?_
  ·exact ⟨U,[],Z,Z,Z,Z,Z,Z,Z,(zk _),cR⟩
  ·rintro ab ⟨aZ,aX,bh⟩ jc D_ jd iN cV ⟨bW,be,rfl,bO,bp,cO,bN,bY,bZ,bB,gz⟩ d9 dW
   try dsimp only at d9
   have dp:Hid ((↑ab:Int) < (↑p1.Bout.Shots.length:Int)):=zO (wCJ cV)
   replace cV:=zO cV
   have cU:Hid (w64 ((↑ab:Int) + 1)=(↑(ab + 1):Int)):=zO (by have h1:=cW.out;have h2:=dp.out;rw [wAX] <;> omega)
   refine sR fL1 Z (oR Z (zh Z bO bZ) (eN (zF (cT Z dp (kN (zF (zj (sR (.fl 0 (.fx 1 (.fx 2 .nil .stop) .stop)) Z (oM Z bO (ZW (cs:=[jV 0]) Z Z Z Z Z Zi Z gz ?_))))))))))
   intro iQ bb gA
   let B2:List Value:=[jV (↑ab:Int)]
   refine ZB (j:=0) (vs:=B2) Z Z Z Z gA Z Z Z Z zD (zC Z) Z Z Z ?_
   intro cE gB
   have gC:SW w [.blk ah 99 ([.slice ai p1.Bout.Shots.length aj,.slice ak p1.Bout.Down.length ap,.slice am p1.Bout.Across.length aq,.map (some ae)] ++ ((hH KL.encI p1.hits.l) ++ ((hH KL.encI p1.used.l) ++ (hH KL.encT p1.met.l)))),.obj ae (.map au av)] U bW [.blk bb 3 B2,B1,B0,mks be,.blk ah 99 ([.slice ai p1.Bout.Shots.length aj,.slice ak p1.Bout.Down.length ap,.slice am p1.Bout.Across.length aq,.map (some ae)] ++ ((hH KL.encI aZ.l) ++ ((hH KL.encI aX.l) ++ (hH KL.encT bh.l)))),.obj ae (.map au av)] cE:=gB
   refine eN (zF (zF (ZK ZL [1,1,3,3,3,3,1,3,1,1,1,0,3,3] (wNG (.fx 11 (.fl 12 (.fl 13 .nil)) .stop)) (by kernel_rfl) ?_)))
   have bu:=gC.drew
   generalize hw_W69:({ cE with drawn:=cE.drawn + 1 }:World)=df at bu ⊢
   have cQ:=cf.le bB
   refine zq rfl rfl rfl rfl (bu.ldC (f:=0) cQ (v:=.pointer (some ⟨ah,0,none⟩)) rfl bp ZI rfl) rfl (zq rfl rfl rfl rfl (bu.ldB (j:=0) rfl rfl rfl zM (v:=jV (↑ab:Int)) rfl) rfl (zN rfl rfl rfl rfl (fun _=>zl rfl rfl) (zN rfl rfl rfl rfl (fun _=>zJ rfl rfl zU rfl Try.sizeOf97) (zN rfl rfl rfl rfl (fun _=>ZC (ZR rfl rfl rfl Try.runUnderlying97 Try.sizeOf96 (by decide) (by decide)) rfl) (bnK d9 fun _ aW ip=>zN rfl rfl rfl rfl (fun _=>ZR rfl rfl rfl Try.runUnderlying96 Zn (wAx aW) (wAy aW)) ?_)))))
   have gZ:=Arr.at_ bh (k:=ab) (by have hz0:=wAK aW;omega)
   refine zq rfl rfl rfl rfl (bu.ldB (j:=4) rfl rfl ((rfl:ev _ _=.pointer (some ⟨ah,76 + ab * 1,none⟩)).trans (wDN (by omega))) Try.isAgg4 (wDM (n:=4) rfl (wDM (n:=64) (wAN (f:=KL.encI) (sz:=1) (N:=64) aZ (fun _=>rfl) rfl) (wDM (n:=8) (wAN (f:=KL.encI) (sz:=1) (N:=8) aX (fun _=>rfl) rfl) (wQT (sz:=1) (fun _=>rfl) _ _ 0 _ gZ rfl))))) rfl (zV rfl rfl rfl rfl rfl rfl (ifc ip ?_ ?_))
   ·intro bk iq
    refine zI Z Z Z (zP Z Z (congrArg nA bk.out) Z) (zI Z Z Z (zP Z Z (congrArg nA bk.out) Z) (zI Z Z Z (zP Z Z (congrArg nA bk.out) Z) (Za Z Z Z (zP Z Z (congrArg nA bk.out) Z) (zI Z Z Z (zP Z Z (congrArg nA bk.out) Z) (oR Z (zS Z (congrArg nA bk.out) Z) (eN (zt Z (ZV (zu (ZM (zL (rR fL2 Z (oR Z (ZC (zd Z bO Z) (congrArg (jV) cU.out)) (oM Z Z (zr ?_)))))))))))))))
    have q:=nD iq
    obtain rfl:=q
    exact zL ⟨_,rfl,⟨bW,be,rfl,rfl,bp,cO,bN,bY,bZ,bB,(bu.pick [1,2,3,4,5] _ (by decide) rfl)⟩⟩
   ·intro bk ir
    refine zq Z Z Z (zK Z Z (congrArg nA (nB.2 bk.out))) (bu.ldC (f:=0) cQ (v:=.pointer (some ⟨ah,0,none⟩)) Z bp ZI Z) Z (zq Z Z Z (zK Z Z (congrArg nA (nB.2 bk.out))) (bu.ldB (j:=0) Z Z Z zM (v:=jV (↑ab:Int)) Z) Z (zq Z Z Z (zK Z Z (congrArg nA (nB.2 bk.out))) (bu.ldB (j:=2) Z Z bN zM (v:=jV p0) Z) Z ?_))
    have dJ:=dS.le bB
    have dK:=dT.le bB
    have dL:=dU.le bB
    refine bnK ir fun x84 fy it=>?_
    have gE:SW w [.blk ah 99 ([.slice ai p1.Bout.Shots.length aj,.slice ak p1.Bout.Down.length ap,.slice am p1.Bout.Across.length aq,.map (some ae)] ++ ((hH KL.encI p1.hits.l) ++ ((hH KL.encI p1.used.l) ++ (hH KL.encT p1.met.l)))),.obj ae (.map au av)] U bW [.blk ah 99 ([.slice ai p1.Bout.Shots.length aj,.slice ak p1.Bout.Down.length ap,.slice am p1.Bout.Across.length aq,.map (some ae)] ++ ((hH KL.encI aZ.l) ++ ((hH KL.encI aX.l) ++ (hH KL.encT bh.l)))),.obj ae (.map au av),.blk bb 3 B2,B1,B0,mks be] df:=bu.pick [4,5,0,1,2,3] _ (by decide) rfl
    refine zH 2 Z Z Z (zK Z Z (congrArg nA (nB.2 bk.out))) (zG Z Z Try.call78 (zA Z (zA Z (zA Z zQ))) Z) gE (fun hs=>wCk (⟨p1.Bout,p1.may,aZ,aX,bh⟩:wAD) ah ai aj ak ap am aq ae au av (↑ab:Int) p0 df bW hs dJ dK dL cg fy) (.inl Z) ?_
    rintro br iH i9 cG bG gF ⟨rfl,rfl⟩
    have dR:SW w [.blk ah 99 ([.slice ai p1.Bout.Shots.length aj,.slice ak p1.Bout.Down.length ap,.slice am p1.Bout.Across.length aq,.map (some ae)] ++ ((hH KL.encI p1.hits.l) ++ ((hH KL.encI p1.used.l) ++ (hH KL.encT p1.met.l)))),.obj ae (.map au av)] U br [.blk ah 99 ([.slice ai p1.Bout.Shots.length aj,.slice ak p1.Bout.Down.length ap,.slice am p1.Bout.Across.length aq,.map (some ae)] ++ ((hH KL.encI aZ.l) ++ ((hH KL.encI aX.l) ++ (hH KL.encT bh.l)))),.obj ae (.map au av),.blk bb 3 B2,B1,B0,mks be] cG:=gF
    refine zN Z Z Z (zK Z Z (congrArg nA (nB.2 bk.out))) (fun _=>ZE Z Z) (oR Z (zX Z (congrArg nA (nB.2 bk.out)) Z) (eN (ifc it ?_ ?_)))
    ·intro cJ iu
     refine zg (nC cJ.out) (kN (zF (ZK ZL [1,1,3,3,3,3,0] (wHE (.fx 6 .nil .stop)) (by kernel_rfl) ?_)))
     have b9:=dR.drew
     generalize hw_W98:({ cG with drawn:=cG.drawn + 1 }:World)=iR at b9 ⊢
     have bE:=cQ.le bG
     refine zq rfl rfl rfl rfl (b9.ldC (f:=0) bE (v:=.pointer (some ⟨ah,0,none⟩)) rfl bp ZI rfl) rfl (zq rfl rfl rfl rfl (b9.ldB (j:=2) rfl rfl rfl zM (v:=jV (↑ab:Int)) rfl) rfl (zN rfl rfl rfl rfl (fun _=>zl rfl rfl) (zN rfl rfl rfl rfl (fun _=>zJ rfl rfl zU rfl Try.sizeOf97) (zN rfl rfl rfl rfl (fun _=>ZC (ZR rfl rfl rfl Try.runUnderlying97 Try.sizeOf96 (by decide) (by decide)) rfl) (zN rfl rfl rfl rfl (fun _=>ZR rfl rfl rfl Try.runUnderlying96 Zn (wAx aW) (wAy aW)) ?_)))))
     have gL:=Arr.at_ bh (k:=ab) (by have hz0:=wAK aW;omega)
     refine ZB (j:=0) (vs:=[.bool true]) (cs':=[.slice ai p1.Bout.Shots.length aj,.slice ak p1.Bout.Down.length ap,.slice am p1.Bout.Across.length aq,.map (some ae)] ++ ((hH KL.encI aZ.l) ++ ((hH KL.encI aX.l) ++ (hH KL.encT (bh.set ab true).l)))) rfl rfl rfl rfl b9 rfl ((rfl:ev _ _=.pointer (some ⟨ah,76 + ab * 1,none⟩)).trans (wDN (by omega))) rfl rfl Zn (by have hz0:=wAK aW;simp only [nM,nO,nQ,wAN (f:=KL.encI) (sz:=1) (N:=64) aZ (fun _=>rfl) rfl,wAN (f:=KL.encI) (sz:=1) (N:=8) aX (fun _=>rfl) rfl,wAN (f:=KL.encT) (sz:=1) (N:=16) bh (fun _=>rfl) rfl];omega) rfl (wCA (n:=4) rfl (wCA (n:=64) (wAN (f:=KL.encI) (sz:=1) (N:=64) aZ (fun _=>rfl) rfl) (wCA (n:=8) (wAN (f:=KL.encI) (sz:=1) (N:=8) aX (fun _=>rfl) rfl) (wQU (sz:=1) (fo:=0) (fun _=>rfl) _ _ _ _ gL (zC rfl) rfl)))) rfl ?_
     intro cy fE
     have fG:SW w [.blk ah 99 ([.slice ai p1.Bout.Shots.length aj,.slice ak p1.Bout.Down.length ap,.slice am p1.Bout.Across.length aq,.map (some ae)] ++ ((hH KL.encI p1.hits.l) ++ ((hH KL.encI p1.used.l) ++ (hH KL.encT p1.met.l)))),.obj ae (.map au av)] U br [.blk ah 99 ([.slice ai p1.Bout.Shots.length aj,.slice ak p1.Bout.Down.length ap,.slice am p1.Bout.Across.length aq,.map (some ae)] ++ ((hH KL.encI aZ.l) ++ ((hH KL.encI aX.l) ++ (hH KL.encT (bh.set ab true).l)))),.obj ae (.map au av),.blk bb 3 B2,B1,B0,mks be] cy:=fE
     refine eN (zF (zF (ZK ZL [1,1,3,3,3,1,1,3,3,3,1,1,3,1,3] fL15 (by kernel_rfl) ?_)))
     have bl:=fG.drew
     generalize hw_W105:({ cy with drawn:=cy.drawn + 1 }:World)=cz at bl ⊢
     refine oL Z (bl.ldC (f:=0) bE (v:=.pointer (some ⟨ah,0,none⟩)) Z bp ZI Z) (oL Z (bl.ldB (j:=2) Z Z Z zM (v:=jV (↑ab:Int)) Z) (oR Z (zl Z Z) (oR Z (zJ Z Z zU Z Zg) (oR Z (ZR Z Z Z ZO zD (wAx aW) (wAy aW)) ?_))))
     have gM:=Arr.at_ aX (k:=ab) (by have hz0:=wAK aW;omega)
     refine zq rfl rfl rfl rfl (bl.ldB (j:=0) rfl rfl ((rfl:ev _ _=.pointer (some ⟨ah,68 + ab * 1,none⟩)).trans (wDN (by omega))) zM (wDM (n:=4) rfl (wDM (n:=64) (wAN (f:=KL.encI) (sz:=1) (N:=64) aZ (fun _=>rfl) rfl) (wHJ (sz:=1) (fun _=>rfl) _ _ 0 _ gM rfl)))) rfl (zq rfl rfl rfl rfl (bl.ldC (f:=0) bE (v:=.pointer (some ⟨ah,0,none⟩)) rfl bp ZI rfl) rfl (zN rfl rfl rfl rfl (fun _=>zl rfl rfl) (zN rfl rfl rfl rfl (fun _=>zJ rfl rfl zU rfl zZ) (zN rfl rfl rfl rfl (fun _=>zJ rfl rfl zE rfl zY) (zq rfl rfl rfl rfl (bl.ldB (j:=0) rfl rfl rfl zi (v:=.slice ai p1.Bout.Shots.length aj) rfl) rfl (zq rfl rfl rfl rfl (bl.ldB (j:=2) rfl rfl rfl zM (v:=jV (↑ab:Int)) rfl) rfl (bnK iu fun x107 dC g9=>?_)))))))
     have dD:=dJ.le bG
     have q:=dD.el (fun _=>rfl) (wBo dC)
     obtain ⟨iT,i3,fz,fA⟩:=q
     refine oR Z (Zb Z Z fz Z zB zD (wEZ dC)) (oL Z (bl.ldC (f:=0) fA (v:=jV x107) Z Z zM Z) (oR Z (zh Z Z Z) (eN (ifc g9 ?_ ?_))))
     ·intro cH ib
      refine cT Z cH (zF (Zo fun ct bR=>?_))
      have dq:ct 1=.pointer (some ⟨bn,0,none⟩):=(bR 1).trans bp
      have eK:ct 3=.pointer (some ⟨b6,0,none⟩):=(bR 3).trans bN
      have dr:ct 4=.pointer (some ⟨bo,0,none⟩):=(bR 4).trans bY
      have dt:ct 5=.pointer (some ⟨bb,0,none⟩):=(bR 5).trans rfl
      clear bR
      refine ZK ZL [1,1,3,3,3,1,3,3,3,3,0] (fC0_9 (.fx 10 .nil .stop)) (by kernel_rfl) ?_
      have bP:=bl.drew
      generalize hw_W124:({ cz with drawn:=cz.drawn + 1 }:World)=iI at bP ⊢
      refine oL Z (bP.ldC (f:=0) bE (v:=.pointer (some ⟨ah,0,none⟩)) Z dq ZI Z) (oL Z (bP.ldB (j:=2) Z Z dt zM (v:=jV (↑ab:Int)) Z) (oR Z (zl Z Z) (oR Z (zJ Z Z zU Z Zg) (oR Z (ZR Z Z Z ZO zD (wAx aW) (wAy aW)) ?_))))
      have gN:=Arr.at_ aX (k:=ab) (by have hz0:=wAK aW;omega)
      refine zq rfl rfl rfl rfl (bP.ldB (j:=0) rfl rfl ((rfl:ev _ _=.pointer (some ⟨ah,68 + ab * 1,none⟩)).trans (wDN (by omega))) zM (wDM (n:=4) rfl (wDM (n:=64) (wAN (f:=KL.encI) (sz:=1) (N:=64) aZ (fun _=>rfl) rfl) (wHJ (sz:=1) (fun _=>rfl) _ _ 0 _ gN rfl)))) rfl (zN rfl rfl rfl rfl (fun _=>zd rfl rfl rfl) (zN rfl rfl rfl rfl (fun _=>zl rfl rfl) (zN rfl rfl rfl rfl (fun _=>zJ rfl rfl zU rfl Zg) (zN rfl rfl rfl rfl (fun _=>ZR rfl rfl rfl ZO zD (wAx aW) (wAy aW)) ?_))))
      have gO:=Arr.at_ aX (k:=ab) (by have hz0:=wAK aW;omega)
      refine ZB (j:=0) (vs:=[jV (w64 ((aX.get ab) + 1))]) (cs':=[.slice ai p1.Bout.Shots.length aj,.slice ak p1.Bout.Down.length ap,.slice am p1.Bout.Across.length aq,.map (some ae)] ++ ((hH KL.encI aZ.l) ++ ((hH KL.encI (aX.set ab (w64 ((aX.get ab) + 1))).l) ++ (hH KL.encT (bh.set ab true).l)))) rfl rfl rfl rfl bP rfl ((rfl:ev _ _=.pointer (some ⟨ah,68 + ab * 1,none⟩)).trans (wDN (by omega))) rfl rfl zD (by have hz0:=wAK aW;simp only [nM,nO,nQ,wAN (f:=KL.encI) (sz:=1) (N:=64) aZ (fun _=>rfl) rfl,wAN (f:=KL.encI) (sz:=1) (N:=8) aX (fun _=>rfl) rfl,wAN (f:=KL.encT) (sz:=1) (N:=16) (bh.set ab true) (fun _=>rfl) rfl];omega) rfl (wCA (n:=4) rfl (wCA (n:=64) (wAN (f:=KL.encI) (sz:=1) (N:=64) aZ (fun _=>rfl) rfl) (wJf (sz:=1) (fo:=0) (fun _=>rfl) _ _ _ _ gO (zC rfl) rfl))) rfl ?_
      intro cA fJ
      have fK:SW w [.blk ah 99 ([.slice ai p1.Bout.Shots.length aj,.slice ak p1.Bout.Down.length ap,.slice am p1.Bout.Across.length aq,.map (some ae)] ++ ((hH KL.encI p1.hits.l) ++ ((hH KL.encI p1.used.l) ++ (hH KL.encT p1.met.l)))),.obj ae (.map au av)] U br [.blk ah 99 ([.slice ai p1.Bout.Shots.length aj,.slice ak p1.Bout.Down.length ap,.slice am p1.Bout.Across.length aq,.map (some ae)] ++ ((hH KL.encI aZ.l) ++ ((hH KL.encI (aX.set ab (w64 ((aX.get ab) + 1))).l) ++ (hH KL.encT (bh.set ab true).l)))),.obj ae (.map au av),.blk bb 3 B2,B1,B0,mks be] cA:=fJ
      refine eN (zF (ZK ZL [1,1,1,3,3,3,3,1,3,3,3,3,3,0] (wKH (.fx 13 .nil .stop)) (by kernel_rfl) ?_))
      have bI:=fK.drew
      generalize hw_W131:({ cA with drawn:=cA.drawn + 1 }:World)=iJ at bI ⊢
      refine oL Z (bI.ldC (f:=0) bE (v:=.pointer (some ⟨ah,0,none⟩)) Z dq ZI Z) (oL Z (bI.ldB (j:=2) Z Z dt zM (v:=jV (↑ab:Int)) Z) (oL Z (bI.ldB (j:=4) Z Z eK zM (v:=jV p0) Z) (oR Z (zl Z Z) (oR Z (zJ Z Z zU Z Zp) (oR Z (ZR Z Z Z Zc Zg (wAx aW) (wAy aW)) (oR Z (ZR Z Z Z ZO zD (wAx bj) (wAy bj)) ?_))))))
      have gP:=Arr.at_ aZ (k:=(ab * 8 + p0.toNat)) (by have hz0:=wAK aW;have hz1:=wAK bj;omega)
      refine zq rfl rfl rfl rfl (bI.ldB (j:=0) rfl rfl ((rfl:ev _ _=.pointer (some ⟨ah,4 + ab * 8 + p0.toNat * 1,none⟩)).trans (wDN (by omega))) zM (wDM (n:=4) rfl (wHJ (sz:=1) (fun _=>rfl) _ _ 0 _ gP rfl))) rfl (zN rfl rfl rfl rfl (fun _=>zd rfl rfl rfl) (zN rfl rfl rfl rfl (fun _=>zl rfl rfl) (zN rfl rfl rfl rfl (fun _=>zJ rfl rfl zU rfl Zp) (zN rfl rfl rfl rfl (fun _=>ZR rfl rfl rfl Zc Zg (wAx aW) (wAy aW)) (zN rfl rfl rfl rfl (fun _=>ZR rfl rfl rfl ZO zD (wAx bj) (wAy bj)) ?_)))))
      have gQ:=Arr.at_ aZ (k:=(ab * 8 + p0.toNat)) (by have hz0:=wAK aW;have hz1:=wAK bj;omega)
      refine ZB (j:=0) (vs:=[jV (w64 ((aZ.get (ab * 8 + p0.toNat)) + 1))]) (cs':=[.slice ai p1.Bout.Shots.length aj,.slice ak p1.Bout.Down.length ap,.slice am p1.Bout.Across.length aq,.map (some ae)] ++ ((hH KL.encI (aZ.set (ab * 8 + p0.toNat) (w64 ((aZ.get (ab * 8 + p0.toNat)) + 1))).l) ++ ((hH KL.encI (aX.set ab (w64 ((aX.get ab) + 1))).l) ++ (hH KL.encT (bh.set ab true).l)))) rfl rfl rfl rfl bI rfl ((rfl:ev _ _=.pointer (some ⟨ah,4 + ab * 8 + p0.toNat * 1,none⟩)).trans (wDN (by omega))) rfl rfl zD (by have hz0:=wAK aW;have hz1:=wAK bj;simp only [nM,nO,nQ,wAN (f:=KL.encI) (sz:=1) (N:=64) aZ (fun _=>rfl) rfl,wAN (f:=KL.encI) (sz:=1) (N:=8) (aX.set ab (w64 ((aX.get ab) + 1))) (fun _=>rfl) rfl,wAN (f:=KL.encT) (sz:=1) (N:=16) (bh.set ab true) (fun _=>rfl) rfl];omega) rfl (wCA (n:=4) rfl (wJf (sz:=1) (fo:=0) (fun _=>rfl) _ _ _ _ gQ (zC rfl) rfl)) rfl ?_
      intro en fL
      have fM:SW w [.blk ah 99 ([.slice ai p1.Bout.Shots.length aj,.slice ak p1.Bout.Down.length ap,.slice am p1.Bout.Across.length aq,.map (some ae)] ++ ((hH KL.encI p1.hits.l) ++ ((hH KL.encI p1.used.l) ++ (hH KL.encT p1.met.l)))),.obj ae (.map au av)] U br [.blk ah 99 ([.slice ai p1.Bout.Shots.length aj,.slice ak p1.Bout.Down.length ap,.slice am p1.Bout.Across.length aq,.map (some ae)] ++ ((hH KL.encI (aZ.set (ab * 8 + p0.toNat) (w64 ((aZ.get (ab * 8 + p0.toNat)) + 1))).l) ++ ((hH KL.encI (aX.set ab (w64 ((aX.get ab) + 1))).l) ++ (hH KL.encT (bh.set ab true).l)))),.obj ae (.map au av),.blk bb 3 B2,B1,B0,mks be] en:=fL
      refine eN (sR (.fx 0 .nil .stop) Z (ZB (j:=3) (vs:=[.bool true]) Z Z Z Z fM Z dr Z Z Zn (zC Z) Z Z Z ?_))
      intro eu fN
      let B3:Res:=.blk bo 4 [.bool true]
      have fO:SW w [.blk ah 99 ([.slice ai p1.Bout.Shots.length aj,.slice ak p1.Bout.Down.length ap,.slice am p1.Bout.Across.length aq,.map (some ae)] ++ ((hH KL.encI p1.hits.l) ++ ((hH KL.encI p1.used.l) ++ (hH KL.encT p1.met.l)))),.obj ae (.map au av)] U br [.blk ah 99 ([.slice ai p1.Bout.Shots.length aj,.slice ak p1.Bout.Down.length ap,.slice am p1.Bout.Across.length aq,.map (some ae)] ++ ((hH KL.encI (aZ.set (ab * 8 + p0.toNat) (w64 ((aZ.get (ab * 8 + p0.toNat)) + 1))).l) ++ ((hH KL.encI (aX.set ab (w64 ((aX.get ab) + 1))).l) ++ (hH KL.encT (bh.set ab true).l)))),.obj ae (.map au av),.blk bb 3 B2,B3,B0,mks be] eu:=fN
      refine eN (zR (zW (zw (zW ?_))))
      have q:=wBh ib
      obtain ⟨iz,ic,eI⟩:=q
      have q:=wDK ci cb (dW iz eI)
      obtain rfl:=q
      refine zW (zw (zW (wHg (by first | exact .inl rfl | exact .inr rfl) (rbs:=be) (L:=[.blk ah 99 ([.slice ai p1.Bout.Shots.length aj,.slice ak p1.Bout.Down.length ap,.slice am p1.Bout.Across.length aq,.map (some ae)] ++ ((hH KL.encI (aZ.set (ab * 8 + p0.toNat) (w64 ((aZ.get (ab * 8 + p0.toNat)) + 1))).l) ++ ((hH KL.encI (aX.set ab (w64 ((aX.get ab) + 1))).l) ++ (hH KL.encT (bh.set ab true).l)))),.obj ae (.map au av),.blk bb 3 B2,B3,B0]) (fO.pick [5,0,1,2,3,4] _ (by decide) rfl) fun ey fP=>?_)))
      have dM:SW w [.blk ah 99 ([.slice ai p1.Bout.Shots.length aj,.slice ak p1.Bout.Down.length ap,.slice am p1.Bout.Across.length aq,.map (some ae)] ++ ((hH KL.encI p1.hits.l) ++ ((hH KL.encI p1.used.l) ++ (hH KL.encT p1.met.l)))),.obj ae (.map au av)] U br [.blk ah 99 ([.slice ai p1.Bout.Shots.length aj,.slice ak p1.Bout.Down.length ap,.slice am p1.Bout.Across.length aq,.map (some ae)] ++ ((hH KL.encI (aZ.set (ab * 8 + p0.toNat) (w64 ((aZ.get (ab * 8 + p0.toNat)) + 1))).l) ++ ((hH KL.encI (aX.set ab (w64 ((aX.get ab) + 1))).l) ++ (hH KL.encT (bh.set ab true).l)))),.obj ae (.map au av),.blk bb 3 B2,B3,B0] ey:=fP
      cases ic
      exact ⟨_,(wKL (v:=.bool true) ⟨⟨_,dr,(wOl Try.isAgg4 (dM.blkAt (k:=3) rfl) rfl)⟩,trivial⟩),br,_,(dM.pick [0,1] _ (by decide) rfl),rfl,rfl⟩
     ·intro cH ie
      refine cF Z cH (kN (sR (.fl 0 (.fl 1 (.fx 2 .nil .stop))) Z (oL Z (bl.ldC (f:=0) bE (v:=.pointer (some ⟨ah,0,none⟩)) Z bp ZI Z) (oL Z (bl.ldB (j:=2) Z Z Z zM (v:=jV (↑ab:Int)) Z) ?_))))
      have q:=bnd ie
      obtain ⟨⟨⟩,eX,dX⟩:=q
      try dsimp only at dX
      refine zH 0 Z Z Z Z (zG Z Z Try.call43 (zA Z (zA Z zQ)) Z) bl (fun hs=>wEr () ah (↑ab:Int) cz br hs eX) (.inr Z) ?_
      rintro db iD i7 ez bK fQ ⟨dh,dk,dm,rfl,rfl,eY,eZ,fb⟩
      have fR:SW w [.blk ah 99 ([.slice ai p1.Bout.Shots.length aj,.slice ak p1.Bout.Down.length ap,.slice am p1.Bout.Across.length aq,.map (some ae)] ++ ((hH KL.encI p1.hits.l) ++ ((hH KL.encI p1.used.l) ++ (hH KL.encT p1.met.l)))),.obj ae (.map au av)] U db [.blk ah 99 ([.slice ai p1.Bout.Shots.length aj,.slice ak p1.Bout.Down.length ap,.slice am p1.Bout.Across.length aq,.map (some ae)] ++ ((hH KL.encI aZ.l) ++ ((hH KL.encI aX.l) ++ (hH KL.encT (bh.set ab true).l)))),.obj ae (.map au av),.blk bb 3 B2,B1,B0,mks be] ez:=fQ
      refine eN (zj (Zo fun bA bv=>?_))
      have du:bA 1=.pointer (some ⟨bn,0,none⟩):=(bv 1).trans bp
      have dv:bA 2=.pointer (some ⟨bw,0,none⟩):=(bv 2).trans cO
      have dw:bA 3=.pointer (some ⟨b6,0,none⟩):=(bv 3).trans bN
      have cK:bA 4=.pointer (some ⟨bo,0,none⟩):=(bv 4).trans bY
      have eL:bA 5=.pointer (some ⟨bb,0,none⟩):=(bv 5).trans rfl
      have dx:bA 18=jV (↑p1.Bout.Shots.length:Int):=(bv 18).trans bZ
      have dy:bA 19=jV (↑ab:Int):=(bv 19).trans bO
      have eM:bA 82=.func (.func 83) #[] #[.pointer (some ⟨dh,0,none⟩),.pointer (some ⟨dk,0,none⟩),.pointer (some ⟨dm,0,none⟩)]:=(bv 82).trans rfl
      clear bv
      refine bnK dX fun ec g7 cj=>?_
      have dE:=dD.le bK
      have fc:=dK.le bG
      have dF:=fc.le bK
      have fd:=dL.le bG
      have dG:=fd.le bK
      refine CK.rangeYV (fun U_ L_=>∃ (i_ j_:Nat) (a0_:Arr Int 64) (a1_:Arr Int 8) (a2_:Arr Bool 16),L_[i_]?=some (.blk ah 99 ([.slice ai p1.Bout.Shots.length aj,.slice ak p1.Bout.Down.length ap,.slice am p1.Bout.Across.length aq,.map (some ae)] ++ ((hH KL.encI a0_.l) ++ ((hH KL.encI a1_.l) ++ (hH KL.encT a2_.l)))))/\L_[j_]?=some (.obj ae (.map au av))) (by rintro _ _ _ ⟨i,j,a0,a1,a2,hi,hj⟩;exact ⟨i + 1,j + 1,a0,a1,a2,hi,hj⟩) (S:=(Arr Int 64) × (Arr Int 8) × (Arr Bool 16)) (E:=(Arr Int 64) × (Arr Int 8) × (Arr Bool 16) × Bool) (ar:=wKh) (PY:=(fun (s_:(Arr Int 64) × (Arr Int 8) × (Arr Bool 16)) (U_:PHeap) (L_:List Res)=>match s_ with | (a303,a304,a305)=>L_=[.blk ah 99 ([.slice ai p1.Bout.Shots.length aj,.slice ak p1.Bout.Down.length ap,.slice am p1.Bout.Across.length aq,.map (some ae)] ++ ((hH KL.encI a303.l) ++ ((hH KL.encI a304.l) ++ (hH KL.encT a305.l)))),.obj ae (.map au av),.blk bb 3 [jV (↑ab:Int)],B1,B0,mks be])) (PE:=(fun (s_:(Arr Int 64) × (Arr Int 8) × (Arr Bool 16) × Bool) (U_:PHeap) (L_:List Res)=>match s_ with | (a314,a315,a316,b317)=>L_=[.blk ah 99 ([.slice ai p1.Bout.Shots.length aj,.slice ak p1.Bout.Down.length ap,.slice am p1.Bout.Across.length aq,.map (some ae)] ++ ((hH KL.encI a314.l) ++ ((hH KL.encI a315.l) ++ (hH KL.encT a316.l)))),.obj ae (.map au av),.blk bb 3 [jV (↑ab:Int)],.blk bo 4 [.bool b317],B0,mks be])) (exO:=(fun _=>.ret)) (s0:=(aZ,aX,(bh.set ab true))) (rr:=ec) eM Try.call83 fR (by decide) (fun _ _ _ h=>by obtain rfl:=h;rfl) (fun _=>.inl rfl) rfl (by rintro ⟨a303,a304,a305⟩ _ _ rfl;exact ⟨0,1,a303,a304,a305,rfl,rfl⟩) (fun l w1 L1 PY' PE' fD fB gH gG=>wEI PY' PE' _ l _ (⟨p1.Bout,p1.may,aZ,aX,(bh.set ab true)⟩:wAD) dh ah ai aj ak ap am aq ae au av () dk (↑ab:Int) dm w1 L1 db fD fB gH gG eY dE dF dG cg eZ fb g7) ?_ ?_
      ·rintro bF i6 iZ ⟨a303,a304,a305⟩ aY ja i4 cn iE iC iy bC bT fU fC gI cS bz bm
       obtain rfl:=fC
       obtain rfl:=gI
       replace bm:∀ t,bz t=upd bA 83 (jV aY) t:=bm
       have eO:bz 83=jV aY:=(bm 83).trans (wCX _ _ _)
       have cM:bz 1=.pointer (some ⟨bn,0,none⟩):=(bm 1).trans ((wCU _ _ (by decide)).trans du)
       have eP:bz 2=.pointer (some ⟨bw,0,none⟩):=(bm 2).trans ((wCU _ _ (by decide)).trans dv)
       have dA:bz 3=.pointer (some ⟨b6,0,none⟩):=(bm 3).trans ((wCU _ _ (by decide)).trans dw)
       have eQ:bz 4=.pointer (some ⟨bo,0,none⟩):=(bm 4).trans ((wCU _ _ (by decide)).trans cK)
       have cN:bz 5=.pointer (some ⟨bb,0,none⟩):=(bm 5).trans ((wCU _ _ (by decide)).trans eL)
       have iU:bz 18=jV (↑p1.Bout.Shots.length:Int):=(bm 18).trans ((wCU _ _ (by decide)).trans dx)
       have iV:bz 19=jV (↑ab:Int):=(bm 19).trans ((wCU _ _ (by decide)).trans dy)
       clear bm
       have fV:St bC cn [.obj bF iy,.blk ah 99 ([.slice ai p1.Bout.Shots.length aj,.slice ak p1.Bout.Down.length ap,.slice am p1.Bout.Across.length aq,.map (some ae)] ++ ((hH KL.encI a303.l) ++ ((hH KL.encI a304.l) ++ (hH KL.encT a305.l)))),.obj ae (.map au av),.blk bb 3 B2,B1,B0,mks be] iC:=fU
       try dsimp only at cS
       refine rR fL1 Z (oA Z eO (zr ⟨Z,Z,_,_,fV,fun cB bL fW=>?_⟩))
       have fY:St bC cn [.obj bF bL,.blk ah 99 ([.slice ai p1.Bout.Shots.length aj,.slice ak p1.Bout.Down.length ap,.slice am p1.Bout.Across.length aq,.map (some ae)] ++ ((hH KL.encI a303.l) ++ ((hH KL.encI a304.l) ++ (hH KL.encT a305.l)))),.obj ae (.map au av),.blk bb 3 B2,B1,B0,mks be] cB:=fW
       refine zj (zF (ZK ZL [3,1,3,3,1,1,3,3,3,3,3,1,3,3,3,1,3,0,3] (wRP gAk) (by kernel_rfl) ?_))
       have bt:=fY.drew
       generalize hw_W362:({ cB with drawn:=cB.drawn + 1 }:World)=de at bt ⊢
       refine oM Z Z (oL Z (bt.ldB (j:=5) Z Z dA zM (v:=jV p0) Z) (oR Z (zy Z Z Z) (oM Z Z ?_)))
       by_cases bf:aY=p0
       ·have dY:=cS;rw [if_pos bf] at dY;replace bf:=zO bf
        refine zI Z Z Z (zP Z Z (zf (fun h=>h bf.out)) Z) (zI Z Z Z (zP Z Z (zf (fun h=>h bf.out)) Z) (zI Z Z Z (zP Z Z (zf (fun h=>h bf.out)) Z) (zI Z Z Z (zP Z Z (zf (fun h=>h bf.out)) Z) (zI Z Z Z (zP Z Z (zf (fun h=>h bf.out)) Z) (zI Z Z Z (zP Z Z (zf (fun h=>h bf.out)) Z) (zI Z Z Z (zP Z Z (zf (fun h=>h bf.out)) Z) (zI Z Z Z (zP Z Z (zf (fun h=>h bf.out)) Z) (zI Z Z Z (zP Z Z (zf (fun h=>h bf.out)) Z) (oR Z (zX Z (zf (fun h=>h bf.out)) Z) (oM Z Z (oN Z (oN Z (Za Z Z Z (zP Z Z Z Z) (oR Z (zX Z Z Z) (eN (zg Z (ZJ (zm ?_))))))))))))))))))
        have q:=nD dY
        obtain rfl:=q
        exact ⟨_,_,bt,Z,Z⟩
       ·have dZ:=cS;rw [if_neg bf] at dZ;replace bf:=zO bf
        have ff:=bE.le bK
        have cP:=ff.le bT
        refine zq Z Z Z (wT Z bf) (bt.ldC (f:=0) cP (v:=.pointer (some ⟨ah,0,none⟩)) Z cM ZI Z) Z (zq Z Z Z (wT Z bf) (bt.ldB (j:=3) Z Z cN zM (v:=jV (↑ab:Int)) Z) Z (zV Z Z Z (wT Z bf) Z Z (rU Z (wT Z bf) (zl Z Z) (rU Z (wT Z bf) (zJ Z Z zU Z Zp) (rU Z (wT Z bf) (ZR Z Z Z Zc Zg (wAx aW) (wAy aW)) (bnK dZ fun _ bq ig=>rU Z (wT Z bf) (ZR Z Z Z ZO zD (wAx bq) (wAy bq)) ?_))))))
        have gS:=Arr.at_ a303 (k:=(ab * 8 + aY.toNat)) (by have hz0:=wAK aW;have hz1:=wAK bq;omega)
        refine zq rfl rfl rfl (zK rfl rfl (ZX bf.out)) (bt.ldB (j:=1) rfl rfl ((rfl:ev _ _=.pointer (some ⟨ah,4 + ab * 8 + aY.toNat * 1,none⟩)).trans (wDN (by omega))) zM (wDM (n:=4) rfl (wHJ (sz:=1) (fun _=>rfl) _ _ 0 _ gS rfl))) rfl (zN rfl rfl rfl (zK rfl rfl (ZX bf.out)) (fun _=>Runs.gtr rfl rfl rfl) (zN rfl rfl rfl rfl (fun _=>zS rfl (ZX bf.out) rfl) (zV rfl rfl rfl rfl rfl rfl (ifc ig ?_ ?_))))
        ·intro bs ii
         have fg:=dV.le bB
         have fh:=fg.le bG
         have fj:=fh.le bK
         have dH:=fj.le bT
         refine zq Z Z Z (wT Z bs) (bt.ldC (f:=0) dH (v:=.func (.func 84) #[] #[.pointer (some ⟨bn,0,none⟩),.pointer (some ⟨bw,0,none⟩)]) Z eP Try.isAgg74 Z) Z (zV Z Z Z (wT Z bs) Z Z ?_)
         have fm:=dE.le bT
         have ft:=dF.le bT
         have fu:=dG.le bT
         have q:=bnd ii
         obtain ⟨⟨jb,az⟩,fw,d7⟩:=q
         try dsimp only at d7
         have fZ:St bC cn [.blk ah 99 ([.slice ai p1.Bout.Shots.length aj,.slice ak p1.Bout.Down.length ap,.slice am p1.Bout.Across.length aq,.map (some ae)] ++ ((hH KL.encI a303.l) ++ ((hH KL.encI a304.l) ++ (hH KL.encT a305.l)))),.obj ae (.map au av),.obj bF bL,.blk bb 3 B2,B1,B0,mks be] de:=bt.pick [1,2,0,3,4,5,6] _ (by decide) rfl
         refine zH 2 Z Z Z (wT Z bs) (zG Z Z Try.call84 (zA Z zQ) Z) fZ (fun hs=>ih aY (⟨p1.Bout,p1.may,a303,a304,a305⟩:wAD) bn ah ai aj ak ap am aq ae au av () bw de cn hs cP fm ft fu cg dH fw) (.inl Z) ?_
         rintro bV iF i8 cC iv ga ⟨rfl,rfl⟩
         have dN:St bC bV [.blk ah 99 ([.slice ai p1.Bout.Shots.length aj,.slice ak p1.Bout.Down.length ap,.slice am p1.Bout.Across.length aq,.map (some ae)] ++ ((hH KL.encI az.1.l) ++ ((hH KL.encI az.2.1.l) ++ (hH KL.encT az.2.2.l)))),.obj ae (.map au av),.obj bF bL,.blk bb 3 B2,B1,B0,mks be] cC:=ga
         refine oR Z (zS Z (ZX bs.out) Z) (eN (ifc d7 ?_ ?_))
         ·intro cI ij
          refine zt (congrArg nA cI.out) (zF (ZK ZL [1,1,3,3,3,3,3,1,3,3,3,3,3,0] (wKH (.fx 13 .nil .stop)) (by kernel_rfl) ?_))
          have bQ:=dN.drew
          generalize hw_W398:({ cC with drawn:=cC.drawn + 1 }:World)=iL at bQ ⊢
          have dI:=cP.le iv
          refine oL Z (bQ.ldC (f:=0) dI (v:=.pointer (some ⟨ah,0,none⟩)) Z cM ZI Z) (oL Z (bQ.ldB (j:=3) Z Z cN zM (v:=jV (↑ab:Int)) Z) (oM Z Z (oR Z (zl Z Z) (oR Z (zJ Z Z zU Z Zp) (oR Z (ZR Z Z Z Zc Zg (wAx aW) (wAy aW)) (oR Z (ZR Z Z Z ZO zD (wAx bq) (wAy bq)) ?_))))))
          have gT:=Arr.at_ az.1 (k:=(ab * 8 + aY.toNat)) (by have hz0:=wAK aW;have hz1:=wAK bq;omega)
          refine zq rfl rfl rfl rfl (bQ.ldB (j:=0) rfl rfl ((rfl:ev _ _=.pointer (some ⟨ah,4 + ab * 8 + aY.toNat * 1,none⟩)).trans (wDN (by omega))) zM (wDM (n:=4) rfl (wHJ (sz:=1) (fun _=>rfl) _ _ 0 _ gT rfl))) rfl (zN rfl rfl rfl rfl (fun _=>ZY rfl rfl rfl) (zN rfl rfl rfl rfl (fun _=>zl rfl rfl) (zN rfl rfl rfl rfl (fun _=>zJ rfl rfl zU rfl Zp) (zN rfl rfl rfl rfl (fun _=>ZR rfl rfl rfl Zc Zg (wAx aW) (wAy aW)) (zN rfl rfl rfl rfl (fun _=>ZR rfl rfl rfl ZO zD (wAx bq) (wAy bq)) ?_)))))
          have gU:=Arr.at_ az.1 (k:=(ab * 8 + aY.toNat)) (by have hz0:=wAK aW;have hz1:=wAK bq;omega)
          refine ZB (j:=0) (vs:=[jV (w64 ((az.1.get (ab * 8 + aY.toNat)) - 1))]) (cs':=[.slice ai p1.Bout.Shots.length aj,.slice ak p1.Bout.Down.length ap,.slice am p1.Bout.Across.length aq,.map (some ae)] ++ ((hH KL.encI (az.1.set (ab * 8 + aY.toNat) (w64 ((az.1.get (ab * 8 + aY.toNat)) - 1))).l) ++ ((hH KL.encI az.2.1.l) ++ (hH KL.encT az.2.2.l)))) rfl rfl rfl rfl bQ rfl ((rfl:ev _ _=.pointer (some ⟨ah,4 + ab * 8 + aY.toNat * 1,none⟩)).trans (wDN (by omega))) rfl rfl zD (by have hz0:=wAK aW;have hz1:=wAK bq;simp only [nM,nO,nQ,wAN (f:=KL.encI) (sz:=1) (N:=64) az.1 (fun _=>rfl) rfl,wAN (f:=KL.encI) (sz:=1) (N:=8) az.2.1 (fun _=>rfl) rfl,wAN (f:=KL.encT) (sz:=1) (N:=16) az.2.2 (fun _=>rfl) rfl];omega) rfl (wCA (n:=4) rfl (wJf (sz:=1) (fo:=0) (fun _=>rfl) _ _ _ _ gU (zC rfl) rfl)) rfl ?_
          intro cD gb
          have gc:St bC bV [.blk ah 99 ([.slice ai p1.Bout.Shots.length aj,.slice ak p1.Bout.Down.length ap,.slice am p1.Bout.Across.length aq,.map (some ae)] ++ ((hH KL.encI (az.1.set (ab * 8 + aY.toNat) (w64 ((az.1.get (ab * 8 + aY.toNat)) - 1))).l) ++ ((hH KL.encI az.2.1.l) ++ (hH KL.encT az.2.2.l)))),.obj ae (.map au av),.obj bF bL,.blk bb 3 B2,B1,B0,mks be] cD:=gb
          refine eN (zF (Zo fun cu bS=>?_))
          have eR:cu 1=.pointer (some ⟨bn,0,none⟩):=(bS 1).trans cM
          have eS:cu 3=.pointer (some ⟨b6,0,none⟩):=(bS 3).trans dA
          have eT:cu 4=.pointer (some ⟨bo,0,none⟩):=(bS 4).trans eQ
          have eU:cu 5=.pointer (some ⟨bb,0,none⟩):=(bS 5).trans cN
          clear bS
          refine ZK ZL [1,1,1,3,3,3,3,1,3,3,3,3,3,0] (wKH (.fx 13 .nil .stop)) (by kernel_rfl) ?_
          have bJ:=gc.drew
          generalize hw_W412:({ cD with drawn:=cD.drawn + 1 }:World)=iM at bJ ⊢
          refine oL Z (bJ.ldC (f:=0) dI (v:=.pointer (some ⟨ah,0,none⟩)) Z eR ZI Z) (oL Z (bJ.ldB (j:=3) Z Z eU zM (v:=jV (↑ab:Int)) Z) (oL Z (bJ.ldB (j:=5) Z Z eS zM (v:=jV p0) Z) (oR Z (zl Z Z) (oR Z (zJ Z Z zU Z Zp) (oR Z (ZR Z Z Z Zc Zg (wAx aW) (wAy aW)) (oR Z (ZR Z Z Z ZO zD (wAx bj) (wAy bj)) ?_))))))
          have gW:=Arr.at_ (az.1.set (ab * 8 + aY.toNat) (w64 ((az.1.get (ab * 8 + aY.toNat)) - 1))) (k:=(ab * 8 + p0.toNat)) (by have hz0:=wAK aW;have hz1:=wAK bj;omega)
          refine zq rfl rfl rfl rfl (bJ.ldB (j:=0) rfl rfl ((rfl:ev _ _=.pointer (some ⟨ah,4 + ab * 8 + p0.toNat * 1,none⟩)).trans (wDN (by omega))) zM (wDM (n:=4) rfl (wHJ (sz:=1) (fun _=>rfl) _ _ 0 _ gW rfl))) rfl (zN rfl rfl rfl rfl (fun _=>zd rfl rfl rfl) (zN rfl rfl rfl rfl (fun _=>zl rfl rfl) (zN rfl rfl rfl rfl (fun _=>zJ rfl rfl zU rfl Zp) (zN rfl rfl rfl rfl (fun _=>ZR rfl rfl rfl Zc Zg (wAx aW) (wAy aW)) (zN rfl rfl rfl rfl (fun _=>ZR rfl rfl rfl ZO zD (wAx bj) (wAy bj)) ?_)))))
          have gX:=Arr.at_ (az.1.set (ab * 8 + aY.toNat) (w64 ((az.1.get (ab * 8 + aY.toNat)) - 1))) (k:=(ab * 8 + p0.toNat)) (by have hz0:=wAK aW;have hz1:=wAK bj;omega)
          refine ZB (j:=0) (vs:=[jV (w64 (((az.1.set (ab * 8 + aY.toNat) (w64 ((az.1.get (ab * 8 + aY.toNat)) - 1))).get (ab * 8 + p0.toNat)) + 1))]) (cs':=[.slice ai p1.Bout.Shots.length aj,.slice ak p1.Bout.Down.length ap,.slice am p1.Bout.Across.length aq,.map (some ae)] ++ ((hH KL.encI ((az.1.set (ab * 8 + aY.toNat) (w64 ((az.1.get (ab * 8 + aY.toNat)) - 1))).set (ab * 8 + p0.toNat) (w64 (((az.1.set (ab * 8 + aY.toNat) (w64 ((az.1.get (ab * 8 + aY.toNat)) - 1))).get (ab * 8 + p0.toNat)) + 1))).l) ++ ((hH KL.encI az.2.1.l) ++ (hH KL.encT az.2.2.l)))) rfl rfl rfl rfl bJ rfl ((rfl:ev _ _=.pointer (some ⟨ah,4 + ab * 8 + p0.toNat * 1,none⟩)).trans (wDN (by omega))) rfl rfl zD (by have hz0:=wAK aW;have hz1:=wAK bj;simp only [nM,nO,nQ,wAN (f:=KL.encI) (sz:=1) (N:=64) (az.1.set (ab * 8 + aY.toNat) (w64 ((az.1.get (ab * 8 + aY.toNat)) - 1))) (fun _=>rfl) rfl,wAN (f:=KL.encI) (sz:=1) (N:=8) az.2.1 (fun _=>rfl) rfl,wAN (f:=KL.encT) (sz:=1) (N:=16) az.2.2 (fun _=>rfl) rfl];omega) rfl (wCA (n:=4) rfl (wJf (sz:=1) (fo:=0) (fun _=>rfl) _ _ _ _ gX (zC rfl) rfl)) rfl ?_
          intro eC ge
          have gf:St bC bV [.blk ah 99 ([.slice ai p1.Bout.Shots.length aj,.slice ak p1.Bout.Down.length ap,.slice am p1.Bout.Across.length aq,.map (some ae)] ++ ((hH KL.encI ((az.1.set (ab * 8 + aY.toNat) (w64 ((az.1.get (ab * 8 + aY.toNat)) - 1))).set (ab * 8 + p0.toNat) (w64 (((az.1.set (ab * 8 + aY.toNat) (w64 ((az.1.get (ab * 8 + aY.toNat)) - 1))).get (ab * 8 + p0.toNat)) + 1))).l) ++ ((hH KL.encI az.2.1.l) ++ (hH KL.encT az.2.2.l)))),.obj ae (.map au av),.obj bF bL,.blk bb 3 B2,B1,B0,mks be] eC:=ge
          refine eN (sR (.fx 0 .nil .stop) Z (ZB (j:=4) (vs:=[.bool true]) Z Z Z Z gf Z eT Z Z Zn (zC Z) Z Z Z ?_))
          intro eD gg
          have gh:St bC bV [.blk ah 99 ([.slice ai p1.Bout.Shots.length aj,.slice ak p1.Bout.Down.length ap,.slice am p1.Bout.Across.length aq,.map (some ae)] ++ ((hH KL.encI ((az.1.set (ab * 8 + aY.toNat) (w64 ((az.1.get (ab * 8 + aY.toNat)) - 1))).set (ab * 8 + p0.toNat) (w64 (((az.1.set (ab * 8 + aY.toNat) (w64 ((az.1.get (ab * 8 + aY.toNat)) - 1))).get (ab * 8 + p0.toNat)) + 1))).l) ++ ((hH KL.encI az.2.1.l) ++ (hH KL.encT az.2.2.l)))),.obj ae (.map au av),.obj bF bL,.blk bb 3 B2,.blk bo 4 [.bool true],B0,mks be] eD:=gg
          refine eN (zR (zw ?_))
          have q:=nD ij
          obtain rfl:=q
          exact ⟨_,_,(gh.pick [2,0,1,3,4,5,6] _ (by decide) rfl),rfl,rfl⟩
         ·intro cI ik
          refine zg (congrArg nA (nB.2 cI.out)) (ZJ (zm ?_))
          have q:=nD ik
          obtain rfl:=q
          exact ⟨_,_,(dN.pick [2,0,1,3,4,5,6] _ (by decide) rfl),rfl,rfl⟩
        ·intro bs il
         refine oF Z bs (oF Z bs (Za Z Z Z (zP Z Z (zf bs.out) Z) (oR Z (zX Z (zf bs.out) Z) (eN (zg Z (ZJ (zm ?_)))))))
         have q:=nD il
         obtain rfl:=q
         exact ⟨_,_,bt,Z,Z⟩
      ·rintro bM bD iG bX iw dO
       rcases ec with ⟨ed,ef,eg⟩ | ⟨cp,cq,cr,ei⟩
       ·try dsimp only at cj
        rintro rfl
        have gi:SW w [.blk ah 99 ([.slice ai p1.Bout.Shots.length aj,.slice ak p1.Bout.Down.length ap,.slice am p1.Bout.Across.length aq,.map (some ae)] ++ ((hH KL.encI p1.hits.l) ++ ((hH KL.encI p1.used.l) ++ (hH KL.encT p1.met.l)))),.obj ae (.map au av)] U bD [.blk ah 99 ([.slice ai p1.Bout.Shots.length aj,.slice ak p1.Bout.Down.length ap,.slice am p1.Bout.Across.length aq,.map (some ae)] ++ ((hH KL.encI ed.l) ++ ((hH KL.encI ef.l) ++ (hH KL.encT eg.l)))),.obj ae (.map au av),.blk bb 3 B2,B1,B0,mks be,.obj bM (.deferred (some []))] bX:=dO
        have gj:SW w [.blk ah 99 ([.slice ai p1.Bout.Shots.length aj,.slice ak p1.Bout.Down.length ap,.slice am p1.Bout.Across.length aq,.map (some ae)] ++ ((hH KL.encI p1.hits.l) ++ ((hH KL.encI p1.used.l) ++ (hH KL.encT p1.met.l)))),.obj ae (.map au av)] U bD [mks (bM :: be),.blk ah 99 ([.slice ai p1.Bout.Shots.length aj,.slice ak p1.Bout.Down.length ap,.slice am p1.Bout.Across.length aq,.map (some ae)] ++ ((hH KL.encI ed.l) ++ ((hH KL.encI ef.l) ++ (hH KL.encT eg.l)))),.obj ae (.map au av),.blk bb 3 B2,B1,B0] bX:=(gi.pick [5,6,0,1,2,3,4] _ (by decide) rfl).mksAdd
        refine zm (zm (zL (rR fL2 Z (oR Z (ZC (zd Z dy Z) (congrArg (jV) cU.out)) (oM Z Z (zr ?_))))))
        have q:=nD cj
        obtain rfl:=q
        exact zL ⟨_,rfl,⟨bD,(bM :: be),rfl,rfl,du,dv,dw,cK,dx,(((bB.trans bG).trans bK).trans iw),(gj.pick [4,5,0,1,2] _ (by decide) rfl)⟩⟩
       ·try dsimp only at cj
        rintro rfl
        let B4:Res:=.blk bo 4 [.bool ei]
        have gm:SW w [.blk ah 99 ([.slice ai p1.Bout.Shots.length aj,.slice ak p1.Bout.Down.length ap,.slice am p1.Bout.Across.length aq,.map (some ae)] ++ ((hH KL.encI p1.hits.l) ++ ((hH KL.encI p1.used.l) ++ (hH KL.encT p1.met.l)))),.obj ae (.map au av)] U bD [.blk ah 99 ([.slice ai p1.Bout.Shots.length aj,.slice ak p1.Bout.Down.length ap,.slice am p1.Bout.Across.length aq,.map (some ae)] ++ ((hH KL.encI cp.l) ++ ((hH KL.encI cq.l) ++ (hH KL.encT cr.l)))),.obj ae (.map au av),.blk bb 3 B2,B4,B0,mks be,.obj bM (.deferred (some []))] bX:=dO
        have gp:SW w [.blk ah 99 ([.slice ai p1.Bout.Shots.length aj,.slice ak p1.Bout.Down.length ap,.slice am p1.Bout.Across.length aq,.map (some ae)] ++ ((hH KL.encI p1.hits.l) ++ ((hH KL.encI p1.used.l) ++ (hH KL.encT p1.met.l)))),.obj ae (.map au av)] U bD [mks (bM :: be),.blk ah 99 ([.slice ai p1.Bout.Shots.length aj,.slice ak p1.Bout.Down.length ap,.slice am p1.Bout.Across.length aq,.map (some ae)] ++ ((hH KL.encI cp.l) ++ ((hH KL.encI cq.l) ++ (hH KL.encT cr.l)))),.obj ae (.map au av),.blk bb 3 B2,B4,B0] bX:=(gm.pick [5,6,0,1,2,3,4] _ (by decide) rfl).mksAdd
        refine zw (zw (zW ?_))
        have q:=wBh cj
        obtain ⟨iA,im,eJ⟩:=q
        have q:=wDK ci cb (dW iA eJ)
        obtain rfl:=q
        refine zW (zw (zW (wHg (by first | exact .inl rfl | exact .inr rfl) (rbs:=(bM :: be)) (L:=[.blk ah 99 ([.slice ai p1.Bout.Shots.length aj,.slice ak p1.Bout.Down.length ap,.slice am p1.Bout.Across.length aq,.map (some ae)] ++ ((hH KL.encI cp.l) ++ ((hH KL.encI cq.l) ++ (hH KL.encT cr.l)))),.obj ae (.map au av),.blk bb 3 B2,B4,B0]) gp fun eE gu=>?_)))
        have dP:SW w [.blk ah 99 ([.slice ai p1.Bout.Shots.length aj,.slice ak p1.Bout.Down.length ap,.slice am p1.Bout.Across.length aq,.map (some ae)] ++ ((hH KL.encI p1.hits.l) ++ ((hH KL.encI p1.used.l) ++ (hH KL.encT p1.met.l)))),.obj ae (.map au av)] U bD [.blk ah 99 ([.slice ai p1.Bout.Shots.length aj,.slice ak p1.Bout.Down.length ap,.slice am p1.Bout.Across.length aq,.map (some ae)] ++ ((hH KL.encI cp.l) ++ ((hH KL.encI cq.l) ++ (hH KL.encT cr.l)))),.obj ae (.map au av),.blk bb 3 B2,B4,B0] eE:=gu
        cases im
        exact ⟨_,(wKL (v:=.bool ei) ⟨⟨_,cK,(wOl Try.isAgg4 (dP.blkAt (k:=3) rfl) rfl)⟩,trivial⟩),bD,_,(dP.pick [0,1] _ (by decide) rfl),rfl,rfl⟩
    ·intro cJ io
     refine zt (nF (cJ.out)) (ZV (zu (ZM (zL (rR fL2 Z (oR Z (ZC (zd Z bO Z) (congrArg (jV) cU.out)) (oM Z Z (zr ?_))))))))
     have q:=nD io
     obtain rfl:=q
     exact zL ⟨_,rfl,⟨br,be,rfl,rfl,bp,cO,bN,bY,bZ,(bB.trans bG),(dR.pick [3,4,5,0,1] _ (by decide) rfl)⟩⟩
  ·rintro ⟨cY,cZ,da⟩ D_ je iO ⟨cx,eb,rfl,eW,iW,iX,iY,dB,eV,i0,gv⟩ gJ
   have d8:=wFA ci cb gJ
   try dsimp only at d8
   have eH:Hid (¬ ((↑(((↑p1.Bout.Shots.length:Int):Int) - 0).toNat:Int) < (↑p1.Bout.Shots.length:Int))):=zO (wBe)
   refine sR fL1 Z (oR Z (zh Z eW eV) (eN (zF (cF Z eH (ZV (zu (zu (ZM (zL (sR (.fx 0 .nil .stop) Z (ZB (j:=0) (vs:=[.bool false]) Z Z Z Z gv Z dB Z Z Zn (zC Z) Z Z Z ?_)))))))))))
   intro eF gw
   have gx:SW w [.blk ah 99 ([.slice ai p1.Bout.Shots.length aj,.slice ak p1.Bout.Down.length ap,.slice am p1.Bout.Across.length aq,.map (some ae)] ++ ((hH KL.encI p1.hits.l) ++ ((hH KL.encI p1.used.l) ++ (hH KL.encT p1.met.l)))),.obj ae (.map au av)] U cx [B1,B0,mks eb,.blk ah 99 ([.slice ai p1.Bout.Shots.length aj,.slice ak p1.Bout.Down.length ap,.slice am p1.Bout.Across.length aq,.map (some ae)] ++ ((hH KL.encI cY.l) ++ ((hH KL.encI cZ.l) ++ (hH KL.encT da.l)))),.obj ae (.map au av)] eF:=gw
   refine eN (zR (wHg (by first | exact .inl rfl | exact .inr rfl) (rbs:=eb) (L:=[B1,B0,.blk ah 99 ([.slice ai p1.Bout.Shots.length aj,.slice ak p1.Bout.Down.length ap,.slice am p1.Bout.Across.length aq,.map (some ae)] ++ ((hH KL.encI cY.l) ++ ((hH KL.encI cZ.l) ++ (hH KL.encT da.l)))),.obj ae (.map au av)]) (gx.pick [2,0,1,3,4] _ (by decide) rfl) fun eG gy=>?_))
   have dQ:SW w [.blk ah 99 ([.slice ai p1.Bout.Shots.length aj,.slice ak p1.Bout.Down.length ap,.slice am p1.Bout.Across.length aq,.map (some ae)] ++ ((hH KL.encI p1.hits.l) ++ ((hH KL.encI p1.used.l) ++ (hH KL.encT p1.met.l)))),.obj ae (.map au av)] U cx [B1,B0,.blk ah 99 ([.slice ai p1.Bout.Shots.length aj,.slice ak p1.Bout.Down.length ap,.slice am p1.Bout.Across.length aq,.map (some ae)] ++ ((hH KL.encI cY.l) ++ ((hH KL.encI cZ.l) ++ (hH KL.encT da.l)))),.obj ae (.map au av)] eG:=gy
   cases d8
   exact ⟨_,(wKL (v:=.bool false) ⟨⟨_,dB,(wOl Try.isAgg4 (dQ.blkAt (k:=0) rfl) rfl)⟩,trivial⟩),cx,_,(dQ.pick [2,3] _ (by decide) rfl),rfl,rfl⟩
end Go.Proofs.Ytfcmijinklojbaa
namespace Go.Proofs.Ytfcmijinklojbaa
open Go.KL
set_option maxHeartbeats 4000000
theorem wEU (p0:wAD) (ah:Nat) (ak:Option Addr) (ap:Nat) (ai:Option Addr) (aj:Nat) (am:Option Addr) (aq:Nat) (ab:Nat) (au:Array MapEntry) (av:Nat) (w:World) (U:PHeap) (hS:St0 w U [.blk ah 99 ([.slice ak p0.Bout.Shots.length ap,.slice ai p0.Bout.Down.length aj,.slice am p0.Bout.Across.length aq,.map (some ab)] ++ ((hH KL.encI p0.hits.l) ++ ((hH KL.encI p0.used.l) ++ (hH KL.encT p0.met.l)))),.obj ab (.map au av)]) (bW:Sl U 1 ak ap p0.Bout.Shots.length (hH KL.encI p0.Bout.Shots)) (bX:Sl U 1 ai aj p0.Bout.Down.length (hH KL.encI p0.Bout.Down)) (bY:Sl U 2 am aq p0.Bout.Across.length (hH wAB p0.Bout.Across)) (bZ:MpR au wFL wFc p0.may) {r:(List Int)} (hm:wAr p0=some r):Gv Try.prog 85 [.pointer (some ⟨ah,0,none⟩)] w (wCY w [.blk ah 99 ([.slice ak p0.Bout.Shots.length ap,.slice ai p0.Bout.Down.length aj,.slice am p0.Bout.Across.length aq,.map (some ab)] ++ ((hH KL.encI p0.hits.l) ++ ((hH KL.encI p0.used.l) ++ (hH KL.encT p0.met.l)))),.obj ab (.map au av)] U (fun U_ L_ v=>∃ (A0:Option Addr) (c0:Nat),v=.slice A0 r.length c0/\L_=[.row A0 c0 3 1 (hH KL.encI r),.blk ah 99 ([.slice ak p0.Bout.Shots.length ap,.slice ai p0.Bout.Down.length aj,.slice am p0.Bout.Across.length aq,.map (some ab)] ++ ((hH KL.encI p0.hits.l) ++ ((hH KL.encI p0.used.l) ++ (hH KL.encT p0.met.l)))),.obj ab (.map au av)])):=by
 unfold wAr at hm
 refine Gv.of Try.func85 Z Try.ntmps85 Try.results85 Z (sR fL1 Z (oA Z Z (eN (sR fL1 Z (oA Z Z (eN (zF (sR fL7 Z (oM Z Z (oR Z (zl Z Z) (oR Z (zJ Z Z zU Z zZ) (oR Z (zJ Z Z zE Z zY) (oL Z (hS.ldB (j:=0) Z Z Z zi (v:=.slice ai p0.Bout.Down.length aj) Z) (oR Z (ZA Z Z zB) (oM Z Z (eN (zj (bnK hm fun cb bK bN=>?_))))))))))))))))))
 have q:=wBz bK
 obtain ⟨bh,bL⟩:=q
 replace bh:=zO bh
 refine CK.forN' (fun ae aW σ_ w_=>∃ (U_:PHeap) (az:Option Addr) (aV:Nat),σ_ 11=jV (↑ae:Int)/\σ_ 0=.pointer (some ⟨ah,0,none⟩)/\σ_ 3=.slice az aW.length aV/\σ_ 10=jV (↑p0.Bout.Down.length:Int)/\PHeap.Le U U_/\SW w [.blk ah 99 ([.slice ak p0.Bout.Shots.length ap,.slice ai p0.Bout.Down.length aj,.slice am p0.Bout.Across.length aq,.map (some ab)] ++ ((hH KL.encI p0.hits.l) ++ ((hH KL.encI p0.used.l) ++ (hH KL.encT p0.met.l)))),.obj ab (.map au av)] U U_ [.blk ah 99 ([.slice ak p0.Bout.Shots.length ap,.slice ai p0.Bout.Down.length aj,.slice am p0.Bout.Across.length aq,.map (some ab)] ++ ((hH KL.encI p0.hits.l) ++ ((hH KL.encI p0.used.l) ++ (hH KL.encT p0.met.l)))),.obj ab (.map au av),.row az aV 3 1 (hH KL.encI aW)] w_) bL ?_ ?_ ?_
 have bF:=hS.nilrow 3 1
 exact ⟨U,none,0,rfl,rfl,rfl,rfl,(zk _),(bF.pick [1,2,0] _ (by decide) rfl)⟩
 rintro ae aW b9 cf bT bg ⟨aX,az,aV,aY,ba,bo,bb,br,bf⟩ bS
 have bm:Hid ((↑ae:Int) < (↑p0.Bout.Down.length:Int)):=zO (wCJ bg)
 replace bg:=zO bg
 have bq:Hid (w64 ((↑ae:Int) + 1)=(↑(ae + 1):Int)):=zO (by have h1:=bh.out;have h2:=bm.out;rw [wAX] <;> omega)
 refine sR fL1 rfl (zN rfl rfl rfl rfl (fun _=>zh rfl aY bb) (eN (zF (cT Z bm (kN (zF (zj (sR fL2 rfl (zV rfl rfl rfl rfl rfl aY (OKS.ra rfl rfl rfl rfl rfl rfl (eN (sR fL7 rfl (zV rfl rfl rfl rfl rfl ba (zV rfl rfl rfl rfl rfl rfl (zN rfl rfl rfl rfl (fun _=>zl rfl rfl) (zN rfl rfl rfl rfl (fun _=>zJ rfl rfl zU rfl Try.sizeOf97) (zN rfl rfl rfl rfl (fun _=>ZC (ZR rfl rfl rfl Try.runUnderlying97 Try.sizeOf96 (by decide) (by decide)) rfl) (bnK bS fun _ be bO=>zN rfl rfl rfl rfl (fun _=>ZR rfl rfl rfl Try.runUnderlying96 Zn (wAx be) (wAy be)) ?_))))))))))))))))))
 have bM:=Arr.at_ p0.met (k:=(8 + ae)) (by have hz0:=wAK be;omega)
 refine zq rfl rfl rfl rfl (bf.ldB (j:=0) rfl rfl ((rfl:ev _ _=.pointer (some ⟨ah,84 + ae * 1,none⟩)).trans (wDN (by omega))) Try.isAgg4 (wDM (n:=4) rfl (wDM (n:=64) (wAN (f:=KL.encI) (sz:=1) (N:=64) p0.hits (fun _=>rfl) rfl) (wDM (n:=8) (wAN (f:=KL.encI) (sz:=1) (N:=8) p0.used (fun _=>rfl) rfl) (wQT (sz:=1) (fun _=>rfl) _ _ 0 _ bM rfl))))) rfl (eN (ifc bO ?_ ?_))
 intro aZ bP
 refine zt (congrArg nA aZ.out) (rR gAt Z (oM Z bo (oM Z Z (Zh (pv:=[(0,jV (↑ae:Int))]) (zs:=[jV 0]) (cs:=[jV (↑ae:Int)]) Z Z Z Z Z (wAb Z wAz) zB zD Zi Z Z Z Z Z bf ?_))))
 intro bu bw bG
 let B0:Res:=.row (some ⟨bw,0,none⟩) 1 3 1 (hH KL.encI [(↑ae:Int)])
 have bp:SW w [.blk ah 99 ([.slice ak p0.Bout.Shots.length ap,.slice ai p0.Bout.Down.length aj,.slice am p0.Bout.Across.length aq,.map (some ab)] ++ ((hH KL.encI p0.hits.l) ++ ((hH KL.encI p0.used.l) ++ (hH KL.encT p0.met.l)))),.obj ab (.map au av)] U aX [B0,.blk ah 99 ([.slice ak p0.Bout.Shots.length ap,.slice ai p0.Bout.Down.length aj,.slice am p0.Bout.Across.length aq,.map (some ab)] ++ ((hH KL.encI p0.hits.l) ++ ((hH KL.encI p0.used.l) ++ (hH KL.encT p0.met.l)))),.obj ab (.map au av),.row az aV 3 1 (hH KL.encI aW)] bu:=bG
 refine bnK bP fun x53 bE bQ=>OKS.append (j:=3) (enc:=KL.encI) (xs:=aW) (ys:=[(↑ae:Int)]) (zs:=x53) rfl rfl rfl rfl rfl Try.underlying23 wJT rfl rfl rfl rfl rfl rfl bp rfl rfl rfl (bp.srcR (j:=0) rfl (by decide) (wAG (f:=KL.encI) (sz:=1) (fun _=>rfl) [(↑ae:Int)])) (fun _=>rfl) (fun _=>rfl) bE rfl ?_
 intro bj bn bv bH
 have bI:SW w [.blk ah 99 ([.slice ak p0.Bout.Shots.length ap,.slice ai p0.Bout.Down.length aj,.slice am p0.Bout.Across.length aq,.map (some ab)] ++ ((hH KL.encI p0.hits.l) ++ ((hH KL.encI p0.used.l) ++ (hH KL.encT p0.met.l)))),.obj ab (.map au av)] U aX [B0,.blk ah 99 ([.slice ak p0.Bout.Shots.length ap,.slice ai p0.Bout.Down.length aj,.slice am p0.Bout.Across.length aq,.map (some ab)] ++ ((hH KL.encI p0.hits.l) ++ ((hH KL.encI p0.used.l) ++ (hH KL.encT p0.met.l)))),.obj ab (.map au av),.row bj bn 3 1 (hH KL.encI x53)] bv:=bH
 refine oA Z Z (zr (zm (zL (rR fL2 Z (oR Z (ZC (zd Z aY Z) (congrArg (jV) bq.out)) (oM Z Z (zr ?_)))))))
 cases bQ
 exact zL ⟨rfl,⟨aX,bj,bn,rfl,ba,rfl,bb,br,(bI.pick [1,2,3] _ (by decide) rfl)⟩⟩
 intro aZ bR
 refine zg (congrArg nA (nB.2 aZ.out)) (ZJ (zm (zL (rR fL2 Z (oR Z (ZC (zd Z aY Z) (congrArg (jV) bq.out)) (oM Z Z (zr ?_)))))))
 cases bR
 exact zL ⟨Z,⟨aX,az,aV,Z,ba,bo,bb,br,bf⟩⟩
 rintro cg bU ⟨bt,bs,bz,bD,bV,bB,bC,b5,bJ⟩
 have bA:Hid (¬ ((↑(((↑p0.Bout.Down.length:Int):Int) - 0).toNat:Int) < (↑p0.Bout.Down.length:Int))):=zO (wBe)
 refine sR fL1 Z (oR Z (zh Z bD bC) (eN (zF (cF Z bA (ZV (zu (zu (ZM (zL (sR fL2 Z (oM Z bB (oA Z Z (eN (zR ?_))))))))))))))
 have hE:=nD bN;first | subst r | cases hE
 exact ⟨rfl,_,(zx rfl),bt,_,(bJ.pick [2,0,1] _ (by decide) rfl),bs,bz,rfl,rfl⟩
theorem wAm (p0:wAD) (ah:Nat) (aj:Option Addr) (am:Nat) (ae:Option Addr) (ai:Nat) (ak:Option Addr) (ap:Nat) (ab:Nat) (aq:Array MapEntry) (au:Nat) (w:World) (U:PHeap) (hS:St0 w U [.blk ah 99 ([.slice aj p0.Bout.Shots.length am,.slice ae p0.Bout.Down.length ai,.slice ak p0.Bout.Across.length ap,.map (some ab)] ++ ((hH KL.encI p0.hits.l) ++ ((hH KL.encI p0.used.l) ++ (hH KL.encT p0.met.l)))),.obj ab (.map aq au)]) (dO:Sl U 1 aj am p0.Bout.Shots.length (hH KL.encI p0.Bout.Shots)) (dP:Sl U 1 ae ai p0.Bout.Down.length (hH KL.encI p0.Bout.Down)) (dQ:Sl U 2 ak ap p0.Bout.Across.length (hH wAB p0.Bout.Across)) (cq:MpR aq wFL wFc p0.may) {r:(List Int) × (Arr Int 64 × Arr Int 8 × Arr Bool 16)} (hm:wAI p0=some r):Gv Try.prog 46 [.pointer (some ⟨ah,0,none⟩)] w (wCY w [.blk ah 99 ([.slice aj p0.Bout.Shots.length am,.slice ae p0.Bout.Down.length ai,.slice ak p0.Bout.Across.length ap,.map (some ab)] ++ ((hH KL.encI p0.hits.l) ++ ((hH KL.encI p0.used.l) ++ (hH KL.encT p0.met.l)))),.obj ab (.map aq au)] U (fun U_ L_ v=>∃ (A0:Option Addr) (c0:Nat),v=.slice A0 r.1.length c0/\L_=[.row A0 c0 3 1 (hH KL.encI r.1),.blk ah 99 ([.slice aj p0.Bout.Shots.length am,.slice ae p0.Bout.Down.length ai,.slice ak p0.Bout.Across.length ap,.map (some ab)] ++ ((hH KL.encI r.2.1.l) ++ ((hH KL.encI r.2.2.1.l) ++ (hH KL.encT r.2.2.2.l)))),.obj ab (.map aq au)]/\(r.1=[]->A0=none))):=by
 unfold wAI at hm
 refine Gv.of Try.func46 Z Try.ntmps46 Try.results46 Z (sR gAg Z ?_)
 let B0:List Value:=[.pointer (some ⟨ah,0,none⟩)]
 refine ZH (cs:=B0) rfl rfl rfl rfl rfl rfl (by rfl) hS ?_
 intro W3 b4 dN
 have q:=dN.freeze (k:=0) rfl
 obtain ⟨U7,bE,aZ,dA⟩:=q
 replace aZ:=Cl.of aZ
 have dB:SW w [.blk ah 99 ([.slice aj p0.Bout.Shots.length am,.slice ae p0.Bout.Down.length ai,.slice ak p0.Bout.Across.length ap,.map (some ab)] ++ ((hH KL.encI p0.hits.l) ++ ((hH KL.encI p0.used.l) ++ (hH KL.encT p0.met.l)))),.obj ab (.map aq au)] U U7 [.blk ah 99 ([.slice aj p0.Bout.Shots.length am,.slice ae p0.Bout.Down.length ai,.slice ak p0.Bout.Across.length ap,.map (some ab)] ++ ((hH KL.encI p0.hits.l) ++ ((hH KL.encI p0.used.l) ++ (hH KL.encT p0.met.l)))),.obj ab (.map aq au)] W3:=dA
 replace aZ:Cl U7 b4 0 B0:=aZ
 refine oA Z Z (eN (sR (.fx 0 .nil .stop) Z (ZW (cs:=[.nilFunc]) Z Z Z Z Z Try.zeroValue74 Z dB ?_)))
 intro eu aX dE
 refine eN (sR gAi Z (oR Z (Runs.mkf Z zQ (zA Z (zA Z zQ))) ?_))
 let B1:List Value:=[.func (.func 84) #[] #[.pointer (some ⟨b4,0,none⟩),.pointer (some ⟨aX,0,none⟩)]]
 refine ZB (j:=0) (vs:=B1) Z Z Z Z dE Z Z Z Z Try.sizeOf74 (zC Z) Z Z Z ?_
 intro bM dH
 have bu:SW w [.blk ah 99 ([.slice aj p0.Bout.Shots.length am,.slice ae p0.Bout.Down.length ai,.slice ak p0.Bout.Across.length ap,.map (some ab)] ++ ((hH KL.encI p0.hits.l) ++ ((hH KL.encI p0.used.l) ++ (hH KL.encT p0.met.l)))),.obj ab (.map aq au)] U U7 [.blk aX 74 B1,.blk ah 99 ([.slice aj p0.Bout.Shots.length am,.slice ae p0.Bout.Down.length ai,.slice ak p0.Bout.Across.length ap,.map (some ab)] ++ ((hH KL.encI p0.hits.l) ++ ((hH KL.encI p0.used.l) ++ (hH KL.encT p0.met.l)))),.obj ab (.map aq au)] bM:=dH
 refine eN (zF (sR fL7 Z (oL Z (bu.ldC (f:=0) aZ (v:=.pointer (some ⟨ah,0,none⟩)) Z Z ZI Z) (oR Z (zl Z Z) (oR Z (zJ Z Z zU Z zZ) (oR Z (zJ Z Z zE Z zY) (oL Z (bu.ldB (j:=1) Z Z Z zi (v:=.slice ae p0.Bout.Down.length ai) Z) (oR Z (ZA Z Z zB) (oM Z Z (eN (zj ?_)))))))))))
 have q:=bu.freeze (k:=0) rfl
 obtain ⟨bi,bl,be,dL⟩:=q
 replace be:=Cl.of be
 have dM:SW w [.blk ah 99 ([.slice aj p0.Bout.Shots.length am,.slice ae p0.Bout.Down.length ai,.slice ak p0.Bout.Across.length ap,.map (some ab)] ++ ((hH KL.encI p0.hits.l) ++ ((hH KL.encI p0.used.l) ++ (hH KL.encT p0.met.l)))),.obj ab (.map aq au)] U bi [.blk ah 99 ([.slice aj p0.Bout.Shots.length am,.slice ae p0.Bout.Down.length ai,.slice ak p0.Bout.Across.length ap,.map (some ab)] ++ ((hH KL.encI p0.hits.l) ++ ((hH KL.encI p0.used.l) ++ (hH KL.encT p0.met.l)))),.obj ab (.map aq au)] bM:=dL
 replace be:Cl bi aX 0 B1:=be
 have q:=wDe hm
 obtain ⟨eL,bv⟩:=q
 have q:=wDd bv
 obtain ⟨bB,dV⟩:=q
 replace bB:=zO bB
 refine CK.forN (fun az (bN,bO,bP) σ_ w_=>∃ (U_:PHeap),σ_ 13=jV (↑az:Int)/\σ_ 1=.pointer (some ⟨b4,0,none⟩)/\σ_ 3=.pointer (some ⟨aX,0,none⟩)/\σ_ 11=.slice ae p0.Bout.Down.length ai/\σ_ 12=jV (↑p0.Bout.Down.length:Int)/\PHeap.Le bi U_/\SW w [.blk ah 99 ([.slice aj p0.Bout.Shots.length am,.slice ae p0.Bout.Down.length ai,.slice ak p0.Bout.Across.length ap,.map (some ab)] ++ ((hH KL.encI p0.hits.l) ++ ((hH KL.encI p0.used.l) ++ (hH KL.encT p0.met.l)))),.obj ab (.map aq au)] U U_ [.blk ah 99 ([.slice aj p0.Bout.Shots.length am,.slice ae p0.Bout.Down.length ai,.slice ak p0.Bout.Across.length ap,.map (some ab)] ++ ((hH KL.encI bN.l) ++ ((hH KL.encI bO.l) ++ (hH KL.encT bP.l)))),.obj ab (.map aq au)] w_) dV ?_ ?_ ?_
 exact ⟨bi,Z,Z,Z,Z,Z,(zk _),dM⟩
 rintro az ⟨bN,bO,bP⟩ eS fd eA bz ⟨bI,bk,cS,cU,bX,bY,ba,cn⟩ cw dT
 try dsimp only at cw
 have bT:Hid ((↑az:Int) < (↑p0.Bout.Down.length:Int)):=zO (wCJ bz)
 replace bz:=zO bz
 have dY:Hid (w64 ((↑az:Int) + 1)=(↑(az + 1):Int)):=zO (by have h1:=bB.out;have h2:=bT.out;rw [wAX] <;> omega)
 refine sR fL1 Z (oR Z (zh Z bk bY) (eN (zF (cT Z bT (kN (zF (zj (sR fL5 Z (oM Z bk (bnK cw fun bh cg bD=>?_))))))))))
 have dv:=dP.le bE
 have dw:=dv.le bl
 have ci:=dw.le ba
 have q:=ci.el (fun _=>rfl) (wBo cg)
 obtain ⟨eD,eK,dx,dy⟩:=q
 refine oR Z (Zb Z bX dx bk zB zD (wEZ cg)) (oL Z (cn.ldC (f:=0) dy (v:=jV bh) Z Z zM Z) (oA Z Z (oA Z Z (eN (sR fL2 Z (oM Z Z (oM Z Z (eN (zj ?_)))))))))
 have q:=wDe bD
 obtain ⟨eM,bw⟩:=q
 have q:=wDd bw
 obtain ⟨bC,dW⟩:=q
 replace bC:=zO bC
 refine CK.forN (fun bf (aV,aW,bj) σ_ w_=>∃ (U_:PHeap),σ_ 19=jV (↑bf:Int)/\σ_ 1=.pointer (some ⟨b4,0,none⟩)/\σ_ 3=.pointer (some ⟨aX,0,none⟩)/\σ_ 4=jV (↑az:Int)/\σ_ 11=.slice ae p0.Bout.Down.length ai/\σ_ 12=jV (↑p0.Bout.Down.length:Int)/\σ_ 13=jV (↑az:Int)/\σ_ 18=jV bh/\PHeap.Le bI U_/\SW w [.blk ah 99 ([.slice aj p0.Bout.Shots.length am,.slice ae p0.Bout.Down.length ai,.slice ak p0.Bout.Across.length ap,.map (some ab)] ++ ((hH KL.encI p0.hits.l) ++ ((hH KL.encI p0.used.l) ++ (hH KL.encT p0.met.l)))),.obj ab (.map aq au)] U U_ [.blk ah 99 ([.slice aj p0.Bout.Shots.length am,.slice ae p0.Bout.Down.length ai,.slice ak p0.Bout.Across.length ap,.map (some ab)] ++ ((hH KL.encI aV.l) ++ ((hH KL.encI aW.l) ++ (hH KL.encT bj.l)))),.obj ab (.map aq au)] w_) dW ?_ ?_ ?_
 exact ⟨bI,Z,cS,cU,Z,bX,bY,bk,Z,(zk _),cn⟩
 rintro bf ⟨aV,aW,bj⟩ eT ff eC bA ⟨bJ,bZ,br,bU,bV,cH,cI,cJ,bW,bb,cp⟩ cx dU
 try dsimp only at cx
 have bR:Hid ((↑bf:Int) < bh):=zO (wCJ bA)
 replace bA:=zO bA
 have dX:Hid (w64 ((↑bf:Int) + 1)=(↑(bf + 1):Int)):=zO (by have h1:=bC.out;have h2:=bR.out;rw [wAX] <;> omega)
 refine sR fL1 Z (oR Z (zh Z bZ bW) (eN (zF (cT Z bR (kN (zF (zj (sR (wIA (.fx 4 .nil .stop)) Z ?_))))))))
 have cX:=aZ.le bl
 have cY:=cX.le ba
 have bs:=cY.le bb
 refine zq rfl rfl rfl rfl (cp.ldC (f:=0) bs (v:=.pointer (some ⟨ah,0,none⟩)) rfl br ZI rfl) rfl (zN rfl rfl rfl rfl (fun _=>zl rfl rfl) (zN rfl rfl rfl rfl (fun _=>zJ rfl rfl zU rfl Try.sizeOf97) (zN rfl rfl rfl rfl (fun _=>Runs.slA rfl rfl Try.runUnderlying97 Try.sizeOf96) (OKS.clearB (j:=0) (off:=76) (vs:=hH KL.encT (Arr.fill 16 false).l) (cs':=[.slice aj p0.Bout.Shots.length am,.slice ae p0.Bout.Down.length ai,.slice ak p0.Bout.Across.length ap,.map (some ab)] ++ ((hH KL.encI aV.l) ++ ((hH KL.encI aW.l) ++ (hH KL.encT (Arr.fill 16 false).l)))) rfl rfl rfl rfl cp rfl rfl Try.runUnderlying139 Try.zeroValue96 (by kernel_rfl) (by simp only [nM,nO,nQ,wAN (f:=KL.encI) (sz:=1) (N:=64) aV (fun _=>rfl) rfl,wAN (f:=KL.encI) (sz:=1) (N:=8) aW (fun _=>rfl) rfl,wAN (f:=KL.encT) (sz:=1) (N:=16) bj (fun _=>rfl) rfl,wAN (f:=KL.encT) (sz:=1) (N:=16) (Arr.fill 16 false) (fun _=>rfl) rfl];omega) (wIJ (fun _=>rfl) _) (wCA (n:=4) rfl (wCA (n:=64) (wAN (f:=KL.encI) (sz:=1) (N:=64) aV (fun _=>rfl) rfl) (wCA (n:=8) (wAN (f:=KL.encI) (sz:=1) (N:=8) aW (fun _=>rfl) rfl) (wNS _ _ (by rw [wAN (f:=KL.encT) (sz:=1) (N:=16) (Arr.fill 16 false) (fun _=>rfl) rfl,wAN (f:=KL.encT) (sz:=1) (N:=16) bj (fun _=>rfl) rfl]))))) rfl ?_))))
 intro bK dC
 have cj:SW w [.blk ah 99 ([.slice aj p0.Bout.Shots.length am,.slice ae p0.Bout.Down.length ai,.slice ak p0.Bout.Across.length ap,.map (some ab)] ++ ((hH KL.encI p0.hits.l) ++ ((hH KL.encI p0.used.l) ++ (hH KL.encT p0.met.l)))),.obj ab (.map aq au)] U bJ [.blk ah 99 ([.slice aj p0.Bout.Shots.length am,.slice ae p0.Bout.Down.length ai,.slice ak p0.Bout.Across.length ap,.map (some ab)] ++ ((hH KL.encI aV.l) ++ ((hH KL.encI aW.l) ++ (hH KL.encT (Arr.fill 16 false).l)))),.obj ab (.map aq au)] bK:=dC
 refine eN (sR gAp Z ?_)
 have cZ:=be.le ba
 have b5:=cZ.le bb
 refine oL Z (cj.ldC (f:=0) b5 (v:=.func (.func 84) #[] #[.pointer (some ⟨b4,0,none⟩),.pointer (some ⟨aX,0,none⟩)]) Z bU Try.isAgg74 Z) (oM Z bV ?_)
 have da:=dO.le bE
 have db:=da.le bl
 have de:=db.le ba
 have b9:=de.le bb
 have cb:=ci.le bb
 have df:=dQ.le bE
 have dg:=df.le bl
 have dh:=dg.le ba
 have cf:=dh.le bb
 have q:=bnd cx
 obtain ⟨⟨eQ,av⟩,dk,cr⟩:=q
 try dsimp only at cr
 refine zH 2 Z Z Z Z (zG Z Z Try.call84 (zA Z zQ) Z) cj (fun hs=>wEJ 1000 (↑az:Int) (⟨p0.Bout,p0.may,aV,aW,(Arr.fill 16 false)⟩:wAD) b4 ah aj am ae ai ak ap ab aq au () aX bK bJ hs bs b9 cb cf cq b5 dk) (.inl Z) ?_
 rintro bo ej eO bL bg dD ⟨rfl,rfl⟩
 have bt:SW w [.blk ah 99 ([.slice aj p0.Bout.Shots.length am,.slice ae p0.Bout.Down.length ai,.slice ak p0.Bout.Across.length ap,.map (some ab)] ++ ((hH KL.encI p0.hits.l) ++ ((hH KL.encI p0.used.l) ++ (hH KL.encT p0.met.l)))),.obj ab (.map aq au)] U bo [.blk ah 99 ([.slice aj p0.Bout.Shots.length am,.slice ae p0.Bout.Down.length ai,.slice ak p0.Bout.Across.length ap,.map (some ab)] ++ ((hH KL.encI av.1.l) ++ ((hH KL.encI av.2.1.l) ++ (hH KL.encT av.2.2.l)))),.obj ab (.map aq au)] bL:=dD
 refine oR Z (ZE Z Z) (eN (ifc cr ?_ ?_))
 intro bq dZ
 refine zg (nC bq.out) (ZJ (zm (zL (rR fL2 Z (oR Z (ZC (zd Z bZ Z) (congrArg (jV) dX.out)) (oM Z Z (zr ?_)))))))
 have q:=nD dZ
 obtain rfl:=q
 exact zL ⟨Z,_,Z,⟨bo,Z,br,bU,bV,cH,cI,cJ,bW,(bb.trans bg),bt⟩⟩
 intro bq d7
 refine zt (nF (bq.out)) (sR gAl Z ?_)
 have dm:=bs.le bg
 refine oL Z (bt.ldC (f:=0) dm (v:=.pointer (some ⟨ah,0,none⟩)) Z br ZI Z) ?_
 have dp:=b9.le bg
 have dq:=cb.le bg
 have dr:=cf.le bg
 refine bnK d7 fun ei dt d8=>zH 2 Z Z Z Z (zG Z Z Try.call85 (zA Z zQ) Z) bt (fun hs=>wEU (⟨p0.Bout,p0.may,av.1,av.2.1,av.2.2⟩:wAD) ah aj am ae ai ak ap ab aq au bL bo hs dp dq dr cq dt) (.inl Z) ?_
 rintro bH en eP cA eI dF ⟨bF,bS,rfl,rfl⟩
 have dG:SW w [.blk ah 99 ([.slice aj p0.Bout.Shots.length am,.slice ae p0.Bout.Down.length ai,.slice ak p0.Bout.Across.length ap,.map (some ab)] ++ ((hH KL.encI p0.hits.l) ++ ((hH KL.encI p0.used.l) ++ (hH KL.encT p0.met.l)))),.obj ab (.map aq au)] U bH [.row bF bS 3 1 (hH KL.encI ei),.blk ah 99 ([.slice aj p0.Bout.Shots.length am,.slice ae p0.Bout.Down.length ai,.slice ak p0.Bout.Across.length ap,.map (some ab)] ++ ((hH KL.encI av.1.l) ++ ((hH KL.encI av.2.1.l) ++ (hH KL.encT av.2.2.l)))),.obj ab (.map aq au)] cA:=dF
 refine oA Z Z (eN (zR (zw (zW ?_))))
 have q:=wBh d8
 obtain ⟨ef,d9,cE⟩:=q
 have q:=wDK bD bw (dU ef cE)
 obtain rfl:=q
 refine zW (zw (zw (zW ?_)))
 have q:=wBh d9
 obtain ⟨eg,eb,cG⟩:=q
 have q:=wDK hm bv (dT eg cG)
 obtain rfl:=q
 refine zW (zw (zW (bnK eb fun eR du ec=>?_)))
 cases ec
 exact ⟨Z,_,(zx Z),bH,_,dG,bF,bS,Z,Z,(fun h=>absurd h (wNX du))⟩
 rintro ⟨eU,eV,eW⟩ fb ey ⟨cy,cV,cK,cM,eE,cN,cO,cP,cQ,ed,dI⟩ dR
 have ct:=wFA bD bw dR
 try dsimp only at ct
 have cC:Hid (¬ ((↑((bh:Int) - 0).toNat:Int) < bh)):=zO (wBe)
 refine sR fL1 Z (oR Z (zh Z cV cQ) (eN (zF (cF Z cC (ZV (zu (zu (ZM (zm (zL (rR fL2 Z (oR Z (ZC (zd Z cP Z) (congrArg (jV) dY.out)) (oM Z Z (zr ?_))))))))))))))
 have q:=nD ct
 obtain rfl:=q
 exact zL ⟨Z,_,Z,⟨cy,Z,cK,cM,cN,cO,(ba.trans ed),dI⟩⟩
 rintro ⟨eX,eY,eZ⟩ fc ez ⟨cz,cW,eF,eG,eH,cR,eJ,dJ⟩ dS
 have cu:=wFA hm bv dS
 try dsimp only at cu
 have cD:Hid (¬ ((↑(((↑p0.Bout.Down.length:Int):Int) - 0).toNat:Int) < (↑p0.Bout.Down.length:Int))):=zO (wBe)
 refine sR fL1 Z (oR Z (zh Z cW cR) (eN (zF (cF Z cD (ZV (zu (zu (ZM (zL (sR fL1 Z (oA Z Z (eN (zR ?_)))))))))))))
 have dK:=dJ.nilrow 3 1
 cases cu
 exact ⟨Z,_,(zx Z),cz,_,dK,none,0,Z,Z,(fun _=>Z)⟩
theorem wDt (p0:wAC) (aY:Option Addr) (ba:Nat) (aZ:Option Addr) (bb:Nat) (bi:Option Addr) (bj:Nat) (p1:Int) (p2:Int) (w:World) (U:PHeap) (hS:St0 w U []) (cD:Sl U 1 aY ba p0.Shots.length (hH KL.encI p0.Shots)) (cE:Sl U 1 aZ bb p0.Down.length (hH KL.encI p0.Down)) (cG:Sl U 2 bi bj p0.Across.length (hH wAB p0.Across)) {r:(Option wAD) × Int} (hm:wBf p0 p1 p2=some r):Gv Try.prog 49 [.agg #[.slice aY p0.Shots.length ba,.slice aZ p0.Down.length bb,.slice bi p0.Across.length bj],jV p1,jV p2] w (wCY w [] U (fun U_ L_ v=>match r.1 with | none=>v=.tuple #[.pointer none,jV r.2]/\L_=[] | some d=>∃ (b0:Nat) (A0p00:Option Addr) (c0p00:Nat) (A0p01:Option Addr) (c0p01:Nat) (A0p02:Option Addr) (c0p02:Nat) (m0p1:Nat) (es0p1:Array MapEntry) (ck0p1:Nat),v=.tuple #[.pointer (some ⟨b0,0,none⟩),jV r.2]/\L_=[.blk b0 99 ([.slice A0p00 d.Bout.Shots.length c0p00,.slice A0p01 d.Bout.Down.length c0p01,.slice A0p02 d.Bout.Across.length c0p02,.map (some m0p1)] ++ ((hH KL.encI d.hits.l) ++ ((hH KL.encI d.used.l) ++ (hH KL.encT d.met.l)))),.obj m0p1 (.map es0p1 ck0p1)]/\Sl U_ 1 A0p00 c0p00 d.Bout.Shots.length (hH KL.encI d.Bout.Shots)/\Sl U_ 1 A0p01 c0p01 d.Bout.Down.length (hH KL.encI d.Bout.Down)/\Sl U_ 2 A0p02 c0p02 d.Bout.Across.length (hH wAB d.Bout.Across)/\MpR es0p1 wFL wFc d.may)):=by
 unfold wBf at hm
 refine Gv.of Try.func49 Z Try.ntmps49 Try.results49 Z (sR gAo Z ?_)
 let B0:List Value:=[.slice aY p0.Shots.length ba,.slice aZ p0.Down.length bb,.slice bi p0.Across.length bj]
 refine ZH (cs:=B0) rfl rfl rfl rfl rfl rfl (by rfl) hS ?_
 intro W1 b2 bP
 refine oA Z Z (oA Z Z (eN (sR (.fl 0 (.fx 1 (wJa (.nil)) .stop)) Z (oL Z (bP.ldBA (j:=0) Z Z Z ZD zZ (vs:=B0) Z Z) ?_))))
 have q:=bnd hm
 obtain ⟨⟨x5,x6⟩,h7,be⟩:=q
 try dsimp only at be
 refine zH 0 Z Z Z Z (zG Z Z Try.call69 (zA Z zQ) Z) bP (fun hs=>wCQ p0 aY ba aZ bb bi bj W1 U hs cD cE cG h7) (.inr Z) ?_
 rintro U9 de du bf dp bO bN
 rcases x5 with _ | x26
 try dsimp only at be
 obtain ⟨rfl,rfl⟩:=bN
 have bu:sW w U U9 [.blk b2 26 B0] bf:=bO
 refine oM Z Z (oR Z (zo Z Z (v:=.pointer none) Z) (oR Z (zo Z Z (v:=jV x6) Z) (oA Z Z (oA Z Z (eN (zF (zj (sR fL3 Z (oM Z Z (oR Z (zy Z Z Z) (oA Z Z (eN (ifc be ?_ ?_)))))))))))))
 intro bp cN
 refine zg (zf (fun h=>h bp.out)) (sR (wGw (.fx 5 (wOc (.fx 13 (wNH (.nil)) .stop)) .stop)) Z (oM Z Z (oR Z (zJ Z Z zE Z zY) (oL Z (bu.ldB (j:=0) Z Z Z zi (v:=.slice aY p0.Shots.length ba) Z) (oR Z (ZA Z Z zB) (oR Z (ZY Z Z Z) (bnK cN fun dA cb cO=>zH 0 Z Z Z Z (zG Z Z Ze (zA Z (zA Z (zA Z zQ))) Z) bu (fun hs=>wAY p1 0 (w64 ((↑p0.Shots.length:Int) - 1)) bf U9 hs cb) (.inr Z) ?_)))))))
 rintro bl dg dv bF dq cy ⟨rfl,rfl⟩
 have bv:sW w U bl [.blk b2 26 B0] bF:=cy
 refine oR Z (ZE Z Z) (oM Z Z (ifc cO ?_ ?_))
 intro ab cP
 refine zV Z Z Z (zK Z Z (nC ab.out)) Z Z (zN Z Z Z (zK Z Z (nC ab.out)) (fun _=>zJ Z Z zE Z zY) (zq Z Z Z (zK Z Z (nC ab.out)) (bv.ldB (j:=0) Z Z Z zi (v:=.slice aZ p0.Down.length bb) Z) Z (zN Z Z Z (zK Z Z (nC ab.out)) (fun _=>ZA Z Z zB) (zN Z Z Z (zK Z Z (nC ab.out)) (fun _=>ZY Z Z Z) (bnK cP fun x42 cf cQ=>zH 0 Z Z Z (zK Z Z (nC ab.out)) (zG Z Z Ze (zA Z (zA Z (zA Z zQ))) Z) bv (fun hs=>wAY p2 0 (w64 ((↑p0.Down.length:Int) - 1)) bF bl hs cf) (.inr Z) ?_)))))
 rintro bE dh dw bV dr cz ⟨rfl,rfl⟩
 have cA:sW w U bE [.blk b2 26 B0] bV:=cz
 refine zN Z Z Z (zK Z Z (nC ab.out)) (fun _=>ZE Z Z) (oR Z (zX Z (nC ab.out) Z) (oA Z Z (eN (ifc cQ ?_ ?_))))
 intro bq cR
 refine zg (nC bq.out) (sR gAr Z (oM Z Z ?_))
 cases cR
 intro bq cS
 refine zt (nF (bq.out)) (sR fL2 Z (oA Z Z (oA Z Z (eN (zR (zw (zW ?_)))))))
 cases cS
 exact ⟨rfl,_,(wFh rfl rfl),bE,_,(cA.pick [] _ (by decide) rfl),rfl,rfl⟩
 intro ab cU
 refine zI Z Z Z (zP Z Z (nF (ab.out)) Z) (zI Z Z Z (zP Z Z (nF (ab.out)) Z) (zI Z Z Z (zP Z Z (nF (ab.out)) Z) (zI Z Z Z (zP Z Z (nF (ab.out)) Z) (zI Z Z Z (zP Z Z (nF (ab.out)) Z) (Za Z Z Z (zP Z Z (nF (ab.out)) Z) (zI Z Z Z (zP Z Z (nF (ab.out)) Z) (oR Z (zS Z (nF (ab.out)) Z) (oA Z Z (eN (zt Z (sR fL2 Z (oA Z Z (oA Z Z (eN (zR (zw (zW ?_)))))))))))))))))
 cases cU
 exact ⟨rfl,_,(wFh rfl rfl),bl,_,(bv.pick [] _ (by decide) rfl),rfl,rfl⟩
 intro bp cV
 refine cT Z bp (sR fL3 Z (oM Z Z (oA Z Z (oA Z Z (eN (zR (zw (zW ?_))))))))
 cases cV
 exact ⟨rfl,_,(wFh rfl rfl),U9,_,(bu.pick [] _ (by decide) rfl),rfl,rfl⟩
 try dsimp only at be
 obtain ⟨aj,am,av,ap,az,aq,aV,ah,aX,aW,rfl,rfl,cg,ci,cj,bJ⟩:=bN
 have bw:sW w U U9 [.blk aj 99 ([.slice am x26.Bout.Shots.length av,.slice ap x26.Bout.Down.length az,.slice aq x26.Bout.Across.length aV,.map (some ah)] ++ ((hH KL.encI x26.hits.l) ++ ((hH KL.encI x26.used.l) ++ (hH KL.encT x26.met.l)))),.obj ah (.map aX aW),.blk b2 26 B0] bf:=bO
 refine oM Z Z (oR Z (zo Z Z (v:=.pointer (some ⟨aj,0,none⟩)) Z) (oR Z (zo Z Z (v:=jV x6) Z) (oA Z Z (oA Z Z (eN (zF (zj (sR fL3 Z (oM Z Z (oR Z (zy Z Z Z) (oA Z Z (eN (ifc be ?_ ?_)))))))))))))
 intro br cW
 refine zg (zf (fun h=>h br.out)) (sR (wGw (.fx 5 (wOc (.fx 13 (wNH (.nil)) .stop)) .stop)) Z (oM Z Z (oR Z (zJ Z Z zE Z zY) (oL Z (bw.ldB (j:=2) Z Z Z zi (v:=.slice aY p0.Shots.length ba) Z) (oR Z (ZA Z Z zB) (oR Z (ZY Z Z Z) (bnK cW fun dB cn cX=>zH 0 Z Z Z Z (zG Z Z Ze (zA Z (zA Z (zA Z zQ))) Z) bw (fun hs=>wAY p1 0 (w64 ((↑p0.Shots.length:Int) - 1)) bf U9 hs cn) (.inr Z) ?_)))))))
 rintro bm dk dx bG bB cB ⟨rfl,rfl⟩
 have bz:sW w U bm [.blk aj 99 ([.slice am x26.Bout.Shots.length av,.slice ap x26.Bout.Down.length az,.slice aq x26.Bout.Across.length aV,.map (some ah)] ++ ((hH KL.encI x26.hits.l) ++ ((hH KL.encI x26.used.l) ++ (hH KL.encT x26.met.l)))),.obj ah (.map aX aW),.blk b2 26 B0] bG:=cB
 refine oR Z (ZE Z Z) (oM Z Z (ifc cX ?_ ?_))
 intro ae cY
 refine zV Z Z Z (zK Z Z (nC ae.out)) Z Z (zN Z Z Z (zK Z Z (nC ae.out)) (fun _=>zJ Z Z zE Z zY) (zq Z Z Z (zK Z Z (nC ae.out)) (bz.ldB (j:=2) Z Z Z zi (v:=.slice aZ p0.Down.length bb) Z) Z (zN Z Z Z (zK Z Z (nC ae.out)) (fun _=>ZA Z Z zB) (zN Z Z Z (zK Z Z (nC ae.out)) (fun _=>ZY Z Z Z) (bnK cY fun x78 cq cZ=>zH 0 Z Z Z (zK Z Z (nC ae.out)) (zG Z Z Ze (zA Z (zA Z (zA Z zQ))) Z) bz (fun hs=>wAY p2 0 (w64 ((↑p0.Down.length:Int) - 1)) bG bm hs cq) (.inr Z) ?_)))))
 rintro bn dm dy bH bC cC ⟨rfl,rfl⟩
 have bQ:sW w U bn [.blk aj 99 ([.slice am x26.Bout.Shots.length av,.slice ap x26.Bout.Down.length az,.slice aq x26.Bout.Across.length aV,.map (some ah)] ++ ((hH KL.encI x26.hits.l) ++ ((hH KL.encI x26.used.l) ++ (hH KL.encT x26.met.l)))),.obj ah (.map aX aW),.blk b2 26 B0] bH:=cC
 refine zN Z Z Z (zK Z Z (nC ae.out)) (fun _=>ZE Z Z) (oR Z (zX Z (nC ae.out) Z) (oA Z Z (eN (ifc cZ ?_ ?_))))
 intro bs da
 refine zg (nC bs.out) (sR gAr Z (oM Z Z ?_))
 have cr:=cg.le bB
 have bK:=cr.le bC
 have ct:=ci.le bB
 have bL:=ct.le bC
 have cu:=cj.le bB
 have bM:=cu.le bC
 have q:=bnd da
 obtain ⟨⟨x96,x97⟩,cw,bR⟩:=q
 try dsimp only at bR
 refine zH 2 Z Z Z Z (zG Z Z Try.call46 (zA Z zQ) Z) bQ (fun hs=>wAm x26 aj am av ap az aq aV ah aX aW bH bn hs bK bL bM bJ cw) (.inl Z) ?_
 rintro bk df dt bU bA cx ⟨bD,bW,rfl,rfl,bX⟩
 have bt:sW w U bk [.row bD bW 3 1 (hH KL.encI x96),.blk aj 99 ([.slice am x26.Bout.Shots.length av,.slice ap x26.Bout.Down.length az,.slice aq x26.Bout.Across.length aV,.map (some ah)] ++ ((hH KL.encI x97.1.l) ++ ((hH KL.encI x97.2.1.l) ++ (hH KL.encT x97.2.2.l)))),.obj ah (.map aX aW),.blk b2 26 B0] bU:=cx
 have bY:bD.isNone=decide (x96=[]):=wGU (j:=0) bt rfl (fun _=>rfl) (by decide) bX
 refine zN rfl rfl rfl rfl (fun _=>Runs.neNilR (b:=decide (¬ (x96=[]))) rfl rfl rfl zB (by simp [bY])) (OKS.ra rfl rfl rfl rfl rfl rfl (eN (ifc bR ?_ ?_)))
 intro bo cH
 refine zg (zf (fun h=>h bo.out)) (ZJ (zm (zL (sR fL3 Z (oM Z Z (oA Z Z (oA Z Z (eN (zR ?_)))))))))
 have bZ:=bK.le bA
 have b5:=bL.le bA
 have b9:=bM.le bA
 cases cH
 exact ⟨rfl,_,(wFh rfl rfl),bk,_,(bt.pick [1,2] _ (by decide) rfl),aj,am,av,ap,az,aq,aV,ah,aX,aW,rfl,rfl,bZ,b5,b9,bJ⟩
 intro bo cI
 refine cT Z bo (sR fL2 Z (oA Z Z (oA Z Z (eN (zR (zw (zW ?_)))))))
 cases cI
 exact ⟨rfl,_,(wFh rfl rfl),bk,_,(bt.pick [] _ (by decide) rfl),rfl,rfl⟩
 intro bs cJ
 refine zt (nF (bs.out)) (sR fL2 Z (oA Z Z (oA Z Z (eN (zR (zw (zW ?_)))))))
 cases cJ
 exact ⟨rfl,_,(wFh rfl rfl),bn,_,(bQ.pick [] _ (by decide) rfl),rfl,rfl⟩
 intro ae cK
 refine zI Z Z Z (zP Z Z (nF (ae.out)) Z) (zI Z Z Z (zP Z Z (nF (ae.out)) Z) (zI Z Z Z (zP Z Z (nF (ae.out)) Z) (zI Z Z Z (zP Z Z (nF (ae.out)) Z) (zI Z Z Z (zP Z Z (nF (ae.out)) Z) (Za Z Z Z (zP Z Z (nF (ae.out)) Z) (zI Z Z Z (zP Z Z (nF (ae.out)) Z) (oR Z (zS Z (nF (ae.out)) Z) (oA Z Z (eN (zt Z (sR fL2 Z (oA Z Z (oA Z Z (eN (zR (zw (zW ?_)))))))))))))))))
 cases cK
 exact ⟨rfl,_,(wFh rfl rfl),bm,_,(bz.pick [] _ (by decide) rfl),rfl,rfl⟩
 intro br cM
 refine cT Z br (sR fL3 Z (oM Z Z (oA Z Z (oA Z Z (eN (zR (zw (zW ?_))))))))
 cases cM
 exact ⟨rfl,_,(wFh rfl rfl),U9,_,(bw.pick [] _ (by decide) rfl),rfl,rfl⟩
theorem wEb (p0:Int) (p1:List Int) (aj:Option Addr) (ak:Nat) (w:World) (U:PHeap) (hS:St0 w U []) (bk:Sl U 1 aj ak p1.length (hH KL.encI p1)) {r:Int} (hm:wCm p0 p1=some r):Gv Try.prog 47 [jV p0,.slice aj p1.length ak] w (wCY w [] U (fun U_ L_ v=>v=jV r/\L_=[])):=by
 unfold wCm at hm
 refine Gv.of Try.func47 Z Try.ntmps47 Try.results47 Z (sR fL1 Z (oA Z Z (eN (zF (sR fL3 Z (oM Z Z (oR Z (ZA Z Z zB) (oM Z Z (eN (zj (bnK hm fun bA bm bp=>?_)))))))))))
 have q:=wBz bm
 obtain ⟨ai,bl⟩:=q
 replace ai:=zO ai
 refine CK.forN' (fun k7 x6 σ_ w_=>∃ (U_:PHeap),σ_ 9=jV (↑k7:Int)/\σ_ 0=jV x6/\σ_ 7=.slice aj p1.length ak/\σ_ 8=jV (↑p1.length:Int)/\PHeap.Le U U_/\sW w U U_ [] w_) bl ?_ ?_ ?_
 exact ⟨U,Z,Z,Z,Z,(zk _),hS⟩
 rintro k7 x6 bz bB br ah ⟨aX,ae,ba,ap,aq,az,av⟩ bq
 have am:Hid ((↑k7:Int) < (↑p1.length:Int)):=zO (wCJ ah)
 replace ah:=zO ah
 have bn:Hid (w64 ((↑k7:Int) + 1)=(↑(k7 + 1):Int)):=zO (by have h1:=ai.out;have h2:=am.out;rw [wAX] <;> omega)
 refine sR fL1 Z (oR Z (zh Z ae aq) (eN (zF (cT Z am (kN (zF (zj (sR fL3 Z (bnK bq fun x28 au bo=>?_)))))))))
 have bg:=bk.le az
 have q:=bg.el (fun _=>rfl) (wBo au)
 obtain ⟨bt,bw,bh,bi⟩:=q
 refine oR Z (Zb Z ap bh ae zB zD (wEZ au)) (oL Z (av.ldC (f:=0) bi (v:=jV x28) Z Z zM Z) (oA Z Z (eN (rR fL4 Z (oM Z ba (oM Z Z (oR Z (Runs.min Z Z Z) (oA Z Z (zr (zm (zL (rR fL2 Z (oR Z (ZC (zd Z ae Z) (congrArg (jV) bn.out)) (oM Z Z (zr ?_)))))))))))))))
 cases bo
 exact zL ⟨Z,⟨aX,Z,Z,ap,aq,az,av⟩⟩
 rintro bC bs ⟨aY,bf,bb,bu,be,bv,bj⟩
 have aZ:Hid (¬ ((↑(((↑p1.length:Int):Int) - 0).toNat:Int) < (↑p1.length:Int))):=zO (wBe)
 refine sR fL1 Z (oR Z (zh Z bf be) (eN (zF (cF Z aZ (ZV (zu (zu (ZM (zL (sR fL2 Z (oM Z bb (oA Z Z (eN (zR ?_))))))))))))))
 have hE:=nD bp;first | subst r | cases hE
 exact ⟨Z,_,(zx Z),aY,_,bj,Z,Z⟩
theorem wCC (p0:wAD) (am:Nat) (ae:Option Addr) (ai:Nat) (ah:Option Addr) (aj:Nat) (ak:Option Addr) (ap:Nat) (ab:Nat) (aq:Array MapEntry) (au:Nat) (p1:Int) (p2:Int) (w:World) (U:PHeap) (hS:St0 w U [.blk am 99 ([.slice ae p0.Bout.Shots.length ai,.slice ah p0.Bout.Down.length aj,.slice ak p0.Bout.Across.length ap,.map (some ab)] ++ ((hH KL.encI p0.hits.l) ++ ((hH KL.encI p0.used.l) ++ (hH KL.encT p0.met.l)))),.obj ab (.map aq au)]) (bj:Sl U 1 ae ai p0.Bout.Shots.length (hH KL.encI p0.Bout.Shots)) (bk:Sl U 1 ah aj p0.Bout.Down.length (hH KL.encI p0.Bout.Down)) (bF:Sl U 2 ak ap p0.Bout.Across.length (hH wAB p0.Bout.Across)) (bG:MpR aq wFL wFc p0.may) {r:Int} (hm:wAt p0 p1 p2=some r):Gv Try.prog 65 [.pointer (some ⟨am,0,none⟩),jV p1,jV p2] w (wCY w [.blk am 99 ([.slice ae p0.Bout.Shots.length ai,.slice ah p0.Bout.Down.length aj,.slice ak p0.Bout.Across.length ap,.map (some ab)] ++ ((hH KL.encI p0.hits.l) ++ ((hH KL.encI p0.used.l) ++ (hH KL.encT p0.met.l)))),.obj ab (.map aq au)] U (fun U_ L_ v=>v=jV r/\L_=[.blk am 99 ([.slice ae p0.Bout.Shots.length ai,.slice ah p0.Bout.Down.length aj,.slice ak p0.Bout.Across.length ap,.map (some ab)] ++ ((hH KL.encI p0.hits.l) ++ ((hH KL.encI p0.used.l) ++ (hH KL.encT p0.met.l)))),.obj ab (.map aq au)])):=by
 unfold wAt at hm
 refine Gv.of Try.func65 Z Try.ntmps65 Try.results65 Z (sR fL1 Z (oA Z Z (eN (zF (sR (wDo gAj) Z (oM Z Z (oM Z Z (oM Z Z (bnK hm fun x3 h4 bL=>zH 2 Z Z Z Z (zG Z Z Try.call78 (zA Z (zA Z (zA Z zQ))) Z) hS (fun hs=>wCk p0 am ae ai ah aj ak ap ab aq au p1 p2 w U hs bj bk bF bG h4) (.inl Z) ?_)))))))))
 rintro U6 L7 v8 W9 bl bw ⟨rfl,rfl⟩
 have bi:SW w [.blk am 99 ([.slice ae p0.Bout.Shots.length ai,.slice ah p0.Bout.Down.length aj,.slice ak p0.Bout.Across.length ap,.map (some ab)] ++ ((hH KL.encI p0.hits.l) ++ ((hH KL.encI p0.used.l) ++ (hH KL.encT p0.met.l)))),.obj ab (.map aq au)] U U6 [.blk am 99 ([.slice ae p0.Bout.Shots.length ai,.slice ah p0.Bout.Down.length aj,.slice ak p0.Bout.Across.length ap,.map (some ab)] ++ ((hH KL.encI p0.hits.l) ++ ((hH KL.encI p0.used.l) ++ (hH KL.encT p0.met.l)))),.obj ab (.map aq au)] W9:=bw
 refine oR Z (ZE Z Z) (eN (ifc bL ?_ ?_))
 intro aY bH
 refine zg (nC aY.out) (kN (zF (ZK ZL [3,3,3,3,1,3,3,1,3,3,3,3,1,3,3,1,2,2,3] (wRO (.fx 16 gAk .stop)) (by kernel_rfl) ?_)))
 have az:=bi.drew
 generalize hw_W16:({ W9 with drawn:=W9.drawn + 1 }:World)=bQ at az ⊢
 refine oM Z Z (oR Z (zl Z Z) (oR Z (zJ Z Z zU Z zZ) (oR Z (zJ Z Z zE Z zY) (oL Z (az.ldB (j:=0) Z Z Z zi (v:=.slice ae p0.Bout.Shots.length ai) Z) (oM Z Z (bnK bH fun bm aZ bI=>?_))))))
 have bo:=bj.le bl
 have q:=bo.el (fun _=>rfl) (wBo aZ)
 obtain ⟨bR,bV,bs,bu⟩:=q
 refine oR Z (ZQ Z Z bs Z zB zD (wEY aZ) (wEz aZ)) (oL Z (az.ldC (f:=0) bu (v:=jV bm) Z Z zM Z) (oM Z Z (oR Z (zl Z Z) (oR Z (zJ Z Z zU Z zZ) (oR Z (zJ Z Z zE Z zY) (oL Z (az.ldB (j:=0) Z Z Z zi (v:=.slice ah p0.Bout.Down.length aj) Z) (oM Z Z (bnK bI fun av ba bJ=>?_))))))))
 have bp:=bk.le bl
 have q:=bp.el (fun _=>rfl) (wBo ba)
 obtain ⟨bS,bW,bt,bv⟩:=q
 refine oR Z (ZQ Z Z bt Z zB zD (wEY ba) (wEz ba)) (oL Z (az.ldC (f:=0) bv (v:=jV av) Z Z zM Z) (Zh (pv:=[(0,jV av)]) (zs:=[jV 0]) (cs:=[jV av]) Z Z Z Z Z (wAb Z wAz) zB zD Zi Z Z Z Z Z az ?_))
 intro aW bh bz
 have bA:SW w [.blk am 99 ([.slice ae p0.Bout.Shots.length ai,.slice ah p0.Bout.Down.length aj,.slice ak p0.Bout.Across.length ap,.map (some ab)] ++ ((hH KL.encI p0.hits.l) ++ ((hH KL.encI p0.used.l) ++ (hH KL.encT p0.met.l)))),.obj ab (.map aq au)] U U6 [.row (some ⟨bh,0,none⟩) 1 3 1 (hH KL.encI [av]),.blk am 99 ([.slice ae p0.Bout.Shots.length ai,.slice ah p0.Bout.Down.length aj,.slice ak p0.Bout.Across.length ap,.map (some ab)] ++ ((hH KL.encI p0.hits.l) ++ ((hH KL.encI p0.used.l) ++ (hH KL.encT p0.met.l)))),.obj ab (.map aq au)] aW:=bz
 have q:=bA.freezeR (k:=0) (n:=[av].length) rfl (wAG (f:=KL.encI) (sz:=1) (fun _=>rfl) [av]) (by decide)
 obtain ⟨bf,bT,bN,bB⟩:=q
 have bC:SW w [.blk am 99 ([.slice ae p0.Bout.Shots.length ai,.slice ah p0.Bout.Down.length aj,.slice ak p0.Bout.Across.length ap,.map (some ab)] ++ ((hH KL.encI p0.hits.l) ++ ((hH KL.encI p0.used.l) ++ (hH KL.encT p0.met.l)))),.obj ab (.map aq au)] U bf [.blk am 99 ([.slice ae p0.Bout.Shots.length ai,.slice ah p0.Bout.Down.length aj,.slice ak p0.Bout.Across.length ap,.map (some ab)] ++ ((hH KL.encI p0.hits.l) ++ ((hH KL.encI p0.used.l) ++ (hH KL.encT p0.met.l)))),.obj ab (.map aq au)] aW:=bB
 refine bnK bJ fun x43 br bK=>zH 0 Z Z Z Z (zG Z Z Try.call47 (zA Z (zA Z zQ)) Z) bC (fun hs=>wEb bm [av] (some ⟨bh,0,none⟩) 1 aW bf hs bN br) (.inr Z) ?_
 rintro bg bO bX bn bU bD ⟨rfl,rfl⟩
 have bE:SW w [.blk am 99 ([.slice ae p0.Bout.Shots.length ai,.slice ah p0.Bout.Down.length aj,.slice ak p0.Bout.Across.length ap,.map (some ab)] ++ ((hH KL.encI p0.hits.l) ++ ((hH KL.encI p0.used.l) ++ (hH KL.encT p0.met.l)))),.obj ab (.map aq au)] U bg [.blk am 99 ([.slice ae p0.Bout.Shots.length ai,.slice ah p0.Bout.Down.length aj,.slice ak p0.Bout.Across.length ap,.map (some ab)] ++ ((hH KL.encI p0.hits.l) ++ ((hH KL.encI p0.used.l) ++ (hH KL.encT p0.met.l)))),.obj ab (.map aq au)] bn:=bD
 refine oA Z Z (eN (zR ?_))
 have hE:=nD bK;first | subst r | cases hE
 exact ⟨Z,_,(zx Z),bg,_,bE,Z,Z⟩
 intro aY bM
 refine zt (nF (aY.out)) (sR fL1 Z (oA Z Z (eN (zR (zW ?_)))))
 cases bM
 exact ⟨Z,_,(zx Z),U6,_,bi,Z,Z⟩
end Go.Proofs.Ytfcmijinklojbaa
