import Derived.Test.YtfcmijinklojbaaR4
set_option linter.all false
open List renaming flatMap->hH,getElem_cons_succ->nE,getElem_cons_zero->nG,getElem_toArray->nH,length_set->nJ,set->nK,length_append->nM,length_cons->nO,length_nil->nQ
open Go.Value renaming bool->nA
open Bool renaming eq_false_iff->nB
open Option.some renaming inj->nD
open Int renaming toNat_natCast->nI
open Prod.mk renaming injEq->nL
open Eq renaming trans->nR
open Nat renaming blt->nS,le_of_ble_eq_true->nT
namespace Go.Proofs.Ytfcmijinklojbaa
open Go.KL
def gAa:Sch:=.fl 1 (.fl 2 .nil)
def gAb:Sch:=.fl 2 (.fl 3 .nil)
def gAc:Sch:=.fl 3 (.fl 4 .nil)
def gAd:Sch:=.fl 4 (.fl 5 .nil)
def gAe:Sch:=.fl 6 (.fl 7 .nil)
def gAf:Sch:=.fl 7 (.fl 8 .nil)
def gAg:Sch:=.fl 8 (.fl 9 .nil)
def gAh:Sch:=.fx 0 (.fl 1 .nil) .stop
def gAi:Sch:=.fx 1 (.fl 2 .nil) .stop
def gAj:Sch:=.fx 3 (.fl 4 .nil) .stop
def gAk:Sch:=.fx 3 (.fx 4 .nil .stop) .stop
def gAl:Sch:=.fl 1 (.fx 2 (.fl 3 .nil) .stop)
def gAm:Sch:=.fl 0 gAi
def gAn:Sch:=.fx 21 (.fl 22 (.fl 23 .nil)) .stop
def gAo:Sch:=.fx 0 gAi .stop
def gAp:Sch:=.fx 0 gAa .stop
def gAq:Sch:=.fx 17 (.fl 18 (.fx 19 .nil .stop)) .stop
def gAr:Sch:=.fl 0 gAl
def gAs:Sch:=.fl 0 (.fl 1 (.fx 2 (.fx 3 .nil .stop) .stop))
def gAt:Sch:=.fl 0 (.fl 1 (.fx 2 gAc .stop))
def gAu:Sch:=.fl 0 (.fl 1 (.fl 3 (.fl 4 (.fx 2 (.fx 5 gAe .stop) .stop))))
set_option maxHeartbeats 4000000
theorem Z {α:Type} {a:α}:a=a:=rfl
section
variable {r:Option Nat} {N:Nat} {P:Program} {l:List Oper} {Q:wCs} {D:List Deferred} {ks:List Nat} {σ:Env} {w:World} {i d j e:Nat} {s:Sch} {o:Oper} {b:Bool} {x:Operand} {v:Value} {p:Prop} {inst:Decidable p} {K:List Deferred->Env->World->Prop} {c1 c2:Code}
abbrev jV (n:Int):Value:=.int .i64 n
abbrev SW (w:World) (X:List Res) (U U':PHeap) (L:List Res) (w':World):Prop:=St ⟨w,X,U⟩ U' L w'
abbrev sW (w:World) (U U':PHeap) (L:List Res) (w':World):Prop:=St ⟨w,[],U⟩ U' L w'
abbrev St0 (w:World) (U:PHeap) (L:List Res):Prop:=St ⟨w,L,U⟩ U L w
theorem ifc {α:Type} {G p:Prop} {inst:Decidable p} {a b r:α} (h:@ite α p inst a b=r) (h1:Hid p->a=r->G) (h2:Hid (¬ p)->b=r->G):G:=by
 by_cases c:p
 rw [if_pos c] at h;exact h1 ⟨c⟩ h
 rw [if_neg c] at h;exact h2 ⟨c⟩ h
theorem bnK {α β:Type} {G:Prop} {o:Option α} {f:α->Option β} {r:β} (h:o.bind f=some r) (k:∀ x,o=some x->f x=some r->G):G:=by
 obtain ⟨x,h1,h2⟩:=bnd h
 exact k x h1 h2
theorem oR (h:(l[i]?,o.dst,nS d N,wanted l σ o)=(some o,some d,true,true)) (hr:∀ {w'},Runs P σ w' o v w') (k:OKS N P l Q D ks s (upd σ d v) w):OKS N P l Q D ks (.fl i s) σ w:=by
 simp only [nL] at h;exact OKS.r h.1 h.2.1 h.2.2.1 h.2.2.2 (fun _=>hr) k
theorem oL (h:(l[i]?,o.dst,nS d N,wanted l σ o,wPl (kOf ks i))=(some o,some d,true,true,false)) (hr:wFK P σ w o v) (k:OKS N P l Q D ks s (upd σ d v) w):OKS N P l Q D ks (.fl i s) σ w:=by
 simp only [nL] at h;exact OKS.m h.1 h.2.1 h.2.2.1 h.2.2.2.1 hr h.2.2.2.2 k
theorem oM (h:(l[i]?,o.dst,nS d N,wanted l σ o,o.op)=(some o,some d,true,true,.move x)) (hx:ev σ x=v) (k:OKS N P l Q D ks s (upd σ d v) w):OKS N P l Q D ks (.fl i s) σ w:=by
 simp only [nL] at h;exact OKS.rm h.1 h.2.1 h.2.2.1 h.2.2.2.1 h.2.2.2.2 hx k
theorem oA (h:(l[i]?,o.dst,nS d N,wanted l σ o,o.op)=(some o,some d,true,true,.assign x)) (hx:ev σ x=v) (k:OKS N P l Q D ks s (upd σ d v) w):OKS N P l Q D ks (.fl i s) σ w:=by
 simp only [nL] at h;exact OKS.ra h.1 h.2.1 h.2.2.1 h.2.2.2.1 h.2.2.2.2 hx k
theorem oF (h:(l[i]?,o.dst,nS d N,o.guard,(l[j]?).bind (·.dst),σ e,false == b)=(some o,some d,true,some (j,b),some e,.bool (decide p),false)) (c:Hid (¬ p)) (k:OKS N P l Q D ks s (upd σ d undef) w):OKS N P l Q D ks (.fl i s) σ w:=by
 simp only [nL] at h;exact OKS.p h.1 h.2.1 h.2.2.1 (wFx h.2.2.2.1 h.2.2.2.2.1 (h.2.2.2.2.2.1.trans (wPk c.out)) h.2.2.2.2.2.2) k
theorem oT (h:(l[i]?,o.dst,nS d N,o.guard,(l[j]?).bind (·.dst),σ e,true == b)=(some o,some d,true,some (j,b),some e,.bool (decide p),false)) (c:Hid p) (k:OKS N P l Q D ks s (upd σ d undef) w):OKS N P l Q D ks (.fl i s) σ w:=by
 simp only [nL] at h;exact OKS.p h.1 h.2.1 h.2.2.1 (wFx h.2.2.2.1 h.2.2.2.2.1 (h.2.2.2.2.2.1.trans (wPj c.out)) h.2.2.2.2.2.2) k
theorem oN {b2:Bool} (h:(l[i]?,o.dst,nS d N,o.guard,(l[j]?).bind (·.dst),σ e,b2 == b)=(some o,some d,true,some (j,b),some e,.bool b2,false)) (k:OKS N P l Q D ks s (upd σ d undef) w):OKS N P l Q D ks (.fl i s) σ w:=by
 simp only [nL] at h;exact OKS.p h.1 h.2.1 h.2.2.1 (wFx h.2.2.2.1 h.2.2.2.2.1 h.2.2.2.2.2.1 h.2.2.2.2.2.2) k
theorem nC {a b:Bool} (h:a=b):nA (!a)=nA (!b):=h ▸ rfl
theorem nF {a:Bool} (h:¬ a=true):nA (!a)=nA (!false):=nC (nB.2 h)
theorem wT (h:(o.guard,(l[j]?).bind (·.dst),σ e)=(some (j,true),some e,.bool (decide p))) (c:Hid p):wanted l σ o=true:=by
 simp only [nL] at h;exact wHU h.1 h.2.1 (h.2.2.trans (wPj c.out))
theorem wF (h:(o.guard,(l[j]?).bind (·.dst),σ e)=(some (j,false),some e,.bool (decide p))) (c:Hid (¬ p)):wanted l σ o=true:=by
 simp only [nL] at h;exact wHU h.1 h.2.1 (h.2.2.trans (wPk c.out))
theorem rU (h:(l[i]?,o.dst,nS d N)=(some o,some d,true)) (hw:wanted l σ o=true) (hr:∀ {w'},Runs P σ w' o v w') (k:OKS N P l Q D ks s (upd σ d v) w):OKS N P l Q D ks (.fl i s) σ w:=by
 simp only [nL] at h;exact OKS.r h.1 h.2.1 h.2.2 hw (fun _=>hr) k
theorem sR {id:Nat} (s:Sch) (hs:inOrder 0 s l.length=true) (h:OKS N P l (wDP (fun D σ w=>CK r N P c2 Q D σ w) Q) D [] s σ w):CK r N P (.seq (.region id l.toArray false) c2) Q D σ w:=CK.seq (CK.reg s hs h)
theorem rR {id:Nat} (s:Sch) (hs:inOrder 0 s l.length=true) (h:OKS N P l Q D [] s σ w):CK r N P (.region id l.toArray false) Q D σ w:=CK.reg s hs h
theorem eN (h:K D σ w):OKS N P l (wDP K Q) D ks .nil σ w:=OKS.e (wHQ h)
theorem cT (hz:ev σ x=.bool (decide p)) (c:Hid p) (h:CK r N P c1 Q D σ w):CK r N P (.cond x c1 c2) Q D σ w:=CK.condT (hz.trans (wPj c.out)) h
theorem cF (hz:ev σ x=.bool (decide p)) (c:Hid (¬ p)) (h:CK r N P c2 Q D σ w):CK r N P (.cond x c1 c2) Q D σ w:=CK.condF (hz.trans (wPk c.out)) h
theorem kN (h:K D σ w):CK r N P .skip (wDP K Q) D σ w:=CK.skip (wHQ h)
end
def fL1:Sch:=.fl 0 .nil
def fL2:Sch:=.fl 0 (.fl 1 .nil)
def fL3:Sch:=.fl 0 gAa
def fL4:Sch:=.fl 0 (.fl 1 gAb)
def fL5:Sch:=.fl 0 (.fl 1 (.fl 2 gAc))
def fL6:Sch:=.fl 0 (.fl 1 (.fl 2 (.fl 3 gAd)))
def fL7:Sch:=.fl 0 (.fl 1 (.fl 2 (.fl 3 (.fl 4 (.fl 5 (.fl 6 .nil))))))
def fL8:Sch:=.fl 0 (.fl 1 (.fl 2 (.fl 3 (.fl 4 (.fl 5 gAe)))))
def fL9:Sch:=.fl 0 (.fl 1 (.fl 2 (.fl 3 (.fl 4 (.fl 5 (.fl 6 gAf))))))
def fL10:Sch:=.fl 0 (.fl 1 (.fl 2 (.fl 3 (.fl 4 (.fl 5 (.fl 6 (.fl 7 gAg)))))))
def fL11:Sch:=.fl 0 (.fl 1 (.fl 2 (.fl 3 (.fl 4 (.fl 5 (.fl 6 (.fl 7 (.fl 8 (.fl 9 (.fl 10 .nil))))))))))
def fL13:Sch:=.fl 0 (.fl 1 (.fl 2 (.fl 3 (.fl 4 (.fl 5 (.fl 6 (.fl 7 (.fl 8 (.fl 9 (.fl 10 (.fl 11 (.fl 12 .nil))))))))))))
def fL15:Sch:=.fl 0 (.fl 1 (.fl 2 (.fl 3 (.fl 4 (.fl 5 (.fl 6 (.fl 7 (.fl 8 (.fl 9 (.fl 10 (.fl 11 (.fl 12 (.fl 13 (.fl 14 .nil))))))))))))))
def fL20:Sch:=.fl 0 (.fl 1 (.fl 2 (.fl 3 (.fl 4 (.fl 5 (.fl 6 (.fl 7 (.fl 8 (.fl 9 (.fl 10 (.fl 11 (.fl 12 (.fl 13 (.fl 14 (.fl 15 (.fl 16 (.fl 17 (.fl 18 (.fl 19 .nil)))))))))))))))))))
def fL29:Sch:=.fl 0 (.fl 1 (.fl 2 (.fl 3 (.fl 4 (.fl 5 (.fl 6 (.fl 7 (.fl 8 (.fl 9 (.fl 10 (.fl 11 (.fl 12 (.fl 13 (.fl 14 (.fl 15 (.fl 16 (.fl 17 (.fl 18 (.fl 19 (.fl 20 (.fl 21 (.fl 22 (.fl 23 (.fl 24 (.fl 25 (.fl 26 (.fl 27 (.fl 28 .nil))))))))))))))))))))))))))))
def fL30:Sch:=.fl 0 (.fl 1 (.fl 2 (.fl 3 (.fl 4 (.fl 5 (.fl 6 (.fl 7 (.fl 8 (.fl 9 (.fl 10 (.fl 11 (.fl 12 (.fl 13 (.fl 14 (.fl 15 (.fl 16 (.fl 17 (.fl 18 (.fl 19 (.fl 20 (.fl 21 (.fl 22 (.fl 23 (.fl 24 (.fl 25 (.fl 26 (.fl 27 (.fl 28 (.fl 29 .nil)))))))))))))))))))))))))))))
def wDt (s:Sch):Sch:=.fl 0 (.fl 1 (.fl 2 (s)))
def wJK (s:Sch):Sch:=.fl 0 (.fl 1 (.fl 2 (.fl 3 (s))))
def wFT (s:Sch):Sch:=.fl 0 (.fl 1 (.fl 2 (.fl 3 (.fl 4 (s)))))
def wJL (s:Sch):Sch:=.fl 0 (.fl 1 (.fl 2 (.fl 3 (.fl 4 (.fl 5 (s))))))
def wGk (s:Sch):Sch:=.fl 0 (.fl 1 (.fl 2 (.fl 3 (.fl 4 (.fl 5 (.fl 6 (s)))))))
def wPZ (s:Sch):Sch:=.fl 0 (.fl 1 (.fl 2 (.fl 3 (.fl 4 (.fl 5 (.fl 6 (.fl 7 (s))))))))
def wQi (s:Sch):Sch:=.fl 0 (.fl 1 (.fl 2 (.fl 3 (.fl 4 (.fl 5 (.fl 6 (.fl 7 (.fl 8 (.fl 9 (s))))))))))
def wOE (s:Sch):Sch:=.fl 0 (.fl 1 (.fl 2 (.fl 3 (.fl 4 (.fl 5 (.fl 6 (.fl 7 (.fl 8 (.fl 9 (.fl 10 (s)))))))))))
def wQj (s:Sch):Sch:=.fl 0 (.fl 1 (.fl 2 (.fl 3 (.fl 4 (.fl 5 (.fl 6 (.fl 7 (.fl 8 (.fl 9 (.fl 10 (.fl 11 (s))))))))))))
def wHP (s:Sch):Sch:=.fl 0 (.fl 1 (.fl 2 (.fl 3 (.fl 4 (.fl 5 (.fl 6 (.fl 7 (.fl 8 (.fl 9 (.fl 10 (.fl 11 (.fl 12 (s)))))))))))))
def wQk (s:Sch):Sch:=.fl 0 (.fl 1 (.fl 2 (.fl 3 (.fl 4 (.fl 5 (.fl 6 (.fl 7 (.fl 8 (.fl 9 (.fl 10 (.fl 11 (.fl 12 (.fl 13 (s))))))))))))))
def wQl (s:Sch):Sch:=.fl 0 (.fl 1 (.fl 2 (.fl 3 (.fl 4 (.fl 5 (.fl 6 (.fl 7 (.fl 8 (.fl 9 (.fl 10 (.fl 11 (.fl 12 (.fl 13 (.fl 14 (s)))))))))))))))
def wQm (s:Sch):Sch:=.fl 0 (.fl 1 (.fl 2 (.fl 3 (.fl 4 (.fl 5 (.fl 6 (.fl 7 (.fl 8 (.fl 9 (.fl 10 (.fl 11 (.fl 12 (.fl 13 (.fl 14 (.fl 15 (s))))))))))))))))
def wMh (s:Sch):Sch:=.fl 0 (.fl 1 (.fl 2 (.fl 3 (.fl 4 (.fl 5 (.fl 6 (.fl 7 (.fl 8 (.fl 9 (.fl 10 (.fl 11 (.fl 12 (.fl 13 (.fl 14 (.fl 15 (.fl 16 (s)))))))))))))))))
def fC2_4 (s:Sch):Sch:=.fl 2 (.fl 3 (.fl 4 (s)))
def wGt (s:Sch):Sch:=.fl 2 (.fl 3 (.fl 4 (.fl 5 (.fl 6 (s)))))
def wQn (s:Sch):Sch:=.fl 2 (.fl 3 (.fl 4 (.fl 5 (.fl 6 (.fl 7 (.fl 8 (.fl 9 (.fl 10 (s)))))))))
def fC3_5 (s:Sch):Sch:=.fl 3 (.fl 4 (.fl 5 (s)))
def fC3_6 (s:Sch):Sch:=.fl 3 (.fl 4 (.fl 5 (.fl 6 (s))))
def wQo (s:Sch):Sch:=.fl 3 (.fl 4 (.fl 5 (.fl 6 (.fl 7 (s)))))
def wPa (s:Sch):Sch:=.fl 4 (.fl 5 (.fl 6 (s)))
def fC4_8 (s:Sch):Sch:=.fl 4 (.fl 5 (.fl 6 (.fl 7 (.fl 8 (s)))))
def wQp (s:Sch):Sch:=.fl 4 (.fl 5 (.fl 6 (.fl 7 (.fl 8 (.fl 9 (.fl 10 (.fl 11 (.fl 12 (.fl 13 (.fl 14 (.fl 15 (.fl 16 (.fl 17 (.fl 18 (.fl 19 (.fl 20 (.fl 21 (.fl 22 (.fl 23 (.fl 24 (.fl 25 (.fl 26 (.fl 27 (.fl 28 (.fl 29 (.fl 30 (.fl 31 (.fl 32 (.fl 33 (.fl 34 (.fl 35 (.fl 36 (.fl 37 (.fl 38 (.fl 39 (.fl 40 (.fl 41 (.fl 42 (.fl 43 (.fl 44 (.fl 45 (.fl 46 (.fl 47 (.fl 48 (.fl 49 (.fl 50 (.fl 51 (.fl 52 (.fl 53 (s))))))))))))))))))))))))))))))))))))))))))))))))))
def wQq (s:Sch):Sch:=.fl 5 (.fl 6 (.fl 7 (s)))
def fC5_9 (s:Sch):Sch:=.fl 5 (.fl 6 (.fl 7 (.fl 8 (.fl 9 (s)))))
def wOF (s:Sch):Sch:=.fl 6 (.fl 7 (.fl 8 (.fl 9 (.fl 10 (s)))))
def wOG (s:Sch):Sch:=.fl 6 (.fl 7 (.fl 8 (.fl 9 (.fl 10 (.fl 11 (.fl 12 (s)))))))
def wQr (s:Sch):Sch:=.fl 6 (.fl 7 (.fl 8 (.fl 9 (.fl 10 (.fl 11 (.fl 12 (.fl 13 (.fl 14 (.fl 15 (.fl 16 (s)))))))))))
def wMi (s:Sch):Sch:=.fl 8 (.fl 9 (.fl 10 (s)))
def wOH (s:Sch):Sch:=.fl 9 (.fl 10 (.fl 11 (.fl 12 (.fl 13 (.fl 14 (.fl 15 (.fl 16 (.fl 17 (.fl 18 (.fl 19 (.fl 20 (s))))))))))))
def wPb (s:Sch):Sch:=.fl 11 (.fl 12 (.fl 13 (.fl 14 (.fl 15 (.fl 16 (.fl 17 (.fl 18 (.fl 19 (s)))))))))
def wHq (s:Sch):Sch:=.fl 14 (.fl 15 (.fl 16 (s)))
theorem zA:type_of% @Try.runUnderlying23:=@Try.runUnderlying23
theorem zB:type_of% @Try.sizeOf3:=@Try.sizeOf3
theorem zC:type_of% @wKZ:=@wKZ
theorem zD:type_of% @nT:=@nT
theorem zE:type_of% @OKS.p:=@OKS.p
theorem zF:type_of% @Try.runUnderlying26:=@Try.runUnderlying26
theorem zG:type_of% @CK.seq:=@CK.seq
theorem zH:type_of% @Try.isAgg3:=@Try.isAgg3
theorem zI:type_of% @wHU:=@wHU
theorem zJ:type_of% @wKY:=@wKY
theorem zK:type_of% @Runs.fa:=@Runs.fa
theorem zL:type_of% @Hid.mk:=@Hid.mk
theorem zM:type_of% @wHQ:=@wHQ
theorem zN:type_of% @Enters.mk:=@Enters.mk
theorem zO:type_of% @OKS.r:=@OKS.r
theorem zP:type_of% @OKS.callH:=@OKS.callH
theorem zQ:type_of% @wFx:=@wFx
theorem zR:type_of% @CK.ret:=@CK.ret
theorem zS:type_of% @Runs.pickT:=@Runs.pickT
theorem zU:type_of% @wNd:=@wNd
theorem zV:type_of% @Try.runUnderlying99:=@Try.runUnderlying99
theorem zW:type_of% @Try.sizeOf23:=@Try.sizeOf23
theorem zX:type_of% @wJO:=@wJO
theorem zY:type_of% @Runs.pickF:=@Runs.pickF
theorem zZ:type_of% @OKS.rm:=@OKS.rm
theorem zd:type_of% @CK.block:=@CK.block
theorem ze:type_of% @Try.isAgg23:=@Try.isAgg23
theorem zf:type_of% @wPk:=@wPk
theorem zg:type_of% @Runs.lss:=@Runs.lss
theorem zh:type_of% @Runs.addw:=@Runs.addw
theorem zi:type_of% @CK.condF:=@CK.condF
theorem zj:type_of% @Try.sizeOf26:=@Try.sizeOf26
theorem zk:type_of% @wJM:=@wJM
theorem zl:type_of% @Runs.nilp:=@Runs.nilp
theorem zm:type_of% @OKS.m:=@OKS.m
theorem zn:type_of% @wKX:=@wKX
theorem zo:type_of% @PHeap.Le.refl:=@PHeap.Le.refl
theorem zp:type_of% @CK.condT:=@CK.condT
theorem zq:type_of% @Runs.ext:=@Runs.ext
theorem zr:type_of% @Try.runUnderlying35:=@Try.runUnderlying35
theorem zt:type_of% @Runs.len:=@Runs.len
theorem zu:type_of% @Runs.iaN:=@Runs.iaN
theorem zw:type_of% @Try.runUnderlying24:=@Try.runUnderlying24
theorem zx:type_of% @Try.runUnderlying27:=@Try.runUnderlying27
theorem zy:type_of% @Try.sizeOf35:=@Try.sizeOf35
theorem zz:type_of% @res1:=@res1
theorem ZA:type_of% @OKS.e:=@OKS.e
theorem ZB:type_of% @Runs.to:=@Runs.to
theorem ZC:type_of% @Runs.notT:=@Runs.notT
theorem ZD:type_of% @Try.isAgg89:=@Try.isAgg89
theorem ZE:type_of% @wHR:=@wHR
theorem ZF:type_of% @Runs.neq:=@Runs.neq
theorem ZG:type_of% @OKS.st:=@OKS.st
theorem ZH:type_of% @Try.sizeOf44:=@Try.sizeOf44
theorem ZI:type_of% @CK.anyOrd:=@CK.anyOrd
theorem ZJ:type_of% @Try.mixed:=@Try.mixed
theorem ZK:type_of% @Try.isAgg26:=@Try.isAgg26
theorem ZL:type_of% @Try.runUnderlying87:=@Try.runUnderlying87
theorem ZM:type_of% @CK.exit:=@CK.exit
theorem ZN:type_of% @CK.skip:=@CK.skip
theorem ZO:type_of% @wPj:=@wPj
theorem ZP:type_of% @Try.runUnderlying93:=@Try.runUnderlying93
theorem ZQ:type_of% @Runs.iaA:=@Runs.iaA
theorem ZR:type_of% @OKS.alloc:=@OKS.alloc
theorem ZS:type_of% @OKS.px:=@OKS.px
theorem ZT:type_of% @OKS.box:=@OKS.box
theorem ZU:type_of% @Runs.iaI:=@Runs.iaI
theorem ZV:type_of% @Runs.subw:=@Runs.subw
theorem ZW:type_of% @Try.sizeOf24:=@Try.sizeOf24
theorem ZX:type_of% @Try.zeroValue44:=@Try.zeroValue44
theorem ZY:type_of% @Try.zeroValue35:=@Try.zeroValue35
theorem Za:type_of% @Try.runUnderlying95:=@Try.runUnderlying95
theorem Zb:type_of% @Runs.build:=@Runs.build
theorem Zc:type_of% @Try.isAgg35:=@Try.isAgg35
theorem Zd:type_of% @Try.isAgg24:=@Try.isAgg24
theorem Ze:type_of% @Try.zeroValue3:=@Try.zeroValue3
theorem Zf:type_of% @CK.fresh:=@CK.fresh
theorem Zg:type_of% @Try.runUnderlying44:=@Try.runUnderlying44
theorem Zh:type_of% @Try.sizeOf93:=@Try.sizeOf93
theorem Zi:type_of% @OKS.buildSlice:=@OKS.buildSlice
theorem Zj:type_of% @Try.isAgg44:=@Try.isAgg44
theorem Zk:type_of% @OKS.stR:=@OKS.stR
theorem Zl:type_of% @Try.sizeOf4:=@Try.sizeOf4
theorem Zm:type_of% @CK.forN:=@CK.forN
theorem Zn:type_of% @Runs.eql:=@Runs.eql
theorem Zo:type_of% @Try.sizeOf95:=@Try.sizeOf95
theorem Zp:type_of% @Try.call70:=@Try.call70
end Go.Proofs.Ytfcmijinklojbaa
namespace Go.Proofs.Ytfcmijinklojbaa
open Go.KL
set_option maxHeartbeats 4000000
theorem wGa (p0:List Int) (ab:Option Addr) (ae:Nat) (w:World) (U:PHeap) (hS:St0 w U []) (am:Sl U 1 ab ae p0.length (hH KL.encB8 p0)) {r:wAF} (hm:wCc p0=some r):Gv Try.prog 8 [.slice ab p0.length ae] w (wCg w [] U (fun U_ L_ v=>∃ (b0:Nat) (A0p0:Option Addr) (c0p0:Nat),v=.pointer (some ⟨b0,0,none⟩)/\L_=[.blk b0 87 [.slice A0p0 r.bytes.length c0p0,jV r.next,.int .u32 r.state]]/\Sl U_ 1 A0p0 c0p0 r.bytes.length (hH KL.encB8 r.bytes))):=by
 unfold wCc at hm
 refine Gv.of Try.func8 Z Try.ntmps8 Try.results8 Z (sR fL1 Z (oA Z Z (eN (sR gAr Z (oM Z Z ?_)))))
 let B0:List Value:=[.slice ab p0.length ae,jV 0,.int .u32 17]
 refine zO rfl rfl rfl rfl (fun _=>Zb (pv:=[(0,.slice ab p0.length ae),(2,.int .u32 17)]) (z:=[.slice none 0 0,jV 0,.int .u32 0]) (cs:=B0) rfl (wAT rfl (wAT rfl wBY)) Try.zeroValue87 wNI rfl rfl) (ZT (cs:=B0) rfl rfl rfl rfl rfl rfl (by rfl) hS ?_)
 intro W1 b2 ak
 refine oA Z Z (eN (zR ?_))
 cases hm
 exact ⟨Z,_,(zz Z),U,_,ak,b2,ab,ae,Z,Z,am⟩
theorem wBx (p0:wAF) (aj:Nat) (ae:Option Addr) (ah:Nat) (p1:Int) (w:World) (U:PHeap) (hS:St0 w U [.blk aj 87 [.slice ae p0.bytes.length ah,jV p0.next,.int .u32 p0.state]]) (am:Sl U 1 ae ah p0.bytes.length (hH KL.encB8 p0.bytes)) {r:Int × wAF} (hm:wAZ p0 p1=some r):Gv Try.prog 29 [.pointer (some ⟨aj,0,none⟩),jV p1] w (wCg w [.blk aj 87 [.slice ae p0.bytes.length ah,jV p0.next,.int .u32 p0.state]] U (fun U_ L_ v=>∃ (ba:Option Addr) (be:Nat),v=jV r.1/\L_=[.blk aj 87 [.slice ba r.2.bytes.length be,jV r.2.next,.int .u32 r.2.state]]/\Sl U_ 1 ba be r.2.bytes.length (hH KL.encB8 r.2.bytes))):=by
 unfold wAZ at hm
 refine Gv.of Try.func29 Z Try.ntmps29 Try.results29 Z (sR fL1 Z (oA Z Z (eN (zG (sR fL10 Z (oM Z Z (oR Z (Runs.leq Z Z Z) (oM Z Z ?_))))))))
 by_cases c2:p1 <= 1
 have bh:=hm;rw [if_pos c2] at bh;replace c2:=zL c2
 refine oT Z c2 (oT Z c2 (oT Z c2 (oT Z c2 (oT Z c2 (oT Z c2 (oR Z (zS Z (ZO c2.out) Z) (eN (zp Z (sR fL1 Z (oA Z Z (eN (zR (zJ ?_)))))))))))))
 cases bh
 exact ⟨Z,_,(zz Z),U,_,hS,ae,ah,Z,Z,am⟩
 have bi:=hm;rw [if_neg c2] at bi;replace c2:=zL c2
 refine zZ Z Z Z (wF Z c2) Z Z (rU Z (wF Z c2) (zl Z Z) (rU Z (wF Z c2) (zK Z Z ZL Z Try.sizeOf22) (zm Z Z Z (wF Z c2) (hS.ldB (j:=0) Z Z Z Try.isAgg22 (v:=.slice ae p0.bytes.length ah) Z) Z (rU Z (wF Z c2) (zt Z Z Try.runUnderlying22) (rU Z (wF Z c2) (Zn Z Z Z) (oR Z (zY Z (zf c2.out) Z) (eN (ifc bi ?_ ?_))))))))
 intro c5 bI
 refine cT Z c5 (sR fL1 Z (oA Z Z (eN (zR (zJ ?_)))))
 cases bI
 exact ⟨Z,_,(zz Z),U,_,hS,ae,ah,Z,Z,am⟩
 intro c5 bJ
 refine cF Z c5 (kN (zG (ZI ZJ [3,3,3,1,3,3,3,1,3,3,3,1,3,3,3,1,3,3,3,3,1,3,3,3,1,3,3,3,3,3] fL30 (by kernel_rfl) ?_)))
 have ai:=hS.drew
 generalize hw_W9:({ w with drawn:=w.drawn + 1 }:World)=W9 at ai ⊢
 refine oM Z Z (oR Z (zl Z Z) (oR Z (zK Z Z ZL Z Try.sizeOf22) (oL Z (ai.ldB (j:=0) Z Z Z Try.isAgg22 (v:=.slice ae p0.bytes.length ah) Z) (oM Z Z (oR Z (zl Z Z) (oR Z (zK Z Z ZL Z zB) (oL Z (ai.ldB (j:=0) Z Z Z zH (v:=jV p0.next) Z) (oM Z Z (oR Z (zl Z Z) (oR Z (zK Z Z ZL Z Try.sizeOf22) (oL Z (ai.ldB (j:=0) Z Z Z Try.isAgg22 (v:=.slice ae p0.bytes.length ah) Z) (oR Z (zt Z Z Try.runUnderlying22) (bnK bJ fun bO bl bv=>oR Z (Runs.rem Z Z Z bl) (bnK bv fun x13 aZ bw=>?_))))))))))))))
 have q:=am.el (fun _=>rfl) (wAx aZ)
 obtain ⟨bM,bN,br,bs⟩:=q
 refine oR Z (ZU Z Z br Z Try.runUnderlying22 Try.sizeOf5 (wEr aZ) (wFV aZ)) (oL Z (ai.ldC (f:=0) bs (v:=.int .u8 x13) Z Z Try.isAgg5 Z) (oR Z (Runs.cvu Z Z Try.runUnderlying5 Try.runUnderlying85 Z Z) (oM Z Z (oR Z (zl Z Z) (oR Z (zK Z Z ZL Z zB) (oL Z (ai.ldB (j:=0) Z Z Z zH (v:=jV p0.next) Z) (oM Z Z (oR Z (zl Z Z) (oR Z (zK Z Z ZL Z Try.sizeOf22) (oL Z (ai.ldB (j:=0) Z Z Z Try.isAgg22 (v:=.slice ae p0.bytes.length ah) Z) (oR Z (zt Z Z Try.runUnderlying22) (bnK bw fun bK bm bz=>oR Z (Runs.quo Z Z Z bm) (oR Z (Runs.cvu Z Z Try.runUnderlying3 Try.runUnderlying85 Z Z) (oA Z Z (oA Z Z (eN (zG (Zf fun aW au=>?_))))))))))))))))))
 have ap:aW 0=.pointer (some ⟨aj,0,none⟩):=(au 0).trans rfl
 have az:aW 1=jV p1:=(au 1).trans rfl
 have aU:aW 5=.int .u32 (wDu x13):=(au 5).trans rfl
 have bf:aW 6=.int .u32 (wDu bK):=(au 6).trans rfl
 clear au
 refine rR (wGk (.fx 7 .nil .stop)) Z (oM Z ap (oR Z (zl Z Z) (oR Z (zK Z Z ZL Z zB) (oL Z (ai.ldB (j:=0) Z Z Z zH (v:=jV p0.next) Z) (oR Z (zh Z Z Z) (oR Z (zl Z Z) (oR Z (zK Z Z ZL Z zB) (ZG (j:=0) (vs:=[jV (w64 (p0.next + 1))]) Z Z Z Z ai Z Z Z Z zB (zD Z) Z Z Z ?_))))))))
 intro bj bt
 let B0:Res:=.blk aj 87 [.slice ae p0.bytes.length ah,jV p0.next,.int .u32 p0.state]
 have bg:SW w [B0] U U [.blk aj 87 [.slice ae p0.bytes.length ah,jV (w64 (p0.next + 1)),.int .u32 p0.state]] bj:=bt
 refine eN (sR (wQl (.fx 15 .nil .stop)) Z (oM Z ap (oM Z ap (oR Z (zl Z Z) (oR Z (zK Z Z ZL Z Try.sizeOf85) (oL Z (bg.ldB (j:=0) Z Z Z Try.isAgg85 (v:=.int .u32 p0.state) Z) (oR Z (Runs.mulu Z Z Z) (oM Z aU (oR Z (Runs.addu Z Z Z) (oM Z bf (oR Z (Runs.mulu Z Z Z) (oR Z (Runs.addu Z Z Z) (oR Z (Runs.addu Z Z Z) (bnK bz fun x32 bn bA=>oR Z (Runs.rem Z Z Z bn) (oR Z (zl Z Z) (oR Z (zK Z Z ZL Z Try.sizeOf85) (ZG (j:=0) (vs:=[.int .u32 x32]) Z Z Z Z bg Z Z Z Z Try.sizeOf85 (zD Z) Z Z Z ?_)))))))))))))))))
 intro bk bu
 have aq:SW w [B0] U U [.blk aj 87 [.slice ae p0.bytes.length ah,jV (w64 (p0.next + 1)),.int .u32 x32]] bk:=bu
 refine eN (zG (sR fL6 Z (oM Z bf (oR Z (Zn Z Z Z) (oM Z Z (ifc bA ?_ ?_))))))
 intro ak bB
 refine zZ Z Z Z (wT Z ak) Z az (rU Z (wT Z ak) (Runs.leq Z Z Z) (oR Z (zS Z (ZO ak.out) Z) (eN (ifc bB ?_ ?_))))
 intro aX bC
 refine cT Z aX (sR fL5 Z (oM Z aU (oR Z (Runs.cvw Z Z Try.runUnderlying85 Try.runUnderlying3 Z Z) (oM Z az (bnK bC fun x42 bo bD=>oR Z (Runs.rem Z Z Z bo) (oA Z Z (eN (zR (zJ ?_)))))))))
 cases bD
 exact ⟨Z,_,(zz Z),U,_,aq,ae,ah,Z,Z,am⟩
 intro aX bE
 refine cF Z aX (kN (sR fL11 Z (oM Z ap (oR Z (zl Z Z) (oR Z (zK Z Z ZL Z Try.sizeOf85) (oL Z (aq.ldB (j:=0) Z Z Z Try.isAgg85 (v:=.int .u32 x32) Z) (oR Z (Runs.mulu Z Z Z) (oM Z aU (oR Z (Runs.addu Z Z Z) (oR Z (Runs.cvw Z Z Try.runUnderlying85 Try.runUnderlying3 Z Z) (oM Z az (bnK bE fun x46 bp bF=>oR Z (Runs.rem Z Z Z bp) (oA Z Z (eN (zR ?_)))))))))))))))
 cases bF
 exact ⟨Z,_,(zz Z),U,_,aq,ae,ah,Z,Z,am⟩
 intro ak bG
 refine oF Z ak (oF Z ak (oR Z (zY Z (zf ak.out) Z) (eN (zi Z (kN (sR fL11 Z (oM Z ap (oR Z (zl Z Z) (oR Z (zK Z Z ZL Z Try.sizeOf85) (oL Z (aq.ldB (j:=0) Z Z Z Try.isAgg85 (v:=.int .u32 x32) Z) (oR Z (Runs.mulu Z Z Z) (oM Z aU (oR Z (Runs.addu Z Z Z) (oR Z (Runs.cvw Z Z Try.runUnderlying85 Try.runUnderlying3 Z Z) (oM Z az (bnK bG fun x50 bq bH=>oR Z (Runs.rem Z Z Z bq) (oA Z Z (eN (zR ?_)))))))))))))))))))
 cases bH
 exact ⟨Z,_,(zz Z),U,_,aq,ae,ah,Z,Z,am⟩
theorem wCL (p0:wAF) (ab:Nat) (ae:Option Addr) (ah:Nat) (p1:Int) (p2:Int) (w:World) (U:PHeap) (hS:St0 w U [.blk ab 87 [.slice ae p0.bytes.length ah,jV p0.next,.int .u32 p0.state]]) (ba:Sl U 1 ae ah p0.bytes.length (hH KL.encB8 p0.bytes)) {r:Int × wAF} (hm:wAW p0 p1 p2=some r):Gv Try.prog 40 [.pointer (some ⟨ab,0,none⟩),jV p1,jV p2] w (wCg w [.blk ab 87 [.slice ae p0.bytes.length ah,jV p0.next,.int .u32 p0.state]] U (fun U_ L_ v=>∃ (ap:Option Addr) (az:Nat),v=jV r.1/\L_=[.blk ab 87 [.slice ap r.2.bytes.length az,jV r.2.next,.int .u32 r.2.state]]/\Sl U_ 1 ap az r.2.bytes.length (hH KL.encB8 r.2.bytes))):=by
 unfold wAW at hm
 refine Gv.of Try.func40 Z Try.ntmps40 Try.results40 Z (sR fL1 Z (oA Z Z (eN (sR (wJL (.fx 6 gAf .stop)) Z (oM Z Z (oM Z Z (oM Z Z (oM Z Z (oR Z (ZV Z Z Z) (oR Z (zh Z Z Z) ?_))))))))))
 have q:=bnd hm
 obtain ⟨⟨x2,x3⟩,h4,aU⟩:=q
 try dsimp only at aU
 refine zP 1 Z Z Z Z (zN Z Z Try.call29 (zC Z (zC Z zU)) Z) hS (fun hs=>wBx p0 ab ae ah (w64 ((w64 (p2 - p1)) + 1)) w U hs ba h4) (.inl Z) ?_
 rintro U6 L7 v8 W9 be aY ⟨am,au,rfl,rfl,aW⟩
 have aZ:SW w [.blk ab 87 [.slice ae p0.bytes.length ah,jV p0.next,.int .u32 p0.state]] U U6 [.blk ab 87 [.slice am x3.bytes.length au,jV x3.next,.int .u32 x3.state]] W9:=aY
 refine oR Z (zh Z Z Z) (oA Z Z (eN (zR ?_)))
 cases aU
 exact ⟨Z,_,(zz Z),U6,_,aZ,am,au,Z,Z,aW⟩
theorem wBg (p0:wAF) (ab:Nat) (ae:Option Addr) (ah:Nat) (p1:Int) (w:World) (U:PHeap) (hS:St0 w U [.blk ab 87 [.slice ae p0.bytes.length ah,jV p0.next,.int .u32 p0.state]]) (aZ:Sl U 1 ae ah p0.bytes.length (hH KL.encB8 p0.bytes)) {r:Bool × wAF} (hm:wAa p0 p1=some r):Gv Try.prog 33 [.pointer (some ⟨ab,0,none⟩),jV p1] w (wCg w [.blk ab 87 [.slice ae p0.bytes.length ah,jV p0.next,.int .u32 p0.state]] U (fun U_ L_ v=>∃ (am:Option Addr) (au:Nat),v=.bool r.1/\L_=[.blk ab 87 [.slice am r.2.bytes.length au,jV r.2.next,.int .u32 r.2.state]]/\Sl U_ 1 am au r.2.bytes.length (hH KL.encB8 r.2.bytes))):=by
 unfold wAa at hm
 refine Gv.of Try.func33 Z Try.ntmps33 Try.results33 Z (sR fL1 Z (oA Z Z (eN (sR gAt Z (oM Z Z (oM Z Z ?_))))))
 have q:=bnd hm
 obtain ⟨⟨x2,x3⟩,h4,az⟩:=q
 try dsimp only at az
 refine zP 1 Z Z Z Z (zN Z Z Try.call29 (zC Z (zC Z zU)) Z) hS (fun hs=>wBx p0 ab ae ah p1 w U hs aZ h4) (.inl Z) ?_
 rintro U6 L7 v8 W9 bb aX ⟨ak,aq,rfl,rfl,aV⟩
 have aY:SW w [.blk ab 87 [.slice ae p0.bytes.length ah,jV p0.next,.int .u32 p0.state]] U U6 [.blk ab 87 [.slice ak x3.bytes.length aq,jV x3.next,.int .u32 x3.state]] W9:=aX
 refine oR Z (Zn Z Z Z) (oA Z Z (eN (zR ?_)))
 cases az
 exact ⟨Z,_,(zz Z),U6,_,aY,ak,aq,Z,Z,aV⟩
theorem wCE (p0:List wAA) (au:Option Addr) (az:Nat) (p1:wAA) (w:World) (U:PHeap) (hS:St0 w U []) (bs:Sl U 2 au az p0.length (hH wAB p0)) {r:Int} (hm:wAX p0 p1=some r):Gv Try.prog 41 [.slice au p0.length az,.agg #[jV p1.Skier,jV p1.Lane]] w (wCg w [] U (fun U_ L_ v=>v=jV r/\L_=[])):=by
 unfold wAX at hm
 refine Gv.of Try.func41 Z Try.ntmps41 Try.results41 Z (sR gAh Z ?_)
 let B0:List Value:=[jV p1.Skier,jV p1.Lane]
 refine ZT (cs:=B0) rfl rfl rfl rfl rfl rfl (by rfl) hS ?_
 intro W1 b2 bq
 refine oA Z Z (eN (zG (sR fL3 Z (oM Z Z (oR Z (zt Z Z zw) (oM Z Z (eN (zd ?_))))))))
 have q:=wCT hm
 obtain ⟨r7,am⟩:=q
 have q:=wCS am
 obtain ⟨aq,bv⟩:=q
 replace aq:=zL aq
 refine Zm (fun k6 _ σ_ w_=>∃ (U_:PHeap),σ_ 8=jV (↑k6:Int)/\σ_ 0=.slice au p0.length az/\σ_ 3=.pointer (some ⟨b2,0,none⟩)/\σ_ 7=jV (↑p0.length:Int)/\PHeap.Le U U_/\sW w U U_ [.blk b2 35 B0] w_) bv ?_ ?_ ?_
 exact ⟨U,Z,Z,Z,Z,(zo _),bq⟩
 rintro k6 ⟨⟩ bN bO aV ap ⟨aU,ak,aY,aZ,ba,bg,bp⟩ bf bt
 try dsimp only at bf
 have aX:Hid ((↑k6:Int) < (↑p0.length:Int)):=zL (wBm ap)
 replace ap:=zL ap
 have bw:Hid (w64 ((↑k6:Int) + 1)=(↑(k6 + 1):Int)):=zL (by have h1:=aq.out;have h2:=aX.out;rw [wAY] <;> omega)
 refine sR fL1 rfl (zO rfl rfl rfl rfl (fun _=>zg rfl ak ba) (eN (zG (cT Z aX (kN (zG (zd (sR fL2 rfl (zZ rfl rfl rfl rfl rfl ak (OKS.ra rfl rfl rfl rfl rfl rfl (eN (zG (ZI ZJ [1,3,3,3,1,3] fL6 (by kernel_rfl) ?_)))))))))))))
 have ae:=bp.drew
 generalize hw_W27:({ aV with drawn:=aV.drawn + 1 }:World)=bF at ae ⊢
 refine oL Z (ae.ldBA (j:=0) Z Z aZ Zc zy (vs:=B0) Z Z) (oM Z aY (oM Z Z (bnK bf fun x28 bb bz=>?_)))
 have bm:=bs.le bg
 have q:=bm.el (fun _=>rfl) (wAx bb)
 obtain ⟨bH,bL,bn,bo⟩:=q
 refine oR Z (zu Z Z bn Z zw zy (wCA bb)) (oL Z (ae.ldCA (f:=0) bo Z Z Zc zy (us:=[jV x28.Skier,jV x28.Lane]) Z Z) (oR Z (Runs.eqS (enc:=wAB) (a:=p1) (b:=x28) Z Z Z eqT35 eqG35) (eN (ifc bz ?_ ?_))))
 intro aj bA
 refine cT Z aj (sR fL2 Z (oM Z Z (oA Z Z (eN (zR (zX (zJ ?_)))))))
 have q:=wAc bA
 obtain ⟨bD,bB,bj⟩:=q
 have q:=wBi hm am (bt bD bj)
 obtain rfl:=q
 refine zJ (zX (zJ ?_))
 cases bB
 exact ⟨rfl,_,(zz rfl),aU,_,(ae.pick [] _ (by decide) rfl),rfl,rfl⟩
 intro aj bC
 refine cF Z aj (ZN (zk (zM (rR fL2 Z (oR Z (ZB (zh Z ak Z) (congrArg (jV) bw.out)) (oM Z Z (ZA ?_)))))))
 have q:=nD bC
 obtain rfl:=q
 exact zM ⟨Z,_,Z,⟨aU,Z,aY,aZ,ba,bg,ae⟩⟩
 rintro ⟨⟩ bP bG ⟨bh,bl,bI,bJ,bk,bK,br⟩ bu
 have be:=wCw hm am bu
 try dsimp only at be
 have bi:Hid (¬ ((↑(((↑p0.length:Int):Int) - 0).toNat:Int) < (↑p0.length:Int))):=zL (wBK)
 refine sR fL1 Z (oR Z (zg Z bl bk) (eN (zG (cF Z bi (ZM (zn (zn (ZE (zM (sR fL1 Z (oA Z Z (eN (zR ?_)))))))))))))
 cases be
 exact ⟨rfl,_,(zz rfl),bh,_,(br.pick [] _ (by decide) rfl),rfl,rfl⟩
theorem wAk (p0:List wAA) (ah:Option Addr) (ai:Nat) (p1:wAA) (w:World) (U:PHeap) (hS:St0 w U []) (aW:Sl U 2 ah ai p0.length (hH wAB p0)) {r:Bool} (hm:wAL p0 p1=some r):Gv Try.prog 10 [.slice ah p0.length ai,.agg #[jV p1.Skier,jV p1.Lane]] w (wCg w [] U (fun U_ L_ v=>v=.bool r/\L_=[])):=by
 unfold wAL at hm
 refine Gv.of Try.func10 Z Try.ntmps10 Try.results10 Z (sR gAh Z ?_)
 let B0:List Value:=[jV p1.Skier,jV p1.Lane]
 refine ZT (cs:=B0) rfl rfl rfl rfl rfl rfl (by rfl) hS ?_
 intro W1 b2 ak
 refine oA Z Z (eN (sR gAt Z (oM Z Z (oL Z (ak.ldBA (j:=0) Z Z Z Zc zy (vs:=B0) Z Z) (bnK hm fun x5 h6 am=>zP 0 Z Z Z Z (zN Z Z Try.call41 (zC Z (zC Z zU)) Z) ak (fun hs=>wCE p0 ah ai p1 W1 U hs aW h6) (.inr Z) ?_)))))
 rintro U8 L9 aZ aq aY aU ⟨rfl,rfl⟩
 have aV:sW w U U8 [.blk b2 35 B0] aq:=aU
 refine oR Z (Runs.geq Z Z Z) (oA Z Z (eN (zR ?_)))
 first | (obtain rfl:=nD am) | cases am
 exact ⟨rfl,_,(zz rfl),U8,_,(aV.pick [] _ (by decide) rfl),rfl,rfl⟩
theorem wEj (p0:wAF) (am:Nat) (cU:Option Addr) (cV:Nat) (p1:Int) (w:World) (U:PHeap) (hS:St0 w U [.blk am 87 [.slice cU p0.bytes.length cV,jV p0.next,.int .u32 p0.state]]) (pq:Sl U 1 cU cV p0.bytes.length (hH KL.encB8 p0.bytes)) {r:wAC × (List (List Int)) × wAF} (hm:wBe p0 p1=some r):Gv Try.prog 7 [.pointer (some ⟨am,0,none⟩),jV p1] w (wCg w [.blk am 87 [.slice cU p0.bytes.length cV,jV p0.next,.int .u32 p0.state]] U (fun U_ L_ v=>∃ (fN:Option Addr) (gD:Nat) (fO:Option Addr) (gE:Nat) (fP:Option Addr) (gF:Nat) (A1:Option Addr) (c1:Nat) (gT:List Value) (fY:Option Addr) (gS:Nat),v=.tuple #[.agg #[.slice fN r.1.Shots.length gD,.slice fO r.1.Down.length gE,.slice fP r.1.Across.length gF],.slice A1 r.2.1.length c1]/\L_=[.row fN gD 3 1 (hH KL.encI r.1.Shots),.row fO gE 3 1 (hH KL.encI r.1.Down),.row A1 c1 23 1 gT,.blk am 87 [.slice fY r.2.2.bytes.length gS,jV r.2.2.next,.int .u32 r.2.2.state]]/\Sl U_ 2 fP gF r.1.Across.length (hH wAB r.1.Across)/\RlL U_ wIX r.2.1 gT/\Sl U_ 1 fY gS r.2.2.bytes.length (hH KL.encB8 r.2.2.bytes))):=by
 unfold wBe at hm
 refine Gv.of Try.func7 Z Try.ntmps7 Try.results7 Z (sR gAh Z ?_)
 let B0:List Value:=[.slice none 0 0,.slice none 0 0,.slice none 0 0]
 refine ZR (cs:=B0) Z Z Z Z Z Try.zeroValue26 Z hS ?_
 intro W2 b3 oc
 refine oA Z Z (eN (sR (.fx 0 .nil .stop) Z (ZR (cs:=B0) Z Z Z Z Z Try.zeroValue26 Z oc ?_)))
 intro W6 b7 o7
 refine eN (sR gAr Z (oM Z Z (oM Z Z ?_)))
 have q:=bnd hm
 obtain ⟨⟨aW,fC⟩,lQ,iu⟩:=q
 try dsimp only at iu
 let B1:Res:=.blk am 87 [.slice cU p0.bytes.length cV,jV p0.next,.int .u32 p0.state]
 have mQ:SW w [B1] U U [B1,.blk b7 26 B0,.blk b3 26 B0] W6:=o7.pick [2,0,1] _ (by decide) rfl
 refine zP 1 Z Z Z Z (zN Z Z Try.call40 (zC Z (zC Z (zC Z zU))) Z) mQ (fun hs=>wCL p0 am cU cV 1 p1 W6 U hs pq lQ) (.inl Z) ?_
 rintro eh re rN iZ rL mX ⟨fR,gI,rfl,rfl,lT⟩
 have mZ:SW w [B1] U eh [.blk am 87 [.slice fR fC.bytes.length gI,jV fC.next,.int .u32 fC.state],.blk b7 26 B0,.blk b3 26 B0] iZ:=mX
 refine oA Z Z (eN (zG (sR fL2 Z (oM Z Z (oM Z Z (eN (zd ?_)))))))
 have q:=bnd iu
 obtain ⟨⟨qY,qZ,rc,aZ⟩,pD,iG⟩:=q
 try dsimp only at iG
 have q:=wCO pD
 obtain ⟨fg,pE⟩:=q
 replace fg:=zL fg
 refine CK.forN' (fun bs (dL,x56,x57,fu) σ_ w_=>∃ (U_:PHeap) (db:Option Addr) (dA:Nat) (dg:Option Addr) (dC:Nat),σ_ 18=jV (↑bs:Int)/\σ_ 0=.pointer (some ⟨am,0,none⟩)/\σ_ 4=.pointer (some ⟨b3,0,none⟩)/\σ_ 6=.pointer (some ⟨b7,0,none⟩)/\σ_ 7=jV aW/\σ_ 17=jV aW/\PHeap.Le eh U_/\SW w [B1] U U_ [.blk am 87 [.slice db dL.length dA,jV x56,.int .u32 x57],.row dg dC 35 2 (hH wAB fu),.blk b7 26 [.slice none 0 0,.slice none 0 0,.slice dg fu.length dC],.blk b3 26 B0] w_/\Sl U_ 1 db dA dL.length (hH KL.encB8 dL)) pE ?_ ?_ ?_
 have oP:=mZ.nilrow 35 2
 exact ⟨eh,fR,gI,none,0,rfl,rfl,rfl,rfl,rfl,rfl,(zo _),(oP.pick [1,0,2,3] _ (by decide) rfl),lT⟩
 rintro bs ⟨dL,x56,x57,fu⟩ sf sA rB fc ⟨gj,db,dA,dg,dC,eM,lh,lu,lz,ib,ic,qL,pe,mF⟩ iL
 try dsimp only at iL
 have gO:Hid ((↑bs:Int) < aW):=zL (wBm fc)
 replace fc:=zL fc
 have p6:Hid (w64 ((↑bs:Int) + 1)=(↑(bs + 1):Int)):=zL (by have h1:=fg.out;have h2:=gO.out;rw [wAY] <;> omega)
 refine sR fL1 Z (oR Z (zg Z eM ic) (eN (zG (cT Z gO (kN (zG (zd (sR fL2 Z (oM Z eM (oA Z Z (eN (sR fL2 Z (oM Z ib (oM Z Z (eN (zd ?_))))))))))))))))
 have q:=bnd iL
 obtain ⟨⟨sg,sj,sk,sn⟩,pt,it⟩:=q
 try dsimp only at it
 have q:=wCO pt
 obtain ⟨fd,pu⟩:=q
 replace fd:=zL fd
 refine CK.forN' (fun bE (cO,x120,x121,b9) σ_ w_=>∃ (U_:PHeap) (cx:Option Addr) (cC:Nat) (bQ:Option Addr) (bS:Nat),σ_ 22=jV (↑bE:Int)/\σ_ 0=.pointer (some ⟨am,0,none⟩)/\σ_ 4=.pointer (some ⟨b3,0,none⟩)/\σ_ 6=.pointer (some ⟨b7,0,none⟩)/\σ_ 7=jV aW/\σ_ 8=jV (↑bs:Int)/\σ_ 17=jV aW/\σ_ 18=jV (↑bs:Int)/\σ_ 21=jV aW/\PHeap.Le gj U_/\SW w [B1] U U_ [.blk am 87 [.slice cx cO.length cC,jV x120,.int .u32 x121],.row bQ bS 35 2 (hH wAB b9),.blk b7 26 [.slice none 0 0,.slice none 0 0,.slice bQ b9.length bS],.blk b3 26 B0] w_/\Sl U_ 1 cx cC cO.length (hH KL.encB8 cO)) pu ?_ ?_ ?_
 exact ⟨gj,db,dA,dg,dC,Z,lh,lu,lz,ib,Z,ic,eM,Z,(zo _),pe,mF⟩
 rintro bE ⟨cO,x120,x121,b9⟩ sc sq iX eZ ⟨gg,cx,cC,bQ,bS,cI,dE,eG,cG,eH,cH,eI,eJ,dF,fw,il,ig⟩ fj
 try dsimp only at fj
 have gH:Hid ((↑bE:Int) < aW):=zL (wBm eZ)
 replace eZ:=zL eZ
 have eY:Hid (w64 ((↑bE:Int) + 1)=(↑(bE + 1):Int)):=zL (by have h1:=fd.out;have h2:=gH.out;rw [wAY] <;> omega)
 refine sR fL1 Z (oR Z (zg Z cI dF) (eN (zG (cT Z gH (kN (zG (zd (sR fL2 Z (oM Z cI (oA Z Z (eN (sR (wFT (.fx 5 (.fl 6 .nil) .stop)) Z (oM Z cH (oM Z Z (oR Z (ZF Z Z Z) (oM Z Z ?_))))))))))))))))
 by_cases bu:(↑bs:Int)=(↑bE:Int)
 have iv:=fj;rw [if_pos bu] at iv;replace bu:=zL bu
 refine zE Z Z Z (zQ Z Z (zf (fun h=>h bu.out)) Z) (ZS Z Z Z (zQ Z Z (zf (fun h=>h bu.out)) Z) (oR Z (zY Z (zf (fun h=>h bu.out)) Z) (eN (zi Z (ZN (zk (zM (rR fL2 Z (oR Z (ZB (zh Z cI Z) (congrArg (jV) eY.out)) (oM Z Z (ZA ?_)))))))))))
 cases iv
 exact zM ⟨Z,⟨gg,cx,cC,bQ,bS,Z,dE,eG,cG,eH,cH,eI,eJ,dF,fw,il,ig⟩⟩
 have iw:=fj;rw [if_neg bu] at iw;replace bu:=zL bu
 refine zZ Z Z Z (wT Z bu) Z dE ?_
 have q:=bnd iw
 obtain ⟨⟨rY,fD⟩,lR,iy⟩:=q
 try dsimp only at iy
 refine zP 1 Z Z Z (wT Z bu) (zN Z Z Try.call33 (zC Z (zC Z zU)) Z) il (fun hs=>wBg (⟨cO,x120,x121⟩:wAF) am cx cC 4 iX gg hs ig lR) (.inl Z) ?_
 rintro cq ri rO iY iM mR ⟨dR,eu,rfl,rfl,ii⟩
 let B2:Res:=.blk am 87 [.slice dR fD.bytes.length eu,jV fD.next,.int .u32 fD.state]
 let B3:Res:=.blk b7 26 [.slice none 0 0,.slice none 0 0,.slice bQ b9.length bS]
 let B4:Res:=.row bQ bS 35 2 (hH wAB b9)
 have eQ:SW w [B1] U cq [B2,B4,B3,.blk b3 26 B0] iY:=mR
 refine oR Z (zS Z (ZO bu.out) Z) (eN (ifc iy ?_ ?_))
 intro ey p7
 refine zp (congrArg nA ey.out) (rR (wFT (.fx 5 (.fx 6 (.fl 7 (.fx 8 .nil .stop)) .stop) .stop)) Z (oR Z (zK Z cG zF Z ZW) (oL Z (eQ.ldB (j:=2) Z Z Z Zd (v:=.slice bQ b9.length bS) Z) (oM Z cH (oM Z Z ?_)))))
 let B5:List Value:=[jV (↑bs:Int),jV (↑bE:Int)]
 refine oR Z (Zb (pv:=[(0,jV (↑bs:Int)),(1,jV (↑bE:Int))]) (z:=[jV 0,jV 0]) (cs:=B5) Z (wAT Z (wAT Z wBY)) ZY wEO Z Z) (Zi (pv:=[(0,.agg B5.toArray)]) (zs:=[jV 0,jV 0]) (cs:=B5) Z Z Z Z Z (wAT Z wBY) zw zy ZY Z Z Z Z Z eQ ?_)
 intro i0 jp mS
 let B6:Res:=.row (some ⟨jp,0,none⟩) 1 35 2 (hH wAB [(⟨(↑bs:Int),(↑bE:Int)⟩:wAA)])
 have im:SW w [B1] U cq [B6,B2,B4,B3,.blk b3 26 B0] i0:=mS
 refine bnK p7 fun dP lS p8=>OKS.append (j:=2) (enc:=wAB) (xs:=b9) (ys:=[(⟨(↑bs:Int),(↑bE:Int)⟩:wAA)]) (zs:=dP) rfl rfl rfl rfl rfl Try.underlying24 wNz rfl rfl rfl rfl rfl rfl im rfl rfl rfl (im.srcR (j:=0) rfl (by decide) (wAG (f:=wAB) (sz:=2) (fun _=>rfl) [(⟨(↑bs:Int),(↑bE:Int)⟩:wAA)])) (fun _=>rfl) (fun _=>rfl) lS rfl ?_
 intro cY dw i3 mT
 let B7:Res:=.row cY dw 35 2 (hH wAB dP)
 have mU:SW w [B1] U cq [B6,B2,B7,B3,.blk b3 26 B0] i3:=mT
 refine oR Z (zK Z cG zF Z ZW) (ZG (j:=3) (vs:=[.slice cY dP.length dw]) Z Z Z Z mU Z Z Z Z ZW (zD Z) Z Z Z ?_)
 intro i5 mV
 have mW:SW w [B1] U cq [B6,B2,B7,.blk b7 26 [.slice none 0 0,.slice none 0 0,.slice cY dP.length dw],.blk b3 26 B0] i5:=mV
 refine ZA (zk (zM (rR fL2 Z (oR Z (ZB (zh Z cI Z) (congrArg (jV) eY.out)) (oM Z Z (ZA ?_))))))
 cases p8
 exact zM ⟨rfl,⟨cq,dR,eu,cY,dw,rfl,dE,eG,cG,eH,cH,eI,eJ,dF,(fw.trans iM),(mW.pick [1,2,3,4] _ (by decide) rfl),ii⟩⟩
 intro ey p9
 refine zi (congrArg nA (nB.2 ey.out)) (ZN (zk (zM (rR fL2 Z (oR Z (ZB (zh Z cI Z) (congrArg (jV) eY.out)) (oM Z Z (ZA ?_)))))))
 cases p9
 exact zM ⟨Z,⟨cq,dR,eu,bQ,bS,Z,dE,eG,cG,eH,cH,eI,eJ,dF,(fw.trans iM),eQ,ii⟩⟩
 rintro ss ry ⟨iU,iR,jt,iT,ju,lM,jz,jA,jB,jC,rF,jD,jE,jG,qJ,mY,lU⟩
 have jv:Hid (¬ ((↑((aW:Int) - 0).toNat:Int) < aW)):=zL (wBK)
 refine sR fL1 Z (oR Z (zg Z lM jG) (eN (zG (cF Z jv (ZM (zn (zn (ZE (zk (zM (rR fL2 Z (oR Z (ZB (zh Z jE Z) (congrArg (jV) p6.out)) (oM Z Z (ZA ?_))))))))))))))
 cases it
 exact zM ⟨Z,⟨iU,iR,jt,iT,ju,Z,jz,jA,jB,jC,jD,(qL.trans qJ),mY,lU⟩⟩
 rintro su rA ⟨gh,fS,gJ,ba,bb,lN,jH,jJ,gW,eK,jK,rM,m4,lV⟩
 have jw:Hid (¬ ((↑((aW:Int) - 0).toNat:Int) < aW)):=zL (wBK)
 refine sR fL1 Z (oR Z (zg Z lN jK) (eN (zG (cF Z jw (ZM (zn (zn (ZE (zM (sR (.fl 0 (.fx 1 (.fl 2 (.fx 3 .nil .stop)) .stop)) Z (oM Z eK (bnK iG fun ak lW qa=>OKS.makeSlice (enc:=KL.encI) (z:=(0:Int)) (v:=jV 0) Z Z Z Z Z (wDn zA) wMH Z Z Z Z Z Z lW m4 ?_))))))))))))
 intro i6 aq m5
 let B8:Res:=.row (some ⟨aq,0,none⟩) ak.length 3 1 (hH KL.encI ak)
 let B9:Res:=.blk am 87 [.slice fS qY.length gJ,jV qZ,.int .u32 rc]
 let fZ:Res:=.row ba bb 35 2 (hH wAB aZ)
 have m6:SW w [B1] U gh [B8,B9,fZ,.blk b7 26 [.slice none 0 0,.slice none 0 0,.slice ba aZ.length bb],.blk b3 26 B0] i6:=m5
 refine oR Z (zK Z gW zF Z zW) (ZG (j:=3) (vs:=[.slice (some ⟨aq,0,none⟩) ak.length ak.length]) Z Z Z Z m6 Z Z Z Z zW (zD Z) Z Z Z ?_)
 intro gp m7
 let ga:Res:=.blk b7 26 [.slice none 0 0,.slice (some ⟨aq,0,none⟩) ak.length ak.length,.slice ba aZ.length bb]
 have m8:SW w [B1] U gh [B8,B9,fZ,ga,.blk b3 26 B0] gp:=m7
 refine eN (sR fL1 Z (oA Z Z (eN (zG (sR fL2 Z (oM Z eK (oM Z Z (eN (zd ?_)))))))))
 have q:=m8.freezeR (k:=2) (n:=aZ.length) rfl (wAG (f:=wAB) (sz:=2) (fun _=>rfl) aZ) (by decide)
 obtain ⟨ei,qK,fh,m9⟩:=q
 have n5:SW w [B1] U ei [B8,B9,ga,.blk b3 26 B0] gp:=m9
 have q:=bnd qa
 obtain ⟨⟨qR,qS,qT,iO,iP,qU⟩,py,iz⟩:=q
 try dsimp only at iz
 have q:=wCO py
 obtain ⟨fe,pz⟩:=q
 replace fe:=zL fe
 refine CK.forN' (fun aa (cP,fE,fG,cd,cf,bV) σ_ w_=>∃ (U_:PHeap) (cZ:Option Addr) (dx:Nat) (ci:Option Addr) (cu:Nat) (bR:Option Addr) (bT:Nat) (dD:List Value),σ_ 46=jV (↑aa:Int)/\σ_ 0=.pointer (some ⟨am,0,none⟩)/\σ_ 4=.pointer (some ⟨b3,0,none⟩)/\σ_ 6=.pointer (some ⟨b7,0,none⟩)/\σ_ 7=jV aW/\σ_ 10=.slice bR bV.length bT/\σ_ 45=jV aW/\PHeap.Le ei U_/\SW w [B1] U U_ [.blk am 87 [.slice cZ cP.length dx,jV fE,.int .u32 fG],.row ci cu 3 1 (hH KL.encI cd),.row (some ⟨aq,0,none⟩) ak.length 3 1 (hH KL.encI cf),.blk b7 26 [.slice ci cd.length cu,.slice (some ⟨aq,0,none⟩) cf.length ak.length,.slice ba aZ.length bb],.blk b3 26 B0,.row bR bT 23 1 dD] w_/\Sl U_ 1 cZ dx cP.length (hH KL.encB8 cP)/\cf.length=ak.length/\RlL U_ wIX bV dD) pz ?_ ?_ ?_
 have n7:=n5.nilrow 3 1
 have n9:=n7.nilrow 23 1
 have lX:=lV.le qK
 exact ⟨ei,fS,gJ,none,0,none,0,[],rfl,jH,jJ,gW,eK,rfl,rfl,(zo _),(n9.pick [3,1,2,4,5,0] _ (by decide) rfl),lX,rfl,RlL.nil⟩
 rintro aa ⟨cP,fE,fG,cd,cf,bV⟩ sd sv gu e9 ⟨iV,cZ,dx,ci,cu,bR,bT,dD,eL,gX,jL,dG,gZ,jM,g7,fy,oa,lY,lZ,l3⟩ iJ
 try dsimp only at iJ
 have gK:Hid ((↑aa:Int) < aW):=zL (wBm e9)
 replace e9:=zL e9
 have pY:Hid (w64 ((↑aa:Int) + 1)=(↑(aa + 1):Int)):=zL (by have h1:=fe.out;have h2:=gK.out;rw [wAY] <;> omega)
 refine sR fL1 rfl (zO rfl rfl rfl rfl (fun _=>zg rfl eL g7) (eN (zG (cT Z gK (kN (zG (zd (sR fL2 rfl (zZ rfl rfl rfl rfl rfl eL (OKS.ra rfl rfl rfl rfl rfl rfl (eN (zG (ZI ZJ [3,1004,3,1005,2,0,3,0,am] (wDt (.fx 3 (.fx 4 (.fx 5 (.fl 6 (.fx 7 .nil .stop)) .stop) .stop) .stop)) (by kernel_rfl) ?_)))))))))))))
 have eR:=oa.drew
 generalize hw_W434:({ gu with drawn:=gu.drawn + 1 }:World)=i7 at eR ⊢
 refine oR Z (zK Z dG zF Z zW) ?_
 let au:Res:=.row bR bT 23 1 dD
 let dh:Res:=.blk b7 26 [.slice ci cd.length cu,.slice (some ⟨aq,0,none⟩) cf.length ak.length,.slice ba aZ.length bb]
 let cj:Res:=.row (some ⟨aq,0,none⟩) ak.length 3 1 (hH KL.encI cf)
 let dV:Res:=.row ci cu 3 1 (hH KL.encI cd)
 refine OKS.mt (T:=[am]) [0] [1,2,3,4,5] [dV,cj,dh,.blk b3 26 B0,au] rfl rfl rfl rfl eR rfl ⟨⟨0,by decide,_,rfl,rfl⟩,trivial⟩ (by decide) rfl (by decide) (fun _ pp=>(pp.ldB (j:=2) rfl rfl rfl ze (v:=.slice ci cd.length cu) rfl)) rfl (zZ rfl rfl rfl rfl rfl gX ?_)
 have q:=bnd iJ
 obtain ⟨⟨cW,fH⟩,l4,iA⟩:=q
 try dsimp only at iA
 refine OKS.callHT 1 rfl rfl rfl rfl (zN rfl rfl Try.call40 (zC rfl (zC rfl (zC rfl zU))) rfl) eR (fun hs=>wCL (⟨cP,fE,fG⟩:wAF) am cZ dx 3 6 i7 iV hs lY l4) rfl (T:=[am]) rfl ⟨fun b h=>(by cases h;exact .head _),trivial⟩ ?_
 rintro bW rj rP i8 dM od ⟨fT,gL,rfl,rfl,l5⟩
 let cA:Res:=.blk am 87 [.slice fT fH.bytes.length gL,jV fH.next,.int .u32 fH.state]
 have oe:SW w [B1] U bW [cA,dV,cj,dh,.blk b3 26 B0,au] i8:=od
 refine Zi (pv:=[(0,jV cW)]) (zs:=[jV 0]) (cs:=[jV cW]) Z Z Z Z Z (wAT Z wBY) zA zB Ze Z Z Z Z Z oe ?_
 intro i9 jq og
 let dk:Res:=.row (some ⟨jq,0,none⟩) 1 3 1 (hH KL.encI [cW])
 have io:SW w [B1] U bW [dk,cA,dV,cj,dh,.blk b3 26 B0,au] i9:=og
 refine bnK iA fun aY l6 qb=>OKS.append (j:=2) (enc:=KL.encI) (xs:=cd) (ys:=[cW]) (zs:=aY) rfl rfl rfl rfl rfl Try.underlying23 wMH rfl rfl rfl rfl rfl rfl io rfl rfl rfl (io.srcR (j:=0) rfl (by decide) (wAG (f:=KL.encI) (sz:=1) (fun _=>rfl) [cW])) (fun _=>rfl) (fun _=>rfl) l6 rfl ?_
 intro bo bp ja oh
 let az:Res:=.row bo bp 3 1 (hH KL.encI aY)
 have oi:SW w [B1] U bW [dk,cA,az,cj,dh,.blk b3 26 B0,au] ja:=oh
 refine oR Z (zK Z dG zF Z zW) (ZG (j:=4) (vs:=[.slice bo aY.length bp]) Z Z Z Z oi Z Z Z Z zW (zD Z) Z Z Z ?_)
 intro jb oj
 let gb:Res:=.blk b7 26 [.slice bo aY.length bp,.slice (some ⟨aq,0,none⟩) cf.length ak.length,.slice ba aZ.length bb]
 have ol:SW w [B1] U bW [dk,cA,az,cj,gb,.blk b3 26 B0,au] jb:=oj
 refine eN (sR gAm Z (oM Z gZ (bnK qb fun aV l7 qc=>OKS.makeSlice (enc:=KL.encI) (z:=(0:Int)) (v:=jV 0) Z Z Z Z Z (wDn zA) wMH Z Z Z Z Z Z l7 ol ?_)))
 intro jc aX om
 have dJ:SW w [B1] U bW [.row (some ⟨aX,0,none⟩) aV.length 3 1 (hH KL.encI aV),dk,cA,az,cj,gb,.blk b3 26 B0,au] jc:=om
 refine oA Z Z (eN (zG (sR fL6 Z (oR Z (zK Z dG zF Z zW) (oL Z (dJ.ldB (j:=5) Z Z Z ze (v:=.slice bo aY.length bp) Z) (oM Z Z (bnK qc fun _ eO qd=>?_)))))))
 obtain ⟨rE,ik⟩:=dJ.rowSome (j:=3) rfl (by rw [wAG (f:=KL.encI) (sz:=1) (fun _=>rfl) aY];have hz:=wAI eO;omega)
 refine oR Z (zu Z Z ik Z zA zB (wAI eO)) ?_
 have pF:=wBX (xs:=aY) (wAI eO)
 refine zm rfl rfl rfl rfl (dJ.ldR (j:=3) rfl ik rfl rfl zH (wAR (sz:=1) (fun _=>rfl) _ _ 0 _ pF (by first | omega | rfl | simp) rfl)) rfl (zZ rfl rfl rfl rfl rfl rfl (eN (zd ?_)))
 have q:=bnd qd
 obtain ⟨⟨qV,qW,qX,iQ,cg⟩,pB,iB⟩:=q
 try dsimp only at iB
 have q:=wCO pB
 obtain ⟨ff,pC⟩:=q
 replace ff:=zL ff
 refine CK.forN' (fun bU (cQ,fJ,fK,ab,ai) σ_ w_=>∃ (U_:PHeap) (da:Option Addr) (dy:Nat),σ_ 63=jV (↑bU:Int)/\σ_ 0=.pointer (some ⟨am,0,none⟩)/\σ_ 4=.pointer (some ⟨b3,0,none⟩)/\σ_ 6=.pointer (some ⟨b7,0,none⟩)/\σ_ 7=jV aW/\σ_ 10=.slice bR bV.length bT/\σ_ 11=jV (↑aa:Int)/\σ_ 12=.slice (some ⟨aX,0,none⟩) ai.length aV.length/\σ_ 45=jV aW/\σ_ 46=jV (↑aa:Int)/\σ_ 62=jV (gd aY aa)/\PHeap.Le bW U_/\SW w [B1] U U_ [.blk am 87 [.slice da cQ.length dy,jV fJ,.int .u32 fK],az,.row (some ⟨aq,0,none⟩) ak.length 3 1 (hH KL.encI ab),.blk b7 26 [.slice bo aY.length bp,.slice (some ⟨aq,0,none⟩) ab.length ak.length,.slice ba aZ.length bb],.blk b3 26 B0,au,.row (some ⟨aX,0,none⟩) aV.length 3 1 (hH KL.encI ai)] w_/\Sl U_ 1 da dy cQ.length (hH KL.encB8 cQ)/\ab.length=ak.length/\ai.length=aV.length) pC ?_ ?_ ?_
 exact ⟨bW,fT,gL,rfl,gX,jL,dG,gZ,jM,rfl,rfl,g7,eL,rfl,(zo _),(dJ.pick [2,3,4,5,6,7,0] _ (by decide) rfl),l5,lZ,rfl⟩
 rintro bU ⟨cQ,fJ,fK,ab,ai⟩ se sw jd fb ⟨gi,da,dy,bD,bm,bI,bg,bB,bJ,bl,bn,bK,bL,bC,fz,oq,l8,bM,bN⟩ iK
 try dsimp only at iK
 have gM:Hid ((↑bU:Int) < (gd aY aa)):=zL (wBm fb)
 replace fb:=zL fb
 have pZ:Hid (w64 ((↑bU:Int) + 1)=(↑(bU + 1):Int)):=zL (by have h1:=ff.out;have h2:=gM.out;rw [wAY] <;> omega)
 refine sR fL1 Z (oR Z (zg Z bD bC) (eN (zG (cT Z gM (kN ?_)))))
 have q:=bnd iK
 obtain ⟨⟨fm,qO,qP,fq,ft⟩,qI,iC⟩:=q
 try dsimp only at iC
 refine CK.cut (fun σ_ w_=>∃ (U_:PHeap) (de:Option Addr) (dz:Nat),σ_ 0=.pointer (some ⟨am,0,none⟩)/\σ_ 4=.pointer (some ⟨b3,0,none⟩)/\σ_ 6=.pointer (some ⟨b7,0,none⟩)/\σ_ 7=jV aW/\σ_ 10=.slice bR bV.length bT/\σ_ 11=jV (↑aa:Int)/\σ_ 12=.slice (some ⟨aX,0,none⟩) ft.length aV.length/\σ_ 45=jV aW/\σ_ 46=jV (↑aa:Int)/\σ_ 62=jV (gd aY aa)/\σ_ 63=jV (↑bU:Int)/\PHeap.Le gi U_/\SW w [B1] U U_ [.blk am 87 [.slice de fm.length dz,jV qO,.int .u32 qP],az,.row (some ⟨aq,0,none⟩) ak.length 3 1 (hH KL.encI fq),.blk b7 26 [.slice bo aY.length bp,.slice (some ⟨aq,0,none⟩) fq.length ak.length,.slice ba aZ.length bb],.blk b3 26 B0,au,.row (some ⟨aX,0,none⟩) aV.length 3 1 (hH KL.encI ft)] w_/\Sl U_ 1 de dz fm.length (hH KL.encB8 fm)/\fq.length=ak.length/\ft.length=aV.length) ?_ ?_
 refine zd (sR fL2 Z (oM Z bl (oA Z Z (eN (zG (sR (.fl 0 (.fx 1 .nil .stop)) Z (oM Z bm ?_)))))))
 have q:=bnd qI
 obtain ⟨⟨rZ,cX⟩,l9,iD⟩:=q
 try dsimp only at iD
 refine zP 1 Z Z Z Z (zN Z Z Try.call33 (zC Z (zC Z zU)) Z) oq (fun hs=>wBg (⟨cQ,fJ,fK⟩:wAF) am da dy 4 jd gi hs l8 l9) (.inl Z) ?_
 rintro dv rk rQ en bw ot ⟨df,dB,rfl,rfl,eP⟩
 let be:Res:=.blk b7 26 [.slice bo aY.length bp,.slice (some ⟨aq,0,none⟩) ab.length ak.length,.slice ba aZ.length bb]
 let bF:Res:=.row (some ⟨aq,0,none⟩) ak.length 3 1 (hH KL.encI ab)
 let cn:Res:=.row (some ⟨aX,0,none⟩) aV.length 3 1 (hH KL.encI ai)
 have cL:SW w [B1] U dv [.blk am 87 [.slice df cX.bytes.length dB,jV cX.next,.int .u32 cX.state],az,bF,be,.blk b3 26 B0,au,cn] en:=ot
 refine eN (ifc iD ?_ ?_)
 intro ez qe
 refine zp (congrArg nA ez.out) (rR gAr Z (oM Z bm (oM Z bB ?_)))
 have q:=bnd qe
 obtain ⟨⟨ap,dQ⟩,ma,iE⟩:=q
 try dsimp only at iE
 refine zP 1 Z Z Z Z (zN Z Z Try.call29 (zC Z (zC Z zU)) Z) cL (fun hs=>wBx cX am df dB aW en dv hs eP ma) (.inl Z) ?_
 rintro ej rn rS gv cw ou ⟨dS,eA,rfl,rfl,ij⟩
 have dK:SW w [B1] U ej [.blk am 87 [.slice dS dQ.bytes.length eA,jV dQ.next,.int .u32 dQ.state],az,bF,be,.blk b3 26 B0,au,cn] gv:=ou
 refine oA Z Z (eN (sR (wPZ (.fx 8 (wOH gAn) .stop)) Z (oR Z (zK Z bg zF Z zW) (oL Z (dK.ldB (j:=3) Z Z Z ze (v:=.slice (some ⟨aq,0,none⟩) ab.length ak.length) Z) (oM Z Z (bnK iE fun _ bf qf=>oR Z (ZU Z Z Z Z zA zB (wBB bf) (wBC bf)) ?_))))))
 have pG:=wBX (xs:=ab) (wAI bf)
 refine zm rfl rfl rfl rfl (dK.ldR (j:=2) rfl rfl rfl rfl zH (wAR (sz:=1) (fun _=>rfl) _ _ 0 _ pG (by first | omega | rfl | simp) rfl)) rfl (zO rfl rfl rfl rfl (fun _=>zg rfl rfl rfl) (zZ rfl rfl rfl rfl rfl rfl (ifc qf ?_ ?_)))
 intro bO qg
 refine zZ Z Z Z (wT Z bO) Z bm ?_
 have q:=bnd qg
 obtain ⟨⟨r6,fL⟩,mb,iF⟩:=q
 try dsimp only at iF
 refine zP 1 Z Z Z (wT Z bO) (zN Z Z Try.call33 (zC Z (zC Z zU)) Z) dK (fun hs=>wBg dQ am dS eA 4 gv ej hs ij mb) (.inl Z) ?_
 rintro bX ro rT gw cR ow ⟨cy,cD,rfl,rfl,dH⟩
 let bG:Res:=.blk am 87 [.slice cy fL.bytes.length cD,jV fL.next,.int .u32 fL.state]
 have cM:SW w [B1] U bX [bG,az,bF,be,.blk b3 26 B0,au,cn] gw:=ow
 refine rU Z (wT Z bO) (ZC Z Z) (oR Z (zS Z (ZO bO.out) Z) (oM Z Z (ifc iF ?_ ?_)))
 intro bh qh
 refine zE Z Z Z (zQ Z Z (nC bh.out) Z) (zE Z Z Z (zQ Z Z (nC bh.out) Z) (zE Z Z Z (zQ Z Z (nC bh.out) Z) (zE Z Z Z (zQ Z Z (nC bh.out) Z) (zE Z Z Z (wAD Z Z Z) (zE Z Z Z (wAD Z Z Z) (zE Z Z Z (wAD Z Z Z) (zE Z Z Z (wAD Z Z Z) (zE Z Z Z (wAD Z Z Z) (ZS Z Z Z (wAD Z Z Z) (zE Z Z Z (zQ Z Z (nC bh.out) Z) (oR Z (zY Z (nC bh.out) Z) (eN (zi Z (ZN (zk ?_)))))))))))))))
 cases qh
 exact zM ⟨Z,⟨bX,cy,cD,bm,bI,bg,bB,bJ,bl,bn,bK,bL,bC,bD,((bw.trans cw).trans cR),cM,dH,bM,bN⟩⟩
 intro bh qi
 refine zZ Z Z Z (zI Z Z (nF (bh.out))) Z Z (zZ Z Z Z (zI Z Z (nF (bh.out))) Z bl (zO Z Z Z (zI Z Z (nF (bh.out))) (fun _=>Zn Z Z Z) (zZ Z Z Z (zI Z Z (nF (bh.out))) Z Z (ifc qi ?_ ?_))))
 intro bi qj
 refine oT Z bi (oT Z bi (oT Z bi (oT Z bi (oT Z bi (ZS Z Z Z (zQ Z Z (ZO bi.out) Z) (zO Z Z Z (zI Z Z (nF (bh.out))) (fun _=>zS Z (ZO bi.out) Z) (oR Z (zS Z (nF (bh.out)) Z) (eN (zp Z (sR (wJL (.fx 6 .nil .stop)) Z (oM Z bn (oM Z Z (bnK qj fun _ bZ qk=>oR Z (ZU Z Z Z Z zA zB (wBB bZ) (wBC bZ)) ?_)))))))))))))
 have pH:=wBX (xs:=ai) (wAI bZ)
 refine zm rfl rfl rfl rfl (cM.ldR (j:=6) rfl rfl rfl rfl zH (wAR (sz:=1) (fun _=>rfl) _ _ 0 _ pH (by first | omega | rfl | simp) rfl)) rfl (zO rfl rfl rfl rfl (fun _=>zh rfl rfl rfl) (zO rfl rfl rfl rfl (fun _=>ZU rfl rfl rfl rfl zA zB (wBB bZ) (wBC bZ)) ?_))
 have pI:=wBX (xs:=ai) (wAI bZ)
 refine Zk (j:=6) (vs:=[jV (w64 ((gd ai ap.toNat) + 1))]) (cs':=hH KL.encI (nK ai ap.toNat (w64 ((gd ai ap.toNat) + 1)))) rfl rfl rfl rfl cM rfl rfl rfl rfl rfl zB (by rw [wAG (f:=KL.encI) (sz:=1) (fun _=>rfl)];have hz:=wAI bZ;show _ + 1 <= _;first | omega | (simp only [nI];omega) | (simp only [nH,nE,nG];omega)) rfl (wCU (sz:=1) (fo:=0) (fun _=>rfl) _ _ _ _ pI (by first | omega | (simp only [nI];omega) | (simp only [nH,nE,nG];omega)) (zD rfl) rfl) rfl ?_
 intro je ox
 let dp:Res:=.row (some ⟨aX,0,none⟩) aV.length 3 1 (hH KL.encI (nK ai ap.toNat (w64 ((gd ai ap.toNat) + 1))))
 have eS:SW w [B1] U bX [bG,az,bF,be,.blk b3 26 B0,au,dp] je:=ox
 refine eN (Zf fun bz bq=>?_)
 have jN:bz 0=.pointer (some ⟨am,0,none⟩):=(bq 0).trans bm
 have jO:bz 4=.pointer (some ⟨b3,0,none⟩):=(bq 4).trans bI
 have g8:bz 6=.pointer (some ⟨b7,0,none⟩):=(bq 6).trans bg
 have jP:bz 7=jV aW:=(bq 7).trans bB
 have jQ:bz 10=.slice bR bV.length bT:=(bq 10).trans bJ
 have jR:bz 11=jV (↑aa:Int):=(bq 11).trans bl
 have jS:bz 12=.slice (some ⟨aX,0,none⟩) ((nK ai ap.toNat (w64 ((gd ai ap.toNat) + 1))).length) aV.length:=(bq 12).trans (nR (b:=(.slice (some ⟨aX,0,none⟩) ai.length aV.length:Value)) (c:=(.slice (some ⟨aX,0,none⟩) ((nK ai ap.toNat (w64 ((gd ai ap.toNat) + 1))).length) aV.length:Value)) bn (by simp only [nJ]))
 have jU:bz 13=jV ap:=(bq 13).trans rfl
 have jW:bz 45=jV aW:=(bq 45).trans bK
 have jX:bz 46=jV (↑aa:Int):=(bq 46).trans bL
 have jY:bz 62=jV (gd aY aa):=(bq 62).trans bC
 have jZ:bz 63=jV (↑bU:Int):=(bq 63).trans bD
 clear bq
 refine rR (wGk (.fx 7 .nil .stop)) Z (oR Z (zK Z g8 zF Z zW) (oL Z (eS.ldB (j:=3) Z Z Z ze (v:=.slice (some ⟨aq,0,none⟩) ab.length ak.length) Z) (oM Z jU (oR Z (ZU Z Z Z Z zA zB (wBB bf) (wBC bf)) ?_))))
 have pJ:=wBX (xs:=ab) (wAI bf)
 refine zm rfl rfl rfl rfl (eS.ldR (j:=2) rfl rfl rfl rfl zH (wAR (sz:=1) (fun _=>rfl) _ _ 0 _ pJ (by first | omega | rfl | simp) rfl)) rfl (zO rfl rfl rfl rfl (fun _=>zh rfl rfl rfl) (zO rfl rfl rfl rfl (fun _=>ZU rfl rfl rfl rfl zA zB (wBB bf) (wBC bf)) ?_))
 have pK:=wBX (xs:=ab) (wAI bf)
 refine Zk (j:=2) (vs:=[jV (w64 ((gd ab ap.toNat) + 1))]) (cs':=hH KL.encI (nK ab ap.toNat (w64 ((gd ab ap.toNat) + 1)))) rfl rfl rfl rfl eS rfl rfl rfl rfl rfl zB (by rw [wAG (f:=KL.encI) (sz:=1) (fun _=>rfl)];have hz:=wAI bf;show _ + 1 <= _;first | omega | (simp only [nI];omega) | (simp only [nH,nE,nG];omega)) rfl (wCU (sz:=1) (fo:=0) (fun _=>rfl) _ _ _ _ pK (by first | omega | (simp only [nI];omega) | (simp only [nH,nE,nG];omega)) (zD rfl) rfl) rfl ?_
 intro gy oy
 let dW:Res:=.row (some ⟨aq,0,none⟩) ak.length 3 1 (hH KL.encI (nK ab ap.toNat (w64 ((gd ab ap.toNat) + 1))))
 have oz:SW w [B1] U bX [bG,az,dW,be,.blk b3 26 B0,au,dp] gy:=oy
 have oB:SW w [B1] U bX [bG,az,dW,.blk b7 26 [.slice bo aY.length bp,.slice (some ⟨aq,0,none⟩) ((nK ab ap.toNat (w64 ((gd ab ap.toNat) + 1))).length) ak.length,.slice ba aZ.length bb],.blk b3 26 B0,au,dp] gy:=by simpa only [B0,B1,au,az,be,bG,dp,dW,nJ] using oz
 refine ZA (zk ?_)
 cases qk
 exact zM ⟨Z,⟨bX,cy,cD,jN,jO,g8,jP,jQ,jR,jS,jW,jX,jY,jZ,((bw.trans cw).trans cR),oB,dH,(nJ.trans bM),(nJ.trans bN)⟩⟩
 intro bi ql
 refine rU Z (wF Z bi) (zK Z bg zF Z ZW) (zm Z Z Z (wF Z bi) (cM.ldB (j:=3) Z Z Z Zd (v:=.slice ba aZ.length bb) Z) Z (zZ Z Z Z (wF Z bi) Z bl (zZ Z Z Z (wF Z bi) Z Z (rU Z (wF Z bi) (Zb (pv:=[(0,jV (↑aa:Int)),(1,jV ap)]) (z:=[jV 0,jV 0]) (cs:=[jV (↑aa:Int),jV ap]) Z (wAT Z (wAT Z wBY)) ZY wEO Z Z) ?_))))
 have mc:=fh.le fy
 have md:=mc.le dM
 have mf:=md.le fz
 have mg:=mf.le bw
 have mh:=mg.le cw
 have mi:=mh.le cR
 refine bnK ql fun r8 mn qm=>zP 0 Z Z Z (wF Z bi) (zN Z Z Try.call10 (zC Z (zC Z zU)) Z) cM (fun hs=>wAk aZ ba bb (⟨(↑aa:Int),ap⟩:wAA) gw bX hs mi mn) (.inr Z) ?_
 rintro cr rp rV jf dN oG ⟨rfl,rfl⟩
 have eT:SW w [B1] U cr [bG,az,bF,be,.blk b3 26 B0,au,cn] jf:=oG
 refine zO Z Z Z (zI Z Z (nF (bh.out))) (fun _=>zY Z (zf bi.out) Z) (oR Z (zS Z (nF (bh.out)) Z) (eN (ifc qm ?_ ?_)))
 intro eC qn
 refine zp (congrArg nA eC.out) (sR (wJL (.fx 6 .nil .stop)) Z (oM Z bn (oM Z Z (bnK qn fun _ b5 qo=>oR Z (ZU Z Z Z Z zA zB (wBB b5) (wBC b5)) ?_))))
 have pL:=wBX (xs:=ai) (wAI b5)
 refine zm rfl rfl rfl rfl (eT.ldR (j:=6) rfl rfl rfl rfl zH (wAR (sz:=1) (fun _=>rfl) _ _ 0 _ pL (by first | omega | rfl | simp) rfl)) rfl (zO rfl rfl rfl rfl (fun _=>zh rfl rfl rfl) (zO rfl rfl rfl rfl (fun _=>ZU rfl rfl rfl rfl zA zB (wBB b5) (wBC b5)) ?_))
 have pM:=wBX (xs:=ai) (wAI b5)
 refine Zk (j:=6) (vs:=[jV (w64 ((gd ai ap.toNat) + 1))]) (cs':=hH KL.encI (nK ai ap.toNat (w64 ((gd ai ap.toNat) + 1)))) rfl rfl rfl rfl eT rfl rfl rfl rfl rfl zB (by rw [wAG (f:=KL.encI) (sz:=1) (fun _=>rfl)];have hz:=wAI b5;show _ + 1 <= _;first | omega | (simp only [nI];omega) | (simp only [nH,nE,nG];omega)) rfl (wCU (sz:=1) (fo:=0) (fun _=>rfl) _ _ _ _ pM (by first | omega | (simp only [nI];omega) | (simp only [nH,nE,nG];omega)) (zD rfl) rfl) rfl ?_
 intro jg oH
 let dq:Res:=.row (some ⟨aX,0,none⟩) aV.length 3 1 (hH KL.encI (nK ai ap.toNat (w64 ((gd ai ap.toNat) + 1))))
 have eU:SW w [B1] U cr [bG,az,bF,be,.blk b3 26 B0,au,dq] jg:=oH
 refine eN (Zf fun bA br=>?_)
 have j0:bA 0=.pointer (some ⟨am,0,none⟩):=(br 0).trans bm
 have j4:bA 4=.pointer (some ⟨b3,0,none⟩):=(br 4).trans bI
 have g9:bA 6=.pointer (some ⟨b7,0,none⟩):=(br 6).trans bg
 have j5:bA 7=jV aW:=(br 7).trans bB
 have j6:bA 10=.slice bR bV.length bT:=(br 10).trans bJ
 have j7:bA 11=jV (↑aa:Int):=(br 11).trans bl
 have j8:bA 12=.slice (some ⟨aX,0,none⟩) ((nK ai ap.toNat (w64 ((gd ai ap.toNat) + 1))).length) aV.length:=(br 12).trans (nR (b:=(.slice (some ⟨aX,0,none⟩) ai.length aV.length:Value)) (c:=(.slice (some ⟨aX,0,none⟩) ((nK ai ap.toNat (w64 ((gd ai ap.toNat) + 1))).length) aV.length:Value)) bn (by simp only [nJ]))
 have j9:bA 13=jV ap:=(br 13).trans rfl
 have k9:bA 45=jV aW:=(br 45).trans bK
 have lc:bA 46=jV (↑aa:Int):=(br 46).trans bL
 have lf:bA 62=jV (gd aY aa):=(br 62).trans bC
 have lg:bA 63=jV (↑bU:Int):=(br 63).trans bD
 clear br
 refine rR (wGk (.fx 7 .nil .stop)) Z (oR Z (zK Z g9 zF Z zW) (oL Z (eU.ldB (j:=3) Z Z Z ze (v:=.slice (some ⟨aq,0,none⟩) ab.length ak.length) Z) (oM Z j9 (oR Z (ZU Z Z Z Z zA zB (wBB bf) (wBC bf)) ?_))))
 have pN:=wBX (xs:=ab) (wAI bf)
 refine zm rfl rfl rfl rfl (eU.ldR (j:=2) rfl rfl rfl rfl zH (wAR (sz:=1) (fun _=>rfl) _ _ 0 _ pN (by first | omega | rfl | simp) rfl)) rfl (zO rfl rfl rfl rfl (fun _=>zh rfl rfl rfl) (zO rfl rfl rfl rfl (fun _=>ZU rfl rfl rfl rfl zA zB (wBB bf) (wBC bf)) ?_))
 have pO:=wBX (xs:=ab) (wAI bf)
 refine Zk (j:=2) (vs:=[jV (w64 ((gd ab ap.toNat) + 1))]) (cs':=hH KL.encI (nK ab ap.toNat (w64 ((gd ab ap.toNat) + 1)))) rfl rfl rfl rfl eU rfl rfl rfl rfl rfl zB (by rw [wAG (f:=KL.encI) (sz:=1) (fun _=>rfl)];have hz:=wAI bf;show _ + 1 <= _;first | omega | (simp only [nI];omega) | (simp only [nH,nE,nG];omega)) rfl (wCU (sz:=1) (fo:=0) (fun _=>rfl) _ _ _ _ pO (by first | omega | (simp only [nI];omega) | (simp only [nH,nE,nG];omega)) (zD rfl) rfl) rfl ?_
 intro gz oI
 let dX:Res:=.row (some ⟨aq,0,none⟩) ak.length 3 1 (hH KL.encI (nK ab ap.toNat (w64 ((gd ab ap.toNat) + 1))))
 have oK:SW w [B1] U cr [bG,az,dX,be,.blk b3 26 B0,au,dq] gz:=oI
 have oO:SW w [B1] U cr [bG,az,dX,.blk b7 26 [.slice bo aY.length bp,.slice (some ⟨aq,0,none⟩) ((nK ab ap.toNat (w64 ((gd ab ap.toNat) + 1))).length) ak.length,.slice ba aZ.length bb],.blk b3 26 B0,au,dq] gz:=by simpa only [B0,B1,au,az,be,bG,dq,dX,nJ] using oK
 refine ZA (zk ?_)
 cases qo
 have mo:=dH.le dN
 exact zM ⟨Z,⟨cr,cy,cD,j0,j4,g9,j5,j6,j7,j8,k9,lc,lf,lg,(((bw.trans cw).trans cR).trans dN),oO,mo,(nJ.trans bM),(nJ.trans bN)⟩⟩
 intro eC qp
 refine zi (congrArg nA (nB.2 eC.out)) (ZN (zk ?_))
 cases qp
 have mp:=dH.le dN
 exact zM ⟨Z,⟨cr,cy,cD,bm,bI,bg,bB,bJ,bl,bn,bK,bL,bC,bD,(((bw.trans cw).trans cR).trans dN),eT,mp,bM,bN⟩⟩
 intro bO qq
 refine oF Z bO (ZS Z Z Z (zQ Z Z (zf bO.out) Z) (oF Z bO (oR Z (zY Z (zf bO.out) Z) (oM Z Z (oN Z (oN Z (oN Z (oN Z (zE Z Z Z (wAD Z Z Z) (zE Z Z Z (wAD Z Z Z) (zE Z Z Z (wAD Z Z Z) (zE Z Z Z (wAD Z Z Z) (zE Z Z Z (wAD Z Z Z) (ZS Z Z Z (wAD Z Z Z) (oN Z (oR Z (zY Z Z Z) (eN (zi Z (ZN (zk ?_))))))))))))))))))))
 cases qq
 exact zM ⟨Z,⟨ej,dS,eA,bm,bI,bg,bB,bJ,bl,bn,bK,bL,bC,bD,(bw.trans cw),dK,ij,bM,bN⟩⟩
 intro ez qr
 refine zi (congrArg nA (nB.2 ez.out)) (kN (sR (wPZ (.fx 8 (wOH gAn) .stop)) Z (oR Z (zK Z bg zF Z zW) (oL Z (cL.ldB (j:=3) Z Z Z ze (v:=.slice (some ⟨aq,0,none⟩) ab.length ak.length) Z) (oM Z Z (bnK qr fun _ bv qt=>oR Z (zu Z Z Z Z zA zB (wAI bv)) ?_))))))
 have pP:=wBX (xs:=ab) (wAI bv)
 refine zm rfl rfl rfl rfl (cL.ldR (j:=2) rfl rfl rfl rfl zH (wAR (sz:=1) (fun _=>rfl) _ _ 0 _ pP (by first | omega | rfl | simp) rfl)) rfl (zO rfl rfl rfl rfl (fun _=>zg rfl rfl rfl) (zZ rfl rfl rfl rfl rfl rfl (ifc qt ?_ ?_)))
 intro bP qu
 refine zZ Z Z Z (wT Z bP) Z bm ?_
 have q:=bnd qu
 obtain ⟨⟨r9,fM⟩,mq,iH⟩:=q
 try dsimp only at iH
 refine zP 1 Z Z Z (wT Z bP) (zN Z Z Try.call33 (zC Z (zC Z zU)) Z) cL (fun hs=>wBg cX am df dB 4 en dv hs eP mq) (.inl Z) ?_
 rintro bY rq rW gA cS oU ⟨cz,cE,rfl,rfl,dI⟩
 let bH:Res:=.blk am 87 [.slice cz fM.bytes.length cE,jV fM.next,.int .u32 fM.state]
 have cN:SW w [B1] U bY [bH,az,bF,be,.blk b3 26 B0,au,cn] gA:=oU
 refine rU Z (wT Z bP) (ZC Z Z) (oR Z (zS Z (ZO bP.out) Z) (oM Z Z (ifc iH ?_ ?_)))
 intro bj qv
 refine zE Z Z Z (zQ Z Z (nC bj.out) Z) (zE Z Z Z (zQ Z Z (nC bj.out) Z) (zE Z Z Z (zQ Z Z (nC bj.out) Z) (zE Z Z Z (zQ Z Z (nC bj.out) Z) (zE Z Z Z (wAD Z Z Z) (zE Z Z Z (wAD Z Z Z) (zE Z Z Z (wAD Z Z Z) (zE Z Z Z (wAD Z Z Z) (zE Z Z Z (wAD Z Z Z) (ZS Z Z Z (wAD Z Z Z) (zE Z Z Z (zQ Z Z (nC bj.out) Z) (oR Z (zY Z (nC bj.out) Z) (eN (zi Z (ZN (zk ?_)))))))))))))))
 cases qv
 exact zM ⟨Z,⟨bY,cz,cE,bm,bI,bg,bB,bJ,bl,bn,bK,bL,bC,bD,(bw.trans cS),cN,dI,bM,bN⟩⟩
 intro bj qw
 refine zZ Z Z Z (zI Z Z (nF (bj.out))) Z Z (zZ Z Z Z (zI Z Z (nF (bj.out))) Z bl (zO Z Z Z (zI Z Z (nF (bj.out))) (fun _=>Zn Z Z Z) (zZ Z Z Z (zI Z Z (nF (bj.out))) Z Z (ifc qw ?_ ?_))))
 intro bk qx
 refine oT Z bk (oT Z bk (oT Z bk (oT Z bk (oT Z bk (ZS Z Z Z (zQ Z Z (ZO bk.out) Z) (zO Z Z Z (zI Z Z (nF (bj.out))) (fun _=>zS Z (ZO bk.out) Z) (oR Z (zS Z (nF (bj.out)) Z) (eN (zp Z (sR (wJL (.fx 6 .nil .stop)) Z (oM Z bn (oM Z Z (bnK qx fun _ cJ qy=>oR Z (zu Z Z Z Z zA zB (wAI cJ)) ?_)))))))))))))
 have pQ:=wBX (xs:=ai) (wAI cJ)
 refine zm rfl rfl rfl rfl (cN.ldR (j:=6) rfl rfl rfl rfl zH (wAR (sz:=1) (fun _=>rfl) _ _ 0 _ pQ (by first | omega | rfl | simp) rfl)) rfl (zO rfl rfl rfl rfl (fun _=>zh rfl rfl rfl) (zO rfl rfl rfl rfl (fun _=>zu rfl rfl rfl rfl zA zB (wAI cJ)) ?_))
 have pR:=wBX (xs:=ai) (wAI cJ)
 refine Zk (j:=6) (vs:=[jV (w64 ((gd ai aa) + 1))]) (cs':=hH KL.encI (nK ai aa (w64 ((gd ai aa) + 1)))) rfl rfl rfl rfl cN rfl rfl rfl rfl rfl zB (by rw [wAG (f:=KL.encI) (sz:=1) (fun _=>rfl)];have hz:=wAI cJ;show _ + 1 <= _;first | omega | (simp only [nI];omega) | (simp only [nH,nE,nG];omega)) rfl (wCU (sz:=1) (fo:=0) (fun _=>rfl) _ _ _ _ pR (by first | omega | (simp only [nI];omega) | (simp only [nH,nE,nG];omega)) (zD rfl) rfl) rfl ?_
 intro jh oW
 let dr:Res:=.row (some ⟨aX,0,none⟩) aV.length 3 1 (hH KL.encI (nK ai aa (w64 ((gd ai aa) + 1))))
 have eV:SW w [B1] U bY [bH,az,bF,be,.blk b3 26 B0,au,dr] jh:=oW
 refine eN (rR (wGk (.fx 7 .nil .stop)) Z (oR Z (zK Z bg zF Z zW) (oL Z (eV.ldB (j:=3) Z Z Z ze (v:=.slice (some ⟨aq,0,none⟩) ab.length ak.length) Z) (oM Z Z (oR Z (zu Z Z Z Z zA zB (wAI bv)) ?_)))))
 have pS:=wBX (xs:=ab) (wAI bv)
 refine zm rfl rfl rfl rfl (eV.ldR (j:=2) rfl rfl rfl rfl zH (wAR (sz:=1) (fun _=>rfl) _ _ 0 _ pS (by first | omega | rfl | simp) rfl)) rfl (zO rfl rfl rfl rfl (fun _=>zh rfl rfl rfl) (zO rfl rfl rfl rfl (fun _=>zu rfl rfl rfl rfl zA zB (wAI bv)) ?_))
 have pT:=wBX (xs:=ab) (wAI bv)
 refine Zk (j:=2) (vs:=[jV (w64 ((gd ab aa) + 1))]) (cs':=hH KL.encI (nK ab aa (w64 ((gd ab aa) + 1)))) rfl rfl rfl rfl eV rfl rfl rfl rfl rfl zB (by rw [wAG (f:=KL.encI) (sz:=1) (fun _=>rfl)];have hz:=wAI bv;show _ + 1 <= _;first | omega | (simp only [nI];omega) | (simp only [nH,nE,nG];omega)) rfl (wCU (sz:=1) (fo:=0) (fun _=>rfl) _ _ _ _ pT (by first | omega | (simp only [nI];omega) | (simp only [nH,nE,nG];omega)) (zD rfl) rfl) rfl ?_
 intro gB oX
 let dZ:Res:=.row (some ⟨aq,0,none⟩) ak.length 3 1 (hH KL.encI (nK ab aa (w64 ((gd ab aa) + 1))))
 have oY:SW w [B1] U bY [bH,az,dZ,be,.blk b3 26 B0,au,dr] gB:=oX
 have o0:SW w [B1] U bY [bH,az,dZ,.blk b7 26 [.slice bo aY.length bp,.slice (some ⟨aq,0,none⟩) ((nK ab aa (w64 ((gd ab aa) + 1))).length) ak.length,.slice ba aZ.length bb],.blk b3 26 B0,au,dr] gB:=by simpa only [B0,B1,au,az,be,bH,dr,dZ,nJ] using oY
 refine ZA (zk ?_)
 cases qy
 exact zM ⟨rfl,⟨bY,cz,cE,bm,bI,bg,bB,bJ,bl,(nR (b:=(.slice (some ⟨aX,0,none⟩) ai.length aV.length:Value)) (c:=(.slice (some ⟨aX,0,none⟩) ((nK ai aa (w64 ((gd ai aa) + 1))).length) aV.length:Value)) bn (by simp only [nJ])),bK,bL,bC,bD,(bw.trans cS),o0,dI,(nJ.trans bM),(nJ.trans bN)⟩⟩
 intro bk qz
 refine rU Z (wF Z bk) (zK Z bg zF Z ZW) (zm Z Z Z (wF Z bk) (cN.ldB (j:=3) Z Z Z Zd (v:=.slice ba aZ.length bb) Z) Z (zZ Z Z Z (wF Z bk) Z bl (zZ Z Z Z (wF Z bk) Z Z (rU Z (wF Z bk) (Zb (pv:=[(0,jV (↑aa:Int)),(1,jV (↑aa:Int))]) (z:=[jV 0,jV 0]) (cs:=[jV (↑aa:Int),jV (↑aa:Int)]) Z (wAT Z (wAT Z wBY)) ZY wEO Z Z) ?_))))
 have mr:=fh.le fy
 have ms:=mr.le dM
 have mu:=ms.le fz
 have mw:=mu.le bw
 have my:=mw.le cS
 refine bnK qz fun sb mz qA=>zP 0 Z Z Z (wF Z bk) (zN Z Z Try.call10 (zC Z (zC Z zU)) Z) cN (fun hs=>wAk aZ ba bb (⟨(↑aa:Int),(↑aa:Int)⟩:wAA) gA bY hs my mz) (.inr Z) ?_
 rintro ct rt rX ji dO o5 ⟨rfl,rfl⟩
 have eW:SW w [B1] U ct [bH,az,bF,be,.blk b3 26 B0,au,cn] ji:=o5
 refine zO Z Z Z (zI Z Z (nF (bj.out))) (fun _=>zY Z (zf bk.out) Z) (oR Z (zS Z (nF (bj.out)) Z) (eN (ifc qA ?_ ?_)))
 intro eD qB
 refine zp (congrArg nA eD.out) (sR (wJL (.fx 6 .nil .stop)) Z (oM Z bn (oM Z Z (bnK qB fun _ cK qC=>oR Z (zu Z Z Z Z zA zB (wAI cK)) ?_))))
 have pU:=wBX (xs:=ai) (wAI cK)
 refine zm rfl rfl rfl rfl (eW.ldR (j:=6) rfl rfl rfl rfl zH (wAR (sz:=1) (fun _=>rfl) _ _ 0 _ pU (by first | omega | rfl | simp) rfl)) rfl (zO rfl rfl rfl rfl (fun _=>zh rfl rfl rfl) (zO rfl rfl rfl rfl (fun _=>zu rfl rfl rfl rfl zA zB (wAI cK)) ?_))
 have pV:=wBX (xs:=ai) (wAI cK)
 refine Zk (j:=6) (vs:=[jV (w64 ((gd ai aa) + 1))]) (cs':=hH KL.encI (nK ai aa (w64 ((gd ai aa) + 1)))) rfl rfl rfl rfl eW rfl rfl rfl rfl rfl zB (by rw [wAG (f:=KL.encI) (sz:=1) (fun _=>rfl)];have hz:=wAI cK;show _ + 1 <= _;first | omega | (simp only [nI];omega) | (simp only [nH,nE,nG];omega)) rfl (wCU (sz:=1) (fo:=0) (fun _=>rfl) _ _ _ _ pV (by first | omega | (simp only [nI];omega) | (simp only [nH,nE,nG];omega)) (zD rfl) rfl) rfl ?_
 intro jj o6
 let dt:Res:=.row (some ⟨aX,0,none⟩) aV.length 3 1 (hH KL.encI (nK ai aa (w64 ((gd ai aa) + 1))))
 have eX:SW w [B1] U ct [bH,az,bF,be,.blk b3 26 B0,au,dt] jj:=o6
 refine eN (rR (wGk (.fx 7 .nil .stop)) Z (oR Z (zK Z bg zF Z zW) (oL Z (eX.ldB (j:=3) Z Z Z ze (v:=.slice (some ⟨aq,0,none⟩) ab.length ak.length) Z) (oM Z Z (oR Z (zu Z Z Z Z zA zB (wAI bv)) ?_)))))
 have pW:=wBX (xs:=ab) (wAI bv)
 refine zm rfl rfl rfl rfl (eX.ldR (j:=2) rfl rfl rfl rfl zH (wAR (sz:=1) (fun _=>rfl) _ _ 0 _ pW (by first | omega | rfl | simp) rfl)) rfl (zO rfl rfl rfl rfl (fun _=>zh rfl rfl rfl) (zO rfl rfl rfl rfl (fun _=>zu rfl rfl rfl rfl zA zB (wAI bv)) ?_))
 have pX:=wBX (xs:=ab) (wAI bv)
 refine Zk (j:=2) (vs:=[jV (w64 ((gd ab aa) + 1))]) (cs':=hH KL.encI (nK ab aa (w64 ((gd ab aa) + 1)))) rfl rfl rfl rfl eX rfl rfl rfl rfl rfl zB (by rw [wAG (f:=KL.encI) (sz:=1) (fun _=>rfl)];have hz:=wAI bv;show _ + 1 <= _;first | omega | (simp only [nI];omega) | (simp only [nH,nE,nG];omega)) rfl (wCU (sz:=1) (fo:=0) (fun _=>rfl) _ _ _ _ pX (by first | omega | (simp only [nI];omega) | (simp only [nH,nE,nG];omega)) (zD rfl) rfl) rfl ?_
 intro gC o8
 let d7:Res:=.row (some ⟨aq,0,none⟩) ak.length 3 1 (hH KL.encI (nK ab aa (w64 ((gd ab aa) + 1))))
 have o9:SW w [B1] U ct [bH,az,d7,be,.blk b3 26 B0,au,dt] gC:=o8
 have pb:SW w [B1] U ct [bH,az,d7,.blk b7 26 [.slice bo aY.length bp,.slice (some ⟨aq,0,none⟩) ((nK ab aa (w64 ((gd ab aa) + 1))).length) ak.length,.slice ba aZ.length bb],.blk b3 26 B0,au,dt] gC:=by simpa only [B0,B1,au,az,be,bH,dt,d7,nJ] using o9
 refine ZA (zk ?_)
 cases qC
 have mA:=dI.le dO
 exact zM ⟨rfl,⟨ct,cz,cE,bm,bI,bg,bB,bJ,bl,(nR (b:=(.slice (some ⟨aX,0,none⟩) ai.length aV.length:Value)) (c:=(.slice (some ⟨aX,0,none⟩) ((nK ai aa (w64 ((gd ai aa) + 1))).length) aV.length:Value)) bn (by simp only [nJ])),bK,bL,bC,bD,((bw.trans cS).trans dO),pb,mA,(nJ.trans bM),(nJ.trans bN)⟩⟩
 intro eD qD
 refine zi (congrArg nA (nB.2 eD.out)) (ZN (zk ?_))
 cases qD
 have mB:=dI.le dO
 exact zM ⟨Z,⟨ct,cz,cE,bm,bI,bg,bB,bJ,bl,bn,bK,bL,bC,bD,((bw.trans cS).trans dO),eW,mB,bM,bN⟩⟩
 intro bP qE
 refine oF Z bP (ZS Z Z Z (zQ Z Z (zf bP.out) Z) (oF Z bP (oR Z (zY Z (zf bP.out) Z) (oM Z Z (oN Z (oN Z (oN Z (oN Z (zE Z Z Z (wAD Z Z Z) (zE Z Z Z (wAD Z Z Z) (zE Z Z Z (wAD Z Z Z) (zE Z Z Z (wAD Z Z Z) (zE Z Z Z (wAD Z Z Z) (ZS Z Z Z (wAD Z Z Z) (oN Z (oR Z (zY Z Z Z) (eN (zi Z (ZN (zk ?_))))))))))))))))))))
 cases qE
 exact zM ⟨Z,⟨dv,df,dB,bm,bI,bg,bB,bJ,bl,bn,bK,bL,bC,bD,bw,cL,eP,bM,bN⟩⟩
 rintro sB rC ⟨iW,de,dz,li,lj,lm,ln,lp,lq,ls,lv,lw,lx,ly,qM,pf,mC,mD,mE⟩
 refine rR fL2 Z (oR Z (ZB (zh Z ly Z) (congrArg (jV) pZ.out)) (oM Z Z (ZA ?_)))
 cases iC
 exact zM ⟨Z,⟨iW,de,dz,Z,li,lj,lm,ln,lp,lq,ls,lv,lw,lx,(fz.trans qM),pf,mC,mD,mE⟩⟩
 rintro sC jk ⟨ru,fU,gN,lO,lA,lB,lC,lD,lE,rG,lF,lG,lH,lI,iN,pg,mG,mH,rJ⟩
 have jx:Hid (¬ ((↑(((gd aY aa):Int) - 0).toNat:Int) < (gd aY aa))):=zL (wBK)
 refine sR fL1 Z (oR Z (zg Z lO lI) (eN (zG (cF Z jx (ZM (zn (zn (ZE (zM (rR (.fl 0 (.fl 1 (.fx 2 gAj .stop))) Z (oM Z lE (oM Z lF ?_))))))))))))
 have q:=pg.freezeR (k:=6) (n:=cg.length) rfl (wAG (f:=KL.encI) (sz:=1) (fun _=>rfl) cg) (by decide)
 obtain ⟨cB,fA,qH,pi⟩:=q
 let d8:Res:=.blk b7 26 [.slice bo aY.length bp,.slice (some ⟨aq,0,none⟩) iQ.length ak.length,.slice ba aZ.length bb]
 let d9:Res:=.row (some ⟨aq,0,none⟩) ak.length 3 1 (hH KL.encI iQ)
 let eb:Res:=.blk am 87 [.slice fU qV.length gN,jV qW,.int .u32 qX]
 have pj:SW w [B1] U cB [eb,az,d9,d8,.blk b3 26 B0,au] jk:=pi
 let du:List Value:=[.slice (some ⟨aX,0,none⟩) cg.length aV.length]
 refine Zi (pv:=[(0,.slice (some ⟨aX,0,none⟩) cg.length aV.length)]) (zs:=[.slice none 0 0]) (cs:=du) Z Z Z Z Z (wAT Z wBY) zx zW Try.zeroValue23 Z Z Z Z Z pj ?_
 intro jl jr ph
 have iI:RlL cB wIX [cg] du:=(RlL.cons (R:=wIX) (x:=cg) (vs:=du) ⟨(some ⟨aX,0,none⟩),aV.length,rfl,qH⟩ RlL.nil)
 let gc:Res:=.row (some ⟨jr,0,none⟩) 1 23 1 du
 have ip:SW w [B1] U cB [gc,eb,az,d9,d8,.blk b3 26 B0,au] jl:=ph
 refine bnK iB fun qQ mI qF=>?_
 have mJ:=l3.le dM
 have mK:=mJ.le iN
 have mL:=mK.le fA
 refine OKS.appendR (R:=wIX) (j:=6) (xs:=bV) (ys:=[cg]) (zs:=qQ) rfl rfl rfl rfl rfl Try.underlying27 wNy rfl rfl rfl rfl rfl rfl rfl ip rfl rfl rfl mL iI (ip.srcR (j:=0) rfl (by decide) (RlL.len iI)) mI rfl ?_
 intro fV gP gU jm pk qG
 have pn:SW w [B1] U cB [gc,eb,az,d9,d8,.blk b3 26 B0,.row fV gP 23 1 gU] jm:=pk
 refine oA Z Z (ZA (zk (zM (rR fL2 Z (oR Z (ZB (zh Z lH Z) (congrArg (jV) pY.out)) (oM Z Z (ZA ?_)))))))
 cases qF
 have mM:=mG.le fA
 exact zM ⟨rfl,⟨cB,fU,gN,bo,bp,fV,gP,gU,rfl,lA,lB,lC,lD,rfl,lG,(((fy.trans dM).trans iN).trans fA),(pn.pick [1,2,3,4,5,6] _ (by decide) rfl),mM,mH,qG⟩⟩
 rintro sD rD ⟨gm,fW,gQ,dT,eE,dU,eF,gR,lP,rH,ie,lJ,rI,lK,lL,qN,iq,mN,rK,mO⟩
 have jy:Hid (¬ ((↑((aW:Int) - 0).toNat:Int) < aW)):=zL (wBK)
 refine sR fL1 Z (oR Z (zg Z lP lL) (eN (zG (cF Z jy (ZM (zn (zn (ZE (zM (sR gAr Z ?_))))))))))
 let cp:List Value:=[.slice dT iO.length eE,.slice (some ⟨aq,0,none⟩) iP.length ak.length,.slice ba aZ.length bb]
 refine oL Z (iq.ldBA (j:=3) Z Z lJ ZK zj (vs:=cp) Z Z) (oM Z lK (ZG (j:=4) (vs:=cp) Z Z Z Z iq Z ie Z Z zj (zD Z) Z Z Z ?_))
 intro jo po
 have ir:SW w [B1] U gm [.blk am 87 [.slice fW qR.length gQ,jV qS,.int .u32 qT],.row dT eE 3 1 (hH KL.encI iO),.row (some ⟨aq,0,none⟩) ak.length 3 1 (hH KL.encI iP),.blk b7 26 cp,.blk b3 26 cp,.row dU eF 23 1 gR] jo:=po
 refine oA Z Z (eN (zR ?_))
 have mP:=fh.le qN
 cases iz
 exact ⟨rfl,_,(wKf (rs:=[.cell 4 26,.tmp 5]) (vs:=[.agg cp.toArray,.slice dU qU.length eF]) ⟨⟨_,ie,(wGx ZK zj (ir.blkAt (k:=4) rfl) (vs:=cp) rfl rfl)⟩,⟨rfl,trivial⟩⟩ rfl),gm,_,(ir.pick [1,2,5,0] _ (by decide) rfl),dT,eE,(some ⟨aq,0,none⟩),ak.length,ba,bb,dU,eF,gR,fW,gQ,rfl,rfl,mP,mO,mN⟩
end Go.Proofs.Ytfcmijinklojbaa
namespace Go.Proofs.Ytfcmijinklojbaa
open Go.KL
set_option maxHeartbeats 4000000
theorem wBI (p0:Int) (p1:Int) (p2:Int) (w:World) (U:PHeap) (hS:St0 w U [])  {r:Bool} (hm:wAe p0 p1 p2=some r):Gv Try.prog 70 [jV p0,jV p1,jV p2] w (wCg w [] U (fun U_ L_ v=>v=.bool r/\L_=[])):=by
 unfold wAe at hm
 refine Gv.of Try.func70 Z Try.ntmps70 Try.results70 Z (sR fL1 Z (oA Z Z (eN (sR fL9 Z (oM Z Z (oM Z Z (oR Z (Runs.geq Z Z Z) (oM Z Z ?_))))))))
 by_cases c1:p1 <= p0
 have ab:=hm;rw [if_pos c1] at ab;replace c1:=zL c1
 refine zZ Z Z Z (wT Z c1) Z Z (zZ Z Z Z (wT Z c1) Z Z (rU Z (wT Z c1) (Runs.leq Z Z Z) (oR Z (zS Z (ZO c1.out) Z) (oA Z Z (eN (zR ?_))))))
 first | (obtain rfl:=nD ab) | cases ab
 exact ⟨Z,_,(zz Z),U,_,hS,Z,Z⟩
 have ai:=hm;rw [if_neg c1] at ai;replace c1:=zL c1
 refine oF Z c1 (oF Z c1 (oF Z c1 (oR Z (zY Z (zf c1.out) Z) (oA Z Z (eN (zR ?_))))))
 have hE:=nD ai;first | subst r | cases hE
 exact ⟨Z,_,(zz Z),U,_,hS,Z,Z⟩
theorem wFC (p0:Int) (p1:(Int->Option Bool)) (ai:Nat) (ab:Value) (w:World) (U:PHeap) (hS:St0 w U []) (aq:Cl U ai 0 [ab]) (au:FnOK Try.prog U ab wJk wMG p1) {r:Bool} (hm:wBP p0 p1=some r):Gv Try.prog 102 [jV p0,.pointer (some ⟨ai,0,none⟩)] w (wCg w [] U (fun U_ L_ v=>v=.bool r/\L_=[])):=by
 unfold wBP at hm
 refine Gv.of Try.func102 Z Try.ntmps102 Try.results102 Z (sR fL1 Z (oA Z Z (eN (sR gAt Z (oL Z (hS.ldC (f:=0) aq (v:=ab) Z Z Try.isAgg74 Z) (oM Z Z (bnK hm fun x1 h2 az=>OKS.callV (a:=p0) Z Z Z Z Z Z (zC Z zU) hS au Z h2 ?_)))))))
 rintro U4 L5 v6 W7 aV ap ⟨rfl,rfl⟩
 have am:sW w U U4 [] W7:=ap
 refine oR Z (ZC Z Z) (oA Z Z (eN (zR ?_)))
 cases az
 exact ⟨Z,_,(zz Z),U4,_,am,Z,Z⟩
theorem wDG (p0:List Int) (aq:Option Addr) (au:Nat) (p1:(Int->Option Bool)) (az:Value) (w:World) (U:PHeap) (hS:St0 w U []) (bu:Sl U 1 aq au p0.length (hH KL.encI p0)) (bv:FnOK Try.prog U az wJk wMG p1) {r:Int} (hm:wBJ p0 p1=some r):Gv Try.prog 97 [.slice aq p0.length au,az] w (wCg w [] U (fun U_ L_ v=>v=jV r/\L_=[])):=by
 unfold wBJ at hm
 refine Gv.of Try.func97 Z Try.ntmps97 Try.results97 Z (sR fL1 Z (oA Z Z (eN (zG (sR fL3 Z (oM Z Z (oR Z (zt Z Z zA) (oM Z Z (eN (zd ?_))))))))))
 have q:=wCT hm
 obtain ⟨r3,aj⟩:=q
 have q:=wCS aj
 obtain ⟨am,bA⟩:=q
 replace am:=zL am
 refine Zm (fun k2 _ σ_ w_=>∃ (U_:PHeap),σ_ 8=jV (↑k2:Int)/\σ_ 0=.slice aq p0.length au/\σ_ 1=az/\σ_ 7=jV (↑p0.length:Int)/\PHeap.Le U U_/\sW w U U_ [] w_) bA ?_ ?_ ?_
 exact ⟨U,Z,Z,Z,Z,(zo _),hS⟩
 rintro k2 ⟨⟩ bV bX W8 ak ⟨bK,ai,aV,aW,aX,ap,aZ⟩ be bw
 try dsimp only at be
 have aU:Hid ((↑k2:Int) < (↑p0.length:Int)):=zL (wBm ak)
 replace ak:=zL ak
 have bB:Hid (w64 ((↑k2:Int) + 1)=(↑(k2 + 1):Int)):=zL (by have h1:=am.out;have h2:=aU.out;rw [wAY] <;> omega)
 refine sR fL1 Z (oR Z (zg Z ai aX) (eN (zG (cT Z aU (kN (zG (zd (sR fL2 Z (oM Z ai (oA Z Z (eN (sR (wFT (.fx 5 .nil .stop)) Z (oM Z aW (oM Z aV (oM Z Z (bnK be fun bg aY bC=>?_))))))))))))))))
 have bn:=bu.le ap
 have q:=bn.el (fun _=>rfl) (wAx aY)
 obtain ⟨bN,bR,bq,br⟩:=q
 refine oR Z (zu Z Z bq Z zA zB (wCA aY)) (oL Z (aZ.ldC (f:=0) br (v:=jV bg) Z Z zH Z) (bnK bC fun bU bo bD=>?_))
 have bp:=bv.le ap
 refine OKS.callV (a:=bg) Z Z Z Z Z Z (zC Z zU) aZ bp Z bo ?_
 rintro ae bJ bT bi bH bs ⟨rfl,rfl⟩
 have ba:sW w U ae [] bi:=bs
 refine eN (ifc bD ?_ ?_)
 intro ah bE
 refine zp (congrArg nA ah.out) (sR fL2 Z (oM Z Z (oA Z Z (eN (zR (zX (zJ ?_)))))))
 have q:=wAc bE
 obtain ⟨bI,bF,bk⟩:=q
 have q:=wBi hm aj (bw bI bk)
 obtain rfl:=q
 refine zJ (zX (zJ ?_))
 cases bF
 exact ⟨Z,_,(zz Z),ae,_,ba,Z,Z⟩
 intro ah bG
 refine zi (congrArg nA (nB.2 ah.out)) (ZN (zk (zM (rR fL2 Z (oR Z (ZB (zh Z ai Z) (congrArg (jV) bB.out)) (oM Z Z (ZA ?_)))))))
 have q:=nD bG
 obtain rfl:=q
 exact zM ⟨Z,_,Z,⟨ae,Z,aV,aW,aX,(ap.trans bH),ba⟩⟩
 rintro ⟨⟩ bW bL ⟨bh,bm,bO,bP,bl,bQ,bt⟩ bz
 have bb:=wCw hm aj bz
 try dsimp only at bb
 have bj:Hid (¬ ((↑(((↑p0.length:Int):Int) - 0).toNat:Int) < (↑p0.length:Int))):=zL (wBK)
 refine sR fL1 Z (oR Z (zg Z bm bl) (eN (zG (cF Z bj (ZM (zn (zn (ZE (zM (sR fL1 Z (oA Z Z (eN (zR ?_)))))))))))))
 cases bb
 exact ⟨Z,_,(zz Z),bh,_,bt,Z,Z⟩
theorem wCt (p0:List Int) (ae:Option Addr) (ah:Nat) (p1:(Int->Option Bool)) (ai:Value) (w:World) (U:PHeap) (hS:St0 w U []) (az:Sl U 1 ae ah p0.length (hH KL.encI p0)) (aU:FnOK Try.prog U ai wJk wMG p1) {r:Bool} (hm:wAw p0 p1=some r):Gv Try.prog 98 [.slice ae p0.length ah,ai] w (wCg w [] U (fun U_ L_ v=>v=.bool r/\L_=[])):=by
 unfold wAw at hm
 refine Gv.of Try.func98 Z Try.ntmps98 Try.results98 Z (sR fL1 Z (oA Z Z (eN (sR gAt Z (oM Z Z (oM Z Z (bnK hm fun x1 h2 ak=>zP 0 Z Z Z Z (zN Z Z Try.call97 (zC Z (zC Z zU)) Z) hS (fun hs=>wDG p0 ae ah p1 ai w U hs az aU h2) (.inr Z) ?_)))))))
 rintro U4 L5 v6 W7 aW au ⟨rfl,rfl⟩
 have aq:sW w U U4 [] W7:=au
 refine oR Z (Runs.geq Z Z Z) (oA Z Z (eN (zR ?_)))
 first | (obtain rfl:=nD ak) | cases ak
 exact ⟨Z,_,(zz Z),U4,_,aq,Z,Z⟩
theorem wBh (p0:List Int) (ak:Option Addr) (am:Nat) (p1:(Int->Option Bool)) (ai:Value) (w:World) (U:PHeap) (hS:St0 w U []) (bh:Sl U 1 ak am p0.length (hH KL.encI p0)) (au:FnOK Try.prog U ai wJk wMG p1) {r:Bool} (hm:wAj p0 p1=some r):Gv Try.prog 79 [.slice ak p0.length am,ai] w (wCg w [] U (fun U_ L_ v=>v=.bool r/\L_=[])):=by
 unfold wAj at hm
 refine Gv.of Try.func79 Z Try.ntmps79 Try.results79 Z (sR gAh Z (ZT (cs:=[ai]) Z Z Z Z Z Z (FnOK.cells au) hS ?_))
 intro W1 b2 be
 have q:=be.freeze (k:=0) rfl
 obtain ⟨U5,az,ab,bf⟩:=q
 replace ab:=Cl.of ab
 have bg:sW w U U5 [] W1:=bf
 replace ab:Cl U5 b2 0 [ai]:=ab
 refine oA Z Z (eN (sR gAt Z (oM Z Z (oR Z (Runs.mkf Z zU (zC Z zU)) ?_))))
 have aW:=bh.le az
 have aX:=au.le az
 have aZ:FnOK Try.prog U5 (.func (.func 102) #[] #[.pointer (some ⟨b2,0,none⟩)]) wJk wMG (fun x=>wBP x p1):=⟨102,[],[.pointer (some ⟨b2,0,none⟩)],rfl,Try.call102,fun U1 w1 x y vs le hs ha hm=>by obtain rfl:=ha;exact wFC x p1 b2 ai w1 U1 hs (ab.le le) (aX.le le) hm⟩
 refine bnK hm fun x13 aY bi=>zP 0 Z Z Z Z (zN Z Z Try.call98 (zC Z (zC Z zU)) Z) bg (fun hs=>wCt p0 ak am (fun x=>wBP x p1) (.func (.func 102) #[] #[.pointer (some ⟨b2,0,none⟩)]) W1 U5 hs aW aZ aY) (.inr Z) ?_
 rintro ap bk bm aV bl ba ⟨rfl,rfl⟩
 have bb:sW w U ap [] aV:=ba
 refine oR Z (ZC Z Z) (oA Z Z (eN (zR ?_)))
 cases bi
 exact ⟨Z,_,(zz Z),ap,_,bb,Z,Z⟩
theorem wFe (p0:Int) (w:World) (U:PHeap) (hS:St0 w U [])  {r:Bool} (hm:wBS p0=some r):Gv Try.prog 109 [jV p0] w (wCg w [] U (fun U_ L_ v=>v=.bool r/\L_=[])):=by
 unfold wBS at hm
 refine Gv.of Try.func109 Z Try.ntmps109 Try.results109 Z (sR fL1 Z (oA Z Z (eN (sR gAm Z (oM Z Z (bnK hm fun x1 h2 ak=>zP 0 Z Z Z Z (zN Z Z Zp (zC Z (zC Z (zC Z zU))) Z) hS (fun hs=>wBI p0 0 8 w U hs h2) (.inr Z) ?_))))))
 rintro U4 L5 v6 W7 ap aj ⟨rfl,rfl⟩
 have ai:sW w U U4 [] W7:=aj
 refine oA Z Z (eN (zR ?_))
 have hE:=nD ak;first | subst r | cases hE
 exact ⟨Z,_,(zz Z),U4,_,ai,Z,Z⟩
theorem wFf (p0:Int) (w:World) (U:PHeap) (hS:St0 w U [])  {r:Bool} (hm:wBT p0=some r):Gv Try.prog 110 [jV p0] w (wCg w [] U (fun U_ L_ v=>v=.bool r/\L_=[])):=by
 unfold wBT at hm
 refine Gv.of Try.func110 Z Try.ntmps110 Try.results110 Z (sR fL1 Z (oA Z Z (eN (sR gAm Z (oM Z Z (bnK hm fun x1 h2 ak=>zP 0 Z Z Z Z (zN Z Z Zp (zC Z (zC Z (zC Z zU))) Z) hS (fun hs=>wBI p0 0 5 w U hs h2) (.inr Z) ?_))))))
 rintro U4 L5 v6 W7 ap aj ⟨rfl,rfl⟩
 have ai:sW w U U4 [] W7:=aj
 refine oA Z Z (eN (zR ?_))
 have hE:=nD ak;first | subst r | cases hE
 exact ⟨Z,_,(zz Z),U4,_,ai,Z,Z⟩
theorem wFg (p0:wAA) (p1:Int) (aW:Nat) (w:World) (U:PHeap) (hS:St0 w U []) (aU:Cl U aW 0 [jV p1]) {r:Bool} (hm:wBU p0 p1=some r):Gv Try.prog 112 [.agg #[jV p0.Skier,jV p0.Lane],.pointer (some ⟨aW,0,none⟩)] w (wCg w [] U (fun U_ L_ v=>v=.bool r/\L_=[])):=by
 unfold wBU at hm
 refine Gv.of Try.func112 Z Try.ntmps112 Try.results112 Z (sR gAh Z ?_)
 let B0:List Value:=[jV p0.Skier,jV p0.Lane]
 refine ZT (cs:=B0) rfl rfl rfl rfl rfl rfl (by rfl) hS ?_
 intro W1 b2 aq
 refine oA Z Z (eN (sR (wJK (.fx 4 (fC5_9 (.fx 10 (wPb (.nil)) .stop)) .stop)) Z (oR Z (zK Z Z zr Z zB) (oL Z (aq.ldB (j:=0) Z Z Z zH (v:=jV p0.Skier) Z) (oL Z (aq.ldC (f:=0) aU (v:=jV p1) Z Z zH Z) (oR Z (ZV Z Z Z) (bnK hm fun x5 h6 bk=>zP 0 Z Z Z Z (zN Z Z Zp (zC Z (zC Z (zC Z zU))) Z) aq (fun hs=>wBI p0.Skier 0 (w64 (p1 - 1)) W1 U hs h6) (.inr Z) ?_)))))))
 rintro U8 L9 bp au bl be ⟨rfl,rfl⟩
 have ai:sW w U U8 [.blk b2 35 B0] au:=be
 refine oM Z Z (ifc bk ?_ ?_)
 intro aa bg
 refine zO Z Z Z (zI Z Z (congrArg nA aa.out)) (fun _=>zK Z Z zr Z zB) (zm Z Z Z (zI Z Z (congrArg nA aa.out)) (ai.ldB (j:=0) Z Z Z zH (v:=jV p0.Lane) Z) Z ?_)
 have aZ:=aU.le bl
 refine zm Z Z Z (zI Z Z (congrArg nA aa.out)) (ai.ldC (f:=0) aZ (v:=jV p1) Z Z zH Z) Z (zO Z Z Z (zI Z Z (congrArg nA aa.out)) (fun _=>ZV Z Z Z) (bnK bg fun br ba bh=>zP 0 Z Z Z (zI Z Z (congrArg nA aa.out)) (zN Z Z Zp (zC Z (zC Z (zC Z zU))) Z) ai (fun hs=>wBI p0.Lane 0 (w64 (p1 - 1)) au U8 hs ba) (.inr Z) ?_))
 rintro am bm bq aY bo bf ⟨rfl,rfl⟩
 have aj:sW w U am [.blk b2 35 B0] aY:=bf
 refine oR Z (zS Z (congrArg nA aa.out) Z) (oM Z Z (ifc bh ?_ ?_))
 intro ab aV
 refine zO Z Z Z (zI Z Z (congrArg nA ab.out)) (fun _=>zK Z Z zr Z zB) (zm Z Z Z (zI Z Z (congrArg nA ab.out)) (aj.ldB (j:=0) Z Z Z zH (v:=jV p0.Skier) Z) Z (zO Z Z Z (zI Z Z (congrArg nA ab.out)) (fun _=>zK Z Z zr Z zB) (zm Z Z Z (zI Z Z (congrArg nA ab.out)) (aj.ldB (j:=0) Z Z Z zH (v:=jV p0.Lane) Z) Z (zO Z Z Z (zI Z Z (congrArg nA ab.out)) (fun _=>ZF Z Z Z) (oR Z (zS Z (congrArg nA ab.out) Z) (oA Z Z (eN (zR ?_))))))))
 first | (obtain rfl:=nD aV) | cases aV
 exact ⟨rfl,_,(zz rfl),am,_,(aj.pick [] _ (by decide) rfl),rfl,rfl⟩
 intro ab bi
 refine zE Z Z Z (zQ Z Z (congrArg nA (nB.2 ab.out)) Z) (zE Z Z Z (zQ Z Z (congrArg nA (nB.2 ab.out)) Z) (zE Z Z Z (zQ Z Z (congrArg nA (nB.2 ab.out)) Z) (zE Z Z Z (zQ Z Z (congrArg nA (nB.2 ab.out)) Z) (zE Z Z Z (zQ Z Z (congrArg nA (nB.2 ab.out)) Z) (oR Z (zY Z (congrArg nA (nB.2 ab.out)) Z) (oA Z Z (eN (zR ?_))))))))
 have hE:=nD bi;first | subst r | cases hE
 exact ⟨rfl,_,(zz rfl),am,_,(aj.pick [] _ (by decide) rfl),rfl,rfl⟩
 intro aa bj
 refine zE Z Z Z (zQ Z Z (congrArg nA (nB.2 aa.out)) Z) (zE Z Z Z (zQ Z Z (congrArg nA (nB.2 aa.out)) Z) (zE Z Z Z (zQ Z Z (congrArg nA (nB.2 aa.out)) Z) (zE Z Z Z (zQ Z Z (congrArg nA (nB.2 aa.out)) Z) (ZS Z Z Z (zQ Z Z (congrArg nA (nB.2 aa.out)) Z) (oR Z (zY Z (congrArg nA (nB.2 aa.out)) Z) (oM Z Z (oN Z (oN Z (oN Z (oN Z (oN Z (oR Z (zY Z Z Z) (oA Z Z (eN (zR ?_)))))))))))))))
 have hE:=nD bj;first | subst r | cases hE
 exact ⟨rfl,_,(zz rfl),U8,_,(ai.pick [] _ (by decide) rfl),rfl,rfl⟩
theorem wDH (p0:wAA) (p1:(wAA->Option Bool)) (ak:Nat) (ah:Value) (w:World) (U:PHeap) (hS:St0 w U []) (aU:Cl U ak 0 [ah]) (aV:FnOK Try.prog U ah wPK wPL p1) {r:Bool} (hm:wAh p0 p1=some r):Gv Try.prog 119 [.agg #[jV p0.Skier,jV p0.Lane],.pointer (some ⟨ak,0,none⟩)] w (wCg w [] U (fun U_ L_ v=>v=.bool r/\L_=[])):=by
 unfold wAh at hm
 refine Gv.of Try.func119 Z Try.ntmps119 Try.results119 Z (sR gAh Z ?_)
 let B0:List Value:=[jV p0.Skier,jV p0.Lane]
 refine ZT (cs:=B0) rfl rfl rfl rfl rfl rfl (by rfl) hS ?_
 intro W1 b2 ae
 refine oA Z Z (eN (sR gAt Z (oL Z (ae.ldC (f:=0) aU (v:=ah) Z Z Try.isAgg81 Z) (oL Z (ae.ldBA (j:=0) Z Z Z Zc zy (vs:=B0) Z Z) (bnK hm fun x5 h6 aW=>OKS.callV (a:=p0) Z Z Z Z Z Z (zC Z zU) ae aV Z h6 ?_)))))
 rintro U8 L9 ba am aZ au ⟨rfl,rfl⟩
 have az:sW w U U8 [.blk b2 35 B0] am:=au
 refine oR Z (ZC Z Z) (oA Z Z (eN (zR ?_)))
 cases aW
 exact ⟨rfl,_,(zz rfl),U8,_,(az.pick [] _ (by decide) rfl),rfl,rfl⟩
theorem wBu (p0:List wAA) (aq:Option Addr) (au:Nat) (p1:(wAA->Option Bool)) (az:Value) (w:World) (U:PHeap) (hS:St0 w U []) (bu:Sl U 2 aq au p0.length (hH wAB p0)) (bv:FnOK Try.prog U az wPK wPL p1) {r:Int} (hm:wAN p0 p1=some r):Gv Try.prog 82 [.slice aq p0.length au,az] w (wCg w [] U (fun U_ L_ v=>v=jV r/\L_=[])):=by
 unfold wAN at hm
 refine Gv.of Try.func82 Z Try.ntmps82 Try.results82 Z (sR fL1 Z (oA Z Z (eN (zG (sR fL3 Z (oM Z Z (oR Z (zt Z Z zw) (oM Z Z (eN (zd ?_))))))))))
 have q:=wCT hm
 obtain ⟨r3,aj⟩:=q
 have q:=wCS aj
 obtain ⟨am,bA⟩:=q
 replace am:=zL am
 refine Zm (fun k2 _ σ_ w_=>∃ (U_:PHeap),σ_ 8=jV (↑k2:Int)/\σ_ 0=.slice aq p0.length au/\σ_ 1=az/\σ_ 7=jV (↑p0.length:Int)/\PHeap.Le U U_/\sW w U U_ [] w_) bA ?_ ?_ ?_
 exact ⟨U,Z,Z,Z,Z,(zo _),hS⟩
 rintro k2 ⟨⟩ bV bX W8 ak ⟨bK,ai,aW,aX,aY,ap,ba⟩ bf bw
 try dsimp only at bf
 have aV:Hid ((↑k2:Int) < (↑p0.length:Int)):=zL (wBm ak)
 replace ak:=zL ak
 have bB:Hid (w64 ((↑k2:Int) + 1)=(↑(k2 + 1):Int)):=zL (by have h1:=am.out;have h2:=aV.out;rw [wAY] <;> omega)
 refine sR fL1 Z (oR Z (zg Z ai aY) (eN (zG (cT Z aV (kN (zG (zd (sR fL2 Z (oM Z ai (oA Z Z (eN (sR (wFT (.fx 5 .nil .stop)) Z (oM Z aX (oM Z aW (oM Z Z (bnK bf fun aU aZ bC=>?_))))))))))))))))
 have bn:=bu.le ap
 have q:=bn.el (fun _=>rfl) (wAx aZ)
 obtain ⟨bN,bR,bq,br⟩:=q
 refine oR Z (zu Z Z bq Z zw zy (wCA aZ)) (oL Z (ba.ldCA (f:=0) br Z Z Zc zy (us:=[jV aU.Skier,jV aU.Lane]) Z Z) (bnK bC fun bU bo bD=>?_))
 have bp:=bv.le ap
 refine OKS.callV (a:=aU) Z Z Z Z Z Z (zC Z zU) ba bp Z bo ?_
 rintro ae bJ bT bi bH bs ⟨rfl,rfl⟩
 have bb:sW w U ae [] bi:=bs
 refine eN (ifc bD ?_ ?_)
 intro ah bE
 refine zp (congrArg nA ah.out) (sR fL2 Z (oM Z Z (oA Z Z (eN (zR (zX (zJ ?_)))))))
 have q:=wAc bE
 obtain ⟨bI,bF,bk⟩:=q
 have q:=wBi hm aj (bw bI bk)
 obtain rfl:=q
 refine zJ (zX (zJ ?_))
 cases bF
 exact ⟨Z,_,(zz Z),ae,_,bb,Z,Z⟩
 intro ah bG
 refine zi (congrArg nA (nB.2 ah.out)) (ZN (zk (zM (rR fL2 Z (oR Z (ZB (zh Z ai Z) (congrArg (jV) bB.out)) (oM Z Z (ZA ?_)))))))
 have q:=nD bG
 obtain rfl:=q
 exact zM ⟨Z,_,Z,⟨ae,Z,aW,aX,aY,(ap.trans bH),bb⟩⟩
 rintro ⟨⟩ bW bL ⟨bh,bm,bO,bP,bl,bQ,bt⟩ bz
 have be:=wCw hm aj bz
 try dsimp only at be
 have bj:Hid (¬ ((↑(((↑p0.length:Int):Int) - 0).toNat:Int) < (↑p0.length:Int))):=zL (wBK)
 refine sR fL1 Z (oR Z (zg Z bm bl) (eN (zG (cF Z bj (ZM (zn (zn (ZE (zM (sR fL1 Z (oA Z Z (eN (zR ?_)))))))))))))
 cases be
 exact ⟨Z,_,(zz Z),bh,_,bt,Z,Z⟩
theorem wBA (p0:List wAA) (ae:Option Addr) (ah:Nat) (p1:(wAA->Option Bool)) (ai:Value) (w:World) (U:PHeap) (hS:St0 w U []) (az:Sl U 2 ae ah p0.length (hH wAB p0)) (aU:FnOK Try.prog U ai wPK wPL p1) {r:Bool} (hm:wAK p0 p1=some r):Gv Try.prog 37 [.slice ae p0.length ah,ai] w (wCg w [] U (fun U_ L_ v=>v=.bool r/\L_=[])):=by
 unfold wAK at hm
 refine Gv.of Try.func37 Z Try.ntmps37 Try.results37 Z (sR fL1 Z (oA Z Z (eN (sR gAt Z (oM Z Z (oM Z Z (bnK hm fun x1 h2 ak=>zP 0 Z Z Z Z (zN Z Z Try.call82 (zC Z (zC Z zU)) Z) hS (fun hs=>wBu p0 ae ah p1 ai w U hs az aU h2) (.inr Z) ?_)))))))
 rintro U4 L5 v6 W7 aW au ⟨rfl,rfl⟩
 have aq:sW w U U4 [] W7:=au
 refine oR Z (Runs.geq Z Z Z) (oA Z Z (eN (zR ?_)))
 first | (obtain rfl:=nD ak) | cases ak
 exact ⟨Z,_,(zz Z),U4,_,aq,Z,Z⟩
theorem wDX (p0:List wAA) (ak:Option Addr) (am:Nat) (p1:(wAA->Option Bool)) (ai:Value) (w:World) (U:PHeap) (hS:St0 w U []) (bh:Sl U 2 ak am p0.length (hH wAB p0)) (au:FnOK Try.prog U ai wPK wPL p1) {r:Bool} (hm:wAy p0 p1=some r):Gv Try.prog 111 [.slice ak p0.length am,ai] w (wCg w [] U (fun U_ L_ v=>v=.bool r/\L_=[])):=by
 unfold wAy at hm
 refine Gv.of Try.func111 Z Try.ntmps111 Try.results111 Z (sR gAh Z (ZT (cs:=[ai]) Z Z Z Z Z Z (FnOK.cells au) hS ?_))
 intro W1 b2 be
 have q:=be.freeze (k:=0) rfl
 obtain ⟨U5,az,ab,bf⟩:=q
 replace ab:=Cl.of ab
 have bg:sW w U U5 [] W1:=bf
 replace ab:Cl U5 b2 0 [ai]:=ab
 refine oA Z Z (eN (sR gAt Z (oM Z Z (oR Z (Runs.mkf Z zU (zC Z zU)) ?_))))
 have aW:=bh.le az
 have aX:=au.le az
 have aZ:FnOK Try.prog U5 (.func (.func 119) #[] #[.pointer (some ⟨b2,0,none⟩)]) wPK wPL (fun x=>wAh x p1):=⟨119,[],[.pointer (some ⟨b2,0,none⟩)],rfl,Try.call119,fun U1 w1 x y vs le hs ha hm=>by obtain rfl:=ha;exact wDH x p1 b2 ai w1 U1 hs (ab.le le) (aX.le le) hm⟩
 refine bnK hm fun x13 aY bi=>zP 0 Z Z Z Z (zN Z Z Try.call37 (zC Z (zC Z zU)) Z) bg (fun hs=>wBA p0 ak am (fun x=>wAh x p1) (.func (.func 119) #[] #[.pointer (some ⟨b2,0,none⟩)]) W1 U5 hs aW aZ aY) (.inr Z) ?_
 rintro ap bk bm aV bl ba ⟨rfl,rfl⟩
 have bb:sW w U ap [] aV:=ba
 refine oR Z (ZC Z Z) (oA Z Z (eN (zR ?_)))
 cases bi
 exact ⟨Z,_,(zz Z),ap,_,bb,Z,Z⟩
theorem wHk (p0:wAA) (p1:wAA) (w:World) (U:PHeap) (hS:St0 w U [])  {r:Bool} (hm:wCd p0 p1=some r):Gv Try.prog 113 [.agg #[jV p0.Skier,jV p0.Lane],.agg #[jV p1.Skier,jV p1.Lane]] w (wCg w [] U (fun U_ L_ v=>v=.bool r/\L_=[])):=by
 unfold wCd at hm
 refine Gv.of Try.func113 rfl Try.ntmps113 Try.results113 rfl (sR gAo rfl (ZT (cs:=[jV p0.Skier,jV p0.Lane]) rfl rfl rfl rfl rfl rfl (by rfl) hS ?_))
 intro W1 b2 ap
 refine ZT (cs:=[jV p1.Skier,jV p1.Lane]) rfl rfl rfl rfl rfl rfl (by rfl) ap ?_
 intro W5 b6 ae
 refine oA Z Z (eN (sR fL20 Z (oR Z (zK Z Z zr Z zB) (oL Z (ae.ldB (j:=1) Z Z Z zH (v:=jV p0.Skier) Z) (oR Z (zK Z Z zr Z zB) (oL Z (ae.ldB (j:=0) Z Z Z zH (v:=jV p1.Skier) Z) (oR Z (zg Z Z Z) (oM Z Z ?_))))))))
 by_cases c9:p0.Skier < p1.Skier
 have aj:=hm;rw [if_pos c9] at aj;replace c9:=zL c9
 refine oT Z c9 (oT Z c9 (oT Z c9 (oT Z c9 (oT Z c9 (oT Z c9 (zE Z Z Z (wAD Z Z Z) (zE Z Z Z (wAD Z Z Z) (zE Z Z Z (wAD Z Z Z) (zE Z Z Z (wAD Z Z Z) (zE Z Z Z (wAD Z Z Z) (oT Z c9 (oR Z (zS Z (ZO c9.out) Z) (oA Z Z (eN (zR ?_)))))))))))))))
 have hE:=nD aj;first | subst r | cases hE
 exact ⟨rfl,_,(zz rfl),U,_,(ae.pick [] _ (by decide) rfl),rfl,rfl⟩
 have ak:=hm;rw [if_neg c9] at ak;replace c9:=zL c9
 refine rU Z (wF Z c9) (zK Z Z zr Z zB) (zm Z Z Z (wF Z c9) (ae.ldB (j:=1) Z Z Z zH (v:=jV p0.Skier) Z) Z (rU Z (wF Z c9) (zK Z Z zr Z zB) (zm Z Z Z (wF Z c9) (ae.ldB (j:=0) Z Z Z zH (v:=jV p1.Skier) Z) Z (rU Z (wF Z c9) (Zn Z Z Z) (zZ Z Z Z (wF Z c9) Z Z (ifc ak ?_ ?_))))))
 intro ab am
 refine rU Z (wT Z ab) (zK Z Z zr Z zB) (zm Z Z Z (wT Z ab) (ae.ldB (j:=1) Z Z Z zH (v:=jV p0.Lane) Z) Z (rU Z (wT Z ab) (zK Z Z zr Z zB) (zm Z Z Z (wT Z ab) (ae.ldB (j:=0) Z Z Z zH (v:=jV p1.Lane) Z) Z (rU Z (wT Z ab) (zg Z Z Z) (rU Z (wF Z c9) (zS Z (ZO ab.out) Z) (oR Z (zY Z (zf c9.out) Z) (oA Z Z (eN (zR ?_)))))))))
 first | (obtain rfl:=nD am) | cases am
 exact ⟨rfl,_,(zz rfl),U,_,(ae.pick [] _ (by decide) rfl),rfl,rfl⟩
 intro ab aq
 refine oF Z ab (oF Z ab (oF Z ab (oF Z ab (oF Z ab (rU Z (wF Z c9) (zY Z (zf ab.out) Z) (oR Z (zY Z (zf c9.out) Z) (oA Z Z (eN (zR ?_)))))))))
 have hE:=nD aq;first | subst r | cases hE
 exact ⟨rfl,_,(zz rfl),U,_,(ae.pick [] _ (by decide) rfl),rfl,rfl⟩
theorem wGr (p0:wAC) (aU:Option Addr) (aW:Nat) (aV:Option Addr) (aX:Nat) (am:Option Addr) (ap:Nat) (w:World) (U:PHeap) (hS:St0 w U []) (cH:Sl U 1 aU aW p0.Shots.length (hH KL.encI p0.Shots)) (cI:Sl U 1 aV aX p0.Down.length (hH KL.encI p0.Down)) (cJ:Sl U 2 am ap p0.Across.length (hH wAB p0.Across)) {r:Int} (hm:wCJ p0=some r):Gv Try.prog 95 [.agg #[.slice aU p0.Shots.length aW,.slice aV p0.Down.length aX,.slice am p0.Across.length ap]] w (wCg w [] U (fun U_ L_ v=>v=jV r/\L_=[])):=by
 unfold wCJ at hm
 refine Gv.of Try.func95 Z Try.ntmps95 Try.results95 Z (sR gAh Z ?_)
 let B0:List Value:=[.slice aU p0.Shots.length aW,.slice aV p0.Down.length aX,.slice am p0.Across.length ap]
 refine ZT (cs:=B0) rfl rfl rfl rfl rfl rfl (by rfl) hS ?_
 intro W1 b2 bI
 refine oA Z Z (eN (sR (wDt gAk) Z (oR Z (zK Z Z zF Z zW) (oL Z (bI.ldB (j:=0) Z Z Z ze (v:=.slice aU p0.Shots.length aW) Z) (oR Z (zt Z Z zA) (ZR (cs:=[jV 0]) Z Z Z Z Z Ze Z bI ?_))))))
 intro W5 b6 cE
 let B1:List Value:=[jV (↑p0.Shots.length:Int)]
 refine ZG (j:=0) (vs:=B1) Z Z Z Z cE Z Z Z Z zB (zD Z) Z Z Z ?_
 intro W9 cx
 have bG:sW w U U [.blk b6 3 B1,.blk b2 26 B0] W9:=cx
 refine eN (zG (zd (sR (.fl 0 (.fx 1 (wQn (.nil)) .stop)) Z (oL Z (bG.ldB (j:=0) Z Z Z zH (v:=jV (↑p0.Shots.length:Int)) Z) (bnK hm fun dK bX cW=>zP 0 Z Z Z Z (zN Z Z Zp (zC Z (zC Z (zC Z zU))) Z) bG (fun hs=>wBI (↑p0.Shots.length:Int) 1 8 W9 U hs bX) (.inr Z) ?_)))))
 rintro aZ dv dG bA bu cz ⟨rfl,rfl⟩
 have au:sW w U aZ [.blk b6 3 B1,.blk b2 26 B0] bA:=cz
 refine oR Z (ZC Z Z) (oM Z Z (ifc cW ?_ ?_))
 intro ab cX
 refine zO Z Z Z (zI Z Z (nC ab.out)) (fun _=>zK Z Z zF Z zW) (zm Z Z Z (zI Z Z (nC ab.out)) (au.ldB (j:=1) Z Z Z ze (v:=.slice aV p0.Down.length aX) Z) Z (zO Z Z Z (zI Z Z (nC ab.out)) (fun _=>zt Z Z zA) (zm Z Z Z (zI Z Z (nC ab.out)) (au.ldB (j:=0) Z Z Z zH (v:=jV (↑p0.Shots.length:Int)) Z) Z (zO Z Z Z (zI Z Z (nC ab.out)) (fun _=>ZF Z Z Z) (oR Z (zY Z (nC ab.out) Z) (oA Z Z (eN (ifc cX ?_ ?_))))))))
 intro bm cY
 refine zi (zf (fun h=>h bm.out)) (sR (.fl 0 (.fl 1 (.fx 2 (fC3_6 (.fx 7 (wMi (.nil)) .stop)) .stop))) Z (oR Z (zK Z Z zF Z zW) (oL Z (au.ldB (j:=1) Z Z Z ze (v:=.slice aU p0.Shots.length aW) Z) ?_)))
 have bY:=cH.le bu
 have ct:FnOK Try.prog aZ (.func (.func 109) #[] #[]) wJk wMG wBS:=⟨109,[],[],rfl,Try.call109,fun U1 w1 x y vs le hs ha hm=>by obtain rfl:=ha;exact wFe x w1 U1 hs  hm⟩
 refine bnK cY fun x28 bZ cZ=>zP 0 Z Z Z Z (zN Z Z Try.call79 (zC Z (zC Z zU)) Z) au (fun hs=>wBh p0.Shots aU aW wBS (.func (.func 109) #[] #[]) bA aZ hs bY ct bZ) (.inr Z) ?_
 rintro be dw dH bB bO cA ⟨rfl,rfl⟩
 have br:sW w U be [.blk b6 3 B1,.blk b2 26 B0] bB:=cA
 refine oR Z (ZC Z Z) (oM Z Z (ifc cZ ?_ ?_))
 intro ae da
 refine zO Z Z Z (zI Z Z (nC ae.out)) (fun _=>zK Z Z zF Z zW) (zm Z Z Z (zI Z Z (nC ae.out)) (br.ldB (j:=1) Z Z Z ze (v:=.slice aV p0.Down.length aX) Z) Z ?_)
 have b5:=cI.le bu
 have b9:=b5.le bO
 have cu:FnOK Try.prog be (.func (.func 110) #[] #[]) wJk wMG wBT:=⟨110,[],[],rfl,Try.call110,fun U1 w1 x y vs le hs ha hm=>by obtain rfl:=ha;exact wFf x w1 U1 hs  hm⟩
 refine bnK da fun x43 cd db=>zP 0 Z Z Z (zI Z Z (nC ae.out)) (zN Z Z Try.call79 (zC Z (zC Z zU)) Z) br (fun hs=>wBh p0.Down aV aX wBT (.func (.func 110) #[] #[]) bB be hs b9 cu cd) (.inr Z) ?_
 rintro bw dx dI bk dm cB ⟨rfl,rfl⟩
 have bs:sW w U bw [.blk b6 3 B1,.blk b2 26 B0] bk:=cB
 refine zO Z Z Z (zI Z Z (nC ae.out)) (fun _=>ZC Z Z) (oR Z (zY Z (nC ae.out) Z) (oA Z Z (eN (ifc db ?_ ?_))))
 intro bn de
 refine zi (nC bn.out) (sR (wDt (.fx 3 gAd .stop)) Z (oR Z (zK Z Z zF Z ZW) (oL Z (bs.ldB (j:=1) Z Z Z Zd (v:=.slice am p0.Across.length ap) Z) ?_)))
 have q:=bs.freeze (k:=0) rfl
 obtain ⟨bf,dp,ba,cC⟩:=q
 replace ba:=Cl.of ba
 have cD:sW w U bf [.blk b2 26 B0] bk:=cC
 replace ba:Cl bf b6 0 B1:=ba
 refine oR Z (Runs.mkf Z zU (zC Z zU)) ?_
 have cf:=cJ.le bu
 have cg:=cf.le bO
 have ci:=cg.le dm
 have bF:=ci.le dp
 have cw:FnOK Try.prog bf (.func (.func 112) #[] #[.pointer (some ⟨b6,0,none⟩)]) wPK wPL (fun x=>wBU x (↑p0.Shots.length:Int)):=⟨112,[],[.pointer (some ⟨b6,0,none⟩)],rfl,Try.call112,fun U1 w1 x y vs le hs ha hm=>by obtain rfl:=ha;exact wFg x (↑p0.Shots.length:Int) b6 w1 U1 hs (ba.le le) hm⟩
 refine bnK de fun x65 cj df=>zP 0 Z Z Z Z (zN Z Z Try.call111 (zC Z (zC Z zU)) Z) cD (fun hs=>wDX p0.Across am ap (fun x=>wBU x (↑p0.Shots.length:Int)) (.func (.func 112) #[] #[.pointer (some ⟨b6,0,none⟩)]) bk bf hs bF cw cj) (.inr Z) ?_
 rintro bg dy dJ bR dq cG ⟨rfl,rfl⟩
 have bJ:sW w U bg [.blk b2 26 B0] bR:=cG
 refine oR Z (ZC Z Z) (oA Z Z (eN (ifc df ?_ ?_)))
 intro bo dg
 refine zi (nC bo.out) (ZN (zk (zM (zG (sR fL1 Z (oA Z Z (eN (zd (CK.iter (fun bv σ_ w_=>∃ (U_:PHeap),σ_ 1=.pointer (some ⟨b2,0,none⟩)/\σ_ 4=jV bv/\PHeap.Le bg U_/\sW w U U_ [.blk b2 26 B0] w_) dg ?_ ?_)))))))))
 exact ⟨bg,Z,Z,(zo _),bJ⟩
 rintro bv dL dM bC ⟨bz,bh,bi,bP,bt⟩ bN bK
 refine zG (sR fL5 Z (oM Z bi (oR Z (zK Z bh zF Z ZW) (oL Z (bt.ldB (j:=0) Z Z Z Zd (v:=.slice am p0.Across.length ap) Z) (oR Z (zt Z Z zw) (oR Z (zg Z Z Z) (eN ?_)))))))
 by_cases ak:bv < (↑p0.Across.length:Int)
 have bM:=bN;rw [if_pos ak] at bM;replace ak:=zL ak
 refine cT Z ak (kN (zG (zd (zG (ZI ZJ [3,1,3,3,3,1,3,1,3,3,1,2,3] (wOE (.fx 11 (.fl 12 .nil) .stop)) (by kernel_rfl) ?_)))))
 have az:=bt.drew
 generalize hw_W96:({ bC with drawn:=bC.drawn + 1 }:World)=bS at az ⊢
 refine oR Z (zK Z bh zF Z ZW) (oL Z (az.ldB (j:=0) Z Z Z Zd (v:=.slice am p0.Across.length ap) Z) (oM Z bi (oR Z (ZV Z Z Z) (bnK bM fun x97 bq dh=>?_))))
 have bV:=bF.le dq
 have bE:=bV.le bP
 have q:=bE.el (fun _=>rfl) (wAx bq)
 obtain ⟨dB,dD,cn,cq⟩:=q
 refine oR Z (ZU Z Z cn Z zw zy (wEr bq) (wFV bq)) (oL Z (az.ldCA (f:=0) cq Z Z Zc zy (us:=[jV x97.Skier,jV x97.Lane]) Z Z) (oR Z (zK Z bh zF Z ZW) (oL Z (az.ldB (j:=0) Z Z Z Zd (v:=.slice am p0.Across.length ap) Z) (oM Z bi (bnK dh fun x106 bp cK=>?_)))))
 have q:=bE.el (fun _=>rfl) (wAx bp)
 obtain ⟨dC,dE,cp,cr⟩:=q
 refine oR Z (ZU Z Z cp Z zw zy (wEr bp) (wFV bp)) (oL Z (az.ldCA (f:=0) cr Z Z Zc zy (us:=[jV x106.Skier,jV x106.Lane]) Z Z) (bnK cK fun x113 bW cL=>zP 0 Z Z Z Z (zN Z Z Try.call113 (zC Z (zC Z zU)) Z) az (fun hs=>wHk x97 x106 bS bz hs bW) (.inr Z) ?_))
 rintro bj du dF bQ dk cy ⟨rfl,rfl⟩
 have bH:sW w U bj [.blk b2 26 B0] bQ:=cy
 refine oR Z (ZC Z Z) (eN (ifc cL ?_ ?_))
 intro bl cM
 refine zi (nC bl.out) (ZN (zk (zM (rR fL3 Z (oM Z bi (oR Z (zh Z Z Z) (oA Z Z (ZA ?_))))))))
 have q:=nD cM
 obtain rfl:=q
 exact zM ⟨Z,_,Z,⟨bj,bh,Z,(bP.trans dk),bH⟩⟩
 intro bl cN
 refine zp (nF (bl.out)) (sR fL1 Z (oA Z Z (eN (zR (zX (zJ ?_))))))
 have q:=wAc cN
 obtain ⟨dr,cO,bT⟩:=q
 have q:=bK dr bT
 obtain rfl:=q
 refine zJ (zX (zJ ?_))
 cases cO
 exact ⟨rfl,_,(zz rfl),bj,_,(bH.pick [] _ (by decide) rfl),rfl,rfl⟩
 have bL:=bN;rw [if_neg ak] at bL;replace ak:=zL ak
 refine cF Z ak (ZM (zn ?_))
 have q:=wAc bL
 obtain ⟨dt,cP,bU⟩:=q
 have q:=bK dt bU
 obtain rfl:=q
 refine zn (ZE (zM (sR fL1 Z (oA Z Z (eN (zR ?_))))))
 cases cP
 exact ⟨rfl,_,(zz rfl),bz,_,(bt.pick [] _ (by decide) rfl),rfl,rfl⟩
 intro bo cQ
 refine zp (nF (bo.out)) (sR fL1 Z (oA Z Z (eN (zR (zX (zJ ?_))))))
 cases cQ
 exact ⟨rfl,_,(zz rfl),bg,_,(bJ.pick [] _ (by decide) rfl),rfl,rfl⟩
 intro bn cR
 refine zp (nF (bn.out)) (sR fL1 Z (oA Z Z (eN (zR (zX (zJ ?_))))))
 cases cR
 exact ⟨rfl,_,(zz rfl),bw,_,(bs.pick [] _ (by decide) rfl),rfl,rfl⟩
 intro ae cS
 refine zE Z Z Z (zQ Z Z (nF (ae.out)) Z) (zE Z Z Z (zQ Z Z (nF (ae.out)) Z) (ZS Z Z Z (zQ Z Z (nF (ae.out)) Z) (zE Z Z Z (zQ Z Z (nF (ae.out)) Z) (oR Z (zS Z (nF (ae.out)) Z) (oA Z Z (eN (zp Z (sR fL1 Z (oA Z Z (eN (zR (zX (zJ ?_)))))))))))))
 cases cS
 exact ⟨rfl,_,(zz rfl),be,_,(br.pick [] _ (by decide) rfl),rfl,rfl⟩
 intro bm cU
 refine cT Z bm (sR fL1 Z (oA Z Z (eN (zR (zX (zJ ?_))))))
 cases cU
 exact ⟨rfl,_,(zz rfl),aZ,_,(au.pick [] _ (by decide) rfl),rfl,rfl⟩
 intro ab cV
 refine zE Z Z Z (zQ Z Z (nF (ab.out)) Z) (zE Z Z Z (zQ Z Z (nF (ab.out)) Z) (zE Z Z Z (zQ Z Z (nF (ab.out)) Z) (zE Z Z Z (zQ Z Z (nF (ab.out)) Z) (zE Z Z Z (zQ Z Z (nF (ab.out)) Z) (oR Z (zS Z (nF (ab.out)) Z) (oA Z Z (eN (zp Z (sR fL1 Z (oA Z Z (eN (zR (zX (zJ ?_))))))))))))))
 cases cV
 exact ⟨rfl,_,(zz rfl),aZ,_,(au.pick [] _ (by decide) rfl),rfl,rfl⟩
theorem wDA (p0:wAC) (aq:Option Addr) (au:Nat) (aU:Option Addr) (aV:Nat) (ak:Option Addr) (am:Nat) (w:World) (U:PHeap) (hS:St0 w U []) (cN:Sl U 1 aq au p0.Shots.length (hH KL.encI p0.Shots)) (cO:Sl U 1 aU aV p0.Down.length (hH KL.encI p0.Down)) (bL:Sl U 2 ak am p0.Across.length (hH wAB p0.Across)) {r:wAE} (hm:wAv p0=some r):Gv Try.prog 45 [.agg #[.slice aq p0.Shots.length au,.slice aU p0.Down.length aV,.slice ak p0.Across.length am]] w (wCg w [] U (fun U_ L_ v=>∃ (b0:Nat) (A0p00:Option Addr) (c0p00:Nat) (A0p01:Option Addr) (c0p01:Nat) (A0p02:Option Addr) (c0p02:Nat) (m0p1:Nat) (es0p1:Array MapEntry) (ck0p1:Nat),v=.pointer (some ⟨b0,0,none⟩)/\L_=[.blk b0 99 ([.slice A0p00 r.Bout.Shots.length c0p00,.slice A0p01 r.Bout.Down.length c0p01,.slice A0p02 r.Bout.Across.length c0p02,.map (some m0p1)] ++ ((hH KL.encI r.hits.l) ++ ((hH KL.encI r.used.l) ++ (hH KL.encT r.met.l)))),.obj m0p1 (.map es0p1 ck0p1)]/\Sl U_ 1 A0p00 c0p00 r.Bout.Shots.length (hH KL.encI r.Bout.Shots)/\Sl U_ 1 A0p01 c0p01 r.Bout.Down.length (hH KL.encI r.Bout.Down)/\Sl U_ 2 A0p02 c0p02 r.Bout.Across.length (hH wAB r.Bout.Across)/\MpR es0p1 wGl wHL r.may)):=by
 unfold wAv at hm
 refine Gv.of Try.func45 Z Try.ntmps45 Try.results45 Z (sR gAh Z ?_)
 let B0:List Value:=[.slice aq p0.Shots.length au,.slice aU p0.Down.length aV,.slice ak p0.Across.length am]
 refine ZT (cs:=B0) rfl rfl rfl rfl rfl rfl (by rfl) hS ?_
 intro W1 b2 bI
 refine oA Z Z (eN (sR (.fl 0 (.fx 1 (.fl 2 gAj) .stop)) Z (oL Z (bI.ldBA (j:=0) Z Z Z ZK zj (vs:=B0) Z Z) (OKS.makeMap Z Z Z Z Z bI ?_))))
 intro W5 b6 cM
 have db:=MpR.nil wGl wHL
 let B1:List Value:=[.slice aq p0.Shots.length au,.slice aU p0.Down.length aV,.slice ak p0.Across.length am,.map (some b6),jV 0,jV 0,jV 0,jV 0,jV 0,jV 0,jV 0,jV 0,jV 0,jV 0,jV 0,jV 0,jV 0,jV 0,jV 0,jV 0,jV 0,jV 0,jV 0,jV 0,jV 0,jV 0,jV 0,jV 0,jV 0,jV 0,jV 0,jV 0,jV 0,jV 0,jV 0,jV 0,jV 0,jV 0,jV 0,jV 0,jV 0,jV 0,jV 0,jV 0,jV 0,jV 0,jV 0,jV 0,jV 0,jV 0,jV 0,jV 0,jV 0,jV 0,jV 0,jV 0,jV 0,jV 0,jV 0,jV 0,jV 0,jV 0,jV 0,jV 0,jV 0,jV 0,jV 0,jV 0,jV 0,jV 0,jV 0,jV 0,jV 0,jV 0,jV 0,jV 0,.bool false,.bool false,.bool false,.bool false,.bool false,.bool false,.bool false,.bool false,.bool false,.bool false,.bool false,.bool false,.bool false,.bool false,.bool false,.bool false]
 refine zO rfl rfl rfl rfl (fun _=>Zb (pv:=[(0,.agg B0.toArray),(1,.map (some b6))]) (z:=[.slice none 0 0,.slice none 0 0,.slice none 0 0,.map none,jV 0,jV 0,jV 0,jV 0,jV 0,jV 0,jV 0,jV 0,jV 0,jV 0,jV 0,jV 0,jV 0,jV 0,jV 0,jV 0,jV 0,jV 0,jV 0,jV 0,jV 0,jV 0,jV 0,jV 0,jV 0,jV 0,jV 0,jV 0,jV 0,jV 0,jV 0,jV 0,jV 0,jV 0,jV 0,jV 0,jV 0,jV 0,jV 0,jV 0,jV 0,jV 0,jV 0,jV 0,jV 0,jV 0,jV 0,jV 0,jV 0,jV 0,jV 0,jV 0,jV 0,jV 0,jV 0,jV 0,jV 0,jV 0,jV 0,jV 0,jV 0,jV 0,jV 0,jV 0,jV 0,jV 0,jV 0,jV 0,jV 0,jV 0,jV 0,jV 0,.bool false,.bool false,.bool false,.bool false,.bool false,.bool false,.bool false,.bool false,.bool false,.bool false,.bool false,.bool false,.bool false,.bool false,.bool false,.bool false]) (cs:=B1) rfl (wAT rfl (wAT rfl wBY)) Try.zeroValue99 wNJ rfl rfl) (ZT (cs:=B1) rfl rfl rfl rfl rfl rfl (by rfl) cM ?_)
 intro dk ai bH
 refine oA Z Z (eN (zG (sR fL4 Z (oR Z (zK Z Z zF Z zW) (oL Z (bH.ldB (j:=2) Z Z Z ze (v:=.slice aq p0.Shots.length au) Z) (oR Z (zt Z Z zA) (oM Z Z (eN (zd (bnK hm fun dB cP cX=>?_))))))))))
 have q:=wCO cP
 obtain ⟨bk,cQ⟩:=q
 replace bk:=zL bk
 refine CK.forN' (fun ab bM σ_ w_=>∃ (U_:PHeap) (bf:Array MapEntry) (bu:Nat),σ_ 14=jV (↑ab:Int)/\σ_ 1=.pointer (some ⟨b2,0,none⟩)/\σ_ 3=.pointer (some ⟨ai,0,none⟩)/\σ_ 13=jV (↑p0.Shots.length:Int)/\PHeap.Le U U_/\sW w U U_ [.blk ai 99 B1,.obj b6 (.map bf bu),.blk b2 26 B0] w_/\MpR bf wGl wHL bM) cQ ?_ ?_ ?_
 exact ⟨U,#[],0,Z,Z,Z,Z,(zo _),bH,db⟩
 rintro ab bM dz dE dr bj ⟨bn,bf,bu,bh,b5,bD,bE,dg,bJ,cz⟩ de
 have bs:Hid ((↑ab:Int) < (↑p0.Shots.length:Int)):=zL (wBm bj)
 replace bj:=zL bj
 have cV:Hid (w64 ((↑ab:Int) + 1)=(↑(ab + 1):Int)):=zL (by have h1:=bk.out;have h2:=bs.out;rw [wAY] <;> omega)
 refine sR fL1 rfl (zO rfl rfl rfl rfl (fun _=>zg rfl bh bE) (eN (zG (cT Z bs (kN (zG (zd (sR fL2 rfl (zZ rfl rfl rfl rfl rfl bh (OKS.ra rfl rfl rfl rfl rfl rfl (eN (rR (wGk (.fx 7 .nil .stop)) rfl (zZ rfl rfl rfl rfl rfl bD (zO rfl rfl rfl rfl (fun _=>zl rfl rfl) (zO rfl rfl rfl rfl (fun _=>zK rfl rfl zV rfl Try.sizeOf92) (zm rfl rfl rfl rfl (bJ.ldB (j:=0) rfl rfl rfl Try.isAgg92 (v:=.map (some b6)) rfl) rfl (zZ rfl rfl rfl rfl rfl rfl (zZ rfl rfl rfl rfl rfl rfl (zO rfl rfl rfl rfl (fun _=>Zb (pv:=[(0,jV (↑ab:Int)),(1,jV (↑ab:Int))]) (z:=[jV 0,jV 0]) (cs:=[jV (↑ab:Int),jV (↑ab:Int)]) rfl (wAT rfl (wAT rfl wBY)) ZY wEO rfl rfl) (OKS.mapPut (x:=.tmp 20) (y:=.tmp 23) (j:=1) (mk:=wGl) (mv:=wHL) (a:=(⟨(↑ab:Int),(↑ab:Int)⟩:wAA)) (v:=true) rfl rfl rfl (by first | exact .inl rfl | exact .inr rfl) bJ rfl rfl rfl rfl (wDn Try.runUnderlying92) wJm cz rfl ?_))))))))))))))))))))
 intro bz bv bR da cK
 have cL:sW w U bn [.blk ai 99 B1,.obj b6 (.map bz bv),.blk b2 26 B0] bR:=cK
 refine ZA (zk (zM (rR fL2 Z (oR Z (ZB (zh Z bh Z) (congrArg (jV) cV.out)) (oM Z Z (ZA ?_))))))
 cases de
 exact zM ⟨Z,⟨bn,bz,bv,Z,b5,bD,bE,dg,cL,da⟩⟩
 rintro dF du ⟨bo,bX,bU,ci,b9,cd,cf,aZ,bK,cA⟩
 have bV:Hid (¬ ((↑(((↑p0.Shots.length:Int):Int) - 0).toNat:Int) < (↑p0.Shots.length:Int))):=zL (wBK)
 refine sR fL1 Z (oR Z (zg Z ci cf) (eN (zG (cF Z bV (ZM (zn (zn (ZE (zM (zG (sR fL4 Z (oR Z (zK Z b9 zF Z ZW) (oL Z (bK.ldB (j:=2) Z Z Z Zd (v:=.slice ak p0.Across.length am) Z) (oR Z (zt Z Z zw) (oM Z Z (eN (zd (bnK cX fun dC cR cY=>?_))))))))))))))))))
 have q:=wCO cR
 obtain ⟨bl,cS⟩:=q
 replace bl:=zL bl
 refine CK.forN' (fun az bN σ_ w_=>∃ (U_:PHeap) (aX:Array MapEntry) (be:Nat),σ_ 28=jV (↑az:Int)/\σ_ 3=.pointer (some ⟨ai,0,none⟩)/\σ_ 26=.slice ak p0.Across.length am/\σ_ 27=jV (↑p0.Across.length:Int)/\PHeap.Le bo U_/\sW w U U_ [.blk ai 99 B1,.obj b6 (.map aX be),.blk b2 26 B0] w_/\MpR aX wGl wHL bN) cS ?_ ?_ ?_
 exact ⟨bo,bX,bU,Z,cd,Z,Z,(zo _),bK,cA⟩
 rintro az bN dA dG dv bi ⟨ba,aX,be,bg,bA,bB,bC,bO,bG,cj⟩ df
 have br:Hid ((↑az:Int) < (↑p0.Across.length:Int)):=zL (wBm bi)
 replace bi:=zL bi
 have cU:Hid (w64 ((↑az:Int) + 1)=(↑(az + 1):Int)):=zL (by have h1:=bl.out;have h2:=br.out;rw [wAY] <;> omega)
 refine sR fL1 Z (oR Z (zg Z bg bC) (eN (zG (cT Z br (kN (zG (zd (sR gAs Z (bnK df fun x112 bF cW=>?_)))))))))
 have cn:=bL.le aZ
 have cp:=cn.le bO
 have q:=cp.el (fun _=>rfl) (wAx bF)
 obtain ⟨dw,dy,cB,cC⟩:=q
 refine oR Z (zu Z bB cB bg zw zy (wCA bF)) (oL Z (bG.ldCA (f:=0) cC Z Z Zc zy (us:=[jV x112.Skier,jV x112.Lane]) Z Z) (ZR (cs:=[jV 0,jV 0]) Z Z Z Z Z ZY Z bG ?_))
 intro dm bq cD
 let B2:List Value:=[jV x112.Skier,jV x112.Lane]
 refine ZG (j:=0) (vs:=B2) Z Z Z Z cD Z Z Z Z zy (zD Z) Z Z Z ?_
 intro bb cE
 have cG:sW w U ba [.blk bq 35 B2,.blk ai 99 B1,.obj b6 (.map aX be),.blk b2 26 B0] bb:=cE
 refine eN (ZI ZJ [3,3,3,1,1,0] (wFT (.fx 5 .nil .stop)) (by kernel_rfl) ?_)
 have aY:=cG.drew
 generalize hw_W129:({ bb with drawn:=bb.drawn + 1 }:World)=dp at aY ⊢
 refine zZ rfl rfl rfl rfl rfl bA (zO rfl rfl rfl rfl (fun _=>zl rfl rfl) (zO rfl rfl rfl rfl (fun _=>zK rfl rfl zV rfl Try.sizeOf92) (zm rfl rfl rfl rfl (aY.ldB (j:=1) rfl rfl rfl Try.isAgg92 (v:=.map (some b6)) rfl) rfl (zm rfl rfl rfl rfl (aY.ldBA (j:=0) rfl rfl rfl Zc zy (vs:=B2) rfl rfl) rfl (OKS.mapPut (x:=.tmp 35) (y:=.tmp 36) (j:=2) (mk:=wGl) (mv:=wHL) (a:=x112) (v:=true) rfl rfl rfl (by first | exact .inl rfl | exact .inr rfl) aY rfl rfl rfl rfl (wDn Try.runUnderlying92) wJm cj rfl ?_)))))
 intro bw bt bQ cZ cH
 have cI:sW w U ba [.blk bq 35 B2,.blk ai 99 B1,.obj b6 (.map bw bt),.blk b2 26 B0] bQ:=cH
 refine ZA (zk (zM (rR fL2 Z (oR Z (ZB (zh Z bg Z) (congrArg (jV) cU.out)) (oM Z Z (ZA ?_))))))
 cases cW
 exact zM ⟨rfl,⟨ba,bw,bt,rfl,bA,bB,bC,bO,(cI.pick [1,2,3] _ (by decide) rfl),cZ⟩⟩
 rintro dD dq ⟨bP,bW,bS,cg,bY,dx,bZ,bm,cJ,cq⟩
 have bT:Hid (¬ ((↑(((↑p0.Across.length:Int):Int) - 0).toNat:Int) < (↑p0.Across.length:Int))):=zL (wBK)
 refine sR fL1 Z (oR Z (zg Z cg bZ) (eN (zG (cF Z bT (ZM (zn (zn (ZE (zM (sR fL2 Z (oM Z bY (oA Z Z (eN (zR ?_))))))))))))))
 have cr:=cN.le aZ
 have ct:=cr.le bm
 have cu:=cO.le aZ
 have cw:=cu.le bm
 have cx:=bL.le aZ
 have cy:=cx.le bm
 cases cY
 exact ⟨rfl,_,(zz rfl),bP,_,(cJ.pick [0,1] _ (by decide) rfl),ai,aq,au,aU,aV,ak,am,b6,bW,bS,rfl,rfl,ct,cw,cy,cq⟩
end Go.Proofs.Ytfcmijinklojbaa
namespace Go.Proofs.Ytfcmijinklojbaa
open Go.KL
set_option maxHeartbeats 4000000
theorem wCo (p0:wAC) (ah:Option Addr) (ak:Nat) (ai:Option Addr) (am:Nat) (aj:Option Addr) (ap:Nat) (w:World) (U:PHeap) (hS:St0 w U []) (bm:Sl U 1 ah ak p0.Shots.length (hH KL.encI p0.Shots)) (bn:Sl U 1 ai am p0.Down.length (hH KL.encI p0.Down)) (bo:Sl U 2 aj ap p0.Across.length (hH wAB p0.Across)) {r:(Option wAE) × Int} (hm:wBa p0=some r):Gv Try.prog 69 [.agg #[.slice ah p0.Shots.length ak,.slice ai p0.Down.length am,.slice aj p0.Across.length ap]] w (wCg w [] U (fun U_ L_ v=>match r.1 with | none=>v=.tuple #[.pointer none,jV r.2]/\L_=[] | some d=>∃ (b0:Nat) (A0p00:Option Addr) (c0p00:Nat) (A0p01:Option Addr) (c0p01:Nat) (A0p02:Option Addr) (c0p02:Nat) (m0p1:Nat) (es0p1:Array MapEntry) (ck0p1:Nat),v=.tuple #[.pointer (some ⟨b0,0,none⟩),jV r.2]/\L_=[.blk b0 99 ([.slice A0p00 d.Bout.Shots.length c0p00,.slice A0p01 d.Bout.Down.length c0p01,.slice A0p02 d.Bout.Across.length c0p02,.map (some m0p1)] ++ ((hH KL.encI d.hits.l) ++ ((hH KL.encI d.used.l) ++ (hH KL.encT d.met.l)))),.obj m0p1 (.map es0p1 ck0p1)]/\Sl U_ 1 A0p00 c0p00 d.Bout.Shots.length (hH KL.encI d.Bout.Shots)/\Sl U_ 1 A0p01 c0p01 d.Bout.Down.length (hH KL.encI d.Bout.Down)/\Sl U_ 2 A0p02 c0p02 d.Bout.Across.length (hH wAB d.Bout.Across)/\MpR es0p1 wGl wHL d.may)):=by
 unfold wBa at hm
 refine Gv.of Try.func69 Z Try.ntmps69 Try.results69 Z (sR gAp Z ?_)
 let B0:List Value:=[.slice ah p0.Shots.length ak,.slice ai p0.Down.length am,.slice aj p0.Across.length ap]
 refine ZT (cs:=B0) rfl rfl rfl rfl rfl rfl (by rfl) hS ?_
 intro W1 b2 bl
 refine oA Z Z (oA Z Z (eN (zG (sR gAm Z (oL Z (bl.ldBA (j:=0) Z Z Z ZK zj (vs:=B0) Z Z) (bnK hm fun x5 h6 bI=>zP 0 Z Z Z Z (zN Z Z Try.call95 (zC Z zU) Z) bl (fun hs=>wGr p0 ah ak ai am aj ap W1 U hs bm bn bo h6) (.inr Z) ?_))))))
 rintro U8 L9 bM ba aU bC ⟨rfl,rfl⟩
 have az:sW w U U8 [.blk b2 26 B0] ba:=bC
 refine oA Z Z (eN (sR fL2 Z (oM Z Z (oR Z (ZF Z Z Z) (eN (ifc bI ?_ ?_))))))
 intro au bF
 refine zi (zf (fun h=>h au.out)) (kN (sR (.fl 0 (.fx 1 gAb .stop)) Z (oL Z (az.ldBA (j:=0) Z Z Z ZK zj (vs:=B0) Z Z) ?_)))
 have br:=bm.le aU
 have bs:=bn.le aU
 have bt:=bo.le aU
 refine bnK bF fun ab bu bG=>zP 0 Z Z Z Z (zN Z Z Try.call45 (zC Z zU) Z) az (fun hs=>wDA p0 ah ak ai am aj ap ba U8 hs br bs bt bu) (.inr Z) ?_
 rintro aZ bJ bN bq bL bD ⟨bf,aW,bg,aX,bh,aY,bi,aV,bk,bj,rfl,rfl,bv,bw,bz,bA⟩
 have bE:sW w U aZ [.blk bf 99 ([.slice aW ab.Bout.Shots.length bg,.slice aX ab.Bout.Down.length bh,.slice aY ab.Bout.Across.length bi,.map (some aV)] ++ ((hH KL.encI ab.hits.l) ++ ((hH KL.encI ab.used.l) ++ (hH KL.encT ab.met.l)))),.obj aV (.map bk bj),.blk b2 26 B0] bq:=bD
 refine oA Z Z (oA Z Z (eN (zR ?_)))
 cases bG
 exact ⟨rfl,_,(wDZ rfl rfl),aZ,_,(bE.pick [0,1] _ (by decide) rfl),bf,aW,bg,aX,bh,aY,bi,aV,bk,bj,rfl,rfl,bv,bw,bz,bA⟩
 intro au bH
 refine cT Z au (sR fL3 Z (oM Z Z (oA Z Z (oA Z Z (eN (zR (zJ ?_)))))))
 cases bH
 exact ⟨rfl,_,(wDZ rfl rfl),U8,_,(az.pick [] _ (by decide) rfl),rfl,rfl⟩
theorem wEC (p0:List Int) (ae:Option Addr) (ai:Nat) (p1:Int) (ah:Nat) (w:World) (U:PHeap) (hS:St0 w U []) (ak:Sl U 1 ae ai p0.length (hH KL.encI p0)) (aj:Cl U ah 0 [jV p1]) {r:Bool} (hm:wBD p0 p1=some r):Gv Try.prog 77 [.slice ae p0.length ai,.pointer (some ⟨ah,0,none⟩)] w (wCg w [] U (fun U_ L_ v=>v=.bool r/\L_=[])):=by
 unfold wBD at hm
 refine Gv.of Try.func77 Z Try.ntmps77 Try.results77 Z (sR fL1 Z (oA Z Z (eN (sR fL5 Z (oM Z Z (oR Z (zt Z Z zA) (oL Z (hS.ldC (f:=0) aj (v:=jV p1) Z Z zH Z) (oR Z (Zn Z Z Z) (oA Z Z (eN (zR ?_)))))))))))
 first | (obtain rfl:=nD hm) | cases hm
 exact ⟨Z,_,(zz Z),U,_,hS,Z,Z⟩
theorem wDs (p0:List Int) (ab:Option Addr) (ae:Nat) (p1:((List Int)->Option Bool)) (ak:Nat) (ah:Value) (w:World) (U:PHeap) (hS:St0 w U []) (az:Sl U 1 ab ae p0.length (hH KL.encI p0)) (aU:Cl U ak 0 [ah]) (aV:FnOK Try.prog U ah wJG wJH p1) {r:Bool} (hm:wAu p0 p1=some r):Gv Try.prog 101 [.slice ab p0.length ae,.pointer (some ⟨ak,0,none⟩)] w (wCg w [] U (fun U_ L_ v=>v=.bool r/\L_=[])):=by
 unfold wAu at hm
 refine Gv.of Try.func101 Z Try.ntmps101 Try.results101 Z (sR fL1 Z (oA Z Z (eN (sR gAt Z (oL Z (hS.ldC (f:=0) aU (v:=ah) Z Z Try.isAgg136 Z) (oM Z Z (bnK hm fun x1 h2 aW=>OKS.callV (a:=p0) Z Z Z Z Z Z (zC Z zU) hS aV ⟨ab,ae,Z,az⟩ h2 ?_)))))))
 rintro U4 L5 v6 W7 aY au ⟨rfl,rfl⟩
 have aq:sW w U U4 [] W7:=au
 refine oR Z (ZC Z Z) (oA Z Z (eN (zR ?_)))
 cases aW
 exact ⟨Z,_,(zz Z),U4,_,aq,Z,Z⟩
theorem wCq (p0:List (List Int)) (au:Option Addr) (aU:Nat) (p1:((List Int)->Option Bool)) (aW:Value) (w:World) (U:PHeap) (hS:St0 w U []) (bB:SlR U wIX au aU p0) (bC:FnOK Try.prog U aW wJG wJH p1) {r:Int} (hm:wAt p0 p1=some r):Gv Try.prog 114 [.slice au p0.length aU,aW] w (wCg w [] U (fun U_ L_ v=>v=jV r/\L_=[])):=by
 unfold wAt at hm
 refine Gv.of Try.func114 Z Try.ntmps114 Try.results114 Z (sR fL1 Z (oA Z Z (eN (zG (sR fL3 Z (oM Z Z (oR Z (zt Z Z zx) (oM Z Z (eN (zd ?_))))))))))
 have q:=wCT hm
 obtain ⟨r3,ak⟩:=q
 have q:=wCS ak
 obtain ⟨ap,bF⟩:=q
 replace ap:=zL ap
 refine Zm (fun k2 _ σ_ w_=>∃ (U_:PHeap),σ_ 8=jV (↑k2:Int)/\σ_ 0=.slice au p0.length aU/\σ_ 1=aW/\σ_ 7=jV (↑p0.length:Int)/\PHeap.Le U U_/\sW w U U_ [] w_) bF ?_ ?_ ?_
 exact ⟨U,Z,Z,Z,Z,(zo _),hS⟩
 rintro k2 ⟨⟩ b5 cd W8 am ⟨bk,ai,aZ,ba,bb,aq,bf⟩ bi bD
 try dsimp only at bi
 have aY:Hid ((↑k2:Int) < (↑p0.length:Int)):=zL (wBm am)
 replace am:=zL am
 have bG:Hid (w64 ((↑k2:Int) + 1)=(↑(k2 + 1):Int)):=zL (by have h1:=ap.out;have h2:=aY.out;rw [wAY] <;> omega)
 refine sR fL1 Z (oR Z (zg Z ai bb) (eN (zG (cT Z aY (kN (zG (zd (sR fL2 Z (oM Z ai (oA Z Z (eN (sR (wFT (.fx 5 .nil .stop)) Z (oM Z ba (oM Z aZ (oM Z Z (bnK bi fun aX be bH=>?_))))))))))))))))
 have bs:=bB.le aq
 have q:=bs.el (wAx be)
 obtain ⟨bn,bO,bY,bw,aj,bM⟩:=q
 obtain ⟨az,aV,rfl,bt⟩:=bM
 replace aj:Cl bk bn (bO + k2 * 1) [.slice az aX.length aV]:=aj
 refine oR Z (zu Z Z bw Z zx zW (wCA be)) (oL Z (bf.ldC (f:=0) aj (v:=.slice az aX.length aV) Z Z ze Z) (bnK bH fun bZ bu bI=>?_))
 have bv:=bC.le aq
 refine OKS.callV (a:=aX) Z Z Z Z Z Z (zC Z zU) bf bv ⟨az,aV,Z,bt⟩ bu ?_
 rintro ae bQ bX bm bN bz ⟨rfl,rfl⟩
 have bg:sW w U ae [] bm:=bz
 refine eN (ifc bI ?_ ?_)
 intro ah bJ
 refine zp (congrArg nA ah.out) (sR fL2 Z (oM Z Z (oA Z Z (eN (zR (zX (zJ ?_)))))))
 have q:=wAc bJ
 obtain ⟨bP,bK,bp⟩:=q
 have q:=wBi hm ak (bD bP bp)
 obtain rfl:=q
 refine zJ (zX (zJ ?_))
 cases bK
 exact ⟨Z,_,(zz Z),ae,_,bg,Z,Z⟩
 intro ah bL
 refine zi (congrArg nA (nB.2 ah.out)) (ZN (zk (zM (rR fL2 Z (oR Z (ZB (zh Z ai Z) (congrArg (jV) bG.out)) (oM Z Z (ZA ?_)))))))
 have q:=nD bL
 obtain rfl:=q
 exact zM ⟨Z,_,Z,⟨ae,Z,aZ,ba,bb,(aq.trans bN),bg⟩⟩
 rintro ⟨⟩ b9 bR ⟨bl,br,bT,bU,bq,bV,bA⟩ bE
 have bh:=wCw hm ak bE
 try dsimp only at bh
 have bo:Hid (¬ ((↑(((↑p0.length:Int):Int) - 0).toNat:Int) < (↑p0.length:Int))):=zL (wBK)
 refine sR fL1 Z (oR Z (zg Z br bq) (eN (zG (cF Z bo (ZM (zn (zn (ZE (zM (sR fL1 Z (oA Z Z (eN (zR ?_)))))))))))))
 cases bh
 exact ⟨Z,_,(zz Z),bl,_,bA,Z,Z⟩
theorem wCe (p0:List (List Int)) (ae:Option Addr) (ah:Nat) (p1:((List Int)->Option Bool)) (ai:Value) (w:World) (U:PHeap) (hS:St0 w U []) (az:SlR U wIX ae ah p0) (aU:FnOK Try.prog U ai wJG wJH p1) {r:Bool} (hm:wAl p0 p1=some r):Gv Try.prog 100 [.slice ae p0.length ah,ai] w (wCg w [] U (fun U_ L_ v=>v=.bool r/\L_=[])):=by
 unfold wAl at hm
 refine Gv.of Try.func100 Z Try.ntmps100 Try.results100 Z (sR fL1 Z (oA Z Z (eN (sR gAt Z (oM Z Z (oM Z Z (bnK hm fun x1 h2 ak=>zP 0 Z Z Z Z (zN Z Z Try.call114 (zC Z (zC Z zU)) Z) hS (fun hs=>wCq p0 ae ah p1 ai w U hs az aU h2) (.inr Z) ?_)))))))
 rintro U4 L5 v6 W7 aW au ⟨rfl,rfl⟩
 have aq:sW w U U4 [] W7:=au
 refine oR Z (Runs.geq Z Z Z) (oA Z Z (eN (zR ?_)))
 first | (obtain rfl:=nD ak) | cases ak
 exact ⟨Z,_,(zz Z),U4,_,aq,Z,Z⟩
theorem wDB (p0:List (List Int)) (ak:Option Addr) (am:Nat) (p1:((List Int)->Option Bool)) (ah:Value) (w:World) (U:PHeap) (hS:St0 w U []) (bh:SlR U wIX ak am p0) (au:FnOK Try.prog U ah wJG wJH p1) {r:Bool} (hm:wBL p0 p1=some r):Gv Try.prog 76 [.slice ak p0.length am,ah] w (wCg w [] U (fun U_ L_ v=>v=.bool r/\L_=[])):=by
 unfold wBL at hm
 refine Gv.of Try.func76 Z Try.ntmps76 Try.results76 Z (sR gAh Z (ZT (cs:=[ah]) Z Z Z Z Z Z (FnOK.cells au) hS ?_))
 intro W1 b2 be
 have q:=be.freeze (k:=0) rfl
 obtain ⟨U5,az,ab,bf⟩:=q
 replace ab:=Cl.of ab
 have bg:sW w U U5 [] W1:=bf
 replace ab:Cl U5 b2 0 [ah]:=ab
 refine oA Z Z (eN (sR gAt Z (oM Z Z (oR Z (Runs.mkf Z zU (zC Z zU)) ?_))))
 have aW:=bh.le az
 have aX:=au.le az
 have aZ:FnOK Try.prog U5 (.func (.func 101) #[] #[.pointer (some ⟨b2,0,none⟩)]) wJG wJH (fun x=>wAu x p1):=⟨101,[],[.pointer (some ⟨b2,0,none⟩)],rfl,Try.call101,fun U1 w1 x y vs le hs ha hm=>by obtain ⟨pA_0,pc_0,rfl,hq0_0⟩:=ha;exact wDs x pA_0 pc_0 p1 b2 ah w1 U1 hs hq0_0 (ab.le le) (aX.le le) hm⟩
 refine bnK hm fun x13 aY bi=>zP 0 Z Z Z Z (zN Z Z Try.call100 (zC Z (zC Z zU)) Z) bg (fun hs=>wCe p0 ak am (fun x=>wAu x p1) (.func (.func 101) #[] #[.pointer (some ⟨b2,0,none⟩)]) W1 U5 hs aW aZ aY) (.inr Z) ?_
 rintro ap bk bm aV bl ba ⟨rfl,rfl⟩
 have bb:sW w U ap [] aV:=ba
 refine oR Z (ZC Z Z) (oA Z Z (eN (zR ?_)))
 cases bi
 exact ⟨Z,_,(zz Z),ap,_,bb,Z,Z⟩
theorem wAb (p0:List Int) (ae:Option Addr) (aq:Nat) (w:World) (U:PHeap) (hS:St0 w U []) (ap:Sl U 1 ae aq p0.length (hH KL.encI p0)) {r:(List Int)} (hm:wAJ p0=some r):Gv Try.prog 44 [.slice ae p0.length aq] w (wCg w [] U (fun U_ L_ v=>∃ (A0:Option Addr) (c0:Nat),v=.slice A0 r.length c0/\L_=[.row A0 c0 3 1 (hH KL.encI r)])):=by
 unfold wAJ at hm
 refine Gv.of Try.func44 Z Try.ntmps44 Try.results44 Z (sR fL1 Z (oA Z Z (eN (zG (sR fL2 Z (oM Z Z (oR Z (Runs.eqNil Z Z Z zA) (eN ?_))))))))
 by_cases c1:ae.isNone=true
 replace c1:=zL c1
 have bf:p0=[]:=List.eq_nil_of_length_eq_zero (Sl.nilA (Option.isNone_iff_eq_none.1 c1.out ▸ ap))
 have be:(some [])=some r:=by simpa [bf,app] using hm
 refine zp (congrArg nA c1.out) (sR fL1 Z (oA Z Z (eN (zR (zJ ?_)))))
 have aZ:=hS.nilrow 3 1
 cases be
 exact ⟨Z,_,(zz Z),U,_,aZ,none,0,Z,Z⟩
 replace c1:=zL c1
 refine zi (congrArg nA (nB.2 c1.out)) (kN (sR (.fx 0 gAl .stop) Z (OKS.buildSlice0 1 Z Z Z Z Z zA zB hS ?_)))
 intro W6 b7 ba
 have am:sW w U U [.row (some ⟨b7,0,none⟩) 0 3 1 (hH KL.encI ([]:List Int))] W6:=ba
 refine oM Z Z (bnK hm fun au aW bb=>OKS.append (j:=0) (enc:=KL.encI) (xs:=([]:List Int)) (ys:=p0) (zs:=au) Z Z Z Z Z Try.underlying23 wMH Z Z Z Z Z Z am Z Z Z (am.srcS ap) (fun _=>Z) (fun _=>Z) aW Z ?_)
 intro ai ak az aX
 have aY:sW w U U [.row ai ak 3 1 (hH KL.encI au)] az:=aX
 refine oA Z Z (eN (zR ?_))
 have hE:=nD bb;first | subst r | cases hE
 exact ⟨Z,_,(zz Z),U,_,aY,ai,ak,Z,Z⟩
theorem wCF (p0:wAE) (am:Nat) (ai:Option Addr) (ap:Nat) (aj:Option Addr) (aq:Nat) (ak:Option Addr) (au:Nat) (ab:Nat) (az:Array MapEntry) (aU:Nat) (p1:Int) (p2:Int) (w:World) (U:PHeap) (hS:St0 w U [.blk am 99 ([.slice ai p0.Bout.Shots.length ap,.slice aj p0.Bout.Down.length aq,.slice ak p0.Bout.Across.length au,.map (some ab)] ++ ((hH KL.encI p0.hits.l) ++ ((hH KL.encI p0.used.l) ++ (hH KL.encT p0.met.l)))),.obj ab (.map az aU)]) (aW:Sl U 1 ai ap p0.Bout.Shots.length (hH KL.encI p0.Bout.Shots)) (aX:Sl U 1 aj aq p0.Bout.Down.length (hH KL.encI p0.Bout.Down)) (aY:Sl U 2 ak au p0.Bout.Across.length (hH wAB p0.Bout.Across)) (aV:MpR az wGl wHL p0.may) {r:Bool} (hm:wAf p0 p1 p2=some r):Gv Try.prog 78 [.pointer (some ⟨am,0,none⟩),jV p1,jV p2] w (wCg w [.blk am 99 ([.slice ai p0.Bout.Shots.length ap,.slice aj p0.Bout.Down.length aq,.slice ak p0.Bout.Across.length au,.map (some ab)] ++ ((hH KL.encI p0.hits.l) ++ ((hH KL.encI p0.used.l) ++ (hH KL.encT p0.met.l)))),.obj ab (.map az aU)] U (fun U_ L_ v=>v=.bool r/\L_=[.blk am 99 ([.slice ai p0.Bout.Shots.length ap,.slice aj p0.Bout.Down.length aq,.slice ak p0.Bout.Across.length au,.map (some ab)] ++ ((hH KL.encI p0.hits.l) ++ ((hH KL.encI p0.used.l) ++ (hH KL.encT p0.met.l)))),.obj ab (.map az aU)])):=by
 unfold wAf at hm
 refine Gv.of Try.func78 Z Try.ntmps78 Try.results78 Z (sR fL1 Z (oA Z Z (eN (sR fL9 Z (oM Z Z (oR Z (zl Z Z) (oR Z (zK Z Z zV Z Try.sizeOf92) (oL Z (hS.ldB (j:=0) Z Z Z Try.isAgg92 (v:=.map (some ab)) Z) (oM Z Z (oM Z Z (oR Z (Zb (pv:=[(0,jV p1),(1,jV p2)]) (z:=[jV 0,jV 0]) (cs:=[jV p1,jV p2]) Z (wAT Z (wAT Z wBY)) ZY wEO Z Z) (oL Z (hS.lookup1 (j:=1) (mk:=wGl) (mv:=wHL) (a:=(⟨p1,p2⟩:wAA)) (z:=false) Z Z Z Z (wDn Try.runUnderlying92) wJm Try.zeroValue4 aV) (oA Z Z (eN (zR ?_)))))))))))))))
 cases hm
 exact ⟨Z,_,(zz Z),U,_,hS,Z,Z⟩
theorem wED (p0:Int) (w:World) (U:PHeap) (hS:St0 w U [])  {r:Bool} (hm:wBE p0=some r):Gv Try.prog 80 [jV p0] w (wCg w [] U (fun U_ L_ v=>v=.bool r/\L_=[])):=by
 unfold wBE at hm
 refine Gv.of Try.func80 Z Try.ntmps80 Try.results80 Z (sR fL1 Z (oA Z Z (eN (sR fL3 Z (oM Z Z (oR Z (Runs.geq Z Z Z) (oA Z Z (eN (zR ?_)))))))))
 first | (obtain rfl:=nD hm) | cases hm
 exact ⟨Z,_,(zz Z),U,_,hS,Z,Z⟩
theorem wEE (p0:Int) (w:World) (U:PHeap) (hS:St0 w U [])  {r:Bool} (hm:wBF p0=some r):Gv Try.prog 81 [jV p0] w (wCg w [] U (fun U_ L_ v=>v=.bool r/\L_=[])):=by
 unfold wBF at hm
 refine Gv.of Try.func81 Z Try.ntmps81 Try.results81 Z (sR fL1 Z (oA Z Z (eN (sR fL3 Z (oM Z Z (oR Z (Zn Z Z Z) (oA Z Z (eN (zR ?_)))))))))
 first | (obtain rfl:=nD hm) | cases hm
 exact ⟨Z,_,(zz Z),U,_,hS,Z,Z⟩
theorem wFD (p0:wAC) (bw:Option Addr) (bz:Nat) (bH:Option Addr) (bI:Nat) (db:Option Addr) (df:Nat) (p1:List (List Int)) (bC:Option Addr) (bD:Nat) (w:World) (U:PHeap) (hS:St0 w U []) (dW:Sl U 1 bw bz p0.Shots.length (hH KL.encI p0.Shots)) (dX:Sl U 1 bH bI p0.Down.length (hH KL.encI p0.Down)) (mq:Sl U 2 db df p0.Across.length (hH wAB p0.Across)) (fR:SlR U wIX bC bD p1) {r:Bool × Int} (hm:wCD p0 p1=some r):Gv Try.prog 35 [.agg #[.slice bw p0.Shots.length bz,.slice bH p0.Down.length bI,.slice db p0.Across.length df],.slice bC p1.length bD] w (wCg w [] U (fun U_ L_ v=>v=.tuple #[.bool r.1,jV r.2]/\L_=[])):=by
 unfold wCD at hm
 refine Gv.of Try.func35 Z Try.ntmps35 Try.results35 Z (sR gAp Z ?_)
 let B0:List Value:=[.slice bw p0.Shots.length bz,.slice bH p0.Down.length bI,.slice db p0.Across.length df]
 refine ZT (cs:=B0) rfl rfl rfl rfl rfl rfl (by rfl) hS ?_
 intro W1 b2 fK
 refine oA Z Z (oA Z Z (eN (sR (.fl 0 (.fx 1 (wGt (.nil)) .stop)) Z (oL Z (fK.ldBA (j:=0) Z Z Z ZK zj (vs:=B0) Z Z) ?_))))
 have q:=bnd hm
 obtain ⟨⟨x5,x6⟩,h7,cp⟩:=q
 try dsimp only at cp
 refine zP 0 Z Z Z Z (zN Z Z Try.call69 (zC Z zU) Z) fK (fun hs=>wCo p0 bw bz bH bI db df W1 U hs dW dX mq h7) (.inr Z) ?_
 rintro U9 pC qD eS bW fG fD
 rcases x5 with _ | x26
 try dsimp only at cp
 obtain ⟨rfl,rfl⟩:=fD
 have fH:sW w U U9 [.blk b2 26 B0] eS:=fG
 refine oM Z Z (oR Z (zq Z Z (v:=.pointer none) Z) (oR Z (zq Z Z (v:=jV x6) Z) (oA Z Z (oA Z Z (eN (sR (wDt gAk) Z (oR Z (zK Z Z zF Z zW) (oL Z (fH.ldB (j:=0) Z Z Z ze (v:=.slice bw p0.Shots.length bz) Z) (oR Z (zt Z Z zA) (ZR (cs:=[jV 0]) Z Z Z Z Z Ze Z fH ?_))))))))))
 intro pT bO lJ
 let B1:List Value:=[jV (↑p0.Shots.length:Int)]
 refine ZG (j:=0) (vs:=B1) Z Z Z Z lJ Z Z Z Z zB (zD Z) Z Z Z ?_
 intro dD lO
 have cO:sW w U U9 [.blk bO 3 B1,.blk b2 26 B0] dD:=lO
 refine eN (zG (zd (sR fL3 Z (oM Z Z (oR Z (ZF Z Z Z) (oA Z Z (eN (ifc cp ?_ ?_))))))))
 intro dK oi
 refine zi (zf (fun h=>h dK.out)) (sR (wGk (.fx 7 (wMi (.nil)) .stop)) Z (oM Z Z (oR Z (zt Z Z zx) (oL Z (cO.ldB (j:=0) Z Z Z zH (v:=jV (↑p0.Shots.length:Int)) Z) (oR Z (ZF Z Z Z) (oM Z Z (ifc oi ?_ ?_)))))))
 intro br oj
 refine zZ Z Z Z (zI Z Z (zf (fun h=>h br.out))) Z Z ?_
 have q:=cO.freeze (k:=0) rfl
 obtain ⟨cw,eh,cj,lW⟩:=q
 replace cj:=Cl.of cj
 have lX:sW w U cw [.blk b2 26 B0] dD:=lW
 replace cj:Cl cw bO 0 B1:=cj
 refine zO Z Z Z (zI Z Z (zf (fun h=>h br.out))) (fun _=>Runs.mkf Z zU (zC Z zU)) ?_
 have jv:=fR.le bW
 have fB:=jv.le eh
 have lv:FnOK Try.prog cw (.func (.func 77) #[] #[.pointer (some ⟨bO,0,none⟩)]) wJG wJH (fun x=>wBD x (↑p0.Shots.length:Int)):=⟨77,[],[.pointer (some ⟨bO,0,none⟩)],rfl,Try.call77,fun U1 w1 x y vs le hs ha hm=>by obtain ⟨pA_0,pc_0,rfl,hq0_0⟩:=ha;exact wEC x pA_0 pc_0 (↑p0.Shots.length:Int) bO w1 U1 hs hq0_0 (cj.le le) hm⟩
 refine bnK oj fun x47 jz oq=>zP 0 Z Z Z (zI Z Z (zf (fun h=>h br.out))) (zN Z Z Try.call76 (zC Z (zC Z zU)) Z) lX (fun hs=>wDB p1 bC bD (fun x=>wBD x (↑p0.Shots.length:Int)) (.func (.func 77) #[] #[.pointer (some ⟨bO,0,none⟩)]) dD cw hs fB lv jz) (.inr Z) ?_
 rintro dy pI qK dG ei l3 ⟨rfl,rfl⟩
 have fP:sW w U dy [.blk b2 26 B0] dG:=l3
 refine zO Z Z Z (zI Z Z (zf (fun h=>h br.out))) (fun _=>ZC Z Z) (oR Z (zY Z (zf (fun h=>h br.out)) Z) (oA Z Z (eN (ifc oq ?_ ?_))))
 intro dM oO
 refine zi (nC dM.out) (ZN (zk (zM (zG (ZI ZJ [3,1,2,3,1,2,3,3] gAu (by kernel_rfl) ?_)))))
 have cQ:=fP.drew
 generalize hw_W60:({ dG with drawn:=dG.drawn + 1 }:World)=gF at cQ ⊢
 refine oR Z (zK Z Z zF Z zW) (oL Z (cQ.ldB (j:=0) Z Z Z ze (v:=.slice bw p0.Shots.length bz) Z) (oR Z (zK Z Z zF Z zW) (oL Z (cQ.ldB (j:=0) Z Z Z ze (v:=.slice bH p0.Down.length bI) Z) ?_)))
 have jZ:=dW.le bW
 have j0:=jZ.le eh
 have j5:=j0.le ei
 refine bnK oO fun x64 j7 o6=>zP 0 Z Z Z Z (zN Z Z Try.call44 (zC Z zU) Z) cQ (fun hs=>wAb p0.Shots bw bz gF dy hs j5 j7) (.inr Z) ?_
 rintro eR pM qN eY gj mi ⟨bA,bB,rfl,rfl⟩
 let B2:Res:=.row bA bB 3 1 (hH KL.encI x64)
 have mn:sW w U eR [B2,.blk b2 26 B0] eY:=mi
 have j9:=dX.le bW
 have k9:=j9.le eh
 have lc:=k9.le ei
 have lf:=lc.le gj
 refine bnK o6 fun ez lg cV=>zP 0 Z Z Z Z (zN Z Z Try.call44 (zC Z zU) Z) mn (fun hs=>wAb p0.Down bH bI eY eR hs lf lg) (.inr Z) ?_
 rintro dB pN qO gH pk mo ⟨bm,bs,rfl,rfl⟩
 have mp:sW w U dB [.row bm bs 3 1 (hH KL.encI ez),B2,.blk b2 26 B0] gH:=mo
 refine oA Z Z (oA Z Z (eN (zG (sR fL3 Z (oM Z Z (oR Z (zt Z Z zx) (oM Z Z (eN (zd ?_)))))))))
 have q:=wCT cV
 obtain ⟨qz,cR⟩:=q
 have q:=wCS cR
 obtain ⟨d9,mA⟩:=q
 replace d9:=zL d9
 refine Zm (fun ba (cW,cX) σ_ w_=>∃ (U_:PHeap),σ_ 46=jV (↑ba:Int)/\σ_ 6=.pointer none/\σ_ 9=.slice bA cW.length bB/\σ_ 10=.slice bm cX.length bs/\σ_ 44=.slice bC p1.length bD/\σ_ 45=jV (↑p1.length:Int)/\PHeap.Le dB U_/\sW w U U_ [.blk b2 26 B0,.row bA bB 3 1 (hH KL.encI cW),.row bm bs 3 1 (hH KL.encI cX)] w_/\cW.length=x64.length/\cX.length=ez.length) mA ?_ ?_ ?_
 exact ⟨dB,rfl,rfl,rfl,rfl,rfl,rfl,(zo _),(mp.pick [2,1,0] _ (by decide) rfl),rfl,rfl⟩
 rintro ba ⟨cW,cX⟩ qX rn pQ dY ⟨dr,cE,gW,gX,gZ,fd,fe,gh,fE,iP,iQ⟩ gb fS
 try dsimp only at gb
 have eZ:Hid ((↑ba:Int) < (↑p1.length:Int)):=zL (wBm dY)
 replace dY:=zL dY
 have mM:Hid (w64 ((↑ba:Int) + 1)=(↑(ba + 1):Int)):=zL (by have h1:=d9.out;have h2:=eZ.out;rw [wAY] <;> omega)
 refine sR fL1 Z (oR Z (zg Z cE fe) (eN (zG (cT Z eZ (kN (zG (zd (sR fL5 Z (oM Z cE (bnK gb fun bN fw cU=>?_))))))))))
 have iR:=fB.le ei
 have iT:=iR.le gj
 have iU:=iT.le pk
 have iV:=iU.le gh
 have q:=iV.el (wAx fw)
 obtain ⟨gI,pn,qP,lh,dS,o7⟩:=q
 obtain ⟨ej,en,rfl,iW⟩:=o7
 replace dS:Cl dr gI (pn + ba * 1) [.slice ej bN.length en]:=dS
 refine oR Z (zu Z fd lh cE zx zW (wCA fw)) (oL Z (fE.ldC (f:=0) dS (v:=.slice ej bN.length en) Z Z ze Z) (oA Z Z (oA Z Z (eN (sR fL3 Z (oM Z Z (oR Z (zt Z Z zA) (oM Z Z (eN (zd ?_))))))))))
 have q:=wCT cU
 obtain ⟨qA,cS⟩:=q
 have q:=wCS cS
 obtain ⟨eb,mB⟩:=q
 replace eb:=zL eb
 refine Zm (fun bk (be,aZ) σ_ w_=>∃ (U_:PHeap),σ_ 53=jV (↑bk:Int)/\σ_ 6=.pointer none/\σ_ 9=.slice bA be.length bB/\σ_ 10=.slice bm aZ.length bs/\σ_ 11=jV (↑ba:Int)/\σ_ 44=.slice bC p1.length bD/\σ_ 45=jV (↑p1.length:Int)/\σ_ 46=jV (↑ba:Int)/\σ_ 51=.slice ej bN.length en/\σ_ 52=jV (↑bN.length:Int)/\PHeap.Le dr U_/\sW w U U_ [.blk b2 26 B0,.row bA bB 3 1 (hH KL.encI be),.row bm bs 3 1 (hH KL.encI aZ)] w_/\be.length=x64.length/\aZ.length=ez.length) mB ?_ ?_ ?_
 exact ⟨dr,Z,gW,gX,gZ,Z,fd,fe,cE,Z,Z,(zo _),fE,iP,iQ⟩
 rintro bk ⟨be,aZ⟩ qY ro eT dZ ⟨bZ,cG,ff,dN,dO,cy,g7,g8,g9,fg,fh,gi,cM,iX,iY⟩ gc fT
 try dsimp only at gc
 have e9:Hid ((↑bk:Int) < (↑bN.length:Int)):=zL (wBm dZ)
 replace dZ:=zL dZ
 have mN:Hid (w64 ((↑bk:Int) + 1)=(↑(bk + 1):Int)):=zL (by have h1:=eb.out;have h2:=e9.out;rw [wAY] <;> omega)
 refine sR fL1 Z (oR Z (zg Z cG fh) (eN (zG (cT Z e9 (kN (zG (zd (sR fL5 Z (oM Z cG (bnK gc fun bE fy mQ=>?_))))))))))
 have iZ:=iW.le gi
 have q:=iZ.el (fun _=>rfl) (wAx fy)
 obtain ⟨pY,qx,li,ln⟩:=q
 refine oR Z (zu Z fg li cG zA zB (wCA fy)) (oL Z (cM.ldC (f:=0) ln (v:=jV bE) Z Z zH Z) (oA Z Z (oA Z Z (eN (zG (sR (wHP (.fx 13 (wHq (.nil)) .stop)) Z (oM Z Z (oR Z (zg Z Z Z) (oM Z Z (ifc mQ ?_ ?_))))))))))
 intro bJ mR
 refine oT Z bJ (oT Z bJ (oR Z (zS Z (ZO bJ.out) Z) (oM Z Z (oN Z (oN Z (oN Z (zE Z Z Z (wAD Z Z Z) (zE Z Z Z (wAD Z Z Z) (zE Z Z Z (wAD Z Z Z) (ZS Z Z Z (wAD Z Z Z) (zE Z Z Z (wAD Z Z Z) (oN Z (oR Z (zS Z Z Z) (eN (zp Z (sR fL2 Z (oA Z Z (oA Z Z (eN (zR (zJ (zX (zJ ?_)))))))))))))))))))))))
 have q:=wAc mR
 obtain ⟨pp,mS,gP⟩:=q
 have q:=wBi cU cS (fT pp gP)
 obtain rfl:=q
 refine zJ (zX (zX (zJ ?_)))
 have q:=wAc mS
 obtain ⟨pq,mT,gQ⟩:=q
 have q:=wBi cV cR (fS pq gQ)
 obtain rfl:=q
 refine zJ (zX (zJ ?_))
 cases mT
 exact ⟨rfl,_,(wDZ rfl rfl),bZ,_,(cM.pick [] _ (by decide) rfl),rfl,rfl⟩
 intro bJ mU
 refine zZ Z Z Z (wF Z bJ) Z Z (rU Z (wF Z bJ) (Runs.gtr Z Z Z) (oR Z (zY Z (zf bJ.out) Z) (oM Z Z (ifc mU ?_ ?_))))
 intro bo mV
 refine oT Z bo (oT Z bo (oT Z bo (zE Z Z Z (wAD Z Z Z) (zE Z Z Z (wAD Z Z Z) (zE Z Z Z (wAD Z Z Z) (ZS Z Z Z (wAD Z Z Z) (zE Z Z Z (wAD Z Z Z) (oT Z bo (oR Z (zS Z (ZO bo.out) Z) (eN (zp Z (sR fL2 Z (oA Z Z (oA Z Z (eN (zR (zJ (zX (zJ ?_)))))))))))))))))))
 have q:=wAc mV
 obtain ⟨pt,mW,gR⟩:=q
 have q:=wBi cU cS (fT pt gR)
 obtain rfl:=q
 refine zJ (zX (zX (zJ ?_)))
 have q:=wAc mW
 obtain ⟨pu,mX,gS⟩:=q
 have q:=wBi cV cR (fS pu gS)
 obtain rfl:=q
 refine zJ (zX (zJ ?_))
 cases mX
 exact ⟨rfl,_,(wDZ rfl rfl),bZ,_,(cM.pick [] _ (by decide) rfl),rfl,rfl⟩
 intro bo mY
 refine zZ Z Z Z (wF Z bo) Z Z (rU Z (wF Z bo) (Runs.gtr Z Z Z) (zZ Z Z Z (wF Z bo) Z Z (ifc mY ?_ ?_)))
 intro bv mZ
 refine zZ Z Z Z (wT Z bv) Z ff (zZ Z Z Z (wT Z bv) Z cy (zZ Z Z Z (wT Z bv) Z Z ?_))
 cases mZ
 intro bv m4
 refine zE rfl rfl rfl (zQ rfl rfl (zf bv.out) rfl) (zE rfl rfl rfl (zQ rfl rfl (zf bv.out) rfl) (zE rfl rfl rfl (zQ rfl rfl (zf bv.out) rfl) (ZS rfl rfl rfl (zQ rfl rfl (zf bv.out) rfl) (zE rfl rfl rfl (zQ rfl rfl (zf bv.out) rfl) (zO rfl rfl rfl (zI rfl rfl (zf bo.out)) (fun _=>zY rfl (zf bv.out) rfl) (zO rfl rfl rfl rfl (fun _=>zY rfl (zf bo.out) rfl) (eN (zi rfl (kN (ZI ZJ [3,3,3,3,3,3,3,1,3,3,3,3,3,1,3,3,3,0,3,0] (wMh gAq) (by kernel_rfl) ?_))))))))))
 have bU:=cM.drew
 generalize hw_W212:({ eT with drawn:=eT.drawn + 1 }:World)=pR at bU ⊢
 refine oM Z dN (oM Z cy (oM Z dO (oM Z Z (oM Z dN (oM Z cy (bnK m4 fun _ bQ m5=>?_))))))
 obtain ⟨pZ,cI⟩:=bU.rowSome (j:=1) rfl (by rw [wAG (f:=KL.encI) (sz:=1) (fun _=>rfl) be];have hz:=wAI bQ;omega)
 refine oR Z (zu Z Z cI Z zA zB (wAI bQ)) ?_
 have mE:=wBX (xs:=be) (wAI bQ)
 refine zm rfl rfl rfl rfl (bU.ldR (j:=1) rfl cI rfl rfl zH (wAR (sz:=1) (fun _=>rfl) _ _ 0 _ mE (by first | omega | rfl | simp) rfl)) rfl (zZ rfl rfl rfl rfl rfl rfl (zO rfl rfl rfl rfl (fun _=>ZV rfl rfl rfl) (zZ rfl rfl rfl rfl rfl dO (zZ rfl rfl rfl rfl rfl rfl (bnK m5 fun _ bR m6=>?_)))))
 obtain ⟨p6,cJ⟩:=bU.rowSome (j:=2) rfl (by rw [wAG (f:=KL.encI) (sz:=1) (fun _=>rfl) aZ];have hz:=wAI bR;omega)
 refine oR Z (zu Z Z cJ Z zA zB (wAI bR)) ?_
 have mF:=wBX (xs:=aZ) (wAI bR)
 refine zm rfl rfl rfl rfl (bU.ldR (j:=2) rfl cJ rfl rfl zH (wAR (sz:=1) (fun _=>rfl) _ _ 0 _ mF (by first | omega | rfl | simp) rfl)) rfl (zZ rfl rfl rfl rfl rfl rfl (zO rfl rfl rfl rfl (fun _=>ZV rfl rfl rfl) (zO rfl rfl rfl rfl (fun _=>zu rfl rfl cI rfl zA zB (wAI bQ)) ?_)))
 have mG:=wBX (xs:=be) (wAI bQ)
 refine Zk (j:=1) (vs:=[jV (w64 ((gd be ba) - bE))]) (cs':=hH KL.encI (nK be ba (w64 ((gd be ba) - bE)))) rfl rfl rfl rfl bU rfl cI rfl rfl rfl zB (by rw [wAG (f:=KL.encI) (sz:=1) (fun _=>rfl)];have hz:=wAI bQ;show _ + 1 <= _;first | omega | (simp only [nI];omega) | (simp only [nH,nE,nG];omega)) rfl (wCU (sz:=1) (fo:=0) (fun _=>rfl) _ _ _ _ mG (by first | omega | (simp only [nI];omega) | (simp only [nH,nE,nG];omega)) (zD rfl) rfl) rfl ?_
 intro gw ly
 let B3:Res:=.row bA bB 3 1 (hH KL.encI (nK be ba (w64 ((gd be ba) - bE))))
 have lz:sW w U bZ [.blk b2 26 B0,B3,.row bm bs 3 1 (hH KL.encI aZ)] gw:=ly
 refine oR Z (zu Z Z cJ Z zA zB (wAI bR)) ?_
 have mH:=wBX (xs:=aZ) (wAI bR)
 refine Zk (j:=2) (vs:=[jV (w64 ((gd aZ bk) - bE))]) (cs':=hH KL.encI (nK aZ bk (w64 ((gd aZ bk) - bE)))) rfl rfl rfl rfl lz rfl cJ rfl rfl rfl zB (by rw [wAG (f:=KL.encI) (sz:=1) (fun _=>rfl)];have hz:=wAI bR;show _ + 1 <= _;first | omega | (simp only [nI];omega) | (simp only [nH,nE,nG];omega)) rfl (wCU (sz:=1) (fo:=0) (fun _=>rfl) _ _ _ _ mH (by first | omega | (simp only [nI];omega) | (simp only [nH,nE,nG];omega)) (zD rfl) rfl) rfl ?_
 intro gx lA
 have lB:sW w U bZ [.blk b2 26 B0,B3,.row bm bs 3 1 (hH KL.encI (nK aZ bk (w64 ((gd aZ bk) - bE))))] gx:=lA
 refine ZA (zk (zM (rR fL2 Z (oR Z (ZB (zh Z cG Z) (congrArg (jV) mN.out)) (oM Z Z (ZA ?_))))))
 have q:=nD m6
 obtain rfl:=q
 exact zM ⟨rfl,_,rfl,⟨bZ,rfl,ff,(nR (b:=(.slice bA be.length bB:Value)) (c:=(.slice bA ((nK be ba (w64 ((gd be ba) - bE))).length) bB:Value)) dN (by simp only [nJ])),(nR (b:=(.slice bm aZ.length bs:Value)) (c:=(.slice bm ((nK aZ bk (w64 ((gd aZ bk) - bE))).length) bs:Value)) dO (by simp only [nJ])),cy,g7,g8,g9,fg,fh,gi,lB,(nJ.trans iX),(nJ.trans iY)⟩⟩
 rintro ⟨re,ri⟩ rp pS ⟨gp,iL,ib,ic,ie,qa,ig,ii,ij,qb,ik,pg,lC,i0,i3⟩ mr
 have fU:=wCw cU cS mr
 try dsimp only at fU
 have gL:Hid (¬ ((↑(((↑bN.length:Int):Int) - 0).toNat:Int) < (↑bN.length:Int))):=zL (wBK)
 refine sR fL1 Z (oR Z (zg Z iL ik) (eN (zG (cF Z gL (ZM (zn (zn (ZE (zk (zM (rR fL2 Z (oR Z (ZB (zh Z ij Z) (congrArg (jV) mM.out)) (oM Z Z (ZA ?_))))))))))))))
 have q:=nD fU
 obtain rfl:=q
 exact zM ⟨Z,_,Z,⟨gp,Z,ib,ic,ie,ig,ii,(gh.trans pg),lC,i0,i3⟩⟩
 rintro ⟨eA,dh⟩ rq eU ⟨pO,iM,qc,il,im,qd,io,qm,lD,qi,qj⟩ ms
 have fV:=wCw cV cR ms
 try dsimp only at fV
 have gM:Hid (¬ ((↑(((↑p1.length:Int):Int) - 0).toNat:Int) < (↑p1.length:Int))):=zL (wBK)
 refine sR fL1 Z (oR Z (zg Z iM io) (eN (zG (cF Z gM (ZM (zn (zn (ZE (zM (sR (.fl 0 (.fx 1 (.fl 2 (.fl 3 (.fx 4 (wQq (.nil)) .stop))) .stop)) Z (oM Z il ?_)))))))))))
 have q:=lD.freezeR (k:=1) (n:=eA.length) rfl (wAG (f:=KL.encI) (sz:=1) (fun _=>rfl) eA) (by decide)
 obtain ⟨dt,qn,o9,lE⟩:=q
 let B4:Res:=.row bm bs 3 1 (hH KL.encI dh)
 have lF:sW w U dt [.blk b2 26 B0,B4] eU:=lE
 have lq:FnOK Try.prog dt (.func (.func 80) #[] #[]) wJk wMG wBE:=⟨80,[],[],rfl,Try.call80,fun U1 w1 x y vs le hs ha hm=>by obtain rfl:=ha;exact wED x w1 U1 hs  hm⟩
 refine bnK fV fun qR i5 m7=>zP 0 Z Z Z Z (zN Z Z Try.call79 (zC Z (zC Z zU)) Z) lF (fun hs=>wBh eA bA bB wBE (.func (.func 80) #[] #[]) eU dt hs o9 lq i5) (.inr Z) ?_
 rintro eK pD qE dC qo lG ⟨rfl,rfl⟩
 have fJ:sW w U eK [.blk b2 26 B0,B4] dC:=lG
 refine oM Z Z (ifc m7 ?_ ?_)
 intro bK m8
 refine zZ Z Z Z (zI Z Z (congrArg nA bK.out)) Z im ?_
 have q:=fJ.freezeR (k:=1) (n:=dh.length) rfl (wAG (f:=KL.encI) (sz:=1) (fun _=>rfl) dh) (by decide)
 obtain ⟨du,qp,pb,lH⟩:=q
 have lI:sW w U du [.blk b2 26 B0] dC:=lH
 have ls:FnOK Try.prog du (.func (.func 81) #[] #[]) wJk wMG wBF:=⟨81,[],[],rfl,Try.call81,fun U1 w1 x y vs le hs ha hm=>by obtain rfl:=ha;exact wEE x w1 U1 hs  hm⟩
 refine bnK m8 fun qS i6 m9=>zP 0 Z Z Z (zI Z Z (congrArg nA bK.out)) (zN Z Z Try.call79 (zC Z (zC Z zU)) Z) lI (fun hs=>wBh dh bm bs wBF (.func (.func 81) #[] #[]) dC du hs pb ls i6) (.inr Z) ?_
 rintro eL pE qF gy qq lK ⟨rfl,rfl⟩
 have lL:sW w U eL [.blk b2 26 B0] gy:=lK
 refine oR Z (zS Z (congrArg nA bK.out) Z) (oA Z Z (oA Z Z (eN (zR ?_))))
 cases m9
 exact ⟨rfl,_,(wDZ rfl rfl),eL,_,(lL.pick [] _ (by decide) rfl),rfl,rfl⟩
 intro bK n5
 refine zE Z Z Z (zQ Z Z (congrArg nA (nB.2 bK.out)) Z) (ZS Z Z Z (zQ Z Z (congrArg nA (nB.2 bK.out)) Z) (oR Z (zY Z (congrArg nA (nB.2 bK.out)) Z) (oA Z Z (oA Z Z (eN (zR ?_))))))
 cases n5
 exact ⟨rfl,_,(wDZ rfl rfl),eK,_,(fJ.pick [] _ (by decide) rfl),rfl,rfl⟩
 intro dM n7
 refine zp (nF (dM.out)) (sR fL2 Z (oA Z Z (oA Z Z (eN (zR (zX (zJ ?_)))))))
 cases n7
 exact ⟨rfl,_,(wDZ rfl rfl),dy,_,(fP.pick [] _ (by decide) rfl),rfl,rfl⟩
 intro br n9
 refine oT Z br (oT Z br (ZS Z Z Z (zQ Z Z (ZO br.out) Z) (oT Z br (oR Z (zS Z (ZO br.out) Z) (oA Z Z (eN (zp Z (sR fL2 Z (oA Z Z (oA Z Z (eN (zR (zX (zJ ?_))))))))))))))
 cases n9
 exact ⟨rfl,_,(wDZ rfl rfl),U9,_,(cO.pick [] _ (by decide) rfl),rfl,rfl⟩
 intro dK oa
 refine cT Z dK (sR fL3 Z (oM Z Z (oA Z Z (oA Z Z (eN (zR (zX (zJ ?_))))))))
 cases oa
 exact ⟨rfl,_,(wDZ rfl rfl),U9,_,(cO.pick [] _ (by decide) rfl),rfl,rfl⟩
 try dsimp only at cp
 obtain ⟨ai,am,au,ap,az,aq,aU,ab,aW,aV,rfl,rfl,i7,i8,i9,ja⟩:=fD
 have fL:sW w U U9 [.blk ai 99 ([.slice am x26.Bout.Shots.length au,.slice ap x26.Bout.Down.length az,.slice aq x26.Bout.Across.length aU,.map (some ab)] ++ ((hH KL.encI x26.hits.l) ++ ((hH KL.encI x26.used.l) ++ (hH KL.encT x26.met.l)))),.obj ab (.map aW aV),.blk b2 26 B0] eS:=fG
 refine oM Z Z (oR Z (zq Z Z (v:=.pointer (some ⟨ai,0,none⟩)) Z) (oR Z (zq Z Z (v:=jV x6) Z) (oA Z Z (oA Z Z (eN (sR (wDt gAk) Z (oR Z (zK Z Z zF Z zW) (oL Z (fL.ldB (j:=2) Z Z Z ze (v:=.slice bw p0.Shots.length bz) Z) (oR Z (zt Z Z zA) (ZR (cs:=[jV 0]) Z Z Z Z Z Ze Z fL ?_))))))))))
 intro pU bP lM
 let B5:List Value:=[jV (↑p0.Shots.length:Int)]
 refine ZG (j:=0) (vs:=B5) Z Z Z Z lM Z Z Z Z zB (zD Z) Z Z Z ?_
 intro dE lN
 have cN:sW w U U9 [.blk bP 3 B5,.blk ai 99 ([.slice am x26.Bout.Shots.length au,.slice ap x26.Bout.Down.length az,.slice aq x26.Bout.Across.length aU,.map (some ab)] ++ ((hH KL.encI x26.hits.l) ++ ((hH KL.encI x26.used.l) ++ (hH KL.encT x26.met.l)))),.obj ab (.map aW aV),.blk b2 26 B0] dE:=lN
 refine eN (zG (zd (sR fL3 Z (oM Z Z (oR Z (ZF Z Z Z) (oA Z Z (eN (ifc cp ?_ ?_))))))))
 intro dI oc
 refine zi (zf (fun h=>h dI.out)) (sR (wGk (.fx 7 (wMi (.nil)) .stop)) Z (oM Z Z (oR Z (zt Z Z zx) (oL Z (cN.ldB (j:=0) Z Z Z zH (v:=jV (↑p0.Shots.length:Int)) Z) (oR Z (ZF Z Z Z) (oM Z Z (ifc oc ?_ ?_)))))))
 intro bp od
 refine zZ Z Z Z (zI Z Z (zf (fun h=>h bp.out))) Z Z ?_
 have q:=cN.freeze (k:=0) rfl
 obtain ⟨cu,bX,ci,lP⟩:=q
 replace ci:=Cl.of ci
 have lQ:sW w U cu [.blk ai 99 ([.slice am x26.Bout.Shots.length au,.slice ap x26.Bout.Down.length az,.slice aq x26.Bout.Across.length aU,.map (some ab)] ++ ((hH KL.encI x26.hits.l) ++ ((hH KL.encI x26.used.l) ++ (hH KL.encT x26.met.l)))),.obj ab (.map aW aV),.blk b2 26 B0] dE:=lP
 replace ci:Cl cu bP 0 B5:=ci
 refine zO Z Z Z (zI Z Z (zf (fun h=>h bp.out))) (fun _=>Runs.mkf Z zU (zC Z zU)) ?_
 have jb:=fR.le bW
 have fz:=jb.le bX
 have lu:FnOK Try.prog cu (.func (.func 77) #[] #[.pointer (some ⟨bP,0,none⟩)]) wJG wJH (fun x=>wBD x (↑p0.Shots.length:Int)):=⟨77,[],[.pointer (some ⟨bP,0,none⟩)],rfl,Try.call77,fun U1 w1 x y vs le hs ha hm=>by obtain ⟨pA_0,pc_0,rfl,hq0_0⟩:=ha;exact wEC x pA_0 pc_0 (↑p0.Shots.length:Int) bP w1 U1 hs hq0_0 (ci.le le) hm⟩
 refine bnK od fun qT jc oe=>zP 0 Z Z Z (zI Z Z (zf (fun h=>h bp.out))) (zN Z Z Try.call76 (zC Z (zC Z zU)) Z) lQ (fun hs=>wDB p1 bC bD (fun x=>wBD x (↑p0.Shots.length:Int)) (.func (.func 77) #[] #[.pointer (some ⟨bP,0,none⟩)]) dE cu hs fz lu jc) (.inr Z) ?_
 rintro dv pF qG dF bY lR ⟨rfl,rfl⟩
 have fM:sW w U dv [.blk ai 99 ([.slice am x26.Bout.Shots.length au,.slice ap x26.Bout.Down.length az,.slice aq x26.Bout.Across.length aU,.map (some ab)] ++ ((hH KL.encI x26.hits.l) ++ ((hH KL.encI x26.used.l) ++ (hH KL.encT x26.met.l)))),.obj ab (.map aW aV),.blk b2 26 B0] dF:=lR
 refine zO Z Z Z (zI Z Z (zf (fun h=>h bp.out))) (fun _=>ZC Z Z) (oR Z (zY Z (zf (fun h=>h bp.out)) Z) (oA Z Z (eN (ifc oe ?_ ?_))))
 intro dJ og
 refine zi (nC dJ.out) (ZN (zk (zM (zG (ZI ZJ [3,1,2,3,1,2,3,3] gAu (by kernel_rfl) ?_)))))
 have cP:=fM.drew
 generalize hw_W352:({ dF with drawn:=dF.drawn + 1 }:World)=gz at cP ⊢
 refine oR Z (zK Z Z zF Z zW) (oL Z (cP.ldB (j:=2) Z Z Z ze (v:=.slice bw p0.Shots.length bz) Z) (oR Z (zK Z Z zF Z zW) (oL Z (cP.ldB (j:=2) Z Z Z ze (v:=.slice bH p0.Down.length bI) Z) ?_)))
 have jd:=dW.le bW
 have je:=jd.le bX
 have jf:=je.le bY
 refine bnK og fun eu jg oh=>zP 0 Z Z Z Z (zN Z Z Try.call44 (zC Z zU) Z) cP (fun hs=>wAb p0.Shots bw bz gz dv hs jf jg) (.inr Z) ?_
 rintro eM pG qH eV cq lS ⟨bl,bq,rfl,rfl⟩
 let B6:Res:=.row bl bq 3 1 (hH KL.encI eu)
 have lT:sW w U eM [B6,.blk ai 99 ([.slice am x26.Bout.Shots.length au,.slice ap x26.Bout.Down.length az,.slice aq x26.Bout.Across.length aU,.map (some ab)] ++ ((hH KL.encI x26.hits.l) ++ ((hH KL.encI x26.used.l) ++ (hH KL.encT x26.met.l)))),.obj ab (.map aW aV),.blk b2 26 B0] eV:=lS
 have jh:=dX.le bW
 have ji:=jh.le bX
 have jj:=ji.le bY
 have jk:=jj.le cq
 refine bnK oh fun ey jl ef=>zP 0 Z Z Z Z (zN Z Z Try.call44 (zC Z zU) Z) lT (fun hs=>wAb p0.Down bH bI eV eM hs jk jl) (.inr Z) ?_
 rintro dw pH qI gA da lU ⟨bh,bi,rfl,rfl⟩
 have lV:sW w U dw [.row bh bi 3 1 (hH KL.encI ey),B6,.blk ai 99 ([.slice am x26.Bout.Shots.length au,.slice ap x26.Bout.Down.length az,.slice aq x26.Bout.Across.length aU,.map (some ab)] ++ ((hH KL.encI x26.hits.l) ++ ((hH KL.encI x26.used.l) ++ (hH KL.encT x26.met.l)))),.obj ab (.map aW aV),.blk b2 26 B0] gA:=lU
 refine oA Z Z (oA Z Z (eN (zG (sR fL3 Z (oM Z Z (oR Z (zt Z Z zx) (oM Z Z (eN (zd ?_)))))))))
 have q:=wCT ef
 obtain ⟨qB,dU⟩:=q
 have q:=wCS dU
 obtain ⟨ec,mC⟩:=q
 replace ec:=zL ec
 refine Zm (fun ak (cY,cZ) σ_ w_=>∃ (U_:PHeap),σ_ 46=jV (↑ak:Int)/\σ_ 6=.pointer (some ⟨ai,0,none⟩)/\σ_ 9=.slice bl cY.length bq/\σ_ 10=.slice bh cZ.length bi/\σ_ 44=.slice bC p1.length bD/\σ_ 45=jV (↑p1.length:Int)/\PHeap.Le dw U_/\sW w U U_ [.blk ai 99 ([.slice am x26.Bout.Shots.length au,.slice ap x26.Bout.Down.length az,.slice aq x26.Bout.Across.length aU,.map (some ab)] ++ ((hH KL.encI x26.hits.l) ++ ((hH KL.encI x26.used.l) ++ (hH KL.encT x26.met.l)))),.obj ab (.map aW aV),.blk b2 26 B0,.row bl bq 3 1 (hH KL.encI cY),.row bh bi 3 1 (hH KL.encI cZ)] w_/\cY.length=eu.length/\cZ.length=ey.length) mC ?_ ?_ ?_
 exact ⟨dw,rfl,rfl,rfl,rfl,rfl,rfl,(zo _),(lV.pick [2,3,4,1,0] _ (by decide) rfl),rfl,rfl⟩
 rintro ak ⟨cY,cZ⟩ qZ rt pV d7 ⟨dx,cH,ip,iq,ir,fj,fm,cr,fN,jm,jo⟩ ge mu
 try dsimp only at ge
 have fb:Hid ((↑ak:Int) < (↑p1.length:Int)):=zL (wBm d7)
 replace d7:=zL d7
 have mO:Hid (w64 ((↑ak:Int) + 1)=(↑(ak + 1):Int)):=zL (by have h1:=ec.out;have h2:=fb.out;rw [wAY] <;> omega)
 refine sR fL1 Z (oR Z (zg Z cH fm) (eN (zG (cT Z fb (kN (zG (zd (sR fL5 Z (oM Z cH (bnK ge fun bF fA eg=>?_))))))))))
 have jp:=fz.le bY
 have jq:=jp.le cq
 have jr:=jq.le da
 have jt:=jr.le cr
 have q:=jt.el (wAx fA)
 obtain ⟨gJ,po,qQ,lj,dT,o8⟩:=q
 obtain ⟨de,dg,rfl,ju⟩:=o8
 replace dT:Cl dx gJ (po + ak * 1) [.slice de bF.length dg]:=dT
 refine oR Z (zu Z fj lj cH zx zW (wCA fA)) (oL Z (fN.ldC (f:=0) dT (v:=.slice de bF.length dg) Z Z ze Z) (oA Z Z (oA Z Z (eN (sR fL3 Z (oM Z Z (oR Z (zt Z Z zA) (oM Z Z (eN (zd ?_))))))))))
 have q:=wCT eg
 obtain ⟨qC,dV⟩:=q
 have q:=wCS dV
 obtain ⟨ed,mD⟩:=q
 replace ed:=zL ed
 refine Zm (fun bb (aX,aY) σ_ w_=>∃ (U_:PHeap),σ_ 53=jV (↑bb:Int)/\σ_ 6=.pointer (some ⟨ai,0,none⟩)/\σ_ 9=.slice bl aX.length bq/\σ_ 10=.slice bh aY.length bi/\σ_ 11=jV (↑ak:Int)/\σ_ 44=.slice bC p1.length bD/\σ_ 45=jV (↑p1.length:Int)/\σ_ 46=jV (↑ak:Int)/\σ_ 51=.slice de bF.length dg/\σ_ 52=jV (↑bF.length:Int)/\PHeap.Le dx U_/\sW w U U_ [.blk ai 99 ([.slice am x26.Bout.Shots.length au,.slice ap x26.Bout.Down.length az,.slice aq x26.Bout.Across.length aU,.map (some ab)] ++ ((hH KL.encI x26.hits.l) ++ ((hH KL.encI x26.used.l) ++ (hH KL.encT x26.met.l)))),.obj ab (.map aW aV),.blk b2 26 B0,.row bl bq 3 1 (hH KL.encI aX),.row bh bi 3 1 (hH KL.encI aY)] w_/\aX.length=eu.length/\aY.length=ey.length) mD ?_ ?_ ?_
 exact ⟨dx,Z,ip,iq,ir,Z,fj,fm,cH,Z,Z,(zo _),fN,jm,jo⟩
 rintro bb ⟨aX,aY⟩ rc ru gB d8 ⟨b5,bM,b9,cz,cA,cd,cB,cC,cD,cf,cg,ct,cn,jw,jx⟩ gf mw
 try dsimp only at gf
 have fc:Hid ((↑bb:Int) < (↑bF.length:Int)):=zL (wBm d8)
 replace d8:=zL d8
 have mP:Hid (w64 ((↑bb:Int) + 1)=(↑(bb + 1):Int)):=zL (by have h1:=ed.out;have h2:=fc.out;rw [wAY] <;> omega)
 refine sR fL1 Z (oR Z (zg Z bM cg) (eN (zG (cT Z fc (kN (zG (zd (sR fL5 Z (oM Z bM (bnK gf fun bu fC ol=>?_))))))))))
 have jy:=ju.le ct
 have q:=jy.el (fun _=>rfl) (wAx fC)
 obtain ⟨p7,qy,lm,lp⟩:=q
 refine oR Z (zu Z cf lm bM zA zB (wCA fC)) (oL Z (cn.ldC (f:=0) lp (v:=jV bu) Z Z zH Z) (oA Z Z (oA Z Z (eN (zG (bnK ol fun gK gg om=>?_))))))
 let B7:Res:=.row bh bi 3 1 (hH KL.encI aY)
 let B8:Res:=.row bl bq 3 1 (hH KL.encI aX)
 refine CK.cut (fun σ_ w_=>∃ (U_:PHeap),σ_ 6=.pointer (some ⟨ai,0,none⟩)/\σ_ 9=.slice bl aX.length bq/\σ_ 10=.slice bh aY.length bi/\σ_ 11=jV (↑ak:Int)/\σ_ 13=jV (↑bb:Int)/\σ_ 14=jV bu/\σ_ 44=.slice bC p1.length bD/\σ_ 45=jV (↑p1.length:Int)/\σ_ 46=jV (↑ak:Int)/\σ_ 51=.slice de bF.length dg/\σ_ 52=jV (↑bF.length:Int)/\σ_ 53=jV (↑bb:Int)/\σ_ 74=.bool gK/\PHeap.Le b5 U_/\sW w U U_ [.blk ai 99 ([.slice am x26.Bout.Shots.length au,.slice ap x26.Bout.Down.length az,.slice aq x26.Bout.Across.length aU,.map (some ab)] ++ ((hH KL.encI x26.hits.l) ++ ((hH KL.encI x26.used.l) ++ (hH KL.encT x26.met.l)))),.obj ab (.map aW aV),.blk b2 26 B0,B8,B7] w_) ?_ ?_
 refine rR (wHP (.fx 13 (wHq (.nil)) .stop)) Z (oM Z Z (oR Z (zg Z Z Z) (oM Z Z ?_)))
 by_cases bj:bu < 0
 have fW:=gg;rw [if_pos bj] at fW;replace bj:=zL bj
 refine oT Z bj (oT Z bj (oR Z (zS Z (ZO bj.out) Z) (oM Z Z (oN Z (oN Z (oN Z (zE Z Z Z (wAD Z Z Z) (zE Z Z Z (wAD Z Z Z) (zE Z Z Z (wAD Z Z Z) (ZS Z Z Z (wAD Z Z Z) (zE Z Z Z (wAD Z Z Z) (oN Z (oR Z (zS Z Z Z) (ZA ?_))))))))))))))
 cases fW
 exact zM ⟨Z,⟨b5,b9,cz,cA,cd,Z,Z,cB,cC,cD,cf,cg,bM,Z,(zo _),cn⟩⟩
 have fY:=gg;rw [if_neg bj] at fY;replace bj:=zL bj
 refine zZ Z Z Z (wF Z bj) Z Z (rU Z (wF Z bj) (Runs.gtr Z Z Z) (oR Z (zY Z (zf bj.out) Z) (oM Z Z (ifc fY ?_ ?_))))
 intro bf ot
 refine oT Z bf (oT Z bf (oT Z bf (zE Z Z Z (wAD Z Z Z) (zE Z Z Z (wAD Z Z Z) (zE Z Z Z (wAD Z Z Z) (ZS Z Z Z (wAD Z Z Z) (zE Z Z Z (wAD Z Z Z) (oT Z bf (oR Z (zS Z (ZO bf.out) Z) (ZA ?_))))))))))
 cases ot
 exact zM ⟨Z,⟨b5,b9,cz,cA,cd,Z,Z,cB,cC,cD,cf,cg,bM,Z,(zo _),cn⟩⟩
 intro bf ou
 refine zZ Z Z Z (wF Z bf) Z Z (rU Z (wF Z bf) (Runs.gtr Z Z Z) (zZ Z Z Z (wF Z bf) Z Z (ifc ou ?_ ?_)))
 intro bg ow
 refine zZ Z Z Z (wT Z bg) Z b9 (zZ Z Z Z (wT Z bg) Z cd (zZ Z Z Z (wT Z bg) Z Z ?_))
 have jA:=i7.le bX
 have jB:=jA.le bY
 have jC:=jB.le cq
 have jD:=jC.le da
 have jE:=jD.le cr
 have jG:=jE.le ct
 have jH:=i8.le bX
 have jJ:=jH.le bY
 have jK:=jJ.le cq
 have jL:=jK.le da
 have jM:=jL.le cr
 have jN:=jM.le ct
 have jO:=i9.le bX
 have jP:=jO.le bY
 have jQ:=jP.le cq
 have jR:=jQ.le da
 have jS:=jR.le cr
 have jU:=jS.le ct
 refine bnK ow fun qU jW ox=>zP 2 Z Z Z (wT Z bg) (zN Z Z Try.call78 (zC Z (zC Z (zC Z zU))) Z) cn (fun hs=>wCF x26 ai am au ap az aq aU ab aW aV (↑ak:Int) (↑bb:Int) gB b5 hs jG jN jU ja jW) (.inl Z) ?_
 rintro eO pJ qJ gC ph lY ⟨rfl,rfl⟩
 have lZ:sW w U eO [.blk ai 99 ([.slice am x26.Bout.Shots.length au,.slice ap x26.Bout.Down.length az,.slice aq x26.Bout.Across.length aU,.map (some ab)] ++ ((hH KL.encI x26.hits.l) ++ ((hH KL.encI x26.used.l) ++ (hH KL.encT x26.met.l)))),.obj ab (.map aW aV),.blk b2 26 B0,B8,B7] gC:=lY
 refine rU Z (wT Z bg) (ZC Z Z) (rU Z (wF Z bf) (zS Z (ZO bg.out) Z) (oR Z (zY Z (zf bf.out) Z) (ZA ?_)))
 cases ox
 exact zM ⟨Z,⟨eO,b9,cz,cA,cd,Z,Z,cB,cC,cD,cf,cg,bM,Z,ph,lZ⟩⟩
 intro bg oy
 refine oF Z bg (oF Z bg (oF Z bg (ZS Z Z Z (zQ Z Z (zf bg.out) Z) (oF Z bg (rU Z (wF Z bf) (zY Z (zf bg.out) Z) (oR Z (zY Z (zf bf.out) Z) (ZA ?_)))))))
 cases oy
 exact zM ⟨Z,⟨b5,b9,cz,cA,cd,Z,Z,cB,cC,cD,cf,cg,bM,Z,(zo _),cn⟩⟩
 rintro rx eW ⟨cx,it,dP,dQ,dR,fq,ft,iu,iv,iw,iy,iz,iA,fu,pi,fO⟩
 refine ifc om ?_ ?_
 intro dL oz
 refine zp (fu.trans (congrArg nA dL.out)) (sR fL2 Z (oA Z Z (oA Z Z (eN (zR (zJ (zX (zJ ?_))))))))
 have q:=wAc oz
 obtain ⟨py,oB,gT⟩:=q
 have q:=wBi eg dV (mw py gT)
 obtain rfl:=q
 refine zJ (zX (zX (zJ ?_)))
 have q:=wAc oB
 obtain ⟨pz,oG,gU⟩:=q
 have q:=wBi ef dU (mu pz gU)
 obtain rfl:=q
 refine zJ (zX (zJ ?_))
 cases oG
 exact ⟨rfl,_,(wDZ rfl rfl),cx,_,(fO.pick [] _ (by decide) rfl),rfl,rfl⟩
 intro dL oH
 refine zi (fu.trans (congrArg nA (nB.2 dL.out))) (kN (ZI ZJ [3,3,3,3,3,3,3,1,3,3,3,3,3,1,3,3,3,0,3,0] (wMh gAq) (by kernel_rfl) ?_))
 have bV:=fO.drew
 generalize hw_W555:({ eW with drawn:=eW.drawn + 1 }:World)=pW at bV ⊢
 refine oM Z dP (oM Z dR (oM Z dQ (oM Z fq (oM Z dP (oM Z dR (bnK oH fun _ bS oI=>?_))))))
 obtain ⟨p8,cK⟩:=bV.rowSome (j:=3) rfl (by rw [wAG (f:=KL.encI) (sz:=1) (fun _=>rfl) aX];have hz:=wAI bS;omega)
 refine oR Z (zu Z Z cK Z zA zB (wAI bS)) ?_
 have mI:=wBX (xs:=aX) (wAI bS)
 refine zm rfl rfl rfl rfl (bV.ldR (j:=3) rfl cK rfl rfl zH (wAR (sz:=1) (fun _=>rfl) _ _ 0 _ mI (by first | omega | rfl | simp) rfl)) rfl (zZ rfl rfl rfl rfl rfl ft (zO rfl rfl rfl rfl (fun _=>ZV rfl rfl rfl) (zZ rfl rfl rfl rfl rfl dQ (zZ rfl rfl rfl rfl rfl fq (bnK oI fun _ bT oK=>?_)))))
 obtain ⟨p9,cL⟩:=bV.rowSome (j:=4) rfl (by rw [wAG (f:=KL.encI) (sz:=1) (fun _=>rfl) aY];have hz:=wAI bT;omega)
 refine oR Z (zu Z Z cL Z zA zB (wAI bT)) ?_
 have mJ:=wBX (xs:=aY) (wAI bT)
 refine zm rfl rfl rfl rfl (bV.ldR (j:=4) rfl cL rfl rfl zH (wAR (sz:=1) (fun _=>rfl) _ _ 0 _ mJ (by first | omega | rfl | simp) rfl)) rfl (zZ rfl rfl rfl rfl rfl ft (zO rfl rfl rfl rfl (fun _=>ZV rfl rfl rfl) (zO rfl rfl rfl rfl (fun _=>zu rfl rfl cK rfl zA zB (wAI bS)) ?_)))
 have mK:=wBX (xs:=aX) (wAI bS)
 refine Zk (j:=3) (vs:=[jV (w64 ((gd aX ak) - bu))]) (cs':=hH KL.encI (nK aX ak (w64 ((gd aX ak) - bu)))) rfl rfl rfl rfl bV rfl cK rfl rfl rfl zB (by rw [wAG (f:=KL.encI) (sz:=1) (fun _=>rfl)];have hz:=wAI bS;show _ + 1 <= _;first | omega | (simp only [nI];omega) | (simp only [nH,nE,nG];omega)) rfl (wCU (sz:=1) (fo:=0) (fun _=>rfl) _ _ _ _ mK (by first | omega | (simp only [nI];omega) | (simp only [nH,nE,nG];omega)) (zD rfl) rfl) rfl ?_
 intro gD l4
 let B9:Res:=.row bl bq 3 1 (hH KL.encI (nK aX ak (w64 ((gd aX ak) - bu))))
 have l5:sW w U cx [.blk ai 99 ([.slice am x26.Bout.Shots.length au,.slice ap x26.Bout.Down.length az,.slice aq x26.Bout.Across.length aU,.map (some ab)] ++ ((hH KL.encI x26.hits.l) ++ ((hH KL.encI x26.used.l) ++ (hH KL.encT x26.met.l)))),.obj ab (.map aW aV),.blk b2 26 B0,B9,B7] gD:=l4
 refine oR Z (zu Z Z cL Z zA zB (wAI bT)) ?_
 have mL:=wBX (xs:=aY) (wAI bT)
 refine Zk (j:=4) (vs:=[jV (w64 ((gd aY bb) - bu))]) (cs':=hH KL.encI (nK aY bb (w64 ((gd aY bb) - bu)))) rfl rfl rfl rfl l5 rfl cL rfl rfl rfl zB (by rw [wAG (f:=KL.encI) (sz:=1) (fun _=>rfl)];have hz:=wAI bT;show _ + 1 <= _;first | omega | (simp only [nI];omega) | (simp only [nH,nE,nG];omega)) rfl (wCU (sz:=1) (fo:=0) (fun _=>rfl) _ _ _ _ mL (by first | omega | (simp only [nI];omega) | (simp only [nH,nE,nG];omega)) (zD rfl) rfl) rfl ?_
 intro gE l6
 have l7:sW w U cx [.blk ai 99 ([.slice am x26.Bout.Shots.length au,.slice ap x26.Bout.Down.length az,.slice aq x26.Bout.Across.length aU,.map (some ab)] ++ ((hH KL.encI x26.hits.l) ++ ((hH KL.encI x26.used.l) ++ (hH KL.encT x26.met.l)))),.obj ab (.map aW aV),.blk b2 26 B0,B9,.row bh bi 3 1 (hH KL.encI (nK aY bb (w64 ((gd aY bb) - bu))))] gE:=l6
 refine ZA (zk (zM (rR fL2 Z (oR Z (ZB (zh Z iA Z) (congrArg (jV) mP.out)) (oM Z Z (ZA ?_))))))
 have q:=nD oK
 obtain rfl:=q
 exact zM ⟨rfl,_,rfl,⟨cx,rfl,it,(nR (b:=(.slice bl aX.length bq:Value)) (c:=(.slice bl ((nK aX ak (w64 ((gd aX ak) - bu))).length) bq:Value)) dP (by simp only [nJ])),(nR (b:=(.slice bh aY.length bi:Value)) (c:=(.slice bh ((nK aY bb (w64 ((gd aY bb) - bu))).length) bi:Value)) dQ (by simp only [nJ])),dR,iu,iv,iw,iy,iz,(ct.trans pi),l7,(nJ.trans jw),(nJ.trans jx)⟩⟩
 rintro ⟨rj,rk⟩ ry pX ⟨gu,iN,iB,iC,iD,qe,iE,iF,iG,qf,iH,pj,l8,jX,jY⟩ my
 have fZ:=wCw eg dV my
 try dsimp only at fZ
 have gN:Hid (¬ ((↑(((↑bF.length:Int):Int) - 0).toNat:Int) < (↑bF.length:Int))):=zL (wBK)
 refine sR fL1 Z (oR Z (zg Z iN iH) (eN (zG (cF Z gN (ZM (zn (zn (ZE (zk (zM (rR fL2 Z (oR Z (ZB (zh Z iG Z) (congrArg (jV) mO.out)) (oM Z Z (ZA ?_))))))))))))))
 have q:=nD fZ
 obtain rfl:=q
 exact zM ⟨Z,_,Z,⟨gu,Z,iB,iC,iD,iE,iF,(cr.trans pj),l8,jX,jY⟩⟩
 rintro ⟨eC,dk⟩ rA eX ⟨pP,iO,qg,iI,iJ,qh,iK,qr,l9,qk,ql⟩ mz
 have ga:=wCw ef dU mz
 try dsimp only at ga
 have gO:Hid (¬ ((↑(((↑p1.length:Int):Int) - 0).toNat:Int) < (↑p1.length:Int))):=zL (wBK)
 refine sR fL1 Z (oR Z (zg Z iO iK) (eN (zG (cF Z gO (ZM (zn (zn (ZE (zM (sR (.fl 0 (.fx 1 (.fl 2 (.fl 3 (.fx 4 (wQq (.nil)) .stop))) .stop)) Z (oM Z iI ?_)))))))))))
 have q:=l9.freezeR (k:=3) (n:=eC.length) rfl (wAG (f:=KL.encI) (sz:=1) (fun _=>rfl) eC) (by decide)
 obtain ⟨dz,qt,pe,ma⟩:=q
 let eD:Res:=.row bh bi 3 1 (hH KL.encI dk)
 have mb:sW w U dz [.blk ai 99 ([.slice am x26.Bout.Shots.length au,.slice ap x26.Bout.Down.length az,.slice aq x26.Bout.Across.length aU,.map (some ab)] ++ ((hH KL.encI x26.hits.l) ++ ((hH KL.encI x26.used.l) ++ (hH KL.encT x26.met.l)))),.obj ab (.map aW aV),.blk b2 26 B0,eD] eX:=ma
 have lw:FnOK Try.prog dz (.func (.func 80) #[] #[]) wJk wMG wBE:=⟨80,[],[],rfl,Try.call80,fun U1 w1 x y vs le hs ha hm=>by obtain rfl:=ha;exact wED x w1 U1 hs  hm⟩
 refine bnK ga fun qV j4 oP=>zP 0 Z Z Z Z (zN Z Z Try.call79 (zC Z (zC Z zU)) Z) mb (fun hs=>wBh eC bl bq wBE (.func (.func 80) #[] #[]) eX dz hs pe lw j4) (.inr Z) ?_
 rintro eP pK qL dH qu mc ⟨rfl,rfl⟩
 have fQ:sW w U eP [.blk ai 99 ([.slice am x26.Bout.Shots.length au,.slice ap x26.Bout.Down.length az,.slice aq x26.Bout.Across.length aU,.map (some ab)] ++ ((hH KL.encI x26.hits.l) ++ ((hH KL.encI x26.used.l) ++ (hH KL.encT x26.met.l)))),.obj ab (.map aW aV),.blk b2 26 B0,eD] dH:=mc
 refine oM Z Z (ifc oP ?_ ?_)
 intro bL oU
 refine zZ Z Z Z (zI Z Z (congrArg nA bL.out)) Z iJ ?_
 have q:=fQ.freezeR (k:=3) (n:=dk.length) rfl (wAG (f:=KL.encI) (sz:=1) (fun _=>rfl) dk) (by decide)
 obtain ⟨dA,qv,pf,md⟩:=q
 have mf:sW w U dA [.blk ai 99 ([.slice am x26.Bout.Shots.length au,.slice ap x26.Bout.Down.length az,.slice aq x26.Bout.Across.length aU,.map (some ab)] ++ ((hH KL.encI x26.hits.l) ++ ((hH KL.encI x26.used.l) ++ (hH KL.encT x26.met.l)))),.obj ab (.map aW aV),.blk b2 26 B0] dH:=md
 have lx:FnOK Try.prog dA (.func (.func 81) #[] #[]) wJk wMG wBF:=⟨81,[],[],rfl,Try.call81,fun U1 w1 x y vs le hs ha hm=>by obtain rfl:=ha;exact wEE x w1 U1 hs  hm⟩
 refine bnK oU fun qW j6 oW=>zP 0 Z Z Z (zI Z Z (congrArg nA bL.out)) (zN Z Z Try.call79 (zC Z (zC Z zU)) Z) mf (fun hs=>wBh dk bh bi wBF (.func (.func 81) #[] #[]) dH dA hs pf lx j6) (.inr Z) ?_
 rintro eQ pL qM gG qw mg ⟨rfl,rfl⟩
 have mh:sW w U eQ [.blk ai 99 ([.slice am x26.Bout.Shots.length au,.slice ap x26.Bout.Down.length az,.slice aq x26.Bout.Across.length aU,.map (some ab)] ++ ((hH KL.encI x26.hits.l) ++ ((hH KL.encI x26.used.l) ++ (hH KL.encT x26.met.l)))),.obj ab (.map aW aV),.blk b2 26 B0] gG:=mg
 refine oR Z (zS Z (congrArg nA bL.out) Z) (oA Z Z (oA Z Z (eN (zR ?_))))
 cases oW
 exact ⟨rfl,_,(wDZ rfl rfl),eQ,_,(mh.pick [] _ (by decide) rfl),rfl,rfl⟩
 intro bL oX
 refine zE Z Z Z (zQ Z Z (congrArg nA (nB.2 bL.out)) Z) (ZS Z Z Z (zQ Z Z (congrArg nA (nB.2 bL.out)) Z) (oR Z (zY Z (congrArg nA (nB.2 bL.out)) Z) (oA Z Z (oA Z Z (eN (zR ?_))))))
 cases oX
 exact ⟨rfl,_,(wDZ rfl rfl),eP,_,(fQ.pick [] _ (by decide) rfl),rfl,rfl⟩
 intro dJ oY
 refine zp (nF (dJ.out)) (sR fL2 Z (oA Z Z (oA Z Z (eN (zR (zX (zJ ?_)))))))
 cases oY
 exact ⟨rfl,_,(wDZ rfl rfl),dv,_,(fM.pick [] _ (by decide) rfl),rfl,rfl⟩
 intro bp o0
 refine oT Z bp (oT Z bp (ZS Z Z Z (zQ Z Z (ZO bp.out) Z) (oT Z bp (oR Z (zS Z (ZO bp.out) Z) (oA Z Z (eN (zp Z (sR fL2 Z (oA Z Z (oA Z Z (eN (zR (zX (zJ ?_))))))))))))))
 cases o0
 exact ⟨rfl,_,(wDZ rfl rfl),U9,_,(cN.pick [] _ (by decide) rfl),rfl,rfl⟩
 intro dI o5
 refine cT Z dI (sR fL3 Z (oM Z Z (oA Z Z (oA Z Z (eN (zR (zX (zJ ?_))))))))
 cases o5
 exact ⟨rfl,_,(wDZ rfl rfl),U9,_,(cN.pick [] _ (by decide) rfl),rfl,rfl⟩
end Go.Proofs.Ytfcmijinklojbaa
namespace Go.Proofs.Ytfcmijinklojbaa
open Go.KL
set_option maxHeartbeats 4000000
theorem wCr {S E:Type} (PY:S->PHeap->List Res->Prop) (PE:E->PHeap->List Res->Prop) (f:S->Int->Option (S ⊕ E)) (y:Nat) (s0:S) (p1:wAE) (bz:Nat) (ai:Nat) (bj:Option Addr) (bn:Nat) (az:Option Addr) (aU:Nat) (bk:Option Addr) (bo:Nat) (bq:Nat) (bp:Array MapEntry) (bA:Nat) (p2:Unit) (bl:Nat) (p3:Int) (bm:Nat) (w:World) (L:List Res) (U:PHeap) (hS:St ⟨w,L,U⟩ U L w) (hP:PY s0 U L) (hY:YOK Try.prog y wJk PY PE f U) (hV:∀ s_ U_ L_,PY s_ U_ L_->∃ (i_ j_:Nat) (a0_:Arr Int 64) (a1_:Arr Int 8) (a2_:Arr Bool 16),L_[i_]?=some (.blk ai 99 ([.slice bj p1.Bout.Shots.length bn,.slice az p1.Bout.Down.length aU,.slice bk p1.Bout.Across.length bo,.map (some bq)] ++ ((hH KL.encI a0_.l) ++ ((hH KL.encI a1_.l) ++ (hH KL.encT a2_.l)))))/\L_[j_]?=some (.obj bq (.map bp bA))) (bZ:Cl U bz 0 [.pointer (some ⟨ai,0,none⟩)]) (b5:Sl U 1 bj bn p1.Bout.Shots.length (hH KL.encI p1.Bout.Shots)) (b9:Sl U 1 az aU p1.Bout.Down.length (hH KL.encI p1.Bout.Down)) (cd:Sl U 2 bk bo p1.Bout.Across.length (hH wAB p1.Bout.Across)) (cf:MpR bp wGl wHL p1.may) (cg:Cl U bl 0 [.func (.func 78) #[.pointer (some ⟨ai,0,none⟩)] #[]]) (ci:Cl U bm 0 [jV p3]) {r:S ⊕ E} (hm:wAU f s0 p1 p2 p3=some r):Gv Try.prog 83 [.func (.yield y) #[] #[],.pointer (some ⟨bz,0,none⟩),.pointer (some ⟨bl,0,none⟩),.pointer (some ⟨bm,0,none⟩)] w (ItS w L U PY PE r):=by
 unfold wAU at hm
 refine Gv.of Try.func83 Z Try.ntmps83 Try.results83 Z (sR fL7 Z (oL Z (hS.ldC (f:=0) bZ (v:=.pointer (some ⟨ai,0,none⟩)) Z Z ZD Z) (oR Z (zl Z Z) (oR Z (zK Z Z zV Z zj) (oR Z (zK Z Z zF Z zW) ?_)))))
 have q:=hV _ _ _ hP
 obtain ⟨i2,j3,a6,a7,a8,cq,cS⟩:=q
 refine oL Z (hS.ldB (j:=i2) cq Z Z ze (v:=.slice az p1.Bout.Down.length aU) Z) (oR Z (zt Z Z zA) (oM Z Z (eN (zd ?_))))
 have q:=wCT hm
 obtain ⟨cW,bf⟩:=q
 have q:=wCS bf
 obtain ⟨bi,cp⟩:=q
 replace bi:=zL bi
 refine Zm (fun ah bC σ_ w_=>∃ (U_:PHeap) (aj:List Res),σ_ 12=jV (↑ah:Int)/\σ_ 0=.func (.yield y) #[] #[]/\σ_ 2=.pointer (some ⟨bl,0,none⟩)/\σ_ 3=.pointer (some ⟨bm,0,none⟩)/\σ_ 11=jV (↑p1.Bout.Down.length:Int)/\PHeap.Le U U_/\St ⟨w,L,U⟩ U_ aj w_/\PY bC U_ aj) cp ?_ ?_ ?_
 exact ⟨U,L,Z,Z,Z,Z,Z,(zo _),hS,hP⟩
 rintro ah bC cX cZ bE bh ⟨aW,aj,am,aX,aY,aZ,ba,ae,be,bb⟩ cA cj
 have bs:Hid ((↑ah:Int) < (↑p1.Bout.Down.length:Int)):=zL (wBm bh)
 replace bh:=zL bh
 have bv:Hid (w64 ((↑ah:Int) + 1)=(↑(ah + 1):Int)):=zL (by have h1:=bi.out;have h2:=bs.out;rw [wAY] <;> omega)
 refine sR fL1 Z (oR Z (zg Z am ba) (eN (zG (cT Z bs (kN (zG (zd (sR fL2 Z (oM Z am (oA Z Z (eN (sR (wDt (.fx 3 (wPa (.fx 7 gAg .stop)) .stop)) Z ?_))))))))))))
 have bO:=cg.le ae
 refine oL Z (be.ldC (f:=0) bO (v:=.func (.func 78) #[.pointer (some ⟨ai,0,none⟩)] #[]) Z aY Try.isAgg131 Z) ?_
 have bP:=ci.le ae
 refine oL Z (be.ldC (f:=0) bP (v:=jV p3) Z aZ zH Z) (oM Z Z ?_)
 have q:=hV _ _ _ bb
 obtain ⟨cB,cC,bG,bH,bI,bg,bw⟩:=q
 have bQ:=b5.le ae
 have bR:=b9.le ae
 have bS:=cd.le ae
 refine bnK cA fun x55 bT ct=>OKS.callP (i1:=cB) (i2:=cC) (v0:=.bool x55) rfl rfl rfl rfl (zN rfl rfl Try.call78 (zC rfl (zC rfl zU)) rfl) be bg bw (fun e=>by rw [e,bw] at bg;cases bg) (fun hs=>wCF (⟨p1.Bout,p1.may,bG,bH,bI⟩:wAE) ai bj bn az aU bk bo bq bp bA p3 (↑ah:Int) bE aW hs bQ bR bS cf bT) rfl ?_
 intro bF bV
 have bt:St ⟨w,L,U⟩ aW aj bF:=bV
 refine oM Z Z (ifc ct ?_ ?_)
 intro ab cu
 refine zZ Z Z Z (zI Z Z (congrArg nA ab.out)) Z aX (zZ Z Z Z (zI Z Z (congrArg nA ab.out)) Z Z (bnK cu fun cI bU aq=>OKS.yieldT 0 (a:=(↑ah:Int)) Z Z Z (zI Z Z (congrArg nA ab.out)) Z Z (zC Z zU) bt hY ae bb Z bU Z ?_))
 rintro ak aV cO br cD bu ap
 rcases cI with cG | cG
 try dsimp only at aq ap
 obtain ⟨rfl,cy⟩:=ap
 have bW:St ⟨w,L,U⟩ ak aV br:=bu
 refine zO Z Z Z (zI Z Z (congrArg nA ab.out)) (fun _=>ZC Z Z) (oR Z (zS Z (congrArg nA ab.out) Z) (eN (zi Z (ZN (zk (zM (rR fL2 Z (oR Z (ZB (zh Z am Z) (congrArg (jV) bv.out)) (oM Z Z (ZA ?_))))))))))
 have q:=nD aq
 obtain rfl:=q
 exact zM ⟨Z,_,Z,⟨ak,aV,Z,aX,aY,aZ,ba,(ae.trans cD),bW,cy⟩⟩
 try dsimp only at aq ap
 obtain ⟨rfl,cz⟩:=ap
 have bX:St ⟨w,L,U⟩ ak aV br:=bu
 refine zO Z Z Z (zI Z Z (congrArg nA ab.out)) (fun _=>ZC Z Z) (oR Z (zS Z (congrArg nA ab.out) Z) (eN (zp Z (zR (zX (zJ ?_))))))
 have q:=wAc aq
 obtain ⟨cH,cw,bK⟩:=q
 have q:=wBi hm bf (cj cH bK)
 obtain rfl:=q
 refine zJ (zX ?_)
 cases cw
 exact ⟨Z,_,(res0),ak,_,bX,cz⟩
 intro ab cx
 refine zE Z Z Z (zQ Z Z (congrArg nA (nB.2 ab.out)) Z) (zE Z Z Z (zQ Z Z (congrArg nA (nB.2 ab.out)) Z) (ZS Z Z Z (zQ Z Z (congrArg nA (nB.2 ab.out)) Z) (zE Z Z Z (zQ Z Z (congrArg nA (nB.2 ab.out)) Z) (oR Z (zY Z (congrArg nA (nB.2 ab.out)) Z) (eN (zi Z (ZN (zk (zM (rR fL2 Z (oR Z (ZB (zh Z am Z) (congrArg (jV) bv.out)) (oM Z Z (ZA ?_)))))))))))))
 have q:=nD cx
 obtain rfl:=q
 exact zM ⟨Z,_,Z,⟨aW,aj,Z,aX,aY,aZ,ba,ae,bt,bb⟩⟩
 rintro cY da cK ⟨bD,cJ,bM,cP,cQ,cR,bL,cV,bY,bN⟩ cn
 have cr:=wCw hm bf cn
 have bJ:Hid (¬ ((↑(((↑p1.Bout.Down.length:Int):Int) - 0).toNat:Int) < (↑p1.Bout.Down.length:Int))):=zL (wBK)
 refine sR fL1 Z (oR Z (zg Z bM bL) (eN (zG (cF Z bJ (ZM (zn (zn (ZE ?_))))))))
 cases cr
 exact ⟨Z,_,(res0),bD,_,bY,bN⟩
theorem wDC (p0:Unit) (aj:Nat) (p1:Int) (w:World) (U:PHeap) (hS:St0 w U [])  {r:Unit} (hm:wAo p0 p1=some r):Gv Try.prog 43 [.pointer (some ⟨aj,0,none⟩),jV p1] w (wCg w [] U (fun U_ L_ v=>∃ (b0:Nat) (b1:Nat) (b2:Nat),v=.func (.func 83) #[] #[.pointer (some ⟨b0,0,none⟩),.pointer (some ⟨b1,0,none⟩),.pointer (some ⟨b2,0,none⟩)]/\L_=[]/\Cl U_ b0 0 [.pointer (some ⟨aj,0,none⟩)]/\Cl U_ b1 0 [.func (.func 78) #[.pointer (some ⟨aj,0,none⟩)] #[]]/\Cl U_ b2 0 [jV p1])):=by
 unfold wAo at hm
 refine Gv.of Try.func43 Z Try.ntmps43 Try.results43 Z (sR gAo Z ?_)
 let B0:List Value:=[.pointer (some ⟨aj,0,none⟩)]
 refine ZT (cs:=B0) rfl rfl rfl rfl rfl rfl (by rfl) hS ?_
 intro W1 b2 bm
 have q:=bm.freeze (k:=0) rfl
 obtain ⟨U5,bu,ah,bp⟩:=q
 replace ah:=Cl.of ah
 have bq:sW w U U5 [] W1:=bp
 replace ah:Cl U5 b2 0 B0:=ah
 refine ZT (cs:=[jV p1]) rfl rfl rfl rfl rfl rfl (by rfl) bq ?_
 intro be aX bh
 have q:=bh.freeze (k:=0) rfl
 obtain ⟨ap,br,ab,bi⟩:=q
 replace ab:=Cl.of ab
 have aZ:sW w U ap [] be:=bi
 replace ab:Cl ap aX 0 [jV p1]:=ab
 refine oA Z Z (eN (sR gAs Z ?_))
 have aY:=ah.le br
 refine oL Z (aZ.ldC (f:=0) aY (v:=.pointer (some ⟨aj,0,none⟩)) Z Z ZD Z) (oR Z (Runs.mkf Z (zC Z zU) zU) (ZR (cs:=[.nilFunc]) Z Z Z Z Z Try.zeroValue131 Z aZ ?_))
 intro bt au bj
 let B1:List Value:=[.func (.func 78) B0.toArray #[]]
 refine ZG (j:=0) (vs:=B1) Z Z Z Z bj Z Z Z Z Try.sizeOf131 (zD Z) Z Z Z ?_
 intro aU bk
 have bl:sW w U ap [.blk au 131 B1] aU:=bk
 refine eN (sR fL2 Z ?_)
 have q:=bl.freeze (k:=0) rfl
 obtain ⟨aq,ba,ae,bn⟩:=q
 replace ae:=Cl.of ae
 have bo:sW w U aq [] aU:=bn
 replace ae:Cl aq au 0 B1:=ae
 refine oR Z (Runs.mkf Z zU (zC Z (zC Z (zC Z zU)))) (oA Z Z (eN (zR ?_)))
 have bf:=aY.le ba
 have bg:=ab.le ba
 cases hm
 exact ⟨Z,_,(zz Z),aq,_,bo,b2,au,aX,Z,Z,bf,ae,bg⟩
theorem wEF (n_:Nat):∀ (p0:Int) (p1:wAE) (bn:Nat) (ah:Nat) (ai:Option Addr) (aj:Nat) (ak:Option Addr) (ap:Nat) (am:Option Addr) (aq:Nat) (ae:Nat) (au:Array MapEntry) (az:Nat) (p2:Unit) (bw:Nat) (w:World) (U:PHeap) (hS:St0 w U [.blk ah 99 ([.slice ai p1.Bout.Shots.length aj,.slice ak p1.Bout.Down.length ap,.slice am p1.Bout.Across.length aq,.map (some ae)] ++ ((hH KL.encI p1.hits.l) ++ ((hH KL.encI p1.used.l) ++ (hH KL.encT p1.met.l)))),.obj ae (.map au az)]) (cf:Cl U bn 0 [.pointer (some ⟨ah,0,none⟩)]) (dQ:Sl U 1 ai aj p1.Bout.Shots.length (hH KL.encI p1.Bout.Shots)) (dR:Sl U 1 ak ap p1.Bout.Down.length (hH KL.encI p1.Bout.Down)) (dS:Sl U 2 am aq p1.Bout.Across.length (hH wAB p1.Bout.Across)) (cg:MpR au wGl wHL p1.may) (dT:Cl U bw 0 [.func (.func 84) #[] #[.pointer (some ⟨bn,0,none⟩),.pointer (some ⟨bw,0,none⟩)]]) {r:Bool × (Arr Int 64 × Arr Int 8 × Arr Bool 16)} (hm:wAQ n_ p0 p1 p2=some r),Gv Try.prog 84 [jV p0,.pointer (some ⟨bn,0,none⟩),.pointer (some ⟨bw,0,none⟩)] w (wCg w [.blk ah 99 ([.slice ai p1.Bout.Shots.length aj,.slice ak p1.Bout.Down.length ap,.slice am p1.Bout.Across.length aq,.map (some ae)] ++ ((hH KL.encI p1.hits.l) ++ ((hH KL.encI p1.used.l) ++ (hH KL.encT p1.met.l)))),.obj ae (.map au az)] U (fun U_ L_ v=>v=.bool r.1/\L_=[.blk ah 99 ([.slice ai p1.Bout.Shots.length aj,.slice ak p1.Bout.Down.length ap,.slice am p1.Bout.Across.length aq,.map (some ae)] ++ ((hH KL.encI r.2.1.l) ++ ((hH KL.encI r.2.2.1.l) ++ (hH KL.encT r.2.2.2.l)))),.obj ae (.map au az)])):=by
 induction n_ with
 | zero =>
  intros
  rename_i hm
  have gT:(none:Option (Bool × (Arr Int 64 × Arr Int 8 × Arr Bool 16)))=some _:=hm
  cases gT
 | succ n_ ih =>
  intro p0 p1 bn ah ai aj ak ap am aq ae au az p2 bw w U hS cf dQ dR dS cg dT r hm
  have hm:wBG (wAQ n_) p0 p1 p2=some r:=hm
  unfold wBG at hm
  refine Go.KX.Gv.ofM Try.func84 Z Try.ntmps84 Try.results84 (zD Z) ?_
  have fN:=hS.mks0
  refine sR (.fx 0 (.fx 1 .nil .stop) .stop) rfl (ZT (cs:=[jV p0]) rfl rfl rfl rfl rfl rfl (by rfl) fN ?_)
  intro W5 b6 gx
  refine ZR (cs:=[.bool false]) Z Z Z Z Z Try.zeroValue4 Z gx ?_
  intro W9 bo fA
  refine eN (zG (ZI ZJ [1,1,3,3,3,3,0] (wJL (.fx 6 .nil .stop)) (by kernel_rfl) ?_))
  have b5:=fA.drew
  generalize hw_W14:({ W9 with drawn:=W9.drawn + 1 }:World)=iE at b5 ⊢
  refine zm rfl rfl rfl rfl (b5.ldC (f:=0) cf (v:=.pointer (some ⟨ah,0,none⟩)) rfl rfl ZD rfl) rfl (zm rfl rfl rfl rfl (b5.ldB (j:=1) rfl rfl rfl zH (v:=jV p0) rfl) rfl (zO rfl rfl rfl rfl (fun _=>zl rfl rfl) (zO rfl rfl rfl rfl (fun _=>zK rfl rfl zV rfl Try.sizeOf97) (zO rfl rfl rfl rfl (fun _=>ZB (ZQ rfl rfl rfl Try.runUnderlying97 Try.sizeOf96 (by decide) (by decide)) rfl) (bnK hm fun _ bj ci=>zO rfl rfl rfl rfl (fun _=>ZQ rfl rfl rfl Try.runUnderlying96 Zl (wBB bj) (wBC bj)) ?_)))))
  have gL:=Arr.at_ p1.met (k:=(8 + p0.toNat)) (by have hz0:=wAI bj;omega)
  refine ZG (j:=3) (vs:=[.bool true]) (cs':=[.slice ai p1.Bout.Shots.length aj,.slice ak p1.Bout.Down.length ap,.slice am p1.Bout.Across.length aq,.map (some ae)] ++ ((hH KL.encI p1.hits.l) ++ ((hH KL.encI p1.used.l) ++ (hH KL.encT (p1.met.set (8 + p0.toNat) true).l)))) rfl rfl rfl rfl b5 rfl ((rfl:ev _ _=.pointer (some ⟨ah,84 + p0.toNat * 1,none⟩)).trans (wDK (by omega))) rfl rfl Zl (by have hz0:=wAI bj;simp only [nM,nO,nQ,wAP (f:=KL.encI) (sz:=1) (N:=64) p1.hits (fun _=>rfl) rfl,wAP (f:=KL.encI) (sz:=1) (N:=8) p1.used (fun _=>rfl) rfl,wAP (f:=KL.encT) (sz:=1) (N:=16) p1.met (fun _=>rfl) rfl];omega) rfl (wBy (n:=4) rfl (wBy (n:=64) (wAP (f:=KL.encI) (sz:=1) (N:=64) p1.hits (fun _=>rfl) rfl) (wBy (n:=8) (wAP (f:=KL.encI) (sz:=1) (N:=8) p1.used (fun _=>rfl) rfl) (wPq (sz:=1) (fo:=0) (fun _=>rfl) _ _ _ _ gL (zD rfl) rfl)))) rfl ?_
  intro eu fM
  let B0:Res:=.blk b6 3 [jV p0]
  let B1:Res:=.blk bo 4 [.bool false]
  have cQ:SW w [.blk ah 99 ([.slice ai p1.Bout.Shots.length aj,.slice ak p1.Bout.Down.length ap,.slice am p1.Bout.Across.length aq,.map (some ae)] ++ ((hH KL.encI p1.hits.l) ++ ((hH KL.encI p1.used.l) ++ (hH KL.encT p1.met.l)))),.obj ae (.map au az)] U U [B1,B0,mks [],.blk ah 99 ([.slice ai p1.Bout.Shots.length aj,.slice ak p1.Bout.Down.length ap,.slice am p1.Bout.Across.length aq,.map (some ae)] ++ ((hH KL.encI p1.hits.l) ++ ((hH KL.encI p1.used.l) ++ (hH KL.encT (p1.met.set (8 + p0.toNat) true).l)))),.obj ae (.map au az)] eu:=fM
  refine eN (zG (sR fL7 Z (oL Z (cQ.ldC (f:=0) cf (v:=.pointer (some ⟨ah,0,none⟩)) Z Z ZD Z) (oR Z (zl Z Z) (oR Z (zK Z Z zV Z zj) (oR Z (zK Z Z zF Z zW) (oL Z (cQ.ldB (j:=3) Z Z Z ze (v:=.slice ai p1.Bout.Shots.length aj) Z) (oR Z (zt Z Z zA) (oM Z Z (eN (zd ?_)))))))))))
  have q:=wCT ci
  obtain ⟨iX,cd⟩:=q
  have q:=wCS cd
  obtain ⟨cV,gE⟩:=q
  replace cV:=zL cV
  refine CK.forND (fun ab (aZ,aX,bh) D_ σ_ w_=>∃ (U_:PHeap) (be:List Nat),D_=List.map Go.KX.mark be/\σ_ 19=jV (↑ab:Int)/\σ_ 1=.pointer (some ⟨bn,0,none⟩)/\σ_ 2=.pointer (some ⟨bw,0,none⟩)/\σ_ 3=.pointer (some ⟨b6,0,none⟩)/\σ_ 4=.pointer (some ⟨bo,0,none⟩)/\σ_ 18=jV (↑p1.Bout.Shots.length:Int)/\PHeap.Le U U_/\SW w [.blk ah 99 ([.slice ai p1.Bout.Shots.length aj,.slice ak p1.Bout.Down.length ap,.slice am p1.Bout.Across.length aq,.map (some ae)] ++ ((hH KL.encI p1.hits.l) ++ ((hH KL.encI p1.used.l) ++ (hH KL.encT p1.met.l)))),.obj ae (.map au az)] U U_ [B1,B0,mks be,.blk ah 99 ([.slice ai p1.Bout.Shots.length aj,.slice ak p1.Bout.Down.length ap,.slice am p1.Bout.Across.length aq,.map (some ae)] ++ ((hH KL.encI aZ.l) ++ ((hH KL.encI aX.l) ++ (hH KL.encT bh.l)))),.obj ae (.map au az)] w_) gE ?_ ?_ ?_
  ·exact ⟨U,[],Z,Z,Z,Z,Z,Z,Z,(zo _),cQ⟩
  ·rintro ab ⟨aZ,aX,bh⟩ i7 D_ i8 iH cU ⟨bW,be,rfl,bO,bp,cN,bN,bY,bZ,bB,gp⟩ d7 dU
   try dsimp only at d7
   have dm:Hid ((↑ab:Int) < (↑p1.Bout.Shots.length:Int)):=zL (wBm cU)
   replace cU:=zL cU
   have cS:Hid (w64 ((↑ab:Int) + 1)=(↑(ab + 1):Int)):=zL (by have h1:=cV.out;have h2:=dm.out;rw [wAY] <;> omega)
   refine sR fL1 Z (oR Z (zg Z bO bZ) (eN (zG (cT Z dm (kN (zG (zd (sR (.fl 0 (.fx 1 (.fx 2 .nil .stop) .stop)) Z (oM Z bO (ZR (cs:=[jV 0]) Z Z Z Z Z Ze Z gp ?_))))))))))
   intro iK bb gu
   let B2:List Value:=[jV (↑ab:Int)]
   refine ZG (j:=0) (vs:=B2) Z Z Z Z gu Z Z Z Z zB (zD Z) Z Z Z ?_
   intro cE gv
   have gw:SW w [.blk ah 99 ([.slice ai p1.Bout.Shots.length aj,.slice ak p1.Bout.Down.length ap,.slice am p1.Bout.Across.length aq,.map (some ae)] ++ ((hH KL.encI p1.hits.l) ++ ((hH KL.encI p1.used.l) ++ (hH KL.encT p1.met.l)))),.obj ae (.map au az)] U bW [.blk bb 3 B2,B1,B0,mks be,.blk ah 99 ([.slice ai p1.Bout.Shots.length aj,.slice ak p1.Bout.Down.length ap,.slice am p1.Bout.Across.length aq,.map (some ae)] ++ ((hH KL.encI aZ.l) ++ ((hH KL.encI aX.l) ++ (hH KL.encT bh.l)))),.obj ae (.map au az)] cE:=gv
   refine eN (zG (zG (ZI ZJ [1,1,3,3,3,3,1,3,1,1,1,0,3,3] (wOE (.fx 11 (.fl 12 (.fl 13 .nil)) .stop)) (by kernel_rfl) ?_)))
   have bu:=gw.drew
   generalize hw_W69:({ cE with drawn:=cE.drawn + 1 }:World)=de at bu ⊢
   have cP:=cf.le bB
   refine zm rfl rfl rfl rfl (bu.ldC (f:=0) cP (v:=.pointer (some ⟨ah,0,none⟩)) rfl bp ZD rfl) rfl (zm rfl rfl rfl rfl (bu.ldB (j:=0) rfl rfl rfl zH (v:=jV (↑ab:Int)) rfl) rfl (zO rfl rfl rfl rfl (fun _=>zl rfl rfl) (zO rfl rfl rfl rfl (fun _=>zK rfl rfl zV rfl Try.sizeOf97) (zO rfl rfl rfl rfl (fun _=>ZB (ZQ rfl rfl rfl Try.runUnderlying97 Try.sizeOf96 (by decide) (by decide)) rfl) (bnK d7 fun _ aW ii=>zO rfl rfl rfl rfl (fun _=>ZQ rfl rfl rfl Try.runUnderlying96 Zl (wBB aW) (wBC aW)) ?_)))))
   have gR:=Arr.at_ bh (k:=ab) (by have hz0:=wAI aW;omega)
   refine zm rfl rfl rfl rfl (bu.ldB (j:=4) rfl rfl ((rfl:ev _ _=.pointer (some ⟨ah,76 + ab * 1,none⟩)).trans (wDK (by omega))) Try.isAgg4 (wDJ (n:=4) rfl (wDJ (n:=64) (wAP (f:=KL.encI) (sz:=1) (N:=64) aZ (fun _=>rfl) rfl) (wDJ (n:=8) (wAP (f:=KL.encI) (sz:=1) (N:=8) aX (fun _=>rfl) rfl) (wPp (sz:=1) (fun _=>rfl) _ _ 0 _ gR rfl))))) rfl (zZ rfl rfl rfl rfl rfl rfl (ifc ii ?_ ?_))
   ·intro bk ij
    refine zE Z Z Z (zQ Z Z (congrArg nA bk.out) Z) (zE Z Z Z (zQ Z Z (congrArg nA bk.out) Z) (zE Z Z Z (zQ Z Z (congrArg nA bk.out) Z) (ZS Z Z Z (zQ Z Z (congrArg nA bk.out) Z) (zE Z Z Z (zQ Z Z (congrArg nA bk.out) Z) (oR Z (zS Z (congrArg nA bk.out) Z) (eN (zp Z (ZM (zn (ZE (zM (rR fL2 Z (oR Z (ZB (zh Z bO Z) (congrArg (jV) cS.out)) (oM Z Z (ZA ?_)))))))))))))))
    have q:=nD ij
    obtain rfl:=q
    exact zM ⟨_,rfl,⟨bW,be,rfl,rfl,bp,cN,bN,bY,bZ,bB,(bu.pick [1,2,3,4,5] _ (by decide) rfl)⟩⟩
   ·intro bk ik
    refine zm Z Z Z (zI Z Z (congrArg nA (nB.2 bk.out))) (bu.ldC (f:=0) cP (v:=.pointer (some ⟨ah,0,none⟩)) Z bp ZD Z) Z (zm Z Z Z (zI Z Z (congrArg nA (nB.2 bk.out))) (bu.ldB (j:=0) Z Z Z zH (v:=jV (↑ab:Int)) Z) Z (zm Z Z Z (zI Z Z (congrArg nA (nB.2 bk.out))) (bu.ldB (j:=2) Z Z bN zH (v:=jV p0) Z) Z ?_))
    have dH:=dQ.le bB
    have dI:=dR.le bB
    have dJ:=dS.le bB
    refine bnK ik fun x84 fj il=>?_
    have gy:SW w [.blk ah 99 ([.slice ai p1.Bout.Shots.length aj,.slice ak p1.Bout.Down.length ap,.slice am p1.Bout.Across.length aq,.map (some ae)] ++ ((hH KL.encI p1.hits.l) ++ ((hH KL.encI p1.used.l) ++ (hH KL.encT p1.met.l)))),.obj ae (.map au az)] U bW [.blk ah 99 ([.slice ai p1.Bout.Shots.length aj,.slice ak p1.Bout.Down.length ap,.slice am p1.Bout.Across.length aq,.map (some ae)] ++ ((hH KL.encI aZ.l) ++ ((hH KL.encI aX.l) ++ (hH KL.encT bh.l)))),.obj ae (.map au az),.blk bb 3 B2,B1,B0,mks be] de:=bu.pick [4,5,0,1,2,3] _ (by decide) rfl
    refine zP 2 Z Z Z (zI Z Z (congrArg nA (nB.2 bk.out))) (zN Z Z Try.call78 (zC Z (zC Z (zC Z zU))) Z) gy (fun hs=>wCF (⟨p1.Bout,p1.may,aZ,aX,bh⟩:wAE) ah ai aj ak ap am aq ae au az (↑ab:Int) p0 de bW hs dH dI dJ cg fj) (.inl Z) ?_
    rintro br iB i3 cG bG gz ⟨rfl,rfl⟩
    have dP:SW w [.blk ah 99 ([.slice ai p1.Bout.Shots.length aj,.slice ak p1.Bout.Down.length ap,.slice am p1.Bout.Across.length aq,.map (some ae)] ++ ((hH KL.encI p1.hits.l) ++ ((hH KL.encI p1.used.l) ++ (hH KL.encT p1.met.l)))),.obj ae (.map au az)] U br [.blk ah 99 ([.slice ai p1.Bout.Shots.length aj,.slice ak p1.Bout.Down.length ap,.slice am p1.Bout.Across.length aq,.map (some ae)] ++ ((hH KL.encI aZ.l) ++ ((hH KL.encI aX.l) ++ (hH KL.encT bh.l)))),.obj ae (.map au az),.blk bb 3 B2,B1,B0,mks be] cG:=gz
    refine zO Z Z Z (zI Z Z (congrArg nA (nB.2 bk.out))) (fun _=>ZC Z Z) (oR Z (zY Z (congrArg nA (nB.2 bk.out)) Z) (eN (ifc il ?_ ?_)))
    ·intro cJ im
     refine zi (nC cJ.out) (kN (zG (ZI ZJ [1,1,3,3,3,3,0] (wJL (.fx 6 .nil .stop)) (by kernel_rfl) ?_)))
     have b9:=dP.drew
     generalize hw_W98:({ cG with drawn:=cG.drawn + 1 }:World)=iL at b9 ⊢
     have bE:=cP.le bG
     refine zm rfl rfl rfl rfl (b9.ldC (f:=0) bE (v:=.pointer (some ⟨ah,0,none⟩)) rfl bp ZD rfl) rfl (zm rfl rfl rfl rfl (b9.ldB (j:=2) rfl rfl rfl zH (v:=jV (↑ab:Int)) rfl) rfl (zO rfl rfl rfl rfl (fun _=>zl rfl rfl) (zO rfl rfl rfl rfl (fun _=>zK rfl rfl zV rfl Try.sizeOf97) (zO rfl rfl rfl rfl (fun _=>ZB (ZQ rfl rfl rfl Try.runUnderlying97 Try.sizeOf96 (by decide) (by decide)) rfl) (zO rfl rfl rfl rfl (fun _=>ZQ rfl rfl rfl Try.runUnderlying96 Zl (wBB aW) (wBC aW)) ?_)))))
     have gF:=Arr.at_ bh (k:=ab) (by have hz0:=wAI aW;omega)
     refine ZG (j:=0) (vs:=[.bool true]) (cs':=[.slice ai p1.Bout.Shots.length aj,.slice ak p1.Bout.Down.length ap,.slice am p1.Bout.Across.length aq,.map (some ae)] ++ ((hH KL.encI aZ.l) ++ ((hH KL.encI aX.l) ++ (hH KL.encT (bh.set ab true).l)))) rfl rfl rfl rfl b9 rfl ((rfl:ev _ _=.pointer (some ⟨ah,76 + ab * 1,none⟩)).trans (wDK (by omega))) rfl rfl Zl (by have hz0:=wAI aW;simp only [nM,nO,nQ,wAP (f:=KL.encI) (sz:=1) (N:=64) aZ (fun _=>rfl) rfl,wAP (f:=KL.encI) (sz:=1) (N:=8) aX (fun _=>rfl) rfl,wAP (f:=KL.encT) (sz:=1) (N:=16) bh (fun _=>rfl) rfl];omega) rfl (wBy (n:=4) rfl (wBy (n:=64) (wAP (f:=KL.encI) (sz:=1) (N:=64) aZ (fun _=>rfl) rfl) (wBy (n:=8) (wAP (f:=KL.encI) (sz:=1) (N:=8) aX (fun _=>rfl) rfl) (wPq (sz:=1) (fo:=0) (fun _=>rfl) _ _ _ _ gF (zD rfl) rfl)))) rfl ?_
     intro cy fy
     have fz:SW w [.blk ah 99 ([.slice ai p1.Bout.Shots.length aj,.slice ak p1.Bout.Down.length ap,.slice am p1.Bout.Across.length aq,.map (some ae)] ++ ((hH KL.encI p1.hits.l) ++ ((hH KL.encI p1.used.l) ++ (hH KL.encT p1.met.l)))),.obj ae (.map au az)] U br [.blk ah 99 ([.slice ai p1.Bout.Shots.length aj,.slice ak p1.Bout.Down.length ap,.slice am p1.Bout.Across.length aq,.map (some ae)] ++ ((hH KL.encI aZ.l) ++ ((hH KL.encI aX.l) ++ (hH KL.encT (bh.set ab true).l)))),.obj ae (.map au az),.blk bb 3 B2,B1,B0,mks be] cy:=fy
     refine eN (zG (zG (ZI ZJ [1,1,3,3,3,1,1,3,3,3,1,1,3,1,3] fL15 (by kernel_rfl) ?_)))
     have bl:=fz.drew
     generalize hw_W105:({ cy with drawn:=cy.drawn + 1 }:World)=cz at bl ⊢
     refine oL Z (bl.ldC (f:=0) bE (v:=.pointer (some ⟨ah,0,none⟩)) Z bp ZD Z) (oL Z (bl.ldB (j:=2) Z Z Z zH (v:=jV (↑ab:Int)) Z) (oR Z (zl Z Z) (oR Z (zK Z Z zV Z Zh) (oR Z (ZQ Z Z Z ZP zB (wBB aW) (wBC aW)) ?_))))
     have gG:=Arr.at_ aX (k:=ab) (by have hz0:=wAI aW;omega)
     refine zm rfl rfl rfl rfl (bl.ldB (j:=0) rfl rfl ((rfl:ev _ _=.pointer (some ⟨ah,68 + ab * 1,none⟩)).trans (wDK (by omega))) zH (wDJ (n:=4) rfl (wDJ (n:=64) (wAP (f:=KL.encI) (sz:=1) (N:=64) aZ (fun _=>rfl) rfl) (wGy (sz:=1) (fun _=>rfl) _ _ 0 _ gG rfl)))) rfl (zm rfl rfl rfl rfl (bl.ldC (f:=0) bE (v:=.pointer (some ⟨ah,0,none⟩)) rfl bp ZD rfl) rfl (zO rfl rfl rfl rfl (fun _=>zl rfl rfl) (zO rfl rfl rfl rfl (fun _=>zK rfl rfl zV rfl zj) (zO rfl rfl rfl rfl (fun _=>zK rfl rfl zF rfl zW) (zm rfl rfl rfl rfl (bl.ldB (j:=0) rfl rfl rfl ze (v:=.slice ai p1.Bout.Shots.length aj) rfl) rfl (zm rfl rfl rfl rfl (bl.ldB (j:=2) rfl rfl rfl zH (v:=jV (↑ab:Int)) rfl) rfl (bnK im fun x107 dA gU=>?_)))))))
     have dB:=dH.le bG
     have q:=dB.el (fun _=>rfl) (wAx dA)
     obtain ⟨iM,iV,fm,fq⟩:=q
     refine oR Z (zu Z Z fm Z zA zB (wCA dA)) (oL Z (bl.ldC (f:=0) fq (v:=jV x107) Z Z zH Z) (oR Z (zg Z Z Z) (eN (ifc gU ?_ ?_))))
     ·intro cH gW
      refine cT Z cH (zG (Zf fun ct bR=>?_))
      have dp:ct 1=.pointer (some ⟨bn,0,none⟩):=(bR 1).trans bp
      have eH:ct 3=.pointer (some ⟨b6,0,none⟩):=(bR 3).trans bN
      have dq:ct 4=.pointer (some ⟨bo,0,none⟩):=(bR 4).trans bY
      have dr:ct 5=.pointer (some ⟨bb,0,none⟩):=(bR 5).trans rfl
      clear bR
      refine ZI ZJ [1,1,3,3,3,1,3,3,3,3,0] (wQi (.fx 10 .nil .stop)) (by kernel_rfl) ?_
      have bP:=bl.drew
      generalize hw_W124:({ cz with drawn:=cz.drawn + 1 }:World)=iC at bP ⊢
      refine oL Z (bP.ldC (f:=0) bE (v:=.pointer (some ⟨ah,0,none⟩)) Z dp ZD Z) (oL Z (bP.ldB (j:=2) Z Z dr zH (v:=jV (↑ab:Int)) Z) (oR Z (zl Z Z) (oR Z (zK Z Z zV Z Zh) (oR Z (ZQ Z Z Z ZP zB (wBB aW) (wBC aW)) ?_))))
      have gH:=Arr.at_ aX (k:=ab) (by have hz0:=wAI aW;omega)
      refine zm rfl rfl rfl rfl (bP.ldB (j:=0) rfl rfl ((rfl:ev _ _=.pointer (some ⟨ah,68 + ab * 1,none⟩)).trans (wDK (by omega))) zH (wDJ (n:=4) rfl (wDJ (n:=64) (wAP (f:=KL.encI) (sz:=1) (N:=64) aZ (fun _=>rfl) rfl) (wGy (sz:=1) (fun _=>rfl) _ _ 0 _ gH rfl)))) rfl (zO rfl rfl rfl rfl (fun _=>zh rfl rfl rfl) (zO rfl rfl rfl rfl (fun _=>zl rfl rfl) (zO rfl rfl rfl rfl (fun _=>zK rfl rfl zV rfl Zh) (zO rfl rfl rfl rfl (fun _=>ZQ rfl rfl rfl ZP zB (wBB aW) (wBC aW)) ?_))))
      have gI:=Arr.at_ aX (k:=ab) (by have hz0:=wAI aW;omega)
      refine ZG (j:=0) (vs:=[jV (w64 ((aX.get ab) + 1))]) (cs':=[.slice ai p1.Bout.Shots.length aj,.slice ak p1.Bout.Down.length ap,.slice am p1.Bout.Across.length aq,.map (some ae)] ++ ((hH KL.encI aZ.l) ++ ((hH KL.encI (aX.set ab (w64 ((aX.get ab) + 1))).l) ++ (hH KL.encT (bh.set ab true).l)))) rfl rfl rfl rfl bP rfl ((rfl:ev _ _=.pointer (some ⟨ah,68 + ab * 1,none⟩)).trans (wDK (by omega))) rfl rfl zB (by have hz0:=wAI aW;simp only [nM,nO,nQ,wAP (f:=KL.encI) (sz:=1) (N:=64) aZ (fun _=>rfl) rfl,wAP (f:=KL.encI) (sz:=1) (N:=8) aX (fun _=>rfl) rfl,wAP (f:=KL.encT) (sz:=1) (N:=16) (bh.set ab true) (fun _=>rfl) rfl];omega) rfl (wBy (n:=4) rfl (wBy (n:=64) (wAP (f:=KL.encI) (sz:=1) (N:=64) aZ (fun _=>rfl) rfl) (wJR (sz:=1) (fo:=0) (fun _=>rfl) _ _ _ _ gI (zD rfl) rfl))) rfl ?_
      intro cA fB
      have fC:SW w [.blk ah 99 ([.slice ai p1.Bout.Shots.length aj,.slice ak p1.Bout.Down.length ap,.slice am p1.Bout.Across.length aq,.map (some ae)] ++ ((hH KL.encI p1.hits.l) ++ ((hH KL.encI p1.used.l) ++ (hH KL.encT p1.met.l)))),.obj ae (.map au az)] U br [.blk ah 99 ([.slice ai p1.Bout.Shots.length aj,.slice ak p1.Bout.Down.length ap,.slice am p1.Bout.Across.length aq,.map (some ae)] ++ ((hH KL.encI aZ.l) ++ ((hH KL.encI (aX.set ab (w64 ((aX.get ab) + 1))).l) ++ (hH KL.encT (bh.set ab true).l)))),.obj ae (.map au az),.blk bb 3 B2,B1,B0,mks be] cA:=fB
      refine eN (zG (ZI ZJ [1,1,1,3,3,3,3,1,3,3,3,3,3,0] (wHP (.fx 13 .nil .stop)) (by kernel_rfl) ?_))
      have bI:=fC.drew
      generalize hw_W131:({ cA with drawn:=cA.drawn + 1 }:World)=iD at bI ⊢
      refine oL Z (bI.ldC (f:=0) bE (v:=.pointer (some ⟨ah,0,none⟩)) Z dp ZD Z) (oL Z (bI.ldB (j:=2) Z Z dr zH (v:=jV (↑ab:Int)) Z) (oL Z (bI.ldB (j:=4) Z Z eH zH (v:=jV p0) Z) (oR Z (zl Z Z) (oR Z (zK Z Z zV Z Zo) (oR Z (ZQ Z Z Z Za Zh (wBB aW) (wBC aW)) (oR Z (ZQ Z Z Z ZP zB (wBB bj) (wBC bj)) ?_))))))
      have gJ:=Arr.at_ aZ (k:=(ab * 8 + p0.toNat)) (by have hz0:=wAI aW;have hz1:=wAI bj;omega)
      refine zm rfl rfl rfl rfl (bI.ldB (j:=0) rfl rfl ((rfl:ev _ _=.pointer (some ⟨ah,4 + ab * 8 + p0.toNat * 1,none⟩)).trans (wDK (by omega))) zH (wDJ (n:=4) rfl (wGy (sz:=1) (fun _=>rfl) _ _ 0 _ gJ rfl))) rfl (zO rfl rfl rfl rfl (fun _=>zh rfl rfl rfl) (zO rfl rfl rfl rfl (fun _=>zl rfl rfl) (zO rfl rfl rfl rfl (fun _=>zK rfl rfl zV rfl Zo) (zO rfl rfl rfl rfl (fun _=>ZQ rfl rfl rfl Za Zh (wBB aW) (wBC aW)) (zO rfl rfl rfl rfl (fun _=>ZQ rfl rfl rfl ZP zB (wBB bj) (wBC bj)) ?_)))))
      have gK:=Arr.at_ aZ (k:=(ab * 8 + p0.toNat)) (by have hz0:=wAI aW;have hz1:=wAI bj;omega)
      refine ZG (j:=0) (vs:=[jV (w64 ((aZ.get (ab * 8 + p0.toNat)) + 1))]) (cs':=[.slice ai p1.Bout.Shots.length aj,.slice ak p1.Bout.Down.length ap,.slice am p1.Bout.Across.length aq,.map (some ae)] ++ ((hH KL.encI (aZ.set (ab * 8 + p0.toNat) (w64 ((aZ.get (ab * 8 + p0.toNat)) + 1))).l) ++ ((hH KL.encI (aX.set ab (w64 ((aX.get ab) + 1))).l) ++ (hH KL.encT (bh.set ab true).l)))) rfl rfl rfl rfl bI rfl ((rfl:ev _ _=.pointer (some ⟨ah,4 + ab * 8 + p0.toNat * 1,none⟩)).trans (wDK (by omega))) rfl rfl zB (by have hz0:=wAI aW;have hz1:=wAI bj;simp only [nM,nO,nQ,wAP (f:=KL.encI) (sz:=1) (N:=64) aZ (fun _=>rfl) rfl,wAP (f:=KL.encI) (sz:=1) (N:=8) (aX.set ab (w64 ((aX.get ab) + 1))) (fun _=>rfl) rfl,wAP (f:=KL.encT) (sz:=1) (N:=16) (bh.set ab true) (fun _=>rfl) rfl];omega) rfl (wBy (n:=4) rfl (wJR (sz:=1) (fo:=0) (fun _=>rfl) _ _ _ _ gK (zD rfl) rfl)) rfl ?_
      intro eh fD
      have fE:SW w [.blk ah 99 ([.slice ai p1.Bout.Shots.length aj,.slice ak p1.Bout.Down.length ap,.slice am p1.Bout.Across.length aq,.map (some ae)] ++ ((hH KL.encI p1.hits.l) ++ ((hH KL.encI p1.used.l) ++ (hH KL.encT p1.met.l)))),.obj ae (.map au az)] U br [.blk ah 99 ([.slice ai p1.Bout.Shots.length aj,.slice ak p1.Bout.Down.length ap,.slice am p1.Bout.Across.length aq,.map (some ae)] ++ ((hH KL.encI (aZ.set (ab * 8 + p0.toNat) (w64 ((aZ.get (ab * 8 + p0.toNat)) + 1))).l) ++ ((hH KL.encI (aX.set ab (w64 ((aX.get ab) + 1))).l) ++ (hH KL.encT (bh.set ab true).l)))),.obj ae (.map au az),.blk bb 3 B2,B1,B0,mks be] eh:=fD
      refine eN (sR (.fx 0 .nil .stop) Z (ZG (j:=3) (vs:=[.bool true]) Z Z Z Z fE Z dq Z Z Zl (zD Z) Z Z Z ?_))
      intro ei fG
      let B3:Res:=.blk bo 4 [.bool true]
      have fH:SW w [.blk ah 99 ([.slice ai p1.Bout.Shots.length aj,.slice ak p1.Bout.Down.length ap,.slice am p1.Bout.Across.length aq,.map (some ae)] ++ ((hH KL.encI p1.hits.l) ++ ((hH KL.encI p1.used.l) ++ (hH KL.encT p1.met.l)))),.obj ae (.map au az)] U br [.blk ah 99 ([.slice ai p1.Bout.Shots.length aj,.slice ak p1.Bout.Down.length ap,.slice am p1.Bout.Across.length aq,.map (some ae)] ++ ((hH KL.encI (aZ.set (ab * 8 + p0.toNat) (w64 ((aZ.get (ab * 8 + p0.toNat)) + 1))).l) ++ ((hH KL.encI (aX.set ab (w64 ((aX.get ab) + 1))).l) ++ (hH KL.encT (bh.set ab true).l)))),.obj ae (.map au az),.blk bb 3 B2,B3,B0,mks be] ei:=fG
      refine eN (zR (zJ (zX (zJ ?_))))
      have q:=wAc gW
      obtain ⟨ir,gX,eF⟩:=q
      have q:=wBi ci cd (dU ir eF)
      obtain rfl:=q
      refine zJ (zX (zJ (wEK (by first | exact .inl rfl | exact .inr rfl) (rbs:=be) (L:=[.blk ah 99 ([.slice ai p1.Bout.Shots.length aj,.slice ak p1.Bout.Down.length ap,.slice am p1.Bout.Across.length aq,.map (some ae)] ++ ((hH KL.encI (aZ.set (ab * 8 + p0.toNat) (w64 ((aZ.get (ab * 8 + p0.toNat)) + 1))).l) ++ ((hH KL.encI (aX.set ab (w64 ((aX.get ab) + 1))).l) ++ (hH KL.encT (bh.set ab true).l)))),.obj ae (.map au az),.blk bb 3 B2,B3,B0]) (fH.pick [5,0,1,2,3,4] _ (by decide) rfl) fun ej fJ=>?_)))
      have dK:SW w [.blk ah 99 ([.slice ai p1.Bout.Shots.length aj,.slice ak p1.Bout.Down.length ap,.slice am p1.Bout.Across.length aq,.map (some ae)] ++ ((hH KL.encI p1.hits.l) ++ ((hH KL.encI p1.used.l) ++ (hH KL.encT p1.met.l)))),.obj ae (.map au az)] U br [.blk ah 99 ([.slice ai p1.Bout.Shots.length aj,.slice ak p1.Bout.Down.length ap,.slice am p1.Bout.Across.length aq,.map (some ae)] ++ ((hH KL.encI (aZ.set (ab * 8 + p0.toNat) (w64 ((aZ.get (ab * 8 + p0.toNat)) + 1))).l) ++ ((hH KL.encI (aX.set ab (w64 ((aX.get ab) + 1))).l) ++ (hH KL.encT (bh.set ab true).l)))),.obj ae (.map au az),.blk bb 3 B2,B3,B0] ej:=fJ
      cases gX
      exact ⟨_,(wJx (v:=.bool true) ⟨⟨_,dq,(wOO Try.isAgg4 (dK.blkAt (k:=3) rfl) rfl)⟩,trivial⟩),br,_,(dK.pick [0,1] _ (by decide) rfl),rfl,rfl⟩
     ·intro cH gZ
      refine cF Z cH (kN (sR (.fl 0 (.fl 1 (.fx 2 .nil .stop))) Z (oL Z (bl.ldC (f:=0) bE (v:=.pointer (some ⟨ah,0,none⟩)) Z bp ZD Z) (oL Z (bl.ldB (j:=2) Z Z Z zH (v:=jV (↑ab:Int)) Z) ?_))))
      have q:=bnd gZ
      obtain ⟨⟨⟩,eU,dV⟩:=q
      try dsimp only at dV
      refine zP 0 Z Z Z Z (zN Z Z Try.call43 (zC Z (zC Z zU)) Z) bl (fun hs=>wDC () ah (↑ab:Int) cz br hs eU) (.inr Z) ?_
      rintro da iw iZ en bK fK ⟨dg,dh,dk,rfl,rfl,eV,eW,eX⟩
      have fL:SW w [.blk ah 99 ([.slice ai p1.Bout.Shots.length aj,.slice ak p1.Bout.Down.length ap,.slice am p1.Bout.Across.length aq,.map (some ae)] ++ ((hH KL.encI p1.hits.l) ++ ((hH KL.encI p1.used.l) ++ (hH KL.encT p1.met.l)))),.obj ae (.map au az)] U da [.blk ah 99 ([.slice ai p1.Bout.Shots.length aj,.slice ak p1.Bout.Down.length ap,.slice am p1.Bout.Across.length aq,.map (some ae)] ++ ((hH KL.encI aZ.l) ++ ((hH KL.encI aX.l) ++ (hH KL.encT (bh.set ab true).l)))),.obj ae (.map au az),.blk bb 3 B2,B1,B0,mks be] en:=fK
      refine eN (zd (Zf fun bA bv=>?_))
      have dt:bA 1=.pointer (some ⟨bn,0,none⟩):=(bv 1).trans bp
      have du:bA 2=.pointer (some ⟨bw,0,none⟩):=(bv 2).trans cN
      have dv:bA 3=.pointer (some ⟨b6,0,none⟩):=(bv 3).trans bN
      have cK:bA 4=.pointer (some ⟨bo,0,none⟩):=(bv 4).trans bY
      have eI:bA 5=.pointer (some ⟨bb,0,none⟩):=(bv 5).trans rfl
      have dw:bA 18=jV (↑p1.Bout.Shots.length:Int):=(bv 18).trans bZ
      have dx:bA 19=jV (↑ab:Int):=(bv 19).trans bO
      have eJ:bA 82=.func (.func 83) #[] #[.pointer (some ⟨dg,0,none⟩),.pointer (some ⟨dh,0,none⟩),.pointer (some ⟨dk,0,none⟩)]:=(bv 82).trans rfl
      clear bv
      refine bnK dV fun d9 gS cj=>?_
      have dC:=dB.le bK
      have eY:=dI.le bG
      have dD:=eY.le bK
      have eZ:=dJ.le bG
      have dE:=eZ.le bK
      refine CK.rangeYV (fun U_ L_=>∃ (i_ j_:Nat) (a0_:Arr Int 64) (a1_:Arr Int 8) (a2_:Arr Bool 16),L_[i_]?=some (.blk ah 99 ([.slice ai p1.Bout.Shots.length aj,.slice ak p1.Bout.Down.length ap,.slice am p1.Bout.Across.length aq,.map (some ae)] ++ ((hH KL.encI a0_.l) ++ ((hH KL.encI a1_.l) ++ (hH KL.encT a2_.l)))))/\L_[j_]?=some (.obj ae (.map au az))) (by rintro _ _ _ ⟨i,j,a0,a1,a2,hi,hj⟩;exact ⟨i + 1,j + 1,a0,a1,a2,hi,hj⟩) (S:=(Arr Int 64) × (Arr Int 8) × (Arr Bool 16)) (E:=(Arr Int 64) × (Arr Int 8) × (Arr Bool 16) × Bool) (ar:=wJk) (PY:=(fun (s_:(Arr Int 64) × (Arr Int 8) × (Arr Bool 16)) (U_:PHeap) (L_:List Res)=>match s_ with | (a303,a304,a305)=>L_=[.blk ah 99 ([.slice ai p1.Bout.Shots.length aj,.slice ak p1.Bout.Down.length ap,.slice am p1.Bout.Across.length aq,.map (some ae)] ++ ((hH KL.encI a303.l) ++ ((hH KL.encI a304.l) ++ (hH KL.encT a305.l)))),.obj ae (.map au az),.blk bb 3 [jV (↑ab:Int)],B1,B0,mks be])) (PE:=(fun (s_:(Arr Int 64) × (Arr Int 8) × (Arr Bool 16) × Bool) (U_:PHeap) (L_:List Res)=>match s_ with | (a314,a315,a316,b317)=>L_=[.blk ah 99 ([.slice ai p1.Bout.Shots.length aj,.slice ak p1.Bout.Down.length ap,.slice am p1.Bout.Across.length aq,.map (some ae)] ++ ((hH KL.encI a314.l) ++ ((hH KL.encI a315.l) ++ (hH KL.encT a316.l)))),.obj ae (.map au az),.blk bb 3 [jV (↑ab:Int)],.blk bo 4 [.bool b317],B0,mks be])) (exO:=(fun _=>.ret)) (s0:=(aZ,aX,(bh.set ab true))) (rr:=d9) eJ Try.call83 fL (by decide) (fun _ _ _ h=>by obtain rfl:=h;rfl) (fun _=>.inl rfl) rfl (by rintro ⟨a303,a304,a305⟩ _ _ rfl;exact ⟨0,1,a303,a304,a305,rfl,rfl⟩) (fun l w1 L1 PY' PE' fw ft gB gA=>wCr PY' PE' _ l _ (⟨p1.Bout,p1.may,aZ,aX,(bh.set ab true)⟩:wAE) dg ah ai aj ak ap am aq ae au az () dh (↑ab:Int) dk w1 L1 da fw ft gB gA eV dC dD dE cg eW eX gS) ?_ ?_
      ·rintro bF iY iT ⟨a303,a304,a305⟩ aY i5 iW cn iy iv iq bC bT fO fu gC cR bz bm
       obtain rfl:=fu
       obtain rfl:=gC
       replace bm:∀ t,bz t=upd bA 83 (jV aY) t:=bm
       have eK:bz 83=jV aY:=(bm 83).trans (wCN _ _ _)
       have cL:bz 1=.pointer (some ⟨bn,0,none⟩):=(bm 1).trans ((wBl _ _ (by decide)).trans dt)
       have eL:bz 2=.pointer (some ⟨bw,0,none⟩):=(bm 2).trans ((wBl _ _ (by decide)).trans du)
       have dy:bz 3=.pointer (some ⟨b6,0,none⟩):=(bm 3).trans ((wBl _ _ (by decide)).trans dv)
       have eM:bz 4=.pointer (some ⟨bo,0,none⟩):=(bm 4).trans ((wBl _ _ (by decide)).trans cK)
       have cM:bz 5=.pointer (some ⟨bb,0,none⟩):=(bm 5).trans ((wBl _ _ (by decide)).trans eI)
       have iN:bz 18=jV (↑p1.Bout.Shots.length:Int):=(bm 18).trans ((wBl _ _ (by decide)).trans dw)
       have iO:bz 19=jV (↑ab:Int):=(bm 19).trans ((wBl _ _ (by decide)).trans dx)
       clear bm
       have fP:St bC cn [.obj bF iq,.blk ah 99 ([.slice ai p1.Bout.Shots.length aj,.slice ak p1.Bout.Down.length ap,.slice am p1.Bout.Across.length aq,.map (some ae)] ++ ((hH KL.encI a303.l) ++ ((hH KL.encI a304.l) ++ (hH KL.encT a305.l)))),.obj ae (.map au az),.blk bb 3 B2,B1,B0,mks be] iv:=fO
       try dsimp only at cR
       refine rR fL1 Z (oA Z eK (ZA ⟨Z,Z,_,_,fP,fun cB bL fQ=>?_⟩))
       have fR:St bC cn [.obj bF bL,.blk ah 99 ([.slice ai p1.Bout.Shots.length aj,.slice ak p1.Bout.Down.length ap,.slice am p1.Bout.Across.length aq,.map (some ae)] ++ ((hH KL.encI a303.l) ++ ((hH KL.encI a304.l) ++ (hH KL.encT a305.l)))),.obj ae (.map au az),.blk bb 3 B2,B1,B0,mks be] cB:=fQ
       refine zd (zG (ZI ZJ [3,1,3,3,1,1,3,3,3,3,3,1,3,3,3,1,3,0,3] (wMh (.fx 17 (.fl 18 .nil) .stop)) (by kernel_rfl) ?_))
       have bt:=fR.drew
       generalize hw_W362:({ cB with drawn:=cB.drawn + 1 }:World)=db at bt ⊢
       refine oM Z Z (oL Z (bt.ldB (j:=5) Z Z dy zH (v:=jV p0) Z) (oR Z (ZF Z Z Z) (oM Z Z ?_)))
       by_cases bf:aY=p0
       ·have dW:=cR;rw [if_pos bf] at dW;replace bf:=zL bf
        refine zE Z Z Z (zQ Z Z (zf (fun h=>h bf.out)) Z) (zE Z Z Z (zQ Z Z (zf (fun h=>h bf.out)) Z) (zE Z Z Z (zQ Z Z (zf (fun h=>h bf.out)) Z) (zE Z Z Z (zQ Z Z (zf (fun h=>h bf.out)) Z) (zE Z Z Z (zQ Z Z (zf (fun h=>h bf.out)) Z) (zE Z Z Z (zQ Z Z (zf (fun h=>h bf.out)) Z) (zE Z Z Z (zQ Z Z (zf (fun h=>h bf.out)) Z) (zE Z Z Z (zQ Z Z (zf (fun h=>h bf.out)) Z) (zE Z Z Z (zQ Z Z (zf (fun h=>h bf.out)) Z) (oR Z (zY Z (zf (fun h=>h bf.out)) Z) (oM Z Z (oN Z (oN Z (ZS Z Z Z (zQ Z Z Z Z) (oR Z (zY Z Z Z) (eN (zi Z (ZN (zk ?_))))))))))))))))))
        have q:=nD dW
        obtain rfl:=q
        exact ⟨_,_,bt,Z,Z⟩
       ·have dX:=cR;rw [if_neg bf] at dX;replace bf:=zL bf
        have e9:=bE.le bK
        have cO:=e9.le bT
        refine zm Z Z Z (wT Z bf) (bt.ldC (f:=0) cO (v:=.pointer (some ⟨ah,0,none⟩)) Z cL ZD Z) Z (zm Z Z Z (wT Z bf) (bt.ldB (j:=3) Z Z cM zH (v:=jV (↑ab:Int)) Z) Z (zZ Z Z Z (wT Z bf) Z Z (rU Z (wT Z bf) (zl Z Z) (rU Z (wT Z bf) (zK Z Z zV Z Zo) (rU Z (wT Z bf) (ZQ Z Z Z Za Zh (wBB aW) (wBC aW)) (bnK dX fun _ bq g7=>rU Z (wT Z bf) (ZQ Z Z Z ZP zB (wBB bq) (wBC bq)) ?_))))))
        have gM:=Arr.at_ a303 (k:=(ab * 8 + aY.toNat)) (by have hz0:=wAI aW;have hz1:=wAI bq;omega)
        refine zm rfl rfl rfl (zI rfl rfl (ZO bf.out)) (bt.ldB (j:=1) rfl rfl ((rfl:ev _ _=.pointer (some ⟨ah,4 + ab * 8 + aY.toNat * 1,none⟩)).trans (wDK (by omega))) zH (wDJ (n:=4) rfl (wGy (sz:=1) (fun _=>rfl) _ _ 0 _ gM rfl))) rfl (zO rfl rfl rfl (zI rfl rfl (ZO bf.out)) (fun _=>Runs.gtr rfl rfl rfl) (zO rfl rfl rfl rfl (fun _=>zS rfl (ZO bf.out) rfl) (zZ rfl rfl rfl rfl rfl rfl (ifc g7 ?_ ?_))))
        ·intro bs g8
         have fb:=dT.le bB
         have fc:=fb.le bG
         have fd:=fc.le bK
         have dF:=fd.le bT
         refine zm Z Z Z (wT Z bs) (bt.ldC (f:=0) dF (v:=.func (.func 84) #[] #[.pointer (some ⟨bn,0,none⟩),.pointer (some ⟨bw,0,none⟩)]) Z eL Try.isAgg74 Z) Z (zZ Z Z Z (wT Z bs) Z Z ?_)
         have fe:=dC.le bT
         have ff:=dD.le bT
         have fg:=dE.le bT
         have q:=bnd g8
         obtain ⟨⟨i6,aU⟩,fh,dY⟩:=q
         try dsimp only at dY
         have fS:St bC cn [.blk ah 99 ([.slice ai p1.Bout.Shots.length aj,.slice ak p1.Bout.Down.length ap,.slice am p1.Bout.Across.length aq,.map (some ae)] ++ ((hH KL.encI a303.l) ++ ((hH KL.encI a304.l) ++ (hH KL.encT a305.l)))),.obj ae (.map au az),.obj bF bL,.blk bb 3 B2,B1,B0,mks be] db:=bt.pick [1,2,0,3,4,5,6] _ (by decide) rfl
         refine zP 2 Z Z Z (wT Z bs) (zN Z Z Try.call84 (zC Z zU) Z) fS (fun hs=>ih aY (⟨p1.Bout,p1.may,a303,a304,a305⟩:wAE) bn ah ai aj ak ap am aq ae au az () bw db cn hs cO fe ff fg cg dF fh) (.inl Z) ?_
         rintro bV iz i0 cC io fT ⟨rfl,rfl⟩
         have dL:St bC bV [.blk ah 99 ([.slice ai p1.Bout.Shots.length aj,.slice ak p1.Bout.Down.length ap,.slice am p1.Bout.Across.length aq,.map (some ae)] ++ ((hH KL.encI aU.1.l) ++ ((hH KL.encI aU.2.1.l) ++ (hH KL.encT aU.2.2.l)))),.obj ae (.map au az),.obj bF bL,.blk bb 3 B2,B1,B0,mks be] cC:=fT
         refine oR Z (zS Z (ZO bs.out) Z) (eN (ifc dY ?_ ?_))
         ·intro cI g9
          refine zp (congrArg nA cI.out) (zG (ZI ZJ [1,1,3,3,3,3,3,1,3,3,3,3,3,0] (wHP (.fx 13 .nil .stop)) (by kernel_rfl) ?_))
          have bQ:=dL.drew
          generalize hw_W398:({ cC with drawn:=cC.drawn + 1 }:World)=iF at bQ ⊢
          have dG:=cO.le io
          refine oL Z (bQ.ldC (f:=0) dG (v:=.pointer (some ⟨ah,0,none⟩)) Z cL ZD Z) (oL Z (bQ.ldB (j:=3) Z Z cM zH (v:=jV (↑ab:Int)) Z) (oM Z Z (oR Z (zl Z Z) (oR Z (zK Z Z zV Z Zo) (oR Z (ZQ Z Z Z Za Zh (wBB aW) (wBC aW)) (oR Z (ZQ Z Z Z ZP zB (wBB bq) (wBC bq)) ?_))))))
          have gN:=Arr.at_ aU.1 (k:=(ab * 8 + aY.toNat)) (by have hz0:=wAI aW;have hz1:=wAI bq;omega)
          refine zm rfl rfl rfl rfl (bQ.ldB (j:=0) rfl rfl ((rfl:ev _ _=.pointer (some ⟨ah,4 + ab * 8 + aY.toNat * 1,none⟩)).trans (wDK (by omega))) zH (wDJ (n:=4) rfl (wGy (sz:=1) (fun _=>rfl) _ _ 0 _ gN rfl))) rfl (zO rfl rfl rfl rfl (fun _=>ZV rfl rfl rfl) (zO rfl rfl rfl rfl (fun _=>zl rfl rfl) (zO rfl rfl rfl rfl (fun _=>zK rfl rfl zV rfl Zo) (zO rfl rfl rfl rfl (fun _=>ZQ rfl rfl rfl Za Zh (wBB aW) (wBC aW)) (zO rfl rfl rfl rfl (fun _=>ZQ rfl rfl rfl ZP zB (wBB bq) (wBC bq)) ?_)))))
          have gO:=Arr.at_ aU.1 (k:=(ab * 8 + aY.toNat)) (by have hz0:=wAI aW;have hz1:=wAI bq;omega)
          refine ZG (j:=0) (vs:=[jV (w64 ((aU.1.get (ab * 8 + aY.toNat)) - 1))]) (cs':=[.slice ai p1.Bout.Shots.length aj,.slice ak p1.Bout.Down.length ap,.slice am p1.Bout.Across.length aq,.map (some ae)] ++ ((hH KL.encI (aU.1.set (ab * 8 + aY.toNat) (w64 ((aU.1.get (ab * 8 + aY.toNat)) - 1))).l) ++ ((hH KL.encI aU.2.1.l) ++ (hH KL.encT aU.2.2.l)))) rfl rfl rfl rfl bQ rfl ((rfl:ev _ _=.pointer (some ⟨ah,4 + ab * 8 + aY.toNat * 1,none⟩)).trans (wDK (by omega))) rfl rfl zB (by have hz0:=wAI aW;have hz1:=wAI bq;simp only [nM,nO,nQ,wAP (f:=KL.encI) (sz:=1) (N:=64) aU.1 (fun _=>rfl) rfl,wAP (f:=KL.encI) (sz:=1) (N:=8) aU.2.1 (fun _=>rfl) rfl,wAP (f:=KL.encT) (sz:=1) (N:=16) aU.2.2 (fun _=>rfl) rfl];omega) rfl (wBy (n:=4) rfl (wJR (sz:=1) (fo:=0) (fun _=>rfl) _ _ _ _ gO (zD rfl) rfl)) rfl ?_
          intro cD fU
          have fV:St bC bV [.blk ah 99 ([.slice ai p1.Bout.Shots.length aj,.slice ak p1.Bout.Down.length ap,.slice am p1.Bout.Across.length aq,.map (some ae)] ++ ((hH KL.encI (aU.1.set (ab * 8 + aY.toNat) (w64 ((aU.1.get (ab * 8 + aY.toNat)) - 1))).l) ++ ((hH KL.encI aU.2.1.l) ++ (hH KL.encT aU.2.2.l)))),.obj ae (.map au az),.obj bF bL,.blk bb 3 B2,B1,B0,mks be] cD:=fU
          refine eN (zG (Zf fun cu bS=>?_))
          have eO:cu 1=.pointer (some ⟨bn,0,none⟩):=(bS 1).trans cL
          have eP:cu 3=.pointer (some ⟨b6,0,none⟩):=(bS 3).trans dy
          have eQ:cu 4=.pointer (some ⟨bo,0,none⟩):=(bS 4).trans eM
          have eR:cu 5=.pointer (some ⟨bb,0,none⟩):=(bS 5).trans cM
          clear bS
          refine ZI ZJ [1,1,1,3,3,3,3,1,3,3,3,3,3,0] (wHP (.fx 13 .nil .stop)) (by kernel_rfl) ?_
          have bJ:=fV.drew
          generalize hw_W412:({ cD with drawn:=cD.drawn + 1 }:World)=iG at bJ ⊢
          refine oL Z (bJ.ldC (f:=0) dG (v:=.pointer (some ⟨ah,0,none⟩)) Z eO ZD Z) (oL Z (bJ.ldB (j:=3) Z Z eR zH (v:=jV (↑ab:Int)) Z) (oL Z (bJ.ldB (j:=5) Z Z eP zH (v:=jV p0) Z) (oR Z (zl Z Z) (oR Z (zK Z Z zV Z Zo) (oR Z (ZQ Z Z Z Za Zh (wBB aW) (wBC aW)) (oR Z (ZQ Z Z Z ZP zB (wBB bj) (wBC bj)) ?_))))))
          have gP:=Arr.at_ (aU.1.set (ab * 8 + aY.toNat) (w64 ((aU.1.get (ab * 8 + aY.toNat)) - 1))) (k:=(ab * 8 + p0.toNat)) (by have hz0:=wAI aW;have hz1:=wAI bj;omega)
          refine zm rfl rfl rfl rfl (bJ.ldB (j:=0) rfl rfl ((rfl:ev _ _=.pointer (some ⟨ah,4 + ab * 8 + p0.toNat * 1,none⟩)).trans (wDK (by omega))) zH (wDJ (n:=4) rfl (wGy (sz:=1) (fun _=>rfl) _ _ 0 _ gP rfl))) rfl (zO rfl rfl rfl rfl (fun _=>zh rfl rfl rfl) (zO rfl rfl rfl rfl (fun _=>zl rfl rfl) (zO rfl rfl rfl rfl (fun _=>zK rfl rfl zV rfl Zo) (zO rfl rfl rfl rfl (fun _=>ZQ rfl rfl rfl Za Zh (wBB aW) (wBC aW)) (zO rfl rfl rfl rfl (fun _=>ZQ rfl rfl rfl ZP zB (wBB bj) (wBC bj)) ?_)))))
          have gQ:=Arr.at_ (aU.1.set (ab * 8 + aY.toNat) (w64 ((aU.1.get (ab * 8 + aY.toNat)) - 1))) (k:=(ab * 8 + p0.toNat)) (by have hz0:=wAI aW;have hz1:=wAI bj;omega)
          refine ZG (j:=0) (vs:=[jV (w64 (((aU.1.set (ab * 8 + aY.toNat) (w64 ((aU.1.get (ab * 8 + aY.toNat)) - 1))).get (ab * 8 + p0.toNat)) + 1))]) (cs':=[.slice ai p1.Bout.Shots.length aj,.slice ak p1.Bout.Down.length ap,.slice am p1.Bout.Across.length aq,.map (some ae)] ++ ((hH KL.encI ((aU.1.set (ab * 8 + aY.toNat) (w64 ((aU.1.get (ab * 8 + aY.toNat)) - 1))).set (ab * 8 + p0.toNat) (w64 (((aU.1.set (ab * 8 + aY.toNat) (w64 ((aU.1.get (ab * 8 + aY.toNat)) - 1))).get (ab * 8 + p0.toNat)) + 1))).l) ++ ((hH KL.encI aU.2.1.l) ++ (hH KL.encT aU.2.2.l)))) rfl rfl rfl rfl bJ rfl ((rfl:ev _ _=.pointer (some ⟨ah,4 + ab * 8 + p0.toNat * 1,none⟩)).trans (wDK (by omega))) rfl rfl zB (by have hz0:=wAI aW;have hz1:=wAI bj;simp only [nM,nO,nQ,wAP (f:=KL.encI) (sz:=1) (N:=64) (aU.1.set (ab * 8 + aY.toNat) (w64 ((aU.1.get (ab * 8 + aY.toNat)) - 1))) (fun _=>rfl) rfl,wAP (f:=KL.encI) (sz:=1) (N:=8) aU.2.1 (fun _=>rfl) rfl,wAP (f:=KL.encT) (sz:=1) (N:=16) aU.2.2 (fun _=>rfl) rfl];omega) rfl (wBy (n:=4) rfl (wJR (sz:=1) (fo:=0) (fun _=>rfl) _ _ _ _ gQ (zD rfl) rfl)) rfl ?_
          intro ey fW
          have fY:St bC bV [.blk ah 99 ([.slice ai p1.Bout.Shots.length aj,.slice ak p1.Bout.Down.length ap,.slice am p1.Bout.Across.length aq,.map (some ae)] ++ ((hH KL.encI ((aU.1.set (ab * 8 + aY.toNat) (w64 ((aU.1.get (ab * 8 + aY.toNat)) - 1))).set (ab * 8 + p0.toNat) (w64 (((aU.1.set (ab * 8 + aY.toNat) (w64 ((aU.1.get (ab * 8 + aY.toNat)) - 1))).get (ab * 8 + p0.toNat)) + 1))).l) ++ ((hH KL.encI aU.2.1.l) ++ (hH KL.encT aU.2.2.l)))),.obj ae (.map au az),.obj bF bL,.blk bb 3 B2,B1,B0,mks be] ey:=fW
          refine eN (sR (.fx 0 .nil .stop) Z (ZG (j:=4) (vs:=[.bool true]) Z Z Z Z fY Z eQ Z Z Zl (zD Z) Z Z Z ?_))
          intro ez fZ
          have ga:St bC bV [.blk ah 99 ([.slice ai p1.Bout.Shots.length aj,.slice ak p1.Bout.Down.length ap,.slice am p1.Bout.Across.length aq,.map (some ae)] ++ ((hH KL.encI ((aU.1.set (ab * 8 + aY.toNat) (w64 ((aU.1.get (ab * 8 + aY.toNat)) - 1))).set (ab * 8 + p0.toNat) (w64 (((aU.1.set (ab * 8 + aY.toNat) (w64 ((aU.1.get (ab * 8 + aY.toNat)) - 1))).get (ab * 8 + p0.toNat)) + 1))).l) ++ ((hH KL.encI aU.2.1.l) ++ (hH KL.encT aU.2.2.l)))),.obj ae (.map au az),.obj bF bL,.blk bb 3 B2,.blk bo 4 [.bool true],B0,mks be] ez:=fZ
          refine eN (zR (zX ?_))
          have q:=nD g9
          obtain rfl:=q
          exact ⟨_,_,(ga.pick [2,0,1,3,4,5,6] _ (by decide) rfl),rfl,rfl⟩
         ·intro cI ib
          refine zi (congrArg nA (nB.2 cI.out)) (ZN (zk ?_))
          have q:=nD ib
          obtain rfl:=q
          exact ⟨_,_,(dL.pick [2,0,1,3,4,5,6] _ (by decide) rfl),rfl,rfl⟩
        ·intro bs ic
         refine oF Z bs (oF Z bs (ZS Z Z Z (zQ Z Z (zf bs.out) Z) (oR Z (zY Z (zf bs.out) Z) (eN (zi Z (ZN (zk ?_)))))))
         have q:=nD ic
         obtain rfl:=q
         exact ⟨_,_,bt,Z,Z⟩
      ·rintro bM bD iA bX ip dM
       rcases d9 with ⟨eb,ec,ed⟩ | ⟨cp,cq,cr,ef⟩
       ·try dsimp only at cj
        rintro rfl
        have gb:SW w [.blk ah 99 ([.slice ai p1.Bout.Shots.length aj,.slice ak p1.Bout.Down.length ap,.slice am p1.Bout.Across.length aq,.map (some ae)] ++ ((hH KL.encI p1.hits.l) ++ ((hH KL.encI p1.used.l) ++ (hH KL.encT p1.met.l)))),.obj ae (.map au az)] U bD [.blk ah 99 ([.slice ai p1.Bout.Shots.length aj,.slice ak p1.Bout.Down.length ap,.slice am p1.Bout.Across.length aq,.map (some ae)] ++ ((hH KL.encI eb.l) ++ ((hH KL.encI ec.l) ++ (hH KL.encT ed.l)))),.obj ae (.map au az),.blk bb 3 B2,B1,B0,mks be,.obj bM (.deferred (some []))] bX:=dM
        have gc:SW w [.blk ah 99 ([.slice ai p1.Bout.Shots.length aj,.slice ak p1.Bout.Down.length ap,.slice am p1.Bout.Across.length aq,.map (some ae)] ++ ((hH KL.encI p1.hits.l) ++ ((hH KL.encI p1.used.l) ++ (hH KL.encT p1.met.l)))),.obj ae (.map au az)] U bD [mks (bM :: be),.blk ah 99 ([.slice ai p1.Bout.Shots.length aj,.slice ak p1.Bout.Down.length ap,.slice am p1.Bout.Across.length aq,.map (some ae)] ++ ((hH KL.encI eb.l) ++ ((hH KL.encI ec.l) ++ (hH KL.encT ed.l)))),.obj ae (.map au az),.blk bb 3 B2,B1,B0] bX:=(gb.pick [5,6,0,1,2,3,4] _ (by decide) rfl).mksAdd
        refine zk (zk (zM (rR fL2 Z (oR Z (ZB (zh Z dx Z) (congrArg (jV) cS.out)) (oM Z Z (ZA ?_))))))
        have q:=nD cj
        obtain rfl:=q
        exact zM ⟨_,rfl,⟨bD,(bM :: be),rfl,rfl,dt,du,dv,cK,dw,(((bB.trans bG).trans bK).trans ip),(gc.pick [4,5,0,1,2] _ (by decide) rfl)⟩⟩
       ·try dsimp only at cj
        rintro rfl
        let B4:Res:=.blk bo 4 [.bool ef]
        have ge:SW w [.blk ah 99 ([.slice ai p1.Bout.Shots.length aj,.slice ak p1.Bout.Down.length ap,.slice am p1.Bout.Across.length aq,.map (some ae)] ++ ((hH KL.encI p1.hits.l) ++ ((hH KL.encI p1.used.l) ++ (hH KL.encT p1.met.l)))),.obj ae (.map au az)] U bD [.blk ah 99 ([.slice ai p1.Bout.Shots.length aj,.slice ak p1.Bout.Down.length ap,.slice am p1.Bout.Across.length aq,.map (some ae)] ++ ((hH KL.encI cp.l) ++ ((hH KL.encI cq.l) ++ (hH KL.encT cr.l)))),.obj ae (.map au az),.blk bb 3 B2,B4,B0,mks be,.obj bM (.deferred (some []))] bX:=dM
        have gf:SW w [.blk ah 99 ([.slice ai p1.Bout.Shots.length aj,.slice ak p1.Bout.Down.length ap,.slice am p1.Bout.Across.length aq,.map (some ae)] ++ ((hH KL.encI p1.hits.l) ++ ((hH KL.encI p1.used.l) ++ (hH KL.encT p1.met.l)))),.obj ae (.map au az)] U bD [mks (bM :: be),.blk ah 99 ([.slice ai p1.Bout.Shots.length aj,.slice ak p1.Bout.Down.length ap,.slice am p1.Bout.Across.length aq,.map (some ae)] ++ ((hH KL.encI cp.l) ++ ((hH KL.encI cq.l) ++ (hH KL.encT cr.l)))),.obj ae (.map au az),.blk bb 3 B2,B4,B0] bX:=(ge.pick [5,6,0,1,2,3,4] _ (by decide) rfl).mksAdd
        refine zX (zX (zJ ?_))
        have q:=wAc cj
        obtain ⟨it,ie,eG⟩:=q
        have q:=wBi ci cd (dU it eG)
        obtain rfl:=q
        refine zJ (zX (zJ (wEK (by first | exact .inl rfl | exact .inr rfl) (rbs:=(bM :: be)) (L:=[.blk ah 99 ([.slice ai p1.Bout.Shots.length aj,.slice ak p1.Bout.Down.length ap,.slice am p1.Bout.Across.length aq,.map (some ae)] ++ ((hH KL.encI cp.l) ++ ((hH KL.encI cq.l) ++ (hH KL.encT cr.l)))),.obj ae (.map au az),.blk bb 3 B2,B4,B0]) gf fun eA gg=>?_)))
        have dN:SW w [.blk ah 99 ([.slice ai p1.Bout.Shots.length aj,.slice ak p1.Bout.Down.length ap,.slice am p1.Bout.Across.length aq,.map (some ae)] ++ ((hH KL.encI p1.hits.l) ++ ((hH KL.encI p1.used.l) ++ (hH KL.encT p1.met.l)))),.obj ae (.map au az)] U bD [.blk ah 99 ([.slice ai p1.Bout.Shots.length aj,.slice ak p1.Bout.Down.length ap,.slice am p1.Bout.Across.length aq,.map (some ae)] ++ ((hH KL.encI cp.l) ++ ((hH KL.encI cq.l) ++ (hH KL.encT cr.l)))),.obj ae (.map au az),.blk bb 3 B2,B4,B0] eA:=gg
        cases ie
        exact ⟨_,(wJx (v:=.bool ef) ⟨⟨_,cK,(wOO Try.isAgg4 (dN.blkAt (k:=3) rfl) rfl)⟩,trivial⟩),bD,_,(dN.pick [0,1] _ (by decide) rfl),rfl,rfl⟩
    ·intro cJ ig
     refine zp (nF (cJ.out)) (ZM (zn (ZE (zM (rR fL2 Z (oR Z (ZB (zh Z bO Z) (congrArg (jV) cS.out)) (oM Z Z (ZA ?_))))))))
     have q:=nD ig
     obtain rfl:=q
     exact zM ⟨_,rfl,⟨br,be,rfl,rfl,bp,cN,bN,bY,bZ,(bB.trans bG),(dP.pick [3,4,5,0,1] _ (by decide) rfl)⟩⟩
  ·rintro ⟨cX,cY,cZ⟩ D_ i9 iI ⟨cx,d8,rfl,eT,iP,iQ,iR,dz,eS,iU,gh⟩ gD
   have dZ:=wCw ci cd gD
   try dsimp only at dZ
   have eE:Hid (¬ ((↑(((↑p1.Bout.Shots.length:Int):Int) - 0).toNat:Int) < (↑p1.Bout.Shots.length:Int))):=zL (wBK)
   refine sR fL1 Z (oR Z (zg Z eT eS) (eN (zG (cF Z eE (ZM (zn (zn (ZE (zM (sR (.fx 0 .nil .stop) Z (ZG (j:=0) (vs:=[.bool false]) Z Z Z Z gh Z dz Z Z Zl (zD Z) Z Z Z ?_)))))))))))
   intro eC gi
   have gj:SW w [.blk ah 99 ([.slice ai p1.Bout.Shots.length aj,.slice ak p1.Bout.Down.length ap,.slice am p1.Bout.Across.length aq,.map (some ae)] ++ ((hH KL.encI p1.hits.l) ++ ((hH KL.encI p1.used.l) ++ (hH KL.encT p1.met.l)))),.obj ae (.map au az)] U cx [B1,B0,mks d8,.blk ah 99 ([.slice ai p1.Bout.Shots.length aj,.slice ak p1.Bout.Down.length ap,.slice am p1.Bout.Across.length aq,.map (some ae)] ++ ((hH KL.encI cX.l) ++ ((hH KL.encI cY.l) ++ (hH KL.encT cZ.l)))),.obj ae (.map au az)] eC:=gi
   refine eN (zR (wEK (by first | exact .inl rfl | exact .inr rfl) (rbs:=d8) (L:=[B1,B0,.blk ah 99 ([.slice ai p1.Bout.Shots.length aj,.slice ak p1.Bout.Down.length ap,.slice am p1.Bout.Across.length aq,.map (some ae)] ++ ((hH KL.encI cX.l) ++ ((hH KL.encI cY.l) ++ (hH KL.encT cZ.l)))),.obj ae (.map au az)]) (gj.pick [2,0,1,3,4] _ (by decide) rfl) fun eD gm=>?_))
   have dO:SW w [.blk ah 99 ([.slice ai p1.Bout.Shots.length aj,.slice ak p1.Bout.Down.length ap,.slice am p1.Bout.Across.length aq,.map (some ae)] ++ ((hH KL.encI p1.hits.l) ++ ((hH KL.encI p1.used.l) ++ (hH KL.encT p1.met.l)))),.obj ae (.map au az)] U cx [B1,B0,.blk ah 99 ([.slice ai p1.Bout.Shots.length aj,.slice ak p1.Bout.Down.length ap,.slice am p1.Bout.Across.length aq,.map (some ae)] ++ ((hH KL.encI cX.l) ++ ((hH KL.encI cY.l) ++ (hH KL.encT cZ.l)))),.obj ae (.map au az)] eD:=gm
   cases dZ
   exact ⟨_,(wJx (v:=.bool false) ⟨⟨_,dz,(wOO Try.isAgg4 (dO.blkAt (k:=0) rfl) rfl)⟩,trivial⟩),cx,_,(dO.pick [2,3] _ (by decide) rfl),rfl,rfl⟩
end Go.Proofs.Ytfcmijinklojbaa
