import Derived.Test.YtfcmijinklojbaaGreatS5
set_option linter.all false
open List renaming flatMap->nA,getElem_cons_succ->nG,getElem_cons_zero->nH,getElem_toArray->nI,length_set->nK,set->nL,length_append->nO,length_cons->nQ,length_nil->nR
open Go.Value renaming bool->nB
open Option.some renaming inj->nD
open Bool renaming eq_false_iff->nE
open Int renaming toNat_natCast->nJ
open Prod.mk renaming injEq->nM
open Nat renaming blt->nS,le_of_ble_eq_true->nT
open Eq renaming trans->nU
namespace Go.Proofs.YtfcmijinklojbaaGreat
open Go.KL
def gAa:Sch:=.fl 1 (.fl 2 .nil)
def gAb:Sch:=.fl 2 (.fl 3 .nil)
def gAc:Sch:=.fl 3 (.fl 4 .nil)
def gAd:Sch:=.fl 4 (.fl 5 .nil)
def gAe:Sch:=.fl 7 (.fl 8 .nil)
def gAf:Sch:=.fl 8 (.fl 9 .nil)
def gAg:Sch:=.fx 0 (.fl 1 .nil) .stop
def gAh:Sch:=.fx 1 (.fl 2 .nil) .stop
def gAi:Sch:=.fl 0 (.fx 1 .nil .stop)
def gAj:Sch:=.fx 3 (.fl 4 .nil) .stop
def gAk:Sch:=.fx 0 (.fx 1 .nil .stop) .stop
def gAl:Sch:=.fx 17 (.fl 18 .nil) .stop
def gAm:Sch:=.fl 0 gAh
def gAn:Sch:=.fx 21 (.fl 22 (.fl 23 .nil)) .stop
def gAo:Sch:=.fx 0 gAh .stop
def gAp:Sch:=.fx 0 gAa .stop
def gAq:Sch:=.fl 0 (.fl 1 (.fx 2 (.fl 3 .nil) .stop))
def gAr:Sch:=.fl 0 (.fl 1 (.fx 2 (.fx 3 .nil .stop) .stop))
def gAs:Sch:=.fl 0 (.fx 1 gAb .stop)
def gAt:Sch:=.fl 0 (.fl 1 (.fx 2 gAc .stop))
def gAu:Sch:=.fl 0 (.fl 1 (.fx 2 gAj .stop))
set_option maxHeartbeats 4000000
theorem Z {α:Type} {a:α}:a=a:=rfl
section
variable {r:Option Nat} {N:Nat} {P:Program} {l:List Oper} {Q:wCT} {D:List Deferred} {ks:List Nat} {σ:Env} {w:World} {i d j e:Nat} {s:Sch} {o:Oper} {b:Bool} {x:Operand} {v:Value} {p:Prop} {inst:Decidable p} {K:List Deferred->Env->World->Prop} {c1 c2:Code}
abbrev jV (n:Int):Value:=.int .i64 n
abbrev SW (w:World) (X:List Res) (U U':PHeap) (L:List Res) (w':World):Prop:=St ⟨w,X,U⟩ U' L w'
abbrev sW (w:World) (U U':PHeap) (L:List Res) (w':World):Prop:=St ⟨w,[],U⟩ U' L w'
abbrev St0 (w:World) (U:PHeap) (L:List Res):Prop:=St ⟨w,L,U⟩ U L w
theorem ifc {α:Type} {G p:Prop} {inst:Decidable p} {a b r:α} (h:@ite α p inst a b=r) (h1:Hid p->a=r->G) (h2:Hid (¬ p)->b=r->G):G:=by
 by_cases c:p
 rw [if_pos c] at h;exact h1 ⟨c⟩ h
 rw [if_neg c] at h;exact h2 ⟨c⟩ h
theorem bnK {α β:Type} {G:Prop} {o:Option α} {f:α->Option β} {r:β} (h:o.bind f=some r) (k:∀ x,o=some x->f x=some r->G):G:=by
 obtain ⟨x,h1,h2⟩:=bnd h
 exact k x h1 h2
theorem oR (h:(l[i]?,o.dst,nS d N,wanted l σ o)=(some o,some d,true,true)) (hr:∀ {w'},Runs P σ w' o v w') (k:OKS N P l Q D ks s (upd σ d v) w):OKS N P l Q D ks (.fl i s) σ w:=by
 simp only [nM] at h;exact OKS.r h.1 h.2.1 h.2.2.1 h.2.2.2 (fun _=>hr) k
theorem oL (h:(l[i]?,o.dst,nS d N,wanted l σ o,wPg (kOf ks i))=(some o,some d,true,true,false)) (hr:wEe P σ w o v) (k:OKS N P l Q D ks s (upd σ d v) w):OKS N P l Q D ks (.fl i s) σ w:=by
 simp only [nM] at h;exact OKS.m h.1 h.2.1 h.2.2.1 h.2.2.2.1 hr h.2.2.2.2 k
theorem oM (h:(l[i]?,o.dst,nS d N,wanted l σ o,o.op)=(some o,some d,true,true,.move x)) (hx:ev σ x=v) (k:OKS N P l Q D ks s (upd σ d v) w):OKS N P l Q D ks (.fl i s) σ w:=by
 simp only [nM] at h;exact OKS.rm h.1 h.2.1 h.2.2.1 h.2.2.2.1 h.2.2.2.2 hx k
theorem oA (h:(l[i]?,o.dst,nS d N,wanted l σ o,o.op)=(some o,some d,true,true,.assign x)) (hx:ev σ x=v) (k:OKS N P l Q D ks s (upd σ d v) w):OKS N P l Q D ks (.fl i s) σ w:=by
 simp only [nM] at h;exact OKS.ra h.1 h.2.1 h.2.2.1 h.2.2.2.1 h.2.2.2.2 hx k
theorem oF (h:(l[i]?,o.dst,nS d N,o.guard,(l[j]?).bind (·.dst),σ e,false == b)=(some o,some d,true,some (j,b),some e,.bool (decide p),false)) (c:Hid (¬ p)) (k:OKS N P l Q D ks s (upd σ d undef) w):OKS N P l Q D ks (.fl i s) σ w:=by
 simp only [nM] at h;exact OKS.p h.1 h.2.1 h.2.2.1 (wFl h.2.2.2.1 h.2.2.2.2.1 (h.2.2.2.2.2.1.trans (wPf c.out)) h.2.2.2.2.2.2) k
theorem oT (h:(l[i]?,o.dst,nS d N,o.guard,(l[j]?).bind (·.dst),σ e,true == b)=(some o,some d,true,some (j,b),some e,.bool (decide p),false)) (c:Hid p) (k:OKS N P l Q D ks s (upd σ d undef) w):OKS N P l Q D ks (.fl i s) σ w:=by
 simp only [nM] at h;exact OKS.p h.1 h.2.1 h.2.2.1 (wFl h.2.2.2.1 h.2.2.2.2.1 (h.2.2.2.2.2.1.trans (wPe c.out)) h.2.2.2.2.2.2) k
theorem oN {b2:Bool} (h:(l[i]?,o.dst,nS d N,o.guard,(l[j]?).bind (·.dst),σ e,b2 == b)=(some o,some d,true,some (j,b),some e,.bool b2,false)) (k:OKS N P l Q D ks s (upd σ d undef) w):OKS N P l Q D ks (.fl i s) σ w:=by
 simp only [nM] at h;exact OKS.p h.1 h.2.1 h.2.2.1 (wFl h.2.2.2.1 h.2.2.2.2.1 h.2.2.2.2.2.1 h.2.2.2.2.2.2) k
theorem nC {a b:Bool} (h:a=b):nB (!a)=nB (!b):=h ▸ rfl
theorem nF {a:Bool} (h:¬ a=true):nB (!a)=nB (!false):=nC (nE.2 h)
theorem wT (h:(o.guard,(l[j]?).bind (·.dst),σ e)=(some (j,true),some e,.bool (decide p))) (c:Hid p):wanted l σ o=true:=by
 simp only [nM] at h;exact wHA h.1 h.2.1 (h.2.2.trans (wPe c.out))
theorem wF (h:(o.guard,(l[j]?).bind (·.dst),σ e)=(some (j,false),some e,.bool (decide p))) (c:Hid (¬ p)):wanted l σ o=true:=by
 simp only [nM] at h;exact wHA h.1 h.2.1 (h.2.2.trans (wPf c.out))
theorem rU (h:(l[i]?,o.dst,nS d N)=(some o,some d,true)) (hw:wanted l σ o=true) (hr:∀ {w'},Runs P σ w' o v w') (k:OKS N P l Q D ks s (upd σ d v) w):OKS N P l Q D ks (.fl i s) σ w:=by
 simp only [nM] at h;exact OKS.r h.1 h.2.1 h.2.2 hw (fun _=>hr) k
theorem sR {id:Nat} (s:Sch) (hs:inOrder 0 s l.length=true) (h:OKS N P l (wDn (fun D σ w=>CK r N P c2 Q D σ w) Q) D [] s σ w):CK r N P (.seq (.region id l.toArray false) c2) Q D σ w:=CK.seq (CK.reg s hs h)
theorem rR {id:Nat} (s:Sch) (hs:inOrder 0 s l.length=true) (h:OKS N P l Q D [] s σ w):CK r N P (.region id l.toArray false) Q D σ w:=CK.reg s hs h
theorem eN (h:K D σ w):OKS N P l (wDn K Q) D ks .nil σ w:=OKS.e (wGw h)
theorem cT (hz:ev σ x=.bool (decide p)) (c:Hid p) (h:CK r N P c1 Q D σ w):CK r N P (.cond x c1 c2) Q D σ w:=CK.condT (hz.trans (wPe c.out)) h
theorem cF (hz:ev σ x=.bool (decide p)) (c:Hid (¬ p)) (h:CK r N P c2 Q D σ w):CK r N P (.cond x c1 c2) Q D σ w:=CK.condF (hz.trans (wPf c.out)) h
theorem kN (h:K D σ w):CK r N P .skip (wDn K Q) D σ w:=CK.skip (wGw h)
end
def fL1:Sch:=.fl 0 .nil
def fL2:Sch:=.fl 0 (.fl 1 .nil)
def fL3:Sch:=.fl 0 gAa
def fL4:Sch:=.fl 0 (.fl 1 gAb)
def fL5:Sch:=.fl 0 (.fl 1 (.fl 2 gAc))
def fL6:Sch:=.fl 0 (.fl 1 (.fl 2 (.fl 3 gAd)))
def fL7:Sch:=.fl 0 (.fl 1 (.fl 2 (.fl 3 (.fl 4 (.fl 5 (.fl 6 .nil))))))
def fL9:Sch:=.fl 0 (.fl 1 (.fl 2 (.fl 3 (.fl 4 (.fl 5 (.fl 6 gAe))))))
def fL10:Sch:=.fl 0 (.fl 1 (.fl 2 (.fl 3 (.fl 4 (.fl 5 (.fl 6 (.fl 7 gAf)))))))
def fL11:Sch:=.fl 0 (.fl 1 (.fl 2 (.fl 3 (.fl 4 (.fl 5 (.fl 6 (.fl 7 (.fl 8 (.fl 9 (.fl 10 .nil))))))))))
def fL13:Sch:=.fl 0 (.fl 1 (.fl 2 (.fl 3 (.fl 4 (.fl 5 (.fl 6 (.fl 7 (.fl 8 (.fl 9 (.fl 10 (.fl 11 (.fl 12 .nil))))))))))))
def fL15:Sch:=.fl 0 (.fl 1 (.fl 2 (.fl 3 (.fl 4 (.fl 5 (.fl 6 (.fl 7 (.fl 8 (.fl 9 (.fl 10 (.fl 11 (.fl 12 (.fl 13 (.fl 14 .nil))))))))))))))
def fL16:Sch:=.fl 0 (.fl 1 (.fl 2 (.fl 3 (.fl 4 (.fl 5 (.fl 6 (.fl 7 (.fl 8 (.fl 9 (.fl 10 (.fl 11 (.fl 12 (.fl 13 (.fl 14 (.fl 15 .nil)))))))))))))))
def fL20:Sch:=.fl 0 (.fl 1 (.fl 2 (.fl 3 (.fl 4 (.fl 5 (.fl 6 (.fl 7 (.fl 8 (.fl 9 (.fl 10 (.fl 11 (.fl 12 (.fl 13 (.fl 14 (.fl 15 (.fl 16 (.fl 17 (.fl 18 (.fl 19 .nil)))))))))))))))))))
def fL30:Sch:=.fl 0 (.fl 1 (.fl 2 (.fl 3 (.fl 4 (.fl 5 (.fl 6 (.fl 7 (.fl 8 (.fl 9 (.fl 10 (.fl 11 (.fl 12 (.fl 13 (.fl 14 (.fl 15 (.fl 16 (.fl 17 (.fl 18 (.fl 19 (.fl 20 (.fl 21 (.fl 22 (.fl 23 (.fl 24 (.fl 25 (.fl 26 (.fl 27 (.fl 28 (.fl 29 .nil)))))))))))))))))))))))))))))
def wCl (s:Sch):Sch:=.fl 0 (.fl 1 (.fl 2 (s)))
def wIs (s:Sch):Sch:=.fl 0 (.fl 1 (.fl 2 (.fl 3 (s))))
def wID (s:Sch):Sch:=.fl 0 (.fl 1 (.fl 2 (.fl 3 (.fl 4 (s)))))
def wIt (s:Sch):Sch:=.fl 0 (.fl 1 (.fl 2 (.fl 3 (.fl 4 (.fl 5 (s))))))
def wHV (s:Sch):Sch:=.fl 0 (.fl 1 (.fl 2 (.fl 3 (.fl 4 (.fl 5 (.fl 6 (s)))))))
def wPW (s:Sch):Sch:=.fl 0 (.fl 1 (.fl 2 (.fl 3 (.fl 4 (.fl 5 (.fl 6 (.fl 7 (s))))))))
def wQg (s:Sch):Sch:=.fl 0 (.fl 1 (.fl 2 (.fl 3 (.fl 4 (.fl 5 (.fl 6 (.fl 7 (.fl 8 (s)))))))))
def wQh (s:Sch):Sch:=.fl 0 (.fl 1 (.fl 2 (.fl 3 (.fl 4 (.fl 5 (.fl 6 (.fl 7 (.fl 8 (.fl 9 (s))))))))))
def wNy (s:Sch):Sch:=.fl 0 (.fl 1 (.fl 2 (.fl 3 (.fl 4 (.fl 5 (.fl 6 (.fl 7 (.fl 8 (.fl 9 (.fl 10 (s)))))))))))
def wMM (s:Sch):Sch:=.fl 0 (.fl 1 (.fl 2 (.fl 3 (.fl 4 (.fl 5 (.fl 6 (.fl 7 (.fl 8 (.fl 9 (.fl 10 (.fl 11 (.fl 12 (s)))))))))))))
def wQi (s:Sch):Sch:=.fl 0 (.fl 1 (.fl 2 (.fl 3 (.fl 4 (.fl 5 (.fl 6 (.fl 7 (.fl 8 (.fl 9 (.fl 10 (.fl 11 (.fl 12 (.fl 13 (.fl 14 (s)))))))))))))))
def wQj (s:Sch):Sch:=.fl 0 (.fl 1 (.fl 2 (.fl 3 (.fl 4 (.fl 5 (.fl 6 (.fl 7 (.fl 8 (.fl 9 (.fl 10 (.fl 11 (.fl 12 (.fl 13 (.fl 14 (.fl 15 (s))))))))))))))))
def wMN (s:Sch):Sch:=.fl 0 (.fl 1 (.fl 2 (.fl 3 (.fl 4 (.fl 5 (.fl 6 (.fl 7 (.fl 8 (.fl 9 (.fl 10 (.fl 11 (.fl 12 (.fl 13 (.fl 14 (.fl 15 (.fl 16 (s)))))))))))))))))
def fC2_6 (s:Sch):Sch:=.fl 2 (.fl 3 (.fl 4 (.fl 5 (.fl 6 (s)))))
def wQk (s:Sch):Sch:=.fl 2 (.fl 3 (.fl 4 (.fl 5 (.fl 6 (.fl 7 (.fl 8 (.fl 9 (.fl 10 (s)))))))))
def fC3_5 (s:Sch):Sch:=.fl 3 (.fl 4 (.fl 5 (s)))
def fC3_6 (s:Sch):Sch:=.fl 3 (.fl 4 (.fl 5 (.fl 6 (s))))
def wGU (s:Sch):Sch:=.fl 4 (.fl 5 (.fl 6 (s)))
def fC4_8 (s:Sch):Sch:=.fl 4 (.fl 5 (.fl 6 (.fl 7 (.fl 8 (s)))))
def wQl (s:Sch):Sch:=.fl 5 (.fl 6 (.fl 7 (s)))
def fC5_9 (s:Sch):Sch:=.fl 5 (.fl 6 (.fl 7 (.fl 8 (.fl 9 (s)))))
def wQm (s:Sch):Sch:=.fl 6 (.fl 7 (.fl 8 (.fl 9 (.fl 10 (s)))))
def wNz (s:Sch):Sch:=.fl 6 (.fl 7 (.fl 8 (.fl 9 (.fl 10 (.fl 11 (.fl 12 (s)))))))
def wQn (s:Sch):Sch:=.fl 8 (.fl 9 (.fl 10 (s)))
def wOA (s:Sch):Sch:=.fl 9 (.fl 10 (.fl 11 (.fl 12 (.fl 13 (.fl 14 (.fl 15 (.fl 16 (.fl 17 (.fl 18 (.fl 19 (.fl 20 (s))))))))))))
def wPX (s:Sch):Sch:=.fl 11 (.fl 12 (.fl 13 (.fl 14 (.fl 15 (.fl 16 (.fl 17 (.fl 18 (.fl 19 (s)))))))))
def wMO (s:Sch):Sch:=.fl 14 (.fl 15 (.fl 16 (s)))
def wMP (s:Sch):Sch:=.fl 18 (.fl 19 (.fl 20 (.fl 21 (.fl 22 (s)))))
def wMQ (s:Sch):Sch:=.fl 24 (.fl 25 (.fl 26 (.fl 27 (.fl 28 (.fl 29 (.fl 30 (s)))))))
theorem zA:type_of% @Tryz.runUnderlying22:=@Tryz.runUnderlying22
theorem zB:type_of% @nT:=@nT
theorem zC:type_of% @Tryz.sizeOf3:=@Tryz.sizeOf3
theorem zD:type_of% @wKD:=@wKD
theorem zF:type_of% @Tryz.runUnderlying25:=@Tryz.runUnderlying25
theorem zG:type_of% @Runs.fa:=@Runs.fa
theorem zH:type_of% @wKC:=@wKC
theorem zI:type_of% @Tryz.isAgg3:=@Tryz.isAgg3
theorem zJ:type_of% @wFl:=@wFl
theorem zK:type_of% @Runs.pickT:=@Runs.pickT
theorem zL:type_of% @Hid.mk:=@Hid.mk
theorem zM:type_of% @CK.seq:=@CK.seq
theorem zN:type_of% @Enters.mk:=@Enters.mk
theorem zO:type_of% @wIv:=@wIv
theorem zP:type_of% @OKS.callH:=@OKS.callH
theorem zQ:type_of% @wGw:=@wGw
theorem zR:type_of% @Tryz.sizeOf22:=@Tryz.sizeOf22
theorem zS:type_of% @OKS.r:=@OKS.r
theorem zU:type_of% @wHA:=@wHA
theorem zV:type_of% @wNW:=@wNW
theorem zW:type_of% @Tryz.runUnderlying118:=@Tryz.runUnderlying118
theorem zX:type_of% @CK.ret:=@CK.ret
theorem zY:type_of% @PHeap.Le.refl:=@PHeap.Le.refl
theorem zZ:type_of% @Tryz.isAgg22:=@Tryz.isAgg22
theorem zd:type_of% @OKS.p:=@OKS.p
theorem ze:type_of% @Tryz.sizeOf25:=@Tryz.sizeOf25
theorem zf:type_of% @Runs.pickF:=@Runs.pickF
theorem zg:type_of% @Tryz.sizeOf66:=@Tryz.sizeOf66
theorem zh:type_of% @Runs.addw:=@Runs.addw
theorem zi:type_of% @OKS.m:=@OKS.m
theorem zj:type_of% @Tryz.sizeOf59:=@Tryz.sizeOf59
theorem zk:type_of% @CK.block:=@CK.block
theorem zl:type_of% @Runs.lss:=@Runs.lss
theorem zm:type_of% @Tryz.zeroValue3:=@Tryz.zeroValue3
theorem zn:type_of% @Runs.nilp:=@Runs.nilp
theorem zo:type_of% @OKS.buildSlice:=@OKS.buildSlice
theorem zp:type_of% @Tryz.runUnderlying59:=@Tryz.runUnderlying59
theorem zq:type_of% @wIu:=@wIu
theorem zt:type_of% @Tryz.runUnderlying23:=@Tryz.runUnderlying23
theorem zu:type_of% @OKS.st:=@OKS.st
theorem zw:type_of% @wKB:=@wKB
theorem zx:type_of% @CK.condT:=@CK.condT
theorem zy:type_of% @wPf:=@wPf
theorem zz:type_of% @OKS.rm:=@OKS.rm
theorem ZA:type_of% @res1:=@res1
theorem ZB:type_of% @CK.condF:=@CK.condF
theorem ZC:type_of% @Tryz.sizeOf23:=@Tryz.sizeOf23
theorem ZD:type_of% @Tryz.zeroValue66:=@Tryz.zeroValue66
theorem ZE:type_of% @Tryz.underlying22:=@Tryz.underlying22
theorem ZF:type_of% @OKS.alloc:=@OKS.alloc
theorem ZG:type_of% @Tryz.runUnderlying124:=@Tryz.runUnderlying124
theorem ZH:type_of% @OKS.px:=@OKS.px
theorem ZI:type_of% @Tryz.isAgg25:=@Tryz.isAgg25
theorem ZJ:type_of% @Tryz.mixed:=@Tryz.mixed
theorem ZK:type_of% @OKS.e:=@OKS.e
theorem ZL:type_of% @Runs.to:=@Runs.to
theorem ZM:type_of% @Runs.ext:=@Runs.ext
theorem ZN:type_of% @Tryz.isAgg66:=@Tryz.isAgg66
theorem ZO:type_of% @Runs.notT:=@Runs.notT
theorem ZP:type_of% @Tryz.isAgg101:=@Tryz.isAgg101
theorem ZQ:type_of% @CK.anyOrd:=@CK.anyOrd
theorem ZR:type_of% @Tryz.runUnderlying112:=@Tryz.runUnderlying112
theorem ZS:type_of% @Tryz.zeroValue59:=@Tryz.zeroValue59
theorem ZT:type_of% @Tryz.isAgg59:=@Tryz.isAgg59
theorem ZU:type_of% @Runs.iaA:=@Runs.iaA
theorem ZV:type_of% @Runs.iaI:=@Runs.iaI
theorem ZW:type_of% @wGx:=@wGx
theorem ZX:type_of% @OKS.append:=@OKS.append
theorem ZY:type_of% @Tryz.isAgg23:=@Tryz.isAgg23
theorem Za:type_of% @Runs.len:=@Runs.len
theorem Zb:type_of% @OKS.cutD:=@OKS.cutD
theorem Zc:type_of% @OKS.box:=@OKS.box
theorem Zd:type_of% @CK.skip:=@CK.skip
theorem Ze:type_of% @CK.exit:=@CK.exit
theorem Zf:type_of% @Tryz.runUnderlying66:=@Tryz.runUnderlying66
theorem Zg:type_of% @Runs.build:=@Runs.build
theorem Zh:type_of% @Tryz.runUnderlying114:=@Tryz.runUnderlying114
theorem Zi:type_of% @Tryz.zeroValue25:=@Tryz.zeroValue25
theorem Zj:type_of% @Runs.neq:=@Runs.neq
theorem Zk:type_of% @OKS.both:=@OKS.both
theorem Zl:type_of% @Tryz.sizeOf112:=@Tryz.sizeOf112
theorem Zm:type_of% @Runs.iaN:=@Runs.iaN
theorem Zn:type_of% @Tryz.runUnderlying3:=@Tryz.runUnderlying3
theorem Zo:type_of% @wPe:=@wPe
theorem Zp:type_of% @Runs.subw:=@Runs.subw
theorem Zq:type_of% @Tryz.call30:=@Tryz.call30
theorem Zr:type_of% @Tryz.sizeOf4:=@Tryz.sizeOf4
theorem Zs:type_of% @Tryz.runUnderlying122:=@Tryz.runUnderlying122
theorem Zt:type_of% @Tryz.runUnderlying116:=@Tryz.runUnderlying116
theorem Zu:type_of% @Tryz.call46:=@Tryz.call46
theorem Zv:type_of% @Tryz.sizeOf114:=@Tryz.sizeOf114
end Go.Proofs.YtfcmijinklojbaaGreat
namespace Go.Proofs.YtfcmijinklojbaaGreat
open Go.KL
set_option maxHeartbeats 4000000
theorem wGN (p0:List Int) (ab:Option Addr) (ae:Nat) (w:World) (U:PHeap) (hS:St0 w U []) (am:Sl U 1 ab ae p0.length (nA KL.encB8 p0)) {r:wAE} (hm:wCP p0=some r):Gv Tryz.prog 24 [.slice ab p0.length ae] w (wCe w [] U (fun U_ L_ v=>∃ (b0:Nat) (A0p0:Option Addr) (c0p0:Nat),v=.pointer (some ⟨b0,0,none⟩)/\L_=[.blk b0 124 [.slice A0p0 r.bytes.length c0p0,jV r.next,.int .u32 r.state]]/\Sl U_ 1 A0p0 c0p0 r.bytes.length (nA KL.encB8 r.bytes))):=by
 unfold wCP at hm
 refine Gv.of Tryz.func24 Z Tryz.ntmps24 Tryz.results24 Z (sR fL1 Z (oA Z Z (eN (sR gAq Z (oM Z Z ?_)))))
 let B0:List Value:=[.slice ab p0.length ae,jV 0,.int .u32 17]
 refine zS rfl rfl rfl rfl (fun _=>Zg (pv:=[(0,.slice ab p0.length ae),(2,.int .u32 17)]) (z:=[.slice none 0 0,jV 0,.int .u32 0]) (cs:=B0) rfl (wAK rfl (wAK rfl wAa)) Tryz.zeroValue124 wLs rfl rfl) (Zc (cs:=B0) rfl rfl rfl rfl rfl rfl (by rfl) hS ?_)
 intro W1 b2 ak
 refine oA Z Z (eN (zX ?_))
 cases hm
 exact ⟨Z,_,(ZA Z),U,_,ak,b2,ab,ae,Z,Z,am⟩
theorem wBq (p0:wAE) (aj:Nat) (ae:Option Addr) (ah:Nat) (p1:Int) (w:World) (U:PHeap) (hS:St0 w U [.blk aj 124 [.slice ae p0.bytes.length ah,jV p0.next,.int .u32 p0.state]]) (am:Sl U 1 ae ah p0.bytes.length (nA KL.encB8 p0.bytes)) {r:Int × wAE} (hm:wAY p0 p1=some r):Gv Tryz.prog 70 [.pointer (some ⟨aj,0,none⟩),jV p1] w (wCe w [.blk aj 124 [.slice ae p0.bytes.length ah,jV p0.next,.int .u32 p0.state]] U (fun U_ L_ v=>∃ (bf:Option Addr) (bh:Nat),v=jV r.1/\L_=[.blk aj 124 [.slice bf r.2.bytes.length bh,jV r.2.next,.int .u32 r.2.state]]/\Sl U_ 1 bf bh r.2.bytes.length (nA KL.encB8 r.2.bytes))):=by
 unfold wAY at hm
 refine Gv.of Tryz.func70 Z Tryz.ntmps70 Tryz.results70 Z (sR fL1 Z (oA Z Z (eN (zM (sR fL10 Z (oM Z Z (oR Z (Runs.leq Z Z Z) (oM Z Z ?_))))))))
 by_cases c2:p1 <= 1
 have bk:=hm;rw [if_pos c2] at bk;replace c2:=zL c2
 refine oT Z c2 (oT Z c2 (oT Z c2 (oT Z c2 (oT Z c2 (oT Z c2 (oR Z (zK Z (Zo c2.out) Z) (eN (zx Z (sR fL1 Z (oA Z Z (eN (zX (zH ?_)))))))))))))
 cases bk
 exact ⟨Z,_,(ZA Z),U,_,hS,ae,ah,Z,Z,am⟩
 have bl:=hm;rw [if_neg c2] at bl;replace c2:=zL c2
 refine zz Z Z Z (wF Z c2) Z Z (rU Z (wF Z c2) (zn Z Z) (rU Z (wF Z c2) (zG Z Z ZG Z Tryz.sizeOf53) (zi Z Z Z (wF Z c2) (hS.ldB (j:=0) Z Z Z Tryz.isAgg53 (v:=.slice ae p0.bytes.length ah) Z) Z (rU Z (wF Z c2) (Za Z Z Tryz.runUnderlying53) (rU Z (wF Z c2) (Runs.eql Z Z Z) (oR Z (zf Z (zy c2.out) Z) (eN (ifc bl ?_ ?_))))))))
 intro c5 bM
 refine cT Z c5 (sR fL1 Z (oA Z Z (eN (zX (zH ?_)))))
 cases bM
 exact ⟨Z,_,(ZA Z),U,_,hS,ae,ah,Z,Z,am⟩
 intro c5 bN
 refine cF Z c5 (kN (zM (ZQ ZJ [3,3,3,1,3,3,3,1,3,3,3,1,3,3,3,1,3,3,3,3,1,3,3,3,1,3,3,3,3,3] fL30 (by kernel_rfl) ?_)))
 have ai:=hS.drew
 generalize hw_W9:({ w with drawn:=w.drawn + 1 }:World)=W9 at ai ⊢
 refine oM Z Z (oR Z (zn Z Z) (oR Z (zG Z Z ZG Z Tryz.sizeOf53) (oL Z (ai.ldB (j:=0) Z Z Z Tryz.isAgg53 (v:=.slice ae p0.bytes.length ah) Z) (oM Z Z (oR Z (zn Z Z) (oR Z (zG Z Z ZG Z zC) (oL Z (ai.ldB (j:=0) Z Z Z zI (v:=jV p0.next) Z) (oM Z Z (oR Z (zn Z Z) (oR Z (zG Z Z ZG Z Tryz.sizeOf53) (oL Z (ai.ldB (j:=0) Z Z Z Tryz.isAgg53 (v:=.slice ae p0.bytes.length ah) Z) (oR Z (Za Z Z Tryz.runUnderlying53) (bnK bN fun bS bp bB=>oR Z (Runs.rem Z Z Z bp) (bnK bB fun bm be bC=>?_))))))))))))))
 have q:=am.el (fun _=>rfl) (wCE be)
 obtain ⟨bQ,bR,bv,bw⟩:=q
 refine oR Z (ZV Z Z bv Z Tryz.runUnderlying53 Tryz.sizeOf5 (wFG be) (wFj be)) (oL Z (ai.ldC (f:=0) bw (v:=.int .u8 bm) Z Z Tryz.isAgg5 Z) (oR Z (Runs.cvu Z Z Tryz.runUnderlying5 Zs Z Z) (oM Z Z (oR Z (zn Z Z) (oR Z (zG Z Z ZG Z zC) (oL Z (ai.ldB (j:=0) Z Z Z zI (v:=jV p0.next) Z) (oM Z Z (oR Z (zn Z Z) (oR Z (zG Z Z ZG Z Tryz.sizeOf53) (oL Z (ai.ldB (j:=0) Z Z Z Tryz.isAgg53 (v:=.slice ae p0.bytes.length ah) Z) (oR Z (Za Z Z Tryz.runUnderlying53) (bnK bC fun bO bq bD=>oR Z (Runs.quo Z Z Z bq) (oR Z (Runs.cvu Z Z Zn Zs Z Z) (oA Z Z (oA Z Z (eN (zM (CK.fresh fun aZ au=>?_))))))))))))))))))
 have ap:aZ 0=.pointer (some ⟨aj,0,none⟩):=(au 0).trans rfl
 have av:aZ 1=jV p1:=(au 1).trans rfl
 have az:aZ 5=.int .u32 (wDm bm):=(au 5).trans rfl
 have bi:aZ 6=.int .u32 (wDm bO):=(au 6).trans rfl
 clear au
 refine rR (wHV (.fx 7 .nil .stop)) Z (oM Z ap (oR Z (zn Z Z) (oR Z (zG Z Z ZG Z zC) (oL Z (ai.ldB (j:=0) Z Z Z zI (v:=jV p0.next) Z) (oR Z (zh Z Z Z) (oR Z (zn Z Z) (oR Z (zG Z Z ZG Z zC) (zu (j:=0) (vs:=[jV (w64 (p0.next + 1))]) Z Z Z Z ai Z Z Z Z zC (zB Z) Z Z Z ?_))))))))
 intro bn bz
 let B0:Res:=.blk aj 124 [.slice ae p0.bytes.length ah,jV p0.next,.int .u32 p0.state]
 have bj:SW w [B0] U U [.blk aj 124 [.slice ae p0.bytes.length ah,jV (w64 (p0.next + 1)),.int .u32 p0.state]] bn:=bz
 refine eN (sR (wQi (.fx 15 .nil .stop)) Z (oM Z ap (oM Z ap (oR Z (zn Z Z) (oR Z (zG Z Z ZG Z Tryz.sizeOf122) (oL Z (bj.ldB (j:=0) Z Z Z Tryz.isAgg122 (v:=.int .u32 p0.state) Z) (oR Z (Runs.mulu Z Z Z) (oM Z az (oR Z (Runs.addu Z Z Z) (oM Z bi (oR Z (Runs.mulu Z Z Z) (oR Z (Runs.addu Z Z Z) (oR Z (Runs.addu Z Z Z) (bnK bD fun x32 br bE=>oR Z (Runs.rem Z Z Z br) (oR Z (zn Z Z) (oR Z (zG Z Z ZG Z Tryz.sizeOf122) (zu (j:=0) (vs:=[.int .u32 x32]) Z Z Z Z bj Z Z Z Z Tryz.sizeOf122 (zB Z) Z Z Z ?_)))))))))))))))))
 intro bo bA
 have aq:SW w [B0] U U [.blk aj 124 [.slice ae p0.bytes.length ah,jV (w64 (p0.next + 1)),.int .u32 x32]] bo:=bA
 refine eN (zM (sR fL6 Z (oM Z bi (oR Z (Runs.eql Z Z Z) (oM Z Z (ifc bE ?_ ?_))))))
 intro ak bF
 refine zz Z Z Z (wT Z ak) Z av (rU Z (wT Z ak) (Runs.leq Z Z Z) (oR Z (zK Z (Zo ak.out) Z) (eN (ifc bF ?_ ?_))))
 intro ba bG
 refine cT Z ba (sR fL5 Z (oM Z az (oR Z (Runs.cvw Z Z Zs Zn Z Z) (oM Z av (bnK bG fun x42 bs bH=>oR Z (Runs.rem Z Z Z bs) (oA Z Z (eN (zX (zH ?_)))))))))
 cases bH
 exact ⟨Z,_,(ZA Z),U,_,aq,ae,ah,Z,Z,am⟩
 intro ba bI
 refine cF Z ba (kN (sR fL11 Z (oM Z ap (oR Z (zn Z Z) (oR Z (zG Z Z ZG Z Tryz.sizeOf122) (oL Z (aq.ldB (j:=0) Z Z Z Tryz.isAgg122 (v:=.int .u32 x32) Z) (oR Z (Runs.mulu Z Z Z) (oM Z az (oR Z (Runs.addu Z Z Z) (oR Z (Runs.cvw Z Z Zs Zn Z Z) (oM Z av (bnK bI fun x46 bt bJ=>oR Z (Runs.rem Z Z Z bt) (oA Z Z (eN (zX ?_)))))))))))))))
 cases bJ
 exact ⟨Z,_,(ZA Z),U,_,aq,ae,ah,Z,Z,am⟩
 intro ak bK
 refine oF Z ak (oF Z ak (oR Z (zf Z (zy ak.out) Z) (eN (ZB Z (kN (sR fL11 Z (oM Z ap (oR Z (zn Z Z) (oR Z (zG Z Z ZG Z Tryz.sizeOf122) (oL Z (aq.ldB (j:=0) Z Z Z Tryz.isAgg122 (v:=.int .u32 x32) Z) (oR Z (Runs.mulu Z Z Z) (oM Z az (oR Z (Runs.addu Z Z Z) (oR Z (Runs.cvw Z Z Zs Zn Z Z) (oM Z av (bnK bK fun x50 bu bL=>oR Z (Runs.rem Z Z Z bu) (oA Z Z (eN (zX ?_)))))))))))))))))))
 cases bL
 exact ⟨Z,_,(ZA Z),U,_,aq,ae,ah,Z,Z,am⟩
theorem wCB (p0:wAE) (ab:Nat) (ae:Option Addr) (ah:Nat) (p1:Int) (p2:Int) (w:World) (U:PHeap) (hS:St0 w U [.blk ab 124 [.slice ae p0.bytes.length ah,jV p0.next,.int .u32 p0.state]]) (bf:Sl U 1 ae ah p0.bytes.length (nA KL.encB8 p0.bytes)) {r:Int × wAE} (hm:wAV p0 p1 p2=some r):Gv Tryz.prog 68 [.pointer (some ⟨ab,0,none⟩),jV p1,jV p2] w (wCe w [.blk ab 124 [.slice ae p0.bytes.length ah,jV p0.next,.int .u32 p0.state]] U (fun U_ L_ v=>∃ (ap:Option Addr) (av:Nat),v=jV r.1/\L_=[.blk ab 124 [.slice ap r.2.bytes.length av,jV r.2.next,.int .u32 r.2.state]]/\Sl U_ 1 ap av r.2.bytes.length (nA KL.encB8 r.2.bytes))):=by
 unfold wAV at hm
 refine Gv.of Tryz.func68 Z Tryz.ntmps68 Tryz.results68 Z (sR fL1 Z (oA Z Z (eN (sR (wIt (.fx 6 gAe .stop)) Z (oM Z Z (oM Z Z (oM Z Z (oM Z Z (oR Z (Zp Z Z Z) (oR Z (zh Z Z Z) ?_))))))))))
 have q:=bnd hm
 obtain ⟨⟨x2,x3⟩,h4,az⟩:=q
 try dsimp only at az
 refine zP 1 Z Z Z Z (zN Z Z Tryz.call70 (zD Z (zD Z zV)) Z) hS (fun hs=>wBq p0 ab ae ah (w64 ((w64 (p2 - p1)) + 1)) w U hs bf h4) (.inl Z) ?_
 rintro U6 L7 v8 W9 bh bb ⟨am,au,rfl,rfl,aZ⟩
 have be:SW w [.blk ab 124 [.slice ae p0.bytes.length ah,jV p0.next,.int .u32 p0.state]] U U6 [.blk ab 124 [.slice am x3.bytes.length au,jV x3.next,.int .u32 x3.state]] W9:=bb
 refine oR Z (zh Z Z Z) (oA Z Z (eN (zX ?_)))
 cases az
 exact ⟨Z,_,(ZA Z),U6,_,be,am,au,Z,Z,aZ⟩
theorem wBZ (p0:wAE) (ab:Nat) (ae:Option Addr) (ah:Nat) (p1:Int) (w:World) (U:PHeap) (hS:St0 w U [.blk ab 124 [.slice ae p0.bytes.length ah,jV p0.next,.int .u32 p0.state]]) (be:Sl U 1 ae ah p0.bytes.length (nA KL.encB8 p0.bytes)) {r:Bool × wAE} (hm:wAZ p0 p1=some r):Gv Tryz.prog 69 [.pointer (some ⟨ab,0,none⟩),jV p1] w (wCe w [.blk ab 124 [.slice ae p0.bytes.length ah,jV p0.next,.int .u32 p0.state]] U (fun U_ L_ v=>∃ (am:Option Addr) (au:Nat),v=.bool r.1/\L_=[.blk ab 124 [.slice am r.2.bytes.length au,jV r.2.next,.int .u32 r.2.state]]/\Sl U_ 1 am au r.2.bytes.length (nA KL.encB8 r.2.bytes))):=by
 unfold wAZ at hm
 refine Gv.of Tryz.func69 Z Tryz.ntmps69 Tryz.results69 Z (sR fL1 Z (oA Z Z (eN (sR gAt Z (oM Z Z (oM Z Z ?_))))))
 have q:=bnd hm
 obtain ⟨⟨x2,x3⟩,h4,av⟩:=q
 try dsimp only at av
 refine zP 1 Z Z Z Z (zN Z Z Tryz.call70 (zD Z (zD Z zV)) Z) hS (fun hs=>wBq p0 ab ae ah p1 w U hs be h4) (.inl Z) ?_
 rintro U6 L7 v8 W9 bg ba ⟨ak,aq,rfl,rfl,aY⟩
 have bb:SW w [.blk ab 124 [.slice ae p0.bytes.length ah,jV p0.next,.int .u32 p0.state]] U U6 [.blk ab 124 [.slice ak x3.bytes.length aq,jV x3.next,.int .u32 x3.state]] W9:=ba
 refine oR Z (Runs.eql Z Z Z) (oA Z Z (eN (zX ?_)))
 cases av
 exact ⟨Z,_,(ZA Z),U6,_,bb,ak,aq,Z,Z,aY⟩
theorem wBw (p0:List wAA) (au:Option Addr) (av:Nat) (p1:wAA) (w:World) (U:PHeap) (hS:St0 w U []) (bw:Sl U 2 au av p0.length (nA wAB p0)) {r:Int} (hm:wAX p0 p1=some r):Gv Tryz.prog 71 [.slice au p0.length av,.agg #[jV p1.Skier,jV p1.Lane]] w (wCe w [] U (fun U_ L_ v=>v=jV r/\L_=[])):=by
 unfold wAX at hm
 refine Gv.of Tryz.func71 Z Tryz.ntmps71 Tryz.results71 Z (sR gAg Z ?_)
 let B0:List Value:=[jV p1.Skier,jV p1.Lane]
 refine Zc (cs:=B0) rfl rfl rfl rfl rfl rfl (by rfl) hS ?_
 intro W1 b2 bu
 refine oA Z Z (eN (zM (sR fL3 Z (oM Z Z (oR Z (Za Z Z zt) (oM Z Z (eN (zk ?_))))))))
 have q:=wCo hm
 obtain ⟨r7,am⟩:=q
 have q:=wCn am
 obtain ⟨aq,bB⟩:=q
 replace aq:=zL aq
 refine CK.forN (fun k6 _ σ_ w_=>∃ (U_:PHeap),σ_ 8=jV (↑k6:Int)/\σ_ 0=.slice au p0.length av/\σ_ 3=.pointer (some ⟨b2,0,none⟩)/\σ_ 7=jV (↑p0.length:Int)/\PHeap.Le U U_/\sW w U U_ [.blk b2 59 B0] w_) bB ?_ ?_ ?_
 exact ⟨U,Z,Z,Z,Z,(zY _),bu⟩
 rintro k6 ⟨⟩ bR bS aZ ap ⟨aY,ak,be,bf,bg,bk,bt⟩ bj bz
 try dsimp only at bj
 have bb:Hid ((↑k6:Int) < (↑p0.length:Int)):=zL (wCI ap)
 replace ap:=zL ap
 have bC:Hid (w64 ((↑k6:Int) + 1)=(↑(k6 + 1):Int)):=zL (by have h1:=aq.out;have h2:=bb.out;rw [wAf] <;> omega)
 refine sR fL1 rfl (zS rfl rfl rfl rfl (fun _=>zl rfl ak bg) (eN (zM (cT Z bb (kN (zM (zk (sR fL2 rfl (zz rfl rfl rfl rfl rfl ak (OKS.ra rfl rfl rfl rfl rfl rfl (eN (zM (ZQ ZJ [1,3,3,3,1,3] fL6 (by kernel_rfl) ?_)))))))))))))
 have ae:=bt.drew
 generalize hw_W27:({ aZ with drawn:=aZ.drawn + 1 }:World)=bJ at ae ⊢
 refine oL Z (ae.ldBA (j:=0) Z Z bf ZT zj (vs:=B0) Z Z) (oM Z be (oM Z Z (bnK bj fun az bh bD=>?_)))
 have bq:=bw.le bk
 have q:=bq.el (fun _=>rfl) (wCE bh)
 obtain ⟨bL,bP,br,bs⟩:=q
 refine oR Z (Zm Z Z br Z zt zj (wFH bh)) (oL Z (ae.ldCA (f:=0) bs Z Z ZT zj (us:=[jV az.Skier,jV az.Lane]) Z Z) (oR Z (Runs.eqS (enc:=wAB) (a:=p1) (b:=az) Z Z Z wQe wQd) (eN (ifc bD ?_ ?_))))
 intro aj bE
 refine cT Z aj (sR fL2 Z (oM Z Z (oA Z Z (eN (zX (zO (zH ?_)))))))
 have q:=wAS bE
 obtain ⟨bH,bF,bn⟩:=q
 have q:=wBI hm am (bz bH bn)
 obtain rfl:=q
 refine zH (zO (zH ?_))
 cases bF
 exact ⟨rfl,_,(ZA rfl),aY,_,(ae.pick [] _ (by decide) rfl),rfl,rfl⟩
 intro aj bG
 refine cF Z aj (Zd (zq (zQ (rR fL2 Z (oR Z (ZL (zh Z ak Z) (congrArg (jV) bC.out)) (oM Z Z (ZK ?_)))))))
 have q:=nD bG
 obtain rfl:=q
 exact zQ ⟨Z,_,Z,⟨aY,Z,be,bf,bg,bk,ae⟩⟩
 rintro ⟨⟩ bT bK ⟨bl,bp,bM,bN,bo,bO,bv⟩ bA
 have bi:=wDp hm am bA
 try dsimp only at bi
 have bm:Hid (¬ ((↑(((↑p0.length:Int):Int) - 0).toNat:Int) < (↑p0.length:Int))):=zL (wBf)
 refine sR fL1 Z (oR Z (zl Z bp bo) (eN (zM (cF Z bm (Ze (zw (zw (ZW (zQ (sR fL1 Z (oA Z Z (eN (zX ?_)))))))))))))
 cases bi
 exact ⟨rfl,_,(ZA rfl),bl,_,(bv.pick [] _ (by decide) rfl),rfl,rfl⟩
theorem wAh (p0:List wAA) (ah:Option Addr) (ai:Nat) (p1:wAA) (w:World) (U:PHeap) (hS:St0 w U []) (aZ:Sl U 2 ah ai p0.length (nA wAB p0)) {r:Bool} (hm:wAH p0 p1=some r):Gv Tryz.prog 25 [.slice ah p0.length ai,.agg #[jV p1.Skier,jV p1.Lane]] w (wCe w [] U (fun U_ L_ v=>v=.bool r/\L_=[])):=by
 unfold wAH at hm
 refine Gv.of Tryz.func25 Z Tryz.ntmps25 Tryz.results25 Z (sR gAg Z ?_)
 let B0:List Value:=[jV p1.Skier,jV p1.Lane]
 refine Zc (cs:=B0) rfl rfl rfl rfl rfl rfl (by rfl) hS ?_
 intro W1 b2 ak
 refine oA Z Z (eN (sR gAt Z (oM Z Z (oL Z (ak.ldBA (j:=0) Z Z Z ZT zj (vs:=B0) Z Z) (bnK hm fun x5 h6 am=>zP 0 Z Z Z Z (zN Z Z Tryz.call71 (zD Z (zD Z zV)) Z) ak (fun hs=>wBw p0 ah ai p1 W1 U hs aZ h6) (.inr Z) ?_)))))
 rintro U8 L9 be aq bb az ⟨rfl,rfl⟩
 have aY:sW w U U8 [.blk b2 59 B0] aq:=az
 refine oR Z (Runs.geq Z Z Z) (oA Z Z (eN (zX ?_)))
 first | (obtain rfl:=nD am) | cases am
 exact ⟨rfl,_,(ZA rfl),U8,_,(aY.pick [] _ (by decide) rfl),rfl,rfl⟩
theorem wEX (p0:wAE) (am:Nat) (cY:Option Addr) (cZ:Nat) (p1:Int) (w:World) (U:PHeap) (hS:St0 w U [.blk am 124 [.slice cY p0.bytes.length cZ,jV p0.next,.int .u32 p0.state]]) (pE:Sl U 1 cY cZ p0.bytes.length (nA KL.encB8 p0.bytes)) {r:wAC × (List (List Int)) × wAE} (hm:wBX p0 p1=some r):Gv Tryz.prog 23 [.pointer (some ⟨am,0,none⟩),jV p1] w (wCe w [.blk am 124 [.slice cY p0.bytes.length cZ,jV p0.next,.int .u32 p0.state]] U (fun U_ L_ v=>∃ (fY:Option Addr) (gN:Nat) (fZ:Option Addr) (gO:Nat) (ga:Option Addr) (gP:Nat) (A1:Option Addr) (c1:Nat) (ie:List Value) (gj:Option Addr) (ic:Nat),v=.tuple #[.agg #[.slice fY r.1.Shots.length gN,.slice fZ r.1.Down.length gO,.slice ga r.1.Across.length gP],.slice A1 r.2.1.length c1]/\L_=[.row fY gN 3 1 (nA KL.encI r.1.Shots),.row fZ gO 3 1 (nA KL.encI r.1.Down),.row A1 c1 22 1 ie,.blk am 124 [.slice gj r.2.2.bytes.length ic,jV r.2.2.next,.int .u32 r.2.2.state]]/\Sl U_ 2 ga gP r.1.Across.length (nA wAB r.1.Across)/\RlL U_ wNt r.2.1 ie/\Sl U_ 1 gj ic r.2.2.bytes.length (nA KL.encB8 r.2.2.bytes))):=by
 unfold wBX at hm
 refine Gv.of Tryz.func23 Z Tryz.ntmps23 Tryz.results23 Z (sR gAg Z ?_)
 let B0:List Value:=[.slice none 0 0,.slice none 0 0,.slice none 0 0]
 refine ZF (cs:=B0) Z Z Z Z Z Zi Z hS ?_
 intro W2 b3 ot
 refine oA Z Z (eN (sR (.fx 0 .nil .stop) Z (ZF (cs:=B0) Z Z Z Z Z Zi Z ot ?_)))
 intro W6 b7 pj
 refine eN (sR gAq Z (oM Z Z (oM Z Z ?_)))
 have q:=bnd hm
 obtain ⟨⟨aZ,fO⟩,lZ,iF⟩:=q
 try dsimp only at iF
 let B1:Res:=.blk am 124 [.slice cY p0.bytes.length cZ,jV p0.next,.int .u32 p0.state]
 have m0:SW w [B1] U U [B1,.blk b7 25 B0,.blk b3 25 B0] W6:=pj.pick [2,0,1] _ (by decide) rfl
 refine zP 1 Z Z Z Z (zN Z Z Tryz.call68 (zD Z (zD Z (zD Z zV))) Z) m0 (fun hs=>wCB p0 am cY cZ 1 p1 W6 U hs pE lZ) (.inl Z) ?_
 rintro ez ru rY jb rW n7 ⟨gc,gS,rfl,rfl,l5⟩
 have oa:SW w [B1] U ez [.blk am 124 [.slice gc fO.bytes.length gS,jV fO.next,.int .u32 fO.state],.blk b7 25 B0,.blk b3 25 B0] jb:=n7
 refine oA Z Z (eN (zM (sR fL2 Z (oM Z Z (oM Z Z (eN (zk ?_)))))))
 have q:=bnd iF
 obtain ⟨⟨rp,rq,rt,be⟩,pL,iQ⟩:=q
 try dsimp only at iQ
 have q:=wCk pL
 obtain ⟨fA,pM⟩:=q
 replace fA:=zL fA
 refine CK.forN' (fun bv (dQ,x56,x57,fH) σ_ w_=>∃ (U_:PHeap) (dh:Option Addr) (dF:Nat) (dq:Option Addr) (dH:Nat),σ_ 18=jV (↑bv:Int)/\σ_ 0=.pointer (some ⟨am,0,none⟩)/\σ_ 4=.pointer (some ⟨b3,0,none⟩)/\σ_ 6=.pointer (some ⟨b7,0,none⟩)/\σ_ 7=jV aZ/\σ_ 17=jV aZ/\PHeap.Le ez U_/\SW w [B1] U U_ [.blk am 124 [.slice dh dQ.length dF,jV x56,.int .u32 x57],.row dq dH 59 2 (nA wAB fH),.blk b7 25 [.slice none 0 0,.slice none 0 0,.slice dq fH.length dH],.blk b3 25 B0] w_/\Sl U_ 1 dh dF dQ.length (nA KL.encB8 dQ)) pM ?_ ?_ ?_
 have o9:=oa.nilrow 59 2
 exact ⟨ez,gc,gS,none,0,rfl,rfl,rfl,rfl,rfl,rfl,(zY _),(o9.pick [1,0,2,3] _ (by decide) rfl),l5⟩
 rintro bv ⟨dQ,x56,x57,fH⟩ sB sL rK fu ⟨gB,dh,dF,dq,dH,eV,lv,lD,lI,ip,iq,qU,po,mP⟩ iW
 try dsimp only at iW
 have g7:Hid ((↑bv:Int) < aZ):=zL (wCI fu)
 replace fu:=zL fu
 have qf:Hid (w64 ((↑bv:Int) + 1)=(↑(bv + 1):Int)):=zL (by have h1:=fA.out;have h2:=g7.out;rw [wAf] <;> omega)
 refine sR fL1 Z (oR Z (zl Z eV iq) (eN (zM (cT Z g7 (kN (zM (zk (sR fL2 Z (oM Z eV (oA Z Z (eN (sR fL2 Z (oM Z ip (oM Z Z (eN (zk ?_))))))))))))))))
 have q:=bnd iW
 obtain ⟨⟨sC,sD,sE,sF⟩,pF,iE⟩:=q
 try dsimp only at iE
 have q:=wCk pF
 obtain ⟨fw,pG⟩:=q
 replace fw:=zL fw
 refine CK.forN' (fun bH (cS,x120,x121,ci) σ_ w_=>∃ (U_:PHeap) (cB:Option Addr) (cH:Nat) (bT:Option Addr) (bV:Nat),σ_ 22=jV (↑bH:Int)/\σ_ 0=.pointer (some ⟨am,0,none⟩)/\σ_ 4=.pointer (some ⟨b3,0,none⟩)/\σ_ 6=.pointer (some ⟨b7,0,none⟩)/\σ_ 7=jV aZ/\σ_ 8=jV (↑bv:Int)/\σ_ 17=jV aZ/\σ_ 18=jV (↑bv:Int)/\σ_ 21=jV aZ/\PHeap.Le gB U_/\SW w [B1] U U_ [.blk am 124 [.slice cB cS.length cH,jV x120,.int .u32 x121],.row bT bV 59 2 (nA wAB ci),.blk b7 25 [.slice none 0 0,.slice none 0 0,.slice bT ci.length bV],.blk b3 25 B0] w_/\Sl U_ 1 cB cH cS.length (nA KL.encB8 cS)) pG ?_ ?_ ?_
 exact ⟨gB,dh,dF,dq,dH,Z,lv,lD,lI,ip,Z,iq,eV,Z,(zY _),po,mP⟩
 rintro bH ⟨cS,x120,x121,ci⟩ sv sG i9 fj ⟨gy,cB,cH,bT,bV,cM,dJ,eO,cK,eP,cL,eQ,eR,dK,fJ,iy,it⟩ fC
 try dsimp only at fC
 have gR:Hid ((↑bH:Int) < aZ):=zL (wCI fj)
 replace fj:=zL fj
 have fh:Hid (w64 ((↑bH:Int) + 1)=(↑(bH + 1):Int)):=zL (by have h1:=fw.out;have h2:=gR.out;rw [wAf] <;> omega)
 refine sR fL1 Z (oR Z (zl Z cM dK) (eN (zM (cT Z gR (kN (zM (zk (sR fL2 Z (oM Z cM (oA Z Z (eN (sR (wID (.fx 5 (.fl 6 .nil) .stop)) Z (oM Z cL (oM Z Z (oR Z (Zj Z Z Z) (oM Z Z ?_))))))))))))))))
 by_cases bz:(↑bv:Int)=(↑bH:Int)
 have iG:=fC;rw [if_pos bz] at iG;replace bz:=zL bz
 refine zd Z Z Z (zJ Z Z (zy (fun h=>h bz.out)) Z) (ZH Z Z Z (zJ Z Z (zy (fun h=>h bz.out)) Z) (oR Z (zf Z (zy (fun h=>h bz.out)) Z) (eN (ZB Z (Zd (zq (zQ (rR fL2 Z (oR Z (ZL (zh Z cM Z) (congrArg (jV) fh.out)) (oM Z Z (ZK ?_)))))))))))
 cases iG
 exact zQ ⟨Z,⟨gy,cB,cH,bT,bV,Z,dJ,eO,cK,eP,cL,eQ,eR,dK,fJ,iy,it⟩⟩
 have iH:=fC;rw [if_neg bz] at iH;replace bz:=zL bz
 refine zz Z Z Z (wT Z bz) Z dJ ?_
 have q:=bnd iH
 obtain ⟨⟨sf,fP⟩,l3,iI⟩:=q
 try dsimp only at iI
 refine zP 1 Z Z Z (wT Z bz) (zN Z Z Tryz.call69 (zD Z (zD Z zV)) Z) iy (fun hs=>wBZ (⟨cS,x120,x121⟩:wAE) am cB cH 4 i9 gy hs it l3) (.inl Z) ?_
 rintro cw rx rZ ja iX m4 ⟨dW,eE,rfl,rfl,iu⟩
 let B2:Res:=.blk am 124 [.slice dW fP.bytes.length eE,jV fP.next,.int .u32 fP.state]
 let B3:Res:=.blk b7 25 [.slice none 0 0,.slice none 0 0,.slice bT ci.length bV]
 let B4:Res:=.row bT bV 59 2 (nA wAB ci)
 have eZ:SW w [B1] U cw [B2,B4,B3,.blk b3 25 B0] ja:=m4
 refine oR Z (zK Z (Zo bz.out) Z) (eN (ifc iI ?_ ?_))
 intro eG qg
 refine zx (congrArg nB eG.out) (rR (wID (.fx 5 (.fx 6 (.fl 7 (.fx 8 .nil .stop)) .stop) .stop)) Z (oR Z (zG Z cK zF Z ZC) (oL Z (eZ.ldB (j:=2) Z Z Z ZY (v:=.slice bT ci.length bV) Z) (oM Z cL (oM Z Z ?_)))))
 let B5:List Value:=[jV (↑bv:Int),jV (↑bH:Int)]
 refine oR Z (Zg (pv:=[(0,jV (↑bv:Int)),(1,jV (↑bH:Int))]) (z:=[jV 0,jV 0]) (cs:=B5) Z (wAK Z (wAK Z wAa)) ZS wDa Z Z) (zo (pv:=[(0,.agg B5.toArray)]) (zs:=[jV 0,jV 0]) (cs:=B5) Z Z Z Z Z (wAK Z wAa) zt zj ZS Z Z Z Z Z eZ ?_)
 intro jc jz m5
 let B6:Res:=.row (some ⟨jz,0,none⟩) 1 59 2 (nA wAB [(⟨(↑bv:Int),(↑bH:Int)⟩:wAA)])
 have iz:SW w [B1] U cw [B6,B2,B4,B3,.blk b3 25 B0] jc:=m5
 refine bnK qg fun dU l4 qh=>ZX (j:=2) (enc:=wAB) (xs:=ci) (ys:=[(⟨(↑bv:Int),(↑bH:Int)⟩:wAA)]) (zs:=dU) rfl rfl rfl rfl rfl Tryz.underlying23 wLt rfl rfl rfl rfl rfl rfl iz rfl rfl rfl (iz.srcR (j:=0) rfl (by decide) (wAD (f:=wAB) (sz:=2) (fun _=>rfl) [(⟨(↑bv:Int),(↑bH:Int)⟩:wAA)])) (fun _=>rfl) (fun _=>rfl) l4 rfl ?_
 intro de dB jd m6
 let B7:Res:=.row de dB 59 2 (nA wAB dU)
 have m7:SW w [B1] U cw [B6,B2,B7,B3,.blk b3 25 B0] jd:=m6
 refine oR Z (zG Z cK zF Z ZC) (zu (j:=3) (vs:=[.slice de dU.length dB]) Z Z Z Z m7 Z Z Z Z ZC (zB Z) Z Z Z ?_)
 intro je m8
 have m9:SW w [B1] U cw [B6,B2,B7,.blk b7 25 [.slice none 0 0,.slice none 0 0,.slice de dU.length dB],.blk b3 25 B0] je:=m8
 refine ZK (zq (zQ (rR fL2 Z (oR Z (ZL (zh Z cM Z) (congrArg (jV) fh.out)) (oM Z Z (ZK ?_))))))
 cases qh
 exact zQ ⟨rfl,⟨cw,dW,eE,de,dB,rfl,dJ,eO,cK,eP,cL,eQ,eR,dK,(fJ.trans iX),(m9.pick [1,2,3,4] _ (by decide) rfl),iu⟩⟩
 intro eG qi
 refine ZB (congrArg nB (nE.2 eG.out)) (Zd (zq (zQ (rR fL2 Z (oR Z (ZL (zh Z cM Z) (congrArg (jV) fh.out)) (oM Z Z (ZK ?_)))))))
 cases qi
 exact zQ ⟨Z,⟨cw,dW,eE,bT,bV,Z,dJ,eO,cK,eP,cL,eQ,eR,dK,(fJ.trans iX),eZ,iu⟩⟩
 rintro sH rI ⟨i6,i4,jC,i5,jD,lV,jK,jL,jM,jN,rO,jO,jP,jQ,qS,n9,l6⟩
 have jE:Hid (¬ ((↑((aZ:Int) - 0).toNat:Int) < aZ)):=zL (wBf)
 refine sR fL1 Z (oR Z (zl Z lV jQ) (eN (zM (cF Z jE (Ze (zw (zw (ZW (zq (zQ (rR fL2 Z (oR Z (ZL (zh Z jP Z) (congrArg (jV) qf.out)) (oM Z Z (ZK ?_))))))))))))))
 cases iE
 exact zQ ⟨Z,⟨i6,i4,jC,i5,jD,Z,jK,jL,jM,jN,jO,(qU.trans qS),n9,l6⟩⟩
 rintro sI rJ ⟨gz,ge,gT,bf,bg,lW,jR,jS,ii,eT,jU,rX,oc,l7⟩
 have jG:Hid (¬ ((↑((aZ:Int) - 0).toNat:Int) < aZ)):=zL (wBf)
 refine sR fL1 Z (oR Z (zl Z lW jU) (eN (zM (cF Z jG (Ze (zw (zw (ZW (zQ (sR (.fl 0 (.fx 1 (.fl 2 (.fx 3 .nil .stop)) .stop)) Z (oM Z eT (bnK iQ fun ak l8 qj=>OKS.makeSlice (enc:=KL.encI) (z:=(0:Int)) (v:=jV 0) Z Z Z Z Z (wDe zA) wDl Z Z Z Z Z Z l8 oc ?_))))))))))))
 intro jf aq od
 let B8:Res:=.row (some ⟨aq,0,none⟩) ak.length 3 1 (nA KL.encI ak)
 let B9:Res:=.blk am 124 [.slice ge rp.length gT,jV rq,.int .u32 rt]
 let gm:Res:=.row bf bg 59 2 (nA wAB be)
 have oe:SW w [B1] U gz [B8,B9,gm,.blk b7 25 [.slice none 0 0,.slice none 0 0,.slice bf be.length bg],.blk b3 25 B0] jf:=od
 refine oR Z (zG Z ii zF Z zR) (zu (j:=3) (vs:=[.slice (some ⟨aq,0,none⟩) ak.length ak.length]) Z Z Z Z oe Z Z Z Z zR (zB Z) Z Z Z ?_)
 intro gD og
 let gp:Res:=.blk b7 25 [.slice none 0 0,.slice (some ⟨aq,0,none⟩) ak.length ak.length,.slice bf be.length bg]
 have oh:SW w [B1] U gz [B8,B9,gm,gp,.blk b3 25 B0] gD:=og
 refine eN (sR fL1 Z (oA Z Z (eN (zM (sR fL2 Z (oM Z eT (oM Z Z (eN (zk ?_)))))))))
 have q:=oh.freezeR (k:=2) (n:=be.length) rfl (wAD (f:=wAB) (sz:=2) (fun _=>rfl) be) (by decide)
 obtain ⟨eA,qT,fB,oi⟩:=q
 have oj:SW w [B1] U eA [B8,B9,gp,.blk b3 25 B0] gD:=oi
 have q:=bnd qj
 obtain ⟨⟨rc,re,ri,iZ,i0,rj⟩,pH,iJ⟩:=q
 try dsimp only at iJ
 have q:=wCk pH
 obtain ⟨fy,pI⟩:=q
 replace fy:=zL fy
 refine CK.forN' (fun aa (cU,fQ,fR,cj,cn,bY) σ_ w_=>∃ (U_:PHeap) (df:Option Addr) (dC:Nat) (cq:Option Addr) (cz:Nat) (bU:Option Addr) (bW:Nat) (dI:List Value),σ_ 46=jV (↑aa:Int)/\σ_ 0=.pointer (some ⟨am,0,none⟩)/\σ_ 4=.pointer (some ⟨b3,0,none⟩)/\σ_ 6=.pointer (some ⟨b7,0,none⟩)/\σ_ 7=jV aZ/\σ_ 10=.slice bU bY.length bW/\σ_ 45=jV aZ/\PHeap.Le eA U_/\SW w [B1] U U_ [.blk am 124 [.slice df cU.length dC,jV fQ,.int .u32 fR],.row cq cz 3 1 (nA KL.encI cj),.row (some ⟨aq,0,none⟩) ak.length 3 1 (nA KL.encI cn),.blk b7 25 [.slice cq cj.length cz,.slice (some ⟨aq,0,none⟩) cn.length ak.length,.slice bf be.length bg],.blk b3 25 B0,.row bU bW 22 1 dI] w_/\Sl U_ 1 df dC cU.length (nA KL.encB8 cU)/\cn.length=ak.length/\RlL U_ wNt bY dI) pI ?_ ?_ ?_
 have ol:=oj.nilrow 3 1
 have om:=ol.nilrow 22 1
 have l9:=l7.le qT
 exact ⟨eA,ge,gT,none,0,none,0,[],rfl,jR,jS,ii,eT,rfl,rfl,(zY _),(om.pick [3,1,2,4,5,0] _ (by decide) rfl),l9,rfl,RlL.nil⟩
 rintro aa ⟨cU,fQ,fR,cj,cn,bY⟩ sw sJ gE fm ⟨i7,df,dC,cq,cz,bU,bW,dI,eU,ij,jW,dL,ik,jX,il,fK,oq,ma,mb,md⟩ iU
 try dsimp only at iU
 have gU:Hid ((↑aa:Int) < aZ):=zL (wCI fm)
 replace fm:=zL fm
 have qd:Hid (w64 ((↑aa:Int) + 1)=(↑(aa + 1):Int)):=zL (by have h1:=fy.out;have h2:=gU.out;rw [wAf] <;> omega)
 refine sR fL1 rfl (zS rfl rfl rfl rfl (fun _=>zl rfl eU il) (eN (zM (cT Z gU (kN (zM (zk (sR fL2 rfl (zz rfl rfl rfl rfl rfl eU (OKS.ra rfl rfl rfl rfl rfl rfl (eN (zM (ZQ ZJ [3,1004,3,1005,2,0,3,0,am] (wCl (.fx 3 (.fx 4 (.fx 5 (.fl 6 (.fx 7 .nil .stop)) .stop) .stop) .stop)) (by kernel_rfl) ?_)))))))))))))
 have e8:=oq.drew
 generalize hw_W434:({ gE with drawn:=gE.drawn + 1 }:World)=jg at e8 ⊢
 refine oR Z (zG Z dL zF Z zR) ?_
 let au:Res:=.row bU bW 22 1 dI
 let dr:Res:=.blk b7 25 [.slice cq cj.length cz,.slice (some ⟨aq,0,none⟩) cn.length ak.length,.slice bf be.length bg]
 let cr:Res:=.row (some ⟨aq,0,none⟩) ak.length 3 1 (nA KL.encI cn)
 let d7:Res:=.row cq cz 3 1 (nA KL.encI cj)
 refine OKS.mt (T:=[am]) [0] [1,2,3,4,5] [d7,cr,dr,.blk b3 25 B0,au] rfl rfl rfl rfl e8 rfl ⟨⟨0,by decide,_,rfl,rfl⟩,trivial⟩ (by decide) rfl (by decide) (fun _ pD=>(pD.ldB (j:=2) rfl rfl rfl zZ (v:=.slice cq cj.length cz) rfl)) rfl (zz rfl rfl rfl rfl rfl ij ?_)
 have q:=bnd iU
 obtain ⟨⟨da,fS⟩,mf,iK⟩:=q
 try dsimp only at iK
 refine OKS.callHT 1 rfl rfl rfl rfl (zN rfl rfl Tryz.call68 (zD rfl (zD rfl (zD rfl zV))) rfl) e8 (fun hs=>wCB (⟨cU,fQ,fR⟩:wAE) am df dC 3 6 jg i7 hs ma mf) rfl (T:=[am]) rfl ⟨fun b h=>(by cases h;exact .head _),trivial⟩ ?_
 rintro bZ ry r6 jh dR ou ⟨gf,gW,rfl,rfl,mg⟩
 let cE:Res:=.blk am 124 [.slice gf fS.bytes.length gW,jV fS.next,.int .u32 fS.state]
 have ow:SW w [B1] U bZ [cE,d7,cr,dr,.blk b3 25 B0,au] jh:=ou
 refine zo (pv:=[(0,jV da)]) (zs:=[jV 0]) (cs:=[jV da]) Z Z Z Z Z (wAK Z wAa) zA zC zm Z Z Z Z Z ow ?_
 intro ji jA ox
 let dt:Res:=.row (some ⟨jA,0,none⟩) 1 3 1 (nA KL.encI [da])
 have iA:SW w [B1] U bZ [dt,cE,d7,cr,dr,.blk b3 25 B0,au] ji:=ox
 refine bnK iK fun bb mh qk=>ZX (j:=2) (enc:=KL.encI) (xs:=cj) (ys:=[da]) (zs:=bb) rfl rfl rfl rfl rfl ZE wDl rfl rfl rfl rfl rfl rfl iA rfl rfl rfl (iA.srcR (j:=0) rfl (by decide) (wAD (f:=KL.encI) (sz:=1) (fun _=>rfl) [da])) (fun _=>rfl) (fun _=>rfl) mh rfl ?_
 intro br bs jj oy
 let av:Res:=.row br bs 3 1 (nA KL.encI bb)
 have oz:SW w [B1] U bZ [dt,cE,av,cr,dr,.blk b3 25 B0,au] jj:=oy
 refine oR Z (zG Z dL zF Z zR) (zu (j:=4) (vs:=[.slice br bb.length bs]) Z Z Z Z oz Z Z Z Z zR (zB Z) Z Z Z ?_)
 intro jk oB
 let gu:Res:=.blk b7 25 [.slice br bb.length bs,.slice (some ⟨aq,0,none⟩) cn.length ak.length,.slice bf be.length bg]
 have oG:SW w [B1] U bZ [dt,cE,av,cr,gu,.blk b3 25 B0,au] jk:=oB
 refine eN (sR gAm Z (oM Z ik (bnK qk fun aY mi ql=>OKS.makeSlice (enc:=KL.encI) (z:=(0:Int)) (v:=jV 0) Z Z Z Z Z (wDe zA) wDl Z Z Z Z Z Z mi oG ?_)))
 intro jl ba oH
 have dO:SW w [B1] U bZ [.row (some ⟨ba,0,none⟩) aY.length 3 1 (nA KL.encI aY),dt,cE,av,cr,gu,.blk b3 25 B0,au] jl:=oH
 refine oA Z Z (eN (zM (sR fL6 Z (oR Z (zG Z dL zF Z zR) (oL Z (dO.ldB (j:=5) Z Z Z zZ (v:=.slice br bb.length bs) Z) (oM Z Z (bnK ql fun _ eW qm=>?_)))))))
 obtain ⟨rN,iw⟩:=dO.rowSome (j:=3) rfl (by rw [wAD (f:=KL.encI) (sz:=1) (fun _=>rfl) bb];have hz:=wAN eW;omega)
 refine oR Z (Zm Z Z iw Z zA zC (wAN eW)) ?_
 have pN:=wBp (xs:=bb) (wAN eW)
 refine zi rfl rfl rfl rfl (dO.ldR (j:=3) rfl iw rfl rfl zI (wAr (sz:=1) (fun _=>rfl) _ _ 0 _ pN (by first | omega | rfl | simp) rfl)) rfl (zz rfl rfl rfl rfl rfl rfl (eN (zk ?_)))
 have q:=bnd qm
 obtain ⟨⟨rk,rn,ro,i3,cp⟩,pJ,iL⟩:=q
 try dsimp only at iL
 have q:=wCk pJ
 obtain ⟨fz,pK⟩:=q
 replace fz:=zL fz
 refine CK.forN' (fun bX (cV,fT,fU,ab,ai) σ_ w_=>∃ (U_:PHeap) (dg:Option Addr) (dD:Nat),σ_ 63=jV (↑bX:Int)/\σ_ 0=.pointer (some ⟨am,0,none⟩)/\σ_ 4=.pointer (some ⟨b3,0,none⟩)/\σ_ 6=.pointer (some ⟨b7,0,none⟩)/\σ_ 7=jV aZ/\σ_ 10=.slice bU bY.length bW/\σ_ 11=jV (↑aa:Int)/\σ_ 12=.slice (some ⟨ba,0,none⟩) ai.length aY.length/\σ_ 45=jV aZ/\σ_ 46=jV (↑aa:Int)/\σ_ 62=jV (gd bb aa)/\PHeap.Le bZ U_/\SW w [B1] U U_ [.blk am 124 [.slice dg cV.length dD,jV fT,.int .u32 fU],av,.row (some ⟨aq,0,none⟩) ak.length 3 1 (nA KL.encI ab),.blk b7 25 [.slice br bb.length bs,.slice (some ⟨aq,0,none⟩) ab.length ak.length,.slice bf be.length bg],.blk b3 25 B0,au,.row (some ⟨ba,0,none⟩) aY.length 3 1 (nA KL.encI ai)] w_/\Sl U_ 1 dg dD cV.length (nA KL.encB8 cV)/\ab.length=ak.length/\ai.length=aY.length) pK ?_ ?_ ?_
 exact ⟨bZ,gf,gW,rfl,ij,jW,dL,ik,jX,rfl,rfl,il,eU,rfl,(zY _),(dO.pick [2,3,4,5,6,7,0] _ (by decide) rfl),mg,mb,rfl⟩
 rintro bX ⟨cV,fT,fU,ab,ai⟩ sA sK jm ft ⟨gA,dg,dD,bG,bp,bL,bj,bE,bM,bo,bq,bN,bO,bF,fL,oI,mn,bP,bQ⟩ iV
 try dsimp only at iV
 have gX:Hid ((↑bX:Int) < (gd bb aa)):=zL (wCI ft)
 replace ft:=zL ft
 have qe:Hid (w64 ((↑bX:Int) + 1)=(↑(bX + 1):Int)):=zL (by have h1:=fz.out;have h2:=gX.out;rw [wAf] <;> omega)
 refine sR fL1 Z (oR Z (zl Z bG bF) (eN (zM (cT Z gX (kN ?_)))))
 have q:=bnd iV
 obtain ⟨⟨fD,qX,qY,fE,fG⟩,qR,iM⟩:=q
 try dsimp only at iM
 refine CK.cut (fun σ_ w_=>∃ (U_:PHeap) (dm:Option Addr) (dE:Nat),σ_ 0=.pointer (some ⟨am,0,none⟩)/\σ_ 4=.pointer (some ⟨b3,0,none⟩)/\σ_ 6=.pointer (some ⟨b7,0,none⟩)/\σ_ 7=jV aZ/\σ_ 10=.slice bU bY.length bW/\σ_ 11=jV (↑aa:Int)/\σ_ 12=.slice (some ⟨ba,0,none⟩) fG.length aY.length/\σ_ 45=jV aZ/\σ_ 46=jV (↑aa:Int)/\σ_ 62=jV (gd bb aa)/\σ_ 63=jV (↑bX:Int)/\PHeap.Le gA U_/\SW w [B1] U U_ [.blk am 124 [.slice dm fD.length dE,jV qX,.int .u32 qY],av,.row (some ⟨aq,0,none⟩) ak.length 3 1 (nA KL.encI fE),.blk b7 25 [.slice br bb.length bs,.slice (some ⟨aq,0,none⟩) fE.length ak.length,.slice bf be.length bg],.blk b3 25 B0,au,.row (some ⟨ba,0,none⟩) aY.length 3 1 (nA KL.encI fG)] w_/\Sl U_ 1 dm dE fD.length (nA KL.encB8 fD)/\fE.length=ak.length/\fG.length=aY.length) ?_ ?_
 refine zk (sR fL2 Z (oM Z bo (oA Z Z (eN (zM (sR gAi Z (oM Z bp ?_)))))))
 have q:=bnd qR
 obtain ⟨⟨sg,db⟩,mo,iN⟩:=q
 try dsimp only at iN
 refine zP 1 Z Z Z Z (zN Z Z Tryz.call69 (zD Z (zD Z zV)) Z) oI (fun hs=>wBZ (⟨cV,fT,fU⟩:wAE) am dg dD 4 jm gA hs mn mo) (.inl Z) ?_
 rintro dA rA r8 eD bB oK ⟨dp,dG,rfl,rfl,eY⟩
 let bh:Res:=.blk b7 25 [.slice br bb.length bs,.slice (some ⟨aq,0,none⟩) ab.length ak.length,.slice bf be.length bg]
 let bI:Res:=.row (some ⟨aq,0,none⟩) ak.length 3 1 (nA KL.encI ab)
 let ct:Res:=.row (some ⟨ba,0,none⟩) aY.length 3 1 (nA KL.encI ai)
 have cP:SW w [B1] U dA [.blk am 124 [.slice dp db.bytes.length dG,jV db.next,.int .u32 db.state],av,bI,bh,.blk b3 25 B0,au,ct] eD:=oK
 refine eN (ifc iN ?_ ?_)
 intro eH qn
 refine zx (congrArg nB eH.out) (rR gAq Z (oM Z bp (oM Z bE ?_)))
 have q:=bnd qn
 obtain ⟨⟨ap,dV⟩,mp,iO⟩:=q
 try dsimp only at iO
 refine zP 1 Z Z Z Z (zN Z Z Tryz.call70 (zD Z (zD Z zV)) Z) cP (fun hs=>wBq db am dp dG aZ eD dA hs eY mp) (.inl Z) ?_
 rintro eC rB r9 gF cA oO ⟨dX,eI,rfl,rfl,iv⟩
 have dP:SW w [B1] U eC [.blk am 124 [.slice dX dV.bytes.length eI,jV dV.next,.int .u32 dV.state],av,bI,bh,.blk b3 25 B0,au,ct] gF:=oO
 refine oA Z Z (eN (sR (wPW (.fx 8 (wOA gAn) .stop)) Z (oR Z (zG Z bj zF Z zR) (oL Z (dP.ldB (j:=3) Z Z Z zZ (v:=.slice (some ⟨aq,0,none⟩) ab.length ak.length) Z) (oM Z Z (bnK iO fun _ bi qo=>oR Z (ZV Z Z Z Z zA zC (wAy bi) (wAz bi)) ?_))))))
 have pO:=wBp (xs:=ab) (wAN bi)
 refine zi rfl rfl rfl rfl (dP.ldR (j:=2) rfl rfl rfl rfl zI (wAr (sz:=1) (fun _=>rfl) _ _ 0 _ pO (by first | omega | rfl | simp) rfl)) rfl (zS rfl rfl rfl rfl (fun _=>zl rfl rfl rfl) (zz rfl rfl rfl rfl rfl rfl (ifc qo ?_ ?_)))
 intro bR qp
 refine zz Z Z Z (wT Z bR) Z bp ?_
 have q:=bnd qp
 obtain ⟨⟨sk,fV⟩,mq,iP⟩:=q
 try dsimp only at iP
 refine zP 1 Z Z Z (wT Z bR) (zN Z Z Tryz.call69 (zD Z (zD Z zV)) Z) dP (fun hs=>wBZ dV am dX eI 4 gF eC hs iv mq) (.inl Z) ?_
 rintro b5 rC sb gG cW oP ⟨cC,cI,rfl,rfl,dM⟩
 let bJ:Res:=.blk am 124 [.slice cC fV.bytes.length cI,jV fV.next,.int .u32 fV.state]
 have cQ:SW w [B1] U b5 [bJ,av,bI,bh,.blk b3 25 B0,au,ct] gG:=oP
 refine rU Z (wT Z bR) (ZO Z Z) (oR Z (zK Z (Zo bR.out) Z) (oM Z Z (ifc iP ?_ ?_)))
 intro bk qq
 refine zd Z Z Z (zJ Z Z (nC bk.out) Z) (zd Z Z Z (zJ Z Z (nC bk.out) Z) (zd Z Z Z (zJ Z Z (nC bk.out) Z) (zd Z Z Z (zJ Z Z (nC bk.out) Z) (zd Z Z Z (wBA Z Z Z) (zd Z Z Z (wBA Z Z Z) (zd Z Z Z (wBA Z Z Z) (zd Z Z Z (wBA Z Z Z) (zd Z Z Z (wBA Z Z Z) (ZH Z Z Z (wBA Z Z Z) (zd Z Z Z (zJ Z Z (nC bk.out) Z) (oR Z (zf Z (nC bk.out) Z) (eN (ZB Z (Zd (zq ?_)))))))))))))))
 cases qq
 exact zQ ⟨Z,⟨b5,cC,cI,bp,bL,bj,bE,bM,bo,bq,bN,bO,bF,bG,((bB.trans cA).trans cW),cQ,dM,bP,bQ⟩⟩
 intro bk qr
 refine zz Z Z Z (zU Z Z (nF (bk.out))) Z Z (zz Z Z Z (zU Z Z (nF (bk.out))) Z bo (zS Z Z Z (zU Z Z (nF (bk.out))) (fun _=>Runs.eql Z Z Z) (zz Z Z Z (zU Z Z (nF (bk.out))) Z Z (ifc qr ?_ ?_))))
 intro bl qt
 refine oT Z bl (oT Z bl (oT Z bl (oT Z bl (oT Z bl (ZH Z Z Z (zJ Z Z (Zo bl.out) Z) (zS Z Z Z (zU Z Z (nF (bk.out))) (fun _=>zK Z (Zo bl.out) Z) (oR Z (zK Z (nF (bk.out)) Z) (eN (zx Z (sR (wIt (.fx 6 .nil .stop)) Z (oM Z bq (oM Z Z (bnK qt fun _ cd qu=>oR Z (ZV Z Z Z Z zA zC (wAy cd) (wAz cd)) ?_)))))))))))))
 have pP:=wBp (xs:=ai) (wAN cd)
 refine zi rfl rfl rfl rfl (cQ.ldR (j:=6) rfl rfl rfl rfl zI (wAr (sz:=1) (fun _=>rfl) _ _ 0 _ pP (by first | omega | rfl | simp) rfl)) rfl (zS rfl rfl rfl rfl (fun _=>zh rfl rfl rfl) (zS rfl rfl rfl rfl (fun _=>ZV rfl rfl rfl rfl zA zC (wAy cd) (wAz cd)) ?_))
 have pQ:=wBp (xs:=ai) (wAN cd)
 refine OKS.stR (j:=6) (vs:=[jV (w64 ((gd ai ap.toNat) + 1))]) (cs':=nA KL.encI (nL ai ap.toNat (w64 ((gd ai ap.toNat) + 1)))) rfl rfl rfl rfl cQ rfl rfl rfl rfl rfl zC (by rw [wAD (f:=KL.encI) (sz:=1) (fun _=>rfl)];have hz:=wAN cd;show _ + 1 <= _;first | omega | (simp only [nJ];omega) | (simp only [nI,nG,nH];omega)) rfl (wCg (sz:=1) (fo:=0) (fun _=>rfl) _ _ _ _ pQ (by first | omega | (simp only [nJ];omega) | (simp only [nI,nG,nH];omega)) (zB rfl) rfl) rfl ?_
 intro jo oU
 let dv:Res:=.row (some ⟨ba,0,none⟩) aY.length 3 1 (nA KL.encI (nL ai ap.toNat (w64 ((gd ai ap.toNat) + 1))))
 have e9:SW w [B1] U b5 [bJ,av,bI,bh,.blk b3 25 B0,au,dv] jo:=oU
 refine eN (CK.fresh fun bC bt=>?_)
 have jY:bC 0=.pointer (some ⟨am,0,none⟩):=(bt 0).trans bp
 have jZ:bC 4=.pointer (some ⟨b3,0,none⟩):=(bt 4).trans bL
 have im:bC 6=.pointer (some ⟨b7,0,none⟩):=(bt 6).trans bj
 have j0:bC 7=jV aZ:=(bt 7).trans bE
 have j4:bC 10=.slice bU bY.length bW:=(bt 10).trans bM
 have j5:bC 11=jV (↑aa:Int):=(bt 11).trans bo
 have j6:bC 12=.slice (some ⟨ba,0,none⟩) ((nL ai ap.toNat (w64 ((gd ai ap.toNat) + 1))).length) aY.length:=(bt 12).trans (nU (b:=(.slice (some ⟨ba,0,none⟩) ai.length aY.length:Value)) (c:=(.slice (some ⟨ba,0,none⟩) ((nL ai ap.toNat (w64 ((gd ai ap.toNat) + 1))).length) aY.length:Value)) bq (by simp only [nK]))
 have j7:bC 13=jV ap:=(bt 13).trans rfl
 have j8:bC 45=jV aZ:=(bt 45).trans bN
 have j9:bC 46=jV (↑aa:Int):=(bt 46).trans bO
 have k9:bC 62=jV (gd bb aa):=(bt 62).trans bF
 have lc:bC 63=jV (↑bX:Int):=(bt 63).trans bG
 clear bt
 refine rR (wHV (.fx 7 .nil .stop)) Z (oR Z (zG Z im zF Z zR) (oL Z (e9.ldB (j:=3) Z Z Z zZ (v:=.slice (some ⟨aq,0,none⟩) ab.length ak.length) Z) (oM Z j7 (oR Z (ZV Z Z Z Z zA zC (wAy bi) (wAz bi)) ?_))))
 have pR:=wBp (xs:=ab) (wAN bi)
 refine zi rfl rfl rfl rfl (e9.ldR (j:=2) rfl rfl rfl rfl zI (wAr (sz:=1) (fun _=>rfl) _ _ 0 _ pR (by first | omega | rfl | simp) rfl)) rfl (zS rfl rfl rfl rfl (fun _=>zh rfl rfl rfl) (zS rfl rfl rfl rfl (fun _=>ZV rfl rfl rfl rfl zA zC (wAy bi) (wAz bi)) ?_))
 have pS:=wBp (xs:=ab) (wAN bi)
 refine OKS.stR (j:=2) (vs:=[jV (w64 ((gd ab ap.toNat) + 1))]) (cs':=nA KL.encI (nL ab ap.toNat (w64 ((gd ab ap.toNat) + 1)))) rfl rfl rfl rfl e9 rfl rfl rfl rfl rfl zC (by rw [wAD (f:=KL.encI) (sz:=1) (fun _=>rfl)];have hz:=wAN bi;show _ + 1 <= _;first | omega | (simp only [nJ];omega) | (simp only [nI,nG,nH];omega)) rfl (wCg (sz:=1) (fo:=0) (fun _=>rfl) _ _ _ _ pS (by first | omega | (simp only [nJ];omega) | (simp only [nI,nG,nH];omega)) (zB rfl) rfl) rfl ?_
 intro gI oW
 let d8:Res:=.row (some ⟨aq,0,none⟩) ak.length 3 1 (nA KL.encI (nL ab ap.toNat (w64 ((gd ab ap.toNat) + 1))))
 have oX:SW w [B1] U b5 [bJ,av,d8,bh,.blk b3 25 B0,au,dv] gI:=oW
 have oY:SW w [B1] U b5 [bJ,av,d8,.blk b7 25 [.slice br bb.length bs,.slice (some ⟨aq,0,none⟩) ((nL ab ap.toNat (w64 ((gd ab ap.toNat) + 1))).length) ak.length,.slice bf be.length bg],.blk b3 25 B0,au,dv] gI:=by simpa only [B0,B1,au,av,bh,bJ,dv,d8,nK] using oX
 refine ZK (zq ?_)
 cases qu
 exact zQ ⟨Z,⟨b5,cC,cI,jY,jZ,im,j0,j4,j5,j6,j8,j9,k9,lc,((bB.trans cA).trans cW),oY,dM,(nK.trans bP),(nK.trans bQ)⟩⟩
 intro bl qv
 refine rU Z (wF Z bl) (zG Z bj zF Z ZC) (zi Z Z Z (wF Z bl) (cQ.ldB (j:=3) Z Z Z ZY (v:=.slice bf be.length bg) Z) Z (zz Z Z Z (wF Z bl) Z bo (zz Z Z Z (wF Z bl) Z Z (rU Z (wF Z bl) (Zg (pv:=[(0,jV (↑aa:Int)),(1,jV ap)]) (z:=[jV 0,jV 0]) (cs:=[jV (↑aa:Int),jV ap]) Z (wAK Z (wAK Z wAa)) ZS wDa Z Z) ?_))))
 have mr:=fB.le fK
 have ms:=mr.le dR
 have mu:=ms.le fL
 have mw:=mu.le bB
 have my:=mw.le cA
 have mz:=my.le cW
 refine bnK qv fun sq mA qw=>zP 0 Z Z Z (wF Z bl) (zN Z Z Tryz.call25 (zD Z (zD Z zV)) Z) cQ (fun hs=>wAh be bf bg (⟨(↑aa:Int),ap⟩:wAA) gG b5 hs mz mA) (.inr Z) ?_
 rintro cx rD sc jp dS o0 ⟨rfl,rfl⟩
 have fb:SW w [B1] U cx [bJ,av,bI,bh,.blk b3 25 B0,au,ct] jp:=o0
 refine zS Z Z Z (zU Z Z (nF (bk.out))) (fun _=>zf Z (zy bl.out) Z) (oR Z (zK Z (nF (bk.out)) Z) (eN (ifc qw ?_ ?_)))
 intro eJ qx
 refine zx (congrArg nB eJ.out) (sR (wIt (.fx 6 .nil .stop)) Z (oM Z bq (oM Z Z (bnK qx fun _ cg qy=>oR Z (ZV Z Z Z Z zA zC (wAy cg) (wAz cg)) ?_))))
 have pT:=wBp (xs:=ai) (wAN cg)
 refine zi rfl rfl rfl rfl (fb.ldR (j:=6) rfl rfl rfl rfl zI (wAr (sz:=1) (fun _=>rfl) _ _ 0 _ pT (by first | omega | rfl | simp) rfl)) rfl (zS rfl rfl rfl rfl (fun _=>zh rfl rfl rfl) (zS rfl rfl rfl rfl (fun _=>ZV rfl rfl rfl rfl zA zC (wAy cg) (wAz cg)) ?_))
 have pU:=wBp (xs:=ai) (wAN cg)
 refine OKS.stR (j:=6) (vs:=[jV (w64 ((gd ai ap.toNat) + 1))]) (cs':=nA KL.encI (nL ai ap.toNat (w64 ((gd ai ap.toNat) + 1)))) rfl rfl rfl rfl fb rfl rfl rfl rfl rfl zC (by rw [wAD (f:=KL.encI) (sz:=1) (fun _=>rfl)];have hz:=wAN cg;show _ + 1 <= _;first | omega | (simp only [nJ];omega) | (simp only [nI,nG,nH];omega)) rfl (wCg (sz:=1) (fo:=0) (fun _=>rfl) _ _ _ _ pU (by first | omega | (simp only [nJ];omega) | (simp only [nI,nG,nH];omega)) (zB rfl) rfl) rfl ?_
 intro jq o5
 let dw:Res:=.row (some ⟨ba,0,none⟩) aY.length 3 1 (nA KL.encI (nL ai ap.toNat (w64 ((gd ai ap.toNat) + 1))))
 have fc:SW w [B1] U cx [bJ,av,bI,bh,.blk b3 25 B0,au,dw] jq:=o5
 refine eN (CK.fresh fun bD bu=>?_)
 have lf:bD 0=.pointer (some ⟨am,0,none⟩):=(bu 0).trans bp
 have lg:bD 4=.pointer (some ⟨b3,0,none⟩):=(bu 4).trans bL
 have io:bD 6=.pointer (some ⟨b7,0,none⟩):=(bu 6).trans bj
 have lh:bD 7=jV aZ:=(bu 7).trans bE
 have li:bD 10=.slice bU bY.length bW:=(bu 10).trans bM
 have lj:bD 11=jV (↑aa:Int):=(bu 11).trans bo
 have lm:bD 12=.slice (some ⟨ba,0,none⟩) ((nL ai ap.toNat (w64 ((gd ai ap.toNat) + 1))).length) aY.length:=(bu 12).trans (nU (b:=(.slice (some ⟨ba,0,none⟩) ai.length aY.length:Value)) (c:=(.slice (some ⟨ba,0,none⟩) ((nL ai ap.toNat (w64 ((gd ai ap.toNat) + 1))).length) aY.length:Value)) bq (by simp only [nK]))
 have ln:bD 13=jV ap:=(bu 13).trans rfl
 have lp:bD 45=jV aZ:=(bu 45).trans bN
 have lq:bD 46=jV (↑aa:Int):=(bu 46).trans bO
 have ls:bD 62=jV (gd bb aa):=(bu 62).trans bF
 have lu:bD 63=jV (↑bX:Int):=(bu 63).trans bG
 clear bu
 refine rR (wHV (.fx 7 .nil .stop)) Z (oR Z (zG Z io zF Z zR) (oL Z (fc.ldB (j:=3) Z Z Z zZ (v:=.slice (some ⟨aq,0,none⟩) ab.length ak.length) Z) (oM Z ln (oR Z (ZV Z Z Z Z zA zC (wAy bi) (wAz bi)) ?_))))
 have pV:=wBp (xs:=ab) (wAN bi)
 refine zi rfl rfl rfl rfl (fc.ldR (j:=2) rfl rfl rfl rfl zI (wAr (sz:=1) (fun _=>rfl) _ _ 0 _ pV (by first | omega | rfl | simp) rfl)) rfl (zS rfl rfl rfl rfl (fun _=>zh rfl rfl rfl) (zS rfl rfl rfl rfl (fun _=>ZV rfl rfl rfl rfl zA zC (wAy bi) (wAz bi)) ?_))
 have pW:=wBp (xs:=ab) (wAN bi)
 refine OKS.stR (j:=2) (vs:=[jV (w64 ((gd ab ap.toNat) + 1))]) (cs':=nA KL.encI (nL ab ap.toNat (w64 ((gd ab ap.toNat) + 1)))) rfl rfl rfl rfl fc rfl rfl rfl rfl rfl zC (by rw [wAD (f:=KL.encI) (sz:=1) (fun _=>rfl)];have hz:=wAN bi;show _ + 1 <= _;first | omega | (simp only [nJ];omega) | (simp only [nI,nG,nH];omega)) rfl (wCg (sz:=1) (fo:=0) (fun _=>rfl) _ _ _ _ pW (by first | omega | (simp only [nJ];omega) | (simp only [nI,nG,nH];omega)) (zB rfl) rfl) rfl ?_
 intro gJ o6
 let d9:Res:=.row (some ⟨aq,0,none⟩) ak.length 3 1 (nA KL.encI (nL ab ap.toNat (w64 ((gd ab ap.toNat) + 1))))
 have o7:SW w [B1] U cx [bJ,av,d9,bh,.blk b3 25 B0,au,dw] gJ:=o6
 have o8:SW w [B1] U cx [bJ,av,d9,.blk b7 25 [.slice br bb.length bs,.slice (some ⟨aq,0,none⟩) ((nL ab ap.toNat (w64 ((gd ab ap.toNat) + 1))).length) ak.length,.slice bf be.length bg],.blk b3 25 B0,au,dw] gJ:=by simpa only [B0,B1,au,av,bh,bJ,dw,d9,nK] using o7
 refine ZK (zq ?_)
 cases qy
 have mB:=dM.le dS
 exact zQ ⟨Z,⟨cx,cC,cI,lf,lg,io,lh,li,lj,lm,lp,lq,ls,lu,(((bB.trans cA).trans cW).trans dS),o8,mB,(nK.trans bP),(nK.trans bQ)⟩⟩
 intro eJ qz
 refine ZB (congrArg nB (nE.2 eJ.out)) (Zd (zq ?_))
 cases qz
 have mC:=dM.le dS
 exact zQ ⟨Z,⟨cx,cC,cI,bp,bL,bj,bE,bM,bo,bq,bN,bO,bF,bG,(((bB.trans cA).trans cW).trans dS),fb,mC,bP,bQ⟩⟩
 intro bR qA
 refine oF Z bR (ZH Z Z Z (zJ Z Z (zy bR.out) Z) (oF Z bR (oR Z (zf Z (zy bR.out) Z) (oM Z Z (oN Z (oN Z (oN Z (oN Z (zd Z Z Z (wBA Z Z Z) (zd Z Z Z (wBA Z Z Z) (zd Z Z Z (wBA Z Z Z) (zd Z Z Z (wBA Z Z Z) (zd Z Z Z (wBA Z Z Z) (ZH Z Z Z (wBA Z Z Z) (oN Z (oR Z (zf Z Z Z) (eN (ZB Z (Zd (zq ?_))))))))))))))))))))
 cases qA
 exact zQ ⟨Z,⟨eC,dX,eI,bp,bL,bj,bE,bM,bo,bq,bN,bO,bF,bG,(bB.trans cA),dP,iv,bP,bQ⟩⟩
 intro eH qB
 refine ZB (congrArg nB (nE.2 eH.out)) (kN (sR (wPW (.fx 8 (wOA gAn) .stop)) Z (oR Z (zG Z bj zF Z zR) (oL Z (cP.ldB (j:=3) Z Z Z zZ (v:=.slice (some ⟨aq,0,none⟩) ab.length ak.length) Z) (oM Z Z (bnK qB fun _ bA qC=>oR Z (Zm Z Z Z Z zA zC (wAN bA)) ?_))))))
 have pY:=wBp (xs:=ab) (wAN bA)
 refine zi rfl rfl rfl rfl (cP.ldR (j:=2) rfl rfl rfl rfl zI (wAr (sz:=1) (fun _=>rfl) _ _ 0 _ pY (by first | omega | rfl | simp) rfl)) rfl (zS rfl rfl rfl rfl (fun _=>zl rfl rfl rfl) (zz rfl rfl rfl rfl rfl rfl (ifc qC ?_ ?_)))
 intro bS qD
 refine zz Z Z Z (wT Z bS) Z bp ?_
 have q:=bnd qD
 obtain ⟨⟨ss,fW⟩,mD,iR⟩:=q
 try dsimp only at iR
 refine zP 1 Z Z Z (wT Z bS) (zN Z Z Tryz.call69 (zD Z (zD Z zV)) Z) cP (fun hs=>wBZ db am dp dG 4 eD dA hs eY mD) (.inl Z) ?_
 rintro b9 rE sd gK cX pa ⟨cD,cJ,rfl,rfl,dN⟩
 let bK:Res:=.blk am 124 [.slice cD fW.bytes.length cJ,jV fW.next,.int .u32 fW.state]
 have cR:SW w [B1] U b9 [bK,av,bI,bh,.blk b3 25 B0,au,ct] gK:=pa
 refine rU Z (wT Z bS) (ZO Z Z) (oR Z (zK Z (Zo bS.out) Z) (oM Z Z (ifc iR ?_ ?_)))
 intro bm qE
 refine zd Z Z Z (zJ Z Z (nC bm.out) Z) (zd Z Z Z (zJ Z Z (nC bm.out) Z) (zd Z Z Z (zJ Z Z (nC bm.out) Z) (zd Z Z Z (zJ Z Z (nC bm.out) Z) (zd Z Z Z (wBA Z Z Z) (zd Z Z Z (wBA Z Z Z) (zd Z Z Z (wBA Z Z Z) (zd Z Z Z (wBA Z Z Z) (zd Z Z Z (wBA Z Z Z) (ZH Z Z Z (wBA Z Z Z) (zd Z Z Z (zJ Z Z (nC bm.out) Z) (oR Z (zf Z (nC bm.out) Z) (eN (ZB Z (Zd (zq ?_)))))))))))))))
 cases qE
 exact zQ ⟨Z,⟨b9,cD,cJ,bp,bL,bj,bE,bM,bo,bq,bN,bO,bF,bG,(bB.trans cX),cR,dN,bP,bQ⟩⟩
 intro bm qF
 refine zz Z Z Z (zU Z Z (nF (bm.out))) Z Z (zz Z Z Z (zU Z Z (nF (bm.out))) Z bo (zS Z Z Z (zU Z Z (nF (bm.out))) (fun _=>Runs.eql Z Z Z) (zz Z Z Z (zU Z Z (nF (bm.out))) Z Z (ifc qF ?_ ?_))))
 intro bn qG
 refine oT Z bn (oT Z bn (oT Z bn (oT Z bn (oT Z bn (ZH Z Z Z (zJ Z Z (Zo bn.out) Z) (zS Z Z Z (zU Z Z (nF (bm.out))) (fun _=>zK Z (Zo bn.out) Z) (oR Z (zK Z (nF (bm.out)) Z) (eN (zx Z (sR (wIt (.fx 6 .nil .stop)) Z (oM Z bq (oM Z Z (bnK qG fun _ cN qH=>oR Z (Zm Z Z Z Z zA zC (wAN cN)) ?_)))))))))))))
 have pZ:=wBp (xs:=ai) (wAN cN)
 refine zi rfl rfl rfl rfl (cR.ldR (j:=6) rfl rfl rfl rfl zI (wAr (sz:=1) (fun _=>rfl) _ _ 0 _ pZ (by first | omega | rfl | simp) rfl)) rfl (zS rfl rfl rfl rfl (fun _=>zh rfl rfl rfl) (zS rfl rfl rfl rfl (fun _=>Zm rfl rfl rfl rfl zA zC (wAN cN)) ?_))
 have p6:=wBp (xs:=ai) (wAN cN)
 refine OKS.stR (j:=6) (vs:=[jV (w64 ((gd ai aa) + 1))]) (cs':=nA KL.encI (nL ai aa (w64 ((gd ai aa) + 1)))) rfl rfl rfl rfl cR rfl rfl rfl rfl rfl zC (by rw [wAD (f:=KL.encI) (sz:=1) (fun _=>rfl)];have hz:=wAN cN;show _ + 1 <= _;first | omega | (simp only [nJ];omega) | (simp only [nI,nG,nH];omega)) rfl (wCg (sz:=1) (fo:=0) (fun _=>rfl) _ _ _ _ p6 (by first | omega | (simp only [nJ];omega) | (simp only [nI,nG,nH];omega)) (zB rfl) rfl) rfl ?_
 intro jr pb
 let dx:Res:=.row (some ⟨ba,0,none⟩) aY.length 3 1 (nA KL.encI (nL ai aa (w64 ((gd ai aa) + 1))))
 have fd:SW w [B1] U b9 [bK,av,bI,bh,.blk b3 25 B0,au,dx] jr:=pb
 refine eN (rR (wHV (.fx 7 .nil .stop)) Z (oR Z (zG Z bj zF Z zR) (oL Z (fd.ldB (j:=3) Z Z Z zZ (v:=.slice (some ⟨aq,0,none⟩) ab.length ak.length) Z) (oM Z Z (oR Z (Zm Z Z Z Z zA zC (wAN bA)) ?_)))))
 have p7:=wBp (xs:=ab) (wAN bA)
 refine zi rfl rfl rfl rfl (fd.ldR (j:=2) rfl rfl rfl rfl zI (wAr (sz:=1) (fun _=>rfl) _ _ 0 _ p7 (by first | omega | rfl | simp) rfl)) rfl (zS rfl rfl rfl rfl (fun _=>zh rfl rfl rfl) (zS rfl rfl rfl rfl (fun _=>Zm rfl rfl rfl rfl zA zC (wAN bA)) ?_))
 have p8:=wBp (xs:=ab) (wAN bA)
 refine OKS.stR (j:=2) (vs:=[jV (w64 ((gd ab aa) + 1))]) (cs':=nA KL.encI (nL ab aa (w64 ((gd ab aa) + 1)))) rfl rfl rfl rfl fd rfl rfl rfl rfl rfl zC (by rw [wAD (f:=KL.encI) (sz:=1) (fun _=>rfl)];have hz:=wAN bA;show _ + 1 <= _;first | omega | (simp only [nJ];omega) | (simp only [nI,nG,nH];omega)) rfl (wCg (sz:=1) (fo:=0) (fun _=>rfl) _ _ _ _ p8 (by first | omega | (simp only [nJ];omega) | (simp only [nI,nG,nH];omega)) (zB rfl) rfl) rfl ?_
 intro gL pe
 let ec:Res:=.row (some ⟨aq,0,none⟩) ak.length 3 1 (nA KL.encI (nL ab aa (w64 ((gd ab aa) + 1))))
 have pf:SW w [B1] U b9 [bK,av,ec,bh,.blk b3 25 B0,au,dx] gL:=pe
 have pg:SW w [B1] U b9 [bK,av,ec,.blk b7 25 [.slice br bb.length bs,.slice (some ⟨aq,0,none⟩) ((nL ab aa (w64 ((gd ab aa) + 1))).length) ak.length,.slice bf be.length bg],.blk b3 25 B0,au,dx] gL:=by simpa only [B0,B1,au,av,bh,bK,dx,ec,nK] using pf
 refine ZK (zq ?_)
 cases qH
 exact zQ ⟨rfl,⟨b9,cD,cJ,bp,bL,bj,bE,bM,bo,(nU (b:=(.slice (some ⟨ba,0,none⟩) ai.length aY.length:Value)) (c:=(.slice (some ⟨ba,0,none⟩) ((nL ai aa (w64 ((gd ai aa) + 1))).length) aY.length:Value)) bq (by simp only [nK])),bN,bO,bF,bG,(bB.trans cX),pg,dN,(nK.trans bP),(nK.trans bQ)⟩⟩
 intro bn qI
 refine rU Z (wF Z bn) (zG Z bj zF Z ZC) (zi Z Z Z (wF Z bn) (cR.ldB (j:=3) Z Z Z ZY (v:=.slice bf be.length bg) Z) Z (zz Z Z Z (wF Z bn) Z bo (zz Z Z Z (wF Z bn) Z Z (rU Z (wF Z bn) (Zg (pv:=[(0,jV (↑aa:Int)),(1,jV (↑aa:Int))]) (z:=[jV 0,jV 0]) (cs:=[jV (↑aa:Int),jV (↑aa:Int)]) Z (wAK Z (wAK Z wAa)) ZS wDa Z Z) ?_))))
 have mE:=fB.le fK
 have mF:=mE.le dR
 have mG:=mF.le fL
 have mH:=mG.le bB
 have mI:=mH.le cX
 refine bnK qI fun su mJ qJ=>zP 0 Z Z Z (wF Z bn) (zN Z Z Tryz.call25 (zD Z (zD Z zV)) Z) cR (fun hs=>wAh be bf bg (⟨(↑aa:Int),(↑aa:Int)⟩:wAA) gK b9 hs mI mJ) (.inr Z) ?_
 rintro cy rF se jt dT ph ⟨rfl,rfl⟩
 have ff:SW w [B1] U cy [bK,av,bI,bh,.blk b3 25 B0,au,ct] jt:=ph
 refine zS Z Z Z (zU Z Z (nF (bm.out))) (fun _=>zf Z (zy bn.out) Z) (oR Z (zK Z (nF (bm.out)) Z) (eN (ifc qJ ?_ ?_)))
 intro eK qK
 refine zx (congrArg nB eK.out) (sR (wIt (.fx 6 .nil .stop)) Z (oM Z bq (oM Z Z (bnK qK fun _ cO qL=>oR Z (Zm Z Z Z Z zA zC (wAN cO)) ?_))))
 have p9:=wBp (xs:=ai) (wAN cO)
 refine zi rfl rfl rfl rfl (ff.ldR (j:=6) rfl rfl rfl rfl zI (wAr (sz:=1) (fun _=>rfl) _ _ 0 _ p9 (by first | omega | rfl | simp) rfl)) rfl (zS rfl rfl rfl rfl (fun _=>zh rfl rfl rfl) (zS rfl rfl rfl rfl (fun _=>Zm rfl rfl rfl rfl zA zC (wAN cO)) ?_))
 have qa:=wBp (xs:=ai) (wAN cO)
 refine OKS.stR (j:=6) (vs:=[jV (w64 ((gd ai aa) + 1))]) (cs':=nA KL.encI (nL ai aa (w64 ((gd ai aa) + 1)))) rfl rfl rfl rfl ff rfl rfl rfl rfl rfl zC (by rw [wAD (f:=KL.encI) (sz:=1) (fun _=>rfl)];have hz:=wAN cO;show _ + 1 <= _;first | omega | (simp only [nJ];omega) | (simp only [nI,nG,nH];omega)) rfl (wCg (sz:=1) (fo:=0) (fun _=>rfl) _ _ _ _ qa (by first | omega | (simp only [nJ];omega) | (simp only [nI,nG,nH];omega)) (zB rfl) rfl) rfl ?_
 intro ju pi
 let dy:Res:=.row (some ⟨ba,0,none⟩) aY.length 3 1 (nA KL.encI (nL ai aa (w64 ((gd ai aa) + 1))))
 have fg:SW w [B1] U cy [bK,av,bI,bh,.blk b3 25 B0,au,dy] ju:=pi
 refine eN (rR (wHV (.fx 7 .nil .stop)) Z (oR Z (zG Z bj zF Z zR) (oL Z (fg.ldB (j:=3) Z Z Z zZ (v:=.slice (some ⟨aq,0,none⟩) ab.length ak.length) Z) (oM Z Z (oR Z (Zm Z Z Z Z zA zC (wAN bA)) ?_)))))
 have qb:=wBp (xs:=ab) (wAN bA)
 refine zi rfl rfl rfl rfl (fg.ldR (j:=2) rfl rfl rfl rfl zI (wAr (sz:=1) (fun _=>rfl) _ _ 0 _ qb (by first | omega | rfl | simp) rfl)) rfl (zS rfl rfl rfl rfl (fun _=>zh rfl rfl rfl) (zS rfl rfl rfl rfl (fun _=>Zm rfl rfl rfl rfl zA zC (wAN bA)) ?_))
 have qc:=wBp (xs:=ab) (wAN bA)
 refine OKS.stR (j:=2) (vs:=[jV (w64 ((gd ab aa) + 1))]) (cs':=nA KL.encI (nL ab aa (w64 ((gd ab aa) + 1)))) rfl rfl rfl rfl fg rfl rfl rfl rfl rfl zC (by rw [wAD (f:=KL.encI) (sz:=1) (fun _=>rfl)];have hz:=wAN bA;show _ + 1 <= _;first | omega | (simp only [nJ];omega) | (simp only [nI,nG,nH];omega)) rfl (wCg (sz:=1) (fo:=0) (fun _=>rfl) _ _ _ _ qc (by first | omega | (simp only [nJ];omega) | (simp only [nI,nG,nH];omega)) (zB rfl) rfl) rfl ?_
 intro gM pk
 let ed:Res:=.row (some ⟨aq,0,none⟩) ak.length 3 1 (nA KL.encI (nL ab aa (w64 ((gd ab aa) + 1))))
 have pm:SW w [B1] U cy [bK,av,ed,bh,.blk b3 25 B0,au,dy] gM:=pk
 have pn:SW w [B1] U cy [bK,av,ed,.blk b7 25 [.slice br bb.length bs,.slice (some ⟨aq,0,none⟩) ((nL ab aa (w64 ((gd ab aa) + 1))).length) ak.length,.slice bf be.length bg],.blk b3 25 B0,au,dy] gM:=by simpa only [B0,B1,au,av,bh,bK,dy,ed,nK] using pm
 refine ZK (zq ?_)
 cases qL
 have mK:=dN.le dT
 exact zQ ⟨rfl,⟨cy,cD,cJ,bp,bL,bj,bE,bM,bo,(nU (b:=(.slice (some ⟨ba,0,none⟩) ai.length aY.length:Value)) (c:=(.slice (some ⟨ba,0,none⟩) ((nL ai aa (w64 ((gd ai aa) + 1))).length) aY.length:Value)) bq (by simp only [nK])),bN,bO,bF,bG,((bB.trans cX).trans dT),pn,mK,(nK.trans bP),(nK.trans bQ)⟩⟩
 intro eK qM
 refine ZB (congrArg nB (nE.2 eK.out)) (Zd (zq ?_))
 cases qM
 have mL:=dN.le dT
 exact zQ ⟨Z,⟨cy,cD,cJ,bp,bL,bj,bE,bM,bo,bq,bN,bO,bF,bG,((bB.trans cX).trans dT),ff,mL,bP,bQ⟩⟩
 intro bS qN
 refine oF Z bS (ZH Z Z Z (zJ Z Z (zy bS.out) Z) (oF Z bS (oR Z (zf Z (zy bS.out) Z) (oM Z Z (oN Z (oN Z (oN Z (oN Z (zd Z Z Z (wBA Z Z Z) (zd Z Z Z (wBA Z Z Z) (zd Z Z Z (wBA Z Z Z) (zd Z Z Z (wBA Z Z Z) (zd Z Z Z (wBA Z Z Z) (ZH Z Z Z (wBA Z Z Z) (oN Z (oR Z (zf Z Z Z) (eN (ZB Z (Zd (zq ?_))))))))))))))))))))
 cases qN
 exact zQ ⟨Z,⟨dA,dp,dG,bp,bL,bj,bE,bM,bo,bq,bN,bO,bF,bG,bB,cP,eY,bP,bQ⟩⟩
 rintro sM rL ⟨i8,dm,dE,lw,lx,ly,lz,lA,lB,lC,lE,lF,lG,lH,qV,pp,mM,mN,mO⟩
 refine rR fL2 Z (oR Z (ZL (zh Z lH Z) (congrArg (jV) qe.out)) (oM Z Z (ZK ?_)))
 cases iM
 exact zQ ⟨Z,⟨i8,dm,dE,Z,lw,lx,ly,lz,lA,lB,lC,lE,lF,lG,(fL.trans qV),pp,mM,mN,mO⟩⟩
 rintro sN jv ⟨rG,gg,gZ,lX,lJ,lK,lL,lM,lN,rP,lO,lP,lQ,lR,iY,pq,mQ,mR,rT⟩
 have jH:Hid (¬ ((↑(((gd bb aa):Int) - 0).toNat:Int) < (gd bb aa))):=zL (wBf)
 refine sR fL1 Z (oR Z (zl Z lX lR) (eN (zM (cF Z jH (Ze (zw (zw (ZW (zQ (rR gAu Z (oM Z lN (oM Z lO ?_))))))))))))
 have q:=pq.freezeR (k:=6) (n:=cp.length) rfl (wAD (f:=KL.encI) (sz:=1) (fun _=>rfl) cp) (by decide)
 obtain ⟨cG,fM,qQ,pu⟩:=q
 let ef:Res:=.blk b7 25 [.slice br bb.length bs,.slice (some ⟨aq,0,none⟩) i3.length ak.length,.slice bf be.length bg]
 let eh:Res:=.blk am 124 [.slice gg rk.length gZ,jV rn,.int .u32 ro]
 let ei:Res:=.row (some ⟨aq,0,none⟩) ak.length 3 1 (nA KL.encI i3)
 have py:SW w [B1] U cG [eh,av,ei,ef,.blk b3 25 B0,au] jv:=pu
 let dz:List Value:=[.slice (some ⟨ba,0,none⟩) cp.length aY.length]
 refine zo (pv:=[(0,.slice (some ⟨ba,0,none⟩) cp.length aY.length)]) (zs:=[.slice none 0 0]) (cs:=dz) Z Z Z Z Z (wAK Z wAa) Tryz.runUnderlying26 zR Tryz.zeroValue22 Z Z Z Z Z py ?_
 intro jw jB pt
 have iT:RlL cG wNt [cp] dz:=(RlL.cons (R:=wNt) (x:=cp) (vs:=dz) ⟨(some ⟨ba,0,none⟩),aY.length,rfl,qQ⟩ RlL.nil)
 let gv:Res:=.row (some ⟨jB,0,none⟩) 1 22 1 dz
 have iB:SW w [B1] U cG [gv,eh,av,ei,ef,.blk b3 25 B0,au] jw:=pt
 refine bnK iL fun qZ mS qO=>?_
 have mT:=md.le dR
 have mU:=mT.le iY
 have mV:=mU.le fM
 refine OKS.appendR (R:=wNt) (j:=6) (xs:=bY) (ys:=[cp]) (zs:=qZ) rfl rfl rfl rfl rfl Tryz.underlying26 wQc rfl rfl rfl rfl rfl rfl rfl iB rfl rfl rfl mV iT (iB.srcR (j:=0) rfl (by decide) (RlL.len iT)) mS rfl ?_
 intro gh g8 ig jx pz qP
 have pB:SW w [B1] U cG [gv,eh,av,ei,ef,.blk b3 25 B0,.row gh g8 22 1 ig] jx:=pz
 refine oA Z Z (ZK (zq (zQ (rR fL2 Z (oR Z (ZL (zh Z lQ Z) (congrArg (jV) qd.out)) (oM Z Z (ZK ?_)))))))
 cases qO
 have mW:=mQ.le fM
 exact zQ ⟨rfl,⟨cG,gg,gZ,br,bs,gh,g8,ig,rfl,lJ,lK,lL,lM,rfl,lP,(((fK.trans dR).trans iY).trans fM),(pB.pick [1,2,3,4,5,6] _ (by decide) rfl),mW,mR,qP⟩⟩
 rintro sO rM ⟨gC,gi,g9,dY,eL,dZ,eM,ib,lY,rQ,ir,lS,rS,lT,lU,qW,iC,mX,rV,mY⟩
 have jJ:Hid (¬ ((↑((aZ:Int) - 0).toNat:Int) < aZ)):=zL (wBf)
 refine sR fL1 Z (oR Z (zl Z lY lU) (eN (zM (cF Z jJ (Ze (zw (zw (ZW (zQ (sR gAq Z ?_))))))))))
 let cu:List Value:=[.slice dY iZ.length eL,.slice (some ⟨aq,0,none⟩) i0.length ak.length,.slice bf be.length bg]
 refine oL Z (iC.ldBA (j:=3) Z Z lS ZI ze (vs:=cu) Z Z) (oM Z lT (zu (j:=4) (vs:=cu) Z Z Z Z iC Z ir Z Z ze (zB Z) Z Z Z ?_))
 intro jy pC
 have iD:SW w [B1] U gC [.blk am 124 [.slice gi rc.length g9,jV re,.int .u32 ri],.row dY eL 3 1 (nA KL.encI iZ),.row (some ⟨aq,0,none⟩) ak.length 3 1 (nA KL.encI i0),.blk b7 25 cu,.blk b3 25 cu,.row dZ eM 22 1 ib] jy:=pC
 refine oA Z Z (eN (zX ?_))
 have mZ:=fB.le qW
 cases iJ
 exact ⟨rfl,_,(wKJ (rs:=[.cell 4 25,.tmp 5]) (vs:=[.agg cu.toArray,.slice dZ rj.length eM]) ⟨⟨_,ir,(wFm ZI ze (iD.blkAt (k:=4) rfl) (vs:=cu) rfl rfl)⟩,⟨rfl,trivial⟩⟩ rfl),gC,_,(iD.pick [1,2,5,0] _ (by decide) rfl),dY,eL,(some ⟨aq,0,none⟩),ak.length,bf,bg,dZ,eM,ib,gi,g9,rfl,rfl,mZ,mY,mX⟩
end Go.Proofs.YtfcmijinklojbaaGreat
namespace Go.Proofs.YtfcmijinklojbaaGreat
open Go.KL
set_option maxHeartbeats 4000000
theorem wCR (p0:List Int) (ak:Option Addr) (am:Nat) (w:World) (U:PHeap) (hS:St0 w U []) (aZ:Sl U 1 ak am p0.length (nA KL.encI p0)) {r:(List Int)} (hm:wAs p0=some r):Gv Tryz.prog 9 [.slice ak p0.length am] w (wCe w [] U (fun U_ L_ v=>∃ (A0:Option Addr) (c0:Nat),v=.slice A0 r.length c0/\L_=[.row A0 c0 3 1 (nA KL.encI r)])):=by
 unfold wAs at hm
 refine Gv.of Tryz.func9 Z Tryz.ntmps9 Tryz.results9 Z (sR fL1 Z (oA Z Z (eN (sR gAm Z (oM Z Z ?_)))))
 have av:=hS.nilrow 3 1
 have aj:sW w U U [.row none 0 3 1 (nA KL.encI ([]:List Int))] w:=av
 refine bnK hm fun x4 h5 ba=>ZX (j:=0) (enc:=KL.encI) (xs:=([]:List Int)) (ys:=p0) (zs:=x4) Z Z Z Z Z ZE wDl Z Z Z Z Z Z aj Z Z Z (aj.srcS aZ) (fun _=>Z) (fun _=>Z) h5 Z ?_
 intro A7 c8 W9 az
 have aY:sW w U U [.row A7 c8 3 1 (nA KL.encI x4)] W9:=az
 refine oA Z Z (eN (zX ?_))
 have hE:=nD ba;first | subst r | cases hE
 exact ⟨Z,_,(ZA Z),U,_,aY,A7,c8,Z,Z⟩
theorem wCf (p0:List wAA) (ak:Option Addr) (am:Nat) (w:World) (U:PHeap) (hS:St0 w U []) (aZ:Sl U 2 ak am p0.length (nA wAB p0)) {r:(List wAA)} (hm:wAc p0=some r):Gv Tryz.prog 44 [.slice ak p0.length am] w (wCe w [] U (fun U_ L_ v=>∃ (A0:Option Addr) (c0:Nat),v=.slice A0 r.length c0/\L_=[.row A0 c0 59 2 (nA wAB r)])):=by
 unfold wAc at hm
 refine Gv.of Tryz.func44 Z Tryz.ntmps44 Tryz.results44 Z (sR fL1 Z (oA Z Z (eN (sR gAm Z (oM Z Z ?_)))))
 have av:=hS.nilrow 59 2
 have aj:sW w U U [.row none 0 59 2 (nA wAB ([]:List wAA))] w:=av
 refine bnK hm fun x4 h5 ba=>ZX (j:=0) (enc:=wAB) (xs:=([]:List wAA)) (ys:=p0) (zs:=x4) Z Z Z Z Z Tryz.underlying23 wLt Z Z Z Z Z Z aj Z Z Z (aj.srcS aZ) (fun _=>Z) (fun _=>Z) h5 Z ?_
 intro A7 c8 W9 az
 have aY:sW w U U [.row A7 c8 59 2 (nA wAB x4)] W9:=az
 refine oA Z Z (eN (zX ?_))
 have hE:=nD ba;first | subst r | cases hE
 exact ⟨Z,_,(ZA Z),U,_,aY,A7,c8,Z,Z⟩
theorem wBx (p0:wAC) (aj:Option Addr) (ap:Nat) (ak:Option Addr) (aq:Nat) (am:Option Addr) (au:Nat) (w:World) (U:PHeap) (hS:St0 w U []) (bT:Sl U 1 aj ap p0.Shots.length (nA KL.encI p0.Shots)) (bU:Sl U 1 ak aq p0.Down.length (nA KL.encI p0.Down)) (bV:Sl U 2 am au p0.Across.length (nA wAB p0.Across)) {r:wAC} (hm:wAp p0=some r):Gv Tryz.prog 7 [.agg #[.slice aj p0.Shots.length ap,.slice ak p0.Down.length aq,.slice am p0.Across.length au]] w (wCe w [] U (fun U_ L_ v=>∃ (bl:Option Addr) (bu:Nat) (bm:Option Addr) (bv:Nat) (bn:Option Addr) (bw:Nat),v=.agg #[.slice bl r.Shots.length bu,.slice bm r.Down.length bv,.slice bn r.Across.length bw]/\L_=[.row bl bu 3 1 (nA KL.encI r.Shots),.row bm bv 3 1 (nA KL.encI r.Down),.row bn bw 59 2 (nA wAB r.Across)])):=by
 unfold wAp at hm
 refine Gv.of Tryz.func7 Z Tryz.ntmps7 Tryz.results7 Z (sR gAk Z ?_)
 let B0:List Value:=[.slice aj p0.Shots.length ap,.slice ak p0.Down.length aq,.slice am p0.Across.length au]
 refine Zc (cs:=B0) rfl rfl rfl rfl rfl rfl (by rfl) hS ?_
 intro W1 b2 bM
 let B1:List Value:=[.slice none 0 0,.slice none 0 0,.slice none 0 0]
 refine ZF (cs:=B1) Z Z Z Z Z Zi Z bM ?_
 intro W5 b6 bS
 refine eN (zM (ZQ ZJ [3,1,2,3,1,2,3,1,2,3,0] (.fl 0 (.fl 1 (.fl 3 (.fl 4 (.fl 6 (.fl 7 (.fx 2 (.fx 5 (.fx 8 (.fl 9 (.fx 10 .nil .stop)) .stop) .stop) .stop))))))) (by kernel_rfl) ?_))
 have ai:=bS.drew
 generalize hw_W10:({ W5 with drawn:=W5.drawn + 1 }:World)=bB at ai ⊢
 refine oR Z (zG Z Z zF Z zR) (oL Z (ai.ldB (j:=1) Z Z Z zZ (v:=.slice aj p0.Shots.length ap) Z) (oR Z (zG Z Z zF Z zR) (oL Z (ai.ldB (j:=1) Z Z Z zZ (v:=.slice ak p0.Down.length aq) Z) (oR Z (zG Z Z zF Z ZC) (oL Z (ai.ldB (j:=1) Z Z Z ZY (v:=.slice am p0.Across.length au) Z) (bnK hm fun bj bE bW=>zP 0 Z Z Z Z (zN Z Z Tryz.call9 (zD Z zV) Z) ai (fun hs=>wCR p0.Shots aj ap bB U hs bT bE) (.inr Z) ?_))))))
 rintro bp b5 cj br bA bK ⟨av,be,rfl,rfl⟩
 let B2:Res:=.row av be 3 1 (nA KL.encI bj)
 have bL:sW w U bp [B2,.blk b6 25 B1,.blk b2 25 B0] br:=bK
 have bF:=bU.le bA
 refine bnK bW fun bk bG bX=>zP 0 Z Z Z Z (zN Z Z Tryz.call9 (zD Z zV) Z) bL (fun hs=>wCR p0.Down ak aq br bp hs bF bG) (.inr Z) ?_
 rintro bq b9 cn bs bZ bN ⟨az,bf,rfl,rfl⟩
 let B3:Res:=.row az bf 3 1 (nA KL.encI bk)
 have bO:sW w U bq [B3,B2,.blk b6 25 B1,.blk b2 25 B0] bs:=bN
 have bH:=bV.le bA
 have bI:=bH.le bZ
 refine bnK bX fun x40 bJ bY=>zP 0 Z Z Z Z (zN Z Z Tryz.call44 (zD Z zV) Z) bO (fun hs=>wCf p0.Across am au bs bq hs bI bJ) (.inr Z) ?_
 rintro bi cd cp bC ci bP ⟨aY,bg,rfl,rfl⟩
 let B4:Res:=.row aY bg 59 2 (nA wAB x40)
 have bQ:sW w U bi [B4,B3,B2,.blk b6 25 B1,.blk b2 25 B0] bC:=bP
 let B5:List Value:=[.slice av bj.length be,.slice az bk.length bf,.slice aY x40.length bg]
 refine oR Z (Zg (pv:=[(0,.slice av bj.length be),(1,.slice az bk.length bf),(2,.slice aY x40.length bg)]) (z:=B1) (cs:=B5) Z (wAK Z (wAK Z (wAK Z wAa))) Zi wJT Z Z) (zu (j:=3) (vs:=B5) Z Z Z Z bQ Z Z Z Z ze (zB Z) Z Z Z ?_)
 intro bD bR
 have bz:sW w U bi [B4,B3,B2,.blk b6 25 B5,.blk b2 25 B0] bD:=bR
 refine eN (zX ?_)
 cases bY
 exact ⟨rfl,_,(wII (v:=.agg B5.toArray) ⟨⟨_,rfl,(wFm ZI ze (bz.blkAt (k:=3) rfl) (vs:=B5) rfl rfl)⟩,trivial⟩),bi,_,(bz.pick [2,1,0] _ (by decide) rfl),av,be,az,bf,aY,bg,rfl,rfl⟩
theorem wBr (p0:List wAA) (ab:Option Addr) (ae:Nat) (p1:((wAA × wAA)->Option Int)) (ah:Value) (w:World) (U:PHeap) (hS:St ⟨w,[.row ab ae 59 2 (nA wAB p0)],U⟩ U [.row ab ae 59 2 (nA wAB p0)] w) (aj:FnOK Tryz.prog U ah ar62 rr62 p1) (ak:∃ g cb,ah=.func (.func g) #[] cb) {r:List wAA} (hm:wAg p0 p1=some r):Gv Tryz.prog 26 [.slice ab p0.length ae,ah] w (wCe w [.row ab ae 59 2 (nA wAB p0)] U (fun U_ L_ v=>v=.tuple #[]/\L_=[.row ab ae 59 2 (nA wAB r)]/\r.length=p0.length)) :=
 wKz (sz:=2) (fun _=>rfl) (fun x v h=>List.all_eq_true.1 (show (wAB x).all (·.oneCell')=true from rfl) v h) (fun _ _ _=>rfl) (fun _ _ _ _ h=>h.1) (fun enc a1 a2 cf b g cb k1 k2 k3 d w h1 h2 h3 h4 h5 h6=>Go.Proofs.Tryz.slices_SortFunc_total 2 Tryz.isAgg59 Tryz.sizeOf59 enc a1 a2 cf b g cb k1 k2 k3 d w h1 h2 h3 h4 h5 h6) (fun p c v w=>Go.Proofs.Tryz.slices_SortFunc_none (α:=Int) p c v w) hS aj (by decide) ak hm
theorem wCs (p0:wAA) (p1:wAA) (w:World) (U:PHeap) (hS:St0 w U [])  {r:Int} (hm:wAQ p0 p1=some r):Gv Tryz.prog 27 [.agg #[jV p0.Skier,jV p0.Lane],.agg #[jV p1.Skier,jV p1.Lane]] w (wCe w [] U (fun U_ L_ v=>v=jV r/\L_=[])):=by
 unfold wAQ at hm
 refine Gv.of Tryz.func27 rfl Tryz.ntmps27 Tryz.results27 rfl (sR gAo rfl (Zc (cs:=[jV p0.Skier,jV p0.Lane]) rfl rfl rfl rfl rfl rfl (by rfl) hS ?_))
 intro W1 b2 ah
 refine Zc (cs:=[jV p1.Skier,jV p1.Lane]) rfl rfl rfl rfl rfl rfl (by rfl) ah ?_
 intro W5 b6 ae
 refine oA Z Z (eN (sR fL13 Z (oR Z (zG Z Z zp Z zC) (oL Z (ae.ldB (j:=1) Z Z Z zI (v:=jV p0.Skier) Z) (oR Z (zG Z Z zp Z zC) (oL Z (ae.ldB (j:=0) Z Z Z zI (v:=jV p1.Skier) Z) (oR Z (Zp Z Z Z) (oR Z (Runs.mulw Z Z Z) (oR Z (zG Z Z zp Z zC) (oL Z (ae.ldB (j:=1) Z Z Z zI (v:=jV p0.Lane) Z) (oR Z (zh Z Z Z) (oR Z (zG Z Z zp Z zC) (oL Z (ae.ldB (j:=0) Z Z Z zI (v:=jV p1.Lane) Z) (oR Z (Zp Z Z Z) (oA Z Z (eN (zX ?_)))))))))))))))))
 cases hm
 exact ⟨rfl,_,(ZA rfl),U,_,(ae.pick [] _ (by decide) rfl),rfl,rfl⟩
theorem wBv (p0:wAA) (p1:wAA) (be:Nat) (p2:List (List Int)) (bf:Nat) (aq:Option Addr) (au:Nat) (w:World) (U:PHeap) (hS:St0 w U []) (ap:Cl U be 0 [jV p1.Skier,jV p1.Lane]) (bo:Cl U bf 0 [.slice aq p2.length au]) (bp:SlR U wNt aq au p2) {r:Bool} (hm:wAL p0 p1 p2=some r):Gv Tryz.prog 29 [.agg #[jV p0.Skier,jV p0.Lane],.pointer (some ⟨be,0,none⟩),.pointer (some ⟨bf,0,none⟩)] w (wCe w [] U (fun U_ L_ v=>v=.bool r/\L_=[])):=by
 unfold wAL at hm
 refine Gv.of Tryz.func29 Z Tryz.ntmps29 Tryz.results29 Z (sR gAg Z ?_)
 let B0:List Value:=[jV p0.Skier,jV p0.Lane]
 refine Zc (cs:=B0) rfl rfl rfl rfl rfl rfl (by rfl) hS ?_
 intro W1 b2 bn
 refine OKS.ra rfl rfl rfl rfl rfl rfl (eN (zM (ZQ ZJ [1,1,3,3,1,3,1,3,1,3,1,3,1,3,3,3] fL16 (by kernel_rfl) ?_)))
 have ab:=bn.drew
 generalize hw_W6:({ W1 with drawn:=W1.drawn + 1 }:World)=W6 at ab ⊢
 refine oL Z (ab.ldBA (j:=0) Z Z Z ZT zj (vs:=B0) Z Z) (oL Z (ab.ldCA (f:=0) ap Z Z ZT zj (us:=[jV p1.Skier,jV p1.Lane]) Z Z) (oR Z (Runs.eqS (enc:=wAB) (a:=p0) (b:=p1) Z Z Z wQe wQd) (oM Z Z ?_)))
 by_cases c7:p0=p1
 have ba:=hm;rw [if_pos c7] at ba;replace c7:=zL c7
 refine zi Z Z Z (wT Z c7) (ab.ldC (f:=0) bo (v:=.slice aq p2.length au) Z Z Tryz.isAgg26 Z) Z (rU Z (wT Z c7) (zG Z Z zp Z zC) (zi Z Z Z (wT Z c7) (ab.ldC (f:=0) ap (v:=jV p1.Skier) Z Z zI Z) Z (bnK ba fun x9 aj bq=>?_)))
 have q:=bp.el (wCE aj)
 obtain ⟨bi,bs,bA,bk,am,br⟩:=q
 obtain ⟨bb,bg,rfl,bj⟩:=br
 replace am:Cl U bi (bs + p1.Skier.toNat * 1) [.slice bb x9.length bg]:=am
 refine rU Z (wT Z c7) (ZV Z Z bk Z Tryz.runUnderlying26 zR (wFG aj) (wFj aj)) (zi Z Z Z (wT Z c7) (ab.ldC (f:=0) am (v:=.slice bb x9.length bg) Z Z zZ Z) Z (rU Z (wT Z c7) (zG Z Z zp Z zC) (zi Z Z Z (wT Z c7) (ab.ldC (f:=1) ap (v:=jV p1.Lane) Z Z zI Z) Z (bnK bq fun bt ak aY=>?_))))
 have q:=bj.el (fun _=>rfl) (wCE ak)
 obtain ⟨bw,bz,bl,bm⟩:=q
 refine rU Z (wT Z c7) (ZV Z Z bl Z zA zC (wFG ak) (wFj ak)) (zi Z Z Z (wT Z c7) (ab.ldC (f:=0) bm (v:=jV bt) Z Z zI Z) Z (rU Z (wT Z c7) (Runs.eql Z Z Z) (oR Z (zK Z (Zo c7.out) Z) (oA Z Z (eN (zX ?_))))))
 first | (obtain rfl:=nD aY) | cases aY
 exact ⟨rfl,_,(ZA rfl),U,_,(ab.pick [] _ (by decide) rfl),rfl,rfl⟩
 have aZ:=hm;rw [if_neg c7] at aZ;replace c7:=zL c7
 refine oF Z c7 (oF Z c7 (oF Z c7 (oF Z c7 (oF Z c7 (oF Z c7 (oF Z c7 (oF Z c7 (oF Z c7 (oF Z c7 (oR Z (zf Z (zy c7.out) Z) (oA Z Z (eN (zX ?_)))))))))))))
 have hE:=nD aZ;first | subst r | cases hE
 exact ⟨rfl,_,(ZA rfl),U,_,(ab.pick [] _ (by decide) rfl),rfl,rfl⟩
theorem wBF (p0:List wAA) (aq:Option Addr) (au:Nat) (p1:(wAA->Option Bool)) (av:Value) (w:World) (U:PHeap) (hS:St0 w U []) (bw:Sl U 2 aq au p0.length (nA wAB p0)) (bz:FnOK Tryz.prog U av wMv wMw p1) {r:Int} (hm:wAJ p0 p1=some r):Gv Tryz.prog 74 [.slice aq p0.length au,av] w (wCe w [] U (fun U_ L_ v=>v=jV r/\L_=[])):=by
 unfold wAJ at hm
 refine Gv.of Tryz.func74 Z Tryz.ntmps74 Tryz.results74 Z (sR fL1 Z (oA Z Z (eN (zM (sR fL3 Z (oM Z Z (oR Z (Za Z Z zt) (oM Z Z (eN (zk ?_))))))))))
 have q:=wCo hm
 obtain ⟨r3,aj⟩:=q
 have q:=wCn aj
 obtain ⟨am,bC⟩:=q
 replace am:=zL am
 refine CK.forN (fun k2 _ σ_ w_=>∃ (U_:PHeap),σ_ 8=jV (↑k2:Int)/\σ_ 0=.slice aq p0.length au/\σ_ 1=av/\σ_ 7=jV (↑p0.length:Int)/\PHeap.Le U U_/\sW w U U_ [] w_) bC ?_ ?_ ?_
 exact ⟨U,Z,Z,Z,Z,(zY _),hS⟩
 rintro k2 ⟨⟩ bW bY W8 ak ⟨bM,ai,aY,aZ,ba,ap,be⟩ bh bA
 try dsimp only at bh
 have az:Hid ((↑k2:Int) < (↑p0.length:Int)):=zL (wCI ak)
 replace ak:=zL ak
 have bD:Hid (w64 ((↑k2:Int) + 1)=(↑(k2 + 1):Int)):=zL (by have h1:=am.out;have h2:=az.out;rw [wAf] <;> omega)
 refine sR fL1 Z (oR Z (zl Z ai ba) (eN (zM (cT Z az (kN (zM (zk (sR fL2 Z (oM Z ai (oA Z Z (eN (sR (wID (.fx 5 .nil .stop)) Z (oM Z aZ (oM Z aY (oM Z Z (bnK bh fun x22 bb bE=>?_))))))))))))))))
 have bp:=bw.le ap
 have q:=bp.el (fun _=>rfl) (wCE bb)
 obtain ⟨bP,bT,bs,bt⟩:=q
 refine oR Z (Zm Z Z bs Z zt zj (wFH bb)) (oL Z (be.ldCA (f:=0) bt Z Z ZT zj (us:=[jV x22.Skier,jV x22.Lane]) Z Z) (bnK bE fun x30 bq bF=>?_))
 have br:=bz.le ap
 refine OKS.callV (a:=x22) Z Z Z Z Z Z (zD Z zV) be br Z bq ?_
 rintro ae bL bV bk bJ bu ⟨rfl,rfl⟩
 have bf:sW w U ae [] bk:=bu
 refine eN (ifc bF ?_ ?_)
 intro ah bG
 refine zx (congrArg nB ah.out) (sR fL2 Z (oM Z Z (oA Z Z (eN (zX (zO (zH ?_)))))))
 have q:=wAS bG
 obtain ⟨bK,bH,bm⟩:=q
 have q:=wBI hm aj (bA bK bm)
 obtain rfl:=q
 refine zH (zO (zH ?_))
 cases bH
 exact ⟨Z,_,(ZA Z),ae,_,bf,Z,Z⟩
 intro ah bI
 refine ZB (congrArg nB (nE.2 ah.out)) (Zd (zq (zQ (rR fL2 Z (oR Z (ZL (zh Z ai Z) (congrArg (jV) bD.out)) (oM Z Z (ZK ?_)))))))
 have q:=nD bI
 obtain rfl:=q
 exact zQ ⟨Z,_,Z,⟨ae,Z,aY,aZ,ba,(ap.trans bJ),bf⟩⟩
 rintro ⟨⟩ bX bN ⟨bj,bo,bQ,bR,bn,bS,bv⟩ bB
 have bg:=wDp hm aj bB
 try dsimp only at bg
 have bl:Hid (¬ ((↑(((↑p0.length:Int):Int) - 0).toNat:Int) < (↑p0.length:Int))):=zL (wBf)
 refine sR fL1 Z (oR Z (zl Z bo bn) (eN (zM (cF Z bl (Ze (zw (zw (ZW (zQ (sR fL1 Z (oA Z Z (eN (zX ?_)))))))))))))
 cases bg
 exact ⟨Z,_,(ZA Z),bj,_,bv,Z,Z⟩
theorem wBC (p0:List wAA) (ab:Option Addr) (ae:Nat) (p1:(wAA->Option Bool)) (bb:Value) (w:World) (U:PHeap) (hS:St0 w U [.row ab ae 59 2 (nA wAB p0)]) (bz:FnOK Tryz.prog U bb wMv wMw p1) {r:(List wAA)} (hm:wAI p0 p1=some r):Gv Tryz.prog 28 [.slice ab p0.length ae,bb] w (wCe w [.row ab ae 59 2 (nA wAB p0)] U (fun U_ L_ v=>∃ (A0:Option Addr) (c0:Nat),v=.slice A0 r.length c0/\L_=[.row A0 c0 59 2 (nA wAB r)])):=by
 unfold wAI at hm
 refine Gv.of Tryz.func28 Z Tryz.ntmps28 Tryz.results28 Z (sR fL1 Z (oA Z Z (eN (sR gAq Z (oM Z Z (oM Z Z ?_))))))
 have q:=hS.freezeT (k:=0) (n:=p0.length) rfl (wAD (f:=wAB) (sz:=2) (fun _=>rfl) p0) (by decide)
 obtain ⟨U3,cE,cB,bW,cG⟩:=q
 let B0:Res:=.row ab ae 59 2 (nA wAB p0)
 have bZ:SW w [B0] U U3 [] w:=bW
 have h8:=bz.le cE
 refine bnK hm fun x9 bM cp=>zP 0 Z Z Z Z (zN Z Z Tryz.call74 (zD Z (zD Z zV)) Z) bZ (fun hs=>wBF p0 ab ae p1 bb w U3 hs cB h8 bM) (.inr Z) ?_
 rintro bG cI cP br cC bT ⟨rfl,rfl⟩
 have bU:SW w [B0] U bG [] br:=bT
 have q:=cG _ _ _ cC bU
 obtain ⟨au,cD,bV⟩:=q
 have bv:SW w [B0] U au [B0] br:=bV
 refine oA Z Z (eN (zM (sR fL2 Z (oM Z Z (oR Z (Runs.eql Z Z Z) (eN (ifc cp ?_ ?_)))))))
 intro bg cq
 refine cT Z bg (sR fL2 Z (oM Z Z (oA Z Z (eN (zX (zH ?_))))))
 have hE:=nD cq;first | subst r | cases hE
 exact ⟨Z,_,(ZA Z),au,_,bv,ab,ae,Z,Z⟩
 intro bg cr
 refine cF Z bg (kN (zM (sR fL3 Z (oM Z Z (oR Z (zh Z Z Z) (oA Z Z (eN (zk (CK.iter (fun (aa,x36,x37) σ_ w_=>∃ (U_:PHeap),σ_ 0=.slice ab aa.length ae/\σ_ 1=bb/\σ_ 5=jV x36/\σ_ 6=jV x37/\PHeap.Le au U_/\SW w [B0] U U_ [.row ab ae 59 2 (nA wAB aa)] w_/\aa.length=p0.length) cr ?_ ?_)))))))))
 exact ⟨au,Z,Z,Z,Z,(zY _),bv,Z⟩
 rintro ⟨aa,x36,x37⟩ cS cU cK ⟨be,am,bi,ap,az,bl,aq,bt⟩ bk cg
 try dsimp only at bk
 refine zM (sR fL4 Z (oM Z az (oM Z am (oR Z (Za Z Z zt) (oR Z (zl Z Z Z) (eN ?_))))))
 by_cases ak:x37 < (↑aa.length:Int)
 have bC:=bk;rw [if_pos ak] at bC;replace ak:=zL ak
 refine cT Z ak (kN (zM (zk (sR (wIs (.fx 4 (.fx 5 .nil .stop) .stop)) Z (oM Z am (oM Z az (bnK bC fun _ aY ct=>?_)))))))
 obtain ⟨cM,ba⟩:=aq.rowSome (j:=0) rfl (by rw [wAD (f:=wAB) (sz:=2) (fun _=>rfl) aa];have hz:=wAN aY;omega)
 refine oR Z (ZV Z Z ba Z zt zj (wAy aY) (wAz aY)) ?_
 have ci:=wBp (xs:=aa) (wAN aY)
 let B1:List Value:=[jV ((gd aa x37.toNat).Skier),jV ((gd aa x37.toNat).Lane)]
 refine zi rfl rfl rfl rfl (aq.ldRA (j:=0) rfl ba rfl rfl ZT zj (vs:=B1) (wIJ (sz:=2) (fun _=>rfl) _ _ _ ci (by first | omega | rfl | simp) rfl) rfl) rfl (ZF (cs:=[jV 0,jV 0]) rfl rfl rfl rfl rfl ZS rfl aq ?_)
 intro cL bf bX
 refine zu (j:=0) (vs:=B1) Z Z Z Z bX Z Z Z Z zj (zB Z) Z Z Z ?_
 intro bI bY
 let B2:Res:=.row ab ae 59 2 (nA wAB aa)
 have bw:SW w [B0] U be [.blk bf 59 B1,B2] bI:=bY
 refine eN (sR gAq Z (oM Z bi (oL Z (bw.ldBA (j:=0) Z Z Z ZT zj (vs:=B1) Z Z) (bnK ct fun x67 bN cu=>?_))))
 have bO:=bz.le cD
 have bP:=bO.le bl
 refine OKS.callV (a:=(gd aa x37.toNat)) Z Z Z Z Z Z (zD Z zV) bw bP Z bN ?_
 rintro av cJ cQ bJ bF b5 ⟨rfl,rfl⟩
 have bj:SW w [B0] U av [.blk bf 59 B1,B2] bJ:=b5
 refine oR Z (ZO Z Z) (eN (ifc cu ?_ ?_))
 intro bh cw
 refine ZB (nC bh.out) (Zd (zq (zQ (rR fL3 Z (oM Z az (oR Z (zh Z Z Z) (oA Z Z (ZK ?_))))))))
 have q:=nD cw
 obtain rfl:=q
 exact zQ ⟨rfl,_,rfl,⟨av,am,bi,ap,rfl,(bl.trans bF),(bj.pick [1] _ (by decide) rfl),bt⟩⟩
 intro bh cx
 refine zx (nF (bh.out)) (sR (wIs (.fx 4 .nil .stop)) Z (oM Z am (oM Z ap (oL Z (bj.ldBA (j:=0) Z Z Z ZT zj (vs:=B1) Z Z) (bnK cx fun _ aZ cy=>oR Z (ZV Z Z ba Z zt zj (wAy aZ) (wAz aZ)) ?_)))))
 have cj:=wBp (xs:=aa) (wAN aZ)
 refine OKS.stR (j:=1) (vs:=B1) (cs':=nA wAB (nL aa x36.toNat (gd aa x37.toNat))) rfl rfl rfl rfl bj rfl ba rfl rfl rfl zj (by rw [wAD (f:=wAB) (sz:=2) (fun _=>rfl)];have hz:=wAN aZ;show _ + 2 <= _;first | omega | (simp only [nJ];omega) | (simp only [nI,nG,nH];omega)) rfl (wCg (sz:=2) (fo:=0) (fun _=>rfl) _ _ _ _ cj (by first | omega | (simp only [nJ];omega) | (simp only [nI,nG,nH];omega)) (zB rfl) rfl) rfl ?_
 intro bK b9
 have cd:SW w [B0] U av [.blk bf 59 B1,.row ab ae 59 2 (nA wAB (nL aa x36.toNat (gd aa x37.toNat)))] bK:=b9
 refine eN (rR fL3 Z (oM Z ap (oR Z (zh Z Z Z) (oA Z Z (ZK (zq (zQ (rR fL3 Z (oM Z az (oR Z (zh Z Z Z) (oA Z Z (ZK ?_))))))))))))
 have q:=nD cy
 obtain rfl:=q
 exact zQ ⟨rfl,_,rfl,⟨av,(nU (b:=(.slice ab aa.length ae:Value)) (c:=(.slice ab ((nL aa x36.toNat (gd aa x37.toNat)).length) ae:Value)) am (by simp only [nK])),bi,rfl,rfl,(bl.trans bF),(cd.pick [1] _ (by decide) rfl),(nK.trans bt)⟩⟩
 have bD:=bk;rw [if_neg ak] at bD;replace ak:=zL ak
 refine cF Z ak (Ze (zw ?_))
 have q:=wAS bD
 obtain ⟨cH,cz,bL⟩:=q
 have q:=cg cH bL
 obtain rfl:=q
 refine zw (ZW (zQ (sR (wCl (.fx 3 .nil .stop)) Z (oM Z am (oM Z ap (bnK cz fun bn bu cn=>?_))))))
 have q:=wNd bu
 obtain ⟨cN,bA,bB,cO,cA⟩:=q
 have bE:=aq.rowCap (j:=0) rfl (by decide) (wAD (f:=wAB) (sz:=2) (fun _=>rfl) aa)
 refine zS (v:=.slice (if ae=(x36:Int).toNat then ab else Option.map (fun q:Addr=>q.add ((x36:Int).toNat * 2)) (ab:Option Addr)) (((aa.length:Nat):Int).toNat - (x36:Int).toNat) (ae - (x36:Int).toNat)) rfl rfl rfl rfl (fun _=>Runs.slc (sz:=2) (a:=x36) (b:=((aa.length:Nat):Int)) rfl rfl (.inl ⟨_,rfl,rfl⟩) (.inr ⟨rfl,rfl⟩) zt zj bA bB (Int.le_refl _) bE) (OKS.clearTail (j:=0) (a:=x36) (f:=wAB) (m:=aa) (zs:=bn) rfl rfl rfl rfl aq rfl (fun _=>rfl) (by decide) bu rfl zt ZS rfl rfl rfl ?_)
 intro bH bR
 have bS:SW w [B0] U be [.row ab ae 59 2 (nA wAB bn)] bH:=bR
 refine eN (sR fL4 rfl (zz rfl rfl rfl rfl rfl am (zz rfl rfl rfl rfl rfl ap (zS (v:=.slice ab bn.length ae) rfl rfl rfl rfl (fun _=>ZL (Runs.slc (sz:=2) (a:=0) (b:=x36) rfl rfl (.inr ⟨rfl,rfl⟩) (.inl ⟨_,rfl,rfl⟩) zt zj (Int.le_refl _) bA bB bE) (slcK.trans (by rw [cA]))) (OKS.ra rfl rfl rfl rfl rfl rfl (eN (zX ?_)))))))
 have hE:=nD cn;first | subst r | cases hE
 exact ⟨Z,_,(ZA Z),be,_,bS,ab,ae,Z,Z⟩
theorem wBD (p0:Int) (p1:Int) (p2:Int) (w:World) (U:PHeap) (hS:St0 w U [])  {r:Bool} (hm:wAb p0 p1 p2=some r):Gv Tryz.prog 46 [jV p0,jV p1,jV p2] w (wCe w [] U (fun U_ L_ v=>v=.bool r/\L_=[])):=by
 unfold wAb at hm
 refine Gv.of Tryz.func46 Z Tryz.ntmps46 Tryz.results46 Z (sR fL1 Z (oA Z Z (eN (sR fL9 Z (oM Z Z (oM Z Z (oR Z (Runs.geq Z Z Z) (oM Z Z ?_))))))))
 by_cases c1:p1 <= p0
 have ab:=hm;rw [if_pos c1] at ab;replace c1:=zL c1
 refine zz Z Z Z (wT Z c1) Z Z (zz Z Z Z (wT Z c1) Z Z (rU Z (wT Z c1) (Runs.leq Z Z Z) (oR Z (zK Z (Zo c1.out) Z) (oA Z Z (eN (zX ?_))))))
 first | (obtain rfl:=nD ab) | cases ab
 exact ⟨Z,_,(ZA Z),U,_,hS,Z,Z⟩
 have ai:=hm;rw [if_neg c1] at ai;replace c1:=zL c1
 refine oF Z c1 (oF Z c1 (oF Z c1 (oR Z (zf Z (zy c1.out) Z) (oA Z Z (eN (zX ?_))))))
 have hE:=nD ai;first | subst r | cases hE
 exact ⟨Z,_,(ZA Z),U,_,hS,Z,Z⟩
theorem wEp (p0:Int) (p1:(Int->Option Bool)) (ai:Nat) (ab:Value) (w:World) (U:PHeap) (hS:St0 w U []) (aq:Cl U ai 0 [ab]) (au:FnOK Tryz.prog U ab wMx wPD p1) {r:Bool} (hm:wBL p0 p1=some r):Gv Tryz.prog 92 [jV p0,.pointer (some ⟨ai,0,none⟩)] w (wCe w [] U (fun U_ L_ v=>v=.bool r/\L_=[])):=by
 unfold wBL at hm
 refine Gv.of Tryz.func92 Z Tryz.ntmps92 Tryz.results92 Z (sR fL1 Z (oA Z Z (eN (sR gAt Z (oL Z (hS.ldC (f:=0) aq (v:=ab) Z Z Tryz.isAgg98 Z) (oM Z Z (bnK hm fun x1 h2 av=>OKS.callV (a:=p0) Z Z Z Z Z Z (zD Z zV) hS au Z h2 ?_)))))))
 rintro U4 L5 v6 W7 aY ap ⟨rfl,rfl⟩
 have am:sW w U U4 [] W7:=ap
 refine oR Z (ZO Z Z) (oA Z Z (eN (zX ?_)))
 cases av
 exact ⟨Z,_,(ZA Z),U4,_,am,Z,Z⟩
theorem wCv (p0:List Int) (aq:Option Addr) (au:Nat) (p1:(Int->Option Bool)) (av:Value) (w:World) (U:PHeap) (hS:St0 w U []) (bw:Sl U 1 aq au p0.length (nA KL.encI p0)) (bz:FnOK Tryz.prog U av wMx wPD p1) {r:Int} (hm:wBG p0 p1=some r):Gv Tryz.prog 114 [.slice aq p0.length au,av] w (wCe w [] U (fun U_ L_ v=>v=jV r/\L_=[])):=by
 unfold wBG at hm
 refine Gv.of Tryz.func114 Z Tryz.ntmps114 Tryz.results114 Z (sR fL1 Z (oA Z Z (eN (zM (sR fL3 Z (oM Z Z (oR Z (Za Z Z zA) (oM Z Z (eN (zk ?_))))))))))
 have q:=wCo hm
 obtain ⟨r3,aj⟩:=q
 have q:=wCn aj
 obtain ⟨am,bC⟩:=q
 replace am:=zL am
 refine CK.forN (fun k2 _ σ_ w_=>∃ (U_:PHeap),σ_ 8=jV (↑k2:Int)/\σ_ 0=.slice aq p0.length au/\σ_ 1=av/\σ_ 7=jV (↑p0.length:Int)/\PHeap.Le U U_/\sW w U U_ [] w_) bC ?_ ?_ ?_
 exact ⟨U,Z,Z,Z,Z,(zY _),hS⟩
 rintro k2 ⟨⟩ bW bY W8 ak ⟨bM,ai,aY,aZ,ba,ap,be⟩ bh bA
 try dsimp only at bh
 have az:Hid ((↑k2:Int) < (↑p0.length:Int)):=zL (wCI ak)
 replace ak:=zL ak
 have bD:Hid (w64 ((↑k2:Int) + 1)=(↑(k2 + 1):Int)):=zL (by have h1:=am.out;have h2:=az.out;rw [wAf] <;> omega)
 refine sR fL1 Z (oR Z (zl Z ai ba) (eN (zM (cT Z az (kN (zM (zk (sR fL2 Z (oM Z ai (oA Z Z (eN (sR (wID (.fx 5 .nil .stop)) Z (oM Z aZ (oM Z aY (oM Z Z (bnK bh fun x22 bb bE=>?_))))))))))))))))
 have bp:=bw.le ap
 have q:=bp.el (fun _=>rfl) (wCE bb)
 obtain ⟨bP,bT,bs,bt⟩:=q
 refine oR Z (Zm Z Z bs Z zA zC (wFH bb)) (oL Z (be.ldC (f:=0) bt (v:=jV x22) Z Z zI Z) (bnK bE fun x30 bq bF=>?_))
 have br:=bz.le ap
 refine OKS.callV (a:=x22) Z Z Z Z Z Z (zD Z zV) be br Z bq ?_
 rintro ae bL bV bk bJ bu ⟨rfl,rfl⟩
 have bf:sW w U ae [] bk:=bu
 refine eN (ifc bF ?_ ?_)
 intro ah bG
 refine zx (congrArg nB ah.out) (sR fL2 Z (oM Z Z (oA Z Z (eN (zX (zO (zH ?_)))))))
 have q:=wAS bG
 obtain ⟨bK,bH,bm⟩:=q
 have q:=wBI hm aj (bA bK bm)
 obtain rfl:=q
 refine zH (zO (zH ?_))
 cases bH
 exact ⟨Z,_,(ZA Z),ae,_,bf,Z,Z⟩
 intro ah bI
 refine ZB (congrArg nB (nE.2 ah.out)) (Zd (zq (zQ (rR fL2 Z (oR Z (ZL (zh Z ai Z) (congrArg (jV) bD.out)) (oM Z Z (ZK ?_)))))))
 have q:=nD bI
 obtain rfl:=q
 exact zQ ⟨Z,_,Z,⟨ae,Z,aY,aZ,ba,(ap.trans bJ),bf⟩⟩
 rintro ⟨⟩ bX bN ⟨bj,bo,bQ,bR,bn,bS,bv⟩ bB
 have bg:=wDp hm aj bB
 try dsimp only at bg
 have bl:Hid (¬ ((↑(((↑p0.length:Int):Int) - 0).toNat:Int) < (↑p0.length:Int))):=zL (wBf)
 refine sR fL1 Z (oR Z (zl Z bo bn) (eN (zM (cF Z bl (Ze (zw (zw (ZW (zQ (sR fL1 Z (oA Z Z (eN (zX ?_)))))))))))))
 cases bg
 exact ⟨Z,_,(ZA Z),bj,_,bv,Z,Z⟩
theorem wCh (p0:List Int) (ae:Option Addr) (ah:Nat) (p1:(Int->Option Bool)) (ai:Value) (w:World) (U:PHeap) (hS:St0 w U []) (av:Sl U 1 ae ah p0.length (nA KL.encI p0)) (az:FnOK Tryz.prog U ai wMx wPD p1) {r:Bool} (hm:wAu p0 p1=some r):Gv Tryz.prog 91 [.slice ae p0.length ah,ai] w (wCe w [] U (fun U_ L_ v=>v=.bool r/\L_=[])):=by
 unfold wAu at hm
 refine Gv.of Tryz.func91 Z Tryz.ntmps91 Tryz.results91 Z (sR fL1 Z (oA Z Z (eN (sR gAt Z (oM Z Z (oM Z Z (bnK hm fun x1 h2 ak=>zP 0 Z Z Z Z (zN Z Z Tryz.call114 (zD Z (zD Z zV)) Z) hS (fun hs=>wCv p0 ae ah p1 ai w U hs av az h2) (.inr Z) ?_)))))))
 rintro U4 L5 v6 W7 aZ au ⟨rfl,rfl⟩
 have aq:sW w U U4 [] W7:=au
 refine oR Z (Runs.geq Z Z Z) (oA Z Z (eN (zX ?_)))
 first | (obtain rfl:=nD ak) | cases ak
 exact ⟨Z,_,(ZA Z),U4,_,aq,Z,Z⟩
theorem wDh (p0:List Int) (ak:Option Addr) (am:Nat) (p1:(Int->Option Bool)) (ai:Value) (w:World) (U:PHeap) (hS:St0 w U []) (bk:Sl U 1 ak am p0.length (nA KL.encI p0)) (au:FnOK Tryz.prog U ai wMx wPD p1) {r:Bool} (hm:wBa p0 p1=some r):Gv Tryz.prog 47 [.slice ak p0.length am,ai] w (wCe w [] U (fun U_ L_ v=>v=.bool r/\L_=[])):=by
 unfold wBa at hm
 refine Gv.of Tryz.func47 Z Tryz.ntmps47 Tryz.results47 Z (sR gAg Z (Zc (cs:=[ai]) Z Z Z Z Z Z (FnOK.cells au) hS ?_))
 intro W1 b2 bh
 have q:=bh.freeze (k:=0) rfl
 obtain ⟨U5,av,ab,bi⟩:=q
 replace ab:=Cl.of ab
 have bj:sW w U U5 [] W1:=bi
 replace ab:Cl U5 b2 0 [ai]:=ab
 refine oA Z Z (eN (sR gAt Z (oM Z Z (oR Z (Runs.mkf Z zV (zD Z zV)) ?_))))
 have aZ:=bk.le av
 have ba:=au.le av
 have be:FnOK Tryz.prog U5 (.func (.func 92) #[] #[.pointer (some ⟨b2,0,none⟩)]) wMx wPD (fun x=>wBL x p1):=⟨92,[],[.pointer (some ⟨b2,0,none⟩)],rfl,Tryz.call92,fun U1 w1 x y vs le hs ha hm=>by obtain rfl:=ha;exact wEp x p1 b2 ai w1 U1 hs (ab.le le) (ba.le le) hm⟩
 refine bnK hm fun bq bb bl=>zP 0 Z Z Z Z (zN Z Z Tryz.call91 (zD Z (zD Z zV)) Z) bj (fun hs=>wCh p0 ak am (fun x=>wBL x p1) (.func (.func 92) #[] #[.pointer (some ⟨b2,0,none⟩)]) W1 U5 hs aZ be bb) (.inr Z) ?_
 rintro ap bn bp aY bo bf ⟨rfl,rfl⟩
 have bg:sW w U ap [] aY:=bf
 refine oR Z (ZO Z Z) (oA Z Z (eN (zX ?_)))
 cases bl
 exact ⟨Z,_,(ZA Z),ap,_,bg,Z,Z⟩
theorem wFP (p0:Int) (w:World) (U:PHeap) (hS:St0 w U [])  {r:Bool} (hm:wBO p0=some r):Gv Tryz.prog 48 [jV p0] w (wCe w [] U (fun U_ L_ v=>v=.bool r/\L_=[])):=by
 unfold wBO at hm
 refine Gv.of Tryz.func48 Z Tryz.ntmps48 Tryz.results48 Z (sR fL1 Z (oA Z Z (eN (sR gAm Z (oM Z Z (bnK hm fun x1 h2 ak=>zP 0 Z Z Z Z (zN Z Z Zu (zD Z (zD Z (zD Z zV))) Z) hS (fun hs=>wBD p0 0 8 w U hs h2) (.inr Z) ?_))))))
 rintro U4 L5 v6 W7 ap aj ⟨rfl,rfl⟩
 have ai:sW w U U4 [] W7:=aj
 refine oA Z Z (eN (zX ?_))
 have hE:=nD ak;first | subst r | cases hE
 exact ⟨Z,_,(ZA Z),U4,_,ai,Z,Z⟩
theorem wFQ (p0:Int) (w:World) (U:PHeap) (hS:St0 w U [])  {r:Bool} (hm:wBP p0=some r):Gv Tryz.prog 49 [jV p0] w (wCe w [] U (fun U_ L_ v=>v=.bool r/\L_=[])):=by
 unfold wBP at hm
 refine Gv.of Tryz.func49 Z Tryz.ntmps49 Tryz.results49 Z (sR fL1 Z (oA Z Z (eN (sR gAm Z (oM Z Z (bnK hm fun x1 h2 ak=>zP 0 Z Z Z Z (zN Z Z Zu (zD Z (zD Z (zD Z zV))) Z) hS (fun hs=>wBD p0 0 5 w U hs h2) (.inr Z) ?_))))))
 rintro U4 L5 v6 W7 ap aj ⟨rfl,rfl⟩
 have ai:sW w U U4 [] W7:=aj
 refine oA Z Z (eN (zX ?_))
 have hE:=nD ak;first | subst r | cases hE
 exact ⟨Z,_,(ZA Z),U4,_,ai,Z,Z⟩
theorem wFR (p0:wAA) (p1:Int) (aZ:Nat) (w:World) (U:PHeap) (hS:St0 w U []) (az:Cl U aZ 0 [jV p1]) {r:Bool} (hm:wBQ p0 p1=some r):Gv Tryz.prog 51 [.agg #[jV p0.Skier,jV p0.Lane],.pointer (some ⟨aZ,0,none⟩)] w (wCe w [] U (fun U_ L_ v=>v=.bool r/\L_=[])):=by
 unfold wBQ at hm
 refine Gv.of Tryz.func51 Z Tryz.ntmps51 Tryz.results51 Z (sR gAg Z ?_)
 let B0:List Value:=[jV p0.Skier,jV p0.Lane]
 refine Zc (cs:=B0) rfl rfl rfl rfl rfl rfl (by rfl) hS ?_
 intro W1 b2 aq
 refine oA Z Z (eN (sR (wIs (.fx 4 (fC5_9 (.fx 10 (wPX (.nil)) .stop)) .stop)) Z (oR Z (zG Z Z zp Z zC) (oL Z (aq.ldB (j:=0) Z Z Z zI (v:=jV p0.Skier) Z) (oL Z (aq.ldC (f:=0) az (v:=jV p1) Z Z zI Z) (oR Z (Zp Z Z Z) (bnK hm fun x5 h6 bn=>zP 0 Z Z Z Z (zN Z Z Zu (zD Z (zD Z (zD Z zV))) Z) aq (fun hs=>wBD p0.Skier 0 (w64 (p1 - 1)) W1 U hs h6) (.inr Z) ?_)))))))
 rintro U8 L9 bs au bo bh ⟨rfl,rfl⟩
 have ai:sW w U U8 [.blk b2 59 B0] au:=bh
 refine oM Z Z (ifc bn ?_ ?_)
 intro aa bj
 refine zS Z Z Z (zU Z Z (congrArg nB aa.out)) (fun _=>zG Z Z zp Z zC) (zi Z Z Z (zU Z Z (congrArg nB aa.out)) (ai.ldB (j:=0) Z Z Z zI (v:=jV p0.Lane) Z) Z ?_)
 have be:=az.le bo
 refine zi Z Z Z (zU Z Z (congrArg nB aa.out)) (ai.ldC (f:=0) be (v:=jV p1) Z Z zI Z) Z (zS Z Z Z (zU Z Z (congrArg nB aa.out)) (fun _=>Zp Z Z Z) (bnK bj fun bu bf bk=>zP 0 Z Z Z (zU Z Z (congrArg nB aa.out)) (zN Z Z Zu (zD Z (zD Z (zD Z zV))) Z) ai (fun hs=>wBD p0.Lane 0 (w64 (p1 - 1)) au U8 hs bf) (.inr Z) ?_))
 rintro am bp bt bb br bi ⟨rfl,rfl⟩
 have aj:sW w U am [.blk b2 59 B0] bb:=bi
 refine oR Z (zK Z (congrArg nB aa.out) Z) (oM Z Z (ifc bk ?_ ?_))
 intro ab aY
 refine zS Z Z Z (zU Z Z (congrArg nB ab.out)) (fun _=>zG Z Z zp Z zC) (zi Z Z Z (zU Z Z (congrArg nB ab.out)) (aj.ldB (j:=0) Z Z Z zI (v:=jV p0.Skier) Z) Z (zS Z Z Z (zU Z Z (congrArg nB ab.out)) (fun _=>zG Z Z zp Z zC) (zi Z Z Z (zU Z Z (congrArg nB ab.out)) (aj.ldB (j:=0) Z Z Z zI (v:=jV p0.Lane) Z) Z (zS Z Z Z (zU Z Z (congrArg nB ab.out)) (fun _=>Zj Z Z Z) (oR Z (zK Z (congrArg nB ab.out) Z) (oA Z Z (eN (zX ?_))))))))
 first | (obtain rfl:=nD aY) | cases aY
 exact ⟨rfl,_,(ZA rfl),am,_,(aj.pick [] _ (by decide) rfl),rfl,rfl⟩
 intro ab bl
 refine zd Z Z Z (zJ Z Z (congrArg nB (nE.2 ab.out)) Z) (zd Z Z Z (zJ Z Z (congrArg nB (nE.2 ab.out)) Z) (zd Z Z Z (zJ Z Z (congrArg nB (nE.2 ab.out)) Z) (zd Z Z Z (zJ Z Z (congrArg nB (nE.2 ab.out)) Z) (zd Z Z Z (zJ Z Z (congrArg nB (nE.2 ab.out)) Z) (oR Z (zf Z (congrArg nB (nE.2 ab.out)) Z) (oA Z Z (eN (zX ?_))))))))
 have hE:=nD bl;first | subst r | cases hE
 exact ⟨rfl,_,(ZA rfl),am,_,(aj.pick [] _ (by decide) rfl),rfl,rfl⟩
 intro aa bm
 refine zd Z Z Z (zJ Z Z (congrArg nB (nE.2 aa.out)) Z) (zd Z Z Z (zJ Z Z (congrArg nB (nE.2 aa.out)) Z) (zd Z Z Z (zJ Z Z (congrArg nB (nE.2 aa.out)) Z) (zd Z Z Z (zJ Z Z (congrArg nB (nE.2 aa.out)) Z) (ZH Z Z Z (zJ Z Z (congrArg nB (nE.2 aa.out)) Z) (oR Z (zf Z (congrArg nB (nE.2 aa.out)) Z) (oM Z Z (oN Z (oN Z (oN Z (oN Z (oN Z (oR Z (zf Z Z Z) (oA Z Z (eN (zX ?_)))))))))))))))
 have hE:=nD bm;first | subst r | cases hE
 exact ⟨rfl,_,(ZA rfl),U8,_,(ai.pick [] _ (by decide) rfl),rfl,rfl⟩
theorem wCw (p0:wAA) (p1:(wAA->Option Bool)) (ak:Nat) (ah:Value) (w:World) (U:PHeap) (hS:St0 w U []) (az:Cl U ak 0 [ah]) (aY:FnOK Tryz.prog U ah wMv wMw p1) {r:Bool} (hm:wAd p0 p1=some r):Gv Tryz.prog 94 [.agg #[jV p0.Skier,jV p0.Lane],.pointer (some ⟨ak,0,none⟩)] w (wCe w [] U (fun U_ L_ v=>v=.bool r/\L_=[])):=by
 unfold wAd at hm
 refine Gv.of Tryz.func94 Z Tryz.ntmps94 Tryz.results94 Z (sR gAg Z ?_)
 let B0:List Value:=[jV p0.Skier,jV p0.Lane]
 refine Zc (cs:=B0) rfl rfl rfl rfl rfl rfl (by rfl) hS ?_
 intro W1 b2 ae
 refine oA Z Z (eN (sR gAt Z (oL Z (ae.ldC (f:=0) az (v:=ah) Z Z Tryz.isAgg64 Z) (oL Z (ae.ldBA (j:=0) Z Z Z ZT zj (vs:=B0) Z Z) (bnK hm fun x5 h6 aZ=>OKS.callV (a:=p0) Z Z Z Z Z Z (zD Z zV) ae aY Z h6 ?_)))))
 rintro U8 L9 bf am be au ⟨rfl,rfl⟩
 have av:sW w U U8 [.blk b2 59 B0] am:=au
 refine oR Z (ZO Z Z) (oA Z Z (eN (zX ?_)))
 cases aZ
 exact ⟨rfl,_,(ZA rfl),U8,_,(av.pick [] _ (by decide) rfl),rfl,rfl⟩
theorem wBi (p0:List wAA) (ae:Option Addr) (ah:Nat) (p1:(wAA->Option Bool)) (ai:Value) (w:World) (U:PHeap) (hS:St0 w U []) (av:Sl U 2 ae ah p0.length (nA wAB p0)) (az:FnOK Tryz.prog U ai wMv wMw p1) {r:Bool} (hm:wAR p0 p1=some r):Gv Tryz.prog 93 [.slice ae p0.length ah,ai] w (wCe w [] U (fun U_ L_ v=>v=.bool r/\L_=[])):=by
 unfold wAR at hm
 refine Gv.of Tryz.func93 Z Tryz.ntmps93 Tryz.results93 Z (sR fL1 Z (oA Z Z (eN (sR gAt Z (oM Z Z (oM Z Z (bnK hm fun x1 h2 ak=>zP 0 Z Z Z Z (zN Z Z Tryz.call74 (zD Z (zD Z zV)) Z) hS (fun hs=>wBF p0 ae ah p1 ai w U hs av az h2) (.inr Z) ?_)))))))
 rintro U4 L5 v6 W7 aZ au ⟨rfl,rfl⟩
 have aq:sW w U U4 [] W7:=au
 refine oR Z (Runs.geq Z Z Z) (oA Z Z (eN (zX ?_)))
 first | (obtain rfl:=nD ak) | cases ak
 exact ⟨Z,_,(ZA Z),U4,_,aq,Z,Z⟩
end Go.Proofs.YtfcmijinklojbaaGreat
namespace Go.Proofs.YtfcmijinklojbaaGreat
open Go.KL
set_option maxHeartbeats 4000000
theorem wDN (p0:List wAA) (ak:Option Addr) (am:Nat) (p1:(wAA->Option Bool)) (ai:Value) (w:World) (U:PHeap) (hS:St0 w U []) (bk:Sl U 2 ak am p0.length (nA wAB p0)) (au:FnOK Tryz.prog U ai wMv wMw p1) {r:Bool} (hm:wAv p0 p1=some r):Gv Tryz.prog 50 [.slice ak p0.length am,ai] w (wCe w [] U (fun U_ L_ v=>v=.bool r/\L_=[])):=by
 unfold wAv at hm
 refine Gv.of Tryz.func50 Z Tryz.ntmps50 Tryz.results50 Z (sR gAg Z (Zc (cs:=[ai]) Z Z Z Z Z Z (FnOK.cells au) hS ?_))
 intro W1 b2 bh
 have q:=bh.freeze (k:=0) rfl
 obtain ⟨U5,av,ab,bi⟩:=q
 replace ab:=Cl.of ab
 have bj:sW w U U5 [] W1:=bi
 replace ab:Cl U5 b2 0 [ai]:=ab
 refine oA Z Z (eN (sR gAt Z (oM Z Z (oR Z (Runs.mkf Z zV (zD Z zV)) ?_))))
 have aZ:=bk.le av
 have ba:=au.le av
 have be:FnOK Tryz.prog U5 (.func (.func 94) #[] #[.pointer (some ⟨b2,0,none⟩)]) wMv wMw (fun x=>wAd x p1):=⟨94,[],[.pointer (some ⟨b2,0,none⟩)],rfl,Tryz.call94,fun U1 w1 x y vs le hs ha hm=>by obtain rfl:=ha;exact wCw x p1 b2 ai w1 U1 hs (ab.le le) (ba.le le) hm⟩
 refine bnK hm fun bq bb bl=>zP 0 Z Z Z Z (zN Z Z Tryz.call93 (zD Z (zD Z zV)) Z) bj (fun hs=>wBi p0 ak am (fun x=>wAd x p1) (.func (.func 94) #[] #[.pointer (some ⟨b2,0,none⟩)]) W1 U5 hs aZ be bb) (.inr Z) ?_
 rintro ap bn bp aY bo bf ⟨rfl,rfl⟩
 have bg:sW w U ap [] aY:=bf
 refine oR Z (ZO Z Z) (oA Z Z (eN (zX ?_)))
 cases bl
 exact ⟨Z,_,(ZA Z),ap,_,bg,Z,Z⟩
theorem wHS (p0:wAA) (p1:wAA) (w:World) (U:PHeap) (hS:St0 w U [])  {r:Bool} (hm:wCQ p0 p1=some r):Gv Tryz.prog 52 [.agg #[jV p0.Skier,jV p0.Lane],.agg #[jV p1.Skier,jV p1.Lane]] w (wCe w [] U (fun U_ L_ v=>v=.bool r/\L_=[])):=by
 unfold wCQ at hm
 refine Gv.of Tryz.func52 rfl Tryz.ntmps52 Tryz.results52 rfl (sR gAo rfl (Zc (cs:=[jV p0.Skier,jV p0.Lane]) rfl rfl rfl rfl rfl rfl (by rfl) hS ?_))
 intro W1 b2 ap
 refine Zc (cs:=[jV p1.Skier,jV p1.Lane]) rfl rfl rfl rfl rfl rfl (by rfl) ap ?_
 intro W5 b6 ae
 refine oA Z Z (eN (sR fL20 Z (oR Z (zG Z Z zp Z zC) (oL Z (ae.ldB (j:=1) Z Z Z zI (v:=jV p0.Skier) Z) (oR Z (zG Z Z zp Z zC) (oL Z (ae.ldB (j:=0) Z Z Z zI (v:=jV p1.Skier) Z) (oR Z (zl Z Z Z) (oM Z Z ?_))))))))
 by_cases c9:p0.Skier < p1.Skier
 have aj:=hm;rw [if_pos c9] at aj;replace c9:=zL c9
 refine oT Z c9 (oT Z c9 (oT Z c9 (oT Z c9 (oT Z c9 (oT Z c9 (zd Z Z Z (wBA Z Z Z) (zd Z Z Z (wBA Z Z Z) (zd Z Z Z (wBA Z Z Z) (zd Z Z Z (wBA Z Z Z) (zd Z Z Z (wBA Z Z Z) (oT Z c9 (oR Z (zK Z (Zo c9.out) Z) (oA Z Z (eN (zX ?_)))))))))))))))
 have hE:=nD aj;first | subst r | cases hE
 exact ⟨rfl,_,(ZA rfl),U,_,(ae.pick [] _ (by decide) rfl),rfl,rfl⟩
 have ak:=hm;rw [if_neg c9] at ak;replace c9:=zL c9
 refine rU Z (wF Z c9) (zG Z Z zp Z zC) (zi Z Z Z (wF Z c9) (ae.ldB (j:=1) Z Z Z zI (v:=jV p0.Skier) Z) Z (rU Z (wF Z c9) (zG Z Z zp Z zC) (zi Z Z Z (wF Z c9) (ae.ldB (j:=0) Z Z Z zI (v:=jV p1.Skier) Z) Z (rU Z (wF Z c9) (Runs.eql Z Z Z) (zz Z Z Z (wF Z c9) Z Z (ifc ak ?_ ?_))))))
 intro ab am
 refine rU Z (wT Z ab) (zG Z Z zp Z zC) (zi Z Z Z (wT Z ab) (ae.ldB (j:=1) Z Z Z zI (v:=jV p0.Lane) Z) Z (rU Z (wT Z ab) (zG Z Z zp Z zC) (zi Z Z Z (wT Z ab) (ae.ldB (j:=0) Z Z Z zI (v:=jV p1.Lane) Z) Z (rU Z (wT Z ab) (zl Z Z Z) (rU Z (wF Z c9) (zK Z (Zo ab.out) Z) (oR Z (zf Z (zy c9.out) Z) (oA Z Z (eN (zX ?_)))))))))
 first | (obtain rfl:=nD am) | cases am
 exact ⟨rfl,_,(ZA rfl),U,_,(ae.pick [] _ (by decide) rfl),rfl,rfl⟩
 intro ab aq
 refine oF Z ab (oF Z ab (oF Z ab (oF Z ab (oF Z ab (rU Z (wF Z c9) (zf Z (zy ab.out) Z) (oR Z (zf Z (zy c9.out) Z) (oA Z Z (eN (zX ?_)))))))))
 have hE:=nD aq;first | subst r | cases hE
 exact ⟨rfl,_,(ZA rfl),U,_,(ae.pick [] _ (by decide) rfl),rfl,rfl⟩
theorem wGb (p0:wAC) (az:Option Addr) (aZ:Nat) (aY:Option Addr) (ba:Nat) (am:Option Addr) (ap:Nat) (w:World) (U:PHeap) (hS:St0 w U []) (cL:Sl U 1 az aZ p0.Shots.length (nA KL.encI p0.Shots)) (cM:Sl U 1 aY ba p0.Down.length (nA KL.encI p0.Down)) (cN:Sl U 2 am ap p0.Across.length (nA wAB p0.Across)) {r:Int} (hm:wBz p0=some r):Gv Tryz.prog 12 [.agg #[.slice az p0.Shots.length aZ,.slice aY p0.Down.length ba,.slice am p0.Across.length ap]] w (wCe w [] U (fun U_ L_ v=>v=jV r/\L_=[])):=by
 unfold wBz at hm
 refine Gv.of Tryz.func12 Z Tryz.ntmps12 Tryz.results12 Z (sR gAg Z ?_)
 let B0:List Value:=[.slice az p0.Shots.length aZ,.slice aY p0.Down.length ba,.slice am p0.Across.length ap]
 refine Zc (cs:=B0) rfl rfl rfl rfl rfl rfl (by rfl) hS ?_
 intro W1 b2 bL
 refine oA Z Z (eN (sR (wCl (.fx 3 (.fx 4 .nil .stop) .stop)) Z (oR Z (zG Z Z zF Z zR) (oL Z (bL.ldB (j:=0) Z Z Z zZ (v:=.slice az p0.Shots.length aZ) Z) (oR Z (Za Z Z zA) (ZF (cs:=[jV 0]) Z Z Z Z Z zm Z bL ?_))))))
 intro W5 b6 cJ
 let B1:List Value:=[jV (↑p0.Shots.length:Int)]
 refine zu (j:=0) (vs:=B1) Z Z Z Z cJ Z Z Z Z zC (zB Z) Z Z Z ?_
 intro W9 cB
 have bJ:sW w U U [.blk b6 3 B1,.blk b2 25 B0] W9:=cB
 refine eN (zM (zk (sR (.fl 0 (.fx 1 (wQk (.nil)) .stop)) Z (oL Z (bJ.ldB (j:=0) Z Z Z zI (v:=jV (↑p0.Shots.length:Int)) Z) (bnK hm fun x12 b5 da=>zP 0 Z Z Z Z (zN Z Z Zu (zD Z (zD Z (zD Z zV))) Z) bJ (fun hs=>wBD (↑p0.Shots.length:Int) 1 8 W9 U hs b5) (.inr Z) ?_)))))
 rintro be dA dL bD bz cD ⟨rfl,rfl⟩
 have au:sW w U be [.blk b6 3 B1,.blk b2 25 B0] bD:=cD
 refine oR Z (ZO Z Z) (oM Z Z (ifc da ?_ ?_))
 intro ab db
 refine zS Z Z Z (zU Z Z (nC ab.out)) (fun _=>zG Z Z zF Z zR) (zi Z Z Z (zU Z Z (nC ab.out)) (au.ldB (j:=1) Z Z Z zZ (v:=.slice aY p0.Down.length ba) Z) Z (zS Z Z Z (zU Z Z (nC ab.out)) (fun _=>Za Z Z zA) (zi Z Z Z (zU Z Z (nC ab.out)) (au.ldB (j:=0) Z Z Z zI (v:=jV (↑p0.Shots.length:Int)) Z) Z (zS Z Z Z (zU Z Z (nC ab.out)) (fun _=>Zj Z Z Z) (oR Z (zf Z (nC ab.out) Z) (oA Z Z (eN (ifc db ?_ ?_))))))))
 intro bp de
 refine ZB (zy (fun h=>h bp.out)) (sR (.fl 0 (.fl 1 (.fx 2 (fC3_6 (.fx 7 (wQn (.nil)) .stop)) .stop))) Z (oR Z (zG Z Z zF Z zR) (oL Z (au.ldB (j:=1) Z Z Z zZ (v:=.slice az p0.Shots.length aZ) Z) ?_)))
 have b9:=cL.le bz
 have cy:FnOK Tryz.prog be (.func (.func 48) #[] #[]) wMx wPD wBO:=⟨48,[],[],rfl,Tryz.call48,fun U1 w1 x y vs le hs ha hm=>by obtain rfl:=ha;exact wFP x w1 U1 hs  hm⟩
 refine bnK de fun dP cd df=>zP 0 Z Z Z Z (zN Z Z Tryz.call47 (zD Z (zD Z zV)) Z) au (fun hs=>wDh p0.Shots az aZ wBO (.func (.func 48) #[] #[]) bD be hs b9 cy cd) (.inr Z) ?_
 rintro bh dB dM bE bR cE ⟨rfl,rfl⟩
 have bu:sW w U bh [.blk b6 3 B1,.blk b2 25 B0] bE:=cE
 refine oR Z (ZO Z Z) (oM Z Z (ifc df ?_ ?_))
 intro ae dg
 refine zS Z Z Z (zU Z Z (nC ae.out)) (fun _=>zG Z Z zF Z zR) (zi Z Z Z (zU Z Z (nC ae.out)) (bu.ldB (j:=1) Z Z Z zZ (v:=.slice aY p0.Down.length ba) Z) Z ?_)
 have cg:=cM.le bz
 have ci:=cg.le bR
 have cz:FnOK Tryz.prog bh (.func (.func 49) #[] #[]) wMx wPD wBP:=⟨49,[],[],rfl,Tryz.call49,fun U1 w1 x y vs le hs ha hm=>by obtain rfl:=ha;exact wFQ x w1 U1 hs  hm⟩
 refine bnK dg fun x43 cj dh=>zP 0 Z Z Z (zU Z Z (nC ae.out)) (zN Z Z Tryz.call47 (zD Z (zD Z zV)) Z) bu (fun hs=>wDh p0.Down aY ba wBP (.func (.func 49) #[] #[]) bE bh hs ci cz cj) (.inr Z) ?_
 rintro bB dC dN bn du cG ⟨rfl,rfl⟩
 have bv:sW w U bB [.blk b6 3 B1,.blk b2 25 B0] bn:=cG
 refine zS Z Z Z (zU Z Z (nC ae.out)) (fun _=>ZO Z Z) (oR Z (zf Z (nC ae.out) Z) (oA Z Z (eN (ifc dh ?_ ?_))))
 intro bq dm
 refine ZB (nC bq.out) (sR (wCl (.fx 3 gAd .stop)) Z (oR Z (zG Z Z zF Z ZC) (oL Z (bv.ldB (j:=1) Z Z Z ZY (v:=.slice am p0.Across.length ap) Z) ?_)))
 have q:=bv.freeze (k:=0) rfl
 obtain ⟨bi,dv,bf,cH⟩:=q
 replace bf:=Cl.of bf
 have cI:sW w U bi [.blk b2 25 B0] bn:=cH
 replace bf:Cl bi b6 0 B1:=bf
 refine oR Z (Runs.mkf Z zV (zD Z zV)) ?_
 have cn:=cN.le bz
 have cp:=cn.le bR
 have cq:=cp.le du
 have bI:=cq.le dv
 have cA:FnOK Tryz.prog bi (.func (.func 51) #[] #[.pointer (some ⟨b6,0,none⟩)]) wMv wMw (fun x=>wBQ x (↑p0.Shots.length:Int)):=⟨51,[],[.pointer (some ⟨b6,0,none⟩)],rfl,Tryz.call51,fun U1 w1 x y vs le hs ha hm=>by obtain rfl:=ha;exact wFR x (↑p0.Shots.length:Int) b6 w1 U1 hs (bf.le le) hm⟩
 refine bnK dm fun x65 cr dp=>zP 0 Z Z Z Z (zN Z Z Tryz.call50 (zD Z (zD Z zV)) Z) cI (fun hs=>wDN p0.Across am ap (fun x=>wBQ x (↑p0.Shots.length:Int)) (.func (.func 51) #[] #[.pointer (some ⟨b6,0,none⟩)]) bn bi hs bI cA cr) (.inr Z) ?_
 rintro bj dD dO bU dw cK ⟨rfl,rfl⟩
 have bM:sW w U bj [.blk b2 25 B0] bU:=cK
 refine oR Z (ZO Z Z) (oA Z Z (eN (ifc dp ?_ ?_)))
 intro br dq
 refine ZB (nC br.out) (Zd (zq (zQ (zM (sR fL1 Z (oA Z Z (eN (zk (CK.iter (fun x80 σ_ w_=>∃ (U_:PHeap),σ_ 1=.pointer (some ⟨b2,0,none⟩)/\σ_ 4=jV x80/\PHeap.Le bj U_/\sW w U U_ [.blk b2 25 B0] w_) dq ?_ ?_)))))))))
 exact ⟨bj,Z,Z,(zY _),bM⟩
 rintro x80 dQ dR bF ⟨bC,bk,bl,bS,bw⟩ bQ bN
 refine zM (sR fL5 Z (oM Z bl (oR Z (zG Z bk zF Z ZC) (oL Z (bw.ldB (j:=0) Z Z Z ZY (v:=.slice am p0.Across.length ap) Z) (oR Z (Za Z Z zt) (oR Z (zl Z Z Z) (eN ?_)))))))
 by_cases ak:x80 < (↑p0.Across.length:Int)
 have bP:=bQ;rw [if_pos ak] at bP;replace ak:=zL ak
 refine cT Z ak (kN (zM (zk (zM (ZQ ZJ [3,1,3,3,3,1,3,1,3,3,1,2,3] (wNy (.fx 11 (.fl 12 .nil) .stop)) (by kernel_rfl) ?_)))))
 have av:=bw.drew
 generalize hw_W96:({ bF with drawn:=bF.drawn + 1 }:World)=bV at av ⊢
 refine oR Z (zG Z bk zF Z ZC) (oL Z (av.ldB (j:=0) Z Z Z ZY (v:=.slice am p0.Across.length ap) Z) (oM Z bl (oR Z (Zp Z Z Z) (bnK bP fun x97 bt dr=>?_))))
 have bY:=bI.le dw
 have bH:=bY.le bS
 have q:=bH.el (fun _=>rfl) (wCE bt)
 obtain ⟨dG,dI,ct,cw⟩:=q
 refine oR Z (ZV Z Z ct Z zt zj (wFG bt) (wFj bt)) (oL Z (av.ldCA (f:=0) cw Z Z ZT zj (us:=[jV x97.Skier,jV x97.Lane]) Z Z) (oR Z (zG Z bk zF Z ZC) (oL Z (av.ldB (j:=0) Z Z Z ZY (v:=.slice am p0.Across.length ap) Z) (oM Z bl (bnK dr fun bA bs cO=>?_)))))
 have q:=bH.el (fun _=>rfl) (wCE bs)
 obtain ⟨dH,dJ,cu,cx⟩:=q
 refine oR Z (ZV Z Z cu Z zt zj (wFG bs) (wFj bs)) (oL Z (av.ldCA (f:=0) cx Z Z ZT zj (us:=[jV bA.Skier,jV bA.Lane]) Z Z) (bnK cO fun x113 bZ cP=>zP 0 Z Z Z Z (zN Z Z Tryz.call52 (zD Z (zD Z zV)) Z) av (fun hs=>wHS x97 bA bV bC hs bZ) (.inr Z) ?_))
 rintro bm dz dK bT dt cC ⟨rfl,rfl⟩
 have bK:sW w U bm [.blk b2 25 B0] bT:=cC
 refine oR Z (ZO Z Z) (eN (ifc cP ?_ ?_))
 intro bo cQ
 refine ZB (nC bo.out) (Zd (zq (zQ (rR fL3 Z (oM Z bl (oR Z (zh Z Z Z) (oA Z Z (ZK ?_))))))))
 have q:=nD cQ
 obtain rfl:=q
 exact zQ ⟨Z,_,Z,⟨bm,bk,Z,(bS.trans dt),bK⟩⟩
 intro bo cR
 refine zx (nF (bo.out)) (sR fL1 Z (oA Z Z (eN (zX (zO (zH ?_))))))
 have q:=wAS cR
 obtain ⟨dx,cS,bW⟩:=q
 have q:=bN dx bW
 obtain rfl:=q
 refine zH (zO (zH ?_))
 cases cS
 exact ⟨rfl,_,(ZA rfl),bm,_,(bK.pick [] _ (by decide) rfl),rfl,rfl⟩
 have bO:=bQ;rw [if_neg ak] at bO;replace ak:=zL ak
 refine cF Z ak (Ze (zw ?_))
 have q:=wAS bO
 obtain ⟨dy,cU,bX⟩:=q
 have q:=bN dy bX
 obtain rfl:=q
 refine zw (ZW (zQ (sR fL1 Z (oA Z Z (eN (zX ?_))))))
 cases cU
 exact ⟨rfl,_,(ZA rfl),bC,_,(bw.pick [] _ (by decide) rfl),rfl,rfl⟩
 intro br cV
 refine zx (nF (br.out)) (sR fL1 Z (oA Z Z (eN (zX (zO (zH ?_))))))
 cases cV
 exact ⟨rfl,_,(ZA rfl),bj,_,(bM.pick [] _ (by decide) rfl),rfl,rfl⟩
 intro bq cW
 refine zx (nF (bq.out)) (sR fL1 Z (oA Z Z (eN (zX (zO (zH ?_))))))
 cases cW
 exact ⟨rfl,_,(ZA rfl),bB,_,(bv.pick [] _ (by decide) rfl),rfl,rfl⟩
 intro ae cX
 refine zd Z Z Z (zJ Z Z (nF (ae.out)) Z) (zd Z Z Z (zJ Z Z (nF (ae.out)) Z) (ZH Z Z Z (zJ Z Z (nF (ae.out)) Z) (zd Z Z Z (zJ Z Z (nF (ae.out)) Z) (oR Z (zK Z (nF (ae.out)) Z) (oA Z Z (eN (zx Z (sR fL1 Z (oA Z Z (eN (zX (zO (zH ?_)))))))))))))
 cases cX
 exact ⟨rfl,_,(ZA rfl),bh,_,(bu.pick [] _ (by decide) rfl),rfl,rfl⟩
 intro bp cY
 refine cT Z bp (sR fL1 Z (oA Z Z (eN (zX (zO (zH ?_))))))
 cases cY
 exact ⟨rfl,_,(ZA rfl),be,_,(au.pick [] _ (by decide) rfl),rfl,rfl⟩
 intro ab cZ
 refine zd Z Z Z (zJ Z Z (nF (ab.out)) Z) (zd Z Z Z (zJ Z Z (nF (ab.out)) Z) (zd Z Z Z (zJ Z Z (nF (ab.out)) Z) (zd Z Z Z (zJ Z Z (nF (ab.out)) Z) (zd Z Z Z (zJ Z Z (nF (ab.out)) Z) (oR Z (zK Z (nF (ab.out)) Z) (oA Z Z (eN (zx Z (sR fL1 Z (oA Z Z (eN (zX (zO (zH ?_))))))))))))))
 cases cZ
 exact ⟨rfl,_,(ZA rfl),be,_,(au.pick [] _ (by decide) rfl),rfl,rfl⟩
theorem wDx (p0:wAC) (aq:Option Addr) (au:Nat) (az:Option Addr) (aY:Nat) (ak:Option Addr) (am:Nat) (w:World) (U:PHeap) (hS:St0 w U []) (cS:Sl U 1 aq au p0.Shots.length (nA KL.encI p0.Shots)) (cU:Sl U 1 az aY p0.Down.length (nA KL.encI p0.Down)) (bP:Sl U 2 ak am p0.Across.length (nA wAB p0.Across)) {r:wAF} (hm:wBg p0=some r):Gv Tryz.prog 77 [.agg #[.slice aq p0.Shots.length au,.slice az p0.Down.length aY,.slice ak p0.Across.length am]] w (wCe w [] U (fun U_ L_ v=>∃ (b0:Nat) (A0p00:Option Addr) (c0p00:Nat) (A0p01:Option Addr) (c0p01:Nat) (A0p02:Option Addr) (c0p02:Nat) (m0p1:Nat) (es0p1:Array MapEntry) (ck0p1:Nat),v=.pointer (some ⟨b0,0,none⟩)/\L_=[.blk b0 118 ([.slice A0p00 r.Bout.Shots.length c0p00,.slice A0p01 r.Bout.Down.length c0p01,.slice A0p02 r.Bout.Across.length c0p02,.map (some m0p1)] ++ ((nA KL.encI r.hits.l) ++ ((nA KL.encI r.used.l) ++ (nA KL.encT r.met.l)))),.obj m0p1 (.map es0p1 ck0p1)]/\Sl U_ 1 A0p00 c0p00 r.Bout.Shots.length (nA KL.encI r.Bout.Shots)/\Sl U_ 1 A0p01 c0p01 r.Bout.Down.length (nA KL.encI r.Bout.Down)/\Sl U_ 2 A0p02 c0p02 r.Bout.Across.length (nA wAB r.Bout.Across)/\MpR es0p1 wDI wDZ r.may)):=by
 unfold wBg at hm
 refine Gv.of Tryz.func77 Z Tryz.ntmps77 Tryz.results77 Z (sR gAg Z ?_)
 let B0:List Value:=[.slice aq p0.Shots.length au,.slice az p0.Down.length aY,.slice ak p0.Across.length am]
 refine Zc (cs:=B0) rfl rfl rfl rfl rfl rfl (by rfl) hS ?_
 intro W1 b2 bM
 refine oA Z Z (eN (sR (.fl 0 (.fx 1 (.fl 2 gAj) .stop)) Z (oL Z (bM.ldBA (j:=0) Z Z Z ZI ze (vs:=B0) Z Z) (OKS.makeMap Z Z Z Z Z bM ?_))))
 intro W5 b6 cR
 have dm:=MpR.nil wDI wDZ
 let B1:List Value:=[.slice aq p0.Shots.length au,.slice az p0.Down.length aY,.slice ak p0.Across.length am,.map (some b6),jV 0,jV 0,jV 0,jV 0,jV 0,jV 0,jV 0,jV 0,jV 0,jV 0,jV 0,jV 0,jV 0,jV 0,jV 0,jV 0,jV 0,jV 0,jV 0,jV 0,jV 0,jV 0,jV 0,jV 0,jV 0,jV 0,jV 0,jV 0,jV 0,jV 0,jV 0,jV 0,jV 0,jV 0,jV 0,jV 0,jV 0,jV 0,jV 0,jV 0,jV 0,jV 0,jV 0,jV 0,jV 0,jV 0,jV 0,jV 0,jV 0,jV 0,jV 0,jV 0,jV 0,jV 0,jV 0,jV 0,jV 0,jV 0,jV 0,jV 0,jV 0,jV 0,jV 0,jV 0,jV 0,jV 0,jV 0,jV 0,jV 0,jV 0,jV 0,jV 0,.bool false,.bool false,.bool false,.bool false,.bool false,.bool false,.bool false,.bool false,.bool false,.bool false,.bool false,.bool false,.bool false,.bool false,.bool false,.bool false]
 refine zS rfl rfl rfl rfl (fun _=>Zg (pv:=[(0,.agg B0.toArray),(1,.map (some b6))]) (z:=[.slice none 0 0,.slice none 0 0,.slice none 0 0,.map none,jV 0,jV 0,jV 0,jV 0,jV 0,jV 0,jV 0,jV 0,jV 0,jV 0,jV 0,jV 0,jV 0,jV 0,jV 0,jV 0,jV 0,jV 0,jV 0,jV 0,jV 0,jV 0,jV 0,jV 0,jV 0,jV 0,jV 0,jV 0,jV 0,jV 0,jV 0,jV 0,jV 0,jV 0,jV 0,jV 0,jV 0,jV 0,jV 0,jV 0,jV 0,jV 0,jV 0,jV 0,jV 0,jV 0,jV 0,jV 0,jV 0,jV 0,jV 0,jV 0,jV 0,jV 0,jV 0,jV 0,jV 0,jV 0,jV 0,jV 0,jV 0,jV 0,jV 0,jV 0,jV 0,jV 0,jV 0,jV 0,jV 0,jV 0,jV 0,jV 0,.bool false,.bool false,.bool false,.bool false,.bool false,.bool false,.bool false,.bool false,.bool false,.bool false,.bool false,.bool false,.bool false,.bool false,.bool false,.bool false]) (cs:=B1) rfl (wAK rfl (wAK rfl wAa)) Tryz.zeroValue118 wLr rfl rfl) (Zc (cs:=B1) rfl rfl rfl rfl rfl rfl (by rfl) cR ?_)
 intro du ai bL
 refine oA Z Z (eN (zM (sR fL4 Z (oR Z (zG Z Z zF Z zR) (oL Z (bL.ldB (j:=2) Z Z Z zZ (v:=.slice aq p0.Shots.length au) Z) (oR Z (Za Z Z zA) (oM Z Z (eN (zk (bnK hm fun dH cV de=>?_))))))))))
 have q:=wCk cV
 obtain ⟨bo,cW⟩:=q
 replace bo:=zL bo
 refine CK.forN' (fun ab bQ σ_ w_=>∃ (U_:PHeap) (bj:Array MapEntry) (bA:Nat),σ_ 14=jV (↑ab:Int)/\σ_ 1=.pointer (some ⟨b2,0,none⟩)/\σ_ 3=.pointer (some ⟨ai,0,none⟩)/\σ_ 13=jV (↑p0.Shots.length:Int)/\PHeap.Le U U_/\sW w U U_ [.blk ai 118 B1,.obj b6 (.map bj bA),.blk b2 25 B0] w_/\MpR bj wDI wDZ bQ) cW ?_ ?_ ?_
 exact ⟨U,#[],0,Z,Z,Z,Z,(zY _),bL,dm⟩
 rintro ab bQ dF dK dy bn ⟨br,bj,bA,bl,ci,bH,bI,dr,bN,cE⟩ dp
 have bw:Hid ((↑ab:Int) < (↑p0.Shots.length:Int)):=zL (wCI bn)
 replace bn:=zL bn
 have da:Hid (w64 ((↑ab:Int) + 1)=(↑(ab + 1):Int)):=zL (by have h1:=bo.out;have h2:=bw.out;rw [wAf] <;> omega)
 refine sR fL1 rfl (zS rfl rfl rfl rfl (fun _=>zl rfl bl bI) (eN (zM (cT Z bw (kN (zM (zk (sR fL2 rfl (zz rfl rfl rfl rfl rfl bl (OKS.ra rfl rfl rfl rfl rfl rfl (eN (rR (wHV (.fx 7 .nil .stop)) rfl (zz rfl rfl rfl rfl rfl bH (zS rfl rfl rfl rfl (fun _=>zn rfl rfl) (zS rfl rfl rfl rfl (fun _=>zG rfl rfl zW rfl Tryz.sizeOf111) (zi rfl rfl rfl rfl (bN.ldB (j:=0) rfl rfl rfl Tryz.isAgg111 (v:=.map (some b6)) rfl) rfl (zz rfl rfl rfl rfl rfl rfl (zz rfl rfl rfl rfl rfl rfl (zS rfl rfl rfl rfl (fun _=>Zg (pv:=[(0,jV (↑ab:Int)),(1,jV (↑ab:Int))]) (z:=[jV 0,jV 0]) (cs:=[jV (↑ab:Int),jV (↑ab:Int)]) rfl (wAK rfl (wAK rfl wAa)) ZS wDa rfl rfl) (OKS.mapPut (x:=.tmp 20) (y:=.tmp 23) (j:=1) (mk:=wDI) (mv:=wDZ) (a:=(⟨(↑ab:Int),(↑ab:Int)⟩:wAA)) (v:=true) rfl rfl rfl (by first | exact .inl rfl | exact .inr rfl) bN rfl rfl rfl rfl (wDe Tryz.runUnderlying111) wHR cE rfl ?_))))))))))))))))))))
 intro bD bB bV dh cP
 have cQ:sW w U br [.blk ai 118 B1,.obj b6 (.map bD bB),.blk b2 25 B0] bV:=cP
 refine ZK (zq (zQ (rR fL2 Z (oR Z (ZL (zh Z bl Z) (congrArg (jV) da.out)) (oM Z Z (ZK ?_))))))
 cases dp
 exact zQ ⟨Z,⟨br,bD,bB,Z,ci,bH,bI,dr,cQ,dh⟩⟩
 rintro dL dA ⟨bs,b9,bY,cr,cj,cn,cp,bf,bO,cG⟩
 have bZ:Hid (¬ ((↑(((↑p0.Shots.length:Int):Int) - 0).toNat:Int) < (↑p0.Shots.length:Int))):=zL (wBf)
 refine sR fL1 Z (oR Z (zl Z cr cp) (eN (zM (cF Z bZ (Ze (zw (zw (ZW (zQ (zM (sR fL4 Z (oR Z (zG Z cj zF Z ZC) (oL Z (bO.ldB (j:=2) Z Z Z ZY (v:=.slice ak p0.Across.length am) Z) (oR Z (Za Z Z zt) (oM Z Z (eN (zk (bnK de fun dI cX df=>?_))))))))))))))))))
 have q:=wCk cX
 obtain ⟨bp,cY⟩:=q
 replace bp:=zL bp
 refine CK.forN' (fun av bR σ_ w_=>∃ (U_:PHeap) (bb:Array MapEntry) (bi:Nat),σ_ 28=jV (↑av:Int)/\σ_ 3=.pointer (some ⟨ai,0,none⟩)/\σ_ 26=.slice ak p0.Across.length am/\σ_ 27=jV (↑p0.Across.length:Int)/\PHeap.Le bs U_/\sW w U U_ [.blk ai 118 B1,.obj b6 (.map bb bi),.blk b2 25 B0] w_/\MpR bb wDI wDZ bR) cY ?_ ?_ ?_
 exact ⟨bs,b9,bY,Z,cn,Z,Z,(zY _),bO,cG⟩
 rintro av bR dG dM dB bm ⟨bg,bb,bi,bk,bE,bF,bG,bS,bK,ct⟩ dq
 have bv:Hid ((↑av:Int) < (↑p0.Across.length:Int)):=zL (wCI bm)
 replace bm:=zL bm
 have cZ:Hid (w64 ((↑av:Int) + 1)=(↑(av + 1):Int)):=zL (by have h1:=bp.out;have h2:=bv.out;rw [wAf] <;> omega)
 refine sR fL1 Z (oR Z (zl Z bk bG) (eN (zM (cT Z bv (kN (zM (zk (sR gAr Z (bnK dq fun aZ bJ db=>?_)))))))))
 have cu:=bP.le bf
 have cw:=cu.le bS
 have q:=cw.el (fun _=>rfl) (wCE bJ)
 obtain ⟨dC,dE,cH,cI⟩:=q
 refine oR Z (Zm Z bF cH bk zt zj (wFH bJ)) (oL Z (bK.ldCA (f:=0) cI Z Z ZT zj (us:=[jV aZ.Skier,jV aZ.Lane]) Z Z) (ZF (cs:=[jV 0,jV 0]) Z Z Z Z Z ZS Z bK ?_))
 intro dv bu cJ
 let B2:List Value:=[jV aZ.Skier,jV aZ.Lane]
 refine zu (j:=0) (vs:=B2) Z Z Z Z cJ Z Z Z Z zj (zB Z) Z Z Z ?_
 intro bh cK
 have cL:sW w U bg [.blk bu 59 B2,.blk ai 118 B1,.obj b6 (.map bb bi),.blk b2 25 B0] bh:=cK
 refine eN (ZQ ZJ [3,3,3,1,1,0] (wID (.fx 5 .nil .stop)) (by kernel_rfl) ?_)
 have be:=cL.drew
 generalize hw_W129:({ bh with drawn:=bh.drawn + 1 }:World)=dw at be ⊢
 refine zz rfl rfl rfl rfl rfl bE (zS rfl rfl rfl rfl (fun _=>zn rfl rfl) (zS rfl rfl rfl rfl (fun _=>zG rfl rfl zW rfl Tryz.sizeOf111) (zi rfl rfl rfl rfl (be.ldB (j:=1) rfl rfl rfl Tryz.isAgg111 (v:=.map (some b6)) rfl) rfl (zi rfl rfl rfl rfl (be.ldBA (j:=0) rfl rfl rfl ZT zj (vs:=B2) rfl rfl) rfl (OKS.mapPut (x:=.tmp 35) (y:=.tmp 36) (j:=2) (mk:=wDI) (mv:=wDZ) (a:=aZ) (v:=true) rfl rfl rfl (by first | exact .inl rfl | exact .inr rfl) be rfl rfl rfl rfl (wDe Tryz.runUnderlying111) wHR ct rfl ?_)))))
 intro bC bz bU dg cM
 have cN:sW w U bg [.blk bu 59 B2,.blk ai 118 B1,.obj b6 (.map bC bz),.blk b2 25 B0] bU:=cM
 refine ZK (zq (zQ (rR fL2 Z (oR Z (ZL (zh Z bk Z) (congrArg (jV) cZ.out)) (oM Z Z (ZK ?_))))))
 cases db
 exact zQ ⟨rfl,⟨bg,bC,bz,rfl,bE,bF,bG,bS,(cN.pick [1,2,3] _ (by decide) rfl),dg⟩⟩
 rintro dJ dx ⟨bT,b5,bW,cq,cd,dD,cg,bq,cO,cx⟩
 have bX:Hid (¬ ((↑(((↑p0.Across.length:Int):Int) - 0).toNat:Int) < (↑p0.Across.length:Int))):=zL (wBf)
 refine sR fL1 Z (oR Z (zl Z cq cg) (eN (zM (cF Z bX (Ze (zw (zw (ZW (zQ (sR fL2 Z (oM Z cd (oA Z Z (eN (zX ?_))))))))))))))
 have cy:=cS.le bf
 have cz:=cy.le bq
 have cA:=cU.le bf
 have cB:=cA.le bq
 have cC:=bP.le bf
 have cD:=cC.le bq
 cases df
 exact ⟨rfl,_,(ZA rfl),bT,_,(cO.pick [0,1] _ (by decide) rfl),ai,aq,au,az,aY,ak,am,b6,b5,bW,rfl,rfl,cz,cB,cD,cx⟩
theorem wGc (p0:wAC) (ah:Option Addr) (ak:Nat) (ai:Option Addr) (am:Nat) (aj:Option Addr) (ap:Nat) (w:World) (U:PHeap) (hS:St0 w U []) (bp:Sl U 1 ah ak p0.Shots.length (nA KL.encI p0.Shots)) (bq:Sl U 1 ai am p0.Down.length (nA KL.encI p0.Down)) (br:Sl U 2 aj ap p0.Across.length (nA wAB p0.Across)) {r:(Option wAF) × Int} (hm:wCA p0=some r):Gv Tryz.prog 53 [.agg #[.slice ah p0.Shots.length ak,.slice ai p0.Down.length am,.slice aj p0.Across.length ap]] w (wCe w [] U (fun U_ L_ v=>match r.1 with | none=>v=.tuple #[.pointer none,jV r.2]/\L_=[] | some d=>∃ (b0:Nat) (A0p00:Option Addr) (c0p00:Nat) (A0p01:Option Addr) (c0p01:Nat) (A0p02:Option Addr) (c0p02:Nat) (m0p1:Nat) (es0p1:Array MapEntry) (ck0p1:Nat),v=.tuple #[.pointer (some ⟨b0,0,none⟩),jV r.2]/\L_=[.blk b0 118 ([.slice A0p00 d.Bout.Shots.length c0p00,.slice A0p01 d.Bout.Down.length c0p01,.slice A0p02 d.Bout.Across.length c0p02,.map (some m0p1)] ++ ((nA KL.encI d.hits.l) ++ ((nA KL.encI d.used.l) ++ (nA KL.encT d.met.l)))),.obj m0p1 (.map es0p1 ck0p1)]/\Sl U_ 1 A0p00 c0p00 d.Bout.Shots.length (nA KL.encI d.Bout.Shots)/\Sl U_ 1 A0p01 c0p01 d.Bout.Down.length (nA KL.encI d.Bout.Down)/\Sl U_ 2 A0p02 c0p02 d.Bout.Across.length (nA wAB d.Bout.Across)/\MpR es0p1 wDI wDZ d.may)):=by
 unfold wCA at hm
 refine Gv.of Tryz.func53 Z Tryz.ntmps53 Tryz.results53 Z (sR gAp Z ?_)
 let B0:List Value:=[.slice ah p0.Shots.length ak,.slice ai p0.Down.length am,.slice aj p0.Across.length ap]
 refine Zc (cs:=B0) rfl rfl rfl rfl rfl rfl (by rfl) hS ?_
 intro W1 b2 bo
 refine oA Z Z (oA Z Z (eN (zM (sR gAm Z (oL Z (bo.ldBA (j:=0) Z Z Z ZI ze (vs:=B0) Z Z) (bnK hm fun x5 h6 bL=>zP 0 Z Z Z Z (zN Z Z Tryz.call12 (zD Z zV) Z) bo (fun hs=>wGb p0 ah ak ai am aj ap W1 U hs bp bq br h6) (.inr Z) ?_))))))
 rintro U8 L9 bP bf az bF ⟨rfl,rfl⟩
 have av:sW w U U8 [.blk b2 25 B0] bf:=bF
 refine oA Z Z (eN (sR fL2 Z (oM Z Z (oR Z (Zj Z Z Z) (eN (ifc bL ?_ ?_))))))
 intro au bI
 refine ZB (zy (fun h=>h au.out)) (kN (sR gAs Z (oL Z (av.ldBA (j:=0) Z Z Z ZI ze (vs:=B0) Z Z) ?_)))
 have bu:=bp.le az
 have bv:=bq.le az
 have bw:=br.le az
 refine bnK bI fun ab bz bJ=>zP 0 Z Z Z Z (zN Z Z Tryz.call77 (zD Z zV) Z) av (fun hs=>wDx p0 ah ak ai am aj ap bf U8 hs bu bv bw bz) (.inr Z) ?_
 rintro be bM bQ bt bO bG ⟨bi,aZ,bj,ba,bk,bb,bl,aY,bn,bm,rfl,rfl,bA,bB,bC,bD⟩
 have bH:sW w U be [.blk bi 118 ([.slice aZ ab.Bout.Shots.length bj,.slice ba ab.Bout.Down.length bk,.slice bb ab.Bout.Across.length bl,.map (some aY)] ++ ((nA KL.encI ab.hits.l) ++ ((nA KL.encI ab.used.l) ++ (nA KL.encT ab.met.l)))),.obj aY (.map bn bm),.blk b2 25 B0] bt:=bG
 refine oA Z Z (oA Z Z (eN (zX ?_)))
 cases bJ
 exact ⟨rfl,_,(wMR rfl rfl),be,_,(bH.pick [0,1] _ (by decide) rfl),bi,aZ,bj,ba,bk,bb,bl,aY,bn,bm,rfl,rfl,bA,bB,bC,bD⟩
 intro au bK
 refine cT Z au (sR fL3 Z (oM Z Z (oA Z Z (oA Z Z (eN (zX (zH ?_)))))))
 cases bK
 exact ⟨rfl,_,(wMR rfl rfl),U8,_,(av.pick [] _ (by decide) rfl),rfl,rfl⟩
theorem wCZ (p0:wAF) (am:Nat) (ai:Option Addr) (ap:Nat) (aj:Option Addr) (aq:Nat) (ak:Option Addr) (au:Nat) (ab:Nat) (av:Array MapEntry) (az:Nat) (p1:Int) (p2:Int) (w:World) (U:PHeap) (hS:St0 w U [.blk am 118 ([.slice ai p0.Bout.Shots.length ap,.slice aj p0.Bout.Down.length aq,.slice ak p0.Bout.Across.length au,.map (some ab)] ++ ((nA KL.encI p0.hits.l) ++ ((nA KL.encI p0.used.l) ++ (nA KL.encT p0.met.l)))),.obj ab (.map av az)]) (aZ:Sl U 1 ai ap p0.Bout.Shots.length (nA KL.encI p0.Bout.Shots)) (ba:Sl U 1 aj aq p0.Bout.Down.length (nA KL.encI p0.Bout.Down)) (bb:Sl U 2 ak au p0.Bout.Across.length (nA wAB p0.Bout.Across)) (aY:MpR av wDI wDZ p0.may) {r:Bool} (hm:wAn p0 p1 p2=some r):Gv Tryz.prog 57 [.pointer (some ⟨am,0,none⟩),jV p1,jV p2] w (wCe w [.blk am 118 ([.slice ai p0.Bout.Shots.length ap,.slice aj p0.Bout.Down.length aq,.slice ak p0.Bout.Across.length au,.map (some ab)] ++ ((nA KL.encI p0.hits.l) ++ ((nA KL.encI p0.used.l) ++ (nA KL.encT p0.met.l)))),.obj ab (.map av az)] U (fun U_ L_ v=>v=.bool r/\L_=[.blk am 118 ([.slice ai p0.Bout.Shots.length ap,.slice aj p0.Bout.Down.length aq,.slice ak p0.Bout.Across.length au,.map (some ab)] ++ ((nA KL.encI p0.hits.l) ++ ((nA KL.encI p0.used.l) ++ (nA KL.encT p0.met.l)))),.obj ab (.map av az)])):=by
 unfold wAn at hm
 refine Gv.of Tryz.func57 Z Tryz.ntmps57 Tryz.results57 Z (sR fL1 Z (oA Z Z (eN (sR fL9 Z (oM Z Z (oR Z (zn Z Z) (oR Z (zG Z Z zW Z Tryz.sizeOf111) (oL Z (hS.ldB (j:=0) Z Z Z Tryz.isAgg111 (v:=.map (some ab)) Z) (oM Z Z (oM Z Z (oR Z (Zg (pv:=[(0,jV p1),(1,jV p2)]) (z:=[jV 0,jV 0]) (cs:=[jV p1,jV p2]) Z (wAK Z (wAK Z wAa)) ZS wDa Z Z) (oL Z (hS.lookup1 (j:=1) (mk:=wDI) (mv:=wDZ) (a:=(⟨p1,p2⟩:wAA)) (z:=false) Z Z Z Z (wDe Tryz.runUnderlying111) wHR Tryz.zeroValue4 aY) (oA Z Z (eN (zX ?_)))))))))))))))
 cases hm
 exact ⟨Z,_,(ZA Z),U,_,hS,Z,Z⟩
end Go.Proofs.YtfcmijinklojbaaGreat
namespace Go.Proofs.YtfcmijinklojbaaGreat
open Go.KL
set_option maxHeartbeats 4000000
theorem wDy {S E:Type} (PY:S->PHeap->List Res->Prop) (PE:E->PHeap->List Res->Prop) (f:S->Int->Option (S ⊕ E)) (y:Nat) (s0:S) (p1:wAF) (bC:Nat) (ai:Nat) (bm:Option Addr) (bq:Nat) (av:Option Addr) (az:Nat) (bn:Option Addr) (br:Nat) (bt:Nat) (bs:Array MapEntry) (bD:Nat) (p2:Unit) (bo:Nat) (p3:Int) (bp:Nat) (w:World) (L:List Res) (U:PHeap) (hS:St ⟨w,L,U⟩ U L w) (hP:PY s0 U L) (hY:YOK Tryz.prog y wMx PY PE f U) (hV:∀ s_ U_ L_,PY s_ U_ L_->∃ (i_ j_:Nat) (a0_:Arr Int 64) (a1_:Arr Int 8) (a2_:Arr Bool 16),L_[i_]?=some (.blk ai 118 ([.slice bm p1.Bout.Shots.length bq,.slice av p1.Bout.Down.length az,.slice bn p1.Bout.Across.length br,.map (some bt)] ++ ((nA KL.encI a0_.l) ++ ((nA KL.encI a1_.l) ++ (nA KL.encT a2_.l)))))/\L_[j_]?=some (.obj bt (.map bs bD))) (cd:Cl U bC 0 [.pointer (some ⟨ai,0,none⟩)]) (cg:Sl U 1 bm bq p1.Bout.Shots.length (nA KL.encI p1.Bout.Shots)) (ci:Sl U 1 av az p1.Bout.Down.length (nA KL.encI p1.Bout.Down)) (cj:Sl U 2 bn br p1.Bout.Across.length (nA wAB p1.Bout.Across)) (cn:MpR bs wDI wDZ p1.may) (cp:Cl U bo 0 [.func (.func 57) #[.pointer (some ⟨ai,0,none⟩)] #[]]) (cq:Cl U bp 0 [jV p3]) {r:S ⊕ E} (hm:wAj f s0 p1 p2 p3=some r):Gv Tryz.prog 123 [.func (.yield y) #[] #[],.pointer (some ⟨bC,0,none⟩),.pointer (some ⟨bo,0,none⟩),.pointer (some ⟨bp,0,none⟩)] w (ItS w L U PY PE r):=by
 unfold wAj at hm
 refine Gv.of Tryz.func123 Z Tryz.ntmps123 Tryz.results123 Z (sR fL7 Z (oL Z (hS.ldC (f:=0) cd (v:=.pointer (some ⟨ai,0,none⟩)) Z Z ZP Z) (oR Z (zn Z Z) (oR Z (zG Z Z zW Z ze) (oR Z (zG Z Z zF Z zR) ?_)))))
 have q:=hV _ _ _ hP
 obtain ⟨i2,j3,a6,a7,a8,cw,cY⟩:=q
 refine oL Z (hS.ldB (j:=i2) cw Z Z zZ (v:=.slice av p1.Bout.Down.length az) Z) (oR Z (Za Z Z zA) (oM Z Z (eN (zk ?_))))
 have q:=wCo hm
 obtain ⟨db,bi⟩:=q
 have q:=wCn bi
 obtain ⟨bl,cu⟩:=q
 replace bl:=zL bl
 refine CK.forN (fun ah bF σ_ w_=>∃ (U_:PHeap) (aj:List Res),σ_ 12=jV (↑ah:Int)/\σ_ 0=.func (.yield y) #[] #[]/\σ_ 2=.pointer (some ⟨bo,0,none⟩)/\σ_ 3=.pointer (some ⟨bp,0,none⟩)/\σ_ 11=jV (↑p1.Bout.Down.length:Int)/\PHeap.Le U U_/\St ⟨w,L,U⟩ U_ aj w_/\PY bF U_ aj) cu ?_ ?_ ?_
 exact ⟨U,L,Z,Z,Z,Z,Z,(zY _),hS,hP⟩
 rintro ah bF de dg bH bk ⟨aZ,aj,am,ba,bb,be,bf,ae,bh,bg⟩ cE cr
 have bv:Hid ((↑ah:Int) < (↑p1.Bout.Down.length:Int)):=zL (wCI bk)
 replace bk:=zL bk
 have bA:Hid (w64 ((↑ah:Int) + 1)=(↑(ah + 1):Int)):=zL (by have h1:=bl.out;have h2:=bv.out;rw [wAf] <;> omega)
 refine sR fL1 Z (oR Z (zl Z am bf) (eN (zM (cT Z bv (kN (zM (zk (sR fL2 Z (oM Z am (oA Z Z (eN (sR (wCl (.fx 3 (wGU (.fx 7 gAf .stop)) .stop)) Z ?_))))))))))))
 have bR:=cp.le ae
 refine oL Z (bh.ldC (f:=0) bR (v:=.func (.func 57) #[.pointer (some ⟨ai,0,none⟩)] #[]) Z bb Tryz.isAgg106 Z) ?_
 have bS:=cq.le ae
 refine oL Z (bh.ldC (f:=0) bS (v:=jV p3) Z be zI Z) (oM Z Z ?_)
 have q:=hV _ _ _ bg
 obtain ⟨cG,cH,bJ,bK,bL,bj,bB⟩:=q
 have bT:=cg.le ae
 have bU:=ci.le ae
 have bV:=cj.le ae
 refine bnK cE fun cM bW cy=>OKS.callP (i1:=cG) (i2:=cH) (v0:=.bool cM) rfl rfl rfl rfl (zN rfl rfl Tryz.call57 (zD rfl (zD rfl zV)) rfl) bh bj bB (fun e=>by rw [e,bB] at bj;cases bj) (fun hs=>wCZ (⟨p1.Bout,p1.may,bJ,bK,bL⟩:wAF) ai bm bq av az bn br bt bs bD p3 (↑ah:Int) bH aZ hs bT bU bV cn bW) rfl ?_
 intro bI bY
 have bw:St ⟨w,L,U⟩ aZ aj bI:=bY
 refine oM Z Z (ifc cy ?_ ?_)
 intro ab cz
 refine zz Z Z Z (zU Z Z (congrArg nB ab.out)) Z ba (zz Z Z Z (zU Z Z (congrArg nB ab.out)) Z Z (bnK cz fun cN bX aq=>OKS.yieldT 0 (a:=(↑ah:Int)) Z Z Z (zU Z Z (congrArg nB ab.out)) Z Z (zD Z zV) bw hY ae bg Z bX Z ?_))
 rintro ak aY cU bu cI bz ap
 rcases cN with cK | cK
 try dsimp only at aq ap
 obtain ⟨rfl,cC⟩:=ap
 have bZ:St ⟨w,L,U⟩ ak aY bu:=bz
 refine zS Z Z Z (zU Z Z (congrArg nB ab.out)) (fun _=>ZO Z Z) (oR Z (zK Z (congrArg nB ab.out) Z) (eN (ZB Z (Zd (zq (zQ (rR fL2 Z (oR Z (ZL (zh Z am Z) (congrArg (jV) bA.out)) (oM Z Z (ZK ?_))))))))))
 have q:=nD aq
 obtain rfl:=q
 exact zQ ⟨Z,_,Z,⟨ak,aY,Z,ba,bb,be,bf,(ae.trans cI),bZ,cC⟩⟩
 try dsimp only at aq ap
 obtain ⟨rfl,cD⟩:=ap
 have b5:St ⟨w,L,U⟩ ak aY bu:=bz
 refine zS Z Z Z (zU Z Z (congrArg nB ab.out)) (fun _=>ZO Z Z) (oR Z (zK Z (congrArg nB ab.out) Z) (eN (zx Z (zX (zO (zH ?_))))))
 have q:=wAS aq
 obtain ⟨cL,cA,bN⟩:=q
 have q:=wBI hm bi (cr cL bN)
 obtain rfl:=q
 refine zH (zO ?_)
 cases cA
 exact ⟨Z,_,(res0),ak,_,b5,cD⟩
 intro ab cB
 refine zd Z Z Z (zJ Z Z (congrArg nB (nE.2 ab.out)) Z) (zd Z Z Z (zJ Z Z (congrArg nB (nE.2 ab.out)) Z) (ZH Z Z Z (zJ Z Z (congrArg nB (nE.2 ab.out)) Z) (zd Z Z Z (zJ Z Z (congrArg nB (nE.2 ab.out)) Z) (oR Z (zf Z (congrArg nB (nE.2 ab.out)) Z) (eN (ZB Z (Zd (zq (zQ (rR fL2 Z (oR Z (ZL (zh Z am Z) (congrArg (jV) bA.out)) (oM Z Z (ZK ?_)))))))))))))
 have q:=nD cB
 obtain rfl:=q
 exact zQ ⟨Z,_,Z,⟨aZ,aj,Z,ba,bb,be,bf,ae,bw,bg⟩⟩
 rintro df dh cP ⟨bG,cO,bP,cV,cW,cX,bO,da,b9,bQ⟩ ct
 have cx:=wDp hm bi ct
 have bM:Hid (¬ ((↑(((↑p1.Bout.Down.length:Int):Int) - 0).toNat:Int) < (↑p1.Bout.Down.length:Int))):=zL (wBf)
 refine sR fL1 Z (oR Z (zl Z bP bO) (eN (zM (cF Z bM (Ze (zw (zw (ZW ?_))))))))
 cases cx
 exact ⟨Z,_,(res0),bG,_,b9,bQ⟩
theorem wEY (p0:Unit) (aj:Nat) (p1:Int) (w:World) (U:PHeap) (hS:St0 w U [])  {r:Unit} (hm:wBY p0 p1=some r):Gv Tryz.prog 101 [.pointer (some ⟨aj,0,none⟩),jV p1] w (wCe w [] U (fun U_ L_ v=>∃ (b0:Nat) (b1:Nat) (b2:Nat),v=.func (.func 123) #[] #[.pointer (some ⟨b0,0,none⟩),.pointer (some ⟨b1,0,none⟩),.pointer (some ⟨b2,0,none⟩)]/\L_=[]/\Cl U_ b0 0 [.pointer (some ⟨aj,0,none⟩)]/\Cl U_ b1 0 [.func (.func 57) #[.pointer (some ⟨aj,0,none⟩)] #[]]/\Cl U_ b2 0 [jV p1])):=by
 unfold wBY at hm
 refine Gv.of Tryz.func101 Z Tryz.ntmps101 Tryz.results101 Z (sR gAo Z ?_)
 let B0:List Value:=[.pointer (some ⟨aj,0,none⟩)]
 refine Zc (cs:=B0) rfl rfl rfl rfl rfl rfl (by rfl) hS ?_
 intro W1 b2 bp
 have q:=bp.freeze (k:=0) rfl
 obtain ⟨U5,bz,ah,bs⟩:=q
 replace ah:=Cl.of ah
 have bt:sW w U U5 [] W1:=bs
 replace ah:Cl U5 b2 0 B0:=ah
 refine Zc (cs:=[jV p1]) rfl rfl rfl rfl rfl rfl (by rfl) bt ?_
 intro bh ba bk
 have q:=bk.freeze (k:=0) rfl
 obtain ⟨ap,bu,ab,bl⟩:=q
 replace ab:=Cl.of ab
 have be:sW w U ap [] bh:=bl
 replace ab:Cl ap ba 0 [jV p1]:=ab
 refine oA Z Z (eN (sR gAr Z ?_))
 have bb:=ah.le bu
 refine oL Z (be.ldC (f:=0) bb (v:=.pointer (some ⟨aj,0,none⟩)) Z Z ZP Z) (oR Z (Runs.mkf Z (zD Z zV) zV) (ZF (cs:=[.nilFunc]) Z Z Z Z Z Tryz.zeroValue106 Z be ?_))
 intro bw au bm
 let B1:List Value:=[.func (.func 57) B0.toArray #[]]
 refine zu (j:=0) (vs:=B1) Z Z Z Z bm Z Z Z Z Tryz.sizeOf106 (zB Z) Z Z Z ?_
 intro az bn
 have bo:sW w U ap [.blk au 106 B1] az:=bn
 refine eN (sR fL2 Z ?_)
 have q:=bo.freeze (k:=0) rfl
 obtain ⟨aq,bf,ae,bq⟩:=q
 replace ae:=Cl.of ae
 have br:sW w U aq [] az:=bq
 replace ae:Cl aq au 0 B1:=ae
 refine oR Z (Runs.mkf Z zV (zD Z (zD Z (zD Z zV)))) (oA Z Z (eN (zX ?_)))
 have bi:=bb.le bf
 have bj:=ab.le bf
 cases hm
 exact ⟨Z,_,(ZA Z),aq,_,br,b2,au,ba,Z,Z,bi,ae,bj⟩
theorem wDz (n_:Nat):∀ (p0:Int) (p1:wAF) (bq:Nat) (ah:Nat) (ai:Option Addr) (aj:Nat) (ak:Option Addr) (ap:Nat) (am:Option Addr) (aq:Nat) (ae:Nat) (au:Array MapEntry) (av:Nat) (p2:Unit) (bB:Nat) (w:World) (U:PHeap) (hS:St0 w U [.blk ah 118 ([.slice ai p1.Bout.Shots.length aj,.slice ak p1.Bout.Down.length ap,.slice am p1.Bout.Across.length aq,.map (some ae)] ++ ((nA KL.encI p1.hits.l) ++ ((nA KL.encI p1.used.l) ++ (nA KL.encT p1.met.l)))),.obj ae (.map au av)]) (cn:Cl U bq 0 [.pointer (some ⟨ah,0,none⟩)]) (dV:Sl U 1 ai aj p1.Bout.Shots.length (nA KL.encI p1.Bout.Shots)) (dW:Sl U 1 ak ap p1.Bout.Down.length (nA KL.encI p1.Bout.Down)) (dX:Sl U 2 am aq p1.Bout.Across.length (nA wAB p1.Bout.Across)) (cp:MpR au wDI wDZ p1.may) (dY:Cl U bB 0 [.func (.func 100) #[] #[.pointer (some ⟨bq,0,none⟩),.pointer (some ⟨bB,0,none⟩)]]) {r:Bool × (Arr Int 64 × Arr Int 8 × Arr Bool 16)} (hm:wAT n_ p0 p1 p2=some r),Gv Tryz.prog 100 [jV p0,.pointer (some ⟨bq,0,none⟩),.pointer (some ⟨bB,0,none⟩)] w (wCe w [.blk ah 118 ([.slice ai p1.Bout.Shots.length aj,.slice ak p1.Bout.Down.length ap,.slice am p1.Bout.Across.length aq,.map (some ae)] ++ ((nA KL.encI p1.hits.l) ++ ((nA KL.encI p1.used.l) ++ (nA KL.encT p1.met.l)))),.obj ae (.map au av)] U (fun U_ L_ v=>v=.bool r.1/\L_=[.blk ah 118 ([.slice ai p1.Bout.Shots.length aj,.slice ak p1.Bout.Down.length ap,.slice am p1.Bout.Across.length aq,.map (some ae)] ++ ((nA KL.encI r.2.1.l) ++ ((nA KL.encI r.2.2.1.l) ++ (nA KL.encT r.2.2.2.l)))),.obj ae (.map au av)])):=by
 induction n_ with
 | zero =>
  intros
  rename_i hm
  have ie:(none:Option (Bool × (Arr Int 64 × Arr Int 8 × Arr Bool 16)))=some _:=hm
  cases ie
 | succ n_ ih =>
  intro p0 p1 bq ah ai aj ak ap am aq ae au av p2 bB w U hS cn dV dW dX cp dY r hm
  have hm:wBB (wAT n_) p0 p1 p2=some r:=hm
  unfold wBB at hm
  refine Go.KX.Gv.ofM Tryz.func100 Z Tryz.ntmps100 Tryz.results100 (zB Z) ?_
  have fY:=hS.mks0
  refine sR gAk rfl (Zc (cs:=[jV p0]) rfl rfl rfl rfl rfl rfl (by rfl) fY ?_)
  intro W5 b6 gH
  refine ZF (cs:=[.bool false]) Z Z Z Z Z Tryz.zeroValue4 Z gH ?_
  intro W9 br fM
  refine eN (zM (ZQ ZJ [1,1,3,3,3,3,0] (wIt (.fx 6 .nil .stop)) (by kernel_rfl) ?_))
  have cg:=fM.drew
  generalize hw_W14:({ W9 with drawn:=W9.drawn + 1 }:World)=iP at cg ⊢
  refine zi rfl rfl rfl rfl (cg.ldC (f:=0) cn (v:=.pointer (some ⟨ah,0,none⟩)) rfl rfl ZP rfl) rfl (zi rfl rfl rfl rfl (cg.ldB (j:=1) rfl rfl rfl zI (v:=jV p0) rfl) rfl (zS rfl rfl rfl rfl (fun _=>zn rfl rfl) (zS rfl rfl rfl rfl (fun _=>zG rfl rfl zW rfl Tryz.sizeOf116) (zS rfl rfl rfl rfl (fun _=>ZL (ZU rfl rfl rfl Zt Tryz.sizeOf115 (by decide) (by decide)) rfl) (bnK hm fun _ bm cq=>zS rfl rfl rfl rfl (fun _=>ZU rfl rfl rfl Tryz.runUnderlying115 Zr (wAy bm) (wAz bm)) ?_)))))
  have gW:=Arr.at_ p1.met (k:=(8 + p0.toNat)) (by have hz0:=wAN bm;omega)
  refine zu (j:=3) (vs:=[.bool true]) (cs':=[.slice ai p1.Bout.Shots.length aj,.slice ak p1.Bout.Down.length ap,.slice am p1.Bout.Across.length aq,.map (some ae)] ++ ((nA KL.encI p1.hits.l) ++ ((nA KL.encI p1.used.l) ++ (nA KL.encT (p1.met.set (8 + p0.toNat) true).l)))) rfl rfl rfl rfl cg rfl ((rfl:ev _ _=.pointer (some ⟨ah,84 + p0.toNat * 1,none⟩)).trans (wDA (by omega))) rfl rfl Zr (by have hz0:=wAN bm;simp only [nO,nQ,nR,wAP (f:=KL.encI) (sz:=1) (N:=64) p1.hits (fun _=>rfl) rfl,wAP (f:=KL.encI) (sz:=1) (N:=8) p1.used (fun _=>rfl) rfl,wAP (f:=KL.encT) (sz:=1) (N:=16) p1.met (fun _=>rfl) rfl];omega) rfl (wBs (n:=4) rfl (wBs (n:=64) (wAP (f:=KL.encI) (sz:=1) (N:=64) p1.hits (fun _=>rfl) rfl) (wBs (n:=8) (wAP (f:=KL.encI) (sz:=1) (N:=8) p1.used (fun _=>rfl) rfl) (wPl (sz:=1) (fo:=0) (fun _=>rfl) _ _ _ _ gW (zB rfl) rfl)))) rfl ?_
  intro eE fW
  let B0:Res:=.blk b6 3 [jV p0]
  let B1:Res:=.blk br 4 [.bool false]
  have cV:SW w [.blk ah 118 ([.slice ai p1.Bout.Shots.length aj,.slice ak p1.Bout.Down.length ap,.slice am p1.Bout.Across.length aq,.map (some ae)] ++ ((nA KL.encI p1.hits.l) ++ ((nA KL.encI p1.used.l) ++ (nA KL.encT p1.met.l)))),.obj ae (.map au av)] U U [B1,B0,mks [],.blk ah 118 ([.slice ai p1.Bout.Shots.length aj,.slice ak p1.Bout.Down.length ap,.slice am p1.Bout.Across.length aq,.map (some ae)] ++ ((nA KL.encI p1.hits.l) ++ ((nA KL.encI p1.used.l) ++ (nA KL.encT (p1.met.set (8 + p0.toNat) true).l)))),.obj ae (.map au av)] eE:=fW
  refine eN (zM (sR fL7 Z (oL Z (cV.ldC (f:=0) cn (v:=.pointer (some ⟨ah,0,none⟩)) Z Z ZP Z) (oR Z (zn Z Z) (oR Z (zG Z Z zW Z ze) (oR Z (zG Z Z zF Z zR) (oL Z (cV.ldB (j:=3) Z Z Z zZ (v:=.slice ai p1.Bout.Shots.length aj) Z) (oR Z (Za Z Z zA) (oM Z Z (eN (zk ?_)))))))))))
  have q:=wCo cq
  obtain ⟨ja,cj⟩:=q
  have q:=wCn cj
  obtain ⟨cZ,gO⟩:=q
  replace cZ:=zL cZ
  refine CK.forND (fun ab (be,ba,bk) D_ σ_ w_=>∃ (U_:PHeap) (bh:List Nat),D_=List.map Go.KX.mark bh/\σ_ 19=jV (↑ab:Int)/\σ_ 1=.pointer (some ⟨bq,0,none⟩)/\σ_ 2=.pointer (some ⟨bB,0,none⟩)/\σ_ 3=.pointer (some ⟨b6,0,none⟩)/\σ_ 4=.pointer (some ⟨br,0,none⟩)/\σ_ 18=jV (↑p1.Bout.Shots.length:Int)/\PHeap.Le U U_/\SW w [.blk ah 118 ([.slice ai p1.Bout.Shots.length aj,.slice ak p1.Bout.Down.length ap,.slice am p1.Bout.Across.length aq,.map (some ae)] ++ ((nA KL.encI p1.hits.l) ++ ((nA KL.encI p1.used.l) ++ (nA KL.encT p1.met.l)))),.obj ae (.map au av)] U U_ [B1,B0,mks bh,.blk ah 118 ([.slice ai p1.Bout.Shots.length aj,.slice ak p1.Bout.Down.length ap,.slice am p1.Bout.Across.length aq,.map (some ae)] ++ ((nA KL.encI be.l) ++ ((nA KL.encI ba.l) ++ (nA KL.encT bk.l)))),.obj ae (.map au av)] w_) gO ?_ ?_ ?_
  ·exact ⟨U,[],Z,Z,Z,Z,Z,Z,Z,(zY _),cV⟩
  ·rintro ab ⟨be,ba,bk⟩ jh D_ ji iT cY ⟨bZ,bh,rfl,bR,bs,cR,bQ,b9,cd,bE,gD⟩ ed dZ
   try dsimp only at ed
   have du:Hid ((↑ab:Int) < (↑p1.Bout.Shots.length:Int)):=zL (wCI cY)
   replace cY:=zL cY
   have cX:Hid (w64 ((↑ab:Int) + 1)=(↑(ab + 1):Int)):=zL (by have h1:=cZ.out;have h2:=du.out;rw [wAf] <;> omega)
   refine sR fL1 Z (oR Z (zl Z bR cd) (eN (zM (cT Z du (kN (zM (zk (sR (.fl 0 (.fx 1 (.fx 2 .nil .stop) .stop)) Z (oM Z bR (ZF (cs:=[jV 0]) Z Z Z Z Z zm Z gD ?_))))))))))
   intro iW bg gE
   let B2:List Value:=[jV (↑ab:Int)]
   refine zu (j:=0) (vs:=B2) Z Z Z Z gE Z Z Z Z zC (zB Z) Z Z Z ?_
   intro cJ gF
   have gG:SW w [.blk ah 118 ([.slice ai p1.Bout.Shots.length aj,.slice ak p1.Bout.Down.length ap,.slice am p1.Bout.Across.length aq,.map (some ae)] ++ ((nA KL.encI p1.hits.l) ++ ((nA KL.encI p1.used.l) ++ (nA KL.encT p1.met.l)))),.obj ae (.map au av)] U bZ [.blk bg 3 B2,B1,B0,mks bh,.blk ah 118 ([.slice ai p1.Bout.Shots.length aj,.slice ak p1.Bout.Down.length ap,.slice am p1.Bout.Across.length aq,.map (some ae)] ++ ((nA KL.encI be.l) ++ ((nA KL.encI ba.l) ++ (nA KL.encT bk.l)))),.obj ae (.map au av)] cJ:=gF
   refine eN (zM (zM (ZQ ZJ [1,1,3,3,3,3,1,3,1,1,1,0,3,3] (wNy (.fx 11 (.fl 12 (.fl 13 .nil)) .stop)) (by kernel_rfl) ?_)))
   have bz:=gG.drew
   generalize hw_W69:({ cJ with drawn:=cJ.drawn + 1 }:World)=dm at bz ⊢
   have cU:=cn.le bE
   refine zi rfl rfl rfl rfl (bz.ldC (f:=0) cU (v:=.pointer (some ⟨ah,0,none⟩)) rfl bs ZP rfl) rfl (zi rfl rfl rfl rfl (bz.ldB (j:=0) rfl rfl rfl zI (v:=jV (↑ab:Int)) rfl) rfl (zS rfl rfl rfl rfl (fun _=>zn rfl rfl) (zS rfl rfl rfl rfl (fun _=>zG rfl rfl zW rfl Tryz.sizeOf116) (zS rfl rfl rfl rfl (fun _=>ZL (ZU rfl rfl rfl Zt Tryz.sizeOf115 (by decide) (by decide)) rfl) (bnK ed fun _ aZ iu=>zS rfl rfl rfl rfl (fun _=>ZU rfl rfl rfl Tryz.runUnderlying115 Zr (wAy aZ) (wAz aZ)) ?_)))))
   have ib:=Arr.at_ bk (k:=ab) (by have hz0:=wAN aZ;omega)
   refine zi rfl rfl rfl rfl (bz.ldB (j:=4) rfl rfl ((rfl:ev _ _=.pointer (some ⟨ah,76 + ab * 1,none⟩)).trans (wDA (by omega))) Tryz.isAgg4 (wCz (n:=4) rfl (wCz (n:=64) (wAP (f:=KL.encI) (sz:=1) (N:=64) be (fun _=>rfl) rfl) (wCz (n:=8) (wAP (f:=KL.encI) (sz:=1) (N:=8) ba (fun _=>rfl) rfl) (wPk (sz:=1) (fun _=>rfl) _ _ 0 _ ib rfl))))) rfl (zz rfl rfl rfl rfl rfl rfl (ifc iu ?_ ?_))
   ·intro bn iv
    refine zd Z Z Z (zJ Z Z (congrArg nB bn.out) Z) (zd Z Z Z (zJ Z Z (congrArg nB bn.out) Z) (zd Z Z Z (zJ Z Z (congrArg nB bn.out) Z) (ZH Z Z Z (zJ Z Z (congrArg nB bn.out) Z) (zd Z Z Z (zJ Z Z (congrArg nB bn.out) Z) (oR Z (zK Z (congrArg nB bn.out) Z) (eN (zx Z (Ze (zw (ZW (zQ (rR fL2 Z (oR Z (ZL (zh Z bR Z) (congrArg (jV) cX.out)) (oM Z Z (ZK ?_)))))))))))))))
    have q:=nD iv
    obtain rfl:=q
    exact zQ ⟨_,rfl,⟨bZ,bh,rfl,rfl,bs,cR,bQ,b9,cd,bE,(bz.pick [1,2,3,4,5] _ (by decide) rfl)⟩⟩
   ·intro bn iw
    refine zi Z Z Z (zU Z Z (congrArg nB (nE.2 bn.out))) (bz.ldC (f:=0) cU (v:=.pointer (some ⟨ah,0,none⟩)) Z bs ZP Z) Z (zi Z Z Z (zU Z Z (congrArg nB (nE.2 bn.out))) (bz.ldB (j:=0) Z Z Z zI (v:=jV (↑ab:Int)) Z) Z (zi Z Z Z (zU Z Z (congrArg nB (nE.2 bn.out))) (bz.ldB (j:=2) Z Z bQ zI (v:=jV p0) Z) Z ?_))
    have dM:=dV.le bE
    have dN:=dW.le bE
    have dO:=dX.le bE
    refine bnK iw fun x84 fC iy=>?_
    have gI:SW w [.blk ah 118 ([.slice ai p1.Bout.Shots.length aj,.slice ak p1.Bout.Down.length ap,.slice am p1.Bout.Across.length aq,.map (some ae)] ++ ((nA KL.encI p1.hits.l) ++ ((nA KL.encI p1.used.l) ++ (nA KL.encT p1.met.l)))),.obj ae (.map au av)] U bZ [.blk ah 118 ([.slice ai p1.Bout.Shots.length aj,.slice ak p1.Bout.Down.length ap,.slice am p1.Bout.Across.length aq,.map (some ae)] ++ ((nA KL.encI be.l) ++ ((nA KL.encI ba.l) ++ (nA KL.encT bk.l)))),.obj ae (.map au av),.blk bg 3 B2,B1,B0,mks bh] dm:=bz.pick [4,5,0,1,2,3] _ (by decide) rfl
    refine zP 2 Z Z Z (zU Z Z (congrArg nB (nE.2 bn.out))) (zN Z Z Tryz.call57 (zD Z (zD Z (zD Z zV))) Z) gI (fun hs=>wCZ (⟨p1.Bout,p1.may,be,ba,bk⟩:wAF) ah ai aj ak ap am aq ae au av (↑ab:Int) p0 dm bZ hs dM dN dO cp fC) (.inl Z) ?_
    rintro bu iM je cK bJ gJ ⟨rfl,rfl⟩
    have dU:SW w [.blk ah 118 ([.slice ai p1.Bout.Shots.length aj,.slice ak p1.Bout.Down.length ap,.slice am p1.Bout.Across.length aq,.map (some ae)] ++ ((nA KL.encI p1.hits.l) ++ ((nA KL.encI p1.used.l) ++ (nA KL.encT p1.met.l)))),.obj ae (.map au av)] U bu [.blk ah 118 ([.slice ai p1.Bout.Shots.length aj,.slice ak p1.Bout.Down.length ap,.slice am p1.Bout.Across.length aq,.map (some ae)] ++ ((nA KL.encI be.l) ++ ((nA KL.encI ba.l) ++ (nA KL.encT bk.l)))),.obj ae (.map au av),.blk bg 3 B2,B1,B0,mks bh] cK:=gJ
    refine zS Z Z Z (zU Z Z (congrArg nB (nE.2 bn.out))) (fun _=>ZO Z Z) (oR Z (zf Z (congrArg nB (nE.2 bn.out)) Z) (eN (ifc iy ?_ ?_)))
    ·intro cN iz
     refine ZB (nC cN.out) (kN (zM (ZQ ZJ [1,1,3,3,3,3,0] (wIt (.fx 6 .nil .stop)) (by kernel_rfl) ?_)))
     have ci:=dU.drew
     generalize hw_W98:({ cK with drawn:=cK.drawn + 1 }:World)=iX at ci ⊢
     have bH:=cU.le bJ
     refine zi rfl rfl rfl rfl (ci.ldC (f:=0) bH (v:=.pointer (some ⟨ah,0,none⟩)) rfl bs ZP rfl) rfl (zi rfl rfl rfl rfl (ci.ldB (j:=2) rfl rfl rfl zI (v:=jV (↑ab:Int)) rfl) rfl (zS rfl rfl rfl rfl (fun _=>zn rfl rfl) (zS rfl rfl rfl rfl (fun _=>zG rfl rfl zW rfl Tryz.sizeOf116) (zS rfl rfl rfl rfl (fun _=>ZL (ZU rfl rfl rfl Zt Tryz.sizeOf115 (by decide) (by decide)) rfl) (zS rfl rfl rfl rfl (fun _=>ZU rfl rfl rfl Tryz.runUnderlying115 Zr (wAy aZ) (wAz aZ)) ?_)))))
     have gP:=Arr.at_ bk (k:=ab) (by have hz0:=wAN aZ;omega)
     refine zu (j:=0) (vs:=[.bool true]) (cs':=[.slice ai p1.Bout.Shots.length aj,.slice ak p1.Bout.Down.length ap,.slice am p1.Bout.Across.length aq,.map (some ae)] ++ ((nA KL.encI be.l) ++ ((nA KL.encI ba.l) ++ (nA KL.encT (bk.set ab true).l)))) rfl rfl rfl rfl ci rfl ((rfl:ev _ _=.pointer (some ⟨ah,76 + ab * 1,none⟩)).trans (wDA (by omega))) rfl rfl Zr (by have hz0:=wAN aZ;simp only [nO,nQ,nR,wAP (f:=KL.encI) (sz:=1) (N:=64) be (fun _=>rfl) rfl,wAP (f:=KL.encI) (sz:=1) (N:=8) ba (fun _=>rfl) rfl,wAP (f:=KL.encT) (sz:=1) (N:=16) bk (fun _=>rfl) rfl];omega) rfl (wBs (n:=4) rfl (wBs (n:=64) (wAP (f:=KL.encI) (sz:=1) (N:=64) be (fun _=>rfl) rfl) (wBs (n:=8) (wAP (f:=KL.encI) (sz:=1) (N:=8) ba (fun _=>rfl) rfl) (wPl (sz:=1) (fo:=0) (fun _=>rfl) _ _ _ _ gP (zB rfl) rfl)))) rfl ?_
     intro cC fK
     have fL:SW w [.blk ah 118 ([.slice ai p1.Bout.Shots.length aj,.slice ak p1.Bout.Down.length ap,.slice am p1.Bout.Across.length aq,.map (some ae)] ++ ((nA KL.encI p1.hits.l) ++ ((nA KL.encI p1.used.l) ++ (nA KL.encT p1.met.l)))),.obj ae (.map au av)] U bu [.blk ah 118 ([.slice ai p1.Bout.Shots.length aj,.slice ak p1.Bout.Down.length ap,.slice am p1.Bout.Across.length aq,.map (some ae)] ++ ((nA KL.encI be.l) ++ ((nA KL.encI ba.l) ++ (nA KL.encT (bk.set ab true).l)))),.obj ae (.map au av),.blk bg 3 B2,B1,B0,mks bh] cC:=fK
     refine eN (zM (zM (ZQ ZJ [1,1,3,3,3,1,1,3,3,3,1,1,3,1,3] fL15 (by kernel_rfl) ?_)))
     have bo:=fL.drew
     generalize hw_W105:({ cC with drawn:=cC.drawn + 1 }:World)=cD at bo ⊢
     refine oL Z (bo.ldC (f:=0) bH (v:=.pointer (some ⟨ah,0,none⟩)) Z bs ZP Z) (oL Z (bo.ldB (j:=2) Z Z Z zI (v:=jV (↑ab:Int)) Z) (oR Z (zn Z Z) (oR Z (zG Z Z zW Z Zl) (oR Z (ZU Z Z Z ZR zC (wAy aZ) (wAz aZ)) ?_))))
     have gQ:=Arr.at_ ba (k:=ab) (by have hz0:=wAN aZ;omega)
     refine zi rfl rfl rfl rfl (bo.ldB (j:=0) rfl rfl ((rfl:ev _ _=.pointer (some ⟨ah,68 + ab * 1,none⟩)).trans (wDA (by omega))) zI (wCz (n:=4) rfl (wCz (n:=64) (wAP (f:=KL.encI) (sz:=1) (N:=64) be (fun _=>rfl) rfl) (wGh (sz:=1) (fun _=>rfl) _ _ 0 _ gQ rfl)))) rfl (zi rfl rfl rfl rfl (bo.ldC (f:=0) bH (v:=.pointer (some ⟨ah,0,none⟩)) rfl bs ZP rfl) rfl (zS rfl rfl rfl rfl (fun _=>zn rfl rfl) (zS rfl rfl rfl rfl (fun _=>zG rfl rfl zW rfl ze) (zS rfl rfl rfl rfl (fun _=>zG rfl rfl zF rfl zR) (zi rfl rfl rfl rfl (bo.ldB (j:=0) rfl rfl rfl zZ (v:=.slice ai p1.Bout.Shots.length aj) rfl) rfl (zi rfl rfl rfl rfl (bo.ldB (j:=2) rfl rfl rfl zI (v:=jV (↑ab:Int)) rfl) rfl (bnK iz fun iH dF ig=>?_)))))))
     have dG:=dM.le bJ
     have q:=dG.el (fun _=>rfl) (wCE dF)
     obtain ⟨iY,i8,fD,fE⟩:=q
     refine oR Z (Zm Z Z fD Z zA zC (wFH dF)) (oL Z (bo.ldC (f:=0) fE (v:=jV iH) Z Z zI Z) (oR Z (zl Z Z Z) (eN (ifc ig ?_ ?_))))
     ·intro cL ii
      refine cT Z cL (zM (CK.fresh fun cy bU=>?_))
      have dv:cy 1=.pointer (some ⟨bq,0,none⟩):=(bU 1).trans bs
      have eP:cy 3=.pointer (some ⟨b6,0,none⟩):=(bU 3).trans bQ
      have dw:cy 4=.pointer (some ⟨br,0,none⟩):=(bU 4).trans b9
      have dx:cy 5=.pointer (some ⟨bg,0,none⟩):=(bU 5).trans rfl
      clear bU
      refine ZQ ZJ [1,1,3,3,3,1,3,3,3,3,0] (wQh (.fx 10 .nil .stop)) (by kernel_rfl) ?_
      have bS:=bo.drew
      generalize hw_W124:({ cD with drawn:=cD.drawn + 1 }:World)=iN at bS ⊢
      refine oL Z (bS.ldC (f:=0) bH (v:=.pointer (some ⟨ah,0,none⟩)) Z dv ZP Z) (oL Z (bS.ldB (j:=2) Z Z dx zI (v:=jV (↑ab:Int)) Z) (oR Z (zn Z Z) (oR Z (zG Z Z zW Z Zl) (oR Z (ZU Z Z Z ZR zC (wAy aZ) (wAz aZ)) ?_))))
      have gR:=Arr.at_ ba (k:=ab) (by have hz0:=wAN aZ;omega)
      refine zi rfl rfl rfl rfl (bS.ldB (j:=0) rfl rfl ((rfl:ev _ _=.pointer (some ⟨ah,68 + ab * 1,none⟩)).trans (wDA (by omega))) zI (wCz (n:=4) rfl (wCz (n:=64) (wAP (f:=KL.encI) (sz:=1) (N:=64) be (fun _=>rfl) rfl) (wGh (sz:=1) (fun _=>rfl) _ _ 0 _ gR rfl)))) rfl (zS rfl rfl rfl rfl (fun _=>zh rfl rfl rfl) (zS rfl rfl rfl rfl (fun _=>zn rfl rfl) (zS rfl rfl rfl rfl (fun _=>zG rfl rfl zW rfl Zl) (zS rfl rfl rfl rfl (fun _=>ZU rfl rfl rfl ZR zC (wAy aZ) (wAz aZ)) ?_))))
      have gS:=Arr.at_ ba (k:=ab) (by have hz0:=wAN aZ;omega)
      refine zu (j:=0) (vs:=[jV (w64 ((ba.get ab) + 1))]) (cs':=[.slice ai p1.Bout.Shots.length aj,.slice ak p1.Bout.Down.length ap,.slice am p1.Bout.Across.length aq,.map (some ae)] ++ ((nA KL.encI be.l) ++ ((nA KL.encI (ba.set ab (w64 ((ba.get ab) + 1))).l) ++ (nA KL.encT (bk.set ab true).l)))) rfl rfl rfl rfl bS rfl ((rfl:ev _ _=.pointer (some ⟨ah,68 + ab * 1,none⟩)).trans (wDA (by omega))) rfl rfl zC (by have hz0:=wAN aZ;simp only [nO,nQ,nR,wAP (f:=KL.encI) (sz:=1) (N:=64) be (fun _=>rfl) rfl,wAP (f:=KL.encI) (sz:=1) (N:=8) ba (fun _=>rfl) rfl,wAP (f:=KL.encT) (sz:=1) (N:=16) (bk.set ab true) (fun _=>rfl) rfl];omega) rfl (wBs (n:=4) rfl (wBs (n:=64) (wAP (f:=KL.encI) (sz:=1) (N:=64) be (fun _=>rfl) rfl) (wIy (sz:=1) (fo:=0) (fun _=>rfl) _ _ _ _ gS (zB rfl) rfl))) rfl ?_
      intro cE fN
      have fO:SW w [.blk ah 118 ([.slice ai p1.Bout.Shots.length aj,.slice ak p1.Bout.Down.length ap,.slice am p1.Bout.Across.length aq,.map (some ae)] ++ ((nA KL.encI p1.hits.l) ++ ((nA KL.encI p1.used.l) ++ (nA KL.encT p1.met.l)))),.obj ae (.map au av)] U bu [.blk ah 118 ([.slice ai p1.Bout.Shots.length aj,.slice ak p1.Bout.Down.length ap,.slice am p1.Bout.Across.length aq,.map (some ae)] ++ ((nA KL.encI be.l) ++ ((nA KL.encI (ba.set ab (w64 ((ba.get ab) + 1))).l) ++ (nA KL.encT (bk.set ab true).l)))),.obj ae (.map au av),.blk bg 3 B2,B1,B0,mks bh] cE:=fN
      refine eN (zM (ZQ ZJ [1,1,1,3,3,3,3,1,3,3,3,3,3,0] (wMM (.fx 13 .nil .stop)) (by kernel_rfl) ?_))
      have bL:=fO.drew
      generalize hw_W131:({ cE with drawn:=cE.drawn + 1 }:World)=iO at bL ⊢
      refine oL Z (bL.ldC (f:=0) bH (v:=.pointer (some ⟨ah,0,none⟩)) Z dv ZP Z) (oL Z (bL.ldB (j:=2) Z Z dx zI (v:=jV (↑ab:Int)) Z) (oL Z (bL.ldB (j:=4) Z Z eP zI (v:=jV p0) Z) (oR Z (zn Z Z) (oR Z (zG Z Z zW Z Zv) (oR Z (ZU Z Z Z Zh Zl (wAy aZ) (wAz aZ)) (oR Z (ZU Z Z Z ZR zC (wAy bm) (wAz bm)) ?_))))))
      have gT:=Arr.at_ be (k:=(ab * 8 + p0.toNat)) (by have hz0:=wAN aZ;have hz1:=wAN bm;omega)
      refine zi rfl rfl rfl rfl (bL.ldB (j:=0) rfl rfl ((rfl:ev _ _=.pointer (some ⟨ah,4 + ab * 8 + p0.toNat * 1,none⟩)).trans (wDA (by omega))) zI (wCz (n:=4) rfl (wGh (sz:=1) (fun _=>rfl) _ _ 0 _ gT rfl))) rfl (zS rfl rfl rfl rfl (fun _=>zh rfl rfl rfl) (zS rfl rfl rfl rfl (fun _=>zn rfl rfl) (zS rfl rfl rfl rfl (fun _=>zG rfl rfl zW rfl Zv) (zS rfl rfl rfl rfl (fun _=>ZU rfl rfl rfl Zh Zl (wAy aZ) (wAz aZ)) (zS rfl rfl rfl rfl (fun _=>ZU rfl rfl rfl ZR zC (wAy bm) (wAz bm)) ?_)))))
      have gU:=Arr.at_ be (k:=(ab * 8 + p0.toNat)) (by have hz0:=wAN aZ;have hz1:=wAN bm;omega)
      refine zu (j:=0) (vs:=[jV (w64 ((be.get (ab * 8 + p0.toNat)) + 1))]) (cs':=[.slice ai p1.Bout.Shots.length aj,.slice ak p1.Bout.Down.length ap,.slice am p1.Bout.Across.length aq,.map (some ae)] ++ ((nA KL.encI (be.set (ab * 8 + p0.toNat) (w64 ((be.get (ab * 8 + p0.toNat)) + 1))).l) ++ ((nA KL.encI (ba.set ab (w64 ((ba.get ab) + 1))).l) ++ (nA KL.encT (bk.set ab true).l)))) rfl rfl rfl rfl bL rfl ((rfl:ev _ _=.pointer (some ⟨ah,4 + ab * 8 + p0.toNat * 1,none⟩)).trans (wDA (by omega))) rfl rfl zC (by have hz0:=wAN aZ;have hz1:=wAN bm;simp only [nO,nQ,nR,wAP (f:=KL.encI) (sz:=1) (N:=64) be (fun _=>rfl) rfl,wAP (f:=KL.encI) (sz:=1) (N:=8) (ba.set ab (w64 ((ba.get ab) + 1))) (fun _=>rfl) rfl,wAP (f:=KL.encT) (sz:=1) (N:=16) (bk.set ab true) (fun _=>rfl) rfl];omega) rfl (wBs (n:=4) rfl (wIy (sz:=1) (fo:=0) (fun _=>rfl) _ _ _ _ gU (zB rfl) rfl)) rfl ?_
      intro ez fP
      have fQ:SW w [.blk ah 118 ([.slice ai p1.Bout.Shots.length aj,.slice ak p1.Bout.Down.length ap,.slice am p1.Bout.Across.length aq,.map (some ae)] ++ ((nA KL.encI p1.hits.l) ++ ((nA KL.encI p1.used.l) ++ (nA KL.encT p1.met.l)))),.obj ae (.map au av)] U bu [.blk ah 118 ([.slice ai p1.Bout.Shots.length aj,.slice ak p1.Bout.Down.length ap,.slice am p1.Bout.Across.length aq,.map (some ae)] ++ ((nA KL.encI (be.set (ab * 8 + p0.toNat) (w64 ((be.get (ab * 8 + p0.toNat)) + 1))).l) ++ ((nA KL.encI (ba.set ab (w64 ((ba.get ab) + 1))).l) ++ (nA KL.encT (bk.set ab true).l)))),.obj ae (.map au av),.blk bg 3 B2,B1,B0,mks bh] ez:=fP
      refine eN (sR (.fx 0 .nil .stop) Z (zu (j:=3) (vs:=[.bool true]) Z Z Z Z fQ Z dw Z Z Zr (zB Z) Z Z Z ?_))
      intro eA fR
      let B3:Res:=.blk br 4 [.bool true]
      have fS:SW w [.blk ah 118 ([.slice ai p1.Bout.Shots.length aj,.slice ak p1.Bout.Down.length ap,.slice am p1.Bout.Across.length aq,.map (some ae)] ++ ((nA KL.encI p1.hits.l) ++ ((nA KL.encI p1.used.l) ++ (nA KL.encT p1.met.l)))),.obj ae (.map au av)] U bu [.blk ah 118 ([.slice ai p1.Bout.Shots.length aj,.slice ak p1.Bout.Down.length ap,.slice am p1.Bout.Across.length aq,.map (some ae)] ++ ((nA KL.encI (be.set (ab * 8 + p0.toNat) (w64 ((be.get (ab * 8 + p0.toNat)) + 1))).l) ++ ((nA KL.encI (ba.set ab (w64 ((ba.get ab) + 1))).l) ++ (nA KL.encT (bk.set ab true).l)))),.obj ae (.map au av),.blk bg 3 B2,B3,B0,mks bh] eA:=fR
      refine eN (zX (zH (zO (zH ?_))))
      have q:=wAS ii
      obtain ⟨iD,ij,eM⟩:=q
      have q:=wBI cq cj (dZ iD eM)
      obtain rfl:=q
      refine zH (zO (zH (wHF (by first | exact .inl rfl | exact .inr rfl) (rbs:=bh) (L:=[.blk ah 118 ([.slice ai p1.Bout.Shots.length aj,.slice ak p1.Bout.Down.length ap,.slice am p1.Bout.Across.length aq,.map (some ae)] ++ ((nA KL.encI (be.set (ab * 8 + p0.toNat) (w64 ((be.get (ab * 8 + p0.toNat)) + 1))).l) ++ ((nA KL.encI (ba.set ab (w64 ((ba.get ab) + 1))).l) ++ (nA KL.encT (bk.set ab true).l)))),.obj ae (.map au av),.blk bg 3 B2,B3,B0]) (fS.pick [5,0,1,2,3,4] _ (by decide) rfl) fun eC fT=>?_)))
      have dP:SW w [.blk ah 118 ([.slice ai p1.Bout.Shots.length aj,.slice ak p1.Bout.Down.length ap,.slice am p1.Bout.Across.length aq,.map (some ae)] ++ ((nA KL.encI p1.hits.l) ++ ((nA KL.encI p1.used.l) ++ (nA KL.encT p1.met.l)))),.obj ae (.map au av)] U bu [.blk ah 118 ([.slice ai p1.Bout.Shots.length aj,.slice ak p1.Bout.Down.length ap,.slice am p1.Bout.Across.length aq,.map (some ae)] ++ ((nA KL.encI (be.set (ab * 8 + p0.toNat) (w64 ((be.get (ab * 8 + p0.toNat)) + 1))).l) ++ ((nA KL.encI (ba.set ab (w64 ((ba.get ab) + 1))).l) ++ (nA KL.encT (bk.set ab true).l)))),.obj ae (.map au av),.blk bg 3 B2,B3,B0] eC:=fT
      cases ij
      exact ⟨_,(wII (v:=.bool true) ⟨⟨_,dw,(wOH Tryz.isAgg4 (dP.blkAt (k:=3) rfl) rfl)⟩,trivial⟩),bu,_,(dP.pick [0,1] _ (by decide) rfl),rfl,rfl⟩
     ·intro cL ik
      refine cF Z cL (kN (sR (.fl 0 (.fl 1 (.fx 2 .nil .stop))) Z (oL Z (bo.ldC (f:=0) bH (v:=.pointer (some ⟨ah,0,none⟩)) Z bs ZP Z) (oL Z (bo.ldB (j:=2) Z Z Z zI (v:=jV (↑ab:Int)) Z) ?_))))
      have q:=bnd ik
      obtain ⟨⟨⟩,fc,d7⟩:=q
      try dsimp only at d7
      refine zP 0 Z Z Z Z (zN Z Z Tryz.call101 (zD Z (zD Z zV)) Z) bo (fun hs=>wEY () ah (↑ab:Int) cD bu hs fc) (.inr Z) ?_
      rintro dg iI jc eD bN fU ⟨dq,dr,dt,rfl,rfl,fd,ff,fg⟩
      have fV:SW w [.blk ah 118 ([.slice ai p1.Bout.Shots.length aj,.slice ak p1.Bout.Down.length ap,.slice am p1.Bout.Across.length aq,.map (some ae)] ++ ((nA KL.encI p1.hits.l) ++ ((nA KL.encI p1.used.l) ++ (nA KL.encT p1.met.l)))),.obj ae (.map au av)] U dg [.blk ah 118 ([.slice ai p1.Bout.Shots.length aj,.slice ak p1.Bout.Down.length ap,.slice am p1.Bout.Across.length aq,.map (some ae)] ++ ((nA KL.encI be.l) ++ ((nA KL.encI ba.l) ++ (nA KL.encT (bk.set ab true).l)))),.obj ae (.map au av),.blk bg 3 B2,B1,B0,mks bh] eD:=fU
      refine eN (zk (CK.fresh fun bD bA=>?_))
      have dy:bD 1=.pointer (some ⟨bq,0,none⟩):=(bA 1).trans bs
      have dz:bD 2=.pointer (some ⟨bB,0,none⟩):=(bA 2).trans cR
      have dA:bD 3=.pointer (some ⟨b6,0,none⟩):=(bA 3).trans bQ
      have cO:bD 4=.pointer (some ⟨br,0,none⟩):=(bA 4).trans b9
      have eQ:bD 5=.pointer (some ⟨bg,0,none⟩):=(bA 5).trans rfl
      have dB:bD 18=jV (↑p1.Bout.Shots.length:Int):=(bA 18).trans cd
      have dC:bD 19=jV (↑ab:Int):=(bA 19).trans bR
      have eR:bD 82=.func (.func 123) #[] #[.pointer (some ⟨dq,0,none⟩),.pointer (some ⟨dr,0,none⟩),.pointer (some ⟨dt,0,none⟩)]:=(bA 82).trans rfl
      clear bA
      refine bnK d7 fun eh ic cr=>?_
      have dH:=dG.le bN
      have fh:=dN.le bJ
      have dI:=fh.le bN
      have fj:=dO.le bJ
      have dJ:=fj.le bN
      refine CK.rangeYV (fun U_ L_=>∃ (i_ j_:Nat) (a0_:Arr Int 64) (a1_:Arr Int 8) (a2_:Arr Bool 16),L_[i_]?=some (.blk ah 118 ([.slice ai p1.Bout.Shots.length aj,.slice ak p1.Bout.Down.length ap,.slice am p1.Bout.Across.length aq,.map (some ae)] ++ ((nA KL.encI a0_.l) ++ ((nA KL.encI a1_.l) ++ (nA KL.encT a2_.l)))))/\L_[j_]?=some (.obj ae (.map au av))) (by rintro _ _ _ ⟨i,j,a0,a1,a2,hi,hj⟩;exact ⟨i + 1,j + 1,a0,a1,a2,hi,hj⟩) (S:=(Arr Int 64) × (Arr Int 8) × (Arr Bool 16)) (E:=(Arr Int 64) × (Arr Int 8) × (Arr Bool 16) × Bool) (ar:=wMx) (PY:=(fun (s_:(Arr Int 64) × (Arr Int 8) × (Arr Bool 16)) (U_:PHeap) (L_:List Res)=>match s_ with | (a303,a304,a305)=>L_=[.blk ah 118 ([.slice ai p1.Bout.Shots.length aj,.slice ak p1.Bout.Down.length ap,.slice am p1.Bout.Across.length aq,.map (some ae)] ++ ((nA KL.encI a303.l) ++ ((nA KL.encI a304.l) ++ (nA KL.encT a305.l)))),.obj ae (.map au av),.blk bg 3 [jV (↑ab:Int)],B1,B0,mks bh])) (PE:=(fun (s_:(Arr Int 64) × (Arr Int 8) × (Arr Bool 16) × Bool) (U_:PHeap) (L_:List Res)=>match s_ with | (a314,a315,a316,b317)=>L_=[.blk ah 118 ([.slice ai p1.Bout.Shots.length aj,.slice ak p1.Bout.Down.length ap,.slice am p1.Bout.Across.length aq,.map (some ae)] ++ ((nA KL.encI a314.l) ++ ((nA KL.encI a315.l) ++ (nA KL.encT a316.l)))),.obj ae (.map au av),.blk bg 3 [jV (↑ab:Int)],.blk br 4 [.bool b317],B0,mks bh])) (exO:=(fun _=>.ret)) (s0:=(be,ba,(bk.set ab true))) (rr:=eh) eR Tryz.call123 fV (by decide) (fun _ _ _ h=>by obtain rfl:=h;rfl) (fun _=>.inl rfl) rfl (by rintro ⟨a303,a304,a305⟩ _ _ rfl;exact ⟨0,1,a303,a304,a305,rfl,rfl⟩) (fun l w1 L1 PY' PE' fJ fG gL gK=>wDy PY' PE' _ l _ (⟨p1.Bout,p1.may,be,ba,(bk.set ab true)⟩:wAF) dq ah ai aj ak ap am aq ae au av () dr (↑ab:Int) dt w1 L1 dg fJ fG gL gK fd dH dI dJ cp ff fg ic) ?_ ?_
      ·rintro bI jb i6 ⟨a303,a304,a305⟩ bb jf i9 ct iJ iG iC bF bW fZ fH gM cW bC bp
       obtain rfl:=fH
       obtain rfl:=gM
       replace bp:∀ t,bC t=upd bD 83 (jV bb) t:=bp
       have eT:bC 83=jV bb:=(bp 83).trans (wCL _ _ _)
       have cP:bC 1=.pointer (some ⟨bq,0,none⟩):=(bp 1).trans ((wCG _ _ (by decide)).trans dy)
       have eU:bC 2=.pointer (some ⟨bB,0,none⟩):=(bp 2).trans ((wCG _ _ (by decide)).trans dz)
       have dD:bC 3=.pointer (some ⟨b6,0,none⟩):=(bp 3).trans ((wCG _ _ (by decide)).trans dA)
       have eV:bC 4=.pointer (some ⟨br,0,none⟩):=(bp 4).trans ((wCG _ _ (by decide)).trans cO)
       have cQ:bC 5=.pointer (some ⟨bg,0,none⟩):=(bp 5).trans ((wCG _ _ (by decide)).trans eQ)
       have iZ:bC 18=jV (↑p1.Bout.Shots.length:Int):=(bp 18).trans ((wCG _ _ (by decide)).trans dB)
       have i0:bC 19=jV (↑ab:Int):=(bp 19).trans ((wCG _ _ (by decide)).trans dC)
       clear bp
       have ga:St bF ct [.obj bI iC,.blk ah 118 ([.slice ai p1.Bout.Shots.length aj,.slice ak p1.Bout.Down.length ap,.slice am p1.Bout.Across.length aq,.map (some ae)] ++ ((nA KL.encI a303.l) ++ ((nA KL.encI a304.l) ++ (nA KL.encT a305.l)))),.obj ae (.map au av),.blk bg 3 B2,B1,B0,mks bh] iG:=fZ
       try dsimp only at cW
       refine rR fL1 Z (oA Z eT (ZK ⟨Z,Z,_,_,ga,fun cG bO gb=>?_⟩))
       have gc:St bF ct [.obj bI bO,.blk ah 118 ([.slice ai p1.Bout.Shots.length aj,.slice ak p1.Bout.Down.length ap,.slice am p1.Bout.Across.length aq,.map (some ae)] ++ ((nA KL.encI a303.l) ++ ((nA KL.encI a304.l) ++ (nA KL.encT a305.l)))),.obj ae (.map au av),.blk bg 3 B2,B1,B0,mks bh] cG:=gb
       refine zk (zM (ZQ ZJ [3,1,3,3,1,1,3,3,3,3,3,1,3,3,3,1,3,0,3] (wMN gAl) (by kernel_rfl) ?_))
       have bw:=gc.drew
       generalize hw_W362:({ cG with drawn:=cG.drawn + 1 }:World)=dh at bw ⊢
       refine oM Z Z (oL Z (bw.ldB (j:=5) Z Z dD zI (v:=jV p0) Z) (oR Z (Zj Z Z Z) (oM Z Z ?_)))
       by_cases bi:bb=p0
       ·have d8:=cW;rw [if_pos bi] at d8;replace bi:=zL bi
        refine zd Z Z Z (zJ Z Z (zy (fun h=>h bi.out)) Z) (zd Z Z Z (zJ Z Z (zy (fun h=>h bi.out)) Z) (zd Z Z Z (zJ Z Z (zy (fun h=>h bi.out)) Z) (zd Z Z Z (zJ Z Z (zy (fun h=>h bi.out)) Z) (zd Z Z Z (zJ Z Z (zy (fun h=>h bi.out)) Z) (zd Z Z Z (zJ Z Z (zy (fun h=>h bi.out)) Z) (zd Z Z Z (zJ Z Z (zy (fun h=>h bi.out)) Z) (zd Z Z Z (zJ Z Z (zy (fun h=>h bi.out)) Z) (zd Z Z Z (zJ Z Z (zy (fun h=>h bi.out)) Z) (oR Z (zf Z (zy (fun h=>h bi.out)) Z) (oM Z Z (oN Z (oN Z (ZH Z Z Z (zJ Z Z Z Z) (oR Z (zf Z Z Z) (eN (ZB Z (Zd (zq ?_))))))))))))))))))
        have q:=nD d8
        obtain rfl:=q
        exact ⟨_,_,bw,Z,Z⟩
       ·have d9:=cW;rw [if_neg bi] at d9;replace bi:=zL bi
        have fm:=bH.le bN
        have cS:=fm.le bW
        refine zi Z Z Z (wT Z bi) (bw.ldC (f:=0) cS (v:=.pointer (some ⟨ah,0,none⟩)) Z cP ZP Z) Z (zi Z Z Z (wT Z bi) (bw.ldB (j:=3) Z Z cQ zI (v:=jV (↑ab:Int)) Z) Z (zz Z Z Z (wT Z bi) Z Z (rU Z (wT Z bi) (zn Z Z) (rU Z (wT Z bi) (zG Z Z zW Z Zv) (rU Z (wT Z bi) (ZU Z Z Z Zh Zl (wAy aZ) (wAz aZ)) (bnK d9 fun _ bt il=>rU Z (wT Z bi) (ZU Z Z Z ZR zC (wAy bt) (wAz bt)) ?_))))))
        have gX:=Arr.at_ a303 (k:=(ab * 8 + bb.toNat)) (by have hz0:=wAN aZ;have hz1:=wAN bt;omega)
        refine zi rfl rfl rfl (zU rfl rfl (Zo bi.out)) (bw.ldB (j:=1) rfl rfl ((rfl:ev _ _=.pointer (some ⟨ah,4 + ab * 8 + bb.toNat * 1,none⟩)).trans (wDA (by omega))) zI (wCz (n:=4) rfl (wGh (sz:=1) (fun _=>rfl) _ _ 0 _ gX rfl))) rfl (zS rfl rfl rfl (zU rfl rfl (Zo bi.out)) (fun _=>Runs.gtr rfl rfl rfl) (zS rfl rfl rfl rfl (fun _=>zK rfl (Zo bi.out) rfl) (zz rfl rfl rfl rfl rfl rfl (ifc il ?_ ?_))))
        ·intro bv im
         have ft:=dY.le bE
         have fu:=ft.le bJ
         have fw:=fu.le bN
         have dK:=fw.le bW
         refine zi Z Z Z (wT Z bv) (bw.ldC (f:=0) dK (v:=.func (.func 100) #[] #[.pointer (some ⟨bq,0,none⟩),.pointer (some ⟨bB,0,none⟩)]) Z eU Tryz.isAgg98 Z) Z (zz Z Z Z (wT Z bv) Z Z ?_)
         have fy:=dH.le bW
         have fz:=dI.le bW
         have fA:=dJ.le bW
         have q:=bnd im
         obtain ⟨⟨jg,az⟩,fB,eb⟩:=q
         try dsimp only at eb
         have ge:St bF ct [.blk ah 118 ([.slice ai p1.Bout.Shots.length aj,.slice ak p1.Bout.Down.length ap,.slice am p1.Bout.Across.length aq,.map (some ae)] ++ ((nA KL.encI a303.l) ++ ((nA KL.encI a304.l) ++ (nA KL.encT a305.l)))),.obj ae (.map au av),.obj bI bO,.blk bg 3 B2,B1,B0,mks bh] dh:=bw.pick [1,2,0,3,4,5,6] _ (by decide) rfl
         refine zP 2 Z Z Z (wT Z bv) (zN Z Z Tryz.call100 (zD Z zV) Z) ge (fun hs=>ih bb (⟨p1.Bout,p1.may,a303,a304,a305⟩:wAF) bq ah ai aj ak ap am aq ae au av () bB dh ct hs cS fy fz fA cp dK fB) (.inl Z) ?_
         rintro bY iK jd cH iA gf ⟨rfl,rfl⟩
         have dQ:St bF bY [.blk ah 118 ([.slice ai p1.Bout.Shots.length aj,.slice ak p1.Bout.Down.length ap,.slice am p1.Bout.Across.length aq,.map (some ae)] ++ ((nA KL.encI az.1.l) ++ ((nA KL.encI az.2.1.l) ++ (nA KL.encT az.2.2.l)))),.obj ae (.map au av),.obj bI bO,.blk bg 3 B2,B1,B0,mks bh] cH:=gf
         refine oR Z (zK Z (Zo bv.out) Z) (eN (ifc eb ?_ ?_))
         ·intro cM io
          refine zx (congrArg nB cM.out) (zM (ZQ ZJ [1,1,3,3,3,3,3,1,3,3,3,3,3,0] (wMM (.fx 13 .nil .stop)) (by kernel_rfl) ?_))
          have bT:=dQ.drew
          generalize hw_W398:({ cH with drawn:=cH.drawn + 1 }:World)=iQ at bT ⊢
          have dL:=cS.le iA
          refine oL Z (bT.ldC (f:=0) dL (v:=.pointer (some ⟨ah,0,none⟩)) Z cP ZP Z) (oL Z (bT.ldB (j:=3) Z Z cQ zI (v:=jV (↑ab:Int)) Z) (oM Z Z (oR Z (zn Z Z) (oR Z (zG Z Z zW Z Zv) (oR Z (ZU Z Z Z Zh Zl (wAy aZ) (wAz aZ)) (oR Z (ZU Z Z Z ZR zC (wAy bt) (wAz bt)) ?_))))))
          have gZ:=Arr.at_ az.1 (k:=(ab * 8 + bb.toNat)) (by have hz0:=wAN aZ;have hz1:=wAN bt;omega)
          refine zi rfl rfl rfl rfl (bT.ldB (j:=0) rfl rfl ((rfl:ev _ _=.pointer (some ⟨ah,4 + ab * 8 + bb.toNat * 1,none⟩)).trans (wDA (by omega))) zI (wCz (n:=4) rfl (wGh (sz:=1) (fun _=>rfl) _ _ 0 _ gZ rfl))) rfl (zS rfl rfl rfl rfl (fun _=>Zp rfl rfl rfl) (zS rfl rfl rfl rfl (fun _=>zn rfl rfl) (zS rfl rfl rfl rfl (fun _=>zG rfl rfl zW rfl Zv) (zS rfl rfl rfl rfl (fun _=>ZU rfl rfl rfl Zh Zl (wAy aZ) (wAz aZ)) (zS rfl rfl rfl rfl (fun _=>ZU rfl rfl rfl ZR zC (wAy bt) (wAz bt)) ?_)))))
          have g7:=Arr.at_ az.1 (k:=(ab * 8 + bb.toNat)) (by have hz0:=wAN aZ;have hz1:=wAN bt;omega)
          refine zu (j:=0) (vs:=[jV (w64 ((az.1.get (ab * 8 + bb.toNat)) - 1))]) (cs':=[.slice ai p1.Bout.Shots.length aj,.slice ak p1.Bout.Down.length ap,.slice am p1.Bout.Across.length aq,.map (some ae)] ++ ((nA KL.encI (az.1.set (ab * 8 + bb.toNat) (w64 ((az.1.get (ab * 8 + bb.toNat)) - 1))).l) ++ ((nA KL.encI az.2.1.l) ++ (nA KL.encT az.2.2.l)))) rfl rfl rfl rfl bT rfl ((rfl:ev _ _=.pointer (some ⟨ah,4 + ab * 8 + bb.toNat * 1,none⟩)).trans (wDA (by omega))) rfl rfl zC (by have hz0:=wAN aZ;have hz1:=wAN bt;simp only [nO,nQ,nR,wAP (f:=KL.encI) (sz:=1) (N:=64) az.1 (fun _=>rfl) rfl,wAP (f:=KL.encI) (sz:=1) (N:=8) az.2.1 (fun _=>rfl) rfl,wAP (f:=KL.encT) (sz:=1) (N:=16) az.2.2 (fun _=>rfl) rfl];omega) rfl (wBs (n:=4) rfl (wIy (sz:=1) (fo:=0) (fun _=>rfl) _ _ _ _ g7 (zB rfl) rfl)) rfl ?_
          intro cI gg
          have gh:St bF bY [.blk ah 118 ([.slice ai p1.Bout.Shots.length aj,.slice ak p1.Bout.Down.length ap,.slice am p1.Bout.Across.length aq,.map (some ae)] ++ ((nA KL.encI (az.1.set (ab * 8 + bb.toNat) (w64 ((az.1.get (ab * 8 + bb.toNat)) - 1))).l) ++ ((nA KL.encI az.2.1.l) ++ (nA KL.encT az.2.2.l)))),.obj ae (.map au av),.obj bI bO,.blk bg 3 B2,B1,B0,mks bh] cI:=gg
          refine eN (zM (CK.fresh fun cz bV=>?_))
          have eW:cz 1=.pointer (some ⟨bq,0,none⟩):=(bV 1).trans cP
          have eY:cz 3=.pointer (some ⟨b6,0,none⟩):=(bV 3).trans dD
          have eZ:cz 4=.pointer (some ⟨br,0,none⟩):=(bV 4).trans eV
          have e8:cz 5=.pointer (some ⟨bg,0,none⟩):=(bV 5).trans cQ
          clear bV
          refine ZQ ZJ [1,1,1,3,3,3,3,1,3,3,3,3,3,0] (wMM (.fx 13 .nil .stop)) (by kernel_rfl) ?_
          have bM:=gh.drew
          generalize hw_W412:({ cI with drawn:=cI.drawn + 1 }:World)=iR at bM ⊢
          refine oL Z (bM.ldC (f:=0) dL (v:=.pointer (some ⟨ah,0,none⟩)) Z eW ZP Z) (oL Z (bM.ldB (j:=3) Z Z e8 zI (v:=jV (↑ab:Int)) Z) (oL Z (bM.ldB (j:=5) Z Z eY zI (v:=jV p0) Z) (oR Z (zn Z Z) (oR Z (zG Z Z zW Z Zv) (oR Z (ZU Z Z Z Zh Zl (wAy aZ) (wAz aZ)) (oR Z (ZU Z Z Z ZR zC (wAy bm) (wAz bm)) ?_))))))
          have g8:=Arr.at_ (az.1.set (ab * 8 + bb.toNat) (w64 ((az.1.get (ab * 8 + bb.toNat)) - 1))) (k:=(ab * 8 + p0.toNat)) (by have hz0:=wAN aZ;have hz1:=wAN bm;omega)
          refine zi rfl rfl rfl rfl (bM.ldB (j:=0) rfl rfl ((rfl:ev _ _=.pointer (some ⟨ah,4 + ab * 8 + p0.toNat * 1,none⟩)).trans (wDA (by omega))) zI (wCz (n:=4) rfl (wGh (sz:=1) (fun _=>rfl) _ _ 0 _ g8 rfl))) rfl (zS rfl rfl rfl rfl (fun _=>zh rfl rfl rfl) (zS rfl rfl rfl rfl (fun _=>zn rfl rfl) (zS rfl rfl rfl rfl (fun _=>zG rfl rfl zW rfl Zv) (zS rfl rfl rfl rfl (fun _=>ZU rfl rfl rfl Zh Zl (wAy aZ) (wAz aZ)) (zS rfl rfl rfl rfl (fun _=>ZU rfl rfl rfl ZR zC (wAy bm) (wAz bm)) ?_)))))
          have g9:=Arr.at_ (az.1.set (ab * 8 + bb.toNat) (w64 ((az.1.get (ab * 8 + bb.toNat)) - 1))) (k:=(ab * 8 + p0.toNat)) (by have hz0:=wAN aZ;have hz1:=wAN bm;omega)
          refine zu (j:=0) (vs:=[jV (w64 (((az.1.set (ab * 8 + bb.toNat) (w64 ((az.1.get (ab * 8 + bb.toNat)) - 1))).get (ab * 8 + p0.toNat)) + 1))]) (cs':=[.slice ai p1.Bout.Shots.length aj,.slice ak p1.Bout.Down.length ap,.slice am p1.Bout.Across.length aq,.map (some ae)] ++ ((nA KL.encI ((az.1.set (ab * 8 + bb.toNat) (w64 ((az.1.get (ab * 8 + bb.toNat)) - 1))).set (ab * 8 + p0.toNat) (w64 (((az.1.set (ab * 8 + bb.toNat) (w64 ((az.1.get (ab * 8 + bb.toNat)) - 1))).get (ab * 8 + p0.toNat)) + 1))).l) ++ ((nA KL.encI az.2.1.l) ++ (nA KL.encT az.2.2.l)))) rfl rfl rfl rfl bM rfl ((rfl:ev _ _=.pointer (some ⟨ah,4 + ab * 8 + p0.toNat * 1,none⟩)).trans (wDA (by omega))) rfl rfl zC (by have hz0:=wAN aZ;have hz1:=wAN bm;simp only [nO,nQ,nR,wAP (f:=KL.encI) (sz:=1) (N:=64) (az.1.set (ab * 8 + bb.toNat) (w64 ((az.1.get (ab * 8 + bb.toNat)) - 1))) (fun _=>rfl) rfl,wAP (f:=KL.encI) (sz:=1) (N:=8) az.2.1 (fun _=>rfl) rfl,wAP (f:=KL.encT) (sz:=1) (N:=16) az.2.2 (fun _=>rfl) rfl];omega) rfl (wBs (n:=4) rfl (wIy (sz:=1) (fo:=0) (fun _=>rfl) _ _ _ _ g9 (zB rfl) rfl)) rfl ?_
          intro eG gi
          have gj:St bF bY [.blk ah 118 ([.slice ai p1.Bout.Shots.length aj,.slice ak p1.Bout.Down.length ap,.slice am p1.Bout.Across.length aq,.map (some ae)] ++ ((nA KL.encI ((az.1.set (ab * 8 + bb.toNat) (w64 ((az.1.get (ab * 8 + bb.toNat)) - 1))).set (ab * 8 + p0.toNat) (w64 (((az.1.set (ab * 8 + bb.toNat) (w64 ((az.1.get (ab * 8 + bb.toNat)) - 1))).get (ab * 8 + p0.toNat)) + 1))).l) ++ ((nA KL.encI az.2.1.l) ++ (nA KL.encT az.2.2.l)))),.obj ae (.map au av),.obj bI bO,.blk bg 3 B2,B1,B0,mks bh] eG:=gi
          refine eN (sR (.fx 0 .nil .stop) Z (zu (j:=4) (vs:=[.bool true]) Z Z Z Z gj Z eZ Z Z Zr (zB Z) Z Z Z ?_))
          intro eH gm
          have gp:St bF bY [.blk ah 118 ([.slice ai p1.Bout.Shots.length aj,.slice ak p1.Bout.Down.length ap,.slice am p1.Bout.Across.length aq,.map (some ae)] ++ ((nA KL.encI ((az.1.set (ab * 8 + bb.toNat) (w64 ((az.1.get (ab * 8 + bb.toNat)) - 1))).set (ab * 8 + p0.toNat) (w64 (((az.1.set (ab * 8 + bb.toNat) (w64 ((az.1.get (ab * 8 + bb.toNat)) - 1))).get (ab * 8 + p0.toNat)) + 1))).l) ++ ((nA KL.encI az.2.1.l) ++ (nA KL.encT az.2.2.l)))),.obj ae (.map au av),.obj bI bO,.blk bg 3 B2,.blk br 4 [.bool true],B0,mks bh] eH:=gm
          refine eN (zX (zO ?_))
          have q:=nD io
          obtain rfl:=q
          exact ⟨_,_,(gp.pick [2,0,1,3,4,5,6] _ (by decide) rfl),rfl,rfl⟩
         ·intro cM ip
          refine ZB (congrArg nB (nE.2 cM.out)) (Zd (zq ?_))
          have q:=nD ip
          obtain rfl:=q
          exact ⟨_,_,(dQ.pick [2,0,1,3,4,5,6] _ (by decide) rfl),rfl,rfl⟩
        ·intro bv iq
         refine oF Z bv (oF Z bv (ZH Z Z Z (zJ Z Z (zy bv.out) Z) (oR Z (zf Z (zy bv.out) Z) (eN (ZB Z (Zd (zq ?_)))))))
         have q:=nD iq
         obtain rfl:=q
         exact ⟨_,_,bw,Z,Z⟩
      ·rintro bP bG iL b5 iB dR
       rcases eh with ⟨ei,ej,en⟩ | ⟨cu,cw,cx,eu⟩
       ·try dsimp only at cr
        rintro rfl
        have gu:SW w [.blk ah 118 ([.slice ai p1.Bout.Shots.length aj,.slice ak p1.Bout.Down.length ap,.slice am p1.Bout.Across.length aq,.map (some ae)] ++ ((nA KL.encI p1.hits.l) ++ ((nA KL.encI p1.used.l) ++ (nA KL.encT p1.met.l)))),.obj ae (.map au av)] U bG [.blk ah 118 ([.slice ai p1.Bout.Shots.length aj,.slice ak p1.Bout.Down.length ap,.slice am p1.Bout.Across.length aq,.map (some ae)] ++ ((nA KL.encI ei.l) ++ ((nA KL.encI ej.l) ++ (nA KL.encT en.l)))),.obj ae (.map au av),.blk bg 3 B2,B1,B0,mks bh,.obj bP (.deferred (some []))] b5:=dR
        have gv:SW w [.blk ah 118 ([.slice ai p1.Bout.Shots.length aj,.slice ak p1.Bout.Down.length ap,.slice am p1.Bout.Across.length aq,.map (some ae)] ++ ((nA KL.encI p1.hits.l) ++ ((nA KL.encI p1.used.l) ++ (nA KL.encT p1.met.l)))),.obj ae (.map au av)] U bG [mks (bP :: bh),.blk ah 118 ([.slice ai p1.Bout.Shots.length aj,.slice ak p1.Bout.Down.length ap,.slice am p1.Bout.Across.length aq,.map (some ae)] ++ ((nA KL.encI ei.l) ++ ((nA KL.encI ej.l) ++ (nA KL.encT en.l)))),.obj ae (.map au av),.blk bg 3 B2,B1,B0] b5:=(gu.pick [5,6,0,1,2,3,4] _ (by decide) rfl).mksAdd
        refine zq (zq (zQ (rR fL2 Z (oR Z (ZL (zh Z dC Z) (congrArg (jV) cX.out)) (oM Z Z (ZK ?_))))))
        have q:=nD cr
        obtain rfl:=q
        exact zQ ⟨_,rfl,⟨bG,(bP :: bh),rfl,rfl,dy,dz,dA,cO,dB,(((bE.trans bJ).trans bN).trans iB),(gv.pick [4,5,0,1,2] _ (by decide) rfl)⟩⟩
       ·try dsimp only at cr
        rintro rfl
        let B4:Res:=.blk br 4 [.bool eu]
        have gw:SW w [.blk ah 118 ([.slice ai p1.Bout.Shots.length aj,.slice ak p1.Bout.Down.length ap,.slice am p1.Bout.Across.length aq,.map (some ae)] ++ ((nA KL.encI p1.hits.l) ++ ((nA KL.encI p1.used.l) ++ (nA KL.encT p1.met.l)))),.obj ae (.map au av)] U bG [.blk ah 118 ([.slice ai p1.Bout.Shots.length aj,.slice ak p1.Bout.Down.length ap,.slice am p1.Bout.Across.length aq,.map (some ae)] ++ ((nA KL.encI cu.l) ++ ((nA KL.encI cw.l) ++ (nA KL.encT cx.l)))),.obj ae (.map au av),.blk bg 3 B2,B4,B0,mks bh,.obj bP (.deferred (some []))] b5:=dR
        have gx:SW w [.blk ah 118 ([.slice ai p1.Bout.Shots.length aj,.slice ak p1.Bout.Down.length ap,.slice am p1.Bout.Across.length aq,.map (some ae)] ++ ((nA KL.encI p1.hits.l) ++ ((nA KL.encI p1.used.l) ++ (nA KL.encT p1.met.l)))),.obj ae (.map au av)] U bG [mks (bP :: bh),.blk ah 118 ([.slice ai p1.Bout.Shots.length aj,.slice ak p1.Bout.Down.length ap,.slice am p1.Bout.Across.length aq,.map (some ae)] ++ ((nA KL.encI cu.l) ++ ((nA KL.encI cw.l) ++ (nA KL.encT cx.l)))),.obj ae (.map au av),.blk bg 3 B2,B4,B0] b5:=(gw.pick [5,6,0,1,2,3,4] _ (by decide) rfl).mksAdd
        refine zO (zO (zH ?_))
        have q:=wAS cr
        obtain ⟨iE,ir,eO⟩:=q
        have q:=wBI cq cj (dZ iE eO)
        obtain rfl:=q
        refine zH (zO (zH (wHF (by first | exact .inl rfl | exact .inr rfl) (rbs:=(bP :: bh)) (L:=[.blk ah 118 ([.slice ai p1.Bout.Shots.length aj,.slice ak p1.Bout.Down.length ap,.slice am p1.Bout.Across.length aq,.map (some ae)] ++ ((nA KL.encI cu.l) ++ ((nA KL.encI cw.l) ++ (nA KL.encT cx.l)))),.obj ae (.map au av),.blk bg 3 B2,B4,B0]) gx fun eI gy=>?_)))
        have dS:SW w [.blk ah 118 ([.slice ai p1.Bout.Shots.length aj,.slice ak p1.Bout.Down.length ap,.slice am p1.Bout.Across.length aq,.map (some ae)] ++ ((nA KL.encI p1.hits.l) ++ ((nA KL.encI p1.used.l) ++ (nA KL.encT p1.met.l)))),.obj ae (.map au av)] U bG [.blk ah 118 ([.slice ai p1.Bout.Shots.length aj,.slice ak p1.Bout.Down.length ap,.slice am p1.Bout.Across.length aq,.map (some ae)] ++ ((nA KL.encI cu.l) ++ ((nA KL.encI cw.l) ++ (nA KL.encT cx.l)))),.obj ae (.map au av),.blk bg 3 B2,B4,B0] eI:=gy
        cases ir
        exact ⟨_,(wII (v:=.bool eu) ⟨⟨_,cO,(wOH Tryz.isAgg4 (dS.blkAt (k:=3) rfl) rfl)⟩,trivial⟩),bG,_,(dS.pick [0,1] _ (by decide) rfl),rfl,rfl⟩
    ·intro cN it
     refine zx (nF (cN.out)) (Ze (zw (ZW (zQ (rR fL2 Z (oR Z (ZL (zh Z bR Z) (congrArg (jV) cX.out)) (oM Z Z (ZK ?_))))))))
     have q:=nD it
     obtain rfl:=q
     exact zQ ⟨_,rfl,⟨bu,bh,rfl,rfl,bs,cR,bQ,b9,cd,(bE.trans bJ),(dU.pick [3,4,5,0,1] _ (by decide) rfl)⟩⟩
  ·rintro ⟨db,de,df⟩ D_ jj iU ⟨cB,ef,rfl,fb,i3,i4,i5,dE,e9,i7,gz⟩ gN
   have ec:=wDp cq cj gN
   try dsimp only at ec
   have eL:Hid (¬ ((↑(((↑p1.Bout.Shots.length:Int):Int) - 0).toNat:Int) < (↑p1.Bout.Shots.length:Int))):=zL (wBf)
   refine sR fL1 Z (oR Z (zl Z fb e9) (eN (zM (cF Z eL (Ze (zw (zw (ZW (zQ (sR (.fx 0 .nil .stop) Z (zu (j:=0) (vs:=[.bool false]) Z Z Z Z gz Z dE Z Z Zr (zB Z) Z Z Z ?_)))))))))))
   intro eJ gA
   have gB:SW w [.blk ah 118 ([.slice ai p1.Bout.Shots.length aj,.slice ak p1.Bout.Down.length ap,.slice am p1.Bout.Across.length aq,.map (some ae)] ++ ((nA KL.encI p1.hits.l) ++ ((nA KL.encI p1.used.l) ++ (nA KL.encT p1.met.l)))),.obj ae (.map au av)] U cB [B1,B0,mks ef,.blk ah 118 ([.slice ai p1.Bout.Shots.length aj,.slice ak p1.Bout.Down.length ap,.slice am p1.Bout.Across.length aq,.map (some ae)] ++ ((nA KL.encI db.l) ++ ((nA KL.encI de.l) ++ (nA KL.encT df.l)))),.obj ae (.map au av)] eJ:=gA
   refine eN (zX (wHF (by first | exact .inl rfl | exact .inr rfl) (rbs:=ef) (L:=[B1,B0,.blk ah 118 ([.slice ai p1.Bout.Shots.length aj,.slice ak p1.Bout.Down.length ap,.slice am p1.Bout.Across.length aq,.map (some ae)] ++ ((nA KL.encI db.l) ++ ((nA KL.encI de.l) ++ (nA KL.encT df.l)))),.obj ae (.map au av)]) (gB.pick [2,0,1,3,4] _ (by decide) rfl) fun eK gC=>?_))
   have dT:SW w [.blk ah 118 ([.slice ai p1.Bout.Shots.length aj,.slice ak p1.Bout.Down.length ap,.slice am p1.Bout.Across.length aq,.map (some ae)] ++ ((nA KL.encI p1.hits.l) ++ ((nA KL.encI p1.used.l) ++ (nA KL.encT p1.met.l)))),.obj ae (.map au av)] U cB [B1,B0,.blk ah 118 ([.slice ai p1.Bout.Shots.length aj,.slice ak p1.Bout.Down.length ap,.slice am p1.Bout.Across.length aq,.map (some ae)] ++ ((nA KL.encI db.l) ++ ((nA KL.encI de.l) ++ (nA KL.encT df.l)))),.obj ae (.map au av)] eK:=gC
   cases ec
   exact ⟨_,(wII (v:=.bool false) ⟨⟨_,dE,(wOH Tryz.isAgg4 (dT.blkAt (k:=0) rfl) rfl)⟩,trivial⟩),cB,_,(dT.pick [2,3] _ (by decide) rfl),rfl,rfl⟩
end Go.Proofs.YtfcmijinklojbaaGreat
namespace Go.Proofs.YtfcmijinklojbaaGreat
open Go.KL
set_option maxHeartbeats 4000000
theorem wEH (p0:wAF) (ah:Nat) (ak:Option Addr) (ap:Nat) (ai:Option Addr) (aj:Nat) (am:Option Addr) (aq:Nat) (ab:Nat) (au:Array MapEntry) (av:Nat) (w:World) (U:PHeap) (hS:St0 w U [.blk ah 118 ([.slice ak p0.Bout.Shots.length ap,.slice ai p0.Bout.Down.length aj,.slice am p0.Bout.Across.length aq,.map (some ab)] ++ ((nA KL.encI p0.hits.l) ++ ((nA KL.encI p0.used.l) ++ (nA KL.encT p0.met.l)))),.obj ab (.map au av)]) (bZ:Sl U 1 ak ap p0.Bout.Shots.length (nA KL.encI p0.Bout.Shots)) (b5:Sl U 1 ai aj p0.Bout.Down.length (nA KL.encI p0.Bout.Down)) (b9:Sl U 2 am aq p0.Bout.Across.length (nA wAB p0.Bout.Across)) (cd:MpR au wDI wDZ p0.may) {r:(List Int)} (hm:wAq p0=some r):Gv Tryz.prog 102 [.pointer (some ⟨ah,0,none⟩)] w (wCe w [.blk ah 118 ([.slice ak p0.Bout.Shots.length ap,.slice ai p0.Bout.Down.length aj,.slice am p0.Bout.Across.length aq,.map (some ab)] ++ ((nA KL.encI p0.hits.l) ++ ((nA KL.encI p0.used.l) ++ (nA KL.encT p0.met.l)))),.obj ab (.map au av)] U (fun U_ L_ v=>∃ (A0:Option Addr) (c0:Nat),v=.slice A0 r.length c0/\L_=[.row A0 c0 3 1 (nA KL.encI r),.blk ah 118 ([.slice ak p0.Bout.Shots.length ap,.slice ai p0.Bout.Down.length aj,.slice am p0.Bout.Across.length aq,.map (some ab)] ++ ((nA KL.encI p0.hits.l) ++ ((nA KL.encI p0.used.l) ++ (nA KL.encT p0.met.l)))),.obj ab (.map au av)])):=by
 unfold wAq at hm
 refine Gv.of Tryz.func102 Z Tryz.ntmps102 Tryz.results102 Z (sR fL1 Z (oA Z Z (eN (sR fL1 Z (oA Z Z (eN (zM (sR fL7 Z (oM Z Z (oR Z (zn Z Z) (oR Z (zG Z Z zW Z ze) (oR Z (zG Z Z zF Z zR) (oL Z (hS.ldB (j:=0) Z Z Z zZ (v:=.slice ai p0.Bout.Down.length aj) Z) (oR Z (Za Z Z zA) (oM Z Z (eN (zk (bnK hm fun cj bN bQ=>?_))))))))))))))))))
 have q:=wCk bN
 obtain ⟨bk,bO⟩:=q
 replace bk:=zL bk
 refine CK.forN' (fun ae aZ σ_ w_=>∃ (U_:PHeap) (az:Option Addr) (aY:Nat),σ_ 11=jV (↑ae:Int)/\σ_ 0=.pointer (some ⟨ah,0,none⟩)/\σ_ 3=.slice az aZ.length aY/\σ_ 10=jV (↑p0.Bout.Down.length:Int)/\PHeap.Le U U_/\SW w [.blk ah 118 ([.slice ak p0.Bout.Shots.length ap,.slice ai p0.Bout.Down.length aj,.slice am p0.Bout.Across.length aq,.map (some ab)] ++ ((nA KL.encI p0.hits.l) ++ ((nA KL.encI p0.used.l) ++ (nA KL.encT p0.met.l)))),.obj ab (.map au av)] U U_ [.blk ah 118 ([.slice ak p0.Bout.Shots.length ap,.slice ai p0.Bout.Down.length aj,.slice am p0.Bout.Across.length aq,.map (some ab)] ++ ((nA KL.encI p0.hits.l) ++ ((nA KL.encI p0.used.l) ++ (nA KL.encT p0.met.l)))),.obj ab (.map au av),.row az aY 3 1 (nA KL.encI aZ)] w_) bO ?_ ?_ ?_
 have bI:=hS.nilrow 3 1
 exact ⟨U,none,0,rfl,rfl,rfl,rfl,(zY _),(bI.pick [1,2,0] _ (by decide) rfl)⟩
 rintro ae aZ ci cn bW bj ⟨ba,az,aY,bb,bf,br,bg,bu,bi⟩ bV
 have bp:Hid ((↑ae:Int) < (↑p0.Bout.Down.length:Int)):=zL (wCI bj)
 replace bj:=zL bj
 have bt:Hid (w64 ((↑ae:Int) + 1)=(↑(ae + 1):Int)):=zL (by have h1:=bk.out;have h2:=bp.out;rw [wAf] <;> omega)
 refine sR fL1 rfl (zS rfl rfl rfl rfl (fun _=>zl rfl bb bg) (eN (zM (cT Z bp (kN (zM (zk (sR fL2 rfl (zz rfl rfl rfl rfl rfl bb (OKS.ra rfl rfl rfl rfl rfl rfl (eN (sR fL7 rfl (zz rfl rfl rfl rfl rfl bf (zz rfl rfl rfl rfl rfl rfl (zS rfl rfl rfl rfl (fun _=>zn rfl rfl) (zS rfl rfl rfl rfl (fun _=>zG rfl rfl zW rfl Tryz.sizeOf116) (zS rfl rfl rfl rfl (fun _=>ZL (ZU rfl rfl rfl Zt Tryz.sizeOf115 (by decide) (by decide)) rfl) (bnK bV fun _ bh bR=>zS rfl rfl rfl rfl (fun _=>ZU rfl rfl rfl Tryz.runUnderlying115 Zr (wAy bh) (wAz bh)) ?_))))))))))))))))))
 have bP:=Arr.at_ p0.met (k:=(8 + ae)) (by have hz0:=wAN bh;omega)
 refine zi rfl rfl rfl rfl (bi.ldB (j:=0) rfl rfl ((rfl:ev _ _=.pointer (some ⟨ah,84 + ae * 1,none⟩)).trans (wDA (by omega))) Tryz.isAgg4 (wCz (n:=4) rfl (wCz (n:=64) (wAP (f:=KL.encI) (sz:=1) (N:=64) p0.hits (fun _=>rfl) rfl) (wCz (n:=8) (wAP (f:=KL.encI) (sz:=1) (N:=8) p0.used (fun _=>rfl) rfl) (wPk (sz:=1) (fun _=>rfl) _ _ 0 _ bP rfl))))) rfl (eN (ifc bR ?_ ?_))
 intro be bS
 refine zx (congrArg nB be.out) (rR gAu Z (oM Z br (oM Z Z (zo (pv:=[(0,jV (↑ae:Int))]) (zs:=[jV 0]) (cs:=[jV (↑ae:Int)]) Z Z Z Z Z (wAK Z wAa) zA zC zm Z Z Z Z Z bi ?_))))
 intro bz bB bJ
 let B0:Res:=.row (some ⟨bB,0,none⟩) 1 3 1 (nA KL.encI [(↑ae:Int)])
 have bs:SW w [.blk ah 118 ([.slice ak p0.Bout.Shots.length ap,.slice ai p0.Bout.Down.length aj,.slice am p0.Bout.Across.length aq,.map (some ab)] ++ ((nA KL.encI p0.hits.l) ++ ((nA KL.encI p0.used.l) ++ (nA KL.encT p0.met.l)))),.obj ab (.map au av)] U ba [B0,.blk ah 118 ([.slice ak p0.Bout.Shots.length ap,.slice ai p0.Bout.Down.length aj,.slice am p0.Bout.Across.length aq,.map (some ab)] ++ ((nA KL.encI p0.hits.l) ++ ((nA KL.encI p0.used.l) ++ (nA KL.encT p0.met.l)))),.obj ab (.map au av),.row az aY 3 1 (nA KL.encI aZ)] bz:=bJ
 refine bnK bS fun x53 bH bT=>ZX (j:=3) (enc:=KL.encI) (xs:=aZ) (ys:=[(↑ae:Int)]) (zs:=x53) rfl rfl rfl rfl rfl ZE wDl rfl rfl rfl rfl rfl rfl bs rfl rfl rfl (bs.srcR (j:=0) rfl (by decide) (wAD (f:=KL.encI) (sz:=1) (fun _=>rfl) [(↑ae:Int)])) (fun _=>rfl) (fun _=>rfl) bH rfl ?_
 intro bm bq bA bK
 have bL:SW w [.blk ah 118 ([.slice ak p0.Bout.Shots.length ap,.slice ai p0.Bout.Down.length aj,.slice am p0.Bout.Across.length aq,.map (some ab)] ++ ((nA KL.encI p0.hits.l) ++ ((nA KL.encI p0.used.l) ++ (nA KL.encT p0.met.l)))),.obj ab (.map au av)] U ba [B0,.blk ah 118 ([.slice ak p0.Bout.Shots.length ap,.slice ai p0.Bout.Down.length aj,.slice am p0.Bout.Across.length aq,.map (some ab)] ++ ((nA KL.encI p0.hits.l) ++ ((nA KL.encI p0.used.l) ++ (nA KL.encT p0.met.l)))),.obj ab (.map au av),.row bm bq 3 1 (nA KL.encI x53)] bA:=bK
 refine oA Z Z (ZK (zq (zQ (rR fL2 Z (oR Z (ZL (zh Z bb Z) (congrArg (jV) bt.out)) (oM Z Z (ZK ?_)))))))
 cases bT
 exact zQ ⟨rfl,⟨ba,bm,bq,rfl,bf,rfl,bg,bu,(bL.pick [1,2,3] _ (by decide) rfl)⟩⟩
 intro be bU
 refine ZB (congrArg nB (nE.2 be.out)) (Zd (zq (zQ (rR fL2 Z (oR Z (ZL (zh Z bb Z) (congrArg (jV) bt.out)) (oM Z Z (ZK ?_)))))))
 cases bU
 exact zQ ⟨Z,⟨ba,az,aY,Z,bf,br,bg,bu,bi⟩⟩
 rintro cp bX ⟨bw,bv,bC,bG,bY,bE,bF,cg,bM⟩
 have bD:Hid (¬ ((↑(((↑p0.Bout.Down.length:Int):Int) - 0).toNat:Int) < (↑p0.Bout.Down.length:Int))):=zL (wBf)
 refine sR fL1 Z (oR Z (zl Z bG bF) (eN (zM (cF Z bD (Ze (zw (zw (ZW (zQ (sR fL2 Z (oM Z bE (oA Z Z (eN (zX ?_))))))))))))))
 have hE:=nD bQ;first | subst r | cases hE
 exact ⟨rfl,_,(ZA rfl),bw,_,(bM.pick [2,0,1] _ (by decide) rfl),bv,bC,rfl,rfl⟩
theorem wCt (p0:wAF) (ah:Nat) (aj:Option Addr) (am:Nat) (ae:Option Addr) (ai:Nat) (ak:Option Addr) (ap:Nat) (ab:Nat) (aq:Array MapEntry) (au:Nat) (w:World) (U:PHeap) (hS:St0 w U [.blk ah 118 ([.slice aj p0.Bout.Shots.length am,.slice ae p0.Bout.Down.length ai,.slice ak p0.Bout.Across.length ap,.map (some ab)] ++ ((nA KL.encI p0.hits.l) ++ ((nA KL.encI p0.used.l) ++ (nA KL.encT p0.met.l)))),.obj ab (.map aq au)]) (dR:Sl U 1 aj am p0.Bout.Shots.length (nA KL.encI p0.Bout.Shots)) (dS:Sl U 1 ae ai p0.Bout.Down.length (nA KL.encI p0.Bout.Down)) (dT:Sl U 2 ak ap p0.Bout.Across.length (nA wAB p0.Bout.Across)) (cw:MpR aq wDI wDZ p0.may) {r:(List Int) × (Arr Int 64 × Arr Int 8 × Arr Bool 16)} (hm:wAk p0=some r):Gv Tryz.prog 67 [.pointer (some ⟨ah,0,none⟩)] w (wCe w [.blk ah 118 ([.slice aj p0.Bout.Shots.length am,.slice ae p0.Bout.Down.length ai,.slice ak p0.Bout.Across.length ap,.map (some ab)] ++ ((nA KL.encI p0.hits.l) ++ ((nA KL.encI p0.used.l) ++ (nA KL.encT p0.met.l)))),.obj ab (.map aq au)] U (fun U_ L_ v=>∃ (A0:Option Addr) (c0:Nat),v=.slice A0 r.1.length c0/\L_=[.row A0 c0 3 1 (nA KL.encI r.1),.blk ah 118 ([.slice aj p0.Bout.Shots.length am,.slice ae p0.Bout.Down.length ai,.slice ak p0.Bout.Across.length ap,.map (some ab)] ++ ((nA KL.encI r.2.1.l) ++ ((nA KL.encI r.2.2.1.l) ++ (nA KL.encT r.2.2.2.l)))),.obj ab (.map aq au)]/\(r.1=[]->A0=none))):=by
 unfold wAk at hm
 refine Gv.of Tryz.func67 Z Tryz.ntmps67 Tryz.results67 Z (sR gAg Z ?_)
 let B0:List Value:=[.pointer (some ⟨ah,0,none⟩)]
 refine Zc (cs:=B0) rfl rfl rfl rfl rfl rfl (by rfl) hS ?_
 intro W3 b4 dQ
 have q:=dQ.freeze (k:=0) rfl
 obtain ⟨U7,bH,be,dD⟩:=q
 replace be:=Cl.of be
 have dE:SW w [.blk ah 118 ([.slice aj p0.Bout.Shots.length am,.slice ae p0.Bout.Down.length ai,.slice ak p0.Bout.Across.length ap,.map (some ab)] ++ ((nA KL.encI p0.hits.l) ++ ((nA KL.encI p0.used.l) ++ (nA KL.encT p0.met.l)))),.obj ab (.map aq au)] U U7 [.blk ah 118 ([.slice aj p0.Bout.Shots.length am,.slice ae p0.Bout.Down.length ai,.slice ak p0.Bout.Across.length ap,.map (some ab)] ++ ((nA KL.encI p0.hits.l) ++ ((nA KL.encI p0.used.l) ++ (nA KL.encT p0.met.l)))),.obj ab (.map aq au)] W3:=dD
 replace be:Cl U7 b4 0 B0:=be
 refine oA Z Z (eN (sR (.fx 0 .nil .stop) Z (ZF (cs:=[.nilFunc]) Z Z Z Z Z Tryz.zeroValue98 Z dE ?_)))
 intro eA ba dH
 refine eN (sR gAi Z (oR Z (Runs.mkf Z zV (zD Z (zD Z zV))) ?_))
 let B1:List Value:=[.func (.func 100) #[] #[.pointer (some ⟨b4,0,none⟩),.pointer (some ⟨ba,0,none⟩)]]
 refine zu (j:=0) (vs:=B1) Z Z Z Z dH Z Z Z Z Tryz.sizeOf98 (zB Z) Z Z Z ?_
 intro bP dK
 have bz:SW w [.blk ah 118 ([.slice aj p0.Bout.Shots.length am,.slice ae p0.Bout.Down.length ai,.slice ak p0.Bout.Across.length ap,.map (some ab)] ++ ((nA KL.encI p0.hits.l) ++ ((nA KL.encI p0.used.l) ++ (nA KL.encT p0.met.l)))),.obj ab (.map aq au)] U U7 [.blk ba 98 B1,.blk ah 118 ([.slice aj p0.Bout.Shots.length am,.slice ae p0.Bout.Down.length ai,.slice ak p0.Bout.Across.length ap,.map (some ab)] ++ ((nA KL.encI p0.hits.l) ++ ((nA KL.encI p0.used.l) ++ (nA KL.encT p0.met.l)))),.obj ab (.map aq au)] bP:=dK
 refine eN (zM (sR fL7 Z (oL Z (bz.ldC (f:=0) be (v:=.pointer (some ⟨ah,0,none⟩)) Z Z ZP Z) (oR Z (zn Z Z) (oR Z (zG Z Z zW Z ze) (oR Z (zG Z Z zF Z zR) (oL Z (bz.ldB (j:=1) Z Z Z zZ (v:=.slice ae p0.Bout.Down.length ai) Z) (oR Z (Za Z Z zA) (oM Z Z (eN (zk ?_)))))))))))
 have q:=bz.freeze (k:=0) rfl
 obtain ⟨bl,bo,bh,dO⟩:=q
 replace bh:=Cl.of bh
 have dP:SW w [.blk ah 118 ([.slice aj p0.Bout.Shots.length am,.slice ae p0.Bout.Down.length ai,.slice ak p0.Bout.Across.length ap,.map (some ab)] ++ ((nA KL.encI p0.hits.l) ++ ((nA KL.encI p0.used.l) ++ (nA KL.encT p0.met.l)))),.obj ab (.map aq au)] U bl [.blk ah 118 ([.slice aj p0.Bout.Shots.length am,.slice ae p0.Bout.Down.length ai,.slice ak p0.Bout.Across.length ap,.map (some ab)] ++ ((nA KL.encI p0.hits.l) ++ ((nA KL.encI p0.used.l) ++ (nA KL.encT p0.met.l)))),.obj ab (.map aq au)] bP:=dO
 replace bh:Cl bl ba 0 B1:=bh
 have q:=wCo hm
 obtain ⟨eQ,bA⟩:=q
 have q:=wCn bA
 obtain ⟨bE,dY⟩:=q
 replace bE:=zL bE
 refine CK.forN (fun az (bQ,bR,bS) σ_ w_=>∃ (U_:PHeap),σ_ 13=jV (↑az:Int)/\σ_ 1=.pointer (some ⟨b4,0,none⟩)/\σ_ 3=.pointer (some ⟨ba,0,none⟩)/\σ_ 11=.slice ae p0.Bout.Down.length ai/\σ_ 12=jV (↑p0.Bout.Down.length:Int)/\PHeap.Le bl U_/\SW w [.blk ah 118 ([.slice aj p0.Bout.Shots.length am,.slice ae p0.Bout.Down.length ai,.slice ak p0.Bout.Across.length ap,.map (some ab)] ++ ((nA KL.encI p0.hits.l) ++ ((nA KL.encI p0.used.l) ++ (nA KL.encT p0.met.l)))),.obj ab (.map aq au)] U U_ [.blk ah 118 ([.slice aj p0.Bout.Shots.length am,.slice ae p0.Bout.Down.length ai,.slice ak p0.Bout.Across.length ap,.map (some ab)] ++ ((nA KL.encI bQ.l) ++ ((nA KL.encI bR.l) ++ (nA KL.encT bS.l)))),.obj ab (.map aq au)] w_) dY ?_ ?_ ?_
 exact ⟨bl,Z,Z,Z,Z,Z,(zY _),dP⟩
 rintro az ⟨bQ,bR,bS⟩ eY fj eE bC ⟨bL,bn,cW,cX,b5,b9,bf,ct⟩ cA dW
 try dsimp only at cA
 have bW:Hid ((↑az:Int) < (↑p0.Bout.Down.length:Int)):=zL (wCI bC)
 replace bC:=zL bC
 have d8:Hid (w64 ((↑az:Int) + 1)=(↑(az + 1):Int)):=zL (by have h1:=bE.out;have h2:=bW.out;rw [wAf] <;> omega)
 refine sR fL1 Z (oR Z (zl Z bn b9) (eN (zM (cT Z bW (kN (zM (zk (sR fL5 Z (oM Z bn (bnK cA fun bk cp bG=>?_))))))))))
 have dz:=dS.le bH
 have dA:=dz.le bo
 have cq:=dA.le bf
 have q:=cq.el (fun _=>rfl) (wCE cp)
 obtain ⟨eH,eP,dB,dC⟩:=q
 refine oR Z (Zm Z b5 dB bn zA zC (wFH cp)) (oL Z (ct.ldC (f:=0) dC (v:=jV bk) Z Z zI Z) (oA Z Z (oA Z Z (eN (sR fL2 Z (oM Z Z (oM Z Z (eN (zk ?_)))))))))
 have q:=wCo bG
 obtain ⟨eR,bB⟩:=q
 have q:=wCn bB
 obtain ⟨bF,dZ⟩:=q
 replace bF:=zL bF
 refine CK.forN (fun bi (aY,aZ,bm) σ_ w_=>∃ (U_:PHeap),σ_ 19=jV (↑bi:Int)/\σ_ 1=.pointer (some ⟨b4,0,none⟩)/\σ_ 3=.pointer (some ⟨ba,0,none⟩)/\σ_ 4=jV (↑az:Int)/\σ_ 11=.slice ae p0.Bout.Down.length ai/\σ_ 12=jV (↑p0.Bout.Down.length:Int)/\σ_ 13=jV (↑az:Int)/\σ_ 18=jV bk/\PHeap.Le bL U_/\SW w [.blk ah 118 ([.slice aj p0.Bout.Shots.length am,.slice ae p0.Bout.Down.length ai,.slice ak p0.Bout.Across.length ap,.map (some ab)] ++ ((nA KL.encI p0.hits.l) ++ ((nA KL.encI p0.used.l) ++ (nA KL.encT p0.met.l)))),.obj ab (.map aq au)] U U_ [.blk ah 118 ([.slice aj p0.Bout.Shots.length am,.slice ae p0.Bout.Down.length ai,.slice ak p0.Bout.Across.length ap,.map (some ab)] ++ ((nA KL.encI aY.l) ++ ((nA KL.encI aZ.l) ++ (nA KL.encT bm.l)))),.obj ab (.map aq au)] w_) dZ ?_ ?_ ?_
 exact ⟨bL,Z,cW,cX,Z,b5,b9,bn,Z,(zY _),ct⟩
 rintro bi ⟨aY,aZ,bm⟩ eZ fm eG bD ⟨bM,cd,bu,bX,bY,cL,cM,cN,bZ,bg,cu⟩ cB dX
 try dsimp only at cB
 have bU:Hid ((↑bi:Int) < bk):=zL (wCI bD)
 replace bD:=zL bD
 have d7:Hid (w64 ((↑bi:Int) + 1)=(↑(bi + 1):Int)):=zL (by have h1:=bF.out;have h2:=bU.out;rw [wAf] <;> omega)
 refine sR fL1 Z (oR Z (zl Z cd bZ) (eN (zM (cT Z bU (kN (zM (zk (sR (wIs (.fx 4 .nil .stop)) Z ?_))))))))
 have da:=be.le bo
 have db:=da.le bf
 have bv:=db.le bg
 refine zi rfl rfl rfl rfl (cu.ldC (f:=0) bv (v:=.pointer (some ⟨ah,0,none⟩)) rfl bu ZP rfl) rfl (zS rfl rfl rfl rfl (fun _=>zn rfl rfl) (zS rfl rfl rfl rfl (fun _=>zG rfl rfl zW rfl Tryz.sizeOf116) (zS rfl rfl rfl rfl (fun _=>Runs.slA rfl rfl Zt Tryz.sizeOf115) (OKS.clearB (j:=0) (off:=76) (vs:=nA KL.encT (Arr.fill 16 false).l) (cs':=[.slice aj p0.Bout.Shots.length am,.slice ae p0.Bout.Down.length ai,.slice ak p0.Bout.Across.length ap,.map (some ab)] ++ ((nA KL.encI aY.l) ++ ((nA KL.encI aZ.l) ++ (nA KL.encT (Arr.fill 16 false).l)))) rfl rfl rfl rfl cu rfl rfl Tryz.runUnderlying161 Tryz.zeroValue115 (by kernel_rfl) (by simp only [nO,nQ,nR,wAP (f:=KL.encI) (sz:=1) (N:=64) aY (fun _=>rfl) rfl,wAP (f:=KL.encI) (sz:=1) (N:=8) aZ (fun _=>rfl) rfl,wAP (f:=KL.encT) (sz:=1) (N:=16) bm (fun _=>rfl) rfl,wAP (f:=KL.encT) (sz:=1) (N:=16) (Arr.fill 16 false) (fun _=>rfl) rfl];omega) (wHd (fun _=>rfl) _) (wBs (n:=4) rfl (wBs (n:=64) (wAP (f:=KL.encI) (sz:=1) (N:=64) aY (fun _=>rfl) rfl) (wBs (n:=8) (wAP (f:=KL.encI) (sz:=1) (N:=8) aZ (fun _=>rfl) rfl) (wMa _ _ (by rw [wAP (f:=KL.encT) (sz:=1) (N:=16) (Arr.fill 16 false) (fun _=>rfl) rfl,wAP (f:=KL.encT) (sz:=1) (N:=16) bm (fun _=>rfl) rfl]))))) rfl ?_))))
 intro bN dF
 have cr:SW w [.blk ah 118 ([.slice aj p0.Bout.Shots.length am,.slice ae p0.Bout.Down.length ai,.slice ak p0.Bout.Across.length ap,.map (some ab)] ++ ((nA KL.encI p0.hits.l) ++ ((nA KL.encI p0.used.l) ++ (nA KL.encT p0.met.l)))),.obj ab (.map aq au)] U bM [.blk ah 118 ([.slice aj p0.Bout.Shots.length am,.slice ae p0.Bout.Down.length ai,.slice ak p0.Bout.Across.length ap,.map (some ab)] ++ ((nA KL.encI aY.l) ++ ((nA KL.encI aZ.l) ++ (nA KL.encT (Arr.fill 16 false).l)))),.obj ab (.map aq au)] bN:=dF
 refine eN (sR gAq Z ?_)
 have de:=bh.le bf
 have cg:=de.le bg
 refine oL Z (cr.ldC (f:=0) cg (v:=.func (.func 100) #[] #[.pointer (some ⟨b4,0,none⟩),.pointer (some ⟨ba,0,none⟩)]) Z bX Tryz.isAgg98 Z) (oM Z bY ?_)
 have df:=dR.le bH
 have dg:=df.le bo
 have dh:=dg.le bf
 have ci:=dh.le bg
 have cj:=cq.le bg
 have dm:=dT.le bH
 have dp:=dm.le bo
 have dq:=dp.le bf
 have cn:=dq.le bg
 have q:=bnd cB
 obtain ⟨⟨eV,av⟩,dr,cx⟩:=q
 try dsimp only at cx
 refine zP 2 Z Z Z Z (zN Z Z Tryz.call100 (zD Z zV) Z) cr (fun hs=>wDz 1000 (↑az:Int) (⟨p0.Bout,p0.may,aY,aZ,(Arr.fill 16 false)⟩:wAF) b4 ah aj am ae ai ak ap ab aq au () ba bN bM hs bv ci cj cn cw cg dr) (.inl Z) ?_
 rintro br ey eT bO bj dG ⟨rfl,rfl⟩
 have bw:SW w [.blk ah 118 ([.slice aj p0.Bout.Shots.length am,.slice ae p0.Bout.Down.length ai,.slice ak p0.Bout.Across.length ap,.map (some ab)] ++ ((nA KL.encI p0.hits.l) ++ ((nA KL.encI p0.used.l) ++ (nA KL.encT p0.met.l)))),.obj ab (.map aq au)] U br [.blk ah 118 ([.slice aj p0.Bout.Shots.length am,.slice ae p0.Bout.Down.length ai,.slice ak p0.Bout.Across.length ap,.map (some ab)] ++ ((nA KL.encI av.1.l) ++ ((nA KL.encI av.2.1.l) ++ (nA KL.encT av.2.2.l)))),.obj ab (.map aq au)] bO:=dG
 refine oR Z (ZO Z Z) (eN (ifc cx ?_ ?_))
 intro bt d9
 refine ZB (nC bt.out) (Zd (zq (zQ (rR fL2 Z (oR Z (ZL (zh Z cd Z) (congrArg (jV) d7.out)) (oM Z Z (ZK ?_)))))))
 have q:=nD d9
 obtain rfl:=q
 exact zQ ⟨Z,_,Z,⟨br,Z,bu,bX,bY,cL,cM,cN,bZ,(bg.trans bj),bw⟩⟩
 intro bt eb
 refine zx (nF (bt.out)) (sR gAm Z ?_)
 have dt:=bv.le bj
 refine oL Z (bw.ldC (f:=0) dt (v:=.pointer (some ⟨ah,0,none⟩)) Z bu ZP Z) ?_
 have du:=ci.le bj
 have dv:=cj.le bj
 have dw:=cn.le bj
 refine bnK eb fun eu dx ec=>zP 2 Z Z Z Z (zN Z Z Tryz.call102 (zD Z zV) Z) bw (fun hs=>wEH (⟨p0.Bout,p0.may,av.1,av.2.1,av.2.2⟩:wAF) ah aj am ae ai ak ap ab aq au bO br hs du dv dw cw dx) (.inl Z) ?_
 rintro bK ez eU cE eM dI ⟨bI,bV,rfl,rfl⟩
 have dJ:SW w [.blk ah 118 ([.slice aj p0.Bout.Shots.length am,.slice ae p0.Bout.Down.length ai,.slice ak p0.Bout.Across.length ap,.map (some ab)] ++ ((nA KL.encI p0.hits.l) ++ ((nA KL.encI p0.used.l) ++ (nA KL.encT p0.met.l)))),.obj ab (.map aq au)] U bK [.row bI bV 3 1 (nA KL.encI eu),.blk ah 118 ([.slice aj p0.Bout.Shots.length am,.slice ae p0.Bout.Down.length ai,.slice ak p0.Bout.Across.length ap,.map (some ab)] ++ ((nA KL.encI av.1.l) ++ ((nA KL.encI av.2.1.l) ++ (nA KL.encT av.2.2.l)))),.obj ab (.map aq au)] cE:=dI
 refine oA Z Z (eN (zX (zO (zH ?_))))
 have q:=wAS ec
 obtain ⟨ej,ed,cJ⟩:=q
 have q:=wBI bG bB (dX ej cJ)
 obtain rfl:=q
 refine zH (zO (zO (zH ?_)))
 have q:=wAS ed
 obtain ⟨en,ef,cK⟩:=q
 have q:=wBI hm bA (dW en cK)
 obtain rfl:=q
 refine zH (zO (zH (bnK ef fun eW dy eh=>?_)))
 cases eh
 exact ⟨Z,_,(ZA Z),bK,_,dJ,bI,bV,Z,Z,(fun h=>absurd h (wMf dy))⟩
 rintro ⟨e8,e9,fb⟩ fg eC ⟨cC,cY,cO,cP,eI,cQ,cR,cS,cU,ei,dL⟩ dU
 have cy:=wDp bG bB dU
 try dsimp only at cy
 have cH:Hid (¬ ((↑((bk:Int) - 0).toNat:Int) < bk)):=zL (wBf)
 refine sR fL1 Z (oR Z (zl Z cY cU) (eN (zM (cF Z cH (Ze (zw (zw (ZW (zq (zQ (rR fL2 Z (oR Z (ZL (zh Z cS Z) (congrArg (jV) d8.out)) (oM Z Z (ZK ?_))))))))))))))
 have q:=nD cy
 obtain rfl:=q
 exact zQ ⟨Z,_,Z,⟨cC,Z,cO,cP,cQ,cR,(bf.trans ei),dL⟩⟩
 rintro ⟨fc,fd,ff⟩ fh eD ⟨cD,cZ,eJ,eK,eL,cV,eO,dM⟩ dV
 have cz:=wDp hm bA dV
 try dsimp only at cz
 have cI:Hid (¬ ((↑(((↑p0.Bout.Down.length:Int):Int) - 0).toNat:Int) < (↑p0.Bout.Down.length:Int))):=zL (wBf)
 refine sR fL1 Z (oR Z (zl Z cZ cV) (eN (zM (cF Z cI (Ze (zw (zw (ZW (zQ (sR fL1 Z (oA Z Z (eN (zX ?_)))))))))))))
 have dN:=dM.nilrow 3 1
 cases cz
 exact ⟨Z,_,(ZA Z),cD,_,dN,none,0,Z,Z,(fun _=>Z)⟩
theorem wFS (p0:wAC) (be:Option Addr) (bg:Nat) (bf:Option Addr) (bh:Nat) (bm:Option Addr) (bn:Nat) (p1:Int) (p2:Int) (w:World) (U:PHeap) (hS:St0 w U []) (cJ:Sl U 1 be bg p0.Shots.length (nA KL.encI p0.Shots)) (cK:Sl U 1 bf bh p0.Down.length (nA KL.encI p0.Down)) (cL:Sl U 2 bm bn p0.Across.length (nA wAB p0.Across)) {r:(Option wAF) × Int} (hm:wCC p0 p1 p2=some r):Gv Tryz.prog 75 [.agg #[.slice be p0.Shots.length bg,.slice bf p0.Down.length bh,.slice bm p0.Across.length bn],jV p1,jV p2] w (wCe w [] U (fun U_ L_ v=>match r.1 with | none=>v=.tuple #[.pointer none,jV r.2]/\L_=[] | some d=>∃ (b0:Nat) (A0p00:Option Addr) (c0p00:Nat) (A0p01:Option Addr) (c0p01:Nat) (A0p02:Option Addr) (c0p02:Nat) (m0p1:Nat) (es0p1:Array MapEntry) (ck0p1:Nat),v=.tuple #[.pointer (some ⟨b0,0,none⟩),jV r.2]/\L_=[.blk b0 118 ([.slice A0p00 d.Bout.Shots.length c0p00,.slice A0p01 d.Bout.Down.length c0p01,.slice A0p02 d.Bout.Across.length c0p02,.map (some m0p1)] ++ ((nA KL.encI d.hits.l) ++ ((nA KL.encI d.used.l) ++ (nA KL.encT d.met.l)))),.obj m0p1 (.map es0p1 ck0p1)]/\Sl U_ 1 A0p00 c0p00 d.Bout.Shots.length (nA KL.encI d.Bout.Shots)/\Sl U_ 1 A0p01 c0p01 d.Bout.Down.length (nA KL.encI d.Bout.Down)/\Sl U_ 2 A0p02 c0p02 d.Bout.Across.length (nA wAB d.Bout.Across)/\MpR es0p1 wDI wDZ d.may)):=by
 unfold wCC at hm
 refine Gv.of Tryz.func75 Z Tryz.ntmps75 Tryz.results75 Z (sR gAp Z ?_)
 let B0:List Value:=[.slice be p0.Shots.length bg,.slice bf p0.Down.length bh,.slice bm p0.Across.length bn]
 refine Zc (cs:=B0) rfl rfl rfl rfl rfl rfl (by rfl) hS ?_
 intro W1 b2 bU
 refine oA Z Z (oA Z Z (eN (sR (.fl 0 (.fx 1 (fC2_6 (.nil)) .stop)) Z (oL Z (bU.ldBA (j:=0) Z Z Z ZI ze (vs:=B0) Z Z) ?_))))
 have q:=bnd hm
 obtain ⟨⟨x5,x6⟩,h7,bi⟩:=q
 try dsimp only at bi
 refine zP 0 Z Z Z Z (zN Z Z Tryz.call53 (zD Z zV) Z) bU (fun hs=>wGc p0 be bg bf bh bm bn W1 U hs cJ cK cL h7) (.inr Z) ?_
 rintro U9 dm dz bj dv bT bS
 rcases x5 with _ | ab
 try dsimp only at bi
 obtain ⟨rfl,rfl⟩:=bS
 have bA:sW w U U9 [.blk b2 25 B0] bj:=bT
 refine oM Z Z (oR Z (ZM Z Z (v:=.pointer none) Z) (oR Z (ZM Z Z (v:=jV x6) Z) (oA Z Z (oA Z Z (eN (zM (zk (sR fL3 Z (oM Z Z (oR Z (Zj Z Z Z) (oA Z Z (eN (ifc bi ?_ ?_)))))))))))))
 intro bt cR
 refine ZB (zy (fun h=>h bt.out)) (sR (wID (.fx 5 (wNz (.fx 13 (wMO (.nil)) .stop)) .stop)) Z (oM Z Z (oR Z (zG Z Z zF Z zR) (oL Z (bA.ldB (j:=0) Z Z Z zZ (v:=.slice be p0.Shots.length bg) Z) (oR Z (Za Z Z zA) (oR Z (Zp Z Z Z) (bnK cR fun x30 cn cS=>zP 0 Z Z Z Z (zN Z Z Zu (zD Z (zD Z (zD Z zV))) Z) bA (fun hs=>wBD p1 0 (w64 ((↑p0.Shots.length:Int) - 1)) bj U9 hs cn) (.inr Z) ?_)))))))
 rintro bp dq dA bK dw cD ⟨rfl,rfl⟩
 have bB:sW w U bp [.blk b2 25 B0] bK:=cD
 refine oR Z (ZO Z Z) (oM Z Z (ifc cS ?_ ?_))
 intro ae cU
 refine zz Z Z Z (zU Z Z (nC ae.out)) Z Z (zS Z Z Z (zU Z Z (nC ae.out)) (fun _=>zG Z Z zF Z zR) (zi Z Z Z (zU Z Z (nC ae.out)) (bB.ldB (j:=0) Z Z Z zZ (v:=.slice bf p0.Down.length bh) Z) Z (zS Z Z Z (zU Z Z (nC ae.out)) (fun _=>Za Z Z zA) (zS Z Z Z (zU Z Z (nC ae.out)) (fun _=>Zp Z Z Z) (bnK cU fun x42 cp cV=>zP 0 Z Z Z (zU Z Z (nC ae.out)) (zN Z Z Zu (zD Z (zD Z (zD Z zV))) Z) bB (fun hs=>wBD p2 0 (w64 ((↑p0.Down.length:Int) - 1)) bK bp hs cp) (.inr Z) ?_)))))
 rintro bJ dr dB bZ dx cE ⟨rfl,rfl⟩
 have cG:sW w U bJ [.blk b2 25 B0] bZ:=cE
 refine zS Z Z Z (zU Z Z (nC ae.out)) (fun _=>ZO Z Z) (oR Z (zf Z (nC ae.out) Z) (oA Z Z (eN (ifc cV ?_ ?_))))
 intro bu cW
 refine ZB (nC bu.out) (sR gAs Z (oM Z Z ?_))
 cases cW
 intro bu cX
 refine zx (nF (bu.out)) (sR fL2 Z (oA Z Z (oA Z Z (eN (zX (zO (zH ?_)))))))
 cases cX
 exact ⟨rfl,_,(wMR rfl rfl),bJ,_,(cG.pick [] _ (by decide) rfl),rfl,rfl⟩
 intro ae cY
 refine zd Z Z Z (zJ Z Z (nF (ae.out)) Z) (zd Z Z Z (zJ Z Z (nF (ae.out)) Z) (zd Z Z Z (zJ Z Z (nF (ae.out)) Z) (zd Z Z Z (zJ Z Z (nF (ae.out)) Z) (zd Z Z Z (zJ Z Z (nF (ae.out)) Z) (ZH Z Z Z (zJ Z Z (nF (ae.out)) Z) (zd Z Z Z (zJ Z Z (nF (ae.out)) Z) (oR Z (zK Z (nF (ae.out)) Z) (oA Z Z (eN (zx Z (sR fL2 Z (oA Z Z (oA Z Z (eN (zX (zO (zH ?_)))))))))))))))))
 cases cY
 exact ⟨rfl,_,(wMR rfl rfl),bp,_,(bB.pick [] _ (by decide) rfl),rfl,rfl⟩
 intro bt cZ
 refine cT Z bt (sR fL3 Z (oM Z Z (oA Z Z (oA Z Z (eN (zX (zO (zH ?_))))))))
 cases cZ
 exact ⟨rfl,_,(wMR rfl rfl),U9,_,(bA.pick [] _ (by decide) rfl),rfl,rfl⟩
 try dsimp only at bi
 obtain ⟨ak,ap,az,aq,aY,au,aZ,ai,bb,ba,rfl,rfl,cq,cr,ct,bO⟩:=bS
 have bC:sW w U U9 [.blk ak 118 ([.slice ap ab.Bout.Shots.length az,.slice aq ab.Bout.Down.length aY,.slice au ab.Bout.Across.length aZ,.map (some ai)] ++ ((nA KL.encI ab.hits.l) ++ ((nA KL.encI ab.used.l) ++ (nA KL.encT ab.met.l)))),.obj ai (.map bb ba),.blk b2 25 B0] bj:=bT
 refine oM Z Z (oR Z (ZM Z Z (v:=.pointer (some ⟨ak,0,none⟩)) Z) (oR Z (ZM Z Z (v:=jV x6) Z) (oA Z Z (oA Z Z (eN (zM (zk (sR fL3 Z (oM Z Z (oR Z (Zj Z Z Z) (oA Z Z (eN (ifc bi ?_ ?_)))))))))))))
 intro bv da
 refine ZB (zy (fun h=>h bv.out)) (sR (wID (.fx 5 (wNz (.fx 13 (wMO (.nil)) .stop)) .stop)) Z (oM Z Z (oR Z (zG Z Z zF Z zR) (oL Z (bC.ldB (j:=2) Z Z Z zZ (v:=.slice be p0.Shots.length bg) Z) (oR Z (Za Z Z zA) (oR Z (Zp Z Z Z) (bnK da fun dE cu db=>zP 0 Z Z Z Z (zN Z Z Zu (zD Z (zD Z (zD Z zV))) Z) bC (fun hs=>wBD p1 0 (w64 ((↑p0.Shots.length:Int) - 1)) bj U9 hs cu) (.inr Z) ?_)))))))
 rintro bq dt dC bL bF cH ⟨rfl,rfl⟩
 have bD:sW w U bq [.blk ak 118 ([.slice ap ab.Bout.Shots.length az,.slice aq ab.Bout.Down.length aY,.slice au ab.Bout.Across.length aZ,.map (some ai)] ++ ((nA KL.encI ab.hits.l) ++ ((nA KL.encI ab.used.l) ++ (nA KL.encT ab.met.l)))),.obj ai (.map bb ba),.blk b2 25 B0] bL:=cH
 refine oR Z (ZO Z Z) (oM Z Z (ifc db ?_ ?_))
 intro ah de
 refine zz Z Z Z (zU Z Z (nC ah.out)) Z Z (zS Z Z Z (zU Z Z (nC ah.out)) (fun _=>zG Z Z zF Z zR) (zi Z Z Z (zU Z Z (nC ah.out)) (bD.ldB (j:=2) Z Z Z zZ (v:=.slice bf p0.Down.length bh) Z) Z (zS Z Z Z (zU Z Z (nC ah.out)) (fun _=>Za Z Z zA) (zS Z Z Z (zU Z Z (nC ah.out)) (fun _=>Zp Z Z Z) (bnK de fun x78 cx df=>zP 0 Z Z Z (zU Z Z (nC ah.out)) (zN Z Z Zu (zD Z (zD Z (zD Z zV))) Z) bD (fun hs=>wBD p2 0 (w64 ((↑p0.Down.length:Int) - 1)) bL bq hs cx) (.inr Z) ?_)))))
 rintro br du dD bM bG cI ⟨rfl,rfl⟩
 have bV:sW w U br [.blk ak 118 ([.slice ap ab.Bout.Shots.length az,.slice aq ab.Bout.Down.length aY,.slice au ab.Bout.Across.length aZ,.map (some ai)] ++ ((nA KL.encI ab.hits.l) ++ ((nA KL.encI ab.used.l) ++ (nA KL.encT ab.met.l)))),.obj ai (.map bb ba),.blk b2 25 B0] bM:=cI
 refine zS Z Z Z (zU Z Z (nC ah.out)) (fun _=>ZO Z Z) (oR Z (zf Z (nC ah.out) Z) (oA Z Z (eN (ifc df ?_ ?_))))
 intro bw dg
 refine ZB (nC bw.out) (sR gAs Z (oM Z Z ?_))
 have cy:=cq.le bF
 have bP:=cy.le bG
 have cz:=cr.le bF
 have bQ:=cz.le bG
 have cA:=ct.le bF
 have bR:=cA.le bG
 have q:=bnd dg
 obtain ⟨⟨bH,x97⟩,cB,bW⟩:=q
 try dsimp only at bW
 refine zP 2 Z Z Z Z (zN Z Z Tryz.call67 (zD Z zV) Z) bV (fun hs=>wCt ab ak ap az aq aY au aZ ai bb ba bM br hs bP bQ bR bO cB) (.inl Z) ?_
 rintro bo dp dy bY bE cC ⟨bI,b5,rfl,rfl,b9⟩
 have bz:sW w U bo [.row bI b5 3 1 (nA KL.encI bH),.blk ak 118 ([.slice ap ab.Bout.Shots.length az,.slice aq ab.Bout.Down.length aY,.slice au ab.Bout.Across.length aZ,.map (some ai)] ++ ((nA KL.encI x97.1.l) ++ ((nA KL.encI x97.2.1.l) ++ (nA KL.encT x97.2.2.l)))),.obj ai (.map bb ba),.blk b2 25 B0] bY:=cC
 have cd:bI.isNone=decide (bH=[]):=wKt (j:=0) bz rfl (fun _=>rfl) (by decide) b9
 refine zS rfl rfl rfl rfl (fun _=>Runs.neNilR (b:=decide (¬ (bH=[]))) rfl rfl rfl zA (by simp [cd])) (OKS.ra rfl rfl rfl rfl rfl rfl (eN (ifc bW ?_ ?_)))
 intro bs cM
 refine ZB (zy (fun h=>h bs.out)) (Zd (zq (zQ (sR fL3 Z (oM Z Z (oA Z Z (oA Z Z (eN (zX ?_)))))))))
 have cg:=bP.le bE
 have ci:=bQ.le bE
 have cj:=bR.le bE
 cases cM
 exact ⟨rfl,_,(wMR rfl rfl),bo,_,(bz.pick [1,2] _ (by decide) rfl),ak,ap,az,aq,aY,au,aZ,ai,bb,ba,rfl,rfl,cg,ci,cj,bO⟩
 intro bs cN
 refine cT Z bs (sR fL2 Z (oA Z Z (oA Z Z (eN (zX (zO (zH ?_)))))))
 cases cN
 exact ⟨rfl,_,(wMR rfl rfl),bo,_,(bz.pick [] _ (by decide) rfl),rfl,rfl⟩
 intro bw cO
 refine zx (nF (bw.out)) (sR fL2 Z (oA Z Z (oA Z Z (eN (zX (zO (zH ?_)))))))
 cases cO
 exact ⟨rfl,_,(wMR rfl rfl),br,_,(bV.pick [] _ (by decide) rfl),rfl,rfl⟩
 intro ah cP
 refine zd Z Z Z (zJ Z Z (nF (ah.out)) Z) (zd Z Z Z (zJ Z Z (nF (ah.out)) Z) (zd Z Z Z (zJ Z Z (nF (ah.out)) Z) (zd Z Z Z (zJ Z Z (nF (ah.out)) Z) (zd Z Z Z (zJ Z Z (nF (ah.out)) Z) (ZH Z Z Z (zJ Z Z (nF (ah.out)) Z) (zd Z Z Z (zJ Z Z (nF (ah.out)) Z) (oR Z (zK Z (nF (ah.out)) Z) (oA Z Z (eN (zx Z (sR fL2 Z (oA Z Z (oA Z Z (eN (zX (zO (zH ?_)))))))))))))))))
 cases cP
 exact ⟨rfl,_,(wMR rfl rfl),bq,_,(bD.pick [] _ (by decide) rfl),rfl,rfl⟩
 intro bv cQ
 refine cT Z bv (sR fL3 Z (oM Z Z (oA Z Z (oA Z Z (eN (zX (zO (zH ?_))))))))
 cases cQ
 exact ⟨rfl,_,(wMR rfl rfl),U9,_,(bC.pick [] _ (by decide) rfl),rfl,rfl⟩
theorem wGd (p0:Int) (p1:List Int) (aj:Option Addr) (ak:Nat) (w:World) (U:PHeap) (hS:St0 w U []) (bm:Sl U 1 aj ak p1.length (nA KL.encI p1)) {r:Int} (hm:wDF p0 p1=some r):Gv Tryz.prog 82 [jV p0,.slice aj p1.length ak] w (wCe w [] U (fun U_ L_ v=>v=jV r/\L_=[])):=by
 unfold wDF at hm
 refine Gv.of Tryz.func82 Z Tryz.ntmps82 Tryz.results82 Z (sR fL1 Z (oA Z Z (eN (zM (sR fL3 Z (oM Z Z (oR Z (Za Z Z zA) (oM Z Z (eN (zk (bnK hm fun bD bo br=>?_)))))))))))
 have q:=wCk bo
 obtain ⟨ai,bn⟩:=q
 replace ai:=zL ai
 refine CK.forN' (fun k7 x6 σ_ w_=>∃ (U_:PHeap),σ_ 9=jV (↑k7:Int)/\σ_ 0=jV x6/\σ_ 7=.slice aj p1.length ak/\σ_ 8=jV (↑p1.length:Int)/\PHeap.Le U U_/\sW w U U_ [] w_) bn ?_ ?_ ?_
 exact ⟨U,Z,Z,Z,Z,(zY _),hS⟩
 rintro k7 x6 bC bE bu ah ⟨aZ,ae,be,ap,aq,az,av⟩ bs
 have am:Hid ((↑k7:Int) < (↑p1.length:Int)):=zL (wCI ah)
 replace ah:=zL ah
 have bp:Hid (w64 ((↑k7:Int) + 1)=(↑(k7 + 1):Int)):=zL (by have h1:=ai.out;have h2:=am.out;rw [wAf] <;> omega)
 refine sR fL1 Z (oR Z (zl Z ae aq) (eN (zM (cT Z am (kN (zM (zk (sR fL3 Z (bnK bs fun bt au bq=>?_)))))))))
 have bi:=bm.le az
 have q:=bi.el (fun _=>rfl) (wCE au)
 obtain ⟨bw,bB,bj,bk⟩:=q
 refine oR Z (Zm Z ap bj ae zA zC (wFH au)) (oL Z (av.ldC (f:=0) bk (v:=jV bt) Z Z zI Z) (oA Z Z (eN (rR fL4 Z (oM Z be (oM Z Z (oR Z (Runs.min Z Z Z) (oA Z Z (ZK (zq (zQ (rR fL2 Z (oR Z (ZL (zh Z ae Z) (congrArg (jV) bp.out)) (oM Z Z (ZK ?_)))))))))))))))
 cases bq
 exact zQ ⟨Z,⟨aZ,Z,Z,ap,aq,az,av⟩⟩
 rintro bF bv ⟨ba,bh,bf,bz,bg,bA,bl⟩
 have bb:Hid (¬ ((↑(((↑p1.length:Int):Int) - 0).toNat:Int) < (↑p1.length:Int))):=zL (wBf)
 refine sR fL1 Z (oR Z (zl Z bh bg) (eN (zM (cF Z bb (Ze (zw (zw (ZW (zQ (sR fL2 Z (oM Z bf (oA Z Z (eN (zX ?_))))))))))))))
 have hE:=nD br;first | subst r | cases hE
 exact ⟨Z,_,(ZA Z),ba,_,bl,Z,Z⟩
theorem wEq (p0:wAF) (am:Nat) (ae:Option Addr) (ai:Nat) (ah:Option Addr) (aj:Nat) (ak:Option Addr) (ap:Nat) (ab:Nat) (aq:Array MapEntry) (au:Nat) (p1:Int) (p2:Int) (w:World) (U:PHeap) (hS:St0 w U [.blk am 118 ([.slice ae p0.Bout.Shots.length ai,.slice ah p0.Bout.Down.length aj,.slice ak p0.Bout.Across.length ap,.map (some ab)] ++ ((nA KL.encI p0.hits.l) ++ ((nA KL.encI p0.used.l) ++ (nA KL.encT p0.met.l)))),.obj ab (.map aq au)]) (bm:Sl U 1 ae ai p0.Bout.Shots.length (nA KL.encI p0.Bout.Shots)) (bn:Sl U 1 ah aj p0.Bout.Down.length (nA KL.encI p0.Bout.Down)) (bI:Sl U 2 ak ap p0.Bout.Across.length (nA wAB p0.Bout.Across)) (bJ:MpR aq wDI wDZ p0.may) {r:Int} (hm:wBb p0 p1 p2=some r):Gv Tryz.prog 78 [.pointer (some ⟨am,0,none⟩),jV p1,jV p2] w (wCe w [.blk am 118 ([.slice ae p0.Bout.Shots.length ai,.slice ah p0.Bout.Down.length aj,.slice ak p0.Bout.Across.length ap,.map (some ab)] ++ ((nA KL.encI p0.hits.l) ++ ((nA KL.encI p0.used.l) ++ (nA KL.encT p0.met.l)))),.obj ab (.map aq au)] U (fun U_ L_ v=>v=jV r/\L_=[.blk am 118 ([.slice ae p0.Bout.Shots.length ai,.slice ah p0.Bout.Down.length aj,.slice ak p0.Bout.Across.length ap,.map (some ab)] ++ ((nA KL.encI p0.hits.l) ++ ((nA KL.encI p0.used.l) ++ (nA KL.encT p0.met.l)))),.obj ab (.map aq au)])):=by
 unfold wBb at hm
 refine Gv.of Tryz.func78 Z Tryz.ntmps78 Tryz.results78 Z (sR fL1 Z (oA Z Z (eN (zM (sR (wCl gAj) Z (oM Z Z (oM Z Z (oM Z Z (bnK hm fun x3 h4 bO=>zP 2 Z Z Z Z (zN Z Z Tryz.call57 (zD Z (zD Z (zD Z zV))) Z) hS (fun hs=>wCZ p0 am ae ai ah aj ak ap ab aq au p1 p2 w U hs bm bn bI bJ h4) (.inl Z) ?_)))))))))
 rintro U6 L7 v8 W9 bo bB ⟨rfl,rfl⟩
 have bl:SW w [.blk am 118 ([.slice ae p0.Bout.Shots.length ai,.slice ah p0.Bout.Down.length aj,.slice ak p0.Bout.Across.length ap,.map (some ab)] ++ ((nA KL.encI p0.hits.l) ++ ((nA KL.encI p0.used.l) ++ (nA KL.encT p0.met.l)))),.obj ab (.map aq au)] U U6 [.blk am 118 ([.slice ae p0.Bout.Shots.length ai,.slice ah p0.Bout.Down.length aj,.slice ak p0.Bout.Across.length ap,.map (some ab)] ++ ((nA KL.encI p0.hits.l) ++ ((nA KL.encI p0.used.l) ++ (nA KL.encT p0.met.l)))),.obj ab (.map aq au)] W9:=bB
 refine oR Z (ZO Z Z) (eN (ifc bO ?_ ?_))
 intro bb bK
 refine ZB (nC bb.out) (kN (zM (ZQ ZJ [3,3,3,3,1,3,3,1,3,3,3,3,1,3,3,1,2,2,3] (wQj (.fx 16 gAl .stop)) (by kernel_rfl) ?_)))
 have az:=bl.drew
 generalize hw_W16:({ W9 with drawn:=W9.drawn + 1 }:World)=bT at az ⊢
 refine oM Z Z (oR Z (zn Z Z) (oR Z (zG Z Z zW Z ze) (oR Z (zG Z Z zF Z zR) (oL Z (az.ldB (j:=0) Z Z Z zZ (v:=.slice ae p0.Bout.Shots.length ai) Z) (oM Z Z (bnK bK fun bp be bL=>?_))))))
 have br:=bm.le bo
 have q:=br.el (fun _=>rfl) (wCE be)
 obtain ⟨bU,bY,bv,bz⟩:=q
 refine oR Z (ZV Z Z bv Z zA zC (wFG be) (wFj be)) (oL Z (az.ldC (f:=0) bz (v:=jV bp) Z Z zI Z) (oM Z Z (oR Z (zn Z Z) (oR Z (zG Z Z zW Z ze) (oR Z (zG Z Z zF Z zR) (oL Z (az.ldB (j:=0) Z Z Z zZ (v:=.slice ah p0.Bout.Down.length aj) Z) (oM Z Z (bnK bL fun av bf bM=>?_))))))))
 have bs:=bn.le bo
 have q:=bs.el (fun _=>rfl) (wCE bf)
 obtain ⟨bV,bZ,bw,bA⟩:=q
 refine oR Z (ZV Z Z bw Z zA zC (wFG bf) (wFj bf)) (oL Z (az.ldC (f:=0) bA (v:=jV av) Z Z zI Z) (zo (pv:=[(0,jV av)]) (zs:=[jV 0]) (cs:=[jV av]) Z Z Z Z Z (wAK Z wAa) zA zC zm Z Z Z Z Z az ?_))
 intro aZ bk bC
 have bD:SW w [.blk am 118 ([.slice ae p0.Bout.Shots.length ai,.slice ah p0.Bout.Down.length aj,.slice ak p0.Bout.Across.length ap,.map (some ab)] ++ ((nA KL.encI p0.hits.l) ++ ((nA KL.encI p0.used.l) ++ (nA KL.encT p0.met.l)))),.obj ab (.map aq au)] U U6 [.row (some ⟨bk,0,none⟩) 1 3 1 (nA KL.encI [av]),.blk am 118 ([.slice ae p0.Bout.Shots.length ai,.slice ah p0.Bout.Down.length aj,.slice ak p0.Bout.Across.length ap,.map (some ab)] ++ ((nA KL.encI p0.hits.l) ++ ((nA KL.encI p0.used.l) ++ (nA KL.encT p0.met.l)))),.obj ab (.map aq au)] aZ:=bC
 have q:=bD.freezeR (k:=0) (n:=[av].length) rfl (wAD (f:=KL.encI) (sz:=1) (fun _=>rfl) [av]) (by decide)
 obtain ⟨bi,bW,bQ,bE⟩:=q
 have bF:SW w [.blk am 118 ([.slice ae p0.Bout.Shots.length ai,.slice ah p0.Bout.Down.length aj,.slice ak p0.Bout.Across.length ap,.map (some ab)] ++ ((nA KL.encI p0.hits.l) ++ ((nA KL.encI p0.used.l) ++ (nA KL.encT p0.met.l)))),.obj ab (.map aq au)] U bi [.blk am 118 ([.slice ae p0.Bout.Shots.length ai,.slice ah p0.Bout.Down.length aj,.slice ak p0.Bout.Across.length ap,.map (some ab)] ++ ((nA KL.encI p0.hits.l) ++ ((nA KL.encI p0.used.l) ++ (nA KL.encT p0.met.l)))),.obj ab (.map aq au)] aZ:=bE
 refine bnK bM fun x43 bu bN=>zP 0 Z Z Z Z (zN Z Z Tryz.call82 (zD Z (zD Z zV)) Z) bF (fun hs=>wGd bp [av] (some ⟨bk,0,none⟩) 1 aZ bi hs bQ bu) (.inr Z) ?_
 rintro bj bR b5 bq bX bG ⟨rfl,rfl⟩
 have bH:SW w [.blk am 118 ([.slice ae p0.Bout.Shots.length ai,.slice ah p0.Bout.Down.length aj,.slice ak p0.Bout.Across.length ap,.map (some ab)] ++ ((nA KL.encI p0.hits.l) ++ ((nA KL.encI p0.used.l) ++ (nA KL.encT p0.met.l)))),.obj ab (.map aq au)] U bj [.blk am 118 ([.slice ae p0.Bout.Shots.length ai,.slice ah p0.Bout.Down.length aj,.slice ak p0.Bout.Across.length ap,.map (some ab)] ++ ((nA KL.encI p0.hits.l) ++ ((nA KL.encI p0.used.l) ++ (nA KL.encT p0.met.l)))),.obj ab (.map aq au)] bq:=bG
 refine oA Z Z (eN (zX ?_))
 have hE:=nD bN;first | subst r | cases hE
 exact ⟨Z,_,(ZA Z),bj,_,bH,Z,Z⟩
 intro bb bP
 refine zx (nF (bb.out)) (sR fL1 Z (oA Z Z (eN (zX (zH ?_)))))
 cases bP
 exact ⟨Z,_,(ZA Z),U6,_,bl,Z,Z⟩
end Go.Proofs.YtfcmijinklojbaaGreat
