import Derived.Test.YtfcmijinklojbaaS4
set_option linter.all false
open List renaming flatMap->hH,getElem_cons_succ->nE,getElem_cons_zero->nG,getElem_toArray->nH,length_set->nI,set->nK,length_append->nM,length_cons->nO,length_nil->nQ,map->nU
open Go.Value renaming bool->nA
open Bool renaming eq_false_iff->nB
open Option.some renaming inj->nD
open Int renaming toNat_natCast->nJ
open Prod.mk renaming injEq->nL
open Eq renaming trans->nR
open Nat renaming blt->nS,le_of_ble_eq_true->nT
namespace Go.Proofs.Ytfcmijinklojbaa
open Go.KL
def gAa:Sch:=.fl 1 (.fl 2 .nil)
def gAb:Sch:=.fl 2 (.fl 3 .nil)
def gAc:Sch:=.fl 3 (.fl 4 .nil)
def gAd:Sch:=.fl 4 (.fl 5 .nil)
def gAe:Sch:=.fl 5 (.fl 6 .nil)
def gAf:Sch:=.fl 7 (.fl 8 .nil)
def gAg:Sch:=.fl 8 (.fl 9 .nil)
def gAh:Sch:=.fx 0 (.fl 1 .nil) .stop
def gAi:Sch:=.fx 5 (.fl 6 .nil) .stop
def gAj:Sch:=.fx 1 (.fl 2 .nil) .stop
def gAk:Sch:=.fl 0 (.fx 1 .nil .stop)
def gAl:Sch:=.fx 3 (.fl 4 .nil) .stop
def gAm:Sch:=.fx 0 (.fx 1 .nil .stop) .stop
def gAn:Sch:=.fl 1 (.fx 2 (.fl 3 .nil) .stop)
def gAo:Sch:=.fl 0 gAj
def gAp:Sch:=.fx 21 (.fl 22 (.fl 23 .nil)) .stop
def gAq:Sch:=.fx 0 gAj .stop
def gAr:Sch:=.fx 0 gAa .stop
def gAs:Sch:=.fl 0 (.fl 1 (.fx 2 .nil .stop))
def gAt:Sch:=.fx 4 gAe .stop
def gAu:Sch:=.fl 0 gAn
def gAv:Sch:=.fl 0 (.fl 1 (.fx 2 (.fx 3 .nil .stop) .stop))
def gAw:Sch:=.fl 0 (.fl 1 (.fx 2 gAc .stop))
def gAx:Sch:=.fl 0 (.fl 1 (.fx 2 gAl .stop))
set_option maxHeartbeats 4000000
theorem Z {α:Type} {a:α}:a=a:=rfl
section
variable {r:Option Nat} {N:Nat} {P:Program} {l:List Oper} {Q:wCZ} {D:List Deferred} {ks:List Nat} {σ:Env} {w:World} {i d j e:Nat} {s:Sch} {o:Oper} {b:Bool} {x:Operand} {v:Value} {p:Prop} {inst:Decidable p} {K:List Deferred->Env->World->Prop} {c1 c2:Code}
abbrev jV (n:Int):Value:=.int .i64 n
abbrev SW (w:World) (X:List Res) (U U':PHeap) (L:List Res) (w':World):Prop:=St ⟨w,X,U⟩ U' L w'
abbrev sW (w:World) (U U':PHeap) (L:List Res) (w':World):Prop:=St ⟨w,[],U⟩ U' L w'
abbrev St0 (w:World) (U:PHeap) (L:List Res):Prop:=St ⟨w,L,U⟩ U L w
theorem ifc {α:Type} {G p:Prop} {inst:Decidable p} {a b r:α} (h:@ite α p inst a b=r) (h1:Hid p->a=r->G) (h2:Hid (¬ p)->b=r->G):G:=by
 by_cases c:p
 rw [if_pos c] at h;exact h1 ⟨c⟩ h
 rw [if_neg c] at h;exact h2 ⟨c⟩ h
theorem bnK {α β:Type} {G:Prop} {o:Option α} {f:α->Option β} {r:β} (h:o.bind f=some r) (k:∀ x,o=some x->f x=some r->G):G:=by
 obtain ⟨x,h1,h2⟩:=bnd h
 exact k x h1 h2
theorem oR (h:(l[i]?,o.dst,nS d N,wanted l σ o)=(some o,some d,true,true)) (hr:∀ {w'},Runs P σ w' o v w') (k:OKS N P l Q D ks s (upd σ d v) w):OKS N P l Q D ks (.fl i s) σ w:=by
 simp only [nL] at h;exact OKS.r h.1 h.2.1 h.2.2.1 h.2.2.2 (fun _=>hr) k
theorem oL (h:(l[i]?,o.dst,nS d N,wanted l σ o,wPC (kOf ks i))=(some o,some d,true,true,false)) (hr:wEZ P σ w o v) (k:OKS N P l Q D ks s (upd σ d v) w):OKS N P l Q D ks (.fl i s) σ w:=by
 simp only [nL] at h;exact OKS.m h.1 h.2.1 h.2.2.1 h.2.2.2.1 hr h.2.2.2.2 k
theorem oM (h:(l[i]?,o.dst,nS d N,wanted l σ o,o.op)=(some o,some d,true,true,.move x)) (hx:ev σ x=v) (k:OKS N P l Q D ks s (upd σ d v) w):OKS N P l Q D ks (.fl i s) σ w:=by
 simp only [nL] at h;exact OKS.rm h.1 h.2.1 h.2.2.1 h.2.2.2.1 h.2.2.2.2 hx k
theorem oA (h:(l[i]?,o.dst,nS d N,wanted l σ o,o.op)=(some o,some d,true,true,.assign x)) (hx:ev σ x=v) (k:OKS N P l Q D ks s (upd σ d v) w):OKS N P l Q D ks (.fl i s) σ w:=by
 simp only [nL] at h;exact OKS.ra h.1 h.2.1 h.2.2.1 h.2.2.2.1 h.2.2.2.2 hx k
theorem oF (h:(l[i]?,o.dst,nS d N,o.guard,(l[j]?).bind (·.dst),σ e,false == b)=(some o,some d,true,some (j,b),some e,.bool (decide p),false)) (c:Hid (¬ p)) (k:OKS N P l Q D ks s (upd σ d undef) w):OKS N P l Q D ks (.fl i s) σ w:=by
 simp only [nL] at h;exact OKS.p h.1 h.2.1 h.2.2.1 (wFd h.2.2.2.1 h.2.2.2.2.1 (h.2.2.2.2.2.1.trans (wPB c.out)) h.2.2.2.2.2.2) k
theorem oT (h:(l[i]?,o.dst,nS d N,o.guard,(l[j]?).bind (·.dst),σ e,true == b)=(some o,some d,true,some (j,b),some e,.bool (decide p),false)) (c:Hid p) (k:OKS N P l Q D ks s (upd σ d undef) w):OKS N P l Q D ks (.fl i s) σ w:=by
 simp only [nL] at h;exact OKS.p h.1 h.2.1 h.2.2.1 (wFd h.2.2.2.1 h.2.2.2.2.1 (h.2.2.2.2.2.1.trans (wPA c.out)) h.2.2.2.2.2.2) k
theorem oN {b2:Bool} (h:(l[i]?,o.dst,nS d N,o.guard,(l[j]?).bind (·.dst),σ e,b2 == b)=(some o,some d,true,some (j,b),some e,.bool b2,false)) (k:OKS N P l Q D ks s (upd σ d undef) w):OKS N P l Q D ks (.fl i s) σ w:=by
 simp only [nL] at h;exact OKS.p h.1 h.2.1 h.2.2.1 (wFd h.2.2.2.1 h.2.2.2.2.1 h.2.2.2.2.2.1 h.2.2.2.2.2.2) k
theorem nC {a b:Bool} (h:a=b):nA (!a)=nA (!b):=h ▸ rfl
theorem nF {a:Bool} (h:¬ a=true):nA (!a)=nA (!false):=nC (nB.2 h)
theorem wT (h:(o.guard,(l[j]?).bind (·.dst),σ e)=(some (j,true),some e,.bool (decide p))) (c:Hid p):wanted l σ o=true:=by
 simp only [nL] at h;exact wGt h.1 h.2.1 (h.2.2.trans (wPA c.out))
theorem wF (h:(o.guard,(l[j]?).bind (·.dst),σ e)=(some (j,false),some e,.bool (decide p))) (c:Hid (¬ p)):wanted l σ o=true:=by
 simp only [nL] at h;exact wGt h.1 h.2.1 (h.2.2.trans (wPB c.out))
theorem rU (h:(l[i]?,o.dst,nS d N)=(some o,some d,true)) (hw:wanted l σ o=true) (hr:∀ {w'},Runs P σ w' o v w') (k:OKS N P l Q D ks s (upd σ d v) w):OKS N P l Q D ks (.fl i s) σ w:=by
 simp only [nL] at h;exact OKS.r h.1 h.2.1 h.2.2 hw (fun _=>hr) k
theorem sR {id:Nat} (s:Sch) (hs:inOrder 0 s l.length=true) (h:OKS N P l (wDC (fun D σ w=>CK r N P c2 Q D σ w) Q) D [] s σ w):CK r N P (.seq (.region id l.toArray false) c2) Q D σ w:=CK.seq (CK.reg s hs h)
theorem rR {id:Nat} (s:Sch) (hs:inOrder 0 s l.length=true) (h:OKS N P l Q D [] s σ w):CK r N P (.region id l.toArray false) Q D σ w:=CK.reg s hs h
theorem eN (h:K D σ w):OKS N P l (wDC K Q) D ks .nil σ w:=OKS.e (wGp h)
theorem cT (hz:ev σ x=.bool (decide p)) (c:Hid p) (h:CK r N P c1 Q D σ w):CK r N P (.cond x c1 c2) Q D σ w:=CK.condT (hz.trans (wPA c.out)) h
theorem cF (hz:ev σ x=.bool (decide p)) (c:Hid (¬ p)) (h:CK r N P c2 Q D σ w):CK r N P (.cond x c1 c2) Q D σ w:=CK.condF (hz.trans (wPB c.out)) h
theorem kN (h:K D σ w):CK r N P .skip (wDC K Q) D σ w:=CK.skip (wGp h)
end
def fL1:Sch:=.fl 0 .nil
def fL2:Sch:=.fl 0 (.fl 1 .nil)
def fL3:Sch:=.fl 0 gAa
def fL4:Sch:=.fl 0 (.fl 1 gAb)
def fL5:Sch:=.fl 0 (.fl 1 (.fl 2 gAc))
def fL6:Sch:=.fl 0 (.fl 1 (.fl 2 (.fl 3 gAd)))
def fL7:Sch:=.fl 0 (.fl 1 (.fl 2 (.fl 3 (.fl 4 gAe))))
def fL9:Sch:=.fl 0 (.fl 1 (.fl 2 (.fl 3 (.fl 4 (.fl 5 (.fl 6 gAf))))))
def fL10:Sch:=.fl 0 (.fl 1 (.fl 2 (.fl 3 (.fl 4 (.fl 5 (.fl 6 (.fl 7 gAg)))))))
def fL11:Sch:=.fl 0 (.fl 1 (.fl 2 (.fl 3 (.fl 4 (.fl 5 (.fl 6 (.fl 7 (.fl 8 (.fl 9 (.fl 10 .nil))))))))))
def fL12:Sch:=.fl 0 (.fl 1 (.fl 2 (.fl 3 (.fl 4 (.fl 5 (.fl 6 (.fl 7 (.fl 8 (.fl 9 (.fl 10 (.fl 11 .nil)))))))))))
def fL15:Sch:=.fl 0 (.fl 1 (.fl 2 (.fl 3 (.fl 4 (.fl 5 (.fl 6 (.fl 7 (.fl 8 (.fl 9 (.fl 10 (.fl 11 (.fl 12 (.fl 13 (.fl 14 .nil))))))))))))))
def fL20:Sch:=.fl 0 (.fl 1 (.fl 2 (.fl 3 (.fl 4 (.fl 5 (.fl 6 (.fl 7 (.fl 8 (.fl 9 (.fl 10 (.fl 11 (.fl 12 (.fl 13 (.fl 14 (.fl 15 (.fl 16 (.fl 17 (.fl 18 (.fl 19 .nil)))))))))))))))))))
def fL30:Sch:=.fl 0 (.fl 1 (.fl 2 (.fl 3 (.fl 4 (.fl 5 (.fl 6 (.fl 7 (.fl 8 (.fl 9 (.fl 10 (.fl 11 (.fl 12 (.fl 13 (.fl 14 (.fl 15 (.fl 16 (.fl 17 (.fl 18 (.fl 19 (.fl 20 (.fl 21 (.fl 22 (.fl 23 (.fl 24 (.fl 25 (.fl 26 (.fl 27 (.fl 28 (.fl 29 .nil)))))))))))))))))))))))))))))
def fL33:Sch:=.fl 0 (.fl 1 (.fl 2 (.fl 3 (.fl 4 (.fl 5 (.fl 6 (.fl 7 (.fl 8 (.fl 9 (.fl 10 (.fl 11 (.fl 12 (.fl 13 (.fl 14 (.fl 15 (.fl 16 (.fl 17 (.fl 18 (.fl 19 (.fl 20 (.fl 21 (.fl 22 (.fl 23 (.fl 24 (.fl 25 (.fl 26 (.fl 27 (.fl 28 (.fl 29 (.fl 30 (.fl 31 (.fl 32 .nil))))))))))))))))))))))))))))))))
def wGK (s:Sch):Sch:=.fl 0 (.fl 1 (.fl 2 (s)))
def wHT (s:Sch):Sch:=.fl 0 (.fl 1 (.fl 2 (.fl 3 (s))))
def wGL (s:Sch):Sch:=.fl 0 (.fl 1 (.fl 2 (.fl 3 (.fl 4 (s)))))
def wIp (s:Sch):Sch:=.fl 0 (.fl 1 (.fl 2 (.fl 3 (.fl 4 (.fl 5 (s))))))
def wHU (s:Sch):Sch:=.fl 0 (.fl 1 (.fl 2 (.fl 3 (.fl 4 (.fl 5 (.fl 6 (s)))))))
def wOp (s:Sch):Sch:=.fl 0 (.fl 1 (.fl 2 (.fl 3 (.fl 4 (.fl 5 (.fl 6 (.fl 7 (s))))))))
def fC0_8 (s:Sch):Sch:=.fl 0 (.fl 1 (.fl 2 (.fl 3 (.fl 4 (.fl 5 (.fl 6 (.fl 7 (.fl 8 (s)))))))))
def wPz (s:Sch):Sch:=.fl 0 (.fl 1 (.fl 2 (.fl 3 (.fl 4 (.fl 5 (.fl 6 (.fl 7 (.fl 8 (.fl 9 (s))))))))))
def wNV (s:Sch):Sch:=.fl 0 (.fl 1 (.fl 2 (.fl 3 (.fl 4 (.fl 5 (.fl 6 (.fl 7 (.fl 8 (.fl 9 (.fl 10 (s)))))))))))
def wQA (s:Sch):Sch:=.fl 0 (.fl 1 (.fl 2 (.fl 3 (.fl 4 (.fl 5 (.fl 6 (.fl 7 (.fl 8 (.fl 9 (.fl 10 (.fl 11 (s))))))))))))
def wJV (s:Sch):Sch:=.fl 0 (.fl 1 (.fl 2 (.fl 3 (.fl 4 (.fl 5 (.fl 6 (.fl 7 (.fl 8 (.fl 9 (.fl 10 (.fl 11 (.fl 12 (s)))))))))))))
def wQB (s:Sch):Sch:=.fl 0 (.fl 1 (.fl 2 (.fl 3 (.fl 4 (.fl 5 (.fl 6 (.fl 7 (.fl 8 (.fl 9 (.fl 10 (.fl 11 (.fl 12 (.fl 13 (.fl 14 (s)))))))))))))))
def wQC (s:Sch):Sch:=.fl 0 (.fl 1 (.fl 2 (.fl 3 (.fl 4 (.fl 5 (.fl 6 (.fl 7 (.fl 8 (.fl 9 (.fl 10 (.fl 11 (.fl 12 (.fl 13 (.fl 14 (.fl 15 (s))))))))))))))))
def wQD (s:Sch):Sch:=.fl 0 (.fl 1 (.fl 2 (.fl 3 (.fl 4 (.fl 5 (.fl 6 (.fl 7 (.fl 8 (.fl 9 (.fl 10 (.fl 11 (.fl 12 (.fl 13 (.fl 14 (.fl 15 (.fl 16 (s)))))))))))))))))
def wQE (s:Sch):Sch:=.fl 0 (.fl 1 (.fl 2 (.fl 3 (.fl 4 (.fl 5 (.fl 6 (.fl 7 (.fl 8 (.fl 9 (.fl 10 (.fl 11 (.fl 12 (.fl 13 (.fl 14 (.fl 15 (.fl 16 (.fl 17 (.fl 18 (.fl 19 (.fl 20 (.fl 21 (.fl 22 (.fl 23 (.fl 24 (.fl 25 (.fl 26 (.fl 27 (.fl 28 (.fl 29 (.fl 30 (.fl 31 (.fl 32 (s)))))))))))))))))))))))))))))))))
def fC2_4 (s:Sch):Sch:=.fl 2 (.fl 3 (.fl 4 (s)))
def wIq (s:Sch):Sch:=.fl 2 (.fl 3 (.fl 4 (.fl 5 (.fl 6 (s)))))
def wQF (s:Sch):Sch:=.fl 2 (.fl 3 (.fl 4 (.fl 5 (.fl 6 (.fl 7 (.fl 8 (.fl 9 (.fl 10 (s)))))))))
def fC3_5 (s:Sch):Sch:=.fl 3 (.fl 4 (.fl 5 (s)))
def fC3_6 (s:Sch):Sch:=.fl 3 (.fl 4 (.fl 5 (.fl 6 (s))))
def wQG (s:Sch):Sch:=.fl 4 (.fl 5 (.fl 6 (s)))
def fC4_8 (s:Sch):Sch:=.fl 4 (.fl 5 (.fl 6 (.fl 7 (.fl 8 (s)))))
def fC5_9 (s:Sch):Sch:=.fl 5 (.fl 6 (.fl 7 (.fl 8 (.fl 9 (s)))))
def wQH (s:Sch):Sch:=.fl 5 (.fl 6 (.fl 7 (.fl 8 (.fl 9 (.fl 10 (.fl 11 (.fl 12 (.fl 13 (.fl 14 (.fl 15 (.fl 16 (s))))))))))))
def wNW (s:Sch):Sch:=.fl 6 (.fl 7 (.fl 8 (.fl 9 (.fl 10 (s)))))
def wNX (s:Sch):Sch:=.fl 6 (.fl 7 (.fl 8 (.fl 9 (.fl 10 (.fl 11 (.fl 12 (s)))))))
def wQI (s:Sch):Sch:=.fl 8 (.fl 9 (.fl 10 (s)))
def wNY (s:Sch):Sch:=.fl 9 (.fl 10 (.fl 11 (.fl 12 (.fl 13 (.fl 14 (.fl 15 (.fl 16 (.fl 17 (.fl 18 (.fl 19 (.fl 20 (s))))))))))))
def wMK (s:Sch):Sch:=.fl 10 (.fl 11 (.fl 12 (s)))
def wOq (s:Sch):Sch:=.fl 11 (.fl 12 (.fl 13 (.fl 14 (.fl 15 (.fl 16 (.fl 17 (.fl 18 (.fl 19 (s)))))))))
def wML (s:Sch):Sch:=.fl 14 (.fl 15 (.fl 16 (s)))
theorem zA:type_of% @Try.runUnderlying23:=@Try.runUnderlying23
theorem zB:type_of% @nT:=@nT
theorem zC:type_of% @Try.sizeOf3:=@Try.sizeOf3
theorem zD:type_of% @wKB:=@wKB
theorem zE:type_of% @Try.runUnderlying26:=@Try.runUnderlying26
theorem zF:type_of% @CK.seq:=@CK.seq
theorem zG:type_of% @Hid.mk:=@Hid.mk
theorem zH:type_of% @wGp:=@wGp
theorem zI:type_of% @Runs.fa:=@Runs.fa
theorem zJ:type_of% @Try.isAgg3:=@Try.isAgg3
theorem zK:type_of% @Enters.mk:=@Enters.mk
theorem zL:type_of% @OKS.r:=@OKS.r
theorem zM:type_of% @OKS.callH:=@OKS.callH
theorem zN:type_of% @Try.runUnderlying99:=@Try.runUnderlying99
theorem zO:type_of% @wKA:=@wKA
theorem zP:type_of% @Runs.pickT:=@Runs.pickT
theorem zQ:type_of% @CK.ret:=@CK.ret
theorem zR:type_of% @wGt:=@wGt
theorem zS:type_of% @wMw:=@wMw
theorem zU:type_of% @wFd:=@wFd
theorem zV:type_of% @CK.block:=@CK.block
theorem zW:type_of% @Runs.addw:=@Runs.addw
theorem zX:type_of% @Runs.lss:=@Runs.lss
theorem zY:type_of% @Try.sizeOf23:=@Try.sizeOf23
theorem zZ:type_of% @Try.sizeOf26:=@Try.sizeOf26
theorem zd:type_of% @wIt:=@wIt
theorem ze:type_of% @PHeap.Le.refl:=@PHeap.Le.refl
theorem zf:type_of% @wIr:=@wIr
theorem zg:type_of% @wJz:=@wJz
theorem zh:type_of% @OKS.rm:=@OKS.rm
theorem zi:type_of% @Runs.nilp:=@Runs.nilp
theorem zj:type_of% @Runs.pickF:=@Runs.pickF
theorem zk:type_of% @OKS.p:=@OKS.p
theorem zl:type_of% @Try.isAgg23:=@Try.isAgg23
theorem zm:type_of% @OKS.m:=@OKS.m
theorem zn:type_of% @CK.condF:=@CK.condF
theorem zo:type_of% @OKS.e:=@OKS.e
theorem zp:type_of% @Try.runUnderlying24:=@Try.runUnderlying24
theorem zq:type_of% @Try.runUnderlying35:=@Try.runUnderlying35
theorem zr:type_of% @wPB:=@wPB
theorem zt:type_of% @CK.condT:=@CK.condT
theorem zu:type_of% @Runs.to:=@Runs.to
theorem zw:type_of% @Try.sizeOf35:=@Try.sizeOf35
theorem zx:type_of% @Runs.ext:=@Runs.ext
theorem zy:type_of% @res1:=@res1
theorem zz:type_of% @Try.isAgg89:=@Try.isAgg89
theorem ZA:type_of% @OKS.st:=@OKS.st
theorem ZB:type_of% @wGq:=@wGq
theorem ZC:type_of% @Runs.len:=@Runs.len
theorem ZD:type_of% @Try.zeroValue26:=@Try.zeroValue26
theorem ZE:type_of% @Try.sizeOf44:=@Try.sizeOf44
theorem ZF:type_of% @Runs.iaI:=@Runs.iaI
theorem ZG:type_of% @Runs.iaN:=@Runs.iaN
theorem ZH:type_of% @Runs.build:=@Runs.build
theorem ZI:type_of% @Try.runUnderlying87:=@Try.runUnderlying87
theorem ZJ:type_of% @CK.anyOrd:=@CK.anyOrd
theorem ZK:type_of% @Try.mixed:=@Try.mixed
theorem ZL:type_of% @OKS.alloc:=@OKS.alloc
theorem ZM:type_of% @Try.zeroValue35:=@Try.zeroValue35
theorem ZN:type_of% @CK.exit:=@CK.exit
theorem ZO:type_of% @Try.sizeOf24:=@Try.sizeOf24
theorem ZP:type_of% @Runs.iaA:=@Runs.iaA
theorem ZQ:type_of% @Try.runUnderlying93:=@Try.runUnderlying93
theorem ZR:type_of% @CK.skip:=@CK.skip
theorem ZS:type_of% @Runs.notT:=@Runs.notT
theorem ZT:type_of% @Runs.neq:=@Runs.neq
theorem ZU:type_of% @Try.isAgg26:=@Try.isAgg26
theorem ZV:type_of% @Try.zeroValue44:=@Try.zeroValue44
theorem ZW:type_of% @OKS.makeSlice:=@OKS.makeSlice
theorem ZX:type_of% @OKS.box:=@OKS.box
theorem ZY:type_of% @Try.isAgg24:=@Try.isAgg24
theorem Za:type_of% @OKS.buildSlice:=@OKS.buildSlice
theorem Zb:type_of% @OKS.px:=@OKS.px
theorem Zc:type_of% @Runs.subw:=@Runs.subw
theorem Zd:type_of% @Try.runUnderlying95:=@Try.runUnderlying95
theorem Ze:type_of% @Try.isAgg35:=@Try.isAgg35
theorem Zf:type_of% @wPA:=@wPA
theorem Zg:type_of% @Try.sizeOf93:=@Try.sizeOf93
theorem Zh:type_of% @OKS.stR:=@OKS.stR
theorem Zi:type_of% @Try.zeroValue3:=@Try.zeroValue3
theorem Zj:type_of% @Try.sizeOf4:=@Try.sizeOf4
theorem Zk:type_of% @Try.isAgg44:=@Try.isAgg44
theorem Zl:type_of% @Try.call70:=@Try.call70
end Go.Proofs.Ytfcmijinklojbaa
namespace Go.Proofs.Ytfcmijinklojbaa
open Go.KL
set_option maxHeartbeats 4000000
theorem wDo (p0:List Int) (ab:Option Addr) (ae:Nat) (w:World) (U:PHeap) (hS:St0 w U []) (am:Sl U 1 ab ae p0.length (hH KL.encB8 p0)) {r:wAD} (hm:wBs p0=some r):Gv Try.prog 8 [.slice ab p0.length ae] w (wCp w [] U (fun U_ L_ v=>∃ (b0:Nat) (A0p0:Option Addr) (c0p0:Nat),v=.pointer (some ⟨b0,0,none⟩)/\L_=[.blk b0 87 [.slice A0p0 r.bytes.length c0p0,jV r.next,.int .u32 r.state]]/\Sl U_ 1 A0p0 c0p0 r.bytes.length (hH KL.encB8 r.bytes))):=by
 unfold wBs at hm
 refine Gv.of Try.func8 Z Try.ntmps8 Try.results8 Z (sR fL1 Z (oA Z Z (eN (sR gAu Z (oM Z Z ?_)))))
 let B0:List Value:=[.slice ab p0.length ae,jV 0,.int .u32 17]
 refine zL rfl rfl rfl rfl (fun _=>ZH (pv:=[(0,.slice ab p0.length ae),(2,.int .u32 17)]) (z:=[.slice none 0 0,jV 0,.int .u32 0]) (cs:=B0) rfl (wAJ rfl (wAJ rfl wAl)) Try.zeroValue87 wMm rfl rfl) (ZX (cs:=B0) rfl rfl rfl rfl rfl rfl (by rfl) hS ?_)
 intro W1 b2 ak
 refine oA Z Z (eN (zQ ?_))
 cases hm
 exact ⟨Z,_,(zy Z),U,_,ak,b2,ab,ae,Z,Z,am⟩
theorem wBS (p0:wAD) (aj:Nat) (ae:Option Addr) (ah:Nat) (p1:Int) (w:World) (U:PHeap) (hS:St0 w U [.blk aj 87 [.slice ae p0.bytes.length ah,jV p0.next,.int .u32 p0.state]]) (am:Sl U 1 ae ah p0.bytes.length (hH KL.encB8 p0.bytes)) {r:Int × wAD} (hm:wAT p0 p1=some r):Gv Try.prog 29 [.pointer (some ⟨aj,0,none⟩),jV p1] w (wCp w [.blk aj 87 [.slice ae p0.bytes.length ah,jV p0.next,.int .u32 p0.state]] U (fun U_ L_ v=>∃ (aV:Option Addr) (aX:Nat),v=jV r.1/\L_=[.blk aj 87 [.slice aV r.2.bytes.length aX,jV r.2.next,.int .u32 r.2.state]]/\Sl U_ 1 aV aX r.2.bytes.length (hH KL.encB8 r.2.bytes))):=by
 unfold wAT at hm
 refine Gv.of Try.func29 Z Try.ntmps29 Try.results29 Z (sR fL1 Z (oA Z Z (eN (zF (sR fL10 Z (oM Z Z (oR Z (Runs.leq Z Z Z) (oM Z Z ?_))))))))
 by_cases c2:p1 <= 1
 have ba:=hm;rw [if_pos c2] at ba;replace c2:=zG c2
 refine oT Z c2 (oT Z c2 (oT Z c2 (oT Z c2 (oT Z c2 (oT Z c2 (oR Z (zP Z (Zf c2.out) Z) (eN (zt Z (sR fL1 Z (oA Z Z (eN (zQ (zO ?_)))))))))))))
 cases ba
 exact ⟨Z,_,(zy Z),U,_,hS,ae,ah,Z,Z,am⟩
 have bb:=hm;rw [if_neg c2] at bb;replace c2:=zG c2
 refine zh Z Z Z (wF Z c2) Z Z (rU Z (wF Z c2) (zi Z Z) (rU Z (wF Z c2) (zI Z Z ZI Z Try.sizeOf22) (zm Z Z Z (wF Z c2) (hS.ldB (j:=0) Z Z Z Try.isAgg22 (v:=.slice ae p0.bytes.length ah) Z) Z (rU Z (wF Z c2) (ZC Z Z Try.runUnderlying22) (rU Z (wF Z c2) (Runs.eql Z Z Z) (oR Z (zj Z (zr c2.out) Z) (eN (ifc bb ?_ ?_))))))))
 intro c5 bD
 refine cT Z c5 (sR fL1 Z (oA Z Z (eN (zQ (zO ?_)))))
 cases bD
 exact ⟨Z,_,(zy Z),U,_,hS,ae,ah,Z,Z,am⟩
 intro c5 bE
 refine cF Z c5 (kN (zF (ZJ ZK [3,3,3,1,3,3,3,1,3,3,3,1,3,3,3,1,3,3,3,3,1,3,3,3,1,3,3,3,3,3] fL30 (by kernel_rfl) ?_)))
 have ai:=hS.drew
 generalize hw_W9:({ w with drawn:=w.drawn + 1 }:World)=W9 at ai ⊢
 refine oM Z Z (oR Z (zi Z Z) (oR Z (zI Z Z ZI Z Try.sizeOf22) (oL Z (ai.ldB (j:=0) Z Z Z Try.isAgg22 (v:=.slice ae p0.bytes.length ah) Z) (oM Z Z (oR Z (zi Z Z) (oR Z (zI Z Z ZI Z zC) (oL Z (ai.ldB (j:=0) Z Z Z zJ (v:=jV p0.next) Z) (oM Z Z (oR Z (zi Z Z) (oR Z (zI Z Z ZI Z Try.sizeOf22) (oL Z (ai.ldB (j:=0) Z Z Z Try.isAgg22 (v:=.slice ae p0.bytes.length ah) Z) (oR Z (ZC Z Z Try.runUnderlying22) (bnK bE fun bJ bg bq=>oR Z (Runs.rem Z Z Z bg) (bnK bq fun x13 aU br=>?_))))))))))))))
 have q:=am.el (fun _=>rfl) (wBU aU)
 obtain ⟨bH,bI,bm,bn⟩:=q
 refine oR Z (ZF Z Z bm Z Try.runUnderlying22 Try.sizeOf5 (wEc aU) (wFD aU)) (oL Z (ai.ldC (f:=0) bn (v:=.int .u8 x13) Z Z Try.isAgg5 Z) (oR Z (Runs.cvu Z Z Try.runUnderlying5 Try.runUnderlying85 Z Z) (oM Z Z (oR Z (zi Z Z) (oR Z (zI Z Z ZI Z zC) (oL Z (ai.ldB (j:=0) Z Z Z zJ (v:=jV p0.next) Z) (oM Z Z (oR Z (zi Z Z) (oR Z (zI Z Z ZI Z Try.sizeOf22) (oL Z (ai.ldB (j:=0) Z Z Z Try.isAgg22 (v:=.slice ae p0.bytes.length ah) Z) (oR Z (ZC Z Z Try.runUnderlying22) (bnK br fun bF bh bs=>oR Z (Runs.quo Z Z Z bh) (oR Z (Runs.cvu Z Z Try.runUnderlying3 Try.runUnderlying85 Z Z) (oA Z Z (oA Z Z (eN (zF (CK.fresh fun aR au=>?_))))))))))))))))))
 have ap:aR 0=.pointer (some ⟨aj,0,none⟩):=(au 0).trans rfl
 have av:aR 1=jV p1:=(au 1).trans rfl
 have az:aR 5=.int .u32 (wDf x13):=(au 5).trans rfl
 have aY:aR 6=.int .u32 (wDf bF):=(au 6).trans rfl
 clear au
 refine rR (wHU (.fx 7 .nil .stop)) Z (oM Z ap (oR Z (zi Z Z) (oR Z (zI Z Z ZI Z zC) (oL Z (ai.ldB (j:=0) Z Z Z zJ (v:=jV p0.next) Z) (oR Z (zW Z Z Z) (oR Z (zi Z Z) (oR Z (zI Z Z ZI Z zC) (ZA (j:=0) (vs:=[jV (w64 (p0.next + 1))]) Z Z Z Z ai Z Z Z Z zC (zB Z) Z Z Z ?_))))))))
 intro be bo
 let B0:Res:=.blk aj 87 [.slice ae p0.bytes.length ah,jV p0.next,.int .u32 p0.state]
 have aZ:SW w [B0] U U [.blk aj 87 [.slice ae p0.bytes.length ah,jV (w64 (p0.next + 1)),.int .u32 p0.state]] be:=bo
 refine eN (sR (wQB (.fx 15 .nil .stop)) Z (oM Z ap (oM Z ap (oR Z (zi Z Z) (oR Z (zI Z Z ZI Z Try.sizeOf85) (oL Z (aZ.ldB (j:=0) Z Z Z Try.isAgg85 (v:=.int .u32 p0.state) Z) (oR Z (Runs.mulu Z Z Z) (oM Z az (oR Z (Runs.addu Z Z Z) (oM Z aY (oR Z (Runs.mulu Z Z Z) (oR Z (Runs.addu Z Z Z) (oR Z (Runs.addu Z Z Z) (bnK bs fun x32 bi bt=>oR Z (Runs.rem Z Z Z bi) (oR Z (zi Z Z) (oR Z (zI Z Z ZI Z Try.sizeOf85) (ZA (j:=0) (vs:=[.int .u32 x32]) Z Z Z Z aZ Z Z Z Z Try.sizeOf85 (zB Z) Z Z Z ?_)))))))))))))))))
 intro bf bp
 have aq:SW w [B0] U U [.blk aj 87 [.slice ae p0.bytes.length ah,jV (w64 (p0.next + 1)),.int .u32 x32]] bf:=bp
 refine eN (zF (sR fL6 Z (oM Z aY (oR Z (Runs.eql Z Z Z) (oM Z Z (ifc bt ?_ ?_))))))
 intro ak bu
 refine zh Z Z Z (wT Z ak) Z av (rU Z (wT Z ak) (Runs.leq Z Z Z) (oR Z (zP Z (Zf ak.out) Z) (eN (ifc bu ?_ ?_))))
 intro aS bv
 refine cT Z aS (sR fL5 Z (oM Z az (oR Z (Runs.cvw Z Z Try.runUnderlying85 Try.runUnderlying3 Z Z) (oM Z av (bnK bv fun x42 bj bw=>oR Z (Runs.rem Z Z Z bj) (oA Z Z (eN (zQ (zO ?_)))))))))
 cases bw
 exact ⟨Z,_,(zy Z),U,_,aq,ae,ah,Z,Z,am⟩
 intro aS bz
 refine cF Z aS (kN (sR fL11 Z (oM Z ap (oR Z (zi Z Z) (oR Z (zI Z Z ZI Z Try.sizeOf85) (oL Z (aq.ldB (j:=0) Z Z Z Try.isAgg85 (v:=.int .u32 x32) Z) (oR Z (Runs.mulu Z Z Z) (oM Z az (oR Z (Runs.addu Z Z Z) (oR Z (Runs.cvw Z Z Try.runUnderlying85 Try.runUnderlying3 Z Z) (oM Z av (bnK bz fun x46 bk bA=>oR Z (Runs.rem Z Z Z bk) (oA Z Z (eN (zQ ?_)))))))))))))))
 cases bA
 exact ⟨Z,_,(zy Z),U,_,aq,ae,ah,Z,Z,am⟩
 intro ak bB
 refine oF Z ak (oF Z ak (oR Z (zj Z (zr ak.out) Z) (eN (zn Z (kN (sR fL11 Z (oM Z ap (oR Z (zi Z Z) (oR Z (zI Z Z ZI Z Try.sizeOf85) (oL Z (aq.ldB (j:=0) Z Z Z Try.isAgg85 (v:=.int .u32 x32) Z) (oR Z (Runs.mulu Z Z Z) (oM Z az (oR Z (Runs.addu Z Z Z) (oR Z (Runs.cvw Z Z Try.runUnderlying85 Try.runUnderlying3 Z Z) (oM Z av (bnK bB fun x50 bl bC=>oR Z (Runs.rem Z Z Z bl) (oA Z Z (eN (zQ ?_)))))))))))))))))))
 cases bC
 exact ⟨Z,_,(zy Z),U,_,aq,ae,ah,Z,Z,am⟩
theorem wCC (p0:wAD) (ab:Nat) (ae:Option Addr) (ah:Nat) (p1:Int) (p2:Int) (w:World) (U:PHeap) (hS:St0 w U [.blk ab 87 [.slice ae p0.bytes.length ah,jV p0.next,.int .u32 p0.state]]) (aV:Sl U 1 ae ah p0.bytes.length (hH KL.encB8 p0.bytes)) {r:Int × wAD} (hm:wAX p0 p1 p2=some r):Gv Try.prog 40 [.pointer (some ⟨ab,0,none⟩),jV p1,jV p2] w (wCp w [.blk ab 87 [.slice ae p0.bytes.length ah,jV p0.next,.int .u32 p0.state]] U (fun U_ L_ v=>∃ (ap:Option Addr) (av:Nat),v=jV r.1/\L_=[.blk ab 87 [.slice ap r.2.bytes.length av,jV r.2.next,.int .u32 r.2.state]]/\Sl U_ 1 ap av r.2.bytes.length (hH KL.encB8 r.2.bytes))):=by
 unfold wAX at hm
 refine Gv.of Try.func40 Z Try.ntmps40 Try.results40 Z (sR fL1 Z (oA Z Z (eN (sR (wIp (.fx 6 gAf .stop)) Z (oM Z Z (oM Z Z (oM Z Z (oM Z Z (oR Z (Zc Z Z Z) (oR Z (zW Z Z Z) ?_))))))))))
 have q:=bnd hm
 obtain ⟨⟨x2,x3⟩,h4,az⟩:=q
 try dsimp only at az
 refine zM 1 Z Z Z Z (zK Z Z Try.call29 (zD Z (zD Z zS)) Z) hS (fun hs=>wBS p0 ab ae ah (w64 ((w64 (p2 - p1)) + 1)) w U hs aV h4) (.inl Z) ?_
 rintro U6 L7 v8 W9 aX aT ⟨am,au,rfl,rfl,aR⟩
 have aU:SW w [.blk ab 87 [.slice ae p0.bytes.length ah,jV p0.next,.int .u32 p0.state]] U U6 [.blk ab 87 [.slice am x3.bytes.length au,jV x3.next,.int .u32 x3.state]] W9:=aT
 refine oR Z (zW Z Z Z) (oA Z Z (eN (zQ ?_)))
 cases az
 exact ⟨Z,_,(zy Z),U6,_,aU,am,au,Z,Z,aR⟩
theorem wBT (p0:wAD) (ab:Nat) (ae:Option Addr) (ah:Nat) (p1:Int) (w:World) (U:PHeap) (hS:St0 w U [.blk ab 87 [.slice ae p0.bytes.length ah,jV p0.next,.int .u32 p0.state]]) (aU:Sl U 1 ae ah p0.bytes.length (hH KL.encB8 p0.bytes)) {r:Bool × wAD} (hm:wAa p0 p1=some r):Gv Try.prog 33 [.pointer (some ⟨ab,0,none⟩),jV p1] w (wCp w [.blk ab 87 [.slice ae p0.bytes.length ah,jV p0.next,.int .u32 p0.state]] U (fun U_ L_ v=>∃ (am:Option Addr) (au:Nat),v=.bool r.1/\L_=[.blk ab 87 [.slice am r.2.bytes.length au,jV r.2.next,.int .u32 r.2.state]]/\Sl U_ 1 am au r.2.bytes.length (hH KL.encB8 r.2.bytes))):=by
 unfold wAa at hm
 refine Gv.of Try.func33 Z Try.ntmps33 Try.results33 Z (sR fL1 Z (oA Z Z (eN (sR gAw Z (oM Z Z (oM Z Z ?_))))))
 have q:=bnd hm
 obtain ⟨⟨x2,x3⟩,h4,av⟩:=q
 try dsimp only at av
 refine zM 1 Z Z Z Z (zK Z Z Try.call29 (zD Z (zD Z zS)) Z) hS (fun hs=>wBS p0 ab ae ah p1 w U hs aU h4) (.inl Z) ?_
 rintro U6 L7 v8 W9 aW aS ⟨ak,aq,rfl,rfl,aQ⟩
 have aT:SW w [.blk ab 87 [.slice ae p0.bytes.length ah,jV p0.next,.int .u32 p0.state]] U U6 [.blk ab 87 [.slice ak x3.bytes.length aq,jV x3.next,.int .u32 x3.state]] W9:=aS
 refine oR Z (Runs.eql Z Z Z) (oA Z Z (eN (zQ ?_)))
 cases av
 exact ⟨Z,_,(zy Z),U6,_,aT,ak,aq,Z,Z,aQ⟩
theorem wBt (p0:List wAA) (au:Option Addr) (av:Nat) (p1:wAA) (w:World) (U:PHeap) (hS:St0 w U []) (bn:Sl U 2 au av p0.length (hH wAB p0)) {r:Int} (hm:wAY p0 p1=some r):Gv Try.prog 41 [.slice au p0.length av,.agg #[jV p1.Skier,jV p1.Lane]] w (wCp w [] U (fun U_ L_ v=>v=jV r/\L_=[])):=by
 unfold wAY at hm
 refine Gv.of Try.func41 Z Try.ntmps41 Try.results41 Z (sR gAh Z ?_)
 let B0:List Value:=[jV p1.Skier,jV p1.Lane]
 refine ZX (cs:=B0) rfl rfl rfl rfl rfl rfl (by rfl) hS ?_
 intro W1 b2 bl
 refine oA Z Z (eN (zF (sR fL3 Z (oM Z Z (oR Z (ZC Z Z zp) (oM Z Z (eN (zV ?_))))))))
 have q:=wCj hm
 obtain ⟨r7,am⟩:=q
 have q:=wCi am
 obtain ⟨aq,bq⟩:=q
 replace aq:=zG aq
 refine CK.forN (fun k6 _ σ_ w_=>∃ (U_:PHeap),σ_ 8=jV (↑k6:Int)/\σ_ 0=.slice au p0.length av/\σ_ 3=.pointer (some ⟨b2,0,none⟩)/\σ_ 7=jV (↑p0.length:Int)/\PHeap.Le U U_/\sW w U U_ [.blk b2 35 B0] w_) bq ?_ ?_ ?_
 exact ⟨U,Z,Z,Z,Z,(ze _),bl⟩
 rintro k6 ⟨⟩ bI bJ aQ ap ⟨az,ak,aT,aU,aV,aZ,bk⟩ aY bo
 try dsimp only at aY
 have aS:Hid ((↑k6:Int) < (↑p0.length:Int)):=zG (wBe ap)
 replace ap:=zG ap
 have br:Hid (w64 ((↑k6:Int) + 1)=(↑(k6 + 1):Int)):=zG (by have h1:=aq.out;have h2:=aS.out;rw [wAd] <;> omega)
 refine sR fL1 rfl (zL rfl rfl rfl rfl (fun _=>zX rfl ak aV) (eN (zF (cT Z aS (kN (zF (zV (sR fL2 rfl (zh rfl rfl rfl rfl rfl ak (OKS.ra rfl rfl rfl rfl rfl rfl (eN (zF (ZJ ZK [1,3,3,3,1,3] fL6 (by kernel_rfl) ?_)))))))))))))
 have ae:=bk.drew
 generalize hw_W27:({ aQ with drawn:=aQ.drawn + 1 }:World)=bA at ae ⊢
 refine oL Z (ae.ldBA (j:=0) Z Z aU Ze zw (vs:=B0) Z Z) (oM Z aT (oM Z Z (bnK aY fun x28 aW bs=>?_)))
 have bh:=bn.le aZ
 have q:=bh.el (fun _=>rfl) (wBU aW)
 obtain ⟨bC,bG,bi,bj⟩:=q
 refine oR Z (ZG Z Z bi Z zp zw (wCt aW)) (oL Z (ae.ldCA (f:=0) bj Z Z Ze zw (us:=[jV x28.Skier,jV x28.Lane]) Z Z) (oR Z (Runs.eqS (enc:=wAB) (a:=p1) (b:=x28) Z Z Z eqT35 eqG35) (eN (ifc bs ?_ ?_))))
 intro aj bt
 refine cT Z aj (sR fL2 Z (oM Z Z (oA Z Z (eN (zQ (zd (zO ?_)))))))
 have q:=wAo bt
 obtain ⟨bw,bu,be⟩:=q
 have q:=wBz hm am (bo bw be)
 obtain rfl:=q
 refine zO (zd (zO ?_))
 cases bu
 exact ⟨rfl,_,(zy rfl),az,_,(ae.pick [] _ (by decide) rfl),rfl,rfl⟩
 intro aj bv
 refine cF Z aj (ZR (zf (zH (rR fL2 Z (oR Z (zu (zW Z ak Z) (congrArg (jV) br.out)) (oM Z Z (zo ?_)))))))
 have q:=nD bv
 obtain rfl:=q
 exact zH ⟨Z,_,Z,⟨az,Z,aT,aU,aV,aZ,ae⟩⟩
 rintro ⟨⟩ bK bB ⟨ba,bg,bD,bE,bf,bF,bm⟩ bp
 have aX:=wDh hm am bp
 try dsimp only at aX
 have bb:Hid (¬ ((↑(((↑p0.length:Int):Int) - 0).toNat:Int) < (↑p0.length:Int))):=zG (wBD)
 refine sR fL1 Z (oR Z (zX Z bg bf) (eN (zF (cF Z bb (ZN (zg (zg (ZB (zH (sR fL1 Z (oA Z Z (eN (zQ ?_)))))))))))))
 cases aX
 exact ⟨rfl,_,(zy rfl),ba,_,(bm.pick [] _ (by decide) rfl),rfl,rfl⟩
theorem wAU (p0:List wAA) (ah:Option Addr) (ai:Nat) (p1:wAA) (w:World) (U:PHeap) (hS:St0 w U []) (aR:Sl U 2 ah ai p0.length (hH wAB p0)) {r:Bool} (hm:wAG p0 p1=some r):Gv Try.prog 10 [.slice ah p0.length ai,.agg #[jV p1.Skier,jV p1.Lane]] w (wCp w [] U (fun U_ L_ v=>v=.bool r/\L_=[])):=by
 unfold wAG at hm
 refine Gv.of Try.func10 Z Try.ntmps10 Try.results10 Z (sR gAh Z ?_)
 let B0:List Value:=[jV p1.Skier,jV p1.Lane]
 refine ZX (cs:=B0) rfl rfl rfl rfl rfl rfl (by rfl) hS ?_
 intro W1 b2 ak
 refine oA Z Z (eN (sR gAw Z (oM Z Z (oL Z (ak.ldBA (j:=0) Z Z Z Ze zw (vs:=B0) Z Z) (bnK hm fun x5 h6 am=>zM 0 Z Z Z Z (zK Z Z Try.call41 (zD Z (zD Z zS)) Z) ak (fun hs=>wBt p0 ah ai p1 W1 U hs aR h6) (.inr Z) ?_)))))
 rintro U8 L9 aU aq aT az ⟨rfl,rfl⟩
 have aQ:sW w U U8 [.blk b2 35 B0] aq:=az
 refine oR Z (Runs.geq Z Z Z) (oA Z Z (eN (zQ ?_)))
 first | (obtain rfl:=nD am) | cases am
 exact ⟨rfl,_,(zy rfl),U8,_,(aQ.pick [] _ (by decide) rfl),rfl,rfl⟩
theorem wEU (p0:wAD) (am:Nat) (cP:Option Addr) (cQ:Nat) (p1:Int) (w:World) (U:PHeap) (hS:St0 w U [.blk am 87 [.slice cP p0.bytes.length cQ,jV p0.next,.int .u32 p0.state]]) (po:Sl U 1 cP cQ p0.bytes.length (hH KL.encB8 p0.bytes)) {r:wAC × (List (List Int)) × wAD} (hm:wBR p0 p1=some r):Gv Try.prog 7 [.pointer (some ⟨am,0,none⟩),jV p1] w (wCp w [.blk am 87 [.slice cP p0.bytes.length cQ,jV p0.next,.int .u32 p0.state]] U (fun U_ L_ v=>∃ (fL:Option Addr) (gB:Nat) (fM:Option Addr) (gC:Nat) (fN:Option Addr) (gD:Nat) (A1:Option Addr) (c1:Nat) (gR:List Value) (fV:Option Addr) (gQ:Nat),v=.tuple #[.agg #[.slice fL r.1.Shots.length gB,.slice fM r.1.Down.length gC,.slice fN r.1.Across.length gD],.slice A1 r.2.1.length c1]/\L_=[.row fL gB 3 1 (hH KL.encI r.1.Shots),.row fM gC 3 1 (hH KL.encI r.1.Down),.row A1 c1 23 1 gR,.blk am 87 [.slice fV r.2.2.bytes.length gQ,jV r.2.2.next,.int .u32 r.2.2.state]]/\Sl U_ 2 fN gD r.1.Across.length (hH wAB r.1.Across)/\RlL U_ wPt r.2.1 gR/\Sl U_ 1 fV gQ r.2.2.bytes.length (hH KL.encB8 r.2.2.bytes))):=by
 unfold wBR at hm
 refine Gv.of Try.func7 Z Try.ntmps7 Try.results7 Z (sR gAh Z ?_)
 let B0:List Value:=[.slice none 0 0,.slice none 0 0,.slice none 0 0]
 refine ZL (cs:=B0) Z Z Z Z Z ZD Z hS ?_
 intro W2 b3 oa
 refine oA Z Z (eN (sR (.fx 0 .nil .stop) Z (ZL (cs:=B0) Z Z Z Z Z ZD Z oa ?_)))
 intro W6 b7 o6
 refine eN (sR gAu Z (oM Z Z (oM Z Z ?_)))
 have q:=bnd hm
 obtain ⟨⟨aR,fA⟩,lP,ir⟩:=q
 try dsimp only at ir
 let B1:Res:=.blk am 87 [.slice cP p0.bytes.length cQ,jV p0.next,.int .u32 p0.state]
 have mP:SW w [B1] U U [B1,.blk b7 26 B0,.blk b3 26 B0] W6:=o6.pick [2,0,1] _ (by decide) rfl
 refine zM 1 Z Z Z Z (zK Z Z Try.call40 (zD Z (zD Z (zD Z zS))) Z) mP (fun hs=>wCC p0 am cP cQ 1 p1 W6 U hs po lP) (.inl Z) ?_
 rintro ed qZ rL iX rJ mW ⟨fP,gG,rfl,rfl,lS⟩
 have mY:SW w [B1] U ed [.blk am 87 [.slice fP fA.bytes.length gG,jV fA.next,.int .u32 fA.state],.blk b7 26 B0,.blk b3 26 B0] iX:=mW
 refine oA Z Z (eN (zF (sR fL2 Z (oM Z Z (oM Z Z (eN (zV ?_)))))))
 have q:=bnd ir
 obtain ⟨⟨qW,qX,qY,aU⟩,pB,iE⟩:=q
 try dsimp only at iE
 have q:=wBf pB
 obtain ⟨fe,pC⟩:=q
 replace fe:=zG fe
 refine CK.forN' (fun bn (dI,x56,x57,fq) σ_ w_=>∃ (U_:PHeap) (cX:Option Addr) (dx:Nat) (da:Option Addr) (dz:Nat),σ_ 18=jV (↑bn:Int)/\σ_ 0=.pointer (some ⟨am,0,none⟩)/\σ_ 4=.pointer (some ⟨b3,0,none⟩)/\σ_ 6=.pointer (some ⟨b7,0,none⟩)/\σ_ 7=jV aR/\σ_ 17=jV aR/\PHeap.Le ed U_/\SW w [B1] U U_ [.blk am 87 [.slice cX dI.length dx,jV x56,.int .u32 x57],.row da dz 35 2 (hH wAB fq),.blk b7 26 [.slice none 0 0,.slice none 0 0,.slice da fq.length dz],.blk b3 26 B0] w_/\Sl U_ 1 cX dx dI.length (hH KL.encB8 dI)) pC ?_ ?_ ?_
 have oO:=mY.nilrow 35 2
 exact ⟨ed,fP,gG,none,0,rfl,rfl,rfl,rfl,rfl,rfl,(ze _),(oO.pick [1,0,2,3] _ (by decide) rfl),lS⟩
 rintro bn ⟨dI,x56,x57,fq⟩ sd sw ry eZ ⟨gh,cX,dx,da,dz,eJ,lg,ls,ly,g8,g9,qJ,pa,mE⟩ iJ
 try dsimp only at iJ
 have gM:Hid ((↑bn:Int) < aR):=zG (wBe eZ)
 replace eZ:=zG eZ
 have pY:Hid (w64 ((↑bn:Int) + 1)=(↑(bn + 1):Int)):=zG (by have h1:=fe.out;have h2:=gM.out;rw [wAd] <;> omega)
 refine sR fL1 Z (oR Z (zX Z eJ g9) (eN (zF (cT Z gM (kN (zF (zV (sR fL2 Z (oM Z eJ (oA Z Z (eN (sR fL2 Z (oM Z g8 (oM Z Z (eN (zV ?_))))))))))))))))
 have q:=bnd iJ
 obtain ⟨⟨se,sf,sg,sj⟩,pp,iq⟩:=q
 try dsimp only at iq
 have q:=wBf pp
 obtain ⟨fb,pq⟩:=q
 replace fb:=zG fb
 refine CK.forN' (fun bz (cK,x120,x121,bW) σ_ w_=>∃ (U_:PHeap) (cq:Option Addr) (cy:Nat) (bL:Option Addr) (bN:Nat),σ_ 22=jV (↑bz:Int)/\σ_ 0=.pointer (some ⟨am,0,none⟩)/\σ_ 4=.pointer (some ⟨b3,0,none⟩)/\σ_ 6=.pointer (some ⟨b7,0,none⟩)/\σ_ 7=jV aR/\σ_ 8=jV (↑bn:Int)/\σ_ 17=jV aR/\σ_ 18=jV (↑bn:Int)/\σ_ 21=jV aR/\PHeap.Le gh U_/\SW w [B1] U U_ [.blk am 87 [.slice cq cK.length cy,jV x120,.int .u32 x121],.row bL bN 35 2 (hH wAB bW),.blk b7 26 [.slice none 0 0,.slice none 0 0,.slice bL bW.length bN],.blk b3 26 B0] w_/\Sl U_ 1 cq cy cK.length (hH KL.encB8 cK)) pq ?_ ?_ ?_
 exact ⟨gh,cX,dx,da,dz,Z,lg,ls,ly,g8,Z,g9,eJ,Z,(ze _),pa,mE⟩
 rintro bz ⟨cK,x120,x121,bW⟩ r9 sk iV eW ⟨ge,cq,cy,bL,bN,cD,dB,eD,cB,eE,cC,eF,eG,dC,ft,ij,ic⟩ fg
 try dsimp only at fg
 have gF:Hid ((↑bz:Int) < aR):=zG (wBe eW)
 replace eW:=zG eW
 have eV:Hid (w64 ((↑bz:Int) + 1)=(↑(bz + 1):Int)):=zG (by have h1:=fb.out;have h2:=gF.out;rw [wAd] <;> omega)
 refine sR fL1 Z (oR Z (zX Z cD dC) (eN (zF (cT Z gF (kN (zF (zV (sR fL2 Z (oM Z cD (oA Z Z (eN (sR (wGL gAi) Z (oM Z cC (oM Z Z (oR Z (ZT Z Z Z) (oM Z Z ?_))))))))))))))))
 by_cases bp:(↑bn:Int)=(↑bz:Int)
 have it:=fg;rw [if_pos bp] at it;replace bp:=zG bp
 refine zk Z Z Z (zU Z Z (zr (fun h=>h bp.out)) Z) (Zb Z Z Z (zU Z Z (zr (fun h=>h bp.out)) Z) (oR Z (zj Z (zr (fun h=>h bp.out)) Z) (eN (zn Z (ZR (zf (zH (rR fL2 Z (oR Z (zu (zW Z cD Z) (congrArg (jV) eV.out)) (oM Z Z (zo ?_)))))))))))
 cases it
 exact zH ⟨Z,⟨ge,cq,cy,bL,bN,Z,dB,eD,cB,eE,cC,eF,eG,dC,ft,ij,ic⟩⟩
 have iu:=fg;rw [if_neg bp] at iu;replace bp:=zG bp
 refine zh Z Z Z (wT Z bp) Z dB ?_
 have q:=bnd iu
 obtain ⟨⟨rW,fB⟩,lQ,iv⟩:=q
 try dsimp only at iv
 refine zM 1 Z Z Z (wT Z bp) (zK Z Z Try.call33 (zD Z (zD Z zS)) Z) ij (fun hs=>wBT (⟨cK,x120,x121⟩:wAD) am cq cy 4 iV ge hs ic lQ) (.inl Z) ?_
 rintro cg rc rM iW iK mQ ⟨dO,ei,rfl,rfl,ie⟩
 let B2:Res:=.blk am 87 [.slice dO fB.bytes.length ei,jV fB.next,.int .u32 fB.state]
 let B3:Res:=.blk b7 26 [.slice none 0 0,.slice none 0 0,.slice bL bW.length bN]
 let B4:Res:=.row bL bN 35 2 (hH wAB bW)
 have eM:SW w [B1] U cg [B2,B4,B3,.blk b3 26 B0] iW:=mQ
 refine oR Z (zP Z (Zf bp.out) Z) (eN (ifc iv ?_ ?_))
 intro ej pZ
 refine zt (congrArg nA ej.out) (rR (wGL (.fx 5 (.fx 6 (.fl 7 (.fx 8 .nil .stop)) .stop) .stop)) Z (oR Z (zI Z cB zE Z ZO) (oL Z (eM.ldB (j:=2) Z Z Z ZY (v:=.slice bL bW.length bN) Z) (oM Z cC (oM Z Z ?_)))))
 let B5:List Value:=[jV (↑bn:Int),jV (↑bz:Int)]
 refine oR Z (ZH (pv:=[(0,jV (↑bn:Int)),(1,jV (↑bz:Int))]) (z:=[jV 0,jV 0]) (cs:=B5) Z (wAJ Z (wAJ Z wAl)) ZM wCd Z Z) (Za (pv:=[(0,.agg B5.toArray)]) (zs:=[jV 0,jV 0]) (cs:=B5) Z Z Z Z Z (wAJ Z wAl) zp zw ZM Z Z Z Z Z eM ?_)
 intro iY jo mR
 let B6:Res:=.row (some ⟨jo,0,none⟩) 1 35 2 (hH wAB [(⟨(↑bn:Int),(↑bz:Int)⟩:wAA)])
 have ik:SW w [B1] U cg [B6,B2,B4,B3,.blk b3 26 B0] iY:=mR
 refine bnK pZ fun dM lR p6=>OKS.append (j:=2) (enc:=wAB) (xs:=bW) (ys:=[(⟨(↑bn:Int),(↑bz:Int)⟩:wAA)]) (zs:=dM) rfl rfl rfl rfl rfl Try.underlying24 wLi rfl rfl rfl rfl rfl rfl ik rfl rfl rfl (ik.srcR (j:=0) rfl (by decide) (wAF (f:=wAB) (sz:=2) (fun _=>rfl) [(⟨(↑bn:Int),(↑bz:Int)⟩:wAA)])) (fun _=>rfl) (fun _=>rfl) lR rfl ?_
 intro cU dr iZ mS
 let B7:Res:=.row cU dr 35 2 (hH wAB dM)
 have mT:SW w [B1] U cg [B6,B2,B7,B3,.blk b3 26 B0] iZ:=mS
 refine oR Z (zI Z cB zE Z ZO) (ZA (j:=3) (vs:=[.slice cU dM.length dr]) Z Z Z Z mT Z Z Z Z ZO (zB Z) Z Z Z ?_)
 intro i3 mU
 have mV:SW w [B1] U cg [B6,B2,B7,.blk b7 26 [.slice none 0 0,.slice none 0 0,.slice cU dM.length dr],.blk b3 26 B0] i3:=mU
 refine zo (zf (zH (rR fL2 Z (oR Z (zu (zW Z cD Z) (congrArg (jV) eV.out)) (oM Z Z (zo ?_))))))
 cases p6
 exact zH ⟨rfl,⟨cg,dO,ei,cU,dr,rfl,dB,eD,cB,eE,cC,eF,eG,dC,(ft.trans iK),(mV.pick [1,2,3,4] _ (by decide) rfl),ie⟩⟩
 intro ej p7
 refine zn (congrArg nA (nB.2 ej.out)) (ZR (zf (zH (rR fL2 Z (oR Z (zu (zW Z cD Z) (congrArg (jV) eV.out)) (oM Z Z (zo ?_)))))))
 cases p7
 exact zH ⟨Z,⟨cg,dO,ei,bL,bN,Z,dB,eD,cB,eE,cC,eF,eG,dC,(ft.trans iK),eM,ie⟩⟩
 rintro sn ru ⟨iR,iP,jr,iQ,jt,lL,jy,jz,jA,jB,rD,jC,jD,jE,qH,mX,lT⟩
 have ju:Hid (¬ ((↑((aR:Int) - 0).toNat:Int) < aR)):=zG (wBD)
 refine sR fL1 Z (oR Z (zX Z lL jE) (eN (zF (cF Z ju (ZN (zg (zg (ZB (zf (zH (rR fL2 Z (oR Z (zu (zW Z jD Z) (congrArg (jV) pY.out)) (oM Z Z (zo ?_))))))))))))))
 cases iq
 exact zH ⟨Z,⟨iR,iP,jr,iQ,jt,Z,jy,jz,jA,jB,jC,(qJ.trans qH),mX,lT⟩⟩
 rintro sq rx ⟨gf,fQ,gH,aV,aW,lM,jG,jH,gT,eH,jJ,rK,mZ,lU⟩
 have jv:Hid (¬ ((↑((aR:Int) - 0).toNat:Int) < aR)):=zG (wBD)
 refine sR fL1 Z (oR Z (zX Z lM jJ) (eN (zF (cF Z jv (ZN (zg (zg (ZB (zH (sR (.fl 0 (.fx 1 (.fl 2 (.fx 3 .nil .stop)) .stop)) Z (oM Z eH (bnK iE fun ak lV p8=>ZW (enc:=KL.encI) (z:=(0:Int)) (v:=jV 0) Z Z Z Z Z (wBv zA) wDz Z Z Z Z Z Z lV mZ ?_))))))))))))
 intro i5 aq m4
 let B8:Res:=.row (some ⟨aq,0,none⟩) ak.length 3 1 (hH KL.encI ak)
 let B9:Res:=.blk am 87 [.slice fQ qW.length gH,jV qX,.int .u32 qY]
 let fW:Res:=.row aV aW 35 2 (hH wAB aU)
 have m5:SW w [B1] U gf [B8,B9,fW,.blk b7 26 [.slice none 0 0,.slice none 0 0,.slice aV aU.length aW],.blk b3 26 B0] i5:=m4
 refine oR Z (zI Z gT zE Z zY) (ZA (j:=3) (vs:=[.slice (some ⟨aq,0,none⟩) ak.length ak.length]) Z Z Z Z m5 Z Z Z Z zY (zB Z) Z Z Z ?_)
 intro gj m6
 let fY:Res:=.blk b7 26 [.slice none 0 0,.slice (some ⟨aq,0,none⟩) ak.length ak.length,.slice aV aU.length aW]
 have m7:SW w [B1] U gf [B8,B9,fW,fY,.blk b3 26 B0] gj:=m6
 refine eN (sR fL1 Z (oA Z Z (eN (zF (sR fL2 Z (oM Z eH (oM Z Z (eN (zV ?_)))))))))
 have q:=m7.freezeR (k:=2) (n:=aU.length) rfl (wAF (f:=wAB) (sz:=2) (fun _=>rfl) aU) (by decide)
 obtain ⟨ef,qI,ff,m8⟩:=q
 have m9:SW w [B1] U ef [B8,B9,fY,.blk b3 26 B0] gj:=m8
 have q:=bnd p8
 obtain ⟨⟨qP,qQ,qR,iM,iN,qS⟩,pt,iw⟩:=q
 try dsimp only at iw
 have q:=wBf pt
 obtain ⟨fc,pu⟩:=q
 replace fc:=zG fc
 refine CK.forN' (fun aa (cL,fC,fD,bX,bY,bQ) σ_ w_=>∃ (U_:PHeap) (cV:Option Addr) (dt:Nat) (b5:Option Addr) (cn:Nat) (bM:Option Addr) (bO:Nat) (dA:List Value),σ_ 46=jV (↑aa:Int)/\σ_ 0=.pointer (some ⟨am,0,none⟩)/\σ_ 4=.pointer (some ⟨b3,0,none⟩)/\σ_ 6=.pointer (some ⟨b7,0,none⟩)/\σ_ 7=jV aR/\σ_ 10=.slice bM bQ.length bO/\σ_ 45=jV aR/\PHeap.Le ef U_/\SW w [B1] U U_ [.blk am 87 [.slice cV cL.length dt,jV fC,.int .u32 fD],.row b5 cn 3 1 (hH KL.encI bX),.row (some ⟨aq,0,none⟩) ak.length 3 1 (hH KL.encI bY),.blk b7 26 [.slice b5 bX.length cn,.slice (some ⟨aq,0,none⟩) bY.length ak.length,.slice aV aU.length aW],.blk b3 26 B0,.row bM bO 23 1 dA] w_/\Sl U_ 1 cV dt cL.length (hH KL.encB8 cL)/\bY.length=ak.length/\RlL U_ wPt bQ dA) pu ?_ ?_ ?_
 have n5:=m9.nilrow 3 1
 have n7:=n5.nilrow 23 1
 have lW:=lU.le qI
 exact ⟨ef,fQ,gH,none,0,none,0,[],rfl,jG,jH,gT,eH,rfl,rfl,(ze _),(n7.pick [3,1,2,4,5,0] _ (by decide) rfl),lW,rfl,RlL.nil⟩
 rintro aa ⟨cL,fC,fD,bX,bY,bQ⟩ sb ss gm eX ⟨iT,cV,dt,b5,cn,bM,bO,dA,eI,gU,jK,dD,gW,jL,gX,fu,n9,lX,lY,lZ⟩ iH
 try dsimp only at iH
 have gI:Hid ((↑aa:Int) < aR):=zG (wBe eX)
 replace eX:=zG eX
 have pW:Hid (w64 ((↑aa:Int) + 1)=(↑(aa + 1):Int)):=zG (by have h1:=fc.out;have h2:=gI.out;rw [wAd] <;> omega)
 refine sR fL1 rfl (zL rfl rfl rfl rfl (fun _=>zX rfl eI gX) (eN (zF (cT Z gI (kN (zF (zV (sR fL2 rfl (zh rfl rfl rfl rfl rfl eI (OKS.ra rfl rfl rfl rfl rfl rfl (eN (zF (ZJ ZK [3,1004,3,1005,2,0,3,0,am] (wGK (.fx 3 (.fx 4 (.fx 5 (.fl 6 (.fx 7 .nil .stop)) .stop) .stop) .stop)) (by kernel_rfl) ?_)))))))))))))
 have eO:=n9.drew
 generalize hw_W434:({ gm with drawn:=gm.drawn + 1 }:World)=i6 at eO ⊢
 refine oR Z (zI Z dD zE Z zY) ?_
 let au:Res:=.row bM bO 23 1 dA
 let db:Res:=.blk b7 26 [.slice b5 bX.length cn,.slice (some ⟨aq,0,none⟩) bY.length ak.length,.slice aV aU.length aW]
 let b9:Res:=.row (some ⟨aq,0,none⟩) ak.length 3 1 (hH KL.encI bY)
 let dS:Res:=.row b5 cn 3 1 (hH KL.encI bX)
 refine OKS.mt (T:=[am]) [0] [1,2,3,4,5] [dS,b9,db,.blk b3 26 B0,au] rfl rfl rfl rfl eO rfl ⟨⟨0,by decide,_,rfl,rfl⟩,trivial⟩ (by decide) rfl (by decide) (fun _ pn=>(pn.ldB (j:=2) rfl rfl rfl zl (v:=.slice b5 bX.length cn) rfl)) rfl (zh rfl rfl rfl rfl rfl gU ?_)
 have q:=bnd iH
 obtain ⟨⟨cR,fE⟩,l3,iy⟩:=q
 try dsimp only at iy
 refine OKS.callHT 1 rfl rfl rfl rfl (zK rfl rfl Try.call40 (zD rfl (zD rfl (zD rfl zS))) rfl) eO (fun hs=>wCC (⟨cL,fC,fD⟩:wAD) am cV dt 3 6 i6 iT hs lX l3) rfl (T:=[am]) rfl ⟨fun b h=>(by cases h;exact .head _),trivial⟩ ?_
 rintro bR re rN i7 dJ oc ⟨fR,gJ,rfl,rfl,l4⟩
 let cw:Res:=.blk am 87 [.slice fR fE.bytes.length gJ,jV fE.next,.int .u32 fE.state]
 have od:SW w [B1] U bR [cw,dS,b9,db,.blk b3 26 B0,au] i7:=oc
 refine Za (pv:=[(0,jV cR)]) (zs:=[jV 0]) (cs:=[jV cR]) Z Z Z Z Z (wAJ Z wAl) zA zC Zi Z Z Z Z Z od ?_
 intro i8 jp oe
 let de:Res:=.row (some ⟨jp,0,none⟩) 1 3 1 (hH KL.encI [cR])
 have il:SW w [B1] U bR [de,cw,dS,b9,db,.blk b3 26 B0,au] i8:=oe
 refine bnK iy fun aT l5 p9=>OKS.append (j:=2) (enc:=KL.encI) (xs:=bX) (ys:=[cR]) (zs:=aT) rfl rfl rfl rfl rfl Try.underlying23 wDz rfl rfl rfl rfl rfl rfl il rfl rfl rfl (il.srcR (j:=0) rfl (by decide) (wAF (f:=KL.encI) (sz:=1) (fun _=>rfl) [cR])) (fun _=>rfl) (fun _=>rfl) l5 rfl ?_
 intro bj bk i9 og
 let av:Res:=.row bj bk 3 1 (hH KL.encI aT)
 have oh:SW w [B1] U bR [de,cw,av,b9,db,.blk b3 26 B0,au] i9:=og
 refine oR Z (zI Z dD zE Z zY) (ZA (j:=4) (vs:=[.slice bj aT.length bk]) Z Z Z Z oh Z Z Z Z zY (zB Z) Z Z Z ?_)
 intro ja oi
 let fZ:Res:=.blk b7 26 [.slice bj aT.length bk,.slice (some ⟨aq,0,none⟩) bY.length ak.length,.slice aV aU.length aW]
 have oj:SW w [B1] U bR [de,cw,av,b9,fZ,.blk b3 26 B0,au] ja:=oi
 refine eN (sR gAo Z (oM Z gW (bnK p9 fun aQ l6 qa=>ZW (enc:=KL.encI) (z:=(0:Int)) (v:=jV 0) Z Z Z Z Z (wBv zA) wDz Z Z Z Z Z Z l6 oj ?_)))
 intro jb aS ol
 have dG:SW w [B1] U bR [.row (some ⟨aS,0,none⟩) aQ.length 3 1 (hH KL.encI aQ),de,cw,av,b9,fZ,.blk b3 26 B0,au] jb:=ol
 refine oA Z Z (eN (zF (sR fL6 Z (oR Z (zI Z dD zE Z zY) (oL Z (dG.ldB (j:=5) Z Z Z zl (v:=.slice bj aT.length bk) Z) (oM Z Z (bnK qa fun _ eK qb=>?_)))))))
 obtain ⟨rC,ii⟩:=dG.rowSome (j:=3) rfl (by rw [wAF (f:=KL.encI) (sz:=1) (fun _=>rfl) aT];have hz:=wAI eK;omega)
 refine oR Z (ZG Z Z ii Z zA zC (wAI eK)) ?_
 have pD:=wBO (xs:=aT) (wAI eK)
 refine zm rfl rfl rfl rfl (dG.ldR (j:=3) rfl ii rfl rfl zJ (wAZ (sz:=1) (fun _=>rfl) _ _ 0 _ pD (by first | omega | rfl | simp) rfl)) rfl (zh rfl rfl rfl rfl rfl rfl (eN (zV ?_)))
 have q:=bnd qb
 obtain ⟨⟨qT,qU,qV,iO,bZ⟩,py,iz⟩:=q
 try dsimp only at iz
 have q:=wBf py
 obtain ⟨fd,pz⟩:=q
 replace fd:=zG fd
 refine CK.forN' (fun bP (cM,fG,fH,ab,ai) σ_ w_=>∃ (U_:PHeap) (cW:Option Addr) (du:Nat),σ_ 63=jV (↑bP:Int)/\σ_ 0=.pointer (some ⟨am,0,none⟩)/\σ_ 4=.pointer (some ⟨b3,0,none⟩)/\σ_ 6=.pointer (some ⟨b7,0,none⟩)/\σ_ 7=jV aR/\σ_ 10=.slice bM bQ.length bO/\σ_ 11=jV (↑aa:Int)/\σ_ 12=.slice (some ⟨aS,0,none⟩) ai.length aQ.length/\σ_ 45=jV aR/\σ_ 46=jV (↑aa:Int)/\σ_ 62=jV (gd aT aa)/\PHeap.Le bR U_/\SW w [B1] U U_ [.blk am 87 [.slice cW cM.length du,jV fG,.int .u32 fH],av,.row (some ⟨aq,0,none⟩) ak.length 3 1 (hH KL.encI ab),.blk b7 26 [.slice bj aT.length bk,.slice (some ⟨aq,0,none⟩) ab.length ak.length,.slice aV aU.length aW],.blk b3 26 B0,au,.row (some ⟨aS,0,none⟩) aQ.length 3 1 (hH KL.encI ai)] w_/\Sl U_ 1 cW du cM.length (hH KL.encB8 cM)/\ab.length=ak.length/\ai.length=aQ.length) pz ?_ ?_ ?_
 exact ⟨bR,fR,gJ,rfl,gU,jK,dD,gW,jL,rfl,rfl,gX,eI,rfl,(ze _),(dG.pick [2,3,4,5,6,7,0] _ (by decide) rfl),l4,lY,rfl⟩
 rintro bP ⟨cM,fG,fH,ab,ai⟩ sc su jc eY ⟨gg,cW,du,bw,bh,bD,aZ,bu,bE,bg,bi,bF,bG,bv,fw,om,l7,bH,bI⟩ iI
 try dsimp only at iI
 have gK:Hid ((↑bP:Int) < (gd aT aa)):=zG (wBe eY)
 replace eY:=zG eY
 have pX:Hid (w64 ((↑bP:Int) + 1)=(↑(bP + 1):Int)):=zG (by have h1:=fd.out;have h2:=gK.out;rw [wAd] <;> omega)
 refine sR fL1 Z (oR Z (zX Z bw bv) (eN (zF (cT Z gK (kN ?_)))))
 have q:=bnd iI
 obtain ⟨⟨fh,qM,qN,fj,fm⟩,qG,iA⟩:=q
 try dsimp only at iA
 refine CK.cut (fun σ_ w_=>∃ (U_:PHeap) (cY:Option Addr) (dw:Nat),σ_ 0=.pointer (some ⟨am,0,none⟩)/\σ_ 4=.pointer (some ⟨b3,0,none⟩)/\σ_ 6=.pointer (some ⟨b7,0,none⟩)/\σ_ 7=jV aR/\σ_ 10=.slice bM bQ.length bO/\σ_ 11=jV (↑aa:Int)/\σ_ 12=.slice (some ⟨aS,0,none⟩) fm.length aQ.length/\σ_ 45=jV aR/\σ_ 46=jV (↑aa:Int)/\σ_ 62=jV (gd aT aa)/\σ_ 63=jV (↑bP:Int)/\PHeap.Le gg U_/\SW w [B1] U U_ [.blk am 87 [.slice cY fh.length dw,jV qM,.int .u32 qN],av,.row (some ⟨aq,0,none⟩) ak.length 3 1 (hH KL.encI fj),.blk b7 26 [.slice bj aT.length bk,.slice (some ⟨aq,0,none⟩) fj.length ak.length,.slice aV aU.length aW],.blk b3 26 B0,au,.row (some ⟨aS,0,none⟩) aQ.length 3 1 (hH KL.encI fm)] w_/\Sl U_ 1 cY dw fh.length (hH KL.encB8 fh)/\fj.length=ak.length/\fm.length=aQ.length) ?_ ?_
 refine zV (sR fL2 Z (oM Z bg (oA Z Z (eN (zF (sR gAk Z (oM Z bh ?_)))))))
 have q:=bnd qG
 obtain ⟨⟨rX,cS⟩,l8,iB⟩:=q
 try dsimp only at iB
 refine zM 1 Z Z Z Z (zK Z Z Try.call33 (zD Z (zD Z zS)) Z) om (fun hs=>wBT (⟨cM,fG,fH⟩:wAD) am cW du 4 jc gg hs l7 l8) (.inl Z) ?_
 rintro dq ri rO eh br oq ⟨cZ,dy,rfl,rfl,eL⟩
 let aX:Res:=.blk b7 26 [.slice bj aT.length bk,.slice (some ⟨aq,0,none⟩) ab.length ak.length,.slice aV aU.length aW]
 let bA:Res:=.row (some ⟨aq,0,none⟩) ak.length 3 1 (hH KL.encI ab)
 let cd:Res:=.row (some ⟨aS,0,none⟩) aQ.length 3 1 (hH KL.encI ai)
 have cH:SW w [B1] U dq [.blk am 87 [.slice cZ cS.bytes.length dy,jV cS.next,.int .u32 cS.state],av,bA,aX,.blk b3 26 B0,au,cd] eh:=oq
 refine eN (ifc iB ?_ ?_)
 intro en qc
 refine zt (congrArg nA en.out) (rR gAu Z (oM Z bh (oM Z bu ?_)))
 have q:=bnd qc
 obtain ⟨⟨ap,dN⟩,l9,iC⟩:=q
 try dsimp only at iC
 refine zM 1 Z Z Z Z (zK Z Z Try.call29 (zD Z (zD Z zS)) Z) cH (fun hs=>wBS cS am cZ dy aR eh dq hs eL l9) (.inl Z) ?_
 rintro eg rj rP gp cp ot ⟨dP,eu,rfl,rfl,ig⟩
 have dH:SW w [B1] U eg [.blk am 87 [.slice dP dN.bytes.length eu,jV dN.next,.int .u32 dN.state],av,bA,aX,.blk b3 26 B0,au,cd] gp:=ot
 refine oA Z Z (eN (sR (wOp (.fx 8 (wNY gAp) .stop)) Z (oR Z (zI Z aZ zE Z zY) (oL Z (dH.ldB (j:=3) Z Z Z zl (v:=.slice (some ⟨aq,0,none⟩) ab.length ak.length) Z) (oM Z Z (bnK iC fun _ aY qd=>oR Z (ZF Z Z Z Z zA zC (wAq aY) (wAr aY)) ?_))))))
 have pE:=wBO (xs:=ab) (wAI aY)
 refine zm rfl rfl rfl rfl (dH.ldR (j:=2) rfl rfl rfl rfl zJ (wAZ (sz:=1) (fun _=>rfl) _ _ 0 _ pE (by first | omega | rfl | simp) rfl)) rfl (zL rfl rfl rfl rfl (fun _=>zX rfl rfl rfl) (zh rfl rfl rfl rfl rfl rfl (ifc qd ?_ ?_)))
 intro bJ qe
 refine zh Z Z Z (wT Z bJ) Z bh ?_
 have q:=bnd qe
 obtain ⟨⟨rY,fJ⟩,ma,iD⟩:=q
 try dsimp only at iD
 refine zM 1 Z Z Z (wT Z bJ) (zK Z Z Try.call33 (zD Z (zD Z zS)) Z) dH (fun hs=>wBT dN am dP eu 4 gp eg hs ig ma) (.inl Z) ?_
 rintro bS rk rQ gu cN ou ⟨ct,cz,rfl,rfl,dE⟩
 let bB:Res:=.blk am 87 [.slice ct fJ.bytes.length cz,jV fJ.next,.int .u32 fJ.state]
 have cI:SW w [B1] U bS [bB,av,bA,aX,.blk b3 26 B0,au,cd] gu:=ou
 refine rU Z (wT Z bJ) (ZS Z Z) (oR Z (zP Z (Zf bJ.out) Z) (oM Z Z (ifc iD ?_ ?_)))
 intro ba qf
 refine zk Z Z Z (zU Z Z (nC ba.out) Z) (zk Z Z Z (zU Z Z (nC ba.out) Z) (zk Z Z Z (zU Z Z (nC ba.out) Z) (zk Z Z Z (zU Z Z (nC ba.out) Z) (zk Z Z Z (wAx Z Z Z) (zk Z Z Z (wAx Z Z Z) (zk Z Z Z (wAx Z Z Z) (zk Z Z Z (wAx Z Z Z) (zk Z Z Z (wAx Z Z Z) (Zb Z Z Z (wAx Z Z Z) (zk Z Z Z (zU Z Z (nC ba.out) Z) (oR Z (zj Z (nC ba.out) Z) (eN (zn Z (ZR (zf ?_)))))))))))))))
 cases qf
 exact zH ⟨Z,⟨bS,ct,cz,bh,bD,aZ,bu,bE,bg,bi,bF,bG,bv,bw,((br.trans cp).trans cN),cI,dE,bH,bI⟩⟩
 intro ba qg
 refine zh Z Z Z (zR Z Z (nF (ba.out))) Z Z (zh Z Z Z (zR Z Z (nF (ba.out))) Z bg (zL Z Z Z (zR Z Z (nF (ba.out))) (fun _=>Runs.eql Z Z Z) (zh Z Z Z (zR Z Z (nF (ba.out))) Z Z (ifc qg ?_ ?_))))
 intro bb qh
 refine oT Z bb (oT Z bb (oT Z bb (oT Z bb (oT Z bb (Zb Z Z Z (zU Z Z (Zf bb.out) Z) (zL Z Z Z (zR Z Z (nF (ba.out))) (fun _=>zP Z (Zf bb.out) Z) (oR Z (zP Z (nF (ba.out)) Z) (eN (zt Z (sR (wIp (.fx 6 .nil .stop)) Z (oM Z bi (oM Z Z (bnK qh fun _ bU qi=>oR Z (ZF Z Z Z Z zA zC (wAq bU) (wAr bU)) ?_)))))))))))))
 have pF:=wBO (xs:=ai) (wAI bU)
 refine zm rfl rfl rfl rfl (cI.ldR (j:=6) rfl rfl rfl rfl zJ (wAZ (sz:=1) (fun _=>rfl) _ _ 0 _ pF (by first | omega | rfl | simp) rfl)) rfl (zL rfl rfl rfl rfl (fun _=>zW rfl rfl rfl) (zL rfl rfl rfl rfl (fun _=>ZF rfl rfl rfl rfl zA zC (wAq bU) (wAr bU)) ?_))
 have pG:=wBO (xs:=ai) (wAI bU)
 refine Zh (j:=6) (vs:=[jV (w64 ((gd ai ap.toNat) + 1))]) (cs':=hH KL.encI (nK ai ap.toNat (w64 ((gd ai ap.toNat) + 1)))) rfl rfl rfl rfl cI rfl rfl rfl rfl rfl zC (by rw [wAF (f:=KL.encI) (sz:=1) (fun _=>rfl)];have hz:=wAI bU;show _ + 1 <= _;first | omega | (simp only [nJ];omega) | (simp only [nH,nE,nG];omega)) rfl (wBr (sz:=1) (fo:=0) (fun _=>rfl) _ _ _ _ pG (by first | omega | (simp only [nJ];omega) | (simp only [nH,nE,nG];omega)) (zB rfl) rfl) rfl ?_
 intro jd ow
 let dg:Res:=.row (some ⟨aS,0,none⟩) aQ.length 3 1 (hH KL.encI (nK ai ap.toNat (w64 ((gd ai ap.toNat) + 1))))
 have eP:SW w [B1] U bS [bB,av,bA,aX,.blk b3 26 B0,au,dg] jd:=ow
 refine eN (CK.fresh fun bs bl=>?_)
 have jM:bs 0=.pointer (some ⟨am,0,none⟩):=(bl 0).trans bh
 have jN:bs 4=.pointer (some ⟨b3,0,none⟩):=(bl 4).trans bD
 have gZ:bs 6=.pointer (some ⟨b7,0,none⟩):=(bl 6).trans aZ
 have jO:bs 7=jV aR:=(bl 7).trans bu
 have jP:bs 10=.slice bM bQ.length bO:=(bl 10).trans bE
 have jQ:bs 11=jV (↑aa:Int):=(bl 11).trans bg
 have jR:bs 12=.slice (some ⟨aS,0,none⟩) ((nK ai ap.toNat (w64 ((gd ai ap.toNat) + 1))).length) aQ.length:=(bl 12).trans (nR (b:=(.slice (some ⟨aS,0,none⟩) ai.length aQ.length:Value)) (c:=(.slice (some ⟨aS,0,none⟩) ((nK ai ap.toNat (w64 ((gd ai ap.toNat) + 1))).length) aQ.length:Value)) bi (by simp only [nI]))
 have jS:bs 13=jV ap:=(bl 13).trans rfl
 have jU:bs 45=jV aR:=(bl 45).trans bF
 have jW:bs 46=jV (↑aa:Int):=(bl 46).trans bG
 have jX:bs 62=jV (gd aT aa):=(bl 62).trans bv
 have jY:bs 63=jV (↑bP:Int):=(bl 63).trans bw
 clear bl
 refine rR (wHU (.fx 7 .nil .stop)) Z (oR Z (zI Z gZ zE Z zY) (oL Z (eP.ldB (j:=3) Z Z Z zl (v:=.slice (some ⟨aq,0,none⟩) ab.length ak.length) Z) (oM Z jS (oR Z (ZF Z Z Z Z zA zC (wAq aY) (wAr aY)) ?_))))
 have pH:=wBO (xs:=ab) (wAI aY)
 refine zm rfl rfl rfl rfl (eP.ldR (j:=2) rfl rfl rfl rfl zJ (wAZ (sz:=1) (fun _=>rfl) _ _ 0 _ pH (by first | omega | rfl | simp) rfl)) rfl (zL rfl rfl rfl rfl (fun _=>zW rfl rfl rfl) (zL rfl rfl rfl rfl (fun _=>ZF rfl rfl rfl rfl zA zC (wAq aY) (wAr aY)) ?_))
 have pI:=wBO (xs:=ab) (wAI aY)
 refine Zh (j:=2) (vs:=[jV (w64 ((gd ab ap.toNat) + 1))]) (cs':=hH KL.encI (nK ab ap.toNat (w64 ((gd ab ap.toNat) + 1)))) rfl rfl rfl rfl eP rfl rfl rfl rfl rfl zC (by rw [wAF (f:=KL.encI) (sz:=1) (fun _=>rfl)];have hz:=wAI aY;show _ + 1 <= _;first | omega | (simp only [nJ];omega) | (simp only [nH,nE,nG];omega)) rfl (wBr (sz:=1) (fo:=0) (fun _=>rfl) _ _ _ _ pI (by first | omega | (simp only [nJ];omega) | (simp only [nH,nE,nG];omega)) (zB rfl) rfl) rfl ?_
 intro gw ox
 let dT:Res:=.row (some ⟨aq,0,none⟩) ak.length 3 1 (hH KL.encI (nK ab ap.toNat (w64 ((gd ab ap.toNat) + 1))))
 have oy:SW w [B1] U bS [bB,av,dT,aX,.blk b3 26 B0,au,dg] gw:=ox
 have oz:SW w [B1] U bS [bB,av,dT,.blk b7 26 [.slice bj aT.length bk,.slice (some ⟨aq,0,none⟩) ((nK ab ap.toNat (w64 ((gd ab ap.toNat) + 1))).length) ak.length,.slice aV aU.length aW],.blk b3 26 B0,au,dg] gw:=by simpa only [B0,B1,au,av,aX,bB,dg,dT,nI] using oy
 refine zo (zf ?_)
 cases qi
 exact zH ⟨Z,⟨bS,ct,cz,jM,jN,gZ,jO,jP,jQ,jR,jU,jW,jX,jY,((br.trans cp).trans cN),oz,dE,(nI.trans bH),(nI.trans bI)⟩⟩
 intro bb qj
 refine rU Z (wF Z bb) (zI Z aZ zE Z ZO) (zm Z Z Z (wF Z bb) (cI.ldB (j:=3) Z Z Z ZY (v:=.slice aV aU.length aW) Z) Z (zh Z Z Z (wF Z bb) Z bg (zh Z Z Z (wF Z bb) Z Z (rU Z (wF Z bb) (ZH (pv:=[(0,jV (↑aa:Int)),(1,jV ap)]) (z:=[jV 0,jV 0]) (cs:=[jV (↑aa:Int),jV ap]) Z (wAJ Z (wAJ Z wAl)) ZM wCd Z Z) ?_))))
 have mb:=ff.le fu
 have mc:=mb.le dJ
 have md:=mc.le fw
 have mf:=md.le br
 have mg:=mf.le cp
 have mh:=mg.le cN
 refine bnK qj fun rZ mi qk=>zM 0 Z Z Z (wF Z bb) (zK Z Z Try.call10 (zD Z (zD Z zS)) Z) cI (fun hs=>wAU aU aV aW (⟨(↑aa:Int),ap⟩:wAA) gu bS hs mh mi) (.inr Z) ?_
 rintro ci rn rS je dK oB ⟨rfl,rfl⟩
 have eQ:SW w [B1] U ci [bB,av,bA,aX,.blk b3 26 B0,au,cd] je:=oB
 refine zL Z Z Z (zR Z Z (nF (ba.out))) (fun _=>zj Z (zr bb.out) Z) (oR Z (zP Z (nF (ba.out)) Z) (eN (ifc qk ?_ ?_)))
 intro ey ql
 refine zt (congrArg nA ey.out) (sR (wIp (.fx 6 .nil .stop)) Z (oM Z bi (oM Z Z (bnK ql fun _ bV qm=>oR Z (ZF Z Z Z Z zA zC (wAq bV) (wAr bV)) ?_))))
 have pJ:=wBO (xs:=ai) (wAI bV)
 refine zm rfl rfl rfl rfl (eQ.ldR (j:=6) rfl rfl rfl rfl zJ (wAZ (sz:=1) (fun _=>rfl) _ _ 0 _ pJ (by first | omega | rfl | simp) rfl)) rfl (zL rfl rfl rfl rfl (fun _=>zW rfl rfl rfl) (zL rfl rfl rfl rfl (fun _=>ZF rfl rfl rfl rfl zA zC (wAq bV) (wAr bV)) ?_))
 have pK:=wBO (xs:=ai) (wAI bV)
 refine Zh (j:=6) (vs:=[jV (w64 ((gd ai ap.toNat) + 1))]) (cs':=hH KL.encI (nK ai ap.toNat (w64 ((gd ai ap.toNat) + 1)))) rfl rfl rfl rfl eQ rfl rfl rfl rfl rfl zC (by rw [wAF (f:=KL.encI) (sz:=1) (fun _=>rfl)];have hz:=wAI bV;show _ + 1 <= _;first | omega | (simp only [nJ];omega) | (simp only [nH,nE,nG];omega)) rfl (wBr (sz:=1) (fo:=0) (fun _=>rfl) _ _ _ _ pK (by first | omega | (simp only [nJ];omega) | (simp only [nH,nE,nG];omega)) (zB rfl) rfl) rfl ?_
 intro jf oG
 let dh:Res:=.row (some ⟨aS,0,none⟩) aQ.length 3 1 (hH KL.encI (nK ai ap.toNat (w64 ((gd ai ap.toNat) + 1))))
 have eR:SW w [B1] U ci [bB,av,bA,aX,.blk b3 26 B0,au,dh] jf:=oG
 refine eN (CK.fresh fun bt bm=>?_)
 have jZ:bt 0=.pointer (some ⟨am,0,none⟩):=(bm 0).trans bh
 have j0:bt 4=.pointer (some ⟨b3,0,none⟩):=(bm 4).trans bD
 have g7:bt 6=.pointer (some ⟨b7,0,none⟩):=(bm 6).trans aZ
 have j4:bt 7=jV aR:=(bm 7).trans bu
 have j5:bt 10=.slice bM bQ.length bO:=(bm 10).trans bE
 have j6:bt 11=jV (↑aa:Int):=(bm 11).trans bg
 have j7:bt 12=.slice (some ⟨aS,0,none⟩) ((nK ai ap.toNat (w64 ((gd ai ap.toNat) + 1))).length) aQ.length:=(bm 12).trans (nR (b:=(.slice (some ⟨aS,0,none⟩) ai.length aQ.length:Value)) (c:=(.slice (some ⟨aS,0,none⟩) ((nK ai ap.toNat (w64 ((gd ai ap.toNat) + 1))).length) aQ.length:Value)) bi (by simp only [nI]))
 have j8:bt 13=jV ap:=(bm 13).trans rfl
 have j9:bt 45=jV aR:=(bm 45).trans bF
 have k9:bt 46=jV (↑aa:Int):=(bm 46).trans bG
 have lc:bt 62=jV (gd aT aa):=(bm 62).trans bv
 have lf:bt 63=jV (↑bP:Int):=(bm 63).trans bw
 clear bm
 refine rR (wHU (.fx 7 .nil .stop)) Z (oR Z (zI Z g7 zE Z zY) (oL Z (eR.ldB (j:=3) Z Z Z zl (v:=.slice (some ⟨aq,0,none⟩) ab.length ak.length) Z) (oM Z j8 (oR Z (ZF Z Z Z Z zA zC (wAq aY) (wAr aY)) ?_))))
 have pL:=wBO (xs:=ab) (wAI aY)
 refine zm rfl rfl rfl rfl (eR.ldR (j:=2) rfl rfl rfl rfl zJ (wAZ (sz:=1) (fun _=>rfl) _ _ 0 _ pL (by first | omega | rfl | simp) rfl)) rfl (zL rfl rfl rfl rfl (fun _=>zW rfl rfl rfl) (zL rfl rfl rfl rfl (fun _=>ZF rfl rfl rfl rfl zA zC (wAq aY) (wAr aY)) ?_))
 have pM:=wBO (xs:=ab) (wAI aY)
 refine Zh (j:=2) (vs:=[jV (w64 ((gd ab ap.toNat) + 1))]) (cs':=hH KL.encI (nK ab ap.toNat (w64 ((gd ab ap.toNat) + 1)))) rfl rfl rfl rfl eR rfl rfl rfl rfl rfl zC (by rw [wAF (f:=KL.encI) (sz:=1) (fun _=>rfl)];have hz:=wAI aY;show _ + 1 <= _;first | omega | (simp only [nJ];omega) | (simp only [nH,nE,nG];omega)) rfl (wBr (sz:=1) (fo:=0) (fun _=>rfl) _ _ _ _ pM (by first | omega | (simp only [nJ];omega) | (simp only [nH,nE,nG];omega)) (zB rfl) rfl) rfl ?_
 intro gx oH
 let dU:Res:=.row (some ⟨aq,0,none⟩) ak.length 3 1 (hH KL.encI (nK ab ap.toNat (w64 ((gd ab ap.toNat) + 1))))
 have oI:SW w [B1] U ci [bB,av,dU,aX,.blk b3 26 B0,au,dh] gx:=oH
 have oK:SW w [B1] U ci [bB,av,dU,.blk b7 26 [.slice bj aT.length bk,.slice (some ⟨aq,0,none⟩) ((nK ab ap.toNat (w64 ((gd ab ap.toNat) + 1))).length) ak.length,.slice aV aU.length aW],.blk b3 26 B0,au,dh] gx:=by simpa only [B0,B1,au,av,aX,bB,dh,dU,nI] using oI
 refine zo (zf ?_)
 cases qm
 have mn:=dE.le dK
 exact zH ⟨Z,⟨ci,ct,cz,jZ,j0,g7,j4,j5,j6,j7,j9,k9,lc,lf,(((br.trans cp).trans cN).trans dK),oK,mn,(nI.trans bH),(nI.trans bI)⟩⟩
 intro ey qn
 refine zn (congrArg nA (nB.2 ey.out)) (ZR (zf ?_))
 cases qn
 have mo:=dE.le dK
 exact zH ⟨Z,⟨ci,ct,cz,bh,bD,aZ,bu,bE,bg,bi,bF,bG,bv,bw,(((br.trans cp).trans cN).trans dK),eQ,mo,bH,bI⟩⟩
 intro bJ qo
 refine oF Z bJ (Zb Z Z Z (zU Z Z (zr bJ.out) Z) (oF Z bJ (oR Z (zj Z (zr bJ.out) Z) (oM Z Z (oN Z (oN Z (oN Z (oN Z (zk Z Z Z (wAx Z Z Z) (zk Z Z Z (wAx Z Z Z) (zk Z Z Z (wAx Z Z Z) (zk Z Z Z (wAx Z Z Z) (zk Z Z Z (wAx Z Z Z) (Zb Z Z Z (wAx Z Z Z) (oN Z (oR Z (zj Z Z Z) (eN (zn Z (ZR (zf ?_))))))))))))))))))))
 cases qo
 exact zH ⟨Z,⟨eg,dP,eu,bh,bD,aZ,bu,bE,bg,bi,bF,bG,bv,bw,(br.trans cp),dH,ig,bH,bI⟩⟩
 intro en qp
 refine zn (congrArg nA (nB.2 en.out)) (kN (sR (wOp (.fx 8 (wNY gAp) .stop)) Z (oR Z (zI Z aZ zE Z zY) (oL Z (cH.ldB (j:=3) Z Z Z zl (v:=.slice (some ⟨aq,0,none⟩) ab.length ak.length) Z) (oM Z Z (bnK qp fun _ bq qq=>oR Z (ZG Z Z Z Z zA zC (wAI bq)) ?_))))))
 have pN:=wBO (xs:=ab) (wAI bq)
 refine zm rfl rfl rfl rfl (cH.ldR (j:=2) rfl rfl rfl rfl zJ (wAZ (sz:=1) (fun _=>rfl) _ _ 0 _ pN (by first | omega | rfl | simp) rfl)) rfl (zL rfl rfl rfl rfl (fun _=>zX rfl rfl rfl) (zh rfl rfl rfl rfl rfl rfl (ifc qq ?_ ?_)))
 intro bK qr
 refine zh Z Z Z (wT Z bK) Z bh ?_
 have q:=bnd qr
 obtain ⟨⟨r6,fK⟩,mp,iF⟩:=q
 try dsimp only at iF
 refine zM 1 Z Z Z (wT Z bK) (zK Z Z Try.call33 (zD Z (zD Z zS)) Z) cH (fun hs=>wBT cS am cZ dy 4 eh dq hs eL mp) (.inl Z) ?_
 rintro bT ro rT gy cO oP ⟨cu,cA,rfl,rfl,dF⟩
 let bC:Res:=.blk am 87 [.slice cu fK.bytes.length cA,jV fK.next,.int .u32 fK.state]
 have cJ:SW w [B1] U bT [bC,av,bA,aX,.blk b3 26 B0,au,cd] gy:=oP
 refine rU Z (wT Z bK) (ZS Z Z) (oR Z (zP Z (Zf bK.out) Z) (oM Z Z (ifc iF ?_ ?_)))
 intro be qt
 refine zk Z Z Z (zU Z Z (nC be.out) Z) (zk Z Z Z (zU Z Z (nC be.out) Z) (zk Z Z Z (zU Z Z (nC be.out) Z) (zk Z Z Z (zU Z Z (nC be.out) Z) (zk Z Z Z (wAx Z Z Z) (zk Z Z Z (wAx Z Z Z) (zk Z Z Z (wAx Z Z Z) (zk Z Z Z (wAx Z Z Z) (zk Z Z Z (wAx Z Z Z) (Zb Z Z Z (wAx Z Z Z) (zk Z Z Z (zU Z Z (nC be.out) Z) (oR Z (zj Z (nC be.out) Z) (eN (zn Z (ZR (zf ?_)))))))))))))))
 cases qt
 exact zH ⟨Z,⟨bT,cu,cA,bh,bD,aZ,bu,bE,bg,bi,bF,bG,bv,bw,(br.trans cO),cJ,dF,bH,bI⟩⟩
 intro be qu
 refine zh Z Z Z (zR Z Z (nF (be.out))) Z Z (zh Z Z Z (zR Z Z (nF (be.out))) Z bg (zL Z Z Z (zR Z Z (nF (be.out))) (fun _=>Runs.eql Z Z Z) (zh Z Z Z (zR Z Z (nF (be.out))) Z Z (ifc qu ?_ ?_))))
 intro bf qv
 refine oT Z bf (oT Z bf (oT Z bf (oT Z bf (oT Z bf (Zb Z Z Z (zU Z Z (Zf bf.out) Z) (zL Z Z Z (zR Z Z (nF (be.out))) (fun _=>zP Z (Zf bf.out) Z) (oR Z (zP Z (nF (be.out)) Z) (eN (zt Z (sR (wIp (.fx 6 .nil .stop)) Z (oM Z bi (oM Z Z (bnK qv fun _ cE qw=>oR Z (ZG Z Z Z Z zA zC (wAI cE)) ?_)))))))))))))
 have pO:=wBO (xs:=ai) (wAI cE)
 refine zm rfl rfl rfl rfl (cJ.ldR (j:=6) rfl rfl rfl rfl zJ (wAZ (sz:=1) (fun _=>rfl) _ _ 0 _ pO (by first | omega | rfl | simp) rfl)) rfl (zL rfl rfl rfl rfl (fun _=>zW rfl rfl rfl) (zL rfl rfl rfl rfl (fun _=>ZG rfl rfl rfl rfl zA zC (wAI cE)) ?_))
 have pP:=wBO (xs:=ai) (wAI cE)
 refine Zh (j:=6) (vs:=[jV (w64 ((gd ai aa) + 1))]) (cs':=hH KL.encI (nK ai aa (w64 ((gd ai aa) + 1)))) rfl rfl rfl rfl cJ rfl rfl rfl rfl rfl zC (by rw [wAF (f:=KL.encI) (sz:=1) (fun _=>rfl)];have hz:=wAI cE;show _ + 1 <= _;first | omega | (simp only [nJ];omega) | (simp only [nH,nE,nG];omega)) rfl (wBr (sz:=1) (fo:=0) (fun _=>rfl) _ _ _ _ pP (by first | omega | (simp only [nJ];omega) | (simp only [nH,nE,nG];omega)) (zB rfl) rfl) rfl ?_
 intro jg oU
 let dk:Res:=.row (some ⟨aS,0,none⟩) aQ.length 3 1 (hH KL.encI (nK ai aa (w64 ((gd ai aa) + 1))))
 have eS:SW w [B1] U bT [bC,av,bA,aX,.blk b3 26 B0,au,dk] jg:=oU
 refine eN (rR (wHU (.fx 7 .nil .stop)) Z (oR Z (zI Z aZ zE Z zY) (oL Z (eS.ldB (j:=3) Z Z Z zl (v:=.slice (some ⟨aq,0,none⟩) ab.length ak.length) Z) (oM Z Z (oR Z (ZG Z Z Z Z zA zC (wAI bq)) ?_)))))
 have pQ:=wBO (xs:=ab) (wAI bq)
 refine zm rfl rfl rfl rfl (eS.ldR (j:=2) rfl rfl rfl rfl zJ (wAZ (sz:=1) (fun _=>rfl) _ _ 0 _ pQ (by first | omega | rfl | simp) rfl)) rfl (zL rfl rfl rfl rfl (fun _=>zW rfl rfl rfl) (zL rfl rfl rfl rfl (fun _=>ZG rfl rfl rfl rfl zA zC (wAI bq)) ?_))
 have pR:=wBO (xs:=ab) (wAI bq)
 refine Zh (j:=2) (vs:=[jV (w64 ((gd ab aa) + 1))]) (cs':=hH KL.encI (nK ab aa (w64 ((gd ab aa) + 1)))) rfl rfl rfl rfl eS rfl rfl rfl rfl rfl zC (by rw [wAF (f:=KL.encI) (sz:=1) (fun _=>rfl)];have hz:=wAI bq;show _ + 1 <= _;first | omega | (simp only [nJ];omega) | (simp only [nH,nE,nG];omega)) rfl (wBr (sz:=1) (fo:=0) (fun _=>rfl) _ _ _ _ pR (by first | omega | (simp only [nJ];omega) | (simp only [nH,nE,nG];omega)) (zB rfl) rfl) rfl ?_
 intro gz oW
 let dW:Res:=.row (some ⟨aq,0,none⟩) ak.length 3 1 (hH KL.encI (nK ab aa (w64 ((gd ab aa) + 1))))
 have oX:SW w [B1] U bT [bC,av,dW,aX,.blk b3 26 B0,au,dk] gz:=oW
 have oY:SW w [B1] U bT [bC,av,dW,.blk b7 26 [.slice bj aT.length bk,.slice (some ⟨aq,0,none⟩) ((nK ab aa (w64 ((gd ab aa) + 1))).length) ak.length,.slice aV aU.length aW],.blk b3 26 B0,au,dk] gz:=by simpa only [B0,B1,au,av,aX,bC,dk,dW,nI] using oX
 refine zo (zf ?_)
 cases qw
 exact zH ⟨rfl,⟨bT,cu,cA,bh,bD,aZ,bu,bE,bg,(nR (b:=(.slice (some ⟨aS,0,none⟩) ai.length aQ.length:Value)) (c:=(.slice (some ⟨aS,0,none⟩) ((nK ai aa (w64 ((gd ai aa) + 1))).length) aQ.length:Value)) bi (by simp only [nI])),bF,bG,bv,bw,(br.trans cO),oY,dF,(nI.trans bH),(nI.trans bI)⟩⟩
 intro bf qx
 refine rU Z (wF Z bf) (zI Z aZ zE Z ZO) (zm Z Z Z (wF Z bf) (cJ.ldB (j:=3) Z Z Z ZY (v:=.slice aV aU.length aW) Z) Z (zh Z Z Z (wF Z bf) Z bg (zh Z Z Z (wF Z bf) Z Z (rU Z (wF Z bf) (ZH (pv:=[(0,jV (↑aa:Int)),(1,jV (↑aa:Int))]) (z:=[jV 0,jV 0]) (cs:=[jV (↑aa:Int),jV (↑aa:Int)]) Z (wAJ Z (wAJ Z wAl)) ZM wCd Z Z) ?_))))
 have mq:=ff.le fu
 have mr:=mq.le dJ
 have ms:=mr.le fw
 have mu:=ms.le br
 have mw:=mu.le cO
 refine bnK qx fun r8 my qy=>zM 0 Z Z Z (wF Z bf) (zK Z Z Try.call10 (zD Z (zD Z zS)) Z) cJ (fun hs=>wAU aU aV aW (⟨(↑aa:Int),(↑aa:Int)⟩:wAA) gy bT hs mw my) (.inr Z) ?_
 rintro cj rp rV jh dL o0 ⟨rfl,rfl⟩
 have eT:SW w [B1] U cj [bC,av,bA,aX,.blk b3 26 B0,au,cd] jh:=o0
 refine zL Z Z Z (zR Z Z (nF (be.out))) (fun _=>zj Z (zr bf.out) Z) (oR Z (zP Z (nF (be.out)) Z) (eN (ifc qy ?_ ?_)))
 intro ez qz
 refine zt (congrArg nA ez.out) (sR (wIp (.fx 6 .nil .stop)) Z (oM Z bi (oM Z Z (bnK qz fun _ cG qA=>oR Z (ZG Z Z Z Z zA zC (wAI cG)) ?_))))
 have pS:=wBO (xs:=ai) (wAI cG)
 refine zm rfl rfl rfl rfl (eT.ldR (j:=6) rfl rfl rfl rfl zJ (wAZ (sz:=1) (fun _=>rfl) _ _ 0 _ pS (by first | omega | rfl | simp) rfl)) rfl (zL rfl rfl rfl rfl (fun _=>zW rfl rfl rfl) (zL rfl rfl rfl rfl (fun _=>ZG rfl rfl rfl rfl zA zC (wAI cG)) ?_))
 have pT:=wBO (xs:=ai) (wAI cG)
 refine Zh (j:=6) (vs:=[jV (w64 ((gd ai aa) + 1))]) (cs':=hH KL.encI (nK ai aa (w64 ((gd ai aa) + 1)))) rfl rfl rfl rfl eT rfl rfl rfl rfl rfl zC (by rw [wAF (f:=KL.encI) (sz:=1) (fun _=>rfl)];have hz:=wAI cG;show _ + 1 <= _;first | omega | (simp only [nJ];omega) | (simp only [nH,nE,nG];omega)) rfl (wBr (sz:=1) (fo:=0) (fun _=>rfl) _ _ _ _ pT (by first | omega | (simp only [nJ];omega) | (simp only [nH,nE,nG];omega)) (zB rfl) rfl) rfl ?_
 intro ji o5
 let dm:Res:=.row (some ⟨aS,0,none⟩) aQ.length 3 1 (hH KL.encI (nK ai aa (w64 ((gd ai aa) + 1))))
 have eU:SW w [B1] U cj [bC,av,bA,aX,.blk b3 26 B0,au,dm] ji:=o5
 refine eN (rR (wHU (.fx 7 .nil .stop)) Z (oR Z (zI Z aZ zE Z zY) (oL Z (eU.ldB (j:=3) Z Z Z zl (v:=.slice (some ⟨aq,0,none⟩) ab.length ak.length) Z) (oM Z Z (oR Z (ZG Z Z Z Z zA zC (wAI bq)) ?_)))))
 have pU:=wBO (xs:=ab) (wAI bq)
 refine zm rfl rfl rfl rfl (eU.ldR (j:=2) rfl rfl rfl rfl zJ (wAZ (sz:=1) (fun _=>rfl) _ _ 0 _ pU (by first | omega | rfl | simp) rfl)) rfl (zL rfl rfl rfl rfl (fun _=>zW rfl rfl rfl) (zL rfl rfl rfl rfl (fun _=>ZG rfl rfl rfl rfl zA zC (wAI bq)) ?_))
 have pV:=wBO (xs:=ab) (wAI bq)
 refine Zh (j:=2) (vs:=[jV (w64 ((gd ab aa) + 1))]) (cs':=hH KL.encI (nK ab aa (w64 ((gd ab aa) + 1)))) rfl rfl rfl rfl eU rfl rfl rfl rfl rfl zC (by rw [wAF (f:=KL.encI) (sz:=1) (fun _=>rfl)];have hz:=wAI bq;show _ + 1 <= _;first | omega | (simp only [nJ];omega) | (simp only [nH,nE,nG];omega)) rfl (wBr (sz:=1) (fo:=0) (fun _=>rfl) _ _ _ _ pV (by first | omega | (simp only [nJ];omega) | (simp only [nH,nE,nG];omega)) (zB rfl) rfl) rfl ?_
 intro gA o7
 let dX:Res:=.row (some ⟨aq,0,none⟩) ak.length 3 1 (hH KL.encI (nK ab aa (w64 ((gd ab aa) + 1))))
 have o8:SW w [B1] U cj [bC,av,dX,aX,.blk b3 26 B0,au,dm] gA:=o7
 have o9:SW w [B1] U cj [bC,av,dX,.blk b7 26 [.slice bj aT.length bk,.slice (some ⟨aq,0,none⟩) ((nK ab aa (w64 ((gd ab aa) + 1))).length) ak.length,.slice aV aU.length aW],.blk b3 26 B0,au,dm] gA:=by simpa only [B0,B1,au,av,aX,bC,dm,dX,nI] using o8
 refine zo (zf ?_)
 cases qA
 have mz:=dF.le dL
 exact zH ⟨rfl,⟨cj,cu,cA,bh,bD,aZ,bu,bE,bg,(nR (b:=(.slice (some ⟨aS,0,none⟩) ai.length aQ.length:Value)) (c:=(.slice (some ⟨aS,0,none⟩) ((nK ai aa (w64 ((gd ai aa) + 1))).length) aQ.length:Value)) bi (by simp only [nI])),bF,bG,bv,bw,((br.trans cO).trans dL),o9,mz,(nI.trans bH),(nI.trans bI)⟩⟩
 intro ez qB
 refine zn (congrArg nA (nB.2 ez.out)) (ZR (zf ?_))
 cases qB
 have mA:=dF.le dL
 exact zH ⟨Z,⟨cj,cu,cA,bh,bD,aZ,bu,bE,bg,bi,bF,bG,bv,bw,((br.trans cO).trans dL),eT,mA,bH,bI⟩⟩
 intro bK qC
 refine oF Z bK (Zb Z Z Z (zU Z Z (zr bK.out) Z) (oF Z bK (oR Z (zj Z (zr bK.out) Z) (oM Z Z (oN Z (oN Z (oN Z (oN Z (zk Z Z Z (wAx Z Z Z) (zk Z Z Z (wAx Z Z Z) (zk Z Z Z (wAx Z Z Z) (zk Z Z Z (wAx Z Z Z) (zk Z Z Z (wAx Z Z Z) (Zb Z Z Z (wAx Z Z Z) (oN Z (oR Z (zj Z Z Z) (eN (zn Z (ZR (zf ?_))))))))))))))))))))
 cases qC
 exact zH ⟨Z,⟨dq,cZ,dy,bh,bD,aZ,bu,bE,bg,bi,bF,bG,bv,bw,br,cH,eL,bH,bI⟩⟩
 rintro sA rA ⟨iU,cY,dw,lh,li,lj,lm,ln,lp,lq,lu,lv,lw,lx,qK,pb,mB,mC,mD⟩
 refine rR fL2 Z (oR Z (zu (zW Z lx Z) (congrArg (jV) pX.out)) (oM Z Z (zo ?_)))
 cases iA
 exact zH ⟨Z,⟨iU,cY,dw,Z,lh,li,lj,lm,ln,lp,lq,lu,lv,lw,(fw.trans qK),pb,mB,mC,mD⟩⟩
 rintro sB jj ⟨rq,fS,gL,lN,lz,lA,lB,lC,lD,rE,lE,lF,lG,lH,iL,pe,mF,mG,rH⟩
 have jw:Hid (¬ ((↑(((gd aT aa):Int) - 0).toNat:Int) < (gd aT aa))):=zG (wBD)
 refine sR fL1 Z (oR Z (zX Z lN lH) (eN (zF (cF Z jw (ZN (zg (zg (ZB (zH (rR gAx Z (oM Z lD (oM Z lE ?_))))))))))))
 have q:=pe.freezeR (k:=6) (n:=bZ.length) rfl (wAF (f:=KL.encI) (sz:=1) (fun _=>rfl) bZ) (by decide)
 obtain ⟨cx,fy,qF,pg⟩:=q
 let dY:Res:=.blk b7 26 [.slice bj aT.length bk,.slice (some ⟨aq,0,none⟩) iO.length ak.length,.slice aV aU.length aW]
 let dZ:Res:=.row (some ⟨aq,0,none⟩) ak.length 3 1 (hH KL.encI iO)
 let d7:Res:=.blk am 87 [.slice fS qT.length gL,jV qU,.int .u32 qV]
 have ph:SW w [B1] U cx [d7,av,dZ,dY,.blk b3 26 B0,au] jj:=pg
 let dp:List Value:=[.slice (some ⟨aS,0,none⟩) bZ.length aQ.length]
 refine Za (pv:=[(0,.slice (some ⟨aS,0,none⟩) bZ.length aQ.length)]) (zs:=[.slice none 0 0]) (cs:=dp) Z Z Z Z Z (wAJ Z wAl) Try.runUnderlying27 zY Try.zeroValue23 Z Z Z Z Z ph ?_
 intro jk jq pf
 have iG:RlL cx wPt [bZ] dp:=(RlL.cons (R:=wPt) (x:=bZ) (vs:=dp) ⟨(some ⟨aS,0,none⟩),aQ.length,rfl,qF⟩ RlL.nil)
 let ga:Res:=.row (some ⟨jq,0,none⟩) 1 23 1 dp
 have im:SW w [B1] U cx [ga,d7,av,dZ,dY,.blk b3 26 B0,au] jk:=pf
 refine bnK iz fun qO mH qD=>?_
 have mI:=lZ.le dJ
 have mJ:=mI.le iL
 have mK:=mJ.le fy
 refine OKS.appendR (R:=wPt) (j:=6) (xs:=bQ) (ys:=[bZ]) (zs:=qO) rfl rfl rfl rfl rfl Try.underlying27 wPu rfl rfl rfl rfl rfl rfl rfl im rfl rfl rfl mK iG (im.srcR (j:=0) rfl (by decide) (RlL.len iG)) mH rfl ?_
 intro fT gN gS jl pi qE
 have pj:SW w [B1] U cx [ga,d7,av,dZ,dY,.blk b3 26 B0,.row fT gN 23 1 gS] jl:=pi
 refine oA Z Z (zo (zf (zH (rR fL2 Z (oR Z (zu (zW Z lG Z) (congrArg (jV) pW.out)) (oM Z Z (zo ?_)))))))
 cases qD
 have mL:=mF.le fy
 exact zH ⟨rfl,⟨cx,fS,gL,bj,bk,fT,gN,gS,rfl,lz,lA,lB,lC,rfl,lF,(((fu.trans dJ).trans iL).trans fy),(pj.pick [1,2,3,4,5,6] _ (by decide) rfl),mL,mG,qE⟩⟩
 rintro sC rB ⟨gi,fU,gO,dQ,eA,dR,eC,gP,lO,rF,ib,lI,rG,lJ,lK,qL,io,mM,rI,mN⟩
 have jx:Hid (¬ ((↑((aR:Int) - 0).toNat:Int) < aR)):=zG (wBD)
 refine sR fL1 Z (oR Z (zX Z lO lK) (eN (zF (cF Z jx (ZN (zg (zg (ZB (zH (sR gAu Z ?_))))))))))
 let cf:List Value:=[.slice dQ iM.length eA,.slice (some ⟨aq,0,none⟩) iN.length ak.length,.slice aV aU.length aW]
 refine oL Z (io.ldBA (j:=3) Z Z lI ZU zZ (vs:=cf) Z Z) (oM Z lJ (ZA (j:=4) (vs:=cf) Z Z Z Z io Z ib Z Z zZ (zB Z) Z Z Z ?_))
 intro jm pk
 have ip:SW w [B1] U gi [.blk am 87 [.slice fU qP.length gO,jV qQ,.int .u32 qR],.row dQ eA 3 1 (hH KL.encI iM),.row (some ⟨aq,0,none⟩) ak.length 3 1 (hH KL.encI iN),.blk b7 26 cf,.blk b3 26 cf,.row dR eC 23 1 gP] jm:=pk
 refine oA Z Z (eN (zQ ?_))
 have mO:=ff.le qL
 cases iw
 exact ⟨rfl,_,(wKI (rs:=[.cell 4 26,.tmp 5]) (vs:=[.agg cf.toArray,.slice dR qS.length eC]) ⟨⟨_,ib,(wHc ZU zZ (ip.blkAt (k:=4) rfl) (vs:=cf) rfl rfl)⟩,⟨rfl,trivial⟩⟩ rfl),gi,_,(ip.pick [1,2,5,0] _ (by decide) rfl),dQ,eA,(some ⟨aq,0,none⟩),ak.length,aV,aW,dR,eC,gP,fU,gO,rfl,rfl,mO,mN,mM⟩
end Go.Proofs.Ytfcmijinklojbaa
namespace Go.Proofs.Ytfcmijinklojbaa
open Go.KL
set_option maxHeartbeats 4000000
theorem wDF (p0:wAD) (am:Nat) (aX:Option Addr) (aY:Nat) (p1:Int) (w:World) (U:PHeap) (hS:St0 w U [.blk am 87 [.slice aX p0.bytes.length aY,jV p0.next,.int .u32 p0.state]]) (cx:Sl U 1 aX aY p0.bytes.length (hH KL.encB8 p0.bytes)) {r:(List Int) × wAD} (hm:wAs p0 p1=some r):Gv Try.prog 9 [.pointer (some ⟨am,0,none⟩),jV p1] w (wCp w [.blk am 87 [.slice aX p0.bytes.length aY,jV p0.next,.int .u32 p0.state]] U (fun U_ L_ v=>∃ (A0:Option Addr) (c0:Nat) (bp:Option Addr) (bz:Nat),v=.slice A0 r.1.length c0/\L_=[.row A0 c0 3 1 (hH KL.encI r.1),.blk am 87 [.slice bp r.2.bytes.length bz,jV r.2.next,.int .u32 r.2.state]]/\Sl U_ 1 bp bz r.2.bytes.length (hH KL.encB8 r.2.bytes))):=by
 unfold wAs at hm
 refine Gv.of Try.func9 Z Try.ntmps9 Try.results9 Z (sR fL1 Z (oA Z Z (eN (sR fL1 Z (oA Z Z (eN (zF (sR fL3 Z (oM Z Z (oR Z (Runs.max Z Z Z) (oM Z Z (eN (zV (bnK hm fun cU cz cL=>?_))))))))))))))
 have q:=wBf cz
 obtain ⟨bk,cA⟩:=q
 replace bk:=zG bk
 let B0:Res:=.blk am 87 [.slice aX p0.bytes.length aY,jV p0.next,.int .u32 p0.state]
 refine CK.forN' (fun ak aV σ_ w_=>∃ (U_:PHeap) (aZ:Option Addr) (bb:Nat),σ_ 11=jV (↑ak:Int)/\σ_ 0=.pointer (some ⟨am,0,none⟩)/\σ_ 5=.slice aZ aV.length bb/\σ_ 10=jV (max 0 p1)/\PHeap.Le U U_/\SW w [B0] U U_ [B0,.row aZ bb 3 1 (hH KL.encI aV)] w_) cA ?_ ?_ ?_
 have cn:=hS.nilrow 3 1
 exact ⟨U,none,0,rfl,rfl,rfl,rfl,(ze _),(cn.pick [1,0] _ (by decide) rfl)⟩
 rintro ak aV de dg cX bj ⟨bg,aZ,bb,bi,bR,bS,bB,cQ,cp⟩ cN
 have bv:Hid ((↑ak:Int) < (max 0 p1)):=zG (wBe bj)
 replace bj:=zG bj
 have cG:Hid (w64 ((↑ak:Int) + 1)=(↑(ak + 1):Int)):=zG (by have h1:=bk.out;have h2:=bv.out;rw [wAd] <;> omega)
 refine sR fL1 Z (oR Z (zX Z bi bB) (eN (zF (cT Z bv (kN (zF (zV (sR fL2 Z (oM Z bi (oA Z Z (eN (rR gAx Z (oM Z bS (oM Z Z (Za (pv:=[(0,jV (↑ak:Int))]) (zs:=[jV 0]) (cs:=[jV (↑ak:Int)]) Z Z Z Z Z (wAJ Z wAl) zA zC Zi Z Z Z Z Z cp ?_)))))))))))))))
 intro bM bO cq
 let B1:Res:=.row (some ⟨bO,0,none⟩) 1 3 1 (hH KL.encI [(↑ak:Int)])
 have bF:SW w [B0] U bg [B1,B0,.row aZ bb 3 1 (hH KL.encI aV)] bM:=cq
 refine bnK cN fun x47 b5 cM=>OKS.append (j:=2) (enc:=KL.encI) (xs:=aV) (ys:=[(↑ak:Int)]) (zs:=x47) rfl rfl rfl rfl rfl Try.underlying23 wDz rfl rfl rfl rfl rfl rfl bF rfl rfl rfl (bF.srcR (j:=0) rfl (by decide) (wAF (f:=KL.encI) (sz:=1) (fun _=>rfl) [(↑ak:Int)])) (fun _=>rfl) (fun _=>rfl) b5 rfl ?_
 intro bo bw bN ct
 have cu:SW w [B0] U bg [B1,B0,.row bo bw 3 1 (hH KL.encI x47)] bN:=ct
 refine oA Z Z (zo (zf (zH (rR fL2 Z (oR Z (zu (zW Z bi Z) (congrArg (jV) cG.out)) (oM Z Z (zo ?_)))))))
 cases cM
 exact zH ⟨rfl,⟨bg,bo,bw,rfl,bR,rfl,bB,cQ,(cu.pick [1,2] _ (by decide) rfl)⟩⟩
 rintro dh cY ⟨bs,ae,ah,bV,bT,bC,bU,cR,cw⟩
 have bP:Hid (¬ ((↑((max 0 p1:Int) - 0).toNat:Int) < (max 0 p1))):=zG (wBD)
 refine sR fL1 Z (oR Z (zX Z bV bU) (eN (zF (cF Z bP (ZN (zg (zg (ZB (zH (zF (sR fL4 Z (oM Z bC (oR Z (ZC Z Z zA) (oR Z (Zc Z Z Z) (oA Z Z (eN (zV (CK.iter (fun (aW,x98,x99,aa,ab) σ_ w_=>∃ (U_:PHeap) (aQ:Option Addr) (aR:Nat),σ_ 0=.pointer (some ⟨am,0,none⟩)/\σ_ 5=.slice ae aa.length ah/\σ_ 7=jV ab/\PHeap.Le bs U_/\SW w [B0] U U_ [.blk am 87 [.slice aQ aW.length aR,jV x98,.int .u32 x99],.row ae ah 3 1 (hH KL.encI aa)] w_/\Sl U_ 1 aQ aR aW.length (hH KL.encB8 aW)/\aa.length=cU.length) cL ?_ ?_))))))))))))))))))
 have bW:=cx.le cR
 exact ⟨bs,aX,aY,bT,bC,Z,(ze _),cw,bW,Z⟩
 rintro ⟨aW,x98,x99,aa,ab⟩ db df bJ ⟨br,aQ,aR,bA,av,aS,cO,bE,bD,bX⟩ bl cy
 try dsimp only at bl
 refine zF (sR fL2 Z (oM Z aS (oR Z (Runs.gtr Z Z Z) (eN ?_))))
 by_cases ap:0 < ab
 have bG:=bl;rw [if_pos ap] at bG;replace ap:=zG ap
 refine cT Z ap (kN (zF (zV (sR (wGK gAl) Z (oM Z bA (oM Z aS (oR Z (zW Z Z Z) ?_)))))))
 have q:=bnd bG
 obtain ⟨⟨x120,x121⟩,bY,bH⟩:=q
 try dsimp only at bH
 refine zM 1 Z Z Z Z (zK Z Z Try.call29 (zD Z (zD Z zS)) Z) bE (fun hs=>wBS (⟨aW,x98,x99⟩:wAD) am aQ aR (w64 (ab + 1)) bJ br hs bD bY) (.inl Z) ?_
 rintro ba cV da bh cP b9 ⟨bn,bu,rfl,rfl,bZ⟩
 let B2:Res:=.blk am 87 [.slice bn x121.bytes.length bu,jV x121.next,.int .u32 x121.state]
 have cd:SW w [B0] U ba [B2,.row ae ah 3 1 (hH KL.encI aa)] bh:=b9
 refine OKS.ra rfl rfl rfl rfl rfl rfl (eN (ZJ ZK [3,3,3,3,3,3,3,1,3,3,3,1,3,0,3,0] (wJV (.fx 13 (.fl 14 (.fx 15 .nil .stop)) .stop)) (by kernel_rfl) ?_))
 have aU:=cd.drew
 generalize hw_W135:({ bh with drawn:=bh.drawn + 1 }:World)=cW at aU ⊢
 refine oM Z av (oM Z aS (oM Z av (oM Z Z (oM Z av (oM Z Z (bnK bH fun _ be cH=>?_))))))
 obtain ⟨cZ,aq⟩:=aU.rowSome (j:=1) rfl (by rw [wAF (f:=KL.encI) (sz:=1) (fun _=>rfl) aa];have hz:=wAI be;omega)
 refine oR Z (ZF Z Z aq Z zA zC (wAq be) (wAr be)) ?_
 have cB:=wBO (xs:=aa) (wAI be)
 refine zm rfl rfl rfl rfl (aU.ldR (j:=1) rfl aq rfl rfl zJ (wAZ (sz:=1) (fun _=>rfl) _ _ 0 _ cB (by first | omega | rfl | simp) rfl)) rfl (zh rfl rfl rfl rfl rfl av (zh rfl rfl rfl rfl rfl aS (bnK cH fun _ au cI=>zL rfl rfl rfl rfl (fun _=>ZF rfl rfl aq rfl zA zC (wAq au) (wAr au)) ?_)))
 have cC:=wBO (xs:=aa) (wAI au)
 refine zm rfl rfl rfl rfl (aU.ldR (j:=1) rfl aq rfl rfl zJ (wAZ (sz:=1) (fun _=>rfl) _ _ 0 _ cC (by first | omega | rfl | simp) rfl)) rfl (zL rfl rfl rfl rfl (fun _=>ZF rfl rfl aq rfl zA zC (wAq au) (wAr au)) ?_)
 have cD:=wBO (xs:=aa) (wAI au)
 refine Zh (j:=1) (vs:=[jV (gd aa x120.toNat)]) (cs':=hH KL.encI (nK aa ab.toNat (gd aa x120.toNat))) rfl rfl rfl rfl aU rfl aq rfl rfl rfl zC (by rw [wAF (f:=KL.encI) (sz:=1) (fun _=>rfl)];have hz:=wAI au;show _ + 1 <= _;first | omega | (simp only [nJ];omega) | (simp only [nH,nE,nG];omega)) rfl (wBr (sz:=1) (fo:=0) (fun _=>rfl) _ _ _ _ cD (by first | omega | (simp only [nJ];omega) | (simp only [nH,nE,nG];omega)) (zB rfl) rfl) rfl ?_
 intro bK cf
 have cg:SW w [B0] U ba [B2,.row ae ah 3 1 (hH KL.encI (nK aa ab.toNat (gd aa x120.toNat)))] bK:=cf
 refine bnK cI fun _ aT cJ=>zL rfl rfl rfl rfl (fun _=>ZF rfl (nR (b:=(.slice ae aa.length ah:Value)) (c:=(.slice ae ((nK aa ab.toNat (gd aa x120.toNat)).length) ah:Value)) rfl (by simp only [nI])) aq rfl zA zC (wAq aT) (wAr aT)) ?_
 have cE:=wBO (xs:=(nK aa ab.toNat (gd aa x120.toNat))) (by first | exact wAI aT | (have hz:=wAI aT;simpa only [nI] using hz))
 refine Zh (j:=1) (vs:=[jV (gd aa ab.toNat)]) (cs':=hH KL.encI (nK (nK aa ab.toNat (gd aa x120.toNat)) x120.toNat (gd aa ab.toNat))) rfl rfl rfl rfl cg rfl aq rfl rfl rfl zC (by rw [wAF (f:=KL.encI) (sz:=1) (fun _=>rfl)];have hz:=wAI aT;show _ + 1 <= _;first | omega | (simp only [nI];omega) | (simp only [nH,nE,nG,nI];omega) | (simp only [nJ];omega) | (simp only [nH,nE,nG];omega)) rfl (wBr (sz:=1) (fo:=0) (fun _=>rfl) _ _ _ _ cE (by first | omega | (simp only [nJ];omega) | (simp only [nH,nE,nG];omega)) (zB rfl) rfl) rfl ?_
 intro bL ci
 have cj:SW w [B0] U ba [B2,.row ae ah 3 1 (hH KL.encI (nK (nK aa ab.toNat (gd aa x120.toNat)) x120.toNat (gd aa ab.toNat)))] bL:=ci
 refine zo (zf (zH (rR fL3 Z (oM Z aS (oR Z (Zc Z Z Z) (oA Z Z (zo ?_)))))))
 have q:=nD cJ
 obtain rfl:=q
 exact zH ⟨rfl,_,rfl,⟨ba,bn,bu,bA,(nR (b:=(.slice ae ((nK aa ab.toNat (gd aa x120.toNat)).length) ah:Value)) (c:=(.slice ae ((nK (nK aa ab.toNat (gd aa x120.toNat)) x120.toNat (gd aa ab.toNat)).length) ah:Value)) (nR (b:=(.slice ae aa.length ah:Value)) (c:=(.slice ae ((nK aa ab.toNat (gd aa x120.toNat)).length) ah:Value)) av (by simp only [nI])) (by simp only [nI])),rfl,(cO.trans cP),cj,bZ,((nI.trans nI).trans bX)⟩⟩
 have bI:=bl;rw [if_neg ap] at bI;replace ap:=zG ap
 refine cF Z ap (ZN (zg ?_))
 have q:=wAo bI
 obtain ⟨cS,cK,bQ⟩:=q
 have q:=cy cS bQ
 obtain rfl:=q
 refine zg (ZB (zH (sR fL2 Z (oM Z av (oA Z Z (eN (zQ ?_)))))))
 cases cK
 exact ⟨rfl,_,(zy rfl),br,_,(bE.pick [1,0] _ (by decide) rfl),ae,ah,aQ,aR,rfl,rfl,bD⟩
theorem wCP (p0:List Int) (aq:Option Addr) (au:Nat) (p1:Int) (w:World) (U:PHeap) (hS:St0 w U []) (bi:Sl U 1 aq au p0.length (hH KL.encI p0)) {r:Int} (hm:wAK p0 p1=some r):Gv Try.prog 11 [.slice aq p0.length au,jV p1] w (wCp w [] U (fun U_ L_ v=>v=jV r/\L_=[])):=by
 unfold wAK at hm
 refine Gv.of Try.func11 Z Try.ntmps11 Try.results11 Z (sR fL1 Z (oA Z Z (eN (zF (sR fL3 Z (oM Z Z (oR Z (ZC Z Z zA) (oM Z Z (eN (zV ?_))))))))))
 have q:=wCj hm
 obtain ⟨r3,aj⟩:=q
 have q:=wCi aj
 obtain ⟨am,bl⟩:=q
 replace am:=zG am
 refine CK.forN (fun k2 _ σ_ w_=>∃ (U_:PHeap),σ_ 8=jV (↑k2:Int)/\σ_ 0=.slice aq p0.length au/\σ_ 1=jV p1/\σ_ 7=jV (↑p0.length:Int)/\PHeap.Le U U_/\sW w U U_ [] w_) bl ?_ ?_ ?_
 exact ⟨U,Z,Z,Z,Z,(ze _),hS⟩
 rintro k2 ⟨⟩ bD bF W8 ak ⟨av,ah,aQ,aR,aS,aW,ai⟩ aV bj
 try dsimp only at aV
 have az:Hid ((↑k2:Int) < (↑p0.length:Int)):=zG (wBe ak)
 replace ak:=zG ak
 have bm:Hid (w64 ((↑k2:Int) + 1)=(↑(k2 + 1):Int)):=zG (by have h1:=am.out;have h2:=az.out;rw [wAd] <;> omega)
 refine sR fL1 Z (oR Z (zX Z ah aS) (eN (zF (cT Z az (kN (zF (zV (sR fL2 Z (oM Z ah (oA Z Z (eN (sR fL6 Z (oM Z aR (oM Z aQ (oM Z Z (bnK aV fun bs aT bn=>?_))))))))))))))))
 have be:=bi.le aW
 have q:=be.el (fun _=>rfl) (wBU aT)
 obtain ⟨bv,bB,bf,bg⟩:=q
 refine oR Z (ZG Z Z bf Z zA zC (wCt aT)) (oL Z (ai.ldC (f:=0) bg (v:=jV bs) Z Z zJ Z) (oR Z (Runs.eql Z Z Z) (eN (ifc bn ?_ ?_))))
 intro ae bo
 refine cT Z ae (sR fL2 Z (oM Z Z (oA Z Z (eN (zQ (zd (zO ?_)))))))
 have q:=wAo bo
 obtain ⟨br,bp,aZ⟩:=q
 have q:=wBz hm aj (bj br aZ)
 obtain rfl:=q
 refine zO (zd (zO ?_))
 cases bp
 exact ⟨Z,_,(zy Z),av,_,ai,Z,Z⟩
 intro ae bq
 refine cF Z ae (ZR (zf (zH (rR fL2 Z (oR Z (zu (zW Z ah Z) (congrArg (jV) bm.out)) (oM Z Z (zo ?_)))))))
 have q:=nD bq
 obtain rfl:=q
 exact zH ⟨Z,_,Z,⟨av,Z,aQ,aR,aS,aW,ai⟩⟩
 rintro ⟨⟩ bE bt ⟨aX,bb,bw,bz,ba,bA,bh⟩ bk
 have aU:=wDh hm aj bk
 try dsimp only at aU
 have aY:Hid (¬ ((↑(((↑p0.length:Int):Int) - 0).toNat:Int) < (↑p0.length:Int))):=zG (wBD)
 refine sR fL1 Z (oR Z (zX Z bb ba) (eN (zF (cF Z aY (ZN (zg (zg (ZB (zH (sR fL1 Z (oA Z Z (eN (zQ ?_)))))))))))))
 cases aU
 exact ⟨Z,_,(zy Z),aX,_,bh,Z,Z⟩
theorem wBA (p0:Int) (p1:Int) (p2:Int) (w:World) (U:PHeap) (hS:St0 w U [])  {r:Bool} (hm:wAc p0 p1 p2=some r):Gv Try.prog 70 [jV p0,jV p1,jV p2] w (wCp w [] U (fun U_ L_ v=>v=.bool r/\L_=[])):=by
 unfold wAc at hm
 refine Gv.of Try.func70 Z Try.ntmps70 Try.results70 Z (sR fL1 Z (oA Z Z (eN (sR fL9 Z (oM Z Z (oM Z Z (oR Z (Runs.geq Z Z Z) (oM Z Z ?_))))))))
 by_cases c1:p1 <= p0
 have ab:=hm;rw [if_pos c1] at ab;replace c1:=zG c1
 refine zh Z Z Z (wT Z c1) Z Z (zh Z Z Z (wT Z c1) Z Z (rU Z (wT Z c1) (Runs.leq Z Z Z) (oR Z (zP Z (Zf c1.out) Z) (oA Z Z (eN (zQ ?_))))))
 first | (obtain rfl:=nD ab) | cases ab
 exact ⟨Z,_,(zy Z),U,_,hS,Z,Z⟩
 have ai:=hm;rw [if_neg c1] at ai;replace c1:=zG c1
 refine oF Z c1 (oF Z c1 (oF Z c1 (oR Z (zj Z (zr c1.out) Z) (oA Z Z (eN (zQ ?_))))))
 have hE:=nD ai;first | subst r | cases hE
 exact ⟨Z,_,(zy Z),U,_,hS,Z,Z⟩
theorem wEm (p0:Int) (p1:(Int->Option Bool)) (ai:Nat) (ab:Value) (w:World) (U:PHeap) (hS:St0 w U []) (aq:Cl U ai 0 [ab]) (au:FnOK Try.prog U ab wMS wOa p1) {r:Bool} (hm:wBE p0 p1=some r):Gv Try.prog 102 [jV p0,.pointer (some ⟨ai,0,none⟩)] w (wCp w [] U (fun U_ L_ v=>v=.bool r/\L_=[])):=by
 unfold wBE at hm
 refine Gv.of Try.func102 Z Try.ntmps102 Try.results102 Z (sR fL1 Z (oA Z Z (eN (sR gAw Z (oL Z (hS.ldC (f:=0) aq (v:=ab) Z Z Try.isAgg74 Z) (oM Z Z (bnK hm fun x1 h2 av=>OKS.callV (a:=p0) Z Z Z Z Z Z (zD Z zS) hS au Z h2 ?_)))))))
 rintro U4 L5 v6 W7 aQ ap ⟨rfl,rfl⟩
 have am:sW w U U4 [] W7:=ap
 refine oR Z (ZS Z Z) (oA Z Z (eN (zQ ?_)))
 cases av
 exact ⟨Z,_,(zy Z),U4,_,am,Z,Z⟩
theorem wCq (p0:List Int) (aq:Option Addr) (au:Nat) (p1:(Int->Option Bool)) (av:Value) (w:World) (U:PHeap) (hS:St0 w U []) (bp:Sl U 1 aq au p0.length (hH KL.encI p0)) (bq:FnOK Try.prog U av wMS wOa p1) {r:Int} (hm:wBB p0 p1=some r):Gv Try.prog 97 [.slice aq p0.length au,av] w (wCp w [] U (fun U_ L_ v=>v=jV r/\L_=[])):=by
 unfold wBB at hm
 refine Gv.of Try.func97 Z Try.ntmps97 Try.results97 Z (sR fL1 Z (oA Z Z (eN (zF (sR fL3 Z (oM Z Z (oR Z (ZC Z Z zA) (oM Z Z (eN (zV ?_))))))))))
 have q:=wCj hm
 obtain ⟨r3,aj⟩:=q
 have q:=wCi aj
 obtain ⟨am,bt⟩:=q
 replace am:=zG am
 refine CK.forN (fun k2 _ σ_ w_=>∃ (U_:PHeap),σ_ 8=jV (↑k2:Int)/\σ_ 0=.slice aq p0.length au/\σ_ 1=av/\σ_ 7=jV (↑p0.length:Int)/\PHeap.Le U U_/\sW w U U_ [] w_) bt ?_ ?_ ?_
 exact ⟨U,Z,Z,Z,Z,(ze _),hS⟩
 rintro k2 ⟨⟩ bQ bS W8 ak ⟨bF,ai,aQ,aR,aS,ap,aU⟩ aX br
 try dsimp only at aX
 have az:Hid ((↑k2:Int) < (↑p0.length:Int)):=zG (wBe ak)
 replace ak:=zG ak
 have bu:Hid (w64 ((↑k2:Int) + 1)=(↑(k2 + 1):Int)):=zG (by have h1:=am.out;have h2:=az.out;rw [wAd] <;> omega)
 refine sR fL1 Z (oR Z (zX Z ai aS) (eN (zF (cT Z az (kN (zF (zV (sR fL2 Z (oM Z ai (oA Z Z (eN (sR (wGL (.fx 5 .nil .stop)) Z (oM Z aR (oM Z aQ (oM Z Z (bnK aX fun aZ aT bv=>?_))))))))))))))))
 have bi:=bp.le ap
 have q:=bi.el (fun _=>rfl) (wBU aT)
 obtain ⟨bI,bM,bl,bm⟩:=q
 refine oR Z (ZG Z Z bl Z zA zC (wCt aT)) (oL Z (aU.ldC (f:=0) bm (v:=jV aZ) Z Z zJ Z) (bnK bv fun bP bj bw=>?_))
 have bk:=bq.le ap
 refine OKS.callV (a:=aZ) Z Z Z Z Z Z (zD Z zS) aU bk Z bj ?_
 rintro ae bE bO bb bC bn ⟨rfl,rfl⟩
 have aV:sW w U ae [] bb:=bn
 refine eN (ifc bw ?_ ?_)
 intro ah bz
 refine zt (congrArg nA ah.out) (sR fL2 Z (oM Z Z (oA Z Z (eN (zQ (zd (zO ?_)))))))
 have q:=wAo bz
 obtain ⟨bD,bA,bf⟩:=q
 have q:=wBz hm aj (br bD bf)
 obtain rfl:=q
 refine zO (zd (zO ?_))
 cases bA
 exact ⟨Z,_,(zy Z),ae,_,aV,Z,Z⟩
 intro ah bB
 refine zn (congrArg nA (nB.2 ah.out)) (ZR (zf (zH (rR fL2 Z (oR Z (zu (zW Z ai Z) (congrArg (jV) bu.out)) (oM Z Z (zo ?_)))))))
 have q:=nD bB
 obtain rfl:=q
 exact zH ⟨Z,_,Z,⟨ae,Z,aQ,aR,aS,(ap.trans bC),aV⟩⟩
 rintro ⟨⟩ bR bG ⟨ba,bh,bJ,bK,bg,bL,bo⟩ bs
 have aW:=wDh hm aj bs
 try dsimp only at aW
 have be:Hid (¬ ((↑(((↑p0.length:Int):Int) - 0).toNat:Int) < (↑p0.length:Int))):=zG (wBD)
 refine sR fL1 Z (oR Z (zX Z bh bg) (eN (zF (cF Z be (ZN (zg (zg (ZB (zH (sR fL1 Z (oA Z Z (eN (zQ ?_)))))))))))))
 cases aW
 exact ⟨Z,_,(zy Z),ba,_,bo,Z,Z⟩
theorem wCb (p0:List Int) (ae:Option Addr) (ah:Nat) (p1:(Int->Option Bool)) (ai:Value) (w:World) (U:PHeap) (hS:St0 w U []) (av:Sl U 1 ae ah p0.length (hH KL.encI p0)) (az:FnOK Try.prog U ai wMS wOa p1) {r:Bool} (hm:wAu p0 p1=some r):Gv Try.prog 98 [.slice ae p0.length ah,ai] w (wCp w [] U (fun U_ L_ v=>v=.bool r/\L_=[])):=by
 unfold wAu at hm
 refine Gv.of Try.func98 Z Try.ntmps98 Try.results98 Z (sR fL1 Z (oA Z Z (eN (sR gAw Z (oM Z Z (oM Z Z (bnK hm fun x1 h2 ak=>zM 0 Z Z Z Z (zK Z Z Try.call97 (zD Z (zD Z zS)) Z) hS (fun hs=>wCq p0 ae ah p1 ai w U hs av az h2) (.inr Z) ?_)))))))
 rintro U4 L5 v6 W7 aR au ⟨rfl,rfl⟩
 have aq:sW w U U4 [] W7:=au
 refine oR Z (Runs.geq Z Z Z) (oA Z Z (eN (zQ ?_)))
 first | (obtain rfl:=nD ak) | cases ak
 exact ⟨Z,_,(zy Z),U4,_,aq,Z,Z⟩
theorem wDb (p0:List Int) (ak:Option Addr) (am:Nat) (p1:(Int->Option Bool)) (ai:Value) (w:World) (U:PHeap) (hS:St0 w U []) (ba:Sl U 1 ak am p0.length (hH KL.encI p0)) (au:FnOK Try.prog U ai wMS wOa p1) {r:Bool} (hm:wBV p0 p1=some r):Gv Try.prog 79 [.slice ak p0.length am,ai] w (wCp w [] U (fun U_ L_ v=>v=.bool r/\L_=[])):=by
 unfold wBV at hm
 refine Gv.of Try.func79 Z Try.ntmps79 Try.results79 Z (sR gAh Z (ZX (cs:=[ai]) Z Z Z Z Z Z (FnOK.cells au) hS ?_))
 intro W1 b2 aX
 have q:=aX.freeze (k:=0) rfl
 obtain ⟨U5,av,ab,aY⟩:=q
 replace ab:=Cl.of ab
 have aZ:sW w U U5 [] W1:=aY
 replace ab:Cl U5 b2 0 [ai]:=ab
 refine oA Z Z (eN (sR gAw Z (oM Z Z (oR Z (Runs.mkf Z zS (zD Z zS)) ?_))))
 have aR:=ba.le av
 have aS:=au.le av
 have aU:FnOK Try.prog U5 (.func (.func 102) #[] #[.pointer (some ⟨b2,0,none⟩)]) wMS wOa (fun x=>wBE x p1):=⟨102,[],[.pointer (some ⟨b2,0,none⟩)],rfl,Try.call102,fun U1 w1 x y vs le hs ha hm=>by obtain rfl:=ha;exact wEm x p1 b2 ai w1 U1 hs (ab.le le) (aS.le le) hm⟩
 refine bnK hm fun x13 aT bb=>zM 0 Z Z Z Z (zK Z Z Try.call98 (zD Z (zD Z zS)) Z) aZ (fun hs=>wCb p0 ak am (fun x=>wBE x p1) (.func (.func 102) #[] #[.pointer (some ⟨b2,0,none⟩)]) W1 U5 hs aR aU aT) (.inr Z) ?_
 rintro ap bf bh aQ bg aV ⟨rfl,rfl⟩
 have aW:sW w U ap [] aQ:=aV
 refine oR Z (ZS Z Z) (oA Z Z (eN (zQ ?_)))
 cases bb
 exact ⟨Z,_,(zy Z),ap,_,aW,Z,Z⟩
theorem wFK (p0:Int) (w:World) (U:PHeap) (hS:St0 w U [])  {r:Bool} (hm:wBH p0=some r):Gv Try.prog 109 [jV p0] w (wCp w [] U (fun U_ L_ v=>v=.bool r/\L_=[])):=by
 unfold wBH at hm
 refine Gv.of Try.func109 Z Try.ntmps109 Try.results109 Z (sR fL1 Z (oA Z Z (eN (sR gAo Z (oM Z Z (bnK hm fun x1 h2 ak=>zM 0 Z Z Z Z (zK Z Z Zl (zD Z (zD Z (zD Z zS))) Z) hS (fun hs=>wBA p0 0 8 w U hs h2) (.inr Z) ?_))))))
 rintro U4 L5 v6 W7 ap aj ⟨rfl,rfl⟩
 have ai:sW w U U4 [] W7:=aj
 refine oA Z Z (eN (zQ ?_))
 have hE:=nD ak;first | subst r | cases hE
 exact ⟨Z,_,(zy Z),U4,_,ai,Z,Z⟩
theorem wFL (p0:Int) (w:World) (U:PHeap) (hS:St0 w U [])  {r:Bool} (hm:wBI p0=some r):Gv Try.prog 110 [jV p0] w (wCp w [] U (fun U_ L_ v=>v=.bool r/\L_=[])):=by
 unfold wBI at hm
 refine Gv.of Try.func110 Z Try.ntmps110 Try.results110 Z (sR fL1 Z (oA Z Z (eN (sR gAo Z (oM Z Z (bnK hm fun x1 h2 ak=>zM 0 Z Z Z Z (zK Z Z Zl (zD Z (zD Z (zD Z zS))) Z) hS (fun hs=>wBA p0 0 5 w U hs h2) (.inr Z) ?_))))))
 rintro U4 L5 v6 W7 ap aj ⟨rfl,rfl⟩
 have ai:sW w U U4 [] W7:=aj
 refine oA Z Z (eN (zQ ?_))
 have hE:=nD ak;first | subst r | cases hE
 exact ⟨Z,_,(zy Z),U4,_,ai,Z,Z⟩
theorem wFM (p0:wAA) (p1:Int) (aR:Nat) (w:World) (U:PHeap) (hS:St0 w U []) (az:Cl U aR 0 [jV p1]) {r:Bool} (hm:wBJ p0 p1=some r):Gv Try.prog 112 [.agg #[jV p0.Skier,jV p0.Lane],.pointer (some ⟨aR,0,none⟩)] w (wCp w [] U (fun U_ L_ v=>v=.bool r/\L_=[])):=by
 unfold wBJ at hm
 refine Gv.of Try.func112 Z Try.ntmps112 Try.results112 Z (sR gAh Z ?_)
 let B0:List Value:=[jV p0.Skier,jV p0.Lane]
 refine ZX (cs:=B0) rfl rfl rfl rfl rfl rfl (by rfl) hS ?_
 intro W1 b2 aq
 refine oA Z Z (eN (sR (wHT (.fx 4 (fC5_9 (.fx 10 (wOq (.nil)) .stop)) .stop)) Z (oR Z (zI Z Z zq Z zC) (oL Z (aq.ldB (j:=0) Z Z Z zJ (v:=jV p0.Skier) Z) (oL Z (aq.ldC (f:=0) az (v:=jV p1) Z Z zJ Z) (oR Z (Zc Z Z Z) (bnK hm fun x5 h6 bf=>zM 0 Z Z Z Z (zK Z Z Zl (zD Z (zD Z (zD Z zS))) Z) aq (fun hs=>wBA p0.Skier 0 (w64 (p1 - 1)) W1 U hs h6) (.inr Z) ?_)))))))
 rintro U8 L9 bk au bg aX ⟨rfl,rfl⟩
 have ai:sW w U U8 [.blk b2 35 B0] au:=aX
 refine oM Z Z (ifc bf ?_ ?_)
 intro aa aZ
 refine zL Z Z Z (zR Z Z (congrArg nA aa.out)) (fun _=>zI Z Z zq Z zC) (zm Z Z Z (zR Z Z (congrArg nA aa.out)) (ai.ldB (j:=0) Z Z Z zJ (v:=jV p0.Lane) Z) Z ?_)
 have aU:=az.le bg
 refine zm Z Z Z (zR Z Z (congrArg nA aa.out)) (ai.ldC (f:=0) aU (v:=jV p1) Z Z zJ Z) Z (zL Z Z Z (zR Z Z (congrArg nA aa.out)) (fun _=>Zc Z Z Z) (bnK aZ fun bm aV ba=>zM 0 Z Z Z (zR Z Z (congrArg nA aa.out)) (zK Z Z Zl (zD Z (zD Z (zD Z zS))) Z) ai (fun hs=>wBA p0.Lane 0 (w64 (p1 - 1)) au U8 hs aV) (.inr Z) ?_))
 rintro am bh bl aT bj aY ⟨rfl,rfl⟩
 have aj:sW w U am [.blk b2 35 B0] aT:=aY
 refine oR Z (zP Z (congrArg nA aa.out) Z) (oM Z Z (ifc ba ?_ ?_))
 intro ab aQ
 refine zL Z Z Z (zR Z Z (congrArg nA ab.out)) (fun _=>zI Z Z zq Z zC) (zm Z Z Z (zR Z Z (congrArg nA ab.out)) (aj.ldB (j:=0) Z Z Z zJ (v:=jV p0.Skier) Z) Z (zL Z Z Z (zR Z Z (congrArg nA ab.out)) (fun _=>zI Z Z zq Z zC) (zm Z Z Z (zR Z Z (congrArg nA ab.out)) (aj.ldB (j:=0) Z Z Z zJ (v:=jV p0.Lane) Z) Z (zL Z Z Z (zR Z Z (congrArg nA ab.out)) (fun _=>ZT Z Z Z) (oR Z (zP Z (congrArg nA ab.out) Z) (oA Z Z (eN (zQ ?_))))))))
 first | (obtain rfl:=nD aQ) | cases aQ
 exact ⟨rfl,_,(zy rfl),am,_,(aj.pick [] _ (by decide) rfl),rfl,rfl⟩
 intro ab bb
 refine zk Z Z Z (zU Z Z (congrArg nA (nB.2 ab.out)) Z) (zk Z Z Z (zU Z Z (congrArg nA (nB.2 ab.out)) Z) (zk Z Z Z (zU Z Z (congrArg nA (nB.2 ab.out)) Z) (zk Z Z Z (zU Z Z (congrArg nA (nB.2 ab.out)) Z) (zk Z Z Z (zU Z Z (congrArg nA (nB.2 ab.out)) Z) (oR Z (zj Z (congrArg nA (nB.2 ab.out)) Z) (oA Z Z (eN (zQ ?_))))))))
 have hE:=nD bb;first | subst r | cases hE
 exact ⟨rfl,_,(zy rfl),am,_,(aj.pick [] _ (by decide) rfl),rfl,rfl⟩
 intro aa be
 refine zk Z Z Z (zU Z Z (congrArg nA (nB.2 aa.out)) Z) (zk Z Z Z (zU Z Z (congrArg nA (nB.2 aa.out)) Z) (zk Z Z Z (zU Z Z (congrArg nA (nB.2 aa.out)) Z) (zk Z Z Z (zU Z Z (congrArg nA (nB.2 aa.out)) Z) (Zb Z Z Z (zU Z Z (congrArg nA (nB.2 aa.out)) Z) (oR Z (zj Z (congrArg nA (nB.2 aa.out)) Z) (oM Z Z (oN Z (oN Z (oN Z (oN Z (oN Z (oR Z (zj Z Z Z) (oA Z Z (eN (zQ ?_)))))))))))))))
 have hE:=nD be;first | subst r | cases hE
 exact ⟨rfl,_,(zy rfl),U8,_,(ai.pick [] _ (by decide) rfl),rfl,rfl⟩
theorem wCr (p0:wAA) (p1:(wAA->Option Bool)) (ak:Nat) (ah:Value) (w:World) (U:PHeap) (hS:St0 w U []) (az:Cl U ak 0 [ah]) (aQ:FnOK Try.prog U ah wOx wOy p1) {r:Bool} (hm:wAe p0 p1=some r):Gv Try.prog 119 [.agg #[jV p0.Skier,jV p0.Lane],.pointer (some ⟨ak,0,none⟩)] w (wCp w [] U (fun U_ L_ v=>v=.bool r/\L_=[])):=by
 unfold wAe at hm
 refine Gv.of Try.func119 Z Try.ntmps119 Try.results119 Z (sR gAh Z ?_)
 let B0:List Value:=[jV p0.Skier,jV p0.Lane]
 refine ZX (cs:=B0) rfl rfl rfl rfl rfl rfl (by rfl) hS ?_
 intro W1 b2 ae
 refine oA Z Z (eN (sR gAw Z (oL Z (ae.ldC (f:=0) az (v:=ah) Z Z Try.isAgg81 Z) (oL Z (ae.ldBA (j:=0) Z Z Z Ze zw (vs:=B0) Z Z) (bnK hm fun x5 h6 aR=>OKS.callV (a:=p0) Z Z Z Z Z Z (zD Z zS) ae aQ Z h6 ?_)))))
 rintro U8 L9 aV am aU au ⟨rfl,rfl⟩
 have av:sW w U U8 [.blk b2 35 B0] am:=au
 refine oR Z (ZS Z Z) (oA Z Z (eN (zQ ?_)))
 cases aR
 exact ⟨rfl,_,(zy rfl),U8,_,(av.pick [] _ (by decide) rfl),rfl,rfl⟩
theorem wBj (p0:List wAA) (aq:Option Addr) (au:Nat) (p1:(wAA->Option Bool)) (av:Value) (w:World) (U:PHeap) (hS:St0 w U []) (bp:Sl U 2 aq au p0.length (hH wAB p0)) (bq:FnOK Try.prog U av wOx wOy p1) {r:Int} (hm:wAS p0 p1=some r):Gv Try.prog 82 [.slice aq p0.length au,av] w (wCp w [] U (fun U_ L_ v=>v=jV r/\L_=[])):=by
 unfold wAS at hm
 refine Gv.of Try.func82 Z Try.ntmps82 Try.results82 Z (sR fL1 Z (oA Z Z (eN (zF (sR fL3 Z (oM Z Z (oR Z (ZC Z Z zp) (oM Z Z (eN (zV ?_))))))))))
 have q:=wCj hm
 obtain ⟨r3,aj⟩:=q
 have q:=wCi aj
 obtain ⟨am,bt⟩:=q
 replace am:=zG am
 refine CK.forN (fun k2 _ σ_ w_=>∃ (U_:PHeap),σ_ 8=jV (↑k2:Int)/\σ_ 0=.slice aq p0.length au/\σ_ 1=av/\σ_ 7=jV (↑p0.length:Int)/\PHeap.Le U U_/\sW w U U_ [] w_) bt ?_ ?_ ?_
 exact ⟨U,Z,Z,Z,Z,(ze _),hS⟩
 rintro k2 ⟨⟩ bQ bS W8 ak ⟨bF,ai,aR,aS,aT,ap,aV⟩ aY br
 try dsimp only at aY
 have aQ:Hid ((↑k2:Int) < (↑p0.length:Int)):=zG (wBe ak)
 replace ak:=zG ak
 have bu:Hid (w64 ((↑k2:Int) + 1)=(↑(k2 + 1):Int)):=zG (by have h1:=am.out;have h2:=aQ.out;rw [wAd] <;> omega)
 refine sR fL1 Z (oR Z (zX Z ai aT) (eN (zF (cT Z aQ (kN (zF (zV (sR fL2 Z (oM Z ai (oA Z Z (eN (sR (wGL (.fx 5 .nil .stop)) Z (oM Z aS (oM Z aR (oM Z Z (bnK aY fun az aU bv=>?_))))))))))))))))
 have bi:=bp.le ap
 have q:=bi.el (fun _=>rfl) (wBU aU)
 obtain ⟨bI,bM,bl,bm⟩:=q
 refine oR Z (ZG Z Z bl Z zp zw (wCt aU)) (oL Z (aV.ldCA (f:=0) bm Z Z Ze zw (us:=[jV az.Skier,jV az.Lane]) Z Z) (bnK bv fun bP bj bw=>?_))
 have bk:=bq.le ap
 refine OKS.callV (a:=az) Z Z Z Z Z Z (zD Z zS) aV bk Z bj ?_
 rintro ae bE bO bb bC bn ⟨rfl,rfl⟩
 have aW:sW w U ae [] bb:=bn
 refine eN (ifc bw ?_ ?_)
 intro ah bz
 refine zt (congrArg nA ah.out) (sR fL2 Z (oM Z Z (oA Z Z (eN (zQ (zd (zO ?_)))))))
 have q:=wAo bz
 obtain ⟨bD,bA,bf⟩:=q
 have q:=wBz hm aj (br bD bf)
 obtain rfl:=q
 refine zO (zd (zO ?_))
 cases bA
 exact ⟨Z,_,(zy Z),ae,_,aW,Z,Z⟩
 intro ah bB
 refine zn (congrArg nA (nB.2 ah.out)) (ZR (zf (zH (rR fL2 Z (oR Z (zu (zW Z ai Z) (congrArg (jV) bu.out)) (oM Z Z (zo ?_)))))))
 have q:=nD bB
 obtain rfl:=q
 exact zH ⟨Z,_,Z,⟨ae,Z,aR,aS,aT,(ap.trans bC),aW⟩⟩
 rintro ⟨⟩ bR bG ⟨ba,bh,bJ,bK,bg,bL,bo⟩ bs
 have aX:=wDh hm aj bs
 try dsimp only at aX
 have be:Hid (¬ ((↑(((↑p0.length:Int):Int) - 0).toNat:Int) < (↑p0.length:Int))):=zG (wBD)
 refine sR fL1 Z (oR Z (zX Z bh bg) (eN (zF (cF Z be (ZN (zg (zg (ZB (zH (sR fL1 Z (oA Z Z (eN (zQ ?_)))))))))))))
 cases aX
 exact ⟨Z,_,(zy Z),ba,_,bo,Z,Z⟩
theorem wBc (p0:List wAA) (ae:Option Addr) (ah:Nat) (p1:(wAA->Option Bool)) (ai:Value) (w:World) (U:PHeap) (hS:St0 w U []) (av:Sl U 2 ae ah p0.length (hH wAB p0)) (az:FnOK Try.prog U ai wOx wOy p1) {r:Bool} (hm:wAP p0 p1=some r):Gv Try.prog 37 [.slice ae p0.length ah,ai] w (wCp w [] U (fun U_ L_ v=>v=.bool r/\L_=[])):=by
 unfold wAP at hm
 refine Gv.of Try.func37 Z Try.ntmps37 Try.results37 Z (sR fL1 Z (oA Z Z (eN (sR gAw Z (oM Z Z (oM Z Z (bnK hm fun x1 h2 ak=>zM 0 Z Z Z Z (zK Z Z Try.call82 (zD Z (zD Z zS)) Z) hS (fun hs=>wBj p0 ae ah p1 ai w U hs av az h2) (.inr Z) ?_)))))))
 rintro U4 L5 v6 W7 aR au ⟨rfl,rfl⟩
 have aq:sW w U U4 [] W7:=au
 refine oR Z (Runs.geq Z Z Z) (oA Z Z (eN (zQ ?_)))
 first | (obtain rfl:=nD ak) | cases ak
 exact ⟨Z,_,(zy Z),U4,_,aq,Z,Z⟩
theorem wDI (p0:List wAA) (ak:Option Addr) (am:Nat) (p1:(wAA->Option Bool)) (ai:Value) (w:World) (U:PHeap) (hS:St0 w U []) (ba:Sl U 2 ak am p0.length (hH wAB p0)) (au:FnOK Try.prog U ai wOx wOy p1) {r:Bool} (hm:wAv p0 p1=some r):Gv Try.prog 111 [.slice ak p0.length am,ai] w (wCp w [] U (fun U_ L_ v=>v=.bool r/\L_=[])):=by
 unfold wAv at hm
 refine Gv.of Try.func111 Z Try.ntmps111 Try.results111 Z (sR gAh Z (ZX (cs:=[ai]) Z Z Z Z Z Z (FnOK.cells au) hS ?_))
 intro W1 b2 aX
 have q:=aX.freeze (k:=0) rfl
 obtain ⟨U5,av,ab,aY⟩:=q
 replace ab:=Cl.of ab
 have aZ:sW w U U5 [] W1:=aY
 replace ab:Cl U5 b2 0 [ai]:=ab
 refine oA Z Z (eN (sR gAw Z (oM Z Z (oR Z (Runs.mkf Z zS (zD Z zS)) ?_))))
 have aR:=ba.le av
 have aS:=au.le av
 have aU:FnOK Try.prog U5 (.func (.func 119) #[] #[.pointer (some ⟨b2,0,none⟩)]) wOx wOy (fun x=>wAe x p1):=⟨119,[],[.pointer (some ⟨b2,0,none⟩)],rfl,Try.call119,fun U1 w1 x y vs le hs ha hm=>by obtain rfl:=ha;exact wCr x p1 b2 ai w1 U1 hs (ab.le le) (aS.le le) hm⟩
 refine bnK hm fun x13 aT bb=>zM 0 Z Z Z Z (zK Z Z Try.call37 (zD Z (zD Z zS)) Z) aZ (fun hs=>wBc p0 ak am (fun x=>wAe x p1) (.func (.func 119) #[] #[.pointer (some ⟨b2,0,none⟩)]) W1 U5 hs aR aU aT) (.inr Z) ?_
 rintro ap bf bh aQ bg aV ⟨rfl,rfl⟩
 have aW:sW w U ap [] aQ:=aV
 refine oR Z (ZS Z Z) (oA Z Z (eN (zQ ?_)))
 cases bb
 exact ⟨Z,_,(zy Z),ap,_,aW,Z,Z⟩
theorem wHK (p0:wAA) (p1:wAA) (w:World) (U:PHeap) (hS:St0 w U [])  {r:Bool} (hm:wCN p0 p1=some r):Gv Try.prog 113 [.agg #[jV p0.Skier,jV p0.Lane],.agg #[jV p1.Skier,jV p1.Lane]] w (wCp w [] U (fun U_ L_ v=>v=.bool r/\L_=[])):=by
 unfold wCN at hm
 refine Gv.of Try.func113 rfl Try.ntmps113 Try.results113 rfl (sR gAq rfl (ZX (cs:=[jV p0.Skier,jV p0.Lane]) rfl rfl rfl rfl rfl rfl (by rfl) hS ?_))
 intro W1 b2 ap
 refine ZX (cs:=[jV p1.Skier,jV p1.Lane]) rfl rfl rfl rfl rfl rfl (by rfl) ap ?_
 intro W5 b6 ae
 refine oA Z Z (eN (sR fL20 Z (oR Z (zI Z Z zq Z zC) (oL Z (ae.ldB (j:=1) Z Z Z zJ (v:=jV p0.Skier) Z) (oR Z (zI Z Z zq Z zC) (oL Z (ae.ldB (j:=0) Z Z Z zJ (v:=jV p1.Skier) Z) (oR Z (zX Z Z Z) (oM Z Z ?_))))))))
 by_cases c9:p0.Skier < p1.Skier
 have aj:=hm;rw [if_pos c9] at aj;replace c9:=zG c9
 refine oT Z c9 (oT Z c9 (oT Z c9 (oT Z c9 (oT Z c9 (oT Z c9 (zk Z Z Z (wAx Z Z Z) (zk Z Z Z (wAx Z Z Z) (zk Z Z Z (wAx Z Z Z) (zk Z Z Z (wAx Z Z Z) (zk Z Z Z (wAx Z Z Z) (oT Z c9 (oR Z (zP Z (Zf c9.out) Z) (oA Z Z (eN (zQ ?_)))))))))))))))
 have hE:=nD aj;first | subst r | cases hE
 exact ⟨rfl,_,(zy rfl),U,_,(ae.pick [] _ (by decide) rfl),rfl,rfl⟩
 have ak:=hm;rw [if_neg c9] at ak;replace c9:=zG c9
 refine rU Z (wF Z c9) (zI Z Z zq Z zC) (zm Z Z Z (wF Z c9) (ae.ldB (j:=1) Z Z Z zJ (v:=jV p0.Skier) Z) Z (rU Z (wF Z c9) (zI Z Z zq Z zC) (zm Z Z Z (wF Z c9) (ae.ldB (j:=0) Z Z Z zJ (v:=jV p1.Skier) Z) Z (rU Z (wF Z c9) (Runs.eql Z Z Z) (zh Z Z Z (wF Z c9) Z Z (ifc ak ?_ ?_))))))
 intro ab am
 refine rU Z (wT Z ab) (zI Z Z zq Z zC) (zm Z Z Z (wT Z ab) (ae.ldB (j:=1) Z Z Z zJ (v:=jV p0.Lane) Z) Z (rU Z (wT Z ab) (zI Z Z zq Z zC) (zm Z Z Z (wT Z ab) (ae.ldB (j:=0) Z Z Z zJ (v:=jV p1.Lane) Z) Z (rU Z (wT Z ab) (zX Z Z Z) (rU Z (wF Z c9) (zP Z (Zf ab.out) Z) (oR Z (zj Z (zr c9.out) Z) (oA Z Z (eN (zQ ?_)))))))))
 first | (obtain rfl:=nD am) | cases am
 exact ⟨rfl,_,(zy rfl),U,_,(ae.pick [] _ (by decide) rfl),rfl,rfl⟩
 intro ab aq
 refine oF Z ab (oF Z ab (oF Z ab (oF Z ab (oF Z ab (rU Z (wF Z c9) (zj Z (zr ab.out) Z) (oR Z (zj Z (zr c9.out) Z) (oA Z Z (eN (zQ ?_)))))))))
 have hE:=nD aq;first | subst r | cases hE
 exact ⟨rfl,_,(zy rfl),U,_,(ae.pick [] _ (by decide) rfl),rfl,rfl⟩
theorem wGS (p0:wAC) (az:Option Addr) (aR:Nat) (aQ:Option Addr) (aS:Nat) (am:Option Addr) (ap:Nat) (w:World) (U:PHeap) (hS:St0 w U []) (cC:Sl U 1 az aR p0.Shots.length (hH KL.encI p0.Shots)) (cD:Sl U 1 aQ aS p0.Down.length (hH KL.encI p0.Down)) (cE:Sl U 2 am ap p0.Across.length (hH wAB p0.Across)) {r:Int} (hm:wCB p0=some r):Gv Try.prog 95 [.agg #[.slice az p0.Shots.length aR,.slice aQ p0.Down.length aS,.slice am p0.Across.length ap]] w (wCp w [] U (fun U_ L_ v=>v=jV r/\L_=[])):=by
 unfold wCB at hm
 refine Gv.of Try.func95 Z Try.ntmps95 Try.results95 Z (sR gAh Z ?_)
 let B0:List Value:=[.slice az p0.Shots.length aR,.slice aQ p0.Down.length aS,.slice am p0.Across.length ap]
 refine ZX (cs:=B0) rfl rfl rfl rfl rfl rfl (by rfl) hS ?_
 intro W1 b2 bD
 refine oA Z Z (eN (sR (wGK (.fx 3 (.fx 4 .nil .stop) .stop)) Z (oR Z (zI Z Z zE Z zY) (oL Z (bD.ldB (j:=0) Z Z Z zl (v:=.slice az p0.Shots.length aR) Z) (oR Z (ZC Z Z zA) (ZL (cs:=[jV 0]) Z Z Z Z Z Zi Z bD ?_))))))
 intro W5 b6 cA
 let B1:List Value:=[jV (↑p0.Shots.length:Int)]
 refine ZA (j:=0) (vs:=B1) Z Z Z Z cA Z Z Z Z zC (zB Z) Z Z Z ?_
 intro W9 cq
 have bB:sW w U U [.blk b6 3 B1,.blk b2 26 B0] W9:=cq
 refine eN (zF (zV (sR (.fl 0 (.fx 1 (wQF (.nil)) .stop)) Z (oL Z (bB.ldB (j:=0) Z Z Z zJ (v:=jV (↑p0.Shots.length:Int)) Z) (bnK hm fun dH bS cR=>zM 0 Z Z Z Z (zK Z Z Zl (zD Z (zD Z (zD Z zS))) Z) bB (fun hs=>wBA (↑p0.Shots.length:Int) 1 8 W9 U hs bS) (.inr Z) ?_)))))
 rintro aU dq dD bt bp cu ⟨rfl,rfl⟩
 have au:sW w U aU [.blk b6 3 B1,.blk b2 26 B0] bt:=cu
 refine oR Z (ZS Z Z) (oM Z Z (ifc cR ?_ ?_))
 intro ab cS
 refine zL Z Z Z (zR Z Z (nC ab.out)) (fun _=>zI Z Z zE Z zY) (zm Z Z Z (zR Z Z (nC ab.out)) (au.ldB (j:=1) Z Z Z zl (v:=.slice aQ p0.Down.length aS) Z) Z (zL Z Z Z (zR Z Z (nC ab.out)) (fun _=>ZC Z Z zA) (zm Z Z Z (zR Z Z (nC ab.out)) (au.ldB (j:=0) Z Z Z zJ (v:=jV (↑p0.Shots.length:Int)) Z) Z (zL Z Z Z (zR Z Z (nC ab.out)) (fun _=>ZT Z Z Z) (oR Z (zj Z (nC ab.out) Z) (oA Z Z (eN (ifc cS ?_ ?_))))))))
 intro bh cU
 refine zn (zr (fun h=>h bh.out)) (sR (.fl 0 (.fl 1 (.fx 2 (fC3_6 (.fx 7 (wQI (.nil)) .stop)) .stop))) Z (oR Z (zI Z Z zE Z zY) (oL Z (au.ldB (j:=1) Z Z Z zl (v:=.slice az p0.Shots.length aR) Z) ?_)))
 have bT:=cC.le bp
 have cj:FnOK Try.prog aU (.func (.func 109) #[] #[]) wMS wOa wBH:=⟨109,[],[],rfl,Try.call109,fun U1 w1 x y vs le hs ha hm=>by obtain rfl:=ha;exact wFK x w1 U1 hs  hm⟩
 refine bnK cU fun x28 bU cV=>zM 0 Z Z Z Z (zK Z Z Try.call79 (zD Z (zD Z zS)) Z) au (fun hs=>wDb p0.Shots az aR wBH (.func (.func 109) #[] #[]) bt aU hs bT cj bU) (.inr Z) ?_
 rintro aX dr dE bu bJ cw ⟨rfl,rfl⟩
 have bm:sW w U aX [.blk b6 3 B1,.blk b2 26 B0] bu:=cw
 refine oR Z (ZS Z Z) (oM Z Z (ifc cV ?_ ?_))
 intro ae cW
 refine zL Z Z Z (zR Z Z (nC ae.out)) (fun _=>zI Z Z zE Z zY) (zm Z Z Z (zR Z Z (nC ae.out)) (bm.ldB (j:=1) Z Z Z zl (v:=.slice aQ p0.Down.length aS) Z) Z ?_)
 have bV:=cD.le bp
 have bW:=bV.le bJ
 have cn:FnOK Try.prog aX (.func (.func 110) #[] #[]) wMS wOa wBI:=⟨110,[],[],rfl,Try.call110,fun U1 w1 x y vs le hs ha hm=>by obtain rfl:=ha;exact wFL x w1 U1 hs  hm⟩
 refine bnK cW fun x43 bX cX=>zM 0 Z Z Z (zR Z Z (nC ae.out)) (zK Z Z Try.call79 (zD Z (zD Z zS)) Z) bm (fun hs=>wDb p0.Down aQ aS wBI (.func (.func 110) #[] #[]) bu aX hs bW cn bX) (.inr Z) ?_
 rintro br dt dF bf df cx ⟨rfl,rfl⟩
 have bn:sW w U br [.blk b6 3 B1,.blk b2 26 B0] bf:=cx
 refine zL Z Z Z (zR Z Z (nC ae.out)) (fun _=>ZS Z Z) (oR Z (zj Z (nC ae.out) Z) (oA Z Z (eN (ifc cX ?_ ?_))))
 intro bi cY
 refine zn (nC bi.out) (sR (wGK (.fx 3 gAd .stop)) Z (oR Z (zI Z Z zE Z ZO) (oL Z (bn.ldB (j:=1) Z Z Z ZY (v:=.slice am p0.Across.length ap) Z) ?_)))
 have q:=bn.freeze (k:=0) rfl
 obtain ⟨aY,dg,aV,cy⟩:=q
 replace aV:=Cl.of aV
 have cz:sW w U aY [.blk b2 26 B0] bf:=cy
 replace aV:Cl aY b6 0 B1:=aV
 refine oR Z (Runs.mkf Z zS (zD Z zS)) ?_
 have bY:=cE.le bp
 have bZ:=bY.le bJ
 have b5:=bZ.le df
 have bA:=b5.le dg
 have cp:FnOK Try.prog aY (.func (.func 112) #[] #[.pointer (some ⟨b6,0,none⟩)]) wOx wOy (fun x=>wBJ x (↑p0.Shots.length:Int)):=⟨112,[],[.pointer (some ⟨b6,0,none⟩)],rfl,Try.call112,fun U1 w1 x y vs le hs ha hm=>by obtain rfl:=ha;exact wFM x (↑p0.Shots.length:Int) b6 w1 U1 hs (aV.le le) hm⟩
 refine bnK cY fun x65 b9 cZ=>zM 0 Z Z Z Z (zK Z Z Try.call111 (zD Z (zD Z zS)) Z) cz (fun hs=>wDI p0.Across am ap (fun x=>wBJ x (↑p0.Shots.length:Int)) (.func (.func 112) #[] #[.pointer (some ⟨b6,0,none⟩)]) bf aY hs bA cp b9) (.inr Z) ?_
 rintro aZ du dG bM dh cB ⟨rfl,rfl⟩
 have bE:sW w U aZ [.blk b2 26 B0] bM:=cB
 refine oR Z (ZS Z Z) (oA Z Z (eN (ifc cZ ?_ ?_)))
 intro bj da
 refine zn (nC bj.out) (ZR (zf (zH (zF (sR fL1 Z (oA Z Z (eN (zV (CK.iter (fun bq σ_ w_=>∃ (U_:PHeap),σ_ 1=.pointer (some ⟨b2,0,none⟩)/\σ_ 4=jV bq/\PHeap.Le aZ U_/\sW w U U_ [.blk b2 26 B0] w_) da ?_ ?_)))))))))
 exact ⟨aZ,Z,Z,(ze _),bE⟩
 rintro bq dI dJ bv ⟨bs,ba,bb,bK,bo⟩ bI bF
 refine zF (sR fL5 Z (oM Z bb (oR Z (zI Z ba zE Z ZO) (oL Z (bo.ldB (j:=0) Z Z Z ZY (v:=.slice am p0.Across.length ap) Z) (oR Z (ZC Z Z zp) (oR Z (zX Z Z Z) (eN ?_)))))))
 by_cases ak:bq < (↑p0.Across.length:Int)
 have bH:=bI;rw [if_pos ak] at bH;replace ak:=zG ak
 refine cT Z ak (kN (zF (zV (zF (ZJ ZK [3,1,3,3,3,1,3,1,3,3,1,2,3] (wNV (.fx 11 (.fl 12 .nil) .stop)) (by kernel_rfl) ?_)))))
 have av:=bo.drew
 generalize hw_W96:({ bv with drawn:=bv.drawn + 1 }:World)=bN at av ⊢
 refine oR Z (zI Z ba zE Z ZO) (oL Z (av.ldB (j:=0) Z Z Z ZY (v:=.slice am p0.Across.length ap) Z) (oM Z bb (oR Z (Zc Z Z Z) (bnK bH fun x97 bl db=>?_))))
 have bQ:=bA.le dh
 have bz:=bQ.le bK
 have q:=bz.el (fun _=>rfl) (wBU bl)
 obtain ⟨dy,dA,cd,cg⟩:=q
 refine oR Z (ZF Z Z cd Z zp zw (wEc bl) (wFD bl)) (oL Z (av.ldCA (f:=0) cg Z Z Ze zw (us:=[jV x97.Skier,jV x97.Lane]) Z Z) (oR Z (zI Z ba zE Z ZO) (oL Z (av.ldB (j:=0) Z Z Z ZY (v:=.slice am p0.Across.length ap) Z) (oM Z bb (bnK db fun x106 bk cG=>?_)))))
 have q:=bz.el (fun _=>rfl) (wBU bk)
 obtain ⟨dz,dB,cf,ci⟩:=q
 refine oR Z (ZF Z Z cf Z zp zw (wEc bk) (wFD bk)) (oL Z (av.ldCA (f:=0) ci Z Z Ze zw (us:=[jV x106.Skier,jV x106.Lane]) Z Z) (bnK cG fun x113 bR cH=>zM 0 Z Z Z Z (zK Z Z Try.call113 (zD Z (zD Z zS)) Z) av (fun hs=>wHK x97 x106 bN bs hs bR) (.inr Z) ?_))
 rintro be dp dC bL de ct ⟨rfl,rfl⟩
 have bC:sW w U be [.blk b2 26 B0] bL:=ct
 refine oR Z (ZS Z Z) (eN (ifc cH ?_ ?_))
 intro bg cI
 refine zn (nC bg.out) (ZR (zf (zH (rR fL3 Z (oM Z bb (oR Z (zW Z Z Z) (oA Z Z (zo ?_))))))))
 have q:=nD cI
 obtain rfl:=q
 exact zH ⟨Z,_,Z,⟨be,ba,Z,(bK.trans de),bC⟩⟩
 intro bg cJ
 refine zt (nF (bg.out)) (sR fL1 Z (oA Z Z (eN (zQ (zd (zO ?_))))))
 have q:=wAo cJ
 obtain ⟨dk,cK,bO⟩:=q
 have q:=bF dk bO
 obtain rfl:=q
 refine zO (zd (zO ?_))
 cases cK
 exact ⟨rfl,_,(zy rfl),be,_,(bC.pick [] _ (by decide) rfl),rfl,rfl⟩
 have bG:=bI;rw [if_neg ak] at bG;replace ak:=zG ak
 refine cF Z ak (ZN (zg ?_))
 have q:=wAo bG
 obtain ⟨dm,cL,bP⟩:=q
 have q:=bF dm bP
 obtain rfl:=q
 refine zg (ZB (zH (sR fL1 Z (oA Z Z (eN (zQ ?_))))))
 cases cL
 exact ⟨rfl,_,(zy rfl),bs,_,(bo.pick [] _ (by decide) rfl),rfl,rfl⟩
 intro bj cM
 refine zt (nF (bj.out)) (sR fL1 Z (oA Z Z (eN (zQ (zd (zO ?_))))))
 cases cM
 exact ⟨rfl,_,(zy rfl),aZ,_,(bE.pick [] _ (by decide) rfl),rfl,rfl⟩
 intro bi cN
 refine zt (nF (bi.out)) (sR fL1 Z (oA Z Z (eN (zQ (zd (zO ?_))))))
 cases cN
 exact ⟨rfl,_,(zy rfl),br,_,(bn.pick [] _ (by decide) rfl),rfl,rfl⟩
 intro ae cO
 refine zk Z Z Z (zU Z Z (nF (ae.out)) Z) (zk Z Z Z (zU Z Z (nF (ae.out)) Z) (Zb Z Z Z (zU Z Z (nF (ae.out)) Z) (zk Z Z Z (zU Z Z (nF (ae.out)) Z) (oR Z (zP Z (nF (ae.out)) Z) (oA Z Z (eN (zt Z (sR fL1 Z (oA Z Z (eN (zQ (zd (zO ?_)))))))))))))
 cases cO
 exact ⟨rfl,_,(zy rfl),aX,_,(bm.pick [] _ (by decide) rfl),rfl,rfl⟩
 intro bh cP
 refine cT Z bh (sR fL1 Z (oA Z Z (eN (zQ (zd (zO ?_))))))
 cases cP
 exact ⟨rfl,_,(zy rfl),aU,_,(au.pick [] _ (by decide) rfl),rfl,rfl⟩
 intro ab cQ
 refine zk Z Z Z (zU Z Z (nF (ab.out)) Z) (zk Z Z Z (zU Z Z (nF (ab.out)) Z) (zk Z Z Z (zU Z Z (nF (ab.out)) Z) (zk Z Z Z (zU Z Z (nF (ab.out)) Z) (zk Z Z Z (zU Z Z (nF (ab.out)) Z) (oR Z (zP Z (nF (ab.out)) Z) (oA Z Z (eN (zt Z (sR fL1 Z (oA Z Z (eN (zQ (zd (zO ?_))))))))))))))
 cases cQ
 exact ⟨rfl,_,(zy rfl),aU,_,(au.pick [] _ (by decide) rfl),rfl,rfl⟩
end Go.Proofs.Ytfcmijinklojbaa
namespace Go.Proofs.Ytfcmijinklojbaa
open Go.KL
set_option maxHeartbeats 4000000
theorem wCn (p0:wAC) (aq:Option Addr) (au:Nat) (az:Option Addr) (aQ:Nat) (ak:Option Addr) (am:Nat) (w:World) (U:PHeap) (hS:St0 w U []) (cJ:Sl U 1 aq au p0.Shots.length (hH KL.encI p0.Shots)) (cK:Sl U 1 az aQ p0.Down.length (hH KL.encI p0.Down)) (bG:Sl U 2 ak am p0.Across.length (hH wAB p0.Across)) {r:wAE} (hm:wAt p0=some r):Gv Try.prog 45 [.agg #[.slice aq p0.Shots.length au,.slice az p0.Down.length aQ,.slice ak p0.Across.length am]] w (wCp w [] U (fun U_ L_ v=>∃ (b0:Nat) (A0p00:Option Addr) (c0p00:Nat) (A0p01:Option Addr) (c0p01:Nat) (A0p02:Option Addr) (c0p02:Nat) (m0p1:Nat) (es0p1:Array MapEntry) (ck0p1:Nat),v=.pointer (some ⟨b0,0,none⟩)/\L_=[.blk b0 99 ([.slice A0p00 r.Bout.Shots.length c0p00,.slice A0p01 r.Bout.Down.length c0p01,.slice A0p02 r.Bout.Across.length c0p02,.map (some m0p1)] ++ ((hH KL.encI r.hits.l) ++ ((hH KL.encI r.used.l) ++ (hH KL.encT r.met.l)))),.obj m0p1 (.map es0p1 ck0p1)]/\Sl U_ 1 A0p00 c0p00 r.Bout.Shots.length (hH KL.encI r.Bout.Shots)/\Sl U_ 1 A0p01 c0p01 r.Bout.Down.length (hH KL.encI r.Bout.Down)/\Sl U_ 2 A0p02 c0p02 r.Bout.Across.length (hH wAB r.Bout.Across)/\MpR es0p1 wGM wGk r.may)):=by
 unfold wAt at hm
 refine Gv.of Try.func45 Z Try.ntmps45 Try.results45 Z (sR gAh Z ?_)
 let B0:List Value:=[.slice aq p0.Shots.length au,.slice az p0.Down.length aQ,.slice ak p0.Across.length am]
 refine ZX (cs:=B0) rfl rfl rfl rfl rfl rfl (by rfl) hS ?_
 intro W1 b2 bD
 refine oA Z Z (eN (sR (.fl 0 (.fx 1 (.fl 2 gAl) .stop)) Z (oL Z (bD.ldBA (j:=0) Z Z Z ZU zZ (vs:=B0) Z Z) (OKS.makeMap Z Z Z Z Z bD ?_))))
 intro W5 b6 cI
 have cX:=MpR.nil wGM wGk
 let B1:List Value:=[.slice aq p0.Shots.length au,.slice az p0.Down.length aQ,.slice ak p0.Across.length am,.map (some b6),jV 0,jV 0,jV 0,jV 0,jV 0,jV 0,jV 0,jV 0,jV 0,jV 0,jV 0,jV 0,jV 0,jV 0,jV 0,jV 0,jV 0,jV 0,jV 0,jV 0,jV 0,jV 0,jV 0,jV 0,jV 0,jV 0,jV 0,jV 0,jV 0,jV 0,jV 0,jV 0,jV 0,jV 0,jV 0,jV 0,jV 0,jV 0,jV 0,jV 0,jV 0,jV 0,jV 0,jV 0,jV 0,jV 0,jV 0,jV 0,jV 0,jV 0,jV 0,jV 0,jV 0,jV 0,jV 0,jV 0,jV 0,jV 0,jV 0,jV 0,jV 0,jV 0,jV 0,jV 0,jV 0,jV 0,jV 0,jV 0,jV 0,jV 0,jV 0,jV 0,.bool false,.bool false,.bool false,.bool false,.bool false,.bool false,.bool false,.bool false,.bool false,.bool false,.bool false,.bool false,.bool false,.bool false,.bool false,.bool false]
 refine zL rfl rfl rfl rfl (fun _=>ZH (pv:=[(0,.agg B0.toArray),(1,.map (some b6))]) (z:=[.slice none 0 0,.slice none 0 0,.slice none 0 0,.map none,jV 0,jV 0,jV 0,jV 0,jV 0,jV 0,jV 0,jV 0,jV 0,jV 0,jV 0,jV 0,jV 0,jV 0,jV 0,jV 0,jV 0,jV 0,jV 0,jV 0,jV 0,jV 0,jV 0,jV 0,jV 0,jV 0,jV 0,jV 0,jV 0,jV 0,jV 0,jV 0,jV 0,jV 0,jV 0,jV 0,jV 0,jV 0,jV 0,jV 0,jV 0,jV 0,jV 0,jV 0,jV 0,jV 0,jV 0,jV 0,jV 0,jV 0,jV 0,jV 0,jV 0,jV 0,jV 0,jV 0,jV 0,jV 0,jV 0,jV 0,jV 0,jV 0,jV 0,jV 0,jV 0,jV 0,jV 0,jV 0,jV 0,jV 0,jV 0,jV 0,.bool false,.bool false,.bool false,.bool false,.bool false,.bool false,.bool false,.bool false,.bool false,.bool false,.bool false,.bool false,.bool false,.bool false,.bool false,.bool false]) (cs:=B1) rfl (wAJ rfl (wAJ rfl wAl)) Try.zeroValue99 wMn rfl rfl) (ZX (cs:=B1) rfl rfl rfl rfl rfl rfl (by rfl) cI ?_)
 intro de ai bC
 refine oA Z Z (eN (zF (sR fL4 Z (oR Z (zI Z Z zE Z zY) (oL Z (bC.ldB (j:=2) Z Z Z zl (v:=.slice aq p0.Shots.length au) Z) (oR Z (ZC Z Z zA) (oM Z Z (eN (zV (bnK hm fun dy cL cS=>?_))))))))))
 have q:=wBf cL
 obtain ⟨bf,cM⟩:=q
 replace bf:=zG bf
 refine CK.forN' (fun ab bH σ_ w_=>∃ (U_:PHeap) (aY:Array MapEntry) (bp:Nat),σ_ 14=jV (↑ab:Int)/\σ_ 1=.pointer (some ⟨b2,0,none⟩)/\σ_ 3=.pointer (some ⟨ai,0,none⟩)/\σ_ 13=jV (↑p0.Shots.length:Int)/\PHeap.Le U U_/\sW w U U_ [.blk ai 99 B1,.obj b6 (.map aY bp),.blk b2 26 B0] w_/\MpR aY wGM wGk bH) cM ?_ ?_ ?_
 exact ⟨U,#[],0,Z,Z,Z,Z,(ze _),bC,cX⟩
 rintro ab bH dw dB dk be ⟨bi,aY,bp,ba,bV,bw,bz,da,bE,cu⟩ cY
 have bn:Hid ((↑ab:Int) < (↑p0.Shots.length:Int)):=zG (wBe be)
 replace be:=zG be
 have cQ:Hid (w64 ((↑ab:Int) + 1)=(↑(ab + 1):Int)):=zG (by have h1:=bf.out;have h2:=bn.out;rw [wAd] <;> omega)
 refine sR fL1 rfl (zL rfl rfl rfl rfl (fun _=>zX rfl ba bz) (eN (zF (cT Z bn (kN (zF (zV (sR fL2 rfl (zh rfl rfl rfl rfl rfl ba (OKS.ra rfl rfl rfl rfl rfl rfl (eN (rR (wHU (.fx 7 .nil .stop)) rfl (zh rfl rfl rfl rfl rfl bw (zL rfl rfl rfl rfl (fun _=>zi rfl rfl) (zL rfl rfl rfl rfl (fun _=>zI rfl rfl zN rfl Try.sizeOf92) (zm rfl rfl rfl rfl (bE.ldB (j:=0) rfl rfl rfl Try.isAgg92 (v:=.map (some b6)) rfl) rfl (zh rfl rfl rfl rfl rfl rfl (zh rfl rfl rfl rfl rfl rfl (zL rfl rfl rfl rfl (fun _=>ZH (pv:=[(0,jV (↑ab:Int)),(1,jV (↑ab:Int))]) (z:=[jV 0,jV 0]) (cs:=[jV (↑ab:Int),jV (↑ab:Int)]) rfl (wAJ rfl (wAJ rfl wAl)) ZM wCd rfl rfl) (OKS.mapPut (x:=.tmp 20) (y:=.tmp 23) (j:=1) (mk:=wGM) (mv:=wGk) (a:=(⟨(↑ab:Int),(↑ab:Int)⟩:wAA)) (v:=true) rfl rfl rfl (by first | exact .inl rfl | exact .inr rfl) bE rfl rfl rfl rfl (wBv Try.runUnderlying92) wJP cu rfl ?_))))))))))))))))))))
 intro bs bq bM cW cG
 have cH:sW w U bi [.blk ai 99 B1,.obj b6 (.map bs bq),.blk b2 26 B0] bM:=cG
 refine zo (zf (zH (rR fL2 Z (oR Z (zu (zW Z ba Z) (congrArg (jV) cQ.out)) (oM Z Z (zo ?_))))))
 cases cY
 exact zH ⟨Z,⟨bi,bs,bq,Z,bV,bw,bz,da,cH,cW⟩⟩
 rintro dC dp ⟨bj,bS,bP,b5,bW,bX,bY,aU,bF,cw⟩
 have bQ:Hid (¬ ((↑(((↑p0.Shots.length:Int):Int) - 0).toNat:Int) < (↑p0.Shots.length:Int))):=zG (wBD)
 refine sR fL1 Z (oR Z (zX Z b5 bY) (eN (zF (cF Z bQ (ZN (zg (zg (ZB (zH (zF (sR fL4 Z (oR Z (zI Z bW zE Z ZO) (oL Z (bF.ldB (j:=2) Z Z Z ZY (v:=.slice ak p0.Across.length am) Z) (oR Z (ZC Z Z zp) (oM Z Z (eN (zV (bnK cS fun dz cN cU=>?_))))))))))))))))))
 have q:=wBf cN
 obtain ⟨bg,cO⟩:=q
 replace bg:=zG bg
 refine CK.forN' (fun av bI σ_ w_=>∃ (U_:PHeap) (aS:Array MapEntry) (aX:Nat),σ_ 28=jV (↑av:Int)/\σ_ 3=.pointer (some ⟨ai,0,none⟩)/\σ_ 26=.slice ak p0.Across.length am/\σ_ 27=jV (↑p0.Across.length:Int)/\PHeap.Le bj U_/\sW w U U_ [.blk ai 99 B1,.obj b6 (.map aS aX),.blk b2 26 B0] w_/\MpR aS wGM wGk bI) cO ?_ ?_ ?_
 exact ⟨bj,bS,bP,Z,bX,Z,Z,(ze _),bF,cw⟩
 rintro av bI dx dD dq bb ⟨aV,aS,aX,aZ,bt,bu,bv,bJ,bB,b9⟩ cZ
 have bm:Hid ((↑av:Int) < (↑p0.Across.length:Int)):=zG (wBe bb)
 replace bb:=zG bb
 have cP:Hid (w64 ((↑av:Int) + 1)=(↑(av + 1):Int)):=zG (by have h1:=bg.out;have h2:=bm.out;rw [wAd] <;> omega)
 refine sR fL1 Z (oR Z (zX Z aZ bv) (eN (zF (cT Z bm (kN (zF (zV (sR gAv Z (bnK cZ fun x112 bA cR=>?_)))))))))
 have cd:=bG.le aU
 have cf:=cd.le bJ
 have q:=cf.el (fun _=>rfl) (wBU bA)
 obtain ⟨dr,du,cx,cy⟩:=q
 refine oR Z (ZG Z bu cx aZ zp zw (wCt bA)) (oL Z (bB.ldCA (f:=0) cy Z Z Ze zw (us:=[jV x112.Skier,jV x112.Lane]) Z Z) (ZL (cs:=[jV 0,jV 0]) Z Z Z Z Z ZM Z bB ?_))
 intro df bl cz
 let B2:List Value:=[jV x112.Skier,jV x112.Lane]
 refine ZA (j:=0) (vs:=B2) Z Z Z Z cz Z Z Z Z zw (zB Z) Z Z Z ?_
 intro aW cA
 have cB:sW w U aV [.blk bl 35 B2,.blk ai 99 B1,.obj b6 (.map aS aX),.blk b2 26 B0] aW:=cA
 refine eN (ZJ ZK [3,3,3,1,1,0] (wGL (.fx 5 .nil .stop)) (by kernel_rfl) ?_)
 have aT:=cB.drew
 generalize hw_W129:({ aW with drawn:=aW.drawn + 1 }:World)=dg at aT ⊢
 refine zh rfl rfl rfl rfl rfl bt (zL rfl rfl rfl rfl (fun _=>zi rfl rfl) (zL rfl rfl rfl rfl (fun _=>zI rfl rfl zN rfl Try.sizeOf92) (zm rfl rfl rfl rfl (aT.ldB (j:=1) rfl rfl rfl Try.isAgg92 (v:=.map (some b6)) rfl) rfl (zm rfl rfl rfl rfl (aT.ldBA (j:=0) rfl rfl rfl Ze zw (vs:=B2) rfl rfl) rfl (OKS.mapPut (x:=.tmp 35) (y:=.tmp 36) (j:=2) (mk:=wGM) (mv:=wGk) (a:=x112) (v:=true) rfl rfl rfl (by first | exact .inl rfl | exact .inr rfl) aT rfl rfl rfl rfl (wBv Try.runUnderlying92) wJP b9 rfl ?_)))))
 intro br bo bL cV cC
 have cD:sW w U aV [.blk bl 35 B2,.blk ai 99 B1,.obj b6 (.map br bo),.blk b2 26 B0] bL:=cC
 refine zo (zf (zH (rR fL2 Z (oR Z (zu (zW Z aZ Z) (congrArg (jV) cP.out)) (oM Z Z (zo ?_))))))
 cases cR
 exact zH ⟨rfl,⟨aV,br,bo,rfl,bt,bu,bv,bJ,(cD.pick [1,2,3] _ (by decide) rfl),cV⟩⟩
 rintro dA dh ⟨bK,bR,bN,bZ,bT,dt,bU,bh,cE,cg⟩
 have bO:Hid (¬ ((↑(((↑p0.Across.length:Int):Int) - 0).toNat:Int) < (↑p0.Across.length:Int))):=zG (wBD)
 refine sR fL1 Z (oR Z (zX Z bZ bU) (eN (zF (cF Z bO (ZN (zg (zg (ZB (zH (sR fL2 Z (oM Z bT (oA Z Z (eN (zQ ?_))))))))))))))
 have ci:=cJ.le aU
 have cj:=ci.le bh
 have cn:=cK.le aU
 have cp:=cn.le bh
 have cq:=bG.le aU
 have ct:=cq.le bh
 cases cU
 exact ⟨rfl,_,(zy rfl),bK,_,(cE.pick [0,1] _ (by decide) rfl),ai,aq,au,az,aQ,ak,am,b6,bR,bN,rfl,rfl,cj,cp,ct,cg⟩
theorem wED (p0:wAC) (ah:Option Addr) (ak:Nat) (ai:Option Addr) (am:Nat) (aj:Option Addr) (ap:Nat) (w:World) (U:PHeap) (hS:St0 w U []) (bh:Sl U 1 ah ak p0.Shots.length (hH KL.encI p0.Shots)) (bi:Sl U 1 ai am p0.Down.length (hH KL.encI p0.Down)) (bj:Sl U 2 aj ap p0.Across.length (hH wAB p0.Across)) {r:(Option wAE) × Int} (hm:wBk p0=some r):Gv Try.prog 69 [.agg #[.slice ah p0.Shots.length ak,.slice ai p0.Down.length am,.slice aj p0.Across.length ap]] w (wCp w [] U (fun U_ L_ v=>match r.1 with | none=>v=.tuple #[.pointer none,jV r.2]/\L_=[] | some d=>∃ (b0:Nat) (A0p00:Option Addr) (c0p00:Nat) (A0p01:Option Addr) (c0p01:Nat) (A0p02:Option Addr) (c0p02:Nat) (m0p1:Nat) (es0p1:Array MapEntry) (ck0p1:Nat),v=.tuple #[.pointer (some ⟨b0,0,none⟩),jV r.2]/\L_=[.blk b0 99 ([.slice A0p00 d.Bout.Shots.length c0p00,.slice A0p01 d.Bout.Down.length c0p01,.slice A0p02 d.Bout.Across.length c0p02,.map (some m0p1)] ++ ((hH KL.encI d.hits.l) ++ ((hH KL.encI d.used.l) ++ (hH KL.encT d.met.l)))),.obj m0p1 (.map es0p1 ck0p1)]/\Sl U_ 1 A0p00 c0p00 d.Bout.Shots.length (hH KL.encI d.Bout.Shots)/\Sl U_ 1 A0p01 c0p01 d.Bout.Down.length (hH KL.encI d.Bout.Down)/\Sl U_ 2 A0p02 c0p02 d.Bout.Across.length (hH wAB d.Bout.Across)/\MpR es0p1 wGM wGk d.may)):=by
 unfold wBk at hm
 refine Gv.of Try.func69 Z Try.ntmps69 Try.results69 Z (sR gAr Z ?_)
 let B0:List Value:=[.slice ah p0.Shots.length ak,.slice ai p0.Down.length am,.slice aj p0.Across.length ap]
 refine ZX (cs:=B0) rfl rfl rfl rfl rfl rfl (by rfl) hS ?_
 intro W1 b2 bg
 refine oA Z Z (oA Z Z (eN (zF (sR gAo Z (oL Z (bg.ldBA (j:=0) Z Z Z ZU zZ (vs:=B0) Z Z) (bnK hm fun x5 h6 bD=>zM 0 Z Z Z Z (zK Z Z Try.call95 (zD Z zS) Z) bg (fun hs=>wGS p0 ah ak ai am aj ap W1 U hs bh bi bj h6) (.inr Z) ?_))))))
 rintro U8 L9 bH aV az bv ⟨rfl,rfl⟩
 have av:sW w U U8 [.blk b2 26 B0] aV:=bv
 refine oA Z Z (eN (sR fL2 Z (oM Z Z (oR Z (ZT Z Z Z) (eN (ifc bD ?_ ?_))))))
 intro au bA
 refine zn (zr (fun h=>h au.out)) (kN (sR (.fl 0 (.fx 1 gAb .stop)) Z (oL Z (av.ldBA (j:=0) Z Z Z ZU zZ (vs:=B0) Z Z) ?_)))
 have bm:=bh.le az
 have bn:=bi.le az
 have bo:=bj.le az
 refine bnK bA fun ab bp bB=>zM 0 Z Z Z Z (zK Z Z Try.call45 (zD Z zS) Z) av (fun hs=>wCn p0 ah ak ai am aj ap aV U8 hs bm bn bo bp) (.inr Z) ?_
 rintro aU bE bI bl bG bw ⟨aY,aR,aZ,aS,ba,aT,bb,aQ,bf,be,rfl,rfl,bq,br,bs,bt⟩
 have bz:sW w U aU [.blk aY 99 ([.slice aR ab.Bout.Shots.length aZ,.slice aS ab.Bout.Down.length ba,.slice aT ab.Bout.Across.length bb,.map (some aQ)] ++ ((hH KL.encI ab.hits.l) ++ ((hH KL.encI ab.used.l) ++ (hH KL.encT ab.met.l)))),.obj aQ (.map bf be),.blk b2 26 B0] bl:=bw
 refine oA Z Z (oA Z Z (eN (zQ ?_)))
 cases bB
 exact ⟨rfl,_,(wGU rfl rfl),aU,_,(bz.pick [0,1] _ (by decide) rfl),aY,aR,aZ,aS,ba,aT,bb,aQ,bf,be,rfl,rfl,bq,br,bs,bt⟩
 intro au bC
 refine cT Z au (sR fL3 Z (oM Z Z (oA Z Z (oA Z Z (eN (zQ (zO ?_)))))))
 cases bC
 exact ⟨rfl,_,(wGU rfl rfl),U8,_,(av.pick [] _ (by decide) rfl),rfl,rfl⟩
theorem wCU (p0:wAE) (am:Nat) (ai:Option Addr) (ap:Nat) (aj:Option Addr) (aq:Nat) (ak:Option Addr) (au:Nat) (ab:Nat) (av:Array MapEntry) (az:Nat) (p1:Int) (p2:Int) (w:World) (U:PHeap) (hS:St0 w U [.blk am 99 ([.slice ai p0.Bout.Shots.length ap,.slice aj p0.Bout.Down.length aq,.slice ak p0.Bout.Across.length au,.map (some ab)] ++ ((hH KL.encI p0.hits.l) ++ ((hH KL.encI p0.used.l) ++ (hH KL.encT p0.met.l)))),.obj ab (.map av az)]) (aR:Sl U 1 ai ap p0.Bout.Shots.length (hH KL.encI p0.Bout.Shots)) (aS:Sl U 1 aj aq p0.Bout.Down.length (hH KL.encI p0.Bout.Down)) (aT:Sl U 2 ak au p0.Bout.Across.length (hH wAB p0.Bout.Across)) (aQ:MpR av wGM wGk p0.may) {r:Bool} (hm:wAk p0 p1 p2=some r):Gv Try.prog 78 [.pointer (some ⟨am,0,none⟩),jV p1,jV p2] w (wCp w [.blk am 99 ([.slice ai p0.Bout.Shots.length ap,.slice aj p0.Bout.Down.length aq,.slice ak p0.Bout.Across.length au,.map (some ab)] ++ ((hH KL.encI p0.hits.l) ++ ((hH KL.encI p0.used.l) ++ (hH KL.encT p0.met.l)))),.obj ab (.map av az)] U (fun U_ L_ v=>v=.bool r/\L_=[.blk am 99 ([.slice ai p0.Bout.Shots.length ap,.slice aj p0.Bout.Down.length aq,.slice ak p0.Bout.Across.length au,.map (some ab)] ++ ((hH KL.encI p0.hits.l) ++ ((hH KL.encI p0.used.l) ++ (hH KL.encT p0.met.l)))),.obj ab (.map av az)])):=by
 unfold wAk at hm
 refine Gv.of Try.func78 Z Try.ntmps78 Try.results78 Z (sR fL1 Z (oA Z Z (eN (sR fL9 Z (oM Z Z (oR Z (zi Z Z) (oR Z (zI Z Z zN Z Try.sizeOf92) (oL Z (hS.ldB (j:=0) Z Z Z Try.isAgg92 (v:=.map (some ab)) Z) (oM Z Z (oM Z Z (oR Z (ZH (pv:=[(0,jV p1),(1,jV p2)]) (z:=[jV 0,jV 0]) (cs:=[jV p1,jV p2]) Z (wAJ Z (wAJ Z wAl)) ZM wCd Z Z) (oL Z (hS.lookup1 (j:=1) (mk:=wGM) (mv:=wGk) (a:=(⟨p1,p2⟩:wAA)) (z:=false) Z Z Z Z (wBv Try.runUnderlying92) wJP Try.zeroValue4 aQ) (oA Z Z (eN (zQ ?_)))))))))))))))
 cases hm
 exact ⟨Z,_,(zy Z),U,_,hS,Z,Z⟩
theorem wCY {S E:Type} (PY:S->PHeap->List Res->Prop) (PE:E->PHeap->List Res->Prop) (f:S->Int->Option (S ⊕ E)) (y:Nat) (s0:S) (p1:wAE) (bs:Nat) (ai:Nat) (be:Option Addr) (bi:Nat) (av:Option Addr) (az:Nat) (bf:Option Addr) (bj:Nat) (bl:Nat) (bk:Array MapEntry) (bt:Nat) (p2:Unit) (bg:Nat) (p3:Int) (bh:Nat) (w:World) (L:List Res) (U:PHeap) (hS:St ⟨w,L,U⟩ U L w) (hP:PY s0 U L) (hY:YOK Try.prog y wMS PY PE f U) (hV:∀ s_ U_ L_,PY s_ U_ L_->∃ (i_ j_:Nat) (a0_:Arr Int 64) (a1_:Arr Int 8) (a2_:Arr Bool 16),L_[i_]?=some (.blk ai 99 ([.slice be p1.Bout.Shots.length bi,.slice av p1.Bout.Down.length az,.slice bf p1.Bout.Across.length bj,.map (some bl)] ++ ((hH KL.encI a0_.l) ++ ((hH KL.encI a1_.l) ++ (hH KL.encT a2_.l)))))/\L_[j_]?=some (.obj bl (.map bk bt))) (bU:Cl U bs 0 [.pointer (some ⟨ai,0,none⟩)]) (bV:Sl U 1 be bi p1.Bout.Shots.length (hH KL.encI p1.Bout.Shots)) (bW:Sl U 1 av az p1.Bout.Down.length (hH KL.encI p1.Bout.Down)) (bX:Sl U 2 bf bj p1.Bout.Across.length (hH wAB p1.Bout.Across)) (bY:MpR bk wGM wGk p1.may) (bZ:Cl U bg 0 [.func (.func 78) #[.pointer (some ⟨ai,0,none⟩)] #[]]) (b5:Cl U bh 0 [jV p3]) {r:S ⊕ E} (hm:wAV f s0 p1 p2 p3=some r):Gv Try.prog 83 [.func (.yield y) #[] #[],.pointer (some ⟨bs,0,none⟩),.pointer (some ⟨bg,0,none⟩),.pointer (some ⟨bh,0,none⟩)] w (ItS w L U PY PE r):=by
 unfold wAV at hm
 refine Gv.of Try.func83 Z Try.ntmps83 Try.results83 Z (sR fL7 Z (oL Z (hS.ldC (f:=0) bU (v:=.pointer (some ⟨ai,0,none⟩)) Z Z zz Z) (oR Z (zi Z Z) (oR Z (zI Z Z zN Z zZ) (oR Z (zI Z Z zE Z zY) ?_)))))
 have q:=hV _ _ _ hP
 obtain ⟨i2,j3,a6,a7,a8,cg,cO⟩:=q
 refine oL Z (hS.ldB (j:=i2) cg Z Z zl (v:=.slice av p1.Bout.Down.length az) Z) (oR Z (ZC Z Z zA) (oM Z Z (eN (zV ?_))))
 have q:=wCj hm
 obtain ⟨cR,aY⟩:=q
 have q:=wCi aY
 obtain ⟨bb,cf⟩:=q
 replace bb:=zG bb
 refine CK.forN (fun ah bv σ_ w_=>∃ (U_:PHeap) (aj:List Res),σ_ 12=jV (↑ah:Int)/\σ_ 0=.func (.yield y) #[] #[]/\σ_ 2=.pointer (some ⟨bg,0,none⟩)/\σ_ 3=.pointer (some ⟨bh,0,none⟩)/\σ_ 11=jV (↑p1.Bout.Down.length:Int)/\PHeap.Le U U_/\St ⟨w,L,U⟩ U_ aj w_/\PY bv U_ aj) cf ?_ ?_ ?_
 exact ⟨U,L,Z,Z,Z,Z,Z,(ze _),hS,hP⟩
 rintro ah bv cS cV bz ba ⟨aR,aj,am,aS,aT,aU,aV,ae,aX,aW⟩ cw b9
 have bn:Hid ((↑ah:Int) < (↑p1.Bout.Down.length:Int)):=zG (wBe ba)
 replace ba:=zG ba
 have bq:Hid (w64 ((↑ah:Int) + 1)=(↑(ah + 1):Int)):=zG (by have h1:=bb.out;have h2:=bn.out;rw [wAd] <;> omega)
 refine sR fL1 Z (oR Z (zX Z am aV) (eN (zF (cT Z bn (kN (zF (zV (sR fL2 Z (oM Z am (oA Z Z (eN (sR (wGK (.fx 3 (wQG (.fx 7 gAg .stop)) .stop)) Z ?_))))))))))))
 have bJ:=bZ.le ae
 refine oL Z (aX.ldC (f:=0) bJ (v:=.func (.func 78) #[.pointer (some ⟨ai,0,none⟩)] #[]) Z aT Try.isAgg131 Z) ?_
 have bK:=b5.le ae
 refine oL Z (aX.ldC (f:=0) bK (v:=jV p3) Z aU zJ Z) (oM Z Z ?_)
 have q:=hV _ _ _ aW
 obtain ⟨cx,cy,bB,bC,bD,aZ,br⟩:=q
 have bL:=bV.le ae
 have bM:=bW.le ae
 have bN:=bX.le ae
 refine bnK cw fun x55 bO cj=>OKS.callP (i1:=cx) (i2:=cy) (v0:=.bool x55) rfl rfl rfl rfl (zK rfl rfl Try.call78 (zD rfl (zD rfl zS)) rfl) aX aZ br (fun e=>by rw [e,br] at aZ;cases aZ) (fun hs=>wCU (⟨p1.Bout,p1.may,bB,bC,bD⟩:wAE) ai be bi av az bf bj bl bk bt p3 (↑ah:Int) bz aR hs bL bM bN bY bO) rfl ?_
 intro bA bQ
 have bo:St ⟨w,L,U⟩ aR aj bA:=bQ
 refine oM Z Z (ifc cj ?_ ?_)
 intro ab cn
 refine zh Z Z Z (zR Z Z (congrArg nA ab.out)) Z aS (zh Z Z Z (zR Z Z (congrArg nA ab.out)) Z Z (bnK cn fun cD bP aq=>OKS.yieldT 0 (a:=(↑ah:Int)) Z Z Z (zR Z Z (congrArg nA ab.out)) Z Z (zD Z zS) bo hY ae aW Z bP Z ?_))
 rintro ak aQ cK bm cz bp ap
 rcases cD with cB | cB
 try dsimp only at aq ap
 obtain ⟨rfl,ct⟩:=ap
 have bR:St ⟨w,L,U⟩ ak aQ bm:=bp
 refine zL Z Z Z (zR Z Z (congrArg nA ab.out)) (fun _=>ZS Z Z) (oR Z (zP Z (congrArg nA ab.out) Z) (eN (zn Z (ZR (zf (zH (rR fL2 Z (oR Z (zu (zW Z am Z) (congrArg (jV) bq.out)) (oM Z Z (zo ?_))))))))))
 have q:=nD aq
 obtain rfl:=q
 exact zH ⟨Z,_,Z,⟨ak,aQ,Z,aS,aT,aU,aV,(ae.trans cz),bR,ct⟩⟩
 try dsimp only at aq ap
 obtain ⟨rfl,cu⟩:=ap
 have bS:St ⟨w,L,U⟩ ak aQ bm:=bp
 refine zL Z Z Z (zR Z Z (congrArg nA ab.out)) (fun _=>ZS Z Z) (oR Z (zP Z (congrArg nA ab.out) Z) (eN (zt Z (zQ (zd (zO ?_))))))
 have q:=wAo aq
 obtain ⟨cC,cp,bF⟩:=q
 have q:=wBz hm aY (b9 cC bF)
 obtain rfl:=q
 refine zO (zd ?_)
 cases cp
 exact ⟨Z,_,(res0),ak,_,bS,cu⟩
 intro ab cq
 refine zk Z Z Z (zU Z Z (congrArg nA (nB.2 ab.out)) Z) (zk Z Z Z (zU Z Z (congrArg nA (nB.2 ab.out)) Z) (Zb Z Z Z (zU Z Z (congrArg nA (nB.2 ab.out)) Z) (zk Z Z Z (zU Z Z (congrArg nA (nB.2 ab.out)) Z) (oR Z (zj Z (congrArg nA (nB.2 ab.out)) Z) (eN (zn Z (ZR (zf (zH (rR fL2 Z (oR Z (zu (zW Z am Z) (congrArg (jV) bq.out)) (oM Z Z (zo ?_)))))))))))))
 have q:=nD cq
 obtain rfl:=q
 exact zH ⟨Z,_,Z,⟨aR,aj,Z,aS,aT,aU,aV,ae,bo,aW⟩⟩
 rintro cU cW cG ⟨bw,cE,bH,cL,cM,cN,bG,cQ,bT,bI⟩ cd
 have ci:=wDh hm aY cd
 have bE:Hid (¬ ((↑(((↑p1.Bout.Down.length:Int):Int) - 0).toNat:Int) < (↑p1.Bout.Down.length:Int))):=zG (wBD)
 refine sR fL1 Z (oR Z (zX Z bH bG) (eN (zF (cF Z bE (ZN (zg (zg (ZB ?_))))))))
 cases ci
 exact ⟨Z,_,(res0),bw,_,bT,bI⟩
theorem wCo (p0:Unit) (aj:Nat) (p1:Int) (w:World) (U:PHeap) (hS:St0 w U [])  {r:Unit} (hm:wAh p0 p1=some r):Gv Try.prog 43 [.pointer (some ⟨aj,0,none⟩),jV p1] w (wCp w [] U (fun U_ L_ v=>∃ (b0:Nat) (b1:Nat) (b2:Nat),v=.func (.func 83) #[] #[.pointer (some ⟨b0,0,none⟩),.pointer (some ⟨b1,0,none⟩),.pointer (some ⟨b2,0,none⟩)]/\L_=[]/\Cl U_ b0 0 [.pointer (some ⟨aj,0,none⟩)]/\Cl U_ b1 0 [.func (.func 78) #[.pointer (some ⟨aj,0,none⟩)] #[]]/\Cl U_ b2 0 [jV p1])):=by
 unfold wAh at hm
 refine Gv.of Try.func43 Z Try.ntmps43 Try.results43 Z (sR gAq Z ?_)
 let B0:List Value:=[.pointer (some ⟨aj,0,none⟩)]
 refine ZX (cs:=B0) rfl rfl rfl rfl rfl rfl (by rfl) hS ?_
 intro W1 b2 bh
 have q:=bh.freeze (k:=0) rfl
 obtain ⟨U5,bp,ah,bk⟩:=q
 replace ah:=Cl.of ah
 have bl:sW w U U5 [] W1:=bk
 replace ah:Cl U5 b2 0 B0:=ah
 refine ZX (cs:=[jV p1]) rfl rfl rfl rfl rfl rfl (by rfl) bl ?_
 intro aX aS ba
 have q:=ba.freeze (k:=0) rfl
 obtain ⟨ap,bm,ab,bb⟩:=q
 replace ab:=Cl.of ab
 have aU:sW w U ap [] aX:=bb
 replace ab:Cl ap aS 0 [jV p1]:=ab
 refine oA Z Z (eN (sR gAv Z ?_))
 have aT:=ah.le bm
 refine oL Z (aU.ldC (f:=0) aT (v:=.pointer (some ⟨aj,0,none⟩)) Z Z zz Z) (oR Z (Runs.mkf Z (zD Z zS) zS) (ZL (cs:=[.nilFunc]) Z Z Z Z Z Try.zeroValue131 Z aU ?_))
 intro bo au be
 let B1:List Value:=[.func (.func 78) B0.toArray #[]]
 refine ZA (j:=0) (vs:=B1) Z Z Z Z be Z Z Z Z Try.sizeOf131 (zB Z) Z Z Z ?_
 intro az bf
 have bg:sW w U ap [.blk au 131 B1] az:=bf
 refine eN (sR fL2 Z ?_)
 have q:=bg.freeze (k:=0) rfl
 obtain ⟨aq,aV,ae,bi⟩:=q
 replace ae:=Cl.of ae
 have bj:sW w U aq [] az:=bi
 replace ae:Cl aq au 0 B1:=ae
 refine oR Z (Runs.mkf Z zS (zD Z (zD Z (zD Z zS)))) (oA Z Z (eN (zQ ?_)))
 have aY:=aT.le aV
 have aZ:=ab.le aV
 cases hm
 exact ⟨Z,_,(zy Z),aq,_,bj,b2,au,aS,Z,Z,aY,ae,aZ⟩
theorem wDp (n_:Nat):∀ (p0:Int) (p1:wAE) (bi:Nat) (ah:Nat) (ai:Option Addr) (aj:Nat) (ak:Option Addr) (ap:Nat) (am:Option Addr) (aq:Nat) (ae:Nat) (au:Array MapEntry) (av:Nat) (p2:Unit) (br:Nat) (w:World) (U:PHeap) (hS:St0 w U [.blk ah 99 ([.slice ai p1.Bout.Shots.length aj,.slice ak p1.Bout.Down.length ap,.slice am p1.Bout.Across.length aq,.map (some ae)] ++ ((hH KL.encI p1.hits.l) ++ ((hH KL.encI p1.used.l) ++ (hH KL.encT p1.met.l)))),.obj ae (.map au av)]) (bY:Cl U bi 0 [.pointer (some ⟨ah,0,none⟩)]) (dN:Sl U 1 ai aj p1.Bout.Shots.length (hH KL.encI p1.Bout.Shots)) (dO:Sl U 1 ak ap p1.Bout.Down.length (hH KL.encI p1.Bout.Down)) (dP:Sl U 2 am aq p1.Bout.Across.length (hH wAB p1.Bout.Across)) (bZ:MpR au wGM wGk p1.may) (dQ:Cl U br 0 [.func (.func 84) #[] #[.pointer (some ⟨bi,0,none⟩),.pointer (some ⟨br,0,none⟩)]]) {r:Bool × (Arr Int 64 × Arr Int 8 × Arr Bool 16)} (hm:wAR n_ p0 p1 p2=some r),Gv Try.prog 84 [jV p0,.pointer (some ⟨bi,0,none⟩),.pointer (some ⟨br,0,none⟩)] w (wCp w [.blk ah 99 ([.slice ai p1.Bout.Shots.length aj,.slice ak p1.Bout.Down.length ap,.slice am p1.Bout.Across.length aq,.map (some ae)] ++ ((hH KL.encI p1.hits.l) ++ ((hH KL.encI p1.used.l) ++ (hH KL.encT p1.met.l)))),.obj ae (.map au av)] U (fun U_ L_ v=>v=.bool r.1/\L_=[.blk ah 99 ([.slice ai p1.Bout.Shots.length aj,.slice ak p1.Bout.Down.length ap,.slice am p1.Bout.Across.length aq,.map (some ae)] ++ ((hH KL.encI r.2.1.l) ++ ((hH KL.encI r.2.2.1.l) ++ (hH KL.encT r.2.2.2.l)))),.obj ae (.map au av)])):=by
 induction n_ with
 | zero =>
  intros
  rename_i hm
  have gR:(none:Option (Bool × (Arr Int 64 × Arr Int 8 × Arr Bool 16)))=some _:=hm
  cases gR
 | succ n_ ih =>
  intro p0 p1 bi ah ai aj ak ap am aq ae au av p2 br w U hS bY dN dO dP bZ dQ r hm
  have hm:wAy (wAR n_) p0 p1 p2=some r:=hm
  unfold wAy at hm
  refine Go.KX.Gv.ofM Try.func84 Z Try.ntmps84 Try.results84 (zB Z) ?_
  have fL:=hS.mks0
  refine sR gAm rfl (ZX (cs:=[jV p0]) rfl rfl rfl rfl rfl rfl (by rfl) fL ?_)
  intro W5 b6 gv
  refine ZL (cs:=[.bool false]) Z Z Z Z Z Try.zeroValue4 Z gv ?_
  intro W9 bj fy
  refine eN (zF (ZJ ZK [1,1,3,3,3,3,0] (wIp (.fx 6 .nil .stop)) (by kernel_rfl) ?_))
  have bV:=fy.drew
  generalize hw_W14:({ W9 with drawn:=W9.drawn + 1 }:World)=iC at bV ⊢
  refine zm rfl rfl rfl rfl (bV.ldC (f:=0) bY (v:=.pointer (some ⟨ah,0,none⟩)) rfl rfl zz rfl) rfl (zm rfl rfl rfl rfl (bV.ldB (j:=1) rfl rfl rfl zJ (v:=jV p0) rfl) rfl (zL rfl rfl rfl rfl (fun _=>zi rfl rfl) (zL rfl rfl rfl rfl (fun _=>zI rfl rfl zN rfl Try.sizeOf97) (zL rfl rfl rfl rfl (fun _=>zu (ZP rfl rfl rfl Try.runUnderlying97 Try.sizeOf96 (by decide) (by decide)) rfl) (bnK hm fun _ be b5=>zL rfl rfl rfl rfl (fun _=>ZP rfl rfl rfl Try.runUnderlying96 Zj (wAq be) (wAr be)) ?_)))))
  have gJ:=Arr.at_ p1.met (k:=(8 + p0.toNat)) (by have hz0:=wAI be;omega)
  refine ZA (j:=3) (vs:=[.bool true]) (cs':=[.slice ai p1.Bout.Shots.length aj,.slice ak p1.Bout.Down.length ap,.slice am p1.Bout.Across.length aq,.map (some ae)] ++ ((hH KL.encI p1.hits.l) ++ ((hH KL.encI p1.used.l) ++ (hH KL.encT (p1.met.set (8 + p0.toNat) true).l)))) rfl rfl rfl rfl bV rfl ((rfl:ev _ _=.pointer (some ⟨ah,84 + p0.toNat * 1,none⟩)).trans (wCw (by omega))) rfl rfl Zj (by have hz0:=wAI be;simp only [nM,nO,nQ,wAN (f:=KL.encI) (sz:=1) (N:=64) p1.hits (fun _=>rfl) rfl,wAN (f:=KL.encI) (sz:=1) (N:=8) p1.used (fun _=>rfl) rfl,wAN (f:=KL.encT) (sz:=1) (N:=16) p1.met (fun _=>rfl) rfl];omega) rfl (wBo (n:=4) rfl (wBo (n:=64) (wAN (f:=KL.encI) (sz:=1) (N:=64) p1.hits (fun _=>rfl) rfl) (wBo (n:=8) (wAN (f:=KL.encI) (sz:=1) (N:=8) p1.used (fun _=>rfl) rfl) (wPH (sz:=1) (fo:=0) (fun _=>rfl) _ _ _ _ gJ (zB rfl) rfl)))) rfl ?_
  intro ei fK
  let B0:Res:=.blk b6 3 [jV p0]
  let B1:Res:=.blk bj 4 [.bool false]
  have cM:SW w [.blk ah 99 ([.slice ai p1.Bout.Shots.length aj,.slice ak p1.Bout.Down.length ap,.slice am p1.Bout.Across.length aq,.map (some ae)] ++ ((hH KL.encI p1.hits.l) ++ ((hH KL.encI p1.used.l) ++ (hH KL.encT p1.met.l)))),.obj ae (.map au av)] U U [B1,B0,mks [],.blk ah 99 ([.slice ai p1.Bout.Shots.length aj,.slice ak p1.Bout.Down.length ap,.slice am p1.Bout.Across.length aq,.map (some ae)] ++ ((hH KL.encI p1.hits.l) ++ ((hH KL.encI p1.used.l) ++ (hH KL.encT (p1.met.set (8 + p0.toNat) true).l)))),.obj ae (.map au av)] ei:=fK
  refine eN (zF (sR fL7 Z (oL Z (cM.ldC (f:=0) bY (v:=.pointer (some ⟨ah,0,none⟩)) Z Z zz Z) (oR Z (zi Z Z) (oR Z (zI Z Z zN Z zZ) (oR Z (zI Z Z zE Z zY) (oL Z (cM.ldB (j:=3) Z Z Z zl (v:=.slice ai p1.Bout.Shots.length aj) Z) (oR Z (ZC Z Z zA) (oM Z Z (eN (zV ?_)))))))))))
  have q:=wCj b5
  obtain ⟨iV,bX⟩:=q
  have q:=wCi bX
  obtain ⟨cQ,gC⟩:=q
  replace cQ:=zG cQ
  refine CK.forND (fun ab (aU,aS,ba) D_ σ_ w_=>∃ (U_:PHeap) (aX:List Nat),D_=nU Go.KX.mark aX/\σ_ 19=jV (↑ab:Int)/\σ_ 1=.pointer (some ⟨bi,0,none⟩)/\σ_ 2=.pointer (some ⟨br,0,none⟩)/\σ_ 3=.pointer (some ⟨b6,0,none⟩)/\σ_ 4=.pointer (some ⟨bj,0,none⟩)/\σ_ 18=jV (↑p1.Bout.Shots.length:Int)/\PHeap.Le U U_/\SW w [.blk ah 99 ([.slice ai p1.Bout.Shots.length aj,.slice ak p1.Bout.Down.length ap,.slice am p1.Bout.Across.length aq,.map (some ae)] ++ ((hH KL.encI p1.hits.l) ++ ((hH KL.encI p1.used.l) ++ (hH KL.encT p1.met.l)))),.obj ae (.map au av)] U U_ [B1,B0,mks aX,.blk ah 99 ([.slice ai p1.Bout.Shots.length aj,.slice ak p1.Bout.Down.length ap,.slice am p1.Bout.Across.length aq,.map (some ae)] ++ ((hH KL.encI aU.l) ++ ((hH KL.encI aS.l) ++ (hH KL.encT ba.l)))),.obj ae (.map au av)] w_) gC ?_ ?_ ?_
  ·exact ⟨U,[],Z,Z,Z,Z,Z,Z,Z,(ze _),cM⟩
  ·rintro ab ⟨aU,aS,ba⟩ i6 D_ i7 iF cP ⟨bR,aX,rfl,bJ,bk,cJ,bI,bT,bU,bu,gj⟩ dX dR
   try dsimp only at dX
   have df:Hid ((↑ab:Int) < (↑p1.Bout.Shots.length:Int)):=zG (wBe cP)
   replace cP:=zG cP
   have cO:Hid (w64 ((↑ab:Int) + 1)=(↑(ab + 1):Int)):=zG (by have h1:=cQ.out;have h2:=df.out;rw [wAd] <;> omega)
   refine sR fL1 Z (oR Z (zX Z bJ bU) (eN (zF (cT Z df (kN (zF (zV (sR (.fl 0 (.fx 1 (.fx 2 .nil .stop) .stop)) Z (oM Z bJ (ZL (cs:=[jV 0]) Z Z Z Z Z Zi Z gj ?_))))))))))
   intro iI aW gm
   let B2:List Value:=[jV (↑ab:Int)]
   refine ZA (j:=0) (vs:=B2) Z Z Z Z gm Z Z Z Z zC (zB Z) Z Z Z ?_
   intro cA gp
   have gu:SW w [.blk ah 99 ([.slice ai p1.Bout.Shots.length aj,.slice ak p1.Bout.Down.length ap,.slice am p1.Bout.Across.length aq,.map (some ae)] ++ ((hH KL.encI p1.hits.l) ++ ((hH KL.encI p1.used.l) ++ (hH KL.encT p1.met.l)))),.obj ae (.map au av)] U bR [.blk aW 3 B2,B1,B0,mks aX,.blk ah 99 ([.slice ai p1.Bout.Shots.length aj,.slice ak p1.Bout.Down.length ap,.slice am p1.Bout.Across.length aq,.map (some ae)] ++ ((hH KL.encI aU.l) ++ ((hH KL.encI aS.l) ++ (hH KL.encT ba.l)))),.obj ae (.map au av)] cA:=gp
   refine eN (zF (zF (ZJ ZK [1,1,3,3,3,3,1,3,1,1,1,0,3,3] (wNV (.fx 11 (.fl 12 (.fl 13 .nil)) .stop)) (by kernel_rfl) ?_)))
   have bp:=gu.drew
   generalize hw_W69:({ cA with drawn:=cA.drawn + 1 }:World)=cY at bp ⊢
   have cL:=bY.le bu
   refine zm rfl rfl rfl rfl (bp.ldC (f:=0) cL (v:=.pointer (some ⟨ah,0,none⟩)) rfl bk zz rfl) rfl (zm rfl rfl rfl rfl (bp.ldB (j:=0) rfl rfl rfl zJ (v:=jV (↑ab:Int)) rfl) rfl (zL rfl rfl rfl rfl (fun _=>zi rfl rfl) (zL rfl rfl rfl rfl (fun _=>zI rfl rfl zN rfl Try.sizeOf97) (zL rfl rfl rfl rfl (fun _=>zu (ZP rfl rfl rfl Try.runUnderlying97 Try.sizeOf96 (by decide) (by decide)) rfl) (bnK dX fun _ aR ie=>zL rfl rfl rfl rfl (fun _=>ZP rfl rfl rfl Try.runUnderlying96 Zj (wAq aR) (wAr aR)) ?_)))))
   have gP:=Arr.at_ ba (k:=ab) (by have hz0:=wAI aR;omega)
   refine zm rfl rfl rfl rfl (bp.ldB (j:=4) rfl rfl ((rfl:ev _ _=.pointer (some ⟨ah,76 + ab * 1,none⟩)).trans (wCw (by omega))) Try.isAgg4 (wCv (n:=4) rfl (wCv (n:=64) (wAN (f:=KL.encI) (sz:=1) (N:=64) aU (fun _=>rfl) rfl) (wCv (n:=8) (wAN (f:=KL.encI) (sz:=1) (N:=8) aS (fun _=>rfl) rfl) (wPG (sz:=1) (fun _=>rfl) _ _ 0 _ gP rfl))))) rfl (zh rfl rfl rfl rfl rfl rfl (ifc ie ?_ ?_))
   ·intro bf ig
    refine zk Z Z Z (zU Z Z (congrArg nA bf.out) Z) (zk Z Z Z (zU Z Z (congrArg nA bf.out) Z) (zk Z Z Z (zU Z Z (congrArg nA bf.out) Z) (Zb Z Z Z (zU Z Z (congrArg nA bf.out) Z) (zk Z Z Z (zU Z Z (congrArg nA bf.out) Z) (oR Z (zP Z (congrArg nA bf.out) Z) (eN (zt Z (ZN (zg (ZB (zH (rR fL2 Z (oR Z (zu (zW Z bJ Z) (congrArg (jV) cO.out)) (oM Z Z (zo ?_)))))))))))))))
    have q:=nD ig
    obtain rfl:=q
    exact zH ⟨_,rfl,⟨bR,aX,rfl,rfl,bk,cJ,bI,bT,bU,bu,(bp.pick [1,2,3,4,5] _ (by decide) rfl)⟩⟩
   ·intro bf ii
    refine zm Z Z Z (zR Z Z (congrArg nA (nB.2 bf.out))) (bp.ldC (f:=0) cL (v:=.pointer (some ⟨ah,0,none⟩)) Z bk zz Z) Z (zm Z Z Z (zR Z Z (congrArg nA (nB.2 bf.out))) (bp.ldB (j:=0) Z Z Z zJ (v:=jV (↑ab:Int)) Z) Z (zm Z Z Z (zR Z Z (congrArg nA (nB.2 bf.out))) (bp.ldB (j:=2) Z Z bI zJ (v:=jV p0) Z) Z ?_))
    have dE:=dN.le bu
    have dF:=dO.le bu
    have dG:=dP.le bu
    refine bnK ii fun x84 fg ij=>?_
    have gw:SW w [.blk ah 99 ([.slice ai p1.Bout.Shots.length aj,.slice ak p1.Bout.Down.length ap,.slice am p1.Bout.Across.length aq,.map (some ae)] ++ ((hH KL.encI p1.hits.l) ++ ((hH KL.encI p1.used.l) ++ (hH KL.encT p1.met.l)))),.obj ae (.map au av)] U bR [.blk ah 99 ([.slice ai p1.Bout.Shots.length aj,.slice ak p1.Bout.Down.length ap,.slice am p1.Bout.Across.length aq,.map (some ae)] ++ ((hH KL.encI aU.l) ++ ((hH KL.encI aS.l) ++ (hH KL.encT ba.l)))),.obj ae (.map au av),.blk aW 3 B2,B1,B0,mks aX] cY:=bp.pick [4,5,0,1,2,3] _ (by decide) rfl
    refine zM 2 Z Z Z (zR Z Z (congrArg nA (nB.2 bf.out))) (zK Z Z Try.call78 (zD Z (zD Z (zD Z zS))) Z) gw (fun hs=>wCU (⟨p1.Bout,p1.may,aU,aS,ba⟩:wAE) ah ai aj ak ap am aq ae au av (↑ab:Int) p0 cY bR hs dE dF dG bZ fg) (.inl Z) ?_
    rintro bm iz iZ cB bB gx ⟨rfl,rfl⟩
    have dM:SW w [.blk ah 99 ([.slice ai p1.Bout.Shots.length aj,.slice ak p1.Bout.Down.length ap,.slice am p1.Bout.Across.length aq,.map (some ae)] ++ ((hH KL.encI p1.hits.l) ++ ((hH KL.encI p1.used.l) ++ (hH KL.encT p1.met.l)))),.obj ae (.map au av)] U bm [.blk ah 99 ([.slice ai p1.Bout.Shots.length aj,.slice ak p1.Bout.Down.length ap,.slice am p1.Bout.Across.length aq,.map (some ae)] ++ ((hH KL.encI aU.l) ++ ((hH KL.encI aS.l) ++ (hH KL.encT ba.l)))),.obj ae (.map au av),.blk aW 3 B2,B1,B0,mks aX] cB:=gx
    refine zL Z Z Z (zR Z Z (congrArg nA (nB.2 bf.out))) (fun _=>ZS Z Z) (oR Z (zj Z (congrArg nA (nB.2 bf.out)) Z) (eN (ifc ij ?_ ?_)))
    ·intro cE ik
     refine zn (nC cE.out) (kN (zF (ZJ ZK [1,1,3,3,3,3,0] (wIp (.fx 6 .nil .stop)) (by kernel_rfl) ?_)))
     have bW:=dM.drew
     generalize hw_W98:({ cB with drawn:=cB.drawn + 1 }:World)=iJ at bW ⊢
     have bz:=cL.le bB
     refine zm rfl rfl rfl rfl (bW.ldC (f:=0) bz (v:=.pointer (some ⟨ah,0,none⟩)) rfl bk zz rfl) rfl (zm rfl rfl rfl rfl (bW.ldB (j:=2) rfl rfl rfl zJ (v:=jV (↑ab:Int)) rfl) rfl (zL rfl rfl rfl rfl (fun _=>zi rfl rfl) (zL rfl rfl rfl rfl (fun _=>zI rfl rfl zN rfl Try.sizeOf97) (zL rfl rfl rfl rfl (fun _=>zu (ZP rfl rfl rfl Try.runUnderlying97 Try.sizeOf96 (by decide) (by decide)) rfl) (zL rfl rfl rfl rfl (fun _=>ZP rfl rfl rfl Try.runUnderlying96 Zj (wAq aR) (wAr aR)) ?_)))))
     have gD:=Arr.at_ ba (k:=ab) (by have hz0:=wAI aR;omega)
     refine ZA (j:=0) (vs:=[.bool true]) (cs':=[.slice ai p1.Bout.Shots.length aj,.slice ak p1.Bout.Down.length ap,.slice am p1.Bout.Across.length aq,.map (some ae)] ++ ((hH KL.encI aU.l) ++ ((hH KL.encI aS.l) ++ (hH KL.encT (ba.set ab true).l)))) rfl rfl rfl rfl bW rfl ((rfl:ev _ _=.pointer (some ⟨ah,76 + ab * 1,none⟩)).trans (wCw (by omega))) rfl rfl Zj (by have hz0:=wAI aR;simp only [nM,nO,nQ,wAN (f:=KL.encI) (sz:=1) (N:=64) aU (fun _=>rfl) rfl,wAN (f:=KL.encI) (sz:=1) (N:=8) aS (fun _=>rfl) rfl,wAN (f:=KL.encT) (sz:=1) (N:=16) ba (fun _=>rfl) rfl];omega) rfl (wBo (n:=4) rfl (wBo (n:=64) (wAN (f:=KL.encI) (sz:=1) (N:=64) aU (fun _=>rfl) rfl) (wBo (n:=8) (wAN (f:=KL.encI) (sz:=1) (N:=8) aS (fun _=>rfl) rfl) (wPH (sz:=1) (fo:=0) (fun _=>rfl) _ _ _ _ gD (zB rfl) rfl)))) rfl ?_
     intro ct fu
     have fw:SW w [.blk ah 99 ([.slice ai p1.Bout.Shots.length aj,.slice ak p1.Bout.Down.length ap,.slice am p1.Bout.Across.length aq,.map (some ae)] ++ ((hH KL.encI p1.hits.l) ++ ((hH KL.encI p1.used.l) ++ (hH KL.encT p1.met.l)))),.obj ae (.map au av)] U bm [.blk ah 99 ([.slice ai p1.Bout.Shots.length aj,.slice ak p1.Bout.Down.length ap,.slice am p1.Bout.Across.length aq,.map (some ae)] ++ ((hH KL.encI aU.l) ++ ((hH KL.encI aS.l) ++ (hH KL.encT (ba.set ab true).l)))),.obj ae (.map au av),.blk aW 3 B2,B1,B0,mks aX] ct:=fu
     refine eN (zF (zF (ZJ ZK [1,1,3,3,3,1,1,3,3,3,1,1,3,1,3] fL15 (by kernel_rfl) ?_)))
     have bg:=fw.drew
     generalize hw_W105:({ ct with drawn:=ct.drawn + 1 }:World)=cu at bg ⊢
     refine oL Z (bg.ldC (f:=0) bz (v:=.pointer (some ⟨ah,0,none⟩)) Z bk zz Z) (oL Z (bg.ldB (j:=2) Z Z Z zJ (v:=jV (↑ab:Int)) Z) (oR Z (zi Z Z) (oR Z (zI Z Z zN Z Zg) (oR Z (ZP Z Z Z ZQ zC (wAq aR) (wAr aR)) ?_))))
     have gE:=Arr.at_ aS (k:=ab) (by have hz0:=wAI aR;omega)
     refine zm rfl rfl rfl rfl (bg.ldB (j:=0) rfl rfl ((rfl:ev _ _=.pointer (some ⟨ah,68 + ab * 1,none⟩)).trans (wCw (by omega))) zJ (wCv (n:=4) rfl (wCv (n:=64) (wAN (f:=KL.encI) (sz:=1) (N:=64) aU (fun _=>rfl) rfl) (wGY (sz:=1) (fun _=>rfl) _ _ 0 _ gE rfl)))) rfl (zm rfl rfl rfl rfl (bg.ldC (f:=0) bz (v:=.pointer (some ⟨ah,0,none⟩)) rfl bk zz rfl) rfl (zL rfl rfl rfl rfl (fun _=>zi rfl rfl) (zL rfl rfl rfl rfl (fun _=>zI rfl rfl zN rfl zZ) (zL rfl rfl rfl rfl (fun _=>zI rfl rfl zE rfl zY) (zm rfl rfl rfl rfl (bg.ldB (j:=0) rfl rfl rfl zl (v:=.slice ai p1.Bout.Shots.length aj) rfl) rfl (zm rfl rfl rfl rfl (bg.ldB (j:=2) rfl rfl rfl zJ (v:=jV (↑ab:Int)) rfl) rfl (bnK ik fun x107 dx gS=>?_)))))))
     have dy:=dE.le bB
     have q:=dy.el (fun _=>rfl) (wBU dx)
     obtain ⟨iK,iT,fh,fj⟩:=q
     refine oR Z (ZG Z Z fh Z zA zC (wCt dx)) (oL Z (bg.ldC (f:=0) fj (v:=jV x107) Z Z zJ Z) (oR Z (zX Z Z Z) (eN (ifc gS ?_ ?_))))
     ·intro cC gT
      refine cT Z cC (zF (CK.fresh fun cj bM=>?_))
      have dg:cj 1=.pointer (some ⟨bi,0,none⟩):=(bM 1).trans bk
      have eE:cj 3=.pointer (some ⟨b6,0,none⟩):=(bM 3).trans bI
      have dh:cj 4=.pointer (some ⟨bj,0,none⟩):=(bM 4).trans bT
      have dk:cj 5=.pointer (some ⟨aW,0,none⟩):=(bM 5).trans rfl
      clear bM
      refine ZJ ZK [1,1,3,3,3,1,3,3,3,3,0] (wPz (.fx 10 .nil .stop)) (by kernel_rfl) ?_
      have bK:=bg.drew
      generalize hw_W124:({ cu with drawn:=cu.drawn + 1 }:World)=iA at bK ⊢
      refine oL Z (bK.ldC (f:=0) bz (v:=.pointer (some ⟨ah,0,none⟩)) Z dg zz Z) (oL Z (bK.ldB (j:=2) Z Z dk zJ (v:=jV (↑ab:Int)) Z) (oR Z (zi Z Z) (oR Z (zI Z Z zN Z Zg) (oR Z (ZP Z Z Z ZQ zC (wAq aR) (wAr aR)) ?_))))
      have gF:=Arr.at_ aS (k:=ab) (by have hz0:=wAI aR;omega)
      refine zm rfl rfl rfl rfl (bK.ldB (j:=0) rfl rfl ((rfl:ev _ _=.pointer (some ⟨ah,68 + ab * 1,none⟩)).trans (wCw (by omega))) zJ (wCv (n:=4) rfl (wCv (n:=64) (wAN (f:=KL.encI) (sz:=1) (N:=64) aU (fun _=>rfl) rfl) (wGY (sz:=1) (fun _=>rfl) _ _ 0 _ gF rfl)))) rfl (zL rfl rfl rfl rfl (fun _=>zW rfl rfl rfl) (zL rfl rfl rfl rfl (fun _=>zi rfl rfl) (zL rfl rfl rfl rfl (fun _=>zI rfl rfl zN rfl Zg) (zL rfl rfl rfl rfl (fun _=>ZP rfl rfl rfl ZQ zC (wAq aR) (wAr aR)) ?_))))
      have gG:=Arr.at_ aS (k:=ab) (by have hz0:=wAI aR;omega)
      refine ZA (j:=0) (vs:=[jV (w64 ((aS.get ab) + 1))]) (cs':=[.slice ai p1.Bout.Shots.length aj,.slice ak p1.Bout.Down.length ap,.slice am p1.Bout.Across.length aq,.map (some ae)] ++ ((hH KL.encI aU.l) ++ ((hH KL.encI (aS.set ab (w64 ((aS.get ab) + 1))).l) ++ (hH KL.encT (ba.set ab true).l)))) rfl rfl rfl rfl bK rfl ((rfl:ev _ _=.pointer (some ⟨ah,68 + ab * 1,none⟩)).trans (wCw (by omega))) rfl rfl zC (by have hz0:=wAI aR;simp only [nM,nO,nQ,wAN (f:=KL.encI) (sz:=1) (N:=64) aU (fun _=>rfl) rfl,wAN (f:=KL.encI) (sz:=1) (N:=8) aS (fun _=>rfl) rfl,wAN (f:=KL.encT) (sz:=1) (N:=16) (ba.set ab true) (fun _=>rfl) rfl];omega) rfl (wBo (n:=4) rfl (wBo (n:=64) (wAN (f:=KL.encI) (sz:=1) (N:=64) aU (fun _=>rfl) rfl) (wIw (sz:=1) (fo:=0) (fun _=>rfl) _ _ _ _ gG (zB rfl) rfl))) rfl ?_
      intro cw fz
      have fA:SW w [.blk ah 99 ([.slice ai p1.Bout.Shots.length aj,.slice ak p1.Bout.Down.length ap,.slice am p1.Bout.Across.length aq,.map (some ae)] ++ ((hH KL.encI p1.hits.l) ++ ((hH KL.encI p1.used.l) ++ (hH KL.encT p1.met.l)))),.obj ae (.map au av)] U bm [.blk ah 99 ([.slice ai p1.Bout.Shots.length aj,.slice ak p1.Bout.Down.length ap,.slice am p1.Bout.Across.length aq,.map (some ae)] ++ ((hH KL.encI aU.l) ++ ((hH KL.encI (aS.set ab (w64 ((aS.get ab) + 1))).l) ++ (hH KL.encT (ba.set ab true).l)))),.obj ae (.map au av),.blk aW 3 B2,B1,B0,mks aX] cw:=fz
      refine eN (zF (ZJ ZK [1,1,1,3,3,3,3,1,3,3,3,3,3,0] (wJV (.fx 13 .nil .stop)) (by kernel_rfl) ?_))
      have bD:=fA.drew
      generalize hw_W131:({ cw with drawn:=cw.drawn + 1 }:World)=iB at bD ⊢
      refine oL Z (bD.ldC (f:=0) bz (v:=.pointer (some ⟨ah,0,none⟩)) Z dg zz Z) (oL Z (bD.ldB (j:=2) Z Z dk zJ (v:=jV (↑ab:Int)) Z) (oL Z (bD.ldB (j:=4) Z Z eE zJ (v:=jV p0) Z) (oR Z (zi Z Z) (oR Z (zI Z Z zN Z Try.sizeOf95) (oR Z (ZP Z Z Z Zd Zg (wAq aR) (wAr aR)) (oR Z (ZP Z Z Z ZQ zC (wAq be) (wAr be)) ?_))))))
      have gH:=Arr.at_ aU (k:=(ab * 8 + p0.toNat)) (by have hz0:=wAI aR;have hz1:=wAI be;omega)
      refine zm rfl rfl rfl rfl (bD.ldB (j:=0) rfl rfl ((rfl:ev _ _=.pointer (some ⟨ah,4 + ab * 8 + p0.toNat * 1,none⟩)).trans (wCw (by omega))) zJ (wCv (n:=4) rfl (wGY (sz:=1) (fun _=>rfl) _ _ 0 _ gH rfl))) rfl (zL rfl rfl rfl rfl (fun _=>zW rfl rfl rfl) (zL rfl rfl rfl rfl (fun _=>zi rfl rfl) (zL rfl rfl rfl rfl (fun _=>zI rfl rfl zN rfl Try.sizeOf95) (zL rfl rfl rfl rfl (fun _=>ZP rfl rfl rfl Zd Zg (wAq aR) (wAr aR)) (zL rfl rfl rfl rfl (fun _=>ZP rfl rfl rfl ZQ zC (wAq be) (wAr be)) ?_)))))
      have gI:=Arr.at_ aU (k:=(ab * 8 + p0.toNat)) (by have hz0:=wAI aR;have hz1:=wAI be;omega)
      refine ZA (j:=0) (vs:=[jV (w64 ((aU.get (ab * 8 + p0.toNat)) + 1))]) (cs':=[.slice ai p1.Bout.Shots.length aj,.slice ak p1.Bout.Down.length ap,.slice am p1.Bout.Across.length aq,.map (some ae)] ++ ((hH KL.encI (aU.set (ab * 8 + p0.toNat) (w64 ((aU.get (ab * 8 + p0.toNat)) + 1))).l) ++ ((hH KL.encI (aS.set ab (w64 ((aS.get ab) + 1))).l) ++ (hH KL.encT (ba.set ab true).l)))) rfl rfl rfl rfl bD rfl ((rfl:ev _ _=.pointer (some ⟨ah,4 + ab * 8 + p0.toNat * 1,none⟩)).trans (wCw (by omega))) rfl rfl zC (by have hz0:=wAI aR;have hz1:=wAI be;simp only [nM,nO,nQ,wAN (f:=KL.encI) (sz:=1) (N:=64) aU (fun _=>rfl) rfl,wAN (f:=KL.encI) (sz:=1) (N:=8) (aS.set ab (w64 ((aS.get ab) + 1))) (fun _=>rfl) rfl,wAN (f:=KL.encT) (sz:=1) (N:=16) (ba.set ab true) (fun _=>rfl) rfl];omega) rfl (wBo (n:=4) rfl (wIw (sz:=1) (fo:=0) (fun _=>rfl) _ _ _ _ gI (zB rfl) rfl)) rfl ?_
      intro ed fB
      have fC:SW w [.blk ah 99 ([.slice ai p1.Bout.Shots.length aj,.slice ak p1.Bout.Down.length ap,.slice am p1.Bout.Across.length aq,.map (some ae)] ++ ((hH KL.encI p1.hits.l) ++ ((hH KL.encI p1.used.l) ++ (hH KL.encT p1.met.l)))),.obj ae (.map au av)] U bm [.blk ah 99 ([.slice ai p1.Bout.Shots.length aj,.slice ak p1.Bout.Down.length ap,.slice am p1.Bout.Across.length aq,.map (some ae)] ++ ((hH KL.encI (aU.set (ab * 8 + p0.toNat) (w64 ((aU.get (ab * 8 + p0.toNat)) + 1))).l) ++ ((hH KL.encI (aS.set ab (w64 ((aS.get ab) + 1))).l) ++ (hH KL.encT (ba.set ab true).l)))),.obj ae (.map au av),.blk aW 3 B2,B1,B0,mks aX] ed:=fB
      refine eN (sR (.fx 0 .nil .stop) Z (ZA (j:=3) (vs:=[.bool true]) Z Z Z Z fC Z dh Z Z Zj (zB Z) Z Z Z ?_))
      intro ef fD
      let B3:Res:=.blk bj 4 [.bool true]
      have fE:SW w [.blk ah 99 ([.slice ai p1.Bout.Shots.length aj,.slice ak p1.Bout.Down.length ap,.slice am p1.Bout.Across.length aq,.map (some ae)] ++ ((hH KL.encI p1.hits.l) ++ ((hH KL.encI p1.used.l) ++ (hH KL.encT p1.met.l)))),.obj ae (.map au av)] U bm [.blk ah 99 ([.slice ai p1.Bout.Shots.length aj,.slice ak p1.Bout.Down.length ap,.slice am p1.Bout.Across.length aq,.map (some ae)] ++ ((hH KL.encI (aU.set (ab * 8 + p0.toNat) (w64 ((aU.get (ab * 8 + p0.toNat)) + 1))).l) ++ ((hH KL.encI (aS.set ab (w64 ((aS.get ab) + 1))).l) ++ (hH KL.encT (ba.set ab true).l)))),.obj ae (.map au av),.blk aW 3 B2,B3,B0,mks aX] ef:=fD
      refine eN (zQ (zO (zd (zO ?_))))
      have q:=wAo gT
      obtain ⟨ip,gU,eC⟩:=q
      have q:=wBz b5 bX (dR ip eC)
      obtain rfl:=q
      refine zO (zd (zO (wDv (by first | exact .inl rfl | exact .inr rfl) (rbs:=aX) (L:=[.blk ah 99 ([.slice ai p1.Bout.Shots.length aj,.slice ak p1.Bout.Down.length ap,.slice am p1.Bout.Across.length aq,.map (some ae)] ++ ((hH KL.encI (aU.set (ab * 8 + p0.toNat) (w64 ((aU.get (ab * 8 + p0.toNat)) + 1))).l) ++ ((hH KL.encI (aS.set ab (w64 ((aS.get ab) + 1))).l) ++ (hH KL.encT (ba.set ab true).l)))),.obj ae (.map au av),.blk aW 3 B2,B3,B0]) (fE.pick [5,0,1,2,3,4] _ (by decide) rfl) fun eg fG=>?_)))
      have dH:SW w [.blk ah 99 ([.slice ai p1.Bout.Shots.length aj,.slice ak p1.Bout.Down.length ap,.slice am p1.Bout.Across.length aq,.map (some ae)] ++ ((hH KL.encI p1.hits.l) ++ ((hH KL.encI p1.used.l) ++ (hH KL.encT p1.met.l)))),.obj ae (.map au av)] U bm [.blk ah 99 ([.slice ai p1.Bout.Shots.length aj,.slice ak p1.Bout.Down.length ap,.slice am p1.Bout.Across.length aq,.map (some ae)] ++ ((hH KL.encI (aU.set (ab * 8 + p0.toNat) (w64 ((aU.get (ab * 8 + p0.toNat)) + 1))).l) ++ ((hH KL.encI (aS.set ab (w64 ((aS.get ab) + 1))).l) ++ (hH KL.encT (ba.set ab true).l)))),.obj ae (.map au av),.blk aW 3 B2,B3,B0] eg:=fG
      cases gU
      exact ⟨_,(wKH (v:=.bool true) ⟨⟨_,dh,(wNf Try.isAgg4 (dH.blkAt (k:=3) rfl) rfl)⟩,trivial⟩),bm,_,(dH.pick [0,1] _ (by decide) rfl),rfl,rfl⟩
     ·intro cC gW
      refine cF Z cC (kN (sR gAs Z (oL Z (bg.ldC (f:=0) bz (v:=.pointer (some ⟨ah,0,none⟩)) Z bk zz Z) (oL Z (bg.ldB (j:=2) Z Z Z zJ (v:=jV (↑ab:Int)) Z) ?_))))
      have q:=bnd gW
      obtain ⟨⟨⟩,eR,dS⟩:=q
      try dsimp only at dS
      refine zM 0 Z Z Z Z (zK Z Z Try.call43 (zD Z (zD Z zS)) Z) bg (fun hs=>wCo () ah (↑ab:Int) cu bm hs eR) (.inr Z) ?_
      rintro cW iu iX eh bF fH ⟨da,db,de,rfl,rfl,eS,eT,eU⟩
      have fJ:SW w [.blk ah 99 ([.slice ai p1.Bout.Shots.length aj,.slice ak p1.Bout.Down.length ap,.slice am p1.Bout.Across.length aq,.map (some ae)] ++ ((hH KL.encI p1.hits.l) ++ ((hH KL.encI p1.used.l) ++ (hH KL.encT p1.met.l)))),.obj ae (.map au av)] U cW [.blk ah 99 ([.slice ai p1.Bout.Shots.length aj,.slice ak p1.Bout.Down.length ap,.slice am p1.Bout.Across.length aq,.map (some ae)] ++ ((hH KL.encI aU.l) ++ ((hH KL.encI aS.l) ++ (hH KL.encT (ba.set ab true).l)))),.obj ae (.map au av),.blk aW 3 B2,B1,B0,mks aX] eh:=fH
      refine eN (zV (CK.fresh fun bt bq=>?_))
      have dm:bt 1=.pointer (some ⟨bi,0,none⟩):=(bq 1).trans bk
      have dp:bt 2=.pointer (some ⟨br,0,none⟩):=(bq 2).trans cJ
      have dq:bt 3=.pointer (some ⟨b6,0,none⟩):=(bq 3).trans bI
      have cG:bt 4=.pointer (some ⟨bj,0,none⟩):=(bq 4).trans bT
      have eF:bt 5=.pointer (some ⟨aW,0,none⟩):=(bq 5).trans rfl
      have dr:bt 18=jV (↑p1.Bout.Shots.length:Int):=(bq 18).trans bU
      have dt:bt 19=jV (↑ab:Int):=(bq 19).trans bJ
      have eG:bt 82=.func (.func 83) #[] #[.pointer (some ⟨da,0,none⟩),.pointer (some ⟨db,0,none⟩),.pointer (some ⟨de,0,none⟩)]:=(bq 82).trans rfl
      clear bq
      refine bnK dS fun dZ gQ b9=>?_
      have dz:=dy.le bF
      have eV:=dF.le bB
      have dA:=eV.le bF
      have eW:=dG.le bB
      have dB:=eW.le bF
      refine CK.rangeYV (fun U_ L_=>∃ (i_ j_:Nat) (a0_:Arr Int 64) (a1_:Arr Int 8) (a2_:Arr Bool 16),L_[i_]?=some (.blk ah 99 ([.slice ai p1.Bout.Shots.length aj,.slice ak p1.Bout.Down.length ap,.slice am p1.Bout.Across.length aq,.map (some ae)] ++ ((hH KL.encI a0_.l) ++ ((hH KL.encI a1_.l) ++ (hH KL.encT a2_.l)))))/\L_[j_]?=some (.obj ae (.map au av))) (by rintro _ _ _ ⟨i,j,a0,a1,a2,hi,hj⟩;exact ⟨i + 1,j + 1,a0,a1,a2,hi,hj⟩) (S:=(Arr Int 64) × (Arr Int 8) × (Arr Bool 16)) (E:=(Arr Int 64) × (Arr Int 8) × (Arr Bool 16) × Bool) (ar:=wMS) (PY:=(fun (s_:(Arr Int 64) × (Arr Int 8) × (Arr Bool 16)) (U_:PHeap) (L_:List Res)=>match s_ with | (a303,a304,a305)=>L_=[.blk ah 99 ([.slice ai p1.Bout.Shots.length aj,.slice ak p1.Bout.Down.length ap,.slice am p1.Bout.Across.length aq,.map (some ae)] ++ ((hH KL.encI a303.l) ++ ((hH KL.encI a304.l) ++ (hH KL.encT a305.l)))),.obj ae (.map au av),.blk aW 3 [jV (↑ab:Int)],B1,B0,mks aX])) (PE:=(fun (s_:(Arr Int 64) × (Arr Int 8) × (Arr Bool 16) × Bool) (U_:PHeap) (L_:List Res)=>match s_ with | (a314,a315,a316,b317)=>L_=[.blk ah 99 ([.slice ai p1.Bout.Shots.length aj,.slice ak p1.Bout.Down.length ap,.slice am p1.Bout.Across.length aq,.map (some ae)] ++ ((hH KL.encI a314.l) ++ ((hH KL.encI a315.l) ++ (hH KL.encT a316.l)))),.obj ae (.map au av),.blk aW 3 [jV (↑ab:Int)],.blk bj 4 [.bool b317],B0,mks aX])) (exO:=(fun _=>.ret)) (s0:=(aU,aS,(ba.set ab true))) (rr:=dZ) eG Try.call83 fJ (by decide) (fun _ _ _ h=>by obtain rfl:=h;rfl) (fun _=>.inl rfl) rfl (by rintro ⟨a303,a304,a305⟩ _ _ rfl;exact ⟨0,1,a303,a304,a305,rfl,rfl⟩) (fun l w1 L1 PY' PE' ft fm gz gy=>wCY PY' PE' _ l _ (⟨p1.Bout,p1.may,aU,aS,(ba.set ab true)⟩:wAE) da ah ai aj ak ap am aq ae au av () db (↑ab:Int) de w1 L1 cW ft fm gz gy eS dz dA dB bZ eT eU gQ) ?_ ?_
      ·rintro bA iW iQ ⟨a303,a304,a305⟩ aT i3 iU cd iv it io bv bO fM fq gA cN bs bh
       obtain rfl:=fq
       obtain rfl:=gA
       replace bh:∀ t,bs t=upd bt 83 (jV aT) t:=bh
       have eH:bs 83=jV aT:=(bh 83).trans (wCD _ _ _)
       have cH:bs 1=.pointer (some ⟨bi,0,none⟩):=(bh 1).trans ((wBY _ _ (by decide)).trans dm)
       have eI:bs 2=.pointer (some ⟨br,0,none⟩):=(bh 2).trans ((wBY _ _ (by decide)).trans dp)
       have du:bs 3=.pointer (some ⟨b6,0,none⟩):=(bh 3).trans ((wBY _ _ (by decide)).trans dq)
       have eJ:bs 4=.pointer (some ⟨bj,0,none⟩):=(bh 4).trans ((wBY _ _ (by decide)).trans cG)
       have cI:bs 5=.pointer (some ⟨aW,0,none⟩):=(bh 5).trans ((wBY _ _ (by decide)).trans eF)
       have iL:bs 18=jV (↑p1.Bout.Shots.length:Int):=(bh 18).trans ((wBY _ _ (by decide)).trans dr)
       have iM:bs 19=jV (↑ab:Int):=(bh 19).trans ((wBY _ _ (by decide)).trans dt)
       clear bh
       have fN:St bv cd [.obj bA io,.blk ah 99 ([.slice ai p1.Bout.Shots.length aj,.slice ak p1.Bout.Down.length ap,.slice am p1.Bout.Across.length aq,.map (some ae)] ++ ((hH KL.encI a303.l) ++ ((hH KL.encI a304.l) ++ (hH KL.encT a305.l)))),.obj ae (.map au av),.blk aW 3 B2,B1,B0,mks aX] it:=fM
       try dsimp only at cN
       refine rR fL1 Z (oA Z eH (zo ⟨Z,Z,_,_,fN,fun cx bG fO=>?_⟩))
       have fP:St bv cd [.obj bA bG,.blk ah 99 ([.slice ai p1.Bout.Shots.length aj,.slice ak p1.Bout.Down.length ap,.slice am p1.Bout.Across.length aq,.map (some ae)] ++ ((hH KL.encI a303.l) ++ ((hH KL.encI a304.l) ++ (hH KL.encT a305.l)))),.obj ae (.map au av),.blk aW 3 B2,B1,B0,mks aX] cx:=fO
       refine zV (zF (ZJ ZK [3,1,3,3,1,1,3,3,3,3,3,1,3,3,3,1,3,0,3] (wQD (.fx 17 (.fl 18 .nil) .stop)) (by kernel_rfl) ?_))
       have bo:=fP.drew
       generalize hw_W362:({ cx with drawn:=cx.drawn + 1 }:World)=cX at bo ⊢
       refine oM Z Z (oL Z (bo.ldB (j:=5) Z Z du zJ (v:=jV p0) Z) (oR Z (ZT Z Z Z) (oM Z Z ?_)))
       by_cases aY:aT=p0
       ·have dT:=cN;rw [if_pos aY] at dT;replace aY:=zG aY
        refine zk Z Z Z (zU Z Z (zr (fun h=>h aY.out)) Z) (zk Z Z Z (zU Z Z (zr (fun h=>h aY.out)) Z) (zk Z Z Z (zU Z Z (zr (fun h=>h aY.out)) Z) (zk Z Z Z (zU Z Z (zr (fun h=>h aY.out)) Z) (zk Z Z Z (zU Z Z (zr (fun h=>h aY.out)) Z) (zk Z Z Z (zU Z Z (zr (fun h=>h aY.out)) Z) (zk Z Z Z (zU Z Z (zr (fun h=>h aY.out)) Z) (zk Z Z Z (zU Z Z (zr (fun h=>h aY.out)) Z) (zk Z Z Z (zU Z Z (zr (fun h=>h aY.out)) Z) (oR Z (zj Z (zr (fun h=>h aY.out)) Z) (oM Z Z (oN Z (oN Z (Zb Z Z Z (zU Z Z Z Z) (oR Z (zj Z Z Z) (eN (zn Z (ZR (zf ?_))))))))))))))))))
        have q:=nD dT
        obtain rfl:=q
        exact ⟨_,_,bo,Z,Z⟩
       ·have dU:=cN;rw [if_neg aY] at dU;replace aY:=zG aY
        have eX:=bz.le bF
        have cK:=eX.le bO
        refine zm Z Z Z (wT Z aY) (bo.ldC (f:=0) cK (v:=.pointer (some ⟨ah,0,none⟩)) Z cH zz Z) Z (zm Z Z Z (wT Z aY) (bo.ldB (j:=3) Z Z cI zJ (v:=jV (↑ab:Int)) Z) Z (zh Z Z Z (wT Z aY) Z Z (rU Z (wT Z aY) (zi Z Z) (rU Z (wT Z aY) (zI Z Z zN Z Try.sizeOf95) (rU Z (wT Z aY) (ZP Z Z Z Zd Zg (wAq aR) (wAr aR)) (bnK dU fun _ bl gX=>rU Z (wT Z aY) (ZP Z Z Z ZQ zC (wAq bl) (wAr bl)) ?_))))))
        have gK:=Arr.at_ a303 (k:=(ab * 8 + aT.toNat)) (by have hz0:=wAI aR;have hz1:=wAI bl;omega)
        refine zm rfl rfl rfl (zR rfl rfl (Zf aY.out)) (bo.ldB (j:=1) rfl rfl ((rfl:ev _ _=.pointer (some ⟨ah,4 + ab * 8 + aT.toNat * 1,none⟩)).trans (wCw (by omega))) zJ (wCv (n:=4) rfl (wGY (sz:=1) (fun _=>rfl) _ _ 0 _ gK rfl))) rfl (zL rfl rfl rfl (zR rfl rfl (Zf aY.out)) (fun _=>Runs.gtr rfl rfl rfl) (zL rfl rfl rfl rfl (fun _=>zP rfl (Zf aY.out) rfl) (zh rfl rfl rfl rfl rfl rfl (ifc gX ?_ ?_))))
        ·intro bn gZ
         have eY:=dQ.le bu
         have eZ:=eY.le bB
         have fb:=eZ.le bF
         have dC:=fb.le bO
         refine zm Z Z Z (wT Z bn) (bo.ldC (f:=0) dC (v:=.func (.func 84) #[] #[.pointer (some ⟨bi,0,none⟩),.pointer (some ⟨br,0,none⟩)]) Z eI Try.isAgg74 Z) Z (zh Z Z Z (wT Z bn) Z Z ?_)
         have fc:=dz.le bO
         have fd:=dA.le bO
         have fe:=dB.le bO
         have q:=bnd gZ
         obtain ⟨⟨i5,az⟩,ff,dV⟩:=q
         try dsimp only at dV
         have fQ:St bv cd [.blk ah 99 ([.slice ai p1.Bout.Shots.length aj,.slice ak p1.Bout.Down.length ap,.slice am p1.Bout.Across.length aq,.map (some ae)] ++ ((hH KL.encI a303.l) ++ ((hH KL.encI a304.l) ++ (hH KL.encT a305.l)))),.obj ae (.map au av),.obj bA bG,.blk aW 3 B2,B1,B0,mks aX] cX:=bo.pick [1,2,0,3,4,5,6] _ (by decide) rfl
         refine zM 2 Z Z Z (wT Z bn) (zK Z Z Try.call84 (zD Z zS) Z) fQ (fun hs=>ih aT (⟨p1.Bout,p1.may,a303,a304,a305⟩:wAE) bi ah ai aj ak ap am aq ae au av () br cX cd hs cK fc fd fe bZ dC ff) (.inl Z) ?_
         rintro bQ iw iY cy il fR ⟨rfl,rfl⟩
         have dI:St bv bQ [.blk ah 99 ([.slice ai p1.Bout.Shots.length aj,.slice ak p1.Bout.Down.length ap,.slice am p1.Bout.Across.length aq,.map (some ae)] ++ ((hH KL.encI az.1.l) ++ ((hH KL.encI az.2.1.l) ++ (hH KL.encT az.2.2.l)))),.obj ae (.map au av),.obj bA bG,.blk aW 3 B2,B1,B0,mks aX] cy:=fR
         refine oR Z (zP Z (Zf bn.out) Z) (eN (ifc dV ?_ ?_))
         ·intro cD g7
          refine zt (congrArg nA cD.out) (zF (ZJ ZK [1,1,3,3,3,3,3,1,3,3,3,3,3,0] (wJV (.fx 13 .nil .stop)) (by kernel_rfl) ?_))
          have bL:=dI.drew
          generalize hw_W398:({ cy with drawn:=cy.drawn + 1 }:World)=iD at bL ⊢
          have dD:=cK.le il
          refine oL Z (bL.ldC (f:=0) dD (v:=.pointer (some ⟨ah,0,none⟩)) Z cH zz Z) (oL Z (bL.ldB (j:=3) Z Z cI zJ (v:=jV (↑ab:Int)) Z) (oM Z Z (oR Z (zi Z Z) (oR Z (zI Z Z zN Z Try.sizeOf95) (oR Z (ZP Z Z Z Zd Zg (wAq aR) (wAr aR)) (oR Z (ZP Z Z Z ZQ zC (wAq bl) (wAr bl)) ?_))))))
          have gL:=Arr.at_ az.1 (k:=(ab * 8 + aT.toNat)) (by have hz0:=wAI aR;have hz1:=wAI bl;omega)
          refine zm rfl rfl rfl rfl (bL.ldB (j:=0) rfl rfl ((rfl:ev _ _=.pointer (some ⟨ah,4 + ab * 8 + aT.toNat * 1,none⟩)).trans (wCw (by omega))) zJ (wCv (n:=4) rfl (wGY (sz:=1) (fun _=>rfl) _ _ 0 _ gL rfl))) rfl (zL rfl rfl rfl rfl (fun _=>Zc rfl rfl rfl) (zL rfl rfl rfl rfl (fun _=>zi rfl rfl) (zL rfl rfl rfl rfl (fun _=>zI rfl rfl zN rfl Try.sizeOf95) (zL rfl rfl rfl rfl (fun _=>ZP rfl rfl rfl Zd Zg (wAq aR) (wAr aR)) (zL rfl rfl rfl rfl (fun _=>ZP rfl rfl rfl ZQ zC (wAq bl) (wAr bl)) ?_)))))
          have gM:=Arr.at_ az.1 (k:=(ab * 8 + aT.toNat)) (by have hz0:=wAI aR;have hz1:=wAI bl;omega)
          refine ZA (j:=0) (vs:=[jV (w64 ((az.1.get (ab * 8 + aT.toNat)) - 1))]) (cs':=[.slice ai p1.Bout.Shots.length aj,.slice ak p1.Bout.Down.length ap,.slice am p1.Bout.Across.length aq,.map (some ae)] ++ ((hH KL.encI (az.1.set (ab * 8 + aT.toNat) (w64 ((az.1.get (ab * 8 + aT.toNat)) - 1))).l) ++ ((hH KL.encI az.2.1.l) ++ (hH KL.encT az.2.2.l)))) rfl rfl rfl rfl bL rfl ((rfl:ev _ _=.pointer (some ⟨ah,4 + ab * 8 + aT.toNat * 1,none⟩)).trans (wCw (by omega))) rfl rfl zC (by have hz0:=wAI aR;have hz1:=wAI bl;simp only [nM,nO,nQ,wAN (f:=KL.encI) (sz:=1) (N:=64) az.1 (fun _=>rfl) rfl,wAN (f:=KL.encI) (sz:=1) (N:=8) az.2.1 (fun _=>rfl) rfl,wAN (f:=KL.encT) (sz:=1) (N:=16) az.2.2 (fun _=>rfl) rfl];omega) rfl (wBo (n:=4) rfl (wIw (sz:=1) (fo:=0) (fun _=>rfl) _ _ _ _ gM (zB rfl) rfl)) rfl ?_
          intro cz fS
          have fT:St bv bQ [.blk ah 99 ([.slice ai p1.Bout.Shots.length aj,.slice ak p1.Bout.Down.length ap,.slice am p1.Bout.Across.length aq,.map (some ae)] ++ ((hH KL.encI (az.1.set (ab * 8 + aT.toNat) (w64 ((az.1.get (ab * 8 + aT.toNat)) - 1))).l) ++ ((hH KL.encI az.2.1.l) ++ (hH KL.encT az.2.2.l)))),.obj ae (.map au av),.obj bA bG,.blk aW 3 B2,B1,B0,mks aX] cz:=fS
          refine eN (zF (CK.fresh fun cn bN=>?_))
          have eK:cn 1=.pointer (some ⟨bi,0,none⟩):=(bN 1).trans cH
          have eL:cn 3=.pointer (some ⟨b6,0,none⟩):=(bN 3).trans du
          have eM:cn 4=.pointer (some ⟨bj,0,none⟩):=(bN 4).trans eJ
          have eO:cn 5=.pointer (some ⟨aW,0,none⟩):=(bN 5).trans cI
          clear bN
          refine ZJ ZK [1,1,1,3,3,3,3,1,3,3,3,3,3,0] (wJV (.fx 13 .nil .stop)) (by kernel_rfl) ?_
          have bE:=fT.drew
          generalize hw_W412:({ cz with drawn:=cz.drawn + 1 }:World)=iE at bE ⊢
          refine oL Z (bE.ldC (f:=0) dD (v:=.pointer (some ⟨ah,0,none⟩)) Z eK zz Z) (oL Z (bE.ldB (j:=3) Z Z eO zJ (v:=jV (↑ab:Int)) Z) (oL Z (bE.ldB (j:=5) Z Z eL zJ (v:=jV p0) Z) (oR Z (zi Z Z) (oR Z (zI Z Z zN Z Try.sizeOf95) (oR Z (ZP Z Z Z Zd Zg (wAq aR) (wAr aR)) (oR Z (ZP Z Z Z ZQ zC (wAq be) (wAr be)) ?_))))))
          have gN:=Arr.at_ (az.1.set (ab * 8 + aT.toNat) (w64 ((az.1.get (ab * 8 + aT.toNat)) - 1))) (k:=(ab * 8 + p0.toNat)) (by have hz0:=wAI aR;have hz1:=wAI be;omega)
          refine zm rfl rfl rfl rfl (bE.ldB (j:=0) rfl rfl ((rfl:ev _ _=.pointer (some ⟨ah,4 + ab * 8 + p0.toNat * 1,none⟩)).trans (wCw (by omega))) zJ (wCv (n:=4) rfl (wGY (sz:=1) (fun _=>rfl) _ _ 0 _ gN rfl))) rfl (zL rfl rfl rfl rfl (fun _=>zW rfl rfl rfl) (zL rfl rfl rfl rfl (fun _=>zi rfl rfl) (zL rfl rfl rfl rfl (fun _=>zI rfl rfl zN rfl Try.sizeOf95) (zL rfl rfl rfl rfl (fun _=>ZP rfl rfl rfl Zd Zg (wAq aR) (wAr aR)) (zL rfl rfl rfl rfl (fun _=>ZP rfl rfl rfl ZQ zC (wAq be) (wAr be)) ?_)))))
          have gO:=Arr.at_ (az.1.set (ab * 8 + aT.toNat) (w64 ((az.1.get (ab * 8 + aT.toNat)) - 1))) (k:=(ab * 8 + p0.toNat)) (by have hz0:=wAI aR;have hz1:=wAI be;omega)
          refine ZA (j:=0) (vs:=[jV (w64 (((az.1.set (ab * 8 + aT.toNat) (w64 ((az.1.get (ab * 8 + aT.toNat)) - 1))).get (ab * 8 + p0.toNat)) + 1))]) (cs':=[.slice ai p1.Bout.Shots.length aj,.slice ak p1.Bout.Down.length ap,.slice am p1.Bout.Across.length aq,.map (some ae)] ++ ((hH KL.encI ((az.1.set (ab * 8 + aT.toNat) (w64 ((az.1.get (ab * 8 + aT.toNat)) - 1))).set (ab * 8 + p0.toNat) (w64 (((az.1.set (ab * 8 + aT.toNat) (w64 ((az.1.get (ab * 8 + aT.toNat)) - 1))).get (ab * 8 + p0.toNat)) + 1))).l) ++ ((hH KL.encI az.2.1.l) ++ (hH KL.encT az.2.2.l)))) rfl rfl rfl rfl bE rfl ((rfl:ev _ _=.pointer (some ⟨ah,4 + ab * 8 + p0.toNat * 1,none⟩)).trans (wCw (by omega))) rfl rfl zC (by have hz0:=wAI aR;have hz1:=wAI be;simp only [nM,nO,nQ,wAN (f:=KL.encI) (sz:=1) (N:=64) (az.1.set (ab * 8 + aT.toNat) (w64 ((az.1.get (ab * 8 + aT.toNat)) - 1))) (fun _=>rfl) rfl,wAN (f:=KL.encI) (sz:=1) (N:=8) az.2.1 (fun _=>rfl) rfl,wAN (f:=KL.encT) (sz:=1) (N:=16) az.2.2 (fun _=>rfl) rfl];omega) rfl (wBo (n:=4) rfl (wIw (sz:=1) (fo:=0) (fun _=>rfl) _ _ _ _ gO (zB rfl) rfl)) rfl ?_
          intro ej fU
          have fV:St bv bQ [.blk ah 99 ([.slice ai p1.Bout.Shots.length aj,.slice ak p1.Bout.Down.length ap,.slice am p1.Bout.Across.length aq,.map (some ae)] ++ ((hH KL.encI ((az.1.set (ab * 8 + aT.toNat) (w64 ((az.1.get (ab * 8 + aT.toNat)) - 1))).set (ab * 8 + p0.toNat) (w64 (((az.1.set (ab * 8 + aT.toNat) (w64 ((az.1.get (ab * 8 + aT.toNat)) - 1))).get (ab * 8 + p0.toNat)) + 1))).l) ++ ((hH KL.encI az.2.1.l) ++ (hH KL.encT az.2.2.l)))),.obj ae (.map au av),.obj bA bG,.blk aW 3 B2,B1,B0,mks aX] ej:=fU
          refine eN (sR (.fx 0 .nil .stop) Z (ZA (j:=4) (vs:=[.bool true]) Z Z Z Z fV Z eM Z Z Zj (zB Z) Z Z Z ?_))
          intro en fW
          have fY:St bv bQ [.blk ah 99 ([.slice ai p1.Bout.Shots.length aj,.slice ak p1.Bout.Down.length ap,.slice am p1.Bout.Across.length aq,.map (some ae)] ++ ((hH KL.encI ((az.1.set (ab * 8 + aT.toNat) (w64 ((az.1.get (ab * 8 + aT.toNat)) - 1))).set (ab * 8 + p0.toNat) (w64 (((az.1.set (ab * 8 + aT.toNat) (w64 ((az.1.get (ab * 8 + aT.toNat)) - 1))).get (ab * 8 + p0.toNat)) + 1))).l) ++ ((hH KL.encI az.2.1.l) ++ (hH KL.encT az.2.2.l)))),.obj ae (.map au av),.obj bA bG,.blk aW 3 B2,.blk bj 4 [.bool true],B0,mks aX] en:=fW
          refine eN (zQ (zd ?_))
          have q:=nD g7
          obtain rfl:=q
          exact ⟨_,_,(fY.pick [2,0,1,3,4,5,6] _ (by decide) rfl),rfl,rfl⟩
         ·intro cD g8
          refine zn (congrArg nA (nB.2 cD.out)) (ZR (zf ?_))
          have q:=nD g8
          obtain rfl:=q
          exact ⟨_,_,(dI.pick [2,0,1,3,4,5,6] _ (by decide) rfl),rfl,rfl⟩
        ·intro bn g9
         refine oF Z bn (oF Z bn (Zb Z Z Z (zU Z Z (zr bn.out) Z) (oR Z (zj Z (zr bn.out) Z) (eN (zn Z (ZR (zf ?_)))))))
         have q:=nD g9
         obtain rfl:=q
         exact ⟨_,_,bo,Z,Z⟩
      ·rintro bH bw iy bS im dJ
       rcases dZ with ⟨d7,d8,d9⟩ | ⟨cf,cg,ci,eb⟩
       ·try dsimp only at b9
        rintro rfl
        have fZ:SW w [.blk ah 99 ([.slice ai p1.Bout.Shots.length aj,.slice ak p1.Bout.Down.length ap,.slice am p1.Bout.Across.length aq,.map (some ae)] ++ ((hH KL.encI p1.hits.l) ++ ((hH KL.encI p1.used.l) ++ (hH KL.encT p1.met.l)))),.obj ae (.map au av)] U bw [.blk ah 99 ([.slice ai p1.Bout.Shots.length aj,.slice ak p1.Bout.Down.length ap,.slice am p1.Bout.Across.length aq,.map (some ae)] ++ ((hH KL.encI d7.l) ++ ((hH KL.encI d8.l) ++ (hH KL.encT d9.l)))),.obj ae (.map au av),.blk aW 3 B2,B1,B0,mks aX,.obj bH (.deferred (some []))] bS:=dJ
        have ga:SW w [.blk ah 99 ([.slice ai p1.Bout.Shots.length aj,.slice ak p1.Bout.Down.length ap,.slice am p1.Bout.Across.length aq,.map (some ae)] ++ ((hH KL.encI p1.hits.l) ++ ((hH KL.encI p1.used.l) ++ (hH KL.encT p1.met.l)))),.obj ae (.map au av)] U bw [mks (bH :: aX),.blk ah 99 ([.slice ai p1.Bout.Shots.length aj,.slice ak p1.Bout.Down.length ap,.slice am p1.Bout.Across.length aq,.map (some ae)] ++ ((hH KL.encI d7.l) ++ ((hH KL.encI d8.l) ++ (hH KL.encT d9.l)))),.obj ae (.map au av),.blk aW 3 B2,B1,B0] bS:=(fZ.pick [5,6,0,1,2,3,4] _ (by decide) rfl).mksAdd
        refine zf (zf (zH (rR fL2 Z (oR Z (zu (zW Z dt Z) (congrArg (jV) cO.out)) (oM Z Z (zo ?_))))))
        have q:=nD b9
        obtain rfl:=q
        exact zH ⟨_,rfl,⟨bw,(bH :: aX),rfl,rfl,dm,dp,dq,cG,dr,(((bu.trans bB).trans bF).trans im),(ga.pick [4,5,0,1,2] _ (by decide) rfl)⟩⟩
       ·try dsimp only at b9
        rintro rfl
        let B4:Res:=.blk bj 4 [.bool eb]
        have gb:SW w [.blk ah 99 ([.slice ai p1.Bout.Shots.length aj,.slice ak p1.Bout.Down.length ap,.slice am p1.Bout.Across.length aq,.map (some ae)] ++ ((hH KL.encI p1.hits.l) ++ ((hH KL.encI p1.used.l) ++ (hH KL.encT p1.met.l)))),.obj ae (.map au av)] U bw [.blk ah 99 ([.slice ai p1.Bout.Shots.length aj,.slice ak p1.Bout.Down.length ap,.slice am p1.Bout.Across.length aq,.map (some ae)] ++ ((hH KL.encI cf.l) ++ ((hH KL.encI cg.l) ++ (hH KL.encT ci.l)))),.obj ae (.map au av),.blk aW 3 B2,B4,B0,mks aX,.obj bH (.deferred (some []))] bS:=dJ
        have gc:SW w [.blk ah 99 ([.slice ai p1.Bout.Shots.length aj,.slice ak p1.Bout.Down.length ap,.slice am p1.Bout.Across.length aq,.map (some ae)] ++ ((hH KL.encI p1.hits.l) ++ ((hH KL.encI p1.used.l) ++ (hH KL.encT p1.met.l)))),.obj ae (.map au av)] U bw [mks (bH :: aX),.blk ah 99 ([.slice ai p1.Bout.Shots.length aj,.slice ak p1.Bout.Down.length ap,.slice am p1.Bout.Across.length aq,.map (some ae)] ++ ((hH KL.encI cf.l) ++ ((hH KL.encI cg.l) ++ (hH KL.encT ci.l)))),.obj ae (.map au av),.blk aW 3 B2,B4,B0] bS:=(gb.pick [5,6,0,1,2,3,4] _ (by decide) rfl).mksAdd
        refine zd (zd (zO ?_))
        have q:=wAo b9
        obtain ⟨iq,ib,eD⟩:=q
        have q:=wBz b5 bX (dR iq eD)
        obtain rfl:=q
        refine zO (zd (zO (wDv (by first | exact .inl rfl | exact .inr rfl) (rbs:=(bH :: aX)) (L:=[.blk ah 99 ([.slice ai p1.Bout.Shots.length aj,.slice ak p1.Bout.Down.length ap,.slice am p1.Bout.Across.length aq,.map (some ae)] ++ ((hH KL.encI cf.l) ++ ((hH KL.encI cg.l) ++ (hH KL.encT ci.l)))),.obj ae (.map au av),.blk aW 3 B2,B4,B0]) gc fun eu ge=>?_)))
        have dK:SW w [.blk ah 99 ([.slice ai p1.Bout.Shots.length aj,.slice ak p1.Bout.Down.length ap,.slice am p1.Bout.Across.length aq,.map (some ae)] ++ ((hH KL.encI p1.hits.l) ++ ((hH KL.encI p1.used.l) ++ (hH KL.encT p1.met.l)))),.obj ae (.map au av)] U bw [.blk ah 99 ([.slice ai p1.Bout.Shots.length aj,.slice ak p1.Bout.Down.length ap,.slice am p1.Bout.Across.length aq,.map (some ae)] ++ ((hH KL.encI cf.l) ++ ((hH KL.encI cg.l) ++ (hH KL.encT ci.l)))),.obj ae (.map au av),.blk aW 3 B2,B4,B0] eu:=ge
        cases ib
        exact ⟨_,(wKH (v:=.bool eb) ⟨⟨_,cG,(wNf Try.isAgg4 (dK.blkAt (k:=3) rfl) rfl)⟩,trivial⟩),bw,_,(dK.pick [0,1] _ (by decide) rfl),rfl,rfl⟩
    ·intro cE ic
     refine zt (nF (cE.out)) (ZN (zg (ZB (zH (rR fL2 Z (oR Z (zu (zW Z bJ Z) (congrArg (jV) cO.out)) (oM Z Z (zo ?_))))))))
     have q:=nD ic
     obtain rfl:=q
     exact zH ⟨_,rfl,⟨bm,aX,rfl,rfl,bk,cJ,bI,bT,bU,(bu.trans bB),(dM.pick [3,4,5,0,1] _ (by decide) rfl)⟩⟩
  ·rintro ⟨cS,cU,cV⟩ D_ i8 iG ⟨cq,dY,rfl,eQ,iN,iO,iP,dw,eP,iR,gf⟩ gB
   have dW:=wDh b5 bX gB
   try dsimp only at dW
   have eA:Hid (¬ ((↑(((↑p1.Bout.Shots.length:Int):Int) - 0).toNat:Int) < (↑p1.Bout.Shots.length:Int))):=zG (wBD)
   refine sR fL1 Z (oR Z (zX Z eQ eP) (eN (zF (cF Z eA (ZN (zg (zg (ZB (zH (sR (.fx 0 .nil .stop) Z (ZA (j:=0) (vs:=[.bool false]) Z Z Z Z gf Z dw Z Z Zj (zB Z) Z Z Z ?_)))))))))))
   intro ey gg
   have gh:SW w [.blk ah 99 ([.slice ai p1.Bout.Shots.length aj,.slice ak p1.Bout.Down.length ap,.slice am p1.Bout.Across.length aq,.map (some ae)] ++ ((hH KL.encI p1.hits.l) ++ ((hH KL.encI p1.used.l) ++ (hH KL.encT p1.met.l)))),.obj ae (.map au av)] U cq [B1,B0,mks dY,.blk ah 99 ([.slice ai p1.Bout.Shots.length aj,.slice ak p1.Bout.Down.length ap,.slice am p1.Bout.Across.length aq,.map (some ae)] ++ ((hH KL.encI cS.l) ++ ((hH KL.encI cU.l) ++ (hH KL.encT cV.l)))),.obj ae (.map au av)] ey:=gg
   refine eN (zQ (wDv (by first | exact .inl rfl | exact .inr rfl) (rbs:=dY) (L:=[B1,B0,.blk ah 99 ([.slice ai p1.Bout.Shots.length aj,.slice ak p1.Bout.Down.length ap,.slice am p1.Bout.Across.length aq,.map (some ae)] ++ ((hH KL.encI cS.l) ++ ((hH KL.encI cU.l) ++ (hH KL.encT cV.l)))),.obj ae (.map au av)]) (gh.pick [2,0,1,3,4] _ (by decide) rfl) fun ez gi=>?_))
   have dL:SW w [.blk ah 99 ([.slice ai p1.Bout.Shots.length aj,.slice ak p1.Bout.Down.length ap,.slice am p1.Bout.Across.length aq,.map (some ae)] ++ ((hH KL.encI p1.hits.l) ++ ((hH KL.encI p1.used.l) ++ (hH KL.encT p1.met.l)))),.obj ae (.map au av)] U cq [B1,B0,.blk ah 99 ([.slice ai p1.Bout.Shots.length aj,.slice ak p1.Bout.Down.length ap,.slice am p1.Bout.Across.length aq,.map (some ae)] ++ ((hH KL.encI cS.l) ++ ((hH KL.encI cU.l) ++ (hH KL.encT cV.l)))),.obj ae (.map au av)] ez:=gi
   cases dW
   exact ⟨_,(wKH (v:=.bool false) ⟨⟨_,dw,(wNf Try.isAgg4 (dL.blkAt (k:=0) rfl) rfl)⟩,trivial⟩),cq,_,(dL.pick [2,3] _ (by decide) rfl),rfl,rfl⟩
end Go.Proofs.Ytfcmijinklojbaa
namespace Go.Proofs.Ytfcmijinklojbaa
open Go.KL
set_option maxHeartbeats 4000000
theorem wEA (p0:wAE) (ah:Nat) (ak:Option Addr) (ap:Nat) (ai:Option Addr) (aj:Nat) (am:Option Addr) (aq:Nat) (ab:Nat) (au:Array MapEntry) (av:Nat) (w:World) (U:PHeap) (hS:St0 w U [.blk ah 99 ([.slice ak p0.Bout.Shots.length ap,.slice ai p0.Bout.Down.length aj,.slice am p0.Bout.Across.length aq,.map (some ab)] ++ ((hH KL.encI p0.hits.l) ++ ((hH KL.encI p0.used.l) ++ (hH KL.encT p0.met.l)))),.obj ab (.map au av)]) (bR:Sl U 1 ak ap p0.Bout.Shots.length (hH KL.encI p0.Bout.Shots)) (bS:Sl U 1 ai aj p0.Bout.Down.length (hH KL.encI p0.Bout.Down)) (bT:Sl U 2 am aq p0.Bout.Across.length (hH wAB p0.Bout.Across)) (bU:MpR au wGM wGk p0.may) {r:(List Int)} (hm:wAn p0=some r):Gv Try.prog 85 [.pointer (some ⟨ah,0,none⟩)] w (wCp w [.blk ah 99 ([.slice ak p0.Bout.Shots.length ap,.slice ai p0.Bout.Down.length aj,.slice am p0.Bout.Across.length aq,.map (some ab)] ++ ((hH KL.encI p0.hits.l) ++ ((hH KL.encI p0.used.l) ++ (hH KL.encT p0.met.l)))),.obj ab (.map au av)] U (fun U_ L_ v=>∃ (A0:Option Addr) (c0:Nat),v=.slice A0 r.length c0/\L_=[.row A0 c0 3 1 (hH KL.encI r),.blk ah 99 ([.slice ak p0.Bout.Shots.length ap,.slice ai p0.Bout.Down.length aj,.slice am p0.Bout.Across.length aq,.map (some ab)] ++ ((hH KL.encI p0.hits.l) ++ ((hH KL.encI p0.used.l) ++ (hH KL.encT p0.met.l)))),.obj ab (.map au av)])):=by
 unfold wAn at hm
 refine Gv.of Try.func85 Z Try.ntmps85 Try.results85 Z (sR fL1 Z (oA Z Z (eN (sR fL1 Z (oA Z Z (eN (zF (sR fL7 Z (oM Z Z (oR Z (zi Z Z) (oR Z (zI Z Z zN Z zZ) (oR Z (zI Z Z zE Z zY) (oL Z (hS.ldB (j:=0) Z Z Z zl (v:=.slice ai p0.Bout.Down.length aj) Z) (oR Z (ZC Z Z zA) (oM Z Z (eN (zV (bnK hm fun bX bF bI=>?_))))))))))))))))))
 have q:=wBf bF
 obtain ⟨ba,bG⟩:=q
 replace ba:=zG ba
 refine CK.forN' (fun ae aR σ_ w_=>∃ (U_:PHeap) (az:Option Addr) (aQ:Nat),σ_ 11=jV (↑ae:Int)/\σ_ 0=.pointer (some ⟨ah,0,none⟩)/\σ_ 3=.slice az aR.length aQ/\σ_ 10=jV (↑p0.Bout.Down.length:Int)/\PHeap.Le U U_/\SW w [.blk ah 99 ([.slice ak p0.Bout.Shots.length ap,.slice ai p0.Bout.Down.length aj,.slice am p0.Bout.Across.length aq,.map (some ab)] ++ ((hH KL.encI p0.hits.l) ++ ((hH KL.encI p0.used.l) ++ (hH KL.encT p0.met.l)))),.obj ab (.map au av)] U U_ [.blk ah 99 ([.slice ak p0.Bout.Shots.length ap,.slice ai p0.Bout.Down.length aj,.slice am p0.Bout.Across.length aq,.map (some ab)] ++ ((hH KL.encI p0.hits.l) ++ ((hH KL.encI p0.used.l) ++ (hH KL.encT p0.met.l)))),.obj ab (.map au av),.row az aQ 3 1 (hH KL.encI aR)] w_) bG ?_ ?_ ?_
 have bA:=hS.nilrow 3 1
 exact ⟨U,none,0,rfl,rfl,rfl,rfl,(ze _),(bA.pick [1,2,0] _ (by decide) rfl)⟩
 rintro ae aR bW bY bO aZ ⟨aS,az,aQ,aT,aV,bj,aW,bm,aY⟩ bN
 have bh:Hid ((↑ae:Int) < (↑p0.Bout.Down.length:Int)):=zG (wBe aZ)
 replace aZ:=zG aZ
 have bl:Hid (w64 ((↑ae:Int) + 1)=(↑(ae + 1):Int)):=zG (by have h1:=ba.out;have h2:=bh.out;rw [wAd] <;> omega)
 refine sR fL1 rfl (zL rfl rfl rfl rfl (fun _=>zX rfl aT aW) (eN (zF (cT Z bh (kN (zF (zV (sR fL2 rfl (zh rfl rfl rfl rfl rfl aT (OKS.ra rfl rfl rfl rfl rfl rfl (eN (sR fL7 rfl (zh rfl rfl rfl rfl rfl aV (zh rfl rfl rfl rfl rfl rfl (zL rfl rfl rfl rfl (fun _=>zi rfl rfl) (zL rfl rfl rfl rfl (fun _=>zI rfl rfl zN rfl Try.sizeOf97) (zL rfl rfl rfl rfl (fun _=>zu (ZP rfl rfl rfl Try.runUnderlying97 Try.sizeOf96 (by decide) (by decide)) rfl) (bnK bN fun _ aX bJ=>zL rfl rfl rfl rfl (fun _=>ZP rfl rfl rfl Try.runUnderlying96 Zj (wAq aX) (wAr aX)) ?_))))))))))))))))))
 have bH:=Arr.at_ p0.met (k:=(8 + ae)) (by have hz0:=wAI aX;omega)
 refine zm rfl rfl rfl rfl (aY.ldB (j:=0) rfl rfl ((rfl:ev _ _=.pointer (some ⟨ah,84 + ae * 1,none⟩)).trans (wCw (by omega))) Try.isAgg4 (wCv (n:=4) rfl (wCv (n:=64) (wAN (f:=KL.encI) (sz:=1) (N:=64) p0.hits (fun _=>rfl) rfl) (wCv (n:=8) (wAN (f:=KL.encI) (sz:=1) (N:=8) p0.used (fun _=>rfl) rfl) (wPG (sz:=1) (fun _=>rfl) _ _ 0 _ bH rfl))))) rfl (eN (ifc bJ ?_ ?_))
 intro aU bK
 refine zt (congrArg nA aU.out) (rR gAx Z (oM Z bj (oM Z Z (Za (pv:=[(0,jV (↑ae:Int))]) (zs:=[jV 0]) (cs:=[jV (↑ae:Int)]) Z Z Z Z Z (wAJ Z wAl) zA zC Zi Z Z Z Z Z aY ?_))))
 intro bp br bB
 let B0:Res:=.row (some ⟨br,0,none⟩) 1 3 1 (hH KL.encI [(↑ae:Int)])
 have bk:SW w [.blk ah 99 ([.slice ak p0.Bout.Shots.length ap,.slice ai p0.Bout.Down.length aj,.slice am p0.Bout.Across.length aq,.map (some ab)] ++ ((hH KL.encI p0.hits.l) ++ ((hH KL.encI p0.used.l) ++ (hH KL.encT p0.met.l)))),.obj ab (.map au av)] U aS [B0,.blk ah 99 ([.slice ak p0.Bout.Shots.length ap,.slice ai p0.Bout.Down.length aj,.slice am p0.Bout.Across.length aq,.map (some ab)] ++ ((hH KL.encI p0.hits.l) ++ ((hH KL.encI p0.used.l) ++ (hH KL.encT p0.met.l)))),.obj ab (.map au av),.row az aQ 3 1 (hH KL.encI aR)] bp:=bB
 refine bnK bK fun x53 bz bL=>OKS.append (j:=3) (enc:=KL.encI) (xs:=aR) (ys:=[(↑ae:Int)]) (zs:=x53) rfl rfl rfl rfl rfl Try.underlying23 wDz rfl rfl rfl rfl rfl rfl bk rfl rfl rfl (bk.srcR (j:=0) rfl (by decide) (wAF (f:=KL.encI) (sz:=1) (fun _=>rfl) [(↑ae:Int)])) (fun _=>rfl) (fun _=>rfl) bz rfl ?_
 intro be bi bq bC
 have bD:SW w [.blk ah 99 ([.slice ak p0.Bout.Shots.length ap,.slice ai p0.Bout.Down.length aj,.slice am p0.Bout.Across.length aq,.map (some ab)] ++ ((hH KL.encI p0.hits.l) ++ ((hH KL.encI p0.used.l) ++ (hH KL.encT p0.met.l)))),.obj ab (.map au av)] U aS [B0,.blk ah 99 ([.slice ak p0.Bout.Shots.length ap,.slice ai p0.Bout.Down.length aj,.slice am p0.Bout.Across.length aq,.map (some ab)] ++ ((hH KL.encI p0.hits.l) ++ ((hH KL.encI p0.used.l) ++ (hH KL.encT p0.met.l)))),.obj ab (.map au av),.row be bi 3 1 (hH KL.encI x53)] bq:=bC
 refine oA Z Z (zo (zf (zH (rR fL2 Z (oR Z (zu (zW Z aT Z) (congrArg (jV) bl.out)) (oM Z Z (zo ?_)))))))
 cases bL
 exact zH ⟨rfl,⟨aS,be,bi,rfl,aV,rfl,aW,bm,(bD.pick [1,2,3] _ (by decide) rfl)⟩⟩
 intro aU bM
 refine zn (congrArg nA (nB.2 aU.out)) (ZR (zf (zH (rR fL2 Z (oR Z (zu (zW Z aT Z) (congrArg (jV) bl.out)) (oM Z Z (zo ?_)))))))
 cases bM
 exact zH ⟨Z,⟨aS,az,aQ,Z,aV,bj,aW,bm,aY⟩⟩
 rintro bZ bP ⟨bo,bn,bs,bw,bQ,bu,bv,bV,bE⟩
 have bt:Hid (¬ ((↑(((↑p0.Bout.Down.length:Int):Int) - 0).toNat:Int) < (↑p0.Bout.Down.length:Int))):=zG (wBD)
 refine sR fL1 Z (oR Z (zX Z bw bv) (eN (zF (cF Z bt (ZN (zg (zg (ZB (zH (sR fL2 Z (oM Z bu (oA Z Z (eN (zQ ?_))))))))))))))
 have hE:=nD bI;first | subst r | cases hE
 exact ⟨rfl,_,(zy rfl),bo,_,(bE.pick [2,0,1] _ (by decide) rfl),bn,bs,rfl,rfl⟩
theorem wBg (p0:wAE) (ah:Nat) (aj:Option Addr) (am:Nat) (ae:Option Addr) (ai:Nat) (ak:Option Addr) (ap:Nat) (ab:Nat) (aq:Array MapEntry) (au:Nat) (w:World) (U:PHeap) (hS:St0 w U [.blk ah 99 ([.slice aj p0.Bout.Shots.length am,.slice ae p0.Bout.Down.length ai,.slice ak p0.Bout.Across.length ap,.map (some ab)] ++ ((hH KL.encI p0.hits.l) ++ ((hH KL.encI p0.used.l) ++ (hH KL.encT p0.met.l)))),.obj ab (.map aq au)]) (dJ:Sl U 1 aj am p0.Bout.Shots.length (hH KL.encI p0.Bout.Shots)) (dK:Sl U 1 ae ai p0.Bout.Down.length (hH KL.encI p0.Bout.Down)) (dL:Sl U 2 ak ap p0.Bout.Across.length (hH wAB p0.Bout.Across)) (cg:MpR aq wGM wGk p0.may) {r:(List Int) × (Arr Int 64 × Arr Int 8 × Arr Bool 16)} (hm:wAO p0=some r):Gv Try.prog 46 [.pointer (some ⟨ah,0,none⟩)] w (wCp w [.blk ah 99 ([.slice aj p0.Bout.Shots.length am,.slice ae p0.Bout.Down.length ai,.slice ak p0.Bout.Across.length ap,.map (some ab)] ++ ((hH KL.encI p0.hits.l) ++ ((hH KL.encI p0.used.l) ++ (hH KL.encT p0.met.l)))),.obj ab (.map aq au)] U (fun U_ L_ v=>∃ (A0:Option Addr) (c0:Nat),v=.slice A0 r.1.length c0/\L_=[.row A0 c0 3 1 (hH KL.encI r.1),.blk ah 99 ([.slice aj p0.Bout.Shots.length am,.slice ae p0.Bout.Down.length ai,.slice ak p0.Bout.Across.length ap,.map (some ab)] ++ ((hH KL.encI r.2.1.l) ++ ((hH KL.encI r.2.2.1.l) ++ (hH KL.encT r.2.2.2.l)))),.obj ab (.map aq au)]/\(r.1=[]->A0=none))):=by
 unfold wAO at hm
 refine Gv.of Try.func46 Z Try.ntmps46 Try.results46 Z (sR gAh Z ?_)
 let B0:List Value:=[.pointer (some ⟨ah,0,none⟩)]
 refine ZX (cs:=B0) rfl rfl rfl rfl rfl rfl (by rfl) hS ?_
 intro W3 b4 dI
 have q:=dI.freeze (k:=0) rfl
 obtain ⟨U7,bz,aU,du⟩:=q
 replace aU:=Cl.of aU
 have dw:SW w [.blk ah 99 ([.slice aj p0.Bout.Shots.length am,.slice ae p0.Bout.Down.length ai,.slice ak p0.Bout.Across.length ap,.map (some ab)] ++ ((hH KL.encI p0.hits.l) ++ ((hH KL.encI p0.used.l) ++ (hH KL.encT p0.met.l)))),.obj ab (.map aq au)] U U7 [.blk ah 99 ([.slice aj p0.Bout.Shots.length am,.slice ae p0.Bout.Down.length ai,.slice ak p0.Bout.Across.length ap,.map (some ab)] ++ ((hH KL.encI p0.hits.l) ++ ((hH KL.encI p0.used.l) ++ (hH KL.encT p0.met.l)))),.obj ab (.map aq au)] W3:=du
 replace aU:Cl U7 b4 0 B0:=aU
 refine oA Z Z (eN (sR (.fx 0 .nil .stop) Z (ZL (cs:=[.nilFunc]) Z Z Z Z Z Try.zeroValue74 Z dw ?_)))
 intro ef aS dz
 refine eN (sR gAk Z (oR Z (Runs.mkf Z zS (zD Z (zD Z zS))) ?_))
 let B1:List Value:=[.func (.func 84) #[] #[.pointer (some ⟨b4,0,none⟩),.pointer (some ⟨aS,0,none⟩)]]
 refine ZA (j:=0) (vs:=B1) Z Z Z Z dz Z Z Z Z Try.sizeOf74 (zB Z) Z Z Z ?_
 intro bH dC
 have bp:SW w [.blk ah 99 ([.slice aj p0.Bout.Shots.length am,.slice ae p0.Bout.Down.length ai,.slice ak p0.Bout.Across.length ap,.map (some ab)] ++ ((hH KL.encI p0.hits.l) ++ ((hH KL.encI p0.used.l) ++ (hH KL.encT p0.met.l)))),.obj ab (.map aq au)] U U7 [.blk aS 74 B1,.blk ah 99 ([.slice aj p0.Bout.Shots.length am,.slice ae p0.Bout.Down.length ai,.slice ak p0.Bout.Across.length ap,.map (some ab)] ++ ((hH KL.encI p0.hits.l) ++ ((hH KL.encI p0.used.l) ++ (hH KL.encT p0.met.l)))),.obj ab (.map aq au)] bH:=dC
 refine eN (zF (sR fL7 Z (oL Z (bp.ldC (f:=0) aU (v:=.pointer (some ⟨ah,0,none⟩)) Z Z zz Z) (oR Z (zi Z Z) (oR Z (zI Z Z zN Z zZ) (oR Z (zI Z Z zE Z zY) (oL Z (bp.ldB (j:=1) Z Z Z zl (v:=.slice ae p0.Bout.Down.length ai) Z) (oR Z (ZC Z Z zA) (oM Z Z (eN (zV ?_)))))))))))
 have q:=bp.freeze (k:=0) rfl
 obtain ⟨bb,bg,aX,dG⟩:=q
 replace aX:=Cl.of aX
 have dH:SW w [.blk ah 99 ([.slice aj p0.Bout.Shots.length am,.slice ae p0.Bout.Down.length ai,.slice ak p0.Bout.Across.length ap,.map (some ab)] ++ ((hH KL.encI p0.hits.l) ++ ((hH KL.encI p0.used.l) ++ (hH KL.encT p0.met.l)))),.obj ab (.map aq au)] U bb [.blk ah 99 ([.slice aj p0.Bout.Shots.length am,.slice ae p0.Bout.Down.length ai,.slice ak p0.Bout.Across.length ap,.map (some ab)] ++ ((hH KL.encI p0.hits.l) ++ ((hH KL.encI p0.used.l) ++ (hH KL.encT p0.met.l)))),.obj ab (.map aq au)] bH:=dG
 replace aX:Cl bb aS 0 B1:=aX
 have q:=wCj hm
 obtain ⟨eF,bq⟩:=q
 have q:=wCi bq
 obtain ⟨bu,dQ⟩:=q
 replace bu:=zG bu
 refine CK.forN (fun az (bI,bJ,bK) σ_ w_=>∃ (U_:PHeap),σ_ 13=jV (↑az:Int)/\σ_ 1=.pointer (some ⟨b4,0,none⟩)/\σ_ 3=.pointer (some ⟨aS,0,none⟩)/\σ_ 11=.slice ae p0.Bout.Down.length ai/\σ_ 12=jV (↑p0.Bout.Down.length:Int)/\PHeap.Le bb U_/\SW w [.blk ah 99 ([.slice aj p0.Bout.Shots.length am,.slice ae p0.Bout.Down.length ai,.slice ak p0.Bout.Across.length ap,.map (some ab)] ++ ((hH KL.encI p0.hits.l) ++ ((hH KL.encI p0.used.l) ++ (hH KL.encT p0.met.l)))),.obj ab (.map aq au)] U U_ [.blk ah 99 ([.slice aj p0.Bout.Shots.length am,.slice ae p0.Bout.Down.length ai,.slice ak p0.Bout.Across.length ap,.map (some ab)] ++ ((hH KL.encI bI.l) ++ ((hH KL.encI bJ.l) ++ (hH KL.encT bK.l)))),.obj ab (.map aq au)] w_) dQ ?_ ?_ ?_
 exact ⟨bb,Z,Z,Z,Z,Z,(ze _),dH⟩
 rintro az ⟨bI,bJ,bK⟩ eL eW ei bs ⟨bD,bf,cN,cO,bS,bT,aV,cd⟩ cp dO
 try dsimp only at cp
 have bO:Hid ((↑az:Int) < (↑p0.Bout.Down.length:Int)):=zG (wBe bs)
 replace bs:=zG bs
 have dT:Hid (w64 ((↑az:Int) + 1)=(↑(az + 1):Int)):=zG (by have h1:=bu.out;have h2:=bO.out;rw [wAd] <;> omega)
 refine sR fL1 Z (oR Z (zX Z bf bT) (eN (zF (cT Z bO (kN (zF (zV (sR fL5 Z (oM Z bf (bnK cp fun ba bZ bw=>?_))))))))))
 have dp:=dK.le bz
 have dq:=dp.le bg
 have b5:=dq.le aV
 have q:=b5.el (fun _=>rfl) (wBU bZ)
 obtain ⟨en,eE,dr,dt⟩:=q
 refine oR Z (ZG Z bS dr bf zA zC (wCt bZ)) (oL Z (cd.ldC (f:=0) dt (v:=jV ba) Z Z zJ Z) (oA Z Z (oA Z Z (eN (sR fL2 Z (oM Z Z (oM Z Z (eN (zV ?_)))))))))
 have q:=wCj bw
 obtain ⟨eG,br⟩:=q
 have q:=wCi br
 obtain ⟨bv,dR⟩:=q
 replace bv:=zG bv
 refine CK.forN (fun aY (aQ,aR,be) σ_ w_=>∃ (U_:PHeap),σ_ 19=jV (↑aY:Int)/\σ_ 1=.pointer (some ⟨b4,0,none⟩)/\σ_ 3=.pointer (some ⟨aS,0,none⟩)/\σ_ 4=jV (↑az:Int)/\σ_ 11=.slice ae p0.Bout.Down.length ai/\σ_ 12=jV (↑p0.Bout.Down.length:Int)/\σ_ 13=jV (↑az:Int)/\σ_ 18=jV ba/\PHeap.Le bD U_/\SW w [.blk ah 99 ([.slice aj p0.Bout.Shots.length am,.slice ae p0.Bout.Down.length ai,.slice ak p0.Bout.Across.length ap,.map (some ab)] ++ ((hH KL.encI p0.hits.l) ++ ((hH KL.encI p0.used.l) ++ (hH KL.encT p0.met.l)))),.obj ab (.map aq au)] U U_ [.blk ah 99 ([.slice aj p0.Bout.Shots.length am,.slice ae p0.Bout.Down.length ai,.slice ak p0.Bout.Across.length ap,.map (some ab)] ++ ((hH KL.encI aQ.l) ++ ((hH KL.encI aR.l) ++ (hH KL.encT be.l)))),.obj ab (.map aq au)] w_) dR ?_ ?_ ?_
 exact ⟨bD,Z,cN,cO,Z,bS,bT,bf,Z,(ze _),cd⟩
 rintro aY ⟨aQ,aR,be⟩ eM eX ej bt ⟨bE,bU,bm,bP,bQ,cC,cD,cE,bR,aW,cf⟩ cq dP
 try dsimp only at cq
 have bM:Hid ((↑aY:Int) < ba):=zG (wBe bt)
 replace bt:=zG bt
 have dS:Hid (w64 ((↑aY:Int) + 1)=(↑(aY + 1):Int)):=zG (by have h1:=bv.out;have h2:=bM.out;rw [wAd] <;> omega)
 refine sR fL1 Z (oR Z (zX Z bU bR) (eN (zF (cT Z bM (kN (zF (zV (sR (wHT (.fx 4 .nil .stop)) Z ?_))))))))
 have cR:=aU.le bg
 have cS:=cR.le aV
 have bn:=cS.le aW
 refine zm rfl rfl rfl rfl (cf.ldC (f:=0) bn (v:=.pointer (some ⟨ah,0,none⟩)) rfl bm zz rfl) rfl (zL rfl rfl rfl rfl (fun _=>zi rfl rfl) (zL rfl rfl rfl rfl (fun _=>zI rfl rfl zN rfl Try.sizeOf97) (zL rfl rfl rfl rfl (fun _=>Runs.slA rfl rfl Try.runUnderlying97 Try.sizeOf96) (OKS.clearB (j:=0) (off:=76) (vs:=hH KL.encT (Arr.fill 16 false).l) (cs':=[.slice aj p0.Bout.Shots.length am,.slice ae p0.Bout.Down.length ai,.slice ak p0.Bout.Across.length ap,.map (some ab)] ++ ((hH KL.encI aQ.l) ++ ((hH KL.encI aR.l) ++ (hH KL.encT (Arr.fill 16 false).l)))) rfl rfl rfl rfl cf rfl rfl Try.runUnderlying139 Try.zeroValue96 (by kernel_rfl) (by simp only [nM,nO,nQ,wAN (f:=KL.encI) (sz:=1) (N:=64) aQ (fun _=>rfl) rfl,wAN (f:=KL.encI) (sz:=1) (N:=8) aR (fun _=>rfl) rfl,wAN (f:=KL.encT) (sz:=1) (N:=16) be (fun _=>rfl) rfl,wAN (f:=KL.encT) (sz:=1) (N:=16) (Arr.fill 16 false) (fun _=>rfl) rfl];omega) (wHd (fun _=>rfl) _) (wBo (n:=4) rfl (wBo (n:=64) (wAN (f:=KL.encI) (sz:=1) (N:=64) aQ (fun _=>rfl) rfl) (wBo (n:=8) (wAN (f:=KL.encI) (sz:=1) (N:=8) aR (fun _=>rfl) rfl) (wMU _ _ (by rw [wAN (f:=KL.encT) (sz:=1) (N:=16) (Arr.fill 16 false) (fun _=>rfl) rfl,wAN (f:=KL.encT) (sz:=1) (N:=16) be (fun _=>rfl) rfl]))))) rfl ?_))))
 intro bF dx
 have b9:SW w [.blk ah 99 ([.slice aj p0.Bout.Shots.length am,.slice ae p0.Bout.Down.length ai,.slice ak p0.Bout.Across.length ap,.map (some ab)] ++ ((hH KL.encI p0.hits.l) ++ ((hH KL.encI p0.used.l) ++ (hH KL.encT p0.met.l)))),.obj ab (.map aq au)] U bE [.blk ah 99 ([.slice aj p0.Bout.Shots.length am,.slice ae p0.Bout.Down.length ai,.slice ak p0.Bout.Across.length ap,.map (some ab)] ++ ((hH KL.encI aQ.l) ++ ((hH KL.encI aR.l) ++ (hH KL.encT (Arr.fill 16 false).l)))),.obj ab (.map aq au)] bF:=dx
 refine eN (sR gAu Z ?_)
 have cU:=aX.le aV
 have bV:=cU.le aW
 refine oL Z (b9.ldC (f:=0) bV (v:=.func (.func 84) #[] #[.pointer (some ⟨b4,0,none⟩),.pointer (some ⟨aS,0,none⟩)]) Z bP Try.isAgg74 Z) (oM Z bQ ?_)
 have cV:=dJ.le bz
 have cW:=cV.le bg
 have cX:=cW.le aV
 have bW:=cX.le aW
 have bX:=b5.le aW
 have cY:=dL.le bz
 have cZ:=cY.le bg
 have da:=cZ.le aV
 have bY:=da.le aW
 have q:=bnd cq
 obtain ⟨⟨eJ,av⟩,db,ci⟩:=q
 try dsimp only at ci
 refine zM 2 Z Z Z Z (zK Z Z Try.call84 (zD Z zS) Z) b9 (fun hs=>wDp 1000 (↑az:Int) (⟨p0.Bout,p0.may,aQ,aR,(Arr.fill 16 false)⟩:wAE) b4 ah aj am ae ai ak ap ab aq au () aS bF bE hs bn bW bX bY cg bV db) (.inl Z) ?_
 rintro bj ec eH bG aZ dy ⟨rfl,rfl⟩
 have bo:SW w [.blk ah 99 ([.slice aj p0.Bout.Shots.length am,.slice ae p0.Bout.Down.length ai,.slice ak p0.Bout.Across.length ap,.map (some ab)] ++ ((hH KL.encI p0.hits.l) ++ ((hH KL.encI p0.used.l) ++ (hH KL.encT p0.met.l)))),.obj ab (.map aq au)] U bj [.blk ah 99 ([.slice aj p0.Bout.Shots.length am,.slice ae p0.Bout.Down.length ai,.slice ak p0.Bout.Across.length ap,.map (some ab)] ++ ((hH KL.encI av.1.l) ++ ((hH KL.encI av.2.1.l) ++ (hH KL.encT av.2.2.l)))),.obj ab (.map aq au)] bG:=dy
 refine oR Z (ZS Z Z) (eN (ifc ci ?_ ?_))
 intro bl dU
 refine zn (nC bl.out) (ZR (zf (zH (rR fL2 Z (oR Z (zu (zW Z bU Z) (congrArg (jV) dS.out)) (oM Z Z (zo ?_)))))))
 have q:=nD dU
 obtain rfl:=q
 exact zH ⟨Z,_,Z,⟨bj,Z,bm,bP,bQ,cC,cD,cE,bR,(aW.trans aZ),bo⟩⟩
 intro bl dV
 refine zt (nF (bl.out)) (sR gAo Z ?_)
 have de:=bn.le aZ
 refine oL Z (bo.ldC (f:=0) de (v:=.pointer (some ⟨ah,0,none⟩)) Z bm zz Z) ?_
 have df:=bW.le aZ
 have dg:=bX.le aZ
 have dh:=bY.le aZ
 refine bnK dV fun eb dk dW=>zM 2 Z Z Z Z (zK Z Z Try.call85 (zD Z zS) Z) bo (fun hs=>wEA (⟨p0.Bout,p0.may,av.1,av.2.1,av.2.2⟩:wAE) ah aj am ae ai ak ap ab aq au bG bj hs df dg dh cg dk) (.inl Z) ?_
 rintro bC ed eI cw eC dA ⟨bA,bN,rfl,rfl⟩
 have dB:SW w [.blk ah 99 ([.slice aj p0.Bout.Shots.length am,.slice ae p0.Bout.Down.length ai,.slice ak p0.Bout.Across.length ap,.map (some ab)] ++ ((hH KL.encI p0.hits.l) ++ ((hH KL.encI p0.used.l) ++ (hH KL.encT p0.met.l)))),.obj ab (.map aq au)] U bC [.row bA bN 3 1 (hH KL.encI eb),.blk ah 99 ([.slice aj p0.Bout.Shots.length am,.slice ae p0.Bout.Down.length ai,.slice ak p0.Bout.Across.length ap,.map (some ab)] ++ ((hH KL.encI av.1.l) ++ ((hH KL.encI av.2.1.l) ++ (hH KL.encT av.2.2.l)))),.obj ab (.map aq au)] cw:=dA
 refine oA Z Z (eN (zQ (zd (zO ?_))))
 have q:=wAo dW
 obtain ⟨d8,dX,cA⟩:=q
 have q:=wBz bw br (dP d8 cA)
 obtain rfl:=q
 refine zO (zd (zd (zO ?_)))
 have q:=wAo dX
 obtain ⟨d9,dY,cB⟩:=q
 have q:=wBz hm bq (dO d9 cB)
 obtain rfl:=q
 refine zO (zd (zO (bnK dY fun eK dm dZ=>?_)))
 cases dZ
 exact ⟨Z,_,(zy Z),bC,_,dB,bA,bN,Z,Z,(fun h=>absurd h (wMZ dm))⟩
 rintro ⟨eO,eP,eQ⟩ eU eg ⟨ct,cP,cG,cH,eu,cI,cJ,cK,cL,d7,dD⟩ dM
 have cj:=wDh bw br dM
 try dsimp only at cj
 have cy:Hid (¬ ((↑((ba:Int) - 0).toNat:Int) < ba)):=zG (wBD)
 refine sR fL1 Z (oR Z (zX Z cP cL) (eN (zF (cF Z cy (ZN (zg (zg (ZB (zf (zH (rR fL2 Z (oR Z (zu (zW Z cK Z) (congrArg (jV) dT.out)) (oM Z Z (zo ?_))))))))))))))
 have q:=nD cj
 obtain rfl:=q
 exact zH ⟨Z,_,Z,⟨ct,Z,cG,cH,cI,cJ,(aV.trans d7),dD⟩⟩
 rintro ⟨eR,eS,eT⟩ eV eh ⟨cu,cQ,ey,ez,eA,cM,eD,dE⟩ dN
 have cn:=wDh hm bq dN
 try dsimp only at cn
 have cz:Hid (¬ ((↑(((↑p0.Bout.Down.length:Int):Int) - 0).toNat:Int) < (↑p0.Bout.Down.length:Int))):=zG (wBD)
 refine sR fL1 Z (oR Z (zX Z cQ cM) (eN (zF (cF Z cz (ZN (zg (zg (ZB (zH (sR fL1 Z (oA Z Z (eN (zQ ?_)))))))))))))
 have dF:=dE.nilrow 3 1
 cases cn
 exact ⟨Z,_,(zy Z),cu,_,dF,none,0,Z,Z,(fun _=>Z)⟩
theorem wDq (p0:wAC) (aY:Option Addr) (bb:Nat) (aZ:Option Addr) (be:Nat) (ba:Option Addr) (bf:Nat) (w:World) (U:PHeap) (hS:St0 w U []) (bM:Sl U 1 aY bb p0.Shots.length (hH KL.encI p0.Shots)) (bN:Sl U 1 aZ be p0.Down.length (hH KL.encI p0.Down)) (bO:Sl U 2 ba bf p0.Across.length (hH wAB p0.Across)) {r:(Option wAE) × Int} (hm:wBZ p0=some r):Gv Try.prog 42 [.agg #[.slice aY p0.Shots.length bb,.slice aZ p0.Down.length be,.slice ba p0.Across.length bf]] w (wCp w [] U (fun U_ L_ v=>match r.1 with | none=>v=.tuple #[.pointer none,jV r.2]/\L_=[] | some d=>∃ (b0:Nat) (A0p00:Option Addr) (c0p00:Nat) (A0p01:Option Addr) (c0p01:Nat) (A0p02:Option Addr) (c0p02:Nat) (m0p1:Nat) (es0p1:Array MapEntry) (ck0p1:Nat),v=.tuple #[.pointer (some ⟨b0,0,none⟩),jV r.2]/\L_=[.blk b0 99 ([.slice A0p00 d.Bout.Shots.length c0p00,.slice A0p01 d.Bout.Down.length c0p01,.slice A0p02 d.Bout.Across.length c0p02,.map (some m0p1)] ++ ((hH KL.encI d.hits.l) ++ ((hH KL.encI d.used.l) ++ (hH KL.encT d.met.l)))),.obj m0p1 (.map es0p1 ck0p1)]/\Sl U_ 1 A0p00 c0p00 d.Bout.Shots.length (hH KL.encI d.Bout.Shots)/\Sl U_ 1 A0p01 c0p01 d.Bout.Down.length (hH KL.encI d.Bout.Down)/\Sl U_ 2 A0p02 c0p02 d.Bout.Across.length (hH wAB d.Bout.Across)/\MpR es0p1 wGM wGk d.may)):=by
 unfold wBZ at hm
 refine Gv.of Try.func42 Z Try.ntmps42 Try.results42 Z (sR gAr Z ?_)
 let B0:List Value:=[.slice aY p0.Shots.length bb,.slice aZ p0.Down.length be,.slice ba p0.Across.length bf]
 refine ZX (cs:=B0) rfl rfl rfl rfl rfl rfl (by rfl) hS ?_
 intro W1 b2 br
 refine oA Z Z (oA Z Z (eN (sR (.fl 0 (.fx 1 (wIq (.nil)) .stop)) Z (oL Z (br.ldBA (j:=0) Z Z Z ZU zZ (vs:=B0) Z Z) ?_))))
 have q:=bnd hm
 obtain ⟨⟨x5,x6⟩,h7,aT⟩:=q
 try dsimp only at aT
 refine zM 0 Z Z Z Z (zK Z Z Try.call69 (zD Z zS) Z) br (fun hs=>wED p0 aY bb aZ be ba bf W1 U hs bM bN bO h7) (.inr Z) ?_
 rintro U9 bW bZ bh bY bq bp
 rcases x5 with _ | x26
 try dsimp only at aT
 obtain ⟨rfl,rfl⟩:=bp
 have bK:sW w U U9 [.blk b2 26 B0] bh:=bq
 refine oM Z Z (oR Z (zx Z Z (v:=.pointer none) Z) (oR Z (zx Z Z (v:=jV x6) Z) (oA Z Z (oA Z Z (eN (zF (sR (wHT gAt) Z (oM Z Z (oR Z (Runs.eql Z Z Z) (oM Z Z (ifc aT ?_ ?_)))))))))))
 intro av bP
 refine zh Z Z Z (wT Z av) Z Z ?_
 cases bP
 intro av bQ
 refine oF Z av (Zb Z Z Z (zU Z Z (zr av.out) Z) (oF Z av (oR Z (zj Z (zr av.out) Z) (eN (zn Z (kN (sR fL4 Z (oM Z Z (oM Z Z (oA Z Z (oA Z Z (eN (zQ ?_)))))))))))))
 cases bQ
 exact ⟨rfl,_,(wGU rfl rfl),U9,_,(bK.pick [] _ (by decide) rfl),rfl,rfl⟩
 try dsimp only at aT
 obtain ⟨ah,ai,am,aj,ap,ak,aq,ae,az,au,rfl,rfl,aU,aV,aW,aX⟩:=bp
 have bs:sW w U U9 [.blk ah 99 ([.slice ai x26.Bout.Shots.length am,.slice aj x26.Bout.Down.length ap,.slice ak x26.Bout.Across.length aq,.map (some ae)] ++ ((hH KL.encI x26.hits.l) ++ ((hH KL.encI x26.used.l) ++ (hH KL.encT x26.met.l)))),.obj ae (.map az au),.blk b2 26 B0] bh:=bq
 refine oM Z Z (oR Z (zx Z Z (v:=.pointer (some ⟨ah,0,none⟩)) Z) (oR Z (zx Z Z (v:=jV x6) Z) (oA Z Z (oA Z Z (eN (zF (sR (wHT gAt) Z (oM Z Z (oR Z (Runs.eql Z Z Z) (oM Z Z (ifc aT ?_ ?_)))))))))))
 intro ab bR
 refine zh Z Z Z (wT Z ab) Z Z ?_
 have q:=bnd bR
 obtain ⟨⟨bl,bm⟩,bA,bt⟩:=q
 try dsimp only at bt
 refine zM 2 Z Z Z (wT Z ab) (zK Z Z Try.call46 (zD Z zS) Z) bs (fun hs=>wBg x26 ah ai am aj ap ak aq ae az au bh U9 hs aU aV aW aX bA) (.inl Z) ?_
 rintro bg bX b5 bw aQ bL ⟨bn,bz,rfl,rfl,bB⟩
 have bk:sW w U bg [.row bn bz 3 1 (hH KL.encI bl),.blk ah 99 ([.slice ai x26.Bout.Shots.length am,.slice aj x26.Bout.Down.length ap,.slice ak x26.Bout.Across.length aq,.map (some ae)] ++ ((hH KL.encI bm.1.l) ++ ((hH KL.encI bm.2.1.l) ++ (hH KL.encT bm.2.2.l)))),.obj ae (.map az au),.blk b2 26 B0] bw:=bL
 have bC:bn.isNone=decide (bl=[]):=wGy (j:=0) bk rfl (fun _=>rfl) (by decide) bB
 refine zL rfl rfl rfl (zR rfl rfl (Zf ab.out)) (fun _=>Runs.neNilR (b:=decide (¬ (bl=[]))) rfl rfl rfl zA (by simp [bC])) (zL rfl rfl rfl rfl (fun _=>zP rfl (Zf ab.out) rfl) (eN (ifc bt ?_ ?_)))
 intro bj bS
 refine zn (zr (fun h=>h bj.out)) (kN (sR fL4 Z (oM Z Z (oM Z Z (oA Z Z (oA Z Z (eN (zQ ?_))))))))
 have bD:=aU.le aQ
 have bE:=aV.le aQ
 have bF:=aW.le aQ
 cases bS
 exact ⟨rfl,_,(wGU rfl rfl),bg,_,(bk.pick [1,2] _ (by decide) rfl),ah,ai,am,aj,ap,ak,aq,ae,az,au,rfl,rfl,bD,bE,bF,aX⟩
 intro bj bT
 refine cT Z bj (rR fL1 Z (oA Z Z (eN (sR fL4 Z (oM Z Z (oM Z Z (oA Z Z (oA Z Z (eN (zQ ?_))))))))))
 have bG:=aU.le aQ
 have bH:=aV.le aQ
 have bI:=aW.le aQ
 cases bT
 exact ⟨rfl,_,(wGU rfl rfl),bg,_,(bk.pick [1,2] _ (by decide) rfl),ah,ai,am,aj,ap,ak,aq,ae,az,au,rfl,rfl,bG,bH,bI,aX⟩
 intro ab bU
 refine oF Z ab (Zb Z Z Z (zU Z Z (zr ab.out) Z) (oF Z ab (oR Z (zj Z (zr ab.out) Z) (eN (zn Z (kN (sR fL4 Z (oM Z Z (oM Z Z (oA Z Z (oA Z Z (eN (zQ ?_)))))))))))))
 cases bU
 exact ⟨rfl,_,(wGU rfl rfl),U9,_,(bs.pick [0,1] _ (by decide) rfl),ah,ai,am,aj,ap,ak,aq,ae,az,au,rfl,rfl,aU,aV,aW,aX⟩
theorem wBn (p0:List Int) (ae:Option Addr) (aq:Nat) (w:World) (U:PHeap) (hS:St0 w U []) (ap:Sl U 1 ae aq p0.length (hH KL.encI p0)) {r:(List Int)} (hm:wAL p0=some r):Gv Try.prog 44 [.slice ae p0.length aq] w (wCp w [] U (fun U_ L_ v=>∃ (A0:Option Addr) (c0:Nat),v=.slice A0 r.length c0/\L_=[.row A0 c0 3 1 (hH KL.encI r)])):=by
 unfold wAL at hm
 refine Gv.of Try.func44 Z Try.ntmps44 Try.results44 Z (sR fL1 Z (oA Z Z (eN (zF (sR fL2 Z (oM Z Z (oR Z (Runs.eqNil Z Z Z zA) (eN ?_))))))))
 by_cases c1:ae.isNone=true
 replace c1:=zG c1
 have aY:p0=[]:=List.eq_nil_of_length_eq_zero (Sl.nilA (Option.isNone_iff_eq_none.1 c1.out ▸ ap))
 have aX:(some [])=some r:=by simpa [aY,app] using hm
 refine zt (congrArg nA c1.out) (sR fL1 Z (oA Z Z (eN (zQ (zO ?_)))))
 have aU:=hS.nilrow 3 1
 cases aX
 exact ⟨Z,_,(zy Z),U,_,aU,none,0,Z,Z⟩
 replace c1:=zG c1
 refine zn (congrArg nA (nB.2 c1.out)) (kN (sR (.fx 0 gAn .stop) Z (OKS.buildSlice0 1 Z Z Z Z Z zA zC hS ?_)))
 intro W6 b7 aV
 have am:sW w U U [.row (some ⟨b7,0,none⟩) 0 3 1 (hH KL.encI ([]:List Int))] W6:=aV
 refine oM Z Z (bnK hm fun au aR aW=>OKS.append (j:=0) (enc:=KL.encI) (xs:=([]:List Int)) (ys:=p0) (zs:=au) Z Z Z Z Z Try.underlying23 wDz Z Z Z Z Z Z am Z Z Z (am.srcS ap) (fun _=>Z) (fun _=>Z) aR Z ?_)
 intro ai ak av aS
 have aT:sW w U U [.row ai ak 3 1 (hH KL.encI au)] av:=aS
 refine oA Z Z (eN (zQ ?_))
 have hE:=nD aW;first | subst r | cases hE
 exact ⟨Z,_,(zy Z),U,_,aT,ai,ak,Z,Z⟩
theorem wEE (p0:Int) (p1:List Int) (aj:Option Addr) (ak:Nat) (w:World) (U:PHeap) (hS:St0 w U []) (bf:Sl U 1 aj ak p1.length (hH KL.encI p1)) {r:Int} (hm:wBl p0 p1=some r):Gv Try.prog 47 [jV p0,.slice aj p1.length ak] w (wCp w [] U (fun U_ L_ v=>v=jV r/\L_=[])):=by
 unfold wBl at hm
 refine Gv.of Try.func47 Z Try.ntmps47 Try.results47 Z (sR fL1 Z (oA Z Z (eN (zF (sR fL3 Z (oM Z Z (oR Z (ZC Z Z zA) (oM Z Z (eN (zV (bnK hm fun bt bh bk=>?_)))))))))))
 have q:=wBf bh
 obtain ⟨ai,bg⟩:=q
 replace ai:=zG ai
 refine CK.forN' (fun k7 x6 σ_ w_=>∃ (U_:PHeap),σ_ 9=jV (↑k7:Int)/\σ_ 0=jV x6/\σ_ 7=.slice aj p1.length ak/\σ_ 8=jV (↑p1.length:Int)/\PHeap.Le U U_/\sW w U U_ [] w_) bg ?_ ?_ ?_
 exact ⟨U,Z,Z,Z,Z,(ze _),hS⟩
 rintro k7 x6 bs bu bm ah ⟨aS,ae,aV,ap,aq,az,av⟩ bl
 have am:Hid ((↑k7:Int) < (↑p1.length:Int)):=zG (wBe ah)
 replace ah:=zG ah
 have bi:Hid (w64 ((↑k7:Int) + 1)=(↑(k7 + 1):Int)):=zG (by have h1:=ai.out;have h2:=am.out;rw [wAd] <;> omega)
 refine sR fL1 Z (oR Z (zX Z ae aq) (eN (zF (cT Z am (kN (zF (zV (sR fL3 Z (bnK bl fun x28 au bj=>?_)))))))))
 have aZ:=bf.le az
 have q:=aZ.el (fun _=>rfl) (wBU au)
 obtain ⟨bo,br,ba,bb⟩:=q
 refine oR Z (ZG Z ap ba ae zA zC (wCt au)) (oL Z (av.ldC (f:=0) bb (v:=jV x28) Z Z zJ Z) (oA Z Z (eN (rR fL4 Z (oM Z aV (oM Z Z (oR Z (Runs.min Z Z Z) (oA Z Z (zo (zf (zH (rR fL2 Z (oR Z (zu (zW Z ae Z) (congrArg (jV) bi.out)) (oM Z Z (zo ?_)))))))))))))))
 cases bj
 exact zH ⟨Z,⟨aS,Z,Z,ap,aq,az,av⟩⟩
 rintro bv bn ⟨aT,aY,aW,bp,aX,bq,be⟩
 have aU:Hid (¬ ((↑(((↑p1.length:Int):Int) - 0).toNat:Int) < (↑p1.length:Int))):=zG (wBD)
 refine sR fL1 Z (oR Z (zX Z aY aX) (eN (zF (cF Z aU (ZN (zg (zg (ZB (zH (sR fL2 Z (oM Z aW (oA Z Z (eN (zQ ?_))))))))))))))
 have hE:=nD bk;first | subst r | cases hE
 exact ⟨Z,_,(zy Z),aT,_,be,Z,Z⟩
theorem wDr (p0:wAC) (bN:Option Addr) (bQ:Nat) (bO:Option Addr) (bR:Nat) (bP:Option Addr) (bS:Nat) (w:World) (U:PHeap) (hS:St0 w U []) (iA:Sl U 1 bN bQ p0.Shots.length (hH KL.encI p0.Shots)) (iB:Sl U 1 bO bR p0.Down.length (hH KL.encI p0.Down)) (iC:Sl U 2 bP bS p0.Across.length (hH wAB p0.Across)) {r:(List wAb) × Int} (hm:wBa p0=some r):Gv Try.prog 12 [.agg #[.slice bN p0.Shots.length bQ,.slice bO p0.Down.length bR,.slice bP p0.Across.length bS]] w (wCp w [] U (fun U_ L_ v=>∃ (A0:Option Addr) (c0:Nat),v=.tuple #[.slice A0 r.1.length c0,jV r.2]/\L_=[.row A0 c0 44 2 (hH wAQ r.1)])):=by
 unfold wBa at hm
 refine Go.KX.Gv.ofM Try.func12 Z Try.ntmps12 Try.results12 (zB Z) ?_
 have cE:=hS.mks0
 refine sR gAr Z ?_
 let B0:List Value:=[.slice bN p0.Shots.length bQ,.slice bO p0.Down.length bR,.slice bP p0.Across.length bS]
 refine ZX (cs:=B0) rfl rfl rfl rfl rfl rfl (by rfl) cE ?_
 intro W3 b4 dY
 refine oA Z Z (oA Z Z (eN (sR (.fl 0 (.fx 1 (fC2_4 (.fx 5 (.fx 6 (.fl 7 .nil) .stop) .stop)) .stop)) Z (oL Z (dY.ldBA (j:=0) Z Z Z ZU zZ (vs:=B0) Z Z) ?_))))
 have q:=bnd hm
 obtain ⟨⟨x7,x8⟩,h9,bz⟩:=q
 try dsimp only at bz
 refine zM 0 Z Z Z Z (zK Z Z Try.call42 (zD Z zS) Z) dY (fun hs=>wDq p0 bN bQ bO bR bP bS W3 U hs iA iB iC h9) (.inr Z) ?_
 rintro ba jl jZ dg jQ dT dR
 rcases x7 with _ | x28
 try dsimp only at bz
 obtain ⟨rfl,rfl⟩:=dR
 have gM:sW w U ba [.blk b4 26 B0,mks []] dg:=dT
 refine oM Z Z (oR Z (zx Z Z (v:=.pointer none) Z) (oR Z (zx Z Z (v:=jV x8) Z) (ZL (cs:=[.pointer none]) Z Z Z Z Z Try.zeroValue89 Z gM ?_)))
 intro jx eT gR
 refine ZA (j:=0) (vs:=[.pointer none]) Z Z Z Z gR Z Z Z Z Try.sizeOf89 (zB Z) Z Z Z ?_
 intro eJ gU
 let B1:Res:=.blk eT 89 [.pointer none]
 have dV:sW w U ba [B1,.blk b4 26 B0,mks []] eJ:=gU
 refine oA Z Z (eN (zF (sR fL2 Z (oM Z Z (oR Z (ZT Z Z Z) (eN (ifc bz ?_ ?_)))))))
 intro cq iU
 refine zn (zr (fun h=>h cq.out)) (kN (sR fL1 Z (oA Z Z (eN (zF (sR fL7 Z (oL Z (dV.ldB (j:=0) Z Z Z zz (v:=.pointer none) Z) ?_)))))))
 cases iU
 intro cq iV
 refine cT Z cq (sR fL3 Z (oM Z Z (oA Z Z (oA Z Z (eN (zQ (zO ?_)))))))
 have g9:=dV.nilrow 44 2
 refine wDv (by first | exact .inl rfl | exact .inr rfl) (rbs:=[]) (L:=[.row none 0 44 2 [],B1,.blk b4 26 B0]) (g9.pick [3,0,1,2] _ (by decide) rfl) fun eP ij=>?_
 have il:sW w U ba [.row none 0 44 2 [],B1,.blk b4 26 B0] eP:=ij
 cases iV
 exact ⟨_,(wGU rfl rfl),ba,_,(il.pick [0] _ (by decide) rfl),none,0,rfl,rfl⟩
 try dsimp only at bz
 obtain ⟨ab,ae,ah,ai,aj,ak,ap,aa,az,av,rfl,rfl,gf,gg,gh,gi⟩:=dR
 have it:sW w U ba [.blk ab 99 ([.slice ae x28.Bout.Shots.length ah,.slice ai x28.Bout.Down.length aj,.slice ak x28.Bout.Across.length ap,.map (some aa)] ++ ((hH KL.encI x28.hits.l) ++ ((hH KL.encI x28.used.l) ++ (hH KL.encT x28.met.l)))),.obj aa (.map az av),.blk b4 26 B0,mks []] dg:=dT
 refine oM Z Z (oR Z (zx Z Z (v:=.pointer (some ⟨ab,0,none⟩)) Z) (oR Z (zx Z Z (v:=jV x8) Z) (ZL (cs:=[.pointer none]) Z Z Z Z Z Try.zeroValue89 Z it ?_)))
 intro jA au iu
 let B2:List Value:=[.pointer (some ⟨ab,0,none⟩)]
 refine ZA (j:=0) (vs:=B2) Z Z Z Z iu Z Z Z Z Try.sizeOf89 (zB Z) Z Z Z ?_
 intro eS iv
 have bH:sW w U ba [.blk au 89 B2,.blk ab 99 ([.slice ae x28.Bout.Shots.length ah,.slice ai x28.Bout.Down.length aj,.slice ak x28.Bout.Across.length ap,.map (some aa)] ++ ((hH KL.encI x28.hits.l) ++ ((hH KL.encI x28.used.l) ++ (hH KL.encT x28.met.l)))),.obj aa (.map az av),.blk b4 26 B0,mks []] eS:=iv
 refine oA Z Z (eN (zF (sR fL2 Z (oM Z Z (oR Z (ZT Z Z Z) (eN (ifc bz ?_ ?_)))))))
 intro ct iZ
 refine zn (zr (fun h=>h ct.out)) (kN (sR fL1 Z (oA Z Z (eN (zF (sR fL7 Z (oL Z (bH.ldB (j:=0) Z Z Z zz (v:=.pointer (some ⟨ab,0,none⟩)) Z) (oR Z (zi Z Z) (oR Z (zI Z Z zN Z zZ) (oR Z (zI Z Z zE Z zY) (oL Z (bH.ldB (j:=1) Z Z Z zl (v:=.slice ae x28.Bout.Shots.length ah) Z) (oR Z (ZC Z Z zA) (oM Z Z (eN (zV (bnK iZ fun jk iE i3=>?_))))))))))))))))
 have q:=wBf iE
 obtain ⟨cI,iF⟩:=q
 replace cI:=zG cI
 refine CK.forN'D (fun aS bf D_ σ_ w_=>∃ (U_:PHeap) (aR:List Nat) (bj:Option Addr) (bk:Nat),D_=nU Go.KX.mark aR/\σ_ 27=jV (↑aS:Int)/\σ_ 4=.pointer (some ⟨au,0,none⟩)/\σ_ 6=.slice bj bf.length bk/\σ_ 25=.slice ae x28.Bout.Shots.length ah/\σ_ 26=jV (↑x28.Bout.Shots.length:Int)/\PHeap.Le ba U_/\sW w U U_ [.blk au 89 B2,.blk ab 99 ([.slice ae x28.Bout.Shots.length ah,.slice ai x28.Bout.Down.length aj,.slice ak x28.Bout.Across.length ap,.map (some aa)] ++ ((hH KL.encI x28.hits.l) ++ ((hH KL.encI x28.used.l) ++ (hH KL.encT x28.met.l)))),.obj aa (.map az av),.blk b4 26 B0,mks aR,.row bj bk 44 2 (hH wAQ bf)] w_) iF ?_ ?_ ?_
 have iw:=bH.nilrow 44 2
 exact ⟨ba,[],none,0,rfl,rfl,rfl,rfl,rfl,rfl,(ze _),(iw.pick [1,2,3,4,5,0] _ (by decide) rfl)⟩
 rintro aS bf j9 D_ lg jB cH ⟨de,aR,bj,bk,rfl,bE,dz,fb,dA,dB,bM,dZ⟩ i8
 have dw:Hid ((↑aS:Int) < (↑x28.Bout.Shots.length:Int)):=zG (wBe cH)
 replace cH:=zG cH
 have iH:Hid (w64 ((↑aS:Int) + 1)=(↑(aS + 1):Int)):=zG (by have h1:=cI.out;have h2:=dw.out;rw [wAd] <;> omega)
 refine sR fL1 Z (oR Z (zX Z bE dB) (eN (zF (cT Z dw (kN (zF (zV (sR fL5 Z (oM Z bE (bnK i8 fun x106 dM iJ=>?_))))))))))
 have dN:=gf.le bM
 have q:=dN.el (fun _=>rfl) (wBU dM)
 obtain ⟨jC,jS,gm,gu⟩:=q
 refine oR Z (ZG Z dA gm bE zA zC (wCt dM)) (oL Z (dZ.ldC (f:=0) gu (v:=jV x106) Z Z zJ Z) (oA Z Z (oA Z Z (eN (sR gAm Z (ZL (cs:=[jV 0]) Z Z Z Z Z Zi Z dZ ?_))))))
 intro jv bb gy
 refine ZA (j:=0) (vs:=[jV 0]) Z Z Z Z gy Z Z Z Z zC (zB Z) Z Z Z ?_
 intro df gz
 let B3:Res:=.row bj bk 44 2 (hH wAQ bf)
 have dS:sW w U de [.blk bb 3 [jV 0],.blk au 89 B2,.blk ab 99 ([.slice ae x28.Bout.Shots.length ah,.slice ai x28.Bout.Down.length aj,.slice ak x28.Bout.Across.length ap,.map (some aa)] ++ ((hH KL.encI x28.hits.l) ++ ((hH KL.encI x28.used.l) ++ (hH KL.encT x28.met.l)))),.obj aa (.map az av),.blk b4 26 B0,mks aR,B3] df:=gz
 refine eN (zF (sR gAs Z (oL Z (dS.ldB (j:=1) Z Z dz zz (v:=.pointer (some ⟨ab,0,none⟩)) Z) (oM Z Z ?_))))
 have q:=bnd iJ
 obtain ⟨⟨⟩,fz,d9⟩:=q
 try dsimp only at d9
 refine zM 0 Z Z Z Z (zK Z Z Try.call43 (zD Z (zD Z zS)) Z) dS (fun hs=>wCo () ab (↑aS:Int) df de hs fz) (.inr Z) ?_
 rintro cV jm jY eE bI gA ⟨dp,dq,dr,rfl,rfl,fA,fB,fC⟩
 have gB:sW w U cV [.blk bb 3 [jV 0],.blk au 89 B2,.blk ab 99 ([.slice ae x28.Bout.Shots.length ah,.slice ai x28.Bout.Down.length aj,.slice ak x28.Bout.Across.length ap,.map (some aa)] ++ ((hH KL.encI x28.hits.l) ++ ((hH KL.encI x28.used.l) ++ (hH KL.encT x28.met.l)))),.obj aa (.map az av),.blk b4 26 B0,mks aR,B3] eE:=gA
 refine eN (zV (CK.fresh fun bi be=>?_))
 have dC:bi 4=.pointer (some ⟨au,0,none⟩):=(be 4).trans dz
 have dD:bi 6=.slice bj bf.length bk:=(be 6).trans fb
 have dE:bi 7=jV (↑aS:Int):=(be 7).trans rfl
 have dF:bi 8=jV x106:=(be 8).trans rfl
 have dG:bi 9=.pointer (some ⟨bb,0,none⟩):=(be 9).trans rfl
 have dH:bi 25=.slice ae x28.Bout.Shots.length ah:=(be 25).trans dA
 have dI:bi 26=jV (↑x28.Bout.Shots.length:Int):=(be 26).trans dB
 have dJ:bi 27=jV (↑aS:Int):=(be 27).trans bE
 have fc:bi 34=.func (.func 83) #[] #[.pointer (some ⟨dp,0,none⟩),.pointer (some ⟨dq,0,none⟩),.pointer (some ⟨dr,0,none⟩)]:=(be 34).trans rfl
 clear be
 refine bnK d9 fun en iI eb=>?_
 have dO:=dN.le bI
 have fD:=gg.le bM
 have cC:=fD.le bI
 have fE:=gh.le bM
 have dP:=fE.le bI
 refine CK.rangeYV (fun U_ L_=>∃ (i_ j_:Nat) (a0_:Arr Int 64) (a1_:Arr Int 8) (a2_:Arr Bool 16),L_[i_]?=some (.blk ab 99 ([.slice ae x28.Bout.Shots.length ah,.slice ai x28.Bout.Down.length aj,.slice ak x28.Bout.Across.length ap,.map (some aa)] ++ ((hH KL.encI a0_.l) ++ ((hH KL.encI a1_.l) ++ (hH KL.encT a2_.l)))))/\L_[j_]?=some (.obj aa (.map az av))) (by rintro _ _ _ ⟨i,j,a0,a1,a2,hi,hj⟩;exact ⟨i + 1,j + 1,a0,a1,a2,hi,hj⟩) (S:=Int) (E:=Empty) (ar:=wMS) (PY:=(fun (bp:Int) (U_:PHeap) (L_:List Res)=>L_=[.blk bb 3 [jV bp],.blk au 89 B2,.blk ab 99 ([.slice ae x28.Bout.Shots.length ah,.slice ai x28.Bout.Down.length aj,.slice ak x28.Bout.Across.length ap,.map (some aa)] ++ ((hH KL.encI x28.hits.l) ++ ((hH KL.encI x28.used.l) ++ (hH KL.encT x28.met.l)))),.obj aa (.map az av),.blk b4 26 B0,mks aR,.row bj bk 44 2 (hH wAQ bf)])) (PE:=(fun (_:Empty) _ _=>False)) (exO:=Empty.elim) (s0:=0) (rr:=en) fc Try.call83 gB (by decide) (fun _ _ _ h=>by obtain rfl:=h;rfl) (fun e=>nomatch e) rfl (by rintro bp _ _ rfl;exact ⟨2,3,x28.hits,x28.used,x28.met,rfl,rfl⟩) (fun l w1 L1 PY' PE' cE gw iz iy=>wCY PY' PE' _ l _ x28 dp ab ae ah ai aj ak ap aa az av () dq (↑aS:Int) dr w1 L1 cV cE gw iz iy fA dO cC dP gi fB fC iI) ?_ ?_
 rintro cJ jX jP bp eu j7 jW cK jo ji jd bX i9 gC gx iD d8 bg aX
 obtain rfl:=gx
 obtain rfl:=iD
 replace aX:∀ t,bg t=upd bi 35 (jV eu) t:=aX
 have fd:bg 35=jV eu:=(aX 35).trans (wCD _ _ _)
 have fe:bg 4=.pointer (some ⟨au,0,none⟩):=(aX 4).trans ((wBY _ _ (by decide)).trans dC)
 have jG:bg 6=.slice bj bf.length bk:=(aX 6).trans ((wBY _ _ (by decide)).trans dD)
 have jH:bg 7=jV (↑aS:Int):=(aX 7).trans ((wBY _ _ (by decide)).trans dE)
 have jJ:bg 8=jV x106:=(aX 8).trans ((wBY _ _ (by decide)).trans dF)
 have dK:bg 9=.pointer (some ⟨bb,0,none⟩):=(aX 9).trans ((wBY _ _ (by decide)).trans dG)
 have jK:bg 25=.slice ae x28.Bout.Shots.length ah:=(aX 25).trans ((wBY _ _ (by decide)).trans dH)
 have jL:bg 26=jV (↑x28.Bout.Shots.length:Int):=(aX 26).trans ((wBY _ _ (by decide)).trans dI)
 have jM:bg 27=jV (↑aS:Int):=(aX 27).trans ((wBY _ _ (by decide)).trans dJ)
 clear aX
 let B4:Res:=.blk bb 3 [jV bp]
 have gD:St bX cK [.obj cJ jd,B4,.blk au 89 B2,.blk ab 99 ([.slice ae x28.Bout.Shots.length ah,.slice ai x28.Bout.Down.length aj,.slice ak x28.Bout.Across.length ap,.map (some aa)] ++ ((hH KL.encI x28.hits.l) ++ ((hH KL.encI x28.used.l) ++ (hH KL.encT x28.met.l)))),.obj aa (.map az av),.blk b4 26 B0,mks aR,B3] ji:=gC
 try dsimp only at d8
 refine rR fL1 Z (oA Z fd (zo ⟨Z,Z,_,_,gD,fun b5 ej gE=>?_⟩))
 have gF:St bX cK [.obj cJ ej,B4,.blk au 89 B2,.blk ab 99 ([.slice ae x28.Bout.Shots.length ah,.slice ai x28.Bout.Down.length aj,.slice ak x28.Bout.Across.length ap,.map (some aa)] ++ ((hH KL.encI x28.hits.l) ++ ((hH KL.encI x28.used.l) ++ (hH KL.encT x28.met.l)))),.obj aa (.map az av),.blk b4 26 B0,mks aR,B3] b5:=gE
 refine zV (ZJ ZK [1,1,3,3,3,1,3,3,1,3,0] (wPz (.fx 10 .nil .stop)) (by kernel_rfl) ?_)
 have br:=gF.drew
 generalize hw_W226:({ b5 with drawn:=b5.drawn + 1 }:World)=jw at br ⊢
 refine oL Z (br.ldB (j:=1) Z Z dK zJ (v:=jV bp) Z) (oL Z (br.ldB (j:=2) Z Z fe zz (v:=.pointer (some ⟨ab,0,none⟩)) Z) (oR Z (zi Z Z) (oR Z (zI Z Z zN Z zZ) (oR Z (zI Z Z zE Z zY) (oL Z (br.ldB (j:=3) Z Z Z zl (v:=.slice ai x28.Bout.Down.length aj) Z) (oM Z Z (bnK d8 fun cL cD iK=>?_)))))))
 have fG:=cC.le i9
 have q:=fG.el (fun _=>rfl) (wBU cD)
 obtain ⟨jD,jU,gp,gv⟩:=q
 refine oR Z (ZF Z Z gp Z zA zC (wEc cD) (wFD cD)) (oL Z (br.ldC (f:=0) gv (v:=jV cL) Z Z zJ Z) (oR Z (zW Z Z Z) (ZA (j:=1) (vs:=[jV (w64 (bp + cL))]) Z Z Z Z br Z dK Z Z zC (zB Z) Z Z Z ?_)))
 intro eF gG
 have gH:St bX cK [.obj cJ ej,.blk bb 3 [jV (w64 (bp + cL))],.blk au 89 B2,.blk ab 99 ([.slice ae x28.Bout.Shots.length ah,.slice ai x28.Bout.Down.length aj,.slice ak x28.Bout.Across.length ap,.map (some aa)] ++ ((hH KL.encI x28.hits.l) ++ ((hH KL.encI x28.used.l) ++ (hH KL.encT x28.met.l)))),.obj aa (.map az av),.blk b4 26 B0,mks aR,B3] eF:=gG
 refine zo (zf ?_)
 have q:=nD iK
 obtain rfl:=q
 exact ⟨_,_,gH,Z,Z⟩
 rintro aU bv jp dh bJ gI
 rcases en with bm | eX
 try dsimp only at eb
 rintro rfl
 let B5:Res:=.blk bb 3 [jV bm]
 have gJ:sW w U bv [B5,.blk au 89 B2,.blk ab 99 ([.slice ae x28.Bout.Shots.length ah,.slice ai x28.Bout.Down.length aj,.slice ak x28.Bout.Across.length ap,.map (some aa)] ++ ((hH KL.encI x28.hits.l) ++ ((hH KL.encI x28.used.l) ++ (hH KL.encT x28.met.l)))),.obj aa (.map az av),.blk b4 26 B0,mks aR,B3,.obj aU (.deferred (some []))] dh:=gI
 have gK:sW w U bv [mks (aU :: aR),B5,.blk au 89 B2,.blk ab 99 ([.slice ae x28.Bout.Shots.length ah,.slice ai x28.Bout.Down.length aj,.slice ak x28.Bout.Across.length ap,.map (some aa)] ++ ((hH KL.encI x28.hits.l) ++ ((hH KL.encI x28.used.l) ++ (hH KL.encT x28.met.l)))),.obj aa (.map az av),.blk b4 26 B0,B3] dh:=(gJ.pick [5,7,0,1,2,3,4,6] _ (by decide) rfl).mksAdd
 refine zf (zH (sR fL1 Z (oA Z Z (eN (bnK eb fun bu i7 iL=>CK.cutD (fun D_ σ_ w_=>∃ (U_:PHeap),D_=nU Go.KX.mark (aU :: aR)/\σ_ 4=.pointer (some ⟨au,0,none⟩)/\σ_ 6=.slice bj bf.length bk/\σ_ 8=jV x106/\σ_ 9=.pointer (some ⟨bb,0,none⟩)/\σ_ 11=jV bu/\σ_ 25=.slice ae x28.Bout.Shots.length ah/\σ_ 26=jV (↑x28.Bout.Shots.length:Int)/\σ_ 27=jV (↑aS:Int)/\PHeap.Le bv U_/\sW w U U_ [mks (aU :: aR),B5,.blk au 89 B2,.blk ab 99 ([.slice ae x28.Bout.Shots.length ah,.slice ai x28.Bout.Down.length aj,.slice ak x28.Bout.Across.length ap,.map (some aa)] ++ ((hH KL.encI x28.hits.l) ++ ((hH KL.encI x28.used.l) ++ (hH KL.encT x28.met.l)))),.obj aa (.map az av),.blk b4 26 B0,B3] w_) ?_ ?_)))))
 refine zV (CK.iterD (fun aY D_ σ_ w_=>∃ (U_:PHeap),D_=nU Go.KX.mark (aU :: aR)/\σ_ 4=.pointer (some ⟨au,0,none⟩)/\σ_ 6=.slice bj bf.length bk/\σ_ 7=jV (↑aS:Int)/\σ_ 8=jV x106/\σ_ 9=.pointer (some ⟨bb,0,none⟩)/\σ_ 11=jV aY/\σ_ 25=.slice ae x28.Bout.Shots.length ah/\σ_ 26=jV (↑x28.Bout.Shots.length:Int)/\σ_ 27=jV (↑aS:Int)/\PHeap.Le bv U_/\sW w U U_ [mks (aU :: aR),B5,.blk au 89 B2,.blk ab 99 ([.slice ae x28.Bout.Shots.length ah,.slice ai x28.Bout.Down.length aj,.slice ak x28.Bout.Across.length ap,.map (some aa)] ++ ((hH KL.encI x28.hits.l) ++ ((hH KL.encI x28.used.l) ++ (hH KL.encT x28.met.l)))),.obj aa (.map az av),.blk b4 26 B0,B3] w_) i7 ?_ ?_)
 exact ⟨bv,Z,dC,dD,dE,dF,dG,Z,dH,dI,dJ,(ze _),gK⟩
 rintro aY j8 D_ k9 eG ⟨cW,rfl,bq,cw,dL,bD,cx,bw,cy,cz,cA,bt,bG⟩ eg d7
 refine zF (sR fL3 Z (oM Z bw (oM Z bD (oR Z (zX Z Z Z) (eN ?_)))))
 by_cases bl:aY < x106
 have ec:=eg;rw [if_pos bl] at ec;replace bl:=zG bl
 refine cT Z bl (kN (zV (sR (wGL gAi) Z (oL Z (bG.ldB (j:=2) Z Z bq zz (v:=.pointer (some ⟨ab,0,none⟩)) Z) (oR Z (zi Z Z) (oR Z (zI Z Z zN Z zZ) (oR Z (zI Z Z zE Z zY) (oL Z (bG.ldB (j:=3) Z Z Z zl (v:=.slice ae x28.Bout.Shots.length ah) Z) ?_))))))))
 have fH:=dO.le bJ
 have fJ:=fH.le bt
 refine bnK ec fun aZ fK iM=>zM 0 Z Z Z Z (zK Z Z Try.call44 (zD Z zS) Z) bG (fun hs=>wBn x28.Bout.Shots ae ah eG cW hs fJ fK) (.inr Z) ?_
 rintro cX jq j0 eH bK gL ⟨bn,bo,rfl,rfl⟩
 have dU:sW w U cX [.row bn bo 3 1 (hH KL.encI aZ),mks (aU :: aR),B5,.blk au 89 B2,.blk ab 99 ([.slice ae x28.Bout.Shots.length ah,.slice ai x28.Bout.Down.length aj,.slice ak x28.Bout.Across.length ap,.map (some aa)] ++ ((hH KL.encI x28.hits.l) ++ ((hH KL.encI x28.used.l) ++ (hH KL.encT x28.met.l)))),.obj aa (.map az av),.blk b4 26 B0,B3] eH:=gL
 refine oA Z Z (eN (sR (wHT (.fx 4 .nil .stop)) Z (oM Z Z (oM Z dL (oM Z bw (bnK iM fun _ bF iN=>?_))))))
 obtain ⟨jE,dQ⟩:=dU.rowSome (j:=0) rfl (by rw [wAF (f:=KL.encI) (sz:=1) (fun _=>rfl) aZ];have hz:=wAI bF;omega)
 refine oR Z (ZG Z Z dQ Z zA zC (wAI bF)) ?_
 have iG:=wBO (xs:=aZ) (wAI bF)
 refine Zh (j:=0) (vs:=[jV aY]) (cs':=hH KL.encI (nK aZ aS aY)) rfl rfl rfl rfl dU rfl dQ rfl rfl rfl zC (by rw [wAF (f:=KL.encI) (sz:=1) (fun _=>rfl)];have hz:=wAI bF;show _ + 1 <= _;first | omega | (simp only [nJ];omega) | (simp only [nH,nE,nG];omega)) rfl (wBr (sz:=1) (fo:=0) (fun _=>rfl) _ _ _ _ iG (by first | omega | (simp only [nJ];omega) | (simp only [nH,nE,nG];omega)) (zB rfl) rfl) rfl ?_
 intro b9 gN
 have gO:sW w U cX [.row bn bo 3 1 (hH KL.encI (nK aZ aS aY)),mks (aU :: aR),B5,.blk au 89 B2,.blk ab 99 ([.slice ae x28.Bout.Shots.length ah,.slice ai x28.Bout.Down.length aj,.slice ak x28.Bout.Across.length ap,.map (some aa)] ++ ((hH KL.encI x28.hits.l) ++ ((hH KL.encI x28.used.l) ++ (hH KL.encT x28.met.l)))),.obj aa (.map az av),.blk b4 26 B0,B3] b9:=gN
 refine eN (zF (zF (ZJ ZK [3,1,3,3,3,1,1,3,3,3,1,3,2,0,3] (wQA (.fx 12 (.fx 13 (.fl 14 .nil) .stop) .stop)) (by kernel_rfl) ?_)))
 have bs:=gO.drew
 generalize hw_W303:({ b9 with drawn:=b9.drawn + 1 }:World)=dk at bs ⊢
 refine zh rfl rfl rfl rfl rfl (nR (b:=(.slice bn aZ.length bo:Value)) (c:=(.slice bn ((nK aZ aS aY).length) bo:Value)) rfl (by simp only [nI])) (zm rfl rfl rfl rfl (bs.ldB (j:=3) rfl rfl bq zz (v:=.pointer (some ⟨ab,0,none⟩)) rfl) rfl (zL rfl rfl rfl rfl (fun _=>zi rfl rfl) (zL rfl rfl rfl rfl (fun _=>zI rfl rfl zN rfl zZ) (zL rfl rfl rfl rfl (fun _=>zI rfl rfl zE rfl zY) (zm rfl rfl rfl rfl (bs.ldB (j:=4) rfl rfl rfl zl (v:=.slice ai x28.Bout.Down.length aj) rfl) rfl (zm rfl rfl rfl rfl (bs.ldB (j:=3) rfl rfl bq zz (v:=.pointer (some ⟨ab,0,none⟩)) rfl) rfl (zL rfl rfl rfl rfl (fun _=>zi rfl rfl) (zL rfl rfl rfl rfl (fun _=>zI rfl rfl zN rfl zZ) (zL rfl rfl rfl rfl (fun _=>zI rfl rfl zE rfl ZO) (zm rfl rfl rfl rfl (bs.ldB (j:=4) rfl rfl rfl ZY (v:=.slice ak x28.Bout.Across.length ap) rfl) rfl (zL rfl rfl rfl rfl (fun _=>ZH (pv:=[(0,.slice bn ((nK aZ aS aY).length) bo),(1,.slice ai x28.Bout.Down.length aj),(2,.slice ak x28.Bout.Across.length ap)]) (z:=[.slice none 0 0,.slice none 0 0,.slice none 0 0]) (cs:=[.slice bn ((nK aZ aS aY).length) bo,.slice ai x28.Bout.Down.length aj,.slice ak x28.Bout.Across.length ap]) rfl (wAJ rfl (wAJ rfl (wAJ rfl wAl))) ZD wDA rfl rfl) ?_)))))))))))
 have q:=bs.freezeR (k:=0) (n:=(nK aZ aS aY).length) rfl (wAF (f:=KL.encI) (sz:=1) (fun _=>rfl) (nK aZ aS aY)) (by decide)
 obtain ⟨cY,bL,i5,gP⟩:=q
 have gQ:sW w U cY [mks (aU :: aR),B5,.blk au 89 B2,.blk ab 99 ([.slice ae x28.Bout.Shots.length ah,.slice ai x28.Bout.Down.length aj,.slice ak x28.Bout.Across.length ap,.map (some aa)] ++ ((hH KL.encI x28.hits.l) ++ ((hH KL.encI x28.used.l) ++ (hH KL.encT x28.met.l)))),.obj aa (.map az av),.blk b4 26 B0,B3] dk:=gP
 have fL:=cC.le bJ
 have fM:=fL.le bt
 have fN:=fM.le bK
 have fO:=fN.le bL
 have fP:=dP.le bJ
 have fQ:=fP.le bt
 have fR:=fQ.le bK
 have fS:=fR.le bL
 refine bnK iN fun bh fT iO=>zM 0 Z Z Z Z (zK Z Z Try.call45 (zD Z zS) Z) gQ (fun hs=>wCn (⟨(nK aZ aS aY),x28.Bout.Down,x28.Bout.Across⟩:wAC) bn bo ai aj ak ap dk cY hs i5 fO fS fT) (.inr Z) ?_
 rintro cZ jr j4 dm eh gS ⟨cf,bT,cg,bU,ci,bV,cj,bA,cu,cn,rfl,rfl,fU,fV,fW,fY⟩
 have gT:sW w U cZ [.blk cf 99 ([.slice bT bh.Bout.Shots.length cg,.slice bU bh.Bout.Down.length ci,.slice bV bh.Bout.Across.length cj,.map (some bA)] ++ ((hH KL.encI bh.hits.l) ++ ((hH KL.encI bh.used.l) ++ (hH KL.encT bh.met.l)))),.obj bA (.map cu cn),mks (aU :: aR),B5,.blk au 89 B2,.blk ab 99 ([.slice ae x28.Bout.Shots.length ah,.slice ai x28.Bout.Down.length aj,.slice ak x28.Bout.Across.length ap,.map (some aa)] ++ ((hH KL.encI x28.hits.l) ++ ((hH KL.encI x28.used.l) ++ (hH KL.encT x28.met.l)))),.obj aa (.map az av),.blk b4 26 B0,B3] dm:=gS
 have q:=bnd iO
 obtain ⟨⟨ey,cM⟩,fZ,ed⟩:=q
 try dsimp only at ed
 refine zM 2 Z Z Z Z (zK Z Z Try.call46 (zD Z zS) Z) gT (fun hs=>wBg bh cf bT cg bU ci bV cj bA cu cn dm cZ hs fU fV fW fY fZ) (.inl Z) ?_
 rintro bZ jt j5 eK ei gW ⟨cO,eV,rfl,rfl,ga⟩
 have cG:sW w U bZ [.row cO eV 3 1 (hH KL.encI ey),.blk cf 99 ([.slice bT bh.Bout.Shots.length cg,.slice bU bh.Bout.Down.length ci,.slice bV bh.Bout.Across.length cj,.map (some bA)] ++ ((hH KL.encI cM.1.l) ++ ((hH KL.encI cM.2.1.l) ++ (hH KL.encT cM.2.2.l)))),.obj bA (.map cu cn),mks (aU :: aR),B5,.blk au 89 B2,.blk ab 99 ([.slice ae x28.Bout.Shots.length ah,.slice ai x28.Bout.Down.length aj,.slice ak x28.Bout.Across.length ap,.map (some aa)] ++ ((hH KL.encI x28.hits.l) ++ ((hH KL.encI x28.used.l) ++ (hH KL.encT x28.met.l)))),.obj aa (.map az av),.blk b4 26 B0,B3] eK:=gW
 have gb:cO.isNone=decide (ey=[]):=wGy (j:=0) cG rfl (fun _=>rfl) (by decide) ga
 refine oR Z (Runs.eqNilR Z Z Z zA gb) (eN (ifc ed ?_ ?_))
 intro cp iP
 refine cT Z cp (ZN (zg (wIs ?_)))
 have q:=wAo iP
 obtain ⟨jf,iQ,eY⟩:=q
 have q:=d7 jf eY
 obtain rfl:=q
 refine zg (ZB ?_)
 cases iQ
 exact zH ⟨bZ,rfl,bq,cw,bD,cx,bw,cy,cz,cA,((((bt.trans bK).trans bL).trans eh).trans ei),(cG.pick [3,4,5,6,7,8,9] _ (by decide) rfl)⟩
 intro cp iR
 refine cF Z cp (kN (rR fL3 Z (oM Z bw (oR Z (zW Z Z Z) (oA Z Z (zo (zf ?_)))))))
 have q:=nD iR
 obtain rfl:=q
 exact zH ⟨_,rfl,⟨bZ,rfl,bq,cw,dL,bD,cx,rfl,cy,cz,cA,((((bt.trans bK).trans bL).trans eh).trans ei),(cG.pick [3,4,5,6,7,8,9] _ (by decide) rfl)⟩⟩
 have ef:=eg;rw [if_neg bl] at ef;replace bl:=zG bl
 refine cF Z bl (ZN (zg ?_))
 have q:=wAo ef
 obtain ⟨jg,iT,eZ⟩:=q
 have q:=d7 jg eZ
 obtain rfl:=q
 refine zg (ZB ?_)
 cases iT
 exact zH ⟨cW,Z,bq,cw,bD,cx,bw,cy,cz,cA,bt,bG⟩
 rintro D_ lc jy ⟨eD,rfl,ff,fg,cB,fh,fj,fm,fq,ft,ja,dW⟩
 refine rR (wHT (.fx 4 (.fx 5 (wNW (.fx 11 (.fx 12 (.fl 13 .nil) .stop) .stop)) .stop) .stop)) Z (oM Z fg (oM Z cB (oM Z cB (oL Z (dW.ldB (j:=1) Z Z fh zJ (v:=jV bm) Z) (Za (pv:=[(0,jV bm)]) (zs:=[jV 0]) (cs:=[jV bm]) Z Z Z Z Z (wAJ Z wAl) zA zC Zi Z Z Z Z Z dW ?_)))))
 intro cd dt gX
 have gZ:sW w U eD [.row (some ⟨dt,0,none⟩) 1 3 1 (hH KL.encI [bm]),mks (aU :: aR),B5,.blk au 89 B2,.blk ab 99 ([.slice ae x28.Bout.Shots.length ah,.slice ai x28.Bout.Down.length aj,.slice ak x28.Bout.Across.length ap,.map (some aa)] ++ ((hH KL.encI x28.hits.l) ++ ((hH KL.encI x28.used.l) ++ (hH KL.encT x28.met.l)))),.obj aa (.map az av),.blk b4 26 B0,B3] cd:=gX
 have q:=gZ.freezeR (k:=0) (n:=[bm].length) rfl (wAF (f:=KL.encI) (sz:=1) (fun _=>rfl) [bm]) (by decide)
 obtain ⟨da,jb,i6,g7⟩:=q
 have g8:sW w U da [mks (aU :: aR),B5,.blk au 89 B2,.blk ab 99 ([.slice ae x28.Bout.Shots.length ah,.slice ai x28.Bout.Down.length aj,.slice ak x28.Bout.Across.length ap,.map (some aa)] ++ ((hH KL.encI x28.hits.l) ++ ((hH KL.encI x28.used.l) ++ (hH KL.encT x28.met.l)))),.obj aa (.map az av),.blk b4 26 B0,B3] cd:=g7
 refine bnK iL fun bB gc iW=>zM 0 Z Z Z Z (zK Z Z Try.call47 (zD Z (zD Z zS)) Z) g8 (fun hs=>wEE x106 [bm] (some ⟨dt,0,none⟩) 1 cd da hs i6 gc) (.inr Z) ?_
 rintro bC ju j6 eL jc ib ⟨rfl,rfl⟩
 have ic:sW w U bC [mks (aU :: aR),B5,.blk au 89 B2,.blk ab 99 ([.slice ae x28.Bout.Shots.length ah,.slice ai x28.Bout.Down.length aj,.slice ak x28.Bout.Across.length ap,.map (some aa)] ++ ((hH KL.encI x28.hits.l) ++ ((hH KL.encI x28.used.l) ++ (hH KL.encT x28.met.l)))),.obj aa (.map az av),.blk b4 26 B0,B3] eL:=ib
 refine oR Z (Zc Z Z Z) (oM Z cB (oM Z fj (oR Z (Zc Z Z Z) ?_)))
 let B6:List Value:=[jV (w64 (x106 - bB)),jV (w64 (x106 - bu))]
 refine oR Z (ZH (pv:=[(0,jV (w64 (x106 - bB))),(1,jV (w64 (x106 - bu)))]) (z:=[jV 0,jV 0]) (cs:=B6) Z (wAJ Z (wAJ Z wAl)) ZV wFV Z Z) (Za (pv:=[(0,.agg B6.toArray)]) (zs:=[jV 0,jV 0]) (cs:=B6) Z Z Z Z Z (wAJ Z wAl) Try.runUnderlying37 ZE ZV Z Z Z Z Z ic ?_)
 intro eM eU ie
 let B7:Res:=.row (some ⟨eU,0,none⟩) 1 44 2 (hH wAQ [(⟨w64 (x106 - bB),w64 (x106 - bu)⟩:wAb)])
 have dX:sW w U bC [B7,mks (aU :: aR),B5,.blk au 89 B2,.blk ab 99 ([.slice ae x28.Bout.Shots.length ah,.slice ai x28.Bout.Down.length aj,.slice ak x28.Bout.Across.length ap,.map (some aa)] ++ ((hH KL.encI x28.hits.l) ++ ((hH KL.encI x28.used.l) ++ (hH KL.encT x28.met.l)))),.obj aa (.map az av),.blk b4 26 B0,B3] eM:=ie
 refine bnK iW fun ez ge iX=>OKS.append (j:=7) (enc:=wAQ) (xs:=bf) (ys:=[(⟨w64 (x106 - bB),w64 (x106 - bu)⟩:wAb)]) (zs:=ez) rfl rfl rfl rfl rfl Try.underlying37 wPv rfl rfl rfl rfl rfl rfl dX rfl rfl rfl (dX.srcR (j:=0) rfl (by decide) (wAF (f:=wAQ) (sz:=2) (fun _=>rfl) [(⟨w64 (x106 - bB),w64 (x106 - bu)⟩:wAb)])) (fun _=>rfl) (fun _=>rfl) ge rfl ?_
 intro cP dx eO ig
 have ii:sW w U bC [B7,mks (aU :: aR),B5,.blk au 89 B2,.blk ab 99 ([.slice ae x28.Bout.Shots.length ah,.slice ai x28.Bout.Down.length aj,.slice ak x28.Bout.Across.length ap,.map (some aa)] ++ ((hH KL.encI x28.hits.l) ++ ((hH KL.encI x28.used.l) ++ (hH KL.encT x28.met.l)))),.obj aa (.map az av),.blk b4 26 B0,.row cP dx 44 2 (hH wAQ ez)] eO:=ig
 refine oA Z Z (zo (zf (zH (rR fL2 Z (oR Z (zu (zW Z ft Z) (congrArg (jV) iH.out)) (oM Z Z (zo ?_)))))))
 cases iX
 exact zH ⟨bC,(aU :: aR),cP,dx,rfl,rfl,ff,rfl,fm,fq,(((((bM.trans bI).trans bJ).trans ja).trans jb).trans jc),(ii.pick [3,4,5,6,1,7] _ (by decide) rfl)⟩
 exact eX.elim
 rintro D_ lf jz ⟨db,je,cQ,dy,rfl,fy,jN,fu,jO,fw,jR,ik⟩
 have eW:Hid (¬ ((↑(((↑x28.Bout.Shots.length:Int):Int) - 0).toNat:Int) < (↑x28.Bout.Shots.length:Int))):=zG (wBD)
 refine sR fL1 Z (oR Z (zX Z fy fw) (eN (zF (cF Z eW (ZN (zg (zg (ZB (zH (sR fL3 Z (oM Z fu (oA Z Z (oA Z Z (eN (zQ ?_)))))))))))))))
 let B8:Res:=.row cQ dy 44 2 (hH wAQ jk)
 refine wDv (by first | exact .inl rfl | exact .inr rfl) (rbs:=je) (L:=[.blk au 89 B2,.blk ab 99 ([.slice ae x28.Bout.Shots.length ah,.slice ai x28.Bout.Down.length aj,.slice ak x28.Bout.Across.length ap,.map (some aa)] ++ ((hH KL.encI x28.hits.l) ++ ((hH KL.encI x28.used.l) ++ (hH KL.encT x28.met.l)))),.obj aa (.map az av),.blk b4 26 B0,B8]) (ik.pick [4,0,1,2,3,5] _ (by decide) rfl) fun eQ im=>?_
 have io:sW w U db [.blk au 89 B2,.blk ab 99 ([.slice ae x28.Bout.Shots.length ah,.slice ai x28.Bout.Down.length aj,.slice ak x28.Bout.Across.length ap,.map (some aa)] ++ ((hH KL.encI x28.hits.l) ++ ((hH KL.encI x28.used.l) ++ (hH KL.encT x28.met.l)))),.obj aa (.map az av),.blk b4 26 B0,B8] eQ:=im
 cases i3
 exact ⟨_,(wGU rfl rfl),db,_,(io.pick [4] _ (by decide) rfl),cQ,dy,rfl,rfl⟩
 intro ct iY
 refine cT Z ct (sR fL3 Z (oM Z Z (oA Z Z (oA Z Z (eN (zQ (zO ?_)))))))
 have ip:=bH.nilrow 44 2
 refine wDv (by first | exact .inl rfl | exact .inr rfl) (rbs:=[]) (L:=[.row none 0 44 2 [],.blk au 89 B2,.blk ab 99 ([.slice ae x28.Bout.Shots.length ah,.slice ai x28.Bout.Down.length aj,.slice ak x28.Bout.Across.length ap,.map (some aa)] ++ ((hH KL.encI x28.hits.l) ++ ((hH KL.encI x28.used.l) ++ (hH KL.encT x28.met.l)))),.obj aa (.map az av),.blk b4 26 B0]) (ip.pick [5,0,1,2,3,4] _ (by decide) rfl) fun eR iq=>?_
 have ir:sW w U ba [.row none 0 44 2 [],.blk au 89 B2,.blk ab 99 ([.slice ae x28.Bout.Shots.length ah,.slice ai x28.Bout.Down.length aj,.slice ak x28.Bout.Across.length ap,.map (some aa)] ++ ((hH KL.encI x28.hits.l) ++ ((hH KL.encI x28.used.l) ++ (hH KL.encT x28.met.l)))),.obj aa (.map az av),.blk b4 26 B0] eR:=iq
 cases iY
 exact ⟨_,(wGU rfl rfl),ba,_,(ir.pick [0] _ (by decide) rfl),none,0,rfl,rfl⟩
end Go.Proofs.Ytfcmijinklojbaa
