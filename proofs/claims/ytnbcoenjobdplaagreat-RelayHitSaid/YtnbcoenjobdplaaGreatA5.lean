import Derived.Test.YtnbcoenjobdplaaGreatA4
set_option linter.all false
open List renaming flatMap->hH
open Option.some renaming inj->nA
open Go.Value renaming bool->nB
open Bool renaming eq_false_iff->nD
open Prod.mk renaming injEq->nE
open Nat renaming blt->nG,le_of_ble_eq_true->nH
namespace Go.Proofs.YtnbcoenjobdplaaGreat
open Go.KL
def gAa:Sch:=.fl 1 (.fl 2 .nil)
def gAb:Sch:=.fl 2 (.fl 3 .nil)
def gAc:Sch:=.fl 3 (.fl 4 .nil)
def gAd:Sch:=.fl 4 (.fl 5 .nil)
def gAe:Sch:=.fl 7 (.fl 8 .nil)
def gAf:Sch:=.fl 0 (.fx 1 .nil .stop)
def gAg:Sch:=.fx 3 (.fl 4 .nil) .stop
def gAh:Sch:=.fx 1 (.fl 2 .nil) .stop
def gAi:Sch:=.fx 0 (.fl 1 .nil) .stop
def gAj:Sch:=.fx 0 (.fx 1 .nil .stop) .stop
def gAk:Sch:=.fx 6 (.fl 7 .nil) .stop
def gAl:Sch:=.fl 1 (.fx 2 (.fl 3 .nil) .stop)
def gAm:Sch:=.fx 6 gAe .stop
def gAn:Sch:=.fl 5 (.fx 6 (.fx 7 .nil .stop) .stop)
def gAo:Sch:=.fl 0 gAh
def gAp:Sch:=.fx 3 (.fl 4 (.fx 5 .nil .stop)) .stop
def gAq:Sch:=.fl 0 gAl
def gAr:Sch:=.fx 4 (.fx 5 (.fl 6 (.fx 7 .nil .stop)) .stop) .stop
def gAs:Sch:=.fl 0 (.fx 1 gAb .stop)
def gAt:Sch:=.fx 4 gAn .stop
def gAu:Sch:=.fx 3 (.fx 4 (.fl 5 (.fx 6 .nil .stop)) .stop) .stop
def gAv:Sch:=.fl 0 (.fl 1 (.fx 2 (.fx 3 .nil .stop) .stop))
def gAw:Sch:=.fx 3 gAr .stop
def gAx:Sch:=.fl 0 (.fl 1 (.fx 2 gAc .stop))
def gAy:Sch:=.fl 0 (.fl 1 (.fx 2 gAg .stop))
def gAz:Sch:=.fx 4 (.fl 5 (.fx 6 (.fx 7 (.fl 8 (.fx 9 .nil .stop)) .stop) .stop)) .stop
set_option maxHeartbeats 4000000
theorem Z {α:Type} {a:α}:a=a:=rfl
section
variable {r:Option Nat} {N:Nat} {P:Program} {l:List Oper} {Q:wCd} {D:List Deferred} {ks:List Nat} {σ:Env} {w:World} {i d j e:Nat} {s:Sch} {o:Oper} {b:Bool} {x:Operand} {v:Value} {p:Prop} {inst:Decidable p} {K:List Deferred->Env->World->Prop} {c1 c2:Code}
abbrev jV (n:Int):Value:=.int .i64 n
abbrev SW (w:World) (X:List Res) (U U':PHeap) (L:List Res) (w':World):Prop:=St ⟨w,X,U⟩ U' L w'
abbrev sW (w:World) (U U':PHeap) (L:List Res) (w':World):Prop:=St ⟨w,[],U⟩ U' L w'
abbrev St0 (w:World) (U:PHeap) (L:List Res):Prop:=St ⟨w,L,U⟩ U L w
theorem ifc {α:Type} {G p:Prop} {inst:Decidable p} {a b r:α} (h:@ite α p inst a b=r) (h1:Hid p->a=r->G) (h2:Hid (¬ p)->b=r->G):G:=by
 by_cases c:p
 rw [if_pos c] at h;exact h1 ⟨c⟩ h
 rw [if_neg c] at h;exact h2 ⟨c⟩ h
theorem bnK {α β:Type} {G:Prop} {o:Option α} {f:α->Option β} {r:β} (h:o.bind f=some r) (k:∀ x,o=some x->f x=some r->G):G:=by
 obtain ⟨x,h1,h2⟩:=bnd h
 exact k x h1 h2
theorem oR (h:(l[i]?,o.dst,nG d N,wanted l σ o)=(some o,some d,true,true)) (hr:∀ {w'},Runs P σ w' o v w') (k:OKS N P l Q D ks s (upd σ d v) w):OKS N P l Q D ks (.fl i s) σ w:=by
 simp only [nE] at h;exact OKS.r h.1 h.2.1 h.2.2.1 h.2.2.2 (fun _=>hr) k
theorem oL (h:(l[i]?,o.dst,nG d N,wanted l σ o,wPz (kOf ks i))=(some o,some d,true,true,false)) (hr:wEp P σ w o v) (k:OKS N P l Q D ks s (upd σ d v) w):OKS N P l Q D ks (.fl i s) σ w:=by
 simp only [nE] at h;exact OKS.m h.1 h.2.1 h.2.2.1 h.2.2.2.1 hr h.2.2.2.2 k
theorem oM (h:(l[i]?,o.dst,nG d N,wanted l σ o,o.op)=(some o,some d,true,true,.move x)) (hx:ev σ x=v) (k:OKS N P l Q D ks s (upd σ d v) w):OKS N P l Q D ks (.fl i s) σ w:=by
 simp only [nE] at h;exact OKS.rm h.1 h.2.1 h.2.2.1 h.2.2.2.1 h.2.2.2.2 hx k
theorem oA (h:(l[i]?,o.dst,nG d N,wanted l σ o,o.op)=(some o,some d,true,true,.assign x)) (hx:ev σ x=v) (k:OKS N P l Q D ks s (upd σ d v) w):OKS N P l Q D ks (.fl i s) σ w:=by
 simp only [nE] at h;exact OKS.ra h.1 h.2.1 h.2.2.1 h.2.2.2.1 h.2.2.2.2 hx k
theorem oF (h:(l[i]?,o.dst,nG d N,o.guard,(l[j]?).bind (·.dst),σ e,false == b)=(some o,some d,true,some (j,b),some e,.bool (decide p),false)) (c:Hid (¬ p)) (k:OKS N P l Q D ks s (upd σ d undef) w):OKS N P l Q D ks (.fl i s) σ w:=by
 simp only [nE] at h;exact OKS.p h.1 h.2.1 h.2.2.1 (wFk h.2.2.2.1 h.2.2.2.2.1 (h.2.2.2.2.2.1.trans (wPy c.out)) h.2.2.2.2.2.2) k
theorem oT (h:(l[i]?,o.dst,nG d N,o.guard,(l[j]?).bind (·.dst),σ e,true == b)=(some o,some d,true,some (j,b),some e,.bool (decide p),false)) (c:Hid p) (k:OKS N P l Q D ks s (upd σ d undef) w):OKS N P l Q D ks (.fl i s) σ w:=by
 simp only [nE] at h;exact OKS.p h.1 h.2.1 h.2.2.1 (wFk h.2.2.2.1 h.2.2.2.2.1 (h.2.2.2.2.2.1.trans (wGb c.out)) h.2.2.2.2.2.2) k
theorem oN {b2:Bool} (h:(l[i]?,o.dst,nG d N,o.guard,(l[j]?).bind (·.dst),σ e,b2 == b)=(some o,some d,true,some (j,b),some e,.bool b2,false)) (k:OKS N P l Q D ks s (upd σ d undef) w):OKS N P l Q D ks (.fl i s) σ w:=by
 simp only [nE] at h;exact OKS.p h.1 h.2.1 h.2.2.1 (wFk h.2.2.2.1 h.2.2.2.2.1 h.2.2.2.2.2.1 h.2.2.2.2.2.2) k
theorem nC {a b:Bool} (h:a=b):nB (!a)=nB (!b):=h ▸ rfl
theorem nF {a:Bool} (h:¬ a=true):nB (!a)=nB (!false):=nC (nD.2 h)
theorem wT (h:(o.guard,(l[j]?).bind (·.dst),σ e)=(some (j,true),some e,.bool (decide p))) (c:Hid p):wanted l σ o=true:=by
 simp only [nE] at h;exact wHG h.1 h.2.1 (h.2.2.trans (wGb c.out))
theorem wF (h:(o.guard,(l[j]?).bind (·.dst),σ e)=(some (j,false),some e,.bool (decide p))) (c:Hid (¬ p)):wanted l σ o=true:=by
 simp only [nE] at h;exact wHG h.1 h.2.1 (h.2.2.trans (wPy c.out))
theorem rU (h:(l[i]?,o.dst,nG d N)=(some o,some d,true)) (hw:wanted l σ o=true) (hr:∀ {w'},Runs P σ w' o v w') (k:OKS N P l Q D ks s (upd σ d v) w):OKS N P l Q D ks (.fl i s) σ w:=by
 simp only [nE] at h;exact OKS.r h.1 h.2.1 h.2.2 hw (fun _=>hr) k
theorem sR {id:Nat} (s:Sch) (hs:inOrder 0 s l.length=true) (h:OKS N P l (wET (fun D σ w=>CK r N P c2 Q D σ w) Q) D [] s σ w):CK r N P (.seq (.region id l.toArray false) c2) Q D σ w:=CK.seq (CK.reg s hs h)
theorem rR {id:Nat} (s:Sch) (hs:inOrder 0 s l.length=true) (h:OKS N P l Q D [] s σ w):CK r N P (.region id l.toArray false) Q D σ w:=CK.reg s hs h
theorem eN (h:K D σ w):OKS N P l (wET K Q) D ks .nil σ w:=OKS.e (wHC h)
theorem cT (hz:ev σ x=.bool (decide p)) (c:Hid p) (h:CK r N P c1 Q D σ w):CK r N P (.cond x c1 c2) Q D σ w:=CK.condT (hz.trans (wGb c.out)) h
theorem cF (hz:ev σ x=.bool (decide p)) (c:Hid (¬ p)) (h:CK r N P c2 Q D σ w):CK r N P (.cond x c1 c2) Q D σ w:=CK.condF (hz.trans (wPy c.out)) h
theorem kN (h:K D σ w):CK r N P .skip (wET K Q) D σ w:=CK.skip (wHC h)
end
def fL1:Sch:=.fl 0 .nil
def fL2:Sch:=.fl 0 (.fl 1 .nil)
def fL3:Sch:=.fl 0 gAa
def fL4:Sch:=.fl 0 (.fl 1 gAb)
def fL5:Sch:=.fl 0 (.fl 1 (.fl 2 gAc))
def fL6:Sch:=.fl 0 (.fl 1 (.fl 2 (.fl 3 gAd)))
def fL7:Sch:=.fl 0 (.fl 1 (.fl 2 (.fl 3 (.fl 4 (.fl 5 (.fl 6 .nil))))))
def fL8:Sch:=.fl 0 (.fl 1 (.fl 2 (.fl 3 (.fl 4 (.fl 5 (.fl 6 (.fl 7 .nil)))))))
def fL9:Sch:=.fl 0 (.fl 1 (.fl 2 (.fl 3 (.fl 4 (.fl 5 (.fl 6 gAe))))))
def fL10:Sch:=.fl 0 (.fl 1 (.fl 2 (.fl 3 (.fl 4 (.fl 5 (.fl 6 (.fl 7 (.fl 8 (.fl 9 .nil)))))))))
def wPx:Sch:=.fl 0 (.fl 1 (.fl 2 (.fl 3 (.fl 4 (.fl 5 (.fl 6 (.fl 7 (.fl 8 (.fl 9 (.fl 10 .nil))))))))))
def fL13:Sch:=.fl 0 (.fl 1 (.fl 2 (.fl 3 (.fl 4 (.fl 5 (.fl 6 (.fl 7 (.fl 8 (.fl 9 (.fl 10 (.fl 11 (.fl 12 .nil))))))))))))
def fL17:Sch:=.fl 0 (.fl 1 (.fl 2 (.fl 3 (.fl 4 (.fl 5 (.fl 6 (.fl 7 (.fl 8 (.fl 9 (.fl 10 (.fl 11 (.fl 12 (.fl 13 (.fl 14 (.fl 15 (.fl 16 .nil))))))))))))))))
def fL19:Sch:=.fl 0 (.fl 1 (.fl 2 (.fl 3 (.fl 4 (.fl 5 (.fl 6 (.fl 7 (.fl 8 (.fl 9 (.fl 10 (.fl 11 (.fl 12 (.fl 13 (.fl 14 (.fl 15 (.fl 16 (.fl 17 (.fl 18 .nil))))))))))))))))))
def fL22:Sch:=.fl 0 (.fl 1 (.fl 2 (.fl 3 (.fl 4 (.fl 5 (.fl 6 (.fl 7 (.fl 8 (.fl 9 (.fl 10 (.fl 11 (.fl 12 (.fl 13 (.fl 14 (.fl 15 (.fl 16 (.fl 17 (.fl 18 (.fl 19 (.fl 20 (.fl 21 .nil)))))))))))))))))))))
def fL30:Sch:=.fl 0 (.fl 1 (.fl 2 (.fl 3 (.fl 4 (.fl 5 (.fl 6 (.fl 7 (.fl 8 (.fl 9 (.fl 10 (.fl 11 (.fl 12 (.fl 13 (.fl 14 (.fl 15 (.fl 16 (.fl 17 (.fl 18 (.fl 19 (.fl 20 (.fl 21 (.fl 22 (.fl 23 (.fl 24 (.fl 25 (.fl 26 (.fl 27 (.fl 28 (.fl 29 .nil)))))))))))))))))))))))))))))
def fL33:Sch:=.fl 0 (.fl 1 (.fl 2 (.fl 3 (.fl 4 (.fl 5 (.fl 6 (.fl 7 (.fl 8 (.fl 9 (.fl 10 (.fl 11 (.fl 12 (.fl 13 (.fl 14 (.fl 15 (.fl 16 (.fl 17 (.fl 18 (.fl 19 (.fl 20 (.fl 21 (.fl 22 (.fl 23 (.fl 24 (.fl 25 (.fl 26 (.fl 27 (.fl 28 (.fl 29 (.fl 30 (.fl 31 (.fl 32 .nil))))))))))))))))))))))))))))))))
def wCu (s:Sch):Sch:=.fl 0 (.fl 1 (.fl 2 (s)))
def wIS (s:Sch):Sch:=.fl 0 (.fl 1 (.fl 2 (.fl 3 (s))))
def wMp (s:Sch):Sch:=.fl 0 (.fl 1 (.fl 2 (.fl 3 (.fl 4 (s)))))
def wKo (s:Sch):Sch:=.fl 0 (.fl 1 (.fl 2 (.fl 3 (.fl 4 (.fl 5 (s))))))
def fC0_6 (s:Sch):Sch:=.fl 0 (.fl 1 (.fl 2 (.fl 3 (.fl 4 (.fl 5 (.fl 6 (s)))))))
def fC0_7 (s:Sch):Sch:=.fl 0 (.fl 1 (.fl 2 (.fl 3 (.fl 4 (.fl 5 (.fl 6 (.fl 7 (s))))))))
def fC0_8 (s:Sch):Sch:=.fl 0 (.fl 1 (.fl 2 (.fl 3 (.fl 4 (.fl 5 (.fl 6 (.fl 7 (.fl 8 (s)))))))))
def wQu (s:Sch):Sch:=.fl 0 (.fl 1 (.fl 2 (.fl 3 (.fl 4 (.fl 5 (.fl 6 (.fl 7 (.fl 8 (.fl 9 (.fl 10 (.fl 11 (s))))))))))))
def wOJ (s:Sch):Sch:=.fl 0 (.fl 1 (.fl 2 (.fl 3 (.fl 4 (.fl 5 (.fl 6 (.fl 7 (.fl 8 (.fl 9 (.fl 10 (.fl 11 (.fl 12 (.fl 13 (.fl 14 (s)))))))))))))))
def wQv (s:Sch):Sch:=.fl 0 (.fl 1 (.fl 2 (.fl 3 (.fl 4 (.fl 5 (.fl 6 (.fl 7 (.fl 8 (.fl 9 (.fl 10 (.fl 11 (.fl 12 (.fl 13 (.fl 14 (.fl 15 (.fl 16 (.fl 17 (.fl 18 (s)))))))))))))))))))
def wMq (s:Sch):Sch:=.fl 2 (.fl 3 (.fl 4 (s)))
def fC2_6 (s:Sch):Sch:=.fl 2 (.fl 3 (.fl 4 (.fl 5 (.fl 6 (s)))))
def fC2_9 (s:Sch):Sch:=.fl 2 (.fl 3 (.fl 4 (.fl 5 (.fl 6 (.fl 7 (.fl 8 (.fl 9 (s))))))))
def fC3_5 (s:Sch):Sch:=.fl 3 (.fl 4 (.fl 5 (s)))
def fC3_6 (s:Sch):Sch:=.fl 3 (.fl 4 (.fl 5 (.fl 6 (s))))
def fC4_7 (s:Sch):Sch:=.fl 4 (.fl 5 (.fl 6 (.fl 7 (s))))
def wQw (s:Sch):Sch:=.fl 4 (.fl 5 (.fl 6 (.fl 7 (.fl 8 (.fl 9 (.fl 10 (s)))))))
def wQx (s:Sch):Sch:=.fl 4 (.fl 5 (.fl 6 (.fl 7 (.fl 8 (.fl 9 (.fl 10 (.fl 11 (.fl 12 (.fl 13 (s))))))))))
def fC7_9 (s:Sch):Sch:=.fl 7 (.fl 8 (.fl 9 (s)))
def wOK (s:Sch):Sch:=.fl 8 (.fl 9 (.fl 10 (s)))
def wPl (s:Sch):Sch:=.fl 12 (.fl 13 (.fl 14 (s)))
def wPm (s:Sch):Sch:=.fl 13 (.fl 14 (.fl 15 (.fl 16 (s))))
theorem zA:type_of% @nH:=@nH
theorem zB:type_of% @Runs.fa:=@Runs.fa
theorem zC:type_of% @wKs:=@wKs
theorem zD:type_of% @Hid.mk:=@Hid.mk
theorem zE:type_of% @CK.seq:=@CK.seq
theorem zF:type_of% @wHC:=@wHC
theorem zG:type_of% @Tryz.sizeOf3:=@Tryz.sizeOf3
theorem zH:type_of% @Tryz.runUnderlying28:=@Tryz.runUnderlying28
theorem zI:type_of% @Tryz.runUnderlying23:=@Tryz.runUnderlying23
theorem zJ:type_of% @Enters.mk:=@Enters.mk
theorem zK:type_of% @wKr:=@wKr
theorem zL:type_of% @PHeap.Le.refl:=@PHeap.Le.refl
theorem zM:type_of% @Tryz.sizeOf23:=@Tryz.sizeOf23
theorem zN:type_of% @OKS.callH:=@OKS.callH
theorem zO:type_of% @wNm:=@wNm
theorem zP:type_of% @Tryz.runUnderlying43:=@Tryz.runUnderlying43
theorem zQ:type_of% @CK.ret:=@CK.ret
theorem zR:type_of% @CK.block:=@CK.block
theorem zS:type_of% @Tryz.runUnderlying25:=@Tryz.runUnderlying25
theorem zU:type_of% @Tryz.isAgg3:=@Tryz.isAgg3
theorem zV:type_of% @Runs.len:=@Runs.len
theorem zW:type_of% @wKq:=@wKq
theorem zX:type_of% @Tryz.runUnderlying46:=@Tryz.runUnderlying46
theorem zY:type_of% @OKS.st:=@OKS.st
theorem zZ:type_of% @Runs.lss:=@Runs.lss
theorem zd:type_of% @wJV:=@wJV
theorem ze:type_of% @Runs.addw:=@Runs.addw
theorem zf:type_of% @Tryz.isAgg23:=@Tryz.isAgg23
theorem zg:type_of% @Tryz.runUnderlying26:=@Tryz.runUnderlying26
theorem zh:type_of% @Tryz.runUnderlying34:=@Tryz.runUnderlying34
theorem zi:type_of% @wHG:=@wHG
theorem zj:type_of% @wJU:=@wJU
theorem zk:type_of% @Tryz.sizeOf43:=@Tryz.sizeOf43
theorem zm:type_of% @Tryz.runUnderlying32:=@Tryz.runUnderlying32
theorem zn:type_of% @Tryz.sizeOf46:=@Tryz.sizeOf46
theorem zo:type_of% @OKS.alloc:=@OKS.alloc
theorem zp:type_of% @Tryz.sizeOf28:=@Tryz.sizeOf28
theorem zq:type_of% @Tryz.sizeOf25:=@Tryz.sizeOf25
theorem zr:type_of% @OKS.e:=@OKS.e
theorem zt:type_of% @Tryz.runUnderlying41:=@Tryz.runUnderlying41
theorem zu:type_of% @OKS.buildSlice:=@OKS.buildSlice
theorem zw:type_of% @Tryz.sizeOf32:=@Tryz.sizeOf32
theorem zx:type_of% @CK.condF:=@CK.condF
theorem zy:type_of% @Runs.iaN:=@Runs.iaN
theorem zz:type_of% @Tryz.sizeOf41:=@Tryz.sizeOf41
theorem ZA:type_of% @res1:=@res1
theorem ZB:type_of% @wHD:=@wHD
theorem ZC:type_of% @Tryz.zeroValue46:=@Tryz.zeroValue46
theorem ZD:type_of% @Tryz.sizeOf26:=@Tryz.sizeOf26
theorem ZE:type_of% @OKS.r:=@OKS.r
theorem ZF:type_of% @Runs.pickT:=@Runs.pickT
theorem ZG:type_of% @OKS.p:=@OKS.p
theorem ZH:type_of% @Runs.pickF:=@Runs.pickF
theorem ZI:type_of% @Tryz.runUnderlying47:=@Tryz.runUnderlying47
theorem ZJ:type_of% @Tryz.runUnderlying44:=@Tryz.runUnderlying44
theorem ZK:type_of% @Tryz.zeroValue43:=@Tryz.zeroValue43
theorem ZL:type_of% @Tryz.runUnderlying100:=@Tryz.runUnderlying100
theorem ZM:type_of% @CK.exit:=@CK.exit
theorem ZN:type_of% @Tryz.isAgg32:=@Tryz.isAgg32
theorem ZO:type_of% @Runs.build:=@Runs.build
theorem ZP:type_of% @Runs.to:=@Runs.to
theorem ZQ:type_of% @CK.condT:=@CK.condT
theorem ZR:type_of% @wPy:=@wPy
theorem ZS:type_of% @wFk:=@wFk
theorem ZT:type_of% @Tryz.runUnderlying130:=@Tryz.runUnderlying130
theorem ZU:type_of% @Runs.notT:=@Runs.notT
theorem ZV:type_of% @Tryz.mixed:=@Tryz.mixed
theorem ZW:type_of% @Runs.nilp:=@Runs.nilp
theorem ZX:type_of% @Tryz.isAgg26:=@Tryz.isAgg26
theorem ZY:type_of% @OKS.rm:=@OKS.rm
theorem Za:type_of% @Tryz.sizeOf49:=@Tryz.sizeOf49
theorem Zb:type_of% @CK.anyOrd:=@CK.anyOrd
theorem Zc:type_of% @Tryz.isAgg28:=@Tryz.isAgg28
theorem Zd:type_of% @Tryz.zeroValue28:=@Tryz.zeroValue28
theorem Ze:type_of% @Tryz.sizeOf44:=@Tryz.sizeOf44
theorem Zf:type_of% @Tryz.sizeOf34:=@Tryz.sizeOf34
theorem Zg:type_of% @Runs.subw:=@Runs.subw
theorem Zh:type_of% @OKS.box:=@OKS.box
theorem Zi:type_of% @Tryz.isAgg41:=@Tryz.isAgg41
theorem Zj:type_of% @Tryz.underlying23:=@Tryz.underlying23
theorem Zk:type_of% @Runs.neq:=@Runs.neq
theorem Zl:type_of% @Tryz.isAgg43:=@Tryz.isAgg43
theorem Zm:type_of% @Tryz.zeroValue34:=@Tryz.zeroValue34
theorem Zn:type_of% @Tryz.call27:=@Tryz.call27
theorem Zo:type_of% @Tryz.runUnderlying53:=@Tryz.runUnderlying53
theorem Zp:type_of% @CK.skip:=@CK.skip
theorem Zq:type_of% @Tryz.sizeOf35:=@Tryz.sizeOf35
theorem Zr:type_of% @Tryz.zeroValue49:=@Tryz.zeroValue49
theorem Zs:type_of% @Runs.ext:=@Runs.ext
theorem Zt:type_of% @OKS.m:=@OKS.m
theorem Zu:type_of% @OKS.append:=@OKS.append
theorem Zv:type_of% @Tryz.isAgg46:=@Tryz.isAgg46
theorem Zw:type_of% @Tryz.isAgg35:=@Tryz.isAgg35
theorem Zx:type_of% @OKS.appendR:=@OKS.appendR
theorem Zy:type_of% @Tryz.call35:=@Tryz.call35
theorem Zz:type_of% @Tryz.isAgg44:=@Tryz.isAgg44
theorem yA:type_of% @Tryz.zeroValue3:=@Tryz.zeroValue3
theorem yB:type_of% @CK.forN:=@CK.forN
theorem yC:type_of% @Tryz.sizeOf47:=@Tryz.sizeOf47
theorem yD:type_of% @Tryz.zeroValue222:=@Tryz.zeroValue222
theorem yE:type_of% @Tryz.isAgg25:=@Tryz.isAgg25
theorem yF:type_of% @Runs.gtr:=@Runs.gtr
end Go.Proofs.YtnbcoenjobdplaaGreat
namespace Go.Proofs.YtnbcoenjobdplaaGreat
open Go.KL
set_option maxHeartbeats 4000000
theorem wGQ (p0:List Int) (ae:Option Addr) (ah:Nat) (w:World) (U:PHeap) (hS:St0 w U []) (ap:Sl U 1 ae ah p0.length (hH KL.encB8 p0)) {r:wAA} (hm:wCB p0=some r):Gv Tryz.prog 7 [.slice ae p0.length ah] w (wCi w [] U (fun U_ L_ v=>∃ (b0:Nat) (A0p0:Option Addr) (c0p0:Nat),v=.pointer (some ⟨b0,0,none⟩)/\L_=[.blk b0 100 [.slice A0p0 r.bytes.length c0p0,jV r.next,.int .u32 r.state]]/\Sl U_ 1 A0p0 c0p0 r.bytes.length (hH KL.encB8 r.bytes))):=by
 unfold wCB at hm
 refine Gv.of Tryz.func7 Z Tryz.ntmps7 Tryz.results7 Z (sR fL1 Z (oA Z Z (eN (sR gAq Z (oM Z Z ?_)))))
 let B0:List Value:=[.slice ae p0.length ah,jV 0,.int .u32 17]
 refine ZE rfl rfl rfl rfl (fun _=>ZO (pv:=[(0,.slice ae p0.length ah),(2,.int .u32 17)]) (z:=[.slice none 0 0,jV 0,.int .u32 0]) (cs:=B0) rfl (wAI rfl (wAI rfl wAT)) Tryz.zeroValue100 wMc rfl rfl) (Zh (cs:=B0) rfl rfl rfl rfl rfl rfl (by rfl) hS ?_)
 intro W1 b2 am
 refine oA Z Z (eN (zQ ?_))
 cases hm
 exact ⟨Z,_,(ZA Z),U,_,am,b2,ae,ah,Z,Z,ap⟩
theorem wAN (p0:wAA) (ak:Nat) (ah:Option Addr) (ai:Nat) (p1:Int) (w:World) (U:PHeap) (hS:St0 w U [.blk ak 100 [.slice ah p0.bytes.length ai,jV p0.next,.int .u32 p0.state]]) (ap:Sl U 1 ah ai p0.bytes.length (hH KL.encB8 p0.bytes)) {r:Int × wAA} (hm:wAE p0 p1=some r):Gv Tryz.prog 27 [.pointer (some ⟨ak,0,none⟩),jV p1] w (wCi w [.blk ak 100 [.slice ah p0.bytes.length ai,jV p0.next,.int .u32 p0.state]] U (fun U_ L_ v=>∃ (aO:Option Addr) (aQ:Nat),v=jV r.1/\L_=[.blk ak 100 [.slice aO r.2.bytes.length aQ,jV r.2.next,.int .u32 r.2.state]]/\Sl U_ 1 aO aQ r.2.bytes.length (hH KL.encB8 r.2.bytes))):=by
 unfold wAE at hm
 refine Gv.of Tryz.func27 Z Tryz.ntmps27 Tryz.results27 Z (sR fL1 Z (oA Z Z (eN (zE (sR fL10 Z (oM Z Z (oR Z (Runs.leq Z Z Z) (oM Z Z ?_))))))))
 by_cases c2:p1 <= 1
 have aT:=hm;rw [if_pos c2] at aT;replace c2:=zD c2
 refine oT Z c2 (oT Z c2 (oT Z c2 (oT Z c2 (oT Z c2 (oT Z c2 (oR Z (ZF Z (wGb c2.out) Z) (eN (ZQ Z (sR fL1 Z (oA Z Z (eN (zQ (zK ?_)))))))))))))
 cases aT
 exact ⟨Z,_,(ZA Z),U,_,hS,ah,ai,Z,Z,ap⟩
 have aU:=hm;rw [if_neg c2] at aU;replace c2:=zD c2
 refine ZY Z Z Z (wF Z c2) Z Z (rU Z (wF Z c2) (ZW Z Z) (rU Z (wF Z c2) (zB Z Z ZL Z Tryz.sizeOf22) (Zt Z Z Z (wF Z c2) (hS.ldB (j:=0) Z Z Z Tryz.isAgg22 (v:=.slice ah p0.bytes.length ai) Z) Z (rU Z (wF Z c2) (zV Z Z Tryz.runUnderlying22) (rU Z (wF Z c2) (Runs.eql Z Z Z) (oR Z (ZH Z (ZR c2.out) Z) (eN (ifc aU ?_ ?_))))))))
 intro c5 bv
 refine cT Z c5 (sR fL1 Z (oA Z Z (eN (zQ (zK ?_)))))
 cases bv
 exact ⟨Z,_,(ZA Z),U,_,hS,ah,ai,Z,Z,ap⟩
 intro c5 bw
 refine cF Z c5 (kN (zE (Zb ZV [3,3,3,1,3,3,3,1,3,3,3,1,3,3,3,1,3,3,3,3,1,3,3,3,1,3,3,3,3,3] fL30 (by kernel_rfl) ?_)))
 have aj:=hS.drew
 generalize hw_W9:({ w with drawn:=w.drawn + 1 }:World)=W9 at aj ⊢
 refine oM Z Z (oR Z (ZW Z Z) (oR Z (zB Z Z ZL Z Tryz.sizeOf22) (oL Z (aj.ldB (j:=0) Z Z Z Tryz.isAgg22 (v:=.slice ah p0.bytes.length ai) Z) (oM Z Z (oR Z (ZW Z Z) (oR Z (zB Z Z ZL Z zG) (oL Z (aj.ldB (j:=0) Z Z Z zU (v:=jV p0.next) Z) (oM Z Z (oR Z (ZW Z Z) (oR Z (zB Z Z ZL Z Tryz.sizeOf22) (oL Z (aj.ldB (j:=0) Z Z Z Tryz.isAgg22 (v:=.slice ah p0.bytes.length ai) Z) (oR Z (zV Z Z Tryz.runUnderlying22) (bnK bw fun bD aY bj=>oR Z (Runs.rem Z Z Z aY) (bnK bj fun aV aN bk=>?_))))))))))))))
 have q:=ap.el (fun _=>rfl) (wAX aN)
 obtain ⟨bB,bC,bf,bg⟩:=q
 refine oR Z (Runs.iaI Z Z bf Z Tryz.runUnderlying22 Tryz.sizeOf5 (wGl aN) (wHo aN)) (oL Z (aj.ldC (f:=0) bg (v:=.int .u8 aV) Z Z Tryz.isAgg5 Z) (oR Z (Runs.cvu Z Z Tryz.runUnderlying5 Tryz.runUnderlying98 Z Z) (oM Z Z (oR Z (ZW Z Z) (oR Z (zB Z Z ZL Z zG) (oL Z (aj.ldB (j:=0) Z Z Z zU (v:=jV p0.next) Z) (oM Z Z (oR Z (ZW Z Z) (oR Z (zB Z Z ZL Z Tryz.sizeOf22) (oL Z (aj.ldB (j:=0) Z Z Z Tryz.isAgg22 (v:=.slice ah p0.bytes.length ai) Z) (oR Z (zV Z Z Tryz.runUnderlying22) (bnK bk fun bz aZ bl=>oR Z (Runs.quo Z Z Z aZ) (oR Z (Runs.cvu Z Z Tryz.runUnderlying3 Tryz.runUnderlying98 Z Z) (oA Z Z (oA Z Z (eN (zE (CK.fresh fun aK av=>?_))))))))))))))))))
 have aq:aK 0=.pointer (some ⟨ak,0,none⟩):=(av 0).trans rfl
 have az:aK 1=jV p1:=(av 1).trans rfl
 have aH:aK 5=.int .u32 (wDd aV):=(av 5).trans rfl
 have aR:aK 6=.int .u32 (wDd bz):=(av 6).trans rfl
 clear av
 refine rR (fC0_6 (.fx 7 .nil .stop)) Z (oM Z aq (oR Z (ZW Z Z) (oR Z (zB Z Z ZL Z zG) (oL Z (aj.ldB (j:=0) Z Z Z zU (v:=jV p0.next) Z) (oR Z (ze Z Z Z) (oR Z (ZW Z Z) (oR Z (zB Z Z ZL Z zG) (zY (j:=0) (vs:=[jV (w64 (p0.next + 1))]) Z Z Z Z aj Z Z Z Z zG (zA Z) Z Z Z ?_))))))))
 intro aW bh
 let B0:Res:=.blk ak 100 [.slice ah p0.bytes.length ai,jV p0.next,.int .u32 p0.state]
 have aS:SW w [B0] U U [.blk ak 100 [.slice ah p0.bytes.length ai,jV (w64 (p0.next + 1)),.int .u32 p0.state]] aW:=bh
 refine eN (sR (wOJ (.fx 15 .nil .stop)) Z (oM Z aq (oM Z aq (oR Z (ZW Z Z) (oR Z (zB Z Z ZL Z Tryz.sizeOf98) (oL Z (aS.ldB (j:=0) Z Z Z Tryz.isAgg98 (v:=.int .u32 p0.state) Z) (oR Z (Runs.mulu Z Z Z) (oM Z aH (oR Z (Runs.addu Z Z Z) (oM Z aR (oR Z (Runs.mulu Z Z Z) (oR Z (Runs.addu Z Z Z) (oR Z (Runs.addu Z Z Z) (bnK bl fun aJ a0 bm=>oR Z (Runs.rem Z Z Z a0) (oR Z (ZW Z Z) (oR Z (zB Z Z ZL Z Tryz.sizeOf98) (zY (j:=0) (vs:=[.int .u32 aJ]) Z Z Z Z aS Z Z Z Z Tryz.sizeOf98 (zA Z) Z Z Z ?_)))))))))))))))))
 intro aX bi
 have au:SW w [B0] U U [.blk ak 100 [.slice ah p0.bytes.length ai,jV (w64 (p0.next + 1)),.int .u32 aJ]] aX:=bi
 refine eN (zE (sR fL6 Z (oM Z aR (oR Z (Runs.eql Z Z Z) (oM Z Z (ifc bm ?_ ?_))))))
 intro am bn
 refine ZY Z Z Z (wT Z am) Z az (rU Z (wT Z am) (Runs.leq Z Z Z) (oR Z (ZF Z (wGb am.out) Z) (eN (ifc bn ?_ ?_))))
 intro aL bp
 refine cT Z aL (sR fL5 Z (oM Z aH (oR Z (Runs.cvw Z Z Tryz.runUnderlying98 Tryz.runUnderlying3 Z Z) (oM Z az (bnK bp fun x42 ba bq=>oR Z (Runs.rem Z Z Z ba) (oA Z Z (eN (zQ (zK ?_)))))))))
 cases bq
 exact ⟨Z,_,(ZA Z),U,_,au,ah,ai,Z,Z,ap⟩
 intro aL br
 refine cF Z aL (kN (sR wPx Z (oM Z aq (oR Z (ZW Z Z) (oR Z (zB Z Z ZL Z Tryz.sizeOf98) (oL Z (au.ldB (j:=0) Z Z Z Tryz.isAgg98 (v:=.int .u32 aJ) Z) (oR Z (Runs.mulu Z Z Z) (oM Z aH (oR Z (Runs.addu Z Z Z) (oR Z (Runs.cvw Z Z Tryz.runUnderlying98 Tryz.runUnderlying3 Z Z) (oM Z az (bnK br fun x46 bb bs=>oR Z (Runs.rem Z Z Z bb) (oA Z Z (eN (zQ ?_)))))))))))))))
 cases bs
 exact ⟨Z,_,(ZA Z),U,_,au,ah,ai,Z,Z,ap⟩
 intro am bt
 refine oF Z am (oF Z am (oR Z (ZH Z (ZR am.out) Z) (eN (zx Z (kN (sR wPx Z (oM Z aq (oR Z (ZW Z Z) (oR Z (zB Z Z ZL Z Tryz.sizeOf98) (oL Z (au.ldB (j:=0) Z Z Z Tryz.isAgg98 (v:=.int .u32 aJ) Z) (oR Z (Runs.mulu Z Z Z) (oM Z aH (oR Z (Runs.addu Z Z Z) (oR Z (Runs.cvw Z Z Tryz.runUnderlying98 Tryz.runUnderlying3 Z Z) (oM Z az (bnK bt fun x50 be bu=>oR Z (Runs.rem Z Z Z be) (oA Z Z (eN (zQ ?_)))))))))))))))))))
 cases bu
 exact ⟨Z,_,(ZA Z),U,_,au,ah,ai,Z,Z,ap⟩
theorem wAZ (p0:wAA) (ae:Nat) (ah:Option Addr) (ai:Nat) (p1:Int) (p2:Int) (w:World) (U:PHeap) (hS:St0 w U [.blk ae 100 [.slice ah p0.bytes.length ai,jV p0.next,.int .u32 p0.state]]) (aN:Sl U 1 ah ai p0.bytes.length (hH KL.encB8 p0.bytes)) {r:Int × wAA} (hm:wAK p0 p1 p2=some r):Gv Tryz.prog 28 [.pointer (some ⟨ae,0,none⟩),jV p1,jV p2] w (wCi w [.blk ae 100 [.slice ah p0.bytes.length ai,jV p0.next,.int .u32 p0.state]] U (fun U_ L_ v=>∃ (aq:Option Addr) (az:Nat),v=jV r.1/\L_=[.blk ae 100 [.slice aq r.2.bytes.length az,jV r.2.next,.int .u32 r.2.state]]/\Sl U_ 1 aq az r.2.bytes.length (hH KL.encB8 r.2.bytes))):=by
 unfold wAK at hm
 refine Gv.of Tryz.func28 Z Tryz.ntmps28 Tryz.results28 Z (sR fL1 Z (oA Z Z (eN (sR (wKo gAm) Z (oM Z Z (oM Z Z (oM Z Z (oM Z Z (oR Z (Zg Z Z Z) (oR Z (ze Z Z Z) ?_))))))))))
 have q:=bnd hm
 obtain ⟨⟨x2,x3⟩,h4,aH⟩:=q
 try dsimp only at aH
 refine zN 1 Z Z Z Z (zJ Z Z Zn (zC Z (zC Z zO)) Z) hS (fun hs=>wAN p0 ae ah ai (w64 ((w64 (p2 - p1)) + 1)) w U hs aN h4) (.inl Z) ?_
 rintro U6 L7 v8 W9 aP aL ⟨ap,av,rfl,rfl,aJ⟩
 have aM:SW w [.blk ae 100 [.slice ah p0.bytes.length ai,jV p0.next,.int .u32 p0.state]] U U6 [.blk ae 100 [.slice ap x3.bytes.length av,jV x3.next,.int .u32 x3.state]] W9:=aL
 refine oR Z (ze Z Z Z) (oA Z Z (eN (zQ ?_)))
 cases aH
 exact ⟨Z,_,(ZA Z),U6,_,aM,ap,av,Z,Z,aJ⟩
theorem wDw (p0:wAA) (aa:Nat) (aM:Option Addr) (aN:Nat) (p1:Int) (w:World) (U:PHeap) (hS:St0 w U [.blk aa 100 [.slice aM p0.bytes.length aN,jV p0.next,.int .u32 p0.state]]) (dS:Sl U 1 aM aN p0.bytes.length (hH KL.encB8 p0.bytes)) {r:wAC × wAA} (hm:wBP p0 p1=some r):Gv Tryz.prog 26 [.pointer (some ⟨aa,0,none⟩),jV p1] w (wCi w [.blk aa 100 [.slice aM p0.bytes.length aN,jV p0.next,.int .u32 p0.state]] U (fun U_ L_ v=>∃ (bq:Option Addr) (bO:Nat) (bB:Option Addr) (bY:Nat),v=.agg #[.slice bq r.1.Classes.length bO,jV r.1.Each,jV r.1.Laps,jV r.1.Spare,jV r.1.Loop,jV r.1.Unused]/\L_=[.row bq bO 3 1 (hH KL.encI r.1.Classes),.blk aa 100 [.slice bB r.2.bytes.length bY,jV r.2.next,.int .u32 r.2.state]]/\Sl U_ 1 bB bY r.2.bytes.length (hH KL.encB8 r.2.bytes))):=by
 unfold wBP at hm
 refine Gv.of Tryz.func26 Z Tryz.ntmps26 Tryz.results26 Z (sR (.fx 0 .nil .stop) Z ?_)
 let B0:List Value:=[.slice none 0 0,jV 0,jV 0,jV 0,jV 0,jV 0]
 refine zo (cs:=B0) Z Z Z Z Z Tryz.zeroValue25 Z hS ?_
 intro W2 b3 dE
 refine eN (sR (.fl 0 (.fx 1 (.fl 2 (.fx 3 (.fl 4 (.fx 5 (.fl 6 (.fx 7 (.fl 8 (.fl 9 (.fx 10 (.fl 11 (.fl 12 (.fx 13 (.fx 14 .nil .stop) .stop))) .stop))) .stop)) .stop)) .stop)) .stop)) Z (oM Z Z ?_))
 have q:=bnd hm
 obtain ⟨⟨x6,x7⟩,h8,cu⟩:=q
 try dsimp only at cu
 let B1:Res:=.blk aa 100 [.slice aM p0.bytes.length aN,jV p0.next,.int .u32 p0.state]
 have dm:SW w [B1] U U [B1,.blk b3 25 B0] W2:=dE.pick [1,0] _ (by decide) rfl
 refine zN 1 Z Z Z Z (zJ Z Z Tryz.call28 (zC Z (zC Z (zC Z zO))) Z) dm (fun hs=>wAZ p0 aa aM aN 1 2 W2 U hs dS h8) (.inl Z) ?_
 rintro bD d9 eH bI ez dr ⟨br,bQ,rfl,rfl,cR⟩
 have dt:SW w [B1] U bD [.blk aa 100 [.slice br x7.bytes.length bQ,jV x7.next,.int .u32 x7.state],.blk b3 25 B0] bI:=dr
 refine oM Z Z ?_
 have q:=bnd cu
 obtain ⟨⟨av,aX⟩,cW,cn⟩:=q
 try dsimp only at cn
 refine zN 1 Z Z Z Z (zJ Z Z Tryz.call28 (zC Z (zC Z (zC Z zO))) Z) dt (fun hs=>wAZ x7 aa br bQ 1 3 bI bD hs cR cW) (.inl Z) ?_
 rintro bE ed eJ bL eC dC ⟨bu,bT,rfl,rfl,cY⟩
 have dD:SW w [B1] U bE [.blk aa 100 [.slice bu aX.bytes.length bT,jV aX.next,.int .u32 aX.state],.blk b3 25 B0] bL:=dC
 refine oM Z Z ?_
 have q:=bnd cn
 obtain ⟨⟨x35,x36⟩,cZ,cp⟩:=q
 try dsimp only at cp
 refine zN 1 Z Z Z Z (zJ Z Z Zn (zC Z (zC Z zO)) Z) dD (fun hs=>wAN aX aa bu bT 100 bL bE hs cY cZ) (.inl Z) ?_
 rintro bG eg eK bM eD dF ⟨bv,bU,rfl,rfl,da⟩
 have dG:SW w [B1] U bG [.blk aa 100 [.slice bv x36.bytes.length bU,jV x36.next,.int .u32 x36.state],.blk b3 25 B0] bM:=dF
 refine oM Z Z ?_
 have q:=bnd cp
 obtain ⟨⟨x49,x50⟩,db,cq⟩:=q
 try dsimp only at cq
 refine zN 1 Z Z Z Z (zJ Z Z Zn (zC Z (zC Z zO)) Z) dG (fun hs=>wAN x36 aa bv bU 100 bM bG hs da db) (.inl Z) ?_
 rintro bH eh eM bN eE dH ⟨bw,bV,rfl,rfl,de⟩
 have dI:SW w [B1] U bH [.blk aa 100 [.slice bw x50.bytes.length bV,jV x50.next,.int .u32 x50.state],.blk b3 25 B0] bN:=dH
 refine oR Z (ze Z Z Z) (oM Z Z ?_)
 have q:=bnd cq
 obtain ⟨⟨aH,aY⟩,df,cr⟩:=q
 try dsimp only at cr
 refine zN 1 Z Z Z Z (zJ Z Z Zn (zC Z (zC Z zO)) Z) dI (fun hs=>wAN x50 aa bw bV 13 bN bH hs de df) (.inl Z) ?_
 rintro aT ei eO cI eF dJ ⟨bz,bW,rfl,rfl,dg⟩
 let B2:Res:=.blk aa 100 [.slice bz aY.bytes.length bW,jV aY.next,.int .u32 aY.state]
 have dK:SW w [B1] U aT [B2,.blk b3 25 B0] cI:=dJ
 refine oR Z (Runs.mulw Z Z Z) ?_
 let B3:List Value:=[.slice none 0 0,jV x6,jV av,jV x35,jV (w64 (200 + x49)),jV (w64 (100 * aH))]
 refine oR Z (ZO (pv:=[(1,jV x6),(2,jV av),(3,jV x35),(4,jV (w64 (200 + x49))),(5,jV (w64 (100 * aH)))]) (z:=B0) (cs:=B3) Z (wAI Z (wAI Z (wAI Z (wAI Z (wAI Z wAT))))) Tryz.zeroValue25 wNR Z Z) (zo (cs:=B0) Z Z Z Z Z Tryz.zeroValue25 Z dK ?_)
 intro eu ak dL
 refine zY (j:=0) (vs:=B3) Z Z Z Z dL Z Z Z Z zq (zA Z) Z Z Z ?_
 intro bg dM
 have dN:SW w [B1] U aT [.blk ak 25 B3,B2,.blk b3 25 B0] bg:=dM
 refine eN (zE (sR gAq Z (oM Z Z (oM Z Z ?_))))
 have q:=bnd cr
 obtain ⟨⟨x84,x85⟩,dk,ct⟩:=q
 try dsimp only at ct
 have dO:SW w [B1] U aT [B2,.blk ak 25 B3,.blk b3 25 B0] bg:=dN.pick [1,0,2] _ (by decide) rfl
 refine zN 1 Z Z Z Z (zJ Z Z Tryz.call28 (zC Z (zC Z (zC Z zO))) Z) dO (fun hs=>wAZ aY aa bz bW 1 p1 bg aT hs dg dk) (.inl Z) ?_
 rintro bf ej eP cJ eG dP ⟨bA,bX,rfl,rfl,dl⟩
 have dQ:SW w [B1] U bf [.blk aa 100 [.slice bA x85.bytes.length bX,jV x85.next,.int .u32 x85.state],.blk ak 25 B3,.blk b3 25 B0] cJ:=dP
 refine oM Z Z (eN (zR ?_))
 have q:=bnd ct
 obtain ⟨⟨dZ,d7,d8,cy⟩,dT,cj⟩:=q
 try dsimp only at cj
 have q:=wCD dT
 obtain ⟨bl,dU⟩:=q
 replace bl:=zD bl
 refine CK.forN' (fun aK (aL,x130,bn,am) σ_ w_=>∃ (U_:PHeap) (aP:Option Addr) (aU:Nat) (ap:Option Addr) (au:Nat),σ_ 22=jV (↑aK:Int)/\σ_ 0=.pointer (some ⟨aa,0,none⟩)/\σ_ 4=.pointer (some ⟨b3,0,none⟩)/\σ_ 5=.pointer (some ⟨ak,0,none⟩)/\σ_ 21=jV x84/\PHeap.Le bf U_/\SW w [B1] U U_ [.blk aa 100 [.slice aP aL.length aU,jV x130,.int .u32 bn],.row ap au 3 1 (hH KL.encI am),.blk ak 25 [.slice ap am.length au,jV x6,jV av,jV x35,jV (w64 (200 + x49)),jV (w64 (100 * aH))],.blk b3 25 B0] w_/\Sl U_ 1 aP aU aL.length (hH KL.encB8 aL)) dU ?_ ?_ ?_
 have dp:=dQ.nilrow 3 1
 exact ⟨bf,bA,bX,none,0,rfl,rfl,rfl,rfl,rfl,(zL _),(dp.pick [1,0,2,3] _ (by decide) rfl),dl⟩
 rintro aK ⟨aL,x130,bn,am⟩ eQ eR bJ bk ⟨cz,aP,aU,ap,au,cb,bZ,cM,bi,b5,dX,dq,cQ⟩ cw
 try dsimp only at cw
 have bP:Hid ((↑aK:Int) < x84):=zD (wBh bk)
 replace bk:=zD bk
 have dV:Hid (w64 ((↑aK:Int) + 1)=(↑(aK + 1):Int)):=zD (by have h1:=bl.out;have h2:=bP.out;rw [wAU] <;> omega)
 refine sR fL1 rfl (ZE rfl rfl rfl rfl (fun _=>zZ rfl cb b5) (eN (zE (cT Z bP (kN (zE (zR (Zb ZV [3,1004,3,1005,2,0,3,0,aa] (wCu gAw) (by kernel_rfl) ?_))))))))
 have bj:=dq.drew
 generalize hw_W196:({ bJ with drawn:=bJ.drawn + 1 }:World)=cA at bj ⊢
 refine oR Z (zB Z bi zS Z zM) ?_
 let B4:Res:=.blk ak 25 [.slice ap am.length au,jV x6,jV av,jV x35,jV (w64 (200 + x49)),jV (w64 (100 * aH))]
 let B5:Res:=.row ap au 3 1 (hH KL.encI am)
 refine OKS.mt (T:=[aa]) [0] [1,2,3] [B5,B4,.blk b3 25 B0] rfl rfl rfl rfl bj rfl ⟨⟨0,by decide,_,rfl,rfl⟩,trivial⟩ (by decide) rfl (by decide) (fun _ dR=>(dR.ldB (j:=1) rfl rfl rfl zf (v:=.slice ap am.length au) rfl)) rfl (ZY rfl rfl rfl rfl rfl bZ ?_)
 have q:=bnd cw
 obtain ⟨⟨aO,bp⟩,cS,cm⟩:=q
 try dsimp only at cm
 refine OKS.callHT 1 rfl rfl rfl rfl (zJ rfl rfl Zn (zC rfl (zC rfl zO)) rfl) bj (fun hs=>wAN (⟨aL,x130,bn⟩:wAA) aa aP aU 2 cA cz hs cQ cS) rfl (T:=[aa]) rfl ⟨fun b h=>(by cases h;exact .head _),trivial⟩ ?_
 rintro aJ eb eI cC dY du ⟨bs,bR,rfl,rfl,cU⟩
 let B6:Res:=.blk aa 100 [.slice bs bp.bytes.length bR,jV bp.next,.int .u32 bp.state]
 have dv:SW w [B1] U aJ [B6,B5,B4,.blk b3 25 B0] cC:=du
 refine zu (pv:=[(0,jV aO)]) (zs:=[jV 0]) (cs:=[jV aO]) Z Z Z Z Z (wAI Z wAT) zI zG yA Z Z Z Z Z dv ?_
 intro cD cK dw
 let B7:Res:=.row (some ⟨cK,0,none⟩) 1 3 1 (hH KL.encI [aO])
 have cd:SW w [B1] U aJ [B7,B6,B5,B4,.blk b3 25 B0] cD:=dw
 refine bnK cm fun aW cV dW=>Zu (j:=2) (enc:=KL.encI) (xs:=am) (ys:=[aO]) (zs:=aW) rfl rfl rfl rfl rfl Zj wHc rfl rfl rfl rfl rfl rfl cd rfl rfl rfl (cd.srcR (j:=0) rfl (by decide) (wAL (f:=KL.encI) (sz:=1) (fun _=>rfl) [aO])) (fun _=>rfl) (fun _=>rfl) cV rfl ?_
 intro aQ aV cE dx
 let B8:Res:=.row aQ aV 3 1 (hH KL.encI aW)
 have dy:SW w [B1] U aJ [B7,B6,B8,B4,.blk b3 25 B0] cE:=dx
 refine oR Z (zB Z bi zS Z zM) (zY (j:=3) (vs:=[.slice aQ aW.length aV]) Z Z Z Z dy Z Z Z Z zM (zA Z) Z Z Z ?_)
 intro cG dz
 have dA:SW w [B1] U aJ [B7,B6,B8,.blk ak 25 [.slice aQ aW.length aV,jV x6,jV av,jV x35,jV (w64 (200 + x49)),jV (w64 (100 * aH))],.blk b3 25 B0] cG:=dz
 refine zr (zj (zF (rR fL2 Z (oR Z (ZP (ze Z cb Z) (congrArg (jV) dV.out)) (oM Z Z (zr ?_))))))
 cases dW
 exact zF ⟨rfl,⟨aJ,bs,bR,aQ,aV,rfl,bZ,cM,bi,b5,(dX.trans dY),(dA.pick [1,2,3,4] _ (by decide) rfl),cU⟩⟩
 rintro eS en ⟨bF,bt,bS,a0,bh,cP,ey,b8,cN,cO,eA,cg,cX⟩
 have cL:Hid (¬ ((↑((x84:Int) - 0).toNat:Int) < x84)):=zD (wBH)
 refine sR fL1 Z (oR Z (zZ Z cP cO) (eN (zE (cF Z cL (ZM (zW (zW (ZB (zF (sR gAf Z ?_))))))))))
 let B9:List Value:=[.slice a0 cy.length bh,jV x6,jV av,jV x35,jV (w64 (200 + x49)),jV (w64 (100 * aH))]
 refine oL Z (cg.ldBA (j:=2) Z Z cN yE zq (vs:=B9) Z Z) (zY (j:=3) (vs:=B9) Z Z Z Z cg Z b8 Z Z zq (zA Z) Z Z Z ?_)
 intro cH dB
 have ci:SW w [B1] U bF [.blk aa 100 [.slice bt dZ.length bS,jV d7,.int .u32 d8],.row a0 bh 3 1 (hH KL.encI cy),.blk ak 25 B9,.blk b3 25 B9] cH:=dB
 refine eN (zQ ?_)
 cases cj
 exact ⟨rfl,_,(wDv (v:=.agg B9.toArray) ⟨⟨_,b8,(wDU yE zq (ci.blkAt (k:=3) rfl) (vs:=B9) rfl rfl)⟩,trivial⟩),bF,_,(ci.pick [1,0] _ (by decide) rfl),a0,bh,bt,bS,rfl,rfl,cX⟩
theorem wBZ (p0:wAA) (ae:Nat) (ah:Option Addr) (ai:Nat) (p1:Int) (w:World) (U:PHeap) (hS:St0 w U [.blk ae 100 [.slice ah p0.bytes.length ai,jV p0.next,.int .u32 p0.state]]) (aM:Sl U 1 ah ai p0.bytes.length (hH KL.encB8 p0.bytes)) {r:Bool × wAA} (hm:wAO p0 p1=some r):Gv Tryz.prog 22 [.pointer (some ⟨ae,0,none⟩),jV p1] w (wCi w [.blk ae 100 [.slice ah p0.bytes.length ai,jV p0.next,.int .u32 p0.state]] U (fun U_ L_ v=>∃ (ap:Option Addr) (av:Nat),v=.bool r.1/\L_=[.blk ae 100 [.slice ap r.2.bytes.length av,jV r.2.next,.int .u32 r.2.state]]/\Sl U_ 1 ap av r.2.bytes.length (hH KL.encB8 r.2.bytes))):=by
 unfold wAO at hm
 refine Gv.of Tryz.func22 Z Tryz.ntmps22 Tryz.results22 Z (sR fL1 Z (oA Z Z (eN (sR gAx Z (oM Z Z (oM Z Z ?_))))))
 have q:=bnd hm
 obtain ⟨⟨x2,x3⟩,h4,az⟩:=q
 try dsimp only at az
 refine zN 1 Z Z Z Z (zJ Z Z Zn (zC Z (zC Z zO)) Z) hS (fun hs=>wAN p0 ae ah ai p1 w U hs aM h4) (.inl Z) ?_
 rintro U6 L7 v8 W9 aO aK ⟨am,au,rfl,rfl,aI⟩
 have aL:SW w [.blk ae 100 [.slice ah p0.bytes.length ai,jV p0.next,.int .u32 p0.state]] U U6 [.blk ae 100 [.slice am x3.bytes.length au,jV x3.next,.int .u32 x3.state]] W9:=aK
 refine oR Z (Runs.eql Z Z Z) (oA Z Z (eN (zQ ?_)))
 cases az
 exact ⟨Z,_,(ZA Z),U6,_,aL,am,au,Z,Z,aI⟩
theorem wCk (p0:wAA) (ah:Nat) (aM:Option Addr) (aN:Nat) (w:World) (U:PHeap) (hS:St0 w U [.blk ah 100 [.slice aM p0.bytes.length aN,jV p0.next,.int .u32 p0.state]]) (cD:Sl U 1 aM aN p0.bytes.length (hH KL.encB8 p0.bytes)) {r:(List Bool) × wAA} (hm:wAP p0=some r):Gv Tryz.prog 29 [.pointer (some ⟨ah,0,none⟩)] w (wCi w [.blk ah 100 [.slice aM p0.bytes.length aN,jV p0.next,.int .u32 p0.state]] U (fun U_ L_ v=>∃ (A0:Option Addr) (c0:Nat) (bt:Option Addr) (bC:Nat),v=.slice A0 r.1.length c0/\L_=[.row A0 c0 4 1 (hH KL.encT r.1),.blk ah 100 [.slice bt r.2.bytes.length bC,jV r.2.next,.int .u32 r.2.state]]/\Sl U_ 1 bt bC r.2.bytes.length (hH KL.encB8 r.2.bytes))):=by
 unfold wAP at hm
 refine Gv.of Tryz.func29 Z Tryz.ntmps29 Tryz.results29 Z (sR fL1 Z (oA Z Z (eN (sR fL1 Z (oA Z Z (eN (zE (sR fL1 Z (oA Z Z (eN (zR ?_)))))))))))
 let B0:Res:=.blk ah 100 [.slice aM p0.bytes.length aN,jV p0.next,.int .u32 p0.state]
 refine CK.iter (fun (aI,aU,x35,aH,x40) σ_ w_=>∃ (U_:PHeap) (aq:Option Addr) (au:Nat) (ak:Option Addr) (ap:Nat),σ_ 0=.pointer (some ⟨ah,0,none⟩)/\σ_ 3=.slice ak aH.length ap/\σ_ 4=jV x40/\PHeap.Le U U_/\SW w [B0] U U_ [.blk ah 100 [.slice aq aI.length au,jV aU,.int .u32 x35],.row ak ap 4 1 (hH KL.encT aH)] w_/\Sl U_ 1 aq au aI.length (hH KL.encB8 aI)) hm ?_ ?_
 have cw:=hS.nilrow 4 1
 exact ⟨U,aM,aN,none,0,rfl,rfl,rfl,(zL _),(cw.pick [1,0] _ (by decide) rfl),cD⟩
 rintro ⟨aI,aU,x35,aH,x40⟩ dg dh bA ⟨aQ,aq,au,ak,ap,av,az,aL,aT,aS,aR⟩ bp bn
 try dsimp only at bp
 refine zE (sR (wQu (.fx 12 (wPm (.nil)) .stop)) Z (oM Z aL (oR Z (zZ Z Z Z) (oM Z Z ?_))))
 by_cases aa:x40 < 5
 have bO:=bp;rw [if_pos aa] at bO;replace aa:=zD aa
 refine ZY Z Z Z (wT Z aa) Z az (rU Z (wT Z aa) (zV Z Z ZI) (rU Z (wT Z aa) (zZ Z Z Z) (ZY Z Z Z (wT Z aa) Z Z (ifc bO ?_ ?_))))
 intro ae cQ
 refine oT Z ae (oT Z ae (oT Z ae (oT Z ae (ZG Z Z Z (wAo Z Z Z) (OKS.px Z Z Z (wAo Z Z Z) (ZG Z Z Z (wAo Z Z Z) (oT Z ae (rU Z (wT Z aa) (ZF Z (wGb ae.out) Z) (oR Z (ZF Z (wGb aa.out) Z) (eN (ZQ Z (kN (zR (sR gAs Z (oM Z av ?_)))))))))))))))
 have q:=bnd cQ
 obtain ⟨⟨aP,br⟩,cm,bP⟩:=q
 try dsimp only at bP
 refine zN 1 Z Z Z Z (zJ Z Z Tryz.call22 (zC Z (zC Z zO)) Z) aS (fun hs=>wBZ (⟨aI,aU,x35⟩:wAA) ah aq au 4 bA aQ hs aR cm) (.inl Z) ?_
 rintro aK da df bW bS cy ⟨aY,bk,rfl,rfl,bF⟩
 let B1:Res:=.blk ah 100 [.slice aY br.bytes.length bk,jV br.next,.int .u32 br.state]
 let B2:Res:=.row ak ap 4 1 (hH KL.encT aH)
 have cz:SW w [B0] U aK [B1,B2] bW:=cy
 refine oR Z (ZU Z Z) (oA Z Z (eN (sR gAy Z (oM Z az (oM Z Z (zu (pv:=[(0,.bool (!aP))]) (zs:=[.bool false]) (cs:=[.bool (!aP)]) Z Z Z Z Z (wAI Z wAT) ZI Tryz.sizeOf4 Tryz.zeroValue4 Z Z Z Z Z cz ?_))))))
 intro bX b5 cA
 let B3:Res:=.row (some ⟨b5,0,none⟩) 1 4 1 (hH KL.encT [!aP])
 have bJ:SW w [B0] U aK [B3,B1,B2] bX:=cA
 refine bnK bP fun x80 cn cR=>Zu (j:=2) (enc:=KL.encT) (xs:=aH) (ys:=[!aP]) (zs:=x80) rfl rfl rfl rfl rfl Tryz.underlying47 wPO rfl rfl rfl rfl rfl rfl bJ rfl rfl rfl (bJ.srcR (j:=0) rfl (by decide) (wAL (f:=KL.encT) (sz:=1) (fun _=>rfl) [!aP])) (fun _=>rfl) (fun _=>rfl) cn rfl ?_
 intro aZ bl bY cC
 have bK:SW w [B0] U aK [B3,B1,.row aZ bl 4 1 (hH KL.encT x80)] bY:=cC
 refine oA Z Z (eN (sR fL1 Z (oM Z Z (eN (ifc cR ?_ ?_)))))
 intro bm cS
 refine zx (nC bm.out) (Zp (zj ?_))
 have q:=nA cS
 obtain rfl:=q
 exact zF ⟨rfl,_,rfl,⟨aK,aY,bk,aZ,bl,av,rfl,aL,(aT.trans bS),(bK.pick [1,2] _ (by decide) rfl),bF⟩⟩
 intro bm cU
 refine ZQ (nF (bm.out)) (rR fL3 Z (oM Z aL (oR Z (ze Z Z Z) (oA Z Z (zr (zj ?_))))))
 have q:=nA cU
 obtain rfl:=q
 exact zF ⟨rfl,_,rfl,⟨aK,aY,bk,aZ,bl,av,rfl,rfl,(aT.trans bS),(bK.pick [1,2] _ (by decide) rfl),bF⟩⟩
 intro ae cE
 refine ZY Z Z Z (wF Z ae) Z az (rU Z (wF Z ae) (zV Z Z ZI) (rU Z (wF Z ae) (zZ Z Z Z) (ZY Z Z Z (wF Z ae) Z Z (ifc cE ?_ ?_))))
 intro aj cG
 refine ZY Z Z Z (wT Z aj) Z av ?_
 have q:=bnd cG
 obtain ⟨⟨x112,x113⟩,cg,bL⟩:=q
 try dsimp only at bL
 refine zN 1 Z Z Z (wT Z aj) (zJ Z Z Tryz.call22 (zC Z (zC Z zO)) Z) aS (fun hs=>wBZ (⟨aI,aU,x35⟩:wAA) ah aq au 6 bA aQ hs aR cg) (.inl Z) ?_
 rintro be cY db bz bQ cp ⟨aV,bf,rfl,rfl,bD⟩
 let B4:Res:=.row ak ap 4 1 (hH KL.encT aH)
 have bG:SW w [B0] U be [.blk ah 100 [.slice aV x113.bytes.length bf,jV x113.next,.int .u32 x113.state],B4] bz:=cp
 refine rU Z (wT Z aj) (ZU Z Z) (rU Z (wF Z ae) (ZF Z (wGb aj.out) Z) (rU Z (wT Z aa) (ZH Z (ZR ae.out) Z) (oR Z (ZF Z (wGb aa.out) Z) (eN (ifc bL ?_ ?_)))))
 intro bg cH
 refine zx (nC bg.out) (ZM (zW ?_))
 have q:=wAa cH
 obtain ⟨cV,cI,b8⟩:=q
 have q:=bn cV b8
 obtain rfl:=q
 refine zW (ZB (zF (sR fL2 Z (oM Z az (oA Z Z (eN (zQ ?_)))))))
 cases cI
 exact ⟨rfl,_,(ZA rfl),be,_,(bG.pick [1,0] _ (by decide) rfl),ak,ap,aV,bf,rfl,rfl,bD⟩
 intro bg cJ
 refine ZQ (nF (bg.out)) (kN (zR (sR gAs Z (oM Z av ?_))))
 have q:=bnd cJ
 obtain ⟨⟨aO,bq⟩,ci,bM⟩:=q
 try dsimp only at bM
 refine zN 1 Z Z Z Z (zJ Z Z Tryz.call22 (zC Z (zC Z zO)) Z) bG (fun hs=>wBZ x113 ah aV bf 4 bz be hs bD ci) (.inl Z) ?_
 rintro aJ cZ de bT bR cq ⟨aW,bh,rfl,rfl,bE⟩
 let B5:Res:=.blk ah 100 [.slice aW bq.bytes.length bh,jV bq.next,.int .u32 bq.state]
 have cr:SW w [B0] U aJ [B5,B4] bT:=cq
 refine oR Z (ZU Z Z) (oA Z Z (eN (sR gAy Z (oM Z az (oM Z Z (zu (pv:=[(0,.bool (!aO))]) (zs:=[.bool false]) (cs:=[.bool (!aO)]) Z Z Z Z Z (wAI Z wAT) ZI Tryz.sizeOf4 Tryz.zeroValue4 Z Z Z Z Z cr ?_))))))
 intro bU bZ ct
 let B6:Res:=.row (some ⟨bZ,0,none⟩) 1 4 1 (hH KL.encT [!aO])
 have bH:SW w [B0] U aJ [B6,B5,B4] bU:=ct
 refine bnK bM fun x151 cj cK=>Zu (j:=2) (enc:=KL.encT) (xs:=aH) (ys:=[!aO]) (zs:=x151) rfl rfl rfl rfl rfl Tryz.underlying47 wPO rfl rfl rfl rfl rfl rfl bH rfl rfl rfl (bH.srcR (j:=0) rfl (by decide) (wAL (f:=KL.encT) (sz:=1) (fun _=>rfl) [!aO])) (fun _=>rfl) (fun _=>rfl) cj rfl ?_
 intro aX bi bV cu
 have bI:SW w [B0] U aJ [B6,B5,.row aX bi 4 1 (hH KL.encT x151)] bV:=cu
 refine oA Z Z (eN (sR fL1 Z (oM Z Z (eN (ifc cK ?_ ?_)))))
 intro bj cL
 refine zx (nC bj.out) (Zp (zj ?_))
 have q:=nA cL
 obtain rfl:=q
 exact zF ⟨rfl,_,rfl,⟨aJ,aW,bh,aX,bi,av,rfl,aL,((aT.trans bQ).trans bR),(bI.pick [1,2] _ (by decide) rfl),bE⟩⟩
 intro bj cM
 refine ZQ (nF (bj.out)) (rR fL3 Z (oM Z aL (oR Z (ze Z Z Z) (oA Z Z (zr (zj ?_))))))
 have q:=nA cM
 obtain rfl:=q
 exact zF ⟨rfl,_,rfl,⟨aJ,aW,bh,aX,bi,av,rfl,rfl,((aT.trans bQ).trans bR),(bI.pick [1,2] _ (by decide) rfl),bE⟩⟩
 intro aj cN
 refine oF Z aj (OKS.px Z Z Z (ZS Z Z (ZR aj.out) Z) (oF Z aj (rU Z (wF Z ae) (ZH Z (ZR aj.out) Z) (rU Z (wT Z aa) (ZH Z (ZR ae.out) Z) (oR Z (ZF Z (wGb aa.out) Z) (eN (zx Z (ZM (zW ?_)))))))))
 have q:=wAa cN
 obtain ⟨cW,cO,cb⟩:=q
 have q:=bn cW cb
 obtain rfl:=q
 refine zW (ZB (zF (sR fL2 Z (oM Z az (oA Z Z (eN (zQ ?_)))))))
 cases cO
 exact ⟨rfl,_,(ZA rfl),aQ,_,(aS.pick [1,0] _ (by decide) rfl),ak,ap,aq,au,rfl,rfl,aR⟩
 have bN:=bp;rw [if_neg aa] at bN;replace aa:=zD aa
 refine oF Z aa (oF Z aa (oF Z aa (oF Z aa (ZG Z Z Z (wAo Z Z Z) (ZG Z Z Z (wAo Z Z Z) (ZG Z Z Z (wAo Z Z Z) (ZG Z Z Z (wAo Z Z Z) (ZG Z Z Z (wAo Z Z Z) (OKS.px Z Z Z (wAo Z Z Z) (ZG Z Z Z (wAo Z Z Z) (ZG Z Z Z (wAo Z Z Z) (oF Z aa (oR Z (ZH Z (ZR aa.out) Z) (eN (zx Z (ZM (zW ?_)))))))))))))))))
 have q:=wAa bN
 obtain ⟨cX,cP,cd⟩:=q
 have q:=bn cX cd
 obtain rfl:=q
 refine zW (ZB (zF (sR fL2 Z (oM Z az (oA Z Z (eN (zQ ?_)))))))
 cases cP
 exact ⟨rfl,_,(ZA rfl),aQ,_,(aS.pick [1,0] _ (by decide) rfl),ak,ap,aq,au,rfl,rfl,aR⟩
theorem wEO (p0:wAA) (ak:Nat) (ej:Option Addr) (en:Nat) (p1:Int) (p2:Int) (w:World) (U:PHeap) (hS:St0 w U [.blk ak 100 [.slice ej p0.bytes.length en,jV p0.next,.int .u32 p0.state]]) (wE:Sl U 1 ej en p0.bytes.length (hH KL.encB8 p0.bytes)) {r:wAF × wAA} (hm:wBI p0 p1 p2=some r):Gv Tryz.prog 6 [.pointer (some ⟨ak,0,none⟩),jV p1,jV p2] w (wCi w [.blk ak 100 [.slice ej p0.bytes.length en,jV p0.next,.int .u32 p0.state]] U (fun U_ L_ v=>∃ (jw:Option Addr) (lm:Nat) (jx:Option Addr) (ln:Nat) (lL:List Value) (jN:Option Addr) (lK:Nat),v=.agg #[.slice jw r.1.Rules.Classes.length lm,jV r.1.Rules.Each,jV r.1.Rules.Laps,jV r.1.Rules.Spare,jV r.1.Rules.Loop,jV r.1.Rules.Unused,jV r.1.Start,.slice jx r.1.Teams.length ln]/\L_=[.row jw lm 3 1 (hH KL.encI r.1.Rules.Classes),.row jx ln 43 3 lL,.blk ak 100 [.slice jN r.2.bytes.length lK,jV r.2.next,.int .u32 r.2.state]]/\RlL U_ wFN r.1.Teams lL/\Sl U_ 1 jN lK r.2.bytes.length (hH KL.encB8 r.2.bytes))):=by
 unfold wBI at hm
 refine Gv.of Tryz.func6 Z Tryz.ntmps6 Tryz.results6 Z (sR (.fx 0 .nil .stop) Z ?_)
 let B0:List Value:=[.slice none 0 0,jV 0,jV 0,jV 0,jV 0,jV 0,jV 0,.slice none 0 0]
 refine zo (cs:=B0) Z Z Z Z Z Zd Z hS ?_
 intro W2 b3 vh
 refine eN (sR (.fl 0 (.fl 1 (.fx 2 (.fl 3 gAt) .stop))) Z (oM Z Z (oM Z Z ?_)))
 have q:=bnd hm
 obtain ⟨⟨x6,x7⟩,h8,m4⟩:=q
 try dsimp only at m4
 let B1:Res:=.blk ak 100 [.slice ej p0.bytes.length en,jV p0.next,.int .u32 p0.state]
 have tC:SW w [B1] U U [B1,.blk b3 28 B0] W2:=vh.pick [1,0] _ (by decide) rfl
 refine zN 1 Z Z Z Z (zJ Z Z Tryz.call26 (zC Z (zC Z zO)) Z) tC (fun hs=>wDw p0 ak ej en p2 W2 U hs wE h8) (.inl Z) ?_
 rintro gI yb yL gM yz uN ⟨aQ,aR,jD,lA,rfl,rfl,r7⟩
 let B2:Res:=.row aQ aR 3 1 (hH KL.encI x6.Classes)
 let B3:Res:=.blk ak 100 [.slice jD x7.bytes.length lA,jV x7.next,.int .u32 x7.state]
 have uS:SW w [B1] U gI [B2,B3,.blk b3 28 B0] gM:=uN
 refine oM Z Z ?_
 have q:=bnd m4
 obtain ⟨⟨cn,gc⟩,r9,mO⟩:=q
 try dsimp only at mO
 have uU:SW w [B1] U gI [B3,B2,.blk b3 28 B0] gM:=uS.pick [1,0,2] _ (by decide) rfl
 refine zN 1 Z Z Z Z (zJ Z Z Zn (zC Z (zC Z zO)) Z) uU (fun hs=>wAN x7 ak jD lA 50 gM gI hs r7 r9) (.inl Z) ?_
 rintro eT yh yQ pC yH u9 ⟨jG,lE,rfl,rfl,sh⟩
 let B4:Res:=.blk ak 100 [.slice jG gc.bytes.length lE,jV gc.next,.int .u32 gc.state]
 have vd:SW w [B1] U eT [B4,B2,.blk b3 28 B0] pC:=u9
 let B5:List Value:=[.slice aQ x6.Classes.length aR,jV x6.Each,jV x6.Laps,jV x6.Spare,jV x6.Loop,jV x6.Unused,jV cn,.slice none 0 0]
 refine oR Z (ZO (pv:=[(0,.agg #[.slice aQ x6.Classes.length aR,jV x6.Each,jV x6.Laps,jV x6.Spare,jV x6.Loop,jV x6.Unused]),(1,jV cn)]) (z:=B0) (cs:=B5) Z (wAI Z (wAI Z wAT)) Zd wHX Z Z) (zo (cs:=B0) Z Z Z Z Z Zd Z vd ?_)
 intro yv aT vi
 refine zY (j:=0) (vs:=B5) Z Z Z Z vi Z Z Z Z zp (zA Z) Z Z Z ?_
 intro gP vj
 have vk:SW w [B1] U eT [.blk aT 28 B5,B4,B2,.blk b3 28 B0] gP:=vj
 refine eN (zE (sR gAq Z (oM Z Z (oM Z Z ?_))))
 have q:=bnd mO
 obtain ⟨⟨x46,x47⟩,so,mW⟩:=q
 try dsimp only at mW
 have vr:SW w [B1] U eT [B4,.blk aT 28 B5,B2,.blk b3 28 B0] gP:=vk.pick [1,0,2,3] _ (by decide) rfl
 refine zN 1 Z Z Z Z (zJ Z Z Tryz.call28 (zC Z (zC Z (zC Z zO))) Z) vr (fun hs=>wAZ gc ak jG lE 1 p1 gP eT hs sh so) (.inl Z) ?_
 rintro gK ym yV pI yI vt ⟨jL,lI,rfl,rfl,sv⟩
 have vw:SW w [B1] U gK [.blk ak 100 [.slice jL x47.bytes.length lI,jV x47.next,.int .u32 x47.state],.blk aT 28 B5,B2,.blk b3 28 B0] pI:=vt
 refine oM Z Z (eN (zR ?_))
 have q:=bnd mW
 obtain ⟨⟨xU,xV,xW,xX⟩,wI,mD⟩:=q
 try dsimp only at mD
 have q:=wCD wI
 obtain ⟨iM,wJ⟩:=q
 replace iM:=zD iM
 refine CK.forN' (fun au (ei,jt,jv,bW) σ_ w_=>∃ (U_:PHeap) (eI:Option Addr) (e9:Nat) (bZ:Option Addr) (cg:Nat) (fb:List Value),σ_ 23=jV (↑au:Int)/\σ_ 0=.pointer (some ⟨ak,0,none⟩)/\σ_ 6=.pointer (some ⟨b3,0,none⟩)/\σ_ 7=.pointer (some ⟨aT,0,none⟩)/\σ_ 22=jV x46/\PHeap.Le gK U_/\SW w [B1] U U_ [.blk ak 100 [.slice eI ei.length e9,jV jt,.int .u32 jv],.row aQ aR 3 1 (hH KL.encI x6.Classes),.row bZ cg 43 3 fb,.blk aT 28 [.slice aQ x6.Classes.length aR,jV x6.Each,jV x6.Laps,jV x6.Spare,jV x6.Loop,jV x6.Unused,jV cn,.slice bZ bW.length cg],.blk b3 28 B0] w_/\Sl U_ 1 eI e9 ei.length (hH KL.encB8 ei)/\RlL U_ wFN bW fb) wJ ?_ ?_ ?_
 have tJ:=vw.nilrow 43 3
 exact ⟨gK,jL,lI,none,0,[],rfl,rfl,rfl,rfl,rfl,(zL _),(tJ.pick [1,3,0,2,4] _ (by decide) rfl),sv,RlL.nil⟩
 rintro au ⟨ei,jt,jv,bW⟩ z0 Ab o3 iK ⟨oy,eI,e9,bZ,cg,fb,iv,io,qp,qq,lS,od,tM,qQ,mb⟩ oa
 try dsimp only at oa
 have lu:Hid ((↑au:Int) < x46):=zD (wBh iK)
 replace iK:=zD iK
 have mC:Hid (w64 ((↑au:Int) + 1)=(↑(au + 1):Int)):=zD (by have h1:=iM.out;have h2:=lu.out;rw [wAU] <;> omega)
 refine sR fL1 Z (oR Z (zZ Z iv lS) (eN (zE (cT Z lu (kN (zE (zR (sR fL2 Z (oM Z iv (oA Z Z (eN (sR (wCu (.fx 3 (.fl 4 gAn) .stop)) Z (oM Z Z (oR Z (Runs.mulw Z Z Z) (oM Z io ?_)))))))))))))))
 have q:=bnd oa
 obtain ⟨⟨aL,gb⟩,qS,mJ⟩:=q
 try dsimp only at mJ
 refine zN 1 Z Z Z Z (zJ Z Z Tryz.call28 (zC Z (zC Z (zC Z zO))) Z) tM (fun hs=>wAZ (⟨ei,jt,jv⟩:wAA) ak eI e9 1 9 o3 oy hs qQ qS) (.inl Z) ?_
 rintro eS ye yN pb fE ud ⟨jA,lw,rfl,rfl,rp⟩
 let B6:Res:=.blk aT 28 [.slice aQ x6.Classes.length aR,jV x6.Each,jV x6.Laps,jV x6.Spare,jV x6.Loop,jV x6.Unused,jV cn,.slice bZ bW.length cg]
 let B7:Res:=.row bZ cg 43 3 fb
 let B8:Res:=.blk ak 100 [.slice jA gb.bytes.length lw,jV gb.next,.int .u32 gb.state]
 have um:SW w [B1] U eS [B8,B2,B7,B6,.blk b3 28 B0] pb:=ud
 refine oR Z (ze Z Z Z) ?_
 let B9:List Value:=[jV 0,.slice none 0 0,.slice none 0 0]
 let dr:List Value:=[jV (w64 ((w64 (9 * (↑au:Int))) + aL)),.slice none 0 0,.slice none 0 0]
 refine oR Z (ZO (pv:=[(0,jV (w64 ((w64 (9 * (↑au:Int))) + aL)))]) (z:=B9) (cs:=dr) Z (wAI Z wAT) ZK wHZ Z Z) (zo (cs:=B9) Z Z Z Z Z ZK Z um ?_)
 intro yt av uv
 refine zY (j:=0) (vs:=dr) Z Z Z Z uv Z Z Z Z zk (zA Z) Z Z Z ?_
 intro gO uA
 have uB:SW w [B1] U eS [.blk av 43 dr,B8,B2,B7,B6,.blk b3 28 B0] gO:=uA
 refine eN (zE (sR gAo Z (oM Z io ?_)))
 have q:=bnd mJ
 obtain ⟨⟨x152,x153⟩,rL,mM⟩:=q
 try dsimp only at mM
 have uL:SW w [B1] U eS [B8,.blk av 43 dr,B2,B7,B6,.blk b3 28 B0] gO:=uB.pick [1,0,2,3,4,5] _ (by decide) rfl
 refine zN 1 Z Z Z Z (zJ Z Z Tryz.call28 (zC Z (zC Z (zC Z zO))) Z) uL (fun hs=>wAZ gb ak jA lw 1 5 gO eS hs rp rL) (.inl Z) ?_
 rintro gJ yf yO pp fN uO ⟨jC,lz,rfl,rfl,r6⟩
 have uP:SW w [B1] U gJ [.blk ak 100 [.slice jC x153.bytes.length lz,jV x153.next,.int .u32 x153.state],.blk av 43 dr,B2,B7,B6,.blk b3 28 B0] pp:=uO
 refine oM Z Z (eN (zR ?_))
 have q:=bnd mM
 obtain ⟨⟨xY,xZ,x8,az⟩,wK,mN⟩:=q
 try dsimp only at mN
 have q:=wCD wK
 obtain ⟨iN,wL⟩:=q
 replace iN:=zD iN
 refine CK.forN' (fun eb (eg,je,jf,cm) σ_ w_=>∃ (U_:PHeap) (eF:Option Addr) (eY:Nat) (cq:Option Addr) (cL:Nat),σ_ 34=jV (↑eb:Int)/\σ_ 0=.pointer (some ⟨ak,0,none⟩)/\σ_ 6=.pointer (some ⟨b3,0,none⟩)/\σ_ 7=.pointer (some ⟨aT,0,none⟩)/\σ_ 9=.pointer (some ⟨av,0,none⟩)/\σ_ 22=jV x46/\σ_ 23=jV (↑au:Int)/\σ_ 33=jV x152/\PHeap.Le gJ U_/\SW w [B1] U U_ [.blk ak 100 [.slice eF eg.length eY,jV je,.int .u32 jf],.row cq cL 3 1 (hH KL.encI cm),.blk av 43 [jV (w64 ((w64 (9 * (↑au:Int))) + aL)),.slice cq cm.length cL,.slice none 0 0],B2,B7,B6,.blk b3 28 B0] w_/\Sl U_ 1 eF eY eg.length (hH KL.encB8 eg)) wL ?_ ?_ ?_
 have uQ:=uP.nilrow 3 1
 exact ⟨gJ,jC,lz,none,0,rfl,io,qp,qq,rfl,lS,iv,rfl,(zL _),(uQ.pick [1,0,2,3,4,5,6] _ (by decide) rfl),r6⟩
 rintro eb ⟨eg,je,jf,cm⟩ z7 Af j8 iL ⟨oI,eF,eY,cq,cL,l8,lU,qz,qA,iq,qB,qC,lV,xL,uR,r8⟩ oc
 try dsimp only at oc
 have lB:Hid ((↑eb:Int) < x152):=zD (wBh iL)
 replace iL:=zD iL
 have wM:Hid (w64 ((↑eb:Int) + 1)=(↑(eb + 1):Int)):=zD (by have h1:=iN.out;have h2:=lB.out;rw [wAU] <;> omega)
 refine sR fL1 rfl (ZE rfl rfl rfl rfl (fun _=>zZ rfl l8 lV) (eN (zE (cT Z lB (kN (zE (zR (Zb ZV [3,1004,3,1005,2,0,3,0,ak] (wCu gAw) (by kernel_rfl) ?_))))))))
 have iF:=uR.drew
 generalize hw_W267:({ j8 with drawn:=j8.drawn + 1 }:World)=pt at iF ⊢
 refine oR Z (zB Z iq zP Z zM) ?_
 let eJ:Res:=.blk av 43 [jV (w64 ((w64 (9 * (↑au:Int))) + aL)),.slice cq cm.length cL,.slice none 0 0]
 let gu:Res:=.row cq cL 3 1 (hH KL.encI cm)
 refine OKS.mt (T:=[ak]) [0] [1,2,3,4,5,6] [gu,eJ,B2,B7,B6,.blk b3 28 B0] rfl rfl rfl rfl iF rfl ⟨⟨0,by decide,_,rfl,rfl⟩,trivial⟩ (by decide) rfl (by decide) (fun _ wy=>(wy.ldB (j:=1) rfl rfl rfl zf (v:=.slice cq cm.length cL) rfl)) rfl (ZY rfl rfl rfl rfl rfl lU ?_)
 have q:=bnd oc
 obtain ⟨⟨ez,jg⟩,sb,mP⟩:=q
 try dsimp only at mP
 refine OKS.callHT 1 rfl rfl rfl rfl (zJ rfl rfl Zn (zC rfl (zC rfl zO)) rfl) iF (fun hs=>wAN (⟨eg,je,jf⟩:wAA) ak eF eY 2 pt oI hs r8 sb) rfl (T:=[ak]) rfl ⟨fun b h=>(by cases h;exact .head _),trivial⟩ ?_
 rintro dH yg yP pu xM uT ⟨jE,lD,rfl,rfl,sc⟩
 let eK:Res:=.blk ak 100 [.slice jE jg.bytes.length lD,jV jg.next,.int .u32 jg.state]
 have uV:SW w [B1] U dH [eK,gu,eJ,B2,B7,B6,.blk b3 28 B0] pu:=uT
 refine zu (pv:=[(0,jV ez)]) (zs:=[jV 0]) (cs:=[jV ez]) Z Z Z Z Z (wAI Z wAT) zI zG yA Z Z Z Z Z uV ?_
 intro py p9 uW
 let gv:Res:=.row (some ⟨p9,0,none⟩) 1 3 1 (hH KL.encI [ez])
 have mp:SW w [B1] U dH [gv,eK,gu,eJ,B2,B7,B6,.blk b3 28 B0] py:=uW
 refine bnK mP fun ge sd w5=>Zu (j:=2) (enc:=KL.encI) (xs:=cm) (ys:=[ez]) (zs:=ge) rfl rfl rfl rfl rfl Zj wHc rfl rfl rfl rfl rfl rfl mp rfl rfl rfl (mp.srcR (j:=0) rfl (by decide) (wAL (f:=KL.encI) (sz:=1) (fun _=>rfl) [ez])) (fun _=>rfl) (fun _=>rfl) sd rfl ?_
 intro eG eZ pz uX
 let jO:Res:=.row eG eZ 3 1 (hH KL.encI ge)
 have uY:SW w [B1] U dH [gv,eK,jO,eJ,B2,B7,B6,.blk b3 28 B0] pz:=uX
 refine oR Z (zB Z iq zP Z zM) (zY (j:=3) (vs:=[.slice eG ge.length eZ]) Z Z Z Z uY Z Z Z Z zM (zA Z) Z Z Z ?_)
 intro pB uZ
 have u0:SW w [B1] U dH [gv,eK,jO,.blk av 43 [jV (w64 ((w64 (9 * (↑au:Int))) + aL)),.slice eG ge.length eZ,.slice none 0 0],B2,B7,B6,.blk b3 28 B0] pB:=uZ
 refine zr (zj (zF (rR fL2 Z (oR Z (ZP (ze Z l8 Z) (congrArg (jV) wM.out)) (oM Z Z (zr ?_))))))
 cases w5
 exact zF ⟨rfl,⟨dH,jE,lD,eG,eZ,rfl,lU,qz,qA,iq,qB,qC,lV,(xL.trans xM),(u0.pick [1,2,3,4,5,6,7] _ (by decide) rfl),sc⟩⟩
 rintro Ag j9 ⟨oK,ox,qg,aH,aK,qL,dZ,lW,fj,lX,lY,lZ,qD,fO,u7,se⟩
 have qh:Hid (¬ ((↑((x152:Int) - 0).toNat:Int) < x152)):=zD (wBH)
 refine sR fL1 rfl (ZE rfl rfl rfl rfl (fun _=>zZ rfl qL qD) (eN (zE (cF Z qh (ZM (zW (zW (ZB (zF (zE (Zb ZV [3,1005,3,3,1004,3,3,3,1004,3,3,3,ak] (.fl 0 (fC2_9 (.fx 1 (.fl 10 (.fl 11 .nil)) .stop))) (by kernel_rfl) ?_)))))))))))
 have fz:=u7.drew
 generalize hw_W352:({ j9 with drawn:=j9.drawn + 1 }:World)=pD at fz ⊢
 refine oM Z dZ (oR Z (zB Z fj zH Z zq) (oR Z (zB Z Z zS Z zM) ?_))
 let aq:Res:=.row aH aK 3 1 (hH KL.encI az)
 let dt:Res:=.blk av 43 [jV (w64 ((w64 (9 * (↑au:Int))) + aL)),.slice aH az.length aK,.slice none 0 0]
 refine OKS.mt (T:=[ak]) [0] [1,2,3,4,5,6] [aq,dt,B2,B7,B6,.blk b3 28 B0] rfl rfl rfl rfl fz rfl ⟨⟨0,by decide,_,rfl,rfl⟩,trivial⟩ (by decide) rfl (by decide) (fun _ wz=>(wz.ldB (j:=4) rfl rfl rfl zf (v:=.slice aQ x6.Classes.length aR) rfl)) rfl (ZE rfl rfl rfl rfl (fun _=>zV rfl rfl zI) (ZE rfl rfl rfl rfl (fun _=>zB rfl fj zH rfl zq) (ZE rfl rfl rfl rfl (fun _=>zB rfl rfl zS rfl zG) (OKS.mt (T:=[ak]) [0] [1,2,3,4,5,6] [aq,dt,B2,B7,B6,.blk b3 28 B0] rfl rfl rfl rfl fz rfl ⟨⟨0,by decide,_,rfl,rfl⟩,trivial⟩ (by decide) rfl (by decide) (fun _ wA=>(wA.ldB (j:=4) rfl rfl rfl zU (v:=jV x6.Laps) rfl)) rfl (ZE rfl rfl rfl rfl (fun _=>Runs.mulw rfl rfl rfl) ?_)))))
 have q:=bnd mN
 obtain ⟨⟨bb,gf⟩,sf,mQ⟩:=q
 try dsimp only at mQ
 refine OKS.callHT 1 rfl rfl rfl rfl (zJ rfl rfl Tryz.call28 (zC rfl (zC rfl (zC rfl zO))) rfl) fz (fun hs=>wAZ (⟨xY,xZ,x8⟩:wAA) ak ox qg 300 900 pD oK hs se sf) rfl (T:=[ak]) rfl ⟨fun b h=>(by cases h;exact .head _),trivial⟩ ?_
 rintro jY yi yR k9 fP va ⟨jH,lF,rfl,rfl,sg⟩
 have vb:SW w [B1] U jY [.blk ak 100 [.slice jH gf.bytes.length lF,jV gf.next,.int .u32 gf.state],aq,dt,B2,B7,B6,.blk b3 28 B0] k9:=va
 refine oA Z Z (oA Z Z (eN (zE (sR gAf Z (oM Z dZ ?_)))))
 have q:=bnd mQ
 obtain ⟨⟨yY,gg⟩,sj,mR⟩:=q
 try dsimp only at mR
 refine zN 1 Z Z Z Z (zJ Z Z Tryz.call22 (zC Z (zC Z zO)) Z) vb (fun hs=>wBZ gf ak jH lF 4 k9 jY hs sg sj) (.inl Z) ?_
 rintro dI yj yS lc fQ vc ⟨gm,gW,rfl,rfl,mc⟩
 have mq:SW w [B1] U dI [.blk ak 100 [.slice gm gg.bytes.length gW,jV gg.next,.int .u32 gg.state],aq,dt,B2,B7,B6,.blk b3 28 B0] lc:=vc
 refine eN (ifc mR ?_ ?_)
 intro gX w6
 refine ZQ (congrArg nB gX.out) (rR (wCu gAg) Z (oM Z dZ (oM Z Z (oR Z (ze Z Z Z) ?_))))
 have q:=bnd w6
 obtain ⟨⟨yZ,jh⟩,sm,mS⟩:=q
 try dsimp only at mS
 refine zN 1 Z Z Z Z (zJ Z Z Zn (zC Z (zC Z zO)) Z) mq (fun hs=>wAN gg ak gm gW (w64 ((w64 ((↑x6.Classes.length:Int) * x6.Laps)) + 1)) lc dI hs mc sm) (.inl Z) ?_
 rintro eU yk yT pE oh ve ⟨jJ,lG,rfl,rfl,sn⟩
 have vg:SW w [B1] U eU [.blk ak 100 [.slice jJ jh.bytes.length lG,jV jh.next,.int .u32 jh.state],aq,dt,B2,B7,B6,.blk b3 28 B0] pE:=ve
 refine oA Z Z (eN ?_)
 have q:=bnd mS
 obtain ⟨⟨fA,om,oq,cR⟩,xJ,mT⟩:=q
 try dsimp only at mT
 refine CK.cut (fun σ_ w_=>∃ (U_:PHeap) (dg:Option Addr) (dN:Nat) (cr:Option Addr) (cM:Nat) (fc:List Value),σ_ 0=.pointer (some ⟨ak,0,none⟩)/\σ_ 6=.pointer (some ⟨b3,0,none⟩)/\σ_ 7=.pointer (some ⟨aT,0,none⟩)/\σ_ 9=.pointer (some ⟨av,0,none⟩)/\σ_ 22=jV x46/\σ_ 23=jV (↑au:Int)/\PHeap.Le eU U_/\SW w [B1] U U_ [.blk ak 100 [.slice dg fA.length dN,jV om,.int .u32 oq],.row aH aK 3 1 (hH KL.encI az),.row cr cM 46 3 fc,.blk av 43 [jV (w64 ((w64 (9 * (↑au:Int))) + aL)),.slice aH az.length aK,.slice cr cR.length cM],.row aQ aR 3 1 (hH KL.encI x6.Classes),B7,B6,.blk b3 28 B0] w_/\Sl U_ 1 dg dN fA.length (hH KL.encB8 fA)/\RlL U_ wEf cR fc) ?_ ?_
 refine zR (CK.iter (fun (eh,ji,jj,bU,jk) σ_ w_=>∃ (U_:PHeap) (dh:Option Addr) (dO:Nat) (bH:Option Addr) (bK:Nat) (dV:List Value),σ_ 0=.pointer (some ⟨ak,0,none⟩)/\σ_ 6=.pointer (some ⟨b3,0,none⟩)/\σ_ 7=.pointer (some ⟨aT,0,none⟩)/\σ_ 9=.pointer (some ⟨av,0,none⟩)/\σ_ 10=jV bb/\σ_ 11=jV jk/\σ_ 22=jV x46/\σ_ 23=jV (↑au:Int)/\PHeap.Le eU U_/\SW w [B1] U U_ [.blk ak 100 [.slice dh eh.length dO,jV ji,.int .u32 jj],.row aH aK 3 1 (hH KL.encI az),.row bH bK 46 3 dV,.blk av 43 [jV (w64 ((w64 (9 * (↑au:Int))) + aL)),.slice aH az.length aK,.slice bH bU.length bK],.row aQ aR 3 1 (hH KL.encI x6.Classes),B7,B6,.blk b3 28 B0] w_/\Sl U_ 1 dh dO eh.length (hH KL.encB8 eh)/\RlL U_ wEf bU dV) xJ ?_ ?_)
 have vl:=vg.nilrow 46 3
 exact ⟨eU,jJ,lG,none,0,[],dZ,lW,fj,lX,rfl,rfl,lY,lZ,(zL _),(vl.pick [1,2,0,3,4,5,6,7] _ (by decide) rfl),sn,RlL.nil⟩
 rintro ⟨eh,ji,jj,bU,jk⟩ z8 Ah pF ⟨jZ,dh,dO,bH,bK,dV,ir,l3,l4,it,qE,l5,l6,l7,iV,iG,md,iz⟩ iQ wH
 try dsimp only at iQ
 refine zE (sR fL2 Z (oM Z l5 (oR Z (yF Z Z Z) (eN ?_))))
 by_cases bL:0 < jk
 have mU:=iQ;rw [if_pos bL] at mU;replace bL:=zD bL
 refine cT Z bL (kN (zR (sR (wIS gAt) Z (oM Z ir (oR Z (zB Z it zP Z zM) (oL Z (iG.ldB (j:=3) Z Z Z zf (v:=.slice aH az.length aK) Z) (oR Z (zV Z Z zI) ?_)))))))
 have q:=bnd mU
 obtain ⟨⟨be,jl⟩,sq,mV⟩:=q
 try dsimp only at mV
 refine zN 1 Z Z Z Z (zJ Z Z Zn (zC Z (zC Z zO)) Z) iG (fun hs=>wAN (⟨eh,ji,jj⟩:wAA) ak dh dO (↑az.length:Int) pF jZ hs md sq) (.inl Z) ?_
 rintro eV yl yU pG fR vm ⟨jK,lH,rfl,rfl,su⟩
 let aI:Res:=.blk av 43 [jV (w64 ((w64 (9 * (↑au:Int))) + aL)),.slice aH az.length aK,.slice bH bU.length bK]
 let aM:Res:=.row bH bK 46 3 dV
 let jP:Res:=.blk ak 100 [.slice jK jl.bytes.length lH,jV jl.next,.int .u32 jl.state]
 have vn:SW w [B1] U eV [jP,aq,aM,aI,B2,B7,B6,.blk b3 28 B0] pG:=vm
 let gw:List Value:=[jV be,.slice none 0 0,.slice none 0 0]
 refine oR Z (ZO (pv:=[(0,jV be)]) (z:=B9) (cs:=gw) Z (wAI Z wAT) ZC wHa Z Z) (zo (cs:=B9) Z Z Z Z Z ZC Z vn ?_)
 intro yw aU vo
 refine zY (j:=0) (vs:=gw) Z Z Z Z vo Z Z Z Z zn (zA Z) Z Z Z ?_
 intro pH vp
 have vq:SW w [B1] U eV [.blk aU 46 gw,jP,aq,aM,aI,B2,B7,B6,.blk b3 28 B0] pH:=vp
 refine eN (zE (sR fL1 Z (oA Z Z (eN (zR (CK.iter (fun (aP,aW,bV,cY,cZ,ot,jm) σ_ w_=>∃ (U_:PHeap) (bt:Option Addr) (bz:Nat) (aY:Option Addr) (a0:Nat) (cj:List Value) (bB:Option Addr) (bF:Nat),σ_ 0=.pointer (some ⟨ak,0,none⟩)/\σ_ 6=.pointer (some ⟨b3,0,none⟩)/\σ_ 7=.pointer (some ⟨aT,0,none⟩)/\σ_ 9=.pointer (some ⟨av,0,none⟩)/\σ_ 10=jV bb/\σ_ 11=jV ot/\σ_ 12=.pointer (some ⟨aU,0,none⟩)/\σ_ 13=jV jm/\σ_ 22=jV x46/\σ_ 23=jV (↑au:Int)/\PHeap.Le eV U_/\SW w [B1] U U_ [.row bt bz 3 1 (hH KL.encI aP),.row aY a0 47 1 cj,.blk aU 46 [jV be,.slice bt aP.length bz,.slice aY aW.length a0],.blk ak 100 [.slice bB bV.length bF,jV cY,.int .u32 cZ],.row aH aK 3 1 (hH KL.encI az),aM,aI,.row aQ aR 3 1 (hH KL.encI x6.Classes),B7,B6,.blk b3 28 B0] w_/\RlL U_ wGx aW cj/\Sl U_ 1 bB bF bV.length (hH KL.encB8 bV)) mV ?_ ?_))))))
 have vu:=vq.nilrow 3 1
 have vv:=vu.nilrow 47 1
 exact ⟨eV,none,0,none,0,[],jK,lH,ir,l3,l4,it,qE,l5,rfl,rfl,l6,l7,(zL _),(vv.pick [1,0,2,3,4,5,6,7,8,9,10] _ (by decide) rfl),RlL.nil,su⟩
 rintro ⟨aP,aW,bV,cY,cZ,ot,jm⟩ z9 Ai cJ ⟨j0,bt,bz,aY,a0,cj,bB,bF,cQ,fm,d7,bO,d8,d9,bP,fq,ft,fu,cV,bR,fy,iA⟩ iR mB
 try dsimp only at iR
 refine zE (sR fL9 Z (oM Z fq (oR Z (zB Z d7 zH Z zq) (oR Z (zB Z Z zS Z zG) (oL Z (bR.ldB (j:=9) Z Z Z zU (v:=jV x6.Laps) Z) (oR Z (zZ Z Z Z) (oM Z Z ?_)))))))
 by_cases bi:jm < x6.Laps
 have mX:=iR;rw [if_pos bi] at mX;replace bi:=zD bi
 refine ZY Z Z Z (wT Z bi) Z d9 (rU Z (wT Z bi) (yF Z Z Z) (oR Z (ZF Z (wGb bi.out) Z) (eN (ifc mX ?_ ?_))))
 intro gZ w7
 refine cT Z gZ (kN (zE (zR (zE (Zb ZV [3,1004,3,3,1005,3,2,0,3,0,ak] (wIS gAz) (by kernel_rfl) ?_)))))
 have iH:=bR.drew
 generalize hw_W645:({ cJ with drawn:=cJ.drawn + 1 }:World)=lf at iH ⊢
 refine oR Z (zB Z bP zX Z zM) ?_
 let du:Res:=.blk aU 46 [jV be,.slice bt aP.length bz,.slice aY aW.length a0]
 let bj:Res:=.row aY a0 47 1 cj
 let eM:Res:=.row bt bz 3 1 (hH KL.encI aP)
 refine OKS.mt (T:=[ak]) [3] [0,1,2,4,5,6,7,8,9,10] [eM,bj,du,aq,aM,aI,B2,B7,B6,.blk b3 28 B0] rfl rfl rfl rfl iH rfl ⟨⟨3,by decide,_,rfl,rfl⟩,trivial⟩ (by decide) rfl (by decide) (fun _ wC=>(wC.ldB (j:=2) rfl rfl rfl zf (v:=.slice bt aP.length bz) rfl)) rfl (ZY rfl rfl rfl rfl rfl d8 (ZY rfl rfl rfl rfl rfl cQ ?_))
 have q:=bnd w7
 obtain ⟨⟨eA,gh⟩,sw,mY⟩:=q
 try dsimp only at mY
 have vx:SW w [B1] U j0 [.blk ak 100 [.slice bB bV.length bF,jV cY,.int .u32 cZ],eM,bj,du,aq,aM,aI,B2,B7,B6,.blk b3 28 B0] lf:=iH.pick [3,0,1,2,4,5,6,7,8,9,10] _ (by decide) rfl
 refine OKS.callHT 1 rfl rfl rfl rfl (zJ rfl rfl Zn (zC rfl (zC rfl zO)) rfl) vx (fun hs=>wAN (⟨bV,cY,cZ⟩:wAA) ak bB bF 200 lf j0 hs iA sw) rfl (T:=[ak]) rfl ⟨fun b h=>(by cases h;exact .head _),trivial⟩ ?_
 rintro cd yn yW pJ fS vy ⟨gq,g8,rfl,rfl,me⟩
 let dv:Res:=.blk ak 100 [.slice gq gh.bytes.length g8,jV gh.next,.int .u32 gh.state]
 have vz:SW w [B1] U cd [dv,eM,bj,du,aq,aM,aI,B2,B7,B6,.blk b3 28 B0] pJ:=vy
 refine oR Z (ze Z Z Z) (zu (pv:=[(0,jV (w64 (bb + eA)))]) (zs:=[jV 0]) (cs:=[jV (w64 (bb + eA))]) Z Z Z Z Z (wAI Z wAT) zI zG yA Z Z Z Z Z vz ?_)
 intro pK qa vA
 let bu:Res:=.row (some ⟨qa,0,none⟩) 1 3 1 (hH KL.encI [w64 (bb + eA)])
 have mr:SW w [B1] U cd [bu,dv,eM,bj,du,aq,aM,aI,B2,B7,B6,.blk b3 28 B0] pK:=vA
 refine bnK mY fun eC sA w8=>Zu (j:=2) (enc:=KL.encI) (xs:=aP) (ys:=[w64 (bb + eA)]) (zs:=eC) rfl rfl rfl rfl rfl Zj wHc rfl rfl rfl rfl rfl rfl mr rfl rfl rfl (mr.srcR (j:=0) rfl (by decide) (wAL (f:=KL.encI) (sz:=1) (fun _=>rfl) [w64 (bb + eA)])) (fun _=>rfl) (fun _=>rfl) sA rfl ?_
 intro ct cN pL vB
 let bC:Res:=.row ct cN 3 1 (hH KL.encI eC)
 have vC:SW w [B1] U cd [bu,dv,bC,bj,du,aq,aM,aI,B2,B7,B6,.blk b3 28 B0] pL:=vB
 refine oR Z (zB Z bP zX Z zM) (zY (j:=4) (vs:=[.slice ct eC.length cN]) Z Z Z Z vC Z Z Z Z zM (zA Z) Z Z Z ?_)
 intro gQ vD
 let b5:Res:=.blk aU 46 [jV be,.slice ct eC.length cN,.slice aY aW.length a0]
 have ms:SW w [B1] U cd [bu,dv,bC,bj,b5,aq,aM,aI,B2,B7,B6,.blk b3 28 B0] gQ:=vD
 refine eN (zE (sR fL2 Z (oM Z fq (oR Z (yF Z Z Z) (eN (ifc w8 ?_ ?_))))))
 intro g9 w9
 refine cT Z g9 (Zb ZV [3,1004,3,1005,2,0,3,0,ak] (wCu gAw) (by kernel_rfl) ?_)
 have iI:=ms.drew
 generalize hw_W727:({ gQ with drawn:=gQ.drawn + 1 }:World)=lh at iI ⊢
 refine ZE rfl rfl rfl rfl (fun _=>zB rfl bP zX rfl Ze) (OKS.mt (T:=[ak]) [1] [0,2,3,4,5,6,7,8,9,10,11] [bu,bC,bj,b5,aq,aM,aI,B2,B7,B6,.blk b3 28 B0] rfl rfl rfl rfl iI rfl ⟨⟨1,by decide,_,rfl,rfl⟩,trivial⟩ (by decide) rfl (by decide) (fun _ wD=>(wD.ldB (j:=3) rfl rfl rfl Zz (v:=.slice aY aW.length a0) rfl)) rfl (ZY rfl rfl rfl rfl rfl cQ ?_))
 have q:=bnd w9
 obtain ⟨⟨bY,jo⟩,sC,mZ⟩:=q
 try dsimp only at mZ
 have vE:SW w [B1] U cd [dv,bu,bC,bj,b5,aq,aM,aI,B2,B7,B6,.blk b3 28 B0] lh:=iI.pick [1,0,2,3,4,5,6,7,8,9,10,11] _ (by decide) rfl
 refine OKS.callHT 1 rfl rfl rfl rfl (zJ rfl rfl Tryz.call29 (zC rfl zO) rfl) vE (fun hs=>wCk gh ak gq g8 lh cd hs me sC) rfl (T:=[ak]) rfl ⟨fun b h=>(by cases h;exact .head _),trivial⟩ ?_
 rintro oO yo yX li oi vG ⟨eH,e8,jM,lJ,rfl,rfl,sD⟩
 let dw:Res:=.blk ak 100 [.slice jM jo.bytes.length lJ,jV jo.next,.int .u32 jo.state]
 have vH:SW w [B1] U oO [.row eH e8 4 1 (hH KL.encT bY),dw,bu,bC,bj,b5,aq,aM,aI,B2,B7,B6,.blk b3 28 B0] li:=vG
 have q:=vH.freezeR (k:=0) (n:=bY.length) rfl (wAL (f:=KL.encT) (sz:=1) (fun _=>rfl) bY) (by decide)
 obtain ⟨cD,iW,xC,vK⟩:=q
 have vL:SW w [B1] U cD [dw,bu,bC,bj,b5,aq,aM,aI,B2,B7,B6,.blk b3 28 B0] li:=vK
 let eO:List Value:=[.slice eH bY.length e8]
 refine zu (pv:=[(0,.slice eH bY.length e8)]) (zs:=[.slice none 0 0]) (cs:=eO) Z Z Z Z Z (wAI Z wAT) ZJ yC Tryz.zeroValue47 Z Z Z Z Z vL ?_
 intro pM qb vJ
 have n6:RlL cD wGx [bY] eO:=(RlL.cons (R:=wGx) (x:=bY) (vs:=eO) ⟨eH,e8,rfl,xC⟩ RlL.nil)
 let gx:Res:=.row (some ⟨qb,0,none⟩) 1 47 1 eO
 have mu:SW w [B1] U cD [gx,dw,bu,bC,bj,b5,aq,aM,aI,B2,B7,B6,.blk b3 28 B0] pM:=vJ
 refine bnK mZ fun jp sE xa=>?_
 have sF:=fy.le fS
 have sG:=sF.le oi
 have sH:=sG.le iW
 refine Zx (R:=wGx) (j:=4) (xs:=aW) (ys:=[bY]) (zs:=jp) rfl rfl rfl rfl rfl Tryz.underlying44 wMf rfl rfl rfl rfl rfl rfl rfl mu rfl rfl rfl sH n6 (mu.srcR (j:=0) rfl (by decide) (RlL.len n6)) sE rfl ?_
 intro dk dP ig pN vM xo
 have vN:SW w [B1] U cD [gx,dw,bu,bC,.row dk dP 47 1 ig,b5,aq,aM,aI,B2,B7,B6,.blk b3 28 B0] pN:=vM
 refine oR Z (zB Z bP zX Z Ze) (zY (j:=5) (vs:=[.slice dk jp.length dP]) Z Z Z Z vN Z Z Z Z Ze (zA Z) Z Z Z ?_)
 intro pO vO
 have vP:SW w [B1] U cD [gx,dw,bu,bC,.row dk dP 47 1 ig,.blk aU 46 [jV be,.slice ct eC.length cN,.slice dk jp.length dP],aq,aM,aI,B2,B7,B6,.blk b3 28 B0] pO:=vO
 refine eN (rR fL3 Z (oM Z d9 (oR Z (Zg Z Z Z) (oA Z Z (zr (zj (zF (rR fL3 Z (oM Z fq (oR Z (ze Z Z Z) (oA Z Z (zr ?_))))))))))))
 have q:=nA xa
 obtain rfl:=q
 have sI:=sD.le iW
 exact zF ⟨rfl,_,rfl,⟨cD,ct,cN,dk,dP,ig,jM,lJ,cQ,fm,d7,bO,d8,rfl,bP,rfl,ft,fu,(((cV.trans fS).trans oi).trans iW),(vP.pick [3,4,5,1,6,7,8,9,10,11,12] _ (by decide) rfl),xo,sI⟩⟩
 intro g9 xb
 refine cF Z g9 (kN (rR fL3 Z (oM Z d9 (oR Z (Zg Z Z Z) (oA Z Z (zr (zj (zF (rR fL3 Z (oM Z fq (oR Z (ze Z Z Z) (oA Z Z (zr ?_)))))))))))))
 have q:=nA xb
 obtain rfl:=q
 have sK:=fy.le fS
 exact zF ⟨rfl,_,rfl,⟨cd,ct,cN,aY,a0,cj,gq,g8,cQ,fm,d7,bO,d8,rfl,bP,rfl,ft,fu,(cV.trans fS),(ms.pick [2,3,4,1,5,6,7,8,9,10,11] _ (by decide) rfl),sK,me⟩⟩
 intro gZ xc
 refine cF Z gZ (ZM (zW ?_))
 have q:=wAa xc
 obtain ⟨xR,xd,ql⟩:=q
 have q:=mB xR ql
 obtain rfl:=q
 refine zW (ZB (zF (rR (wCu gAu) Z (oR Z (zB Z bO zP Z zz) (oL Z (bR.ldB (j:=6) Z Z Z Zi (v:=.slice bH bU.length bK) Z) ?_)))))
 let bk:List Value:=[jV be,.slice bt aP.length bz,.slice aY aW.length a0]
 refine oL Z (bR.ldBA (j:=2) Z Z bP Zv zn (vs:=bk) Z Z) ?_
 have q:=bR.freezeR (k:=0) (n:=aP.length) rfl (wAL (f:=KL.encI) (sz:=1) (fun _=>rfl) aP) (by decide)
 obtain ⟨oP,fT,xD,vR⟩:=q
 let dx:Res:=.blk ak 100 [.slice bB bV.length bF,jV cY,.int .u32 cZ]
 have vS:SW w [B1] U oP [.row aY a0 47 1 cj,.blk aU 46 bk,dx,aq,aM,aI,B2,B7,B6,.blk b3 28 B0] cJ:=vR
 have sL:=fy.le fT
 have q:=vS.freezeRR (R:=wGx) (k:=0) rfl sL rfl (by decide)
 obtain ⟨cE,fU,xE,vU⟩:=q
 have vV:SW w [B1] U cE [.blk aU 46 bk,dx,aq,aM,aI,B2,B7,B6,.blk b3 28 B0] cJ:=vU
 refine zu (pv:=[(0,.agg bk.toArray)]) (zs:=B9) (cs:=bk) Z Z Z Z Z (wAI Z wAT) zt zn ZC Z Z Z Z Z vV ?_
 intro pP qc vQ
 have sM:=xD.le fU
 have n7:RlL cE wEf [(⟨be,aP,aW⟩:wAB)] bk:=(RlL.cons (R:=wEf) (x:=(⟨be,aP,aW⟩:wAB)) (vs:=bk) ⟨bt,bz,aY,a0,rfl,sM,xE⟩ RlL.nil)
 let gy:Res:=.row (some ⟨qc,0,none⟩) 1 46 3 bk
 have mw:SW w [B1] U cE [gy,.blk aU 46 bk,dx,aq,aM,aI,B2,B7,B6,.blk b3 28 B0] pP:=vQ
 refine bnK xd fun jq sN xe=>?_
 have sO:=iz.le fR
 have sP:=sO.le cV
 have sQ:=sP.le fT
 have sS:=sQ.le fU
 refine Zx (R:=wEf) (j:=4) (xs:=bU) (ys:=[(⟨be,aP,aW⟩:wAB)]) (zs:=jq) rfl rfl rfl rfl rfl Tryz.underlying41 wIK rfl rfl rfl rfl rfl rfl rfl mw rfl rfl rfl sS n7 (mw.srcR (j:=0) rfl (by decide) (RlL.len n7)) sN rfl ?_
 intro dl dQ ii pQ vW xp
 have vX:SW w [B1] U cE [gy,.blk aU 46 bk,dx,aq,.row dl dQ 46 3 ii,aI,B2,B7,B6,.blk b3 28 B0] pQ:=vW
 refine oR Z (zB Z bO zP Z zz) (zY (j:=5) (vs:=[.slice dl jq.length dQ]) Z Z Z Z vX Z Z Z Z zz (zA Z) Z Z Z ?_)
 intro pR vY
 have vZ:SW w [B1] U cE [gy,.blk aU 46 bk,dx,aq,.row dl dQ 46 3 ii,.blk av 43 [jV (w64 ((w64 (9 * (↑au:Int))) + aL)),.slice aH az.length aK,.slice dl jq.length dQ],B2,B7,B6,.blk b3 28 B0] pR:=vY
 refine zr (zj ?_)
 have q:=nA xe
 obtain rfl:=q
 have sT:=iA.le fT
 have sU:=sT.le fU
 exact zF ⟨rfl,_,rfl,⟨cE,bB,bF,dl,dQ,ii,cQ,fm,d7,bO,d8,d9,ft,fu,((((iV.trans fR).trans cV).trans fT).trans fU),(vZ.pick [2,3,4,5,6,7,8,9] _ (by decide) rfl),sU,xp⟩⟩
 have m0:=iR;rw [if_neg bi] at m0;replace bi:=zD bi
 refine oF Z bi (oF Z bi (oR Z (ZH Z (ZR bi.out) Z) (eN (zx Z (ZM (zW ?_))))))
 have q:=wAa m0
 obtain ⟨xS,xf,qm⟩:=q
 have q:=mB xS qm
 obtain rfl:=q
 refine zW (ZB (zF (rR (wCu gAu) Z (oR Z (zB Z bO zP Z zz) (oL Z (bR.ldB (j:=6) Z Z Z Zi (v:=.slice bH bU.length bK) Z) ?_)))))
 let bl:List Value:=[jV be,.slice bt aP.length bz,.slice aY aW.length a0]
 refine oL Z (bR.ldBA (j:=2) Z Z bP Zv zn (vs:=bl) Z Z) ?_
 have q:=bR.freezeR (k:=0) (n:=aP.length) rfl (wAL (f:=KL.encI) (sz:=1) (fun _=>rfl) aP) (by decide)
 obtain ⟨oU,fV,xF,wa⟩:=q
 let dy:Res:=.blk ak 100 [.slice bB bV.length bF,jV cY,.int .u32 cZ]
 have wb:SW w [B1] U oU [.row aY a0 47 1 cj,.blk aU 46 bl,dy,aq,aM,aI,B2,B7,B6,.blk b3 28 B0] cJ:=wa
 have sV:=fy.le fV
 have q:=wb.freezeRR (R:=wGx) (k:=0) rfl sV rfl (by decide)
 obtain ⟨cG,fW,xG,wc⟩:=q
 have wd:SW w [B1] U cG [.blk aU 46 bl,dy,aq,aM,aI,B2,B7,B6,.blk b3 28 B0] cJ:=wc
 refine zu (pv:=[(0,.agg bl.toArray)]) (zs:=B9) (cs:=bl) Z Z Z Z Z (wAI Z wAT) zt zn ZC Z Z Z Z Z wd ?_
 intro pS qd v9
 have sX:=xF.le fW
 have n8:RlL cG wEf [(⟨be,aP,aW⟩:wAB)] bl:=(RlL.cons (R:=wEf) (x:=(⟨be,aP,aW⟩:wAB)) (vs:=bl) ⟨bt,bz,aY,a0,rfl,sX,xG⟩ RlL.nil)
 let gz:Res:=.row (some ⟨qd,0,none⟩) 1 46 3 bl
 have my:SW w [B1] U cG [gz,.blk aU 46 bl,dy,aq,aM,aI,B2,B7,B6,.blk b3 28 B0] pS:=v9
 refine bnK xf fun jr sY xg=>?_
 have sZ:=iz.le fR
 have s5:=sZ.le cV
 have s6:=s5.le fV
 have s7:=s6.le fW
 refine Zx (R:=wEf) (j:=4) (xs:=bU) (ys:=[(⟨be,aP,aW⟩:wAB)]) (zs:=jr) rfl rfl rfl rfl rfl Tryz.underlying41 wIK rfl rfl rfl rfl rfl rfl rfl my rfl rfl rfl s7 n8 (my.srcR (j:=0) rfl (by decide) (RlL.len n8)) sY rfl ?_
 intro dm dR ij pT we xq
 have wg:SW w [B1] U cG [gz,.blk aU 46 bl,dy,aq,.row dm dR 46 3 ij,aI,B2,B7,B6,.blk b3 28 B0] pT:=we
 refine oR Z (zB Z bO zP Z zz) (zY (j:=5) (vs:=[.slice dm jr.length dR]) Z Z Z Z wg Z Z Z Z zz (zA Z) Z Z Z ?_)
 intro pU wh
 have wi:SW w [B1] U cG [gz,.blk aU 46 bl,dy,aq,.row dm dR 46 3 ij,.blk av 43 [jV (w64 ((w64 (9 * (↑au:Int))) + aL)),.slice aH az.length aK,.slice dm jr.length dR],B2,B7,B6,.blk b3 28 B0] pU:=wh
 refine zr (zj ?_)
 have q:=nA xg
 obtain rfl:=q
 have s8:=iA.le fV
 have s9:=s8.le fW
 exact zF ⟨rfl,_,rfl,⟨cG,bB,bF,dm,dR,ij,cQ,fm,d7,bO,d8,d9,ft,fu,((((iV.trans fR).trans cV).trans fV).trans fW),(wi.pick [2,3,4,5,6,7,8,9] _ (by decide) rfl),s9,xq⟩⟩
 have m5:=iQ;rw [if_neg bL] at m5;replace bL:=zD bL
 refine cF Z bL (ZM (zW ?_))
 have q:=wAa m5
 obtain ⟨xT,xh,qn⟩:=q
 have q:=wH xT qn
 obtain rfl:=q
 refine zW (ZB ?_)
 cases xh
 exact zF ⟨Z,⟨jZ,dh,dO,bH,bK,dV,ir,l3,l4,it,l6,l7,iV,iG,md,iz⟩⟩
 rintro Aj lj ⟨yq,dg,dN,cr,cM,fc,qF,qG,iu,qH,qI,qJ,oj,iJ,tc,te⟩
 refine rR (wCu gAu) Z (oR Z (zB Z iu zH Z ZD) (oL Z (iJ.ldB (j:=6) Z Z Z ZX (v:=.slice bZ bW.length cg) Z) ?_))
 let bm:List Value:=[jV (w64 ((w64 (9 * (↑au:Int))) + aL)),.slice aH az.length aK,.slice cr cR.length cM]
 refine oL Z (iJ.ldBA (j:=3) Z Z qH Zl zk (vs:=bm) Z Z) ?_
 have q:=iJ.freezeR (k:=1) (n:=az.length) rfl (wAL (f:=KL.encI) (sz:=1) (fun _=>rfl) az) (by decide)
 obtain ⟨oW,fY,xH,wk⟩:=q
 let dz:Res:=.blk ak 100 [.slice dg fA.length dN,jV om,.int .u32 oq]
 have wl:SW w [B1] U oW [dz,.row cr cM 46 3 fc,.blk av 43 bm,B2,B7,B6,.blk b3 28 B0] lj:=wk
 have tf:=te.le fY
 have q:=wl.freezeRR (R:=wEf) (k:=1) rfl tf rfl (by decide)
 obtain ⟨cH,fZ,xI,wn⟩:=q
 have wo:SW w [B1] U cH [dz,.blk av 43 bm,B2,B7,B6,.blk b3 28 B0] lj:=wn
 refine zu (pv:=[(0,.agg bm.toArray)]) (zs:=B9) (cs:=bm) Z Z Z Z Z (wAI Z wAT) zg zk ZK Z Z Z Z Z wo ?_
 intro pV qe wj
 have tg:=xH.le fZ
 have n9:RlL cH wFN [(⟨w64 ((w64 (9 * (↑au:Int))) + aL),az,cR⟩:wAD)] bm:=(RlL.cons (R:=wFN) (x:=(⟨w64 ((w64 (9 * (↑au:Int))) + aL),az,cR⟩:wAD)) (vs:=bm) ⟨aH,aK,cr,cM,rfl,tg,xI⟩ RlL.nil)
 let gB:Res:=.row (some ⟨qe,0,none⟩) 1 43 3 bm
 have mz:SW w [B1] U cH [gB,dz,.blk av 43 bm,B2,B7,B6,.blk b3 28 B0] pV:=wj
 refine bnK mT fun ju th xi=>?_
 have tj:=mb.le fE
 have tl:=tj.le fN
 have tn:=tl.le fO
 have tp:=tn.le fP
 have tr:=tp.le fQ
 have tu:=tr.le oh
 have tv:=tu.le oj
 have tw:=tv.le fY
 have tz:=tw.le fZ
 refine Zx (R:=wFN) (j:=4) (xs:=bW) (ys:=[(⟨w64 ((w64 (9 * (↑au:Int))) + aL),az,cR⟩:wAD)]) (zs:=ju) rfl rfl rfl rfl rfl Tryz.underlying26 wMe rfl rfl rfl rfl rfl rfl rfl mz rfl rfl rfl tz n9 (mz.srcR (j:=0) rfl (by decide) (RlL.len n9)) th rfl ?_
 intro dp dS ik pW wp xr
 have wq:SW w [B1] U cH [gB,dz,.blk av 43 bm,B2,.row dp dS 43 3 ik,B6,.blk b3 28 B0] pW:=wp
 refine oR Z (zB Z iu zH Z ZD) (zY (j:=5) (vs:=[.slice dp ju.length dS]) Z Z Z Z wq Z Z Z Z ZD (zA Z) Z Z Z ?_)
 intro pX wt
 have wu:SW w [B1] U cH [gB,dz,.blk av 43 bm,B2,.row dp dS 43 3 ik,.blk aT 28 [.slice aQ x6.Classes.length aR,jV x6.Each,jV x6.Laps,jV x6.Spare,jV x6.Loop,jV x6.Unused,jV cn,.slice dp ju.length dS],.blk b3 28 B0] pX:=wt
 refine zr (zj (zF (rR fL2 Z (oR Z (ZP (ze Z qJ Z) (congrArg (jV) mC.out)) (oM Z Z (zr ?_))))))
 cases xi
 have tA:=tc.le fY
 have tB:=tA.le fZ
 exact zF ⟨rfl,⟨cH,dg,dN,dp,dS,ik,rfl,qF,qG,iu,qI,(((((((((od.trans fE).trans fN).trans fO).trans fP).trans fQ).trans oh).trans oj).trans fY).trans fZ),(wu.pick [1,3,4,5,6] _ (by decide) rfl),tB,xr⟩⟩
 intro gX xj
 refine zx (congrArg nB (nD.2 gX.out)) (kN ?_)
 have q:=bnd xj
 obtain ⟨⟨fB,ou,ow,cS⟩,xK,m6⟩:=q
 try dsimp only at m6
 refine CK.cut (fun σ_ w_=>∃ (U_:PHeap) (dq:Option Addr) (dT:Nat) (cu:Option Addr) (cO:Nat) (fd:List Value),σ_ 0=.pointer (some ⟨ak,0,none⟩)/\σ_ 6=.pointer (some ⟨b3,0,none⟩)/\σ_ 7=.pointer (some ⟨aT,0,none⟩)/\σ_ 9=.pointer (some ⟨av,0,none⟩)/\σ_ 22=jV x46/\σ_ 23=jV (↑au:Int)/\PHeap.Le dI U_/\SW w [B1] U U_ [.blk ak 100 [.slice dq fB.length dT,jV ou,.int .u32 ow],.row aH aK 3 1 (hH KL.encI az),.row cu cO 46 3 fd,.blk av 43 [jV (w64 ((w64 (9 * (↑au:Int))) + aL)),.slice aH az.length aK,.slice cu cS.length cO],.row aQ aR 3 1 (hH KL.encI x6.Classes),B7,B6,.blk b3 28 B0] w_/\Sl U_ 1 dq dT fB.length (hH KL.encB8 fB)/\RlL U_ wEf cS fd) ?_ ?_
 refine zR (CK.iter (fun (ed,iZ,i0,bS,i6) σ_ w_=>∃ (U_:PHeap) (da:Option Addr) (dJ:Nat) (bG:Option Addr) (bI:Nat) (dU:List Value),σ_ 0=.pointer (some ⟨ak,0,none⟩)/\σ_ 6=.pointer (some ⟨b3,0,none⟩)/\σ_ 7=.pointer (some ⟨aT,0,none⟩)/\σ_ 9=.pointer (some ⟨av,0,none⟩)/\σ_ 10=jV bb/\σ_ 11=jV i6/\σ_ 22=jV x46/\σ_ 23=jV (↑au:Int)/\PHeap.Le dI U_/\SW w [B1] U U_ [.blk ak 100 [.slice da ed.length dJ,jV iZ,.int .u32 i0],.row aH aK 3 1 (hH KL.encI az),.row bG bI 46 3 dU,.blk av 43 [jV (w64 ((w64 (9 * (↑au:Int))) + aL)),.slice aH az.length aK,.slice bG bS.length bI],.row aQ aR 3 1 (hH KL.encI x6.Classes),B7,B6,.blk b3 28 B0] w_/\Sl U_ 1 da dJ ed.length (hH KL.encB8 ed)/\RlL U_ wEf bS dU) xK ?_ ?_)
 have tD:=mq.nilrow 46 3
 exact ⟨dI,gm,gW,none,0,[],dZ,lW,fj,lX,rfl,rfl,lY,lZ,(zL _),(tD.pick [1,2,0,3,4,5,6,7] _ (by decide) rfl),mc,RlL.nil⟩
 rintro ⟨ed,iZ,i0,bS,i6⟩ y0 Aa oX ⟨jU,da,dJ,bG,bI,dU,il,lN,lO,im,qo,lP,lQ,lR,iT,iB,l9,iw⟩ iO wG
 try dsimp only at iO
 refine zE (sR fL2 Z (oM Z lP (oR Z (yF Z Z Z) (eN ?_))))
 by_cases bJ:0 < i6
 have mE:=iO;rw [if_pos bJ] at mE;replace bJ:=zD bJ
 refine cT Z bJ (kN (zR (sR (wIS gAt) Z (oM Z il (oR Z (zB Z im zP Z zM) (oL Z (iB.ldB (j:=3) Z Z Z zf (v:=.slice aH az.length aK) Z) (oR Z (zV Z Z zI) ?_)))))))
 have q:=bnd mE
 obtain ⟨⟨ba,i7⟩,qM,mF⟩:=q
 try dsimp only at mF
 refine zN 1 Z Z Z Z (zJ Z Z Zn (zC Z (zC Z zO)) Z) iB (fun hs=>wAN (⟨ed,iZ,i0⟩:wAA) ak da dJ (↑az.length:Int) oX jU hs l9 qM) (.inl Z) ?_
 rintro eR ya yJ oY fC tE ⟨jy,lq,rfl,rfl,qN⟩
 let aJ:Res:=.blk av 43 [jV (w64 ((w64 (9 * (↑au:Int))) + aL)),.slice aH az.length aK,.slice bG bS.length bI]
 let aN:Res:=.row bG bI 46 3 dU
 let jR:Res:=.blk ak 100 [.slice jy i7.bytes.length lq,jV i7.next,.int .u32 i7.state]
 have tF:SW w [B1] U eR [jR,aq,aN,aJ,B2,B7,B6,.blk b3 28 B0] oY:=tE
 let gC:List Value:=[jV ba,.slice none 0 0,.slice none 0 0]
 refine oR Z (ZO (pv:=[(0,jV ba)]) (z:=B9) (cs:=gC) Z (wAI Z wAT) ZC wHa Z Z) (zo (cs:=B9) Z Z Z Z Z ZC Z tF ?_)
 intro yr aS tG
 refine zY (j:=0) (vs:=gC) Z Z Z Z tG Z Z Z Z zn (zA Z) Z Z Z ?_
 intro o0 tH
 have tI:SW w [B1] U eR [.blk aS 46 gC,jR,aq,aN,aJ,B2,B7,B6,.blk b3 28 B0] o0:=tH
 refine eN (zE (sR fL1 Z (oA Z Z (eN (zR (CK.iter (fun (aO,aV,bT,cW,cX,ol,i8) σ_ w_=>∃ (U_:PHeap) (bs:Option Addr) (bw:Nat) (aX:Option Addr) (aZ:Nat) (ci:List Value) (bA:Option Addr) (bE:Nat),σ_ 0=.pointer (some ⟨ak,0,none⟩)/\σ_ 6=.pointer (some ⟨b3,0,none⟩)/\σ_ 7=.pointer (some ⟨aT,0,none⟩)/\σ_ 9=.pointer (some ⟨av,0,none⟩)/\σ_ 10=jV bb/\σ_ 11=jV ol/\σ_ 12=.pointer (some ⟨aS,0,none⟩)/\σ_ 13=jV i8/\σ_ 22=jV x46/\σ_ 23=jV (↑au:Int)/\PHeap.Le eR U_/\SW w [B1] U U_ [.row bs bw 3 1 (hH KL.encI aO),.row aX aZ 47 1 ci,.blk aS 46 [jV ba,.slice bs aO.length bw,.slice aX aV.length aZ],.blk ak 100 [.slice bA bT.length bE,jV cW,.int .u32 cX],.row aH aK 3 1 (hH KL.encI az),aN,aJ,.row aQ aR 3 1 (hH KL.encI x6.Classes),B7,B6,.blk b3 28 B0] w_/\RlL U_ wGx aV ci/\Sl U_ 1 bA bE bT.length (hH KL.encB8 bT)) mF ?_ ?_))))))
 have tK:=tI.nilrow 3 1
 have tL:=tK.nilrow 47 1
 exact ⟨eR,none,0,none,0,[],jy,lq,il,lN,lO,im,qo,lP,rfl,rfl,lQ,lR,(zL _),(tL.pick [1,0,2,3,4,5,6,7,8,9,10] _ (by decide) rfl),RlL.nil,qN⟩
 rintro ⟨aO,aV,bT,cW,cX,ol,i8⟩ z6 Ac cI ⟨jW,bs,bw,aX,aZ,ci,bA,bE,cP,fe,dW,bM,dX,dY,bN,ff,fg,fh,cU,bQ,fw,iy⟩ iP mA
 try dsimp only at iP
 refine zE (sR fL9 Z (oM Z ff (oR Z (zB Z dW zH Z zq) (oR Z (zB Z Z zS Z zG) (oL Z (bQ.ldB (j:=9) Z Z Z zU (v:=jV x6.Laps) Z) (oR Z (zZ Z Z Z) (oM Z Z ?_)))))))
 by_cases bh:i8 < x6.Laps
 have mG:=iP;rw [if_pos bh] at mG;replace bh:=zD bh
 refine ZY Z Z Z (wT Z bh) Z dY (rU Z (wT Z bh) (yF Z Z Z) (oR Z (ZF Z (wGb bh.out) Z) (eN (ifc mG ?_ ?_))))
 intro gR wN
 refine cT Z gR (kN (zE (zR (zE (Zb ZV [3,1004,3,3,1005,3,2,0,3,0,ak] (wIS gAz) (by kernel_rfl) ?_)))))
 have iC:=bQ.drew
 generalize hw_W1231:({ cI with drawn:=cI.drawn + 1 }:World)=j3 at iC ⊢
 refine oR Z (zB Z bN zX Z zM) ?_
 let dA:Res:=.blk aS 46 [jV ba,.slice bs aO.length bw,.slice aX aV.length aZ]
 let bn:Res:=.row aX aZ 47 1 ci
 let eP:Res:=.row bs bw 3 1 (hH KL.encI aO)
 refine OKS.mt (T:=[ak]) [3] [0,1,2,4,5,6,7,8,9,10] [eP,bn,dA,aq,aN,aJ,B2,B7,B6,.blk b3 28 B0] rfl rfl rfl rfl iC rfl ⟨⟨3,by decide,_,rfl,rfl⟩,trivial⟩ (by decide) rfl (by decide) (fun _ wv=>(wv.ldB (j:=2) rfl rfl rfl zf (v:=.slice bs aO.length bw) rfl)) rfl (ZY rfl rfl rfl rfl rfl dX (ZY rfl rfl rfl rfl rfl cP ?_))
 have q:=bnd wN
 obtain ⟨⟨eu,ga⟩,qO,mH⟩:=q
 try dsimp only at mH
 have tO:SW w [B1] U jW [.blk ak 100 [.slice bA bT.length bE,jV cW,.int .u32 cX],eP,bn,dA,aq,aN,aJ,B2,B7,B6,.blk b3 28 B0] j3:=iC.pick [3,0,1,2,4,5,6,7,8,9,10] _ (by decide) rfl
 refine OKS.callHT 1 rfl rfl rfl rfl (zJ rfl rfl Zn (zC rfl (zC rfl zO)) rfl) tO (fun hs=>wAN (⟨bT,cW,cX⟩:wAA) ak bA bE 200 j3 jW hs iy qO) rfl (T:=[ak]) rfl ⟨fun b h=>(by cases h;exact .head _),trivial⟩ ?_
 rintro cb yc yK o5 fD tP ⟨gj,gS,rfl,rfl,ma⟩
 let dB:Res:=.blk ak 100 [.slice gj ga.bytes.length gS,jV ga.next,.int .u32 ga.state]
 have tQ:SW w [B1] U cb [dB,eP,bn,dA,aq,aN,aJ,B2,B7,B6,.blk b3 28 B0] o5:=tP
 refine oR Z (ze Z Z Z) (zu (pv:=[(0,jV (w64 (bb + eu)))]) (zs:=[jV 0]) (cs:=[jV (w64 (bb + eu))]) Z Z Z Z Z (wAI Z wAT) zI zG yA Z Z Z Z Z tQ ?_)
 intro o6 pY tR
 let bv:Res:=.row (some ⟨pY,0,none⟩) 1 3 1 (hH KL.encI [w64 (bb + eu)])
 have mf:SW w [B1] U cb [bv,dB,eP,bn,dA,aq,aN,aJ,B2,B7,B6,.blk b3 28 B0] o6:=tR
 refine bnK mH fun ey qP wO=>Zu (j:=2) (enc:=KL.encI) (xs:=aO) (ys:=[w64 (bb + eu)]) (zs:=ey) rfl rfl rfl rfl rfl Zj wHc rfl rfl rfl rfl rfl rfl mf rfl rfl rfl (mf.srcR (j:=0) rfl (by decide) (wAL (f:=KL.encI) (sz:=1) (fun _=>rfl) [w64 (bb + eu)])) (fun _=>rfl) (fun _=>rfl) qP rfl ?_
 intro cp cK o7 tS
 let bD:Res:=.row cp cK 3 1 (hH KL.encI ey)
 have tT:SW w [B1] U cb [bv,dB,bD,bn,dA,aq,aN,aJ,B2,B7,B6,.blk b3 28 B0] o7:=tS
 refine oR Z (zB Z bN zX Z zM) (zY (j:=4) (vs:=[.slice cp ey.length cK]) Z Z Z Z tT Z Z Z Z zM (zA Z) Z Z Z ?_)
 intro gL tU
 let b8:Res:=.blk aS 46 [jV ba,.slice cp ey.length cK,.slice aX aV.length aZ]
 have mg:SW w [B1] U cb [bv,dB,bD,bn,b8,aq,aN,aJ,B2,B7,B6,.blk b3 28 B0] gL:=tU
 refine eN (zE (sR fL2 Z (oM Z ff (oR Z (yF Z Z Z) (eN (ifc wO ?_ ?_))))))
 intro gT wP
 refine cT Z gT (Zb ZV [3,1004,3,1005,2,0,3,0,ak] (wCu gAw) (by kernel_rfl) ?_)
 have iD:=mg.drew
 generalize hw_W1313:({ gL with drawn:=gL.drawn + 1 }:World)=j4 at iD ⊢
 refine ZE rfl rfl rfl rfl (fun _=>zB rfl bN zX rfl Ze) (OKS.mt (T:=[ak]) [1] [0,2,3,4,5,6,7,8,9,10,11] [bv,bD,bn,b8,aq,aN,aJ,B2,B7,B6,.blk b3 28 B0] rfl rfl rfl rfl iD rfl ⟨⟨1,by decide,_,rfl,rfl⟩,trivial⟩ (by decide) rfl (by decide) (fun _ ww=>(ww.ldB (j:=3) rfl rfl rfl Zz (v:=.slice aX aV.length aZ) rfl)) rfl (ZY rfl rfl rfl rfl rfl cP ?_))
 have q:=bnd wP
 obtain ⟨⟨bX,i9⟩,qR,mI⟩:=q
 try dsimp only at mI
 have tV:SW w [B1] U cb [dB,bv,bD,bn,b8,aq,aN,aJ,B2,B7,B6,.blk b3 28 B0] j4:=iD.pick [1,0,2,3,4,5,6,7,8,9,10,11] _ (by decide) rfl
 refine OKS.callHT 1 rfl rfl rfl rfl (zJ rfl rfl Tryz.call29 (zC rfl zO) rfl) tV (fun hs=>wCk ga ak gj gS j4 cb hs ma qR) rfl (T:=[ak]) rfl ⟨fun b h=>(by cases h;exact .head _),trivial⟩ ?_
 rintro oz yd yM j5 oe tW ⟨eD,eW,jz,lv,rfl,rfl,qT⟩
 let dD:Res:=.blk ak 100 [.slice jz i9.bytes.length lv,jV i9.next,.int .u32 i9.state]
 have tX:SW w [B1] U oz [.row eD eW 4 1 (hH KL.encT bX),dD,bv,bD,bn,b8,aq,aN,aJ,B2,B7,B6,.blk b3 28 B0] j5:=tW
 have q:=tX.freezeR (k:=0) (n:=bX.length) rfl (wAL (f:=KL.encT) (sz:=1) (fun _=>rfl) bX) (by decide)
 obtain ⟨cy,iU,xt,tZ⟩:=q
 have t7:SW w [B1] U cy [dD,bv,bD,bn,b8,aq,aN,aJ,B2,B7,B6,.blk b3 28 B0] j5:=tZ
 let eQ:List Value:=[.slice eD bX.length eW]
 refine zu (pv:=[(0,.slice eD bX.length eW)]) (zs:=[.slice none 0 0]) (cs:=eQ) Z Z Z Z Z (wAI Z wAT) ZJ yC Tryz.zeroValue47 Z Z Z Z Z t7 ?_
 intro o8 pZ tY
 have m7:RlL cy wGx [bX] eQ:=(RlL.cons (R:=wGx) (x:=bX) (vs:=eQ) ⟨eD,eW,rfl,xt⟩ RlL.nil)
 let gD:Res:=.row (some ⟨pZ,0,none⟩) 1 47 1 eQ
 have mh:SW w [B1] U cy [gD,dD,bv,bD,bn,b8,aq,aN,aJ,B2,B7,B6,.blk b3 28 B0] o8:=tY
 refine bnK mI fun ja qU wQ=>?_
 have qV:=fw.le fD
 have qW:=qV.le oe
 have qX:=qW.le iU
 refine Zx (R:=wGx) (j:=4) (xs:=aV) (ys:=[bX]) (zs:=ja) rfl rfl rfl rfl rfl Tryz.underlying44 wMf rfl rfl rfl rfl rfl rfl rfl mh rfl rfl rfl qX m7 (mh.srcR (j:=0) rfl (by decide) (RlL.len m7)) qU rfl ?_
 intro db dK ib o9 t8 xk
 have t9:SW w [B1] U cy [gD,dD,bv,bD,.row db dK 47 1 ib,b8,aq,aN,aJ,B2,B7,B6,.blk b3 28 B0] o9:=t8
 refine oR Z (zB Z bN zX Z Ze) (zY (j:=5) (vs:=[.slice db ja.length dK]) Z Z Z Z t9 Z Z Z Z Ze (zA Z) Z Z Z ?_)
 intro pa ua
 have ub:SW w [B1] U cy [gD,dD,bv,bD,.row db dK 47 1 ib,.blk aS 46 [jV ba,.slice cp ey.length cK,.slice db ja.length dK],aq,aN,aJ,B2,B7,B6,.blk b3 28 B0] pa:=ua
 refine eN (rR fL3 Z (oM Z dY (oR Z (Zg Z Z Z) (oA Z Z (zr (zj (zF (rR fL3 Z (oM Z ff (oR Z (ze Z Z Z) (oA Z Z (zr ?_))))))))))))
 have q:=nA wQ
 obtain rfl:=q
 have qY:=qT.le iU
 exact zF ⟨rfl,_,rfl,⟨cy,cp,cK,db,dK,ib,jz,lv,cP,fe,dW,bM,dX,rfl,bN,rfl,fg,fh,(((cU.trans fD).trans oe).trans iU),(ub.pick [3,4,5,1,6,7,8,9,10,11,12] _ (by decide) rfl),xk,qY⟩⟩
 intro gT wR
 refine cF Z gT (kN (rR fL3 Z (oM Z dY (oR Z (Zg Z Z Z) (oA Z Z (zr (zj (zF (rR fL3 Z (oM Z ff (oR Z (ze Z Z Z) (oA Z Z (zr ?_)))))))))))))
 have q:=nA wR
 obtain rfl:=q
 have qZ:=fw.le fD
 exact zF ⟨rfl,_,rfl,⟨cb,cp,cK,aX,aZ,ci,gj,gS,cP,fe,dW,bM,dX,rfl,bN,rfl,fg,fh,(cU.trans fD),(mg.pick [2,3,4,1,5,6,7,8,9,10,11] _ (by decide) rfl),qZ,ma⟩⟩
 intro gR wS
 refine cF Z gR (ZM (zW ?_))
 have q:=wAa wS
 obtain ⟨xN,wU,qi⟩:=q
 have q:=mA xN qi
 obtain rfl:=q
 refine zW (ZB (zF (rR (wCu gAu) Z (oR Z (zB Z bM zP Z zz) (oL Z (bQ.ldB (j:=6) Z Z Z Zi (v:=.slice bG bS.length bI) Z) ?_)))))
 let bp:List Value:=[jV ba,.slice bs aO.length bw,.slice aX aV.length aZ]
 refine oL Z (bQ.ldBA (j:=2) Z Z bN Zv zn (vs:=bp) Z Z) ?_
 have q:=bQ.freezeR (k:=0) (n:=aO.length) rfl (wAL (f:=KL.encI) (sz:=1) (fun _=>rfl) aO) (by decide)
 obtain ⟨oB,fG,xu,ue⟩:=q
 let dE:Res:=.blk ak 100 [.slice bA bT.length bE,jV cW,.int .u32 cX]
 have uf:SW w [B1] U oB [.row aX aZ 47 1 ci,.blk aS 46 bp,dE,aq,aN,aJ,B2,B7,B6,.blk b3 28 B0] cI:=ue
 have rc:=fw.le fG
 have q:=uf.freezeRR (R:=wGx) (k:=0) rfl rc rfl (by decide)
 obtain ⟨cz,fH,xw,ug⟩:=q
 have uh:SW w [B1] U cz [.blk aS 46 bp,dE,aq,aN,aJ,B2,B7,B6,.blk b3 28 B0] cI:=ug
 refine zu (pv:=[(0,.agg bp.toArray)]) (zs:=B9) (cs:=bp) Z Z Z Z Z (wAI Z wAT) zt zn ZC Z Z Z Z Z uh ?_
 intro pe p6 uc
 have re:=xu.le fH
 have m8:RlL cz wEf [(⟨ba,aO,aV⟩:wAB)] bp:=(RlL.cons (R:=wEf) (x:=(⟨ba,aO,aV⟩:wAB)) (vs:=bp) ⟨bs,bw,aX,aZ,rfl,re,xw⟩ RlL.nil)
 let gE:Res:=.row (some ⟨p6,0,none⟩) 1 46 3 bp
 have mi:SW w [B1] U cz [gE,.blk aS 46 bp,dE,aq,aN,aJ,B2,B7,B6,.blk b3 28 B0] pe:=uc
 refine bnK wU fun jb ri wV=>?_
 have rj:=iw.le fC
 have rk:=rj.le cU
 have rn:=rk.le fG
 have ro:=rn.le fH
 refine Zx (R:=wEf) (j:=4) (xs:=bS) (ys:=[(⟨ba,aO,aV⟩:wAB)]) (zs:=jb) rfl rfl rfl rfl rfl Tryz.underlying41 wIK rfl rfl rfl rfl rfl rfl rfl mi rfl rfl rfl ro m8 (mi.srcR (j:=0) rfl (by decide) (RlL.len m8)) ri rfl ?_
 intro de dL ic pf ui xl
 have uj:SW w [B1] U cz [gE,.blk aS 46 bp,dE,aq,.row de dL 46 3 ic,aJ,B2,B7,B6,.blk b3 28 B0] pf:=ui
 refine oR Z (zB Z bM zP Z zz) (zY (j:=5) (vs:=[.slice de jb.length dL]) Z Z Z Z uj Z Z Z Z zz (zA Z) Z Z Z ?_)
 intro pg uk
 have ul:SW w [B1] U cz [gE,.blk aS 46 bp,dE,aq,.row de dL 46 3 ic,.blk av 43 [jV (w64 ((w64 (9 * (↑au:Int))) + aL)),.slice aH az.length aK,.slice de jb.length dL],B2,B7,B6,.blk b3 28 B0] pg:=uk
 refine zr (zj ?_)
 have q:=nA wV
 obtain rfl:=q
 have rq:=iy.le fG
 have rt:=rq.le fH
 exact zF ⟨rfl,_,rfl,⟨cz,bA,bE,de,dL,ic,cP,fe,dW,bM,dX,dY,fg,fh,((((iT.trans fC).trans cU).trans fG).trans fH),(ul.pick [2,3,4,5,6,7,8,9] _ (by decide) rfl),rt,xl⟩⟩
 have mK:=iP;rw [if_neg bh] at mK;replace bh:=zD bh
 refine oF Z bh (oF Z bh (oR Z (ZH Z (ZR bh.out) Z) (eN (zx Z (ZM (zW ?_))))))
 have q:=wAa mK
 obtain ⟨xO,wW,qj⟩:=q
 have q:=mA xO qj
 obtain rfl:=q
 refine zW (ZB (zF (rR (wCu gAu) Z (oR Z (zB Z bM zP Z zz) (oL Z (bQ.ldB (j:=6) Z Z Z Zi (v:=.slice bG bS.length bI) Z) ?_)))))
 let bq:List Value:=[jV ba,.slice bs aO.length bw,.slice aX aV.length aZ]
 refine oL Z (bQ.ldBA (j:=2) Z Z bN Zv zn (vs:=bq) Z Z) ?_
 have q:=bQ.freezeR (k:=0) (n:=aO.length) rfl (wAL (f:=KL.encI) (sz:=1) (fun _=>rfl) aO) (by decide)
 obtain ⟨oG,fJ,xx,uq⟩:=q
 let dF:Res:=.blk ak 100 [.slice bA bT.length bE,jV cW,.int .u32 cX]
 have ur:SW w [B1] U oG [.row aX aZ 47 1 ci,.blk aS 46 bq,dF,aq,aN,aJ,B2,B7,B6,.blk b3 28 B0] cI:=uq
 have ru:=fw.le fJ
 have q:=ur.freezeRR (R:=wGx) (k:=0) rfl ru rfl (by decide)
 obtain ⟨cA,fK,xz,ut⟩:=q
 have uu:SW w [B1] U cA [.blk aS 46 bq,dF,aq,aN,aJ,B2,B7,B6,.blk b3 28 B0] cI:=ut
 refine zu (pv:=[(0,.agg bq.toArray)]) (zs:=B9) (cs:=bq) Z Z Z Z Z (wAI Z wAT) zt zn ZC Z Z Z Z Z uu ?_
 intro ph p7 uo
 have rx:=xx.le fK
 have m9:RlL cA wEf [(⟨ba,aO,aV⟩:wAB)] bq:=(RlL.cons (R:=wEf) (x:=(⟨ba,aO,aV⟩:wAB)) (vs:=bq) ⟨bs,bw,aX,aZ,rfl,rx,xz⟩ RlL.nil)
 let gF:Res:=.row (some ⟨p7,0,none⟩) 1 46 3 bq
 have mj:SW w [B1] U cA [gF,.blk aS 46 bq,dF,aq,aN,aJ,B2,B7,B6,.blk b3 28 B0] ph:=uo
 refine bnK wW fun jc ry wX=>?_
 have rA:=iw.le fC
 have rB:=rA.le cU
 have rC:=rB.le fJ
 have rD:=rC.le fK
 refine Zx (R:=wEf) (j:=4) (xs:=bS) (ys:=[(⟨ba,aO,aV⟩:wAB)]) (zs:=jc) rfl rfl rfl rfl rfl Tryz.underlying41 wIK rfl rfl rfl rfl rfl rfl rfl mj rfl rfl rfl rD m9 (mj.srcR (j:=0) rfl (by decide) (RlL.len m9)) ry rfl ?_
 intro df dM ie pi uw xm
 have ux:SW w [B1] U cA [gF,.blk aS 46 bq,dF,aq,.row df dM 46 3 ie,aJ,B2,B7,B6,.blk b3 28 B0] pi:=uw
 refine oR Z (zB Z bM zP Z zz) (zY (j:=5) (vs:=[.slice df jc.length dM]) Z Z Z Z ux Z Z Z Z zz (zA Z) Z Z Z ?_)
 intro pj uy
 have uz:SW w [B1] U cA [gF,.blk aS 46 bq,dF,aq,.row df dM 46 3 ie,.blk av 43 [jV (w64 ((w64 (9 * (↑au:Int))) + aL)),.slice aH az.length aK,.slice df jc.length dM],B2,B7,B6,.blk b3 28 B0] pj:=uy
 refine zr (zj ?_)
 have q:=nA wX
 obtain rfl:=q
 have rE:=iy.le fJ
 have rF:=rE.le fK
 exact zF ⟨rfl,_,rfl,⟨cA,bA,bE,df,dM,ie,cP,fe,dW,bM,dX,dY,fg,fh,((((iT.trans fC).trans cU).trans fJ).trans fK),(uz.pick [2,3,4,5,6,7,8,9] _ (by decide) rfl),rF,xm⟩⟩
 have mL:=iO;rw [if_neg bJ] at mL;replace bJ:=zD bJ
 refine cF Z bJ (ZM (zW ?_))
 have q:=wAa mL
 obtain ⟨xP,wY,qk⟩:=q
 have q:=wG xP qk
 obtain rfl:=q
 refine zW (ZB ?_)
 cases wY
 exact zF ⟨Z,⟨jU,da,dJ,bG,bI,dU,il,lN,lO,im,lQ,lR,iT,iB,l9,iw⟩⟩
 rintro Ad j6 ⟨yp,dq,dT,cu,cO,fd,qr,qt,ip,qu,qv,qw,og,iE,rG,rH⟩
 refine rR (wCu gAu) Z (oR Z (zB Z ip zH Z ZD) (oL Z (iE.ldB (j:=6) Z Z Z ZX (v:=.slice bZ bW.length cg) Z) ?_))
 let br:List Value:=[jV (w64 ((w64 (9 * (↑au:Int))) + aL)),.slice aH az.length aK,.slice cu cS.length cO]
 refine oL Z (iE.ldBA (j:=3) Z Z qu Zl zk (vs:=br) Z Z) ?_
 have q:=iE.freezeR (k:=1) (n:=az.length) rfl (wAL (f:=KL.encI) (sz:=1) (fun _=>rfl) az) (by decide)
 obtain ⟨oH,fL,xA,uD⟩:=q
 let dG:Res:=.blk ak 100 [.slice dq fB.length dT,jV ou,.int .u32 ow]
 have uE:SW w [B1] U oH [dG,.row cu cO 46 3 fd,.blk av 43 br,B2,B7,B6,.blk b3 28 B0] j6:=uD
 have rI:=rH.le fL
 have q:=uE.freezeRR (R:=wEf) (k:=1) rfl rI rfl (by decide)
 obtain ⟨cC,fM,xB,uF⟩:=q
 have uG:SW w [B1] U cC [dG,.blk av 43 br,B2,B7,B6,.blk b3 28 B0] j6:=uF
 refine zu (pv:=[(0,.agg br.toArray)]) (zs:=B9) (cs:=br) Z Z Z Z Z (wAI Z wAT) zg zk ZK Z Z Z Z Z uG ?_
 intro pk p8 uC
 have rJ:=xA.le fM
 have n5:RlL cC wFN [(⟨w64 ((w64 (9 * (↑au:Int))) + aL),az,cS⟩:wAD)] br:=(RlL.cons (R:=wFN) (x:=(⟨w64 ((w64 (9 * (↑au:Int))) + aL),az,cS⟩:wAD)) (vs:=br) ⟨aH,aK,cu,cO,rfl,rJ,xB⟩ RlL.nil)
 let gG:Res:=.row (some ⟨p8,0,none⟩) 1 43 3 br
 have ml:SW w [B1] U cC [gG,dG,.blk av 43 br,B2,B7,B6,.blk b3 28 B0] pk:=uC
 refine bnK m6 fun jd rK wZ=>?_
 have rM:=mb.le fE
 have rN:=rM.le fN
 have rO:=rN.le fO
 have rP:=rO.le fP
 have rQ:=rP.le fQ
 have rS:=rQ.le og
 have rT:=rS.le fL
 have rV:=rT.le fM
 refine Zx (R:=wFN) (j:=4) (xs:=bW) (ys:=[(⟨w64 ((w64 (9 * (↑au:Int))) + aL),az,cS⟩:wAD)]) (zs:=jd) rfl rfl rfl rfl rfl Tryz.underlying26 wMe rfl rfl rfl rfl rfl rfl rfl ml rfl rfl rfl rV n5 (ml.srcR (j:=0) rfl (by decide) (RlL.len n5)) rK rfl ?_
 intro eE eX lM pm uH xn
 let jS:Res:=.row eE eX 43 3 lM
 have uI:SW w [B1] U cC [gG,dG,.blk av 43 br,B2,jS,B6,.blk b3 28 B0] pm:=uH
 refine oR Z (zB Z ip zH Z ZD) (zY (j:=5) (vs:=[.slice eE jd.length eX]) Z Z Z Z uI Z Z Z Z ZD (zA Z) Z Z Z ?_)
 intro pn uJ
 have uK:SW w [B1] U cC [gG,dG,.blk av 43 br,B2,jS,.blk aT 28 [.slice aQ x6.Classes.length aR,jV x6.Each,jV x6.Laps,jV x6.Spare,jV x6.Loop,jV x6.Unused,jV cn,.slice eE jd.length eX],.blk b3 28 B0] pn:=uJ
 refine zr (zj (zF (rR fL2 Z (oR Z (ZP (ze Z qw Z) (congrArg (jV) mC.out)) (oM Z Z (zr ?_))))))
 cases wZ
 have rW:=rG.le fL
 have rX:=rW.le fM
 exact zF ⟨rfl,⟨cC,dq,dT,eE,eX,lM,rfl,qr,qt,ip,qv,((((((((od.trans fE).trans fN).trans fO).trans fP).trans fQ).trans og).trans fL).trans fM),(uK.pick [1,3,4,5,6] _ (by decide) rfl),rX,xn⟩⟩
 rintro Ae yu ⟨jX,jB,lx,gk,gU,ly,qK,yy,lT,qx,qy,yG,mn,rY,rZ⟩
 have qf:Hid (¬ ((↑((x46:Int) - 0).toNat:Int) < x46)):=zD (wBH)
 refine sR fL1 Z (oR Z (zZ Z qK qy) (eN (zE (cF Z qf (ZM (zW (zW (ZB (zF (sR gAf Z ?_))))))))))
 let cw:List Value:=[.slice aQ x6.Classes.length aR,jV x6.Each,jV x6.Laps,jV x6.Spare,jV x6.Loop,jV x6.Unused,jV cn,.slice gk xX.length gU]
 refine oL Z (mn.ldBA (j:=3) Z Z qx Zc zp (vs:=cw) Z Z) (zY (j:=4) (vs:=cw) Z Z Z Z mn Z lT Z Z zp (zA Z) Z Z Z ?_)
 intro po uM
 have mo:SW w [B1] U jX [.blk ak 100 [.slice jB xU.length lx,jV xV,.int .u32 xW],B2,.row gk gU 43 3 ly,.blk aT 28 cw,.blk b3 28 cw] po:=uM
 refine eN (zQ ?_)
 cases mD
 exact ⟨rfl,_,(wDv (v:=.agg cw.toArray) ⟨⟨_,lT,(wDU Zc zp (mo.blkAt (k:=4) rfl) (vs:=cw) rfl rfl)⟩,trivial⟩),jX,_,(mo.pick [1,2,0] _ (by decide) rfl),aQ,aR,gk,gU,ly,jB,lx,rfl,rfl,rZ,rY⟩
end Go.Proofs.YtnbcoenjobdplaaGreat
namespace Go.Proofs.YtnbcoenjobdplaaGreat
open Go.KL
set_option maxHeartbeats 4000000
theorem wBu (p0:Int) (p1:Int) (p2:Int) (w:World) (U:PHeap) (hS:St0 w U [])  {r:Bool} (hm:wBK p0 p1 p2=some r):Gv Tryz.prog 35 [jV p0,jV p1,jV p2] w (wCi w [] U (fun U_ L_ v=>v=.bool r/\L_=[])):=by
 unfold wBK at hm
 refine Gv.of Tryz.func35 Z Tryz.ntmps35 Tryz.results35 Z (sR fL1 Z (oA Z Z (eN (sR fL9 Z (oM Z Z (oM Z Z (oR Z (Runs.geq Z Z Z) (oM Z Z ?_))))))))
 by_cases c1:p1 <= p0
 have ae:=hm;rw [if_pos c1] at ae;replace c1:=zD c1
 refine ZY Z Z Z (wT Z c1) Z Z (ZY Z Z Z (wT Z c1) Z Z (rU Z (wT Z c1) (Runs.leq Z Z Z) (oR Z (ZF Z (wGb c1.out) Z) (oA Z Z (eN (zQ ?_))))))
 first | (obtain rfl:=nA ae) | cases ae
 exact ⟨Z,_,(ZA Z),U,_,hS,Z,Z⟩
 have aj:=hm;rw [if_neg c1] at aj;replace c1:=zD c1
 refine oF Z c1 (oF Z c1 (oF Z c1 (oR Z (ZH Z (ZR c1.out) Z) (oA Z Z (eN (zQ ?_))))))
 have hE:=nA aj;first | subst r | cases hE
 exact ⟨Z,_,(ZA Z),U,_,hS,Z,Z⟩
theorem wEg (p0:Int) (p1:(Int->Option Bool)) (aj:Nat) (ae:Value) (w:World) (U:PHeap) (hS:St0 w U []) (au:Cl U aj 0 [ae]) (av:FnOK Tryz.prog U ae wPL wPM p1) {r:Bool} (hm:wBL p0 p1=some r):Gv Tryz.prog 113 [jV p0,.pointer (some ⟨aj,0,none⟩)] w (wCi w [] U (fun U_ L_ v=>v=.bool r/\L_=[])):=by
 unfold wBL at hm
 refine Gv.of Tryz.func113 Z Tryz.ntmps113 Tryz.results113 Z (sR fL1 Z (oA Z Z (eN (sR gAx Z (oL Z (hS.ldC (f:=0) au (v:=ae) Z Z Tryz.isAgg86 Z) (oM Z Z (bnK hm fun x1 h2 az=>OKS.callV (a:=p0) Z Z Z Z Z Z (zC Z zO) hS av Z h2 ?_)))))))
 rintro U4 L5 v6 W7 aI aq ⟨rfl,rfl⟩
 have ap:sW w U U4 [] W7:=aq
 refine oR Z (ZU Z Z) (oA Z Z (eN (zQ ?_)))
 cases az
 exact ⟨Z,_,(ZA Z),U4,_,ap,Z,Z⟩
theorem wCw (p0:List Int) (au:Option Addr) (av:Nat) (p1:(Int->Option Bool)) (az:Value) (w:World) (U:PHeap) (hS:St0 w U []) (bg:Sl U 1 au av p0.length (hH KL.encI p0)) (bh:FnOK Tryz.prog U az wPL wPM p1) {r:Int} (hm:wBG p0 p1=some r):Gv Tryz.prog 144 [.slice au p0.length av,az] w (wCi w [] U (fun U_ L_ v=>v=jV r/\L_=[])):=by
 unfold wBG at hm
 refine Gv.of Tryz.func144 Z Tryz.ntmps144 Tryz.results144 Z (sR fL1 Z (oA Z Z (eN (zE (sR fL3 Z (oM Z Z (oR Z (zV Z Z zI) (oM Z Z (eN (zR ?_))))))))))
 have q:=wCH hm
 obtain ⟨r3,ak⟩:=q
 have q:=wCG ak
 obtain ⟨ap,bk⟩:=q
 replace ap:=zD ap
 refine yB (fun k2 _ σ_ w_=>∃ (U_:PHeap),σ_ 8=jV (↑k2:Int)/\σ_ 0=.slice au p0.length av/\σ_ 1=az/\σ_ 7=jV (↑p0.length:Int)/\PHeap.Le U U_/\sW w U U_ [] w_) bk ?_ ?_ ?_
 exact ⟨U,Z,Z,Z,Z,(zL _),hS⟩
 rintro k2 ⟨⟩ bH bJ W8 am ⟨bv,aj,aI,aJ,aK,aq,aM⟩ aP bi
 try dsimp only at aP
 have aH:Hid ((↑k2:Int) < (↑p0.length:Int)):=zD (wBh am)
 replace am:=zD am
 have bl:Hid (w64 ((↑k2:Int) + 1)=(↑(k2 + 1):Int)):=zD (by have h1:=ap.out;have h2:=aH.out;rw [wAU] <;> omega)
 refine sR fL1 Z (oR Z (zZ Z aj aK) (eN (zE (cT Z aH (kN (zE (zR (sR fL2 Z (oM Z aj (oA Z Z (eN (sR (wMp (.fx 5 .nil .stop)) Z (oM Z aJ (oM Z aI (oM Z Z (bnK aP fun aR aL bm=>?_))))))))))))))))
 have aY:=bg.le aq
 have q:=aY.el (fun _=>rfl) (wAX aL)
 obtain ⟨bA,bE,ba,bb⟩:=q
 refine oR Z (zy Z Z ba Z zI zG (wAw aL)) (oL Z (aM.ldC (f:=0) bb (v:=jV aR) Z Z zU Z) (bnK bm fun x30 aZ bn=>?_))
 have a0:=bh.le aq
 refine OKS.callV (a:=aR) Z Z Z Z Z Z (zC Z zO) aM a0 Z aZ ?_
 rintro ah bu bG aT bs be ⟨rfl,rfl⟩
 have aN:sW w U ah [] aT:=be
 refine eN (ifc bn ?_ ?_)
 intro ai bp
 refine ZQ (congrArg nB ai.out) (sR fL2 Z (oM Z Z (oA Z Z (eN (zQ (zd (zK ?_)))))))
 have q:=wAa bp
 obtain ⟨bt,bq,aV⟩:=q
 have q:=wBw hm ak (bi bt aV)
 obtain rfl:=q
 refine zK (zd (zK ?_))
 cases bq
 exact ⟨Z,_,(ZA Z),ah,_,aN,Z,Z⟩
 intro ai br
 refine zx (congrArg nB (nD.2 ai.out)) (Zp (zj (zF (rR fL2 Z (oR Z (ZP (ze Z aj Z) (congrArg (jV) bl.out)) (oM Z Z (zr ?_)))))))
 have q:=nA br
 obtain rfl:=q
 exact zF ⟨Z,_,Z,⟨ah,Z,aI,aJ,aK,(aq.trans bs),aN⟩⟩
 rintro ⟨⟩ bI bw ⟨aS,aX,bB,bC,aW,bD,bf⟩ bj
 have aO:=wCo hm ak bj
 try dsimp only at aO
 have aU:Hid (¬ ((↑(((↑p0.length:Int):Int) - 0).toNat:Int) < (↑p0.length:Int))):=zD (wBH)
 refine sR fL1 Z (oR Z (zZ Z aX aW) (eN (zE (cF Z aU (ZM (zW (zW (ZB (zF (sR fL1 Z (oA Z Z (eN (zQ ?_)))))))))))))
 cases aO
 exact ⟨Z,_,(ZA Z),aS,_,bf,Z,Z⟩
theorem wCj (p0:List Int) (ah:Option Addr) (ai:Nat) (p1:(Int->Option Bool)) (aj:Value) (w:World) (U:PHeap) (hS:St0 w U []) (az:Sl U 1 ah ai p0.length (hH KL.encI p0)) (aH:FnOK Tryz.prog U aj wPL wPM p1) {r:Bool} (hm:wAq p0 p1=some r):Gv Tryz.prog 112 [.slice ah p0.length ai,aj] w (wCi w [] U (fun U_ L_ v=>v=.bool r/\L_=[])):=by
 unfold wAq at hm
 refine Gv.of Tryz.func112 Z Tryz.ntmps112 Tryz.results112 Z (sR fL1 Z (oA Z Z (eN (sR gAx Z (oM Z Z (oM Z Z (bnK hm fun x1 h2 am=>zN 0 Z Z Z Z (zJ Z Z Tryz.call144 (zC Z (zC Z zO)) Z) hS (fun hs=>wCw p0 ah ai p1 aj w U hs az aH h2) (.inr Z) ?_)))))))
 rintro U4 L5 v6 W7 aJ av ⟨rfl,rfl⟩
 have au:sW w U U4 [] W7:=av
 refine oR Z (Runs.geq Z Z Z) (oA Z Z (eN (zQ ?_)))
 first | (obtain rfl:=nA am) | cases am
 exact ⟨Z,_,(ZA Z),U4,_,au,Z,Z⟩
theorem wDX (p0:List Int) (am:Option Addr) (ap:Nat) (p1:(Int->Option Bool)) (aj:Value) (w:World) (U:PHeap) (hS:St0 w U []) (aS:Sl U 1 am ap p0.length (hH KL.encI p0)) (av:FnOK Tryz.prog U aj wPL wPM p1) {r:Bool} (hm:wBb p0 p1=some r):Gv Tryz.prog 72 [.slice am p0.length ap,aj] w (wCi w [] U (fun U_ L_ v=>v=.bool r/\L_=[])):=by
 unfold wBb at hm
 refine Gv.of Tryz.func72 Z Tryz.ntmps72 Tryz.results72 Z (sR gAi Z (Zh (cs:=[aj]) Z Z Z Z Z Z (FnOK.cells av) hS ?_))
 intro W1 b2 aP
 have q:=aP.freeze (k:=0) rfl
 obtain ⟨U5,az,ae,aQ⟩:=q
 replace ae:=Cl.of ae
 have aR:sW w U U5 [] W1:=aQ
 replace ae:Cl U5 b2 0 [aj]:=ae
 refine oA Z Z (eN (sR gAx Z (oM Z Z (oR Z (Runs.mkf Z zO (zC Z zO)) ?_))))
 have aJ:=aS.le az
 have aK:=av.le az
 have aM:FnOK Tryz.prog U5 (.func (.func 113) #[] #[.pointer (some ⟨b2,0,none⟩)]) wPL wPM (fun x=>wBL x p1):=⟨113,[],[.pointer (some ⟨b2,0,none⟩)],rfl,Tryz.call113,fun U1 w1 x y vs le hs ha hm=>by obtain rfl:=ha;exact wEg x p1 b2 aj w1 U1 hs (ae.le le) (aK.le le) hm⟩
 refine bnK hm fun aY aL aT=>zN 0 Z Z Z Z (zJ Z Z Tryz.call112 (zC Z (zC Z zO)) Z) aR (fun hs=>wCj p0 am ap (fun x=>wBL x p1) (.func (.func 113) #[] #[.pointer (some ⟨b2,0,none⟩)]) W1 U5 hs aJ aM aL) (.inr Z) ?_
 rintro aq aV aX aI aW aN ⟨rfl,rfl⟩
 have aO:sW w U aq [] aI:=aN
 refine oR Z (ZU Z Z) (oA Z Z (eN (zQ ?_)))
 cases aT
 exact ⟨Z,_,(ZA Z),aq,_,aO,Z,Z⟩
theorem wEy (p0:Int) (w:World) (U:PHeap) (hS:St0 w U [])  {r:Bool} (hm:wAj p0=some r):Gv Tryz.prog 140 [jV p0] w (wCi w [] U (fun U_ L_ v=>v=.bool r/\L_=[])):=by
 unfold wAj at hm
 refine Gv.of Tryz.func140 Z Tryz.ntmps140 Tryz.results140 Z (sR fL1 Z (oA Z Z (eN (sR gAo Z (oM Z Z (bnK hm fun x1 h2 am=>zN 0 Z Z Z Z (zJ Z Z Zy (zC Z (zC Z (zC Z zO))) Z) hS (fun hs=>wBu p0 0 3 w U hs h2) (.inr Z) ?_))))))
 rintro U4 L5 v6 W7 aq ak ⟨rfl,rfl⟩
 have aj:sW w U U4 [] W7:=ak
 refine oA Z Z (eN (zQ ?_))
 have hE:=nA am;first | subst r | cases hE
 exact ⟨Z,_,(ZA Z),U4,_,aj,Z,Z⟩
theorem wDn (p0:List Int) (ae:Option Addr) (ah:Nat) (w:World) (U:PHeap) (hS:St0 w U []) (av:Sl U 1 ae ah p0.length (hH KL.encI p0)) {r:Bool} (hm:wBV p0=some r):Gv Tryz.prog 103 [.slice ae p0.length ah] w (wCi w [] U (fun U_ L_ v=>v=.bool r/\L_=[])):=by
 unfold wBV at hm
 refine Gv.of Tryz.func103 Z Tryz.ntmps103 Tryz.results103 Z (sR fL1 Z (oA Z Z (eN (sR gAo Z (oM Z Z ?_)))))
 have ap:FnOK Tryz.prog U (.func (.func 140) #[] #[]) wPL wPM wAj:=⟨140,[],[],rfl,Tryz.call140,fun U1 w1 x y vs le hs ha hm=>by obtain rfl:=ha;exact wEy x w1 U1 hs  hm⟩
 refine bnK hm fun x2 h3 az=>zN 0 Z Z Z Z (zJ Z Z Tryz.call72 (zC Z (zC Z zO)) Z) hS (fun hs=>wDX p0 ae ah wAj (.func (.func 140) #[] #[]) w U hs av ap h3) (.inr Z) ?_
 rintro U5 L6 v7 W8 aJ aq ⟨rfl,rfl⟩
 have au:sW w U U5 [] W8:=aq
 refine oA Z Z (eN (zQ ?_))
 have hE:=nA az;first | subst r | cases hE
 exact ⟨Z,_,(ZA Z),U5,_,au,Z,Z⟩
theorem wFR (p0:wAC) (ae:Option Addr) (ah:Nat) (w:World) (U:PHeap) (hS:St0 w U []) (am:Sl U 1 ae ah p0.Classes.length (hH KL.encI p0.Classes)) {r:Int} (hm:wBA p0=some r):Gv Tryz.prog 177 [.agg #[.slice ae p0.Classes.length ah,jV p0.Each,jV p0.Laps,jV p0.Spare,jV p0.Loop,jV p0.Unused]] w (wCi w [] U (fun U_ L_ v=>v=jV r/\L_=[])):=by
 unfold wBA at hm
 refine Gv.of Tryz.func177 rfl Tryz.ntmps177 Tryz.results177 rfl (sR gAi rfl (Zh (cs:=[.slice ae p0.Classes.length ah,jV p0.Each,jV p0.Laps,jV p0.Spare,jV p0.Loop,jV p0.Unused]) rfl rfl rfl rfl rfl rfl (by rfl) hS ?_))
 intro W1 b2 ai
 refine oA Z Z (eN (sR fL3 Z (oR Z (zB Z Z zS Z zG) (oL Z (ai.ldB (j:=0) Z Z Z zU (v:=jV p0.Each) Z) (oA Z Z (eN (zQ ?_)))))))
 cases hm
 exact ⟨rfl,_,(ZA rfl),U,_,(ai.pick [] _ (by decide) rfl),rfl,rfl⟩
theorem wFS (p0:wAC) (ae:Option Addr) (ah:Nat) (w:World) (U:PHeap) (hS:St0 w U []) (am:Sl U 1 ae ah p0.Classes.length (hH KL.encI p0.Classes)) {r:Int} (hm:wBB p0=some r):Gv Tryz.prog 178 [.agg #[.slice ae p0.Classes.length ah,jV p0.Each,jV p0.Laps,jV p0.Spare,jV p0.Loop,jV p0.Unused]] w (wCi w [] U (fun U_ L_ v=>v=jV r/\L_=[])):=by
 unfold wBB at hm
 refine Gv.of Tryz.func178 rfl Tryz.ntmps178 Tryz.results178 rfl (sR gAi rfl (Zh (cs:=[.slice ae p0.Classes.length ah,jV p0.Each,jV p0.Laps,jV p0.Spare,jV p0.Loop,jV p0.Unused]) rfl rfl rfl rfl rfl rfl (by rfl) hS ?_))
 intro W1 b2 ai
 refine oA Z Z (eN (sR fL3 Z (oR Z (zB Z Z zS Z zG) (oL Z (ai.ldB (j:=0) Z Z Z zU (v:=jV p0.Laps) Z) (oA Z Z (eN (zQ ?_)))))))
 cases hm
 exact ⟨rfl,_,(ZA rfl),U,_,(ai.pick [] _ (by decide) rfl),rfl,rfl⟩
theorem wFT (p0:wAC) (ae:Option Addr) (ah:Nat) (w:World) (U:PHeap) (hS:St0 w U []) (am:Sl U 1 ae ah p0.Classes.length (hH KL.encI p0.Classes)) {r:Int} (hm:wBC p0=some r):Gv Tryz.prog 179 [.agg #[.slice ae p0.Classes.length ah,jV p0.Each,jV p0.Laps,jV p0.Spare,jV p0.Loop,jV p0.Unused]] w (wCi w [] U (fun U_ L_ v=>v=jV r/\L_=[])):=by
 unfold wBC at hm
 refine Gv.of Tryz.func179 rfl Tryz.ntmps179 Tryz.results179 rfl (sR gAi rfl (Zh (cs:=[.slice ae p0.Classes.length ah,jV p0.Each,jV p0.Laps,jV p0.Spare,jV p0.Loop,jV p0.Unused]) rfl rfl rfl rfl rfl rfl (by rfl) hS ?_))
 intro W1 b2 ai
 refine oA Z Z (eN (sR fL3 Z (oR Z (zB Z Z zS Z zG) (oL Z (ai.ldB (j:=0) Z Z Z zU (v:=jV p0.Spare) Z) (oA Z Z (eN (zQ ?_)))))))
 cases hm
 exact ⟨rfl,_,(ZA rfl),U,_,(ai.pick [] _ (by decide) rfl),rfl,rfl⟩
theorem wFU (p0:wAC) (ae:Option Addr) (ah:Nat) (w:World) (U:PHeap) (hS:St0 w U []) (am:Sl U 1 ae ah p0.Classes.length (hH KL.encI p0.Classes)) {r:Int} (hm:wBD p0=some r):Gv Tryz.prog 180 [.agg #[.slice ae p0.Classes.length ah,jV p0.Each,jV p0.Laps,jV p0.Spare,jV p0.Loop,jV p0.Unused]] w (wCi w [] U (fun U_ L_ v=>v=jV r/\L_=[])):=by
 unfold wBD at hm
 refine Gv.of Tryz.func180 rfl Tryz.ntmps180 Tryz.results180 rfl (sR gAi rfl (Zh (cs:=[.slice ae p0.Classes.length ah,jV p0.Each,jV p0.Laps,jV p0.Spare,jV p0.Loop,jV p0.Unused]) rfl rfl rfl rfl rfl rfl (by rfl) hS ?_))
 intro W1 b2 ai
 refine oA Z Z (eN (sR fL3 Z (oR Z (zB Z Z zS Z zG) (oL Z (ai.ldB (j:=0) Z Z Z zU (v:=jV p0.Loop) Z) (oA Z Z (eN (zQ ?_)))))))
 cases hm
 exact ⟨rfl,_,(ZA rfl),U,_,(ai.pick [] _ (by decide) rfl),rfl,rfl⟩
theorem wFV (p0:wAC) (ae:Option Addr) (ah:Nat) (w:World) (U:PHeap) (hS:St0 w U []) (am:Sl U 1 ae ah p0.Classes.length (hH KL.encI p0.Classes)) {r:Int} (hm:wBE p0=some r):Gv Tryz.prog 181 [.agg #[.slice ae p0.Classes.length ah,jV p0.Each,jV p0.Laps,jV p0.Spare,jV p0.Loop,jV p0.Unused]] w (wCi w [] U (fun U_ L_ v=>v=jV r/\L_=[])):=by
 unfold wBE at hm
 refine Gv.of Tryz.func181 rfl Tryz.ntmps181 Tryz.results181 rfl (sR gAi rfl (Zh (cs:=[.slice ae p0.Classes.length ah,jV p0.Each,jV p0.Laps,jV p0.Spare,jV p0.Loop,jV p0.Unused]) rfl rfl rfl rfl rfl rfl (by rfl) hS ?_))
 intro W1 b2 ai
 refine oA Z Z (eN (sR fL3 Z (oR Z (zB Z Z zS Z zG) (oL Z (ai.ldB (j:=0) Z Z Z zU (v:=jV p0.Unused) Z) (oA Z Z (eN (zQ ?_)))))))
 cases hm
 exact ⟨rfl,_,(ZA rfl),U,_,(ai.pick [] _ (by decide) rfl),rfl,rfl⟩
theorem wGh  (w:World) (U:PHeap) (hS:St0 w U [])  {r:(List wAH)} (hm:wCb =some r):Gv Tryz.prog 136 [] w (wCi w [] U (fun U_ L_ v=>∃ (A0:Option Addr) (c0:Nat) (aH:List Value),v=.slice A0 r.length c0/\L_=[.row A0 c0 222 3 aH]/\RlL U_ wGP r aH)):=by
 unfold wCb at hm
 refine Gv.of Tryz.func136 Z Tryz.ntmps136 Tryz.results136 Z (sR fL1 Z (oA Z Z (eN (sR (wMp (.fx 5 (.fl 6 .nil) .stop)) Z ?_))))
 let B0:List Value:=[.nilFunc,jV 0,jV 0]
 let B1:List Value:=[.func (.func 177) #[] #[],jV 1,jV 4]
 refine oR Z (ZO (pv:=[(0,.func (.func 177) #[] #[]),(1,jV 1),(2,jV 4)]) (z:=B0) (cs:=B1) Z (wAI Z (wAI Z (wAI Z wAT))) yD wDm Z Z) ?_
 let B2:List Value:=[.func (.func 178) #[] #[],jV 1,jV 5]
 refine oR Z (ZO (pv:=[(0,.func (.func 178) #[] #[]),(1,jV 1),(2,jV 5)]) (z:=B0) (cs:=B2) Z (wAI Z (wAI Z (wAI Z wAT))) yD wDm Z Z) ?_
 let B3:List Value:=[.func (.func 179) #[] #[],jV 0,jV 600]
 refine oR Z (ZO (pv:=[(0,.func (.func 179) #[] #[]),(1,jV 0),(2,jV 600)]) (z:=B0) (cs:=B3) Z (wAI Z (wAI Z (wAI Z wAT))) yD wDm Z Z) ?_
 let B4:List Value:=[.func (.func 180) #[] #[],jV 0,jV 600]
 refine oR Z (ZO (pv:=[(0,.func (.func 180) #[] #[]),(1,jV 0),(2,jV 600)]) (z:=B0) (cs:=B4) Z (wAI Z (wAI Z (wAI Z wAT))) yD wDm Z Z) ?_
 let B5:List Value:=[.func (.func 181) #[] #[],jV 0,jV 6000]
 refine oR Z (ZO (pv:=[(0,.func (.func 181) #[] #[]),(1,jV 0),(2,jV 6000)]) (z:=B0) (cs:=B5) Z (wAI Z (wAI Z (wAI Z wAT))) yD wDm Z Z) ?_
 let B6:List Value:=[.func (.func 177) #[] #[],jV 1,jV 4,.func (.func 178) #[] #[],jV 1,jV 5,.func (.func 179) #[] #[],jV 0,jV 600,.func (.func 180) #[] #[],jV 0,jV 600,.func (.func 181) #[] #[],jV 0,jV 6000]
 refine zu (pv:=[(0,.agg B1.toArray),(1,.agg B2.toArray),(2,.agg B3.toArray),(3,.agg B4.toArray),(4,.agg B5.toArray)]) (zs:=[.nilFunc,jV 0,jV 0,.nilFunc,jV 0,jV 0,.nilFunc,jV 0,jV 0,.nilFunc,jV 0,jV 0,.nilFunc,jV 0,jV 0]) (cs:=B6) Z Z Z Z Z (wAI Z (wAI Z (wAI Z (wAI Z (wAI Z wAT))))) Tryz.runUnderlying223 Tryz.sizeOf222 yD Z Z Z Z Z hS ?_
 intro W1 b2 aP
 have aJ:FnOK Tryz.prog U (.func (.func 181) #[] #[]) wHV wHW wBE:=⟨181,[],[],rfl,Tryz.call181,fun U1 w1 x y vs le hs ha hm=>by obtain ⟨pA_0_0,pc_0_0,rfl,hq0_0⟩:=ha;exact wFV x pA_0_0 pc_0_0 w1 U1 hs hq0_0 hm⟩
 have aK:FnOK Tryz.prog U (.func (.func 180) #[] #[]) wHV wHW wBD:=⟨180,[],[],rfl,Tryz.call180,fun U1 w1 x y vs le hs ha hm=>by obtain ⟨pA_0_0,pc_0_0,rfl,hq0_0⟩:=ha;exact wFU x pA_0_0 pc_0_0 w1 U1 hs hq0_0 hm⟩
 have aL:FnOK Tryz.prog U (.func (.func 179) #[] #[]) wHV wHW wBC:=⟨179,[],[],rfl,Tryz.call179,fun U1 w1 x y vs le hs ha hm=>by obtain ⟨pA_0_0,pc_0_0,rfl,hq0_0⟩:=ha;exact wFT x pA_0_0 pc_0_0 w1 U1 hs hq0_0 hm⟩
 have aM:FnOK Tryz.prog U (.func (.func 178) #[] #[]) wHV wHW wBB:=⟨178,[],[],rfl,Tryz.call178,fun U1 w1 x y vs le hs ha hm=>by obtain ⟨pA_0_0,pc_0_0,rfl,hq0_0⟩:=ha;exact wFS x pA_0_0 pc_0_0 w1 U1 hs hq0_0 hm⟩
 have aN:FnOK Tryz.prog U (.func (.func 177) #[] #[]) wHV wHW wBA:=⟨177,[],[],rfl,Tryz.call177,fun U1 w1 x y vs le hs ha hm=>by obtain ⟨pA_0_0,pc_0_0,rfl,hq0_0⟩:=ha;exact wFR x pA_0_0 pc_0_0 w1 U1 hs hq0_0 hm⟩
 have aQ:RlL U wGP [(⟨wBA,1,4⟩:wAH),(⟨wBB,1,5⟩:wAH),(⟨wBC,0,600⟩:wAH),(⟨wBD,0,600⟩:wAH),(⟨wBE,0,6000⟩:wAH)] B6:=(RlL.cons (R:=wGP) (x:=(⟨wBA,1,4⟩:wAH)) (vs:=B1) ⟨(.func (.func 177) #[] #[]),rfl,aN⟩ (RlL.cons (R:=wGP) (x:=(⟨wBB,1,5⟩:wAH)) (vs:=B2) ⟨(.func (.func 178) #[] #[]),rfl,aM⟩ (RlL.cons (R:=wGP) (x:=(⟨wBC,0,600⟩:wAH)) (vs:=B3) ⟨(.func (.func 179) #[] #[]),rfl,aL⟩ (RlL.cons (R:=wGP) (x:=(⟨wBD,0,600⟩:wAH)) (vs:=B4) ⟨(.func (.func 180) #[] #[]),rfl,aK⟩ (RlL.cons (R:=wGP) (x:=(⟨wBE,0,6000⟩:wAH)) (vs:=B5) ⟨(.func (.func 181) #[] #[]),rfl,aJ⟩ RlL.nil)))))
 have aO:sW w U U [.row (some ⟨b2,0,none⟩) 5 222 3 B6] W1:=aP
 refine oA Z Z (eN (zQ ?_))
 cases hm
 exact ⟨Z,_,(ZA Z),U,_,aO,(some ⟨b2,0,none⟩),5,B6,Z,Z,aQ⟩
theorem wDx (p0:wAH) (ak:Value) (p1:wAC) (aH:Nat) (ai:Option Addr) (aj:Nat) (w:World) (U:PHeap) (hS:St0 w U []) (aQ:FnOK Tryz.prog U ak wHV wHW p0.of) (aR:Cl U aH 0 [.slice ai p1.Classes.length aj,jV p1.Each,jV p1.Laps,jV p1.Spare,jV p1.Loop,jV p1.Unused]) (aS:Sl U 1 ai aj p1.Classes.length (hH KL.encI p1.Classes)) {r:Bool} (hm:wAy p0 p1=some r):Gv Tryz.prog 137 [.agg #[ak,jV p0.lo,jV p0.hi],.pointer (some ⟨aH,0,none⟩)] w (wCi w [] U (fun U_ L_ v=>v=.bool r/\L_=[])):=by
 unfold wAy at hm
 refine Gv.of Tryz.func137 Z Tryz.ntmps137 Tryz.results137 Z (sR gAi Z ?_)
 let B0:List Value:=[ak,jV p0.lo,jV p0.hi]
 refine Zh (cs:=B0) rfl rfl rfl rfl rfl rfl (by rfl) hS ?_
 intro W1 b2 aP
 refine OKS.ra rfl rfl rfl rfl rfl rfl (eN (zE (Zb ZV [3,1,1,2,3,1,3,1,2,3] (wCu (fC4_7 (.fx 3 (.fx 8 (.fl 9 .nil) .stop) .stop))) (by kernel_rfl) ?_)))
 have ah:=aP.drew
 generalize hw_W6:({ W1 with drawn:=W1.drawn + 1 }:World)=W6 at ah ⊢
 refine oR Z (zB Z Z Tryz.runUnderlying222 Z Tryz.sizeOf220) (oL Z (ah.ldB (j:=0) Z Z Z Tryz.isAgg220 (v:=ak) Z) (oL Z (ah.ldCA (f:=0) aR Z Z yE zq (us:=[.slice ai p1.Classes.length aj,jV p1.Each,jV p1.Laps,jV p1.Spare,jV p1.Loop,jV p1.Unused]) Z Z) (oR Z (zB Z Z Tryz.runUnderlying222 Z zG) (oL Z (ah.ldB (j:=0) Z Z Z zU (v:=jV p0.lo) Z) (oR Z (zB Z Z Tryz.runUnderlying222 Z zG) (oL Z (ah.ldB (j:=0) Z Z Z zU (v:=jV p0.hi) Z) (bnK hm fun x7 h8 aU=>OKS.callV (a:=p1) Z Z Z Z Z Z (zC Z zO) ah aQ ⟨ai,aj,Z,aS⟩ h8 ?_)))))))
 rintro ap aW ba av aZ aL ⟨rfl,rfl⟩
 have aM:sW w U ap [.blk b2 222 B0] av:=aL
 refine bnK aU fun be aJ aT=>zN 0 Z Z Z Z (zJ Z Z Zy (zC Z (zC Z (zC Z zO))) Z) aM (fun hs=>wBu x7 p0.lo p0.hi av ap hs aJ) (.inr Z) ?_
 rintro aq aX bb aI a0 aN ⟨rfl,rfl⟩
 have aO:sW w U aq [.blk b2 222 B0] aI:=aN
 refine oA Z Z (eN (zQ ?_))
 have hE:=nA aT;first | subst r | cases hE
 exact ⟨rfl,_,(ZA rfl),aq,_,(aO.pick [] _ (by decide) rfl),rfl,rfl⟩
theorem wCx (p0:wAH) (ae:Value) (p1:(wAH->Option Bool)) (ap:Nat) (aj:Value) (w:World) (U:PHeap) (hS:St0 w U []) (aI:FnOK Tryz.prog U ae wHV wHW p0.of) (aJ:Cl U ap 0 [aj]) (aK:FnOK Tryz.prog U aj wKh wKi p1) {r:Bool} (hm:wAb p0 p1=some r):Gv Tryz.prog 176 [.agg #[ae,jV p0.lo,jV p0.hi],.pointer (some ⟨ap,0,none⟩)] w (wCi w [] U (fun U_ L_ v=>v=.bool r/\L_=[])):=by
 unfold wAb at hm
 refine Gv.of Tryz.func176 Z Tryz.ntmps176 Tryz.results176 Z (sR gAi Z ?_)
 let B0:List Value:=[ae,jV p0.lo,jV p0.hi]
 refine Zh (cs:=B0) rfl rfl rfl rfl rfl rfl (by rfl) hS ?_
 intro W1 b2 ai
 refine oA Z Z (eN (sR gAx Z (oL Z (ai.ldC (f:=0) aJ (v:=aj) Z Z Tryz.isAgg225 Z) (oL Z (ai.ldBA (j:=0) Z Z Z Tryz.isAgg222 Tryz.sizeOf222 (vs:=B0) Z Z) (bnK hm fun x5 h6 aL=>OKS.callV (a:=p0) Z Z Z Z Z Z (zC Z zO) ai aK ⟨ae,Z,aI⟩ h6 ?_)))))
 rintro U8 L9 aP aq aO az ⟨rfl,rfl⟩
 have aH:sW w U U8 [.blk b2 222 B0] aq:=az
 refine oR Z (ZU Z Z) (oA Z Z (eN (zQ ?_)))
 cases aL
 exact ⟨rfl,_,(ZA rfl),U8,_,(aH.pick [] _ (by decide) rfl),rfl,rfl⟩
theorem wBs (p0:List wAH) (az:Option Addr) (aH:Nat) (p1:(wAH->Option Bool)) (aI:Value) (w:World) (U:PHeap) (hS:St0 w U []) (bk:SlR U wGP az aH p0) (bl:FnOK Tryz.prog U aI wKh wKi p1) {r:Int} (hm:wAV p0 p1=some r):Gv Tryz.prog 201 [.slice az p0.length aH,aI] w (wCi w [] U (fun U_ L_ v=>v=jV r/\L_=[])):=by
 unfold wAV at hm
 refine Gv.of Tryz.func201 Z Tryz.ntmps201 Tryz.results201 Z (sR fL1 Z (oA Z Z (eN (zE (sR fL3 Z (oM Z Z (oR Z (zV Z Z Tryz.runUnderlying223) (oM Z Z (eN (zR ?_))))))))))
 have q:=wCH hm
 obtain ⟨r3,ap⟩:=q
 have q:=wCG ap
 obtain ⟨au,bp⟩:=q
 replace au:=zD au
 refine yB (fun k2 _ σ_ w_=>∃ (U_:PHeap),σ_ 8=jV (↑k2:Int)/\σ_ 0=.slice az p0.length aH/\σ_ 1=aI/\σ_ 7=jV (↑p0.length:Int)/\PHeap.Le U U_/\sW w U U_ [] w_) bp ?_ ?_ ?_
 exact ⟨U,Z,Z,Z,Z,(zL _),hS⟩
 rintro k2 ⟨⟩ bM bO W8 aq ⟨aU,ak,aL,aM,aN,av,aP⟩ aS bm
 try dsimp only at aS
 have aK:Hid ((↑k2:Int) < (↑p0.length:Int)):=zD (wBh aq)
 replace aq:=zD aq
 have bq:Hid (w64 ((↑k2:Int) + 1)=(↑(k2 + 1):Int)):=zD (by have h1:=au.out;have h2:=aK.out;rw [wAU] <;> omega)
 refine sR fL1 Z (oR Z (zZ Z ak aN) (eN (zE (cT Z aK (kN (zE (zR (sR fL2 Z (oM Z ak (oA Z Z (eN (sR (wMp (.fx 5 .nil .stop)) Z (oM Z aM (oM Z aL (oM Z Z (bnK aS fun ah aO br=>?_))))))))))))))))
 have bb:=bk.le av
 have q:=bb.el (wAX aO)
 obtain ⟨aX,bA,bK,bh,am,bw⟩:=q
 obtain ⟨aJ,rfl,be⟩:=bw
 replace am:Cl aU aX (bA + k2 * 3) [aJ,jV ah.lo,jV ah.hi]:=am
 refine oR Z (zy Z Z bh Z Tryz.runUnderlying223 Tryz.sizeOf222 (wAw aO)) (oL Z (aP.ldCA (f:=0) am Z Z Tryz.isAgg222 Tryz.sizeOf222 (us:=[aJ,jV ah.lo,jV ah.hi]) Z Z) (bnK br fun bL bf bs=>?_))
 have bg:=bl.le av
 refine OKS.callV (a:=ah) Z Z Z Z Z Z (zC Z zO) aP bg ⟨aJ,Z,be⟩ bf ?_
 rintro ai bC bJ aW bz bi ⟨rfl,rfl⟩
 have aQ:sW w U ai [] aW:=bi
 refine eN (ifc bs ?_ ?_)
 intro aj bt
 refine ZQ (congrArg nB aj.out) (sR fL2 Z (oM Z Z (oA Z Z (eN (zQ (zd (zK ?_)))))))
 have q:=wAa bt
 obtain ⟨bB,bu,aZ⟩:=q
 have q:=wBw hm ap (bm bB aZ)
 obtain rfl:=q
 refine zK (zd (zK ?_))
 cases bu
 exact ⟨Z,_,(ZA Z),ai,_,aQ,Z,Z⟩
 intro aj bv
 refine zx (congrArg nB (nD.2 aj.out)) (Zp (zj (zF (rR fL2 Z (oR Z (ZP (ze Z ak Z) (congrArg (jV) bq.out)) (oM Z Z (zr ?_)))))))
 have q:=nA bv
 obtain rfl:=q
 exact zF ⟨Z,_,Z,⟨ai,Z,aL,aM,aN,(av.trans bz),aQ⟩⟩
 rintro ⟨⟩ bN bD ⟨aV,ba,bF,bG,a0,bH,bj⟩ bn
 have aR:=wCo hm ap bn
 try dsimp only at aR
 have aY:Hid (¬ ((↑(((↑p0.length:Int):Int) - 0).toNat:Int) < (↑p0.length:Int))):=zD (wBH)
 refine sR fL1 Z (oR Z (zZ Z ba a0) (eN (zE (cF Z aY (ZM (zW (zW (ZB (zF (sR fL1 Z (oA Z Z (eN (zQ ?_)))))))))))))
 cases aR
 exact ⟨Z,_,(ZA Z),aV,_,bj,Z,Z⟩
theorem wBl (p0:List wAH) (ah:Option Addr) (ai:Nat) (p1:(wAH->Option Bool)) (aj:Value) (w:World) (U:PHeap) (hS:St0 w U []) (az:SlR U wGP ah ai p0) (aH:FnOK Tryz.prog U aj wKh wKi p1) {r:Bool} (hm:wAR p0 p1=some r):Gv Tryz.prog 175 [.slice ah p0.length ai,aj] w (wCi w [] U (fun U_ L_ v=>v=.bool r/\L_=[])):=by
 unfold wAR at hm
 refine Gv.of Tryz.func175 Z Tryz.ntmps175 Tryz.results175 Z (sR fL1 Z (oA Z Z (eN (sR gAx Z (oM Z Z (oM Z Z (bnK hm fun x1 h2 am=>zN 0 Z Z Z Z (zJ Z Z Tryz.call201 (zC Z (zC Z zO)) Z) hS (fun hs=>wBs p0 ah ai p1 aj w U hs az aH h2) (.inr Z) ?_)))))))
 rintro U4 L5 v6 W7 aJ av ⟨rfl,rfl⟩
 have au:sW w U U4 [] W7:=av
 refine oR Z (Runs.geq Z Z Z) (oA Z Z (eN (zQ ?_)))
 first | (obtain rfl:=nA am) | cases am
 exact ⟨Z,_,(ZA Z),U4,_,au,Z,Z⟩
theorem wDI (p0:List wAH) (am:Option Addr) (ap:Nat) (p1:(wAH->Option Bool)) (ai:Value) (w:World) (U:PHeap) (hS:St0 w U []) (aS:SlR U wGP am ap p0) (av:FnOK Tryz.prog U ai wKh wKi p1) {r:Bool} (hm:wAu p0 p1=some r):Gv Tryz.prog 135 [.slice am p0.length ap,ai] w (wCi w [] U (fun U_ L_ v=>v=.bool r/\L_=[])):=by
 unfold wAu at hm
 refine Gv.of Tryz.func135 Z Tryz.ntmps135 Tryz.results135 Z (sR gAi Z (Zh (cs:=[ai]) Z Z Z Z Z Z (FnOK.cells av) hS ?_))
 intro W1 b2 aP
 have q:=aP.freeze (k:=0) rfl
 obtain ⟨U5,az,ae,aQ⟩:=q
 replace ae:=Cl.of ae
 have aR:sW w U U5 [] W1:=aQ
 replace ae:Cl U5 b2 0 [ai]:=ae
 refine oA Z Z (eN (sR gAx Z (oM Z Z (oR Z (Runs.mkf Z zO (zC Z zO)) ?_))))
 have aJ:=aS.le az
 have aK:=av.le az
 have aM:FnOK Tryz.prog U5 (.func (.func 176) #[] #[.pointer (some ⟨b2,0,none⟩)]) wKh wKi (fun x=>wAb x p1):=⟨176,[],[.pointer (some ⟨b2,0,none⟩)],rfl,Tryz.call176,fun U1 w1 x y vs le hs ha hm=>by obtain ⟨pv_0_0,rfl,hq0_0⟩:=ha;exact wCx x pv_0_0 p1 b2 ai w1 U1 hs hq0_0 (ae.le le) (aK.le le) hm⟩
 refine bnK hm fun aY aL aT=>zN 0 Z Z Z Z (zJ Z Z Tryz.call175 (zC Z (zC Z zO)) Z) aR (fun hs=>wBl p0 am ap (fun x=>wAb x p1) (.func (.func 176) #[] #[.pointer (some ⟨b2,0,none⟩)]) W1 U5 hs aJ aM aL) (.inr Z) ?_
 rintro aq aV aX aI aW aN ⟨rfl,rfl⟩
 have aO:sW w U aq [] aI:=aN
 refine oR Z (ZU Z Z) (oA Z Z (eN (zQ ?_)))
 cases aT
 exact ⟨Z,_,(ZA Z),aq,_,aO,Z,Z⟩
theorem wEh (p0:wAC) (ah:Option Addr) (ai:Nat) (w:World) (U:PHeap) (hS:St0 w U []) (bD:Sl U 1 ah ai p0.Classes.length (hH KL.encI p0.Classes)) {r:Int} (hm:wBc p0=some r):Gv Tryz.prog 99 [.agg #[.slice ah p0.Classes.length ai,jV p0.Each,jV p0.Laps,jV p0.Spare,jV p0.Loop,jV p0.Unused]] w (wCi w [] U (fun U_ L_ v=>v=jV r/\L_=[])):=by
 unfold wBc at hm
 refine Gv.of Tryz.func99 Z Tryz.ntmps99 Tryz.results99 Z (sR gAi Z ?_)
 let B0:List Value:=[.slice ah p0.Classes.length ai,jV p0.Each,jV p0.Laps,jV p0.Spare,jV p0.Loop,jV p0.Unused]
 refine Zh (cs:=B0) rfl rfl rfl rfl rfl rfl (by rfl) hS ?_
 intro W1 b2 bt
 have q:=bt.freeze (k:=0) rfl
 obtain ⟨U5,bP,aj,bC⟩:=q
 replace aj:=Cl.of aj
 have aU:sW w U U5 [] W1:=bC
 replace aj:Cl U5 b2 0 B0:=aj
 refine oA Z Z (eN (zE (zR (sR (wCu (.fx 3 gAd .stop)) Z (oR Z (zB Z Z zS Z zM) (oL Z (aU.ldC (f:=0) aj (v:=.slice ah p0.Classes.length ai) Z Z zf Z) (oR Z (zV Z Z zI) (bnK hm fun b5 be bE=>zN 0 Z Z Z Z (zJ Z Z Zy (zC Z (zC Z (zC Z zO))) Z) aU (fun hs=>wBu (↑p0.Classes.length:Int) 1 4 W1 U5 hs be) (.inr Z) ?_))))))))
 rintro am bR bW aN aV bs ⟨rfl,rfl⟩
 have aJ:sW w U am [] aN:=bs
 refine oR Z (ZU Z Z) (oA Z Z (eN (ifc bE ?_ ?_)))
 intro aH bF
 refine zx (nC aH.out) (sR (.fl 0 (.fl 1 (.fx 2 (.fl 3 (.fl 4 (.fx 5 (.fl 6 (.fx 7 (wOK (.nil)) .stop)) .stop))) .stop))) Z (oR Z (zB Z Z zS Z zM) ?_))
 have aQ:=aj.le aV
 refine oL Z (aJ.ldC (f:=0) aQ (v:=.slice ah p0.Classes.length ai) Z Z zf Z) ?_
 have bf:=bD.le bP
 have aR:=bf.le aV
 refine bnK bF fun b8 bg bG=>zN 0 Z Z Z Z (zJ Z Z Tryz.call103 (zC Z zO) Z) aJ (fun hs=>wDn p0.Classes ah ai aN am hs aR bg) (.inr Z) ?_
 rintro ap bS bX aO aW bu ⟨rfl,rfl⟩
 have aS:sW w U ap [] aO:=bu
 refine oR Z (ZU Z Z) (oM Z Z (ifc bG ?_ ?_))
 intro ae bH
 refine bnK bH fun x37 bh bI=>zN 0 Z Z Z (zi Z Z (nC ae.out)) (zJ Z Z Tryz.call136 zO Z) aS (fun hs=>wGh aO ap hs bh) (.inr Z) ?_
 rintro a0 bT bY az aX bv ⟨aK,aP,bb,rfl,rfl,bi⟩
 have bw:sW w U a0 [.row aK aP 222 3 bb] az:=bv
 refine ZE Z Z Z (zi Z Z (nC ae.out)) (fun _=>Runs.mkf Z zO (zC Z zO)) ?_
 have q:=bw.freezeRR (R:=wGP) (k:=0) rfl bi rfl (by decide)
 obtain ⟨au,aY,bO,bz⟩:=q
 have bA:sW w U au [] az:=bz
 have bj:=aQ.le aW
 have bk:=bj.le aX
 have bl:=bk.le aY
 have bm:=aR.le aW
 have bn:=bm.le aX
 have bp:=bn.le aY
 have br:FnOK Tryz.prog au (.func (.func 137) #[] #[.pointer (some ⟨b2,0,none⟩)]) wKh wKi (fun x=>wAy x p0):=⟨137,[],[.pointer (some ⟨b2,0,none⟩)],rfl,Tryz.call137,fun U1 w1 x y vs le hs ha hm=>by obtain ⟨pv_0_0,rfl,hq0_0⟩:=ha;exact wDx x pv_0_0 p0 b2 ah ai w1 U1 hs hq0_0 (bl.le le) (bp.le le) hm⟩
 refine bnK bI fun cb bq bJ=>zN 0 Z Z Z (zi Z Z (nC ae.out)) (zJ Z Z Tryz.call135 (zC Z (zC Z zO)) Z) bA (fun hs=>wDI x37 aK aP (fun x=>wAy x p0) (.func (.func 137) #[] #[.pointer (some ⟨b2,0,none⟩)]) az au hs bO br bq) (.inr Z) ?_
 rintro av bU bZ ba bV bB ⟨rfl,rfl⟩
 have aT:sW w U av [] ba:=bB
 refine ZE Z Z Z (zi Z Z (nC ae.out)) (fun _=>ZU Z Z) (oR Z (ZH Z (nC ae.out) Z) (oA Z Z (eN (ifc bJ ?_ ?_))))
 intro aI bK
 refine zx (nC aI.out) (Zp (zj (zF (sR fL1 Z (oA Z Z (eN (zQ ?_)))))))
 cases bK
 exact ⟨Z,_,(ZA Z),av,_,aT,Z,Z⟩
 intro aI bL
 refine ZQ (nF (aI.out)) (sR fL1 Z (oA Z Z (eN (zQ (zd (zK ?_))))))
 cases bL
 exact ⟨Z,_,(ZA Z),av,_,aT,Z,Z⟩
 intro ae bM
 refine OKS.px Z Z Z (ZS Z Z (nF (ae.out)) Z) (ZG Z Z Z (ZS Z Z (nF (ae.out)) Z) (OKS.px Z Z Z (ZS Z Z (nF (ae.out)) Z) (ZG Z Z Z (ZS Z Z (nF (ae.out)) Z) (oR Z (ZF Z (nF (ae.out)) Z) (oA Z Z (eN (ZQ Z (sR fL1 Z (oA Z Z (eN (zQ (zd (zK ?_)))))))))))))
 cases bM
 exact ⟨Z,_,(ZA Z),ap,_,aS,Z,Z⟩
 intro aH bN
 refine ZQ (nF (aH.out)) (sR fL1 Z (oA Z Z (eN (zQ (zd (zK ?_))))))
 cases bN
 exact ⟨Z,_,(ZA Z),am,_,aJ,Z,Z⟩
theorem wEP (p0:wAC) (aV:Option Addr) (aX:Nat) (p1:wAD) (aW:Option Addr) (aY:Nat) (aq:Option Addr) (av:Nat) (w:World) (U:PHeap) (hS:St0 w U []) (cP:Sl U 1 aV aX p0.Classes.length (hH KL.encI p0.Classes)) (cQ:Sl U 1 aW aY p1.Classes.length (hH KL.encI p1.Classes)) (bR:SlR U wEf aq av p1.Legs) {r:Bool} (hm:wAr p0 p1=some r):Gv Tryz.prog 101 [.agg #[.slice aV p0.Classes.length aX,jV p0.Each,jV p0.Laps,jV p0.Spare,jV p0.Loop,jV p0.Unused],.agg #[jV p1.Bib,.slice aW p1.Classes.length aY,.slice aq p1.Legs.length av]] w (wCi w [] U (fun U_ L_ v=>v=.bool r/\L_=[])):=by
 unfold wAr at hm
 refine Gv.of Tryz.func101 Z Tryz.ntmps101 Tryz.results101 Z (sR (.fx 0 gAh .stop) Z ?_)
 let B0:List Value:=[.slice aV p0.Classes.length aX,jV p0.Each,jV p0.Laps,jV p0.Spare,jV p0.Loop,jV p0.Unused]
 refine Zh (cs:=B0) rfl rfl rfl rfl rfl rfl (by rfl) hS ?_
 intro W1 b2 bO
 let B1:List Value:=[jV p1.Bib,.slice aW p1.Classes.length aY,.slice aq p1.Legs.length av]
 refine Zh (cs:=B1) rfl rfl rfl rfl rfl rfl (by rfl) bO ?_
 intro W5 b6 bp
 refine oA Z Z (eN (zE (sR (wCu (.fx 3 (wQx (.nil)) .stop)) Z (oR Z (zB Z Z zP Z zM) (oL Z (bp.ldB (j:=0) Z Z Z zf (v:=.slice aW p1.Classes.length aY) Z) (oR Z (zV Z Z zI) (bnK hm fun x9 bI bU=>zN 0 Z Z Z Z (zJ Z Z Zy (zC Z (zC Z (zC Z zO))) Z) bp (fun hs=>wBu (↑p1.Classes.length:Int) 1 8 W5 U hs bI) (.inr Z) ?_)))))))
 rintro aL cE cU bu cw bN ⟨rfl,rfl⟩
 have aH:sW w U aL [.blk b6 43 B1,.blk b2 25 B0] bu:=bN
 refine oR Z (ZU Z Z) (oM Z Z (ifc bU ?_ ?_))
 intro aj bW
 refine ZE Z Z Z (zi Z Z (nC aj.out)) (fun _=>zB Z Z zP Z zz) (Zt Z Z Z (zi Z Z (nC aj.out)) (aH.ldB (j:=0) Z Z Z Zi (v:=.slice aq p1.Legs.length av) Z) Z (ZE Z Z Z (zi Z Z (nC aj.out)) (fun _=>zV Z Z zt) (ZE Z Z Z (zi Z Z (nC aj.out)) (fun _=>zB Z Z zS Z zM) (Zt Z Z Z (zi Z Z (nC aj.out)) (aH.ldB (j:=1) Z Z Z zf (v:=.slice aV p0.Classes.length aX) Z) Z (ZE Z Z Z (zi Z Z (nC aj.out)) (fun _=>zV Z Z zI) (ZE Z Z Z (zi Z Z (nC aj.out)) (fun _=>yF Z Z Z) (oR Z (ZH Z (nC aj.out) Z) (eN (ifc bW ?_ ?_)))))))))
 intro aZ bX
 refine cT Z aZ (sR fL1 Z (oA Z Z (eN (zQ (zK ?_)))))
 have hE:=nA bX;first | subst r | cases hE
 exact ⟨rfl,_,(ZA rfl),aL,_,(aH.pick [] _ (by decide) rfl),rfl,rfl⟩
 intro aZ aJ
 refine cF Z aZ (kN (zE (sR fL4 Z (oR Z (zB Z Z zP Z zz) (oL Z (aH.ldB (j:=0) Z Z Z Zi (v:=.slice aq p1.Legs.length av) Z) (oR Z (zV Z Z zt) (oM Z Z (eN (zR ?_)))))))))
 have q:=wCH aJ
 obtain ⟨cS,aI⟩:=q
 have q:=wCG aI
 obtain ⟨bi,bT⟩:=q
 replace bi:=zD bi
 refine yB (fun aK _ σ_ w_=>∃ (U_:PHeap),σ_ 24=jV (↑aK:Int)/\σ_ 2=.pointer (some ⟨b2,0,none⟩)/\σ_ 3=.pointer (some ⟨b6,0,none⟩)/\σ_ 22=.slice aq p1.Legs.length av/\σ_ 23=jV (↑p1.Legs.length:Int)/\PHeap.Le aL U_/\sW w U U_ [.blk b6 43 B1,.blk b2 25 B0] w_) bT ?_ ?_ ?_
 exact ⟨aL,Z,Z,Z,Z,Z,(zL _),aH⟩
 rintro aK ⟨⟩ cX cY cH bh ⟨ap,aM,aT,bb,be,bf,bj,bn⟩ bs aU
 try dsimp only at bs
 have bl:Hid ((↑aK:Int) < (↑p1.Legs.length:Int)):=zD (wBh bh)
 replace bh:=zD bh
 have bq:Hid (w64 ((↑aK:Int) + 1)=(↑(aK + 1):Int)):=zD (by have h1:=bi.out;have h2:=bl.out;rw [wAU] <;> omega)
 refine sR fL1 Z (oR Z (zZ Z aM bf) (eN (zE (cT Z bl (kN (zE (zR (sR (wCu gAp) Z (oM Z aM (bnK bs fun x46 bm bY=>?_))))))))))
 have bJ:=bR.le cw
 have bK:=bJ.le bj
 have q:=bK.el (wAX bm)
 obtain ⟨bz,cy,cV,bL,bg,cu⟩:=q
 obtain ⟨au,az,aN,aO,rfl,cN,cO⟩:=cu
 replace bg:Cl ap bz (cy + aK * 3) [jV x46.Skier,.slice au x46.Loops.length az,.slice aN x46.Bouts.length aO]:=bg
 refine oR Z (zy Z be bL aM zt zn (wAw bm)) (oL Z (bn.ldCA (f:=0) bg Z Z Zv zn (us:=[jV x46.Skier,.slice au x46.Loops.length az,.slice aN x46.Bouts.length aO]) Z Z) (zo (cs:=[jV 0,.slice none 0 0,.slice none 0 0]) Z Z Z Z Z ZC Z bn ?_))
 intro cI bA bP
 refine oA Z Z ?_
 let B2:List Value:=[jV x46.Skier,.slice au x46.Loops.length az,.slice aN x46.Bouts.length aO]
 refine zY (j:=0) (vs:=B2) Z Z Z Z bP Z Z Z Z zn (zA Z) Z Z Z ?_
 intro bw bQ
 have am:sW w U ap [.blk bA 46 B2,.blk b6 43 B1,.blk b2 25 B0] bw:=bQ
 refine eN (sR fL33 Z (oR Z (zB Z Z zX Z zM) (oL Z (am.ldB (j:=0) Z Z Z zf (v:=.slice au x46.Loops.length az) Z) (oR Z (zV Z Z zI) (oR Z (zB Z aT zS Z zG) (oL Z (am.ldB (j:=2) Z Z Z zU (v:=jV p0.Laps) Z) (oR Z (yF Z Z Z) (oM Z Z (ifc bY ?_ ?_)))))))))
 intro aa bZ
 refine oT Z aa (oT Z aa (oT Z aa (oT Z aa (oT Z aa (oT Z aa (oT Z aa (ZG Z Z Z (wAo Z Z Z) (ZG Z Z Z (wAo Z Z Z) (ZG Z Z Z (wAo Z Z Z) (ZG Z Z Z (wAo Z Z Z) (ZG Z Z Z (wAo Z Z Z) (ZG Z Z Z (wAo Z Z Z) (oT Z aa (oR Z (ZF Z (wGb aa.out) Z) (oM Z Z (oN Z (oN Z (oN Z (oN Z (oN Z (oN Z (oN Z (oN Z (oN Z (oR Z (ZF Z Z Z) (eN (ZQ Z (sR fL1 Z (oA Z Z (eN (zQ (zd (zK ?_)))))))))))))))))))))))))))))))))
 have q:=wAa bZ
 obtain ⟨cz,b5,bC⟩:=q
 have q:=wBw aJ aI (aU cz bC)
 obtain rfl:=q
 refine zK (zd (zK ?_))
 have hE:=nA b5;first | subst r | cases hE
 exact ⟨rfl,_,(ZA rfl),ap,_,(am.pick [] _ (by decide) rfl),rfl,rfl⟩
 intro aa b8
 refine ZY Z Z Z (wF Z aa) Z Z (rU Z (wF Z aa) (zB Z bb zP Z zz) (Zt Z Z Z (wF Z aa) (am.ldB (j:=1) Z Z Z Zi (v:=.slice aq p1.Legs.length av) Z) Z (rU Z (wF Z aa) (zV Z Z zt) (rU Z (wF Z aa) (Zg Z Z Z) (rU Z (wF Z aa) (zZ Z Z Z) (ZY Z Z Z (wF Z aa) Z Z (ifc b8 ?_ ?_)))))))
 intro ak cb
 refine rU Z (wT Z ak) (zB Z Z zX Z zM) (Zt Z Z Z (wT Z ak) (am.ldB (j:=0) Z Z Z zf (v:=.slice au x46.Loops.length az) Z) Z (rU Z (wT Z ak) (zV Z Z zI) (rU Z (wT Z ak) (zB Z aT zS Z zG) (Zt Z Z Z (wT Z ak) (am.ldB (j:=2) Z Z Z zU (v:=jV p0.Laps) Z) Z (rU Z (wT Z ak) (zZ Z Z Z) (rU Z (wF Z aa) (ZF Z (wGb ak.out) Z) (oR Z (ZH Z (ZR aa.out) Z) (oM Z Z (ifc cb ?_ ?_)))))))))
 intro ae cd
 refine oT Z ae (oT Z ae (oT Z ae (oT Z ae (oT Z ae (oT Z ae (oT Z ae (oT Z ae (oT Z ae (oR Z (ZF Z (wGb ae.out) Z) (eN (ZQ Z (sR fL1 Z (oA Z Z (eN (zQ (zd (zK ?_)))))))))))))))))
 have q:=wAa cd
 obtain ⟨cA,cg,bD⟩:=q
 have q:=wBw aJ aI (aU cA bD)
 obtain rfl:=q
 refine zK (zd (zK ?_))
 have hE:=nA cg;first | subst r | cases hE
 exact ⟨rfl,_,(ZA rfl),ap,_,(am.pick [] _ (by decide) rfl),rfl,rfl⟩
 intro ae ci
 refine rU Z (wF Z ae) (zB Z Z zX Z Ze) (Zt Z Z Z (wF Z ae) (am.ldB (j:=0) Z Z Z Zz (v:=.slice aN x46.Bouts.length aO) Z) Z (rU Z (wF Z ae) (zV Z Z ZJ) (rU Z (wF Z ae) (zB Z Z zX Z zM) (Zt Z Z Z (wF Z ae) (am.ldB (j:=0) Z Z Z zf (v:=.slice au x46.Loops.length az) Z) Z (rU Z (wF Z ae) (zV Z Z zI) (rU Z (wF Z ae) (Zg Z Z Z) (rU Z (wF Z ae) (Runs.max Z Z Z) (rU Z (wF Z ae) (Zk Z Z Z) (oR Z (ZH Z (ZR ae.out) Z) (eN (ifc ci ?_ ?_)))))))))))
 intro a0 cj
 refine zx (ZR (fun h=>h a0.out)) (Zp (zj (zF (rR fL2 Z (oR Z (ZP (ze Z aM Z) (congrArg (jV) bq.out)) (oM Z Z (zr ?_)))))))
 have q:=nA cj
 obtain rfl:=q
 exact zF ⟨rfl,_,rfl,⟨ap,rfl,aT,bb,be,bf,bj,(am.pick [1,2] _ (by decide) rfl)⟩⟩
 intro a0 cm
 refine cT Z a0 (sR fL1 Z (oA Z Z (eN (zQ (zd (zK ?_))))))
 have q:=wAa cm
 obtain ⟨cC,cn,bE⟩:=q
 have q:=wBw aJ aI (aU cC bE)
 obtain rfl:=q
 refine zK (zd (zK ?_))
 have hE:=nA cn;first | subst r | cases hE
 exact ⟨rfl,_,(ZA rfl),ap,_,(am.pick [] _ (by decide) rfl),rfl,rfl⟩
 intro ak cp
 refine oF Z ak (oF Z ak (oF Z ak (oF Z ak (oF Z ak (oF Z ak (rU Z (wF Z aa) (ZH Z (ZR ak.out) Z) (oR Z (ZH Z (ZR aa.out) Z) (oM Z Z (ZE Z Z Z (zi Z Z Z) (fun _=>zB Z Z zX Z Ze) (Zt Z Z Z (zi Z Z Z) (am.ldB (j:=0) Z Z Z Zz (v:=.slice aN x46.Bouts.length aO) Z) Z (ZE Z Z Z (zi Z Z Z) (fun _=>zV Z Z ZJ) (ZE Z Z Z (zi Z Z Z) (fun _=>zB Z Z zX Z zM) (Zt Z Z Z (zi Z Z Z) (am.ldB (j:=0) Z Z Z zf (v:=.slice au x46.Loops.length az) Z) Z (ZE Z Z Z (zi Z Z Z) (fun _=>zV Z Z zI) (ZE Z Z Z (zi Z Z Z) (fun _=>Zg Z Z Z) (ZE Z Z Z (zi Z Z Z) (fun _=>Runs.max Z Z Z) (ZE Z Z Z (zi Z Z Z) (fun _=>Zk Z Z Z) (oR Z (ZH Z Z Z) (eN (ifc cp ?_ ?_))))))))))))))))))))
 intro ba cq
 refine zx (ZR (fun h=>h ba.out)) (Zp (zj (zF (rR fL2 Z (oR Z (ZP (ze Z aM Z) (congrArg (jV) bq.out)) (oM Z Z (zr ?_)))))))
 have q:=nA cq
 obtain rfl:=q
 exact zF ⟨rfl,_,rfl,⟨ap,rfl,aT,bb,be,bf,bj,(am.pick [1,2] _ (by decide) rfl)⟩⟩
 intro ba cr
 refine cT Z ba (sR fL1 Z (oA Z Z (eN (zQ (zd (zK ?_))))))
 have q:=wAa cr
 obtain ⟨cD,ct,bF⟩:=q
 have q:=wBw aJ aI (aU cD bF)
 obtain rfl:=q
 refine zK (zd (zK ?_))
 have hE:=nA ct;first | subst r | cases hE
 exact ⟨rfl,_,(ZA rfl),ap,_,(am.pick [] _ (by decide) rfl),rfl,rfl⟩
 rintro ⟨⟩ cZ cJ ⟨bt,bH,cK,cL,cM,bG,cR,bM⟩ bS
 have br:=wCo aJ aI bS
 try dsimp only at br
 have bB:Hid (¬ ((↑(((↑p1.Legs.length:Int):Int) - 0).toNat:Int) < (↑p1.Legs.length:Int))):=zD (wBH)
 refine sR fL1 Z (oR Z (zZ Z bH bG) (eN (zE (cF Z bB (ZM (zW (zW (ZB (zF (sR fL1 Z (oA Z Z (eN (zQ ?_)))))))))))))
 have hE:=nA br;first | subst r | cases hE
 exact ⟨rfl,_,(ZA rfl),bt,_,(bM.pick [] _ (by decide) rfl),rfl,rfl⟩
 intro aj bV
 refine ZG Z Z Z (ZS Z Z (nF (aj.out)) Z) (ZG Z Z Z (ZS Z Z (nF (aj.out)) Z) (ZG Z Z Z (ZS Z Z (nF (aj.out)) Z) (ZG Z Z Z (ZS Z Z (nF (aj.out)) Z) (ZG Z Z Z (ZS Z Z (nF (aj.out)) Z) (ZG Z Z Z (ZS Z Z (nF (aj.out)) Z) (ZG Z Z Z (ZS Z Z (nF (aj.out)) Z) (oR Z (ZF Z (nF (aj.out)) Z) (eN (ZQ Z (sR fL1 Z (oA Z Z (eN (zQ (zK ?_))))))))))))))
 have hE:=nA bV;first | subst r | cases hE
 exact ⟨rfl,_,(ZA rfl),aL,_,(aH.pick [] _ (by decide) rfl),rfl,rfl⟩
end Go.Proofs.YtnbcoenjobdplaaGreat
namespace Go.Proofs.YtnbcoenjobdplaaGreat
open Go.KL
set_option maxHeartbeats 4000000
theorem wDG (p0:wAD) (ae:Option Addr) (ai:Nat) (ah:Option Addr) (aj:Nat) (p1:(wAD->Option Bool)) (av:Nat) (ap:Value) (w:World) (U:PHeap) (hS:St0 w U []) (aL:Sl U 1 ae ai p0.Classes.length (hH KL.encI p0.Classes)) (aM:SlR U wEf ah aj p0.Legs) (aN:Cl U av 0 [ap]) (aO:FnOK Tryz.prog U ap wJH wJI p1) {r:Bool} (hm:wAe p0 p1=some r):Gv Tryz.prog 139 [.agg #[jV p0.Bib,.slice ae p0.Classes.length ai,.slice ah p0.Legs.length aj],.pointer (some ⟨av,0,none⟩)] w (wCi w [] U (fun U_ L_ v=>v=.bool r/\L_=[])):=by
 unfold wAe at hm
 refine Gv.of Tryz.func139 Z Tryz.ntmps139 Tryz.results139 Z (sR gAi Z ?_)
 let B0:List Value:=[jV p0.Bib,.slice ae p0.Classes.length ai,.slice ah p0.Legs.length aj]
 refine Zh (cs:=B0) rfl rfl rfl rfl rfl rfl (by rfl) hS ?_
 intro W1 b2 am
 refine oA Z Z (eN (sR gAx Z (oL Z (am.ldC (f:=0) aN (v:=ap) Z Z Tryz.isAgg191 Z) (oL Z (am.ldBA (j:=0) Z Z Z Zl zk (vs:=B0) Z Z) (bnK hm fun x5 h6 aP=>OKS.callV (a:=p0) Z Z Z Z Z Z (zC Z zO) am aO ⟨ae,ai,ah,aj,Z,aL,aM⟩ h6 ?_)))))
 rintro U8 L9 aT az aS aJ ⟨rfl,rfl⟩
 have aK:sW w U U8 [.blk b2 43 B0] az:=aJ
 refine oR Z (ZU Z Z) (oA Z Z (eN (zQ ?_)))
 cases aP
 exact ⟨rfl,_,(ZA rfl),U8,_,(aK.pick [] _ (by decide) rfl),rfl,rfl⟩
theorem wBz (p0:List wAD) (az:Option Addr) (aJ:Nat) (p1:(wAD->Option Bool)) (aM:Value) (w:World) (U:PHeap) (hS:St0 w U []) (bp:SlR U wFN az aJ p0) (bq:FnOK Tryz.prog U aM wJH wJI p1) {r:Int} (hm:wAW p0 p1=some r):Gv Tryz.prog 182 [.slice az p0.length aJ,aM] w (wCi w [] U (fun U_ L_ v=>v=jV r/\L_=[])):=by
 unfold wAW at hm
 refine Gv.of Tryz.func182 Z Tryz.ntmps182 Tryz.results182 Z (sR fL1 Z (oA Z Z (eN (zE (sR fL3 Z (oM Z Z (oR Z (zV Z Z zg) (oM Z Z (eN (zR ?_))))))))))
 have q:=wCH hm
 obtain ⟨r3,ap⟩:=q
 have q:=wCG ap
 obtain ⟨au,bt⟩:=q
 replace au:=zD au
 refine yB (fun k2 _ σ_ w_=>∃ (U_:PHeap),σ_ 8=jV (↑k2:Int)/\σ_ 0=.slice az p0.length aJ/\σ_ 1=aM/\σ_ 7=jV (↑p0.length:Int)/\PHeap.Le U U_/\sW w U U_ [] w_) bt ?_ ?_ ?_
 exact ⟨U,Z,Z,Z,Z,(zL _),hS⟩
 rintro k2 ⟨⟩ bP bR W8 aq ⟨aX,ak,aO,aP,aQ,av,aS⟩ aV br
 try dsimp only at aV
 have aN:Hid ((↑k2:Int) < (↑p0.length:Int)):=zD (wBh aq)
 replace aq:=zD aq
 have bu:Hid (w64 ((↑k2:Int) + 1)=(↑(k2 + 1):Int)):=zD (by have h1:=au.out;have h2:=aN.out;rw [wAU] <;> omega)
 refine sR fL1 Z (oR Z (zZ Z ak aQ) (eN (zE (cT Z aN (kN (zE (zR (sR fL2 Z (oM Z ak (oA Z Z (eN (sR (wMp (.fx 5 .nil .stop)) Z (oM Z aP (oM Z aO (oM Z Z (bnK aV fun ae aR bv=>?_))))))))))))))))
 have bg:=bp.le av
 have q:=bg.el (wAX aR)
 obtain ⟨a0,bE,bO,bl,am,bC⟩:=q
 obtain ⟨aH,aK,aI,aL,rfl,bh,bi⟩:=bC
 replace am:Cl aX a0 (bE + k2 * 3) [jV ae.Bib,.slice aH ae.Classes.length aK,.slice aI ae.Legs.length aL]:=am
 refine oR Z (zy Z Z bl Z zg zk (wAw aR)) (oL Z (aS.ldCA (f:=0) am Z Z Zl zk (us:=[jV ae.Bib,.slice aH ae.Classes.length aK,.slice aI ae.Legs.length aL]) Z Z) (bnK bv fun x38 bj bw=>?_))
 have bk:=bq.le av
 refine OKS.callV (a:=ae) Z Z Z Z Z Z (zC Z zO) aS bk ⟨aH,aK,aI,aL,Z,bh,bi⟩ bj ?_
 rintro ai bG bN aZ bD bm ⟨rfl,rfl⟩
 have aT:sW w U ai [] aZ:=bm
 refine eN (ifc bw ?_ ?_)
 intro aj bz
 refine ZQ (congrArg nB aj.out) (sR fL2 Z (oM Z Z (oA Z Z (eN (zQ (zd (zK ?_)))))))
 have q:=wAa bz
 obtain ⟨bF,bA,bb⟩:=q
 have q:=wBw hm ap (br bF bb)
 obtain rfl:=q
 refine zK (zd (zK ?_))
 cases bA
 exact ⟨Z,_,(ZA Z),ai,_,aT,Z,Z⟩
 intro aj bB
 refine zx (congrArg nB (nD.2 aj.out)) (Zp (zj (zF (rR fL2 Z (oR Z (ZP (ze Z ak Z) (congrArg (jV) bu.out)) (oM Z Z (zr ?_)))))))
 have q:=nA bB
 obtain rfl:=q
 exact zF ⟨Z,_,Z,⟨ai,Z,aO,aP,aQ,(av.trans bD),aT⟩⟩
 rintro ⟨⟩ bQ bH ⟨aY,bf,bJ,bK,be,bL,bn⟩ bs
 have aU:=wCo hm ap bs
 try dsimp only at aU
 have ba:Hid (¬ ((↑(((↑p0.length:Int):Int) - 0).toNat:Int) < (↑p0.length:Int))):=zD (wBH)
 refine sR fL1 Z (oR Z (zZ Z bf be) (eN (zE (cF Z ba (ZM (zW (zW (ZB (zF (sR fL1 Z (oA Z Z (eN (zQ ?_)))))))))))))
 cases aU
 exact ⟨Z,_,(ZA Z),aY,_,bn,Z,Z⟩
theorem wBp (p0:List wAD) (ah:Option Addr) (ai:Nat) (p1:(wAD->Option Bool)) (aj:Value) (w:World) (U:PHeap) (hS:St0 w U []) (az:SlR U wFN ah ai p0) (aH:FnOK Tryz.prog U aj wJH wJI p1) {r:Bool} (hm:wAS p0 p1=some r):Gv Tryz.prog 138 [.slice ah p0.length ai,aj] w (wCi w [] U (fun U_ L_ v=>v=.bool r/\L_=[])):=by
 unfold wAS at hm
 refine Gv.of Tryz.func138 Z Tryz.ntmps138 Tryz.results138 Z (sR fL1 Z (oA Z Z (eN (sR gAx Z (oM Z Z (oM Z Z (bnK hm fun x1 h2 am=>zN 0 Z Z Z Z (zJ Z Z Tryz.call182 (zC Z (zC Z zO)) Z) hS (fun hs=>wBz p0 ah ai p1 aj w U hs az aH h2) (.inr Z) ?_)))))))
 rintro U4 L5 v6 W7 aJ av ⟨rfl,rfl⟩
 have au:sW w U U4 [] W7:=av
 refine oR Z (Runs.geq Z Z Z) (oA Z Z (eN (zQ ?_)))
 first | (obtain rfl:=nA am) | cases am
 exact ⟨Z,_,(ZA Z),U4,_,au,Z,Z⟩
theorem wCQ (p0:List wAD) (am:Option Addr) (ap:Nat) (p1:(wAD->Option Bool)) (ai:Value) (w:World) (U:PHeap) (hS:St0 w U []) (aS:SlR U wFN am ap p0) (av:FnOK Tryz.prog U ai wJH wJI p1) {r:Bool} (hm:wAk p0 p1=some r):Gv Tryz.prog 100 [.slice am p0.length ap,ai] w (wCi w [] U (fun U_ L_ v=>v=.bool r/\L_=[])):=by
 unfold wAk at hm
 refine Gv.of Tryz.func100 Z Tryz.ntmps100 Tryz.results100 Z (sR gAi Z (Zh (cs:=[ai]) Z Z Z Z Z Z (FnOK.cells av) hS ?_))
 intro W1 b2 aP
 have q:=aP.freeze (k:=0) rfl
 obtain ⟨U5,az,ae,aQ⟩:=q
 replace ae:=Cl.of ae
 have aR:sW w U U5 [] W1:=aQ
 replace ae:Cl U5 b2 0 [ai]:=ae
 refine oA Z Z (eN (sR gAx Z (oM Z Z (oR Z (Runs.mkf Z zO (zC Z zO)) ?_))))
 have aJ:=aS.le az
 have aK:=av.le az
 have aM:FnOK Tryz.prog U5 (.func (.func 139) #[] #[.pointer (some ⟨b2,0,none⟩)]) wJH wJI (fun x=>wAe x p1):=⟨139,[],[.pointer (some ⟨b2,0,none⟩)],rfl,Tryz.call139,fun U1 w1 x y vs le hs ha hm=>by obtain ⟨pA_0_1,pc_0_1,pA_0_2,pc_0_2,rfl,hq0_0,hq0_1⟩:=ha;exact wDG x pA_0_1 pc_0_1 pA_0_2 pc_0_2 p1 b2 ai w1 U1 hs hq0_0 hq0_1 (ae.le le) (aK.le le) hm⟩
 refine bnK hm fun aY aL aT=>zN 0 Z Z Z Z (zJ Z Z Tryz.call138 (zC Z (zC Z zO)) Z) aR (fun hs=>wBp p0 am ap (fun x=>wAe x p1) (.func (.func 139) #[] #[.pointer (some ⟨b2,0,none⟩)]) W1 U5 hs aJ aM aL) (.inr Z) ?_
 rintro aq aV aX aI aW aN ⟨rfl,rfl⟩
 have aO:sW w U aq [] aI:=aN
 refine oR Z (ZU Z Z) (oA Z Z (eN (zQ ?_)))
 cases aT
 exact ⟨Z,_,(ZA Z),aq,_,aO,Z,Z⟩
theorem wGR (p0:wAD) (ah:Option Addr) (ai:Nat) (ap:Option Addr) (aq:Nat) (w:World) (U:PHeap) (hS:St0 w U []) (aQ:Sl U 1 ah ai p0.Classes.length (hH KL.encI p0.Classes)) (aY:SlR U wEf ap aq p0.Legs) {r:Bool} (hm:wBi p0=some r):Gv Tryz.prog 102 [.agg #[jV p0.Bib,.slice ah p0.Classes.length ai,.slice ap p0.Legs.length aq]] w (wCi w [] U (fun U_ L_ v=>v=.bool r/\L_=[])):=by
 unfold wBi at hm
 refine Gv.of Tryz.func102 Z Tryz.ntmps102 Tryz.results102 Z (sR gAi Z ?_)
 let B0:List Value:=[jV p0.Bib,.slice ah p0.Classes.length ai,.slice ap p0.Legs.length aq]
 refine Zh (cs:=B0) rfl rfl rfl rfl rfl rfl (by rfl) hS ?_
 intro W1 b2 aH
 refine oA Z Z (eN (sR (.fl 0 (.fl 1 (.fx 2 (fC3_5 gAm) .stop))) Z (oR Z (zB Z Z zP Z zG) (oL Z (aH.ldB (j:=0) Z Z Z zU (v:=jV p0.Bib) Z) (bnK hm fun x5 h6 aU=>zN 0 Z Z Z Z (zJ Z Z Zy (zC Z (zC Z (zC Z zO))) Z) aH (fun hs=>wBu p0.Bib 1 999 W1 U hs h6) (.inr Z) ?_)))))
 rintro U8 L9 a0 av aV aN ⟨rfl,rfl⟩
 have am:sW w U U8 [.blk b2 43 B0] av:=aN
 refine oM Z Z (ifc aU ?_ ?_)
 intro ae aR
 refine ZE Z Z Z (zi Z Z (congrArg nB ae.out)) (fun _=>zB Z Z zP Z zM) (Zt Z Z Z (zi Z Z (congrArg nB ae.out)) (am.ldB (j:=0) Z Z Z zf (v:=.slice ah p0.Classes.length ai) Z) Z ?_)
 have aK:=aQ.le aV
 refine bnK aR fun bb aL aS=>zN 0 Z Z Z (zi Z Z (congrArg nB ae.out)) (zJ Z Z Tryz.call103 (zC Z zO) Z) am (fun hs=>wDn p0.Classes ah ai av U8 hs aK aL) (.inr Z) ?_
 rintro au aW ba aJ aZ aO ⟨rfl,rfl⟩
 have aP:sW w U au [.blk b2 43 B0] aJ:=aO
 refine oR Z (ZF Z (congrArg nB ae.out) Z) (oA Z Z (eN (zQ ?_)))
 have hE:=nA aS;first | subst r | cases hE
 exact ⟨rfl,_,(ZA rfl),au,_,(aP.pick [] _ (by decide) rfl),rfl,rfl⟩
 intro ae aT
 refine ZG Z Z Z (ZS Z Z (congrArg nB (nD.2 ae.out)) Z) (ZG Z Z Z (ZS Z Z (congrArg nB (nD.2 ae.out)) Z) (OKS.px Z Z Z (ZS Z Z (congrArg nB (nD.2 ae.out)) Z) (oR Z (ZH Z (congrArg nB (nD.2 ae.out)) Z) (oA Z Z (eN (zQ ?_))))))
 have hE:=nA aT;first | subst r | cases hE
 exact ⟨rfl,_,(ZA rfl),U8,_,(am.pick [] _ (by decide) rfl),rfl,rfl⟩
theorem wCJ {S E:Type} (PY:S->PHeap->List Res->Prop) (PE:E->PHeap->List Res->Prop) (f:S->(wAD × wAB)->Option (S ⊕ E)) (y:Nat) (s0:S) (p1:wAF) (bF:Nat) (bE:Option Addr) (bG:Nat) (av:Option Addr) (az:Nat) (w:World) (L:List Res) (U:PHeap) (hS:St ⟨w,L,U⟩ U L w) (hP:PY s0 U L) (hY:YOK Tryz.prog y wNP PY PE f U) (cN:Cl U bF 0 [.slice bE p1.Rules.Classes.length bG,jV p1.Rules.Each,jV p1.Rules.Laps,jV p1.Rules.Spare,jV p1.Rules.Loop,jV p1.Rules.Unused,jV p1.Start,.slice av p1.Teams.length az]) (dK:Sl U 1 bE bG p1.Rules.Classes.length (hH KL.encI p1.Rules.Classes)) (cO:SlR U wFN av az p1.Teams) {r:S ⊕ E} (hm:wAs f s0 p1=some r):Gv Tryz.prog 141 [.func (.yield y) #[] #[],.pointer (some ⟨bF,0,none⟩)] w (ItS w L U PY PE r):=by
 unfold wAs at hm
 refine Gv.of Tryz.func141 Z Tryz.ntmps141 Tryz.results141 Z (sR fL4 Z (oR Z (zB Z Z zH Z ZD) (oL Z (hS.ldC (f:=7) cN (v:=.slice av p1.Teams.length az) Z Z ZX Z) (oR Z (zV Z Z zg) (oM Z Z (eN (zR ?_)))))))
 have q:=wCH hm
 obtain ⟨dM,a0⟩:=q
 have q:=wCG a0
 obtain ⟨bf,cU⟩:=q
 replace bf:=zD bf
 refine yB (fun ai bI σ_ w_=>∃ (U_:PHeap) (au:List Res),σ_ 10=jV (↑ai:Int)/\σ_ 0=.func (.yield y) #[] #[]/\σ_ 8=.slice av p1.Teams.length az/\σ_ 9=jV (↑p1.Teams.length:Int)/\PHeap.Le U U_/\St ⟨w,L,U⟩ U_ au w_/\PY bI U_ au) cU ?_ ?_ ?_
 exact ⟨U,L,Z,Z,Z,Z,(zL _),hS,hP⟩
 rintro ai bI dQ dW dC bb ⟨aJ,au,aV,b8,bp,bq,bi,bB,cu⟩ dl cR
 have bm:Hid ((↑ai:Int) < (↑p1.Teams.length:Int)):=zD (wBh bb)
 replace bb:=zD bb
 have cW:Hid (w64 ((↑ai:Int) + 1)=(↑(ai + 1):Int)):=zD (by have h1:=bf.out;have h2:=bm.out;rw [wAU] <;> omega)
 refine sR fL1 Z (oR Z (zZ Z aV bq) (eN (zE (cT Z bm (kN (zE (zR (sR gAv Z (bnK dl fun ae bv bh=>?_)))))))))
 have cw:=cO.le bi
 have q:=cw.el (wAX bv)
 obtain ⟨bP,dr,dO,cC,aX,dk⟩:=q
 obtain ⟨aP,aS,am,ap,rfl,cy,cz⟩:=dk
 replace aX:Cl aJ bP (dr + ai * 3) [jV ae.Bib,.slice aP ae.Classes.length aS,.slice am ae.Legs.length ap]:=aX
 refine oR Z (zy Z bp cC aV zg zk (wAw bv)) (oL Z (bB.ldCA (f:=0) aX Z Z Zl zk (us:=[jV ae.Bib,.slice aP ae.Classes.length aS,.slice am ae.Legs.length ap]) Z Z) ?_)
 let B0:List Value:=[jV 0,.slice none 0 0,.slice none 0 0]
 refine zo (cs:=B0) Z Z Z Z Z ZK Z bB ?_
 intro dD aj cL
 let B1:List Value:=[jV ae.Bib,.slice aP ae.Classes.length aS,.slice am ae.Legs.length ap]
 refine zY (j:=0) (vs:=B1) Z Z Z Z cL Z Z Z Z zk (zA Z) Z Z Z ?_
 intro bO cM
 have bC:St ⟨w,L,U⟩ aJ (.blk aj 43 B1 :: au) bO:=cM
 refine eN (sR fL4 Z (oR Z (zB Z Z zP Z zz) (oL Z (bC.ldB (j:=0) Z Z Z Zi (v:=.slice am ae.Legs.length ap) Z) (oR Z (zV Z Z zt) (oM Z Z (eN (zR ?_)))))))
 have q:=wCH bh
 obtain ⟨dN,ba⟩:=q
 have q:=wCG ba
 obtain ⟨bg,cV⟩:=q
 replace bg:=zD bg
 refine yB (fun ak bJ σ_ w_=>∃ (U_:PHeap) (aH:List Res),σ_ 17=jV (↑ak:Int)/\σ_ 0=.func (.yield y) #[] #[]/\σ_ 4=.pointer (some ⟨aj,0,none⟩)/\σ_ 8=.slice av p1.Teams.length az/\σ_ 9=jV (↑p1.Teams.length:Int)/\σ_ 10=jV (↑ai:Int)/\σ_ 15=.slice am ae.Legs.length ap/\σ_ 16=jV (↑ae.Legs.length:Int)/\PHeap.Le aJ U_/\St ⟨w,L,U⟩ U_ (.blk aj 43 B1 :: aH) w_/\PY bJ U_ aH) cV ?_ ?_ ?_
 exact ⟨aJ,au,Z,b8,Z,bp,bq,aV,Z,Z,(zL _),bC,cu⟩
 rintro ak bJ dR dX dE be ⟨bk,aH,aW,br,bs,cb,cd,cg,bt,bu,aM,bD,cA⟩ dm cS
 have bn:Hid ((↑ak:Int) < (↑ae.Legs.length:Int)):=zD (wBh be)
 replace be:=zD be
 have cX:Hid (w64 ((↑ak:Int) + 1)=(↑(ak + 1):Int)):=zD (by have h1:=bg.out;have h2:=bn.out;rw [wAU] <;> omega)
 refine sR fL1 Z (oR Z (zZ Z aW bu) (eN (zE (cT Z bn (kN (zE (zR (sR gAv Z (bnK dm fun x91 bw de=>?_)))))))))
 have bz:=cz.le aM
 have q:=bz.el (wAX bw)
 obtain ⟨bQ,dt,dP,cD,aY,dh⟩:=q
 obtain ⟨aN,aQ,aO,aR,rfl,cm,cn⟩:=dh
 replace aY:Cl bk bQ (dt + ak * 3) [jV x91.Skier,.slice aN x91.Loops.length aQ,.slice aO x91.Bouts.length aR]:=aY
 refine oR Z (zy Z bt cD aW zt zn (wAw bw)) (oL Z (bD.ldCA (f:=0) aY Z Z Zv zn (us:=[jV x91.Skier,.slice aN x91.Loops.length aQ,.slice aO x91.Bouts.length aR]) Z Z) (zo (cs:=B0) Z Z Z Z Z ZC Z bD ?_))
 intro dz aU cE
 let B2:List Value:=[jV x91.Skier,.slice aN x91.Loops.length aQ,.slice aO x91.Bouts.length aR]
 refine zY (j:=0) (vs:=B2) Z Z Z Z cE Z Z Z Z zn (zA Z) Z Z Z ?_
 intro bN cG
 have aZ:St ⟨w,L,U⟩ bk (.blk aU 46 B2 :: .blk aj 43 B1 :: aH) bN:=cG
 refine eN (sR (wCu gAg) Z (oM Z br (oL Z (aZ.ldBA (j:=1) Z Z bs Zl zk (vs:=B1) Z Z) (oL Z (aZ.ldBA (j:=0) Z Z Z Zv zn (vs:=B2) Z Z) ?_))))
 have cp:=cy.le aM
 refine bnK de fun dx cq aL=>OKS.yieldT 2 (a:=(ae,x91)) Z Z Z Z Z Z (zC Z (zC Z zO)) aZ hY (bi.trans aM) cA ⟨aP,aS,am,ap,aN,aQ,aO,aR,Z,cp,bz,cm,cn⟩ cq Z ?_
 rintro aI aT dF bl dp bA aK
 rcases dx with du | du
 try dsimp only at aL aK
 obtain ⟨rfl,df⟩:=aK
 have cH:St ⟨w,L,U⟩ aI (.blk aU 46 B2 :: .blk aj 43 B1 :: aT) bl:=bA
 refine oR Z (ZU Z Z) (eN (zx Z (Zp (zj (zF (rR fL2 Z (oR Z (ZP (ze Z aW Z) (congrArg (jV) cX.out)) (oM Z Z (zr ?_)))))))))
 have q:=nA aL
 obtain rfl:=q
 exact zF ⟨Z,_,Z,⟨aI,aT,Z,br,bs,cb,cd,cg,bt,bu,(aM.trans dp),(cH.drop 0),df⟩⟩
 try dsimp only at aL aK
 obtain ⟨rfl,dg⟩:=aK
 have cI:St ⟨w,L,U⟩ aI (.blk aU 46 B2 :: .blk aj 43 B1 :: aT) bl:=bA
 refine oR Z (ZU Z Z) (eN (ZQ Z (zQ (zd (zK ?_)))))
 have q:=wAa aL
 obtain ⟨dv,cY,bT⟩:=q
 have q:=wBw bh ba (cS dv bT)
 obtain rfl:=q
 refine zK (zd (zd (zK ?_)))
 have q:=wAa cY
 obtain ⟨dw,cZ,bU⟩:=q
 have q:=wBw hm a0 (cR dw bU)
 obtain rfl:=q
 refine zK (zd ?_)
 cases cZ
 exact ⟨Z,_,(res0),aI,_,((cI.drop 1).drop 0),dg⟩
 rintro dS dU dA ⟨bL,bK,ci,bV,dG,bW,bX,bY,dH,bZ,dq,cJ,cr⟩ cP
 have da:=wCo bh ba cP
 have bR:Hid (¬ ((↑(((↑ae.Legs.length:Int):Int) - 0).toNat:Int) < (↑ae.Legs.length:Int))):=zD (wBH)
 refine sR fL1 Z (oR Z (zZ Z ci bZ) (eN (zE (cF Z bR (ZM (zW (zW (ZB (zj (zF (rR fL2 Z (oR Z (ZP (ze Z bY Z) (congrArg (jV) cW.out)) (oM Z Z (zr ?_))))))))))))))
 have q:=nA da
 obtain rfl:=q
 exact zF ⟨Z,_,Z,⟨bL,bK,Z,bV,bW,bX,(bi.trans dq),(cJ.drop 0),cr⟩⟩
 rintro dT dV dB ⟨bM,dy,cj,dI,dJ,b5,dL,cK,ct⟩ cQ
 have db:=wCo hm a0 cQ
 have bS:Hid (¬ ((↑(((↑p1.Teams.length:Int):Int) - 0).toNat:Int) < (↑p1.Teams.length:Int))):=zD (wBH)
 refine sR fL1 Z (oR Z (zZ Z cj b5) (eN (zE (cF Z bS (ZM (zW (zW (ZB ?_))))))))
 cases db
 exact ⟨Z,_,(res0),bM,_,cK,ct⟩
theorem wCY (p0:wAF) (ah:Option Addr) (aj:Nat) (ai:Option Addr) (ak:Nat) (w:World) (U:PHeap) (hS:St0 w U []) (aJ:Sl U 1 ah aj p0.Rules.Classes.length (hH KL.encI p0.Rules.Classes)) (aK:SlR U wFN ai ak p0.Teams) {r:Unit} (hm:wBT p0=some r):Gv Tryz.prog 104 [.agg #[.slice ah p0.Rules.Classes.length aj,jV p0.Rules.Each,jV p0.Rules.Laps,jV p0.Rules.Spare,jV p0.Rules.Loop,jV p0.Rules.Unused,jV p0.Start,.slice ai p0.Teams.length ak]] w (wCi w [] U (fun U_ L_ v=>∃ (b0:Nat),v=.func (.func 141) #[] #[.pointer (some ⟨b0,0,none⟩)]/\L_=[]/\Cl U_ b0 0 [.slice ah p0.Rules.Classes.length aj,jV p0.Rules.Each,jV p0.Rules.Laps,jV p0.Rules.Spare,jV p0.Rules.Loop,jV p0.Rules.Unused,jV p0.Start,.slice ai p0.Teams.length ak])):=by
 unfold wBT at hm
 refine Gv.of Tryz.func104 Z Tryz.ntmps104 Tryz.results104 Z (sR gAi Z ?_)
 let B0:List Value:=[.slice ah p0.Rules.Classes.length aj,jV p0.Rules.Each,jV p0.Rules.Laps,jV p0.Rules.Spare,jV p0.Rules.Loop,jV p0.Rules.Unused,jV p0.Start,.slice ai p0.Teams.length ak]
 refine Zh (cs:=B0) rfl rfl rfl rfl rfl rfl (by rfl) hS ?_
 intro W1 b2 az
 have q:=az.freeze (k:=0) rfl
 obtain ⟨U5,aL,ae,aH⟩:=q
 replace ae:=Cl.of ae
 have aI:sW w U U5 [] W1:=aH
 replace ae:Cl U5 b2 0 B0:=ae
 refine oA Z Z (eN (sR fL2 Z (oR Z (Runs.mkf Z zO (zC Z zO)) (oA Z Z (eN (zQ ?_))))))
 cases hm
 exact ⟨Z,_,(ZA Z),U5,_,aI,b2,Z,Z,ae⟩
theorem wGS (p0:Int) (w:World) (U:PHeap) (hS:St0 w U [])  {r:Bool} (hm:wBW p0=some r):Gv Tryz.prog 105 [jV p0] w (wCi w [] U (fun U_ L_ v=>v=.bool r/\L_=[])):=by
 unfold wBW at hm
 refine Gv.of Tryz.func105 Z Tryz.ntmps105 Tryz.results105 Z (sR fL1 Z (oA Z Z (eN (sR gAo Z (oM Z Z (bnK hm fun x1 h2 am=>zN 0 Z Z Z Z (zJ Z Z Zy (zC Z (zC Z (zC Z zO))) Z) hS (fun hs=>wBu p0 1 9000 w U hs h2) (.inr Z) ?_))))))
 rintro U4 L5 v6 W7 aq ak ⟨rfl,rfl⟩
 have aj:sW w U U4 [] W7:=ak
 refine oA Z Z (eN (zQ ?_))
 have hE:=nA am;first | subst r | cases hE
 exact ⟨Z,_,(ZA Z),U4,_,aj,Z,Z⟩
theorem wDo (p0:List Bool) (aJ:Option Addr) (aK:Nat) (w:World) (U:PHeap) (hS:St0 w U []) (bR:Sl U 1 aJ aK p0.length (hH KL.encT p0)) {r:wAd × Int} (hm:wBo p0=some r):Gv Tryz.prog 11 [.slice aJ p0.length aK] w (wCi w [] U (fun U_ L_ v=>v=.tuple #[.agg #[jV r.1.Spares,jV r.1.Loops,jV r.1.Unused],jV r.2]/\L_=[])):=by
 unfold wBo at hm
 refine Gv.of Tryz.func11 Z Tryz.ntmps11 Tryz.results11 Z (sR gAi Z ?_)
 let B0:List Value:=[jV 0,jV 0,jV 0]
 refine zo (cs:=B0) Z Z Z Z Z Zr Z hS ?_
 intro W1 b2 bK
 refine oA Z Z (eN (zE (sR gAq Z (oM Z Z (oR Z (zV Z Z ZI) (bnK hm fun x5 h6 cb=>zN 0 Z Z Z Z (zJ Z Z Zy (zC Z (zC Z (zC Z zO))) Z) bK (fun hs=>wBu (↑p0.length:Int) 5 8 W1 U hs h6) (.inr Z) ?_))))))
 rintro U8 L9 cC bq cm bJ ⟨rfl,rfl⟩
 have bh:sW w U U8 [.blk b2 49 B0] bq:=bJ
 refine oR Z (ZU Z Z) (eN (ifc cb ?_ ?_))
 intro aL aW
 refine zx (nC aL.out) (kN (sR fL1 Z (oA Z Z (eN (zE (sR fL3 Z (oM Z Z (oR Z (zV Z Z ZI) (oM Z Z (eN (zR ?_)))))))))))
 have q:=wCH aW
 obtain ⟨cA,aT⟩:=q
 have q:=wCG aT
 obtain ⟨aV,bU⟩:=q
 replace aV:=zD aV
 refine yB (fun ap bm σ_ w_=>∃ (U_:PHeap),σ_ 15=jV (↑ap:Int)/\σ_ 0=.slice aJ p0.length aK/\σ_ 2=.pointer (some ⟨b2,0,none⟩)/\σ_ 4=jV bm/\σ_ 13=.slice aJ p0.length aK/\σ_ 14=jV (↑p0.length:Int)/\PHeap.Le U8 U_/\sW w U U_ [.blk b2 49 B0] w_) bU ?_ ?_ ?_
 exact ⟨U8,Z,Z,Z,Z,Z,Z,(zL _),bh⟩
 rintro ap bm cE cG cq aU ⟨aq,aH,a0,av,aP,aQ,aR,aX,aI⟩ cj bS
 have aZ:Hid ((↑ap:Int) < (↑p0.length:Int)):=zD (wBh aU)
 replace aU:=zD aU
 have bl:Hid (w64 ((↑ap:Int) + 1)=(↑(ap + 1):Int)):=zD (by have h1:=aV.out;have h2:=aZ.out;rw [wAU] <;> omega)
 refine sR fL1 Z (oR Z (zZ Z aH aR) (eN (zE (cT Z aZ (kN (zE (zR (sR fL3 Z (bnK cj fun x45 be bW=>?_)))))))))
 have bC:=bR.le cm
 have bD:=bC.le aX
 have q:=bD.el (fun _=>rfl) (wAX be)
 obtain ⟨cu,cz,bF,bG⟩:=q
 refine oR Z (zy Z aQ bF aH ZI Tryz.sizeOf4 (wAw be)) (oL Z (aI.ldC (f:=0) bG (v:=.bool x45) Z Z Tryz.isAgg4 Z) (oA Z Z (eN (zE (sR fL2 Z (oM Z aP (oR Z (Runs.eql Z Z Z) (eN (ifc bW ?_ ?_)))))))))
 intro aM bX
 refine cT Z aM (sR gAo Z (oR Z (ZO (pv:=[]) (z:=B0) (cs:=B0) Z wAT Zr wHb Z Z) (zY (j:=0) (vs:=B0) Z Z Z Z aI Z av Z Z Za (zA Z) Z Z Z ?_)))
 intro br bL
 have bi:sW w U aq [.blk b2 49 B0] br:=bL
 refine oA Z Z (eN (zQ (zK (zd (zK ?_)))))
 have q:=wAa bX
 obtain ⟨cn,bY,bz⟩:=q
 have q:=wBw aW aT (bS cn bz)
 obtain rfl:=q
 refine zK (zd (zK ?_))
 cases bY
 exact ⟨rfl,_,(wHt (rs:=[.cell 2 49,.tmp 3]) (vs:=[.agg B0.toArray,jV 8]) ⟨⟨_,av,(wDU Tryz.isAgg49 Za (bi.blkAt (k:=0) rfl) (vs:=B0) rfl rfl)⟩,⟨rfl,trivial⟩⟩ rfl),aq,_,(bi.pick [] _ (by decide) rfl),rfl,rfl⟩
 intro aM bZ
 refine cF Z aM (kN (sR fL1 Z (oM Z Z (eN (ifc bZ ?_ ?_)))))
 intro aN b5
 refine ZQ (congrArg nB aN.out) (rR fL3 Z (oM Z aP (oR Z (Zg Z Z Z) (oA Z Z (zr (zj (zF (rR fL2 Z (oR Z (ZP (ze Z aH Z) (congrArg (jV) bl.out)) (oM Z Z (zr ?_)))))))))))
 have q:=nA b5
 obtain rfl:=q
 exact zF ⟨Z,_,Z,⟨aq,Z,a0,av,Z,aQ,aR,aX,aI⟩⟩
 intro aN b8
 refine zx (congrArg nB (nD.2 aN.out)) (Zp (zj (zF (rR fL2 Z (oR Z (ZP (ze Z aH Z) (congrArg (jV) bl.out)) (oM Z Z (zr ?_)))))))
 have q:=nA b8
 obtain rfl:=q
 exact zF ⟨Z,_,Z,⟨aq,Z,a0,av,aP,aQ,aR,aX,aI⟩⟩
 rintro aY cH cr ⟨ak,bB,ba,az,bb,cw,bA,cy,bM⟩ bT
 have cd:=wCo aW aT bT
 have bw:Hid (¬ ((↑(((↑p0.length:Int):Int) - 0).toNat:Int) < (↑p0.length:Int))):=zD (wBH)
 refine sR fL1 Z (oR Z (zZ Z bB bA) (eN (zE (cF Z bw (ZM (zW (zW (ZB (zF (sR (wMp (.fx 5 (.fx 6 .nil .stop) .stop)) Z (oM Z ba (oR Z (zV Z Z ZI) (oR Z (Zg Z Z Z) (oM Z bb ?_))))))))))))))
 let B1:List Value:=[jV (w64 ((↑p0.length:Int) - 5)),jV aY,jV 0]
 refine oR Z (ZO (pv:=[(0,jV (w64 ((↑p0.length:Int) - 5))),(1,jV aY)]) (z:=B0) (cs:=B1) Z (wAI Z (wAI Z wAT)) Zr wHb Z Z) (zo (cs:=B0) Z Z Z Z Z Zr Z bM ?_)
 intro ct au bN
 refine zY (j:=0) (vs:=B1) Z Z Z Z bN Z Z Z Z Za (zA Z) Z Z Z ?_
 intro bs bO
 have aS:sW w U ak [.blk au 49 B1,.blk b2 49 B0] bs:=bO
 refine eN (zE (sR fL2 Z (oM Z bb (oR Z (yF Z Z Z) (eN (ifc cd ?_ ?_))))))
 intro aO cg
 refine cT Z aO (rR (wIS (.fx 4 .nil .stop)) Z (oM Z ba (oR Z (zV Z Z ZI) (oR Z (Zg Z Z Z) (oR Z (zB Z Z Tryz.runUnderlying49 Z zG) (zY (j:=0) (vs:=[jV (w64 (8 - (↑p0.length:Int)))]) Z Z Z Z aS Z Z Z Z zG (zA Z) Z Z Z ?_))))))
 intro bt bP
 let B2:List Value:=[jV (w64 ((↑p0.length:Int) - 5)),jV aY,jV (w64 (8 - (↑p0.length:Int)))]
 have bj:sW w U ak [.blk au 49 B2,.blk b2 49 B0] bt:=bP
 refine eN (sR gAo Z (oL Z (bj.ldBA (j:=0) Z Z Z Tryz.isAgg49 Za (vs:=B2) Z Z) (zY (j:=1) (vs:=B2) Z Z Z Z bj Z az Z Z Za (zA Z) Z Z Z ?_)))
 intro bu bQ
 have bk:sW w U ak [.blk au 49 B2,.blk b2 49 B2] bu:=bQ
 refine oA Z Z (eN (zQ ?_))
 cases cg
 exact ⟨rfl,_,(wHt (rs:=[.cell 2 49,.tmp 3]) (vs:=[.agg B2.toArray,jV 0]) ⟨⟨_,az,(wDU Tryz.isAgg49 Za (bk.blkAt (k:=1) rfl) (vs:=B2) rfl rfl)⟩,⟨rfl,trivial⟩⟩ rfl),ak,_,(bk.pick [] _ (by decide) rfl),rfl,rfl⟩
 intro aO ci
 refine cF Z aO (kN (sR gAo Z (oL Z (aS.ldBA (j:=0) Z Z Z Tryz.isAgg49 Za (vs:=B1) Z Z) (zY (j:=1) (vs:=B1) Z Z Z Z aS Z az Z Z Za (zA Z) Z Z Z ?_))))
 intro bv bH
 have bf:sW w U ak [.blk au 49 B1,.blk b2 49 B1] bv:=bH
 refine oA Z Z (eN (zQ ?_))
 cases ci
 exact ⟨rfl,_,(wHt (rs:=[.cell 2 49,.tmp 3]) (vs:=[.agg B1.toArray,jV 0]) ⟨⟨_,az,(wDU Tryz.isAgg49 Za (bf.blkAt (k:=1) rfl) (vs:=B1) rfl rfl)⟩,⟨rfl,trivial⟩⟩ rfl),ak,_,(bf.pick [] _ (by decide) rfl),rfl,rfl⟩
 intro aL bV
 refine ZQ (nF (aL.out)) (sR gAo Z (oR Z (ZO (pv:=[]) (z:=B0) (cs:=B0) Z wAT Zr wHb Z Z) (zY (j:=0) (vs:=B0) Z Z Z Z bh Z Z Z Z Za (zA Z) Z Z Z ?_)))
 intro bp bI
 have bg:sW w U U8 [.blk b2 49 B0] bp:=bI
 refine oA Z Z (eN (zQ (zK ?_)))
 cases bV
 exact ⟨rfl,_,(wHt (rs:=[.cell 2 49,.tmp 3]) (vs:=[.agg B0.toArray,jV 2]) ⟨⟨_,rfl,(wDU Tryz.isAgg49 Za (bg.blkAt (k:=0) rfl) (vs:=B0) rfl rfl)⟩,⟨rfl,trivial⟩⟩ rfl),U8,_,(bg.pick [] _ (by decide) rfl),rfl,rfl⟩
theorem wHd (p0:wAF) (aH:Option Addr) (aI:Nat) (av:Option Addr) (az:Nat) (w:World) (U:PHeap) (hS:St0 w U []) (fE:Sl U 1 aH aI p0.Rules.Classes.length (hH KL.encI p0.Rules.Classes)) (l7:SlR U wFN av az p0.Teams) {r:Int} (hm:wCO p0=some r):Gv Tryz.prog 65 [.agg #[.slice aH p0.Rules.Classes.length aI,jV p0.Rules.Each,jV p0.Rules.Laps,jV p0.Rules.Spare,jV p0.Rules.Loop,jV p0.Rules.Unused,jV p0.Start,.slice av p0.Teams.length az]] w (wCi w [] U (fun U_ L_ v=>v=jV r/\L_=[])):=by
 unfold wCO at hm
 refine Go.KX.Gv.ofM Tryz.func65 Z Tryz.ntmps65 Tryz.results65 (zA Z) (sR gAj Z ?_)
 let B0:List Value:=[.slice aH p0.Rules.Classes.length aI,jV p0.Rules.Each,jV p0.Rules.Laps,jV p0.Rules.Spare,jV p0.Rules.Loop,jV p0.Rules.Unused,jV p0.Start,.slice av p0.Teams.length az]
 refine Zh (cs:=B0) rfl rfl rfl rfl rfl rfl (by rfl) hS ?_
 intro W1 b2 jM
 refine zo (cs:=[jV 0]) Z Z Z Z Z Tryz.zeroValue35 Z jM ?_
 intro W5 b6 fm
 refine eN (sR gAq Z (oR Z (zB Z Z zH Z zq) ?_))
 let B1:List Value:=[.slice aH p0.Rules.Classes.length aI,jV p0.Rules.Each,jV p0.Rules.Laps,jV p0.Rules.Spare,jV p0.Rules.Loop,jV p0.Rules.Unused]
 refine oL Z (fm.ldBA (j:=1) Z Z Z yE zq (vs:=B1) Z Z) (bnK hm fun x9 iQ mn=>zN 0 Z Z Z Z (zJ Z Z Tryz.call99 (zC Z zO) Z) fm (fun hs=>wEh p0.Rules aH aI W5 U hs fE iQ) (.inr Z) ?_)
 rintro br n8 pN dT fQ jx ⟨rfl,rfl⟩
 let B2:Res:=.blk b6 35 [jV 0]
 have cY:sW w U br [B2,.blk b2 28 B0] dT:=jx
 refine oA Z Z (eN (zE (zR (sR fL3 Z (oM Z Z (oR Z (Zk Z Z Z) (oA Z Z (eN (ifc mn ?_ ?_)))))))))
 intro cE mp
 refine zx (ZR (fun h=>h cE.out)) (sR (wCu (.fx 3 (wQw (.fx 11 (wPl (.nil)) .stop)) .stop)) Z (oR Z (zB Z Z zH Z ZD) (oL Z (cY.ldB (j:=1) Z Z Z ZX (v:=.slice av p0.Teams.length az) Z) (oR Z (zV Z Z zg) (bnK mp fun p9 iU ms=>zN 0 Z Z Z Z (zJ Z Z Zy (zC Z (zC Z (zC Z zO))) Z) cY (fun hs=>wBu (↑p0.Teams.length:Int) 1 12 dT br hs iU) (.inr Z) ?_)))))
 rintro a0 oe pQ dV fT jK ⟨rfl,rfl⟩
 have bS:sW w U a0 [B2,.blk b2 28 B0] dV:=jK
 refine oR Z (ZU Z Z) (oM Z Z (ifc ms ?_ ?_))
 intro au mu
 refine ZE Z Z Z (zi Z Z (nC au.out)) (fun _=>zB Z Z zH Z ZD) (Zt Z Z Z (zi Z Z (nC au.out)) (bS.ldB (j:=1) Z Z Z ZX (v:=.slice av p0.Teams.length az) Z) Z (ZE Z Z Z (zi Z Z (nC au.out)) (fun _=>zB Z Z zH Z zq) (Zt Z Z Z (zi Z Z (nC au.out)) (bS.ldBA (j:=1) Z Z Z yE zq (vs:=B1) Z Z) Z (ZE Z Z Z (zi Z Z (nC au.out)) (fun _=>Runs.mkf Z (zC Z zO) zO) ?_))))
 have iW:=l7.le fQ
 have eK:=iW.le fT
 have iY:=fE.le fQ
 have eM:=iY.le fT
 have jq:FnOK Tryz.prog a0 (.func (.func 101) #[.agg B1.toArray] #[]) wJH wJI (fun x=>wAr p0.Rules x):=⟨101,[.agg B1.toArray],[],rfl,Tryz.call101,fun U1 w1 x y vs le hs ha hm=>by obtain ⟨pA_0_1,pc_0_1,pA_0_2,pc_0_2,rfl,hq0_0,hq0_1⟩:=ha;exact wEP p0.Rules aH aI x pA_0_1 pc_0_1 pA_0_2 pc_0_2 w1 U1 hs (eM.le le) hq0_0 hq0_1 hm⟩
 refine bnK mu fun x38 i6 mA=>zN 0 Z Z Z (zi Z Z (nC au.out)) (zJ Z Z Tryz.call100 (zC Z (zC Z zO)) Z) bS (fun hs=>wCQ p0.Teams av az (fun x=>wAr p0.Rules x) (.func (.func 101) #[.agg B1.toArray] #[]) dV a0 hs eK jq i6) (.inr Z) ?_
 rintro bu ol pT dX fW j4 ⟨rfl,rfl⟩
 have da:sW w U bu [B2,.blk b2 28 B0] dX:=j4
 refine ZE Z Z Z (zi Z Z (nC au.out)) (fun _=>ZU Z Z) (oR Z (ZH Z (nC au.out) Z) (oA Z Z (eN (ifc mA ?_ ?_))))
 intro cI mB
 refine zx (nC cI.out) (sR (.fl 0 (.fl 1 (.fx 2 (fC3_6 (.fx 7 (wOK (.nil)) .stop)) .stop))) Z (oR Z (zB Z Z zH Z zG) (oL Z (da.ldB (j:=1) Z Z Z zU (v:=jV p0.Start) Z) (bnK mB fun x50 i8 mC=>zN 0 Z Z Z Z (zJ Z Z Zy (zC Z (zC Z (zC Z zO))) Z) da (fun hs=>wBu p0.Start 0 36000 dX bu hs i8) (.inr Z) ?_))))
 rintro ba oq pU dY fZ lc ⟨rfl,rfl⟩
 have db:sW w U ba [B2,.blk b2 28 B0] dY:=lc
 refine oR Z (ZU Z Z) (oM Z Z (ifc mC ?_ ?_))
 intro aJ mH
 refine ZE Z Z Z (zi Z Z (nC aJ.out)) (fun _=>zB Z Z zH Z ZD) (Zt Z Z Z (zi Z Z (nC aJ.out)) (db.ldB (j:=1) Z Z Z ZX (v:=.slice av p0.Teams.length az) Z) Z ?_)
 have jc:=eK.le fW
 have eS:=jc.le fZ
 have jr:FnOK Tryz.prog ba (.func (.func 102) #[] #[]) wJH wJI wBi:=⟨102,[],[],rfl,Tryz.call102,fun U1 w1 x y vs le hs ha hm=>by obtain ⟨pA_0_1,pc_0_1,pA_0_2,pc_0_2,rfl,hq0_0,hq0_1⟩:=ha;exact wGR x pA_0_1 pc_0_1 pA_0_2 pc_0_2 w1 U1 hs hq0_0 hq0_1 hm⟩
 refine bnK mH fun x65 jd mK=>zN 0 Z Z Z (zi Z Z (nC aJ.out)) (zJ Z Z Tryz.call100 (zC Z (zC Z zO)) Z) db (fun hs=>wCQ p0.Teams av az wBi (.func (.func 102) #[] #[]) dY ba hs eS jr jd) (.inr Z) ?_
 rintro bv ow pW d7 gb lG ⟨rfl,rfl⟩
 have de:sW w U bv [B2,.blk b2 28 B0] d7:=lG
 refine ZE Z Z Z (zi Z Z (nC aJ.out)) (fun _=>ZU Z Z) (oR Z (ZH Z (nC aJ.out) Z) (oA Z Z (eN (ifc mK ?_ ?_))))
 intro cL mP
 refine zx (nC cL.out) (Zp (zj (zF (zE (sR gAf Z (oL Z (de.ldBA (j:=1) Z Z Z Zc zp (vs:=B0) Z Z) ?_))))))
 have ji:=eM.le fW
 have jj:=ji.le fZ
 have eU:=jj.le gb
 have eV:=eS.le gb
 have q:=bnd mP
 obtain ⟨⟨⟩,jk,fN⟩:=q
 try dsimp only at fN
 refine zN 0 Z Z Z Z (zJ Z Z Tryz.call104 (zC Z zO) Z) de (fun hs=>wCY p0 aH aI av az d7 bv hs eU eV jk) (.inr Z) ?_
 rintro dS ox pX io gc l5 ⟨eg,rfl,rfl,jl⟩
 have l6:sW w U dS [B2,.blk b2 28 B0] io:=l5
 refine eN (zR (CK.fresh fun cj b5=>?_))
 have cR:cj 1=.pointer (some ⟨b2,0,none⟩):=(b5 1).trans rfl
 have cS:cj 2=.pointer (some ⟨b6,0,none⟩):=(b5 2).trans rfl
 have iN:cj 51=.func (.func 141) #[] #[.pointer (some ⟨eg,0,none⟩)]:=(b5 51).trans rfl
 clear b5
 refine bnK fN fun gq mi bV=>?_
 have eE:=eU.le gc
 have eF:=eV.le gc
 refine CK.rangeY (S:=Unit) (E:=Int) (ar:=wNP) (PY:=(fun (_:Unit) (U_:PHeap) (L_:List Res)=>L_=[B2,.blk b2 28 B0])) (PE:=(fun (x137:Int) (U_:PHeap) (L_:List Res)=>L_=[.blk b6 35 [jV x137],.blk b2 28 B0])) (exO:=(fun _=>.ret)) (s0:=()) (rr:=gq) iN Tryz.call141 l6 (by decide) (fun _ _ _ h=>by obtain ⟨_,_,_,_,_,_,_,_,rfl,_,_,_,_⟩:=h;rfl) (fun _=>.inl rfl) rfl (fun l w1 L1 PY' PE' bB bA bC=>wCJ PY' PE' _ l _ p0 eg aH aI av az w1 L1 dS bB bA bC jl eE eF mi) ?_ ?_
 rintro bk pK pa ⟨⟩ x146 pY pG bI n9 m8 dm bn py jw jt l8 fG bL aT
 obtain rfl:=jt
 obtain ⟨ge,gi,gf,gj,bE,bG,dt,dB,rfl,ph,pi,mT,pj⟩:=l8
 replace aT:∀ t,bL t=upd (upd cj 52 (.agg #[jV x146.1.Bib,.slice ge x146.1.Classes.length gi,.slice gf x146.1.Legs.length gj])) 53 (.agg #[jV x146.2.Skier,.slice bE x146.2.Loops.length bG,.slice dt x146.2.Bouts.length dB]) t:=aT
 have oY:bL 52=.agg #[jV x146.1.Bib,.slice ge x146.1.Classes.length gi,.slice gf x146.1.Legs.length gj]:=(aT 52).trans ((wBe _ _ (by decide)).trans (wBg _ _ _))
 have iv:bL 53=.agg #[jV x146.2.Skier,.slice bE x146.2.Loops.length bG,.slice dt x146.2.Bouts.length dB]:=(aT 53).trans (wBg _ _ _)
 have o0:bL 1=.pointer (some ⟨b2,0,none⟩):=(aT 1).trans ((wBe _ _ (by decide)).trans ((wBe _ _ (by decide)).trans cR))
 have iw:bL 2=.pointer (some ⟨b6,0,none⟩):=(aT 2).trans ((wBe _ _ (by decide)).trans ((wBe _ _ (by decide)).trans cS))
 clear aT
 have jy:St bn bI [.obj bk dm,B2,.blk b2 28 B0] m8:=jw
 try dsimp only at fG
 refine rR gAj Z (zo (cs:=[jV 0,.slice none 0 0,.slice none 0 0]) Z Z Z Z Z ZC Z jy ?_)
 intro oB bw jz
 let B3:List Value:=[jV x146.2.Skier,.slice bE x146.2.Loops.length bG,.slice dt x146.2.Bouts.length dB]
 refine zY (j:=0) (vs:=B3) Z Z Z Z jz Z Z iv Z zn (zA Z) Z Z Z ?_
 intro gz jA
 have jB:St bn bI [.blk bw 46 B3,.obj bk dm,B2,.blk b2 28 B0] gz:=jA
 refine zr ⟨rfl,rfl,_,_,(jB.pick [1,0,2,3] [.obj bk dm,.blk bw 46 B3,B2,.blk b2 28 B0] (by decide) rfl),fun dU dp jC=>?_⟩
 have eW:St bn bI [.obj bk dp,.blk bw 46 B3,B2,.blk b2 28 B0] dU:=jC
 refine zR (sR gAq Z (oR Z (zB Z Z zX Z zM) (oL Z (eW.ldB (j:=1) Z Z Z zf (v:=.slice bE x146.2.Loops.length bG) Z) ?_)))
 have jp:FnOK Tryz.prog bI (.func (.func 105) #[] #[]) wPL wPM wBW:=⟨105,[],[],rfl,Tryz.call105,fun U1 w1 x y vs le hs ha hm=>by obtain rfl:=ha;exact wGS x w1 U1 hs  hm⟩
 refine bnK fG fun x191 iR mo=>zN 0 Z Z Z Z (zJ Z Z Tryz.call72 (zC Z (zC Z zO)) Z) eW (fun hs=>wDX x146.2.Loops bE bG wBW (.func (.func 105) #[] #[]) dU bI hs mT jp iR) (.inr Z) ?_
 rintro dN oa pO gA pz jD ⟨rfl,rfl⟩
 have eX:St bn dN [.obj bk dp,.blk bw 46 B3,B2,.blk b2 28 B0] gA:=jD
 refine oR Z (ZU Z Z) (eN (ifc mo ?_ ?_))
 intro cG mq
 refine zx (nC cG.out) (Zp (zj ?_))
 have q:=nA mq
 obtain rfl:=q
 exact ⟨_,_,(eX.pick [0,2,3] _ (by decide) rfl),rfl,rfl⟩
 intro cG mr
 refine ZQ (nF (cG.out)) (sR (.fx 0 .nil .stop) Z (zY (j:=2) (vs:=[jV 3]) Z Z Z Z eX Z iw Z Z Zq (zA Z) Z Z Z ?_))
 intro gB jE
 have jG:St bn dN [.obj bk dp,.blk bw 46 B3,.blk b6 35 [jV 3],.blk b2 28 B0] gB:=jE
 refine eN (zQ (zd ?_))
 have q:=nA mr
 obtain rfl:=q
 exact ⟨_,_,(jG.pick [0,2,3] _ (by decide) rfl),rfl,rfl⟩
 rintro aj bs oc cC fR eY
 rcases gq with ⟨⟩ | gw
 try dsimp only at bV
 rintro rfl
 have eZ:sW w U bs [B2,.blk b2 28 B0,.obj aj (.deferred (some []))] cC:=eY
 refine zj (zF (zE (sR gAf Z (oL Z (eZ.ldBA (j:=1) Z Z cR Zc zp (vs:=B0) Z Z) ?_))))
 have eG:=eE.le fR
 have eH:=eF.le fR
 have q:=bnd bV
 obtain ⟨⟨⟩,iT,fJ⟩:=q
 try dsimp only at fJ
 refine zN 0 Z Z Z Z (zJ Z Z Tryz.call104 (zC Z zO) Z) eZ (fun hs=>wCY p0 aH aI av az cC bs hs eG eH iT) (.inr Z) ?_
 rintro dO od pP gC fS jH ⟨d8,rfl,rfl,iV⟩
 have jJ:sW w U dO [B2,.blk b2 28 B0,.obj aj (.deferred (some []))] gC:=jH
 refine eN (zR (CK.fresh fun cg bY=>?_))
 have cN:cg 1=.pointer (some ⟨b2,0,none⟩):=(bY 1).trans cR
 have cO:cg 2=.pointer (some ⟨b6,0,none⟩):=(bY 2).trans cS
 have iy:cg 59=.func (.func 141) #[] #[.pointer (some ⟨d8,0,none⟩)]:=(bY 59).trans rfl
 clear bY
 refine bnK fJ fun gu mj bW=>?_
 have eI:=eG.le fS
 have eJ:=eH.le fS
 refine CK.rangeY (S:=Unit) (E:=Int) (ar:=wNP) (PY:=(fun (_:Unit) (U_:PHeap) (L_:List Res)=>L_=[B2,.blk b2 28 B0,.obj aj (.deferred (some []))])) (PE:=(fun (n6:Int) (U_:PHeap) (L_:List Res)=>L_=[.blk b6 35 [jV n6],.blk b2 28 B0,.obj aj (.deferred (some []))])) (exO:=(fun _=>.ret)) (s0:=()) (rr:=gu) iy Tryz.call141 jJ (by decide) (fun _ _ _ h=>by obtain ⟨_,_,_,_,_,_,_,_,rfl,_,_,_,_⟩:=h;rfl) (fun _=>.inl rfl) rfl (fun l w1 L1 PY' PE' bB bA bC=>wCJ PY' PE' _ l _ p0 d8 aH aI av az w1 L1 dO bB bA bC iV eI eJ mj) ?_ ?_
 rintro aW pL pb ⟨⟩ ap pZ pH bJ og m9 b8 aX pB jL ju l9 fH bM aU
 obtain rfl:=ju
 obtain ⟨cb,cd,du,dC,dv,dD,dw,dE,rfl,pk,pm,pn,po⟩:=l9
 replace aU:∀ t,bM t=upd (upd cg 60 (.agg #[jV ap.1.Bib,.slice cb ap.1.Classes.length cd,.slice du ap.1.Legs.length dC])) 61 (.agg #[jV ap.2.Skier,.slice dv ap.2.Loops.length dD,.slice dw ap.2.Bouts.length dE]) t:=aU
 have iz:bM 60=.agg #[jV ap.1.Bib,.slice cb ap.1.Classes.length cd,.slice du ap.1.Legs.length dC]:=(aU 60).trans ((wBe _ _ (by decide)).trans (wBg _ _ _))
 have iA:bM 61=.agg #[jV ap.2.Skier,.slice dv ap.2.Loops.length dD,.slice dw ap.2.Bouts.length dE]:=(aU 61).trans (wBg _ _ _)
 have o3:bM 1=.pointer (some ⟨b2,0,none⟩):=(aU 1).trans ((wBe _ _ (by decide)).trans ((wBe _ _ (by decide)).trans cN))
 have iB:bM 2=.pointer (some ⟨b6,0,none⟩):=(aU 2).trans ((wBe _ _ (by decide)).trans ((wBe _ _ (by decide)).trans cO))
 clear aU
 have jN:St aX bJ [.obj aW b8,B2,.blk b2 28 B0,.obj aj (.deferred (some []))] m9:=jL
 try dsimp only at fH
 refine sR gAj Z ?_
 let B4:List Value:=[jV 0,.slice none 0 0,.slice none 0 0]
 refine zo (cs:=B4) Z Z Z Z Z ZK Z jN ?_
 intro oG bf jO
 let B5:List Value:=[jV ap.1.Bib,.slice cb ap.1.Classes.length cd,.slice du ap.1.Legs.length dC]
 refine zY (j:=0) (vs:=B5) Z Z Z Z jO Z Z iz Z zk (zA Z) Z Z Z ?_
 intro gD jP
 have jQ:St aX bJ [.blk bf 43 B5,.obj aW b8,B2,.blk b2 28 B0,.obj aj (.deferred (some []))] gD:=jP
 refine eN (rR gAj Z (zo (cs:=B4) Z Z Z Z Z ZC Z jQ ?_))
 intro oH bz jR
 let B6:List Value:=[jV ap.2.Skier,.slice dv ap.2.Loops.length dD,.slice dw ap.2.Bouts.length dE]
 refine zY (j:=0) (vs:=B6) Z Z Z Z jR Z Z iA Z zn (zA Z) Z Z Z ?_
 intro gE jS
 have jU:St aX bJ [.blk bz 46 B6,.blk bf 43 B5,.obj aW b8,B2,.blk b2 28 B0,.obj aj (.deferred (some []))] gE:=jS
 refine zr ⟨rfl,rfl,_,_,(jU.pick [2,0,1,3,4,5] [.obj aW b8,.blk bz 46 B6,.blk bf 43 B5,B2,.blk b2 28 B0,.obj aj (.deferred (some []))] (by decide) rfl),fun dW dq jW=>?_⟩
 have cZ:St aX bJ [.obj aW dq,.blk bz 46 B6,.blk bf 43 B5,B2,.blk b2 28 B0,.obj aj (.deferred (some []))] dW:=jW
 refine zR (sR (wKo gAk) Z (oR Z (zB Z Z zX Z zG) (oL Z (cZ.ldB (j:=1) Z Z Z zU (v:=jV ap.2.Skier) Z) (oR Z (zB Z Z zP Z zM) (oL Z (cZ.ldB (j:=2) Z Z Z zf (v:=.slice cb ap.1.Classes.length cd) Z) (oR Z (zV Z Z zI) (oR Z (Zg Z Z Z) (bnK fH fun qa iX mw=>zN 0 Z Z Z Z (zJ Z Z Zy (zC Z (zC Z (zC Z zO))) Z) cZ (fun hs=>wBu ap.2.Skier 0 (w64 ((↑ap.1.Classes.length:Int) - 1)) dW bJ hs iX) (.inr Z) ?_))))))))
 rintro dP oh pR gF pC jX ⟨rfl,rfl⟩
 have e8:St aX dP [.obj aW dq,.blk bz 46 B6,.blk bf 43 B5,B2,.blk b2 28 B0,.obj aj (.deferred (some []))] gF:=jX
 refine oR Z (ZU Z Z) (eN (ifc mw ?_ ?_))
 intro cH my
 refine zx (nC cH.out) (Zp (zj ?_))
 have q:=nA my
 obtain rfl:=q
 exact ⟨_,_,(e8.pick [0,3,4,5] _ (by decide) rfl),rfl,rfl⟩
 intro cH mz
 refine ZQ (nF (cH.out)) (sR (.fx 0 .nil .stop) Z (zY (j:=3) (vs:=[jV 1]) Z Z Z Z e8 Z iB Z Z Zq (zA Z) Z Z Z ?_))
 intro gG jY
 have jZ:St aX dP [.obj aW dq,.blk bz 46 B6,.blk bf 43 B5,.blk b6 35 [jV 1],.blk b2 28 B0,.obj aj (.deferred (some []))] gG:=jY
 refine eN (zQ (zd ?_))
 have q:=nA mz
 obtain rfl:=q
 exact ⟨_,_,(jZ.pick [0,3,4,5] _ (by decide) rfl),rfl,rfl⟩
 rintro am bt oi cD fU e9
 rcases gu with ⟨⟩ | gx
 try dsimp only at bW
 rintro rfl
 have fb:sW w U bt [B2,.blk b2 28 B0,.obj aj (.deferred (some [])),.obj am (.deferred (some []))] cD:=e9
 refine zj (zF (zE (sR gAf Z (oL Z (fb.ldBA (j:=1) Z Z cN Zc zp (vs:=B0) Z Z) ?_))))
 have eO:=eI.le fU
 have eP:=eJ.le fU
 have q:=bnd bW
 obtain ⟨⟨⟩,iZ,fK⟩:=q
 try dsimp only at fK
 refine zN 0 Z Z Z Z (zJ Z Z Tryz.call104 (zC Z zO) Z) fb (fun hs=>wCY p0 aH aI av az cD bt hs eO eP iZ) (.inr Z) ?_
 rintro dQ oj pS gH fV j0 ⟨d9,rfl,rfl,i0⟩
 have j3:sW w U dQ [B2,.blk b2 28 B0,.obj aj (.deferred (some [])),.obj am (.deferred (some []))] gH:=j0
 refine eN (zR (CK.fresh fun ci bZ=>?_))
 have cP:ci 1=.pointer (some ⟨b2,0,none⟩):=(bZ 1).trans cN
 have cQ:ci 2=.pointer (some ⟨b6,0,none⟩):=(bZ 2).trans cO
 have iC:ci 71=.func (.func 141) #[] #[.pointer (some ⟨d9,0,none⟩)]:=(bZ 71).trans rfl
 clear bZ
 refine bnK fK fun gv ml bX=>?_
 have i7:=eO.le fV
 have eQ:=eP.le fV
 refine CK.rangeY (S:=Unit) (E:=Int) (ar:=wNP) (PY:=(fun (_:Unit) (U_:PHeap) (L_:List Res)=>L_=[B2,.blk b2 28 B0,.obj aj (.deferred (some [])),.obj am (.deferred (some []))])) (PE:=(fun (n7:Int) (U_:PHeap) (L_:List Res)=>L_=[.blk b6 35 [jV n7],.blk b2 28 B0,.obj aj (.deferred (some [])),.obj am (.deferred (some []))])) (exO:=(fun _=>.ret)) (s0:=()) (rr:=gv) iC Tryz.call141 j3 (by decide) (fun _ _ _ h=>by obtain ⟨_,_,_,_,_,_,_,_,rfl,_,_,_,_⟩:=h;rfl) (fun _=>.inl rfl) rfl (fun l w1 L1 PY' PE' bB bA bC=>wCJ PY' PE' _ l _ p0 d9 aH aI av az w1 L1 dQ bB bA bC i0 i7 eQ ml) ?_ ?_
 rintro aP pM pe ⟨⟩ aq p6 pI bK om n5 dr aQ pD j5 jv ma bU bN aV
 obtain rfl:=jv
 obtain ⟨gg,gk,gh,gm,dx,dF,bF,bH,rfl,pp,pt,pu,mU⟩:=ma
 replace aV:∀ t,bN t=upd (upd ci 72 (.agg #[jV aq.1.Bib,.slice gg aq.1.Classes.length gk,.slice gh aq.1.Legs.length gm])) 73 (.agg #[jV aq.2.Skier,.slice dx aq.2.Loops.length dF,.slice bF aq.2.Bouts.length bH]) t:=aV
 have o5:bN 72=.agg #[jV aq.1.Bib,.slice gg aq.1.Classes.length gk,.slice gh aq.1.Legs.length gm]:=(aV 72).trans ((wBe _ _ (by decide)).trans (wBg _ _ _))
 have iD:bN 73=.agg #[jV aq.2.Skier,.slice dx aq.2.Loops.length dF,.slice bF aq.2.Bouts.length bH]:=(aV 73).trans (wBg _ _ _)
 have iE:bN 1=.pointer (some ⟨b2,0,none⟩):=(aV 1).trans ((wBe _ _ (by decide)).trans ((wBe _ _ (by decide)).trans cP))
 have iF:bN 2=.pointer (some ⟨b6,0,none⟩):=(aV 2).trans ((wBe _ _ (by decide)).trans ((wBe _ _ (by decide)).trans cQ))
 clear aV
 have j6:St aQ bK [.obj aP dr,B2,.blk b2 28 B0,.obj aj (.deferred (some [])),.obj am (.deferred (some []))] n5:=j5
 try dsimp only at bU
 refine rR gAj Z (zo (cs:=[jV 0,.slice none 0 0,.slice none 0 0]) Z Z Z Z Z ZC Z j6 ?_)
 intro oI aS j7
 let B7:List Value:=[jV aq.2.Skier,.slice dx aq.2.Loops.length dF,.slice bF aq.2.Bouts.length bH]
 refine zY (j:=0) (vs:=B7) Z Z Z Z j7 Z Z iD Z zn (zA Z) Z Z Z ?_
 intro gJ j8
 have j9:St aQ bK [.blk aS 46 B7,.obj aP dr,B2,.blk b2 28 B0,.obj aj (.deferred (some [])),.obj am (.deferred (some []))] gJ:=j8
 refine zr ⟨rfl,rfl,_,_,(j9.pick [1,0,2,3,4,5] [.obj aP dr,.blk aS 46 B7,B2,.blk b2 28 B0,.obj aj (.deferred (some [])),.obj am (.deferred (some []))] (by decide) rfl),fun gK bD k9=>?_⟩
 have fc:St aQ bK [.obj aP bD,.blk aS 46 B7,B2,.blk b2 28 B0,.obj aj (.deferred (some [])),.obj am (.deferred (some []))] gK:=k9
 refine zR (sR fL4 Z (oR Z (zB Z Z zX Z Ze) (oL Z (fc.ldB (j:=1) Z Z Z Zz (v:=.slice bF aq.2.Bouts.length bH) Z) (oR Z (zV Z Z ZJ) (oM Z Z (eN (zR ?_)))))))
 have q:=wCH bU
 obtain ⟨pJ,df⟩:=q
 have q:=wCG df
 obtain ⟨dk,md⟩:=q
 replace dk:=zD dk
 refine yB (fun bi _ σ_ w_=>∃ (U_:PHeap),σ_ 77=jV (↑bi:Int)/\σ_ 1=.pointer (some ⟨b2,0,none⟩)/\σ_ 2=.pointer (some ⟨b6,0,none⟩)/\σ_ 75=.slice bF aq.2.Bouts.length bH/\σ_ 76=jV (↑aq.2.Bouts.length:Int)/\PHeap.Le bK U_/\St aQ U_ [.obj aP bD,.blk aS 46 B7,B2,.blk b2 28 B0,.obj aj (.deferred (some [])),.obj am (.deferred (some []))] w_) md ?_ ?_ ?_
 exact ⟨bK,Z,iE,iF,Z,Z,(zL _),fc⟩
 rintro bi ⟨⟩ qb qe gL dg ⟨dR,cU,iG,eu,ey,ez,fY,fd⟩ fO mb
 try dsimp only at fO
 have eh:Hid ((↑bi:Int) < (↑aq.2.Bouts.length:Int)):=zD (wBh dg)
 replace dg:=zD dg
 have mg:Hid (w64 ((↑bi:Int) + 1)=(↑(bi + 1):Int)):=zD (by have h1:=dk.out;have h2:=eh.out;rw [wAU] <;> omega)
 refine sR fL1 Z (oR Z (zZ Z cU ez) (eN (zE (cT Z eh (kN (zE (zR (sR fL3 Z (bnK fO fun dJ eR mD=>?_)))))))))
 have i9:=mU.le fY
 have q:=i9.el (wAX eR)
 obtain ⟨ip,m5,p7,jm,cW,mV⟩:=q
 obtain ⟨dy,dG,rfl,ja⟩:=mV
 replace cW:Cl dR ip (m5 + bi * 1) [.slice dy dJ.length dG]:=cW
 refine oR Z (zy Z ey jm cU ZJ yC (wAw eR)) (oL Z (fd.ldC (f:=0) cW (v:=.slice dy dJ.length dG) Z Z Tryz.isAgg47 Z) (oA Z Z (eN (sR (.fl 0 (.fx 1 (wMq (.fx 5 gAk .stop)) .stop)) Z (oM Z Z ?_)))))
 have q:=bnd mD
 obtain ⟨⟨bl,dK⟩,jb,fL⟩:=q
 try dsimp only at fL
 refine zN 0 Z Z Z Z (zJ Z Z Tryz.call11 (zC Z zO) Z) fd (fun hs=>wDo dJ dy dG gL dR hs ja jb) (.inr Z) ?_
 rintro bO ot pV gM m0 lf ⟨rfl,rfl⟩
 have lh:St aQ bO [.obj aP bD,.blk aS 46 B7,B2,.blk b2 28 B0,.obj aj (.deferred (some [])),.obj am (.deferred (some []))] gM:=lf
 refine oM Z Z (oR Z (Zs Z Z (v:=.agg #[jV bl.Spares,jV bl.Loops,jV bl.Unused]) Z) (oR Z (Zs Z Z (v:=jV dK) Z) (zo (cs:=[jV 0,jV 0,jV 0]) Z Z Z Z Z Zr Z lh ?_)))
 intro oK eb li
 let B8:List Value:=[jV bl.Spares,jV bl.Loops,jV bl.Unused]
 refine zY (j:=0) (vs:=B8) Z Z Z Z li Z Z Z Z Za (zA Z) Z Z Z ?_
 intro gO lj
 have fe:St aQ bO [.blk eb 49 B8,.obj aP bD,.blk aS 46 B7,B2,.blk b2 28 B0,.obj aj (.deferred (some [])),.obj am (.deferred (some []))] gO:=lj
 refine oA Z Z (eN (sR fL2 Z (oM Z Z (oR Z (Zk Z Z Z) (eN (ifc fL ?_ ?_))))))
 intro cJ mE
 refine zx (ZR (fun h=>h cJ.out)) (Zp (zj (zF (rR fL2 Z (oR Z (ZP (ze Z cU Z) (congrArg (jV) mg.out)) (oM Z Z (zr ?_)))))))
 have q:=nA mE
 obtain rfl:=q
 exact zF ⟨rfl,_,rfl,⟨bO,rfl,iG,eu,ey,ez,(fY.trans m0),(fe.pick [1,2,3,4,5,6] _ (by decide) rfl)⟩⟩
 intro cJ mF
 refine cT Z cJ (sR gAf Z (oM Z Z (zY (j:=3) (vs:=[jV dK]) Z Z Z Z fe Z eu Z Z Zq (zA Z) Z Z Z ?_)))
 intro gP lm
 have ln:St aQ bO [.blk eb 49 B8,.obj aP bD,.blk aS 46 B7,.blk b6 35 [jV dK],.blk b2 28 B0,.obj aj (.deferred (some [])),.obj am (.deferred (some []))] gP:=lm
 refine eN (zQ (zd (zK ?_)))
 have q:=wAa mF
 obtain ⟨m7,mG,iu⟩:=q
 have q:=wBw bU df (mb m7 iu)
 obtain rfl:=q
 refine zK (zd (zd ?_))
 have q:=nA mG
 obtain rfl:=q
 exact ⟨_,_,(ln.pick [1,3,4,5,6] _ (by decide) rfl),rfl,rfl⟩
 rintro ⟨⟩ qf oO ⟨oy,iO,o6,o7,o8,iH,pE,lq⟩ mc
 have fM:=wCo bU df mc
 try dsimp only at fM
 have ir:Hid (¬ ((↑(((↑aq.2.Bouts.length:Int):Int) - 0).toNat:Int) < (↑aq.2.Bouts.length:Int))):=zD (wBH)
 refine sR fL1 Z (oR Z (zZ Z iO iH) (eN (zE (cF Z ir (ZM (zW (zW (ZB (zj ?_)))))))))
 have q:=nA fM
 obtain rfl:=q
 exact ⟨_,_,(lq.pick [0,2,3,4,5] _ (by decide) rfl),rfl,rfl⟩
 rintro aN bb ou dZ m4 ff
 rcases gv with ⟨⟩ | gy
 try dsimp only at bX
 rintro rfl
 have lu:sW w U bb [B2,.blk b2 28 B0,.obj aj (.deferred (some [])),.obj am (.deferred (some [])),.obj aN (.deferred (some []))] dZ:=ff
 refine zj (zF (sR gAi Z (OKS.makeMap Z Z Z Z Z lu ?_)))
 intro oP aM fg
 have mW:=MpR.nil wMb wNQ
 refine oA Z Z (eN (zE (sR fL4 Z (oR Z (zB Z cP zH Z ZD) (oL Z (fg.ldB (j:=2) Z Z Z ZX (v:=.slice av p0.Teams.length az) Z) (oR Z (zV Z Z zg) (oM Z Z (eN (zR (bnK bX fun qd me mI=>?_))))))))))
 have q:=wCD me
 obtain ⟨dl,mf⟩:=q
 replace dl:=zD dl
 refine CK.forN' (fun bj fP σ_ w_=>∃ (U_:PHeap) (bQ:Array MapEntry) (cM:Nat),σ_ 94=jV (↑bj:Int)/\σ_ 1=.pointer (some ⟨b2,0,none⟩)/\σ_ 2=.pointer (some ⟨b6,0,none⟩)/\σ_ 14=.map (some aM)/\σ_ 92=.slice av p0.Teams.length az/\σ_ 93=jV (↑p0.Teams.length:Int)/\PHeap.Le bb U_/\sW w U U_ [.obj aM (.map bQ cM),B2,.blk b2 28 B0,.obj aj (.deferred (some [])),.obj am (.deferred (some [])),.obj aN (.deferred (some []))] w_/\MpR bQ wMb wNQ fP) mf ?_ ?_ ?_
 exact ⟨bb,#[],0,Z,cP,cQ,Z,Z,Z,(zL _),fg,mW⟩
 rintro bj fP qc qg oU dh ⟨bP,bQ,cM,cV,iI,iJ,eA,eC,eD,ga,fh,je⟩ mZ
 have ei:Hid ((↑bj:Int) < (↑p0.Teams.length:Int)):=zD (wBh dh)
 replace dh:=zD dh
 have mh:Hid (w64 ((↑bj:Int) + 1)=(↑(bj + 1):Int)):=zD (by have h1:=dl.out;have h2:=ei.out;rw [wAU] <;> omega)
 refine sR fL1 Z (oR Z (zZ Z cV eD) (eN (zE (cT Z ei (kN (zE (zR (sR gAv Z (bnK mZ fun aL eT mJ=>?_)))))))))
 have jf:=eQ.le m4
 have jg:=jf.le ga
 have q:=jg.el (wAX eT)
 obtain ⟨iq,m6,p8,jo,cX,mX⟩:=q
 obtain ⟨dz,dH,dA,dI,rfl,pf,pg⟩:=mX
 replace cX:Cl bP iq (m6 + bj * 3) [jV aL.Bib,.slice dz aL.Classes.length dH,.slice dA aL.Legs.length dI]:=cX
 refine oR Z (zy Z eC jo cV zg zk (wAw eT)) (oL Z (fh.ldCA (f:=0) cX Z Z Zl zk (us:=[jV aL.Bib,.slice dz aL.Classes.length dH,.slice dA aL.Legs.length dI]) Z Z) (zo (cs:=[jV 0,.slice none 0 0,.slice none 0 0]) Z Z Z Z Z ZK Z fh ?_))
 intro oW ed lv
 let B9:List Value:=[jV aL.Bib,.slice dz aL.Classes.length dH,.slice dA aL.Legs.length dI]
 refine zY (j:=0) (vs:=B9) Z Z Z Z lv Z Z Z Z zk (zA Z) Z Z Z ?_
 intro gQ lw
 have fj:sW w U bP [.blk ed 43 B9,.obj aM (.map bQ cM),B2,.blk b2 28 B0,.obj aj (.deferred (some [])),.obj am (.deferred (some [])),.obj aN (.deferred (some []))] gQ:=lw
 refine eN (rR (wCu (.fx 3 .nil .stop)) rfl (ZY rfl rfl rfl rfl rfl eA (ZE rfl rfl rfl rfl (fun _=>zB rfl rfl zP rfl zG) (Zt rfl rfl rfl rfl (fj.ldB (j:=0) rfl rfl rfl zU (v:=jV aL.Bib) rfl) rfl (OKS.mapPut (x:=.tmp 98) (y:=.tmp 100) (j:=1) (mk:=wMb) (mv:=wNQ) (a:=aL.Bib) (v:=true) rfl rfl rfl (by first | exact .inl rfl | exact .inr rfl) fj rfl rfl rfl rfl (wLA Tryz.runUnderlying127) wPP je rfl ?_)))))
 intro en ej gR mY lx
 have ly:sW w U bP [.blk ed 43 B9,.obj aM (.map en ej),B2,.blk b2 28 B0,.obj aj (.deferred (some [])),.obj am (.deferred (some [])),.obj aN (.deferred (some []))] gR:=lx
 refine zr (zj (zF (rR fL2 Z (oR Z (ZP (ze Z cV Z) (congrArg (jV) mh.out)) (oM Z Z (zr ?_))))))
 cases mJ
 exact zF ⟨rfl,⟨bP,en,ej,rfl,iI,iJ,eA,eC,eD,ga,(ly.pick [1,2,3,4,5,6] _ (by decide) rfl),mY⟩⟩
 rintro qh oX ⟨be,bh,bg,iP,iK,bR,iL,o9,iM,pF,bT,jh⟩
 have it:Hid (¬ ((↑(((↑p0.Teams.length:Int):Int) - 0).toNat:Int) < (↑p0.Teams.length:Int))):=zD (wBH)
 refine sR fL1 Z (oR Z (zZ Z iP iM) (eN (zE (cF Z it (ZM (zW (zW (ZB (zF (zE (sR fL6 Z (oM Z iL (oL Z (bT.lenM (j:=0) (mk:=wMb) (mv:=wNQ) Z Z Z (wLA Tryz.runUnderlying127) jh) (oR Z (zB Z iK zH Z ZD) (oL Z (bT.ldB (j:=2) Z Z Z ZX (v:=.slice av p0.Teams.length az) Z) (oR Z (zV Z Z zg) (oR Z (zZ Z Z Z) (eN (ifc mI ?_ ?_)))))))))))))))))))
 intro cK mL
 refine cT Z cK (sR (.fx 0 .nil .stop) Z (zY (j:=1) (vs:=[jV 5]) Z Z Z Z bT Z bR Z Z Zq (zA Z) Z Z Z ?_))
 intro gS lz
 let cm:Res:=.blk b6 35 [jV 5]
 have lA:sW w U be [.obj aM (.map bh bg),cm,.blk b2 28 B0,.obj aj (.deferred (some [])),.obj am (.deferred (some [])),.obj aN (.deferred (some []))] gS:=lz
 refine eN (zQ (zK (wDD (by first | exact .inl rfl | exact .inr rfl) (rbs:=[aN,am,aj]) (L:=[.obj aM (.map bh bg),cm,.blk b2 28 B0]) (lA.pick [0,1,2,5,4,3] _ (by decide) rfl) fun gT lB=>?_)))
 have fq:sW w U be [.obj aM (.map bh bg),cm,.blk b2 28 B0] gT:=lB
 cases mL
 exact ⟨_,(wDv (v:=jV 5) ⟨⟨_,bR,(wGd Zw (fq.blkAt (k:=1) rfl) rfl)⟩,trivial⟩),be,_,(fq.pick [] _ (by decide) rfl),rfl,rfl⟩
 intro cK mM
 refine cF Z cK (kN (sR (.fx 0 .nil .stop) Z (zY (j:=1) (vs:=[jV 0]) Z Z Z Z bT Z bR Z Z Zq (zA Z) Z Z Z ?_)))
 intro gU lD
 have lE:sW w U be [.obj aM (.map bh bg),B2,.blk b2 28 B0,.obj aj (.deferred (some [])),.obj am (.deferred (some [])),.obj aN (.deferred (some []))] gU:=lD
 refine eN (zQ (wDD (by first | exact .inl rfl | exact .inr rfl) (rbs:=[aN,am,aj]) (L:=[.obj aM (.map bh bg),B2,.blk b2 28 B0]) (lE.pick [0,1,2,5,4,3] _ (by decide) rfl) fun gW lF=>?_))
 have ft:sW w U be [.obj aM (.map bh bg),B2,.blk b2 28 B0] gW:=lF
 cases mM
 exact ⟨_,(wDv (v:=jV 0) ⟨⟨_,bR,(wGd Zw (ft.blkAt (k:=1) rfl) rfl)⟩,trivial⟩),be,_,(ft.pick [] _ (by decide) rfl),rfl,rfl⟩
 try dsimp only at bX
 rintro rfl
 let cn:Res:=.blk b6 35 [jV gy]
 have lH:sW w U bb [cn,.blk b2 28 B0,.obj aj (.deferred (some [])),.obj am (.deferred (some [])),.obj aN (.deferred (some []))] dZ:=ff
 refine zd (zK (wDD (by first | exact .inl rfl | exact .inr rfl) (rbs:=[aN,am,aj]) (L:=[cn,.blk b2 28 B0]) (lH.pick [0,1,4,3,2] _ (by decide) rfl) fun gX lI=>?_))
 have fu:sW w U bb [cn,.blk b2 28 B0] gX:=lI
 have hE:=nA bX;first | subst r | cases hE
 exact ⟨_,(wDv (v:=jV gy) ⟨⟨_,cQ,(wGd Zw (fu.blkAt (k:=0) rfl) rfl)⟩,trivial⟩),bb,_,(fu.pick [] _ (by decide) rfl),rfl,rfl⟩
 try dsimp only at bW
 rintro rfl
 let cp:Res:=.blk b6 35 [jV gx]
 have lJ:sW w U bt [cp,.blk b2 28 B0,.obj aj (.deferred (some [])),.obj am (.deferred (some []))] cD:=e9
 refine zd (zK (wDD (by first | exact .inl rfl | exact .inr rfl) (rbs:=[am,aj]) (L:=[cp,.blk b2 28 B0]) (lJ.pick [0,1,3,2] _ (by decide) rfl) fun gZ lK=>?_))
 have fw:sW w U bt [cp,.blk b2 28 B0] gZ:=lK
 have hE:=nA bW;first | subst r | cases hE
 exact ⟨_,(wDv (v:=jV gx) ⟨⟨_,cO,(wGd Zw (fw.blkAt (k:=0) rfl) rfl)⟩,trivial⟩),bt,_,(fw.pick [] _ (by decide) rfl),rfl,rfl⟩
 try dsimp only at bV
 rintro rfl
 let cq:Res:=.blk b6 35 [jV gw]
 have lL:sW w U bs [cq,.blk b2 28 B0,.obj aj (.deferred (some []))] cC:=eY
 refine zd (zK (wDD (by first | exact .inl rfl | exact .inr rfl) (rbs:=[aj]) (L:=[cq,.blk b2 28 B0]) lL fun g8 lM=>?_))
 have fy:sW w U bs [cq,.blk b2 28 B0] g8:=lM
 have hE:=nA bV;first | subst r | cases hE
 exact ⟨_,(wDv (v:=jV gw) ⟨⟨_,cS,(wGd Zw (fy.blkAt (k:=0) rfl) rfl)⟩,trivial⟩),bs,_,(fy.pick [] _ (by decide) rfl),rfl,rfl⟩
 intro cL mN
 refine ZQ (nF (cL.out)) (sR (.fx 0 .nil .stop) Z (zY (j:=0) (vs:=[jV 3]) Z Z Z Z de Z Z Z Z Zq (zA Z) Z Z Z ?_))
 intro g9 lN
 let cr:Res:=.blk b6 35 [jV 3]
 have lO:sW w U bv [cr,.blk b2 28 B0] g9:=lN
 refine eN (zQ (zd (zK (wDD (by first | exact .inl rfl | exact .inr rfl) (rbs:=[]) (L:=[cr,.blk b2 28 B0]) lO fun ib lP=>?_))))
 have fz:sW w U bv [cr,.blk b2 28 B0] ib:=lP
 cases mN
 exact ⟨_,(wDv (v:=jV 3) ⟨⟨_,rfl,(wGd Zw (fz.blkAt (k:=0) rfl) rfl)⟩,trivial⟩),bv,_,(fz.pick [] _ (by decide) rfl),rfl,rfl⟩
 intro aJ mO
 refine ZG Z Z Z (ZS Z Z (nF (aJ.out)) Z) (ZG Z Z Z (ZS Z Z (nF (aJ.out)) Z) (OKS.px Z Z Z (ZS Z Z (nF (aJ.out)) Z) (ZG Z Z Z (ZS Z Z (nF (aJ.out)) Z) (oR Z (ZF Z (nF (aJ.out)) Z) (oA Z Z (eN (ZQ Z (sR (.fx 0 .nil .stop) Z (zY (j:=0) (vs:=[jV 3]) Z Z Z Z db Z Z Z Z Zq (zA Z) Z Z Z ?_)))))))))
 intro ic lQ
 let ct:Res:=.blk b6 35 [jV 3]
 have lR:sW w U ba [ct,.blk b2 28 B0] ic:=lQ
 refine eN (zQ (zd (zK (wDD (by first | exact .inl rfl | exact .inr rfl) (rbs:=[]) (L:=[ct,.blk b2 28 B0]) lR fun ie lS=>?_))))
 have fA:sW w U ba [ct,.blk b2 28 B0] ie:=lS
 cases mO
 exact ⟨_,(wDv (v:=jV 3) ⟨⟨_,rfl,(wGd Zw (fA.blkAt (k:=0) rfl) rfl)⟩,trivial⟩),ba,_,(fA.pick [] _ (by decide) rfl),rfl,rfl⟩
 intro cI mQ
 refine ZQ (nF (cI.out)) (sR (.fx 0 .nil .stop) Z (zY (j:=0) (vs:=[jV 2]) Z Z Z Z da Z Z Z Z Zq (zA Z) Z Z Z ?_))
 intro ig lT
 let cu:Res:=.blk b6 35 [jV 2]
 have lU:sW w U bu [cu,.blk b2 28 B0] ig:=lT
 refine eN (zQ (zd (zK (wDD (by first | exact .inl rfl | exact .inr rfl) (rbs:=[]) (L:=[cu,.blk b2 28 B0]) lU fun ii lV=>?_))))
 have fB:sW w U bu [cu,.blk b2 28 B0] ii:=lV
 cases mQ
 exact ⟨_,(wDv (v:=jV 2) ⟨⟨_,rfl,(wGd Zw (fB.blkAt (k:=0) rfl) rfl)⟩,trivial⟩),bu,_,(fB.pick [] _ (by decide) rfl),rfl,rfl⟩
 intro au mR
 refine ZG Z Z Z (ZS Z Z (nF (au.out)) Z) (ZG Z Z Z (ZS Z Z (nF (au.out)) Z) (ZG Z Z Z (ZS Z Z (nF (au.out)) Z) (ZG Z Z Z (ZS Z Z (nF (au.out)) Z) (ZG Z Z Z (ZS Z Z (nF (au.out)) Z) (OKS.px Z Z Z (ZS Z Z (nF (au.out)) Z) (ZG Z Z Z (ZS Z Z (nF (au.out)) Z) (oR Z (ZF Z (nF (au.out)) Z) (oA Z Z (eN (ZQ Z (sR (.fx 0 .nil .stop) Z (zY (j:=0) (vs:=[jV 2]) Z Z Z Z bS Z Z Z Z Zq (zA Z) Z Z Z ?_))))))))))))
 intro ij lW
 let cw:Res:=.blk b6 35 [jV 2]
 have lX:sW w U a0 [cw,.blk b2 28 B0] ij:=lW
 refine eN (zQ (zd (zK (wDD (by first | exact .inl rfl | exact .inr rfl) (rbs:=[]) (L:=[cw,.blk b2 28 B0]) lX fun ik lY=>?_))))
 have fC:sW w U a0 [cw,.blk b2 28 B0] ik:=lY
 cases mR
 exact ⟨_,(wDv (v:=jV 2) ⟨⟨_,rfl,(wGd Zw (fC.blkAt (k:=0) rfl) rfl)⟩,trivial⟩),a0,_,(fC.pick [] _ (by decide) rfl),rfl,rfl⟩
 intro cE mS
 refine cT Z cE (sR gAf Z (oM Z Z (zY (j:=0) (vs:=[jV x9]) Z Z Z Z cY Z Z Z Z Zq (zA Z) Z Z Z ?_)))
 intro il lZ
 let cy:Res:=.blk b6 35 [jV x9]
 have l3:sW w U br [cy,.blk b2 28 B0] il:=lZ
 refine eN (zQ (zd (zK (wDD (by first | exact .inl rfl | exact .inr rfl) (rbs:=[]) (L:=[cy,.blk b2 28 B0]) l3 fun im l4=>?_))))
 have fD:sW w U br [cy,.blk b2 28 B0] im:=l4
 have hE:=nA mS;first | subst r | cases hE
 exact ⟨_,(wDv (v:=jV x9) ⟨⟨_,rfl,(wGd Zw (fD.blkAt (k:=0) rfl) rfl)⟩,trivial⟩),br,_,(fD.pick [] _ (by decide) rfl),rfl,rfl⟩
end Go.Proofs.YtnbcoenjobdplaaGreat
namespace Go.Proofs.YtnbcoenjobdplaaGreat
open Go.KL
set_option maxHeartbeats 4000000
theorem wHe (p0:wAF) (aL:Option Addr) (aM:Nat) (ap:Option Addr) (aq:Nat) (w:World) (U:PHeap) (hS:St0 w U []) (dk:Sl U 1 aL aM p0.Rules.Classes.length (hH KL.encI p0.Rules.Classes)) (bU:SlR U wFN ap aq p0.Teams) {r:(Option wCg) × Int} (hm:wCP p0=some r):Gv Tryz.prog 30 [.agg #[.slice aL p0.Rules.Classes.length aM,jV p0.Rules.Each,jV p0.Rules.Laps,jV p0.Rules.Spare,jV p0.Rules.Loop,jV p0.Rules.Unused,jV p0.Start,.slice ap p0.Teams.length aq]] w (wCi w [] U (fun U_ L_ v=>match r.1 with | none=>v=.tuple #[.pointer none,jV r.2]/\L_=[] | some d=>∃ (b0:Nat) (A0p000:Option Addr) (c0p000:Nat) (A0p02:Option Addr) (c0p02:Nat) (A0p1:Option Addr) (c0p1:Nat) (cs0p1:List Value),v=.tuple #[.pointer (some ⟨b0,0,none⟩),jV r.2]/\L_=[.blk b0 130 [.slice A0p000 d.Race.Rules.Classes.length c0p000,jV d.Race.Rules.Each,jV d.Race.Rules.Laps,jV d.Race.Rules.Spare,jV d.Race.Rules.Loop,jV d.Race.Rules.Unused,jV d.Race.Start,.slice A0p02 d.Race.Teams.length c0p02,.slice A0p1 d.after.length c0p1],.row A0p1 c0p1 23 1 cs0p1]/\Sl U_ 1 A0p000 c0p000 d.Race.Rules.Classes.length (hH KL.encI d.Race.Rules.Classes)/\SlR U_ wFN A0p02 c0p02 d.Race.Teams/\RlL U_ wIU d.after cs0p1)):=by
 unfold wCP at hm
 refine Gv.of Tryz.func30 Z Tryz.ntmps30 Tryz.results30 Z (sR (.fx 0 gAa .stop) Z ?_)
 let B0:List Value:=[.slice aL p0.Rules.Classes.length aM,jV p0.Rules.Each,jV p0.Rules.Laps,jV p0.Rules.Spare,jV p0.Rules.Loop,jV p0.Rules.Unused,jV p0.Start,.slice ap p0.Teams.length aq]
 refine Zh (cs:=B0) rfl rfl rfl rfl rfl rfl (by rfl) hS ?_
 intro W1 b2 de
 refine oA Z Z (oA Z Z (eN (zE (sR gAo Z (oL Z (de.ldBA (j:=0) Z Z Z Zc zp (vs:=B0) Z Z) (bnK hm fun x5 h6 g9=>zN 0 Z Z Z Z (zJ Z Z Tryz.call65 (zC Z zO) Z) de (fun hs=>wHd p0 aL aM ap aq W1 U hs dk bU h6) (.inr Z) ?_))))))
 rintro U8 L9 iM dH b8 fV ⟨rfl,rfl⟩
 have bS:sW w U U8 [.blk b2 28 B0] dH:=fV
 refine oA Z Z (eN (sR fL2 Z (oM Z Z (oR Z (Zk Z Z Z) (eN (ifc g9 ?_ ?_))))))
 intro bF gO
 refine zx (ZR (fun h=>h bF.out)) (kN (sR gAq Z (oL Z (bS.ldBA (j:=0) Z Z Z Zc zp (vs:=B0) Z Z) ?_)))
 let B1:List Value:=[.slice aL p0.Rules.Classes.length aM,jV p0.Rules.Each,jV p0.Rules.Laps,jV p0.Rules.Spare,jV p0.Rules.Loop,jV p0.Rules.Unused,jV p0.Start,.slice ap p0.Teams.length aq,.slice none 0 0]
 refine ZE rfl rfl rfl rfl (fun _=>ZO (pv:=[(0,.agg B0.toArray)]) (z:=[.slice none 0 0,jV 0,jV 0,jV 0,jV 0,jV 0,jV 0,.slice none 0 0,.slice none 0 0]) (cs:=B1) rfl (wAI rfl wAT) Tryz.zeroValue130 wMd rfl rfl) (Zh (cs:=B1) rfl rfl rfl rfl rfl rfl (by rfl) bS ?_)
 intro iy aN cZ
 refine oA Z Z (eN (zE (sR fL7 Z (oM Z Z (oR Z (ZW Z Z) (oR Z (zB Z Z ZT Z zp) (oR Z (zB Z Z zH Z ZD) (oL Z (cZ.ldB (j:=0) Z Z Z ZX (v:=.slice ap p0.Teams.length aq) Z) (oR Z (zV Z Z zg) (oM Z Z (eN (zR (bnK gO fun iZ gI gZ=>?_)))))))))))))
 have q:=wCD gI
 obtain ⟨b5,gJ⟩:=q
 replace b5:=zD b5
 refine CK.forN' (fun aK ba σ_ w_=>∃ (U_:PHeap) (aV:Option Addr) (aY:Nat) (bs:List Value),σ_ 29=jV (↑aK:Int)/\σ_ 5=.pointer (some ⟨aN,0,none⟩)/\σ_ 27=.slice ap p0.Teams.length aq/\σ_ 28=jV (↑p0.Teams.length:Int)/\PHeap.Le U8 U_/\sW w U U_ [.row aV aY 23 1 bs,.blk aN 130 [.slice aL p0.Rules.Classes.length aM,jV p0.Rules.Each,jV p0.Rules.Laps,jV p0.Rules.Spare,jV p0.Rules.Loop,jV p0.Rules.Unused,jV p0.Start,.slice ap p0.Teams.length aq,.slice aV ba.length aY],.blk b2 28 B0] w_/\RlL U_ wIU ba bs) gJ ?_ ?_ ?_
 have gB:=cZ.nilrow 23 1
 exact ⟨U8,none,0,[],Z,Z,Z,Z,(zL _),gB,RlL.nil⟩
 rintro aK ba iV ja iD bX ⟨bp,aV,aY,bs,bN,cQ,cR,cS,dz,dh,fL⟩ ij
 have cD:Hid ((↑aK:Int) < (↑p0.Teams.length:Int)):=zD (wBh bX)
 replace bX:=zD bX
 have gL:Hid (w64 ((↑aK:Int) + 1)=(↑(aK + 1):Int)):=zD (by have h1:=b5.out;have h2:=cD.out;rw [wAU] <;> omega)
 refine sR fL1 Z (oR Z (zZ Z bN cS) (eN (zE (cT Z cD (kN (zE (zR (sR gAv Z (bnK ij fun x66 cW g8=>?_)))))))))
 have fM:=bU.le b8
 have fN:=fM.le dz
 have q:=fN.el (wAX cW)
 obtain ⟨dZ,ip,iQ,fS,bR,ig⟩:=q
 obtain ⟨cd,ci,aR,aS,rfl,iK,fO⟩:=ig
 replace bR:Cl bp dZ (ip + aK * 3) [jV x66.Bib,.slice cd x66.Classes.length ci,.slice aR x66.Legs.length aS]:=bR
 refine oR Z (zy Z cR fS bN zg zk (wAw cW)) (oL Z (dh.ldCA (f:=0) bR Z Z Zl zk (us:=[jV x66.Bib,.slice cd x66.Classes.length ci,.slice aR x66.Legs.length aS]) Z Z) ?_)
 let B2:List Value:=[jV 0,.slice none 0 0,.slice none 0 0]
 refine zo (cs:=B2) Z Z Z Z Z ZK Z dh ?_
 intro iE ak gC
 let B3:List Value:=[jV x66.Bib,.slice cd x66.Classes.length ci,.slice aR x66.Legs.length aS]
 refine zY (j:=0) (vs:=B3) Z Z Z Z gC Z Z Z Z zk (zA Z) Z Z Z ?_
 intro dT gD
 let B4:Res:=.blk aN 130 [.slice aL p0.Rules.Classes.length aM,jV p0.Rules.Each,jV p0.Rules.Laps,jV p0.Rules.Spare,jV p0.Rules.Loop,jV p0.Rules.Unused,jV p0.Start,.slice ap p0.Teams.length aq,.slice aV ba.length aY]
 let B5:Res:=.row aV aY 23 1 bs
 have bT:sW w U bp [.blk ak 43 B3,B5,B4,.blk b2 28 B0] dT:=gD
 refine eN (sR fL6 Z (oM Z cQ (oR Z (ZW Z Z) (oR Z (zB Z Z ZT Z zp) (oR Z (zB Z Z zH Z zG) (oL Z (bT.ldB (j:=2) Z Z Z zU (v:=jV p0.Start) Z) (oA Z Z (eN (sR fL1 Z (oA Z Z (eN (zE (sR fL4 Z (oR Z (zB Z Z zP Z zz) (oL Z (bT.ldB (j:=0) Z Z Z Zi (v:=.slice aR x66.Legs.length aS) Z) (oR Z (zV Z Z zt) (oM Z Z (eN (zR ?_)))))))))))))))))))
 have q:=bnd g8
 obtain ⟨⟨iW,aT⟩,gE,dm⟩:=q
 try dsimp only at dm
 have q:=wCD gE
 obtain ⟨bY,gF⟩:=q
 replace bY:=zD bY
 refine CK.forN' (fun aO (x106,bv) σ_ w_=>∃ (U_:PHeap) (bb:Option Addr) (bh:Nat),σ_ 41=jV (↑aO:Int)/\σ_ 5=.pointer (some ⟨aN,0,none⟩)/\σ_ 8=jV x106/\σ_ 9=.slice bb bv.length bh/\σ_ 27=.slice ap p0.Teams.length aq/\σ_ 28=jV (↑p0.Teams.length:Int)/\σ_ 29=jV (↑aK:Int)/\σ_ 39=.slice aR x66.Legs.length aS/\σ_ 40=jV (↑x66.Legs.length:Int)/\PHeap.Le bp U_/\sW w U U_ [.blk ak 43 B3,B5,B4,.blk b2 28 B0,.row bb bh 3 1 (hH KL.encI bv)] w_) gF ?_ ?_ ?_
 have fU:=bT.nilrow 3 1
 exact ⟨bp,none,0,rfl,cQ,rfl,rfl,cR,cS,bN,rfl,rfl,(zL _),(fU.pick [1,2,3,4,0] _ (by decide) rfl)⟩
 rintro aO ⟨x106,bv⟩ iT i0 iv bV ⟨bn,bb,bh,bM,eh,ei,ej,en,eu,ey,cE,cG,dv,cX⟩ dt
 try dsimp only at dt
 have cy:Hid ((↑aO:Int) < (↑x66.Legs.length:Int)):=zD (wBh bV)
 replace bV:=zD bV
 have gK:Hid (w64 ((↑aO:Int) + 1)=(↑(aO + 1):Int)):=zD (by have h1:=bY.out;have h2:=cy.out;rw [wAU] <;> omega)
 refine sR fL1 Z (oR Z (zZ Z bM cG) (eN (zE (cT Z cy (kN (zE (zR (sR gAv Z (bnK dt fun x140 cU gM=>?_)))))))))
 have fh:=fO.le dv
 have q:=fh.el (wAX cU)
 obtain ⟨dU,im,iO,fP,bP,ib⟩:=q
 obtain ⟨bj,bk,bz,bA,rfl,fj,fm⟩:=ib
 replace bP:Cl bn dU (im + aO * 3) [jV x140.Skier,.slice bj x140.Loops.length bk,.slice bz x140.Bouts.length bA]:=bP
 refine oR Z (zy Z cE fP bM zt zn (wAw cU)) (oL Z (cX.ldCA (f:=0) bP Z Z Zv zn (us:=[jV x140.Skier,.slice bj x140.Loops.length bk,.slice bz x140.Bouts.length bA]) Z Z) (zo (cs:=B2) Z Z Z Z Z ZC Z cX ?_))
 intro iw aI fW
 let B6:List Value:=[jV x140.Skier,.slice bj x140.Loops.length bk,.slice bz x140.Bouts.length bA]
 refine zY (j:=0) (vs:=B6) Z Z Z Z fW Z Z Z Z zn (zA Z) Z Z Z ?_
 intro dI fY
 have cY:sW w U bn [.blk aI 46 B6,.blk ak 43 B3,B5,B4,.blk b2 28 B0,.row bb bh 3 1 (hH KL.encI bv)] dI:=fY
 refine eN (sR fL4 Z (oR Z (zB Z Z zX Z zM) (oL Z (cY.ldB (j:=0) Z Z Z zf (v:=.slice bj x140.Loops.length bk) Z) (oR Z (zV Z Z zI) (oM Z Z (eN (zR ?_)))))))
 have q:=bnd gM
 obtain ⟨⟨iX,iY⟩,gG,dp⟩:=q
 try dsimp only at dp
 have q:=wCD gG
 obtain ⟨bZ,gH⟩:=q
 replace bZ:=zD bZ
 refine CK.forN' (fun aQ (x177,aP) σ_ w_=>∃ (U_:PHeap) (aU:Option Addr) (aX:Nat),σ_ 48=jV (↑aQ:Int)/\σ_ 5=.pointer (some ⟨aN,0,none⟩)/\σ_ 8=jV x177/\σ_ 9=.slice aU aP.length aX/\σ_ 11=.pointer (some ⟨aI,0,none⟩)/\σ_ 27=.slice ap p0.Teams.length aq/\σ_ 28=jV (↑p0.Teams.length:Int)/\σ_ 29=jV (↑aK:Int)/\σ_ 39=.slice aR x66.Legs.length aS/\σ_ 40=jV (↑x66.Legs.length:Int)/\σ_ 41=jV (↑aO:Int)/\σ_ 47=jV (↑x140.Loops.length:Int)/\PHeap.Le bn U_/\sW w U U_ [.blk aI 46 B6,.blk ak 43 B3,B5,B4,.blk b2 28 B0,.row aU aX 3 1 (hH KL.encI aP)] w_) gH ?_ ?_ ?_
 exact ⟨bn,bb,bh,Z,eh,ei,ej,Z,en,eu,ey,cE,cG,bM,Z,(zL _),cY⟩
 rintro aQ ⟨x177,aP⟩ iU i6 dJ bW ⟨bf,aU,aX,bu,cH,ez,cI,bt,cJ,cK,cL,cM,cN,cO,bJ,bw,aZ⟩ du
 try dsimp only at du
 have cz:Hid ((↑aQ:Int) < (↑x140.Loops.length:Int)):=zD (wBh bW)
 replace bW:=zD bW
 have dl:Hid (w64 ((↑aQ:Int) + 1)=(↑(aQ + 1):Int)):=zD (by have h1:=bZ.out;have h2:=cz.out;rw [wAU] <;> omega)
 refine sR fL1 Z (oR Z (zZ Z bu bJ) (eN (zE (cT Z cz (kN (zE (zR (sR fL2 Z (oM Z bu (oA Z Z (eN (sR fL8 Z (oM Z ez (oR Z (zB Z bt zX Z zM) (oL Z (aZ.ldB (j:=0) Z Z Z zf (v:=.slice bj x140.Loops.length bk) Z) (oM Z Z (bnK du fun aH cV gP=>?_)))))))))))))))))
 have fq:=fj.le bw
 have q:=fq.el (fun _=>rfl) (wAX cV)
 obtain ⟨iF,iL,fQ,fT⟩:=q
 refine oR Z (zy Z Z fQ Z zI zG (wAw cV)) (oL Z (aZ.ldC (f:=0) fT (v:=jV aH) Z Z zU Z) (oR Z (ze Z Z Z) (oA Z Z (eN (zE (sR fL2 Z (oM Z Z (oR Z (yF Z Z Z) (eN (ifc gP ?_ ?_))))))))))
 intro bG gQ
 refine cT Z bG (sR (wKo (.fx 6 (fC7_9 (.fx 10 (.fx 11 (.fl 12 .nil) .stop) .stop)) .stop)) Z (oR Z (zB Z bt zX Z Ze) (oL Z (aZ.ldB (j:=0) Z Z Z Zz (v:=.slice bz x140.Bouts.length bA) Z) (oM Z Z (oR Z (Zg Z Z Z) (bnK gQ fun cj bO gR=>?_))))))
 have ft:=fm.le bw
 have q:=ft.el (wAX bO)
 obtain ⟨dV,io,iP,fR,bQ,ic⟩:=q
 obtain ⟨cb,cg,rfl,fu⟩:=ic
 replace bQ:Cl bf dV (io + (w64 ((↑aQ:Int) - 1)).toNat * 1) [.slice cb cj.length cg]:=bQ
 refine oR Z (Runs.iaI Z Z fR Z ZJ yC (wGl bO) (wHo bO)) (oL Z (aZ.ldC (f:=0) bQ (v:=.slice cb cj.length cg) Z Z Tryz.isAgg47 Z) ?_)
 have q:=bnd gR
 obtain ⟨⟨ah,iq⟩,fw,dq⟩:=q
 try dsimp only at dq
 refine zN 0 Z Z Z Z (zJ Z Z Tryz.call11 (zC Z zO) Z) aZ (fun hs=>wDo cj cb cg dJ bf hs fu fw) (.inr Z) ?_
 rintro bg ir iN dK ik fZ ⟨rfl,rfl⟩
 let B7:Res:=.row aU aX 3 1 (hH KL.encI aP)
 have ga:sW w U bg [.blk aI 46 B6,.blk ak 43 B3,B5,B4,.blk b2 28 B0,B7] dK:=fZ
 refine oM Z Z (oR Z (Zs Z Z (v:=.agg #[jV ah.Spares,jV ah.Loops,jV ah.Unused]) Z) (oR Z (Zs Z Z (v:=jV iq) Z) (zo (cs:=[jV 0,jV 0,jV 0]) Z Z Z Z Z Zr Z ga ?_)))
 intro iz br gb
 let B8:List Value:=[jV ah.Spares,jV ah.Loops,jV ah.Unused]
 refine zY (j:=0) (vs:=B8) Z Z Z Z gb Z Z Z Z Za (zA Z) Z Z Z ?_
 intro bE gc
 have ge:sW w U bg [.blk br 49 B8,.blk aI 46 B6,.blk ak 43 B3,B5,B4,.blk b2 28 B0,B7] bE:=gc
 refine oA Z Z (eN (CK.fresh fun av am=>?_))
 have bK:av 5=.pointer (some ⟨aN,0,none⟩):=(am 5).trans cH
 have eA:av 8=jV (w64 (x177 + aH)):=(am 8).trans rfl
 have eC:av 9=.slice aU aP.length aX:=(am 9).trans cI
 have eD:av 11=.pointer (some ⟨aI,0,none⟩):=(am 11).trans bt
 have cP:av 13=.pointer (some ⟨br,0,none⟩):=(am 13).trans rfl
 have eE:av 27=.slice ap p0.Teams.length aq:=(am 27).trans cJ
 have eF:av 28=jV (↑p0.Teams.length:Int):=(am 28).trans cK
 have eG:av 29=jV (↑aK:Int):=(am 29).trans cL
 have eH:av 39=.slice aR x66.Legs.length aS:=(am 39).trans cM
 have eI:av 40=jV (↑x66.Legs.length:Int):=(am 40).trans cN
 have eJ:av 41=jV (↑aO:Int):=(am 41).trans cO
 have eK:av 47=jV (↑x140.Loops.length:Int):=(am 47).trans bJ
 have eM:av 48=jV (↑aQ:Int):=(am 48).trans bu
 clear am
 refine Zb ZV [3,3,1,3,3,3,3,3,1,3,3,1,3,3,3,3,3,1,3,3,3,3] fL22 (by kernel_rfl) ?_
 have a0:=ge.drew
 generalize hw_W268:({ bE with drawn:=bE.drawn + 1 }:World)=iA at a0 ⊢
 refine oM Z eA (oR Z (zB Z cP Tryz.runUnderlying49 Z zG) (oL Z (a0.ldB (j:=0) Z Z Z zU (v:=jV ah.Spares) Z) (oM Z bK (oR Z (ZW Z Z) (oR Z (zB Z Z ZT Z zp) (oR Z (zB Z Z zH Z zq) (oR Z (zB Z Z zS Z zG) (oL Z (a0.ldB (j:=4) Z Z Z zU (v:=jV p0.Rules.Spare) Z) (oR Z (Runs.mulw Z Z Z) (oR Z (zB Z cP Tryz.runUnderlying49 Z zG) (oL Z (a0.ldB (j:=0) Z Z Z zU (v:=jV ah.Loops) Z) (oM Z bK (oR Z (ZW Z Z) (oR Z (zB Z Z ZT Z zp) (oR Z (zB Z Z zH Z zq) (oR Z (zB Z Z zS Z zG) (oL Z (a0.ldB (j:=4) Z Z Z zU (v:=jV p0.Rules.Loop) Z) (oR Z (Runs.mulw Z Z Z) (oR Z (ze Z Z Z) (oR Z (ze Z Z Z) (oA Z Z (eN (rR gAy Z (oM Z eC (oM Z Z (zu (pv:=[(0,jV (w64 ((w64 (x177 + aH)) + (w64 ((w64 (ah.Spares * p0.Rules.Spare)) + (w64 (ah.Loops * p0.Rules.Loop)))))))]) (zs:=[jV 0]) (cs:=[jV (w64 ((w64 (x177 + aH)) + (w64 ((w64 (ah.Spares * p0.Rules.Spare)) + (w64 (ah.Loops * p0.Rules.Loop))))))]) Z Z Z Z Z (wAI Z wAT) zI zG yA Z Z Z Z Z a0 ?_))))))))))))))))))))))))))
 intro dL dW gf
 let B9:Res:=.row (some ⟨dW,0,none⟩) 1 3 1 (hH KL.encI [w64 ((w64 (x177 + aH)) + (w64 ((w64 (ah.Spares * p0.Rules.Spare)) + (w64 (ah.Loops * p0.Rules.Loop)))))])
 have da:sW w U bg [B9,.blk br 49 B8,.blk aI 46 B6,.blk ak 43 B3,B5,B4,.blk b2 28 B0,B7] dL:=gf
 refine bnK dq fun dA fy gS=>Zu (j:=7) (enc:=KL.encI) (xs:=aP) (ys:=[w64 ((w64 (x177 + aH)) + (w64 ((w64 (ah.Spares * p0.Rules.Spare)) + (w64 (ah.Loops * p0.Rules.Loop)))))]) (zs:=dA) rfl rfl rfl rfl rfl Zj wHc rfl rfl rfl rfl rfl rfl da rfl rfl rfl (da.srcR (j:=0) rfl (by decide) (wAL (f:=KL.encI) (sz:=1) (fun _=>rfl) [w64 ((w64 (x177 + aH)) + (w64 ((w64 (ah.Spares * p0.Rules.Spare)) + (w64 (ah.Loops * p0.Rules.Loop)))))])) (fun _=>rfl) (fun _=>rfl) fy rfl ?_
 intro cn cA dM gg
 have gh:sW w U bg [B9,.blk br 49 B8,.blk aI 46 B6,.blk ak 43 B3,B5,B4,.blk b2 28 B0,.row cn cA 3 1 (hH KL.encI dA)] dM:=gg
 refine oA Z Z (zr (zj (zF (rR fL2 Z (oR Z (ZP (ze Z eM Z) (congrArg (jV) dl.out)) (oM Z Z (zr ?_)))))))
 cases gS
 exact zF ⟨rfl,⟨bg,cn,cA,rfl,bK,rfl,rfl,eD,eE,eF,eG,eH,eI,eJ,eK,(bw.trans ik),(gh.pick [2,3,4,5,6,7] _ (by decide) rfl)⟩⟩
 intro bG gT
 refine cF Z bG (kN (rR gAy Z (oM Z cI (oM Z Z (zu (pv:=[(0,jV (w64 (x177 + aH)))]) (zs:=[jV 0]) (cs:=[jV (w64 (x177 + aH))]) Z Z Z Z Z (wAI Z wAT) zI zG yA Z Z Z Z Z aZ ?_)))))
 intro dN dX gi
 let cr:Res:=.row (some ⟨dX,0,none⟩) 1 3 1 (hH KL.encI [w64 (x177 + aH)])
 have db:sW w U bf [cr,.blk aI 46 B6,.blk ak 43 B3,B5,B4,.blk b2 28 B0,.row aU aX 3 1 (hH KL.encI aP)] dN:=gi
 refine bnK gT fun dB fz gU=>Zu (j:=6) (enc:=KL.encI) (xs:=aP) (ys:=[w64 (x177 + aH)]) (zs:=dB) rfl rfl rfl rfl rfl Zj wHc rfl rfl rfl rfl rfl rfl db rfl rfl rfl (db.srcR (j:=0) rfl (by decide) (wAL (f:=KL.encI) (sz:=1) (fun _=>rfl) [w64 (x177 + aH)])) (fun _=>rfl) (fun _=>rfl) fz rfl ?_
 intro cp cC dO gj
 have gk:sW w U bf [cr,.blk aI 46 B6,.blk ak 43 B3,B5,B4,.blk b2 28 B0,.row cp cC 3 1 (hH KL.encI dB)] dO:=gj
 refine oA Z Z (zr (zj (zF (rR fL2 Z (oR Z (ZP (ze Z bu Z) (congrArg (jV) dl.out)) (oM Z Z (zr ?_)))))))
 cases gU
 exact zF ⟨rfl,⟨bf,cp,cC,rfl,cH,rfl,rfl,bt,cJ,cK,cL,cM,cN,cO,bJ,bw,(gk.pick [1,2,3,4,5,6] _ (by decide) rfl)⟩⟩
 rintro i7 iB ⟨dE,dC,d7,fe,eO,eP,eQ,iG,eR,eS,eT,eU,eV,eW,eX,il,gm⟩
 have d8:Hid (¬ ((↑(((↑x140.Loops.length:Int):Int) - 0).toNat:Int) < (↑x140.Loops.length:Int))):=zD (wBH)
 refine sR fL1 Z (oR Z (zZ Z fe eX) (eN (zE (cF Z d8 (ZM (zW (zW (ZB (zj (zF (rR fL2 Z (oR Z (ZP (ze Z eW Z) (congrArg (jV) gK.out)) (oM Z Z (zr ?_))))))))))))))
 cases dp
 exact zF ⟨rfl,⟨dE,dC,d7,rfl,eO,eP,eQ,eR,eS,eT,eU,eV,(dv.trans il),(gm.pick [1,2,3,4,5] _ (by decide) rfl)⟩⟩
 rintro i8 dP ⟨iu,bB,bH,ff,bL,iH,eY,eZ,e8,e9,iI,fb,dw,df⟩
 have d9:Hid (¬ ((↑(((↑x66.Legs.length:Int):Int) - 0).toNat:Int) < (↑x66.Legs.length:Int))):=zD (wBH)
 refine sR fL1 Z (oR Z (zZ Z ff fb) (eN (zE (cF Z d9 (ZM (zW (zW (ZB (zF (rR (wKo (.fx 6 (.fx 7 (.fl 8 (.fl 9 (.fx 10 .nil .stop))) .stop) .stop)) Z (oM Z bL (oM Z bL (oR Z (ZW Z Z) (oR Z (zB Z Z ZT Z zw) (oL Z (df.ldB (j:=2) Z Z Z ZN (v:=.slice aV ba.length aY) Z) (oM Z eY ?_))))))))))))))))
 have q:=df.freezeR (k:=4) (n:=aT.length) rfl (wAL (f:=KL.encI) (sz:=1) (fun _=>rfl) aT) (by decide)
 obtain ⟨aW,dx,ii,gu⟩:=q
 have gv:sW w U aW [.blk ak 43 B3,B5,B4,.blk b2 28 B0] dP:=gu
 let bl:List Value:=[.slice bB aT.length bH]
 refine zu (pv:=[(0,.slice bB aT.length bH)]) (zs:=[.slice none 0 0]) (cs:=bl) Z Z Z Z Z (wAI Z wAT) zm zM Tryz.zeroValue23 Z Z Z Z Z gv ?_
 intro dQ dY gq
 have dr:RlL aW wIU [aT] bl:=(RlL.cons (R:=wIU) (x:=aT) (vs:=bl) ⟨bB,bH,rfl,ii⟩ RlL.nil)
 let bC:Res:=.row (some ⟨dY,0,none⟩) 1 23 1 bl
 have dg:sW w U aW [bC,.blk ak 43 B3,B5,B4,.blk b2 28 B0] dQ:=gq
 refine bnK dm fun cm fA gW=>?_
 have fB:=fL.le dw
 have fC:=fB.le dx
 refine Zx (R:=wIU) (j:=2) (xs:=ba) (ys:=[aT]) (zs:=cm) rfl rfl rfl rfl rfl Tryz.underlying32 wOG rfl rfl rfl rfl rfl rfl rfl dg rfl rfl rfl fC dr (dg.srcR (j:=0) rfl (by decide) (RlL.len dr)) fA rfl ?_
 intro be bi bI dR gw ie
 have gx:sW w U aW [bC,.blk ak 43 B3,.row be bi 23 1 bI,B4,.blk b2 28 B0] dR:=gw
 refine oR Z (ZW Z Z) (oR Z (zB Z Z ZT Z zw) (zY (j:=3) (vs:=[.slice be cm.length bi]) Z Z Z Z gx Z Z Z Z zw (zA Z) Z Z Z ?_))
 intro dS gy
 have gz:sW w U aW [bC,.blk ak 43 B3,.row be bi 23 1 bI,.blk aN 130 [.slice aL p0.Rules.Classes.length aM,jV p0.Rules.Each,jV p0.Rules.Laps,jV p0.Rules.Spare,jV p0.Rules.Loop,jV p0.Rules.Unused,jV p0.Start,.slice ap p0.Teams.length aq,.slice be cm.length bi],.blk b2 28 B0] dS:=gy
 refine zr (zj (zF (rR fL2 Z (oR Z (ZP (ze Z e9 Z) (congrArg (jV) gL.out)) (oM Z Z (zr ?_))))))
 cases gW
 exact zF ⟨rfl,⟨aW,be,bi,bI,rfl,bL,eZ,e8,((dz.trans dw).trans dx),(gz.pick [2,3,4] _ (by decide) rfl),ie⟩⟩
 rintro i9 iC ⟨dF,dD,eb,ed,fg,fc,iJ,fd,dy,gA,fD⟩
 have eg:Hid (¬ ((↑(((↑p0.Teams.length:Int):Int) - 0).toNat:Int) < (↑p0.Teams.length:Int))):=zD (wBH)
 refine sR fL1 Z (oR Z (zZ Z fg fd) (eN (zE (cF Z eg (ZM (zW (zW (ZB (zF (sR fL3 Z (oM Z fc (oA Z Z (oA Z Z (eN (zQ ?_)))))))))))))))
 have fE:=dk.le b8
 have fG:=fE.le dy
 have fH:=bU.le b8
 have fJ:=fH.le dy
 cases gZ
 exact ⟨rfl,_,(res2 rfl rfl),dF,_,(gA.pick [1,0] _ (by decide) rfl),aN,aL,aM,ap,aq,dD,eb,ed,rfl,rfl,fG,fJ,fD⟩
 intro bF gX
 refine cT Z bF (sR fL3 Z (oM Z Z (oA Z Z (oA Z Z (eN (zQ (zK ?_)))))))
 cases gX
 exact ⟨rfl,_,(res2 rfl rfl),U8,_,(bS.pick [] _ (by decide) rfl),rfl,rfl⟩
theorem wDb (p0:List Int) (ah:Option Addr) (au:Nat) (w:World) (U:PHeap) (hS:St0 w U []) (aq:Sl U 1 ah au p0.length (hH KL.encI p0)) {r:(List Int)} (hm:wBY p0=some r):Gv Tryz.prog 66 [.slice ah p0.length au] w (wCi w [] U (fun U_ L_ v=>∃ (A0:Option Addr) (c0:Nat),v=.slice A0 r.length c0/\L_=[.row A0 c0 3 1 (hH KL.encI r)])):=by
 unfold wBY at hm
 refine Gv.of Tryz.func66 Z Tryz.ntmps66 Tryz.results66 Z (sR fL1 Z (oA Z Z (eN (zE (sR fL2 Z (oM Z Z (oR Z (Runs.eqNil Z Z Z zI) (eN ?_))))))))
 by_cases c1:ah.isNone=true
 replace c1:=zD c1
 have aP:p0=[]:=List.eq_nil_of_length_eq_zero (Sl.nilA (Option.isNone_iff_eq_none.1 c1.out ▸ aq))
 have aO:(some [])=some r:=by simpa [aP,app] using hm
 refine ZQ (congrArg nB c1.out) (sR fL1 Z (oA Z Z (eN (zQ (zK ?_)))))
 have aL:=hS.nilrow 3 1
 cases aO
 exact ⟨Z,_,(ZA Z),U,_,aL,none,0,Z,Z⟩
 replace c1:=zD c1
 refine zx (congrArg nB (nD.2 c1.out)) (kN (sR (.fx 0 gAl .stop) Z (OKS.buildSlice0 1 Z Z Z Z Z zI zG hS ?_)))
 intro W6 b7 aM
 have ap:sW w U U [.row (some ⟨b7,0,none⟩) 0 3 1 (hH KL.encI ([]:List Int))] W6:=aM
 refine oM Z Z (bnK hm fun x11 aI aN=>OKS.append0 (j:=0) (enc:=KL.encI) (ys:=p0) (zs:=x11) Z Z Z Z Z Zj wHc Z Z Z Z Z Z ap Z Z Z (ap.srcS aq) (fun _=>Z) aI ?_)
 intro aj am av aJ
 have aK:sW w U U [.row aj am 3 1 (hH KL.encI x11)] av:=aJ
 refine oA Z Z (eN (zQ ?_))
 have hE:=nA aN;first | subst r | cases hE
 exact ⟨Z,_,(ZA Z),U,_,aK,aj,am,Z,Z⟩
theorem wEz (p0:wCg) (aU:Nat) (aS:Option Addr) (aV:Nat) (aM:Option Addr) (aN:Nat) (aT:Option Addr) (aW:Nat) (w:World) (U:PHeap) (hS:St0 w U [.blk aU 130 [.slice aS p0.Race.Rules.Classes.length aV,jV p0.Race.Rules.Each,jV p0.Race.Rules.Laps,jV p0.Race.Rules.Spare,jV p0.Race.Rules.Loop,jV p0.Race.Rules.Unused,jV p0.Race.Start,.slice aM p0.Race.Teams.length aN,.slice aT p0.after.length aW]]) (ei:Sl U 1 aS aV p0.Race.Rules.Classes.length (hH KL.encI p0.Race.Rules.Classes)) (dG:SlR U wFN aM aN p0.Race.Teams) (dH:SlR U wIU aT aW p0.after) {r:wBn} (hm:wBj p0=some r):Gv Tryz.prog 31 [.pointer (some ⟨aU,0,none⟩)] w (wCi w [.blk aU 130 [.slice aS p0.Race.Rules.Classes.length aV,jV p0.Race.Rules.Each,jV p0.Race.Rules.Laps,jV p0.Race.Rules.Spare,jV p0.Race.Rules.Loop,jV p0.Race.Rules.Unused,jV p0.Race.Start,.slice aM p0.Race.Teams.length aN,.slice aT p0.after.length aW]] U (fun U_ L_ v=>∃ (bJ:Option Addr) (bP:Nat) (bK:Option Addr) (bQ:Nat) (bT:List Value),v=.agg #[jV r.Laps,.slice bJ r.Bibs.length bP,.slice bK r.Times.length bQ]/\L_=[.row bJ bP 3 1 (hH KL.encI r.Bibs),.row bK bQ 23 1 bT,.blk aU 130 [.slice aS p0.Race.Rules.Classes.length aV,jV p0.Race.Rules.Each,jV p0.Race.Rules.Laps,jV p0.Race.Rules.Spare,jV p0.Race.Rules.Loop,jV p0.Race.Rules.Unused,jV p0.Race.Start,.slice aM p0.Race.Teams.length aN,.slice aT p0.after.length aW]]/\RlL U_ wIU r.Times bT)):=by
 unfold wBj at hm
 refine Gv.of Tryz.func31 Z Tryz.ntmps31 Tryz.results31 Z (sR (.fx 0 .nil .stop) Z ?_)
 let B0:List Value:=[jV 0,.slice none 0 0,.slice none 0 0]
 refine zo (cs:=B0) Z Z Z Z Z Zm Z hS ?_
 intro W2 b3 dC
 refine eN (zE (Zb ZV [3,3,3,3,3,1,3,3,3,3,3,3,1,3,3,2,0] (wOJ (.fx 15 (.fx 16 .nil .stop) .stop)) (by kernel_rfl) ?_))
 have bk:=dC.drew
 generalize hw_W7:({ W2 with drawn:=W2.drawn + 1 }:World)=W7 at bk ⊢
 refine oM Z Z (oR Z (ZW Z Z) (oR Z (zB Z Z ZT Z zp) (oR Z (zB Z Z zH Z zq) (oR Z (zB Z Z zS Z zM) (oL Z (bk.ldB (j:=1) Z Z Z zf (v:=.slice aS p0.Race.Rules.Classes.length aV) Z) (oR Z (zV Z Z zI) (oM Z Z (oR Z (ZW Z Z) (oR Z (zB Z Z ZT Z zp) (oR Z (zB Z Z zH Z zq) (oR Z (zB Z Z zS Z zG) (oL Z (bk.ldB (j:=1) Z Z Z zU (v:=jV p0.Race.Rules.Laps) Z) (oR Z (Runs.mulw Z Z Z) ?_)))))))))))))
 let B1:List Value:=[jV (w64 ((↑p0.Race.Rules.Classes.length:Int) * p0.Race.Rules.Laps)),.slice none 0 0,.slice none 0 0]
 refine oR Z (ZO (pv:=[(0,jV (w64 ((↑p0.Race.Rules.Classes.length:Int) * p0.Race.Rules.Laps)))]) (z:=B0) (cs:=B1) Z (wAI Z wAT) Zm wHY Z Z) (zo (cs:=B0) Z Z Z Z Z Zm Z bk ?_)
 intro W8 b9 df
 refine zY (j:=0) (vs:=B1) Z Z Z Z df Z Z Z Z Zf (zA Z) Z Z Z ?_
 intro cz dq
 let B2:Res:=.blk aU 130 [.slice aS p0.Race.Rules.Classes.length aV,jV p0.Race.Rules.Each,jV p0.Race.Rules.Laps,jV p0.Race.Rules.Spare,jV p0.Race.Rules.Loop,jV p0.Race.Rules.Unused,jV p0.Race.Start,.slice aM p0.Race.Teams.length aN,.slice aT p0.after.length aW]
 have b8:SW w [B2] U U [.blk b9 34 B1,.blk b3 34 B0,B2] cz:=dq
 refine eN (zE (sR fL7 Z (oM Z Z (oR Z (ZW Z Z) (oR Z (zB Z Z ZT Z zp) (oR Z (zB Z Z zH Z ZD) (oL Z (b8.ldB (j:=2) Z Z Z ZX (v:=.slice aM p0.Race.Teams.length aN) Z) (oR Z (zV Z Z zg) (oM Z Z (eN (zR ?_)))))))))))
 have q:=bnd hm
 obtain ⟨⟨cr,dW⟩,dI,cj⟩:=q
 try dsimp only at cj
 have q:=wCD dI
 obtain ⟨bB,dJ⟩:=q
 replace bB:=zD bB
 refine CK.forN' (fun aJ (aK,aL) σ_ w_=>∃ (U_:PHeap) (aO:Option Addr) (aR:Nat) (aq:Option Addr) (aI:Nat) (bi:List Value),σ_ 27=jV (↑aJ:Int)/\σ_ 0=.pointer (some ⟨aU,0,none⟩)/\σ_ 2=.pointer (some ⟨b3,0,none⟩)/\σ_ 3=.pointer (some ⟨b9,0,none⟩)/\σ_ 25=.slice aM p0.Race.Teams.length aN/\σ_ 26=jV (↑p0.Race.Teams.length:Int)/\PHeap.Le U U_/\SW w [B2] U U_ [.row aO aR 3 1 (hH KL.encI aK),.row aq aI 23 1 bi,.blk b9 34 [jV (w64 ((↑p0.Race.Rules.Classes.length:Int) * p0.Race.Rules.Laps)),.slice aO aK.length aR,.slice aq aL.length aI],.blk b3 34 B0,B2] w_/\RlL U_ wIU aL bi) dJ ?_ ?_ ?_
 have dD:=b8.nilrow 3 1
 have dE:=dD.nilrow 23 1
 exact ⟨U,none,0,none,0,[],rfl,rfl,rfl,rfl,rfl,rfl,(zL _),(dE.pick [1,0,2,3,4] _ (by decide) rfl),RlL.nil⟩
 rintro aJ ⟨aK,aL⟩ ez eC dZ bA ⟨az,aO,aR,aq,aI,bi,bj,bV,cO,bb,bW,bX,bC,ci,cZ⟩ cn
 try dsimp only at cn
 have bS:Hid ((↑aJ:Int) < (↑p0.Race.Teams.length:Int)):=zD (wBh bA)
 replace bA:=zD bA
 have dK:Hid (w64 ((↑aJ:Int) + 1)=(↑(aJ + 1):Int)):=zD (by have h1:=bB.out;have h2:=bS.out;rw [wAU] <;> omega)
 refine sR fL1 Z (oR Z (zZ Z bj bX) (eN (zE (cT Z bS (kN (zE (zR (sR (wCu gAp) Z (oM Z bj (bnK cn fun x80 bZ dP=>?_))))))))))
 have da:=dG.le bC
 have q:=da.el (wAX bZ)
 obtain ⟨cK,dV,ey,de,bw,dS⟩:=q
 obtain ⟨bE,bH,bF,bI,rfl,eg,eh⟩:=dS
 replace bw:Cl az cK (dV + aJ * 3) [jV x80.Bib,.slice bE x80.Classes.length bH,.slice bF x80.Legs.length bI]:=bw
 refine oR Z (zy Z bW de bj zg zk (wAw bZ)) (oL Z (ci.ldCA (f:=0) bw Z Z Zl zk (us:=[jV x80.Bib,.slice bE x80.Classes.length bH,.slice bF x80.Legs.length bI]) Z Z) (zo (cs:=B0) Z Z Z Z Z ZK Z ci ?_))
 intro d9 ak dF
 refine oA Z Z ?_
 let B3:List Value:=[jV x80.Bib,.slice bE x80.Classes.length bH,.slice bF x80.Legs.length bI]
 refine zY (j:=0) (vs:=B3) Z Z Z Z dF Z Z Z Z zk (zA Z) Z Z Z ?_
 intro cu dg
 let B4:Res:=.blk b9 34 [jV (w64 ((↑p0.Race.Rules.Classes.length:Int) * p0.Race.Rules.Laps)),.slice aO aK.length aR,.slice aq aL.length aI]
 let B5:Res:=.row aq aI 23 1 bi
 let B6:Res:=.row aO aR 3 1 (hH KL.encI aK)
 have bz:SW w [B2] U az [.blk ak 43 B3,B6,B5,B4,.blk b3 34 B0,B2] cu:=dg
 refine eN (sR (wIS gAr) Z (oR Z (zB Z bb zh Z zM) (oL Z (bz.ldB (j:=3) Z Z Z zf (v:=.slice aO aK.length aR) Z) (oR Z (zB Z Z zP Z zG) (oL Z (bz.ldB (j:=0) Z Z Z zU (v:=jV x80.Bib) Z) (zu (pv:=[(0,jV x80.Bib)]) (zs:=[jV 0]) (cs:=[jV x80.Bib]) Z Z Z Z Z (wAI Z wAT) zI zG yA Z Z Z Z Z bz ?_))))))
 intro cw cH dh
 let B7:Res:=.row (some ⟨cH,0,none⟩) 1 3 1 (hH KL.encI [x80.Bib])
 have b5:SW w [B2] U az [B7,.blk ak 43 B3,B6,B5,B4,.blk b3 34 B0,B2] cw:=dh
 refine bnK dP fun x108 cQ dL=>Zu (j:=2) (enc:=KL.encI) (xs:=aK) (ys:=[x80.Bib]) (zs:=x108) rfl rfl rfl rfl rfl Zj wHc rfl rfl rfl rfl rfl rfl b5 rfl rfl rfl (b5.srcR (j:=0) rfl (by decide) (wAL (f:=KL.encI) (sz:=1) (fun _=>rfl) [x80.Bib])) (fun _=>rfl) (fun _=>rfl) cQ rfl ?_
 intro aX a0 cy dk
 let B8:Res:=.row aX a0 3 1 (hH KL.encI x108)
 have dl:SW w [B2] U az [B7,.blk ak 43 B3,B8,B5,B4,.blk b3 34 B0,B2] cy:=dk
 refine oR Z (zB Z bb zh Z zM) (zY (j:=4) (vs:=[.slice aX x108.length a0]) Z Z Z Z dl Z Z Z Z zM (zA Z) Z Z Z ?_)
 intro br dm
 let B9:Res:=.blk b9 34 [jV (w64 ((↑p0.Race.Rules.Classes.length:Int) * p0.Race.Rules.Laps)),.slice aX x108.length a0,.slice aq aL.length aI]
 have dp:SW w [B2] U az [B7,.blk ak 43 B3,B8,B5,B9,.blk b3 34 B0,B2] br:=dm
 refine eN (Zb ZV [3,1,3,3,3,1,3,3,1,2,2,0,3,0] (fC0_8 (.fx 9 (.fx 10 (.fx 11 (.fl 12 (.fx 13 .nil .stop)) .stop) .stop) .stop)) (by kernel_rfl) ?_)
 have be:=dp.drew
 generalize hw_W120:({ br with drawn:=br.drawn + 1 }:World)=cA at be ⊢
 refine oR Z (zB Z bb zh Z zw) (oL Z (be.ldB (j:=4) Z Z Z ZN (v:=.slice aq aL.length aI) Z) (oM Z bV (oR Z (ZW Z Z) (oR Z (zB Z Z ZT Z zw) (oL Z (be.ldB (j:=6) Z Z Z ZN (v:=.slice aT p0.after.length aW) Z) (oM Z Z (bnK dL fun x121 bY dM=>?_)))))))
 have cR:=dH.le bC
 have q:=cR.el (wAX bY)
 obtain ⟨cI,dU,eu,db,bv,dQ⟩:=q
 obtain ⟨bD,bG,rfl,cS⟩:=dQ
 replace bv:Cl az cI (dU + aJ * 1) [.slice bD x121.length bG]:=bv
 refine oR Z (zy Z Z db Z zm zM (wAw bY)) (oL Z (be.ldC (f:=0) bv (v:=.slice bD x121.length bG) Z Z zf Z) (bnK dM fun ap cU dN=>zN 0 Z Z Z Z (zJ Z Z Tryz.call66 (zC Z zO) Z) be (fun hs=>wDb x121 bD bG cA az hs cS cU) (.inr Z) ?_))
 rintro ct dX en bN cp dr ⟨bf,bh,rfl,rfl⟩
 have dt:SW w [B2] U ct [.row bf bh 3 1 (hH KL.encI ap),B7,.blk ak 43 B3,B8,B5,B9,.blk b3 34 B0,B2] bN:=dr
 have q:=dt.freezeR (k:=0) (n:=ap.length) rfl (wAL (f:=KL.encI) (sz:=1) (fun _=>rfl) ap) (by decide)
 obtain ⟨aQ,cq,dT,dv⟩:=q
 have dw:SW w [B2] U aQ [B7,.blk ak 43 B3,B8,B5,B9,.blk b3 34 B0,B2] bN:=dv
 let bg:List Value:=[.slice bf ap.length bh]
 refine zu (pv:=[(0,.slice bf ap.length bh)]) (zs:=[.slice none 0 0]) (cs:=bg) Z Z Z Z Z (wAI Z wAT) zm zM Tryz.zeroValue23 Z Z Z Z Z dw ?_
 intro cC cJ du
 have cm:RlL aQ wIU [ap] bg:=(RlL.cons (R:=wIU) (x:=ap) (vs:=bg) ⟨bf,bh,rfl,dT⟩ RlL.nil)
 let bp:Res:=.row (some ⟨cJ,0,none⟩) 1 23 1 bg
 have cb:SW w [B2] U aQ [bp,B7,.blk ak 43 B3,B8,B5,B9,.blk b3 34 B0,B2] cC:=du
 refine bnK dN fun x158 cV dO=>?_
 have cW:=cZ.le cp
 have cX:=cW.le cq
 refine Zx (R:=wIU) (j:=4) (xs:=aL) (ys:=[ap]) (zs:=x158) rfl rfl rfl rfl rfl Tryz.underlying32 wOG rfl rfl rfl rfl rfl rfl rfl cb rfl rfl rfl cX cm (cb.srcR (j:=0) rfl (by decide) (RlL.len cm)) cV rfl ?_
 intro aY ba bu cD dx dR
 have dy:SW w [B2] U aQ [bp,B7,.blk ak 43 B3,B8,.row aY ba 23 1 bu,B9,.blk b3 34 B0,B2] cD:=dx
 refine oR Z (zB Z bb zh Z zw) (zY (j:=5) (vs:=[.slice aY x158.length ba]) Z Z Z Z dy Z Z Z Z zw (zA Z) Z Z Z ?_)
 intro cE dz
 have dA:SW w [B2] U aQ [bp,B7,.blk ak 43 B3,B8,.row aY ba 23 1 bu,.blk b9 34 [jV (w64 ((↑p0.Race.Rules.Classes.length:Int) * p0.Race.Rules.Laps)),.slice aX x108.length a0,.slice aY x158.length ba],.blk b3 34 B0,B2] cE:=dz
 refine zr (zj (zF (rR fL2 Z (oR Z (ZP (ze Z bj Z) (congrArg (jV) dK.out)) (oM Z Z (zr ?_))))))
 cases dO
 exact zF ⟨rfl,⟨aQ,aX,a0,aY,ba,bu,rfl,bV,cO,bb,bW,bX,((bC.trans cp).trans cq),(dA.pick [3,4,5,6,7] _ (by decide) rfl),dR⟩⟩
 rintro eA dY ⟨bM,bl,bs,bm,bt,bR,cP,eb,bU,cM,ed,cN,ej,cd,cY⟩
 have cL:Hid (¬ ((↑(((↑p0.Race.Teams.length:Int):Int) - 0).toNat:Int) < (↑p0.Race.Teams.length:Int))):=zD (wBH)
 refine sR fL1 Z (oR Z (zZ Z cP cN) (eN (zE (cF Z cL (ZM (zW (zW (ZB (zF (sR gAf Z ?_))))))))))
 let aP:List Value:=[jV (w64 ((↑p0.Race.Rules.Classes.length:Int) * p0.Race.Rules.Laps)),.slice bl cr.length bs,.slice bm dW.length bt]
 refine oL Z (cd.ldBA (j:=2) Z Z cM Tryz.isAgg34 Zf (vs:=aP) Z Z) (zY (j:=3) (vs:=aP) Z Z Z Z cd Z bU Z Z Zf (zA Z) Z Z Z ?_)
 intro cG dB
 have cg:SW w [B2] U bM [.row bl bs 3 1 (hH KL.encI cr),.row bm bt 23 1 bR,.blk b9 34 aP,.blk b3 34 aP,B2] cG:=dB
 refine eN (zQ ?_)
 cases cj
 exact ⟨rfl,_,(wDv (v:=.agg aP.toArray) ⟨⟨_,bU,(wDU Tryz.isAgg34 Zf (cg.blkAt (k:=3) rfl) (vs:=aP) rfl rfl)⟩,trivial⟩),bM,_,(cg.pick [0,1,4] _ (by decide) rfl),bl,bs,bm,bt,bR,rfl,rfl,cY⟩
end Go.Proofs.YtnbcoenjobdplaaGreat
