import Derived.Test.YtglpalgiipahjaaGreatS9
set_option linter.all false
open List renaming flatMap->nA,getElem_cons_succ->nG,getElem_cons_zero->nH,set->nJ,getElem_toArray->nK,length_set->nL,length_append->nN,length_cons->nP,length_nil->nQ
open Option.some renaming inj->nB
open Go.Value renaming bool->nD
open Bool renaming eq_false_iff->nE
open Prod.mk renaming injEq->nI
open Int renaming toNat_natCast->nM
open Nat renaming blt->nO,le_of_ble_eq_true->nR
open Eq renaming trans->nS
namespace Go.Proofs.YtglpalgiipahjaaGreat
open Go.KL
def gBj:Sch:=.fl 1 (.fl 2 .nil)
def gBk:Sch:=.fl 2 (.fl 3 .nil)
def gBl:Sch:=.fl 4 (.fl 5 .nil)
def gBm:Sch:=.fl 7 (.fl 8 .nil)
def gBn:Sch:=.fl 9 (.fl 10 .nil)
def gBo:Sch:=.fx 3 (.fl 4 .nil) .stop
def gBp:Sch:=.fx 0 (.fl 1 .nil) .stop
def gBq:Sch:=.fx 2 (.fx 3 .nil .stop) .stop
def gBr:Sch:=.fx 1 (.fx 2 .nil .stop) .stop
def gBs:Sch:=.fx 4 (.fl 5 .nil) .stop
def gBt:Sch:=.fl 0 (.fx 1 .nil .stop)
def gBu:Sch:=.fx 0 (.fx 1 .nil .stop) .stop
def gBv:Sch:=.fl 16 (.fx 17 .nil .stop)
def gBw:Sch:=.fl 0 (.fx 1 (.fl 2 .nil) .stop)
def gBx:Sch:=.fx 5 (.fx 6 (.fl 7 .nil) .stop) .stop
def gBy:Sch:=.fl 0 (.fl 1 (.fx 2 .nil .stop))
def gBz:Sch:=.fx 15 gBv .stop
def gCa:Sch:=.fl 0 (.fl 1 (.fx 2 (.fl 3 .nil) .stop))
def gCb:Sch:=.fl 0 (.fl 1 gBq)
def gCc:Sch:=.fl 0 (.fx 1 gBk .stop)
def gCd:Sch:=.fx 13 gBz .stop
def gCe:Sch:=.fl 0 (.fl 1 (.fx 2 gBo .stop))
def gCf:Sch:=.fl 0 (.fl 1 (.fx 2 (.fl 3 gBs) .stop))
def gCg:Sch:=.fl 14 (.fx 12 gCd .stop)
def gCh:Sch:=.fx 10 (.fl 14 gCd) .stop
def gCi:Sch:=.fx 8 (.fl 14 gCd) .stop
def gCj:Sch:=.fx 7 gCi .stop
def gCk:Sch:=.fx 8 gCg (.fx 12 gCi .stop)
def gCl:Sch:=.fx 8 gCh (.fx 10 gCi .stop)
def gCm:Sch:=.fx 7 gCk (.fx 12 gCj .stop)
def gCn:Sch:=.fx 7 gCl (.fx 10 gCj .stop)
def gCo:Sch:=.fx 5 (.fl 6 gCj) .stop
set_option maxHeartbeats 4000000
theorem Z {α:Type} {a:α}:a=a:=rfl
section
variable {r:Option Nat} {N:Nat} {P:Program} {l:List Oper} {Q:wDC} {D:List Deferred} {ks:List Nat} {σ:Env} {w:World} {i d j e:Nat} {s:Sch} {o:Oper} {b:Bool} {x:Operand} {v:Value} {p:Prop} {inst:Decidable p} {K:List Deferred->Env->World->Prop} {c1 c2:Code}
abbrev jV (n:Int):Value:=.int .i64 n
abbrev SW (w:World) (X:List Res) (U U':PHeap) (L:List Res) (w':World):Prop:=St ⟨w,X,U⟩ U' L w'
abbrev sW (w:World) (U U':PHeap) (L:List Res) (w':World):Prop:=St ⟨w,[],U⟩ U' L w'
abbrev St0 (w:World) (U:PHeap) (L:List Res):Prop:=St ⟨w,L,U⟩ U L w
theorem ifc {α:Type} {G p:Prop} {inst:Decidable p} {a b r:α} (h:@ite α p inst a b=r) (h1:Hid p->a=r->G) (h2:Hid (¬ p)->b=r->G):G:=by
 by_cases c:p
 · rw [if_pos c] at h;exact h1 ⟨c⟩ h
 · rw [if_neg c] at h;exact h2 ⟨c⟩ h
theorem bnK {α β:Type} {G:Prop} {o:Option α} {f:α->Option β} {r:β} (h:o.bind f=some r) (k:∀ x,o=some x->f x=some r->G):G:=by
 obtain ⟨x,h1,h2⟩:=bnd h
 exact k x h1 h2
theorem oR (h:(l[i]?,o.dst,nO d N,wanted l σ o)=(some o,some d,true,true)) (hr:∀ {w'},Runs P σ w' o v w') (k:OKS N P l Q D ks s (upd σ d v) w):OKS N P l Q D ks (.fl i s) σ w:=by
 simp only [nI] at h;exact OKS.r h.1 h.2.1 h.2.2.1 h.2.2.2 (fun _=>hr) k
theorem oL (h:(l[i]?,o.dst,nO d N,wanted l σ o,wSD (kOf ks i))=(some o,some d,true,true,false)) (hr:RunsK P σ w o v) (k:OKS N P l Q D ks s (upd σ d v) w):OKS N P l Q D ks (.fl i s) σ w:=by
 simp only [nI] at h;exact OKS.m h.1 h.2.1 h.2.2.1 h.2.2.2.1 hr h.2.2.2.2 k
theorem oM (h:(l[i]?,o.dst,nO d N,wanted l σ o,o.op)=(some o,some d,true,true,.move x)) (hx:ev σ x=v) (k:OKS N P l Q D ks s (upd σ d v) w):OKS N P l Q D ks (.fl i s) σ w:=by
 simp only [nI] at h;exact OKS.rm h.1 h.2.1 h.2.2.1 h.2.2.2.1 h.2.2.2.2 hx k
theorem oA (h:(l[i]?,o.dst,nO d N,wanted l σ o,o.op)=(some o,some d,true,true,.assign x)) (hx:ev σ x=v) (k:OKS N P l Q D ks s (upd σ d v) w):OKS N P l Q D ks (.fl i s) σ w:=by
 simp only [nI] at h;exact OKS.ra h.1 h.2.1 h.2.2.1 h.2.2.2.1 h.2.2.2.2 hx k
theorem oF (h:(l[i]?,o.dst,nO d N,o.guard,(l[j]?).bind (·.dst),σ e,false == b)=(some o,some d,true,some (j,b),some e,.bool (decide p),false)) (c:Hid (¬ p)) (k:OKS N P l Q D ks s (upd σ d undef) w):OKS N P l Q D ks (.fl i s) σ w:=by
 simp only [nI] at h;exact OKS.p h.1 h.2.1 h.2.2.1 (wGY h.2.2.2.1 h.2.2.2.2.1 (h.2.2.2.2.2.1.trans (wSC c.out)) h.2.2.2.2.2.2) k
theorem oT (h:(l[i]?,o.dst,nO d N,o.guard,(l[j]?).bind (·.dst),σ e,true == b)=(some o,some d,true,some (j,b),some e,.bool (decide p),false)) (c:Hid p) (k:OKS N P l Q D ks s (upd σ d undef) w):OKS N P l Q D ks (.fl i s) σ w:=by
 simp only [nI] at h;exact OKS.p h.1 h.2.1 h.2.2.1 (wGY h.2.2.2.1 h.2.2.2.2.1 (h.2.2.2.2.2.1.trans (wSB c.out)) h.2.2.2.2.2.2) k
theorem oN {b2:Bool} (h:(l[i]?,o.dst,nO d N,o.guard,(l[j]?).bind (·.dst),σ e,b2 == b)=(some o,some d,true,some (j,b),some e,.bool b2,false)) (k:OKS N P l Q D ks s (upd σ d undef) w):OKS N P l Q D ks (.fl i s) σ w:=by
 simp only [nI] at h;exact OKS.p h.1 h.2.1 h.2.2.1 (wGY h.2.2.2.1 h.2.2.2.2.1 h.2.2.2.2.2.1 h.2.2.2.2.2.2) k
theorem nC {a b:Bool} (h:a=b):nD (!a)=nD (!b):=h ▸ rfl
theorem nF {a:Bool} (h:¬ a=true):nD (!a)=nD (!false):=nC (nE.2 h)
theorem wT (h:(o.guard,(l[j]?).bind (·.dst),σ e)=(some (j,true),some e,.bool (decide p))) (c:Hid p):wanted l σ o=true:=by
 simp only [nI] at h;exact wHr h.1 h.2.1 (h.2.2.trans (wSB c.out))
theorem wF (h:(o.guard,(l[j]?).bind (·.dst),σ e)=(some (j,false),some e,.bool (decide p))) (c:Hid (¬ p)):wanted l σ o=true:=by
 simp only [nI] at h;exact wHr h.1 h.2.1 (h.2.2.trans (wSC c.out))
theorem rU (h:(l[i]?,o.dst,nO d N)=(some o,some d,true)) (hw:wanted l σ o=true) (hr:∀ {w'},Runs P σ w' o v w') (k:OKS N P l Q D ks s (upd σ d v) w):OKS N P l Q D ks (.fl i s) σ w:=by
 simp only [nI] at h;exact OKS.r h.1 h.2.1 h.2.2 hw (fun _=>hr) k
theorem sR {id:Nat} (s:Sch) (hs:inOrder 0 s l.length=true) (h:OKS N P l (wEn (fun D σ w=>CK r N P c2 Q D σ w) Q) D [] s σ w):CK r N P (.seq (.region id l.toArray false) c2) Q D σ w:=CK.seq (CK.reg s hs h)
theorem rR {id:Nat} (s:Sch) (hs:inOrder 0 s l.length=true) (h:OKS N P l Q D [] s σ w):CK r N P (.region id l.toArray false) Q D σ w:=CK.reg s hs h
theorem eN (h:K D σ w):OKS N P l (wEn K Q) D ks .nil σ w:=OKS.e (wHo h)
theorem cT (hz:ev σ x=.bool (decide p)) (c:Hid p) (h:CK r N P c1 Q D σ w):CK r N P (.cond x c1 c2) Q D σ w:=CK.condT (hz.trans (wSB c.out)) h
theorem cF (hz:ev σ x=.bool (decide p)) (c:Hid (¬ p)) (h:CK r N P c2 Q D σ w):CK r N P (.cond x c1 c2) Q D σ w:=CK.condF (hz.trans (wSC c.out)) h
theorem kN (h:K D σ w):CK r N P .skip (wEn K Q) D σ w:=CK.skip (wHo h)
end
def fL1:Sch:=.fl 0 .nil
def fL2:Sch:=.fl 0 (.fl 1 .nil)
def fL3:Sch:=.fl 0 gBj
def fL4:Sch:=.fl 0 (.fl 1 gBk)
def fL5:Sch:=.fl 0 (.fl 1 (.fl 2 (.fl 3 (.fl 4 .nil))))
def fL6:Sch:=.fl 0 (.fl 1 (.fl 2 (.fl 3 gBl)))
def fL7:Sch:=.fl 0 (.fl 1 (.fl 2 (.fl 3 (.fl 4 (.fl 5 (.fl 6 .nil))))))
def fL8:Sch:=.fl 0 (.fl 1 (.fl 2 (.fl 3 (.fl 4 (.fl 5 (.fl 6 (.fl 7 .nil)))))))
def fL9:Sch:=.fl 0 (.fl 1 (.fl 2 (.fl 3 (.fl 4 (.fl 5 (.fl 6 gBm))))))
def fL10:Sch:=.fl 0 (.fl 1 (.fl 2 (.fl 3 (.fl 4 (.fl 5 (.fl 6 (.fl 7 (.fl 8 (.fl 9 .nil)))))))))
def fL11:Sch:=.fl 0 (.fl 1 (.fl 2 (.fl 3 (.fl 4 (.fl 5 (.fl 6 (.fl 7 (.fl 8 gBn))))))))
def fL12:Sch:=.fl 0 (.fl 1 (.fl 2 (.fl 3 (.fl 4 (.fl 5 (.fl 6 (.fl 7 (.fl 8 (.fl 9 (.fl 10 (.fl 11 .nil)))))))))))
def fL22:Sch:=.fl 0 (.fl 1 (.fl 2 (.fl 3 (.fl 4 (.fl 5 (.fl 6 (.fl 7 (.fl 8 (.fl 9 (.fl 10 (.fl 11 (.fl 12 (.fl 13 (.fl 14 (.fl 15 (.fl 16 (.fl 17 (.fl 18 (.fl 19 (.fl 20 (.fl 21 .nil)))))))))))))))))))))
def fL24:Sch:=.fl 0 (.fl 1 (.fl 2 (.fl 3 (.fl 4 (.fl 5 (.fl 6 (.fl 7 (.fl 8 (.fl 9 (.fl 10 (.fl 11 (.fl 12 (.fl 13 (.fl 14 (.fl 15 (.fl 16 (.fl 17 (.fl 18 (.fl 19 (.fl 20 (.fl 21 (.fl 22 (.fl 23 .nil)))))))))))))))))))))))
def fL30:Sch:=.fl 0 (.fl 1 (.fl 2 (.fl 3 (.fl 4 (.fl 5 (.fl 6 (.fl 7 (.fl 8 (.fl 9 (.fl 10 (.fl 11 (.fl 12 (.fl 13 (.fl 14 (.fl 15 (.fl 16 (.fl 17 (.fl 18 (.fl 19 (.fl 20 (.fl 21 (.fl 22 (.fl 23 (.fl 24 (.fl 25 (.fl 26 (.fl 27 (.fl 28 (.fl 29 .nil)))))))))))))))))))))))))))))
def fL53:Sch:=.fl 0 (.fl 1 (.fl 2 (.fl 3 (.fl 4 (.fl 5 (.fl 6 (.fl 7 (.fl 8 (.fl 9 (.fl 10 (.fl 11 (.fl 12 (.fl 13 (.fl 14 (.fl 15 (.fl 16 (.fl 17 (.fl 18 (.fl 19 (.fl 20 (.fl 21 (.fl 22 (.fl 23 (.fl 24 (.fl 25 (.fl 26 (.fl 27 (.fl 28 (.fl 29 (.fl 30 (.fl 31 (.fl 32 (.fl 33 (.fl 34 (.fl 35 (.fl 36 (.fl 37 (.fl 38 (.fl 39 (.fl 40 (.fl 41 (.fl 42 (.fl 43 (.fl 44 (.fl 45 (.fl 46 (.fl 47 (.fl 48 (.fl 49 (.fl 50 (.fl 51 (.fl 52 .nil))))))))))))))))))))))))))))))))))))))))))))))))))))
def wMI (s:Sch):Sch:=.fl 0 (.fl 1 (.fl 2 (s)))
def wHL (s:Sch):Sch:=.fl 0 (.fl 1 (.fl 2 (.fl 3 (s))))
def wJa (s:Sch):Sch:=.fl 0 (.fl 1 (.fl 2 (.fl 3 (.fl 4 (s)))))
def wOn (s:Sch):Sch:=.fl 0 (.fl 1 (.fl 2 (.fl 3 (.fl 4 (.fl 5 (s))))))
def wTX (s:Sch):Sch:=.fl 0 (.fl 1 (.fl 2 (.fl 3 (.fl 4 (.fl 5 (.fl 6 (s)))))))
def fC0_8 (s:Sch):Sch:=.fl 0 (.fl 1 (.fl 2 (.fl 3 (.fl 4 (.fl 5 (.fl 6 (.fl 7 (.fl 8 (s)))))))))
def wTY (s:Sch):Sch:=.fl 0 (.fl 1 (.fl 2 (.fl 3 (.fl 4 (.fl 5 (.fl 6 (.fl 7 (.fl 8 (.fl 9 (s))))))))))
def wQV (s:Sch):Sch:=.fl 0 (.fl 1 (.fl 2 (.fl 3 (.fl 4 (.fl 5 (.fl 6 (.fl 7 (.fl 8 (.fl 9 (.fl 10 (.fl 11 (.fl 12 (s)))))))))))))
def wTZ (s:Sch):Sch:=.fl 0 (.fl 1 (.fl 2 (.fl 3 (.fl 4 (.fl 5 (.fl 6 (.fl 7 (.fl 8 (.fl 9 (.fl 10 (.fl 11 (.fl 12 (.fl 13 (.fl 14 (s)))))))))))))))
def wOo (s:Sch):Sch:=.fl 0 (.fl 1 (.fl 2 (.fl 3 (.fl 4 (.fl 5 (.fl 6 (.fl 7 (.fl 8 (.fl 9 (.fl 10 (.fl 11 (.fl 12 (.fl 13 (.fl 14 (.fl 15 (.fl 16 (s)))))))))))))))))
def wTa (s:Sch):Sch:=.fl 0 (.fl 1 (.fl 2 (.fl 3 (.fl 4 (.fl 5 (.fl 6 (.fl 7 (.fl 8 (.fl 9 (.fl 10 (.fl 11 (.fl 12 (.fl 13 (.fl 14 (.fl 15 (.fl 16 (.fl 17 (.fl 18 (.fl 19 (.fl 20 (.fl 21 (.fl 22 (.fl 23 (.fl 24 (.fl 25 (.fl 26 (.fl 27 (.fl 28 (.fl 29 (.fl 30 (.fl 31 (s))))))))))))))))))))))))))))))))
def fC1_3 (s:Sch):Sch:=.fl 1 (.fl 2 (.fl 3 (s)))
def wIe (s:Sch):Sch:=.fl 2 (.fl 3 (.fl 4 (.fl 5 (.fl 6 (s)))))
def wTb (s:Sch):Sch:=.fl 2 (.fl 3 (.fl 4 (.fl 5 (.fl 6 (.fl 7 (.fl 8 (s)))))))
def fC3_6 (s:Sch):Sch:=.fl 3 (.fl 4 (.fl 5 (.fl 6 (s))))
def wTc (s:Sch):Sch:=.fl 3 (.fl 4 (.fl 5 (.fl 6 (.fl 7 (.fl 8 (.fl 9 (.fl 10 (.fl 11 (.fl 12 (.fl 13 (.fl 14 (.fl 15 (.fl 16 (.fl 17 (.fl 18 (.fl 19 (.fl 20 (.fl 21 (.fl 22 (s))))))))))))))))))))
def fC4_6 (s:Sch):Sch:=.fl 4 (.fl 5 (.fl 6 (s)))
def fC5_7 (s:Sch):Sch:=.fl 5 (.fl 6 (.fl 7 (s)))
def fC5_8 (s:Sch):Sch:=.fl 5 (.fl 6 (.fl 7 (.fl 8 (s))))
def fC6_9 (s:Sch):Sch:=.fl 6 (.fl 7 (.fl 8 (.fl 9 (s))))
def wTd (s:Sch):Sch:=.fl 8 (.fl 9 (.fl 10 (s)))
def wTe (s:Sch):Sch:=.fl 9 (.fl 10 (.fl 11 (.fl 12 (.fl 13 (.fl 14 (s))))))
def wRq (s:Sch):Sch:=.fl 18 (.fl 19 (.fl 20 (.fl 21 (s))))
def wRr (s:Sch):Sch:=.fl 18 (.fl 19 (.fl 20 (.fl 21 (.fl 22 (.fl 23 (.fl 24 (s)))))))
def wRs (s:Sch):Sch:=.fl 24 (.fl 25 (.fl 26 (s)))
def wRt (s:Sch):Sch:=.fl 33 (.fl 34 (.fl 35 (s)))
theorem zA:type_of% @Tryz.runUnderlying22:=@Tryz.runUnderlying22
theorem zB:type_of% @Tryz.sizeOf3:=@Tryz.sizeOf3
theorem zC:type_of% @wMN:=@wMN
theorem zD:type_of% @Hid.mk:=@Hid.mk
theorem zF:type_of% @CK.seq:=@CK.seq
theorem zG:type_of% @PHeap.Le.refl:=@PHeap.Le.refl
theorem zH:type_of% @wHo:=@wHo
theorem zI:type_of% @nR:=@nR
theorem zJ:type_of% @Tryz.isAgg3:=@Tryz.isAgg3
theorem zK:type_of% @Enters.mk:=@Enters.mk
theorem zL:type_of% @OKS.callH:=@OKS.callH
theorem zM:type_of% @Tryz.runUnderlying66:=@Tryz.runUnderlying66
theorem zN:type_of% @Tryz.sizeOf22:=@Tryz.sizeOf22
theorem zO:type_of% @Tryz.runUnderlying46:=@Tryz.runUnderlying46
theorem zP:type_of% @wPs:=@wPs
theorem zQ:type_of% @Runs.lss:=@Runs.lss
theorem zR:type_of% @OKS.rm:=@OKS.rm
theorem zS:type_of% @CK.block:=@CK.block
theorem zU:type_of% @OKS.buildSlice:=@OKS.buildSlice
theorem zV:type_of% @Runs.addw:=@Runs.addw
theorem zW:type_of% @CK.ret:=@CK.ret
theorem zX:type_of% @Runs.fa:=@Runs.fa
theorem zY:type_of% @OKS.r:=@OKS.r
theorem zZ:type_of% @wKf:=@wKf
theorem zd:type_of% @Tryz.zeroValue66:=@Tryz.zeroValue66
theorem ze:type_of% @wML:=@wML
theorem zf:type_of% @OKS.p:=@OKS.p
theorem zg:type_of% @Runs.pickT:=@Runs.pickT
theorem zh:type_of% @Runs.pickF:=@Runs.pickF
theorem zj:type_of% @OKS.both:=@OKS.both
theorem zk:type_of% @wMM:=@wMM
theorem zm:type_of% @wHr:=@wHr
theorem zn:type_of% @Tryz.isAgg22:=@Tryz.isAgg22
theorem zo:type_of% @Runs.len:=@Runs.len
theorem zq:type_of% @Tryz.isAgg46:=@Tryz.isAgg46
theorem zr:type_of% @OKS.cutD:=@OKS.cutD
theorem zt:type_of% @Tryz.zeroValue3:=@Tryz.zeroValue3
theorem zu:type_of% @Tryz.underlying22:=@Tryz.underlying22
theorem zw:type_of% @OKS.alloc:=@OKS.alloc
theorem zx:type_of% @OKS.e:=@OKS.e
theorem zy:type_of% @wGY:=@wGY
theorem zz:type_of% @Runs.to:=@Runs.to
theorem ZA:type_of% @Tryz.runUnderlying138:=@Tryz.runUnderlying138
theorem ZB:type_of% @Tryz.sizeOf66:=@Tryz.sizeOf66
theorem ZC:type_of% @OKS.m:=@OKS.m
theorem ZD:type_of% @Runs.iaN:=@Runs.iaN
theorem ZE:type_of% @Tryz.runUnderlying204:=@Tryz.runUnderlying204
theorem ZF:type_of% @res1:=@res1
theorem ZG:type_of% @CK.condF:=@CK.condF
theorem ZH:type_of% @OKS.mx2:=@OKS.mx2
theorem ZI:type_of% @wHp:=@wHp
theorem ZJ:type_of% @wKg:=@wKg
theorem ZK:type_of% @CK.condT:=@CK.condT
theorem ZL:type_of% @Tryz.sizeOf339:=@Tryz.sizeOf339
theorem ZM:type_of% @CK.exit:=@CK.exit
theorem ZN:type_of% @Tryz.runUnderlying252:=@Tryz.runUnderlying252
theorem ZO:type_of% @OKS.append:=@OKS.append
theorem ZP:type_of% @Tryz.zeroValue22:=@Tryz.zeroValue22
theorem ZQ:type_of% @Runs.nilp:=@Runs.nilp
theorem ZR:type_of% @OKS.st:=@OKS.st
theorem ZS:type_of% @Runs.iaI:=@Runs.iaI
theorem ZT:type_of% @Tryz.runUnderlying192:=@Tryz.runUnderlying192
theorem ZU:type_of% @wSC:=@wSC
theorem ZV:type_of% @CK.skip:=@CK.skip
theorem ZW:type_of% @Tryz.sizeOf141:=@Tryz.sizeOf141
theorem ZX:type_of% @Tryz.sizeOf46:=@Tryz.sizeOf46
theorem ZY:type_of% @Runs.ext:=@Runs.ext
theorem Za:type_of% @Tryz.mixed:=@Tryz.mixed
theorem Zb:type_of% @OKS.ra:=@OKS.ra
theorem Zc:type_of% @Tryz.runUnderlying141:=@Tryz.runUnderlying141
theorem Zd:type_of% @Runs.build:=@Runs.build
theorem Ze:type_of% @CK.anyOrd:=@CK.anyOrd
theorem Zf:type_of% @Runs.notT:=@Runs.notT
theorem Zg:type_of% @Tryz.isAgg138:=@Tryz.isAgg138
theorem Zh:type_of% @Tryz.isAgg66:=@Tryz.isAgg66
theorem Zi:type_of% @Tryz.runUnderlying77:=@Tryz.runUnderlying77
theorem Zj:type_of% @wSB:=@wSB
theorem Zk:type_of% @OKS.px:=@OKS.px
theorem Zl:type_of% @OKS.box:=@OKS.box
theorem Zm:type_of% @Tryz.zeroValue339:=@Tryz.zeroValue339
theorem Zn:type_of% @Runs.subw:=@Runs.subw
theorem Zo:type_of% @Tryz.isAgg339:=@Tryz.isAgg339
theorem Zp:type_of% @Runs.neq:=@Runs.neq
theorem Zq:type_of% @Tryz.runUnderlying142:=@Tryz.runUnderlying142
theorem Zr:type_of% @Tryz.call64:=@Tryz.call64
theorem Zs:type_of% @Tryz.call76:=@Tryz.call76
theorem Zt:type_of% @Tryz.runUnderlying36:=@Tryz.runUnderlying36
theorem Zu:type_of% @OKS.makeSlice:=@OKS.makeSlice
theorem Zv:type_of% @Tryz.sizeOf252:=@Tryz.sizeOf252
theorem Zw:type_of% @Tryz.runUnderlying190:=@Tryz.runUnderlying190
theorem Zx:type_of% @Tryz.runUnderlying340:=@Tryz.runUnderlying340
theorem Zy:type_of% @Tryz.isAgg200:=@Tryz.isAgg200
theorem Zz:type_of% @Tryz.zeroValue141:=@Tryz.zeroValue141
theorem yA:type_of% @OKS.callHT:=@OKS.callHT
end Go.Proofs.YtglpalgiipahjaaGreat
namespace Go.Proofs.YtglpalgiipahjaaGreat
open Go.KL
set_option maxHeartbeats 4000000
theorem wES (p0:List Int) (pA0:Option Addr) (pc0:Nat) (w:World) (U:PHeap) (hS:St0 w U []) (ha0:Sl U 1 pA0 pc0 p0.length (nA KL.encB8 p0)) {r:wAC} (hm:wCL p0=some r):Gv Tryz.prog 24 [.slice pA0 p0.length pc0] w (wCO w [] U (fun U_ L_ v=>∃ (b0:Nat) (A0p0:Option Addr) (c0p0:Nat),v=.pointer (some ⟨b0,0,none⟩)/\L_=[.blk b0 192 [.slice A0p0 r.bytes.length c0p0,jV r.next,.int .u32 r.state]]/\Sl U_ 1 A0p0 c0p0 r.bytes.length (nA KL.encB8 r.bytes))):=by
 unfold wCL at hm
 refine Gv.of Tryz.func24 Z Tryz.ntmps24 Tryz.results24 Z (sR fL1 Z (oA Z Z (eN (sR gCa Z (oM Z Z ?_)))))
 let B0:List Value:=[.slice pA0 p0.length pc0,jV 0,.int .u32 17]
 refine zY rfl rfl rfl rfl (fun _=>Zd (pv:=[(0,.slice pA0 p0.length pc0),(2,.int .u32 17)]) (z:=[.slice none 0 0,jV 0,.int .u32 0]) (cs:=B0) rfl (wAH rfl (wAH rfl wAQ)) Tryz.zeroValue192 wNx rfl rfl) (Zl (cs:=B0) rfl rfl rfl rfl rfl rfl (by rfl) hS ?_)
 intro W1 b2 hS3
 refine oA Z Z (eN (zW ?_))
 cases hm
 exact ⟨Z,_,(ZF Z),U,_,hS3,b2,pA0,pc0,Z,Z,ha0⟩
theorem wAn (p0:wAC) (pb0:Nat) (pA0_0:Option Addr) (pc0_0:Nat) (p1:Int) (w:World) (U:PHeap) (hS:St0 w U [.blk pb0 192 [.slice pA0_0 p0.bytes.length pc0_0,jV p0.next,.int .u32 p0.state]]) (ha0:Sl U 1 pA0_0 pc0_0 p0.bytes.length (nA KL.encB8 p0.bytes)) {r:Int × wAC} (hm:wAL p0 p1=some r):Gv Tryz.prog 34 [.pointer (some ⟨pb0,0,none⟩),jV p1] w (wCO w [.blk pb0 192 [.slice pA0_0 p0.bytes.length pc0_0,jV p0.next,.int .u32 p0.state]] U (fun U_ L_ v=>∃ (Ao00:Option Addr) (co00:Nat),v=jV r.1/\L_=[.blk pb0 192 [.slice Ao00 r.2.bytes.length co00,jV r.2.next,.int .u32 r.2.state]]/\Sl U_ 1 Ao00 co00 r.2.bytes.length (nA KL.encB8 r.2.bytes))):=by
 unfold wAL at hm
 refine Gv.of Tryz.func34 Z Tryz.ntmps34 Tryz.results34 Z (sR fL1 Z (oA Z Z (eN (zF (sR fL10 Z (oM Z Z (oR Z (Runs.leq Z Z Z) (oM Z Z ?_))))))))
 by_cases c2:p1 <= 1
 ·have hm3:=hm;rw [if_pos c2] at hm3;replace c2:=zD c2
  refine oT Z c2 (oT Z c2 (oT Z c2 (oT Z c2 (oT Z c2 (oT Z c2 (oR Z (zg Z (Zj c2.out) Z) (eN (ZK Z (sR fL1 Z (oA Z Z (eN (zW (zk ?_)))))))))))))
  cases hm3
  exact ⟨Z,_,(ZF Z),U,_,hS,pA0_0,pc0_0,Z,Z,ha0⟩
 ·have hm4:=hm;rw [if_neg c2] at hm4;replace c2:=zD c2
  refine zR Z Z Z (wF Z c2) Z Z (rU Z (wF Z c2) (ZQ Z Z) (rU Z (wF Z c2) (zX Z Z ZT Z Tryz.sizeOf61) (ZC Z Z Z (wF Z c2) (hS.ldB (j:=0) Z Z Z Tryz.isAgg61 (v:=.slice pA0_0 p0.bytes.length pc0_0) Z) Z (rU Z (wF Z c2) (zo Z Z Tryz.runUnderlying61) (rU Z (wF Z c2) (Runs.eql Z Z Z) (oR Z (zh Z (ZU c2.out) Z) (eN (ifc hm4 ?_ ?_))))))))
  ·intro c5 hm6
   refine cT Z c5 (sR fL1 Z (oA Z Z (eN (zW (zk ?_)))))
   cases hm6
   exact ⟨Z,_,(ZF Z),U,_,hS,pA0_0,pc0_0,Z,Z,ha0⟩
  ·intro c5 hm7
   refine cF Z c5 (kN (zF (Ze Za [3,3,3,1,3,3,3,1,3,3,3,1,3,3,3,1,3,3,3,3,1,3,3,3,1,3,3,3,3,3] fL30 (by kernel_rfl) ?_)))
   have hS8:=hS.drew
   generalize hw_W9:({ w with drawn:=w.drawn + 1 }:World)=W9 at hS8 ⊢
   refine oM Z Z (oR Z (ZQ Z Z) (oR Z (zX Z Z ZT Z Tryz.sizeOf61) (oL Z (hS8.ldB (j:=0) Z Z Z Tryz.isAgg61 (v:=.slice pA0_0 p0.bytes.length pc0_0) Z) (oM Z Z (oR Z (ZQ Z Z) (oR Z (zX Z Z ZT Z zB) (oL Z (hS8.ldB (j:=0) Z Z Z zJ (v:=jV p0.next) Z) (oM Z Z (oR Z (ZQ Z Z) (oR Z (zX Z Z ZT Z Tryz.sizeOf61) (oL Z (hS8.ldB (j:=0) Z Z Z Tryz.isAgg61 (v:=.slice pA0_0 p0.bytes.length pc0_0) Z) (oR Z (zo Z Z Tryz.runUnderlying61) (bnK hm7 fun x10 h11 hm12=>oR Z (Runs.rem Z Z Z h11) (bnK hm12 fun x13 h14 hm15=>?_))))))))))))))
   have q:=ha0.el (fun _=>rfl) (wAZ h14)
   obtain ⟨b16,off17,hA18,hC19⟩:=q
   refine oR Z (ZS Z Z hA18 Z Tryz.runUnderlying61 Tryz.sizeOf5 (wCC h14) (wCG h14)) (oL Z (hS8.ldC (f:=0) hC19 (v:=.int .u8 x13) Z Z Tryz.isAgg5 Z) (oR Z (Runs.cvu Z Z Tryz.runUnderlying5 Zw Z Z) (oM Z Z (oR Z (ZQ Z Z) (oR Z (zX Z Z ZT Z zB) (oL Z (hS8.ldB (j:=0) Z Z Z zJ (v:=jV p0.next) Z) (oM Z Z (oR Z (ZQ Z Z) (oR Z (zX Z Z ZT Z Tryz.sizeOf61) (oL Z (hS8.ldB (j:=0) Z Z Z Tryz.isAgg61 (v:=.slice pA0_0 p0.bytes.length pc0_0) Z) (oR Z (zo Z Z Tryz.runUnderlying61) (bnK hm15 fun x20 h21 hm22=>oR Z (Runs.quo Z Z Z h21) (oR Z (Runs.cvu Z Z Tryz.runUnderlying3 Zw Z Z) (oA Z Z (oA Z Z (eN (zF (CK.fresh fun σ23 hσ24=>?_))))))))))))))))))
   have f25:σ23 0=.pointer (some ⟨pb0,0,none⟩):=(hσ24 0).trans rfl
   have f26:σ23 1=jV p1:=(hσ24 1).trans rfl
   have f27:σ23 5=.int .u32 (wEG x13):=(hσ24 5).trans rfl
   have f28:σ23 6=.int .u32 (wEG x20):=(hσ24 6).trans rfl
   clear hσ24
   refine rR (wTX (.fx 7 .nil .stop)) Z (oM Z f25 (oR Z (ZQ Z Z) (oR Z (zX Z Z ZT Z zB) (oL Z (hS8.ldB (j:=0) Z Z Z zJ (v:=jV p0.next) Z) (oR Z (zV Z Z Z) (oR Z (ZQ Z Z) (oR Z (zX Z Z ZT Z zB) (ZR (j:=0) (vs:=[jV (w64 (p0.next + 1))]) Z Z Z Z hS8 Z Z Z Z zB (zI Z) Z Z Z ?_))))))))
   intro W29 hS30
   let B0:Res:=.blk pb0 192 [.slice pA0_0 p0.bytes.length pc0_0,jV p0.next,.int .u32 p0.state]
   have hS31:SW w [B0] U U [.blk pb0 192 [.slice pA0_0 p0.bytes.length pc0_0,jV (w64 (p0.next + 1)),.int .u32 p0.state]] W29:=hS30
   refine eN (sR (wTZ (.fx 15 .nil .stop)) Z (oM Z f25 (oM Z f25 (oR Z (ZQ Z Z) (oR Z (zX Z Z ZT Z Tryz.sizeOf190) (oL Z (hS31.ldB (j:=0) Z Z Z Tryz.isAgg190 (v:=.int .u32 p0.state) Z) (oR Z (Runs.mulu Z Z Z) (oM Z f27 (oR Z (Runs.addu Z Z Z) (oM Z f28 (oR Z (Runs.mulu Z Z Z) (oR Z (Runs.addu Z Z Z) (oR Z (Runs.addu Z Z Z) (bnK hm22 fun x32 h33 hm34=>oR Z (Runs.rem Z Z Z h33) (oR Z (ZQ Z Z) (oR Z (zX Z Z ZT Z Tryz.sizeOf190) (ZR (j:=0) (vs:=[.int .u32 x32]) Z Z Z Z hS31 Z Z Z Z Tryz.sizeOf190 (zI Z) Z Z Z ?_)))))))))))))))))
   intro W35 hS36
   have hS37:SW w [B0] U U [.blk pb0 192 [.slice pA0_0 p0.bytes.length pc0_0,jV (w64 (p0.next + 1)),.int .u32 x32]] W35:=hS36
   refine eN (zF (sR fL6 Z (oM Z f28 (oR Z (Runs.eql Z Z Z) (oM Z Z (ifc hm34 ?_ ?_))))))
   ·intro c38 hm39
    refine zR Z Z Z (wT Z c38) Z f26 (rU Z (wT Z c38) (Runs.leq Z Z Z) (oR Z (zg Z (Zj c38.out) Z) (eN (ifc hm39 ?_ ?_))))
    ·intro c40 hm41
     refine cT Z c40 (sR fL5 Z (oM Z f27 (oR Z (Runs.cvw Z Z Zw Tryz.runUnderlying3 Z Z) (oM Z f26 (bnK hm41 fun x42 h43 hm44=>oR Z (Runs.rem Z Z Z h43) (oA Z Z (eN (zW (zk ?_)))))))))
     cases hm44
     exact ⟨Z,_,(ZF Z),U,_,hS37,pA0_0,pc0_0,Z,Z,ha0⟩
    ·intro c40 hm45
     refine cF Z c40 (kN (sR fL11 Z (oM Z f25 (oR Z (ZQ Z Z) (oR Z (zX Z Z ZT Z Tryz.sizeOf190) (oL Z (hS37.ldB (j:=0) Z Z Z Tryz.isAgg190 (v:=.int .u32 x32) Z) (oR Z (Runs.mulu Z Z Z) (oM Z f27 (oR Z (Runs.addu Z Z Z) (oR Z (Runs.cvw Z Z Zw Tryz.runUnderlying3 Z Z) (oM Z f26 (bnK hm45 fun x46 h47 hm48=>oR Z (Runs.rem Z Z Z h47) (oA Z Z (eN (zW ?_)))))))))))))))
     cases hm48
     exact ⟨Z,_,(ZF Z),U,_,hS37,pA0_0,pc0_0,Z,Z,ha0⟩
   ·intro c38 hm49
    refine oF Z c38 (oF Z c38 (oR Z (zh Z (ZU c38.out) Z) (eN (ZG Z (kN (sR fL11 Z (oM Z f25 (oR Z (ZQ Z Z) (oR Z (zX Z Z ZT Z Tryz.sizeOf190) (oL Z (hS37.ldB (j:=0) Z Z Z Tryz.isAgg190 (v:=.int .u32 x32) Z) (oR Z (Runs.mulu Z Z Z) (oM Z f27 (oR Z (Runs.addu Z Z Z) (oR Z (Runs.cvw Z Z Zw Tryz.runUnderlying3 Z Z) (oM Z f26 (bnK hm49 fun x50 h51 hm52=>oR Z (Runs.rem Z Z Z h51) (oA Z Z (eN (zW ?_)))))))))))))))))))
    cases hm52
    exact ⟨Z,_,(ZF Z),U,_,hS37,pA0_0,pc0_0,Z,Z,ha0⟩
theorem wAR (p0:wAC) (pb0:Nat) (pA0_0:Option Addr) (pc0_0:Nat) (p1:Int) (p2:Int) (w:World) (U:PHeap) (hS:St0 w U [.blk pb0 192 [.slice pA0_0 p0.bytes.length pc0_0,jV p0.next,.int .u32 p0.state]]) (ha0:Sl U 1 pA0_0 pc0_0 p0.bytes.length (nA KL.encB8 p0.bytes)) {r:Int × wAC} (hm:wAG p0 p1 p2=some r):Gv Tryz.prog 64 [.pointer (some ⟨pb0,0,none⟩),jV p1,jV p2] w (wCO w [.blk pb0 192 [.slice pA0_0 p0.bytes.length pc0_0,jV p0.next,.int .u32 p0.state]] U (fun U_ L_ v=>∃ (Ao00:Option Addr) (co00:Nat),v=jV r.1/\L_=[.blk pb0 192 [.slice Ao00 r.2.bytes.length co00,jV r.2.next,.int .u32 r.2.state]]/\Sl U_ 1 Ao00 co00 r.2.bytes.length (nA KL.encB8 r.2.bytes))):=by
 unfold wAG at hm
 refine Gv.of Tryz.func64 Z Tryz.ntmps64 Tryz.results64 Z (sR fL1 Z (oA Z Z (eN (sR (wOn (.fx 6 gBm .stop)) Z (oM Z Z (oM Z Z (oM Z Z (oM Z Z (oR Z (Zn Z Z Z) (oR Z (zV Z Z Z) ?_))))))))))
 have q:=bnd hm
 obtain ⟨⟨x2,x3⟩,h4,hm5⟩:=q
 try dsimp only at hm5
 refine zL 1 Z Z Z Z (zK Z Z Tryz.call34 (zC Z (zC Z zP)) Z) hS (fun hs=>wAn p0 pb0 pA0_0 pc0_0 (w64 ((w64 (p2 - p1)) + 1)) w U hs ha0 h4) (.inl Z) ?_
 rintro U6 L7 v8 W9 le10 hS11 ⟨A12,c13,rfl,rfl,h14⟩
 have hS15:SW w [.blk pb0 192 [.slice pA0_0 p0.bytes.length pc0_0,jV p0.next,.int .u32 p0.state]] U U6 [.blk pb0 192 [.slice A12 x3.bytes.length c13,jV x3.next,.int .u32 x3.state]] W9:=hS11
 refine oR Z (zV Z Z Z) (oA Z Z (eN (zW ?_)))
 cases hm5
 exact ⟨Z,_,(ZF Z),U6,_,hS15,A12,c13,Z,Z,h14⟩
theorem wBV (p0:wAC) (pb0:Nat) (pA0_0:Option Addr) (pc0_0:Nat) (p1:Int) (w:World) (U:PHeap) (hS:St0 w U [.blk pb0 192 [.slice pA0_0 p0.bytes.length pc0_0,jV p0.next,.int .u32 p0.state]]) (ha0:Sl U 1 pA0_0 pc0_0 p0.bytes.length (nA KL.encB8 p0.bytes)) {r:(List Int) × wAC} (hm:wAV p0 p1=some r):Gv Tryz.prog 42 [.pointer (some ⟨pb0,0,none⟩),jV p1] w (wCO w [.blk pb0 192 [.slice pA0_0 p0.bytes.length pc0_0,jV p0.next,.int .u32 p0.state]] U (fun U_ L_ v=>∃ (A0:Option Addr) (c0:Nat) (Ao00:Option Addr) (co00:Nat),v=.slice A0 r.1.length c0/\L_=[.row A0 c0 3 1 (nA KL.encI r.1),.blk pb0 192 [.slice Ao00 r.2.bytes.length co00,jV r.2.next,.int .u32 r.2.state]]/\Sl U_ 1 Ao00 co00 r.2.bytes.length (nA KL.encB8 r.2.bytes))):=by
 unfold wAV at hm
 refine Gv.of Tryz.func42 Z Tryz.ntmps42 Tryz.results42 Z (sR fL1 Z (oA Z Z (eN (sR fL1 Z (oA Z Z (eN (zF (sR fL3 Z (oM Z Z (oR Z (Runs.max Z Z Z) (oM Z Z (eN (zS (bnK hm fun y24 hf21 hm20=>?_))))))))))))))
 have q:=wAx hf21
 obtain ⟨hle22,hf23⟩:=q
 replace hle22:=zD hle22
 let B0:Res:=.blk pb0 192 [.slice pA0_0 p0.bytes.length pc0_0,jV p0.next,.int .u32 p0.state]
 refine CK.forN' (fun k19 l15 σ_ w_=>∃ (U_:PHeap) (A16:Option Addr) (c17:Nat),σ_ 11=jV (↑k19:Int)/\σ_ 0=.pointer (some ⟨pb0,0,none⟩)/\σ_ 5=.slice A16 l15.length c17/\σ_ 10=jV (max 0 p1)/\PHeap.Le U U_/\SW w [B0] U U_ [B0,.row A16 c17 3 1 (nA KL.encI l15)] w_) hf23 ?_ ?_ ?_
 ·have hS25:=hS.nilrow 3 1
  exact ⟨U,none,0,rfl,rfl,rfl,rfl,(zG _),(hS25.pick [1,0] _ (by decide) rfl)⟩
 ·rintro k19 l15 xx29 σ27 W28 hk32 ⟨U34,A16,c17,fi33,f37,f38,f39,le35,hS36⟩ hx30
  have c40:Hid ((↑k19:Int) < (max 0 p1)):=zD (wBT hk32)
  replace hk32:=zD hk32
  have hi41:Hid (w64 ((↑k19:Int) + 1)=(↑(k19 + 1):Int)):=zD (by have h1:=hle22.out;have h2:=c40.out;rw [wAU] <;> omega)
  refine sR fL1 Z (oR Z (zQ Z fi33 f39) (eN (zF (cT Z c40 (kN (zF (zS (sR fL2 Z (oM Z fi33 (oA Z Z (eN (rR gCe Z (oM Z f38 (oM Z Z (zU (pv:=[(0,jV (↑k19:Int))]) (zs:=[jV 0]) (cs:=[jV (↑k19:Int)]) Z Z Z Z Z (wAH Z wAQ) zA zB zt Z Z Z Z Z hS36 ?_)))))))))))))))
  intro W42 b43 hS44
  let B1:Res:=.row (some ⟨b43,0,none⟩) 1 3 1 (nA KL.encI [(↑k19:Int)])
  have hS46:SW w [B0] U U34 [B1,B0,.row A16 c17 3 1 (nA KL.encI l15)] W42:=hS44
  refine bnK hx30 fun x47 h48 hm49=>ZO (j:=2) (enc:=KL.encI) (xs:=l15) (ys:=[(↑k19:Int)]) (zs:=x47) rfl rfl rfl rfl rfl zu wCc rfl rfl rfl rfl rfl rfl hS46 rfl rfl rfl (hS46.srcR (j:=0) rfl (by decide) (wAB (f:=KL.encI) (sz:=1) (fun _=>rfl) [(↑k19:Int)])) (fun _=>rfl) (fun _=>rfl) h48 rfl ?_
  intro A50 c51 W52 hS53
  have hS54:SW w [B0] U U34 [B1,B0,.row A50 c51 3 1 (nA KL.encI x47)] W52:=hS53
  refine oA Z Z (zx (zZ (zH (rR fL2 Z (oR Z (zz (zV Z fi33 Z) (congrArg (jV) hi41.out)) (oM Z Z (zx ?_)))))))
  cases hm49
  exact zH ⟨rfl,⟨U34,A50,c51,rfl,f37,rfl,f39,le35,(hS54.pick [1,2] _ (by decide) rfl)⟩⟩
 ·rintro σ58 W59 ⟨U67,A65,c66,fi61,f70,f71,f72,le68,hS69⟩
  have c73:Hid (¬ ((↑((max 0 p1:Int) - 0).toNat:Int) < (max 0 p1))):=zD (wAr)
  refine sR fL1 Z (oR Z (zQ Z fi61 f72) (eN (zF (cF Z c73 (ZM (ze (ze (ZI (zH (zF (sR fL4 Z (oM Z f71 (oR Z (zo Z Z zA) (oR Z (Zn Z Z Z) (oA Z Z (eN (zS (CK.iter (fun (l95,x98,x99,l100,x101) σ_ w_=>∃ (U_:PHeap) (A96:Option Addr) (c97:Nat),σ_ 0=.pointer (some ⟨pb0,0,none⟩)/\σ_ 5=.slice A65 l100.length c66/\σ_ 7=jV x101/\PHeap.Le U67 U_/\SW w [B0] U U_ [.blk pb0 192 [.slice A96 l95.length c97,jV x98,.int .u32 x99],.row A65 c66 3 1 (nA KL.encI l100)] w_/\Sl U_ 1 A96 c97 l95.length (nA KL.encB8 l95)/\l100.length=y24.length) hm20 ?_ ?_))))))))))))))))))
  ·have h102:=ha0.le le68
   exact ⟨U67,pA0_0,pc0_0,f70,f71,Z,(zG _),hS69,h102,Z⟩
  ·rintro ⟨l95,x98,x99,l100,x101⟩ xx105 σ103 W104 ⟨U110,A96,c97,f113,f114,f115,le111,hS112,h116,h117⟩ hx106 hb107
   try dsimp only at hx106
   refine zF (sR fL2 Z (oM Z f115 (oR Z (Runs.gtr Z Z Z) (eN ?_))))
   by_cases c118:0 < x101
   ·have hm119:=hx106;rw [if_pos c118] at hm119;replace c118:=zD c118
    refine cT Z c118 (kN (zF (zS (sR (wMI gBo) Z (oM Z f113 (oM Z f115 (oR Z (zV Z Z Z) ?_)))))))
    have q:=bnd hm119
    obtain ⟨⟨x120,x121⟩,h122,hm123⟩:=q
    try dsimp only at hm123
    refine zL 1 Z Z Z Z (zK Z Z Tryz.call34 (zC Z (zC Z zP)) Z) hS112 (fun hs=>wAn (⟨l95,x98,x99⟩:wAC) pb0 A96 c97 (w64 (x101 + 1)) W104 U110 hs h116 h122) (.inl Z) ?_
    rintro U124 L125 v126 W127 le128 hS129 ⟨A130,c131,rfl,rfl,h132⟩
    let B2:Res:=.blk pb0 192 [.slice A130 x121.bytes.length c131,jV x121.next,.int .u32 x121.state]
    have hS133:SW w [B0] U U124 [B2,.row A65 c66 3 1 (nA KL.encI l100)] W127:=hS129
    refine Zb rfl rfl rfl rfl rfl rfl (eN (Ze Za [3,3,3,3,3,3,3,1,3,3,3,1,3,0,3,0] (wQV (.fx 13 (.fl 14 (.fx 15 .nil .stop)) .stop)) (by kernel_rfl) ?_))
    have hS134:=hS133.drew
    generalize hw_W135:({ W127 with drawn:=W127.drawn + 1 }:World)=W135 at hS134 ⊢
    refine oM Z f114 (oM Z f115 (oM Z f114 (oM Z Z (oM Z f114 (oM Z Z (bnK hm123 fun _ h136 hm137=>?_))))))
    obtain ⟨b138,hA139⟩:=hS134.rowSome (j:=1) rfl (by rw [wAB (f:=KL.encI) (sz:=1) (fun _=>rfl) l100];have hz:=wAP h136;omega)
    refine oR Z (ZS Z Z hA139 Z zA zB (wCJ h136) (wCK h136)) ?_
    have hg140:=wBM (xs:=l100) (wAP h136)
    refine ZC rfl rfl rfl rfl (hS134.ldR (j:=1) rfl hA139 rfl rfl zJ (wAO (sz:=1) (fun _=>rfl) _ _ 0 _ hg140 (by first | omega | rfl | simp) rfl)) rfl (zR rfl rfl rfl rfl rfl f114 (zR rfl rfl rfl rfl rfl f115 (bnK hm137 fun _ h141 hm142=>zY rfl rfl rfl rfl (fun _=>ZS rfl rfl hA139 rfl zA zB (wCJ h141) (wCK h141)) ?_)))
    have hg143:=wBM (xs:=l100) (wAP h141)
    refine ZC rfl rfl rfl rfl (hS134.ldR (j:=1) rfl hA139 rfl rfl zJ (wAO (sz:=1) (fun _=>rfl) _ _ 0 _ hg143 (by first | omega | rfl | simp) rfl)) rfl (zY rfl rfl rfl rfl (fun _=>ZS rfl rfl hA139 rfl zA zB (wCJ h141) (wCK h141)) ?_)
    have hg144:=wBM (xs:=l100) (wAP h141)
    refine OKS.stR (j:=1) (vs:=[jV (gd l100 x120.toNat)]) (cs':=nA KL.encI (nJ l100 x101.toNat (gd l100 x120.toNat))) rfl rfl rfl rfl hS134 rfl hA139 rfl rfl rfl zB (by rw [wAB (f:=KL.encI) (sz:=1) (fun _=>rfl)];have hz:=wAP h141;show _ + 1 <= _;first | omega | (simp only [nM];omega) | (simp only [nK,nG,nH];omega)) rfl (wDo (sz:=1) (fo:=0) (fun _=>rfl) _ _ _ _ hg144 (by first | omega | (simp only [nM];omega) | (simp only [nK,nG,nH];omega)) (zI rfl) rfl) rfl ?_
    intro W145 hS146
    have hS147:SW w [B0] U U124 [B2,.row A65 c66 3 1 (nA KL.encI (nJ l100 x101.toNat (gd l100 x120.toNat)))] W145:=hS146
    refine bnK hm142 fun _ h148 hm149=>zY rfl rfl rfl rfl (fun _=>ZS rfl (nS (b:=(.slice A65 l100.length c66:Value)) (c:=(.slice A65 ((nJ l100 x101.toNat (gd l100 x120.toNat)).length) c66:Value)) rfl (by simp only [nL])) hA139 rfl zA zB (wCJ h148) (wCK h148)) ?_
    have hg150:=wBM (xs:=(nJ l100 x101.toNat (gd l100 x120.toNat))) (wAP h148)
    refine OKS.stR (j:=1) (vs:=[jV (gd l100 x101.toNat)]) (cs':=nA KL.encI (nJ (nJ l100 x101.toNat (gd l100 x120.toNat)) x120.toNat (gd l100 x101.toNat))) rfl rfl rfl rfl hS147 rfl hA139 rfl rfl rfl zB (by rw [wAB (f:=KL.encI) (sz:=1) (fun _=>rfl)];have hz:=wAP h148;show _ + 1 <= _;first | omega | (simp only [nM];omega) | (simp only [nK,nG,nH];omega)) rfl (wDo (sz:=1) (fo:=0) (fun _=>rfl) _ _ _ _ hg150 (by first | omega | (simp only [nM];omega) | (simp only [nK,nG,nH];omega)) (zI rfl) rfl) rfl ?_
    intro W151 hS152
    have hS153:SW w [B0] U U124 [B2,.row A65 c66 3 1 (nA KL.encI (nJ (nJ l100 x101.toNat (gd l100 x120.toNat)) x120.toNat (gd l100 x101.toNat)))] W151:=hS152
    refine zx (zZ (zH (rR fL3 Z (oM Z f115 (oR Z (Zn Z Z Z) (oA Z Z (zx ?_)))))))
    obtain rfl:=nB hm149
    exact zH ⟨rfl,_,rfl,⟨U124,A130,c131,f113,(nS (b:=(.slice A65 ((nJ l100 x101.toNat (gd l100 x120.toNat)).length) c66:Value)) (c:=(.slice A65 ((nJ (nJ l100 x101.toNat (gd l100 x120.toNat)) x120.toNat (gd l100 x101.toNat)).length) c66:Value)) (nS (b:=(.slice A65 l100.length c66:Value)) (c:=(.slice A65 ((nJ l100 x101.toNat (gd l100 x120.toNat)).length) c66:Value)) f114 (by simp only [nL])) (by simp only [nL])),rfl,(le111.trans le128),hS153,h132,((nL.trans nL).trans h117)⟩⟩
   ·have hm161:=hx106;rw [if_neg c118] at hm161;replace c118:=zD c118
    refine cF Z c118 (ZM (ze ?_))
    have q:=wCP hm161
    obtain ⟨v162,hm163,e164⟩:=q
    obtain rfl:=hb107 v162 e164
    refine ze (ZI (zH (sR fL2 Z (oM Z f114 (oA Z Z (eN (zW ?_)))))))
    cases hm163
    exact ⟨rfl,_,(ZF rfl),U110,_,(hS112.pick [1,0] _ (by decide) rfl),A65,c66,A96,c97,rfl,rfl,h116⟩
theorem wFG (p0:wAC) (pb0:Nat) (pA0_0:Option Addr) (pc0_0:Nat) (p1:Int) (w:World) (U:PHeap) (hS:St0 w U [.blk pb0 192 [.slice pA0_0 p0.bytes.length pc0_0,jV p0.next,.int .u32 p0.state]]) (ha0:Sl U 1 pA0_0 pc0_0 p0.bytes.length (nA KL.encB8 p0.bytes)) {r:(List wAA) × wAC} (hm:wBq p0 p1=some r):Gv Tryz.prog 71 [.pointer (some ⟨pb0,0,none⟩),jV p1] w (wCO w [.blk pb0 192 [.slice pA0_0 p0.bytes.length pc0_0,jV p0.next,.int .u32 p0.state]] U (fun U_ L_ v=>∃ (A0:Option Addr) (c0:Nat) (Ao00:Option Addr) (co00:Nat),v=.slice A0 r.1.length c0/\L_=[.row A0 c0 141 3 (nA wAK r.1),.blk pb0 192 [.slice Ao00 r.2.bytes.length co00,jV r.2.next,.int .u32 r.2.state]]/\Sl U_ 1 Ao00 co00 r.2.bytes.length (nA KL.encB8 r.2.bytes))):=by
 unfold wBq at hm
 refine Gv.of Tryz.func71 Z Tryz.ntmps71 Tryz.results71 Z (sR fL1 Z (oA Z Z (eN (sR fL1 Z (oA Z Z (eN (sR gBw Z (oM Z Z ?_))))))))
 have q:=bnd hm
 obtain ⟨⟨x2,x3⟩,h4,hm5⟩:=q
 try dsimp only at hm5
 refine zL 1 Z Z Z Z (zK Z Z Zr (zC Z (zC Z (zC Z zP))) Z) hS (fun hs=>wAR p0 pb0 pA0_0 pc0_0 1 6 w U hs ha0 h4) (.inl Z) ?_
 rintro U6 L7 v8 W9 le10 hS11 ⟨A12,c13,rfl,rfl,h14⟩
 let B0:Res:=.blk pb0 192 [.slice pA0_0 p0.bytes.length pc0_0,jV p0.next,.int .u32 p0.state]
 have hS15:SW w [B0] U U6 [.blk pb0 192 [.slice A12 x3.bytes.length c13,jV x3.next,.int .u32 x3.state]] W9:=hS11
 refine oA Z Z (eN (sR gBw Z (oM Z Z ?_)))
 have q:=bnd hm5
 obtain ⟨⟨x16,x17⟩,h18,hm19⟩:=q
 try dsimp only at hm19
 refine zL 1 Z Z Z Z (zK Z Z Tryz.call42 (zC Z (zC Z zP)) Z) hS15 (fun hs=>wBV x3 pb0 A12 c13 60 W9 U6 hs h14 h18) (.inl Z) ?_
 rintro U20 L21 v22 W23 le24 hS25 ⟨A26,c27,A28,c29,rfl,rfl,h31⟩
 let B1:Res:=.row A26 c27 3 1 (nA KL.encI x16)
 let B2:Res:=.blk pb0 192 [.slice A28 x17.bytes.length c29,jV x17.next,.int .u32 x17.state]
 have hS32:SW w [B0] U U20 [B1,B2] W23:=hS25
 refine oA Z Z (eN (zF (sR gCa Z (oM Z Z (oM Z Z ?_)))))
 have q:=bnd hm19
 obtain ⟨⟨x33,x34⟩,h35,hm36⟩:=q
 try dsimp only at hm36
 have hS37:SW w [B0] U U20 [B2,B1] W23:=hS32.pick [1,0] _ (by decide) rfl
 refine zL 1 Z Z Z Z (zK Z Z Zr (zC Z (zC Z (zC Z zP))) Z) hS37 (fun hs=>wAR x17 pb0 A28 c29 1 p1 W23 U20 hs h31 h35) (.inl Z) ?_
 rintro U38 L39 v40 W41 le42 hS43 ⟨A44,c45,rfl,rfl,h46⟩
 have hS47:SW w [B0] U U38 [.blk pb0 192 [.slice A44 x34.bytes.length c45,jV x34.next,.int .u32 x34.state],B1] W41:=hS43
 refine oM Z Z (eN (zS ?_))
 have q:=bnd hm36
 obtain ⟨⟨y90,y91,y92,y93⟩,hf87,hm86⟩:=q
 try dsimp only at hm86
 have q:=wAx hf87
 obtain ⟨hle88,hf89⟩:=q
 replace hle88:=zD hle88
 refine CK.forN' (fun k85 (l76,x79,x80,l81) σ_ w_=>∃ (U_:PHeap) (A77:Option Addr) (c78:Nat) (A82:Option Addr) (c83:Nat),σ_ 16=jV (↑k85:Int)/\σ_ 0=.pointer (some ⟨pb0,0,none⟩)/\σ_ 5=.slice A82 l81.length c83/\σ_ 6=jV x2/\σ_ 7=.slice A26 x16.length c27/\σ_ 15=jV x33/\PHeap.Le U38 U_/\SW w [B0] U U_ [.blk pb0 192 [.slice A77 l76.length c78,jV x79,.int .u32 x80],.row A82 c83 141 3 (nA wAK l81),B1] w_/\Sl U_ 1 A77 c78 l76.length (nA KL.encB8 l76)) hf89 ?_ ?_ ?_
 ·have hS94:=hS47.nilrow 141 3
  exact ⟨U38,A44,c45,none,0,rfl,rfl,rfl,rfl,rfl,rfl,(zG _),(hS94.pick [1,0,2] _ (by decide) rfl),h46⟩
 ·rintro k85 ⟨l76,x79,x80,l81⟩ xx98 σ96 W97 hk101 ⟨U103,A77,c78,A82,c83,fi102,f106,f107,f108,f109,f110,le104,hS105,h111⟩ hx99
  try dsimp only at hx99
  have c112:Hid ((↑k85:Int) < x33):=zD (wBT hk101)
  replace hk101:=zD hk101
  have hi113:Hid (w64 ((↑k85:Int) + 1)=(↑(k85 + 1):Int)):=zD (by have h1:=hle88.out;have h2:=c112.out;rw [wAU] <;> omega)
  refine sR fL1 rfl (zY rfl rfl rfl rfl (fun _=>zQ rfl fi102 f110) (eN (zF (cT Z c112 (kN (zF (zS (sR fL2 rfl (zR rfl rfl rfl rfl rfl fi102 (Zb rfl rfl rfl rfl rfl rfl (eN (Ze Za [3,3,3,3,1005,3,3,3,1005,3,3,3,1004,3,3,1005,3,3,2,0,3,pb0] (wHL (.fl 6 (.fl 7 (wTe (.fx 4 (.fl 5 (.fx 8 (.fx 15 (.fl 16 (.fl 17 (.fx 18 (.fx 19 (.fl 20 .nil) .stop) .stop))) .stop) .stop)) .stop))))) (by kernel_rfl) ?_))))))))))))
  have hS176:=hS105.drew
  generalize hw_W177:({ W97 with drawn:=W97.drawn + 1 }:World)=W177 at hS176 ⊢
  refine oM Z f107 (oM Z Z (oR Z (Runs.mulw Z Z Z) (oM Z f106 (oM Z f106 (oM Z f108 (oM Z f109 (oM Z Z (bnK hx99 fun _ h178 hm179=>?_))))))))
  obtain ⟨b180,hA181⟩:=hS176.rowSome (j:=2) rfl (by rw [wAB (f:=KL.encI) (sz:=1) (fun _=>rfl) x16];have hz:=wAP h178;omega)
  refine oR Z (ZD Z Z hA181 Z zA zB (wAP h178)) ?_
  have hg183:=wBM (xs:=x16) (wAP h178)
  let B3:Res:=.row A82 c83 141 3 (nA wAK l81)
  refine OKS.mt (T:=[pb0]) [0] [1,2] [B3,B1] rfl rfl rfl rfl hS176 rfl ⟨⟨0,by decide,_,rfl,rfl⟩,trivial⟩ (by decide) rfl (by decide) (fun _ hZ182=>(hZ182.ldR (j:=1) rfl hA181 rfl rfl zJ (wAO (sz:=1) (fun _=>rfl) _ _ 0 _ hg183 (by first | omega | rfl | simp) rfl))) rfl (zY rfl rfl rfl rfl (fun _=>Runs.mulw rfl rfl rfl) (zR rfl rfl rfl rfl rfl f106 ?_))
  have q:=bnd hm179
  obtain ⟨⟨x184,x185⟩,h186,hm187⟩:=q
  try dsimp only at hm187
  refine yA 1 rfl rfl rfl rfl (zK rfl rfl Zr (zC rfl (zC rfl (zC rfl zP))) rfl) hS176 (fun hs=>wAR (⟨l76,x79,x80⟩:wAC) pb0 A77 c78 1 9 W177 U103 hs h111 h186) rfl (T:=[pb0]) rfl ⟨fun b h=>(by cases h;exact .head _),trivial⟩ ?_
  rintro U188 L189 v190 W191 le192 hS193 ⟨A194,c195,rfl,rfl,h196⟩
  have hS197:SW w [B0] U U188 [.blk pb0 192 [.slice A194 x185.bytes.length c195,jV x185.next,.int .u32 x185.state],B3,B1] W191:=hS193
  refine oR Z (zV Z Z Z) ?_
  have q:=bnd hm187
  obtain ⟨⟨x198,x199⟩,h200,hm201⟩:=q
  try dsimp only at hm201
  refine yA 1 rfl rfl rfl rfl (zK rfl rfl Tryz.call34 (zC rfl (zC rfl zP)) rfl) hS197 (fun hs=>wAn x185 pb0 A194 c195 x2 W191 U188 hs h196 h200) rfl (T:=[pb0]) rfl ⟨fun b h=>(by cases h;exact .head _),trivial⟩ ?_
  rintro U202 L203 v204 W205 le206 hS207 ⟨A208,c209,rfl,rfl,h210⟩
  have hS211:SW w [B0] U U202 [.blk pb0 192 [.slice A208 x199.bytes.length c209,jV x199.next,.int .u32 x199.state],B3,B1] W205:=hS207
  have q:=bnd hm201
  obtain ⟨⟨x212,x213⟩,h214,hm215⟩:=q
  try dsimp only at hm215
  refine yA 1 rfl rfl rfl rfl (zK rfl rfl Zr (zC rfl (zC rfl (zC rfl zP))) rfl) hS211 (fun hs=>wAR x199 pb0 A208 c209 1 3 W205 U202 hs h210 h214) rfl (T:=[pb0]) rfl ⟨fun b h=>(by cases h;exact .head _),trivial⟩ ?_
  rintro U216 L217 v218 W219 le220 hS221 ⟨A222,c223,rfl,rfl,h224⟩
  let B4:Res:=.blk pb0 192 [.slice A222 x213.bytes.length c223,jV x213.next,.int .u32 x213.state]
  have hS225:SW w [B0] U U216 [B4,B3,B1] W219:=hS221
  refine oR Z (zV Z Z Z) ?_
  let B5:List Value:=[jV (w64 ((w64 (10 * (↑k85:Int))) + x184)),jV x198,jV (w64 ((w64 (3 * (gd x16 k85))) + x212))]
  let B6:List Value:=[jV 0,jV 0,jV 0]
  refine oR Z (Zd (pv:=[(0,jV (w64 ((w64 (10 * (↑k85:Int))) + x184))),(1,jV x198),(2,jV (w64 ((w64 (3 * (gd x16 k85))) + x212)))]) (z:=B6) (cs:=B5) Z (wAH Z (wAH Z (wAH Z wAQ))) Zz wNv Z Z) (zU (pv:=[(0,.agg B5.toArray)]) (zs:=B6) (cs:=B5) Z Z Z Z Z (wAH Z wAQ) ZA ZW Zz Z Z Z Z Z hS225 ?_)
  intro W226 b227 hS228
  let B7:Res:=.row (some ⟨b227,0,none⟩) 1 141 3 (nA wAK [(⟨w64 ((w64 (10 * (↑k85:Int))) + x184),x198,w64 ((w64 (3 * (gd x16 k85))) + x212)⟩:wAA)])
  have hS230:SW w [B0] U U216 [B7,B4,B3,B1] W226:=hS228
  refine bnK hm215 fun x231 h232 hm233=>ZO (j:=2) (enc:=wAK) (xs:=l81) (ys:=[(⟨w64 ((w64 (10 * (↑k85:Int))) + x184),x198,w64 ((w64 (3 * (gd x16 k85))) + x212)⟩:wAA)]) (zs:=x231) rfl rfl rfl rfl rfl Tryz.underlying138 wNy rfl rfl rfl rfl rfl rfl hS230 rfl rfl rfl (hS230.srcR (j:=0) rfl (by decide) (wAB (f:=wAK) (sz:=3) (fun _=>rfl) [(⟨w64 ((w64 (10 * (↑k85:Int))) + x184),x198,w64 ((w64 (3 * (gd x16 k85))) + x212)⟩:wAA)])) (fun _=>rfl) (fun _=>rfl) h232 rfl ?_
  intro A234 c235 W236 hS237
  have hS238:SW w [B0] U U216 [B7,B4,.row A234 c235 141 3 (nA wAK x231),B1] W236:=hS237
  refine oA Z Z (zx (zZ (zH (rR fL2 Z (oR Z (zz (zV Z fi102 Z) (congrArg (jV) hi113.out)) (oM Z Z (zx ?_)))))))
  cases hm233
  exact zH ⟨rfl,⟨U216,A222,c223,A234,c235,rfl,f106,rfl,f108,f109,f110,(((le104.trans le192).trans le206).trans le220),(hS238.pick [1,2,3] _ (by decide) rfl),h224⟩⟩
 ·rintro σ247 W248 ⟨U263,A259,c260,A261,c262,fi250,f266,f267,f268,f269,f270,le264,hS265,h271⟩
  have c272:Hid (¬ ((↑((x33:Int) - 0).toNat:Int) < x33)):=zD (wAr)
  refine sR fL1 Z (oR Z (zQ Z fi250 f270) (eN (zF (cF Z c272 (ZM (ze (ze (ZI (zH (sR fL2 Z (oM Z f267 (oA Z Z (eN (zW ?_))))))))))))))
  cases hm86
  exact ⟨rfl,_,(ZF rfl),U263,_,(hS265.pick [1,0] _ (by decide) rfl),A261,c262,A259,c260,rfl,rfl,h271⟩
theorem wCr (p0:Int) (p1:Int) (p2:Int) (w:World) (U:PHeap) (hS:St0 w U [])  {r:Bool} (hm:wBY p0 p1 p2=some r):Gv Tryz.prog 142 [jV p0,jV p1,jV p2] w (wCO w [] U (fun U_ L_ v=>v=.bool r/\L_=[])):=by
 unfold wBY at hm
 refine Gv.of Tryz.func142 Z Tryz.ntmps142 Tryz.results142 Z (sR fL1 Z (oA Z Z (eN (sR fL9 Z (oM Z Z (oM Z Z (oR Z (Runs.geq Z Z Z) (oM Z Z ?_))))))))
 by_cases c1:p1 <= p0
 ·have hm2:=hm;rw [if_pos c1] at hm2;replace c1:=zD c1
  refine zR Z Z Z (wT Z c1) Z Z (zR Z Z Z (wT Z c1) Z Z (rU Z (wT Z c1) (Runs.leq Z Z Z) (oR Z (zg Z (Zj c1.out) Z) (oA Z Z (eN (zW ?_))))))
  cases hm2
  exact ⟨Z,_,(ZF Z),U,_,hS,Z,Z⟩
 ·have hm3:=hm;rw [if_neg c1] at hm3;replace c1:=zD c1
  refine oF Z c1 (oF Z c1 (oF Z c1 (oR Z (zh Z (ZU c1.out) Z) (oA Z Z (eN (zW ?_))))))
  have hE:=nB hm3;first | subst r | cases hE
  exact ⟨Z,_,(ZF Z),U,_,hS,Z,Z⟩
theorem wCs (p0:wAA) (w:World) (U:PHeap) (hS:St0 w U [])  {r:Int} (hm:wAW p0=some r):Gv Tryz.prog 280 [.agg #[jV p0.Bib,jV p0.Nation,jV p0.Rank]] w (wCO w [] U (fun U_ L_ v=>v=jV r/\L_=[])):=by
 unfold wAW at hm
 refine Gv.of Tryz.func280 rfl Tryz.ntmps280 Tryz.results280 rfl (sR gBp rfl (Zl (cs:=[jV p0.Bib,jV p0.Nation,jV p0.Rank]) rfl rfl rfl rfl rfl rfl (by rfl) hS ?_))
 intro W1 b2 hS3
 refine oA Z Z (eN (sR fL3 Z (oR Z (zX Z Z Zc Z zB) (oL Z (hS3.ldB (j:=0) Z Z Z zJ (v:=jV p0.Bib) Z) (oA Z Z (eN (zW ?_)))))))
 cases hm
 exact ⟨rfl,_,(ZF rfl),U,_,(hS3.pick [] _ (by decide) rfl),rfl,rfl⟩
theorem wCt (p0:wAA) (w:World) (U:PHeap) (hS:St0 w U [])  {r:Int} (hm:wAX p0=some r):Gv Tryz.prog 281 [.agg #[jV p0.Bib,jV p0.Nation,jV p0.Rank]] w (wCO w [] U (fun U_ L_ v=>v=jV r/\L_=[])):=by
 unfold wAX at hm
 refine Gv.of Tryz.func281 rfl Tryz.ntmps281 Tryz.results281 rfl (sR gBp rfl (Zl (cs:=[jV p0.Bib,jV p0.Nation,jV p0.Rank]) rfl rfl rfl rfl rfl rfl (by rfl) hS ?_))
 intro W1 b2 hS3
 refine oA Z Z (eN (sR fL3 Z (oR Z (zX Z Z Zc Z zB) (oL Z (hS3.ldB (j:=0) Z Z Z zJ (v:=jV p0.Rank) Z) (oA Z Z (eN (zW ?_)))))))
 cases hm
 exact ⟨rfl,_,(ZF rfl),U,_,(hS3.pick [] _ (by decide) rfl),rfl,rfl⟩
theorem wDj (p0:wAA) (w:World) (U:PHeap) (hS:St0 w U [])  {r:Int} (hm:wAe p0=some r):Gv Tryz.prog 282 [.agg #[jV p0.Bib,jV p0.Nation,jV p0.Rank]] w (wCO w [] U (fun U_ L_ v=>v=jV r/\L_=[])):=by
 unfold wAe at hm
 refine Gv.of Tryz.func282 rfl Tryz.ntmps282 Tryz.results282 rfl (sR gBp rfl (Zl (cs:=[jV p0.Bib,jV p0.Nation,jV p0.Rank]) rfl rfl rfl rfl rfl rfl (by rfl) hS ?_))
 intro W1 b2 hS3
 refine oA Z Z (eN (sR fL3 Z (oR Z (zX Z Z Zc Z zB) (oL Z (hS3.ldB (j:=0) Z Z Z zJ (v:=jV p0.Nation) Z) (oA Z Z (eN (zW ?_)))))))
 cases hm
 exact ⟨rfl,_,(ZF rfl),U,_,(hS3.pick [] _ (by decide) rfl),rfl,rfl⟩
theorem wHD  (w:World) (U:PHeap) (hS:St0 w U [])  {r:Unit} (hm:wCh =some r):Gv Tryz.prog 220 [] w (wCO w [] U (fun U_ L_ v=>v=.agg #[.func (.func 280) #[] #[],jV 1,jV 999,.func (.func 281) #[] #[],jV 1,jV 9999,.func (.func 282) #[] #[],jV 0,jV 30]/\L_=[])):=by
 unfold wCh at hm
 refine Gv.of Tryz.func220 Z Tryz.ntmps220 Tryz.results220 Z (sR (.fx 0 .nil .stop) Z ?_)
 let B0:List Value:=[.nilFunc,jV 0,jV 0,.nilFunc,jV 0,jV 0,.nilFunc,jV 0,jV 0]
 refine zw (cs:=B0) Z Z Z Z Z Tryz.zeroValue340 Z hS ?_
 intro W1 b2 hS3
 refine eN (sR (wHL (.fx 4 .nil .stop)) Z ?_)
 let B1:List Value:=[.nilFunc,jV 0,jV 0]
 let B2:List Value:=[.func (.func 280) #[] #[],jV 1,jV 999]
 refine oR Z (Zd (pv:=[(0,.func (.func 280) #[] #[]),(1,jV 1),(2,jV 999)]) (z:=B1) (cs:=B2) Z (wAH Z (wAH Z (wAH Z wAQ))) Zm wHC Z Z) ?_
 let B3:List Value:=[.func (.func 281) #[] #[],jV 1,jV 9999]
 refine oR Z (Zd (pv:=[(0,.func (.func 281) #[] #[]),(1,jV 1),(2,jV 9999)]) (z:=B1) (cs:=B3) Z (wAH Z (wAH Z (wAH Z wAQ))) Zm wHC Z Z) ?_
 let B4:List Value:=[.func (.func 282) #[] #[],jV 0,jV 30]
 refine oR Z (Zd (pv:=[(0,.func (.func 282) #[] #[]),(1,jV 0),(2,jV 30)]) (z:=B1) (cs:=B4) Z (wAH Z (wAH Z (wAH Z wAQ))) Zm wHC Z Z) ?_
 let B5:List Value:=[.func (.func 280) #[] #[],jV 1,jV 999,.func (.func 281) #[] #[],jV 1,jV 9999,.func (.func 282) #[] #[],jV 0,jV 30]
 refine oR Z (Runs.buildA (pv:=[(0,.agg B2.toArray),(1,.agg B3.toArray),(2,.agg B4.toArray)]) (z:=B0) (cs:=B5) Z (wAH Z (wAH Z (wAH Z wAQ))) Tryz.zeroValue340 Zx ZL Z Z) (ZR (j:=0) (vs:=B5) Z Z Z Z hS3 Z Z Z Z Tryz.sizeOf340 (zI Z) Z Z Z ?_)
 intro W5 hS6
 have hS7:sW w U U [.blk b2 340 B5] W5:=hS6
 refine eN (zW ?_)
 cases hm
 exact ⟨rfl,_,(wMU (v:=.agg B5.toArray) ⟨⟨_,rfl,(wKj Tryz.isAgg340 Tryz.sizeOf340 (hS7.blkAt (k:=0) rfl) (vs:=B5) rfl rfl)⟩,trivial⟩),U,_,(hS7.pick [] _ (by decide) rfl),rfl,rfl⟩
theorem wBs (p0:wAN) (pv0_0:Value) (p1:List wAA) (pA1:Option Addr) (pc1:Nat) (w:World) (U:PHeap) (hS:St0 w U []) (ha0:FnOK Tryz.prog U pv0_0 wHR wHS p0.of) (ha1:Sl U 3 pA1 pc1 p1.length (nA wAK p1)) {r:(List Int)} (hm:wAg p0 p1=some r):Gv Tryz.prog 221 [.agg #[pv0_0,jV p0.lo,jV p0.hi],.slice pA1 p1.length pc1] w (wCO w [] U (fun U_ L_ v=>∃ (A0:Option Addr) (c0:Nat),v=.slice A0 r.length c0/\L_=[.row A0 c0 3 1 (nA KL.encI r)])):=by
 unfold wAg at hm
 refine Gv.of Tryz.func221 Z Tryz.ntmps221 Tryz.results221 Z (sR gBp Z ?_)
 let B0:List Value:=[pv0_0,jV p0.lo,jV p0.hi]
 refine Zl (cs:=B0) rfl rfl rfl rfl rfl rfl (by rfl) hS ?_
 intro W1 b2 hS3
 refine oA Z Z (eN (sR fL1 Z (oA Z Z (eN (zF (sR fL3 Z (oM Z Z (oR Z (zo Z Z ZA) (oM Z Z (eN (zS (bnK hm fun y27 hf24 hm23=>?_))))))))))))
 have q:=wAx hf24
 obtain ⟨hle25,hf26⟩:=q
 replace hle25:=zD hle25
 refine CK.forN' (fun k22 l18 σ_ w_=>∃ (U_:PHeap) (A19:Option Addr) (c20:Nat),σ_ 10=jV (↑k22:Int)/\σ_ 2=.pointer (some ⟨b2,0,none⟩)/\σ_ 5=.slice A19 l18.length c20/\σ_ 8=.slice pA1 p1.length pc1/\σ_ 9=jV (↑p1.length:Int)/\PHeap.Le U U_/\sW w U U_ [.blk b2 339 B0,.row A19 c20 3 1 (nA KL.encI l18)] w_) hf26 ?_ ?_ ?_
 ·have hS28:=hS3.nilrow 3 1
  exact ⟨U,none,0,rfl,rfl,rfl,rfl,rfl,(zG _),(hS28.pick [1,0] _ (by decide) rfl)⟩
 ·rintro k22 l18 xx32 σ30 W31 hk35 ⟨U37,A19,c20,fi36,f40,f41,f42,f43,le38,hS39⟩ hx33
  have c44:Hid ((↑k22:Int) < (↑p1.length:Int)):=zD (wBT hk35)
  replace hk35:=zD hk35
  have hi45:Hid (w64 ((↑k22:Int) + 1)=(↑(k22 + 1):Int)):=zD (by have h1:=hle25.out;have h2:=c44.out;rw [wAU] <;> omega)
  refine sR fL1 Z (oR Z (zQ Z fi36 f43) (eN (zF (cT Z c44 (kN (zF (zS (sR gCb Z (bnK hx33 fun x46 h47 hm48=>?_)))))))))
  have h49:=ha1.le le38
  have q:=h49.el (fun _=>rfl) (wAZ h47)
  obtain ⟨b50,off51,hA52,hC53⟩:=q
  refine oR Z (ZD Z f42 hA52 fi36 ZA ZW (wCD h47)) (oL Z (hS39.ldCA (f:=0) hC53 Z Z Tryz.isAgg141 ZW (us:=[jV x46.Bib,jV x46.Nation,jV x46.Rank]) Z Z) (zw (cs:=[jV 0,jV 0,jV 0]) Z Z Z Z Z Zz Z hS39 ?_))
  intro W54 b55 hS56
  let B1:List Value:=[jV x46.Bib,jV x46.Nation,jV x46.Rank]
  refine ZR (j:=0) (vs:=B1) Z Z Z Z hS56 Z Z Z Z ZW (zI Z) Z Z Z ?_
  intro W58 hS59
  let B2:Res:=.row A19 c20 3 1 (nA KL.encI l18)
  have hS60:sW w U U37 [.blk b55 141 B1,.blk b2 339 B0,B2] W58:=hS59
  refine eN (rR (wHL (.fx 4 gBx .stop)) Z (oM Z f41 (oR Z (zX Z f40 Tryz.runUnderlying339 Z Tryz.sizeOf337) (oL Z (hS60.ldB (j:=1) Z Z Z Tryz.isAgg337 (v:=pv0_0) Z) (oL Z (hS60.ldBA (j:=0) Z Z Z Tryz.isAgg141 ZW (vs:=B1) Z Z) (bnK hm48 fun x61 h62 hm63=>?_))))))
  have h70:=ha0.le le38
  refine OKS.callV (a:=x46) Z Z Z Z Z Z (zC Z zP) hS60 h70 Z h62 ?_
  rintro U64 L65 v66 W67 le68 hS69 ⟨rfl,rfl⟩
  have hS71:sW w U U64 [.blk b55 141 B1,.blk b2 339 B0,B2] W67:=hS69
  refine zU (pv:=[(0,jV x61)]) (zs:=[jV 0]) (cs:=[jV x61]) Z Z Z Z Z (wAH Z wAQ) zA zB zt Z Z Z Z Z hS71 ?_
  intro W72 b73 hS74
  let B3:Res:=.row (some ⟨b73,0,none⟩) 1 3 1 (nA KL.encI [x61])
  have hS76:sW w U U64 [B3,.blk b55 141 B1,.blk b2 339 B0,B2] W72:=hS74
  refine bnK hm63 fun x77 h78 hm79=>ZO (j:=3) (enc:=KL.encI) (xs:=l18) (ys:=[x61]) (zs:=x77) rfl rfl rfl rfl rfl zu wCc rfl rfl rfl rfl rfl rfl hS76 rfl rfl rfl (hS76.srcR (j:=0) rfl (by decide) (wAB (f:=KL.encI) (sz:=1) (fun _=>rfl) [x61])) (fun _=>rfl) (fun _=>rfl) h78 rfl ?_
  intro A80 c81 W82 hS83
  have hS84:sW w U U64 [B3,.blk b55 141 B1,.blk b2 339 B0,.row A80 c81 3 1 (nA KL.encI x77)] W82:=hS83
  refine oA Z Z (zx (zZ (zH (rR fL2 Z (oR Z (zz (zV Z fi36 Z) (congrArg (jV) hi45.out)) (oM Z Z (zx ?_)))))))
  cases hm79
  exact zH ⟨rfl,⟨U64,A80,c81,rfl,f40,rfl,f42,f43,(le38.trans le68),(hS84.pick [2,3] _ (by decide) rfl)⟩⟩
 ·rintro σ88 W89 ⟨U97,A95,c96,fi91,f100,f101,f102,f103,le98,hS99⟩
  have c104:Hid (¬ ((↑(((↑p1.length:Int):Int) - 0).toNat:Int) < (↑p1.length:Int))):=zD (wAr)
  refine sR fL1 Z (oR Z (zQ Z fi91 f103) (eN (zF (cF Z c104 (ZM (ze (ze (ZI (zH (sR fL2 Z (oM Z f101 (oA Z Z (eN (zW ?_))))))))))))))
  have hE:=nB hm23;first | subst r | cases hE
  exact ⟨rfl,_,(ZF rfl),U97,_,(hS99.pick [1] _ (by decide) rfl),A95,c96,rfl,rfl⟩
end Go.Proofs.YtglpalgiipahjaaGreat
namespace Go.Proofs.YtglpalgiipahjaaGreat
open Go.KL
set_option maxHeartbeats 4000000
theorem wDP (p0:Int) (p1:wAN) (pb1:Nat) (pv1_0:Value) (w:World) (U:PHeap) (hS:St0 w U []) (ha0:Cl U pb1 0 [pv1_0,jV p1.lo,jV p1.hi]) (ha1:FnOK Tryz.prog U pv1_0 wHR wHS p1.of) {r:Bool} (hm:wAf p0 p1=some r):Gv Tryz.prog 222 [jV p0,.pointer (some ⟨pb1,0,none⟩)] w (wCO w [] U (fun U_ L_ v=>v=.bool r/\L_=[])):=by
 unfold wAf at hm
 refine Gv.of Tryz.func222 Z Tryz.ntmps222 Tryz.results222 Z (sR fL1 Z (oA Z Z (eN (sR (wJa (.fx 5 (.fl 6 .nil) .stop)) Z (oM Z Z (oR Z (zX Z Z Tryz.runUnderlying339 Z zB) (oL Z (hS.ldC (f:=1) ha0 (v:=jV p1.lo) Z Z zJ Z) (oR Z (zX Z Z Tryz.runUnderlying339 Z zB) (oL Z (hS.ldC (f:=2) ha0 (v:=jV p1.hi) Z Z zJ Z) (bnK hm fun x1 h2 hm3=>zL 0 Z Z Z Z (zK Z Z Tryz.call142 (zC Z (zC Z (zC Z zP))) Z) hS (fun hs=>wCr p0 p1.lo p1.hi w U hs h2) (.inr Z) ?_))))))))))
 rintro U4 L5 v6 W7 le8 hS9 ⟨rfl,rfl⟩
 have hS10:sW w U U4 [] W7:=hS9
 refine oA Z Z (eN (zW ?_))
 have hE:=nB hm3;first | subst r | cases hE
 exact ⟨Z,_,(ZF Z),U4,_,hS10,Z,Z⟩
theorem wCN (p0:List Int) (pA0:Option Addr) (pc0:Nat) (p1:(Int->Option Bool)) (pv1:Value) (w:World) (U:PHeap) (hS:St0 w U []) (ha0:Sl U 1 pA0 pc0 p0.length (nA KL.encI p0)) (ha1:FnOK Tryz.prog U pv1 wHB wIH p1) {r:Bool} (hm:wAu p0 p1=some r):Gv Tryz.prog 180 [.slice pA0 p0.length pc0,pv1] w (wCO w [] U (fun U_ L_ v=>v=.bool r/\L_=[])):=by
 unfold wAu at hm
 refine Gv.of Tryz.func180 Z Tryz.ntmps180 Tryz.results180 Z (sR fL1 Z (oA Z Z (eN (zF (sR fL3 Z (oM Z Z (oR Z (zo Z Z zA) (oM Z Z (eN (zS ?_))))))))))
 have q:=wDL hm
 obtain ⟨r3,hX4⟩:=q
 have q:=wDK hX4
 obtain ⟨hle5,hf6⟩:=q
 replace hle5:=zD hle5
 refine CK.forN (fun k2 _ σ_ w_=>∃ (U_:PHeap),σ_ 9=jV (↑k2:Int)/\σ_ 1=pv1/\σ_ 7=.slice pA0 p0.length pc0/\σ_ 8=jV (↑p0.length:Int)/\PHeap.Le U U_/\sW w U U_ [] w_) hf6 ?_ ?_ ?_
 ·exact ⟨U,Z,Z,Z,Z,(zG _),hS⟩
 ·rintro k2 ⟨⟩ xx9 σ7 W8 hk12 ⟨U14,fi13,f17,f18,f19,le15,hS16⟩ hx10 hb11
  try dsimp only at hx10
  have c20:Hid ((↑k2:Int) < (↑p0.length:Int)):=zD (wBT hk12)
  replace hk12:=zD hk12
  have hi21:Hid (w64 ((↑k2:Int) + 1)=(↑(k2 + 1):Int)):=zD (by have h1:=hle5.out;have h2:=c20.out;rw [wAU] <;> omega)
  refine sR fL1 Z (oR Z (zQ Z fi13 f19) (eN (zF (cT Z c20 (kN (zF (zS (sR fL3 Z (bnK hx10 fun x22 h23 hm24=>?_)))))))))
  have h25:=ha0.le le15
  have q:=h25.el (fun _=>rfl) (wAZ h23)
  obtain ⟨b26,off27,hA28,hC29⟩:=q
  refine oR Z (ZD Z f18 hA28 fi13 zA zB (wCD h23)) (oL Z (hS16.ldC (f:=0) hC29 (v:=jV x22) Z Z zJ Z) (oA Z Z (eN (sR gCa Z (oM Z f17 (oM Z Z (bnK hm24 fun x30 h31 hm32=>?_)))))))
  have h39:=ha1.le le15
  refine OKS.callV (a:=x22) Z Z Z Z Z Z (zC Z zP) hS16 h39 Z h31 ?_
  rintro U33 L34 v35 W36 le37 hS38 ⟨rfl,rfl⟩
  have hS40:sW w U U33 [] W36:=hS38
  refine oR Z (Zf Z Z) (eN (ifc hm32 ?_ ?_))
  ·intro c41 hm42
   refine ZG (nC c41.out) (ZV (zZ (zH (rR fL2 Z (oR Z (zz (zV Z fi13 Z) (congrArg (jV) hi21.out)) (oM Z Z (zx ?_)))))))
   obtain rfl:=nB hm42
   exact zH ⟨Z,_,Z,⟨U33,Z,f17,f18,f19,(le15.trans le37),hS40⟩⟩
  ·intro c41 hm43
   refine ZK (nF (c41.out)) (sR fL1 Z (oA Z Z (eN (zW (ZJ (zk ?_))))))
   have q:=wCP hm43
   obtain ⟨v44,hm45,e46⟩:=q
   obtain rfl:=wEJ hm hX4 (hb11 v44 e46)
   refine zk (ZJ (zk ?_))
   have hE:=nB hm45;first | subst r | cases hE
   exact ⟨Z,_,(ZF Z),U33,_,hS40,Z,Z⟩
 ·rintro ⟨⟩ σ47 W48 ⟨U51,fi50,f54,f55,f56,le52,hS53⟩ hb49
  have hm57:=wEI hm hX4 hb49
  try dsimp only at hm57
  have c58:Hid (¬ ((↑(((↑p0.length:Int):Int) - 0).toNat:Int) < (↑p0.length:Int))):=zD (wAr)
  refine sR fL1 Z (oR Z (zQ Z fi50 f56) (eN (zF (cF Z c58 (ZM (ze (ze (ZI (zH (sR fL1 Z (oA Z Z (eN (zW ?_)))))))))))))
  have hE:=nB hm57;first | subst r | cases hE
  exact ⟨Z,_,(ZF Z),U51,_,hS53,Z,Z⟩
theorem wDv (p0:List Int) (pA0:Option Addr) (pc0:Nat) (w:World) (U:PHeap) (hS:St0 w U []) (ha0:Sl U 1 pA0 pc0 p0.length (nA KL.encI p0)) {r:Bool} (hm:wBj p0=some r):Gv Tryz.prog 184 [.slice pA0 p0.length pc0] w (wCO w [] U (fun U_ L_ v=>v=.bool r/\L_=[])):=by
 unfold wBj at hm
 refine Gv.of Tryz.func184 Z Tryz.ntmps184 Tryz.results184 Z (sR fL1 Z (oA Z Z (eN (sR gBp Z (OKS.makeMap Z Z Z Z Z hS ?_)))))
 intro W1 b2 hS3
 have hr4:=MpR.nil wNu wPS
 refine oA Z Z (eN (zF (sR fL3 Z (oM Z Z (oR Z (zo Z Z zA) (oM Z Z (eN (zS ?_))))))))
 have q:=wDL hm
 obtain ⟨r21,hX22⟩:=q
 have q:=wDK hX22
 obtain ⟨hle23,hf24⟩:=q
 replace hle23:=zD hle23
 refine CK.forN (fun k20 l17 σ_ w_=>∃ (U_:PHeap) (es18:Array MapEntry) (ck19:Nat),σ_ 9=jV (↑k20:Int)/\σ_ 3=.map (some b2)/\σ_ 7=.slice pA0 p0.length pc0/\σ_ 8=jV (↑p0.length:Int)/\PHeap.Le U U_/\sW w U U_ [.obj b2 (.map es18 ck19)] w_/\MpR es18 wNu wPS l17) hf24 ?_ ?_ ?_
 ·exact ⟨U,#[],0,Z,Z,Z,Z,(zG _),hS3,hr4⟩
 ·rintro k20 l17 xx27 σ25 W26 hk30 ⟨U32,es18,ck19,fi31,f35,f36,f37,le33,hS34,h38⟩ hx28 hb29
  have c39:Hid ((↑k20:Int) < (↑p0.length:Int)):=zD (wBT hk30)
  replace hk30:=zD hk30
  have hi40:Hid (w64 ((↑k20:Int) + 1)=(↑(k20 + 1):Int)):=zD (by have h1:=hle23.out;have h2:=c39.out;rw [wAU] <;> omega)
  refine sR fL1 Z (oR Z (zQ Z fi31 f37) (eN (zF (cT Z c39 (kN (zF (zS (sR fL3 Z (bnK hx28 fun x41 h42 hm43=>?_)))))))))
  have h44:=ha0.le le33
  have q:=h44.el (fun _=>rfl) (wAZ h42)
  obtain ⟨b45,off46,hA47,hC48⟩:=q
  refine oR Z (ZD Z f36 hA47 fi31 zA zB (wCD h42)) (oL Z (hS34.ldC (f:=0) hC48 (v:=jV x41) Z Z zJ Z) (oA Z Z (eN (zF (sR fL3 Z (oM Z f35 (oM Z Z (oL Z (hS34.lookup1 (j:=0) (mk:=wNu) (mv:=wPS) (a:=x41) (z:=false) Z Z Z Z (wCV Tryz.runUnderlying176) wNz Tryz.zeroValue4 h38) (eN (ifc hm43 ?_ ?_))))))))))
  ·intro c49 hm50
   refine ZK (congrArg nD c49.out) (sR fL1 Z (oA Z Z (eN (zW (zk (ZJ (zk ?_)))))))
   have q:=wCP hm50
   obtain ⟨v51,hm52,e53⟩:=q
   obtain rfl:=wEJ hm hX22 (hb29 v51 e53)
   refine zk (ZJ (zk ?_))
   have hE:=nB hm52;first | subst r | cases hE
   exact ⟨rfl,_,(ZF rfl),U32,_,(hS34.pick [] _ (by decide) rfl),rfl,rfl⟩
  ·intro c49 hm54
   refine ZG (congrArg nD (nE.2 c49.out)) (kN (rR gBy rfl (zR rfl rfl rfl rfl rfl f35 (zR rfl rfl rfl rfl rfl rfl (OKS.mapPut (x:=.tmp 16) (y:=.tmp 17) (j:=0) (mk:=wNu) (mv:=wPS) (a:=x41) (v:=true) rfl rfl rfl (by first | exact .inl rfl | exact .inr rfl) hS34 rfl rfl rfl rfl (wCV Tryz.runUnderlying176) wNz h38 rfl ?_)))))
   intro es55 ck56 W57 hr58 hS59
   have hS60:sW w U U32 [.obj b2 (.map es55 ck56)] W57:=hS59
   refine zx (zZ (zH (rR fL2 Z (oR Z (zz (zV Z fi31 Z) (congrArg (jV) hi40.out)) (oM Z Z (zx ?_))))))
   obtain rfl:=nB hm54
   exact zH ⟨Z,_,Z,⟨U32,es55,ck56,Z,f35,f36,f37,le33,hS60,hr58⟩⟩
 ·rintro y68 σ64 W65 ⟨U71,e69,c70,fi67,f74,f75,f76,le72,hS73,h77⟩ hb66
  have hm78:=wEI hm hX22 hb66
  have c79:Hid (¬ ((↑(((↑p0.length:Int):Int) - 0).toNat:Int) < (↑p0.length:Int))):=zD (wAr)
  refine sR fL1 Z (oR Z (zQ Z fi67 f76) (eN (zF (cF Z c79 (ZM (ze (ze (ZI (zH (sR fL1 Z (oA Z Z (eN (zW ?_)))))))))))))
  have hE:=nB hm78;first | subst r | cases hE
  exact ⟨rfl,_,(ZF rfl),U71,_,(hS73.pick [] _ (by decide) rfl),rfl,rfl⟩
theorem wFa (p0:List wAA) (pA0:Option Addr) (pc0:Nat) (w:World) (U:PHeap) (hS:St0 w U []) (ha0:Sl U 3 pA0 pc0 p0.length (nA wAK p0)) {r:Int} (hm:wBt p0=some r):Gv Tryz.prog 141 [.slice pA0 p0.length pc0] w (wCO w [] U (fun U_ L_ v=>v=jV r/\L_=[])):=by
 unfold wBt at hm
 refine Gv.of Tryz.func141 Z Tryz.ntmps141 Tryz.results141 Z (sR fL1 Z (oA Z Z (eN (zF (sR gCa Z (oM Z Z (oR Z (zo Z Z ZA) (bnK hm fun x1 h2 hm3=>zL 0 Z Z Z Z (zK Z Z Tryz.call142 (zC Z (zC Z (zC Z zP))) Z) hS (fun hs=>wCr (↑p0.length:Int) 1 60 w U hs h2) (.inr Z) ?_))))))))
 rintro U4 L5 v6 W7 le8 hS9 ⟨rfl,rfl⟩
 have hS10:sW w U U4 [] W7:=hS9
 refine oR Z (Zf Z Z) (eN (ifc hm3 ?_ ?_))
 ·intro c11 hm12
  refine ZG (nC c11.out) (kN (sR (.fx 0 gBr .stop) Z ?_))
  have q:=bnd hm12
  obtain ⟨⟨⟩,h13,hm14⟩:=q
  try dsimp only at hm14
  refine zL 0 Z Z Z Z (zK Z Z Tryz.call220 zP Z) hS10 (fun hs=>wHD W7 U4 hs h13) (.inr Z) ?_
  rintro U15 L16 v17 W18 le19 hS20 ⟨rfl,rfl⟩
  have hS21:sW w U U15 [] W18:=hS20
  refine zw (cs:=[.nilFunc,jV 0,jV 0,.nilFunc,jV 0,jV 0,.nilFunc,jV 0,jV 0]) Z Z Z Z Z Tryz.zeroValue340 Z hS21 ?_
  intro W22 b23 hS24
  let B0:List Value:=[.func (.func 280) #[] #[],jV 1,jV 999,.func (.func 281) #[] #[],jV 1,jV 9999,.func (.func 282) #[] #[],jV 0,jV 30]
  refine ZR (j:=0) (vs:=B0) Z Z Z Z hS24 Z Z Z Z Tryz.sizeOf340 (zI Z) Z Z Z ?_
  intro W26 hS27
  have hS28:sW w U U15 [.blk b23 340 B0] W26:=hS27
  refine eN (zF (sR fL2 rfl (ZC rfl rfl rfl rfl (hS28.ldBA (j:=0) rfl rfl rfl Tryz.isAgg340 Tryz.sizeOf340 (vs:=B0) rfl rfl) rfl (zR rfl rfl rfl rfl rfl rfl (eN (zS (CK.unroll 4 (CKR.succ (sR fL1 rfl (zY rfl rfl rfl rfl (fun _=>zQ rfl rfl rfl) (eN (zF (ZK (Zj (by decide)) (kN (zF (zS (sR (.fl 0 gBr) rfl (zY rfl rfl rfl rfl (fun _=>(Runs.ixA (i:=0) rfl rfl rfl Zx ZL (by decide) (by decide) (wEb Zo ZL rfl))) ?_))))))))))))))))))
  let B1:List Value:=[.nilFunc,jV 0,jV 0]
  refine zw (cs:=B1) Z Z Z Z Z Zm Z hS28 ?_
  intro W29 b30 hS31
  let B2:List Value:=[.func (.func 280) #[] #[],jV 1,jV 999]
  refine ZR (j:=0) (vs:=B2) Z Z Z Z hS31 Z Z Z Z ZL (zI Z) Z Z Z ?_
  intro W33 hS34
  have hS35:sW w U U15 [.blk b30 339 B2,.blk b23 340 B0] W33:=hS34
  refine eN (sR gCf Z (oL Z (hS35.ldBA (j:=0) Z Z Z Zo ZL (vs:=B2) Z Z) (oM Z Z ?_)))
  have hF36:FnOK Tryz.prog U15 (.func (.func 280) #[] #[]) wHR wHS wAW:=⟨280,[],[],rfl,Tryz.call280,fun U1 w1 x y vs le hs ha hm=>by obtain rfl:=ha;exact wCs x w1 U1 hs  hm⟩
  have h37:=ha0.le le8
  have h38:=h37.le le19
  refine bnK hm14 fun x39 h40 hm41=>zL 0 Z Z Z Z (zK Z Z Tryz.call221 (zC Z (zC Z zP)) Z) hS35 (fun hs=>wBs (⟨wAW,1,999⟩:wAN) (.func (.func 280) #[] #[]) p0 pA0 pc0 W33 U15 hs hF36 h38 h40) (.inr Z) ?_
  rintro U42 L43 v44 W45 le46 hS47 ⟨A48,c49,rfl,rfl⟩
  let B3:Res:=.row A48 c49 3 1 (nA KL.encI x39)
  have hS51:sW w U U42 [B3,.blk b30 339 B2,.blk b23 340 B0] W45:=hS47
  have q:=hS51.freeze (k:=1) rfl
  obtain ⟨U52,le53,hC54,hS55⟩:=q
  replace hC54:=Cl.of hC54
  have hS56:sW w U U52 [B3,.blk b23 340 B0] W45:=hS55
  replace hC54:Cl U52 b30 0 B2:=hC54
  refine oR Z (Runs.mkf Z zP (zC Z zP)) ?_
  have q:=hS56.freezeR (k:=0) (n:=x39.length) rfl (wAB (f:=KL.encI) (sz:=1) (fun _=>rfl) x39) (by decide)
  obtain ⟨U57,le58,hs59,hS60⟩:=q
  have hS61:sW w U U57 [.blk b23 340 B0] W45:=hS60
  have h62:=hC54.le le58
  have hF63:FnOK Tryz.prog U57 (.func (.func 280) #[] #[]) wHR wHS wAW:=⟨280,[],[],rfl,Tryz.call280,fun U1 w1 x y vs le hs ha hm=>by obtain rfl:=ha;exact wCs x w1 U1 hs  hm⟩
  have hF64:FnOK Tryz.prog U57 (.func (.func 222) #[] #[.pointer (some ⟨b30,0,none⟩)]) wHB wIH (fun x=>wAf x (⟨wAW,1,999⟩:wAN)):=⟨222,[],[.pointer (some ⟨b30,0,none⟩)],rfl,Tryz.call222,fun U1 w1 x y vs le hs ha hm=>by obtain rfl:=ha;exact wDP x (⟨wAW,1,999⟩:wAN) b30 (.func (.func 280) #[] #[]) w1 U1 hs (h62.le le) (hF63.le le) hm⟩
  refine bnK hm41 fun x65 h66 hm67=>zL 0 Z Z Z Z (zK Z Z Tryz.call180 (zC Z (zC Z zP)) Z) hS61 (fun hs=>wCN x39 A48 c49 (fun x=>wAf x (⟨wAW,1,999⟩:wAN)) (.func (.func 222) #[] #[.pointer (some ⟨b30,0,none⟩)]) W45 U57 hs hs59 hF64 h66) (.inr Z) ?_
  rintro U68 L69 v70 W71 le72 hS73 ⟨rfl,rfl⟩
  have hS74:sW w U U68 [.blk b23 340 B0] W71:=hS73
  refine oR Z (Zf Z Z) (eN (ifc hm67 ?_ ?_))
  ·intro c75 hm76
   refine ZG (nC c75.out) (ZV (zZ (zH (rR fL2 rfl (zY rfl rfl rfl rfl (fun _=>zz (zV rfl rfl rfl) (congrArg (jV) (show w64 (0 + 1)=1 by decide))) (zR rfl rfl rfl rfl rfl rfl (eN (CKR.succ (sR fL1 rfl (zY rfl rfl rfl rfl (fun _=>zQ rfl rfl rfl) (eN (zF (ZK (Zj (by decide)) (kN (zF (zS (sR (.fl 0 gBr) rfl (zY rfl rfl rfl rfl (fun _=>(Runs.ixA (i:=1) rfl rfl rfl Zx ZL (by decide) (by decide) (wEb Zo ZL rfl))) (zw (cs:=B1) rfl rfl rfl rfl rfl Zm rfl hS74 ?_)))))))))))))))))))
   intro W77 b78 hS79
   let B4:List Value:=[.func (.func 281) #[] #[],jV 1,jV 9999]
   refine ZR (j:=0) (vs:=B4) Z Z Z Z hS79 Z Z Z Z ZL (zI Z) Z Z Z ?_
   intro W81 hS82
   have hS83:sW w U U68 [.blk b78 339 B4,.blk b23 340 B0] W81:=hS82
   refine eN (sR gCf Z (oL Z (hS83.ldBA (j:=0) Z Z Z Zo ZL (vs:=B4) Z Z) (oM Z Z ?_)))
   have hF84:FnOK Tryz.prog U68 (.func (.func 281) #[] #[]) wHR wHS wAX:=⟨281,[],[],rfl,Tryz.call281,fun U1 w1 x y vs le hs ha hm=>by obtain rfl:=ha;exact wCt x w1 U1 hs  hm⟩
   have h85:=h38.le le46
   have h86:=h85.le le53
   have h87:=h86.le le58
   have h88:=h87.le le72
   refine bnK hm76 fun x89 h90 hm91=>zL 0 Z Z Z Z (zK Z Z Tryz.call221 (zC Z (zC Z zP)) Z) hS83 (fun hs=>wBs (⟨wAX,1,9999⟩:wAN) (.func (.func 281) #[] #[]) p0 pA0 pc0 W81 U68 hs hF84 h88 h90) (.inr Z) ?_
   rintro U92 L93 v94 W95 le96 hS97 ⟨A98,c99,rfl,rfl⟩
   let B5:Res:=.row A98 c99 3 1 (nA KL.encI x89)
   have hS101:sW w U U92 [B5,.blk b78 339 B4,.blk b23 340 B0] W95:=hS97
   have q:=hS101.freeze (k:=1) rfl
   obtain ⟨U102,le103,hC104,hS105⟩:=q
   replace hC104:=Cl.of hC104
   have hS106:sW w U U102 [B5,.blk b23 340 B0] W95:=hS105
   replace hC104:Cl U102 b78 0 B4:=hC104
   refine oR Z (Runs.mkf Z zP (zC Z zP)) ?_
   have q:=hS106.freezeR (k:=0) (n:=x89.length) rfl (wAB (f:=KL.encI) (sz:=1) (fun _=>rfl) x89) (by decide)
   obtain ⟨U107,le108,hs109,hS110⟩:=q
   have hS111:sW w U U107 [.blk b23 340 B0] W95:=hS110
   have h112:=hC104.le le108
   have hF113:FnOK Tryz.prog U107 (.func (.func 281) #[] #[]) wHR wHS wAX:=⟨281,[],[],rfl,Tryz.call281,fun U1 w1 x y vs le hs ha hm=>by obtain rfl:=ha;exact wCt x w1 U1 hs  hm⟩
   have hF114:FnOK Tryz.prog U107 (.func (.func 222) #[] #[.pointer (some ⟨b78,0,none⟩)]) wHB wIH (fun x=>wAf x (⟨wAX,1,9999⟩:wAN)):=⟨222,[],[.pointer (some ⟨b78,0,none⟩)],rfl,Tryz.call222,fun U1 w1 x y vs le hs ha hm=>by obtain rfl:=ha;exact wDP x (⟨wAX,1,9999⟩:wAN) b78 (.func (.func 281) #[] #[]) w1 U1 hs (h112.le le) (hF113.le le) hm⟩
   refine bnK hm91 fun x115 h116 hm117=>zL 0 Z Z Z Z (zK Z Z Tryz.call180 (zC Z (zC Z zP)) Z) hS111 (fun hs=>wCN x89 A98 c99 (fun x=>wAf x (⟨wAX,1,9999⟩:wAN)) (.func (.func 222) #[] #[.pointer (some ⟨b78,0,none⟩)]) W95 U107 hs hs109 hF114 h116) (.inr Z) ?_
   rintro U118 L119 v120 W121 le122 hS123 ⟨rfl,rfl⟩
   have hS124:sW w U U118 [.blk b23 340 B0] W121:=hS123
   refine oR Z (Zf Z Z) (eN (ifc hm117 ?_ ?_))
   ·intro c125 hm126
    refine ZG (nC c125.out) (ZV (zZ (zH (rR fL2 rfl (zY rfl rfl rfl rfl (fun _=>zz (zV rfl rfl rfl) (congrArg (jV) (show w64 (1 + 1)=2 by decide))) (zR rfl rfl rfl rfl rfl rfl (eN (CKR.succ (sR fL1 rfl (zY rfl rfl rfl rfl (fun _=>zQ rfl rfl rfl) (eN (zF (ZK (Zj (by decide)) (kN (zF (zS (sR (.fl 0 gBr) rfl (zY rfl rfl rfl rfl (fun _=>(Runs.ixA (i:=2) rfl rfl rfl Zx ZL (by decide) (by decide) (wEb Zo ZL rfl))) (zw (cs:=B1) rfl rfl rfl rfl rfl Zm rfl hS124 ?_)))))))))))))))))))
    intro W127 b128 hS129
    let B6:List Value:=[.func (.func 282) #[] #[],jV 0,jV 30]
    refine ZR (j:=0) (vs:=B6) Z Z Z Z hS129 Z Z Z Z ZL (zI Z) Z Z Z ?_
    intro W131 hS132
    have hS133:sW w U U118 [.blk b128 339 B6,.blk b23 340 B0] W131:=hS132
    refine eN (sR gCf Z (oL Z (hS133.ldBA (j:=0) Z Z Z Zo ZL (vs:=B6) Z Z) (oM Z Z ?_)))
    have hF134:FnOK Tryz.prog U118 (.func (.func 282) #[] #[]) wHR wHS wAe:=⟨282,[],[],rfl,Tryz.call282,fun U1 w1 x y vs le hs ha hm=>by obtain rfl:=ha;exact wDj x w1 U1 hs  hm⟩
    have h135:=h88.le le96
    have h136:=h135.le le103
    have h137:=h136.le le108
    have h138:=h137.le le122
    refine bnK hm126 fun x139 h140 hm141=>zL 0 Z Z Z Z (zK Z Z Tryz.call221 (zC Z (zC Z zP)) Z) hS133 (fun hs=>wBs (⟨wAe,0,30⟩:wAN) (.func (.func 282) #[] #[]) p0 pA0 pc0 W131 U118 hs hF134 h138 h140) (.inr Z) ?_
    rintro U142 L143 v144 W145 le146 hS147 ⟨A148,c149,rfl,rfl⟩
    let B7:Res:=.row A148 c149 3 1 (nA KL.encI x139)
    have hS151:sW w U U142 [B7,.blk b128 339 B6,.blk b23 340 B0] W145:=hS147
    have q:=hS151.freeze (k:=1) rfl
    obtain ⟨U152,le153,hC154,hS155⟩:=q
    replace hC154:=Cl.of hC154
    have hS156:sW w U U152 [B7,.blk b23 340 B0] W145:=hS155
    replace hC154:Cl U152 b128 0 B6:=hC154
    refine oR Z (Runs.mkf Z zP (zC Z zP)) ?_
    have q:=hS156.freezeR (k:=0) (n:=x139.length) rfl (wAB (f:=KL.encI) (sz:=1) (fun _=>rfl) x139) (by decide)
    obtain ⟨U157,le158,hs159,hS160⟩:=q
    have hS161:sW w U U157 [.blk b23 340 B0] W145:=hS160
    have h162:=hC154.le le158
    have hF163:FnOK Tryz.prog U157 (.func (.func 282) #[] #[]) wHR wHS wAe:=⟨282,[],[],rfl,Tryz.call282,fun U1 w1 x y vs le hs ha hm=>by obtain rfl:=ha;exact wDj x w1 U1 hs  hm⟩
    have hF164:FnOK Tryz.prog U157 (.func (.func 222) #[] #[.pointer (some ⟨b128,0,none⟩)]) wHB wIH (fun x=>wAf x (⟨wAe,0,30⟩:wAN)):=⟨222,[],[.pointer (some ⟨b128,0,none⟩)],rfl,Tryz.call222,fun U1 w1 x y vs le hs ha hm=>by obtain rfl:=ha;exact wDP x (⟨wAe,0,30⟩:wAN) b128 (.func (.func 282) #[] #[]) w1 U1 hs (h162.le le) (hF163.le le) hm⟩
    refine bnK hm141 fun x165 h166 hm167=>zL 0 Z Z Z Z (zK Z Z Tryz.call180 (zC Z (zC Z zP)) Z) hS161 (fun hs=>wCN x139 A148 c149 (fun x=>wAf x (⟨wAe,0,30⟩:wAN)) (.func (.func 222) #[] #[.pointer (some ⟨b128,0,none⟩)]) W145 U157 hs hs159 hF164 h166) (.inr Z) ?_
    rintro U168 L169 v170 W171 le172 hS173 ⟨rfl,rfl⟩
    have hS174:sW w U U168 [.blk b23 340 B0] W171:=hS173
    refine oR Z (Zf Z Z) (eN (ifc hm167 ?_ ?_))
    ·intro c175 hm176
     refine ZG (nC c175.out) (ZV (zZ (zH (CK.fresh fun σ177 hσ178=>?_))))
     have f179:σ177 0=.slice pA0 p0.length pc0:=(hσ178 0).trans rfl
     have f180:σ177 3=.pointer (some ⟨b23,0,none⟩):=(hσ178 3).trans rfl
     have f181:σ177 13=.agg B0.toArray:=(hσ178 13).trans rfl
     have f182:σ177 14=jV 2:=(hσ178 14).trans rfl
     clear hσ178
     refine rR fL2 rfl (zY rfl rfl rfl rfl (fun _=>zz (zV rfl f182 rfl) (congrArg (jV) (show w64 (2 + 1)=3 by decide))) (zR rfl rfl rfl rfl rfl rfl (eN (CKR.succ (sR fL1 rfl (zY rfl rfl rfl rfl (fun _=>zQ rfl rfl rfl) (eN (zF (ZG (ZU (by decide)) (ZM (ze (ze (ZI (zH (zF (sR fL3 rfl (zY rfl rfl rfl rfl (fun _=>Runs.slAh (k:=2) rfl f180 rfl Zx ZL (by decide)) (zY rfl rfl rfl rfl (fun _=>zo rfl rfl Tryz.runUnderlying342) (zR rfl rfl rfl rfl rfl rfl (eN (zS (CK.unroll 3 (CKR.succ (sR fL1 rfl (zY rfl rfl rfl rfl (fun _=>zQ rfl rfl rfl) (eN (zF (ZK (Zj (by decide)) (kN (zF (zS (sR gCb rfl (zY rfl rfl rfl rfl (fun _=>zz (ZD (k:=0) rfl rfl rfl rfl Tryz.runUnderlying342 ZL (by decide)) rfl) (ZC rfl rfl rfl rfl (hS174.ldBA (j:=0) rfl rfl rfl Zo ZL (vs:=B2) rfl rfl) rfl (zw (cs:=B1) rfl rfl rfl rfl rfl Zm rfl hS174 ?_)))))))))))))))))))))))))))))))))))
     intro W183 b184 hS185
     refine ZR (j:=0) (vs:=B2) Z Z Z Z hS185 Z Z Z Z ZL (zI Z) Z Z Z ?_
     intro W187 hS188
     have hS189:sW w U U168 [.blk b184 339 B2,.blk b23 340 B0] W187:=hS188
     refine eN (sR gCb Z (oL Z (hS189.ldBA (j:=0) Z Z Z Zo ZL (vs:=B2) Z Z) (oM Z f179 ?_)))
     have hF190:FnOK Tryz.prog U168 (.func (.func 280) #[] #[]) wHR wHS wAW:=⟨280,[],[],rfl,Tryz.call280,fun U1 w1 x y vs le hs ha hm=>by obtain rfl:=ha;exact wCs x w1 U1 hs  hm⟩
     have h191:=h138.le le146
     have h192:=h191.le le153
     have h193:=h192.le le158
     have h194:=h193.le le172
     refine bnK hm176 fun x195 h196 hm197=>zL 0 Z Z Z Z (zK Z Z Tryz.call221 (zC Z (zC Z zP)) Z) hS189 (fun hs=>wBs (⟨wAW,1,999⟩:wAN) (.func (.func 280) #[] #[]) p0 pA0 pc0 W187 U168 hs hF190 h194 h196) (.inr Z) ?_
     rintro U198 L199 v200 W201 le202 hS203 ⟨A204,c205,rfl,rfl⟩
     have hS207:sW w U U198 [.row A204 c205 3 1 (nA KL.encI x195),.blk b184 339 B2,.blk b23 340 B0] W201:=hS203
     have q:=hS207.freezeR (k:=0) (n:=x195.length) rfl (wAB (f:=KL.encI) (sz:=1) (fun _=>rfl) x195) (by decide)
     obtain ⟨U208,le209,hs210,hS211⟩:=q
     have hS212:sW w U U208 [.blk b184 339 B2,.blk b23 340 B0] W201:=hS211
     refine bnK hm197 fun x213 h214 hm215=>zL 0 Z Z Z Z (zK Z Z Tryz.call184 (zC Z zP) Z) hS212 (fun hs=>wDv x195 A204 c205 W201 U208 hs hs210 h214) (.inr Z) ?_
     rintro U216 L217 v218 W219 le220 hS221 ⟨rfl,rfl⟩
     have hS222:sW w U U216 [.blk b184 339 B2,.blk b23 340 B0] W219:=hS221
     refine eN (ifc hm215 ?_ ?_)
     ·intro c223 hm224
      refine ZK (congrArg nD c223.out) (sR fL1 Z (oA Z Z (eN (zW (ZJ (zk (zk (ZJ (zk ?_)))))))))
      cases hm224
      exact ⟨rfl,_,(ZF rfl),U216,_,(hS222.pick [] _ (by decide) rfl),rfl,rfl⟩
     ·intro c223 hm225
      refine ZG (congrArg nD (nE.2 c223.out)) (ZV (zZ (zH (rR fL2 rfl (zY rfl rfl rfl rfl (fun _=>zz (zV rfl rfl rfl) (congrArg (jV) (show w64 (0 + 1)=1 by decide))) (zR rfl rfl rfl rfl rfl rfl (eN (CKR.succ (sR fL1 rfl (zY rfl rfl rfl rfl (fun _=>zQ rfl rfl rfl) (eN (zF (ZK (Zj (by decide)) (kN (zF (zS (sR gCb rfl (zY rfl rfl rfl rfl (fun _=>zz (ZD (k:=1) rfl rfl rfl rfl Tryz.runUnderlying342 ZL (by decide)) rfl) (ZC rfl rfl rfl rfl (hS222.ldBA (j:=1) rfl rfl rfl Zo ZL (vs:=B4) rfl rfl) rfl (zw (cs:=B1) rfl rfl rfl rfl rfl Zm rfl hS222 ?_))))))))))))))))))))
      intro W226 b227 hS228
      refine ZR (j:=0) (vs:=B4) Z Z Z Z hS228 Z Z Z Z ZL (zI Z) Z Z Z ?_
      intro W230 hS231
      have hS232:sW w U U216 [.blk b227 339 B4,.blk b184 339 B2,.blk b23 340 B0] W230:=hS231
      refine eN (sR gCb Z (oL Z (hS232.ldBA (j:=0) Z Z Z Zo ZL (vs:=B4) Z Z) (oM Z f179 ?_)))
      have hF233:FnOK Tryz.prog U216 (.func (.func 281) #[] #[]) wHR wHS wAX:=⟨281,[],[],rfl,Tryz.call281,fun U1 w1 x y vs le hs ha hm=>by obtain rfl:=ha;exact wCt x w1 U1 hs  hm⟩
      have h234:=h194.le le202
      have h235:=h234.le le209
      have h236:=h235.le le220
      refine bnK hm225 fun x237 h238 hm239=>zL 0 Z Z Z Z (zK Z Z Tryz.call221 (zC Z (zC Z zP)) Z) hS232 (fun hs=>wBs (⟨wAX,1,9999⟩:wAN) (.func (.func 281) #[] #[]) p0 pA0 pc0 W230 U216 hs hF233 h236 h238) (.inr Z) ?_
      rintro U240 L241 v242 W243 le244 hS245 ⟨A246,c247,rfl,rfl⟩
      have hS249:sW w U U240 [.row A246 c247 3 1 (nA KL.encI x237),.blk b227 339 B4,.blk b184 339 B2,.blk b23 340 B0] W243:=hS245
      have q:=hS249.freezeR (k:=0) (n:=x237.length) rfl (wAB (f:=KL.encI) (sz:=1) (fun _=>rfl) x237) (by decide)
      obtain ⟨U250,le251,hs252,hS253⟩:=q
      have hS254:sW w U U250 [.blk b227 339 B4,.blk b184 339 B2,.blk b23 340 B0] W243:=hS253
      refine bnK hm239 fun x255 h256 hm257=>zL 0 Z Z Z Z (zK Z Z Tryz.call184 (zC Z zP) Z) hS254 (fun hs=>wDv x237 A246 c247 W243 U250 hs hs252 h256) (.inr Z) ?_
      rintro U258 L259 v260 W261 le262 hS263 ⟨rfl,rfl⟩
      have hS264:sW w U U258 [.blk b227 339 B4,.blk b184 339 B2,.blk b23 340 B0] W261:=hS263
      refine eN (ifc hm257 ?_ ?_)
      ·intro c265 hm266
       refine ZK (congrArg nD c265.out) (sR fL1 Z (oA Z Z (eN (zW (ZJ (zk (zk (ZJ (zk ?_)))))))))
       cases hm266
       exact ⟨rfl,_,(ZF rfl),U258,_,(hS264.pick [] _ (by decide) rfl),rfl,rfl⟩
      ·intro c265 hm267
       refine ZG (congrArg nD (nE.2 c265.out)) (ZV (zZ (zH (rR fL2 rfl (zY rfl rfl rfl rfl (fun _=>zz (zV rfl rfl rfl) (congrArg (jV) (show w64 (1 + 1)=2 by decide))) (zR rfl rfl rfl rfl rfl rfl (eN (CKR.succ (sR fL1 rfl (zY rfl rfl rfl rfl (fun _=>zQ rfl rfl rfl) (eN (zF (ZG (ZU (by decide)) (ZM (ze (ze (ZI (zH (sR fL1 rfl (Zb rfl rfl rfl rfl rfl rfl (eN (zW ?_))))))))))))))))))))))
       cases hm267
       exact ⟨rfl,_,(ZF rfl),U258,_,(hS264.pick [] _ (by decide) rfl),rfl,rfl⟩
    ·intro c175 hm268
     refine ZK (nF (c175.out)) (sR fL1 Z (oA Z Z (eN (zW (ZJ (zk (zk (ZJ (zk ?_)))))))))
     cases hm268
     exact ⟨rfl,_,(ZF rfl),U168,_,(hS174.pick [] _ (by decide) rfl),rfl,rfl⟩
   ·intro c125 hm269
    refine ZK (nF (c125.out)) (sR fL1 Z (oA Z Z (eN (zW (ZJ (zk (zk (ZJ (zk ?_)))))))))
    cases hm269
    exact ⟨rfl,_,(ZF rfl),U118,_,(hS124.pick [] _ (by decide) rfl),rfl,rfl⟩
  ·intro c75 hm270
   refine ZK (nF (c75.out)) (sR fL1 Z (oA Z Z (eN (zW (ZJ (zk (zk (ZJ (zk ?_)))))))))
   cases hm270
   exact ⟨rfl,_,(ZF rfl),U68,_,(hS74.pick [] _ (by decide) rfl),rfl,rfl⟩
 ·intro c11 hm271
  refine ZK (nF (c11.out)) (sR fL1 Z (oA Z Z (eN (zW (zk ?_)))))
  cases hm271
  exact ⟨Z,_,(ZF Z),U4,_,hS10,Z,Z⟩
theorem wET (p0:Int) (w:World) (U:PHeap) (hS:St0 w U [])  {r:Bool} (hm:wBz p0=some r):Gv Tryz.prog 174 [jV p0] w (wCO w [] U (fun U_ L_ v=>v=.bool r/\L_=[])):=by
 unfold wBz at hm
 refine Gv.of Tryz.func174 Z Tryz.ntmps174 Tryz.results174 Z (sR fL1 Z (oA Z Z (eN (sR fL4 Z (oM Z Z (oM Z Z (oR Z (Zp Z Z Z) (oA Z Z (eN (zW ?_))))))))))
 cases hm
 exact ⟨Z,_,(ZF Z),U,_,hS,Z,Z⟩
theorem wCu (p0:Int) (p1:Int) (w:World) (U:PHeap) (hS:St0 w U [])  {r:Int} (hm:wAz p0 p1=some r):Gv Tryz.prog 95 [jV p0,jV p1] w (wCO w [] U (fun U_ L_ v=>v=jV r/\L_=[])):=by
 unfold wAz at hm
 refine Gv.of Tryz.func95 Z Tryz.ntmps95 Tryz.results95 Z (sR fL1 Z (oA Z Z (eN (sR gBw Z (oM Z Z (bnK hm fun x1 h2 hm3=>zL 0 Z Z Z Z (zK Z Z Tryz.call174 (zC Z zP) Z) hS (fun hs=>wET p0 w U hs h2) (.inr Z) ?_))))))
 rintro U4 L5 v6 W7 le8 hS9 ⟨rfl,rfl⟩
 have hS10:sW w U U4 [] W7:=hS9
 refine oA Z Z (eN (sR gBw Z (oM Z Z (bnK hm3 fun x11 h12 hm13=>zL 0 Z Z Z Z (zK Z Z Tryz.call174 (zC Z zP) Z) hS10 (fun hs=>wET p1 W7 U4 hs h12) (.inr Z) ?_))))
 rintro U14 L15 v16 W17 le18 hS19 ⟨rfl,rfl⟩
 have hS20:sW w U U14 [] W17:=hS19
 refine oA Z Z (eN (zF (sR fL1 Z (oM Z Z (eN (ifc hm13 ?_ ?_))))))
 ·intro c21 hm22
  refine ZK (congrArg nD c21.out) (zF (sR fL1 Z (oM Z Z (eN (ifc hm22 ?_ ?_)))))
  ·intro c23 hm24
   refine ZK (congrArg nD c23.out) (sR fL1 Z (oA Z Z (eN (zW (zk (zk ?_))))))
   cases hm24
   exact ⟨Z,_,(ZF Z),U14,_,hS20,Z,Z⟩
  ·intro c23 hm25
   refine ZG (congrArg nD (nE.2 c23.out)) (kN (sR fL1 Z (oA Z Z (eN (zW (zk ?_))))))
   cases hm25
   exact ⟨Z,_,(ZF Z),U14,_,hS20,Z,Z⟩
 ·intro c21 hm26
  refine ZG (congrArg nD (nE.2 c21.out)) (kN (zF (sR fL1 Z (oM Z Z (eN (ifc hm26 ?_ ?_))))))
  ·intro c27 hm28
   refine ZK (congrArg nD c27.out) (sR fL1 Z (oA Z Z (eN (zW (zk ?_)))))
   cases hm28
   exact ⟨Z,_,(ZF Z),U14,_,hS20,Z,Z⟩
  ·intro c27 hm29
   refine ZG (congrArg nD (nE.2 c27.out)) (kN (zF (sR fL3 Z (oM Z Z (oM Z Z (oR Z (zQ Z Z Z) (eN (ifc hm29 ?_ ?_))))))))
   ·intro c30 hm31
    refine cT Z c30 (sR fL1 Z (oA Z Z (eN (zW (zk ?_)))))
    cases hm31
    exact ⟨Z,_,(ZF Z),U14,_,hS20,Z,Z⟩
   ·intro c30 hm32
    refine cF Z c30 (kN (zF (sR fL3 Z (oM Z Z (oM Z Z (oR Z (Runs.gtr Z Z Z) (eN (ifc hm32 ?_ ?_))))))))
    ·intro c33 hm34
     refine cT Z c33 (sR fL1 Z (oA Z Z (eN (zW (zk ?_)))))
     cases hm34
     exact ⟨Z,_,(ZF Z),U14,_,hS20,Z,Z⟩
    ·intro c33 hm35
     refine cF Z c33 (kN (sR fL1 Z (oA Z Z (eN (zW ?_)))))
     cases hm35
     exact ⟨Z,_,(ZF Z),U14,_,hS20,Z,Z⟩
theorem wGF (p0:Int) (p1:Int) (p2:List wAA) (pb2:Nat) (pA2:Option Addr) (pc2:Nat) (w:World) (U:PHeap) (hS:St0 w U []) (ha0:Cl U pb2 0 [.slice pA2 p2.length pc2]) (ha1:Sl U 3 pA2 pc2 p2.length (nA wAK p2)) {r:Int} (hm:wAj p0 p1 p2=some r):Gv Tryz.prog 224 [jV p0,jV p1,.pointer (some ⟨pb2,0,none⟩)] w (wCO w [] U (fun U_ L_ v=>v=jV r/\L_=[])):=by
 unfold wAj at hm
 refine Gv.of Tryz.func224 rfl Tryz.ntmps224 Tryz.results224 rfl (sR fL1 rfl (Zb rfl rfl rfl rfl rfl rfl (eN (zF (Ze Za [1,3,3,3,1,1,3,3,3,1,2,3] (wTY (.fx 10 (.fl 11 .nil) .stop)) (by kernel_rfl) ?_)))))
 have hS1:=hS.drew
 generalize hw_W2:({ w with drawn:=w.drawn + 1 }:World)=W2 at hS1 ⊢
 refine oL Z (hS1.ldC (f:=0) ha0 (v:=.slice pA2 p2.length pc2) Z Z Zg Z) (oM Z Z (bnK hm fun x3 h4 hm5=>?_))
 have q:=ha1.el (fun _=>rfl) (wAZ h4)
 obtain ⟨b6,off7,hA8,hC9⟩:=q
 refine oR Z (ZS Z Z hA8 Z ZA ZW (wCC h4) (wCG h4)) (oR Z (zX Z Z Zc Z zB) (oL Z (hS1.ldC (f:=2) hC9 (v:=jV x3.Rank) Z Z zJ Z) (oL Z (hS1.ldC (f:=0) ha0 (v:=.slice pA2 p2.length pc2) Z Z Zg Z) (oM Z Z (bnK hm5 fun x10 h11 hm12=>?_)))))
 have q:=ha1.el (fun _=>rfl) (wAZ h11)
 obtain ⟨b13,off14,hA15,hC16⟩:=q
 refine oR Z (ZS Z Z hA15 Z ZA ZW (wCC h11) (wCG h11)) (oR Z (zX Z Z Zc Z zB) (oL Z (hS1.ldC (f:=2) hC16 (v:=jV x10.Rank) Z Z zJ Z) (bnK hm12 fun x17 h18 hm19=>zL 0 Z Z Z Z (zK Z Z Tryz.call95 (zC Z (zC Z zP)) Z) hS1 (fun hs=>wCu x3.Rank x10.Rank W2 U hs h18) (.inr Z) ?_)))
 rintro U20 L21 v22 W23 le24 hS25 ⟨rfl,rfl⟩
 have hS26:sW w U U20 [] W23:=hS25
 refine oA Z Z (eN (zW ?_))
 have hE:=nB hm19;first | subst r | cases hE
 exact ⟨Z,_,(ZF Z),U20,_,hS26,Z,Z⟩
theorem wDb (p0:List Int) (pA0:Option Addr) (pc0:Nat) (p1:((Int × Int)->Option Int)) (pv1:Value) (w:World) (U:PHeap) (hS:St ⟨w,[.row pA0 pc0 3 1 (nA KL.encI p0)],U⟩ U [.row pA0 pc0 3 1 (nA KL.encI p0)] w) (ha0:FnOK Tryz.prog U pv1 ar69 rr69 p1) (ha1:∃ g cb,pv1=.func (.func g) #[] cb) {r:List Int} (hm:wBx p0 p1=some r):Gv Tryz.prog 223 [.slice pA0 p0.length pc0,pv1] w (wCO w [.row pA0 pc0 3 1 (nA KL.encI p0)] U (fun U_ L_ v=>v=.tuple #[]/\L_=[.row pA0 pc0 3 1 (nA KL.encI r)]/\r.length=p0.length)) :=
 wNB (enc1:=(fun x=>.int .i64 x)) (fun _=>rfl) (fun _=>rfl) (fun _ _ _=>rfl) (fun _ _ _ _ h=>h.1) (fun enc a cf b g cb k1 k2 k3 d w h1 h2 h3 h4 h5 h6=>Go.Proofs.Tryz.slices_SortFunc_total enc a cf b g cb k1 k2 k3 d w h1 h2 h3 h4 h5 h6) (fun p c v w=>Go.Proofs.Tryz.slices_SortFunc_none_f223 (α:=Int) p c v w) hS ha0 ha1 hm
theorem wDc (p0:List wAA) (pA0:Option Addr) (pc0:Nat) (w:World) (U:PHeap) (hS:St0 w U []) (ha0:Sl U 3 pA0 pc0 p0.length (nA wAK p0)) {r:(List Int)} (hm:wBF p0=some r):Gv Tryz.prog 143 [.slice pA0 p0.length pc0] w (wCO w [] U (fun U_ L_ v=>∃ (A0:Option Addr) (c0:Nat),v=.slice A0 r.length c0/\L_=[.row A0 c0 3 1 (nA KL.encI r)])):=by
 unfold wBF at hm
 refine Gv.of Tryz.func143 rfl Tryz.ntmps143 Tryz.results143 rfl (sR gBp rfl (Zl (cs:=[.slice pA0 p0.length pc0]) rfl rfl rfl rfl rfl rfl (by rfl) hS ?_))
 intro W1 b2 hS3
 have q:=hS3.freeze (k:=0) rfl
 obtain ⟨U5,le6,hC7,hS8⟩:=q
 replace hC7:=Cl.of hC7
 have hS9:sW w U U5 [] W1:=hS8
 replace hC7:Cl U5 b2 0 [.slice pA0 p0.length pc0]:=hC7
 refine oA Z Z (eN (sR gCa Z (oL Z (hS9.ldC (f:=0) hC7 (v:=.slice pA0 p0.length pc0) Z Z Zg Z) (oR Z (zo Z Z ZA) (bnK hm fun x10 h11 hm12=>Zu (enc:=KL.encI) (z:=(0:Int)) (v:=jV 0) Z Z Z Z Z (wCV zA) wCc Z Z Z Z Z Z h11 hS9 ?_)))))
 intro W13 b14 hS15
 have hS17:sW w U U5 [.row (some ⟨b14,0,none⟩) x10.length 3 1 (nA KL.encI x10)] W13:=hS15
 refine oA Z Z (eN (zF (sR fL3 Z (oL Z (hS17.ldC (f:=0) hC7 (v:=.slice pA0 p0.length pc0) Z Z Zg Z) (oR Z (zo Z Z ZA) (oM Z Z (eN (zS (bnK hm12 fun y29 hf26 hm25=>?_)))))))))
 have q:=wAx hf26
 obtain ⟨hle27,hf28⟩:=q
 replace hle27:=zD hle27
 refine CK.forN' (fun k24 l23 σ_ w_=>∃ (U_:PHeap),σ_ 10=jV (↑k24:Int)/\σ_ 1=.pointer (some ⟨b2,0,none⟩)/\σ_ 3=.slice (some ⟨b14,0,none⟩) l23.length x10.length/\σ_ 9=jV (↑p0.length:Int)/\PHeap.Le U5 U_/\sW w U U_ [.row (some ⟨b14,0,none⟩) x10.length 3 1 (nA KL.encI l23)] w_/\l23.length=x10.length) hf28 ?_ ?_ ?_
 ·exact ⟨U5,Z,Z,Z,Z,(zG _),hS17,Z⟩
 ·rintro k24 l23 xx32 σ30 W31 hk35 ⟨U37,fi36,f40,f41,f42,le38,hS39,h43⟩ hx33
  have c44:Hid ((↑k24:Int) < (↑p0.length:Int)):=zD (wBT hk35)
  replace hk35:=zD hk35
  have hi45:Hid (w64 ((↑k24:Int) + 1)=(↑(k24 + 1):Int)):=zD (by have h1:=hle27.out;have h2:=c44.out;rw [wAU] <;> omega)
  refine sR fL1 Z (oR Z (zQ Z fi36 f42) (eN (zF (cT Z c44 (kN (zF (zS (sR fL2 Z (oM Z fi36 (oA Z Z (eN (rR (wHL (.fx 4 .nil .stop)) Z (oM Z f41 (oM Z Z (oM Z Z (bnK hx33 fun _ h46 hm47=>oR Z (ZD Z Z Z Z zA zB (wAP h46)) ?_))))))))))))))))
  have hg48:=wBM (xs:=l23) (wAP h46)
  refine OKS.stR (j:=0) (vs:=[jV (↑k24:Int)]) (cs':=nA KL.encI (nJ l23 k24 (↑k24:Int))) rfl rfl rfl rfl hS39 rfl rfl rfl rfl rfl zB (by rw [wAB (f:=KL.encI) (sz:=1) (fun _=>rfl)];have hz:=wAP h46;show _ + 1 <= _;first | omega | (simp only [nM];omega) | (simp only [nK,nG,nH];omega)) rfl (wDo (sz:=1) (fo:=0) (fun _=>rfl) _ _ _ _ hg48 (by first | omega | (simp only [nM];omega) | (simp only [nK,nG,nH];omega)) (zI rfl) rfl) rfl ?_
  intro W49 hS50
  have hS51:sW w U U37 [.row (some ⟨b14,0,none⟩) x10.length 3 1 (nA KL.encI (nJ l23 k24 (↑k24:Int)))] W49:=hS50
  refine zx (zZ (zH (rR fL2 Z (oR Z (zz (zV Z fi36 Z) (congrArg (jV) hi45.out)) (oM Z Z (zx ?_))))))
  cases hm47
  exact zH ⟨rfl,⟨U37,rfl,f40,(nS (b:=(.slice (some ⟨b14,0,none⟩) l23.length x10.length:Value)) (c:=(.slice (some ⟨b14,0,none⟩) ((nJ l23 k24 (↑k24:Int)).length) x10.length:Value)) f41 (by simp only [nL])),f42,le38,hS51,(nL.trans h43)⟩⟩
 ·rintro σ53 W54 ⟨U58,fi56,f61,f62,f63,le59,hS60,h64⟩
  have c65:Hid (¬ ((↑(((↑p0.length:Int):Int) - 0).toNat:Int) < (↑p0.length:Int))):=zD (wAr)
  refine sR fL1 Z (oR Z (zQ Z fi56 f63) (eN (zF (cF Z c65 (ZM (ze (ze (ZI (zH (sR gBy Z (oM Z f62 (oR Z (Runs.mkf Z zP (zC f61 zP)) ?_))))))))))))
  have h66:=hC7.le le59
  have h67:=ha0.le le6
  have h68:=h67.le le59
  have hF69:FnOK Tryz.prog U58 (.func (.func 224) #[] #[.pointer (some ⟨b2,0,none⟩)]) ar69 rr69 (fun x=>wAj x.1 x.2 p0):=⟨224,[],[.pointer (some ⟨b2,0,none⟩)],rfl,Tryz.call224,fun U1 w1 x y vs le hs ha hm=>by obtain rfl:=ha;exact wGF x.1 x.2 p0 b2 pA0 pc0 w1 U1 hs (h66.le le) (h68.le le) hm⟩
  refine bnK hm25 fun x70 h71 hm72=>zL 1 Z Z Z Z (zK Z Z Tryz.call223 (zC Z (zC Z zP)) Z) hS60 (fun hs=>wDb y29 (some ⟨b14,0,none⟩) x10.length (fun x=>wAj x.1 x.2 p0) (.func (.func 224) #[] #[.pointer (some ⟨b2,0,none⟩)]) W54 U58 hs hF69 ⟨_,_,Z⟩ h71) (.inl Z) ?_
  rintro U73 L74 v75 W76 le77 hS78 ⟨rfl,rfl,h79⟩
  have hS80:sW w U U73 [.row (some ⟨b14,0,none⟩) x10.length 3 1 (nA KL.encI x70)] W76:=hS78
  refine eN (sR fL2 rfl (zR rfl rfl rfl rfl rfl (nS (b:=(.slice (some ⟨b14,0,none⟩) y29.length x10.length:Value)) (c:=(.slice (some ⟨b14,0,none⟩) x70.length x10.length:Value)) f62 (by rw [h79])) (Zb rfl rfl rfl rfl rfl rfl (eN (zW ?_)))))
  have hE:=nB hm72;first | subst r | cases hE
  exact ⟨Z,_,(ZF Z),U73,_,hS80,(some ⟨b14,0,none⟩),x10.length,Z,Z⟩
end Go.Proofs.YtglpalgiipahjaaGreat
namespace Go.Proofs.YtglpalgiipahjaaGreat
open Go.KL
set_option maxHeartbeats 4000000
theorem wFb (p0:List wAA) (pA0:Option Addr) (pc0:Nat) (p1:Int) (w:World) (U:PHeap) (hS:St0 w U []) (ha0:Sl U 3 pA0 pc0 p0.length (nA wAK p0)) {r:(List wAt) × Int} (hm:wBu p0 p1=some r):Gv Tryz.prog 72 [.slice pA0 p0.length pc0,jV p1] w (wCO w [] U (fun U_ L_ v=>∃ (A0:Option Addr) (c0:Nat),v=.tuple #[.slice A0 r.1.length c0,jV r.2]/\L_=[.row A0 c0 148 3 (nA wAY r.1)])):=by
 unfold wBu at hm
 refine Gv.of Tryz.func72 Z Tryz.ntmps72 Tryz.results72 Z (sR fL2 Z (oA Z Z (oA Z Z (eN (sR gBw Z (oM Z Z (bnK hm fun x1 h2 hm3=>zL 0 Z Z Z Z (zK Z Z Tryz.call141 (zC Z zP) Z) hS (fun hs=>wFa p0 pA0 pc0 w U hs ha0 h2) (.inr Z) ?_)))))))
 rintro U4 L5 v6 W7 le8 hS9 ⟨rfl,rfl⟩
 have hS10:sW w U U4 [] W7:=hS9
 refine oA Z Z (eN (zF (zS (sR fL3 Z (oM Z Z (oR Z (Zp Z Z Z) (oA Z Z (eN (ifc hm3 ?_ ?_)))))))))
 ·intro c11 hm12
  refine ZG (ZU (fun h=>h c11.out)) (sR gCc Z (oM Z Z (bnK hm12 fun x13 h14 hm15=>zL 0 Z Z Z Z (zK Z Z Tryz.call142 (zC Z (zC Z (zC Z zP))) Z) hS10 (fun hs=>wCr p1 1 20 W7 U4 hs h14) (.inr Z) ?_)))
  rintro U16 L17 v18 W19 le20 hS21 ⟨rfl,rfl⟩
  have hS22:sW w U U16 [] W19:=hS21
  refine oR Z (Zf Z Z) (oA Z Z (eN (ifc hm15 ?_ ?_)))
  ·intro c23 hm24
   refine ZG (nC c23.out) (ZV (zZ (zH (sR (wMI gBo) Z (oM Z Z (oR Z (zV Z Z Z) (bnK hm24 fun x25 h26 hm27=>oR Z (Runs.quo Z Z Z h26) (zU (pv:=[(0,jV x25)]) (zs:=[jV 0]) (cs:=[jV x25]) Z Z Z Z Z (wAH Z wAQ) zA zB zt Z Z Z Z Z hS22 ?_))))))))
   intro W28 b29 hS30
   have hS32:sW w U U16 [.row (some ⟨b29,0,none⟩) 1 3 1 (nA KL.encI [x25])] W28:=hS30
   refine oA Z Z (eN (zF (sR fL1 Z (oA Z Z (eN (zS (CK.iter (fun (l45,x48) σ_ w_=>∃ (U_:PHeap) (A46:Option Addr) (c47:Nat),σ_ 0=.slice pA0 p0.length pc0/\σ_ 1=jV p1/\σ_ 7=.slice A46 l45.length c47/\σ_ 8=jV x48/\PHeap.Le U16 U_/\sW w U U_ [.row A46 c47 3 1 (nA KL.encI l45)] w_) hm27 ?_ ?_)))))))
   ·exact ⟨U16,(some ⟨b29,0,none⟩),1,Z,Z,Z,Z,(zG _),hS32⟩
   ·rintro ⟨l45,x48⟩ xx51 σ49 W50 ⟨U56,A46,c47,f59,f60,f61,f62,le57,hS58⟩ hx52 hb53
    try dsimp only at hx52
    refine zF (sR fL4 Z (oM Z f61 (oR Z (zo Z Z zA) (oM Z f60 (oR Z (zQ Z Z Z) (eN ?_))))))
    by_cases c63:(↑l45.length:Int) < p1
    ·have hm64:=hx52;rw [if_pos c63] at hm64;replace c63:=zD c63
     refine cT Z c63 (kN (zF (zS (zF (Ze Za [3,3,1,3,3,3,3,1,3,3,3,3] fL12 (by kernel_rfl) ?_)))))
     have hS65:=hS58.drew
     generalize hw_W66:({ W50 with drawn:=W50.drawn + 1 }:World)=W66 at hS65 ⊢
     refine oM Z f61 (bnK hm64 fun _ h67 hm68=>?_)
     obtain ⟨b69,hA70⟩:=hS65.rowSome (j:=0) rfl (by rw [wAB (f:=KL.encI) (sz:=1) (fun _=>rfl) l45];have hz:=wAP h67;omega)
     refine oR Z (ZD Z Z hA70 Z zA zB (wAP h67)) ?_
     have hg71:=wBM (xs:=l45) (wAP h67)
     refine ZC rfl rfl rfl rfl (hS65.ldR (j:=0) rfl hA70 rfl rfl zJ (wAO (sz:=1) (fun _=>rfl) _ _ 0 _ hg71 (by first | omega | rfl | simp) rfl)) rfl (zR rfl rfl rfl rfl rfl f62 (zY rfl rfl rfl rfl (fun _=>zV rfl rfl rfl) (zR rfl rfl rfl rfl rfl f61 (zY rfl rfl rfl rfl (fun _=>ZD rfl rfl hA70 rfl zA zB (wAP h67)) ?_))))
     have hg72:=wBM (xs:=l45) (wAP h67)
     refine ZC rfl rfl rfl rfl (hS65.ldR (j:=0) rfl hA70 rfl rfl zJ (wAO (sz:=1) (fun _=>rfl) _ _ 0 _ hg72 (by first | omega | rfl | simp) rfl)) rfl (zR rfl rfl rfl rfl rfl f62 (zY rfl rfl rfl rfl (fun _=>Zn rfl rfl rfl) ?_))
     let B0:List Value:=[jV (w64 ((gd l45 0) + x48)),jV (w64 ((gd l45 0) - x48))]
     refine oR Z (Runs.buildA (pv:=[(0,jV (w64 ((gd l45 0) + x48))),(1,jV (w64 ((gd l45 0) - x48)))]) (z:=[jV 0,jV 0]) (cs:=B0) Z (wAH Z (wAH Z wAQ)) Tryz.zeroValue249 Tryz.runUnderlying249 zB Z Z) (oM Z Z (eN (zS (bnK hm68 fun y92 hf89 hm88=>?_))))
     have q:=wAx hf89
     obtain ⟨hle90,hf91⟩:=q
     replace hle90:=zD hle90
     refine CK.forN' (fun k87 l84 σ_ w_=>∃ (U_:PHeap) (A85:Option Addr) (c86:Nat),σ_ 45=jV (↑k87:Int)/\σ_ 0=.slice pA0 p0.length pc0/\σ_ 1=jV p1/\σ_ 7=.slice A85 l84.length c86/\σ_ 8=jV x48/\σ_ 44=.agg B0.toArray/\PHeap.Le U56 U_/\sW w U U_ [.row A85 c86 3 1 (nA KL.encI l84)] w_) hf91 ?_ ?_ ?_
     ·exact ⟨U56,A46,c47,Z,f59,f60,f61,f62,Z,(zG _),hS65⟩
     ·rintro k87 l84 xx95 σ93 W94 hk98 ⟨U100,A85,c86,fi99,f103,f104,f105,f106,f107,le101,hS102⟩ hx96
      have c108:Hid ((↑k87:Int) < 2):=zD (wBT hk98)
      replace hk98:=zD hk98
      have hi109:Hid (w64 ((↑k87:Int) + 1)=(↑(k87 + 1):Int)):=zD (by have h1:=hle90.out;have h2:=c108.out;rw [wAU] <;> omega)
      refine sR fL1 Z (oR Z (zQ Z fi99 Z) (eN (zF (cT Z c108 (kN (zF (zS (sR fL2 Z (bnK hx96 fun x110 h111 hm112=>oR Z (Runs.ixA (cs:=nA KL.encI ([w64 ((gd l45 0) + x48),w64 ((gd l45 0) - x48)]:List Int)) Z f107 fi99 Tryz.runUnderlying249 zB (wCC h111) (wCG h111) (wDJ zJ (wCQ (sz:=1) (fun _=>Z) _ _ 0 _ _ (wAZ h111) Z))) (oA Z Z (eN (sR gBy Z (oM Z Z (oM Z f104 (bnK hm112 fun x113 h114 hm115=>zL 0 Z Z Z Z (zK Z Z Tryz.call142 (zC Z (zC Z (zC Z zP))) Z) hS102 (fun hs=>wCr x110 1 p1 W94 U100 hs h114) (.inr Z) ?_)))))))))))))))
      rintro U116 L117 v118 W119 le120 hS121 ⟨rfl,rfl⟩
      let B1:Res:=.row A85 c86 3 1 (nA KL.encI l84)
      have hS122:sW w U U116 [B1] W119:=hS121
      refine eN (ifc hm115 ?_ ?_)
      ·intro c123 hm124
       refine ZK (congrArg nD c123.out) (rR gCe Z (oM Z f105 (oM Z Z (zU (pv:=[(0,jV x110)]) (zs:=[jV 0]) (cs:=[jV x110]) Z Z Z Z Z (wAH Z wAQ) zA zB zt Z Z Z Z Z hS122 ?_))))
       intro W125 b126 hS127
       let B2:Res:=.row (some ⟨b126,0,none⟩) 1 3 1 (nA KL.encI [x110])
       have hS129:sW w U U116 [B2,B1] W125:=hS127
       refine bnK hm124 fun x130 h131 hm132=>ZO (j:=1) (enc:=KL.encI) (xs:=l84) (ys:=[x110]) (zs:=x130) rfl rfl rfl rfl rfl zu wCc rfl rfl rfl rfl rfl rfl hS129 rfl rfl rfl (hS129.srcR (j:=0) rfl (by decide) (wAB (f:=KL.encI) (sz:=1) (fun _=>rfl) [x110])) (fun _=>rfl) (fun _=>rfl) h131 rfl ?_
       intro A133 c134 W135 hS136
       have hS137:sW w U U116 [B2,.row A133 c134 3 1 (nA KL.encI x130)] W135:=hS136
       refine oA Z Z (zx (zZ (zH (rR fL2 Z (oR Z (zz (zV Z fi99 Z) (congrArg (jV) hi109.out)) (oM Z Z (zx ?_)))))))
       cases hm132
       exact zH ⟨rfl,⟨U116,A133,c134,rfl,f103,f104,rfl,f106,f107,(le101.trans le120),(hS137.pick [1] _ (by decide) rfl)⟩⟩
      ·intro c123 hm141
       refine ZG (congrArg nD (nE.2 c123.out)) (ZV (zZ (zH (rR fL2 Z (oR Z (zz (zV Z fi99 Z) (congrArg (jV) hi109.out)) (oM Z Z (zx ?_)))))))
       cases hm141
       exact zH ⟨Z,⟨U116,A85,c86,Z,f103,f104,f105,f106,f107,(le101.trans le120),hS122⟩⟩
     ·rintro σ145 W146 ⟨U154,A152,c153,fi148,f157,f158,f159,f160,f161,le155,hS156⟩
      have c162:Hid (¬ ((↑((2:Int) - 0).toNat:Int) < 2)):=zD (wAr)
      refine sR fL1 Z (oR Z (zQ Z fi148 Z) (eN (zF (cF Z c162 (ZM (ze (ze (ZI (zZ (zH (rR fL3 Z (oM Z f160 (oR Z (zV Z Z Z) (oA Z Z (zx ?_)))))))))))))))
      obtain rfl:=nB hm88
      exact zH ⟨Z,_,Z,⟨U154,A152,c153,f157,f158,f159,Z,(le57.trans le155),hS156⟩⟩
    ·have hm167:=hx52;rw [if_neg c63] at hm167;replace c63:=zD c63
     refine cF Z c63 (ZM (ze ?_))
     have q:=wCP hm167
     obtain ⟨v168,hm169,e170⟩:=q
     obtain rfl:=hb53 v168 e170
     refine ze (ZI (zH (sR fL1 Z (oA Z Z (eN (zF (sR gCc Z (oM Z f59 ?_))))))))
     have h171:=ha0.le le8
     have h172:=h171.le le20
     have h173:=h172.le le57
     refine bnK hm169 fun x174 h175 hm176=>zL 0 Z Z Z Z (zK Z Z Tryz.call143 (zC Z zP) Z) hS58 (fun hs=>wDc p0 pA0 pc0 W50 U56 hs h173 h175) (.inr Z) ?_
     rintro U177 L178 v179 W180 le181 hS182 ⟨A183,c184,rfl,rfl⟩
     let B3:Res:=.row A183 c184 3 1 (nA KL.encI x174)
     let B4:Res:=.row A46 c47 3 1 (nA KL.encI l45)
     have hS186:sW w U U177 [B3,B4] W180:=hS182
     refine oR Z (zo Z Z zA) (oM Z Z (eN (zS (bnK hm176 fun y209 hf206 hm205=>?_))))
     have q:=wAx hf206
     obtain ⟨hle207,hf208⟩:=q
     replace hle207:=zD hle207
     refine CK.forN' (fun k204 l200 σ_ w_=>∃ (U_:PHeap) (A201:Option Addr) (c202:Nat),σ_ 59=jV (↑k204:Int)/\σ_ 0=.slice pA0 p0.length pc0/\σ_ 1=jV p1/\σ_ 7=.slice A46 l45.length c47/\σ_ 11=.slice A201 l200.length c202/\σ_ 57=.slice A183 x174.length c184/\σ_ 58=jV (↑x174.length:Int)/\PHeap.Le U177 U_/\sW w U U_ [B4,.row A201 c202 148 3 (nA wAY l200),B3] w_) hf208 ?_ ?_ ?_
     ·have hS210:=hS186.nilrow 148 3
      exact ⟨U177,none,0,rfl,f59,f60,f61,rfl,rfl,rfl,(zG _),(hS210.pick [2,0,1] _ (by decide) rfl)⟩
     ·rintro k204 l200 xx214 σ212 W213 hk217 ⟨U219,A201,c202,fi218,f222,f223,f224,f225,f226,f227,le220,hS221⟩ hx215
      have c228:Hid ((↑k204:Int) < (↑x174.length:Int)):=zD (wBT hk217)
      replace hk217:=zD hk217
      have hi229:Hid (w64 ((↑k204:Int) + 1)=(↑(k204 + 1):Int)):=zD (by have h1:=hle207.out;have h2:=c228.out;rw [wAU] <;> omega)
      refine sR fL1 Z (oR Z (zQ Z fi218 f227) (eN (zF (cT Z c228 (kN (zF (zS (sR fL5 Z (oM Z fi218 (bnK hx215 fun _ h230 hm231=>?_))))))))))
      obtain ⟨b232,hA233⟩:=hS221.rowSome (j:=2) rfl (by rw [wAB (f:=KL.encI) (sz:=1) (fun _=>rfl) x174];have hz:=wAP h230;omega)
      refine oR Z (ZD Z f226 hA233 fi218 zA zB (wAP h230)) ?_
      have hg234:=wBM (xs:=x174) (wAP h230)
      refine ZC rfl rfl rfl rfl (hS221.ldR (j:=2) rfl hA233 rfl rfl zJ (wAO (sz:=1) (fun _=>rfl) _ _ 0 _ hg234 (by first | omega | rfl | simp) rfl)) rfl (Zb rfl rfl rfl rfl rfl rfl (Zb rfl rfl rfl rfl rfl rfl (eN (Ze Za [3,3,3,3,3,1,3,3,3,3,3,3,3,3,3,1,3,2,0,3] (wOo (.fx 17 (.fx 18 (.fl 19 .nil) .stop) .stop)) (by kernel_rfl) ?_))))
      have hS235:=hS221.drew
      generalize hw_W236:({ W213 with drawn:=W213.drawn + 1 }:World)=W236 at hS235 ⊢
      refine oM Z f225 (oM Z f222 (oM Z Z (bnK hm231 fun x237 h238 hm239=>?_)))
      have h240:=h173.le le181
      have h241:=h240.le le220
      have q:=h241.el (fun _=>rfl) (wAZ h238)
      obtain ⟨b242,off243,hA244,hC245⟩:=q
      refine oR Z (ZS Z Z hA244 Z ZA ZW (wCC h238) (wCG h238)) (oR Z (zX Z Z Zc Z zB) (oL Z (hS235.ldC (f:=0) hC245 (v:=jV x237.Bib) Z Z zJ Z) (oM Z Z (oM Z f223 (bnK hm239 fun x246 h247 hm248=>oR Z (Runs.quo Z Z Z h247) (oR Z (zV Z Z Z) (oM Z f224 (oM Z Z (oM Z f223 (bnK hm248 fun x249 h250 hm251=>oR Z (Runs.rem Z Z Z h250) (bnK hm251 fun _ h252 hm253=>?_)))))))))))
      obtain ⟨b254,hA255⟩:=hS235.rowSome (j:=0) rfl (by rw [wAB (f:=KL.encI) (sz:=1) (fun _=>rfl) l45];have hz:=wAP h252;omega)
      refine oR Z (ZS Z Z hA255 Z zA zB (wCJ h252) (wCK h252)) ?_
      have hg256:=wBM (xs:=l45) (wAP h252)
      refine ZC rfl rfl rfl rfl (hS235.ldR (j:=0) rfl hA255 rfl rfl zJ (wAO (sz:=1) (fun _=>rfl) _ _ 0 _ hg256 (by first | omega | rfl | simp) rfl)) rfl ?_
      let B5:List Value:=[jV x237.Bib,jV (w64 (x246 + 1)),jV (gd l45 x249.toNat)]
      let B6:List Value:=[jV 0,jV 0,jV 0]
      refine oR Z (Zd (pv:=[(0,jV x237.Bib),(1,jV (w64 (x246 + 1))),(2,jV (gd l45 x249.toNat))]) (z:=B6) (cs:=B5) Z (wAH Z (wAH Z (wAH Z wAQ))) Tryz.zeroValue148 wNw Z Z) (zU (pv:=[(0,.agg B5.toArray)]) (zs:=B6) (cs:=B5) Z Z Z Z Z (wAH Z wAQ) Zq Tryz.sizeOf148 Tryz.zeroValue148 Z Z Z Z Z hS235 ?_)
      intro W257 b258 hS259
      let B7:Res:=.row (some ⟨b258,0,none⟩) 1 148 3 (nA wAY [(⟨x237.Bib,w64 (x246 + 1),(gd l45 x249.toNat)⟩:wAt)])
      have hS261:sW w U U219 [B7,B4,.row A201 c202 148 3 (nA wAY l200),B3] W257:=hS259
      refine bnK hm253 fun x262 h263 hm264=>ZO (j:=2) (enc:=wAY) (xs:=l200) (ys:=[(⟨x237.Bib,w64 (x246 + 1),(gd l45 x249.toNat)⟩:wAt)]) (zs:=x262) rfl rfl rfl rfl rfl Tryz.underlying142 wRZ rfl rfl rfl rfl rfl rfl hS261 rfl rfl rfl (hS261.srcR (j:=0) rfl (by decide) (wAB (f:=wAY) (sz:=3) (fun _=>rfl) [(⟨x237.Bib,w64 (x246 + 1),(gd l45 x249.toNat)⟩:wAt)])) (fun _=>rfl) (fun _=>rfl) h263 rfl ?_
      intro A265 c266 W267 hS268
      have hS269:sW w U U219 [B7,B4,.row A265 c266 148 3 (nA wAY x262),B3] W267:=hS268
      refine oA Z Z (zx (zZ (zH (rR fL2 Z (oR Z (zz (zV Z fi218 Z) (congrArg (jV) hi229.out)) (oM Z Z (zx ?_)))))))
      cases hm264
      exact zH ⟨rfl,⟨U219,A265,c266,rfl,f222,f223,f224,rfl,f226,f227,le220,(hS269.pick [1,2,3] _ (by decide) rfl)⟩⟩
     ·rintro σ273 W274 ⟨U282,A280,c281,fi276,f285,f286,f287,f288,f289,f290,le283,hS284⟩
      have c291:Hid (¬ ((↑(((↑x174.length:Int):Int) - 0).toNat:Int) < (↑x174.length:Int))):=zD (wAr)
      refine sR fL1 Z (oR Z (zQ Z fi276 f290) (eN (zF (cF Z c291 (ZM (ze (ze (ZI (zH (sR fL3 Z (oM Z f288 (oA Z Z (oA Z Z (eN (zW ?_)))))))))))))))
      cases hm205
      exact ⟨rfl,_,(wOx rfl rfl),U282,_,(hS284.pick [1] _ (by decide) rfl),A280,c281,rfl,rfl⟩
  ·intro c23 hm292
   refine ZK (nF (c23.out)) (sR fL2 Z (oA Z Z (oA Z Z (eN (zW (ZJ (zk ?_)))))))
   have hS293:=hS22.nilrow 148 3
   cases hm292
   exact ⟨Z,_,(wOx Z Z),U16,_,hS293,none,0,Z,Z⟩
 ·intro c11 hm295
  refine cT Z c11 (sR fL3 Z (oM Z Z (oA Z Z (oA Z Z (eN (zW (ZJ (zk ?_))))))))
  have hS296:=hS10.nilrow 148 3
  cases hm295
  exact ⟨Z,_,(wOx Z Z),U4,_,hS296,none,0,Z,Z⟩
theorem wHE (p0:List wAA) (pA0:Option Addr) (pc0:Nat) (w:World) (U:PHeap) (hS:St0 w U []) (ha0:Sl U 3 pA0 pc0 p0.length (nA wAK p0)) {r:(Arr Int 31)} (hm:wBr p0=some r):Gv Tryz.prog 144 [.slice pA0 p0.length pc0] w (wCO w [] U (fun U_ L_ v=>v=.agg (nA KL.encI r.l).toArray/\L_=[])):=by
 unfold wBr at hm
 refine Gv.of Tryz.func144 Z Tryz.ntmps144 Tryz.results144 Z (sR (.fx 0 .nil .stop) Z (zw (cs:=nA KL.encI (Arr.fill 31 0).l) Z Z Z Z Z Tryz.zeroValue252 Z hS ?_))
 intro W1 b2 hS3
 have hS5:sW w U U [.blk b2 252 (nA KL.encI (Arr.fill 31 0).l)] W1:=hS3
 refine eN (sR (.fx 0 .nil .stop) Z (zw (cs:=nA KL.encI (Arr.fill 31 0).l) Z Z Z Z Z Tryz.zeroValue252 Z hS5 ?_))
 intro W6 b7 hS8
 have hS10:sW w U U [.blk b7 252 (nA KL.encI (Arr.fill 31 0).l),.blk b2 252 (nA KL.encI (Arr.fill 31 0).l)] W6:=hS8
 refine eN (zF (sR fL3 Z (oM Z Z (oR Z (zo Z Z ZA) (oM Z Z (eN (zS (bnK hm fun y22 hf19 hm18=>?_))))))))
 have q:=wAx hf19
 obtain ⟨hle20,hf21⟩:=q
 replace hle20:=zD hle20
 refine CK.forN' (fun k17 a16 σ_ w_=>∃ (U_:PHeap),σ_ 8=jV (↑k17:Int)/\σ_ 2=.pointer (some ⟨b2,0,none⟩)/\σ_ 3=.pointer (some ⟨b7,0,none⟩)/\σ_ 6=.slice pA0 p0.length pc0/\σ_ 7=jV (↑p0.length:Int)/\PHeap.Le U U_/\sW w U U_ [.blk b7 252 (nA KL.encI a16.l),.blk b2 252 (nA KL.encI (Arr.fill 31 0).l)] w_) hf21 ?_ ?_ ?_
 ·exact ⟨U,Z,Z,Z,Z,Z,(zG _),hS10⟩
 ·rintro k17 a16 xx25 σ23 W24 hk28 ⟨U30,fi29,f33,f34,f35,f36,le31,hS32⟩ hx26
  have c37:Hid ((↑k17:Int) < (↑p0.length:Int)):=zD (wBT hk28)
  replace hk28:=zD hk28
  have hi38:Hid (w64 ((↑k17:Int) + 1)=(↑(k17 + 1):Int)):=zD (by have h1:=hle20.out;have h2:=c37.out;rw [wAU] <;> omega)
  refine sR fL1 Z (oR Z (zQ Z fi29 f36) (eN (zF (cT Z c37 (kN (zF (zS (sR gCb Z (bnK hx26 fun x39 h40 hm41=>?_)))))))))
  have h42:=ha0.le le31
  have q:=h42.el (fun _=>rfl) (wAZ h40)
  obtain ⟨b43,off44,hA45,hC46⟩:=q
  refine oR Z (ZD Z f35 hA45 fi29 ZA ZW (wCD h40)) (oL Z (hS32.ldCA (f:=0) hC46 Z Z Tryz.isAgg141 ZW (us:=[jV x39.Bib,jV x39.Nation,jV x39.Rank]) Z Z) (zw (cs:=[jV 0,jV 0,jV 0]) Z Z Z Z Z Zz Z hS32 ?_))
  intro W47 b48 hS49
  let B0:List Value:=[jV x39.Bib,jV x39.Nation,jV x39.Rank]
  refine ZR (j:=0) (vs:=B0) Z Z Z Z hS49 Z Z Z Z ZW (zI Z) Z Z Z ?_
  intro W51 hS52
  have hS53:sW w U U30 [.blk b48 141 B0,.blk b7 252 (nA KL.encI a16.l),.blk b2 252 (nA KL.encI (Arr.fill 31 0).l)] W51:=hS52
  refine eN (rR (wOn (.fx 6 .nil .stop)) Z (oR Z (zX Z Z Zc Z zB) (oL Z (hS53.ldB (j:=0) Z Z Z zJ (v:=jV x39.Nation) Z) (bnK hm41 fun _ h54 hm55=>oR Z (Runs.iaA Z f34 Z ZN zB (wCJ h54) (wCK h54)) ?_))))
  have hg56:=Arr.at_ a16 (k:=x39.Nation.toNat) (by have hz0:=wAP h54;omega)
  refine ZC rfl rfl rfl rfl (hS53.ldB (j:=1) rfl rfl rfl zJ (wAO (sz:=1) (fun _=>rfl) _ _ 0 _ hg56 (by first | omega | rfl | simp) rfl)) rfl (zY rfl rfl rfl rfl (fun _=>zV rfl rfl rfl) (zY rfl rfl rfl rfl (fun _=>Runs.iaA rfl f34 rfl ZN zB (wCJ h54) (wCK h54)) ?_))
  have hg57:=Arr.at_ a16 (k:=x39.Nation.toNat) (by have hz0:=wAP h54;omega)
  refine ZR (j:=1) (vs:=[jV (w64 ((a16.get x39.Nation.toNat) + 1))]) (cs':=nA KL.encI (a16.set x39.Nation.toNat (w64 ((a16.get x39.Nation.toNat) + 1))).l) rfl rfl rfl rfl hS53 rfl rfl rfl rfl zB (by have hz0:=wAP h54;simp only [nN,nP,nQ,wBI (f:=KL.encI) (sz:=1) (N:=31) a16 (fun _=>rfl) rfl];omega) rfl (wDo (sz:=1) (fo:=0) (fun _=>rfl) _ _ _ _ hg57 (by first | omega | rfl | simp) (zI rfl) rfl) rfl ?_
  intro W58 hS59
  have hS60:sW w U U30 [.blk b48 141 B0,.blk b7 252 (nA KL.encI (a16.set x39.Nation.toNat (w64 ((a16.get x39.Nation.toNat) + 1))).l),.blk b2 252 (nA KL.encI (Arr.fill 31 0).l)] W58:=hS59
  refine zx (zZ (zH (rR fL2 Z (oR Z (zz (zV Z fi29 Z) (congrArg (jV) hi38.out)) (oM Z Z (zx ?_))))))
  cases hm55
  exact zH ⟨rfl,⟨U30,rfl,f33,f34,f35,f36,le31,(hS60.pick [1,2] _ (by decide) rfl)⟩⟩
 ·rintro σ62 W63 ⟨U67,fi65,f70,f71,f72,f73,le68,hS69⟩
  have c74:Hid (¬ ((↑(((↑p0.length:Int):Int) - 0).toNat:Int) < (↑p0.length:Int))):=zD (wAr)
  refine sR fL1 rfl (zY rfl rfl rfl rfl (fun _=>zQ rfl fi65 f73) (eN (zF (cF Z c74 (ZM (ze (ze (ZI (zH (sR gBt rfl (ZC rfl rfl rfl rfl (hS69.ldBA (j:=0) rfl rfl f71 Tryz.isAgg252 Zv (vs:=nA KL.encI y22.l) (wLY y22 (fun _=>rfl) rfl) (wBI y22 (fun _=>rfl) rfl)) rfl (ZR (j:=1) (vs:=nA KL.encI y22.l) rfl rfl rfl rfl hS69 rfl f70 rfl rfl (fun w=>by rw [wBI (f:=KL.encI) (sz:=1) (N:=31) y22 (fun _=>rfl) rfl];exact Zv w) (by rw [wBI (f:=KL.encI) (sz:=1) (N:=31) y22 (fun _=>rfl) rfl,wBI (f:=KL.encI) (sz:=1) (N:=31) (Arr.fill 31 0) (fun _=>rfl) rfl];exact zI rfl) (wFw (fun _=>rfl) _) (wKk _ _ (by rw [wBI (f:=KL.encI) (sz:=1) (N:=31) y22 (fun _=>rfl) rfl,wBI (f:=KL.encI) (sz:=1) (N:=31) (Arr.fill 31 0) (fun _=>rfl) rfl])) rfl ?_))))))))))))
  intro W75 hS76
  have hS77:sW w U U67 [.blk b7 252 (nA KL.encI y22.l),.blk b2 252 (nA KL.encI y22.l)] W75:=hS76
  refine eN (zW ?_)
  have hE:=nB hm18;first | subst r | cases hE
  exact ⟨rfl,_,(wMU (v:=.agg (nA KL.encI y22.l).toArray) ⟨⟨_,f70,(wKj Tryz.isAgg252 Zv (hS77.blkAt (k:=1) rfl) (wLY y22 (fun _=>rfl) rfl) (wBI y22 (fun _=>rfl) rfl))⟩,trivial⟩),U67,_,(hS77.pick [] _ (by decide) rfl),rfl,rfl⟩
theorem wEh (p0:List Int) (pA0:Option Addr) (pc0:Nat) (w:World) (U:PHeap) (hS:St0 w U []) (ha0:Sl U 1 pA0 pc0 p0.length (nA KL.encI p0)) {r:Int} (hm:wBg p0=some r):Gv Tryz.prog 225 [.slice pA0 p0.length pc0] w (wCO w [] U (fun U_ L_ v=>v=jV r/\L_=[])):=by
 unfold wBg at hm
 refine Gv.of Tryz.func225 Z Tryz.ntmps225 Tryz.results225 Z (sR fL1 Z (oA Z Z (eN (zF (sR fL3 Z (oM Z Z (oR Z (zo Z Z zA) (oR Z (zQ Z Z Z) (eN ?_)))))))))
 by_cases c1:(↑p0.length:Int) < 1
 ·have hm2:=hm;rw [if_pos c1] at hm2;replace c1:=zD c1
  refine cT Z c1 (rR gBu Z ?_)
  cases hm2
 ·have hm3:=hm;rw [if_neg c1] at hm3;replace c1:=zD c1
  refine cF Z c1 (kN (sR fL4 Z (oM Z Z (bnK hm3 fun x4 h5 hm6=>?_))))
  have q:=ha0.el (fun _=>rfl) (wAZ h5)
  obtain ⟨b7,off8,hA9,hC10⟩:=q
  refine oR Z (ZD Z Z hA9 Z zA zB (wCD h5)) (oL Z (hS.ldC (f:=0) hC10 (v:=jV x4) Z Z zJ Z) (oA Z Z (eN (zF (sR fL1 Z (oA Z Z (eN (zS (bnK hm6 fun y22 hf19 hm18=>?_)))))))))
  have q:=wAx hf19
  obtain ⟨hle20,hf21⟩:=q
  replace hle20:=zD hle20
  refine CK.forN' (fun k17 x16 σ_ w_=>∃ (U_:PHeap),σ_ 4=jV (1 + ↑k17:Int)/\σ_ 0=.slice pA0 p0.length pc0/\σ_ 3=jV x16/\PHeap.Le U U_/\sW w U U_ [] w_) hf21 ?_ ?_ ?_
  ·exact ⟨U,Z,Z,Z,(zG _),hS⟩
  ·rintro k17 x16 xx25 σ23 W24 hk28 ⟨U30,fi29,f33,f34,le31,hS32⟩ hx26
   have c35:Hid ((1 + ↑k17:Int) < (↑p0.length:Int)):=zD (wSH hk28)
   replace hk28:=zD hk28
   have hi36:Hid (w64 ((1 + ↑k17:Int) + 1)=(1 + ↑(k17 + 1):Int)):=zD (by have h1:=hle20.out;have h2:=c35.out;rw [wAU] <;> omega)
   refine zF (sR fL4 Z (oM Z fi29 (oM Z f33 (oR Z (zo Z Z zA) (oR Z (zQ Z Z Z) (eN (cT Z c35 (kN (zF (zS (rR fL7 Z (oM Z f34 (oM Z f33 (oM Z fi29 (bnK hx26 fun x37 h38 hm39=>?_)))))))))))))))
   have h40:=ha0.le le31
   have q:=h40.el (fun _=>rfl) (wAZ h38)
   obtain ⟨b41,off42,hA43,hC44⟩:=q
   refine oR Z (ZS Z Z hA43 Z zA zB (wCC h38) (wCG h38)) (oL Z (hS32.ldC (f:=0) hC44 (v:=jV x37) Z Z zJ Z) (oR Z (Runs.max Z Z Z) (oA Z Z (zx (zZ (zH (rR fL3 Z (oM Z fi29 (oR Z (zz (zV Z Z Z) (congrArg (jV) hi36.out)) (oA Z Z (zx ?_)))))))))))
   cases hm39
   exact zH ⟨Z,⟨U30,Z,f33,Z,le31,hS32⟩⟩
  ·rintro σ46 W47 ⟨U51,fi49,f54,f55,le52,hS53⟩
   have c56:Hid (¬ ((1 + ↑(((↑p0.length:Int):Int) - 1).toNat:Int) < (↑p0.length:Int))):=zD (wPw)
   refine zF (sR fL4 Z (oM Z fi49 (oM Z f54 (oR Z (zo Z Z zA) (oR Z (zQ Z Z Z) (eN (cF Z c56 (ZM (ze (ze (ZI (zH (sR fL2 Z (oM Z f55 (oA Z Z (eN (zW ?_)))))))))))))))))
   have hE:=nB hm18;first | subst r | cases hE
   exact ⟨Z,_,(ZF Z),U51,_,hS53,Z,Z⟩
theorem wDw (p0:Arr Int 31) (w:World) (U:PHeap) (hS:St0 w U [])  {r:(List Int) × Int} (hm:wAh p0=some r):Gv Tryz.prog 145 [.agg (nA KL.encI p0.l).toArray] w (wCO w [] U (fun U_ L_ v=>∃ (A0:Option Addr) (c0:Nat),v=.tuple #[.slice A0 r.1.length c0,jV r.2]/\L_=[.row A0 c0 3 1 (nA KL.encI r.1)])):=by
 unfold wAh at hm
 refine Gv.of Tryz.func145 rfl Tryz.ntmps145 Tryz.results145 rfl (sR (.fx 0 gBj .stop) rfl (Zl (cs:=nA KL.encI p0.l) rfl rfl rfl rfl rfl rfl (by rfl) hS ?_))
 intro W1 b2 hS3
 have hS5:sW w U U [.blk b2 252 (nA KL.encI p0.l)] W1:=hS3
 refine oA Z Z (oA Z Z (eN (sR gBw Z (oR Z (Runs.slA Z Z ZN zB) ?_))))
 have q:=St.freezeTA (a:=p0) (f:=KL.encI) (sz:=1) hS5 (k:=0) rfl (fun _=>rfl)
 obtain ⟨U7,le8,hs9,hS10,th6⟩:=q
 have hS11:sW w U U7 [] W1:=hS10
 refine bnK hm fun x12 h13 hm14=>zL 0 Z Z Z Z (zK Z Z Tryz.call225 (zC (slenA p0 Z) zP) Z) hS11 (fun hs=>wEh p0.l (some ⟨b2,0,none⟩) 31 W1 U7 hs hs9 h13) (.inr Z) ?_
 rintro U15 L16 v17 W18 le19 hS20 ⟨rfl,rfl⟩
 have hS21:sW w U U15 [] W18:=hS20
 have q:=th6 _ _ _ le19 hS21
 obtain ⟨U22,le23,hS24⟩:=q
 have hS25:sW w U U22 [.blk b2 252 (nA KL.encI p0.l)] W18:=hS24
 refine oA Z Z (eN (sR fL1 Z (oA Z Z (eN (zF (sR fL2 Z (oL Z (hS25.ldBA (j:=0) Z Z Z Tryz.isAgg252 Zv (vs:=nA KL.encI p0.l) (wLY p0 (fun _=>Z) Z) (wBI p0 (fun _=>Z) Z)) (oM Z Z (eN (zS (bnK hm14 fun y48 hf45 hm44=>?_)))))))))))
 have q:=wAx hf45
 obtain ⟨hle46,hf47⟩:=q
 replace hle46:=zD hle46
 refine CK.forN' (fun k43 l39 σ_ w_=>∃ (U_:PHeap) (A40:Option Addr) (c41:Nat),σ_ 11=jV (↑k43:Int)/\σ_ 4=jV x12/\σ_ 5=.slice A40 l39.length c41/\σ_ 10=.agg (nA KL.encI p0.l).toArray/\PHeap.Le U22 U_/\sW w U U_ [.blk b2 252 (nA KL.encI p0.l),.row A40 c41 3 1 (nA KL.encI l39)] w_) hf47 ?_ ?_ ?_
 ·have hS49:=hS25.nilrow 3 1
  exact ⟨U22,none,0,rfl,rfl,rfl,rfl,(zG _),(hS49.pick [1,0] _ (by decide) rfl)⟩
 ·rintro k43 l39 xx53 σ51 W52 hk56 ⟨U58,A40,c41,fi57,f61,f62,f63,le59,hS60⟩ hx54
  have c64:Hid ((↑k43:Int) < 31):=zD (wBT hk56)
  replace hk56:=zD hk56
  have hi65:Hid (w64 ((↑k43:Int) + 1)=(↑(k43 + 1):Int)):=zD (by have h1:=hle46.out;have h2:=c64.out;rw [wAU] <;> omega)
  refine sR fL1 rfl (zY rfl rfl rfl rfl (fun _=>zQ rfl fi57 rfl) (eN (zF (cT Z c64 (kN (zF (zS (sR fL4 rfl (zR rfl rfl rfl rfl rfl fi57 (bnK hx54 fun x66 h67 hm68=>zY rfl rfl rfl rfl (fun _=>Runs.ixA (cs:=nA KL.encI (p0.l:List Int)) rfl f63 fi57 ZN zB (wCC h67) (by have q_:=wCG h67;rw [(p0).h] at q_;exact q_) (wDJ zJ (wCQ (sz:=1) (fun _=>rfl) _ _ 0 _ _ (wAZ h67) rfl))) (Zb rfl rfl rfl rfl rfl rfl (Zb rfl rfl rfl rfl rfl rfl (eN (sR fL3 rfl (zR rfl rfl rfl rfl rfl rfl (zR rfl rfl rfl rfl rfl f61 (zY rfl rfl rfl rfl (fun _=>Runs.eql rfl rfl rfl) (eN (ifc hm68 ?_ ?_)))))))))))))))))))
  ·intro c69 hm70
   refine cT Z c69 (rR gCe Z (oM Z f62 (oM Z Z (zU (pv:=[(0,jV (↑k43:Int))]) (zs:=[jV 0]) (cs:=[jV (↑k43:Int)]) Z Z Z Z Z (wAH Z wAQ) zA zB zt Z Z Z Z Z hS60 ?_))))
   intro W71 b72 hS73
   let B0:Res:=.row (some ⟨b72,0,none⟩) 1 3 1 (nA KL.encI [(↑k43:Int)])
   have hS75:sW w U U58 [B0,.blk b2 252 (nA KL.encI p0.l),.row A40 c41 3 1 (nA KL.encI l39)] W71:=hS73
   refine bnK hm70 fun x76 h77 hm78=>ZO (j:=2) (enc:=KL.encI) (xs:=l39) (ys:=[(↑k43:Int)]) (zs:=x76) rfl rfl rfl rfl rfl zu wCc rfl rfl rfl rfl rfl rfl hS75 rfl rfl rfl (hS75.srcR (j:=0) rfl (by decide) (wAB (f:=KL.encI) (sz:=1) (fun _=>rfl) [(↑k43:Int)])) (fun _=>rfl) (fun _=>rfl) h77 rfl ?_
   intro A79 c80 W81 hS82
   have hS83:sW w U U58 [B0,.blk b2 252 (nA KL.encI p0.l),.row A79 c80 3 1 (nA KL.encI x76)] W81:=hS82
   refine oA Z Z (zx (zZ (zH (rR fL2 Z (oR Z (zz (zV Z fi57 Z) (congrArg (jV) hi65.out)) (oM Z Z (zx ?_)))))))
   cases hm78
   exact zH ⟨rfl,⟨U58,A79,c80,rfl,f61,rfl,f63,le59,(hS83.pick [1,2] _ (by decide) rfl)⟩⟩
  ·intro c69 hm87
   refine cF Z c69 (ZV (zZ (zH (rR fL2 Z (oR Z (zz (zV Z fi57 Z) (congrArg (jV) hi65.out)) (oM Z Z (zx ?_)))))))
   cases hm87
   exact zH ⟨Z,⟨U58,A40,c41,Z,f61,f62,f63,le59,hS60⟩⟩
 ·rintro σ91 W92 ⟨U100,A98,c99,fi94,f103,f104,f105,le101,hS102⟩
  have c106:Hid (¬ ((↑((31:Int) - 0).toNat:Int) < 31)):=zD (wAr)
  refine sR fL1 Z (oR Z (zQ Z fi94 Z) (eN (zF (cF Z c106 (ZM (ze (ze (ZI (zH (sR fL4 Z (oM Z f104 (oM Z f103 (oA Z Z (oA Z Z (eN (zW ?_))))))))))))))))
  cases hm44
  exact ⟨rfl,_,(wOx rfl rfl),U100,_,(hS102.pick [1] _ (by decide) rfl),A98,c99,rfl,rfl⟩
theorem wED (p0:Int) (p1:List wAA) (pb1:Nat) (pA1:Option Addr) (pc1:Nat) (p2:Int) (pb2:Nat) (w:World) (U:PHeap) (hS:St0 w U []) (ha0:Cl U pb1 0 [.slice pA1 p1.length pc1]) (ha1:Sl U 3 pA1 pc1 p1.length (nA wAK p1)) (ha2:Cl U pb2 0 [jV p2]) {r:Bool} (hm:wAk p0 p1 p2=some r):Gv Tryz.prog 147 [jV p0,.pointer (some ⟨pb1,0,none⟩),.pointer (some ⟨pb2,0,none⟩)] w (wCO w [] U (fun U_ L_ v=>v=.bool r/\L_=[])):=by
 unfold wAk at hm
 refine Gv.of Tryz.func147 rfl Tryz.ntmps147 Tryz.results147 rfl (sR fL1 rfl (Zb rfl rfl rfl rfl rfl rfl (eN (zF (Ze Za [1,3,3,3,1,1,3,3] fL8 (by kernel_rfl) ?_)))))
 have hS1:=hS.drew
 generalize hw_W2:({ w with drawn:=w.drawn + 1 }:World)=W2 at hS1 ⊢
 refine oL Z (hS1.ldC (f:=0) ha0 (v:=.slice pA1 p1.length pc1) Z Z Zg Z) (oM Z Z (bnK hm fun x3 h4 hm5=>?_))
 have q:=ha1.el (fun _=>rfl) (wAZ h4)
 obtain ⟨b6,off7,hA8,hC9⟩:=q
 refine oR Z (ZS Z Z hA8 Z ZA ZW (wCC h4) (wCG h4)) (oR Z (zX Z Z Zc Z zB) (oL Z (hS1.ldC (f:=1) hC9 (v:=jV x3.Nation) Z Z zJ Z) (oL Z (hS1.ldC (f:=0) ha2 (v:=jV p2) Z Z zJ Z) (oR Z (Runs.eql Z Z Z) (oA Z Z (eN (zW ?_)))))))
 cases hm5
 exact ⟨Z,_,(ZF Z),U,_,hS1,Z,Z⟩
theorem wCS (p0:List Int) (pA0:Option Addr) (pc0:Nat) (p1:(Int->Option Bool)) (pv1:Value) (w:World) (U:PHeap) (hS:St0 w U []) (ha0:Sl U 1 pA0 pc0 p0.length (nA KL.encI p0)) (ha1:FnOK Tryz.prog U pv1 wHB wIH p1) {r:Int} (hm:wAa p0 p1=some r):Gv Tryz.prog 146 [.slice pA0 p0.length pc0,pv1] w (wCO w [] U (fun U_ L_ v=>v=jV r/\L_=[])):=by
 unfold wAa at hm
 refine Gv.of Tryz.func146 Z Tryz.ntmps146 Tryz.results146 Z (sR fL1 Z (oA Z Z (eN (zF (sR fL3 Z (oM Z Z (oR Z (zo Z Z zA) (oM Z Z (eN (zS ?_))))))))))
 have q:=wDL hm
 obtain ⟨r3,hX4⟩:=q
 have q:=wDK hX4
 obtain ⟨hle5,hf6⟩:=q
 replace hle5:=zD hle5
 refine CK.forN (fun k2 _ σ_ w_=>∃ (U_:PHeap),σ_ 8=jV (↑k2:Int)/\σ_ 0=.slice pA0 p0.length pc0/\σ_ 1=pv1/\σ_ 7=jV (↑p0.length:Int)/\PHeap.Le U U_/\sW w U U_ [] w_) hf6 ?_ ?_ ?_
 ·exact ⟨U,Z,Z,Z,Z,(zG _),hS⟩
 ·rintro k2 ⟨⟩ xx9 σ7 W8 hk12 ⟨U14,fi13,f17,f18,f19,le15,hS16⟩ hx10 hb11
  try dsimp only at hx10
  have c20:Hid ((↑k2:Int) < (↑p0.length:Int)):=zD (wBT hk12)
  replace hk12:=zD hk12
  have hi21:Hid (w64 ((↑k2:Int) + 1)=(↑(k2 + 1):Int)):=zD (by have h1:=hle5.out;have h2:=c20.out;rw [wAU] <;> omega)
  refine sR fL1 Z (oR Z (zQ Z fi13 f19) (eN (zF (cT Z c20 (kN (zF (zS (sR fL2 Z (oM Z fi13 (oA Z Z (eN (sR (wJa (.fx 5 .nil .stop)) Z (oM Z f18 (oM Z f17 (oM Z Z (bnK hx10 fun x22 h23 hm24=>?_))))))))))))))))
  have h25:=ha0.le le15
  have q:=h25.el (fun _=>rfl) (wAZ h23)
  obtain ⟨b26,off27,hA28,hC29⟩:=q
  refine oR Z (ZD Z Z hA28 Z zA zB (wCD h23)) (oL Z (hS16.ldC (f:=0) hC29 (v:=jV x22) Z Z zJ Z) (bnK hm24 fun x30 h31 hm32=>?_))
  have h39:=ha1.le le15
  refine OKS.callV (a:=x22) Z Z Z Z Z Z (zC Z zP) hS16 h39 Z h31 ?_
  rintro U33 L34 v35 W36 le37 hS38 ⟨rfl,rfl⟩
  have hS40:sW w U U33 [] W36:=hS38
  refine eN (ifc hm32 ?_ ?_)
  ·intro c41 hm42
   refine ZK (congrArg nD c41.out) (sR fL2 Z (oM Z Z (oA Z Z (eN (zW (ZJ (zk ?_)))))))
   have q:=wCP hm42
   obtain ⟨v43,hm44,e45⟩:=q
   obtain rfl:=wEJ hm hX4 (hb11 v43 e45)
   refine zk (ZJ (zk ?_))
   cases hm44
   exact ⟨Z,_,(ZF Z),U33,_,hS40,Z,Z⟩
  ·intro c41 hm46
   refine ZG (congrArg nD (nE.2 c41.out)) (ZV (zZ (zH (rR fL2 Z (oR Z (zz (zV Z fi13 Z) (congrArg (jV) hi21.out)) (oM Z Z (zx ?_)))))))
   obtain rfl:=nB hm46
   exact zH ⟨Z,_,Z,⟨U33,Z,f17,f18,f19,(le15.trans le37),hS40⟩⟩
 ·rintro ⟨⟩ σ47 W48 ⟨U51,fi50,f54,f55,f56,le52,hS53⟩ hb49
  have hm57:=wEI hm hX4 hb49
  try dsimp only at hm57
  have c58:Hid (¬ ((↑(((↑p0.length:Int):Int) - 0).toNat:Int) < (↑p0.length:Int))):=zD (wAr)
  refine sR fL1 Z (oR Z (zQ Z fi50 f56) (eN (zF (cF Z c58 (ZM (ze (ze (ZI (zH (sR fL1 Z (oA Z Z (eN (zW ?_)))))))))))))
  cases hm57
  exact ⟨Z,_,(ZF Z),U51,_,hS53,Z,Z⟩
theorem wCj (p0:List Int) (pA0:Option Addr) (pc0:Nat) (p1:Int) (p2:Int) (w:World) (U:PHeap) (hS:St ⟨w,[.row pA0 pc0 3 1 (nA KL.encI p0)],U⟩ U [.row pA0 pc0 3 1 (nA KL.encI p0)] w) {r:List Int} (hm:wBJ p0 p1 p2=some r):Gv Tryz.prog 148 [.slice pA0 p0.length pc0,.int .i64 p1,.int .i64 p2] w (wCO w [.row pA0 pc0 3 1 (nA KL.encI p0)] U (fun U_ L_ v=>∃ (A0:Option Addr) (c0:Nat),v=.slice A0 r.length c0/\L_=[.row A0 c0 3 1 (nA KL.encI r)])) :=
 wLi (z:=.int .i64 0) (fun _=>rfl) (by omega) (fun _=>rfl) rfl (fun b c n i j cs w h1 h2 h3 h4 h5 h6 h7 h8=>Go.Proofs.delCalls148 b c n i j cs w h1 h2 h3 h4 h5 h6 h7 h8) hS hm
theorem wEl (p0:List wAA) (pA0:Option Addr) (pc0:Nat) (w:World) (U:PHeap) (hS:St0 w U []) (ha0:Sl U 3 pA0 pc0 p0.length (nA wAK p0)) {r:(List Int) × Int × Int} (hm:wBn p0=some r):Gv Tryz.prog 73 [.slice pA0 p0.length pc0] w (wCO w [] U (fun U_ L_ v=>∃ (A0:Option Addr) (c0:Nat),v=.tuple #[.slice A0 r.1.length c0,jV r.2.1,jV r.2.2]/\L_=[.row A0 c0 3 1 (nA KL.encI r.1)])):=by
 unfold wBn at hm
 refine Gv.of Tryz.func73 rfl Tryz.ntmps73 Tryz.results73 rfl (sR (.fx 0 (fC1_3 (.nil)) .stop) rfl (Zl (cs:=[.slice pA0 p0.length pc0]) rfl rfl rfl rfl rfl rfl (by rfl) hS ?_))
 intro W1 b2 hS3
 have q:=hS3.freeze (k:=0) rfl
 obtain ⟨U5,le6,hC7,hS8⟩:=q
 replace hC7:=Cl.of hC7
 have hS9:sW w U U5 [] W1:=hS8
 replace hC7:Cl U5 b2 0 [.slice pA0 p0.length pc0]:=hC7
 refine oA Z Z (oA Z Z (oA Z Z (eN (zF (sR gBw Z (oL Z (hS9.ldC (f:=0) hC7 (v:=.slice pA0 p0.length pc0) Z Z Zg Z) ?_))))))
 have h10:=ha0.le le6
 refine bnK hm fun x11 h12 hm13=>zL 0 Z Z Z Z (zK Z Z Tryz.call141 (zC Z zP) Z) hS9 (fun hs=>wFa p0 pA0 pc0 W1 U5 hs h10 h12) (.inr Z) ?_
 rintro U14 L15 v16 W17 le18 hS19 ⟨rfl,rfl⟩
 have hS20:sW w U U14 [] W17:=hS19
 refine oA Z Z (eN (sR fL2 Z (oM Z Z (oR Z (Zp Z Z Z) (eN (ifc hm13 ?_ ?_))))))
 ·intro c21 hm22
  refine ZG (ZU (fun h=>h c21.out)) (kN (sR (.fl 0 (.fx 1 gBq .stop)) Z ?_))
  have h23:=hC7.le le18
  refine oL Z (hS20.ldC (f:=0) h23 (v:=.slice pA0 p0.length pc0) Z Z Zg Z) ?_
  have h24:=h10.le le18
  refine bnK hm22 fun x25 h26 hm27=>zL 0 Z Z Z Z (zK Z Z Tryz.call144 (zC Z zP) Z) hS20 (fun hs=>wHE p0 pA0 pc0 W17 U14 hs h24 h26) (.inr Z) ?_
  rintro U28 L29 v30 W31 le32 hS33 ⟨rfl,rfl⟩
  have hS34:sW w U U28 [] W31:=hS33
  refine zw (cs:=nA KL.encI (Arr.fill 31 0).l) Z Z Z Z Z Tryz.zeroValue252 Z hS34 ?_
  intro W35 b36 hS37
  have hS39:sW w U U28 [.blk b36 252 (nA KL.encI (Arr.fill 31 0).l)] W35:=hS37
  refine ZR (j:=0) (vs:=nA KL.encI x25.l) rfl rfl rfl rfl hS39 rfl rfl rfl rfl (fun w=>by rw [wBI (f:=KL.encI) (sz:=1) (N:=31) x25 (fun _=>rfl) rfl];exact Zv w) (by rw [wBI (f:=KL.encI) (sz:=1) (N:=31) x25 (fun _=>rfl) rfl,wBI (f:=KL.encI) (sz:=1) (N:=31) (Arr.fill 31 0) (fun _=>rfl) rfl];exact zI rfl) (wFw (fun _=>rfl) _) (wKk _ _ (by rw [wBI (f:=KL.encI) (sz:=1) (N:=31) x25 (fun _=>rfl) rfl,wBI (f:=KL.encI) (sz:=1) (N:=31) (Arr.fill 31 0) (fun _=>rfl) rfl])) rfl ?_
  intro W40 hS41
  have hS42:sW w U U28 [.blk b36 252 (nA KL.encI x25.l)] W40:=hS41
  refine eN (sR (.fl 0 (.fx 1 (wIe (.nil)) .stop)) Z (oL Z (hS42.ldBA (j:=0) Z Z Z Tryz.isAgg252 Zv (vs:=nA KL.encI x25.l) (wLY x25 (fun _=>Z) Z) (wBI x25 (fun _=>Z) Z)) ?_))
  have q:=bnd hm27
  obtain ⟨⟨x43,x44⟩,h45,hm46⟩:=q
  try dsimp only at hm46
  refine zL 0 Z Z Z Z (zK Z Z Tryz.call145 (zC Z zP) Z) hS42 (fun hs=>wDw x25 W40 U28 hs h45) (.inr Z) ?_
  rintro U47 L48 v49 W50 le51 hS52 ⟨A53,c54,rfl,rfl⟩
  let B0:Res:=.row A53 c54 3 1 (nA KL.encI x43)
  have hS56:sW w U U47 [B0,.blk b36 252 (nA KL.encI x25.l)] W50:=hS52
  refine oM Z Z (oR Z (ZY Z Z (v:=.slice A53 x43.length c54) Z) (oR Z (ZY Z Z (v:=jV x44) Z) (oA Z Z (oA Z Z (eN (sR fL3 Z ?_))))))
  have h57:=h23.le le32
  have h58:=h57.le le51
  refine oL Z (hS56.ldC (f:=0) h58 (v:=.slice pA0 p0.length pc0) Z Z Zg Z) (oR Z (zo Z Z ZA) (oA Z Z (eN (zF (sR fL2 Z (oM Z Z (oR Z (Runs.gtr Z Z Z) (eN (ifc hm46 ?_ ?_)))))))))
  ·intro c59 hm60
   refine cT Z c59 (rR fL9 Z (oL Z (hS56.ldC (f:=0) h58 (v:=.slice pA0 p0.length pc0) Z Z Zg Z) (oR Z (zo Z Z ZA) (oM Z Z (oR Z (zo Z Z zA) (oR Z (Zn Z Z Z) (oM Z Z (oR Z (Zn Z Z Z) (bnK hm60 fun x61 h62 hm63=>oR Z (Runs.quo Z Z Z h62) (oA Z Z (eN (sR gBw Z (oL Z (hS56.ldC (f:=0) h58 (v:=.slice pA0 p0.length pc0) Z Z Zg Z) ?_)))))))))))))
   have h64:=h24.le le32
   have h65:=h64.le le51
   refine bnK hm63 fun x66 h67 hm68=>zL 0 Z Z Z Z (zK Z Z Tryz.call143 (zC Z zP) Z) hS56 (fun hs=>wDc p0 pA0 pc0 W50 U47 hs h65 h67) (.inr Z) ?_
   rintro U69 L70 v71 W72 le73 hS74 ⟨A75,c76,rfl,rfl⟩
   have hS78:sW w U U69 [.row A75 c76 3 1 (nA KL.encI x66),B0,.blk b36 252 (nA KL.encI x25.l)] W72:=hS74
   refine oA Z Z (eN (sR gBp Z (OKS.makeMap Z Z Z Z Z hS78 ?_)))
   intro W79 b80 hS81
   have hr82:=MpR.nil wII wJH
   refine oA Z Z (eN (sR fL1 Z (oA Z Z (eN (zF (sR fL3 Z ?_))))))
   have h84:=h58.le le73
   refine oL Z (hS81.ldC (f:=0) h84 (v:=.slice pA0 p0.length pc0) Z Z Zg Z) (oR Z (zo Z Z ZA) (oM Z Z (eN (zS ?_))))
   have q:=bnd hm68
   obtain ⟨⟨y135,y136,y137,y138⟩,hf132,hm131⟩:=q
   try dsimp only at hm131
   have q:=wAx hf132
   obtain ⟨hle133,hf134⟩:=q
   replace hle133:=zD hle133
   refine CK.forN' (fun k130 (l119,a122,l123,l126) σ_ w_=>∃ (U_:PHeap) (es120:Array MapEntry) (ck121:Nat) (A124:Option Addr) (c125:Nat) (A127:Option Addr) (c128:Nat),σ_ 49=jV (↑k130:Int)/\σ_ 1=.pointer (some ⟨b2,0,none⟩)/\σ_ 6=.pointer (some ⟨b36,0,none⟩)/\σ_ 9=jV x61/\σ_ 10=.slice A124 l123.length c125/\σ_ 11=.map (some b80)/\σ_ 12=.slice A127 l126.length c128/\σ_ 48=jV (↑p0.length:Int)/\PHeap.Le U69 U_/\sW w U U_ [.obj b80 (.map es120 ck121),.blk b36 252 (nA KL.encI a122.l),.row A124 c125 3 1 (nA KL.encI l123),.row A127 c128 3 1 (nA KL.encI l126)] w_/\MpR es120 wII wJH l119) hf134 ?_ ?_ ?_
   ·have hS139:=hS81.nilrow 3 1
    exact ⟨U69,#[],0,A75,c76,none,0,rfl,rfl,rfl,rfl,rfl,rfl,rfl,rfl,(zG _),(hS139.pick [1,4,2,0] _ (by decide) rfl),hr82⟩
   ·rintro k130 ⟨l119,a122,l123,l126⟩ xx143 σ141 W142 hk146 ⟨U148,es120,ck121,A124,c125,A127,c128,fi147,f151,f152,f153,f154,f155,f156,f157,le149,hS150,h158⟩ hx144
    try dsimp only at hx144
    have c159:Hid ((↑k130:Int) < (↑p0.length:Int)):=zD (wBT hk146)
    replace hk146:=zD hk146
    have hi160:Hid (w64 ((↑k130:Int) + 1)=(↑(k130 + 1):Int)):=zD (by have h1:=hle133.out;have h2:=c159.out;rw [wAU] <;> omega)
    refine sR fL1 Z (oR Z (zQ Z fi147 f157) (eN (zF (cT Z c159 (kN (zF (zS (sR fL2 Z (oM Z fi147 (oA Z Z (eN (sR gBu Z (zw (cs:=[jV 0]) Z Z Z Z Z zt Z hS150 ?_)))))))))))))
    intro W161 b162 hS163
    refine ZR (j:=0) (vs:=[jV (-1)]) Z Z Z Z hS163 Z Z Z Z zB (zI Z) Z Z Z ?_
    intro W165 hS166
    let B1:Res:=.row A124 c125 3 1 (nA KL.encI l123)
    let B2:Res:=.row A127 c128 3 1 (nA KL.encI l126)
    have hS167:sW w U U148 [.blk b162 3 [jV (-1)],.obj b80 (.map es120 ck121),.blk b36 252 (nA KL.encI a122.l),B1,B2] W165:=hS166
    refine eN (zF (sR fL2 Z (oL Z (hS167.ldBA (j:=2) Z Z f152 Tryz.isAgg252 Zv (vs:=nA KL.encI a122.l) (wLY a122 (fun _=>Z) Z) (wBI a122 (fun _=>Z) Z)) (oM Z Z (eN (zS (bnK hx144 fun y179 hf176 hm175=>?_)))))))
    have q:=wAx hf176
    obtain ⟨hle177,hf178⟩:=q
    replace hle177:=zD hle177
    refine CK.forN' (fun k174 x173 σ_ w_=>∃ (U_:PHeap),σ_ 53=jV (↑k174:Int)/\σ_ 1=.pointer (some ⟨b2,0,none⟩)/\σ_ 6=.pointer (some ⟨b36,0,none⟩)/\σ_ 9=jV x61/\σ_ 10=.slice A124 l123.length c125/\σ_ 11=.map (some b80)/\σ_ 12=.slice A127 l126.length c128/\σ_ 13=jV (↑k130:Int)/\σ_ 14=.pointer (some ⟨b162,0,none⟩)/\σ_ 48=jV (↑p0.length:Int)/\σ_ 49=jV (↑k130:Int)/\σ_ 52=.agg (nA KL.encI a122.l).toArray/\PHeap.Le U148 U_/\sW w U U_ [.blk b162 3 [jV x173],.obj b80 (.map es120 ck121),.blk b36 252 (nA KL.encI a122.l),B1,B2] w_) hf178 ?_ ?_ ?_
    ·exact ⟨U148,Z,f151,f152,f153,f154,f155,f156,Z,Z,f157,fi147,Z,(zG _),hS167⟩
    ·rintro k174 x173 xx182 σ180 W181 hk185 ⟨U187,fi186,f190,f191,f192,f193,f194,f195,f196,f197,f198,f199,f200,le188,hS189⟩ hx183
     have c201:Hid ((↑k174:Int) < 31):=zD (wBT hk185)
     replace hk185:=zD hk185
     have hi202:Hid (w64 ((↑k174:Int) + 1)=(↑(k174 + 1):Int)):=zD (by have h1:=hle177.out;have h2:=c201.out;rw [wAU] <;> omega)
     refine sR fL1 Z (oR Z (zQ Z fi186 Z) (eN (zF (cT Z c201 (kN (bnK hx183 fun x203 hx205 hm206=>CK.cut (fun σ_ w_=>∃ (U_:PHeap),σ_ 1=.pointer (some ⟨b2,0,none⟩)/\σ_ 6=.pointer (some ⟨b36,0,none⟩)/\σ_ 9=jV x61/\σ_ 10=.slice A124 l123.length c125/\σ_ 11=.map (some b80)/\σ_ 12=.slice A127 l126.length c128/\σ_ 13=jV (↑k130:Int)/\σ_ 14=.pointer (some ⟨b162,0,none⟩)/\σ_ 48=jV (↑p0.length:Int)/\σ_ 49=jV (↑k130:Int)/\σ_ 52=.agg (nA KL.encI a122.l).toArray/\σ_ 53=jV (↑k174:Int)/\PHeap.Le U187 U_/\sW w U U_ [.blk b162 3 [jV x203],.obj b80 (.map es120 ck121),.blk b36 252 (nA KL.encI a122.l),B1,B2] w_) ?_ ?_))))))
     ·refine zS (sR fL4 rfl (zR rfl rfl rfl rfl rfl fi186 (bnK hx205 fun x207 h208 hm209=>zY rfl rfl rfl rfl (fun _=>Runs.ixA (cs:=nA KL.encI (a122.l:List Int)) rfl f200 fi186 ZN zB (wCC h208) (by have q_:=wCG h208;rw [(a122).h] at q_;exact q_) (wDJ zJ (wCQ (sz:=1) (fun _=>rfl) _ _ 0 _ _ (wAZ h208) rfl))) (Zb rfl rfl rfl rfl rfl rfl (Zb rfl rfl rfl rfl rfl rfl (eN (sR fL8 rfl (zR rfl rfl rfl rfl rfl f194 (zR rfl rfl rfl rfl rfl rfl (ZC rfl rfl rfl rfl (hS189.lookup2 (j:=1) (mk:=wII) (mv:=wJH) (a:=(↑k174:Int)) (z:=0) rfl rfl rfl rfl (wCV Tryz.runUnderlying177) wIJ zt h158) rfl (zR rfl rfl rfl rfl rfl rfl (zY rfl rfl rfl rfl (fun _=>ZY rfl rfl (v:=jV (wCb l119 (↑k174:Int) 0)) rfl) (zY rfl rfl rfl rfl (fun _=>ZY rfl rfl (v:=.bool (wIg l119 (↑k174:Int))) rfl) (Zb rfl rfl rfl rfl rfl rfl (Zb rfl rfl rfl rfl rfl rfl (eN (sR fL24 rfl (zR rfl rfl rfl rfl rfl rfl (zY rfl rfl rfl rfl (fun _=>Runs.gtr rfl rfl rfl) (zR rfl rfl rfl rfl rfl rfl (ifc hm209 ?_ ?_)))))))))))))))))))))
      ·intro c210 hm211
       refine zR Z Z Z (wT Z c210) Z Z (rU Z (wT Z c210) (Zf Z Z) (zR Z Z Z (wT Z c210) Z Z (ifc hm211 ?_ ?_)))
       ·intro c212 hm213
        refine zR Z Z Z (zm Z Z (nC c212.out)) Z f196 (zR Z Z Z (zm Z Z (nC c212.out)) Z Z (zY Z Z Z (zm Z Z (nC c212.out)) (fun _=>Zn Z Z Z) (zR Z Z Z (zm Z Z (nC c212.out)) Z f192 (zY Z Z Z (zm Z Z (nC c212.out)) (fun _=>Runs.geq Z Z Z) (rU Z (wT Z c210) (zh Z (nC c212.out) Z) (oR Z (zg Z (Zj c210.out) Z) (oM Z Z (ifc hm213 ?_ ?_))))))))
        ·intro c214 hm215
         refine ZC Z Z Z (wT Z c214) (hS189.ldB (j:=0) Z Z f197 zJ (v:=jV x173) Z) Z (rU Z (wT Z c214) (zQ Z Z Z) (zR Z Z Z (wT Z c214) Z Z (ifc hm215 ?_ ?_)))
         ·intro c216 hm217
          refine oT Z c216 (oT Z c216 (oT Z c216 (oT Z c216 (oT Z c216 (rU Z (wT Z c214) (zg Z (Zj c216.out) Z) (oR Z (zg Z (Zj c214.out) Z) (eN (ZK Z (rR gBt Z (oM Z Z (ZR (j:=0) (vs:=[jV (↑k174:Int)]) Z Z Z Z hS189 Z f197 Z Z zB (zI Z) Z Z Z ?_)))))))))))
          intro W218 hS219
          have hS220:sW w U U187 [.blk b162 3 [jV (↑k174:Int)],.obj b80 (.map es120 ck121),.blk b36 252 (nA KL.encI a122.l),B1,B2] W218:=hS219
          refine zx (zZ ?_)
          cases hm217
          exact zH ⟨Z,⟨U187,f190,f191,f192,f193,f194,f195,f196,f197,f198,f199,f200,fi186,(zG _),hS220⟩⟩
         ·intro c216 hm222
          refine zR Z Z Z (wF Z c216) Z Z (ZC Z Z Z (wF Z c216) (hS189.ldB (j:=0) Z Z f197 zJ (v:=jV x173) Z) Z (bnK hm222 fun _ h223 hm224=>rU Z (wF Z c216) (Runs.iaA Z f191 Z ZN zB (wCJ h223) (wCK h223)) ?_))
          have hg225:=Arr.at_ a122 (k:=x173.toNat) (by have hz0:=wAP h223;omega)
          refine ZC rfl rfl rfl (zm rfl rfl (ZU c216.out)) (hS189.ldB (j:=2) rfl rfl rfl zJ (wAO (sz:=1) (fun _=>rfl) _ _ 0 _ hg225 (by first | omega | rfl | simp) rfl)) rfl (zY rfl rfl rfl (zm rfl rfl (ZU c216.out)) (fun _=>Runs.gtr rfl rfl rfl) (zY rfl rfl rfl (zm rfl rfl (Zj c214.out)) (fun _=>zh rfl (ZU c216.out) rfl) (zY rfl rfl rfl rfl (fun _=>zg rfl (Zj c214.out) rfl) (eN (ifc hm224 ?_ ?_)))))
          ·intro c226 hm227
           refine cT Z c226 (rR gBt Z (oM Z Z (ZR (j:=0) (vs:=[jV (↑k174:Int)]) Z Z Z Z hS189 Z f197 Z Z zB (zI Z) Z Z Z ?_)))
           intro W228 hS229
           have hS230:sW w U U187 [.blk b162 3 [jV (↑k174:Int)],.obj b80 (.map es120 ck121),.blk b36 252 (nA KL.encI a122.l),B1,B2] W228:=hS229
           refine zx (zZ ?_)
           cases hm227
           exact zH ⟨Z,⟨U187,f190,f191,f192,f193,f194,f195,f196,f197,f198,f199,f200,fi186,(zG _),hS230⟩⟩
          ·intro c226 hm232
           refine cF Z c226 (ZV (zZ ?_))
           cases hm232
           exact zH ⟨Z,⟨U187,f190,f191,f192,f193,f194,f195,f196,f197,f198,f199,f200,fi186,(zG _),hS189⟩⟩
        ·intro c214 hm234
         refine oF Z c214 (oF Z c214 (oF Z c214 (zf Z Z Z (wAM Z Z Z) (zf Z Z Z (wAM Z Z Z) (zf Z Z Z (wAM Z Z Z) (zf Z Z Z (wAM Z Z Z) (zf Z Z Z (wAM Z Z Z) (oF Z c214 (oR Z (zh Z (ZU c214.out) Z) (eN (ZG Z (ZV (zZ ?_)))))))))))))
         cases hm234
         exact zH ⟨Z,⟨U187,f190,f191,f192,f193,f194,f195,f196,f197,f198,f199,f200,fi186,(zG _),hS189⟩⟩
       ·intro c212 hm236
        refine zf Z Z Z (zy Z Z (nF (c212.out)) Z) (zf Z Z Z (zy Z Z (nF (c212.out)) Z) (zf Z Z Z (zy Z Z (nF (c212.out)) Z) (zf Z Z Z (zy Z Z (nF (c212.out)) Z) (zf Z Z Z (zy Z Z (nF (c212.out)) Z) (rU Z (wT Z c210) (zg Z (nF (c212.out)) Z) (oR Z (zg Z (Zj c210.out) Z) (oM Z Z (ZC Z Z Z (zm Z Z Z) (hS189.ldB (j:=0) Z Z f197 zJ (v:=jV x173) Z) Z (zY Z Z Z (zm Z Z Z) (fun _=>zQ Z Z Z) (zR Z Z Z (zm Z Z Z) Z Z (ifc hm236 ?_ ?_)))))))))))
        ·intro c237 hm238
         refine oT Z c237 (oT Z c237 (oT Z c237 (oT Z c237 (oT Z c237 (zY Z Z Z (zm Z Z Z) (fun _=>zg Z (Zj c237.out) Z) (oR Z (zg Z Z Z) (eN (ZK Z (rR gBt Z (oM Z Z (ZR (j:=0) (vs:=[jV (↑k174:Int)]) Z Z Z Z hS189 Z f197 Z Z zB (zI Z) Z Z Z ?_)))))))))))
         intro W239 hS240
         have hS241:sW w U U187 [.blk b162 3 [jV (↑k174:Int)],.obj b80 (.map es120 ck121),.blk b36 252 (nA KL.encI a122.l),B1,B2] W239:=hS240
         refine zx (zZ ?_)
         cases hm238
         exact zH ⟨Z,⟨U187,f190,f191,f192,f193,f194,f195,f196,f197,f198,f199,f200,fi186,(zG _),hS241⟩⟩
        ·intro c237 hm243
         refine zR Z Z Z (wF Z c237) Z Z (ZC Z Z Z (wF Z c237) (hS189.ldB (j:=0) Z Z f197 zJ (v:=jV x173) Z) Z (bnK hm243 fun _ h244 hm245=>rU Z (wF Z c237) (Runs.iaA Z f191 Z ZN zB (wCJ h244) (wCK h244)) ?_))
         have hg246:=Arr.at_ a122 (k:=x173.toNat) (by have hz0:=wAP h244;omega)
         refine ZC rfl rfl rfl (zm rfl rfl (ZU c237.out)) (hS189.ldB (j:=2) rfl rfl rfl zJ (wAO (sz:=1) (fun _=>rfl) _ _ 0 _ hg246 (by first | omega | rfl | simp) rfl)) rfl (zY rfl rfl rfl (zm rfl rfl (ZU c237.out)) (fun _=>Runs.gtr rfl rfl rfl) (zY rfl rfl rfl (zm rfl rfl rfl) (fun _=>zh rfl (ZU c237.out) rfl) (zY rfl rfl rfl rfl (fun _=>zg rfl rfl rfl) (eN (ifc hm245 ?_ ?_)))))
         ·intro c247 hm248
          refine cT Z c247 (rR gBt Z (oM Z Z (ZR (j:=0) (vs:=[jV (↑k174:Int)]) Z Z Z Z hS189 Z f197 Z Z zB (zI Z) Z Z Z ?_)))
          intro W249 hS250
          have hS251:sW w U U187 [.blk b162 3 [jV (↑k174:Int)],.obj b80 (.map es120 ck121),.blk b36 252 (nA KL.encI a122.l),B1,B2] W249:=hS250
          refine zx (zZ ?_)
          cases hm248
          exact zH ⟨Z,⟨U187,f190,f191,f192,f193,f194,f195,f196,f197,f198,f199,f200,fi186,(zG _),hS251⟩⟩
         ·intro c247 hm253
          refine cF Z c247 (ZV (zZ ?_))
          cases hm253
          exact zH ⟨Z,⟨U187,f190,f191,f192,f193,f194,f195,f196,f197,f198,f199,f200,fi186,(zG _),hS189⟩⟩
      ·intro c210 hm255
       refine oF Z c210 (oF Z c210 (oF Z c210 (zf Z Z Z (wAM Z Z Z) (zf Z Z Z (wAM Z Z Z) (zf Z Z Z (wAM Z Z Z) (zf Z Z Z (wAM Z Z Z) (zf Z Z Z (wAM Z Z Z) (oF Z c210 (oR Z (zh Z (ZU c210.out) Z) (oM Z Z (oN Z (oN Z (oN Z (zf Z Z Z (wAM Z Z Z) (zf Z Z Z (wAM Z Z Z) (zf Z Z Z (wAM Z Z Z) (zf Z Z Z (wAM Z Z Z) (zf Z Z Z (wAM Z Z Z) (oN Z (oR Z (zh Z Z Z) (eN (ZG Z (ZV (zZ ?_))))))))))))))))))))))))
       cases hm255
       exact zH ⟨Z,⟨U187,f190,f191,f192,f193,f194,f195,f196,f197,f198,f199,f200,fi186,(zG _),hS189⟩⟩
     ·rintro σ257 W258 ⟨U259,f262,f263,f264,f265,f266,f267,f268,f269,f270,f271,f272,f273,le260,hS261⟩
      refine rR fL2 Z (oR Z (zz (zV Z f273 Z) (congrArg (jV) hi202.out)) (oM Z Z (zx ?_)))
      cases hm206
      exact zH ⟨Z,⟨U259,Z,f262,f263,f264,f265,f266,f267,f268,f269,f270,f271,f272,(le188.trans le260),hS261⟩⟩
    ·rintro σ275 W276 ⟨U280,fi278,f283,f284,f285,f286,f287,f288,f289,f290,f291,f292,f293,le281,hS282⟩
     have c294:Hid (¬ ((↑((31:Int) - 0).toNat:Int) < 31)):=zD (wAr)
     refine sR fL1 Z (oR Z (zQ Z fi278 Z) (eN (zF (cF Z c294 (ZM (ze (ze (ZI (zH (sR gCa Z (oM Z f286 ?_)))))))))))
     have q:=hS282.freeze (k:=0) rfl
     obtain ⟨U295,le296,hC297,hS298⟩:=q
     replace hC297:=Cl.of hC297
     have hS299:sW w U U295 [.obj b80 (.map es120 ck121),.blk b36 252 (nA KL.encI a122.l),B1,B2] W276:=hS298
     replace hC297:Cl U295 b162 0 [jV y179]:=hC297
     refine oR Z (Runs.mkf Z zP (zC f283 (zC f290 zP))) ?_
     have q:=hS299.freezeT (k:=2) (n:=l123.length) rfl (wAB (f:=KL.encI) (sz:=1) (fun _=>rfl) l123) (by decide)
     obtain ⟨U301,le302,hs303,hS304,th300⟩:=q
     have hS305:sW w U U301 [.obj b80 (.map es120 ck121),.blk b36 252 (nA KL.encI a122.l),B2] W276:=hS304
     have h306:=h84.le le149
     have h307:=h306.le le281
     have h308:=h307.le le296
     have h309:=h308.le le302
     have h310:=h65.le le73
     have h311:=h310.le le149
     have h312:=h311.le le281
     have h313:=h312.le le296
     have h314:=h313.le le302
     have h315:=hC297.le le302
     have hF316:FnOK Tryz.prog U301 (.func (.func 147) #[] #[.pointer (some ⟨b2,0,none⟩),.pointer (some ⟨b162,0,none⟩)]) wHB wIH (fun x=>wAk x p0 y179):=⟨147,[],[.pointer (some ⟨b2,0,none⟩),.pointer (some ⟨b162,0,none⟩)],rfl,Tryz.call147,fun U1 w1 x y vs le hs ha hm=>by obtain rfl:=ha;exact wED x p0 b2 pA0 pc0 y179 b162 w1 U1 hs (h309.le le) (h314.le le) (h315.le le) hm⟩
     refine bnK hm175 fun x317 h318 hm319=>zL 0 Z Z Z Z (zK Z Z Tryz.call146 (zC Z (zC Z zP)) Z) hS305 (fun hs=>wCS l123 A124 c125 (fun x=>wAk x p0 y179) (.func (.func 147) #[] #[.pointer (some ⟨b2,0,none⟩),.pointer (some ⟨b162,0,none⟩)]) W276 U301 hs hs303 hF316 h318) (.inr Z) ?_
     rintro U320 L321 v322 W323 le324 hS325 ⟨rfl,rfl⟩
     have hS326:sW w U U320 [.obj b80 (.map es120 ck121),.blk b36 252 (nA KL.encI a122.l),B2] W323:=hS325
     have q:=th300 _ _ _ le324 hS326
     obtain ⟨U327,le328,hS329⟩:=q
     have hS330:sW w U U327 [B1,.obj b80 (.map es120 ck121),.blk b36 252 (nA KL.encI a122.l),B2] W323:=hS329
     refine oA Z Z (eN (sR (wJa gBx) Z (oM Z f288 (oM Z f286 (oM Z Z (bnK hm319 fun _ h331 hm332=>?_))))))
     obtain ⟨b333,hA334⟩:=hS330.rowSome (j:=0) rfl (by rw [wAB (f:=KL.encI) (sz:=1) (fun _=>rfl) l123];have hz:=wAP h331;omega)
     refine oR Z (ZS Z Z hA334 Z zA zB (wCJ h331) (wCK h331)) ?_
     have hg335:=wBM (xs:=l123) (wAP h331)
     refine ZC rfl rfl rfl rfl (hS330.ldR (j:=0) rfl hA334 rfl rfl zJ (wAO (sz:=1) (fun _=>rfl) _ _ 0 _ hg335 (by first | omega | rfl | simp) rfl)) rfl (zU (pv:=[(0,jV (gd l123 x317.toNat))]) (zs:=[jV 0]) (cs:=[jV (gd l123 x317.toNat)]) rfl rfl rfl rfl rfl (wAH rfl wAQ) zA zB zt rfl rfl rfl rfl rfl hS330 ?_)
     intro W336 b337 hS338
     let B3:Res:=.row (some ⟨b337,0,none⟩) 1 3 1 (nA KL.encI [(gd l123 x317.toNat)])
     have hS340:sW w U U327 [B3,B1,.obj b80 (.map es120 ck121),.blk b36 252 (nA KL.encI a122.l),B2] W336:=hS338
     refine bnK hm332 fun x341 h342 hm343=>ZO (j:=4) (enc:=KL.encI) (xs:=l126) (ys:=[(gd l123 x317.toNat)]) (zs:=x341) rfl rfl rfl rfl rfl zu wCc rfl rfl rfl rfl rfl rfl hS340 rfl rfl rfl (hS340.srcR (j:=0) rfl (by decide) (wAB (f:=KL.encI) (sz:=1) (fun _=>rfl) [(gd l123 x317.toNat)])) (fun _=>rfl) (fun _=>rfl) h342 rfl ?_
     intro A344 c345 W346 hS347
     let B4:Res:=.row A344 c345 3 1 (nA KL.encI x341)
     have hS348:sW w U U327 [B3,B1,.obj b80 (.map es120 ck121),.blk b36 252 (nA KL.encI a122.l),B4] W346:=hS347
     refine oA Z Z (eN (sR (wHL gBs) Z (oM Z f286 (oM Z Z (oM Z Z (oR Z (zV Z Z Z) (bnK hm343 fun x349 h350 hm351=>?_)))))))
     have hS352:sW w U U327 [B1,B3,.obj b80 (.map es120 ck121),.blk b36 252 (nA KL.encI a122.l),B4] W346:=hS348.pick [1,0,2,3,4] _ (by decide) rfl
     refine zL 1 Z Z Z Z (zK Z Z Tryz.call148 (zC Z (zC Z (zC Z zP))) Z) hS352 (fun hs=>wCj l123 A124 c125 x317 (w64 (x317 + 1)) W346 U327 hs h350) (.inl Z) ?_
     rintro U353 L354 v355 W356 le357 hS358 ⟨A359,c360,rfl,rfl⟩
     let B5:Res:=.row A359 c360 3 1 (nA KL.encI x349)
     have hS362:sW w U U353 [B5,B3,.obj b80 (.map es120 ck121),.blk b36 252 (nA KL.encI a122.l),B4] W356:=hS358
     refine oA Z Z (eN (sR (wJa (.fx 5 .nil .stop)) Z ?_))
     have h363:=hC297.le le328
     have h364:=h363.le le357
     refine oL Z (hS362.ldC (f:=0) h364 (v:=jV y179) Z f290 zJ Z) (bnK hm351 fun _ h365 hm366=>oR Z (Runs.iaA Z f284 Z ZN zB (wCJ h365) (wCK h365)) ?_)
     have hg367:=Arr.at_ a122 (k:=y179.toNat) (by have hz0:=wAP h365;omega)
     refine ZC rfl rfl rfl rfl (hS362.ldB (j:=3) rfl rfl rfl zJ (wAO (sz:=1) (fun _=>rfl) _ _ 0 _ hg367 (by first | omega | rfl | simp) rfl)) rfl (zY rfl rfl rfl rfl (fun _=>Zn rfl rfl rfl) (zY rfl rfl rfl rfl (fun _=>Runs.iaA rfl f284 rfl ZN zB (wCJ h365) (wCK h365)) ?_))
     have hg368:=Arr.at_ a122 (k:=y179.toNat) (by have hz0:=wAP h365;omega)
     refine ZR (j:=3) (vs:=[jV (w64 ((a122.get y179.toNat) - 1))]) (cs':=nA KL.encI (a122.set y179.toNat (w64 ((a122.get y179.toNat) - 1))).l) rfl rfl rfl rfl hS362 rfl rfl rfl rfl zB (by have hz0:=wAP h365;simp only [nN,nP,nQ,wBI (f:=KL.encI) (sz:=1) (N:=31) a122 (fun _=>rfl) rfl];omega) rfl (wDo (sz:=1) (fo:=0) (fun _=>rfl) _ _ _ _ hg368 (by first | omega | rfl | simp) (zI rfl) rfl) rfl ?_
     intro W369 hS370
     have hS371:sW w U U353 [B5,B3,.obj b80 (.map es120 ck121),.blk b36 252 (nA KL.encI (a122.set y179.toNat (w64 ((a122.get y179.toNat) - 1))).l),B4] W369:=hS370
     refine eN (rR (wMI (.fx 3 .nil .stop)) rfl (zR rfl rfl rfl rfl rfl f287 (ZC rfl rfl rfl rfl (hS371.ldC (f:=0) h364 (v:=jV y179) rfl f290 zJ rfl) rfl (zR rfl rfl rfl rfl rfl f289 (OKS.mapPut (x:=.tmp 109) (y:=.tmp 110) (z:=.tmp 111) (j:=2) (mk:=wII) (mv:=wJH) (a:=y179) (v:=(↑k130:Int)) rfl rfl rfl (by first | exact .inl rfl | exact .inr rfl) hS371 rfl rfl rfl rfl (wCV Tryz.runUnderlying177) wIJ h158 rfl ?_)))))
     intro es372 ck373 W374 hr375 hS376
     have hS377:sW w U U353 [B5,B3,.obj b80 (.map es372 ck373),.blk b36 252 (nA KL.encI (a122.set y179.toNat (w64 ((a122.get y179.toNat) - 1))).l),B4] W374:=hS376
     refine zx (zZ (zH (rR fL2 Z (oR Z (zz (zV Z f292 Z) (congrArg (jV) hi160.out)) (oM Z Z (zx ?_))))))
     cases hm366
     exact zH ⟨rfl,⟨U353,es372,ck373,A359,c360,A344,c345,rfl,f283,f284,f285,rfl,f287,rfl,f291,((((le149.trans le281).trans le296).trans le328).trans le357),(hS377.pick [2,3,0,4] _ (by decide) rfl),hr375⟩⟩
   ·rintro σ388 W389 ⟨U408,e402,c403,A404,c405,A406,c407,fi391,f411,f412,f413,f414,f415,f416,f417,le409,hS410,h418⟩
    have c419:Hid (¬ ((↑(((↑p0.length:Int):Int) - 0).toNat:Int) < (↑p0.length:Int))):=zD (wAr)
    refine sR fL1 Z (oR Z (zQ Z fi391 f417) (eN (zF (cF Z c419 (ZM (ze (ze (ZI (zH (sR fL5 Z (oM Z f416 (oM Z f413 (oA Z Z (oA Z Z (oA Z Z (eN (zW ?_)))))))))))))))))
    cases hm131
    exact ⟨rfl,_,(res3 rfl rfl rfl),U408,_,(hS410.pick [3] _ (by decide) rfl),A406,c407,rfl,rfl⟩
  ·intro c59 hm420
   refine cF Z c59 (kN (sR gBw Z (oL Z (hS56.ldC (f:=0) h58 (v:=.slice pA0 p0.length pc0) Z Z Zg Z) ?_)))
   have h421:=h24.le le32
   have h422:=h421.le le51
   refine bnK hm420 fun x423 h424 hm425=>zL 0 Z Z Z Z (zK Z Z Tryz.call143 (zC Z zP) Z) hS56 (fun hs=>wDc p0 pA0 pc0 W50 U47 hs h422 h424) (.inr Z) ?_
   rintro U426 L427 v428 W429 le430 hS431 ⟨A432,c433,rfl,rfl⟩
   have hS435:sW w U U426 [.row A432 c433 3 1 (nA KL.encI x423),B0,.blk b36 252 (nA KL.encI x25.l)] W429:=hS431
   refine oA Z Z (eN (sR gBp Z (OKS.makeMap Z Z Z Z Z hS435 ?_)))
   intro W436 b437 hS438
   have hr439:=MpR.nil wII wJH
   refine oA Z Z (eN (sR fL1 Z (oA Z Z (eN (zF (sR fL3 Z ?_))))))
   have h441:=h58.le le430
   refine oL Z (hS438.ldC (f:=0) h441 (v:=.slice pA0 p0.length pc0) Z Z Zg Z) (oR Z (zo Z Z ZA) (oM Z Z (eN (zS ?_))))
   have q:=bnd hm425
   obtain ⟨⟨y492,y493,y494,y495⟩,hf489,hm488⟩:=q
   try dsimp only at hm488
   have q:=wAx hf489
   obtain ⟨hle490,hf491⟩:=q
   replace hle490:=zD hle490
   refine CK.forN' (fun k487 (l476,a479,l480,l483) σ_ w_=>∃ (U_:PHeap) (es477:Array MapEntry) (ck478:Nat) (A481:Option Addr) (c482:Nat) (A484:Option Addr) (c485:Nat),σ_ 49=jV (↑k487:Int)/\σ_ 1=.pointer (some ⟨b2,0,none⟩)/\σ_ 6=.pointer (some ⟨b36,0,none⟩)/\σ_ 9=jV (↑p0.length:Int)/\σ_ 10=.slice A481 l480.length c482/\σ_ 11=.map (some b437)/\σ_ 12=.slice A484 l483.length c485/\σ_ 48=jV (↑p0.length:Int)/\PHeap.Le U426 U_/\sW w U U_ [.obj b437 (.map es477 ck478),.blk b36 252 (nA KL.encI a479.l),.row A481 c482 3 1 (nA KL.encI l480),.row A484 c485 3 1 (nA KL.encI l483)] w_/\MpR es477 wII wJH l476) hf491 ?_ ?_ ?_
   ·have hS496:=hS438.nilrow 3 1
    exact ⟨U426,#[],0,A432,c433,none,0,rfl,rfl,rfl,rfl,rfl,rfl,rfl,rfl,(zG _),(hS496.pick [1,4,2,0] _ (by decide) rfl),hr439⟩
   ·rintro k487 ⟨l476,a479,l480,l483⟩ xx500 σ498 W499 hk503 ⟨U505,es477,ck478,A481,c482,A484,c485,fi504,f508,f509,f510,f511,f512,f513,f514,le506,hS507,h515⟩ hx501
    try dsimp only at hx501
    have c516:Hid ((↑k487:Int) < (↑p0.length:Int)):=zD (wBT hk503)
    replace hk503:=zD hk503
    have hi517:Hid (w64 ((↑k487:Int) + 1)=(↑(k487 + 1):Int)):=zD (by have h1:=hle490.out;have h2:=c516.out;rw [wAU] <;> omega)
    refine sR fL1 Z (oR Z (zQ Z fi504 f514) (eN (zF (cT Z c516 (kN (zF (zS (sR fL2 Z (oM Z fi504 (oA Z Z (eN (sR gBu Z (zw (cs:=[jV 0]) Z Z Z Z Z zt Z hS507 ?_)))))))))))))
    intro W518 b519 hS520
    refine ZR (j:=0) (vs:=[jV (-1)]) Z Z Z Z hS520 Z Z Z Z zB (zI Z) Z Z Z ?_
    intro W522 hS523
    let B6:Res:=.row A481 c482 3 1 (nA KL.encI l480)
    let B7:Res:=.row A484 c485 3 1 (nA KL.encI l483)
    have hS524:sW w U U505 [.blk b519 3 [jV (-1)],.obj b437 (.map es477 ck478),.blk b36 252 (nA KL.encI a479.l),B6,B7] W522:=hS523
    refine eN (zF (sR fL2 Z (oL Z (hS524.ldBA (j:=2) Z Z f509 Tryz.isAgg252 Zv (vs:=nA KL.encI a479.l) (wLY a479 (fun _=>Z) Z) (wBI a479 (fun _=>Z) Z)) (oM Z Z (eN (zS (bnK hx501 fun y536 hf533 hm532=>?_)))))))
    have q:=wAx hf533
    obtain ⟨hle534,hf535⟩:=q
    replace hle534:=zD hle534
    refine CK.forN' (fun k531 x530 σ_ w_=>∃ (U_:PHeap),σ_ 53=jV (↑k531:Int)/\σ_ 1=.pointer (some ⟨b2,0,none⟩)/\σ_ 6=.pointer (some ⟨b36,0,none⟩)/\σ_ 9=jV (↑p0.length:Int)/\σ_ 10=.slice A481 l480.length c482/\σ_ 11=.map (some b437)/\σ_ 12=.slice A484 l483.length c485/\σ_ 13=jV (↑k487:Int)/\σ_ 14=.pointer (some ⟨b519,0,none⟩)/\σ_ 48=jV (↑p0.length:Int)/\σ_ 49=jV (↑k487:Int)/\σ_ 52=.agg (nA KL.encI a479.l).toArray/\PHeap.Le U505 U_/\sW w U U_ [.blk b519 3 [jV x530],.obj b437 (.map es477 ck478),.blk b36 252 (nA KL.encI a479.l),B6,B7] w_) hf535 ?_ ?_ ?_
    ·exact ⟨U505,Z,f508,f509,f510,f511,f512,f513,Z,Z,f514,fi504,Z,(zG _),hS524⟩
    ·rintro k531 x530 xx539 σ537 W538 hk542 ⟨U544,fi543,f547,f548,f549,f550,f551,f552,f553,f554,f555,f556,f557,le545,hS546⟩ hx540
     have c558:Hid ((↑k531:Int) < 31):=zD (wBT hk542)
     replace hk542:=zD hk542
     have hi559:Hid (w64 ((↑k531:Int) + 1)=(↑(k531 + 1):Int)):=zD (by have h1:=hle534.out;have h2:=c558.out;rw [wAU] <;> omega)
     refine sR fL1 Z (oR Z (zQ Z fi543 Z) (eN (zF (cT Z c558 (kN (bnK hx540 fun x560 hx562 hm563=>CK.cut (fun σ_ w_=>∃ (U_:PHeap),σ_ 1=.pointer (some ⟨b2,0,none⟩)/\σ_ 6=.pointer (some ⟨b36,0,none⟩)/\σ_ 9=jV (↑p0.length:Int)/\σ_ 10=.slice A481 l480.length c482/\σ_ 11=.map (some b437)/\σ_ 12=.slice A484 l483.length c485/\σ_ 13=jV (↑k487:Int)/\σ_ 14=.pointer (some ⟨b519,0,none⟩)/\σ_ 48=jV (↑p0.length:Int)/\σ_ 49=jV (↑k487:Int)/\σ_ 52=.agg (nA KL.encI a479.l).toArray/\σ_ 53=jV (↑k531:Int)/\PHeap.Le U544 U_/\sW w U U_ [.blk b519 3 [jV x560],.obj b437 (.map es477 ck478),.blk b36 252 (nA KL.encI a479.l),B6,B7] w_) ?_ ?_))))))
     ·refine zS (sR fL4 rfl (zR rfl rfl rfl rfl rfl fi543 (bnK hx562 fun x564 h565 hm566=>zY rfl rfl rfl rfl (fun _=>Runs.ixA (cs:=nA KL.encI (a479.l:List Int)) rfl f557 fi543 ZN zB (wCC h565) (by have q_:=wCG h565;rw [(a479).h] at q_;exact q_) (wDJ zJ (wCQ (sz:=1) (fun _=>rfl) _ _ 0 _ _ (wAZ h565) rfl))) (Zb rfl rfl rfl rfl rfl rfl (Zb rfl rfl rfl rfl rfl rfl (eN (sR fL8 rfl (zR rfl rfl rfl rfl rfl f551 (zR rfl rfl rfl rfl rfl rfl (ZC rfl rfl rfl rfl (hS546.lookup2 (j:=1) (mk:=wII) (mv:=wJH) (a:=(↑k531:Int)) (z:=0) rfl rfl rfl rfl (wCV Tryz.runUnderlying177) wIJ zt h515) rfl (zR rfl rfl rfl rfl rfl rfl (zY rfl rfl rfl rfl (fun _=>ZY rfl rfl (v:=jV (wCb l476 (↑k531:Int) 0)) rfl) (zY rfl rfl rfl rfl (fun _=>ZY rfl rfl (v:=.bool (wIg l476 (↑k531:Int))) rfl) (Zb rfl rfl rfl rfl rfl rfl (Zb rfl rfl rfl rfl rfl rfl (eN (sR fL24 rfl (zR rfl rfl rfl rfl rfl rfl (zY rfl rfl rfl rfl (fun _=>Runs.gtr rfl rfl rfl) (zR rfl rfl rfl rfl rfl rfl (ifc hm566 ?_ ?_)))))))))))))))))))))
      ·intro c567 hm568
       refine zR Z Z Z (wT Z c567) Z Z (rU Z (wT Z c567) (Zf Z Z) (zR Z Z Z (wT Z c567) Z Z (ifc hm568 ?_ ?_)))
       ·intro c569 hm570
        refine zR Z Z Z (zm Z Z (nC c569.out)) Z f553 (zR Z Z Z (zm Z Z (nC c569.out)) Z Z (zY Z Z Z (zm Z Z (nC c569.out)) (fun _=>Zn Z Z Z) (zR Z Z Z (zm Z Z (nC c569.out)) Z f549 (zY Z Z Z (zm Z Z (nC c569.out)) (fun _=>Runs.geq Z Z Z) (rU Z (wT Z c567) (zh Z (nC c569.out) Z) (oR Z (zg Z (Zj c567.out) Z) (oM Z Z (ifc hm570 ?_ ?_))))))))
        ·intro c571 hm572
         refine ZC Z Z Z (wT Z c571) (hS546.ldB (j:=0) Z Z f554 zJ (v:=jV x530) Z) Z (rU Z (wT Z c571) (zQ Z Z Z) (zR Z Z Z (wT Z c571) Z Z (ifc hm572 ?_ ?_)))
         ·intro c573 hm574
          refine oT Z c573 (oT Z c573 (oT Z c573 (oT Z c573 (oT Z c573 (rU Z (wT Z c571) (zg Z (Zj c573.out) Z) (oR Z (zg Z (Zj c571.out) Z) (eN (ZK Z (rR gBt Z (oM Z Z (ZR (j:=0) (vs:=[jV (↑k531:Int)]) Z Z Z Z hS546 Z f554 Z Z zB (zI Z) Z Z Z ?_)))))))))))
          intro W575 hS576
          have hS577:sW w U U544 [.blk b519 3 [jV (↑k531:Int)],.obj b437 (.map es477 ck478),.blk b36 252 (nA KL.encI a479.l),B6,B7] W575:=hS576
          refine zx (zZ ?_)
          cases hm574
          exact zH ⟨Z,⟨U544,f547,f548,f549,f550,f551,f552,f553,f554,f555,f556,f557,fi543,(zG _),hS577⟩⟩
         ·intro c573 hm579
          refine zR Z Z Z (wF Z c573) Z Z (ZC Z Z Z (wF Z c573) (hS546.ldB (j:=0) Z Z f554 zJ (v:=jV x530) Z) Z (bnK hm579 fun _ h580 hm581=>rU Z (wF Z c573) (Runs.iaA Z f548 Z ZN zB (wCJ h580) (wCK h580)) ?_))
          have hg582:=Arr.at_ a479 (k:=x530.toNat) (by have hz0:=wAP h580;omega)
          refine ZC rfl rfl rfl (zm rfl rfl (ZU c573.out)) (hS546.ldB (j:=2) rfl rfl rfl zJ (wAO (sz:=1) (fun _=>rfl) _ _ 0 _ hg582 (by first | omega | rfl | simp) rfl)) rfl (zY rfl rfl rfl (zm rfl rfl (ZU c573.out)) (fun _=>Runs.gtr rfl rfl rfl) (zY rfl rfl rfl (zm rfl rfl (Zj c571.out)) (fun _=>zh rfl (ZU c573.out) rfl) (zY rfl rfl rfl rfl (fun _=>zg rfl (Zj c571.out) rfl) (eN (ifc hm581 ?_ ?_)))))
          ·intro c583 hm584
           refine cT Z c583 (rR gBt Z (oM Z Z (ZR (j:=0) (vs:=[jV (↑k531:Int)]) Z Z Z Z hS546 Z f554 Z Z zB (zI Z) Z Z Z ?_)))
           intro W585 hS586
           have hS587:sW w U U544 [.blk b519 3 [jV (↑k531:Int)],.obj b437 (.map es477 ck478),.blk b36 252 (nA KL.encI a479.l),B6,B7] W585:=hS586
           refine zx (zZ ?_)
           cases hm584
           exact zH ⟨Z,⟨U544,f547,f548,f549,f550,f551,f552,f553,f554,f555,f556,f557,fi543,(zG _),hS587⟩⟩
          ·intro c583 hm589
           refine cF Z c583 (ZV (zZ ?_))
           cases hm589
           exact zH ⟨Z,⟨U544,f547,f548,f549,f550,f551,f552,f553,f554,f555,f556,f557,fi543,(zG _),hS546⟩⟩
        ·intro c571 hm591
         refine oF Z c571 (oF Z c571 (oF Z c571 (zf Z Z Z (wAM Z Z Z) (zf Z Z Z (wAM Z Z Z) (zf Z Z Z (wAM Z Z Z) (zf Z Z Z (wAM Z Z Z) (zf Z Z Z (wAM Z Z Z) (oF Z c571 (oR Z (zh Z (ZU c571.out) Z) (eN (ZG Z (ZV (zZ ?_)))))))))))))
         cases hm591
         exact zH ⟨Z,⟨U544,f547,f548,f549,f550,f551,f552,f553,f554,f555,f556,f557,fi543,(zG _),hS546⟩⟩
       ·intro c569 hm593
        refine zf Z Z Z (zy Z Z (nF (c569.out)) Z) (zf Z Z Z (zy Z Z (nF (c569.out)) Z) (zf Z Z Z (zy Z Z (nF (c569.out)) Z) (zf Z Z Z (zy Z Z (nF (c569.out)) Z) (zf Z Z Z (zy Z Z (nF (c569.out)) Z) (rU Z (wT Z c567) (zg Z (nF (c569.out)) Z) (oR Z (zg Z (Zj c567.out) Z) (oM Z Z (ZC Z Z Z (zm Z Z Z) (hS546.ldB (j:=0) Z Z f554 zJ (v:=jV x530) Z) Z (zY Z Z Z (zm Z Z Z) (fun _=>zQ Z Z Z) (zR Z Z Z (zm Z Z Z) Z Z (ifc hm593 ?_ ?_)))))))))))
        ·intro c594 hm595
         refine oT Z c594 (oT Z c594 (oT Z c594 (oT Z c594 (oT Z c594 (zY Z Z Z (zm Z Z Z) (fun _=>zg Z (Zj c594.out) Z) (oR Z (zg Z Z Z) (eN (ZK Z (rR gBt Z (oM Z Z (ZR (j:=0) (vs:=[jV (↑k531:Int)]) Z Z Z Z hS546 Z f554 Z Z zB (zI Z) Z Z Z ?_)))))))))))
         intro W596 hS597
         have hS598:sW w U U544 [.blk b519 3 [jV (↑k531:Int)],.obj b437 (.map es477 ck478),.blk b36 252 (nA KL.encI a479.l),B6,B7] W596:=hS597
         refine zx (zZ ?_)
         cases hm595
         exact zH ⟨Z,⟨U544,f547,f548,f549,f550,f551,f552,f553,f554,f555,f556,f557,fi543,(zG _),hS598⟩⟩
        ·intro c594 hm600
         refine zR Z Z Z (wF Z c594) Z Z (ZC Z Z Z (wF Z c594) (hS546.ldB (j:=0) Z Z f554 zJ (v:=jV x530) Z) Z (bnK hm600 fun _ h601 hm602=>rU Z (wF Z c594) (Runs.iaA Z f548 Z ZN zB (wCJ h601) (wCK h601)) ?_))
         have hg603:=Arr.at_ a479 (k:=x530.toNat) (by have hz0:=wAP h601;omega)
         refine ZC rfl rfl rfl (zm rfl rfl (ZU c594.out)) (hS546.ldB (j:=2) rfl rfl rfl zJ (wAO (sz:=1) (fun _=>rfl) _ _ 0 _ hg603 (by first | omega | rfl | simp) rfl)) rfl (zY rfl rfl rfl (zm rfl rfl (ZU c594.out)) (fun _=>Runs.gtr rfl rfl rfl) (zY rfl rfl rfl (zm rfl rfl rfl) (fun _=>zh rfl (ZU c594.out) rfl) (zY rfl rfl rfl rfl (fun _=>zg rfl rfl rfl) (eN (ifc hm602 ?_ ?_)))))
         ·intro c604 hm605
          refine cT Z c604 (rR gBt Z (oM Z Z (ZR (j:=0) (vs:=[jV (↑k531:Int)]) Z Z Z Z hS546 Z f554 Z Z zB (zI Z) Z Z Z ?_)))
          intro W606 hS607
          have hS608:sW w U U544 [.blk b519 3 [jV (↑k531:Int)],.obj b437 (.map es477 ck478),.blk b36 252 (nA KL.encI a479.l),B6,B7] W606:=hS607
          refine zx (zZ ?_)
          cases hm605
          exact zH ⟨Z,⟨U544,f547,f548,f549,f550,f551,f552,f553,f554,f555,f556,f557,fi543,(zG _),hS608⟩⟩
         ·intro c604 hm610
          refine cF Z c604 (ZV (zZ ?_))
          cases hm610
          exact zH ⟨Z,⟨U544,f547,f548,f549,f550,f551,f552,f553,f554,f555,f556,f557,fi543,(zG _),hS546⟩⟩
      ·intro c567 hm612
       refine oF Z c567 (oF Z c567 (oF Z c567 (zf Z Z Z (wAM Z Z Z) (zf Z Z Z (wAM Z Z Z) (zf Z Z Z (wAM Z Z Z) (zf Z Z Z (wAM Z Z Z) (zf Z Z Z (wAM Z Z Z) (oF Z c567 (oR Z (zh Z (ZU c567.out) Z) (oM Z Z (oN Z (oN Z (oN Z (zf Z Z Z (wAM Z Z Z) (zf Z Z Z (wAM Z Z Z) (zf Z Z Z (wAM Z Z Z) (zf Z Z Z (wAM Z Z Z) (zf Z Z Z (wAM Z Z Z) (oN Z (oR Z (zh Z Z Z) (eN (ZG Z (ZV (zZ ?_))))))))))))))))))))))))
       cases hm612
       exact zH ⟨Z,⟨U544,f547,f548,f549,f550,f551,f552,f553,f554,f555,f556,f557,fi543,(zG _),hS546⟩⟩
     ·rintro σ614 W615 ⟨U616,f619,f620,f621,f622,f623,f624,f625,f626,f627,f628,f629,f630,le617,hS618⟩
      refine rR fL2 Z (oR Z (zz (zV Z f630 Z) (congrArg (jV) hi559.out)) (oM Z Z (zx ?_)))
      cases hm563
      exact zH ⟨Z,⟨U616,Z,f619,f620,f621,f622,f623,f624,f625,f626,f627,f628,f629,(le545.trans le617),hS618⟩⟩
    ·rintro σ632 W633 ⟨U637,fi635,f640,f641,f642,f643,f644,f645,f646,f647,f648,f649,f650,le638,hS639⟩
     have c651:Hid (¬ ((↑((31:Int) - 0).toNat:Int) < 31)):=zD (wAr)
     refine sR fL1 Z (oR Z (zQ Z fi635 Z) (eN (zF (cF Z c651 (ZM (ze (ze (ZI (zH (sR gCa Z (oM Z f643 ?_)))))))))))
     have q:=hS639.freeze (k:=0) rfl
     obtain ⟨U652,le653,hC654,hS655⟩:=q
     replace hC654:=Cl.of hC654
     have hS656:sW w U U652 [.obj b437 (.map es477 ck478),.blk b36 252 (nA KL.encI a479.l),B6,B7] W633:=hS655
     replace hC654:Cl U652 b519 0 [jV y536]:=hC654
     refine oR Z (Runs.mkf Z zP (zC f640 (zC f647 zP))) ?_
     have q:=hS656.freezeT (k:=2) (n:=l480.length) rfl (wAB (f:=KL.encI) (sz:=1) (fun _=>rfl) l480) (by decide)
     obtain ⟨U658,le659,hs660,hS661,th657⟩:=q
     have hS662:sW w U U658 [.obj b437 (.map es477 ck478),.blk b36 252 (nA KL.encI a479.l),B7] W633:=hS661
     have h663:=h441.le le506
     have h664:=h663.le le638
     have h665:=h664.le le653
     have h666:=h665.le le659
     have h667:=h422.le le430
     have h668:=h667.le le506
     have h669:=h668.le le638
     have h670:=h669.le le653
     have h671:=h670.le le659
     have h672:=hC654.le le659
     have hF673:FnOK Tryz.prog U658 (.func (.func 147) #[] #[.pointer (some ⟨b2,0,none⟩),.pointer (some ⟨b519,0,none⟩)]) wHB wIH (fun x=>wAk x p0 y536):=⟨147,[],[.pointer (some ⟨b2,0,none⟩),.pointer (some ⟨b519,0,none⟩)],rfl,Tryz.call147,fun U1 w1 x y vs le hs ha hm=>by obtain rfl:=ha;exact wED x p0 b2 pA0 pc0 y536 b519 w1 U1 hs (h666.le le) (h671.le le) (h672.le le) hm⟩
     refine bnK hm532 fun x674 h675 hm676=>zL 0 Z Z Z Z (zK Z Z Tryz.call146 (zC Z (zC Z zP)) Z) hS662 (fun hs=>wCS l480 A481 c482 (fun x=>wAk x p0 y536) (.func (.func 147) #[] #[.pointer (some ⟨b2,0,none⟩),.pointer (some ⟨b519,0,none⟩)]) W633 U658 hs hs660 hF673 h675) (.inr Z) ?_
     rintro U677 L678 v679 W680 le681 hS682 ⟨rfl,rfl⟩
     have hS683:sW w U U677 [.obj b437 (.map es477 ck478),.blk b36 252 (nA KL.encI a479.l),B7] W680:=hS682
     have q:=th657 _ _ _ le681 hS683
     obtain ⟨U684,le685,hS686⟩:=q
     have hS687:sW w U U684 [B6,.obj b437 (.map es477 ck478),.blk b36 252 (nA KL.encI a479.l),B7] W680:=hS686
     refine oA Z Z (eN (sR (wJa gBx) Z (oM Z f645 (oM Z f643 (oM Z Z (bnK hm676 fun _ h688 hm689=>?_))))))
     obtain ⟨b690,hA691⟩:=hS687.rowSome (j:=0) rfl (by rw [wAB (f:=KL.encI) (sz:=1) (fun _=>rfl) l480];have hz:=wAP h688;omega)
     refine oR Z (ZS Z Z hA691 Z zA zB (wCJ h688) (wCK h688)) ?_
     have hg692:=wBM (xs:=l480) (wAP h688)
     refine ZC rfl rfl rfl rfl (hS687.ldR (j:=0) rfl hA691 rfl rfl zJ (wAO (sz:=1) (fun _=>rfl) _ _ 0 _ hg692 (by first | omega | rfl | simp) rfl)) rfl (zU (pv:=[(0,jV (gd l480 x674.toNat))]) (zs:=[jV 0]) (cs:=[jV (gd l480 x674.toNat)]) rfl rfl rfl rfl rfl (wAH rfl wAQ) zA zB zt rfl rfl rfl rfl rfl hS687 ?_)
     intro W693 b694 hS695
     let B8:Res:=.row (some ⟨b694,0,none⟩) 1 3 1 (nA KL.encI [(gd l480 x674.toNat)])
     have hS697:sW w U U684 [B8,B6,.obj b437 (.map es477 ck478),.blk b36 252 (nA KL.encI a479.l),B7] W693:=hS695
     refine bnK hm689 fun x698 h699 hm700=>ZO (j:=4) (enc:=KL.encI) (xs:=l483) (ys:=[(gd l480 x674.toNat)]) (zs:=x698) rfl rfl rfl rfl rfl zu wCc rfl rfl rfl rfl rfl rfl hS697 rfl rfl rfl (hS697.srcR (j:=0) rfl (by decide) (wAB (f:=KL.encI) (sz:=1) (fun _=>rfl) [(gd l480 x674.toNat)])) (fun _=>rfl) (fun _=>rfl) h699 rfl ?_
     intro A701 c702 W703 hS704
     let B9:Res:=.row A701 c702 3 1 (nA KL.encI x698)
     have hS705:sW w U U684 [B8,B6,.obj b437 (.map es477 ck478),.blk b36 252 (nA KL.encI a479.l),B9] W703:=hS704
     refine oA Z Z (eN (sR (wHL gBs) Z (oM Z f643 (oM Z Z (oM Z Z (oR Z (zV Z Z Z) (bnK hm700 fun x706 h707 hm708=>?_)))))))
     have hS709:sW w U U684 [B6,B8,.obj b437 (.map es477 ck478),.blk b36 252 (nA KL.encI a479.l),B9] W703:=hS705.pick [1,0,2,3,4] _ (by decide) rfl
     refine zL 1 Z Z Z Z (zK Z Z Tryz.call148 (zC Z (zC Z (zC Z zP))) Z) hS709 (fun hs=>wCj l480 A481 c482 x674 (w64 (x674 + 1)) W703 U684 hs h707) (.inl Z) ?_
     rintro U710 L711 v712 W713 le714 hS715 ⟨A716,c717,rfl,rfl⟩
     let B10:Res:=.row A716 c717 3 1 (nA KL.encI x706)
     have hS719:sW w U U710 [B10,B8,.obj b437 (.map es477 ck478),.blk b36 252 (nA KL.encI a479.l),B9] W713:=hS715
     refine oA Z Z (eN (sR (wJa (.fx 5 .nil .stop)) Z ?_))
     have h720:=hC654.le le685
     have h721:=h720.le le714
     refine oL Z (hS719.ldC (f:=0) h721 (v:=jV y536) Z f647 zJ Z) (bnK hm708 fun _ h722 hm723=>oR Z (Runs.iaA Z f641 Z ZN zB (wCJ h722) (wCK h722)) ?_)
     have hg724:=Arr.at_ a479 (k:=y536.toNat) (by have hz0:=wAP h722;omega)
     refine ZC rfl rfl rfl rfl (hS719.ldB (j:=3) rfl rfl rfl zJ (wAO (sz:=1) (fun _=>rfl) _ _ 0 _ hg724 (by first | omega | rfl | simp) rfl)) rfl (zY rfl rfl rfl rfl (fun _=>Zn rfl rfl rfl) (zY rfl rfl rfl rfl (fun _=>Runs.iaA rfl f641 rfl ZN zB (wCJ h722) (wCK h722)) ?_))
     have hg725:=Arr.at_ a479 (k:=y536.toNat) (by have hz0:=wAP h722;omega)
     refine ZR (j:=3) (vs:=[jV (w64 ((a479.get y536.toNat) - 1))]) (cs':=nA KL.encI (a479.set y536.toNat (w64 ((a479.get y536.toNat) - 1))).l) rfl rfl rfl rfl hS719 rfl rfl rfl rfl zB (by have hz0:=wAP h722;simp only [nN,nP,nQ,wBI (f:=KL.encI) (sz:=1) (N:=31) a479 (fun _=>rfl) rfl];omega) rfl (wDo (sz:=1) (fo:=0) (fun _=>rfl) _ _ _ _ hg725 (by first | omega | rfl | simp) (zI rfl) rfl) rfl ?_
     intro W726 hS727
     have hS728:sW w U U710 [B10,B8,.obj b437 (.map es477 ck478),.blk b36 252 (nA KL.encI (a479.set y536.toNat (w64 ((a479.get y536.toNat) - 1))).l),B9] W726:=hS727
     refine eN (rR (wMI (.fx 3 .nil .stop)) rfl (zR rfl rfl rfl rfl rfl f644 (ZC rfl rfl rfl rfl (hS728.ldC (f:=0) h721 (v:=jV y536) rfl f647 zJ rfl) rfl (zR rfl rfl rfl rfl rfl f646 (OKS.mapPut (x:=.tmp 109) (y:=.tmp 110) (z:=.tmp 111) (j:=2) (mk:=wII) (mv:=wJH) (a:=y536) (v:=(↑k487:Int)) rfl rfl rfl (by first | exact .inl rfl | exact .inr rfl) hS728 rfl rfl rfl rfl (wCV Tryz.runUnderlying177) wIJ h515 rfl ?_)))))
     intro es729 ck730 W731 hr732 hS733
     have hS734:sW w U U710 [B10,B8,.obj b437 (.map es729 ck730),.blk b36 252 (nA KL.encI (a479.set y536.toNat (w64 ((a479.get y536.toNat) - 1))).l),B9] W731:=hS733
     refine zx (zZ (zH (rR fL2 Z (oR Z (zz (zV Z f649 Z) (congrArg (jV) hi517.out)) (oM Z Z (zx ?_))))))
     cases hm723
     exact zH ⟨rfl,⟨U710,es729,ck730,A716,c717,A701,c702,rfl,f640,f641,f642,rfl,f644,rfl,f648,((((le506.trans le638).trans le653).trans le685).trans le714),(hS734.pick [2,3,0,4] _ (by decide) rfl),hr732⟩⟩
   ·rintro σ745 W746 ⟨U765,e759,c760,A761,c762,A763,c764,fi748,f768,f769,f770,f771,f772,f773,f774,le766,hS767,h775⟩
    have c776:Hid (¬ ((↑(((↑p0.length:Int):Int) - 0).toNat:Int) < (↑p0.length:Int))):=zD (wAr)
    refine sR fL1 Z (oR Z (zQ Z fi748 f774) (eN (zF (cF Z c776 (ZM (ze (ze (ZI (zH (sR fL5 Z (oM Z f773 (oM Z f770 (oA Z Z (oA Z Z (oA Z Z (eN (zW ?_)))))))))))))))))
    cases hm488
    exact ⟨rfl,_,(res3 rfl rfl rfl),U765,_,(hS767.pick [3] _ (by decide) rfl),A763,c764,rfl,rfl⟩
 ·intro c21 hm777
  refine cT Z c21 (sR fL4 Z (oM Z Z (oA Z Z (oA Z Z (oA Z Z (eN (zW (zk ?_))))))))
  have hS778:=hS20.nilrow 3 1
  cases hm777
  exact ⟨Z,_,(res3 Z Z Z),U14,_,hS778,none,0,Z,Z⟩
end Go.Proofs.YtglpalgiipahjaaGreat
namespace Go.Proofs.YtglpalgiipahjaaGreat
open Go.KL
set_option maxHeartbeats 4000000
theorem wDE (p0:List wAt) (pA0:Option Addr) (pc0:Nat) (p1:List wAt) (pA1:Option Addr) (pc1:Nat) (w:World) (U:PHeap) (hS:St0 w U []) (ha0:Sl U 3 pA0 pc0 p0.length (nA wAY p0)) (ha1:Sl U 3 pA1 pc1 p1.length (nA wAY p1)) {r:Bool} (hm:wAo p0 p1=some r):Gv Tryz.prog 74 [.slice pA0 p0.length pc0,.slice pA1 p1.length pc1] w (wCO w [] U (fun U_ L_ v=>v=.bool r/\L_=[])):=by
 unfold wAo at hm
 refine Gv.of Tryz.func74 Z Tryz.ntmps74 Tryz.results74 Z (sR fL1 Z (oA Z Z (eN (zF (sR fL5 Z (oM Z Z (oR Z (zo Z Z Zq) (oM Z Z (oR Z (zo Z Z Zq) (oR Z (Zp Z Z Z) (eN ?_)))))))))))
 by_cases c1:(↑p0.length:Int)=(↑p1.length:Int)
 ·have hm2:=hm;rw [if_pos c1] at hm2;replace c1:=zD c1
  refine ZG (ZU (fun h=>h c1.out)) (kN (zF (sR fL3 Z (oM Z Z (oR Z (zo Z Z Zq) (oM Z Z (eN (zS ?_))))))))
  have q:=wDL hm2
  obtain ⟨r5,hX6⟩:=q
  have q:=wDK hX6
  obtain ⟨hle7,hf8⟩:=q
  replace hle7:=zD hle7
  refine CK.forN (fun k4 _ σ_ w_=>∃ (U_:PHeap),σ_ 13=jV (↑k4:Int)/\σ_ 0=.slice pA0 p0.length pc0/\σ_ 1=.slice pA1 p1.length pc1/\σ_ 12=jV (↑p0.length:Int)/\PHeap.Le U U_/\sW w U U_ [] w_) hf8 ?_ ?_ ?_
  ·exact ⟨U,Z,Z,Z,Z,(zG _),hS⟩
  ·rintro k4 ⟨⟩ xx11 σ9 W10 hk14 ⟨U16,fi15,f19,f20,f21,le17,hS18⟩ hx12 hb13
   try dsimp only at hx12
   have c22:Hid ((↑k4:Int) < (↑p0.length:Int)):=zD (wBT hk14)
   replace hk14:=zD hk14
   have hi23:Hid (w64 ((↑k4:Int) + 1)=(↑(k4 + 1):Int)):=zD (by have h1:=hle7.out;have h2:=c22.out;rw [wAU] <;> omega)
   refine sR fL1 rfl (zY rfl rfl rfl rfl (fun _=>zQ rfl fi15 f21) (eN (zF (cT Z c22 (kN (zF (zS (sR fL2 rfl (zR rfl rfl rfl rfl rfl fi15 (Zb rfl rfl rfl rfl rfl rfl (eN (zF (Ze Za [3,3,3,1,3,3,3,1,3] fL9 (by kernel_rfl) ?_)))))))))))))
   have hS24:=hS18.drew
   generalize hw_W25:({ W10 with drawn:=W10.drawn + 1 }:World)=W25 at hS24 ⊢
   refine oM Z f19 (oM Z Z (bnK hx12 fun x26 h27 hm28=>?_))
   have h29:=ha0.le le17
   have q:=h29.el (fun _=>rfl) (wAZ h27)
   obtain ⟨b30,off31,hA32,hC33⟩:=q
   refine oR Z (ZD Z Z hA32 Z Zq Tryz.sizeOf148 (wCD h27)) (oL Z (hS24.ldCA (f:=0) hC33 Z Z Tryz.isAgg148 Tryz.sizeOf148 (us:=[jV x26.Bib,jV x26.Row,jV x26.Lane]) Z Z) (oM Z f20 (oM Z Z (bnK hm28 fun x34 h35 hm36=>?_))))
   have h37:=ha1.le le17
   have q:=h37.el (fun _=>rfl) (wAZ h35)
   obtain ⟨b38,off39,hA40,hC41⟩:=q
   refine oR Z (ZD Z Z hA40 Z Zq Tryz.sizeOf148 (wCD h35)) (oL Z (hS24.ldCA (f:=0) hC41 Z Z Tryz.isAgg148 Tryz.sizeOf148 (us:=[jV x34.Bib,jV x34.Row,jV x34.Lane]) Z Z) (oR Z (zz (Runs.neS (enc:=wAY) (a:=x26) (b:=x34) Z Z Z wTA wSz) (congrArg nD (decide_not).symm)) (eN (ifc hm36 ?_ ?_))))
   ·intro c42 hm43
    refine ZG (ZU (fun h=>h c42.out)) (ZV (zZ (zH (rR fL2 Z (oR Z (zz (zV Z fi15 Z) (congrArg (jV) hi23.out)) (oM Z Z (zx ?_)))))))
    obtain rfl:=nB hm43
    exact zH ⟨Z,_,Z,⟨U16,Z,f19,f20,f21,le17,hS24⟩⟩
   ·intro c42 hm44
    refine cT Z c42 (sR fL1 Z (oA Z Z (eN (zW (ZJ (zk ?_))))))
    have q:=wCP hm44
    obtain ⟨v45,hm46,e47⟩:=q
    obtain rfl:=wEJ hm2 hX6 (hb13 v45 e47)
    refine zk (ZJ (zk ?_))
    have hE:=nB hm46;first | subst r | cases hE
    exact ⟨Z,_,(ZF Z),U16,_,hS24,Z,Z⟩
  ·rintro ⟨⟩ σ48 W49 ⟨U52,fi51,f55,f56,f57,le53,hS54⟩ hb50
   have hm58:=wEI hm2 hX6 hb50
   try dsimp only at hm58
   have c59:Hid (¬ ((↑(((↑p0.length:Int):Int) - 0).toNat:Int) < (↑p0.length:Int))):=zD (wAr)
   refine sR fL1 Z (oR Z (zQ Z fi51 f57) (eN (zF (cF Z c59 (ZM (ze (ze (ZI (zH (sR fL1 Z (oA Z Z (eN (zW ?_)))))))))))))
   have hE:=nB hm58;first | subst r | cases hE
   exact ⟨Z,_,(ZF Z),U52,_,hS54,Z,Z⟩
 ·have hm60:=hm;rw [if_neg c1] at hm60;replace c1:=zD c1
  refine cT Z c1 (sR fL1 Z (oA Z Z (eN (zW (zk ?_)))))
  have hE:=nB hm60;first | subst r | cases hE
  exact ⟨Z,_,(ZF Z),U,_,hS,Z,Z⟩
theorem wEi (p0:wAC) (pb0:Nat) (pA0_0:Option Addr) (pc0_0:Nat) (p1:Int) (w:World) (U:PHeap) (hS:St0 w U [.blk pb0 192 [.slice pA0_0 p0.bytes.length pc0_0,jV p0.next,.int .u32 p0.state]]) (ha0:Sl U 1 pA0_0 pc0_0 p0.bytes.length (nA KL.encB8 p0.bytes)) {r:wAD × wAC} (hm:wBh p0 p1=some r):Gv Tryz.prog 75 [.pointer (some ⟨pb0,0,none⟩),jV p1] w (wCO w [.blk pb0 192 [.slice pA0_0 p0.bytes.length pc0_0,jV p0.next,.int .u32 p0.state]] U (fun U_ L_ v=>∃ (A01:Option Addr) (c01:Nat) (A02:Option Addr) (c02:Nat) (cs02:List Value) (Ao00:Option Addr) (co00:Nat),v=.agg #[jV r.1.Laps,.slice A01 r.1.Bibs.length c01,.slice A02 r.1.Times.length c02]/\L_=[.row A01 c01 3 1 (nA KL.encI r.1.Bibs),.row A02 c02 22 1 cs02,.blk pb0 192 [.slice Ao00 r.2.bytes.length co00,jV r.2.next,.int .u32 r.2.state]]/\RlL U_ wBH r.1.Times cs02/\Sl U_ 1 Ao00 co00 r.2.bytes.length (nA KL.encB8 r.2.bytes))):=by
 unfold wBh at hm
 refine Gv.of Tryz.func75 Z Tryz.ntmps75 Tryz.results75 Z (sR (.fx 0 .nil .stop) Z ?_)
 let B0:List Value:=[jV 0,.slice none 0 0,.slice none 0 0]
 refine zw (cs:=B0) Z Z Z Z Z zd Z hS ?_
 intro W2 b3 hS4
 refine eN (sR (.fl 0 (.fx 1 (.fl 2 (.fx 3 (.fx 4 .nil .stop) .stop)) .stop)) Z (oM Z Z ?_))
 have q:=bnd hm
 obtain ⟨⟨x6,x7⟩,h8,hm9⟩:=q
 try dsimp only at hm9
 let B1:Res:=.blk pb0 192 [.slice pA0_0 p0.bytes.length pc0_0,jV p0.next,.int .u32 p0.state]
 have hS10:SW w [B1] U U [B1,.blk b3 66 B0] W2:=hS4.pick [1,0] _ (by decide) rfl
 refine zL 1 Z Z Z Z (zK Z Z Zr (zC Z (zC Z (zC Z zP))) Z) hS10 (fun hs=>wAR p0 pb0 pA0_0 pc0_0 1 7 W2 U hs ha0 h8) (.inl Z) ?_
 rintro U11 L12 v13 W14 le15 hS16 ⟨A17,c18,rfl,rfl,h19⟩
 let B2:Res:=.blk pb0 192 [.slice A17 x7.bytes.length c18,jV x7.next,.int .u32 x7.state]
 have hS20:SW w [B1] U U11 [B2,.blk b3 66 B0] W14:=hS16
 let B3:List Value:=[jV x6,.slice none 0 0,.slice none 0 0]
 refine oR Z (Zd (pv:=[(0,jV x6)]) (z:=B0) (cs:=B3) Z (wAH Z wAQ) zd wCi Z Z) (zw (cs:=B0) Z Z Z Z Z zd Z hS20 ?_)
 intro W21 b22 hS23
 refine ZR (j:=0) (vs:=B3) Z Z Z Z hS23 Z Z Z Z ZB (zI Z) Z Z Z ?_
 intro W25 hS26
 have hS27:SW w [B1] U U11 [.blk b22 66 B3,B2,.blk b3 66 B0] W25:=hS26
 refine eN (zF (sR gCa Z (oM Z Z (oM Z Z ?_))))
 have q:=bnd hm9
 obtain ⟨⟨x28,x29⟩,h30,hm31⟩:=q
 try dsimp only at hm31
 have hS32:SW w [B1] U U11 [B2,.blk b22 66 B3,.blk b3 66 B0] W25:=hS27.pick [1,0,2] _ (by decide) rfl
 refine zL 1 Z Z Z Z (zK Z Z Zr (zC Z (zC Z (zC Z zP))) Z) hS32 (fun hs=>wAR x7 pb0 A17 c18 1 p1 W25 U11 hs h19 h30) (.inl Z) ?_
 rintro U33 L34 v35 W36 le37 hS38 ⟨A39,c40,rfl,rfl,h41⟩
 have hS42:SW w [B1] U U33 [.blk pb0 192 [.slice A39 x29.bytes.length c40,jV x29.next,.int .u32 x29.state],.blk b22 66 B3,.blk b3 66 B0] W36:=hS38
 refine oM Z Z (eN (zS ?_))
 have q:=bnd hm31
 obtain ⟨⟨y104,y105,y106,y107,y108⟩,hf101,hm100⟩:=q
 try dsimp only at hm100
 have q:=wAx hf101
 obtain ⟨hle102,hf103⟩:=q
 replace hle102:=zD hle102
 refine CK.forN' (fun k99 (l85,x88,x89,l90,l94) σ_ w_=>∃ (U_:PHeap) (A86:Option Addr) (c87:Nat) (A91:Option Addr) (c92:Nat) (A95:Option Addr) (c96:Nat) (cs98:List Value),σ_ 16=jV (↑k99:Int)/\σ_ 0=.pointer (some ⟨pb0,0,none⟩)/\σ_ 4=.pointer (some ⟨b3,0,none⟩)/\σ_ 5=.pointer (some ⟨b22,0,none⟩)/\σ_ 15=jV x28/\PHeap.Le U33 U_/\SW w [B1] U U_ [.blk pb0 192 [.slice A86 l85.length c87,jV x88,.int .u32 x89],.row A91 c92 3 1 (nA KL.encI l90),.row A95 c96 22 1 cs98,.blk b22 66 [jV x6,.slice A91 l90.length c92,.slice A95 l94.length c96],.blk b3 66 B0] w_/\Sl U_ 1 A86 c87 l85.length (nA KL.encB8 l85)/\RlL U_ wBH l94 cs98) hf103 ?_ ?_ ?_
 ·have hS109:=hS42.nilrow 3 1
  have hS111:=hS109.nilrow 22 1
  exact ⟨U33,A39,c40,none,0,none,0,[],rfl,rfl,rfl,rfl,rfl,(zG _),(hS111.pick [2,1,0,3,4] _ (by decide) rfl),h41,RlL.nil⟩
 ·rintro k99 ⟨l85,x88,x89,l90,l94⟩ xx115 σ113 W114 hk118 ⟨U120,A86,c87,A91,c92,A95,c96,cs98,fi119,f123,f124,f125,f126,le121,hS122,h127,h128⟩ hx116
  try dsimp only at hx116
  have c129:Hid ((↑k99:Int) < x28):=zD (wBT hk118)
  replace hk118:=zD hk118
  have hi130:Hid (w64 ((↑k99:Int) + 1)=(↑(k99 + 1):Int)):=zD (by have h1:=hle102.out;have h2:=c129.out;rw [wAU] <;> omega)
  refine sR fL1 Z (oR Z (zQ Z fi119 f126) (eN (zF (cT Z c129 (kN (zF (zS (sR fL2 Z (oM Z fi119 (oA Z Z (eN (sR (.fl 0 (.fx 1 (.fl 2 (.fx 3 gBl .stop)) .stop)) Z (oM Z f123 ?_)))))))))))))
  have q:=bnd hx116
  obtain ⟨⟨x131,x132⟩,h133,hm134⟩:=q
  try dsimp only at hm134
  refine zL 1 Z Z Z Z (zK Z Z Zr (zC Z (zC Z (zC Z zP))) Z) hS122 (fun hs=>wAR (⟨l85,x88,x89⟩:wAC) pb0 A86 c87 20 75 W114 U120 hs h127 h133) (.inl Z) ?_
  rintro U135 L136 v137 W138 le139 hS140 ⟨A141,c142,rfl,rfl,h143⟩
  let B4:Res:=.blk b22 66 [jV x6,.slice A91 l90.length c92,.slice A95 l94.length c96]
  let B5:Res:=.row A91 c92 3 1 (nA KL.encI l90)
  let B6:Res:=.row A95 c96 22 1 cs98
  have hS144:SW w [B1] U U135 [.blk pb0 192 [.slice A141 x132.bytes.length c142,jV x132.next,.int .u32 x132.state],B5,B6,B4,.blk b3 66 B0] W138:=hS140
  refine oM Z f123 ?_
  have q:=bnd hm134
  obtain ⟨⟨x145,x146⟩,h147,hm148⟩:=q
  try dsimp only at hm148
  refine zL 1 Z Z Z Z (zK Z Z Tryz.call34 (zC Z (zC Z zP)) Z) hS144 (fun hs=>wAn x132 pb0 A141 c142 60 W138 U135 hs h143 h147) (.inl Z) ?_
  rintro U149 L150 v151 W152 le153 hS154 ⟨A155,c156,rfl,rfl,h157⟩
  have hS158:SW w [B1] U U149 [.blk pb0 192 [.slice A155 x146.bytes.length c156,jV x146.next,.int .u32 x146.state],B5,B6,B4,.blk b3 66 B0] W152:=hS154
  refine Zb rfl rfl rfl rfl rfl rfl (Zb rfl rfl rfl rfl rfl rfl (eN (sR fL1 rfl (Zb rfl rfl rfl rfl rfl rfl (eN (zF (zF (Ze Za [3,1004,3,3,1,3,1005,3,1005,3,3,3,pb0] (wOn (.fl 7 (.fl 11 (.fx 6 (.fx 8 gBn .stop) .stop)))) (by kernel_rfl) ?_))))))))
  have hS188:=hS158.drew
  generalize hw_W189:({ W152 with drawn:=W152.drawn + 1 }:World)=W189 at hS188 ⊢
  refine zY rfl rfl rfl rfl (fun _=>zX rfl f125 zM rfl zB) (OKS.mt (T:=[pb0]) [0] [1,2,3,4] [B5,B6,B4,.blk b3 66 B0] rfl rfl rfl rfl hS188 rfl ⟨⟨0,by decide,_,rfl,rfl⟩,trivial⟩ (by decide) rfl (by decide) (fun _ hZ190=>(hZ190.ldB (j:=2) rfl rfl rfl zJ (v:=jV x6) rfl)) rfl (zR rfl rfl rfl rfl rfl f123 (zY rfl rfl rfl rfl (fun _=>zX rfl f125 zM rfl zB) (ZC rfl rfl rfl rfl (hS188.ldB (j:=3) rfl rfl rfl zJ (v:=jV x6) rfl) rfl (zY rfl rfl rfl rfl (fun _=>zV rfl rfl rfl) (zR rfl rfl rfl rfl rfl f123 (zR rfl rfl rfl rfl rfl rfl ?_)))))))
  have q:=bnd hm148
  obtain ⟨⟨x191,x192⟩,h193,hm194⟩:=q
  try dsimp only at hm194
  refine yA 1 rfl rfl rfl rfl (zK rfl rfl Tryz.call34 (zC rfl (zC rfl zP)) rfl) hS188 (fun hs=>wAn x146 pb0 A155 c156 (w64 (x6 + 1)) W189 U149 hs h157 h193) rfl (T:=[pb0]) rfl ⟨fun b h=>(by cases h;exact .head _),trivial⟩ ?_
  rintro U195 L196 v197 W198 le199 hS200 ⟨A201,c202,rfl,rfl,h203⟩
  have hS204:SW w [B1] U U195 [.blk pb0 192 [.slice A201 x192.bytes.length c202,jV x192.next,.int .u32 x192.state],B5,B6,B4,.blk b3 66 B0] W198:=hS200
  have q:=bnd hm194
  obtain ⟨⟨x205,x206⟩,h207,hm208⟩:=q
  try dsimp only at hm208
  refine yA 1 rfl rfl rfl rfl (zK rfl rfl Tryz.call34 (zC rfl (zC rfl zP)) rfl) hS204 (fun hs=>wAn x192 pb0 A201 c202 2 W198 U195 hs h203 h207) rfl (T:=[pb0]) rfl ⟨fun b h=>(by cases h;exact .head _),trivial⟩ ?_
  rintro U209 L210 v211 W212 le213 hS214 ⟨A215,c216,rfl,rfl,h217⟩
  have hS218:SW w [B1] U U209 [.blk pb0 192 [.slice A215 x206.bytes.length c216,jV x206.next,.int .u32 x206.state],B5,B6,B4,.blk b3 66 B0] W212:=hS214
  refine oR Z (Runs.mulw Z Z Z) (oR Z (Zn Z Z Z) (eN (zS ?_)))
  have q:=bnd hm208
  obtain ⟨⟨y265,y266,y267,y268,y269⟩,hf262,hm261⟩:=q
  try dsimp only at hm261
  have q:=wAx hf262
  obtain ⟨hle263,hf264⟩:=q
  replace hle263:=zD hle263
  refine CK.forN' (fun k260 (l250,x253,x254,x255,l256) σ_ w_=>∃ (U_:PHeap) (A251:Option Addr) (c252:Nat) (A257:Option Addr) (c258:Nat),σ_ 34=jV (↑k260:Int)/\σ_ 0=.pointer (some ⟨pb0,0,none⟩)/\σ_ 4=.pointer (some ⟨b3,0,none⟩)/\σ_ 5=.pointer (some ⟨b22,0,none⟩)/\σ_ 6=jV (↑k99:Int)/\σ_ 7=jV x131/\σ_ 8=jV x255/\σ_ 9=.slice A257 l256.length c258/\σ_ 15=jV x28/\σ_ 16=jV (↑k99:Int)/\σ_ 33=jV (w64 (x6 - (w64 (x191 * x205))))/\PHeap.Le U209 U_/\SW w [B1] U U_ [.blk pb0 192 [.slice A251 l250.length c252,jV x253,.int .u32 x254],B5,B6,B4,.blk b3 66 B0,.row A257 c258 3 1 (nA KL.encI l256)] w_/\Sl U_ 1 A251 c252 l250.length (nA KL.encB8 l250)) hf264 ?_ ?_ ?_
  ·have hS270:=hS218.nilrow 3 1
   exact ⟨U209,A215,c216,none,0,rfl,f123,f124,f125,rfl,rfl,rfl,rfl,f126,fi119,rfl,(zG _),(hS270.pick [1,2,3,4,5,0] _ (by decide) rfl),h217⟩
  ·rintro k260 ⟨l250,x253,x254,x255,l256⟩ xx274 σ272 W273 hk277 ⟨U279,A251,c252,A257,c258,fi278,f282,f283,f284,f285,f286,f287,f288,f289,f290,f291,le280,hS281,h292⟩ hx275
   try dsimp only at hx275
   have c293:Hid ((↑k260:Int) < (w64 (x6 - (w64 (x191 * x205))))):=zD (wBT hk277)
   replace hk277:=zD hk277
   have hi294:Hid (w64 ((↑k260:Int) + 1)=(↑(k260 + 1):Int)):=zD (by have h1:=hle263.out;have h2:=c293.out;rw [wAU] <;> omega)
   refine sR fL1 Z (oR Z (zQ Z fi278 f291) (eN (zF (cT Z c293 (kN (zF (zS (sR (wMI (.fx 3 (fC4_6 (.nil)) .stop)) Z (oM Z f287 (oM Z f286 (oM Z f282 ?_)))))))))))
   have q:=bnd hx275
   obtain ⟨⟨x295,x296⟩,h297,hm298⟩:=q
   try dsimp only at hm298
   refine zL 1 Z Z Z Z (zK Z Z Tryz.call34 (zC Z (zC Z zP)) Z) hS281 (fun hs=>wAn (⟨l250,x253,x254⟩:wAC) pb0 A251 c252 9 W273 U279 hs h292 h297) (.inl Z) ?_
   rintro U299 L300 v301 W302 le303 hS304 ⟨A305,c306,rfl,rfl,h307⟩
   let B7:Res:=.blk pb0 192 [.slice A305 x296.bytes.length c306,jV x296.next,.int .u32 x296.state]
   let B8:Res:=.row A257 c258 3 1 (nA KL.encI l256)
   have hS308:SW w [B1] U U299 [B7,B5,B6,B4,.blk b3 66 B0,B8] W302:=hS304
   refine oR Z (zV Z Z Z) (oR Z (zV Z Z Z) (oA Z Z (eN (rR gCe Z (oM Z f288 (oM Z Z (zU (pv:=[(0,jV (w64 (x255 + (w64 (x131 + x295)))))]) (zs:=[jV 0]) (cs:=[jV (w64 (x255 + (w64 (x131 + x295))))]) Z Z Z Z Z (wAH Z wAQ) zA zB zt Z Z Z Z Z hS308 ?_)))))))
   intro W309 b310 hS311
   let B9:Res:=.row (some ⟨b310,0,none⟩) 1 3 1 (nA KL.encI [w64 (x255 + (w64 (x131 + x295)))])
   have hS313:SW w [B1] U U299 [B9,B7,B5,B6,B4,.blk b3 66 B0,B8] W309:=hS311
   refine bnK hm298 fun x314 h315 hm316=>ZO (j:=6) (enc:=KL.encI) (xs:=l256) (ys:=[w64 (x255 + (w64 (x131 + x295)))]) (zs:=x314) rfl rfl rfl rfl rfl zu wCc rfl rfl rfl rfl rfl rfl hS313 rfl rfl rfl (hS313.srcR (j:=0) rfl (by decide) (wAB (f:=KL.encI) (sz:=1) (fun _=>rfl) [w64 (x255 + (w64 (x131 + x295)))])) (fun _=>rfl) (fun _=>rfl) h315 rfl ?_
   intro A317 c318 W319 hS320
   have hS321:SW w [B1] U U299 [B9,B7,B5,B6,B4,.blk b3 66 B0,.row A317 c318 3 1 (nA KL.encI x314)] W319:=hS320
   refine oA Z Z (zx (zZ (zH (rR fL2 Z (oR Z (zz (zV Z fi278 Z) (congrArg (jV) hi294.out)) (oM Z Z (zx ?_)))))))
   cases hm316
   exact zH ⟨rfl,⟨U299,A305,c306,A317,c318,rfl,f282,f283,f284,f285,f286,rfl,rfl,f289,f290,f291,(le280.trans le303),(hS321.pick [1,2,3,4,5,6] _ (by decide) rfl),h307⟩⟩
  ·rintro σ331 W332 ⟨U348,A344,c345,A346,c347,fi334,f351,f352,f353,f354,f355,f356,f357,f358,f359,f360,le349,hS350,h361⟩
   have c362:Hid (¬ ((↑((w64 (x6 - (w64 (x191 * x205))):Int) - 0).toNat:Int) < (w64 (x6 - (w64 (x191 * x205)))))):=zD (wAr)
   refine sR fL1 Z (oR Z (zQ Z fi334 f360) (eN (zF (cF Z c362 (ZM (ze (ze (ZI (zH ?_)))))))))
   have q:=bnd hm261
   obtain ⟨⟨x426,x427⟩,h428,hm487⟩:=q
   try dsimp only at hm487
   refine bnK hm487 fun x445 h446 hm488=>bnK hm488 fun x464 h465 hm489=>Ze Za [3,1004,3,3,3,1005,3,2,0,3,2,3,2,0,3,0,3,0,pb0] (wJa (.fl 9 (.fl 11 (.fx 5 (.fl 6 (.fx 7 (.fx 8 (.fx 10 gCg (.fx 12 gCh .stop)) (.fx 10 gCk (.fx 12 gCl .stop))) (.fx 10 gCm (.fx 12 gCn .stop)))) (.fx 10 (.fx 5 (.fl 6 gCm) (.fx 12 gCo .stop)) (.fx 12 (.fx 5 (.fl 6 gCn) (.fx 10 gCo .stop)) .stop)))))) (by kernel_rfl) ?_
   have hS490:=hS350.drew
   generalize hw_W491:({ W332 with drawn:=W332.drawn + 1 }:World)=W491 at hS490 ⊢
   refine zr (s:=.nil) (M:=fun σ_ w_=>∃ (U_:PHeap) (A830:Option Addr) (c831:Nat) (A832:Option Addr) (c833:Nat) (A834:Option Addr) (c835:Nat) (cs836:List Value) (A838:Option Addr) (c839:Nat) (A840:Option Addr) (c841:Nat) (A843:Option Addr) (c844:Nat) (A845:Option Addr) (c846:Nat) (cs847:List Value),σ_ 0=.pointer (some ⟨pb0,0,none⟩)/\σ_ 4=.pointer (some ⟨b3,0,none⟩)/\σ_ 5=.pointer (some ⟨b22,0,none⟩)/\σ_ 6=jV (↑k99:Int)/\σ_ 9=.slice A838 y269.length c839/\σ_ 15=jV x28/\σ_ 16=jV (↑k99:Int)/\σ_ 47=.pointer (some ⟨b22,1,none⟩)/\σ_ 49=jV (↑k99:Int)/\σ_ 50=jV (w64 (7 * (↑k99:Int)))/\σ_ 51=.pointer (some ⟨pb0,0,none⟩)/\σ_ 52=jV x426/\σ_ 53=jV (w64 ((w64 (7 * (↑k99:Int))) + x426))/\σ_ 54=.slice A840 ([w64 ((w64 (7 * (↑k99:Int))) + x426)].length) c841/\σ_ 55=.slice A832 x445.length c833/\σ_ 56=.pointer (some ⟨b22,2,none⟩)/\σ_ 58=.slice A843 y269.length c844/\σ_ 59=.slice A845 ([y269].length) c846/\σ_ 60=.slice A834 x464.length c835/\σ_ 61=.pointer (some ⟨b22,1,none⟩)/\σ_ 62=.pointer (some ⟨b22,2,none⟩)/\PHeap.Le U348 U_/\SW w [B1] U U_ [.blk pb0 192 [.slice A830 x427.bytes.length c831,jV x427.next,.int .u32 x427.state],.row A832 c833 3 1 (nA KL.encI x445),.row A834 c835 22 1 cs836,.blk b22 66 [jV x6,.slice A832 x445.length c833,.slice A834 x464.length c835],.blk b3 66 B0,.row A840 c841 3 1 (nA KL.encI [w64 ((w64 (7 * (↑k99:Int))) + x426)]),.row A845 c846 22 1 cs847] w_/\Sl U_ 1 A830 c831 x427.bytes.length (nA KL.encB8 x427.bytes)/\RlL U_ wBH x464 cs836/\Sl U_ 1 A838 c839 y269.length (nA KL.encI y269)/\Sl U_ 1 A843 c844 y269.length (nA KL.encI y269)/\RlL U_ wBH [y269] cs847) ?_ fun ko848=>?_
   ·rintro σ849 W850 ⟨U851,A830,c831,A832,c833,A834,c835,cs836,A838,c839,A840,c841,A843,c844,A845,c846,cs847,f854,f855,f856,f857,f858,f859,f860,f861,f862,f863,f864,f865,f866,f867,f868,f869,f870,f871,f872,f873,f874,le852,hS853,h875,h876,h877,h878,h879⟩
    refine zx (zZ (zH (rR fL2 Z (oR Z (zz (zV Z f860 Z) (congrArg (jV) hi130.out)) (oM Z Z (zx ?_))))))
    cases hm489
    exact zH ⟨rfl,⟨U851,A830,c831,A832,c833,A834,c835,cs836,rfl,f854,f855,f856,f859,((((((le121.trans le139).trans le153).trans le199).trans le213).trans le349).trans le852),(hS853.pick [0,1,2,3,4] _ (by decide) rfl),h875,h876⟩⟩
   refine zr (s:=gBv) (M:=fun σ_ w_=>∃ (U_:PHeap) (A893:Option Addr) (c894:Nat) (A895:Option Addr) (c896:Nat) (A898:Option Addr) (c899:Nat) (A900:Option Addr) (c901:Nat) (A903:Option Addr) (c904:Nat) (A905:Option Addr) (c906:Nat) (cs907:List Value) (A908:Option Addr) (c909:Nat) (cs910:List Value),σ_ 0=.pointer (some ⟨pb0,0,none⟩)/\σ_ 4=.pointer (some ⟨b3,0,none⟩)/\σ_ 5=.pointer (some ⟨b22,0,none⟩)/\σ_ 6=jV (↑k99:Int)/\σ_ 9=.slice A898 y269.length c899/\σ_ 15=jV x28/\σ_ 16=jV (↑k99:Int)/\σ_ 47=.pointer (some ⟨b22,1,none⟩)/\σ_ 49=jV (↑k99:Int)/\σ_ 50=jV (w64 (7 * (↑k99:Int)))/\σ_ 51=.pointer (some ⟨pb0,0,none⟩)/\σ_ 52=jV x426/\σ_ 53=jV (w64 ((w64 (7 * (↑k99:Int))) + x426))/\σ_ 54=.slice A900 ([w64 ((w64 (7 * (↑k99:Int))) + x426)].length) c901/\σ_ 55=.slice A895 x445.length c896/\σ_ 56=.pointer (some ⟨b22,2,none⟩)/\σ_ 58=.slice A903 y269.length c904/\σ_ 59=.slice A905 ([y269].length) c906/\σ_ 60=.slice A908 x464.length c909/\σ_ 61=.pointer (some ⟨b22,1,none⟩)/\PHeap.Le U348 U_/\SW w [B1] U U_ [.blk pb0 192 [.slice A893 x427.bytes.length c894,jV x427.next,.int .u32 x427.state],.row A895 c896 3 1 (nA KL.encI x445),.blk b22 66 [jV x6,.slice A895 x445.length c896,.slice A95 l94.length c96],.blk b3 66 B0,.row A900 c901 3 1 (nA KL.encI [w64 ((w64 (7 * (↑k99:Int))) + x426)]),.row A905 c906 22 1 cs907,.row A908 c909 22 1 cs910] w_/\Sl U_ 1 A893 c894 x427.bytes.length (nA KL.encB8 x427.bytes)/\Sl U_ 1 A898 c899 y269.length (nA KL.encI y269)/\Sl U_ 1 A903 c904 y269.length (nA KL.encI y269)/\RlL U_ wBH [y269] cs907/\RlL U_ wBH x464 cs910) ?_ fun ko911=>?_
   ·rintro σ912 W913 ⟨U914,A893,c894,A895,c896,A898,c899,A900,c901,A903,c904,A905,c906,cs907,A908,c909,cs910,f917,f918,f919,f920,f921,f922,f923,f924,f925,f926,f927,f928,f929,f930,f931,f932,f933,f934,f935,f936,le915,hS916,h937,h938,h939,h940,h941⟩
    refine oR Z (zX Z f919 zM Z ZX) (ZR (j:=2) (vs:=[.slice A908 x464.length c909]) Z Z Z Z hS916 Z Z f935 Z ZX (zI Z) Z Z Z ?_)
    intro W942 hS943
    have hS944:SW w [B1] U U914 [.blk pb0 192 [.slice A893 x427.bytes.length c894,jV x427.next,.int .u32 x427.state],.row A895 c896 3 1 (nA KL.encI x445),.blk b22 66 [jV x6,.slice A895 x445.length c896,.slice A908 x464.length c909],.blk b3 66 B0,.row A900 c901 3 1 (nA KL.encI [w64 ((w64 (7 * (↑k99:Int))) + x426)]),.row A905 c906 22 1 cs907,.row A908 c909 22 1 cs910] W942:=hS943
    exact ko848 _ _ ⟨U914,A893,c894,A895,c896,A908,c909,cs910,A898,c899,A900,c901,A903,c904,A905,c906,cs907,f917,f918,f919,f920,f921,f922,f923,f924,f925,f926,f927,f928,f929,f930,f931,f932,f933,f934,f935,f936,rfl,le915,(hS944.pick [0,1,6,2,3,4,5] _ (by decide) rfl),h937,h941,h938,h939,h940⟩
   refine zr (s:=gBz) (M:=fun σ_ w_=>∃ (U_:PHeap) (A965:Option Addr) (c966:Nat) (A968:Option Addr) (c969:Nat) (A970:Option Addr) (c971:Nat) (A972:Option Addr) (c973:Nat) (A975:Option Addr) (c976:Nat) (A977:Option Addr) (c978:Nat) (cs979:List Value) (A980:Option Addr) (c981:Nat) (cs982:List Value),σ_ 0=.pointer (some ⟨pb0,0,none⟩)/\σ_ 4=.pointer (some ⟨b3,0,none⟩)/\σ_ 5=.pointer (some ⟨b22,0,none⟩)/\σ_ 6=jV (↑k99:Int)/\σ_ 9=.slice A968 y269.length c969/\σ_ 15=jV x28/\σ_ 16=jV (↑k99:Int)/\σ_ 47=.pointer (some ⟨b22,1,none⟩)/\σ_ 49=jV (↑k99:Int)/\σ_ 50=jV (w64 (7 * (↑k99:Int)))/\σ_ 51=.pointer (some ⟨pb0,0,none⟩)/\σ_ 52=jV x426/\σ_ 53=jV (w64 ((w64 (7 * (↑k99:Int))) + x426))/\σ_ 54=.slice A970 ([w64 ((w64 (7 * (↑k99:Int))) + x426)].length) c971/\σ_ 55=.slice A972 x445.length c973/\σ_ 56=.pointer (some ⟨b22,2,none⟩)/\σ_ 58=.slice A975 y269.length c976/\σ_ 59=.slice A977 ([y269].length) c978/\σ_ 60=.slice A980 x464.length c981/\σ_ 61=.pointer (some ⟨b22,1,none⟩)/\PHeap.Le U348 U_/\SW w [B1] U U_ [.blk pb0 192 [.slice A965 x427.bytes.length c966,jV x427.next,.int .u32 x427.state],B4,.blk b3 66 B0,.row A970 c971 3 1 (nA KL.encI [w64 ((w64 (7 * (↑k99:Int))) + x426)]),.row A972 c973 3 1 (nA KL.encI x445),.row A977 c978 22 1 cs979,.row A980 c981 22 1 cs982] w_/\Sl U_ 1 A965 c966 x427.bytes.length (nA KL.encB8 x427.bytes)/\Sl U_ 1 A968 c969 y269.length (nA KL.encI y269)/\Sl U_ 1 A975 c976 y269.length (nA KL.encI y269)/\RlL U_ wBH [y269] cs979/\RlL U_ wBH x464 cs982) ?_ fun ko983=>?_
   ·rintro σ984 W985 ⟨U986,A965,c966,A968,c969,A970,c971,A972,c973,A975,c976,A977,c978,cs979,A980,c981,cs982,f989,f990,f991,f992,f993,f994,f995,f996,f997,f998,f999,f1000,f1001,f1002,f1003,f1004,f1005,f1006,f1007,f1008,le987,hS988,h1009,h1010,h1011,h1012,h1013⟩
    refine ZR (j:=1) (vs:=[.slice A972 x445.length c973]) Z Z Z Z hS988 Z f1008 f1003 Z zN (zI Z) Z Z Z ?_
    intro W1014 hS1015
    have hS1016:SW w [B1] U U986 [.blk pb0 192 [.slice A965 x427.bytes.length c966,jV x427.next,.int .u32 x427.state],.blk b22 66 [jV x6,.slice A972 x445.length c973,.slice A95 l94.length c96],.blk b3 66 B0,.row A970 c971 3 1 (nA KL.encI [w64 ((w64 (7 * (↑k99:Int))) + x426)]),.row A972 c973 3 1 (nA KL.encI x445),.row A977 c978 22 1 cs979,.row A980 c981 22 1 cs982] W1014:=hS1015
    exact ko911 _ _ ⟨U986,A965,c966,A972,c973,A968,c969,A970,c971,A975,c976,A977,c978,cs979,A980,c981,cs982,f989,f990,f991,f992,f993,f994,f995,f996,f997,f998,f999,f1000,f1001,f1002,f1003,f1004,f1005,f1006,f1007,f1008,le987,(hS1016.pick [0,4,1,2,3,5,6] _ (by decide) rfl),h1009,h1010,h1011,h1012,h1013⟩
   refine zr (s:=gCd) (M:=fun σ_ w_=>∃ (U_:PHeap) (A1037:Option Addr) (c1038:Nat) (A1040:Option Addr) (c1041:Nat) (A1042:Option Addr) (c1043:Nat) (A1044:Option Addr) (c1045:Nat) (A1047:Option Addr) (c1048:Nat) (A1049:Option Addr) (c1050:Nat) (cs1051:List Value),σ_ 0=.pointer (some ⟨pb0,0,none⟩)/\σ_ 4=.pointer (some ⟨b3,0,none⟩)/\σ_ 5=.pointer (some ⟨b22,0,none⟩)/\σ_ 6=jV (↑k99:Int)/\σ_ 9=.slice A1040 y269.length c1041/\σ_ 15=jV x28/\σ_ 16=jV (↑k99:Int)/\σ_ 47=.pointer (some ⟨b22,1,none⟩)/\σ_ 49=jV (↑k99:Int)/\σ_ 50=jV (w64 (7 * (↑k99:Int)))/\σ_ 51=.pointer (some ⟨pb0,0,none⟩)/\σ_ 52=jV x426/\σ_ 53=jV (w64 ((w64 (7 * (↑k99:Int))) + x426))/\σ_ 54=.slice A1042 ([w64 ((w64 (7 * (↑k99:Int))) + x426)].length) c1043/\σ_ 55=.slice A1044 x445.length c1045/\σ_ 56=.pointer (some ⟨b22,2,none⟩)/\σ_ 57=.slice A95 l94.length c96/\σ_ 58=.slice A1047 y269.length c1048/\σ_ 59=.slice A1049 ([y269].length) c1050/\σ_ 61=.pointer (some ⟨b22,1,none⟩)/\PHeap.Le U348 U_/\SW w [B1] U U_ [.blk pb0 192 [.slice A1037 x427.bytes.length c1038,jV x427.next,.int .u32 x427.state],B6,B4,.blk b3 66 B0,.row A1042 c1043 3 1 (nA KL.encI [w64 ((w64 (7 * (↑k99:Int))) + x426)]),.row A1044 c1045 3 1 (nA KL.encI x445),.row A1049 c1050 22 1 cs1051] w_/\Sl U_ 1 A1037 c1038 x427.bytes.length (nA KL.encB8 x427.bytes)/\Sl U_ 1 A1040 c1041 y269.length (nA KL.encI y269)/\Sl U_ 1 A1047 c1048 y269.length (nA KL.encI y269)/\RlL U_ wBH [y269] cs1051) ?_ fun ko1052=>?_
   ·rintro σ1053 W1054 ⟨U1055,A1037,c1038,A1040,c1041,A1042,c1043,A1044,c1045,A1047,c1048,A1049,c1050,cs1051,f1058,f1059,f1060,f1061,f1062,f1063,f1064,f1065,f1066,f1067,f1068,f1069,f1070,f1071,f1072,f1073,f1074,f1075,f1076,f1077,le1056,hS1057,h1078,h1079,h1080,h1081⟩
    have h1088:=h128.le le139
    have h1089:=h1088.le le153
    have h1090:=h1089.le le199
    have h1091:=h1090.le le213
    have h1092:=h1091.le le349
    have h1093:=h1092.le le1056
    refine OKS.appendR (R:=wBH) (j:=1) (xs:=l94) (ys:=[y269]) (zs:=x464) rfl rfl rfl rfl rfl Tryz.underlying46 wJJ rfl rfl rfl rfl rfl rfl rfl hS1057 rfl f1074 f1076 h1093 h1081 (hS1057.srcR (j:=6) rfl (by decide) (RlL.len h1081)) h465 rfl ?_
    intro A1082 c1083 cs1084 W1085 hS1086 hr1087
    have hS1094:SW w [B1] U U1055 [.blk pb0 192 [.slice A1037 x427.bytes.length c1038,jV x427.next,.int .u32 x427.state],.row A1082 c1083 22 1 cs1084,B4,.blk b3 66 B0,.row A1042 c1043 3 1 (nA KL.encI [w64 ((w64 (7 * (↑k99:Int))) + x426)]),.row A1044 c1045 3 1 (nA KL.encI x445),.row A1049 c1050 22 1 cs1051] W1085:=hS1086
    exact ko983 _ _ ⟨U1055,A1037,c1038,A1040,c1041,A1042,c1043,A1044,c1045,A1047,c1048,A1049,c1050,cs1051,A1082,c1083,cs1084,f1058,f1059,f1060,f1061,f1062,f1063,f1064,f1065,f1066,f1067,f1068,f1069,f1070,f1071,f1072,f1073,f1075,f1076,rfl,f1077,le1056,(hS1094.pick [0,2,3,4,5,6,1] _ (by decide) rfl),h1078,h1079,h1080,h1081,hr1087⟩
   refine zr (s:=.fl 14 gCd) (M:=fun σ_ w_=>∃ (U_:PHeap) (A1115:Option Addr) (c1116:Nat) (A1118:Option Addr) (c1119:Nat) (A1120:Option Addr) (c1121:Nat) (A1122:Option Addr) (c1123:Nat) (A1125:Option Addr) (c1126:Nat) (A1127:Option Addr) (c1128:Nat) (cs1129:List Value),σ_ 0=.pointer (some ⟨pb0,0,none⟩)/\σ_ 4=.pointer (some ⟨b3,0,none⟩)/\σ_ 5=.pointer (some ⟨b22,0,none⟩)/\σ_ 6=jV (↑k99:Int)/\σ_ 9=.slice A1118 y269.length c1119/\σ_ 15=jV x28/\σ_ 16=jV (↑k99:Int)/\σ_ 47=.pointer (some ⟨b22,1,none⟩)/\σ_ 49=jV (↑k99:Int)/\σ_ 50=jV (w64 (7 * (↑k99:Int)))/\σ_ 51=.pointer (some ⟨pb0,0,none⟩)/\σ_ 52=jV x426/\σ_ 53=jV (w64 ((w64 (7 * (↑k99:Int))) + x426))/\σ_ 54=.slice A1120 ([w64 ((w64 (7 * (↑k99:Int))) + x426)].length) c1121/\σ_ 55=.slice A1122 x445.length c1123/\σ_ 56=.pointer (some ⟨b22,2,none⟩)/\σ_ 57=.slice A95 l94.length c96/\σ_ 58=.slice A1125 y269.length c1126/\σ_ 59=.slice A1127 ([y269].length) c1128/\PHeap.Le U348 U_/\SW w [B1] U U_ [.blk pb0 192 [.slice A1115 x427.bytes.length c1116,jV x427.next,.int .u32 x427.state],B6,B4,.blk b3 66 B0,.row A1120 c1121 3 1 (nA KL.encI [w64 ((w64 (7 * (↑k99:Int))) + x426)]),.row A1122 c1123 3 1 (nA KL.encI x445),.row A1127 c1128 22 1 cs1129] w_/\Sl U_ 1 A1115 c1116 x427.bytes.length (nA KL.encB8 x427.bytes)/\Sl U_ 1 A1118 c1119 y269.length (nA KL.encI y269)/\Sl U_ 1 A1125 c1126 y269.length (nA KL.encI y269)/\RlL U_ wBH [y269] cs1129) ?_ fun ko1130=>?_
   ·rintro σ1131 W1132 ⟨U1133,A1115,c1116,A1118,c1119,A1120,c1121,A1122,c1123,A1125,c1126,A1127,c1128,cs1129,f1136,f1137,f1138,f1139,f1140,f1141,f1142,f1143,f1144,f1145,f1146,f1147,f1148,f1149,f1150,f1151,f1152,f1153,f1154,le1134,hS1135,h1155,h1156,h1157,h1158⟩
    refine oR Z (zX Z f1138 zM Z zN) ?_
    have h1165:=h128.le le139
    have h1166:=h1165.le le153
    have h1167:=h1166.le le199
    have h1168:=h1167.le le213
    have h1169:=h1168.le le349
    have h1170:=h1169.le le1134
    refine OKS.appendR (R:=wBH) (j:=1) (xs:=l94) (ys:=[y269]) (zs:=x464) rfl rfl rfl rfl rfl Tryz.underlying46 wJJ rfl rfl rfl rfl rfl rfl rfl hS1135 rfl f1152 f1154 h1170 h1158 (hS1135.srcR (j:=6) rfl (by decide) (RlL.len h1158)) h465 rfl ?_
    intro A1159 c1160 cs1161 W1162 hS1163 hr1164
    have hS1171:SW w [B1] U U1133 [.blk pb0 192 [.slice A1115 x427.bytes.length c1116,jV x427.next,.int .u32 x427.state],.row A1159 c1160 22 1 cs1161,B4,.blk b3 66 B0,.row A1120 c1121 3 1 (nA KL.encI [w64 ((w64 (7 * (↑k99:Int))) + x426)]),.row A1122 c1123 3 1 (nA KL.encI x445),.row A1127 c1128 22 1 cs1129] W1162:=hS1163
    exact ko983 _ _ ⟨U1133,A1115,c1116,A1118,c1119,A1120,c1121,A1122,c1123,A1125,c1126,A1127,c1128,cs1129,A1159,c1160,cs1161,f1136,f1137,f1138,f1139,f1140,f1141,f1142,f1143,f1144,f1145,f1146,f1147,f1148,f1149,f1150,f1151,f1153,f1154,rfl,rfl,le1134,(hS1171.pick [0,2,3,4,5,6,1] _ (by decide) rfl),h1155,h1156,h1157,h1158,hr1164⟩
   refine zr (s:=gCi) (M:=fun σ_ w_=>∃ (U_:PHeap) (A1192:Option Addr) (c1193:Nat) (A1195:Option Addr) (c1196:Nat) (A1197:Option Addr) (c1198:Nat) (A1200:Option Addr) (c1201:Nat) (A1202:Option Addr) (c1203:Nat) (cs1204:List Value),σ_ 0=.pointer (some ⟨pb0,0,none⟩)/\σ_ 4=.pointer (some ⟨b3,0,none⟩)/\σ_ 5=.pointer (some ⟨b22,0,none⟩)/\σ_ 6=jV (↑k99:Int)/\σ_ 9=.slice A1195 y269.length c1196/\σ_ 15=jV x28/\σ_ 16=jV (↑k99:Int)/\σ_ 47=.pointer (some ⟨b22,1,none⟩)/\σ_ 48=.slice A91 l90.length c92/\σ_ 49=jV (↑k99:Int)/\σ_ 50=jV (w64 (7 * (↑k99:Int)))/\σ_ 51=.pointer (some ⟨pb0,0,none⟩)/\σ_ 52=jV x426/\σ_ 53=jV (w64 ((w64 (7 * (↑k99:Int))) + x426))/\σ_ 54=.slice A1197 ([w64 ((w64 (7 * (↑k99:Int))) + x426)].length) c1198/\σ_ 56=.pointer (some ⟨b22,2,none⟩)/\σ_ 57=.slice A95 l94.length c96/\σ_ 58=.slice A1200 y269.length c1201/\σ_ 59=.slice A1202 ([y269].length) c1203/\PHeap.Le U348 U_/\SW w [B1] U U_ [.blk pb0 192 [.slice A1192 x427.bytes.length c1193,jV x427.next,.int .u32 x427.state],.row A91 c92 3 1 (nA KL.encI l90),B6,B4,.blk b3 66 B0,.row A1197 c1198 3 1 (nA KL.encI [w64 ((w64 (7 * (↑k99:Int))) + x426)]),.row A1202 c1203 22 1 cs1204] w_/\Sl U_ 1 A1192 c1193 x427.bytes.length (nA KL.encB8 x427.bytes)/\Sl U_ 1 A1195 c1196 y269.length (nA KL.encI y269)/\Sl U_ 1 A1200 c1201 y269.length (nA KL.encI y269)/\RlL U_ wBH [y269] cs1204) ?_ fun ko1205=>?_
   ·rintro σ1206 W1207 ⟨U1208,A1192,c1193,A1195,c1196,A1197,c1198,A1200,c1201,A1202,c1203,cs1204,f1211,f1212,f1213,f1214,f1215,f1216,f1217,f1218,f1219,f1220,f1221,f1222,f1223,f1224,f1225,f1226,f1227,f1228,f1229,le1209,hS1210,h1230,h1231,h1232,h1233⟩
    refine ZO (j:=1) (enc:=KL.encI) (xs:=l90) (ys:=[w64 ((w64 (7 * (↑k99:Int))) + x426)]) (zs:=x445) rfl rfl rfl rfl rfl zu wCc rfl rfl rfl rfl rfl rfl hS1210 rfl f1219 f1225 (hS1210.srcR (j:=5) rfl (by decide) (wAB (f:=KL.encI) (sz:=1) (fun _=>rfl) [w64 ((w64 (7 * (↑k99:Int))) + x426)])) (fun _=>rfl) (fun _=>rfl) h446 rfl ?_
    intro A1234 c1235 W1236 hS1237
    have hS1238:SW w [B1] U U1208 [.blk pb0 192 [.slice A1192 x427.bytes.length c1193,jV x427.next,.int .u32 x427.state],.row A1234 c1235 3 1 (nA KL.encI x445),B6,B4,.blk b3 66 B0,.row A1197 c1198 3 1 (nA KL.encI [w64 ((w64 (7 * (↑k99:Int))) + x426)]),.row A1202 c1203 22 1 cs1204] W1236:=hS1237
    exact ko1130 _ _ ⟨U1208,A1192,c1193,A1195,c1196,A1197,c1198,A1234,c1235,A1200,c1201,A1202,c1203,cs1204,f1211,f1212,f1213,f1214,f1215,f1216,f1217,f1218,f1220,f1221,f1222,f1223,f1224,f1225,rfl,f1226,f1227,f1228,f1229,le1209,(hS1238.pick [0,2,3,4,5,1,6] _ (by decide) rfl),h1230,h1231,h1232,h1233⟩
   refine zr (s:=gCh) (M:=fun σ_ w_=>∃ (U_:PHeap) (A1256:Option Addr) (c1257:Nat) (A1259:Option Addr) (c1260:Nat) (A1261:Option Addr) (c1262:Nat) (A1263:Option Addr) (c1264:Nat) (A1266:Option Addr) (c1267:Nat) (A1268:Option Addr) (c1269:Nat) (cs1270:List Value),σ_ 0=.pointer (some ⟨pb0,0,none⟩)/\σ_ 4=.pointer (some ⟨b3,0,none⟩)/\σ_ 5=.pointer (some ⟨b22,0,none⟩)/\σ_ 6=jV (↑k99:Int)/\σ_ 9=.slice A1259 y269.length c1260/\σ_ 15=jV x28/\σ_ 16=jV (↑k99:Int)/\σ_ 47=.pointer (some ⟨b22,1,none⟩)/\σ_ 49=jV (↑k99:Int)/\σ_ 50=jV (w64 (7 * (↑k99:Int)))/\σ_ 51=.pointer (some ⟨pb0,0,none⟩)/\σ_ 52=jV x426/\σ_ 53=jV (w64 ((w64 (7 * (↑k99:Int))) + x426))/\σ_ 54=.slice A1261 ([w64 ((w64 (7 * (↑k99:Int))) + x426)].length) c1262/\σ_ 55=.slice A1263 x445.length c1264/\σ_ 56=.pointer (some ⟨b22,2,none⟩)/\σ_ 58=.slice A1266 y269.length c1267/\σ_ 59=.slice A1268 ([y269].length) c1269/\PHeap.Le U348 U_/\SW w [B1] U U_ [.blk pb0 192 [.slice A1256 x427.bytes.length c1257,jV x427.next,.int .u32 x427.state],B6,B4,.blk b3 66 B0,.row A1261 c1262 3 1 (nA KL.encI [w64 ((w64 (7 * (↑k99:Int))) + x426)]),.row A1263 c1264 3 1 (nA KL.encI x445),.row A1268 c1269 22 1 cs1270] w_/\Sl U_ 1 A1256 c1257 x427.bytes.length (nA KL.encB8 x427.bytes)/\Sl U_ 1 A1259 c1260 y269.length (nA KL.encI y269)/\Sl U_ 1 A1266 c1267 y269.length (nA KL.encI y269)/\RlL U_ wBH [y269] cs1270) ?_ fun ko1271=>?_
   ·rintro σ1272 W1273 ⟨U1274,A1256,c1257,A1259,c1260,A1261,c1262,A1263,c1264,A1266,c1267,A1268,c1269,cs1270,f1277,f1278,f1279,f1280,f1281,f1282,f1283,f1284,f1285,f1286,f1287,f1288,f1289,f1290,f1291,f1292,f1293,f1294,le1275,hS1276,h1295,h1296,h1297,h1298⟩
    exact ZH Z Z Z Z (hS1276.ldB (j:=2) Z Z f1292 zq (v:=.slice A95 l94.length c96) Z) (ko1130 _ _ ⟨U1274,A1256,c1257,A1259,c1260,A1261,c1262,A1263,c1264,A1266,c1267,A1268,c1269,cs1270,f1277,f1278,f1279,f1280,f1281,f1282,f1283,f1284,f1285,f1286,f1287,f1288,f1289,f1290,f1291,f1292,Z,f1293,f1294,le1275,hS1276,h1295,h1296,h1297,h1298⟩)
   let B10:Res:=.row A346 c347 3 1 (nA KL.encI y269)
   refine zr (s:=gCg) (M:=fun σ_ w_=>∃ (U_:PHeap) (A1316:Option Addr) (c1317:Nat) (A1318:Option Addr) (c1319:Nat) (A1320:Option Addr) (c1321:Nat),σ_ 0=.pointer (some ⟨pb0,0,none⟩)/\σ_ 4=.pointer (some ⟨b3,0,none⟩)/\σ_ 5=.pointer (some ⟨b22,0,none⟩)/\σ_ 6=jV (↑k99:Int)/\σ_ 9=.slice A346 y269.length c347/\σ_ 15=jV x28/\σ_ 16=jV (↑k99:Int)/\σ_ 47=.pointer (some ⟨b22,1,none⟩)/\σ_ 49=jV (↑k99:Int)/\σ_ 50=jV (w64 (7 * (↑k99:Int)))/\σ_ 51=.pointer (some ⟨pb0,0,none⟩)/\σ_ 52=jV x426/\σ_ 53=jV (w64 ((w64 (7 * (↑k99:Int))) + x426))/\σ_ 54=.slice A1318 ([w64 ((w64 (7 * (↑k99:Int))) + x426)].length) c1319/\σ_ 55=.slice A1320 x445.length c1321/\σ_ 56=.pointer (some ⟨b22,2,none⟩)/\σ_ 57=.slice A95 l94.length c96/\σ_ 58=.slice A346 y269.length c347/\PHeap.Le U348 U_/\SW w [B1] U U_ [.blk pb0 192 [.slice A1316 x427.bytes.length c1317,jV x427.next,.int .u32 x427.state],B6,B4,.blk b3 66 B0,B10,.row A1318 c1319 3 1 (nA KL.encI [w64 ((w64 (7 * (↑k99:Int))) + x426)]),.row A1320 c1321 3 1 (nA KL.encI x445)] w_/\Sl U_ 1 A1316 c1317 x427.bytes.length (nA KL.encB8 x427.bytes)) ?_ fun ko1322=>?_
   ·rintro σ1323 W1324 ⟨U1325,A1316,c1317,A1318,c1319,A1320,c1321,f1328,f1329,f1330,f1331,f1332,f1333,f1334,f1335,f1336,f1337,f1338,f1339,f1340,f1341,f1342,f1343,f1344,f1345,le1326,hS1327,h1346⟩
    refine oR Z (zX Z f1330 zM Z zN) ?_
    have q:=hS1327.freezeR (k:=4) (n:=y269.length) rfl (wAB (f:=KL.encI) (sz:=1) (fun _=>rfl) y269) (by decide)
    obtain ⟨U1350,le1351,hs1352,hS1353⟩:=q
    let B11:Res:=.blk pb0 192 [.slice A1316 x427.bytes.length c1317,jV x427.next,.int .u32 x427.state]
    let B12:Res:=.row A1318 c1319 3 1 (nA KL.encI [w64 ((w64 (7 * (↑k99:Int))) + x426)])
    let B13:Res:=.row A1320 c1321 3 1 (nA KL.encI x445)
    have hS1354:SW w [B1] U U1350 [B11,B6,B4,.blk b3 66 B0,B12,B13] W1324:=hS1353
    let B14:List Value:=[.slice A346 y269.length c347]
    refine zU (pv:=[(0,.slice A346 y269.length c347)]) (zs:=[.slice none 0 0]) (cs:=B14) Z Z Z Z Z (wAH f1345 wAQ) zO zN ZP Z Z Z Z Z hS1354 ?_
    intro W1347 b1348 hS1349
    have hr1356:RlL U1350 wBH [y269] B14:=(RlL.cons (R:=wBH) (x:=y269) (vs:=B14) ⟨A346,c347,rfl,hs1352⟩ RlL.nil)
    have hS1357:SW w [B1] U U1350 [.row (some ⟨b1348,0,none⟩) 1 22 1 B14,B11,B6,B4,.blk b3 66 B0,B12,B13] W1347:=hS1349
    have h1374:=h1346.le le1351
    exact ko1052 _ _ ⟨U1350,A1316,c1317,A346,c347,A1318,c1319,A1320,c1321,A346,c347,(some ⟨b1348,0,none⟩),1,B14,f1328,f1329,f1330,f1331,f1332,f1333,f1334,f1335,f1336,f1337,f1338,f1339,f1340,f1341,f1342,f1343,f1344,f1345,rfl,rfl,(le1326.trans le1351),(hS1357.pick [1,2,3,4,5,6,0] _ (by decide) rfl),h1374,hs1352,hs1352,hr1356⟩
   refine zr (s:=gCj) (M:=fun σ_ w_=>∃ (U_:PHeap) (A1376:Option Addr) (c1377:Nat) (A1379:Option Addr) (c1380:Nat) (A1382:Option Addr) (c1383:Nat) (A1384:Option Addr) (c1385:Nat) (cs1386:List Value),σ_ 0=.pointer (some ⟨pb0,0,none⟩)/\σ_ 4=.pointer (some ⟨b3,0,none⟩)/\σ_ 5=.pointer (some ⟨b22,0,none⟩)/\σ_ 6=jV (↑k99:Int)/\σ_ 9=.slice A1379 y269.length c1380/\σ_ 15=jV x28/\σ_ 16=jV (↑k99:Int)/\σ_ 47=.pointer (some ⟨b22,1,none⟩)/\σ_ 48=.slice A91 l90.length c92/\σ_ 49=jV (↑k99:Int)/\σ_ 50=jV (w64 (7 * (↑k99:Int)))/\σ_ 51=.pointer (some ⟨pb0,0,none⟩)/\σ_ 52=jV x426/\σ_ 53=jV (w64 ((w64 (7 * (↑k99:Int))) + x426))/\σ_ 56=.pointer (some ⟨b22,2,none⟩)/\σ_ 57=.slice A95 l94.length c96/\σ_ 58=.slice A1382 y269.length c1383/\σ_ 59=.slice A1384 ([y269].length) c1385/\PHeap.Le U348 U_/\SW w [B1] U U_ [.blk pb0 192 [.slice A1376 x427.bytes.length c1377,jV x427.next,.int .u32 x427.state],.row A91 c92 3 1 (nA KL.encI l90),B6,B4,.blk b3 66 B0,.row A1384 c1385 22 1 cs1386] w_/\Sl U_ 1 A1376 c1377 x427.bytes.length (nA KL.encB8 x427.bytes)/\Sl U_ 1 A1379 c1380 y269.length (nA KL.encI y269)/\Sl U_ 1 A1382 c1383 y269.length (nA KL.encI y269)/\RlL U_ wBH [y269] cs1386) ?_ fun ko1387=>?_
   ·rintro σ1388 W1389 ⟨U1390,A1376,c1377,A1379,c1380,A1382,c1383,A1384,c1385,cs1386,f1393,f1394,f1395,f1396,f1397,f1398,f1399,f1400,f1401,f1402,f1403,f1404,f1405,f1406,f1407,f1408,f1409,f1410,le1391,hS1392,h1411,h1412,h1413,h1414⟩
    refine zU (pv:=[(0,jV (w64 ((w64 (7 * (↑k99:Int))) + x426)))]) (zs:=[jV 0]) (cs:=[jV (w64 ((w64 (7 * (↑k99:Int))) + x426))]) Z Z Z Z Z (wAH f1406 wAQ) zA zB zt Z Z Z Z Z hS1392 ?_
    intro W1415 b1416 hS1417
    have hS1419:SW w [B1] U U1390 [.row (some ⟨b1416,0,none⟩) 1 3 1 (nA KL.encI [w64 ((w64 (7 * (↑k99:Int))) + x426)]),.blk pb0 192 [.slice A1376 x427.bytes.length c1377,jV x427.next,.int .u32 x427.state],B5,B6,B4,.blk b3 66 B0,.row A1384 c1385 22 1 cs1386] W1415:=hS1417
    exact ko1205 _ _ ⟨U1390,A1376,c1377,A1379,c1380,(some ⟨b1416,0,none⟩),1,A1382,c1383,A1384,c1385,cs1386,f1393,f1394,f1395,f1396,f1397,f1398,f1399,f1400,f1401,f1402,f1403,f1404,f1405,f1406,rfl,f1407,f1408,f1409,f1410,le1391,(hS1419.pick [1,2,3,4,5,0,6] _ (by decide) rfl),h1411,h1412,h1413,h1414⟩
   refine zr (s:=gCl) (M:=fun σ_ w_=>∃ (U_:PHeap) (A1435:Option Addr) (c1436:Nat) (A1438:Option Addr) (c1439:Nat) (A1440:Option Addr) (c1441:Nat) (A1443:Option Addr) (c1444:Nat) (A1445:Option Addr) (c1446:Nat) (cs1447:List Value),σ_ 0=.pointer (some ⟨pb0,0,none⟩)/\σ_ 4=.pointer (some ⟨b3,0,none⟩)/\σ_ 5=.pointer (some ⟨b22,0,none⟩)/\σ_ 6=jV (↑k99:Int)/\σ_ 9=.slice A1438 y269.length c1439/\σ_ 15=jV x28/\σ_ 16=jV (↑k99:Int)/\σ_ 47=.pointer (some ⟨b22,1,none⟩)/\σ_ 48=.slice A91 l90.length c92/\σ_ 49=jV (↑k99:Int)/\σ_ 50=jV (w64 (7 * (↑k99:Int)))/\σ_ 51=.pointer (some ⟨pb0,0,none⟩)/\σ_ 52=jV x426/\σ_ 53=jV (w64 ((w64 (7 * (↑k99:Int))) + x426))/\σ_ 54=.slice A1440 ([w64 ((w64 (7 * (↑k99:Int))) + x426)].length) c1441/\σ_ 56=.pointer (some ⟨b22,2,none⟩)/\σ_ 58=.slice A1443 y269.length c1444/\σ_ 59=.slice A1445 ([y269].length) c1446/\PHeap.Le U348 U_/\SW w [B1] U U_ [.blk pb0 192 [.slice A1435 x427.bytes.length c1436,jV x427.next,.int .u32 x427.state],.row A91 c92 3 1 (nA KL.encI l90),B6,B4,.blk b3 66 B0,.row A1440 c1441 3 1 (nA KL.encI [w64 ((w64 (7 * (↑k99:Int))) + x426)]),.row A1445 c1446 22 1 cs1447] w_/\Sl U_ 1 A1435 c1436 x427.bytes.length (nA KL.encB8 x427.bytes)/\Sl U_ 1 A1438 c1439 y269.length (nA KL.encI y269)/\Sl U_ 1 A1443 c1444 y269.length (nA KL.encI y269)/\RlL U_ wBH [y269] cs1447) ?_ fun ko1448=>?_
   ·rintro σ1449 W1450 ⟨U1451,A1435,c1436,A1438,c1439,A1440,c1441,A1443,c1444,A1445,c1446,cs1447,f1454,f1455,f1456,f1457,f1458,f1459,f1460,f1461,f1462,f1463,f1464,f1465,f1466,f1467,f1468,f1469,f1470,f1471,le1452,hS1453,h1472,h1473,h1474,h1475⟩
    refine zj ?_ ?_
    ·refine ZO (j:=1) (enc:=KL.encI) (xs:=l90) (ys:=[w64 ((w64 (7 * (↑k99:Int))) + x426)]) (zs:=x445) rfl rfl rfl rfl rfl zu wCc rfl rfl rfl rfl rfl rfl hS1453 rfl f1462 f1468 (hS1453.srcR (j:=5) rfl (by decide) (wAB (f:=KL.encI) (sz:=1) (fun _=>rfl) [w64 ((w64 (7 * (↑k99:Int))) + x426)])) (fun _=>rfl) (fun _=>rfl) h446 rfl ?_
     intro A1476 c1477 W1478 hS1479
     have hS1480:SW w [B1] U U1451 [.blk pb0 192 [.slice A1435 x427.bytes.length c1436,jV x427.next,.int .u32 x427.state],.row A1476 c1477 3 1 (nA KL.encI x445),B6,B4,.blk b3 66 B0,.row A1440 c1441 3 1 (nA KL.encI [w64 ((w64 (7 * (↑k99:Int))) + x426)]),.row A1445 c1446 22 1 cs1447] W1478:=hS1479
     exact ko1271 _ _ ⟨U1451,A1435,c1436,A1438,c1439,A1440,c1441,A1476,c1477,A1443,c1444,A1445,c1446,cs1447,f1454,f1455,f1456,f1457,f1458,f1459,f1460,f1461,f1463,f1464,f1465,f1466,f1467,f1468,rfl,f1469,f1470,f1471,le1452,(hS1480.pick [0,2,3,4,5,1,6] _ (by decide) rfl),h1472,h1473,h1474,h1475⟩
    ·exact ZH Z Z Z Z (hS1453.ldB (j:=3) Z Z f1469 zq (v:=.slice A95 l94.length c96) Z) (ko1205 _ _ ⟨U1451,A1435,c1436,A1438,c1439,A1440,c1441,A1443,c1444,A1445,c1446,cs1447,f1454,f1455,f1456,f1457,f1458,f1459,f1460,f1461,f1462,f1463,f1464,f1465,f1466,f1467,f1468,f1469,Z,f1470,f1471,le1452,hS1453,h1472,h1473,h1474,h1475⟩)
   refine zr (s:=gCk) (M:=fun σ_ w_=>∃ (U_:PHeap) (A1512:Option Addr) (c1513:Nat) (A1514:Option Addr) (c1515:Nat),σ_ 0=.pointer (some ⟨pb0,0,none⟩)/\σ_ 4=.pointer (some ⟨b3,0,none⟩)/\σ_ 5=.pointer (some ⟨b22,0,none⟩)/\σ_ 6=jV (↑k99:Int)/\σ_ 9=.slice A346 y269.length c347/\σ_ 15=jV x28/\σ_ 16=jV (↑k99:Int)/\σ_ 47=.pointer (some ⟨b22,1,none⟩)/\σ_ 48=.slice A91 l90.length c92/\σ_ 49=jV (↑k99:Int)/\σ_ 50=jV (w64 (7 * (↑k99:Int)))/\σ_ 51=.pointer (some ⟨pb0,0,none⟩)/\σ_ 52=jV x426/\σ_ 53=jV (w64 ((w64 (7 * (↑k99:Int))) + x426))/\σ_ 54=.slice A1514 ([w64 ((w64 (7 * (↑k99:Int))) + x426)].length) c1515/\σ_ 56=.pointer (some ⟨b22,2,none⟩)/\σ_ 57=.slice A95 l94.length c96/\σ_ 58=.slice A346 y269.length c347/\PHeap.Le U348 U_/\SW w [B1] U U_ [.blk pb0 192 [.slice A1512 x427.bytes.length c1513,jV x427.next,.int .u32 x427.state],B5,B6,B4,.blk b3 66 B0,B10,.row A1514 c1515 3 1 (nA KL.encI [w64 ((w64 (7 * (↑k99:Int))) + x426)])] w_/\Sl U_ 1 A1512 c1513 x427.bytes.length (nA KL.encB8 x427.bytes)) ?_ fun ko1516=>?_
   ·rintro σ1517 W1518 ⟨U1519,A1512,c1513,A1514,c1515,f1522,f1523,f1524,f1525,f1526,f1527,f1528,f1529,f1530,f1531,f1532,f1533,f1534,f1535,f1536,f1537,f1538,f1539,le1520,hS1521,h1540⟩
    refine zj ?_ ?_
    ·refine ZO (j:=1) (enc:=KL.encI) (xs:=l90) (ys:=[w64 ((w64 (7 * (↑k99:Int))) + x426)]) (zs:=x445) rfl rfl rfl rfl rfl zu wCc rfl rfl rfl rfl rfl rfl hS1521 rfl f1530 f1536 (hS1521.srcR (j:=6) rfl (by decide) (wAB (f:=KL.encI) (sz:=1) (fun _=>rfl) [w64 ((w64 (7 * (↑k99:Int))) + x426)])) (fun _=>rfl) (fun _=>rfl) h446 rfl ?_
     intro A1541 c1542 W1543 hS1544
     have hS1545:SW w [B1] U U1519 [.blk pb0 192 [.slice A1512 x427.bytes.length c1513,jV x427.next,.int .u32 x427.state],.row A1541 c1542 3 1 (nA KL.encI x445),B6,B4,.blk b3 66 B0,B10,.row A1514 c1515 3 1 (nA KL.encI [w64 ((w64 (7 * (↑k99:Int))) + x426)])] W1543:=hS1544
     exact ko1322 _ _ ⟨U1519,A1512,c1513,A1514,c1515,A1541,c1542,f1522,f1523,f1524,f1525,f1526,f1527,f1528,f1529,f1531,f1532,f1533,f1534,f1535,f1536,rfl,f1537,f1538,f1539,le1520,(hS1545.pick [0,2,3,4,5,6,1] _ (by decide) rfl),h1540⟩
    ·have q:=hS1521.freezeR (k:=5) (n:=y269.length) rfl (wAB (f:=KL.encI) (sz:=1) (fun _=>rfl) y269) (by decide)
     obtain ⟨U1556,le1557,hs1558,hS1559⟩:=q
     let B15:Res:=.blk pb0 192 [.slice A1512 x427.bytes.length c1513,jV x427.next,.int .u32 x427.state]
     let B16:Res:=.row A1514 c1515 3 1 (nA KL.encI [w64 ((w64 (7 * (↑k99:Int))) + x426)])
     have hS1560:SW w [B1] U U1556 [B15,B5,B6,B4,.blk b3 66 B0,B16] W1518:=hS1559
     let B17:List Value:=[.slice A346 y269.length c347]
     refine zU (pv:=[(0,.slice A346 y269.length c347)]) (zs:=[.slice none 0 0]) (cs:=B17) Z Z Z Z Z (wAH f1539 wAQ) zO zN ZP Z Z Z Z Z hS1560 ?_
     intro W1553 b1554 hS1555
     have hr1562:RlL U1556 wBH [y269] B17:=(RlL.cons (R:=wBH) (x:=y269) (vs:=B17) ⟨A346,c347,rfl,hs1558⟩ RlL.nil)
     have hS1563:SW w [B1] U U1556 [.row (some ⟨b1554,0,none⟩) 1 22 1 B17,B15,B5,B6,B4,.blk b3 66 B0,B16] W1553:=hS1555
     have h1578:=h1540.le le1557
     exact ko1205 _ _ ⟨U1556,A1512,c1513,A346,c347,A1514,c1515,A346,c347,(some ⟨b1554,0,none⟩),1,B17,f1522,f1523,f1524,f1525,f1526,f1527,f1528,f1529,f1530,f1531,f1532,f1533,f1534,f1535,f1536,f1537,f1538,f1539,rfl,(le1520.trans le1557),(hS1563.pick [1,2,3,4,5,6,0] _ (by decide) rfl),h1578,hs1558,hs1558,hr1562⟩
   refine zr (s:=.fl 6 gCj) (M:=fun σ_ w_=>∃ (U_:PHeap) (A1580:Option Addr) (c1581:Nat) (A1583:Option Addr) (c1584:Nat) (A1586:Option Addr) (c1587:Nat) (A1588:Option Addr) (c1589:Nat) (cs1590:List Value),σ_ 0=.pointer (some ⟨pb0,0,none⟩)/\σ_ 4=.pointer (some ⟨b3,0,none⟩)/\σ_ 5=.pointer (some ⟨b22,0,none⟩)/\σ_ 6=jV (↑k99:Int)/\σ_ 9=.slice A1583 y269.length c1584/\σ_ 15=jV x28/\σ_ 16=jV (↑k99:Int)/\σ_ 47=.pointer (some ⟨b22,1,none⟩)/\σ_ 48=.slice A91 l90.length c92/\σ_ 49=jV (↑k99:Int)/\σ_ 50=jV (w64 (7 * (↑k99:Int)))/\σ_ 51=.pointer (some ⟨pb0,0,none⟩)/\σ_ 52=jV x426/\σ_ 56=.pointer (some ⟨b22,2,none⟩)/\σ_ 57=.slice A95 l94.length c96/\σ_ 58=.slice A1586 y269.length c1587/\σ_ 59=.slice A1588 ([y269].length) c1589/\PHeap.Le U348 U_/\SW w [B1] U U_ [.blk pb0 192 [.slice A1580 x427.bytes.length c1581,jV x427.next,.int .u32 x427.state],.row A91 c92 3 1 (nA KL.encI l90),B6,B4,.blk b3 66 B0,.row A1588 c1589 22 1 cs1590] w_/\Sl U_ 1 A1580 c1581 x427.bytes.length (nA KL.encB8 x427.bytes)/\Sl U_ 1 A1583 c1584 y269.length (nA KL.encI y269)/\Sl U_ 1 A1586 c1587 y269.length (nA KL.encI y269)/\RlL U_ wBH [y269] cs1590) ?_ fun ko1591=>?_
   ·rintro σ1592 W1593 ⟨U1594,A1580,c1581,A1583,c1584,A1586,c1587,A1588,c1589,cs1590,f1597,f1598,f1599,f1600,f1601,f1602,f1603,f1604,f1605,f1606,f1607,f1608,f1609,f1610,f1611,f1612,f1613,le1595,hS1596,h1614,h1615,h1616,h1617⟩
    refine oR Z (zV Z f1607 f1609) (zU (pv:=[(0,jV (w64 ((w64 (7 * (↑k99:Int))) + x426)))]) (zs:=[jV 0]) (cs:=[jV (w64 ((w64 (7 * (↑k99:Int))) + x426))]) Z Z Z Z Z (wAH Z wAQ) zA zB zt Z Z Z Z Z hS1596 ?_)
    intro W1618 b1619 hS1620
    have hS1622:SW w [B1] U U1594 [.row (some ⟨b1619,0,none⟩) 1 3 1 (nA KL.encI [w64 ((w64 (7 * (↑k99:Int))) + x426)]),.blk pb0 192 [.slice A1580 x427.bytes.length c1581,jV x427.next,.int .u32 x427.state],B5,B6,B4,.blk b3 66 B0,.row A1588 c1589 22 1 cs1590] W1618:=hS1620
    exact ko1205 _ _ ⟨U1594,A1580,c1581,A1583,c1584,(some ⟨b1619,0,none⟩),1,A1586,c1587,A1588,c1589,cs1590,f1597,f1598,f1599,f1600,f1601,f1602,f1603,f1604,f1605,f1606,f1607,f1608,f1609,rfl,rfl,f1610,f1611,f1612,f1613,le1595,(hS1622.pick [1,2,3,4,5,0,6] _ (by decide) rfl),h1614,h1615,h1616,h1617⟩
   let B18:Res:=.blk pb0 192 [.slice A344 y265.length c345,jV y266,.int .u32 y267]
   refine zr (s:=gCo) (M:=fun σ_ w_=>∃ (U_:PHeap) (A1638:Option Addr) (c1639:Nat) (A1641:Option Addr) (c1642:Nat) (A1643:Option Addr) (c1644:Nat) (cs1645:List Value),σ_ 0=.pointer (some ⟨pb0,0,none⟩)/\σ_ 4=.pointer (some ⟨b3,0,none⟩)/\σ_ 5=.pointer (some ⟨b22,0,none⟩)/\σ_ 6=jV (↑k99:Int)/\σ_ 9=.slice A1638 y269.length c1639/\σ_ 15=jV x28/\σ_ 16=jV (↑k99:Int)/\σ_ 47=.pointer (some ⟨b22,1,none⟩)/\σ_ 48=.slice A91 l90.length c92/\σ_ 49=jV (↑k99:Int)/\σ_ 50=jV (w64 (7 * (↑k99:Int)))/\σ_ 51=.pointer (some ⟨pb0,0,none⟩)/\σ_ 56=.pointer (some ⟨b22,2,none⟩)/\σ_ 57=.slice A95 l94.length c96/\σ_ 58=.slice A1641 y269.length c1642/\σ_ 59=.slice A1643 ([y269].length) c1644/\PHeap.Le U348 U_/\SW w [B1] U U_ [B18,.row A91 c92 3 1 (nA KL.encI l90),B6,B4,.blk b3 66 B0,.row A1643 c1644 22 1 cs1645] w_/\Sl U_ 1 A1638 c1639 y269.length (nA KL.encI y269)/\Sl U_ 1 A1641 c1642 y269.length (nA KL.encI y269)/\RlL U_ wBH [y269] cs1645) ?_ fun ko1646=>?_
   ·rintro σ1647 W1648 ⟨U1649,A1638,c1639,A1641,c1642,A1643,c1644,cs1645,f1652,f1653,f1654,f1655,f1656,f1657,f1658,f1659,f1660,f1661,f1662,f1663,f1664,f1665,f1666,f1667,le1650,hS1651,h1668,h1669,h1670⟩
    have h1671:=h361.le le1650
    refine yA 1 rfl rfl rfl rfl (zK rfl rfl Zr (zC f1663 (zC rfl (zC rfl zP))) rfl) hS1651 (fun hs=>wAR (⟨y265,y266,y267⟩:wAC) pb0 A344 c345 1 7 W1648 U1649 hs h1671 h428) rfl (T:=[pb0]) rfl ⟨fun b h=>(by cases h;exact .head _),trivial⟩ ?_
    rintro U1674 L1675 v1676 W1677 le1678 hS1679 ⟨A1680,c1681,rfl,rfl,h1682⟩
    have hS1683:SW w [B1] U U1674 [.blk pb0 192 [.slice A1680 x427.bytes.length c1681,jV x427.next,.int .u32 x427.state],B5,B6,B4,.blk b3 66 B0,.row A1643 c1644 22 1 cs1645] W1677:=hS1679
    have h1696:=h1668.le le1678
    have h1697:=h1669.le le1678
    have h1698:=h1670.le le1678
    exact ko1591 _ _ ⟨U1674,A1680,c1681,A1638,c1639,A1641,c1642,A1643,c1644,cs1645,f1652,f1653,f1654,f1655,f1656,f1657,f1658,f1659,f1660,f1661,f1662,f1663,Z,f1664,f1665,f1666,f1667,(le1650.trans le1678),hS1683,h1682,h1696,h1697,h1698⟩
   refine zY rfl rfl rfl rfl (fun _=>zX rfl f353 zM rfl zN) (OKS.mt (T:=[pb0]) [0] [1,2,3,4,5] [B5,B6,B4,.blk b3 66 B0,B10] rfl rfl rfl rfl hS490 rfl ⟨⟨0,by decide,_,rfl,rfl⟩,trivial⟩ (by decide) rfl (by decide) (fun _ hZ1699=>(hZ1699.ldB (j:=2) rfl rfl rfl zn (v:=.slice A91 l90.length c92) rfl)) rfl (zR rfl rfl rfl rfl rfl f354 (zY rfl rfl rfl rfl (fun _=>Runs.mulw rfl rfl rfl) (zR rfl rfl rfl rfl rfl f351 (zY rfl rfl rfl rfl (fun _=>zX rfl f353 zM rfl ZX) (zR rfl rfl rfl rfl rfl f357 (zj ?_ ?_)))))))
   ·refine yA 1 rfl rfl rfl rfl (zK rfl rfl Zr (zC rfl (zC rfl (zC rfl zP))) rfl) hS490 (fun hs=>wAR (⟨y265,y266,y267⟩:wAC) pb0 A344 c345 1 7 W491 U348 hs h361 h428) rfl (T:=[pb0]) rfl ⟨fun b h=>(by cases h;exact .head _),trivial⟩ ?_
    rintro U1702 L1703 v1704 W1705 le1706 hS1707 ⟨A1708,c1709,rfl,rfl,h1710⟩
    let B19:Res:=.blk pb0 192 [.slice A1708 x427.bytes.length c1709,jV x427.next,.int .u32 x427.state]
    have hS1711:SW w [B1] U U1702 [B19,B5,B6,B4,.blk b3 66 B0,B10] W1705:=hS1707
    refine oR Z (zV Z Z Z) (zj ?_ ?_)
    ·refine zU (pv:=[(0,jV (w64 ((w64 (7 * (↑k99:Int))) + x426)))]) (zs:=[jV 0]) (cs:=[jV (w64 ((w64 (7 * (↑k99:Int))) + x426))]) Z Z Z Z Z (wAH Z wAQ) zA zB zt Z Z Z Z Z hS1711 ?_
     intro W1712 b1713 hS1714
     let B20:Res:=.row (some ⟨b1713,0,none⟩) 1 3 1 (nA KL.encI [w64 ((w64 (7 * (↑k99:Int))) + x426)])
     have hS1716:SW w [B1] U U1702 [B20,B19,B5,B6,B4,.blk b3 66 B0,B10] W1712:=hS1714
     refine zj ?_ ?_
     ·refine ZO (j:=2) (enc:=KL.encI) (xs:=l90) (ys:=[w64 ((w64 (7 * (↑k99:Int))) + x426)]) (zs:=x445) rfl rfl rfl rfl rfl zu wCc rfl rfl rfl rfl rfl rfl hS1716 rfl rfl rfl (hS1716.srcR (j:=0) rfl (by decide) (wAB (f:=KL.encI) (sz:=1) (fun _=>rfl) [w64 ((w64 (7 * (↑k99:Int))) + x426)])) (fun _=>rfl) (fun _=>rfl) h446 rfl ?_
      intro A1717 c1718 W1719 hS1720
      let B21:Res:=.row A1717 c1718 3 1 (nA KL.encI x445)
      have hS1721:SW w [B1] U U1702 [B20,B19,B21,B6,B4,.blk b3 66 B0,B10] W1719:=hS1720
      refine zj ?_ ?_
      ·exact ZH rfl rfl rfl rfl (hS1721.ldB (j:=4) rfl rfl rfl zq (v:=.slice A95 l94.length c96) rfl) (ko1322 _ _ ⟨U1702,A1708,c1709,(some ⟨b1713,0,none⟩),1,A1717,c1718,f351,f352,f353,f354,f357,f358,f359,rfl,rfl,rfl,rfl,rfl,rfl,rfl,rfl,rfl,rfl,rfl,le1706,(hS1721.pick [1,3,4,5,6,0,2] _ (by decide) rfl),h1710⟩)
      ·have q:=hS1721.freezeR (k:=6) (n:=y269.length) rfl (wAB (f:=KL.encI) (sz:=1) (fun _=>rfl) y269) (by decide)
       obtain ⟨U1732,le1733,hs1734,hS1735⟩:=q
       have hS1736:SW w [B1] U U1732 [B20,B19,B21,B6,B4,.blk b3 66 B0] W1719:=hS1735
       let B22:List Value:=[.slice A346 y269.length c347]
       refine zU (pv:=[(0,.slice A346 y269.length c347)]) (zs:=[.slice none 0 0]) (cs:=B22) Z Z Z Z Z (wAH Z wAQ) zO zN ZP Z Z Z Z Z hS1736 ?_
       intro W1729 b1730 hS1731
       have hr1738:RlL U1732 wBH [y269] B22:=(RlL.cons (R:=wBH) (x:=y269) (vs:=B22) ⟨A346,c347,rfl,hs1734⟩ RlL.nil)
       have hS1739:SW w [B1] U U1732 [.row (some ⟨b1730,0,none⟩) 1 22 1 B22,B20,B19,B21,B6,B4,.blk b3 66 B0] W1729:=hS1731
       have h1756:=h1710.le le1733
       exact ko1271 _ _ ⟨U1732,A1708,c1709,A346,c347,(some ⟨b1713,0,none⟩),1,A1717,c1718,A346,c347,(some ⟨b1730,0,none⟩),1,B22,f351,f352,f353,f354,f357,f358,f359,rfl,rfl,rfl,rfl,rfl,rfl,rfl,rfl,rfl,rfl,rfl,(le1706.trans le1733),(hS1739.pick [2,4,5,6,1,3,0] _ (by decide) rfl),h1756,hs1734,hs1734,hr1738⟩
     refine zj ?_ ?_
     ·exact ZH rfl rfl rfl rfl (hS1716.ldB (j:=4) rfl rfl rfl zq (v:=.slice A95 l94.length c96) rfl) (ko1516 _ _ ⟨U1702,A1708,c1709,(some ⟨b1713,0,none⟩),1,f351,f352,f353,f354,f357,f358,f359,rfl,rfl,rfl,rfl,rfl,rfl,rfl,rfl,rfl,rfl,rfl,le1706,(hS1716.pick [1,2,3,4,5,6,0] _ (by decide) rfl),h1710⟩)
     ·have q:=hS1716.freezeR (k:=6) (n:=y269.length) rfl (wAB (f:=KL.encI) (sz:=1) (fun _=>rfl) y269) (by decide)
      obtain ⟨U1765,le1766,hs1767,hS1768⟩:=q
      have hS1769:SW w [B1] U U1765 [B20,B19,B5,B6,B4,.blk b3 66 B0] W1712:=hS1768
      let B23:List Value:=[.slice A346 y269.length c347]
      refine zU (pv:=[(0,.slice A346 y269.length c347)]) (zs:=[.slice none 0 0]) (cs:=B23) Z Z Z Z Z (wAH Z wAQ) zO zN ZP Z Z Z Z Z hS1769 ?_
      intro W1762 b1763 hS1764
      have hr1771:RlL U1765 wBH [y269] B23:=(RlL.cons (R:=wBH) (x:=y269) (vs:=B23) ⟨A346,c347,rfl,hs1767⟩ RlL.nil)
      have hS1772:SW w [B1] U U1765 [.row (some ⟨b1763,0,none⟩) 1 22 1 B23,B20,B19,B5,B6,B4,.blk b3 66 B0] W1762:=hS1764
      have h1787:=h1710.le le1766
      exact ko1448 _ _ ⟨U1765,A1708,c1709,A346,c347,(some ⟨b1713,0,none⟩),1,A346,c347,(some ⟨b1763,0,none⟩),1,B23,f351,f352,f353,f354,f357,f358,f359,rfl,rfl,rfl,rfl,rfl,rfl,rfl,rfl,rfl,rfl,rfl,(le1706.trans le1766),(hS1772.pick [2,3,4,5,6,1,0] _ (by decide) rfl),h1787,hs1767,hs1767,hr1771⟩
    refine zj ?_ ?_
    ·refine ZH Z Z Z Z (hS1711.ldB (j:=3) Z Z Z zq (v:=.slice A95 l94.length c96) Z) (zj ?_ ?_)
     ·refine zU (pv:=[(0,jV (w64 ((w64 (7 * (↑k99:Int))) + x426)))]) (zs:=[jV 0]) (cs:=[jV (w64 ((w64 (7 * (↑k99:Int))) + x426))]) Z Z Z Z Z (wAH Z wAQ) zA zB zt Z Z Z Z Z hS1711 ?_
      intro W1788 b1789 hS1790
      have hS1792:SW w [B1] U U1702 [.row (some ⟨b1789,0,none⟩) 1 3 1 (nA KL.encI [w64 ((w64 (7 * (↑k99:Int))) + x426)]),B19,B5,B6,B4,.blk b3 66 B0,B10] W1788:=hS1790
      exact ko1516 _ _ ⟨U1702,A1708,c1709,(some ⟨b1789,0,none⟩),1,f351,f352,f353,f354,f357,f358,f359,rfl,rfl,rfl,rfl,rfl,rfl,rfl,rfl,rfl,rfl,rfl,le1706,(hS1792.pick [1,2,3,4,5,6,0] _ (by decide) rfl),h1710⟩
     ·have q:=hS1711.freezeR (k:=5) (n:=y269.length) rfl (wAB (f:=KL.encI) (sz:=1) (fun _=>rfl) y269) (by decide)
      obtain ⟨U1801,le1802,hs1803,hS1804⟩:=q
      have hS1805:SW w [B1] U U1801 [B19,B5,B6,B4,.blk b3 66 B0] W1705:=hS1804
      let B24:List Value:=[.slice A346 y269.length c347]
      refine zU (pv:=[(0,.slice A346 y269.length c347)]) (zs:=[.slice none 0 0]) (cs:=B24) Z Z Z Z Z (wAH Z wAQ) zO zN ZP Z Z Z Z Z hS1805 ?_
      intro W1798 b1799 hS1800
      have hr1807:RlL U1801 wBH [y269] B24:=(RlL.cons (R:=wBH) (x:=y269) (vs:=B24) ⟨A346,c347,rfl,hs1803⟩ RlL.nil)
      have hS1808:SW w [B1] U U1801 [.row (some ⟨b1799,0,none⟩) 1 22 1 B24,B19,B5,B6,B4,.blk b3 66 B0] W1798:=hS1800
      have h1821:=h1710.le le1802
      exact ko1387 _ _ ⟨U1801,A1708,c1709,A346,c347,A346,c347,(some ⟨b1799,0,none⟩),1,B24,f351,f352,f353,f354,f357,f358,f359,rfl,rfl,rfl,rfl,rfl,rfl,rfl,rfl,rfl,rfl,rfl,(le1706.trans le1802),(hS1808.pick [1,2,3,4,5,0] _ (by decide) rfl),h1821,hs1803,hs1803,hr1807⟩
    ·have q:=hS1711.freezeR (k:=5) (n:=y269.length) rfl (wAB (f:=KL.encI) (sz:=1) (fun _=>rfl) y269) (by decide)
     obtain ⟨U1825,le1826,hs1827,hS1828⟩:=q
     have hS1829:SW w [B1] U U1825 [B19,B5,B6,B4,.blk b3 66 B0] W1705:=hS1828
     let B25:List Value:=[.slice A346 y269.length c347]
     refine zU (pv:=[(0,.slice A346 y269.length c347)]) (zs:=[.slice none 0 0]) (cs:=B25) Z Z Z Z Z (wAH Z wAQ) zO zN ZP Z Z Z Z Z hS1829 ?_
     intro W1822 b1823 hS1824
     have hr1831:RlL U1825 wBH [y269] B25:=(RlL.cons (R:=wBH) (x:=y269) (vs:=B25) ⟨A346,c347,rfl,hs1827⟩ RlL.nil)
     let B26:Res:=.row (some ⟨b1823,0,none⟩) 1 22 1 B25
     have hS1832:SW w [B1] U U1825 [B26,B19,B5,B6,B4,.blk b3 66 B0] W1822:=hS1824
     refine zj ?_ ?_
     ·refine zU (pv:=[(0,jV (w64 ((w64 (7 * (↑k99:Int))) + x426)))]) (zs:=[jV 0]) (cs:=[jV (w64 ((w64 (7 * (↑k99:Int))) + x426))]) Z Z Z Z Z (wAH Z wAQ) zA zB zt Z Z Z Z Z hS1832 ?_
      intro W1833 b1834 hS1835
      have hS1837:SW w [B1] U U1825 [.row (some ⟨b1834,0,none⟩) 1 3 1 (nA KL.encI [w64 ((w64 (7 * (↑k99:Int))) + x426)]),B26,B19,B5,B6,B4,.blk b3 66 B0] W1833:=hS1835
      have h1852:=h1710.le le1826
      exact ko1448 _ _ ⟨U1825,A1708,c1709,A346,c347,(some ⟨b1834,0,none⟩),1,A346,c347,(some ⟨b1823,0,none⟩),1,B25,f351,f352,f353,f354,f357,f358,f359,rfl,rfl,rfl,rfl,rfl,rfl,rfl,rfl,rfl,rfl,rfl,(le1706.trans le1826),(hS1837.pick [2,3,4,5,6,0,1] _ (by decide) rfl),h1852,hs1827,hs1827,hr1831⟩
     ·refine ZH Z Z Z Z (hS1832.ldB (j:=4) Z Z Z zq (v:=.slice A95 l94.length c96) Z) ?_
      have h1865:=h1710.le le1826
      exact ko1387 _ _ ⟨U1825,A1708,c1709,A346,c347,A346,c347,(some ⟨b1823,0,none⟩),1,B25,f351,f352,f353,f354,f357,f358,f359,rfl,rfl,rfl,rfl,rfl,rfl,rfl,rfl,rfl,rfl,rfl,(le1706.trans le1826),(hS1832.pick [1,2,3,4,5,0] _ (by decide) rfl),h1865,hs1827,hs1827,hr1831⟩
   refine zj ?_ ?_
   ·refine ZH Z Z Z Z (hS490.ldB (j:=3) Z Z Z zq (v:=.slice A95 l94.length c96) Z) (zj ?_ ?_)
    ·refine yA 1 rfl rfl rfl rfl (zK rfl rfl Zr (zC rfl (zC rfl (zC rfl zP))) rfl) hS490 (fun hs=>wAR (⟨y265,y266,y267⟩:wAC) pb0 A344 c345 1 7 W491 U348 hs h361 h428) rfl (T:=[pb0]) rfl ⟨fun b h=>(by cases h;exact .head _),trivial⟩ ?_
     rintro U1868 L1869 v1870 W1871 le1872 hS1873 ⟨A1874,c1875,rfl,rfl,h1876⟩
     let B27:Res:=.blk pb0 192 [.slice A1874 x427.bytes.length c1875,jV x427.next,.int .u32 x427.state]
     have hS1877:SW w [B1] U U1868 [B27,B5,B6,B4,.blk b3 66 B0,B10] W1871:=hS1873
     refine oR Z (zV Z Z Z) (zj ?_ ?_)
     ·refine zU (pv:=[(0,jV (w64 ((w64 (7 * (↑k99:Int))) + x426)))]) (zs:=[jV 0]) (cs:=[jV (w64 ((w64 (7 * (↑k99:Int))) + x426))]) Z Z Z Z Z (wAH Z wAQ) zA zB zt Z Z Z Z Z hS1877 ?_
      intro W1878 b1879 hS1880
      have hS1882:SW w [B1] U U1868 [.row (some ⟨b1879,0,none⟩) 1 3 1 (nA KL.encI [w64 ((w64 (7 * (↑k99:Int))) + x426)]),B27,B5,B6,B4,.blk b3 66 B0,B10] W1878:=hS1880
      exact ko1516 _ _ ⟨U1868,A1874,c1875,(some ⟨b1879,0,none⟩),1,f351,f352,f353,f354,f357,f358,f359,rfl,rfl,rfl,rfl,rfl,rfl,rfl,rfl,rfl,rfl,rfl,le1872,(hS1882.pick [1,2,3,4,5,6,0] _ (by decide) rfl),h1876⟩
     ·have q:=hS1877.freezeR (k:=5) (n:=y269.length) rfl (wAB (f:=KL.encI) (sz:=1) (fun _=>rfl) y269) (by decide)
      obtain ⟨U1891,le1892,hs1893,hS1894⟩:=q
      have hS1895:SW w [B1] U U1891 [B27,B5,B6,B4,.blk b3 66 B0] W1871:=hS1894
      let B28:List Value:=[.slice A346 y269.length c347]
      refine zU (pv:=[(0,.slice A346 y269.length c347)]) (zs:=[.slice none 0 0]) (cs:=B28) Z Z Z Z Z (wAH Z wAQ) zO zN ZP Z Z Z Z Z hS1895 ?_
      intro W1888 b1889 hS1890
      have hr1897:RlL U1891 wBH [y269] B28:=(RlL.cons (R:=wBH) (x:=y269) (vs:=B28) ⟨A346,c347,rfl,hs1893⟩ RlL.nil)
      have hS1898:SW w [B1] U U1891 [.row (some ⟨b1889,0,none⟩) 1 22 1 B28,B27,B5,B6,B4,.blk b3 66 B0] W1888:=hS1890
      have h1911:=h1876.le le1892
      exact ko1387 _ _ ⟨U1891,A1874,c1875,A346,c347,A346,c347,(some ⟨b1889,0,none⟩),1,B28,f351,f352,f353,f354,f357,f358,f359,rfl,rfl,rfl,rfl,rfl,rfl,rfl,rfl,rfl,rfl,rfl,(le1872.trans le1892),(hS1898.pick [1,2,3,4,5,0] _ (by decide) rfl),h1911,hs1893,hs1893,hr1897⟩
    ·have q:=hS490.freezeR (k:=5) (n:=y269.length) rfl (wAB (f:=KL.encI) (sz:=1) (fun _=>rfl) y269) (by decide)
     obtain ⟨U1915,le1916,hs1917,hS1918⟩:=q
     have hS1919:SW w [B1] U U1915 [B18,B5,B6,B4,.blk b3 66 B0] W491:=hS1918
     let B29:List Value:=[.slice A346 y269.length c347]
     refine zU (pv:=[(0,.slice A346 y269.length c347)]) (zs:=[.slice none 0 0]) (cs:=B29) Z Z Z Z Z (wAH Z wAQ) zO zN ZP Z Z Z Z Z hS1919 ?_
     intro W1912 b1913 hS1914
     have hr1921:RlL U1915 wBH [y269] B29:=(RlL.cons (R:=wBH) (x:=y269) (vs:=B29) ⟨A346,c347,rfl,hs1917⟩ RlL.nil)
     have hS1922:SW w [B1] U U1915 [.row (some ⟨b1913,0,none⟩) 1 22 1 B29,B18,B5,B6,B4,.blk b3 66 B0] W1912:=hS1914
     exact ko1646 _ _ ⟨U1915,A346,c347,A346,c347,(some ⟨b1913,0,none⟩),1,B29,f351,f352,f353,f354,f357,f358,f359,rfl,rfl,rfl,rfl,rfl,rfl,rfl,rfl,rfl,le1916,(hS1922.pick [1,2,3,4,5,0] _ (by decide) rfl),hs1917,hs1917,hr1921⟩
   ·have q:=hS490.freezeR (k:=5) (n:=y269.length) rfl (wAB (f:=KL.encI) (sz:=1) (fun _=>rfl) y269) (by decide)
    obtain ⟨U1935,le1936,hs1937,hS1938⟩:=q
    have hS1939:SW w [B1] U U1935 [B18,B5,B6,B4,.blk b3 66 B0] W491:=hS1938
    let B30:List Value:=[.slice A346 y269.length c347]
    refine zU (pv:=[(0,.slice A346 y269.length c347)]) (zs:=[.slice none 0 0]) (cs:=B30) Z Z Z Z Z (wAH Z wAQ) zO zN ZP Z Z Z Z Z hS1939 ?_
    intro W1932 b1933 hS1934
    have hr1941:RlL U1935 wBH [y269] B30:=(RlL.cons (R:=wBH) (x:=y269) (vs:=B30) ⟨A346,c347,rfl,hs1937⟩ RlL.nil)
    let B31:Res:=.row (some ⟨b1933,0,none⟩) 1 22 1 B30
    have hS1942:SW w [B1] U U1935 [B31,B18,B5,B6,B4,.blk b3 66 B0] W1932:=hS1934
    refine zj ?_ ?_
    ·have h1943:=h361.le le1936
     have hS1946:SW w [B1] U U1935 [B18,B31,B5,B6,B4,.blk b3 66 B0] W1932:=hS1942.pick [1,0,2,3,4,5] _ (by decide) rfl
     refine yA 1 rfl rfl rfl rfl (zK rfl rfl Zr (zC rfl (zC rfl (zC rfl zP))) rfl) hS1946 (fun hs=>wAR (⟨y265,y266,y267⟩:wAC) pb0 A344 c345 1 7 W1932 U1935 hs h1943 h428) rfl (T:=[pb0]) rfl ⟨fun b h=>(by cases h;exact .head _),trivial⟩ ?_
     rintro U1947 L1948 v1949 W1950 le1951 hS1952 ⟨A1953,c1954,rfl,rfl,h1955⟩
     let B32:Res:=.blk pb0 192 [.slice A1953 x427.bytes.length c1954,jV x427.next,.int .u32 x427.state]
     have hS1956:SW w [B1] U U1947 [B32,B31,B5,B6,B4,.blk b3 66 B0] W1950:=hS1952
     refine oR Z (zV Z Z Z) (zj ?_ ?_)
     ·refine zU (pv:=[(0,jV (w64 ((w64 (7 * (↑k99:Int))) + x426)))]) (zs:=[jV 0]) (cs:=[jV (w64 ((w64 (7 * (↑k99:Int))) + x426))]) Z Z Z Z Z (wAH Z wAQ) zA zB zt Z Z Z Z Z hS1956 ?_
      intro W1957 b1958 hS1959
      have hS1961:SW w [B1] U U1947 [.row (some ⟨b1958,0,none⟩) 1 3 1 (nA KL.encI [w64 ((w64 (7 * (↑k99:Int))) + x426)]),B32,B31,B5,B6,B4,.blk b3 66 B0] W1957:=hS1959
      have h1976:=hs1937.le le1951
      have h1977:=hr1941.le le1951
      exact ko1448 _ _ ⟨U1947,A1953,c1954,A346,c347,(some ⟨b1958,0,none⟩),1,A346,c347,(some ⟨b1933,0,none⟩),1,B30,f351,f352,f353,f354,f357,f358,f359,rfl,rfl,rfl,rfl,rfl,rfl,rfl,rfl,rfl,rfl,rfl,(le1936.trans le1951),(hS1961.pick [1,3,4,5,6,0,2] _ (by decide) rfl),h1955,h1976,h1976,h1977⟩
     ·refine ZH Z Z Z Z (hS1956.ldB (j:=4) Z Z Z zq (v:=.slice A95 l94.length c96) Z) ?_
      have h1990:=hs1937.le le1951
      have h1991:=hr1941.le le1951
      exact ko1387 _ _ ⟨U1947,A1953,c1954,A346,c347,A346,c347,(some ⟨b1933,0,none⟩),1,B30,f351,f352,f353,f354,f357,f358,f359,rfl,rfl,rfl,rfl,rfl,rfl,rfl,rfl,rfl,rfl,rfl,(le1936.trans le1951),(hS1956.pick [0,2,3,4,5,1] _ (by decide) rfl),h1955,h1990,h1990,h1991⟩
    ·exact ZH rfl rfl rfl rfl (hS1942.ldB (j:=4) rfl rfl rfl zq (v:=.slice A95 l94.length c96) rfl) (ko1646 _ _ ⟨U1935,A346,c347,A346,c347,(some ⟨b1933,0,none⟩),1,B30,f351,f352,f353,f354,f357,f358,f359,rfl,rfl,rfl,rfl,rfl,rfl,rfl,rfl,rfl,le1936,(hS1942.pick [1,2,3,4,5,0] _ (by decide) rfl),hs1937,hs1937,hr1941⟩)
 ·rintro σ2001 W2002 ⟨U2024,A2017,c2018,A2019,c2020,A2021,c2022,c2023,fi2004,f2027,f2028,f2029,f2030,le2025,hS2026,h2031,h2032⟩
  have c2033:Hid (¬ ((↑((x28:Int) - 0).toNat:Int) < x28)):=zD (wAr)
  refine sR fL1 Z (oR Z (zQ Z fi2004 f2030) (eN (zF (cF Z c2033 (ZM (ze (ze (ZI (zH (sR gBt Z ?_))))))))))
  let B33:List Value:=[jV x6,.slice A2019 y107.length c2020,.slice A2021 y108.length c2022]
  refine oL Z (hS2026.ldBA (j:=3) Z Z f2029 Zh ZB (vs:=B33) Z Z) (ZR (j:=4) (vs:=B33) Z Z Z Z hS2026 Z f2028 Z Z ZB (zI Z) Z Z Z ?_)
  intro W2034 hS2035
  have hS2036:SW w [B1] U U2024 [.blk pb0 192 [.slice A2017 y104.length c2018,jV y105,.int .u32 y106],.row A2019 c2020 3 1 (nA KL.encI y107),.row A2021 c2022 22 1 c2023,.blk b22 66 B33,.blk b3 66 B33] W2034:=hS2035
  refine eN (zW ?_)
  cases hm100
  exact ⟨rfl,_,(wMU (v:=.agg B33.toArray) ⟨⟨_,f2028,(wKj Zh ZB (hS2036.blkAt (k:=4) rfl) (vs:=B33) rfl rfl)⟩,trivial⟩),U2024,_,(hS2036.pick [1,2,0] _ (by decide) rfl),A2019,c2020,A2021,c2022,c2023,A2017,c2018,rfl,rfl,h2032,h2031⟩
end Go.Proofs.YtglpalgiipahjaaGreat
namespace Go.Proofs.YtglpalgiipahjaaGreat
open Go.KL
set_option maxHeartbeats 4000000
theorem wCl (p0:List Int) (pA0:Option Addr) (pc0:Nat) (w:World) (U:PHeap) (hS:St0 w U []) (ha0:Sl U 1 pA0 pc0 p0.length (nA KL.encI p0)) {r:(List Int)} (hm:wAm p0=some r):Gv Tryz.prog 50 [.slice pA0 p0.length pc0] w (wCO w [] U (fun U_ L_ v=>∃ (A0:Option Addr) (c0:Nat),v=.slice A0 r.length c0/\L_=[.row A0 c0 3 1 (nA KL.encI r)])):=by
 unfold wAm at hm
 refine Gv.of Tryz.func50 Z Tryz.ntmps50 Tryz.results50 Z (sR fL1 Z (oA Z Z (eN (sR gBw Z (oM Z Z ?_)))))
 have hS1:=hS.nilrow 3 1
 have hS3:sW w U U [.row none 0 3 1 (nA KL.encI ([]:List Int))] w:=hS1
 refine bnK hm fun x4 h5 hm6=>ZO (j:=0) (enc:=KL.encI) (xs:=([]:List Int)) (ys:=p0) (zs:=x4) Z Z Z Z Z zu wCc Z Z Z Z Z Z hS3 Z Z Z (hS3.srcS ha0) (fun _=>Z) (fun _=>Z) h5 Z ?_
 intro A7 c8 W9 hS10
 have hS11:sW w U U [.row A7 c8 3 1 (nA KL.encI x4)] W9:=hS10
 refine oA Z Z (eN (zW ?_))
 have hE:=nB hm6;first | subst r | cases hE
 exact ⟨Z,_,(ZF Z),U,_,hS11,A7,c8,Z,Z⟩
theorem wDd (p0:List (List Int)) (pA0:Option Addr) (pc0:Nat) (w:World) (U:PHeap) (hS:St0 w U []) (ha0:SlR U wBH pA0 pc0 p0) {r:(List (List Int))} (hm:wBC p0=some r):Gv Tryz.prog 67 [.slice pA0 p0.length pc0] w (wCO w [] U (fun U_ L_ v=>∃ (A0:Option Addr) (c0:Nat) (hs0:List Hd),v=.slice A0 r.length c0/\L_=[.row A0 c0 22 1 (nA wBX hs0),inn 3 1 KL.encI hs0 r])):=by
 unfold wBC at hm
 refine Gv.of Tryz.func67 Z Tryz.ntmps67 Tryz.results67 Z (sR fL1 Z (oA Z Z (eN (sR fL1 Z (oA Z Z (eN (zF (sR fL3 Z (oM Z Z (oR Z (zo Z Z zO) (oM Z Z (eN (zS (bnK hm fun y29 hf26 hm25=>?_))))))))))))))
 have q:=wAx hf26
 obtain ⟨hle27,hf28⟩:=q
 replace hle27:=zD hle27
 refine CK.forN' (fun k24 l18 σ_ w_=>∃ (U_:PHeap) (A19:Option Addr) (c20:Nat) (hs23:List Hd),σ_ 8=jV (↑k24:Int)/\σ_ 3=.slice A19 l18.length c20/\σ_ 6=.slice pA0 p0.length pc0/\σ_ 7=jV (↑p0.length:Int)/\PHeap.Le U U_/\sW w U U_ [.row A19 c20 22 1 (nA wBX hs23),inn 3 1 KL.encI hs23 l18] w_) hf28 ?_ ?_ ?_
 ·have hS30:=hS.nilrow 22 1
  have hS32:=hS30.innNil 3 1 KL.encI
  have hS34:sW w U U [inn 3 1 KL.encI ([]:List Hd) ([]:List (List Int)),.row none 0 22 1 []] w:=hS32
  exact ⟨U,none,0,[],rfl,rfl,rfl,rfl,(zG _),(hS34.pick [1,0] _ (by decide) rfl)⟩
 ·rintro k24 l18 xx37 σ35 W36 hk40 ⟨U42,A19,c20,hs23,fi41,f45,f46,f47,le43,hS44⟩ hx38
  have c48:Hid ((↑k24:Int) < (↑p0.length:Int)):=zD (wBT hk40)
  replace hk40:=zD hk40
  have hi49:Hid (w64 ((↑k24:Int) + 1)=(↑(k24 + 1):Int)):=zD (by have h1:=hle27.out;have h2:=c48.out;rw [wAU] <;> omega)
  refine sR fL1 Z (oR Z (zQ Z fi41 f47) (eN (zF (cT Z c48 (kN (zF (zS (sR fL3 Z (bnK hx38 fun x50 h51 hm52=>?_)))))))))
  have h53:=ha0.le le43
  have q:=h53.el (wAZ h51)
  obtain ⟨b54,off55,vs58,hA56,hC57,hr59⟩:=q
  obtain ⟨pA60,pc61,rfl,h62⟩:=hr59
  replace hC57:Cl U42 b54 (off55 + k24 * 1) [.slice pA60 x50.length pc61]:=hC57
  refine oR Z (ZD Z f46 hA56 fi41 zO zN (wCD h51)) (oL Z (hS44.ldC (f:=0) hC57 (v:=.slice pA60 x50.length pc61) Z Z zn Z) (oA Z Z (eN (rR (.fl 0 (.fl 1 (.fx 2 (.fx 3 gBs .stop) .stop))) Z (oM Z f45 (oM Z Z (bnK hm52 fun x63 h64 hm65=>zL 0 Z Z Z Z (zK Z Z Tryz.call50 (zC Z zP) Z) hS44 (fun hs=>wCl x50 pA60 pc61 W36 U42 hs h62 h64) (.inr Z) ?_)))))))
  rintro U66 L67 v68 W69 le70 hS71 ⟨A72,c73,rfl,rfl⟩
  let B0:Res:=.row A19 c20 22 1 (nA wBX hs23)
  let B1:Res:=.row A72 c73 3 1 (nA KL.encI x63)
  have hS75:sW w U U66 [B1,B0,inn 3 1 KL.encI hs23 l18] W69:=hS71
  let B2:List Value:=[.slice A72 x63.length c73]
  refine zU (pv:=[(0,.slice A72 x63.length c73)]) (zs:=[.slice none 0 0]) (cs:=B2) Z Z Z Z Z (wAH Z wAQ) zO zN ZP Z Z Z Z Z hS75 ?_
  intro W79 b80 hS81
  let B3:Res:=.row (some ⟨b80,0,none⟩) 1 22 1 B2
  have hS83:sW w U U66 [B3,B1,B0,inn 3 1 KL.encI hs23 l18] W79:=hS81
  have hS84:sW w U U66 [B1,B3,B0,inn 3 1 KL.encI hs23 l18] W79:=hS83.pick [1,0,2,3] _ (by decide) rfl
  have hS85:=hS84.innOne
  let B4:Res:=.row (some ⟨b80,0,none⟩) 1 22 1 (nA wBX [(⟨A72,x63.length,c73⟩:Hd)])
  have hS87:sW w U U66 [inn 3 1 KL.encI [(⟨A72,x63.length,c73⟩:Hd)] [x63],B4,B0,inn 3 1 KL.encI hs23 l18] W79:=hS85
  refine bnK hm65 fun x88 h89 hm90=>?_
  have hf91:=hS87.innFit (j:=3) rfl
  have hf92:=hS87.innFit (j:=0) rfl
  have q:=wSP h89 hf91 hf92
  obtain ⟨ha93,hz94⟩:=q
  refine ZO (j:=2) (enc:=wBX) (xs:=hs23) (ys:=[(⟨A72,x63.length,c73⟩:Hd)]) rfl rfl rfl rfl rfl Tryz.underlying46 wJJ rfl rfl rfl rfl rfl rfl hS87 rfl (slen rfl hf91) (slen rfl hf92) (hS87.srcR (j:=1) rfl (by decide) (wAB (f:=wBX) (sz:=1) (fun _=>rfl) [(⟨A72,x63.length,c73⟩:Hd)])) (fun _=>rfl) (fun _=>rfl) ha93 rfl ?_
  intro A95 c96 W97 hS98
  have hl99:(hs23 ++ [(⟨A72,x63.length,c73⟩:Hd)]:List Hd).length=x88.length:=by rw [hz94,nN,nN,hf91.len,hf92.len]
  rw [hl99]
  let B5:Res:=.row A95 c96 22 1 (nA wBX (hs23 ++ [(⟨A72,x63.length,c73⟩:Hd)]:List Hd))
  have hS101:sW w U U66 [inn 3 1 KL.encI [(⟨A72,x63.length,c73⟩:Hd)] [x63],B4,B5,inn 3 1 KL.encI hs23 l18] W97:=hS98
  have hS102:sW w U U66 [inn 3 1 KL.encI hs23 l18,inn 3 1 KL.encI [(⟨A72,x63.length,c73⟩:Hd)] [x63],B4,B5] W97:=hS101.pick [3,0,1,2] _ (by decide) rfl
  have hS100:=hS102.innApp
  rw [<- hz94] at hS100
  have hS103:sW w U U66 [inn 3 1 KL.encI (hs23 ++ [(⟨A72,x63.length,c73⟩:Hd)]:List Hd) x88,B4,B5] W97:=hS100
  have hS104:=hS103.drop 1
  have hS105:sW w U U66 [inn 3 1 KL.encI (hs23 ++ [(⟨A72,x63.length,c73⟩:Hd)]:List Hd) x88,B5] W97:=hS104
  refine oA Z Z (zx (zZ (zH (rR fL2 Z (oR Z (zz (zV Z fi41 Z) (congrArg (jV) hi49.out)) (oM Z Z (zx ?_)))))))
  cases hm90
  exact zH ⟨rfl,⟨U66,A95,c96,(hs23 ++ [(⟨A72,x63.length,c73⟩:Hd)]:List Hd),rfl,rfl,f46,f47,(le43.trans le70),(hS105.pick [1,0] _ (by decide) rfl)⟩⟩
 ·rintro σ110 W111 ⟨U121,A118,c119,h120,fi113,f124,f125,f126,le122,hS123⟩
  have c127:Hid (¬ ((↑(((↑p0.length:Int):Int) - 0).toNat:Int) < (↑p0.length:Int))):=zD (wAr)
  refine sR fL1 Z (oR Z (zQ Z fi113 f126) (eN (zF (cF Z c127 (ZM (ze (ze (ZI (zH (sR fL2 Z (oM Z f124 (oA Z Z (eN (zW ?_))))))))))))))
  have hE:=nB hm25;first | subst r | cases hE
  exact ⟨Z,_,(ZF Z),U121,_,hS123,A118,c119,h120,Z,Z⟩
theorem wAS (p0:wAD) (pA0_1:Option Addr) (pc0_1:Nat) (pA0_2:Option Addr) (pc0_2:Nat) (w:World) (U:PHeap) (hS:St0 w U []) (ha0:Sl U 1 pA0_1 pc0_1 p0.Bibs.length (nA KL.encI p0.Bibs)) (ha1:SlR U wBH pA0_2 pc0_2 p0.Times) {r:wAD} (hm:wBZ p0=some r):Gv Tryz.prog 76 [.agg #[jV p0.Laps,.slice pA0_1 p0.Bibs.length pc0_1,.slice pA0_2 p0.Times.length pc0_2]] w (wCO w [] U (fun U_ L_ v=>∃ (A01:Option Addr) (c01:Nat) (A02:Option Addr) (c02:Nat) (hs02:List Hd),v=.agg #[jV r.Laps,.slice A01 r.Bibs.length c01,.slice A02 r.Times.length c02]/\L_=[.row A01 c01 3 1 (nA KL.encI r.Bibs),.row A02 c02 22 1 (nA wBX hs02),inn 3 1 KL.encI hs02 r.Times])):=by
 unfold wBZ at hm
 refine Gv.of Tryz.func76 Z Tryz.ntmps76 Tryz.results76 Z (sR gBu Z ?_)
 let B0:List Value:=[jV p0.Laps,.slice pA0_1 p0.Bibs.length pc0_1,.slice pA0_2 p0.Times.length pc0_2]
 refine Zl (cs:=B0) rfl rfl rfl rfl rfl rfl (by rfl) hS ?_
 intro W1 b2 hS3
 let B1:List Value:=[jV 0,.slice none 0 0,.slice none 0 0]
 refine zw (cs:=B1) Z Z Z Z Z zd Z hS3 ?_
 intro W5 b6 hS7
 refine eN (zF (Ze Za [3,1,3,1,2,3,1,2,3,0] (wHL (.fl 5 (.fl 6 (.fx 4 (.fx 7 (.fl 8 (.fx 9 .nil .stop)) .stop) .stop)))) (by kernel_rfl) ?_))
 have hS9:=hS7.drew
 generalize hw_W10:({ W5 with drawn:=W5.drawn + 1 }:World)=W10 at hS9 ⊢
 refine oR Z (zX Z Z zM Z zB) (oL Z (hS9.ldB (j:=1) Z Z Z zJ (v:=jV p0.Laps) Z) (oR Z (zX Z Z zM Z zN) (oL Z (hS9.ldB (j:=1) Z Z Z zn (v:=.slice pA0_1 p0.Bibs.length pc0_1) Z) (oR Z (zX Z Z zM Z ZX) (oL Z (hS9.ldB (j:=1) Z Z Z zq (v:=.slice pA0_2 p0.Times.length pc0_2) Z) (bnK hm fun x11 h12 hm13=>zL 0 Z Z Z Z (zK Z Z Tryz.call50 (zC Z zP) Z) hS9 (fun hs=>wCl p0.Bibs pA0_1 pc0_1 W10 U hs ha0 h12) (.inr Z) ?_))))))
 rintro U14 L15 v16 W17 le18 hS19 ⟨A20,c21,rfl,rfl⟩
 let B2:Res:=.row A20 c21 3 1 (nA KL.encI x11)
 have hS23:sW w U U14 [B2,.blk b6 66 B1,.blk b2 66 B0] W17:=hS19
 have h24:=ha1.le le18
 refine bnK hm13 fun x25 h26 hm27=>zL 0 Z Z Z Z (zK Z Z Tryz.call67 (zC Z zP) Z) hS23 (fun hs=>wDd p0.Times pA0_2 pc0_2 W17 U14 hs h24 h26) (.inr Z) ?_
 rintro U28 L29 v30 W31 le32 hS33 ⟨A34,c35,h36,rfl,rfl⟩
 let B3:Res:=.row A34 c35 22 1 (nA wBX h36)
 have hS39:sW w U U28 [B3,inn 3 1 KL.encI h36 x25,B2,.blk b6 66 B1,.blk b2 66 B0] W31:=hS33
 let B4:List Value:=[jV p0.Laps,.slice A20 x11.length c21,.slice A34 x25.length c35]
 refine oR Z (Zd (pv:=[(0,jV p0.Laps),(1,.slice A20 x11.length c21),(2,.slice A34 x25.length c35)]) (z:=B1) (cs:=B4) Z (wAH Z (wAH Z (wAH Z wAQ))) zd wCi Z Z) (ZR (j:=3) (vs:=B4) Z Z Z Z hS39 Z Z Z Z ZB (zI Z) Z Z Z ?_)
 intro W40 hS41
 have hS42:sW w U U28 [B3,inn 3 1 KL.encI h36 x25,B2,.blk b6 66 B4,.blk b2 66 B0] W40:=hS41
 refine eN (zW ?_)
 cases hm27
 exact ⟨rfl,_,(wMU (v:=.agg B4.toArray) ⟨⟨_,rfl,(wKj Zh ZB (hS42.blkAt (k:=3) rfl) (vs:=B4) rfl rfl)⟩,trivial⟩),U28,_,(hS42.pick [2,0,1] _ (by decide) rfl),A20,c21,A34,c35,h36,rfl,rfl⟩
theorem wFH (p0:List Int) (pA0:Option Addr) (pc0:Nat) (p1:wAD) (pb1:Nat) (pA1_1:Option Addr) (pc1_1:Nat) (pA1_2:Option Addr) (pc1_2:Nat) (w:World) (U:PHeap) (hS:St0 w U []) (ha0:Sl U 1 pA0 pc0 p0.length (nA KL.encI p0)) (ha1:Cl U pb1 0 [jV p1.Laps,.slice pA1_1 p1.Bibs.length pc1_1,.slice pA1_2 p1.Times.length pc1_2]) (ha2:Sl U 1 pA1_1 pc1_1 p1.Bibs.length (nA KL.encI p1.Bibs)) (ha3:SlR U wBH pA1_2 pc1_2 p1.Times) {r:Bool} (hm:wBO p0 p1=some r):Gv Tryz.prog 179 [.slice pA0 p0.length pc0,.pointer (some ⟨pb1,0,none⟩)] w (wCO w [] U (fun U_ L_ v=>v=.bool r/\L_=[])):=by
 unfold wBO at hm
 refine Gv.of Tryz.func179 Z Tryz.ntmps179 Tryz.results179 Z (sR fL1 Z (oA Z Z (eN (sR fL6 Z (oM Z Z (oR Z (zo Z Z zA) (oR Z (zX Z Z zM Z zB) (oL Z (hS.ldC (f:=0) ha1 (v:=jV p1.Laps) Z Z zJ Z) (oR Z (Runs.leq Z Z Z) (oA Z Z (eN (zW ?_))))))))))))
 cases hm
 exact ⟨Z,_,(ZF Z),U,_,hS,Z,Z⟩
theorem wDQ (p0:List (List Int)) (pA0:Option Addr) (pc0:Nat) (p1:((List Int)->Option Bool)) (pv1:Value) (w:World) (U:PHeap) (hS:St0 w U []) (ha0:SlR U wBH pA0 pc0 p0) (ha1:FnOK Tryz.prog U pv1 wRX wRY p1) {r:Bool} (hm:wBP p0 p1=some r):Gv Tryz.prog 178 [.slice pA0 p0.length pc0,pv1] w (wCO w [] U (fun U_ L_ v=>v=.bool r/\L_=[])):=by
 unfold wBP at hm
 refine Gv.of Tryz.func178 Z Tryz.ntmps178 Tryz.results178 Z (sR fL1 Z (oA Z Z (eN (zF (sR fL3 Z (oM Z Z (oR Z (zo Z Z zO) (oM Z Z (eN (zS ?_))))))))))
 have q:=wDL hm
 obtain ⟨r3,hX4⟩:=q
 have q:=wDK hX4
 obtain ⟨hle5,hf6⟩:=q
 replace hle5:=zD hle5
 refine CK.forN (fun k2 _ σ_ w_=>∃ (U_:PHeap),σ_ 9=jV (↑k2:Int)/\σ_ 1=pv1/\σ_ 7=.slice pA0 p0.length pc0/\σ_ 8=jV (↑p0.length:Int)/\PHeap.Le U U_/\sW w U U_ [] w_) hf6 ?_ ?_ ?_
 ·exact ⟨U,Z,Z,Z,Z,(zG _),hS⟩
 ·rintro k2 ⟨⟩ xx9 σ7 W8 hk12 ⟨U14,fi13,f17,f18,f19,le15,hS16⟩ hx10 hb11
  try dsimp only at hx10
  have c20:Hid ((↑k2:Int) < (↑p0.length:Int)):=zD (wBT hk12)
  replace hk12:=zD hk12
  have hi21:Hid (w64 ((↑k2:Int) + 1)=(↑(k2 + 1):Int)):=zD (by have h1:=hle5.out;have h2:=c20.out;rw [wAU] <;> omega)
  refine sR fL1 Z (oR Z (zQ Z fi13 f19) (eN (zF (cT Z c20 (kN (zF (zS (sR fL3 Z (bnK hx10 fun x22 h23 hm24=>?_)))))))))
  have h25:=ha0.le le15
  have q:=h25.el (wAZ h23)
  obtain ⟨b26,off27,vs30,hA28,hC29,hr31⟩:=q
  obtain ⟨pA32,pc33,rfl,h34⟩:=hr31
  replace hC29:Cl U14 b26 (off27 + k2 * 1) [.slice pA32 x22.length pc33]:=hC29
  refine oR Z (ZD Z f18 hA28 fi13 zO zN (wCD h23)) (oL Z (hS16.ldC (f:=0) hC29 (v:=.slice pA32 x22.length pc33) Z Z zn Z) (oA Z Z (eN (sR gCa Z (oM Z f17 (oM Z Z (bnK hm24 fun x35 h36 hm37=>?_)))))))
  have h44:=ha1.le le15
  refine OKS.callV (a:=x22) Z Z Z Z Z Z (zC Z zP) hS16 h44 ⟨pA32,pc33,Z,h34⟩ h36 ?_
  rintro U38 L39 v40 W41 le42 hS43 ⟨rfl,rfl⟩
  have hS45:sW w U U38 [] W41:=hS43
  refine oR Z (Zf Z Z) (eN (ifc hm37 ?_ ?_))
  ·intro c46 hm47
   refine ZG (nC c46.out) (ZV (zZ (zH (rR fL2 Z (oR Z (zz (zV Z fi13 Z) (congrArg (jV) hi21.out)) (oM Z Z (zx ?_)))))))
   obtain rfl:=nB hm47
   exact zH ⟨Z,_,Z,⟨U38,Z,f17,f18,f19,(le15.trans le42),hS45⟩⟩
  ·intro c46 hm48
   refine ZK (nF (c46.out)) (sR fL1 Z (oA Z Z (eN (zW (ZJ (zk ?_))))))
   have q:=wCP hm48
   obtain ⟨v49,hm50,e51⟩:=q
   obtain rfl:=wEJ hm hX4 (hb11 v49 e51)
   refine zk (ZJ (zk ?_))
   have hE:=nB hm50;first | subst r | cases hE
   exact ⟨Z,_,(ZF Z),U38,_,hS45,Z,Z⟩
 ·rintro ⟨⟩ σ52 W53 ⟨U56,fi55,f59,f60,f61,le57,hS58⟩ hb54
  have hm62:=wEI hm hX4 hb54
  try dsimp only at hm62
  have c63:Hid (¬ ((↑(((↑p0.length:Int):Int) - 0).toNat:Int) < (↑p0.length:Int))):=zD (wAr)
  refine sR fL1 Z (oR Z (zQ Z fi55 f61) (eN (zF (cF Z c63 (ZM (ze (ze (ZI (zH (sR fL1 Z (oA Z Z (eN (zW ?_)))))))))))))
  have hE:=nB hm62;first | subst r | cases hE
  exact ⟨Z,_,(ZF Z),U56,_,hS58,Z,Z⟩
theorem wFI (p0:Int) (w:World) (U:PHeap) (hS:St0 w U [])  {r:Bool} (hm:wBQ p0=some r):Gv Tryz.prog 181 [jV p0] w (wCO w [] U (fun U_ L_ v=>v=.bool r/\L_=[])):=by
 unfold wBQ at hm
 refine Gv.of Tryz.func181 Z Tryz.ntmps181 Tryz.results181 Z (sR fL1 Z (oA Z Z (eN (sR gBw Z (oM Z Z (bnK hm fun x1 h2 hm3=>zL 0 Z Z Z Z (zK Z Z Tryz.call142 (zC Z (zC Z (zC Z zP))) Z) hS (fun hs=>wCr p0 1 999 w U hs h2) (.inr Z) ?_))))))
 rintro U4 L5 v6 W7 le8 hS9 ⟨rfl,rfl⟩
 have hS10:sW w U U4 [] W7:=hS9
 refine oA Z Z (eN (zW ?_))
 have hE:=nB hm3;first | subst r | cases hE
 exact ⟨Z,_,(ZF Z),U4,_,hS10,Z,Z⟩
theorem wEU (p0:Int) (w:World) (U:PHeap) (hS:St0 w U [])  {r:Bool} (hm:wBE p0=some r):Gv Tryz.prog 183 [jV p0] w (wCO w [] U (fun U_ L_ v=>v=.bool r/\L_=[])):=by
 unfold wBE at hm
 refine Gv.of Tryz.func183 Z Tryz.ntmps183 Tryz.results183 Z (sR fL1 Z (oA Z Z (eN (sR gBw Z (oM Z Z (bnK hm fun x1 h2 hm3=>zL 0 Z Z Z Z (zK Z Z Tryz.call142 (zC Z (zC Z (zC Z zP))) Z) hS (fun hs=>wCr p0 0 360000 w U hs h2) (.inr Z) ?_))))))
 rintro U4 L5 v6 W7 le8 hS9 ⟨rfl,rfl⟩
 have hS10:sW w U U4 [] W7:=hS9
 refine oA Z Z (eN (zW ?_))
 have hE:=nB hm3;first | subst r | cases hE
 exact ⟨Z,_,(ZF Z),U4,_,hS10,Z,Z⟩
theorem wFJ (p0:List Int) (pA0:Option Addr) (pc0:Nat) (w:World) (U:PHeap) (hS:St0 w U []) (ha0:Sl U 1 pA0 pc0 p0.length (nA KL.encI p0)) {r:Bool} (hm:wBR p0=some r):Gv Tryz.prog 182 [.slice pA0 p0.length pc0] w (wCO w [] U (fun U_ L_ v=>v=.bool r/\L_=[])):=by
 unfold wBR at hm
 refine Gv.of Tryz.func182 Z Tryz.ntmps182 Tryz.results182 Z (sR fL1 Z (oA Z Z (eN (sR gBw Z (oM Z Z ?_)))))
 have hF1:FnOK Tryz.prog U (.func (.func 183) #[] #[]) wHB wIH wBE:=⟨183,[],[],rfl,Tryz.call183,fun U1 w1 x y vs le hs ha hm=>by obtain rfl:=ha;exact wEU x w1 U1 hs  hm⟩
 refine bnK hm fun x2 h3 hm4=>zL 0 Z Z Z Z (zK Z Z Tryz.call180 (zC Z (zC Z zP)) Z) hS (fun hs=>wCN p0 pA0 pc0 wBE (.func (.func 183) #[] #[]) w U hs ha0 hF1 h3) (.inr Z) ?_
 rintro U5 L6 v7 W8 le9 hS10 ⟨rfl,rfl⟩
 have hS11:sW w U U5 [] W8:=hS10
 refine oA Z Z (eN (zW ?_))
 have hE:=nB hm4;first | subst r | cases hE
 exact ⟨Z,_,(ZF Z),U5,_,hS11,Z,Z⟩
theorem wDk (p0:wAD) (pA0_1:Option Addr) (pc0_1:Nat) (pA0_2:Option Addr) (pc0_2:Nat) (w:World) (U:PHeap) (hS:St0 w U []) (ha0:Sl U 1 pA0_1 pc0_1 p0.Bibs.length (nA KL.encI p0.Bibs)) (ha1:SlR U wBH pA0_2 pc0_2 p0.Times) {r:Int} (hm:wBo p0=some r):Gv Tryz.prog 106 [.agg #[jV p0.Laps,.slice pA0_1 p0.Bibs.length pc0_1,.slice pA0_2 p0.Times.length pc0_2]] w (wCO w [] U (fun U_ L_ v=>v=jV r/\L_=[])):=by
 unfold wBo at hm
 refine Gv.of Tryz.func106 Z Tryz.ntmps106 Tryz.results106 Z (sR gBp Z ?_)
 let B0:List Value:=[jV p0.Laps,.slice pA0_1 p0.Bibs.length pc0_1,.slice pA0_2 p0.Times.length pc0_2]
 refine Zl (cs:=B0) rfl rfl rfl rfl rfl rfl (by rfl) hS ?_
 intro W1 b2 hS3
 have q:=hS3.freeze (k:=0) rfl
 obtain ⟨U5,le6,hC7,hS8⟩:=q
 replace hC7:=Cl.of hC7
 have hS9:sW w U U5 [] W1:=hS8
 replace hC7:Cl U5 b2 0 B0:=hC7
 refine oA Z Z (eN (zF (zS (sR (.fl 0 (.fl 1 (.fx 2 (wTc (.fx 23 (wRs (.nil)) .stop)) .stop))) Z (oR Z (zX Z Z zM Z zB) (oL Z (hS9.ldC (f:=0) hC7 (v:=jV p0.Laps) Z Z zJ Z) (bnK hm fun x10 h11 hm12=>zL 0 Z Z Z Z (zK Z Z Tryz.call142 (zC Z (zC Z (zC Z zP))) Z) hS9 (fun hs=>wCr p0.Laps 1 20 W1 U5 hs h11) (.inr Z) ?_)))))))
 rintro U13 L14 v15 W16 le17 hS18 ⟨rfl,rfl⟩
 have hS19:sW w U U13 [] W16:=hS18
 refine oR Z (Zf Z Z) (oM Z Z (ifc hm12 ?_ ?_))
 ·intro c20 hm21
  refine zY Z Z Z (zm Z Z (nC c20.out)) (fun _=>zX Z Z zM Z zN) ?_
  have h22:=hC7.le le17
  refine ZC Z Z Z (zm Z Z (nC c20.out)) (hS19.ldC (f:=1) h22 (v:=.slice pA0_1 p0.Bibs.length pc0_1) Z Z zn Z) Z (zY Z Z Z (zm Z Z (nC c20.out)) (fun _=>zo Z Z zA) (zY Z Z Z (zm Z Z (nC c20.out)) (fun _=>Runs.gtr Z Z Z) (oR Z (zh Z (nC c20.out) Z) (oM Z Z (ifc hm21 ?_ ?_)))))
  ·intro c23 hm24
   refine oT Z c23 (oT Z c23 (oT Z c23 (oT Z c23 (oT Z c23 (oT Z c23 (oT Z c23 (oR Z (zg Z (Zj c23.out) Z) (oM Z Z (oN Z (oN Z (oN Z (Zk Z Z Z (zy Z Z Z Z) (oN Z (oR Z (zg Z Z Z) (oA Z Z (eN (ZK Z (sR fL1 Z (oA Z Z (eN (zW (ZJ (zk ?_)))))))))))))))))))))))
   cases hm24
   exact ⟨Z,_,(ZF Z),U13,_,hS19,Z,Z⟩
  ·intro c23 hm25
   refine rU Z (wF Z c23) (zX Z Z zM Z ZX) (ZC Z Z Z (wF Z c23) (hS19.ldC (f:=2) h22 (v:=.slice pA0_2 p0.Times.length pc0_2) Z Z zq Z) Z (rU Z (wF Z c23) (zo Z Z zO) (rU Z (wF Z c23) (zX Z Z zM Z zN) (ZC Z Z Z (wF Z c23) (hS19.ldC (f:=1) h22 (v:=.slice pA0_1 p0.Bibs.length pc0_1) Z Z zn Z) Z (rU Z (wF Z c23) (zo Z Z zA) (rU Z (wF Z c23) (Zp Z Z Z) (oR Z (zh Z (ZU c23.out) Z) (oM Z Z (ifc hm25 ?_ ?_)))))))))
   ·intro c26 hm27
    refine zY Z Z Z (zm Z Z (ZU (fun h=>h c26.out))) (fun _=>zX Z Z zM Z ZX) (ZC Z Z Z (zm Z Z (ZU (fun h=>h c26.out))) (hS19.ldC (f:=2) h22 (v:=.slice pA0_2 p0.Times.length pc0_2) Z Z zq Z) Z (zY Z Z Z (zm Z Z (ZU (fun h=>h c26.out))) (fun _=>Runs.mkf Z zP (zC Z zP)) ?_))
    have h28:=ha1.le le6
    have h29:=h28.le le17
    have h30:=ha0.le le6
    have h31:=h30.le le17
    have hF32:FnOK Tryz.prog U13 (.func (.func 179) #[] #[.pointer (some ⟨b2,0,none⟩)]) wRX wRY (fun x=>wBO x p0):=⟨179,[],[.pointer (some ⟨b2,0,none⟩)],rfl,Tryz.call179,fun U1 w1 x y vs le hs ha hm=>by obtain ⟨pA_0,pc_0,rfl,hq0_0⟩:=ha;exact wFH x pA_0 pc_0 p0 b2 pA0_1 pc0_1 pA0_2 pc0_2 w1 U1 hs hq0_0 (h22.le le) (h31.le le) (h29.le le) hm⟩
    refine bnK hm27 fun x33 h34 hm35=>zL 0 Z Z Z (zm Z Z (ZU (fun h=>h c26.out))) (zK Z Z Tryz.call178 (zC Z (zC Z zP)) Z) hS19 (fun hs=>wDQ p0.Times pA0_2 pc0_2 (fun x=>wBO x p0) (.func (.func 179) #[] #[.pointer (some ⟨b2,0,none⟩)]) W16 U13 hs h29 hF32 h34) (.inr Z) ?_
    rintro U36 L37 v38 W39 le40 hS41 ⟨rfl,rfl⟩
    have hS42:sW w U U36 [] W39:=hS41
    refine zY Z Z Z (zm Z Z (ZU (fun h=>h c26.out))) (fun _=>Zf Z Z) (oR Z (zh Z (ZU (fun h=>h c26.out)) Z) (oA Z Z (eN (ifc hm35 ?_ ?_))))
    ·intro c43 hm44
     refine ZG (nC c43.out) (sR (.fl 0 (.fl 1 (.fx 2 (fC3_6 (.fx 7 (wTd (.nil)) .stop)) .stop))) Z (oR Z (zX Z Z zM Z zN) ?_))
     have h45:=h22.le le40
     refine oL Z (hS42.ldC (f:=1) h45 (v:=.slice pA0_1 p0.Bibs.length pc0_1) Z Z zn Z) ?_
     have h46:=h31.le le40
     have hF47:FnOK Tryz.prog U36 (.func (.func 181) #[] #[]) wHB wIH wBQ:=⟨181,[],[],rfl,Tryz.call181,fun U1 w1 x y vs le hs ha hm=>by obtain rfl:=ha;exact wFI x w1 U1 hs  hm⟩
     refine bnK hm44 fun x48 h49 hm50=>zL 0 Z Z Z Z (zK Z Z Tryz.call180 (zC Z (zC Z zP)) Z) hS42 (fun hs=>wCN p0.Bibs pA0_1 pc0_1 wBQ (.func (.func 181) #[] #[]) W39 U36 hs h46 hF47 h49) (.inr Z) ?_
     rintro U51 L52 v53 W54 le55 hS56 ⟨rfl,rfl⟩
     have hS57:sW w U U51 [] W54:=hS56
     refine oR Z (Zf Z Z) (oM Z Z (ifc hm50 ?_ ?_))
     ·intro c58 hm59
      refine zY Z Z Z (zm Z Z (nC c58.out)) (fun _=>zX Z Z zM Z ZX) ?_
      have h60:=h45.le le55
      refine ZC Z Z Z (zm Z Z (nC c58.out)) (hS57.ldC (f:=2) h60 (v:=.slice pA0_2 p0.Times.length pc0_2) Z Z zq Z) Z ?_
      have h61:=h29.le le40
      have h62:=h61.le le55
      have hF63:FnOK Tryz.prog U51 (.func (.func 182) #[] #[]) wRX wRY wBR:=⟨182,[],[],rfl,Tryz.call182,fun U1 w1 x y vs le hs ha hm=>by obtain ⟨pA_0,pc_0,rfl,hq0_0⟩:=ha;exact wFJ x pA_0 pc_0 w1 U1 hs hq0_0 hm⟩
      refine bnK hm59 fun x64 h65 hm66=>zL 0 Z Z Z (zm Z Z (nC c58.out)) (zK Z Z Tryz.call178 (zC Z (zC Z zP)) Z) hS57 (fun hs=>wDQ p0.Times pA0_2 pc0_2 wBR (.func (.func 182) #[] #[]) W54 U51 hs h62 hF63 h65) (.inr Z) ?_
      rintro U67 L68 v69 W70 le71 hS72 ⟨rfl,rfl⟩
      have hS73:sW w U U67 [] W70:=hS72
      refine zY Z Z Z (zm Z Z (nC c58.out)) (fun _=>Zf Z Z) (oR Z (zh Z (nC c58.out) Z) (oA Z Z (eN (ifc hm66 ?_ ?_))))
      ·intro c74 hm75
       refine ZG (nC c74.out) (sR gCa Z (oR Z (zX Z Z zM Z zN) ?_))
       have h76:=h60.le le71
       refine oL Z (hS73.ldC (f:=1) h76 (v:=.slice pA0_1 p0.Bibs.length pc0_1) Z Z zn Z) ?_
       have h77:=h46.le le55
       have h78:=h77.le le71
       refine bnK hm75 fun x79 h80 hm81=>zL 0 Z Z Z Z (zK Z Z Tryz.call184 (zC Z zP) Z) hS73 (fun hs=>wDv p0.Bibs pA0_1 pc0_1 W70 U67 hs h78 h80) (.inr Z) ?_
       rintro U82 L83 v84 W85 le86 hS87 ⟨rfl,rfl⟩
       have hS88:sW w U U82 [] W85:=hS87
       refine oA Z Z (eN (ifc hm81 ?_ ?_))
       ·intro c89 hm90
        refine ZK (congrArg nD c89.out) (sR fL1 Z (oA Z Z (eN (zW (ZJ (zk ?_))))))
        cases hm90
        exact ⟨Z,_,(ZF Z),U82,_,hS88,Z,Z⟩
       ·intro c89 hm91
        refine ZG (congrArg nD (nE.2 c89.out)) (ZV (zZ (zH (zF (zF (CK.fresh fun σ92 hσ93=>?_))))))
        have f94:σ92 1=.pointer (some ⟨b2,0,none⟩):=(hσ93 1).trans rfl
        clear hσ93
        refine rR fL4 Z (oR Z (zX Z f94 zM Z ZX) ?_)
        have h95:=h76.le le86
        refine oL Z (hS88.ldC (f:=2) h95 (v:=.slice pA0_2 p0.Times.length pc0_2) Z Z zq Z) (oR Z (zo Z Z zO) (oM Z Z (eN (zS ?_))))
        have q:=wDL hm91
        obtain ⟨r98,hX99⟩:=q
        have q:=wDK hX99
        obtain ⟨hle100,hf101⟩:=q
        replace hle100:=zD hle100
        refine CK.forN (fun k97 _ σ_ w_=>∃ (U_:PHeap),σ_ 51=jV (↑k97:Int)/\σ_ 49=.slice pA0_2 p0.Times.length pc0_2/\σ_ 50=jV (↑p0.Times.length:Int)/\PHeap.Le U82 U_/\sW w U U_ [] w_) hf101 ?_ ?_ ?_
        ·exact ⟨U82,Z,Z,Z,(zG _),hS88⟩
        ·rintro k97 ⟨⟩ xx104 σ102 W103 hk107 ⟨U109,fi108,f112,f113,le110,hS111⟩ hx105 hb106
         try dsimp only at hx105
         have c114:Hid ((↑k97:Int) < (↑p0.Times.length:Int)):=zD (wBT hk107)
         replace hk107:=zD hk107
         have hi115:Hid (w64 ((↑k97:Int) + 1)=(↑(k97 + 1):Int)):=zD (by have h1:=hle100.out;have h2:=c114.out;rw [wAU] <;> omega)
         refine sR fL1 Z (oR Z (zQ Z fi108 f113) (eN (zF (cT Z c114 (kN (zF (zS (sR fL3 Z (bnK hx105 fun x116 h117 hm118=>?_)))))))))
         have h119:=h62.le le71
         have h120:=h119.le le86
         have h121:=h120.le le110
         have q:=h121.el (wAZ h117)
         obtain ⟨b122,off123,vs126,hA124,hC125,hr127⟩:=q
         obtain ⟨pA128,pc129,rfl,h130⟩:=hr127
         replace hC125:Cl U109 b122 (off123 + k97 * 1) [.slice pA128 x116.length pc129]:=hC125
         refine oR Z (ZD Z f112 hA124 fi108 zO zN (wCD h117)) (oL Z (hS111.ldC (f:=0) hC125 (v:=.slice pA128 x116.length pc129) Z Z zn Z) (oA Z Z (eN (sR fL1 Z (oA Z Z (eN (zS ?_)))))))
         have q:=wDL hm118
         obtain ⟨r133,hX134⟩:=q
         have q:=wDK hX134
         obtain ⟨hle135,hf136⟩:=q
         replace hle135:=zD hle135
         refine CK.forN (fun k132 _ σ_ w_=>∃ (U_:PHeap),σ_ 5=jV (1 + ↑k132:Int)/\σ_ 4=.slice pA128 x116.length pc129/\σ_ 49=.slice pA0_2 p0.Times.length pc0_2/\σ_ 50=jV (↑p0.Times.length:Int)/\σ_ 51=jV (↑k97:Int)/\PHeap.Le U109 U_/\sW w U U_ [] w_) hf136 ?_ ?_ ?_
         ·exact ⟨U109,Z,Z,f112,f113,fi108,(zG _),hS111⟩
         ·rintro k132 ⟨⟩ xx139 σ137 W138 hk142 ⟨U144,fi143,f147,f148,f149,f150,le145,hS146⟩ hx140 hb141
          try dsimp only at hx140
          have c151:Hid ((1 + ↑k132:Int) < (↑x116.length:Int)):=zD (wSH hk142)
          replace hk142:=zD hk142
          have hi152:Hid (w64 ((1 + ↑k132:Int) + 1)=(1 + ↑(k132 + 1):Int)):=zD (by have h1:=hle135.out;have h2:=c151.out;rw [wAU] <;> omega)
          refine zF (sR fL4 rfl (zR rfl rfl rfl rfl rfl fi143 (zR rfl rfl rfl rfl rfl f147 (zY rfl rfl rfl rfl (fun _=>zo rfl rfl zA) (zY rfl rfl rfl rfl (fun _=>zQ rfl rfl rfl) (eN (cT Z c151 (kN (zF (zS (zF (Ze Za [3,3,3,1,3,3,3,3,1,3] fL10 (by kernel_rfl) ?_))))))))))))
          have hS153:=hS146.drew
          generalize hw_W154:({ W138 with drawn:=W138.drawn + 1 }:World)=W154 at hS153 ⊢
          refine oM Z f147 (oM Z fi143 (bnK hx140 fun x155 h156 hm157=>?_))
          have h158:=h130.le le145
          have q:=h158.el (fun _=>rfl) (wAZ h156)
          obtain ⟨b159,off160,hA161,hC162⟩:=q
          refine oR Z (ZS Z Z hA161 Z zA zB (wCC h156) (wCG h156)) (oL Z (hS153.ldC (f:=0) hC162 (v:=jV x155) Z Z zJ Z) (oM Z f147 (oM Z fi143 (oR Z (Zn Z Z Z) (bnK hm157 fun x163 h164 hm165=>?_)))))
          have q:=h158.el (fun _=>rfl) (wAZ h164)
          obtain ⟨b166,off167,hA168,hC169⟩:=q
          refine oR Z (ZS Z Z hA168 Z zA zB (wCC h164) (wCG h164)) (oL Z (hS153.ldC (f:=0) hC169 (v:=jV x163) Z Z zJ Z) (oR Z (Runs.leq Z Z Z) (eN (ifc hm165 ?_ ?_))))
          ·intro c170 hm171
           refine cT Z c170 (sR fL1 Z (oA Z Z (eN (zW (ZJ (zk ?_))))))
           have q:=wCP hm171
           obtain ⟨v172,hm173,e174⟩:=q
           obtain rfl:=wEJ hm118 hX134 (hb141 v172 e174)
           refine zk (ZJ (ZJ (zk ?_)))
           have q:=wCP hm173
           obtain ⟨v175,hm176,e177⟩:=q
           obtain rfl:=wEJ hm91 hX99 (hb106 v175 e177)
           refine zk (ZJ (zk ?_))
           cases hm176
           exact ⟨Z,_,(ZF Z),U144,_,hS153,Z,Z⟩
          ·intro c170 hm178
           refine cF Z c170 (ZV (zZ (zH (rR fL3 Z (oM Z fi143 (oR Z (zz (zV Z Z Z) (congrArg (jV) hi152.out)) (oA Z Z (zx ?_))))))))
           obtain rfl:=nB hm178
           exact zH ⟨Z,_,Z,⟨U144,Z,f147,f148,f149,f150,le145,hS153⟩⟩
         ·rintro ⟨⟩ σ179 W180 ⟨U183,fi182,f186,f187,f188,f189,le184,hS185⟩ hb181
          have hm190:=wEI hm118 hX134 hb181
          try dsimp only at hm190
          have c191:Hid (¬ ((1 + ↑(((↑x116.length:Int):Int) - 1).toNat:Int) < (↑x116.length:Int))):=zD (wPw)
          refine zF (sR fL4 Z (oM Z fi182 (oM Z f186 (oR Z (zo Z Z zA) (oR Z (zQ Z Z Z) (eN (cF Z c191 (ZM (ze (ze (ZI (zZ (zH (rR fL2 Z (oR Z (zz (zV Z f189 Z) (congrArg (jV) hi115.out)) (oM Z Z (zx ?_)))))))))))))))))
          obtain rfl:=nB hm190
          exact zH ⟨Z,_,Z,⟨U183,Z,f187,f188,(le110.trans le184),hS185⟩⟩
        ·rintro ⟨⟩ σ192 W193 ⟨U196,fi195,f199,f200,le197,hS198⟩ hb194
         have hm201:=wEI hm91 hX99 hb194
         try dsimp only at hm201
         have c202:Hid (¬ ((↑(((↑p0.Times.length:Int):Int) - 0).toNat:Int) < (↑p0.Times.length:Int))):=zD (wAr)
         refine sR fL1 Z (oR Z (zQ Z fi195 f200) (eN (zF (cF Z c202 (ZM (ze (ze (ZI (zH (sR fL1 Z (oA Z Z (eN (zW ?_)))))))))))))
         cases hm201
         exact ⟨Z,_,(ZF Z),U196,_,hS198,Z,Z⟩
      ·intro c74 hm203
       refine ZK (nF (c74.out)) (sR fL1 Z (oA Z Z (eN (zW (ZJ (zk ?_))))))
       cases hm203
       exact ⟨Z,_,(ZF Z),U67,_,hS73,Z,Z⟩
     ·intro c58 hm204
      refine zf Z Z Z (zy Z Z (nF (c58.out)) Z) (zf Z Z Z (zy Z Z (nF (c58.out)) Z) (Zk Z Z Z (zy Z Z (nF (c58.out)) Z) (zf Z Z Z (zy Z Z (nF (c58.out)) Z) (oR Z (zg Z (nF (c58.out)) Z) (oA Z Z (eN (ZK Z (sR fL1 Z (oA Z Z (eN (zW (ZJ (zk ?_)))))))))))))
      cases hm204
      exact ⟨Z,_,(ZF Z),U51,_,hS57,Z,Z⟩
    ·intro c43 hm205
     refine ZK (nF (c43.out)) (sR fL1 Z (oA Z Z (eN (zW (ZJ (zk ?_))))))
     cases hm205
     exact ⟨Z,_,(ZF Z),U36,_,hS42,Z,Z⟩
   ·intro c26 hm206
    refine oT Z c26 (oT Z c26 (oT Z c26 (Zk Z Z Z (zy Z Z (Zj c26.out) Z) (oT Z c26 (oR Z (zg Z (Zj c26.out) Z) (oA Z Z (eN (ZK Z (sR fL1 Z (oA Z Z (eN (zW (ZJ (zk ?_))))))))))))))
    cases hm206
    exact ⟨Z,_,(ZF Z),U13,_,hS19,Z,Z⟩
 ·intro c20 hm207
  refine zf Z Z Z (zy Z Z (nF (c20.out)) Z) (zf Z Z Z (zy Z Z (nF (c20.out)) Z) (zf Z Z Z (zy Z Z (nF (c20.out)) Z) (zf Z Z Z (zy Z Z (nF (c20.out)) Z) (oR Z (zg Z (nF (c20.out)) Z) (oM Z Z (oN Z (oN Z (oN Z (oN Z (oN Z (oN Z (oN Z (oR Z (zg Z Z Z) (oM Z Z (oN Z (oN Z (oN Z (Zk Z Z Z (zy Z Z Z Z) (oN Z (oR Z (zg Z Z Z) (oA Z Z (eN (ZK Z (sR fL1 Z (oA Z Z (eN (zW (ZJ (zk ?_)))))))))))))))))))))))))))))
  cases hm207
  exact ⟨Z,_,(ZF Z),U13,_,hS19,Z,Z⟩
theorem wEV (p0:List Int) (p1:Int) (w:World) (U:PHeap) (hS:St0 w U [])  {r:(List Int)} (hm:wBW p0 p1=some r):Gv Tryz.prog 300 [.slice none 0 0,jV p1] w (wCO w [] U (fun U_ L_ v=>∃ (A0:Option Addr) (c0:Nat),v=.slice A0 r.length c0/\L_=[.row A0 c0 3 1 (nA KL.encI r)])):=by
 unfold wBW at hm
 refine Gv.of Tryz.func300 Z Tryz.ntmps300 Tryz.results300 Z (sR fL1 Z (oA Z Z (eN (zF (sR fL2 Z (oM Z Z (oR Z (zQ Z Z Z) (eN ?_))))))))
 by_cases c1:p1 < 0
 ·have hm2:=hm;rw [if_pos c1] at hm2;replace c1:=zD c1
  refine cT Z c1 (rR gBu Z ?_)
  cases hm2
 ·have hm3:=hm;rw [if_neg c1] at hm3;replace c1:=zD c1
  refine cF Z c1 (kN (zF (sR fL8 rfl (zR rfl rfl rfl rfl rfl rfl (zR rfl rfl rfl rfl rfl rfl (zY rfl rfl rfl rfl (fun _=>Runs.capn rfl rfl zA) (zR rfl rfl rfl rfl rfl rfl (zY rfl rfl rfl rfl (fun _=>zo rfl rfl zA) (zY rfl rfl rfl rfl (fun _=>zz (Zn rfl rfl rfl) (congrArg (jV) (show w64 (0 - 0)=0 by decide))) (zY rfl rfl rfl rfl (fun _=>Zn rfl rfl rfl) (Zb rfl rfl rfl rfl rfl rfl (eN (sR fL2 rfl (zR rfl rfl rfl rfl rfl rfl (zY rfl rfl rfl rfl (fun _=>Runs.gtr rfl rfl rfl) (eN (ifc hm3 ?_ ?_)))))))))))))))))
  ·intro c4 hm5
   refine cT Z c4 (rR (wJa (.fx 5 (fC6_9 (.nil)) .stop)) rfl (zR rfl rfl rfl rfl rfl rfl (zR rfl rfl rfl rfl rfl rfl (zY rfl rfl rfl rfl (fun _=>Runs.capn rfl rfl zA) (zY rfl rfl rfl rfl (fun _=>zz (Runs.slc (sz:=1) (a:=0) (b:=0) rfl rfl (.inr ⟨rfl,rfl⟩) (.inl ⟨_,rfl,rfl⟩) zA zB (by decide) (by decide) (by decide) (Nat.le_refl _)) rfl) (zR rfl rfl rfl rfl rfl rfl (bnK hm5 fun x6 h7 hm8=>OKS.appendZ (enc:=KL.encI) (z:=(0:Int)) (xs:=x6) rfl rfl rfl rfl rfl zu Tryz.underlying3 wCc rfl rfl rfl rfl rfl hS rfl rfl h7 rfl ?_)))))))
   intro W9 A10 c11 hS12
   have hS14:sW w U U [.row A10 c11 3 1 (nA KL.encI x6)] W9:=hS12
   refine oM Z Z (oR Z (zo Z Z zA) ?_)
   have hp15:=hS14.rowCap (j:=0) rfl (by decide) (wAB (f:=KL.encI) (sz:=1) (fun _=>rfl) x6)
   refine zY (v:=.slice A10 0 c11) Z Z Z Z (fun _=>zz (Runs.slc (sz:=1) (a:=0) (b:=0) Z Z (.inr ⟨Z,Z⟩) (.inl ⟨_,Z,Z⟩) zA zB (Int.le_refl _) (Int.le_refl _) (Int.natCast_nonneg _) hp15) slc0) ?_
   have hS16:=hS14.cutRowM (enc:=KL.encI) (k:=0) (b:=0) rfl
   have hS17:sW w U U [.row A10 c11 3 1 (nA KL.encI ([]:List Int))] W9:=hS16
   refine oA Z Z (eN (sR fL2 Z (oM Z Z (oA Z Z (eN (zW ?_))))))
   cases hm8
   exact ⟨Z,_,(ZF Z),U,_,hS17,A10,c11,Z,Z⟩
  ·intro c4 hm18
   refine cF Z c4 (kN (sR fL2 Z (oM Z Z (oA Z Z (eN (zW ?_))))))
   have hS19:=hS.nilrow 3 1
   cases hm18
   exact ⟨Z,_,(ZF Z),U,_,hS19,none,0,Z,Z⟩
theorem wDx (p0:List (List Int)) (pA0:Option Addr) (pc0:Nat) (w:World) (U:PHeap) (hS:St0 w U []) (ha0:SlR U wBH pA0 pc0 p0) {r:(List Int)} (hm:wBK p0=some r):Gv Tryz.prog 252 [.slice pA0 p0.length pc0] w (wCO w [] U (fun U_ L_ v=>∃ (A0:Option Addr) (c0:Nat),v=.slice A0 r.length c0/\L_=[.row A0 c0 3 1 (nA KL.encI r)])):=by
 unfold wBK at hm
 refine Gv.of Tryz.func252 Z Tryz.ntmps252 Tryz.results252 Z (sR fL1 Z (oA Z Z (eN (sR fL1 Z (oA Z Z (eN (zF (sR fL3 Z (oM Z Z (oR Z (zo Z Z zO) (oM Z Z (eN (zS (bnK hm fun y12 hf9 hm8=>?_))))))))))))))
 have q:=wAx hf9
 obtain ⟨hle10,hf11⟩:=q
 replace hle10:=zD hle10
 refine CK.forN' (fun k7 x6 σ_ w_=>∃ (U_:PHeap),σ_ 11=jV (↑k7:Int)/\σ_ 0=.slice pA0 p0.length pc0/\σ_ 3=jV x6/\σ_ 9=.slice pA0 p0.length pc0/\σ_ 10=jV (↑p0.length:Int)/\PHeap.Le U U_/\sW w U U_ [] w_) hf11 ?_ ?_ ?_
 ·exact ⟨U,Z,Z,Z,Z,Z,(zG _),hS⟩
 ·rintro k7 x6 xx15 σ13 W14 hk18 ⟨U20,fi19,f23,f24,f25,f26,le21,hS22⟩ hx16
  have c27:Hid ((↑k7:Int) < (↑p0.length:Int)):=zD (wBT hk18)
  replace hk18:=zD hk18
  have hi28:Hid (w64 ((↑k7:Int) + 1)=(↑(k7 + 1):Int)):=zD (by have h1:=hle10.out;have h2:=c27.out;rw [wAU] <;> omega)
  refine sR fL1 Z (oR Z (zQ Z fi19 f26) (eN (zF (cT Z c27 (kN (zF (zS (sR fL3 Z (bnK hx16 fun x29 h30 hm31=>?_)))))))))
  have h32:=ha0.le le21
  have q:=h32.el (wAZ h30)
  obtain ⟨b33,off34,vs37,hA35,hC36,hr38⟩:=q
  obtain ⟨pA39,pc40,rfl,h41⟩:=hr38
  replace hC36:Cl U20 b33 (off34 + k7 * 1) [.slice pA39 x29.length pc40]:=hC36
  refine oR Z (ZD Z f25 hA35 fi19 zO zN (wCD h30)) (oL Z (hS22.ldC (f:=0) hC36 (v:=.slice pA39 x29.length pc40) Z Z zn Z) (oA Z Z (eN (sR fL5 Z (oM Z f24 (oM Z Z (oR Z (zo Z Z zA) (oR Z (zV Z Z Z) (oA Z Z (eN (sR fL2 Z (oM Z Z (oR Z (zQ Z Z Z) (eN (ifc hm31 ?_ ?_)))))))))))))))
  ·intro c42 hm43
   refine cT Z c42 (rR gBu Z ?_)
   cases hm43
  ·intro c42 hm44
   refine cF Z c42 (ZV (zZ (zH (rR fL2 Z (oR Z (zz (zV Z fi19 Z) (congrArg (jV) hi28.out)) (oM Z Z (zx ?_)))))))
   cases hm44
   exact zH ⟨Z,⟨U20,Z,f23,Z,f25,f26,le21,hS22⟩⟩
 ·rintro σ46 W47 ⟨U51,fi49,f54,f55,f56,f57,le52,hS53⟩
  have c58:Hid (¬ ((↑(((↑p0.length:Int):Int) - 0).toNat:Int) < (↑p0.length:Int))):=zD (wAr)
  refine sR fL1 Z (oR Z (zQ Z fi49 f57) (eN (zF (cF Z c58 (ZM (ze (ze (ZI (zH (sR gBw Z (oM Z f55 (bnK hm8 fun x59 h60 hm61=>zL 0 Z Z Z Z (zK Z Z Tryz.call300 (zC Z (zC Z zP)) Z) hS53 (fun hs=>wEV [] y12 W47 U51 hs h60) (.inr Z) ?_))))))))))))
  rintro U62 L63 v64 W65 le66 hS67 ⟨A68,c69,rfl,rfl⟩
  have hS71:sW w U U62 [.row A68 c69 3 1 (nA KL.encI x59)] W65:=hS67
  refine oA Z Z (eN (zF (sR fL3 Z (oM Z f54 (oR Z (zo Z Z zO) (oM Z Z (eN (zS (bnK hm61 fun y91 hf88 hm87=>?_)))))))))
  have q:=wAx hf88
  obtain ⟨hle89,hf90⟩:=q
  replace hle89:=zD hle89
  refine CK.forN' (fun k86 l83 σ_ w_=>∃ (U_:PHeap) (A84:Option Addr) (c85:Nat),σ_ 27=jV (↑k86:Int)/\σ_ 6=.slice A84 l83.length c85/\σ_ 25=.slice pA0 p0.length pc0/\σ_ 26=jV (↑p0.length:Int)/\PHeap.Le U62 U_/\sW w U U_ [.row A84 c85 3 1 (nA KL.encI l83)] w_) hf90 ?_ ?_ ?_
  ·exact ⟨U62,A68,c69,Z,Z,Z,Z,(zG _),hS71⟩
  ·rintro k86 l83 xx94 σ92 W93 hk97 ⟨U99,A84,c85,fi98,f102,f103,f104,le100,hS101⟩ hx95
   have c105:Hid ((↑k86:Int) < (↑p0.length:Int)):=zD (wBT hk97)
   replace hk97:=zD hk97
   have hi106:Hid (w64 ((↑k86:Int) + 1)=(↑(k86 + 1):Int)):=zD (by have h1:=hle89.out;have h2:=c105.out;rw [wAU] <;> omega)
   refine sR fL1 Z (oR Z (zQ Z fi98 f104) (eN (zF (cT Z c105 (kN (zF (zS (sR fL3 Z (bnK hx95 fun x107 h108 hm109=>?_)))))))))
   have h110:=ha0.le le52
   have h111:=h110.le le66
   have h112:=h111.le le100
   have q:=h112.el (wAZ h108)
   obtain ⟨b113,off114,vs117,hA115,hC116,hr118⟩:=q
   obtain ⟨pA119,pc120,rfl,h121⟩:=hr118
   replace hC116:Cl U99 b113 (off114 + k86 * 1) [.slice pA119 x107.length pc120]:=hC116
   refine oR Z (ZD Z f103 hA115 fi98 zO zN (wCD h108)) (oL Z (hS101.ldC (f:=0) hC116 (v:=.slice pA119 x107.length pc120) Z Z zn Z) (oA Z Z (eN (rR gCa Z (oM Z f102 (oM Z Z (bnK hm109 fun x122 h123 hm124=>ZO (j:=0) (enc:=KL.encI) (xs:=l83) (ys:=x107) (zs:=x122) Z Z Z Z Z zu wCc Z Z Z Z Z Z hS101 Z Z Z (hS101.srcS h121) (fun _=>Z) (fun _=>Z) h123 Z ?_)))))))
   intro A125 c126 W127 hS128
   have hS129:sW w U U99 [.row A125 c126 3 1 (nA KL.encI x122)] W127:=hS128
   refine oA Z Z (zx (zZ (zH (rR fL2 Z (oR Z (zz (zV Z fi98 Z) (congrArg (jV) hi106.out)) (oM Z Z (zx ?_)))))))
   cases hm124
   exact zH ⟨Z,⟨U99,A125,c126,Z,Z,f103,f104,le100,hS129⟩⟩
  ·rintro σ133 W134 ⟨U142,A140,c141,fi136,f145,f146,f147,le143,hS144⟩
   have c148:Hid (¬ ((↑(((↑p0.length:Int):Int) - 0).toNat:Int) < (↑p0.length:Int))):=zD (wAr)
   refine sR fL1 Z (oR Z (zQ Z fi136 f147) (eN (zF (cF Z c148 (ZM (ze (ze (ZI (zH (sR fL2 Z (oM Z f145 (oA Z Z (eN (zW ?_))))))))))))))
   have hE:=nB hm87;first | subst r | cases hE
   exact ⟨Z,_,(ZF Z),U142,_,hS144,A140,c141,Z,Z⟩
end Go.Proofs.YtglpalgiipahjaaGreat
