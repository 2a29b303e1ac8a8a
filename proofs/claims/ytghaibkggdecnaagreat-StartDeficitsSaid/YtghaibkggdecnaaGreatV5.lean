import Derived.Test.YtghaibkggdecnaaGreatV4
set_option linter.all false
open List renaming flatMap->hH,set->nE,getElem_cons_succ->nG,getElem_cons_zero->nH,getElem_toArray->nI,length_set->nJ
open Option.some renaming inj->nA
open Go.Value renaming bool->nB
open Bool renaming eq_false_iff->nD
open Int renaming toNat_natCast->nK
open Eq renaming trans->nL
open Prod.mk renaming injEq->nM
open Nat renaming blt->nN,le_of_ble_eq_true->nO
namespace Go.Proofs.YtghaibkggdecnaaGreat
open Go.KL
set_option maxHeartbeats 4000000
theorem Z {α:Type} {a:α}:a=a:=rfl
section
variable {r:Option Nat} {N:Nat} {P:Program} {l:List Oper} {Q:wCT} {D:List Deferred} {ks:List Nat} {σ:Env} {w:World} {i d j e:Nat} {s:Sch} {o:Oper} {b:Bool} {x:Operand} {v:Value} {p:Prop} {inst:Decidable p} {K:List Deferred->Env->World->Prop} {c1 c2:Code}
abbrev jV (n:Int):Value:=.int .i64 n
abbrev SW (w:World) (X:List Res) (U U':PHeap) (L:List Res) (w':World):Prop:=St ⟨w,X,U⟩ U' L w'
abbrev sW (w:World) (U U':PHeap) (L:List Res) (w':World):Prop:=St ⟨w,[],U⟩ U' L w'
abbrev St0 (w:World) (U:PHeap) (L:List Res):Prop:=St ⟨w,L,U⟩ U L w
theorem ifc {α:Type} {G p:Prop} {inst:Decidable p} {a b r:α} (h:@ite α p inst a b=r) (h1:Hid p->a=r->G) (h2:Hid (¬ p)->b=r->G):G:=by
 by_cases c:p
 · rw [if_pos c] at h;exact h1 ⟨c⟩ h
 · rw [if_neg c] at h;exact h2 ⟨c⟩ h
theorem bnK {α β:Type} {G:Prop} {o:Option α} {f:α->Option β} {r:β} (h:o.bind f=some r) (k:∀ x,o=some x->f x=some r->G):G:=by
 obtain ⟨x,h1,h2⟩:=bnd h
 exact k x h1 h2
theorem oR (h:(l[i]?,o.dst,nN d N,wanted l σ o)=(some o,some d,true,true)) (hr:∀ {w'},Runs P σ w' o v w') (k:OKS N P l Q D ks s (upd σ d v) w):OKS N P l Q D ks (.fl i s) σ w:=by
 simp only [nM] at h;exact OKS.r h.1 h.2.1 h.2.2.1 h.2.2.2 (fun _=>hr) k
theorem oL (h:(l[i]?,o.dst,nN d N,wanted l σ o,wOY (kOf ks i))=(some o,some d,true,true,false)) (hr:wEb P σ w o v) (k:OKS N P l Q D ks s (upd σ d v) w):OKS N P l Q D ks (.fl i s) σ w:=by
 simp only [nM] at h;exact OKS.m h.1 h.2.1 h.2.2.1 h.2.2.2.1 hr h.2.2.2.2 k
theorem oM (h:(l[i]?,o.dst,nN d N,wanted l σ o,o.op)=(some o,some d,true,true,.move x)) (hx:ev σ x=v) (k:OKS N P l Q D ks s (upd σ d v) w):OKS N P l Q D ks (.fl i s) σ w:=by
 simp only [nM] at h;exact OKS.rm h.1 h.2.1 h.2.2.1 h.2.2.2.1 h.2.2.2.2 hx k
theorem oA (h:(l[i]?,o.dst,nN d N,wanted l σ o,o.op)=(some o,some d,true,true,.assign x)) (hx:ev σ x=v) (k:OKS N P l Q D ks s (upd σ d v) w):OKS N P l Q D ks (.fl i s) σ w:=by
 simp only [nM] at h;exact OKS.ra h.1 h.2.1 h.2.2.1 h.2.2.2.1 h.2.2.2.2 hx k
theorem oF (h:(l[i]?,o.dst,nN d N,o.guard,(l[j]?).bind (·.dst),σ e,false == b)=(some o,some d,true,some (j,b),some e,.bool (decide p),false)) (c:Hid (¬ p)) (k:OKS N P l Q D ks s (upd σ d undef) w):OKS N P l Q D ks (.fl i s) σ w:=by
 simp only [nM] at h;exact OKS.p h.1 h.2.1 h.2.2.1 (wEx h.2.2.2.1 h.2.2.2.2.1 (h.2.2.2.2.2.1.trans (wOX c.out)) h.2.2.2.2.2.2) k
theorem oT (h:(l[i]?,o.dst,nN d N,o.guard,(l[j]?).bind (·.dst),σ e,true == b)=(some o,some d,true,some (j,b),some e,.bool (decide p),false)) (c:Hid p) (k:OKS N P l Q D ks s (upd σ d undef) w):OKS N P l Q D ks (.fl i s) σ w:=by
 simp only [nM] at h;exact OKS.p h.1 h.2.1 h.2.2.1 (wEx h.2.2.2.1 h.2.2.2.2.1 (h.2.2.2.2.2.1.trans (wOW c.out)) h.2.2.2.2.2.2) k
theorem oN {b2:Bool} (h:(l[i]?,o.dst,nN d N,o.guard,(l[j]?).bind (·.dst),σ e,b2 == b)=(some o,some d,true,some (j,b),some e,.bool b2,false)) (k:OKS N P l Q D ks s (upd σ d undef) w):OKS N P l Q D ks (.fl i s) σ w:=by
 simp only [nM] at h;exact OKS.p h.1 h.2.1 h.2.2.1 (wEx h.2.2.2.1 h.2.2.2.2.1 h.2.2.2.2.2.1 h.2.2.2.2.2.2) k
theorem nC {a b:Bool} (h:a=b):nB (!a)=nB (!b):=h ▸ rfl
theorem nF {a:Bool} (h:¬ a=true):nB (!a)=nB (!false):=nC (nD.2 h)
theorem wT (h:(o.guard,(l[j]?).bind (·.dst),σ e)=(some (j,true),some e,.bool (decide p))) (c:Hid p):wanted l σ o=true:=by
 simp only [nM] at h;exact wGQ h.1 h.2.1 (h.2.2.trans (wOW c.out))
theorem wF (h:(o.guard,(l[j]?).bind (·.dst),σ e)=(some (j,false),some e,.bool (decide p))) (c:Hid (¬ p)):wanted l σ o=true:=by
 simp only [nM] at h;exact wGQ h.1 h.2.1 (h.2.2.trans (wOX c.out))
theorem rU (h:(l[i]?,o.dst,nN d N)=(some o,some d,true)) (hw:wanted l σ o=true) (hr:∀ {w'},Runs P σ w' o v w') (k:OKS N P l Q D ks s (upd σ d v) w):OKS N P l Q D ks (.fl i s) σ w:=by
 simp only [nM] at h;exact OKS.r h.1 h.2.1 h.2.2 hw (fun _=>hr) k
theorem sR {id:Nat} (s:Sch) (hs:inOrder 0 s l.length=true) (h:OKS N P l (wDr (fun D σ w=>CK r N P c2 Q D σ w) Q) D [] s σ w):CK r N P (.seq (.region id l.toArray false) c2) Q D σ w:=CK.seq (CK.reg s hs h)
theorem rR {id:Nat} (s:Sch) (hs:inOrder 0 s l.length=true) (h:OKS N P l Q D [] s σ w):CK r N P (.region id l.toArray false) Q D σ w:=CK.reg s hs h
theorem eN (h:K D σ w):OKS N P l (wDr K Q) D ks .nil σ w:=OKS.e (wGM h)
theorem cT (hz:ev σ x=.bool (decide p)) (c:Hid p) (h:CK r N P c1 Q D σ w):CK r N P (.cond x c1 c2) Q D σ w:=CK.condT (hz.trans (wOW c.out)) h
theorem cF (hz:ev σ x=.bool (decide p)) (c:Hid (¬ p)) (h:CK r N P c2 Q D σ w):CK r N P (.cond x c1 c2) Q D σ w:=CK.condF (hz.trans (wOX c.out)) h
theorem kN (h:K D σ w):CK r N P .skip (wDr K Q) D σ w:=CK.skip (wGM h)
end
def fL1:Sch:=.fl 0 (.nil)
def fL2:Sch:=.fl 0 (.fl 1 (.nil))
def fL3:Sch:=.fl 0 (.fl 1 (.fl 2 (.nil)))
def fL4:Sch:=.fl 0 (.fl 1 (.fl 2 (.fl 3 (.nil))))
def fL5:Sch:=.fl 0 (.fl 1 (.fl 2 (.fl 3 (.fl 4 (.nil)))))
def fL6:Sch:=.fl 0 (.fl 1 (.fl 2 (.fl 3 (.fl 4 (.fl 5 (.nil))))))
def fL7:Sch:=.fl 0 (.fl 1 (.fl 2 (.fl 3 (.fl 4 (.fl 5 (.fl 6 (.nil)))))))
def fL8:Sch:=.fl 0 (.fl 1 (.fl 2 (.fl 3 (.fl 4 (.fl 5 (.fl 6 (.fl 7 (.nil))))))))
def fL9:Sch:=.fl 0 (.fl 1 (.fl 2 (.fl 3 (.fl 4 (.fl 5 (.fl 6 (.fl 7 (.fl 8 (.nil)))))))))
def fL10:Sch:=.fl 0 (.fl 1 (.fl 2 (.fl 3 (.fl 4 (.fl 5 (.fl 6 (.fl 7 (.fl 8 (.fl 9 (.nil))))))))))
def fL11:Sch:=.fl 0 (.fl 1 (.fl 2 (.fl 3 (.fl 4 (.fl 5 (.fl 6 (.fl 7 (.fl 8 (.fl 9 (.fl 10 (.nil)))))))))))
def fL22:Sch:=.fl 0 (.fl 1 (.fl 2 (.fl 3 (.fl 4 (.fl 5 (.fl 6 (.fl 7 (.fl 8 (.fl 9 (.fl 10 (.fl 11 (.fl 12 (.fl 13 (.fl 14 (.fl 15 (.fl 16 (.fl 17 (.fl 18 (.fl 19 (.fl 20 (.fl 21 (.nil))))))))))))))))))))))
def fL30:Sch:=.fl 0 (.fl 1 (.fl 2 (.fl 3 (.fl 4 (.fl 5 (.fl 6 (.fl 7 (.fl 8 (.fl 9 (.fl 10 (.fl 11 (.fl 12 (.fl 13 (.fl 14 (.fl 15 (.fl 16 (.fl 17 (.fl 18 (.fl 19 (.fl 20 (.fl 21 (.fl 22 (.fl 23 (.fl 24 (.fl 25 (.fl 26 (.fl 27 (.fl 28 (.fl 29 (.nil))))))))))))))))))))))))))))))
def fL38:Sch:=.fl 0 (.fl 1 (.fl 2 (.fl 3 (.fl 4 (.fl 5 (.fl 6 (.fl 7 (.fl 8 (.fl 9 (.fl 10 (.fl 11 (.fl 12 (.fl 13 (.fl 14 (.fl 15 (.fl 16 (.fl 17 (.fl 18 (.fl 19 (.fl 20 (.fl 21 (.fl 22 (.fl 23 (.fl 24 (.fl 25 (.fl 26 (.fl 27 (.fl 28 (.fl 29 (.fl 30 (.fl 31 (.fl 32 (.fl 33 (.fl 34 (.fl 35 (.fl 36 (.fl 37 (.nil))))))))))))))))))))))))))))))))))))))
def fL52:Sch:=.fl 0 (.fl 1 (.fl 2 (.fl 3 (.fl 4 (.fl 5 (.fl 6 (.fl 7 (.fl 8 (.fl 9 (.fl 10 (.fl 11 (.fl 12 (.fl 13 (.fl 14 (.fl 15 (.fl 16 (.fl 17 (.fl 18 (.fl 19 (.fl 20 (.fl 21 (.fl 22 (.fl 23 (.fl 24 (.fl 25 (.fl 26 (.fl 27 (.fl 28 (.fl 29 (.fl 30 (.fl 31 (.fl 32 (.fl 33 (.fl 34 (.fl 35 (.fl 36 (.fl 37 (.fl 38 (.fl 39 (.fl 40 (.fl 41 (.fl 42 (.fl 43 (.fl 44 (.fl 45 (.fl 46 (.fl 47 (.fl 48 (.fl 49 (.fl 50 (.fl 51 (.nil))))))))))))))))))))))))))))))))))))))))))))))))))))
def wLk (s:Sch):Sch:=.fl 0 (.fl 1 (.fl 2 (s)))
def wMZ (s:Sch):Sch:=.fl 0 (.fl 1 (.fl 2 (.fl 3 (s))))
def wCl (s:Sch):Sch:=.fl 0 (.fl 1 (.fl 2 (.fl 3 (.fl 4 (s)))))
def fC0_5 (s:Sch):Sch:=.fl 0 (.fl 1 (.fl 2 (.fl 3 (.fl 4 (.fl 5 (s))))))
def wMa (s:Sch):Sch:=.fl 0 (.fl 1 (.fl 2 (.fl 3 (.fl 4 (.fl 5 (.fl 6 (s)))))))
def fC0_7 (s:Sch):Sch:=.fl 0 (.fl 1 (.fl 2 (.fl 3 (.fl 4 (.fl 5 (.fl 6 (.fl 7 (s))))))))
def wLl (s:Sch):Sch:=.fl 0 (.fl 1 (.fl 2 (.fl 3 (.fl 4 (.fl 5 (.fl 6 (.fl 7 (.fl 8 (s)))))))))
def fC0_9 (s:Sch):Sch:=.fl 0 (.fl 1 (.fl 2 (.fl 3 (.fl 4 (.fl 5 (.fl 6 (.fl 7 (.fl 8 (.fl 9 (s))))))))))
def wJB (s:Sch):Sch:=.fl 0 (.fl 1 (.fl 2 (.fl 3 (.fl 4 (.fl 5 (.fl 6 (.fl 7 (.fl 8 (.fl 9 (.fl 10 (s)))))))))))
def wPc (s:Sch):Sch:=.fl 0 (.fl 1 (.fl 2 (.fl 3 (.fl 4 (.fl 5 (.fl 6 (.fl 7 (.fl 8 (.fl 9 (.fl 10 (.fl 11 (.fl 12 (.fl 13 (s))))))))))))))
def wJC (s:Sch):Sch:=.fl 0 (.fl 1 (.fl 2 (.fl 3 (.fl 4 (.fl 5 (.fl 6 (.fl 7 (.fl 8 (.fl 9 (.fl 10 (.fl 11 (.fl 12 (.fl 13 (.fl 14 (s)))))))))))))))
def wPd (s:Sch):Sch:=.fl 0 (.fl 1 (.fl 2 (.fl 3 (.fl 4 (.fl 5 (.fl 6 (.fl 7 (.fl 8 (.fl 9 (.fl 10 (.fl 11 (.fl 12 (.fl 13 (.fl 14 (.fl 15 (.fl 16 (.fl 17 (.fl 18 (.fl 19 (.fl 20 (s)))))))))))))))))))))
def wPe (s:Sch):Sch:=.fl 0 (.fl 1 (.fl 2 (.fl 3 (.fl 4 (.fl 5 (.fl 6 (.fl 7 (.fl 8 (.fl 9 (.fl 10 (.fl 11 (.fl 12 (.fl 13 (.fl 14 (.fl 15 (.fl 16 (.fl 17 (.fl 18 (.fl 19 (.fl 20 (.fl 21 (s))))))))))))))))))))))
def fC2_5 (s:Sch):Sch:=.fl 2 (.fl 3 (.fl 4 (.fl 5 (s))))
def wOM (s:Sch):Sch:=.fl 3 (.fl 4 (.fl 5 (s)))
def wMb (s:Sch):Sch:=.fl 3 (.fl 4 (.fl 5 (.fl 6 (.fl 7 (s)))))
def wPf (s:Sch):Sch:=.fl 5 (.fl 6 (.fl 7 (.fl 8 (.fl 9 (.fl 10 (.fl 11 (.fl 12 (s))))))))
def wPg (s:Sch):Sch:=.fl 7 (.fl 8 (.fl 9 (.fl 10 (s))))
def wPh (s:Sch):Sch:=.fl 7 (.fl 8 (.fl 9 (.fl 10 (.fl 11 (s)))))
def wPi (s:Sch):Sch:=.fl 9 (.fl 10 (.fl 11 (.fl 12 (.fl 13 (.fl 14 (.fl 15 (.fl 16 (.fl 17 (.fl 18 (s))))))))))
def wON (s:Sch):Sch:=.fl 10 (.fl 11 (.fl 12 (s)))
def wOO (s:Sch):Sch:=.fl 10 (.fl 11 (.fl 12 (.fl 13 (.fl 14 (.fl 15 (.fl 16 (.fl 17 (.fl 18 (s)))))))))
def wOP (s:Sch):Sch:=.fl 13 (.fl 14 (.fl 15 (s)))
theorem zA:type_of% @wJm:=@wJm
theorem zB:type_of% @Tryz.sizeOf3:=@Tryz.sizeOf3
theorem zC:type_of% @Tryz.runUnderlying31:=@Tryz.runUnderlying31
theorem zD:type_of% @OKS.rm:=@OKS.rm
theorem zE:type_of% @Tryz.isAgg3:=@Tryz.isAgg3
theorem zF:type_of% @CK.seq:=@CK.seq
theorem zG:type_of% @Hid.mk:=@Hid.mk
theorem zH:type_of% @wGQ:=@wGQ
theorem zI:type_of% @wGM:=@wGM
theorem zJ:type_of% @Runs.lss:=@Runs.lss
theorem zK:type_of% @Runs.pickT:=@Runs.pickT
theorem zL:type_of% @PHeap.Le.refl:=@PHeap.Le.refl
theorem zM:type_of% @wJl:=@wJl
theorem zN:type_of% @OKS.callH:=@OKS.callH
theorem zO:type_of% @Enters.mk:=@Enters.mk
theorem zP:type_of% @Runs.pickF:=@Runs.pickF
theorem zQ:type_of% @Tryz.runUnderlying22:=@Tryz.runUnderlying22
theorem zR:type_of% @CK.block:=@CK.block
theorem zS:type_of% @OKS.r:=@OKS.r
theorem zU:type_of% @OKS.p:=@OKS.p
theorem zV:type_of% @wMc:=@wMc
theorem zW:type_of% @CK.ret:=@CK.ret
theorem zX:type_of% @nO:=@nO
theorem zY:type_of% @Runs.addw:=@Runs.addw
theorem zZ:type_of% @wJk:=@wJk
theorem zd:type_of% @wOX:=@wOX
theorem ze:type_of% @Tryz.runUnderlying28:=@Tryz.runUnderlying28
theorem zf:type_of% @Tryz.sizeOf28:=@Tryz.sizeOf28
theorem zg:type_of% @OKS.e:=@OKS.e
theorem zh:type_of% @CK.condF:=@CK.condF
theorem zi:type_of% @wIU:=@wIU
theorem zj:type_of% @wIV:=@wIV
theorem zk:type_of% @Runs.fa:=@Runs.fa
theorem zl:type_of% @Tryz.runUnderlying37:=@Tryz.runUnderlying37
theorem zm:type_of% @Runs.subw:=@Runs.subw
theorem zn:type_of% @res1:=@res1
theorem zo:type_of% @Runs.iaI:=@Runs.iaI
theorem zp:type_of% @CK.skip:=@CK.skip
theorem zq:type_of% @Tryz.runUnderlying3:=@Tryz.runUnderlying3
theorem zr:type_of% @wOW:=@wOW
theorem zt:type_of% @wGN:=@wGN
theorem zu:type_of% @wEx:=@wEx
theorem zw:type_of% @Runs.len:=@Runs.len
theorem zx:type_of% @Tryz.underlying31:=@Tryz.underlying31
theorem zy:type_of% @Tryz.runUnderlying136:=@Tryz.runUnderlying136
theorem zz:type_of% @CK.condT:=@CK.condT
theorem ZA:type_of% @OKS.m:=@OKS.m
theorem ZB:type_of% @Runs.iaN:=@Runs.iaN
theorem ZC:type_of% @CK.exit:=@CK.exit
theorem ZD:type_of% @Tryz.call153:=@Tryz.call153
theorem ZE:type_of% @OKS.buildSlice:=@OKS.buildSlice
theorem ZF:type_of% @Tryz.runUnderlying192:=@Tryz.runUnderlying192
theorem ZG:type_of% @Tryz.sizeOf54:=@Tryz.sizeOf54
theorem ZH:type_of% @Tryz.mixed:=@Tryz.mixed
theorem ZI:type_of% @Tryz.zeroValue3:=@Tryz.zeroValue3
theorem ZJ:type_of% @CK.anyOrd:=@CK.anyOrd
theorem ZK:type_of% @OKS.append:=@OKS.append
theorem ZL:type_of% @Tryz.runUnderlying54:=@Tryz.runUnderlying54
theorem ZM:type_of% @Tryz.zeroValue28:=@Tryz.zeroValue28
theorem ZN:type_of% @Tryz.runUnderlying24:=@Tryz.runUnderlying24
theorem ZO:type_of% @Runs.neq:=@Runs.neq
theorem ZP:type_of% @Runs.to:=@Runs.to
theorem ZQ:type_of% @Runs.gtr:=@Runs.gtr
theorem ZR:type_of% @Runs.nilp:=@Runs.nilp
theorem ZS:type_of% @Tryz.isAgg28:=@Tryz.isAgg28
theorem ZT:type_of% @OKS.alloc:=@OKS.alloc
theorem ZU:type_of% @Tryz.runUnderlying134:=@Tryz.runUnderlying134
theorem ZV:type_of% @CK.iter:=@CK.iter
end Go.Proofs.YtghaibkggdecnaaGreat
namespace Go.Proofs.YtghaibkggdecnaaGreat
open Go.KL
set_option maxHeartbeats 4000000
theorem wFa (p0:List Int) (pA0:Option Addr) (pc0:Nat) (w:World) (U:PHeap) (hS:St0 w U []) (ha0:Sl U 1 pA0 pc0 p0.length (hH KL.encB8 p0)) {r:wAG} (hm:wBZ p0=some r):Gv Tryz.prog 21 [.slice pA0 p0.length pc0] w (wDD w [] U (fun U_ L_ v=>∃ (b0:Nat) (A0p0:Option Addr) (c0p0:Nat),v=.pointer (some ⟨b0,0,none⟩)/\L_=[.blk b0 136 [.slice A0p0 r.bytes.length c0p0,jV r.next,.int .u32 r.state]]/\Sl U_ 1 A0p0 c0p0 r.bytes.length (hH KL.encB8 r.bytes))):=by
 unfold wBZ at hm
 refine Gv.of Tryz.func21 Z Tryz.ntmps21 Tryz.results21 Z (sR fL1 Z (oA Z Z (eN (sR (.fl 0 (.fl 1 (.fx 2 (.fl 3 (.nil)) .stop))) Z (oM Z Z ?_)))))
 let B0:List Value:=[.slice pA0 p0.length pc0,jV 0,.int .u32 17]
 refine zS rfl rfl rfl rfl (fun _=>Runs.build (pv:=[(0,.slice pA0 p0.length pc0),(2,.int .u32 17)]) (z:=[.slice none 0 0,jV 0,.int .u32 0]) (cs:=B0) rfl (wAi rfl (wAi rfl wBO)) Tryz.zeroValue136 wLQ rfl rfl) (OKS.box (cs:=B0) rfl rfl rfl rfl rfl rfl (by rfl) hS ?_)
 intro W1 b2 hS3
 refine oA Z Z (eN (zW ?_))
 cases hm
 exact ⟨Z,_,(zn Z),U,_,hS3,b2,pA0,pc0,Z,Z,ha0⟩
theorem wBp (p0:wAG) (pb0:Nat) (pA0_0:Option Addr) (pc0_0:Nat) (p1:Int) (w:World) (U:PHeap) (hS:St0 w U [.blk pb0 136 [.slice pA0_0 p0.bytes.length pc0_0,jV p0.next,.int .u32 p0.state]]) (ha0:Sl U 1 pA0_0 pc0_0 p0.bytes.length (hH KL.encB8 p0.bytes)) {r:Int × wAG} (hm:wAd p0 p1=some r):Gv Tryz.prog 57 [.pointer (some ⟨pb0,0,none⟩),jV p1] w (wDD w [.blk pb0 136 [.slice pA0_0 p0.bytes.length pc0_0,jV p0.next,.int .u32 p0.state]] U (fun U_ L_ v=>∃ (Ao00:Option Addr) (co00:Nat),v=jV r.1/\L_=[.blk pb0 136 [.slice Ao00 r.2.bytes.length co00,jV r.2.next,.int .u32 r.2.state]]/\Sl U_ 1 Ao00 co00 r.2.bytes.length (hH KL.encB8 r.2.bytes))):=by
 unfold wAd at hm
 refine Gv.of Tryz.func57 Z Tryz.ntmps57 Tryz.results57 Z (sR fL1 Z (oA Z Z (eN (zF (sR fL10 Z (oM Z Z (oR Z (Runs.leq Z Z Z) (oM Z Z ?_))))))))
 by_cases c2:p1 <= 1
 ·have hm3:=hm;rw [if_pos c2] at hm3;replace c2:=zG c2
  refine oT Z c2 (oT Z c2 (oT Z c2 (oT Z c2 (oT Z c2 (oT Z c2 (oR Z (zK Z (zr c2.out) Z) (eN (zz Z (sR fL1 Z (oA Z Z (eN (zW (zM ?_)))))))))))))
  cases hm3
  exact ⟨Z,_,(zn Z),U,_,hS,pA0_0,pc0_0,Z,Z,ha0⟩
 ·have hm4:=hm;rw [if_neg c2] at hm4;replace c2:=zG c2
  refine zD Z Z Z (wF Z c2) Z Z (rU Z (wF Z c2) (ZR Z Z) (rU Z (wF Z c2) (zk Z Z zy Z Tryz.sizeOf46) (ZA Z Z Z (wF Z c2) (hS.ldB (j:=0) Z Z Z Tryz.isAgg46 (v:=.slice pA0_0 p0.bytes.length pc0_0) Z) Z (rU Z (wF Z c2) (zw Z Z Tryz.runUnderlying46) (rU Z (wF Z c2) (Runs.eql Z Z Z) (oR Z (zP Z (zd c2.out) Z) (eN (ifc hm4 ?_ ?_))))))))
  ·intro c5 hm6
   refine cT Z c5 (sR fL1 Z (oA Z Z (eN (zW (zM ?_)))))
   cases hm6
   exact ⟨Z,_,(zn Z),U,_,hS,pA0_0,pc0_0,Z,Z,ha0⟩
  ·intro c5 hm7
   refine cF Z c5 (kN (zF (ZJ ZH [3,3,3,1,3,3,3,1,3,3,3,1,3,3,3,1,3,3,3,3,1,3,3,3,1,3,3,3,3,3] fL30 (by kernel_rfl) ?_)))
   have hS8:=hS.drew
   generalize hw_W9:({ w with drawn:=w.drawn + 1 }:World)=W9 at hS8 ⊢
   refine oM Z Z (oR Z (ZR Z Z) (oR Z (zk Z Z zy Z Tryz.sizeOf46) (oL Z (hS8.ldB (j:=0) Z Z Z Tryz.isAgg46 (v:=.slice pA0_0 p0.bytes.length pc0_0) Z) (oM Z Z (oR Z (ZR Z Z) (oR Z (zk Z Z zy Z zB) (oL Z (hS8.ldB (j:=0) Z Z Z zE (v:=jV p0.next) Z) (oM Z Z (oR Z (ZR Z Z) (oR Z (zk Z Z zy Z Tryz.sizeOf46) (oL Z (hS8.ldB (j:=0) Z Z Z Tryz.isAgg46 (v:=.slice pA0_0 p0.bytes.length pc0_0) Z) (oR Z (zw Z Z Tryz.runUnderlying46) (bnK hm7 fun x10 h11 hm12=>oR Z (Runs.rem Z Z Z h11) (bnK hm12 fun x13 h14 hm15=>?_))))))))))))))
   have q:=ha0.el (fun _=>rfl) (wAt h14)
   obtain ⟨b16,off17,hA18,hC19⟩:=q
   refine oR Z (zo Z Z hA18 Z Tryz.runUnderlying46 Tryz.sizeOf5 (wCx h14) (wDF h14)) (oL Z (hS8.ldC (f:=0) hC19 (v:=.int .u8 x13) Z Z Tryz.isAgg5 Z) (oR Z (Runs.cvu Z Z Tryz.runUnderlying5 ZU Z Z) (oM Z Z (oR Z (ZR Z Z) (oR Z (zk Z Z zy Z zB) (oL Z (hS8.ldB (j:=0) Z Z Z zE (v:=jV p0.next) Z) (oM Z Z (oR Z (ZR Z Z) (oR Z (zk Z Z zy Z Tryz.sizeOf46) (oL Z (hS8.ldB (j:=0) Z Z Z Tryz.isAgg46 (v:=.slice pA0_0 p0.bytes.length pc0_0) Z) (oR Z (zw Z Z Tryz.runUnderlying46) (bnK hm15 fun x20 h21 hm22=>oR Z (Runs.quo Z Z Z h21) (oR Z (Runs.cvu Z Z zq ZU Z Z) (oA Z Z (oA Z Z (eN (zF (CK.fresh fun σ23 hσ24=>?_))))))))))))))))))
   have f25:σ23 0=.pointer (some ⟨pb0,0,none⟩):=(hσ24 0).trans rfl
   have f26:σ23 1=jV p1:=(hσ24 1).trans rfl
   have f27:σ23 5=.int .u32 (wDC x13):=(hσ24 5).trans rfl
   have f28:σ23 6=.int .u32 (wDC x20):=(hσ24 6).trans rfl
   clear hσ24
   refine rR (wMa (.fx 7 (.nil) .stop)) Z (oM Z f25 (oR Z (ZR Z Z) (oR Z (zk Z Z zy Z zB) (oL Z (hS8.ldB (j:=0) Z Z Z zE (v:=jV p0.next) Z) (oR Z (zY Z Z Z) (oR Z (ZR Z Z) (oR Z (zk Z Z zy Z zB) (OKS.st (j:=0) (vs:=[jV (w64 (p0.next + 1))]) Z Z Z Z hS8 Z Z Z Z zB (zX Z) Z Z Z ?_))))))))
   intro W29 hS30
   let B0:Res:=.blk pb0 136 [.slice pA0_0 p0.bytes.length pc0_0,jV p0.next,.int .u32 p0.state]
   have hS31:SW w [B0] U U [.blk pb0 136 [.slice pA0_0 p0.bytes.length pc0_0,jV (w64 (p0.next + 1)),.int .u32 p0.state]] W29:=hS30
   refine eN (sR (wJC (.fx 15 (.nil) .stop)) Z (oM Z f25 (oM Z f25 (oR Z (ZR Z Z) (oR Z (zk Z Z zy Z Tryz.sizeOf134) (oL Z (hS31.ldB (j:=0) Z Z Z Tryz.isAgg134 (v:=.int .u32 p0.state) Z) (oR Z (Runs.mulu Z Z Z) (oM Z f27 (oR Z (Runs.addu Z Z Z) (oM Z f28 (oR Z (Runs.mulu Z Z Z) (oR Z (Runs.addu Z Z Z) (oR Z (Runs.addu Z Z Z) (bnK hm22 fun x32 h33 hm34=>oR Z (Runs.rem Z Z Z h33) (oR Z (ZR Z Z) (oR Z (zk Z Z zy Z Tryz.sizeOf134) (OKS.st (j:=0) (vs:=[.int .u32 x32]) Z Z Z Z hS31 Z Z Z Z Tryz.sizeOf134 (zX Z) Z Z Z ?_)))))))))))))))))
   intro W35 hS36
   have hS37:SW w [B0] U U [.blk pb0 136 [.slice pA0_0 p0.bytes.length pc0_0,jV (w64 (p0.next + 1)),.int .u32 x32]] W35:=hS36
   refine eN (zF (sR fL6 Z (oM Z f28 (oR Z (Runs.eql Z Z Z) (oM Z Z (ifc hm34 ?_ ?_))))))
   ·intro c38 hm39
    refine zD Z Z Z (wT Z c38) Z f26 (rU Z (wT Z c38) (Runs.leq Z Z Z) (oR Z (zK Z (zr c38.out) Z) (eN (ifc hm39 ?_ ?_))))
    ·intro c40 hm41
     refine cT Z c40 (sR fL5 Z (oM Z f27 (oR Z (Runs.cvw Z Z ZU zq Z Z) (oM Z f26 (bnK hm41 fun x42 h43 hm44=>oR Z (Runs.rem Z Z Z h43) (oA Z Z (eN (zW (zM ?_)))))))))
     cases hm44
     exact ⟨Z,_,(zn Z),U,_,hS37,pA0_0,pc0_0,Z,Z,ha0⟩
    ·intro c40 hm45
     refine cF Z c40 (kN (sR fL11 Z (oM Z f25 (oR Z (ZR Z Z) (oR Z (zk Z Z zy Z Tryz.sizeOf134) (oL Z (hS37.ldB (j:=0) Z Z Z Tryz.isAgg134 (v:=.int .u32 x32) Z) (oR Z (Runs.mulu Z Z Z) (oM Z f27 (oR Z (Runs.addu Z Z Z) (oR Z (Runs.cvw Z Z ZU zq Z Z) (oM Z f26 (bnK hm45 fun x46 h47 hm48=>oR Z (Runs.rem Z Z Z h47) (oA Z Z (eN (zW ?_)))))))))))))))
     cases hm48
     exact ⟨Z,_,(zn Z),U,_,hS37,pA0_0,pc0_0,Z,Z,ha0⟩
   ·intro c38 hm49
    refine oF Z c38 (oF Z c38 (oR Z (zP Z (zd c38.out) Z) (eN (zh Z (kN (sR fL11 Z (oM Z f25 (oR Z (ZR Z Z) (oR Z (zk Z Z zy Z Tryz.sizeOf134) (oL Z (hS37.ldB (j:=0) Z Z Z Tryz.isAgg134 (v:=.int .u32 x32) Z) (oR Z (Runs.mulu Z Z Z) (oM Z f27 (oR Z (Runs.addu Z Z Z) (oR Z (Runs.cvw Z Z ZU zq Z Z) (oM Z f26 (bnK hm49 fun x50 h51 hm52=>oR Z (Runs.rem Z Z Z h51) (oA Z Z (eN (zW ?_)))))))))))))))))))
    cases hm52
    exact ⟨Z,_,(zn Z),U,_,hS37,pA0_0,pc0_0,Z,Z,ha0⟩
theorem wBL (p0:wAG) (pb0:Nat) (pA0_0:Option Addr) (pc0_0:Nat) (p1:Int) (p2:Int) (w:World) (U:PHeap) (hS:St0 w U [.blk pb0 136 [.slice pA0_0 p0.bytes.length pc0_0,jV p0.next,.int .u32 p0.state]]) (ha0:Sl U 1 pA0_0 pc0_0 p0.bytes.length (hH KL.encB8 p0.bytes)) {r:Int × wAG} (hm:wAO p0 p1 p2=some r):Gv Tryz.prog 56 [.pointer (some ⟨pb0,0,none⟩),jV p1,jV p2] w (wDD w [.blk pb0 136 [.slice pA0_0 p0.bytes.length pc0_0,jV p0.next,.int .u32 p0.state]] U (fun U_ L_ v=>∃ (Ao00:Option Addr) (co00:Nat),v=jV r.1/\L_=[.blk pb0 136 [.slice Ao00 r.2.bytes.length co00,jV r.2.next,.int .u32 r.2.state]]/\Sl U_ 1 Ao00 co00 r.2.bytes.length (hH KL.encB8 r.2.bytes))):=by
 unfold wAO at hm
 refine Gv.of Tryz.func56 Z Tryz.ntmps56 Tryz.results56 Z (sR fL1 Z (oA Z Z (eN (sR (fC0_5 (.fx 6 (.fl 7 (.fl 8 (.nil))) .stop)) Z (oM Z Z (oM Z Z (oM Z Z (oM Z Z (oR Z (zm Z Z Z) (oR Z (zY Z Z Z) ?_))))))))))
 have q:=bnd hm
 obtain ⟨⟨x2,x3⟩,h4,hm5⟩:=q
 try dsimp only at hm5
 refine zN 1 Z Z Z Z (zO Z Z Tryz.call57 (zA Z (zA Z zV)) Z) hS (fun hs=>wBp p0 pb0 pA0_0 pc0_0 (w64 ((w64 (p2 - p1)) + 1)) w U hs ha0 h4) (.inl Z) ?_
 rintro U6 L7 v8 W9 le10 hS11 ⟨A12,c13,rfl,rfl,h14⟩
 have hS15:SW w [.blk pb0 136 [.slice pA0_0 p0.bytes.length pc0_0,jV p0.next,.int .u32 p0.state]] U U6 [.blk pb0 136 [.slice A12 x3.bytes.length c13,jV x3.next,.int .u32 x3.state]] W9:=hS11
 refine oR Z (zY Z Z Z) (oA Z Z (eN (zW ?_)))
 cases hm5
 exact ⟨Z,_,(zn Z),U6,_,hS15,A12,c13,Z,Z,h14⟩
theorem wDB (p0:wAG) (pb0:Nat) (pA0_0:Option Addr) (pc0_0:Nat) (p1:Int) (w:World) (U:PHeap) (hS:St0 w U [.blk pb0 136 [.slice pA0_0 p0.bytes.length pc0_0,jV p0.next,.int .u32 p0.state]]) (ha0:Sl U 1 pA0_0 pc0_0 p0.bytes.length (hH KL.encB8 p0.bytes)) {r:(List wAA) × wAG} (hm:wAj p0 p1=some r):Gv Tryz.prog 20 [.pointer (some ⟨pb0,0,none⟩),jV p1] w (wDD w [.blk pb0 136 [.slice pA0_0 p0.bytes.length pc0_0,jV p0.next,.int .u32 p0.state]] U (fun U_ L_ v=>∃ (A0:Option Addr) (c0:Nat) (Ao00:Option Addr) (co00:Nat),v=.slice A0 r.1.length c0/\L_=[.row A0 c0 28 2 (hH wAH r.1),.blk pb0 136 [.slice Ao00 r.2.bytes.length co00,jV r.2.next,.int .u32 r.2.state]]/\Sl U_ 1 Ao00 co00 r.2.bytes.length (hH KL.encB8 r.2.bytes))):=by
 unfold wAj at hm
 refine Gv.of Tryz.func20 Z Tryz.ntmps20 Tryz.results20 Z (sR fL1 Z (oA Z Z (eN (sR fL1 Z (oA Z Z (eN (zF (sR (.fl 0 (.fl 1 (.fx 2 (.fl 3 (.nil)) .stop))) Z (oM Z Z (oM Z Z ?_))))))))))
 have q:=bnd hm
 obtain ⟨⟨x2,x3⟩,h4,hm5⟩:=q
 try dsimp only at hm5
 refine zN 1 Z Z Z Z (zO Z Z Tryz.call56 (zA Z (zA Z (zA Z zV))) Z) hS (fun hs=>wBL p0 pb0 pA0_0 pc0_0 1 p1 w U hs ha0 h4) (.inl Z) ?_
 rintro U6 L7 v8 W9 le10 hS11 ⟨A12,c13,rfl,rfl,h14⟩
 let B0:Res:=.blk pb0 136 [.slice pA0_0 p0.bytes.length pc0_0,jV p0.next,.int .u32 p0.state]
 have hS15:SW w [B0] U U6 [.blk pb0 136 [.slice A12 x3.bytes.length c13,jV x3.next,.int .u32 x3.state]] W9:=hS11
 refine oM Z Z (eN (zR ?_))
 have q:=bnd hm5
 obtain ⟨⟨y58,y59,y60,y61⟩,hf55,hm54⟩:=q
 try dsimp only at hm54
 have q:=wCB hf55
 obtain ⟨hle56,hf57⟩:=q
 replace hle56:=zG hle56
 refine CK.forN' (fun k53 (l44,x47,x48,l49) σ_ w_=>∃ (U_:PHeap) (A45:Option Addr) (c46:Nat) (A50:Option Addr) (c51:Nat),σ_ 10=jV (↑k53:Int)/\σ_ 0=.pointer (some ⟨pb0,0,none⟩)/\σ_ 5=.slice A50 l49.length c51/\σ_ 9=jV x2/\PHeap.Le U6 U_/\SW w [B0] U U_ [.blk pb0 136 [.slice A45 l44.length c46,jV x47,.int .u32 x48],.row A50 c51 28 2 (hH wAH l49)] w_/\Sl U_ 1 A45 c46 l44.length (hH KL.encB8 l44)) hf57 ?_ ?_ ?_
 ·have hS62:=hS15.nilrow 28 2
  exact ⟨U6,A12,c13,none,0,rfl,rfl,rfl,rfl,(zL _),(hS62.pick [1,0] _ (by decide) rfl),h14⟩
 ·rintro k53 ⟨l44,x47,x48,l49⟩ xx66 σ64 W65 hk69 ⟨U71,A45,c46,A50,c51,fi70,f74,f75,f76,le72,hS73,h77⟩ hx67
  try dsimp only at hx67
  have c78:Hid ((↑k53:Int) < x2):=zG (wBk hk69)
  replace hk69:=zG hk69
  have hi79:Hid (w64 ((↑k53:Int) + 1)=(↑(k53 + 1):Int)):=zG (by have h1:=hle56.out;have h2:=c78.out;rw [wAg] <;> omega)
  refine sR fL1 Z (oR Z (zJ Z fi70 f76) (eN (zF (cT Z c78 (kN (zF (zR (sR fL2 Z (oM Z fi70 (oA Z Z (eN (rR (wMZ (.fx 4 (.fl 5 (.fl 6 (.fx 7 (.fl 8 (.fx 9 (wON (.fx 13 (.fx 14 (.fl 15 (.nil)) .stop) .stop)) .stop)) .stop))) .stop)) Z (oM Z f75 (oM Z Z (oR Z (Runs.mulw Z Z Z) (oM Z f74 ?_))))))))))))))))
  have q:=bnd hx67
  obtain ⟨⟨x80,x81⟩,h82,hm83⟩:=q
  try dsimp only at hm83
  refine zN 1 Z Z Z Z (zO Z Z Tryz.call56 (zA Z (zA Z (zA Z zV))) Z) hS73 (fun hs=>wBL (⟨l44,x47,x48⟩:wAG) pb0 A45 c46 1 5 W65 U71 hs h77 h82) (.inl Z) ?_
  rintro U84 L85 v86 W87 le88 hS89 ⟨A90,c91,rfl,rfl,h92⟩
  let B1:Res:=.row A50 c51 28 2 (hH wAH l49)
  have hS93:SW w [B0] U U84 [.blk pb0 136 [.slice A90 x81.bytes.length c91,jV x81.next,.int .u32 x81.state],B1] W87:=hS89
  refine oR Z (zY Z Z Z) (oM Z f74 ?_)
  have q:=bnd hm83
  obtain ⟨⟨x94,x95⟩,h96,hm97⟩:=q
  try dsimp only at hm97
  refine zN 1 Z Z Z Z (zO Z Z Tryz.call57 (zA Z (zA Z zV)) Z) hS93 (fun hs=>wBp x81 pb0 A90 c91 90 W87 U84 hs h92 h96) (.inl Z) ?_
  rintro U98 L99 v100 W101 le102 hS103 ⟨A104,c105,rfl,rfl,h106⟩
  have hS107:SW w [B0] U U98 [.blk pb0 136 [.slice A104 x95.bytes.length c105,jV x95.next,.int .u32 x95.state],B1] W101:=hS103
  refine oM Z f74 ?_
  have q:=bnd hm97
  obtain ⟨⟨x108,x109⟩,h110,hm111⟩:=q
  try dsimp only at hm111
  refine zN 1 Z Z Z Z (zO Z Z Tryz.call56 (zA Z (zA Z (zA Z zV))) Z) hS107 (fun hs=>wBL x95 pb0 A104 c105 1 9 W101 U98 hs h106 h110) (.inl Z) ?_
  rintro U112 L113 v114 W115 le116 hS117 ⟨A118,c119,rfl,rfl,h120⟩
  let B2:Res:=.blk pb0 136 [.slice A118 x109.bytes.length c119,jV x109.next,.int .u32 x109.state]
  have hS121:SW w [B0] U U112 [B2,B1] W115:=hS117
  refine oR Z (Runs.mulw Z Z Z) (oR Z (zY Z Z Z) ?_)
  let B3:List Value:=[jV (w64 ((w64 (5 * (↑k53:Int))) + x80)),jV (w64 (12000 + (w64 (x94 * x108))))]
  refine oR Z (Runs.build (pv:=[(0,jV (w64 ((w64 (5 * (↑k53:Int))) + x80))),(1,jV (w64 (12000 + (w64 (x94 * x108)))))]) (z:=[jV 0,jV 0]) (cs:=B3) Z (wAi Z (wAi Z wBO)) ZM wML Z Z) (ZE (pv:=[(0,.agg B3.toArray)]) (zs:=[jV 0,jV 0]) (cs:=B3) Z Z Z Z Z (wAi Z wBO) zQ zf ZM Z Z Z Z Z hS121 ?_)
  intro W122 b123 hS124
  let B4:Res:=.row (some ⟨b123,0,none⟩) 1 28 2 (hH wAH [(⟨w64 ((w64 (5 * (↑k53:Int))) + x80),w64 (12000 + (w64 (x94 * x108)))⟩:wAA)])
  have hS126:SW w [B0] U U112 [B4,B2,B1] W122:=hS124
  refine bnK hm111 fun x127 h128 hm129=>ZK (j:=2) (enc:=wAH) (xs:=l49) (ys:=[(⟨w64 ((w64 (5 * (↑k53:Int))) + x80),w64 (12000 + (w64 (x94 * x108)))⟩:wAA)]) (zs:=x127) rfl rfl rfl rfl rfl Tryz.underlying22 wMv rfl rfl rfl rfl rfl rfl hS126 rfl rfl rfl (hS126.srcR (j:=0) rfl (by decide) (wAF (f:=wAH) (sz:=2) (fun _=>rfl) [(⟨w64 ((w64 (5 * (↑k53:Int))) + x80),w64 (12000 + (w64 (x94 * x108)))⟩:wAA)])) (fun _=>rfl) (fun _=>rfl) h128 rfl ?_
  intro A130 c131 W132 hS133
  have hS134:SW w [B0] U U112 [B4,B2,.row A130 c131 28 2 (hH wAH x127)] W132:=hS133
  refine oA Z Z (zg (zi (zI (rR fL2 Z (oR Z (ZP (zY Z fi70 Z) (congrArg (jV) hi79.out)) (oM Z Z (zg ?_)))))))
  cases hm129
  exact zI ⟨rfl,⟨U112,A118,c119,A130,c131,rfl,f74,rfl,f76,(((le72.trans le88).trans le102).trans le116),(hS134.pick [1,2] _ (by decide) rfl),h120⟩⟩
 ·rintro σ143 W144 ⟨U159,A155,c156,A157,c158,fi146,f162,f163,f164,le160,hS161,h165⟩
  have c166:Hid (¬ ((↑((x2:Int) - 0).toNat:Int) < x2)):=zG (wBS)
  refine sR fL1 Z (oR Z (zJ Z fi146 f164) (eN (zF (cF Z c166 (ZC (zZ (zZ (zt (zI (sR fL2 Z (oM Z f163 (oA Z Z (eN (zW ?_))))))))))))))
  cases hm54
  exact ⟨rfl,_,(zn rfl),U159,_,(hS161.pick [1,0] _ (by decide) rfl),A157,c158,A155,c156,rfl,rfl,h165⟩
theorem wBu (p0:Int) (p1:Int) (w:World) (U:PHeap) (hS:St0 w U [])  {r:Int} (hm:wAc p0 p1=some r):Gv Tryz.prog 22 [jV p0,jV p1] w (wDD w [] U (fun U_ L_ v=>v=jV r/\L_=[])):=by
 unfold wAc at hm
 refine Gv.of Tryz.func22 Z Tryz.ntmps22 Tryz.results22 Z (sR fL1 Z (oA Z Z (eN (zF (sR fL2 Z (oM Z Z (oR Z (Runs.leq Z Z Z) (eN ?_))))))))
 by_cases c1:p1 <= 0
 ·have hm2:=hm;rw [if_pos c1] at hm2;replace c1:=zG c1
  refine cT Z c1 (sR fL1 Z (oA Z Z (eN (zW (zM ?_)))))
  cases hm2
  exact ⟨Z,_,(zn Z),U,_,hS,Z,Z⟩
 ·have hm3:=hm;rw [if_neg c1] at hm3;replace c1:=zG c1
  refine cF Z c1 (kN (sR fL8 Z (oM Z Z (oM Z Z (bnK hm3 fun x4 h5 hm6=>oR Z (Runs.rem Z Z Z h5) (oM Z Z (oR Z (zY Z Z Z) (oM Z Z (bnK hm6 fun x7 h8 hm9=>oR Z (Runs.rem Z Z Z h8) (oA Z Z (eN (zW ?_))))))))))))
  have hE:=nA hm9;first | subst r | cases hE
  exact ⟨Z,_,(zn Z),U,_,hS,Z,Z⟩
theorem wCi (p0:List wAA) (pA0:Option Addr) (pc0:Nat) (p1:(wAA->Option Bool)) (pv1:Value) (w:World) (U:PHeap) (hS:St0 w U []) (ha0:Sl U 2 pA0 pc0 p0.length (hH wAH p0)) (ha1:FnOK Tryz.prog U pv1 wPO wPP p1) {r:Bool} (hm:wAn p0 p1=some r):Gv Tryz.prog 125 [.slice pA0 p0.length pc0,pv1] w (wDD w [] U (fun U_ L_ v=>v=.bool r/\L_=[])):=by
 unfold wAn at hm
 refine Gv.of Tryz.func125 Z Tryz.ntmps125 Tryz.results125 Z (sR fL1 Z (oA Z Z (eN (zF (sR fL3 Z (oM Z Z (oR Z (zw Z Z zQ) (oM Z Z (eN (zR ?_))))))))))
 have q:=wCa hm
 obtain ⟨r3,hX4⟩:=q
 have q:=wCn hX4
 obtain ⟨hle5,hf6⟩:=q
 replace hle5:=zG hle5
 refine CK.forN (fun k2 _ σ_ w_=>∃ (U_:PHeap),σ_ 9=jV (↑k2:Int)/\σ_ 1=pv1/\σ_ 7=.slice pA0 p0.length pc0/\σ_ 8=jV (↑p0.length:Int)/\PHeap.Le U U_/\sW w U U_ [] w_) hf6 ?_ ?_ ?_
 ·exact ⟨U,Z,Z,Z,Z,(zL _),hS⟩
 ·rintro k2 ⟨⟩ xx9 σ7 W8 hk12 ⟨U14,fi13,f17,f18,f19,le15,hS16⟩ hx10 hb11
  try dsimp only at hx10
  have c20:Hid ((↑k2:Int) < (↑p0.length:Int)):=zG (wBk hk12)
  replace hk12:=zG hk12
  have hi21:Hid (w64 ((↑k2:Int) + 1)=(↑(k2 + 1):Int)):=zG (by have h1:=hle5.out;have h2:=c20.out;rw [wAg] <;> omega)
  refine sR fL1 Z (oR Z (zJ Z fi13 f19) (eN (zF (cT Z c20 (kN (zF (zR (sR (.fl 0 (.fl 1 (.fx 2 (.fx 3 (.nil) .stop) .stop))) Z (bnK hx10 fun x22 h23 hm24=>?_)))))))))
  have h25:=ha0.le le15
  have q:=h25.el (fun _=>rfl) (wAt h23)
  obtain ⟨b26,off27,hA28,hC29⟩:=q
  refine oR Z (ZB Z f18 hA28 fi13 zQ zf (wCE h23)) (oL Z (hS16.ldCA (f:=0) hC29 Z Z ZS zf (us:=[jV x22.Bib,jV x22.Time]) Z Z) (ZT (cs:=[jV 0,jV 0]) Z Z Z Z Z ZM Z hS16 ?_))
  intro W30 b31 hS32
  let B0:List Value:=[jV x22.Bib,jV x22.Time]
  refine OKS.st (j:=0) (vs:=B0) Z Z Z Z hS32 Z Z Z Z zf (zX Z) Z Z Z ?_
  intro W34 hS35
  have hS36:sW w U U14 [.blk b31 28 B0] W34:=hS35
  refine eN (sR (.fl 0 (.fl 1 (.fx 2 (.fl 3 (.nil)) .stop))) Z (oM Z f17 (oL Z (hS36.ldBA (j:=0) Z Z Z ZS zf (vs:=B0) Z Z) (bnK hm24 fun x37 h38 hm39=>?_))))
  have h46:=ha1.le le15
  refine OKS.callV (a:=x22) Z Z Z Z Z Z (zA Z zV) hS36 h46 Z h38 ?_
  rintro U40 L41 v42 W43 le44 hS45 ⟨rfl,rfl⟩
  have hS47:sW w U U40 [.blk b31 28 B0] W43:=hS45
  refine oR Z (Runs.notT Z Z) (eN (ifc hm39 ?_ ?_))
  ·intro c48 hm49
   refine zh (nC c48.out) (zp (zi (zI (rR fL2 Z (oR Z (ZP (zY Z fi13 Z) (congrArg (jV) hi21.out)) (oM Z Z (zg ?_)))))))
   obtain rfl:=nA hm49
   exact zI ⟨rfl,_,rfl,⟨U40,rfl,f17,f18,f19,(le15.trans le44),(hS47.pick [] _ (by decide) rfl)⟩⟩
  ·intro c48 hm50
   refine zz (nF (c48.out)) (sR fL1 Z (oA Z Z (eN (zW (zj (zM ?_))))))
   have q:=wAW hm50
   obtain ⟨v51,hm52,e53⟩:=q
   obtain rfl:=wBi hm hX4 (hb11 v51 e53)
   refine zM (zj (zM ?_))
   have hE:=nA hm52;first | subst r | cases hE
   exact ⟨rfl,_,(zn rfl),U40,_,(hS47.pick [] _ (by decide) rfl),rfl,rfl⟩
 ·rintro ⟨⟩ σ54 W55 ⟨U58,fi57,f61,f62,f63,le59,hS60⟩ hb56
  have hm64:=wDT hm hX4 hb56
  try dsimp only at hm64
  have c65:Hid (¬ ((↑(((↑p0.length:Int):Int) - 0).toNat:Int) < (↑p0.length:Int))):=zG (wBS)
  refine sR fL1 Z (oR Z (zJ Z fi57 f63) (eN (zF (cF Z c65 (ZC (zZ (zZ (zt (zI (sR fL1 Z (oA Z Z (eN (zW ?_)))))))))))))
  have hE:=nA hm64;first | subst r | cases hE
  exact ⟨Z,_,(zn Z),U58,_,hS60,Z,Z⟩
theorem wBv (p0:Int) (p1:Int) (p2:Int) (w:World) (U:PHeap) (hS:St0 w U [])  {r:Bool} (hm:wBP p0 p1 p2=some r):Gv Tryz.prog 86 [jV p0,jV p1,jV p2] w (wDD w [] U (fun U_ L_ v=>v=.bool r/\L_=[])):=by
 unfold wBP at hm
 refine Gv.of Tryz.func86 Z Tryz.ntmps86 Tryz.results86 Z (sR fL1 Z (oA Z Z (eN (sR fL9 Z (oM Z Z (oM Z Z (oR Z (Runs.geq Z Z Z) (oM Z Z ?_))))))))
 by_cases c1:p1 <= p0
 ·have hm2:=hm;rw [if_pos c1] at hm2;replace c1:=zG c1
  refine zD Z Z Z (wT Z c1) Z Z (zD Z Z Z (wT Z c1) Z Z (rU Z (wT Z c1) (Runs.leq Z Z Z) (oR Z (zK Z (zr c1.out) Z) (oA Z Z (eN (zW ?_))))))
  cases hm2
  exact ⟨Z,_,(zn Z),U,_,hS,Z,Z⟩
 ·have hm3:=hm;rw [if_neg c1] at hm3;replace c1:=zG c1
  refine oF Z c1 (oF Z c1 (oF Z c1 (oR Z (zP Z (zd c1.out) Z) (oA Z Z (eN (zW ?_))))))
  have hE:=nA hm3;first | subst r | cases hE
  exact ⟨Z,_,(zn Z),U,_,hS,Z,Z⟩
theorem wEQ (p0:wAA) (w:World) (U:PHeap) (hS:St0 w U [])  {r:Bool} (hm:wAo p0=some r):Gv Tryz.prog 126 [.agg #[jV p0.Bib,jV p0.Time]] w (wDD w [] U (fun U_ L_ v=>v=.bool r/\L_=[])):=by
 unfold wAo at hm
 refine Gv.of Tryz.func126 Z Tryz.ntmps126 Tryz.results126 Z (sR (.fx 0 (.fl 1 (.nil)) .stop) Z ?_)
 let B0:List Value:=[jV p0.Bib,jV p0.Time]
 refine OKS.box (cs:=B0) rfl rfl rfl rfl rfl rfl (by rfl) hS ?_
 intro W1 b2 hS3
 refine oA Z Z (eN (sR (.fl 0 (.fl 1 (.fx 2 (wOM (.fx 6 (.fl 7 (.fl 8 (.nil))) .stop)) .stop))) Z (oR Z (zk Z Z ze Z zB) (oL Z (hS3.ldB (j:=0) Z Z Z zE (v:=jV p0.Bib) Z) (bnK hm fun x5 h6 hm7=>zN 0 Z Z Z Z (zO Z Z Tryz.call86 (zA Z (zA Z (zA Z zV))) Z) hS3 (fun hs=>wBv p0.Bib 1 999 W1 U hs h6) (.inr Z) ?_)))))
 rintro U8 L9 v10 W11 le12 hS13 ⟨rfl,rfl⟩
 have hS14:sW w U U8 [.blk b2 28 B0] W11:=hS13
 refine oM Z Z (ifc hm7 ?_ ?_)
 ·intro c15 hm16
  refine zS Z Z Z (zH Z Z (congrArg nB c15.out)) (fun _=>zk Z Z ze Z zB) (ZA Z Z Z (zH Z Z (congrArg nB c15.out)) (hS14.ldB (j:=0) Z Z Z zE (v:=jV p0.Time) Z) Z (bnK hm16 fun x17 h18 hm19=>zN 0 Z Z Z (zH Z Z (congrArg nB c15.out)) (zO Z Z Tryz.call86 (zA Z (zA Z (zA Z zV))) Z) hS14 (fun hs=>wBv p0.Time 0 360000 W11 U8 hs h18) (.inr Z) ?_))
  rintro U20 L21 v22 W23 le24 hS25 ⟨rfl,rfl⟩
  have hS26:sW w U U20 [.blk b2 28 B0] W23:=hS25
  refine oR Z (zK Z (congrArg nB c15.out) Z) (oA Z Z (eN (zW ?_)))
  have hE:=nA hm19;first | subst r | cases hE
  exact ⟨rfl,_,(zn rfl),U20,_,(hS26.pick [] _ (by decide) rfl),rfl,rfl⟩
 ·intro c15 hm27
  refine zU Z Z Z (zu Z Z (congrArg nB (nD.2 c15.out)) Z) (zU Z Z Z (zu Z Z (congrArg nB (nD.2 c15.out)) Z) (OKS.px Z Z Z (zu Z Z (congrArg nB (nD.2 c15.out)) Z) (oR Z (zP Z (congrArg nB (nD.2 c15.out)) Z) (oA Z Z (eN (zW ?_))))))
  have hE:=nA hm27;first | subst r | cases hE
  exact ⟨rfl,_,(zn rfl),U8,_,(hS14.pick [] _ (by decide) rfl),rfl,rfl⟩
theorem wEF (p0:List Int) (pA0:Option Addr) (pc0:Nat) (w:World) (U:PHeap) (hS:St0 w U []) (ha0:Sl U 1 pA0 pc0 p0.length (hH KL.encI p0)) {r:Bool} (hm:wBc p0=some r):Gv Tryz.prog 87 [.slice pA0 p0.length pc0] w (wDD w [] U (fun U_ L_ v=>v=.bool r/\L_=[])):=by
 unfold wBc at hm
 refine Gv.of Tryz.func87 Z Tryz.ntmps87 Tryz.results87 Z (sR fL1 Z (oA Z Z (eN (sR (.fx 0 (.fl 1 (.nil)) .stop) Z (OKS.makeMap Z Z Z Z Z hS ?_)))))
 intro W1 b2 hS3
 have hr4:=MpR.nil wLP wMK
 refine oA Z Z (eN (zF (sR fL3 Z (oM Z Z (oR Z (zw Z Z zC) (oM Z Z (eN (zR ?_))))))))
 have q:=wCa hm
 obtain ⟨r21,hX22⟩:=q
 have q:=wCn hX22
 obtain ⟨hle23,hf24⟩:=q
 replace hle23:=zG hle23
 refine CK.forN (fun k20 l17 σ_ w_=>∃ (U_:PHeap) (es18:Array MapEntry) (ck19:Nat),σ_ 9=jV (↑k20:Int)/\σ_ 3=.map (some b2)/\σ_ 7=.slice pA0 p0.length pc0/\σ_ 8=jV (↑p0.length:Int)/\PHeap.Le U U_/\sW w U U_ [.obj b2 (.map es18 ck19)] w_/\MpR es18 wLP wMK l17) hf24 ?_ ?_ ?_
 ·exact ⟨U,#[],0,Z,Z,Z,Z,(zL _),hS3,hr4⟩
 ·rintro k20 l17 xx27 σ25 W26 hk30 ⟨U32,es18,ck19,fi31,f35,f36,f37,le33,hS34,h38⟩ hx28 hb29
  have c39:Hid ((↑k20:Int) < (↑p0.length:Int)):=zG (wBk hk30)
  replace hk30:=zG hk30
  have hi40:Hid (w64 ((↑k20:Int) + 1)=(↑(k20 + 1):Int)):=zG (by have h1:=hle23.out;have h2:=c39.out;rw [wAg] <;> omega)
  refine sR fL1 Z (oR Z (zJ Z fi31 f37) (eN (zF (cT Z c39 (kN (zF (zR (sR fL3 Z (bnK hx28 fun x41 h42 hm43=>?_)))))))))
  have h44:=ha0.le le33
  have q:=h44.el (fun _=>rfl) (wAt h42)
  obtain ⟨b45,off46,hA47,hC48⟩:=q
  refine oR Z (ZB Z f36 hA47 fi31 zC zB (wCE h42)) (oL Z (hS34.ldC (f:=0) hC48 (v:=jV x41) Z Z zE Z) (oA Z Z (eN (zF (sR fL3 Z (oM Z f35 (oM Z Z (oL Z (hS34.lookup1 (j:=0) (mk:=wLP) (mv:=wMK) (a:=x41) (z:=false) Z Z Z Z (wFv Tryz.runUnderlying180) wLR Tryz.zeroValue4 h38) (eN (ifc hm43 ?_ ?_))))))))))
  ·intro c49 hm50
   refine zz (congrArg nB c49.out) (sR fL1 Z (oA Z Z (eN (zW (zM (zj (zM ?_)))))))
   have q:=wAW hm50
   obtain ⟨v51,hm52,e53⟩:=q
   obtain rfl:=wBi hm hX22 (hb29 v51 e53)
   refine zM (zj (zM ?_))
   have hE:=nA hm52;first | subst r | cases hE
   exact ⟨rfl,_,(zn rfl),U32,_,(hS34.pick [] _ (by decide) rfl),rfl,rfl⟩
  ·intro c49 hm54
   refine zh (congrArg nB (nD.2 c49.out)) (kN (rR (.fl 0 (.fl 1 (.fx 2 (.nil) .stop))) rfl (zD rfl rfl rfl rfl rfl f35 (zD rfl rfl rfl rfl rfl rfl (OKS.mapPut (x:=.tmp 16) (y:=.tmp 17) (j:=0) (mk:=wLP) (mv:=wMK) (a:=x41) (v:=true) rfl rfl rfl (by first | exact .inl rfl | exact .inr rfl) hS34 rfl rfl rfl rfl (wFv Tryz.runUnderlying180) wLR h38 rfl ?_)))))
   intro es55 ck56 W57 hr58 hS59
   have hS60:sW w U U32 [.obj b2 (.map es55 ck56)] W57:=hS59
   refine zg (zi (zI (rR fL2 Z (oR Z (ZP (zY Z fi31 Z) (congrArg (jV) hi40.out)) (oM Z Z (zg ?_))))))
   obtain rfl:=nA hm54
   exact zI ⟨Z,_,Z,⟨U32,es55,ck56,Z,f35,f36,f37,le33,hS60,hr58⟩⟩
 ·rintro y68 σ64 W65 ⟨U71,e69,c70,fi67,f74,f75,f76,le72,hS73,h77⟩ hb66
  have hm78:=wDT hm hX22 hb66
  have c79:Hid (¬ ((↑(((↑p0.length:Int):Int) - 0).toNat:Int) < (↑p0.length:Int))):=zG (wBS)
  refine sR fL1 Z (oR Z (zJ Z fi67 f76) (eN (zF (cF Z c79 (ZC (zZ (zZ (zt (zI (sR fL1 Z (oA Z Z (eN (zW ?_)))))))))))))
  have hE:=nA hm78;first | subst r | cases hE
  exact ⟨rfl,_,(zn rfl),U71,_,(hS73.pick [] _ (by decide) rfl),rfl,rfl⟩
theorem wFb (p0:List wAA) (pA0:Option Addr) (pc0:Nat) (p1:wAC) (w:World) (U:PHeap) (hS:St0 w U []) (ha0:Sl U 2 pA0 pc0 p0.length (hH wAH p0)) {r:Int} (hm:wBa p0 p1=some r):Gv Tryz.prog 76 [.slice pA0 p0.length pc0,.agg #[jV p1.Unit,jV p1.Limit]] w (wDD w [] U (fun U_ L_ v=>v=jV r/\L_=[])):=by
 unfold wBa at hm
 refine Gv.of Tryz.func76 Z Tryz.ntmps76 Tryz.results76 Z (sR (.fx 0 (.fl 1 (.nil)) .stop) Z ?_)
 let B0:List Value:=[jV p1.Unit,jV p1.Limit]
 refine OKS.box (cs:=B0) rfl rfl rfl rfl rfl rfl (by rfl) hS ?_
 intro W1 b2 hS3
 refine oA Z Z (eN (sR fL1 Z (oA Z Z (eN (zF (sR fL3 Z (oM Z Z (oR Z (zw Z Z zQ) (oM Z Z (eN (zR (bnK hm fun y27 hf24 hm23=>?_))))))))))))
 have q:=wCB hf24
 obtain ⟨hle25,hf26⟩:=q
 replace hle25:=zG hle25
 refine CK.forN' (fun k22 l18 σ_ w_=>∃ (U_:PHeap) (A19:Option Addr) (c20:Nat),σ_ 10=jV (↑k22:Int)/\σ_ 0=.slice pA0 p0.length pc0/\σ_ 3=.pointer (some ⟨b2,0,none⟩)/\σ_ 5=.slice A19 l18.length c20/\σ_ 8=.slice pA0 p0.length pc0/\σ_ 9=jV (↑p0.length:Int)/\PHeap.Le U U_/\sW w U U_ [.blk b2 24 B0,.row A19 c20 3 1 (hH KL.encI l18)] w_) hf26 ?_ ?_ ?_
 ·have hS28:=hS3.nilrow 3 1
  exact ⟨U,none,0,rfl,rfl,rfl,rfl,rfl,rfl,(zL _),(hS28.pick [1,0] _ (by decide) rfl)⟩
 ·rintro k22 l18 xx32 σ30 W31 hk35 ⟨U37,A19,c20,fi36,f40,f41,f42,f43,f44,le38,hS39⟩ hx33
  have c45:Hid ((↑k22:Int) < (↑p0.length:Int)):=zG (wBk hk35)
  replace hk35:=zG hk35
  have hi46:Hid (w64 ((↑k22:Int) + 1)=(↑(k22 + 1):Int)):=zG (by have h1:=hle25.out;have h2:=c45.out;rw [wAg] <;> omega)
  refine sR fL1 Z (oR Z (zJ Z fi36 f44) (eN (zF (cT Z c45 (kN (zF (zR (sR (.fl 0 (.fl 1 (.fx 2 (.fx 3 (.nil) .stop) .stop))) Z (bnK hx33 fun x47 h48 hm49=>?_)))))))))
  have h50:=ha0.le le38
  have q:=h50.el (fun _=>rfl) (wAt h48)
  obtain ⟨b51,off52,hA53,hC54⟩:=q
  refine oR Z (ZB Z f43 hA53 fi36 zQ zf (wCE h48)) (oL Z (hS39.ldCA (f:=0) hC54 Z Z ZS zf (us:=[jV x47.Bib,jV x47.Time]) Z Z) (ZT (cs:=[jV 0,jV 0]) Z Z Z Z Z ZM Z hS39 ?_))
  intro W55 b56 hS57
  let B1:List Value:=[jV x47.Bib,jV x47.Time]
  refine OKS.st (j:=0) (vs:=B1) Z Z Z Z hS57 Z Z Z Z zf (zX Z) Z Z Z ?_
  intro W59 hS60
  let B2:Res:=.row A19 c20 3 1 (hH KL.encI l18)
  have hS61:sW w U U37 [.blk b56 28 B1,.blk b2 24 B0,B2] W59:=hS60
  refine eN (rR (wLk (.fx 3 (.fx 4 (.fl 5 (.nil)) .stop) .stop)) Z (oM Z f42 (oR Z (zk Z Z ze Z zB) (oL Z (hS61.ldB (j:=0) Z Z Z zE (v:=jV x47.Bib) Z) (ZE (pv:=[(0,jV x47.Bib)]) (zs:=[jV 0]) (cs:=[jV x47.Bib]) Z Z Z Z Z (wAi Z wBO) zC zB ZI Z Z Z Z Z hS61 ?_)))))
  intro W62 b63 hS64
  let B3:Res:=.row (some ⟨b63,0,none⟩) 1 3 1 (hH KL.encI [x47.Bib])
  have hS66:sW w U U37 [B3,.blk b56 28 B1,.blk b2 24 B0,B2] W62:=hS64
  refine bnK hm49 fun x67 h68 hm69=>ZK (j:=3) (enc:=KL.encI) (xs:=l18) (ys:=[x47.Bib]) (zs:=x67) rfl rfl rfl rfl rfl zx wDl rfl rfl rfl rfl rfl rfl hS66 rfl rfl rfl (hS66.srcR (j:=0) rfl (by decide) (wAF (f:=KL.encI) (sz:=1) (fun _=>rfl) [x47.Bib])) (fun _=>rfl) (fun _=>rfl) h68 rfl ?_
  intro A70 c71 W72 hS73
  have hS74:sW w U U37 [B3,.blk b56 28 B1,.blk b2 24 B0,.row A70 c71 3 1 (hH KL.encI x67)] W72:=hS73
  refine oA Z Z (zg (zi (zI (rR fL2 Z (oR Z (ZP (zY Z fi36 Z) (congrArg (jV) hi46.out)) (oM Z Z (zg ?_)))))))
  cases hm69
  exact zI ⟨rfl,⟨U37,A70,c71,rfl,f40,f41,rfl,f43,f44,le38,(hS74.pick [2,3] _ (by decide) rfl)⟩⟩
 ·rintro σ78 W79 ⟨U87,A85,c86,fi81,f90,f91,f92,f93,f94,le88,hS89⟩
  have c95:Hid (¬ ((↑(((↑p0.length:Int):Int) - 0).toNat:Int) < (↑p0.length:Int))):=zG (wBS)
  refine sR fL1 Z (oR Z (zJ Z fi81 f94) (eN (zF (cF Z c95 (ZC (zZ (zZ (zt (zI (zF (zR (sR fL4 Z (oM Z f90 (oR Z (zw Z Z zQ) (oR Z (ZQ Z Z Z) (oA Z Z (eN (ifc hm23 ?_ ?_))))))))))))))))))
  ·intro c96 hm97
   refine cT Z c96 (sR fL1 Z (oA Z Z (eN (zW (zj (zM ?_))))))
   cases hm97
   exact ⟨rfl,_,(zn rfl),U87,_,(hS89.pick [] _ (by decide) rfl),rfl,rfl⟩
  ·intro c96 hm98
   refine cF Z c96 (sR (.fl 0 (.fx 1 (fC2_5 (.fx 6 (wPh (.fx 12 (wOP (.nil)) .stop)) .stop)) .stop)) Z (oM Z f90 ?_))
   have h99:=ha0.le le88
   have hF100:FnOK Tryz.prog U87 (.func (.func 126) #[] #[]) wPO wPP wAo:=⟨126,[],[],rfl,Tryz.call126,fun U1 w1 x y vs le hs ha hm=>by obtain rfl:=ha;exact wEQ x w1 U1 hs  hm⟩
   refine bnK hm98 fun x101 h102 hm103=>zN 0 Z Z Z Z (zO Z Z Tryz.call125 (zA Z (zA Z zV)) Z) hS89 (fun hs=>wCi p0 pA0 pc0 wAo (.func (.func 126) #[] #[]) W79 U87 hs h99 hF100 h102) (.inr Z) ?_
   rintro U104 L105 v106 W107 le108 hS109 ⟨rfl,rfl⟩
   let B4:Res:=.row A85 c86 3 1 (hH KL.encI y27)
   have hS110:sW w U U104 [.blk b2 24 B0,B4] W107:=hS109
   refine oR Z (Runs.notT Z Z) (oM Z Z (ifc hm103 ?_ ?_))
   ·intro c111 hm112
    refine zS Z Z Z (zH Z Z (nC c111.out)) (fun _=>zk Z f91 ZN Z zB) (ZA Z Z Z (zH Z Z (nC c111.out)) (hS110.ldB (j:=0) Z Z Z zE (v:=jV p1.Unit) Z) Z (bnK hm112 fun x113 h114 hm115=>zN 0 Z Z Z (zH Z Z (nC c111.out)) (zO Z Z Tryz.call86 (zA Z (zA Z (zA Z zV))) Z) hS110 (fun hs=>wBv p1.Unit 1 600 W107 U104 hs h114) (.inr Z) ?_))
    rintro U116 L117 v118 W119 le120 hS121 ⟨rfl,rfl⟩
    have hS122:sW w U U116 [.blk b2 24 B0,B4] W119:=hS121
    refine zS Z Z Z (zH Z Z (nC c111.out)) (fun _=>Runs.notT Z Z) (oR Z (zP Z (nC c111.out) Z) (oM Z Z (ifc hm115 ?_ ?_)))
    ·intro c123 hm124
     refine zS Z Z Z (zH Z Z (nC c123.out)) (fun _=>zk Z f91 ZN Z zB) (ZA Z Z Z (zH Z Z (nC c123.out)) (hS122.ldB (j:=0) Z Z Z zE (v:=jV p1.Limit) Z) Z (bnK hm124 fun x125 h126 hm127=>zN 0 Z Z Z (zH Z Z (nC c123.out)) (zO Z Z Tryz.call86 (zA Z (zA Z (zA Z zV))) Z) hS122 (fun hs=>wBv p1.Limit 0 360000 W119 U116 hs h126) (.inr Z) ?_))
     rintro U128 L129 v130 W131 le132 hS133 ⟨rfl,rfl⟩
     have hS134:sW w U U128 [.blk b2 24 B0,B4] W131:=hS133
     refine zS Z Z Z (zH Z Z (nC c123.out)) (fun _=>Runs.notT Z Z) (oR Z (zP Z (nC c123.out) Z) (oA Z Z (eN (ifc hm127 ?_ ?_))))
     ·intro c135 hm136
      refine zh (nC c135.out) (sR (.fl 0 (.fx 1 (.fl 2 (.nil)) .stop)) Z (oM Z f92 ?_))
      have q:=hS134.freezeR (k:=1) (n:=y27.length) rfl (wAF (f:=KL.encI) (sz:=1) (fun _=>rfl) y27) (by decide)
      obtain ⟨U137,le138,hs139,hS140⟩:=q
      have hS141:sW w U U137 [.blk b2 24 B0] W131:=hS140
      refine bnK hm136 fun x142 h143 hm144=>zN 0 Z Z Z Z (zO Z Z Tryz.call87 (zA Z zV) Z) hS141 (fun hs=>wEF y27 A85 c86 W131 U137 hs hs139 h143) (.inr Z) ?_
      rintro U145 L146 v147 W148 le149 hS150 ⟨rfl,rfl⟩
      have hS151:sW w U U145 [.blk b2 24 B0] W148:=hS150
      refine oA Z Z (eN (ifc hm144 ?_ ?_))
      ·intro c152 hm153
       refine zz (congrArg nB c152.out) (sR fL1 Z (oA Z Z (eN (zW (zj (zM ?_))))))
       cases hm153
       exact ⟨rfl,_,(zn rfl),U145,_,(hS151.pick [] _ (by decide) rfl),rfl,rfl⟩
      ·intro c152 hm154
       refine zh (congrArg nB (nD.2 c152.out)) (zp (zi (zI (sR fL1 Z (oA Z Z (eN (zW ?_)))))))
       cases hm154
       exact ⟨rfl,_,(zn rfl),U145,_,(hS151.pick [] _ (by decide) rfl),rfl,rfl⟩
     ·intro c135 hm155
      refine zz (nF (c135.out)) (sR fL1 Z (oA Z Z (eN (zW (zj (zM ?_))))))
      cases hm155
      exact ⟨rfl,_,(zn rfl),U128,_,(hS134.pick [] _ (by decide) rfl),rfl,rfl⟩
    ·intro c123 hm156
     refine zU Z Z Z (zu Z Z (nF (c123.out)) Z) (zU Z Z Z (zu Z Z (nF (c123.out)) Z) (OKS.px Z Z Z (zu Z Z (nF (c123.out)) Z) (zU Z Z Z (zu Z Z (nF (c123.out)) Z) (oR Z (zK Z (nF (c123.out)) Z) (oA Z Z (eN (zz Z (sR fL1 Z (oA Z Z (eN (zW (zj (zM ?_)))))))))))))
     cases hm156
     exact ⟨rfl,_,(zn rfl),U116,_,(hS122.pick [] _ (by decide) rfl),rfl,rfl⟩
   ·intro c111 hm157
    refine zU Z Z Z (zu Z Z (nF (c111.out)) Z) (zU Z Z Z (zu Z Z (nF (c111.out)) Z) (OKS.px Z Z Z (zu Z Z (nF (c111.out)) Z) (zU Z Z Z (zu Z Z (nF (c111.out)) Z) (oR Z (zK Z (nF (c111.out)) Z) (oM Z Z (oN Z (oN Z (OKS.px Z Z Z (zu Z Z Z Z) (oN Z (oR Z (zK Z Z Z) (oA Z Z (eN (zz Z (sR fL1 Z (oA Z Z (eN (zW (zj (zM ?_)))))))))))))))))))
    cases hm157
    exact ⟨rfl,_,(zn rfl),U104,_,(hS110.pick [] _ (by decide) rfl),rfl,rfl⟩
end Go.Proofs.YtghaibkggdecnaaGreat
namespace Go.Proofs.YtghaibkggdecnaaGreat
open Go.KL
set_option maxHeartbeats 4000000
theorem wCJ (p0:List wAA) (pA0:Option Addr) (pc0:Nat) (p1:wAC) (w:World) (U:PHeap) (hS:St0 w U []) (ha0:Sl U 2 pA0 pc0 p0.length (hH wAH p0)) {r:(List Int) × Int} (hm:wAl p0 p1=some r):Gv Tryz.prog 13 [.slice pA0 p0.length pc0,.agg #[jV p1.Unit,jV p1.Limit]] w (wDD w [] U (fun U_ L_ v=>∃ (A0:Option Addr) (c0:Nat),v=.tuple #[.slice A0 r.1.length c0,jV r.2]/\L_=[.row A0 c0 3 1 (hH KL.encI r.1)])):=by
 unfold wAl at hm
 refine Gv.of Tryz.func13 Z Tryz.ntmps13 Tryz.results13 Z (sR (.fx 0 (.fl 1 (.fl 2 (.nil))) .stop) Z ?_)
 let B0:List Value:=[jV p1.Unit,jV p1.Limit]
 refine OKS.box (cs:=B0) rfl rfl rfl rfl rfl rfl (by rfl) hS ?_
 intro W1 b2 hS3
 refine oA Z Z (oA Z Z (eN (zF (sR (.fl 0 (.fl 1 (.fx 2 (.fl 3 (.nil)) .stop))) Z (oM Z Z (oL Z (hS3.ldBA (j:=0) Z Z Z Tryz.isAgg24 Tryz.sizeOf24 (vs:=B0) Z Z) (bnK hm fun x5 h6 hm7=>zN 0 Z Z Z Z (zO Z Z Tryz.call76 (zA Z (zA Z zV)) Z) hS3 (fun hs=>wFb p0 pA0 pc0 p1 W1 U hs ha0 h6) (.inr Z) ?_)))))))
 rintro U8 L9 v10 W11 le12 hS13 ⟨rfl,rfl⟩
 have hS14:sW w U U8 [.blk b2 24 B0] W11:=hS13
 refine oA Z Z (eN (sR fL2 Z (oM Z Z (oR Z (ZO Z Z Z) (eN (ifc hm7 ?_ ?_))))))
 ·intro c15 hm16
  refine zh (zd (fun h=>h c15.out)) (kN (sR fL1 Z (oA Z Z (eN (zF (sR fL3 Z (oM Z Z (oR Z (zw Z Z zQ) (oM Z Z (eN (zR (bnK hm16 fun y28 hf25 hm24=>?_))))))))))))
  have q:=wCB hf25
  obtain ⟨hle26,hf27⟩:=q
  replace hle26:=zG hle26
  refine CK.forN' (fun k23 x22 σ_ w_=>∃ (U_:PHeap),σ_ 22=jV (↑k23:Int)/\σ_ 0=.slice pA0 p0.length pc0/\σ_ 3=.pointer (some ⟨b2,0,none⟩)/\σ_ 7=jV x22/\σ_ 20=.slice pA0 p0.length pc0/\σ_ 21=jV (↑p0.length:Int)/\PHeap.Le U8 U_/\sW w U U_ [.blk b2 24 B0] w_) hf27 ?_ ?_ ?_
  ·exact ⟨U8,Z,Z,Z,Z,Z,Z,(zL _),hS14⟩
  ·rintro k23 x22 xx31 σ29 W30 hk34 ⟨U36,fi35,f39,f40,f41,f42,f43,le37,hS38⟩ hx32
   have c44:Hid ((↑k23:Int) < (↑p0.length:Int)):=zG (wBk hk34)
   replace hk34:=zG hk34
   have hi45:Hid (w64 ((↑k23:Int) + 1)=(↑(k23 + 1):Int)):=zG (by have h1:=hle26.out;have h2:=c44.out;rw [wAg] <;> omega)
   refine sR fL1 Z (oR Z (zJ Z fi35 f43) (eN (zF (cT Z c44 (kN (zF (zR (sR (.fl 0 (.fl 1 (.fx 2 (.fx 3 (.nil) .stop) .stop))) Z (bnK hx32 fun x46 h47 hm48=>?_)))))))))
   have h49:=ha0.le le12
   have h50:=h49.le le37
   have q:=h50.el (fun _=>rfl) (wAt h47)
   obtain ⟨b51,off52,hA53,hC54⟩:=q
   refine oR Z (ZB Z f42 hA53 fi35 zQ zf (wCE h47)) (oL Z (hS38.ldCA (f:=0) hC54 Z Z ZS zf (us:=[jV x46.Bib,jV x46.Time]) Z Z) (ZT (cs:=[jV 0,jV 0]) Z Z Z Z Z ZM Z hS38 ?_))
   intro W55 b56 hS57
   let B1:List Value:=[jV x46.Bib,jV x46.Time]
   refine OKS.st (j:=0) (vs:=B1) Z Z Z Z hS57 Z Z Z Z zf (zX Z) Z Z Z ?_
   intro W59 hS60
   have hS61:sW w U U36 [.blk b56 28 B1,.blk b2 24 B0] W59:=hS60
   refine eN (rR fL5 Z (oM Z f41 (oR Z (zk Z Z ze Z zB) (oL Z (hS61.ldB (j:=0) Z Z Z zE (v:=jV x46.Time) Z) (oR Z (Runs.min Z Z Z) (oA Z Z (zg (zi (zI (rR fL2 Z (oR Z (ZP (zY Z fi35 Z) (congrArg (jV) hi45.out)) (oM Z Z (zg ?_)))))))))))))
   cases hm48
   exact zI ⟨rfl,⟨U36,rfl,f39,f40,rfl,f42,f43,le37,(hS61.pick [1] _ (by decide) rfl)⟩⟩
  ·rintro σ63 W64 ⟨U68,fi66,f71,f72,f73,f74,f75,le69,hS70⟩
   have c76:Hid (¬ ((↑(((↑p0.length:Int):Int) - 0).toNat:Int) < (↑p0.length:Int))):=zG (wBS)
   refine sR fL1 Z (oR Z (zJ Z fi66 f75) (eN (zF (cF Z c76 (ZC (zZ (zZ (zt (zI (sR fL1 Z (oA Z Z (eN (zF (sR fL3 Z (oM Z f71 (oR Z (zw Z Z zQ) (oM Z Z (eN (zR (bnK hm24 fun y99 hf96 hm95=>?_))))))))))))))))))))
   have q:=wCB hf96
   obtain ⟨hle97,hf98⟩:=q
   replace hle97:=zG hle97
   refine CK.forN' (fun k94 l90 σ_ w_=>∃ (U_:PHeap) (A91:Option Addr) (c92:Nat),σ_ 33=jV (↑k94:Int)/\σ_ 3=.pointer (some ⟨b2,0,none⟩)/\σ_ 7=jV y28/\σ_ 10=.slice A91 l90.length c92/\σ_ 31=.slice pA0 p0.length pc0/\σ_ 32=jV (↑p0.length:Int)/\PHeap.Le U68 U_/\sW w U U_ [.blk b2 24 B0,.row A91 c92 3 1 (hH KL.encI l90)] w_) hf98 ?_ ?_ ?_
   ·have hS100:=hS70.nilrow 3 1
    exact ⟨U68,none,0,rfl,f72,f73,rfl,rfl,rfl,(zL _),(hS100.pick [1,0] _ (by decide) rfl)⟩
   ·rintro k94 l90 xx104 σ102 W103 hk107 ⟨U109,A91,c92,fi108,f112,f113,f114,f115,f116,le110,hS111⟩ hx105
    have c117:Hid ((↑k94:Int) < (↑p0.length:Int)):=zG (wBk hk107)
    replace hk107:=zG hk107
    have hi118:Hid (w64 ((↑k94:Int) + 1)=(↑(k94 + 1):Int)):=zG (by have h1:=hle97.out;have h2:=c117.out;rw [wAg] <;> omega)
    refine sR fL1 Z (oR Z (zJ Z fi108 f116) (eN (zF (cT Z c117 (kN (zF (zR (sR (.fl 0 (.fl 1 (.fx 2 (.fx 3 (.nil) .stop) .stop))) Z (bnK hx105 fun x119 h120 hm121=>?_)))))))))
    have h122:=ha0.le le12
    have h123:=h122.le le69
    have h124:=h123.le le110
    have q:=h124.el (fun _=>rfl) (wAt h120)
    obtain ⟨b125,off126,hA127,hC128⟩:=q
    refine oR Z (ZB Z f115 hA127 fi108 zQ zf (wCE h120)) (oL Z (hS111.ldCA (f:=0) hC128 Z Z ZS zf (us:=[jV x119.Bib,jV x119.Time]) Z Z) (ZT (cs:=[jV 0,jV 0]) Z Z Z Z Z ZM Z hS111 ?_))
    intro W129 b130 hS131
    let B2:List Value:=[jV x119.Bib,jV x119.Time]
    refine OKS.st (j:=0) (vs:=B2) Z Z Z Z hS131 Z Z Z Z zf (zX Z) Z Z Z ?_
    intro W133 hS134
    let B3:Res:=.row A91 c92 3 1 (hH KL.encI l90)
    have hS135:sW w U U109 [.blk b130 28 B2,.blk b2 24 B0,B3] W133:=hS134
    refine eN (sR fL5 rfl (zS rfl rfl rfl rfl (fun _=>zk rfl rfl ze rfl zB) (ZA rfl rfl rfl rfl (hS135.ldB (j:=0) rfl rfl rfl zE (v:=jV x119.Time) rfl) rfl (zD rfl rfl rfl rfl rfl f113 (zS rfl rfl rfl rfl (fun _=>zm rfl rfl rfl) (OKS.ra rfl rfl rfl rfl rfl rfl (eN (ZJ ZH [3,3,3,3,1,3,3,3,1,3,2,0,3] (fC0_9 (.fx 10 (.fx 11 (.fl 12 (.nil)) .stop) .stop)) (by kernel_rfl) ?_))))))))
    have hS136:=hS135.drew
    generalize hw_W137:({ W133 with drawn:=W133.drawn + 1 }:World)=W137 at hS136 ⊢
    refine oM Z f114 (oM Z Z (oM Z Z (oR Z (zk Z f112 ZN Z zB) (oL Z (hS136.ldB (j:=1) Z Z Z zE (v:=jV p1.Unit) Z) (bnK hm121 fun x138 h139 hm140=>oR Z (Runs.rem Z Z Z h139) (oR Z (zm Z Z Z) (oR Z (zk Z f112 ZN Z zB) (oL Z (hS136.ldB (j:=1) Z Z Z zE (v:=jV p1.Limit) Z) (oR Z (Runs.min Z Z Z) (ZE (pv:=[(0,jV (min (w64 ((w64 (x119.Time - y28)) - x138)) p1.Limit))]) (zs:=[jV 0]) (cs:=[jV (min (w64 ((w64 (x119.Time - y28)) - x138)) p1.Limit)]) Z Z Z Z Z (wAi Z wBO) zC zB ZI Z Z Z Z Z hS136 ?_))))))))))
    intro W141 b142 hS143
    let B4:Res:=.row (some ⟨b142,0,none⟩) 1 3 1 (hH KL.encI [min (w64 ((w64 (x119.Time - y28)) - x138)) p1.Limit])
    have hS145:sW w U U109 [B4,.blk b130 28 B2,.blk b2 24 B0,B3] W141:=hS143
    refine bnK hm140 fun x146 h147 hm148=>ZK (j:=3) (enc:=KL.encI) (xs:=l90) (ys:=[min (w64 ((w64 (x119.Time - y28)) - x138)) p1.Limit]) (zs:=x146) rfl rfl rfl rfl rfl zx wDl rfl rfl rfl rfl rfl rfl hS145 rfl rfl rfl (hS145.srcR (j:=0) rfl (by decide) (wAF (f:=KL.encI) (sz:=1) (fun _=>rfl) [min (w64 ((w64 (x119.Time - y28)) - x138)) p1.Limit])) (fun _=>rfl) (fun _=>rfl) h147 rfl ?_
    intro A149 c150 W151 hS152
    have hS153:sW w U U109 [B4,.blk b130 28 B2,.blk b2 24 B0,.row A149 c150 3 1 (hH KL.encI x146)] W151:=hS152
    refine oA Z Z (zg (zi (zI (rR fL2 Z (oR Z (ZP (zY Z fi108 Z) (congrArg (jV) hi118.out)) (oM Z Z (zg ?_)))))))
    cases hm148
    exact zI ⟨rfl,⟨U109,A149,c150,rfl,f112,f113,rfl,f115,f116,le110,(hS153.pick [2,3] _ (by decide) rfl)⟩⟩
   ·rintro σ157 W158 ⟨U166,A164,c165,fi160,f169,f170,f171,f172,f173,le167,hS168⟩
    have c174:Hid (¬ ((↑(((↑p0.length:Int):Int) - 0).toNat:Int) < (↑p0.length:Int))):=zG (wBS)
    refine sR fL1 Z (oR Z (zJ Z fi160 f173) (eN (zF (cF Z c174 (ZC (zZ (zZ (zt (zI (sR fL3 Z (oM Z f171 (oA Z Z (oA Z Z (eN (zW ?_)))))))))))))))
    cases hm95
    exact ⟨rfl,_,(res2 rfl rfl),U166,_,(hS168.pick [1] _ (by decide) rfl),A164,c165,rfl,rfl⟩
 ·intro c15 hm175
  refine cT Z c15 (sR fL3 Z (oM Z Z (oA Z Z (oA Z Z (eN (zW (zM ?_)))))))
  have hS176:=hS14.nilrow 3 1
  cases hm175
  exact ⟨rfl,_,(res2 rfl rfl),U8,_,(hS176.pick [0] _ (by decide) rfl),none,0,rfl,rfl⟩
theorem wBm (p0:Int) (w:World) (U:PHeap) (hS:St0 w U [])  {r:Bool} (hm:wAy p0=some r):Gv Tryz.prog 128 [jV p0] w (wDD w [] U (fun U_ L_ v=>v=.bool r/\L_=[])):=by
 unfold wAy at hm
 refine Gv.of Tryz.func128 Z Tryz.ntmps128 Tryz.results128 Z (sR fL1 Z (oA Z Z (eN (sR fL4 Z (oM Z Z (oM Z Z (oR Z (ZO Z Z Z) (oA Z Z (eN (zW ?_))))))))))
 cases hm
 exact ⟨Z,_,(zn Z),U,_,hS,Z,Z⟩
theorem wCj (p0:Int) (p1:Int) (w:World) (U:PHeap) (hS:St0 w U [])  {r:Int} (hm:wBH p0 p1=some r):Gv Tryz.prog 82 [jV p0,jV p1] w (wDD w [] U (fun U_ L_ v=>v=jV r/\L_=[])):=by
 unfold wBH at hm
 refine Gv.of Tryz.func82 Z Tryz.ntmps82 Tryz.results82 Z (sR fL1 Z (oA Z Z (eN (sR (.fl 0 (.fx 1 (.fl 2 (.nil)) .stop)) Z (oM Z Z (bnK hm fun x1 h2 hm3=>zN 0 Z Z Z Z (zO Z Z Tryz.call128 (zA Z zV) Z) hS (fun hs=>wBm p0 w U hs h2) (.inr Z) ?_))))))
 rintro U4 L5 v6 W7 le8 hS9 ⟨rfl,rfl⟩
 have hS10:sW w U U4 [] W7:=hS9
 refine oA Z Z (eN (sR (.fl 0 (.fx 1 (.fl 2 (.nil)) .stop)) Z (oM Z Z (bnK hm3 fun x11 h12 hm13=>zN 0 Z Z Z Z (zO Z Z Tryz.call128 (zA Z zV) Z) hS10 (fun hs=>wBm p1 W7 U4 hs h12) (.inr Z) ?_))))
 rintro U14 L15 v16 W17 le18 hS19 ⟨rfl,rfl⟩
 have hS20:sW w U U14 [] W17:=hS19
 refine oA Z Z (eN (zF (sR fL1 Z (oM Z Z (eN (ifc hm13 ?_ ?_))))))
 ·intro c21 hm22
  refine zz (congrArg nB c21.out) (zF (sR fL1 Z (oM Z Z (eN (ifc hm22 ?_ ?_)))))
  ·intro c23 hm24
   refine zz (congrArg nB c23.out) (sR fL1 Z (oA Z Z (eN (zW (zM (zM ?_))))))
   cases hm24
   exact ⟨Z,_,(zn Z),U14,_,hS20,Z,Z⟩
  ·intro c23 hm25
   refine zh (congrArg nB (nD.2 c23.out)) (kN (sR fL1 Z (oA Z Z (eN (zW (zM ?_))))))
   cases hm25
   exact ⟨Z,_,(zn Z),U14,_,hS20,Z,Z⟩
 ·intro c21 hm26
  refine zh (congrArg nB (nD.2 c21.out)) (kN (zF (sR fL1 Z (oM Z Z (eN (ifc hm26 ?_ ?_))))))
  ·intro c27 hm28
   refine zz (congrArg nB c27.out) (sR fL1 Z (oA Z Z (eN (zW (zM ?_)))))
   cases hm28
   exact ⟨Z,_,(zn Z),U14,_,hS20,Z,Z⟩
  ·intro c27 hm29
   refine zh (congrArg nB (nD.2 c27.out)) (kN (zF (sR fL3 Z (oM Z Z (oM Z Z (oR Z (zJ Z Z Z) (eN (ifc hm29 ?_ ?_))))))))
   ·intro c30 hm31
    refine cT Z c30 (sR fL1 Z (oA Z Z (eN (zW (zM ?_)))))
    cases hm31
    exact ⟨Z,_,(zn Z),U14,_,hS20,Z,Z⟩
   ·intro c30 hm32
    refine cF Z c30 (kN (zF (sR fL3 Z (oM Z Z (oM Z Z (oR Z (ZQ Z Z Z) (eN (ifc hm32 ?_ ?_))))))))
    ·intro c33 hm34
     refine cT Z c33 (sR fL1 Z (oA Z Z (eN (zW (zM ?_)))))
     cases hm34
     exact ⟨Z,_,(zn Z),U14,_,hS20,Z,Z⟩
    ·intro c33 hm35
     refine cF Z c33 (kN (sR fL1 Z (oA Z Z (eN (zW ?_)))))
     cases hm35
     exact ⟨Z,_,(zn Z),U14,_,hS20,Z,Z⟩
theorem wHL (p0:List Int) (pA0:Option Addr) (pc0:Nat) (w:World) (U:PHeap) (hS:St0 w U []) (ha0:Sl U 1 pA0 pc0 p0.length (hH KL.encI p0)) {r:Int} (hm:wCF p0=some r):Gv Tryz.prog 81 [.slice pA0 p0.length pc0] w (wDD w [] U (fun U_ L_ v=>v=jV r/\L_=[])):=by
 unfold wCF at hm
 refine Gv.of Tryz.func81 Z Tryz.ntmps81 Tryz.results81 Z (sR fL1 Z (oA Z Z (eN (sR fL1 Z (oA Z Z (eN (zF (sR fL3 Z (oM Z Z (oR Z (zw Z Z zC) (oM Z Z (eN (zR ?_)))))))))))))
 have q:=wCa hm
 obtain ⟨r3,hX4⟩:=q
 have q:=wCn hX4
 obtain ⟨hle5,hf6⟩:=q
 replace hle5:=zG hle5
 refine CK.forN (fun k2 _ σ_ w_=>∃ (U_:PHeap),σ_ 8=jV (↑k2:Int)/\σ_ 3=jV 0/\σ_ 6=.slice pA0 p0.length pc0/\σ_ 7=jV (↑p0.length:Int)/\PHeap.Le U U_/\sW w U U_ [] w_) hf6 ?_ ?_ ?_
 ·exact ⟨U,Z,Z,Z,Z,(zL _),hS⟩
 ·rintro k2 ⟨⟩ xx9 σ7 W8 hk12 ⟨U14,fi13,f17,f18,f19,le15,hS16⟩ hx10 hb11
  try dsimp only at hx10
  have c20:Hid ((↑k2:Int) < (↑p0.length:Int)):=zG (wBk hk12)
  replace hk12:=zG hk12
  have hi21:Hid (w64 ((↑k2:Int) + 1)=(↑(k2 + 1):Int)):=zG (by have h1:=hle5.out;have h2:=c20.out;rw [wAg] <;> omega)
  refine sR fL1 Z (oR Z (zJ Z fi13 f19) (eN (zF (cT Z c20 (kN (zF (zR (sR fL3 Z (bnK hx10 fun x22 h23 hm24=>?_)))))))))
  have h25:=ha0.le le15
  have q:=h25.el (fun _=>rfl) (wAt h23)
  obtain ⟨b26,off27,hA28,hC29⟩:=q
  refine oR Z (ZB Z f18 hA28 fi13 zC zB (wCE h23)) (oL Z (hS16.ldC (f:=0) hC29 (v:=jV x22) Z Z zE Z) (oA Z Z (eN (sR fL3 Z (oM Z Z (oM Z f17 (oR Z (ZO Z Z Z) (eN (ifc hm24 ?_ ?_)))))))))
  ·intro c30 hm31
   refine zh (zd (fun h=>h c30.out)) (zp (zi (zI (rR fL2 Z (oR Z (ZP (zY Z fi13 Z) (congrArg (jV) hi21.out)) (oM Z Z (zg ?_)))))))
   obtain rfl:=nA hm31
   exact zI ⟨Z,_,Z,⟨U14,Z,f17,f18,f19,le15,hS16⟩⟩
  ·intro c30 hm32
   refine cT Z c30 (sR fL2 Z (oM Z Z (oA Z Z (eN (zW (zj (zM ?_)))))))
   have q:=wAW hm32
   obtain ⟨v33,hm34,e35⟩:=q
   obtain rfl:=wBi hm hX4 (hb11 v33 e35)
   refine zM (zj (zM ?_))
   have hE:=nA hm34;first | subst r | cases hE
   exact ⟨Z,_,(zn Z),U14,_,hS16,Z,Z⟩
 ·rintro ⟨⟩ σ36 W37 ⟨U40,fi39,f43,f44,f45,le41,hS42⟩ hb38
  have hm46:=wDT hm hX4 hb38
  try dsimp only at hm46
  have c47:Hid (¬ ((↑(((↑p0.length:Int):Int) - 0).toNat:Int) < (↑p0.length:Int))):=zG (wBS)
  refine sR fL1 Z (oR Z (zJ Z fi39 f45) (eN (zF (cF Z c47 (ZC (zZ (zZ (zt (zI (sR fL2 Z (oM Z f43 (oA Z Z (eN (zW ?_))))))))))))))
  cases hm46
  exact ⟨Z,_,(zn Z),U40,_,hS42,Z,Z⟩
theorem wER (p0:Int) (p1:Int) (p2:List Int) (pb2:Nat) (pA2:Option Addr) (pc2:Nat) (p3:List wAA) (pb3:Nat) (pA3:Option Addr) (pc3:Nat) (w:World) (U:PHeap) (hS:St0 w U []) (ha0:Cl U pb2 0 [.slice pA2 p2.length pc2]) (ha1:Sl U 1 pA2 pc2 p2.length (hH KL.encI p2)) (ha2:Cl U pb3 0 [.slice pA3 p3.length pc3]) (ha3:Sl U 2 pA3 pc3 p3.length (hH wAH p3)) {r:Int} (hm:wAp p0 p1 p2 p3=some r):Gv Tryz.prog 80 [jV p0,jV p1,.pointer (some ⟨pb2,0,none⟩),.pointer (some ⟨pb3,0,none⟩)] w (wDD w [] U (fun U_ L_ v=>v=jV r/\L_=[])):=by
 unfold wAp at hm
 refine Gv.of Tryz.func80 rfl Tryz.ntmps80 Tryz.results80 rfl (sR fL1 rfl (OKS.ra rfl rfl rfl rfl rfl rfl (eN (zF (ZJ ZH [1,3,3,1,1,3,3,1,2,1,3,3,3,1,1,3,3,3,1,2,2,2,3] (fC0_7 (wPi (.fx 8 (.fx 19 (.fx 20 (.fx 21 (.fl 22 (.nil)) .stop) .stop) .stop) .stop))) (by kernel_rfl) ?_)))))
 have hS1:=hS.drew
 generalize hw_W2:({ w with drawn:=w.drawn + 1 }:World)=W2 at hS1 ⊢
 refine oL Z (hS1.ldC (f:=0) ha0 (v:=.slice pA2 p2.length pc2) Z Z Tryz.isAgg31 Z) (oM Z Z (bnK hm fun x3 h4 hm5=>?_))
 have q:=ha1.el (fun _=>rfl) (wAt h4)
 obtain ⟨b6,off7,hA8,hC9⟩:=q
 refine oR Z (zo Z Z hA8 Z zC zB (wCx h4) (wDF h4)) (oL Z (hS1.ldC (f:=0) hC9 (v:=jV x3) Z Z zE Z) (oL Z (hS1.ldC (f:=0) ha0 (v:=.slice pA2 p2.length pc2) Z Z Tryz.isAgg31 Z) (oM Z Z (bnK hm5 fun x10 h11 hm12=>?_))))
 have q:=ha1.el (fun _=>rfl) (wAt h11)
 obtain ⟨b13,off14,hA15,hC16⟩:=q
 refine oR Z (zo Z Z hA15 Z zC zB (wCx h11) (wDF h11)) (oL Z (hS1.ldC (f:=0) hC16 (v:=jV x10) Z Z zE Z) (oL Z (hS1.ldC (f:=0) ha2 (v:=.slice pA3 p3.length pc3) Z Z Tryz.isAgg22 Z) (oM Z Z (bnK hm12 fun x17 h18 hm19=>?_))))
 have q:=ha3.el (fun _=>rfl) (wAt h18)
 obtain ⟨b20,off21,hA22,hC23⟩:=q
 refine oR Z (zo Z Z hA22 Z zQ zf (wCx h18) (wDF h18)) (oR Z (zk Z Z ze Z zB) (oL Z (hS1.ldC (f:=1) hC23 (v:=jV x17.Time) Z Z zE Z) (oL Z (hS1.ldC (f:=0) ha2 (v:=.slice pA3 p3.length pc3) Z Z Tryz.isAgg22 Z) (oM Z Z (bnK hm19 fun x24 h25 hm26=>?_)))))
 have q:=ha3.el (fun _=>rfl) (wAt h25)
 obtain ⟨b27,off28,hA29,hC30⟩:=q
 refine oR Z (zo Z Z hA29 Z zQ zf (wCx h25) (wDF h25)) (oR Z (zk Z Z ze Z zB) (oL Z (hS1.ldC (f:=1) hC30 (v:=jV x24.Time) Z Z zE Z) (bnK hm26 fun x31 h32 hm33=>zN 0 Z Z Z Z (zO Z Z Tryz.call82 (zA Z (zA Z zV)) Z) hS1 (fun hs=>wCj x3 x10 W2 U hs h32) (.inr Z) ?_)))
 rintro U34 L35 v36 W37 le38 hS39 ⟨rfl,rfl⟩
 have hS40:sW w U U34 [] W37:=hS39
 refine bnK hm33 fun x41 h42 hm43=>zN 0 Z Z Z Z (zO Z Z Tryz.call82 (zA Z (zA Z zV)) Z) hS40 (fun hs=>wCj x17.Time x24.Time W37 U34 hs h42) (.inr Z) ?_
 rintro U44 L45 v46 W47 le48 hS49 ⟨rfl,rfl⟩
 have hS50:sW w U U44 [] W47:=hS49
 refine ZE (pv:=[(0,jV x31),(1,jV x41)]) (zs:=[jV 0,jV 0]) (cs:=[jV x31,jV x41]) Z Z Z Z Z (wAi Z (wAi Z wBO)) zC zB ZI Z Z Z Z Z hS50 ?_
 intro W51 b52 hS53
 have hS55:sW w U U44 [.row (some ⟨b52,0,none⟩) 2 3 1 (hH KL.encI [x31,x41])] W51:=hS53
 have q:=hS55.freezeR (k:=0) (n:=[x31,x41].length) rfl (wAF (f:=KL.encI) (sz:=1) (fun _=>rfl) [x31,x41]) (by decide)
 obtain ⟨U56,le57,hs58,hS59⟩:=q
 have hS60:sW w U U56 [] W51:=hS59
 refine bnK hm43 fun x61 h62 hm63=>zN 0 Z Z Z Z (zO Z Z Tryz.call81 (zA Z zV) Z) hS60 (fun hs=>wHL [x31,x41] (some ⟨b52,0,none⟩) 2 W51 U56 hs hs58 h62) (.inr Z) ?_
 rintro U64 L65 v66 W67 le68 hS69 ⟨rfl,rfl⟩
 have hS70:sW w U U64 [] W67:=hS69
 refine oA Z Z (eN (zW ?_))
 have hE:=nA hm63;first | subst r | cases hE
 exact ⟨Z,_,(zn Z),U64,_,hS70,Z,Z⟩
theorem wBJ (p0:List Int) (pA0:Option Addr) (pc0:Nat) (p1:Int) (p2:Int) (p3:((Int × Int)->Option Int)) (pv3:Value) (w:World) (U:PHeap) (hS:St0 w U [.row pA0 pc0 3 1 (hH KL.encI p0)]) (ha0:FnOK Tryz.prog U pv3 wNz wOA p3) {r:(List Int)} (hm:wAK p0 p1 p2 p3=some r):Gv Tryz.prog 152 [.slice pA0 p0.length pc0,jV p1,jV p2,pv3] w (wDD w [.row pA0 pc0 3 1 (hH KL.encI p0)] U (fun U_ L_ v=>v=.tuple #[]/\L_=[.row pA0 pc0 3 1 (hH KL.encI r)]/\r.length=p0.length)):=by
 unfold wAK at hm
 refine Gv.of Tryz.func152 Z Tryz.ntmps152 Tryz.results152 Z (sR fL3 Z (oM Z Z (oR Z (zY Z Z Z) (oA Z Z (eN (zR ?_))))))
 let B0:Res:=.row pA0 pc0 3 1 (hH KL.encI p0)
 refine ZV (fun (l8,x9) σ_ w_=>∃ (U_:PHeap),σ_ 0=.slice pA0 l8.length pc0/\σ_ 1=jV p1/\σ_ 2=jV p2/\σ_ 3=pv3/\σ_ 8=jV x9/\PHeap.Le U U_/\SW w [B0] U U_ [.row pA0 pc0 3 1 (hH KL.encI l8)] w_/\l8.length=p0.length) hm ?_ ?_
 ·exact ⟨U,Z,Z,Z,Z,Z,(zL _),hS,Z⟩
 ·rintro ⟨l8,x9⟩ xx12 σ10 W11 ⟨U17,f20,f21,f22,f23,f24,le18,hS19,h25⟩ hx13 hb14
  try dsimp only at hx13
  refine zF (sR fL3 Z (oM Z f24 (oM Z f22 (oR Z (zJ Z Z Z) (eN ?_)))))
  by_cases c26:x9 < p2
  ·have hm27:=hx13;rw [if_pos c26] at hm27;replace c26:=zG c26
   refine cT Z c26 (kN (zF (zR (sR fL2 Z (oM Z f24 (oA Z Z (eN (zR (ZV (fun (l34,x35) σ_ w_=>∃ (U_:PHeap),σ_ 0=.slice pA0 l34.length pc0/\σ_ 1=jV p1/\σ_ 2=jV p2/\σ_ 3=pv3/\σ_ 8=jV x9/\σ_ 9=jV x35/\PHeap.Le U17 U_/\SW w [B0] U U_ [.row pA0 pc0 3 1 (hH KL.encI l34)] w_/\l34.length=p0.length) hm27 ?_ ?_)))))))))
   ·exact ⟨U17,f20,f21,f22,f23,f24,Z,(zL _),hS19,h25⟩
   ·rintro ⟨l34,x35⟩ xx38 σ36 W37 ⟨U43,f46,f47,f48,f49,f50,f51,le44,hS45,h52⟩ hx39 hb40
    try dsimp only at hx39
    refine zF (zF (ZJ ZH [3,3,3,3,3,3,3,3,1,3,3,3,3,1,2,3,3] (wPc (.fx 14 (.fl 15 (.fl 16 (.nil))) .stop)) (by kernel_rfl) ?_))
    have hS53:=hS45.drew
    generalize hw_W54:({ W37 with drawn:=W37.drawn + 1 }:World)=W54 at hS53 ⊢
    refine oM Z f51 (oM Z f47 (oR Z (ZQ Z Z Z) (oM Z Z ?_)))
    by_cases c55:p1 < x35
    ·have hm56:=hx39;rw [if_pos c55] at hm56;replace c55:=zG c55
     refine zD Z Z Z (wT Z c55) Z f49 (zD Z Z Z (wT Z c55) Z f46 (zD Z Z Z (wT Z c55) Z f51 (bnK hm56 fun _ h57 hm58=>?_)))
     obtain ⟨b59,hA60⟩:=hS53.rowSome (j:=0) rfl (by rw [wAF (f:=KL.encI) (sz:=1) (fun _=>rfl) l34];have hz:=wAP h57;omega)
     refine rU Z (wT Z c55) (zo Z Z hA60 Z zC zB (wBM h57) (wBN h57)) ?_
     have hg61:=wAu (xs:=l34) (wAP h57)
     refine ZA rfl rfl rfl (zH rfl rfl (zr c55.out)) (hS53.ldR (j:=0) rfl hA60 rfl rfl zE (wAN (sz:=1) (fun _=>rfl) _ _ 0 _ hg61 (by first | omega | rfl | simp) rfl)) rfl (zD rfl rfl rfl (zH rfl rfl (zr c55.out)) rfl f46 (zD rfl rfl rfl (zH rfl rfl (zr c55.out)) rfl f51 (zS rfl rfl rfl (zH rfl rfl (zr c55.out)) (fun _=>zm rfl rfl rfl) (bnK hm58 fun _ h62 hm63=>zS rfl rfl rfl (zH rfl rfl (zr c55.out)) (fun _=>zo rfl rfl hA60 rfl zC zB (wBM h62) (wBN h62)) ?_))))
     have hg64:=wAu (xs:=l34) (wAP h62)
     refine ZA rfl rfl rfl (zH rfl rfl (zr c55.out)) (hS53.ldR (j:=0) rfl hA60 rfl rfl zE (wAN (sz:=1) (fun _=>rfl) _ _ 0 _ hg64 (by first | omega | rfl | simp) rfl)) rfl (bnK hm63 fun x65 h66 hm67=>?_)
     have h74:=ha0.le le18
     have h75:=h74.le le44
     refine OKS.callV (a:=((gd l34 x35.toNat),(gd l34 (w64 (x35 - 1)).toNat))) Z Z Z (wT Z c55) Z Z (zA Z (zA Z zV)) hS53 h75 Z h66 ?_
     rintro U68 L69 v70 W71 le72 hS73 ⟨rfl,rfl⟩
     have hS76:SW w [B0] U U68 [.row pA0 pc0 3 1 (hH KL.encI l34)] W71:=hS73
     refine rU Z (wT Z c55) (zJ Z Z Z) (oR Z (zK Z (zr c55.out) Z) (eN (ifc hm67 ?_ ?_)))
     ·intro c77 hm78
      refine cT Z c77 (kN (zF (zR (ZJ ZH [3,3,3,3,3,3,3,3,3,1,3,3,3,1,3,0,3,0] (wJC (.fx 15 (.fl 16 (.fx 17 (.nil) .stop)) .stop)) (by kernel_rfl) ?_))))
      have hS79:=hS76.drew
      generalize hw_W80:({ W71 with drawn:=W71.drawn + 1 }:World)=W80 at hS79 ⊢
      refine oM Z f46 (oM Z f51 (oM Z f46 (oM Z f51 (oR Z (zm Z Z Z) (oM Z f46 (oM Z f51 (oR Z (zm Z Z Z) (oR Z (zo Z Z hA60 Z zC zB (wBM h62) (wBN h62)) ?_))))))))
      have hg81:=wAu (xs:=l34) (wAP h62)
      refine ZA rfl rfl rfl rfl (hS79.ldR (j:=0) rfl hA60 rfl rfl zE (wAN (sz:=1) (fun _=>rfl) _ _ 0 _ hg81 (by first | omega | rfl | simp) rfl)) rfl (zD rfl rfl rfl rfl rfl f46 (zD rfl rfl rfl rfl rfl f51 (zS rfl rfl rfl rfl (fun _=>zo rfl rfl hA60 rfl zC zB (wBM h57) (wBN h57)) ?_)))
      have hg82:=wAu (xs:=l34) (wAP h57)
      refine ZA rfl rfl rfl rfl (hS79.ldR (j:=0) rfl hA60 rfl rfl zE (wAN (sz:=1) (fun _=>rfl) _ _ 0 _ hg82 (by first | omega | rfl | simp) rfl)) rfl (zS rfl rfl rfl rfl (fun _=>zo rfl rfl hA60 rfl zC zB (wBM h57) (wBN h57)) ?_)
      have hg83:=wAu (xs:=l34) (wAP h57)
      refine OKS.stR (j:=0) (vs:=[jV (gd l34 (w64 (x35 - 1)).toNat)]) (cs':=hH KL.encI (nE l34 x35.toNat (gd l34 (w64 (x35 - 1)).toNat))) rfl rfl rfl rfl hS79 rfl hA60 rfl rfl rfl zB (by rw [wAF (f:=KL.encI) (sz:=1) (fun _=>rfl)];have hz:=wAP h57;show _ + 1 <= _;first | omega | (simp only [nK];omega) | (simp only [nI,nG,nH];omega)) rfl (wCo (sz:=1) (fo:=0) (fun _=>rfl) _ _ _ _ hg83 (by first | omega | (simp only [nK];omega) | (simp only [nI,nG,nH];omega)) (zX rfl) rfl) rfl ?_
      intro W84 hS85
      have hS86:SW w [B0] U U68 [.row pA0 pc0 3 1 (hH KL.encI (nE l34 x35.toNat (gd l34 (w64 (x35 - 1)).toNat)))] W84:=hS85
      refine bnK hm78 fun _ h87 hm88=>zS rfl rfl rfl rfl (fun _=>zo rfl (nL (b:=(.slice pA0 l34.length pc0:Value)) (c:=(.slice pA0 ((nE l34 x35.toNat (gd l34 (w64 (x35 - 1)).toNat)).length) pc0:Value)) rfl (by simp only [nJ])) hA60 rfl zC zB (wBM h87) (wBN h87)) ?_
      have hg89:=wAu (xs:=(nE l34 x35.toNat (gd l34 (w64 (x35 - 1)).toNat))) (wAP h87)
      refine OKS.stR (j:=0) (vs:=[jV (gd l34 x35.toNat)]) (cs':=hH KL.encI (nE (nE l34 x35.toNat (gd l34 (w64 (x35 - 1)).toNat)) (w64 (x35 - 1)).toNat (gd l34 x35.toNat))) rfl rfl rfl rfl hS86 rfl hA60 rfl rfl rfl zB (by rw [wAF (f:=KL.encI) (sz:=1) (fun _=>rfl)];have hz:=wAP h87;show _ + 1 <= _;first | omega | (simp only [nK];omega) | (simp only [nI,nG,nH];omega)) rfl (wCo (sz:=1) (fo:=0) (fun _=>rfl) _ _ _ _ hg89 (by first | omega | (simp only [nK];omega) | (simp only [nI,nG,nH];omega)) (zX rfl) rfl) rfl ?_
      intro W90 hS91
      have hS92:SW w [B0] U U68 [.row pA0 pc0 3 1 (hH KL.encI (nE (nE l34 x35.toNat (gd l34 (w64 (x35 - 1)).toNat)) (w64 (x35 - 1)).toNat (gd l34 x35.toNat)))] W90:=hS91
      refine zg (zi (zI (rR fL3 Z (oM Z f51 (oR Z (zm Z Z Z) (oA Z Z (zg ?_)))))))
      obtain rfl:=nA hm88
      exact zI ⟨rfl,_,rfl,⟨U68,(nL (b:=(.slice pA0 ((nE l34 x35.toNat (gd l34 (w64 (x35 - 1)).toNat)).length) pc0:Value)) (c:=(.slice pA0 ((nE (nE l34 x35.toNat (gd l34 (w64 (x35 - 1)).toNat)) (w64 (x35 - 1)).toNat (gd l34 x35.toNat)).length) pc0:Value)) (nL (b:=(.slice pA0 l34.length pc0:Value)) (c:=(.slice pA0 ((nE l34 x35.toNat (gd l34 (w64 (x35 - 1)).toNat)).length) pc0:Value)) f46 (by simp only [nJ])) (by simp only [nJ])),f47,f48,f49,f50,rfl,(le44.trans le72),hS92,((nJ.trans nJ).trans h52)⟩⟩
     ·intro c77 hm95
      refine cF Z c77 (ZC (zZ ?_))
      have q:=wAW hm95
      obtain ⟨v96,hm97,e98⟩:=q
      obtain rfl:=hb40 v96 e98
      refine zZ (zt (zi (zI (rR fL3 Z (oM Z f50 (oR Z (zY Z Z Z) (oA Z Z (zg ?_))))))))
      obtain rfl:=nA hm97
      exact zI ⟨Z,_,Z,⟨U68,f46,f47,f48,f49,Z,((le18.trans le44).trans le72),hS76,h52⟩⟩
    ·have hm101:=hx39;rw [if_neg c55] at hm101;replace c55:=zG c55
     refine oF Z c55 (oF Z c55 (oF Z c55 (oF Z c55 (oF Z c55 (oF Z c55 (oF Z c55 (oF Z c55 (oF Z c55 (oF Z c55 (OKS.px Z Z Z (zu Z Z (zd c55.out) Z) (oF Z c55 (oR Z (zP Z (zd c55.out) Z) (eN (zh Z (ZC (zZ ?_))))))))))))))))
     have q:=wAW hm101
     obtain ⟨v102,hm103,e104⟩:=q
     obtain rfl:=hb40 v102 e104
     refine zZ (zt (zi (zI (rR fL3 Z (oM Z f50 (oR Z (zY Z Z Z) (oA Z Z (zg ?_))))))))
     obtain rfl:=nA hm103
     exact zI ⟨Z,_,Z,⟨U43,f46,f47,f48,f49,Z,(le18.trans le44),hS53,h52⟩⟩
  ·have hm107:=hx13;rw [if_neg c26] at hm107;replace c26:=zG c26
   refine cF Z c26 (ZC (zZ ?_))
   have q:=wAW hm107
   obtain ⟨v108,hm109,e110⟩:=q
   obtain rfl:=hb14 v108 e110
   refine zZ (zt ?_)
   have hE:=nA hm109;first | subst r | cases hE
   exact ⟨Z,_,(wCY),U17,_,hS19,Z,Z,h25⟩
theorem wBD (p0:List Int) (pA0:Option Addr) (pc0:Nat) (p1:Int) (p2:Int) (p3:Int) (p4:((Int × Int)->Option Int)) (pv4:Value) (w:World) (U:PHeap) (hS:St0 w U [.row pA0 pc0 3 1 (hH KL.encI p0)]) (ha0:FnOK Tryz.prog U pv4 wNz wOA p4) {r:(List Int)} (hm:wAE p0 p1 p2 p3 p4=some r):Gv Tryz.prog 185 [.slice pA0 p0.length pc0,jV p1,jV p2,jV p3,pv4] w (wDD w [.row pA0 pc0 3 1 (hH KL.encI p0)] U (fun U_ L_ v=>v=.tuple #[]/\L_=[.row pA0 pc0 3 1 (hH KL.encI r)]/\r.length=p0.length)):=by
 unfold wAE at hm
 refine Gv.of Tryz.func185 Z Tryz.ntmps185 Tryz.results185 Z (sR fL1 Z (oA Z Z (eN (zR (bnK hm fun y13 hf10 hm9=>?_)))))
 have q:=wCB hf10
 obtain ⟨hle11,hf12⟩:=q
 replace hle11:=zG hle11
 let B0:Res:=.row pA0 pc0 3 1 (hH KL.encI p0)
 refine CK.forN' (fun k8 l7 σ_ w_=>∃ (U_:PHeap),σ_ 10=jV (↑k8:Int)/\σ_ 0=.slice pA0 l7.length pc0/\σ_ 1=jV p1/\σ_ 2=jV p2/\σ_ 3=jV p3/\PHeap.Le U U_/\SW w [B0] U U_ [.row pA0 pc0 3 1 (hH KL.encI l7)] w_/\l7.length=p0.length) hf12 ?_ ?_ ?_
 ·exact ⟨U,Z,Z,Z,Z,Z,(zL _),hS,Z⟩
 ·rintro k8 l7 xx16 σ14 W15 hk19 ⟨U21,fi20,f24,f25,f26,f27,le22,hS23,h28⟩ hx17
  have c29:Hid ((↑k8:Int) < p3):=zG (wBk hk19)
  replace hk19:=zG hk19
  have hi30:Hid (w64 ((↑k8:Int) + 1)=(↑(k8 + 1):Int)):=zG (by have h1:=hle11.out;have h2:=c29.out;rw [wAg] <;> omega)
  refine zF (sR fL3 rfl (zD rfl rfl rfl rfl rfl fi20 (zD rfl rfl rfl rfl rfl f27 (zS rfl rfl rfl rfl (fun _=>zJ rfl rfl rfl) (eN (cT Z c29 (kN (zF (zR (ZJ ZH [3,3,3,3,3,3,3,3,3,3,3,3,3,1,3,3,3,3,3,1,3,0,3,0] (wPd (.fx 21 (.fl 22 (.fx 23 (.nil) .stop)) .stop)) (by kernel_rfl) ?_))))))))))
  have hS31:=hS23.drew
  generalize hw_W32:({ W15 with drawn:=W15.drawn + 1 }:World)=W32 at hS31 ⊢
  refine oM Z f24 (oM Z f25 (oM Z fi20 (oR Z (zY Z Z Z) (oM Z f24 (oM Z f26 (oM Z fi20 (oR Z (zY Z Z Z) (oM Z f24 (oM Z f26 (oM Z fi20 (oR Z (zY Z Z Z) (bnK hx17 fun _ h33 hm34=>?_))))))))))))
  obtain ⟨b35,hA36⟩:=hS31.rowSome (j:=0) rfl (by rw [wAF (f:=KL.encI) (sz:=1) (fun _=>rfl) l7];have hz:=wAP h33;omega)
  refine oR Z (zo Z Z hA36 Z zC zB (wBM h33) (wBN h33)) ?_
  have hg37:=wAu (xs:=l7) (wAP h33)
  refine ZA rfl rfl rfl rfl (hS31.ldR (j:=0) rfl hA36 rfl rfl zE (wAN (sz:=1) (fun _=>rfl) _ _ 0 _ hg37 (by first | omega | rfl | simp) rfl)) rfl (zD rfl rfl rfl rfl rfl f24 (zD rfl rfl rfl rfl rfl f25 (zD rfl rfl rfl rfl rfl fi20 (zS rfl rfl rfl rfl (fun _=>zY rfl rfl rfl) (bnK hm34 fun _ h38 hm39=>zS rfl rfl rfl rfl (fun _=>zo rfl rfl hA36 rfl zC zB (wBM h38) (wBN h38)) ?_)))))
  have hg40:=wAu (xs:=l7) (wAP h38)
  refine ZA rfl rfl rfl rfl (hS31.ldR (j:=0) rfl hA36 rfl rfl zE (wAN (sz:=1) (fun _=>rfl) _ _ 0 _ hg40 (by first | omega | rfl | simp) rfl)) rfl (zS rfl rfl rfl rfl (fun _=>zo rfl rfl hA36 rfl zC zB (wBM h38) (wBN h38)) ?_)
  have hg41:=wAu (xs:=l7) (wAP h38)
  refine OKS.stR (j:=0) (vs:=[jV (gd l7 (w64 (p2 + (↑k8:Int))).toNat)]) (cs':=hH KL.encI (nE l7 (w64 (p1 + (↑k8:Int))).toNat (gd l7 (w64 (p2 + (↑k8:Int))).toNat))) rfl rfl rfl rfl hS31 rfl hA36 rfl rfl rfl zB (by rw [wAF (f:=KL.encI) (sz:=1) (fun _=>rfl)];have hz:=wAP h38;show _ + 1 <= _;first | omega | (simp only [nK];omega) | (simp only [nI,nG,nH];omega)) rfl (wCo (sz:=1) (fo:=0) (fun _=>rfl) _ _ _ _ hg41 (by first | omega | (simp only [nK];omega) | (simp only [nI,nG,nH];omega)) (zX rfl) rfl) rfl ?_
  intro W42 hS43
  have hS44:SW w [B0] U U21 [.row pA0 pc0 3 1 (hH KL.encI (nE l7 (w64 (p1 + (↑k8:Int))).toNat (gd l7 (w64 (p2 + (↑k8:Int))).toNat)))] W42:=hS43
  refine bnK hm39 fun _ h45 hm46=>zS rfl rfl rfl rfl (fun _=>zo rfl (nL (b:=(.slice pA0 l7.length pc0:Value)) (c:=(.slice pA0 ((nE l7 (w64 (p1 + (↑k8:Int))).toNat (gd l7 (w64 (p2 + (↑k8:Int))).toNat)).length) pc0:Value)) rfl (by simp only [nJ])) hA36 rfl zC zB (wBM h45) (wBN h45)) ?_
  have hg47:=wAu (xs:=(nE l7 (w64 (p1 + (↑k8:Int))).toNat (gd l7 (w64 (p2 + (↑k8:Int))).toNat))) (wAP h45)
  refine OKS.stR (j:=0) (vs:=[jV (gd l7 (w64 (p1 + (↑k8:Int))).toNat)]) (cs':=hH KL.encI (nE (nE l7 (w64 (p1 + (↑k8:Int))).toNat (gd l7 (w64 (p2 + (↑k8:Int))).toNat)) (w64 (p2 + (↑k8:Int))).toNat (gd l7 (w64 (p1 + (↑k8:Int))).toNat))) rfl rfl rfl rfl hS44 rfl hA36 rfl rfl rfl zB (by rw [wAF (f:=KL.encI) (sz:=1) (fun _=>rfl)];have hz:=wAP h45;show _ + 1 <= _;first | omega | (simp only [nK];omega) | (simp only [nI,nG,nH];omega)) rfl (wCo (sz:=1) (fo:=0) (fun _=>rfl) _ _ _ _ hg47 (by first | omega | (simp only [nK];omega) | (simp only [nI,nG,nH];omega)) (zX rfl) rfl) rfl ?_
  intro W48 hS49
  have hS50:SW w [B0] U U21 [.row pA0 pc0 3 1 (hH KL.encI (nE (nE l7 (w64 (p1 + (↑k8:Int))).toNat (gd l7 (w64 (p2 + (↑k8:Int))).toNat)) (w64 (p2 + (↑k8:Int))).toNat (gd l7 (w64 (p1 + (↑k8:Int))).toNat)))] W48:=hS49
  refine zg (zi (zI (rR fL3 Z (oM Z fi20 (oR Z (ZP (zY Z Z Z) (congrArg (jV) hi30.out)) (oA Z Z (zg ?_)))))))
  cases hm46
  exact zI ⟨rfl,⟨U21,rfl,(nL (b:=(.slice pA0 ((nE l7 (w64 (p1 + (↑k8:Int))).toNat (gd l7 (w64 (p2 + (↑k8:Int))).toNat)).length) pc0:Value)) (c:=(.slice pA0 ((nE (nE l7 (w64 (p1 + (↑k8:Int))).toNat (gd l7 (w64 (p2 + (↑k8:Int))).toNat)) (w64 (p2 + (↑k8:Int))).toNat (gd l7 (w64 (p1 + (↑k8:Int))).toNat)).length) pc0:Value)) (nL (b:=(.slice pA0 l7.length pc0:Value)) (c:=(.slice pA0 ((nE l7 (w64 (p1 + (↑k8:Int))).toNat (gd l7 (w64 (p2 + (↑k8:Int))).toNat)).length) pc0:Value)) f24 (by simp only [nJ])) (by simp only [nJ])),f25,f26,f27,le22,hS50,((nJ.trans nJ).trans h28)⟩⟩
 ·rintro σ52 W53 ⟨U57,fi55,f60,f61,f62,f63,le58,hS59,h64⟩
  have c65:Hid (¬ ((↑((p3:Int) - 0).toNat:Int) < p3)):=zG (wBS)
  refine zF (sR fL3 Z (oM Z fi55 (oM Z f63 (oR Z (zJ Z Z Z) (eN (cF Z c65 (ZC (zZ (zZ (zt ?_))))))))))
  have hE:=nA hm9;first | subst r | cases hE
  exact ⟨Z,_,(wCY),U57,_,hS59,Z,Z,h64⟩
theorem wBd (p0:List Int) (pA0:Option Addr) (pc0:Nat) (p1:Int) (p2:Int) (p3:Int) (p4:((Int × Int)->Option Int)) (pv4:Value) (w:World) (U:PHeap) (hS:St0 w U [.row pA0 pc0 3 1 (hH KL.encI p0)]) (ha0:FnOK Tryz.prog U pv4 wNz wOA p4) {r:(List Int)} (hm:wAV p0 p1 p2 p3 p4=some r):Gv Tryz.prog 168 [.slice pA0 p0.length pc0,jV p1,jV p2,jV p3,pv4] w (wDD w [.row pA0 pc0 3 1 (hH KL.encI p0)] U (fun U_ L_ v=>v=.tuple #[]/\L_=[.row pA0 pc0 3 1 (hH KL.encI r)]/\r.length=p0.length)):=by
 unfold wAV at hm
 refine Gv.of Tryz.func168 Z Tryz.ntmps168 Tryz.results168 Z (sR fL4 Z (oM Z Z (oM Z Z (oR Z (zm Z Z Z) (oA Z Z (eN (sR fL4 Z (oM Z Z (oM Z Z (oR Z (zm Z Z Z) (oA Z Z (eN ?_))))))))))))
 have q:=bnd hm
 obtain ⟨⟨l2,x3⟩,hx5,hm6⟩:=q
 try dsimp only at hm6
 let B0:Res:=.row pA0 pc0 3 1 (hH KL.encI p0)
 refine CK.cut (fun σ_ w_=>∃ (U_:PHeap),σ_ 0=.slice pA0 l2.length pc0/\σ_ 2=jV p2/\σ_ 4=pv4/\σ_ 10=jV x3/\PHeap.Le U U_/\SW w [B0] U U_ [.row pA0 pc0 3 1 (hH KL.encI l2)] w_/\l2.length=p0.length) ?_ ?_
 ·refine zR (ZV (fun (l16,x17,x18) σ_ w_=>∃ (U_:PHeap),σ_ 0=.slice pA0 l16.length pc0/\σ_ 2=jV p2/\σ_ 4=pv4/\σ_ 10=jV x17/\σ_ 11=jV x18/\PHeap.Le U U_/\SW w [B0] U U_ [.row pA0 pc0 3 1 (hH KL.encI l16)] w_/\l16.length=p0.length) hx5 ?_ ?_)
  ·exact ⟨U,Z,Z,Z,Z,Z,(zL _),hS,Z⟩
  ·rintro ⟨l16,x17,x18⟩ xx21 σ19 W20 ⟨U26,f29,f30,f31,f32,f33,le27,hS28,h34⟩ hx22 hb23
   try dsimp only at hx22
   refine zF (sR fL3 Z (oM Z f32 (oM Z f33 (oR Z (ZO Z Z Z) (eN ?_)))))
   by_cases c35:x17=x18
   ·have hm36:=hx22;rw [if_pos c35] at hm36;replace c35:=zG c35
    refine zh (zd (fun h=>h c35.out)) (ZC (zZ ?_))
    have q:=wAW hm36
    obtain ⟨v37,hm38,e39⟩:=q
    obtain rfl:=hb23 v37 e39
    refine zZ (zt ?_)
    cases hm38
    exact zI ⟨Z,⟨U26,f29,f30,f31,f32,le27,hS28,h34⟩⟩
   ·have hm42:=hx22;rw [if_neg c35] at hm42;replace c35:=zG c35
    refine cT Z c35 (kN (zR (sR fL3 Z (oM Z f32 (oM Z f33 (oR Z (ZQ Z Z Z) (eN (ifc hm42 ?_ ?_))))))))
    ·intro c43 hm44
     refine cT Z c43 (sR (wMa (.fx 7 (.nil) .stop)) Z (oM Z f29 (oM Z f30 (oM Z f32 (oR Z (zm Z Z Z) (oM Z f30 (oM Z f33 (oM Z f31 ?_))))))))
     have h45:=ha0.le le27
     refine bnK hm44 fun x46 h47 hm48=>zN 1 Z Z Z Z (zO Z Z Tryz.call185 (zA Z (zA Z (zA Z (zA Z (zA Z zV))))) Z) hS28 (fun hs=>wBD l16 pA0 pc0 (w64 (p2 - x17)) p2 x18 p4 pv4 W20 U26 hs h45 h47) (.inl Z) ?_
     rintro U49 L50 v51 W52 le53 hS54 ⟨rfl,rfl,h55⟩
     have hS56:SW w [B0] U U49 [.row pA0 pc0 3 1 (hH KL.encI x46)] W52:=hS54
     refine eN (rR fL4 Z (oM Z f32 (oM Z f33 (oR Z (zm Z Z Z) (oA Z Z (zg (zi ?_)))))))
     obtain rfl:=nA hm48
     exact zI ⟨rfl,_,rfl,⟨U49,(nL (b:=(.slice pA0 l16.length pc0:Value)) (c:=(.slice pA0 x46.length pc0:Value)) f29 (by rw [h55])),f30,f31,rfl,f33,(le27.trans le53),hS56,(h55.trans h34)⟩⟩
    ·intro c43 hm60
     refine cF Z c43 (sR (wJB (.fx 11 (.nil) .stop)) Z (oM Z f29 (oM Z f30 (oM Z f32 (oR Z (zm Z Z Z) (oM Z f30 (oM Z f33 (oR Z (zY Z Z Z) (oM Z f32 (oR Z (zm Z Z Z) (oM Z f32 (oM Z f31 ?_))))))))))))
     have h61:=ha0.le le27
     refine bnK hm60 fun x62 h63 hm64=>zN 1 Z Z Z Z (zO Z Z Tryz.call185 (zA Z (zA Z (zA Z (zA Z (zA Z zV))))) Z) hS28 (fun hs=>wBD l16 pA0 pc0 (w64 (p2 - x17)) (w64 ((w64 (p2 + x18)) - x17)) x17 p4 pv4 W20 U26 hs h61 h63) (.inl Z) ?_
     rintro U65 L66 v67 W68 le69 hS70 ⟨rfl,rfl,h71⟩
     have hS72:SW w [B0] U U65 [.row pA0 pc0 3 1 (hH KL.encI x62)] W68:=hS70
     refine eN (rR fL4 Z (oM Z f33 (oM Z f32 (oR Z (zm Z Z Z) (oA Z Z (zg (zi ?_)))))))
     obtain rfl:=nA hm64
     exact zI ⟨rfl,_,rfl,⟨U65,(nL (b:=(.slice pA0 l16.length pc0:Value)) (c:=(.slice pA0 x62.length pc0:Value)) f29 (by rw [h71])),f30,f31,f32,rfl,(le27.trans le69),hS72,(h71.trans h34)⟩⟩
 ·rintro σ76 W77 ⟨U78,f81,f82,f83,f84,le79,hS80,h85⟩
  refine rR (wMa (.fx 7 (.nil) .stop)) Z (oM Z f81 (oM Z f82 (oM Z f84 (oR Z (zm Z Z Z) (oM Z f82 (oM Z f84 (oM Z f83 ?_)))))))
  have h86:=ha0.le le79
  refine bnK hm6 fun x87 h88 hm89=>zN 1 Z Z Z Z (zO Z Z Tryz.call185 (zA Z (zA Z (zA Z (zA Z (zA Z zV))))) Z) hS80 (fun hs=>wBD l2 pA0 pc0 (w64 (p2 - x3)) p2 x3 p4 pv4 W77 U78 hs h86 h88) (.inl Z) ?_
  rintro U90 L91 v92 W93 le94 hS95 ⟨rfl,rfl,h96⟩
  have hS97:SW w [B0] U U90 [.row pA0 pc0 3 1 (hH KL.encI x87)] W93:=hS95
  refine zg ?_
  have hE:=nA hm89;first | subst r | cases hE
  exact ⟨Z,_,(wCY),U90,_,hS97,Z,Z,(h96.trans h85)⟩
end Go.Proofs.YtghaibkggdecnaaGreat
namespace Go.Proofs.YtghaibkggdecnaaGreat
open Go.KL
set_option maxHeartbeats 4000000
theorem wBY (n_:Nat):∀ (p0:List Int) (pA0:Option Addr) (pc0:Nat) (p1:Int) (p2:Int) (p3:Int) (p4:((Int × Int)->Option Int)) (pv4:Value) (w:World) (U:PHeap) (hS:St0 w U [.row pA0 pc0 3 1 (hH KL.encI p0)]) (ha0:FnOK Tryz.prog U pv4 wNz wOA p4) {r:(List Int)} (hm:wAI n_ p0 p1 p2 p3 p4=some r),Gv Tryz.prog 153 [.slice pA0 p0.length pc0,jV p1,jV p2,jV p3,pv4] w (wDD w [.row pA0 pc0 3 1 (hH KL.encI p0)] U (fun U_ L_ v=>v=.tuple #[]/\L_=[.row pA0 pc0 3 1 (hH KL.encI r)]/\r.length=p0.length)):=by
 induction n_ with
 | zero =>
  intros
  rename_i hm
  have hm0:(none:Option ((List Int)))=some _:=hm
  cases hm0
 | succ n_ ih =>
  intro p0 pA0 pc0 p1 p2 p3 p4 pv4 w U hS ha0 r hm
  have hm:wAa (wAI n_) p0 p1 p2 p3 p4=some r:=hm
  unfold wAa at hm
  refine Gv.of Tryz.func153 Z Tryz.ntmps153 Tryz.results153 Z (zF (sR fL4 Z (oM Z Z (oM Z Z (oR Z (zm Z Z Z) (oR Z (Runs.eql Z Z Z) (eN ?_)))))))
  by_cases c2:(w64 (p2 - p1))=1
  ·have hm3:=hm;rw [if_pos c2] at hm3;replace c2:=zG c2
   refine cT Z c2 (sR fL2 Z (oM Z Z (oA Z Z (eN (sR fL2 Z (oM Z Z (oA Z Z (eN (bnK hm3 fun x4 hx6 hm7=>?_)))))))))
   let B0:Res:=.row pA0 pc0 3 1 (hH KL.encI p0)
   refine CK.cut (fun σ_ w_=>∃ (U_:PHeap),σ_ 0=.slice pA0 p0.length pc0/\σ_ 1=jV p1/\σ_ 10=jV x4/\PHeap.Le U U_/\SW w [B0] U U_ [B0] w_) ?_ ?_
   ·refine zR (ZV (fun (x14,x15) σ_ w_=>∃ (U_:PHeap),σ_ 0=.slice pA0 p0.length pc0/\σ_ 1=jV p1/\σ_ 4=pv4/\σ_ 10=jV x14/\σ_ 11=jV x15/\PHeap.Le U U_/\SW w [B0] U U_ [B0] w_) hx6 ?_ ?_)
    ·exact ⟨U,Z,Z,Z,Z,Z,(zL _),hS⟩
    ·rintro ⟨x14,x15⟩ xx18 σ16 W17 ⟨U23,f26,f27,f28,f29,f30,le24,hS25⟩ hx19 hb20
     try dsimp only at hx19
     refine zF (sR fL3 Z (oM Z f29 (oM Z f30 (oR Z (zJ Z Z Z) (eN ?_)))))
     by_cases c31:x14 < x15
     ·have hm32:=hx19;rw [if_pos c31] at hm32;replace c31:=zG c31
      refine cT Z c31 (kN (zR (sR fL7 rfl (zD rfl rfl rfl rfl rfl f29 (zD rfl rfl rfl rfl rfl f30 (zS rfl rfl rfl rfl (fun _=>zY rfl rfl rfl) (zS rfl rfl rfl rfl (fun _=>Runs.cv64 rfl rfl zq ZF rfl rfl) (zS rfl rfl rfl rfl (fun _=>Runs.shr1 rfl rfl rfl) (zS rfl rfl rfl rfl (fun _=>Runs.cvw rfl rfl ZF zq rfl rfl) (OKS.ra rfl rfl rfl rfl rfl rfl (eN (zF (ZJ ZH [3,3,3,3,1,3,3,3,1,2,3] (wLl (.fx 9 (.fl 10 (.nil)) .stop)) (by kernel_rfl) ?_)))))))))))))
      have hS33:=hS25.drew
      generalize hw_W34:({ W17 with drawn:=W17.drawn + 1 }:World)=W34 at hS33 ⊢
      refine oM Z f28 (oM Z f26 (oM Z Z (bnK hm32 fun _ h35 hm36=>?_)))
      obtain ⟨b37,hA38⟩:=hS33.rowSome (j:=0) rfl (by rw [wAF (f:=KL.encI) (sz:=1) (fun _=>rfl) p0];have hz:=wAP h35;omega)
      refine oR Z (zo Z Z hA38 Z zC zB (wBM h35) (wBN h35)) ?_
      have hg39:=wAu (xs:=p0) (wAP h35)
      refine ZA rfl rfl rfl rfl (hS33.ldR (j:=0) rfl hA38 rfl rfl zE (wAN (sz:=1) (fun _=>rfl) _ _ 0 _ hg39 (by first | omega | rfl | simp) rfl)) rfl (zD rfl rfl rfl rfl rfl f26 (zD rfl rfl rfl rfl rfl f27 (bnK hm36 fun _ h40 hm41=>zS rfl rfl rfl rfl (fun _=>zo rfl rfl hA38 rfl zC zB (wBM h40) (wBN h40)) ?_)))
      have hg42:=wAu (xs:=p0) (wAP h40)
      refine ZA rfl rfl rfl rfl (hS33.ldR (j:=0) rfl hA38 rfl rfl zE (wAN (sz:=1) (fun _=>rfl) _ _ 0 _ hg42 (by first | omega | rfl | simp) rfl)) rfl (bnK hm41 fun x43 h44 hm45=>?_)
      have h52:=ha0.le le24
      refine OKS.callV (a:=((gd p0 (w64 ((wAU (w64 (x14 + x15))) / 2)).toNat),(gd p0 p1.toNat))) Z Z Z Z Z Z (zA Z (zA Z zV)) hS33 h52 Z h44 ?_
      rintro U46 L47 v48 W49 le50 hS51 ⟨rfl,rfl⟩
      have hS53:SW w [B0] U U46 [B0] W49:=hS51
      refine oR Z (zJ Z Z Z) (eN (ifc hm45 ?_ ?_))
      ·intro c54 hm55
       refine cT Z c54 (rR fL3 Z (oM Z Z (oR Z (zY Z Z Z) (oA Z Z (zg (zi ?_))))))
       obtain rfl:=nA hm55
       exact zI ⟨Z,_,Z,⟨U46,f26,f27,f28,Z,f30,(le24.trans le50),hS53⟩⟩
      ·intro c54 hm58
       refine cF Z c54 (rR fL2 Z (oM Z Z (oA Z Z (zg (zi ?_)))))
       obtain rfl:=nA hm58
       exact zI ⟨Z,_,Z,⟨U46,f26,f27,f28,f29,Z,(le24.trans le50),hS53⟩⟩
     ·have hm61:=hx19;rw [if_neg c31] at hm61;replace c31:=zG c31
      refine cF Z c31 (ZC (zZ ?_))
      have q:=wAW hm61
      obtain ⟨v62,hm63,e64⟩:=q
      obtain rfl:=hb20 v62 e64
      refine zZ (zt ?_)
      cases hm63
      exact zI ⟨Z,⟨U23,f26,f27,f29,le24,hS25⟩⟩
   ·rintro σ66 W67 ⟨U68,f71,f72,f73,le69,hS70⟩
    refine zF (sR fL2 Z (oM Z f72 (oA Z Z (eN (zR (ZV (fun (l80,x81) σ_ w_=>∃ (U_:PHeap),σ_ 0=.slice pA0 l80.length pc0/\σ_ 10=jV x4/\σ_ 13=jV x81/\PHeap.Le U68 U_/\SW w [B0] U U_ [.row pA0 pc0 3 1 (hH KL.encI l80)] w_/\l80.length=p0.length) hm7 ?_ ?_))))))
    ·exact ⟨U68,f71,f73,Z,(zL _),hS70,Z⟩
    ·rintro ⟨l80,x81⟩ xx84 σ82 W83 ⟨U89,f92,f93,f94,le90,hS91,h95⟩ hx85 hb86
     try dsimp only at hx85
     refine zF (sR fL4 Z (oM Z f94 (oM Z f93 (oR Z (zm Z Z Z) (oR Z (zJ Z Z Z) (eN ?_))))))
     by_cases c96:x81 < (w64 (x4 - 1))
     ·have hm97:=hx85;rw [if_pos c96] at hm97;replace c96:=zG c96
      refine cT Z c96 (kN (zF (zR (ZJ ZH [3,3,3,3,3,3,3,3,3,1,3,3,3,1,3,0,3,0] (wJC (.fx 15 (.fl 16 (.fx 17 (.nil) .stop)) .stop)) (by kernel_rfl) ?_))))
      have hS98:=hS91.drew
      generalize hw_W99:({ W83 with drawn:=W83.drawn + 1 }:World)=W99 at hS98 ⊢
      refine oM Z f92 (oM Z f94 (oM Z f92 (oM Z f94 (oR Z (zY Z Z Z) (oM Z f92 (oM Z f94 (oR Z (zY Z Z Z) (bnK hm97 fun _ h100 hm101=>?_))))))))
      obtain ⟨b102,hA103⟩:=hS98.rowSome (j:=0) rfl (by rw [wAF (f:=KL.encI) (sz:=1) (fun _=>rfl) l80];have hz:=wAP h100;omega)
      refine oR Z (zo Z Z hA103 Z zC zB (wBM h100) (wBN h100)) ?_
      have hg104:=wAu (xs:=l80) (wAP h100)
      refine ZA rfl rfl rfl rfl (hS98.ldR (j:=0) rfl hA103 rfl rfl zE (wAN (sz:=1) (fun _=>rfl) _ _ 0 _ hg104 (by first | omega | rfl | simp) rfl)) rfl (zD rfl rfl rfl rfl rfl f92 (zD rfl rfl rfl rfl rfl f94 (bnK hm101 fun _ h105 hm106=>zS rfl rfl rfl rfl (fun _=>zo rfl rfl hA103 rfl zC zB (wBM h105) (wBN h105)) ?_)))
      have hg107:=wAu (xs:=l80) (wAP h105)
      refine ZA rfl rfl rfl rfl (hS98.ldR (j:=0) rfl hA103 rfl rfl zE (wAN (sz:=1) (fun _=>rfl) _ _ 0 _ hg107 (by first | omega | rfl | simp) rfl)) rfl (zS rfl rfl rfl rfl (fun _=>zo rfl rfl hA103 rfl zC zB (wBM h105) (wBN h105)) ?_)
      have hg108:=wAu (xs:=l80) (wAP h105)
      refine OKS.stR (j:=0) (vs:=[jV (gd l80 (w64 (x81 + 1)).toNat)]) (cs':=hH KL.encI (nE l80 x81.toNat (gd l80 (w64 (x81 + 1)).toNat))) rfl rfl rfl rfl hS98 rfl hA103 rfl rfl rfl zB (by rw [wAF (f:=KL.encI) (sz:=1) (fun _=>rfl)];have hz:=wAP h105;show _ + 1 <= _;first | omega | (simp only [nK];omega) | (simp only [nI,nG,nH];omega)) rfl (wCo (sz:=1) (fo:=0) (fun _=>rfl) _ _ _ _ hg108 (by first | omega | (simp only [nK];omega) | (simp only [nI,nG,nH];omega)) (zX rfl) rfl) rfl ?_
      intro W109 hS110
      have hS111:SW w [B0] U U89 [.row pA0 pc0 3 1 (hH KL.encI (nE l80 x81.toNat (gd l80 (w64 (x81 + 1)).toNat)))] W109:=hS110
      refine bnK hm106 fun _ h112 hm113=>zS rfl rfl rfl rfl (fun _=>zo rfl (nL (b:=(.slice pA0 l80.length pc0:Value)) (c:=(.slice pA0 ((nE l80 x81.toNat (gd l80 (w64 (x81 + 1)).toNat)).length) pc0:Value)) rfl (by simp only [nJ])) hA103 rfl zC zB (wBM h112) (wBN h112)) ?_
      have hg114:=wAu (xs:=(nE l80 x81.toNat (gd l80 (w64 (x81 + 1)).toNat))) (wAP h112)
      refine OKS.stR (j:=0) (vs:=[jV (gd l80 x81.toNat)]) (cs':=hH KL.encI (nE (nE l80 x81.toNat (gd l80 (w64 (x81 + 1)).toNat)) (w64 (x81 + 1)).toNat (gd l80 x81.toNat))) rfl rfl rfl rfl hS111 rfl hA103 rfl rfl rfl zB (by rw [wAF (f:=KL.encI) (sz:=1) (fun _=>rfl)];have hz:=wAP h112;show _ + 1 <= _;first | omega | (simp only [nK];omega) | (simp only [nI,nG,nH];omega)) rfl (wCo (sz:=1) (fo:=0) (fun _=>rfl) _ _ _ _ hg114 (by first | omega | (simp only [nK];omega) | (simp only [nI,nG,nH];omega)) (zX rfl) rfl) rfl ?_
      intro W115 hS116
      have hS117:SW w [B0] U U89 [.row pA0 pc0 3 1 (hH KL.encI (nE (nE l80 x81.toNat (gd l80 (w64 (x81 + 1)).toNat)) (w64 (x81 + 1)).toNat (gd l80 x81.toNat)))] W115:=hS116
      refine zg (zi (zI (rR fL3 Z (oM Z f94 (oR Z (zY Z Z Z) (oA Z Z (zg ?_)))))))
      obtain rfl:=nA hm113
      exact zI ⟨rfl,_,rfl,⟨U89,(nL (b:=(.slice pA0 ((nE l80 x81.toNat (gd l80 (w64 (x81 + 1)).toNat)).length) pc0:Value)) (c:=(.slice pA0 ((nE (nE l80 x81.toNat (gd l80 (w64 (x81 + 1)).toNat)) (w64 (x81 + 1)).toNat (gd l80 x81.toNat)).length) pc0:Value)) (nL (b:=(.slice pA0 l80.length pc0:Value)) (c:=(.slice pA0 ((nE l80 x81.toNat (gd l80 (w64 (x81 + 1)).toNat)).length) pc0:Value)) f92 (by simp only [nJ])) (by simp only [nJ])),f93,rfl,le90,hS117,((nJ.trans nJ).trans h95)⟩⟩
     ·have hm120:=hx85;rw [if_neg c96] at hm120;replace c96:=zG c96
      refine cF Z c96 (ZC (zZ ?_))
      have q:=wAW hm120
      obtain ⟨v121,hm122,e123⟩:=q
      obtain rfl:=hb86 v121 e123
      refine zZ (zt (zI (zW (zM ?_))))
      have hE:=nA hm122;first | subst r | cases hE
      exact ⟨Z,_,(wCY),U89,_,hS91,Z,Z,h95⟩
  ·have hm124:=hm;rw [if_neg c2] at hm124;replace c2:=zG c2
   refine cF Z c2 (kN (zF (sR fL4 Z (oM Z Z (oM Z Z (oR Z (zm Z Z Z) (oR Z (Runs.eql Z Z Z) (eN (ifc hm124 ?_ ?_)))))))))
   ·intro c125 hm126
    refine cT Z c125 (sR fL2 Z (oM Z Z (oA Z Z (eN (sR fL2 Z (oM Z Z (oA Z Z (eN (bnK hm126 fun x127 hx129 hm130=>?_)))))))))
    let B1:Res:=.row pA0 pc0 3 1 (hH KL.encI p0)
    refine CK.cut (fun σ_ w_=>∃ (U_:PHeap),σ_ 0=.slice pA0 p0.length pc0/\σ_ 2=jV p2/\σ_ 14=jV x127/\PHeap.Le U U_/\SW w [B1] U U_ [B1] w_) ?_ ?_
    ·refine zR (ZV (fun (x137,x138) σ_ w_=>∃ (U_:PHeap),σ_ 0=.slice pA0 p0.length pc0/\σ_ 2=jV p2/\σ_ 4=pv4/\σ_ 14=jV x137/\σ_ 15=jV x138/\PHeap.Le U U_/\SW w [B1] U U_ [B1] w_) hx129 ?_ ?_)
     ·exact ⟨U,Z,Z,Z,Z,Z,(zL _),hS⟩
     ·rintro ⟨x137,x138⟩ xx141 σ139 W140 ⟨U146,f149,f150,f151,f152,f153,le147,hS148⟩ hx142 hb143
      try dsimp only at hx142
      refine zF (sR fL3 Z (oM Z f152 (oM Z f153 (oR Z (zJ Z Z Z) (eN ?_)))))
      by_cases c154:x137 < x138
      ·have hm155:=hx142;rw [if_pos c154] at hm155;replace c154:=zG c154
       refine cT Z c154 (kN (zR (sR fL7 rfl (zD rfl rfl rfl rfl rfl f152 (zD rfl rfl rfl rfl rfl f153 (zS rfl rfl rfl rfl (fun _=>zY rfl rfl rfl) (zS rfl rfl rfl rfl (fun _=>Runs.cv64 rfl rfl zq ZF rfl rfl) (zS rfl rfl rfl rfl (fun _=>Runs.shr1 rfl rfl rfl) (zS rfl rfl rfl rfl (fun _=>Runs.cvw rfl rfl ZF zq rfl rfl) (OKS.ra rfl rfl rfl rfl rfl rfl (eN (zF (ZJ ZH [3,3,3,3,1,3,3,3,1,2,3,3] (wLl (.fx 9 (.fl 10 (.fl 11 (.nil))) .stop)) (by kernel_rfl) ?_)))))))))))))
       have hS156:=hS148.drew
       generalize hw_W157:({ W140 with drawn:=W140.drawn + 1 }:World)=W157 at hS156 ⊢
       refine oM Z f151 (oM Z f149 (oM Z f150 (bnK hm155 fun _ h158 hm159=>?_)))
       obtain ⟨b160,hA161⟩:=hS156.rowSome (j:=0) rfl (by rw [wAF (f:=KL.encI) (sz:=1) (fun _=>rfl) p0];have hz:=wAP h158;omega)
       refine oR Z (zo Z Z hA161 Z zC zB (wBM h158) (wBN h158)) ?_
       have hg162:=wAu (xs:=p0) (wAP h158)
       refine ZA rfl rfl rfl rfl (hS156.ldR (j:=0) rfl hA161 rfl rfl zE (wAN (sz:=1) (fun _=>rfl) _ _ 0 _ hg162 (by first | omega | rfl | simp) rfl)) rfl (zD rfl rfl rfl rfl rfl f149 (zD rfl rfl rfl rfl rfl rfl (bnK hm159 fun _ h163 hm164=>zS rfl rfl rfl rfl (fun _=>zo rfl rfl hA161 rfl zC zB (wBM h163) (wBN h163)) ?_)))
       have hg165:=wAu (xs:=p0) (wAP h163)
       refine ZA rfl rfl rfl rfl (hS156.ldR (j:=0) rfl hA161 rfl rfl zE (wAN (sz:=1) (fun _=>rfl) _ _ 0 _ hg165 (by first | omega | rfl | simp) rfl)) rfl (bnK hm164 fun x166 h167 hm168=>?_)
       have h175:=ha0.le le147
       refine OKS.callV (a:=((gd p0 p2.toNat),(gd p0 (w64 ((wAU (w64 (x137 + x138))) / 2)).toNat))) Z Z Z Z Z Z (zA Z (zA Z zV)) hS156 h175 Z h167 ?_
       rintro U169 L170 v171 W172 le173 hS174 ⟨rfl,rfl⟩
       have hS176:SW w [B1] U U169 [B1] W172:=hS174
       refine oR Z (zJ Z Z Z) (oR Z (Runs.notP Z Z) (eN (ifc hm168 ?_ ?_)))
       ·intro c177 hm178
        refine zh (zd (fun h=>h c177.out)) (rR fL2 Z (oM Z Z (oA Z Z (zg (zi ?_)))))
        obtain rfl:=nA hm178
        exact zI ⟨Z,_,Z,⟨U169,f149,f150,f151,f152,Z,(le147.trans le173),hS176⟩⟩
       ·intro c177 hm181
        refine cT Z c177 (rR fL3 Z (oM Z Z (oR Z (zY Z Z Z) (oA Z Z (zg (zi ?_))))))
        obtain rfl:=nA hm181
        exact zI ⟨Z,_,Z,⟨U169,f149,f150,f151,Z,f153,(le147.trans le173),hS176⟩⟩
      ·have hm184:=hx142;rw [if_neg c154] at hm184;replace c154:=zG c154
       refine cF Z c154 (ZC (zZ ?_))
       have q:=wAW hm184
       obtain ⟨v185,hm186,e187⟩:=q
       obtain rfl:=hb143 v185 e187
       refine zZ (zt ?_)
       cases hm186
       exact zI ⟨Z,⟨U146,f149,f150,f152,le147,hS148⟩⟩
    ·rintro σ189 W190 ⟨U191,f194,f195,f196,le192,hS193⟩
     refine zF (sR fL2 Z (oM Z f195 (oA Z Z (eN (zR (ZV (fun (l203,x204) σ_ w_=>∃ (U_:PHeap),σ_ 0=.slice pA0 l203.length pc0/\σ_ 14=jV x127/\σ_ 17=jV x204/\PHeap.Le U191 U_/\SW w [B1] U U_ [.row pA0 pc0 3 1 (hH KL.encI l203)] w_/\l203.length=p0.length) hm130 ?_ ?_))))))
     ·exact ⟨U191,f194,f196,Z,(zL _),hS193,Z⟩
     ·rintro ⟨l203,x204⟩ xx207 σ205 W206 ⟨U212,f215,f216,f217,le213,hS214,h218⟩ hx208 hb209
      try dsimp only at hx208
      refine zF (sR fL3 Z (oM Z f217 (oM Z f216 (oR Z (ZQ Z Z Z) (eN ?_)))))
      by_cases c219:x127 < x204
      ·have hm220:=hx208;rw [if_pos c219] at hm220;replace c219:=zG c219
       refine cT Z c219 (kN (zF (zR (ZJ ZH [3,3,3,3,3,3,3,3,3,1,3,3,3,1,3,0,3,0] (wJC (.fx 15 (.fl 16 (.fx 17 (.nil) .stop)) .stop)) (by kernel_rfl) ?_))))
       have hS221:=hS214.drew
       generalize hw_W222:({ W206 with drawn:=W206.drawn + 1 }:World)=W222 at hS221 ⊢
       refine oM Z f215 (oM Z f217 (oM Z f215 (oM Z f217 (oR Z (zm Z Z Z) (oM Z f215 (oM Z f217 (oR Z (zm Z Z Z) (bnK hm220 fun _ h223 hm224=>?_))))))))
       obtain ⟨b225,hA226⟩:=hS221.rowSome (j:=0) rfl (by rw [wAF (f:=KL.encI) (sz:=1) (fun _=>rfl) l203];have hz:=wAP h223;omega)
       refine oR Z (zo Z Z hA226 Z zC zB (wBM h223) (wBN h223)) ?_
       have hg227:=wAu (xs:=l203) (wAP h223)
       refine ZA rfl rfl rfl rfl (hS221.ldR (j:=0) rfl hA226 rfl rfl zE (wAN (sz:=1) (fun _=>rfl) _ _ 0 _ hg227 (by first | omega | rfl | simp) rfl)) rfl (zD rfl rfl rfl rfl rfl f215 (zD rfl rfl rfl rfl rfl f217 (bnK hm224 fun _ h228 hm229=>zS rfl rfl rfl rfl (fun _=>zo rfl rfl hA226 rfl zC zB (wBM h228) (wBN h228)) ?_)))
       have hg230:=wAu (xs:=l203) (wAP h228)
       refine ZA rfl rfl rfl rfl (hS221.ldR (j:=0) rfl hA226 rfl rfl zE (wAN (sz:=1) (fun _=>rfl) _ _ 0 _ hg230 (by first | omega | rfl | simp) rfl)) rfl (zS rfl rfl rfl rfl (fun _=>zo rfl rfl hA226 rfl zC zB (wBM h228) (wBN h228)) ?_)
       have hg231:=wAu (xs:=l203) (wAP h228)
       refine OKS.stR (j:=0) (vs:=[jV (gd l203 (w64 (x204 - 1)).toNat)]) (cs':=hH KL.encI (nE l203 x204.toNat (gd l203 (w64 (x204 - 1)).toNat))) rfl rfl rfl rfl hS221 rfl hA226 rfl rfl rfl zB (by rw [wAF (f:=KL.encI) (sz:=1) (fun _=>rfl)];have hz:=wAP h228;show _ + 1 <= _;first | omega | (simp only [nK];omega) | (simp only [nI,nG,nH];omega)) rfl (wCo (sz:=1) (fo:=0) (fun _=>rfl) _ _ _ _ hg231 (by first | omega | (simp only [nK];omega) | (simp only [nI,nG,nH];omega)) (zX rfl) rfl) rfl ?_
       intro W232 hS233
       have hS234:SW w [B1] U U212 [.row pA0 pc0 3 1 (hH KL.encI (nE l203 x204.toNat (gd l203 (w64 (x204 - 1)).toNat)))] W232:=hS233
       refine bnK hm229 fun _ h235 hm236=>zS rfl rfl rfl rfl (fun _=>zo rfl (nL (b:=(.slice pA0 l203.length pc0:Value)) (c:=(.slice pA0 ((nE l203 x204.toNat (gd l203 (w64 (x204 - 1)).toNat)).length) pc0:Value)) rfl (by simp only [nJ])) hA226 rfl zC zB (wBM h235) (wBN h235)) ?_
       have hg237:=wAu (xs:=(nE l203 x204.toNat (gd l203 (w64 (x204 - 1)).toNat))) (wAP h235)
       refine OKS.stR (j:=0) (vs:=[jV (gd l203 x204.toNat)]) (cs':=hH KL.encI (nE (nE l203 x204.toNat (gd l203 (w64 (x204 - 1)).toNat)) (w64 (x204 - 1)).toNat (gd l203 x204.toNat))) rfl rfl rfl rfl hS234 rfl hA226 rfl rfl rfl zB (by rw [wAF (f:=KL.encI) (sz:=1) (fun _=>rfl)];have hz:=wAP h235;show _ + 1 <= _;first | omega | (simp only [nK];omega) | (simp only [nI,nG,nH];omega)) rfl (wCo (sz:=1) (fo:=0) (fun _=>rfl) _ _ _ _ hg237 (by first | omega | (simp only [nK];omega) | (simp only [nI,nG,nH];omega)) (zX rfl) rfl) rfl ?_
       intro W238 hS239
       have hS240:SW w [B1] U U212 [.row pA0 pc0 3 1 (hH KL.encI (nE (nE l203 x204.toNat (gd l203 (w64 (x204 - 1)).toNat)) (w64 (x204 - 1)).toNat (gd l203 x204.toNat)))] W238:=hS239
       refine zg (zi (zI (rR fL3 Z (oM Z f217 (oR Z (zm Z Z Z) (oA Z Z (zg ?_)))))))
       obtain rfl:=nA hm236
       exact zI ⟨rfl,_,rfl,⟨U212,(nL (b:=(.slice pA0 ((nE l203 x204.toNat (gd l203 (w64 (x204 - 1)).toNat)).length) pc0:Value)) (c:=(.slice pA0 ((nE (nE l203 x204.toNat (gd l203 (w64 (x204 - 1)).toNat)) (w64 (x204 - 1)).toNat (gd l203 x204.toNat)).length) pc0:Value)) (nL (b:=(.slice pA0 l203.length pc0:Value)) (c:=(.slice pA0 ((nE l203 x204.toNat (gd l203 (w64 (x204 - 1)).toNat)).length) pc0:Value)) f215 (by simp only [nJ])) (by simp only [nJ])),f216,rfl,le213,hS240,((nJ.trans nJ).trans h218)⟩⟩
      ·have hm243:=hx208;rw [if_neg c219] at hm243;replace c219:=zG c219
       refine cF Z c219 (ZC (zZ ?_))
       have q:=wAW hm243
       obtain ⟨v244,hm245,e246⟩:=q
       obtain rfl:=hb209 v244 e246
       refine zZ (zt (zI (zW (zM ?_))))
       have hE:=nA hm245;first | subst r | cases hE
       exact ⟨Z,_,(wCY),U212,_,hS214,Z,Z,h218⟩
   ·intro c125 hm247
    refine cF Z c125 (kN (sR fL7 Z (oM Z Z (oM Z Z (oR Z (zY Z Z Z) (oR Z (Runs.cv64 Z Z zq ZF Z Z) (oR Z (Runs.shr1 Z Z Z) (oR Z (Runs.cvw Z Z ZF zq Z Z) (oA Z Z (eN (sR fL4 Z (oM Z Z (oM Z Z (oR Z (zY Z Z Z) (oA Z Z (eN (sR fL2 Z (oA Z Z (oA Z Z (eN (zF (sR fL3 Z (oM Z Z (oM Z Z (oR Z (ZQ Z Z Z) (eN (ifc hm247 ?_ ?_)))))))))))))))))))))))))))
    ·intro c248 hm249
     refine cT Z c248 (sR fL4 Z (oM Z Z (oM Z Z (oR Z (zm Z Z Z) (oA Z Z (eN (rR fL2 Z (oM Z Z (oA Z Z (eN (sR fL3 Z (oM Z Z (oR Z (zm Z Z Z) (oA Z Z (eN (bnK hm249 fun x250 hx252 hm253=>?_))))))))))))))))
     let B2:Res:=.row pA0 pc0 3 1 (hH KL.encI p0)
     refine CK.cut (fun σ_ w_=>∃ (U_:PHeap),σ_ 0=.slice pA0 p0.length pc0/\σ_ 1=jV p1/\σ_ 2=jV p2/\σ_ 3=jV p3/\σ_ 4=pv4/\σ_ 18=jV (w64 ((wAU (w64 (p1 + p3))) / 2))/\σ_ 19=jV (w64 ((w64 ((wAU (w64 (p1 + p3))) / 2)) + p2))/\σ_ 20=jV x250/\PHeap.Le U U_/\SW w [B2] U U_ [B2] w_) ?_ ?_
     ·refine zR (ZV (fun (x260,x261) σ_ w_=>∃ (U_:PHeap),σ_ 0=.slice pA0 p0.length pc0/\σ_ 1=jV p1/\σ_ 2=jV p2/\σ_ 3=jV p3/\σ_ 4=pv4/\σ_ 18=jV (w64 ((wAU (w64 (p1 + p3))) / 2))/\σ_ 19=jV (w64 ((w64 ((wAU (w64 (p1 + p3))) / 2)) + p2))/\σ_ 20=jV x260/\σ_ 21=jV x261/\σ_ 22=jV (w64 ((w64 ((w64 ((wAU (w64 (p1 + p3))) / 2)) + p2)) - 1))/\PHeap.Le U U_/\SW w [B2] U U_ [B2] w_) hx252 ?_ ?_)
      ·exact ⟨U,Z,Z,Z,Z,Z,Z,Z,Z,Z,Z,(zL _),hS⟩
      ·rintro ⟨x260,x261⟩ xx264 σ262 W263 ⟨U269,f272,f273,f274,f275,f276,f277,f278,f279,f280,f281,le270,hS271⟩ hx265 hb266
       try dsimp only at hx265
       refine zF (sR fL3 Z (oM Z f279 (oM Z f280 (oR Z (zJ Z Z Z) (eN ?_)))))
       by_cases c282:x260 < x261
       ·have hm283:=hx265;rw [if_pos c282] at hm283;replace c282:=zG c282
        refine cT Z c282 (kN (zR (sR fL7 rfl (zD rfl rfl rfl rfl rfl f279 (zD rfl rfl rfl rfl rfl f280 (zS rfl rfl rfl rfl (fun _=>zY rfl rfl rfl) (zS rfl rfl rfl rfl (fun _=>Runs.cv64 rfl rfl zq ZF rfl rfl) (zS rfl rfl rfl rfl (fun _=>Runs.shr1 rfl rfl rfl) (zS rfl rfl rfl rfl (fun _=>Runs.cvw rfl rfl ZF zq rfl rfl) (OKS.ra rfl rfl rfl rfl rfl rfl (eN (zF (ZJ ZH [3,3,3,3,3,3,1,3,3,3,1,2,3,3] (wJB (.fx 11 (.fl 12 (.fl 13 (.nil))) .stop)) (by kernel_rfl) ?_)))))))))))))
        have hS284:=hS271.drew
        generalize hw_W285:({ W263 with drawn:=W263.drawn + 1 }:World)=W285 at hS284 ⊢
        refine oM Z f276 (oM Z f272 (oM Z f281 (oM Z Z (oR Z (zm Z Z Z) (bnK hm283 fun _ h286 hm287=>?_)))))
        obtain ⟨b288,hA289⟩:=hS284.rowSome (j:=0) rfl (by rw [wAF (f:=KL.encI) (sz:=1) (fun _=>rfl) p0];have hz:=wAP h286;omega)
        refine oR Z (zo Z Z hA289 Z zC zB (wBM h286) (wBN h286)) ?_
        have hg290:=wAu (xs:=p0) (wAP h286)
        refine ZA rfl rfl rfl rfl (hS284.ldR (j:=0) rfl hA289 rfl rfl zE (wAN (sz:=1) (fun _=>rfl) _ _ 0 _ hg290 (by first | omega | rfl | simp) rfl)) rfl (zD rfl rfl rfl rfl rfl f272 (zD rfl rfl rfl rfl rfl rfl (bnK hm287 fun _ h291 hm292=>zS rfl rfl rfl rfl (fun _=>zo rfl rfl hA289 rfl zC zB (wBM h291) (wBN h291)) ?_)))
        have hg293:=wAu (xs:=p0) (wAP h291)
        refine ZA rfl rfl rfl rfl (hS284.ldR (j:=0) rfl hA289 rfl rfl zE (wAN (sz:=1) (fun _=>rfl) _ _ 0 _ hg293 (by first | omega | rfl | simp) rfl)) rfl (bnK hm292 fun x294 h295 hm296=>?_)
        have h303:=ha0.le le270
        refine OKS.callV (a:=((gd p0 (w64 ((w64 ((w64 ((w64 ((wAU (w64 (p1 + p3))) / 2)) + p2)) - 1)) - (w64 ((wAU (w64 (x260 + x261))) / 2)))).toNat),(gd p0 (w64 ((wAU (w64 (x260 + x261))) / 2)).toNat))) Z Z Z Z Z Z (zA Z (zA Z zV)) hS284 h303 Z h295 ?_
        rintro U297 L298 v299 W300 le301 hS302 ⟨rfl,rfl⟩
        have hS304:SW w [B2] U U297 [B2] W300:=hS302
        refine oR Z (zJ Z Z Z) (oR Z (Runs.notP Z Z) (eN (ifc hm296 ?_ ?_)))
        ·intro c305 hm306
         refine zh (zd (fun h=>h c305.out)) (rR fL2 Z (oM Z Z (oA Z Z (zg (zi ?_)))))
         obtain rfl:=nA hm306
         exact zI ⟨Z,_,Z,⟨U297,f272,f273,f274,f275,f276,f277,f278,f279,Z,f281,(le270.trans le301),hS304⟩⟩
        ·intro c305 hm309
         refine cT Z c305 (rR fL3 Z (oM Z Z (oR Z (zY Z Z Z) (oA Z Z (zg (zi ?_))))))
         obtain rfl:=nA hm309
         exact zI ⟨Z,_,Z,⟨U297,f272,f273,f274,f275,f276,f277,f278,Z,f280,f281,(le270.trans le301),hS304⟩⟩
       ·have hm312:=hx265;rw [if_neg c282] at hm312;replace c282:=zG c282
        refine cF Z c282 (ZC (zZ ?_))
        have q:=wAW hm312
        obtain ⟨v313,hm314,e315⟩:=q
        obtain rfl:=hb266 v313 e315
        refine zZ (zt ?_)
        cases hm314
        exact zI ⟨Z,⟨U269,f272,f273,f274,f275,f276,f277,f278,f279,le270,hS271⟩⟩
     ·rintro σ317 W318 ⟨U319,f322,f323,f324,f325,f326,f327,f328,f329,le320,hS321⟩
      refine sR fL4 Z (oM Z f328 (oM Z f329 (oR Z (zm Z Z Z) (oA Z Z (eN (zF (bnK hm253 fun b330 hx332 hm333=>CK.cut (fun σ_ w_=>∃ (U_:PHeap),σ_ 0=.slice pA0 p0.length pc0/\σ_ 1=jV p1/\σ_ 2=jV p2/\σ_ 3=jV p3/\σ_ 4=pv4/\σ_ 18=jV (w64 ((wAU (w64 (p1 + p3))) / 2))/\σ_ 20=jV x250/\σ_ 24=jV (w64 ((w64 ((w64 ((wAU (w64 (p1 + p3))) / 2)) + p2)) - x250))/\σ_ 185=.bool b330/\PHeap.Le U319 U_/\SW w [B2] U U_ [B2] w_) ?_ ?_)))))))
      ·refine rR fL8 Z (oM Z f329 (oM Z f324 (oR Z (zJ Z Z Z) (oM Z Z ?_))))
       by_cases c334:x250 < p2
       ·have hm335:=hx332;rw [if_pos c334] at hm335;replace c334:=zG c334
        refine zD Z Z Z (wT Z c334) Z f324 (zD Z Z Z (wT Z c334) Z Z (rU Z (wT Z c334) (zJ Z Z Z) (oR Z (zK Z (zr c334.out) Z) (zg ?_))))
        obtain rfl:=nA hm335
        exact zI ⟨Z,⟨U319,f322,f323,f324,f325,f326,f327,f329,Z,Z,(zL _),hS321⟩⟩
       ·have hm337:=hx332;rw [if_neg c334] at hm337;replace c334:=zG c334
        refine oF Z c334 (oF Z c334 (oF Z c334 (oR Z (zP Z (zd c334.out) Z) (zg ?_))))
        cases hm337
        exact zI ⟨Z,⟨U319,f322,f323,f324,f325,f326,f327,f329,Z,Z,(zL _),hS321⟩⟩
      ·rintro σ339 W340 ⟨U341,f344,f345,f346,f347,f348,f349,f350,f351,f352,le342,hS343⟩
       refine ifc hm333 ?_ ?_
       ·intro c353 hm354
        refine zz (f352.trans (congrArg nB c353.out)) (rR (wCl (.fx 5 (.nil) .stop)) Z (oM Z f344 (oM Z f350 (oM Z f346 (oM Z f351 (oM Z f348 ?_))))))
        have h355:=ha0.le le320
        have h356:=h355.le le342
        refine bnK hm354 fun x357 h358 hm359=>zN 1 Z Z Z Z (zO Z Z Tryz.call168 (zA Z (zA Z (zA Z (zA Z (zA Z zV))))) Z) hS343 (fun hs=>wBd p0 pA0 pc0 x250 p2 (w64 ((w64 ((w64 ((wAU (w64 (p1 + p3))) / 2)) + p2)) - x250)) p4 pv4 W340 U341 hs h356 h358) (.inl Z) ?_
        rintro U360 L361 v362 W363 le364 hS365 ⟨rfl,rfl,h366⟩
        have hS367:SW w [B2] U U360 [.row pA0 pc0 3 1 (hH KL.encI x357)] W363:=hS365
        refine eN (zF (sR fL8 Z (oM Z f345 (oM Z f350 (oR Z (zJ Z Z Z) (oM Z Z (ifc hm359 ?_ ?_)))))))
        ·intro c368 hm369
         refine zD Z Z Z (wT Z c368) Z f350 (zD Z Z Z (wT Z c368) Z f349 (rU Z (wT Z c368) (zJ Z Z Z) (oR Z (zK Z (zr c368.out) Z) (eN (ifc hm369 ?_ ?_)))))
         ·intro c370 hm371
          refine cT Z c370 (rR (wCl (.fx 5 (.nil) .stop)) rfl (zD rfl rfl rfl rfl rfl (nL (b:=(.slice pA0 p0.length pc0:Value)) (c:=(.slice pA0 x357.length pc0:Value)) f344 (by rw [h366])) (zD rfl rfl rfl rfl rfl f345 (zD rfl rfl rfl rfl rfl f350 (zD rfl rfl rfl rfl rfl f349 (zD rfl rfl rfl rfl rfl f348 ?_))))))
          have h372:=h356.le le364
          refine bnK hm371 fun x373 h374 hm375=>zN 1 Z Z Z Z (zO Z Z ZD (zA Z (zA Z (zA Z (zA Z (zA Z zV))))) Z) hS367 (fun hs=>ih x357 pA0 pc0 p1 x250 (w64 ((wAU (w64 (p1 + p3))) / 2)) p4 pv4 W363 U360 hs h372 h374) (.inl Z) ?_
          rintro U376 L377 v378 W379 le380 hS381 ⟨rfl,rfl,h382⟩
          have hS383:SW w [B2] U U376 [.row pA0 pc0 3 1 (hH KL.encI x373)] W379:=hS381
          refine eN (sR fL8 Z (oM Z f349 (oM Z f351 (oR Z (zJ Z Z Z) (oM Z Z (ifc hm375 ?_ ?_))))))
          ·intro c384 hm385
           refine zD Z Z Z (wT Z c384) Z f351 (zD Z Z Z (wT Z c384) Z f347 (rU Z (wT Z c384) (zJ Z Z Z) (oR Z (zK Z (zr c384.out) Z) (eN (ifc hm385 ?_ ?_)))))
           ·intro c386 hm387
            refine cT Z c386 (rR (wCl (.fx 5 (.nil) .stop)) rfl (zD rfl rfl rfl rfl rfl (nL (b:=(.slice pA0 x357.length pc0:Value)) (c:=(.slice pA0 x373.length pc0:Value)) (nL (b:=(.slice pA0 p0.length pc0:Value)) (c:=(.slice pA0 x357.length pc0:Value)) f344 (by rw [h366])) (by rw [h382])) (zD rfl rfl rfl rfl rfl f349 (zD rfl rfl rfl rfl rfl f351 (zD rfl rfl rfl rfl rfl f347 (zD rfl rfl rfl rfl rfl f348 ?_))))))
            have h388:=h372.le le380
            refine bnK hm387 fun x389 h390 hm391=>zN 1 Z Z Z Z (zO Z Z ZD (zA Z (zA Z (zA Z (zA Z (zA Z zV))))) Z) hS383 (fun hs=>ih x373 pA0 pc0 (w64 ((wAU (w64 (p1 + p3))) / 2)) (w64 ((w64 ((w64 ((wAU (w64 (p1 + p3))) / 2)) + p2)) - x250)) p3 p4 pv4 W379 U376 hs h388 h390) (.inl Z) ?_
            rintro U392 L393 v394 W395 le396 hS397 ⟨rfl,rfl,h398⟩
            have hS399:SW w [B2] U U392 [.row pA0 pc0 3 1 (hH KL.encI x389)] W395:=hS397
            refine zg ?_
            have hE:=nA hm391;first | subst r | cases hE
            exact ⟨Z,_,(wCY),U392,_,hS399,Z,Z,((h398.trans h382).trans h366)⟩
           ·intro c386 hm400
            refine cF Z c386 (zp ?_)
            have hE:=nA hm400;first | subst r | cases hE
            exact ⟨Z,_,(wCY),U376,_,hS383,Z,Z,(h382.trans h366)⟩
          ·intro c384 hm401
           refine oF Z c384 (oF Z c384 (oF Z c384 (oR Z (zP Z (zd c384.out) Z) (eN (zh Z (zp ?_))))))
           have hE:=nA hm401;first | subst r | cases hE
           exact ⟨Z,_,(wCY),U376,_,hS383,Z,Z,(h382.trans h366)⟩
         ·intro c370 hm402
          refine cF Z c370 (kN (sR fL8 Z (oM Z f349 (oM Z f351 (oR Z (zJ Z Z Z) (oM Z Z (ifc hm402 ?_ ?_)))))))
          ·intro c403 hm404
           refine zD Z Z Z (wT Z c403) Z f351 (zD Z Z Z (wT Z c403) Z f347 (rU Z (wT Z c403) (zJ Z Z Z) (oR Z (zK Z (zr c403.out) Z) (eN (ifc hm404 ?_ ?_)))))
           ·intro c405 hm406
            refine cT Z c405 (rR (wCl (.fx 5 (.nil) .stop)) rfl (zD rfl rfl rfl rfl rfl (nL (b:=(.slice pA0 p0.length pc0:Value)) (c:=(.slice pA0 x357.length pc0:Value)) f344 (by rw [h366])) (zD rfl rfl rfl rfl rfl f349 (zD rfl rfl rfl rfl rfl f351 (zD rfl rfl rfl rfl rfl f347 (zD rfl rfl rfl rfl rfl f348 ?_))))))
            have h407:=h356.le le364
            refine bnK hm406 fun x408 h409 hm410=>zN 1 Z Z Z Z (zO Z Z ZD (zA Z (zA Z (zA Z (zA Z (zA Z zV))))) Z) hS367 (fun hs=>ih x357 pA0 pc0 (w64 ((wAU (w64 (p1 + p3))) / 2)) (w64 ((w64 ((w64 ((wAU (w64 (p1 + p3))) / 2)) + p2)) - x250)) p3 p4 pv4 W363 U360 hs h407 h409) (.inl Z) ?_
            rintro U411 L412 v413 W414 le415 hS416 ⟨rfl,rfl,h417⟩
            have hS418:SW w [B2] U U411 [.row pA0 pc0 3 1 (hH KL.encI x408)] W414:=hS416
            refine zg ?_
            have hE:=nA hm410;first | subst r | cases hE
            exact ⟨Z,_,(wCY),U411,_,hS418,Z,Z,(h417.trans h366)⟩
           ·intro c405 hm419
            refine cF Z c405 (zp ?_)
            have hE:=nA hm419;first | subst r | cases hE
            exact ⟨Z,_,(wCY),U360,_,hS367,Z,Z,h366⟩
          ·intro c403 hm420
           refine oF Z c403 (oF Z c403 (oF Z c403 (oR Z (zP Z (zd c403.out) Z) (eN (zh Z (zp ?_))))))
           have hE:=nA hm420;first | subst r | cases hE
           exact ⟨Z,_,(wCY),U360,_,hS367,Z,Z,h366⟩
        ·intro c368 hm421
         refine oF Z c368 (oF Z c368 (oF Z c368 (oR Z (zP Z (zd c368.out) Z) (eN (zh Z (kN (sR fL8 Z (oM Z f349 (oM Z f351 (oR Z (zJ Z Z Z) (oM Z Z (ifc hm421 ?_ ?_))))))))))))
         ·intro c422 hm423
          refine zD Z Z Z (wT Z c422) Z f351 (zD Z Z Z (wT Z c422) Z f347 (rU Z (wT Z c422) (zJ Z Z Z) (oR Z (zK Z (zr c422.out) Z) (eN (ifc hm423 ?_ ?_)))))
          ·intro c424 hm425
           refine cT Z c424 (rR (wCl (.fx 5 (.nil) .stop)) rfl (zD rfl rfl rfl rfl rfl (nL (b:=(.slice pA0 p0.length pc0:Value)) (c:=(.slice pA0 x357.length pc0:Value)) f344 (by rw [h366])) (zD rfl rfl rfl rfl rfl f349 (zD rfl rfl rfl rfl rfl f351 (zD rfl rfl rfl rfl rfl f347 (zD rfl rfl rfl rfl rfl f348 ?_))))))
           have h426:=h356.le le364
           refine bnK hm425 fun x427 h428 hm429=>zN 1 Z Z Z Z (zO Z Z ZD (zA Z (zA Z (zA Z (zA Z (zA Z zV))))) Z) hS367 (fun hs=>ih x357 pA0 pc0 (w64 ((wAU (w64 (p1 + p3))) / 2)) (w64 ((w64 ((w64 ((wAU (w64 (p1 + p3))) / 2)) + p2)) - x250)) p3 p4 pv4 W363 U360 hs h426 h428) (.inl Z) ?_
           rintro U430 L431 v432 W433 le434 hS435 ⟨rfl,rfl,h436⟩
           have hS437:SW w [B2] U U430 [.row pA0 pc0 3 1 (hH KL.encI x427)] W433:=hS435
           refine zg ?_
           have hE:=nA hm429;first | subst r | cases hE
           exact ⟨Z,_,(wCY),U430,_,hS437,Z,Z,(h436.trans h366)⟩
          ·intro c424 hm438
           refine cF Z c424 (zp ?_)
           have hE:=nA hm438;first | subst r | cases hE
           exact ⟨Z,_,(wCY),U360,_,hS367,Z,Z,h366⟩
         ·intro c422 hm439
          refine oF Z c422 (oF Z c422 (oF Z c422 (oR Z (zP Z (zd c422.out) Z) (eN (zh Z (zp ?_))))))
          have hE:=nA hm439;first | subst r | cases hE
          exact ⟨Z,_,(wCY),U360,_,hS367,Z,Z,h366⟩
       ·intro c353 hm440
        refine zh (f352.trans (congrArg nB (nD.2 c353.out))) (kN (zF (sR fL8 Z (oM Z f345 (oM Z f350 (oR Z (zJ Z Z Z) (oM Z Z (ifc hm440 ?_ ?_))))))))
        ·intro c441 hm442
         refine zD Z Z Z (wT Z c441) Z f350 (zD Z Z Z (wT Z c441) Z f349 (rU Z (wT Z c441) (zJ Z Z Z) (oR Z (zK Z (zr c441.out) Z) (eN (ifc hm442 ?_ ?_)))))
         ·intro c443 hm444
          refine cT Z c443 (rR (wCl (.fx 5 (.nil) .stop)) Z (oM Z f344 (oM Z f345 (oM Z f350 (oM Z f349 (oM Z f348 ?_))))))
          have h445:=ha0.le le320
          have h446:=h445.le le342
          refine bnK hm444 fun x447 h448 hm449=>zN 1 Z Z Z Z (zO Z Z ZD (zA Z (zA Z (zA Z (zA Z (zA Z zV))))) Z) hS343 (fun hs=>ih p0 pA0 pc0 p1 x250 (w64 ((wAU (w64 (p1 + p3))) / 2)) p4 pv4 W340 U341 hs h446 h448) (.inl Z) ?_
          rintro U450 L451 v452 W453 le454 hS455 ⟨rfl,rfl,h456⟩
          have hS457:SW w [B2] U U450 [.row pA0 pc0 3 1 (hH KL.encI x447)] W453:=hS455
          refine eN (sR fL8 Z (oM Z f349 (oM Z f351 (oR Z (zJ Z Z Z) (oM Z Z (ifc hm449 ?_ ?_))))))
          ·intro c458 hm459
           refine zD Z Z Z (wT Z c458) Z f351 (zD Z Z Z (wT Z c458) Z f347 (rU Z (wT Z c458) (zJ Z Z Z) (oR Z (zK Z (zr c458.out) Z) (eN (ifc hm459 ?_ ?_)))))
           ·intro c460 hm461
            refine cT Z c460 (rR (wCl (.fx 5 (.nil) .stop)) rfl (zD rfl rfl rfl rfl rfl (nL (b:=(.slice pA0 p0.length pc0:Value)) (c:=(.slice pA0 x447.length pc0:Value)) f344 (by rw [h456])) (zD rfl rfl rfl rfl rfl f349 (zD rfl rfl rfl rfl rfl f351 (zD rfl rfl rfl rfl rfl f347 (zD rfl rfl rfl rfl rfl f348 ?_))))))
            have h462:=h446.le le454
            refine bnK hm461 fun x463 h464 hm465=>zN 1 Z Z Z Z (zO Z Z ZD (zA Z (zA Z (zA Z (zA Z (zA Z zV))))) Z) hS457 (fun hs=>ih x447 pA0 pc0 (w64 ((wAU (w64 (p1 + p3))) / 2)) (w64 ((w64 ((w64 ((wAU (w64 (p1 + p3))) / 2)) + p2)) - x250)) p3 p4 pv4 W453 U450 hs h462 h464) (.inl Z) ?_
            rintro U466 L467 v468 W469 le470 hS471 ⟨rfl,rfl,h472⟩
            have hS473:SW w [B2] U U466 [.row pA0 pc0 3 1 (hH KL.encI x463)] W469:=hS471
            refine zg ?_
            have hE:=nA hm465;first | subst r | cases hE
            exact ⟨Z,_,(wCY),U466,_,hS473,Z,Z,(h472.trans h456)⟩
           ·intro c460 hm474
            refine cF Z c460 (zp ?_)
            have hE:=nA hm474;first | subst r | cases hE
            exact ⟨Z,_,(wCY),U450,_,hS457,Z,Z,h456⟩
          ·intro c458 hm475
           refine oF Z c458 (oF Z c458 (oF Z c458 (oR Z (zP Z (zd c458.out) Z) (eN (zh Z (zp ?_))))))
           have hE:=nA hm475;first | subst r | cases hE
           exact ⟨Z,_,(wCY),U450,_,hS457,Z,Z,h456⟩
         ·intro c443 hm476
          refine cF Z c443 (kN (sR fL8 Z (oM Z f349 (oM Z f351 (oR Z (zJ Z Z Z) (oM Z Z (ifc hm476 ?_ ?_)))))))
          ·intro c477 hm478
           refine zD Z Z Z (wT Z c477) Z f351 (zD Z Z Z (wT Z c477) Z f347 (rU Z (wT Z c477) (zJ Z Z Z) (oR Z (zK Z (zr c477.out) Z) (eN (ifc hm478 ?_ ?_)))))
           ·intro c479 hm480
            refine cT Z c479 (rR (wCl (.fx 5 (.nil) .stop)) Z (oM Z f344 (oM Z f349 (oM Z f351 (oM Z f347 (oM Z f348 ?_))))))
            have h481:=ha0.le le320
            have h482:=h481.le le342
            refine bnK hm480 fun x483 h484 hm485=>zN 1 Z Z Z Z (zO Z Z ZD (zA Z (zA Z (zA Z (zA Z (zA Z zV))))) Z) hS343 (fun hs=>ih p0 pA0 pc0 (w64 ((wAU (w64 (p1 + p3))) / 2)) (w64 ((w64 ((w64 ((wAU (w64 (p1 + p3))) / 2)) + p2)) - x250)) p3 p4 pv4 W340 U341 hs h482 h484) (.inl Z) ?_
            rintro U486 L487 v488 W489 le490 hS491 ⟨rfl,rfl,h492⟩
            have hS493:SW w [B2] U U486 [.row pA0 pc0 3 1 (hH KL.encI x483)] W489:=hS491
            refine zg ?_
            have hE:=nA hm485;first | subst r | cases hE
            exact ⟨Z,_,(wCY),U486,_,hS493,Z,Z,h492⟩
           ·intro c479 hm494
            refine cF Z c479 (zp ?_)
            have hE:=nA hm494;first | subst r | cases hE
            exact ⟨Z,_,(wCY),U341,_,hS343,Z,Z,Z⟩
          ·intro c477 hm495
           refine oF Z c477 (oF Z c477 (oF Z c477 (oR Z (zP Z (zd c477.out) Z) (eN (zh Z (zp ?_))))))
           have hE:=nA hm495;first | subst r | cases hE
           exact ⟨Z,_,(wCY),U341,_,hS343,Z,Z,Z⟩
        ·intro c441 hm496
         refine oF Z c441 (oF Z c441 (oF Z c441 (oR Z (zP Z (zd c441.out) Z) (eN (zh Z (kN (sR fL8 Z (oM Z f349 (oM Z f351 (oR Z (zJ Z Z Z) (oM Z Z (ifc hm496 ?_ ?_))))))))))))
         ·intro c497 hm498
          refine zD Z Z Z (wT Z c497) Z f351 (zD Z Z Z (wT Z c497) Z f347 (rU Z (wT Z c497) (zJ Z Z Z) (oR Z (zK Z (zr c497.out) Z) (eN (ifc hm498 ?_ ?_)))))
          ·intro c499 hm500
           refine cT Z c499 (rR (wCl (.fx 5 (.nil) .stop)) Z (oM Z f344 (oM Z f349 (oM Z f351 (oM Z f347 (oM Z f348 ?_))))))
           have h501:=ha0.le le320
           have h502:=h501.le le342
           refine bnK hm500 fun x503 h504 hm505=>zN 1 Z Z Z Z (zO Z Z ZD (zA Z (zA Z (zA Z (zA Z (zA Z zV))))) Z) hS343 (fun hs=>ih p0 pA0 pc0 (w64 ((wAU (w64 (p1 + p3))) / 2)) (w64 ((w64 ((w64 ((wAU (w64 (p1 + p3))) / 2)) + p2)) - x250)) p3 p4 pv4 W340 U341 hs h502 h504) (.inl Z) ?_
           rintro U506 L507 v508 W509 le510 hS511 ⟨rfl,rfl,h512⟩
           have hS513:SW w [B2] U U506 [.row pA0 pc0 3 1 (hH KL.encI x503)] W509:=hS511
           refine zg ?_
           have hE:=nA hm505;first | subst r | cases hE
           exact ⟨Z,_,(wCY),U506,_,hS513,Z,Z,h512⟩
          ·intro c499 hm514
           refine cF Z c499 (zp ?_)
           have hE:=nA hm514;first | subst r | cases hE
           exact ⟨Z,_,(wCY),U341,_,hS343,Z,Z,Z⟩
         ·intro c497 hm515
          refine oF Z c497 (oF Z c497 (oF Z c497 (oR Z (zP Z (zd c497.out) Z) (eN (zh Z (zp ?_))))))
          have hE:=nA hm515;first | subst r | cases hE
          exact ⟨Z,_,(wCY),U341,_,hS343,Z,Z,Z⟩
    ·intro c248 hm516
     refine cF Z c248 (sR fL2 Z (oM Z Z (oA Z Z (eN (rR fL2 Z (oM Z Z (oA Z Z (eN (sR fL3 Z (oM Z Z (oR Z (zm Z Z Z) (oA Z Z (eN (bnK hm516 fun x517 hx519 hm520=>?_))))))))))))))
     let B3:Res:=.row pA0 pc0 3 1 (hH KL.encI p0)
     refine CK.cut (fun σ_ w_=>∃ (U_:PHeap),σ_ 0=.slice pA0 p0.length pc0/\σ_ 1=jV p1/\σ_ 2=jV p2/\σ_ 3=jV p3/\σ_ 4=pv4/\σ_ 18=jV (w64 ((wAU (w64 (p1 + p3))) / 2))/\σ_ 19=jV (w64 ((w64 ((wAU (w64 (p1 + p3))) / 2)) + p2))/\σ_ 20=jV x517/\PHeap.Le U U_/\SW w [B3] U U_ [B3] w_) ?_ ?_
     ·refine zR (ZV (fun (x527,x528) σ_ w_=>∃ (U_:PHeap),σ_ 0=.slice pA0 p0.length pc0/\σ_ 1=jV p1/\σ_ 2=jV p2/\σ_ 3=jV p3/\σ_ 4=pv4/\σ_ 18=jV (w64 ((wAU (w64 (p1 + p3))) / 2))/\σ_ 19=jV (w64 ((w64 ((wAU (w64 (p1 + p3))) / 2)) + p2))/\σ_ 20=jV x527/\σ_ 21=jV x528/\σ_ 22=jV (w64 ((w64 ((w64 ((wAU (w64 (p1 + p3))) / 2)) + p2)) - 1))/\PHeap.Le U U_/\SW w [B3] U U_ [B3] w_) hx519 ?_ ?_)
      ·exact ⟨U,Z,Z,Z,Z,Z,Z,Z,Z,Z,Z,(zL _),hS⟩
      ·rintro ⟨x527,x528⟩ xx531 σ529 W530 ⟨U536,f539,f540,f541,f542,f543,f544,f545,f546,f547,f548,le537,hS538⟩ hx532 hb533
       try dsimp only at hx532
       refine zF (sR fL3 Z (oM Z f546 (oM Z f547 (oR Z (zJ Z Z Z) (eN ?_)))))
       by_cases c549:x527 < x528
       ·have hm550:=hx532;rw [if_pos c549] at hm550;replace c549:=zG c549
        refine cT Z c549 (kN (zR (sR fL7 rfl (zD rfl rfl rfl rfl rfl f546 (zD rfl rfl rfl rfl rfl f547 (zS rfl rfl rfl rfl (fun _=>zY rfl rfl rfl) (zS rfl rfl rfl rfl (fun _=>Runs.cv64 rfl rfl zq ZF rfl rfl) (zS rfl rfl rfl rfl (fun _=>Runs.shr1 rfl rfl rfl) (zS rfl rfl rfl rfl (fun _=>Runs.cvw rfl rfl ZF zq rfl rfl) (OKS.ra rfl rfl rfl rfl rfl rfl (eN (zF (ZJ ZH [3,3,3,3,3,3,1,3,3,3,1,2,3,3] (wJB (.fx 11 (.fl 12 (.fl 13 (.nil))) .stop)) (by kernel_rfl) ?_)))))))))))))
        have hS551:=hS538.drew
        generalize hw_W552:({ W530 with drawn:=W530.drawn + 1 }:World)=W552 at hS551 ⊢
        refine oM Z f543 (oM Z f539 (oM Z f548 (oM Z Z (oR Z (zm Z Z Z) (bnK hm550 fun _ h553 hm554=>?_)))))
        obtain ⟨b555,hA556⟩:=hS551.rowSome (j:=0) rfl (by rw [wAF (f:=KL.encI) (sz:=1) (fun _=>rfl) p0];have hz:=wAP h553;omega)
        refine oR Z (zo Z Z hA556 Z zC zB (wBM h553) (wBN h553)) ?_
        have hg557:=wAu (xs:=p0) (wAP h553)
        refine ZA rfl rfl rfl rfl (hS551.ldR (j:=0) rfl hA556 rfl rfl zE (wAN (sz:=1) (fun _=>rfl) _ _ 0 _ hg557 (by first | omega | rfl | simp) rfl)) rfl (zD rfl rfl rfl rfl rfl f539 (zD rfl rfl rfl rfl rfl rfl (bnK hm554 fun _ h558 hm559=>zS rfl rfl rfl rfl (fun _=>zo rfl rfl hA556 rfl zC zB (wBM h558) (wBN h558)) ?_)))
        have hg560:=wAu (xs:=p0) (wAP h558)
        refine ZA rfl rfl rfl rfl (hS551.ldR (j:=0) rfl hA556 rfl rfl zE (wAN (sz:=1) (fun _=>rfl) _ _ 0 _ hg560 (by first | omega | rfl | simp) rfl)) rfl (bnK hm559 fun x561 h562 hm563=>?_)
        have h570:=ha0.le le537
        refine OKS.callV (a:=((gd p0 (w64 ((w64 ((w64 ((w64 ((wAU (w64 (p1 + p3))) / 2)) + p2)) - 1)) - (w64 ((wAU (w64 (x527 + x528))) / 2)))).toNat),(gd p0 (w64 ((wAU (w64 (x527 + x528))) / 2)).toNat))) Z Z Z Z Z Z (zA Z (zA Z zV)) hS551 h570 Z h562 ?_
        rintro U564 L565 v566 W567 le568 hS569 ⟨rfl,rfl⟩
        have hS571:SW w [B3] U U564 [B3] W567:=hS569
        refine oR Z (zJ Z Z Z) (oR Z (Runs.notP Z Z) (eN (ifc hm563 ?_ ?_)))
        ·intro c572 hm573
         refine zh (zd (fun h=>h c572.out)) (rR fL2 Z (oM Z Z (oA Z Z (zg (zi ?_)))))
         obtain rfl:=nA hm573
         exact zI ⟨Z,_,Z,⟨U564,f539,f540,f541,f542,f543,f544,f545,f546,Z,f548,(le537.trans le568),hS571⟩⟩
        ·intro c572 hm576
         refine cT Z c572 (rR fL3 Z (oM Z Z (oR Z (zY Z Z Z) (oA Z Z (zg (zi ?_))))))
         obtain rfl:=nA hm576
         exact zI ⟨Z,_,Z,⟨U564,f539,f540,f541,f542,f543,f544,f545,Z,f547,f548,(le537.trans le568),hS571⟩⟩
       ·have hm579:=hx532;rw [if_neg c549] at hm579;replace c549:=zG c549
        refine cF Z c549 (ZC (zZ ?_))
        have q:=wAW hm579
        obtain ⟨v580,hm581,e582⟩:=q
        obtain rfl:=hb533 v580 e582
        refine zZ (zt ?_)
        cases hm581
        exact zI ⟨Z,⟨U536,f539,f540,f541,f542,f543,f544,f545,f546,le537,hS538⟩⟩
     ·rintro σ584 W585 ⟨U586,f589,f590,f591,f592,f593,f594,f595,f596,le587,hS588⟩
      refine sR fL4 Z (oM Z f595 (oM Z f596 (oR Z (zm Z Z Z) (oA Z Z (eN (zF (bnK hm520 fun b597 hx599 hm600=>CK.cut (fun σ_ w_=>∃ (U_:PHeap),σ_ 0=.slice pA0 p0.length pc0/\σ_ 1=jV p1/\σ_ 2=jV p2/\σ_ 3=jV p3/\σ_ 4=pv4/\σ_ 18=jV (w64 ((wAU (w64 (p1 + p3))) / 2))/\σ_ 20=jV x517/\σ_ 24=jV (w64 ((w64 ((w64 ((wAU (w64 (p1 + p3))) / 2)) + p2)) - x517))/\σ_ 185=.bool b597/\PHeap.Le U586 U_/\SW w [B3] U U_ [B3] w_) ?_ ?_)))))))
      ·refine rR fL8 Z (oM Z f596 (oM Z f591 (oR Z (zJ Z Z Z) (oM Z Z ?_))))
       by_cases c601:x517 < p2
       ·have hm602:=hx599;rw [if_pos c601] at hm602;replace c601:=zG c601
        refine zD Z Z Z (wT Z c601) Z f591 (zD Z Z Z (wT Z c601) Z Z (rU Z (wT Z c601) (zJ Z Z Z) (oR Z (zK Z (zr c601.out) Z) (zg ?_))))
        obtain rfl:=nA hm602
        exact zI ⟨Z,⟨U586,f589,f590,f591,f592,f593,f594,f596,Z,Z,(zL _),hS588⟩⟩
       ·have hm604:=hx599;rw [if_neg c601] at hm604;replace c601:=zG c601
        refine oF Z c601 (oF Z c601 (oF Z c601 (oR Z (zP Z (zd c601.out) Z) (zg ?_))))
        cases hm604
        exact zI ⟨Z,⟨U586,f589,f590,f591,f592,f593,f594,f596,Z,Z,(zL _),hS588⟩⟩
      ·rintro σ606 W607 ⟨U608,f611,f612,f613,f614,f615,f616,f617,f618,f619,le609,hS610⟩
       refine ifc hm600 ?_ ?_
       ·intro c620 hm621
        refine zz (f619.trans (congrArg nB c620.out)) (rR (wCl (.fx 5 (.nil) .stop)) Z (oM Z f611 (oM Z f617 (oM Z f613 (oM Z f618 (oM Z f615 ?_))))))
        have h622:=ha0.le le587
        have h623:=h622.le le609
        refine bnK hm621 fun x624 h625 hm626=>zN 1 Z Z Z Z (zO Z Z Tryz.call168 (zA Z (zA Z (zA Z (zA Z (zA Z zV))))) Z) hS610 (fun hs=>wBd p0 pA0 pc0 x517 p2 (w64 ((w64 ((w64 ((wAU (w64 (p1 + p3))) / 2)) + p2)) - x517)) p4 pv4 W607 U608 hs h623 h625) (.inl Z) ?_
        rintro U627 L628 v629 W630 le631 hS632 ⟨rfl,rfl,h633⟩
        have hS634:SW w [B3] U U627 [.row pA0 pc0 3 1 (hH KL.encI x624)] W630:=hS632
        refine eN (zF (sR fL8 Z (oM Z f612 (oM Z f617 (oR Z (zJ Z Z Z) (oM Z Z (ifc hm626 ?_ ?_)))))))
        ·intro c635 hm636
         refine zD Z Z Z (wT Z c635) Z f617 (zD Z Z Z (wT Z c635) Z f616 (rU Z (wT Z c635) (zJ Z Z Z) (oR Z (zK Z (zr c635.out) Z) (eN (ifc hm636 ?_ ?_)))))
         ·intro c637 hm638
          refine cT Z c637 (rR (wCl (.fx 5 (.nil) .stop)) rfl (zD rfl rfl rfl rfl rfl (nL (b:=(.slice pA0 p0.length pc0:Value)) (c:=(.slice pA0 x624.length pc0:Value)) f611 (by rw [h633])) (zD rfl rfl rfl rfl rfl f612 (zD rfl rfl rfl rfl rfl f617 (zD rfl rfl rfl rfl rfl f616 (zD rfl rfl rfl rfl rfl f615 ?_))))))
          have h639:=h623.le le631
          refine bnK hm638 fun x640 h641 hm642=>zN 1 Z Z Z Z (zO Z Z ZD (zA Z (zA Z (zA Z (zA Z (zA Z zV))))) Z) hS634 (fun hs=>ih x624 pA0 pc0 p1 x517 (w64 ((wAU (w64 (p1 + p3))) / 2)) p4 pv4 W630 U627 hs h639 h641) (.inl Z) ?_
          rintro U643 L644 v645 W646 le647 hS648 ⟨rfl,rfl,h649⟩
          have hS650:SW w [B3] U U643 [.row pA0 pc0 3 1 (hH KL.encI x640)] W646:=hS648
          refine eN (sR fL8 Z (oM Z f616 (oM Z f618 (oR Z (zJ Z Z Z) (oM Z Z (ifc hm642 ?_ ?_))))))
          ·intro c651 hm652
           refine zD Z Z Z (wT Z c651) Z f618 (zD Z Z Z (wT Z c651) Z f614 (rU Z (wT Z c651) (zJ Z Z Z) (oR Z (zK Z (zr c651.out) Z) (eN (ifc hm652 ?_ ?_)))))
           ·intro c653 hm654
            refine cT Z c653 (rR (wCl (.fx 5 (.nil) .stop)) rfl (zD rfl rfl rfl rfl rfl (nL (b:=(.slice pA0 x624.length pc0:Value)) (c:=(.slice pA0 x640.length pc0:Value)) (nL (b:=(.slice pA0 p0.length pc0:Value)) (c:=(.slice pA0 x624.length pc0:Value)) f611 (by rw [h633])) (by rw [h649])) (zD rfl rfl rfl rfl rfl f616 (zD rfl rfl rfl rfl rfl f618 (zD rfl rfl rfl rfl rfl f614 (zD rfl rfl rfl rfl rfl f615 ?_))))))
            have h655:=h639.le le647
            refine bnK hm654 fun x656 h657 hm658=>zN 1 Z Z Z Z (zO Z Z ZD (zA Z (zA Z (zA Z (zA Z (zA Z zV))))) Z) hS650 (fun hs=>ih x640 pA0 pc0 (w64 ((wAU (w64 (p1 + p3))) / 2)) (w64 ((w64 ((w64 ((wAU (w64 (p1 + p3))) / 2)) + p2)) - x517)) p3 p4 pv4 W646 U643 hs h655 h657) (.inl Z) ?_
            rintro U659 L660 v661 W662 le663 hS664 ⟨rfl,rfl,h665⟩
            have hS666:SW w [B3] U U659 [.row pA0 pc0 3 1 (hH KL.encI x656)] W662:=hS664
            refine zg ?_
            have hE:=nA hm658;first | subst r | cases hE
            exact ⟨Z,_,(wCY),U659,_,hS666,Z,Z,((h665.trans h649).trans h633)⟩
           ·intro c653 hm667
            refine cF Z c653 (zp ?_)
            have hE:=nA hm667;first | subst r | cases hE
            exact ⟨Z,_,(wCY),U643,_,hS650,Z,Z,(h649.trans h633)⟩
          ·intro c651 hm668
           refine oF Z c651 (oF Z c651 (oF Z c651 (oR Z (zP Z (zd c651.out) Z) (eN (zh Z (zp ?_))))))
           have hE:=nA hm668;first | subst r | cases hE
           exact ⟨Z,_,(wCY),U643,_,hS650,Z,Z,(h649.trans h633)⟩
         ·intro c637 hm669
          refine cF Z c637 (kN (sR fL8 Z (oM Z f616 (oM Z f618 (oR Z (zJ Z Z Z) (oM Z Z (ifc hm669 ?_ ?_)))))))
          ·intro c670 hm671
           refine zD Z Z Z (wT Z c670) Z f618 (zD Z Z Z (wT Z c670) Z f614 (rU Z (wT Z c670) (zJ Z Z Z) (oR Z (zK Z (zr c670.out) Z) (eN (ifc hm671 ?_ ?_)))))
           ·intro c672 hm673
            refine cT Z c672 (rR (wCl (.fx 5 (.nil) .stop)) rfl (zD rfl rfl rfl rfl rfl (nL (b:=(.slice pA0 p0.length pc0:Value)) (c:=(.slice pA0 x624.length pc0:Value)) f611 (by rw [h633])) (zD rfl rfl rfl rfl rfl f616 (zD rfl rfl rfl rfl rfl f618 (zD rfl rfl rfl rfl rfl f614 (zD rfl rfl rfl rfl rfl f615 ?_))))))
            have h674:=h623.le le631
            refine bnK hm673 fun x675 h676 hm677=>zN 1 Z Z Z Z (zO Z Z ZD (zA Z (zA Z (zA Z (zA Z (zA Z zV))))) Z) hS634 (fun hs=>ih x624 pA0 pc0 (w64 ((wAU (w64 (p1 + p3))) / 2)) (w64 ((w64 ((w64 ((wAU (w64 (p1 + p3))) / 2)) + p2)) - x517)) p3 p4 pv4 W630 U627 hs h674 h676) (.inl Z) ?_
            rintro U678 L679 v680 W681 le682 hS683 ⟨rfl,rfl,h684⟩
            have hS685:SW w [B3] U U678 [.row pA0 pc0 3 1 (hH KL.encI x675)] W681:=hS683
            refine zg ?_
            have hE:=nA hm677;first | subst r | cases hE
            exact ⟨Z,_,(wCY),U678,_,hS685,Z,Z,(h684.trans h633)⟩
           ·intro c672 hm686
            refine cF Z c672 (zp ?_)
            have hE:=nA hm686;first | subst r | cases hE
            exact ⟨Z,_,(wCY),U627,_,hS634,Z,Z,h633⟩
          ·intro c670 hm687
           refine oF Z c670 (oF Z c670 (oF Z c670 (oR Z (zP Z (zd c670.out) Z) (eN (zh Z (zp ?_))))))
           have hE:=nA hm687;first | subst r | cases hE
           exact ⟨Z,_,(wCY),U627,_,hS634,Z,Z,h633⟩
        ·intro c635 hm688
         refine oF Z c635 (oF Z c635 (oF Z c635 (oR Z (zP Z (zd c635.out) Z) (eN (zh Z (kN (sR fL8 Z (oM Z f616 (oM Z f618 (oR Z (zJ Z Z Z) (oM Z Z (ifc hm688 ?_ ?_))))))))))))
         ·intro c689 hm690
          refine zD Z Z Z (wT Z c689) Z f618 (zD Z Z Z (wT Z c689) Z f614 (rU Z (wT Z c689) (zJ Z Z Z) (oR Z (zK Z (zr c689.out) Z) (eN (ifc hm690 ?_ ?_)))))
          ·intro c691 hm692
           refine cT Z c691 (rR (wCl (.fx 5 (.nil) .stop)) rfl (zD rfl rfl rfl rfl rfl (nL (b:=(.slice pA0 p0.length pc0:Value)) (c:=(.slice pA0 x624.length pc0:Value)) f611 (by rw [h633])) (zD rfl rfl rfl rfl rfl f616 (zD rfl rfl rfl rfl rfl f618 (zD rfl rfl rfl rfl rfl f614 (zD rfl rfl rfl rfl rfl f615 ?_))))))
           have h693:=h623.le le631
           refine bnK hm692 fun x694 h695 hm696=>zN 1 Z Z Z Z (zO Z Z ZD (zA Z (zA Z (zA Z (zA Z (zA Z zV))))) Z) hS634 (fun hs=>ih x624 pA0 pc0 (w64 ((wAU (w64 (p1 + p3))) / 2)) (w64 ((w64 ((w64 ((wAU (w64 (p1 + p3))) / 2)) + p2)) - x517)) p3 p4 pv4 W630 U627 hs h693 h695) (.inl Z) ?_
           rintro U697 L698 v699 W700 le701 hS702 ⟨rfl,rfl,h703⟩
           have hS704:SW w [B3] U U697 [.row pA0 pc0 3 1 (hH KL.encI x694)] W700:=hS702
           refine zg ?_
           have hE:=nA hm696;first | subst r | cases hE
           exact ⟨Z,_,(wCY),U697,_,hS704,Z,Z,(h703.trans h633)⟩
          ·intro c691 hm705
           refine cF Z c691 (zp ?_)
           have hE:=nA hm705;first | subst r | cases hE
           exact ⟨Z,_,(wCY),U627,_,hS634,Z,Z,h633⟩
         ·intro c689 hm706
          refine oF Z c689 (oF Z c689 (oF Z c689 (oR Z (zP Z (zd c689.out) Z) (eN (zh Z (zp ?_))))))
          have hE:=nA hm706;first | subst r | cases hE
          exact ⟨Z,_,(wCY),U627,_,hS634,Z,Z,h633⟩
       ·intro c620 hm707
        refine zh (f619.trans (congrArg nB (nD.2 c620.out))) (kN (zF (sR fL8 Z (oM Z f612 (oM Z f617 (oR Z (zJ Z Z Z) (oM Z Z (ifc hm707 ?_ ?_))))))))
        ·intro c708 hm709
         refine zD Z Z Z (wT Z c708) Z f617 (zD Z Z Z (wT Z c708) Z f616 (rU Z (wT Z c708) (zJ Z Z Z) (oR Z (zK Z (zr c708.out) Z) (eN (ifc hm709 ?_ ?_)))))
         ·intro c710 hm711
          refine cT Z c710 (rR (wCl (.fx 5 (.nil) .stop)) Z (oM Z f611 (oM Z f612 (oM Z f617 (oM Z f616 (oM Z f615 ?_))))))
          have h712:=ha0.le le587
          have h713:=h712.le le609
          refine bnK hm711 fun x714 h715 hm716=>zN 1 Z Z Z Z (zO Z Z ZD (zA Z (zA Z (zA Z (zA Z (zA Z zV))))) Z) hS610 (fun hs=>ih p0 pA0 pc0 p1 x517 (w64 ((wAU (w64 (p1 + p3))) / 2)) p4 pv4 W607 U608 hs h713 h715) (.inl Z) ?_
          rintro U717 L718 v719 W720 le721 hS722 ⟨rfl,rfl,h723⟩
          have hS724:SW w [B3] U U717 [.row pA0 pc0 3 1 (hH KL.encI x714)] W720:=hS722
          refine eN (sR fL8 Z (oM Z f616 (oM Z f618 (oR Z (zJ Z Z Z) (oM Z Z (ifc hm716 ?_ ?_))))))
          ·intro c725 hm726
           refine zD Z Z Z (wT Z c725) Z f618 (zD Z Z Z (wT Z c725) Z f614 (rU Z (wT Z c725) (zJ Z Z Z) (oR Z (zK Z (zr c725.out) Z) (eN (ifc hm726 ?_ ?_)))))
           ·intro c727 hm728
            refine cT Z c727 (rR (wCl (.fx 5 (.nil) .stop)) rfl (zD rfl rfl rfl rfl rfl (nL (b:=(.slice pA0 p0.length pc0:Value)) (c:=(.slice pA0 x714.length pc0:Value)) f611 (by rw [h723])) (zD rfl rfl rfl rfl rfl f616 (zD rfl rfl rfl rfl rfl f618 (zD rfl rfl rfl rfl rfl f614 (zD rfl rfl rfl rfl rfl f615 ?_))))))
            have h729:=h713.le le721
            refine bnK hm728 fun x730 h731 hm732=>zN 1 Z Z Z Z (zO Z Z ZD (zA Z (zA Z (zA Z (zA Z (zA Z zV))))) Z) hS724 (fun hs=>ih x714 pA0 pc0 (w64 ((wAU (w64 (p1 + p3))) / 2)) (w64 ((w64 ((w64 ((wAU (w64 (p1 + p3))) / 2)) + p2)) - x517)) p3 p4 pv4 W720 U717 hs h729 h731) (.inl Z) ?_
            rintro U733 L734 v735 W736 le737 hS738 ⟨rfl,rfl,h739⟩
            have hS740:SW w [B3] U U733 [.row pA0 pc0 3 1 (hH KL.encI x730)] W736:=hS738
            refine zg ?_
            have hE:=nA hm732;first | subst r | cases hE
            exact ⟨Z,_,(wCY),U733,_,hS740,Z,Z,(h739.trans h723)⟩
           ·intro c727 hm741
            refine cF Z c727 (zp ?_)
            have hE:=nA hm741;first | subst r | cases hE
            exact ⟨Z,_,(wCY),U717,_,hS724,Z,Z,h723⟩
          ·intro c725 hm742
           refine oF Z c725 (oF Z c725 (oF Z c725 (oR Z (zP Z (zd c725.out) Z) (eN (zh Z (zp ?_))))))
           have hE:=nA hm742;first | subst r | cases hE
           exact ⟨Z,_,(wCY),U717,_,hS724,Z,Z,h723⟩
         ·intro c710 hm743
          refine cF Z c710 (kN (sR fL8 Z (oM Z f616 (oM Z f618 (oR Z (zJ Z Z Z) (oM Z Z (ifc hm743 ?_ ?_)))))))
          ·intro c744 hm745
           refine zD Z Z Z (wT Z c744) Z f618 (zD Z Z Z (wT Z c744) Z f614 (rU Z (wT Z c744) (zJ Z Z Z) (oR Z (zK Z (zr c744.out) Z) (eN (ifc hm745 ?_ ?_)))))
           ·intro c746 hm747
            refine cT Z c746 (rR (wCl (.fx 5 (.nil) .stop)) Z (oM Z f611 (oM Z f616 (oM Z f618 (oM Z f614 (oM Z f615 ?_))))))
            have h748:=ha0.le le587
            have h749:=h748.le le609
            refine bnK hm747 fun x750 h751 hm752=>zN 1 Z Z Z Z (zO Z Z ZD (zA Z (zA Z (zA Z (zA Z (zA Z zV))))) Z) hS610 (fun hs=>ih p0 pA0 pc0 (w64 ((wAU (w64 (p1 + p3))) / 2)) (w64 ((w64 ((w64 ((wAU (w64 (p1 + p3))) / 2)) + p2)) - x517)) p3 p4 pv4 W607 U608 hs h749 h751) (.inl Z) ?_
            rintro U753 L754 v755 W756 le757 hS758 ⟨rfl,rfl,h759⟩
            have hS760:SW w [B3] U U753 [.row pA0 pc0 3 1 (hH KL.encI x750)] W756:=hS758
            refine zg ?_
            have hE:=nA hm752;first | subst r | cases hE
            exact ⟨Z,_,(wCY),U753,_,hS760,Z,Z,h759⟩
           ·intro c746 hm761
            refine cF Z c746 (zp ?_)
            have hE:=nA hm761;first | subst r | cases hE
            exact ⟨Z,_,(wCY),U608,_,hS610,Z,Z,Z⟩
          ·intro c744 hm762
           refine oF Z c744 (oF Z c744 (oF Z c744 (oR Z (zP Z (zd c744.out) Z) (eN (zh Z (zp ?_))))))
           have hE:=nA hm762;first | subst r | cases hE
           exact ⟨Z,_,(wCY),U608,_,hS610,Z,Z,Z⟩
        ·intro c708 hm763
         refine oF Z c708 (oF Z c708 (oF Z c708 (oR Z (zP Z (zd c708.out) Z) (eN (zh Z (kN (sR fL8 Z (oM Z f616 (oM Z f618 (oR Z (zJ Z Z Z) (oM Z Z (ifc hm763 ?_ ?_))))))))))))
         ·intro c764 hm765
          refine zD Z Z Z (wT Z c764) Z f618 (zD Z Z Z (wT Z c764) Z f614 (rU Z (wT Z c764) (zJ Z Z Z) (oR Z (zK Z (zr c764.out) Z) (eN (ifc hm765 ?_ ?_)))))
          ·intro c766 hm767
           refine cT Z c766 (rR (wCl (.fx 5 (.nil) .stop)) Z (oM Z f611 (oM Z f616 (oM Z f618 (oM Z f614 (oM Z f615 ?_))))))
           have h768:=ha0.le le587
           have h769:=h768.le le609
           refine bnK hm767 fun x770 h771 hm772=>zN 1 Z Z Z Z (zO Z Z ZD (zA Z (zA Z (zA Z (zA Z (zA Z zV))))) Z) hS610 (fun hs=>ih p0 pA0 pc0 (w64 ((wAU (w64 (p1 + p3))) / 2)) (w64 ((w64 ((w64 ((wAU (w64 (p1 + p3))) / 2)) + p2)) - x517)) p3 p4 pv4 W607 U608 hs h769 h771) (.inl Z) ?_
           rintro U773 L774 v775 W776 le777 hS778 ⟨rfl,rfl,h779⟩
           have hS780:SW w [B3] U U773 [.row pA0 pc0 3 1 (hH KL.encI x770)] W776:=hS778
           refine zg ?_
           have hE:=nA hm772;first | subst r | cases hE
           exact ⟨Z,_,(wCY),U773,_,hS780,Z,Z,h779⟩
          ·intro c766 hm781
           refine cF Z c766 (zp ?_)
           have hE:=nA hm781;first | subst r | cases hE
           exact ⟨Z,_,(wCY),U608,_,hS610,Z,Z,Z⟩
         ·intro c764 hm782
          refine oF Z c764 (oF Z c764 (oF Z c764 (oR Z (zP Z (zd c764.out) Z) (eN (zh Z (zp ?_))))))
          have hE:=nA hm782;first | subst r | cases hE
          exact ⟨Z,_,(wCY),U608,_,hS610,Z,Z,Z⟩
end Go.Proofs.YtghaibkggdecnaaGreat
namespace Go.Proofs.YtghaibkggdecnaaGreat
open Go.KL
set_option maxHeartbeats 4000000
theorem wCU (p0:List Int) (pA0:Option Addr) (pc0:Nat) (p1:Int) (p2:((Int × Int)->Option Int)) (pv2:Value) (w:World) (U:PHeap) (hS:St0 w U [.row pA0 pc0 3 1 (hH KL.encI p0)]) (ha0:FnOK Tryz.prog U pv2 wNz wOA p2) {r:(List Int)} (hm:wAv p0 p1 p2=some r):Gv Tryz.prog 127 [.slice pA0 p0.length pc0,jV p1,pv2] w (wDD w [.row pA0 pc0 3 1 (hH KL.encI p0)] U (fun U_ L_ v=>v=.tuple #[]/\L_=[.row pA0 pc0 3 1 (hH KL.encI r)]/\r.length=p0.length)):=by
 unfold wAv at hm
 refine Gv.of Tryz.func127 Z Tryz.ntmps127 Tryz.results127 Z (sR fL1 Z (oA Z Z (eN (sR fL3 Z (oM Z Z (oA Z Z (oA Z Z (eN ?_))))))))
 have q:=bnd hm
 obtain ⟨⟨l2,x3⟩,hx5,hm6⟩:=q
 try dsimp only at hm6
 let B0:Res:=.row pA0 pc0 3 1 (hH KL.encI p0)
 refine CK.cut (fun σ_ w_=>∃ (U_:PHeap),σ_ 0=.slice pA0 l2.length pc0/\σ_ 1=jV p1/\σ_ 2=pv2/\σ_ 6=jV 20/\σ_ 7=jV x3/\PHeap.Le U U_/\SW w [B0] U U_ [.row pA0 pc0 3 1 (hH KL.encI l2)] w_/\l2.length=p0.length) ?_ ?_
 ·refine zR (ZV (fun (l16,x17,x18) σ_ w_=>∃ (U_:PHeap),σ_ 0=.slice pA0 l16.length pc0/\σ_ 1=jV p1/\σ_ 2=pv2/\σ_ 6=jV 20/\σ_ 7=jV x17/\σ_ 8=jV x18/\PHeap.Le U U_/\SW w [B0] U U_ [.row pA0 pc0 3 1 (hH KL.encI l16)] w_/\l16.length=p0.length) hx5 ?_ ?_)
  ·exact ⟨U,Z,Z,Z,Z,Z,Z,(zL _),hS,Z⟩
  ·rintro ⟨l16,x17,x18⟩ xx21 σ19 W20 ⟨U26,f29,f30,f31,f32,f33,f34,le27,hS28,h35⟩ hx22 hb23
   try dsimp only at hx22
   refine zF (sR fL3 Z (oM Z f34 (oM Z f30 (oR Z (Runs.leq Z Z Z) (eN ?_)))))
   by_cases c36:x18 <= p1
   ·have hm37:=hx22;rw [if_pos c36] at hm37;replace c36:=zG c36
    refine cT Z c36 (kN (zR (sR (wMZ (.fx 4 (.nil) .stop)) Z (oM Z f29 (oM Z f33 (oM Z f34 (oM Z f31 ?_)))))))
    have h38:=ha0.le le27
    refine bnK hm37 fun x39 h40 hm41=>zN 1 Z Z Z Z (zO Z Z Tryz.call152 (zA Z (zA Z (zA Z (zA Z zV)))) Z) hS28 (fun hs=>wBJ l16 pA0 pc0 x17 x18 p2 pv2 W20 U26 hs h38 h40) (.inl Z) ?_
    rintro U42 L43 v44 W45 le46 hS47 ⟨rfl,rfl,h48⟩
    have hS49:SW w [B0] U U42 [.row pA0 pc0 3 1 (hH KL.encI x39)] W45:=hS47
    refine eN (sR fL2 Z (oM Z f34 (oA Z Z (eN (rR fL4 Z (oM Z f34 (oM Z f32 (oR Z (zY Z Z Z) (oA Z Z (zg (zi ?_)))))))))))
    obtain rfl:=nA hm41
    exact zI ⟨rfl,_,rfl,⟨U42,(nL (b:=(.slice pA0 l16.length pc0:Value)) (c:=(.slice pA0 x39.length pc0:Value)) f29 (by rw [h48])),f30,f31,f32,rfl,rfl,(le27.trans le46),hS49,(h48.trans h35)⟩⟩
   ·have hm53:=hx22;rw [if_neg c36] at hm53;replace c36:=zG c36
    refine cF Z c36 (ZC (zZ ?_))
    have q:=wAW hm53
    obtain ⟨v54,hm55,e56⟩:=q
    obtain rfl:=hb23 v54 e56
    refine zZ (zt ?_)
    cases hm55
    exact zI ⟨Z,⟨U26,f29,f30,f31,f32,f33,le27,hS28,h35⟩⟩
 ·rintro σ59 W60 ⟨U61,f64,f65,f66,f67,f68,le62,hS63,h69⟩
  refine sR (wMZ (.fx 4 (.nil) .stop)) Z (oM Z f64 (oM Z f68 (oM Z f65 (oM Z f66 ?_))))
  have h70:=ha0.le le62
  refine bnK hm6 fun x71 h72 hm73=>zN 1 Z Z Z Z (zO Z Z Tryz.call152 (zA Z (zA Z (zA Z (zA Z zV)))) Z) hS63 (fun hs=>wBJ l2 pA0 pc0 x3 p1 p2 pv2 W60 U61 hs h70 h72) (.inl Z) ?_
  rintro U74 L75 v76 W77 le78 hS79 ⟨rfl,rfl,h80⟩
  have hS81:SW w [B0] U U74 [.row pA0 pc0 3 1 (hH KL.encI x71)] W77:=hS79
  refine eN (zR (ZV (fun (l88,x89) σ_ w_=>∃ (U_:PHeap),σ_ 0=.slice pA0 l88.length pc0/\σ_ 1=jV p1/\σ_ 2=pv2/\σ_ 6=jV x89/\PHeap.Le U74 U_/\SW w [B0] U U_ [.row pA0 pc0 3 1 (hH KL.encI l88)] w_/\l88.length=p0.length) hm73 ?_ ?_))
  ·exact ⟨U74,(nL (b:=(.slice pA0 l2.length pc0:Value)) (c:=(.slice pA0 x71.length pc0:Value)) f64 (by rw [h80])),f65,f66,f67,(zL _),hS81,(h80.trans h69)⟩
  ·rintro ⟨l88,x89⟩ xx92 σ90 W91 ⟨U97,f100,f101,f102,f103,le98,hS99,h104⟩ hx93 hb94
   try dsimp only at hx93
   refine zF (sR fL3 Z (oM Z f103 (oM Z f101 (oR Z (zJ Z Z Z) (eN ?_)))))
   by_cases c105:x89 < p1
   ·have hm106:=hx93;rw [if_pos c105] at hm106;replace c105:=zG c105
    refine cT Z c105 (kN (zR (sR fL4 Z (oM Z f103 (oR Z (Runs.mulw Z Z Z) (oA Z Z (oA Z Z (eN ?_))))))))
    have q:=bnd hm106
    obtain ⟨⟨l107,x108⟩,hx110,hm111⟩:=q
    try dsimp only at hm111
    refine CK.cut (fun σ_ w_=>∃ (U_:PHeap),σ_ 0=.slice pA0 l107.length pc0/\σ_ 1=jV p1/\σ_ 2=pv2/\σ_ 6=jV x89/\σ_ 7=jV x108/\PHeap.Le U97 U_/\SW w [B0] U U_ [.row pA0 pc0 3 1 (hH KL.encI l107)] w_/\l107.length=p0.length) ?_ ?_
    ·refine zR (ZV (fun (l121,x122,x123) σ_ w_=>∃ (U_:PHeap),σ_ 0=.slice pA0 l121.length pc0/\σ_ 1=jV p1/\σ_ 2=pv2/\σ_ 6=jV x89/\σ_ 7=jV x122/\σ_ 8=jV x123/\PHeap.Le U97 U_/\SW w [B0] U U_ [.row pA0 pc0 3 1 (hH KL.encI l121)] w_/\l121.length=p0.length) hx110 ?_ ?_)
     ·exact ⟨U97,f100,f101,f102,f103,Z,Z,(zL _),hS99,h104⟩
     ·rintro ⟨l121,x122,x123⟩ xx126 σ124 W125 ⟨U131,f134,f135,f136,f137,f138,f139,le132,hS133,h140⟩ hx127 hb128
      try dsimp only at hx127
      refine zF (sR fL3 Z (oM Z f139 (oM Z f135 (oR Z (Runs.leq Z Z Z) (eN ?_)))))
      by_cases c141:x123 <= p1
      ·have hm142:=hx127;rw [if_pos c141] at hm142;replace c141:=zG c141
       refine cT Z c141 (kN (zR (sR (wMa (.fx 7 (.nil) .stop)) Z (oM Z f134 (oM Z f138 (oM Z f138 (oM Z f137 (oR Z (zY Z Z Z) (oM Z f139 (oM Z f136 ?_))))))))))
       have h143:=h70.le le78
       have h144:=h143.le le98
       have h145:=h144.le le132
       refine bnK hm142 fun x146 h147 hm148=>zN 1 Z Z Z Z (zO Z Z ZD (zA Z (zA Z (zA Z (zA Z (zA Z zV))))) Z) hS133 (fun hs=>wBY 1000 l121 pA0 pc0 x122 (w64 (x122 + x89)) x123 p2 pv2 W125 U131 hs h145 h147) (.inl Z) ?_
       rintro U149 L150 v151 W152 le153 hS154 ⟨rfl,rfl,h155⟩
       have hS156:SW w [B0] U U149 [.row pA0 pc0 3 1 (hH KL.encI x146)] W152:=hS154
       refine eN (sR fL2 Z (oM Z f139 (oA Z Z (eN (rR fL5 Z (oM Z f139 (oM Z f137 (oR Z (Runs.mulw Z Z Z) (oR Z (zY Z Z Z) (oA Z Z (zg (zi ?_))))))))))))
       obtain rfl:=nA hm148
       exact zI ⟨rfl,_,rfl,⟨U149,(nL (b:=(.slice pA0 l121.length pc0:Value)) (c:=(.slice pA0 x146.length pc0:Value)) f134 (by rw [h155])),f135,f136,f137,rfl,rfl,(le132.trans le153),hS156,(h155.trans h140)⟩⟩
      ·have hm160:=hx127;rw [if_neg c141] at hm160;replace c141:=zG c141
       refine cF Z c141 (ZC (zZ ?_))
       have q:=wAW hm160
       obtain ⟨v161,hm162,e163⟩:=q
       obtain rfl:=hb128 v161 e163
       refine zZ (zt ?_)
       cases hm162
       exact zI ⟨Z,⟨U131,f134,f135,f136,f137,f138,le132,hS133,h140⟩⟩
    ·rintro σ166 W167 ⟨U168,f171,f172,f173,f174,f175,le169,hS170,h176⟩
     refine zF (sR fL4 Z (oM Z f175 (oM Z f174 (oR Z (zY Z Z Z) (oA Z Z (eN (sR fL3 Z (oM Z Z (oM Z f172 (oR Z (zJ Z Z Z) (eN (ifc hm111 ?_ ?_))))))))))))
     ·intro c177 hm178
      refine cT Z c177 (rR (wCl (.fx 5 (.nil) .stop)) Z (oM Z f171 (oM Z f175 (oM Z Z (oM Z f172 (oM Z f173 ?_))))))
      have h179:=h70.le le78
      have h180:=h179.le le98
      have h181:=h180.le le169
      refine bnK hm178 fun x182 h183 hm184=>zN 1 Z Z Z Z (zO Z Z ZD (zA Z (zA Z (zA Z (zA Z (zA Z zV))))) Z) hS170 (fun hs=>wBY 1000 l107 pA0 pc0 x108 (w64 (x108 + x89)) p1 p2 pv2 W167 U168 hs h181 h183) (.inl Z) ?_
      rintro U185 L186 v187 W188 le189 hS190 ⟨rfl,rfl,h191⟩
      have hS192:SW w [B0] U U185 [.row pA0 pc0 3 1 (hH KL.encI x182)] W188:=hS190
      refine eN (rR fL3 Z (oM Z f174 (oR Z (Runs.mulw Z Z Z) (oA Z Z (zg (zi ?_))))))
      obtain rfl:=nA hm184
      exact zI ⟨rfl,_,rfl,⟨U185,(nL (b:=(.slice pA0 l107.length pc0:Value)) (c:=(.slice pA0 x182.length pc0:Value)) f171 (by rw [h191])),f172,f173,rfl,((le98.trans le169).trans le189),hS192,(h191.trans h176)⟩⟩
     ·intro c177 hm195
      refine cF Z c177 (kN (rR fL3 Z (oM Z f174 (oR Z (Runs.mulw Z Z Z) (oA Z Z (zg (zi ?_)))))))
      obtain rfl:=nA hm195
      exact zI ⟨Z,_,Z,⟨U168,f171,f172,f173,Z,(le98.trans le169),hS170,h176⟩⟩
   ·have hm198:=hx93;rw [if_neg c105] at hm198;replace c105:=zG c105
    refine cF Z c105 (ZC (zZ ?_))
    have q:=wAW hm198
    obtain ⟨v199,hm200,e201⟩:=q
    obtain rfl:=hb94 v199 e201
    refine zZ (zt ?_)
    have hE:=nA hm200;first | subst r | cases hE
    exact ⟨Z,_,(wCY),U97,_,hS99,Z,Z,h104⟩
theorem wBw (p0:List Int) (pA0:Option Addr) (pc0:Nat) (p1:((Int × Int)->Option Int)) (pv1:Value) (w:World) (U:PHeap) (hS:St0 w U [.row pA0 pc0 3 1 (hH KL.encI p0)]) (ha0:FnOK Tryz.prog U pv1 wNz wOA p1) {r:(List Int)} (hm:wAY p0 p1=some r):Gv Tryz.prog 79 [.slice pA0 p0.length pc0,pv1] w (wDD w [.row pA0 pc0 3 1 (hH KL.encI p0)] U (fun U_ L_ v=>v=.tuple #[]/\L_=[.row pA0 pc0 3 1 (hH KL.encI r)]/\r.length=p0.length)):=by
 unfold wAY at hm
 refine Gv.of Tryz.func79 Z Tryz.ntmps79 Tryz.results79 Z (rR (wMZ (.fx 4 (.nil) .stop)) Z (oM Z Z (oM Z Z (oR Z (zw Z Z zC) (oM Z Z (bnK hm fun x2 h3 hm4=>zN 1 Z Z Z Z (zO Z Z Tryz.call127 (zA Z (zA Z (zA Z zV))) Z) hS (fun hs=>wCU p0 pA0 pc0 (↑p0.length:Int) p1 pv1 w U hs ha0 h3) (.inl Z) ?_))))))
 rintro U5 L6 v7 W8 le9 hS10 ⟨rfl,rfl,h11⟩
 have hS12:SW w [.row pA0 pc0 3 1 (hH KL.encI p0)] U U5 [.row pA0 pc0 3 1 (hH KL.encI x2)] W8:=hS10
 refine zg ?_
 have hE:=nA hm4;first | subst r | cases hE
 exact ⟨Z,_,(wCY),U5,_,hS12,Z,Z,h11⟩
theorem wDM (p0:List wAA) (pA0:Option Addr) (pc0:Nat) (p1:wAC) (w:World) (U:PHeap) (hS:St0 w U []) (ha0:Sl U 2 pA0 pc0 p0.length (hH wAH p0)) {r:(List wAB) × Int} (hm:wAz p0 p1=some r):Gv Tryz.prog 16 [.slice pA0 p0.length pc0,.agg #[jV p1.Unit,jV p1.Limit]] w (wDD w [] U (fun U_ L_ v=>∃ (A0:Option Addr) (c0:Nat),v=.tuple #[.slice A0 r.1.length c0,jV r.2]/\L_=[.row A0 c0 54 3 (hH wAM r.1)])):=by
 unfold wAz at hm
 refine Gv.of Tryz.func16 rfl Tryz.ntmps16 Tryz.results16 rfl (sR (.fx 0 (.fx 1 (.fl 2 (.fl 3 (.nil))) .stop) .stop) rfl (OKS.box (cs:=[.slice pA0 p0.length pc0]) rfl rfl rfl rfl rfl rfl (by rfl) hS ?_))
 intro W1 b2 hS3
 have q:=hS3.freeze (k:=0) rfl
 obtain ⟨U5,le6,hC7,hS8⟩:=q
 replace hC7:=Cl.of hC7
 have hS9:sW w U U5 [] W1:=hS8
 replace hC7:Cl U5 b2 0 [.slice pA0 p0.length pc0]:=hC7
 let B0:List Value:=[jV p1.Unit,jV p1.Limit]
 refine OKS.box (cs:=B0) rfl rfl rfl rfl rfl rfl (by rfl) hS9 ?_
 intro W10 b11 hS12
 refine oA Z Z (oA Z Z (eN (sR (.fl 0 (.fl 1 (.fx 2 (wOM (.fx 6 (.fx 7 (.fl 8 (.nil)) .stop) .stop)) .stop))) Z (oL Z (hS12.ldC (f:=0) hC7 (v:=.slice pA0 p0.length pc0) Z Z Tryz.isAgg22 Z) (oL Z (hS12.ldBA (j:=0) Z Z Z Tryz.isAgg24 Tryz.sizeOf24 (vs:=B0) Z Z) ?_)))))
 have h14:=ha0.le le6
 have q:=bnd hm
 obtain ⟨⟨x15,x16⟩,h17,hm18⟩:=q
 try dsimp only at hm18
 refine zN 0 Z Z Z Z (zO Z Z Tryz.call13 (zA Z (zA Z zV)) Z) hS12 (fun hs=>wCJ p0 pA0 pc0 p1 W10 U5 hs h14 h17) (.inr Z) ?_
 rintro U19 L20 v21 W22 le23 hS24 ⟨A25,c26,rfl,rfl⟩
 let B1:Res:=.row A25 c26 3 1 (hH KL.encI x15)
 have hS28:sW w U U19 [B1,.blk b11 24 B0] W22:=hS24
 refine oM Z Z (oR Z (Runs.ext Z Z (v:=.slice A25 x15.length c26) Z) (oR Z (Runs.ext Z Z (v:=jV x16) Z) (ZT (cs:=[.slice none 0 0]) Z Z Z Z Z Tryz.zeroValue31 Z hS28 ?_)))
 intro W29 b30 hS31
 let B2:List Value:=[.slice A25 x15.length c26]
 refine OKS.st (j:=0) (vs:=B2) Z Z Z Z hS31 Z Z Z Z Tryz.sizeOf31 (zX Z) Z Z Z ?_
 intro W33 hS34
 have hS35:sW w U U19 [.blk b30 31 B2,B1,.blk b11 24 B0] W33:=hS34
 refine oA Z Z (eN (zF (sR fL2 Z (oM Z Z (oR Z (ZO Z Z Z) (eN (ifc hm18 ?_ ?_)))))))
 ·intro c36 hm37
  refine zh (zd (fun h=>h c36.out)) (kN (sR fL1 Z (oA Z Z (eN (zF (sR fL3 Z ?_))))))
  have h38:=hC7.le le23
  refine oL Z (hS35.ldC (f:=0) h38 (v:=.slice pA0 p0.length pc0) Z Z Tryz.isAgg22 Z) (oR Z (zw Z Z zQ) (oM Z Z (eN (zR (bnK hm37 fun y61 hf58 hm57=>?_)))))
  have q:=wCB hf58
  obtain ⟨hle59,hf60⟩:=q
  replace hle59:=zG hle59
  refine CK.forN' (fun k56 l52 σ_ w_=>∃ (U_:PHeap) (A53:Option Addr) (c54:Nat),σ_ 24=jV (↑k56:Int)/\σ_ 2=.pointer (some ⟨b2,0,none⟩)/\σ_ 6=.pointer (some ⟨b30,0,none⟩)/\σ_ 8=.slice A53 l52.length c54/\σ_ 23=jV (↑p0.length:Int)/\PHeap.Le U19 U_/\sW w U U_ [B1,.blk b30 31 B2,.blk b11 24 B0,.row A53 c54 3 1 (hH KL.encI l52)] w_) hf60 ?_ ?_ ?_
  ·have hS62:=hS35.nilrow 3 1
   exact ⟨U19,none,0,rfl,rfl,rfl,rfl,rfl,(zL _),(hS62.pick [2,1,3,0] _ (by decide) rfl)⟩
  ·rintro k56 l52 xx66 σ64 W65 hk69 ⟨U71,A53,c54,fi70,f74,f75,f76,f77,le72,hS73⟩ hx67
   have c78:Hid ((↑k56:Int) < (↑p0.length:Int)):=zG (wBk hk69)
   replace hk69:=zG hk69
   have hi79:Hid (w64 ((↑k56:Int) + 1)=(↑(k56 + 1):Int)):=zG (by have h1:=hle59.out;have h2:=c78.out;rw [wAg] <;> omega)
   refine sR fL1 Z (oR Z (zJ Z fi70 f77) (eN (zF (cT Z c78 (kN (zF (zR (sR fL2 Z (oM Z fi70 (oA Z Z (eN (rR (.fl 0 (.fl 1 (.fx 2 (.fx 3 (.fl 4 (.nil)) .stop) .stop))) Z (oM Z f76 (oM Z Z (ZE (pv:=[(0,jV (↑k56:Int))]) (zs:=[jV 0]) (cs:=[jV (↑k56:Int)]) Z Z Z Z Z (wAi Z wBO) zC zB ZI Z Z Z Z Z hS73 ?_)))))))))))))))
   intro W80 b81 hS82
   let B3:Res:=.row (some ⟨b81,0,none⟩) 1 3 1 (hH KL.encI [(↑k56:Int)])
   have hS84:sW w U U71 [B3,B1,.blk b30 31 B2,.blk b11 24 B0,.row A53 c54 3 1 (hH KL.encI l52)] W80:=hS82
   refine bnK hx67 fun x85 h86 hm87=>ZK (j:=4) (enc:=KL.encI) (xs:=l52) (ys:=[(↑k56:Int)]) (zs:=x85) rfl rfl rfl rfl rfl zx wDl rfl rfl rfl rfl rfl rfl hS84 rfl rfl rfl (hS84.srcR (j:=0) rfl (by decide) (wAF (f:=KL.encI) (sz:=1) (fun _=>rfl) [(↑k56:Int)])) (fun _=>rfl) (fun _=>rfl) h86 rfl ?_
   intro A88 c89 W90 hS91
   have hS92:sW w U U71 [B3,B1,.blk b30 31 B2,.blk b11 24 B0,.row A88 c89 3 1 (hH KL.encI x85)] W90:=hS91
   refine oA Z Z (zg (zi (zI (rR fL2 Z (oR Z (ZP (zY Z fi70 Z) (congrArg (jV) hi79.out)) (oM Z Z (zg ?_)))))))
   cases hm87
   exact zI ⟨rfl,⟨U71,A88,c89,rfl,f74,f75,rfl,f77,le72,(hS92.pick [1,2,3,4] _ (by decide) rfl)⟩⟩
  ·rintro σ96 W97 ⟨U105,A103,c104,fi99,f108,f109,f110,f111,le106,hS107⟩
   have c112:Hid (¬ ((↑(((↑p0.length:Int):Int) - 0).toNat:Int) < (↑p0.length:Int))):=zG (wBS)
   refine sR fL1 Z (oR Z (zJ Z fi99 f111) (eN (zF (cF Z c112 (ZC (zZ (zZ (zt (zI (sR (.fl 0 (.fl 1 (.fx 2 (.nil) .stop))) Z (oM Z f110 ?_)))))))))))
   have q:=hS107.freezeR (k:=0) (n:=x15.length) rfl (wAF (f:=KL.encI) (sz:=1) (fun _=>rfl) x15) (by decide)
   obtain ⟨U117,le118,hs119,hS120⟩:=q
   let B4:Res:=.row A103 c104 3 1 (hH KL.encI y61)
   have hS121:sW w U U117 [.blk b30 31 B2,.blk b11 24 B0,B4] W97:=hS120
   have q:=hS121.freeze (k:=0) rfl
   obtain ⟨U113,le114,hC115,hS116⟩:=q
   replace hC115:=Cl.of hC115
   have hS122:sW w U U113 [.blk b11 24 B0,B4] W97:=hS116
   replace hC115:Cl U113 b30 0 B2:=hC115
   refine oR Z (Runs.mkf Z zV (zA f109 (zA f108 zV))) ?_
   have h123:=hs119.le le114
   have h124:=h38.le le106
   have h125:=h124.le le118
   have h126:=h125.le le114
   have h127:=h14.le le23
   have h128:=h127.le le106
   have h129:=h128.le le118
   have h130:=h129.le le114
   have hF131:FnOK Tryz.prog U113 (.func (.func 80) #[] #[.pointer (some ⟨b30,0,none⟩),.pointer (some ⟨b2,0,none⟩)]) wNz wOA (fun x=>wAp x.1 x.2 x15 p0):=⟨80,[],[.pointer (some ⟨b30,0,none⟩),.pointer (some ⟨b2,0,none⟩)],rfl,Tryz.call80,fun U1 w1 x y vs le hs ha hm=>by obtain rfl:=ha;exact wER x.1 x.2 x15 b30 A25 c26 p0 b2 pA0 pc0 w1 U1 hs (hC115.le le) (h123.le le) (h126.le le) (h130.le le) hm⟩
   refine bnK hm57 fun x132 h133 hm134=>?_
   have hS135:sW w U U113 [B4,.blk b11 24 B0] W97:=hS122.pick [1,0] _ (by decide) rfl
   refine zN 1 Z Z Z Z (zO Z Z Tryz.call79 (zA Z (zA Z zV)) Z) hS135 (fun hs=>wBw y61 A103 c104 (fun x=>wAp x.1 x.2 x15 p0) (.func (.func 80) #[] #[.pointer (some ⟨b30,0,none⟩),.pointer (some ⟨b2,0,none⟩)]) W97 U113 hs hF131 h133) (.inl Z) ?_
   rintro U136 L137 v138 W139 le140 hS141 ⟨rfl,rfl,h142⟩
   let B5:Res:=.row A103 c104 3 1 (hH KL.encI x132)
   have hS143:sW w U U136 [B5,.blk b11 24 B0] W139:=hS141
   refine eN (sR fL1 rfl (OKS.ra rfl rfl rfl rfl rfl rfl (eN (zF (sR fL3 rfl (zD rfl rfl rfl rfl rfl (nL (b:=(.slice A103 y61.length c104:Value)) (c:=(.slice A103 x132.length c104:Value)) f110 (by rw [h142])) (zS rfl rfl rfl rfl (fun _=>zw rfl rfl zC) (zD rfl rfl rfl rfl rfl rfl (eN (zR (bnK hm134 fun y166 hf163 hm162=>?_)))))))))))
   have q:=wCB hf163
   obtain ⟨hle164,hf165⟩:=q
   replace hle164:=zG hle164
   refine CK.forN' (fun k161 l157 σ_ w_=>∃ (U_:PHeap) (A158:Option Addr) (c159:Nat),σ_ 37=jV (↑k161:Int)/\σ_ 2=.pointer (some ⟨b2,0,none⟩)/\σ_ 6=.pointer (some ⟨b30,0,none⟩)/\σ_ 10=.slice A158 l157.length c159/\σ_ 35=.slice A103 x132.length c104/\σ_ 36=jV (↑x132.length:Int)/\PHeap.Le U136 U_/\sW w U U_ [.blk b11 24 B0,.row A158 c159 54 3 (hH wAM l157),B5] w_) hf165 ?_ ?_ ?_
   ·have hS167:=hS143.nilrow 54 3
    exact ⟨U136,none,0,rfl,f108,f109,rfl,rfl,rfl,(zL _),(hS167.pick [2,0,1] _ (by decide) rfl)⟩
   ·rintro k161 l157 xx171 σ169 W170 hk174 ⟨U176,A158,c159,fi175,f179,f180,f181,f182,f183,le177,hS178⟩ hx172
    have c184:Hid ((↑k161:Int) < (↑x132.length:Int)):=zG (wBk hk174)
    replace hk174:=zG hk174
    have hi185:Hid (w64 ((↑k161:Int) + 1)=(↑(k161 + 1):Int)):=zG (by have h1:=hle164.out;have h2:=c184.out;rw [wAg] <;> omega)
    refine sR fL1 Z (oR Z (zJ Z fi175 f183) (eN (zF (cT Z c184 (kN (zF (zR (sR fL3 Z (bnK hx172 fun _ h186 hm187=>?_)))))))))
    obtain ⟨b188,hA189⟩:=hS178.rowSome (j:=2) rfl (by rw [wAF (f:=KL.encI) (sz:=1) (fun _=>rfl) x132];have hz:=wAP h186;omega)
    refine oR Z (ZB Z f182 hA189 fi175 zC zB (wAP h186)) ?_
    have hg190:=wAu (xs:=x132) (wAP h186)
    refine ZA rfl rfl rfl rfl (hS178.ldR (j:=2) rfl hA189 rfl rfl zE (wAN (sz:=1) (fun _=>rfl) _ _ 0 _ hg190 (by first | omega | rfl | simp) rfl)) rfl (OKS.ra rfl rfl rfl rfl rfl rfl (eN (ZJ ZH [3,1,3,3,3,1,1,3,3,1,3,2,0,3] (wJB (.fx 11 (.fx 12 (.fl 13 (.nil)) .stop) .stop)) (by kernel_rfl) ?_)))
    have hS191:=hS178.drew
    generalize hw_W192:({ W170 with drawn:=W170.drawn + 1 }:World)=W192 at hS191 ⊢
    refine oM Z f181 ?_
    have h193:=h126.le le140
    have h194:=h193.le le177
    refine oL Z (hS191.ldC (f:=0) h194 (v:=.slice pA0 p0.length pc0) Z f179 Tryz.isAgg22 Z) (oM Z Z (bnK hm187 fun x195 h196 hm197=>?_))
    have h198:=h130.le le140
    have h199:=h198.le le177
    have q:=h199.el (fun _=>rfl) (wAt h196)
    obtain ⟨b200,off201,hA202,hC203⟩:=q
    refine oR Z (zo Z Z hA202 Z zQ zf (wCx h196) (wDF h196)) (oR Z (zk Z Z ze Z zB) (oL Z (hS191.ldC (f:=0) hC203 (v:=jV x195.Bib) Z Z zE Z) ?_))
    have h204:=hC115.le le140
    have h205:=h204.le le177
    refine oL Z (hS191.ldC (f:=0) h205 (v:=.slice A25 x15.length c26) Z f180 Tryz.isAgg31 Z) (oM Z Z (bnK hm197 fun x206 h207 hm208=>?_))
    have h209:=h123.le le140
    have h210:=h209.le le177
    have q:=h210.el (fun _=>rfl) (wAt h207)
    obtain ⟨b211,off212,hA213,hC214⟩:=q
    refine oR Z (zo Z Z hA213 Z zC zB (wCx h207) (wDF h207)) (oL Z (hS191.ldC (f:=0) hC214 (v:=jV x206) Z Z zE Z) ?_)
    let B6:List Value:=[jV x195.Bib,jV x206,jV 0]
    let B7:List Value:=[jV 0,jV 0,jV 0]
    refine oR Z (Runs.build (pv:=[(0,jV x195.Bib),(1,jV x206)]) (z:=B7) (cs:=B6) Z (wAi Z (wAi Z wBO)) Tryz.zeroValue54 wMM Z Z) (ZE (pv:=[(0,.agg B6.toArray)]) (zs:=B7) (cs:=B6) Z Z Z Z Z (wAi Z wBO) zl ZG Tryz.zeroValue54 Z Z Z Z Z hS191 ?_)
    intro W215 b216 hS217
    let B8:Res:=.row (some ⟨b216,0,none⟩) 1 54 3 (hH wAM [(⟨x195.Bib,x206,0⟩:wAB)])
    have hS219:sW w U U176 [B8,.blk b11 24 B0,.row A158 c159 54 3 (hH wAM l157),B5] W215:=hS217
    refine bnK hm208 fun x220 h221 hm222=>ZK (j:=2) (enc:=wAM) (xs:=l157) (ys:=[(⟨x195.Bib,x206,0⟩:wAB)]) (zs:=x220) rfl rfl rfl rfl rfl Tryz.underlying37 wPS rfl rfl rfl rfl rfl rfl hS219 rfl rfl rfl (hS219.srcR (j:=0) rfl (by decide) (wAF (f:=wAM) (sz:=3) (fun _=>rfl) [(⟨x195.Bib,x206,0⟩:wAB)])) (fun _=>rfl) (fun _=>rfl) h221 rfl ?_
    intro A223 c224 W225 hS226
    have hS227:sW w U U176 [B8,.blk b11 24 B0,.row A223 c224 54 3 (hH wAM x220),B5] W225:=hS226
    refine oA Z Z (zg (zi (zI (rR fL2 Z (oR Z (ZP (zY Z fi175 Z) (congrArg (jV) hi185.out)) (oM Z Z (zg ?_)))))))
    cases hm222
    exact zI ⟨rfl,⟨U176,A223,c224,rfl,f179,f180,rfl,f182,f183,le177,(hS227.pick [1,2,3] _ (by decide) rfl)⟩⟩
   ·rintro σ231 W232 ⟨U240,A238,c239,fi234,f243,f244,f245,f246,f247,le241,hS242⟩
    have c248:Hid (¬ ((↑(((↑x132.length:Int):Int) - 0).toNat:Int) < (↑x132.length:Int))):=zG (wBS)
    refine sR fL1 Z (oR Z (zJ Z fi234 f247) (eN (zF (cF Z c248 (ZC (zZ (zZ (zt (zI (sR fL3 Z (oM Z f245 (oA Z Z (oA Z Z (eN (zW ?_)))))))))))))))
    cases hm162
    exact ⟨rfl,_,(res2 rfl rfl),U240,_,(hS242.pick [1] _ (by decide) rfl),A238,c239,rfl,rfl⟩
 ·intro c36 hm249
  refine cT Z c36 (sR fL3 Z (oM Z Z (oA Z Z (oA Z Z (eN (zW (zM ?_)))))))
  have hS250:=hS35.nilrow 54 3
  cases hm249
  exact ⟨rfl,_,(res2 rfl rfl),U19,_,(hS250.pick [0] _ (by decide) rfl),none,0,rfl,rfl⟩
theorem wCu (p0:List wAB) (pA0:Option Addr) (pc0:Nat) (p1:(wAB->Option Bool)) (pv1:Value) (w:World) (U:PHeap) (hS:St0 w U []) (ha0:Sl U 3 pA0 pc0 p0.length (hH wAM p0)) (ha1:FnOK Tryz.prog U pv1 wPQ wPR p1) {r:Bool} (hm:wAr p0 p1=some r):Gv Tryz.prog 84 [.slice pA0 p0.length pc0,pv1] w (wDD w [] U (fun U_ L_ v=>v=.bool r/\L_=[])):=by
 unfold wAr at hm
 refine Gv.of Tryz.func84 Z Tryz.ntmps84 Tryz.results84 Z (sR fL1 Z (oA Z Z (eN (zF (sR fL3 Z (oM Z Z (oR Z (zw Z Z zl) (oM Z Z (eN (zR ?_))))))))))
 have q:=wCa hm
 obtain ⟨r3,hX4⟩:=q
 have q:=wCn hX4
 obtain ⟨hle5,hf6⟩:=q
 replace hle5:=zG hle5
 refine CK.forN (fun k2 _ σ_ w_=>∃ (U_:PHeap),σ_ 9=jV (↑k2:Int)/\σ_ 1=pv1/\σ_ 7=.slice pA0 p0.length pc0/\σ_ 8=jV (↑p0.length:Int)/\PHeap.Le U U_/\sW w U U_ [] w_) hf6 ?_ ?_ ?_
 ·exact ⟨U,Z,Z,Z,Z,(zL _),hS⟩
 ·rintro k2 ⟨⟩ xx9 σ7 W8 hk12 ⟨U14,fi13,f17,f18,f19,le15,hS16⟩ hx10 hb11
  try dsimp only at hx10
  have c20:Hid ((↑k2:Int) < (↑p0.length:Int)):=zG (wBk hk12)
  replace hk12:=zG hk12
  have hi21:Hid (w64 ((↑k2:Int) + 1)=(↑(k2 + 1):Int)):=zG (by have h1:=hle5.out;have h2:=c20.out;rw [wAg] <;> omega)
  refine sR fL1 Z (oR Z (zJ Z fi13 f19) (eN (zF (cT Z c20 (kN (zF (zR (sR (.fl 0 (.fl 1 (.fx 2 (.fx 3 (.nil) .stop) .stop))) Z (bnK hx10 fun x22 h23 hm24=>?_)))))))))
  have h25:=ha0.le le15
  have q:=h25.el (fun _=>rfl) (wAt h23)
  obtain ⟨b26,off27,hA28,hC29⟩:=q
  refine oR Z (ZB Z f18 hA28 fi13 zl ZG (wCE h23)) (oL Z (hS16.ldCA (f:=0) hC29 Z Z Tryz.isAgg54 ZG (us:=[jV x22.Bib,jV x22.Time,jV x22.Gate]) Z Z) (ZT (cs:=[jV 0,jV 0,jV 0]) Z Z Z Z Z Tryz.zeroValue54 Z hS16 ?_))
  intro W30 b31 hS32
  let B0:List Value:=[jV x22.Bib,jV x22.Time,jV x22.Gate]
  refine OKS.st (j:=0) (vs:=B0) Z Z Z Z hS32 Z Z Z Z ZG (zX Z) Z Z Z ?_
  intro W34 hS35
  have hS36:sW w U U14 [.blk b31 54 B0] W34:=hS35
  refine eN (sR (.fl 0 (.fl 1 (.fx 2 (.fl 3 (.nil)) .stop))) Z (oM Z f17 (oL Z (hS36.ldBA (j:=0) Z Z Z Tryz.isAgg54 ZG (vs:=B0) Z Z) (bnK hm24 fun x37 h38 hm39=>?_))))
  have h46:=ha1.le le15
  refine OKS.callV (a:=x22) Z Z Z Z Z Z (zA Z zV) hS36 h46 Z h38 ?_
  rintro U40 L41 v42 W43 le44 hS45 ⟨rfl,rfl⟩
  have hS47:sW w U U40 [.blk b31 54 B0] W43:=hS45
  refine oR Z (Runs.notT Z Z) (eN (ifc hm39 ?_ ?_))
  ·intro c48 hm49
   refine zh (nC c48.out) (zp (zi (zI (rR fL2 Z (oR Z (ZP (zY Z fi13 Z) (congrArg (jV) hi21.out)) (oM Z Z (zg ?_)))))))
   obtain rfl:=nA hm49
   exact zI ⟨rfl,_,rfl,⟨U40,rfl,f17,f18,f19,(le15.trans le44),(hS47.pick [] _ (by decide) rfl)⟩⟩
  ·intro c48 hm50
   refine zz (nF (c48.out)) (sR fL1 Z (oA Z Z (eN (zW (zj (zM ?_))))))
   have q:=wAW hm50
   obtain ⟨v51,hm52,e53⟩:=q
   obtain rfl:=wBi hm hX4 (hb11 v51 e53)
   refine zM (zj (zM ?_))
   have hE:=nA hm52;first | subst r | cases hE
   exact ⟨rfl,_,(zn rfl),U40,_,(hS47.pick [] _ (by decide) rfl),rfl,rfl⟩
 ·rintro ⟨⟩ σ54 W55 ⟨U58,fi57,f61,f62,f63,le59,hS60⟩ hb56
  have hm64:=wDT hm hX4 hb56
  try dsimp only at hm64
  have c65:Hid (¬ ((↑(((↑p0.length:Int):Int) - 0).toNat:Int) < (↑p0.length:Int))):=zG (wBS)
  refine sR fL1 Z (oR Z (zJ Z fi57 f63) (eN (zF (cF Z c65 (ZC (zZ (zZ (zt (zI (sR fL1 Z (oA Z Z (eN (zW ?_)))))))))))))
  have hE:=nA hm64;first | subst r | cases hE
  exact ⟨Z,_,(zn Z),U58,_,hS60,Z,Z⟩
theorem wDm (p0:wAB) (w:World) (U:PHeap) (hS:St0 w U [])  {r:Bool} (hm:wAm p0=some r):Gv Tryz.prog 85 [.agg #[jV p0.Bib,jV p0.Time,jV p0.Gate]] w (wDD w [] U (fun U_ L_ v=>v=.bool r/\L_=[])):=by
 unfold wAm at hm
 refine Gv.of Tryz.func85 Z Tryz.ntmps85 Tryz.results85 Z (sR (.fx 0 (.fl 1 (.nil)) .stop) Z ?_)
 let B0:List Value:=[jV p0.Bib,jV p0.Time,jV p0.Gate]
 refine OKS.box (cs:=B0) rfl rfl rfl rfl rfl rfl (by rfl) hS ?_
 intro W1 b2 hS3
 refine oA Z Z (eN (sR (.fl 0 (.fl 1 (.fx 2 (wOM (.fx 6 (wPg (.fx 11 (.fl 12 (.fl 13 (.nil))) .stop)) .stop)) .stop))) Z (oR Z (zk Z Z ZL Z zB) (oL Z (hS3.ldB (j:=0) Z Z Z zE (v:=jV p0.Bib) Z) (bnK hm fun x5 h6 hm7=>zN 0 Z Z Z Z (zO Z Z Tryz.call86 (zA Z (zA Z (zA Z zV))) Z) hS3 (fun hs=>wBv p0.Bib 1 999 W1 U hs h6) (.inr Z) ?_)))))
 rintro U8 L9 v10 W11 le12 hS13 ⟨rfl,rfl⟩
 have hS14:sW w U U8 [.blk b2 54 B0] W11:=hS13
 refine oM Z Z (ifc hm7 ?_ ?_)
 ·intro c15 hm16
  refine zS Z Z Z (zH Z Z (congrArg nB c15.out)) (fun _=>zk Z Z ZL Z zB) (ZA Z Z Z (zH Z Z (congrArg nB c15.out)) (hS14.ldB (j:=0) Z Z Z zE (v:=jV p0.Time) Z) Z (bnK hm16 fun x17 h18 hm19=>zN 0 Z Z Z (zH Z Z (congrArg nB c15.out)) (zO Z Z Tryz.call86 (zA Z (zA Z (zA Z zV))) Z) hS14 (fun hs=>wBv p0.Time 0 360000 W11 U8 hs h18) (.inr Z) ?_))
  rintro U20 L21 v22 W23 le24 hS25 ⟨rfl,rfl⟩
  have hS26:sW w U U20 [.blk b2 54 B0] W23:=hS25
  refine oR Z (zK Z (congrArg nB c15.out) Z) (oM Z Z (ifc hm19 ?_ ?_))
  ·intro c27 hm28
   refine zS Z Z Z (zH Z Z (congrArg nB c27.out)) (fun _=>zk Z Z ZL Z zB) (ZA Z Z Z (zH Z Z (congrArg nB c27.out)) (hS26.ldB (j:=0) Z Z Z zE (v:=jV p0.Gate) Z) Z (bnK hm28 fun x29 h30 hm31=>zN 0 Z Z Z (zH Z Z (congrArg nB c27.out)) (zO Z Z Tryz.call86 (zA Z (zA Z (zA Z zV))) Z) hS26 (fun hs=>wBv p0.Gate 0 60 W23 U20 hs h30) (.inr Z) ?_))
   rintro U32 L33 v34 W35 le36 hS37 ⟨rfl,rfl⟩
   have hS38:sW w U U32 [.blk b2 54 B0] W35:=hS37
   refine oR Z (zK Z (congrArg nB c27.out) Z) (oA Z Z (eN (zW ?_)))
   have hE:=nA hm31;first | subst r | cases hE
   exact ⟨rfl,_,(zn rfl),U32,_,(hS38.pick [] _ (by decide) rfl),rfl,rfl⟩
  ·intro c27 hm39
   refine zU Z Z Z (zu Z Z (congrArg nB (nD.2 c27.out)) Z) (zU Z Z Z (zu Z Z (congrArg nB (nD.2 c27.out)) Z) (OKS.px Z Z Z (zu Z Z (congrArg nB (nD.2 c27.out)) Z) (oR Z (zP Z (congrArg nB (nD.2 c27.out)) Z) (oA Z Z (eN (zW ?_))))))
   have hE:=nA hm39;first | subst r | cases hE
   exact ⟨rfl,_,(zn rfl),U20,_,(hS26.pick [] _ (by decide) rfl),rfl,rfl⟩
 ·intro c15 hm40
  refine zU Z Z Z (zu Z Z (congrArg nB (nD.2 c15.out)) Z) (zU Z Z Z (zu Z Z (congrArg nB (nD.2 c15.out)) Z) (OKS.px Z Z Z (zu Z Z (congrArg nB (nD.2 c15.out)) Z) (oR Z (zP Z (congrArg nB (nD.2 c15.out)) Z) (oM Z Z (oN Z (oN Z (OKS.px Z Z Z (zu Z Z Z Z) (oR Z (zP Z Z Z) (oA Z Z (eN (zW ?_)))))))))))
  have hE:=nA hm40;first | subst r | cases hE
  exact ⟨rfl,_,(zn rfl),U8,_,(hS14.pick [] _ (by decide) rfl),rfl,rfl⟩
theorem wFo (p0:Int) (p1:Int) (w:World) (U:PHeap) (hS:St0 w U [])  {r:Bool} (hm:wBU p0 p1=some r):Gv Tryz.prog 129 [jV p0,jV p1] w (wDD w [] U (fun U_ L_ v=>v=.bool r/\L_=[])):=by
 unfold wBU at hm
 refine Gv.of Tryz.func129 Z Tryz.ntmps129 Tryz.results129 Z (sR fL1 Z (oA Z Z (eN (sR (.fl 0 (.fx 1 (.fl 2 (.fl 3 (.fx 4 (wPf (.nil)) .stop))) .stop)) Z (oM Z Z (bnK hm fun x1 h2 hm3=>zN 0 Z Z Z Z (zO Z Z Tryz.call128 (zA Z zV) Z) hS (fun hs=>wBm p0 w U hs h2) (.inr Z) ?_))))))
 rintro U4 L5 v6 W7 le8 hS9 ⟨rfl,rfl⟩
 have hS10:sW w U U4 [] W7:=hS9
 refine oM Z Z (ifc hm3 ?_ ?_)
 ·intro c11 hm12
  refine zD Z Z Z (zH Z Z (congrArg nB c11.out)) Z Z (bnK hm12 fun x13 h14 hm15=>zN 0 Z Z Z (zH Z Z (congrArg nB c11.out)) (zO Z Z Tryz.call128 (zA Z zV) Z) hS10 (fun hs=>wBm p1 W7 U4 hs h14) (.inr Z) ?_)
  rintro U16 L17 v18 W19 le20 hS21 ⟨rfl,rfl⟩
  have hS22:sW w U U16 [] W19:=hS21
  refine zS Z Z Z (zH Z Z (congrArg nB c11.out)) (fun _=>Runs.notT Z Z) (oR Z (zK Z (congrArg nB c11.out) Z) (oM Z Z (ifc hm15 ?_ ?_)))
  ·intro c23 hm24
   refine zD Z Z Z (zH Z Z (nC c23.out)) Z Z (zD Z Z Z (zH Z Z (nC c23.out)) Z Z (zS Z Z Z (zH Z Z (nC c23.out)) (fun _=>zJ Z Z Z) (oR Z (zP Z (nC c23.out) Z) (oA Z Z (eN (zW ?_))))))
   cases hm24
   exact ⟨Z,_,(zn Z),U16,_,hS22,Z,Z⟩
  ·intro c23 hm25
   refine zU Z Z Z (zu Z Z (nF (c23.out)) Z) (zU Z Z Z (zu Z Z (nF (c23.out)) Z) (zU Z Z Z (zu Z Z (nF (c23.out)) Z) (oR Z (zK Z (nF (c23.out)) Z) (oA Z Z (eN (zW ?_))))))
   have hE:=nA hm25;first | subst r | cases hE
   exact ⟨Z,_,(zn Z),U16,_,hS22,Z,Z⟩
 ·intro c11 hm26
  refine zU Z Z Z (zu Z Z (congrArg nB (nD.2 c11.out)) Z) (OKS.px Z Z Z (zu Z Z (congrArg nB (nD.2 c11.out)) Z) (zU Z Z Z (zu Z Z (congrArg nB (nD.2 c11.out)) Z) (oR Z (zP Z (congrArg nB (nD.2 c11.out)) Z) (oM Z Z (zD Z Z Z (zH Z Z Z) Z Z (zD Z Z Z (zH Z Z Z) Z Z (zS Z Z Z (zH Z Z Z) (fun _=>zJ Z Z Z) (oR Z (zP Z Z Z) (oA Z Z (eN (zW ?_)))))))))))
  cases hm26
  exact ⟨Z,_,(zn Z),U4,_,hS10,Z,Z⟩
theorem wCe (p0:List Int) (pA0:Option Addr) (pc0:Nat) (w:World) (U:PHeap) (hS:St0 w U []) (ha0:Sl U 1 pA0 pc0 p0.length (hH KL.encI p0)) {r:Bool} (hm:wAk p0=some r):Gv Tryz.prog 88 [.slice pA0 p0.length pc0] w (wDD w [] U (fun U_ L_ v=>v=.bool r/\L_=[])):=by
 unfold wAk at hm
 refine Gv.of Tryz.func88 Z Tryz.ntmps88 Tryz.results88 Z (sR fL1 Z (oA Z Z (eN (zF (sR fL4 Z (oM Z Z (oR Z (zw Z Z zC) (oR Z (zm Z Z Z) (oA Z Z (eN (zR (ZV (fun x4 σ_ w_=>∃ (U_:PHeap),σ_ 0=.slice pA0 p0.length pc0/\σ_ 3=jV x4/\PHeap.Le U U_/\sW w U U_ [] w_) hm ?_ ?_))))))))))))
 ·exact ⟨U,Z,Z,(zL _),hS⟩
 ·rintro x4 xx7 σ5 W6 ⟨U12,f15,f16,le13,hS14⟩ hx8 hb9
  refine zF (sR fL2 Z (oM Z f16 (oR Z (ZQ Z Z Z) (eN ?_))))
  by_cases c17:0 < x4
  ·have hm18:=hx8;rw [if_pos c17] at hm18;replace c17:=zG c17
   refine cT Z c17 (kN (zF (zR (zF (ZJ ZH [3,3,3,1,3,3,3,3,1,2] (wLl (.fx 9 (.nil) .stop)) (by kernel_rfl) ?_)))))
   have hS19:=hS14.drew
   generalize hw_W20:({ W6 with drawn:=W6.drawn + 1 }:World)=W20 at hS19 ⊢
   refine oM Z f15 (oM Z f16 (bnK hm18 fun x21 h22 hm23=>?_))
   have h24:=ha0.le le13
   have q:=h24.el (fun _=>rfl) (wAt h22)
   obtain ⟨b25,off26,hA27,hC28⟩:=q
   refine oR Z (zo Z Z hA27 Z zC zB (wCx h22) (wDF h22)) (oL Z (hS19.ldC (f:=0) hC28 (v:=jV x21) Z Z zE Z) (oM Z f15 (oM Z f16 (oR Z (zm Z Z Z) (bnK hm23 fun x29 h30 hm31=>?_)))))
   have q:=h24.el (fun _=>rfl) (wAt h30)
   obtain ⟨b32,off33,hA34,hC35⟩:=q
   refine oR Z (zo Z Z hA34 Z zC zB (wCx h30) (wDF h30)) (oL Z (hS19.ldC (f:=0) hC35 (v:=jV x29) Z Z zE Z) (bnK hm31 fun x36 h37 hm38=>zN 0 Z Z Z Z (zO Z Z Tryz.call129 (zA Z (zA Z zV)) Z) hS19 (fun hs=>wFo x21 x29 W20 U12 hs h37) (.inr Z) ?_))
   rintro U39 L40 v41 W42 le43 hS44 ⟨rfl,rfl⟩
   have hS45:sW w U U39 [] W42:=hS44
   refine eN (ifc hm38 ?_ ?_)
   ·intro c46 hm47
    refine zz (congrArg nB c46.out) (sR fL1 Z (oA Z Z (eN (zW (zj (zM ?_))))))
    have q:=wAW hm47
    obtain ⟨v48,hm49,e50⟩:=q
    obtain rfl:=hb9 v48 e50
    refine zM (zj (zM ?_))
    have hE:=nA hm49;first | subst r | cases hE
    exact ⟨Z,_,(zn Z),U39,_,hS45,Z,Z⟩
   ·intro c46 hm51
    refine zh (congrArg nB (nD.2 c46.out)) (zp (zi (zI (rR fL3 Z (oM Z f16 (oR Z (zm Z Z Z) (oA Z Z (zg ?_))))))))
    obtain rfl:=nA hm51
    exact zI ⟨Z,_,Z,⟨U39,f15,Z,(le13.trans le43),hS45⟩⟩
  ·have hm53:=hx8;rw [if_neg c17] at hm53;replace c17:=zG c17
   refine cF Z c17 (ZC (zZ ?_))
   have q:=wAW hm53
   obtain ⟨v54,hm55,e56⟩:=q
   obtain rfl:=hb9 v54 e56
   refine zZ (zt (zI (sR fL1 Z (oA Z Z (eN (zW ?_))))))
   have hE:=nA hm55;first | subst r | cases hE
   exact ⟨Z,_,(zn Z),U12,_,hS14,Z,Z⟩
theorem wES (p0:List wAB) (pA0:Option Addr) (pc0:Nat) (w:World) (U:PHeap) (hS:St0 w U []) (ha0:Sl U 3 pA0 pc0 p0.length (hH wAM p0)) {r:Int} (hm:wAx p0=some r):Gv Tryz.prog 23 [.slice pA0 p0.length pc0] w (wDD w [] U (fun U_ L_ v=>v=jV r/\L_=[])):=by
 unfold wAx at hm
 refine Gv.of Tryz.func23 Z Tryz.ntmps23 Tryz.results23 Z (sR fL1 Z (oA Z Z (eN (sR fL2 Z (oA Z Z (oA Z Z (eN (zF (sR fL3 Z (oM Z Z (oR Z (zw Z Z zl) (oM Z Z (eN (zR ?_))))))))))))))
 have q:=bnd hm
 obtain ⟨⟨y38,y39⟩,hf35,hm34⟩:=q
 try dsimp only at hm34
 have q:=wCB hf35
 obtain ⟨hle36,hf37⟩:=q
 replace hle36:=zG hle36
 refine CK.forN' (fun k33 (l25,l29) σ_ w_=>∃ (U_:PHeap) (A26:Option Addr) (c27:Nat) (A30:Option Addr) (c31:Nat),σ_ 9=jV (↑k33:Int)/\σ_ 0=.slice pA0 p0.length pc0/\σ_ 3=.slice A26 l25.length c27/\σ_ 4=.slice A30 l29.length c31/\σ_ 7=.slice pA0 p0.length pc0/\σ_ 8=jV (↑p0.length:Int)/\PHeap.Le U U_/\sW w U U_ [.row A26 c27 3 1 (hH KL.encI l25),.row A30 c31 3 1 (hH KL.encI l29)] w_) hf37 ?_ ?_ ?_
 ·have hS40:=hS.nilrow 3 1
  have hS42:=hS40.nilrow 3 1
  exact ⟨U,none,0,none,0,rfl,rfl,rfl,rfl,rfl,rfl,(zL _),(hS42.pick [1,0] _ (by decide) rfl)⟩
 ·rintro k33 ⟨l25,l29⟩ xx46 σ44 W45 hk49 ⟨U51,A26,c27,A30,c31,fi50,f54,f55,f56,f57,f58,le52,hS53⟩ hx47
  try dsimp only at hx47
  have c59:Hid ((↑k33:Int) < (↑p0.length:Int)):=zG (wBk hk49)
  replace hk49:=zG hk49
  have hi60:Hid (w64 ((↑k33:Int) + 1)=(↑(k33 + 1):Int)):=zG (by have h1:=hle36.out;have h2:=c59.out;rw [wAg] <;> omega)
  refine sR fL1 Z (oR Z (zJ Z fi50 f58) (eN (zF (cT Z c59 (kN ?_)))))
  have q:=bnd hx47
  obtain ⟨⟨l61,l64⟩,hx68,hm69⟩:=q
  try dsimp only at hm69
  refine CK.cut (fun σ_ w_=>∃ (U_:PHeap) (A62:Option Addr) (c63:Nat) (A65:Option Addr) (c66:Nat),σ_ 0=.slice pA0 p0.length pc0/\σ_ 3=.slice A62 l61.length c63/\σ_ 4=.slice A65 l64.length c66/\σ_ 7=.slice pA0 p0.length pc0/\σ_ 8=jV (↑p0.length:Int)/\σ_ 9=jV (↑k33:Int)/\PHeap.Le U51 U_/\sW w U U_ [.row A62 c63 3 1 (hH KL.encI l61),.row A65 c66 3 1 (hH KL.encI l64)] w_) ?_ ?_
  ·refine zR (sR (.fl 0 (.fl 1 (.fx 2 (.fx 3 (.nil) .stop) .stop))) Z (bnK hx68 fun x70 h71 hm72=>?_))
   have h73:=ha0.le le52
   have q:=h73.el (fun _=>rfl) (wAt h71)
   obtain ⟨b74,off75,hA76,hC77⟩:=q
   refine oR Z (ZB Z f57 hA76 fi50 zl ZG (wCE h71)) (oL Z (hS53.ldCA (f:=0) hC77 Z Z Tryz.isAgg54 ZG (us:=[jV x70.Bib,jV x70.Time,jV x70.Gate]) Z Z) (ZT (cs:=[jV 0,jV 0,jV 0]) Z Z Z Z Z Tryz.zeroValue54 Z hS53 ?_))
   intro W78 b79 hS80
   let B0:List Value:=[jV x70.Bib,jV x70.Time,jV x70.Gate]
   refine OKS.st (j:=0) (vs:=B0) Z Z Z Z hS80 Z Z Z Z ZG (zX Z) Z Z Z ?_
   intro W82 hS83
   let B1:Res:=.row A30 c31 3 1 (hH KL.encI l29)
   let B2:Res:=.row A26 c27 3 1 (hH KL.encI l25)
   have hS84:sW w U U51 [.blk b79 54 B0,B2,B1] W82:=hS83
   refine eN (bnK hm72 fun x90 h91 hm111=>bnK hm111 fun x103 h104 hm112=>ZJ ZH [3,3,1,2,0,3,3,2,2,0,3,3] (wLk (.fl 5 (.fl 6 (.fx 3 (.fx 4 (.fx 7 (.fx 8 (.fx 9 (.fl 10 (.fl 11 (.nil))) (.stop)) (.stop)) (.stop)) (.fx 7 (.fx 4 (.fx 8 (.fx 9 (.fl 10 (.fl 11 (.nil))) (.stop)) (.stop)) (.fx 8 (.fx 4 (.fx 9 (.fl 10 (.fl 11 (.nil))) (.stop)) (.stop)) (.stop))) (.stop))) (.fx 7 (.fx 3 (.fx 4 (.fx 8 (.fx 9 (.fl 10 (.fl 11 (.nil))) (.stop)) (.stop)) (.fx 8 (.fx 4 (.fx 9 (.fl 10 (.fl 11 (.nil))) (.stop)) (.stop)) (.stop))) (.fx 8 (.fx 3 (.fx 4 (.fx 9 (.fl 10 (.fl 11 (.nil))) (.stop)) (.stop)) (.stop)) (.stop))) (.stop)))))) (by kernel_rfl) ?_)
   have hS113:=hS84.drew
   generalize hw_W114:({ W82 with drawn:=W82.drawn + 1 }:World)=W114 at hS113 ⊢
   refine oM Z f55 (oR Z (zk Z Z ZL Z zB) (oL Z (hS113.ldB (j:=0) Z Z Z zE (v:=jV x70.Bib) Z) (oM Z f56 (oR Z (zk Z Z ZL Z zB) (OKS.both ?_ ?_)))))
   ·refine ZE (pv:=[(0,jV x70.Bib)]) (zs:=[jV 0]) (cs:=[jV x70.Bib]) Z Z Z Z Z (wAi Z wBO) zC zB ZI Z Z Z Z Z hS113 ?_
    intro W115 b116 hS117
    let B3:Res:=.row (some ⟨b116,0,none⟩) 1 3 1 (hH KL.encI [x70.Bib])
    have hS119:sW w U U51 [B3,.blk b79 54 B0,B2,B1] W115:=hS117
    refine OKS.both ?_ ?_
    ·refine ZK (j:=2) (enc:=KL.encI) (xs:=l25) (ys:=[x70.Bib]) (zs:=x90) rfl rfl rfl rfl rfl zx wDl rfl rfl rfl rfl rfl rfl hS119 rfl rfl rfl (hS119.srcR (j:=0) rfl (by decide) (wAF (f:=KL.encI) (sz:=1) (fun _=>rfl) [x70.Bib])) (fun _=>rfl) (fun _=>rfl) h91 rfl ?_
     intro A120 c121 W122 hS123
     let B4:Res:=.row A120 c121 3 1 (hH KL.encI x90)
     have hS124:sW w U U51 [B3,.blk b79 54 B0,B4,B1] W122:=hS123
     refine OKS.mx2 Z Z Z Z (hS124.ldB (j:=1) Z Z Z zE (v:=jV x70.Time) Z) (ZE (pv:=[(0,jV x70.Time)]) (zs:=[jV 0]) (cs:=[jV x70.Time]) Z Z Z Z Z (wAi Z wBO) zC zB ZI Z Z Z Z Z hS124 ?_)
     intro W125 b126 hS127
     let B5:Res:=.row (some ⟨b126,0,none⟩) 1 3 1 (hH KL.encI [x70.Time])
     have hS129:sW w U U51 [B5,B3,.blk b79 54 B0,B4,B1] W125:=hS127
     refine ZK (j:=4) (enc:=KL.encI) (xs:=l29) (ys:=[x70.Time]) (zs:=x103) rfl rfl rfl rfl rfl zx wDl rfl rfl rfl rfl rfl rfl hS129 rfl rfl rfl (hS129.srcR (j:=0) rfl (by decide) (wAF (f:=KL.encI) (sz:=1) (fun _=>rfl) [x70.Time])) (fun _=>rfl) (fun _=>rfl) h104 rfl ?_
     intro A130 c131 W132 hS133
     have hS134:sW w U U51 [B5,B3,.blk b79 54 B0,B4,.row A130 c131 3 1 (hH KL.encI x103)] W132:=hS133
     refine oA Z Z (oA Z Z (zg (zi ?_)))
     cases hm112
     exact zI ⟨rfl,⟨U51,A120,c121,A130,c131,f54,rfl,rfl,f57,f58,fi50,(zL _),(hS134.pick [3,4] _ (by decide) rfl)⟩⟩
    ·refine OKS.mx2 Z Z Z Z (hS119.ldB (j:=1) Z Z Z zE (v:=jV x70.Time) Z) (OKS.both ?_ ?_)
     ·refine ZK (j:=2) (enc:=KL.encI) (xs:=l25) (ys:=[x70.Bib]) (zs:=x90) rfl rfl rfl rfl rfl zx wDl rfl rfl rfl rfl rfl rfl hS119 rfl rfl rfl (hS119.srcR (j:=0) rfl (by decide) (wAF (f:=KL.encI) (sz:=1) (fun _=>rfl) [x70.Bib])) (fun _=>rfl) (fun _=>rfl) h91 rfl ?_
      intro A141 c142 W143 hS144
      let B6:Res:=.row A141 c142 3 1 (hH KL.encI x90)
      have hS145:sW w U U51 [B3,.blk b79 54 B0,B6,B1] W143:=hS144
      refine ZE (pv:=[(0,jV x70.Time)]) (zs:=[jV 0]) (cs:=[jV x70.Time]) Z Z Z Z Z (wAi Z wBO) zC zB ZI Z Z Z Z Z hS145 ?_
      intro W146 b147 hS148
      let B7:Res:=.row (some ⟨b147,0,none⟩) 1 3 1 (hH KL.encI [x70.Time])
      have hS150:sW w U U51 [B7,B3,.blk b79 54 B0,B6,B1] W146:=hS148
      refine ZK (j:=4) (enc:=KL.encI) (xs:=l29) (ys:=[x70.Time]) (zs:=x103) rfl rfl rfl rfl rfl zx wDl rfl rfl rfl rfl rfl rfl hS150 rfl rfl rfl (hS150.srcR (j:=0) rfl (by decide) (wAF (f:=KL.encI) (sz:=1) (fun _=>rfl) [x70.Time])) (fun _=>rfl) (fun _=>rfl) h104 rfl ?_
      intro A151 c152 W153 hS154
      have hS155:sW w U U51 [B7,B3,.blk b79 54 B0,B6,.row A151 c152 3 1 (hH KL.encI x103)] W153:=hS154
      refine oA Z Z (oA Z Z (zg (zi ?_)))
      cases hm112
      exact zI ⟨rfl,⟨U51,A141,c142,A151,c152,f54,rfl,rfl,f57,f58,fi50,(zL _),(hS155.pick [3,4] _ (by decide) rfl)⟩⟩
     ·refine ZE (pv:=[(0,jV x70.Time)]) (zs:=[jV 0]) (cs:=[jV x70.Time]) Z Z Z Z Z (wAi Z wBO) zC zB ZI Z Z Z Z Z hS119 ?_
      intro W162 b163 hS164
      let B8:Res:=.row (some ⟨b163,0,none⟩) 1 3 1 (hH KL.encI [x70.Time])
      have hS166:sW w U U51 [B8,B3,.blk b79 54 B0,B2,B1] W162:=hS164
      refine ZK (j:=3) (enc:=KL.encI) (xs:=l25) (ys:=[x70.Bib]) (zs:=x90) rfl rfl rfl rfl rfl zx wDl rfl rfl rfl rfl rfl rfl hS166 rfl rfl rfl (hS166.srcR (j:=1) rfl (by decide) (wAF (f:=KL.encI) (sz:=1) (fun _=>rfl) [x70.Bib])) (fun _=>rfl) (fun _=>rfl) h91 rfl ?_
      intro A167 c168 W169 hS170
      let B9:Res:=.row A167 c168 3 1 (hH KL.encI x90)
      have hS171:sW w U U51 [B8,B3,.blk b79 54 B0,B9,B1] W169:=hS170
      refine ZK (j:=4) (enc:=KL.encI) (xs:=l29) (ys:=[x70.Time]) (zs:=x103) rfl rfl rfl rfl rfl zx wDl rfl rfl rfl rfl rfl rfl hS171 rfl rfl rfl (hS171.srcR (j:=0) rfl (by decide) (wAF (f:=KL.encI) (sz:=1) (fun _=>rfl) [x70.Time])) (fun _=>rfl) (fun _=>rfl) h104 rfl ?_
      intro A172 c173 W174 hS175
      have hS176:sW w U U51 [B8,B3,.blk b79 54 B0,B9,.row A172 c173 3 1 (hH KL.encI x103)] W174:=hS175
      refine oA Z Z (oA Z Z (zg (zi ?_)))
      cases hm112
      exact zI ⟨rfl,⟨U51,A167,c168,A172,c173,f54,rfl,rfl,f57,f58,fi50,(zL _),(hS176.pick [3,4] _ (by decide) rfl)⟩⟩
   ·refine OKS.mx2 Z Z Z Z (hS113.ldB (j:=0) Z Z Z zE (v:=jV x70.Time) Z) (OKS.both ?_ ?_)
    ·refine ZE (pv:=[(0,jV x70.Bib)]) (zs:=[jV 0]) (cs:=[jV x70.Bib]) Z Z Z Z Z (wAi Z wBO) zC zB ZI Z Z Z Z Z hS113 ?_
     intro W183 b184 hS185
     let B10:Res:=.row (some ⟨b184,0,none⟩) 1 3 1 (hH KL.encI [x70.Bib])
     have hS187:sW w U U51 [B10,.blk b79 54 B0,B2,B1] W183:=hS185
     refine OKS.both ?_ ?_
     ·refine ZK (j:=2) (enc:=KL.encI) (xs:=l25) (ys:=[x70.Bib]) (zs:=x90) rfl rfl rfl rfl rfl zx wDl rfl rfl rfl rfl rfl rfl hS187 rfl rfl rfl (hS187.srcR (j:=0) rfl (by decide) (wAF (f:=KL.encI) (sz:=1) (fun _=>rfl) [x70.Bib])) (fun _=>rfl) (fun _=>rfl) h91 rfl ?_
      intro A188 c189 W190 hS191
      let B11:Res:=.row A188 c189 3 1 (hH KL.encI x90)
      have hS192:sW w U U51 [B10,.blk b79 54 B0,B11,B1] W190:=hS191
      refine ZE (pv:=[(0,jV x70.Time)]) (zs:=[jV 0]) (cs:=[jV x70.Time]) Z Z Z Z Z (wAi Z wBO) zC zB ZI Z Z Z Z Z hS192 ?_
      intro W193 b194 hS195
      let B12:Res:=.row (some ⟨b194,0,none⟩) 1 3 1 (hH KL.encI [x70.Time])
      have hS197:sW w U U51 [B12,B10,.blk b79 54 B0,B11,B1] W193:=hS195
      refine ZK (j:=4) (enc:=KL.encI) (xs:=l29) (ys:=[x70.Time]) (zs:=x103) rfl rfl rfl rfl rfl zx wDl rfl rfl rfl rfl rfl rfl hS197 rfl rfl rfl (hS197.srcR (j:=0) rfl (by decide) (wAF (f:=KL.encI) (sz:=1) (fun _=>rfl) [x70.Time])) (fun _=>rfl) (fun _=>rfl) h104 rfl ?_
      intro A198 c199 W200 hS201
      have hS202:sW w U U51 [B12,B10,.blk b79 54 B0,B11,.row A198 c199 3 1 (hH KL.encI x103)] W200:=hS201
      refine oA Z Z (oA Z Z (zg (zi ?_)))
      cases hm112
      exact zI ⟨rfl,⟨U51,A188,c189,A198,c199,f54,rfl,rfl,f57,f58,fi50,(zL _),(hS202.pick [3,4] _ (by decide) rfl)⟩⟩
     ·refine ZE (pv:=[(0,jV x70.Time)]) (zs:=[jV 0]) (cs:=[jV x70.Time]) Z Z Z Z Z (wAi Z wBO) zC zB ZI Z Z Z Z Z hS187 ?_
      intro W209 b210 hS211
      let B13:Res:=.row (some ⟨b210,0,none⟩) 1 3 1 (hH KL.encI [x70.Time])
      have hS213:sW w U U51 [B13,B10,.blk b79 54 B0,B2,B1] W209:=hS211
      refine ZK (j:=3) (enc:=KL.encI) (xs:=l25) (ys:=[x70.Bib]) (zs:=x90) rfl rfl rfl rfl rfl zx wDl rfl rfl rfl rfl rfl rfl hS213 rfl rfl rfl (hS213.srcR (j:=1) rfl (by decide) (wAF (f:=KL.encI) (sz:=1) (fun _=>rfl) [x70.Bib])) (fun _=>rfl) (fun _=>rfl) h91 rfl ?_
      intro A214 c215 W216 hS217
      let B14:Res:=.row A214 c215 3 1 (hH KL.encI x90)
      have hS218:sW w U U51 [B13,B10,.blk b79 54 B0,B14,B1] W216:=hS217
      refine ZK (j:=4) (enc:=KL.encI) (xs:=l29) (ys:=[x70.Time]) (zs:=x103) rfl rfl rfl rfl rfl zx wDl rfl rfl rfl rfl rfl rfl hS218 rfl rfl rfl (hS218.srcR (j:=0) rfl (by decide) (wAF (f:=KL.encI) (sz:=1) (fun _=>rfl) [x70.Time])) (fun _=>rfl) (fun _=>rfl) h104 rfl ?_
      intro A219 c220 W221 hS222
      have hS223:sW w U U51 [B13,B10,.blk b79 54 B0,B14,.row A219 c220 3 1 (hH KL.encI x103)] W221:=hS222
      refine oA Z Z (oA Z Z (zg (zi ?_)))
      cases hm112
      exact zI ⟨rfl,⟨U51,A214,c215,A219,c220,f54,rfl,rfl,f57,f58,fi50,(zL _),(hS223.pick [3,4] _ (by decide) rfl)⟩⟩
    ·refine ZE (pv:=[(0,jV x70.Time)]) (zs:=[jV 0]) (cs:=[jV x70.Time]) Z Z Z Z Z (wAi Z wBO) zC zB ZI Z Z Z Z Z hS113 ?_
     intro W230 b231 hS232
     let B15:Res:=.row (some ⟨b231,0,none⟩) 1 3 1 (hH KL.encI [x70.Time])
     have hS234:sW w U U51 [B15,.blk b79 54 B0,B2,B1] W230:=hS232
     refine ZE (pv:=[(0,jV x70.Bib)]) (zs:=[jV 0]) (cs:=[jV x70.Bib]) Z Z Z Z Z (wAi Z wBO) zC zB ZI Z Z Z Z Z hS234 ?_
     intro W235 b236 hS237
     let B16:Res:=.row (some ⟨b236,0,none⟩) 1 3 1 (hH KL.encI [x70.Bib])
     have hS239:sW w U U51 [B16,B15,.blk b79 54 B0,B2,B1] W235:=hS237
     refine ZK (j:=3) (enc:=KL.encI) (xs:=l25) (ys:=[x70.Bib]) (zs:=x90) rfl rfl rfl rfl rfl zx wDl rfl rfl rfl rfl rfl rfl hS239 rfl rfl rfl (hS239.srcR (j:=0) rfl (by decide) (wAF (f:=KL.encI) (sz:=1) (fun _=>rfl) [x70.Bib])) (fun _=>rfl) (fun _=>rfl) h91 rfl ?_
     intro A240 c241 W242 hS243
     let B17:Res:=.row A240 c241 3 1 (hH KL.encI x90)
     have hS244:sW w U U51 [B16,B15,.blk b79 54 B0,B17,B1] W242:=hS243
     refine ZK (j:=4) (enc:=KL.encI) (xs:=l29) (ys:=[x70.Time]) (zs:=x103) rfl rfl rfl rfl rfl zx wDl rfl rfl rfl rfl rfl rfl hS244 rfl rfl rfl (hS244.srcR (j:=1) rfl (by decide) (wAF (f:=KL.encI) (sz:=1) (fun _=>rfl) [x70.Time])) (fun _=>rfl) (fun _=>rfl) h104 rfl ?_
     intro A245 c246 W247 hS248
     have hS249:sW w U U51 [B16,B15,.blk b79 54 B0,B17,.row A245 c246 3 1 (hH KL.encI x103)] W247:=hS248
     refine oA Z Z (oA Z Z (zg (zi ?_)))
     cases hm112
     exact zI ⟨rfl,⟨U51,A240,c241,A245,c246,f54,rfl,rfl,f57,f58,fi50,(zL _),(hS249.pick [3,4] _ (by decide) rfl)⟩⟩
  ·rintro σ256 W257 ⟨U258,A62,c63,A65,c66,f261,f262,f263,f264,f265,f266,le259,hS260⟩
   refine rR fL2 Z (oR Z (ZP (zY Z f266 Z) (congrArg (jV) hi60.out)) (oM Z Z (zg ?_)))
   cases hm69
   exact zI ⟨Z,⟨U258,A62,c63,A65,c66,Z,f261,f262,f263,f264,f265,(le52.trans le259),hS260⟩⟩
 ·rintro σ273 W274 ⟨U287,A283,c284,A285,c286,fi276,f290,f291,f292,f293,f294,le288,hS289⟩
  have c295:Hid (¬ ((↑(((↑p0.length:Int):Int) - 0).toNat:Int) < (↑p0.length:Int))):=zG (wBS)
  refine sR fL1 Z (oR Z (zJ Z fi276 f294) (eN (zF (cF Z c295 (ZC (zZ (zZ (zt (zI (zF (zR (sR fL4 Z (oM Z f290 (oR Z (zw Z Z zl) (oR Z (ZQ Z Z Z) (oA Z Z (eN (ifc hm34 ?_ ?_))))))))))))))))))
  ·intro c296 hm297
   refine cT Z c296 (sR fL1 Z (oA Z Z (eN (zW (zj (zM ?_))))))
   cases hm297
   exact ⟨rfl,_,(zn rfl),U287,_,(hS289.pick [] _ (by decide) rfl),rfl,rfl⟩
  ·intro c296 hm298
   refine cF Z c296 (sR (.fl 0 (.fx 1 (.fl 2 (.fl 3 (.nil))) .stop)) Z (oM Z f290 ?_))
   have h299:=ha0.le le288
   have hF300:FnOK Tryz.prog U287 (.func (.func 85) #[] #[]) wPQ wPR wAm:=⟨85,[],[],rfl,Tryz.call85,fun U1 w1 x y vs le hs ha hm=>by obtain rfl:=ha;exact wDm x w1 U1 hs  hm⟩
   refine bnK hm298 fun x301 h302 hm303=>zN 0 Z Z Z Z (zO Z Z Tryz.call84 (zA Z (zA Z zV)) Z) hS289 (fun hs=>wCu p0 pA0 pc0 wAm (.func (.func 85) #[] #[]) W274 U287 hs h299 hF300 h302) (.inr Z) ?_
   rintro U304 L305 v306 W307 le308 hS309 ⟨rfl,rfl⟩
   let B18:Res:=.row A285 c286 3 1 (hH KL.encI y39)
   have hS310:sW w U U304 [.row A283 c284 3 1 (hH KL.encI y38),B18] W307:=hS309
   refine oR Z (Runs.notT Z Z) (oA Z Z (eN (ifc hm303 ?_ ?_)))
   ·intro c311 hm312
    refine zh (nC c311.out) (sR (.fl 0 (.fx 1 (.fl 2 (.nil)) .stop)) Z (oM Z f291 ?_))
    have q:=hS310.freezeR (k:=0) (n:=y38.length) rfl (wAF (f:=KL.encI) (sz:=1) (fun _=>rfl) y38) (by decide)
    obtain ⟨U313,le314,hs315,hS316⟩:=q
    have hS317:sW w U U313 [B18] W307:=hS316
    refine bnK hm312 fun x318 h319 hm320=>zN 0 Z Z Z Z (zO Z Z Tryz.call87 (zA Z zV) Z) hS317 (fun hs=>wEF y38 A283 c284 W307 U313 hs hs315 h319) (.inr Z) ?_
    rintro U321 L322 v323 W324 le325 hS326 ⟨rfl,rfl⟩
    have hS327:sW w U U321 [B18] W324:=hS326
    refine oA Z Z (eN (ifc hm320 ?_ ?_))
    ·intro c328 hm329
     refine zz (congrArg nB c328.out) (sR fL1 Z (oA Z Z (eN (zW (zj (zM ?_))))))
     cases hm329
     exact ⟨rfl,_,(zn rfl),U321,_,(hS327.pick [] _ (by decide) rfl),rfl,rfl⟩
    ·intro c328 hm330
     refine zh (congrArg nB (nD.2 c328.out)) (sR (.fl 0 (.fx 1 (.fl 2 (.fl 3 (.nil))) .stop)) Z (oM Z f292 ?_))
     have q:=hS327.freezeR (k:=0) (n:=y39.length) rfl (wAF (f:=KL.encI) (sz:=1) (fun _=>rfl) y39) (by decide)
     obtain ⟨U331,le332,hs333,hS334⟩:=q
     have hS335:sW w U U331 [] W324:=hS334
     refine bnK hm330 fun x336 h337 hm338=>zN 0 Z Z Z Z (zO Z Z Tryz.call88 (zA Z zV) Z) hS335 (fun hs=>wCe y39 A285 c286 W324 U331 hs hs333 h337) (.inr Z) ?_
     rintro U339 L340 v341 W342 le343 hS344 ⟨rfl,rfl⟩
     have hS345:sW w U U339 [] W342:=hS344
     refine oR Z (Runs.notT Z Z) (oA Z Z (eN (ifc hm338 ?_ ?_)))
     ·intro c346 hm347
      refine zh (nC c346.out) (zp (zi (zI (sR fL1 Z (oA Z Z (eN (zW ?_)))))))
      cases hm347
      exact ⟨Z,_,(zn Z),U339,_,hS345,Z,Z⟩
     ·intro c346 hm348
      refine zz (nF (c346.out)) (sR fL1 Z (oA Z Z (eN (zW (zj (zM ?_))))))
      cases hm348
      exact ⟨Z,_,(zn Z),U339,_,hS345,Z,Z⟩
   ·intro c311 hm349
    refine zz (nF (c311.out)) (sR fL1 Z (oA Z Z (eN (zW (zj (zM ?_))))))
    cases hm349
    exact ⟨rfl,_,(zn rfl),U304,_,(hS310.pick [] _ (by decide) rfl),rfl,rfl⟩
end Go.Proofs.YtghaibkggdecnaaGreat
namespace Go.Proofs.YtghaibkggdecnaaGreat
open Go.KL
set_option maxHeartbeats 4000000
theorem wCG (p0:wAB) (p1:wAA) (pb1:Nat) (w:World) (U:PHeap) (hS:St0 w U []) (ha0:Cl U pb1 0 [jV p1.Bib,jV p1.Time]) {r:Bool} (hm:wAQ p0 p1=some r):Gv Tryz.prog 25 [.agg #[jV p0.Bib,jV p0.Time,jV p0.Gate],.pointer (some ⟨pb1,0,none⟩)] w (wDD w [] U (fun U_ L_ v=>v=.bool r/\L_=[])):=by
 unfold wAQ at hm
 refine Gv.of Tryz.func25 rfl Tryz.ntmps25 Tryz.results25 rfl (sR (.fx 0 (.fl 1 (.nil)) .stop) rfl (OKS.box (cs:=[jV p0.Bib,jV p0.Time,jV p0.Gate]) rfl rfl rfl rfl rfl rfl (by rfl) hS ?_))
 intro W1 b2 hS3
 refine oA Z Z (eN (sR fL6 Z (oR Z (zk Z Z ZL Z zB) (oL Z (hS3.ldB (j:=0) Z Z Z zE (v:=jV p0.Bib) Z) (oR Z (zk Z Z ze Z zB) (oL Z (hS3.ldC (f:=0) ha0 (v:=jV p1.Bib) Z Z zE Z) (oR Z (Runs.eql Z Z Z) (oA Z Z (eN (zW ?_))))))))))
 cases hm
 exact ⟨rfl,_,(zn rfl),U,_,(hS3.pick [] _ (by decide) rfl),rfl,rfl⟩
theorem wAs (p0:List wAB) (pA0:Option Addr) (pc0:Nat) (p1:(wAB->Option Bool)) (pv1:Value) (w:World) (U:PHeap) (hS:St0 w U []) (ha0:Sl U 3 pA0 pc0 p0.length (hH wAM p0)) (ha1:FnOK Tryz.prog U pv1 wPQ wPR p1) {r:Int} (hm:wAD p0 p1=some r):Gv Tryz.prog 24 [.slice pA0 p0.length pc0,pv1] w (wDD w [] U (fun U_ L_ v=>v=jV r/\L_=[])):=by
 unfold wAD at hm
 refine Gv.of Tryz.func24 Z Tryz.ntmps24 Tryz.results24 Z (sR fL1 Z (oA Z Z (eN (zF (sR fL3 Z (oM Z Z (oR Z (zw Z Z zl) (oM Z Z (eN (zR ?_))))))))))
 have q:=wCa hm
 obtain ⟨r3,hX4⟩:=q
 have q:=wCn hX4
 obtain ⟨hle5,hf6⟩:=q
 replace hle5:=zG hle5
 refine CK.forN (fun k2 _ σ_ w_=>∃ (U_:PHeap),σ_ 8=jV (↑k2:Int)/\σ_ 0=.slice pA0 p0.length pc0/\σ_ 1=pv1/\σ_ 7=jV (↑p0.length:Int)/\PHeap.Le U U_/\sW w U U_ [] w_) hf6 ?_ ?_ ?_
 ·exact ⟨U,Z,Z,Z,Z,(zL _),hS⟩
 ·rintro k2 ⟨⟩ xx9 σ7 W8 hk12 ⟨U14,fi13,f17,f18,f19,le15,hS16⟩ hx10 hb11
  try dsimp only at hx10
  have c20:Hid ((↑k2:Int) < (↑p0.length:Int)):=zG (wBk hk12)
  replace hk12:=zG hk12
  have hi21:Hid (w64 ((↑k2:Int) + 1)=(↑(k2 + 1):Int)):=zG (by have h1:=hle5.out;have h2:=c20.out;rw [wAg] <;> omega)
  refine sR fL1 Z (oR Z (zJ Z fi13 f19) (eN (zF (cT Z c20 (kN (zF (zR (sR fL2 Z (oM Z fi13 (oA Z Z (eN (sR (wCl (.fx 5 (.nil) .stop)) Z (oM Z f18 (oM Z f17 (oM Z Z (bnK hx10 fun x22 h23 hm24=>?_))))))))))))))))
  have h25:=ha0.le le15
  have q:=h25.el (fun _=>rfl) (wAt h23)
  obtain ⟨b26,off27,hA28,hC29⟩:=q
  refine oR Z (ZB Z Z hA28 Z zl ZG (wCE h23)) (oL Z (hS16.ldCA (f:=0) hC29 Z Z Tryz.isAgg54 ZG (us:=[jV x22.Bib,jV x22.Time,jV x22.Gate]) Z Z) (bnK hm24 fun x30 h31 hm32=>?_))
  have h39:=ha1.le le15
  refine OKS.callV (a:=x22) Z Z Z Z Z Z (zA Z zV) hS16 h39 Z h31 ?_
  rintro U33 L34 v35 W36 le37 hS38 ⟨rfl,rfl⟩
  have hS40:sW w U U33 [] W36:=hS38
  refine eN (ifc hm32 ?_ ?_)
  ·intro c41 hm42
   refine zz (congrArg nB c41.out) (sR fL2 Z (oM Z Z (oA Z Z (eN (zW (zj (zM ?_)))))))
   have q:=wAW hm42
   obtain ⟨v43,hm44,e45⟩:=q
   obtain rfl:=wBi hm hX4 (hb11 v43 e45)
   refine zM (zj (zM ?_))
   cases hm44
   exact ⟨Z,_,(zn Z),U33,_,hS40,Z,Z⟩
  ·intro c41 hm46
   refine zh (congrArg nB (nD.2 c41.out)) (zp (zi (zI (rR fL2 Z (oR Z (ZP (zY Z fi13 Z) (congrArg (jV) hi21.out)) (oM Z Z (zg ?_)))))))
   obtain rfl:=nA hm46
   exact zI ⟨Z,_,Z,⟨U33,Z,f17,f18,f19,(le15.trans le37),hS40⟩⟩
 ·rintro ⟨⟩ σ47 W48 ⟨U51,fi50,f54,f55,f56,le52,hS53⟩ hb49
  have hm57:=wDT hm hX4 hb49
  try dsimp only at hm57
  have c58:Hid (¬ ((↑(((↑p0.length:Int):Int) - 0).toNat:Int) < (↑p0.length:Int))):=zG (wBS)
  refine sR fL1 Z (oR Z (zJ Z fi50 f56) (eN (zF (cF Z c58 (ZC (zZ (zZ (zt (zI (sR fL1 Z (oA Z Z (eN (zW ?_)))))))))))))
  cases hm57
  exact ⟨Z,_,(zn Z),U51,_,hS53,Z,Z⟩
theorem wCH (p0:wAB) (p1:wAA) (pb1:Nat) (w:World) (U:PHeap) (hS:St0 w U []) (ha0:Cl U pb1 0 [jV p1.Bib,jV p1.Time]) {r:Bool} (hm:wAR p0 p1=some r):Gv Tryz.prog 26 [.agg #[jV p0.Bib,jV p0.Time,jV p0.Gate],.pointer (some ⟨pb1,0,none⟩)] w (wDD w [] U (fun U_ L_ v=>v=.bool r/\L_=[])):=by
 unfold wAR at hm
 refine Gv.of Tryz.func26 rfl Tryz.ntmps26 Tryz.results26 rfl (sR (.fx 0 (.fl 1 (.nil)) .stop) rfl (OKS.box (cs:=[jV p0.Bib,jV p0.Time,jV p0.Gate]) rfl rfl rfl rfl rfl rfl (by rfl) hS ?_))
 intro W1 b2 hS3
 refine oA Z Z (eN (sR fL6 Z (oR Z (zk Z Z ZL Z zB) (oL Z (hS3.ldB (j:=0) Z Z Z zE (v:=jV p0.Bib) Z) (oR Z (zk Z Z ze Z zB) (oL Z (hS3.ldC (f:=0) ha0 (v:=jV p1.Bib) Z Z zE Z) (oR Z (Runs.eql Z Z Z) (oA Z Z (eN (zW ?_))))))))))
 cases hm
 exact ⟨rfl,_,(zn rfl),U,_,(hS3.pick [] _ (by decide) rfl),rfl,rfl⟩
theorem wBx (p0:List wAA) (pA0:Option Addr) (pc0:Nat) (w:World) (U:PHeap) (hS:St0 w U []) (ha0:Sl U 2 pA0 pc0 p0.length (hH wAH p0)) {r:(List wAA)} (hm:wAZ p0=some r):Gv Tryz.prog 12 [.slice pA0 p0.length pc0] w (wDD w [] U (fun U_ L_ v=>∃ (A0:Option Addr) (c0:Nat),v=.slice A0 r.length c0/\L_=[.row A0 c0 28 2 (hH wAH r)])):=by
 unfold wAZ at hm
 refine Gv.of Tryz.func12 Z Tryz.ntmps12 Tryz.results12 Z (sR fL1 Z (oA Z Z (eN (sR (.fl 0 (.fx 1 (.fl 2 (.nil)) .stop)) Z (oM Z Z ?_)))))
 have hS1:=hS.nilrow 28 2
 have hS3:sW w U U [.row none 0 28 2 (hH wAH ([]:List wAA))] w:=hS1
 refine bnK hm fun x4 h5 hm6=>ZK (j:=0) (enc:=wAH) (xs:=([]:List wAA)) (ys:=p0) (zs:=x4) Z Z Z Z Z Tryz.underlying22 wMv Z Z Z Z Z Z hS3 Z Z Z (hS3.srcS ha0) (fun _=>Z) (fun _=>Z) h5 Z ?_
 intro A7 c8 W9 hS10
 have hS11:sW w U U [.row A7 c8 28 2 (hH wAH x4)] W9:=hS10
 refine oA Z Z (eN (zW ?_))
 have hE:=nA hm6;first | subst r | cases hE
 exact ⟨Z,_,(zn Z),U,_,hS11,A7,c8,Z,Z⟩
theorem wCI (p0:List wAB) (pA0:Option Addr) (pc0:Nat) (p1:List wAB) (pA1:Option Addr) (pc1:Nat) (w:World) (U:PHeap) (hS:St0 w U []) (ha0:Sl U 3 pA0 pc0 p0.length (hH wAM p0)) (ha1:Sl U 3 pA1 pc1 p1.length (hH wAM p1)) {r:Bool} (hm:wAT p0 p1=some r):Gv Tryz.prog 27 [.slice pA0 p0.length pc0,.slice pA1 p1.length pc1] w (wDD w [] U (fun U_ L_ v=>v=.bool r/\L_=[])):=by
 unfold wAT at hm
 refine Gv.of Tryz.func27 Z Tryz.ntmps27 Tryz.results27 Z (sR fL1 Z (oA Z Z (eN (zF (sR fL5 Z (oM Z Z (oR Z (zw Z Z zl) (oM Z Z (oR Z (zw Z Z zl) (oR Z (ZO Z Z Z) (eN ?_)))))))))))
 by_cases c1:(↑p0.length:Int)=(↑p1.length:Int)
 ·have hm2:=hm;rw [if_pos c1] at hm2;replace c1:=zG c1
  refine zh (zd (fun h=>h c1.out)) (kN (zF (sR fL3 Z (oM Z Z (oR Z (zw Z Z zl) (oM Z Z (eN (zR ?_))))))))
  have q:=wCa hm2
  obtain ⟨r5,hX6⟩:=q
  have q:=wCn hX6
  obtain ⟨hle7,hf8⟩:=q
  replace hle7:=zG hle7
  refine CK.forN (fun k4 _ σ_ w_=>∃ (U_:PHeap),σ_ 13=jV (↑k4:Int)/\σ_ 0=.slice pA0 p0.length pc0/\σ_ 1=.slice pA1 p1.length pc1/\σ_ 12=jV (↑p0.length:Int)/\PHeap.Le U U_/\sW w U U_ [] w_) hf8 ?_ ?_ ?_
  ·exact ⟨U,Z,Z,Z,Z,(zL _),hS⟩
  ·rintro k4 ⟨⟩ xx11 σ9 W10 hk14 ⟨U16,fi15,f19,f20,f21,le17,hS18⟩ hx12 hb13
   try dsimp only at hx12
   have c22:Hid ((↑k4:Int) < (↑p0.length:Int)):=zG (wBk hk14)
   replace hk14:=zG hk14
   have hi23:Hid (w64 ((↑k4:Int) + 1)=(↑(k4 + 1):Int)):=zG (by have h1:=hle7.out;have h2:=c22.out;rw [wAg] <;> omega)
   refine sR fL1 rfl (zS rfl rfl rfl rfl (fun _=>zJ rfl fi15 f21) (eN (zF (cT Z c22 (kN (zF (zR (sR fL2 rfl (zD rfl rfl rfl rfl rfl fi15 (OKS.ra rfl rfl rfl rfl rfl rfl (eN (zF (ZJ ZH [3,3,3,1,3,3,3,1,3] fL9 (by kernel_rfl) ?_)))))))))))))
   have hS24:=hS18.drew
   generalize hw_W25:({ W10 with drawn:=W10.drawn + 1 }:World)=W25 at hS24 ⊢
   refine oM Z f19 (oM Z Z (bnK hx12 fun x26 h27 hm28=>?_))
   have h29:=ha0.le le17
   have q:=h29.el (fun _=>rfl) (wAt h27)
   obtain ⟨b30,off31,hA32,hC33⟩:=q
   refine oR Z (ZB Z Z hA32 Z zl ZG (wCE h27)) (oL Z (hS24.ldCA (f:=0) hC33 Z Z Tryz.isAgg54 ZG (us:=[jV x26.Bib,jV x26.Time,jV x26.Gate]) Z Z) (oM Z f20 (oM Z Z (bnK hm28 fun x34 h35 hm36=>?_))))
   have h37:=ha1.le le17
   have q:=h37.el (fun _=>rfl) (wAt h35)
   obtain ⟨b38,off39,hA40,hC41⟩:=q
   refine oR Z (ZB Z Z hA40 Z zl ZG (wCE h35)) (oL Z (hS24.ldCA (f:=0) hC41 Z Z Tryz.isAgg54 ZG (us:=[jV x34.Bib,jV x34.Time,jV x34.Gate]) Z Z) (oR Z (ZP (Runs.neS (enc:=wAM) (a:=x26) (b:=x34) Z Z Z eqT54 eqG54) (congrArg nB (decide_not).symm)) (eN (ifc hm36 ?_ ?_))))
   ·intro c42 hm43
    refine zh (zd (fun h=>h c42.out)) (zp (zi (zI (rR fL2 Z (oR Z (ZP (zY Z fi15 Z) (congrArg (jV) hi23.out)) (oM Z Z (zg ?_)))))))
    obtain rfl:=nA hm43
    exact zI ⟨Z,_,Z,⟨U16,Z,f19,f20,f21,le17,hS24⟩⟩
   ·intro c42 hm44
    refine cT Z c42 (sR fL1 Z (oA Z Z (eN (zW (zj (zM ?_))))))
    have q:=wAW hm44
    obtain ⟨v45,hm46,e47⟩:=q
    obtain rfl:=wBi hm2 hX6 (hb13 v45 e47)
    refine zM (zj (zM ?_))
    have hE:=nA hm46;first | subst r | cases hE
    exact ⟨Z,_,(zn Z),U16,_,hS24,Z,Z⟩
  ·rintro ⟨⟩ σ48 W49 ⟨U52,fi51,f55,f56,f57,le53,hS54⟩ hb50
   have hm58:=wDT hm2 hX6 hb50
   try dsimp only at hm58
   have c59:Hid (¬ ((↑(((↑p0.length:Int):Int) - 0).toNat:Int) < (↑p0.length:Int))):=zG (wBS)
   refine sR fL1 Z (oR Z (zJ Z fi51 f57) (eN (zF (cF Z c59 (ZC (zZ (zZ (zt (zI (sR fL1 Z (oA Z Z (eN (zW ?_)))))))))))))
   have hE:=nA hm58;first | subst r | cases hE
   exact ⟨Z,_,(zn Z),U52,_,hS54,Z,Z⟩
 ·have hm60:=hm;rw [if_neg c1] at hm60;replace c1:=zG c1
  refine cT Z c1 (sR fL1 Z (oA Z Z (eN (zW (zM ?_)))))
  have hE:=nA hm60;first | subst r | cases hE
  exact ⟨Z,_,(zn Z),U,_,hS,Z,Z⟩
theorem wDS (w:World) (U:PHeap) (hS:St0 w U []) {r:Bool} (hm:wBe=some r):Gv Tryz.prog 11 [] w (wDD w [] U (fun U_ L_ v=>v=.bool r/\L_=[])):=by
 cases hm
 refine (xr11 w).mono ?_
 rintro v w' ⟨rfl,k⟩
 exact ⟨U,[],hS.grow k,Z,Z⟩
theorem wCL (p0:List Int) (pA0:Option Addr) (pc0:Nat) (p1:Int) (p2:Int) (p3:Int) (w:World) (U:PHeap) (hS:St0 w U []) (ha0:Sl U 1 pA0 pc0 p0.length (hH KL.encB8 p0)) {r:Bool} (hm:wAq p0 p1 p2 p3=some r):Gv Tryz.prog 4 [.slice pA0 p0.length pc0,jV p1,jV p2,jV p3] w (wDD w [] U (fun U_ L_ v=>v=.bool r/\L_=[])):=by
 unfold wAq at hm
 refine Gv.of Tryz.func4 Z Tryz.ntmps4 Tryz.results4 Z (sR fL1 Z (oA Z Z (eN (sR (.fl 0 (.fx 1 (.fx 2 (.fl 3 (.nil)) .stop) .stop)) Z (oM Z Z (bnK hm fun x1 h2 hm3=>zN 0 Z Z Z Z (zO Z Z Tryz.call21 (zA Z zV) Z) hS (fun hs=>wFa p0 pA0 pc0 w U hs ha0 h2) (.inr Z) ?_))))))
 rintro U4 L5 v6 W7 le8 hS9 ⟨b10,A11,c12,rfl,rfl,h14⟩
 have hS15:sW w U U4 [.blk b10 136 [.slice A11 x1.bytes.length c12,jV x1.next,.int .u32 x1.state]] W7:=hS9
 have q:=bnd hm3
 obtain ⟨⟨x16,x17⟩,h18,hm19⟩:=q
 try dsimp only at hm19
 refine zN 1 Z Z Z Z (zO Z Z Tryz.call20 (zA Z (zA Z zV)) Z) hS15 (fun hs=>wDB x1 b10 A11 c12 40 W7 U4 hs h14 h18) (.inl Z) ?_
 rintro U20 L21 v22 W23 le24 hS25 ⟨A26,c27,A28,c29,rfl,rfl,h31⟩
 let B0:Res:=.blk b10 136 [.slice A28 x17.bytes.length c29,jV x17.next,.int .u32 x17.state]
 let B1:Res:=.row A26 c27 28 2 (hH wAH x16)
 have hS32:sW w U U20 [B1,B0] W23:=hS25
 refine oA Z Z (eN (sR (.fl 0 (.fx 1 (.fl 2 (.fl 3 (.fx 4 (.fl 5 (.fx 6 (.fx 7 (.nil) .stop) .stop)) .stop))) .stop)) Z (oM Z Z (bnK hm19 fun x33 h34 hm35=>zN 0 Z Z Z Z (zO Z Z Tryz.call22 (zA Z (zA Z zV)) Z) hS32 (fun hs=>wBu p1 600 W23 U20 hs h34) (.inr Z) ?_))))
 rintro U36 L37 v38 W39 le40 hS41 ⟨rfl,rfl⟩
 have hS42:sW w U U36 [B1,B0] W39:=hS41
 refine oR Z (zY Z Z Z) (oM Z Z (bnK hm35 fun x43 h44 hm45=>zN 0 Z Z Z Z (zO Z Z Tryz.call22 (zA Z (zA Z zV)) Z) hS42 (fun hs=>wBu p2 900 W39 U36 hs h44) (.inr Z) ?_))
 rintro U46 L47 v48 W49 le50 hS51 ⟨rfl,rfl⟩
 have hS52:sW w U U46 [B1,B0] W49:=hS51
 let B2:List Value:=[jV (w64 (x33 + 1)),jV x43]
 let B3:List Value:=[jV 0,jV 0]
 refine oR Z (Runs.build (pv:=[(0,jV (w64 (x33 + 1))),(1,jV x43)]) (z:=B3) (cs:=B2) Z (wAi Z (wAi Z wBO)) Tryz.zeroValue24 wIr Z Z) (ZT (cs:=B3) Z Z Z Z Z Tryz.zeroValue24 Z hS52 ?_)
 intro W53 b54 hS55
 refine OKS.st (j:=0) (vs:=B2) Z Z Z Z hS55 Z Z Z Z Tryz.sizeOf24 (zX Z) Z Z Z ?_
 intro W57 hS58
 have hS59:sW w U U46 [.blk b54 24 B2,B1,B0] W57:=hS58
 refine eN (sR (.fl 0 (.fl 1 (.fx 2 (wMb (.nil)) .stop))) Z (oM Z Z (oL Z (hS59.ldBA (j:=0) Z Z Z Tryz.isAgg24 Tryz.sizeOf24 (vs:=B2) Z Z) ?_)))
 have q:=hS59.freezeR (k:=1) (n:=x16.length) rfl (wAF (f:=wAH) (sz:=2) (fun _=>rfl) x16) (by decide)
 obtain ⟨U60,le61,hs62,hS63⟩:=q
 have hS64:sW w U U60 [.blk b54 24 B2,B0] W57:=hS63
 have q:=bnd hm45
 obtain ⟨⟨x65,x66⟩,h67,hm68⟩:=q
 try dsimp only at hm68
 refine zN 0 Z Z Z Z (zO Z Z Tryz.call13 (zA Z (zA Z zV)) Z) hS64 (fun hs=>wCJ x16 A26 c27 (⟨w64 (x33 + 1),x43⟩:wAC) W57 U60 hs hs62 h67) (.inr Z) ?_
 rintro U69 L70 v71 W72 le73 hS74 ⟨A75,c76,rfl,rfl⟩
 let B4:Res:=.row A75 c76 3 1 (hH KL.encI x65)
 have hS78:sW w U U69 [B4,.blk b54 24 B2,B0] W72:=hS74
 refine oM Z Z (oR Z (Runs.ext Z Z (v:=.slice A75 x65.length c76) Z) (oR Z (Runs.ext Z Z (v:=jV x66) Z) (oA Z Z (oA Z Z (eN (sR (.fl 0 (.fl 1 (.fx 2 (wMb (.nil)) .stop))) Z (oM Z Z (oL Z (hS78.ldBA (j:=1) Z Z Z Tryz.isAgg24 Tryz.sizeOf24 (vs:=B2) Z Z) ?_))))))))
 have h79:=hs62.le le73
 have q:=bnd hm68
 obtain ⟨⟨x80,x81⟩,h82,hm83⟩:=q
 try dsimp only at hm83
 refine zN 0 Z Z Z Z (zO Z Z Tryz.call16 (zA Z (zA Z zV)) Z) hS78 (fun hs=>wDM x16 A26 c27 (⟨w64 (x33 + 1),x43⟩:wAC) W72 U69 hs h79 h82) (.inr Z) ?_
 rintro U84 L85 v86 W87 le88 hS89 ⟨A90,c91,rfl,rfl⟩
 have hS93:sW w U U84 [.row A90 c91 54 3 (hH wAM x80),B4,.blk b54 24 B2,B0] W87:=hS89
 refine oM Z Z (oR Z (Runs.ext Z Z (v:=.slice A90 x80.length c91) Z) (oR Z (Runs.ext Z Z (v:=jV x81) Z) (oA Z Z (oA Z Z (eN (zF (zF (CK.fresh fun σ94 hσ95=>?_))))))))
 have f96:σ94 3=jV p3:=(hσ95 3).trans rfl
 have f97:σ94 9=.slice A26 x16.length c27:=(hσ95 9).trans rfl
 have f98:σ94 10=.pointer (some ⟨b54,0,none⟩):=(hσ95 10).trans rfl
 have f99:σ94 11=.slice A75 x65.length c76:=(hσ95 11).trans rfl
 have f100:σ94 12=jV x66:=(hσ95 12).trans rfl
 have f101:σ94 13=.slice A90 x80.length c91:=(hσ95 13).trans rfl
 have f102:σ94 14=jV x81:=(hσ95 14).trans rfl
 clear hσ95
 refine rR (wPe (.fx 22 (.fl 23 (.fl 24 (.nil))) .stop)) Z (oM Z f100 (oR Z (ZO Z Z Z) (oM Z Z (ifc hm83 ?_ ?_))))
 ·intro c103 hm104
  refine zD Z Z Z (zH Z Z (zd (fun h=>h c103.out))) Z f102 (zS Z Z Z (zH Z Z (zd (fun h=>h c103.out))) (fun _=>ZO Z Z Z) (oR Z (zP Z (zd (fun h=>h c103.out)) Z) (oM Z Z (ifc hm104 ?_ ?_))))
  ·intro c105 hm106
   refine zD Z Z Z (zH Z Z (zd (fun h=>h c105.out))) Z f99 (zS Z Z Z (zH Z Z (zd (fun h=>h c105.out))) (fun _=>zw Z Z zC) (zD Z Z Z (zH Z Z (zd (fun h=>h c105.out))) Z f97 (zS Z Z Z (zH Z Z (zd (fun h=>h c105.out))) (fun _=>zw Z Z zQ) (zS Z Z Z (zH Z Z (zd (fun h=>h c105.out))) (fun _=>ZO Z Z Z) (oR Z (zP Z (zd (fun h=>h c105.out)) Z) (oM Z Z (ifc hm106 ?_ ?_)))))))
   ·intro c107 hm108
    refine zD Z Z Z (zH Z Z (zd (fun h=>h c107.out))) Z f101 (zS Z Z Z (zH Z Z (zd (fun h=>h c107.out))) (fun _=>zw Z Z zl) (zD Z Z Z (zH Z Z (zd (fun h=>h c107.out))) Z f97 (zS Z Z Z (zH Z Z (zd (fun h=>h c107.out))) (fun _=>zw Z Z zQ) (zS Z Z Z (zH Z Z (zd (fun h=>h c107.out))) (fun _=>ZO Z Z Z) (oR Z (zP Z (zd (fun h=>h c107.out)) Z) (oM Z Z (ifc hm108 ?_ ?_)))))))
    ·intro c109 hm110
     refine zD Z Z Z (zH Z Z (zd (fun h=>h c109.out))) Z f101 ?_
     have q:=hS93.freezeR (k:=0) (n:=x80.length) rfl (wAF (f:=wAM) (sz:=3) (fun _=>rfl) x80) (by decide)
     obtain ⟨U111,le112,hs113,hS114⟩:=q
     have hS115:sW w U U111 [B4,.blk b54 24 B2,B0] W87:=hS114
     refine bnK hm110 fun x116 h117 hm118=>zN 0 Z Z Z (zH Z Z (zd (fun h=>h c109.out))) (zO Z Z Tryz.call23 (zA Z zV) Z) hS115 (fun hs=>wES x80 A90 c91 W87 U111 hs hs113 h117) (.inr Z) ?_
     rintro U119 L120 v121 W122 le123 hS124 ⟨rfl,rfl⟩
     have hS125:sW w U U119 [B4,.blk b54 24 B2,B0] W122:=hS124
     refine zS Z Z Z (zH Z Z (zd (fun h=>h c109.out))) (fun _=>ZO Z Z Z) (oR Z (zP Z (zd (fun h=>h c109.out)) Z) (eN (ifc hm118 ?_ ?_)))
     ·intro c126 hm127
      refine zh (zd (fun h=>h c126.out)) (kN (sR fL5 Z (oM Z f97 (bnK hm127 fun x128 h129 hm130=>?_))))
      have h131:=h79.le le88
      have h132:=h131.le le112
      have h133:=h132.le le123
      have q:=h133.el (fun _=>rfl) (wAt h129)
      obtain ⟨b134,off135,hA136,hC137⟩:=q
      refine oR Z (ZB Z Z hA136 Z zQ zf (wCE h129)) (oR Z (zk Z Z ze Z zB) (oL Z (hS125.ldC (f:=1) hC137 (v:=jV x128.Time) Z Z zE Z) (oA Z Z (eN (zF (sR fL3 Z (oM Z f97 (oR Z (zw Z Z zQ) (oM Z Z (eN (zR (bnK hm130 fun y149 hf146 hm145=>?_))))))))))))
      have q:=wCB hf146
      obtain ⟨hle147,hf148⟩:=q
      replace hle147:=zG hle147
      refine CK.forN' (fun k144 x143 σ_ w_=>∃ (U_:PHeap),σ_ 84=jV (↑k144:Int)/\σ_ 3=jV p3/\σ_ 9=.slice A26 x16.length c27/\σ_ 10=.pointer (some ⟨b54,0,none⟩)/\σ_ 11=.slice A75 x65.length c76/\σ_ 13=.slice A90 x80.length c91/\σ_ 15=jV x143/\σ_ 82=.slice A26 x16.length c27/\σ_ 83=jV (↑x16.length:Int)/\PHeap.Le U119 U_/\sW w U U_ [.blk b54 24 B2,B0,B4] w_) hf148 ?_ ?_ ?_
      ·exact ⟨U119,rfl,f96,f97,f98,f99,f101,rfl,rfl,rfl,(zL _),(hS125.pick [1,2,0] _ (by decide) rfl)⟩
      ·rintro k144 x143 xx152 σ150 W151 hk155 ⟨U157,fi156,f160,f161,f162,f163,f164,f165,f166,f167,le158,hS159⟩ hx153
       have c168:Hid ((↑k144:Int) < (↑x16.length:Int)):=zG (wBk hk155)
       replace hk155:=zG hk155
       have hi169:Hid (w64 ((↑k144:Int) + 1)=(↑(k144 + 1):Int)):=zG (by have h1:=hle147.out;have h2:=c168.out;rw [wAg] <;> omega)
       refine sR fL1 Z (oR Z (zJ Z fi156 f167) (eN (zF (cT Z c168 (kN (zF (zR (sR (.fl 0 (.fl 1 (.fx 2 (.fx 3 (.nil) .stop) .stop))) Z (bnK hx153 fun x170 h171 hm172=>?_)))))))))
       have h173:=h133.le le158
       have q:=h173.el (fun _=>rfl) (wAt h171)
       obtain ⟨b174,off175,hA176,hC177⟩:=q
       refine oR Z (ZB Z f166 hA176 fi156 zQ zf (wCE h171)) (oL Z (hS159.ldCA (f:=0) hC177 Z Z ZS zf (us:=[jV x170.Bib,jV x170.Time]) Z Z) (ZT (cs:=B3) Z Z Z Z Z ZM Z hS159 ?_))
       intro W178 b179 hS180
       let B5:List Value:=[jV x170.Bib,jV x170.Time]
       refine OKS.st (j:=0) (vs:=B5) Z Z Z Z hS180 Z Z Z Z zf (zX Z) Z Z Z ?_
       intro W182 hS183
       have hS184:sW w U U157 [.blk b179 28 B5,.blk b54 24 B2,B0,B4] W182:=hS183
       refine eN (rR fL5 Z (oM Z f165 (oR Z (zk Z Z ze Z zB) (oL Z (hS184.ldB (j:=0) Z Z Z zE (v:=jV x170.Time) Z) (oR Z (Runs.min Z Z Z) (oA Z Z (zg (zi (zI (rR fL2 Z (oR Z (ZP (zY Z fi156 Z) (congrArg (jV) hi169.out)) (oM Z Z (zg ?_)))))))))))))
       cases hm172
       exact zI ⟨rfl,⟨U157,rfl,f160,f161,f162,f163,f164,rfl,f166,f167,le158,(hS184.pick [1,2,3] _ (by decide) rfl)⟩⟩
      ·rintro σ186 W187 ⟨U191,fi189,f194,f195,f196,f197,f198,f199,f200,f201,le192,hS193⟩
       have c202:Hid (¬ ((↑(((↑x16.length:Int):Int) - 0).toNat:Int) < (↑x16.length:Int))):=zG (wBS)
       refine sR fL1 Z (oR Z (zJ Z fi189 f201) (eN (zF (cF Z c202 (ZC (zZ (zZ (zt (zI (zF (sR fL3 Z (oM Z f195 (oR Z (zw Z Z zQ) (oM Z Z (eN (zR ?_))))))))))))))))
       have q:=wCa hm145
       obtain ⟨r206,hX207⟩:=q
       have q:=wCn hX207
       obtain ⟨hle208,hf209⟩:=q
       replace hle208:=zG hle208
       refine CK.forN (fun k205 _ σ_ w_=>∃ (U_:PHeap),σ_ 95=jV (↑k205:Int)/\σ_ 3=jV p3/\σ_ 9=.slice A26 x16.length c27/\σ_ 10=.pointer (some ⟨b54,0,none⟩)/\σ_ 11=.slice A75 x65.length c76/\σ_ 13=.slice A90 x80.length c91/\σ_ 15=jV y149/\σ_ 93=.slice A26 x16.length c27/\σ_ 94=jV (↑x16.length:Int)/\PHeap.Le U191 U_/\sW w U U_ [.blk b54 24 B2,B0,B4] w_) hf209 ?_ ?_ ?_
       ·exact ⟨U191,Z,f194,f195,f196,f197,f198,f199,Z,Z,(zL _),hS193⟩
       ·rintro k205 ⟨⟩ xx212 σ210 W211 hk215 ⟨U217,fi216,f220,f221,f222,f223,f224,f225,f226,f227,le218,hS219⟩ hx213 hb214
        try dsimp only at hx213
        have c228:Hid ((↑k205:Int) < (↑x16.length:Int)):=zG (wBk hk215)
        replace hk215:=zG hk215
        have hi229:Hid (w64 ((↑k205:Int) + 1)=(↑(k205 + 1):Int)):=zG (by have h1:=hle208.out;have h2:=c228.out;rw [wAg] <;> omega)
        refine sR fL1 Z (oR Z (zJ Z fi216 f227) (eN (zF (cT Z c228 (kN (zF (zR (sR (wLk (.fx 3 (.fl 4 (.fx 5 (.nil) .stop)) .stop)) Z (oM Z fi216 (bnK hx213 fun x230 h231 hm232=>?_))))))))))
        have h233:=h133.le le192
        have h234:=h233.le le218
        have q:=h234.el (fun _=>rfl) (wAt h231)
        obtain ⟨b235,off236,hA237,hC238⟩:=q
        refine oR Z (ZB Z f226 hA237 fi216 zQ zf (wCE h231)) (oL Z (hS219.ldCA (f:=0) hC238 Z Z ZS zf (us:=[jV x230.Bib,jV x230.Time]) Z Z) (ZT (cs:=B3) Z Z Z Z Z ZM Z hS219 ?_))
        intro W239 b240 hS241
        refine oA Z Z ?_
        let B6:List Value:=[jV x230.Bib,jV x230.Time]
        refine OKS.st (j:=0) (vs:=B6) Z Z Z Z hS241 Z Z Z Z zf (zX Z) Z Z Z ?_
        intro W243 hS244
        have hS245:sW w U U217 [.blk b240 28 B6,.blk b54 24 B2,B0,B4] W243:=hS244
        refine eN (sR fL5 Z (oR Z (zk Z Z ze Z zB) (oL Z (hS245.ldB (j:=0) Z Z Z zE (v:=jV x230.Time) Z) (oM Z f225 (oR Z (zm Z Z Z) (oA Z Z (eN (zF (bnK hm232 fun b246 hx248 hm249=>CK.cut (fun σ_ w_=>∃ (U_:PHeap),σ_ 3=jV p3/\σ_ 9=.slice A26 x16.length c27/\σ_ 10=.pointer (some ⟨b54,0,none⟩)/\σ_ 11=.slice A75 x65.length c76/\σ_ 13=.slice A90 x80.length c91/\σ_ 15=jV y149/\σ_ 18=jV (↑k205:Int)/\σ_ 19=.pointer (some ⟨b240,0,none⟩)/\σ_ 93=.slice A26 x16.length c27/\σ_ 94=jV (↑x16.length:Int)/\σ_ 95=jV (↑k205:Int)/\σ_ 155=.bool b246/\PHeap.Le U217 U_/\sW w U U_ [.blk b240 28 B6,.blk b54 24 B2,B0,B4] w_) ?_ ?_)))))))))
        ·refine ZJ ZH [3,3,3,1,3,3,3,3,3,1,3,1,3,3,3,3,3,3,1,3,3,3,3,3,3,3,1,3,1,3,3,3,3,3,1,3,1,3,3,3,3,3,3,3,1,3,3,1,3,3,3,3] fL52 (by kernel_rfl) ?_
         have hS250:=hS245.drew
         generalize hw_W251:({ W243 with drawn:=W243.drawn + 1 }:World)=W251 at hS250 ⊢
         refine oM Z f223 (oM Z Z (bnK hx248 fun _ h252 hm253=>?_))
         obtain ⟨b254,hA255⟩:=hS250.rowSome (j:=3) rfl (by rw [wAF (f:=KL.encI) (sz:=1) (fun _=>rfl) x65];have hz:=wAP h252;omega)
         refine oR Z (ZB Z Z hA255 Z zC zB (wAP h252)) ?_
         have hg256:=wAu (xs:=x65) (wAP h252)
         refine ZA rfl rfl rfl rfl (hS250.ldR (j:=3) rfl hA255 rfl rfl zE (wAN (sz:=1) (fun _=>rfl) _ _ 0 _ hg256 (by first | omega | rfl | simp) rfl)) rfl (zS rfl rfl rfl rfl (fun _=>zJ rfl rfl rfl) (zD rfl rfl rfl rfl rfl rfl (ifc hm253 ?_ ?_)))
         ·intro c257 hm258
          refine oT Z c257 (oT Z c257 (oT Z c257 (oT Z c257 (oT Z c257 (oT Z c257 (oT Z c257 (oR Z (zK Z (zr c257.out) Z) (oM Z Z (oN Z (oN Z (oN Z (oN Z (oN Z (oN Z (oR Z (zK Z Z Z) (oM Z Z (oN Z (oN Z (oN Z (oN Z (oN Z (oN Z (oN Z (oN Z (zU Z Z Z (wAL Z Z Z) (zU Z Z Z (wAL Z Z Z) (zU Z Z Z (wAL Z Z Z) (zU Z Z Z (wAL Z Z Z) (zU Z Z Z (wAL Z Z Z) (zU Z Z Z (wAL Z Z Z) (zU Z Z Z (wAL Z Z Z) (zU Z Z Z (wAL Z Z Z) (zU Z Z Z (wAL Z Z Z) (zU Z Z Z (wAL Z Z Z) (zU Z Z Z (wAL Z Z Z) (zU Z Z Z (wAL Z Z Z) (zU Z Z Z (wAL Z Z Z) (zU Z Z Z (wAL Z Z Z) (zU Z Z Z (wAL Z Z Z) (zU Z Z Z (wAL Z Z Z) (zU Z Z Z (wAL Z Z Z) (zU Z Z Z (wAL Z Z Z) (zU Z Z Z (wAL Z Z Z) (oN Z (oR Z (zK Z Z Z) (zg ?_))))))))))))))))))))))))))))))))))))))))))))))
          cases hm258
          exact zI ⟨Z,⟨U217,f220,f221,f222,f223,f224,f225,Z,Z,f226,f227,fi216,Z,(zL _),hS250⟩⟩
         ·intro c257 hm260
          refine zD Z Z Z (wF Z c257) Z f223 (zD Z Z Z (wF Z c257) Z Z (rU Z (wF Z c257) (ZB Z Z hA255 Z zC zB (wAP h252)) ?_))
          have hg261:=wAu (xs:=x65) (wAP h252)
          refine ZA rfl rfl rfl (zH rfl rfl (zd c257.out)) (hS250.ldR (j:=3) rfl hA255 rfl rfl zE (wAN (sz:=1) (fun _=>rfl) _ _ 0 _ hg261 (by first | omega | rfl | simp) rfl)) rfl (zS rfl rfl rfl (zH rfl rfl (zd c257.out)) (fun _=>zk rfl f222 ZN rfl zB) (ZA rfl rfl rfl (zH rfl rfl (zd c257.out)) (hS250.ldB (j:=1) rfl rfl rfl zE (v:=jV x43) rfl) rfl (zS rfl rfl rfl (zH rfl rfl (zd c257.out)) (fun _=>ZQ rfl rfl rfl) (zS rfl rfl rfl rfl (fun _=>zP rfl (zd c257.out) rfl) (zD rfl rfl rfl rfl rfl rfl (ifc hm260 ?_ ?_))))))
          ·intro c262 hm263
           refine oT Z c262 (oT Z c262 (oT Z c262 (oT Z c262 (oT Z c262 (oT Z c262 (oR Z (zK Z (zr c262.out) Z) (oM Z Z (oN Z (oN Z (oN Z (oN Z (oN Z (oN Z (oN Z (oN Z (zU Z Z Z (wAL Z Z Z) (zU Z Z Z (wAL Z Z Z) (zU Z Z Z (wAL Z Z Z) (zU Z Z Z (wAL Z Z Z) (zU Z Z Z (wAL Z Z Z) (zU Z Z Z (wAL Z Z Z) (zU Z Z Z (wAL Z Z Z) (zU Z Z Z (wAL Z Z Z) (zU Z Z Z (wAL Z Z Z) (zU Z Z Z (wAL Z Z Z) (zU Z Z Z (wAL Z Z Z) (zU Z Z Z (wAL Z Z Z) (zU Z Z Z (wAL Z Z Z) (zU Z Z Z (wAL Z Z Z) (zU Z Z Z (wAL Z Z Z) (zU Z Z Z (wAL Z Z Z) (zU Z Z Z (wAL Z Z Z) (zU Z Z Z (wAL Z Z Z) (zU Z Z Z (wAL Z Z Z) (oN Z (oR Z (zK Z Z Z) (zg ?_)))))))))))))))))))))))))))))))))))))
           cases hm263
           exact zI ⟨Z,⟨U217,f220,f221,f222,f223,f224,f225,Z,Z,f226,f227,fi216,Z,(zL _),hS250⟩⟩
          ·intro c262 hm265
           refine zD Z Z Z (wF Z c262) Z f223 (zD Z Z Z (wF Z c262) Z Z (rU Z (wF Z c262) (ZB Z Z hA255 Z zC zB (wAP h252)) ?_))
           have hg266:=wAu (xs:=x65) (wAP h252)
           refine ZA rfl rfl rfl (zH rfl rfl (zd c262.out)) (hS250.ldR (j:=3) rfl hA255 rfl rfl zE (wAN (sz:=1) (fun _=>rfl) _ _ 0 _ hg266 (by first | omega | rfl | simp) rfl)) rfl (zD rfl rfl rfl (zH rfl rfl (zd c262.out)) rfl rfl (zS rfl rfl rfl (zH rfl rfl (zd c262.out)) (fun _=>ZQ rfl rfl rfl) (zS rfl rfl rfl rfl (fun _=>zP rfl (zd c262.out) rfl) (zD rfl rfl rfl rfl rfl rfl (ifc hm265 ?_ ?_)))))
           ·intro c267 hm268
            refine oT Z c267 (oT Z c267 (oT Z c267 (oT Z c267 (oT Z c267 (oT Z c267 (oT Z c267 (oT Z c267 (zU Z Z Z (wAL Z Z Z) (zU Z Z Z (wAL Z Z Z) (zU Z Z Z (wAL Z Z Z) (zU Z Z Z (wAL Z Z Z) (zU Z Z Z (wAL Z Z Z) (zU Z Z Z (wAL Z Z Z) (zU Z Z Z (wAL Z Z Z) (zU Z Z Z (wAL Z Z Z) (zU Z Z Z (wAL Z Z Z) (zU Z Z Z (wAL Z Z Z) (zU Z Z Z (wAL Z Z Z) (zU Z Z Z (wAL Z Z Z) (zU Z Z Z (wAL Z Z Z) (zU Z Z Z (wAL Z Z Z) (zU Z Z Z (wAL Z Z Z) (zU Z Z Z (wAL Z Z Z) (zU Z Z Z (wAL Z Z Z) (zU Z Z Z (wAL Z Z Z) (zU Z Z Z (wAL Z Z Z) (oT Z c267 (oR Z (zK Z (zr c267.out) Z) (zg ?_)))))))))))))))))))))))))))))
            cases hm268
            exact zI ⟨Z,⟨U217,f220,f221,f222,f223,f224,f225,Z,Z,f226,f227,fi216,Z,(zL _),hS250⟩⟩
           ·intro c267 hm270
            refine zD Z Z Z (wF Z c267) Z f223 (zD Z Z Z (wF Z c267) Z Z (rU Z (wF Z c267) (ZB Z Z hA255 Z zC zB (wAP h252)) ?_))
            have hg271:=wAu (xs:=x65) (wAP h252)
            refine ZA rfl rfl rfl (zH rfl rfl (zd c267.out)) (hS250.ldR (j:=3) rfl hA255 rfl rfl zE (wAN (sz:=1) (fun _=>rfl) _ _ 0 _ hg271 (by first | omega | rfl | simp) rfl)) rfl (zS rfl rfl rfl (zH rfl rfl (zd c267.out)) (fun _=>zk rfl f222 ZN rfl zB) (ZA rfl rfl rfl (zH rfl rfl (zd c267.out)) (hS250.ldB (j:=1) rfl rfl rfl zE (v:=jV x43) rfl) rfl (zS rfl rfl rfl (zH rfl rfl (zd c267.out)) (fun _=>zJ rfl rfl rfl) (zD rfl rfl rfl (zH rfl rfl (zd c267.out)) rfl rfl (ifc hm270 ?_ ?_)))))
            ·intro c272 hm273
             refine zD Z Z Z (wT Z c272) Z f223 (zD Z Z Z (wT Z c272) Z Z (rU Z (wT Z c272) (ZB Z Z hA255 Z zC zB (wAP h252)) ?_))
             have hg274:=wAu (xs:=x65) (wAP h252)
             refine ZA rfl rfl rfl (zH rfl rfl (zr c272.out)) (hS250.ldR (j:=3) rfl hA255 rfl rfl zE (wAN (sz:=1) (fun _=>rfl) _ _ 0 _ hg274 (by first | omega | rfl | simp) rfl)) rfl (zS rfl rfl rfl (zH rfl rfl (zr c272.out)) (fun _=>zk rfl f222 ZN rfl zB) (ZA rfl rfl rfl (zH rfl rfl (zr c272.out)) (hS250.ldB (j:=1) rfl rfl rfl zE (v:=jV (w64 (x33 + 1))) rfl) rfl (bnK hm273 fun x275 h276 hm277=>zS rfl rfl rfl (zH rfl rfl (zr c272.out)) (fun _=>Runs.rem rfl rfl rfl h276) (zS rfl rfl rfl (zH rfl rfl (zr c272.out)) (fun _=>ZO rfl rfl rfl) (zD rfl rfl rfl (zH rfl rfl (zr c272.out)) rfl rfl (ifc hm277 ?_ ?_))))))
             ·intro c278 hm279
              refine zD Z Z Z (zH Z Z (zd (fun h=>h c278.out))) Z Z (zD Z Z Z (zH Z Z (zd (fun h=>h c278.out))) Z f223 (zD Z Z Z (zH Z Z (zd (fun h=>h c278.out))) Z Z (zS Z Z Z (zH Z Z (zd (fun h=>h c278.out))) (fun _=>ZB Z Z hA255 Z zC zB (wAP h252)) ?_)))
              have hg280:=wAu (xs:=x65) (wAP h252)
              refine ZA rfl rfl rfl (zH rfl rfl (zd (fun h=>h c278.out))) (hS250.ldR (j:=3) rfl hA255 rfl rfl zE (wAN (sz:=1) (fun _=>rfl) _ _ 0 _ hg280 (by first | omega | rfl | simp) rfl)) rfl (zS rfl rfl rfl (zH rfl rfl (zd (fun h=>h c278.out))) (fun _=>zm rfl rfl rfl) (zS rfl rfl rfl (zH rfl rfl (zd (fun h=>h c278.out))) (fun _=>zk rfl f222 ZN rfl zB) (ZA rfl rfl rfl (zH rfl rfl (zd (fun h=>h c278.out))) (hS250.ldB (j:=1) rfl rfl rfl zE (v:=jV (w64 (x33 + 1))) rfl) rfl (zS rfl rfl rfl (zH rfl rfl (zd (fun h=>h c278.out))) (fun _=>Runs.geq rfl rfl rfl) (zS rfl rfl rfl (zH rfl rfl (zr c272.out)) (fun _=>zP rfl (zd (fun h=>h c278.out)) rfl) (zS rfl rfl rfl (zH rfl rfl (zd c267.out)) (fun _=>zK rfl (zr c272.out) rfl) (zS rfl rfl rfl rfl (fun _=>zP rfl (zd c267.out) rfl) (zg ?_))))))))
              obtain rfl:=nA hm279
              exact zI ⟨Z,⟨U217,f220,f221,f222,f223,f224,f225,Z,Z,f226,f227,fi216,Z,(zL _),hS250⟩⟩
             ·intro c278 hm282
              refine oT Z c278 (oT Z c278 (oT Z c278 (oT Z c278 (oT Z c278 (oT Z c278 (oT Z c278 (oT Z c278 (oT Z c278 (rU Z (wT Z c272) (zK Z (zr c278.out) Z) (rU Z (wF Z c267) (zK Z (zr c272.out) Z) (oR Z (zP Z (zd c267.out) Z) (zg ?_))))))))))))
              cases hm282
              exact zI ⟨Z,⟨U217,f220,f221,f222,f223,f224,f225,Z,Z,f226,f227,fi216,Z,(zL _),hS250⟩⟩
            ·intro c272 hm284
             refine oF Z c272 (oF Z c272 (oF Z c272 (oF Z c272 (oF Z c272 (oF Z c272 (oF Z c272 (oF Z c272 (oF Z c272 (zU Z Z Z (wAL Z Z Z) (zU Z Z Z (wAL Z Z Z) (zU Z Z Z (wAL Z Z Z) (zU Z Z Z (wAL Z Z Z) (zU Z Z Z (wAL Z Z Z) (zU Z Z Z (wAL Z Z Z) (zU Z Z Z (wAL Z Z Z) (zU Z Z Z (wAL Z Z Z) (zU Z Z Z (wAL Z Z Z) (oF Z c272 (rU Z (wF Z c267) (zP Z (zd c272.out) Z) (oR Z (zP Z (zd c267.out) Z) (zg ?_)))))))))))))))))))))
             cases hm284
             exact zI ⟨Z,⟨U217,f220,f221,f222,f223,f224,f225,Z,Z,f226,f227,fi216,Z,(zL _),hS250⟩⟩
        ·rintro σ286 W287 ⟨U288,f291,f292,f293,f294,f295,f296,f297,f298,f299,f300,f301,f302,le289,hS290⟩
         refine ifc hm249 ?_ ?_
         ·intro c303 hm304
          refine zz (f302.trans (congrArg nB c303.out)) (sR fL1 Z (oA Z Z (eN (zW (zM (zj (zM ?_)))))))
          have q:=wAW hm304
          obtain ⟨v305,hm306,e307⟩:=q
          obtain rfl:=wBi hm145 hX207 (hb214 v305 e307)
          refine zM (zj (zM ?_))
          have hE:=nA hm306;first | subst r | cases hE
          exact ⟨rfl,_,(zn rfl),U288,_,(hS290.pick [] _ (by decide) rfl),rfl,rfl⟩
         ·intro c303 hm308
          refine zh (f302.trans (congrArg nB (nD.2 c303.out))) (kN (sR (.fl 0 (.fl 1 (.fx 2 (.fl 3 (.nil)) .stop))) Z (oM Z f295 ?_)))
          have q:=hS290.freeze (k:=0) rfl
          obtain ⟨U309,le310,hC311,hS312⟩:=q
          replace hC311:=Cl.of hC311
          have hS313:sW w U U309 [.blk b54 24 B2,B0,B4] W287:=hS312
          replace hC311:Cl U309 b240 0 B6:=hC311
          refine oR Z (Runs.mkf Z zV (zA f298 zV)) ?_
          have h314:=hs113.le le123
          have h315:=h314.le le192
          have h316:=h315.le le218
          have h317:=h316.le le289
          have h318:=h317.le le310
          have hF319:FnOK Tryz.prog U309 (.func (.func 25) #[] #[.pointer (some ⟨b240,0,none⟩)]) wPQ wPR (fun x=>wAQ x x230):=⟨25,[],[.pointer (some ⟨b240,0,none⟩)],rfl,Tryz.call25,fun U1 w1 x y vs le hs ha hm=>by obtain rfl:=ha;exact wCG x x230 b240 w1 U1 hs (hC311.le le) hm⟩
          refine bnK hm308 fun x320 h321 hm322=>zN 0 Z Z Z Z (zO Z Z Tryz.call24 (zA Z (zA Z zV)) Z) hS313 (fun hs=>wAs x80 A90 c91 (fun x=>wAQ x x230) (.func (.func 25) #[] #[.pointer (some ⟨b240,0,none⟩)]) W287 U309 hs h318 hF319 h321) (.inr Z) ?_
          rintro U323 L324 v325 W326 le327 hS328 ⟨rfl,rfl⟩
          have hS329:sW w U U323 [.blk b54 24 B2,B0,B4] W326:=hS328
          refine OKS.ra rfl rfl rfl rfl rfl rfl (eN (zF (zF (ZJ ZH [3,3,3,3,3,3,3,1,3,3,3,1,3,3,3,3,3,3,3,1,3,3] fL22 (by kernel_rfl) ?_))))
          have hS330:=hS329.drew
          generalize hw_W331:({ W326 with drawn:=W326.drawn + 1 }:World)=W331 at hS330 ⊢
          refine oM Z Z (oR Z (zJ Z Z Z) (oM Z Z (ifc hm322 ?_ ?_)))
          ·intro c332 hm333
           refine oT Z c332 (oT Z c332 (oT Z c332 (oT Z c332 (oT Z c332 (oT Z c332 (oT Z c332 (oT Z c332 (oT Z c332 (oT Z c332 (oR Z (zK Z (zr c332.out) Z) (oM Z Z (oN Z (oN Z (oN Z (oN Z (oN Z (oN Z (oR Z (zK Z Z Z) (eN (zz Z (sR fL1 Z (oA Z Z (eN (zW (zM (zj (zM ?_)))))))))))))))))))))))))))
           have q:=wAW hm333
           obtain ⟨v334,hm335,e336⟩:=q
           obtain rfl:=wBi hm145 hX207 (hb214 v334 e336)
           refine zM (zj (zM ?_))
           have hE:=nA hm335;first | subst r | cases hE
           exact ⟨rfl,_,(zn rfl),U323,_,(hS330.pick [] _ (by decide) rfl),rfl,rfl⟩
          ·intro c332 hm337
           refine zD Z Z Z (wF Z c332) Z f295 (zD Z Z Z (wF Z c332) Z Z (bnK hm337 fun x338 h339 hm340=>?_))
           have h341:=h318.le le327
           have q:=h341.el (fun _=>rfl) (wAt h339)
           obtain ⟨b342,off343,hA344,hC345⟩:=q
           refine rU Z (wF Z c332) (zo Z Z hA344 Z zl ZG (wCx h339) (wDF h339)) (rU Z (wF Z c332) (zk Z Z ZL Z zB) (ZA Z Z Z (wF Z c332) (hS330.ldC (f:=1) hC345 (v:=jV x338.Time) Z Z zE Z) Z (zD Z Z Z (wF Z c332) Z f294 (zD Z Z Z (wF Z c332) Z f297 (bnK hm340 fun _ h346 hm347=>?_)))))
           obtain ⟨b348,hA349⟩:=hS330.rowSome (j:=2) rfl (by rw [wAF (f:=KL.encI) (sz:=1) (fun _=>rfl) x65];have hz:=wAP h346;omega)
           refine rU Z (wF Z c332) (ZB Z Z hA349 Z zC zB (wAP h346)) ?_
           have hg350:=wAu (xs:=x65) (wAP h346)
           refine ZA rfl rfl rfl (zH rfl rfl (zd c332.out)) (hS330.ldR (j:=2) rfl hA349 rfl rfl zE (wAN (sz:=1) (fun _=>rfl) _ _ 0 _ hg350 (by first | omega | rfl | simp) rfl)) rfl (zS rfl rfl rfl (zH rfl rfl (zd c332.out)) (fun _=>ZO rfl rfl rfl) (zS rfl rfl rfl rfl (fun _=>zP rfl (zd c332.out) rfl) (zD rfl rfl rfl rfl rfl rfl (ifc hm347 ?_ ?_))))
           ·intro c351 hm352
            refine zD Z Z Z (zH Z Z (zd (fun h=>h c351.out))) Z f295 (zD Z Z Z (zH Z Z (zd (fun h=>h c351.out))) Z Z ?_)
            have q:=h341.el (fun _=>rfl) (wAt h339)
            obtain ⟨b353,off354,hA355,hC356⟩:=q
            refine zS Z Z Z (zH Z Z (zd (fun h=>h c351.out))) (fun _=>zo Z Z hA355 Z zl ZG (wCx h339) (wDF h339)) (zS Z Z Z (zH Z Z (zd (fun h=>h c351.out))) (fun _=>zk Z Z ZL Z zB) (ZA Z Z Z (zH Z Z (zd (fun h=>h c351.out))) (hS330.ldC (f:=2) hC356 (v:=jV x338.Gate) Z Z zE Z) Z (zS Z Z Z (zH Z Z (zd (fun h=>h c351.out))) (fun _=>ZO Z Z Z) (oR Z (zP Z (zd (fun h=>h c351.out)) Z) (eN (ifc hm352 ?_ ?_))))))
            ·intro c357 hm358
             refine zh (zd (fun h=>h c357.out)) (kN (sR fL3 Z (oM Z f292 (oR Z (zw Z Z zQ) (oM Z Z (eN (zR ?_)))))))
             have q:=wCa hm358
             obtain ⟨r362,hX363⟩:=q
             have q:=wCn hX363
             obtain ⟨hle364,hf365⟩:=q
             replace hle364:=zG hle364
             refine CK.forN (fun k361 _ σ_ w_=>∃ (U_:PHeap),σ_ 183=jV (↑k361:Int)/\σ_ 3=jV p3/\σ_ 9=.slice A26 x16.length c27/\σ_ 10=.pointer (some ⟨b54,0,none⟩)/\σ_ 11=.slice A75 x65.length c76/\σ_ 13=.slice A90 x80.length c91/\σ_ 15=jV y149/\σ_ 18=jV (↑k205:Int)/\σ_ 19=.pointer (some ⟨b240,0,none⟩)/\σ_ 21=jV x320/\σ_ 93=.slice A26 x16.length c27/\σ_ 94=jV (↑x16.length:Int)/\σ_ 95=jV (↑k205:Int)/\σ_ 181=.slice A26 x16.length c27/\σ_ 182=jV (↑x16.length:Int)/\PHeap.Le U323 U_/\sW w U U_ [.blk b54 24 B2,B0,B4] w_) hf365 ?_ ?_ ?_
             ·exact ⟨U323,Z,f291,f292,f293,f294,f295,f296,f297,f298,Z,f299,f300,f301,Z,Z,(zL _),hS330⟩
             ·rintro k361 ⟨⟩ xx368 σ366 W367 hk371 ⟨U373,fi372,f376,f377,f378,f379,f380,f381,f382,f383,f384,f385,f386,f387,f388,f389,le374,hS375⟩ hx369 hb370
              try dsimp only at hx369
              have c390:Hid ((↑k361:Int) < (↑x16.length:Int)):=zG (wBk hk371)
              replace hk371:=zG hk371
              have hi391:Hid (w64 ((↑k361:Int) + 1)=(↑(k361 + 1):Int)):=zG (by have h1:=hle364.out;have h2:=c390.out;rw [wAg] <;> omega)
              refine sR fL1 Z (oR Z (zJ Z fi372 f389) (eN (zF (cT Z c390 (kN ?_)))))
              have q:=wCa hx369
              obtain ⟨r392,hx393⟩:=q
              refine CK.cut (fun σ_ w_=>r392=.inl ()/\∃ (U_:PHeap),σ_ 3=jV p3/\σ_ 9=.slice A26 x16.length c27/\σ_ 10=.pointer (some ⟨b54,0,none⟩)/\σ_ 11=.slice A75 x65.length c76/\σ_ 13=.slice A90 x80.length c91/\σ_ 15=jV y149/\σ_ 18=jV (↑k205:Int)/\σ_ 19=.pointer (some ⟨b240,0,none⟩)/\σ_ 21=jV x320/\σ_ 93=.slice A26 x16.length c27/\σ_ 94=jV (↑x16.length:Int)/\σ_ 95=jV (↑k205:Int)/\σ_ 181=.slice A26 x16.length c27/\σ_ 182=jV (↑x16.length:Int)/\σ_ 183=jV (↑k361:Int)/\PHeap.Le U373 U_/\sW w U U_ [.blk b54 24 B2,B0,B4] w_) ?_ ?_
              ·refine zR (sR (wLk (.fx 3 (.fl 4 (.fx 5 (.nil) .stop)) .stop)) Z (oM Z fi372 (bnK hx393 fun x394 h395 hm396=>?_)))
               have h397:=h234.le le289
               have h398:=h397.le le310
               have h399:=h398.le le327
               have h400:=h399.le le374
               have q:=h400.el (fun _=>rfl) (wAt h395)
               obtain ⟨b401,off402,hA403,hC404⟩:=q
               refine oR Z (ZB Z f388 hA403 fi372 zQ zf (wCE h395)) (oL Z (hS375.ldCA (f:=0) hC404 Z Z ZS zf (us:=[jV x394.Bib,jV x394.Time]) Z Z) (ZT (cs:=B3) Z Z Z Z Z ZM Z hS375 ?_))
               intro W405 b406 hS407
               refine oA Z Z ?_
               let B7:List Value:=[jV x394.Bib,jV x394.Time]
               refine OKS.st (j:=0) (vs:=B7) Z Z Z Z hS407 Z Z Z Z zf (zX Z) Z Z Z ?_
               intro W409 hS410
               have hS411:sW w U U373 [.blk b406 28 B7,.blk b54 24 B2,B0,B4] W409:=hS410
               refine eN (sR (.fl 0 (.fl 1 (.fx 2 (.fl 3 (.nil)) .stop))) Z (oM Z f380 ?_))
               have q:=hS411.freeze (k:=0) rfl
               obtain ⟨U412,le413,hC414,hS415⟩:=q
               replace hC414:=Cl.of hC414
               have hS416:sW w U U412 [.blk b54 24 B2,B0,B4] W409:=hS415
               replace hC414:Cl U412 b406 0 B7:=hC414
               refine oR Z (Runs.mkf Z zV (zA Z zV)) ?_
               have h417:=h341.le le374
               have h418:=h417.le le413
               have hF419:FnOK Tryz.prog U412 (.func (.func 26) #[] #[.pointer (some ⟨b406,0,none⟩)]) wPQ wPR (fun x=>wAR x x394):=⟨26,[],[.pointer (some ⟨b406,0,none⟩)],rfl,Tryz.call26,fun U1 w1 x y vs le hs ha hm=>by obtain rfl:=ha;exact wCH x x394 b406 w1 U1 hs (hC414.le le) hm⟩
               refine bnK hm396 fun x420 h421 hm422=>zN 0 Z Z Z Z (zO Z Z Tryz.call24 (zA Z (zA Z zV)) Z) hS416 (fun hs=>wAs x80 A90 c91 (fun x=>wAR x x394) (.func (.func 26) #[] #[.pointer (some ⟨b406,0,none⟩)]) W409 U412 hs h418 hF419 h421) (.inr Z) ?_
               rintro U423 L424 v425 W426 le427 hS428 ⟨rfl,rfl⟩
               have hS429:sW w U U423 [.blk b54 24 B2,B0,B4] W426:=hS428
               refine oA Z Z (eN (zF (CK.fresh fun σ430 hσ431=>?_)))
               have f432:σ430 3=jV p3:=(hσ431 3).trans f376
               have f433:σ430 9=.slice A26 x16.length c27:=(hσ431 9).trans f377
               have f434:σ430 10=.pointer (some ⟨b54,0,none⟩):=(hσ431 10).trans f378
               have f435:σ430 11=.slice A75 x65.length c76:=(hσ431 11).trans f379
               have f436:σ430 13=.slice A90 x80.length c91:=(hσ431 13).trans f380
               have f437:σ430 15=jV y149:=(hσ431 15).trans f381
               have f438:σ430 18=jV (↑k205:Int):=(hσ431 18).trans f382
               have f439:σ430 19=.pointer (some ⟨b240,0,none⟩):=(hσ431 19).trans f383
               have f440:σ430 21=jV x320:=(hσ431 21).trans f384
               have f441:σ430 22=jV (↑k361:Int):=(hσ431 22).trans rfl
               have f442:σ430 23=.pointer (some ⟨b406,0,none⟩):=(hσ431 23).trans rfl
               have f443:σ430 24=jV x420:=(hσ431 24).trans rfl
               have f444:σ430 93=.slice A26 x16.length c27:=(hσ431 93).trans f385
               have f445:σ430 94=jV (↑x16.length:Int):=(hσ431 94).trans f386
               have f446:σ430 95=jV (↑k205:Int):=(hσ431 95).trans f387
               have f447:σ430 181=.slice A26 x16.length c27:=(hσ431 181).trans f388
               have f448:σ430 182=jV (↑x16.length:Int):=(hσ431 182).trans f389
               have f449:σ430 183=jV (↑k361:Int):=(hσ431 183).trans fi372
               clear hσ431
               refine ZJ ZH [3,1,3,1,3,3,3,3,3,1,3,3,3,1,3,3,3,3,3,3,3,3,3,1,3,1,3,3,3,3,3,3,3,3,3,3,3,3] fL38 (by kernel_rfl) ?_
               have hS450:=hS429.drew
               generalize hw_W451:({ W426 with drawn:=W426.drawn + 1 }:World)=W451 at hS450 ⊢
               refine oR Z (zk Z f439 ze Z zB) ?_
               have h452:=hC311.le le327
               have h453:=h452.le le374
               have h454:=h453.le le413
               have h455:=h454.le le427
               refine oL Z (hS450.ldC (f:=1) h455 (v:=jV x230.Time) Z Z zE Z) (oR Z (zk Z f442 ze Z zB) ?_)
               have h456:=hC414.le le427
               refine oL Z (hS450.ldC (f:=1) h456 (v:=jV x394.Time) Z Z zE Z) (oR Z (zJ Z Z Z) (oM Z Z (ifc hm422 ?_ ?_)))
               ·intro c457 hm458
                refine zD Z Z Z (wT Z c457) Z f435 (zD Z Z Z (wT Z c457) Z f438 (rU Z (wT Z c457) (ZB Z Z hA349 Z zC zB (wAP h346)) ?_))
                have hg459:=wAu (xs:=x65) (wAP h346)
                refine ZA rfl rfl rfl (zH rfl rfl (zr c457.out)) (hS450.ldR (j:=2) rfl hA349 rfl rfl zE (wAN (sz:=1) (fun _=>rfl) _ _ 0 _ hg459 (by first | omega | rfl | simp) rfl)) rfl (zD rfl rfl rfl (zH rfl rfl (zr c457.out)) rfl f435 (zD rfl rfl rfl (zH rfl rfl (zr c457.out)) rfl f441 (bnK hm458 fun _ h460 hm461=>zS rfl rfl rfl (zH rfl rfl (zr c457.out)) (fun _=>ZB rfl rfl hA349 rfl zC zB (wAP h460)) ?_)))
                have hg462:=wAu (xs:=x65) (wAP h460)
                refine ZA rfl rfl rfl (zH rfl rfl (zr c457.out)) (hS450.ldR (j:=2) rfl hA349 rfl rfl zE (wAN (sz:=1) (fun _=>rfl) _ _ 0 _ hg462 (by first | omega | rfl | simp) rfl)) rfl (zS rfl rfl rfl (zH rfl rfl (zr c457.out)) (fun _=>ZQ rfl rfl rfl) (zD rfl rfl rfl (zH rfl rfl (zr c457.out)) rfl rfl (ifc hm461 ?_ ?_)))
                ·intro c463 hm464
                 refine oT Z c463 (oT Z c463 (oT Z c463 (rU Z (wT Z c457) (zK Z (zr c463.out) Z) (oR Z (zK Z (zr c457.out) Z) (oM Z Z (oN Z (oN Z (oN Z (oN Z (oN Z (oN Z (zU Z Z Z (wAL Z Z Z) (zU Z Z Z (wAL Z Z Z) (zU Z Z Z (wAL Z Z Z) (oN Z (oN Z (zU Z Z Z (wAL Z Z Z) (zU Z Z Z (wAL Z Z Z) (zU Z Z Z (wAL Z Z Z) (oN Z (oR Z (zK Z Z Z) (eN (zz Z (sR fL1 Z (oA Z Z (eN (zW (zj ?_))))))))))))))))))))))))))))
                 have q:=wAW hm464
                 obtain ⟨v465,hm466,e467⟩:=q
                 obtain rfl:=wBi hx369 hx393 e467
                 refine zM ?_
                 have q:=wAW hm466
                 obtain ⟨v468,hm469,e470⟩:=q
                 obtain rfl:=wBi hm358 hX363 (hb370 v468 e470)
                 refine zM (zj (zj (zM ?_)))
                 have q:=wAW hm469
                 obtain ⟨v471,hm472,e473⟩:=q
                 obtain rfl:=wBi hm145 hX207 (hb214 v471 e473)
                 refine zM (zj (zM ?_))
                 have hE:=nA hm472;first | subst r | cases hE
                 exact ⟨rfl,_,(zn rfl),U423,_,(hS450.pick [] _ (by decide) rfl),rfl,rfl⟩
                ·intro c463 hm474
                 refine zD Z Z Z (wF Z c463) Z f440 (zD Z Z Z (wF Z c463) Z f443 (rU Z (wF Z c463) (ZQ Z Z Z) (rU Z (wT Z c457) (zP Z (zd c463.out) Z) (oR Z (zK Z (zr c457.out) Z) (oM Z Z (ifc hm474 ?_ ?_))))))
                 ·intro c475 hm476
                  refine oT Z c475 (oT Z c475 (oT Z c475 (oT Z c475 (oT Z c475 (oT Z c475 (zU Z Z Z (wAL Z Z Z) (zU Z Z Z (wAL Z Z Z) (zU Z Z Z (wAL Z Z Z) (oT Z c475 (oT Z c475 (zU Z Z Z (wAL Z Z Z) (zU Z Z Z (wAL Z Z Z) (zU Z Z Z (wAL Z Z Z) (oT Z c475 (oR Z (zK Z (zr c475.out) Z) (eN (zz Z (sR fL1 Z (oA Z Z (eN (zW (zj ?_))))))))))))))))))))))
                  have q:=wAW hm476
                  obtain ⟨v477,hm478,e479⟩:=q
                  obtain rfl:=wBi hx369 hx393 e479
                  refine zM ?_
                  have q:=wAW hm478
                  obtain ⟨v480,hm481,e482⟩:=q
                  obtain rfl:=wBi hm358 hX363 (hb370 v480 e482)
                  refine zM (zj (zj (zM ?_)))
                  have q:=wAW hm481
                  obtain ⟨v483,hm484,e485⟩:=q
                  obtain rfl:=wBi hm145 hX207 (hb214 v483 e485)
                  refine zM (zj (zM ?_))
                  have hE:=nA hm484;first | subst r | cases hE
                  exact ⟨rfl,_,(zn rfl),U423,_,(hS450.pick [] _ (by decide) rfl),rfl,rfl⟩
                 ·intro c475 hm486
                  refine rU Z (wF Z c475) (zk Z f439 ze Z zB) (ZA Z Z Z (wF Z c475) (hS450.ldC (f:=1) h455 (v:=jV x230.Time) Z Z zE Z) Z (rU Z (wF Z c475) (zk Z f442 ze Z zB) (ZA Z Z Z (wF Z c475) (hS450.ldC (f:=1) h456 (v:=jV x394.Time) Z Z zE Z) Z (rU Z (wF Z c475) (Runs.eql Z Z Z) (zD Z Z Z (wF Z c475) Z Z (ifc hm486 ?_ ?_))))))
                  ·intro c487 hm488
                   refine zD Z Z Z (wT Z c487) Z f438 (zD Z Z Z (wT Z c487) Z f441 (rU Z (wT Z c487) (zJ Z Z Z) (rU Z (wF Z c475) (zK Z (zr c487.out) Z) (zD Z Z Z (wF Z c475) Z Z (ifc hm488 ?_ ?_)))))
                   ·intro c489 hm490
                    exact zD Z Z Z (wT Z c489) Z f440 (zD Z Z Z (wT Z c489) Z f443 (rU Z (wT Z c489) (ZQ Z Z Z) (rU Z (wF Z c475) (zK Z (zr c489.out) Z) (oR Z (zP Z (zd c475.out) Z) (eN (cF Z c475 (zp (zi (zI ⟨Z,(nA hm490).symm,⟨U423,f432,f433,f434,f435,f436,f437,f438,f439,f440,f444,f445,f446,f447,f448,f449,(le413.trans le427),hS450⟩⟩)))))))))
                   ·intro c489 hm491
                    exact oF Z c489 (oF Z c489 (oF Z c489 (rU Z (wF Z c475) (zP Z (zd c489.out) Z) (oR Z (zP Z (zd c475.out) Z) (eN (zh Z (zp (zi (zI ⟨Z,(nA hm491).symm,⟨U423,f432,f433,f434,f435,f436,f437,f438,f439,f440,f444,f445,f446,f447,f448,f449,(le413.trans le427),hS450⟩⟩)))))))))
                  ·intro c487 hm492
                   exact oF Z c487 (oF Z c487 (oF Z c487 (rU Z (wF Z c475) (zP Z (zd c487.out) Z) (zD Z Z Z (wF Z c475) Z Z (oN Z (oN Z (oN Z (rU Z (wF Z c475) (zP Z Z Z) (oR Z (zP Z (zd c475.out) Z) (eN (zh Z (zp (zi (zI ⟨Z,(nA hm492).symm,⟨U423,f432,f433,f434,f435,f436,f437,f438,f439,f440,f444,f445,f446,f447,f448,f449,(le413.trans le427),hS450⟩⟩))))))))))))))
               ·intro c457 hm493
                refine oF Z c457 (oF Z c457 (oF Z c457 (oF Z c457 (oF Z c457 (oF Z c457 (oF Z c457 (oF Z c457 (oF Z c457 (oF Z c457 (zU Z Z Z (wAL Z Z Z) (zU Z Z Z (wAL Z Z Z) (zU Z Z Z (wAL Z Z Z) (oF Z c457 (oR Z (zP Z (zd c457.out) Z) (oM Z Z (zS Z Z Z (zH Z Z Z) (fun _=>zk Z f439 ze Z zB) (ZA Z Z Z (zH Z Z Z) (hS450.ldC (f:=1) h455 (v:=jV x230.Time) Z Z zE Z) Z (zS Z Z Z (zH Z Z Z) (fun _=>zk Z f442 ze Z zB) (ZA Z Z Z (zH Z Z Z) (hS450.ldC (f:=1) h456 (v:=jV x394.Time) Z Z zE Z) Z (zS Z Z Z (zH Z Z Z) (fun _=>Runs.eql Z Z Z) (zD Z Z Z (zH Z Z Z) Z Z (ifc hm493 ?_ ?_))))))))))))))))))))))
                ·intro c494 hm495
                 refine zD Z Z Z (wT Z c494) Z f438 (zD Z Z Z (wT Z c494) Z f441 (rU Z (wT Z c494) (zJ Z Z Z) (zS Z Z Z (zH Z Z Z) (fun _=>zK Z (zr c494.out) Z) (zD Z Z Z (zH Z Z Z) Z Z (ifc hm495 ?_ ?_)))))
                 ·intro c496 hm497
                  refine zD Z Z Z (wT Z c496) Z f440 (zD Z Z Z (wT Z c496) Z f443 (rU Z (wT Z c496) (ZQ Z Z Z) (zS Z Z Z (zH Z Z Z) (fun _=>zK Z (zr c496.out) Z) (oR Z (zP Z Z Z) (eN (ifc hm497 ?_ ?_))))))
                  ·intro c498 hm499
                   refine cT Z c498 (sR fL1 Z (oA Z Z (eN (zW (zj ?_)))))
                   have q:=wAW hm499
                   obtain ⟨v500,hm501,e502⟩:=q
                   obtain rfl:=wBi hx369 hx393 e502
                   refine zM ?_
                   have q:=wAW hm501
                   obtain ⟨v503,hm504,e505⟩:=q
                   obtain rfl:=wBi hm358 hX363 (hb370 v503 e505)
                   refine zM (zj (zj (zM ?_)))
                   have q:=wAW hm504
                   obtain ⟨v506,hm507,e508⟩:=q
                   obtain rfl:=wBi hm145 hX207 (hb214 v506 e508)
                   refine zM (zj (zM ?_))
                   have hE:=nA hm507;first | subst r | cases hE
                   exact ⟨rfl,_,(zn rfl),U423,_,(hS450.pick [] _ (by decide) rfl),rfl,rfl⟩
                  ·intro c498 hm509
                   exact cF Z c498 (zp (zi (zI ⟨Z,(nA hm509).symm,⟨U423,f432,f433,f434,f435,f436,f437,f438,f439,f440,f444,f445,f446,f447,f448,f449,(le413.trans le427),hS450⟩⟩)))
                 ·intro c496 hm510
                  exact oF Z c496 (oF Z c496 (oF Z c496 (zS Z Z Z (zH Z Z Z) (fun _=>zP Z (zd c496.out) Z) (oR Z (zP Z Z Z) (eN (zh Z (zp (zi (zI ⟨Z,(nA hm510).symm,⟨U423,f432,f433,f434,f435,f436,f437,f438,f439,f440,f444,f445,f446,f447,f448,f449,(le413.trans le427),hS450⟩⟩)))))))))
                ·intro c494 hm511
                 exact oF Z c494 (oF Z c494 (oF Z c494 (zS Z Z Z (zH Z Z Z) (fun _=>zP Z (zd c494.out) Z) (zD Z Z Z (zH Z Z Z) Z Z (oN Z (oN Z (oN Z (zS Z Z Z (zH Z Z Z) (fun _=>zP Z Z Z) (oR Z (zP Z Z Z) (eN (zh Z (zp (zi (zI ⟨Z,(nA hm511).symm,⟨U423,f432,f433,f434,f435,f436,f437,f438,f439,f440,f444,f445,f446,f447,f448,f449,(le413.trans le427),hS450⟩⟩))))))))))))))
              ·rintro σ512 W513 ⟨er514,⟨U515,f518,f519,f520,f521,f522,f523,f524,f525,f526,f527,f528,f529,f530,f531,f532,le516,hS517⟩⟩
               have hm533:=wDT hx369 hx393 er514
               try dsimp only at hm533
               refine rR fL2 Z (oR Z (ZP (zY Z f532 Z) (congrArg (jV) hi391.out)) (oM Z Z (zg ?_)))
               obtain rfl:=nA hm533
               exact zI ⟨Z,_,Z,⟨U515,Z,f518,f519,f520,f521,f522,f523,f524,f525,f526,f527,f528,f529,f530,f531,(le374.trans le516),hS517⟩⟩
             ·rintro ⟨⟩ σ534 W535 ⟨U538,fi537,f541,f542,f543,f544,f545,f546,f547,f548,f549,f550,f551,f552,f553,f554,le539,hS540⟩ hb536
              have hm555:=wDT hm358 hX363 hb536
              try dsimp only at hm555
              have c556:Hid (¬ ((↑(((↑x16.length:Int):Int) - 0).toNat:Int) < (↑x16.length:Int))):=zG (wBS)
              refine sR fL1 Z (oR Z (zJ Z fi537 f554) (eN (zF (cF Z c556 (ZC (zZ (zZ (zt (zi (zI (rR fL2 Z (oR Z (ZP (zY Z f552 Z) (congrArg (jV) hi229.out)) (oM Z Z (zg ?_))))))))))))))
              obtain rfl:=nA hm555
              exact zI ⟨Z,_,Z,⟨U538,Z,f541,f542,f543,f544,f545,f546,f550,f551,((((le218.trans le289).trans le310).trans le327).trans le539),hS540⟩⟩
            ·intro c357 hm557
             refine cT Z c357 (sR fL1 Z (oA Z Z (eN (zW (zM (zj (zM ?_)))))))
             have q:=wAW hm557
             obtain ⟨v558,hm559,e560⟩:=q
             obtain rfl:=wBi hm145 hX207 (hb214 v558 e560)
             refine zM (zj (zM ?_))
             have hE:=nA hm559;first | subst r | cases hE
             exact ⟨rfl,_,(zn rfl),U323,_,(hS330.pick [] _ (by decide) rfl),rfl,rfl⟩
           ·intro c351 hm561
            refine oT Z c351 (oT Z c351 (oT Z c351 (oT Z c351 (oT Z c351 (oT Z c351 (oR Z (zK Z (zr c351.out) Z) (eN (zz Z (sR fL1 Z (oA Z Z (eN (zW (zM (zj (zM ?_)))))))))))))))
            have q:=wAW hm561
            obtain ⟨v562,hm563,e564⟩:=q
            obtain rfl:=wBi hm145 hX207 (hb214 v562 e564)
            refine zM (zj (zM ?_))
            have hE:=nA hm563;first | subst r | cases hE
            exact ⟨rfl,_,(zn rfl),U323,_,(hS330.pick [] _ (by decide) rfl),rfl,rfl⟩
       ·rintro ⟨⟩ σ565 W566 ⟨U569,fi568,f572,f573,f574,f575,f576,f577,f578,f579,le570,hS571⟩ hb567
        have hm580:=wDT hm145 hX207 hb567
        try dsimp only at hm580
        have c581:Hid (¬ ((↑(((↑x16.length:Int):Int) - 0).toNat:Int) < (↑x16.length:Int))):=zG (wBS)
        refine sR fL1 Z (oR Z (zJ Z fi568 f579) (eN (zF (cF Z c581 (ZC (zZ (zZ (zt (zI (sR (.fl 0 (.fx 1 (.fl 2 (.nil)) .stop)) Z (oM Z f572 (bnK hm580 fun x582 h583 hm584=>zN 0 Z Z Z Z (zO Z Z Tryz.call22 (zA Z (zA Z zV)) Z) hS571 (fun hs=>wBu p3 9999 W566 U569 hs h583) (.inr Z) ?_))))))))))))
        rintro U585 L586 v587 W588 le589 hS590 ⟨rfl,rfl⟩
        have hS591:sW w U U585 [.blk b54 24 B2,B0,B4] W588:=hS590
        refine oA Z Z (eN (sR (.fl 0 (.fx 1 (.fl 2 (.nil)) .stop)) Z (oM Z f573 ?_)))
        have h592:=h133.le le192
        have h593:=h592.le le570
        have h594:=h593.le le589
        refine bnK hm584 fun x595 h596 hm597=>zN 0 Z Z Z Z (zO Z Z Tryz.call12 (zA Z zV) Z) hS591 (fun hs=>wBx x16 A26 c27 W588 U585 hs h594 h596) (.inr Z) ?_
        rintro U598 L599 v600 W601 le602 hS603 ⟨A604,c605,rfl,rfl⟩
        have hS607:sW w U U598 [.row A604 c605 28 2 (hH wAH x595),.blk b54 24 B2,B0,B4] W601:=hS603
        refine oA Z Z (eN (zF (sR fL3 Z (oM Z Z (oR Z (zw Z Z zQ) (oM Z Z (eN (zR (bnK hm597 fun y619 hf616 hm615=>?_)))))))))
        have q:=wCB hf616
        obtain ⟨hle617,hf618⟩:=q
        replace hle617:=zG hle617
        refine CK.forN' (fun k614 l613 σ_ w_=>∃ (U_:PHeap),σ_ 237=jV (↑k614:Int)/\σ_ 9=.slice A26 x16.length c27/\σ_ 10=.pointer (some ⟨b54,0,none⟩)/\σ_ 13=.slice A90 x80.length c91/\σ_ 15=jV y149/\σ_ 25=jV x582/\σ_ 26=.slice A604 l613.length c605/\σ_ 236=jV (↑x595.length:Int)/\PHeap.Le U598 U_/\sW w U U_ [.blk b54 24 B2,B0,.row A604 c605 28 2 (hH wAH l613)] w_/\l613.length=x595.length) hf618 ?_ ?_ ?_
        ·exact ⟨U598,rfl,f573,f574,f576,f577,rfl,rfl,rfl,(zL _),(hS607.pick [1,2,0] _ (by decide) rfl),rfl⟩
        ·rintro k614 l613 xx622 σ620 W621 hk625 ⟨U627,fi626,f630,f631,f632,f633,f634,f635,f636,le628,hS629,h637⟩ hx623
         have c638:Hid ((↑k614:Int) < (↑x595.length:Int)):=zG (wBk hk625)
         replace hk625:=zG hk625
         have hi639:Hid (w64 ((↑k614:Int) + 1)=(↑(k614 + 1):Int)):=zG (by have h1:=hle617.out;have h2:=c638.out;rw [wAg] <;> omega)
         refine sR fL1 Z (oR Z (zJ Z fi626 f636) (eN (zF (cT Z c638 (kN (zF (zR (sR fL2 Z (oM Z fi626 (oA Z Z (eN (rR (wLl (.fx 9 (.nil) .stop)) Z (oM Z f635 (oM Z Z (bnK hx623 fun _ h640 hm641=>?_)))))))))))))))
         obtain ⟨b642,hA643⟩:=hS629.rowSome (j:=2) rfl (by rw [wAF (f:=wAH) (sz:=2) (fun _=>rfl) l613];have hz:=wAP h640;omega)
         refine oR Z (ZB Z Z hA643 Z zQ zf (wAP h640)) (oR Z (zk Z Z ze Z zB) ?_)
         have hg644:=wAu (xs:=l613) (wAP h640)
         refine ZA rfl rfl rfl rfl (hS629.ldR (j:=2) rfl hA643 rfl rfl zE (wAN (sz:=2) (fun _=>rfl) _ _ 1 _ hg644 (by first | omega | rfl | simp) rfl)) rfl (zD rfl rfl rfl rfl rfl f634 (zS rfl rfl rfl rfl (fun _=>zY rfl rfl rfl) (zS rfl rfl rfl rfl (fun _=>ZB rfl rfl hA643 rfl zQ zf (wAP h640)) (zS rfl rfl rfl rfl (fun _=>zk rfl rfl ze rfl zB) ?_))))
         have hg645:=wAu (xs:=l613) (wAP h640)
         refine OKS.stR (j:=2) (vs:=[jV (w64 (((gd l613 k614).Time) + x582))]) (cs':=hH wAH (nE l613 k614 (⟨(gd l613 k614).Bib,w64 (((gd l613 k614).Time) + x582)⟩:wAA))) rfl rfl rfl rfl hS629 rfl hA643 rfl rfl rfl zB (by rw [wAF (f:=wAH) (sz:=2) (fun _=>rfl)];have hz:=wAP h640;show _ + 1 <= _;first | omega | (simp only [nK];omega) | (simp only [nI,nG,nH];omega)) rfl (wCo (sz:=2) (fo:=1) (fun _=>rfl) _ _ _ _ hg645 (by first | omega | (simp only [nK];omega) | (simp only [nI,nG,nH];omega)) (zX rfl) rfl) rfl ?_
         intro W646 hS647
         have hS648:sW w U U627 [.blk b54 24 B2,B0,.row A604 c605 28 2 (hH wAH (nE l613 k614 (⟨(gd l613 k614).Bib,w64 (((gd l613 k614).Time) + x582)⟩:wAA)))] W646:=hS647
         refine zg (zi (zI (rR fL2 Z (oR Z (ZP (zY Z fi626 Z) (congrArg (jV) hi639.out)) (oM Z Z (zg ?_))))))
         cases hm641
         exact zI ⟨rfl,⟨U627,rfl,f630,f631,f632,f633,f634,(nL (b:=(.slice A604 l613.length c605:Value)) (c:=(.slice A604 ((nE l613 k614 (⟨(gd l613 k614).Bib,w64 (((gd l613 k614).Time) + x582)⟩:wAA)).length) c605:Value)) f635 (by simp only [nJ])),f636,le628,hS648,(nJ.trans h637)⟩⟩
        ·rintro σ650 W651 ⟨U655,fi653,f658,f659,f660,f661,f662,f663,f664,le656,hS657,h665⟩
         have c666:Hid (¬ ((↑(((↑x595.length:Int):Int) - 0).toNat:Int) < (↑x595.length:Int))):=zG (wBS)
         refine sR fL1 Z (oR Z (zJ Z fi653 f664) (eN (zF (cF Z c666 (ZC (zZ (zZ (zt (zI (sR (.fl 0 (.fl 1 (.fx 2 (wMb (.nil)) .stop))) Z (oM Z f663 (oL Z (hS657.ldBA (j:=0) Z Z f659 Tryz.isAgg24 Tryz.sizeOf24 (vs:=B2) Z Z) ?_))))))))))))
         have q:=hS657.freezeR (k:=2) (n:=y619.length) rfl (wAF (f:=wAH) (sz:=2) (fun _=>rfl) y619) (by decide)
         obtain ⟨U667,le668,hs669,hS670⟩:=q
         have hS671:sW w U U667 [.blk b54 24 B2,B0] W651:=hS670
         have q:=bnd hm615
         obtain ⟨⟨x672,x673⟩,h674,hm675⟩:=q
         try dsimp only at hm675
         refine zN 0 Z Z Z Z (zO Z Z Tryz.call16 (zA Z (zA Z zV)) Z) hS671 (fun hs=>wDM y619 A604 c605 (⟨w64 (x33 + 1),x43⟩:wAC) W651 U667 hs hs669 h674) (.inr Z) ?_
         rintro U676 L677 v678 W679 le680 hS681 ⟨A682,c683,rfl,rfl⟩
         let B8:Res:=.row A682 c683 54 3 (hH wAM x672)
         have hS685:sW w U U676 [B8,.blk b54 24 B2,B0] W679:=hS681
         refine oM Z Z (oR Z (Runs.ext Z Z (v:=.slice A682 x672.length c683) Z) (oR Z (Runs.ext Z Z (v:=jV x673) Z) (oA Z Z (oA Z Z (eN (sR (.fl 0 (.fl 1 (.fx 2 (wMb (.nil)) .stop))) Z (oM Z f658 (oR Z (Runs.build (pv:=[(0,jV 1),(1,jV 360000)]) (z:=B3) (cs:=[jV 1,jV 360000]) Z (wAi Z (wAi Z wBO)) Tryz.zeroValue24 wIr Z Z) ?_))))))))
         have h686:=h594.le le602
         have h687:=h686.le le656
         have h688:=h687.le le668
         have h689:=h688.le le680
         have q:=bnd hm675
         obtain ⟨⟨x690,x691⟩,h692,hm693⟩:=q
         try dsimp only at hm693
         refine zN 0 Z Z Z Z (zO Z Z Tryz.call13 (zA Z (zA Z zV)) Z) hS685 (fun hs=>wCJ x16 A26 c27 (⟨1,360000⟩:wAC) W679 U676 hs h689 h692) (.inr Z) ?_
         rintro U694 L695 v696 W697 le698 hS699 ⟨A700,c701,rfl,rfl⟩
         let B9:Res:=.row A700 c701 3 1 (hH KL.encI x690)
         have hS703:sW w U U694 [B9,B8,.blk b54 24 B2,B0] W697:=hS699
         refine oM Z Z (oR Z (Runs.ext Z Z (v:=.slice A700 x690.length c701) Z) (oR Z (Runs.ext Z Z (v:=jV x691) Z) (oA Z Z (oA Z Z (eN (zF (sR (wLl (.fx 9 (wOO (.nil)) .stop)) Z (oM Z Z (oR Z (ZO Z Z Z) (oM Z Z (ifc hm693 ?_ ?_)))))))))))
         ·intro c704 hm705
          refine zD Z Z Z (zH Z Z (zd (fun h=>h c704.out))) Z Z (zS Z Z Z (zH Z Z (zd (fun h=>h c704.out))) (fun _=>ZO Z Z Z) (oR Z (zP Z (zd (fun h=>h c704.out)) Z) (oM Z Z (ifc hm705 ?_ ?_))))
          ·intro c706 hm707
           refine zD Z Z Z (zH Z Z (zd (fun h=>h c706.out))) Z f660 (zD Z Z Z (zH Z Z (zd (fun h=>h c706.out))) Z Z ?_)
           have q:=hS703.freezeR (k:=1) (n:=x672.length) rfl (wAF (f:=wAM) (sz:=3) (fun _=>rfl) x672) (by decide)
           obtain ⟨U708,le709,hs710,hS711⟩:=q
           have hS712:sW w U U708 [B9,.blk b54 24 B2,B0] W697:=hS711
           have h713:=hs113.le le123
           have h714:=h713.le le192
           have h715:=h714.le le570
           have h716:=h715.le le589
           have h717:=h716.le le602
           have h718:=h717.le le656
           have h719:=h718.le le668
           have h720:=h719.le le680
           have h721:=h720.le le698
           have h722:=h721.le le709
           refine bnK hm707 fun x723 h724 hm725=>zN 0 Z Z Z (zH Z Z (zd (fun h=>h c706.out))) (zO Z Z Tryz.call27 (zA Z (zA Z zV)) Z) hS712 (fun hs=>wCI x80 A90 c91 x672 A682 c683 W697 U708 hs h722 hs710 h724) (.inr Z) ?_
           rintro U726 L727 v728 W729 le730 hS731 ⟨rfl,rfl⟩
           have hS732:sW w U U726 [B9,.blk b54 24 B2,B0] W729:=hS731
           refine zS Z Z Z (zH Z Z (zd (fun h=>h c706.out))) (fun _=>Runs.notT Z Z) (oR Z (zP Z (zd (fun h=>h c706.out)) Z) (oM Z Z (ifc hm725 ?_ ?_)))
           ·intro c733 hm734
            refine zD Z Z Z (zH Z Z (nC c733.out)) Z Z (zS Z Z Z (zH Z Z (nC c733.out)) (fun _=>zw Z Z zC) (zD Z Z Z (zH Z Z (nC c733.out)) Z f658 (zS Z Z Z (zH Z Z (nC c733.out)) (fun _=>zw Z Z zQ) (zS Z Z Z (zH Z Z (nC c733.out)) (fun _=>ZO Z Z Z) (oR Z (zP Z (nC c733.out) Z) (eN (ifc hm734 ?_ ?_)))))))
            ·intro c735 hm736
             refine zh (zd (fun h=>h c735.out)) (kN (zF (sR fL3 Z (oM Z f658 (oR Z (zw Z Z zQ) (oM Z Z (eN (zR ?_))))))))
             have q:=wCa hm736
             obtain ⟨r740,hX741⟩:=q
             have q:=wCn hX741
             obtain ⟨hle742,hf743⟩:=q
             replace hle742:=zG hle742
             refine CK.forN (fun k739 _ σ_ w_=>∃ (U_:PHeap),σ_ 283=jV (↑k739:Int)/\σ_ 15=jV y149/\σ_ 29=.slice A700 x690.length c701/\σ_ 281=.slice A26 x16.length c27/\σ_ 282=jV (↑x16.length:Int)/\PHeap.Le U726 U_/\sW w U U_ [.blk b54 24 B2,B0,B9] w_) hf743 ?_ ?_ ?_
             ·exact ⟨U726,rfl,f661,rfl,rfl,rfl,(zL _),(hS732.pick [1,2,0] _ (by decide) rfl)⟩
             ·rintro k739 ⟨⟩ xx746 σ744 W745 hk749 ⟨U751,fi750,f754,f755,f756,f757,le752,hS753⟩ hx747 hb748
              try dsimp only at hx747
              have c758:Hid ((↑k739:Int) < (↑x16.length:Int)):=zG (wBk hk749)
              replace hk749:=zG hk749
              have hi759:Hid (w64 ((↑k739:Int) + 1)=(↑(k739 + 1):Int)):=zG (by have h1:=hle742.out;have h2:=c758.out;rw [wAg] <;> omega)
              refine sR fL1 Z (oR Z (zJ Z fi750 f757) (eN (zF (cT Z c758 (kN (zF (zR (sR (wLk (.fx 3 (.fl 4 (.fx 5 (.nil) .stop)) .stop)) Z (oM Z fi750 (bnK hx747 fun x760 h761 hm762=>?_))))))))))
              have h763:=h689.le le698
              have h764:=h763.le le709
              have h765:=h764.le le730
              have h766:=h765.le le752
              have q:=h766.el (fun _=>rfl) (wAt h761)
              obtain ⟨b767,off768,hA769,hC770⟩:=q
              refine oR Z (ZB Z f756 hA769 fi750 zQ zf (wCE h761)) (oL Z (hS753.ldCA (f:=0) hC770 Z Z ZS zf (us:=[jV x760.Bib,jV x760.Time]) Z Z) (ZT (cs:=B3) Z Z Z Z Z ZM Z hS753 ?_))
              intro W771 b772 hS773
              refine oA Z Z ?_
              let B10:List Value:=[jV x760.Bib,jV x760.Time]
              refine OKS.st (j:=0) (vs:=B10) Z Z Z Z hS773 Z Z Z Z zf (zX Z) Z Z Z ?_
              intro W775 hS776
              have hS777:sW w U U751 [.blk b772 28 B10,.blk b54 24 B2,B0,B9] W775:=hS776
              refine eN (zF (ZJ ZH [3,3,3,1,3,1,3,3,3] fL9 (by kernel_rfl) ?_))
              have hS778:=hS777.drew
              generalize hw_W779:({ W775 with drawn:=W775.drawn + 1 }:World)=W779 at hS778 ⊢
              refine oM Z f755 (oM Z Z (bnK hm762 fun _ h780 hm781=>?_))
              obtain ⟨b782,hA783⟩:=hS778.rowSome (j:=3) rfl (by rw [wAF (f:=KL.encI) (sz:=1) (fun _=>rfl) x690];have hz:=wAP h780;omega)
              refine oR Z (ZB Z Z hA783 Z zC zB (wAP h780)) ?_
              have hg784:=wAu (xs:=x690) (wAP h780)
              refine ZA rfl rfl rfl rfl (hS778.ldR (j:=3) rfl hA783 rfl rfl zE (wAN (sz:=1) (fun _=>rfl) _ _ 0 _ hg784 (by first | omega | rfl | simp) rfl)) rfl (zS rfl rfl rfl rfl (fun _=>zk rfl rfl ze rfl zB) (ZA rfl rfl rfl rfl (hS778.ldB (j:=0) rfl rfl rfl zE (v:=jV x760.Time) rfl) rfl (zD rfl rfl rfl rfl rfl f754 (zS rfl rfl rfl rfl (fun _=>zm rfl rfl rfl) (zS rfl rfl rfl rfl (fun _=>ZO rfl rfl rfl) (eN (ifc hm781 ?_ ?_)))))))
              ·intro c785 hm786
               refine zh (zd (fun h=>h c785.out)) (zp (zi (zI (rR fL2 Z (oR Z (ZP (zY Z fi750 Z) (congrArg (jV) hi759.out)) (oM Z Z (zg ?_)))))))
               obtain rfl:=nA hm786
               exact zI ⟨rfl,_,rfl,⟨U751,rfl,f754,f755,f756,f757,le752,(hS778.pick [1,2,3] _ (by decide) rfl)⟩⟩
              ·intro c785 hm787
               refine cT Z c785 (sR fL1 Z (oA Z Z (eN (zW (zj (zM ?_))))))
               have q:=wAW hm787
               obtain ⟨v788,hm789,e790⟩:=q
               obtain rfl:=wBi hm736 hX741 (hb748 v788 e790)
               refine zM (zj (zM ?_))
               have hE:=nA hm789;first | subst r | cases hE
               exact ⟨rfl,_,(zn rfl),U751,_,(hS778.pick [] _ (by decide) rfl),rfl,rfl⟩
             ·rintro ⟨⟩ σ791 W792 ⟨U795,fi794,f798,f799,f800,f801,le796,hS797⟩ hb793
              have hm802:=wDT hm736 hX741 hb793
              try dsimp only at hm802
              have c803:Hid (¬ ((↑(((↑x16.length:Int):Int) - 0).toNat:Int) < (↑x16.length:Int))):=zG (wBS)
              refine sR fL1 Z (oR Z (zJ Z fi794 f801) (eN (zF (cF Z c803 (ZC (zZ (zZ (zt (zI (sR (.fx 0 (.fl 1 (.nil)) .stop) Z (bnK hm802 fun x804 h805 hm806=>zN 0 Z Z Z Z (zO Z Z Tryz.call11 zV Z) hS797 (fun hs=>wDS W792 U795 hs h805) (.inr Z) ?_)))))))))))
              rintro U807 L808 v809 W810 le811 hS812 ⟨rfl,rfl⟩
              have hS813:sW w U U807 [.blk b54 24 B2,B0,B9] W810:=hS812
              refine oA Z Z (eN (zW ?_))
              have hE:=nA hm806;first | subst r | cases hE
              exact ⟨rfl,_,(zn rfl),U807,_,(hS813.pick [] _ (by decide) rfl),rfl,rfl⟩
            ·intro c735 hm814
             refine cT Z c735 (sR fL1 Z (oA Z Z (eN (zW (zM ?_)))))
             have hE:=nA hm814;first | subst r | cases hE
             exact ⟨rfl,_,(zn rfl),U726,_,(hS732.pick [] _ (by decide) rfl),rfl,rfl⟩
           ·intro c733 hm815
            refine zU Z Z Z (zu Z Z (nF (c733.out)) Z) (zU Z Z Z (zu Z Z (nF (c733.out)) Z) (zU Z Z Z (zu Z Z (nF (c733.out)) Z) (zU Z Z Z (zu Z Z (nF (c733.out)) Z) (zU Z Z Z (zu Z Z (nF (c733.out)) Z) (oR Z (zK Z (nF (c733.out)) Z) (eN (zz Z (sR fL1 Z (oA Z Z (eN (zW (zM ?_))))))))))))
            have hE:=nA hm815;first | subst r | cases hE
            exact ⟨rfl,_,(zn rfl),U726,_,(hS732.pick [] _ (by decide) rfl),rfl,rfl⟩
          ·intro c706 hm816
           refine oT Z c706 (oT Z c706 (OKS.px Z Z Z (zu Z Z (zr c706.out) Z) (oT Z c706 (oR Z (zK Z (zr c706.out) Z) (oM Z Z (oN Z (oN Z (oN Z (oN Z (oN Z (oR Z (zK Z Z Z) (eN (zz Z (sR fL1 Z (oA Z Z (eN (zW (zM ?_))))))))))))))))))
           have hE:=nA hm816;first | subst r | cases hE
           exact ⟨rfl,_,(zn rfl),U694,_,(hS703.pick [] _ (by decide) rfl),rfl,rfl⟩
         ·intro c704 hm817
          refine oT Z c704 (oT Z c704 (oR Z (zK Z (zr c704.out) Z) (oM Z Z (oN Z (oN Z (OKS.px Z Z Z (zu Z Z Z Z) (oN Z (oR Z (zK Z Z Z) (oM Z Z (oN Z (oN Z (oN Z (oN Z (oN Z (oR Z (zK Z Z Z) (eN (zz Z (sR fL1 Z (oA Z Z (eN (zW (zM ?_))))))))))))))))))))))
          have hE:=nA hm817;first | subst r | cases hE
          exact ⟨rfl,_,(zn rfl),U694,_,(hS703.pick [] _ (by decide) rfl),rfl,rfl⟩
     ·intro c126 hm818
      refine cT Z c126 (sR fL1 Z (oA Z Z (eN (zW (zM ?_)))))
      have hE:=nA hm818;first | subst r | cases hE
      exact ⟨rfl,_,(zn rfl),U119,_,(hS125.pick [] _ (by decide) rfl),rfl,rfl⟩
    ·intro c109 hm819
     refine oT Z c109 (OKS.px Z Z Z (zu Z Z (zr c109.out) Z) (oT Z c109 (oR Z (zK Z (zr c109.out) Z) (eN (zz Z (sR fL1 Z (oA Z Z (eN (zW (zM ?_))))))))))
     have hE:=nA hm819;first | subst r | cases hE
     exact ⟨rfl,_,(zn rfl),U84,_,(hS93.pick [] _ (by decide) rfl),rfl,rfl⟩
   ·intro c107 hm820
    refine oT Z c107 (oT Z c107 (oT Z c107 (oT Z c107 (oT Z c107 (oR Z (zK Z (zr c107.out) Z) (oM Z Z (oN Z (OKS.px Z Z Z (zu Z Z Z Z) (oN Z (oR Z (zK Z Z Z) (eN (zz Z (sR fL1 Z (oA Z Z (eN (zW (zM ?_)))))))))))))))))
    have hE:=nA hm820;first | subst r | cases hE
    exact ⟨rfl,_,(zn rfl),U84,_,(hS93.pick [] _ (by decide) rfl),rfl,rfl⟩
  ·intro c105 hm821
   refine oT Z c105 (oT Z c105 (oT Z c105 (oT Z c105 (oT Z c105 (oR Z (zK Z (zr c105.out) Z) (oM Z Z (oN Z (oN Z (oN Z (oN Z (oN Z (oR Z (zK Z Z Z) (oM Z Z (oN Z (OKS.px Z Z Z (zu Z Z Z Z) (oN Z (oR Z (zK Z Z Z) (eN (zz Z (sR fL1 Z (oA Z Z (eN (zW (zM ?_))))))))))))))))))))))))
   have hE:=nA hm821;first | subst r | cases hE
   exact ⟨rfl,_,(zn rfl),U84,_,(hS93.pick [] _ (by decide) rfl),rfl,rfl⟩
 ·intro c103 hm822
  refine oT Z c103 (oT Z c103 (oR Z (zK Z (zr c103.out) Z) (oM Z Z (oN Z (oN Z (oN Z (oN Z (oN Z (oR Z (zK Z Z Z) (oM Z Z (oN Z (oN Z (oN Z (oN Z (oN Z (oR Z (zK Z Z Z) (oM Z Z (oN Z (OKS.px Z Z Z (zu Z Z Z Z) (oN Z (oR Z (zK Z Z Z) (eN (zz Z (sR fL1 Z (oA Z Z (eN (zW (zM ?_))))))))))))))))))))))))))))
  have hE:=nA hm822;first | subst r | cases hE
  exact ⟨rfl,_,(zn rfl),U84,_,(hS93.pick [] _ (by decide) rfl),rfl,rfl⟩
end Go.Proofs.YtghaibkggdecnaaGreat
