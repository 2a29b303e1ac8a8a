import Derived.Test.YtghaibkggdecnaaGreatU5
set_option linter.all false
open List renaming flatMap->nA,getElem_cons_succ->nE,getElem_cons_zero->nG,getElem_toArray->nH,set->nI,length_set->nL,length_cons->nN,length_nil->nO,length_append->nT
open Option.some renaming inj->nB
open Go.Value renaming bool->nD
open Bool renaming eq_false_iff->nJ
open Int renaming toNat_natCast->nK
open Prod.mk renaming injEq->nM
open Eq renaming trans->nP
open Nat renaming blt->nQ,le_of_ble_eq_true->nR
open Option renaming map->nS
namespace Go.Proofs.YtghaibkggdecnaaGreat
open Go.KL
set_option maxHeartbeats 4000000
theorem Z {α:Type} {a:α}:a=a:=rfl
section
variable {r:Option Nat} {N:Nat} {P:Program} {l:List Oper} {Q:wBw} {D:List Deferred} {ks:List Nat} {σ:Env} {w:World} {i d j e:Nat} {s:Sch} {o:Oper} {b:Bool} {x:Operand} {v:Value} {p:Prop} {inst:Decidable p} {K:List Deferred->Env->World->Prop} {c1 c2:Code}
abbrev jV (n:Int):Value:=.int .i64 n
abbrev SW (w:World) (X:List Res) (U U':PHeap) (L:List Res) (w':World):Prop:=St ⟨w,X,U⟩ U' L w'
abbrev sW (w:World) (U U':PHeap) (L:List Res) (w':World):Prop:=St ⟨w,[],U⟩ U' L w'
abbrev St0 (w:World) (U:PHeap) (L:List Res):Prop:=St ⟨w,L,U⟩ U L w
theorem ifc {α:Type} {G p:Prop} {inst:Decidable p} {a b r:α} (h:@ite α p inst a b=r) (h1:Hid p->a=r->G) (h2:Hid (¬ p)->b=r->G):G:=by
 by_cases c:p
 · rw [if_pos c] at h;exact h1 ⟨c⟩ h
 · rw [if_neg c] at h;exact h2 ⟨c⟩ h
theorem bnK {α β:Type} {G:Prop} {o:Option α} {f:α->Option β} {r:β} (h:o.bind f=some r) (k:∀ x,o=some x->f x=some r->G):G:=by
 obtain ⟨x,h1,h2⟩:=bnd h
 exact k x h1 h2
theorem oR (h:(l[i]?,o.dst,nQ d N,wanted l σ o)=(some o,some d,true,true)) (hr:∀ {w'},Runs P σ w' o v w') (k:OKS N P l Q D ks s (upd σ d v) w):OKS N P l Q D ks (.fl i s) σ w:=by
 simp only [nM] at h;exact OKS.r h.1 h.2.1 h.2.2.1 h.2.2.2 (fun _=>hr) k
theorem oL (h:(l[i]?,o.dst,nQ d N,wanted l σ o,wOl (kOf ks i))=(some o,some d,true,true,false)) (hr:RunsK P σ w o v) (k:OKS N P l Q D ks s (upd σ d v) w):OKS N P l Q D ks (.fl i s) σ w:=by
 simp only [nM] at h;exact OKS.m h.1 h.2.1 h.2.2.1 h.2.2.2.1 hr h.2.2.2.2 k
theorem oM (h:(l[i]?,o.dst,nQ d N,wanted l σ o,o.op)=(some o,some d,true,true,.move x)) (hx:ev σ x=v) (k:OKS N P l Q D ks s (upd σ d v) w):OKS N P l Q D ks (.fl i s) σ w:=by
 simp only [nM] at h;exact OKS.rm h.1 h.2.1 h.2.2.1 h.2.2.2.1 h.2.2.2.2 hx k
theorem oA (h:(l[i]?,o.dst,nQ d N,wanted l σ o,o.op)=(some o,some d,true,true,.assign x)) (hx:ev σ x=v) (k:OKS N P l Q D ks s (upd σ d v) w):OKS N P l Q D ks (.fl i s) σ w:=by
 simp only [nM] at h;exact OKS.ra h.1 h.2.1 h.2.2.1 h.2.2.2.1 h.2.2.2.2 hx k
theorem oF (h:(l[i]?,o.dst,nQ d N,o.guard,(l[j]?).bind (·.dst),σ e,false == b)=(some o,some d,true,some (j,b),some e,.bool (decide p),false)) (c:Hid (¬ p)) (k:OKS N P l Q D ks s (upd σ d undef) w):OKS N P l Q D ks (.fl i s) σ w:=by
 simp only [nM] at h;exact OKS.p h.1 h.2.1 h.2.2.1 (wEw h.2.2.2.1 h.2.2.2.2.1 (h.2.2.2.2.2.1.trans (wOk c.out)) h.2.2.2.2.2.2) k
theorem oT (h:(l[i]?,o.dst,nQ d N,o.guard,(l[j]?).bind (·.dst),σ e,true == b)=(some o,some d,true,some (j,b),some e,.bool (decide p),false)) (c:Hid p) (k:OKS N P l Q D ks s (upd σ d undef) w):OKS N P l Q D ks (.fl i s) σ w:=by
 simp only [nM] at h;exact OKS.p h.1 h.2.1 h.2.2.1 (wEw h.2.2.2.1 h.2.2.2.2.1 (h.2.2.2.2.2.1.trans (wFv c.out)) h.2.2.2.2.2.2) k
theorem oN {b2:Bool} (h:(l[i]?,o.dst,nQ d N,o.guard,(l[j]?).bind (·.dst),σ e,b2 == b)=(some o,some d,true,some (j,b),some e,.bool b2,false)) (k:OKS N P l Q D ks s (upd σ d undef) w):OKS N P l Q D ks (.fl i s) σ w:=by
 simp only [nM] at h;exact OKS.p h.1 h.2.1 h.2.2.1 (wEw h.2.2.2.1 h.2.2.2.2.1 h.2.2.2.2.2.1 h.2.2.2.2.2.2) k
theorem nC {a b:Bool} (h:a=b):nD (!a)=nD (!b):=h ▸ rfl
theorem nF {a:Bool} (h:¬ a=true):nD (!a)=nD (!false):=nC (nJ.2 h)
theorem wT (h:(o.guard,(l[j]?).bind (·.dst),σ e)=(some (j,true),some e,.bool (decide p))) (c:Hid p):wanted l σ o=true:=by
 simp only [nM] at h;exact wGR h.1 h.2.1 (h.2.2.trans (wFv c.out))
theorem wF (h:(o.guard,(l[j]?).bind (·.dst),σ e)=(some (j,false),some e,.bool (decide p))) (c:Hid (¬ p)):wanted l σ o=true:=by
 simp only [nM] at h;exact wGR h.1 h.2.1 (h.2.2.trans (wOk c.out))
theorem rU (h:(l[i]?,o.dst,nQ d N)=(some o,some d,true)) (hw:wanted l σ o=true) (hr:∀ {w'},Runs P σ w' o v w') (k:OKS N P l Q D ks s (upd σ d v) w):OKS N P l Q D ks (.fl i s) σ w:=by
 simp only [nM] at h;exact OKS.r h.1 h.2.1 h.2.2 hw (fun _=>hr) k
theorem sR {id:Nat} (s:Sch) (hs:inOrder 0 s l.length=true) (h:OKS N P l (wDh (fun D σ w=>CK r N P c2 Q D σ w) Q) D [] s σ w):CK r N P (.seq (.region id l.toArray false) c2) Q D σ w:=CK.seq (CK.reg s hs h)
theorem rR {id:Nat} (s:Sch) (hs:inOrder 0 s l.length=true) (h:OKS N P l Q D [] s σ w):CK r N P (.region id l.toArray false) Q D σ w:=CK.reg s hs h
theorem eN (h:K D σ w):OKS N P l (wDh K Q) D ks .nil σ w:=OKS.e (wGN h)
theorem cT (hz:ev σ x=.bool (decide p)) (c:Hid p) (h:CK r N P c1 Q D σ w):CK r N P (.cond x c1 c2) Q D σ w:=CK.condT (hz.trans (wFv c.out)) h
theorem cF (hz:ev σ x=.bool (decide p)) (c:Hid (¬ p)) (h:CK r N P c2 Q D σ w):CK r N P (.cond x c1 c2) Q D σ w:=CK.condF (hz.trans (wOk c.out)) h
theorem kN (h:K D σ w):CK r N P .skip (wDh K Q) D σ w:=CK.skip (wGN h)
end
def fL1:Sch:=.fl 0 (.nil)
def fL2:Sch:=.fl 0 (.fl 1 (.nil))
def fL3:Sch:=.fl 0 (.fl 1 (.fl 2 (.nil)))
def fL4:Sch:=.fl 0 (.fl 1 (.fl 2 (.fl 3 (.nil))))
def fL5:Sch:=.fl 0 (.fl 1 (.fl 2 (.fl 3 (.fl 4 (.nil)))))
def fL6:Sch:=.fl 0 (.fl 1 (.fl 2 (.fl 3 (.fl 4 (.fl 5 (.nil))))))
def fL7:Sch:=.fl 0 (.fl 1 (.fl 2 (.fl 3 (.fl 4 (.fl 5 (.fl 6 (.nil)))))))
def fL8:Sch:=.fl 0 (.fl 1 (.fl 2 (.fl 3 (.fl 4 (.fl 5 (.fl 6 (.fl 7 (.nil))))))))
def fL9:Sch:=.fl 0 (.fl 1 (.fl 2 (.fl 3 (.fl 4 (.fl 5 (.fl 6 (.fl 7 (.fl 8 (.nil)))))))))
def fL10:Sch:=.fl 0 (.fl 1 (.fl 2 (.fl 3 (.fl 4 (.fl 5 (.fl 6 (.fl 7 (.fl 8 (.fl 9 (.nil))))))))))
def fL11:Sch:=.fl 0 (.fl 1 (.fl 2 (.fl 3 (.fl 4 (.fl 5 (.fl 6 (.fl 7 (.fl 8 (.fl 9 (.fl 10 (.nil)))))))))))
def fL13:Sch:=.fl 0 (.fl 1 (.fl 2 (.fl 3 (.fl 4 (.fl 5 (.fl 6 (.fl 7 (.fl 8 (.fl 9 (.fl 10 (.fl 11 (.fl 12 (.nil)))))))))))))
def fL18:Sch:=.fl 0 (.fl 1 (.fl 2 (.fl 3 (.fl 4 (.fl 5 (.fl 6 (.fl 7 (.fl 8 (.fl 9 (.fl 10 (.fl 11 (.fl 12 (.fl 13 (.fl 14 (.fl 15 (.fl 16 (.fl 17 (.nil))))))))))))))))))
def fL30:Sch:=.fl 0 (.fl 1 (.fl 2 (.fl 3 (.fl 4 (.fl 5 (.fl 6 (.fl 7 (.fl 8 (.fl 9 (.fl 10 (.fl 11 (.fl 12 (.fl 13 (.fl 14 (.fl 15 (.fl 16 (.fl 17 (.fl 18 (.fl 19 (.fl 20 (.fl 21 (.fl 22 (.fl 23 (.fl 24 (.fl 25 (.fl 26 (.fl 27 (.fl 28 (.fl 29 (.nil))))))))))))))))))))))))))))))
def wMC (s:Sch):Sch:=.fl 0 (.fl 1 (.fl 2 (s)))
def wJj (s:Sch):Sch:=.fl 0 (.fl 1 (.fl 2 (.fl 3 (s))))
def wOa (s:Sch):Sch:=.fl 0 (.fl 1 (.fl 2 (.fl 3 (.fl 4 (s)))))
def fC0_5 (s:Sch):Sch:=.fl 0 (.fl 1 (.fl 2 (.fl 3 (.fl 4 (.fl 5 (s))))))
def fC0_6 (s:Sch):Sch:=.fl 0 (.fl 1 (.fl 2 (.fl 3 (.fl 4 (.fl 5 (.fl 6 (s)))))))
def fC0_7 (s:Sch):Sch:=.fl 0 (.fl 1 (.fl 2 (.fl 3 (.fl 4 (.fl 5 (.fl 6 (.fl 7 (s))))))))
def fC0_9 (s:Sch):Sch:=.fl 0 (.fl 1 (.fl 2 (.fl 3 (.fl 4 (.fl 5 (.fl 6 (.fl 7 (.fl 8 (.fl 9 (s))))))))))
def wPk (s:Sch):Sch:=.fl 0 (.fl 1 (.fl 2 (.fl 3 (.fl 4 (.fl 5 (.fl 6 (.fl 7 (.fl 8 (.fl 9 (.fl 10 (.fl 11 (.fl 12 (s)))))))))))))
def wPl (s:Sch):Sch:=.fl 0 (.fl 1 (.fl 2 (.fl 3 (.fl 4 (.fl 5 (.fl 6 (.fl 7 (.fl 8 (.fl 9 (.fl 10 (.fl 11 (.fl 12 (.fl 13 (s))))))))))))))
def wPm (s:Sch):Sch:=.fl 0 (.fl 1 (.fl 2 (.fl 3 (.fl 4 (.fl 5 (.fl 6 (.fl 7 (.fl 8 (.fl 9 (.fl 10 (.fl 11 (.fl 12 (.fl 13 (.fl 14 (s)))))))))))))))
def wPn (s:Sch):Sch:=.fl 0 (.fl 1 (.fl 2 (.fl 3 (.fl 4 (.fl 5 (.fl 6 (.fl 7 (.fl 8 (.fl 9 (.fl 10 (.fl 11 (.fl 12 (.fl 13 (.fl 14 (.fl 15 (.fl 16 (.fl 17 (.fl 18 (.fl 19 (.fl 20 (.fl 21 (.fl 22 (.fl 23 (.fl 24 (s)))))))))))))))))))))))))
def fC2_5 (s:Sch):Sch:=.fl 2 (.fl 3 (.fl 4 (.fl 5 (s))))
def fC2_6 (s:Sch):Sch:=.fl 2 (.fl 3 (.fl 4 (.fl 5 (.fl 6 (s)))))
def wPo (s:Sch):Sch:=.fl 3 (.fl 4 (.fl 5 (.fl 6 (.fl 7 (s)))))
def wMr (s:Sch):Sch:=.fl 4 (.fl 5 (.fl 6 (.fl 7 (.fl 8 (s)))))
def fC6_9 (s:Sch):Sch:=.fl 6 (.fl 7 (.fl 8 (.fl 9 (s))))
def wPp (s:Sch):Sch:=.fl 6 (.fl 7 (.fl 8 (.fl 9 (.fl 10 (.fl 11 (.fl 12 (.fl 13 (.fl 14 (.fl 15 (.fl 16 (.fl 17 (.fl 18 (.fl 19 (.fl 20 (.fl 21 (.fl 22 (.fl 23 (.fl 24 (.fl 25 (.fl 26 (.fl 27 (.fl 28 (s)))))))))))))))))))))))
def fC7_9 (s:Sch):Sch:=.fl 7 (.fl 8 (.fl 9 (s)))
def wPq (s:Sch):Sch:=.fl 9 (.fl 10 (.fl 11 (.fl 12 (.fl 13 (.fl 14 (s))))))
def wOb (s:Sch):Sch:=.fl 26 (.fl 27 (.fl 28 (.fl 29 (.fl 30 (.fl 31 (s))))))
def wOc (s:Sch):Sch:=.fl 33 (.fl 34 (.fl 35 (.fl 36 (.fl 37 (s)))))
def wOd (s:Sch):Sch:=.fl 39 (.fl 40 (.fl 41 (.fl 42 (s))))
theorem zA:type_of% @Tryz.runUnderlying31:=@Tryz.runUnderlying31
theorem zB:type_of% @wJo:=@wJo
theorem zC:type_of% @CK.seq:=@CK.seq
theorem zD:type_of% @Tryz.sizeOf3:=@Tryz.sizeOf3
theorem zE:type_of% @Hid.mk:=@Hid.mk
theorem zF:type_of% @wJn:=@wJn
theorem zG:type_of% @Enters.mk:=@Enters.mk
theorem zH:type_of% @OKS.callH:=@OKS.callH
theorem zI:type_of% @CK.ret:=@CK.ret
theorem zJ:type_of% @wGN:=@wGN
theorem zK:type_of% @Runs.pickT:=@Runs.pickT
theorem zL:type_of% @wMs:=@wMs
theorem zM:type_of% @CK.block:=@CK.block
theorem zN:type_of% @Tryz.isAgg3:=@Tryz.isAgg3
theorem zO:type_of% @Runs.lss:=@Runs.lss
theorem zP:type_of% @OKS.rm:=@OKS.rm
theorem zQ:type_of% @Runs.len:=@Runs.len
theorem zR:type_of% @wIS:=@wIS
theorem zS:type_of% @wEw:=@wEw
theorem zU:type_of% @Runs.addw:=@Runs.addw
theorem zV:type_of% @Tryz.runUnderlying58:=@Tryz.runUnderlying58
theorem zW:type_of% @nR:=@nR
theorem zX:type_of% @wJm:=@wJm
theorem zY:type_of% @Tryz.sizeOf160:=@Tryz.sizeOf160
theorem zZ:type_of% @OKS.r:=@OKS.r
theorem zd:type_of% @CK.condT:=@CK.condT
theorem ze:type_of% @res1:=@res1
theorem zf:type_of% @PHeap.Le.refl:=@PHeap.Le.refl
theorem zg:type_of% @Tryz.runUnderlying136:=@Tryz.runUnderlying136
theorem zh:type_of% @wGR:=@wGR
theorem zi:type_of% @CK.condF:=@CK.condF
theorem zj:type_of% @wIR:=@wIR
theorem zk:type_of% @Runs.to:=@Runs.to
theorem zl:type_of% @OKS.px:=@OKS.px
theorem zm:type_of% @Tryz.runUnderlying71:=@Tryz.runUnderlying71
theorem zn:type_of% @OKS.e:=@OKS.e
theorem zo:type_of% @Runs.iaI:=@Runs.iaI
theorem zp:type_of% @wGO:=@wGO
theorem zq:type_of% @Tryz.underlying31:=@Tryz.underlying31
theorem zr:type_of% @Runs.pickF:=@Runs.pickF
theorem zt:type_of% @Runs.fa:=@Runs.fa
theorem zu:type_of% @CK.exit:=@CK.exit
theorem zw:type_of% @wOk:=@wOk
theorem zx:type_of% @Runs.iaN:=@Runs.iaN
theorem zy:type_of% @OKS.p:=@OKS.p
theorem zz:type_of% @Tryz.runUnderlying62:=@Tryz.runUnderlying62
theorem ZA:type_of% @Tryz.zeroValue160:=@Tryz.zeroValue160
theorem ZB:type_of% @Tryz.isAgg160:=@Tryz.isAgg160
theorem ZC:type_of% @Tryz.sizeOf62:=@Tryz.sizeOf62
theorem ZD:type_of% @Runs.notT:=@Runs.notT
theorem ZE:type_of% @OKS.buildSlice:=@OKS.buildSlice
theorem ZF:type_of% @Runs.neq:=@Runs.neq
theorem ZG:type_of% @OKS.append:=@OKS.append
theorem ZH:type_of% @Runs.nilp:=@Runs.nilp
theorem ZI:type_of% @Tryz.isAgg31:=@Tryz.isAgg31
theorem ZJ:type_of% @Tryz.runUnderlying134:=@Tryz.runUnderlying134
theorem ZK:type_of% @Tryz.runUnderlying161:=@Tryz.runUnderlying161
theorem ZL:type_of% @Runs.subw:=@Runs.subw
theorem ZM:type_of% @CK.fresh:=@CK.fresh
theorem ZN:type_of% @Tryz.mixed:=@Tryz.mixed
end Go.Proofs.YtghaibkggdecnaaGreat
namespace Go.Proofs.YtghaibkggdecnaaGreat
open Go.KL
set_option maxHeartbeats 4000000
theorem wDC (p0:List Int) (pA0:Option Addr) (pc0:Nat) (w:World) (U:PHeap) (hS:St0 w U []) (ha0:Sl U 1 pA0 pc0 p0.length (nA KL.encB8 p0)) {r:wAA} (hm:wAu p0=some r):Gv Tryz.prog 21 [.slice pA0 p0.length pc0] w (wCR w [] U (fun U_ L_ v=>∃ (b0:Nat) (A0p0:Option Addr) (c0p0:Nat),v=.pointer (some ⟨b0,0,none⟩)/\L_=[.blk b0 136 [.slice A0p0 r.bytes.length c0p0,jV r.next,.int .u32 r.state]]/\Sl U_ 1 A0p0 c0p0 r.bytes.length (nA KL.encB8 r.bytes))):=by
 unfold wAu at hm
 refine Gv.of Tryz.func21 Z Tryz.ntmps21 Tryz.results21 Z (sR fL1 Z (oA Z Z (eN (sR (.fl 0 (.fl 1 (.fx 2 (.fl 3 (.nil)) .stop))) Z (oM Z Z ?_)))))
 let B0:List Value:=[.slice pA0 p0.length pc0,jV 0,.int .u32 17]
 refine zZ rfl rfl rfl rfl (fun _=>Runs.build (pv:=[(0,.slice pA0 p0.length pc0),(2,.int .u32 17)]) (z:=[.slice none 0 0,jV 0,.int .u32 0]) (cs:=B0) rfl (wAe rfl (wAe rfl wBb)) Tryz.zeroValue136 wLY rfl rfl) (OKS.box (cs:=B0) rfl rfl rfl rfl rfl rfl (by rfl) hS ?_)
 intro W1 b2 hS3
 refine oA Z Z (eN (zI ?_))
 cases hm
 exact ⟨Z,_,(ze Z),U,_,hS3,b2,pA0,pc0,Z,Z,ha0⟩
theorem wAx (p0:wAA) (pb0:Nat) (pA0_0:Option Addr) (pc0_0:Nat) (p1:Int) (w:World) (U:PHeap) (hS:St0 w U [.blk pb0 136 [.slice pA0_0 p0.bytes.length pc0_0,jV p0.next,.int .u32 p0.state]]) (ha0:Sl U 1 pA0_0 pc0_0 p0.bytes.length (nA KL.encB8 p0.bytes)) {r:Int × wAA} (hm:wAK p0 p1=some r):Gv Tryz.prog 57 [.pointer (some ⟨pb0,0,none⟩),jV p1] w (wCR w [.blk pb0 136 [.slice pA0_0 p0.bytes.length pc0_0,jV p0.next,.int .u32 p0.state]] U (fun U_ L_ v=>∃ (Ao00:Option Addr) (co00:Nat),v=jV r.1/\L_=[.blk pb0 136 [.slice Ao00 r.2.bytes.length co00,jV r.2.next,.int .u32 r.2.state]]/\Sl U_ 1 Ao00 co00 r.2.bytes.length (nA KL.encB8 r.2.bytes))):=by
 unfold wAK at hm
 refine Gv.of Tryz.func57 Z Tryz.ntmps57 Tryz.results57 Z (sR fL1 Z (oA Z Z (eN (zC (sR fL10 Z (oM Z Z (oR Z (Runs.leq Z Z Z) (oM Z Z ?_))))))))
 by_cases c2:p1 <= 1
 ·have hm3:=hm;rw [if_pos c2] at hm3;replace c2:=zE c2
  refine oT Z c2 (oT Z c2 (oT Z c2 (oT Z c2 (oT Z c2 (oT Z c2 (oR Z (zK Z (wFv c2.out) Z) (eN (zd Z (sR fL1 Z (oA Z Z (eN (zI (zF ?_)))))))))))))
  cases hm3
  exact ⟨Z,_,(ze Z),U,_,hS,pA0_0,pc0_0,Z,Z,ha0⟩
 ·have hm4:=hm;rw [if_neg c2] at hm4;replace c2:=zE c2
  refine zP Z Z Z (wF Z c2) Z Z (rU Z (wF Z c2) (ZH Z Z) (rU Z (wF Z c2) (zt Z Z zg Z Tryz.sizeOf46) (OKS.m Z Z Z (wF Z c2) (hS.ldB (j:=0) Z Z Z Tryz.isAgg46 (v:=.slice pA0_0 p0.bytes.length pc0_0) Z) Z (rU Z (wF Z c2) (zQ Z Z Tryz.runUnderlying46) (rU Z (wF Z c2) (Runs.eql Z Z Z) (oR Z (zr Z (zw c2.out) Z) (eN (ifc hm4 ?_ ?_))))))))
  ·intro c5 hm6
   refine cT Z c5 (sR fL1 Z (oA Z Z (eN (zI (zF ?_)))))
   cases hm6
   exact ⟨Z,_,(ze Z),U,_,hS,pA0_0,pc0_0,Z,Z,ha0⟩
  ·intro c5 hm7
   refine cF Z c5 (kN (zC (CK.anyOrd ZN [3,3,3,1,3,3,3,1,3,3,3,1,3,3,3,1,3,3,3,3,1,3,3,3,1,3,3,3,3,3] fL30 (by kernel_rfl) ?_)))
   have hS8:=hS.drew
   generalize hw_W9:({ w with drawn:=w.drawn + 1 }:World)=W9 at hS8 ⊢
   refine oM Z Z (oR Z (ZH Z Z) (oR Z (zt Z Z zg Z Tryz.sizeOf46) (oL Z (hS8.ldB (j:=0) Z Z Z Tryz.isAgg46 (v:=.slice pA0_0 p0.bytes.length pc0_0) Z) (oM Z Z (oR Z (ZH Z Z) (oR Z (zt Z Z zg Z zD) (oL Z (hS8.ldB (j:=0) Z Z Z zN (v:=jV p0.next) Z) (oM Z Z (oR Z (ZH Z Z) (oR Z (zt Z Z zg Z Tryz.sizeOf46) (oL Z (hS8.ldB (j:=0) Z Z Z Tryz.isAgg46 (v:=.slice pA0_0 p0.bytes.length pc0_0) Z) (oR Z (zQ Z Z Tryz.runUnderlying46) (bnK hm7 fun x10 h11 hm12=>oR Z (Runs.rem Z Z Z h11) (bnK hm12 fun x13 h14 hm15=>?_))))))))))))))
   have q:=ha0.el (fun _=>rfl) (wAg h14)
   obtain ⟨b16,off17,hA18,hC19⟩:=q
   refine oR Z (zo Z Z hA18 Z Tryz.runUnderlying46 Tryz.sizeOf5 (wCA h14) (wCH h14)) (oL Z (hS8.ldC (f:=0) hC19 (v:=.int .u8 x13) Z Z Tryz.isAgg5 Z) (oR Z (Runs.cvu Z Z Tryz.runUnderlying5 ZJ Z Z) (oM Z Z (oR Z (ZH Z Z) (oR Z (zt Z Z zg Z zD) (oL Z (hS8.ldB (j:=0) Z Z Z zN (v:=jV p0.next) Z) (oM Z Z (oR Z (ZH Z Z) (oR Z (zt Z Z zg Z Tryz.sizeOf46) (oL Z (hS8.ldB (j:=0) Z Z Z Tryz.isAgg46 (v:=.slice pA0_0 p0.bytes.length pc0_0) Z) (oR Z (zQ Z Z Tryz.runUnderlying46) (bnK hm15 fun x20 h21 hm22=>oR Z (Runs.quo Z Z Z h21) (oR Z (Runs.cvu Z Z Tryz.runUnderlying3 ZJ Z Z) (oA Z Z (oA Z Z (eN (zC (ZM fun σ23 hσ24=>?_))))))))))))))))))
   have f25:σ23 0=.pointer (some ⟨pb0,0,none⟩):=(hσ24 0).trans rfl
   have f26:σ23 1=jV p1:=(hσ24 1).trans rfl
   have f27:σ23 5=.int .u32 (wCs x13):=(hσ24 5).trans rfl
   have f28:σ23 6=.int .u32 (wCs x20):=(hσ24 6).trans rfl
   clear hσ24
   refine rR (fC0_6 (.fx 7 (.nil) .stop)) Z (oM Z f25 (oR Z (ZH Z Z) (oR Z (zt Z Z zg Z zD) (oL Z (hS8.ldB (j:=0) Z Z Z zN (v:=jV p0.next) Z) (oR Z (zU Z Z Z) (oR Z (ZH Z Z) (oR Z (zt Z Z zg Z zD) (OKS.st (j:=0) (vs:=[jV (w64 (p0.next + 1))]) Z Z Z Z hS8 Z Z Z Z zD (zW Z) Z Z Z ?_))))))))
   intro W29 hS30
   let B0:Res:=.blk pb0 136 [.slice pA0_0 p0.bytes.length pc0_0,jV p0.next,.int .u32 p0.state]
   have hS31:SW w [B0] U U [.blk pb0 136 [.slice pA0_0 p0.bytes.length pc0_0,jV (w64 (p0.next + 1)),.int .u32 p0.state]] W29:=hS30
   refine eN (sR (wPm (.fx 15 (.nil) .stop)) Z (oM Z f25 (oM Z f25 (oR Z (ZH Z Z) (oR Z (zt Z Z zg Z Tryz.sizeOf134) (oL Z (hS31.ldB (j:=0) Z Z Z Tryz.isAgg134 (v:=.int .u32 p0.state) Z) (oR Z (Runs.mulu Z Z Z) (oM Z f27 (oR Z (Runs.addu Z Z Z) (oM Z f28 (oR Z (Runs.mulu Z Z Z) (oR Z (Runs.addu Z Z Z) (oR Z (Runs.addu Z Z Z) (bnK hm22 fun x32 h33 hm34=>oR Z (Runs.rem Z Z Z h33) (oR Z (ZH Z Z) (oR Z (zt Z Z zg Z Tryz.sizeOf134) (OKS.st (j:=0) (vs:=[.int .u32 x32]) Z Z Z Z hS31 Z Z Z Z Tryz.sizeOf134 (zW Z) Z Z Z ?_)))))))))))))))))
   intro W35 hS36
   have hS37:SW w [B0] U U [.blk pb0 136 [.slice pA0_0 p0.bytes.length pc0_0,jV (w64 (p0.next + 1)),.int .u32 x32]] W35:=hS36
   refine eN (zC (sR fL6 Z (oM Z f28 (oR Z (Runs.eql Z Z Z) (oM Z Z (ifc hm34 ?_ ?_))))))
   ·intro c38 hm39
    refine zP Z Z Z (wT Z c38) Z f26 (rU Z (wT Z c38) (Runs.leq Z Z Z) (oR Z (zK Z (wFv c38.out) Z) (eN (ifc hm39 ?_ ?_))))
    ·intro c40 hm41
     refine cT Z c40 (sR fL5 Z (oM Z f27 (oR Z (Runs.cvw Z Z ZJ Tryz.runUnderlying3 Z Z) (oM Z f26 (bnK hm41 fun x42 h43 hm44=>oR Z (Runs.rem Z Z Z h43) (oA Z Z (eN (zI (zF ?_)))))))))
     cases hm44
     exact ⟨Z,_,(ze Z),U,_,hS37,pA0_0,pc0_0,Z,Z,ha0⟩
    ·intro c40 hm45
     refine cF Z c40 (kN (sR fL11 Z (oM Z f25 (oR Z (ZH Z Z) (oR Z (zt Z Z zg Z Tryz.sizeOf134) (oL Z (hS37.ldB (j:=0) Z Z Z Tryz.isAgg134 (v:=.int .u32 x32) Z) (oR Z (Runs.mulu Z Z Z) (oM Z f27 (oR Z (Runs.addu Z Z Z) (oR Z (Runs.cvw Z Z ZJ Tryz.runUnderlying3 Z Z) (oM Z f26 (bnK hm45 fun x46 h47 hm48=>oR Z (Runs.rem Z Z Z h47) (oA Z Z (eN (zI ?_)))))))))))))))
     cases hm48
     exact ⟨Z,_,(ze Z),U,_,hS37,pA0_0,pc0_0,Z,Z,ha0⟩
   ·intro c38 hm49
    refine oF Z c38 (oF Z c38 (oR Z (zr Z (zw c38.out) Z) (eN (zi Z (kN (sR fL11 Z (oM Z f25 (oR Z (ZH Z Z) (oR Z (zt Z Z zg Z Tryz.sizeOf134) (oL Z (hS37.ldB (j:=0) Z Z Z Tryz.isAgg134 (v:=.int .u32 x32) Z) (oR Z (Runs.mulu Z Z Z) (oM Z f27 (oR Z (Runs.addu Z Z Z) (oR Z (Runs.cvw Z Z ZJ Tryz.runUnderlying3 Z Z) (oM Z f26 (bnK hm49 fun x50 h51 hm52=>oR Z (Runs.rem Z Z Z h51) (oA Z Z (eN (zI ?_)))))))))))))))))))
    cases hm52
    exact ⟨Z,_,(ze Z),U,_,hS37,pA0_0,pc0_0,Z,Z,ha0⟩
theorem wAd (p0:wAA) (pb0:Nat) (pA0_0:Option Addr) (pc0_0:Nat) (p1:Int) (p2:Int) (w:World) (U:PHeap) (hS:St0 w U [.blk pb0 136 [.slice pA0_0 p0.bytes.length pc0_0,jV p0.next,.int .u32 p0.state]]) (ha0:Sl U 1 pA0_0 pc0_0 p0.bytes.length (nA KL.encB8 p0.bytes)) {r:Int × wAA} (hm:wAD p0 p1 p2=some r):Gv Tryz.prog 56 [.pointer (some ⟨pb0,0,none⟩),jV p1,jV p2] w (wCR w [.blk pb0 136 [.slice pA0_0 p0.bytes.length pc0_0,jV p0.next,.int .u32 p0.state]] U (fun U_ L_ v=>∃ (Ao00:Option Addr) (co00:Nat),v=jV r.1/\L_=[.blk pb0 136 [.slice Ao00 r.2.bytes.length co00,jV r.2.next,.int .u32 r.2.state]]/\Sl U_ 1 Ao00 co00 r.2.bytes.length (nA KL.encB8 r.2.bytes))):=by
 unfold wAD at hm
 refine Gv.of Tryz.func56 Z Tryz.ntmps56 Tryz.results56 Z (sR fL1 Z (oA Z Z (eN (sR (fC0_5 (.fx 6 (.fl 7 (.fl 8 (.nil))) .stop)) Z (oM Z Z (oM Z Z (oM Z Z (oM Z Z (oR Z (ZL Z Z Z) (oR Z (zU Z Z Z) ?_))))))))))
 have q:=bnd hm
 obtain ⟨⟨x2,x3⟩,h4,hm5⟩:=q
 try dsimp only at hm5
 refine zH 1 Z Z Z Z (zG Z Z Tryz.call57 (zB Z (zB Z zL)) Z) hS (fun hs=>wAx p0 pb0 pA0_0 pc0_0 (w64 ((w64 (p2 - p1)) + 1)) w U hs ha0 h4) (.inl Z) ?_
 rintro U6 L7 v8 W9 le10 hS11 ⟨A12,c13,rfl,rfl,h14⟩
 have hS15:SW w [.blk pb0 136 [.slice pA0_0 p0.bytes.length pc0_0,jV p0.next,.int .u32 p0.state]] U U6 [.blk pb0 136 [.slice A12 x3.bytes.length c13,jV x3.next,.int .u32 x3.state]] W9:=hS11
 refine oR Z (zU Z Z Z) (oA Z Z (eN (zI ?_)))
 cases hm5
 exact ⟨Z,_,(ze Z),U6,_,hS15,A12,c13,Z,Z,h14⟩
theorem wBV (p0:wAA) (pb0:Nat) (pA0_0:Option Addr) (pc0_0:Nat) (p1:Int) (w:World) (U:PHeap) (hS:St0 w U [.blk pb0 136 [.slice pA0_0 p0.bytes.length pc0_0,jV p0.next,.int .u32 p0.state]]) (ha0:Sl U 1 pA0_0 pc0_0 p0.bytes.length (nA KL.encB8 p0.bytes)) {r:(List Int) × wAA} (hm:wAL p0 p1=some r):Gv Tryz.prog 29 [.pointer (some ⟨pb0,0,none⟩),jV p1] w (wCR w [.blk pb0 136 [.slice pA0_0 p0.bytes.length pc0_0,jV p0.next,.int .u32 p0.state]] U (fun U_ L_ v=>∃ (A0:Option Addr) (c0:Nat) (Ao00:Option Addr) (co00:Nat),v=.slice A0 r.1.length c0/\L_=[.row A0 c0 3 1 (nA KL.encI r.1),.blk pb0 136 [.slice Ao00 r.2.bytes.length co00,jV r.2.next,.int .u32 r.2.state]]/\Sl U_ 1 Ao00 co00 r.2.bytes.length (nA KL.encB8 r.2.bytes))):=by
 unfold wAL at hm
 refine Gv.of Tryz.func29 Z Tryz.ntmps29 Tryz.results29 Z (sR fL1 Z (oA Z Z (eN (sR fL1 Z (oA Z Z (eN (zC (sR fL3 Z (oM Z Z (oR Z (Runs.max Z Z Z) (oM Z Z (eN (zM (bnK hm fun y24 hf21 hm20=>?_))))))))))))))
 have q:=wBr hf21
 obtain ⟨hle22,hf23⟩:=q
 replace hle22:=zE hle22
 let B0:Res:=.blk pb0 136 [.slice pA0_0 p0.bytes.length pc0_0,jV p0.next,.int .u32 p0.state]
 refine CK.forN' (fun k19 l15 σ_ w_=>∃ (U_:PHeap) (A16:Option Addr) (c17:Nat),σ_ 11=jV (↑k19:Int)/\σ_ 0=.pointer (some ⟨pb0,0,none⟩)/\σ_ 5=.slice A16 l15.length c17/\σ_ 10=jV (max 0 p1)/\PHeap.Le U U_/\SW w [B0] U U_ [B0,.row A16 c17 3 1 (nA KL.encI l15)] w_) hf23 ?_ ?_ ?_
 ·have hS25:=hS.nilrow 3 1
  exact ⟨U,none,0,rfl,rfl,rfl,rfl,(zf _),(hS25.pick [1,0] _ (by decide) rfl)⟩
 ·rintro k19 l15 xx29 σ27 W28 hk32 ⟨U34,A16,c17,fi33,f37,f38,f39,le35,hS36⟩ hx30
  have c40:Hid ((↑k19:Int) < (max 0 p1)):=zE (wBu hk32)
  replace hk32:=zE hk32
  have hi41:Hid (w64 ((↑k19:Int) + 1)=(↑(k19 + 1):Int)):=zE (by have h1:=hle22.out;have h2:=c40.out;rw [wAc] <;> omega)
  refine sR fL1 Z (oR Z (zO Z fi33 f39) (eN (zC (cT Z c40 (kN (zC (zM (sR fL2 Z (oM Z fi33 (oA Z Z (eN (rR (.fl 0 (.fl 1 (.fx 2 (.fx 3 (.fl 4 (.nil)) .stop) .stop))) Z (oM Z f38 (oM Z Z (ZE (pv:=[(0,jV (↑k19:Int))]) (zs:=[jV 0]) (cs:=[jV (↑k19:Int)]) Z Z Z Z Z (wAe Z wBb) zA zD Tryz.zeroValue3 Z Z Z Z Z hS36 ?_)))))))))))))))
  intro W42 b43 hS44
  let B1:Res:=.row (some ⟨b43,0,none⟩) 1 3 1 (nA KL.encI [(↑k19:Int)])
  have hS46:SW w [B0] U U34 [B1,B0,.row A16 c17 3 1 (nA KL.encI l15)] W42:=hS44
  refine bnK hx30 fun x47 h48 hm49=>ZG (j:=2) (enc:=KL.encI) (xs:=l15) (ys:=[(↑k19:Int)]) (zs:=x47) rfl rfl rfl rfl rfl zq wFZ rfl rfl rfl rfl rfl rfl hS46 rfl rfl rfl (hS46.srcR (j:=0) rfl (by decide) (wAF (f:=KL.encI) (sz:=1) (fun _=>rfl) [(↑k19:Int)])) (fun _=>rfl) (fun _=>rfl) h48 rfl ?_
  intro A50 c51 W52 hS53
  have hS54:SW w [B0] U U34 [B1,B0,.row A50 c51 3 1 (nA KL.encI x47)] W52:=hS53
  refine oA Z Z (zn (zj (zJ (rR fL2 Z (oR Z (zk (zU Z fi33 Z) (congrArg (jV) hi41.out)) (oM Z Z (zn ?_)))))))
  cases hm49
  exact zJ ⟨rfl,⟨U34,A50,c51,rfl,f37,rfl,f39,le35,(hS54.pick [1,2] _ (by decide) rfl)⟩⟩
 ·rintro σ58 W59 ⟨U67,A65,c66,fi61,f70,f71,f72,le68,hS69⟩
  have c73:Hid (¬ ((↑((max 0 p1:Int) - 0).toNat:Int) < (max 0 p1))):=zE (wBL)
  refine sR fL1 Z (oR Z (zO Z fi61 f72) (eN (zC (cF Z c73 (zu (zX (zX (zp (zJ (zC (sR fL4 Z (oM Z f71 (oR Z (zQ Z Z zA) (oR Z (ZL Z Z Z) (oA Z Z (eN (zM (CK.iter (fun (l95,x98,x99,l100,x101) σ_ w_=>∃ (U_:PHeap) (A96:Option Addr) (c97:Nat),σ_ 0=.pointer (some ⟨pb0,0,none⟩)/\σ_ 5=.slice A65 l100.length c66/\σ_ 7=jV x101/\PHeap.Le U67 U_/\SW w [B0] U U_ [.blk pb0 136 [.slice A96 l95.length c97,jV x98,.int .u32 x99],.row A65 c66 3 1 (nA KL.encI l100)] w_/\Sl U_ 1 A96 c97 l95.length (nA KL.encB8 l95)/\l100.length=y24.length) hm20 ?_ ?_))))))))))))))))))
  ·have h102:=ha0.le le68
   exact ⟨U67,pA0_0,pc0_0,f70,f71,Z,(zf _),hS69,h102,Z⟩
  ·rintro ⟨l95,x98,x99,l100,x101⟩ xx105 σ103 W104 ⟨U110,A96,c97,f113,f114,f115,le111,hS112,h116,h117⟩ hx106 hb107
   try dsimp only at hx106
   refine zC (sR fL2 Z (oM Z f115 (oR Z (Runs.gtr Z Z Z) (eN ?_))))
   by_cases c118:0 < x101
   ·have hm119:=hx106;rw [if_pos c118] at hm119;replace c118:=zE c118
    refine cT Z c118 (kN (zC (zM (sR (wMC (.fx 3 (.fl 4 (.nil)) .stop)) Z (oM Z f113 (oM Z f115 (oR Z (zU Z Z Z) ?_)))))))
    have q:=bnd hm119
    obtain ⟨⟨x120,x121⟩,h122,hm123⟩:=q
    try dsimp only at hm123
    refine zH 1 Z Z Z Z (zG Z Z Tryz.call57 (zB Z (zB Z zL)) Z) hS112 (fun hs=>wAx (⟨l95,x98,x99⟩:wAA) pb0 A96 c97 (w64 (x101 + 1)) W104 U110 hs h116 h122) (.inl Z) ?_
    rintro U124 L125 v126 W127 le128 hS129 ⟨A130,c131,rfl,rfl,h132⟩
    let B2:Res:=.blk pb0 136 [.slice A130 x121.bytes.length c131,jV x121.next,.int .u32 x121.state]
    have hS133:SW w [B0] U U124 [B2,.row A65 c66 3 1 (nA KL.encI l100)] W127:=hS129
    refine OKS.ra rfl rfl rfl rfl rfl rfl (eN (CK.anyOrd ZN [3,3,3,3,3,3,3,1,3,3,3,1,3,0,3,0] (wPk (.fx 13 (.fl 14 (.fx 15 (.nil) .stop)) .stop)) (by kernel_rfl) ?_))
    have hS134:=hS133.drew
    generalize hw_W135:({ W127 with drawn:=W127.drawn + 1 }:World)=W135 at hS134 ⊢
    refine oM Z f114 (oM Z f115 (oM Z f114 (oM Z Z (oM Z f114 (oM Z Z (bnK hm123 fun _ h136 hm137=>?_))))))
    obtain ⟨b138,hA139⟩:=hS134.rowSome (j:=1) rfl (by rw [wAF (f:=KL.encI) (sz:=1) (fun _=>rfl) l100];have hz:=wAz h136;omega)
    refine oR Z (zo Z Z hA139 Z zA zD (wDn h136) (wDo h136)) ?_
    have hg140:=wBU (xs:=l100) (wAz h136)
    refine OKS.m rfl rfl rfl rfl (hS134.ldR (j:=1) rfl hA139 rfl rfl zN (wBM (sz:=1) (fun _=>rfl) _ _ 0 _ hg140 (by first | omega | rfl | simp) rfl)) rfl (zP rfl rfl rfl rfl rfl f114 (zP rfl rfl rfl rfl rfl f115 (bnK hm137 fun _ h141 hm142=>zZ rfl rfl rfl rfl (fun _=>zo rfl rfl hA139 rfl zA zD (wDn h141) (wDo h141)) ?_)))
    have hg143:=wBU (xs:=l100) (wAz h141)
    refine OKS.m rfl rfl rfl rfl (hS134.ldR (j:=1) rfl hA139 rfl rfl zN (wBM (sz:=1) (fun _=>rfl) _ _ 0 _ hg143 (by first | omega | rfl | simp) rfl)) rfl (zZ rfl rfl rfl rfl (fun _=>zo rfl rfl hA139 rfl zA zD (wDn h141) (wDo h141)) ?_)
    have hg144:=wBU (xs:=l100) (wAz h141)
    refine OKS.stR (j:=1) (vs:=[jV (gd l100 x120.toNat)]) (cs':=nA KL.encI (nI l100 x101.toNat (gd l100 x120.toNat))) rfl rfl rfl rfl hS134 rfl hA139 rfl rfl rfl zD (by rw [wAF (f:=KL.encI) (sz:=1) (fun _=>rfl)];have hz:=wAz h141;simp only [nH,nE,nG,nN,nO];first | omega | (simp only [nK];omega)) rfl (wEy (sz:=1) (fo:=0) (fun _=>rfl) _ _ _ _ hg144 (by first | omega | (simp only [nK];omega) | (simp only [nH,nE,nG];omega)) (zW rfl) rfl) rfl ?_
    intro W145 hS146
    have hS147:SW w [B0] U U124 [B2,.row A65 c66 3 1 (nA KL.encI (nI l100 x101.toNat (gd l100 x120.toNat)))] W145:=hS146
    refine bnK hm142 fun _ h148 hm149=>zZ rfl rfl rfl rfl (fun _=>zo rfl (nP (b:=(.slice A65 l100.length c66:Value)) (c:=(.slice A65 ((nI l100 x101.toNat (gd l100 x120.toNat)).length) c66:Value)) rfl (by simp only [nL])) hA139 rfl zA zD (wDn h148) (wDo h148)) ?_
    have hg150:=wBU (xs:=(nI l100 x101.toNat (gd l100 x120.toNat))) (wAz h148)
    refine OKS.stR (j:=1) (vs:=[jV (gd l100 x101.toNat)]) (cs':=nA KL.encI (nI (nI l100 x101.toNat (gd l100 x120.toNat)) x120.toNat (gd l100 x101.toNat))) rfl rfl rfl rfl hS147 rfl hA139 rfl rfl rfl zD (by rw [wAF (f:=KL.encI) (sz:=1) (fun _=>rfl)];have hz:=wAz h148;simp only [nH,nE,nG,nN,nO];first | omega | (simp only [nK];omega)) rfl (wEy (sz:=1) (fo:=0) (fun _=>rfl) _ _ _ _ hg150 (by first | omega | (simp only [nK];omega) | (simp only [nH,nE,nG];omega)) (zW rfl) rfl) rfl ?_
    intro W151 hS152
    have hS153:SW w [B0] U U124 [B2,.row A65 c66 3 1 (nA KL.encI (nI (nI l100 x101.toNat (gd l100 x120.toNat)) x120.toNat (gd l100 x101.toNat)))] W151:=hS152
    refine zn (zj (zJ (rR fL3 Z (oM Z f115 (oR Z (ZL Z Z Z) (oA Z Z (zn ?_)))))))
    obtain rfl:=nB hm149
    exact zJ ⟨rfl,_,rfl,⟨U124,A130,c131,f113,(nP (b:=(.slice A65 ((nI l100 x101.toNat (gd l100 x120.toNat)).length) c66:Value)) (c:=(.slice A65 ((nI (nI l100 x101.toNat (gd l100 x120.toNat)) x120.toNat (gd l100 x101.toNat)).length) c66:Value)) (nP (b:=(.slice A65 l100.length c66:Value)) (c:=(.slice A65 ((nI l100 x101.toNat (gd l100 x120.toNat)).length) c66:Value)) f114 (by simp only [nL])) (by simp only [nL])),rfl,(le111.trans le128),hS153,h132,(by simp only [nL];exact h117)⟩⟩
   ·have hm161:=hx106;rw [if_neg c118] at hm161;replace c118:=zE c118
    refine cF Z c118 (zu (zX ?_))
    have q:=wBE hm161
    obtain ⟨v162,hm163,e164⟩:=q
    obtain rfl:=hb107 v162 e164
    refine zX (zp (zJ (sR fL2 Z (oM Z f114 (oA Z Z (eN (zI ?_)))))))
    cases hm163
    exact ⟨rfl,_,(ze rfl),U110,_,(hS112.pick [1,0] _ (by decide) rfl),A65,c66,A96,c97,rfl,rfl,h116⟩
theorem wDd (p0:wAA) (pb0:Nat) (pA0_0:Option Addr) (pc0_0:Nat) (p1:Int) (w:World) (U:PHeap) (hS:St0 w U [.blk pb0 136 [.slice pA0_0 p0.bytes.length pc0_0,jV p0.next,.int .u32 p0.state]]) (ha0:Sl U 1 pA0_0 pc0_0 p0.bytes.length (nA KL.encB8 p0.bytes)) {r:(List wAB) × wAA} (hm:wAi p0 p1=some r):Gv Tryz.prog 28 [.pointer (some ⟨pb0,0,none⟩),jV p1] w (wCR w [.blk pb0 136 [.slice pA0_0 p0.bytes.length pc0_0,jV p0.next,.int .u32 p0.state]] U (fun U_ L_ v=>∃ (A0:Option Addr) (c0:Nat) (Ao00:Option Addr) (co00:Nat),v=.slice A0 r.1.length c0/\L_=[.row A0 c0 62 3 (nA wAH r.1),.blk pb0 136 [.slice Ao00 r.2.bytes.length co00,jV r.2.next,.int .u32 r.2.state]]/\Sl U_ 1 Ao00 co00 r.2.bytes.length (nA KL.encB8 r.2.bytes))):=by
 unfold wAi at hm
 refine Gv.of Tryz.func28 Z Tryz.ntmps28 Tryz.results28 Z (sR fL1 Z (oA Z Z (eN (sR fL1 Z (oA Z Z (eN (sR (.fl 0 (.fx 1 (.fl 2 (.nil)) .stop)) Z (oM Z Z ?_))))))))
 have q:=bnd hm
 obtain ⟨⟨x2,x3⟩,h4,hm5⟩:=q
 try dsimp only at hm5
 refine zH 1 Z Z Z Z (zG Z Z Tryz.call56 (zB Z (zB Z (zB Z zL))) Z) hS (fun hs=>wAd p0 pb0 pA0_0 pc0_0 1 6 w U hs ha0 h4) (.inl Z) ?_
 rintro U6 L7 v8 W9 le10 hS11 ⟨A12,c13,rfl,rfl,h14⟩
 let B0:Res:=.blk pb0 136 [.slice pA0_0 p0.bytes.length pc0_0,jV p0.next,.int .u32 p0.state]
 have hS15:SW w [B0] U U6 [.blk pb0 136 [.slice A12 x3.bytes.length c13,jV x3.next,.int .u32 x3.state]] W9:=hS11
 refine oA Z Z (eN (sR (.fl 0 (.fx 1 (.fl 2 (.nil)) .stop)) Z (oM Z Z ?_)))
 have q:=bnd hm5
 obtain ⟨⟨x16,x17⟩,h18,hm19⟩:=q
 try dsimp only at hm19
 refine zH 1 Z Z Z Z (zG Z Z Tryz.call29 (zB Z (zB Z zL)) Z) hS15 (fun hs=>wBV x3 pb0 A12 c13 60 W9 U6 hs h14 h18) (.inl Z) ?_
 rintro U20 L21 v22 W23 le24 hS25 ⟨A26,c27,A28,c29,rfl,rfl,h31⟩
 let B1:Res:=.row A26 c27 3 1 (nA KL.encI x16)
 let B2:Res:=.blk pb0 136 [.slice A28 x17.bytes.length c29,jV x17.next,.int .u32 x17.state]
 have hS32:SW w [B0] U U20 [B1,B2] W23:=hS25
 refine oA Z Z (eN (zC (sR (.fl 0 (.fl 1 (.fx 2 (.fl 3 (.nil)) .stop))) Z (oM Z Z (oM Z Z ?_)))))
 have q:=bnd hm19
 obtain ⟨⟨x33,x34⟩,h35,hm36⟩:=q
 try dsimp only at hm36
 have hS37:SW w [B0] U U20 [B2,B1] W23:=hS32.pick [1,0] _ (by decide) rfl
 refine zH 1 Z Z Z Z (zG Z Z Tryz.call56 (zB Z (zB Z (zB Z zL))) Z) hS37 (fun hs=>wAd x17 pb0 A28 c29 1 p1 W23 U20 hs h31 h35) (.inl Z) ?_
 rintro U38 L39 v40 W41 le42 hS43 ⟨A44,c45,rfl,rfl,h46⟩
 have hS47:SW w [B0] U U38 [.blk pb0 136 [.slice A44 x34.bytes.length c45,jV x34.next,.int .u32 x34.state],B1] W41:=hS43
 refine oM Z Z (eN (zM ?_))
 have q:=bnd hm36
 obtain ⟨⟨y90,y91,y92,y93⟩,hf87,hm86⟩:=q
 try dsimp only at hm86
 have q:=wBr hf87
 obtain ⟨hle88,hf89⟩:=q
 replace hle88:=zE hle88
 refine CK.forN' (fun k85 (l76,x79,x80,l81) σ_ w_=>∃ (U_:PHeap) (A77:Option Addr) (c78:Nat) (A82:Option Addr) (c83:Nat),σ_ 16=jV (↑k85:Int)/\σ_ 0=.pointer (some ⟨pb0,0,none⟩)/\σ_ 5=.slice A82 l81.length c83/\σ_ 6=jV x2/\σ_ 7=.slice A26 x16.length c27/\σ_ 15=jV x33/\PHeap.Le U38 U_/\SW w [B0] U U_ [.blk pb0 136 [.slice A77 l76.length c78,jV x79,.int .u32 x80],.row A82 c83 62 3 (nA wAH l81),B1] w_/\Sl U_ 1 A77 c78 l76.length (nA KL.encB8 l76)) hf89 ?_ ?_ ?_
 ·have hS94:=hS47.nilrow 62 3
  exact ⟨U38,A44,c45,none,0,rfl,rfl,rfl,rfl,rfl,rfl,(zf _),(hS94.pick [1,0,2] _ (by decide) rfl),h46⟩
 ·rintro k85 ⟨l76,x79,x80,l81⟩ xx98 σ96 W97 hk101 ⟨U103,A77,c78,A82,c83,fi102,f106,f107,f108,f109,f110,le104,hS105,h111⟩ hx99
  try dsimp only at hx99
  have c112:Hid ((↑k85:Int) < x33):=zE (wBu hk101)
  replace hk101:=zE hk101
  have hi113:Hid (w64 ((↑k85:Int) + 1)=(↑(k85 + 1):Int)):=zE (by have h1:=hle88.out;have h2:=c112.out;rw [wAc] <;> omega)
  refine sR fL1 rfl (zZ rfl rfl rfl rfl (fun _=>zO rfl fi102 f110) (eN (zC (cT Z c112 (kN (zC (zM (sR fL2 rfl (zP rfl rfl rfl rfl rfl fi102 (OKS.ra rfl rfl rfl rfl rfl rfl (eN (CK.anyOrd ZN [3,3,3,3,1005,3,3,3,1005,3,3,3,1004,3,3,1005,3,3,2,0,3,pb0] (wJj (.fl 6 (.fl 7 (wPq (.fx 4 (.fl 5 (.fx 8 (.fx 15 (.fl 16 (.fl 17 (.fx 18 (.fx 19 (.fl 20 (.nil)) .stop) .stop))) .stop) .stop)) .stop))))) (by kernel_rfl) ?_))))))))))))
  have hS176:=hS105.drew
  generalize hw_W177:({ W97 with drawn:=W97.drawn + 1 }:World)=W177 at hS176 ⊢
  refine oM Z f107 (oM Z Z (oR Z (Runs.mulw Z Z Z) (oM Z f106 (oM Z f106 (oM Z f108 (oM Z f109 (oM Z Z (bnK hx99 fun _ h178 hm179=>?_))))))))
  obtain ⟨b180,hA181⟩:=hS176.rowSome (j:=2) rfl (by rw [wAF (f:=KL.encI) (sz:=1) (fun _=>rfl) x16];have hz:=wAz h178;omega)
  refine oR Z (zx Z Z hA181 Z zA zD (wAz h178)) ?_
  have hg183:=wBU (xs:=x16) (wAz h178)
  let B3:Res:=.row A82 c83 62 3 (nA wAH l81)
  refine OKS.mt (T:=[pb0]) [0] [1,2] [B3,B1] rfl rfl rfl rfl hS176 rfl ⟨⟨0,by decide,_,rfl,rfl⟩,trivial⟩ (by decide) rfl (by decide) (fun _ hZ182=>(hZ182.ldR (j:=1) rfl hA181 rfl rfl zN (wBM (sz:=1) (fun _=>rfl) _ _ 0 _ hg183 (by first | omega | rfl | simp) rfl))) rfl (zZ rfl rfl rfl rfl (fun _=>Runs.mulw rfl rfl rfl) (zP rfl rfl rfl rfl rfl f106 ?_))
  have q:=bnd hm179
  obtain ⟨⟨x184,x185⟩,h186,hm187⟩:=q
  try dsimp only at hm187
  refine OKS.callHT 1 rfl rfl rfl rfl (zG rfl rfl Tryz.call56 (zB rfl (zB rfl (zB rfl zL))) rfl) hS176 (fun hs=>wAd (⟨l76,x79,x80⟩:wAA) pb0 A77 c78 1 9 W177 U103 hs h111 h186) rfl (T:=[pb0]) rfl ⟨fun b h=>(by cases h;exact .head _),trivial⟩ ?_
  rintro U188 L189 v190 W191 le192 hS193 ⟨A194,c195,rfl,rfl,h196⟩
  have hS197:SW w [B0] U U188 [.blk pb0 136 [.slice A194 x185.bytes.length c195,jV x185.next,.int .u32 x185.state],B3,B1] W191:=hS193
  refine oR Z (zU Z Z Z) ?_
  have q:=bnd hm187
  obtain ⟨⟨x198,x199⟩,h200,hm201⟩:=q
  try dsimp only at hm201
  refine OKS.callHT 1 rfl rfl rfl rfl (zG rfl rfl Tryz.call57 (zB rfl (zB rfl zL)) rfl) hS197 (fun hs=>wAx x185 pb0 A194 c195 x2 W191 U188 hs h196 h200) rfl (T:=[pb0]) rfl ⟨fun b h=>(by cases h;exact .head _),trivial⟩ ?_
  rintro U202 L203 v204 W205 le206 hS207 ⟨A208,c209,rfl,rfl,h210⟩
  have hS211:SW w [B0] U U202 [.blk pb0 136 [.slice A208 x199.bytes.length c209,jV x199.next,.int .u32 x199.state],B3,B1] W205:=hS207
  have q:=bnd hm201
  obtain ⟨⟨x212,x213⟩,h214,hm215⟩:=q
  try dsimp only at hm215
  refine OKS.callHT 1 rfl rfl rfl rfl (zG rfl rfl Tryz.call56 (zB rfl (zB rfl (zB rfl zL))) rfl) hS211 (fun hs=>wAd x199 pb0 A208 c209 1 3 W205 U202 hs h210 h214) rfl (T:=[pb0]) rfl ⟨fun b h=>(by cases h;exact .head _),trivial⟩ ?_
  rintro U216 L217 v218 W219 le220 hS221 ⟨A222,c223,rfl,rfl,h224⟩
  let B4:Res:=.blk pb0 136 [.slice A222 x213.bytes.length c223,jV x213.next,.int .u32 x213.state]
  have hS225:SW w [B0] U U216 [B4,B3,B1] W219:=hS221
  refine oR Z (zU Z Z Z) ?_
  let B5:List Value:=[jV (w64 ((w64 (10 * (↑k85:Int))) + x184)),jV x198,jV (w64 ((w64 (3 * (gd x16 k85))) + x212))]
  let B6:List Value:=[jV 0,jV 0,jV 0]
  refine oR Z (Runs.build (pv:=[(0,jV (w64 ((w64 (10 * (↑k85:Int))) + x184))),(1,jV x198),(2,jV (w64 ((w64 (3 * (gd x16 k85))) + x212)))]) (z:=B6) (cs:=B5) Z (wAe Z (wAe Z (wAe Z wBb))) Tryz.zeroValue62 wMf Z Z) (ZE (pv:=[(0,.agg B5.toArray)]) (zs:=B6) (cs:=B5) Z Z Z Z Z (wAe Z wBb) zV ZC Tryz.zeroValue62 Z Z Z Z Z hS225 ?_)
  intro W226 b227 hS228
  let B7:Res:=.row (some ⟨b227,0,none⟩) 1 62 3 (nA wAH [(⟨w64 ((w64 (10 * (↑k85:Int))) + x184),x198,w64 ((w64 (3 * (gd x16 k85))) + x212)⟩:wAB)])
  have hS230:SW w [B0] U U216 [B7,B4,B3,B1] W226:=hS228
  refine bnK hm215 fun x231 h232 hm233=>ZG (j:=2) (enc:=wAH) (xs:=l81) (ys:=[(⟨w64 ((w64 (10 * (↑k85:Int))) + x184),x198,w64 ((w64 (3 * (gd x16 k85))) + x212)⟩:wAB)]) (zs:=x231) rfl rfl rfl rfl rfl Tryz.underlying58 wPh rfl rfl rfl rfl rfl rfl hS230 rfl rfl rfl (hS230.srcR (j:=0) rfl (by decide) (wAF (f:=wAH) (sz:=3) (fun _=>rfl) [(⟨w64 ((w64 (10 * (↑k85:Int))) + x184),x198,w64 ((w64 (3 * (gd x16 k85))) + x212)⟩:wAB)])) (fun _=>rfl) (fun _=>rfl) h232 rfl ?_
  intro A234 c235 W236 hS237
  have hS238:SW w [B0] U U216 [B7,B4,.row A234 c235 62 3 (nA wAH x231),B1] W236:=hS237
  refine oA Z Z (zn (zj (zJ (rR fL2 Z (oR Z (zk (zU Z fi102 Z) (congrArg (jV) hi113.out)) (oM Z Z (zn ?_)))))))
  cases hm233
  exact zJ ⟨rfl,⟨U216,A222,c223,A234,c235,rfl,f106,rfl,f108,f109,f110,(((le104.trans le192).trans le206).trans le220),(hS238.pick [1,2,3] _ (by decide) rfl),h224⟩⟩
 ·rintro σ247 W248 ⟨U263,A259,c260,A261,c262,fi250,f266,f267,f268,f269,f270,le264,hS265,h271⟩
  have c272:Hid (¬ ((↑((x33:Int) - 0).toNat:Int) < x33)):=zE (wBL)
  refine sR fL1 Z (oR Z (zO Z fi250 f270) (eN (zC (cF Z c272 (zu (zX (zX (zp (zJ (sR fL2 Z (oM Z f267 (oA Z Z (eN (zI ?_))))))))))))))
  cases hm86
  exact ⟨rfl,_,(ze rfl),U263,_,(hS265.pick [1,0] _ (by decide) rfl),A261,c262,A259,c260,rfl,rfl,h271⟩
theorem wCU (p0:Int) (p1:Int) (p2:Int) (w:World) (U:PHeap) (hS:St0 w U [])  {r:Bool} (hm:wBQ p0 p1 p2=some r):Gv Tryz.prog 86 [jV p0,jV p1,jV p2] w (wCR w [] U (fun U_ L_ v=>v=.bool r/\L_=[])):=by
 unfold wBQ at hm
 refine Gv.of Tryz.func86 Z Tryz.ntmps86 Tryz.results86 Z (sR fL1 Z (oA Z Z (eN (sR fL9 Z (oM Z Z (oM Z Z (oR Z (Runs.geq Z Z Z) (oM Z Z ?_))))))))
 by_cases c1:p1 <= p0
 ·have hm2:=hm;rw [if_pos c1] at hm2;replace c1:=zE c1
  refine zP Z Z Z (wT Z c1) Z Z (zP Z Z Z (wT Z c1) Z Z (rU Z (wT Z c1) (Runs.leq Z Z Z) (oR Z (zK Z (wFv c1.out) Z) (oA Z Z (eN (zI ?_))))))
  cases hm2
  exact ⟨Z,_,(ze Z),U,_,hS,Z,Z⟩
 ·have hm3:=hm;rw [if_neg c1] at hm3;replace c1:=zE c1
  refine oF Z c1 (oF Z c1 (oF Z c1 (oR Z (zr Z (zw c1.out) Z) (oA Z Z (eN (zI ?_))))))
  have hE:=nB hm3;first | subst r | cases hE
  exact ⟨Z,_,(ze Z),U,_,hS,Z,Z⟩
theorem wBl (p0:wAB) (w:World) (U:PHeap) (hS:St0 w U [])  {r:Int} (hm:wAI p0=some r):Gv Tryz.prog 142 [.agg #[jV p0.Bib,jV p0.Nation,jV p0.Rank]] w (wCR w [] U (fun U_ L_ v=>v=jV r/\L_=[])):=by
 unfold wAI at hm
 refine Gv.of Tryz.func142 rfl Tryz.ntmps142 Tryz.results142 rfl (sR (.fx 0 (.fl 1 (.nil)) .stop) rfl (OKS.box (cs:=[jV p0.Bib,jV p0.Nation,jV p0.Rank]) rfl rfl rfl rfl rfl rfl (by rfl) hS ?_))
 intro W1 b2 hS3
 refine oA Z Z (eN (sR fL3 Z (oR Z (zt Z Z zz Z zD) (oL Z (hS3.ldB (j:=0) Z Z Z zN (v:=jV p0.Bib) Z) (oA Z Z (eN (zI ?_)))))))
 cases hm
 exact ⟨rfl,_,(ze rfl),U,_,(hS3.pick [] _ (by decide) rfl),rfl,rfl⟩
theorem wBm (p0:wAB) (w:World) (U:PHeap) (hS:St0 w U [])  {r:Int} (hm:wAJ p0=some r):Gv Tryz.prog 143 [.agg #[jV p0.Bib,jV p0.Nation,jV p0.Rank]] w (wCR w [] U (fun U_ L_ v=>v=jV r/\L_=[])):=by
 unfold wAJ at hm
 refine Gv.of Tryz.func143 rfl Tryz.ntmps143 Tryz.results143 rfl (sR (.fx 0 (.fl 1 (.nil)) .stop) rfl (OKS.box (cs:=[jV p0.Bib,jV p0.Nation,jV p0.Rank]) rfl rfl rfl rfl rfl rfl (by rfl) hS ?_))
 intro W1 b2 hS3
 refine oA Z Z (eN (sR fL3 Z (oR Z (zt Z Z zz Z zD) (oL Z (hS3.ldB (j:=0) Z Z Z zN (v:=jV p0.Rank) Z) (oA Z Z (eN (zI ?_)))))))
 cases hm
 exact ⟨rfl,_,(ze rfl),U,_,(hS3.pick [] _ (by decide) rfl),rfl,rfl⟩
theorem wCV (p0:wAB) (w:World) (U:PHeap) (hS:St0 w U [])  {r:Int} (hm:wAR p0=some r):Gv Tryz.prog 144 [.agg #[jV p0.Bib,jV p0.Nation,jV p0.Rank]] w (wCR w [] U (fun U_ L_ v=>v=jV r/\L_=[])):=by
 unfold wAR at hm
 refine Gv.of Tryz.func144 rfl Tryz.ntmps144 Tryz.results144 rfl (sR (.fx 0 (.fl 1 (.nil)) .stop) rfl (OKS.box (cs:=[jV p0.Bib,jV p0.Nation,jV p0.Rank]) rfl rfl rfl rfl rfl rfl (by rfl) hS ?_))
 intro W1 b2 hS3
 refine oA Z Z (eN (sR fL3 Z (oR Z (zt Z Z zz Z zD) (oL Z (hS3.ldB (j:=0) Z Z Z zN (v:=jV p0.Nation) Z) (oA Z Z (eN (zI ?_)))))))
 cases hm
 exact ⟨rfl,_,(ze rfl),U,_,(hS3.pick [] _ (by decide) rfl),rfl,rfl⟩
theorem wFa  (w:World) (U:PHeap) (hS:St0 w U [])  {r:Unit} (hm:wBc =some r):Gv Tryz.prog 98 [] w (wCR w [] U (fun U_ L_ v=>v=.agg #[.func (.func 142) #[] #[],jV 1,jV 999,.func (.func 143) #[] #[],jV 1,jV 9999,.func (.func 144) #[] #[],jV 0,jV 30]/\L_=[])):=by
 unfold wBc at hm
 refine Gv.of Tryz.func98 Z Tryz.ntmps98 Tryz.results98 Z (sR (.fx 0 (.nil) .stop) Z ?_)
 let B0:List Value:=[.nilFunc,jV 0,jV 0,.nilFunc,jV 0,jV 0,.nilFunc,jV 0,jV 0]
 refine OKS.alloc (cs:=B0) Z Z Z Z Z Tryz.zeroValue161 Z hS ?_
 intro W1 b2 hS3
 refine eN (sR (wJj (.fx 4 (.nil) .stop)) Z ?_)
 let B1:List Value:=[.nilFunc,jV 0,jV 0]
 let B2:List Value:=[.func (.func 142) #[] #[],jV 1,jV 999]
 refine oR Z (Runs.build (pv:=[(0,.func (.func 142) #[] #[]),(1,jV 1),(2,jV 999)]) (z:=B1) (cs:=B2) Z (wAe Z (wAe Z (wAe Z wBb))) ZA wFY Z Z) ?_
 let B3:List Value:=[.func (.func 143) #[] #[],jV 1,jV 9999]
 refine oR Z (Runs.build (pv:=[(0,.func (.func 143) #[] #[]),(1,jV 1),(2,jV 9999)]) (z:=B1) (cs:=B3) Z (wAe Z (wAe Z (wAe Z wBb))) ZA wFY Z Z) ?_
 let B4:List Value:=[.func (.func 144) #[] #[],jV 0,jV 30]
 refine oR Z (Runs.build (pv:=[(0,.func (.func 144) #[] #[]),(1,jV 0),(2,jV 30)]) (z:=B1) (cs:=B4) Z (wAe Z (wAe Z (wAe Z wBb))) ZA wFY Z Z) ?_
 let B5:List Value:=[.func (.func 142) #[] #[],jV 1,jV 999,.func (.func 143) #[] #[],jV 1,jV 9999,.func (.func 144) #[] #[],jV 0,jV 30]
 refine oR Z (Runs.buildA (pv:=[(0,.agg B2.toArray),(1,.agg B3.toArray),(2,.agg B4.toArray)]) (z:=B0) (cs:=B5) Z (wAe Z (wAe Z (wAe Z wBb))) Tryz.zeroValue161 ZK zY Z Z) (OKS.st (j:=0) (vs:=B5) Z Z Z Z hS3 Z Z Z Z Tryz.sizeOf161 (zW Z) Z Z Z ?_)
 intro W5 hS6
 have hS7:sW w U U [.blk b2 161 B5] W5:=hS6
 refine eN (zI ?_)
 cases hm
 exact ⟨rfl,_,(wOq (v:=.agg B5.toArray) ⟨⟨_,rfl,(wOr Tryz.isAgg161 Tryz.sizeOf161 (hS7.blkAt (k:=0) rfl) (vs:=B5) rfl rfl)⟩,trivial⟩),U,_,(hS7.pick [] _ (by decide) rfl),rfl,rfl⟩
theorem wAv (p0:wAE) (pv0_0:Value) (p1:List wAB) (pA1:Option Addr) (pc1:Nat) (w:World) (U:PHeap) (hS:St0 w U []) (ha0:FnOK Tryz.prog U pv0_0 wFo wFp p0.of) (ha1:Sl U 3 pA1 pc1 p1.length (nA wAH p1)) {r:(List Int)} (hm:wAT p0 p1=some r):Gv Tryz.prog 100 [.agg #[pv0_0,jV p0.lo,jV p0.hi],.slice pA1 p1.length pc1] w (wCR w [] U (fun U_ L_ v=>∃ (A0:Option Addr) (c0:Nat),v=.slice A0 r.length c0/\L_=[.row A0 c0 3 1 (nA KL.encI r)])):=by
 unfold wAT at hm
 refine Gv.of Tryz.func100 Z Tryz.ntmps100 Tryz.results100 Z (sR (.fx 0 (.fl 1 (.nil)) .stop) Z ?_)
 let B0:List Value:=[pv0_0,jV p0.lo,jV p0.hi]
 refine OKS.box (cs:=B0) rfl rfl rfl rfl rfl rfl (by rfl) hS ?_
 intro W1 b2 hS3
 refine oA Z Z (eN (sR fL1 Z (oA Z Z (eN (zC (sR fL3 Z (oM Z Z (oR Z (zQ Z Z zV) (oM Z Z (eN (zM (bnK hm fun y27 hf24 hm23=>?_))))))))))))
 have q:=wBr hf24
 obtain ⟨hle25,hf26⟩:=q
 replace hle25:=zE hle25
 refine CK.forN' (fun k22 l18 σ_ w_=>∃ (U_:PHeap) (A19:Option Addr) (c20:Nat),σ_ 10=jV (↑k22:Int)/\σ_ 2=.pointer (some ⟨b2,0,none⟩)/\σ_ 5=.slice A19 l18.length c20/\σ_ 8=.slice pA1 p1.length pc1/\σ_ 9=jV (↑p1.length:Int)/\PHeap.Le U U_/\sW w U U_ [.blk b2 160 B0,.row A19 c20 3 1 (nA KL.encI l18)] w_) hf26 ?_ ?_ ?_
 ·have hS28:=hS3.nilrow 3 1
  exact ⟨U,none,0,rfl,rfl,rfl,rfl,rfl,(zf _),(hS28.pick [1,0] _ (by decide) rfl)⟩
 ·rintro k22 l18 xx32 σ30 W31 hk35 ⟨U37,A19,c20,fi36,f40,f41,f42,f43,le38,hS39⟩ hx33
  have c44:Hid ((↑k22:Int) < (↑p1.length:Int)):=zE (wBu hk35)
  replace hk35:=zE hk35
  have hi45:Hid (w64 ((↑k22:Int) + 1)=(↑(k22 + 1):Int)):=zE (by have h1:=hle25.out;have h2:=c44.out;rw [wAc] <;> omega)
  refine sR fL1 Z (oR Z (zO Z fi36 f43) (eN (zC (cT Z c44 (kN (zC (zM (sR (.fl 0 (.fl 1 (.fx 2 (.fx 3 (.nil) .stop) .stop))) Z (bnK hx33 fun x46 h47 hm48=>?_)))))))))
  have h49:=ha1.le le38
  have q:=h49.el (fun _=>rfl) (wAg h47)
  obtain ⟨b50,off51,hA52,hC53⟩:=q
  refine oR Z (zx Z f42 hA52 fi36 zV ZC (wCG h47)) (oL Z (hS39.ldCA (f:=0) hC53 Z Z Tryz.isAgg62 ZC (us:=[jV x46.Bib,jV x46.Nation,jV x46.Rank]) Z Z) (OKS.alloc (cs:=[jV 0,jV 0,jV 0]) Z Z Z Z Z Tryz.zeroValue62 Z hS39 ?_))
  intro W54 b55 hS56
  let B1:List Value:=[jV x46.Bib,jV x46.Nation,jV x46.Rank]
  refine OKS.st (j:=0) (vs:=B1) Z Z Z Z hS56 Z Z Z Z ZC (zW Z) Z Z Z ?_
  intro W58 hS59
  let B2:Res:=.row A19 c20 3 1 (nA KL.encI l18)
  have hS60:sW w U U37 [.blk b55 62 B1,.blk b2 160 B0,B2] W58:=hS59
  refine eN (rR (wJj (.fx 4 (.fx 5 (.fx 6 (.fl 7 (.nil)) .stop) .stop) .stop)) Z (oM Z f41 (oR Z (zt Z f40 Tryz.runUnderlying160 Z Tryz.sizeOf158) (oL Z (hS60.ldB (j:=1) Z Z Z Tryz.isAgg158 (v:=pv0_0) Z) (oL Z (hS60.ldBA (j:=0) Z Z Z Tryz.isAgg62 ZC (vs:=B1) Z Z) (bnK hm48 fun x61 h62 hm63=>?_))))))
  have h70:=ha0.le le38
  refine OKS.callV (a:=x46) Z Z Z Z Z Z (zB Z zL) hS60 h70 Z h62 ?_
  rintro U64 L65 v66 W67 le68 hS69 ⟨rfl,rfl⟩
  have hS71:sW w U U64 [.blk b55 62 B1,.blk b2 160 B0,B2] W67:=hS69
  refine ZE (pv:=[(0,jV x61)]) (zs:=[jV 0]) (cs:=[jV x61]) Z Z Z Z Z (wAe Z wBb) zA zD Tryz.zeroValue3 Z Z Z Z Z hS71 ?_
  intro W72 b73 hS74
  let B3:Res:=.row (some ⟨b73,0,none⟩) 1 3 1 (nA KL.encI [x61])
  have hS76:sW w U U64 [B3,.blk b55 62 B1,.blk b2 160 B0,B2] W72:=hS74
  refine bnK hm63 fun x77 h78 hm79=>ZG (j:=3) (enc:=KL.encI) (xs:=l18) (ys:=[x61]) (zs:=x77) rfl rfl rfl rfl rfl zq wFZ rfl rfl rfl rfl rfl rfl hS76 rfl rfl rfl (hS76.srcR (j:=0) rfl (by decide) (wAF (f:=KL.encI) (sz:=1) (fun _=>rfl) [x61])) (fun _=>rfl) (fun _=>rfl) h78 rfl ?_
  intro A80 c81 W82 hS83
  have hS84:sW w U U64 [B3,.blk b55 62 B1,.blk b2 160 B0,.row A80 c81 3 1 (nA KL.encI x77)] W82:=hS83
  refine oA Z Z (zn (zj (zJ (rR fL2 Z (oR Z (zk (zU Z fi36 Z) (congrArg (jV) hi45.out)) (oM Z Z (zn ?_)))))))
  cases hm79
  exact zJ ⟨rfl,⟨U64,A80,c81,rfl,f40,rfl,f42,f43,(le38.trans le68),(hS84.pick [2,3] _ (by decide) rfl)⟩⟩
 ·rintro σ88 W89 ⟨U97,A95,c96,fi91,f100,f101,f102,f103,le98,hS99⟩
  have c104:Hid (¬ ((↑(((↑p1.length:Int):Int) - 0).toNat:Int) < (↑p1.length:Int))):=zE (wBL)
  refine sR fL1 Z (oR Z (zO Z fi91 f103) (eN (zC (cF Z c104 (zu (zX (zX (zp (zJ (sR fL2 Z (oM Z f101 (oA Z Z (eN (zI ?_))))))))))))))
  have hE:=nB hm23;first | subst r | cases hE
  exact ⟨rfl,_,(ze rfl),U97,_,(hS99.pick [1] _ (by decide) rfl),A95,c96,rfl,rfl⟩
end Go.Proofs.YtghaibkggdecnaaGreat
namespace Go.Proofs.YtghaibkggdecnaaGreat
open Go.KL
set_option maxHeartbeats 4000000
theorem wCF (p0:Int) (p1:wAE) (pb1:Nat) (pv1_0:Value) (w:World) (U:PHeap) (hS:St0 w U []) (ha0:Cl U pb1 0 [pv1_0,jV p1.lo,jV p1.hi]) (ha1:FnOK Tryz.prog U pv1_0 wFo wFp p1.of) {r:Bool} (hm:wAS p0 p1=some r):Gv Tryz.prog 101 [jV p0,.pointer (some ⟨pb1,0,none⟩)] w (wCR w [] U (fun U_ L_ v=>v=.bool r/\L_=[])):=by
 unfold wAS at hm
 refine Gv.of Tryz.func101 Z Tryz.ntmps101 Tryz.results101 Z (sR fL1 Z (oA Z Z (eN (sR (wOa (.fx 5 (.fl 6 (.nil)) .stop)) Z (oM Z Z (oR Z (zt Z Z Tryz.runUnderlying160 Z zD) (oL Z (hS.ldC (f:=1) ha0 (v:=jV p1.lo) Z Z zN Z) (oR Z (zt Z Z Tryz.runUnderlying160 Z zD) (oL Z (hS.ldC (f:=2) ha0 (v:=jV p1.hi) Z Z zN Z) (bnK hm fun x1 h2 hm3=>zH 0 Z Z Z Z (zG Z Z Tryz.call86 (zB Z (zB Z (zB Z zL))) Z) hS (fun hs=>wCU p0 p1.lo p1.hi w U hs h2) (.inr Z) ?_))))))))))
 rintro U4 L5 v6 W7 le8 hS9 ⟨rfl,rfl⟩
 have hS10:sW w U U4 [] W7:=hS9
 refine oA Z Z (eN (zI ?_))
 have hE:=nB hm3;first | subst r | cases hE
 exact ⟨Z,_,(ze Z),U4,_,hS10,Z,Z⟩
theorem wBO (p0:List Int) (pA0:Option Addr) (pc0:Nat) (p1:(Int->Option Bool)) (pv1:Value) (w:World) (U:PHeap) (hS:St0 w U []) (ha0:Sl U 1 pA0 pc0 p0.length (nA KL.encI p0)) (ha1:FnOK Tryz.prog U pv1 wJY wJZ p1) {r:Bool} (hm:wAY p0 p1=some r):Gv Tryz.prog 99 [.slice pA0 p0.length pc0,pv1] w (wCR w [] U (fun U_ L_ v=>v=.bool r/\L_=[])):=by
 unfold wAY at hm
 refine Gv.of Tryz.func99 Z Tryz.ntmps99 Tryz.results99 Z (sR fL1 Z (oA Z Z (eN (zC (sR fL3 Z (oM Z Z (oR Z (zQ Z Z zA) (oM Z Z (eN (zM ?_))))))))))
 have q:=wCv hm
 obtain ⟨r3,hX4⟩:=q
 have q:=wCu hX4
 obtain ⟨hle5,hf6⟩:=q
 replace hle5:=zE hle5
 refine CK.forN (fun k2 _ σ_ w_=>∃ (U_:PHeap),σ_ 9=jV (↑k2:Int)/\σ_ 1=pv1/\σ_ 7=.slice pA0 p0.length pc0/\σ_ 8=jV (↑p0.length:Int)/\PHeap.Le U U_/\sW w U U_ [] w_) hf6 ?_ ?_ ?_
 ·exact ⟨U,Z,Z,Z,Z,(zf _),hS⟩
 ·rintro k2 ⟨⟩ xx9 σ7 W8 hk12 ⟨U14,fi13,f17,f18,f19,le15,hS16⟩ hx10 hb11
  try dsimp only at hx10
  have c20:Hid ((↑k2:Int) < (↑p0.length:Int)):=zE (wBu hk12)
  replace hk12:=zE hk12
  have hi21:Hid (w64 ((↑k2:Int) + 1)=(↑(k2 + 1):Int)):=zE (by have h1:=hle5.out;have h2:=c20.out;rw [wAc] <;> omega)
  refine sR fL1 Z (oR Z (zO Z fi13 f19) (eN (zC (cT Z c20 (kN (zC (zM (sR fL3 Z (bnK hx10 fun x22 h23 hm24=>?_)))))))))
  have h25:=ha0.le le15
  have q:=h25.el (fun _=>rfl) (wAg h23)
  obtain ⟨b26,off27,hA28,hC29⟩:=q
  refine oR Z (zx Z f18 hA28 fi13 zA zD (wCG h23)) (oL Z (hS16.ldC (f:=0) hC29 (v:=jV x22) Z Z zN Z) (oA Z Z (eN (sR (.fl 0 (.fl 1 (.fx 2 (.fl 3 (.nil)) .stop))) Z (oM Z f17 (oM Z Z (bnK hm24 fun x30 h31 hm32=>?_)))))))
  have h39:=ha1.le le15
  refine OKS.callV (a:=x22) Z Z Z Z Z Z (zB Z zL) hS16 h39 Z h31 ?_
  rintro U33 L34 v35 W36 le37 hS38 ⟨rfl,rfl⟩
  have hS40:sW w U U33 [] W36:=hS38
  refine oR Z (ZD Z Z) (eN (ifc hm32 ?_ ?_))
  ·intro c41 hm42
   refine zi (nC c41.out) (CK.skip (zj (zJ (rR fL2 Z (oR Z (zk (zU Z fi13 Z) (congrArg (jV) hi21.out)) (oM Z Z (zn ?_)))))))
   obtain rfl:=nB hm42
   exact zJ ⟨Z,_,Z,⟨U33,Z,f17,f18,f19,(le15.trans le37),hS40⟩⟩
  ·intro c41 hm43
   refine zd (nF (c41.out)) (sR fL1 Z (oA Z Z (eN (zI (zR (zF ?_))))))
   have q:=wBE hm43
   obtain ⟨v44,hm45,e46⟩:=q
   obtain rfl:=wCT hm hX4 (hb11 v44 e46)
   refine zF (zR (zF ?_))
   have hE:=nB hm45;first | subst r | cases hE
   exact ⟨Z,_,(ze Z),U33,_,hS40,Z,Z⟩
 ·rintro ⟨⟩ σ47 W48 ⟨U51,fi50,f54,f55,f56,le52,hS53⟩ hb49
  have hm57:=wEP hm hX4 hb49
  try dsimp only at hm57
  have c58:Hid (¬ ((↑(((↑p0.length:Int):Int) - 0).toNat:Int) < (↑p0.length:Int))):=zE (wBL)
  refine sR fL1 Z (oR Z (zO Z fi50 f56) (eN (zC (cF Z c58 (zu (zX (zX (zp (zJ (sR fL1 Z (oA Z Z (eN (zI ?_)))))))))))))
  have hE:=nB hm57;first | subst r | cases hE
  exact ⟨Z,_,(ze Z),U51,_,hS53,Z,Z⟩
theorem wCk (p0:List Int) (pA0:Option Addr) (pc0:Nat) (w:World) (U:PHeap) (hS:St0 w U []) (ha0:Sl U 1 pA0 pc0 p0.length (nA KL.encI p0)) {r:Bool} (hm:wBF p0=some r):Gv Tryz.prog 87 [.slice pA0 p0.length pc0] w (wCR w [] U (fun U_ L_ v=>v=.bool r/\L_=[])):=by
 unfold wBF at hm
 refine Gv.of Tryz.func87 Z Tryz.ntmps87 Tryz.results87 Z (sR fL1 Z (oA Z Z (eN (sR (.fx 0 (.fl 1 (.nil)) .stop) Z (OKS.makeMap Z Z Z Z Z hS ?_)))))
 intro W1 b2 hS3
 have hr4:=MpR.nil wLX wMe
 refine oA Z Z (eN (zC (sR fL3 Z (oM Z Z (oR Z (zQ Z Z zA) (oM Z Z (eN (zM ?_))))))))
 have q:=wCv hm
 obtain ⟨r21,hX22⟩:=q
 have q:=wCu hX22
 obtain ⟨hle23,hf24⟩:=q
 replace hle23:=zE hle23
 refine CK.forN (fun k20 l17 σ_ w_=>∃ (U_:PHeap) (es18:Array MapEntry) (ck19:Nat),σ_ 9=jV (↑k20:Int)/\σ_ 3=.map (some b2)/\σ_ 7=.slice pA0 p0.length pc0/\σ_ 8=jV (↑p0.length:Int)/\PHeap.Le U U_/\sW w U U_ [.obj b2 (.map es18 ck19)] w_/\MpR es18 wLX wMe l17) hf24 ?_ ?_ ?_
 ·exact ⟨U,#[],0,Z,Z,Z,Z,(zf _),hS3,hr4⟩
 ·rintro k20 l17 xx27 σ25 W26 hk30 ⟨U32,es18,ck19,fi31,f35,f36,f37,le33,hS34,h38⟩ hx28 hb29
  have c39:Hid ((↑k20:Int) < (↑p0.length:Int)):=zE (wBu hk30)
  replace hk30:=zE hk30
  have hi40:Hid (w64 ((↑k20:Int) + 1)=(↑(k20 + 1):Int)):=zE (by have h1:=hle23.out;have h2:=c39.out;rw [wAc] <;> omega)
  refine sR fL1 Z (oR Z (zO Z fi31 f37) (eN (zC (cT Z c39 (kN (zC (zM (sR fL3 Z (bnK hx28 fun x41 h42 hm43=>?_)))))))))
  have h44:=ha0.le le33
  have q:=h44.el (fun _=>rfl) (wAg h42)
  obtain ⟨b45,off46,hA47,hC48⟩:=q
  refine oR Z (zx Z f36 hA47 fi31 zA zD (wCG h42)) (oL Z (hS34.ldC (f:=0) hC48 (v:=jV x41) Z Z zN Z) (oA Z Z (eN (zC (sR fL3 Z (oM Z f35 (oM Z Z (oL Z (hS34.lookup1 (j:=0) (mk:=wLX) (mv:=wMe) (a:=x41) (z:=false) Z Z Z Z (wHA Tryz.runUnderlying180) wLZ Tryz.zeroValue4 h38) (eN (ifc hm43 ?_ ?_))))))))))
  ·intro c49 hm50
   refine zd (congrArg nD c49.out) (sR fL1 Z (oA Z Z (eN (zI (zF (zR (zF ?_)))))))
   have q:=wBE hm50
   obtain ⟨v51,hm52,e53⟩:=q
   obtain rfl:=wCT hm hX22 (hb29 v51 e53)
   refine zF (zR (zF ?_))
   have hE:=nB hm52;first | subst r | cases hE
   exact ⟨rfl,_,(ze rfl),U32,_,(hS34.pick [] _ (by decide) rfl),rfl,rfl⟩
  ·intro c49 hm54
   refine zi (congrArg nD (nJ.2 c49.out)) (kN (rR (.fl 0 (.fl 1 (.fx 2 (.nil) .stop))) rfl (zP rfl rfl rfl rfl rfl f35 (zP rfl rfl rfl rfl rfl rfl (OKS.mapPut (x:=.tmp 16) (y:=.tmp 17) (j:=0) (mk:=wLX) (mv:=wMe) (a:=x41) (v:=true) rfl rfl rfl (by first | exact .inl rfl | exact .inr rfl) hS34 rfl rfl rfl rfl (wHA Tryz.runUnderlying180) wLZ h38 rfl ?_)))))
   intro es55 ck56 W57 hr58 hS59
   have hS60:sW w U U32 [.obj b2 (.map es55 ck56)] W57:=hS59
   refine zn (zj (zJ (rR fL2 Z (oR Z (zk (zU Z fi31 Z) (congrArg (jV) hi40.out)) (oM Z Z (zn ?_))))))
   obtain rfl:=nB hm54
   exact zJ ⟨Z,_,Z,⟨U32,es55,ck56,Z,f35,f36,f37,le33,hS60,hr58⟩⟩
 ·rintro y68 σ64 W65 ⟨U71,e69,c70,fi67,f74,f75,f76,le72,hS73,h77⟩ hb66
  have hm78:=wEP hm hX22 hb66
  have c79:Hid (¬ ((↑(((↑p0.length:Int):Int) - 0).toNat:Int) < (↑p0.length:Int))):=zE (wBL)
  refine sR fL1 Z (oR Z (zO Z fi67 f76) (eN (zC (cF Z c79 (zu (zX (zX (zp (zJ (sR fL1 Z (oA Z Z (eN (zI ?_)))))))))))))
  have hE:=nB hm78;first | subst r | cases hE
  exact ⟨rfl,_,(ze rfl),U71,_,(hS73.pick [] _ (by decide) rfl),rfl,rfl⟩
theorem wDy (p0:List wAB) (pA0:Option Addr) (pc0:Nat) (w:World) (U:PHeap) (hS:St0 w U []) (ha0:Sl U 3 pA0 pc0 p0.length (nA wAH p0)) {r:Int} (hm:wBR p0=some r):Gv Tryz.prog 41 [.slice pA0 p0.length pc0] w (wCR w [] U (fun U_ L_ v=>v=jV r/\L_=[])):=by
 unfold wBR at hm
 refine Gv.of Tryz.func41 Z Tryz.ntmps41 Tryz.results41 Z (sR fL1 Z (oA Z Z (eN (zC (sR (.fl 0 (.fl 1 (.fx 2 (.fl 3 (.nil)) .stop))) Z (oM Z Z (oR Z (zQ Z Z zV) (bnK hm fun x1 h2 hm3=>zH 0 Z Z Z Z (zG Z Z Tryz.call86 (zB Z (zB Z (zB Z zL))) Z) hS (fun hs=>wCU (↑p0.length:Int) 1 60 w U hs h2) (.inr Z) ?_))))))))
 rintro U4 L5 v6 W7 le8 hS9 ⟨rfl,rfl⟩
 have hS10:sW w U U4 [] W7:=hS9
 refine oR Z (ZD Z Z) (eN (ifc hm3 ?_ ?_))
 ·intro c11 hm12
  refine zi (nC c11.out) (kN (sR (.fx 0 (.fx 1 (.fx 2 (.nil) .stop) .stop) .stop) Z ?_))
  have q:=bnd hm12
  obtain ⟨⟨⟩,h13,hm14⟩:=q
  try dsimp only at hm14
  refine zH 0 Z Z Z Z (zG Z Z Tryz.call98 zL Z) hS10 (fun hs=>wFa W7 U4 hs h13) (.inr Z) ?_
  rintro U15 L16 v17 W18 le19 hS20 ⟨rfl,rfl⟩
  have hS21:sW w U U15 [] W18:=hS20
  refine OKS.alloc (cs:=[.nilFunc,jV 0,jV 0,.nilFunc,jV 0,jV 0,.nilFunc,jV 0,jV 0]) Z Z Z Z Z Tryz.zeroValue161 Z hS21 ?_
  intro W22 b23 hS24
  let B0:List Value:=[.func (.func 142) #[] #[],jV 1,jV 999,.func (.func 143) #[] #[],jV 1,jV 9999,.func (.func 144) #[] #[],jV 0,jV 30]
  refine OKS.st (j:=0) (vs:=B0) Z Z Z Z hS24 Z Z Z Z Tryz.sizeOf161 (zW Z) Z Z Z ?_
  intro W26 hS27
  have hS28:sW w U U15 [.blk b23 161 B0] W26:=hS27
  refine eN (zC (sR fL2 rfl (OKS.m rfl rfl rfl rfl (hS28.ldBA (j:=0) rfl rfl rfl Tryz.isAgg161 Tryz.sizeOf161 (vs:=B0) rfl rfl) rfl (zP rfl rfl rfl rfl rfl rfl (eN (zM (CK.unroll 4 (CKR.succ (sR fL1 rfl (zZ rfl rfl rfl rfl (fun _=>zO rfl rfl rfl) (eN (zC (zd (wFv (by decide)) (kN (zC (zM (sR (.fl 0 (.fx 1 (.fx 2 (.nil) .stop) .stop)) rfl (zZ rfl rfl rfl rfl (fun _=>(Runs.ixA (i:=0) rfl rfl rfl ZK zY (by decide) (by decide) (wDG ZB zY rfl))) ?_))))))))))))))))))
  let B1:List Value:=[.nilFunc,jV 0,jV 0]
  refine OKS.alloc (cs:=B1) Z Z Z Z Z ZA Z hS28 ?_
  intro W29 b30 hS31
  let B2:List Value:=[.func (.func 142) #[] #[],jV 1,jV 999]
  refine OKS.st (j:=0) (vs:=B2) Z Z Z Z hS31 Z Z Z Z zY (zW Z) Z Z Z ?_
  intro W33 hS34
  have hS35:sW w U U15 [.blk b30 160 B2,.blk b23 161 B0] W33:=hS34
  refine eN (sR (.fl 0 (.fl 1 (.fx 2 (.fl 3 (.fx 4 (.fl 5 (.nil)) .stop)) .stop))) Z (oL Z (hS35.ldBA (j:=0) Z Z Z ZB zY (vs:=B2) Z Z) (oM Z Z ?_)))
  have hF36:FnOK Tryz.prog U15 (.func (.func 142) #[] #[]) wFo wFp wAI:=⟨142,[],[],rfl,Tryz.call142,fun U1 w1 x y vs le hs ha hm=>by obtain rfl:=ha;exact wBl x w1 U1 hs  hm⟩
  have h37:=ha0.le le8
  have h38:=h37.le le19
  refine bnK hm14 fun x39 h40 hm41=>zH 0 Z Z Z Z (zG Z Z Tryz.call100 (zB Z (zB Z zL)) Z) hS35 (fun hs=>wAv (⟨wAI,1,999⟩:wAE) (.func (.func 142) #[] #[]) p0 pA0 pc0 W33 U15 hs hF36 h38 h40) (.inr Z) ?_
  rintro U42 L43 v44 W45 le46 hS47 ⟨A48,c49,rfl,rfl⟩
  let B3:Res:=.row A48 c49 3 1 (nA KL.encI x39)
  have hS51:sW w U U42 [B3,.blk b30 160 B2,.blk b23 161 B0] W45:=hS47
  have q:=hS51.freeze (k:=1) rfl
  obtain ⟨U52,le53,hC54,hS55⟩:=q
  replace hC54:=Cl.of hC54
  have hS56:sW w U U52 [B3,.blk b23 161 B0] W45:=hS55
  replace hC54:Cl U52 b30 0 B2:=hC54
  refine oR Z (Runs.mkf Z zL (zB Z zL)) ?_
  have q:=hS56.freezeR (k:=0) (n:=x39.length) rfl (wAF (f:=KL.encI) (sz:=1) (fun _=>rfl) x39) (by decide)
  obtain ⟨U57,le58,hs59,hS60⟩:=q
  have hS61:sW w U U57 [.blk b23 161 B0] W45:=hS60
  have h62:=hC54.le le58
  have hF63:FnOK Tryz.prog U57 (.func (.func 142) #[] #[]) wFo wFp wAI:=⟨142,[],[],rfl,Tryz.call142,fun U1 w1 x y vs le hs ha hm=>by obtain rfl:=ha;exact wBl x w1 U1 hs  hm⟩
  have hF64:FnOK Tryz.prog U57 (.func (.func 101) #[] #[.pointer (some ⟨b30,0,none⟩)]) wJY wJZ (fun x=>wAS x (⟨wAI,1,999⟩:wAE)):=⟨101,[],[.pointer (some ⟨b30,0,none⟩)],rfl,Tryz.call101,fun U1 w1 x y vs le hs ha hm=>by obtain rfl:=ha;exact wCF x (⟨wAI,1,999⟩:wAE) b30 (.func (.func 142) #[] #[]) w1 U1 hs (h62.le le) (hF63.le le) hm⟩
  refine bnK hm41 fun x65 h66 hm67=>zH 0 Z Z Z Z (zG Z Z Tryz.call99 (zB Z (zB Z zL)) Z) hS61 (fun hs=>wBO x39 A48 c49 (fun x=>wAS x (⟨wAI,1,999⟩:wAE)) (.func (.func 101) #[] #[.pointer (some ⟨b30,0,none⟩)]) W45 U57 hs hs59 hF64 h66) (.inr Z) ?_
  rintro U68 L69 v70 W71 le72 hS73 ⟨rfl,rfl⟩
  have hS74:sW w U U68 [.blk b23 161 B0] W71:=hS73
  refine oR Z (ZD Z Z) (eN (ifc hm67 ?_ ?_))
  ·intro c75 hm76
   refine zi (nC c75.out) (CK.skip (zj (zJ (rR fL2 rfl (zZ rfl rfl rfl rfl (fun _=>zk (zU rfl rfl rfl) (congrArg (jV) (show w64 (0 + 1)=1 by decide))) (zP rfl rfl rfl rfl rfl rfl (eN (CKR.succ (sR fL1 rfl (zZ rfl rfl rfl rfl (fun _=>zO rfl rfl rfl) (eN (zC (zd (wFv (by decide)) (kN (zC (zM (sR (.fl 0 (.fx 1 (.fx 2 (.nil) .stop) .stop)) rfl (zZ rfl rfl rfl rfl (fun _=>(Runs.ixA (i:=1) rfl rfl rfl ZK zY (by decide) (by decide) (wDG ZB zY rfl))) (OKS.alloc (cs:=B1) rfl rfl rfl rfl rfl ZA rfl hS74 ?_)))))))))))))))))))
   intro W77 b78 hS79
   let B4:List Value:=[.func (.func 143) #[] #[],jV 1,jV 9999]
   refine OKS.st (j:=0) (vs:=B4) Z Z Z Z hS79 Z Z Z Z zY (zW Z) Z Z Z ?_
   intro W81 hS82
   have hS83:sW w U U68 [.blk b78 160 B4,.blk b23 161 B0] W81:=hS82
   refine eN (sR (.fl 0 (.fl 1 (.fx 2 (.fl 3 (.fx 4 (.fl 5 (.nil)) .stop)) .stop))) Z (oL Z (hS83.ldBA (j:=0) Z Z Z ZB zY (vs:=B4) Z Z) (oM Z Z ?_)))
   have hF84:FnOK Tryz.prog U68 (.func (.func 143) #[] #[]) wFo wFp wAJ:=⟨143,[],[],rfl,Tryz.call143,fun U1 w1 x y vs le hs ha hm=>by obtain rfl:=ha;exact wBm x w1 U1 hs  hm⟩
   have h85:=h38.le le46
   have h86:=h85.le le53
   have h87:=h86.le le58
   have h88:=h87.le le72
   refine bnK hm76 fun x89 h90 hm91=>zH 0 Z Z Z Z (zG Z Z Tryz.call100 (zB Z (zB Z zL)) Z) hS83 (fun hs=>wAv (⟨wAJ,1,9999⟩:wAE) (.func (.func 143) #[] #[]) p0 pA0 pc0 W81 U68 hs hF84 h88 h90) (.inr Z) ?_
   rintro U92 L93 v94 W95 le96 hS97 ⟨A98,c99,rfl,rfl⟩
   let B5:Res:=.row A98 c99 3 1 (nA KL.encI x89)
   have hS101:sW w U U92 [B5,.blk b78 160 B4,.blk b23 161 B0] W95:=hS97
   have q:=hS101.freeze (k:=1) rfl
   obtain ⟨U102,le103,hC104,hS105⟩:=q
   replace hC104:=Cl.of hC104
   have hS106:sW w U U102 [B5,.blk b23 161 B0] W95:=hS105
   replace hC104:Cl U102 b78 0 B4:=hC104
   refine oR Z (Runs.mkf Z zL (zB Z zL)) ?_
   have q:=hS106.freezeR (k:=0) (n:=x89.length) rfl (wAF (f:=KL.encI) (sz:=1) (fun _=>rfl) x89) (by decide)
   obtain ⟨U107,le108,hs109,hS110⟩:=q
   have hS111:sW w U U107 [.blk b23 161 B0] W95:=hS110
   have h112:=hC104.le le108
   have hF113:FnOK Tryz.prog U107 (.func (.func 143) #[] #[]) wFo wFp wAJ:=⟨143,[],[],rfl,Tryz.call143,fun U1 w1 x y vs le hs ha hm=>by obtain rfl:=ha;exact wBm x w1 U1 hs  hm⟩
   have hF114:FnOK Tryz.prog U107 (.func (.func 101) #[] #[.pointer (some ⟨b78,0,none⟩)]) wJY wJZ (fun x=>wAS x (⟨wAJ,1,9999⟩:wAE)):=⟨101,[],[.pointer (some ⟨b78,0,none⟩)],rfl,Tryz.call101,fun U1 w1 x y vs le hs ha hm=>by obtain rfl:=ha;exact wCF x (⟨wAJ,1,9999⟩:wAE) b78 (.func (.func 143) #[] #[]) w1 U1 hs (h112.le le) (hF113.le le) hm⟩
   refine bnK hm91 fun x115 h116 hm117=>zH 0 Z Z Z Z (zG Z Z Tryz.call99 (zB Z (zB Z zL)) Z) hS111 (fun hs=>wBO x89 A98 c99 (fun x=>wAS x (⟨wAJ,1,9999⟩:wAE)) (.func (.func 101) #[] #[.pointer (some ⟨b78,0,none⟩)]) W95 U107 hs hs109 hF114 h116) (.inr Z) ?_
   rintro U118 L119 v120 W121 le122 hS123 ⟨rfl,rfl⟩
   have hS124:sW w U U118 [.blk b23 161 B0] W121:=hS123
   refine oR Z (ZD Z Z) (eN (ifc hm117 ?_ ?_))
   ·intro c125 hm126
    refine zi (nC c125.out) (CK.skip (zj (zJ (rR fL2 rfl (zZ rfl rfl rfl rfl (fun _=>zk (zU rfl rfl rfl) (congrArg (jV) (show w64 (1 + 1)=2 by decide))) (zP rfl rfl rfl rfl rfl rfl (eN (CKR.succ (sR fL1 rfl (zZ rfl rfl rfl rfl (fun _=>zO rfl rfl rfl) (eN (zC (zd (wFv (by decide)) (kN (zC (zM (sR (.fl 0 (.fx 1 (.fx 2 (.nil) .stop) .stop)) rfl (zZ rfl rfl rfl rfl (fun _=>(Runs.ixA (i:=2) rfl rfl rfl ZK zY (by decide) (by decide) (wDG ZB zY rfl))) (OKS.alloc (cs:=B1) rfl rfl rfl rfl rfl ZA rfl hS124 ?_)))))))))))))))))))
    intro W127 b128 hS129
    let B6:List Value:=[.func (.func 144) #[] #[],jV 0,jV 30]
    refine OKS.st (j:=0) (vs:=B6) Z Z Z Z hS129 Z Z Z Z zY (zW Z) Z Z Z ?_
    intro W131 hS132
    have hS133:sW w U U118 [.blk b128 160 B6,.blk b23 161 B0] W131:=hS132
    refine eN (sR (.fl 0 (.fl 1 (.fx 2 (.fl 3 (.fx 4 (.fl 5 (.nil)) .stop)) .stop))) Z (oL Z (hS133.ldBA (j:=0) Z Z Z ZB zY (vs:=B6) Z Z) (oM Z Z ?_)))
    have hF134:FnOK Tryz.prog U118 (.func (.func 144) #[] #[]) wFo wFp wAR:=⟨144,[],[],rfl,Tryz.call144,fun U1 w1 x y vs le hs ha hm=>by obtain rfl:=ha;exact wCV x w1 U1 hs  hm⟩
    have h135:=h88.le le96
    have h136:=h135.le le103
    have h137:=h136.le le108
    have h138:=h137.le le122
    refine bnK hm126 fun x139 h140 hm141=>zH 0 Z Z Z Z (zG Z Z Tryz.call100 (zB Z (zB Z zL)) Z) hS133 (fun hs=>wAv (⟨wAR,0,30⟩:wAE) (.func (.func 144) #[] #[]) p0 pA0 pc0 W131 U118 hs hF134 h138 h140) (.inr Z) ?_
    rintro U142 L143 v144 W145 le146 hS147 ⟨A148,c149,rfl,rfl⟩
    let B7:Res:=.row A148 c149 3 1 (nA KL.encI x139)
    have hS151:sW w U U142 [B7,.blk b128 160 B6,.blk b23 161 B0] W145:=hS147
    have q:=hS151.freeze (k:=1) rfl
    obtain ⟨U152,le153,hC154,hS155⟩:=q
    replace hC154:=Cl.of hC154
    have hS156:sW w U U152 [B7,.blk b23 161 B0] W145:=hS155
    replace hC154:Cl U152 b128 0 B6:=hC154
    refine oR Z (Runs.mkf Z zL (zB Z zL)) ?_
    have q:=hS156.freezeR (k:=0) (n:=x139.length) rfl (wAF (f:=KL.encI) (sz:=1) (fun _=>rfl) x139) (by decide)
    obtain ⟨U157,le158,hs159,hS160⟩:=q
    have hS161:sW w U U157 [.blk b23 161 B0] W145:=hS160
    have h162:=hC154.le le158
    have hF163:FnOK Tryz.prog U157 (.func (.func 144) #[] #[]) wFo wFp wAR:=⟨144,[],[],rfl,Tryz.call144,fun U1 w1 x y vs le hs ha hm=>by obtain rfl:=ha;exact wCV x w1 U1 hs  hm⟩
    have hF164:FnOK Tryz.prog U157 (.func (.func 101) #[] #[.pointer (some ⟨b128,0,none⟩)]) wJY wJZ (fun x=>wAS x (⟨wAR,0,30⟩:wAE)):=⟨101,[],[.pointer (some ⟨b128,0,none⟩)],rfl,Tryz.call101,fun U1 w1 x y vs le hs ha hm=>by obtain rfl:=ha;exact wCF x (⟨wAR,0,30⟩:wAE) b128 (.func (.func 144) #[] #[]) w1 U1 hs (h162.le le) (hF163.le le) hm⟩
    refine bnK hm141 fun x165 h166 hm167=>zH 0 Z Z Z Z (zG Z Z Tryz.call99 (zB Z (zB Z zL)) Z) hS161 (fun hs=>wBO x139 A148 c149 (fun x=>wAS x (⟨wAR,0,30⟩:wAE)) (.func (.func 101) #[] #[.pointer (some ⟨b128,0,none⟩)]) W145 U157 hs hs159 hF164 h166) (.inr Z) ?_
    rintro U168 L169 v170 W171 le172 hS173 ⟨rfl,rfl⟩
    have hS174:sW w U U168 [.blk b23 161 B0] W171:=hS173
    refine oR Z (ZD Z Z) (eN (ifc hm167 ?_ ?_))
    ·intro c175 hm176
     refine zi (nC c175.out) (CK.skip (zj (zJ (ZM fun σ177 hσ178=>?_))))
     have f179:σ177 0=.slice pA0 p0.length pc0:=(hσ178 0).trans rfl
     have f180:σ177 3=.pointer (some ⟨b23,0,none⟩):=(hσ178 3).trans rfl
     have f181:σ177 13=.agg B0.toArray:=(hσ178 13).trans rfl
     have f182:σ177 14=jV 2:=(hσ178 14).trans rfl
     clear hσ178
     refine rR fL2 rfl (zZ rfl rfl rfl rfl (fun _=>zk (zU rfl f182 rfl) (congrArg (jV) (show w64 (2 + 1)=3 by decide))) (zP rfl rfl rfl rfl rfl rfl (eN (CKR.succ (sR fL1 rfl (zZ rfl rfl rfl rfl (fun _=>zO rfl rfl rfl) (eN (zC (zi (zw (by decide)) (zu (zX (zX (zp (zJ (zC (sR fL3 rfl (zZ rfl rfl rfl rfl (fun _=>Runs.slAh (k:=2) rfl f180 rfl ZK zY (by decide)) (zZ rfl rfl rfl rfl (fun _=>zQ rfl rfl Tryz.runUnderlying164) (zP rfl rfl rfl rfl rfl rfl (eN (zM (CK.unroll 3 (CKR.succ (sR fL1 rfl (zZ rfl rfl rfl rfl (fun _=>zO rfl rfl rfl) (eN (zC (zd (wFv (by decide)) (kN (zC (zM (sR (.fl 0 (.fl 1 (.fx 2 (.fx 3 (.nil) .stop) .stop))) rfl (zZ rfl rfl rfl rfl (fun _=>zk (zx (k:=0) rfl rfl rfl rfl Tryz.runUnderlying164 zY (by decide)) rfl) (OKS.m rfl rfl rfl rfl (hS174.ldBA (j:=0) rfl rfl rfl ZB zY (vs:=B2) rfl rfl) rfl (OKS.alloc (cs:=B1) rfl rfl rfl rfl rfl ZA rfl hS174 ?_)))))))))))))))))))))))))))))))))))
     intro W183 b184 hS185
     refine OKS.st (j:=0) (vs:=B2) Z Z Z Z hS185 Z Z Z Z zY (zW Z) Z Z Z ?_
     intro W187 hS188
     have hS189:sW w U U168 [.blk b184 160 B2,.blk b23 161 B0] W187:=hS188
     refine eN (sR (.fl 0 (.fl 1 (.fx 2 (.fx 3 (.nil) .stop) .stop))) Z (oL Z (hS189.ldBA (j:=0) Z Z Z ZB zY (vs:=B2) Z Z) (oM Z f179 ?_)))
     have hF190:FnOK Tryz.prog U168 (.func (.func 142) #[] #[]) wFo wFp wAI:=⟨142,[],[],rfl,Tryz.call142,fun U1 w1 x y vs le hs ha hm=>by obtain rfl:=ha;exact wBl x w1 U1 hs  hm⟩
     have h191:=h138.le le146
     have h192:=h191.le le153
     have h193:=h192.le le158
     have h194:=h193.le le172
     refine bnK hm176 fun x195 h196 hm197=>zH 0 Z Z Z Z (zG Z Z Tryz.call100 (zB Z (zB Z zL)) Z) hS189 (fun hs=>wAv (⟨wAI,1,999⟩:wAE) (.func (.func 142) #[] #[]) p0 pA0 pc0 W187 U168 hs hF190 h194 h196) (.inr Z) ?_
     rintro U198 L199 v200 W201 le202 hS203 ⟨A204,c205,rfl,rfl⟩
     have hS207:sW w U U198 [.row A204 c205 3 1 (nA KL.encI x195),.blk b184 160 B2,.blk b23 161 B0] W201:=hS203
     have q:=hS207.freezeR (k:=0) (n:=x195.length) rfl (wAF (f:=KL.encI) (sz:=1) (fun _=>rfl) x195) (by decide)
     obtain ⟨U208,le209,hs210,hS211⟩:=q
     have hS212:sW w U U208 [.blk b184 160 B2,.blk b23 161 B0] W201:=hS211
     refine bnK hm197 fun x213 h214 hm215=>zH 0 Z Z Z Z (zG Z Z Tryz.call87 (zB Z zL) Z) hS212 (fun hs=>wCk x195 A204 c205 W201 U208 hs hs210 h214) (.inr Z) ?_
     rintro U216 L217 v218 W219 le220 hS221 ⟨rfl,rfl⟩
     have hS222:sW w U U216 [.blk b184 160 B2,.blk b23 161 B0] W219:=hS221
     refine eN (ifc hm215 ?_ ?_)
     ·intro c223 hm224
      refine zd (congrArg nD c223.out) (sR fL1 Z (oA Z Z (eN (zI (zR (zF (zF (zR (zF ?_)))))))))
      cases hm224
      exact ⟨rfl,_,(ze rfl),U216,_,(hS222.pick [] _ (by decide) rfl),rfl,rfl⟩
     ·intro c223 hm225
      refine zi (congrArg nD (nJ.2 c223.out)) (CK.skip (zj (zJ (rR fL2 rfl (zZ rfl rfl rfl rfl (fun _=>zk (zU rfl rfl rfl) (congrArg (jV) (show w64 (0 + 1)=1 by decide))) (zP rfl rfl rfl rfl rfl rfl (eN (CKR.succ (sR fL1 rfl (zZ rfl rfl rfl rfl (fun _=>zO rfl rfl rfl) (eN (zC (zd (wFv (by decide)) (kN (zC (zM (sR (.fl 0 (.fl 1 (.fx 2 (.fx 3 (.nil) .stop) .stop))) rfl (zZ rfl rfl rfl rfl (fun _=>zk (zx (k:=1) rfl rfl rfl rfl Tryz.runUnderlying164 zY (by decide)) rfl) (OKS.m rfl rfl rfl rfl (hS222.ldBA (j:=1) rfl rfl rfl ZB zY (vs:=B4) rfl rfl) rfl (OKS.alloc (cs:=B1) rfl rfl rfl rfl rfl ZA rfl hS222 ?_))))))))))))))))))))
      intro W226 b227 hS228
      refine OKS.st (j:=0) (vs:=B4) Z Z Z Z hS228 Z Z Z Z zY (zW Z) Z Z Z ?_
      intro W230 hS231
      have hS232:sW w U U216 [.blk b227 160 B4,.blk b184 160 B2,.blk b23 161 B0] W230:=hS231
      refine eN (sR (.fl 0 (.fl 1 (.fx 2 (.fx 3 (.nil) .stop) .stop))) Z (oL Z (hS232.ldBA (j:=0) Z Z Z ZB zY (vs:=B4) Z Z) (oM Z f179 ?_)))
      have hF233:FnOK Tryz.prog U216 (.func (.func 143) #[] #[]) wFo wFp wAJ:=⟨143,[],[],rfl,Tryz.call143,fun U1 w1 x y vs le hs ha hm=>by obtain rfl:=ha;exact wBm x w1 U1 hs  hm⟩
      have h234:=h194.le le202
      have h235:=h234.le le209
      have h236:=h235.le le220
      refine bnK hm225 fun x237 h238 hm239=>zH 0 Z Z Z Z (zG Z Z Tryz.call100 (zB Z (zB Z zL)) Z) hS232 (fun hs=>wAv (⟨wAJ,1,9999⟩:wAE) (.func (.func 143) #[] #[]) p0 pA0 pc0 W230 U216 hs hF233 h236 h238) (.inr Z) ?_
      rintro U240 L241 v242 W243 le244 hS245 ⟨A246,c247,rfl,rfl⟩
      have hS249:sW w U U240 [.row A246 c247 3 1 (nA KL.encI x237),.blk b227 160 B4,.blk b184 160 B2,.blk b23 161 B0] W243:=hS245
      have q:=hS249.freezeR (k:=0) (n:=x237.length) rfl (wAF (f:=KL.encI) (sz:=1) (fun _=>rfl) x237) (by decide)
      obtain ⟨U250,le251,hs252,hS253⟩:=q
      have hS254:sW w U U250 [.blk b227 160 B4,.blk b184 160 B2,.blk b23 161 B0] W243:=hS253
      refine bnK hm239 fun x255 h256 hm257=>zH 0 Z Z Z Z (zG Z Z Tryz.call87 (zB Z zL) Z) hS254 (fun hs=>wCk x237 A246 c247 W243 U250 hs hs252 h256) (.inr Z) ?_
      rintro U258 L259 v260 W261 le262 hS263 ⟨rfl,rfl⟩
      have hS264:sW w U U258 [.blk b227 160 B4,.blk b184 160 B2,.blk b23 161 B0] W261:=hS263
      refine eN (ifc hm257 ?_ ?_)
      ·intro c265 hm266
       refine zd (congrArg nD c265.out) (sR fL1 Z (oA Z Z (eN (zI (zR (zF (zF (zR (zF ?_)))))))))
       cases hm266
       exact ⟨rfl,_,(ze rfl),U258,_,(hS264.pick [] _ (by decide) rfl),rfl,rfl⟩
      ·intro c265 hm267
       refine zi (congrArg nD (nJ.2 c265.out)) (CK.skip (zj (zJ (rR fL2 rfl (zZ rfl rfl rfl rfl (fun _=>zk (zU rfl rfl rfl) (congrArg (jV) (show w64 (1 + 1)=2 by decide))) (zP rfl rfl rfl rfl rfl rfl (eN (CKR.succ (sR fL1 rfl (zZ rfl rfl rfl rfl (fun _=>zO rfl rfl rfl) (eN (zC (zi (zw (by decide)) (zu (zX (zX (zp (zJ (sR fL1 rfl (OKS.ra rfl rfl rfl rfl rfl rfl (eN (zI ?_))))))))))))))))))))))
       cases hm267
       exact ⟨rfl,_,(ze rfl),U258,_,(hS264.pick [] _ (by decide) rfl),rfl,rfl⟩
    ·intro c175 hm268
     refine zd (nF (c175.out)) (sR fL1 Z (oA Z Z (eN (zI (zR (zF (zF (zR (zF ?_)))))))))
     cases hm268
     exact ⟨rfl,_,(ze rfl),U168,_,(hS174.pick [] _ (by decide) rfl),rfl,rfl⟩
   ·intro c125 hm269
    refine zd (nF (c125.out)) (sR fL1 Z (oA Z Z (eN (zI (zR (zF (zF (zR (zF ?_)))))))))
    cases hm269
    exact ⟨rfl,_,(ze rfl),U118,_,(hS124.pick [] _ (by decide) rfl),rfl,rfl⟩
  ·intro c75 hm270
   refine zd (nF (c75.out)) (sR fL1 Z (oA Z Z (eN (zI (zR (zF (zF (zR (zF ?_)))))))))
   cases hm270
   exact ⟨rfl,_,(ze rfl),U68,_,(hS74.pick [] _ (by decide) rfl),rfl,rfl⟩
 ·intro c11 hm271
  refine zd (nF (c11.out)) (sR fL1 Z (oA Z Z (eN (zI (zF ?_)))))
  cases hm271
  exact ⟨Z,_,(ze Z),U4,_,hS10,Z,Z⟩
theorem wEc (p0:Int) (w:World) (U:PHeap) (hS:St0 w U [])  {r:Bool} (hm:wAy p0=some r):Gv Tryz.prog 102 [jV p0] w (wCR w [] U (fun U_ L_ v=>v=.bool r/\L_=[])):=by
 unfold wAy at hm
 refine Gv.of Tryz.func102 Z Tryz.ntmps102 Tryz.results102 Z (sR fL1 Z (oA Z Z (eN (sR (.fl 0 (.fx 1 (.fl 2 (.nil)) .stop)) Z (oM Z Z (bnK hm fun x1 h2 hm3=>zH 0 Z Z Z Z (zG Z Z Tryz.call86 (zB Z (zB Z (zB Z zL))) Z) hS (fun hs=>wCU p0 1 60 w U hs h2) (.inr Z) ?_))))))
 rintro U4 L5 v6 W7 le8 hS9 ⟨rfl,rfl⟩
 have hS10:sW w U U4 [] W7:=hS9
 refine oA Z Z (eN (zI ?_))
 have hE:=nB hm3;first | subst r | cases hE
 exact ⟨Z,_,(ze Z),U4,_,hS10,Z,Z⟩
theorem wII (p0:List Int) (pA0:Option Addr) (pc0:Nat) (w:World) (U:PHeap) (hS:St0 w U []) (ha0:Sl U 1 pA0 pc0 p0.length (nA KL.encI p0)) {r:Int} (hm:wCC p0=some r):Gv Tryz.prog 103 [.slice pA0 p0.length pc0] w (wCR w [] U (fun U_ L_ v=>v=jV r/\L_=[])):=by
 unfold wCC at hm
 refine Gv.of Tryz.func103 Z Tryz.ntmps103 Tryz.results103 Z (sR fL1 Z (oA Z Z (eN (sR fL1 Z (oA Z Z (eN (zC (sR fL3 Z (oM Z Z (oR Z (zQ Z Z zA) (oM Z Z (eN (zM (bnK hm fun y12 hf9 hm8=>?_))))))))))))))
 have q:=wBr hf9
 obtain ⟨hle10,hf11⟩:=q
 replace hle10:=zE hle10
 refine CK.forN' (fun k7 x6 σ_ w_=>∃ (U_:PHeap),σ_ 8=jV (↑k7:Int)/\σ_ 3=jV x6/\σ_ 6=.slice pA0 p0.length pc0/\σ_ 7=jV (↑p0.length:Int)/\PHeap.Le U U_/\sW w U U_ [] w_) hf11 ?_ ?_ ?_
 ·exact ⟨U,Z,Z,Z,Z,(zf _),hS⟩
 ·rintro k7 x6 xx15 σ13 W14 hk18 ⟨U20,fi19,f23,f24,f25,le21,hS22⟩ hx16
  have c26:Hid ((↑k7:Int) < (↑p0.length:Int)):=zE (wBu hk18)
  replace hk18:=zE hk18
  have hi27:Hid (w64 ((↑k7:Int) + 1)=(↑(k7 + 1):Int)):=zE (by have h1:=hle10.out;have h2:=c26.out;rw [wAc] <;> omega)
  refine sR fL1 Z (oR Z (zO Z fi19 f25) (eN (zC (cT Z c26 (kN (zC (zM (sR fL3 Z (bnK hx16 fun x28 h29 hm30=>?_)))))))))
  have h31:=ha0.le le21
  have q:=h31.el (fun _=>rfl) (wAg h29)
  obtain ⟨b32,off33,hA34,hC35⟩:=q
  refine oR Z (zx Z f24 hA34 fi19 zA zD (wCG h29)) (oL Z (hS22.ldC (f:=0) hC35 (v:=jV x28) Z Z zN Z) (oA Z Z (eN (rR fL4 Z (oM Z f23 (oM Z Z (oR Z (zU Z Z Z) (oA Z Z (zn (zj (zJ (rR fL2 Z (oR Z (zk (zU Z fi19 Z) (congrArg (jV) hi27.out)) (oM Z Z (zn ?_)))))))))))))))
  cases hm30
  exact zJ ⟨Z,⟨U20,Z,Z,f24,f25,le21,hS22⟩⟩
 ·rintro σ37 W38 ⟨U42,fi40,f45,f46,f47,le43,hS44⟩
  have c48:Hid (¬ ((↑(((↑p0.length:Int):Int) - 0).toNat:Int) < (↑p0.length:Int))):=zE (wBL)
  refine sR fL1 Z (oR Z (zO Z fi40 f47) (eN (zC (cF Z c48 (zu (zX (zX (zp (zJ (sR fL2 Z (oM Z f45 (oA Z Z (eN (zI ?_))))))))))))))
  have hE:=nB hm8;first | subst r | cases hE
  exact ⟨Z,_,(ze Z),U42,_,hS44,Z,Z⟩
theorem wDD (p0:Int) (w:World) (U:PHeap) (hS:St0 w U [])  {r:Bool} (hm:wBN p0=some r):Gv Tryz.prog 128 [jV p0] w (wCR w [] U (fun U_ L_ v=>v=.bool r/\L_=[])):=by
 unfold wBN at hm
 refine Gv.of Tryz.func128 Z Tryz.ntmps128 Tryz.results128 Z (sR fL1 Z (oA Z Z (eN (sR fL4 Z (oM Z Z (oM Z Z (oR Z (ZF Z Z Z) (oA Z Z (eN (zI ?_))))))))))
 cases hm
 exact ⟨Z,_,(ze Z),U,_,hS,Z,Z⟩
theorem wCW (p0:Int) (p1:Int) (w:World) (U:PHeap) (hS:St0 w U [])  {r:Int} (hm:wAs p0 p1=some r):Gv Tryz.prog 82 [jV p0,jV p1] w (wCR w [] U (fun U_ L_ v=>v=jV r/\L_=[])):=by
 unfold wAs at hm
 refine Gv.of Tryz.func82 Z Tryz.ntmps82 Tryz.results82 Z (sR fL1 Z (oA Z Z (eN (sR (.fl 0 (.fx 1 (.fl 2 (.nil)) .stop)) Z (oM Z Z (bnK hm fun x1 h2 hm3=>zH 0 Z Z Z Z (zG Z Z Tryz.call128 (zB Z zL) Z) hS (fun hs=>wDD p0 w U hs h2) (.inr Z) ?_))))))
 rintro U4 L5 v6 W7 le8 hS9 ⟨rfl,rfl⟩
 have hS10:sW w U U4 [] W7:=hS9
 refine oA Z Z (eN (sR (.fl 0 (.fx 1 (.fl 2 (.nil)) .stop)) Z (oM Z Z (bnK hm3 fun x11 h12 hm13=>zH 0 Z Z Z Z (zG Z Z Tryz.call128 (zB Z zL) Z) hS10 (fun hs=>wDD p1 W7 U4 hs h12) (.inr Z) ?_))))
 rintro U14 L15 v16 W17 le18 hS19 ⟨rfl,rfl⟩
 have hS20:sW w U U14 [] W17:=hS19
 refine oA Z Z (eN (zC (sR fL1 Z (oM Z Z (eN (ifc hm13 ?_ ?_))))))
 ·intro c21 hm22
  refine zd (congrArg nD c21.out) (zC (sR fL1 Z (oM Z Z (eN (ifc hm22 ?_ ?_)))))
  ·intro c23 hm24
   refine zd (congrArg nD c23.out) (sR fL1 Z (oA Z Z (eN (zI (zF (zF ?_))))))
   cases hm24
   exact ⟨Z,_,(ze Z),U14,_,hS20,Z,Z⟩
  ·intro c23 hm25
   refine zi (congrArg nD (nJ.2 c23.out)) (kN (sR fL1 Z (oA Z Z (eN (zI (zF ?_))))))
   cases hm25
   exact ⟨Z,_,(ze Z),U14,_,hS20,Z,Z⟩
 ·intro c21 hm26
  refine zi (congrArg nD (nJ.2 c21.out)) (kN (zC (sR fL1 Z (oM Z Z (eN (ifc hm26 ?_ ?_))))))
  ·intro c27 hm28
   refine zd (congrArg nD c27.out) (sR fL1 Z (oA Z Z (eN (zI (zF ?_)))))
   cases hm28
   exact ⟨Z,_,(ze Z),U14,_,hS20,Z,Z⟩
  ·intro c27 hm29
   refine zi (congrArg nD (nJ.2 c27.out)) (kN (zC (sR fL3 Z (oM Z Z (oM Z Z (oR Z (zO Z Z Z) (eN (ifc hm29 ?_ ?_))))))))
   ·intro c30 hm31
    refine cT Z c30 (sR fL1 Z (oA Z Z (eN (zI (zF ?_)))))
    cases hm31
    exact ⟨Z,_,(ze Z),U14,_,hS20,Z,Z⟩
   ·intro c30 hm32
    refine cF Z c30 (kN (zC (sR fL3 Z (oM Z Z (oM Z Z (oR Z (Runs.gtr Z Z Z) (eN (ifc hm32 ?_ ?_))))))))
    ·intro c33 hm34
     refine cT Z c33 (sR fL1 Z (oA Z Z (eN (zI (zF ?_)))))
     cases hm34
     exact ⟨Z,_,(ze Z),U14,_,hS20,Z,Z⟩
    ·intro c33 hm35
     refine cF Z c33 (kN (sR fL1 Z (oA Z Z (eN (zI ?_)))))
     cases hm35
     exact ⟨Z,_,(ze Z),U14,_,hS20,Z,Z⟩
end Go.Proofs.YtghaibkggdecnaaGreat
namespace Go.Proofs.YtghaibkggdecnaaGreat
open Go.KL
set_option maxHeartbeats 4000000
theorem wEd (p0:Int) (p1:Int) (p2:List wAB) (pb2:Nat) (pA2:Option Addr) (pc2:Nat) (w:World) (U:PHeap) (hS:St0 w U []) (ha0:Cl U pb2 0 [.slice pA2 p2.length pc2]) (ha1:Sl U 3 pA2 pc2 p2.length (nA wAH p2)) {r:Int} (hm:wAV p0 p1 p2=some r):Gv Tryz.prog 130 [jV p0,jV p1,.pointer (some ⟨pb2,0,none⟩)] w (wCR w [] U (fun U_ L_ v=>v=jV r/\L_=[])):=by
 unfold wAV at hm
 refine Gv.of Tryz.func130 rfl Tryz.ntmps130 Tryz.results130 rfl (sR fL1 rfl (OKS.ra rfl rfl rfl rfl rfl rfl (eN (zC (CK.anyOrd ZN [1,3,3,3,1,1,3,3,3,1,2,3] (fC0_9 (.fx 10 (.fl 11 (.nil)) .stop)) (by kernel_rfl) ?_)))))
 have hS1:=hS.drew
 generalize hw_W2:({ w with drawn:=w.drawn + 1 }:World)=W2 at hS1 ⊢
 refine oL Z (hS1.ldC (f:=0) ha0 (v:=.slice pA2 p2.length pc2) Z Z Tryz.isAgg58 Z) (oM Z Z (bnK hm fun x3 h4 hm5=>?_))
 have q:=ha1.el (fun _=>rfl) (wAg h4)
 obtain ⟨b6,off7,hA8,hC9⟩:=q
 refine oR Z (zo Z Z hA8 Z zV ZC (wCA h4) (wCH h4)) (oR Z (zt Z Z zz Z zD) (oL Z (hS1.ldC (f:=2) hC9 (v:=jV x3.Rank) Z Z zN Z) (oL Z (hS1.ldC (f:=0) ha0 (v:=.slice pA2 p2.length pc2) Z Z Tryz.isAgg58 Z) (oM Z Z (bnK hm5 fun x10 h11 hm12=>?_)))))
 have q:=ha1.el (fun _=>rfl) (wAg h11)
 obtain ⟨b13,off14,hA15,hC16⟩:=q
 refine oR Z (zo Z Z hA15 Z zV ZC (wCA h11) (wCH h11)) (oR Z (zt Z Z zz Z zD) (oL Z (hS1.ldC (f:=2) hC16 (v:=jV x10.Rank) Z Z zN Z) (bnK hm12 fun x17 h18 hm19=>zH 0 Z Z Z Z (zG Z Z Tryz.call82 (zB Z (zB Z zL)) Z) hS1 (fun hs=>wCW x3.Rank x10.Rank W2 U hs h18) (.inr Z) ?_)))
 rintro U20 L21 v22 W23 le24 hS25 ⟨rfl,rfl⟩
 have hS26:sW w U U20 [] W23:=hS25
 refine oA Z Z (eN (zI ?_))
 have hE:=nB hm19;first | subst r | cases hE
 exact ⟨Z,_,(ze Z),U20,_,hS26,Z,Z⟩
theorem wBW (p0:List Int) (pA0:Option Addr) (pc0:Nat) (p1:((Int × Int)->Option Int)) (pv1:Value) (w:World) (U:PHeap) (hS:St ⟨w,[.row pA0 pc0 3 1 (nA KL.encI p0)],U⟩ U [.row pA0 pc0 3 1 (nA KL.encI p0)] w) (ha0:FnOK Tryz.prog U pv1 ar50 rr50 p1) (ha1:∃ g cb,pv1=.func (.func g) #[] cb) {r:List Int} (hm:wAO p0 p1=some r):Gv Tryz.prog 106 [.slice pA0 p0.length pc0,pv1] w (wCR w [.row pA0 pc0 3 1 (nA KL.encI p0)] U (fun U_ L_ v=>v=.tuple #[]/\L_=[.row pA0 pc0 3 1 (nA KL.encI r)]/\r.length=p0.length)) :=
 wKD (enc1:=(fun x=>.int .i64 x)) (fun _=>rfl) (fun _=>rfl) (fun _ _ _=>rfl) (fun _ _ _ _ h=>h.1) (fun enc a cf b g cb k1 k2 k3 d w h1 h2 h3 h4 h5 h6=>Go.Proofs.Tryz.slices_SortFunc_total enc a cf b g cb k1 k2 k3 d w h1 h2 h3 h4 h5 h6) (fun p c v w=>Go.Proofs.Tryz.slices_SortFunc_none_f106 (α:=Int) p c v w) hS ha0 ha1 hm
theorem wDM (p0:List wAB) (pA0:Option Addr) (pc0:Nat) (w:World) (U:PHeap) (hS:St0 w U []) (ha0:Sl U 3 pA0 pc0 p0.length (nA wAH p0)) {r:(List Int)} (hm:wAr p0=some r):Gv Tryz.prog 89 [.slice pA0 p0.length pc0] w (wCR w [] U (fun U_ L_ v=>∃ (A0:Option Addr) (c0:Nat),v=.slice A0 r.length c0/\L_=[.row A0 c0 3 1 (nA KL.encI r)])):=by
 unfold wAr at hm
 refine Gv.of Tryz.func89 rfl Tryz.ntmps89 Tryz.results89 rfl (sR (.fx 0 (.fl 1 (.nil)) .stop) rfl (OKS.box (cs:=[.slice pA0 p0.length pc0]) rfl rfl rfl rfl rfl rfl (by rfl) hS ?_))
 intro W1 b2 hS3
 have q:=hS3.freeze (k:=0) rfl
 obtain ⟨U5,le6,hC7,hS8⟩:=q
 replace hC7:=Cl.of hC7
 have hS9:sW w U U5 [] W1:=hS8
 replace hC7:Cl U5 b2 0 [.slice pA0 p0.length pc0]:=hC7
 refine oA Z Z (eN (sR (.fl 0 (.fl 1 (.fx 2 (.fl 3 (.nil)) .stop))) Z (oL Z (hS9.ldC (f:=0) hC7 (v:=.slice pA0 p0.length pc0) Z Z Tryz.isAgg58 Z) (oR Z (zQ Z Z zV) (bnK hm fun x10 h11 hm12=>OKS.makeSlice (enc:=KL.encI) (z:=(0:Int)) (v:=jV 0) Z Z Z Z Z (wHA zA) wFZ Z Z Z Z Z Z h11 hS9 ?_)))))
 intro W13 b14 hS15
 have hS17:sW w U U5 [.row (some ⟨b14,0,none⟩) x10.length 3 1 (nA KL.encI x10)] W13:=hS15
 refine oA Z Z (eN (zC (sR fL3 Z (oL Z (hS17.ldC (f:=0) hC7 (v:=.slice pA0 p0.length pc0) Z Z Tryz.isAgg58 Z) (oR Z (zQ Z Z zV) (oM Z Z (eN (zM (bnK hm12 fun y29 hf26 hm25=>?_)))))))))
 have q:=wBr hf26
 obtain ⟨hle27,hf28⟩:=q
 replace hle27:=zE hle27
 refine CK.forN' (fun k24 l23 σ_ w_=>∃ (U_:PHeap),σ_ 10=jV (↑k24:Int)/\σ_ 1=.pointer (some ⟨b2,0,none⟩)/\σ_ 3=.slice (some ⟨b14,0,none⟩) l23.length x10.length/\σ_ 9=jV (↑p0.length:Int)/\PHeap.Le U5 U_/\sW w U U_ [.row (some ⟨b14,0,none⟩) x10.length 3 1 (nA KL.encI l23)] w_/\l23.length=x10.length) hf28 ?_ ?_ ?_
 ·exact ⟨U5,Z,Z,Z,Z,(zf _),hS17,Z⟩
 ·rintro k24 l23 xx32 σ30 W31 hk35 ⟨U37,fi36,f40,f41,f42,le38,hS39,h43⟩ hx33
  have c44:Hid ((↑k24:Int) < (↑p0.length:Int)):=zE (wBu hk35)
  replace hk35:=zE hk35
  have hi45:Hid (w64 ((↑k24:Int) + 1)=(↑(k24 + 1):Int)):=zE (by have h1:=hle27.out;have h2:=c44.out;rw [wAc] <;> omega)
  refine sR fL1 Z (oR Z (zO Z fi36 f42) (eN (zC (cT Z c44 (kN (zC (zM (sR fL2 Z (oM Z fi36 (oA Z Z (eN (rR (wJj (.fx 4 (.nil) .stop)) Z (oM Z f41 (oM Z Z (oM Z Z (bnK hx33 fun _ h46 hm47=>oR Z (zx Z Z Z Z zA zD (wAz h46)) ?_))))))))))))))))
  have hg48:=wBU (xs:=l23) (wAz h46)
  refine OKS.stR (j:=0) (vs:=[jV (↑k24:Int)]) (cs':=nA KL.encI (nI l23 k24 (↑k24:Int))) rfl rfl rfl rfl hS39 rfl rfl rfl rfl rfl zD (by rw [wAF (f:=KL.encI) (sz:=1) (fun _=>rfl)];have hz:=wAz h46;simp only [nH,nE,nG,nN,nO];first | omega | (simp only [nK];omega)) rfl (wEy (sz:=1) (fo:=0) (fun _=>rfl) _ _ _ _ hg48 (by first | omega | (simp only [nK];omega) | (simp only [nH,nE,nG];omega)) (zW rfl) rfl) rfl ?_
  intro W49 hS50
  have hS51:sW w U U37 [.row (some ⟨b14,0,none⟩) x10.length 3 1 (nA KL.encI (nI l23 k24 (↑k24:Int)))] W49:=hS50
  refine zn (zj (zJ (rR fL2 Z (oR Z (zk (zU Z fi36 Z) (congrArg (jV) hi45.out)) (oM Z Z (zn ?_))))))
  cases hm47
  exact zJ ⟨rfl,⟨U37,rfl,f40,(nP (b:=(.slice (some ⟨b14,0,none⟩) l23.length x10.length:Value)) (c:=(.slice (some ⟨b14,0,none⟩) ((nI l23 k24 (↑k24:Int)).length) x10.length:Value)) f41 (by simp only [nL])),f42,le38,hS51,(by simp only [nL];exact h43)⟩⟩
 ·rintro σ53 W54 ⟨U58,fi56,f61,f62,f63,le59,hS60,h64⟩
  have c65:Hid (¬ ((↑(((↑p0.length:Int):Int) - 0).toNat:Int) < (↑p0.length:Int))):=zE (wBL)
  refine sR fL1 Z (oR Z (zO Z fi56 f63) (eN (zC (cF Z c65 (zu (zX (zX (zp (zJ (sR (.fl 0 (.fl 1 (.fx 2 (.nil) .stop))) Z (oM Z f62 (oR Z (Runs.mkf Z zL (zB f61 zL)) ?_))))))))))))
  have h66:=hC7.le le59
  have h67:=ha0.le le6
  have h68:=h67.le le59
  have hF69:FnOK Tryz.prog U58 (.func (.func 130) #[] #[.pointer (some ⟨b2,0,none⟩)]) ar50 rr50 (fun x=>wAV x.1 x.2 p0):=⟨130,[],[.pointer (some ⟨b2,0,none⟩)],rfl,Tryz.call130,fun U1 w1 x y vs le hs ha hm=>by obtain rfl:=ha;exact wEd x.1 x.2 p0 b2 pA0 pc0 w1 U1 hs (h66.le le) (h68.le le) hm⟩
  refine bnK hm25 fun x70 h71 hm72=>zH 1 Z Z Z Z (zG Z Z Tryz.call106 (zB Z (zB Z zL)) Z) hS60 (fun hs=>wBW y29 (some ⟨b14,0,none⟩) x10.length (fun x=>wAV x.1 x.2 p0) (.func (.func 130) #[] #[.pointer (some ⟨b2,0,none⟩)]) W54 U58 hs hF69 ⟨_,_,Z⟩ h71) (.inl Z) ?_
  rintro U73 L74 v75 W76 le77 hS78 ⟨rfl,rfl,h79⟩
  have hS80:sW w U U73 [.row (some ⟨b14,0,none⟩) x10.length 3 1 (nA KL.encI x70)] W76:=hS78
  refine eN (sR fL2 rfl (zP rfl rfl rfl rfl rfl (nP (b:=(.slice (some ⟨b14,0,none⟩) y29.length x10.length:Value)) (c:=(.slice (some ⟨b14,0,none⟩) x70.length x10.length:Value)) f62 (by rw [h79])) (OKS.ra rfl rfl rfl rfl rfl rfl (eN (zI ?_)))))
  have hE:=nB hm72;first | subst r | cases hE
  exact ⟨Z,_,(ze Z),U73,_,hS80,(some ⟨b14,0,none⟩),x10.length,Z,Z⟩
theorem wCq (p0:List Int) (pA0:Option Addr) (pc0:Nat) (w:World) (U:PHeap) (hS:St0 w U []) (ha0:Sl U 1 pA0 pc0 p0.length (nA KL.encI p0)) {r:(List Int)} (hm:wAh p0=some r):Gv Tryz.prog 104 [.slice pA0 p0.length pc0] w (wCR w [] U (fun U_ L_ v=>∃ (A0:Option Addr) (c0:Nat),v=.slice A0 r.length c0/\L_=[.row A0 c0 3 1 (nA KL.encI r)])):=by
 unfold wAh at hm
 refine Gv.of Tryz.func104 Z Tryz.ntmps104 Tryz.results104 Z (sR fL1 Z (oA Z Z (eN (zC (sR fL2 Z (oM Z Z (oR Z (Runs.eqNil Z Z Z zA) (eN ?_))))))))
 by_cases c1:pA0.isNone=true
 ·replace c1:=zE c1
  have hp2:p0=[]:=List.eq_nil_of_length_eq_zero (Sl.nilA (Option.isNone_iff_eq_none.1 c1.out ▸ ha0))
  have hm3:(some [])=some r:=by simpa [hp2,app] using hm
  refine zd (congrArg nD c1.out) (sR fL1 Z (oA Z Z (eN (zI (zF ?_)))))
  have hS4:=hS.nilrow 3 1
  cases hm3
  exact ⟨Z,_,(ze Z),U,_,hS4,none,0,Z,Z⟩
 ·replace c1:=zE c1
  refine zi (congrArg nD (nJ.2 c1.out)) (kN (sR (.fx 0 (.fl 1 (.fx 2 (.fl 3 (.nil)) .stop)) .stop) Z (OKS.buildSlice0 1 Z Z Z Z Z zA zD hS ?_)))
  intro W6 b7 hS8
  have hS10:sW w U U [.row (some ⟨b7,0,none⟩) 0 3 1 (nA KL.encI ([]:List Int))] W6:=hS8
  refine oM Z Z (bnK hm fun x11 h12 hm13=>ZG (j:=0) (enc:=KL.encI) (xs:=([]:List Int)) (ys:=p0) (zs:=x11) Z Z Z Z Z zq wFZ Z Z Z Z Z Z hS10 Z Z Z (hS10.srcS ha0) (fun _=>Z) (fun _=>Z) h12 Z ?_)
  intro A14 c15 W16 hS17
  have hS18:sW w U U [.row A14 c15 3 1 (nA KL.encI x11)] W16:=hS17
  refine oA Z Z (eN (zI ?_))
  have hE:=nB hm13;first | subst r | cases hE
  exact ⟨Z,_,(ze Z),U,_,hS18,A14,c15,Z,Z⟩
theorem wDN (p0:List wAB) (pA0:Option Addr) (pc0:Nat) (p1:List Int) (pA1:Option Addr) (pc1:Nat) (w:World) (U:PHeap) (hS:St0 w U []) (ha0:Sl U 3 pA0 pc0 p0.length (nA wAH p0)) (ha1:Sl U 1 pA1 pc1 p1.length (nA KL.encI p1)) {r:(List (List Int)) × Int} (hm:wAj p0 p1=some r):Gv Tryz.prog 45 [.slice pA0 p0.length pc0,.slice pA1 p1.length pc1] w (wCR w [] U (fun U_ L_ v=>∃ (A0:Option Addr) (c0:Nat) (hs0:List Hd),v=.tuple #[.slice A0 r.1.length c0,jV r.2]/\L_=[.row A0 c0 31 1 (nA wEa hs0),inn 3 1 KL.encI hs0 r.1])):=by
 unfold wAj at hm
 refine Gv.of Tryz.func45 Z Tryz.ntmps45 Tryz.results45 Z (sR fL2 Z (oA Z Z (oA Z Z (eN (sR (.fl 0 (.fx 1 (.fl 2 (.nil)) .stop)) Z (oM Z Z (bnK hm fun x1 h2 hm3=>zH 0 Z Z Z Z (zG Z Z Tryz.call41 (zB Z zL) Z) hS (fun hs=>wDy p0 pA0 pc0 w U hs ha0 h2) (.inr Z) ?_)))))))
 rintro U4 L5 v6 W7 le8 hS9 ⟨rfl,rfl⟩
 have hS10:sW w U U4 [] W7:=hS9
 refine oA Z Z (eN (zC (zM (sR fL3 Z (oM Z Z (oR Z (ZF Z Z Z) (oA Z Z (eN (ifc hm3 ?_ ?_)))))))))
 ·intro c11 hm12
  refine zi (zw (fun h=>h c11.out)) (sR (.fl 0 (.fl 1 (.fx 2 (.fl 3 (.fl 4 (.nil))) .stop))) Z (oM Z Z (oR Z (zQ Z Z zA) (bnK hm12 fun x13 h14 hm15=>zH 0 Z Z Z Z (zG Z Z Tryz.call86 (zB Z (zB Z (zB Z zL))) Z) hS10 (fun hs=>wCU (↑p1.length:Int) 1 6 W7 U4 hs h14) (.inr Z) ?_))))
  rintro U16 L17 v18 W19 le20 hS21 ⟨rfl,rfl⟩
  have hS22:sW w U U16 [] W19:=hS21
  refine oR Z (ZD Z Z) (oA Z Z (eN (ifc hm15 ?_ ?_)))
  ·intro c23 hm24
   refine zi (nC c23.out) (sR (.fl 0 (.fx 1 (.fl 2 (.fl 3 (.nil))) .stop)) Z (oM Z Z ?_))
   have h25:=ha1.le le8
   have h26:=h25.le le20
   have hF27:FnOK Tryz.prog U16 (.func (.func 102) #[] #[]) wJY wJZ wAy:=⟨102,[],[],rfl,Tryz.call102,fun U1 w1 x y vs le hs ha hm=>by obtain rfl:=ha;exact wEc x w1 U1 hs  hm⟩
   refine bnK hm24 fun x28 h29 hm30=>zH 0 Z Z Z Z (zG Z Z Tryz.call99 (zB Z (zB Z zL)) Z) hS22 (fun hs=>wBO p1 pA1 pc1 wAy (.func (.func 102) #[] #[]) W19 U16 hs h26 hF27 h29) (.inr Z) ?_
   rintro U31 L32 v33 W34 le35 hS36 ⟨rfl,rfl⟩
   have hS37:sW w U U31 [] W34:=hS36
   refine oR Z (ZD Z Z) (oA Z Z (eN (ifc hm30 ?_ ?_)))
   ·intro c38 hm39
    refine zi (nC c38.out) (sR (.fl 0 (.fx 1 (fC2_5 (.nil)) .stop)) Z (oM Z Z ?_))
    have h40:=h26.le le35
    refine bnK hm39 fun x41 h42 hm43=>zH 0 Z Z Z Z (zG Z Z Tryz.call103 (zB Z zL) Z) hS37 (fun hs=>wII p1 pA1 pc1 W34 U31 hs h40 h42) (.inr Z) ?_
    rintro U44 L45 v46 W47 le48 hS49 ⟨rfl,rfl⟩
    have hS50:sW w U U44 [] W47:=hS49
    refine oM Z Z (oR Z (zQ Z Z zV) (oR Z (ZF Z Z Z) (oA Z Z (eN (ifc hm43 ?_ ?_)))))
    ·intro c51 hm52
     refine zi (zw (fun h=>h c51.out)) (CK.skip (zj (zJ (sR (.fl 0 (.fx 1 (.fl 2 (.nil)) .stop)) Z (oM Z Z ?_)))))
     have h53:=ha0.le le8
     have h54:=h53.le le20
     have h55:=h54.le le35
     have h56:=h55.le le48
     refine bnK hm52 fun x57 h58 hm59=>zH 0 Z Z Z Z (zG Z Z Tryz.call89 (zB Z zL) Z) hS50 (fun hs=>wDM p0 pA0 pc0 W47 U44 hs h56 h58) (.inr Z) ?_
     rintro U60 L61 v62 W63 le64 hS65 ⟨A66,c67,rfl,rfl⟩
     have hS69:sW w U U60 [.row A66 c67 3 1 (nA KL.encI x57)] W63:=hS65
     refine oA Z Z (eN (sR fL1 Z (oA Z Z (eN (zC (sR fL3 Z (oM Z Z (oR Z (zQ Z Z zA) (oM Z Z (eN (zM ?_)))))))))))
     have q:=hS69.freezeR (k:=0) (n:=x57.length) rfl (wAF (f:=KL.encI) (sz:=1) (fun _=>rfl) x57) (by decide)
     obtain ⟨U71,le72,hs73,hS74⟩:=q
     have hS75:sW w U U71 [] W63:=hS74
     have q:=bnd hm59
     obtain ⟨⟨y116,y117⟩,hf113,hm112⟩:=q
     try dsimp only at hm112
     have q:=wBr hf113
     obtain ⟨hle114,hf115⟩:=q
     replace hle114:=zE hle114
     refine CK.forN' (fun k111 (l102,l105) σ_ w_=>∃ (U_:PHeap) (A103:Option Addr) (c104:Nat) (A106:Option Addr) (c107:Nat) (hs110:List Hd),σ_ 36=jV (↑k111:Int)/\σ_ 7=.slice A103 l102.length c104/\σ_ 8=.slice A106 l105.length c107/\σ_ 34=.slice pA1 p1.length pc1/\σ_ 35=jV (↑p1.length:Int)/\PHeap.Le U71 U_/\sW w U U_ [.row A106 c107 31 1 (nA wEa hs110),inn 3 1 KL.encI hs110 l105] w_/\Sl U_ 1 A103 c104 l102.length (nA KL.encI l102)) hf115 ?_ ?_ ?_
     ·have hS118:=hS75.nilrow 31 1
      have hS120:=hS118.innNil 3 1 KL.encI
      have hS122:sW w U U71 [inn 3 1 KL.encI ([]:List Hd) ([]:List (List Int)),.row none 0 31 1 []] W63:=hS120
      exact ⟨U71,A66,c67,none,0,[],rfl,rfl,rfl,rfl,rfl,(zf _),(hS122.pick [1,0] _ (by decide) rfl),hs73⟩
     ·rintro k111 ⟨l102,l105⟩ xx125 σ123 W124 hk128 ⟨U130,A103,c104,A106,c107,hs110,fi129,f133,f134,f135,f136,le131,hS132,h137⟩ hx126
      try dsimp only at hx126
      have c138:Hid ((↑k111:Int) < (↑p1.length:Int)):=zE (wBu hk128)
      replace hk128:=zE hk128
      have hi139:Hid (w64 ((↑k111:Int) + 1)=(↑(k111 + 1):Int)):=zE (by have h1:=hle114.out;have h2:=c138.out;rw [wAc] <;> omega)
      refine sR fL1 Z (oR Z (zO Z fi129 f136) (eN (zC (cT Z c138 (kN (zC (zM (sR fL3 Z (bnK hx126 fun x140 h141 hm142=>?_)))))))))
      have h143:=h40.le le48
      have h144:=h143.le le64
      have h145:=h144.le le72
      have h146:=h145.le le131
      have q:=h146.el (fun _=>rfl) (wAg h141)
      obtain ⟨b147,off148,hA149,hC150⟩:=q
      refine zZ rfl rfl rfl rfl (fun _=>zx rfl f135 hA149 fi129 zA zD (wCG h141)) (OKS.m rfl rfl rfl rfl (hS132.ldC (f:=0) hC150 (v:=jV x140) rfl rfl zN rfl) rfl (OKS.ra rfl rfl rfl rfl rfl rfl (eN (CK.anyOrd ZN [3,3,3,3,2,2,0,3,3,3,3,3] (wJj (fC7_9 (.fx 4 (.fx 5 (.fx 6 (.fl 10 (.fl 11 (.nil))) .stop) .stop) .stop))) (by kernel_rfl) ?_))))
      have hS151:=hS132.drew
      generalize hw_W152:({ W124 with drawn:=W124.drawn + 1 }:World)=W152 at hS151 ⊢
      refine oM Z f134 (oM Z f133 (oM Z Z (bnK hm142 fun x153 h154 hm155=>?_)))
      have q:=Sl.cutM (sz:=1) (f:=KL.encI) h137 (fun _=>rfl) h154
      obtain ⟨sl164,ha161,hab163,hb162,hn160⟩:=q
      refine zZ (v:=.slice (if c104=(0:Int).toNat then A103 else nS (·.add ((0:Int).toNat * 1)) A103) x153.length (c104 - (0:Int).toNat)) rfl rfl rfl rfl (fun _=>zk (Runs.slc (sz:=1) (a:=0) (b:=x140) rfl rfl (.inr ⟨rfl,rfl⟩) (.inl ⟨_,rfl,rfl⟩) zA zD ha161 hab163 hb162 (h137).cap) (by rw [hn160])) ?_
      generalize hA_A157:(if c104=(0:Int).toNat then A103 else nS (·.add ((0:Int).toNat * 1)) A103)=A157 at sl164 ⊢
      generalize hc_c158:c104 - (0:Int).toNat=c158 at sl164 ⊢
      refine oM Z f133 (oM Z Z (bnK hm155 fun x165 h166 hm167=>?_))
      have q:=Sl.cutM (sz:=1) (f:=KL.encI) h137 (fun _=>rfl) h166
      obtain ⟨sl176,ha173,hab175,hb174,hn172⟩:=q
      refine zZ (v:=.slice (if c104=(x140:Int).toNat then A103 else nS (·.add ((x140:Int).toNat * 1)) A103) x165.length (c104 - (x140:Int).toNat)) rfl rfl rfl rfl (fun _=>zk (Runs.slc (sz:=1) (a:=x140) (b:=(↑(l102.length):Int)) rfl rfl (.inl ⟨_,rfl,rfl⟩) (.inr ⟨rfl,rfl⟩) zA zD ha173 hab175 hb174 (h137).cap) (by rw [hn172])) ?_
      generalize hA_A169:(if c104=(x140:Int).toNat then A103 else nS (·.add ((x140:Int).toNat * 1)) A103)=A169 at sl176 ⊢
      generalize hc_c170:c104 - (x140:Int).toNat=c170 at sl176 ⊢
      refine bnK hm167 fun x177 h178 hm179=>zH 0 Z Z Z Z (zG Z Z Tryz.call104 (zB Z zL) Z) hS151 (fun hs=>wCq x153 A157 c158 W152 U130 hs sl164 h178) (.inr Z) ?_
      rintro U180 L181 v182 W183 le184 hS185 ⟨A186,c187,rfl,rfl⟩
      let B0:Res:=.row A106 c107 31 1 (nA wEa hs110)
      let B1:Res:=.row A186 c187 3 1 (nA KL.encI x177)
      have hS189:sW w U U180 [B1,B0,inn 3 1 KL.encI hs110 l105] W183:=hS185
      let B2:List Value:=[.slice A186 x177.length c187]
      refine ZE (pv:=[(0,.slice A186 x177.length c187)]) (zs:=[.slice none 0 0]) (cs:=B2) Z Z Z Z Z (wAe Z wBb) zm Tryz.sizeOf31 Tryz.zeroValue31 Z Z Z Z Z hS189 ?_
      intro W193 b194 hS195
      let B3:Res:=.row (some ⟨b194,0,none⟩) 1 31 1 B2
      have hS197:sW w U U180 [B3,B1,B0,inn 3 1 KL.encI hs110 l105] W193:=hS195
      have hS198:sW w U U180 [B1,B3,B0,inn 3 1 KL.encI hs110 l105] W193:=hS197.pick [1,0,2,3] _ (by decide) rfl
      have hS199:=hS198.innOne
      let B4:Res:=.row (some ⟨b194,0,none⟩) 1 31 1 (nA wEa [(⟨A186,x177.length,c187⟩:Hd)])
      have hS201:sW w U U180 [inn 3 1 KL.encI [(⟨A186,x177.length,c187⟩:Hd)] [x177],B4,B0,inn 3 1 KL.encI hs110 l105] W193:=hS199
      refine bnK hm179 fun x202 h203 hm204=>?_
      have hf205:=hS201.innFit (j:=3) rfl
      have hf206:=hS201.innFit (j:=0) rfl
      have q:=wOu h203 hf205 hf206
      obtain ⟨ha207,hz208⟩:=q
      refine ZG (j:=2) (enc:=wEa) (xs:=hs110) (ys:=[(⟨A186,x177.length,c187⟩:Hd)]) rfl rfl rfl rfl rfl Tryz.underlying71 wPg rfl rfl rfl rfl rfl rfl hS201 rfl (slen rfl hf205) (slen rfl hf206) (hS201.srcR (j:=1) rfl (by decide) (wAF (f:=wEa) (sz:=1) (fun _=>rfl) [(⟨A186,x177.length,c187⟩:Hd)])) (fun _=>rfl) (fun _=>rfl) ha207 rfl ?_
      intro A209 c210 W211 hS212
      have hl213:(hs110 ++ [(⟨A186,x177.length,c187⟩:Hd)]:List Hd).length=x202.length:=by rw [hz208,nT,nT,hf205.len,hf206.len]
      rw [hl213]
      let B5:Res:=.row A209 c210 31 1 (nA wEa (hs110 ++ [(⟨A186,x177.length,c187⟩:Hd)]:List Hd))
      have hS215:sW w U U180 [inn 3 1 KL.encI [(⟨A186,x177.length,c187⟩:Hd)] [x177],B4,B5,inn 3 1 KL.encI hs110 l105] W211:=hS212
      have hS216:sW w U U180 [inn 3 1 KL.encI hs110 l105,inn 3 1 KL.encI [(⟨A186,x177.length,c187⟩:Hd)] [x177],B4,B5] W211:=hS215.pick [3,0,1,2] _ (by decide) rfl
      have hS214:=hS216.innApp
      rw [<- hz208] at hS214
      have hS217:sW w U U180 [inn 3 1 KL.encI (hs110 ++ [(⟨A186,x177.length,c187⟩:Hd)]:List Hd) x202,B4,B5] W211:=hS214
      have hS218:=hS217.drop 1
      have hS219:sW w U U180 [inn 3 1 KL.encI (hs110 ++ [(⟨A186,x177.length,c187⟩:Hd)]:List Hd) x202,B5] W211:=hS218
      refine oA Z Z (oA Z Z (zn (zj (zJ (rR fL2 Z (oR Z (zk (zU Z fi129 Z) (congrArg (jV) hi139.out)) (oM Z Z (zn ?_))))))))
      cases hm204
      have h227:=sl176.le le184
      exact zJ ⟨rfl,⟨U180,A169,c170,A209,c210,(hs110 ++ [(⟨A186,x177.length,c187⟩:Hd)]:List Hd),rfl,rfl,rfl,f135,f136,(le131.trans le184),(hS219.pick [1,0] _ (by decide) rfl),h227⟩⟩
     ·rintro σ228 W229 ⟨U244,A239,c240,A241,c242,h243,fi231,f247,f248,f249,f250,le245,hS246,h251⟩
      have c252:Hid (¬ ((↑(((↑p1.length:Int):Int) - 0).toNat:Int) < (↑p1.length:Int))):=zE (wBL)
      refine sR fL1 Z (oR Z (zO Z fi231 f250) (eN (zC (cF Z c252 (zu (zX (zX (zp (zJ (sR fL3 Z (oM Z f248 (oA Z Z (oA Z Z (eN (zI ?_)))))))))))))))
      cases hm112
      exact ⟨Z,_,(wJk Z Z),U244,_,hS246,A241,c242,h243,Z,Z⟩
    ·intro c51 hm253
     refine cT Z c51 (sR fL2 Z (oA Z Z (oA Z Z (eN (zI (zR (zF ?_)))))))
     have hS254:=hS50.nilrow 31 1
     have hS256:=hS254.innNil 3 1 KL.encI
     have hS258:sW w U U44 [inn 3 1 KL.encI ([]:List Hd) ([]:List (List Int)),.row none 0 31 1 []] W47:=hS256
     cases hm253
     exact ⟨rfl,_,(wJk rfl rfl),U44,_,(hS258.pick [1,0] _ (by decide) rfl),none,0,([]:List Hd),rfl,rfl⟩
   ·intro c38 hm259
    refine zd (nF (c38.out)) (sR fL2 Z (oA Z Z (oA Z Z (eN (zI (zR (zF ?_)))))))
    have hS260:=hS37.nilrow 31 1
    have hS262:=hS260.innNil 3 1 KL.encI
    have hS264:sW w U U31 [inn 3 1 KL.encI ([]:List Hd) ([]:List (List Int)),.row none 0 31 1 []] W34:=hS262
    cases hm259
    exact ⟨rfl,_,(wJk rfl rfl),U31,_,(hS264.pick [1,0] _ (by decide) rfl),none,0,([]:List Hd),rfl,rfl⟩
  ·intro c23 hm265
   refine zd (nF (c23.out)) (sR fL2 Z (oA Z Z (oA Z Z (eN (zI (zR (zF ?_)))))))
   have hS266:=hS22.nilrow 31 1
   have hS268:=hS266.innNil 3 1 KL.encI
   have hS270:sW w U U16 [inn 3 1 KL.encI ([]:List Hd) ([]:List (List Int)),.row none 0 31 1 []] W19:=hS268
   cases hm265
   exact ⟨rfl,_,(wJk rfl rfl),U16,_,(hS270.pick [1,0] _ (by decide) rfl),none,0,([]:List Hd),rfl,rfl⟩
 ·intro c11 hm271
  refine cT Z c11 (sR fL3 Z (oM Z Z (oA Z Z (oA Z Z (eN (zI (zR (zF ?_))))))))
  have hS272:=hS10.nilrow 31 1
  have hS274:=hS272.innNil 3 1 KL.encI
  have hS276:sW w U U4 [inn 3 1 KL.encI ([]:List Hd) ([]:List (List Int)),.row none 0 31 1 []] W7:=hS274
  cases hm271
  exact ⟨rfl,_,(wJk rfl rfl),U4,_,(hS276.pick [1,0] _ (by decide) rfl),none,0,([]:List Hd),rfl,rfl⟩
theorem wFq (p0:Int) (w:World) (U:PHeap) (hS:St0 w U [])  {r:Bool} (hm:wBH p0=some r):Gv Tryz.prog 105 [jV p0] w (wCR w [] U (fun U_ L_ v=>v=.bool r/\L_=[])):=by
 unfold wBH at hm
 refine Gv.of Tryz.func105 Z Tryz.ntmps105 Tryz.results105 Z (sR fL1 Z (oA Z Z (eN (sR (.fl 0 (.fx 1 (.fl 2 (.nil)) .stop)) Z (oM Z Z (bnK hm fun x1 h2 hm3=>zH 0 Z Z Z Z (zG Z Z Tryz.call86 (zB Z (zB Z (zB Z zL))) Z) hS (fun hs=>wCU p0 0 9999 w U hs h2) (.inr Z) ?_))))))
 rintro U4 L5 v6 W7 le8 hS9 ⟨rfl,rfl⟩
 have hS10:sW w U U4 [] W7:=hS9
 refine oA Z Z (eN (zI ?_))
 have hE:=nB hm3;first | subst r | cases hE
 exact ⟨Z,_,(ze Z),U4,_,hS10,Z,Z⟩
theorem wFr (p0:Int) (p1:Int) (p2:List Int) (pb2:Nat) (pA2:Option Addr) (pc2:Nat) (w:World) (U:PHeap) (hS:St0 w U []) (ha0:Cl U pb2 0 [.slice pA2 p2.length pc2]) (ha1:Sl U 1 pA2 pc2 p2.length (nA KL.encI p2)) {r:Int} (hm:wAf p0 p1 p2=some r):Gv Tryz.prog 107 [jV p0,jV p1,.pointer (some ⟨pb2,0,none⟩)] w (wCR w [] U (fun U_ L_ v=>v=jV r/\L_=[])):=by
 unfold wAf at hm
 refine Gv.of Tryz.func107 rfl Tryz.ntmps107 Tryz.results107 rfl (sR fL1 rfl (OKS.ra rfl rfl rfl rfl rfl rfl (eN (zC (CK.anyOrd ZN [1,3,3,1,1,3,3,1,2,3] (fC0_7 (.fx 8 (.fl 9 (.nil)) .stop)) (by kernel_rfl) ?_)))))
 have hS1:=hS.drew
 generalize hw_W2:({ w with drawn:=w.drawn + 1 }:World)=W2 at hS1 ⊢
 refine oL Z (hS1.ldC (f:=0) ha0 (v:=.slice pA2 p2.length pc2) Z Z ZI Z) (oM Z Z (bnK hm fun x3 h4 hm5=>?_))
 have q:=ha1.el (fun _=>rfl) (wAg h4)
 obtain ⟨b6,off7,hA8,hC9⟩:=q
 refine oR Z (zo Z Z hA8 Z zA zD (wCA h4) (wCH h4)) (oL Z (hS1.ldC (f:=0) hC9 (v:=jV x3) Z Z zN Z) (oL Z (hS1.ldC (f:=0) ha0 (v:=.slice pA2 p2.length pc2) Z Z ZI Z) (oM Z Z (bnK hm5 fun x10 h11 hm12=>?_))))
 have q:=ha1.el (fun _=>rfl) (wAg h11)
 obtain ⟨b13,off14,hA15,hC16⟩:=q
 refine oR Z (zo Z Z hA15 Z zA zD (wCA h11) (wCH h11)) (oL Z (hS1.ldC (f:=0) hC16 (v:=jV x10) Z Z zN Z) (bnK hm12 fun x17 h18 hm19=>zH 0 Z Z Z Z (zG Z Z Tryz.call82 (zB Z (zB Z zL)) Z) hS1 (fun hs=>wCW x3 x10 W2 U hs h18) (.inr Z) ?_))
 rintro U20 L21 v22 W23 le24 hS25 ⟨rfl,rfl⟩
 have hS26:sW w U U20 [] W23:=hS25
 refine oA Z Z (eN (zI ?_))
 have hE:=nB hm19;first | subst r | cases hE
 exact ⟨Z,_,(ze Z),U20,_,hS26,Z,Z⟩
theorem wEY (p0:List wAB) (pA0:Option Addr) (pc0:Nat) (p1:List Int) (pA1:Option Addr) (pc1:Nat) (p2:List Int) (pA2:Option Addr) (pc2:Nat) (w:World) (U:PHeap) (hS:St0 w U []) (ha0:Sl U 3 pA0 pc0 p0.length (nA wAH p0)) (ha1:Sl U 1 pA1 pc1 p1.length (nA KL.encI p1)) (ha2:Sl U 1 pA2 pc2 p2.length (nA KL.encI p2)) {r:(List Int) × Int} (hm:wBD p0 p1 p2=some r):Gv Tryz.prog 48 [.slice pA0 p0.length pc0,.slice pA1 p1.length pc1,.slice pA2 p2.length pc2] w (wCR w [] U (fun U_ L_ v=>∃ (A0:Option Addr) (c0:Nat),v=.tuple #[.slice A0 r.1.length c0,jV r.2]/\L_=[.row A0 c0 3 1 (nA KL.encI r.1)])):=by
 unfold wBD at hm
 refine Gv.of Tryz.func48 rfl Tryz.ntmps48 Tryz.results48 rfl (sR (.fx 0 (.fl 1 (.fl 2 (.nil))) .stop) rfl (OKS.box (cs:=[.slice pA2 p2.length pc2]) rfl rfl rfl rfl rfl rfl (by rfl) hS ?_))
 intro W1 b2 hS3
 have q:=hS3.freeze (k:=0) rfl
 obtain ⟨U5,le6,hC7,hS8⟩:=q
 replace hC7:=Cl.of hC7
 have hS9:sW w U U5 [] W1:=hS8
 replace hC7:Cl U5 b2 0 [.slice pA2 p2.length pc2]:=hC7
 refine oA Z Z (oA Z Z (eN (sR (.fl 0 (.fl 1 (.fx 2 (wPo (.nil)) .stop))) Z (oM Z Z (oM Z Z ?_)))))
 have h10:=ha0.le le6
 have h11:=ha1.le le6
 have q:=bnd hm
 obtain ⟨⟨x12,x13⟩,h14,hm15⟩:=q
 try dsimp only at hm15
 refine zH 0 Z Z Z Z (zG Z Z Tryz.call45 (zB Z (zB Z zL)) Z) hS9 (fun hs=>wDN p0 pA0 pc0 p1 pA1 pc1 W1 U5 hs h10 h11 h14) (.inr Z) ?_
 rintro U16 L17 v18 W19 le20 hS21 ⟨A22,c23,h24,rfl,rfl⟩
 let B0:Res:=.row A22 c23 31 1 (nA wEa h24)
 have hS27:sW w U U16 [B0,inn 3 1 KL.encI h24 x12] W19:=hS21
 refine oM Z Z (oR Z (Runs.ext Z Z (v:=.slice A22 x12.length c23) Z) (oR Z (Runs.ext Z Z (v:=jV x13) Z) (oA Z Z (oA Z Z (eN (zC (zM (sR fL3 Z (oM Z Z (oR Z (ZF Z Z Z) (oA Z Z (eN (ifc hm15 ?_ ?_)))))))))))))
 ·intro c28 hm29
  refine zi (zw (fun h=>h c28.out)) (sR fL6 Z ?_)
  have h30:=hC7.le le20
  refine oL Z (hS27.ldC (f:=0) h30 (v:=.slice pA2 p2.length pc2) Z Z ZI Z) (oR Z (zQ Z Z zA) (oM Z Z (oR Z (zQ Z Z zV) (oR Z (ZF Z Z Z) (oA Z Z (eN (ifc hm29 ?_ ?_)))))))
  ·intro c31 hm32
   refine zi (zw (fun h=>h c31.out)) (sR (.fl 0 (.fx 1 (.fl 2 (.fl 3 (.nil))) .stop)) Z (oL Z (hS27.ldC (f:=0) h30 (v:=.slice pA2 p2.length pc2) Z Z ZI Z) ?_))
   have h33:=ha2.le le6
   have h34:=h33.le le20
   have hF35:FnOK Tryz.prog U16 (.func (.func 105) #[] #[]) wJY wJZ wBH:=⟨105,[],[],rfl,Tryz.call105,fun U1 w1 x y vs le hs ha hm=>by obtain rfl:=ha;exact wFq x w1 U1 hs  hm⟩
   refine bnK hm32 fun x36 h37 hm38=>zH 0 Z Z Z Z (zG Z Z Tryz.call99 (zB Z (zB Z zL)) Z) hS27 (fun hs=>wBO p2 pA2 pc2 wBH (.func (.func 105) #[] #[]) W19 U16 hs h34 hF35 h37) (.inr Z) ?_
   rintro U39 L40 v41 W42 le43 hS44 ⟨rfl,rfl⟩
   have hS45:sW w U U39 [B0,inn 3 1 KL.encI h24 x12] W42:=hS44
   refine oR Z (ZD Z Z) (oA Z Z (eN (ifc hm38 ?_ ?_)))
   ·intro c46 hm47
    refine zi (nC c46.out) (sR (.fl 0 (.fx 1 (.fl 2 (.nil)) .stop)) Z ?_)
    have h48:=h30.le le43
    refine oL Z (hS45.ldC (f:=0) h48 (v:=.slice pA2 p2.length pc2) Z Z ZI Z) ?_
    have h49:=h34.le le43
    refine bnK hm47 fun x50 h51 hm52=>zH 0 Z Z Z Z (zG Z Z Tryz.call87 (zB Z zL) Z) hS45 (fun hs=>wCk p2 pA2 pc2 W42 U39 hs h49 h51) (.inr Z) ?_
    rintro U53 L54 v55 W56 le57 hS58 ⟨rfl,rfl⟩
    have hS59:sW w U U53 [B0,inn 3 1 KL.encI h24 x12] W56:=hS58
    refine oA Z Z (eN (ifc hm52 ?_ ?_))
    ·intro c60 hm61
     refine zd (congrArg nD c60.out) (sR fL2 Z (oA Z Z (oA Z Z (eN (zI (zR (zF ?_)))))))
     have hS62:=hS59.nilrow 3 1
     cases hm61
     exact ⟨rfl,_,(wJk rfl rfl),U53,_,(hS62.pick [0] _ (by decide) rfl),none,0,rfl,rfl⟩
    ·intro c60 hm64
     refine zi (congrArg nD (nJ.2 c60.out)) (CK.skip (zj (zJ (sR fL1 Z (oA Z Z (eN (zC (sR fL3 Z (oM Z Z (oR Z (zQ Z Z zm) (oM Z Z (eN (zM ?_)))))))))))))
     have q:=bnd hm64
     obtain ⟨⟨y96,y97⟩,hf93,hm92⟩:=q
     try dsimp only at hm92
     have q:=wBr hf93
     obtain ⟨hle94,hf95⟩:=q
     replace hle94:=zE hle94
     refine CK.forN' (fun k91 (l86,l90) σ_ w_=>∃ (U_:PHeap) (A87:Option Addr) (c88:Nat),σ_ 38=jV (↑k91:Int)/\σ_ 5=.pointer (some ⟨b2,0,none⟩)/\σ_ 10=.slice A87 l86.length c88/\σ_ 36=.slice A22 l90.length c23/\σ_ 37=jV (↑x12.length:Int)/\PHeap.Le U53 U_/\sW w U U_ [.row A87 c88 3 1 (nA KL.encI l86),B0,inn 3 1 KL.encI h24 l90] w_) hf95 ?_ ?_ ?_
     ·have hS98:=hS59.nilrow 3 1
      exact ⟨U53,none,0,Z,Z,Z,Z,Z,(zf _),hS98⟩
     ·rintro k91 ⟨l86,l90⟩ xx102 σ100 W101 hk105 ⟨U107,A87,c88,fi106,f110,f111,f112,f113,le108,hS109⟩ hx103
      try dsimp only at hx103
      have c114:Hid ((↑k91:Int) < (↑x12.length:Int)):=zE (wBu hk105)
      replace hk105:=zE hk105
      have hi115:Hid (w64 ((↑k91:Int) + 1)=(↑(k91 + 1):Int)):=zE (by have h1:=hle94.out;have h2:=c114.out;rw [wAc] <;> omega)
      refine sR fL1 Z (oR Z (zO Z fi106 f113) (eN (zC (cT Z c114 (kN (zC (zM (sR fL3 Z (bnK hx103 fun _ h116 hm117=>?_)))))))))
      obtain ⟨b118,hA119⟩:=hS109.rowSome (j:=1) rfl (by rw [wAF (f:=wEa) (sz:=1) (fun _=>rfl),(hS109.innFit (j:=2) rfl).len];have hz:=wAz h116;omega)
      refine oR Z (zx Z f112 hA119 fi106 zm Tryz.sizeOf31 (wAz h116)) ?_
      have hf120:=hS109.innFit (j:=2) rfl
      have hg121:=wBU (xs:=h24) (k:=k91) (by rw [hf120.len];exact wAz h116)
      have hv122:Value.slice (gd h24 k91).A (gd h24 k91).n (gd h24 k91).c=.slice ((gd h24 k91).A) ((gd l90 k91).length) ((gd h24 k91).c):=by rw [hf120.at_ (k:=k91) (wAz h116)]
      refine OKS.m rfl rfl rfl rfl (RunsK.to (hS109.ldR (j:=1) rfl hA119 rfl rfl ZI (wBM (sz:=1) (fun _=>rfl) _ _ 0 _ hg121 (by first | omega | rfl | simp) rfl)) hv122) rfl ?_
      let B1:Res:=.row A87 c88 3 1 (nA KL.encI l86)
      have hS123:sW w U U107 [inn 3 1 KL.encI h24 l90,B1,B0] W101:=hS109.pick [2,0,1] _ (by decide) rfl
      have hS124:=hS123.innTake (k:=k91) (wAz h116)
      have hS126:sW w U U107 [.row ((gd h24 k91).A) ((gd h24 k91).c) 3 1 (nA KL.encI (gd l90 k91)),wNY 3 1 KL.encI h24 l90 k91,B1,B0] W101:=hS124
      refine oA Z Z (eN (sR (.fl 0 (.fl 1 (.fx 2 (.nil) .stop))) Z (oM Z Z (oR Z (Runs.mkf Z zL (zB f110 zL)) ?_))))
      have h127:=h48.le le57
      have h128:=h127.le le108
      have h129:=h49.le le57
      have h130:=h129.le le108
      have hF131:FnOK Tryz.prog U107 (.func (.func 107) #[] #[.pointer (some ⟨b2,0,none⟩)]) ar50 rr50 (fun x=>wAf x.1 x.2 p2):=⟨107,[],[.pointer (some ⟨b2,0,none⟩)],rfl,Tryz.call107,fun U1 w1 x y vs le hs ha hm=>by obtain rfl:=ha;exact wFr x.1 x.2 p2 b2 pA2 pc2 w1 U1 hs (h128.le le) (h130.le le) hm⟩
      refine bnK hm117 fun x132 h133 hm134=>zH 1 Z Z Z Z (zG Z Z Tryz.call106 (zB Z (zB Z zL)) Z) hS126 (fun hs=>wBW (gd l90 k91) ((gd h24 k91).A) ((gd h24 k91).c) (fun x=>wAf x.1 x.2 p2) (.func (.func 107) #[] #[.pointer (some ⟨b2,0,none⟩)]) W101 U107 hs hF131 ⟨_,_,Z⟩ h133) (.inl Z) ?_
      rintro U135 L136 v137 W138 le139 hS140 ⟨rfl,rfl,h141⟩
      let B2:Res:=.row ((gd h24 k91).A) ((gd h24 k91).c) 3 1 (nA KL.encI x132)
      have hS142:sW w U U135 [B2,wNY 3 1 KL.encI h24 l90 k91,B1,B0] W138:=hS140
      refine eN (rR (.fl 0 (.fl 1 (.fx 2 (.fl 3 (.nil)) .stop))) rfl (zP rfl rfl rfl rfl rfl f111 (zP rfl rfl rfl rfl rfl (nP (b:=(.slice ((gd h24 k91).A) ((gd l90 k91).length) ((gd h24 k91).c):Value)) (c:=(.slice ((gd h24 k91).A) x132.length ((gd h24 k91).c):Value)) rfl (by rw [h141])) (bnK hm134 fun x143 h144 hm145=>ZG (j:=2) (enc:=KL.encI) (xs:=l86) (ys:=x132) (zs:=x143) rfl rfl rfl rfl rfl zq wFZ rfl rfl rfl rfl rfl rfl hS142 rfl rfl rfl (hS142.srcR (j:=0) rfl (by decide) (wAF (f:=KL.encI) (sz:=1) (fun _=>rfl) x132)) (fun _=>rfl) (fun _=>rfl) h144 rfl ?_))))
      intro A146 c147 W148 hS149
      let B3:Res:=.row A146 c147 3 1 (nA KL.encI x143)
      have hS150:sW w U U135 [B2,wNY 3 1 KL.encI h24 l90 k91,B3,B0] W148:=hS149
      refine oA Z Z (zn (zj (zJ (rR fL2 Z (oR Z (zk (zU Z fi106 Z) (congrArg (jV) hi115.out)) (oM Z Z (zn ?_)))))))
      have hS151:=hS150.innBack h141
      have hS152:sW w U U135 [inn 3 1 KL.encI h24 (nI l90 k91 x132),B3,B0] W148:=hS151
      cases hm145
      exact zJ ⟨rfl,⟨U135,A146,c147,rfl,f110,rfl,(nP (b:=(.slice A22 l90.length c23:Value)) (c:=(.slice A22 ((nI l90 k91 x132).length) c23:Value)) f112 (by simp only [nL])),f113,(le108.trans le139),(hS152.pick [1,2,0] _ (by decide) rfl)⟩⟩
     ·rintro σ157 W158 ⟨U167,A165,c166,fi160,f170,f171,f172,f173,le168,hS169⟩
      have c174:Hid (¬ ((↑(((↑x12.length:Int):Int) - 0).toNat:Int) < (↑x12.length:Int))):=zE (wBL)
      refine sR fL1 Z (oR Z (zO Z fi160 f173) (eN (zC (cF Z c174 (zu (zX (zX (zp (zJ (sR fL3 Z (oM Z f171 (oA Z Z (oA Z Z (eN (zI ?_)))))))))))))))
      cases hm92
      exact ⟨rfl,_,(wJk rfl rfl),U167,_,(hS169.pick [0] _ (by decide) rfl),A165,c166,rfl,rfl⟩
   ·intro c46 hm175
    refine zd (nF (c46.out)) (sR fL2 Z (oA Z Z (oA Z Z (eN (zI (zR (zF ?_)))))))
    have hS176:=hS45.nilrow 3 1
    cases hm175
    exact ⟨rfl,_,(wJk rfl rfl),U39,_,(hS176.pick [0] _ (by decide) rfl),none,0,rfl,rfl⟩
  ·intro c31 hm178
   refine cT Z c31 (sR fL2 Z (oA Z Z (oA Z Z (eN (zI (zR (zF ?_)))))))
   have hS179:=hS27.nilrow 3 1
   cases hm178
   exact ⟨rfl,_,(wJk rfl rfl),U16,_,(hS179.pick [0] _ (by decide) rfl),none,0,rfl,rfl⟩
 ·intro c28 hm181
  refine cT Z c28 (sR fL3 Z (oM Z Z (oA Z Z (oA Z Z (eN (zI (zR (zF ?_))))))))
  have hS182:=hS27.nilrow 3 1
  cases hm181
  exact ⟨rfl,_,(wJk rfl rfl),U16,_,(hS182.pick [0] _ (by decide) rfl),none,0,rfl,rfl⟩
theorem wFs (p0:List wAB) (pA0:Option Addr) (pc0:Nat) (w:World) (U:PHeap) (hS:St0 w U []) (ha0:Sl U 3 pA0 pc0 p0.length (nA wAH p0)) {r:(List Int) × Int} (hm:wBI p0=some r):Gv Tryz.prog 43 [.slice pA0 p0.length pc0] w (wCR w [] U (fun U_ L_ v=>∃ (A0:Option Addr) (c0:Nat),v=.tuple #[.slice A0 r.1.length c0,jV r.2]/\L_=[.row A0 c0 3 1 (nA KL.encI r.1)])):=by
 unfold wBI at hm
 refine Gv.of Tryz.func43 Z Tryz.ntmps43 Tryz.results43 Z (sR fL2 Z (oA Z Z (oA Z Z (eN (zC (sR (.fl 0 (.fx 1 (.fl 2 (.nil)) .stop)) Z (oM Z Z (bnK hm fun x1 h2 hm3=>zH 0 Z Z Z Z (zG Z Z Tryz.call41 (zB Z zL) Z) hS (fun hs=>wDy p0 pA0 pc0 w U hs ha0 h2) (.inr Z) ?_))))))))
 rintro U4 L5 v6 W7 le8 hS9 ⟨rfl,rfl⟩
 have hS10:sW w U U4 [] W7:=hS9
 refine oA Z Z (eN (sR fL2 Z (oM Z Z (oR Z (ZF Z Z Z) (eN (ifc hm3 ?_ ?_))))))
 ·intro c11 hm12
  refine zi (zw (fun h=>h c11.out)) (kN (sR (.fl 0 (.fx 1 (.fl 2 (.fl 3 (.nil))) .stop)) Z (oM Z Z ?_)))
  have h13:=ha0.le le8
  refine bnK hm12 fun x14 h15 hm16=>zH 0 Z Z Z Z (zG Z Z Tryz.call89 (zB Z zL) Z) hS10 (fun hs=>wDM p0 pA0 pc0 W7 U4 hs h13 h15) (.inr Z) ?_
  rintro U17 L18 v19 W20 le21 hS22 ⟨A23,c24,rfl,rfl⟩
  have hS26:sW w U U17 [.row A23 c24 3 1 (nA KL.encI x14)] W20:=hS22
  refine oA Z Z (oA Z Z (eN (zI ?_)))
  cases hm16
  exact ⟨Z,_,(wJk Z Z),U17,_,hS26,A23,c24,Z,Z⟩
 ·intro c11 hm27
  refine cT Z c11 (sR fL3 Z (oM Z Z (oA Z Z (oA Z Z (eN (zI (zF ?_)))))))
  have hS28:=hS10.nilrow 3 1
  cases hm27
  exact ⟨Z,_,(wJk Z Z),U4,_,hS28,none,0,Z,Z⟩
theorem wBe (p0:List Int) (pA0:Option Addr) (pc0:Nat) (p1:Int) (w:World) (U:PHeap) (hS:St0 w U []) (ha0:Sl U 1 pA0 pc0 p0.length (nA KL.encI p0)) {r:Bool} (hm:wAM p0 p1=some r):Gv Tryz.prog 53 [.slice pA0 p0.length pc0,jV p1] w (wCR w [] U (fun U_ L_ v=>v=.bool r/\L_=[])):=by
 unfold wAM at hm
 refine Gv.of Tryz.func53 Z Tryz.ntmps53 Tryz.results53 Z (sR fL1 Z (oA Z Z (eN (sR (.fl 0 (.fx 1 (.fl 2 (.nil)) .stop)) Z (oM Z Z (bnK hm fun x1 h2 hm3=>OKS.makeSlice (enc:=KL.encT) (z:=false) (v:=.bool false) Z Z Z Z Z (wHA Tryz.runUnderlying154) info4 Z Z Z Z Z Z h2 hS ?_))))))
 intro W4 b5 hS6
 have hS8:sW w U U [.row (some ⟨b5,0,none⟩) x1.length 4 1 (nA KL.encT x1)] W4:=hS6
 refine oA Z Z (eN (zC (sR fL3 Z (oM Z Z (oR Z (zQ Z Z zA) (oM Z Z (eN (zM ?_))))))))
 have q:=wCv hm3
 obtain ⟨r16,hX17⟩:=q
 have q:=wCu hX17
 obtain ⟨hle18,hf19⟩:=q
 replace hle18:=zE hle18
 refine CK.forN (fun k15 l14 σ_ w_=>∃ (U_:PHeap),σ_ 12=jV (↑k15:Int)/\σ_ 0=.slice pA0 p0.length pc0/\σ_ 1=jV p1/\σ_ 5=.slice (some ⟨b5,0,none⟩) l14.length x1.length/\σ_ 10=.slice pA0 p0.length pc0/\σ_ 11=jV (↑p0.length:Int)/\PHeap.Le U U_/\sW w U U_ [.row (some ⟨b5,0,none⟩) x1.length 4 1 (nA KL.encT l14)] w_/\l14.length=x1.length) hf19 ?_ ?_ ?_
 ·exact ⟨U,Z,Z,Z,Z,Z,Z,(zf _),hS8,Z⟩
 ·rintro k15 l14 xx22 σ20 W21 hk25 ⟨U27,fi26,f30,f31,f32,f33,f34,le28,hS29,h35⟩ hx23 hb24
  have c36:Hid ((↑k15:Int) < (↑p0.length:Int)):=zE (wBu hk25)
  replace hk25:=zE hk25
  have hi37:Hid (w64 ((↑k15:Int) + 1)=(↑(k15 + 1):Int)):=zE (by have h1:=hle18.out;have h2:=c36.out;rw [wAc] <;> omega)
  refine sR fL1 Z (oR Z (zO Z fi26 f34) (eN (zC (cT Z c36 (kN (zC (zM (sR fL3 Z (bnK hx23 fun x38 h39 hm40=>?_)))))))))
  have h41:=ha0.le le28
  have q:=h41.el (fun _=>rfl) (wAg h39)
  obtain ⟨b42,off43,hA44,hC45⟩:=q
  refine oR Z (zx Z f33 hA44 fi26 zA zD (wCG h39)) (oL Z (hS29.ldC (f:=0) hC45 (v:=jV x38) Z Z zN Z) (oA Z Z (eN (zC (sR fL13 Z (oM Z Z (oR Z (zO Z Z Z) (oM Z Z (ifc hm40 ?_ ?_)))))))))
  ·intro c46 hm47
   refine oT Z c46 (oT Z c46 (oT Z c46 (oR Z (zK Z (wFv c46.out) Z) (oM Z Z (oN Z (oN Z (oN Z (oN Z (oR Z (zK Z Z Z) (eN (zd Z (sR fL1 Z (oA Z Z (eN (zI (zF (zR (zF ?_))))))))))))))))))
   have q:=wBE hm47
   obtain ⟨v48,hm49,e50⟩:=q
   obtain rfl:=wCT hm3 hX17 (hb24 v48 e50)
   refine zF (zR (zF ?_))
   have hE:=nB hm49;first | subst r | cases hE
   exact ⟨rfl,_,(ze rfl),U27,_,(hS29.pick [] _ (by decide) rfl),rfl,rfl⟩
  ·intro c46 hm51
   refine zP Z Z Z (wF Z c46) Z Z (zP Z Z Z (wF Z c46) Z f31 (rU Z (wF Z c46) (Runs.geq Z Z Z) (oR Z (zr Z (zw c46.out) Z) (oM Z Z (ifc hm51 ?_ ?_)))))
   ·intro c52 hm53
    refine oT Z c52 (oT Z c52 (oT Z c52 (oT Z c52 (oR Z (zK Z (wFv c52.out) Z) (eN (zd Z (sR fL1 Z (oA Z Z (eN (zI (zF (zR (zF ?_)))))))))))))
    have q:=wBE hm53
    obtain ⟨v54,hm55,e56⟩:=q
    obtain rfl:=wCT hm3 hX17 (hb24 v54 e56)
    refine zF (zR (zF ?_))
    have hE:=nB hm55;first | subst r | cases hE
    exact ⟨rfl,_,(ze rfl),U27,_,(hS29.pick [] _ (by decide) rfl),rfl,rfl⟩
   ·intro c52 hm57
    refine zP Z Z Z (wF Z c52) Z f32 (zP Z Z Z (wF Z c52) Z Z (bnK hm57 fun _ h58 hm59=>rU Z (wF Z c52) (zo Z Z Z Z Tryz.runUnderlying154 Tryz.sizeOf4 (wDn h58) (wDo h58)) ?_))
    have hg60:=wBU (xs:=l14) (wAz h58)
    refine OKS.m rfl rfl rfl (zh rfl rfl (zw c52.out)) (hS29.ldR (j:=0) rfl rfl rfl rfl Tryz.isAgg4 (wBM (sz:=1) (fun _=>rfl) _ _ 0 _ hg60 (by first | omega | rfl | simp) rfl)) rfl (zZ rfl rfl rfl rfl (fun _=>zr rfl (zw c52.out) rfl) (eN (ifc hm59 ?_ ?_)))
    ·intro c61 hm62
     refine zd (congrArg nD c61.out) (sR fL1 Z (oA Z Z (eN (zI (zF (zR (zF ?_)))))))
     have q:=wBE hm62
     obtain ⟨v63,hm64,e65⟩:=q
     obtain rfl:=wCT hm3 hX17 (hb24 v63 e65)
     refine zF (zR (zF ?_))
     have hE:=nB hm64;first | subst r | cases hE
     exact ⟨rfl,_,(ze rfl),U27,_,(hS29.pick [] _ (by decide) rfl),rfl,rfl⟩
    ·intro c61 hm66
     refine zi (congrArg nD (nJ.2 c61.out)) (kN (rR (wMC (.fx 3 (.nil) .stop)) Z (oM Z f32 (oM Z Z (oR Z (zo Z Z Z Z Tryz.runUnderlying154 Tryz.sizeOf4 (wDn h58) (wDo h58)) ?_)))))
     have hg67:=wBU (xs:=l14) (wAz h58)
     refine OKS.stR (j:=0) (vs:=[.bool true]) (cs':=nA KL.encT (nI l14 x38.toNat true)) rfl rfl rfl rfl hS29 rfl rfl rfl rfl rfl Tryz.sizeOf4 (by rw [wAF (f:=KL.encT) (sz:=1) (fun _=>rfl)];have hz:=wAz h58;simp only [nH,nE,nG,nN,nO];first | omega | (simp only [nK];omega)) rfl (wEy (sz:=1) (fo:=0) (fun _=>rfl) _ _ _ _ hg67 (by first | omega | (simp only [nK];omega) | (simp only [nH,nE,nG];omega)) (zW rfl) rfl) rfl ?_
     intro W68 hS69
     have hS70:sW w U U27 [.row (some ⟨b5,0,none⟩) x1.length 4 1 (nA KL.encT (nI l14 x38.toNat true))] W68:=hS69
     refine zn (zj (zJ (rR fL2 Z (oR Z (zk (zU Z fi26 Z) (congrArg (jV) hi37.out)) (oM Z Z (zn ?_))))))
     obtain rfl:=nB hm66
     exact zJ ⟨rfl,_,rfl,⟨U27,rfl,f30,f31,(nP (b:=(.slice (some ⟨b5,0,none⟩) l14.length x1.length:Value)) (c:=(.slice (some ⟨b5,0,none⟩) ((nI l14 x38.toNat true).length) x1.length:Value)) f32 (by simp only [nL])),f33,f34,le28,hS70,(by simp only [nL];exact h35)⟩⟩
 ·rintro y76 σ72 W73 ⟨U77,fi75,f80,f81,f82,f83,f84,le78,hS79,h85⟩ hb74
  have hm86:=wEP hm3 hX17 hb74
  have c87:Hid (¬ ((↑(((↑p0.length:Int):Int) - 0).toNat:Int) < (↑p0.length:Int))):=zE (wBL)
  refine sR fL1 Z (oR Z (zO Z fi75 f84) (eN (zC (cF Z c87 (zu (zX (zX (zp (zJ (sR fL5 Z (oM Z f80 (oR Z (zQ Z Z zA) (oM Z f81 (oR Z (Runs.eql Z Z Z) (oA Z Z (eN (zI ?_)))))))))))))))))
  cases hm86
  exact ⟨rfl,_,(ze rfl),U77,_,(hS79.pick [] _ (by decide) rfl),rfl,rfl⟩
end Go.Proofs.YtghaibkggdecnaaGreat
namespace Go.Proofs.YtghaibkggdecnaaGreat
open Go.KL
set_option maxHeartbeats 4000000
theorem wBg (p0:List Int) (pA0:Option Addr) (pc0:Nat) (p1:List Int) (pA1:Option Addr) (pc1:Nat) (w:World) (U:PHeap) (hS:St0 w U []) (ha0:Sl U 1 pA0 pc0 p0.length (nA KL.encI p0)) (ha1:Sl U 1 pA1 pc1 p1.length (nA KL.encI p1)) {r:Bool} (hm:wAQ p0 p1=some r):Gv Tryz.prog 15 [.slice pA0 p0.length pc0,.slice pA1 p1.length pc1] w (wCR w [] U (fun U_ L_ v=>v=.bool r/\L_=[])):=by
 unfold wAQ at hm
 refine Gv.of Tryz.func15 Z Tryz.ntmps15 Tryz.results15 Z (sR fL1 Z (oA Z Z (eN (zC (sR fL5 Z (oM Z Z (oR Z (zQ Z Z zA) (oM Z Z (oR Z (zQ Z Z zA) (oR Z (ZF Z Z Z) (eN ?_)))))))))))
 by_cases c1:(↑p0.length:Int)=(↑p1.length:Int)
 ·have hm2:=hm;rw [if_pos c1] at hm2;replace c1:=zE c1
  refine zi (zw (fun h=>h c1.out)) (kN (zC (sR fL3 Z (oM Z Z (oR Z (zQ Z Z zA) (oM Z Z (eN (zM ?_))))))))
  have q:=wCv hm2
  obtain ⟨r5,hX6⟩:=q
  have q:=wCu hX6
  obtain ⟨hle7,hf8⟩:=q
  replace hle7:=zE hle7
  refine CK.forN (fun k4 _ σ_ w_=>∃ (U_:PHeap),σ_ 13=jV (↑k4:Int)/\σ_ 0=.slice pA0 p0.length pc0/\σ_ 1=.slice pA1 p1.length pc1/\σ_ 12=jV (↑p0.length:Int)/\PHeap.Le U U_/\sW w U U_ [] w_) hf8 ?_ ?_ ?_
  ·exact ⟨U,Z,Z,Z,Z,(zf _),hS⟩
  ·rintro k4 ⟨⟩ xx11 σ9 W10 hk14 ⟨U16,fi15,f19,f20,f21,le17,hS18⟩ hx12 hb13
   try dsimp only at hx12
   have c22:Hid ((↑k4:Int) < (↑p0.length:Int)):=zE (wBu hk14)
   replace hk14:=zE hk14
   have hi23:Hid (w64 ((↑k4:Int) + 1)=(↑(k4 + 1):Int)):=zE (by have h1:=hle7.out;have h2:=c22.out;rw [wAc] <;> omega)
   refine sR fL1 rfl (zZ rfl rfl rfl rfl (fun _=>zO rfl fi15 f21) (eN (zC (cT Z c22 (kN (zC (zM (sR fL2 rfl (zP rfl rfl rfl rfl rfl fi15 (OKS.ra rfl rfl rfl rfl rfl rfl (eN (zC (CK.anyOrd ZN [3,3,3,1,3,3,3,1,3] fL9 (by kernel_rfl) ?_)))))))))))))
   have hS24:=hS18.drew
   generalize hw_W25:({ W10 with drawn:=W10.drawn + 1 }:World)=W25 at hS24 ⊢
   refine oM Z f19 (oM Z Z (bnK hx12 fun x26 h27 hm28=>?_))
   have h29:=ha0.le le17
   have q:=h29.el (fun _=>rfl) (wAg h27)
   obtain ⟨b30,off31,hA32,hC33⟩:=q
   refine oR Z (zx Z Z hA32 Z zA zD (wCG h27)) (oL Z (hS24.ldC (f:=0) hC33 (v:=jV x26) Z Z zN Z) (oM Z f20 (oM Z Z (bnK hm28 fun x34 h35 hm36=>?_))))
   have h37:=ha1.le le17
   have q:=h37.el (fun _=>rfl) (wAg h35)
   obtain ⟨b38,off39,hA40,hC41⟩:=q
   refine oR Z (zx Z Z hA40 Z zA zD (wCG h35)) (oL Z (hS24.ldC (f:=0) hC41 (v:=jV x34) Z Z zN Z) (oR Z (ZF Z Z Z) (eN (ifc hm36 ?_ ?_))))
   ·intro c42 hm43
    refine zi (zw (fun h=>h c42.out)) (CK.skip (zj (zJ (rR fL2 Z (oR Z (zk (zU Z fi15 Z) (congrArg (jV) hi23.out)) (oM Z Z (zn ?_)))))))
    obtain rfl:=nB hm43
    exact zJ ⟨Z,_,Z,⟨U16,Z,f19,f20,f21,le17,hS24⟩⟩
   ·intro c42 hm44
    refine cT Z c42 (sR fL1 Z (oA Z Z (eN (zI (zR (zF ?_))))))
    have q:=wBE hm44
    obtain ⟨v45,hm46,e47⟩:=q
    obtain rfl:=wCT hm2 hX6 (hb13 v45 e47)
    refine zF (zR (zF ?_))
    have hE:=nB hm46;first | subst r | cases hE
    exact ⟨Z,_,(ze Z),U16,_,hS24,Z,Z⟩
  ·rintro ⟨⟩ σ48 W49 ⟨U52,fi51,f55,f56,f57,le53,hS54⟩ hb50
   have hm58:=wEP hm2 hX6 hb50
   try dsimp only at hm58
   have c59:Hid (¬ ((↑(((↑p0.length:Int):Int) - 0).toNat:Int) < (↑p0.length:Int))):=zE (wBL)
   refine sR fL1 Z (oR Z (zO Z fi51 f57) (eN (zC (cF Z c59 (zu (zX (zX (zp (zJ (sR fL1 Z (oA Z Z (eN (zI ?_)))))))))))))
   have hE:=nB hm58;first | subst r | cases hE
   exact ⟨Z,_,(ze Z),U52,_,hS54,Z,Z⟩
 ·have hm60:=hm;rw [if_neg c1] at hm60;replace c1:=zE c1
  refine cT Z c1 (sR fL1 Z (oA Z Z (eN (zI (zF ?_)))))
  have hE:=nB hm60;first | subst r | cases hE
  exact ⟨Z,_,(ze Z),U,_,hS,Z,Z⟩
theorem wDE (p0:List Int) (p1:Int) (w:World) (U:PHeap) (hS:St0 w U [])  {r:(List Int)} (hm:wAl p0 p1=some r):Gv Tryz.prog 109 [.slice none 0 0,jV p1] w (wCR w [] U (fun U_ L_ v=>∃ (A0:Option Addr) (c0:Nat),v=.slice A0 r.length c0/\L_=[.row A0 c0 3 1 (nA KL.encI r)])):=by
 unfold wAl at hm
 refine Gv.of Tryz.func109 Z Tryz.ntmps109 Tryz.results109 Z (sR fL1 Z (oA Z Z (eN (zC (sR fL2 Z (oM Z Z (oR Z (zO Z Z Z) (eN ?_))))))))
 by_cases c1:p1 < 0
 ·have hm2:=hm;rw [if_pos c1] at hm2;replace c1:=zE c1
  refine cT Z c1 (rR (.fx 0 (.fx 1 (.nil) .stop) .stop) Z ?_)
  cases hm2
 ·have hm3:=hm;rw [if_neg c1] at hm3;replace c1:=zE c1
  refine cF Z c1 (kN (zC (sR fL8 rfl (zP rfl rfl rfl rfl rfl rfl (zP rfl rfl rfl rfl rfl rfl (zZ rfl rfl rfl rfl (fun _=>Runs.capn rfl rfl zA) (zP rfl rfl rfl rfl rfl rfl (zZ rfl rfl rfl rfl (fun _=>zQ rfl rfl zA) (zZ rfl rfl rfl rfl (fun _=>zk (ZL rfl rfl rfl) (congrArg (jV) (show w64 (0 - 0)=0 by decide))) (zZ rfl rfl rfl rfl (fun _=>ZL rfl rfl rfl) (OKS.ra rfl rfl rfl rfl rfl rfl (eN (sR fL2 rfl (zP rfl rfl rfl rfl rfl rfl (zZ rfl rfl rfl rfl (fun _=>Runs.gtr rfl rfl rfl) (eN (ifc hm3 ?_ ?_)))))))))))))))))
  ·intro c4 hm5
   refine cT Z c4 (rR (wOa (.fx 5 (fC6_9 (.nil)) .stop)) rfl (zP rfl rfl rfl rfl rfl rfl (zP rfl rfl rfl rfl rfl rfl (zZ rfl rfl rfl rfl (fun _=>Runs.capn rfl rfl zA) (zZ rfl rfl rfl rfl (fun _=>zk (Runs.slc (sz:=1) (a:=0) (b:=0) rfl rfl (.inr ⟨rfl,rfl⟩) (.inl ⟨_,rfl,rfl⟩) zA zD (by decide) (by decide) (by decide) (Nat.le_refl _)) rfl) (zP rfl rfl rfl rfl rfl rfl (bnK hm5 fun x6 h7 hm8=>OKS.appendZ (enc:=KL.encI) (z:=(0:Int)) (xs:=x6) rfl rfl rfl rfl rfl zq Tryz.underlying3 wFZ rfl rfl rfl rfl rfl hS rfl rfl h7 rfl ?_)))))))
   intro W9 A10 c11 hS12
   have hS14:sW w U U [.row A10 c11 3 1 (nA KL.encI x6)] W9:=hS12
   refine oM Z Z (oR Z (zQ Z Z zA) ?_)
   have hp15:=hS14.rowCap (j:=0) rfl (by decide) (wAF (f:=KL.encI) (sz:=1) (fun _=>rfl) x6)
   refine zZ (v:=.slice A10 0 c11) Z Z Z Z (fun _=>zk (Runs.slc (sz:=1) (a:=0) (b:=0) Z Z (.inr ⟨Z,Z⟩) (.inl ⟨_,Z,Z⟩) zA zD (Int.le_refl _) (Int.le_refl _) (Int.natCast_nonneg _) hp15) slc0) ?_
   have hS16:=hS14.cutRowM (enc:=KL.encI) (k:=0) (b:=0) rfl
   have hS17:sW w U U [.row A10 c11 3 1 (nA KL.encI ([]:List Int))] W9:=hS16
   refine oA Z Z (eN (sR fL2 Z (oM Z Z (oA Z Z (eN (zI ?_))))))
   cases hm8
   exact ⟨Z,_,(ze Z),U,_,hS17,A10,c11,Z,Z⟩
  ·intro c4 hm18
   refine cF Z c4 (kN (sR fL2 Z (oM Z Z (oA Z Z (eN (zI ?_))))))
   have hS19:=hS.nilrow 3 1
   cases hm18
   exact ⟨Z,_,(ze Z),U,_,hS19,none,0,Z,Z⟩
theorem wCl (p0:List (List Int)) (pA0:Option Addr) (pc0:Nat) (w:World) (U:PHeap) (hS:St0 w U []) (ha0:SlR U rl31 pA0 pc0 p0) {r:(List Int)} (hm:wAZ p0=some r):Gv Tryz.prog 58 [.slice pA0 p0.length pc0] w (wCR w [] U (fun U_ L_ v=>∃ (A0:Option Addr) (c0:Nat),v=.slice A0 r.length c0/\L_=[.row A0 c0 3 1 (nA KL.encI r)])):=by
 unfold wAZ at hm
 refine Gv.of Tryz.func58 Z Tryz.ntmps58 Tryz.results58 Z (sR fL1 Z (oA Z Z (eN (sR fL1 Z (oA Z Z (eN (zC (sR fL3 Z (oM Z Z (oR Z (zQ Z Z zm) (oM Z Z (eN (zM (bnK hm fun y12 hf9 hm8=>?_))))))))))))))
 have q:=wBr hf9
 obtain ⟨hle10,hf11⟩:=q
 replace hle10:=zE hle10
 refine CK.forN' (fun k7 x6 σ_ w_=>∃ (U_:PHeap),σ_ 11=jV (↑k7:Int)/\σ_ 0=.slice pA0 p0.length pc0/\σ_ 3=jV x6/\σ_ 9=.slice pA0 p0.length pc0/\σ_ 10=jV (↑p0.length:Int)/\PHeap.Le U U_/\sW w U U_ [] w_) hf11 ?_ ?_ ?_
 ·exact ⟨U,Z,Z,Z,Z,Z,(zf _),hS⟩
 ·rintro k7 x6 xx15 σ13 W14 hk18 ⟨U20,fi19,f23,f24,f25,f26,le21,hS22⟩ hx16
  have c27:Hid ((↑k7:Int) < (↑p0.length:Int)):=zE (wBu hk18)
  replace hk18:=zE hk18
  have hi28:Hid (w64 ((↑k7:Int) + 1)=(↑(k7 + 1):Int)):=zE (by have h1:=hle10.out;have h2:=c27.out;rw [wAc] <;> omega)
  refine sR fL1 Z (oR Z (zO Z fi19 f26) (eN (zC (cT Z c27 (kN (zC (zM (sR fL3 Z (bnK hx16 fun x29 h30 hm31=>?_)))))))))
  have h32:=ha0.le le21
  have q:=h32.el (wAg h30)
  obtain ⟨b33,off34,vs37,hA35,hC36,hr38⟩:=q
  obtain ⟨pA39,pc40,rfl,h41⟩:=hr38
  replace hC36:Cl U20 b33 (off34 + k7 * 1) [.slice pA39 x29.length pc40]:=hC36
  refine oR Z (zx Z f25 hA35 fi19 zm Tryz.sizeOf31 (wCG h30)) (oL Z (hS22.ldC (f:=0) hC36 (v:=.slice pA39 x29.length pc40) Z Z ZI Z) (oA Z Z (eN (sR fL5 Z (oM Z f24 (oM Z Z (oR Z (zQ Z Z zA) (oR Z (zU Z Z Z) (oA Z Z (eN (sR fL2 Z (oM Z Z (oR Z (zO Z Z Z) (eN (ifc hm31 ?_ ?_)))))))))))))))
  ·intro c42 hm43
   refine cT Z c42 (rR (.fx 0 (.fx 1 (.nil) .stop) .stop) Z ?_)
   cases hm43
  ·intro c42 hm44
   refine cF Z c42 (CK.skip (zj (zJ (rR fL2 Z (oR Z (zk (zU Z fi19 Z) (congrArg (jV) hi28.out)) (oM Z Z (zn ?_)))))))
   cases hm44
   exact zJ ⟨Z,⟨U20,Z,f23,Z,f25,f26,le21,hS22⟩⟩
 ·rintro σ46 W47 ⟨U51,fi49,f54,f55,f56,f57,le52,hS53⟩
  have c58:Hid (¬ ((↑(((↑p0.length:Int):Int) - 0).toNat:Int) < (↑p0.length:Int))):=zE (wBL)
  refine sR fL1 Z (oR Z (zO Z fi49 f57) (eN (zC (cF Z c58 (zu (zX (zX (zp (zJ (sR (.fl 0 (.fx 1 (.fl 2 (.nil)) .stop)) Z (oM Z f55 (bnK hm8 fun x59 h60 hm61=>zH 0 Z Z Z Z (zG Z Z Tryz.call109 (zB Z (zB Z zL)) Z) hS53 (fun hs=>wDE [] y12 W47 U51 hs h60) (.inr Z) ?_))))))))))))
  rintro U62 L63 v64 W65 le66 hS67 ⟨A68,c69,rfl,rfl⟩
  have hS71:sW w U U62 [.row A68 c69 3 1 (nA KL.encI x59)] W65:=hS67
  refine oA Z Z (eN (zC (sR fL3 Z (oM Z f54 (oR Z (zQ Z Z zm) (oM Z Z (eN (zM (bnK hm61 fun y91 hf88 hm87=>?_)))))))))
  have q:=wBr hf88
  obtain ⟨hle89,hf90⟩:=q
  replace hle89:=zE hle89
  refine CK.forN' (fun k86 l83 σ_ w_=>∃ (U_:PHeap) (A84:Option Addr) (c85:Nat),σ_ 27=jV (↑k86:Int)/\σ_ 6=.slice A84 l83.length c85/\σ_ 25=.slice pA0 p0.length pc0/\σ_ 26=jV (↑p0.length:Int)/\PHeap.Le U62 U_/\sW w U U_ [.row A84 c85 3 1 (nA KL.encI l83)] w_) hf90 ?_ ?_ ?_
  ·exact ⟨U62,A68,c69,Z,Z,Z,Z,(zf _),hS71⟩
  ·rintro k86 l83 xx94 σ92 W93 hk97 ⟨U99,A84,c85,fi98,f102,f103,f104,le100,hS101⟩ hx95
   have c105:Hid ((↑k86:Int) < (↑p0.length:Int)):=zE (wBu hk97)
   replace hk97:=zE hk97
   have hi106:Hid (w64 ((↑k86:Int) + 1)=(↑(k86 + 1):Int)):=zE (by have h1:=hle89.out;have h2:=c105.out;rw [wAc] <;> omega)
   refine sR fL1 Z (oR Z (zO Z fi98 f104) (eN (zC (cT Z c105 (kN (zC (zM (sR fL3 Z (bnK hx95 fun x107 h108 hm109=>?_)))))))))
   have h110:=ha0.le le52
   have h111:=h110.le le66
   have h112:=h111.le le100
   have q:=h112.el (wAg h108)
   obtain ⟨b113,off114,vs117,hA115,hC116,hr118⟩:=q
   obtain ⟨pA119,pc120,rfl,h121⟩:=hr118
   replace hC116:Cl U99 b113 (off114 + k86 * 1) [.slice pA119 x107.length pc120]:=hC116
   refine oR Z (zx Z f103 hA115 fi98 zm Tryz.sizeOf31 (wCG h108)) (oL Z (hS101.ldC (f:=0) hC116 (v:=.slice pA119 x107.length pc120) Z Z ZI Z) (oA Z Z (eN (rR (.fl 0 (.fl 1 (.fx 2 (.fl 3 (.nil)) .stop))) Z (oM Z f102 (oM Z Z (bnK hm109 fun x122 h123 hm124=>ZG (j:=0) (enc:=KL.encI) (xs:=l83) (ys:=x107) (zs:=x122) Z Z Z Z Z zq wFZ Z Z Z Z Z Z hS101 Z Z Z (hS101.srcS h121) (fun _=>Z) (fun _=>Z) h123 Z ?_)))))))
   intro A125 c126 W127 hS128
   have hS129:sW w U U99 [.row A125 c126 3 1 (nA KL.encI x122)] W127:=hS128
   refine oA Z Z (zn (zj (zJ (rR fL2 Z (oR Z (zk (zU Z fi98 Z) (congrArg (jV) hi106.out)) (oM Z Z (zn ?_)))))))
   cases hm124
   exact zJ ⟨Z,⟨U99,A125,c126,Z,Z,f103,f104,le100,hS129⟩⟩
  ·rintro σ133 W134 ⟨U142,A140,c141,fi136,f145,f146,f147,le143,hS144⟩
   have c148:Hid (¬ ((↑(((↑p0.length:Int):Int) - 0).toNat:Int) < (↑p0.length:Int))):=zE (wBL)
   refine sR fL1 Z (oR Z (zO Z fi136 f147) (eN (zC (cF Z c148 (zu (zX (zX (zp (zJ (sR fL2 Z (oM Z f145 (oA Z Z (eN (zI ?_))))))))))))))
   have hE:=nB hm87;first | subst r | cases hE
   exact ⟨Z,_,(ze Z),U142,_,hS144,A140,c141,Z,Z⟩
theorem wCr (p0:List Int) (pA0:Option Addr) (pc0:Nat) (p1:Int) (w:World) (U:PHeap) (hS:St0 w U []) (ha0:Sl U 1 pA0 pc0 p0.length (nA KL.encI p0)) {r:Int} (hm:wAw p0 p1=some r):Gv Tryz.prog 110 [.slice pA0 p0.length pc0,jV p1] w (wCR w [] U (fun U_ L_ v=>v=jV r/\L_=[])):=by
 unfold wAw at hm
 refine Gv.of Tryz.func110 Z Tryz.ntmps110 Tryz.results110 Z (sR fL1 Z (oA Z Z (eN (zC (sR fL3 Z (oM Z Z (oR Z (zQ Z Z zA) (oM Z Z (eN (zM ?_))))))))))
 have q:=wCv hm
 obtain ⟨r3,hX4⟩:=q
 have q:=wCu hX4
 obtain ⟨hle5,hf6⟩:=q
 replace hle5:=zE hle5
 refine CK.forN (fun k2 _ σ_ w_=>∃ (U_:PHeap),σ_ 8=jV (↑k2:Int)/\σ_ 0=.slice pA0 p0.length pc0/\σ_ 1=jV p1/\σ_ 7=jV (↑p0.length:Int)/\PHeap.Le U U_/\sW w U U_ [] w_) hf6 ?_ ?_ ?_
 ·exact ⟨U,Z,Z,Z,Z,(zf _),hS⟩
 ·rintro k2 ⟨⟩ xx9 σ7 W8 hk12 ⟨U14,fi13,f17,f18,f19,le15,hS16⟩ hx10 hb11
  try dsimp only at hx10
  have c20:Hid ((↑k2:Int) < (↑p0.length:Int)):=zE (wBu hk12)
  replace hk12:=zE hk12
  have hi21:Hid (w64 ((↑k2:Int) + 1)=(↑(k2 + 1):Int)):=zE (by have h1:=hle5.out;have h2:=c20.out;rw [wAc] <;> omega)
  refine sR fL1 Z (oR Z (zO Z fi13 f19) (eN (zC (cT Z c20 (kN (zC (zM (sR fL2 Z (oM Z fi13 (oA Z Z (eN (sR fL6 Z (oM Z f18 (oM Z f17 (oM Z Z (bnK hx10 fun x22 h23 hm24=>?_))))))))))))))))
  have h25:=ha0.le le15
  have q:=h25.el (fun _=>rfl) (wAg h23)
  obtain ⟨b26,off27,hA28,hC29⟩:=q
  refine oR Z (zx Z Z hA28 Z zA zD (wCG h23)) (oL Z (hS16.ldC (f:=0) hC29 (v:=jV x22) Z Z zN Z) (oR Z (Runs.eql Z Z Z) (eN (ifc hm24 ?_ ?_))))
  ·intro c30 hm31
   refine cT Z c30 (sR fL2 Z (oM Z Z (oA Z Z (eN (zI (zR (zF ?_)))))))
   have q:=wBE hm31
   obtain ⟨v32,hm33,e34⟩:=q
   obtain rfl:=wCT hm hX4 (hb11 v32 e34)
   refine zF (zR (zF ?_))
   cases hm33
   exact ⟨Z,_,(ze Z),U14,_,hS16,Z,Z⟩
  ·intro c30 hm35
   refine cF Z c30 (CK.skip (zj (zJ (rR fL2 Z (oR Z (zk (zU Z fi13 Z) (congrArg (jV) hi21.out)) (oM Z Z (zn ?_)))))))
   obtain rfl:=nB hm35
   exact zJ ⟨Z,_,Z,⟨U14,Z,f17,f18,f19,le15,hS16⟩⟩
 ·rintro ⟨⟩ σ36 W37 ⟨U40,fi39,f43,f44,f45,le41,hS42⟩ hb38
  have hm46:=wEP hm hX4 hb38
  try dsimp only at hm46
  have c47:Hid (¬ ((↑(((↑p0.length:Int):Int) - 0).toNat:Int) < (↑p0.length:Int))):=zE (wBL)
  refine sR fL1 Z (oR Z (zO Z fi39 f45) (eN (zC (cF Z c47 (zu (zX (zX (zp (zJ (sR fL1 Z (oA Z Z (eN (zI ?_)))))))))))))
  cases hm46
  exact ⟨Z,_,(ze Z),U40,_,hS42,Z,Z⟩
theorem wCP (p0:List Int) (pA0:Option Addr) (pc0:Nat) (p1:Int) (w:World) (U:PHeap) (hS:St0 w U []) (ha0:Sl U 1 pA0 pc0 p0.length (nA KL.encI p0)) {r:Bool} (hm:wAP p0 p1=some r):Gv Tryz.prog 59 [.slice pA0 p0.length pc0,jV p1] w (wCR w [] U (fun U_ L_ v=>v=.bool r/\L_=[])):=by
 unfold wAP at hm
 refine Gv.of Tryz.func59 Z Tryz.ntmps59 Tryz.results59 Z (sR fL1 Z (oA Z Z (eN (sR (.fl 0 (.fl 1 (.fx 2 (.fl 3 (.fl 4 (.nil))) .stop))) Z (oM Z Z (oM Z Z (bnK hm fun x1 h2 hm3=>zH 0 Z Z Z Z (zG Z Z Tryz.call110 (zB Z (zB Z zL)) Z) hS (fun hs=>wCr p0 pA0 pc0 p1 w U hs ha0 h2) (.inr Z) ?_)))))))
 rintro U4 L5 v6 W7 le8 hS9 ⟨rfl,rfl⟩
 have hS10:sW w U U4 [] W7:=hS9
 refine oR Z (Runs.geq Z Z Z) (oA Z Z (eN (zI ?_)))
 cases hm3
 exact ⟨Z,_,(ze Z),U4,_,hS10,Z,Z⟩
theorem wDK (w:World) (U:PHeap) (hS:St0 w U []) {r:Bool} (hm:wBT=some r):Gv Tryz.prog 11 [] w (wCR w [] U (fun U_ L_ v=>v=.bool r/\L_=[])):=by
 cases hm
 refine (xr11 w).mono ?_
 rintro v w' ⟨rfl,k⟩
 exact ⟨U,[],hS.grow k,Z,Z⟩
theorem wCQ (p0:List Int) (pA0:Option Addr) (pc0:Nat) (p1:List Int) (pA1:Option Addr) (pc1:Nat) (p2:Int) (w:World) (U:PHeap) (hS:St0 w U []) (ha0:Sl U 1 pA0 pc0 p0.length (nA KL.encB8 p0)) (ha1:Sl U 1 pA1 pc1 p1.length (nA KL.encB8 p1)) {r:Bool} (hm:wAk p0 p1 p2=some r):Gv Tryz.prog 8 [.slice pA0 p0.length pc0,.slice pA1 p1.length pc1,.int .u8 p2] w (wCR w [] U (fun U_ L_ v=>v=.bool r/\L_=[])):=by
 unfold wAk at hm
 refine Gv.of Tryz.func8 Z Tryz.ntmps8 Tryz.results8 Z (sR fL1 Z (oA Z Z (eN (sR (.fl 0 (.fx 1 (.fx 2 (.fl 3 (.nil)) .stop) .stop)) Z (oM Z Z (bnK hm fun x1 h2 hm3=>zH 0 Z Z Z Z (zG Z Z Tryz.call21 (zB Z zL) Z) hS (fun hs=>wDC p0 pA0 pc0 w U hs ha0 h2) (.inr Z) ?_))))))
 rintro U4 L5 v6 W7 le8 hS9 ⟨b10,A11,c12,rfl,rfl,h14⟩
 have hS15:sW w U U4 [.blk b10 136 [.slice A11 x1.bytes.length c12,jV x1.next,.int .u32 x1.state]] W7:=hS9
 have q:=bnd hm3
 obtain ⟨⟨x16,x17⟩,h18,hm19⟩:=q
 try dsimp only at hm19
 refine zH 1 Z Z Z Z (zG Z Z Tryz.call28 (zB Z (zB Z zL)) Z) hS15 (fun hs=>wDd x1 b10 A11 c12 24 W7 U4 hs h14 h18) (.inl Z) ?_
 rintro U20 L21 v22 W23 le24 hS25 ⟨A26,c27,A28,c29,rfl,rfl,h31⟩
 let B0:Res:=.blk b10 136 [.slice A28 x17.bytes.length c29,jV x17.next,.int .u32 x17.state]
 let B1:Res:=.row A26 c27 62 3 (nA wAH x16)
 have hS32:sW w U U20 [B1,B0] W23:=hS25
 refine oA Z Z (eN (sR (.fl 0 (.fx 1 (.fl 2 (.nil)) .stop)) Z (oM Z Z ?_)))
 have h33:=ha1.le le8
 have h34:=h33.le le24
 refine bnK hm19 fun x35 h36 hm37=>zH 0 Z Z Z Z (zG Z Z Tryz.call21 (zB Z zL) Z) hS32 (fun hs=>wDC p1 pA1 pc1 W23 U20 hs h34 h36) (.inr Z) ?_
 rintro U38 L39 v40 W41 le42 hS43 ⟨b44,A45,c46,rfl,rfl,h48⟩
 have hS49:sW w U U38 [.blk b44 136 [.slice A45 x35.bytes.length c46,jV x35.next,.int .u32 x35.state],B1,B0] W41:=hS43
 refine oA Z Z (eN (sR fL1 Z (oA Z Z (eN (zC (sR fL3 Z (oM Z Z (oR Z (zQ Z Z zV) (oA Z Z (eN (zM (CK.iter (fun (l79,x82,x83,l84,x88) σ_ w_=>∃ (U_:PHeap) (A80:Option Addr) (c81:Nat) (A85:Option Addr) (c86:Nat),σ_ 2=.int .u8 p2/\σ_ 7=.slice A26 x16.length c27/\σ_ 8=.pointer (some ⟨b44,0,none⟩)/\σ_ 9=.slice A85 l84.length c86/\σ_ 10=jV x88/\PHeap.Le U38 U_/\sW w U U_ [.blk b44 136 [.slice A80 l79.length c81,jV x82,.int .u32 x83],B0,B1,.row A85 c86 3 1 (nA KL.encI l84)] w_/\Sl U_ 1 A80 c81 l79.length (nA KL.encB8 l79)) hm37 ?_ ?_))))))))))))
 ·have hS89:=hS49.nilrow 3 1
  exact ⟨U38,A45,c46,none,0,rfl,rfl,rfl,rfl,rfl,(zf _),(hS89.pick [1,3,2,0] _ (by decide) rfl),h48⟩
 ·rintro ⟨l79,x82,x83,l84,x88⟩ xx93 σ91 W92 ⟨U98,A80,c81,A85,c86,f101,f102,f103,f104,f105,le99,hS100,h106⟩ hx94 hb95
  try dsimp only at hx94
  refine zC (sR fL2 Z (oM Z f105 (oR Z (Runs.gtr Z Z Z) (eN ?_))))
  by_cases c107:0 < x88
  ·have hm108:=hx94;rw [if_pos c107] at hm108;replace c107:=zE c107
   refine cT Z c107 (kN (zM (sR (.fl 0 (.fl 1 (.fx 2 (.fl 3 (.nil)) .stop))) Z (oM Z f103 (oM Z f105 ?_)))))
   have q:=bnd hm108
   obtain ⟨⟨x109,x110⟩,h111,hm112⟩:=q
   try dsimp only at hm112
   refine zH 1 Z Z Z Z (zG Z Z Tryz.call56 (zB Z (zB Z (zB Z zL))) Z) hS100 (fun hs=>wAd (⟨l79,x82,x83⟩:wAA) b44 A80 c81 1 x88 W92 U98 hs h106 h111) (.inl Z) ?_
   rintro U113 L114 v115 W116 le117 hS118 ⟨A119,c120,rfl,rfl,h121⟩
   let B2:Res:=.blk b44 136 [.slice A119 x110.bytes.length c120,jV x110.next,.int .u32 x110.state]
   let B3:Res:=.row A85 c86 3 1 (nA KL.encI l84)
   have hS122:sW w U U113 [B2,B0,B1,B3] W116:=hS118
   refine oA Z Z (eN (zC (sR fL3 Z (oM Z f104 (oR Z (zQ Z Z zA) (oR Z (Runs.eql Z Z Z) (eN (ifc hm112 ?_ ?_))))))))
   ·intro c123 hm124
    refine cT Z c123 (rR fL2 Z (oM Z f105 (oA Z Z (eN (rR (.fl 0 (.fl 1 (.fx 2 (.fx 3 (wMr (.nil)) .stop) .stop))) Z (oM Z f104 (oM Z Z (ZE (pv:=[(0,jV x88)]) (zs:=[jV 0]) (cs:=[jV x88]) Z Z Z Z Z (wAe Z wBb) zA zD Tryz.zeroValue3 Z Z Z Z Z hS122 ?_))))))))
    intro W125 b126 hS127
    let B4:Res:=.row (some ⟨b126,0,none⟩) 1 3 1 (nA KL.encI [x88])
    have hS129:sW w U U113 [B4,B2,B0,B1,B3] W125:=hS127
    refine bnK hm124 fun x130 h131 hm132=>ZG (j:=4) (enc:=KL.encI) (xs:=l84) (ys:=[x88]) (zs:=x130) rfl rfl rfl rfl rfl zq wFZ rfl rfl rfl rfl rfl rfl hS129 rfl rfl rfl (hS129.srcR (j:=0) rfl (by decide) (wAF (f:=KL.encI) (sz:=1) (fun _=>rfl) [x88])) (fun _=>rfl) (fun _=>rfl) h131 rfl ?_
    intro A133 c134 W135 hS136
    have hS137:sW w U U113 [B4,B2,B0,B1,.row A133 c134 3 1 (nA KL.encI x130)] W135:=hS136
    refine oM Z f105 (oM Z Z (oR Z (ZL Z Z Z) (oA Z Z (oA Z Z (zn (zj ?_))))))
    obtain rfl:=nB hm132
    exact zJ ⟨rfl,_,rfl,⟨U113,A119,c120,A133,c134,f101,f102,f103,rfl,rfl,(le99.trans le117),(hS137.pick [1,2,3,4] _ (by decide) rfl),h121⟩⟩
   ·intro c123 hm147
    refine cF Z c123 (kN (rR (.fl 0 (.fl 1 (.fx 2 (.fx 3 (wMr (.nil)) .stop) .stop))) Z (oM Z f104 (oM Z Z (ZE (pv:=[(0,jV x109)]) (zs:=[jV 0]) (cs:=[jV x109]) Z Z Z Z Z (wAe Z wBb) zA zD Tryz.zeroValue3 Z Z Z Z Z hS122 ?_)))))
    intro W148 b149 hS150
    let B5:Res:=.row (some ⟨b149,0,none⟩) 1 3 1 (nA KL.encI [x109])
    have hS152:sW w U U113 [B5,B2,B0,B1,B3] W148:=hS150
    refine bnK hm147 fun x153 h154 hm155=>ZG (j:=4) (enc:=KL.encI) (xs:=l84) (ys:=[x109]) (zs:=x153) rfl rfl rfl rfl rfl zq wFZ rfl rfl rfl rfl rfl rfl hS152 rfl rfl rfl (hS152.srcR (j:=0) rfl (by decide) (wAF (f:=KL.encI) (sz:=1) (fun _=>rfl) [x109])) (fun _=>rfl) (fun _=>rfl) h154 rfl ?_
    intro A156 c157 W158 hS159
    have hS160:sW w U U113 [B5,B2,B0,B1,.row A156 c157 3 1 (nA KL.encI x153)] W158:=hS159
    refine oM Z f105 (oM Z Z (oR Z (ZL Z Z Z) (oA Z Z (oA Z Z (zn (zj ?_))))))
    obtain rfl:=nB hm155
    exact zJ ⟨rfl,_,rfl,⟨U113,A119,c120,A156,c157,f101,f102,f103,rfl,rfl,(le99.trans le117),(hS160.pick [1,2,3,4] _ (by decide) rfl),h121⟩⟩
  ·have hm170:=hx94;rw [if_neg c107] at hm170;replace c107:=zE c107
   refine cF Z c107 (zu (zX ?_))
   have q:=wBE hm170
   obtain ⟨v171,hm172,e173⟩:=q
   obtain rfl:=hb95 v171 e173
   refine zX (zp (zJ (sR fL2 Z (oA Z Z (oA Z Z (eN (zC (sR (wMC (.fx 3 (.fl 4 (.fl 5 (.nil))) .stop)) Z (oM Z f103 (oM Z f102 (oR Z (zQ Z Z zV) ?_)))))))))))
   have q:=bnd hm172
   obtain ⟨⟨x174,x175⟩,h176,hm177⟩:=q
   try dsimp only at hm177
   refine zH 1 Z Z Z Z (zG Z Z Tryz.call29 (zB Z (zB Z zL)) Z) hS100 (fun hs=>wBV (⟨l79,x82,x83⟩:wAA) b44 A80 c81 (↑x16.length:Int) W92 U98 hs h106 h176) (.inl Z) ?_
   rintro U178 L179 v180 W181 le182 hS183 ⟨A184,c185,A186,c187,rfl,rfl,h189⟩
   let B6:Res:=.row A184 c185 3 1 (nA KL.encI x174)
   let B7:Res:=.row A85 c86 3 1 (nA KL.encI l84)
   have hS190:sW w U U178 [B6,.blk b44 136 [.slice A186 x175.bytes.length c187,jV x175.next,.int .u32 x175.state],B0,B1,B7] W181:=hS183
   refine oR Z (zQ Z Z zA) (oM Z Z (eN (zM ?_)))
   have q:=bnd hm177
   obtain ⟨⟨y248,y249,y250,y251,y252⟩,hf245,hm244⟩:=q
   try dsimp only at hm244
   have q:=wBr hf245
   obtain ⟨hle246,hf247⟩:=q
   replace hle246:=zE hle246
   refine CK.forN' (fun k243 (l230,x233,x234,l235,l239) σ_ w_=>∃ (U_:PHeap) (A231:Option Addr) (c232:Nat) (A236:Option Addr) (c237:Nat) (A240:Option Addr) (c241:Nat),σ_ 57=jV (↑k243:Int)/\σ_ 2=.int .u8 p2/\σ_ 7=.slice A26 x16.length c27/\σ_ 8=.pointer (some ⟨b44,0,none⟩)/\σ_ 9=.slice A85 l84.length c86/\σ_ 12=.slice A236 l235.length c237/\σ_ 13=.slice A240 l239.length c241/\σ_ 55=.slice A184 x174.length c185/\σ_ 56=jV (↑x174.length:Int)/\PHeap.Le U178 U_/\sW w U U_ [.blk b44 136 [.slice A231 l230.length c232,jV x233,.int .u32 x234],B0,B1,B7,.row A236 c237 3 1 (nA KL.encI l235),.row A240 c241 3 1 (nA KL.encI l239),B6] w_/\Sl U_ 1 A231 c232 l230.length (nA KL.encB8 l230)) hf247 ?_ ?_ ?_
   ·have hS253:=hS190.nilrow 3 1
    have hS255:=hS253.nilrow 3 1
    exact ⟨U178,A186,c187,none,0,none,0,rfl,f101,f102,f103,f104,rfl,rfl,rfl,rfl,(zf _),(hS255.pick [3,4,5,6,1,0,2] _ (by decide) rfl),h189⟩
   ·rintro k243 ⟨l230,x233,x234,l235,l239⟩ xx259 σ257 W258 hk262 ⟨U264,A231,c232,A236,c237,A240,c241,fi263,f267,f268,f269,f270,f271,f272,f273,f274,le265,hS266,h275⟩ hx260
    try dsimp only at hx260
    have c276:Hid ((↑k243:Int) < (↑x174.length:Int)):=zE (wBu hk262)
    replace hk262:=zE hk262
    have hi277:Hid (w64 ((↑k243:Int) + 1)=(↑(k243 + 1):Int)):=zE (by have h1:=hle246.out;have h2:=c276.out;rw [wAc] <;> omega)
    refine sR fL1 Z (oR Z (zO Z fi263 f274) (eN (zC (cT Z c276 (kN (zC (zM (sR fL3 Z (bnK hx260 fun _ h278 hm279=>?_)))))))))
    obtain ⟨b280,hA281⟩:=hS266.rowSome (j:=6) rfl (by rw [wAF (f:=KL.encI) (sz:=1) (fun _=>rfl) x174];have hz:=wAz h278;omega)
    refine oR Z (zx Z f273 hA281 fi263 zA zD (wAz h278)) ?_
    have hg282:=wBU (xs:=x174) (wAz h278)
    refine OKS.m rfl rfl rfl rfl (hS266.ldR (j:=6) rfl hA281 rfl rfl zN (wBM (sz:=1) (fun _=>rfl) _ _ 0 _ hg282 (by first | omega | rfl | simp) rfl)) rfl (OKS.ra rfl rfl rfl rfl rfl rfl (eN (sR (wJj (.fx 4 (.fl 5 (.fx 6 (.fx 7 (.fl 8 (.fx 9 (.fx 10 (.fl 11 (.fl 12 (.nil))) .stop) .stop)) .stop) .stop)) .stop)) rfl (zP rfl rfl rfl rfl rfl f271 (zP rfl rfl rfl rfl rfl rfl (zZ rfl rfl rfl rfl (fun _=>Runs.mulw rfl rfl rfl) (zP rfl rfl rfl rfl rfl f269 ?_)))))))
    have q:=bnd hm279
    obtain ⟨⟨x283,x284⟩,h285,hm286⟩:=q
    try dsimp only at hm286
    refine zH 1 Z Z Z Z (zG Z Z Tryz.call57 (zB Z (zB Z zL)) Z) hS266 (fun hs=>wAx (⟨l230,x233,x234⟩:wAA) b44 A231 c232 11 W258 U264 hs h275 h285) (.inl Z) ?_
    rintro U287 L288 v289 W290 le291 hS292 ⟨A293,c294,rfl,rfl,h295⟩
    let B8:Res:=.blk b44 136 [.slice A293 x284.bytes.length c294,jV x284.next,.int .u32 x284.state]
    let B9:Res:=.row A240 c241 3 1 (nA KL.encI l239)
    let B10:Res:=.row A236 c237 3 1 (nA KL.encI l235)
    have hS296:sW w U U287 [B8,B0,B1,B7,B10,B9,B6] W290:=hS292
    refine oR Z (zU Z Z Z) (ZE (pv:=[(0,jV (w64 ((w64 (11 * (gd x174 k243))) + x283)))]) (zs:=[jV 0]) (cs:=[jV (w64 ((w64 (11 * (gd x174 k243))) + x283))]) Z Z Z Z Z (wAe Z wBb) zA zD Tryz.zeroValue3 Z Z Z Z Z hS296 ?_)
    intro W297 b298 hS299
    let B11:Res:=.row (some ⟨b298,0,none⟩) 1 3 1 (nA KL.encI [w64 ((w64 (11 * (gd x174 k243))) + x283)])
    have hS301:sW w U U287 [B11,B8,B0,B1,B7,B10,B9,B6] W297:=hS299
    refine bnK hm286 fun x302 h303 hm304=>ZG (j:=5) (enc:=KL.encI) (xs:=l235) (ys:=[w64 ((w64 (11 * (gd x174 k243))) + x283)]) (zs:=x302) rfl rfl rfl rfl rfl zq wFZ rfl rfl rfl rfl rfl rfl hS301 rfl rfl rfl (hS301.srcR (j:=0) rfl (by decide) (wAF (f:=KL.encI) (sz:=1) (fun _=>rfl) [w64 ((w64 (11 * (gd x174 k243))) + x283)])) (fun _=>rfl) (fun _=>rfl) h303 rfl ?_
    intro A305 c306 W307 hS308
    let B12:Res:=.row A305 c306 3 1 (nA KL.encI x302)
    have hS309:sW w U U287 [B11,B8,B0,B1,B7,B12,B9,B6] W307:=hS308
    refine oM Z f272 (ZE (pv:=[(0,jV 0)]) (zs:=[jV 0]) (cs:=[jV 0]) Z Z Z Z Z (wAe Z wBb) zA zD Tryz.zeroValue3 Z Z Z Z Z hS309 ?_)
    intro W310 b311 hS312
    let B13:Res:=.row (some ⟨b311,0,none⟩) 1 3 1 (nA KL.encI [0])
    have hS314:sW w U U287 [B13,B11,B8,B0,B1,B7,B12,B9,B6] W310:=hS312
    refine bnK hm304 fun x315 h316 hm317=>ZG (j:=7) (enc:=KL.encI) (xs:=l239) (ys:=[0]) (zs:=x315) rfl rfl rfl rfl rfl zq wFZ rfl rfl rfl rfl rfl rfl hS314 rfl rfl rfl (hS314.srcR (j:=0) rfl (by decide) (wAF (f:=KL.encI) (sz:=1) (fun _=>rfl) [0])) (fun _=>rfl) (fun _=>rfl) h316 rfl ?_
    intro A318 c319 W320 hS321
    have hS322:sW w U U287 [B13,B11,B8,B0,B1,B7,B12,.row A318 c319 3 1 (nA KL.encI x315),B6] W320:=hS321
    refine oA Z Z (oA Z Z (eN (rR (wPl (.fx 14 (.nil) .stop)) Z (oM Z Z (oM Z Z (oR Z (zQ Z Z zA) (oR Z (ZL Z Z Z) (oM Z Z (oM Z Z (oR Z (zQ Z Z zA) (oR Z (ZL Z Z Z) (bnK hm317 fun _ h323 hm324=>?_))))))))))))
    obtain ⟨b325,hA326⟩:=hS322.rowSome (j:=6) rfl (by rw [wAF (f:=KL.encI) (sz:=1) (fun _=>rfl) x302];have hz:=wAz h323;omega)
    refine oR Z (zo Z Z hA326 Z zA zD (wDn h323) (wDo h323)) ?_
    have hg327:=wBU (xs:=x302) (wAz h323)
    refine OKS.m rfl rfl rfl rfl (hS322.ldR (j:=6) rfl hA326 rfl rfl zN (wBM (sz:=1) (fun _=>rfl) _ _ 0 _ hg327 (by first | omega | rfl | simp) rfl)) rfl (zP rfl rfl rfl rfl rfl f267 (zZ rfl rfl rfl rfl (fun _=>Runs.cvw rfl rfl Tryz.runUnderlying5 Tryz.runUnderlying3 rfl rfl) (zZ rfl rfl rfl rfl (fun _=>zU rfl rfl rfl) (bnK hm324 fun _ h328 hm329=>?_))))
    obtain ⟨b330,hA331⟩:=hS322.rowSome (j:=7) rfl (by rw [wAF (f:=KL.encI) (sz:=1) (fun _=>rfl) x315];have hz:=wAz h328;omega)
    refine oR Z (zo Z Z hA331 Z zA zD (wDn h328) (wDo h328)) ?_
    have hg332:=wBU (xs:=x315) (wAz h328)
    refine OKS.stR (j:=7) (vs:=[jV (w64 ((gd x302 (w64 ((↑x302.length:Int) - 1)).toNat) + (w64 p2)))]) (cs':=nA KL.encI (nI x315 (w64 ((↑x315.length:Int) - 1)).toNat (w64 ((gd x302 (w64 ((↑x302.length:Int) - 1)).toNat) + (w64 p2))))) rfl rfl rfl rfl hS322 rfl hA331 rfl rfl rfl zD (by rw [wAF (f:=KL.encI) (sz:=1) (fun _=>rfl)];have hz:=wAz h328;simp only [nH,nE,nG,nN,nO];first | omega | (simp only [nK];omega)) rfl (wEy (sz:=1) (fo:=0) (fun _=>rfl) _ _ _ _ hg332 (by first | omega | (simp only [nK];omega) | (simp only [nH,nE,nG];omega)) (zW rfl) rfl) rfl ?_
    intro W333 hS334
    have hS335:sW w U U287 [B13,B11,B8,B0,B1,B7,B12,.row A318 c319 3 1 (nA KL.encI (nI x315 (w64 ((↑x315.length:Int) - 1)).toNat (w64 ((gd x302 (w64 ((↑x302.length:Int) - 1)).toNat) + (w64 p2))))),B6] W333:=hS334
    refine zn (zj (zJ (rR fL2 Z (oR Z (zk (zU Z fi263 Z) (congrArg (jV) hi277.out)) (oM Z Z (zn ?_))))))
    cases hm329
    exact zJ ⟨rfl,⟨U287,A293,c294,A305,c306,A318,c319,rfl,f267,f268,f269,f270,rfl,(nP (b:=(.slice A318 x315.length c319:Value)) (c:=(.slice A318 ((nI x315 (w64 ((↑x315.length:Int) - 1)).toNat (w64 ((gd x302 (w64 ((↑x302.length:Int) - 1)).toNat) + (w64 p2)))).length) c319:Value)) rfl (by simp only [nL])),f273,f274,(le265.trans le291),(hS335.pick [2,3,4,5,6,7,8] _ (by decide) rfl),h295⟩⟩
   ·rintro σ347 W348 ⟨U368,A362,c363,A364,c365,A366,c367,fi350,f371,f372,f373,f374,f375,f376,f377,f378,le369,hS370,h379⟩
    have c380:Hid (¬ ((↑(((↑x174.length:Int):Int) - 0).toNat:Int) < (↑x174.length:Int))):=zE (wBL)
    refine sR fL1 Z (oR Z (zO Z fi350 f378) (eN (zC (cF Z c380 (zu (zX (zX (zp (zJ (sR (.fl 0 (.fl 1 (.fx 2 (wPo (.nil)) .stop))) Z (oM Z f372 (oM Z f374 ?_))))))))))))
    have q:=hS370.freezeR (k:=2) (n:=x16.length) rfl (wAF (f:=wAH) (sz:=3) (fun _=>rfl) x16) (by decide)
    obtain ⟨U381,le382,hs383,hS384⟩:=q
    let B14:Res:=.blk b44 136 [.slice A362 y248.length c363,jV y249,.int .u32 y250]
    let B15:Res:=.row A366 c367 3 1 (nA KL.encI y252)
    let B16:Res:=.row A364 c365 3 1 (nA KL.encI y251)
    have hS385:sW w U U381 [B14,B0,B7,B16,B15,B6] W348:=hS384
    have q:=hS385.freezeR (k:=2) (n:=l84.length) rfl (wAF (f:=KL.encI) (sz:=1) (fun _=>rfl) l84) (by decide)
    obtain ⟨U386,le387,hs388,hS389⟩:=q
    have hS390:sW w U U386 [B14,B0,B16,B15,B6] W348:=hS389
    have h391:=hs383.le le387
    have q:=bnd hm244
    obtain ⟨⟨x392,x393⟩,h394,hm395⟩:=q
    try dsimp only at hm395
    refine zH 0 Z Z Z Z (zG Z Z Tryz.call45 (zB Z (zB Z zL)) Z) hS390 (fun hs=>wDN x16 A26 c27 l84 A85 c86 W348 U386 hs h391 hs388 h394) (.inr Z) ?_
    rintro U396 L397 v398 W399 le400 hS401 ⟨A402,c403,h404,rfl,rfl⟩
    have hS407:sW w U U396 [.row A402 c403 31 1 (nA wEa h404),inn 3 1 KL.encI h404 x392,B14,B0,B16,B15,B6] W399:=hS401
    have q:=St.freezeN (R:=rl31) hS407 (fun _ _ _ _ h=>⟨_,_,rfl,h⟩) (fun _=>rfl) (by decide) rfl
    obtain ⟨U408,le409,hs410,hS411⟩:=q
    have hS412:sW w U U408 [B14,B0,B16,B15,B6] W399:=hS411
    refine oM Z Z (oR Z (Runs.ext Z Z (v:=.slice A402 x392.length c403) Z) (oR Z (Runs.ext Z Z (v:=jV x393) Z) (oA Z Z (oA Z Z (eN (sR (wMC (.fx 3 (wMr (.nil)) .stop)) Z (oM Z f372 (oM Z f374 (oM Z f375 ?_)))))))))
    have q:=hS412.freezeR (k:=2) (n:=y251.length) rfl (wAF (f:=KL.encI) (sz:=1) (fun _=>rfl) y251) (by decide)
    obtain ⟨U413,le414,hs415,hS416⟩:=q
    have hS417:sW w U U413 [B14,B0,B15,B6] W399:=hS416
    have h418:=h391.le le400
    have h419:=h418.le le409
    have h420:=h419.le le414
    have h421:=hs388.le le400
    have h422:=h421.le le409
    have h423:=h422.le le414
    have q:=bnd hm395
    obtain ⟨⟨x424,x425⟩,h426,hm427⟩:=q
    try dsimp only at hm427
    refine zH 0 Z Z Z Z (zG Z Z Tryz.call48 (zB Z (zB Z (zB Z zL))) Z) hS417 (fun hs=>wEY x16 A26 c27 l84 A85 c86 y251 A364 c365 W399 U413 hs h420 h423 hs415 h426) (.inr Z) ?_
    rintro U428 L429 v430 W431 le432 hS433 ⟨A434,c435,rfl,rfl⟩
    let B17:Res:=.row A434 c435 3 1 (nA KL.encI x424)
    have hS437:sW w U U428 [B17,B14,B0,B15,B6] W431:=hS433
    refine oM Z Z (oR Z (Runs.ext Z Z (v:=.slice A434 x424.length c435) Z) (oR Z (Runs.ext Z Z (v:=jV x425) Z) (oA Z Z (oA Z Z (eN (sR (wMC (.fx 3 (wMr (.nil)) .stop)) Z (oM Z f372 (oM Z f374 (oM Z f376 ?_)))))))))
    have q:=hS437.freezeR (k:=3) (n:=y252.length) rfl (wAF (f:=KL.encI) (sz:=1) (fun _=>rfl) y252) (by decide)
    obtain ⟨U438,le439,hs440,hS441⟩:=q
    have hS442:sW w U U438 [B17,B14,B0,B6] W431:=hS441
    have h443:=h420.le le432
    have h444:=h443.le le439
    have h445:=h423.le le432
    have h446:=h445.le le439
    have q:=bnd hm427
    obtain ⟨⟨x447,x448⟩,h449,hm450⟩:=q
    try dsimp only at hm450
    refine zH 0 Z Z Z Z (zG Z Z Tryz.call48 (zB Z (zB Z (zB Z zL))) Z) hS442 (fun hs=>wEY x16 A26 c27 l84 A85 c86 y252 A366 c367 W431 U438 hs h444 h446 hs440 h449) (.inr Z) ?_
    rintro U451 L452 v453 W454 le455 hS456 ⟨A457,c458,rfl,rfl⟩
    let B18:Res:=.row A457 c458 3 1 (nA KL.encI x447)
    have hS460:sW w U U451 [B18,B17,B14,B0,B6] W454:=hS456
    refine oM Z Z (oR Z (Runs.ext Z Z (v:=.slice A457 x447.length c458) Z) (oR Z (Runs.ext Z Z (v:=jV x448) Z) (oA Z Z (oA Z Z (eN (sR (.fl 0 (.fx 1 (fC2_6 (.nil)) .stop)) Z (oM Z f372 ?_)))))))
    have h461:=h444.le le455
    have q:=bnd hm450
    obtain ⟨⟨x462,x463⟩,h464,hm465⟩:=q
    try dsimp only at hm465
    refine zH 0 Z Z Z Z (zG Z Z Tryz.call43 (zB Z zL) Z) hS460 (fun hs=>wFs x16 A26 c27 W454 U451 hs h461 h464) (.inr Z) ?_
    rintro U466 L467 v468 W469 le470 hS471 ⟨A472,c473,rfl,rfl⟩
    let B19:Res:=.row A472 c473 3 1 (nA KL.encI x462)
    have hS475:sW w U U466 [B19,B18,B17,B14,B0,B6] W469:=hS471
    refine oM Z Z (oR Z (Runs.ext Z Z (v:=.slice A472 x462.length c473) Z) (oR Z (Runs.ext Z Z (v:=jV x463) Z) (oA Z Z (oA Z Z (eN (zC (sR (wPn (.fx 25 (wOb (.fx 32 (wOc (.fx 38 (wOd (.fx 43 (.fl 44 (.fx 45 (.fl 46 (.fl 47 (.nil))) .stop)) .stop)) .stop)) .stop)) .stop)) Z (oM Z Z (oR Z (ZF Z Z Z) (oM Z Z (ifc hm465 ?_ ?_)))))))))))
    ·intro c476 hm477
     refine zP Z Z Z (zh Z Z (zw (fun h=>h c476.out))) Z Z (zZ Z Z Z (zh Z Z (zw (fun h=>h c476.out))) (fun _=>ZF Z Z Z) (oR Z (zr Z (zw (fun h=>h c476.out)) Z) (oM Z Z (ifc hm477 ?_ ?_))))
     ·intro c478 hm479
      refine zP Z Z Z (zh Z Z (zw (fun h=>h c478.out))) Z Z (zZ Z Z Z (zh Z Z (zw (fun h=>h c478.out))) (fun _=>ZF Z Z Z) (oR Z (zr Z (zw (fun h=>h c478.out)) Z) (oM Z Z (ifc hm479 ?_ ?_))))
      ·intro c480 hm481
       refine zP Z Z Z (zh Z Z (zw (fun h=>h c480.out))) Z Z (zZ Z Z Z (zh Z Z (zw (fun h=>h c480.out))) (fun _=>ZF Z Z Z) (oR Z (zr Z (zw (fun h=>h c480.out)) Z) (oM Z Z (ifc hm481 ?_ ?_))))
       ·intro c482 hm483
        refine zP Z Z Z (zh Z Z (zw (fun h=>h c482.out))) Z Z (zZ Z Z Z (zh Z Z (zw (fun h=>h c482.out))) (fun _=>zQ Z Z zm) (zP Z Z Z (zh Z Z (zw (fun h=>h c482.out))) Z f374 (zZ Z Z Z (zh Z Z (zw (fun h=>h c482.out))) (fun _=>zQ Z Z zA) (zZ Z Z Z (zh Z Z (zw (fun h=>h c482.out))) (fun _=>ZF Z Z Z) (oR Z (zr Z (zw (fun h=>h c482.out)) Z) (oM Z Z (ifc hm483 ?_ ?_)))))))
        ·intro c484 hm485
         refine zP Z Z Z (zh Z Z (zw (fun h=>h c484.out))) Z Z (zP Z Z Z (zh Z Z (zw (fun h=>h c484.out))) Z f372 (zZ Z Z Z (zh Z Z (zw (fun h=>h c484.out))) (fun _=>zQ Z Z zV) ?_))
         have q:=hS475.freezeR (k:=2) (n:=x424.length) rfl (wAF (f:=KL.encI) (sz:=1) (fun _=>rfl) x424) (by decide)
         obtain ⟨U486,le487,hs488,hS489⟩:=q
         have hS490:sW w U U486 [B19,B18,B14,B0,B6] W469:=hS489
         refine bnK hm485 fun x491 h492 hm493=>zH 0 Z Z Z (zh Z Z (zw (fun h=>h c484.out))) (zG Z Z Tryz.call53 (zB Z (zB Z zL)) Z) hS490 (fun hs=>wBe x424 A434 c435 (↑x16.length:Int) W469 U486 hs hs488 h492) (.inr Z) ?_
         rintro U494 L495 v496 W497 le498 hS499 ⟨rfl,rfl⟩
         have hS500:sW w U U494 [B19,B18,B14,B0,B6] W497:=hS499
         refine zZ Z Z Z (zh Z Z (zw (fun h=>h c484.out))) (fun _=>ZD Z Z) (oR Z (zr Z (zw (fun h=>h c484.out)) Z) (oM Z Z (ifc hm493 ?_ ?_)))
         ·intro c501 hm502
          refine zP Z Z Z (zh Z Z (nC c501.out)) Z Z (zP Z Z Z (zh Z Z (nC c501.out)) Z f372 (zZ Z Z Z (zh Z Z (nC c501.out)) (fun _=>zQ Z Z zV) ?_))
          have q:=hS500.freezeR (k:=0) (n:=x462.length) rfl (wAF (f:=KL.encI) (sz:=1) (fun _=>rfl) x462) (by decide)
          obtain ⟨U503,le504,hs505,hS506⟩:=q
          have hS507:sW w U U503 [B18,B14,B0,B6] W497:=hS506
          refine bnK hm502 fun x508 h509 hm510=>zH 0 Z Z Z (zh Z Z (nC c501.out)) (zG Z Z Tryz.call53 (zB Z (zB Z zL)) Z) hS507 (fun hs=>wBe x462 A472 c473 (↑x16.length:Int) W497 U503 hs hs505 h509) (.inr Z) ?_
          rintro U511 L512 v513 W514 le515 hS516 ⟨rfl,rfl⟩
          have hS517:sW w U U511 [B18,B14,B0,B6] W514:=hS516
          refine zZ Z Z Z (zh Z Z (nC c501.out)) (fun _=>ZD Z Z) (oR Z (zr Z (nC c501.out) Z) (oM Z Z (ifc hm510 ?_ ?_)))
          ·intro c518 hm519
           refine zP Z Z Z (zh Z Z (nC c518.out)) Z Z (zP Z Z Z (zh Z Z (nC c518.out)) Z Z ?_)
           have q:=hS517.freezeR (k:=0) (n:=x447.length) rfl (wAF (f:=KL.encI) (sz:=1) (fun _=>rfl) x447) (by decide)
           obtain ⟨U520,le521,hs522,hS523⟩:=q
           have hS524:sW w U U520 [B14,B0,B6] W514:=hS523
           have h525:=hs488.le le498
           have h526:=h525.le le504
           have h527:=h526.le le515
           have h528:=h527.le le521
           refine bnK hm519 fun x529 h530 hm531=>zH 0 Z Z Z (zh Z Z (nC c518.out)) (zG Z Z Tryz.call15 (zB Z (zB Z zL)) Z) hS524 (fun hs=>wBg x424 A434 c435 x447 A457 c458 W514 U520 hs h528 hs522 h530) (.inr Z) ?_
           rintro U532 L533 v534 W535 le536 hS537 ⟨rfl,rfl⟩
           have hS538:sW w U U532 [B14,B0,B6] W535:=hS537
           refine zZ Z Z Z (zh Z Z (nC c518.out)) (fun _=>ZD Z Z) (oR Z (zr Z (nC c518.out) Z) (oM Z Z (ifc hm531 ?_ ?_)))
           ·intro c539 hm540
            refine zP Z Z Z (zh Z Z (nC c539.out)) Z Z ?_
            have h541:=hs410.le le414
            have h542:=h541.le le432
            have h543:=h542.le le439
            have h544:=h543.le le455
            have h545:=h544.le le470
            have h546:=h545.le le487
            have h547:=h546.le le498
            have h548:=h547.le le504
            have h549:=h548.le le515
            have h550:=h549.le le521
            have h551:=h550.le le536
            refine bnK hm540 fun x552 h553 hm554=>zH 0 Z Z Z (zh Z Z (nC c539.out)) (zG Z Z Tryz.call58 (zB Z zL) Z) hS538 (fun hs=>wCl x392 A402 c403 W535 U532 hs h551 h553) (.inr Z) ?_
            rintro U555 L556 v557 W558 le559 hS560 ⟨A561,c562,rfl,rfl⟩
            have hS564:sW w U U555 [.row A561 c562 3 1 (nA KL.encI x552),B14,B0,B6] W558:=hS560
            refine zP Z Z Z (zh Z Z (nC c539.out)) Z Z ?_
            have q:=hS564.freezeR (k:=0) (n:=x552.length) rfl (wAF (f:=KL.encI) (sz:=1) (fun _=>rfl) x552) (by decide)
            obtain ⟨U565,le566,hs567,hS568⟩:=q
            have hS569:sW w U U565 [B14,B0,B6] W558:=hS568
            have h570:=hs505.le le515
            have h571:=h570.le le521
            have h572:=h571.le le536
            have h573:=h572.le le559
            have h574:=h573.le le566
            refine bnK hm554 fun x575 h576 hm577=>zH 0 Z Z Z (zh Z Z (nC c539.out)) (zG Z Z Tryz.call15 (zB Z (zB Z zL)) Z) hS569 (fun hs=>wBg x552 A561 c562 x462 A472 c473 W558 U565 hs hs567 h574 h576) (.inr Z) ?_
            rintro U578 L579 v580 W581 le582 hS583 ⟨rfl,rfl⟩
            have hS584:sW w U U578 [B14,B0,B6] W581:=hS583
            refine zZ Z Z Z (zh Z Z (nC c539.out)) (fun _=>ZD Z Z) (oR Z (zr Z (nC c539.out) Z) (eN (ifc hm577 ?_ ?_)))
            ·intro c585 hm586
             refine zi (nC c585.out) (kN (zC (zC (ZM fun σ587 hσ588=>?_))))
             have f589:σ587 7=.slice A26 x16.length c27:=(hσ588 7).trans f372
             have f590:σ587 9=.slice A85 l84.length c86:=(hσ588 9).trans f374
             have f591:σ587 12=.slice A364 y251.length c365:=(hσ588 12).trans f375
             have f592:σ587 16=.slice A402 x392.length c403:=(hσ588 16).trans rfl
             have f593:σ587 18=.slice A434 x424.length c435:=(hσ588 18).trans rfl
             have f594:σ587 22=.slice A472 x462.length c473:=(hσ588 22).trans rfl
             clear hσ588
             refine rR fL1 Z (oA Z Z (eN (zM ?_)))
             have q:=wCv hm586
             obtain ⟨r597,hX598⟩:=q
             have q:=wCu hX598
             obtain ⟨hle599,hf600⟩:=q
             replace hle599:=zE hle599
             refine CK.forN (fun k596 _ σ_ w_=>∃ (U_:PHeap),σ_ 24=jV (1 + ↑k596:Int)/\σ_ 7=.slice A26 x16.length c27/\σ_ 9=.slice A85 l84.length c86/\σ_ 12=.slice A364 y251.length c365/\σ_ 16=.slice A402 x392.length c403/\σ_ 18=.slice A434 x424.length c435/\σ_ 22=.slice A472 x462.length c473/\PHeap.Le U578 U_/\sW w U U_ [B14,B0] w_) hf600 ?_ ?_ ?_
             ·exact ⟨U578,rfl,f589,f590,f591,f592,f593,f594,(zf _),(hS584.pick [0,1] _ (by decide) rfl)⟩
             ·rintro k596 ⟨⟩ xx603 σ601 W602 hk606 ⟨U608,fi607,f611,f612,f613,f614,f615,f616,le609,hS610⟩ hx604 hb605
              try dsimp only at hx604
              have c617:Hid ((1 + ↑k596:Int) < (↑x462.length:Int)):=zE (lp_lt hk606)
              replace hk606:=zE hk606
              have hi618:Hid (w64 ((1 + ↑k596:Int) + 1)=(1 + ↑(k596 + 1):Int)):=zE (by have h1:=hle599.out;have h2:=c617.out;rw [wAc] <;> omega)
              refine zC (sR fL4 rfl (zP rfl rfl rfl rfl rfl fi607 (zP rfl rfl rfl rfl rfl f616 (zZ rfl rfl rfl rfl (fun _=>zQ rfl rfl zA) (zZ rfl rfl rfl rfl (fun _=>zO rfl rfl rfl) (eN (cT Z c617 (kN (zC (zM (zC (CK.anyOrd ZN [3,3,3,3,1,3,3,1,3,3,3,3,3,1,3,3,1,3] fL18 (by kernel_rfl) ?_))))))))))))
              have hS619:=hS610.drew
              generalize hw_W620:({ W602 with drawn:=W602.drawn + 1 }:World)=W620 at hS619 ⊢
              refine oM Z f611 (oM Z f616 (oM Z fi607 (bnK hx604 fun x621 h622 hm623=>?_)))
              have h624:=h574.le le582
              have h625:=h624.le le609
              have q:=h625.el (fun _=>rfl) (wAg h622)
              obtain ⟨b626,off627,hA628,hC629⟩:=q
              refine oR Z (zo Z Z hA628 Z zA zD (wCA h622) (wCH h622)) (oL Z (hS619.ldC (f:=0) hC629 (v:=jV x621) Z Z zN Z) (bnK hm623 fun x630 h631 hm632=>?_))
              have h633:=h461.le le470
              have h634:=h633.le le487
              have h635:=h634.le le498
              have h636:=h635.le le504
              have h637:=h636.le le515
              have h638:=h637.le le521
              have h639:=h638.le le536
              have h640:=h639.le le559
              have h641:=h640.le le566
              have h642:=h641.le le582
              have h643:=h642.le le609
              have q:=h643.el (fun _=>rfl) (wAg h631)
              obtain ⟨b644,off645,hA646,hC647⟩:=q
              refine oR Z (zo Z Z hA646 Z zV ZC (wCA h631) (wCH h631)) (oR Z (zt Z Z zz Z zD) (oL Z (hS619.ldC (f:=2) hC647 (v:=jV x630.Rank) Z Z zN Z) (oM Z f611 (oM Z f616 (oM Z fi607 (oR Z (ZL Z Z Z) (bnK hm632 fun x648 h649 hm650=>?_)))))))
              have q:=h625.el (fun _=>rfl) (wAg h649)
              obtain ⟨b651,off652,hA653,hC654⟩:=q
              refine oR Z (zo Z Z hA653 Z zA zD (wCA h649) (wCH h649)) (oL Z (hS619.ldC (f:=0) hC654 (v:=jV x648) Z Z zN Z) (bnK hm650 fun x655 h656 hm657=>?_))
              have q:=h643.el (fun _=>rfl) (wAg h656)
              obtain ⟨b658,off659,hA660,hC661⟩:=q
              refine oR Z (zo Z Z hA660 Z zV ZC (wCA h656) (wCH h656)) (oR Z (zt Z Z zz Z zD) (oL Z (hS619.ldC (f:=2) hC661 (v:=jV x655.Rank) Z Z zN Z) (oR Z (Runs.leq Z Z Z) (eN (ifc hm657 ?_ ?_)))))
              ·intro c662 hm663
               refine cT Z c662 (sR fL1 Z (oA Z Z (eN (zI (zR (zF ?_))))))
               have q:=wBE hm663
               obtain ⟨v664,hm665,e666⟩:=q
               obtain rfl:=wCT hm586 hX598 (hb605 v664 e666)
               refine zF (zR (zF ?_))
               have hE:=nB hm665;first | subst r | cases hE
               exact ⟨rfl,_,(ze rfl),U608,_,(hS619.pick [] _ (by decide) rfl),rfl,rfl⟩
              ·intro c662 hm667
               refine cF Z c662 (CK.skip (zj (zJ (rR fL3 Z (oM Z fi607 (oR Z (zk (zU Z Z Z) (congrArg (jV) hi618.out)) (oA Z Z (zn ?_))))))))
               obtain rfl:=nB hm667
               exact zJ ⟨Z,_,Z,⟨U608,Z,f611,f612,f613,f614,f615,f616,le609,hS619⟩⟩
             ·rintro ⟨⟩ σ668 W669 ⟨U672,fi671,f675,f676,f677,f678,f679,f680,le673,hS674⟩ hb670
              have hm681:=wEP hm586 hX598 hb670
              try dsimp only at hm681
              have c682:Hid (¬ ((1 + ↑(((↑x462.length:Int):Int) - 1).toNat:Int) < (↑x462.length:Int))):=zE (wOp)
              refine zC (sR fL4 Z (oM Z fi671 (oM Z f680 (oR Z (zQ Z Z zA) (oR Z (zO Z Z Z) (eN (cF Z c682 (zu (zX (zX (zp (zJ (sR fL1 Z (oA Z Z (eN (zC (sR fL3 Z (oM Z f678 (oR Z (zQ Z Z zm) (oM Z Z (eN (zM ?_))))))))))))))))))))))
              have q:=wCv hm681
              obtain ⟨r690,hX691⟩:=q
              have q:=wCu hX691
              obtain ⟨hle692,hf693⟩:=q
              replace hle692:=zE hle692
              refine CK.forN (fun k689 x688 σ_ w_=>∃ (U_:PHeap),σ_ 186=jV (↑k689:Int)/\σ_ 9=.slice A85 l84.length c86/\σ_ 12=.slice A364 y251.length c365/\σ_ 18=.slice A434 x424.length c435/\σ_ 25=jV x688/\σ_ 184=.slice A402 x392.length c403/\σ_ 185=jV (↑x392.length:Int)/\PHeap.Le U672 U_/\sW w U U_ [B14,B0] w_) hf693 ?_ ?_ ?_
              ·exact ⟨U672,Z,f676,f677,f679,Z,Z,Z,(zf _),hS674⟩
              ·rintro k689 x688 xx696 σ694 W695 hk699 ⟨U701,fi700,f704,f705,f706,f707,f708,f709,le702,hS703⟩ hx697 hb698
               have c710:Hid ((↑k689:Int) < (↑x392.length:Int)):=zE (wBu hk699)
               replace hk699:=zE hk699
               have hi711:Hid (w64 ((↑k689:Int) + 1)=(↑(k689 + 1):Int)):=zE (by have h1:=hle692.out;have h2:=c710.out;rw [wAc] <;> omega)
               refine sR fL1 Z (oR Z (zO Z fi700 f709) (eN (zC (cT Z c710 (kN (zC (zM (sR fL5 Z (oM Z fi700 (bnK hx697 fun x712 h713 hm714=>?_))))))))))
               have h715:=h551.le le559
               have h716:=h715.le le566
               have h717:=h716.le le582
               have h718:=h717.le le673
               have h719:=h718.le le702
               have q:=h719.el (wAg h713)
               obtain ⟨b720,off721,vs724,hA722,hC723,hr725⟩:=q
               obtain ⟨pA726,pc727,rfl,h728⟩:=hr725
               replace hC723:Cl U701 b720 (off721 + k689 * 1) [.slice pA726 x712.length pc727]:=hC723
               refine oR Z (zx Z f708 hA722 fi700 zm Tryz.sizeOf31 (wCG h713)) (oL Z (hS703.ldC (f:=0) hC723 (v:=.slice pA726 x712.length pc727) Z Z ZI Z) (oA Z Z (oA Z Z (eN (zC (sR fL7 Z (oM Z Z (oR Z (zQ Z Z zA) (oM Z f704 (oM Z Z (bnK hm714 fun x729 h730 hm731=>?_)))))))))))
               have h732:=h446.le le455
               have h733:=h732.le le470
               have h734:=h733.le le487
               have h735:=h734.le le498
               have h736:=h735.le le504
               have h737:=h736.le le515
               have h738:=h737.le le521
               have h739:=h738.le le536
               have h740:=h739.le le559
               have h741:=h740.le le566
               have h742:=h741.le le582
               have h743:=h742.le le673
               have h744:=h743.le le702
               have q:=h744.el (fun _=>rfl) (wAg h730)
               obtain ⟨b745,off746,hA747,hC748⟩:=q
               refine oR Z (zx Z Z hA747 Z zA zD (wCG h730)) (oL Z (hS703.ldC (f:=0) hC748 (v:=jV x729) Z Z zN Z) (oR Z (ZF Z Z Z) (eN (ifc hm731 ?_ ?_))))
               ·intro c749 hm750
                refine zi (zw (fun h=>h c749.out)) (kN (sR fL3 Z (oM Z Z (oR Z (zQ Z Z zA) (oM Z Z (eN (zM ?_)))))))
                have q:=wCv hm750
                obtain ⟨r758,hX759⟩:=q
                have q:=wCu hX759
                obtain ⟨hle760,hf761⟩:=q
                replace hle760:=zE hle760
                refine CK.forN (fun k757 x756 σ_ w_=>∃ (U_:PHeap),σ_ 200=jV (↑k757:Int)/\σ_ 9=.slice A85 l84.length c86/\σ_ 12=.slice A364 y251.length c365/\σ_ 18=.slice A434 x424.length c435/\σ_ 25=jV x756/\σ_ 27=.slice pA726 x712.length pc727/\σ_ 184=.slice A402 x392.length c403/\σ_ 185=jV (↑x392.length:Int)/\σ_ 186=jV (↑k689:Int)/\σ_ 199=jV (↑x712.length:Int)/\PHeap.Le U701 U_/\sW w U U_ [B14,B0] w_) hf761 ?_ ?_ ?_
                ·exact ⟨U701,Z,f704,f705,f706,f707,Z,f708,f709,fi700,Z,(zf _),hS703⟩
                ·rintro k757 x756 xx764 σ762 W763 hk767 ⟨U769,fi768,f772,f773,f774,f775,f776,f777,f778,f779,f780,le770,hS771⟩ hx765 hb766
                 have c781:Hid ((↑k757:Int) < (↑x712.length:Int)):=zE (wBu hk767)
                 replace hk767:=zE hk767
                 have hi782:Hid (w64 ((↑k757:Int) + 1)=(↑(k757 + 1):Int)):=zE (by have h1:=hle760.out;have h2:=c781.out;rw [wAc] <;> omega)
                 refine sR fL1 rfl (zZ rfl rfl rfl rfl (fun _=>zO rfl fi768 f780) (eN (zC (cT Z c781 (kN (zC (zM (sR fL2 rfl (zP rfl rfl rfl rfl rfl fi768 (OKS.ra rfl rfl rfl rfl rfl rfl (eN (zC (zC (CK.anyOrd ZN [3,3,3,3,1,2,3,3,3,3,3,3,3,3,3,1,3,1,3,3,3,3,3,1,3,1,3,3,3] (wOa (.fx 5 (wPp (.nil)) .stop)) (by kernel_rfl) ?_))))))))))))))
                 have hS783:=hS771.drew
                 generalize hw_W784:({ W763 with drawn:=W763.drawn + 1 }:World)=W784 at hS783 ⊢
                 refine oM Z f776 (oM Z f774 (oM Z f775 (bnK hx765 fun x785 h786 hm787=>?_)))
                 have h788:=h528.le le536
                 have h789:=h788.le le559
                 have h790:=h789.le le566
                 have h791:=h790.le le582
                 have h792:=h791.le le673
                 have h793:=h792.le le702
                 have h794:=h793.le le770
                 have q:=h794.el (fun _=>rfl) (wAg h786)
                 obtain ⟨b795,off796,hA797,hC798⟩:=q
                 refine oR Z (zo Z Z hA797 Z zA zD (wCA h786) (wCH h786)) (oL Z (hS783.ldC (f:=0) hC798 (v:=jV x785) Z Z zN Z) ?_)
                 have h799:=h728.le le770
                 refine bnK hm787 fun x800 h801 hm802=>zH 0 Z Z Z Z (zG Z Z Tryz.call59 (zB Z (zB Z zL)) Z) hS783 (fun hs=>wCP x712 pA726 pc727 x785 W784 U769 hs h799 h801) (.inr Z) ?_
                 rintro U803 L804 v805 W806 le807 hS808 ⟨rfl,rfl⟩
                 have hS809:sW w U U803 [B14,B0] W806:=hS808
                 refine oR Z (ZD Z Z) (oM Z Z (ifc hm802 ?_ ?_))
                 ·intro c810 hm811
                  refine zP Z Z Z (zh Z Z (nC c810.out)) Z Z (zZ Z Z Z (zh Z Z (nC c810.out)) (fun _=>Runs.gtr Z Z Z) (zP Z Z Z (zh Z Z (nC c810.out)) Z Z (ifc hm811 ?_ ?_)))
                  ·intro c812 hm813
                   refine zP Z Z Z (wT Z c812) Z f773 (zP Z Z Z (wT Z c812) Z f774 (zP Z Z Z (wT Z c812) Z f775 ?_))
                   have h814:=h794.le le807
                   have q:=h814.el (fun _=>rfl) (wAg h786)
                   obtain ⟨b815,off816,hA817,hC818⟩:=q
                   refine rU Z (wT Z c812) (zo Z Z hA817 Z zA zD (wCA h786) (wCH h786)) (OKS.m Z Z Z (wT Z c812) (hS809.ldC (f:=0) hC818 (v:=jV x785) Z Z zN Z) Z (bnK hm813 fun x819 h820 hm821=>?_))
                   have h822:=hs415.le le432
                   have h823:=h822.le le439
                   have h824:=h823.le le455
                   have h825:=h824.le le470
                   have h826:=h825.le le487
                   have h827:=h826.le le498
                   have h828:=h827.le le504
                   have h829:=h828.le le515
                   have h830:=h829.le le521
                   have h831:=h830.le le536
                   have h832:=h831.le le559
                   have h833:=h832.le le566
                   have h834:=h833.le le582
                   have h835:=h834.le le673
                   have h836:=h835.le le702
                   have h837:=h836.le le770
                   have h838:=h837.le le807
                   have q:=h838.el (fun _=>rfl) (wAg h820)
                   obtain ⟨b839,off840,hA841,hC842⟩:=q
                   refine rU Z (wT Z c812) (zo Z Z hA841 Z zA zD (wCA h820) (wCH h820)) (OKS.m Z Z Z (wT Z c812) (hS809.ldC (f:=0) hC842 (v:=jV x819) Z Z zN Z) Z (zP Z Z Z (wT Z c812) Z f773 (zP Z Z Z (wT Z c812) Z f774 (zP Z Z Z (wT Z c812) Z f775 (rU Z (wT Z c812) (ZL Z Z Z) (bnK hm821 fun x843 h844 hm845=>?_))))))
                   have q:=h814.el (fun _=>rfl) (wAg h844)
                   obtain ⟨b846,off847,hA848,hC849⟩:=q
                   refine rU Z (wT Z c812) (zo Z Z hA848 Z zA zD (wCA h844) (wCH h844)) (OKS.m Z Z Z (wT Z c812) (hS809.ldC (f:=0) hC849 (v:=jV x843) Z Z zN Z) Z (bnK hm845 fun x850 h851 hm852=>?_))
                   have q:=h838.el (fun _=>rfl) (wAg h851)
                   obtain ⟨b853,off854,hA855,hC856⟩:=q
                   refine rU Z (wT Z c812) (zo Z Z hA855 Z zA zD (wCA h851) (wCH h851)) (OKS.m Z Z Z (wT Z c812) (hS809.ldC (f:=0) hC856 (v:=jV x850) Z Z zN Z) Z (rU Z (wT Z c812) (Runs.leq Z Z Z) (zZ Z Z Z (zh Z Z (nC c810.out)) (fun _=>zK Z (wFv c812.out) Z) (oR Z (zr Z (nC c810.out) Z) (eN (ifc hm852 ?_ ?_))))))
                   ·intro c857 hm858
                    refine cT Z c857 (sR fL1 Z (oA Z Z (eN (zI (zF (zR (zF ?_)))))))
                    have q:=wBE hm858
                    obtain ⟨v859,hm860,e861⟩:=q
                    obtain rfl:=wCT hm750 hX759 (hb766 v859 e861)
                    refine zF (zR (zR (zF ?_)))
                    have q:=wBE hm860
                    obtain ⟨v862,hm863,e864⟩:=q
                    obtain rfl:=wCT hm681 hX691 (hb698 v862 e864)
                    refine zF (zR (zF ?_))
                    have hE:=nB hm863;first | subst r | cases hE
                    exact ⟨rfl,_,(ze rfl),U803,_,(hS809.pick [] _ (by decide) rfl),rfl,rfl⟩
                   ·intro c857 hm865
                    refine cF Z c857 (kN (rR fL3 Z (oM Z f775 (oR Z (zU Z Z Z) (oA Z Z (zn (zj (zJ (rR fL2 Z (oR Z (zk (zU Z fi768 Z) (congrArg (jV) hi782.out)) (oM Z Z (zn ?_))))))))))))
                    obtain rfl:=nB hm865
                    exact zJ ⟨Z,_,Z,⟨U803,Z,f772,f773,f774,Z,f776,f777,f778,f779,f780,(le770.trans le807),hS809⟩⟩
                  ·intro c812 hm867
                   refine oF Z c812 (oF Z c812 (oF Z c812 (oF Z c812 (oF Z c812 (oF Z c812 (oF Z c812 (oF Z c812 (oF Z c812 (oF Z c812 (oF Z c812 (oF Z c812 (oF Z c812 (oF Z c812 (oF Z c812 (oF Z c812 (zZ Z Z Z (zh Z Z (nC c810.out)) (fun _=>zr Z (zw c812.out) Z) (oR Z (zr Z (nC c810.out) Z) (eN (zi Z (kN (rR fL3 Z (oM Z f775 (oR Z (zU Z Z Z) (oA Z Z (zn (zj (zJ (rR fL2 Z (oR Z (zk (zU Z fi768 Z) (congrArg (jV) hi782.out)) (oM Z Z (zn ?_)))))))))))))))))))))))))))))))
                   obtain rfl:=nB hm867
                   exact zJ ⟨Z,_,Z,⟨U803,Z,f772,f773,f774,Z,f776,f777,f778,f779,f780,(le770.trans le807),hS809⟩⟩
                 ·intro c810 hm869
                  refine zy Z Z Z (zS Z Z (nF (c810.out)) Z) (zy Z Z Z (zS Z Z (nF (c810.out)) Z) (zy Z Z Z (zS Z Z (nF (c810.out)) Z) (zy Z Z Z (wBS Z Z Z) (zy Z Z Z (wBS Z Z Z) (zy Z Z Z (wBS Z Z Z) (zy Z Z Z (wBS Z Z Z) (zy Z Z Z (wBS Z Z Z) (zy Z Z Z (wBS Z Z Z) (zy Z Z Z (wBS Z Z Z) (zy Z Z Z (wBS Z Z Z) (zy Z Z Z (wBS Z Z Z) (zy Z Z Z (wBS Z Z Z) (zy Z Z Z (wBS Z Z Z) (zy Z Z Z (wBS Z Z Z) (zy Z Z Z (wBS Z Z Z) (zy Z Z Z (wBS Z Z Z) (zy Z Z Z (wBS Z Z Z) (zy Z Z Z (wBS Z Z Z) (zy Z Z Z (zS Z Z (nF (c810.out)) Z) (oR Z (zK Z (nF (c810.out)) Z) (eN (zd Z (sR fL1 Z (oA Z Z (eN (zI (zF (zR (zF ?_)))))))))))))))))))))))))))))
                  have q:=wBE hm869
                  obtain ⟨v870,hm871,e872⟩:=q
                  obtain rfl:=wCT hm750 hX759 (hb766 v870 e872)
                  refine zF (zR (zR (zF ?_)))
                  have q:=wBE hm871
                  obtain ⟨v873,hm874,e875⟩:=q
                  obtain rfl:=wCT hm681 hX691 (hb698 v873 e875)
                  refine zF (zR (zF ?_))
                  have hE:=nB hm874;first | subst r | cases hE
                  exact ⟨rfl,_,(ze rfl),U803,_,(hS809.pick [] _ (by decide) rfl),rfl,rfl⟩
                ·rintro y880 σ876 W877 ⟨U881,fi879,f884,f885,f886,f887,f888,f889,f890,f891,f892,le882,hS883⟩ hb878
                 have hm893:=wEP hm750 hX759 hb878
                 have c894:Hid (¬ ((↑(((↑x712.length:Int):Int) - 0).toNat:Int) < (↑x712.length:Int))):=zE (wBL)
                 refine sR fL1 Z (oR Z (zO Z fi879 f892) (eN (zC (cF Z c894 (zu (zX (zX (zp (zj (zJ (rR fL2 Z (oR Z (zk (zU Z f891 Z) (congrArg (jV) hi711.out)) (oM Z Z (zn ?_))))))))))))))
                 obtain rfl:=nB hm893
                 exact zJ ⟨Z,_,Z,⟨U881,Z,f884,f885,f886,f887,f889,f890,(le702.trans le882),hS883⟩⟩
               ·intro c749 hm896
                refine cT Z c749 (sR fL1 Z (oA Z Z (eN (zI (zF (zR (zF ?_)))))))
                have q:=wBE hm896
                obtain ⟨v897,hm898,e899⟩:=q
                obtain rfl:=wCT hm681 hX691 (hb698 v897 e899)
                refine zF (zR (zF ?_))
                have hE:=nB hm898;first | subst r | cases hE
                exact ⟨rfl,_,(ze rfl),U701,_,(hS703.pick [] _ (by decide) rfl),rfl,rfl⟩
              ·rintro y904 σ900 W901 ⟨U905,fi903,f908,f909,f910,f911,f912,f913,le906,hS907⟩ hb902
               have hm914:=wEP hm681 hX691 hb902
               have c915:Hid (¬ ((↑(((↑x392.length:Int):Int) - 0).toNat:Int) < (↑x392.length:Int))):=zE (wBL)
               refine sR fL1 Z (oR Z (zO Z fi903 f913) (eN (zC (cF Z c915 (zu (zX (zX (zp (zJ (sR (.fx 0 (.fl 1 (.nil)) .stop) Z (bnK hm914 fun x916 h917 hm918=>zH 0 Z Z Z Z (zG Z Z Tryz.call11 zL Z) hS907 (fun hs=>wDK W901 U905 hs h917) (.inr Z) ?_)))))))))))
               rintro U919 L920 v921 W922 le923 hS924 ⟨rfl,rfl⟩
               have hS925:sW w U U919 [B14,B0] W922:=hS924
               refine oA Z Z (eN (zI ?_))
               have hE:=nB hm918;first | subst r | cases hE
               exact ⟨rfl,_,(ze rfl),U919,_,(hS925.pick [] _ (by decide) rfl),rfl,rfl⟩
            ·intro c585 hm926
             refine zd (nF (c585.out)) (zC (ZM fun σ927 hσ928=>?_))
             clear hσ928
             refine rR fL1 Z (oA Z Z (eN (zI (zF ?_))))
             have hE:=nB hm926;first | subst r | cases hE
             exact ⟨rfl,_,(ze rfl),U578,_,(hS584.pick [] _ (by decide) rfl),rfl,rfl⟩
           ·intro c539 hm929
            refine zy Z Z Z (zS Z Z (nF (c539.out)) Z) (zl Z Z Z (zS Z Z (nF (c539.out)) Z) (zy Z Z Z (zS Z Z (nF (c539.out)) Z) (zl Z Z Z (zS Z Z (nF (c539.out)) Z) (zy Z Z Z (zS Z Z (nF (c539.out)) Z) (oR Z (zK Z (nF (c539.out)) Z) (eN (zd Z (zC (ZM fun σ930 hσ931=>?_)))))))))
            clear hσ931
            refine rR fL1 Z (oA Z Z (eN (zI (zF ?_))))
            have hE:=nB hm929;first | subst r | cases hE
            exact ⟨rfl,_,(ze rfl),U532,_,(hS538.pick [] _ (by decide) rfl),rfl,rfl⟩
          ·intro c518 hm932
           refine zy Z Z Z (zS Z Z (nF (c518.out)) Z) (zy Z Z Z (zS Z Z (nF (c518.out)) Z) (zl Z Z Z (zS Z Z (nF (c518.out)) Z) (zy Z Z Z (zS Z Z (nF (c518.out)) Z) (oR Z (zK Z (nF (c518.out)) Z) (oM Z Z (oN Z (zl Z Z Z (zS Z Z Z Z) (oN Z (zl Z Z Z (zS Z Z Z Z) (oN Z (oR Z (zK Z Z Z) (eN (zd Z (zC (ZM fun σ933 hσ934=>?_)))))))))))))))
           clear hσ934
           refine rR fL1 Z (oA Z Z (eN (zI (zF ?_))))
           have hE:=nB hm932;first | subst r | cases hE
           exact ⟨rfl,_,(ze rfl),U511,_,(hS517.pick [] _ (by decide) rfl),rfl,rfl⟩
         ·intro c501 hm935
          refine zy Z Z Z (zS Z Z (nF (c501.out)) Z) (zy Z Z Z (zS Z Z (nF (c501.out)) Z) (zy Z Z Z (zS Z Z (nF (c501.out)) Z) (zl Z Z Z (zS Z Z (nF (c501.out)) Z) (zy Z Z Z (zS Z Z (nF (c501.out)) Z) (oR Z (zK Z (nF (c501.out)) Z) (oM Z Z (oN Z (oN Z (zl Z Z Z (zS Z Z Z Z) (oN Z (oR Z (zK Z Z Z) (oM Z Z (oN Z (zl Z Z Z (zS Z Z Z Z) (oN Z (zl Z Z Z (zS Z Z Z Z) (oN Z (oR Z (zK Z Z Z) (eN (zd Z (zC (ZM fun σ936 hσ937=>?_))))))))))))))))))))))
          clear hσ937
          refine rR fL1 Z (oA Z Z (eN (zI (zF ?_))))
          have hE:=nB hm935;first | subst r | cases hE
          exact ⟨rfl,_,(ze rfl),U494,_,(hS500.pick [] _ (by decide) rfl),rfl,rfl⟩
        ·intro c484 hm938
         refine oT Z c484 (oT Z c484 (oT Z c484 (zl Z Z Z (zS Z Z (wFv c484.out) Z) (oT Z c484 (oR Z (zK Z (wFv c484.out) Z) (oM Z Z (oN Z (oN Z (oN Z (zl Z Z Z (zS Z Z Z Z) (oN Z (oR Z (zK Z Z Z) (oM Z Z (oN Z (oN Z (zl Z Z Z (zS Z Z Z Z) (oN Z (oR Z (zK Z Z Z) (oM Z Z (oN Z (zl Z Z Z (zS Z Z Z Z) (oN Z (zl Z Z Z (zS Z Z Z Z) (oN Z (oR Z (zK Z Z Z) (eN (zd Z (zC (ZM fun σ939 hσ940=>?_)))))))))))))))))))))))))))))
         clear hσ940
         refine rR fL1 Z (oA Z Z (eN (zI (zF ?_))))
         have hE:=nB hm938;first | subst r | cases hE
         exact ⟨rfl,_,(ze rfl),U466,_,(hS475.pick [] _ (by decide) rfl),rfl,rfl⟩
       ·intro c482 hm941
        refine oT Z c482 (oT Z c482 (oT Z c482 (oT Z c482 (oT Z c482 (oR Z (zK Z (wFv c482.out) Z) (oM Z Z (oN Z (oN Z (oN Z (zl Z Z Z (zS Z Z Z Z) (oN Z (oR Z (zK Z Z Z) (oM Z Z (oN Z (oN Z (oN Z (zl Z Z Z (zS Z Z Z Z) (oN Z (oR Z (zK Z Z Z) (oM Z Z (oN Z (oN Z (zl Z Z Z (zS Z Z Z Z) (oN Z (oR Z (zK Z Z Z) (oM Z Z (oN Z (zl Z Z Z (zS Z Z Z Z) (oN Z (zl Z Z Z (zS Z Z Z Z) (oN Z (oR Z (zK Z Z Z) (eN (zd Z (zC (ZM fun σ942 hσ943=>?_))))))))))))))))))))))))))))))))))))
        clear hσ943
        refine rR fL1 Z (oA Z Z (eN (zI (zF ?_))))
        have hE:=nB hm941;first | subst r | cases hE
        exact ⟨rfl,_,(ze rfl),U466,_,(hS475.pick [] _ (by decide) rfl),rfl,rfl⟩
      ·intro c480 hm944
       refine oT Z c480 (oT Z c480 (oR Z (zK Z (wFv c480.out) Z) (oM Z Z (oN Z (oN Z (oN Z (oN Z (oN Z (oR Z (zK Z Z Z) (oM Z Z (oN Z (oN Z (oN Z (zl Z Z Z (zS Z Z Z Z) (oN Z (oR Z (zK Z Z Z) (oM Z Z (oN Z (oN Z (oN Z (zl Z Z Z (zS Z Z Z Z) (oN Z (oR Z (zK Z Z Z) (oM Z Z (oN Z (oN Z (zl Z Z Z (zS Z Z Z Z) (oN Z (oR Z (zK Z Z Z) (oM Z Z (oN Z (zl Z Z Z (zS Z Z Z Z) (oN Z (zl Z Z Z (zS Z Z Z Z) (oN Z (oR Z (zK Z Z Z) (eN (zd Z (zC (ZM fun σ945 hσ946=>?_))))))))))))))))))))))))))))))))))))))))
       clear hσ946
       refine rR fL1 Z (oA Z Z (eN (zI (zF ?_))))
       have hE:=nB hm944;first | subst r | cases hE
       exact ⟨rfl,_,(ze rfl),U466,_,(hS475.pick [] _ (by decide) rfl),rfl,rfl⟩
     ·intro c478 hm947
      refine oT Z c478 (oT Z c478 (oR Z (zK Z (wFv c478.out) Z) (oM Z Z (oN Z (oN Z (oR Z (zK Z Z Z) (oM Z Z (oN Z (oN Z (oN Z (oN Z (oN Z (oR Z (zK Z Z Z) (oM Z Z (oN Z (oN Z (oN Z (zl Z Z Z (zS Z Z Z Z) (oN Z (oR Z (zK Z Z Z) (oM Z Z (oN Z (oN Z (oN Z (zl Z Z Z (zS Z Z Z Z) (oN Z (oR Z (zK Z Z Z) (oM Z Z (oN Z (oN Z (zl Z Z Z (zS Z Z Z Z) (oN Z (oR Z (zK Z Z Z) (oM Z Z (oN Z (zl Z Z Z (zS Z Z Z Z) (oN Z (zl Z Z Z (zS Z Z Z Z) (oN Z (oR Z (zK Z Z Z) (eN (zd Z (zC (ZM fun σ948 hσ949=>?_))))))))))))))))))))))))))))))))))))))))))))
      clear hσ949
      refine rR fL1 Z (oA Z Z (eN (zI (zF ?_))))
      have hE:=nB hm947;first | subst r | cases hE
      exact ⟨rfl,_,(ze rfl),U466,_,(hS475.pick [] _ (by decide) rfl),rfl,rfl⟩
    ·intro c476 hm950
     refine oT Z c476 (oT Z c476 (oR Z (zK Z (wFv c476.out) Z) (oM Z Z (oN Z (oN Z (oR Z (zK Z Z Z) (oM Z Z (oN Z (oN Z (oR Z (zK Z Z Z) (oM Z Z (oN Z (oN Z (oN Z (oN Z (oN Z (oR Z (zK Z Z Z) (oM Z Z (oN Z (oN Z (oN Z (zl Z Z Z (zS Z Z Z Z) (oN Z (oR Z (zK Z Z Z) (oM Z Z (oN Z (oN Z (oN Z (zl Z Z Z (zS Z Z Z Z) (oN Z (oR Z (zK Z Z Z) (oM Z Z (oN Z (oN Z (zl Z Z Z (zS Z Z Z Z) (oN Z (oR Z (zK Z Z Z) (oM Z Z (oN Z (zl Z Z Z (zS Z Z Z Z) (oN Z (zl Z Z Z (zS Z Z Z Z) (oN Z (oR Z (zK Z Z Z) (eN (zd Z (zC (ZM fun σ951 hσ952=>?_))))))))))))))))))))))))))))))))))))))))))))))))
     clear hσ952
     refine rR fL1 Z (oA Z Z (eN (zI (zF ?_))))
     have hE:=nB hm950;first | subst r | cases hE
     exact ⟨rfl,_,(ze rfl),U466,_,(hS475.pick [] _ (by decide) rfl),rfl,rfl⟩
end Go.Proofs.YtghaibkggdecnaaGreat
