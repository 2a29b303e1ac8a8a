import Derived.Test.YtghaibkggdecnaaGreatQ7
set_option linter.all false
open List renaming flatMap->nA,getElem_cons_succ->nG,getElem_cons_zero->nH,getElem_toArray->nI,set->nJ,length_set->nL,length_append->nO,length_cons->nQ,length_nil->nR
open Option.some renaming inj->nB
open Go.Value renaming bool->nD
open Bool renaming eq_false_iff->nE
open Int renaming toNat_natCast->nK
open Prod.mk renaming injEq->nM
open Nat renaming blt->nN,le_of_ble_eq_true->nS
open Eq renaming trans->nP
namespace Go.Proofs.YtghaibkggdecnaaGreat
open Go.KL
set_option maxHeartbeats 4000000
theorem Z {α:Type} {a:α}:a=a:=rfl
section
variable {r:Option Nat} {N:Nat} {P:Program} {l:List Oper} {Q:wCH} {D:List Deferred} {ks:List Nat} {σ:Env} {w:World} {i d j e:Nat} {s:Sch} {o:Oper} {b:Bool} {x:Operand} {v:Value} {p:Prop} {inst:Decidable p} {K:List Deferred->Env->World->Prop} {c1 c2:Code}
abbrev jV (n:Int):Value:=.int .i64 n
abbrev SW (w:World) (X:List Res) (U U':PHeap) (L:List Res) (w':World):Prop:=St ⟨w,X,U⟩ U' L w'
abbrev sW (w:World) (U U':PHeap) (L:List Res) (w':World):Prop:=St ⟨w,[],U⟩ U' L w'
abbrev St0 (w:World) (U:PHeap) (L:List Res):Prop:=St ⟨w,L,U⟩ U L w
theorem ifc {α:Type} {G p:Prop} {inst:Decidable p} {a b r:α} (h:@ite α p inst a b=r) (h1:Hid p->a=r->G) (h2:Hid (¬ p)->b=r->G):G:=by
 by_cases c:p
 · rw [if_pos c] at h;exact h1 ⟨c⟩ h
 · rw [if_neg c] at h;exact h2 ⟨c⟩ h
theorem bnK {α β:Type} {G:Prop} {o:Option α} {f:α->Option β} {r:β} (h:o.bind f=some r) (k:∀ x,o=some x->f x=some r->G):G:=by
 obtain ⟨x,h1,h2⟩:=bnd h
 exact k x h1 h2
theorem oR (h:(l[i]?,o.dst,nN d N,wanted l σ o)=(some o,some d,true,true)) (hr:∀ {w'},Runs P σ w' o v w') (k:OKS N P l Q D ks s (upd σ d v) w):OKS N P l Q D ks (.fl i s) σ w:=by
 simp only [nM] at h;exact OKS.r h.1 h.2.1 h.2.2.1 h.2.2.2 (fun _=>hr) k
theorem oL (h:(l[i]?,o.dst,nN d N,wanted l σ o,wPA (kOf ks i))=(some o,some d,true,true,false)) (hr:wEO P σ w o v) (k:OKS N P l Q D ks s (upd σ d v) w):OKS N P l Q D ks (.fl i s) σ w:=by
 simp only [nM] at h;exact OKS.m h.1 h.2.1 h.2.2.1 h.2.2.2.1 hr h.2.2.2.2 k
theorem oM (h:(l[i]?,o.dst,nN d N,wanted l σ o,o.op)=(some o,some d,true,true,.move x)) (hx:ev σ x=v) (k:OKS N P l Q D ks s (upd σ d v) w):OKS N P l Q D ks (.fl i s) σ w:=by
 simp only [nM] at h;exact OKS.rm h.1 h.2.1 h.2.2.1 h.2.2.2.1 h.2.2.2.2 hx k
theorem oA (h:(l[i]?,o.dst,nN d N,wanted l σ o,o.op)=(some o,some d,true,true,.assign x)) (hx:ev σ x=v) (k:OKS N P l Q D ks s (upd σ d v) w):OKS N P l Q D ks (.fl i s) σ w:=by
 simp only [nM] at h;exact OKS.ra h.1 h.2.1 h.2.2.1 h.2.2.2.1 h.2.2.2.2 hx k
theorem oF (h:(l[i]?,o.dst,nN d N,o.guard,(l[j]?).bind (·.dst),σ e,false == b)=(some o,some d,true,some (j,b),some e,.bool (decide p),false)) (c:Hid (¬ p)) (k:OKS N P l Q D ks s (upd σ d undef) w):OKS N P l Q D ks (.fl i s) σ w:=by
 simp only [nM] at h;exact OKS.p h.1 h.2.1 h.2.2.1 (wFA h.2.2.2.1 h.2.2.2.2.1 (h.2.2.2.2.2.1.trans (wOz c.out)) h.2.2.2.2.2.2) k
theorem oT (h:(l[i]?,o.dst,nN d N,o.guard,(l[j]?).bind (·.dst),σ e,true == b)=(some o,some d,true,some (j,b),some e,.bool (decide p),false)) (c:Hid p) (k:OKS N P l Q D ks s (upd σ d undef) w):OKS N P l Q D ks (.fl i s) σ w:=by
 simp only [nM] at h;exact OKS.p h.1 h.2.1 h.2.2.1 (wFA h.2.2.2.1 h.2.2.2.2.1 (h.2.2.2.2.2.1.trans (wOy c.out)) h.2.2.2.2.2.2) k
theorem oN {b2:Bool} (h:(l[i]?,o.dst,nN d N,o.guard,(l[j]?).bind (·.dst),σ e,b2 == b)=(some o,some d,true,some (j,b),some e,.bool b2,false)) (k:OKS N P l Q D ks s (upd σ d undef) w):OKS N P l Q D ks (.fl i s) σ w:=by
 simp only [nM] at h;exact OKS.p h.1 h.2.1 h.2.2.1 (wFA h.2.2.2.1 h.2.2.2.2.1 h.2.2.2.2.2.1 h.2.2.2.2.2.2) k
theorem nC {a b:Bool} (h:a=b):nD (!a)=nD (!b):=h ▸ rfl
theorem nF {a:Bool} (h:¬ a=true):nD (!a)=nD (!false):=nC (nE.2 h)
theorem wT (h:(o.guard,(l[j]?).bind (·.dst),σ e)=(some (j,true),some e,.bool (decide p))) (c:Hid p):wanted l σ o=true:=by
 simp only [nM] at h;exact wGI h.1 h.2.1 (h.2.2.trans (wOy c.out))
theorem wF (h:(o.guard,(l[j]?).bind (·.dst),σ e)=(some (j,false),some e,.bool (decide p))) (c:Hid (¬ p)):wanted l σ o=true:=by
 simp only [nM] at h;exact wGI h.1 h.2.1 (h.2.2.trans (wOz c.out))
theorem rU (h:(l[i]?,o.dst,nN d N)=(some o,some d,true)) (hw:wanted l σ o=true) (hr:∀ {w'},Runs P σ w' o v w') (k:OKS N P l Q D ks s (upd σ d v) w):OKS N P l Q D ks (.fl i s) σ w:=by
 simp only [nM] at h;exact OKS.r h.1 h.2.1 h.2.2 hw (fun _=>hr) k
theorem sR {id:Nat} (s:Sch) (hs:inOrder 0 s l.length=true) (h:OKS N P l (wDa (fun D σ w=>CK r N P c2 Q D σ w) Q) D [] s σ w):CK r N P (.seq (.region id l.toArray false) c2) Q D σ w:=CK.seq (CK.reg s hs h)
theorem rR {id:Nat} (s:Sch) (hs:inOrder 0 s l.length=true) (h:OKS N P l Q D [] s σ w):CK r N P (.region id l.toArray false) Q D σ w:=CK.reg s hs h
theorem eN (h:K D σ w):OKS N P l (wDa K Q) D ks .nil σ w:=OKS.e (wGE h)
theorem cT (hz:ev σ x=.bool (decide p)) (c:Hid p) (h:CK r N P c1 Q D σ w):CK r N P (.cond x c1 c2) Q D σ w:=CK.condT (hz.trans (wOy c.out)) h
theorem cF (hz:ev σ x=.bool (decide p)) (c:Hid (¬ p)) (h:CK r N P c2 Q D σ w):CK r N P (.cond x c1 c2) Q D σ w:=CK.condF (hz.trans (wOz c.out)) h
theorem kN (h:K D σ w):CK r N P .skip (wDa K Q) D σ w:=CK.skip (wGE h)
end
def fL1:Sch:=.fl 0 (.nil)
def fL2:Sch:=.fl 0 (.fl 1 (.nil))
def fL3:Sch:=.fl 0 (.fl 1 (.fl 2 (.nil)))
def fL4:Sch:=.fl 0 (.fl 1 (.fl 2 (.fl 3 (.nil))))
def fL5:Sch:=.fl 0 (.fl 1 (.fl 2 (.fl 3 (.fl 4 (.nil)))))
def fL6:Sch:=.fl 0 (.fl 1 (.fl 2 (.fl 3 (.fl 4 (.fl 5 (.nil))))))
def fL7:Sch:=.fl 0 (.fl 1 (.fl 2 (.fl 3 (.fl 4 (.fl 5 (.fl 6 (.nil)))))))
def fL8:Sch:=.fl 0 (.fl 1 (.fl 2 (.fl 3 (.fl 4 (.fl 5 (.fl 6 (.fl 7 (.nil))))))))
def fL9:Sch:=.fl 0 (.fl 1 (.fl 2 (.fl 3 (.fl 4 (.fl 5 (.fl 6 (.fl 7 (.fl 8 (.nil)))))))))
def fL10:Sch:=.fl 0 (.fl 1 (.fl 2 (.fl 3 (.fl 4 (.fl 5 (.fl 6 (.fl 7 (.fl 8 (.fl 9 (.nil))))))))))
def fL11:Sch:=.fl 0 (.fl 1 (.fl 2 (.fl 3 (.fl 4 (.fl 5 (.fl 6 (.fl 7 (.fl 8 (.fl 9 (.fl 10 (.nil)))))))))))
def fL12:Sch:=.fl 0 (.fl 1 (.fl 2 (.fl 3 (.fl 4 (.fl 5 (.fl 6 (.fl 7 (.fl 8 (.fl 9 (.fl 10 (.fl 11 (.nil))))))))))))
def fL13:Sch:=.fl 0 (.fl 1 (.fl 2 (.fl 3 (.fl 4 (.fl 5 (.fl 6 (.fl 7 (.fl 8 (.fl 9 (.fl 10 (.fl 11 (.fl 12 (.nil)))))))))))))
def fL19:Sch:=.fl 0 (.fl 1 (.fl 2 (.fl 3 (.fl 4 (.fl 5 (.fl 6 (.fl 7 (.fl 8 (.fl 9 (.fl 10 (.fl 11 (.fl 12 (.fl 13 (.fl 14 (.fl 15 (.fl 16 (.fl 17 (.fl 18 (.nil)))))))))))))))))))
def fL24:Sch:=.fl 0 (.fl 1 (.fl 2 (.fl 3 (.fl 4 (.fl 5 (.fl 6 (.fl 7 (.fl 8 (.fl 9 (.fl 10 (.fl 11 (.fl 12 (.fl 13 (.fl 14 (.fl 15 (.fl 16 (.fl 17 (.fl 18 (.fl 19 (.fl 20 (.fl 21 (.fl 22 (.fl 23 (.nil))))))))))))))))))))))))
def fL30:Sch:=.fl 0 (.fl 1 (.fl 2 (.fl 3 (.fl 4 (.fl 5 (.fl 6 (.fl 7 (.fl 8 (.fl 9 (.fl 10 (.fl 11 (.fl 12 (.fl 13 (.fl 14 (.fl 15 (.fl 16 (.fl 17 (.fl 18 (.fl 19 (.fl 20 (.fl 21 (.fl 22 (.fl 23 (.fl 24 (.fl 25 (.fl 26 (.fl 27 (.fl 28 (.fl 29 (.nil))))))))))))))))))))))))))))))
def wNG (s:Sch):Sch:=.fl 0 (.fl 1 (.fl 2 (s)))
def wGr (s:Sch):Sch:=.fl 0 (.fl 1 (.fl 2 (.fl 3 (s))))
def wJt (s:Sch):Sch:=.fl 0 (.fl 1 (.fl 2 (.fl 3 (.fl 4 (s)))))
def wQF (s:Sch):Sch:=.fl 0 (.fl 1 (.fl 2 (.fl 3 (.fl 4 (.fl 5 (s))))))
def wOq (s:Sch):Sch:=.fl 0 (.fl 1 (.fl 2 (.fl 3 (.fl 4 (.fl 5 (.fl 6 (s)))))))
def wQG (s:Sch):Sch:=.fl 0 (.fl 1 (.fl 2 (.fl 3 (.fl 4 (.fl 5 (.fl 6 (.fl 7 (.fl 8 (.fl 9 (s))))))))))
def wQH (s:Sch):Sch:=.fl 0 (.fl 1 (.fl 2 (.fl 3 (.fl 4 (.fl 5 (.fl 6 (.fl 7 (.fl 8 (.fl 9 (.fl 10 (.fl 11 (.fl 12 (s)))))))))))))
def wQI (s:Sch):Sch:=.fl 0 (.fl 1 (.fl 2 (.fl 3 (.fl 4 (.fl 5 (.fl 6 (.fl 7 (.fl 8 (.fl 9 (.fl 10 (.fl 11 (.fl 12 (.fl 13 (.fl 14 (s)))))))))))))))
def fC1_3 (s:Sch):Sch:=.fl 1 (.fl 2 (.fl 3 (s)))
def wQJ (s:Sch):Sch:=.fl 2 (.fl 3 (.fl 4 (.fl 5 (.fl 6 (s)))))
def wQK (s:Sch):Sch:=.fl 2 (.fl 3 (.fl 4 (.fl 5 (.fl 6 (.fl 7 (.fl 8 (s)))))))
def wMQ (s:Sch):Sch:=.fl 3 (.fl 4 (.fl 5 (.fl 6 (.fl 7 (s)))))
def wNg (s:Sch):Sch:=.fl 6 (.fl 7 (.fl 8 (.fl 9 (.fl 10 (s)))))
def wQL (s:Sch):Sch:=.fl 9 (.fl 10 (.fl 11 (.fl 12 (.fl 13 (.fl 14 (s))))))
def wOr (s:Sch):Sch:=.fl 11 (.fl 12 (.fl 13 (.fl 14 (.fl 15 (.fl 16 (.fl 17 (.fl 18 (.fl 19 (.fl 20 (.fl 21 (s)))))))))))
theorem zA:type_of% @Tryz.sizeOf3:=@Tryz.sizeOf3
theorem zB:type_of% @wJy:=@wJy
theorem zC:type_of% @Tryz.runUnderlying31:=@Tryz.runUnderlying31
theorem zD:type_of% @CK.seq:=@CK.seq
theorem zE:type_of% @wGE:=@wGE
theorem zF:type_of% @wJx:=@wJx
theorem zG:type_of% @Hid.mk:=@Hid.mk
theorem zH:type_of% @nS:=@nS
theorem zI:type_of% @Tryz.isAgg3:=@Tryz.isAgg3
theorem zJ:type_of% @OKS.rm:=@OKS.rm
theorem zK:type_of% @Enters.mk:=@Enters.mk
theorem zL:type_of% @OKS.callH:=@OKS.callH
theorem zM:type_of% @CK.ret:=@CK.ret
theorem zN:type_of% @Tryz.runUnderlying58:=@Tryz.runUnderlying58
theorem zO:type_of% @wGI:=@wGI
theorem zP:type_of% @PHeap.Le.refl:=@PHeap.Le.refl
theorem zQ:type_of% @Runs.lss:=@Runs.lss
theorem zR:type_of% @wNH:=@wNH
theorem zS:type_of% @Runs.pickT:=@Runs.pickT
theorem zU:type_of% @OKS.r:=@OKS.r
theorem zV:type_of% @CK.block:=@CK.block
theorem zW:type_of% @wIZ:=@wIZ
theorem zX:type_of% @Runs.pickF:=@Runs.pickF
theorem zY:type_of% @wIa:=@wIa
theorem zZ:type_of% @Runs.addw:=@Runs.addw
theorem zd:type_of% @wJw:=@wJw
theorem ze:type_of% @Tryz.runUnderlying141:=@Tryz.runUnderlying141
theorem zf:type_of% @CK.condT:=@CK.condT
theorem zg:type_of% @wOz:=@wOz
theorem zh:type_of% @OKS.p:=@OKS.p
theorem zi:type_of% @CK.condF:=@CK.condF
theorem zj:type_of% @Tryz.sizeOf160:=@Tryz.sizeOf160
theorem zk:type_of% @Runs.len:=@Runs.len
theorem zl:type_of% @res1:=@res1
theorem zm:type_of% @OKS.e:=@OKS.e
theorem zn:type_of% @Runs.to:=@Runs.to
theorem zo:type_of% @Tryz.runUnderlying136:=@Tryz.runUnderlying136
theorem zp:type_of% @Runs.ext:=@Runs.ext
theorem zq:type_of% @wGF:=@wGF
theorem zr:type_of% @Tryz.runUnderlying62:=@Tryz.runUnderlying62
theorem zt:type_of% @Runs.neq:=@Runs.neq
theorem zu:type_of% @Tryz.isAgg58:=@Tryz.isAgg58
theorem zw:type_of% @CK.skip:=@CK.skip
theorem zx:type_of% @wFA:=@wFA
theorem zy:type_of% @Tryz.sizeOf62:=@Tryz.sizeOf62
theorem zz:type_of% @Tryz.zeroValue3:=@Tryz.zeroValue3
theorem ZA:type_of% @Runs.fa:=@Runs.fa
theorem ZB:type_of% @CK.exit:=@CK.exit
theorem ZC:type_of% @OKS.m:=@OKS.m
theorem ZD:type_of% @OKS.st:=@OKS.st
theorem ZE:type_of% @wOy:=@wOy
theorem ZF:type_of% @Tryz.runUnderlying145:=@Tryz.runUnderlying145
theorem ZG:type_of% @Runs.iaI:=@Runs.iaI
theorem ZH:type_of% @Tryz.zeroValue160:=@Tryz.zeroValue160
theorem ZI:type_of% @OKS.alloc:=@OKS.alloc
theorem ZJ:type_of% @Tryz.isAgg160:=@Tryz.isAgg160
theorem ZK:type_of% @Runs.subw:=@Runs.subw
theorem ZL:type_of% @Tryz.sizeOf141:=@Tryz.sizeOf141
theorem ZM:type_of% @Tryz.underlying31:=@Tryz.underlying31
theorem ZN:type_of% @OKS.buildSlice:=@OKS.buildSlice
theorem ZO:type_of% @Runs.nilp:=@Runs.nilp
theorem ZP:type_of% @Tryz.runUnderlying134:=@Tryz.runUnderlying134
theorem ZQ:type_of% @Tryz.runUnderlying161:=@Tryz.runUnderlying161
theorem ZR:type_of% @Runs.iaN:=@Runs.iaN
theorem ZS:type_of% @OKS.ra:=@OKS.ra
theorem ZT:type_of% @Runs.iaA:=@Runs.iaA
theorem ZU:type_of% @Runs.notT:=@Runs.notT
end Go.Proofs.YtghaibkggdecnaaGreat
namespace Go.Proofs.YtghaibkggdecnaaGreat
open Go.KL
set_option maxHeartbeats 4000000
theorem wDM (p0:List Int) (pA0:Option Addr) (pc0:Nat) (w:World) (U:PHeap) (hS:St0 w U []) (ha0:Sl U 1 pA0 pc0 p0.length (nA KL.encB8 p0)) {r:wAB} (hm:wBB p0=some r):Gv Tryz.prog 21 [.slice pA0 p0.length pc0] w (wCX w [] U (fun U_ L_ v=>∃ (b0:Nat) (A0p0:Option Addr) (c0p0:Nat),v=.pointer (some ⟨b0,0,none⟩)/\L_=[.blk b0 136 [.slice A0p0 r.bytes.length c0p0,jV r.next,.int .u32 r.state]]/\Sl U_ 1 A0p0 c0p0 r.bytes.length (nA KL.encB8 r.bytes))):=by
 unfold wBB at hm
 refine Gv.of Tryz.func21 Z Tryz.ntmps21 Tryz.results21 Z (sR fL1 Z (oA Z Z (eN (sR (.fl 0 (.fl 1 (.fx 2 (.fl 3 (.nil)) .stop))) Z (oM Z Z ?_)))))
 let B0:List Value:=[.slice pA0 p0.length pc0,jV 0,.int .u32 17]
 refine zU rfl rfl rfl rfl (fun _=>Runs.build (pv:=[(0,.slice pA0 p0.length pc0),(2,.int .u32 17)]) (z:=[.slice none 0 0,jV 0,.int .u32 0]) (cs:=B0) rfl (wAg rfl (wAg rfl wBj)) Tryz.zeroValue136 wLh rfl rfl) (OKS.box (cs:=B0) rfl rfl rfl rfl rfl rfl (by rfl) hS ?_)
 intro W1 b2 hS3
 refine oA Z Z (eN (zM ?_))
 cases hm
 exact ⟨Z,_,(zl Z),U,_,hS3,b2,pA0,pc0,Z,Z,ha0⟩
theorem wBE (p0:wAB) (pb0:Nat) (pA0_0:Option Addr) (pc0_0:Nat) (p1:Int) (w:World) (U:PHeap) (hS:St0 w U [.blk pb0 136 [.slice pA0_0 p0.bytes.length pc0_0,jV p0.next,.int .u32 p0.state]]) (ha0:Sl U 1 pA0_0 pc0_0 p0.bytes.length (nA KL.encB8 p0.bytes)) {r:Int × wAB} (hm:wAL p0 p1=some r):Gv Tryz.prog 57 [.pointer (some ⟨pb0,0,none⟩),jV p1] w (wCX w [.blk pb0 136 [.slice pA0_0 p0.bytes.length pc0_0,jV p0.next,.int .u32 p0.state]] U (fun U_ L_ v=>∃ (Ao00:Option Addr) (co00:Nat),v=jV r.1/\L_=[.blk pb0 136 [.slice Ao00 r.2.bytes.length co00,jV r.2.next,.int .u32 r.2.state]]/\Sl U_ 1 Ao00 co00 r.2.bytes.length (nA KL.encB8 r.2.bytes))):=by
 unfold wAL at hm
 refine Gv.of Tryz.func57 Z Tryz.ntmps57 Tryz.results57 Z (sR fL1 Z (oA Z Z (eN (zD (sR fL10 Z (oM Z Z (oR Z (Runs.leq Z Z Z) (oM Z Z ?_))))))))
 by_cases c2:p1 <= 1
 ·have hm3:=hm;rw [if_pos c2] at hm3;replace c2:=zG c2
  refine oT Z c2 (oT Z c2 (oT Z c2 (oT Z c2 (oT Z c2 (oT Z c2 (oR Z (zS Z (ZE c2.out) Z) (eN (zf Z (sR fL1 Z (oA Z Z (eN (zM (zF ?_)))))))))))))
  cases hm3
  exact ⟨Z,_,(zl Z),U,_,hS,pA0_0,pc0_0,Z,Z,ha0⟩
 ·have hm4:=hm;rw [if_neg c2] at hm4;replace c2:=zG c2
  refine zJ Z Z Z (wF Z c2) Z Z (rU Z (wF Z c2) (ZO Z Z) (rU Z (wF Z c2) (ZA Z Z zo Z Tryz.sizeOf46) (ZC Z Z Z (wF Z c2) (hS.ldB (j:=0) Z Z Z Tryz.isAgg46 (v:=.slice pA0_0 p0.bytes.length pc0_0) Z) Z (rU Z (wF Z c2) (zk Z Z Tryz.runUnderlying46) (rU Z (wF Z c2) (Runs.eql Z Z Z) (oR Z (zX Z (zg c2.out) Z) (eN (ifc hm4 ?_ ?_))))))))
  ·intro c5 hm6
   refine cT Z c5 (sR fL1 Z (oA Z Z (eN (zM (zF ?_)))))
   cases hm6
   exact ⟨Z,_,(zl Z),U,_,hS,pA0_0,pc0_0,Z,Z,ha0⟩
  ·intro c5 hm7
   refine cF Z c5 (kN (zD (CK.anyOrd Tryz.mixed [3,3,3,1,3,3,3,1,3,3,3,1,3,3,3,1,3,3,3,3,1,3,3,3,1,3,3,3,3,3] fL30 (by kernel_rfl) ?_)))
   have hS8:=hS.drew
   generalize hw_W9:({ w with drawn:=w.drawn + 1 }:World)=W9 at hS8 ⊢
   refine oM Z Z (oR Z (ZO Z Z) (oR Z (ZA Z Z zo Z Tryz.sizeOf46) (oL Z (hS8.ldB (j:=0) Z Z Z Tryz.isAgg46 (v:=.slice pA0_0 p0.bytes.length pc0_0) Z) (oM Z Z (oR Z (ZO Z Z) (oR Z (ZA Z Z zo Z zA) (oL Z (hS8.ldB (j:=0) Z Z Z zI (v:=jV p0.next) Z) (oM Z Z (oR Z (ZO Z Z) (oR Z (ZA Z Z zo Z Tryz.sizeOf46) (oL Z (hS8.ldB (j:=0) Z Z Z Tryz.isAgg46 (v:=.slice pA0_0 p0.bytes.length pc0_0) Z) (oR Z (zk Z Z Tryz.runUnderlying46) (bnK hm7 fun x10 h11 hm12=>oR Z (Runs.rem Z Z Z h11) (bnK hm12 fun x13 h14 hm15=>?_))))))))))))))
   have q:=ha0.el (fun _=>rfl) (wBA h14)
   obtain ⟨b16,off17,hA18,hC19⟩:=q
   refine oR Z (ZG Z Z hA18 Z Tryz.runUnderlying46 Tryz.sizeOf5 (wCR h14) (wCf h14)) (oL Z (hS8.ldC (f:=0) hC19 (v:=.int .u8 x13) Z Z Tryz.isAgg5 Z) (oR Z (Runs.cvu Z Z Tryz.runUnderlying5 ZP Z Z) (oM Z Z (oR Z (ZO Z Z) (oR Z (ZA Z Z zo Z zA) (oL Z (hS8.ldB (j:=0) Z Z Z zI (v:=jV p0.next) Z) (oM Z Z (oR Z (ZO Z Z) (oR Z (ZA Z Z zo Z Tryz.sizeOf46) (oL Z (hS8.ldB (j:=0) Z Z Z Tryz.isAgg46 (v:=.slice pA0_0 p0.bytes.length pc0_0) Z) (oR Z (zk Z Z Tryz.runUnderlying46) (bnK hm15 fun x20 h21 hm22=>oR Z (Runs.quo Z Z Z h21) (oR Z (Runs.cvu Z Z Tryz.runUnderlying3 ZP Z Z) (oA Z Z (oA Z Z (eN (zD (CK.fresh fun σ23 hσ24=>?_))))))))))))))))))
   have f25:σ23 0=.pointer (some ⟨pb0,0,none⟩):=(hσ24 0).trans rfl
   have f26:σ23 1=jV p1:=(hσ24 1).trans rfl
   have f27:σ23 5=.int .u32 (wCz x13):=(hσ24 5).trans rfl
   have f28:σ23 6=.int .u32 (wCz x20):=(hσ24 6).trans rfl
   clear hσ24
   refine rR (wOq (.fx 7 (.nil) .stop)) Z (oM Z f25 (oR Z (ZO Z Z) (oR Z (ZA Z Z zo Z zA) (oL Z (hS8.ldB (j:=0) Z Z Z zI (v:=jV p0.next) Z) (oR Z (zZ Z Z Z) (oR Z (ZO Z Z) (oR Z (ZA Z Z zo Z zA) (ZD (j:=0) (vs:=[jV (w64 (p0.next + 1))]) Z Z Z Z hS8 Z Z Z Z zA (zH Z) Z Z Z ?_))))))))
   intro W29 hS30
   let B0:Res:=.blk pb0 136 [.slice pA0_0 p0.bytes.length pc0_0,jV p0.next,.int .u32 p0.state]
   have hS31:SW w [B0] U U [.blk pb0 136 [.slice pA0_0 p0.bytes.length pc0_0,jV (w64 (p0.next + 1)),.int .u32 p0.state]] W29:=hS30
   refine eN (sR (wQI (.fx 15 (.nil) .stop)) Z (oM Z f25 (oM Z f25 (oR Z (ZO Z Z) (oR Z (ZA Z Z zo Z Tryz.sizeOf134) (oL Z (hS31.ldB (j:=0) Z Z Z Tryz.isAgg134 (v:=.int .u32 p0.state) Z) (oR Z (Runs.mulu Z Z Z) (oM Z f27 (oR Z (Runs.addu Z Z Z) (oM Z f28 (oR Z (Runs.mulu Z Z Z) (oR Z (Runs.addu Z Z Z) (oR Z (Runs.addu Z Z Z) (bnK hm22 fun x32 h33 hm34=>oR Z (Runs.rem Z Z Z h33) (oR Z (ZO Z Z) (oR Z (ZA Z Z zo Z Tryz.sizeOf134) (ZD (j:=0) (vs:=[.int .u32 x32]) Z Z Z Z hS31 Z Z Z Z Tryz.sizeOf134 (zH Z) Z Z Z ?_)))))))))))))))))
   intro W35 hS36
   have hS37:SW w [B0] U U [.blk pb0 136 [.slice pA0_0 p0.bytes.length pc0_0,jV (w64 (p0.next + 1)),.int .u32 x32]] W35:=hS36
   refine eN (zD (sR fL6 Z (oM Z f28 (oR Z (Runs.eql Z Z Z) (oM Z Z (ifc hm34 ?_ ?_))))))
   ·intro c38 hm39
    refine zJ Z Z Z (wT Z c38) Z f26 (rU Z (wT Z c38) (Runs.leq Z Z Z) (oR Z (zS Z (ZE c38.out) Z) (eN (ifc hm39 ?_ ?_))))
    ·intro c40 hm41
     refine cT Z c40 (sR fL5 Z (oM Z f27 (oR Z (Runs.cvw Z Z ZP Tryz.runUnderlying3 Z Z) (oM Z f26 (bnK hm41 fun x42 h43 hm44=>oR Z (Runs.rem Z Z Z h43) (oA Z Z (eN (zM (zF ?_)))))))))
     cases hm44
     exact ⟨Z,_,(zl Z),U,_,hS37,pA0_0,pc0_0,Z,Z,ha0⟩
    ·intro c40 hm45
     refine cF Z c40 (kN (sR fL11 Z (oM Z f25 (oR Z (ZO Z Z) (oR Z (ZA Z Z zo Z Tryz.sizeOf134) (oL Z (hS37.ldB (j:=0) Z Z Z Tryz.isAgg134 (v:=.int .u32 x32) Z) (oR Z (Runs.mulu Z Z Z) (oM Z f27 (oR Z (Runs.addu Z Z Z) (oR Z (Runs.cvw Z Z ZP Tryz.runUnderlying3 Z Z) (oM Z f26 (bnK hm45 fun x46 h47 hm48=>oR Z (Runs.rem Z Z Z h47) (oA Z Z (eN (zM ?_)))))))))))))))
     cases hm48
     exact ⟨Z,_,(zl Z),U,_,hS37,pA0_0,pc0_0,Z,Z,ha0⟩
   ·intro c38 hm49
    refine oF Z c38 (oF Z c38 (oR Z (zX Z (zg c38.out) Z) (eN (zi Z (kN (sR fL11 Z (oM Z f25 (oR Z (ZO Z Z) (oR Z (ZA Z Z zo Z Tryz.sizeOf134) (oL Z (hS37.ldB (j:=0) Z Z Z Tryz.isAgg134 (v:=.int .u32 x32) Z) (oR Z (Runs.mulu Z Z Z) (oM Z f27 (oR Z (Runs.addu Z Z Z) (oR Z (Runs.cvw Z Z ZP Tryz.runUnderlying3 Z Z) (oM Z f26 (bnK hm49 fun x50 h51 hm52=>oR Z (Runs.rem Z Z Z h51) (oA Z Z (eN (zM ?_)))))))))))))))))))
    cases hm52
    exact ⟨Z,_,(zl Z),U,_,hS37,pA0_0,pc0_0,Z,Z,ha0⟩
theorem wAp (p0:wAB) (pb0:Nat) (pA0_0:Option Addr) (pc0_0:Nat) (p1:Int) (p2:Int) (w:World) (U:PHeap) (hS:St0 w U [.blk pb0 136 [.slice pA0_0 p0.bytes.length pc0_0,jV p0.next,.int .u32 p0.state]]) (ha0:Sl U 1 pA0_0 pc0_0 p0.bytes.length (nA KL.encB8 p0.bytes)) {r:Int × wAB} (hm:wAF p0 p1 p2=some r):Gv Tryz.prog 56 [.pointer (some ⟨pb0,0,none⟩),jV p1,jV p2] w (wCX w [.blk pb0 136 [.slice pA0_0 p0.bytes.length pc0_0,jV p0.next,.int .u32 p0.state]] U (fun U_ L_ v=>∃ (Ao00:Option Addr) (co00:Nat),v=jV r.1/\L_=[.blk pb0 136 [.slice Ao00 r.2.bytes.length co00,jV r.2.next,.int .u32 r.2.state]]/\Sl U_ 1 Ao00 co00 r.2.bytes.length (nA KL.encB8 r.2.bytes))):=by
 unfold wAF at hm
 refine Gv.of Tryz.func56 Z Tryz.ntmps56 Tryz.results56 Z (sR fL1 Z (oA Z Z (eN (sR (wQF (.fx 6 (.fl 7 (.fl 8 (.nil))) .stop)) Z (oM Z Z (oM Z Z (oM Z Z (oM Z Z (oR Z (ZK Z Z Z) (oR Z (zZ Z Z Z) ?_))))))))))
 have q:=bnd hm
 obtain ⟨⟨x2,x3⟩,h4,hm5⟩:=q
 try dsimp only at hm5
 refine zL 1 Z Z Z Z (zK Z Z Tryz.call57 (zB Z (zB Z zR)) Z) hS (fun hs=>wBE p0 pb0 pA0_0 pc0_0 (w64 ((w64 (p2 - p1)) + 1)) w U hs ha0 h4) (.inl Z) ?_
 rintro U6 L7 v8 W9 le10 hS11 ⟨A12,c13,rfl,rfl,h14⟩
 have hS15:SW w [.blk pb0 136 [.slice pA0_0 p0.bytes.length pc0_0,jV p0.next,.int .u32 p0.state]] U U6 [.blk pb0 136 [.slice A12 x3.bytes.length c13,jV x3.next,.int .u32 x3.state]] W9:=hS11
 refine oR Z (zZ Z Z Z) (oA Z Z (eN (zM ?_)))
 cases hm5
 exact ⟨Z,_,(zl Z),U6,_,hS15,A12,c13,Z,Z,h14⟩
theorem wBH (p0:wAB) (pb0:Nat) (pA0_0:Option Addr) (pc0_0:Nat) (p1:Int) (w:World) (U:PHeap) (hS:St0 w U [.blk pb0 136 [.slice pA0_0 p0.bytes.length pc0_0,jV p0.next,.int .u32 p0.state]]) (ha0:Sl U 1 pA0_0 pc0_0 p0.bytes.length (nA KL.encB8 p0.bytes)) {r:(List Int) × wAB} (hm:wAH p0 p1=some r):Gv Tryz.prog 29 [.pointer (some ⟨pb0,0,none⟩),jV p1] w (wCX w [.blk pb0 136 [.slice pA0_0 p0.bytes.length pc0_0,jV p0.next,.int .u32 p0.state]] U (fun U_ L_ v=>∃ (A0:Option Addr) (c0:Nat) (Ao00:Option Addr) (co00:Nat),v=.slice A0 r.1.length c0/\L_=[.row A0 c0 3 1 (nA KL.encI r.1),.blk pb0 136 [.slice Ao00 r.2.bytes.length co00,jV r.2.next,.int .u32 r.2.state]]/\Sl U_ 1 Ao00 co00 r.2.bytes.length (nA KL.encB8 r.2.bytes))):=by
 unfold wAH at hm
 refine Gv.of Tryz.func29 Z Tryz.ntmps29 Tryz.results29 Z (sR fL1 Z (oA Z Z (eN (sR fL1 Z (oA Z Z (eN (zD (sR fL3 Z (oM Z Z (oR Z (Runs.max Z Z Z) (oM Z Z (eN (zV (bnK hm fun y24 hf21 hm20=>?_))))))))))))))
 have q:=wBR hf21
 obtain ⟨hle22,hf23⟩:=q
 replace hle22:=zG hle22
 let B0:Res:=.blk pb0 136 [.slice pA0_0 p0.bytes.length pc0_0,jV p0.next,.int .u32 p0.state]
 refine CK.forN' (fun k19 l15 σ_ w_=>∃ (U_:PHeap) (A16:Option Addr) (c17:Nat),σ_ 11=jV (↑k19:Int)/\σ_ 0=.pointer (some ⟨pb0,0,none⟩)/\σ_ 5=.slice A16 l15.length c17/\σ_ 10=jV (max 0 p1)/\PHeap.Le U U_/\SW w [B0] U U_ [B0,.row A16 c17 3 1 (nA KL.encI l15)] w_) hf23 ?_ ?_ ?_
 ·have hS25:=hS.nilrow 3 1
  exact ⟨U,none,0,rfl,rfl,rfl,rfl,(zP _),(hS25.pick [1,0] _ (by decide) rfl)⟩
 ·rintro k19 l15 xx29 σ27 W28 hk32 ⟨U34,A16,c17,fi33,f37,f38,f39,le35,hS36⟩ hx30
  have c40:Hid ((↑k19:Int) < (max 0 p1)):=zG (wBf hk32)
  replace hk32:=zG hk32
  have hi41:Hid (w64 ((↑k19:Int) + 1)=(↑(k19 + 1):Int)):=zG (by have h1:=hle22.out;have h2:=c40.out;rw [wAY] <;> omega)
  refine sR fL1 Z (oR Z (zQ Z fi33 f39) (eN (zD (cT Z c40 (kN (zD (zV (sR fL2 Z (oM Z fi33 (oA Z Z (eN (rR (.fl 0 (.fl 1 (.fx 2 (.fx 3 (.fl 4 (.nil)) .stop) .stop))) Z (oM Z f38 (oM Z Z (ZN (pv:=[(0,jV (↑k19:Int))]) (zs:=[jV 0]) (cs:=[jV (↑k19:Int)]) Z Z Z Z Z (wAg Z wBj) zC zA zz Z Z Z Z Z hS36 ?_)))))))))))))))
  intro W42 b43 hS44
  let B1:Res:=.row (some ⟨b43,0,none⟩) 1 3 1 (nA KL.encI [(↑k19:Int)])
  have hS46:SW w [B0] U U34 [B1,B0,.row A16 c17 3 1 (nA KL.encI l15)] W42:=hS44
  refine bnK hx30 fun x47 h48 hm49=>OKS.append (j:=2) (enc:=KL.encI) (xs:=l15) (ys:=[(↑k19:Int)]) (zs:=x47) rfl rfl rfl rfl rfl ZM wHU rfl rfl rfl rfl rfl rfl hS46 rfl rfl rfl (hS46.srcR (j:=0) rfl (by decide) (wAD (f:=KL.encI) (sz:=1) (fun _=>rfl) [(↑k19:Int)])) (fun _=>rfl) (fun _=>rfl) h48 rfl ?_
  intro A50 c51 W52 hS53
  have hS54:SW w [B0] U U34 [B1,B0,.row A50 c51 3 1 (nA KL.encI x47)] W52:=hS53
  refine oA Z Z (zm (zW (zE (rR fL2 Z (oR Z (zn (zZ Z fi33 Z) (congrArg (jV) hi41.out)) (oM Z Z (zm ?_)))))))
  cases hm49
  exact zE ⟨rfl,⟨U34,A50,c51,rfl,f37,rfl,f39,le35,(hS54.pick [1,2] _ (by decide) rfl)⟩⟩
 ·rintro σ58 W59 ⟨U67,A65,c66,fi61,f70,f71,f72,le68,hS69⟩
  have c73:Hid (¬ ((↑((max 0 p1:Int) - 0).toNat:Int) < (max 0 p1))):=zG (wBI)
  refine sR fL1 Z (oR Z (zQ Z fi61 f72) (eN (zD (cF Z c73 (ZB (zd (zd (zq (zE (zD (sR fL4 Z (oM Z f71 (oR Z (zk Z Z zC) (oR Z (ZK Z Z Z) (oA Z Z (eN (zV (CK.iter (fun (l95,x98,x99,l100,x101) σ_ w_=>∃ (U_:PHeap) (A96:Option Addr) (c97:Nat),σ_ 0=.pointer (some ⟨pb0,0,none⟩)/\σ_ 5=.slice A65 l100.length c66/\σ_ 7=jV x101/\PHeap.Le U67 U_/\SW w [B0] U U_ [.blk pb0 136 [.slice A96 l95.length c97,jV x98,.int .u32 x99],.row A65 c66 3 1 (nA KL.encI l100)] w_/\Sl U_ 1 A96 c97 l95.length (nA KL.encB8 l95)/\l100.length=y24.length) hm20 ?_ ?_))))))))))))))))))
  ·have h102:=ha0.le le68
   exact ⟨U67,pA0_0,pc0_0,f70,f71,Z,(zP _),hS69,h102,Z⟩
  ·rintro ⟨l95,x98,x99,l100,x101⟩ xx105 σ103 W104 ⟨U110,A96,c97,f113,f114,f115,le111,hS112,h116,h117⟩ hx106 hb107
   try dsimp only at hx106
   refine zD (sR fL2 Z (oM Z f115 (oR Z (Runs.gtr Z Z Z) (eN ?_))))
   by_cases c118:0 < x101
   ·have hm119:=hx106;rw [if_pos c118] at hm119;replace c118:=zG c118
    refine cT Z c118 (kN (zD (zV (sR (wNG (.fx 3 (.fl 4 (.nil)) .stop)) Z (oM Z f113 (oM Z f115 (oR Z (zZ Z Z Z) ?_)))))))
    have q:=bnd hm119
    obtain ⟨⟨x120,x121⟩,h122,hm123⟩:=q
    try dsimp only at hm123
    refine zL 1 Z Z Z Z (zK Z Z Tryz.call57 (zB Z (zB Z zR)) Z) hS112 (fun hs=>wBE (⟨l95,x98,x99⟩:wAB) pb0 A96 c97 (w64 (x101 + 1)) W104 U110 hs h116 h122) (.inl Z) ?_
    rintro U124 L125 v126 W127 le128 hS129 ⟨A130,c131,rfl,rfl,h132⟩
    let B2:Res:=.blk pb0 136 [.slice A130 x121.bytes.length c131,jV x121.next,.int .u32 x121.state]
    have hS133:SW w [B0] U U124 [B2,.row A65 c66 3 1 (nA KL.encI l100)] W127:=hS129
    refine ZS rfl rfl rfl rfl rfl rfl (eN (CK.anyOrd Tryz.mixed [3,3,3,3,3,3,3,1,3,3,3,1,3,0,3,0] (wQH (.fx 13 (.fl 14 (.fx 15 (.nil) .stop)) .stop)) (by kernel_rfl) ?_))
    have hS134:=hS133.drew
    generalize hw_W135:({ W127 with drawn:=W127.drawn + 1 }:World)=W135 at hS134 ⊢
    refine oM Z f114 (oM Z f115 (oM Z f114 (oM Z Z (oM Z f114 (oM Z Z (bnK hm123 fun _ h136 hm137=>?_))))))
    obtain ⟨b138,hA139⟩:=hS134.rowSome (j:=1) rfl (by rw [wAD (f:=KL.encI) (sz:=1) (fun _=>rfl) l100];have hz:=wAq h136;omega)
    refine oR Z (ZG Z Z hA139 Z zC zA (wBa h136) (wBb h136)) ?_
    have hg140:=wCW (xs:=l100) (wAq h136)
    refine ZC rfl rfl rfl rfl (hS134.ldR (j:=1) rfl hA139 rfl rfl zI (wAZ (sz:=1) (fun _=>rfl) _ _ 0 _ hg140 (by first | omega | rfl | simp) rfl)) rfl (zJ rfl rfl rfl rfl rfl f114 (zJ rfl rfl rfl rfl rfl f115 (bnK hm137 fun _ h141 hm142=>zU rfl rfl rfl rfl (fun _=>ZG rfl rfl hA139 rfl zC zA (wBa h141) (wBb h141)) ?_)))
    have hg143:=wCW (xs:=l100) (wAq h141)
    refine ZC rfl rfl rfl rfl (hS134.ldR (j:=1) rfl hA139 rfl rfl zI (wAZ (sz:=1) (fun _=>rfl) _ _ 0 _ hg143 (by first | omega | rfl | simp) rfl)) rfl (zU rfl rfl rfl rfl (fun _=>ZG rfl rfl hA139 rfl zC zA (wBa h141) (wBb h141)) ?_)
    have hg144:=wCW (xs:=l100) (wAq h141)
    refine OKS.stR (j:=1) (vs:=[jV (gd l100 x120.toNat)]) (cs':=nA KL.encI (nJ l100 x101.toNat (gd l100 x120.toNat))) rfl rfl rfl rfl hS134 rfl hA139 rfl rfl rfl zA (by rw [wAD (f:=KL.encI) (sz:=1) (fun _=>rfl)];have hz:=wAq h141;show _ + 1 <= _;first | omega | (simp only [nK];omega) | (simp only [nI,nG,nH];omega)) rfl (wDg (sz:=1) (fo:=0) (fun _=>rfl) _ _ _ _ hg144 (by first | omega | (simp only [nK];omega) | (simp only [nI,nG,nH];omega)) (zH rfl) rfl) rfl ?_
    intro W145 hS146
    have hS147:SW w [B0] U U124 [B2,.row A65 c66 3 1 (nA KL.encI (nJ l100 x101.toNat (gd l100 x120.toNat)))] W145:=hS146
    refine bnK hm142 fun _ h148 hm149=>zU rfl rfl rfl rfl (fun _=>ZG rfl (nP (b:=(.slice A65 l100.length c66:Value)) (c:=(.slice A65 ((nJ l100 x101.toNat (gd l100 x120.toNat)).length) c66:Value)) rfl (by simp only [nL])) hA139 rfl zC zA (wBa h148) (wBb h148)) ?_
    have hg150:=wCW (xs:=(nJ l100 x101.toNat (gd l100 x120.toNat))) (wAq h148)
    refine OKS.stR (j:=1) (vs:=[jV (gd l100 x101.toNat)]) (cs':=nA KL.encI (nJ (nJ l100 x101.toNat (gd l100 x120.toNat)) x120.toNat (gd l100 x101.toNat))) rfl rfl rfl rfl hS147 rfl hA139 rfl rfl rfl zA (by rw [wAD (f:=KL.encI) (sz:=1) (fun _=>rfl)];have hz:=wAq h148;show _ + 1 <= _;first | omega | (simp only [nK];omega) | (simp only [nI,nG,nH];omega)) rfl (wDg (sz:=1) (fo:=0) (fun _=>rfl) _ _ _ _ hg150 (by first | omega | (simp only [nK];omega) | (simp only [nI,nG,nH];omega)) (zH rfl) rfl) rfl ?_
    intro W151 hS152
    have hS153:SW w [B0] U U124 [B2,.row A65 c66 3 1 (nA KL.encI (nJ (nJ l100 x101.toNat (gd l100 x120.toNat)) x120.toNat (gd l100 x101.toNat)))] W151:=hS152
    refine zm (zW (zE (rR fL3 Z (oM Z f115 (oR Z (ZK Z Z Z) (oA Z Z (zm ?_)))))))
    obtain rfl:=nB hm149
    exact zE ⟨rfl,_,rfl,⟨U124,A130,c131,f113,(nP (b:=(.slice A65 ((nJ l100 x101.toNat (gd l100 x120.toNat)).length) c66:Value)) (c:=(.slice A65 ((nJ (nJ l100 x101.toNat (gd l100 x120.toNat)) x120.toNat (gd l100 x101.toNat)).length) c66:Value)) (nP (b:=(.slice A65 l100.length c66:Value)) (c:=(.slice A65 ((nJ l100 x101.toNat (gd l100 x120.toNat)).length) c66:Value)) f114 (by simp only [nL])) (by simp only [nL])),rfl,(le111.trans le128),hS153,h132,((nL.trans nL).trans h117)⟩⟩
   ·have hm161:=hx106;rw [if_neg c118] at hm161;replace c118:=zG c118
    refine cF Z c118 (ZB (zd ?_))
    have q:=wBD hm161
    obtain ⟨v162,hm163,e164⟩:=q
    obtain rfl:=hb107 v162 e164
    refine zd (zq (zE (sR fL2 Z (oM Z f114 (oA Z Z (eN (zM ?_)))))))
    cases hm163
    exact ⟨rfl,_,(zl rfl),U110,_,(hS112.pick [1,0] _ (by decide) rfl),A65,c66,A96,c97,rfl,rfl,h116⟩
theorem wDs (p0:wAB) (pb0:Nat) (pA0_0:Option Addr) (pc0_0:Nat) (p1:Int) (w:World) (U:PHeap) (hS:St0 w U [.blk pb0 136 [.slice pA0_0 p0.bytes.length pc0_0,jV p0.next,.int .u32 p0.state]]) (ha0:Sl U 1 pA0_0 pc0_0 p0.bytes.length (nA KL.encB8 p0.bytes)) {r:(List wAA) × wAB} (hm:wAk p0 p1=some r):Gv Tryz.prog 28 [.pointer (some ⟨pb0,0,none⟩),jV p1] w (wCX w [.blk pb0 136 [.slice pA0_0 p0.bytes.length pc0_0,jV p0.next,.int .u32 p0.state]] U (fun U_ L_ v=>∃ (A0:Option Addr) (c0:Nat) (Ao00:Option Addr) (co00:Nat),v=.slice A0 r.1.length c0/\L_=[.row A0 c0 62 3 (nA wAG r.1),.blk pb0 136 [.slice Ao00 r.2.bytes.length co00,jV r.2.next,.int .u32 r.2.state]]/\Sl U_ 1 Ao00 co00 r.2.bytes.length (nA KL.encB8 r.2.bytes))):=by
 unfold wAk at hm
 refine Gv.of Tryz.func28 Z Tryz.ntmps28 Tryz.results28 Z (sR fL1 Z (oA Z Z (eN (sR fL1 Z (oA Z Z (eN (sR (.fl 0 (.fx 1 (.fl 2 (.nil)) .stop)) Z (oM Z Z ?_))))))))
 have q:=bnd hm
 obtain ⟨⟨x2,x3⟩,h4,hm5⟩:=q
 try dsimp only at hm5
 refine zL 1 Z Z Z Z (zK Z Z Tryz.call56 (zB Z (zB Z (zB Z zR))) Z) hS (fun hs=>wAp p0 pb0 pA0_0 pc0_0 1 6 w U hs ha0 h4) (.inl Z) ?_
 rintro U6 L7 v8 W9 le10 hS11 ⟨A12,c13,rfl,rfl,h14⟩
 let B0:Res:=.blk pb0 136 [.slice pA0_0 p0.bytes.length pc0_0,jV p0.next,.int .u32 p0.state]
 have hS15:SW w [B0] U U6 [.blk pb0 136 [.slice A12 x3.bytes.length c13,jV x3.next,.int .u32 x3.state]] W9:=hS11
 refine oA Z Z (eN (sR (.fl 0 (.fx 1 (.fl 2 (.nil)) .stop)) Z (oM Z Z ?_)))
 have q:=bnd hm5
 obtain ⟨⟨x16,x17⟩,h18,hm19⟩:=q
 try dsimp only at hm19
 refine zL 1 Z Z Z Z (zK Z Z Tryz.call29 (zB Z (zB Z zR)) Z) hS15 (fun hs=>wBH x3 pb0 A12 c13 60 W9 U6 hs h14 h18) (.inl Z) ?_
 rintro U20 L21 v22 W23 le24 hS25 ⟨A26,c27,A28,c29,rfl,rfl,h31⟩
 let B1:Res:=.row A26 c27 3 1 (nA KL.encI x16)
 let B2:Res:=.blk pb0 136 [.slice A28 x17.bytes.length c29,jV x17.next,.int .u32 x17.state]
 have hS32:SW w [B0] U U20 [B1,B2] W23:=hS25
 refine oA Z Z (eN (zD (sR (.fl 0 (.fl 1 (.fx 2 (.fl 3 (.nil)) .stop))) Z (oM Z Z (oM Z Z ?_)))))
 have q:=bnd hm19
 obtain ⟨⟨x33,x34⟩,h35,hm36⟩:=q
 try dsimp only at hm36
 have hS37:SW w [B0] U U20 [B2,B1] W23:=hS32.pick [1,0] _ (by decide) rfl
 refine zL 1 Z Z Z Z (zK Z Z Tryz.call56 (zB Z (zB Z (zB Z zR))) Z) hS37 (fun hs=>wAp x17 pb0 A28 c29 1 p1 W23 U20 hs h31 h35) (.inl Z) ?_
 rintro U38 L39 v40 W41 le42 hS43 ⟨A44,c45,rfl,rfl,h46⟩
 have hS47:SW w [B0] U U38 [.blk pb0 136 [.slice A44 x34.bytes.length c45,jV x34.next,.int .u32 x34.state],B1] W41:=hS43
 refine oM Z Z (eN (zV ?_))
 have q:=bnd hm36
 obtain ⟨⟨y90,y91,y92,y93⟩,hf87,hm86⟩:=q
 try dsimp only at hm86
 have q:=wBR hf87
 obtain ⟨hle88,hf89⟩:=q
 replace hle88:=zG hle88
 refine CK.forN' (fun k85 (l76,x79,x80,l81) σ_ w_=>∃ (U_:PHeap) (A77:Option Addr) (c78:Nat) (A82:Option Addr) (c83:Nat),σ_ 16=jV (↑k85:Int)/\σ_ 0=.pointer (some ⟨pb0,0,none⟩)/\σ_ 5=.slice A82 l81.length c83/\σ_ 6=jV x2/\σ_ 7=.slice A26 x16.length c27/\σ_ 15=jV x33/\PHeap.Le U38 U_/\SW w [B0] U U_ [.blk pb0 136 [.slice A77 l76.length c78,jV x79,.int .u32 x80],.row A82 c83 62 3 (nA wAG l81),B1] w_/\Sl U_ 1 A77 c78 l76.length (nA KL.encB8 l76)) hf89 ?_ ?_ ?_
 ·have hS94:=hS47.nilrow 62 3
  exact ⟨U38,A44,c45,none,0,rfl,rfl,rfl,rfl,rfl,rfl,(zP _),(hS94.pick [1,0,2] _ (by decide) rfl),h46⟩
 ·rintro k85 ⟨l76,x79,x80,l81⟩ xx98 σ96 W97 hk101 ⟨U103,A77,c78,A82,c83,fi102,f106,f107,f108,f109,f110,le104,hS105,h111⟩ hx99
  try dsimp only at hx99
  have c112:Hid ((↑k85:Int) < x33):=zG (wBf hk101)
  replace hk101:=zG hk101
  have hi113:Hid (w64 ((↑k85:Int) + 1)=(↑(k85 + 1):Int)):=zG (by have h1:=hle88.out;have h2:=c112.out;rw [wAY] <;> omega)
  refine sR fL1 rfl (zU rfl rfl rfl rfl (fun _=>zQ rfl fi102 f110) (eN (zD (cT Z c112 (kN (zD (zV (sR fL2 rfl (zJ rfl rfl rfl rfl rfl fi102 (ZS rfl rfl rfl rfl rfl rfl (eN (CK.anyOrd Tryz.mixed [3,3,3,3,1005,3,3,3,1005,3,3,3,1004,3,3,1005,3,3,2,0,3,pb0] (wGr (.fl 6 (.fl 7 (wQL (.fx 4 (.fl 5 (.fx 8 (.fx 15 (.fl 16 (.fl 17 (.fx 18 (.fx 19 (.fl 20 (.nil)) .stop) .stop))) .stop) .stop)) .stop))))) (by kernel_rfl) ?_))))))))))))
  have hS176:=hS105.drew
  generalize hw_W177:({ W97 with drawn:=W97.drawn + 1 }:World)=W177 at hS176 ⊢
  refine oM Z f107 (oM Z Z (oR Z (Runs.mulw Z Z Z) (oM Z f106 (oM Z f106 (oM Z f108 (oM Z f109 (oM Z Z (bnK hx99 fun _ h178 hm179=>?_))))))))
  obtain ⟨b180,hA181⟩:=hS176.rowSome (j:=2) rfl (by rw [wAD (f:=KL.encI) (sz:=1) (fun _=>rfl) x16];have hz:=wAq h178;omega)
  refine oR Z (ZR Z Z hA181 Z zC zA (wAq h178)) ?_
  have hg183:=wCW (xs:=x16) (wAq h178)
  let B3:Res:=.row A82 c83 62 3 (nA wAG l81)
  refine OKS.mt (T:=[pb0]) [0] [1,2] [B3,B1] rfl rfl rfl rfl hS176 rfl ⟨⟨0,by decide,_,rfl,rfl⟩,trivial⟩ (by decide) rfl (by decide) (fun _ hZ182=>(hZ182.ldR (j:=1) rfl hA181 rfl rfl zI (wAZ (sz:=1) (fun _=>rfl) _ _ 0 _ hg183 (by first | omega | rfl | simp) rfl))) rfl (zU rfl rfl rfl rfl (fun _=>Runs.mulw rfl rfl rfl) (zJ rfl rfl rfl rfl rfl f106 ?_))
  have q:=bnd hm179
  obtain ⟨⟨x184,x185⟩,h186,hm187⟩:=q
  try dsimp only at hm187
  refine OKS.callHT 1 rfl rfl rfl rfl (zK rfl rfl Tryz.call56 (zB rfl (zB rfl (zB rfl zR))) rfl) hS176 (fun hs=>wAp (⟨l76,x79,x80⟩:wAB) pb0 A77 c78 1 9 W177 U103 hs h111 h186) rfl (T:=[pb0]) rfl ⟨fun b h=>(by cases h;exact .head _),trivial⟩ ?_
  rintro U188 L189 v190 W191 le192 hS193 ⟨A194,c195,rfl,rfl,h196⟩
  have hS197:SW w [B0] U U188 [.blk pb0 136 [.slice A194 x185.bytes.length c195,jV x185.next,.int .u32 x185.state],B3,B1] W191:=hS193
  refine oR Z (zZ Z Z Z) ?_
  have q:=bnd hm187
  obtain ⟨⟨x198,x199⟩,h200,hm201⟩:=q
  try dsimp only at hm201
  refine OKS.callHT 1 rfl rfl rfl rfl (zK rfl rfl Tryz.call57 (zB rfl (zB rfl zR)) rfl) hS197 (fun hs=>wBE x185 pb0 A194 c195 x2 W191 U188 hs h196 h200) rfl (T:=[pb0]) rfl ⟨fun b h=>(by cases h;exact .head _),trivial⟩ ?_
  rintro U202 L203 v204 W205 le206 hS207 ⟨A208,c209,rfl,rfl,h210⟩
  have hS211:SW w [B0] U U202 [.blk pb0 136 [.slice A208 x199.bytes.length c209,jV x199.next,.int .u32 x199.state],B3,B1] W205:=hS207
  have q:=bnd hm201
  obtain ⟨⟨x212,x213⟩,h214,hm215⟩:=q
  try dsimp only at hm215
  refine OKS.callHT 1 rfl rfl rfl rfl (zK rfl rfl Tryz.call56 (zB rfl (zB rfl (zB rfl zR))) rfl) hS211 (fun hs=>wAp x199 pb0 A208 c209 1 3 W205 U202 hs h210 h214) rfl (T:=[pb0]) rfl ⟨fun b h=>(by cases h;exact .head _),trivial⟩ ?_
  rintro U216 L217 v218 W219 le220 hS221 ⟨A222,c223,rfl,rfl,h224⟩
  let B4:Res:=.blk pb0 136 [.slice A222 x213.bytes.length c223,jV x213.next,.int .u32 x213.state]
  have hS225:SW w [B0] U U216 [B4,B3,B1] W219:=hS221
  refine oR Z (zZ Z Z Z) ?_
  let B5:List Value:=[jV (w64 ((w64 (10 * (↑k85:Int))) + x184)),jV x198,jV (w64 ((w64 (3 * (gd x16 k85))) + x212))]
  let B6:List Value:=[jV 0,jV 0,jV 0]
  refine oR Z (Runs.build (pv:=[(0,jV (w64 ((w64 (10 * (↑k85:Int))) + x184))),(1,jV x198),(2,jV (w64 ((w64 (3 * (gd x16 k85))) + x212)))]) (z:=B6) (cs:=B5) Z (wAg Z (wAg Z (wAg Z wBj))) Tryz.zeroValue62 wMt Z Z) (ZN (pv:=[(0,.agg B5.toArray)]) (zs:=B6) (cs:=B5) Z Z Z Z Z (wAg Z wBj) zN zy Tryz.zeroValue62 Z Z Z Z Z hS225 ?_)
  intro W226 b227 hS228
  let B7:Res:=.row (some ⟨b227,0,none⟩) 1 62 3 (nA wAG [(⟨w64 ((w64 (10 * (↑k85:Int))) + x184),x198,w64 ((w64 (3 * (gd x16 k85))) + x212)⟩:wAA)])
  have hS230:SW w [B0] U U216 [B7,B4,B3,B1] W226:=hS228
  refine bnK hm215 fun x231 h232 hm233=>OKS.append (j:=2) (enc:=wAG) (xs:=l81) (ys:=[(⟨w64 ((w64 (10 * (↑k85:Int))) + x184),x198,w64 ((w64 (3 * (gd x16 k85))) + x212)⟩:wAA)]) (zs:=x231) rfl rfl rfl rfl rfl Tryz.underlying58 wPs rfl rfl rfl rfl rfl rfl hS230 rfl rfl rfl (hS230.srcR (j:=0) rfl (by decide) (wAD (f:=wAG) (sz:=3) (fun _=>rfl) [(⟨w64 ((w64 (10 * (↑k85:Int))) + x184),x198,w64 ((w64 (3 * (gd x16 k85))) + x212)⟩:wAA)])) (fun _=>rfl) (fun _=>rfl) h232 rfl ?_
  intro A234 c235 W236 hS237
  have hS238:SW w [B0] U U216 [B7,B4,.row A234 c235 62 3 (nA wAG x231),B1] W236:=hS237
  refine oA Z Z (zm (zW (zE (rR fL2 Z (oR Z (zn (zZ Z fi102 Z) (congrArg (jV) hi113.out)) (oM Z Z (zm ?_)))))))
  cases hm233
  exact zE ⟨rfl,⟨U216,A222,c223,A234,c235,rfl,f106,rfl,f108,f109,f110,(((le104.trans le192).trans le206).trans le220),(hS238.pick [1,2,3] _ (by decide) rfl),h224⟩⟩
 ·rintro σ247 W248 ⟨U263,A259,c260,A261,c262,fi250,f266,f267,f268,f269,f270,le264,hS265,h271⟩
  have c272:Hid (¬ ((↑((x33:Int) - 0).toNat:Int) < x33)):=zG (wBI)
  refine sR fL1 Z (oR Z (zQ Z fi250 f270) (eN (zD (cF Z c272 (ZB (zd (zd (zq (zE (sR fL2 Z (oM Z f267 (oA Z Z (eN (zM ?_))))))))))))))
  cases hm86
  exact ⟨rfl,_,(zl rfl),U263,_,(hS265.pick [1,0] _ (by decide) rfl),A261,c262,A259,c260,rfl,rfl,h271⟩
theorem wDV (p0:Int) (p1:Int) (p2:Int) (w:World) (U:PHeap) (hS:St0 w U [])  {r:Bool} (hm:wBV p0 p1 p2=some r):Gv Tryz.prog 86 [jV p0,jV p1,jV p2] w (wCX w [] U (fun U_ L_ v=>v=.bool r/\L_=[])):=by
 unfold wBV at hm
 refine Gv.of Tryz.func86 Z Tryz.ntmps86 Tryz.results86 Z (sR fL1 Z (oA Z Z (eN (sR fL9 Z (oM Z Z (oM Z Z (oR Z (Runs.geq Z Z Z) (oM Z Z ?_))))))))
 by_cases c1:p1 <= p0
 ·have hm2:=hm;rw [if_pos c1] at hm2;replace c1:=zG c1
  refine zJ Z Z Z (wT Z c1) Z Z (zJ Z Z Z (wT Z c1) Z Z (rU Z (wT Z c1) (Runs.leq Z Z Z) (oR Z (zS Z (ZE c1.out) Z) (oA Z Z (eN (zM ?_))))))
  cases hm2
  exact ⟨Z,_,(zl Z),U,_,hS,Z,Z⟩
 ·have hm3:=hm;rw [if_neg c1] at hm3;replace c1:=zG c1
  refine oF Z c1 (oF Z c1 (oF Z c1 (oR Z (zX Z (zg c1.out) Z) (oA Z Z (eN (zM ?_))))))
  have hE:=nB hm3;first | subst r | cases hE
  exact ⟨Z,_,(zl Z),U,_,hS,Z,Z⟩
theorem wBx (p0:wAA) (w:World) (U:PHeap) (hS:St0 w U [])  {r:Int} (hm:wAJ p0=some r):Gv Tryz.prog 142 [.agg #[jV p0.Bib,jV p0.Nation,jV p0.Rank]] w (wCX w [] U (fun U_ L_ v=>v=jV r/\L_=[])):=by
 unfold wAJ at hm
 refine Gv.of Tryz.func142 rfl Tryz.ntmps142 Tryz.results142 rfl (sR (.fx 0 (.fl 1 (.nil)) .stop) rfl (OKS.box (cs:=[jV p0.Bib,jV p0.Nation,jV p0.Rank]) rfl rfl rfl rfl rfl rfl (by rfl) hS ?_))
 intro W1 b2 hS3
 refine oA Z Z (eN (sR fL3 Z (oR Z (ZA Z Z zr Z zA) (oL Z (hS3.ldB (j:=0) Z Z Z zI (v:=jV p0.Bib) Z) (oA Z Z (eN (zM ?_)))))))
 cases hm
 exact ⟨rfl,_,(zl rfl),U,_,(hS3.pick [] _ (by decide) rfl),rfl,rfl⟩
theorem wBy (p0:wAA) (w:World) (U:PHeap) (hS:St0 w U [])  {r:Int} (hm:wAK p0=some r):Gv Tryz.prog 143 [.agg #[jV p0.Bib,jV p0.Nation,jV p0.Rank]] w (wCX w [] U (fun U_ L_ v=>v=jV r/\L_=[])):=by
 unfold wAK at hm
 refine Gv.of Tryz.func143 rfl Tryz.ntmps143 Tryz.results143 rfl (sR (.fx 0 (.fl 1 (.nil)) .stop) rfl (OKS.box (cs:=[jV p0.Bib,jV p0.Nation,jV p0.Rank]) rfl rfl rfl rfl rfl rfl (by rfl) hS ?_))
 intro W1 b2 hS3
 refine oA Z Z (eN (sR fL3 Z (oR Z (ZA Z Z zr Z zA) (oL Z (hS3.ldB (j:=0) Z Z Z zI (v:=jV p0.Rank) Z) (oA Z Z (eN (zM ?_)))))))
 cases hm
 exact ⟨rfl,_,(zl rfl),U,_,(hS3.pick [] _ (by decide) rfl),rfl,rfl⟩
theorem wCh (p0:wAA) (w:World) (U:PHeap) (hS:St0 w U [])  {r:Int} (hm:wAP p0=some r):Gv Tryz.prog 144 [.agg #[jV p0.Bib,jV p0.Nation,jV p0.Rank]] w (wCX w [] U (fun U_ L_ v=>v=jV r/\L_=[])):=by
 unfold wAP at hm
 refine Gv.of Tryz.func144 rfl Tryz.ntmps144 Tryz.results144 rfl (sR (.fx 0 (.fl 1 (.nil)) .stop) rfl (OKS.box (cs:=[jV p0.Bib,jV p0.Nation,jV p0.Rank]) rfl rfl rfl rfl rfl rfl (by rfl) hS ?_))
 intro W1 b2 hS3
 refine oA Z Z (eN (sR fL3 Z (oR Z (ZA Z Z zr Z zA) (oL Z (hS3.ldB (j:=0) Z Z Z zI (v:=jV p0.Nation) Z) (oA Z Z (eN (zM ?_)))))))
 cases hm
 exact ⟨rfl,_,(zl rfl),U,_,(hS3.pick [] _ (by decide) rfl),rfl,rfl⟩
theorem wFc  (w:World) (U:PHeap) (hS:St0 w U [])  {r:Unit} (hm:wBk =some r):Gv Tryz.prog 98 [] w (wCX w [] U (fun U_ L_ v=>v=.agg #[.func (.func 142) #[] #[],jV 1,jV 999,.func (.func 143) #[] #[],jV 1,jV 9999,.func (.func 144) #[] #[],jV 0,jV 30]/\L_=[])):=by
 unfold wBk at hm
 refine Gv.of Tryz.func98 Z Tryz.ntmps98 Tryz.results98 Z (sR (.fx 0 (.nil) .stop) Z ?_)
 let B0:List Value:=[.nilFunc,jV 0,jV 0,.nilFunc,jV 0,jV 0,.nilFunc,jV 0,jV 0]
 refine ZI (cs:=B0) Z Z Z Z Z Tryz.zeroValue161 Z hS ?_
 intro W1 b2 hS3
 refine eN (sR (wGr (.fx 4 (.nil) .stop)) Z ?_)
 let B1:List Value:=[.nilFunc,jV 0,jV 0]
 let B2:List Value:=[.func (.func 142) #[] #[],jV 1,jV 999]
 refine oR Z (Runs.build (pv:=[(0,.func (.func 142) #[] #[]),(1,jV 1),(2,jV 999)]) (z:=B1) (cs:=B2) Z (wAg Z (wAg Z (wAg Z wBj))) ZH wFb Z Z) ?_
 let B3:List Value:=[.func (.func 143) #[] #[],jV 1,jV 9999]
 refine oR Z (Runs.build (pv:=[(0,.func (.func 143) #[] #[]),(1,jV 1),(2,jV 9999)]) (z:=B1) (cs:=B3) Z (wAg Z (wAg Z (wAg Z wBj))) ZH wFb Z Z) ?_
 let B4:List Value:=[.func (.func 144) #[] #[],jV 0,jV 30]
 refine oR Z (Runs.build (pv:=[(0,.func (.func 144) #[] #[]),(1,jV 0),(2,jV 30)]) (z:=B1) (cs:=B4) Z (wAg Z (wAg Z (wAg Z wBj))) ZH wFb Z Z) ?_
 let B5:List Value:=[.func (.func 142) #[] #[],jV 1,jV 999,.func (.func 143) #[] #[],jV 1,jV 9999,.func (.func 144) #[] #[],jV 0,jV 30]
 refine oR Z (Runs.buildA (pv:=[(0,.agg B2.toArray),(1,.agg B3.toArray),(2,.agg B4.toArray)]) (z:=B0) (cs:=B5) Z (wAg Z (wAg Z (wAg Z wBj))) Tryz.zeroValue161 ZQ zj Z Z) (ZD (j:=0) (vs:=B5) Z Z Z Z hS3 Z Z Z Z Tryz.sizeOf161 (zH Z) Z Z Z ?_)
 intro W5 hS6
 have hS7:sW w U U [.blk b2 161 B5] W5:=hS6
 refine eN (zM ?_)
 cases hm
 exact ⟨rfl,_,(wNk (v:=.agg B5.toArray) ⟨⟨_,rfl,(wNO Tryz.isAgg161 Tryz.sizeOf161 (hS7.blkAt (k:=0) rfl) (vs:=B5) rfl rfl)⟩,trivial⟩),U,_,(hS7.pick [] _ (by decide) rfl),rfl,rfl⟩
theorem wBC (p0:wAE) (pv0_0:Value) (p1:List wAA) (pA1:Option Addr) (pc1:Nat) (w:World) (U:PHeap) (hS:St0 w U []) (ha0:FnOK Tryz.prog U pv0_0 wFk wFl p0.of) (ha1:Sl U 3 pA1 pc1 p1.length (nA wAG p1)) {r:(List Int)} (hm:wAR p0 p1=some r):Gv Tryz.prog 100 [.agg #[pv0_0,jV p0.lo,jV p0.hi],.slice pA1 p1.length pc1] w (wCX w [] U (fun U_ L_ v=>∃ (A0:Option Addr) (c0:Nat),v=.slice A0 r.length c0/\L_=[.row A0 c0 3 1 (nA KL.encI r)])):=by
 unfold wAR at hm
 refine Gv.of Tryz.func100 Z Tryz.ntmps100 Tryz.results100 Z (sR (.fx 0 (.fl 1 (.nil)) .stop) Z ?_)
 let B0:List Value:=[pv0_0,jV p0.lo,jV p0.hi]
 refine OKS.box (cs:=B0) rfl rfl rfl rfl rfl rfl (by rfl) hS ?_
 intro W1 b2 hS3
 refine oA Z Z (eN (sR fL1 Z (oA Z Z (eN (zD (sR fL3 Z (oM Z Z (oR Z (zk Z Z zN) (oM Z Z (eN (zV (bnK hm fun y27 hf24 hm23=>?_))))))))))))
 have q:=wBR hf24
 obtain ⟨hle25,hf26⟩:=q
 replace hle25:=zG hle25
 refine CK.forN' (fun k22 l18 σ_ w_=>∃ (U_:PHeap) (A19:Option Addr) (c20:Nat),σ_ 10=jV (↑k22:Int)/\σ_ 2=.pointer (some ⟨b2,0,none⟩)/\σ_ 5=.slice A19 l18.length c20/\σ_ 8=.slice pA1 p1.length pc1/\σ_ 9=jV (↑p1.length:Int)/\PHeap.Le U U_/\sW w U U_ [.blk b2 160 B0,.row A19 c20 3 1 (nA KL.encI l18)] w_) hf26 ?_ ?_ ?_
 ·have hS28:=hS3.nilrow 3 1
  exact ⟨U,none,0,rfl,rfl,rfl,rfl,rfl,(zP _),(hS28.pick [1,0] _ (by decide) rfl)⟩
 ·rintro k22 l18 xx32 σ30 W31 hk35 ⟨U37,A19,c20,fi36,f40,f41,f42,f43,le38,hS39⟩ hx33
  have c44:Hid ((↑k22:Int) < (↑p1.length:Int)):=zG (wBf hk35)
  replace hk35:=zG hk35
  have hi45:Hid (w64 ((↑k22:Int) + 1)=(↑(k22 + 1):Int)):=zG (by have h1:=hle25.out;have h2:=c44.out;rw [wAY] <;> omega)
  refine sR fL1 Z (oR Z (zQ Z fi36 f43) (eN (zD (cT Z c44 (kN (zD (zV (sR (.fl 0 (.fl 1 (.fx 2 (.fx 3 (.nil) .stop) .stop))) Z (bnK hx33 fun x46 h47 hm48=>?_)))))))))
  have h49:=ha1.le le38
  have q:=h49.el (fun _=>rfl) (wBA h47)
  obtain ⟨b50,off51,hA52,hC53⟩:=q
  refine oR Z (ZR Z f42 hA52 fi36 zN zy (wDX h47)) (oL Z (hS39.ldCA (f:=0) hC53 Z Z Tryz.isAgg62 zy (us:=[jV x46.Bib,jV x46.Nation,jV x46.Rank]) Z Z) (ZI (cs:=[jV 0,jV 0,jV 0]) Z Z Z Z Z Tryz.zeroValue62 Z hS39 ?_))
  intro W54 b55 hS56
  let B1:List Value:=[jV x46.Bib,jV x46.Nation,jV x46.Rank]
  refine ZD (j:=0) (vs:=B1) Z Z Z Z hS56 Z Z Z Z zy (zH Z) Z Z Z ?_
  intro W58 hS59
  let B2:Res:=.row A19 c20 3 1 (nA KL.encI l18)
  have hS60:sW w U U37 [.blk b55 62 B1,.blk b2 160 B0,B2] W58:=hS59
  refine eN (rR (wGr (.fx 4 (.fx 5 (.fx 6 (.fl 7 (.nil)) .stop) .stop) .stop)) Z (oM Z f41 (oR Z (ZA Z f40 Tryz.runUnderlying160 Z Tryz.sizeOf158) (oL Z (hS60.ldB (j:=1) Z Z Z Tryz.isAgg158 (v:=pv0_0) Z) (oL Z (hS60.ldBA (j:=0) Z Z Z Tryz.isAgg62 zy (vs:=B1) Z Z) (bnK hm48 fun x61 h62 hm63=>?_))))))
  have h70:=ha0.le le38
  refine OKS.callV (a:=x46) Z Z Z Z Z Z (zB Z zR) hS60 h70 Z h62 ?_
  rintro U64 L65 v66 W67 le68 hS69 ⟨rfl,rfl⟩
  have hS71:sW w U U64 [.blk b55 62 B1,.blk b2 160 B0,B2] W67:=hS69
  refine ZN (pv:=[(0,jV x61)]) (zs:=[jV 0]) (cs:=[jV x61]) Z Z Z Z Z (wAg Z wBj) zC zA zz Z Z Z Z Z hS71 ?_
  intro W72 b73 hS74
  let B3:Res:=.row (some ⟨b73,0,none⟩) 1 3 1 (nA KL.encI [x61])
  have hS76:sW w U U64 [B3,.blk b55 62 B1,.blk b2 160 B0,B2] W72:=hS74
  refine bnK hm63 fun x77 h78 hm79=>OKS.append (j:=3) (enc:=KL.encI) (xs:=l18) (ys:=[x61]) (zs:=x77) rfl rfl rfl rfl rfl ZM wHU rfl rfl rfl rfl rfl rfl hS76 rfl rfl rfl (hS76.srcR (j:=0) rfl (by decide) (wAD (f:=KL.encI) (sz:=1) (fun _=>rfl) [x61])) (fun _=>rfl) (fun _=>rfl) h78 rfl ?_
  intro A80 c81 W82 hS83
  have hS84:sW w U U64 [B3,.blk b55 62 B1,.blk b2 160 B0,.row A80 c81 3 1 (nA KL.encI x77)] W82:=hS83
  refine oA Z Z (zm (zW (zE (rR fL2 Z (oR Z (zn (zZ Z fi36 Z) (congrArg (jV) hi45.out)) (oM Z Z (zm ?_)))))))
  cases hm79
  exact zE ⟨rfl,⟨U64,A80,c81,rfl,f40,rfl,f42,f43,(le38.trans le68),(hS84.pick [2,3] _ (by decide) rfl)⟩⟩
 ·rintro σ88 W89 ⟨U97,A95,c96,fi91,f100,f101,f102,f103,le98,hS99⟩
  have c104:Hid (¬ ((↑(((↑p1.length:Int):Int) - 0).toNat:Int) < (↑p1.length:Int))):=zG (wBI)
  refine sR fL1 Z (oR Z (zQ Z fi91 f103) (eN (zD (cF Z c104 (ZB (zd (zd (zq (zE (sR fL2 Z (oM Z f101 (oA Z Z (eN (zM ?_))))))))))))))
  have hE:=nB hm23;first | subst r | cases hE
  exact ⟨rfl,_,(zl rfl),U97,_,(hS99.pick [1] _ (by decide) rfl),A95,c96,rfl,rfl⟩
end Go.Proofs.YtghaibkggdecnaaGreat
namespace Go.Proofs.YtghaibkggdecnaaGreat
open Go.KL
set_option maxHeartbeats 4000000
theorem wCO (p0:Int) (p1:wAE) (pb1:Nat) (pv1_0:Value) (w:World) (U:PHeap) (hS:St0 w U []) (ha0:Cl U pb1 0 [pv1_0,jV p1.lo,jV p1.hi]) (ha1:FnOK Tryz.prog U pv1_0 wFk wFl p1.of) {r:Bool} (hm:wAQ p0 p1=some r):Gv Tryz.prog 101 [jV p0,.pointer (some ⟨pb1,0,none⟩)] w (wCX w [] U (fun U_ L_ v=>v=.bool r/\L_=[])):=by
 unfold wAQ at hm
 refine Gv.of Tryz.func101 Z Tryz.ntmps101 Tryz.results101 Z (sR fL1 Z (oA Z Z (eN (sR (wJt (.fx 5 (.fl 6 (.nil)) .stop)) Z (oM Z Z (oR Z (ZA Z Z Tryz.runUnderlying160 Z zA) (oL Z (hS.ldC (f:=1) ha0 (v:=jV p1.lo) Z Z zI Z) (oR Z (ZA Z Z Tryz.runUnderlying160 Z zA) (oL Z (hS.ldC (f:=2) ha0 (v:=jV p1.hi) Z Z zI Z) (bnK hm fun x1 h2 hm3=>zL 0 Z Z Z Z (zK Z Z Tryz.call86 (zB Z (zB Z (zB Z zR))) Z) hS (fun hs=>wDV p0 p1.lo p1.hi w U hs h2) (.inr Z) ?_))))))))))
 rintro U4 L5 v6 W7 le8 hS9 ⟨rfl,rfl⟩
 have hS10:sW w U U4 [] W7:=hS9
 refine oA Z Z (eN (zM ?_))
 have hE:=nB hm3;first | subst r | cases hE
 exact ⟨Z,_,(zl Z),U4,_,hS10,Z,Z⟩
theorem wBm (p0:List Int) (pA0:Option Addr) (pc0:Nat) (p1:(Int->Option Bool)) (pv1:Value) (w:World) (U:PHeap) (hS:St0 w U []) (ha0:Sl U 1 pA0 pc0 p0.length (nA KL.encI p0)) (ha1:FnOK Tryz.prog U pv1 wHS wHT p1) {r:Bool} (hm:wAf p0 p1=some r):Gv Tryz.prog 99 [.slice pA0 p0.length pc0,pv1] w (wCX w [] U (fun U_ L_ v=>v=.bool r/\L_=[])):=by
 unfold wAf at hm
 refine Gv.of Tryz.func99 Z Tryz.ntmps99 Tryz.results99 Z (sR fL1 Z (oA Z Z (eN (zD (sR fL3 Z (oM Z Z (oR Z (zk Z Z zC) (oM Z Z (eN (zV ?_))))))))))
 have q:=wDE hm
 obtain ⟨r3,hX4⟩:=q
 have q:=wDD hX4
 obtain ⟨hle5,hf6⟩:=q
 replace hle5:=zG hle5
 refine CK.forN (fun k2 _ σ_ w_=>∃ (U_:PHeap),σ_ 9=jV (↑k2:Int)/\σ_ 1=pv1/\σ_ 7=.slice pA0 p0.length pc0/\σ_ 8=jV (↑p0.length:Int)/\PHeap.Le U U_/\sW w U U_ [] w_) hf6 ?_ ?_ ?_
 ·exact ⟨U,Z,Z,Z,Z,(zP _),hS⟩
 ·rintro k2 ⟨⟩ xx9 σ7 W8 hk12 ⟨U14,fi13,f17,f18,f19,le15,hS16⟩ hx10 hb11
  try dsimp only at hx10
  have c20:Hid ((↑k2:Int) < (↑p0.length:Int)):=zG (wBf hk12)
  replace hk12:=zG hk12
  have hi21:Hid (w64 ((↑k2:Int) + 1)=(↑(k2 + 1):Int)):=zG (by have h1:=hle5.out;have h2:=c20.out;rw [wAY] <;> omega)
  refine sR fL1 Z (oR Z (zQ Z fi13 f19) (eN (zD (cT Z c20 (kN (zD (zV (sR fL3 Z (bnK hx10 fun x22 h23 hm24=>?_)))))))))
  have h25:=ha0.le le15
  have q:=h25.el (fun _=>rfl) (wBA h23)
  obtain ⟨b26,off27,hA28,hC29⟩:=q
  refine oR Z (ZR Z f18 hA28 fi13 zC zA (wDX h23)) (oL Z (hS16.ldC (f:=0) hC29 (v:=jV x22) Z Z zI Z) (oA Z Z (eN (sR (.fl 0 (.fl 1 (.fx 2 (.fl 3 (.nil)) .stop))) Z (oM Z f17 (oM Z Z (bnK hm24 fun x30 h31 hm32=>?_)))))))
  have h39:=ha1.le le15
  refine OKS.callV (a:=x22) Z Z Z Z Z Z (zB Z zR) hS16 h39 Z h31 ?_
  rintro U33 L34 v35 W36 le37 hS38 ⟨rfl,rfl⟩
  have hS40:sW w U U33 [] W36:=hS38
  refine oR Z (ZU Z Z) (eN (ifc hm32 ?_ ?_))
  ·intro c41 hm42
   refine zi (nC c41.out) (zw (zW (zE (rR fL2 Z (oR Z (zn (zZ Z fi13 Z) (congrArg (jV) hi21.out)) (oM Z Z (zm ?_)))))))
   obtain rfl:=nB hm42
   exact zE ⟨Z,_,Z,⟨U33,Z,f17,f18,f19,(le15.trans le37),hS40⟩⟩
  ·intro c41 hm43
   refine zf (nF (c41.out)) (sR fL1 Z (oA Z Z (eN (zM (zY (zF ?_))))))
   have q:=wBD hm43
   obtain ⟨v44,hm45,e46⟩:=q
   obtain rfl:=wCC hm hX4 (hb11 v44 e46)
   refine zF (zY (zF ?_))
   have hE:=nB hm45;first | subst r | cases hE
   exact ⟨Z,_,(zl Z),U33,_,hS40,Z,Z⟩
 ·rintro ⟨⟩ σ47 W48 ⟨U51,fi50,f54,f55,f56,le52,hS53⟩ hb49
  have hm57:=wEZ hm hX4 hb49
  try dsimp only at hm57
  have c58:Hid (¬ ((↑(((↑p0.length:Int):Int) - 0).toNat:Int) < (↑p0.length:Int))):=zG (wBI)
  refine sR fL1 Z (oR Z (zQ Z fi50 f56) (eN (zD (cF Z c58 (ZB (zd (zd (zq (zE (sR fL1 Z (oA Z Z (eN (zM ?_)))))))))))))
  have hE:=nB hm57;first | subst r | cases hE
  exact ⟨Z,_,(zl Z),U51,_,hS53,Z,Z⟩
theorem wCq (p0:List Int) (pA0:Option Addr) (pc0:Nat) (w:World) (U:PHeap) (hS:St0 w U []) (ha0:Sl U 1 pA0 pc0 p0.length (nA KL.encI p0)) {r:Bool} (hm:wBN p0=some r):Gv Tryz.prog 87 [.slice pA0 p0.length pc0] w (wCX w [] U (fun U_ L_ v=>v=.bool r/\L_=[])):=by
 unfold wBN at hm
 refine Gv.of Tryz.func87 Z Tryz.ntmps87 Tryz.results87 Z (sR fL1 Z (oA Z Z (eN (sR (.fx 0 (.fl 1 (.nil)) .stop) Z (OKS.makeMap Z Z Z Z Z hS ?_)))))
 intro W1 b2 hS3
 have hr4:=MpR.nil wLg wMs
 refine oA Z Z (eN (zD (sR fL3 Z (oM Z Z (oR Z (zk Z Z zC) (oM Z Z (eN (zV ?_))))))))
 have q:=wDE hm
 obtain ⟨r21,hX22⟩:=q
 have q:=wDD hX22
 obtain ⟨hle23,hf24⟩:=q
 replace hle23:=zG hle23
 refine CK.forN (fun k20 l17 σ_ w_=>∃ (U_:PHeap) (es18:Array MapEntry) (ck19:Nat),σ_ 9=jV (↑k20:Int)/\σ_ 3=.map (some b2)/\σ_ 7=.slice pA0 p0.length pc0/\σ_ 8=jV (↑p0.length:Int)/\PHeap.Le U U_/\sW w U U_ [.obj b2 (.map es18 ck19)] w_/\MpR es18 wLg wMs l17) hf24 ?_ ?_ ?_
 ·exact ⟨U,#[],0,Z,Z,Z,Z,(zP _),hS3,hr4⟩
 ·rintro k20 l17 xx27 σ25 W26 hk30 ⟨U32,es18,ck19,fi31,f35,f36,f37,le33,hS34,h38⟩ hx28 hb29
  have c39:Hid ((↑k20:Int) < (↑p0.length:Int)):=zG (wBf hk30)
  replace hk30:=zG hk30
  have hi40:Hid (w64 ((↑k20:Int) + 1)=(↑(k20 + 1):Int)):=zG (by have h1:=hle23.out;have h2:=c39.out;rw [wAY] <;> omega)
  refine sR fL1 Z (oR Z (zQ Z fi31 f37) (eN (zD (cT Z c39 (kN (zD (zV (sR fL3 Z (bnK hx28 fun x41 h42 hm43=>?_)))))))))
  have h44:=ha0.le le33
  have q:=h44.el (fun _=>rfl) (wBA h42)
  obtain ⟨b45,off46,hA47,hC48⟩:=q
  refine oR Z (ZR Z f36 hA47 fi31 zC zA (wDX h42)) (oL Z (hS34.ldC (f:=0) hC48 (v:=jV x41) Z Z zI Z) (oA Z Z (eN (zD (sR fL3 Z (oM Z f35 (oM Z Z (oL Z (hS34.lookup1 (j:=0) (mk:=wLg) (mv:=wMs) (a:=x41) (z:=false) Z Z Z Z (wCg Tryz.runUnderlying180) wLi Tryz.zeroValue4 h38) (eN (ifc hm43 ?_ ?_))))))))))
  ·intro c49 hm50
   refine zf (congrArg nD c49.out) (sR fL1 Z (oA Z Z (eN (zM (zF (zY (zF ?_)))))))
   have q:=wBD hm50
   obtain ⟨v51,hm52,e53⟩:=q
   obtain rfl:=wCC hm hX22 (hb29 v51 e53)
   refine zF (zY (zF ?_))
   have hE:=nB hm52;first | subst r | cases hE
   exact ⟨rfl,_,(zl rfl),U32,_,(hS34.pick [] _ (by decide) rfl),rfl,rfl⟩
  ·intro c49 hm54
   refine zi (congrArg nD (nE.2 c49.out)) (kN (rR (.fl 0 (.fl 1 (.fx 2 (.nil) .stop))) rfl (zJ rfl rfl rfl rfl rfl f35 (zJ rfl rfl rfl rfl rfl rfl (OKS.mapPut (x:=.tmp 16) (y:=.tmp 17) (j:=0) (mk:=wLg) (mv:=wMs) (a:=x41) (v:=true) rfl rfl rfl (by first | exact .inl rfl | exact .inr rfl) hS34 rfl rfl rfl rfl (wCg Tryz.runUnderlying180) wLi h38 rfl ?_)))))
   intro es55 ck56 W57 hr58 hS59
   have hS60:sW w U U32 [.obj b2 (.map es55 ck56)] W57:=hS59
   refine zm (zW (zE (rR fL2 Z (oR Z (zn (zZ Z fi31 Z) (congrArg (jV) hi40.out)) (oM Z Z (zm ?_))))))
   obtain rfl:=nB hm54
   exact zE ⟨Z,_,Z,⟨U32,es55,ck56,Z,f35,f36,f37,le33,hS60,hr58⟩⟩
 ·rintro y68 σ64 W65 ⟨U71,e69,c70,fi67,f74,f75,f76,le72,hS73,h77⟩ hb66
  have hm78:=wEZ hm hX22 hb66
  have c79:Hid (¬ ((↑(((↑p0.length:Int):Int) - 0).toNat:Int) < (↑p0.length:Int))):=zG (wBI)
  refine sR fL1 Z (oR Z (zQ Z fi67 f76) (eN (zD (cF Z c79 (ZB (zd (zd (zq (zE (sR fL1 Z (oA Z Z (eN (zM ?_)))))))))))))
  have hE:=nB hm78;first | subst r | cases hE
  exact ⟨rfl,_,(zl rfl),U71,_,(hS73.pick [] _ (by decide) rfl),rfl,rfl⟩
theorem wCI (p0:List wAA) (pA0:Option Addr) (pc0:Nat) (w:World) (U:PHeap) (hS:St0 w U []) (ha0:Sl U 3 pA0 pc0 p0.length (nA wAG p0)) {r:Int} (hm:wAm p0=some r):Gv Tryz.prog 41 [.slice pA0 p0.length pc0] w (wCX w [] U (fun U_ L_ v=>v=jV r/\L_=[])):=by
 unfold wAm at hm
 refine Gv.of Tryz.func41 Z Tryz.ntmps41 Tryz.results41 Z (sR fL1 Z (oA Z Z (eN (zD (sR (.fl 0 (.fl 1 (.fx 2 (.fl 3 (.nil)) .stop))) Z (oM Z Z (oR Z (zk Z Z zN) (bnK hm fun x1 h2 hm3=>zL 0 Z Z Z Z (zK Z Z Tryz.call86 (zB Z (zB Z (zB Z zR))) Z) hS (fun hs=>wDV (↑p0.length:Int) 1 60 w U hs h2) (.inr Z) ?_))))))))
 rintro U4 L5 v6 W7 le8 hS9 ⟨rfl,rfl⟩
 have hS10:sW w U U4 [] W7:=hS9
 refine oR Z (ZU Z Z) (eN (ifc hm3 ?_ ?_))
 ·intro c11 hm12
  refine zi (nC c11.out) (kN (sR (.fx 0 (.fx 1 (.fx 2 (.nil) .stop) .stop) .stop) Z ?_))
  have q:=bnd hm12
  obtain ⟨⟨⟩,h13,hm14⟩:=q
  try dsimp only at hm14
  refine zL 0 Z Z Z Z (zK Z Z Tryz.call98 zR Z) hS10 (fun hs=>wFc W7 U4 hs h13) (.inr Z) ?_
  rintro U15 L16 v17 W18 le19 hS20 ⟨rfl,rfl⟩
  have hS21:sW w U U15 [] W18:=hS20
  refine ZI (cs:=[.nilFunc,jV 0,jV 0,.nilFunc,jV 0,jV 0,.nilFunc,jV 0,jV 0]) Z Z Z Z Z Tryz.zeroValue161 Z hS21 ?_
  intro W22 b23 hS24
  let B0:List Value:=[.func (.func 142) #[] #[],jV 1,jV 999,.func (.func 143) #[] #[],jV 1,jV 9999,.func (.func 144) #[] #[],jV 0,jV 30]
  refine ZD (j:=0) (vs:=B0) Z Z Z Z hS24 Z Z Z Z Tryz.sizeOf161 (zH Z) Z Z Z ?_
  intro W26 hS27
  have hS28:sW w U U15 [.blk b23 161 B0] W26:=hS27
  refine eN (zD (sR fL2 rfl (ZC rfl rfl rfl rfl (hS28.ldBA (j:=0) rfl rfl rfl Tryz.isAgg161 Tryz.sizeOf161 (vs:=B0) rfl rfl) rfl (zJ rfl rfl rfl rfl rfl rfl (eN (zV (CK.unroll 4 (CKR.succ (sR fL1 rfl (zU rfl rfl rfl rfl (fun _=>zQ rfl rfl rfl) (eN (zD (zf (ZE (by decide)) (kN (zD (zV (sR (.fl 0 (.fx 1 (.fx 2 (.nil) .stop) .stop)) rfl (zU rfl rfl rfl rfl (fun _=>(Runs.ixA (i:=0) rfl rfl rfl ZQ zj (by decide) (by decide) (wDR ZJ zj rfl))) ?_))))))))))))))))))
  let B1:List Value:=[.nilFunc,jV 0,jV 0]
  refine ZI (cs:=B1) Z Z Z Z Z ZH Z hS28 ?_
  intro W29 b30 hS31
  let B2:List Value:=[.func (.func 142) #[] #[],jV 1,jV 999]
  refine ZD (j:=0) (vs:=B2) Z Z Z Z hS31 Z Z Z Z zj (zH Z) Z Z Z ?_
  intro W33 hS34
  have hS35:sW w U U15 [.blk b30 160 B2,.blk b23 161 B0] W33:=hS34
  refine eN (sR (.fl 0 (.fl 1 (.fx 2 (.fl 3 (.fx 4 (.fl 5 (.nil)) .stop)) .stop))) Z (oL Z (hS35.ldBA (j:=0) Z Z Z ZJ zj (vs:=B2) Z Z) (oM Z Z ?_)))
  have hF36:FnOK Tryz.prog U15 (.func (.func 142) #[] #[]) wFk wFl wAJ:=⟨142,[],[],rfl,Tryz.call142,fun U1 w1 x y vs le hs ha hm=>by obtain rfl:=ha;exact wBx x w1 U1 hs  hm⟩
  have h37:=ha0.le le8
  have h38:=h37.le le19
  refine bnK hm14 fun x39 h40 hm41=>zL 0 Z Z Z Z (zK Z Z Tryz.call100 (zB Z (zB Z zR)) Z) hS35 (fun hs=>wBC (⟨wAJ,1,999⟩:wAE) (.func (.func 142) #[] #[]) p0 pA0 pc0 W33 U15 hs hF36 h38 h40) (.inr Z) ?_
  rintro U42 L43 v44 W45 le46 hS47 ⟨A48,c49,rfl,rfl⟩
  let B3:Res:=.row A48 c49 3 1 (nA KL.encI x39)
  have hS51:sW w U U42 [B3,.blk b30 160 B2,.blk b23 161 B0] W45:=hS47
  have q:=hS51.freeze (k:=1) rfl
  obtain ⟨U52,le53,hC54,hS55⟩:=q
  replace hC54:=Cl.of hC54
  have hS56:sW w U U52 [B3,.blk b23 161 B0] W45:=hS55
  replace hC54:Cl U52 b30 0 B2:=hC54
  refine oR Z (Runs.mkf Z zR (zB Z zR)) ?_
  have q:=hS56.freezeR (k:=0) (n:=x39.length) rfl (wAD (f:=KL.encI) (sz:=1) (fun _=>rfl) x39) (by decide)
  obtain ⟨U57,le58,hs59,hS60⟩:=q
  have hS61:sW w U U57 [.blk b23 161 B0] W45:=hS60
  have h62:=hC54.le le58
  have hF63:FnOK Tryz.prog U57 (.func (.func 142) #[] #[]) wFk wFl wAJ:=⟨142,[],[],rfl,Tryz.call142,fun U1 w1 x y vs le hs ha hm=>by obtain rfl:=ha;exact wBx x w1 U1 hs  hm⟩
  have hF64:FnOK Tryz.prog U57 (.func (.func 101) #[] #[.pointer (some ⟨b30,0,none⟩)]) wHS wHT (fun x=>wAQ x (⟨wAJ,1,999⟩:wAE)):=⟨101,[],[.pointer (some ⟨b30,0,none⟩)],rfl,Tryz.call101,fun U1 w1 x y vs le hs ha hm=>by obtain rfl:=ha;exact wCO x (⟨wAJ,1,999⟩:wAE) b30 (.func (.func 142) #[] #[]) w1 U1 hs (h62.le le) (hF63.le le) hm⟩
  refine bnK hm41 fun x65 h66 hm67=>zL 0 Z Z Z Z (zK Z Z Tryz.call99 (zB Z (zB Z zR)) Z) hS61 (fun hs=>wBm x39 A48 c49 (fun x=>wAQ x (⟨wAJ,1,999⟩:wAE)) (.func (.func 101) #[] #[.pointer (some ⟨b30,0,none⟩)]) W45 U57 hs hs59 hF64 h66) (.inr Z) ?_
  rintro U68 L69 v70 W71 le72 hS73 ⟨rfl,rfl⟩
  have hS74:sW w U U68 [.blk b23 161 B0] W71:=hS73
  refine oR Z (ZU Z Z) (eN (ifc hm67 ?_ ?_))
  ·intro c75 hm76
   refine zi (nC c75.out) (zw (zW (zE (rR fL2 rfl (zU rfl rfl rfl rfl (fun _=>zn (zZ rfl rfl rfl) (congrArg (jV) (show w64 (0 + 1)=1 by decide))) (zJ rfl rfl rfl rfl rfl rfl (eN (CKR.succ (sR fL1 rfl (zU rfl rfl rfl rfl (fun _=>zQ rfl rfl rfl) (eN (zD (zf (ZE (by decide)) (kN (zD (zV (sR (.fl 0 (.fx 1 (.fx 2 (.nil) .stop) .stop)) rfl (zU rfl rfl rfl rfl (fun _=>(Runs.ixA (i:=1) rfl rfl rfl ZQ zj (by decide) (by decide) (wDR ZJ zj rfl))) (ZI (cs:=B1) rfl rfl rfl rfl rfl ZH rfl hS74 ?_)))))))))))))))))))
   intro W77 b78 hS79
   let B4:List Value:=[.func (.func 143) #[] #[],jV 1,jV 9999]
   refine ZD (j:=0) (vs:=B4) Z Z Z Z hS79 Z Z Z Z zj (zH Z) Z Z Z ?_
   intro W81 hS82
   have hS83:sW w U U68 [.blk b78 160 B4,.blk b23 161 B0] W81:=hS82
   refine eN (sR (.fl 0 (.fl 1 (.fx 2 (.fl 3 (.fx 4 (.fl 5 (.nil)) .stop)) .stop))) Z (oL Z (hS83.ldBA (j:=0) Z Z Z ZJ zj (vs:=B4) Z Z) (oM Z Z ?_)))
   have hF84:FnOK Tryz.prog U68 (.func (.func 143) #[] #[]) wFk wFl wAK:=⟨143,[],[],rfl,Tryz.call143,fun U1 w1 x y vs le hs ha hm=>by obtain rfl:=ha;exact wBy x w1 U1 hs  hm⟩
   have h85:=h38.le le46
   have h86:=h85.le le53
   have h87:=h86.le le58
   have h88:=h87.le le72
   refine bnK hm76 fun x89 h90 hm91=>zL 0 Z Z Z Z (zK Z Z Tryz.call100 (zB Z (zB Z zR)) Z) hS83 (fun hs=>wBC (⟨wAK,1,9999⟩:wAE) (.func (.func 143) #[] #[]) p0 pA0 pc0 W81 U68 hs hF84 h88 h90) (.inr Z) ?_
   rintro U92 L93 v94 W95 le96 hS97 ⟨A98,c99,rfl,rfl⟩
   let B5:Res:=.row A98 c99 3 1 (nA KL.encI x89)
   have hS101:sW w U U92 [B5,.blk b78 160 B4,.blk b23 161 B0] W95:=hS97
   have q:=hS101.freeze (k:=1) rfl
   obtain ⟨U102,le103,hC104,hS105⟩:=q
   replace hC104:=Cl.of hC104
   have hS106:sW w U U102 [B5,.blk b23 161 B0] W95:=hS105
   replace hC104:Cl U102 b78 0 B4:=hC104
   refine oR Z (Runs.mkf Z zR (zB Z zR)) ?_
   have q:=hS106.freezeR (k:=0) (n:=x89.length) rfl (wAD (f:=KL.encI) (sz:=1) (fun _=>rfl) x89) (by decide)
   obtain ⟨U107,le108,hs109,hS110⟩:=q
   have hS111:sW w U U107 [.blk b23 161 B0] W95:=hS110
   have h112:=hC104.le le108
   have hF113:FnOK Tryz.prog U107 (.func (.func 143) #[] #[]) wFk wFl wAK:=⟨143,[],[],rfl,Tryz.call143,fun U1 w1 x y vs le hs ha hm=>by obtain rfl:=ha;exact wBy x w1 U1 hs  hm⟩
   have hF114:FnOK Tryz.prog U107 (.func (.func 101) #[] #[.pointer (some ⟨b78,0,none⟩)]) wHS wHT (fun x=>wAQ x (⟨wAK,1,9999⟩:wAE)):=⟨101,[],[.pointer (some ⟨b78,0,none⟩)],rfl,Tryz.call101,fun U1 w1 x y vs le hs ha hm=>by obtain rfl:=ha;exact wCO x (⟨wAK,1,9999⟩:wAE) b78 (.func (.func 143) #[] #[]) w1 U1 hs (h112.le le) (hF113.le le) hm⟩
   refine bnK hm91 fun x115 h116 hm117=>zL 0 Z Z Z Z (zK Z Z Tryz.call99 (zB Z (zB Z zR)) Z) hS111 (fun hs=>wBm x89 A98 c99 (fun x=>wAQ x (⟨wAK,1,9999⟩:wAE)) (.func (.func 101) #[] #[.pointer (some ⟨b78,0,none⟩)]) W95 U107 hs hs109 hF114 h116) (.inr Z) ?_
   rintro U118 L119 v120 W121 le122 hS123 ⟨rfl,rfl⟩
   have hS124:sW w U U118 [.blk b23 161 B0] W121:=hS123
   refine oR Z (ZU Z Z) (eN (ifc hm117 ?_ ?_))
   ·intro c125 hm126
    refine zi (nC c125.out) (zw (zW (zE (rR fL2 rfl (zU rfl rfl rfl rfl (fun _=>zn (zZ rfl rfl rfl) (congrArg (jV) (show w64 (1 + 1)=2 by decide))) (zJ rfl rfl rfl rfl rfl rfl (eN (CKR.succ (sR fL1 rfl (zU rfl rfl rfl rfl (fun _=>zQ rfl rfl rfl) (eN (zD (zf (ZE (by decide)) (kN (zD (zV (sR (.fl 0 (.fx 1 (.fx 2 (.nil) .stop) .stop)) rfl (zU rfl rfl rfl rfl (fun _=>(Runs.ixA (i:=2) rfl rfl rfl ZQ zj (by decide) (by decide) (wDR ZJ zj rfl))) (ZI (cs:=B1) rfl rfl rfl rfl rfl ZH rfl hS124 ?_)))))))))))))))))))
    intro W127 b128 hS129
    let B6:List Value:=[.func (.func 144) #[] #[],jV 0,jV 30]
    refine ZD (j:=0) (vs:=B6) Z Z Z Z hS129 Z Z Z Z zj (zH Z) Z Z Z ?_
    intro W131 hS132
    have hS133:sW w U U118 [.blk b128 160 B6,.blk b23 161 B0] W131:=hS132
    refine eN (sR (.fl 0 (.fl 1 (.fx 2 (.fl 3 (.fx 4 (.fl 5 (.nil)) .stop)) .stop))) Z (oL Z (hS133.ldBA (j:=0) Z Z Z ZJ zj (vs:=B6) Z Z) (oM Z Z ?_)))
    have hF134:FnOK Tryz.prog U118 (.func (.func 144) #[] #[]) wFk wFl wAP:=⟨144,[],[],rfl,Tryz.call144,fun U1 w1 x y vs le hs ha hm=>by obtain rfl:=ha;exact wCh x w1 U1 hs  hm⟩
    have h135:=h88.le le96
    have h136:=h135.le le103
    have h137:=h136.le le108
    have h138:=h137.le le122
    refine bnK hm126 fun x139 h140 hm141=>zL 0 Z Z Z Z (zK Z Z Tryz.call100 (zB Z (zB Z zR)) Z) hS133 (fun hs=>wBC (⟨wAP,0,30⟩:wAE) (.func (.func 144) #[] #[]) p0 pA0 pc0 W131 U118 hs hF134 h138 h140) (.inr Z) ?_
    rintro U142 L143 v144 W145 le146 hS147 ⟨A148,c149,rfl,rfl⟩
    let B7:Res:=.row A148 c149 3 1 (nA KL.encI x139)
    have hS151:sW w U U142 [B7,.blk b128 160 B6,.blk b23 161 B0] W145:=hS147
    have q:=hS151.freeze (k:=1) rfl
    obtain ⟨U152,le153,hC154,hS155⟩:=q
    replace hC154:=Cl.of hC154
    have hS156:sW w U U152 [B7,.blk b23 161 B0] W145:=hS155
    replace hC154:Cl U152 b128 0 B6:=hC154
    refine oR Z (Runs.mkf Z zR (zB Z zR)) ?_
    have q:=hS156.freezeR (k:=0) (n:=x139.length) rfl (wAD (f:=KL.encI) (sz:=1) (fun _=>rfl) x139) (by decide)
    obtain ⟨U157,le158,hs159,hS160⟩:=q
    have hS161:sW w U U157 [.blk b23 161 B0] W145:=hS160
    have h162:=hC154.le le158
    have hF163:FnOK Tryz.prog U157 (.func (.func 144) #[] #[]) wFk wFl wAP:=⟨144,[],[],rfl,Tryz.call144,fun U1 w1 x y vs le hs ha hm=>by obtain rfl:=ha;exact wCh x w1 U1 hs  hm⟩
    have hF164:FnOK Tryz.prog U157 (.func (.func 101) #[] #[.pointer (some ⟨b128,0,none⟩)]) wHS wHT (fun x=>wAQ x (⟨wAP,0,30⟩:wAE)):=⟨101,[],[.pointer (some ⟨b128,0,none⟩)],rfl,Tryz.call101,fun U1 w1 x y vs le hs ha hm=>by obtain rfl:=ha;exact wCO x (⟨wAP,0,30⟩:wAE) b128 (.func (.func 144) #[] #[]) w1 U1 hs (h162.le le) (hF163.le le) hm⟩
    refine bnK hm141 fun x165 h166 hm167=>zL 0 Z Z Z Z (zK Z Z Tryz.call99 (zB Z (zB Z zR)) Z) hS161 (fun hs=>wBm x139 A148 c149 (fun x=>wAQ x (⟨wAP,0,30⟩:wAE)) (.func (.func 101) #[] #[.pointer (some ⟨b128,0,none⟩)]) W145 U157 hs hs159 hF164 h166) (.inr Z) ?_
    rintro U168 L169 v170 W171 le172 hS173 ⟨rfl,rfl⟩
    have hS174:sW w U U168 [.blk b23 161 B0] W171:=hS173
    refine oR Z (ZU Z Z) (eN (ifc hm167 ?_ ?_))
    ·intro c175 hm176
     refine zi (nC c175.out) (zw (zW (zE (CK.fresh fun σ177 hσ178=>?_))))
     have f179:σ177 0=.slice pA0 p0.length pc0:=(hσ178 0).trans rfl
     have f180:σ177 3=.pointer (some ⟨b23,0,none⟩):=(hσ178 3).trans rfl
     have f181:σ177 13=.agg B0.toArray:=(hσ178 13).trans rfl
     have f182:σ177 14=jV 2:=(hσ178 14).trans rfl
     clear hσ178
     refine rR fL2 rfl (zU rfl rfl rfl rfl (fun _=>zn (zZ rfl f182 rfl) (congrArg (jV) (show w64 (2 + 1)=3 by decide))) (zJ rfl rfl rfl rfl rfl rfl (eN (CKR.succ (sR fL1 rfl (zU rfl rfl rfl rfl (fun _=>zQ rfl rfl rfl) (eN (zD (zi (zg (by decide)) (ZB (zd (zd (zq (zE (zD (sR fL3 rfl (zU rfl rfl rfl rfl (fun _=>Runs.slAh (k:=2) rfl f180 rfl ZQ zj (by decide)) (zU rfl rfl rfl rfl (fun _=>zk rfl rfl Tryz.runUnderlying164) (zJ rfl rfl rfl rfl rfl rfl (eN (zV (CK.unroll 3 (CKR.succ (sR fL1 rfl (zU rfl rfl rfl rfl (fun _=>zQ rfl rfl rfl) (eN (zD (zf (ZE (by decide)) (kN (zD (zV (sR (.fl 0 (.fl 1 (.fx 2 (.fx 3 (.nil) .stop) .stop))) rfl (zU rfl rfl rfl rfl (fun _=>zn (ZR (k:=0) rfl rfl rfl rfl Tryz.runUnderlying164 zj (by decide)) rfl) (ZC rfl rfl rfl rfl (hS174.ldBA (j:=0) rfl rfl rfl ZJ zj (vs:=B2) rfl rfl) rfl (ZI (cs:=B1) rfl rfl rfl rfl rfl ZH rfl hS174 ?_)))))))))))))))))))))))))))))))))))
     intro W183 b184 hS185
     refine ZD (j:=0) (vs:=B2) Z Z Z Z hS185 Z Z Z Z zj (zH Z) Z Z Z ?_
     intro W187 hS188
     have hS189:sW w U U168 [.blk b184 160 B2,.blk b23 161 B0] W187:=hS188
     refine eN (sR (.fl 0 (.fl 1 (.fx 2 (.fx 3 (.nil) .stop) .stop))) Z (oL Z (hS189.ldBA (j:=0) Z Z Z ZJ zj (vs:=B2) Z Z) (oM Z f179 ?_)))
     have hF190:FnOK Tryz.prog U168 (.func (.func 142) #[] #[]) wFk wFl wAJ:=⟨142,[],[],rfl,Tryz.call142,fun U1 w1 x y vs le hs ha hm=>by obtain rfl:=ha;exact wBx x w1 U1 hs  hm⟩
     have h191:=h138.le le146
     have h192:=h191.le le153
     have h193:=h192.le le158
     have h194:=h193.le le172
     refine bnK hm176 fun x195 h196 hm197=>zL 0 Z Z Z Z (zK Z Z Tryz.call100 (zB Z (zB Z zR)) Z) hS189 (fun hs=>wBC (⟨wAJ,1,999⟩:wAE) (.func (.func 142) #[] #[]) p0 pA0 pc0 W187 U168 hs hF190 h194 h196) (.inr Z) ?_
     rintro U198 L199 v200 W201 le202 hS203 ⟨A204,c205,rfl,rfl⟩
     have hS207:sW w U U198 [.row A204 c205 3 1 (nA KL.encI x195),.blk b184 160 B2,.blk b23 161 B0] W201:=hS203
     have q:=hS207.freezeR (k:=0) (n:=x195.length) rfl (wAD (f:=KL.encI) (sz:=1) (fun _=>rfl) x195) (by decide)
     obtain ⟨U208,le209,hs210,hS211⟩:=q
     have hS212:sW w U U208 [.blk b184 160 B2,.blk b23 161 B0] W201:=hS211
     refine bnK hm197 fun x213 h214 hm215=>zL 0 Z Z Z Z (zK Z Z Tryz.call87 (zB Z zR) Z) hS212 (fun hs=>wCq x195 A204 c205 W201 U208 hs hs210 h214) (.inr Z) ?_
     rintro U216 L217 v218 W219 le220 hS221 ⟨rfl,rfl⟩
     have hS222:sW w U U216 [.blk b184 160 B2,.blk b23 161 B0] W219:=hS221
     refine eN (ifc hm215 ?_ ?_)
     ·intro c223 hm224
      refine zf (congrArg nD c223.out) (sR fL1 Z (oA Z Z (eN (zM (zY (zF (zF (zY (zF ?_)))))))))
      cases hm224
      exact ⟨rfl,_,(zl rfl),U216,_,(hS222.pick [] _ (by decide) rfl),rfl,rfl⟩
     ·intro c223 hm225
      refine zi (congrArg nD (nE.2 c223.out)) (zw (zW (zE (rR fL2 rfl (zU rfl rfl rfl rfl (fun _=>zn (zZ rfl rfl rfl) (congrArg (jV) (show w64 (0 + 1)=1 by decide))) (zJ rfl rfl rfl rfl rfl rfl (eN (CKR.succ (sR fL1 rfl (zU rfl rfl rfl rfl (fun _=>zQ rfl rfl rfl) (eN (zD (zf (ZE (by decide)) (kN (zD (zV (sR (.fl 0 (.fl 1 (.fx 2 (.fx 3 (.nil) .stop) .stop))) rfl (zU rfl rfl rfl rfl (fun _=>zn (ZR (k:=1) rfl rfl rfl rfl Tryz.runUnderlying164 zj (by decide)) rfl) (ZC rfl rfl rfl rfl (hS222.ldBA (j:=1) rfl rfl rfl ZJ zj (vs:=B4) rfl rfl) rfl (ZI (cs:=B1) rfl rfl rfl rfl rfl ZH rfl hS222 ?_))))))))))))))))))))
      intro W226 b227 hS228
      refine ZD (j:=0) (vs:=B4) Z Z Z Z hS228 Z Z Z Z zj (zH Z) Z Z Z ?_
      intro W230 hS231
      have hS232:sW w U U216 [.blk b227 160 B4,.blk b184 160 B2,.blk b23 161 B0] W230:=hS231
      refine eN (sR (.fl 0 (.fl 1 (.fx 2 (.fx 3 (.nil) .stop) .stop))) Z (oL Z (hS232.ldBA (j:=0) Z Z Z ZJ zj (vs:=B4) Z Z) (oM Z f179 ?_)))
      have hF233:FnOK Tryz.prog U216 (.func (.func 143) #[] #[]) wFk wFl wAK:=⟨143,[],[],rfl,Tryz.call143,fun U1 w1 x y vs le hs ha hm=>by obtain rfl:=ha;exact wBy x w1 U1 hs  hm⟩
      have h234:=h194.le le202
      have h235:=h234.le le209
      have h236:=h235.le le220
      refine bnK hm225 fun x237 h238 hm239=>zL 0 Z Z Z Z (zK Z Z Tryz.call100 (zB Z (zB Z zR)) Z) hS232 (fun hs=>wBC (⟨wAK,1,9999⟩:wAE) (.func (.func 143) #[] #[]) p0 pA0 pc0 W230 U216 hs hF233 h236 h238) (.inr Z) ?_
      rintro U240 L241 v242 W243 le244 hS245 ⟨A246,c247,rfl,rfl⟩
      have hS249:sW w U U240 [.row A246 c247 3 1 (nA KL.encI x237),.blk b227 160 B4,.blk b184 160 B2,.blk b23 161 B0] W243:=hS245
      have q:=hS249.freezeR (k:=0) (n:=x237.length) rfl (wAD (f:=KL.encI) (sz:=1) (fun _=>rfl) x237) (by decide)
      obtain ⟨U250,le251,hs252,hS253⟩:=q
      have hS254:sW w U U250 [.blk b227 160 B4,.blk b184 160 B2,.blk b23 161 B0] W243:=hS253
      refine bnK hm239 fun x255 h256 hm257=>zL 0 Z Z Z Z (zK Z Z Tryz.call87 (zB Z zR) Z) hS254 (fun hs=>wCq x237 A246 c247 W243 U250 hs hs252 h256) (.inr Z) ?_
      rintro U258 L259 v260 W261 le262 hS263 ⟨rfl,rfl⟩
      have hS264:sW w U U258 [.blk b227 160 B4,.blk b184 160 B2,.blk b23 161 B0] W261:=hS263
      refine eN (ifc hm257 ?_ ?_)
      ·intro c265 hm266
       refine zf (congrArg nD c265.out) (sR fL1 Z (oA Z Z (eN (zM (zY (zF (zF (zY (zF ?_)))))))))
       cases hm266
       exact ⟨rfl,_,(zl rfl),U258,_,(hS264.pick [] _ (by decide) rfl),rfl,rfl⟩
      ·intro c265 hm267
       refine zi (congrArg nD (nE.2 c265.out)) (zw (zW (zE (rR fL2 rfl (zU rfl rfl rfl rfl (fun _=>zn (zZ rfl rfl rfl) (congrArg (jV) (show w64 (1 + 1)=2 by decide))) (zJ rfl rfl rfl rfl rfl rfl (eN (CKR.succ (sR fL1 rfl (zU rfl rfl rfl rfl (fun _=>zQ rfl rfl rfl) (eN (zD (zi (zg (by decide)) (ZB (zd (zd (zq (zE (sR fL1 rfl (ZS rfl rfl rfl rfl rfl rfl (eN (zM ?_))))))))))))))))))))))
       cases hm267
       exact ⟨rfl,_,(zl rfl),U258,_,(hS264.pick [] _ (by decide) rfl),rfl,rfl⟩
    ·intro c175 hm268
     refine zf (nF (c175.out)) (sR fL1 Z (oA Z Z (eN (zM (zY (zF (zF (zY (zF ?_)))))))))
     cases hm268
     exact ⟨rfl,_,(zl rfl),U168,_,(hS174.pick [] _ (by decide) rfl),rfl,rfl⟩
   ·intro c125 hm269
    refine zf (nF (c125.out)) (sR fL1 Z (oA Z Z (eN (zM (zY (zF (zF (zY (zF ?_)))))))))
    cases hm269
    exact ⟨rfl,_,(zl rfl),U118,_,(hS124.pick [] _ (by decide) rfl),rfl,rfl⟩
  ·intro c75 hm270
   refine zf (nF (c75.out)) (sR fL1 Z (oA Z Z (eN (zM (zY (zF (zF (zY (zF ?_)))))))))
   cases hm270
   exact ⟨rfl,_,(zl rfl),U68,_,(hS74.pick [] _ (by decide) rfl),rfl,rfl⟩
 ·intro c11 hm271
  refine zf (nF (c11.out)) (sR fL1 Z (oA Z Z (eN (zM (zF ?_)))))
  cases hm271
  exact ⟨Z,_,(zl Z),U4,_,hS10,Z,Z⟩
theorem wCP (p0:List wAA) (pA0:Option Addr) (pc0:Nat) (w:World) (U:PHeap) (hS:St0 w U []) (ha0:Sl U 3 pA0 pc0 p0.length (nA wAG p0)) {r:(Arr Int 31)} (hm:wAi p0=some r):Gv Tryz.prog 90 [.slice pA0 p0.length pc0] w (wCX w [] U (fun U_ L_ v=>v=.agg (nA KL.encI r.l).toArray/\L_=[])):=by
 unfold wAi at hm
 refine Gv.of Tryz.func90 Z Tryz.ntmps90 Tryz.results90 Z (sR (.fx 0 (.nil) .stop) Z (ZI (cs:=nA KL.encI (Arr.fill 31 0).l) Z Z Z Z Z Tryz.zeroValue141 Z hS ?_))
 intro W1 b2 hS3
 have hS5:sW w U U [.blk b2 141 (nA KL.encI (Arr.fill 31 0).l)] W1:=hS3
 refine eN (sR (.fx 0 (.nil) .stop) Z (ZI (cs:=nA KL.encI (Arr.fill 31 0).l) Z Z Z Z Z Tryz.zeroValue141 Z hS5 ?_))
 intro W6 b7 hS8
 have hS10:sW w U U [.blk b7 141 (nA KL.encI (Arr.fill 31 0).l),.blk b2 141 (nA KL.encI (Arr.fill 31 0).l)] W6:=hS8
 refine eN (zD (sR fL3 Z (oM Z Z (oR Z (zk Z Z zN) (oM Z Z (eN (zV (bnK hm fun y22 hf19 hm18=>?_))))))))
 have q:=wBR hf19
 obtain ⟨hle20,hf21⟩:=q
 replace hle20:=zG hle20
 refine CK.forN' (fun k17 a16 σ_ w_=>∃ (U_:PHeap),σ_ 8=jV (↑k17:Int)/\σ_ 2=.pointer (some ⟨b2,0,none⟩)/\σ_ 3=.pointer (some ⟨b7,0,none⟩)/\σ_ 6=.slice pA0 p0.length pc0/\σ_ 7=jV (↑p0.length:Int)/\PHeap.Le U U_/\sW w U U_ [.blk b7 141 (nA KL.encI a16.l),.blk b2 141 (nA KL.encI (Arr.fill 31 0).l)] w_) hf21 ?_ ?_ ?_
 ·exact ⟨U,Z,Z,Z,Z,Z,(zP _),hS10⟩
 ·rintro k17 a16 xx25 σ23 W24 hk28 ⟨U30,fi29,f33,f34,f35,f36,le31,hS32⟩ hx26
  have c37:Hid ((↑k17:Int) < (↑p0.length:Int)):=zG (wBf hk28)
  replace hk28:=zG hk28
  have hi38:Hid (w64 ((↑k17:Int) + 1)=(↑(k17 + 1):Int)):=zG (by have h1:=hle20.out;have h2:=c37.out;rw [wAY] <;> omega)
  refine sR fL1 Z (oR Z (zQ Z fi29 f36) (eN (zD (cT Z c37 (kN (zD (zV (sR (.fl 0 (.fl 1 (.fx 2 (.fx 3 (.nil) .stop) .stop))) Z (bnK hx26 fun x39 h40 hm41=>?_)))))))))
  have h42:=ha0.le le31
  have q:=h42.el (fun _=>rfl) (wBA h40)
  obtain ⟨b43,off44,hA45,hC46⟩:=q
  refine oR Z (ZR Z f35 hA45 fi29 zN zy (wDX h40)) (oL Z (hS32.ldCA (f:=0) hC46 Z Z Tryz.isAgg62 zy (us:=[jV x39.Bib,jV x39.Nation,jV x39.Rank]) Z Z) (ZI (cs:=[jV 0,jV 0,jV 0]) Z Z Z Z Z Tryz.zeroValue62 Z hS32 ?_))
  intro W47 b48 hS49
  let B0:List Value:=[jV x39.Bib,jV x39.Nation,jV x39.Rank]
  refine ZD (j:=0) (vs:=B0) Z Z Z Z hS49 Z Z Z Z zy (zH Z) Z Z Z ?_
  intro W51 hS52
  have hS53:sW w U U30 [.blk b48 62 B0,.blk b7 141 (nA KL.encI a16.l),.blk b2 141 (nA KL.encI (Arr.fill 31 0).l)] W51:=hS52
  refine eN (rR (wQF (.fx 6 (.nil) .stop)) Z (oR Z (ZA Z Z zr Z zA) (oL Z (hS53.ldB (j:=0) Z Z Z zI (v:=jV x39.Nation) Z) (bnK hm41 fun _ h54 hm55=>oR Z (ZT Z f34 Z ze zA (wBa h54) (wBb h54)) ?_))))
  have hg56:=Arr.at_ a16 (k:=x39.Nation.toNat) (by have hz0:=wAq h54;omega)
  refine ZC rfl rfl rfl rfl (hS53.ldB (j:=1) rfl rfl rfl zI (wAZ (sz:=1) (fun _=>rfl) _ _ 0 _ hg56 (by first | omega | rfl | simp) rfl)) rfl (zU rfl rfl rfl rfl (fun _=>zZ rfl rfl rfl) (zU rfl rfl rfl rfl (fun _=>ZT rfl f34 rfl ze zA (wBa h54) (wBb h54)) ?_))
  have hg57:=Arr.at_ a16 (k:=x39.Nation.toNat) (by have hz0:=wAq h54;omega)
  refine ZD (j:=1) (vs:=[jV (w64 ((a16.get x39.Nation.toNat) + 1))]) (cs':=nA KL.encI (a16.set x39.Nation.toNat (w64 ((a16.get x39.Nation.toNat) + 1))).l) rfl rfl rfl rfl hS53 rfl rfl rfl rfl zA (by have hz0:=wAq h54;simp only [nO,nQ,nR,wAW (f:=KL.encI) (sz:=1) (N:=31) a16 (fun _=>rfl) rfl];omega) rfl (wDg (sz:=1) (fo:=0) (fun _=>rfl) _ _ _ _ hg57 (by first | omega | rfl | simp) (zH rfl) rfl) rfl ?_
  intro W58 hS59
  have hS60:sW w U U30 [.blk b48 62 B0,.blk b7 141 (nA KL.encI (a16.set x39.Nation.toNat (w64 ((a16.get x39.Nation.toNat) + 1))).l),.blk b2 141 (nA KL.encI (Arr.fill 31 0).l)] W58:=hS59
  refine zm (zW (zE (rR fL2 Z (oR Z (zn (zZ Z fi29 Z) (congrArg (jV) hi38.out)) (oM Z Z (zm ?_))))))
  cases hm55
  exact zE ⟨rfl,⟨U30,rfl,f33,f34,f35,f36,le31,(hS60.pick [1,2] _ (by decide) rfl)⟩⟩
 ·rintro σ62 W63 ⟨U67,fi65,f70,f71,f72,f73,le68,hS69⟩
  have c74:Hid (¬ ((↑(((↑p0.length:Int):Int) - 0).toNat:Int) < (↑p0.length:Int))):=zG (wBI)
  refine sR fL1 rfl (zU rfl rfl rfl rfl (fun _=>zQ rfl fi65 f73) (eN (zD (cF Z c74 (ZB (zd (zd (zq (zE (sR (.fl 0 (.fx 1 (.nil) .stop)) rfl (ZC rfl rfl rfl rfl (hS69.ldBA (j:=0) rfl rfl f71 Tryz.isAgg141 ZL (vs:=nA KL.encI y22.l) (wJN y22 (fun _=>rfl) rfl) (wAW y22 (fun _=>rfl) rfl)) rfl (ZD (j:=1) (vs:=nA KL.encI y22.l) rfl rfl rfl rfl hS69 rfl f70 rfl rfl (fun w=>by rw [wAW (f:=KL.encI) (sz:=1) (N:=31) y22 (fun _=>rfl) rfl];exact ZL w) (by rw [wAW (f:=KL.encI) (sz:=1) (N:=31) y22 (fun _=>rfl) rfl,wAW (f:=KL.encI) (sz:=1) (N:=31) (Arr.fill 31 0) (fun _=>rfl) rfl];exact zH rfl) (wDG (fun _=>rfl) _) (wGK _ _ (by rw [wAW (f:=KL.encI) (sz:=1) (N:=31) y22 (fun _=>rfl) rfl,wAW (f:=KL.encI) (sz:=1) (N:=31) (Arr.fill 31 0) (fun _=>rfl) rfl])) rfl ?_))))))))))))
  intro W75 hS76
  have hS77:sW w U U67 [.blk b7 141 (nA KL.encI y22.l),.blk b2 141 (nA KL.encI y22.l)] W75:=hS76
  refine eN (zM ?_)
  have hE:=nB hm18;first | subst r | cases hE
  exact ⟨rfl,_,(wNk (v:=.agg (nA KL.encI y22.l).toArray) ⟨⟨_,f70,(wNO Tryz.isAgg141 ZL (hS77.blkAt (k:=1) rfl) (wJN y22 (fun _=>rfl) rfl) (wAW y22 (fun _=>rfl) rfl))⟩,trivial⟩),U67,_,(hS77.pick [] _ (by decide) rfl),rfl,rfl⟩
theorem wDW (p0:List Int) (pA0:Option Addr) (pc0:Nat) (w:World) (U:PHeap) (hS:St0 w U []) (ha0:Sl U 1 pA0 pc0 p0.length (nA KL.encI p0)) {r:Int} (hm:wAu p0=some r):Gv Tryz.prog 131 [.slice pA0 p0.length pc0] w (wCX w [] U (fun U_ L_ v=>v=jV r/\L_=[])):=by
 unfold wAu at hm
 refine Gv.of Tryz.func131 Z Tryz.ntmps131 Tryz.results131 Z (sR fL1 Z (oA Z Z (eN (zD (sR fL3 Z (oM Z Z (oR Z (zk Z Z zC) (oR Z (zQ Z Z Z) (eN ?_)))))))))
 by_cases c1:(↑p0.length:Int) < 1
 ·have hm2:=hm;rw [if_pos c1] at hm2;replace c1:=zG c1
  refine cT Z c1 (rR (.fx 0 (.fx 1 (.nil) .stop) .stop) Z ?_)
  cases hm2
 ·have hm3:=hm;rw [if_neg c1] at hm3;replace c1:=zG c1
  refine cF Z c1 (kN (sR fL4 Z (oM Z Z (bnK hm3 fun x4 h5 hm6=>?_))))
  have q:=ha0.el (fun _=>rfl) (wBA h5)
  obtain ⟨b7,off8,hA9,hC10⟩:=q
  refine oR Z (ZR Z Z hA9 Z zC zA (wDX h5)) (oL Z (hS.ldC (f:=0) hC10 (v:=jV x4) Z Z zI Z) (oA Z Z (eN (zD (sR fL1 Z (oA Z Z (eN (zV (bnK hm6 fun y22 hf19 hm18=>?_)))))))))
  have q:=wBR hf19
  obtain ⟨hle20,hf21⟩:=q
  replace hle20:=zG hle20
  refine CK.forN' (fun k17 x16 σ_ w_=>∃ (U_:PHeap),σ_ 4=jV (1 + ↑k17:Int)/\σ_ 0=.slice pA0 p0.length pc0/\σ_ 3=jV x16/\PHeap.Le U U_/\sW w U U_ [] w_) hf21 ?_ ?_ ?_
  ·exact ⟨U,Z,Z,Z,(zP _),hS⟩
  ·rintro k17 x16 xx25 σ23 W24 hk28 ⟨U30,fi29,f33,f34,le31,hS32⟩ hx26
   have c35:Hid ((1 + ↑k17:Int) < (↑p0.length:Int)):=zG (wPF hk28)
   replace hk28:=zG hk28
   have hi36:Hid (w64 ((1 + ↑k17:Int) + 1)=(1 + ↑(k17 + 1):Int)):=zG (by have h1:=hle20.out;have h2:=c35.out;rw [wAY] <;> omega)
   refine zD (sR fL4 Z (oM Z fi29 (oM Z f33 (oR Z (zk Z Z zC) (oR Z (zQ Z Z Z) (eN (cT Z c35 (kN (zD (zV (rR fL7 Z (oM Z f34 (oM Z f33 (oM Z fi29 (bnK hx26 fun x37 h38 hm39=>?_)))))))))))))))
   have h40:=ha0.le le31
   have q:=h40.el (fun _=>rfl) (wBA h38)
   obtain ⟨b41,off42,hA43,hC44⟩:=q
   refine oR Z (ZG Z Z hA43 Z zC zA (wCR h38) (wCf h38)) (oL Z (hS32.ldC (f:=0) hC44 (v:=jV x37) Z Z zI Z) (oR Z (Runs.max Z Z Z) (oA Z Z (zm (zW (zE (rR fL3 Z (oM Z fi29 (oR Z (zn (zZ Z Z Z) (congrArg (jV) hi36.out)) (oA Z Z (zm ?_)))))))))))
   cases hm39
   exact zE ⟨Z,⟨U30,Z,f33,Z,le31,hS32⟩⟩
  ·rintro σ46 W47 ⟨U51,fi49,f54,f55,le52,hS53⟩
   have c56:Hid (¬ ((1 + ↑(((↑p0.length:Int):Int) - 1).toNat:Int) < (↑p0.length:Int))):=zG (wNL)
   refine zD (sR fL4 Z (oM Z fi49 (oM Z f54 (oR Z (zk Z Z zC) (oR Z (zQ Z Z Z) (eN (cF Z c56 (ZB (zd (zd (zq (zE (sR fL2 Z (oM Z f55 (oA Z Z (eN (zM ?_)))))))))))))))))
   have hE:=nB hm18;first | subst r | cases hE
   exact ⟨Z,_,(zl Z),U51,_,hS53,Z,Z⟩
end Go.Proofs.YtghaibkggdecnaaGreat
namespace Go.Proofs.YtghaibkggdecnaaGreat
open Go.KL
set_option maxHeartbeats 4000000
theorem wBn (p0:Arr Int 31) (w:World) (U:PHeap) (hS:St0 w U [])  {r:(List Int) × Int} (hm:wAN p0=some r):Gv Tryz.prog 91 [.agg (nA KL.encI p0.l).toArray] w (wCX w [] U (fun U_ L_ v=>∃ (A0:Option Addr) (c0:Nat),v=.tuple #[.slice A0 r.1.length c0,jV r.2]/\L_=[.row A0 c0 3 1 (nA KL.encI r.1)])):=by
 unfold wAN at hm
 refine Gv.of Tryz.func91 rfl Tryz.ntmps91 Tryz.results91 rfl (sR (.fx 0 (.fl 1 (.fl 2 (.nil))) .stop) rfl (OKS.box (cs:=nA KL.encI p0.l) rfl rfl rfl rfl rfl rfl (by rfl) hS ?_))
 intro W1 b2 hS3
 have hS5:sW w U U [.blk b2 141 (nA KL.encI p0.l)] W1:=hS3
 refine oA Z Z (oA Z Z (eN (sR (.fl 0 (.fx 1 (.fl 2 (.nil)) .stop)) Z (oR Z (Runs.slA Z Z ze zA) ?_))))
 have q:=St.freezeTA (a:=p0) (f:=KL.encI) (sz:=1) hS5 (k:=0) rfl (fun _=>rfl)
 obtain ⟨U7,le8,hs9,hS10,th6⟩:=q
 have hS11:sW w U U7 [] W1:=hS10
 refine bnK hm fun x12 h13 hm14=>zL 0 Z Z Z Z (zK Z Z Tryz.call131 (zB (slenA p0 Z) zR) Z) hS11 (fun hs=>wDW p0.l (some ⟨b2,0,none⟩) 31 W1 U7 hs hs9 h13) (.inr Z) ?_
 rintro U15 L16 v17 W18 le19 hS20 ⟨rfl,rfl⟩
 have hS21:sW w U U15 [] W18:=hS20
 have q:=th6 _ _ _ le19 hS21
 obtain ⟨U22,le23,hS24⟩:=q
 have hS25:sW w U U22 [.blk b2 141 (nA KL.encI p0.l)] W18:=hS24
 refine oA Z Z (eN (sR fL1 Z (oA Z Z (eN (zD (sR fL2 Z (oL Z (hS25.ldBA (j:=0) Z Z Z Tryz.isAgg141 ZL (vs:=nA KL.encI p0.l) (wJN p0 (fun _=>Z) Z) (wAW p0 (fun _=>Z) Z)) (oM Z Z (eN (zV (bnK hm14 fun y48 hf45 hm44=>?_)))))))))))
 have q:=wBR hf45
 obtain ⟨hle46,hf47⟩:=q
 replace hle46:=zG hle46
 refine CK.forN' (fun k43 l39 σ_ w_=>∃ (U_:PHeap) (A40:Option Addr) (c41:Nat),σ_ 11=jV (↑k43:Int)/\σ_ 4=jV x12/\σ_ 5=.slice A40 l39.length c41/\σ_ 10=.agg (nA KL.encI p0.l).toArray/\PHeap.Le U22 U_/\sW w U U_ [.blk b2 141 (nA KL.encI p0.l),.row A40 c41 3 1 (nA KL.encI l39)] w_) hf47 ?_ ?_ ?_
 ·have hS49:=hS25.nilrow 3 1
  exact ⟨U22,none,0,rfl,rfl,rfl,rfl,(zP _),(hS49.pick [1,0] _ (by decide) rfl)⟩
 ·rintro k43 l39 xx53 σ51 W52 hk56 ⟨U58,A40,c41,fi57,f61,f62,f63,le59,hS60⟩ hx54
  have c64:Hid ((↑k43:Int) < 31):=zG (wBf hk56)
  replace hk56:=zG hk56
  have hi65:Hid (w64 ((↑k43:Int) + 1)=(↑(k43 + 1):Int)):=zG (by have h1:=hle46.out;have h2:=c64.out;rw [wAY] <;> omega)
  refine sR fL1 rfl (zU rfl rfl rfl rfl (fun _=>zQ rfl fi57 rfl) (eN (zD (cT Z c64 (kN (zD (zV (sR fL4 rfl (zJ rfl rfl rfl rfl rfl fi57 (bnK hx54 fun x66 h67 hm68=>zU rfl rfl rfl rfl (fun _=>Runs.ixA (cs:=nA KL.encI (p0.l:List Int)) rfl f63 fi57 ze zA (wCR h67) (by have q_:=wCf h67;rw [(p0).h] at q_;exact q_) (wCe zI (wCK (sz:=1) (fun _=>rfl) _ _ 0 _ _ (wBA h67) rfl))) (ZS rfl rfl rfl rfl rfl rfl (ZS rfl rfl rfl rfl rfl rfl (eN (sR fL3 rfl (zJ rfl rfl rfl rfl rfl rfl (zJ rfl rfl rfl rfl rfl f61 (zU rfl rfl rfl rfl (fun _=>Runs.eql rfl rfl rfl) (eN (ifc hm68 ?_ ?_)))))))))))))))))))
  ·intro c69 hm70
   refine cT Z c69 (rR (.fl 0 (.fl 1 (.fx 2 (.fx 3 (.fl 4 (.nil)) .stop) .stop))) Z (oM Z f62 (oM Z Z (ZN (pv:=[(0,jV (↑k43:Int))]) (zs:=[jV 0]) (cs:=[jV (↑k43:Int)]) Z Z Z Z Z (wAg Z wBj) zC zA zz Z Z Z Z Z hS60 ?_))))
   intro W71 b72 hS73
   let B0:Res:=.row (some ⟨b72,0,none⟩) 1 3 1 (nA KL.encI [(↑k43:Int)])
   have hS75:sW w U U58 [B0,.blk b2 141 (nA KL.encI p0.l),.row A40 c41 3 1 (nA KL.encI l39)] W71:=hS73
   refine bnK hm70 fun x76 h77 hm78=>OKS.append (j:=2) (enc:=KL.encI) (xs:=l39) (ys:=[(↑k43:Int)]) (zs:=x76) rfl rfl rfl rfl rfl ZM wHU rfl rfl rfl rfl rfl rfl hS75 rfl rfl rfl (hS75.srcR (j:=0) rfl (by decide) (wAD (f:=KL.encI) (sz:=1) (fun _=>rfl) [(↑k43:Int)])) (fun _=>rfl) (fun _=>rfl) h77 rfl ?_
   intro A79 c80 W81 hS82
   have hS83:sW w U U58 [B0,.blk b2 141 (nA KL.encI p0.l),.row A79 c80 3 1 (nA KL.encI x76)] W81:=hS82
   refine oA Z Z (zm (zW (zE (rR fL2 Z (oR Z (zn (zZ Z fi57 Z) (congrArg (jV) hi65.out)) (oM Z Z (zm ?_)))))))
   cases hm78
   exact zE ⟨rfl,⟨U58,A79,c80,rfl,f61,rfl,f63,le59,(hS83.pick [1,2] _ (by decide) rfl)⟩⟩
  ·intro c69 hm87
   refine cF Z c69 (zw (zW (zE (rR fL2 Z (oR Z (zn (zZ Z fi57 Z) (congrArg (jV) hi65.out)) (oM Z Z (zm ?_)))))))
   cases hm87
   exact zE ⟨Z,⟨U58,A40,c41,Z,f61,f62,f63,le59,hS60⟩⟩
 ·rintro σ91 W92 ⟨U100,A98,c99,fi94,f103,f104,f105,le101,hS102⟩
  have c106:Hid (¬ ((↑((31:Int) - 0).toNat:Int) < 31)):=zG (wBI)
  refine sR fL1 Z (oR Z (zQ Z fi94 Z) (eN (zD (cF Z c106 (ZB (zd (zd (zq (zE (sR fL4 Z (oM Z f104 (oM Z f103 (oA Z Z (oA Z Z (eN (zM ?_))))))))))))))))
  cases hm44
  exact ⟨rfl,_,(wJu rfl rfl),U100,_,(hS102.pick [1] _ (by decide) rfl),A98,c99,rfl,rfl⟩
theorem wDN (p0:Int) (w:World) (U:PHeap) (hS:St0 w U [])  {r:Bool} (hm:wBU p0=some r):Gv Tryz.prog 128 [jV p0] w (wCX w [] U (fun U_ L_ v=>v=.bool r/\L_=[])):=by
 unfold wBU at hm
 refine Gv.of Tryz.func128 Z Tryz.ntmps128 Tryz.results128 Z (sR fL1 Z (oA Z Z (eN (sR fL4 Z (oM Z Z (oM Z Z (oR Z (zt Z Z Z) (oA Z Z (eN (zM ?_))))))))))
 cases hm
 exact ⟨Z,_,(zl Z),U,_,hS,Z,Z⟩
theorem wEW (p0:Int) (p1:Int) (w:World) (U:PHeap) (hS:St0 w U [])  {r:Int} (hm:wBJ p0 p1=some r):Gv Tryz.prog 82 [jV p0,jV p1] w (wCX w [] U (fun U_ L_ v=>v=jV r/\L_=[])):=by
 unfold wBJ at hm
 refine Gv.of Tryz.func82 Z Tryz.ntmps82 Tryz.results82 Z (sR fL1 Z (oA Z Z (eN (sR (.fl 0 (.fx 1 (.fl 2 (.nil)) .stop)) Z (oM Z Z (bnK hm fun x1 h2 hm3=>zL 0 Z Z Z Z (zK Z Z Tryz.call128 (zB Z zR) Z) hS (fun hs=>wDN p0 w U hs h2) (.inr Z) ?_))))))
 rintro U4 L5 v6 W7 le8 hS9 ⟨rfl,rfl⟩
 have hS10:sW w U U4 [] W7:=hS9
 refine oA Z Z (eN (sR (.fl 0 (.fx 1 (.fl 2 (.nil)) .stop)) Z (oM Z Z (bnK hm3 fun x11 h12 hm13=>zL 0 Z Z Z Z (zK Z Z Tryz.call128 (zB Z zR) Z) hS10 (fun hs=>wDN p1 W7 U4 hs h12) (.inr Z) ?_))))
 rintro U14 L15 v16 W17 le18 hS19 ⟨rfl,rfl⟩
 have hS20:sW w U U14 [] W17:=hS19
 refine oA Z Z (eN (zD (sR fL1 Z (oM Z Z (eN (ifc hm13 ?_ ?_))))))
 ·intro c21 hm22
  refine zf (congrArg nD c21.out) (zD (sR fL1 Z (oM Z Z (eN (ifc hm22 ?_ ?_)))))
  ·intro c23 hm24
   refine zf (congrArg nD c23.out) (sR fL1 Z (oA Z Z (eN (zM (zF (zF ?_))))))
   cases hm24
   exact ⟨Z,_,(zl Z),U14,_,hS20,Z,Z⟩
  ·intro c23 hm25
   refine zi (congrArg nD (nE.2 c23.out)) (kN (sR fL1 Z (oA Z Z (eN (zM (zF ?_))))))
   cases hm25
   exact ⟨Z,_,(zl Z),U14,_,hS20,Z,Z⟩
 ·intro c21 hm26
  refine zi (congrArg nD (nE.2 c21.out)) (kN (zD (sR fL1 Z (oM Z Z (eN (ifc hm26 ?_ ?_))))))
  ·intro c27 hm28
   refine zf (congrArg nD c27.out) (sR fL1 Z (oA Z Z (eN (zM (zF ?_)))))
   cases hm28
   exact ⟨Z,_,(zl Z),U14,_,hS20,Z,Z⟩
  ·intro c27 hm29
   refine zi (congrArg nD (nE.2 c27.out)) (kN (zD (sR fL3 Z (oM Z Z (oM Z Z (oR Z (zQ Z Z Z) (eN (ifc hm29 ?_ ?_))))))))
   ·intro c30 hm31
    refine cT Z c30 (sR fL1 Z (oA Z Z (eN (zM (zF ?_)))))
    cases hm31
    exact ⟨Z,_,(zl Z),U14,_,hS20,Z,Z⟩
   ·intro c30 hm32
    refine cF Z c30 (kN (zD (sR fL3 Z (oM Z Z (oM Z Z (oR Z (Runs.gtr Z Z Z) (eN (ifc hm32 ?_ ?_))))))))
    ·intro c33 hm34
     refine cT Z c33 (sR fL1 Z (oA Z Z (eN (zM (zF ?_)))))
     cases hm34
     exact ⟨Z,_,(zl Z),U14,_,hS20,Z,Z⟩
    ·intro c33 hm35
     refine cF Z c33 (kN (sR fL1 Z (oA Z Z (eN (zM ?_)))))
     cases hm35
     exact ⟨Z,_,(zl Z),U14,_,hS20,Z,Z⟩
theorem wEj (p0:Int) (p1:Int) (p2:List wAA) (pb2:Nat) (pA2:Option Addr) (pc2:Nat) (w:World) (U:PHeap) (hS:St0 w U []) (ha0:Cl U pb2 0 [.slice pA2 p2.length pc2]) (ha1:Sl U 3 pA2 pc2 p2.length (nA wAG p2)) {r:Int} (hm:wAU p0 p1 p2=some r):Gv Tryz.prog 130 [jV p0,jV p1,.pointer (some ⟨pb2,0,none⟩)] w (wCX w [] U (fun U_ L_ v=>v=jV r/\L_=[])):=by
 unfold wAU at hm
 refine Gv.of Tryz.func130 rfl Tryz.ntmps130 Tryz.results130 rfl (sR fL1 rfl (ZS rfl rfl rfl rfl rfl rfl (eN (zD (CK.anyOrd Tryz.mixed [1,3,3,3,1,1,3,3,3,1,2,3] (wQG (.fx 10 (.fl 11 (.nil)) .stop)) (by kernel_rfl) ?_)))))
 have hS1:=hS.drew
 generalize hw_W2:({ w with drawn:=w.drawn + 1 }:World)=W2 at hS1 ⊢
 refine oL Z (hS1.ldC (f:=0) ha0 (v:=.slice pA2 p2.length pc2) Z Z zu Z) (oM Z Z (bnK hm fun x3 h4 hm5=>?_))
 have q:=ha1.el (fun _=>rfl) (wBA h4)
 obtain ⟨b6,off7,hA8,hC9⟩:=q
 refine oR Z (ZG Z Z hA8 Z zN zy (wCR h4) (wCf h4)) (oR Z (ZA Z Z zr Z zA) (oL Z (hS1.ldC (f:=2) hC9 (v:=jV x3.Rank) Z Z zI Z) (oL Z (hS1.ldC (f:=0) ha0 (v:=.slice pA2 p2.length pc2) Z Z zu Z) (oM Z Z (bnK hm5 fun x10 h11 hm12=>?_)))))
 have q:=ha1.el (fun _=>rfl) (wBA h11)
 obtain ⟨b13,off14,hA15,hC16⟩:=q
 refine oR Z (ZG Z Z hA15 Z zN zy (wCR h11) (wCf h11)) (oR Z (ZA Z Z zr Z zA) (oL Z (hS1.ldC (f:=2) hC16 (v:=jV x10.Rank) Z Z zI Z) (bnK hm12 fun x17 h18 hm19=>zL 0 Z Z Z Z (zK Z Z Tryz.call82 (zB Z (zB Z zR)) Z) hS1 (fun hs=>wEW x3.Rank x10.Rank W2 U hs h18) (.inr Z) ?_)))
 rintro U20 L21 v22 W23 le24 hS25 ⟨rfl,rfl⟩
 have hS26:sW w U U20 [] W23:=hS25
 refine oA Z Z (eN (zM ?_))
 have hE:=nB hm19;first | subst r | cases hE
 exact ⟨Z,_,(zl Z),U20,_,hS26,Z,Z⟩
theorem wCb (p0:List Int) (pA0:Option Addr) (pc0:Nat) (p1:((Int × Int)->Option Int)) (pv1:Value) (w:World) (U:PHeap) (hS:St ⟨w,[.row pA0 pc0 3 1 (nA KL.encI p0)],U⟩ U [.row pA0 pc0 3 1 (nA KL.encI p0)] w) (ha0:FnOK Tryz.prog U pv1 ar50 rr50 p1) (ha1:∃ g cb,pv1=.func (.func g) #[] cb) {r:List Int} (hm:wBG p0 p1=some r):Gv Tryz.prog 106 [.slice pA0 p0.length pc0,pv1] w (wCX w [.row pA0 pc0 3 1 (nA KL.encI p0)] U (fun U_ L_ v=>v=.tuple #[]/\L_=[.row pA0 pc0 3 1 (nA KL.encI r)]/\r.length=p0.length)) :=
 wKN (enc1:=(fun x=>.int .i64 x)) (fun _=>rfl) (fun _=>rfl) (fun _ _ _=>rfl) (fun _ _ _ _ h=>h.1) (fun enc a cf b g cb k1 k2 k3 d w h1 h2 h3 h4 h5 h6=>Go.Proofs.Tryz.slices_SortFunc_total enc a cf b g cb k1 k2 k3 d w h1 h2 h3 h4 h5 h6) (fun p c v w=>Go.Proofs.Tryz.slices_SortFunc_none_f106 (α:=Int) p c v w) hS ha0 ha1 hm
theorem wDZ (p0:List wAA) (pA0:Option Addr) (pc0:Nat) (w:World) (U:PHeap) (hS:St0 w U []) (ha0:Sl U 3 pA0 pc0 p0.length (nA wAG p0)) {r:(List Int)} (hm:wAy p0=some r):Gv Tryz.prog 89 [.slice pA0 p0.length pc0] w (wCX w [] U (fun U_ L_ v=>∃ (A0:Option Addr) (c0:Nat),v=.slice A0 r.length c0/\L_=[.row A0 c0 3 1 (nA KL.encI r)])):=by
 unfold wAy at hm
 refine Gv.of Tryz.func89 rfl Tryz.ntmps89 Tryz.results89 rfl (sR (.fx 0 (.fl 1 (.nil)) .stop) rfl (OKS.box (cs:=[.slice pA0 p0.length pc0]) rfl rfl rfl rfl rfl rfl (by rfl) hS ?_))
 intro W1 b2 hS3
 have q:=hS3.freeze (k:=0) rfl
 obtain ⟨U5,le6,hC7,hS8⟩:=q
 replace hC7:=Cl.of hC7
 have hS9:sW w U U5 [] W1:=hS8
 replace hC7:Cl U5 b2 0 [.slice pA0 p0.length pc0]:=hC7
 refine oA Z Z (eN (sR (.fl 0 (.fl 1 (.fx 2 (.fl 3 (.nil)) .stop))) Z (oL Z (hS9.ldC (f:=0) hC7 (v:=.slice pA0 p0.length pc0) Z Z zu Z) (oR Z (zk Z Z zN) (bnK hm fun x10 h11 hm12=>OKS.makeSlice (enc:=KL.encI) (z:=(0:Int)) (v:=jV 0) Z Z Z Z Z (wCg zC) wHU Z Z Z Z Z Z h11 hS9 ?_)))))
 intro W13 b14 hS15
 have hS17:sW w U U5 [.row (some ⟨b14,0,none⟩) x10.length 3 1 (nA KL.encI x10)] W13:=hS15
 refine oA Z Z (eN (zD (sR fL3 Z (oL Z (hS17.ldC (f:=0) hC7 (v:=.slice pA0 p0.length pc0) Z Z zu Z) (oR Z (zk Z Z zN) (oM Z Z (eN (zV (bnK hm12 fun y29 hf26 hm25=>?_)))))))))
 have q:=wBR hf26
 obtain ⟨hle27,hf28⟩:=q
 replace hle27:=zG hle27
 refine CK.forN' (fun k24 l23 σ_ w_=>∃ (U_:PHeap),σ_ 10=jV (↑k24:Int)/\σ_ 1=.pointer (some ⟨b2,0,none⟩)/\σ_ 3=.slice (some ⟨b14,0,none⟩) l23.length x10.length/\σ_ 9=jV (↑p0.length:Int)/\PHeap.Le U5 U_/\sW w U U_ [.row (some ⟨b14,0,none⟩) x10.length 3 1 (nA KL.encI l23)] w_/\l23.length=x10.length) hf28 ?_ ?_ ?_
 ·exact ⟨U5,Z,Z,Z,Z,(zP _),hS17,Z⟩
 ·rintro k24 l23 xx32 σ30 W31 hk35 ⟨U37,fi36,f40,f41,f42,le38,hS39,h43⟩ hx33
  have c44:Hid ((↑k24:Int) < (↑p0.length:Int)):=zG (wBf hk35)
  replace hk35:=zG hk35
  have hi45:Hid (w64 ((↑k24:Int) + 1)=(↑(k24 + 1):Int)):=zG (by have h1:=hle27.out;have h2:=c44.out;rw [wAY] <;> omega)
  refine sR fL1 Z (oR Z (zQ Z fi36 f42) (eN (zD (cT Z c44 (kN (zD (zV (sR fL2 Z (oM Z fi36 (oA Z Z (eN (rR (wGr (.fx 4 (.nil) .stop)) Z (oM Z f41 (oM Z Z (oM Z Z (bnK hx33 fun _ h46 hm47=>oR Z (ZR Z Z Z Z zC zA (wAq h46)) ?_))))))))))))))))
  have hg48:=wCW (xs:=l23) (wAq h46)
  refine OKS.stR (j:=0) (vs:=[jV (↑k24:Int)]) (cs':=nA KL.encI (nJ l23 k24 (↑k24:Int))) rfl rfl rfl rfl hS39 rfl rfl rfl rfl rfl zA (by rw [wAD (f:=KL.encI) (sz:=1) (fun _=>rfl)];have hz:=wAq h46;show _ + 1 <= _;first | omega | (simp only [nK];omega) | (simp only [nI,nG,nH];omega)) rfl (wDg (sz:=1) (fo:=0) (fun _=>rfl) _ _ _ _ hg48 (by first | omega | (simp only [nK];omega) | (simp only [nI,nG,nH];omega)) (zH rfl) rfl) rfl ?_
  intro W49 hS50
  have hS51:sW w U U37 [.row (some ⟨b14,0,none⟩) x10.length 3 1 (nA KL.encI (nJ l23 k24 (↑k24:Int)))] W49:=hS50
  refine zm (zW (zE (rR fL2 Z (oR Z (zn (zZ Z fi36 Z) (congrArg (jV) hi45.out)) (oM Z Z (zm ?_))))))
  cases hm47
  exact zE ⟨rfl,⟨U37,rfl,f40,(nP (b:=(.slice (some ⟨b14,0,none⟩) l23.length x10.length:Value)) (c:=(.slice (some ⟨b14,0,none⟩) ((nJ l23 k24 (↑k24:Int)).length) x10.length:Value)) f41 (by simp only [nL])),f42,le38,hS51,(nL.trans h43)⟩⟩
 ·rintro σ53 W54 ⟨U58,fi56,f61,f62,f63,le59,hS60,h64⟩
  have c65:Hid (¬ ((↑(((↑p0.length:Int):Int) - 0).toNat:Int) < (↑p0.length:Int))):=zG (wBI)
  refine sR fL1 Z (oR Z (zQ Z fi56 f63) (eN (zD (cF Z c65 (ZB (zd (zd (zq (zE (sR (.fl 0 (.fl 1 (.fx 2 (.nil) .stop))) Z (oM Z f62 (oR Z (Runs.mkf Z zR (zB f61 zR)) ?_))))))))))))
  have h66:=hC7.le le59
  have h67:=ha0.le le6
  have h68:=h67.le le59
  have hF69:FnOK Tryz.prog U58 (.func (.func 130) #[] #[.pointer (some ⟨b2,0,none⟩)]) ar50 rr50 (fun x=>wAU x.1 x.2 p0):=⟨130,[],[.pointer (some ⟨b2,0,none⟩)],rfl,Tryz.call130,fun U1 w1 x y vs le hs ha hm=>by obtain rfl:=ha;exact wEj x.1 x.2 p0 b2 pA0 pc0 w1 U1 hs (h66.le le) (h68.le le) hm⟩
  refine bnK hm25 fun x70 h71 hm72=>zL 1 Z Z Z Z (zK Z Z Tryz.call106 (zB Z (zB Z zR)) Z) hS60 (fun hs=>wCb y29 (some ⟨b14,0,none⟩) x10.length (fun x=>wAU x.1 x.2 p0) (.func (.func 130) #[] #[.pointer (some ⟨b2,0,none⟩)]) W54 U58 hs hF69 ⟨_,_,Z⟩ h71) (.inl Z) ?_
  rintro U73 L74 v75 W76 le77 hS78 ⟨rfl,rfl,h79⟩
  have hS80:sW w U U73 [.row (some ⟨b14,0,none⟩) x10.length 3 1 (nA KL.encI x70)] W76:=hS78
  refine eN (sR fL2 rfl (zJ rfl rfl rfl rfl rfl (nP (b:=(.slice (some ⟨b14,0,none⟩) y29.length x10.length:Value)) (c:=(.slice (some ⟨b14,0,none⟩) x70.length x10.length:Value)) f62 (by rw [h79])) (ZS rfl rfl rfl rfl rfl rfl (eN (zM ?_)))))
  have hE:=nB hm72;first | subst r | cases hE
  exact ⟨Z,_,(zl Z),U73,_,hS80,(some ⟨b14,0,none⟩),x10.length,Z,Z⟩
theorem wCx (p0:Int) (p1:List wAA) (pb1:Nat) (pA1:Option Addr) (pc1:Nat) (p2:Int) (pb2:Nat) (w:World) (U:PHeap) (hS:St0 w U []) (ha0:Cl U pb1 0 [.slice pA1 p1.length pc1]) (ha1:Sl U 3 pA1 pc1 p1.length (nA wAG p1)) (ha2:Cl U pb2 0 [jV p2]) {r:Bool} (hm:wAV p0 p1 p2=some r):Gv Tryz.prog 93 [jV p0,.pointer (some ⟨pb1,0,none⟩),.pointer (some ⟨pb2,0,none⟩)] w (wCX w [] U (fun U_ L_ v=>v=.bool r/\L_=[])):=by
 unfold wAV at hm
 refine Gv.of Tryz.func93 rfl Tryz.ntmps93 Tryz.results93 rfl (sR fL1 rfl (ZS rfl rfl rfl rfl rfl rfl (eN (zD (CK.anyOrd Tryz.mixed [1,3,3,3,1,1,3,3] fL8 (by kernel_rfl) ?_)))))
 have hS1:=hS.drew
 generalize hw_W2:({ w with drawn:=w.drawn + 1 }:World)=W2 at hS1 ⊢
 refine oL Z (hS1.ldC (f:=0) ha0 (v:=.slice pA1 p1.length pc1) Z Z zu Z) (oM Z Z (bnK hm fun x3 h4 hm5=>?_))
 have q:=ha1.el (fun _=>rfl) (wBA h4)
 obtain ⟨b6,off7,hA8,hC9⟩:=q
 refine oR Z (ZG Z Z hA8 Z zN zy (wCR h4) (wCf h4)) (oR Z (ZA Z Z zr Z zA) (oL Z (hS1.ldC (f:=1) hC9 (v:=jV x3.Nation) Z Z zI Z) (oL Z (hS1.ldC (f:=0) ha2 (v:=jV p2) Z Z zI Z) (oR Z (Runs.eql Z Z Z) (oA Z Z (eN (zM ?_)))))))
 cases hm5
 exact ⟨Z,_,(zl Z),U,_,hS1,Z,Z⟩
theorem wBX (p0:List Int) (pA0:Option Addr) (pc0:Nat) (p1:(Int->Option Bool)) (pv1:Value) (w:World) (U:PHeap) (hS:St0 w U []) (ha0:Sl U 1 pA0 pc0 p0.length (nA KL.encI p0)) (ha1:FnOK Tryz.prog U pv1 wHS wHT p1) {r:Int} (hm:wAM p0 p1=some r):Gv Tryz.prog 92 [.slice pA0 p0.length pc0,pv1] w (wCX w [] U (fun U_ L_ v=>v=jV r/\L_=[])):=by
 unfold wAM at hm
 refine Gv.of Tryz.func92 Z Tryz.ntmps92 Tryz.results92 Z (sR fL1 Z (oA Z Z (eN (zD (sR fL3 Z (oM Z Z (oR Z (zk Z Z zC) (oM Z Z (eN (zV ?_))))))))))
 have q:=wDE hm
 obtain ⟨r3,hX4⟩:=q
 have q:=wDD hX4
 obtain ⟨hle5,hf6⟩:=q
 replace hle5:=zG hle5
 refine CK.forN (fun k2 _ σ_ w_=>∃ (U_:PHeap),σ_ 8=jV (↑k2:Int)/\σ_ 0=.slice pA0 p0.length pc0/\σ_ 1=pv1/\σ_ 7=jV (↑p0.length:Int)/\PHeap.Le U U_/\sW w U U_ [] w_) hf6 ?_ ?_ ?_
 ·exact ⟨U,Z,Z,Z,Z,(zP _),hS⟩
 ·rintro k2 ⟨⟩ xx9 σ7 W8 hk12 ⟨U14,fi13,f17,f18,f19,le15,hS16⟩ hx10 hb11
  try dsimp only at hx10
  have c20:Hid ((↑k2:Int) < (↑p0.length:Int)):=zG (wBf hk12)
  replace hk12:=zG hk12
  have hi21:Hid (w64 ((↑k2:Int) + 1)=(↑(k2 + 1):Int)):=zG (by have h1:=hle5.out;have h2:=c20.out;rw [wAY] <;> omega)
  refine sR fL1 Z (oR Z (zQ Z fi13 f19) (eN (zD (cT Z c20 (kN (zD (zV (sR fL2 Z (oM Z fi13 (oA Z Z (eN (sR (wJt (.fx 5 (.nil) .stop)) Z (oM Z f18 (oM Z f17 (oM Z Z (bnK hx10 fun x22 h23 hm24=>?_))))))))))))))))
  have h25:=ha0.le le15
  have q:=h25.el (fun _=>rfl) (wBA h23)
  obtain ⟨b26,off27,hA28,hC29⟩:=q
  refine oR Z (ZR Z Z hA28 Z zC zA (wDX h23)) (oL Z (hS16.ldC (f:=0) hC29 (v:=jV x22) Z Z zI Z) (bnK hm24 fun x30 h31 hm32=>?_))
  have h39:=ha1.le le15
  refine OKS.callV (a:=x22) Z Z Z Z Z Z (zB Z zR) hS16 h39 Z h31 ?_
  rintro U33 L34 v35 W36 le37 hS38 ⟨rfl,rfl⟩
  have hS40:sW w U U33 [] W36:=hS38
  refine eN (ifc hm32 ?_ ?_)
  ·intro c41 hm42
   refine zf (congrArg nD c41.out) (sR fL2 Z (oM Z Z (oA Z Z (eN (zM (zY (zF ?_)))))))
   have q:=wBD hm42
   obtain ⟨v43,hm44,e45⟩:=q
   obtain rfl:=wCC hm hX4 (hb11 v43 e45)
   refine zF (zY (zF ?_))
   cases hm44
   exact ⟨Z,_,(zl Z),U33,_,hS40,Z,Z⟩
  ·intro c41 hm46
   refine zi (congrArg nD (nE.2 c41.out)) (zw (zW (zE (rR fL2 Z (oR Z (zn (zZ Z fi13 Z) (congrArg (jV) hi21.out)) (oM Z Z (zm ?_)))))))
   obtain rfl:=nB hm46
   exact zE ⟨Z,_,Z,⟨U33,Z,f17,f18,f19,(le15.trans le37),hS40⟩⟩
 ·rintro ⟨⟩ σ47 W48 ⟨U51,fi50,f54,f55,f56,le52,hS53⟩ hb49
  have hm57:=wEZ hm hX4 hb49
  try dsimp only at hm57
  have c58:Hid (¬ ((↑(((↑p0.length:Int):Int) - 0).toNat:Int) < (↑p0.length:Int))):=zG (wBI)
  refine sR fL1 Z (oR Z (zQ Z fi50 f56) (eN (zD (cF Z c58 (ZB (zd (zd (zq (zE (sR fL1 Z (oA Z Z (eN (zM ?_)))))))))))))
  cases hm57
  exact ⟨Z,_,(zl Z),U51,_,hS53,Z,Z⟩
theorem wBo (p0:List Int) (pA0:Option Addr) (pc0:Nat) (p1:Int) (p2:Int) (w:World) (U:PHeap) (hS:St ⟨w,[.row pA0 pc0 3 1 (nA KL.encI p0)],U⟩ U [.row pA0 pc0 3 1 (nA KL.encI p0)] w) {r:List Int} (hm:wAj p0 p1 p2=some r):Gv Tryz.prog 94 [.slice pA0 p0.length pc0,.int .i64 p1,.int .i64 p2] w (wCX w [.row pA0 pc0 3 1 (nA KL.encI p0)] U (fun U_ L_ v=>∃ (A0:Option Addr) (c0:Nat),v=.slice A0 r.length c0/\L_=[.row A0 c0 3 1 (nA KL.encI r)])) :=
 wJR (z:=.int .i64 0) (fun _=>rfl) (by omega) (fun _=>rfl) rfl (fun b c n i j cs w h1 h2 h3 h4 h5 h6 h7 h8=>Go.Proofs.delCalls94 b c n i j cs w h1 h2 h3 h4 h5 h6 h7 h8) hS hm
theorem wFm (p0:List wAA) (pA0:Option Addr) (pc0:Nat) (w:World) (U:PHeap) (hS:St0 w U []) (ha0:Sl U 3 pA0 pc0 p0.length (nA wAG p0)) {r:(List Int) × Int × Int} (hm:wBP p0=some r):Gv Tryz.prog 31 [.slice pA0 p0.length pc0] w (wCX w [] U (fun U_ L_ v=>∃ (A0:Option Addr) (c0:Nat),v=.tuple #[.slice A0 r.1.length c0,jV r.2.1,jV r.2.2]/\L_=[.row A0 c0 3 1 (nA KL.encI r.1)])):=by
 unfold wBP at hm
 refine Gv.of Tryz.func31 rfl Tryz.ntmps31 Tryz.results31 rfl (sR (.fx 0 (fC1_3 (.nil)) .stop) rfl (OKS.box (cs:=[.slice pA0 p0.length pc0]) rfl rfl rfl rfl rfl rfl (by rfl) hS ?_))
 intro W1 b2 hS3
 have q:=hS3.freeze (k:=0) rfl
 obtain ⟨U5,le6,hC7,hS8⟩:=q
 replace hC7:=Cl.of hC7
 have hS9:sW w U U5 [] W1:=hS8
 replace hC7:Cl U5 b2 0 [.slice pA0 p0.length pc0]:=hC7
 refine oA Z Z (oA Z Z (oA Z Z (eN (zD (sR (.fl 0 (.fx 1 (.fl 2 (.nil)) .stop)) Z (oL Z (hS9.ldC (f:=0) hC7 (v:=.slice pA0 p0.length pc0) Z Z zu Z) ?_))))))
 have h10:=ha0.le le6
 refine bnK hm fun x11 h12 hm13=>zL 0 Z Z Z Z (zK Z Z Tryz.call41 (zB Z zR) Z) hS9 (fun hs=>wCI p0 pA0 pc0 W1 U5 hs h10 h12) (.inr Z) ?_
 rintro U14 L15 v16 W17 le18 hS19 ⟨rfl,rfl⟩
 have hS20:sW w U U14 [] W17:=hS19
 refine oA Z Z (eN (sR fL2 Z (oM Z Z (oR Z (zt Z Z Z) (eN (ifc hm13 ?_ ?_))))))
 ·intro c21 hm22
  refine zi (zg (fun h=>h c21.out)) (kN (sR (.fl 0 (.fx 1 (.fx 2 (.fx 3 (.nil) .stop) .stop) .stop)) Z ?_))
  have h23:=hC7.le le18
  refine oL Z (hS20.ldC (f:=0) h23 (v:=.slice pA0 p0.length pc0) Z Z zu Z) ?_
  have h24:=h10.le le18
  refine bnK hm22 fun x25 h26 hm27=>zL 0 Z Z Z Z (zK Z Z Tryz.call90 (zB Z zR) Z) hS20 (fun hs=>wCP p0 pA0 pc0 W17 U14 hs h24 h26) (.inr Z) ?_
  rintro U28 L29 v30 W31 le32 hS33 ⟨rfl,rfl⟩
  have hS34:sW w U U28 [] W31:=hS33
  refine ZI (cs:=nA KL.encI (Arr.fill 31 0).l) Z Z Z Z Z Tryz.zeroValue141 Z hS34 ?_
  intro W35 b36 hS37
  have hS39:sW w U U28 [.blk b36 141 (nA KL.encI (Arr.fill 31 0).l)] W35:=hS37
  refine ZD (j:=0) (vs:=nA KL.encI x25.l) rfl rfl rfl rfl hS39 rfl rfl rfl rfl (fun w=>by rw [wAW (f:=KL.encI) (sz:=1) (N:=31) x25 (fun _=>rfl) rfl];exact ZL w) (by rw [wAW (f:=KL.encI) (sz:=1) (N:=31) x25 (fun _=>rfl) rfl,wAW (f:=KL.encI) (sz:=1) (N:=31) (Arr.fill 31 0) (fun _=>rfl) rfl];exact zH rfl) (wDG (fun _=>rfl) _) (wGK _ _ (by rw [wAW (f:=KL.encI) (sz:=1) (N:=31) x25 (fun _=>rfl) rfl,wAW (f:=KL.encI) (sz:=1) (N:=31) (Arr.fill 31 0) (fun _=>rfl) rfl])) rfl ?_
  intro W40 hS41
  have hS42:sW w U U28 [.blk b36 141 (nA KL.encI x25.l)] W40:=hS41
  refine eN (sR (.fl 0 (.fx 1 (wQJ (.nil)) .stop)) Z (oL Z (hS42.ldBA (j:=0) Z Z Z Tryz.isAgg141 ZL (vs:=nA KL.encI x25.l) (wJN x25 (fun _=>Z) Z) (wAW x25 (fun _=>Z) Z)) ?_))
  have q:=bnd hm27
  obtain ⟨⟨x43,x44⟩,h45,hm46⟩:=q
  try dsimp only at hm46
  refine zL 0 Z Z Z Z (zK Z Z Tryz.call91 (zB Z zR) Z) hS42 (fun hs=>wBn x25 W40 U28 hs h45) (.inr Z) ?_
  rintro U47 L48 v49 W50 le51 hS52 ⟨A53,c54,rfl,rfl⟩
  let B0:Res:=.row A53 c54 3 1 (nA KL.encI x43)
  have hS56:sW w U U47 [B0,.blk b36 141 (nA KL.encI x25.l)] W50:=hS52
  refine oM Z Z (oR Z (zp Z Z (v:=.slice A53 x43.length c54) Z) (oR Z (zp Z Z (v:=jV x44) Z) (oA Z Z (oA Z Z (eN (sR fL3 Z ?_))))))
  have h57:=h23.le le32
  have h58:=h57.le le51
  refine oL Z (hS56.ldC (f:=0) h58 (v:=.slice pA0 p0.length pc0) Z Z zu Z) (oR Z (zk Z Z zN) (oA Z Z (eN (zD (sR fL2 Z (oM Z Z (oR Z (Runs.gtr Z Z Z) (eN (ifc hm46 ?_ ?_)))))))))
  ·intro c59 hm60
   refine cT Z c59 (rR fL9 Z (oL Z (hS56.ldC (f:=0) h58 (v:=.slice pA0 p0.length pc0) Z Z zu Z) (oR Z (zk Z Z zN) (oM Z Z (oR Z (zk Z Z zC) (oR Z (ZK Z Z Z) (oM Z Z (oR Z (ZK Z Z Z) (bnK hm60 fun x61 h62 hm63=>oR Z (Runs.quo Z Z Z h62) (oA Z Z (eN (sR (.fl 0 (.fx 1 (.fl 2 (.nil)) .stop)) Z (oL Z (hS56.ldC (f:=0) h58 (v:=.slice pA0 p0.length pc0) Z Z zu Z) ?_)))))))))))))
   have h64:=h24.le le32
   have h65:=h64.le le51
   refine bnK hm63 fun x66 h67 hm68=>zL 0 Z Z Z Z (zK Z Z Tryz.call89 (zB Z zR) Z) hS56 (fun hs=>wDZ p0 pA0 pc0 W50 U47 hs h65 h67) (.inr Z) ?_
   rintro U69 L70 v71 W72 le73 hS74 ⟨A75,c76,rfl,rfl⟩
   have hS78:sW w U U69 [.row A75 c76 3 1 (nA KL.encI x66),B0,.blk b36 141 (nA KL.encI x25.l)] W72:=hS74
   refine oA Z Z (eN (sR (.fx 0 (.fl 1 (.nil)) .stop) Z (OKS.makeMap Z Z Z Z Z hS78 ?_)))
   intro W79 b80 hS81
   have hr82:=MpR.nil wEK wEV
   refine oA Z Z (eN (sR fL1 Z (oA Z Z (eN (zD (sR fL3 Z ?_))))))
   have h84:=h58.le le73
   refine oL Z (hS81.ldC (f:=0) h84 (v:=.slice pA0 p0.length pc0) Z Z zu Z) (oR Z (zk Z Z zN) (oM Z Z (eN (zV ?_))))
   have q:=bnd hm68
   obtain ⟨⟨y135,y136,y137,y138⟩,hf132,hm131⟩:=q
   try dsimp only at hm131
   have q:=wBR hf132
   obtain ⟨hle133,hf134⟩:=q
   replace hle133:=zG hle133
   refine CK.forN' (fun k130 (l119,a122,l123,l126) σ_ w_=>∃ (U_:PHeap) (es120:Array MapEntry) (ck121:Nat) (A124:Option Addr) (c125:Nat) (A127:Option Addr) (c128:Nat),σ_ 49=jV (↑k130:Int)/\σ_ 1=.pointer (some ⟨b2,0,none⟩)/\σ_ 6=.pointer (some ⟨b36,0,none⟩)/\σ_ 9=jV x61/\σ_ 10=.slice A124 l123.length c125/\σ_ 11=.map (some b80)/\σ_ 12=.slice A127 l126.length c128/\σ_ 48=jV (↑p0.length:Int)/\PHeap.Le U69 U_/\sW w U U_ [.obj b80 (.map es120 ck121),.blk b36 141 (nA KL.encI a122.l),.row A124 c125 3 1 (nA KL.encI l123),.row A127 c128 3 1 (nA KL.encI l126)] w_/\MpR es120 wEK wEV l119) hf134 ?_ ?_ ?_
   ·have hS139:=hS81.nilrow 3 1
    exact ⟨U69,#[],0,A75,c76,none,0,rfl,rfl,rfl,rfl,rfl,rfl,rfl,rfl,(zP _),(hS139.pick [1,4,2,0] _ (by decide) rfl),hr82⟩
   ·rintro k130 ⟨l119,a122,l123,l126⟩ xx143 σ141 W142 hk146 ⟨U148,es120,ck121,A124,c125,A127,c128,fi147,f151,f152,f153,f154,f155,f156,f157,le149,hS150,h158⟩ hx144
    try dsimp only at hx144
    have c159:Hid ((↑k130:Int) < (↑p0.length:Int)):=zG (wBf hk146)
    replace hk146:=zG hk146
    have hi160:Hid (w64 ((↑k130:Int) + 1)=(↑(k130 + 1):Int)):=zG (by have h1:=hle133.out;have h2:=c159.out;rw [wAY] <;> omega)
    refine sR fL1 Z (oR Z (zQ Z fi147 f157) (eN (zD (cT Z c159 (kN (zD (zV (sR fL2 Z (oM Z fi147 (oA Z Z (eN (sR (.fx 0 (.fx 1 (.nil) .stop) .stop) Z (ZI (cs:=[jV 0]) Z Z Z Z Z zz Z hS150 ?_)))))))))))))
    intro W161 b162 hS163
    refine ZD (j:=0) (vs:=[jV (-1)]) Z Z Z Z hS163 Z Z Z Z zA (zH Z) Z Z Z ?_
    intro W165 hS166
    let B1:Res:=.row A124 c125 3 1 (nA KL.encI l123)
    let B2:Res:=.row A127 c128 3 1 (nA KL.encI l126)
    have hS167:sW w U U148 [.blk b162 3 [jV (-1)],.obj b80 (.map es120 ck121),.blk b36 141 (nA KL.encI a122.l),B1,B2] W165:=hS166
    refine eN (zD (sR fL2 Z (oL Z (hS167.ldBA (j:=2) Z Z f152 Tryz.isAgg141 ZL (vs:=nA KL.encI a122.l) (wJN a122 (fun _=>Z) Z) (wAW a122 (fun _=>Z) Z)) (oM Z Z (eN (zV (bnK hx144 fun y179 hf176 hm175=>?_)))))))
    have q:=wBR hf176
    obtain ⟨hle177,hf178⟩:=q
    replace hle177:=zG hle177
    refine CK.forN' (fun k174 x173 σ_ w_=>∃ (U_:PHeap),σ_ 53=jV (↑k174:Int)/\σ_ 1=.pointer (some ⟨b2,0,none⟩)/\σ_ 6=.pointer (some ⟨b36,0,none⟩)/\σ_ 9=jV x61/\σ_ 10=.slice A124 l123.length c125/\σ_ 11=.map (some b80)/\σ_ 12=.slice A127 l126.length c128/\σ_ 13=jV (↑k130:Int)/\σ_ 14=.pointer (some ⟨b162,0,none⟩)/\σ_ 48=jV (↑p0.length:Int)/\σ_ 49=jV (↑k130:Int)/\σ_ 52=.agg (nA KL.encI a122.l).toArray/\PHeap.Le U148 U_/\sW w U U_ [.blk b162 3 [jV x173],.obj b80 (.map es120 ck121),.blk b36 141 (nA KL.encI a122.l),B1,B2] w_) hf178 ?_ ?_ ?_
    ·exact ⟨U148,Z,f151,f152,f153,f154,f155,f156,Z,Z,f157,fi147,Z,(zP _),hS167⟩
    ·rintro k174 x173 xx182 σ180 W181 hk185 ⟨U187,fi186,f190,f191,f192,f193,f194,f195,f196,f197,f198,f199,f200,le188,hS189⟩ hx183
     have c201:Hid ((↑k174:Int) < 31):=zG (wBf hk185)
     replace hk185:=zG hk185
     have hi202:Hid (w64 ((↑k174:Int) + 1)=(↑(k174 + 1):Int)):=zG (by have h1:=hle177.out;have h2:=c201.out;rw [wAY] <;> omega)
     refine sR fL1 Z (oR Z (zQ Z fi186 Z) (eN (zD (cT Z c201 (kN (bnK hx183 fun x203 hx205 hm206=>CK.cut (fun σ_ w_=>∃ (U_:PHeap),σ_ 1=.pointer (some ⟨b2,0,none⟩)/\σ_ 6=.pointer (some ⟨b36,0,none⟩)/\σ_ 9=jV x61/\σ_ 10=.slice A124 l123.length c125/\σ_ 11=.map (some b80)/\σ_ 12=.slice A127 l126.length c128/\σ_ 13=jV (↑k130:Int)/\σ_ 14=.pointer (some ⟨b162,0,none⟩)/\σ_ 48=jV (↑p0.length:Int)/\σ_ 49=jV (↑k130:Int)/\σ_ 52=.agg (nA KL.encI a122.l).toArray/\σ_ 53=jV (↑k174:Int)/\PHeap.Le U187 U_/\sW w U U_ [.blk b162 3 [jV x203],.obj b80 (.map es120 ck121),.blk b36 141 (nA KL.encI a122.l),B1,B2] w_) ?_ ?_))))))
     ·refine zV (sR fL4 rfl (zJ rfl rfl rfl rfl rfl fi186 (bnK hx205 fun x207 h208 hm209=>zU rfl rfl rfl rfl (fun _=>Runs.ixA (cs:=nA KL.encI (a122.l:List Int)) rfl f200 fi186 ze zA (wCR h208) (by have q_:=wCf h208;rw [(a122).h] at q_;exact q_) (wCe zI (wCK (sz:=1) (fun _=>rfl) _ _ 0 _ _ (wBA h208) rfl))) (ZS rfl rfl rfl rfl rfl rfl (ZS rfl rfl rfl rfl rfl rfl (eN (sR fL8 rfl (zJ rfl rfl rfl rfl rfl f194 (zJ rfl rfl rfl rfl rfl rfl (ZC rfl rfl rfl rfl (hS189.lookup2 (j:=1) (mk:=wEK) (mv:=wEV) (a:=(↑k174:Int)) (z:=0) rfl rfl rfl rfl (wCg ZF) wDr zz h158) rfl (zJ rfl rfl rfl rfl rfl rfl (zU rfl rfl rfl rfl (fun _=>zp rfl rfl (v:=jV (wBh l119 (↑k174:Int) 0)) rfl) (zU rfl rfl rfl rfl (fun _=>zp rfl rfl (v:=.bool (wEz l119 (↑k174:Int))) rfl) (ZS rfl rfl rfl rfl rfl rfl (ZS rfl rfl rfl rfl rfl rfl (eN (sR fL24 rfl (zJ rfl rfl rfl rfl rfl rfl (zU rfl rfl rfl rfl (fun _=>Runs.gtr rfl rfl rfl) (zJ rfl rfl rfl rfl rfl rfl (ifc hm209 ?_ ?_)))))))))))))))))))))
      ·intro c210 hm211
       refine zJ Z Z Z (wT Z c210) Z Z (rU Z (wT Z c210) (ZU Z Z) (zJ Z Z Z (wT Z c210) Z Z (ifc hm211 ?_ ?_)))
       ·intro c212 hm213
        refine zJ Z Z Z (zO Z Z (nC c212.out)) Z f196 (zJ Z Z Z (zO Z Z (nC c212.out)) Z Z (zU Z Z Z (zO Z Z (nC c212.out)) (fun _=>ZK Z Z Z) (zJ Z Z Z (zO Z Z (nC c212.out)) Z f192 (zU Z Z Z (zO Z Z (nC c212.out)) (fun _=>Runs.geq Z Z Z) (rU Z (wT Z c210) (zX Z (nC c212.out) Z) (oR Z (zS Z (ZE c210.out) Z) (oM Z Z (ifc hm213 ?_ ?_))))))))
        ·intro c214 hm215
         refine ZC Z Z Z (wT Z c214) (hS189.ldB (j:=0) Z Z f197 zI (v:=jV x173) Z) Z (rU Z (wT Z c214) (zQ Z Z Z) (zJ Z Z Z (wT Z c214) Z Z (ifc hm215 ?_ ?_)))
         ·intro c216 hm217
          refine oT Z c216 (oT Z c216 (oT Z c216 (oT Z c216 (oT Z c216 (rU Z (wT Z c214) (zS Z (ZE c216.out) Z) (oR Z (zS Z (ZE c214.out) Z) (eN (zf Z (rR (.fl 0 (.fx 1 (.nil) .stop)) Z (oM Z Z (ZD (j:=0) (vs:=[jV (↑k174:Int)]) Z Z Z Z hS189 Z f197 Z Z zA (zH Z) Z Z Z ?_)))))))))))
          intro W218 hS219
          have hS220:sW w U U187 [.blk b162 3 [jV (↑k174:Int)],.obj b80 (.map es120 ck121),.blk b36 141 (nA KL.encI a122.l),B1,B2] W218:=hS219
          refine zm (zW ?_)
          cases hm217
          exact zE ⟨Z,⟨U187,f190,f191,f192,f193,f194,f195,f196,f197,f198,f199,f200,fi186,(zP _),hS220⟩⟩
         ·intro c216 hm222
          refine zJ Z Z Z (wF Z c216) Z Z (ZC Z Z Z (wF Z c216) (hS189.ldB (j:=0) Z Z f197 zI (v:=jV x173) Z) Z (bnK hm222 fun _ h223 hm224=>rU Z (wF Z c216) (ZT Z f191 Z ze zA (wBa h223) (wBb h223)) ?_))
          have hg225:=Arr.at_ a122 (k:=x173.toNat) (by have hz0:=wAq h223;omega)
          refine ZC rfl rfl rfl (zO rfl rfl (zg c216.out)) (hS189.ldB (j:=2) rfl rfl rfl zI (wAZ (sz:=1) (fun _=>rfl) _ _ 0 _ hg225 (by first | omega | rfl | simp) rfl)) rfl (zU rfl rfl rfl (zO rfl rfl (zg c216.out)) (fun _=>Runs.gtr rfl rfl rfl) (zU rfl rfl rfl (zO rfl rfl (ZE c214.out)) (fun _=>zX rfl (zg c216.out) rfl) (zU rfl rfl rfl rfl (fun _=>zS rfl (ZE c214.out) rfl) (eN (ifc hm224 ?_ ?_)))))
          ·intro c226 hm227
           refine cT Z c226 (rR (.fl 0 (.fx 1 (.nil) .stop)) Z (oM Z Z (ZD (j:=0) (vs:=[jV (↑k174:Int)]) Z Z Z Z hS189 Z f197 Z Z zA (zH Z) Z Z Z ?_)))
           intro W228 hS229
           have hS230:sW w U U187 [.blk b162 3 [jV (↑k174:Int)],.obj b80 (.map es120 ck121),.blk b36 141 (nA KL.encI a122.l),B1,B2] W228:=hS229
           refine zm (zW ?_)
           cases hm227
           exact zE ⟨Z,⟨U187,f190,f191,f192,f193,f194,f195,f196,f197,f198,f199,f200,fi186,(zP _),hS230⟩⟩
          ·intro c226 hm232
           refine cF Z c226 (zw (zW ?_))
           cases hm232
           exact zE ⟨Z,⟨U187,f190,f191,f192,f193,f194,f195,f196,f197,f198,f199,f200,fi186,(zP _),hS189⟩⟩
        ·intro c214 hm234
         refine oF Z c214 (oF Z c214 (oF Z c214 (zh Z Z Z (wAT Z Z Z) (zh Z Z Z (wAT Z Z Z) (zh Z Z Z (wAT Z Z Z) (zh Z Z Z (wAT Z Z Z) (zh Z Z Z (wAT Z Z Z) (oF Z c214 (oR Z (zX Z (zg c214.out) Z) (eN (zi Z (zw (zW ?_)))))))))))))
         cases hm234
         exact zE ⟨Z,⟨U187,f190,f191,f192,f193,f194,f195,f196,f197,f198,f199,f200,fi186,(zP _),hS189⟩⟩
       ·intro c212 hm236
        refine zh Z Z Z (zx Z Z (nF (c212.out)) Z) (zh Z Z Z (zx Z Z (nF (c212.out)) Z) (zh Z Z Z (zx Z Z (nF (c212.out)) Z) (zh Z Z Z (zx Z Z (nF (c212.out)) Z) (zh Z Z Z (zx Z Z (nF (c212.out)) Z) (rU Z (wT Z c210) (zS Z (nF (c212.out)) Z) (oR Z (zS Z (ZE c210.out) Z) (oM Z Z (ZC Z Z Z (zO Z Z Z) (hS189.ldB (j:=0) Z Z f197 zI (v:=jV x173) Z) Z (zU Z Z Z (zO Z Z Z) (fun _=>zQ Z Z Z) (zJ Z Z Z (zO Z Z Z) Z Z (ifc hm236 ?_ ?_)))))))))))
        ·intro c237 hm238
         refine oT Z c237 (oT Z c237 (oT Z c237 (oT Z c237 (oT Z c237 (zU Z Z Z (zO Z Z Z) (fun _=>zS Z (ZE c237.out) Z) (oR Z (zS Z Z Z) (eN (zf Z (rR (.fl 0 (.fx 1 (.nil) .stop)) Z (oM Z Z (ZD (j:=0) (vs:=[jV (↑k174:Int)]) Z Z Z Z hS189 Z f197 Z Z zA (zH Z) Z Z Z ?_)))))))))))
         intro W239 hS240
         have hS241:sW w U U187 [.blk b162 3 [jV (↑k174:Int)],.obj b80 (.map es120 ck121),.blk b36 141 (nA KL.encI a122.l),B1,B2] W239:=hS240
         refine zm (zW ?_)
         cases hm238
         exact zE ⟨Z,⟨U187,f190,f191,f192,f193,f194,f195,f196,f197,f198,f199,f200,fi186,(zP _),hS241⟩⟩
        ·intro c237 hm243
         refine zJ Z Z Z (wF Z c237) Z Z (ZC Z Z Z (wF Z c237) (hS189.ldB (j:=0) Z Z f197 zI (v:=jV x173) Z) Z (bnK hm243 fun _ h244 hm245=>rU Z (wF Z c237) (ZT Z f191 Z ze zA (wBa h244) (wBb h244)) ?_))
         have hg246:=Arr.at_ a122 (k:=x173.toNat) (by have hz0:=wAq h244;omega)
         refine ZC rfl rfl rfl (zO rfl rfl (zg c237.out)) (hS189.ldB (j:=2) rfl rfl rfl zI (wAZ (sz:=1) (fun _=>rfl) _ _ 0 _ hg246 (by first | omega | rfl | simp) rfl)) rfl (zU rfl rfl rfl (zO rfl rfl (zg c237.out)) (fun _=>Runs.gtr rfl rfl rfl) (zU rfl rfl rfl (zO rfl rfl rfl) (fun _=>zX rfl (zg c237.out) rfl) (zU rfl rfl rfl rfl (fun _=>zS rfl rfl rfl) (eN (ifc hm245 ?_ ?_)))))
         ·intro c247 hm248
          refine cT Z c247 (rR (.fl 0 (.fx 1 (.nil) .stop)) Z (oM Z Z (ZD (j:=0) (vs:=[jV (↑k174:Int)]) Z Z Z Z hS189 Z f197 Z Z zA (zH Z) Z Z Z ?_)))
          intro W249 hS250
          have hS251:sW w U U187 [.blk b162 3 [jV (↑k174:Int)],.obj b80 (.map es120 ck121),.blk b36 141 (nA KL.encI a122.l),B1,B2] W249:=hS250
          refine zm (zW ?_)
          cases hm248
          exact zE ⟨Z,⟨U187,f190,f191,f192,f193,f194,f195,f196,f197,f198,f199,f200,fi186,(zP _),hS251⟩⟩
         ·intro c247 hm253
          refine cF Z c247 (zw (zW ?_))
          cases hm253
          exact zE ⟨Z,⟨U187,f190,f191,f192,f193,f194,f195,f196,f197,f198,f199,f200,fi186,(zP _),hS189⟩⟩
      ·intro c210 hm255
       refine oF Z c210 (oF Z c210 (oF Z c210 (zh Z Z Z (wAT Z Z Z) (zh Z Z Z (wAT Z Z Z) (zh Z Z Z (wAT Z Z Z) (zh Z Z Z (wAT Z Z Z) (zh Z Z Z (wAT Z Z Z) (oF Z c210 (oR Z (zX Z (zg c210.out) Z) (oM Z Z (oN Z (oN Z (oN Z (zh Z Z Z (wAT Z Z Z) (zh Z Z Z (wAT Z Z Z) (zh Z Z Z (wAT Z Z Z) (zh Z Z Z (wAT Z Z Z) (zh Z Z Z (wAT Z Z Z) (oN Z (oR Z (zX Z Z Z) (eN (zi Z (zw (zW ?_))))))))))))))))))))))))
       cases hm255
       exact zE ⟨Z,⟨U187,f190,f191,f192,f193,f194,f195,f196,f197,f198,f199,f200,fi186,(zP _),hS189⟩⟩
     ·rintro σ257 W258 ⟨U259,f262,f263,f264,f265,f266,f267,f268,f269,f270,f271,f272,f273,le260,hS261⟩
      refine rR fL2 Z (oR Z (zn (zZ Z f273 Z) (congrArg (jV) hi202.out)) (oM Z Z (zm ?_)))
      cases hm206
      exact zE ⟨Z,⟨U259,Z,f262,f263,f264,f265,f266,f267,f268,f269,f270,f271,f272,(le188.trans le260),hS261⟩⟩
    ·rintro σ275 W276 ⟨U280,fi278,f283,f284,f285,f286,f287,f288,f289,f290,f291,f292,f293,le281,hS282⟩
     have c294:Hid (¬ ((↑((31:Int) - 0).toNat:Int) < 31)):=zG (wBI)
     refine sR fL1 Z (oR Z (zQ Z fi278 Z) (eN (zD (cF Z c294 (ZB (zd (zd (zq (zE (sR (.fl 0 (.fl 1 (.fx 2 (.fl 3 (.nil)) .stop))) Z (oM Z f286 ?_)))))))))))
     have q:=hS282.freeze (k:=0) rfl
     obtain ⟨U295,le296,hC297,hS298⟩:=q
     replace hC297:=Cl.of hC297
     have hS299:sW w U U295 [.obj b80 (.map es120 ck121),.blk b36 141 (nA KL.encI a122.l),B1,B2] W276:=hS298
     replace hC297:Cl U295 b162 0 [jV y179]:=hC297
     refine oR Z (Runs.mkf Z zR (zB f283 (zB f290 zR))) ?_
     have q:=hS299.freezeT (k:=2) (n:=l123.length) rfl (wAD (f:=KL.encI) (sz:=1) (fun _=>rfl) l123) (by decide)
     obtain ⟨U301,le302,hs303,hS304,th300⟩:=q
     have hS305:sW w U U301 [.obj b80 (.map es120 ck121),.blk b36 141 (nA KL.encI a122.l),B2] W276:=hS304
     have h306:=h84.le le149
     have h307:=h306.le le281
     have h308:=h307.le le296
     have h309:=h308.le le302
     have h310:=h65.le le73
     have h311:=h310.le le149
     have h312:=h311.le le281
     have h313:=h312.le le296
     have h314:=h313.le le302
     have h315:=hC297.le le302
     have hF316:FnOK Tryz.prog U301 (.func (.func 93) #[] #[.pointer (some ⟨b2,0,none⟩),.pointer (some ⟨b162,0,none⟩)]) wHS wHT (fun x=>wAV x p0 y179):=⟨93,[],[.pointer (some ⟨b2,0,none⟩),.pointer (some ⟨b162,0,none⟩)],rfl,Tryz.call93,fun U1 w1 x y vs le hs ha hm=>by obtain rfl:=ha;exact wCx x p0 b2 pA0 pc0 y179 b162 w1 U1 hs (h309.le le) (h314.le le) (h315.le le) hm⟩
     refine bnK hm175 fun x317 h318 hm319=>zL 0 Z Z Z Z (zK Z Z Tryz.call92 (zB Z (zB Z zR)) Z) hS305 (fun hs=>wBX l123 A124 c125 (fun x=>wAV x p0 y179) (.func (.func 93) #[] #[.pointer (some ⟨b2,0,none⟩),.pointer (some ⟨b162,0,none⟩)]) W276 U301 hs hs303 hF316 h318) (.inr Z) ?_
     rintro U320 L321 v322 W323 le324 hS325 ⟨rfl,rfl⟩
     have hS326:sW w U U320 [.obj b80 (.map es120 ck121),.blk b36 141 (nA KL.encI a122.l),B2] W323:=hS325
     have q:=th300 _ _ _ le324 hS326
     obtain ⟨U327,le328,hS329⟩:=q
     have hS330:sW w U U327 [B1,.obj b80 (.map es120 ck121),.blk b36 141 (nA KL.encI a122.l),B2] W323:=hS329
     refine oA Z Z (eN (sR (wJt (.fx 5 (.fx 6 (.fl 7 (.nil)) .stop) .stop)) Z (oM Z f288 (oM Z f286 (oM Z Z (bnK hm319 fun _ h331 hm332=>?_))))))
     obtain ⟨b333,hA334⟩:=hS330.rowSome (j:=0) rfl (by rw [wAD (f:=KL.encI) (sz:=1) (fun _=>rfl) l123];have hz:=wAq h331;omega)
     refine oR Z (ZG Z Z hA334 Z zC zA (wBa h331) (wBb h331)) ?_
     have hg335:=wCW (xs:=l123) (wAq h331)
     refine ZC rfl rfl rfl rfl (hS330.ldR (j:=0) rfl hA334 rfl rfl zI (wAZ (sz:=1) (fun _=>rfl) _ _ 0 _ hg335 (by first | omega | rfl | simp) rfl)) rfl (ZN (pv:=[(0,jV (gd l123 x317.toNat))]) (zs:=[jV 0]) (cs:=[jV (gd l123 x317.toNat)]) rfl rfl rfl rfl rfl (wAg rfl wBj) zC zA zz rfl rfl rfl rfl rfl hS330 ?_)
     intro W336 b337 hS338
     let B3:Res:=.row (some ⟨b337,0,none⟩) 1 3 1 (nA KL.encI [(gd l123 x317.toNat)])
     have hS340:sW w U U327 [B3,B1,.obj b80 (.map es120 ck121),.blk b36 141 (nA KL.encI a122.l),B2] W336:=hS338
     refine bnK hm332 fun x341 h342 hm343=>OKS.append (j:=4) (enc:=KL.encI) (xs:=l126) (ys:=[(gd l123 x317.toNat)]) (zs:=x341) rfl rfl rfl rfl rfl ZM wHU rfl rfl rfl rfl rfl rfl hS340 rfl rfl rfl (hS340.srcR (j:=0) rfl (by decide) (wAD (f:=KL.encI) (sz:=1) (fun _=>rfl) [(gd l123 x317.toNat)])) (fun _=>rfl) (fun _=>rfl) h342 rfl ?_
     intro A344 c345 W346 hS347
     let B4:Res:=.row A344 c345 3 1 (nA KL.encI x341)
     have hS348:sW w U U327 [B3,B1,.obj b80 (.map es120 ck121),.blk b36 141 (nA KL.encI a122.l),B4] W346:=hS347
     refine oA Z Z (eN (sR (wGr (.fx 4 (.fl 5 (.nil)) .stop)) Z (oM Z f286 (oM Z Z (oM Z Z (oR Z (zZ Z Z Z) (bnK hm343 fun x349 h350 hm351=>?_)))))))
     have hS352:sW w U U327 [B1,B3,.obj b80 (.map es120 ck121),.blk b36 141 (nA KL.encI a122.l),B4] W346:=hS348.pick [1,0,2,3,4] _ (by decide) rfl
     refine zL 1 Z Z Z Z (zK Z Z Tryz.call94 (zB Z (zB Z (zB Z zR))) Z) hS352 (fun hs=>wBo l123 A124 c125 x317 (w64 (x317 + 1)) W346 U327 hs h350) (.inl Z) ?_
     rintro U353 L354 v355 W356 le357 hS358 ⟨A359,c360,rfl,rfl⟩
     let B5:Res:=.row A359 c360 3 1 (nA KL.encI x349)
     have hS362:sW w U U353 [B5,B3,.obj b80 (.map es120 ck121),.blk b36 141 (nA KL.encI a122.l),B4] W356:=hS358
     refine oA Z Z (eN (sR (wJt (.fx 5 (.nil) .stop)) Z ?_))
     have h363:=hC297.le le328
     have h364:=h363.le le357
     refine oL Z (hS362.ldC (f:=0) h364 (v:=jV y179) Z f290 zI Z) (bnK hm351 fun _ h365 hm366=>oR Z (ZT Z f284 Z ze zA (wBa h365) (wBb h365)) ?_)
     have hg367:=Arr.at_ a122 (k:=y179.toNat) (by have hz0:=wAq h365;omega)
     refine ZC rfl rfl rfl rfl (hS362.ldB (j:=3) rfl rfl rfl zI (wAZ (sz:=1) (fun _=>rfl) _ _ 0 _ hg367 (by first | omega | rfl | simp) rfl)) rfl (zU rfl rfl rfl rfl (fun _=>ZK rfl rfl rfl) (zU rfl rfl rfl rfl (fun _=>ZT rfl f284 rfl ze zA (wBa h365) (wBb h365)) ?_))
     have hg368:=Arr.at_ a122 (k:=y179.toNat) (by have hz0:=wAq h365;omega)
     refine ZD (j:=3) (vs:=[jV (w64 ((a122.get y179.toNat) - 1))]) (cs':=nA KL.encI (a122.set y179.toNat (w64 ((a122.get y179.toNat) - 1))).l) rfl rfl rfl rfl hS362 rfl rfl rfl rfl zA (by have hz0:=wAq h365;simp only [nO,nQ,nR,wAW (f:=KL.encI) (sz:=1) (N:=31) a122 (fun _=>rfl) rfl];omega) rfl (wDg (sz:=1) (fo:=0) (fun _=>rfl) _ _ _ _ hg368 (by first | omega | rfl | simp) (zH rfl) rfl) rfl ?_
     intro W369 hS370
     have hS371:sW w U U353 [B5,B3,.obj b80 (.map es120 ck121),.blk b36 141 (nA KL.encI (a122.set y179.toNat (w64 ((a122.get y179.toNat) - 1))).l),B4] W369:=hS370
     refine eN (rR (wNG (.fx 3 (.nil) .stop)) rfl (zJ rfl rfl rfl rfl rfl f287 (ZC rfl rfl rfl rfl (hS371.ldC (f:=0) h364 (v:=jV y179) rfl f290 zI rfl) rfl (zJ rfl rfl rfl rfl rfl f289 (OKS.mapPut (x:=.tmp 109) (y:=.tmp 110) (z:=.tmp 111) (j:=2) (mk:=wEK) (mv:=wEV) (a:=y179) (v:=(↑k130:Int)) rfl rfl rfl (by first | exact .inl rfl | exact .inr rfl) hS371 rfl rfl rfl rfl (wCg ZF) wDr h158 rfl ?_)))))
     intro es372 ck373 W374 hr375 hS376
     have hS377:sW w U U353 [B5,B3,.obj b80 (.map es372 ck373),.blk b36 141 (nA KL.encI (a122.set y179.toNat (w64 ((a122.get y179.toNat) - 1))).l),B4] W374:=hS376
     refine zm (zW (zE (rR fL2 Z (oR Z (zn (zZ Z f292 Z) (congrArg (jV) hi160.out)) (oM Z Z (zm ?_))))))
     cases hm366
     exact zE ⟨rfl,⟨U353,es372,ck373,A359,c360,A344,c345,rfl,f283,f284,f285,rfl,f287,rfl,f291,((((le149.trans le281).trans le296).trans le328).trans le357),(hS377.pick [2,3,0,4] _ (by decide) rfl),hr375⟩⟩
   ·rintro σ388 W389 ⟨U408,e402,c403,A404,c405,A406,c407,fi391,f411,f412,f413,f414,f415,f416,f417,le409,hS410,h418⟩
    have c419:Hid (¬ ((↑(((↑p0.length:Int):Int) - 0).toNat:Int) < (↑p0.length:Int))):=zG (wBI)
    refine sR fL1 Z (oR Z (zQ Z fi391 f417) (eN (zD (cF Z c419 (ZB (zd (zd (zq (zE (sR fL5 Z (oM Z f416 (oM Z f413 (oA Z Z (oA Z Z (oA Z Z (eN (zM ?_)))))))))))))))))
    cases hm131
    exact ⟨rfl,_,(res3 rfl rfl rfl),U408,_,(hS410.pick [3] _ (by decide) rfl),A406,c407,rfl,rfl⟩
  ·intro c59 hm420
   refine cF Z c59 (kN (sR (.fl 0 (.fx 1 (.fl 2 (.nil)) .stop)) Z (oL Z (hS56.ldC (f:=0) h58 (v:=.slice pA0 p0.length pc0) Z Z zu Z) ?_)))
   have h421:=h24.le le32
   have h422:=h421.le le51
   refine bnK hm420 fun x423 h424 hm425=>zL 0 Z Z Z Z (zK Z Z Tryz.call89 (zB Z zR) Z) hS56 (fun hs=>wDZ p0 pA0 pc0 W50 U47 hs h422 h424) (.inr Z) ?_
   rintro U426 L427 v428 W429 le430 hS431 ⟨A432,c433,rfl,rfl⟩
   have hS435:sW w U U426 [.row A432 c433 3 1 (nA KL.encI x423),B0,.blk b36 141 (nA KL.encI x25.l)] W429:=hS431
   refine oA Z Z (eN (sR (.fx 0 (.fl 1 (.nil)) .stop) Z (OKS.makeMap Z Z Z Z Z hS435 ?_)))
   intro W436 b437 hS438
   have hr439:=MpR.nil wEK wEV
   refine oA Z Z (eN (sR fL1 Z (oA Z Z (eN (zD (sR fL3 Z ?_))))))
   have h441:=h58.le le430
   refine oL Z (hS438.ldC (f:=0) h441 (v:=.slice pA0 p0.length pc0) Z Z zu Z) (oR Z (zk Z Z zN) (oM Z Z (eN (zV ?_))))
   have q:=bnd hm425
   obtain ⟨⟨y492,y493,y494,y495⟩,hf489,hm488⟩:=q
   try dsimp only at hm488
   have q:=wBR hf489
   obtain ⟨hle490,hf491⟩:=q
   replace hle490:=zG hle490
   refine CK.forN' (fun k487 (l476,a479,l480,l483) σ_ w_=>∃ (U_:PHeap) (es477:Array MapEntry) (ck478:Nat) (A481:Option Addr) (c482:Nat) (A484:Option Addr) (c485:Nat),σ_ 49=jV (↑k487:Int)/\σ_ 1=.pointer (some ⟨b2,0,none⟩)/\σ_ 6=.pointer (some ⟨b36,0,none⟩)/\σ_ 9=jV (↑p0.length:Int)/\σ_ 10=.slice A481 l480.length c482/\σ_ 11=.map (some b437)/\σ_ 12=.slice A484 l483.length c485/\σ_ 48=jV (↑p0.length:Int)/\PHeap.Le U426 U_/\sW w U U_ [.obj b437 (.map es477 ck478),.blk b36 141 (nA KL.encI a479.l),.row A481 c482 3 1 (nA KL.encI l480),.row A484 c485 3 1 (nA KL.encI l483)] w_/\MpR es477 wEK wEV l476) hf491 ?_ ?_ ?_
   ·have hS496:=hS438.nilrow 3 1
    exact ⟨U426,#[],0,A432,c433,none,0,rfl,rfl,rfl,rfl,rfl,rfl,rfl,rfl,(zP _),(hS496.pick [1,4,2,0] _ (by decide) rfl),hr439⟩
   ·rintro k487 ⟨l476,a479,l480,l483⟩ xx500 σ498 W499 hk503 ⟨U505,es477,ck478,A481,c482,A484,c485,fi504,f508,f509,f510,f511,f512,f513,f514,le506,hS507,h515⟩ hx501
    try dsimp only at hx501
    have c516:Hid ((↑k487:Int) < (↑p0.length:Int)):=zG (wBf hk503)
    replace hk503:=zG hk503
    have hi517:Hid (w64 ((↑k487:Int) + 1)=(↑(k487 + 1):Int)):=zG (by have h1:=hle490.out;have h2:=c516.out;rw [wAY] <;> omega)
    refine sR fL1 Z (oR Z (zQ Z fi504 f514) (eN (zD (cT Z c516 (kN (zD (zV (sR fL2 Z (oM Z fi504 (oA Z Z (eN (sR (.fx 0 (.fx 1 (.nil) .stop) .stop) Z (ZI (cs:=[jV 0]) Z Z Z Z Z zz Z hS507 ?_)))))))))))))
    intro W518 b519 hS520
    refine ZD (j:=0) (vs:=[jV (-1)]) Z Z Z Z hS520 Z Z Z Z zA (zH Z) Z Z Z ?_
    intro W522 hS523
    let B6:Res:=.row A481 c482 3 1 (nA KL.encI l480)
    let B7:Res:=.row A484 c485 3 1 (nA KL.encI l483)
    have hS524:sW w U U505 [.blk b519 3 [jV (-1)],.obj b437 (.map es477 ck478),.blk b36 141 (nA KL.encI a479.l),B6,B7] W522:=hS523
    refine eN (zD (sR fL2 Z (oL Z (hS524.ldBA (j:=2) Z Z f509 Tryz.isAgg141 ZL (vs:=nA KL.encI a479.l) (wJN a479 (fun _=>Z) Z) (wAW a479 (fun _=>Z) Z)) (oM Z Z (eN (zV (bnK hx501 fun y536 hf533 hm532=>?_)))))))
    have q:=wBR hf533
    obtain ⟨hle534,hf535⟩:=q
    replace hle534:=zG hle534
    refine CK.forN' (fun k531 x530 σ_ w_=>∃ (U_:PHeap),σ_ 53=jV (↑k531:Int)/\σ_ 1=.pointer (some ⟨b2,0,none⟩)/\σ_ 6=.pointer (some ⟨b36,0,none⟩)/\σ_ 9=jV (↑p0.length:Int)/\σ_ 10=.slice A481 l480.length c482/\σ_ 11=.map (some b437)/\σ_ 12=.slice A484 l483.length c485/\σ_ 13=jV (↑k487:Int)/\σ_ 14=.pointer (some ⟨b519,0,none⟩)/\σ_ 48=jV (↑p0.length:Int)/\σ_ 49=jV (↑k487:Int)/\σ_ 52=.agg (nA KL.encI a479.l).toArray/\PHeap.Le U505 U_/\sW w U U_ [.blk b519 3 [jV x530],.obj b437 (.map es477 ck478),.blk b36 141 (nA KL.encI a479.l),B6,B7] w_) hf535 ?_ ?_ ?_
    ·exact ⟨U505,Z,f508,f509,f510,f511,f512,f513,Z,Z,f514,fi504,Z,(zP _),hS524⟩
    ·rintro k531 x530 xx539 σ537 W538 hk542 ⟨U544,fi543,f547,f548,f549,f550,f551,f552,f553,f554,f555,f556,f557,le545,hS546⟩ hx540
     have c558:Hid ((↑k531:Int) < 31):=zG (wBf hk542)
     replace hk542:=zG hk542
     have hi559:Hid (w64 ((↑k531:Int) + 1)=(↑(k531 + 1):Int)):=zG (by have h1:=hle534.out;have h2:=c558.out;rw [wAY] <;> omega)
     refine sR fL1 Z (oR Z (zQ Z fi543 Z) (eN (zD (cT Z c558 (kN (bnK hx540 fun x560 hx562 hm563=>CK.cut (fun σ_ w_=>∃ (U_:PHeap),σ_ 1=.pointer (some ⟨b2,0,none⟩)/\σ_ 6=.pointer (some ⟨b36,0,none⟩)/\σ_ 9=jV (↑p0.length:Int)/\σ_ 10=.slice A481 l480.length c482/\σ_ 11=.map (some b437)/\σ_ 12=.slice A484 l483.length c485/\σ_ 13=jV (↑k487:Int)/\σ_ 14=.pointer (some ⟨b519,0,none⟩)/\σ_ 48=jV (↑p0.length:Int)/\σ_ 49=jV (↑k487:Int)/\σ_ 52=.agg (nA KL.encI a479.l).toArray/\σ_ 53=jV (↑k531:Int)/\PHeap.Le U544 U_/\sW w U U_ [.blk b519 3 [jV x560],.obj b437 (.map es477 ck478),.blk b36 141 (nA KL.encI a479.l),B6,B7] w_) ?_ ?_))))))
     ·refine zV (sR fL4 rfl (zJ rfl rfl rfl rfl rfl fi543 (bnK hx562 fun x564 h565 hm566=>zU rfl rfl rfl rfl (fun _=>Runs.ixA (cs:=nA KL.encI (a479.l:List Int)) rfl f557 fi543 ze zA (wCR h565) (by have q_:=wCf h565;rw [(a479).h] at q_;exact q_) (wCe zI (wCK (sz:=1) (fun _=>rfl) _ _ 0 _ _ (wBA h565) rfl))) (ZS rfl rfl rfl rfl rfl rfl (ZS rfl rfl rfl rfl rfl rfl (eN (sR fL8 rfl (zJ rfl rfl rfl rfl rfl f551 (zJ rfl rfl rfl rfl rfl rfl (ZC rfl rfl rfl rfl (hS546.lookup2 (j:=1) (mk:=wEK) (mv:=wEV) (a:=(↑k531:Int)) (z:=0) rfl rfl rfl rfl (wCg ZF) wDr zz h515) rfl (zJ rfl rfl rfl rfl rfl rfl (zU rfl rfl rfl rfl (fun _=>zp rfl rfl (v:=jV (wBh l476 (↑k531:Int) 0)) rfl) (zU rfl rfl rfl rfl (fun _=>zp rfl rfl (v:=.bool (wEz l476 (↑k531:Int))) rfl) (ZS rfl rfl rfl rfl rfl rfl (ZS rfl rfl rfl rfl rfl rfl (eN (sR fL24 rfl (zJ rfl rfl rfl rfl rfl rfl (zU rfl rfl rfl rfl (fun _=>Runs.gtr rfl rfl rfl) (zJ rfl rfl rfl rfl rfl rfl (ifc hm566 ?_ ?_)))))))))))))))))))))
      ·intro c567 hm568
       refine zJ Z Z Z (wT Z c567) Z Z (rU Z (wT Z c567) (ZU Z Z) (zJ Z Z Z (wT Z c567) Z Z (ifc hm568 ?_ ?_)))
       ·intro c569 hm570
        refine zJ Z Z Z (zO Z Z (nC c569.out)) Z f553 (zJ Z Z Z (zO Z Z (nC c569.out)) Z Z (zU Z Z Z (zO Z Z (nC c569.out)) (fun _=>ZK Z Z Z) (zJ Z Z Z (zO Z Z (nC c569.out)) Z f549 (zU Z Z Z (zO Z Z (nC c569.out)) (fun _=>Runs.geq Z Z Z) (rU Z (wT Z c567) (zX Z (nC c569.out) Z) (oR Z (zS Z (ZE c567.out) Z) (oM Z Z (ifc hm570 ?_ ?_))))))))
        ·intro c571 hm572
         refine ZC Z Z Z (wT Z c571) (hS546.ldB (j:=0) Z Z f554 zI (v:=jV x530) Z) Z (rU Z (wT Z c571) (zQ Z Z Z) (zJ Z Z Z (wT Z c571) Z Z (ifc hm572 ?_ ?_)))
         ·intro c573 hm574
          refine oT Z c573 (oT Z c573 (oT Z c573 (oT Z c573 (oT Z c573 (rU Z (wT Z c571) (zS Z (ZE c573.out) Z) (oR Z (zS Z (ZE c571.out) Z) (eN (zf Z (rR (.fl 0 (.fx 1 (.nil) .stop)) Z (oM Z Z (ZD (j:=0) (vs:=[jV (↑k531:Int)]) Z Z Z Z hS546 Z f554 Z Z zA (zH Z) Z Z Z ?_)))))))))))
          intro W575 hS576
          have hS577:sW w U U544 [.blk b519 3 [jV (↑k531:Int)],.obj b437 (.map es477 ck478),.blk b36 141 (nA KL.encI a479.l),B6,B7] W575:=hS576
          refine zm (zW ?_)
          cases hm574
          exact zE ⟨Z,⟨U544,f547,f548,f549,f550,f551,f552,f553,f554,f555,f556,f557,fi543,(zP _),hS577⟩⟩
         ·intro c573 hm579
          refine zJ Z Z Z (wF Z c573) Z Z (ZC Z Z Z (wF Z c573) (hS546.ldB (j:=0) Z Z f554 zI (v:=jV x530) Z) Z (bnK hm579 fun _ h580 hm581=>rU Z (wF Z c573) (ZT Z f548 Z ze zA (wBa h580) (wBb h580)) ?_))
          have hg582:=Arr.at_ a479 (k:=x530.toNat) (by have hz0:=wAq h580;omega)
          refine ZC rfl rfl rfl (zO rfl rfl (zg c573.out)) (hS546.ldB (j:=2) rfl rfl rfl zI (wAZ (sz:=1) (fun _=>rfl) _ _ 0 _ hg582 (by first | omega | rfl | simp) rfl)) rfl (zU rfl rfl rfl (zO rfl rfl (zg c573.out)) (fun _=>Runs.gtr rfl rfl rfl) (zU rfl rfl rfl (zO rfl rfl (ZE c571.out)) (fun _=>zX rfl (zg c573.out) rfl) (zU rfl rfl rfl rfl (fun _=>zS rfl (ZE c571.out) rfl) (eN (ifc hm581 ?_ ?_)))))
          ·intro c583 hm584
           refine cT Z c583 (rR (.fl 0 (.fx 1 (.nil) .stop)) Z (oM Z Z (ZD (j:=0) (vs:=[jV (↑k531:Int)]) Z Z Z Z hS546 Z f554 Z Z zA (zH Z) Z Z Z ?_)))
           intro W585 hS586
           have hS587:sW w U U544 [.blk b519 3 [jV (↑k531:Int)],.obj b437 (.map es477 ck478),.blk b36 141 (nA KL.encI a479.l),B6,B7] W585:=hS586
           refine zm (zW ?_)
           cases hm584
           exact zE ⟨Z,⟨U544,f547,f548,f549,f550,f551,f552,f553,f554,f555,f556,f557,fi543,(zP _),hS587⟩⟩
          ·intro c583 hm589
           refine cF Z c583 (zw (zW ?_))
           cases hm589
           exact zE ⟨Z,⟨U544,f547,f548,f549,f550,f551,f552,f553,f554,f555,f556,f557,fi543,(zP _),hS546⟩⟩
        ·intro c571 hm591
         refine oF Z c571 (oF Z c571 (oF Z c571 (zh Z Z Z (wAT Z Z Z) (zh Z Z Z (wAT Z Z Z) (zh Z Z Z (wAT Z Z Z) (zh Z Z Z (wAT Z Z Z) (zh Z Z Z (wAT Z Z Z) (oF Z c571 (oR Z (zX Z (zg c571.out) Z) (eN (zi Z (zw (zW ?_)))))))))))))
         cases hm591
         exact zE ⟨Z,⟨U544,f547,f548,f549,f550,f551,f552,f553,f554,f555,f556,f557,fi543,(zP _),hS546⟩⟩
       ·intro c569 hm593
        refine zh Z Z Z (zx Z Z (nF (c569.out)) Z) (zh Z Z Z (zx Z Z (nF (c569.out)) Z) (zh Z Z Z (zx Z Z (nF (c569.out)) Z) (zh Z Z Z (zx Z Z (nF (c569.out)) Z) (zh Z Z Z (zx Z Z (nF (c569.out)) Z) (rU Z (wT Z c567) (zS Z (nF (c569.out)) Z) (oR Z (zS Z (ZE c567.out) Z) (oM Z Z (ZC Z Z Z (zO Z Z Z) (hS546.ldB (j:=0) Z Z f554 zI (v:=jV x530) Z) Z (zU Z Z Z (zO Z Z Z) (fun _=>zQ Z Z Z) (zJ Z Z Z (zO Z Z Z) Z Z (ifc hm593 ?_ ?_)))))))))))
        ·intro c594 hm595
         refine oT Z c594 (oT Z c594 (oT Z c594 (oT Z c594 (oT Z c594 (zU Z Z Z (zO Z Z Z) (fun _=>zS Z (ZE c594.out) Z) (oR Z (zS Z Z Z) (eN (zf Z (rR (.fl 0 (.fx 1 (.nil) .stop)) Z (oM Z Z (ZD (j:=0) (vs:=[jV (↑k531:Int)]) Z Z Z Z hS546 Z f554 Z Z zA (zH Z) Z Z Z ?_)))))))))))
         intro W596 hS597
         have hS598:sW w U U544 [.blk b519 3 [jV (↑k531:Int)],.obj b437 (.map es477 ck478),.blk b36 141 (nA KL.encI a479.l),B6,B7] W596:=hS597
         refine zm (zW ?_)
         cases hm595
         exact zE ⟨Z,⟨U544,f547,f548,f549,f550,f551,f552,f553,f554,f555,f556,f557,fi543,(zP _),hS598⟩⟩
        ·intro c594 hm600
         refine zJ Z Z Z (wF Z c594) Z Z (ZC Z Z Z (wF Z c594) (hS546.ldB (j:=0) Z Z f554 zI (v:=jV x530) Z) Z (bnK hm600 fun _ h601 hm602=>rU Z (wF Z c594) (ZT Z f548 Z ze zA (wBa h601) (wBb h601)) ?_))
         have hg603:=Arr.at_ a479 (k:=x530.toNat) (by have hz0:=wAq h601;omega)
         refine ZC rfl rfl rfl (zO rfl rfl (zg c594.out)) (hS546.ldB (j:=2) rfl rfl rfl zI (wAZ (sz:=1) (fun _=>rfl) _ _ 0 _ hg603 (by first | omega | rfl | simp) rfl)) rfl (zU rfl rfl rfl (zO rfl rfl (zg c594.out)) (fun _=>Runs.gtr rfl rfl rfl) (zU rfl rfl rfl (zO rfl rfl rfl) (fun _=>zX rfl (zg c594.out) rfl) (zU rfl rfl rfl rfl (fun _=>zS rfl rfl rfl) (eN (ifc hm602 ?_ ?_)))))
         ·intro c604 hm605
          refine cT Z c604 (rR (.fl 0 (.fx 1 (.nil) .stop)) Z (oM Z Z (ZD (j:=0) (vs:=[jV (↑k531:Int)]) Z Z Z Z hS546 Z f554 Z Z zA (zH Z) Z Z Z ?_)))
          intro W606 hS607
          have hS608:sW w U U544 [.blk b519 3 [jV (↑k531:Int)],.obj b437 (.map es477 ck478),.blk b36 141 (nA KL.encI a479.l),B6,B7] W606:=hS607
          refine zm (zW ?_)
          cases hm605
          exact zE ⟨Z,⟨U544,f547,f548,f549,f550,f551,f552,f553,f554,f555,f556,f557,fi543,(zP _),hS608⟩⟩
         ·intro c604 hm610
          refine cF Z c604 (zw (zW ?_))
          cases hm610
          exact zE ⟨Z,⟨U544,f547,f548,f549,f550,f551,f552,f553,f554,f555,f556,f557,fi543,(zP _),hS546⟩⟩
      ·intro c567 hm612
       refine oF Z c567 (oF Z c567 (oF Z c567 (zh Z Z Z (wAT Z Z Z) (zh Z Z Z (wAT Z Z Z) (zh Z Z Z (wAT Z Z Z) (zh Z Z Z (wAT Z Z Z) (zh Z Z Z (wAT Z Z Z) (oF Z c567 (oR Z (zX Z (zg c567.out) Z) (oM Z Z (oN Z (oN Z (oN Z (zh Z Z Z (wAT Z Z Z) (zh Z Z Z (wAT Z Z Z) (zh Z Z Z (wAT Z Z Z) (zh Z Z Z (wAT Z Z Z) (zh Z Z Z (wAT Z Z Z) (oN Z (oR Z (zX Z Z Z) (eN (zi Z (zw (zW ?_))))))))))))))))))))))))
       cases hm612
       exact zE ⟨Z,⟨U544,f547,f548,f549,f550,f551,f552,f553,f554,f555,f556,f557,fi543,(zP _),hS546⟩⟩
     ·rintro σ614 W615 ⟨U616,f619,f620,f621,f622,f623,f624,f625,f626,f627,f628,f629,f630,le617,hS618⟩
      refine rR fL2 Z (oR Z (zn (zZ Z f630 Z) (congrArg (jV) hi559.out)) (oM Z Z (zm ?_)))
      cases hm563
      exact zE ⟨Z,⟨U616,Z,f619,f620,f621,f622,f623,f624,f625,f626,f627,f628,f629,(le545.trans le617),hS618⟩⟩
    ·rintro σ632 W633 ⟨U637,fi635,f640,f641,f642,f643,f644,f645,f646,f647,f648,f649,f650,le638,hS639⟩
     have c651:Hid (¬ ((↑((31:Int) - 0).toNat:Int) < 31)):=zG (wBI)
     refine sR fL1 Z (oR Z (zQ Z fi635 Z) (eN (zD (cF Z c651 (ZB (zd (zd (zq (zE (sR (.fl 0 (.fl 1 (.fx 2 (.fl 3 (.nil)) .stop))) Z (oM Z f643 ?_)))))))))))
     have q:=hS639.freeze (k:=0) rfl
     obtain ⟨U652,le653,hC654,hS655⟩:=q
     replace hC654:=Cl.of hC654
     have hS656:sW w U U652 [.obj b437 (.map es477 ck478),.blk b36 141 (nA KL.encI a479.l),B6,B7] W633:=hS655
     replace hC654:Cl U652 b519 0 [jV y536]:=hC654
     refine oR Z (Runs.mkf Z zR (zB f640 (zB f647 zR))) ?_
     have q:=hS656.freezeT (k:=2) (n:=l480.length) rfl (wAD (f:=KL.encI) (sz:=1) (fun _=>rfl) l480) (by decide)
     obtain ⟨U658,le659,hs660,hS661,th657⟩:=q
     have hS662:sW w U U658 [.obj b437 (.map es477 ck478),.blk b36 141 (nA KL.encI a479.l),B7] W633:=hS661
     have h663:=h441.le le506
     have h664:=h663.le le638
     have h665:=h664.le le653
     have h666:=h665.le le659
     have h667:=h422.le le430
     have h668:=h667.le le506
     have h669:=h668.le le638
     have h670:=h669.le le653
     have h671:=h670.le le659
     have h672:=hC654.le le659
     have hF673:FnOK Tryz.prog U658 (.func (.func 93) #[] #[.pointer (some ⟨b2,0,none⟩),.pointer (some ⟨b519,0,none⟩)]) wHS wHT (fun x=>wAV x p0 y536):=⟨93,[],[.pointer (some ⟨b2,0,none⟩),.pointer (some ⟨b519,0,none⟩)],rfl,Tryz.call93,fun U1 w1 x y vs le hs ha hm=>by obtain rfl:=ha;exact wCx x p0 b2 pA0 pc0 y536 b519 w1 U1 hs (h666.le le) (h671.le le) (h672.le le) hm⟩
     refine bnK hm532 fun x674 h675 hm676=>zL 0 Z Z Z Z (zK Z Z Tryz.call92 (zB Z (zB Z zR)) Z) hS662 (fun hs=>wBX l480 A481 c482 (fun x=>wAV x p0 y536) (.func (.func 93) #[] #[.pointer (some ⟨b2,0,none⟩),.pointer (some ⟨b519,0,none⟩)]) W633 U658 hs hs660 hF673 h675) (.inr Z) ?_
     rintro U677 L678 v679 W680 le681 hS682 ⟨rfl,rfl⟩
     have hS683:sW w U U677 [.obj b437 (.map es477 ck478),.blk b36 141 (nA KL.encI a479.l),B7] W680:=hS682
     have q:=th657 _ _ _ le681 hS683
     obtain ⟨U684,le685,hS686⟩:=q
     have hS687:sW w U U684 [B6,.obj b437 (.map es477 ck478),.blk b36 141 (nA KL.encI a479.l),B7] W680:=hS686
     refine oA Z Z (eN (sR (wJt (.fx 5 (.fx 6 (.fl 7 (.nil)) .stop) .stop)) Z (oM Z f645 (oM Z f643 (oM Z Z (bnK hm676 fun _ h688 hm689=>?_))))))
     obtain ⟨b690,hA691⟩:=hS687.rowSome (j:=0) rfl (by rw [wAD (f:=KL.encI) (sz:=1) (fun _=>rfl) l480];have hz:=wAq h688;omega)
     refine oR Z (ZG Z Z hA691 Z zC zA (wBa h688) (wBb h688)) ?_
     have hg692:=wCW (xs:=l480) (wAq h688)
     refine ZC rfl rfl rfl rfl (hS687.ldR (j:=0) rfl hA691 rfl rfl zI (wAZ (sz:=1) (fun _=>rfl) _ _ 0 _ hg692 (by first | omega | rfl | simp) rfl)) rfl (ZN (pv:=[(0,jV (gd l480 x674.toNat))]) (zs:=[jV 0]) (cs:=[jV (gd l480 x674.toNat)]) rfl rfl rfl rfl rfl (wAg rfl wBj) zC zA zz rfl rfl rfl rfl rfl hS687 ?_)
     intro W693 b694 hS695
     let B8:Res:=.row (some ⟨b694,0,none⟩) 1 3 1 (nA KL.encI [(gd l480 x674.toNat)])
     have hS697:sW w U U684 [B8,B6,.obj b437 (.map es477 ck478),.blk b36 141 (nA KL.encI a479.l),B7] W693:=hS695
     refine bnK hm689 fun x698 h699 hm700=>OKS.append (j:=4) (enc:=KL.encI) (xs:=l483) (ys:=[(gd l480 x674.toNat)]) (zs:=x698) rfl rfl rfl rfl rfl ZM wHU rfl rfl rfl rfl rfl rfl hS697 rfl rfl rfl (hS697.srcR (j:=0) rfl (by decide) (wAD (f:=KL.encI) (sz:=1) (fun _=>rfl) [(gd l480 x674.toNat)])) (fun _=>rfl) (fun _=>rfl) h699 rfl ?_
     intro A701 c702 W703 hS704
     let B9:Res:=.row A701 c702 3 1 (nA KL.encI x698)
     have hS705:sW w U U684 [B8,B6,.obj b437 (.map es477 ck478),.blk b36 141 (nA KL.encI a479.l),B9] W703:=hS704
     refine oA Z Z (eN (sR (wGr (.fx 4 (.fl 5 (.nil)) .stop)) Z (oM Z f643 (oM Z Z (oM Z Z (oR Z (zZ Z Z Z) (bnK hm700 fun x706 h707 hm708=>?_)))))))
     have hS709:sW w U U684 [B6,B8,.obj b437 (.map es477 ck478),.blk b36 141 (nA KL.encI a479.l),B9] W703:=hS705.pick [1,0,2,3,4] _ (by decide) rfl
     refine zL 1 Z Z Z Z (zK Z Z Tryz.call94 (zB Z (zB Z (zB Z zR))) Z) hS709 (fun hs=>wBo l480 A481 c482 x674 (w64 (x674 + 1)) W703 U684 hs h707) (.inl Z) ?_
     rintro U710 L711 v712 W713 le714 hS715 ⟨A716,c717,rfl,rfl⟩
     let B10:Res:=.row A716 c717 3 1 (nA KL.encI x706)
     have hS719:sW w U U710 [B10,B8,.obj b437 (.map es477 ck478),.blk b36 141 (nA KL.encI a479.l),B9] W713:=hS715
     refine oA Z Z (eN (sR (wJt (.fx 5 (.nil) .stop)) Z ?_))
     have h720:=hC654.le le685
     have h721:=h720.le le714
     refine oL Z (hS719.ldC (f:=0) h721 (v:=jV y536) Z f647 zI Z) (bnK hm708 fun _ h722 hm723=>oR Z (ZT Z f641 Z ze zA (wBa h722) (wBb h722)) ?_)
     have hg724:=Arr.at_ a479 (k:=y536.toNat) (by have hz0:=wAq h722;omega)
     refine ZC rfl rfl rfl rfl (hS719.ldB (j:=3) rfl rfl rfl zI (wAZ (sz:=1) (fun _=>rfl) _ _ 0 _ hg724 (by first | omega | rfl | simp) rfl)) rfl (zU rfl rfl rfl rfl (fun _=>ZK rfl rfl rfl) (zU rfl rfl rfl rfl (fun _=>ZT rfl f641 rfl ze zA (wBa h722) (wBb h722)) ?_))
     have hg725:=Arr.at_ a479 (k:=y536.toNat) (by have hz0:=wAq h722;omega)
     refine ZD (j:=3) (vs:=[jV (w64 ((a479.get y536.toNat) - 1))]) (cs':=nA KL.encI (a479.set y536.toNat (w64 ((a479.get y536.toNat) - 1))).l) rfl rfl rfl rfl hS719 rfl rfl rfl rfl zA (by have hz0:=wAq h722;simp only [nO,nQ,nR,wAW (f:=KL.encI) (sz:=1) (N:=31) a479 (fun _=>rfl) rfl];omega) rfl (wDg (sz:=1) (fo:=0) (fun _=>rfl) _ _ _ _ hg725 (by first | omega | rfl | simp) (zH rfl) rfl) rfl ?_
     intro W726 hS727
     have hS728:sW w U U710 [B10,B8,.obj b437 (.map es477 ck478),.blk b36 141 (nA KL.encI (a479.set y536.toNat (w64 ((a479.get y536.toNat) - 1))).l),B9] W726:=hS727
     refine eN (rR (wNG (.fx 3 (.nil) .stop)) rfl (zJ rfl rfl rfl rfl rfl f644 (ZC rfl rfl rfl rfl (hS728.ldC (f:=0) h721 (v:=jV y536) rfl f647 zI rfl) rfl (zJ rfl rfl rfl rfl rfl f646 (OKS.mapPut (x:=.tmp 109) (y:=.tmp 110) (z:=.tmp 111) (j:=2) (mk:=wEK) (mv:=wEV) (a:=y536) (v:=(↑k487:Int)) rfl rfl rfl (by first | exact .inl rfl | exact .inr rfl) hS728 rfl rfl rfl rfl (wCg ZF) wDr h515 rfl ?_)))))
     intro es729 ck730 W731 hr732 hS733
     have hS734:sW w U U710 [B10,B8,.obj b437 (.map es729 ck730),.blk b36 141 (nA KL.encI (a479.set y536.toNat (w64 ((a479.get y536.toNat) - 1))).l),B9] W731:=hS733
     refine zm (zW (zE (rR fL2 Z (oR Z (zn (zZ Z f649 Z) (congrArg (jV) hi517.out)) (oM Z Z (zm ?_))))))
     cases hm723
     exact zE ⟨rfl,⟨U710,es729,ck730,A716,c717,A701,c702,rfl,f640,f641,f642,rfl,f644,rfl,f648,((((le506.trans le638).trans le653).trans le685).trans le714),(hS734.pick [2,3,0,4] _ (by decide) rfl),hr732⟩⟩
   ·rintro σ745 W746 ⟨U765,e759,c760,A761,c762,A763,c764,fi748,f768,f769,f770,f771,f772,f773,f774,le766,hS767,h775⟩
    have c776:Hid (¬ ((↑(((↑p0.length:Int):Int) - 0).toNat:Int) < (↑p0.length:Int))):=zG (wBI)
    refine sR fL1 Z (oR Z (zQ Z fi748 f774) (eN (zD (cF Z c776 (ZB (zd (zd (zq (zE (sR fL5 Z (oM Z f773 (oM Z f770 (oA Z Z (oA Z Z (oA Z Z (eN (zM ?_)))))))))))))))))
    cases hm488
    exact ⟨rfl,_,(res3 rfl rfl rfl),U765,_,(hS767.pick [3] _ (by decide) rfl),A763,c764,rfl,rfl⟩
 ·intro c21 hm777
  refine cT Z c21 (sR fL4 Z (oM Z Z (oA Z Z (oA Z Z (oA Z Z (eN (zM (zF ?_))))))))
  have hS778:=hS20.nilrow 3 1
  cases hm777
  exact ⟨Z,_,(res3 Z Z Z),U14,_,hS778,none,0,Z,Z⟩
end Go.Proofs.YtghaibkggdecnaaGreat
namespace Go.Proofs.YtghaibkggdecnaaGreat
open Go.KL
set_option maxHeartbeats 4000000
theorem wEX (p0:Int) (p1:List wAA) (pb1:Nat) (pA1:Option Addr) (pc1:Nat) (w:World) (U:PHeap) (hS:St0 w U []) (ha0:Cl U pb1 0 [.slice pA1 p1.length pc1]) (ha1:Sl U 3 pA1 pc1 p1.length (nA wAG p1)) {r:Bool} (hm:wAl p0 p1=some r):Gv Tryz.prog 147 [jV p0,.pointer (some ⟨pb1,0,none⟩)] w (wCX w [] U (fun U_ L_ v=>v=.bool r/\L_=[])):=by
 unfold wAl at hm
 refine Gv.of Tryz.func147 Z Tryz.ntmps147 Tryz.results147 Z (sR fL1 Z (oA Z Z (eN (sR (wGr (.fx 4 (.fl 5 (.nil)) .stop)) Z (oM Z Z (oL Z (hS.ldC (f:=0) ha0 (v:=.slice pA1 p1.length pc1) Z Z zu Z) (oR Z (zk Z Z zN) (oR Z (ZK Z Z Z) (bnK hm fun x1 h2 hm3=>zL 0 Z Z Z Z (zK Z Z Tryz.call86 (zB Z (zB Z (zB Z zR))) Z) hS (fun hs=>wDV p0 0 (w64 ((↑p1.length:Int) - 1)) w U hs h2) (.inr Z) ?_)))))))))
 rintro U4 L5 v6 W7 le8 hS9 ⟨rfl,rfl⟩
 have hS10:sW w U U4 [] W7:=hS9
 refine oA Z Z (eN (zM ?_))
 have hE:=nB hm3;first | subst r | cases hE
 exact ⟨Z,_,(zl Z),U4,_,hS10,Z,Z⟩
theorem wFd (p0:List wAA) (pA0:Option Addr) (pc0:Nat) (p1:List Int) (pA1:Option Addr) (pc1:Nat) (w:World) (U:PHeap) (hS:St0 w U []) (ha0:Sl U 3 pA0 pc0 p0.length (nA wAG p0)) (ha1:Sl U 1 pA1 pc1 p1.length (nA KL.encI p1)) {r:Int} (hm:wBK p0 p1=some r):Gv Tryz.prog 108 [.slice pA0 p0.length pc0,.slice pA1 p1.length pc1] w (wCX w [] U (fun U_ L_ v=>v=jV r/\L_=[])):=by
 unfold wBK at hm
 refine Gv.of Tryz.func108 rfl Tryz.ntmps108 Tryz.results108 rfl (sR (.fx 0 (.fl 1 (.nil)) .stop) rfl (OKS.box (cs:=[.slice pA0 p0.length pc0]) rfl rfl rfl rfl rfl rfl (by rfl) hS ?_))
 intro W1 b2 hS3
 have q:=hS3.freeze (k:=0) rfl
 obtain ⟨U5,le6,hC7,hS8⟩:=q
 replace hC7:=Cl.of hC7
 have hS9:sW w U U5 [] W1:=hS8
 replace hC7:Cl U5 b2 0 [.slice pA0 p0.length pc0]:=hC7
 refine oA Z Z (eN (sR (.fl 0 (.fx 1 (.fl 2 (.nil)) .stop)) Z (oL Z (hS9.ldC (f:=0) hC7 (v:=.slice pA0 p0.length pc0) Z Z zu Z) ?_)))
 have h10:=ha0.le le6
 refine bnK hm fun x11 h12 hm13=>zL 0 Z Z Z Z (zK Z Z Tryz.call41 (zB Z zR) Z) hS9 (fun hs=>wCI p0 pA0 pc0 W1 U5 hs h10 h12) (.inr Z) ?_
 rintro U14 L15 v16 W17 le18 hS19 ⟨rfl,rfl⟩
 have hS20:sW w U U14 [] W17:=hS19
 refine oA Z Z (eN (zD (zV (sR fL3 Z (oM Z Z (oR Z (zt Z Z Z) (oA Z Z (eN (ifc hm13 ?_ ?_)))))))))
 ·intro c21 hm22
  refine zi (zg (fun h=>h c21.out)) (sR fL6 Z (oM Z Z (oR Z (zk Z Z zC) ?_)))
  have h23:=hC7.le le18
  refine oL Z (hS20.ldC (f:=0) h23 (v:=.slice pA0 p0.length pc0) Z Z zu Z) (oR Z (zk Z Z zN) (oR Z (zt Z Z Z) (oA Z Z (eN (ifc hm22 ?_ ?_)))))
  ·intro c24 hm25
   refine zi (zg (fun h=>h c24.out)) (sR (.fl 0 (.fl 1 (.fx 2 (.fl 3 (.fl 4 (.nil))) .stop))) Z (oM Z Z (oR Z (Runs.mkf Z zR (zB Z zR)) ?_)))
   have h26:=ha1.le le6
   have h27:=h26.le le18
   have h28:=h10.le le18
   have hF29:FnOK Tryz.prog U14 (.func (.func 147) #[] #[.pointer (some ⟨b2,0,none⟩)]) wHS wHT (fun x=>wAl x p0):=⟨147,[],[.pointer (some ⟨b2,0,none⟩)],rfl,Tryz.call147,fun U1 w1 x y vs le hs ha hm=>by obtain rfl:=ha;exact wEX x p0 b2 pA0 pc0 w1 U1 hs (h23.le le) (h28.le le) hm⟩
   refine bnK hm25 fun x30 h31 hm32=>zL 0 Z Z Z Z (zK Z Z Tryz.call99 (zB Z (zB Z zR)) Z) hS20 (fun hs=>wBm p1 pA1 pc1 (fun x=>wAl x p0) (.func (.func 147) #[] #[.pointer (some ⟨b2,0,none⟩)]) W17 U14 hs h27 hF29 h31) (.inr Z) ?_
   rintro U33 L34 v35 W36 le37 hS38 ⟨rfl,rfl⟩
   have hS39:sW w U U33 [] W36:=hS38
   refine oR Z (ZU Z Z) (oA Z Z (eN (ifc hm32 ?_ ?_)))
   ·intro c40 hm41
    refine zi (nC c40.out) (sR (.fl 0 (.fx 1 (.fl 2 (.nil)) .stop)) Z (oM Z Z ?_))
    have h42:=h27.le le37
    refine bnK hm41 fun x43 h44 hm45=>zL 0 Z Z Z Z (zK Z Z Tryz.call87 (zB Z zR) Z) hS39 (fun hs=>wCq p1 pA1 pc1 W36 U33 hs h42 h44) (.inr Z) ?_
    rintro U46 L47 v48 W49 le50 hS51 ⟨rfl,rfl⟩
    have hS52:sW w U U46 [] W49:=hS51
    refine oA Z Z (eN (ifc hm45 ?_ ?_))
    ·intro c53 hm54
     refine zf (congrArg nD c53.out) (sR fL1 Z (oA Z Z (eN (zM (zY (zF ?_))))))
     cases hm54
     exact ⟨Z,_,(zl Z),U46,_,hS52,Z,Z⟩
    ·intro c53 hm55
     refine zi (congrArg nD (nE.2 c53.out)) (zw (zW (zE (sR fL1 Z (oA Z Z (eN (zM ?_)))))))
     cases hm55
     exact ⟨Z,_,(zl Z),U46,_,hS52,Z,Z⟩
   ·intro c40 hm56
    refine zf (nF (c40.out)) (sR fL1 Z (oA Z Z (eN (zM (zY (zF ?_))))))
    cases hm56
    exact ⟨Z,_,(zl Z),U33,_,hS39,Z,Z⟩
  ·intro c24 hm57
   refine cT Z c24 (sR fL1 Z (oA Z Z (eN (zM (zY (zF ?_))))))
   cases hm57
   exact ⟨Z,_,(zl Z),U14,_,hS20,Z,Z⟩
 ·intro c21 hm58
  refine cT Z c21 (sR fL2 Z (oM Z Z (oA Z Z (eN (zM (zY (zF ?_)))))))
  have hE:=nB hm58;first | subst r | cases hE
  exact ⟨Z,_,(zl Z),U14,_,hS20,Z,Z⟩
theorem wCr (p0:List wAA) (pA0:Option Addr) (pc0:Nat) (p1:List Int) (pA1:Option Addr) (pc1:Nat) (w:World) (U:PHeap) (hS:St0 w U []) (ha0:Sl U 3 pA0 pc0 p0.length (nA wAG p0)) (ha1:Sl U 1 pA1 pc1 p1.length (nA KL.encI p1)) {r:Int × Int} (hm:wAn p0 p1=some r):Gv Tryz.prog 51 [.slice pA0 p0.length pc0,.slice pA1 p1.length pc1] w (wCX w [] U (fun U_ L_ v=>v=.tuple #[jV r.1,jV r.2]/\L_=[])):=by
 unfold wAn at hm
 refine Gv.of Tryz.func51 Z Tryz.ntmps51 Tryz.results51 Z (sR fL2 Z (oA Z Z (oA Z Z (eN (zD (sR (.fl 0 (.fl 1 (.fx 2 (.fl 3 (.nil)) .stop))) Z (oM Z Z (oM Z Z (bnK hm fun x1 h2 hm3=>zL 0 Z Z Z Z (zK Z Z Tryz.call108 (zB Z (zB Z zR)) Z) hS (fun hs=>wFd p0 pA0 pc0 p1 pA1 pc1 w U hs ha0 ha1 h2) (.inr Z) ?_)))))))))
 rintro U4 L5 v6 W7 le8 hS9 ⟨rfl,rfl⟩
 have hS10:sW w U U4 [] W7:=hS9
 refine oA Z Z (eN (sR fL2 Z (oM Z Z (oR Z (zt Z Z Z) (eN (ifc hm3 ?_ ?_))))))
 ·intro c11 hm12
  refine zi (zg (fun h=>h c11.out)) (kN (sR fL3 Z (oM Z Z (oR Z (zk Z Z zN) (oA Z Z (eN (sR (.fx 0 (.fl 1 (.nil)) .stop) Z (OKS.makeMap Z Z Z Z Z hS10 ?_))))))))
  intro W13 b14 hS15
  have hr16:=MpR.nil wEK wEV
  refine oA Z Z (eN (zD (sR fL3 Z (oM Z Z (oR Z (zk Z Z zC) (oM Z Z (eN (zV ?_))))))))
  have q:=bnd hm12
  obtain ⟨⟨y41,y42⟩,hf38,hm37⟩:=q
  try dsimp only at hm37
  have q:=wBR hf38
  obtain ⟨hle39,hf40⟩:=q
  replace hle39:=zG hle39
  refine CK.forN' (fun k36 (l32,x35) σ_ w_=>∃ (U_:PHeap) (es33:Array MapEntry) (ck34:Nat),σ_ 24=jV (↑k36:Int)/\σ_ 0=.slice pA0 p0.length pc0/\σ_ 7=jV x35/\σ_ 8=.map (some b14)/\σ_ 22=.slice pA1 p1.length pc1/\σ_ 23=jV (↑p1.length:Int)/\PHeap.Le U4 U_/\sW w U U_ [.obj b14 (.map es33 ck34)] w_/\MpR es33 wEK wEV l32) hf40 ?_ ?_ ?_
  ·exact ⟨U4,#[],0,Z,Z,Z,Z,Z,Z,(zP _),hS15,hr16⟩
  ·rintro k36 ⟨l32,x35⟩ xx45 σ43 W44 hk48 ⟨U50,es33,ck34,fi49,f53,f54,f55,f56,f57,le51,hS52,h58⟩ hx46
   try dsimp only at hx46
   have c59:Hid ((↑k36:Int) < (↑p1.length:Int)):=zG (wBf hk48)
   replace hk48:=zG hk48
   have hi60:Hid (w64 ((↑k36:Int) + 1)=(↑(k36 + 1):Int)):=zG (by have h1:=hle39.out;have h2:=c59.out;rw [wAY] <;> omega)
   refine sR fL1 Z (oR Z (zQ Z fi49 f57) (eN (zD (cT Z c59 (kN (zD (zV (sR fL5 Z (oM Z fi49 (bnK hx46 fun x61 h62 hm63=>?_))))))))))
   have h64:=ha1.le le8
   have h65:=h64.le le51
   have q:=h65.el (fun _=>rfl) (wBA h62)
   obtain ⟨b66,off67,hA68,hC69⟩:=q
   refine oR Z (ZR Z f56 hA68 fi49 zC zA (wDX h62)) (oL Z (hS52.ldC (f:=0) hC69 (v:=jV x61) Z Z zI Z) (oA Z Z (oA Z Z (eN (zD (sR fL12 Z (oM Z f55 (oM Z f53 (oM Z Z (bnK hm63 fun x70 h71 hm72=>?_))))))))))
   have h73:=ha0.le le8
   have h74:=h73.le le51
   have q:=h74.el (fun _=>rfl) (wBA h71)
   obtain ⟨b75,off76,hA77,hC78⟩:=q
   refine oR Z (ZG Z Z hA77 Z zN zy (wCR h71) (wCf h71)) (oR Z (ZA Z Z zr Z zA) (oL Z (hS52.ldC (f:=1) hC78 (v:=jV x70.Nation) Z Z zI Z) (oL Z (hS52.lookup2 (j:=0) (mk:=wEK) (mv:=wEV) (a:=x70.Nation) (z:=0) Z Z Z Z (wCg ZF) wDr zz h58) (oM Z Z (oR Z (zp Z Z (v:=jV (wBh l32 x70.Nation 0)) Z) (oR Z (zp Z Z (v:=.bool (wEz l32 x70.Nation)) Z) (oA Z Z (oA Z Z (eN (sR fL1 Z (oM Z Z (eN (ifc hm72 ?_ ?_)))))))))))))
   ·intro c79 hm80
    refine zf (congrArg nD c79.out) (rR fL6 Z (oM Z f54 (oM Z Z (oM Z Z (oR Z (ZK Z Z Z) (oR Z (Runs.min Z Z Z) (oA Z Z (eN (rR (wOq (.fx 7 (.nil) .stop)) Z (oM Z f55 (oM Z f53 (oM Z Z ?_))))))))))))
    have q:=h74.el (fun _=>rfl) (wBA h71)
    obtain ⟨b81,off82,hA83,hC84⟩:=q
    refine zU rfl rfl rfl rfl (fun _=>ZG rfl rfl hA83 rfl zN zy (wCR h71) (wCf h71)) (zU rfl rfl rfl rfl (fun _=>ZA rfl rfl zr rfl zA) (ZC rfl rfl rfl rfl (hS52.ldC (f:=1) hC84 (v:=jV x70.Nation) rfl rfl zI rfl) rfl (zJ rfl rfl rfl rfl rfl rfl (OKS.mapPut (x:=.tmp 45) (y:=.tmp 50) (z:=.tmp 51) (j:=0) (mk:=wEK) (mv:=wEV) (a:=x70.Nation) (v:=(↑k36:Int)) rfl rfl rfl (by first | exact .inl rfl | exact .inr rfl) hS52 rfl rfl rfl rfl (wCg ZF) wDr h58 rfl ?_))))
    intro es85 ck86 W87 hr88 hS89
    have hS90:sW w U U50 [.obj b14 (.map es85 ck86)] W87:=hS89
    refine zm (zW (zE (rR fL2 Z (oR Z (zn (zZ Z fi49 Z) (congrArg (jV) hi60.out)) (oM Z Z (zm ?_))))))
    cases hm80
    exact zE ⟨Z,⟨U50,es85,ck86,Z,f53,Z,f55,f56,f57,le51,hS90,hr88⟩⟩
   ·intro c79 hm95
    refine zi (congrArg nD (nE.2 c79.out)) (kN (rR (wOq (.fx 7 (.nil) .stop)) Z (oM Z f55 (oM Z f53 (oM Z Z ?_)))))
    have q:=h74.el (fun _=>rfl) (wBA h71)
    obtain ⟨b96,off97,hA98,hC99⟩:=q
    refine zU rfl rfl rfl rfl (fun _=>ZG rfl rfl hA98 rfl zN zy (wCR h71) (wCf h71)) (zU rfl rfl rfl rfl (fun _=>ZA rfl rfl zr rfl zA) (ZC rfl rfl rfl rfl (hS52.ldC (f:=1) hC99 (v:=jV x70.Nation) rfl rfl zI rfl) rfl (zJ rfl rfl rfl rfl rfl rfl (OKS.mapPut (x:=.tmp 45) (y:=.tmp 50) (z:=.tmp 51) (j:=0) (mk:=wEK) (mv:=wEV) (a:=x70.Nation) (v:=(↑k36:Int)) rfl rfl rfl (by first | exact .inl rfl | exact .inr rfl) hS52 rfl rfl rfl rfl (wCg ZF) wDr h58 rfl ?_))))
    intro es100 ck101 W102 hr103 hS104
    have hS105:sW w U U50 [.obj b14 (.map es100 ck101)] W102:=hS104
    refine zm (zW (zE (rR fL2 Z (oR Z (zn (zZ Z fi49 Z) (congrArg (jV) hi60.out)) (oM Z Z (zm ?_))))))
    cases hm95
    exact zE ⟨Z,⟨U50,es100,ck101,Z,f53,f54,f55,f56,f57,le51,hS105,hr103⟩⟩
  ·rintro σ110 W111 ⟨U120,e118,c119,fi113,f123,f124,f125,f126,f127,le121,hS122,h128⟩
   have c129:Hid (¬ ((↑(((↑p1.length:Int):Int) - 0).toNat:Int) < (↑p1.length:Int))):=zG (wBI)
   refine sR fL1 Z (oR Z (zQ Z fi113 f127) (eN (zD (cF Z c129 (ZB (zd (zd (zq (zE (sR fL3 Z (oM Z f124 (oA Z Z (oA Z Z (eN (zM ?_)))))))))))))))
   cases hm37
   exact ⟨rfl,_,(wJu rfl rfl),U120,_,(hS122.pick [] _ (by decide) rfl),rfl,rfl⟩
 ·intro c11 hm130
  refine cT Z c11 (sR fL3 Z (oM Z Z (oA Z Z (oA Z Z (eN (zM (zF ?_)))))))
  cases hm130
  exact ⟨Z,_,(wJu Z Z),U4,_,hS10,Z,Z⟩
theorem wGa (p0:List wAA) (pA0:Option Addr) (pc0:Nat) (w:World) (U:PHeap) (hS:St0 w U []) (ha0:Sl U 3 pA0 pc0 p0.length (nA wAG p0)) {r:(List Int) × Int} (hm:wBW p0=some r):Gv Tryz.prog 52 [.slice pA0 p0.length pc0] w (wCX w [] U (fun U_ L_ v=>∃ (A0:Option Addr) (c0:Nat),v=.tuple #[.slice A0 r.1.length c0,jV r.2]/\L_=[.row A0 c0 3 1 (nA KL.encI r.1)])):=by
 unfold wBW at hm
 refine Gv.of Tryz.func52 Z Tryz.ntmps52 Tryz.results52 Z (sR fL2 Z (oA Z Z (oA Z Z (eN (zD (sR (.fl 0 (.fx 1 (.fl 2 (.nil)) .stop)) Z (oM Z Z (bnK hm fun x1 h2 hm3=>zL 0 Z Z Z Z (zK Z Z Tryz.call41 (zB Z zR) Z) hS (fun hs=>wCI p0 pA0 pc0 w U hs ha0 h2) (.inr Z) ?_))))))))
 rintro U4 L5 v6 W7 le8 hS9 ⟨rfl,rfl⟩
 have hS10:sW w U U4 [] W7:=hS9
 refine oA Z Z (eN (sR fL2 Z (oM Z Z (oR Z (zt Z Z Z) (eN (ifc hm3 ?_ ?_))))))
 ·intro c11 hm12
  refine zi (zg (fun h=>h c11.out)) (kN (sR (.fl 0 (.fx 1 (.fx 2 (wMQ (.nil)) .stop) .stop)) Z (oM Z Z ?_)))
  have h13:=ha0.le le8
  refine bnK hm12 fun x14 h15 hm16=>zL 0 Z Z Z Z (zK Z Z Tryz.call90 (zB Z zR) Z) hS10 (fun hs=>wCP p0 pA0 pc0 W7 U4 hs h13 h15) (.inr Z) ?_
  rintro U17 L18 v19 W20 le21 hS22 ⟨rfl,rfl⟩
  have hS23:sW w U U17 [] W20:=hS22
  have q:=bnd hm16
  obtain ⟨⟨x24,x25⟩,h26,hm27⟩:=q
  try dsimp only at hm27
  refine zL 0 Z Z Z Z (zK Z Z Tryz.call91 (zB Z zR) Z) hS23 (fun hs=>wBn x14 W20 U17 hs h26) (.inr Z) ?_
  rintro U28 L29 v30 W31 le32 hS33 ⟨A34,c35,rfl,rfl⟩
  have hS37:sW w U U28 [.row A34 c35 3 1 (nA KL.encI x24)] W31:=hS33
  refine oM Z Z (oR Z (zp Z Z (v:=.slice A34 x24.length c35) Z) (oR Z (zp Z Z (v:=jV x25) Z) (oA Z Z (oA Z Z (eN (zD (sR fL2 Z (oM Z Z (oR Z (zQ Z Z Z) (eN (ifc hm27 ?_ ?_)))))))))))
  ·intro c38 hm39
   refine cT Z c38 (sR fL2 Z (oA Z Z (oA Z Z (eN (zM (zF ?_))))))
   have hS40:=hS37.nilrow 3 1
   cases hm39
   exact ⟨rfl,_,(wJu rfl rfl),U28,_,(hS40.pick [0] _ (by decide) rfl),none,0,rfl,rfl⟩
  ·intro c38 hm42
   refine cF Z c38 (kN (sR fL3 Z (oM Z Z (oA Z Z (oA Z Z (eN (zM ?_)))))))
   cases hm42
   exact ⟨Z,_,(wJu Z Z),U28,_,hS37,A34,c35,Z,Z⟩
 ·intro c11 hm43
  refine cT Z c11 (sR fL3 Z (oM Z Z (oA Z Z (oA Z Z (eN (zM (zF ?_)))))))
  have hS44:=hS10.nilrow 3 1
  cases hm43
  exact ⟨Z,_,(wJu Z Z),U4,_,hS44,none,0,Z,Z⟩
theorem wCs (p0:List Int) (pA0:Option Addr) (pc0:Nat) (p1:Int) (w:World) (U:PHeap) (hS:St0 w U []) (ha0:Sl U 1 pA0 pc0 p0.length (nA KL.encI p0)) {r:Bool} (hm:wAa p0 p1=some r):Gv Tryz.prog 53 [.slice pA0 p0.length pc0,jV p1] w (wCX w [] U (fun U_ L_ v=>v=.bool r/\L_=[])):=by
 unfold wAa at hm
 refine Gv.of Tryz.func53 Z Tryz.ntmps53 Tryz.results53 Z (sR fL1 Z (oA Z Z (eN (sR (.fl 0 (.fx 1 (.fl 2 (.nil)) .stop)) Z (oM Z Z (bnK hm fun x1 h2 hm3=>OKS.makeSlice (enc:=KL.encT) (z:=false) (v:=.bool false) Z Z Z Z Z (wCg Tryz.runUnderlying154) info4 Z Z Z Z Z Z h2 hS ?_))))))
 intro W4 b5 hS6
 have hS8:sW w U U [.row (some ⟨b5,0,none⟩) x1.length 4 1 (nA KL.encT x1)] W4:=hS6
 refine oA Z Z (eN (zD (sR fL3 Z (oM Z Z (oR Z (zk Z Z zC) (oM Z Z (eN (zV ?_))))))))
 have q:=wDE hm3
 obtain ⟨r16,hX17⟩:=q
 have q:=wDD hX17
 obtain ⟨hle18,hf19⟩:=q
 replace hle18:=zG hle18
 refine CK.forN (fun k15 l14 σ_ w_=>∃ (U_:PHeap),σ_ 12=jV (↑k15:Int)/\σ_ 0=.slice pA0 p0.length pc0/\σ_ 1=jV p1/\σ_ 5=.slice (some ⟨b5,0,none⟩) l14.length x1.length/\σ_ 10=.slice pA0 p0.length pc0/\σ_ 11=jV (↑p0.length:Int)/\PHeap.Le U U_/\sW w U U_ [.row (some ⟨b5,0,none⟩) x1.length 4 1 (nA KL.encT l14)] w_/\l14.length=x1.length) hf19 ?_ ?_ ?_
 ·exact ⟨U,Z,Z,Z,Z,Z,Z,(zP _),hS8,Z⟩
 ·rintro k15 l14 xx22 σ20 W21 hk25 ⟨U27,fi26,f30,f31,f32,f33,f34,le28,hS29,h35⟩ hx23 hb24
  have c36:Hid ((↑k15:Int) < (↑p0.length:Int)):=zG (wBf hk25)
  replace hk25:=zG hk25
  have hi37:Hid (w64 ((↑k15:Int) + 1)=(↑(k15 + 1):Int)):=zG (by have h1:=hle18.out;have h2:=c36.out;rw [wAY] <;> omega)
  refine sR fL1 Z (oR Z (zQ Z fi26 f34) (eN (zD (cT Z c36 (kN (zD (zV (sR fL3 Z (bnK hx23 fun x38 h39 hm40=>?_)))))))))
  have h41:=ha0.le le28
  have q:=h41.el (fun _=>rfl) (wBA h39)
  obtain ⟨b42,off43,hA44,hC45⟩:=q
  refine oR Z (ZR Z f33 hA44 fi26 zC zA (wDX h39)) (oL Z (hS29.ldC (f:=0) hC45 (v:=jV x38) Z Z zI Z) (oA Z Z (eN (zD (sR fL13 Z (oM Z Z (oR Z (zQ Z Z Z) (oM Z Z (ifc hm40 ?_ ?_)))))))))
  ·intro c46 hm47
   refine oT Z c46 (oT Z c46 (oT Z c46 (oR Z (zS Z (ZE c46.out) Z) (oM Z Z (oN Z (oN Z (oN Z (oN Z (oR Z (zS Z Z Z) (eN (zf Z (sR fL1 Z (oA Z Z (eN (zM (zF (zY (zF ?_))))))))))))))))))
   have q:=wBD hm47
   obtain ⟨v48,hm49,e50⟩:=q
   obtain rfl:=wCC hm3 hX17 (hb24 v48 e50)
   refine zF (zY (zF ?_))
   have hE:=nB hm49;first | subst r | cases hE
   exact ⟨rfl,_,(zl rfl),U27,_,(hS29.pick [] _ (by decide) rfl),rfl,rfl⟩
  ·intro c46 hm51
   refine zJ Z Z Z (wF Z c46) Z Z (zJ Z Z Z (wF Z c46) Z f31 (rU Z (wF Z c46) (Runs.geq Z Z Z) (oR Z (zX Z (zg c46.out) Z) (oM Z Z (ifc hm51 ?_ ?_)))))
   ·intro c52 hm53
    refine oT Z c52 (oT Z c52 (oT Z c52 (oT Z c52 (oR Z (zS Z (ZE c52.out) Z) (eN (zf Z (sR fL1 Z (oA Z Z (eN (zM (zF (zY (zF ?_)))))))))))))
    have q:=wBD hm53
    obtain ⟨v54,hm55,e56⟩:=q
    obtain rfl:=wCC hm3 hX17 (hb24 v54 e56)
    refine zF (zY (zF ?_))
    have hE:=nB hm55;first | subst r | cases hE
    exact ⟨rfl,_,(zl rfl),U27,_,(hS29.pick [] _ (by decide) rfl),rfl,rfl⟩
   ·intro c52 hm57
    refine zJ Z Z Z (wF Z c52) Z f32 (zJ Z Z Z (wF Z c52) Z Z (bnK hm57 fun _ h58 hm59=>rU Z (wF Z c52) (ZG Z Z Z Z Tryz.runUnderlying154 Tryz.sizeOf4 (wBa h58) (wBb h58)) ?_))
    have hg60:=wCW (xs:=l14) (wAq h58)
    refine ZC rfl rfl rfl (zO rfl rfl (zg c52.out)) (hS29.ldR (j:=0) rfl rfl rfl rfl Tryz.isAgg4 (wAZ (sz:=1) (fun _=>rfl) _ _ 0 _ hg60 (by first | omega | rfl | simp) rfl)) rfl (zU rfl rfl rfl rfl (fun _=>zX rfl (zg c52.out) rfl) (eN (ifc hm59 ?_ ?_)))
    ·intro c61 hm62
     refine zf (congrArg nD c61.out) (sR fL1 Z (oA Z Z (eN (zM (zF (zY (zF ?_)))))))
     have q:=wBD hm62
     obtain ⟨v63,hm64,e65⟩:=q
     obtain rfl:=wCC hm3 hX17 (hb24 v63 e65)
     refine zF (zY (zF ?_))
     have hE:=nB hm64;first | subst r | cases hE
     exact ⟨rfl,_,(zl rfl),U27,_,(hS29.pick [] _ (by decide) rfl),rfl,rfl⟩
    ·intro c61 hm66
     refine zi (congrArg nD (nE.2 c61.out)) (kN (rR (wNG (.fx 3 (.nil) .stop)) Z (oM Z f32 (oM Z Z (oR Z (ZG Z Z Z Z Tryz.runUnderlying154 Tryz.sizeOf4 (wBa h58) (wBb h58)) ?_)))))
     have hg67:=wCW (xs:=l14) (wAq h58)
     refine OKS.stR (j:=0) (vs:=[.bool true]) (cs':=nA KL.encT (nJ l14 x38.toNat true)) rfl rfl rfl rfl hS29 rfl rfl rfl rfl rfl Tryz.sizeOf4 (by rw [wAD (f:=KL.encT) (sz:=1) (fun _=>rfl)];have hz:=wAq h58;show _ + 1 <= _;first | omega | (simp only [nK];omega) | (simp only [nI,nG,nH];omega)) rfl (wDg (sz:=1) (fo:=0) (fun _=>rfl) _ _ _ _ hg67 (by first | omega | (simp only [nK];omega) | (simp only [nI,nG,nH];omega)) (zH rfl) rfl) rfl ?_
     intro W68 hS69
     have hS70:sW w U U27 [.row (some ⟨b5,0,none⟩) x1.length 4 1 (nA KL.encT (nJ l14 x38.toNat true))] W68:=hS69
     refine zm (zW (zE (rR fL2 Z (oR Z (zn (zZ Z fi26 Z) (congrArg (jV) hi37.out)) (oM Z Z (zm ?_))))))
     obtain rfl:=nB hm66
     exact zE ⟨rfl,_,rfl,⟨U27,rfl,f30,f31,(nP (b:=(.slice (some ⟨b5,0,none⟩) l14.length x1.length:Value)) (c:=(.slice (some ⟨b5,0,none⟩) ((nJ l14 x38.toNat true).length) x1.length:Value)) f32 (by simp only [nL])),f33,f34,le28,hS70,(nL.trans h35)⟩⟩
 ·rintro y76 σ72 W73 ⟨U77,fi75,f80,f81,f82,f83,f84,le78,hS79,h85⟩ hb74
  have hm86:=wEZ hm3 hX17 hb74
  have c87:Hid (¬ ((↑(((↑p0.length:Int):Int) - 0).toNat:Int) < (↑p0.length:Int))):=zG (wBI)
  refine sR fL1 Z (oR Z (zQ Z fi75 f84) (eN (zD (cF Z c87 (ZB (zd (zd (zq (zE (sR fL5 Z (oM Z f80 (oR Z (zk Z Z zC) (oM Z f81 (oR Z (Runs.eql Z Z Z) (oA Z Z (eN (zM ?_)))))))))))))))))
  cases hm86
  exact ⟨rfl,_,(zl rfl),U77,_,(hS79.pick [] _ (by decide) rfl),rfl,rfl⟩
theorem wCt (p0:List wAA) (pA0:Option Addr) (pc0:Nat) (p1:List Int) (pA1:Option Addr) (pc1:Nat) (w:World) (U:PHeap) (hS:St0 w U []) (ha0:Sl U 3 pA0 pc0 p0.length (nA wAG p0)) (ha1:Sl U 1 pA1 pc1 p1.length (nA KL.encI p1)) {r:Int × Int} (hm:wAb p0 p1=some r):Gv Tryz.prog 54 [.slice pA0 p0.length pc0,.slice pA1 p1.length pc1] w (wCX w [] U (fun U_ L_ v=>v=.tuple #[jV r.1,jV r.2]/\L_=[])):=by
 unfold wAb at hm
 refine Gv.of Tryz.func54 Z Tryz.ntmps54 Tryz.results54 Z (sR fL2 Z (oA Z Z (oA Z Z (eN (sR (.fl 0 (.fx 1 (.fl 2 (.nil)) .stop)) Z (oM Z Z (bnK hm fun x1 h2 hm3=>zL 0 Z Z Z Z (zK Z Z Tryz.call41 (zB Z zR) Z) hS (fun hs=>wCI p0 pA0 pc0 w U hs ha0 h2) (.inr Z) ?_)))))))
 rintro U4 L5 v6 W7 le8 hS9 ⟨rfl,rfl⟩
 have hS10:sW w U U4 [] W7:=hS9
 refine oA Z Z (eN (zD (zV (sR fL3 Z (oM Z Z (oR Z (zt Z Z Z) (oA Z Z (eN (ifc hm3 ?_ ?_)))))))))
 ·intro c11 hm12
  refine zi (zg (fun h=>h c11.out)) (sR fL4 Z (oM Z Z (oR Z (zk Z Z zC) (oR Z (Runs.eql Z Z Z) (oA Z Z (eN (ifc hm12 ?_ ?_)))))))
  ·intro c13 hm14
   refine cT Z c13 (sR fL2 Z (oA Z Z (oA Z Z (eN (zM (zY (zF ?_)))))))
   cases hm14
   exact ⟨Z,_,(wJu Z Z),U4,_,hS10,Z,Z⟩
  ·intro c13 hm15
   refine cF Z c13 (zw (zW (zE (zD (sR fL1 Z (oA Z Z (eN (zV ?_))))))))
   have q:=wDE hm15
   obtain ⟨r18,hX19⟩:=q
   have q:=wDD hX19
   obtain ⟨hle20,hf21⟩:=q
   replace hle20:=zG hle20
   refine CK.forN (fun k17 _ σ_ w_=>∃ (U_:PHeap),σ_ 7=jV (1 + ↑k17:Int)/\σ_ 0=.slice pA0 p0.length pc0/\σ_ 1=.slice pA1 p1.length pc1/\PHeap.Le U4 U_/\sW w U U_ [] w_) hf21 ?_ ?_ ?_
   ·exact ⟨U4,Z,Z,Z,(zP _),hS10⟩
   ·rintro k17 ⟨⟩ xx24 σ22 W23 hk27 ⟨U29,fi28,f32,f33,le30,hS31⟩ hx25 hb26
    try dsimp only at hx25
    have c34:Hid ((1 + ↑k17:Int) < (↑p1.length:Int)):=zG (wPF hk27)
    replace hk27:=zG hk27
    have hi35:Hid (w64 ((1 + ↑k17:Int) + 1)=(1 + ↑(k17 + 1):Int)):=zG (by have h1:=hle20.out;have h2:=c34.out;rw [wAY] <;> omega)
    refine zD (sR fL4 rfl (zJ rfl rfl rfl rfl rfl fi28 (zJ rfl rfl rfl rfl rfl f33 (zU rfl rfl rfl rfl (fun _=>zk rfl rfl zC) (zU rfl rfl rfl rfl (fun _=>zQ rfl rfl rfl) (eN (cT Z c34 (kN (zD (zV (zD (CK.anyOrd Tryz.mixed [3,3,3,1,3,3,3,3,1,3] fL10 (by kernel_rfl) ?_))))))))))))
    have hS36:=hS31.drew
    generalize hw_W37:({ W23 with drawn:=W23.drawn + 1 }:World)=W37 at hS36 ⊢
    refine oM Z f33 (oM Z fi28 (bnK hx25 fun x38 h39 hm40=>?_))
    have h41:=ha1.le le8
    have h42:=h41.le le30
    have q:=h42.el (fun _=>rfl) (wBA h39)
    obtain ⟨b43,off44,hA45,hC46⟩:=q
    refine oR Z (ZG Z Z hA45 Z zC zA (wCR h39) (wCf h39)) (oL Z (hS36.ldC (f:=0) hC46 (v:=jV x38) Z Z zI Z) (oM Z f33 (oM Z fi28 (oR Z (ZK Z Z Z) (bnK hm40 fun x47 h48 hm49=>?_)))))
    have q:=h42.el (fun _=>rfl) (wBA h48)
    obtain ⟨b50,off51,hA52,hC53⟩:=q
    refine oR Z (ZG Z Z hA52 Z zC zA (wCR h48) (wCf h48)) (oL Z (hS36.ldC (f:=0) hC53 (v:=jV x47) Z Z zI Z) (oR Z (Runs.leq Z Z Z) (eN (ifc hm49 ?_ ?_))))
    ·intro c54 hm55
     refine cT Z c54 (sR fL2 Z (oA Z Z (oA Z Z (eN (zM (zY (zF ?_)))))))
     have q:=wBD hm55
     obtain ⟨v56,hm57,e58⟩:=q
     obtain rfl:=wCC hm15 hX19 (hb26 v56 e58)
     refine zF (zY (zF ?_))
     cases hm57
     exact ⟨Z,_,(wJu Z Z),U29,_,hS36,Z,Z⟩
    ·intro c54 hm59
     refine cF Z c54 (zw (zW (zE (rR fL3 Z (oM Z fi28 (oR Z (zn (zZ Z Z Z) (congrArg (jV) hi35.out)) (oA Z Z (zm ?_))))))))
     obtain rfl:=nB hm59
     exact zE ⟨Z,_,Z,⟨U29,Z,f32,f33,le30,hS36⟩⟩
   ·rintro ⟨⟩ σ60 W61 ⟨U64,fi63,f67,f68,le65,hS66⟩ hb62
    have hm69:=wEZ hm15 hX19 hb62
    try dsimp only at hm69
    have c70:Hid (¬ ((1 + ↑(((↑p1.length:Int):Int) - 1).toNat:Int) < (↑p1.length:Int))):=zG (wNL)
    refine zD (sR fL4 Z (oM Z fi63 (oM Z f68 (oR Z (zk Z Z zC) (oR Z (zQ Z Z Z) (eN (cF Z c70 (ZB (zd (zd (zq (zE (sR (.fl 0 (.fx 1 (.fx 2 (.fx 3 (.fl 4 (.nil)) .stop) .stop) .stop)) Z (oM Z f67 ?_))))))))))))))
    have h71:=ha0.le le8
    have h72:=h71.le le65
    refine bnK hm69 fun x73 h74 hm75=>zL 0 Z Z Z Z (zK Z Z Tryz.call90 (zB Z zR) Z) hS66 (fun hs=>wCP p0 pA0 pc0 W61 U64 hs h72 h74) (.inr Z) ?_
    rintro U76 L77 v78 W79 le80 hS81 ⟨rfl,rfl⟩
    have hS82:sW w U U76 [] W79:=hS81
    refine ZI (cs:=nA KL.encI (Arr.fill 31 0).l) Z Z Z Z Z Tryz.zeroValue141 Z hS82 ?_
    intro W83 b84 hS85
    have hS87:sW w U U76 [.blk b84 141 (nA KL.encI (Arr.fill 31 0).l)] W83:=hS85
    refine ZD (j:=0) (vs:=nA KL.encI x73.l) rfl rfl rfl rfl hS87 rfl rfl rfl rfl (fun w=>by rw [wAW (f:=KL.encI) (sz:=1) (N:=31) x73 (fun _=>rfl) rfl];exact ZL w) (by rw [wAW (f:=KL.encI) (sz:=1) (N:=31) x73 (fun _=>rfl) rfl,wAW (f:=KL.encI) (sz:=1) (N:=31) (Arr.fill 31 0) (fun _=>rfl) rfl];exact zH rfl) (wDG (fun _=>rfl) _) (wGK _ _ (by rw [wAW (f:=KL.encI) (sz:=1) (N:=31) x73 (fun _=>rfl) rfl,wAW (f:=KL.encI) (sz:=1) (N:=31) (Arr.fill 31 0) (fun _=>rfl) rfl])) rfl ?_
    intro W88 hS89
    have hS90:sW w U U76 [.blk b84 141 (nA KL.encI x73.l)] W88:=hS89
    refine oA Z Z (eN (zD (sR fL3 Z (oM Z f68 (oR Z (zk Z Z zC) (oM Z Z (eN (zV ?_))))))))
    have q:=wDE hm75
    obtain ⟨r98,hX99⟩:=q
    have q:=wDD hX99
    obtain ⟨hle100,hf101⟩:=q
    replace hle100:=zG hle100
    refine CK.forN (fun k97 x96 σ_ w_=>∃ (U_:PHeap),σ_ 42=jV (↑k97:Int)/\σ_ 0=.slice pA0 p0.length pc0/\σ_ 1=.slice pA1 p1.length pc1/\σ_ 8=.pointer (some ⟨b84,0,none⟩)/\σ_ 9=jV x96/\σ_ 40=.slice pA1 p1.length pc1/\σ_ 41=jV (↑p1.length:Int)/\PHeap.Le U76 U_/\sW w U U_ [.blk b84 141 (nA KL.encI x73.l)] w_) hf101 ?_ ?_ ?_
    ·exact ⟨U76,Z,f67,f68,Z,Z,Z,Z,(zP _),hS90⟩
    ·rintro k97 x96 xx104 σ102 W103 hk107 ⟨U109,fi108,f112,f113,f114,f115,f116,f117,le110,hS111⟩ hx105 hb106
     have c118:Hid ((↑k97:Int) < (↑p1.length:Int)):=zG (wBf hk107)
     replace hk107:=zG hk107
     have hi119:Hid (w64 ((↑k97:Int) + 1)=(↑(k97 + 1):Int)):=zG (by have h1:=hle100.out;have h2:=c118.out;rw [wAY] <;> omega)
     refine sR fL1 Z (oR Z (zQ Z fi108 f117) (eN (zD (cT Z c118 (kN (zD (zV (sR fL3 Z (bnK hx105 fun x120 h121 hm122=>?_)))))))))
     have h123:=ha1.le le8
     have h124:=h123.le le65
     have h125:=h124.le le80
     have h126:=h125.le le110
     have q:=h126.el (fun _=>rfl) (wBA h121)
     obtain ⟨b127,off128,hA129,hC130⟩:=q
     refine oR Z (ZR Z f116 hA129 fi108 zC zA (wDX h121)) (oL Z (hS111.ldC (f:=0) hC130 (v:=jV x120) Z Z zI Z) (oA Z Z (eN (zD (sR (.fl 0 (.fx 1 (wQK (.nil)) .stop)) Z (oM Z Z (bnK hm122 fun x131 h132 hm133=>zL 0 Z Z Z Z (zK Z Z Tryz.call86 (zB Z (zB Z (zB Z zR))) Z) hS111 (fun hs=>wDV x120 0 30 W103 U109 hs h132) (.inr Z) ?_)))))))
     rintro U134 L135 v136 W137 le138 hS139 ⟨rfl,rfl⟩
     have hS140:sW w U U134 [.blk b84 141 (nA KL.encI x73.l)] W137:=hS139
     refine oR Z (ZU Z Z) (oM Z Z (ifc hm133 ?_ ?_))
     ·intro c141 hm142
      refine zJ Z Z Z (zO Z Z (nC c141.out)) Z Z (bnK hm142 fun _ h143 hm144=>zU Z Z Z (zO Z Z (nC c141.out)) (fun _=>ZT Z f114 Z ze zA (wBa h143) (wBb h143)) ?_)
      have hg145:=Arr.at_ x73 (k:=x120.toNat) (by have hz0:=wAq h143;omega)
      refine ZC rfl rfl rfl (zO rfl rfl (nC c141.out)) (hS140.ldB (j:=0) rfl rfl rfl zI (wAZ (sz:=1) (fun _=>rfl) _ _ 0 _ hg145 (by first | omega | rfl | simp) rfl)) rfl (zU rfl rfl rfl (zO rfl rfl (nC c141.out)) (fun _=>zQ rfl rfl rfl) (zU rfl rfl rfl rfl (fun _=>zX rfl (nC c141.out) rfl) (eN (ifc hm144 ?_ ?_))))
      ·intro c146 hm147
       refine cT Z c146 (sR fL2 Z (oA Z Z (oA Z Z (eN (zM (zF (zY (zF ?_))))))))
       have q:=wBD hm147
       obtain ⟨v148,hm149,e150⟩:=q
       obtain rfl:=wCC hm75 hX99 (hb106 v148 e150)
       refine zF (zY (zF ?_))
       cases hm149
       exact ⟨rfl,_,(wJu rfl rfl),U134,_,(hS140.pick [] _ (by decide) rfl),rfl,rfl⟩
      ·intro c146 hm151
       refine cF Z c146 (kN (rR fL6 Z (oM Z f115 (oM Z Z (oR Z (ZT Z f114 Z ze zA (wBa h143) (wBb h143)) ?_)))))
       have hg152:=Arr.at_ x73 (k:=x120.toNat) (by have hz0:=wAq h143;omega)
       refine ZC rfl rfl rfl rfl (hS140.ldB (j:=0) rfl rfl rfl zI (wAZ (sz:=1) (fun _=>rfl) _ _ 0 _ hg152 (by first | omega | rfl | simp) rfl)) rfl (zU rfl rfl rfl rfl (fun _=>Runs.min rfl rfl rfl) (ZS rfl rfl rfl rfl rfl rfl (zm (zW (zE (rR fL2 rfl (zU rfl rfl rfl rfl (fun _=>zn (zZ rfl fi108 rfl) (congrArg (jV) hi119.out)) (zJ rfl rfl rfl rfl rfl rfl (zm ?_)))))))))
       obtain rfl:=nB hm151
       exact zE ⟨Z,_,Z,⟨U134,Z,f112,f113,f114,Z,f116,f117,(le110.trans le138),hS140⟩⟩
     ·intro c141 hm154
      refine zh Z Z Z (zx Z Z (nF (c141.out)) Z) (zh Z Z Z (zx Z Z (nF (c141.out)) Z) (zh Z Z Z (zx Z Z (nF (c141.out)) Z) (zh Z Z Z (zx Z Z (nF (c141.out)) Z) (oR Z (zS Z (nF (c141.out)) Z) (eN (zf Z (sR fL2 Z (oA Z Z (oA Z Z (eN (zM (zF (zY (zF ?_))))))))))))))
      have q:=wBD hm154
      obtain ⟨v155,hm156,e157⟩:=q
      obtain rfl:=wCC hm75 hX99 (hb106 v155 e157)
      refine zF (zY (zF ?_))
      cases hm156
      exact ⟨rfl,_,(wJu rfl rfl),U134,_,(hS140.pick [] _ (by decide) rfl),rfl,rfl⟩
    ·rintro y162 σ158 W159 ⟨U163,fi161,f166,f167,f168,f169,f170,f171,le164,hS165⟩ hb160
     have hm172:=wEZ hm75 hX99 hb160
     have c173:Hid (¬ ((↑(((↑p1.length:Int):Int) - 0).toNat:Int) < (↑p1.length:Int))):=zG (wBI)
     refine sR fL1 Z (oR Z (zQ Z fi161 f171) (eN (zD (cF Z c173 (ZB (zd (zd (zq (zE (sR fL10 Z (oM Z f166 (oR Z (zk Z Z zN) (oM Z f167 (oR Z (zk Z Z zC) (oR Z (ZK Z Z Z) (oM Z f169 (oR Z (ZK Z Z Z) (bnK hm172 fun x174 h175 hm176=>oR Z (Runs.quo Z Z Z h175) (oA Z Z (oA Z Z (eN (zM ?_))))))))))))))))))))))
     cases hm176
     exact ⟨rfl,_,(wJu rfl rfl),U163,_,(hS165.pick [] _ (by decide) rfl),rfl,rfl⟩
 ·intro c11 hm177
  refine cT Z c11 (sR fL3 Z (oM Z Z (oA Z Z (oA Z Z (eN (zM (zY (zF ?_))))))))
  cases hm177
  exact ⟨Z,_,(wJu Z Z),U4,_,hS10,Z,Z⟩
theorem wBs (p0:wAB) (pb0:Nat) (pA0_0:Option Addr) (pc0_0:Nat) (p1:Int) (w:World) (U:PHeap) (hS:St0 w U [.blk pb0 136 [.slice pA0_0 p0.bytes.length pc0_0,jV p0.next,.int .u32 p0.state]]) (ha0:Sl U 1 pA0_0 pc0_0 p0.bytes.length (nA KL.encB8 p0.bytes)) {r:Bool × wAB} (hm:wAe p0 p1=some r):Gv Tryz.prog 55 [.pointer (some ⟨pb0,0,none⟩),jV p1] w (wCX w [.blk pb0 136 [.slice pA0_0 p0.bytes.length pc0_0,jV p0.next,.int .u32 p0.state]] U (fun U_ L_ v=>∃ (Ao00:Option Addr) (co00:Nat),v=.bool r.1/\L_=[.blk pb0 136 [.slice Ao00 r.2.bytes.length co00,jV r.2.next,.int .u32 r.2.state]]/\Sl U_ 1 Ao00 co00 r.2.bytes.length (nA KL.encB8 r.2.bytes))):=by
 unfold wAe at hm
 refine Gv.of Tryz.func55 Z Tryz.ntmps55 Tryz.results55 Z (sR fL1 Z (oA Z Z (eN (sR (.fl 0 (.fl 1 (.fx 2 (.fl 3 (.fl 4 (.nil))) .stop))) Z (oM Z Z (oM Z Z ?_))))))
 have q:=bnd hm
 obtain ⟨⟨x2,x3⟩,h4,hm5⟩:=q
 try dsimp only at hm5
 refine zL 1 Z Z Z Z (zK Z Z Tryz.call57 (zB Z (zB Z zR)) Z) hS (fun hs=>wBE p0 pb0 pA0_0 pc0_0 p1 w U hs ha0 h4) (.inl Z) ?_
 rintro U6 L7 v8 W9 le10 hS11 ⟨A12,c13,rfl,rfl,h14⟩
 have hS15:SW w [.blk pb0 136 [.slice pA0_0 p0.bytes.length pc0_0,jV p0.next,.int .u32 p0.state]] U U6 [.blk pb0 136 [.slice A12 x3.bytes.length c13,jV x3.next,.int .u32 x3.state]] W9:=hS11
 refine oR Z (Runs.eql Z Z Z) (oA Z Z (eN (zM ?_)))
 cases hm5
 exact ⟨Z,_,(zl Z),U6,_,hS15,A12,c13,Z,Z,h14⟩
theorem wCG (w:World) (U:PHeap) (hS:St0 w U []) {r:Bool} (hm:wAv=some r):Gv Tryz.prog 11 [] w (wCX w [] U (fun U_ L_ v=>v=.bool r/\L_=[])):=by
 cases hm
 refine (xr11 w).mono ?_
 rintro v w' ⟨rfl,k⟩
 exact ⟨U,[],hS.grow k,Z,Z⟩
theorem wCc (p0:List Int) (pA0:Option Addr) (pc0:Nat) (p1:List Int) (pA1:Option Addr) (pc1:Nat) (w:World) (U:PHeap) (hS:St0 w U []) (ha0:Sl U 1 pA0 pc0 p0.length (nA KL.encB8 p0)) (ha1:Sl U 1 pA1 pc1 p1.length (nA KL.encB8 p1)) {r:Bool} (hm:wAo p0 p1=some r):Gv Tryz.prog 7 [.slice pA0 p0.length pc0,.slice pA1 p1.length pc1] w (wCX w [] U (fun U_ L_ v=>v=.bool r/\L_=[])):=by
 unfold wAo at hm
 refine Gv.of Tryz.func7 Z Tryz.ntmps7 Tryz.results7 Z (sR fL1 Z (oA Z Z (eN (sR (.fl 0 (.fx 1 (.fl 2 (.fx 3 (.fl 4 (.fl 5 (.nil))) .stop)) .stop)) Z (oM Z Z (bnK hm fun x1 h2 hm3=>zL 0 Z Z Z Z (zK Z Z Tryz.call21 (zB Z zR) Z) hS (fun hs=>wDM p0 pA0 pc0 w U hs ha0 h2) (.inr Z) ?_))))))
 rintro U4 L5 v6 W7 le8 hS9 ⟨b10,A11,c12,rfl,rfl,h14⟩
 let B0:Res:=.blk b10 136 [.slice A11 x1.bytes.length c12,jV x1.next,.int .u32 x1.state]
 have hS15:sW w U U4 [B0] W7:=hS9
 refine oM Z Z ?_
 have h16:=ha1.le le8
 refine bnK hm3 fun x17 h18 hm19=>zL 0 Z Z Z Z (zK Z Z Tryz.call21 (zB Z zR) Z) hS15 (fun hs=>wDM p1 pA1 pc1 W7 U4 hs h16 h18) (.inr Z) ?_
 rintro U20 L21 v22 W23 le24 hS25 ⟨b26,A27,c28,rfl,rfl,h30⟩
 let B1:Res:=.blk b26 136 [.slice A27 x17.bytes.length c28,jV x17.next,.int .u32 x17.state]
 have hS31:sW w U U20 [B1,B0] W23:=hS25
 refine oA Z Z (oA Z Z (eN (sR (.fl 0 (.fx 1 (.fl 2 (.nil)) .stop)) Z (oM Z Z ?_))))
 have h32:=h14.le le24
 have q:=bnd hm19
 obtain ⟨⟨x33,x34⟩,h35,hm36⟩:=q
 try dsimp only at hm36
 have hS37:sW w U U20 [B0,B1] W23:=hS31.pick [1,0] _ (by decide) rfl
 refine zL 1 Z Z Z Z (zK Z Z Tryz.call28 (zB Z (zB Z zR)) Z) hS37 (fun hs=>wDs x1 b10 A11 c12 30 W23 U20 hs h32 h35) (.inl Z) ?_
 rintro U38 L39 v40 W41 le42 hS43 ⟨A44,c45,A46,c47,rfl,rfl,h49⟩
 let B2:Res:=.blk b10 136 [.slice A46 x34.bytes.length c47,jV x34.next,.int .u32 x34.state]
 have hS50:sW w U U38 [.row A44 c45 62 3 (nA wAG x33),B2,B1] W41:=hS43
 refine oA Z Z (eN (sR (.fl 0 (.fx 1 (wQK (.nil)) .stop)) Z (oM Z Z ?_)))
 have q:=hS50.freezeR (k:=0) (n:=x33.length) rfl (wAD (f:=wAG) (sz:=3) (fun _=>rfl) x33) (by decide)
 obtain ⟨U51,le52,hs53,hS54⟩:=q
 have hS55:sW w U U51 [B2,B1] W41:=hS54
 have q:=bnd hm36
 obtain ⟨⟨x56,x57,x58⟩,h59,hm60⟩:=q
 try dsimp only at hm60
 refine zL 0 Z Z Z Z (zK Z Z Tryz.call31 (zB Z zR) Z) hS55 (fun hs=>wFm x33 A44 c45 W41 U51 hs hs53 h59) (.inr Z) ?_
 rintro U61 L62 v63 W64 le65 hS66 ⟨A67,c68,rfl,rfl⟩
 have hS70:sW w U U61 [.row A67 c68 3 1 (nA KL.encI x56),B2,B1] W64:=hS66
 refine oM Z Z (oR Z (zp Z Z (v:=.slice A67 x56.length c68) Z) (oR Z (zp Z Z (v:=jV x57) Z) (oR Z (zp Z Z (v:=jV x58) Z) (oA Z Z (oA Z Z (oA Z Z (eN (sR (.fl 0 (.fl 1 (.fx 2 (wMQ (.nil)) .stop))) Z (oM Z Z (oM Z Z ?_))))))))))
 have q:=hS70.freezeR (k:=0) (n:=x56.length) rfl (wAD (f:=KL.encI) (sz:=1) (fun _=>rfl) x56) (by decide)
 obtain ⟨U71,le72,hs73,hS74⟩:=q
 have hS75:sW w U U71 [B2,B1] W64:=hS74
 have h76:=hs53.le le65
 have h77:=h76.le le72
 have q:=bnd hm60
 obtain ⟨⟨x78,x79⟩,h80,hm81⟩:=q
 try dsimp only at hm81
 refine zL 0 Z Z Z Z (zK Z Z Tryz.call51 (zB Z (zB Z zR)) Z) hS75 (fun hs=>wCr x33 A44 c45 x56 A67 c68 W64 U71 hs h77 hs73 h80) (.inr Z) ?_
 rintro U82 L83 v84 W85 le86 hS87 ⟨rfl,rfl⟩
 have hS88:sW w U U82 [B2,B1] W85:=hS87
 refine oM Z Z (oR Z (zp Z Z (v:=jV x78) Z) (oR Z (zp Z Z (v:=jV x79) Z) (oA Z Z (oA Z Z (eN (sR (.fl 0 (.fx 1 (wQJ (.nil)) .stop)) Z (oM Z Z ?_)))))))
 have h89:=h77.le le86
 have q:=bnd hm81
 obtain ⟨⟨x90,x91⟩,h92,hm93⟩:=q
 try dsimp only at hm93
 refine zL 0 Z Z Z Z (zK Z Z Tryz.call52 (zB Z zR) Z) hS88 (fun hs=>wGa x33 A44 c45 W85 U82 hs h89 h92) (.inr Z) ?_
 rintro U94 L95 v96 W97 le98 hS99 ⟨A100,c101,rfl,rfl⟩
 let B3:Res:=.row A100 c101 3 1 (nA KL.encI x90)
 have hS103:sW w U U94 [B3,B2,B1] W97:=hS99
 refine oM Z Z (oR Z (zp Z Z (v:=.slice A100 x90.length c101) Z) (oR Z (zp Z Z (v:=jV x91) Z) (oA Z Z (oA Z Z (eN (zD (zD (CK.fresh fun σ104 hσ105=>?_))))))))
 have f106:σ104 6=.pointer (some ⟨b26,0,none⟩):=(hσ105 6).trans rfl
 have f107:σ104 7=.slice A44 x33.length c45:=(hσ105 7).trans rfl
 have f108:σ104 8=.slice A67 x56.length c68:=(hσ105 8).trans rfl
 have f109:σ104 9=jV x57:=(hσ105 9).trans rfl
 have f110:σ104 10=jV x58:=(hσ105 10).trans rfl
 have f111:σ104 11=jV x78:=(hσ105 11).trans rfl
 have f112:σ104 12=jV x79:=(hσ105 12).trans rfl
 have f113:σ104 13=.slice A100 x90.length c101:=(hσ105 13).trans rfl
 have f114:σ104 14=jV x91:=(hσ105 14).trans rfl
 clear hσ105
 refine rR (wQG (.fx 10 (wOr (.nil)) .stop)) Z (oM Z f110 (oR Z (zt Z Z Z) (oM Z Z (ifc hm93 ?_ ?_))))
 ·intro c115 hm116
  refine zJ Z Z Z (zO Z Z (zg (fun h=>h c115.out))) Z f112 (zU Z Z Z (zO Z Z (zg (fun h=>h c115.out))) (fun _=>zt Z Z Z) (oR Z (zX Z (zg (fun h=>h c115.out)) Z) (oM Z Z (ifc hm116 ?_ ?_))))
  ·intro c117 hm118
   refine zJ Z Z Z (zO Z Z (zg (fun h=>h c117.out))) Z f108 (zJ Z Z Z (zO Z Z (zg (fun h=>h c117.out))) Z f107 (zU Z Z Z (zO Z Z (zg (fun h=>h c117.out))) (fun _=>zk Z Z zN) ?_))
   have h119:=hs73.le le86
   have h120:=h119.le le98
   refine bnK hm118 fun x121 h122 hm123=>zL 0 Z Z Z (zO Z Z (zg (fun h=>h c117.out))) (zK Z Z Tryz.call53 (zB Z (zB Z zR)) Z) hS103 (fun hs=>wCs x56 A67 c68 (↑x33.length:Int) W97 U94 hs h120 h122) (.inr Z) ?_
   rintro U124 L125 v126 W127 le128 hS129 ⟨rfl,rfl⟩
   have hS130:sW w U U124 [B3,B2,B1] W127:=hS129
   refine zU Z Z Z (zO Z Z (zg (fun h=>h c117.out))) (fun _=>ZU Z Z) (oR Z (zX Z (zg (fun h=>h c117.out)) Z) (oM Z Z (ifc hm123 ?_ ?_)))
   ·intro c131 hm132
    refine zJ Z Z Z (zO Z Z (nC c131.out)) Z f111 (zJ Z Z Z (zO Z Z (nC c131.out)) Z f109 (zU Z Z Z (zO Z Z (nC c131.out)) (fun _=>zt Z Z Z) (oR Z (zX Z (nC c131.out) Z) (oM Z Z (ifc hm132 ?_ ?_)))))
    ·intro c133 hm134
     refine zJ Z Z Z (zO Z Z (zg (fun h=>h c133.out))) Z f109 (zU Z Z Z (zO Z Z (zg (fun h=>h c133.out))) (fun _=>zQ Z Z Z) (oR Z (zX Z (zg (fun h=>h c133.out)) Z) (eN (ifc hm134 ?_ ?_))))
     ·intro c135 hm136
      refine cT Z c135 (sR fL1 Z (oA Z Z (eN (zM (zF ?_)))))
      have hE:=nB hm136;first | subst r | cases hE
      exact ⟨rfl,_,(zl rfl),U124,_,(hS130.pick [] _ (by decide) rfl),rfl,rfl⟩
     ·intro c135 hm137
      refine cF Z c135 (kN (zD (sR fL2 Z (oM Z f114 (oR Z (Runs.eql Z Z Z) (eN (ifc hm137 ?_ ?_)))))))
      ·intro c138 hm139
       refine cT Z c138 (sR (.fl 0 (.fl 1 (.fx 2 (wMQ (.nil)) .stop))) Z (oM Z f107 (oM Z f113 ?_)))
       have q:=hS130.freezeR (k:=0) (n:=x90.length) rfl (wAD (f:=KL.encI) (sz:=1) (fun _=>rfl) x90) (by decide)
       obtain ⟨U140,le141,hs142,hS143⟩:=q
       have hS144:sW w U U140 [B2,B1] W127:=hS143
       have h145:=h89.le le98
       have h146:=h145.le le128
       have h147:=h146.le le141
       have q:=bnd hm139
       obtain ⟨⟨x148,x149⟩,h150,hm151⟩:=q
       try dsimp only at hm151
       refine zL 0 Z Z Z Z (zK Z Z Tryz.call54 (zB Z (zB Z zR)) Z) hS144 (fun hs=>wCt x33 A44 c45 x90 A100 c101 W127 U140 hs h147 hs142 h150) (.inr Z) ?_
       rintro U152 L153 v154 W155 le156 hS157 ⟨rfl,rfl⟩
       have hS158:sW w U U152 [B2,B1] W155:=hS157
       refine oM Z Z (oR Z (zp Z Z (v:=jV x148) Z) (oR Z (zp Z Z (v:=jV x149) Z) (oA Z Z (oA Z Z (eN (sR fL7 Z (oM Z Z (oR Z (zt Z Z Z) (oM Z Z (ifc hm151 ?_ ?_))))))))))
       ·intro c159 hm160
        refine zJ Z Z Z (zO Z Z (zg (fun h=>h c159.out))) Z Z (zJ Z Z Z (zO Z Z (zg (fun h=>h c159.out))) Z f109 (zU Z Z Z (zO Z Z (zg (fun h=>h c159.out))) (fun _=>zt Z Z Z) (oR Z (zX Z (zg (fun h=>h c159.out)) Z) (eN (ifc hm160 ?_ ?_)))))
        ·intro c161 hm162
         refine zi (zg (fun h=>h c161.out)) (kN (zD (sR fL1 Z (oM Z Z (eN (zV ?_))))))
         have q:=wDE hm162
         obtain ⟨r186,hX187⟩:=q
         have q:=wDD hX187
         obtain ⟨hle188,hf189⟩:=q
         replace hle188:=zG hle188
         refine CK.forN (fun k185 (l180,x183,x184) σ_ w_=>∃ (U_:PHeap) (A181:Option Addr) (c182:Nat),σ_ 91=jV (↑k185:Int)/\σ_ 6=.pointer (some ⟨b26,0,none⟩)/\σ_ 7=.slice A44 x33.length c45/\σ_ 9=jV x57/\PHeap.Le U152 U_/\sW w U U_ [B2,.blk b26 136 [.slice A181 l180.length c182,jV x183,.int .u32 x184]] w_/\Sl U_ 1 A181 c182 l180.length (nA KL.encB8 l180)) hf189 ?_ ?_ ?_
         ·have h190:=h30.le le42
          have h191:=h190.le le52
          have h192:=h191.le le65
          have h193:=h192.le le72
          have h194:=h193.le le86
          have h195:=h194.le le98
          have h196:=h195.le le128
          have h197:=h196.le le141
          have h198:=h197.le le156
          exact ⟨U152,A27,c28,Z,f106,f107,f109,(zP _),hS158,h198⟩
         ·rintro k185 ⟨l180,x183,x184⟩ xx201 σ199 W200 hk204 ⟨U206,A181,c182,fi205,f209,f210,f211,le207,hS208,h212⟩ hx202 hb203
          try dsimp only at hx202
          have c213:Hid ((↑k185:Int) < 5):=zG (wBf hk204)
          replace hk204:=zG hk204
          have hi214:Hid (w64 ((↑k185:Int) + 1)=(↑(k185 + 1):Int)):=zG (by have h1:=hle188.out;have h2:=c213.out;rw [wAY] <;> omega)
          refine sR fL1 Z (oR Z (zQ Z fi205 Z) (eN (zD (cT Z c213 (kN (zD (zV (zD (sR (wGr (.fx 4 (.fx 5 (wNg (.nil)) .stop) .stop)) Z (oM Z f210 (oM Z f209 (oM Z f210 (oR Z (zk Z Z zN) ?_)))))))))))))
          have q:=bnd hx202
          obtain ⟨⟨x215,x216⟩,h217,hm218⟩:=q
          try dsimp only at hm218
          have hS219:sW w U U206 [.blk b26 136 [.slice A181 l180.length c182,jV x183,.int .u32 x184],B2] W200:=hS208.pick [1,0] _ (by decide) rfl
          refine zL 1 Z Z Z Z (zK Z Z Tryz.call29 (zB Z (zB Z zR)) Z) hS219 (fun hs=>wBH (⟨l180,x183,x184⟩:wAB) b26 A181 c182 (↑x33.length:Int) W200 U206 hs h212 h217) (.inl Z) ?_
          rintro U220 L221 v222 W223 le224 hS225 ⟨A226,c227,A228,c229,rfl,rfl,h231⟩
          let B4:Res:=.blk b26 136 [.slice A228 x216.bytes.length c229,jV x216.next,.int .u32 x216.state]
          have hS232:sW w U U220 [.row A226 c227 3 1 (nA KL.encI x215),B4,B2] W223:=hS225
          have q:=hS232.freezeR (k:=0) (n:=x215.length) rfl (wAD (f:=KL.encI) (sz:=1) (fun _=>rfl) x215) (by decide)
          obtain ⟨U233,le234,hs235,hS236⟩:=q
          have hS237:sW w U U233 [B4,B2] W223:=hS236
          have h238:=h147.le le156
          have h239:=h238.le le207
          have h240:=h239.le le224
          have h241:=h240.le le234
          have q:=bnd hm218
          obtain ⟨⟨x242,x243⟩,h244,hm245⟩:=q
          try dsimp only at hm245
          refine zL 0 Z Z Z Z (zK Z Z Tryz.call51 (zB Z (zB Z zR)) Z) hS237 (fun hs=>wCr x33 A44 c45 x215 A226 c227 W223 U233 hs h241 hs235 h244) (.inr Z) ?_
          rintro U246 L247 v248 W249 le250 hS251 ⟨rfl,rfl⟩
          have hS252:sW w U U246 [B4,B2] W249:=hS251
          refine oM Z Z (oR Z (zp Z Z (v:=jV x242) Z) (oR Z (zp Z Z (v:=jV x243) Z) (oA Z Z (oA Z Z (eN (sR fL7 Z (oM Z Z (oR Z (zt Z Z Z) (oM Z Z (ifc hm245 ?_ ?_))))))))))
          ·intro c253 hm254
           refine zJ Z Z Z (zO Z Z (zg (fun h=>h c253.out))) Z Z (zJ Z Z Z (zO Z Z (zg (fun h=>h c253.out))) Z f211 (zU Z Z Z (zO Z Z (zg (fun h=>h c253.out))) (fun _=>Runs.gtr Z Z Z) (oR Z (zX Z (zg (fun h=>h c253.out)) Z) (eN (ifc hm254 ?_ ?_)))))
           ·intro c255 hm256
            refine cT Z c255 (sR fL1 Z (oA Z Z (eN (zM (zF (zY (zF ?_)))))))
            have q:=wBD hm256
            obtain ⟨v257,hm258,e259⟩:=q
            obtain rfl:=wCC hm162 hX187 (hb203 v257 e259)
            refine zF (zY (zF ?_))
            have hE:=nB hm258;first | subst r | cases hE
            exact ⟨rfl,_,(zl rfl),U246,_,(hS252.pick [] _ (by decide) rfl),rfl,rfl⟩
           ·intro c255 hm260
            refine cF Z c255 (kN (sR fL1 Z (oA Z Z (eN (zD (sR fL1 Z (oM Z Z (eN (zV ?_)))))))))
            have q:=bnd hm260
            obtain ⟨⟨y303,y304,y305,y306⟩,hf300,hm299⟩:=q
            try dsimp only at hm299
            have q:=wBR hf300
            obtain ⟨hle301,hf302⟩:=q
            replace hle301:=zG hle301
            refine CK.forN' (fun k298 (l289,x292,x293,l294) σ_ w_=>∃ (U_:PHeap) (A290:Option Addr) (c291:Nat) (A295:Option Addr) (c296:Nat),σ_ 109=jV (↑k298:Int)/\σ_ 6=.pointer (some ⟨b26,0,none⟩)/\σ_ 7=.slice A44 x33.length c45/\σ_ 9=jV x57/\σ_ 19=.slice A295 l294.length c296/\σ_ 91=jV (↑k185:Int)/\PHeap.Le U246 U_/\sW w U U_ [.blk b26 136 [.slice A290 l289.length c291,jV x292,.int .u32 x293],B2,.row A295 c296 3 1 (nA KL.encI l294)] w_/\Sl U_ 1 A290 c291 l289.length (nA KL.encB8 l289)) hf302 ?_ ?_ ?_
            ·have hS307:=hS252.nilrow 3 1
             have h309:=h231.le le234
             have h310:=h309.le le250
             exact ⟨U246,A228,c229,none,0,rfl,f209,f210,f211,rfl,fi205,(zP _),(hS307.pick [1,2,0] _ (by decide) rfl),h310⟩
            ·rintro k298 ⟨l289,x292,x293,l294⟩ xx313 σ311 W312 hk316 ⟨U318,A290,c291,A295,c296,fi317,f321,f322,f323,f324,f325,le319,hS320,h326⟩ hx314
             try dsimp only at hx314
             have c327:Hid ((↑k298:Int) < 6):=zG (wBf hk316)
             replace hk316:=zG hk316
             have hi328:Hid (w64 ((↑k298:Int) + 1)=(↑(k298 + 1):Int)):=zG (by have h1:=hle301.out;have h2:=c327.out;rw [wAY] <;> omega)
             refine sR fL1 Z (oR Z (zQ Z fi317 Z) (eN (zD (cT Z c327 (kN (zD (zV (sR fL2 Z (oM Z fi317 (oA Z Z (eN (sR (.fl 0 (.fx 1 (.nil) .stop)) Z (oM Z f321 ?_)))))))))))))
             have q:=bnd hx314
             obtain ⟨⟨x329,x330⟩,h331,hm332⟩:=q
             try dsimp only at hm332
             refine zL 1 Z Z Z Z (zK Z Z Tryz.call55 (zB Z (zB Z zR)) Z) hS320 (fun hs=>wBs (⟨l289,x292,x293⟩:wAB) b26 A290 c291 2 W312 U318 hs h326 h331) (.inl Z) ?_
             rintro U333 L334 v335 W336 le337 hS338 ⟨A339,c340,rfl,rfl,h341⟩
             let B5:Res:=.blk b26 136 [.slice A339 x330.bytes.length c340,jV x330.next,.int .u32 x330.state]
             let B6:Res:=.row A295 c296 3 1 (nA KL.encI l294)
             have hS342:sW w U U333 [B5,B2,B6] W336:=hS338
             refine eN (ifc hm332 ?_ ?_)
             ·intro c343 hm344
              refine zf (congrArg nD c343.out) (rR (.fl 0 (.fl 1 (.fx 2 (.fx 3 (.fl 4 (.nil)) .stop) .stop))) Z (oM Z f324 (oM Z Z (ZN (pv:=[(0,jV (↑k298:Int))]) (zs:=[jV 0]) (cs:=[jV (↑k298:Int)]) Z Z Z Z Z (wAg Z wBj) zC zA zz Z Z Z Z Z hS342 ?_))))
              intro W345 b346 hS347
              let B7:Res:=.row (some ⟨b346,0,none⟩) 1 3 1 (nA KL.encI [(↑k298:Int)])
              have hS349:sW w U U333 [B7,B5,B2,B6] W345:=hS347
              refine bnK hm344 fun x350 h351 hm352=>OKS.append (j:=3) (enc:=KL.encI) (xs:=l294) (ys:=[(↑k298:Int)]) (zs:=x350) rfl rfl rfl rfl rfl ZM wHU rfl rfl rfl rfl rfl rfl hS349 rfl rfl rfl (hS349.srcR (j:=0) rfl (by decide) (wAD (f:=KL.encI) (sz:=1) (fun _=>rfl) [(↑k298:Int)])) (fun _=>rfl) (fun _=>rfl) h351 rfl ?_
              intro A353 c354 W355 hS356
              have hS357:sW w U U333 [B7,B5,B2,.row A353 c354 3 1 (nA KL.encI x350)] W355:=hS356
              refine oA Z Z (zm (zW (zE (rR fL2 Z (oR Z (zn (zZ Z fi317 Z) (congrArg (jV) hi328.out)) (oM Z Z (zm ?_)))))))
              cases hm352
              exact zE ⟨rfl,⟨U333,A339,c340,A353,c354,rfl,f321,f322,f323,rfl,f325,(le319.trans le337),(hS357.pick [1,2,3] _ (by decide) rfl),h341⟩⟩
             ·intro c343 hm366
              refine zi (congrArg nD (nE.2 c343.out)) (zw (zW (zE (rR fL2 Z (oR Z (zn (zZ Z fi317 Z) (congrArg (jV) hi328.out)) (oM Z Z (zm ?_)))))))
              cases hm366
              exact zE ⟨Z,⟨U333,A339,c340,A295,c296,Z,f321,f322,f323,f324,f325,(le319.trans le337),hS342,h341⟩⟩
            ·rintro σ375 W376 ⟨U391,A387,c388,A389,c390,fi378,f394,f395,f396,f397,f398,le392,hS393,h399⟩
             have c400:Hid (¬ ((↑((6:Int) - 0).toNat:Int) < 6)):=zG (wBI)
             refine sR fL1 Z (oR Z (zQ Z fi378 Z) (eN (zD (cF Z c400 (ZB (zd (zd (zq (zE (sR (.fl 0 (.fl 1 (.fx 2 (wMQ (.nil)) .stop))) Z (oM Z f395 (oM Z f397 ?_))))))))))))
             have q:=hS393.freezeR (k:=2) (n:=y306.length) rfl (wAD (f:=KL.encI) (sz:=1) (fun _=>rfl) y306) (by decide)
             obtain ⟨U401,le402,hs403,hS404⟩:=q
             let B8:Res:=.blk b26 136 [.slice A387 y303.length c388,jV y304,.int .u32 y305]
             have hS405:sW w U U401 [B8,B2] W376:=hS404
             have h406:=h241.le le250
             have h407:=h406.le le392
             have h408:=h407.le le402
             have q:=bnd hm299
             obtain ⟨⟨x409,x410⟩,h411,hm412⟩:=q
             try dsimp only at hm412
             refine zL 0 Z Z Z Z (zK Z Z Tryz.call54 (zB Z (zB Z zR)) Z) hS405 (fun hs=>wCt x33 A44 c45 y306 A389 c390 W376 U401 hs h408 hs403 h411) (.inr Z) ?_
             rintro U413 L414 v415 W416 le417 hS418 ⟨rfl,rfl⟩
             have hS419:sW w U U413 [B8,B2] W416:=hS418
             refine oM Z Z (oR Z (zp Z Z (v:=jV x409) Z) (oR Z (zp Z Z (v:=jV x410) Z) (oA Z Z (oA Z Z (eN (sR fL19 Z (oM Z Z (oR Z (Runs.eql Z Z Z) (oM Z Z (ifc hm412 ?_ ?_))))))))))
             ·intro c420 hm421
              refine zJ Z Z Z (wT Z c420) Z Z (zJ Z Z Z (wT Z c420) Z f396 (rU Z (wT Z c420) (zQ Z Z Z) (oR Z (zS Z (ZE c420.out) Z) (oM Z Z (ifc hm421 ?_ ?_)))))
              ·intro c422 hm423
               refine oT Z c422 (oT Z c422 (oT Z c422 (zh Z Z Z (wAT Z Z Z) (zh Z Z Z (wAT Z Z Z) (oT Z c422 (oT Z c422 (zh Z Z Z (wAT Z Z Z) (zh Z Z Z (wAT Z Z Z) (oT Z c422 (oR Z (zS Z (ZE c422.out) Z) (eN (zf Z (sR fL1 Z (oA Z Z (eN (zM (zY (zF ?_))))))))))))))))))
               have q:=wBD hm423
               obtain ⟨v424,hm425,e426⟩:=q
               obtain rfl:=wCC hm162 hX187 (hb203 v424 e426)
               refine zF (zY (zF ?_))
               have hE:=nB hm425;first | subst r | cases hE
               exact ⟨rfl,_,(zl rfl),U413,_,(hS419.pick [] _ (by decide) rfl),rfl,rfl⟩
              ·intro c422 hm427
               refine zJ Z Z Z (wF Z c422) Z Z (rU Z (wF Z c422) (zt Z Z Z) (zJ Z Z Z (wF Z c422) Z Z (zh Z Z Z (zx Z Z (zg (fun h=>h c420.out)) Z) (zh Z Z Z (zx Z Z (zg (fun h=>h c420.out)) Z) (rU Z (wF Z c422) (zX Z (zg (fun h=>h c420.out)) Z) (zJ Z Z Z (wF Z c422) Z Z (oN Z (oN Z (rU Z (wF Z c422) (zX Z Z Z) (oR Z (zX Z (zg c422.out) Z) (eN (zi Z (zw (zW (zE (rR fL2 Z (oR Z (zn (zZ Z f398 Z) (congrArg (jV) hi214.out)) (oM Z Z (zm ?_)))))))))))))))))))
               obtain rfl:=nB hm427
               have h433:=h399.le le402
               have h434:=h433.le le417
               exact zE ⟨rfl,_,rfl,⟨U413,A387,c388,rfl,f394,f395,f396,((((((le207.trans le224).trans le234).trans le250).trans le392).trans le402).trans le417),(hS419.pick [1,0] _ (by decide) rfl),h434⟩⟩
             ·intro c420 hm435
              refine oF Z c420 (oF Z c420 (oF Z c420 (oR Z (zX Z (zg c420.out) Z) (oM Z Z (zJ Z Z Z (zO Z Z Z) Z Z (zU Z Z Z (zO Z Z Z) (fun _=>zt Z Z Z) (zJ Z Z Z (zO Z Z Z) Z Z (zJ Z Z Z (wT Z c420) Z Z (rU Z (wT Z c420) (zt Z Z Z) (zU Z Z Z (zO Z Z Z) (fun _=>zS Z (ZE c420.out) Z) (zJ Z Z Z (zO Z Z Z) Z Z (ifc hm435 ?_ ?_))))))))))))
              ·intro c436 hm437
               refine zh Z Z Z (zx Z Z (zg (fun h=>h c436.out)) Z) (zh Z Z Z (zx Z Z (zg (fun h=>h c436.out)) Z) (zU Z Z Z (zO Z Z Z) (fun _=>zX Z (zg (fun h=>h c436.out)) Z) (oR Z (zX Z Z Z) (eN (zi Z (zw (zW (zE (rR fL2 Z (oR Z (zn (zZ Z f398 Z) (congrArg (jV) hi214.out)) (oM Z Z (zm ?_))))))))))))
               obtain rfl:=nB hm437
               have h443:=h399.le le402
               have h444:=h443.le le417
               exact zE ⟨rfl,_,rfl,⟨U413,A387,c388,rfl,f394,f395,f396,((((((le207.trans le224).trans le234).trans le250).trans le392).trans le402).trans le417),(hS419.pick [1,0] _ (by decide) rfl),h444⟩⟩
              ·intro c436 hm445
               refine zJ Z Z Z (wT Z c436) Z Z (rU Z (wT Z c436) (zt Z Z Z) (zU Z Z Z (zO Z Z Z) (fun _=>zS Z (ZE c436.out) Z) (oR Z (zX Z Z Z) (eN (ifc hm445 ?_ ?_)))))
               ·intro c446 hm447
                refine zi (zg (fun h=>h c446.out)) (zw (zW (zE (rR fL2 Z (oR Z (zn (zZ Z f398 Z) (congrArg (jV) hi214.out)) (oM Z Z (zm ?_)))))))
                obtain rfl:=nB hm447
                have h453:=h399.le le402
                have h454:=h453.le le417
                exact zE ⟨rfl,_,rfl,⟨U413,A387,c388,rfl,f394,f395,f396,((((((le207.trans le224).trans le234).trans le250).trans le392).trans le402).trans le417),(hS419.pick [1,0] _ (by decide) rfl),h454⟩⟩
               ·intro c446 hm455
                refine cT Z c446 (sR fL1 Z (oA Z Z (eN (zM (zY (zF ?_))))))
                have q:=wBD hm455
                obtain ⟨v456,hm457,e458⟩:=q
                obtain rfl:=wCC hm162 hX187 (hb203 v456 e458)
                refine zF (zY (zF ?_))
                have hE:=nB hm457;first | subst r | cases hE
                exact ⟨rfl,_,(zl rfl),U413,_,(hS419.pick [] _ (by decide) rfl),rfl,rfl⟩
          ·intro c253 hm459
           refine oT Z c253 (oT Z c253 (oT Z c253 (oR Z (zS Z (ZE c253.out) Z) (eN (zf Z (sR fL1 Z (oA Z Z (eN (zM (zF (zY (zF ?_))))))))))))
           have q:=wBD hm459
           obtain ⟨v460,hm461,e462⟩:=q
           obtain rfl:=wCC hm162 hX187 (hb203 v460 e462)
           refine zF (zY (zF ?_))
           have hE:=nB hm461;first | subst r | cases hE
           exact ⟨rfl,_,(zl rfl),U246,_,(hS252.pick [] _ (by decide) rfl),rfl,rfl⟩
         ·rintro ⟨y467,y468,y469⟩ σ463 W464 ⟨U472,A470,c471,fi466,f475,f476,f477,le473,hS474,h478⟩ hb465
          have hm479:=wEZ hm162 hX187 hb465
          try dsimp only at hm479
          have c480:Hid (¬ ((↑((5:Int) - 0).toNat:Int) < 5)):=zG (wBI)
          refine sR fL1 Z (oR Z (zQ Z fi466 Z) (eN (zD (cF Z c480 (ZB (zd (zd (zq (zE (sR (.fx 0 (.fl 1 (.nil)) .stop) Z (bnK hm479 fun x481 h482 hm483=>zL 0 Z Z Z Z (zK Z Z Tryz.call11 zR Z) hS474 (fun hs=>wCG W464 U472 hs h482) (.inr Z) ?_)))))))))))
          rintro U484 L485 v486 W487 le488 hS489 ⟨rfl,rfl⟩
          have hS490:sW w U U484 [B2,.blk b26 136 [.slice A470 y467.length c471,jV y468,.int .u32 y469]] W487:=hS489
          refine oA Z Z (eN (zM ?_))
          have hE:=nB hm483;first | subst r | cases hE
          exact ⟨rfl,_,(zl rfl),U484,_,(hS490.pick [] _ (by decide) rfl),rfl,rfl⟩
        ·intro c161 hm491
         refine cT Z c161 (sR fL1 Z (oA Z Z (eN (zM (zF ?_)))))
         have hE:=nB hm491;first | subst r | cases hE
         exact ⟨rfl,_,(zl rfl),U152,_,(hS158.pick [] _ (by decide) rfl),rfl,rfl⟩
       ·intro c159 hm492
        refine oT Z c159 (oT Z c159 (oT Z c159 (oR Z (zS Z (ZE c159.out) Z) (eN (zf Z (sR fL1 Z (oA Z Z (eN (zM (zF ?_))))))))))
        have hE:=nB hm492;first | subst r | cases hE
        exact ⟨rfl,_,(zl rfl),U152,_,(hS158.pick [] _ (by decide) rfl),rfl,rfl⟩
      ·intro c138 hm493
       refine cF Z c138 (sR fL8 Z (oM Z f114 (oR Z (zt Z Z Z) (oM Z Z (ifc hm493 ?_ ?_)))))
       ·intro c494 hm495
        refine zJ Z Z Z (zO Z Z (zg (fun h=>h c494.out))) Z f109 (zJ Z Z Z (zO Z Z (zg (fun h=>h c494.out))) Z f107 (zU Z Z Z (zO Z Z (zg (fun h=>h c494.out))) (fun _=>zk Z Z zN) (zU Z Z Z (zO Z Z (zg (fun h=>h c494.out))) (fun _=>zt Z Z Z) (oR Z (zX Z (zg (fun h=>h c494.out)) Z) (eN (ifc hm495 ?_ ?_))))))
        ·intro c496 hm497
         refine zi (zg (fun h=>h c496.out)) (kN (zD (sR fL1 Z (oM Z Z (eN (zV ?_))))))
         have q:=wDE hm497
         obtain ⟨r521,hX522⟩:=q
         have q:=wDD hX522
         obtain ⟨hle523,hf524⟩:=q
         replace hle523:=zG hle523
         refine CK.forN (fun k520 (l515,x518,x519) σ_ w_=>∃ (U_:PHeap) (A516:Option Addr) (c517:Nat),σ_ 91=jV (↑k520:Int)/\σ_ 6=.pointer (some ⟨b26,0,none⟩)/\σ_ 7=.slice A44 x33.length c45/\σ_ 9=jV x57/\PHeap.Le U124 U_/\sW w U U_ [B2,.blk b26 136 [.slice A516 l515.length c517,jV x518,.int .u32 x519]] w_/\Sl U_ 1 A516 c517 l515.length (nA KL.encB8 l515)) hf524 ?_ ?_ ?_
         ·have h525:=h30.le le42
          have h526:=h525.le le52
          have h527:=h526.le le65
          have h528:=h527.le le72
          have h529:=h528.le le86
          have h530:=h529.le le98
          have h531:=h530.le le128
          exact ⟨U124,A27,c28,rfl,f106,f107,f109,(zP _),(hS130.pick [1,2] _ (by decide) rfl),h531⟩
         ·rintro k520 ⟨l515,x518,x519⟩ xx534 σ532 W533 hk537 ⟨U539,A516,c517,fi538,f542,f543,f544,le540,hS541,h545⟩ hx535 hb536
          try dsimp only at hx535
          have c546:Hid ((↑k520:Int) < 5):=zG (wBf hk537)
          replace hk537:=zG hk537
          have hi547:Hid (w64 ((↑k520:Int) + 1)=(↑(k520 + 1):Int)):=zG (by have h1:=hle523.out;have h2:=c546.out;rw [wAY] <;> omega)
          refine sR fL1 Z (oR Z (zQ Z fi538 Z) (eN (zD (cT Z c546 (kN (zD (zV (zD (sR (wGr (.fx 4 (.fx 5 (wNg (.nil)) .stop) .stop)) Z (oM Z f543 (oM Z f542 (oM Z f543 (oR Z (zk Z Z zN) ?_)))))))))))))
          have q:=bnd hx535
          obtain ⟨⟨x548,x549⟩,h550,hm551⟩:=q
          try dsimp only at hm551
          have hS552:sW w U U539 [.blk b26 136 [.slice A516 l515.length c517,jV x518,.int .u32 x519],B2] W533:=hS541.pick [1,0] _ (by decide) rfl
          refine zL 1 Z Z Z Z (zK Z Z Tryz.call29 (zB Z (zB Z zR)) Z) hS552 (fun hs=>wBH (⟨l515,x518,x519⟩:wAB) b26 A516 c517 (↑x33.length:Int) W533 U539 hs h545 h550) (.inl Z) ?_
          rintro U553 L554 v555 W556 le557 hS558 ⟨A559,c560,A561,c562,rfl,rfl,h564⟩
          let B9:Res:=.blk b26 136 [.slice A561 x549.bytes.length c562,jV x549.next,.int .u32 x549.state]
          have hS565:sW w U U553 [.row A559 c560 3 1 (nA KL.encI x548),B9,B2] W556:=hS558
          have q:=hS565.freezeR (k:=0) (n:=x548.length) rfl (wAD (f:=KL.encI) (sz:=1) (fun _=>rfl) x548) (by decide)
          obtain ⟨U566,le567,hs568,hS569⟩:=q
          have hS570:sW w U U566 [B9,B2] W556:=hS569
          have h571:=h89.le le98
          have h572:=h571.le le128
          have h573:=h572.le le540
          have h574:=h573.le le557
          have h575:=h574.le le567
          have q:=bnd hm551
          obtain ⟨⟨x576,x577⟩,h578,hm579⟩:=q
          try dsimp only at hm579
          refine zL 0 Z Z Z Z (zK Z Z Tryz.call51 (zB Z (zB Z zR)) Z) hS570 (fun hs=>wCr x33 A44 c45 x548 A559 c560 W556 U566 hs h575 hs568 h578) (.inr Z) ?_
          rintro U580 L581 v582 W583 le584 hS585 ⟨rfl,rfl⟩
          have hS586:sW w U U580 [B9,B2] W583:=hS585
          refine oM Z Z (oR Z (zp Z Z (v:=jV x576) Z) (oR Z (zp Z Z (v:=jV x577) Z) (oA Z Z (oA Z Z (eN (sR fL7 Z (oM Z Z (oR Z (zt Z Z Z) (oM Z Z (ifc hm579 ?_ ?_))))))))))
          ·intro c587 hm588
           refine zJ Z Z Z (zO Z Z (zg (fun h=>h c587.out))) Z Z (zJ Z Z Z (zO Z Z (zg (fun h=>h c587.out))) Z f544 (zU Z Z Z (zO Z Z (zg (fun h=>h c587.out))) (fun _=>Runs.gtr Z Z Z) (oR Z (zX Z (zg (fun h=>h c587.out)) Z) (eN (ifc hm588 ?_ ?_)))))
           ·intro c589 hm590
            refine cT Z c589 (sR fL1 Z (oA Z Z (eN (zM (zF (zY (zF ?_)))))))
            have q:=wBD hm590
            obtain ⟨v591,hm592,e593⟩:=q
            obtain rfl:=wCC hm497 hX522 (hb536 v591 e593)
            refine zF (zY (zF ?_))
            have hE:=nB hm592;first | subst r | cases hE
            exact ⟨rfl,_,(zl rfl),U580,_,(hS586.pick [] _ (by decide) rfl),rfl,rfl⟩
           ·intro c589 hm594
            refine cF Z c589 (kN (sR fL1 Z (oA Z Z (eN (zD (sR fL1 Z (oM Z Z (eN (zV ?_)))))))))
            have q:=bnd hm594
            obtain ⟨⟨y637,y638,y639,y640⟩,hf634,hm633⟩:=q
            try dsimp only at hm633
            have q:=wBR hf634
            obtain ⟨hle635,hf636⟩:=q
            replace hle635:=zG hle635
            refine CK.forN' (fun k632 (l623,x626,x627,l628) σ_ w_=>∃ (U_:PHeap) (A624:Option Addr) (c625:Nat) (A629:Option Addr) (c630:Nat),σ_ 109=jV (↑k632:Int)/\σ_ 6=.pointer (some ⟨b26,0,none⟩)/\σ_ 7=.slice A44 x33.length c45/\σ_ 9=jV x57/\σ_ 19=.slice A629 l628.length c630/\σ_ 91=jV (↑k520:Int)/\PHeap.Le U580 U_/\sW w U U_ [.blk b26 136 [.slice A624 l623.length c625,jV x626,.int .u32 x627],B2,.row A629 c630 3 1 (nA KL.encI l628)] w_/\Sl U_ 1 A624 c625 l623.length (nA KL.encB8 l623)) hf636 ?_ ?_ ?_
            ·have hS641:=hS586.nilrow 3 1
             have h643:=h564.le le567
             have h644:=h643.le le584
             exact ⟨U580,A561,c562,none,0,rfl,f542,f543,f544,rfl,fi538,(zP _),(hS641.pick [1,2,0] _ (by decide) rfl),h644⟩
            ·rintro k632 ⟨l623,x626,x627,l628⟩ xx647 σ645 W646 hk650 ⟨U652,A624,c625,A629,c630,fi651,f655,f656,f657,f658,f659,le653,hS654,h660⟩ hx648
             try dsimp only at hx648
             have c661:Hid ((↑k632:Int) < 6):=zG (wBf hk650)
             replace hk650:=zG hk650
             have hi662:Hid (w64 ((↑k632:Int) + 1)=(↑(k632 + 1):Int)):=zG (by have h1:=hle635.out;have h2:=c661.out;rw [wAY] <;> omega)
             refine sR fL1 Z (oR Z (zQ Z fi651 Z) (eN (zD (cT Z c661 (kN (zD (zV (sR fL2 Z (oM Z fi651 (oA Z Z (eN (sR (.fl 0 (.fx 1 (.nil) .stop)) Z (oM Z f655 ?_)))))))))))))
             have q:=bnd hx648
             obtain ⟨⟨x663,x664⟩,h665,hm666⟩:=q
             try dsimp only at hm666
             refine zL 1 Z Z Z Z (zK Z Z Tryz.call55 (zB Z (zB Z zR)) Z) hS654 (fun hs=>wBs (⟨l623,x626,x627⟩:wAB) b26 A624 c625 2 W646 U652 hs h660 h665) (.inl Z) ?_
             rintro U667 L668 v669 W670 le671 hS672 ⟨A673,c674,rfl,rfl,h675⟩
             let B10:Res:=.blk b26 136 [.slice A673 x664.bytes.length c674,jV x664.next,.int .u32 x664.state]
             let B11:Res:=.row A629 c630 3 1 (nA KL.encI l628)
             have hS676:sW w U U667 [B10,B2,B11] W670:=hS672
             refine eN (ifc hm666 ?_ ?_)
             ·intro c677 hm678
              refine zf (congrArg nD c677.out) (rR (.fl 0 (.fl 1 (.fx 2 (.fx 3 (.fl 4 (.nil)) .stop) .stop))) Z (oM Z f658 (oM Z Z (ZN (pv:=[(0,jV (↑k632:Int))]) (zs:=[jV 0]) (cs:=[jV (↑k632:Int)]) Z Z Z Z Z (wAg Z wBj) zC zA zz Z Z Z Z Z hS676 ?_))))
              intro W679 b680 hS681
              let B12:Res:=.row (some ⟨b680,0,none⟩) 1 3 1 (nA KL.encI [(↑k632:Int)])
              have hS683:sW w U U667 [B12,B10,B2,B11] W679:=hS681
              refine bnK hm678 fun x684 h685 hm686=>OKS.append (j:=3) (enc:=KL.encI) (xs:=l628) (ys:=[(↑k632:Int)]) (zs:=x684) rfl rfl rfl rfl rfl ZM wHU rfl rfl rfl rfl rfl rfl hS683 rfl rfl rfl (hS683.srcR (j:=0) rfl (by decide) (wAD (f:=KL.encI) (sz:=1) (fun _=>rfl) [(↑k632:Int)])) (fun _=>rfl) (fun _=>rfl) h685 rfl ?_
              intro A687 c688 W689 hS690
              have hS691:sW w U U667 [B12,B10,B2,.row A687 c688 3 1 (nA KL.encI x684)] W689:=hS690
              refine oA Z Z (zm (zW (zE (rR fL2 Z (oR Z (zn (zZ Z fi651 Z) (congrArg (jV) hi662.out)) (oM Z Z (zm ?_)))))))
              cases hm686
              exact zE ⟨rfl,⟨U667,A673,c674,A687,c688,rfl,f655,f656,f657,rfl,f659,(le653.trans le671),(hS691.pick [1,2,3] _ (by decide) rfl),h675⟩⟩
             ·intro c677 hm700
              refine zi (congrArg nD (nE.2 c677.out)) (zw (zW (zE (rR fL2 Z (oR Z (zn (zZ Z fi651 Z) (congrArg (jV) hi662.out)) (oM Z Z (zm ?_)))))))
              cases hm700
              exact zE ⟨Z,⟨U667,A673,c674,A629,c630,Z,f655,f656,f657,f658,f659,(le653.trans le671),hS676,h675⟩⟩
            ·rintro σ709 W710 ⟨U725,A721,c722,A723,c724,fi712,f728,f729,f730,f731,f732,le726,hS727,h733⟩
             have c734:Hid (¬ ((↑((6:Int) - 0).toNat:Int) < 6)):=zG (wBI)
             refine sR fL1 Z (oR Z (zQ Z fi712 Z) (eN (zD (cF Z c734 (ZB (zd (zd (zq (zE (sR (.fl 0 (.fl 1 (.fx 2 (wMQ (.nil)) .stop))) Z (oM Z f729 (oM Z f731 ?_))))))))))))
             have q:=hS727.freezeR (k:=2) (n:=y640.length) rfl (wAD (f:=KL.encI) (sz:=1) (fun _=>rfl) y640) (by decide)
             obtain ⟨U735,le736,hs737,hS738⟩:=q
             let B13:Res:=.blk b26 136 [.slice A721 y637.length c722,jV y638,.int .u32 y639]
             have hS739:sW w U U735 [B13,B2] W710:=hS738
             have h740:=h575.le le584
             have h741:=h740.le le726
             have h742:=h741.le le736
             have q:=bnd hm633
             obtain ⟨⟨x743,x744⟩,h745,hm746⟩:=q
             try dsimp only at hm746
             refine zL 0 Z Z Z Z (zK Z Z Tryz.call54 (zB Z (zB Z zR)) Z) hS739 (fun hs=>wCt x33 A44 c45 y640 A723 c724 W710 U735 hs h742 hs737 h745) (.inr Z) ?_
             rintro U747 L748 v749 W750 le751 hS752 ⟨rfl,rfl⟩
             have hS753:sW w U U747 [B13,B2] W750:=hS752
             refine oM Z Z (oR Z (zp Z Z (v:=jV x743) Z) (oR Z (zp Z Z (v:=jV x744) Z) (oA Z Z (oA Z Z (eN (sR fL19 Z (oM Z Z (oR Z (Runs.eql Z Z Z) (oM Z Z (ifc hm746 ?_ ?_))))))))))
             ·intro c754 hm755
              refine zJ Z Z Z (wT Z c754) Z Z (zJ Z Z Z (wT Z c754) Z f730 (rU Z (wT Z c754) (zQ Z Z Z) (oR Z (zS Z (ZE c754.out) Z) (oM Z Z (ifc hm755 ?_ ?_)))))
              ·intro c756 hm757
               refine oT Z c756 (oT Z c756 (oT Z c756 (zh Z Z Z (wAT Z Z Z) (zh Z Z Z (wAT Z Z Z) (oT Z c756 (oT Z c756 (zh Z Z Z (wAT Z Z Z) (zh Z Z Z (wAT Z Z Z) (oT Z c756 (oR Z (zS Z (ZE c756.out) Z) (eN (zf Z (sR fL1 Z (oA Z Z (eN (zM (zY (zF ?_))))))))))))))))))
               have q:=wBD hm757
               obtain ⟨v758,hm759,e760⟩:=q
               obtain rfl:=wCC hm497 hX522 (hb536 v758 e760)
               refine zF (zY (zF ?_))
               have hE:=nB hm759;first | subst r | cases hE
               exact ⟨rfl,_,(zl rfl),U747,_,(hS753.pick [] _ (by decide) rfl),rfl,rfl⟩
              ·intro c756 hm761
               refine zJ Z Z Z (wF Z c756) Z Z (rU Z (wF Z c756) (zt Z Z Z) (zJ Z Z Z (wF Z c756) Z Z (zh Z Z Z (zx Z Z (zg (fun h=>h c754.out)) Z) (zh Z Z Z (zx Z Z (zg (fun h=>h c754.out)) Z) (rU Z (wF Z c756) (zX Z (zg (fun h=>h c754.out)) Z) (zJ Z Z Z (wF Z c756) Z Z (oN Z (oN Z (rU Z (wF Z c756) (zX Z Z Z) (oR Z (zX Z (zg c756.out) Z) (eN (zi Z (zw (zW (zE (rR fL2 Z (oR Z (zn (zZ Z f732 Z) (congrArg (jV) hi547.out)) (oM Z Z (zm ?_)))))))))))))))))))
               obtain rfl:=nB hm761
               have h767:=h733.le le736
               have h768:=h767.le le751
               exact zE ⟨rfl,_,rfl,⟨U747,A721,c722,rfl,f728,f729,f730,((((((le540.trans le557).trans le567).trans le584).trans le726).trans le736).trans le751),(hS753.pick [1,0] _ (by decide) rfl),h768⟩⟩
             ·intro c754 hm769
              refine oF Z c754 (oF Z c754 (oF Z c754 (oR Z (zX Z (zg c754.out) Z) (oM Z Z (zJ Z Z Z (zO Z Z Z) Z Z (zU Z Z Z (zO Z Z Z) (fun _=>zt Z Z Z) (zJ Z Z Z (zO Z Z Z) Z Z (zJ Z Z Z (wT Z c754) Z Z (rU Z (wT Z c754) (zt Z Z Z) (zU Z Z Z (zO Z Z Z) (fun _=>zS Z (ZE c754.out) Z) (zJ Z Z Z (zO Z Z Z) Z Z (ifc hm769 ?_ ?_))))))))))))
              ·intro c770 hm771
               refine zh Z Z Z (zx Z Z (zg (fun h=>h c770.out)) Z) (zh Z Z Z (zx Z Z (zg (fun h=>h c770.out)) Z) (zU Z Z Z (zO Z Z Z) (fun _=>zX Z (zg (fun h=>h c770.out)) Z) (oR Z (zX Z Z Z) (eN (zi Z (zw (zW (zE (rR fL2 Z (oR Z (zn (zZ Z f732 Z) (congrArg (jV) hi547.out)) (oM Z Z (zm ?_))))))))))))
               obtain rfl:=nB hm771
               have h777:=h733.le le736
               have h778:=h777.le le751
               exact zE ⟨rfl,_,rfl,⟨U747,A721,c722,rfl,f728,f729,f730,((((((le540.trans le557).trans le567).trans le584).trans le726).trans le736).trans le751),(hS753.pick [1,0] _ (by decide) rfl),h778⟩⟩
              ·intro c770 hm779
               refine zJ Z Z Z (wT Z c770) Z Z (rU Z (wT Z c770) (zt Z Z Z) (zU Z Z Z (zO Z Z Z) (fun _=>zS Z (ZE c770.out) Z) (oR Z (zX Z Z Z) (eN (ifc hm779 ?_ ?_)))))
               ·intro c780 hm781
                refine zi (zg (fun h=>h c780.out)) (zw (zW (zE (rR fL2 Z (oR Z (zn (zZ Z f732 Z) (congrArg (jV) hi547.out)) (oM Z Z (zm ?_)))))))
                obtain rfl:=nB hm781
                have h787:=h733.le le736
                have h788:=h787.le le751
                exact zE ⟨rfl,_,rfl,⟨U747,A721,c722,rfl,f728,f729,f730,((((((le540.trans le557).trans le567).trans le584).trans le726).trans le736).trans le751),(hS753.pick [1,0] _ (by decide) rfl),h788⟩⟩
               ·intro c780 hm789
                refine cT Z c780 (sR fL1 Z (oA Z Z (eN (zM (zY (zF ?_))))))
                have q:=wBD hm789
                obtain ⟨v790,hm791,e792⟩:=q
                obtain rfl:=wCC hm497 hX522 (hb536 v790 e792)
                refine zF (zY (zF ?_))
                have hE:=nB hm791;first | subst r | cases hE
                exact ⟨rfl,_,(zl rfl),U747,_,(hS753.pick [] _ (by decide) rfl),rfl,rfl⟩
          ·intro c587 hm793
           refine oT Z c587 (oT Z c587 (oT Z c587 (oR Z (zS Z (ZE c587.out) Z) (eN (zf Z (sR fL1 Z (oA Z Z (eN (zM (zF (zY (zF ?_))))))))))))
           have q:=wBD hm793
           obtain ⟨v794,hm795,e796⟩:=q
           obtain rfl:=wCC hm497 hX522 (hb536 v794 e796)
           refine zF (zY (zF ?_))
           have hE:=nB hm795;first | subst r | cases hE
           exact ⟨rfl,_,(zl rfl),U580,_,(hS586.pick [] _ (by decide) rfl),rfl,rfl⟩
         ·rintro ⟨y801,y802,y803⟩ σ797 W798 ⟨U806,A804,c805,fi800,f809,f810,f811,le807,hS808,h812⟩ hb799
          have hm813:=wEZ hm497 hX522 hb799
          try dsimp only at hm813
          have c814:Hid (¬ ((↑((5:Int) - 0).toNat:Int) < 5)):=zG (wBI)
          refine sR fL1 Z (oR Z (zQ Z fi800 Z) (eN (zD (cF Z c814 (ZB (zd (zd (zq (zE (sR (.fx 0 (.fl 1 (.nil)) .stop) Z (bnK hm813 fun x815 h816 hm817=>zL 0 Z Z Z Z (zK Z Z Tryz.call11 zR Z) hS808 (fun hs=>wCG W798 U806 hs h816) (.inr Z) ?_)))))))))))
          rintro U818 L819 v820 W821 le822 hS823 ⟨rfl,rfl⟩
          have hS824:sW w U U818 [B2,.blk b26 136 [.slice A804 y801.length c805,jV y802,.int .u32 y803]] W821:=hS823
          refine oA Z Z (eN (zM ?_))
          have hE:=nB hm817;first | subst r | cases hE
          exact ⟨rfl,_,(zl rfl),U818,_,(hS824.pick [] _ (by decide) rfl),rfl,rfl⟩
        ·intro c496 hm825
         refine cT Z c496 (sR fL1 Z (oA Z Z (eN (zM (zF ?_)))))
         have hE:=nB hm825;first | subst r | cases hE
         exact ⟨rfl,_,(zl rfl),U124,_,(hS130.pick [] _ (by decide) rfl),rfl,rfl⟩
       ·intro c494 hm826
        refine oT Z c494 (oT Z c494 (oT Z c494 (oT Z c494 (oR Z (zS Z (ZE c494.out) Z) (eN (zf Z (sR fL1 Z (oA Z Z (eN (zM (zF ?_)))))))))))
        have hE:=nB hm826;first | subst r | cases hE
        exact ⟨rfl,_,(zl rfl),U124,_,(hS130.pick [] _ (by decide) rfl),rfl,rfl⟩
    ·intro c133 hm827
     refine oT Z c133 (oT Z c133 (oR Z (zS Z (ZE c133.out) Z) (eN (zf Z (sR fL1 Z (oA Z Z (eN (zM (zF ?_)))))))))
     have hE:=nB hm827;first | subst r | cases hE
     exact ⟨rfl,_,(zl rfl),U124,_,(hS130.pick [] _ (by decide) rfl),rfl,rfl⟩
   ·intro c131 hm828
    refine zh Z Z Z (zx Z Z (nF (c131.out)) Z) (zh Z Z Z (zx Z Z (nF (c131.out)) Z) (zh Z Z Z (zx Z Z (nF (c131.out)) Z) (oR Z (zS Z (nF (c131.out)) Z) (oM Z Z (oN Z (oN Z (oR Z (zS Z Z Z) (eN (zf Z (sR fL1 Z (oA Z Z (eN (zM (zF ?_))))))))))))))
    have hE:=nB hm828;first | subst r | cases hE
    exact ⟨rfl,_,(zl rfl),U124,_,(hS130.pick [] _ (by decide) rfl),rfl,rfl⟩
  ·intro c117 hm829
   refine oT Z c117 (oT Z c117 (oT Z c117 (OKS.px Z Z Z (zx Z Z (ZE c117.out) Z) (oT Z c117 (oR Z (zS Z (ZE c117.out) Z) (oM Z Z (oN Z (oN Z (oN Z (oR Z (zS Z Z Z) (oM Z Z (oN Z (oN Z (oR Z (zS Z Z Z) (eN (zf Z (sR fL1 Z (oA Z Z (eN (zM (zF ?_)))))))))))))))))))))
   have hE:=nB hm829;first | subst r | cases hE
   exact ⟨rfl,_,(zl rfl),U94,_,(hS103.pick [] _ (by decide) rfl),rfl,rfl⟩
 ·intro c115 hm830
  refine oT Z c115 (oT Z c115 (oR Z (zS Z (ZE c115.out) Z) (oM Z Z (oN Z (oN Z (oN Z (OKS.px Z Z Z (zx Z Z Z Z) (oN Z (oR Z (zS Z Z Z) (oM Z Z (oN Z (oN Z (oN Z (oR Z (zS Z Z Z) (oM Z Z (oN Z (oN Z (oR Z (zS Z Z Z) (eN (zf Z (sR fL1 Z (oA Z Z (eN (zM (zF ?_)))))))))))))))))))))))))
  have hE:=nB hm830;first | subst r | cases hE
  exact ⟨rfl,_,(zl rfl),U94,_,(hS103.pick [] _ (by decide) rfl),rfl,rfl⟩
end Go.Proofs.YtghaibkggdecnaaGreat
