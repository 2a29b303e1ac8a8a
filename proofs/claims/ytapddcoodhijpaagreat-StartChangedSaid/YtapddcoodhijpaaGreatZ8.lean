import Derived.Test.YtapddcoodhijpaaGreatZ7
set_option linter.all false
open List renaming flatMap->hH
open Option.some renaming inj->nA
open Go.Value renaming bool->nB
open Bool renaming eq_false_iff->nD
open Prod.mk renaming injEq->nE
open Nat renaming blt->nG,le_of_ble_eq_true->nH
namespace Go.Proofs.YtapddcoodhijpaaGreat
open Go.KL
set_option maxHeartbeats 4000000
theorem Z {α:Type} {a:α}:a=a:=rfl
section
variable {r:Option Nat} {N:Nat} {P:Program} {l:List Oper} {Q:wBw} {D:List Deferred} {ks:List Nat} {σ:Env} {w:World} {i d j e:Nat} {s:Sch} {o:Oper} {b:Bool} {x:Operand} {v:Value} {p:Prop} {inst:Decidable p} {K:List Deferred->Env->World->Prop} {c1 c2:Code}
abbrev jV (n:Int):Value:=.int .i64 n
abbrev SW (w:World) (X:List Res) (U U':PHeap) (L:List Res) (w':World):Prop:=St ⟨w,X,U⟩ U' L w'
abbrev sW (w:World) (U U':PHeap) (L:List Res) (w':World):Prop:=St ⟨w,[],U⟩ U' L w'
abbrev St0 (w:World) (U:PHeap) (L:List Res):Prop:=St ⟨w,L,U⟩ U L w
theorem ifc {α:Type} {G p:Prop} {inst:Decidable p} {a b r:α} (h:@ite α p inst a b=r) (h1:Hid p->a=r->G) (h2:Hid (¬ p)->b=r->G):G:=by
 by_cases c:p
 · rw [if_pos c] at h;exact h1 ⟨c⟩ h
 · rw [if_neg c] at h;exact h2 ⟨c⟩ h
theorem bnK {α β:Type} {G:Prop} {o:Option α} {f:α->Option β} {r:β} (h:o.bind f=some r) (k:∀ x,o=some x->f x=some r->G):G:=by
 obtain ⟨x,h1,h2⟩:=bnd h
 exact k x h1 h2
theorem oR (h:(l[i]?,o.dst,nG d N,wanted l σ o)=(some o,some d,true,true)) (hr:∀ {w'},Runs P σ w' o v w') (k:OKS N P l Q D ks s (upd σ d v) w):OKS N P l Q D ks (.fl i s) σ w:=by
 simp only [nE] at h;exact OKS.r h.1 h.2.1 h.2.2.1 h.2.2.2 (fun _=>hr) k
theorem oL (h:(l[i]?,o.dst,nG d N,wanted l σ o,wNa (kOf ks i))=(some o,some d,true,true,false)) (hr:wEF P σ w o v) (k:OKS N P l Q D ks s (upd σ d v) w):OKS N P l Q D ks (.fl i s) σ w:=by
 simp only [nE] at h;exact OKS.m h.1 h.2.1 h.2.2.1 h.2.2.2.1 hr h.2.2.2.2 k
theorem oM (h:(l[i]?,o.dst,nG d N,wanted l σ o,o.op)=(some o,some d,true,true,.move x)) (hx:ev σ x=v) (k:OKS N P l Q D ks s (upd σ d v) w):OKS N P l Q D ks (.fl i s) σ w:=by
 simp only [nE] at h;exact OKS.rm h.1 h.2.1 h.2.2.1 h.2.2.2.1 h.2.2.2.2 hx k
theorem oA (h:(l[i]?,o.dst,nG d N,wanted l σ o,o.op)=(some o,some d,true,true,.assign x)) (hx:ev σ x=v) (k:OKS N P l Q D ks s (upd σ d v) w):OKS N P l Q D ks (.fl i s) σ w:=by
 simp only [nE] at h;exact OKS.ra h.1 h.2.1 h.2.2.1 h.2.2.2.1 h.2.2.2.2 hx k
theorem oF (h:(l[i]?,o.dst,nG d N,o.guard,(l[j]?).bind (·.dst),σ e,false == b)=(some o,some d,true,some (j,b),some e,.bool (decide p),false)) (c:Hid (¬ p)) (k:OKS N P l Q D ks s (upd σ d undef) w):OKS N P l Q D ks (.fl i s) σ w:=by
 simp only [nE] at h;exact OKS.p h.1 h.2.1 h.2.2.1 (wEN h.2.2.2.1 h.2.2.2.2.1 (h.2.2.2.2.2.1.trans (wNZ c.out)) h.2.2.2.2.2.2) k
theorem oT (h:(l[i]?,o.dst,nG d N,o.guard,(l[j]?).bind (·.dst),σ e,true == b)=(some o,some d,true,some (j,b),some e,.bool (decide p),false)) (c:Hid p) (k:OKS N P l Q D ks s (upd σ d undef) w):OKS N P l Q D ks (.fl i s) σ w:=by
 simp only [nE] at h;exact OKS.p h.1 h.2.1 h.2.2.1 (wEN h.2.2.2.1 h.2.2.2.2.1 (h.2.2.2.2.2.1.trans (wEx c.out)) h.2.2.2.2.2.2) k
theorem oN {b2:Bool} (h:(l[i]?,o.dst,nG d N,o.guard,(l[j]?).bind (·.dst),σ e,b2 == b)=(some o,some d,true,some (j,b),some e,.bool b2,false)) (k:OKS N P l Q D ks s (upd σ d undef) w):OKS N P l Q D ks (.fl i s) σ w:=by
 simp only [nE] at h;exact OKS.p h.1 h.2.1 h.2.2.1 (wEN h.2.2.2.1 h.2.2.2.2.1 h.2.2.2.2.2.1 h.2.2.2.2.2.2) k
theorem nC {a b:Bool} (h:a=b):nB (!a)=nB (!b):=h ▸ rfl
theorem nF {a:Bool} (h:¬ a=true):nB (!a)=nB (!false):=nC (nD.2 h)
theorem wT (h:(o.guard,(l[j]?).bind (·.dst),σ e)=(some (j,true),some e,.bool (decide p))) (c:Hid p):wanted l σ o=true:=by
 simp only [nE] at h;exact wFe h.1 h.2.1 (h.2.2.trans (wEx c.out))
theorem wF (h:(o.guard,(l[j]?).bind (·.dst),σ e)=(some (j,false),some e,.bool (decide p))) (c:Hid (¬ p)):wanted l σ o=true:=by
 simp only [nE] at h;exact wFe h.1 h.2.1 (h.2.2.trans (wNZ c.out))
theorem rU (h:(l[i]?,o.dst,nG d N)=(some o,some d,true)) (hw:wanted l σ o=true) (hr:∀ {w'},Runs P σ w' o v w') (k:OKS N P l Q D ks s (upd σ d v) w):OKS N P l Q D ks (.fl i s) σ w:=by
 simp only [nE] at h;exact OKS.r h.1 h.2.1 h.2.2 hw (fun _=>hr) k
theorem sR {id:Nat} (s:Sch) (hs:inOrder 0 s l.length=true) (h:OKS N P l (wDN (fun D σ w=>CK r N P c2 Q D σ w) Q) D [] s σ w):CK r N P (.seq (.region id l.toArray false) c2) Q D σ w:=CK.seq (CK.reg s hs h)
theorem rR {id:Nat} (s:Sch) (hs:inOrder 0 s l.length=true) (h:OKS N P l Q D [] s σ w):CK r N P (.region id l.toArray false) Q D σ w:=CK.reg s hs h
theorem eN (h:K D σ w):OKS N P l (wDN K Q) D ks .nil σ w:=OKS.e (wFa h)
theorem cT (hz:ev σ x=.bool (decide p)) (c:Hid p) (h:CK r N P c1 Q D σ w):CK r N P (.cond x c1 c2) Q D σ w:=CK.condT (hz.trans (wEx c.out)) h
theorem cF (hz:ev σ x=.bool (decide p)) (c:Hid (¬ p)) (h:CK r N P c2 Q D σ w):CK r N P (.cond x c1 c2) Q D σ w:=CK.condF (hz.trans (wNZ c.out)) h
theorem kN (h:K D σ w):CK r N P .skip (wDN K Q) D σ w:=CK.skip (wFa h)
end
def fL1:Sch:=.fl 0 (.nil)
def fL2:Sch:=.fl 0 (.fl 1 (.nil))
def fL3:Sch:=.fl 0 (.fl 1 (.fl 2 (.nil)))
def fL4:Sch:=.fl 0 (.fl 1 (.fl 2 (.fl 3 (.nil))))
def fL5:Sch:=.fl 0 (.fl 1 (.fl 2 (.fl 3 (.fl 4 (.nil)))))
def fL6:Sch:=.fl 0 (.fl 1 (.fl 2 (.fl 3 (.fl 4 (.fl 5 (.nil))))))
def fL7:Sch:=.fl 0 (.fl 1 (.fl 2 (.fl 3 (.fl 4 (.fl 5 (.fl 6 (.nil)))))))
def fL8:Sch:=.fl 0 (.fl 1 (.fl 2 (.fl 3 (.fl 4 (.fl 5 (.fl 6 (.fl 7 (.nil))))))))
def fL9:Sch:=.fl 0 (.fl 1 (.fl 2 (.fl 3 (.fl 4 (.fl 5 (.fl 6 (.fl 7 (.fl 8 (.nil)))))))))
def fL10:Sch:=.fl 0 (.fl 1 (.fl 2 (.fl 3 (.fl 4 (.fl 5 (.fl 6 (.fl 7 (.fl 8 (.fl 9 (.nil))))))))))
def fL11:Sch:=.fl 0 (.fl 1 (.fl 2 (.fl 3 (.fl 4 (.fl 5 (.fl 6 (.fl 7 (.fl 8 (.fl 9 (.fl 10 (.nil)))))))))))
def fL30:Sch:=.fl 0 (.fl 1 (.fl 2 (.fl 3 (.fl 4 (.fl 5 (.fl 6 (.fl 7 (.fl 8 (.fl 9 (.fl 10 (.fl 11 (.fl 12 (.fl 13 (.fl 14 (.fl 15 (.fl 16 (.fl 17 (.fl 18 (.fl 19 (.fl 20 (.fl 21 (.fl 22 (.fl 23 (.fl 24 (.fl 25 (.fl 26 (.fl 27 (.fl 28 (.fl 29 (.nil))))))))))))))))))))))))))))))
def wGB (s:Sch):Sch:=.fl 0 (.fl 1 (.fl 2 (s)))
def wOU (s:Sch):Sch:=.fl 0 (.fl 1 (.fl 2 (.fl 3 (s))))
def wLe (s:Sch):Sch:=.fl 0 (.fl 1 (.fl 2 (.fl 3 (.fl 4 (s)))))
def wNQ (s:Sch):Sch:=.fl 0 (.fl 1 (.fl 2 (.fl 3 (.fl 4 (.fl 5 (s))))))
def fC0_6 (s:Sch):Sch:=.fl 0 (.fl 1 (.fl 2 (.fl 3 (.fl 4 (.fl 5 (.fl 6 (s)))))))
def fC0_8 (s:Sch):Sch:=.fl 0 (.fl 1 (.fl 2 (.fl 3 (.fl 4 (.fl 5 (.fl 6 (.fl 7 (.fl 8 (s)))))))))
def wOV (s:Sch):Sch:=.fl 0 (.fl 1 (.fl 2 (.fl 3 (.fl 4 (.fl 5 (.fl 6 (.fl 7 (.fl 8 (.fl 9 (.fl 10 (.fl 11 (s))))))))))))
def wOW (s:Sch):Sch:=.fl 0 (.fl 1 (.fl 2 (.fl 3 (.fl 4 (.fl 5 (.fl 6 (.fl 7 (.fl 8 (.fl 9 (.fl 10 (.fl 11 (.fl 12 (.fl 13 (.fl 14 (s)))))))))))))))
def wME (s:Sch):Sch:=.fl 0 (.fl 1 (.fl 2 (.fl 3 (.fl 4 (.fl 5 (.fl 6 (.fl 7 (.fl 8 (.fl 9 (.fl 10 (.fl 11 (.fl 12 (.fl 13 (.fl 14 (.fl 15 (.fl 16 (.fl 17 (.fl 18 (.fl 19 (.fl 20 (.fl 21 (.fl 22 (.fl 23 (.fl 24 (.fl 25 (s))))))))))))))))))))))))))
def wOX (s:Sch):Sch:=.fl 2 (.fl 3 (.fl 4 (s)))
def wLf (s:Sch):Sch:=.fl 2 (.fl 3 (.fl 4 (.fl 5 (s))))
def fC3_5 (s:Sch):Sch:=.fl 3 (.fl 4 (.fl 5 (s)))
def wOY (s:Sch):Sch:=.fl 3 (.fl 4 (.fl 5 (.fl 6 (s))))
def fC3_7 (s:Sch):Sch:=.fl 3 (.fl 4 (.fl 5 (.fl 6 (.fl 7 (s)))))
def wNR (s:Sch):Sch:=.fl 4 (.fl 5 (.fl 6 (.fl 7 (.fl 8 (s)))))
def fC5_7 (s:Sch):Sch:=.fl 5 (.fl 6 (.fl 7 (s)))
def wOZ (s:Sch):Sch:=.fl 5 (.fl 6 (.fl 7 (.fl 8 (.fl 9 (.fl 10 (.fl 11 (.fl 12 (s))))))))
def wNS (s:Sch):Sch:=.fl 6 (.fl 7 (.fl 8 (s)))
def wOa (s:Sch):Sch:=.fl 6 (.fl 7 (.fl 8 (.fl 9 (.fl 10 (.fl 11 (.fl 12 (.fl 13 (.fl 14 (.fl 15 (.fl 16 (.fl 17 (.fl 18 (.fl 19 (s))))))))))))))
def wOb (s:Sch):Sch:=.fl 7 (.fl 8 (.fl 9 (.fl 10 (s))))
def wMF (s:Sch):Sch:=.fl 7 (.fl 8 (.fl 9 (.fl 10 (.fl 11 (s)))))
theorem zA:type_of% @wJA:=@wJA
theorem zB:type_of% @Tryz.runUnderlying23:=@Tryz.runUnderlying23
theorem zC:type_of% @OKS.callH:=@OKS.callH
theorem zD:type_of% @Enters.mk:=@Enters.mk
theorem zE:type_of% @Tryz.isAgg3:=@Tryz.isAgg3
theorem zF:type_of% @Tryz.sizeOf3:=@Tryz.sizeOf3
theorem zG:type_of% @wLg:=@wLg
theorem zH:type_of% @Tryz.sizeOf30:=@Tryz.sizeOf30
theorem zI:type_of% @CK.ret:=@CK.ret
theorem zJ:type_of% @Tryz.runUnderlying30:=@Tryz.runUnderlying30
theorem zK:type_of% @CK.seq:=@CK.seq
theorem zL:type_of% @wIz:=@wIz
theorem zM:type_of% @wFa:=@wFa
theorem zN:type_of% @wFe:=@wFe
theorem zO:type_of% @Hid.mk:=@Hid.mk
theorem zP:type_of% @res1:=@res1
theorem zQ:type_of% @Runs.pickT:=@Runs.pickT
theorem zR:type_of% @Tryz.zeroValue30:=@Tryz.zeroValue30
theorem zS:type_of% @Tryz.runUnderlying67:=@Tryz.runUnderlying67
theorem zU:type_of% @Runs.pickF:=@Runs.pickF
theorem zV:type_of% @Runs.fa:=@Runs.fa
theorem zW:type_of% @Tryz.runUnderlying143:=@Tryz.runUnderlying143
theorem zX:type_of% @nH:=@nH
theorem zY:type_of% @OKS.buildSlice:=@OKS.buildSlice
theorem zZ:type_of% @PHeap.Le.refl:=@PHeap.Le.refl
theorem zd:type_of% @OKS.rm:=@OKS.rm
theorem ze:type_of% @wEN:=@wEN
theorem zf:type_of% @wNZ:=@wNZ
theorem zg:type_of% @Runs.addw:=@Runs.addw
theorem zh:type_of% @CK.condT:=@CK.condT
theorem zi:type_of% @CK.block:=@CK.block
theorem zj:type_of% @Tryz.isAgg23:=@Tryz.isAgg23
theorem zk:type_of% @wIy:=@wIy
theorem zl:type_of% @Runs.lss:=@Runs.lss
theorem zm:type_of% @Tryz.underlying67:=@Tryz.underlying67
theorem zn:type_of% @Runs.len:=@Runs.len
theorem zo:type_of% @CK.condF:=@CK.condF
theorem zp:type_of% @wHo:=@wHo
theorem zq:type_of% @Tryz.zeroValue3:=@Tryz.zeroValue3
theorem zr:type_of% @wHn:=@wHn
theorem zt:type_of% @OKS.append:=@OKS.append
theorem zu:type_of% @OKS.e:=@OKS.e
theorem zw:type_of% @OKS.px:=@OKS.px
theorem zx:type_of% @Runs.ext:=@Runs.ext
theorem zy:type_of% @wFb:=@wFb
theorem zz:type_of% @Runs.neq:=@Runs.neq
theorem ZA:type_of% @Runs.eql:=@Runs.eql
theorem ZB:type_of% @Runs.iaI:=@Runs.iaI
theorem ZC:type_of% @Runs.nilp:=@Runs.nilp
theorem ZD:type_of% @OKS.r:=@OKS.r
theorem ZE:type_of% @Tryz.runUnderlying141:=@Tryz.runUnderlying141
theorem ZF:type_of% @CK.exit:=@CK.exit
theorem ZG:type_of% @Tryz.mixed:=@Tryz.mixed
theorem ZH:type_of% @Tryz.call65:=@Tryz.call65
theorem ZI:type_of% @Tryz.isAgg30:=@Tryz.isAgg30
theorem ZJ:type_of% @CK.anyOrd:=@CK.anyOrd
theorem ZK:type_of% @Runs.notT:=@Runs.notT
end Go.Proofs.YtapddcoodhijpaaGreat
namespace Go.Proofs.YtapddcoodhijpaaGreat
open Go.KL
set_option maxHeartbeats 4000000
theorem wEp (p0:List Int) (pA0:Option Addr) (pc0:Nat) (w:World) (U:PHeap) (hS:St0 w U []) (ha0:Sl U 1 pA0 pc0 p0.length (hH KL.encB8 p0)) {r:wAC} (hm:wBX p0=some r):Gv Tryz.prog 21 [.slice pA0 p0.length pc0] w (wCa w [] U (fun U_ L_ v=>∃ (b0:Nat) (A0p0:Option Addr) (c0p0:Nat),v=.pointer (some ⟨b0,0,none⟩)/\L_=[.blk b0 143 [.slice A0p0 r.bytes.length c0p0,jV r.next,.int .u32 r.state]]/\Sl U_ 1 A0p0 c0p0 r.bytes.length (hH KL.encB8 r.bytes))):=by
 unfold wBX at hm
 refine Gv.of Tryz.func21 Z Tryz.ntmps21 Tryz.results21 Z (sR fL1 Z (oA Z Z (eN (sR (.fl 0 (.fl 1 (.fx 2 (.fl 3 (.nil)) .stop))) Z (oM Z Z ?_)))))
 let B0:List Value:=[.slice pA0 p0.length pc0,jV 0,.int .u32 17]
 refine ZD rfl rfl rfl rfl (fun _=>Runs.build (pv:=[(0,.slice pA0 p0.length pc0),(2,.int .u32 17)]) (z:=[.slice none 0 0,jV 0,.int .u32 0]) (cs:=B0) rfl (wAV rfl (wAV rfl wAy)) Tryz.zeroValue143 wKe rfl rfl) (OKS.box (cs:=B0) rfl rfl rfl rfl rfl rfl (by rfl) hS ?_)
 intro W1 b2 hS3
 refine oA Z Z (eN (zI ?_))
 cases hm
 exact ⟨Z,_,(zP Z),U,_,hS3,b2,pA0,pc0,Z,Z,ha0⟩
theorem wAh (p0:wAC) (pb0:Nat) (pA0_0:Option Addr) (pc0_0:Nat) (p1:Int) (w:World) (U:PHeap) (hS:St0 w U [.blk pb0 143 [.slice pA0_0 p0.bytes.length pc0_0,jV p0.next,.int .u32 p0.state]]) (ha0:Sl U 1 pA0_0 pc0_0 p0.bytes.length (hH KL.encB8 p0.bytes)) {r:Int × wAC} (hm:wAM p0 p1=some r):Gv Tryz.prog 72 [.pointer (some ⟨pb0,0,none⟩),jV p1] w (wCa w [.blk pb0 143 [.slice pA0_0 p0.bytes.length pc0_0,jV p0.next,.int .u32 p0.state]] U (fun U_ L_ v=>∃ (Ao00:Option Addr) (co00:Nat),v=jV r.1/\L_=[.blk pb0 143 [.slice Ao00 r.2.bytes.length co00,jV r.2.next,.int .u32 r.2.state]]/\Sl U_ 1 Ao00 co00 r.2.bytes.length (hH KL.encB8 r.2.bytes))):=by
 unfold wAM at hm
 refine Gv.of Tryz.func72 Z Tryz.ntmps72 Tryz.results72 Z (sR fL1 Z (oA Z Z (eN (zK (sR fL10 Z (oM Z Z (oR Z (Runs.leq Z Z Z) (oM Z Z ?_))))))))
 by_cases c2:p1 <= 1
 ·have hm3:=hm;rw [if_pos c2] at hm3;replace c2:=zO c2
  refine oT Z c2 (oT Z c2 (oT Z c2 (oT Z c2 (oT Z c2 (oT Z c2 (oR Z (zQ Z (wEx c2.out) Z) (eN (zh Z (sR fL1 Z (oA Z Z (eN (zI (zL ?_)))))))))))))
  cases hm3
  exact ⟨Z,_,(zP Z),U,_,hS,pA0_0,pc0_0,Z,Z,ha0⟩
 ·have hm4:=hm;rw [if_neg c2] at hm4;replace c2:=zO c2
  refine zd Z Z Z (wF Z c2) Z Z (rU Z (wF Z c2) (ZC Z Z) (rU Z (wF Z c2) (zV Z Z zW Z Tryz.sizeOf55) (OKS.m Z Z Z (wF Z c2) (hS.ldB (j:=0) Z Z Z Tryz.isAgg55 (v:=.slice pA0_0 p0.bytes.length pc0_0) Z) Z (rU Z (wF Z c2) (zn Z Z Tryz.runUnderlying55) (rU Z (wF Z c2) (ZA Z Z Z) (oR Z (zU Z (zf c2.out) Z) (eN (ifc hm4 ?_ ?_))))))))
  ·intro c5 hm6
   refine cT Z c5 (sR fL1 Z (oA Z Z (eN (zI (zL ?_)))))
   cases hm6
   exact ⟨Z,_,(zP Z),U,_,hS,pA0_0,pc0_0,Z,Z,ha0⟩
  ·intro c5 hm7
   refine cF Z c5 (kN (zK (ZJ ZG [3,3,3,1,3,3,3,1,3,3,3,1,3,3,3,1,3,3,3,3,1,3,3,3,1,3,3,3,3,3] fL30 (by kernel_rfl) ?_)))
   have hS8:=hS.drew
   generalize hw_W9:({ w with drawn:=w.drawn + 1 }:World)=W9 at hS8 ⊢
   refine oM Z Z (oR Z (ZC Z Z) (oR Z (zV Z Z zW Z Tryz.sizeOf55) (oL Z (hS8.ldB (j:=0) Z Z Z Tryz.isAgg55 (v:=.slice pA0_0 p0.bytes.length pc0_0) Z) (oM Z Z (oR Z (ZC Z Z) (oR Z (zV Z Z zW Z zF) (oL Z (hS8.ldB (j:=0) Z Z Z zE (v:=jV p0.next) Z) (oM Z Z (oR Z (ZC Z Z) (oR Z (zV Z Z zW Z Tryz.sizeOf55) (oL Z (hS8.ldB (j:=0) Z Z Z Tryz.isAgg55 (v:=.slice pA0_0 p0.bytes.length pc0_0) Z) (oR Z (zn Z Z Tryz.runUnderlying55) (bnK hm7 fun x10 h11 hm12=>oR Z (Runs.rem Z Z Z h11) (bnK hm12 fun x13 h14 hm15=>?_))))))))))))))
   have q:=ha0.el (fun _=>rfl) (wAv h14)
   obtain ⟨b16,off17,hA18,hC19⟩:=q
   refine oR Z (ZB Z Z hA18 Z Tryz.runUnderlying55 Tryz.sizeOf5 (wBq h14) (wBx h14)) (oL Z (hS8.ldC (f:=0) hC19 (v:=.int .u8 x13) Z Z Tryz.isAgg5 Z) (oR Z (Runs.cvu Z Z Tryz.runUnderlying5 ZE Z Z) (oM Z Z (oR Z (ZC Z Z) (oR Z (zV Z Z zW Z zF) (oL Z (hS8.ldB (j:=0) Z Z Z zE (v:=jV p0.next) Z) (oM Z Z (oR Z (ZC Z Z) (oR Z (zV Z Z zW Z Tryz.sizeOf55) (oL Z (hS8.ldB (j:=0) Z Z Z Tryz.isAgg55 (v:=.slice pA0_0 p0.bytes.length pc0_0) Z) (oR Z (zn Z Z Tryz.runUnderlying55) (bnK hm15 fun x20 h21 hm22=>oR Z (Runs.quo Z Z Z h21) (oR Z (Runs.cvu Z Z Tryz.runUnderlying3 ZE Z Z) (oA Z Z (oA Z Z (eN (zK (CK.fresh fun σ23 hσ24=>?_))))))))))))))))))
   have f25:σ23 0=.pointer (some ⟨pb0,0,none⟩):=(hσ24 0).trans rfl
   have f26:σ23 1=jV p1:=(hσ24 1).trans rfl
   have f27:σ23 5=.int .u32 (wCZ x13):=(hσ24 5).trans rfl
   have f28:σ23 6=.int .u32 (wCZ x20):=(hσ24 6).trans rfl
   clear hσ24
   refine rR (fC0_6 (.fx 7 (.nil) .stop)) Z (oM Z f25 (oR Z (ZC Z Z) (oR Z (zV Z Z zW Z zF) (oL Z (hS8.ldB (j:=0) Z Z Z zE (v:=jV p0.next) Z) (oR Z (zg Z Z Z) (oR Z (ZC Z Z) (oR Z (zV Z Z zW Z zF) (OKS.st (j:=0) (vs:=[jV (w64 (p0.next + 1))]) Z Z Z Z hS8 Z Z Z Z zF (zX Z) Z Z Z ?_))))))))
   intro W29 hS30
   let B0:Res:=.blk pb0 143 [.slice pA0_0 p0.bytes.length pc0_0,jV p0.next,.int .u32 p0.state]
   have hS31:SW w [B0] U U [.blk pb0 143 [.slice pA0_0 p0.bytes.length pc0_0,jV (w64 (p0.next + 1)),.int .u32 p0.state]] W29:=hS30
   refine eN (sR (wOW (.fx 15 (.nil) .stop)) Z (oM Z f25 (oM Z f25 (oR Z (ZC Z Z) (oR Z (zV Z Z zW Z Tryz.sizeOf141) (oL Z (hS31.ldB (j:=0) Z Z Z Tryz.isAgg141 (v:=.int .u32 p0.state) Z) (oR Z (Runs.mulu Z Z Z) (oM Z f27 (oR Z (Runs.addu Z Z Z) (oM Z f28 (oR Z (Runs.mulu Z Z Z) (oR Z (Runs.addu Z Z Z) (oR Z (Runs.addu Z Z Z) (bnK hm22 fun x32 h33 hm34=>oR Z (Runs.rem Z Z Z h33) (oR Z (ZC Z Z) (oR Z (zV Z Z zW Z Tryz.sizeOf141) (OKS.st (j:=0) (vs:=[.int .u32 x32]) Z Z Z Z hS31 Z Z Z Z Tryz.sizeOf141 (zX Z) Z Z Z ?_)))))))))))))))))
   intro W35 hS36
   have hS37:SW w [B0] U U [.blk pb0 143 [.slice pA0_0 p0.bytes.length pc0_0,jV (w64 (p0.next + 1)),.int .u32 x32]] W35:=hS36
   refine eN (zK (sR fL6 Z (oM Z f28 (oR Z (ZA Z Z Z) (oM Z Z (ifc hm34 ?_ ?_))))))
   ·intro c38 hm39
    refine zd Z Z Z (wT Z c38) Z f26 (rU Z (wT Z c38) (Runs.leq Z Z Z) (oR Z (zQ Z (wEx c38.out) Z) (eN (ifc hm39 ?_ ?_))))
    ·intro c40 hm41
     refine cT Z c40 (sR fL5 Z (oM Z f27 (oR Z (Runs.cvw Z Z ZE Tryz.runUnderlying3 Z Z) (oM Z f26 (bnK hm41 fun x42 h43 hm44=>oR Z (Runs.rem Z Z Z h43) (oA Z Z (eN (zI (zL ?_)))))))))
     cases hm44
     exact ⟨Z,_,(zP Z),U,_,hS37,pA0_0,pc0_0,Z,Z,ha0⟩
    ·intro c40 hm45
     refine cF Z c40 (kN (sR fL11 Z (oM Z f25 (oR Z (ZC Z Z) (oR Z (zV Z Z zW Z Tryz.sizeOf141) (oL Z (hS37.ldB (j:=0) Z Z Z Tryz.isAgg141 (v:=.int .u32 x32) Z) (oR Z (Runs.mulu Z Z Z) (oM Z f27 (oR Z (Runs.addu Z Z Z) (oR Z (Runs.cvw Z Z ZE Tryz.runUnderlying3 Z Z) (oM Z f26 (bnK hm45 fun x46 h47 hm48=>oR Z (Runs.rem Z Z Z h47) (oA Z Z (eN (zI ?_)))))))))))))))
     cases hm48
     exact ⟨Z,_,(zP Z),U,_,hS37,pA0_0,pc0_0,Z,Z,ha0⟩
   ·intro c38 hm49
    refine oF Z c38 (oF Z c38 (oR Z (zU Z (zf c38.out) Z) (eN (zo Z (kN (sR fL11 Z (oM Z f25 (oR Z (ZC Z Z) (oR Z (zV Z Z zW Z Tryz.sizeOf141) (oL Z (hS37.ldB (j:=0) Z Z Z Tryz.isAgg141 (v:=.int .u32 x32) Z) (oR Z (Runs.mulu Z Z Z) (oM Z f27 (oR Z (Runs.addu Z Z Z) (oR Z (Runs.cvw Z Z ZE Tryz.runUnderlying3 Z Z) (oM Z f26 (bnK hm49 fun x50 h51 hm52=>oR Z (Runs.rem Z Z Z h51) (oA Z Z (eN (zI ?_)))))))))))))))))))
    cases hm52
    exact ⟨Z,_,(zP Z),U,_,hS37,pA0_0,pc0_0,Z,Z,ha0⟩
theorem wCG (p0:wAC) (pb0:Nat) (pA0_0:Option Addr) (pc0_0:Nat) (p1:Int) (p2:Int) (w:World) (U:PHeap) (hS:St0 w U [.blk pb0 143 [.slice pA0_0 p0.bytes.length pc0_0,jV p0.next,.int .u32 p0.state]]) (ha0:Sl U 1 pA0_0 pc0_0 p0.bytes.length (hH KL.encB8 p0.bytes)) {r:Int × wAC} (hm:wAY p0 p1 p2=some r):Gv Tryz.prog 73 [.pointer (some ⟨pb0,0,none⟩),jV p1,jV p2] w (wCa w [.blk pb0 143 [.slice pA0_0 p0.bytes.length pc0_0,jV p0.next,.int .u32 p0.state]] U (fun U_ L_ v=>∃ (Ao00:Option Addr) (co00:Nat),v=jV r.1/\L_=[.blk pb0 143 [.slice Ao00 r.2.bytes.length co00,jV r.2.next,.int .u32 r.2.state]]/\Sl U_ 1 Ao00 co00 r.2.bytes.length (hH KL.encB8 r.2.bytes))):=by
 unfold wAY at hm
 refine Gv.of Tryz.func73 Z Tryz.ntmps73 Tryz.results73 Z (sR fL1 Z (oA Z Z (eN (sR (wNQ (.fx 6 (.fl 7 (.fl 8 (.nil))) .stop)) Z (oM Z Z (oM Z Z (oM Z Z (oM Z Z (oR Z (Runs.subw Z Z Z) (oR Z (zg Z Z Z) ?_))))))))))
 have q:=bnd hm
 obtain ⟨⟨x2,x3⟩,h4,hm5⟩:=q
 try dsimp only at hm5
 refine zC 1 Z Z Z Z (zD Z Z Tryz.call72 (zA Z (zA Z zG)) Z) hS (fun hs=>wAh p0 pb0 pA0_0 pc0_0 (w64 ((w64 (p2 - p1)) + 1)) w U hs ha0 h4) (.inl Z) ?_
 rintro U6 L7 v8 W9 le10 hS11 ⟨A12,c13,rfl,rfl,h14⟩
 have hS15:SW w [.blk pb0 143 [.slice pA0_0 p0.bytes.length pc0_0,jV p0.next,.int .u32 p0.state]] U U6 [.blk pb0 143 [.slice A12 x3.bytes.length c13,jV x3.next,.int .u32 x3.state]] W9:=hS11
 refine oR Z (zg Z Z Z) (oA Z Z (eN (zI ?_)))
 cases hm5
 exact ⟨Z,_,(zP Z),U6,_,hS15,A12,c13,Z,Z,h14⟩
theorem wCY (p0:wAC) (pb0:Nat) (pA0_0:Option Addr) (pc0_0:Nat) (p1:Int) (w:World) (U:PHeap) (hS:St0 w U [.blk pb0 143 [.slice pA0_0 p0.bytes.length pc0_0,jV p0.next,.int .u32 p0.state]]) (ha0:Sl U 1 pA0_0 pc0_0 p0.bytes.length (hH KL.encB8 p0.bytes)) {r:Bool × wAC} (hm:wAg p0 p1=some r):Gv Tryz.prog 74 [.pointer (some ⟨pb0,0,none⟩),jV p1] w (wCa w [.blk pb0 143 [.slice pA0_0 p0.bytes.length pc0_0,jV p0.next,.int .u32 p0.state]] U (fun U_ L_ v=>∃ (Ao00:Option Addr) (co00:Nat),v=.bool r.1/\L_=[.blk pb0 143 [.slice Ao00 r.2.bytes.length co00,jV r.2.next,.int .u32 r.2.state]]/\Sl U_ 1 Ao00 co00 r.2.bytes.length (hH KL.encB8 r.2.bytes))):=by
 unfold wAg at hm
 refine Gv.of Tryz.func74 Z Tryz.ntmps74 Tryz.results74 Z (sR fL1 Z (oA Z Z (eN (sR (.fl 0 (.fl 1 (.fx 2 (.fl 3 (.fl 4 (.nil))) .stop))) Z (oM Z Z (oM Z Z ?_))))))
 have q:=bnd hm
 obtain ⟨⟨x2,x3⟩,h4,hm5⟩:=q
 try dsimp only at hm5
 refine zC 1 Z Z Z Z (zD Z Z Tryz.call72 (zA Z (zA Z zG)) Z) hS (fun hs=>wAh p0 pb0 pA0_0 pc0_0 p1 w U hs ha0 h4) (.inl Z) ?_
 rintro U6 L7 v8 W9 le10 hS11 ⟨A12,c13,rfl,rfl,h14⟩
 have hS15:SW w [.blk pb0 143 [.slice pA0_0 p0.bytes.length pc0_0,jV p0.next,.int .u32 p0.state]] U U6 [.blk pb0 143 [.slice A12 x3.bytes.length c13,jV x3.next,.int .u32 x3.state]] W9:=hS11
 refine oR Z (ZA Z Z Z) (oA Z Z (eN (zI ?_)))
 cases hm5
 exact ⟨Z,_,(zP Z),U6,_,hS15,A12,c13,Z,Z,h14⟩
theorem wCk (p0:wAC) (pb0:Nat) (pA0_0:Option Addr) (pc0_0:Nat) (p1:Int) (w:World) (U:PHeap) (hS:St0 w U [.blk pb0 143 [.slice pA0_0 p0.bytes.length pc0_0,jV p0.next,.int .u32 p0.state]]) (ha0:Sl U 1 pA0_0 pc0_0 p0.bytes.length (hH KL.encB8 p0.bytes)) {r:(List wAA) × wAC} (hm:wAq p0 p1=some r):Gv Tryz.prog 20 [.pointer (some ⟨pb0,0,none⟩),jV p1] w (wCa w [.blk pb0 143 [.slice pA0_0 p0.bytes.length pc0_0,jV p0.next,.int .u32 p0.state]] U (fun U_ L_ v=>∃ (A0:Option Addr) (c0:Nat) (Ao00:Option Addr) (co00:Nat),v=.slice A0 r.1.length c0/\L_=[.row A0 c0 30 3 (hH wAB r.1),.blk pb0 143 [.slice Ao00 r.2.bytes.length co00,jV r.2.next,.int .u32 r.2.state]]/\Sl U_ 1 Ao00 co00 r.2.bytes.length (hH KL.encB8 r.2.bytes))):=by
 unfold wAq at hm
 refine Gv.of Tryz.func20 Z Tryz.ntmps20 Tryz.results20 Z (sR fL1 Z (oA Z Z (eN (sR fL1 Z (oA Z Z (eN (sR (.fl 0 (.fx 1 (.fl 2 (.nil)) .stop)) Z (oM Z Z ?_))))))))
 have q:=bnd hm
 obtain ⟨⟨x2,x3⟩,h4,hm5⟩:=q
 try dsimp only at hm5
 refine zC 1 Z Z Z Z (zD Z Z Tryz.call72 (zA Z (zA Z zG)) Z) hS (fun hs=>wAh p0 pb0 pA0_0 pc0_0 100 w U hs ha0 h4) (.inl Z) ?_
 rintro U6 L7 v8 W9 le10 hS11 ⟨A12,c13,rfl,rfl,h14⟩
 let B0:Res:=.blk pb0 143 [.slice pA0_0 p0.bytes.length pc0_0,jV p0.next,.int .u32 p0.state]
 have hS15:SW w [B0] U U6 [.blk pb0 143 [.slice A12 x3.bytes.length c13,jV x3.next,.int .u32 x3.state]] W9:=hS11
 refine oA Z Z (eN (zK (sR (wGB (.fx 3 (.fl 4 (.nil)) .stop)) Z (oM Z Z (oM Z Z (oR Z (zg Z Z Z) ?_))))))
 have q:=bnd hm5
 obtain ⟨⟨x16,x17⟩,h18,hm19⟩:=q
 try dsimp only at hm19
 refine zC 1 Z Z Z Z (zD Z Z Tryz.call72 (zA Z (zA Z zG)) Z) hS15 (fun hs=>wAh x3 pb0 A12 c13 (w64 (p1 + 1)) W9 U6 hs h14 h18) (.inl Z) ?_
 rintro U20 L21 v22 W23 le24 hS25 ⟨A26,c27,rfl,rfl,h28⟩
 have hS29:SW w [B0] U U20 [.blk pb0 143 [.slice A26 x17.bytes.length c27,jV x17.next,.int .u32 x17.state]] W23:=hS25
 refine oM Z Z (eN (zi ?_))
 have q:=bnd hm19
 obtain ⟨⟨y76,y77,y78,y79,y80⟩,hf73,hm72⟩:=q
 try dsimp only at hm72
 have q:=wHs hf73
 obtain ⟨hle74,hf75⟩:=q
 replace hle74:=zO hle74
 refine CK.forN' (fun k71 (l61,x64,x65,l66,x70) σ_ w_=>∃ (U_:PHeap) (A62:Option Addr) (c63:Nat) (A67:Option Addr) (c68:Nat),σ_ 14=jV (↑k71:Int)/\σ_ 0=.pointer (some ⟨pb0,0,none⟩)/\σ_ 5=.slice A67 l66.length c68/\σ_ 6=jV x70/\σ_ 13=jV x16/\PHeap.Le U20 U_/\SW w [B0] U U_ [.blk pb0 143 [.slice A62 l61.length c63,jV x64,.int .u32 x65],.row A67 c68 30 3 (hH wAB l66)] w_/\Sl U_ 1 A62 c63 l61.length (hH KL.encB8 l61)) hf75 ?_ ?_ ?_
 ·have hS81:=hS29.nilrow 30 3
  exact ⟨U20,A26,c27,none,0,rfl,rfl,rfl,rfl,rfl,(zZ _),(hS81.pick [1,0] _ (by decide) rfl),h28⟩
 ·rintro k71 ⟨l61,x64,x65,l66,x70⟩ xx85 σ83 W84 hk88 ⟨U90,A62,c63,A67,c68,fi89,f93,f94,f95,f96,le91,hS92,h97⟩ hx86
  try dsimp only at hx86
  have c98:Hid ((↑k71:Int) < x16):=zO (wDo hk88)
  replace hk88:=zO hk88
  have hi99:Hid (w64 ((↑k71:Int) + 1)=(↑(k71 + 1):Int)):=zO (by have h1:=hle74.out;have h2:=c98.out;rw [wBE] <;> omega)
  refine sR fL1 Z (oR Z (zl Z fi89 f96) (eN (zK (cT Z c98 (kN (zK (zi (sR fL2 Z (oM Z fi89 (oA Z Z (eN (sR (wOU (.fx 4 (fC5_7 (.fx 8 (.fl 9 (.fx 10 (.fx 11 (.fl 12 (.nil)) .stop) .stop)) .stop)) .stop)) Z (oM Z f94 (oM Z Z (oR Z (Runs.mulw Z Z Z) (oM Z f93 ?_))))))))))))))))
  have q:=bnd hx86
  obtain ⟨⟨x100,x101⟩,h102,hm103⟩:=q
  try dsimp only at hm103
  refine zC 1 Z Z Z Z (zD Z Z Tryz.call73 (zA Z (zA Z (zA Z zG))) Z) hS92 (fun hs=>wCG (⟨l61,x64,x65⟩:wAC) pb0 A62 c63 1 5 W84 U90 hs h97 h102) (.inl Z) ?_
  rintro U104 L105 v106 W107 le108 hS109 ⟨A110,c111,rfl,rfl,h112⟩
  let B1:Res:=.row A67 c68 30 3 (hH wAB l66)
  have hS113:SW w [B0] U U104 [.blk pb0 143 [.slice A110 x101.bytes.length c111,jV x101.next,.int .u32 x101.state],B1] W107:=hS109
  refine oR Z (zg Z Z Z) (oM Z f95 (oM Z f93 ?_))
  have q:=bnd hm103
  obtain ⟨⟨x114,x115⟩,h116,hm117⟩:=q
  try dsimp only at hm117
  refine zC 1 Z Z Z Z (zD Z Z Tryz.call72 (zA Z (zA Z zG)) Z) hS113 (fun hs=>wAh x101 pb0 A110 c111 5 W107 U104 hs h112 h116) (.inl Z) ?_
  rintro U118 L119 v120 W121 le122 hS123 ⟨A124,c125,rfl,rfl,h126⟩
  let B2:Res:=.blk pb0 143 [.slice A124 x115.bytes.length c125,jV x115.next,.int .u32 x115.state]
  have hS127:SW w [B0] U U118 [B2,B1] W121:=hS123
  let B3:List Value:=[jV (w64 ((w64 (5 * (↑k71:Int))) + x100)),jV x70,jV x114]
  let B4:List Value:=[jV 0,jV 0,jV 0]
  refine oR Z (Runs.build (pv:=[(0,jV (w64 ((w64 (5 * (↑k71:Int))) + x100))),(1,jV x70),(2,jV x114)]) (z:=B4) (cs:=B3) Z (wAV Z (wAV Z (wAV Z wAy))) zR wDb Z Z) (zY (pv:=[(0,.agg B3.toArray)]) (zs:=B4) (cs:=B3) Z Z Z Z Z (wAV Z wAy) zB zH zR Z Z Z Z Z hS127 ?_)
  intro W128 b129 hS130
  let B5:Res:=.row (some ⟨b129,0,none⟩) 1 30 3 (hH wAB [(⟨w64 ((w64 (5 * (↑k71:Int))) + x100),x70,x114⟩:wAA)])
  have hS132:SW w [B0] U U118 [B5,B2,B1] W128:=hS130
  refine bnK hm117 fun x133 h134 hm135=>zt (j:=2) (enc:=wAB) (xs:=l66) (ys:=[(⟨w64 ((w64 (5 * (↑k71:Int))) + x100),x70,x114⟩:wAA)]) (zs:=x133) rfl rfl rfl rfl rfl Tryz.underlying23 wKf rfl rfl rfl rfl rfl rfl hS132 rfl rfl rfl (hS132.srcR (j:=0) rfl (by decide) (wAJ (f:=wAB) (sz:=3) (fun _=>rfl) [(⟨w64 ((w64 (5 * (↑k71:Int))) + x100),x70,x114⟩:wAA)])) (fun _=>rfl) (fun _=>rfl) h134 rfl ?_
  intro A136 c137 W138 hS139
  let B6:Res:=.row A136 c137 30 3 (hH wAB x133)
  have hS140:SW w [B0] U U118 [B5,B2,B6] W138:=hS139
  refine oA Z Z (eN (sR (.fl 0 (.fx 1 (.fl 2 (.nil)) .stop)) Z (oM Z f93 ?_)))
  have q:=bnd hm135
  obtain ⟨⟨x141,x142⟩,h143,hm144⟩:=q
  try dsimp only at hm144
  have hS145:SW w [B0] U U118 [B2,B5,B6] W138:=hS140.pick [1,0,2] _ (by decide) rfl
  refine zC 1 Z Z Z Z (zD Z Z Tryz.call74 (zA Z (zA Z zG)) Z) hS145 (fun hs=>wCY x115 pb0 A124 c125 4 W138 U118 hs h126 h143) (.inl Z) ?_
  rintro U146 L147 v148 W149 le150 hS151 ⟨A152,c153,rfl,rfl,h154⟩
  have hS155:SW w [B0] U U146 [.blk pb0 143 [.slice A152 x142.bytes.length c153,jV x142.next,.int .u32 x142.state],B5,B6] W149:=hS151
  refine oR Z (ZK Z Z) (eN (ifc hm144 ?_ ?_))
  ·intro c156 hm157
   refine zo (nC c156.out) (CK.skip (zr (zM (rR fL2 Z (oR Z (Runs.to (zg Z fi89 Z) (congrArg (jV) hi99.out)) (oM Z Z (zu ?_)))))))
   cases hm157
   exact zM ⟨rfl,⟨U146,A152,c153,A136,c137,rfl,f93,rfl,f95,f96,(((le91.trans le108).trans le122).trans le150),(hS155.pick [0,2] _ (by decide) rfl),h154⟩⟩
  ·intro c156 hm167
   refine zh (nF (c156.out)) (rR (.fl 0 (.fl 1 (.fx 2 (.fl 3 (.fl 4 (.nil))) .stop))) Z (oM Z f95 (oM Z f93 ?_)))
   have q:=bnd hm167
   obtain ⟨⟨x168,x169⟩,h170,hm171⟩:=q
   try dsimp only at hm171
   refine zC 1 Z Z Z Z (zD Z Z Tryz.call72 (zA Z (zA Z zG)) Z) hS155 (fun hs=>wAh x142 pb0 A152 c153 40 W149 U146 hs h154 h170) (.inl Z) ?_
   rintro U172 L173 v174 W175 le176 hS177 ⟨A178,c179,rfl,rfl,h180⟩
   have hS181:SW w [B0] U U172 [.blk pb0 143 [.slice A178 x169.bytes.length c179,jV x169.next,.int .u32 x169.state],B5,B6] W175:=hS177
   refine oR Z (zg Z Z Z) (oA Z Z (zu (zr (zM (rR fL2 Z (oR Z (Runs.to (zg Z fi89 Z) (congrArg (jV) hi99.out)) (oM Z Z (zu ?_))))))))
   cases hm171
   exact zM ⟨rfl,⟨U172,A178,c179,A136,c137,rfl,f93,rfl,rfl,f96,((((le91.trans le108).trans le122).trans le150).trans le176),(hS181.pick [0,2] _ (by decide) rfl),h180⟩⟩
 ·rintro σ191 W192 ⟨U208,A204,c205,A206,c207,fi194,f211,f212,f213,f214,le209,hS210,h215⟩
  have c216:Hid (¬ ((↑((x16:Int) - 0).toNat:Int) < x16)):=zO (wCd)
  refine sR fL1 Z (oR Z (zl Z fi194 f214) (eN (zK (cF Z c216 (ZF (zk (zk (zy (zM (sR fL2 Z (oM Z f212 (oA Z Z (eN (zI ?_))))))))))))))
  cases hm72
  exact ⟨rfl,_,(zP rfl),U208,_,(hS210.pick [1,0] _ (by decide) rfl),A206,c207,A204,c205,rfl,rfl,h215⟩
theorem wBR (p0:Int) (p1:Int) (w:World) (U:PHeap) (hS:St0 w U [])  {r:Int} (hm:wAc p0 p1=some r):Gv Tryz.prog 22 [jV p0,jV p1] w (wCa w [] U (fun U_ L_ v=>v=jV r/\L_=[])):=by
 unfold wAc at hm
 refine Gv.of Tryz.func22 Z Tryz.ntmps22 Tryz.results22 Z (sR fL1 Z (oA Z Z (eN (zK (sR fL2 Z (oM Z Z (oR Z (Runs.leq Z Z Z) (eN ?_))))))))
 by_cases c1:p1 <= 0
 ·have hm2:=hm;rw [if_pos c1] at hm2;replace c1:=zO c1
  refine cT Z c1 (sR fL1 Z (oA Z Z (eN (zI (zL ?_)))))
  cases hm2
  exact ⟨Z,_,(zP Z),U,_,hS,Z,Z⟩
 ·have hm3:=hm;rw [if_neg c1] at hm3;replace c1:=zO c1
  refine cF Z c1 (kN (sR fL8 Z (oM Z Z (oM Z Z (bnK hm3 fun x4 h5 hm6=>oR Z (Runs.rem Z Z Z h5) (oM Z Z (oR Z (zg Z Z Z) (oM Z Z (bnK hm6 fun x7 h8 hm9=>oR Z (Runs.rem Z Z Z h8) (oA Z Z (eN (zI ?_))))))))))))
  have hE:=nA hm9;first | subst r | cases hE
  exact ⟨Z,_,(zP Z),U,_,hS,Z,Z⟩
theorem wCS (p0:List wAA) (pA0:Option Addr) (pc0:Nat) (p1:(wAA->Option Bool)) (pv1:Value) (w:World) (U:PHeap) (hS:St0 w U []) (ha0:Sl U 3 pA0 pc0 p0.length (hH wAB p0)) (ha1:FnOK Tryz.prog U pv1 wLA wLB p1) {r:Bool} (hm:wAn p0 p1=some r):Gv Tryz.prog 75 [.slice pA0 p0.length pc0,pv1] w (wCa w [] U (fun U_ L_ v=>v=.bool r/\L_=[])):=by
 unfold wAn at hm
 refine Gv.of Tryz.func75 Z Tryz.ntmps75 Tryz.results75 Z (sR fL1 Z (oA Z Z (eN (zK (sR fL3 Z (oM Z Z (oR Z (zn Z Z zB) (oM Z Z (eN (zi ?_))))))))))
 have q:=wDg hm
 obtain ⟨r3,hX4⟩:=q
 have q:=wDf hX4
 obtain ⟨hle5,hf6⟩:=q
 replace hle5:=zO hle5
 refine CK.forN (fun k2 _ σ_ w_=>∃ (U_:PHeap),σ_ 9=jV (↑k2:Int)/\σ_ 1=pv1/\σ_ 7=.slice pA0 p0.length pc0/\σ_ 8=jV (↑p0.length:Int)/\PHeap.Le U U_/\sW w U U_ [] w_) hf6 ?_ ?_ ?_
 ·exact ⟨U,Z,Z,Z,Z,(zZ _),hS⟩
 ·rintro k2 ⟨⟩ xx9 σ7 W8 hk12 ⟨U14,fi13,f17,f18,f19,le15,hS16⟩ hx10 hb11
  try dsimp only at hx10
  have c20:Hid ((↑k2:Int) < (↑p0.length:Int)):=zO (wDo hk12)
  replace hk12:=zO hk12
  have hi21:Hid (w64 ((↑k2:Int) + 1)=(↑(k2 + 1):Int)):=zO (by have h1:=hle5.out;have h2:=c20.out;rw [wBE] <;> omega)
  refine sR fL1 Z (oR Z (zl Z fi13 f19) (eN (zK (cT Z c20 (kN (zK (zi (sR (.fl 0 (.fl 1 (.fx 2 (.fx 3 (.nil) .stop) .stop))) Z (bnK hx10 fun x22 h23 hm24=>?_)))))))))
  have h25:=ha0.le le15
  have q:=h25.el (fun _=>rfl) (wAv h23)
  obtain ⟨b26,off27,hA28,hC29⟩:=q
  refine oR Z (Runs.iaN Z f18 hA28 fi13 zB zH (wCc h23)) (oL Z (hS16.ldCA (f:=0) hC29 Z Z ZI zH (us:=[jV x22.Bib,jV x22.Time,jV x22.Gate]) Z Z) (OKS.alloc (cs:=[jV 0,jV 0,jV 0]) Z Z Z Z Z zR Z hS16 ?_))
  intro W30 b31 hS32
  let B0:List Value:=[jV x22.Bib,jV x22.Time,jV x22.Gate]
  refine OKS.st (j:=0) (vs:=B0) Z Z Z Z hS32 Z Z Z Z zH (zX Z) Z Z Z ?_
  intro W34 hS35
  have hS36:sW w U U14 [.blk b31 30 B0] W34:=hS35
  refine eN (sR (.fl 0 (.fl 1 (.fx 2 (.fl 3 (.nil)) .stop))) Z (oM Z f17 (oL Z (hS36.ldBA (j:=0) Z Z Z ZI zH (vs:=B0) Z Z) (bnK hm24 fun x37 h38 hm39=>?_))))
  have h46:=ha1.le le15
  refine OKS.callV (a:=x22) Z Z Z Z Z Z (zA Z zG) hS36 h46 Z h38 ?_
  rintro U40 L41 v42 W43 le44 hS45 ⟨rfl,rfl⟩
  have hS47:sW w U U40 [.blk b31 30 B0] W43:=hS45
  refine oR Z (ZK Z Z) (eN (ifc hm39 ?_ ?_))
  ·intro c48 hm49
   refine zo (nC c48.out) (CK.skip (zr (zM (rR fL2 Z (oR Z (Runs.to (zg Z fi13 Z) (congrArg (jV) hi21.out)) (oM Z Z (zu ?_)))))))
   obtain rfl:=nA hm49
   exact zM ⟨rfl,_,rfl,⟨U40,rfl,f17,f18,f19,(le15.trans le44),(hS47.pick [] _ (by decide) rfl)⟩⟩
  ·intro c48 hm50
   refine zh (nF (c48.out)) (sR fL1 Z (oA Z Z (eN (zI (zp (zL ?_))))))
   have q:=wBN hm50
   obtain ⟨v51,hm52,e53⟩:=q
   obtain rfl:=wFJ hm hX4 (hb11 v51 e53)
   refine zL (zp (zL ?_))
   have hE:=nA hm52;first | subst r | cases hE
   exact ⟨rfl,_,(zP rfl),U40,_,(hS47.pick [] _ (by decide) rfl),rfl,rfl⟩
 ·rintro ⟨⟩ σ54 W55 ⟨U58,fi57,f61,f62,f63,le59,hS60⟩ hb56
  have hm64:=wFI hm hX4 hb56
  try dsimp only at hm64
  have c65:Hid (¬ ((↑(((↑p0.length:Int):Int) - 0).toNat:Int) < (↑p0.length:Int))):=zO (wCd)
  refine sR fL1 Z (oR Z (zl Z fi57 f63) (eN (zK (cF Z c65 (ZF (zk (zk (zy (zM (sR fL1 Z (oA Z Z (eN (zI ?_)))))))))))))
  have hE:=nA hm64;first | subst r | cases hE
  exact ⟨Z,_,(zP Z),U58,_,hS60,Z,Z⟩
theorem wCK (p0:Int) (p1:Int) (p2:Int) (w:World) (U:PHeap) (hS:St0 w U [])  {r:Bool} (hm:wBQ p0 p1 p2=some r):Gv Tryz.prog 60 [jV p0,jV p1,jV p2] w (wCa w [] U (fun U_ L_ v=>v=.bool r/\L_=[])):=by
 unfold wBQ at hm
 refine Gv.of Tryz.func60 Z Tryz.ntmps60 Tryz.results60 Z (sR fL1 Z (oA Z Z (eN (sR fL9 Z (oM Z Z (oM Z Z (oR Z (Runs.geq Z Z Z) (oM Z Z ?_))))))))
 by_cases c1:p1 <= p0
 ·have hm2:=hm;rw [if_pos c1] at hm2;replace c1:=zO c1
  refine zd Z Z Z (wT Z c1) Z Z (zd Z Z Z (wT Z c1) Z Z (rU Z (wT Z c1) (Runs.leq Z Z Z) (oR Z (zQ Z (wEx c1.out) Z) (oA Z Z (eN (zI ?_))))))
  cases hm2
  exact ⟨Z,_,(zP Z),U,_,hS,Z,Z⟩
 ·have hm3:=hm;rw [if_neg c1] at hm3;replace c1:=zO c1
  refine oF Z c1 (oF Z c1 (oF Z c1 (oR Z (zU Z (zf c1.out) Z) (oA Z Z (eN (zI ?_))))))
  have hE:=nA hm3;first | subst r | cases hE
  exact ⟨Z,_,(zP Z),U,_,hS,Z,Z⟩
theorem wDK (p0:wAA) (w:World) (U:PHeap) (hS:St0 w U [])  {r:Bool} (hm:wAl p0=some r):Gv Tryz.prog 76 [.agg #[jV p0.Bib,jV p0.Time,jV p0.Gate]] w (wCa w [] U (fun U_ L_ v=>v=.bool r/\L_=[])):=by
 unfold wAl at hm
 refine Gv.of Tryz.func76 Z Tryz.ntmps76 Tryz.results76 Z (sR (.fx 0 (.fl 1 (.nil)) .stop) Z ?_)
 let B0:List Value:=[jV p0.Bib,jV p0.Time,jV p0.Gate]
 refine OKS.box (cs:=B0) rfl rfl rfl rfl rfl rfl (by rfl) hS ?_
 intro W1 b2 hS3
 refine oA Z Z (eN (sR (.fl 0 (.fl 1 (.fx 2 (fC3_5 (.fx 6 (wOb (.fx 11 (.fl 12 (.fl 13 (.nil))) .stop)) .stop)) .stop))) Z (oR Z (zV Z Z zJ Z zF) (oL Z (hS3.ldB (j:=0) Z Z Z zE (v:=jV p0.Bib) Z) (bnK hm fun x5 h6 hm7=>zC 0 Z Z Z Z (zD Z Z Tryz.call60 (zA Z (zA Z (zA Z zG))) Z) hS3 (fun hs=>wCK p0.Bib 1 999 W1 U hs h6) (.inr Z) ?_)))))
 rintro U8 L9 v10 W11 le12 hS13 ⟨rfl,rfl⟩
 have hS14:sW w U U8 [.blk b2 30 B0] W11:=hS13
 refine oM Z Z (ifc hm7 ?_ ?_)
 ·intro c15 hm16
  refine ZD Z Z Z (zN Z Z (congrArg nB c15.out)) (fun _=>zV Z Z zJ Z zF) (OKS.m Z Z Z (zN Z Z (congrArg nB c15.out)) (hS14.ldB (j:=0) Z Z Z zE (v:=jV p0.Time) Z) Z (bnK hm16 fun x17 h18 hm19=>zC 0 Z Z Z (zN Z Z (congrArg nB c15.out)) (zD Z Z Tryz.call60 (zA Z (zA Z (zA Z zG))) Z) hS14 (fun hs=>wCK p0.Time 0 360000 W11 U8 hs h18) (.inr Z) ?_))
  rintro U20 L21 v22 W23 le24 hS25 ⟨rfl,rfl⟩
  have hS26:sW w U U20 [.blk b2 30 B0] W23:=hS25
  refine oR Z (zQ Z (congrArg nB c15.out) Z) (oM Z Z (ifc hm19 ?_ ?_))
  ·intro c27 hm28
   refine ZD Z Z Z (zN Z Z (congrArg nB c27.out)) (fun _=>zV Z Z zJ Z zF) (OKS.m Z Z Z (zN Z Z (congrArg nB c27.out)) (hS26.ldB (j:=0) Z Z Z zE (v:=jV p0.Gate) Z) Z (bnK hm28 fun x29 h30 hm31=>zC 0 Z Z Z (zN Z Z (congrArg nB c27.out)) (zD Z Z Tryz.call60 (zA Z (zA Z (zA Z zG))) Z) hS26 (fun hs=>wCK p0.Gate 0 60 W23 U20 hs h30) (.inr Z) ?_))
   rintro U32 L33 v34 W35 le36 hS37 ⟨rfl,rfl⟩
   have hS38:sW w U U32 [.blk b2 30 B0] W35:=hS37
   refine oR Z (zQ Z (congrArg nB c27.out) Z) (oA Z Z (eN (zI ?_)))
   have hE:=nA hm31;first | subst r | cases hE
   exact ⟨rfl,_,(zP rfl),U32,_,(hS38.pick [] _ (by decide) rfl),rfl,rfl⟩
  ·intro c27 hm39
   refine OKS.p Z Z Z (ze Z Z (congrArg nB (nD.2 c27.out)) Z) (OKS.p Z Z Z (ze Z Z (congrArg nB (nD.2 c27.out)) Z) (zw Z Z Z (ze Z Z (congrArg nB (nD.2 c27.out)) Z) (oR Z (zU Z (congrArg nB (nD.2 c27.out)) Z) (oA Z Z (eN (zI ?_))))))
   have hE:=nA hm39;first | subst r | cases hE
   exact ⟨rfl,_,(zP rfl),U20,_,(hS26.pick [] _ (by decide) rfl),rfl,rfl⟩
 ·intro c15 hm40
  refine OKS.p Z Z Z (ze Z Z (congrArg nB (nD.2 c15.out)) Z) (OKS.p Z Z Z (ze Z Z (congrArg nB (nD.2 c15.out)) Z) (zw Z Z Z (ze Z Z (congrArg nB (nD.2 c15.out)) Z) (oR Z (zU Z (congrArg nB (nD.2 c15.out)) Z) (oM Z Z (oN Z (oN Z (zw Z Z Z (ze Z Z Z Z) (oR Z (zU Z Z Z) (oA Z Z (eN (zI ?_)))))))))))
  have hE:=nA hm40;first | subst r | cases hE
  exact ⟨rfl,_,(zP rfl),U8,_,(hS14.pick [] _ (by decide) rfl),rfl,rfl⟩
theorem wFt (p0:List Int) (pA0:Option Addr) (pc0:Nat) (w:World) (U:PHeap) (hS:St0 w U []) (ha0:Sl U 1 pA0 pc0 p0.length (hH KL.encI p0)) {r:Bool} (hm:wBY p0=some r):Gv Tryz.prog 77 [.slice pA0 p0.length pc0] w (wCa w [] U (fun U_ L_ v=>v=.bool r/\L_=[])):=by
 unfold wBY at hm
 refine Gv.of Tryz.func77 Z Tryz.ntmps77 Tryz.results77 Z (sR fL1 Z (oA Z Z (eN (sR (.fx 0 (.fl 1 (.nil)) .stop) Z (OKS.makeMap Z Z Z Z Z hS ?_)))))
 intro W1 b2 hS3
 have hr4:=MpR.nil wKd wLU
 refine oA Z Z (eN (zK (sR fL3 Z (oM Z Z (oR Z (zn Z Z zS) (oM Z Z (eN (zi ?_))))))))
 have q:=wDg hm
 obtain ⟨r21,hX22⟩:=q
 have q:=wDf hX22
 obtain ⟨hle23,hf24⟩:=q
 replace hle23:=zO hle23
 refine CK.forN (fun k20 l17 σ_ w_=>∃ (U_:PHeap) (es18:Array MapEntry) (ck19:Nat),σ_ 9=jV (↑k20:Int)/\σ_ 3=.map (some b2)/\σ_ 7=.slice pA0 p0.length pc0/\σ_ 8=jV (↑p0.length:Int)/\PHeap.Le U U_/\sW w U U_ [.obj b2 (.map es18 ck19)] w_/\MpR es18 wKd wLU l17) hf24 ?_ ?_ ?_
 ·exact ⟨U,#[],0,Z,Z,Z,Z,(zZ _),hS3,hr4⟩
 ·rintro k20 l17 xx27 σ25 W26 hk30 ⟨U32,es18,ck19,fi31,f35,f36,f37,le33,hS34,h38⟩ hx28 hb29
  have c39:Hid ((↑k20:Int) < (↑p0.length:Int)):=zO (wDo hk30)
  replace hk30:=zO hk30
  have hi40:Hid (w64 ((↑k20:Int) + 1)=(↑(k20 + 1):Int)):=zO (by have h1:=hle23.out;have h2:=c39.out;rw [wBE] <;> omega)
  refine sR fL1 Z (oR Z (zl Z fi31 f37) (eN (zK (cT Z c39 (kN (zK (zi (sR fL3 Z (bnK hx28 fun x41 h42 hm43=>?_)))))))))
  have h44:=ha0.le le33
  have q:=h44.el (fun _=>rfl) (wAv h42)
  obtain ⟨b45,off46,hA47,hC48⟩:=q
  refine oR Z (Runs.iaN Z f36 hA47 fi31 zS zF (wCc h42)) (oL Z (hS34.ldC (f:=0) hC48 (v:=jV x41) Z Z zE Z) (oA Z Z (eN (zK (sR fL3 Z (oM Z f35 (oM Z Z (oL Z (hS34.lookup1 (j:=0) (mk:=wKd) (mv:=wLU) (a:=x41) (z:=false) Z Z Z Z (wFL Tryz.runUnderlying150) wKg Tryz.zeroValue4 h38) (eN (ifc hm43 ?_ ?_))))))))))
  ·intro c49 hm50
   refine zh (congrArg nB c49.out) (sR fL1 Z (oA Z Z (eN (zI (zL (zp (zL ?_)))))))
   have q:=wBN hm50
   obtain ⟨v51,hm52,e53⟩:=q
   obtain rfl:=wFJ hm hX22 (hb29 v51 e53)
   refine zL (zp (zL ?_))
   have hE:=nA hm52;first | subst r | cases hE
   exact ⟨rfl,_,(zP rfl),U32,_,(hS34.pick [] _ (by decide) rfl),rfl,rfl⟩
  ·intro c49 hm54
   refine zo (congrArg nB (nD.2 c49.out)) (kN (rR (.fl 0 (.fl 1 (.fx 2 (.nil) .stop))) rfl (zd rfl rfl rfl rfl rfl f35 (zd rfl rfl rfl rfl rfl rfl (OKS.mapPut (x:=.tmp 16) (y:=.tmp 17) (j:=0) (mk:=wKd) (mv:=wLU) (a:=x41) (v:=true) rfl rfl rfl (by first | exact .inl rfl | exact .inr rfl) hS34 rfl rfl rfl rfl (wFL Tryz.runUnderlying150) wKg h38 rfl ?_)))))
   intro es55 ck56 W57 hr58 hS59
   have hS60:sW w U U32 [.obj b2 (.map es55 ck56)] W57:=hS59
   refine zu (zr (zM (rR fL2 Z (oR Z (Runs.to (zg Z fi31 Z) (congrArg (jV) hi40.out)) (oM Z Z (zu ?_))))))
   obtain rfl:=nA hm54
   exact zM ⟨Z,_,Z,⟨U32,es55,ck56,Z,f35,f36,f37,le33,hS60,hr58⟩⟩
 ·rintro y68 σ64 W65 ⟨U71,e69,c70,fi67,f74,f75,f76,le72,hS73,h77⟩ hb66
  have hm78:=wFI hm hX22 hb66
  have c79:Hid (¬ ((↑(((↑p0.length:Int):Int) - 0).toNat:Int) < (↑p0.length:Int))):=zO (wCd)
  refine sR fL1 Z (oR Z (zl Z fi67 f76) (eN (zK (cF Z c79 (ZF (zk (zk (zy (zM (sR fL1 Z (oA Z Z (eN (zI ?_)))))))))))))
  have hE:=nA hm78;first | subst r | cases hE
  exact ⟨rfl,_,(zP rfl),U71,_,(hS73.pick [] _ (by decide) rfl),rfl,rfl⟩
theorem wCl (p0:Int) (w:World) (U:PHeap) (hS:St0 w U [])  {r:Bool} (hm:wBP p0=some r):Gv Tryz.prog 136 [jV p0] w (wCa w [] U (fun U_ L_ v=>v=.bool r/\L_=[])):=by
 unfold wBP at hm
 refine Gv.of Tryz.func136 Z Tryz.ntmps136 Tryz.results136 Z (sR fL1 Z (oA Z Z (eN (sR fL4 Z (oM Z Z (oM Z Z (oR Z (zz Z Z Z) (oA Z Z (eN (zI ?_))))))))))
 cases hm
 exact ⟨Z,_,(zP Z),U,_,hS,Z,Z⟩
theorem wFE (p0:Int) (p1:Int) (w:World) (U:PHeap) (hS:St0 w U [])  {r:Bool} (hm:wBL p0 p1=some r):Gv Tryz.prog 131 [jV p0,jV p1] w (wCa w [] U (fun U_ L_ v=>v=.bool r/\L_=[])):=by
 unfold wBL at hm
 refine Gv.of Tryz.func131 Z Tryz.ntmps131 Tryz.results131 Z (sR fL1 Z (oA Z Z (eN (sR (.fl 0 (.fx 1 (.fl 2 (.fl 3 (.fx 4 (wOZ (.nil)) .stop))) .stop)) Z (oM Z Z (bnK hm fun x1 h2 hm3=>zC 0 Z Z Z Z (zD Z Z Tryz.call136 (zA Z zG) Z) hS (fun hs=>wCl p0 w U hs h2) (.inr Z) ?_))))))
 rintro U4 L5 v6 W7 le8 hS9 ⟨rfl,rfl⟩
 have hS10:sW w U U4 [] W7:=hS9
 refine oM Z Z (ifc hm3 ?_ ?_)
 ·intro c11 hm12
  refine zd Z Z Z (zN Z Z (congrArg nB c11.out)) Z Z (bnK hm12 fun x13 h14 hm15=>zC 0 Z Z Z (zN Z Z (congrArg nB c11.out)) (zD Z Z Tryz.call136 (zA Z zG) Z) hS10 (fun hs=>wCl p1 W7 U4 hs h14) (.inr Z) ?_)
  rintro U16 L17 v18 W19 le20 hS21 ⟨rfl,rfl⟩
  have hS22:sW w U U16 [] W19:=hS21
  refine ZD Z Z Z (zN Z Z (congrArg nB c11.out)) (fun _=>ZK Z Z) (oR Z (zQ Z (congrArg nB c11.out) Z) (oM Z Z (ifc hm15 ?_ ?_)))
  ·intro c23 hm24
   refine zd Z Z Z (zN Z Z (nC c23.out)) Z Z (zd Z Z Z (zN Z Z (nC c23.out)) Z Z (ZD Z Z Z (zN Z Z (nC c23.out)) (fun _=>zl Z Z Z) (oR Z (zU Z (nC c23.out) Z) (oA Z Z (eN (zI ?_))))))
   cases hm24
   exact ⟨Z,_,(zP Z),U16,_,hS22,Z,Z⟩
  ·intro c23 hm25
   refine OKS.p Z Z Z (ze Z Z (nF (c23.out)) Z) (OKS.p Z Z Z (ze Z Z (nF (c23.out)) Z) (OKS.p Z Z Z (ze Z Z (nF (c23.out)) Z) (oR Z (zQ Z (nF (c23.out)) Z) (oA Z Z (eN (zI ?_))))))
   have hE:=nA hm25;first | subst r | cases hE
   exact ⟨Z,_,(zP Z),U16,_,hS22,Z,Z⟩
 ·intro c11 hm26
  refine OKS.p Z Z Z (ze Z Z (congrArg nB (nD.2 c11.out)) Z) (zw Z Z Z (ze Z Z (congrArg nB (nD.2 c11.out)) Z) (OKS.p Z Z Z (ze Z Z (congrArg nB (nD.2 c11.out)) Z) (oR Z (zU Z (congrArg nB (nD.2 c11.out)) Z) (oM Z Z (zd Z Z Z (zN Z Z Z) Z Z (zd Z Z Z (zN Z Z Z) Z Z (ZD Z Z Z (zN Z Z Z) (fun _=>zl Z Z Z) (oR Z (zU Z Z Z) (oA Z Z (eN (zI ?_)))))))))))
  cases hm26
  exact ⟨Z,_,(zP Z),U4,_,hS10,Z,Z⟩
end Go.Proofs.YtapddcoodhijpaaGreat
namespace Go.Proofs.YtapddcoodhijpaaGreat
open Go.KL
set_option maxHeartbeats 4000000
theorem wCH (p0:List Int) (pA0:Option Addr) (pc0:Nat) (w:World) (U:PHeap) (hS:St0 w U []) (ha0:Sl U 1 pA0 pc0 p0.length (hH KL.encI p0)) {r:Bool} (hm:wAi p0=some r):Gv Tryz.prog 78 [.slice pA0 p0.length pc0] w (wCa w [] U (fun U_ L_ v=>v=.bool r/\L_=[])):=by
 unfold wAi at hm
 refine Gv.of Tryz.func78 Z Tryz.ntmps78 Tryz.results78 Z (sR fL1 Z (oA Z Z (eN (zK (sR fL4 Z (oM Z Z (oR Z (zn Z Z zS) (oR Z (Runs.subw Z Z Z) (oA Z Z (eN (zi (CK.iter (fun x4 σ_ w_=>∃ (U_:PHeap),σ_ 0=.slice pA0 p0.length pc0/\σ_ 3=jV x4/\PHeap.Le U U_/\sW w U U_ [] w_) hm ?_ ?_))))))))))))
 ·exact ⟨U,Z,Z,(zZ _),hS⟩
 ·rintro x4 xx7 σ5 W6 ⟨U12,f15,f16,le13,hS14⟩ hx8 hb9
  refine zK (sR fL2 Z (oM Z f16 (oR Z (Runs.gtr Z Z Z) (eN ?_))))
  by_cases c17:0 < x4
  ·have hm18:=hx8;rw [if_pos c17] at hm18;replace c17:=zO c17
   refine cT Z c17 (kN (zK (zi (zK (ZJ ZG [3,3,3,1,3,3,3,3,1,2] (fC0_8 (.fx 9 (.nil) .stop)) (by kernel_rfl) ?_)))))
   have hS19:=hS14.drew
   generalize hw_W20:({ W6 with drawn:=W6.drawn + 1 }:World)=W20 at hS19 ⊢
   refine oM Z f15 (oM Z f16 (bnK hm18 fun x21 h22 hm23=>?_))
   have h24:=ha0.le le13
   have q:=h24.el (fun _=>rfl) (wAv h22)
   obtain ⟨b25,off26,hA27,hC28⟩:=q
   refine oR Z (ZB Z Z hA27 Z zS zF (wBq h22) (wBx h22)) (oL Z (hS19.ldC (f:=0) hC28 (v:=jV x21) Z Z zE Z) (oM Z f15 (oM Z f16 (oR Z (Runs.subw Z Z Z) (bnK hm23 fun x29 h30 hm31=>?_)))))
   have q:=h24.el (fun _=>rfl) (wAv h30)
   obtain ⟨b32,off33,hA34,hC35⟩:=q
   refine oR Z (ZB Z Z hA34 Z zS zF (wBq h30) (wBx h30)) (oL Z (hS19.ldC (f:=0) hC35 (v:=jV x29) Z Z zE Z) (bnK hm31 fun x36 h37 hm38=>zC 0 Z Z Z Z (zD Z Z Tryz.call131 (zA Z (zA Z zG)) Z) hS19 (fun hs=>wFE x21 x29 W20 U12 hs h37) (.inr Z) ?_))
   rintro U39 L40 v41 W42 le43 hS44 ⟨rfl,rfl⟩
   have hS45:sW w U U39 [] W42:=hS44
   refine eN (ifc hm38 ?_ ?_)
   ·intro c46 hm47
    refine zh (congrArg nB c46.out) (sR fL1 Z (oA Z Z (eN (zI (zp (zL ?_))))))
    have q:=wBN hm47
    obtain ⟨v48,hm49,e50⟩:=q
    obtain rfl:=hb9 v48 e50
    refine zL (zp (zL ?_))
    have hE:=nA hm49;first | subst r | cases hE
    exact ⟨Z,_,(zP Z),U39,_,hS45,Z,Z⟩
   ·intro c46 hm51
    refine zo (congrArg nB (nD.2 c46.out)) (CK.skip (zr (zM (rR fL3 Z (oM Z f16 (oR Z (Runs.subw Z Z Z) (oA Z Z (zu ?_))))))))
    obtain rfl:=nA hm51
    exact zM ⟨Z,_,Z,⟨U39,f15,Z,(le13.trans le43),hS45⟩⟩
  ·have hm53:=hx8;rw [if_neg c17] at hm53;replace c17:=zO c17
   refine cF Z c17 (ZF (zk ?_))
   have q:=wBN hm53
   obtain ⟨v54,hm55,e56⟩:=q
   obtain rfl:=hb9 v54 e56
   refine zk (zy (zM (sR fL1 Z (oA Z Z (eN (zI ?_))))))
   have hE:=nA hm55;first | subst r | cases hE
   exact ⟨Z,_,(zP Z),U12,_,hS14,Z,Z⟩
theorem wBf (p0:List wAA) (pA0:Option Addr) (pc0:Nat) (w:World) (U:PHeap) (hS:St0 w U []) (ha0:Sl U 3 pA0 pc0 p0.length (hH wAB p0)) {r:Int} (hm:wAp p0=some r):Gv Tryz.prog 23 [.slice pA0 p0.length pc0] w (wCa w [] U (fun U_ L_ v=>v=jV r/\L_=[])):=by
 unfold wAp at hm
 refine Gv.of Tryz.func23 Z Tryz.ntmps23 Tryz.results23 Z (sR fL1 Z (oA Z Z (eN (sR fL2 Z (oA Z Z (oA Z Z (eN (zK (sR fL3 Z (oM Z Z (oR Z (zn Z Z zB) (oM Z Z (eN (zi ?_))))))))))))))
 have q:=bnd hm
 obtain ⟨⟨y38,y39⟩,hf35,hm34⟩:=q
 try dsimp only at hm34
 have q:=wHs hf35
 obtain ⟨hle36,hf37⟩:=q
 replace hle36:=zO hle36
 refine CK.forN' (fun k33 (l25,l29) σ_ w_=>∃ (U_:PHeap) (A26:Option Addr) (c27:Nat) (A30:Option Addr) (c31:Nat),σ_ 9=jV (↑k33:Int)/\σ_ 0=.slice pA0 p0.length pc0/\σ_ 3=.slice A26 l25.length c27/\σ_ 4=.slice A30 l29.length c31/\σ_ 7=.slice pA0 p0.length pc0/\σ_ 8=jV (↑p0.length:Int)/\PHeap.Le U U_/\sW w U U_ [.row A26 c27 3 1 (hH KL.encI l25),.row A30 c31 3 1 (hH KL.encI l29)] w_) hf37 ?_ ?_ ?_
 ·have hS40:=hS.nilrow 3 1
  have hS42:=hS40.nilrow 3 1
  exact ⟨U,none,0,none,0,rfl,rfl,rfl,rfl,rfl,rfl,(zZ _),(hS42.pick [1,0] _ (by decide) rfl)⟩
 ·rintro k33 ⟨l25,l29⟩ xx46 σ44 W45 hk49 ⟨U51,A26,c27,A30,c31,fi50,f54,f55,f56,f57,f58,le52,hS53⟩ hx47
  try dsimp only at hx47
  have c59:Hid ((↑k33:Int) < (↑p0.length:Int)):=zO (wDo hk49)
  replace hk49:=zO hk49
  have hi60:Hid (w64 ((↑k33:Int) + 1)=(↑(k33 + 1):Int)):=zO (by have h1:=hle36.out;have h2:=c59.out;rw [wBE] <;> omega)
  refine sR fL1 Z (oR Z (zl Z fi50 f58) (eN (zK (cT Z c59 (kN ?_)))))
  have q:=bnd hx47
  obtain ⟨⟨l61,l64⟩,hx68,hm69⟩:=q
  try dsimp only at hm69
  refine CK.cut (fun σ_ w_=>∃ (U_:PHeap) (A62:Option Addr) (c63:Nat) (A65:Option Addr) (c66:Nat),σ_ 0=.slice pA0 p0.length pc0/\σ_ 3=.slice A62 l61.length c63/\σ_ 4=.slice A65 l64.length c66/\σ_ 7=.slice pA0 p0.length pc0/\σ_ 8=jV (↑p0.length:Int)/\σ_ 9=jV (↑k33:Int)/\PHeap.Le U51 U_/\sW w U U_ [.row A62 c63 3 1 (hH KL.encI l61),.row A65 c66 3 1 (hH KL.encI l64)] w_) ?_ ?_
  ·refine zi (sR (.fl 0 (.fl 1 (.fx 2 (.fx 3 (.nil) .stop) .stop))) Z (bnK hx68 fun x70 h71 hm72=>?_))
   have h73:=ha0.le le52
   have q:=h73.el (fun _=>rfl) (wAv h71)
   obtain ⟨b74,off75,hA76,hC77⟩:=q
   refine oR Z (Runs.iaN Z f57 hA76 fi50 zB zH (wCc h71)) (oL Z (hS53.ldCA (f:=0) hC77 Z Z ZI zH (us:=[jV x70.Bib,jV x70.Time,jV x70.Gate]) Z Z) (OKS.alloc (cs:=[jV 0,jV 0,jV 0]) Z Z Z Z Z zR Z hS53 ?_))
   intro W78 b79 hS80
   let B0:List Value:=[jV x70.Bib,jV x70.Time,jV x70.Gate]
   refine OKS.st (j:=0) (vs:=B0) Z Z Z Z hS80 Z Z Z Z zH (zX Z) Z Z Z ?_
   intro W82 hS83
   let B1:Res:=.row A30 c31 3 1 (hH KL.encI l29)
   let B2:Res:=.row A26 c27 3 1 (hH KL.encI l25)
   have hS84:sW w U U51 [.blk b79 30 B0,B2,B1] W82:=hS83
   refine eN (bnK hm72 fun x90 h91 hm111=>bnK hm111 fun x103 h104 hm112=>ZJ ZG [3,3,1,2,0,3,3,2,2,0,3,3] (wGB (.fl 5 (.fl 6 (.fx 3 (.fx 4 (.fx 7 (.fx 8 (.fx 9 (.fl 10 (.fl 11 (.nil))) (.stop)) (.stop)) (.stop)) (.fx 7 (.fx 4 (.fx 8 (.fx 9 (.fl 10 (.fl 11 (.nil))) (.stop)) (.stop)) (.fx 8 (.fx 4 (.fx 9 (.fl 10 (.fl 11 (.nil))) (.stop)) (.stop)) (.stop))) (.stop))) (.fx 7 (.fx 3 (.fx 4 (.fx 8 (.fx 9 (.fl 10 (.fl 11 (.nil))) (.stop)) (.stop)) (.fx 8 (.fx 4 (.fx 9 (.fl 10 (.fl 11 (.nil))) (.stop)) (.stop)) (.stop))) (.fx 8 (.fx 3 (.fx 4 (.fx 9 (.fl 10 (.fl 11 (.nil))) (.stop)) (.stop)) (.stop)) (.stop))) (.stop)))))) (by kernel_rfl) ?_)
   have hS113:=hS84.drew
   generalize hw_W114:({ W82 with drawn:=W82.drawn + 1 }:World)=W114 at hS113 ⊢
   refine oM Z f55 (oR Z (zV Z Z zJ Z zF) (oL Z (hS113.ldB (j:=0) Z Z Z zE (v:=jV x70.Bib) Z) (oM Z f56 (oR Z (zV Z Z zJ Z zF) (OKS.both ?_ ?_)))))
   ·refine zY (pv:=[(0,jV x70.Bib)]) (zs:=[jV 0]) (cs:=[jV x70.Bib]) Z Z Z Z Z (wAV Z wAy) zS zF zq Z Z Z Z Z hS113 ?_
    intro W115 b116 hS117
    let B3:Res:=.row (some ⟨b116,0,none⟩) 1 3 1 (hH KL.encI [x70.Bib])
    have hS119:sW w U U51 [B3,.blk b79 30 B0,B2,B1] W115:=hS117
    refine OKS.both ?_ ?_
    ·refine zt (j:=2) (enc:=KL.encI) (xs:=l25) (ys:=[x70.Bib]) (zs:=x90) rfl rfl rfl rfl rfl zm wDv rfl rfl rfl rfl rfl rfl hS119 rfl rfl rfl (hS119.srcR (j:=0) rfl (by decide) (wAJ (f:=KL.encI) (sz:=1) (fun _=>rfl) [x70.Bib])) (fun _=>rfl) (fun _=>rfl) h91 rfl ?_
     intro A120 c121 W122 hS123
     let B4:Res:=.row A120 c121 3 1 (hH KL.encI x90)
     have hS124:sW w U U51 [B3,.blk b79 30 B0,B4,B1] W122:=hS123
     refine OKS.mx2 Z Z Z Z (hS124.ldB (j:=1) Z Z Z zE (v:=jV x70.Time) Z) (zY (pv:=[(0,jV x70.Time)]) (zs:=[jV 0]) (cs:=[jV x70.Time]) Z Z Z Z Z (wAV Z wAy) zS zF zq Z Z Z Z Z hS124 ?_)
     intro W125 b126 hS127
     let B5:Res:=.row (some ⟨b126,0,none⟩) 1 3 1 (hH KL.encI [x70.Time])
     have hS129:sW w U U51 [B5,B3,.blk b79 30 B0,B4,B1] W125:=hS127
     refine zt (j:=4) (enc:=KL.encI) (xs:=l29) (ys:=[x70.Time]) (zs:=x103) rfl rfl rfl rfl rfl zm wDv rfl rfl rfl rfl rfl rfl hS129 rfl rfl rfl (hS129.srcR (j:=0) rfl (by decide) (wAJ (f:=KL.encI) (sz:=1) (fun _=>rfl) [x70.Time])) (fun _=>rfl) (fun _=>rfl) h104 rfl ?_
     intro A130 c131 W132 hS133
     have hS134:sW w U U51 [B5,B3,.blk b79 30 B0,B4,.row A130 c131 3 1 (hH KL.encI x103)] W132:=hS133
     refine oA Z Z (oA Z Z (zu (zr ?_)))
     cases hm112
     exact zM ⟨rfl,⟨U51,A120,c121,A130,c131,f54,rfl,rfl,f57,f58,fi50,(zZ _),(hS134.pick [3,4] _ (by decide) rfl)⟩⟩
    ·refine OKS.mx2 Z Z Z Z (hS119.ldB (j:=1) Z Z Z zE (v:=jV x70.Time) Z) (OKS.both ?_ ?_)
     ·refine zt (j:=2) (enc:=KL.encI) (xs:=l25) (ys:=[x70.Bib]) (zs:=x90) rfl rfl rfl rfl rfl zm wDv rfl rfl rfl rfl rfl rfl hS119 rfl rfl rfl (hS119.srcR (j:=0) rfl (by decide) (wAJ (f:=KL.encI) (sz:=1) (fun _=>rfl) [x70.Bib])) (fun _=>rfl) (fun _=>rfl) h91 rfl ?_
      intro A141 c142 W143 hS144
      let B6:Res:=.row A141 c142 3 1 (hH KL.encI x90)
      have hS145:sW w U U51 [B3,.blk b79 30 B0,B6,B1] W143:=hS144
      refine zY (pv:=[(0,jV x70.Time)]) (zs:=[jV 0]) (cs:=[jV x70.Time]) Z Z Z Z Z (wAV Z wAy) zS zF zq Z Z Z Z Z hS145 ?_
      intro W146 b147 hS148
      let B7:Res:=.row (some ⟨b147,0,none⟩) 1 3 1 (hH KL.encI [x70.Time])
      have hS150:sW w U U51 [B7,B3,.blk b79 30 B0,B6,B1] W146:=hS148
      refine zt (j:=4) (enc:=KL.encI) (xs:=l29) (ys:=[x70.Time]) (zs:=x103) rfl rfl rfl rfl rfl zm wDv rfl rfl rfl rfl rfl rfl hS150 rfl rfl rfl (hS150.srcR (j:=0) rfl (by decide) (wAJ (f:=KL.encI) (sz:=1) (fun _=>rfl) [x70.Time])) (fun _=>rfl) (fun _=>rfl) h104 rfl ?_
      intro A151 c152 W153 hS154
      have hS155:sW w U U51 [B7,B3,.blk b79 30 B0,B6,.row A151 c152 3 1 (hH KL.encI x103)] W153:=hS154
      refine oA Z Z (oA Z Z (zu (zr ?_)))
      cases hm112
      exact zM ⟨rfl,⟨U51,A141,c142,A151,c152,f54,rfl,rfl,f57,f58,fi50,(zZ _),(hS155.pick [3,4] _ (by decide) rfl)⟩⟩
     ·refine zY (pv:=[(0,jV x70.Time)]) (zs:=[jV 0]) (cs:=[jV x70.Time]) Z Z Z Z Z (wAV Z wAy) zS zF zq Z Z Z Z Z hS119 ?_
      intro W162 b163 hS164
      let B8:Res:=.row (some ⟨b163,0,none⟩) 1 3 1 (hH KL.encI [x70.Time])
      have hS166:sW w U U51 [B8,B3,.blk b79 30 B0,B2,B1] W162:=hS164
      refine zt (j:=3) (enc:=KL.encI) (xs:=l25) (ys:=[x70.Bib]) (zs:=x90) rfl rfl rfl rfl rfl zm wDv rfl rfl rfl rfl rfl rfl hS166 rfl rfl rfl (hS166.srcR (j:=1) rfl (by decide) (wAJ (f:=KL.encI) (sz:=1) (fun _=>rfl) [x70.Bib])) (fun _=>rfl) (fun _=>rfl) h91 rfl ?_
      intro A167 c168 W169 hS170
      let B9:Res:=.row A167 c168 3 1 (hH KL.encI x90)
      have hS171:sW w U U51 [B8,B3,.blk b79 30 B0,B9,B1] W169:=hS170
      refine zt (j:=4) (enc:=KL.encI) (xs:=l29) (ys:=[x70.Time]) (zs:=x103) rfl rfl rfl rfl rfl zm wDv rfl rfl rfl rfl rfl rfl hS171 rfl rfl rfl (hS171.srcR (j:=0) rfl (by decide) (wAJ (f:=KL.encI) (sz:=1) (fun _=>rfl) [x70.Time])) (fun _=>rfl) (fun _=>rfl) h104 rfl ?_
      intro A172 c173 W174 hS175
      have hS176:sW w U U51 [B8,B3,.blk b79 30 B0,B9,.row A172 c173 3 1 (hH KL.encI x103)] W174:=hS175
      refine oA Z Z (oA Z Z (zu (zr ?_)))
      cases hm112
      exact zM ⟨rfl,⟨U51,A167,c168,A172,c173,f54,rfl,rfl,f57,f58,fi50,(zZ _),(hS176.pick [3,4] _ (by decide) rfl)⟩⟩
   ·refine OKS.mx2 Z Z Z Z (hS113.ldB (j:=0) Z Z Z zE (v:=jV x70.Time) Z) (OKS.both ?_ ?_)
    ·refine zY (pv:=[(0,jV x70.Bib)]) (zs:=[jV 0]) (cs:=[jV x70.Bib]) Z Z Z Z Z (wAV Z wAy) zS zF zq Z Z Z Z Z hS113 ?_
     intro W183 b184 hS185
     let B10:Res:=.row (some ⟨b184,0,none⟩) 1 3 1 (hH KL.encI [x70.Bib])
     have hS187:sW w U U51 [B10,.blk b79 30 B0,B2,B1] W183:=hS185
     refine OKS.both ?_ ?_
     ·refine zt (j:=2) (enc:=KL.encI) (xs:=l25) (ys:=[x70.Bib]) (zs:=x90) rfl rfl rfl rfl rfl zm wDv rfl rfl rfl rfl rfl rfl hS187 rfl rfl rfl (hS187.srcR (j:=0) rfl (by decide) (wAJ (f:=KL.encI) (sz:=1) (fun _=>rfl) [x70.Bib])) (fun _=>rfl) (fun _=>rfl) h91 rfl ?_
      intro A188 c189 W190 hS191
      let B11:Res:=.row A188 c189 3 1 (hH KL.encI x90)
      have hS192:sW w U U51 [B10,.blk b79 30 B0,B11,B1] W190:=hS191
      refine zY (pv:=[(0,jV x70.Time)]) (zs:=[jV 0]) (cs:=[jV x70.Time]) Z Z Z Z Z (wAV Z wAy) zS zF zq Z Z Z Z Z hS192 ?_
      intro W193 b194 hS195
      let B12:Res:=.row (some ⟨b194,0,none⟩) 1 3 1 (hH KL.encI [x70.Time])
      have hS197:sW w U U51 [B12,B10,.blk b79 30 B0,B11,B1] W193:=hS195
      refine zt (j:=4) (enc:=KL.encI) (xs:=l29) (ys:=[x70.Time]) (zs:=x103) rfl rfl rfl rfl rfl zm wDv rfl rfl rfl rfl rfl rfl hS197 rfl rfl rfl (hS197.srcR (j:=0) rfl (by decide) (wAJ (f:=KL.encI) (sz:=1) (fun _=>rfl) [x70.Time])) (fun _=>rfl) (fun _=>rfl) h104 rfl ?_
      intro A198 c199 W200 hS201
      have hS202:sW w U U51 [B12,B10,.blk b79 30 B0,B11,.row A198 c199 3 1 (hH KL.encI x103)] W200:=hS201
      refine oA Z Z (oA Z Z (zu (zr ?_)))
      cases hm112
      exact zM ⟨rfl,⟨U51,A188,c189,A198,c199,f54,rfl,rfl,f57,f58,fi50,(zZ _),(hS202.pick [3,4] _ (by decide) rfl)⟩⟩
     ·refine zY (pv:=[(0,jV x70.Time)]) (zs:=[jV 0]) (cs:=[jV x70.Time]) Z Z Z Z Z (wAV Z wAy) zS zF zq Z Z Z Z Z hS187 ?_
      intro W209 b210 hS211
      let B13:Res:=.row (some ⟨b210,0,none⟩) 1 3 1 (hH KL.encI [x70.Time])
      have hS213:sW w U U51 [B13,B10,.blk b79 30 B0,B2,B1] W209:=hS211
      refine zt (j:=3) (enc:=KL.encI) (xs:=l25) (ys:=[x70.Bib]) (zs:=x90) rfl rfl rfl rfl rfl zm wDv rfl rfl rfl rfl rfl rfl hS213 rfl rfl rfl (hS213.srcR (j:=1) rfl (by decide) (wAJ (f:=KL.encI) (sz:=1) (fun _=>rfl) [x70.Bib])) (fun _=>rfl) (fun _=>rfl) h91 rfl ?_
      intro A214 c215 W216 hS217
      let B14:Res:=.row A214 c215 3 1 (hH KL.encI x90)
      have hS218:sW w U U51 [B13,B10,.blk b79 30 B0,B14,B1] W216:=hS217
      refine zt (j:=4) (enc:=KL.encI) (xs:=l29) (ys:=[x70.Time]) (zs:=x103) rfl rfl rfl rfl rfl zm wDv rfl rfl rfl rfl rfl rfl hS218 rfl rfl rfl (hS218.srcR (j:=0) rfl (by decide) (wAJ (f:=KL.encI) (sz:=1) (fun _=>rfl) [x70.Time])) (fun _=>rfl) (fun _=>rfl) h104 rfl ?_
      intro A219 c220 W221 hS222
      have hS223:sW w U U51 [B13,B10,.blk b79 30 B0,B14,.row A219 c220 3 1 (hH KL.encI x103)] W221:=hS222
      refine oA Z Z (oA Z Z (zu (zr ?_)))
      cases hm112
      exact zM ⟨rfl,⟨U51,A214,c215,A219,c220,f54,rfl,rfl,f57,f58,fi50,(zZ _),(hS223.pick [3,4] _ (by decide) rfl)⟩⟩
    ·refine zY (pv:=[(0,jV x70.Time)]) (zs:=[jV 0]) (cs:=[jV x70.Time]) Z Z Z Z Z (wAV Z wAy) zS zF zq Z Z Z Z Z hS113 ?_
     intro W230 b231 hS232
     let B15:Res:=.row (some ⟨b231,0,none⟩) 1 3 1 (hH KL.encI [x70.Time])
     have hS234:sW w U U51 [B15,.blk b79 30 B0,B2,B1] W230:=hS232
     refine zY (pv:=[(0,jV x70.Bib)]) (zs:=[jV 0]) (cs:=[jV x70.Bib]) Z Z Z Z Z (wAV Z wAy) zS zF zq Z Z Z Z Z hS234 ?_
     intro W235 b236 hS237
     let B16:Res:=.row (some ⟨b236,0,none⟩) 1 3 1 (hH KL.encI [x70.Bib])
     have hS239:sW w U U51 [B16,B15,.blk b79 30 B0,B2,B1] W235:=hS237
     refine zt (j:=3) (enc:=KL.encI) (xs:=l25) (ys:=[x70.Bib]) (zs:=x90) rfl rfl rfl rfl rfl zm wDv rfl rfl rfl rfl rfl rfl hS239 rfl rfl rfl (hS239.srcR (j:=0) rfl (by decide) (wAJ (f:=KL.encI) (sz:=1) (fun _=>rfl) [x70.Bib])) (fun _=>rfl) (fun _=>rfl) h91 rfl ?_
     intro A240 c241 W242 hS243
     let B17:Res:=.row A240 c241 3 1 (hH KL.encI x90)
     have hS244:sW w U U51 [B16,B15,.blk b79 30 B0,B17,B1] W242:=hS243
     refine zt (j:=4) (enc:=KL.encI) (xs:=l29) (ys:=[x70.Time]) (zs:=x103) rfl rfl rfl rfl rfl zm wDv rfl rfl rfl rfl rfl rfl hS244 rfl rfl rfl (hS244.srcR (j:=1) rfl (by decide) (wAJ (f:=KL.encI) (sz:=1) (fun _=>rfl) [x70.Time])) (fun _=>rfl) (fun _=>rfl) h104 rfl ?_
     intro A245 c246 W247 hS248
     have hS249:sW w U U51 [B16,B15,.blk b79 30 B0,B17,.row A245 c246 3 1 (hH KL.encI x103)] W247:=hS248
     refine oA Z Z (oA Z Z (zu (zr ?_)))
     cases hm112
     exact zM ⟨rfl,⟨U51,A240,c241,A245,c246,f54,rfl,rfl,f57,f58,fi50,(zZ _),(hS249.pick [3,4] _ (by decide) rfl)⟩⟩
  ·rintro σ256 W257 ⟨U258,A62,c63,A65,c66,f261,f262,f263,f264,f265,f266,le259,hS260⟩
   refine rR fL2 Z (oR Z (Runs.to (zg Z f266 Z) (congrArg (jV) hi60.out)) (oM Z Z (zu ?_)))
   cases hm69
   exact zM ⟨Z,⟨U258,A62,c63,A65,c66,Z,f261,f262,f263,f264,f265,(le52.trans le259),hS260⟩⟩
 ·rintro σ273 W274 ⟨U287,A283,c284,A285,c286,fi276,f290,f291,f292,f293,f294,le288,hS289⟩
  have c295:Hid (¬ ((↑(((↑p0.length:Int):Int) - 0).toNat:Int) < (↑p0.length:Int))):=zO (wCd)
  refine sR fL1 Z (oR Z (zl Z fi276 f294) (eN (zK (cF Z c295 (ZF (zk (zk (zy (zM (zK (zi (sR fL4 Z (oM Z f290 (oR Z (zn Z Z zB) (oR Z (Runs.gtr Z Z Z) (oA Z Z (eN (ifc hm34 ?_ ?_))))))))))))))))))
  ·intro c296 hm297
   refine cT Z c296 (sR fL1 Z (oA Z Z (eN (zI (zp (zL ?_))))))
   cases hm297
   exact ⟨rfl,_,(zP rfl),U287,_,(hS289.pick [] _ (by decide) rfl),rfl,rfl⟩
  ·intro c296 hm298
   refine cF Z c296 (sR (.fl 0 (.fx 1 (.fl 2 (.fl 3 (.nil))) .stop)) Z (oM Z f290 ?_))
   have h299:=ha0.le le288
   have hF300:FnOK Tryz.prog U287 (.func (.func 76) #[] #[]) wLA wLB wAl:=⟨76,[],[],rfl,Tryz.call76,fun U1 w1 x y vs le hs ha hm=>by obtain rfl:=ha;exact wDK x w1 U1 hs  hm⟩
   refine bnK hm298 fun x301 h302 hm303=>zC 0 Z Z Z Z (zD Z Z Tryz.call75 (zA Z (zA Z zG)) Z) hS289 (fun hs=>wCS p0 pA0 pc0 wAl (.func (.func 76) #[] #[]) W274 U287 hs h299 hF300 h302) (.inr Z) ?_
   rintro U304 L305 v306 W307 le308 hS309 ⟨rfl,rfl⟩
   let B18:Res:=.row A285 c286 3 1 (hH KL.encI y39)
   have hS310:sW w U U304 [.row A283 c284 3 1 (hH KL.encI y38),B18] W307:=hS309
   refine oR Z (ZK Z Z) (oA Z Z (eN (ifc hm303 ?_ ?_)))
   ·intro c311 hm312
    refine zo (nC c311.out) (sR (.fl 0 (.fx 1 (.fl 2 (.nil)) .stop)) Z (oM Z f291 ?_))
    have q:=hS310.freezeR (k:=0) (n:=y38.length) rfl (wAJ (f:=KL.encI) (sz:=1) (fun _=>rfl) y38) (by decide)
    obtain ⟨U313,le314,hs315,hS316⟩:=q
    have hS317:sW w U U313 [B18] W307:=hS316
    refine bnK hm312 fun x318 h319 hm320=>zC 0 Z Z Z Z (zD Z Z Tryz.call77 (zA Z zG) Z) hS317 (fun hs=>wFt y38 A283 c284 W307 U313 hs hs315 h319) (.inr Z) ?_
    rintro U321 L322 v323 W324 le325 hS326 ⟨rfl,rfl⟩
    have hS327:sW w U U321 [B18] W324:=hS326
    refine oA Z Z (eN (ifc hm320 ?_ ?_))
    ·intro c328 hm329
     refine zh (congrArg nB c328.out) (sR fL1 Z (oA Z Z (eN (zI (zp (zL ?_))))))
     cases hm329
     exact ⟨rfl,_,(zP rfl),U321,_,(hS327.pick [] _ (by decide) rfl),rfl,rfl⟩
    ·intro c328 hm330
     refine zo (congrArg nB (nD.2 c328.out)) (sR (.fl 0 (.fx 1 (.fl 2 (.fl 3 (.nil))) .stop)) Z (oM Z f292 ?_))
     have q:=hS327.freezeR (k:=0) (n:=y39.length) rfl (wAJ (f:=KL.encI) (sz:=1) (fun _=>rfl) y39) (by decide)
     obtain ⟨U331,le332,hs333,hS334⟩:=q
     have hS335:sW w U U331 [] W324:=hS334
     refine bnK hm330 fun x336 h337 hm338=>zC 0 Z Z Z Z (zD Z Z Tryz.call78 (zA Z zG) Z) hS335 (fun hs=>wCH y39 A285 c286 W324 U331 hs hs333 h337) (.inr Z) ?_
     rintro U339 L340 v341 W342 le343 hS344 ⟨rfl,rfl⟩
     have hS345:sW w U U339 [] W342:=hS344
     refine oR Z (ZK Z Z) (oA Z Z (eN (ifc hm338 ?_ ?_)))
     ·intro c346 hm347
      refine zo (nC c346.out) (CK.skip (zr (zM (sR fL1 Z (oA Z Z (eN (zI ?_)))))))
      cases hm347
      exact ⟨Z,_,(zP Z),U339,_,hS345,Z,Z⟩
     ·intro c346 hm348
      refine zh (nF (c346.out)) (sR fL1 Z (oA Z Z (eN (zI (zp (zL ?_))))))
      cases hm348
      exact ⟨Z,_,(zP Z),U339,_,hS345,Z,Z⟩
   ·intro c311 hm349
    refine zh (nF (c311.out)) (sR fL1 Z (oA Z Z (eN (zI (zp (zL ?_))))))
    cases hm349
    exact ⟨rfl,_,(zP rfl),U304,_,(hS310.pick [] _ (by decide) rfl),rfl,rfl⟩
theorem wEq (p0:wAA) (p1:Int) (pb1:Nat) (w:World) (U:PHeap) (hS:St0 w U []) (ha0:Cl U pb1 0 [jV p1]) {r:Bool} (hm:wBF p0 p1=some r):Gv Tryz.prog 69 [.agg #[jV p0.Bib,jV p0.Time,jV p0.Gate],.pointer (some ⟨pb1,0,none⟩)] w (wCa w [] U (fun U_ L_ v=>v=.bool r/\L_=[])):=by
 unfold wBF at hm
 refine Gv.of Tryz.func69 rfl Tryz.ntmps69 Tryz.results69 rfl (sR (.fx 0 (.fl 1 (.nil)) .stop) rfl (OKS.box (cs:=[jV p0.Bib,jV p0.Time,jV p0.Gate]) rfl rfl rfl rfl rfl rfl (by rfl) hS ?_))
 intro W1 b2 hS3
 refine oA Z Z (eN (sR fL5 Z (oR Z (zV Z Z zJ Z zF) (oL Z (hS3.ldB (j:=0) Z Z Z zE (v:=jV p0.Bib) Z) (oL Z (hS3.ldC (f:=0) ha0 (v:=jV p1) Z Z zE Z) (oR Z (ZA Z Z Z) (oA Z Z (eN (zI ?_)))))))))
 cases hm
 exact ⟨rfl,_,(zP rfl),U,_,(hS3.pick [] _ (by decide) rfl),rfl,rfl⟩
theorem wAP (p0:List wAA) (pA0:Option Addr) (pc0:Nat) (p1:(wAA->Option Bool)) (pv1:Value) (w:World) (U:PHeap) (hS:St0 w U []) (ha0:Sl U 3 pA0 pc0 p0.length (hH wAB p0)) (ha1:FnOK Tryz.prog U pv1 wLA wLB p1) {r:Int} (hm:wAD p0 p1=some r):Gv Tryz.prog 24 [.slice pA0 p0.length pc0,pv1] w (wCa w [] U (fun U_ L_ v=>v=jV r/\L_=[])):=by
 unfold wAD at hm
 refine Gv.of Tryz.func24 Z Tryz.ntmps24 Tryz.results24 Z (sR fL1 Z (oA Z Z (eN (zK (sR fL3 Z (oM Z Z (oR Z (zn Z Z zB) (oM Z Z (eN (zi ?_))))))))))
 have q:=wDg hm
 obtain ⟨r3,hX4⟩:=q
 have q:=wDf hX4
 obtain ⟨hle5,hf6⟩:=q
 replace hle5:=zO hle5
 refine CK.forN (fun k2 _ σ_ w_=>∃ (U_:PHeap),σ_ 8=jV (↑k2:Int)/\σ_ 0=.slice pA0 p0.length pc0/\σ_ 1=pv1/\σ_ 7=jV (↑p0.length:Int)/\PHeap.Le U U_/\sW w U U_ [] w_) hf6 ?_ ?_ ?_
 ·exact ⟨U,Z,Z,Z,Z,(zZ _),hS⟩
 ·rintro k2 ⟨⟩ xx9 σ7 W8 hk12 ⟨U14,fi13,f17,f18,f19,le15,hS16⟩ hx10 hb11
  try dsimp only at hx10
  have c20:Hid ((↑k2:Int) < (↑p0.length:Int)):=zO (wDo hk12)
  replace hk12:=zO hk12
  have hi21:Hid (w64 ((↑k2:Int) + 1)=(↑(k2 + 1):Int)):=zO (by have h1:=hle5.out;have h2:=c20.out;rw [wBE] <;> omega)
  refine sR fL1 Z (oR Z (zl Z fi13 f19) (eN (zK (cT Z c20 (kN (zK (zi (sR fL2 Z (oM Z fi13 (oA Z Z (eN (sR (wLe (.fx 5 (.nil) .stop)) Z (oM Z f18 (oM Z f17 (oM Z Z (bnK hx10 fun x22 h23 hm24=>?_))))))))))))))))
  have h25:=ha0.le le15
  have q:=h25.el (fun _=>rfl) (wAv h23)
  obtain ⟨b26,off27,hA28,hC29⟩:=q
  refine oR Z (Runs.iaN Z Z hA28 Z zB zH (wCc h23)) (oL Z (hS16.ldCA (f:=0) hC29 Z Z ZI zH (us:=[jV x22.Bib,jV x22.Time,jV x22.Gate]) Z Z) (bnK hm24 fun x30 h31 hm32=>?_))
  have h39:=ha1.le le15
  refine OKS.callV (a:=x22) Z Z Z Z Z Z (zA Z zG) hS16 h39 Z h31 ?_
  rintro U33 L34 v35 W36 le37 hS38 ⟨rfl,rfl⟩
  have hS40:sW w U U33 [] W36:=hS38
  refine eN (ifc hm32 ?_ ?_)
  ·intro c41 hm42
   refine zh (congrArg nB c41.out) (sR fL2 Z (oM Z Z (oA Z Z (eN (zI (zp (zL ?_)))))))
   have q:=wBN hm42
   obtain ⟨v43,hm44,e45⟩:=q
   obtain rfl:=wFJ hm hX4 (hb11 v43 e45)
   refine zL (zp (zL ?_))
   cases hm44
   exact ⟨Z,_,(zP Z),U33,_,hS40,Z,Z⟩
  ·intro c41 hm46
   refine zo (congrArg nB (nD.2 c41.out)) (CK.skip (zr (zM (rR fL2 Z (oR Z (Runs.to (zg Z fi13 Z) (congrArg (jV) hi21.out)) (oM Z Z (zu ?_)))))))
   obtain rfl:=nA hm46
   exact zM ⟨Z,_,Z,⟨U33,Z,f17,f18,f19,(le15.trans le37),hS40⟩⟩
 ·rintro ⟨⟩ σ47 W48 ⟨U51,fi50,f54,f55,f56,le52,hS53⟩ hb49
  have hm57:=wFI hm hX4 hb49
  try dsimp only at hm57
  have c58:Hid (¬ ((↑(((↑p0.length:Int):Int) - 0).toNat:Int) < (↑p0.length:Int))):=zO (wCd)
  refine sR fL1 Z (oR Z (zl Z fi50 f56) (eN (zK (cF Z c58 (ZF (zk (zk (zy (zM (sR fL1 Z (oA Z Z (eN (zI ?_)))))))))))))
  cases hm57
  exact ⟨Z,_,(zP Z),U51,_,hS53,Z,Z⟩
theorem wAm (p0:List wAA) (pA0:Option Addr) (pc0:Nat) (p1:(wAA->Option Bool)) (pv1:Value) (w:World) (U:PHeap) (hS:St0 w U []) (ha0:Sl U 3 pA0 pc0 p0.length (hH wAB p0)) (ha1:FnOK Tryz.prog U pv1 wLA wLB p1) {r:Bool} (hm:wAK p0 p1=some r):Gv Tryz.prog 27 [.slice pA0 p0.length pc0,pv1] w (wCa w [] U (fun U_ L_ v=>v=.bool r/\L_=[])):=by
 unfold wAK at hm
 refine Gv.of Tryz.func27 Z Tryz.ntmps27 Tryz.results27 Z (sR fL1 Z (oA Z Z (eN (sR (.fl 0 (.fl 1 (.fx 2 (.fl 3 (.fl 4 (.nil))) .stop))) Z (oM Z Z (oM Z Z (bnK hm fun x1 h2 hm3=>zC 0 Z Z Z Z (zD Z Z Tryz.call24 (zA Z (zA Z zG)) Z) hS (fun hs=>wAP p0 pA0 pc0 p1 pv1 w U hs ha0 ha1 h2) (.inr Z) ?_)))))))
 rintro U4 L5 v6 W7 le8 hS9 ⟨rfl,rfl⟩
 have hS10:sW w U U4 [] W7:=hS9
 refine oR Z (Runs.geq Z Z Z) (oA Z Z (eN (zI ?_)))
 cases hm3
 exact ⟨Z,_,(zP Z),U4,_,hS10,Z,Z⟩
theorem wCm (p0:wAA) (p1:Int) (pb1:Nat) (w:World) (U:PHeap) (hS:St0 w U []) (ha0:Cl U pb1 0 [jV p1]) {r:Bool} (hm:wAj p0 p1=some r):Gv Tryz.prog 70 [.agg #[jV p0.Bib,jV p0.Time,jV p0.Gate],.pointer (some ⟨pb1,0,none⟩)] w (wCa w [] U (fun U_ L_ v=>v=.bool r/\L_=[])):=by
 unfold wAj at hm
 refine Gv.of Tryz.func70 rfl Tryz.ntmps70 Tryz.results70 rfl (sR (.fx 0 (.fl 1 (.nil)) .stop) rfl (OKS.box (cs:=[jV p0.Bib,jV p0.Time,jV p0.Gate]) rfl rfl rfl rfl rfl rfl (by rfl) hS ?_))
 intro W1 b2 hS3
 refine oA Z Z (eN (sR fL5 Z (oR Z (zV Z Z zJ Z zF) (oL Z (hS3.ldB (j:=0) Z Z Z zE (v:=jV p0.Time) Z) (oL Z (hS3.ldC (f:=0) ha0 (v:=jV p1) Z Z zE Z) (oR Z (Runs.gtr Z Z Z) (oA Z Z (eN (zI ?_)))))))))
 cases hm
 exact ⟨rfl,_,(zP rfl),U,_,(hS3.pick [] _ (by decide) rfl),rfl,rfl⟩
theorem wAH (p0:List wAA) (pA0:Option Addr) (pc0:Nat) (w:World) (U:PHeap) (hS:St0 w U []) (ha0:Sl U 3 pA0 pc0 p0.length (hH wAB p0)) {r:(List wAA)} (hm:wAE p0=some r):Gv Tryz.prog 65 [.slice pA0 p0.length pc0] w (wCa w [] U (fun U_ L_ v=>∃ (A0:Option Addr) (c0:Nat),v=.slice A0 r.length c0/\L_=[.row A0 c0 30 3 (hH wAB r)])):=by
 unfold wAE at hm
 refine Gv.of Tryz.func65 Z Tryz.ntmps65 Tryz.results65 Z (sR fL1 Z (oA Z Z (eN (zK (sR fL2 Z (oM Z Z (oR Z (Runs.eqNil Z Z Z zB) (eN ?_))))))))
 by_cases c1:pA0.isNone=true
 ·replace c1:=zO c1
  have hp2:p0=[]:=List.eq_nil_of_length_eq_zero (Sl.nilA (Option.isNone_iff_eq_none.1 c1.out ▸ ha0))
  have hm3:(some [])=some r:=by simpa [hp2,app] using hm
  refine zh (congrArg nB c1.out) (sR fL1 Z (oA Z Z (eN (zI (zL ?_)))))
  have hS4:=hS.nilrow 30 3
  cases hm3
  exact ⟨Z,_,(zP Z),U,_,hS4,none,0,Z,Z⟩
 ·replace c1:=zO c1
  refine zo (congrArg nB (nD.2 c1.out)) (kN (sR (.fx 0 (.fl 1 (.fx 2 (.fl 3 (.nil)) .stop)) .stop) Z (OKS.buildSlice0 3 Z Z Z Z Z zB zH hS ?_)))
  intro W6 b7 hS8
  have hS10:sW w U U [.row (some ⟨b7,0,none⟩) 0 30 3 (hH wAB ([]:List wAA))] W6:=hS8
  refine oM Z Z (bnK hm fun x11 h12 hm13=>zt (j:=0) (enc:=wAB) (xs:=([]:List wAA)) (ys:=p0) (zs:=x11) Z Z Z Z Z Tryz.underlying23 wKf Z Z Z Z Z Z hS10 Z Z Z (hS10.srcS ha0) (fun _=>Z) (fun _=>Z) h12 Z ?_)
  intro A14 c15 W16 hS17
  have hS18:sW w U U [.row A14 c15 30 3 (hH wAB x11)] W16:=hS17
  refine oA Z Z (eN (zI ?_))
  have hE:=nA hm13;first | subst r | cases hE
  exact ⟨Z,_,(zP Z),U,_,hS18,A14,c15,Z,Z⟩
theorem wAI (p0:List wAA) (pA0:Option Addr) (pc0:Nat) (p1:Int) (p2:List wAA) (pA2:Option Addr) (pc2:Nat) (w:World) (U:PHeap) (hS:St ⟨w,[.row pA0 pc0 30 3 (hH wAB p0),.row pA2 pc2 30 3 (hH wAB p2)],U⟩ U [.row pA0 pc0 30 3 (hH wAB p0),.row pA2 pc2 30 3 (hH wAB p2)] w) {r:List wAA} (hm:wAG p0 p1 p2=some r):Gv Tryz.prog 71 [.slice pA0 p0.length pc0,.int .i64 p1,.slice pA2 p2.length pc2] w (wCa w [.row pA0 pc0 30 3 (hH wAB p0),.row pA2 pc2 30 3 (hH wAB p2)] U (fun U_ L_ v=>∃ (A0:Option Addr) (c0:Nat),v=.slice A0 r.length c0/\L_=[.row A0 c0 30 3 (hH wAB r),.row pA2 pc2 30 3 (hH wAB p2)])) :=
 wIb (z:=.int .i64 0) (by_:=24) (fun _=>rfl) (by omega) (fun _=>rfl) rfl (by omega) (fun b n c i vb vc cs vs w h1 h2 h3 h4 h5 h6 h7 h8 h9 ha tA tB kA kB hb hc hd he hf hg=>Go.Proofs.insShift71 b n c i vb vc cs vs w h1 h2 h3 h4 h5 h6 h7 h8 h9 ha tA tB kA kB hb hc hd he hf hg) (fun b n c vb vc vs w h1 h2 h3 h4 h5 h6 h7=>Go.Proofs.insEndRoom71 b n c vb vc vs w h1 h2 h3 h4 h5 h6 h7) (fun base n c vb vc cs vs w h1 h2 h3 h4 h5 h6 h7 h8 h9=>Go.Proofs.insEndGrow71 base n c vb vc cs vs w h1 h2 h3 h4 h5 h6 h7 h8 h9) (fun b n c i vb vc cs vs w h1 h2 h3 h4 h5 h6 h7 h8 h9 ha=>Go.Proofs.insGrow71 b n c i vb vc cs vs w h1 h2 h3 h4 h5 h6 h7 h8 h9 ha) hS hm
theorem wCT (p0:List wAA) (pA0:Option Addr) (pc0:Nat) (p1:Int) (p2:Int) (w:World) (U:PHeap) (hS:St0 w U []) (ha0:Sl U 3 pA0 pc0 p0.length (hH wAB p0)) {r:(List wAA) × Int} (hm:wBB p0 p1 p2=some r):Gv Tryz.prog 16 [.slice pA0 p0.length pc0,jV p1,jV p2] w (wCa w [] U (fun U_ L_ v=>∃ (A0:Option Addr) (c0:Nat),v=.tuple #[.slice A0 r.1.length c0,jV r.2]/\L_=[.row A0 c0 30 3 (hH wAB r.1)])):=by
 unfold wBB at hm
 refine Gv.of Tryz.func16 rfl Tryz.ntmps16 Tryz.results16 rfl (sR (.fx 0 (.fl 1 (.fl 2 (.nil))) .stop) rfl (OKS.box (cs:=[jV p1]) rfl rfl rfl rfl rfl rfl (by rfl) hS ?_))
 intro W1 b2 hS3
 have q:=hS3.freeze (k:=0) rfl
 obtain ⟨U5,le6,hC7,hS8⟩:=q
 replace hC7:=Cl.of hC7
 have hS9:sW w U U5 [] W1:=hS8
 replace hC7:Cl U5 b2 0 [jV p1]:=hC7
 refine oA Z Z (oA Z Z (eN (CK.scope (sR (.fl 0 (.fx 1 (.fl 2 (.nil)) .stop)) Z (oM Z Z ?_)))))
 have h10:=ha0.le le6
 refine bnK hm fun x11 h12 hm13=>zC 0 Z Z Z Z (zD Z Z Tryz.call23 (zA Z zG) Z) hS9 (fun hs=>wBf p0 pA0 pc0 W1 U5 hs h10 h12) (.inr Z) ?_
 rintro U14 L15 v16 W17 le18 hS19 ⟨rfl,rfl⟩
 have hS20:sW w U U14 [] W17:=hS19
 refine oA Z Z (eN (zK (zi (sR fL3 Z (oM Z Z (oR Z (zz Z Z Z) (oA Z Z (eN (ifc hm13 ?_ ?_)))))))))
 ·intro c21 hm22
  refine zo (zf (fun h=>h c21.out)) (sR (.fl 0 (.fx 1 (wOX (.fx 5 (wNS (.nil)) .stop)) .stop)) Z ?_)
  have h23:=hC7.le le18
  refine oL Z (hS20.ldC (f:=0) h23 (v:=jV p1) Z Z zE Z) (bnK hm22 fun x24 h25 hm26=>zC 0 Z Z Z Z (zD Z Z Tryz.call60 (zA Z (zA Z (zA Z zG))) Z) hS20 (fun hs=>wCK p1 1 999 W17 U14 hs h25) (.inr Z) ?_)
  rintro U27 L28 v29 W30 le31 hS32 ⟨rfl,rfl⟩
  have hS33:sW w U U27 [] W30:=hS32
  refine oR Z (ZK Z Z) (oM Z Z (ifc hm26 ?_ ?_))
  ·intro c34 hm35
   refine zd Z Z Z (zN Z Z (nC c34.out)) Z Z (bnK hm35 fun x36 h37 hm38=>zC 0 Z Z Z (zN Z Z (nC c34.out)) (zD Z Z Tryz.call60 (zA Z (zA Z (zA Z zG))) Z) hS33 (fun hs=>wCK p2 1 360000 W30 U27 hs h37) (.inr Z) ?_)
   rintro U39 L40 v41 W42 le43 hS44 ⟨rfl,rfl⟩
   have hS45:sW w U U39 [] W42:=hS44
   refine ZD Z Z Z (zN Z Z (nC c34.out)) (fun _=>ZK Z Z) (oR Z (zU Z (nC c34.out) Z) (oA Z Z (eN (ifc hm38 ?_ ?_))))
   ·intro c46 hm47
    refine zo (nC c46.out) (sR (.fl 0 (.fl 1 (.fx 2 (.fl 3 (.nil)) .stop))) Z (oM Z Z (oR Z (Runs.mkf Z zG (zA Z zG)) ?_)))
    have h48:=h10.le le18
    have h49:=h48.le le31
    have h50:=h49.le le43
    have h51:=h23.le le31
    have h52:=h51.le le43
    have hF53:FnOK Tryz.prog U39 (.func (.func 69) #[] #[.pointer (some ⟨b2,0,none⟩)]) wLA wLB (fun x=>wBF x p1):=⟨69,[],[.pointer (some ⟨b2,0,none⟩)],rfl,Tryz.call69,fun U1 w1 x y vs le hs ha hm=>by obtain rfl:=ha;exact wEq x p1 b2 w1 U1 hs (h52.le le) hm⟩
    refine bnK hm47 fun x54 h55 hm56=>zC 0 Z Z Z Z (zD Z Z Tryz.call27 (zA Z (zA Z zG)) Z) hS45 (fun hs=>wAm p0 pA0 pc0 (fun x=>wBF x p1) (.func (.func 69) #[] #[.pointer (some ⟨b2,0,none⟩)]) W42 U39 hs h50 hF53 h55) (.inr Z) ?_
    rintro U57 L58 v59 W60 le61 hS62 ⟨rfl,rfl⟩
    have hS63:sW w U U57 [] W60:=hS62
    refine oA Z Z (eN (ifc hm56 ?_ ?_))
    ·intro c64 hm65
     refine zh (congrArg nB c64.out) (sR fL2 Z (oA Z Z (oA Z Z (eN (zI (zp (zL (wBW ?_))))))))
     have hS66:=hS63.nilrow 30 3
     cases hm65
     exact ⟨Z,_,(wHq Z Z),U57,_,hS66,none,0,Z,Z⟩
    ·intro c64 hm68
     refine zo (congrArg nB (nD.2 c64.out)) (sR fL4 Z (oM Z Z (oR Z (zn Z Z zB) (oR Z (ZA Z Z Z) (oA Z Z (eN (ifc hm68 ?_ ?_)))))))
     ·intro c69 hm70
      refine cT Z c69 (sR fL2 Z (oA Z Z (oA Z Z (eN (zI (zp (zL (wBW ?_))))))))
      have hS71:=hS63.nilrow 30 3
      cases hm70
      exact ⟨Z,_,(wHq Z Z),U57,_,hS71,none,0,Z,Z⟩
     ·intro c69 hm73
      refine cF Z c69 (CK.skip (zr (zM (sR (.fx 0 (.fx 1 (.nil) .stop) .stop) Z (OKS.alloc (cs:=[jV 0]) Z Z Z Z Z zq Z hS63 ?_)))))
      intro W74 b75 hS76
      refine OKS.st (j:=0) (vs:=[jV 0]) Z Z Z Z hS76 Z Z Z Z zF (zX Z) Z Z Z ?_
      intro W78 hS79
      have hS80:sW w U U57 [.blk b75 3 [jV 0]] W78:=hS79
      refine eN (zK (sR fL3 Z (oM Z Z (oR Z (zn Z Z zB) (oR Z (Runs.gtr Z Z Z) (eN (ifc hm73 ?_ ?_)))))))
      ·intro c81 hm82
       refine cT Z c81 (rR (wOU (.fx 4 (.nil) .stop)) Z (oM Z Z (bnK hm82 fun x83 h84 hm85=>?_)))
       have h86:=h50.le le61
       have q:=h86.el (fun _=>rfl) (wAv h84)
       obtain ⟨b87,off88,hA89,hC90⟩:=q
       refine oR Z (Runs.iaN Z Z hA89 Z zB zH (wCc h84)) (oR Z (zV Z Z zJ Z zF) (oL Z (hS80.ldC (f:=1) hC90 (v:=jV x83.Time) Z Z zE Z) (OKS.st (j:=0) (vs:=[jV x83.Time]) Z Z Z Z hS80 Z Z Z Z zF (zX Z) Z Z Z ?_)))
       intro W91 hS92
       have hS93:sW w U U57 [.blk b75 3 [jV x83.Time]] W91:=hS92
       refine eN (zK (CK.label (zM (bnK hm85 fun x94 hx96 hm97=>CK.cut (fun σ_ w_=>∃ (U_:PHeap),σ_ 0=.slice pA0 p0.length pc0/\σ_ 4=.pointer (some ⟨b2,0,none⟩)/\σ_ 9=.pointer (some ⟨b75,0,none⟩)/\PHeap.Le U57 U_/\sW w U U_ [.blk b75 3 [jV x94]] w_) ?_ ?_))))
       ·refine zi (CK.iter (fun x101 σ_ w_=>∃ (U_:PHeap),σ_ 0=.slice pA0 p0.length pc0/\σ_ 2=jV p2/\σ_ 4=.pointer (some ⟨b2,0,none⟩)/\σ_ 9=.pointer (some ⟨b75,0,none⟩)/\PHeap.Le U57 U_/\sW w U U_ [.blk b75 3 [jV x101]] w_) hx96 ?_ ?_)
        ·exact ⟨U57,Z,Z,Z,Z,(zZ _),hS93⟩
        ·rintro x101 xx104 σ102 W103 ⟨U109,f112,f113,f114,f115,le110,hS111⟩ hx105 hb106
         refine zi (zK (sR fL3 Z (oM Z f112 (oR Z (zn Z Z zB) (oM Z Z (eN (zi ?_)))))))
         have q:=wDg hx105
         obtain ⟨r118,hX119⟩:=q
         have q:=wDf hX119
         obtain ⟨hle120,hf121⟩:=q
         replace hle120:=zO hle120
         refine CK.forN (fun k117 _ σ_ w_=>∃ (U_:PHeap),σ_ 45=jV (↑k117:Int)/\σ_ 0=.slice pA0 p0.length pc0/\σ_ 2=jV p2/\σ_ 4=.pointer (some ⟨b2,0,none⟩)/\σ_ 9=.pointer (some ⟨b75,0,none⟩)/\σ_ 43=.slice pA0 p0.length pc0/\σ_ 44=jV (↑p0.length:Int)/\PHeap.Le U109 U_/\sW w U U_ [.blk b75 3 [jV x101]] w_) hf121 ?_ ?_ ?_
         ·exact ⟨U109,Z,f112,f113,f114,f115,Z,Z,(zZ _),hS111⟩
         ·rintro k117 ⟨⟩ xx124 σ122 W123 hk127 ⟨U129,fi128,f132,f133,f134,f135,f136,f137,le130,hS131⟩ hx125 hb126
          try dsimp only at hx125
          have c138:Hid ((↑k117:Int) < (↑p0.length:Int)):=zO (wDo hk127)
          replace hk127:=zO hk127
          have hi139:Hid (w64 ((↑k117:Int) + 1)=(↑(k117 + 1):Int)):=zO (by have h1:=hle120.out;have h2:=c138.out;rw [wBE] <;> omega)
          refine sR fL1 Z (oR Z (zl Z fi128 f137) (eN (zK (cT Z c138 (kN (zK (zi (sR (.fl 0 (.fl 1 (.fx 2 (.fx 3 (.nil) .stop) .stop))) Z (bnK hx125 fun x140 h141 hm142=>?_)))))))))
          have h143:=h86.le le110
          have h144:=h143.le le130
          have q:=h144.el (fun _=>rfl) (wAv h141)
          obtain ⟨b145,off146,hA147,hC148⟩:=q
          refine oR Z (Runs.iaN Z f136 hA147 fi128 zB zH (wCc h141)) (oL Z (hS131.ldCA (f:=0) hC148 Z Z ZI zH (us:=[jV x140.Bib,jV x140.Time,jV x140.Gate]) Z Z) (OKS.alloc (cs:=[jV 0,jV 0,jV 0]) Z Z Z Z Z zR Z hS131 ?_))
          intro W149 b150 hS151
          let B0:List Value:=[jV x140.Bib,jV x140.Time,jV x140.Gate]
          refine OKS.st (j:=0) (vs:=B0) Z Z Z Z hS151 Z Z Z Z zH (zX Z) Z Z Z ?_
          intro W153 hS154
          have hS155:sW w U U129 [.blk b150 30 B0,.blk b75 3 [jV x101]] W153:=hS154
          refine eN (sR fL4 Z (oR Z (zV Z Z zJ Z zF) (oL Z (hS155.ldB (j:=0) Z Z Z zE (v:=jV x140.Time) Z) (oL Z (hS155.ldB (j:=1) Z Z f135 zE (v:=jV x101) Z) (oR Z (ZA Z Z Z) (eN (ifc hm142 ?_ ?_)))))))
          ·intro c156 hm157
           refine cT Z c156 (sR (wGB (.fx 3 (.nil) .stop)) Z (oL Z (hS155.ldB (j:=1) Z Z f135 zE (v:=jV x101) Z) (oM Z f133 (oR Z (zg Z Z Z) (OKS.st (j:=1) (vs:=[jV (w64 (x101 + p2))]) Z Z Z Z hS155 Z f135 Z Z zF (zX Z) Z Z Z ?_)))))
           intro W158 hS159
           have hS160:sW w U U129 [.blk b150 30 B0,.blk b75 3 [jV (w64 (x101 + p2))]] W158:=hS159
           refine eN (ZF (wCL (zk ?_)))
           have q:=wBN hm157
           obtain ⟨v161,hm162,e163⟩:=q
           obtain rfl:=wFJ hx105 hX119 (hb126 v161 e163)
           refine zk (wCL (zk (zy ?_)))
           obtain rfl:=nA hm162
           exact zM ⟨rfl,_,rfl,⟨U129,f132,f133,f134,f135,(le110.trans le130),(hS160.pick [1] _ (by decide) rfl)⟩⟩
          ·intro c156 hm165
           refine cF Z c156 (CK.skip (zr (zM (rR fL2 Z (oR Z (Runs.to (zg Z fi128 Z) (congrArg (jV) hi139.out)) (oM Z Z (zu ?_)))))))
           obtain rfl:=nA hm165
           exact zM ⟨rfl,_,rfl,⟨U129,rfl,f132,f133,f134,f135,f136,f137,le130,(hS155.pick [1] _ (by decide) rfl)⟩⟩
         ·rintro ⟨⟩ σ166 W167 ⟨U170,fi169,f173,f174,f175,f176,f177,f178,le171,hS172⟩ hb168
          have hm179:=wFI hx105 hX119 hb168
          try dsimp only at hm179
          have c180:Hid (¬ ((↑(((↑p0.length:Int):Int) - 0).toNat:Int) < (↑p0.length:Int))):=zO (wCd)
          refine sR fL1 Z (oR Z (zl Z fi169 f178) (eN (zK (cF Z c180 (ZF (zk (zk (zy (zM (ZF (wCL ?_)))))))))))
          have q:=wBN hm179
          obtain ⟨v181,hm182,e183⟩:=q
          obtain rfl:=hb106 v181 e183
          refine zk (zy ?_)
          cases hm182
          exact zM ⟨Z,⟨U170,f173,f175,f176,(le110.trans le171),hS172⟩⟩
       ·rintro σ185 W186 ⟨U187,f190,f191,f192,le188,hS189⟩
        refine zK (sR fL2 Z (oL Z (hS189.ldB (j:=0) Z Z f192 zE (v:=jV x94) Z) (oR Z (Runs.gtr Z Z Z) (eN (ifc hm97 ?_ ?_)))))
        ·intro c193 hm194
         refine cT Z c193 (sR fL2 Z (oA Z Z (oA Z Z (eN (zI (zL (wBW ?_)))))))
         have hS195:=hS189.nilrow 30 3
         cases hm194
         exact ⟨rfl,_,(wHq rfl rfl),U187,_,(hS195.pick [0] _ (by decide) rfl),none,0,rfl,rfl⟩
        ·intro c193 hm197
         refine cF Z c193 (kN (sR (.fl 0 (.fl 1 (.fx 2 (.fl 3 (.nil)) .stop))) Z (oM Z f190 ?_)))
         have q:=hS189.freeze (k:=0) rfl
         obtain ⟨U198,le199,hC200,hS201⟩:=q
         replace hC200:=Cl.of hC200
         have hS202:sW w U U198 [] W186:=hS201
         replace hC200:Cl U198 b75 0 [jV x94]:=hC200
         refine oR Z (Runs.mkf Z zG (zA f192 zG)) ?_
         have h203:=h86.le le188
         have h204:=h203.le le199
         have hF205:FnOK Tryz.prog U198 (.func (.func 70) #[] #[.pointer (some ⟨b75,0,none⟩)]) wLA wLB (fun x=>wAj x x94):=⟨70,[],[.pointer (some ⟨b75,0,none⟩)],rfl,Tryz.call70,fun U1 w1 x y vs le hs ha hm=>by obtain rfl:=ha;exact wCm x x94 b75 w1 U1 hs (hC200.le le) hm⟩
         refine bnK hm197 fun x206 h207 hm208=>zC 0 Z Z Z Z (zD Z Z Tryz.call24 (zA Z (zA Z zG)) Z) hS202 (fun hs=>wAP p0 pA0 pc0 (fun x=>wAj x x94) (.func (.func 70) #[] #[.pointer (some ⟨b75,0,none⟩)]) W186 U198 hs h204 hF205 h207) (.inr Z) ?_
         rintro U209 L210 v211 W212 le213 hS214 ⟨rfl,rfl⟩
         have hS215:sW w U U209 [] W212:=hS214
         refine oA Z Z (eN (zK (sR fL2 Z (oM Z Z (oR Z (zl Z Z Z) (eN (ifc hm208 ?_ ?_)))))))
         ·intro c216 hm217
          refine cT Z c216 (rR fL3 Z (oM Z f190 (oR Z (zn Z Z zB) (oA Z Z (eN (bnK hm217 fun l218 hx222 hm223=>CK.cut (fun σ_ w_=>∃ (U_:PHeap) (A219:Option Addr) (c220:Nat),σ_ 6=.slice A219 l218.length c220/\σ_ 7=jV 0/\PHeap.Le U209 U_/\sW w U U_ [.row A219 c220 30 3 (hH wAB l218)] w_) ?_ ?_))))))
          ·refine bnK hx222 fun x230 h231 hm262=>bnK hm262 fun x248 h249 hm263=>ZJ ZG [3,2,3,1,1,3,2,0,3,3] (.fl 0 (wLf (.fx 1 (.fx 6 (.fx 7 (.fl 8 (.fl 9 (.nil))) (.stop)) (.stop)) (.fx 6 (.fx 1 (.fx 7 (.fl 8 (.fl 9 (.nil))) (.stop)) (.stop)) (.stop))))) (by kernel_rfl) ?_
           have hS264:=hS215.drew
           generalize hw_W265:({ W212 with drawn:=W212.drawn + 1 }:World)=W265 at hS264 ⊢
           refine oM Z f190 (oM Z Z ?_)
           have h266:=h52.le le61
           have h267:=h266.le le188
           have h268:=h267.le le199
           have h269:=h268.le le213
           refine oL Z (hS264.ldC (f:=0) h269 (v:=jV p1) Z f191 zE Z) ?_
           have h270:=hC200.le le213
           refine oL Z (hS264.ldC (f:=0) h270 (v:=jV x94) Z f192 zE Z) ?_
           let B1:List Value:=[jV p1,jV x94,jV 0]
           let B2:List Value:=[jV 0,jV 0,jV 0]
           refine oR Z (Runs.build (pv:=[(0,jV p1),(1,jV x94)]) (z:=B2) (cs:=B1) Z (wAV Z (wAV Z wAy)) zR wDb Z Z) (OKS.both ?_ ?_)
           ·have h271:=h204.le le213
            refine zC 0 Z Z Z Z (zD Z Z ZH (zA Z zG) Z) hS264 (fun hs=>wAH p0 pA0 pc0 W265 U209 hs h271 h231) (.inr Z) ?_
            rintro U273 L274 v275 W276 le277 hS278 ⟨A279,c280,rfl,rfl⟩
            let B3:Res:=.row A279 c280 30 3 (hH wAB x230)
            have hS282:sW w U U273 [B3] W276:=hS278
            refine zY (pv:=[(0,.agg B1.toArray)]) (zs:=B2) (cs:=B1) Z Z Z Z Z (wAV Z wAy) zB zH zR Z Z Z Z Z hS282 ?_
            intro W283 b284 hS285
            let B4:Res:=.row (some ⟨b284,0,none⟩) 1 30 3 (hH wAB [(⟨p1,x94,0⟩:wAA)])
            have hS287:sW w U U273 [B4,B3] W283:=hS285
            have hS289:sW w U U273 [B3,B4] W283:=hS287.pick [1,0] _ (by decide) rfl
            refine zC 2 Z Z Z Z (zD Z Z Tryz.call71 (zA Z (zA Z (zA Z zG))) Z) hS289 (fun hs=>wAI x230 A279 c280 (↑p0.length:Int) [(⟨p1,x94,0⟩:wAA)] (some ⟨b284,0,none⟩) 1 W283 U273 hs h249) (.inl Z) ?_
            rintro U290 L291 v292 W293 le294 hS295 ⟨A296,c297,rfl,rfl⟩
            have hS299:sW w U U290 [.row A296 c297 30 3 (hH wAB x248),B4] W293:=hS295
            refine oA Z Z (oA Z Z (zu ?_))
            cases hm263
            exact zM ⟨rfl,⟨U290,A296,c297,rfl,rfl,(le277.trans le294),(hS299.pick [0] _ (by decide) rfl)⟩⟩
           ·refine zY (pv:=[(0,.agg B1.toArray)]) (zs:=B2) (cs:=B1) Z Z Z Z Z (wAV Z wAy) zB zH zR Z Z Z Z Z hS264 ?_
            intro W303 b304 hS305
            let B5:Res:=.row (some ⟨b304,0,none⟩) 1 30 3 (hH wAB [(⟨p1,x94,0⟩:wAA)])
            have hS307:sW w U U209 [B5] W303:=hS305
            have h308:=h204.le le213
            refine zC 0 Z Z Z Z (zD Z Z ZH (zA Z zG) Z) hS307 (fun hs=>wAH p0 pA0 pc0 W303 U209 hs h308 h231) (.inr Z) ?_
            rintro U310 L311 v312 W313 le314 hS315 ⟨A316,c317,rfl,rfl⟩
            have hS319:sW w U U310 [.row A316 c317 30 3 (hH wAB x230),B5] W313:=hS315
            refine zC 2 Z Z Z Z (zD Z Z Tryz.call71 (zA Z (zA Z (zA Z zG))) Z) hS319 (fun hs=>wAI x230 A316 c317 (↑p0.length:Int) [(⟨p1,x94,0⟩:wAA)] (some ⟨b304,0,none⟩) 1 W313 U310 hs h249) (.inl Z) ?_
            rintro U321 L322 v323 W324 le325 hS326 ⟨A327,c328,rfl,rfl⟩
            have hS330:sW w U U321 [.row A327 c328 30 3 (hH wAB x248),B5] W324:=hS326
            refine oA Z Z (oA Z Z (zu ?_))
            cases hm263
            exact zM ⟨rfl,⟨U321,A327,c328,rfl,rfl,(le314.trans le325),(hS330.pick [0] _ (by decide) rfl)⟩⟩
          ·rintro σ334 W335 ⟨U336,A219,c220,f339,f340,le337,hS338⟩
           refine zI (wBW ?_)
           cases hm223
           exact ⟨Z,_,(wHq f339 f340),U336,_,hS338,A219,c220,Z,Z⟩
         ·intro c216 hm341
          refine cF Z c216 (kN (bnK hm341 fun l342 hx346 hm347=>CK.cut (fun σ_ w_=>∃ (U_:PHeap) (A343:Option Addr) (c344:Nat),σ_ 6=.slice A343 l342.length c344/\σ_ 7=jV 0/\PHeap.Le U209 U_/\sW w U U_ [.row A343 c344 30 3 (hH wAB l342)] w_) ?_ ?_))
          ·refine bnK hx346 fun x354 h355 hm386=>bnK hm386 fun x372 h373 hm387=>ZJ ZG [3,2,3,1,1,3,2,0,3,3] (.fl 0 (wLf (.fx 1 (.fx 6 (.fx 7 (.fl 8 (.fl 9 (.nil))) (.stop)) (.stop)) (.fx 6 (.fx 1 (.fx 7 (.fl 8 (.fl 9 (.nil))) (.stop)) (.stop)) (.stop))))) (by kernel_rfl) ?_
           have hS388:=hS215.drew
           generalize hw_W389:({ W212 with drawn:=W212.drawn + 1 }:World)=W389 at hS388 ⊢
           refine oM Z f190 (oM Z Z ?_)
           have h390:=h52.le le61
           have h391:=h390.le le188
           have h392:=h391.le le199
           have h393:=h392.le le213
           refine oL Z (hS388.ldC (f:=0) h393 (v:=jV p1) Z f191 zE Z) ?_
           have h394:=hC200.le le213
           refine oL Z (hS388.ldC (f:=0) h394 (v:=jV x94) Z f192 zE Z) ?_
           let B6:List Value:=[jV p1,jV x94,jV 0]
           let B7:List Value:=[jV 0,jV 0,jV 0]
           refine oR Z (Runs.build (pv:=[(0,jV p1),(1,jV x94)]) (z:=B7) (cs:=B6) Z (wAV Z (wAV Z wAy)) zR wDb Z Z) (OKS.both ?_ ?_)
           ·have h395:=h204.le le213
            refine zC 0 Z Z Z Z (zD Z Z ZH (zA Z zG) Z) hS388 (fun hs=>wAH p0 pA0 pc0 W389 U209 hs h395 h355) (.inr Z) ?_
            rintro U397 L398 v399 W400 le401 hS402 ⟨A403,c404,rfl,rfl⟩
            let B8:Res:=.row A403 c404 30 3 (hH wAB x354)
            have hS406:sW w U U397 [B8] W400:=hS402
            refine zY (pv:=[(0,.agg B6.toArray)]) (zs:=B7) (cs:=B6) Z Z Z Z Z (wAV Z wAy) zB zH zR Z Z Z Z Z hS406 ?_
            intro W407 b408 hS409
            let B9:Res:=.row (some ⟨b408,0,none⟩) 1 30 3 (hH wAB [(⟨p1,x94,0⟩:wAA)])
            have hS411:sW w U U397 [B9,B8] W407:=hS409
            have hS413:sW w U U397 [B8,B9] W407:=hS411.pick [1,0] _ (by decide) rfl
            refine zC 2 Z Z Z Z (zD Z Z Tryz.call71 (zA Z (zA Z (zA Z zG))) Z) hS413 (fun hs=>wAI x354 A403 c404 x206 [(⟨p1,x94,0⟩:wAA)] (some ⟨b408,0,none⟩) 1 W407 U397 hs h373) (.inl Z) ?_
            rintro U414 L415 v416 W417 le418 hS419 ⟨A420,c421,rfl,rfl⟩
            have hS423:sW w U U414 [.row A420 c421 30 3 (hH wAB x372),B9] W417:=hS419
            refine oA Z Z (oA Z Z (zu ?_))
            cases hm387
            exact zM ⟨rfl,⟨U414,A420,c421,rfl,rfl,(le401.trans le418),(hS423.pick [0] _ (by decide) rfl)⟩⟩
           ·refine zY (pv:=[(0,.agg B6.toArray)]) (zs:=B7) (cs:=B6) Z Z Z Z Z (wAV Z wAy) zB zH zR Z Z Z Z Z hS388 ?_
            intro W427 b428 hS429
            let B10:Res:=.row (some ⟨b428,0,none⟩) 1 30 3 (hH wAB [(⟨p1,x94,0⟩:wAA)])
            have hS431:sW w U U209 [B10] W427:=hS429
            have h432:=h204.le le213
            refine zC 0 Z Z Z Z (zD Z Z ZH (zA Z zG) Z) hS431 (fun hs=>wAH p0 pA0 pc0 W427 U209 hs h432 h355) (.inr Z) ?_
            rintro U434 L435 v436 W437 le438 hS439 ⟨A440,c441,rfl,rfl⟩
            have hS443:sW w U U434 [.row A440 c441 30 3 (hH wAB x354),B10] W437:=hS439
            refine zC 2 Z Z Z Z (zD Z Z Tryz.call71 (zA Z (zA Z (zA Z zG))) Z) hS443 (fun hs=>wAI x354 A440 c441 x206 [(⟨p1,x94,0⟩:wAA)] (some ⟨b428,0,none⟩) 1 W437 U434 hs h373) (.inl Z) ?_
            rintro U445 L446 v447 W448 le449 hS450 ⟨A451,c452,rfl,rfl⟩
            have hS454:sW w U U445 [.row A451 c452 30 3 (hH wAB x372),B10] W448:=hS450
            refine oA Z Z (oA Z Z (zu ?_))
            cases hm387
            exact zM ⟨rfl,⟨U445,A451,c452,rfl,rfl,(le438.trans le449),(hS454.pick [0] _ (by decide) rfl)⟩⟩
          ·rintro σ458 W459 ⟨U460,A343,c344,f463,f464,le461,hS462⟩
           refine zI (wBW ?_)
           cases hm347
           exact ⟨Z,_,(wHq f463 f464),U460,_,hS462,A343,c344,Z,Z⟩
      ·intro c81 hm465
       refine cF Z c81 (kN (zK (CK.label (zM (bnK hm465 fun x466 hx468 hm469=>CK.cut (fun σ_ w_=>∃ (U_:PHeap),σ_ 0=.slice pA0 p0.length pc0/\σ_ 4=.pointer (some ⟨b2,0,none⟩)/\σ_ 9=.pointer (some ⟨b75,0,none⟩)/\PHeap.Le U57 U_/\sW w U U_ [.blk b75 3 [jV x466]] w_) ?_ ?_)))))
       ·refine zi (CK.iter (fun x473 σ_ w_=>∃ (U_:PHeap),σ_ 0=.slice pA0 p0.length pc0/\σ_ 2=jV p2/\σ_ 4=.pointer (some ⟨b2,0,none⟩)/\σ_ 9=.pointer (some ⟨b75,0,none⟩)/\PHeap.Le U57 U_/\sW w U U_ [.blk b75 3 [jV x473]] w_) hx468 ?_ ?_)
        ·exact ⟨U57,Z,Z,Z,Z,(zZ _),hS80⟩
        ·rintro x473 xx476 σ474 W475 ⟨U481,f484,f485,f486,f487,le482,hS483⟩ hx477 hb478
         refine zi (zK (sR fL3 Z (oM Z f484 (oR Z (zn Z Z zB) (oM Z Z (eN (zi ?_)))))))
         have q:=wDg hx477
         obtain ⟨r490,hX491⟩:=q
         have q:=wDf hX491
         obtain ⟨hle492,hf493⟩:=q
         replace hle492:=zO hle492
         refine CK.forN (fun k489 _ σ_ w_=>∃ (U_:PHeap),σ_ 45=jV (↑k489:Int)/\σ_ 0=.slice pA0 p0.length pc0/\σ_ 2=jV p2/\σ_ 4=.pointer (some ⟨b2,0,none⟩)/\σ_ 9=.pointer (some ⟨b75,0,none⟩)/\σ_ 43=.slice pA0 p0.length pc0/\σ_ 44=jV (↑p0.length:Int)/\PHeap.Le U481 U_/\sW w U U_ [.blk b75 3 [jV x473]] w_) hf493 ?_ ?_ ?_
         ·exact ⟨U481,Z,f484,f485,f486,f487,Z,Z,(zZ _),hS483⟩
         ·rintro k489 ⟨⟩ xx496 σ494 W495 hk499 ⟨U501,fi500,f504,f505,f506,f507,f508,f509,le502,hS503⟩ hx497 hb498
          try dsimp only at hx497
          have c510:Hid ((↑k489:Int) < (↑p0.length:Int)):=zO (wDo hk499)
          replace hk499:=zO hk499
          have hi511:Hid (w64 ((↑k489:Int) + 1)=(↑(k489 + 1):Int)):=zO (by have h1:=hle492.out;have h2:=c510.out;rw [wBE] <;> omega)
          refine sR fL1 Z (oR Z (zl Z fi500 f509) (eN (zK (cT Z c510 (kN (zK (zi (sR (.fl 0 (.fl 1 (.fx 2 (.fx 3 (.nil) .stop) .stop))) Z (bnK hx497 fun x512 h513 hm514=>?_)))))))))
          have h515:=h50.le le61
          have h516:=h515.le le482
          have h517:=h516.le le502
          have q:=h517.el (fun _=>rfl) (wAv h513)
          obtain ⟨b518,off519,hA520,hC521⟩:=q
          refine oR Z (Runs.iaN Z f508 hA520 fi500 zB zH (wCc h513)) (oL Z (hS503.ldCA (f:=0) hC521 Z Z ZI zH (us:=[jV x512.Bib,jV x512.Time,jV x512.Gate]) Z Z) (OKS.alloc (cs:=[jV 0,jV 0,jV 0]) Z Z Z Z Z zR Z hS503 ?_))
          intro W522 b523 hS524
          let B11:List Value:=[jV x512.Bib,jV x512.Time,jV x512.Gate]
          refine OKS.st (j:=0) (vs:=B11) Z Z Z Z hS524 Z Z Z Z zH (zX Z) Z Z Z ?_
          intro W526 hS527
          have hS528:sW w U U501 [.blk b523 30 B11,.blk b75 3 [jV x473]] W526:=hS527
          refine eN (sR fL4 Z (oR Z (zV Z Z zJ Z zF) (oL Z (hS528.ldB (j:=0) Z Z Z zE (v:=jV x512.Time) Z) (oL Z (hS528.ldB (j:=1) Z Z f507 zE (v:=jV x473) Z) (oR Z (ZA Z Z Z) (eN (ifc hm514 ?_ ?_)))))))
          ·intro c529 hm530
           refine cT Z c529 (sR (wGB (.fx 3 (.nil) .stop)) Z (oL Z (hS528.ldB (j:=1) Z Z f507 zE (v:=jV x473) Z) (oM Z f505 (oR Z (zg Z Z Z) (OKS.st (j:=1) (vs:=[jV (w64 (x473 + p2))]) Z Z Z Z hS528 Z f507 Z Z zF (zX Z) Z Z Z ?_)))))
           intro W531 hS532
           have hS533:sW w U U501 [.blk b523 30 B11,.blk b75 3 [jV (w64 (x473 + p2))]] W531:=hS532
           refine eN (ZF (wCL (zk ?_)))
           have q:=wBN hm530
           obtain ⟨v534,hm535,e536⟩:=q
           obtain rfl:=wFJ hx477 hX491 (hb498 v534 e536)
           refine zk (wCL (zk (zy ?_)))
           obtain rfl:=nA hm535
           exact zM ⟨rfl,_,rfl,⟨U501,f504,f505,f506,f507,(le482.trans le502),(hS533.pick [1] _ (by decide) rfl)⟩⟩
          ·intro c529 hm538
           refine cF Z c529 (CK.skip (zr (zM (rR fL2 Z (oR Z (Runs.to (zg Z fi500 Z) (congrArg (jV) hi511.out)) (oM Z Z (zu ?_)))))))
           obtain rfl:=nA hm538
           exact zM ⟨rfl,_,rfl,⟨U501,rfl,f504,f505,f506,f507,f508,f509,le502,(hS528.pick [1] _ (by decide) rfl)⟩⟩
         ·rintro ⟨⟩ σ539 W540 ⟨U543,fi542,f546,f547,f548,f549,f550,f551,le544,hS545⟩ hb541
          have hm552:=wFI hx477 hX491 hb541
          try dsimp only at hm552
          have c553:Hid (¬ ((↑(((↑p0.length:Int):Int) - 0).toNat:Int) < (↑p0.length:Int))):=zO (wCd)
          refine sR fL1 Z (oR Z (zl Z fi542 f551) (eN (zK (cF Z c553 (ZF (zk (zk (zy (zM (ZF (wCL ?_)))))))))))
          have q:=wBN hm552
          obtain ⟨v554,hm555,e556⟩:=q
          obtain rfl:=hb478 v554 e556
          refine zk (zy ?_)
          cases hm555
          exact zM ⟨Z,⟨U543,f546,f548,f549,(le482.trans le544),hS545⟩⟩
       ·rintro σ558 W559 ⟨U560,f563,f564,f565,le561,hS562⟩
        refine zK (sR fL2 Z (oL Z (hS562.ldB (j:=0) Z Z f565 zE (v:=jV x466) Z) (oR Z (Runs.gtr Z Z Z) (eN (ifc hm469 ?_ ?_)))))
        ·intro c566 hm567
         refine cT Z c566 (sR fL2 Z (oA Z Z (oA Z Z (eN (zI (zL (wBW ?_)))))))
         have hS568:=hS562.nilrow 30 3
         cases hm567
         exact ⟨rfl,_,(wHq rfl rfl),U560,_,(hS568.pick [0] _ (by decide) rfl),none,0,rfl,rfl⟩
        ·intro c566 hm570
         refine cF Z c566 (kN (sR (.fl 0 (.fl 1 (.fx 2 (.fl 3 (.nil)) .stop))) Z (oM Z f563 ?_)))
         have q:=hS562.freeze (k:=0) rfl
         obtain ⟨U571,le572,hC573,hS574⟩:=q
         replace hC573:=Cl.of hC573
         have hS575:sW w U U571 [] W559:=hS574
         replace hC573:Cl U571 b75 0 [jV x466]:=hC573
         refine oR Z (Runs.mkf Z zG (zA f565 zG)) ?_
         have h576:=h50.le le61
         have h577:=h576.le le561
         have h578:=h577.le le572
         have hF579:FnOK Tryz.prog U571 (.func (.func 70) #[] #[.pointer (some ⟨b75,0,none⟩)]) wLA wLB (fun x=>wAj x x466):=⟨70,[],[.pointer (some ⟨b75,0,none⟩)],rfl,Tryz.call70,fun U1 w1 x y vs le hs ha hm=>by obtain rfl:=ha;exact wCm x x466 b75 w1 U1 hs (hC573.le le) hm⟩
         refine bnK hm570 fun x580 h581 hm582=>zC 0 Z Z Z Z (zD Z Z Tryz.call24 (zA Z (zA Z zG)) Z) hS575 (fun hs=>wAP p0 pA0 pc0 (fun x=>wAj x x466) (.func (.func 70) #[] #[.pointer (some ⟨b75,0,none⟩)]) W559 U571 hs h578 hF579 h581) (.inr Z) ?_
         rintro U583 L584 v585 W586 le587 hS588 ⟨rfl,rfl⟩
         have hS589:sW w U U583 [] W586:=hS588
         refine oA Z Z (eN (zK (sR fL2 Z (oM Z Z (oR Z (zl Z Z Z) (eN (ifc hm582 ?_ ?_)))))))
         ·intro c590 hm591
          refine cT Z c590 (rR fL3 Z (oM Z f563 (oR Z (zn Z Z zB) (oA Z Z (eN (bnK hm591 fun l592 hx596 hm597=>CK.cut (fun σ_ w_=>∃ (U_:PHeap) (A593:Option Addr) (c594:Nat),σ_ 6=.slice A593 l592.length c594/\σ_ 7=jV 0/\PHeap.Le U583 U_/\sW w U U_ [.row A593 c594 30 3 (hH wAB l592)] w_) ?_ ?_))))))
          ·refine bnK hx596 fun x604 h605 hm636=>bnK hm636 fun x622 h623 hm637=>ZJ ZG [3,2,3,1,1,3,2,0,3,3] (.fl 0 (wLf (.fx 1 (.fx 6 (.fx 7 (.fl 8 (.fl 9 (.nil))) (.stop)) (.stop)) (.fx 6 (.fx 1 (.fx 7 (.fl 8 (.fl 9 (.nil))) (.stop)) (.stop)) (.stop))))) (by kernel_rfl) ?_
           have hS638:=hS589.drew
           generalize hw_W639:({ W586 with drawn:=W586.drawn + 1 }:World)=W639 at hS638 ⊢
           refine oM Z f563 (oM Z Z ?_)
           have h640:=h52.le le61
           have h641:=h640.le le561
           have h642:=h641.le le572
           have h643:=h642.le le587
           refine oL Z (hS638.ldC (f:=0) h643 (v:=jV p1) Z f564 zE Z) ?_
           have h644:=hC573.le le587
           refine oL Z (hS638.ldC (f:=0) h644 (v:=jV x466) Z f565 zE Z) ?_
           let B12:List Value:=[jV p1,jV x466,jV 0]
           let B13:List Value:=[jV 0,jV 0,jV 0]
           refine oR Z (Runs.build (pv:=[(0,jV p1),(1,jV x466)]) (z:=B13) (cs:=B12) Z (wAV Z (wAV Z wAy)) zR wDb Z Z) (OKS.both ?_ ?_)
           ·have h645:=h578.le le587
            refine zC 0 Z Z Z Z (zD Z Z ZH (zA Z zG) Z) hS638 (fun hs=>wAH p0 pA0 pc0 W639 U583 hs h645 h605) (.inr Z) ?_
            rintro U647 L648 v649 W650 le651 hS652 ⟨A653,c654,rfl,rfl⟩
            let B14:Res:=.row A653 c654 30 3 (hH wAB x604)
            have hS656:sW w U U647 [B14] W650:=hS652
            refine zY (pv:=[(0,.agg B12.toArray)]) (zs:=B13) (cs:=B12) Z Z Z Z Z (wAV Z wAy) zB zH zR Z Z Z Z Z hS656 ?_
            intro W657 b658 hS659
            let B15:Res:=.row (some ⟨b658,0,none⟩) 1 30 3 (hH wAB [(⟨p1,x466,0⟩:wAA)])
            have hS661:sW w U U647 [B15,B14] W657:=hS659
            have hS663:sW w U U647 [B14,B15] W657:=hS661.pick [1,0] _ (by decide) rfl
            refine zC 2 Z Z Z Z (zD Z Z Tryz.call71 (zA Z (zA Z (zA Z zG))) Z) hS663 (fun hs=>wAI x604 A653 c654 (↑p0.length:Int) [(⟨p1,x466,0⟩:wAA)] (some ⟨b658,0,none⟩) 1 W657 U647 hs h623) (.inl Z) ?_
            rintro U664 L665 v666 W667 le668 hS669 ⟨A670,c671,rfl,rfl⟩
            have hS673:sW w U U664 [.row A670 c671 30 3 (hH wAB x622),B15] W667:=hS669
            refine oA Z Z (oA Z Z (zu ?_))
            cases hm637
            exact zM ⟨rfl,⟨U664,A670,c671,rfl,rfl,(le651.trans le668),(hS673.pick [0] _ (by decide) rfl)⟩⟩
           ·refine zY (pv:=[(0,.agg B12.toArray)]) (zs:=B13) (cs:=B12) Z Z Z Z Z (wAV Z wAy) zB zH zR Z Z Z Z Z hS638 ?_
            intro W677 b678 hS679
            let B16:Res:=.row (some ⟨b678,0,none⟩) 1 30 3 (hH wAB [(⟨p1,x466,0⟩:wAA)])
            have hS681:sW w U U583 [B16] W677:=hS679
            have h682:=h578.le le587
            refine zC 0 Z Z Z Z (zD Z Z ZH (zA Z zG) Z) hS681 (fun hs=>wAH p0 pA0 pc0 W677 U583 hs h682 h605) (.inr Z) ?_
            rintro U684 L685 v686 W687 le688 hS689 ⟨A690,c691,rfl,rfl⟩
            have hS693:sW w U U684 [.row A690 c691 30 3 (hH wAB x604),B16] W687:=hS689
            refine zC 2 Z Z Z Z (zD Z Z Tryz.call71 (zA Z (zA Z (zA Z zG))) Z) hS693 (fun hs=>wAI x604 A690 c691 (↑p0.length:Int) [(⟨p1,x466,0⟩:wAA)] (some ⟨b678,0,none⟩) 1 W687 U684 hs h623) (.inl Z) ?_
            rintro U695 L696 v697 W698 le699 hS700 ⟨A701,c702,rfl,rfl⟩
            have hS704:sW w U U695 [.row A701 c702 30 3 (hH wAB x622),B16] W698:=hS700
            refine oA Z Z (oA Z Z (zu ?_))
            cases hm637
            exact zM ⟨rfl,⟨U695,A701,c702,rfl,rfl,(le688.trans le699),(hS704.pick [0] _ (by decide) rfl)⟩⟩
          ·rintro σ708 W709 ⟨U710,A593,c594,f713,f714,le711,hS712⟩
           refine zI (wBW ?_)
           cases hm597
           exact ⟨Z,_,(wHq f713 f714),U710,_,hS712,A593,c594,Z,Z⟩
         ·intro c590 hm715
          refine cF Z c590 (kN (bnK hm715 fun l716 hx720 hm721=>CK.cut (fun σ_ w_=>∃ (U_:PHeap) (A717:Option Addr) (c718:Nat),σ_ 6=.slice A717 l716.length c718/\σ_ 7=jV 0/\PHeap.Le U583 U_/\sW w U U_ [.row A717 c718 30 3 (hH wAB l716)] w_) ?_ ?_))
          ·refine bnK hx720 fun x728 h729 hm760=>bnK hm760 fun x746 h747 hm761=>ZJ ZG [3,2,3,1,1,3,2,0,3,3] (.fl 0 (wLf (.fx 1 (.fx 6 (.fx 7 (.fl 8 (.fl 9 (.nil))) (.stop)) (.stop)) (.fx 6 (.fx 1 (.fx 7 (.fl 8 (.fl 9 (.nil))) (.stop)) (.stop)) (.stop))))) (by kernel_rfl) ?_
           have hS762:=hS589.drew
           generalize hw_W763:({ W586 with drawn:=W586.drawn + 1 }:World)=W763 at hS762 ⊢
           refine oM Z f563 (oM Z Z ?_)
           have h764:=h52.le le61
           have h765:=h764.le le561
           have h766:=h765.le le572
           have h767:=h766.le le587
           refine oL Z (hS762.ldC (f:=0) h767 (v:=jV p1) Z f564 zE Z) ?_
           have h768:=hC573.le le587
           refine oL Z (hS762.ldC (f:=0) h768 (v:=jV x466) Z f565 zE Z) ?_
           let B17:List Value:=[jV p1,jV x466,jV 0]
           let B18:List Value:=[jV 0,jV 0,jV 0]
           refine oR Z (Runs.build (pv:=[(0,jV p1),(1,jV x466)]) (z:=B18) (cs:=B17) Z (wAV Z (wAV Z wAy)) zR wDb Z Z) (OKS.both ?_ ?_)
           ·have h769:=h578.le le587
            refine zC 0 Z Z Z Z (zD Z Z ZH (zA Z zG) Z) hS762 (fun hs=>wAH p0 pA0 pc0 W763 U583 hs h769 h729) (.inr Z) ?_
            rintro U771 L772 v773 W774 le775 hS776 ⟨A777,c778,rfl,rfl⟩
            let B19:Res:=.row A777 c778 30 3 (hH wAB x728)
            have hS780:sW w U U771 [B19] W774:=hS776
            refine zY (pv:=[(0,.agg B17.toArray)]) (zs:=B18) (cs:=B17) Z Z Z Z Z (wAV Z wAy) zB zH zR Z Z Z Z Z hS780 ?_
            intro W781 b782 hS783
            let B20:Res:=.row (some ⟨b782,0,none⟩) 1 30 3 (hH wAB [(⟨p1,x466,0⟩:wAA)])
            have hS785:sW w U U771 [B20,B19] W781:=hS783
            have hS787:sW w U U771 [B19,B20] W781:=hS785.pick [1,0] _ (by decide) rfl
            refine zC 2 Z Z Z Z (zD Z Z Tryz.call71 (zA Z (zA Z (zA Z zG))) Z) hS787 (fun hs=>wAI x728 A777 c778 x580 [(⟨p1,x466,0⟩:wAA)] (some ⟨b782,0,none⟩) 1 W781 U771 hs h747) (.inl Z) ?_
            rintro U788 L789 v790 W791 le792 hS793 ⟨A794,c795,rfl,rfl⟩
            have hS797:sW w U U788 [.row A794 c795 30 3 (hH wAB x746),B20] W791:=hS793
            refine oA Z Z (oA Z Z (zu ?_))
            cases hm761
            exact zM ⟨rfl,⟨U788,A794,c795,rfl,rfl,(le775.trans le792),(hS797.pick [0] _ (by decide) rfl)⟩⟩
           ·refine zY (pv:=[(0,.agg B17.toArray)]) (zs:=B18) (cs:=B17) Z Z Z Z Z (wAV Z wAy) zB zH zR Z Z Z Z Z hS762 ?_
            intro W801 b802 hS803
            let B21:Res:=.row (some ⟨b802,0,none⟩) 1 30 3 (hH wAB [(⟨p1,x466,0⟩:wAA)])
            have hS805:sW w U U583 [B21] W801:=hS803
            have h806:=h578.le le587
            refine zC 0 Z Z Z Z (zD Z Z ZH (zA Z zG) Z) hS805 (fun hs=>wAH p0 pA0 pc0 W801 U583 hs h806 h729) (.inr Z) ?_
            rintro U808 L809 v810 W811 le812 hS813 ⟨A814,c815,rfl,rfl⟩
            have hS817:sW w U U808 [.row A814 c815 30 3 (hH wAB x728),B21] W811:=hS813
            refine zC 2 Z Z Z Z (zD Z Z Tryz.call71 (zA Z (zA Z (zA Z zG))) Z) hS817 (fun hs=>wAI x728 A814 c815 x580 [(⟨p1,x466,0⟩:wAA)] (some ⟨b802,0,none⟩) 1 W811 U808 hs h747) (.inl Z) ?_
            rintro U819 L820 v821 W822 le823 hS824 ⟨A825,c826,rfl,rfl⟩
            have hS828:sW w U U819 [.row A825 c826 30 3 (hH wAB x746),B21] W822:=hS824
            refine oA Z Z (oA Z Z (zu ?_))
            cases hm761
            exact zM ⟨rfl,⟨U819,A825,c826,rfl,rfl,(le812.trans le823),(hS828.pick [0] _ (by decide) rfl)⟩⟩
          ·rintro σ832 W833 ⟨U834,A717,c718,f837,f838,le835,hS836⟩
           refine zI (wBW ?_)
           cases hm721
           exact ⟨Z,_,(wHq f837 f838),U834,_,hS836,A717,c718,Z,Z⟩
   ·intro c46 hm839
    refine zh (nF (c46.out)) (sR fL2 Z (oA Z Z (oA Z Z (eN (zI (zp (zL (wBW ?_))))))))
    have hS840:=hS45.nilrow 30 3
    cases hm839
    exact ⟨Z,_,(wHq Z Z),U39,_,hS840,none,0,Z,Z⟩
  ·intro c34 hm842
   refine OKS.p Z Z Z (ze Z Z (nF (c34.out)) Z) (zw Z Z Z (ze Z Z (nF (c34.out)) Z) (OKS.p Z Z Z (ze Z Z (nF (c34.out)) Z) (oR Z (zQ Z (nF (c34.out)) Z) (oA Z Z (eN (zh Z (sR fL2 Z (oA Z Z (oA Z Z (eN (zI (zp (zL (wBW ?_))))))))))))))
   have hS843:=hS33.nilrow 30 3
   cases hm842
   exact ⟨Z,_,(wHq Z Z),U27,_,hS843,none,0,Z,Z⟩
 ·intro c21 hm845
  refine cT Z c21 (sR fL3 Z (oM Z Z (oA Z Z (oA Z Z (eN (zI (zp (zL (wBW ?_)))))))))
  have hS846:=hS20.nilrow 30 3
  cases hm845
  exact ⟨Z,_,(wHq Z Z),U14,_,hS846,none,0,Z,Z⟩
end Go.Proofs.YtapddcoodhijpaaGreat
namespace Go.Proofs.YtapddcoodhijpaaGreat
open Go.KL
set_option maxHeartbeats 4000000
theorem wDc (p0:wAA) (p1:Int) (pb1:Nat) (w:World) (U:PHeap) (hS:St0 w U []) (ha0:Cl U pb1 0 [jV p1]) {r:Bool} (hm:wAs p0 p1=some r):Gv Tryz.prog 64 [.agg #[jV p0.Bib,jV p0.Time,jV p0.Gate],.pointer (some ⟨pb1,0,none⟩)] w (wCa w [] U (fun U_ L_ v=>v=.bool r/\L_=[])):=by
 unfold wAs at hm
 refine Gv.of Tryz.func64 rfl Tryz.ntmps64 Tryz.results64 rfl (sR (.fx 0 (.fl 1 (.nil)) .stop) rfl (OKS.box (cs:=[jV p0.Bib,jV p0.Time,jV p0.Gate]) rfl rfl rfl rfl rfl rfl (by rfl) hS ?_))
 intro W1 b2 hS3
 refine oA Z Z (eN (sR fL5 Z (oR Z (zV Z Z zJ Z zF) (oL Z (hS3.ldB (j:=0) Z Z Z zE (v:=jV p0.Bib) Z) (oL Z (hS3.ldC (f:=0) ha0 (v:=jV p1) Z Z zE Z) (oR Z (ZA Z Z Z) (oA Z Z (eN (zI ?_)))))))))
 cases hm
 exact ⟨rfl,_,(zP rfl),U,_,(hS3.pick [] _ (by decide) rfl),rfl,rfl⟩
theorem wAa (p0:List wAA) (pA0:Option Addr) (pc0:Nat) (p1:Int) (p2:Int) (w:World) (U:PHeap) (hS:St ⟨w,[.row pA0 pc0 30 3 (hH wAB p0)],U⟩ U [.row pA0 pc0 30 3 (hH wAB p0)] w) {r:List wAA} (hm:wAL p0 p1 p2=some r):Gv Tryz.prog 29 [.slice pA0 p0.length pc0,.int .i64 p1,.int .i64 p2] w (wCa w [.row pA0 pc0 30 3 (hH wAB p0)] U (fun U_ L_ v=>∃ (A0:Option Addr) (c0:Nat),v=.slice A0 r.length c0/\L_=[.row A0 c0 30 3 (hH wAB r)])) :=
 wIa (z:=.int .i64 0) (fun _=>rfl) (by omega) (fun _=>rfl) rfl (fun b c n i j cs w h1 h2 h3 h4 h5 h6 h7 h8=>Go.Proofs.delCalls29 b c n i j cs w h1 h2 h3 h4 h5 h6 h7 h8) hS hm
theorem wBK (p0:List wAA) (pA0:Option Addr) (pc0:Nat) (p1:Int) (w:World) (U:PHeap) (hS:St0 w U []) (ha0:Sl U 3 pA0 pc0 p0.length (hH wAB p0)) {r:(List wAA) × Int} (hm:wAX p0 p1=some r):Gv Tryz.prog 13 [.slice pA0 p0.length pc0,jV p1] w (wCa w [] U (fun U_ L_ v=>∃ (A0:Option Addr) (c0:Nat),v=.tuple #[.slice A0 r.1.length c0,jV r.2]/\L_=[.row A0 c0 30 3 (hH wAB r.1)])):=by
 unfold wAX at hm
 refine Gv.of Tryz.func13 rfl Tryz.ntmps13 Tryz.results13 rfl (sR (.fx 0 (.fl 1 (.fl 2 (.nil))) .stop) rfl (OKS.box (cs:=[jV p1]) rfl rfl rfl rfl rfl rfl (by rfl) hS ?_))
 intro W1 b2 hS3
 have q:=hS3.freeze (k:=0) rfl
 obtain ⟨U5,le6,hC7,hS8⟩:=q
 replace hC7:=Cl.of hC7
 have hS9:sW w U U5 [] W1:=hS8
 replace hC7:Cl U5 b2 0 [jV p1]:=hC7
 refine oA Z Z (oA Z Z (eN (zK (sR (.fl 0 (.fx 1 (.fl 2 (.nil)) .stop)) Z (oM Z Z ?_)))))
 have h10:=ha0.le le6
 refine bnK hm fun x11 h12 hm13=>zC 0 Z Z Z Z (zD Z Z Tryz.call23 (zA Z zG) Z) hS9 (fun hs=>wBf p0 pA0 pc0 W1 U5 hs h10 h12) (.inr Z) ?_
 rintro U14 L15 v16 W17 le18 hS19 ⟨rfl,rfl⟩
 have hS20:sW w U U14 [] W17:=hS19
 refine oA Z Z (eN (sR fL2 Z (oM Z Z (oR Z (zz Z Z Z) (eN (ifc hm13 ?_ ?_))))))
 ·intro c21 hm22
  refine zo (zf (fun h=>h c21.out)) (kN (sR (.fl 0 (.fl 1 (.fx 2 (.fl 3 (.nil)) .stop))) Z (oM Z Z (oR Z (Runs.mkf Z zG (zA Z zG)) ?_))))
  have h23:=h10.le le18
  have h24:=hC7.le le18
  have hF25:FnOK Tryz.prog U14 (.func (.func 64) #[] #[.pointer (some ⟨b2,0,none⟩)]) wLA wLB (fun x=>wAs x p1):=⟨64,[],[.pointer (some ⟨b2,0,none⟩)],rfl,Tryz.call64,fun U1 w1 x y vs le hs ha hm=>by obtain rfl:=ha;exact wDc x p1 b2 w1 U1 hs (h24.le le) hm⟩
  refine bnK hm22 fun x26 h27 hm28=>zC 0 Z Z Z Z (zD Z Z Tryz.call24 (zA Z (zA Z zG)) Z) hS20 (fun hs=>wAP p0 pA0 pc0 (fun x=>wAs x p1) (.func (.func 64) #[] #[.pointer (some ⟨b2,0,none⟩)]) W17 U14 hs h23 hF25 h27) (.inr Z) ?_
  rintro U29 L30 v31 W32 le33 hS34 ⟨rfl,rfl⟩
  have hS35:sW w U U29 [] W32:=hS34
  refine oA Z Z (eN (zK (sR fL2 Z (oM Z Z (oR Z (zl Z Z Z) (eN (ifc hm28 ?_ ?_)))))))
  ·intro c36 hm37
   refine cT Z c36 (sR fL2 Z (oA Z Z (oA Z Z (eN (zI (zL ?_))))))
   have hS38:=hS35.nilrow 30 3
   cases hm37
   exact ⟨Z,_,(wHq Z Z),U29,_,hS38,none,0,Z,Z⟩
  ·intro c36 hm40
   refine cF Z c36 (kN (sR (.fl 0 (.fx 1 (wOX (.fx 5 (.fl 6 (.fl 7 (.nil))) .stop)) .stop)) Z (oM Z Z ?_)))
   have h41:=h23.le le33
   refine bnK hm40 fun x42 h43 hm44=>zC 0 Z Z Z Z (zD Z Z ZH (zA Z zG) Z) hS35 (fun hs=>wAH p0 pA0 pc0 W32 U29 hs h41 h43) (.inr Z) ?_
   rintro U45 L46 v47 W48 le49 hS50 ⟨A51,c52,rfl,rfl⟩
   have hS54:sW w U U45 [.row A51 c52 30 3 (hH wAB x42)] W48:=hS50
   refine oM Z Z (oM Z Z (oR Z (zg Z Z Z) (bnK hm44 fun x55 h56 hm57=>zC 1 Z Z Z Z (zD Z Z Tryz.call29 (zA Z (zA Z (zA Z zG))) Z) hS54 (fun hs=>wAa x42 A51 c52 x26 (w64 (x26 + 1)) W48 U45 hs h56) (.inl Z) ?_)))
   rintro U58 L59 v60 W61 le62 hS63 ⟨A64,c65,rfl,rfl⟩
   have hS67:sW w U U58 [.row A64 c65 30 3 (hH wAB x55)] W61:=hS63
   refine oA Z Z (oA Z Z (eN (zI ?_)))
   cases hm57
   exact ⟨Z,_,(wHq Z Z),U58,_,hS67,A64,c65,Z,Z⟩
 ·intro c21 hm68
  refine cT Z c21 (sR fL3 Z (oM Z Z (oA Z Z (oA Z Z (eN (zI (zL ?_)))))))
  have hS69:=hS20.nilrow 30 3
  cases hm68
  exact ⟨Z,_,(wHq Z Z),U14,_,hS69,none,0,Z,Z⟩
theorem wBl (p0:wAA) (p1:Int) (pb1:Nat) (w:World) (U:PHeap) (hS:St0 w U []) (ha0:Cl U pb1 0 [jV p1]) {r:Bool} (hm:wAT p0 p1=some r):Gv Tryz.prog 25 [.agg #[jV p0.Bib,jV p0.Time,jV p0.Gate],.pointer (some ⟨pb1,0,none⟩)] w (wCa w [] U (fun U_ L_ v=>v=.bool r/\L_=[])):=by
 unfold wAT at hm
 refine Gv.of Tryz.func25 rfl Tryz.ntmps25 Tryz.results25 rfl (sR (.fx 0 (.fl 1 (.nil)) .stop) rfl (OKS.box (cs:=[jV p0.Bib,jV p0.Time,jV p0.Gate]) rfl rfl rfl rfl rfl rfl (by rfl) hS ?_))
 intro W1 b2 hS3
 refine oA Z Z (eN (sR fL5 Z (oR Z (zV Z Z zJ Z zF) (oL Z (hS3.ldB (j:=0) Z Z Z zE (v:=jV p0.Bib) Z) (oL Z (hS3.ldC (f:=0) ha0 (v:=jV p1) Z Z zE Z) (oR Z (ZA Z Z Z) (oA Z Z (eN (zI ?_)))))))))
 cases hm
 exact ⟨rfl,_,(zP rfl),U,_,(hS3.pick [] _ (by decide) rfl),rfl,rfl⟩
theorem wAr (p0:List wAA) (pA0:Option Addr) (pc0:Nat) (p1:List wAA) (pA1:Option Addr) (pc1:Nat) (w:World) (U:PHeap) (hS:St0 w U []) (ha0:Sl U 3 pA0 pc0 p0.length (hH wAB p0)) (ha1:Sl U 3 pA1 pc1 p1.length (hH wAB p1)) {r:Bool} (hm:wAO p0 p1=some r):Gv Tryz.prog 19 [.slice pA0 p0.length pc0,.slice pA1 p1.length pc1] w (wCa w [] U (fun U_ L_ v=>v=.bool r/\L_=[])):=by
 unfold wAO at hm
 refine Gv.of Tryz.func19 Z Tryz.ntmps19 Tryz.results19 Z (sR fL1 Z (oA Z Z (eN (zK (sR fL5 Z (oM Z Z (oR Z (zn Z Z zB) (oM Z Z (oR Z (zn Z Z zB) (oR Z (zz Z Z Z) (eN ?_)))))))))))
 by_cases c1:(↑p0.length:Int)=(↑p1.length:Int)
 ·have hm2:=hm;rw [if_pos c1] at hm2;replace c1:=zO c1
  refine zo (zf (fun h=>h c1.out)) (kN (zK (sR fL3 Z (oM Z Z (oR Z (zn Z Z zB) (oM Z Z (eN (zi ?_))))))))
  have q:=wDg hm2
  obtain ⟨r5,hX6⟩:=q
  have q:=wDf hX6
  obtain ⟨hle7,hf8⟩:=q
  replace hle7:=zO hle7
  refine CK.forN (fun k4 _ σ_ w_=>∃ (U_:PHeap),σ_ 13=jV (↑k4:Int)/\σ_ 0=.slice pA0 p0.length pc0/\σ_ 1=.slice pA1 p1.length pc1/\σ_ 12=jV (↑p0.length:Int)/\PHeap.Le U U_/\sW w U U_ [] w_) hf8 ?_ ?_ ?_
  ·exact ⟨U,Z,Z,Z,Z,(zZ _),hS⟩
  ·rintro k4 ⟨⟩ xx11 σ9 W10 hk14 ⟨U16,fi15,f19,f20,f21,le17,hS18⟩ hx12 hb13
   try dsimp only at hx12
   have c22:Hid ((↑k4:Int) < (↑p0.length:Int)):=zO (wDo hk14)
   replace hk14:=zO hk14
   have hi23:Hid (w64 ((↑k4:Int) + 1)=(↑(k4 + 1):Int)):=zO (by have h1:=hle7.out;have h2:=c22.out;rw [wBE] <;> omega)
   refine sR fL1 rfl (ZD rfl rfl rfl rfl (fun _=>zl rfl fi15 f21) (eN (zK (cT Z c22 (kN (zK (zi (sR fL2 rfl (zd rfl rfl rfl rfl rfl fi15 (OKS.ra rfl rfl rfl rfl rfl rfl (eN (zK (ZJ ZG [3,3,3,1,3,3,3,1,3] fL9 (by kernel_rfl) ?_)))))))))))))
   have hS24:=hS18.drew
   generalize hw_W25:({ W10 with drawn:=W10.drawn + 1 }:World)=W25 at hS24 ⊢
   refine oM Z f19 (oM Z Z (bnK hx12 fun x26 h27 hm28=>?_))
   have h29:=ha0.le le17
   have q:=h29.el (fun _=>rfl) (wAv h27)
   obtain ⟨b30,off31,hA32,hC33⟩:=q
   refine oR Z (Runs.iaN Z Z hA32 Z zB zH (wCc h27)) (oL Z (hS24.ldCA (f:=0) hC33 Z Z ZI zH (us:=[jV x26.Bib,jV x26.Time,jV x26.Gate]) Z Z) (oM Z f20 (oM Z Z (bnK hm28 fun x34 h35 hm36=>?_))))
   have h37:=ha1.le le17
   have q:=h37.el (fun _=>rfl) (wAv h35)
   obtain ⟨b38,off39,hA40,hC41⟩:=q
   refine oR Z (Runs.iaN Z Z hA40 Z zB zH (wCc h35)) (oL Z (hS24.ldCA (f:=0) hC41 Z Z ZI zH (us:=[jV x34.Bib,jV x34.Time,jV x34.Gate]) Z Z) (oR Z (Runs.to (Runs.neS (enc:=wAB) (a:=x26) (b:=x34) Z Z Z eqT30 eqG30) (congrArg nB (decide_not).symm)) (eN (ifc hm36 ?_ ?_))))
   ·intro c42 hm43
    refine zo (zf (fun h=>h c42.out)) (CK.skip (zr (zM (rR fL2 Z (oR Z (Runs.to (zg Z fi15 Z) (congrArg (jV) hi23.out)) (oM Z Z (zu ?_)))))))
    obtain rfl:=nA hm43
    exact zM ⟨Z,_,Z,⟨U16,Z,f19,f20,f21,le17,hS24⟩⟩
   ·intro c42 hm44
    refine cT Z c42 (sR fL1 Z (oA Z Z (eN (zI (zp (zL ?_))))))
    have q:=wBN hm44
    obtain ⟨v45,hm46,e47⟩:=q
    obtain rfl:=wFJ hm2 hX6 (hb13 v45 e47)
    refine zL (zp (zL ?_))
    have hE:=nA hm46;first | subst r | cases hE
    exact ⟨Z,_,(zP Z),U16,_,hS24,Z,Z⟩
  ·rintro ⟨⟩ σ48 W49 ⟨U52,fi51,f55,f56,f57,le53,hS54⟩ hb50
   have hm58:=wFI hm2 hX6 hb50
   try dsimp only at hm58
   have c59:Hid (¬ ((↑(((↑p0.length:Int):Int) - 0).toNat:Int) < (↑p0.length:Int))):=zO (wCd)
   refine sR fL1 Z (oR Z (zl Z fi51 f57) (eN (zK (cF Z c59 (ZF (zk (zk (zy (zM (sR fL1 Z (oA Z Z (eN (zI ?_)))))))))))))
   have hE:=nA hm58;first | subst r | cases hE
   exact ⟨Z,_,(zP Z),U52,_,hS54,Z,Z⟩
 ·have hm60:=hm;rw [if_neg c1] at hm60;replace c1:=zO c1
  refine cT Z c1 (sR fL1 Z (oA Z Z (eN (zI (zL ?_)))))
  have hE:=nA hm60;first | subst r | cases hE
  exact ⟨Z,_,(zP Z),U,_,hS,Z,Z⟩
theorem wBg (p0:wAA) (p1:Int) (pb1:Nat) (w:World) (U:PHeap) (hS:St0 w U []) (ha0:Cl U pb1 0 [jV p1]) {r:Bool} (hm:wAR p0 p1=some r):Gv Tryz.prog 28 [.agg #[jV p0.Bib,jV p0.Time,jV p0.Gate],.pointer (some ⟨pb1,0,none⟩)] w (wCa w [] U (fun U_ L_ v=>v=.bool r/\L_=[])):=by
 unfold wAR at hm
 refine Gv.of Tryz.func28 rfl Tryz.ntmps28 Tryz.results28 rfl (sR (.fx 0 (.fl 1 (.nil)) .stop) rfl (OKS.box (cs:=[jV p0.Bib,jV p0.Time,jV p0.Gate]) rfl rfl rfl rfl rfl rfl (by rfl) hS ?_))
 intro W1 b2 hS3
 refine oA Z Z (eN (sR fL5 Z (oR Z (zV Z Z zJ Z zF) (oL Z (hS3.ldB (j:=0) Z Z Z zE (v:=jV p0.Time) Z) (oL Z (hS3.ldC (f:=0) ha0 (v:=jV p1) Z Z zE Z) (oR Z (ZA Z Z Z) (oA Z Z (eN (zI ?_)))))))))
 cases hm
 exact ⟨rfl,_,(zP rfl),U,_,(hS3.pick [] _ (by decide) rfl),rfl,rfl⟩
theorem wAk (p0:Int) (p1:List wAA) (pb1:Nat) (pA1:Option Addr) (pc1:Nat) (w:World) (U:PHeap) (hS:St0 w U []) (ha0:Cl U pb1 0 [.slice pA1 p1.length pc1]) (ha1:Sl U 3 pA1 pc1 p1.length (hH wAB p1)) {r:Bool} (hm:wAN p0 p1=some r):Gv Tryz.prog 26 [jV p0,.pointer (some ⟨pb1,0,none⟩)] w (wCa w [] U (fun U_ L_ v=>v=.bool r/\L_=[])):=by
 unfold wAN at hm
 refine Gv.of Tryz.func26 rfl Tryz.ntmps26 Tryz.results26 rfl (sR (.fx 0 (.fl 1 (.nil)) .stop) rfl (OKS.box (cs:=[jV p0]) rfl rfl rfl rfl rfl rfl (by rfl) hS ?_))
 intro W1 b2 hS3
 have q:=hS3.freeze (k:=0) rfl
 obtain ⟨U5,le6,hC7,hS8⟩:=q
 replace hC7:=Cl.of hC7
 have hS9:sW w U U5 [] W1:=hS8
 replace hC7:Cl U5 b2 0 [jV p0]:=hC7
 refine oA Z Z (eN (sR (.fl 0 (.fl 1 (.fx 2 (.fl 3 (.nil)) .stop))) Z ?_))
 have h10:=ha0.le le6
 refine oL Z (hS9.ldC (f:=0) h10 (v:=.slice pA1 p1.length pc1) Z Z zj Z) (oR Z (Runs.mkf Z zG (zA Z zG)) ?_)
 have h11:=ha1.le le6
 have hF12:FnOK Tryz.prog U5 (.func (.func 28) #[] #[.pointer (some ⟨b2,0,none⟩)]) wLA wLB (fun x=>wAR x p0):=⟨28,[],[.pointer (some ⟨b2,0,none⟩)],rfl,Tryz.call28,fun U1 w1 x y vs le hs ha hm=>by obtain rfl:=ha;exact wBg x p0 b2 w1 U1 hs (hC7.le le) hm⟩
 refine bnK hm fun x13 h14 hm15=>zC 0 Z Z Z Z (zD Z Z Tryz.call27 (zA Z (zA Z zG)) Z) hS9 (fun hs=>wAm p1 pA1 pc1 (fun x=>wAR x p0) (.func (.func 28) #[] #[.pointer (some ⟨b2,0,none⟩)]) W1 U5 hs h11 hF12 h14) (.inr Z) ?_
 rintro U16 L17 v18 W19 le20 hS21 ⟨rfl,rfl⟩
 have hS22:sW w U U16 [] W19:=hS21
 refine oA Z Z (eN (zI ?_))
 have hE:=nA hm15;first | subst r | cases hE
 exact ⟨Z,_,(zP Z),U16,_,hS22,Z,Z⟩
theorem wBD (w:World) (U:PHeap) (hS:St0 w U []) {r:Bool} (hm:wAe=some r):Gv Tryz.prog 6 [] w (wCa w [] U (fun U_ L_ v=>v=.bool r/\L_=[])):=by
 cases hm
 refine (xr6 w).mono ?_
 rintro v w' ⟨rfl,k⟩
 exact ⟨U,[],hS.grow k,Z,Z⟩
theorem wBI (p0:List wAA) (pA0:Option Addr) (pc0:Nat) (w:World) (U:PHeap) (hS:St0 w U []) (ha0:Sl U 3 pA0 pc0 p0.length (hH wAB p0)) {r:(List wAA)} (hm:wAQ p0=some r):Gv Tryz.prog 8 [.slice pA0 p0.length pc0] w (wCa w [] U (fun U_ L_ v=>∃ (A0:Option Addr) (c0:Nat),v=.slice A0 r.length c0/\L_=[.row A0 c0 30 3 (hH wAB r)])):=by
 unfold wAQ at hm
 refine Gv.of Tryz.func8 Z Tryz.ntmps8 Tryz.results8 Z (sR fL1 Z (oA Z Z (eN (sR (.fl 0 (.fx 1 (.fl 2 (.nil)) .stop)) Z (oM Z Z ?_)))))
 have hS1:=hS.nilrow 30 3
 have hS3:sW w U U [.row none 0 30 3 (hH wAB ([]:List wAA))] w:=hS1
 refine bnK hm fun x4 h5 hm6=>zt (j:=0) (enc:=wAB) (xs:=([]:List wAA)) (ys:=p0) (zs:=x4) Z Z Z Z Z Tryz.underlying23 wKf Z Z Z Z Z Z hS3 Z Z Z (hS3.srcS ha0) (fun _=>Z) (fun _=>Z) h5 Z ?_
 intro A7 c8 W9 hS10
 have hS11:sW w U U [.row A7 c8 30 3 (hH wAB x4)] W9:=hS10
 refine oA Z Z (eN (zI ?_))
 have hE:=nA hm6;first | subst r | cases hE
 exact ⟨Z,_,(zP Z),U,_,hS11,A7,c8,Z,Z⟩
theorem wBu (p0:List Int) (pA0:Option Addr) (pc0:Nat) (p1:Int) (p2:Int) (p3:Int) (w:World) (U:PHeap) (hS:St0 w U []) (ha0:Sl U 1 pA0 pc0 p0.length (hH KL.encB8 p0)) {r:Bool} (hm:wAo p0 p1 p2 p3=some r):Gv Tryz.prog 4 [.slice pA0 p0.length pc0,jV p1,jV p2,jV p3] w (wCa w [] U (fun U_ L_ v=>v=.bool r/\L_=[])):=by
 unfold wAo at hm
 refine Gv.of Tryz.func4 Z Tryz.ntmps4 Tryz.results4 Z (sR fL1 Z (oA Z Z (eN (sR (.fl 0 (.fx 1 (.fx 2 (.fx 3 (.fx 4 (.nil) .stop) .stop) .stop) .stop)) Z (oM Z Z (bnK hm fun x1 h2 hm3=>zC 0 Z Z Z Z (zD Z Z Tryz.call21 (zA Z zG) Z) hS (fun hs=>wEp p0 pA0 pc0 w U hs ha0 h2) (.inr Z) ?_))))))
 rintro U4 L5 v6 W7 le8 hS9 ⟨b10,A11,c12,rfl,rfl,h14⟩
 have hS15:sW w U U4 [.blk b10 143 [.slice A11 x1.bytes.length c12,jV x1.next,.int .u32 x1.state]] W7:=hS9
 have q:=bnd hm3
 obtain ⟨⟨x16,x17⟩,h18,hm19⟩:=q
 try dsimp only at hm19
 refine zC 1 Z Z Z Z (zD Z Z Tryz.call20 (zA Z (zA Z zG)) Z) hS15 (fun hs=>wCk x1 b10 A11 c12 24 W7 U4 hs h14 h18) (.inl Z) ?_
 rintro U20 L21 v22 W23 le24 hS25 ⟨A26,c27,A28,c29,rfl,rfl,h31⟩
 let B0:Res:=.blk b10 143 [.slice A28 x17.bytes.length c29,jV x17.next,.int .u32 x17.state]
 let B1:Res:=.row A26 c27 30 3 (hH wAB x16)
 have hS32:sW w U U20 [B1,B0] W23:=hS25
 refine OKS.alloc (cs:=[.slice none 0 0]) Z Z Z Z Z Tryz.zeroValue23 Z hS32 ?_
 intro W33 b34 hS35
 let B2:List Value:=[.slice A26 x16.length c27]
 refine OKS.st (j:=0) (vs:=B2) Z Z Z Z hS35 Z Z Z Z Tryz.sizeOf23 (zX Z) Z Z Z ?_
 intro W37 hS38
 have hS39:sW w U U20 [.blk b34 23 B2,B1,B0] W37:=hS38
 refine eN (sR (.fl 0 (.fx 1 (.fl 2 (.fl 3 (.fx 4 (.fl 5 (.fx 6 (.fl 7 (.fx 8 (.nil) .stop)) .stop)) .stop))) .stop)) Z (oM Z Z (bnK hm19 fun x40 h41 hm42=>zC 0 Z Z Z Z (zD Z Z Tryz.call22 (zA Z (zA Z zG)) Z) hS39 (fun hs=>wBR p2 50 W37 U20 hs h41) (.inr Z) ?_)))
 rintro U43 L44 v45 W46 le47 hS48 ⟨rfl,rfl⟩
 have hS49:sW w U U43 [.blk b34 23 B2,B1,B0] W46:=hS48
 refine oR Z (zg Z Z Z) (oM Z Z (bnK hm42 fun x50 h51 hm52=>zC 0 Z Z Z Z (zD Z Z Tryz.call22 (zA Z (zA Z zG)) Z) hS49 (fun hs=>wBR p3 200 W46 U43 hs h51) (.inr Z) ?_))
 rintro U53 L54 v55 W56 le57 hS58 ⟨rfl,rfl⟩
 have hS59:sW w U U53 [.blk b34 23 B2,B1,B0] W56:=hS58
 refine oR Z (zg Z Z Z) (OKS.alloc (cs:=[jV 0]) Z Z Z Z Z zq Z hS59 ?_)
 intro W60 b61 hS62
 refine oA Z Z ?_
 let B3:List Value:=[jV (w64 (x50 + 300))]
 refine OKS.st (j:=0) (vs:=B3) Z Z Z Z hS62 Z Z Z Z zF (zX Z) Z Z Z ?_
 intro W64 hS65
 have hS66:sW w U U53 [.blk b61 3 B3,.blk b34 23 B2,B1,B0] W64:=hS65
 refine eN (sR (wGB (.fx 3 (wNR (.nil)) .stop)) Z (oL Z (hS66.ldB (j:=1) Z Z Z zj (v:=.slice A26 x16.length c27) Z) (oL Z (hS66.ldB (j:=0) Z Z Z zE (v:=jV (w64 (x50 + 300))) Z) (oM Z Z ?_))))
 have q:=hS66.freezeR (k:=2) (n:=x16.length) rfl (wAJ (f:=wAB) (sz:=3) (fun _=>rfl) x16) (by decide)
 obtain ⟨U67,le68,hs69,hS70⟩:=q
 have hS71:sW w U U67 [.blk b61 3 B3,.blk b34 23 B2,B0] W64:=hS70
 have q:=bnd hm52
 obtain ⟨⟨x72,x73⟩,h74,hm75⟩:=q
 try dsimp only at hm75
 refine zC 0 Z Z Z Z (zD Z Z Tryz.call16 (zA Z (zA Z (zA Z zG))) Z) hS71 (fun hs=>wCT x16 A26 c27 (w64 (x50 + 300)) (w64 (x40 + 1)) W64 U67 hs hs69 h74) (.inr Z) ?_
 rintro U76 L77 v78 W79 le80 hS81 ⟨A82,c83,rfl,rfl⟩
 have hS85:sW w U U76 [.row A82 c83 30 3 (hH wAB x72),.blk b61 3 B3,.blk b34 23 B2,B0] W79:=hS81
 refine oM Z Z (oR Z (zx Z Z (v:=.slice A82 x72.length c83) Z) (oR Z (zx Z Z (v:=jV x73) Z) (oA Z Z (oA Z Z (eN (zK (sR (wOV (.fx 12 (.fl 13 (.fl 14 (.nil))) .stop)) Z (oM Z Z (oR Z (zz Z Z Z) (oM Z Z (ifc hm75 ?_ ?_)))))))))))
 ·intro c86 hm87
  refine zd Z Z Z (zN Z Z (zf (fun h=>h c86.out))) Z Z (ZD Z Z Z (zN Z Z (zf (fun h=>h c86.out))) (fun _=>zn Z Z zB) (OKS.m Z Z Z (zN Z Z (zf (fun h=>h c86.out))) (hS85.ldB (j:=2) Z Z Z zj (v:=.slice A26 x16.length c27) Z) Z (ZD Z Z Z (zN Z Z (zf (fun h=>h c86.out))) (fun _=>zn Z Z zB) (ZD Z Z Z (zN Z Z (zf (fun h=>h c86.out))) (fun _=>zg Z Z Z) (ZD Z Z Z (zN Z Z (zf (fun h=>h c86.out))) (fun _=>zz Z Z Z) (oR Z (zU Z (zf (fun h=>h c86.out)) Z) (oM Z Z (ifc hm87 ?_ ?_))))))))
  ·intro c88 hm89
   refine zd Z Z Z (zN Z Z (zf (fun h=>h c88.out))) Z Z ?_
   have q:=hS85.freezeR (k:=0) (n:=x72.length) rfl (wAJ (f:=wAB) (sz:=3) (fun _=>rfl) x72) (by decide)
   obtain ⟨U90,le91,hs92,hS93⟩:=q
   have hS94:sW w U U90 [.blk b61 3 B3,.blk b34 23 B2,B0] W79:=hS93
   refine bnK hm89 fun x95 h96 hm97=>zC 0 Z Z Z (zN Z Z (zf (fun h=>h c88.out))) (zD Z Z Tryz.call23 (zA Z zG) Z) hS94 (fun hs=>wBf x72 A82 c83 W79 U90 hs hs92 h96) (.inr Z) ?_
   rintro U98 L99 v100 W101 le102 hS103 ⟨rfl,rfl⟩
   have hS104:sW w U U98 [.blk b61 3 B3,.blk b34 23 B2,B0] W101:=hS103
   refine ZD Z Z Z (zN Z Z (zf (fun h=>h c88.out))) (fun _=>zz Z Z Z) (oR Z (zU Z (zf (fun h=>h c88.out)) Z) (eN (ifc hm97 ?_ ?_)))
   ·intro c105 hm106
    refine zo (zf (fun h=>h c105.out)) (kN (zK (CK.fresh fun σ107 hσ108=>?_)))
    have f109:σ107 1=jV p1:=(hσ108 1).trans rfl
    have f110:σ107 9=.pointer (some ⟨b34,0,none⟩):=(hσ108 9).trans rfl
    have f111:σ107 10=jV (w64 (x40 + 1)):=(hσ108 10).trans rfl
    have f112:σ107 11=.pointer (some ⟨b61,0,none⟩):=(hσ108 11).trans rfl
    have f113:σ107 12=.slice A82 x72.length c83:=(hσ108 12).trans rfl
    have f114:σ107 13=jV x73:=(hσ108 13).trans rfl
    clear hσ108
    refine rR (.fl 0 (.fl 1 (.fx 2 (fC3_7 (.nil)) .stop))) Z (oM Z f113 (oL Z (hS104.ldB (j:=0) Z Z f112 zE (v:=jV (w64 (x50 + 300))) Z) ?_))
    have h115:=hs92.le le102
    have q:=bnd hm106
    obtain ⟨⟨x116,x117⟩,h118,hm119⟩:=q
    try dsimp only at hm119
    refine zC 0 Z Z Z Z (zD Z Z Tryz.call13 (zA Z (zA Z zG)) Z) hS104 (fun hs=>wBK x72 A82 c83 (w64 (x50 + 300)) W101 U98 hs h115 h118) (.inr Z) ?_
    rintro U120 L121 v122 W123 le124 hS125 ⟨A126,c127,rfl,rfl⟩
    let B4:Res:=.row A126 c127 30 3 (hH wAB x116)
    have hS129:sW w U U120 [B4,.blk b61 3 B3,.blk b34 23 B2,B0] W123:=hS125
    refine oM Z Z (oR Z (zx Z Z (v:=.slice A126 x116.length c127) Z) (oR Z (zx Z Z (v:=jV x117) Z) (oA Z Z (oA Z Z (eN (sR (.fl 0 (.fl 1 (.fx 2 (.fl 3 (.nil)) .stop))) Z (oM Z f113 ?_)))))))
    have q:=hS129.freeze (k:=1) rfl
    obtain ⟨U130,le131,hC132,hS133⟩:=q
    replace hC132:=Cl.of hC132
    have hS134:sW w U U130 [B4,.blk b34 23 B2,B0] W123:=hS133
    replace hC132:Cl U130 b61 0 B3:=hC132
    refine oR Z (Runs.mkf Z zG (zA f112 zG)) ?_
    have h135:=h115.le le124
    have h136:=h135.le le131
    have hF137:FnOK Tryz.prog U130 (.func (.func 25) #[] #[.pointer (some ⟨b61,0,none⟩)]) wLA wLB (fun x=>wAT x (w64 (x50 + 300))):=⟨25,[],[.pointer (some ⟨b61,0,none⟩)],rfl,Tryz.call25,fun U1 w1 x y vs le hs ha hm=>by obtain rfl:=ha;exact wBl x (w64 (x50 + 300)) b61 w1 U1 hs (hC132.le le) hm⟩
    refine bnK hm119 fun x138 h139 hm140=>zC 0 Z Z Z Z (zD Z Z Tryz.call24 (zA Z (zA Z zG)) Z) hS134 (fun hs=>wAP x72 A82 c83 (fun x=>wAT x (w64 (x50 + 300))) (.func (.func 25) #[] #[.pointer (some ⟨b61,0,none⟩)]) W123 U130 hs h136 hF137 h139) (.inr Z) ?_
    rintro U141 L142 v143 W144 le145 hS146 ⟨rfl,rfl⟩
    have hS147:sW w U U141 [B4,.blk b34 23 B2,B0] W144:=hS146
    refine oA Z Z (eN (zK (sR (wLe (.fx 5 (wOa (.nil)) .stop)) Z (oM Z Z (oR Z (zz Z Z Z) (oM Z Z (ifc hm140 ?_ ?_)))))))
    ·intro c148 hm149
     refine zd Z Z Z (zN Z Z (zf (fun h=>h c148.out))) Z Z (OKS.m Z Z Z (zN Z Z (zf (fun h=>h c148.out))) (hS147.ldB (j:=1) Z Z f110 zj (v:=.slice A26 x16.length c27) Z) Z ?_)
     have q:=hS147.freezeR (k:=0) (n:=x116.length) rfl (wAJ (f:=wAB) (sz:=3) (fun _=>rfl) x116) (by decide)
     obtain ⟨U150,le151,hs152,hS153⟩:=q
     have hS154:sW w U U150 [.blk b34 23 B2,B0] W144:=hS153
     have h155:=hs69.le le80
     have h156:=h155.le le91
     have h157:=h156.le le102
     have h158:=h157.le le124
     have h159:=h158.le le131
     have h160:=h159.le le145
     have h161:=h160.le le151
     refine bnK hm149 fun x162 h163 hm164=>zC 0 Z Z Z (zN Z Z (zf (fun h=>h c148.out))) (zD Z Z Tryz.call19 (zA Z (zA Z zG)) Z) hS154 (fun hs=>wAr x116 A126 c127 x16 A26 c27 W144 U150 hs hs152 h161 h163) (.inr Z) ?_
     rintro U165 L166 v167 W168 le169 hS170 ⟨rfl,rfl⟩
     have hS171:sW w U U165 [.blk b34 23 B2,B0] W168:=hS170
     refine ZD Z Z Z (zN Z Z (zf (fun h=>h c148.out))) (fun _=>ZK Z Z) (oR Z (zU Z (zf (fun h=>h c148.out)) Z) (oM Z Z (ifc hm164 ?_ ?_)))
     ·intro c172 hm173
      refine zd Z Z Z (zN Z Z (nC c172.out)) Z Z (ZD Z Z Z (zN Z Z (nC c172.out)) (fun _=>zl Z Z Z) (oR Z (zU Z (nC c172.out) Z) (oM Z Z (ifc hm173 ?_ ?_))))
      ·intro c174 hm175
       refine oT Z c174 (oT Z c174 (oT Z c174 (oT Z c174 (oT Z c174 (oT Z c174 (oR Z (zQ Z (wEx c174.out) Z) (eN (zh Z (sR fL1 Z (oA Z Z (eN (zI (zL ?_)))))))))))))
       have hE:=nA hm175;first | subst r | cases hE
       exact ⟨rfl,_,(zP rfl),U165,_,(hS171.pick [] _ (by decide) rfl),rfl,rfl⟩
      ·intro c174 hm176
       refine zd Z Z Z (wF Z c174) Z f113 (zd Z Z Z (wF Z c174) Z Z (bnK hm176 fun x177 h178 hm179=>?_))
       have h180:=h136.le le145
       have h181:=h180.le le151
       have h182:=h181.le le169
       have q:=h182.el (fun _=>rfl) (wAv h178)
       obtain ⟨b183,off184,hA185,hC186⟩:=q
       refine rU Z (wF Z c174) (ZB Z Z hA185 Z zB zH (wBq h178) (wBx h178)) (rU Z (wF Z c174) (zV Z Z zJ Z zF) (OKS.m Z Z Z (wF Z c174) (hS171.ldC (f:=2) hC186 (v:=jV x177.Gate) Z Z zE Z) Z (rU Z (wF Z c174) (zz Z Z Z) (oR Z (zU Z (zf c174.out) Z) (eN (ifc hm179 ?_ ?_))))))
       ·intro c187 hm188
        refine zo (zf (fun h=>h c187.out)) (kN (sR fL1 Z (oA Z Z (eN (zK (sR fL3 Z (oL Z (hS171.ldB (j:=0) Z Z f110 zj (v:=.slice A26 x16.length c27) Z) (oR Z (zn Z Z zB) (oR Z (Runs.gtr Z Z Z) (eN (ifc hm188 ?_ ?_)))))))))))
        ·intro c189 hm190
         refine cT Z c189 (rR fL5 Z (oL Z (hS171.ldB (j:=0) Z Z f110 zj (v:=.slice A26 x16.length c27) Z) (bnK hm190 fun x191 h192 hm193=>?_)))
         have h194:=h161.le le169
         have q:=h194.el (fun _=>rfl) (wAv h192)
         obtain ⟨b195,off196,hA197,hC198⟩:=q
         refine oR Z (Runs.iaN Z Z hA197 Z zB zH (wCc h192)) (oR Z (zV Z Z zJ Z zF) (oL Z (hS171.ldC (f:=1) hC198 (v:=jV x191.Time) Z Z zE Z) (oA Z Z (eN (sR fL2 Z ?_)))))
         have q:=hS171.freeze (k:=0) rfl
         obtain ⟨U199,le200,hC201,hS202⟩:=q
         replace hC201:=Cl.of hC201
         have hS203:sW w U U199 [B0] W168:=hS202
         replace hC201:Cl U199 b34 0 B2:=hC201
         refine oR Z (Runs.mkf Z zG (zA f110 zG)) (oA Z Z (eN (zK (zK (CK.fresh fun σ204 hσ205=>?_)))))
         have f206:σ204 1=jV p1:=(hσ205 1).trans f109
         have f207:σ204 9=.pointer (some ⟨b34,0,none⟩):=(hσ205 9).trans f110
         have f208:σ204 10=jV (w64 (x40 + 1)):=(hσ205 10).trans f111
         have f209:σ204 11=.pointer (some ⟨b61,0,none⟩):=(hσ205 11).trans f112
         have f210:σ204 12=.slice A82 x72.length c83:=(hσ205 12).trans f113
         have f211:σ204 15=jV x138:=(hσ205 15).trans rfl
         have f212:σ204 16=jV x191.Time:=(hσ205 16).trans rfl
         have f213:σ204 17=.func (.func 26) #[] #[.pointer (some ⟨b34,0,none⟩)]:=(hσ205 17).trans rfl
         clear hσ205
         refine rR (wME (.fx 26 (.fl 27 (.nil)) .stop)) Z (oM Z f210 (oM Z f211 ?_))
         have h214:=h182.le le200
         have q:=h214.el (fun _=>rfl) (wAv h178)
         obtain ⟨b215,off216,hA217,hC218⟩:=q
         refine oR Z (ZB Z Z hA217 Z zB zH (wBq h178) (wBx h178)) (oR Z (zV Z Z zJ Z zF) (oL Z (hS203.ldC (f:=1) hC218 (v:=jV x177.Time) Z Z zE Z) (oM Z f212 (oR Z (zl Z Z Z) (oM Z Z (ifc hm193 ?_ ?_))))))
         ·intro c219 hm220
          refine oT Z c219 (oT Z c219 (oT Z c219 (oT Z c219 (oT Z c219 (oT Z c219 (oT Z c219 (oT Z c219 (oT Z c219 (oT Z c219 (oR Z (zQ Z (wEx c219.out) Z) (oM Z Z (oN Z (oN Z (oN Z (oN Z (oN Z (oN Z (zw Z Z Z (ze Z Z Z Z) (oR Z (zQ Z Z Z) (eN (zh Z (sR fL1 Z (oA Z Z (eN (zI (zL ?_))))))))))))))))))))))))))
          have hE:=nA hm220;first | subst r | cases hE
          exact ⟨rfl,_,(zP rfl),U199,_,(hS203.pick [] _ (by decide) rfl),rfl,rfl⟩
         ·intro c219 hm221
          refine zd Z Z Z (wF Z c219) Z f210 (zd Z Z Z (wF Z c219) Z f211 ?_)
          have q:=h214.el (fun _=>rfl) (wAv h178)
          obtain ⟨b222,off223,hA224,hC225⟩:=q
          refine rU Z (wF Z c219) (ZB Z Z hA224 Z zB zH (wBq h178) (wBx h178)) (rU Z (wF Z c219) (zV Z Z zJ Z zF) (OKS.m Z Z Z (wF Z c219) (hS203.ldC (f:=1) hC225 (v:=jV x177.Time) Z Z zE Z) Z (zd Z Z Z (wF Z c219) Z f212 (rU Z (wF Z c219) (Runs.subw Z Z Z) (zd Z Z Z (wF Z c219) Z f208 (bnK hm221 fun x226 h227 hm228=>rU Z (wF Z c219) (Runs.rem Z Z Z h227) (rU Z (wF Z c219) (zz Z Z Z) (oR Z (zU Z (zf c219.out) Z) (oM Z Z (ifc hm228 ?_ ?_))))))))))
          ·intro c229 hm230
           refine zd Z Z Z (zN Z Z (zf (fun h=>h c229.out))) Z f213 (zd Z Z Z (zN Z Z (zf (fun h=>h c229.out))) Z f210 (zd Z Z Z (zN Z Z (zf (fun h=>h c229.out))) Z f211 ?_))
           have q:=h214.el (fun _=>rfl) (wAv h178)
           obtain ⟨b231,off232,hA233,hC234⟩:=q
           refine ZD Z Z Z (zN Z Z (zf (fun h=>h c229.out))) (fun _=>ZB Z Z hA233 Z zB zH (wBq h178) (wBx h178)) (ZD Z Z Z (zN Z Z (zf (fun h=>h c229.out))) (fun _=>zV Z Z zJ Z zF) (OKS.m Z Z Z (zN Z Z (zf (fun h=>h c229.out))) (hS203.ldC (f:=1) hC234 (v:=jV x177.Time) Z Z zE Z) Z ?_))
           have h235:=h194.le le200
           refine bnK hm230 fun x236 h237 hm238=>zC 0 Z Z Z (zN Z Z (zf (fun h=>h c229.out))) (zD Z Z Tryz.call26 (zA Z zG) Z) hS203 (fun hs=>wAk x177.Time x16 b34 A26 c27 W168 U199 hs hC201 h235 h237) (.inr Z) ?_
           rintro U239 L240 v241 W242 le243 hS244 ⟨rfl,rfl⟩
           have hS245:sW w U U239 [B0] W242:=hS244
           refine oR Z (zU Z (zf (fun h=>h c229.out)) Z) (eN (ifc hm238 ?_ ?_))
           ·intro c246 hm247
            refine zh (congrArg nB c246.out) (sR fL1 Z (oA Z Z (eN (zI (zL ?_)))))
            have hE:=nA hm247;first | subst r | cases hE
            exact ⟨rfl,_,(zP rfl),U239,_,(hS245.pick [] _ (by decide) rfl),rfl,rfl⟩
           ·intro c246 hm248
            refine zo (congrArg nB (nD.2 c246.out)) (kN (zK (sR fL2 Z (oM Z f212 (oA Z Z (eN (zi (CK.iter (fun x252 σ_ w_=>∃ (U_:PHeap),σ_ 1=jV p1/\σ_ 9=.pointer (some ⟨b34,0,none⟩)/\σ_ 10=jV (w64 (x40 + 1))/\σ_ 11=.pointer (some ⟨b61,0,none⟩)/\σ_ 12=.slice A82 x72.length c83/\σ_ 15=jV x138/\σ_ 17=.func (.func 26) #[] #[.pointer (some ⟨b34,0,none⟩)]/\σ_ 18=jV x252/\PHeap.Le U239 U_/\sW w U U_ [B0] w_) hm248 ?_ ?_))))))))
            ·exact ⟨U239,f206,f207,f208,f209,f210,f211,f213,Z,(zZ _),hS245⟩
            ·rintro x252 xx255 σ253 W254 ⟨U260,f263,f264,f265,f266,f267,f268,f269,f270,le261,hS262⟩ hx256 hb257
             refine zK (sR fL7 Z (oM Z f270 (oM Z f267 (oM Z f268 ?_))))
             have h271:=h214.le le243
             have h272:=h271.le le261
             have q:=h272.el (fun _=>rfl) (wAv h178)
             obtain ⟨b273,off274,hA275,hC276⟩:=q
             refine oR Z (ZB Z Z hA275 Z zB zH (wBq h178) (wBx h178)) (oR Z (zV Z Z zJ Z zF) (oL Z (hS262.ldC (f:=1) hC276 (v:=jV x177.Time) Z Z zE Z) (oR Z (zl Z Z Z) (eN ?_))))
             by_cases c277:x252 < x177.Time
             ·have hm278:=hx256;rw [if_pos c277] at hm278;replace c277:=zO c277
              refine cT Z c277 (kN (zK (zi (sR (.fl 0 (.fl 1 (.fx 2 (.fl 3 (.nil)) .stop))) Z (oM Z f269 (oM Z f270 ?_))))))
              have h279:=hC201.le le243
              have h280:=h279.le le261
              have h281:=h235.le le243
              have h282:=h281.le le261
              refine bnK hm278 fun x283 h284 hm285=>zC 0 Z Z Z Z (zD Z Z Tryz.call26 (zA Z zG) Z) hS262 (fun hs=>wAk x252 x16 b34 A26 c27 W254 U260 hs h280 h282 h284) (.inr Z) ?_
              rintro U286 L287 v288 W289 le290 hS291 ⟨rfl,rfl⟩
              have hS292:sW w U U286 [B0] W289:=hS291
              refine oR Z (ZK Z Z) (eN (ifc hm285 ?_ ?_))
              ·intro c293 hm294
               refine zo (nC c293.out) (CK.skip (zr (zM (rR fL4 Z (oM Z f270 (oM Z f265 (oR Z (zg Z Z Z) (oA Z Z (zu ?_)))))))))
               obtain rfl:=nA hm294
               exact zM ⟨Z,_,Z,⟨U286,f263,f264,f265,f266,f267,f268,f269,Z,(le261.trans le290),hS292⟩⟩
              ·intro c293 hm296
               refine zh (nF (c293.out)) (sR fL1 Z (oA Z Z (eN (zI (zp (zL ?_))))))
               have q:=wBN hm296
               obtain ⟨v297,hm298,e299⟩:=q
               obtain rfl:=hb257 v297 e299
               refine zL (zp (zL ?_))
               have hE:=nA hm298;first | subst r | cases hE
               exact ⟨rfl,_,(zP rfl),U286,_,(hS292.pick [] _ (by decide) rfl),rfl,rfl⟩
             ·have hm300:=hx256;rw [if_neg c277] at hm300;replace c277:=zO c277
              refine cF Z c277 (ZF (zk ?_))
              have q:=wBN hm300
              obtain ⟨v301,hm302,e303⟩:=q
              obtain rfl:=hb257 v301 e303
              refine zk (zy (zM (sR (.fl 0 (.fl 1 (.fx 2 (wOY (.nil)) .stop))) Z ?_)))
              have h304:=hC201.le le243
              have h305:=h304.le le261
              refine oL Z (hS262.ldC (f:=0) h305 (v:=.slice A26 x16.length c27) Z f264 zj Z) ?_
              have h306:=hC132.le le145
              have h307:=h306.le le151
              have h308:=h307.le le169
              have h309:=h308.le le200
              have h310:=h309.le le243
              have h311:=h310.le le261
              refine oL Z (hS262.ldC (f:=0) h311 (v:=jV (w64 (x50 + 300))) Z f266 zE Z) ?_
              have h312:=h235.le le243
              have h313:=h312.le le261
              have q:=bnd hm302
              obtain ⟨⟨x314,x315⟩,h316,hm317⟩:=q
              try dsimp only at hm317
              refine zC 0 Z Z Z Z (zD Z Z Tryz.call13 (zA Z (zA Z zG)) Z) hS262 (fun hs=>wBK x16 A26 c27 (w64 (x50 + 300)) W254 U260 hs h313 h316) (.inr Z) ?_
              rintro U318 L319 v320 W321 le322 hS323 ⟨A324,c325,rfl,rfl⟩
              let B5:Res:=.row A324 c325 30 3 (hH wAB x314)
              have hS327:sW w U U318 [B5,B0] W321:=hS323
              refine oM Z Z (oR Z (zx Z Z (v:=.slice A324 x314.length c325) Z) (oR Z (zx Z Z (v:=jV x315) Z) (oA Z Z (eN (sR (wGB (.fx 3 (wNR (.nil)) .stop)) Z (oM Z f267 ?_))))))
              have h328:=h311.le le322
              refine oL Z (hS327.ldC (f:=0) h328 (v:=jV (w64 (x50 + 300))) Z f266 zE Z) (oM Z f265 ?_)
              have h329:=h272.le le322
              have q:=bnd hm317
              obtain ⟨⟨x330,x331⟩,h332,hm333⟩:=q
              try dsimp only at hm333
              refine zC 0 Z Z Z Z (zD Z Z Tryz.call16 (zA Z (zA Z (zA Z zG))) Z) hS327 (fun hs=>wCT x72 A82 c83 (w64 (x50 + 300)) (w64 (x40 + 1)) W321 U318 hs h329 h332) (.inr Z) ?_
              rintro U334 L335 v336 W337 le338 hS339 ⟨A340,c341,rfl,rfl⟩
              let B6:Res:=.row A340 c341 30 3 (hH wAB x330)
              have hS343:sW w U U334 [B6,B5,B0] W337:=hS339
              refine oM Z Z (oR Z (zx Z Z (v:=.slice A340 x330.length c341) Z) (oR Z (zx Z Z (v:=jV x331) Z) (oA Z Z (oA Z Z (eN (zK (sR fL6 Z (oM Z Z (oR Z (zz Z Z Z) (oM Z Z (ifc hm333 ?_ ?_)))))))))))
              ·intro c344 hm345
               refine zd Z Z Z (zN Z Z (zf (fun h=>h c344.out))) Z Z (ZD Z Z Z (zN Z Z (zf (fun h=>h c344.out))) (fun _=>zz Z Z Z) (oR Z (zU Z (zf (fun h=>h c344.out)) Z) (eN (ifc hm345 ?_ ?_))))
               ·intro c346 hm347
                refine zo (zf (fun h=>h c346.out)) (kN (zK (sR fL3 Z ?_)))
                have h348:=h305.le le322
                have h349:=h348.le le338
                refine oL Z (hS343.ldC (f:=0) h349 (v:=.slice A26 x16.length c27) Z f264 zj Z) (oR Z (zn Z Z zB) (oR Z (ZA Z Z Z) (eN (ifc hm347 ?_ ?_))))
                ·intro c350 hm351
                 refine cT Z c350 (sR (.fx 0 (.fl 1 (.nil)) .stop) Z (bnK hm351 fun x352 h353 hm354=>zC 0 Z Z Z Z (zD Z Z Tryz.call6 zG Z) hS343 (fun hs=>wBD W337 U334 hs h353) (.inr Z) ?_))
                 rintro U355 L356 v357 W358 le359 hS360 ⟨rfl,rfl⟩
                 have hS361:sW w U U355 [B6,B5,B0] W358:=hS360
                 refine oA Z Z (eN (zI (zL ?_)))
                 have hE:=nA hm354;first | subst r | cases hE
                 exact ⟨rfl,_,(zP rfl),U355,_,(hS361.pick [] _ (by decide) rfl),rfl,rfl⟩
                ·intro c350 hm362
                 refine cF Z c350 (kN (sR (wGB (.fx 3 (.fl 4 (.nil)) .stop)) Z (oM Z f263 (oL Z (hS343.ldC (f:=0) h349 (v:=.slice A26 x16.length c27) Z f264 zj Z) (oR Z (zn Z Z zB) (bnK hm362 fun x363 h364 hm365=>zC 0 Z Z Z Z (zD Z Z Tryz.call22 (zA Z (zA Z zG)) Z) hS343 (fun hs=>wBR p1 (↑x16.length:Int) W337 U334 hs h364) (.inr Z) ?_))))))
                 rintro U366 L367 v368 W369 le370 hS371 ⟨rfl,rfl⟩
                 have hS372:sW w U U366 [B6,B5,B0] W369:=hS371
                 refine oA Z Z (eN (zK (CK.fresh fun σ373 hσ374=>?_)))
                 have f375:σ373 9=.pointer (some ⟨b34,0,none⟩):=(hσ374 9).trans f264
                 have f376:σ373 13=jV x315:=(hσ374 13).trans rfl
                 have f377:σ373 21=jV x363:=(hσ374 21).trans rfl
                 clear hσ374
                 refine ZJ ZG [1,1,3,3,3,1,2,3,3,3,3,3] (wNQ (.fx 6 (wMF (.nil)) .stop)) (by kernel_rfl) ?_
                 have hS378:=hS372.drew
                 generalize hw_W379:({ W369 with drawn:=W369.drawn + 1 }:World)=W379 at hS378 ⊢
                 have h380:=h349.le le370
                 refine oL Z (hS378.ldC (f:=0) h380 (v:=.slice A26 x16.length c27) Z f375 zj Z) (oL Z (hS378.ldC (f:=0) h380 (v:=.slice A26 x16.length c27) Z f375 zj Z) (oM Z f377 (bnK hm365 fun x381 h382 hm383=>?_)))
                 have h384:=h313.le le322
                 have h385:=h384.le le338
                 have h386:=h385.le le370
                 have q:=h386.el (fun _=>rfl) (wAv h382)
                 obtain ⟨b387,off388,hA389,hC390⟩:=q
                 refine oR Z (ZB Z Z hA389 Z zB zH (wBq h382) (wBx h382)) (oR Z (zV Z Z zJ Z zF) (oL Z (hS378.ldC (f:=0) hC390 (v:=jV x381.Bib) Z Z zE Z) ?_))
                 have q:=bnd hm383
                 obtain ⟨⟨x391,x392⟩,h393,hm394⟩:=q
                 try dsimp only at hm394
                 refine zC 0 Z Z Z Z (zD Z Z Tryz.call13 (zA Z (zA Z zG)) Z) hS378 (fun hs=>wBK x16 A26 c27 x381.Bib W379 U366 hs h386 h393) (.inr Z) ?_
                 rintro U395 L396 v397 W398 le399 hS400 ⟨A401,c402,rfl,rfl⟩
                 let B7:Res:=.row A401 c402 30 3 (hH wAB x391)
                 have hS404:sW w U U395 [B7,B6,B5,B0] W398:=hS400
                 refine oM Z Z (oR Z (zx Z Z (v:=.slice A401 x391.length c402) Z) (oR Z (zx Z Z (v:=jV x392) Z) (oA Z Z (oA Z Z (eN (sR (wLe (.fx 5 (wNS (.fx 9 (.fx 10 (.fl 11 (.fl 12 (.fx 13 (.fl 14 (.fl 15 (.nil))) .stop))) .stop) .stop)) .stop)) Z (oM Z Z (oR Z (ZA Z Z Z) (oM Z Z (ifc hm394 ?_ ?_))))))))))
                 ·intro c405 hm406
                  refine zd Z Z Z (wT Z c405) Z Z ?_
                  have h407:=h380.le le399
                  refine OKS.m Z Z Z (wT Z c405) (hS404.ldC (f:=0) h407 (v:=.slice A26 x16.length c27) Z f375 zj Z) Z ?_
                  have h408:=h386.le le399
                  refine bnK hm406 fun x409 h410 hm411=>zC 0 Z Z Z (wT Z c405) (zD Z Z Tryz.call8 (zA Z zG) Z) hS404 (fun hs=>wBI x16 A26 c27 W398 U395 hs h408 h410) (.inr Z) ?_
                  rintro U412 L413 v414 W415 le416 hS417 ⟨A418,c419,rfl,rfl⟩
                  have hS421:sW w U U412 [.row A418 c419 30 3 (hH wAB x409),B7,B6,B5,B0] W415:=hS417
                  refine zd Z Z Z (wT Z c405) Z f377 (zd Z Z Z (wT Z c405) Z f377 (rU Z (wT Z c405) (zg Z Z Z) (bnK hm411 fun x422 h423 hm424=>zC 1 Z Z Z (wT Z c405) (zD Z Z Tryz.call29 (zA Z (zA Z (zA Z zG))) Z) hS421 (fun hs=>wAa x409 A418 c419 x363 (w64 (x363 + 1)) W415 U412 hs h423) (.inl Z) ?_)))
                  rintro U425 L426 v427 W428 le429 hS430 ⟨A431,c432,rfl,rfl⟩
                  let B8:Res:=.row A431 c432 30 3 (hH wAB x422)
                  have hS434:sW w U U425 [B8,B7,B6,B5,B0] W428:=hS430
                  have q:=hS434.freezeR (k:=1) (n:=x391.length) rfl (wAJ (f:=wAB) (sz:=3) (fun _=>rfl) x391) (by decide)
                  obtain ⟨U435,le436,hs437,hS438⟩:=q
                  have hS439:sW w U U435 [B8,B6,B5,B0] W428:=hS438
                  have q:=hS439.freezeR (k:=0) (n:=x422.length) rfl (wAJ (f:=wAB) (sz:=3) (fun _=>rfl) x422) (by decide)
                  obtain ⟨U440,le441,hs442,hS443⟩:=q
                  have hS444:sW w U U440 [B6,B5,B0] W428:=hS443
                  have h445:=hs437.le le441
                  refine bnK hm424 fun x446 h447 hm448=>zC 0 Z Z Z (wT Z c405) (zD Z Z Tryz.call19 (zA Z (zA Z zG)) Z) hS444 (fun hs=>wAr x391 A401 c402 x422 A431 c432 W428 U440 hs h445 hs442 h447) (.inr Z) ?_
                  rintro U449 L450 v451 W452 le453 hS454 ⟨rfl,rfl⟩
                  have hS455:sW w U U449 [B6,B5,B0] W452:=hS454
                  refine oR Z (zQ Z (wEx c405.out) Z) (oM Z Z (ifc hm448 ?_ ?_))
                  ·intro c456 hm457
                   refine bnK hm457 fun x458 h459 hm460=>zC 0 Z Z Z (zN Z Z (congrArg nB c456.out)) (zD Z Z Tryz.call6 zG Z) hS455 (fun hs=>wBD W452 U449 hs h459) (.inr Z) ?_
                   rintro U461 L462 v463 W464 le465 hS466 ⟨rfl,rfl⟩
                   have hS467:sW w U U461 [B6,B5,B0] W464:=hS466
                   refine oR Z (zQ Z (congrArg nB c456.out) Z) (oA Z Z (eN (zI ?_)))
                   have hE:=nA hm460;first | subst r | cases hE
                   exact ⟨rfl,_,(zP rfl),U461,_,(hS467.pick [] _ (by decide) rfl),rfl,rfl⟩
                  ·intro c456 hm468
                   refine zw Z Z Z (ze Z Z (congrArg nB (nD.2 c456.out)) Z) (oR Z (zU Z (congrArg nB (nD.2 c456.out)) Z) (oA Z Z (eN (zI ?_))))
                   have hE:=nA hm468;first | subst r | cases hE
                   exact ⟨rfl,_,(zP rfl),U449,_,(hS455.pick [] _ (by decide) rfl),rfl,rfl⟩
                 ·intro c405 hm469
                  refine oF Z c405 (oF Z c405 (zw Z Z Z (ze Z Z (zf c405.out) Z) (oF Z c405 (oF Z c405 (oF Z c405 (zw Z Z Z (ze Z Z (zf c405.out) Z) (zw Z Z Z (ze Z Z (zf c405.out) Z) (oR Z (zU Z (zf c405.out) Z) (oM Z Z (zw Z Z Z (ze Z Z Z Z) (oR Z (zU Z Z Z) (oA Z Z (eN (zI ?_))))))))))))))
                  have hE:=nA hm469;first | subst r | cases hE
                  exact ⟨rfl,_,(zP rfl),U395,_,(hS404.pick [] _ (by decide) rfl),rfl,rfl⟩
               ·intro c346 hm470
                refine cT Z c346 (sR fL1 Z (oA Z Z (eN (zI (zL ?_)))))
                have hE:=nA hm470;first | subst r | cases hE
                exact ⟨rfl,_,(zP rfl),U334,_,(hS343.pick [] _ (by decide) rfl),rfl,rfl⟩
              ·intro c344 hm471
               refine oT Z c344 (oT Z c344 (oR Z (zQ Z (wEx c344.out) Z) (eN (zh Z (sR fL1 Z (oA Z Z (eN (zI (zL ?_)))))))))
               have hE:=nA hm471;first | subst r | cases hE
               exact ⟨rfl,_,(zP rfl),U334,_,(hS343.pick [] _ (by decide) rfl),rfl,rfl⟩
          ·intro c229 hm472
           refine oT Z c229 (oT Z c229 (oT Z c229 (oT Z c229 (oT Z c229 (oT Z c229 (zw Z Z Z (ze Z Z (wEx c229.out) Z) (oR Z (zQ Z (wEx c229.out) Z) (eN (zh Z (sR fL1 Z (oA Z Z (eN (zI (zL ?_))))))))))))))
           have hE:=nA hm472;first | subst r | cases hE
           exact ⟨rfl,_,(zP rfl),U199,_,(hS203.pick [] _ (by decide) rfl),rfl,rfl⟩
        ·intro c189 hm473
         refine cF Z c189 (kN (sR fL2 Z ?_))
         have q:=hS171.freeze (k:=0) rfl
         obtain ⟨U474,le475,hC476,hS477⟩:=q
         replace hC476:=Cl.of hC476
         have hS478:sW w U U474 [B0] W168:=hS477
         replace hC476:Cl U474 b34 0 B2:=hC476
         refine oR Z (Runs.mkf Z zG (zA f110 zG)) (oA Z Z (eN (zK (zK (CK.fresh fun σ479 hσ480=>?_)))))
         have f481:σ479 1=jV p1:=(hσ480 1).trans f109
         have f482:σ479 9=.pointer (some ⟨b34,0,none⟩):=(hσ480 9).trans f110
         have f483:σ479 10=jV (w64 (x40 + 1)):=(hσ480 10).trans f111
         have f484:σ479 11=.pointer (some ⟨b61,0,none⟩):=(hσ480 11).trans f112
         have f485:σ479 12=.slice A82 x72.length c83:=(hσ480 12).trans f113
         have f486:σ479 15=jV x138:=(hσ480 15).trans rfl
         have f487:σ479 16=jV 0:=(hσ480 16).trans rfl
         have f488:σ479 17=.func (.func 26) #[] #[.pointer (some ⟨b34,0,none⟩)]:=(hσ480 17).trans rfl
         clear hσ480
         refine rR (wME (.fx 26 (.fl 27 (.nil)) .stop)) Z (oM Z f485 (oM Z f486 ?_))
         have h489:=h182.le le475
         have q:=h489.el (fun _=>rfl) (wAv h178)
         obtain ⟨b490,off491,hA492,hC493⟩:=q
         refine oR Z (ZB Z Z hA492 Z zB zH (wBq h178) (wBx h178)) (oR Z (zV Z Z zJ Z zF) (oL Z (hS478.ldC (f:=1) hC493 (v:=jV x177.Time) Z Z zE Z) (oM Z f487 (oR Z (zl Z Z Z) (oM Z Z (ifc hm473 ?_ ?_))))))
         ·intro c494 hm495
          refine oT Z c494 (oT Z c494 (oT Z c494 (oT Z c494 (oT Z c494 (oT Z c494 (oT Z c494 (oT Z c494 (oT Z c494 (oT Z c494 (oR Z (zQ Z (wEx c494.out) Z) (oM Z Z (oN Z (oN Z (oN Z (oN Z (oN Z (oN Z (zw Z Z Z (ze Z Z Z Z) (oR Z (zQ Z Z Z) (eN (zh Z (sR fL1 Z (oA Z Z (eN (zI (zL ?_))))))))))))))))))))))))))
          have hE:=nA hm495;first | subst r | cases hE
          exact ⟨rfl,_,(zP rfl),U474,_,(hS478.pick [] _ (by decide) rfl),rfl,rfl⟩
         ·intro c494 hm496
          refine zd Z Z Z (wF Z c494) Z f485 (zd Z Z Z (wF Z c494) Z f486 ?_)
          have q:=h489.el (fun _=>rfl) (wAv h178)
          obtain ⟨b497,off498,hA499,hC500⟩:=q
          refine rU Z (wF Z c494) (ZB Z Z hA499 Z zB zH (wBq h178) (wBx h178)) (rU Z (wF Z c494) (zV Z Z zJ Z zF) (OKS.m Z Z Z (wF Z c494) (hS478.ldC (f:=1) hC500 (v:=jV x177.Time) Z Z zE Z) Z (zd Z Z Z (wF Z c494) Z f487 (rU Z (wF Z c494) (Runs.subw Z Z Z) (zd Z Z Z (wF Z c494) Z f483 (bnK hm496 fun x501 h502 hm503=>rU Z (wF Z c494) (Runs.rem Z Z Z h502) (rU Z (wF Z c494) (zz Z Z Z) (oR Z (zU Z (zf c494.out) Z) (oM Z Z (ifc hm503 ?_ ?_))))))))))
          ·intro c504 hm505
           refine zd Z Z Z (zN Z Z (zf (fun h=>h c504.out))) Z f488 (zd Z Z Z (zN Z Z (zf (fun h=>h c504.out))) Z f485 (zd Z Z Z (zN Z Z (zf (fun h=>h c504.out))) Z f486 ?_))
           have q:=h489.el (fun _=>rfl) (wAv h178)
           obtain ⟨b506,off507,hA508,hC509⟩:=q
           refine ZD Z Z Z (zN Z Z (zf (fun h=>h c504.out))) (fun _=>ZB Z Z hA508 Z zB zH (wBq h178) (wBx h178)) (ZD Z Z Z (zN Z Z (zf (fun h=>h c504.out))) (fun _=>zV Z Z zJ Z zF) (OKS.m Z Z Z (zN Z Z (zf (fun h=>h c504.out))) (hS478.ldC (f:=1) hC509 (v:=jV x177.Time) Z Z zE Z) Z ?_))
           have h510:=h161.le le169
           have h511:=h510.le le475
           refine bnK hm505 fun x512 h513 hm514=>zC 0 Z Z Z (zN Z Z (zf (fun h=>h c504.out))) (zD Z Z Tryz.call26 (zA Z zG) Z) hS478 (fun hs=>wAk x177.Time x16 b34 A26 c27 W168 U474 hs hC476 h511 h513) (.inr Z) ?_
           rintro U515 L516 v517 W518 le519 hS520 ⟨rfl,rfl⟩
           have hS521:sW w U U515 [B0] W518:=hS520
           refine oR Z (zU Z (zf (fun h=>h c504.out)) Z) (eN (ifc hm514 ?_ ?_))
           ·intro c522 hm523
            refine zh (congrArg nB c522.out) (sR fL1 Z (oA Z Z (eN (zI (zL ?_)))))
            have hE:=nA hm523;first | subst r | cases hE
            exact ⟨rfl,_,(zP rfl),U515,_,(hS521.pick [] _ (by decide) rfl),rfl,rfl⟩
           ·intro c522 hm524
            refine zo (congrArg nB (nD.2 c522.out)) (kN (zK (sR fL2 Z (oM Z f487 (oA Z Z (eN (zi (CK.iter (fun x528 σ_ w_=>∃ (U_:PHeap),σ_ 1=jV p1/\σ_ 9=.pointer (some ⟨b34,0,none⟩)/\σ_ 10=jV (w64 (x40 + 1))/\σ_ 11=.pointer (some ⟨b61,0,none⟩)/\σ_ 12=.slice A82 x72.length c83/\σ_ 15=jV x138/\σ_ 17=.func (.func 26) #[] #[.pointer (some ⟨b34,0,none⟩)]/\σ_ 18=jV x528/\PHeap.Le U515 U_/\sW w U U_ [B0] w_) hm524 ?_ ?_))))))))
            ·exact ⟨U515,f481,f482,f483,f484,f485,f486,f488,Z,(zZ _),hS521⟩
            ·rintro x528 xx531 σ529 W530 ⟨U536,f539,f540,f541,f542,f543,f544,f545,f546,le537,hS538⟩ hx532 hb533
             refine zK (sR fL7 Z (oM Z f546 (oM Z f543 (oM Z f544 ?_))))
             have h547:=h489.le le519
             have h548:=h547.le le537
             have q:=h548.el (fun _=>rfl) (wAv h178)
             obtain ⟨b549,off550,hA551,hC552⟩:=q
             refine oR Z (ZB Z Z hA551 Z zB zH (wBq h178) (wBx h178)) (oR Z (zV Z Z zJ Z zF) (oL Z (hS538.ldC (f:=1) hC552 (v:=jV x177.Time) Z Z zE Z) (oR Z (zl Z Z Z) (eN ?_))))
             by_cases c553:x528 < x177.Time
             ·have hm554:=hx532;rw [if_pos c553] at hm554;replace c553:=zO c553
              refine cT Z c553 (kN (zK (zi (sR (.fl 0 (.fl 1 (.fx 2 (.fl 3 (.nil)) .stop))) Z (oM Z f545 (oM Z f546 ?_))))))
              have h555:=hC476.le le519
              have h556:=h555.le le537
              have h557:=h511.le le519
              have h558:=h557.le le537
              refine bnK hm554 fun x559 h560 hm561=>zC 0 Z Z Z Z (zD Z Z Tryz.call26 (zA Z zG) Z) hS538 (fun hs=>wAk x528 x16 b34 A26 c27 W530 U536 hs h556 h558 h560) (.inr Z) ?_
              rintro U562 L563 v564 W565 le566 hS567 ⟨rfl,rfl⟩
              have hS568:sW w U U562 [B0] W565:=hS567
              refine oR Z (ZK Z Z) (eN (ifc hm561 ?_ ?_))
              ·intro c569 hm570
               refine zo (nC c569.out) (CK.skip (zr (zM (rR fL4 Z (oM Z f546 (oM Z f541 (oR Z (zg Z Z Z) (oA Z Z (zu ?_)))))))))
               obtain rfl:=nA hm570
               exact zM ⟨Z,_,Z,⟨U562,f539,f540,f541,f542,f543,f544,f545,Z,(le537.trans le566),hS568⟩⟩
              ·intro c569 hm572
               refine zh (nF (c569.out)) (sR fL1 Z (oA Z Z (eN (zI (zp (zL ?_))))))
               have q:=wBN hm572
               obtain ⟨v573,hm574,e575⟩:=q
               obtain rfl:=hb533 v573 e575
               refine zL (zp (zL ?_))
               have hE:=nA hm574;first | subst r | cases hE
               exact ⟨rfl,_,(zP rfl),U562,_,(hS568.pick [] _ (by decide) rfl),rfl,rfl⟩
             ·have hm576:=hx532;rw [if_neg c553] at hm576;replace c553:=zO c553
              refine cF Z c553 (ZF (zk ?_))
              have q:=wBN hm576
              obtain ⟨v577,hm578,e579⟩:=q
              obtain rfl:=hb533 v577 e579
              refine zk (zy (zM (sR (.fl 0 (.fl 1 (.fx 2 (wOY (.nil)) .stop))) Z ?_)))
              have h580:=hC476.le le519
              have h581:=h580.le le537
              refine oL Z (hS538.ldC (f:=0) h581 (v:=.slice A26 x16.length c27) Z f540 zj Z) ?_
              have h582:=hC132.le le145
              have h583:=h582.le le151
              have h584:=h583.le le169
              have h585:=h584.le le475
              have h586:=h585.le le519
              have h587:=h586.le le537
              refine oL Z (hS538.ldC (f:=0) h587 (v:=jV (w64 (x50 + 300))) Z f542 zE Z) ?_
              have h588:=h511.le le519
              have h589:=h588.le le537
              have q:=bnd hm578
              obtain ⟨⟨x590,x591⟩,h592,hm593⟩:=q
              try dsimp only at hm593
              refine zC 0 Z Z Z Z (zD Z Z Tryz.call13 (zA Z (zA Z zG)) Z) hS538 (fun hs=>wBK x16 A26 c27 (w64 (x50 + 300)) W530 U536 hs h589 h592) (.inr Z) ?_
              rintro U594 L595 v596 W597 le598 hS599 ⟨A600,c601,rfl,rfl⟩
              let B9:Res:=.row A600 c601 30 3 (hH wAB x590)
              have hS603:sW w U U594 [B9,B0] W597:=hS599
              refine oM Z Z (oR Z (zx Z Z (v:=.slice A600 x590.length c601) Z) (oR Z (zx Z Z (v:=jV x591) Z) (oA Z Z (eN (sR (wGB (.fx 3 (wNR (.nil)) .stop)) Z (oM Z f543 ?_))))))
              have h604:=h587.le le598
              refine oL Z (hS603.ldC (f:=0) h604 (v:=jV (w64 (x50 + 300))) Z f542 zE Z) (oM Z f541 ?_)
              have h605:=h548.le le598
              have q:=bnd hm593
              obtain ⟨⟨x606,x607⟩,h608,hm609⟩:=q
              try dsimp only at hm609
              refine zC 0 Z Z Z Z (zD Z Z Tryz.call16 (zA Z (zA Z (zA Z zG))) Z) hS603 (fun hs=>wCT x72 A82 c83 (w64 (x50 + 300)) (w64 (x40 + 1)) W597 U594 hs h605 h608) (.inr Z) ?_
              rintro U610 L611 v612 W613 le614 hS615 ⟨A616,c617,rfl,rfl⟩
              let B10:Res:=.row A616 c617 30 3 (hH wAB x606)
              have hS619:sW w U U610 [B10,B9,B0] W613:=hS615
              refine oM Z Z (oR Z (zx Z Z (v:=.slice A616 x606.length c617) Z) (oR Z (zx Z Z (v:=jV x607) Z) (oA Z Z (oA Z Z (eN (zK (sR fL6 Z (oM Z Z (oR Z (zz Z Z Z) (oM Z Z (ifc hm609 ?_ ?_)))))))))))
              ·intro c620 hm621
               refine zd Z Z Z (zN Z Z (zf (fun h=>h c620.out))) Z Z (ZD Z Z Z (zN Z Z (zf (fun h=>h c620.out))) (fun _=>zz Z Z Z) (oR Z (zU Z (zf (fun h=>h c620.out)) Z) (eN (ifc hm621 ?_ ?_))))
               ·intro c622 hm623
                refine zo (zf (fun h=>h c622.out)) (kN (zK (sR fL3 Z ?_)))
                have h624:=h581.le le598
                have h625:=h624.le le614
                refine oL Z (hS619.ldC (f:=0) h625 (v:=.slice A26 x16.length c27) Z f540 zj Z) (oR Z (zn Z Z zB) (oR Z (ZA Z Z Z) (eN (ifc hm623 ?_ ?_))))
                ·intro c626 hm627
                 refine cT Z c626 (sR (.fx 0 (.fl 1 (.nil)) .stop) Z (bnK hm627 fun x628 h629 hm630=>zC 0 Z Z Z Z (zD Z Z Tryz.call6 zG Z) hS619 (fun hs=>wBD W613 U610 hs h629) (.inr Z) ?_))
                 rintro U631 L632 v633 W634 le635 hS636 ⟨rfl,rfl⟩
                 have hS637:sW w U U631 [B10,B9,B0] W634:=hS636
                 refine oA Z Z (eN (zI (zL ?_)))
                 have hE:=nA hm630;first | subst r | cases hE
                 exact ⟨rfl,_,(zP rfl),U631,_,(hS637.pick [] _ (by decide) rfl),rfl,rfl⟩
                ·intro c626 hm638
                 refine cF Z c626 (kN (sR (wGB (.fx 3 (.fl 4 (.nil)) .stop)) Z (oM Z f539 (oL Z (hS619.ldC (f:=0) h625 (v:=.slice A26 x16.length c27) Z f540 zj Z) (oR Z (zn Z Z zB) (bnK hm638 fun x639 h640 hm641=>zC 0 Z Z Z Z (zD Z Z Tryz.call22 (zA Z (zA Z zG)) Z) hS619 (fun hs=>wBR p1 (↑x16.length:Int) W613 U610 hs h640) (.inr Z) ?_))))))
                 rintro U642 L643 v644 W645 le646 hS647 ⟨rfl,rfl⟩
                 have hS648:sW w U U642 [B10,B9,B0] W645:=hS647
                 refine oA Z Z (eN (zK (CK.fresh fun σ649 hσ650=>?_)))
                 have f651:σ649 9=.pointer (some ⟨b34,0,none⟩):=(hσ650 9).trans f540
                 have f652:σ649 13=jV x591:=(hσ650 13).trans rfl
                 have f653:σ649 21=jV x639:=(hσ650 21).trans rfl
                 clear hσ650
                 refine ZJ ZG [1,1,3,3,3,1,2,3,3,3,3,3] (wNQ (.fx 6 (wMF (.nil)) .stop)) (by kernel_rfl) ?_
                 have hS654:=hS648.drew
                 generalize hw_W655:({ W645 with drawn:=W645.drawn + 1 }:World)=W655 at hS654 ⊢
                 have h656:=h625.le le646
                 refine oL Z (hS654.ldC (f:=0) h656 (v:=.slice A26 x16.length c27) Z f651 zj Z) (oL Z (hS654.ldC (f:=0) h656 (v:=.slice A26 x16.length c27) Z f651 zj Z) (oM Z f653 (bnK hm641 fun x657 h658 hm659=>?_)))
                 have h660:=h589.le le598
                 have h661:=h660.le le614
                 have h662:=h661.le le646
                 have q:=h662.el (fun _=>rfl) (wAv h658)
                 obtain ⟨b663,off664,hA665,hC666⟩:=q
                 refine oR Z (ZB Z Z hA665 Z zB zH (wBq h658) (wBx h658)) (oR Z (zV Z Z zJ Z zF) (oL Z (hS654.ldC (f:=0) hC666 (v:=jV x657.Bib) Z Z zE Z) ?_))
                 have q:=bnd hm659
                 obtain ⟨⟨x667,x668⟩,h669,hm670⟩:=q
                 try dsimp only at hm670
                 refine zC 0 Z Z Z Z (zD Z Z Tryz.call13 (zA Z (zA Z zG)) Z) hS654 (fun hs=>wBK x16 A26 c27 x657.Bib W655 U642 hs h662 h669) (.inr Z) ?_
                 rintro U671 L672 v673 W674 le675 hS676 ⟨A677,c678,rfl,rfl⟩
                 let B11:Res:=.row A677 c678 30 3 (hH wAB x667)
                 have hS680:sW w U U671 [B11,B10,B9,B0] W674:=hS676
                 refine oM Z Z (oR Z (zx Z Z (v:=.slice A677 x667.length c678) Z) (oR Z (zx Z Z (v:=jV x668) Z) (oA Z Z (oA Z Z (eN (sR (wLe (.fx 5 (wNS (.fx 9 (.fx 10 (.fl 11 (.fl 12 (.fx 13 (.fl 14 (.fl 15 (.nil))) .stop))) .stop) .stop)) .stop)) Z (oM Z Z (oR Z (ZA Z Z Z) (oM Z Z (ifc hm670 ?_ ?_))))))))))
                 ·intro c681 hm682
                  refine zd Z Z Z (wT Z c681) Z Z ?_
                  have h683:=h656.le le675
                  refine OKS.m Z Z Z (wT Z c681) (hS680.ldC (f:=0) h683 (v:=.slice A26 x16.length c27) Z f651 zj Z) Z ?_
                  have h684:=h662.le le675
                  refine bnK hm682 fun x685 h686 hm687=>zC 0 Z Z Z (wT Z c681) (zD Z Z Tryz.call8 (zA Z zG) Z) hS680 (fun hs=>wBI x16 A26 c27 W674 U671 hs h684 h686) (.inr Z) ?_
                  rintro U688 L689 v690 W691 le692 hS693 ⟨A694,c695,rfl,rfl⟩
                  have hS697:sW w U U688 [.row A694 c695 30 3 (hH wAB x685),B11,B10,B9,B0] W691:=hS693
                  refine zd Z Z Z (wT Z c681) Z f653 (zd Z Z Z (wT Z c681) Z f653 (rU Z (wT Z c681) (zg Z Z Z) (bnK hm687 fun x698 h699 hm700=>zC 1 Z Z Z (wT Z c681) (zD Z Z Tryz.call29 (zA Z (zA Z (zA Z zG))) Z) hS697 (fun hs=>wAa x685 A694 c695 x639 (w64 (x639 + 1)) W691 U688 hs h699) (.inl Z) ?_)))
                  rintro U701 L702 v703 W704 le705 hS706 ⟨A707,c708,rfl,rfl⟩
                  let B12:Res:=.row A707 c708 30 3 (hH wAB x698)
                  have hS710:sW w U U701 [B12,B11,B10,B9,B0] W704:=hS706
                  have q:=hS710.freezeR (k:=1) (n:=x667.length) rfl (wAJ (f:=wAB) (sz:=3) (fun _=>rfl) x667) (by decide)
                  obtain ⟨U711,le712,hs713,hS714⟩:=q
                  have hS715:sW w U U711 [B12,B10,B9,B0] W704:=hS714
                  have q:=hS715.freezeR (k:=0) (n:=x698.length) rfl (wAJ (f:=wAB) (sz:=3) (fun _=>rfl) x698) (by decide)
                  obtain ⟨U716,le717,hs718,hS719⟩:=q
                  have hS720:sW w U U716 [B10,B9,B0] W704:=hS719
                  have h721:=hs713.le le717
                  refine bnK hm700 fun x722 h723 hm724=>zC 0 Z Z Z (wT Z c681) (zD Z Z Tryz.call19 (zA Z (zA Z zG)) Z) hS720 (fun hs=>wAr x667 A677 c678 x698 A707 c708 W704 U716 hs h721 hs718 h723) (.inr Z) ?_
                  rintro U725 L726 v727 W728 le729 hS730 ⟨rfl,rfl⟩
                  have hS731:sW w U U725 [B10,B9,B0] W728:=hS730
                  refine oR Z (zQ Z (wEx c681.out) Z) (oM Z Z (ifc hm724 ?_ ?_))
                  ·intro c732 hm733
                   refine bnK hm733 fun x734 h735 hm736=>zC 0 Z Z Z (zN Z Z (congrArg nB c732.out)) (zD Z Z Tryz.call6 zG Z) hS731 (fun hs=>wBD W728 U725 hs h735) (.inr Z) ?_
                   rintro U737 L738 v739 W740 le741 hS742 ⟨rfl,rfl⟩
                   have hS743:sW w U U737 [B10,B9,B0] W740:=hS742
                   refine oR Z (zQ Z (congrArg nB c732.out) Z) (oA Z Z (eN (zI ?_)))
                   have hE:=nA hm736;first | subst r | cases hE
                   exact ⟨rfl,_,(zP rfl),U737,_,(hS743.pick [] _ (by decide) rfl),rfl,rfl⟩
                  ·intro c732 hm744
                   refine zw Z Z Z (ze Z Z (congrArg nB (nD.2 c732.out)) Z) (oR Z (zU Z (congrArg nB (nD.2 c732.out)) Z) (oA Z Z (eN (zI ?_))))
                   have hE:=nA hm744;first | subst r | cases hE
                   exact ⟨rfl,_,(zP rfl),U725,_,(hS731.pick [] _ (by decide) rfl),rfl,rfl⟩
                 ·intro c681 hm745
                  refine oF Z c681 (oF Z c681 (zw Z Z Z (ze Z Z (zf c681.out) Z) (oF Z c681 (oF Z c681 (oF Z c681 (zw Z Z Z (ze Z Z (zf c681.out) Z) (zw Z Z Z (ze Z Z (zf c681.out) Z) (oR Z (zU Z (zf c681.out) Z) (oM Z Z (zw Z Z Z (ze Z Z Z Z) (oR Z (zU Z Z Z) (oA Z Z (eN (zI ?_))))))))))))))
                  have hE:=nA hm745;first | subst r | cases hE
                  exact ⟨rfl,_,(zP rfl),U671,_,(hS680.pick [] _ (by decide) rfl),rfl,rfl⟩
               ·intro c622 hm746
                refine cT Z c622 (sR fL1 Z (oA Z Z (eN (zI (zL ?_)))))
                have hE:=nA hm746;first | subst r | cases hE
                exact ⟨rfl,_,(zP rfl),U610,_,(hS619.pick [] _ (by decide) rfl),rfl,rfl⟩
              ·intro c620 hm747
               refine oT Z c620 (oT Z c620 (oR Z (zQ Z (wEx c620.out) Z) (eN (zh Z (sR fL1 Z (oA Z Z (eN (zI (zL ?_)))))))))
               have hE:=nA hm747;first | subst r | cases hE
               exact ⟨rfl,_,(zP rfl),U610,_,(hS619.pick [] _ (by decide) rfl),rfl,rfl⟩
          ·intro c504 hm748
           refine oT Z c504 (oT Z c504 (oT Z c504 (oT Z c504 (oT Z c504 (oT Z c504 (zw Z Z Z (ze Z Z (wEx c504.out) Z) (oR Z (zQ Z (wEx c504.out) Z) (eN (zh Z (sR fL1 Z (oA Z Z (eN (zI (zL ?_))))))))))))))
           have hE:=nA hm748;first | subst r | cases hE
           exact ⟨rfl,_,(zP rfl),U474,_,(hS478.pick [] _ (by decide) rfl),rfl,rfl⟩
       ·intro c187 hm749
        refine cT Z c187 (sR fL1 Z (oA Z Z (eN (zI (zL ?_)))))
        have hE:=nA hm749;first | subst r | cases hE
        exact ⟨rfl,_,(zP rfl),U165,_,(hS171.pick [] _ (by decide) rfl),rfl,rfl⟩
     ·intro c172 hm750
      refine OKS.p Z Z Z (ze Z Z (nF (c172.out)) Z) (OKS.p Z Z Z (ze Z Z (nF (c172.out)) Z) (oR Z (zQ Z (nF (c172.out)) Z) (oM Z Z (oN Z (oN Z (oN Z (oN Z (oN Z (oN Z (oR Z (zQ Z Z Z) (eN (zh Z (sR fL1 Z (oA Z Z (eN (zI (zL ?_)))))))))))))))))
      have hE:=nA hm750;first | subst r | cases hE
      exact ⟨rfl,_,(zP rfl),U165,_,(hS171.pick [] _ (by decide) rfl),rfl,rfl⟩
    ·intro c148 hm751
     refine oT Z c148 (oT Z c148 (zw Z Z Z (ze Z Z (wEx c148.out) Z) (oT Z c148 (oR Z (zQ Z (wEx c148.out) Z) (oM Z Z (oN Z (oN Z (oR Z (zQ Z Z Z) (oM Z Z (oN Z (oN Z (oN Z (oN Z (oN Z (oN Z (oR Z (zQ Z Z Z) (eN (zh Z (sR fL1 Z (oA Z Z (eN (zI (zL ?_)))))))))))))))))))))))
     have hE:=nA hm751;first | subst r | cases hE
     exact ⟨rfl,_,(zP rfl),U141,_,(hS147.pick [] _ (by decide) rfl),rfl,rfl⟩
   ·intro c105 hm752
    refine cT Z c105 (sR fL1 Z (oA Z Z (eN (zI (zL ?_)))))
    have hE:=nA hm752;first | subst r | cases hE
    exact ⟨rfl,_,(zP rfl),U98,_,(hS104.pick [] _ (by decide) rfl),rfl,rfl⟩
  ·intro c88 hm753
   refine oT Z c88 (zw Z Z Z (ze Z Z (wEx c88.out) Z) (oT Z c88 (oR Z (zQ Z (wEx c88.out) Z) (eN (zh Z (sR fL1 Z (oA Z Z (eN (zI (zL ?_))))))))))
   have hE:=nA hm753;first | subst r | cases hE
   exact ⟨rfl,_,(zP rfl),U76,_,(hS85.pick [] _ (by decide) rfl),rfl,rfl⟩
 ·intro c86 hm754
  refine oT Z c86 (oT Z c86 (oT Z c86 (oT Z c86 (oT Z c86 (oT Z c86 (oR Z (zQ Z (wEx c86.out) Z) (oM Z Z (oN Z (zw Z Z Z (ze Z Z Z Z) (oN Z (oR Z (zQ Z Z Z) (eN (zh Z (sR fL1 Z (oA Z Z (eN (zI (zL ?_))))))))))))))))))
  have hE:=nA hm754;first | subst r | cases hE
  exact ⟨rfl,_,(zP rfl),U76,_,(hS85.pick [] _ (by decide) rfl),rfl,rfl⟩
end Go.Proofs.YtapddcoodhijpaaGreat
