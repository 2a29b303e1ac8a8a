import Derived.Test.YthbficbpebiekaaGreatJ5
set_option linter.all false
open List renaming flatMap->nA,getElem_cons_succ->nG,getElem_cons_zero->nH,getElem_toArray->nI,set->nJ,length_set->nL,length_cons->nM,length_nil->nN
open Option.some renaming inj->nB
open Go.Value renaming bool->nD
open Bool renaming eq_false_iff->nE
open Prod.mk renaming injEq->nK
open Nat renaming blt->nO,le_of_ble_eq_true->nQ
open Eq renaming trans->nP
namespace Go.Proofs.YthbficbpebiekaaGreat
open Go.KL
set_option maxHeartbeats 4000000
theorem Z {α:Type} {a:α}:a=a:=rfl
section
variable {r:Option Nat} {N:Nat} {P:Program} {l:List Oper} {Q:wBn} {D:List Deferred} {ks:List Nat} {σ:Env} {w:World} {i d j e:Nat} {s:Sch} {o:Oper} {b:Bool} {x:Operand} {v:Value} {p:Prop} {inst:Decidable p} {K:List Deferred->Env->World->Prop} {c1 c2:Code}
abbrev jV (n:Int):Value:=.int .i64 n
abbrev SW (w:World) (X:List Res) (U U':PHeap) (L:List Res) (w':World):Prop:=St ⟨w,X,U⟩ U' L w'
abbrev sW (w:World) (U U':PHeap) (L:List Res) (w':World):Prop:=St ⟨w,[],U⟩ U' L w'
abbrev St0 (w:World) (U:PHeap) (L:List Res):Prop:=St ⟨w,L,U⟩ U L w
theorem ifc {α:Type} {G p:Prop} {inst:Decidable p} {a b r:α} (h:@ite α p inst a b=r) (h1:Hid p->a=r->G) (h2:Hid (¬ p)->b=r->G):G:=by
 by_cases c:p
 · rw [if_pos c] at h;exact h1 ⟨c⟩ h
 · rw [if_neg c] at h;exact h2 ⟨c⟩ h
theorem bnK {α β:Type} {G:Prop} {o:Option α} {f:α->Option β} {r:β} (h:o.bind f=some r) (k:∀ x,o=some x->f x=some r->G):G:=by
 obtain ⟨x,h1,h2⟩:=bnd h
 exact k x h1 h2
theorem oR (h:(l[i]?,o.dst,nO d N,wanted l σ o)=(some o,some d,true,true)) (hr:∀ {w'},Runs P σ w' o v w') (k:OKS N P l Q D ks s (upd σ d v) w):OKS N P l Q D ks (.fl i s) σ w:=by
 simp only [nK] at h;exact OKS.r h.1 h.2.1 h.2.2.1 h.2.2.2 (fun _=>hr) k
theorem oL (h:(l[i]?,o.dst,nO d N,wanted l σ o,wNc (kOf ks i))=(some o,some d,true,true,false)) (hr:wDW P σ w o v) (k:OKS N P l Q D ks s (upd σ d v) w):OKS N P l Q D ks (.fl i s) σ w:=by
 simp only [nK] at h;exact OKS.m h.1 h.2.1 h.2.2.1 h.2.2.2.1 hr h.2.2.2.2 k
theorem oM (h:(l[i]?,o.dst,nO d N,wanted l σ o,o.op)=(some o,some d,true,true,.move x)) (hx:ev σ x=v) (k:OKS N P l Q D ks s (upd σ d v) w):OKS N P l Q D ks (.fl i s) σ w:=by
 simp only [nK] at h;exact OKS.rm h.1 h.2.1 h.2.2.1 h.2.2.2.1 h.2.2.2.2 hx k
theorem oA (h:(l[i]?,o.dst,nO d N,wanted l σ o,o.op)=(some o,some d,true,true,.assign x)) (hx:ev σ x=v) (k:OKS N P l Q D ks s (upd σ d v) w):OKS N P l Q D ks (.fl i s) σ w:=by
 simp only [nK] at h;exact OKS.ra h.1 h.2.1 h.2.2.1 h.2.2.2.1 h.2.2.2.2 hx k
theorem oF (h:(l[i]?,o.dst,nO d N,o.guard,(l[j]?).bind (·.dst),σ e,false == b)=(some o,some d,true,some (j,b),some e,.bool (decide p),false)) (c:Hid (¬ p)) (k:OKS N P l Q D ks s (upd σ d undef) w):OKS N P l Q D ks (.fl i s) σ w:=by
 simp only [nK] at h;exact OKS.p h.1 h.2.1 h.2.2.1 (wBX h.2.2.2.1 h.2.2.2.2.1 (h.2.2.2.2.2.1.trans (wNb c.out)) h.2.2.2.2.2.2) k
theorem oT (h:(l[i]?,o.dst,nO d N,o.guard,(l[j]?).bind (·.dst),σ e,true == b)=(some o,some d,true,some (j,b),some e,.bool (decide p),false)) (c:Hid p) (k:OKS N P l Q D ks s (upd σ d undef) w):OKS N P l Q D ks (.fl i s) σ w:=by
 simp only [nK] at h;exact OKS.p h.1 h.2.1 h.2.2.1 (wBX h.2.2.2.1 h.2.2.2.2.1 (h.2.2.2.2.2.1.trans (wDV c.out)) h.2.2.2.2.2.2) k
theorem oN {b2:Bool} (h:(l[i]?,o.dst,nO d N,o.guard,(l[j]?).bind (·.dst),σ e,b2 == b)=(some o,some d,true,some (j,b),some e,.bool b2,false)) (k:OKS N P l Q D ks s (upd σ d undef) w):OKS N P l Q D ks (.fl i s) σ w:=by
 simp only [nK] at h;exact OKS.p h.1 h.2.1 h.2.2.1 (wBX h.2.2.2.1 h.2.2.2.2.1 h.2.2.2.2.2.1 h.2.2.2.2.2.2) k
theorem nC {a b:Bool} (h:a=b):nD (!a)=nD (!b):=h ▸ rfl
theorem nF {a:Bool} (h:¬ a=true):nD (!a)=nD (!false):=nC (nE.2 h)
theorem wT (h:(o.guard,(l[j]?).bind (·.dst),σ e)=(some (j,true),some e,.bool (decide p))) (c:Hid p):wanted l σ o=true:=by
 simp only [nK] at h;exact wFm h.1 h.2.1 (h.2.2.trans (wDV c.out))
theorem wF (h:(o.guard,(l[j]?).bind (·.dst),σ e)=(some (j,false),some e,.bool (decide p))) (c:Hid (¬ p)):wanted l σ o=true:=by
 simp only [nK] at h;exact wFm h.1 h.2.1 (h.2.2.trans (wNb c.out))
theorem rU (h:(l[i]?,o.dst,nO d N)=(some o,some d,true)) (hw:wanted l σ o=true) (hr:∀ {w'},Runs P σ w' o v w') (k:OKS N P l Q D ks s (upd σ d v) w):OKS N P l Q D ks (.fl i s) σ w:=by
 simp only [nK] at h;exact OKS.r h.1 h.2.1 h.2.2 hw (fun _=>hr) k
theorem sR {id:Nat} (s:Sch) (hs:inOrder 0 s l.length=true) (h:OKS N P l (wCx (fun D σ w=>CK r N P c2 Q D σ w) Q) D [] s σ w):CK r N P (.seq (.region id l.toArray false) c2) Q D σ w:=CK.seq (CK.reg s hs h)
theorem rR {id:Nat} (s:Sch) (hs:inOrder 0 s l.length=true) (h:OKS N P l Q D [] s σ w):CK r N P (.region id l.toArray false) Q D σ w:=CK.reg s hs h
theorem eN (h:K D σ w):OKS N P l (wCx K Q) D ks .nil σ w:=OKS.e (wFj h)
theorem cT (hz:ev σ x=.bool (decide p)) (c:Hid p) (h:CK r N P c1 Q D σ w):CK r N P (.cond x c1 c2) Q D σ w:=CK.condT (hz.trans (wDV c.out)) h
theorem cF (hz:ev σ x=.bool (decide p)) (c:Hid (¬ p)) (h:CK r N P c2 Q D σ w):CK r N P (.cond x c1 c2) Q D σ w:=CK.condF (hz.trans (wNb c.out)) h
theorem kN (h:K D σ w):CK r N P .skip (wCx K Q) D σ w:=CK.skip (wFj h)
end
def fL1:Sch:=.fl 0 (.nil)
def fL2:Sch:=.fl 0 (.fl 1 (.nil))
def fL3:Sch:=.fl 0 (.fl 1 (.fl 2 (.nil)))
def fL4:Sch:=.fl 0 (.fl 1 (.fl 2 (.fl 3 (.nil))))
def fL5:Sch:=.fl 0 (.fl 1 (.fl 2 (.fl 3 (.fl 4 (.nil)))))
def fL6:Sch:=.fl 0 (.fl 1 (.fl 2 (.fl 3 (.fl 4 (.fl 5 (.nil))))))
def fL8:Sch:=.fl 0 (.fl 1 (.fl 2 (.fl 3 (.fl 4 (.fl 5 (.fl 6 (.fl 7 (.nil))))))))
def fL9:Sch:=.fl 0 (.fl 1 (.fl 2 (.fl 3 (.fl 4 (.fl 5 (.fl 6 (.fl 7 (.fl 8 (.nil)))))))))
def fL10:Sch:=.fl 0 (.fl 1 (.fl 2 (.fl 3 (.fl 4 (.fl 5 (.fl 6 (.fl 7 (.fl 8 (.fl 9 (.nil))))))))))
def fL11:Sch:=.fl 0 (.fl 1 (.fl 2 (.fl 3 (.fl 4 (.fl 5 (.fl 6 (.fl 7 (.fl 8 (.fl 9 (.fl 10 (.nil)))))))))))
def fL12:Sch:=.fl 0 (.fl 1 (.fl 2 (.fl 3 (.fl 4 (.fl 5 (.fl 6 (.fl 7 (.fl 8 (.fl 9 (.fl 10 (.fl 11 (.nil))))))))))))
def fL13:Sch:=.fl 0 (.fl 1 (.fl 2 (.fl 3 (.fl 4 (.fl 5 (.fl 6 (.fl 7 (.fl 8 (.fl 9 (.fl 10 (.fl 11 (.fl 12 (.nil)))))))))))))
def fL14:Sch:=.fl 0 (.fl 1 (.fl 2 (.fl 3 (.fl 4 (.fl 5 (.fl 6 (.fl 7 (.fl 8 (.fl 9 (.fl 10 (.fl 11 (.fl 12 (.fl 13 (.nil))))))))))))))
def fL30:Sch:=.fl 0 (.fl 1 (.fl 2 (.fl 3 (.fl 4 (.fl 5 (.fl 6 (.fl 7 (.fl 8 (.fl 9 (.fl 10 (.fl 11 (.fl 12 (.fl 13 (.fl 14 (.fl 15 (.fl 16 (.fl 17 (.fl 18 (.fl 19 (.fl 20 (.fl 21 (.fl 22 (.fl 23 (.fl 24 (.fl 25 (.fl 26 (.fl 27 (.fl 28 (.fl 29 (.nil))))))))))))))))))))))))))))))
def fL40:Sch:=.fl 0 (.fl 1 (.fl 2 (.fl 3 (.fl 4 (.fl 5 (.fl 6 (.fl 7 (.fl 8 (.fl 9 (.fl 10 (.fl 11 (.fl 12 (.fl 13 (.fl 14 (.fl 15 (.fl 16 (.fl 17 (.fl 18 (.fl 19 (.fl 20 (.fl 21 (.fl 22 (.fl 23 (.fl 24 (.fl 25 (.fl 26 (.fl 27 (.fl 28 (.fl 29 (.fl 30 (.fl 31 (.fl 32 (.fl 33 (.fl 34 (.fl 35 (.fl 36 (.fl 37 (.fl 38 (.fl 39 (.nil))))))))))))))))))))))))))))))))))))))))
def wLn (s:Sch):Sch:=.fl 0 (.fl 1 (.fl 2 (s)))
def wLo (s:Sch):Sch:=.fl 0 (.fl 1 (.fl 2 (.fl 3 (s))))
def fC0_4 (s:Sch):Sch:=.fl 0 (.fl 1 (.fl 2 (.fl 3 (.fl 4 (s)))))
def wOb (s:Sch):Sch:=.fl 0 (.fl 1 (.fl 2 (.fl 3 (.fl 4 (.fl 5 (s))))))
def fC0_6 (s:Sch):Sch:=.fl 0 (.fl 1 (.fl 2 (.fl 3 (.fl 4 (.fl 5 (.fl 6 (s)))))))
def fC0_9 (s:Sch):Sch:=.fl 0 (.fl 1 (.fl 2 (.fl 3 (.fl 4 (.fl 5 (.fl 6 (.fl 7 (.fl 8 (.fl 9 (s))))))))))
def wOc (s:Sch):Sch:=.fl 0 (.fl 1 (.fl 2 (.fl 3 (.fl 4 (.fl 5 (.fl 6 (.fl 7 (.fl 8 (.fl 9 (.fl 10 (s)))))))))))
def wOd (s:Sch):Sch:=.fl 0 (.fl 1 (.fl 2 (.fl 3 (.fl 4 (.fl 5 (.fl 6 (.fl 7 (.fl 8 (.fl 9 (.fl 10 (.fl 11 (.fl 12 (s)))))))))))))
def wOe (s:Sch):Sch:=.fl 0 (.fl 1 (.fl 2 (.fl 3 (.fl 4 (.fl 5 (.fl 6 (.fl 7 (.fl 8 (.fl 9 (.fl 10 (.fl 11 (.fl 12 (.fl 13 (.fl 14 (s)))))))))))))))
def wOf (s:Sch):Sch:=.fl 0 (.fl 1 (.fl 2 (.fl 3 (.fl 4 (.fl 5 (.fl 6 (.fl 7 (.fl 8 (.fl 9 (.fl 10 (.fl 11 (.fl 12 (.fl 13 (.fl 14 (.fl 15 (s))))))))))))))))
def wMM (s:Sch):Sch:=.fl 0 (.fl 1 (.fl 2 (.fl 3 (.fl 4 (.fl 5 (.fl 6 (.fl 7 (.fl 8 (.fl 9 (.fl 10 (.fl 11 (.fl 12 (.fl 13 (.fl 14 (.fl 15 (.fl 16 (s)))))))))))))))))
def fC2_6 (s:Sch):Sch:=.fl 2 (.fl 3 (.fl 4 (.fl 5 (.fl 6 (s)))))
def fC3_7 (s:Sch):Sch:=.fl 3 (.fl 4 (.fl 5 (.fl 6 (.fl 7 (s)))))
def wBl (s:Sch):Sch:=.fl 7 (.fl 8 (.fl 9 (.fl 10 (.fl 11 (s)))))
def wOg (s:Sch):Sch:=.fl 9 (.fl 10 (.fl 11 (.fl 12 (.fl 13 (.fl 14 (s))))))
theorem zA:type_of% @wIx:=@wIx
theorem zB:type_of% @Tryz.sizeOf3:=@Tryz.sizeOf3
theorem zC:type_of% @wIw:=@wIw
theorem zD:type_of% @CK.seq:=@CK.seq
theorem zE:type_of% @Tryz.runUnderlying22:=@Tryz.runUnderlying22
theorem zF:type_of% @Tryz.isAgg3:=@Tryz.isAgg3
theorem zG:type_of% @Enters.mk:=@Enters.mk
theorem zH:type_of% @CK.ret:=@CK.ret
theorem zI:type_of% @Hid.mk:=@Hid.mk
theorem zJ:type_of% @OKS.callH:=@OKS.callH
theorem zK:type_of% @wFj:=@wFj
theorem zL:type_of% @wLp:=@wLp
theorem zM:type_of% @nQ:=@nQ
theorem zN:type_of% @Tryz.runUnderlying78:=@Tryz.runUnderlying78
theorem zO:type_of% @Tryz.sizeOf316:=@Tryz.sizeOf316
theorem zP:type_of% @Runs.addw:=@Runs.addw
theorem zQ:type_of% @wHi:=@wHi
theorem zR:type_of% @Tryz.runUnderlying81:=@Tryz.runUnderlying81
theorem zS:type_of% @CK.block:=@CK.block
theorem zU:type_of% @Runs.lss:=@Runs.lss
theorem zV:type_of% @Runs.pickT:=@Runs.pickT
theorem zW:type_of% @OKS.rm:=@OKS.rm
theorem zX:type_of% @Tryz.runUnderlying184:=@Tryz.runUnderlying184
theorem zY:type_of% @CK.condT:=@CK.condT
theorem zZ:type_of% @res1:=@res1
theorem zd:type_of% @OKS.r:=@OKS.r
theorem ze:type_of% @Runs.fa:=@Runs.fa
theorem zf:type_of% @wIv:=@wIv
theorem zg:type_of% @wFm:=@wFm
theorem zh:type_of% @Runs.len:=@Runs.len
theorem zi:type_of% @Tryz.runUnderlying88:=@Tryz.runUnderlying88
theorem zj:type_of% @PHeap.Le.refl:=@PHeap.Le.refl
theorem zk:type_of% @CK.condF:=@CK.condF
theorem zl:type_of% @Runs.pickF:=@Runs.pickF
theorem zm:type_of% @wNb:=@wNb
theorem zn:type_of% @Tryz.sizeOf90:=@Tryz.sizeOf90
theorem zo:type_of% @wHh:=@wHh
theorem zp:type_of% @Tryz.sizeOf88:=@Tryz.sizeOf88
theorem zq:type_of% @Runs.to:=@Runs.to
theorem zr:type_of% @OKS.buildSlice:=@OKS.buildSlice
theorem zt:type_of% @Tryz.runUnderlying90:=@Tryz.runUnderlying90
theorem zu:type_of% @Tryz.zeroValue316:=@Tryz.zeroValue316
theorem zw:type_of% @Tryz.isAgg316:=@Tryz.isAgg316
theorem zx:type_of% @Tryz.zeroValue90:=@Tryz.zeroValue90
theorem zy:type_of% @OKS.e:=@OKS.e
theorem zz:type_of% @OKS.m:=@OKS.m
theorem ZA:type_of% @wFk:=@wFk
theorem ZB:type_of% @Runs.iaN:=@Runs.iaN
theorem ZC:type_of% @Runs.nilp:=@Runs.nilp
theorem ZD:type_of% @Tryz.runUnderlying182:=@Tryz.runUnderlying182
theorem ZE:type_of% @CK.exit:=@CK.exit
theorem ZF:type_of% @Tryz.runUnderlying317:=@Tryz.runUnderlying317
theorem ZG:type_of% @Runs.iaI:=@Runs.iaI
theorem ZH:type_of% @Tryz.mixed:=@Tryz.mixed
theorem ZI:type_of% @CK.anyOrd:=@CK.anyOrd
theorem ZJ:type_of% @OKS.alloc:=@OKS.alloc
end Go.Proofs.YthbficbpebiekaaGreat
namespace Go.Proofs.YthbficbpebiekaaGreat
open Go.KL
set_option maxHeartbeats 4000000
theorem wFH (p0:List Int) (pA0:Option Addr) (pc0:Nat) (w:World) (U:PHeap) (hS:St0 w U []) (ha0:Sl U 1 pA0 pc0 p0.length (nA KL.encB8 p0)) {r:wAC} (hm:wBH p0=some r):Gv Tryz.prog 29 [.slice pA0 p0.length pc0] w (wCc w [] U (fun U_ L_ v=>∃ (b0:Nat) (A0p0:Option Addr) (c0p0:Nat),v=.pointer (some ⟨b0,0,none⟩)/\L_=[.blk b0 184 [.slice A0p0 r.bytes.length c0p0,jV r.next,.int .u32 r.state]]/\Sl U_ 1 A0p0 c0p0 r.bytes.length (nA KL.encB8 r.bytes))):=by
 unfold wBH at hm
 refine Gv.of Tryz.func29 Z Tryz.ntmps29 Tryz.results29 Z (sR fL1 Z (oA Z Z (eN (sR (.fl 0 (.fl 1 (.fx 2 (.fl 3 (.nil)) .stop))) Z (oM Z Z ?_)))))
 let B0:List Value:=[.slice pA0 p0.length pc0,jV 0,.int .u32 17]
 refine zd rfl rfl rfl rfl (fun _=>Runs.build (pv:=[(0,.slice pA0 p0.length pc0),(2,.int .u32 17)]) (z:=[.slice none 0 0,jV 0,.int .u32 0]) (cs:=B0) rfl (wAM rfl (wAM rfl wAt)) Tryz.zeroValue184 wKh rfl rfl) (OKS.box (cs:=B0) rfl rfl rfl rfl rfl rfl (by rfl) hS ?_)
 intro W1 b2 hS3
 refine oA Z Z (eN (zH ?_))
 cases hm
 exact ⟨Z,_,(zZ Z),U,_,hS3,b2,pA0,pc0,Z,Z,ha0⟩
theorem wBE (p0:wAC) (pb0:Nat) (pA0_0:Option Addr) (pc0_0:Nat) (p1:Int) (w:World) (U:PHeap) (hS:St0 w U [.blk pb0 184 [.slice pA0_0 p0.bytes.length pc0_0,jV p0.next,.int .u32 p0.state]]) (ha0:Sl U 1 pA0_0 pc0_0 p0.bytes.length (nA KL.encB8 p0.bytes)) {r:Int × wAC} (hm:wAR p0 p1=some r):Gv Tryz.prog 55 [.pointer (some ⟨pb0,0,none⟩),jV p1] w (wCc w [.blk pb0 184 [.slice pA0_0 p0.bytes.length pc0_0,jV p0.next,.int .u32 p0.state]] U (fun U_ L_ v=>∃ (Ao00:Option Addr) (co00:Nat),v=jV r.1/\L_=[.blk pb0 184 [.slice Ao00 r.2.bytes.length co00,jV r.2.next,.int .u32 r.2.state]]/\Sl U_ 1 Ao00 co00 r.2.bytes.length (nA KL.encB8 r.2.bytes))):=by
 unfold wAR at hm
 refine Gv.of Tryz.func55 Z Tryz.ntmps55 Tryz.results55 Z (sR fL1 Z (oA Z Z (eN (zD (sR fL10 Z (oM Z Z (oR Z (Runs.leq Z Z Z) (oM Z Z ?_))))))))
 by_cases c2:p1 <= 1
 ·have hm3:=hm;rw [if_pos c2] at hm3;replace c2:=zI c2
  refine oT Z c2 (oT Z c2 (oT Z c2 (oT Z c2 (oT Z c2 (oT Z c2 (oR Z (zV Z (wDV c2.out) Z) (eN (zY Z (sR fL1 Z (oA Z Z (eN (zH (zC ?_)))))))))))))
  cases hm3
  exact ⟨Z,_,(zZ Z),U,_,hS,pA0_0,pc0_0,Z,Z,ha0⟩
 ·have hm4:=hm;rw [if_neg c2] at hm4;replace c2:=zI c2
  refine zW Z Z Z (wF Z c2) Z Z (rU Z (wF Z c2) (ZC Z Z) (rU Z (wF Z c2) (ze Z Z zX Z Tryz.sizeOf60) (zz Z Z Z (wF Z c2) (hS.ldB (j:=0) Z Z Z Tryz.isAgg60 (v:=.slice pA0_0 p0.bytes.length pc0_0) Z) Z (rU Z (wF Z c2) (zh Z Z Tryz.runUnderlying60) (rU Z (wF Z c2) (Runs.eql Z Z Z) (oR Z (zl Z (zm c2.out) Z) (eN (ifc hm4 ?_ ?_))))))))
  ·intro c5 hm6
   refine cT Z c5 (sR fL1 Z (oA Z Z (eN (zH (zC ?_)))))
   cases hm6
   exact ⟨Z,_,(zZ Z),U,_,hS,pA0_0,pc0_0,Z,Z,ha0⟩
  ·intro c5 hm7
   refine cF Z c5 (kN (zD (ZI ZH [3,3,3,1,3,3,3,1,3,3,3,1,3,3,3,1,3,3,3,3,1,3,3,3,1,3,3,3,3,3] fL30 (by kernel_rfl) ?_)))
   have hS8:=hS.drew
   generalize hw_W9:({ w with drawn:=w.drawn + 1 }:World)=W9 at hS8 ⊢
   refine oM Z Z (oR Z (ZC Z Z) (oR Z (ze Z Z zX Z Tryz.sizeOf60) (oL Z (hS8.ldB (j:=0) Z Z Z Tryz.isAgg60 (v:=.slice pA0_0 p0.bytes.length pc0_0) Z) (oM Z Z (oR Z (ZC Z Z) (oR Z (ze Z Z zX Z zB) (oL Z (hS8.ldB (j:=0) Z Z Z zF (v:=jV p0.next) Z) (oM Z Z (oR Z (ZC Z Z) (oR Z (ze Z Z zX Z Tryz.sizeOf60) (oL Z (hS8.ldB (j:=0) Z Z Z Tryz.isAgg60 (v:=.slice pA0_0 p0.bytes.length pc0_0) Z) (oR Z (zh Z Z Tryz.runUnderlying60) (bnK hm7 fun x10 h11 hm12=>oR Z (Runs.rem Z Z Z h11) (bnK hm12 fun x13 h14 hm15=>?_))))))))))))))
   have q:=ha0.el (fun _=>rfl) (wBS h14)
   obtain ⟨b16,off17,hA18,hC19⟩:=q
   refine oR Z (ZG Z Z hA18 Z Tryz.runUnderlying60 Tryz.sizeOf5 (wEW h14) (wFX h14)) (oL Z (hS8.ldC (f:=0) hC19 (v:=.int .u8 x13) Z Z Tryz.isAgg5 Z) (oR Z (Runs.cvu Z Z Tryz.runUnderlying5 ZD Z Z) (oM Z Z (oR Z (ZC Z Z) (oR Z (ze Z Z zX Z zB) (oL Z (hS8.ldB (j:=0) Z Z Z zF (v:=jV p0.next) Z) (oM Z Z (oR Z (ZC Z Z) (oR Z (ze Z Z zX Z Tryz.sizeOf60) (oL Z (hS8.ldB (j:=0) Z Z Z Tryz.isAgg60 (v:=.slice pA0_0 p0.bytes.length pc0_0) Z) (oR Z (zh Z Z Tryz.runUnderlying60) (bnK hm15 fun x20 h21 hm22=>oR Z (Runs.quo Z Z Z h21) (oR Z (Runs.cvu Z Z Tryz.runUnderlying3 ZD Z Z) (oA Z Z (oA Z Z (eN (zD (CK.fresh fun σ23 hσ24=>?_))))))))))))))))))
   have f25:σ23 0=.pointer (some ⟨pb0,0,none⟩):=(hσ24 0).trans rfl
   have f26:σ23 1=jV p1:=(hσ24 1).trans rfl
   have f27:σ23 5=.int .u32 (wCW x13):=(hσ24 5).trans rfl
   have f28:σ23 6=.int .u32 (wCW x20):=(hσ24 6).trans rfl
   clear hσ24
   refine rR (fC0_6 (.fx 7 (.nil) .stop)) Z (oM Z f25 (oR Z (ZC Z Z) (oR Z (ze Z Z zX Z zB) (oL Z (hS8.ldB (j:=0) Z Z Z zF (v:=jV p0.next) Z) (oR Z (zP Z Z Z) (oR Z (ZC Z Z) (oR Z (ze Z Z zX Z zB) (OKS.st (j:=0) (vs:=[jV (w64 (p0.next + 1))]) Z Z Z Z hS8 Z Z Z Z zB (zM Z) Z Z Z ?_))))))))
   intro W29 hS30
   let B0:Res:=.blk pb0 184 [.slice pA0_0 p0.bytes.length pc0_0,jV p0.next,.int .u32 p0.state]
   have hS31:SW w [B0] U U [.blk pb0 184 [.slice pA0_0 p0.bytes.length pc0_0,jV (w64 (p0.next + 1)),.int .u32 p0.state]] W29:=hS30
   refine eN (sR (wOe (.fx 15 (.nil) .stop)) Z (oM Z f25 (oM Z f25 (oR Z (ZC Z Z) (oR Z (ze Z Z zX Z Tryz.sizeOf182) (oL Z (hS31.ldB (j:=0) Z Z Z Tryz.isAgg182 (v:=.int .u32 p0.state) Z) (oR Z (Runs.mulu Z Z Z) (oM Z f27 (oR Z (Runs.addu Z Z Z) (oM Z f28 (oR Z (Runs.mulu Z Z Z) (oR Z (Runs.addu Z Z Z) (oR Z (Runs.addu Z Z Z) (bnK hm22 fun x32 h33 hm34=>oR Z (Runs.rem Z Z Z h33) (oR Z (ZC Z Z) (oR Z (ze Z Z zX Z Tryz.sizeOf182) (OKS.st (j:=0) (vs:=[.int .u32 x32]) Z Z Z Z hS31 Z Z Z Z Tryz.sizeOf182 (zM Z) Z Z Z ?_)))))))))))))))))
   intro W35 hS36
   have hS37:SW w [B0] U U [.blk pb0 184 [.slice pA0_0 p0.bytes.length pc0_0,jV (w64 (p0.next + 1)),.int .u32 x32]] W35:=hS36
   refine eN (zD (sR fL6 Z (oM Z f28 (oR Z (Runs.eql Z Z Z) (oM Z Z (ifc hm34 ?_ ?_))))))
   ·intro c38 hm39
    refine zW Z Z Z (wT Z c38) Z f26 (rU Z (wT Z c38) (Runs.leq Z Z Z) (oR Z (zV Z (wDV c38.out) Z) (eN (ifc hm39 ?_ ?_))))
    ·intro c40 hm41
     refine cT Z c40 (sR fL5 Z (oM Z f27 (oR Z (Runs.cvw Z Z ZD Tryz.runUnderlying3 Z Z) (oM Z f26 (bnK hm41 fun x42 h43 hm44=>oR Z (Runs.rem Z Z Z h43) (oA Z Z (eN (zH (zC ?_)))))))))
     cases hm44
     exact ⟨Z,_,(zZ Z),U,_,hS37,pA0_0,pc0_0,Z,Z,ha0⟩
    ·intro c40 hm45
     refine cF Z c40 (kN (sR fL11 Z (oM Z f25 (oR Z (ZC Z Z) (oR Z (ze Z Z zX Z Tryz.sizeOf182) (oL Z (hS37.ldB (j:=0) Z Z Z Tryz.isAgg182 (v:=.int .u32 x32) Z) (oR Z (Runs.mulu Z Z Z) (oM Z f27 (oR Z (Runs.addu Z Z Z) (oR Z (Runs.cvw Z Z ZD Tryz.runUnderlying3 Z Z) (oM Z f26 (bnK hm45 fun x46 h47 hm48=>oR Z (Runs.rem Z Z Z h47) (oA Z Z (eN (zH ?_)))))))))))))))
     cases hm48
     exact ⟨Z,_,(zZ Z),U,_,hS37,pA0_0,pc0_0,Z,Z,ha0⟩
   ·intro c38 hm49
    refine oF Z c38 (oF Z c38 (oR Z (zl Z (zm c38.out) Z) (eN (zk Z (kN (sR fL11 Z (oM Z f25 (oR Z (ZC Z Z) (oR Z (ze Z Z zX Z Tryz.sizeOf182) (oL Z (hS37.ldB (j:=0) Z Z Z Tryz.isAgg182 (v:=.int .u32 x32) Z) (oR Z (Runs.mulu Z Z Z) (oM Z f27 (oR Z (Runs.addu Z Z Z) (oR Z (Runs.cvw Z Z ZD Tryz.runUnderlying3 Z Z) (oM Z f26 (bnK hm49 fun x50 h51 hm52=>oR Z (Runs.rem Z Z Z h51) (oA Z Z (eN (zH ?_)))))))))))))))))))
    cases hm52
    exact ⟨Z,_,(zZ Z),U,_,hS37,pA0_0,pc0_0,Z,Z,ha0⟩
theorem wAh (p0:wAC) (pb0:Nat) (pA0_0:Option Addr) (pc0_0:Nat) (p1:Int) (p2:Int) (w:World) (U:PHeap) (hS:St0 w U [.blk pb0 184 [.slice pA0_0 p0.bytes.length pc0_0,jV p0.next,.int .u32 p0.state]]) (ha0:Sl U 1 pA0_0 pc0_0 p0.bytes.length (nA KL.encB8 p0.bytes)) {r:Int × wAC} (hm:wAF p0 p1 p2=some r):Gv Tryz.prog 53 [.pointer (some ⟨pb0,0,none⟩),jV p1,jV p2] w (wCc w [.blk pb0 184 [.slice pA0_0 p0.bytes.length pc0_0,jV p0.next,.int .u32 p0.state]] U (fun U_ L_ v=>∃ (Ao00:Option Addr) (co00:Nat),v=jV r.1/\L_=[.blk pb0 184 [.slice Ao00 r.2.bytes.length co00,jV r.2.next,.int .u32 r.2.state]]/\Sl U_ 1 Ao00 co00 r.2.bytes.length (nA KL.encB8 r.2.bytes))):=by
 unfold wAF at hm
 refine Gv.of Tryz.func53 Z Tryz.ntmps53 Tryz.results53 Z (sR fL1 Z (oA Z Z (eN (sR (wOb (.fx 6 (.fl 7 (.fl 8 (.nil))) .stop)) Z (oM Z Z (oM Z Z (oM Z Z (oM Z Z (oR Z (Runs.subw Z Z Z) (oR Z (zP Z Z Z) ?_))))))))))
 have q:=bnd hm
 obtain ⟨⟨x2,x3⟩,h4,hm5⟩:=q
 try dsimp only at hm5
 refine zJ 1 Z Z Z Z (zG Z Z Tryz.call55 (zA Z (zA Z zL)) Z) hS (fun hs=>wBE p0 pb0 pA0_0 pc0_0 (w64 ((w64 (p2 - p1)) + 1)) w U hs ha0 h4) (.inl Z) ?_
 rintro U6 L7 v8 W9 le10 hS11 ⟨A12,c13,rfl,rfl,h14⟩
 have hS15:SW w [.blk pb0 184 [.slice pA0_0 p0.bytes.length pc0_0,jV p0.next,.int .u32 p0.state]] U U6 [.blk pb0 184 [.slice A12 x3.bytes.length c13,jV x3.next,.int .u32 x3.state]] W9:=hS11
 refine oR Z (zP Z Z Z) (oA Z Z (eN (zH ?_)))
 cases hm5
 exact ⟨Z,_,(zZ Z),U6,_,hS15,A12,c13,Z,Z,h14⟩
theorem wCC (p0:wAC) (pb0:Nat) (pA0_0:Option Addr) (pc0_0:Nat) (p1:Int) (w:World) (U:PHeap) (hS:St0 w U [.blk pb0 184 [.slice pA0_0 p0.bytes.length pc0_0,jV p0.next,.int .u32 p0.state]]) (ha0:Sl U 1 pA0_0 pc0_0 p0.bytes.length (nA KL.encB8 p0.bytes)) {r:(List Int) × wAC} (hm:wAX p0 p1=some r):Gv Tryz.prog 30 [.pointer (some ⟨pb0,0,none⟩),jV p1] w (wCc w [.blk pb0 184 [.slice pA0_0 p0.bytes.length pc0_0,jV p0.next,.int .u32 p0.state]] U (fun U_ L_ v=>∃ (A0:Option Addr) (c0:Nat) (Ao00:Option Addr) (co00:Nat),v=.slice A0 r.1.length c0/\L_=[.row A0 c0 3 1 (nA KL.encI r.1),.blk pb0 184 [.slice Ao00 r.2.bytes.length co00,jV r.2.next,.int .u32 r.2.state]]/\Sl U_ 1 Ao00 co00 r.2.bytes.length (nA KL.encB8 r.2.bytes))):=by
 unfold wAX at hm
 refine Gv.of Tryz.func30 Z Tryz.ntmps30 Tryz.results30 Z (sR fL1 Z (oA Z Z (eN (sR fL1 Z (oA Z Z (eN (zD (sR fL3 Z (oM Z Z (oR Z (Runs.max Z Z Z) (oM Z Z (eN (zS (bnK hm fun y24 hf21 hm20=>?_))))))))))))))
 have q:=wCm hf21
 obtain ⟨hle22,hf23⟩:=q
 replace hle22:=zI hle22
 let B0:Res:=.blk pb0 184 [.slice pA0_0 p0.bytes.length pc0_0,jV p0.next,.int .u32 p0.state]
 refine CK.forN' (fun k19 l15 σ_ w_=>∃ (U_:PHeap) (A16:Option Addr) (c17:Nat),σ_ 11=jV (↑k19:Int)/\σ_ 0=.pointer (some ⟨pb0,0,none⟩)/\σ_ 5=.slice A16 l15.length c17/\σ_ 10=jV (max 0 p1)/\PHeap.Le U U_/\SW w [B0] U U_ [B0,.row A16 c17 3 1 (nA KL.encI l15)] w_) hf23 ?_ ?_ ?_
 ·have hS25:=hS.nilrow 3 1
  exact ⟨U,none,0,rfl,rfl,rfl,rfl,(zj _),(hS25.pick [1,0] _ (by decide) rfl)⟩
 ·rintro k19 l15 xx29 σ27 W28 hk32 ⟨U34,A16,c17,fi33,f37,f38,f39,le35,hS36⟩ hx30
  have c40:Hid ((↑k19:Int) < (max 0 p1)):=zI (wCa hk32)
  replace hk32:=zI hk32
  have hi41:Hid (w64 ((↑k19:Int) + 1)=(↑(k19 + 1):Int)):=zI (by have h1:=hle22.out;have h2:=c40.out;rw [wAd] <;> omega)
  refine sR fL1 Z (oR Z (zU Z fi33 f39) (eN (zD (cT Z c40 (kN (zD (zS (sR fL2 Z (oM Z fi33 (oA Z Z (eN (rR (.fl 0 (.fl 1 (.fx 2 (.fx 3 (.fl 4 (.nil)) .stop) .stop))) Z (oM Z f38 (oM Z Z (zr (pv:=[(0,jV (↑k19:Int))]) (zs:=[jV 0]) (cs:=[jV (↑k19:Int)]) Z Z Z Z Z (wAM Z wAt) zE zB Tryz.zeroValue3 Z Z Z Z Z hS36 ?_)))))))))))))))
  intro W42 b43 hS44
  let B1:Res:=.row (some ⟨b43,0,none⟩) 1 3 1 (nA KL.encI [(↑k19:Int)])
  have hS46:SW w [B0] U U34 [B1,B0,.row A16 c17 3 1 (nA KL.encI l15)] W42:=hS44
  refine bnK hx30 fun x47 h48 hm49=>OKS.append (j:=2) (enc:=KL.encI) (xs:=l15) (ys:=[(↑k19:Int)]) (zs:=x47) rfl rfl rfl rfl rfl Tryz.underlying22 wLg rfl rfl rfl rfl rfl rfl hS46 rfl rfl rfl (hS46.srcR (j:=0) rfl (by decide) (wAH (f:=KL.encI) (sz:=1) (fun _=>rfl) [(↑k19:Int)])) (fun _=>rfl) (fun _=>rfl) h48 rfl ?_
  intro A50 c51 W52 hS53
  have hS54:SW w [B0] U U34 [B1,B0,.row A50 c51 3 1 (nA KL.encI x47)] W52:=hS53
  refine oA Z Z (zy (zo (zK (rR fL2 Z (oR Z (zq (zP Z fi33 Z) (congrArg (jV) hi41.out)) (oM Z Z (zy ?_)))))))
  cases hm49
  exact zK ⟨rfl,⟨U34,A50,c51,rfl,f37,rfl,f39,le35,(hS54.pick [1,2] _ (by decide) rfl)⟩⟩
 ·rintro σ58 W59 ⟨U67,A65,c66,fi61,f70,f71,f72,le68,hS69⟩
  have c73:Hid (¬ ((↑((max 0 p1:Int) - 0).toNat:Int) < (max 0 p1))):=zI (wBp)
  refine sR fL1 Z (oR Z (zU Z fi61 f72) (eN (zD (cF Z c73 (ZE (zf (zf (ZA (zK (zD (sR fL4 Z (oM Z f71 (oR Z (zh Z Z zE) (oR Z (Runs.subw Z Z Z) (oA Z Z (eN (zS (CK.iter (fun (l95,x98,x99,l100,x101) σ_ w_=>∃ (U_:PHeap) (A96:Option Addr) (c97:Nat),σ_ 0=.pointer (some ⟨pb0,0,none⟩)/\σ_ 5=.slice A65 l100.length c66/\σ_ 7=jV x101/\PHeap.Le U67 U_/\SW w [B0] U U_ [.blk pb0 184 [.slice A96 l95.length c97,jV x98,.int .u32 x99],.row A65 c66 3 1 (nA KL.encI l100)] w_/\Sl U_ 1 A96 c97 l95.length (nA KL.encB8 l95)/\l100.length=y24.length) hm20 ?_ ?_))))))))))))))))))
  ·have h102:=ha0.le le68
   exact ⟨U67,pA0_0,pc0_0,f70,f71,Z,(zj _),hS69,h102,Z⟩
  ·rintro ⟨l95,x98,x99,l100,x101⟩ xx105 σ103 W104 ⟨U110,A96,c97,f113,f114,f115,le111,hS112,h116,h117⟩ hx106 hb107
   try dsimp only at hx106
   refine zD (sR fL2 Z (oM Z f115 (oR Z (Runs.gtr Z Z Z) (eN ?_))))
   by_cases c118:0 < x101
   ·have hm119:=hx106;rw [if_pos c118] at hm119;replace c118:=zI c118
    refine cT Z c118 (kN (zD (zS (sR (wLn (.fx 3 (.fl 4 (.nil)) .stop)) Z (oM Z f113 (oM Z f115 (oR Z (zP Z Z Z) ?_)))))))
    have q:=bnd hm119
    obtain ⟨⟨x120,x121⟩,h122,hm123⟩:=q
    try dsimp only at hm123
    refine zJ 1 Z Z Z Z (zG Z Z Tryz.call55 (zA Z (zA Z zL)) Z) hS112 (fun hs=>wBE (⟨l95,x98,x99⟩:wAC) pb0 A96 c97 (w64 (x101 + 1)) W104 U110 hs h116 h122) (.inl Z) ?_
    rintro U124 L125 v126 W127 le128 hS129 ⟨A130,c131,rfl,rfl,h132⟩
    let B2:Res:=.blk pb0 184 [.slice A130 x121.bytes.length c131,jV x121.next,.int .u32 x121.state]
    have hS133:SW w [B0] U U124 [B2,.row A65 c66 3 1 (nA KL.encI l100)] W127:=hS129
    refine OKS.ra rfl rfl rfl rfl rfl rfl (eN (ZI ZH [3,3,3,3,3,3,3,1,3,3,3,1,3,0,3,0] (wOd (.fx 13 (.fl 14 (.fx 15 (.nil) .stop)) .stop)) (by kernel_rfl) ?_))
    have hS134:=hS133.drew
    generalize hw_W135:({ W127 with drawn:=W127.drawn + 1 }:World)=W135 at hS134 ⊢
    refine oM Z f114 (oM Z f115 (oM Z f114 (oM Z Z (oM Z f114 (oM Z Z (bnK hm123 fun _ h136 hm137=>?_))))))
    obtain ⟨b138,hA139⟩:=hS134.rowSome (j:=1) rfl (by rw [wAH (f:=KL.encI) (sz:=1) (fun _=>rfl) l100];have hz:=wAs h136;omega)
    refine oR Z (ZG Z Z hA139 Z zE zB (wDZ h136) (wDa h136)) ?_
    have hg140:=wBT (xs:=l100) (wAs h136)
    refine zz rfl rfl rfl rfl (hS134.ldR (j:=1) rfl hA139 rfl rfl zF (wBA (sz:=1) (fun _=>rfl) _ _ 0 _ hg140 (by first | omega | rfl | simp) rfl)) rfl (zW rfl rfl rfl rfl rfl f114 (zW rfl rfl rfl rfl rfl f115 (bnK hm137 fun _ h141 hm142=>zd rfl rfl rfl rfl (fun _=>ZG rfl rfl hA139 rfl zE zB (wDZ h141) (wDa h141)) ?_)))
    have hg143:=wBT (xs:=l100) (wAs h141)
    refine zz rfl rfl rfl rfl (hS134.ldR (j:=1) rfl hA139 rfl rfl zF (wBA (sz:=1) (fun _=>rfl) _ _ 0 _ hg143 (by first | omega | rfl | simp) rfl)) rfl (zd rfl rfl rfl rfl (fun _=>ZG rfl rfl hA139 rfl zE zB (wDZ h141) (wDa h141)) ?_)
    have hg144:=wBT (xs:=l100) (wAs h141)
    refine OKS.stR (j:=1) (vs:=[jV (gd l100 x120.toNat)]) (cs':=nA KL.encI (nJ l100 x101.toNat (gd l100 x120.toNat))) rfl rfl rfl rfl hS134 rfl hA139 rfl rfl rfl zB (by rw [wAH (f:=KL.encI) (sz:=1) (fun _=>rfl)];have hz:=wAs h141;simp only [nI,nG,nH,nM,nN];omega) rfl (wFn (sz:=1) (fo:=0) (fun _=>rfl) _ _ _ _ hg144 (by first | omega | (simp only [nI,nG,nH];omega)) (zM rfl) rfl) rfl ?_
    intro W145 hS146
    have hS147:SW w [B0] U U124 [B2,.row A65 c66 3 1 (nA KL.encI (nJ l100 x101.toNat (gd l100 x120.toNat)))] W145:=hS146
    refine bnK hm142 fun _ h148 hm149=>zd rfl rfl rfl rfl (fun _=>ZG rfl (nP (b:=(.slice A65 l100.length c66:Value)) (c:=(.slice A65 ((nJ l100 x101.toNat (gd l100 x120.toNat)).length) c66:Value)) rfl (by simp only [nL])) hA139 rfl zE zB (wDZ h148) (wDa h148)) ?_
    have hg150:=wBT (xs:=(nJ l100 x101.toNat (gd l100 x120.toNat))) (wAs h148)
    refine OKS.stR (j:=1) (vs:=[jV (gd l100 x101.toNat)]) (cs':=nA KL.encI (nJ (nJ l100 x101.toNat (gd l100 x120.toNat)) x120.toNat (gd l100 x101.toNat))) rfl rfl rfl rfl hS147 rfl hA139 rfl rfl rfl zB (by rw [wAH (f:=KL.encI) (sz:=1) (fun _=>rfl)];have hz:=wAs h148;simp only [nI,nG,nH,nM,nN];omega) rfl (wFn (sz:=1) (fo:=0) (fun _=>rfl) _ _ _ _ hg150 (by first | omega | (simp only [nI,nG,nH];omega)) (zM rfl) rfl) rfl ?_
    intro W151 hS152
    have hS153:SW w [B0] U U124 [B2,.row A65 c66 3 1 (nA KL.encI (nJ (nJ l100 x101.toNat (gd l100 x120.toNat)) x120.toNat (gd l100 x101.toNat)))] W151:=hS152
    refine zy (zo (zK (rR fL3 Z (oM Z f115 (oR Z (Runs.subw Z Z Z) (oA Z Z (zy ?_)))))))
    obtain rfl:=nB hm149
    exact zK ⟨rfl,_,rfl,⟨U124,A130,c131,f113,(nP (b:=(.slice A65 ((nJ l100 x101.toNat (gd l100 x120.toNat)).length) c66:Value)) (c:=(.slice A65 ((nJ (nJ l100 x101.toNat (gd l100 x120.toNat)) x120.toNat (gd l100 x101.toNat)).length) c66:Value)) (nP (b:=(.slice A65 l100.length c66:Value)) (c:=(.slice A65 ((nJ l100 x101.toNat (gd l100 x120.toNat)).length) c66:Value)) f114 (by simp only [nL])) (by simp only [nL])),rfl,(le111.trans le128),hS153,h132,(by simp only [nL];exact h117)⟩⟩
   ·have hm161:=hx106;rw [if_neg c118] at hm161;replace c118:=zI c118
    refine cF Z c118 (ZE (zf ?_))
    have q:=wBF hm161
    obtain ⟨v162,hm163,e164⟩:=q
    obtain rfl:=hb107 v162 e164
    refine zf (ZA (zK (sR fL2 Z (oM Z f114 (oA Z Z (eN (zH ?_)))))))
    cases hm163
    exact ⟨rfl,_,(zZ rfl),U110,_,(hS112.pick [1,0] _ (by decide) rfl),A65,c66,A96,c97,rfl,rfl,h116⟩
theorem wDN (p0:wAC) (pb0:Nat) (pA0_0:Option Addr) (pc0_0:Nat) (p1:Int) (w:World) (U:PHeap) (hS:St0 w U [.blk pb0 184 [.slice pA0_0 p0.bytes.length pc0_0,jV p0.next,.int .u32 p0.state]]) (ha0:Sl U 1 pA0_0 pc0_0 p0.bytes.length (nA KL.encB8 p0.bytes)) {r:(List wAA) × wAC} (hm:wAf p0 p1=some r):Gv Tryz.prog 37 [.pointer (some ⟨pb0,0,none⟩),jV p1] w (wCc w [.blk pb0 184 [.slice pA0_0 p0.bytes.length pc0_0,jV p0.next,.int .u32 p0.state]] U (fun U_ L_ v=>∃ (A0:Option Addr) (c0:Nat) (Ao00:Option Addr) (co00:Nat),v=.slice A0 r.1.length c0/\L_=[.row A0 c0 90 3 (nA wAB r.1),.blk pb0 184 [.slice Ao00 r.2.bytes.length co00,jV r.2.next,.int .u32 r.2.state]]/\Sl U_ 1 Ao00 co00 r.2.bytes.length (nA KL.encB8 r.2.bytes))):=by
 unfold wAf at hm
 refine Gv.of Tryz.func37 Z Tryz.ntmps37 Tryz.results37 Z (sR fL1 Z (oA Z Z (eN (sR fL1 Z (oA Z Z (eN (sR (.fl 0 (.fx 1 (.fl 2 (.nil)) .stop)) Z (oM Z Z ?_))))))))
 have q:=bnd hm
 obtain ⟨⟨x2,x3⟩,h4,hm5⟩:=q
 try dsimp only at hm5
 refine zJ 1 Z Z Z Z (zG Z Z Tryz.call53 (zA Z (zA Z (zA Z zL))) Z) hS (fun hs=>wAh p0 pb0 pA0_0 pc0_0 1 6 w U hs ha0 h4) (.inl Z) ?_
 rintro U6 L7 v8 W9 le10 hS11 ⟨A12,c13,rfl,rfl,h14⟩
 let B0:Res:=.blk pb0 184 [.slice pA0_0 p0.bytes.length pc0_0,jV p0.next,.int .u32 p0.state]
 have hS15:SW w [B0] U U6 [.blk pb0 184 [.slice A12 x3.bytes.length c13,jV x3.next,.int .u32 x3.state]] W9:=hS11
 refine oA Z Z (eN (sR (.fl 0 (.fx 1 (.fl 2 (.nil)) .stop)) Z (oM Z Z ?_)))
 have q:=bnd hm5
 obtain ⟨⟨x16,x17⟩,h18,hm19⟩:=q
 try dsimp only at hm19
 refine zJ 1 Z Z Z Z (zG Z Z Tryz.call30 (zA Z (zA Z zL)) Z) hS15 (fun hs=>wCC x3 pb0 A12 c13 60 W9 U6 hs h14 h18) (.inl Z) ?_
 rintro U20 L21 v22 W23 le24 hS25 ⟨A26,c27,A28,c29,rfl,rfl,h31⟩
 let B1:Res:=.row A26 c27 3 1 (nA KL.encI x16)
 let B2:Res:=.blk pb0 184 [.slice A28 x17.bytes.length c29,jV x17.next,.int .u32 x17.state]
 have hS32:SW w [B0] U U20 [B1,B2] W23:=hS25
 refine oA Z Z (eN (zD (sR (.fl 0 (.fl 1 (.fx 2 (.fl 3 (.nil)) .stop))) Z (oM Z Z (oM Z Z ?_)))))
 have q:=bnd hm19
 obtain ⟨⟨x33,x34⟩,h35,hm36⟩:=q
 try dsimp only at hm36
 have hS37:SW w [B0] U U20 [B2,B1] W23:=hS32.pick [1,0] _ (by decide) rfl
 refine zJ 1 Z Z Z Z (zG Z Z Tryz.call53 (zA Z (zA Z (zA Z zL))) Z) hS37 (fun hs=>wAh x17 pb0 A28 c29 1 p1 W23 U20 hs h31 h35) (.inl Z) ?_
 rintro U38 L39 v40 W41 le42 hS43 ⟨A44,c45,rfl,rfl,h46⟩
 have hS47:SW w [B0] U U38 [.blk pb0 184 [.slice A44 x34.bytes.length c45,jV x34.next,.int .u32 x34.state],B1] W41:=hS43
 refine oM Z Z (eN (zS ?_))
 have q:=bnd hm36
 obtain ⟨⟨y90,y91,y92,y93⟩,hf87,hm86⟩:=q
 try dsimp only at hm86
 have q:=wCm hf87
 obtain ⟨hle88,hf89⟩:=q
 replace hle88:=zI hle88
 refine CK.forN' (fun k85 (l76,x79,x80,l81) σ_ w_=>∃ (U_:PHeap) (A77:Option Addr) (c78:Nat) (A82:Option Addr) (c83:Nat),σ_ 16=jV (↑k85:Int)/\σ_ 0=.pointer (some ⟨pb0,0,none⟩)/\σ_ 5=.slice A82 l81.length c83/\σ_ 6=jV x2/\σ_ 7=.slice A26 x16.length c27/\σ_ 15=jV x33/\PHeap.Le U38 U_/\SW w [B0] U U_ [.blk pb0 184 [.slice A77 l76.length c78,jV x79,.int .u32 x80],.row A82 c83 90 3 (nA wAB l81),B1] w_/\Sl U_ 1 A77 c78 l76.length (nA KL.encB8 l76)) hf89 ?_ ?_ ?_
 ·have hS94:=hS47.nilrow 90 3
  exact ⟨U38,A44,c45,none,0,rfl,rfl,rfl,rfl,rfl,rfl,(zj _),(hS94.pick [1,0,2] _ (by decide) rfl),h46⟩
 ·rintro k85 ⟨l76,x79,x80,l81⟩ xx98 σ96 W97 hk101 ⟨U103,A77,c78,A82,c83,fi102,f106,f107,f108,f109,f110,le104,hS105,h111⟩ hx99
  try dsimp only at hx99
  have c112:Hid ((↑k85:Int) < x33):=zI (wCa hk101)
  replace hk101:=zI hk101
  have hi113:Hid (w64 ((↑k85:Int) + 1)=(↑(k85 + 1):Int)):=zI (by have h1:=hle88.out;have h2:=c112.out;rw [wAd] <;> omega)
  refine sR fL1 rfl (zd rfl rfl rfl rfl (fun _=>zU rfl fi102 f110) (eN (zD (cT Z c112 (kN (zD (zS (sR fL2 rfl (zW rfl rfl rfl rfl rfl fi102 (OKS.ra rfl rfl rfl rfl rfl rfl (eN (ZI ZH [3,3,3,3,1005,3,3,3,1005,3,3,3,1004,3,3,1005,3,3,2,0,3,pb0] (wLo (.fl 6 (.fl 7 (wOg (.fx 4 (.fl 5 (.fx 8 (.fx 15 (.fl 16 (.fl 17 (.fx 18 (.fx 19 (.fl 20 (.nil)) .stop) .stop))) .stop) .stop)) .stop))))) (by kernel_rfl) ?_))))))))))))
  have hS176:=hS105.drew
  generalize hw_W177:({ W97 with drawn:=W97.drawn + 1 }:World)=W177 at hS176 ⊢
  refine oM Z f107 (oM Z Z (oR Z (Runs.mulw Z Z Z) (oM Z f106 (oM Z f106 (oM Z f108 (oM Z f109 (oM Z Z (bnK hx99 fun _ h178 hm179=>?_))))))))
  obtain ⟨b180,hA181⟩:=hS176.rowSome (j:=2) rfl (by rw [wAH (f:=KL.encI) (sz:=1) (fun _=>rfl) x16];have hz:=wAs h178;omega)
  refine oR Z (ZB Z Z hA181 Z zE zB (wAs h178)) ?_
  have hg183:=wBT (xs:=x16) (wAs h178)
  let B3:Res:=.row A82 c83 90 3 (nA wAB l81)
  refine OKS.mt (T:=[pb0]) [0] [1,2] [B3,B1] rfl rfl rfl rfl hS176 rfl ⟨⟨0,by decide,_,rfl,rfl⟩,trivial⟩ (by decide) rfl (by decide) (fun _ hZ182=>(hZ182.ldR (j:=1) rfl hA181 rfl rfl zF (wBA (sz:=1) (fun _=>rfl) _ _ 0 _ hg183 (by first | omega | rfl | simp) rfl))) rfl (zd rfl rfl rfl rfl (fun _=>Runs.mulw rfl rfl rfl) (zW rfl rfl rfl rfl rfl f106 ?_))
  have q:=bnd hm179
  obtain ⟨⟨x184,x185⟩,h186,hm187⟩:=q
  try dsimp only at hm187
  refine OKS.callHT 1 rfl rfl rfl rfl (zG rfl rfl Tryz.call53 (zA rfl (zA rfl (zA rfl zL))) rfl) hS176 (fun hs=>wAh (⟨l76,x79,x80⟩:wAC) pb0 A77 c78 1 9 W177 U103 hs h111 h186) rfl (T:=[pb0]) rfl ⟨fun b h=>(by cases h;exact .head _),trivial⟩ ?_
  rintro U188 L189 v190 W191 le192 hS193 ⟨A194,c195,rfl,rfl,h196⟩
  have hS197:SW w [B0] U U188 [.blk pb0 184 [.slice A194 x185.bytes.length c195,jV x185.next,.int .u32 x185.state],B3,B1] W191:=hS193
  refine oR Z (zP Z Z Z) ?_
  have q:=bnd hm187
  obtain ⟨⟨x198,x199⟩,h200,hm201⟩:=q
  try dsimp only at hm201
  refine OKS.callHT 1 rfl rfl rfl rfl (zG rfl rfl Tryz.call55 (zA rfl (zA rfl zL)) rfl) hS197 (fun hs=>wBE x185 pb0 A194 c195 x2 W191 U188 hs h196 h200) rfl (T:=[pb0]) rfl ⟨fun b h=>(by cases h;exact .head _),trivial⟩ ?_
  rintro U202 L203 v204 W205 le206 hS207 ⟨A208,c209,rfl,rfl,h210⟩
  have hS211:SW w [B0] U U202 [.blk pb0 184 [.slice A208 x199.bytes.length c209,jV x199.next,.int .u32 x199.state],B3,B1] W205:=hS207
  have q:=bnd hm201
  obtain ⟨⟨x212,x213⟩,h214,hm215⟩:=q
  try dsimp only at hm215
  refine OKS.callHT 1 rfl rfl rfl rfl (zG rfl rfl Tryz.call53 (zA rfl (zA rfl (zA rfl zL))) rfl) hS211 (fun hs=>wAh x199 pb0 A208 c209 1 3 W205 U202 hs h210 h214) rfl (T:=[pb0]) rfl ⟨fun b h=>(by cases h;exact .head _),trivial⟩ ?_
  rintro U216 L217 v218 W219 le220 hS221 ⟨A222,c223,rfl,rfl,h224⟩
  let B4:Res:=.blk pb0 184 [.slice A222 x213.bytes.length c223,jV x213.next,.int .u32 x213.state]
  have hS225:SW w [B0] U U216 [B4,B3,B1] W219:=hS221
  refine oR Z (zP Z Z Z) ?_
  let B5:List Value:=[jV (w64 ((w64 (10 * (↑k85:Int))) + x184)),jV x198,jV (w64 ((w64 (3 * (gd x16 k85))) + x212))]
  let B6:List Value:=[jV 0,jV 0,jV 0]
  refine oR Z (Runs.build (pv:=[(0,jV (w64 ((w64 (10 * (↑k85:Int))) + x184))),(1,jV x198),(2,jV (w64 ((w64 (3 * (gd x16 k85))) + x212)))]) (z:=B6) (cs:=B5) Z (wAM Z (wAM Z (wAM Z wAt))) zx wIE Z Z) (zr (pv:=[(0,.agg B5.toArray)]) (zs:=B6) (cs:=B5) Z Z Z Z Z (wAM Z wAt) zN zn zx Z Z Z Z Z hS225 ?_)
  intro W226 b227 hS228
  let B7:Res:=.row (some ⟨b227,0,none⟩) 1 90 3 (nA wAB [(⟨w64 ((w64 (10 * (↑k85:Int))) + x184),x198,w64 ((w64 (3 * (gd x16 k85))) + x212)⟩:wAA)])
  have hS230:SW w [B0] U U216 [B7,B4,B3,B1] W226:=hS228
  refine bnK hm215 fun x231 h232 hm233=>OKS.append (j:=2) (enc:=wAB) (xs:=l81) (ys:=[(⟨w64 ((w64 (10 * (↑k85:Int))) + x184),x198,w64 ((w64 (3 * (gd x16 k85))) + x212)⟩:wAA)]) (zs:=x231) rfl rfl rfl rfl rfl Tryz.underlying78 wIF rfl rfl rfl rfl rfl rfl hS230 rfl rfl rfl (hS230.srcR (j:=0) rfl (by decide) (wAH (f:=wAB) (sz:=3) (fun _=>rfl) [(⟨w64 ((w64 (10 * (↑k85:Int))) + x184),x198,w64 ((w64 (3 * (gd x16 k85))) + x212)⟩:wAA)])) (fun _=>rfl) (fun _=>rfl) h232 rfl ?_
  intro A234 c235 W236 hS237
  have hS238:SW w [B0] U U216 [B7,B4,.row A234 c235 90 3 (nA wAB x231),B1] W236:=hS237
  refine oA Z Z (zy (zo (zK (rR fL2 Z (oR Z (zq (zP Z fi102 Z) (congrArg (jV) hi113.out)) (oM Z Z (zy ?_)))))))
  cases hm233
  exact zK ⟨rfl,⟨U216,A222,c223,A234,c235,rfl,f106,rfl,f108,f109,f110,(((le104.trans le192).trans le206).trans le220),(hS238.pick [1,2,3] _ (by decide) rfl),h224⟩⟩
 ·rintro σ247 W248 ⟨U263,A259,c260,A261,c262,fi250,f266,f267,f268,f269,f270,le264,hS265,h271⟩
  have c272:Hid (¬ ((↑((x33:Int) - 0).toNat:Int) < x33)):=zI (wBp)
  refine sR fL1 Z (oR Z (zU Z fi250 f270) (eN (zD (cF Z c272 (ZE (zf (zf (ZA (zK (sR fL2 Z (oM Z f267 (oA Z Z (eN (zH ?_))))))))))))))
  cases hm86
  exact ⟨rfl,_,(zZ rfl),U263,_,(hS265.pick [1,0] _ (by decide) rfl),A261,c262,A259,c260,rfl,rfl,h271⟩
theorem wDu (p0:Int) (p1:Int) (w:World) (U:PHeap) (hS:St0 w U [])  {r:Int} (hm:wAo p0 p1=some r):Gv Tryz.prog 38 [jV p0,jV p1] w (wCc w [] U (fun U_ L_ v=>v=jV r/\L_=[])):=by
 unfold wAo at hm
 refine Gv.of Tryz.func38 Z Tryz.ntmps38 Tryz.results38 Z (sR fL1 Z (oA Z Z (eN (zD (sR fL2 Z (oM Z Z (oR Z (Runs.leq Z Z Z) (eN ?_))))))))
 by_cases c1:p1 <= 0
 ·have hm2:=hm;rw [if_pos c1] at hm2;replace c1:=zI c1
  refine cT Z c1 (sR fL1 Z (oA Z Z (eN (zH (zC ?_)))))
  cases hm2
  exact ⟨Z,_,(zZ Z),U,_,hS,Z,Z⟩
 ·have hm3:=hm;rw [if_neg c1] at hm3;replace c1:=zI c1
  refine cF Z c1 (kN (sR fL8 Z (oM Z Z (oM Z Z (bnK hm3 fun x4 h5 hm6=>oR Z (Runs.rem Z Z Z h5) (oM Z Z (oR Z (zP Z Z Z) (oM Z Z (bnK hm6 fun x7 h8 hm9=>oR Z (Runs.rem Z Z Z h8) (oA Z Z (eN (zH ?_))))))))))))
  have hE:=nB hm9;first | subst r | cases hE
  exact ⟨Z,_,(zZ Z),U,_,hS,Z,Z⟩
theorem wCq (p0:Int) (p1:Int) (p2:Int) (w:World) (U:PHeap) (hS:St0 w U [])  {r:Bool} (hm:wBK p0 p1 p2=some r):Gv Tryz.prog 122 [jV p0,jV p1,jV p2] w (wCc w [] U (fun U_ L_ v=>v=.bool r/\L_=[])):=by
 unfold wBK at hm
 refine Gv.of Tryz.func122 Z Tryz.ntmps122 Tryz.results122 Z (sR fL1 Z (oA Z Z (eN (sR fL9 Z (oM Z Z (oM Z Z (oR Z (Runs.geq Z Z Z) (oM Z Z ?_))))))))
 by_cases c1:p1 <= p0
 ·have hm2:=hm;rw [if_pos c1] at hm2;replace c1:=zI c1
  refine zW Z Z Z (wT Z c1) Z Z (zW Z Z Z (wT Z c1) Z Z (rU Z (wT Z c1) (Runs.leq Z Z Z) (oR Z (zV Z (wDV c1.out) Z) (oA Z Z (eN (zH ?_))))))
  cases hm2
  exact ⟨Z,_,(zZ Z),U,_,hS,Z,Z⟩
 ·have hm3:=hm;rw [if_neg c1] at hm3;replace c1:=zI c1
  refine oF Z c1 (oF Z c1 (oF Z c1 (oR Z (zl Z (zm c1.out) Z) (oA Z Z (eN (zH ?_))))))
  have hE:=nB hm3;first | subst r | cases hE
  exact ⟨Z,_,(zZ Z),U,_,hS,Z,Z⟩
theorem wBc (p0:wAA) (w:World) (U:PHeap) (hS:St0 w U [])  {r:Int} (hm:wAK p0=some r):Gv Tryz.prog 272 [.agg #[jV p0.Bib,jV p0.Nation,jV p0.Rank]] w (wCc w [] U (fun U_ L_ v=>v=jV r/\L_=[])):=by
 unfold wAK at hm
 refine Gv.of Tryz.func272 rfl Tryz.ntmps272 Tryz.results272 rfl (sR (.fx 0 (.fl 1 (.nil)) .stop) rfl (OKS.box (cs:=[jV p0.Bib,jV p0.Nation,jV p0.Rank]) rfl rfl rfl rfl rfl rfl (by rfl) hS ?_))
 intro W1 b2 hS3
 refine oA Z Z (eN (sR fL3 Z (oR Z (ze Z Z zt Z zB) (oL Z (hS3.ldB (j:=0) Z Z Z zF (v:=jV p0.Bib) Z) (oA Z Z (eN (zH ?_)))))))
 cases hm
 exact ⟨rfl,_,(zZ rfl),U,_,(hS3.pick [] _ (by decide) rfl),rfl,rfl⟩
theorem wBd (p0:wAA) (w:World) (U:PHeap) (hS:St0 w U [])  {r:Int} (hm:wAL p0=some r):Gv Tryz.prog 273 [.agg #[jV p0.Bib,jV p0.Nation,jV p0.Rank]] w (wCc w [] U (fun U_ L_ v=>v=jV r/\L_=[])):=by
 unfold wAL at hm
 refine Gv.of Tryz.func273 rfl Tryz.ntmps273 Tryz.results273 rfl (sR (.fx 0 (.fl 1 (.nil)) .stop) rfl (OKS.box (cs:=[jV p0.Bib,jV p0.Nation,jV p0.Rank]) rfl rfl rfl rfl rfl rfl (by rfl) hS ?_))
 intro W1 b2 hS3
 refine oA Z Z (eN (sR fL3 Z (oR Z (ze Z Z zt Z zB) (oL Z (hS3.ldB (j:=0) Z Z Z zF (v:=jV p0.Rank) Z) (oA Z Z (eN (zH ?_)))))))
 cases hm
 exact ⟨rfl,_,(zZ rfl),U,_,(hS3.pick [] _ (by decide) rfl),rfl,rfl⟩
theorem wCH (p0:wAA) (w:World) (U:PHeap) (hS:St0 w U [])  {r:Int} (hm:wAS p0=some r):Gv Tryz.prog 274 [.agg #[jV p0.Bib,jV p0.Nation,jV p0.Rank]] w (wCc w [] U (fun U_ L_ v=>v=jV r/\L_=[])):=by
 unfold wAS at hm
 refine Gv.of Tryz.func274 rfl Tryz.ntmps274 Tryz.results274 rfl (sR (.fx 0 (.fl 1 (.nil)) .stop) rfl (OKS.box (cs:=[jV p0.Bib,jV p0.Nation,jV p0.Rank]) rfl rfl rfl rfl rfl rfl (by rfl) hS ?_))
 intro W1 b2 hS3
 refine oA Z Z (eN (sR fL3 Z (oR Z (ze Z Z zt Z zB) (oL Z (hS3.ldB (j:=0) Z Z Z zF (v:=jV p0.Nation) Z) (oA Z Z (eN (zH ?_)))))))
 cases hm
 exact ⟨rfl,_,(zZ rfl),U,_,(hS3.pick [] _ (by decide) rfl),rfl,rfl⟩
theorem wFI  (w:World) (U:PHeap) (hS:St0 w U [])  {r:Unit} (hm:wBV =some r):Gv Tryz.prog 212 [] w (wCc w [] U (fun U_ L_ v=>v=.agg #[.func (.func 272) #[] #[],jV 1,jV 999,.func (.func 273) #[] #[],jV 1,jV 9999,.func (.func 274) #[] #[],jV 0,jV 30]/\L_=[])):=by
 unfold wBV at hm
 refine Gv.of Tryz.func212 Z Tryz.ntmps212 Tryz.results212 Z (sR (.fx 0 (.nil) .stop) Z ?_)
 let B0:List Value:=[.nilFunc,jV 0,jV 0,.nilFunc,jV 0,jV 0,.nilFunc,jV 0,jV 0]
 refine ZJ (cs:=B0) Z Z Z Z Z Tryz.zeroValue317 Z hS ?_
 intro W1 b2 hS3
 refine eN (sR (wLo (.fx 4 (.nil) .stop)) Z ?_)
 let B1:List Value:=[.nilFunc,jV 0,jV 0]
 let B2:List Value:=[.func (.func 272) #[] #[],jV 1,jV 999]
 refine oR Z (Runs.build (pv:=[(0,.func (.func 272) #[] #[]),(1,jV 1),(2,jV 999)]) (z:=B1) (cs:=B2) Z (wAM Z (wAM Z (wAM Z wAt))) zu wFG Z Z) ?_
 let B3:List Value:=[.func (.func 273) #[] #[],jV 1,jV 9999]
 refine oR Z (Runs.build (pv:=[(0,.func (.func 273) #[] #[]),(1,jV 1),(2,jV 9999)]) (z:=B1) (cs:=B3) Z (wAM Z (wAM Z (wAM Z wAt))) zu wFG Z Z) ?_
 let B4:List Value:=[.func (.func 274) #[] #[],jV 0,jV 30]
 refine oR Z (Runs.build (pv:=[(0,.func (.func 274) #[] #[]),(1,jV 0),(2,jV 30)]) (z:=B1) (cs:=B4) Z (wAM Z (wAM Z (wAM Z wAt))) zu wFG Z Z) ?_
 let B5:List Value:=[.func (.func 272) #[] #[],jV 1,jV 999,.func (.func 273) #[] #[],jV 1,jV 9999,.func (.func 274) #[] #[],jV 0,jV 30]
 refine oR Z (Runs.buildA (pv:=[(0,.agg B2.toArray),(1,.agg B3.toArray),(2,.agg B4.toArray)]) (z:=B0) (cs:=B5) Z (wAM Z (wAM Z (wAM Z wAt))) Tryz.zeroValue317 ZF zO Z Z) (OKS.st (j:=0) (vs:=B5) Z Z Z Z hS3 Z Z Z Z Tryz.sizeOf317 (zM Z) Z Z Z ?_)
 intro W5 hS6
 have hS7:sW w U U [.blk b2 317 B5] W5:=hS6
 refine eN (zH ?_)
 cases hm
 exact ⟨rfl,_,(wNh (v:=.agg B5.toArray) ⟨⟨_,rfl,(wNi Tryz.isAgg317 Tryz.sizeOf317 (hS7.blkAt (k:=0) rfl) (vs:=B5) rfl rfl)⟩,trivial⟩),U,_,(hS7.pick [] _ (by decide) rfl),rfl,rfl⟩
theorem wAr (p0:wAE) (pv0_0:Value) (p1:List wAA) (pA1:Option Addr) (pc1:Nat) (w:World) (U:PHeap) (hS:St0 w U []) (ha0:FnOK Tryz.prog U pv0_0 wFR wFS p0.of) (ha1:Sl U 3 pA1 pc1 p1.length (nA wAB p1)) {r:(List Int)} (hm:wAU p0 p1=some r):Gv Tryz.prog 214 [.agg #[pv0_0,jV p0.lo,jV p0.hi],.slice pA1 p1.length pc1] w (wCc w [] U (fun U_ L_ v=>∃ (A0:Option Addr) (c0:Nat),v=.slice A0 r.length c0/\L_=[.row A0 c0 3 1 (nA KL.encI r)])):=by
 unfold wAU at hm
 refine Gv.of Tryz.func214 Z Tryz.ntmps214 Tryz.results214 Z (sR (.fx 0 (.fl 1 (.nil)) .stop) Z ?_)
 let B0:List Value:=[pv0_0,jV p0.lo,jV p0.hi]
 refine OKS.box (cs:=B0) rfl rfl rfl rfl rfl rfl (by rfl) hS ?_
 intro W1 b2 hS3
 refine oA Z Z (eN (sR fL1 Z (oA Z Z (eN (zD (sR fL3 Z (oM Z Z (oR Z (zh Z Z zN) (oM Z Z (eN (zS (bnK hm fun y27 hf24 hm23=>?_))))))))))))
 have q:=wCm hf24
 obtain ⟨hle25,hf26⟩:=q
 replace hle25:=zI hle25
 refine CK.forN' (fun k22 l18 σ_ w_=>∃ (U_:PHeap) (A19:Option Addr) (c20:Nat),σ_ 10=jV (↑k22:Int)/\σ_ 2=.pointer (some ⟨b2,0,none⟩)/\σ_ 5=.slice A19 l18.length c20/\σ_ 8=.slice pA1 p1.length pc1/\σ_ 9=jV (↑p1.length:Int)/\PHeap.Le U U_/\sW w U U_ [.blk b2 316 B0,.row A19 c20 3 1 (nA KL.encI l18)] w_) hf26 ?_ ?_ ?_
 ·have hS28:=hS3.nilrow 3 1
  exact ⟨U,none,0,rfl,rfl,rfl,rfl,rfl,(zj _),(hS28.pick [1,0] _ (by decide) rfl)⟩
 ·rintro k22 l18 xx32 σ30 W31 hk35 ⟨U37,A19,c20,fi36,f40,f41,f42,f43,le38,hS39⟩ hx33
  have c44:Hid ((↑k22:Int) < (↑p1.length:Int)):=zI (wCa hk35)
  replace hk35:=zI hk35
  have hi45:Hid (w64 ((↑k22:Int) + 1)=(↑(k22 + 1):Int)):=zI (by have h1:=hle25.out;have h2:=c44.out;rw [wAd] <;> omega)
  refine sR fL1 Z (oR Z (zU Z fi36 f43) (eN (zD (cT Z c44 (kN (zD (zS (sR (.fl 0 (.fl 1 (.fx 2 (.fx 3 (.nil) .stop) .stop))) Z (bnK hx33 fun x46 h47 hm48=>?_)))))))))
  have h49:=ha1.le le38
  have q:=h49.el (fun _=>rfl) (wBS h47)
  obtain ⟨b50,off51,hA52,hC53⟩:=q
  refine oR Z (ZB Z f42 hA52 fi36 zN zn (wDy h47)) (oL Z (hS39.ldCA (f:=0) hC53 Z Z Tryz.isAgg90 zn (us:=[jV x46.Bib,jV x46.Nation,jV x46.Rank]) Z Z) (ZJ (cs:=[jV 0,jV 0,jV 0]) Z Z Z Z Z zx Z hS39 ?_))
  intro W54 b55 hS56
  let B1:List Value:=[jV x46.Bib,jV x46.Nation,jV x46.Rank]
  refine OKS.st (j:=0) (vs:=B1) Z Z Z Z hS56 Z Z Z Z zn (zM Z) Z Z Z ?_
  intro W58 hS59
  let B2:Res:=.row A19 c20 3 1 (nA KL.encI l18)
  have hS60:sW w U U37 [.blk b55 90 B1,.blk b2 316 B0,B2] W58:=hS59
  refine eN (rR (wLo (.fx 4 (.fx 5 (.fx 6 (.fl 7 (.nil)) .stop) .stop) .stop)) Z (oM Z f41 (oR Z (ze Z f40 Tryz.runUnderlying316 Z Tryz.sizeOf314) (oL Z (hS60.ldB (j:=1) Z Z Z Tryz.isAgg314 (v:=pv0_0) Z) (oL Z (hS60.ldBA (j:=0) Z Z Z Tryz.isAgg90 zn (vs:=B1) Z Z) (bnK hm48 fun x61 h62 hm63=>?_))))))
  have h70:=ha0.le le38
  refine OKS.callV (a:=x46) Z Z Z Z Z Z (zA Z zL) hS60 h70 Z h62 ?_
  rintro U64 L65 v66 W67 le68 hS69 ⟨rfl,rfl⟩
  have hS71:sW w U U64 [.blk b55 90 B1,.blk b2 316 B0,B2] W67:=hS69
  refine zr (pv:=[(0,jV x61)]) (zs:=[jV 0]) (cs:=[jV x61]) Z Z Z Z Z (wAM Z wAt) zE zB Tryz.zeroValue3 Z Z Z Z Z hS71 ?_
  intro W72 b73 hS74
  let B3:Res:=.row (some ⟨b73,0,none⟩) 1 3 1 (nA KL.encI [x61])
  have hS76:sW w U U64 [B3,.blk b55 90 B1,.blk b2 316 B0,B2] W72:=hS74
  refine bnK hm63 fun x77 h78 hm79=>OKS.append (j:=3) (enc:=KL.encI) (xs:=l18) (ys:=[x61]) (zs:=x77) rfl rfl rfl rfl rfl Tryz.underlying22 wLg rfl rfl rfl rfl rfl rfl hS76 rfl rfl rfl (hS76.srcR (j:=0) rfl (by decide) (wAH (f:=KL.encI) (sz:=1) (fun _=>rfl) [x61])) (fun _=>rfl) (fun _=>rfl) h78 rfl ?_
  intro A80 c81 W82 hS83
  have hS84:sW w U U64 [B3,.blk b55 90 B1,.blk b2 316 B0,.row A80 c81 3 1 (nA KL.encI x77)] W82:=hS83
  refine oA Z Z (zy (zo (zK (rR fL2 Z (oR Z (zq (zP Z fi36 Z) (congrArg (jV) hi45.out)) (oM Z Z (zy ?_)))))))
  cases hm79
  exact zK ⟨rfl,⟨U64,A80,c81,rfl,f40,rfl,f42,f43,(le38.trans le68),(hS84.pick [2,3] _ (by decide) rfl)⟩⟩
 ·rintro σ88 W89 ⟨U97,A95,c96,fi91,f100,f101,f102,f103,le98,hS99⟩
  have c104:Hid (¬ ((↑(((↑p1.length:Int):Int) - 0).toNat:Int) < (↑p1.length:Int))):=zI (wBp)
  refine sR fL1 Z (oR Z (zU Z fi91 f103) (eN (zD (cF Z c104 (ZE (zf (zf (ZA (zK (sR fL2 Z (oM Z f101 (oA Z Z (eN (zH ?_))))))))))))))
  have hE:=nB hm23;first | subst r | cases hE
  exact ⟨rfl,_,(zZ rfl),U97,_,(hS99.pick [1] _ (by decide) rfl),A95,c96,rfl,rfl⟩
end Go.Proofs.YthbficbpebiekaaGreat
namespace Go.Proofs.YthbficbpebiekaaGreat
open Go.KL
set_option maxHeartbeats 4000000
theorem wBt (p0:Int) (p1:wAE) (pb1:Nat) (pv1_0:Value) (w:World) (U:PHeap) (hS:St0 w U []) (ha0:Cl U pb1 0 [pv1_0,jV p1.lo,jV p1.hi]) (ha1:FnOK Tryz.prog U pv1_0 wFR wFS p1.of) {r:Bool} (hm:wAT p0 p1=some r):Gv Tryz.prog 215 [jV p0,.pointer (some ⟨pb1,0,none⟩)] w (wCc w [] U (fun U_ L_ v=>v=.bool r/\L_=[])):=by
 unfold wAT at hm
 refine Gv.of Tryz.func215 Z Tryz.ntmps215 Tryz.results215 Z (sR fL1 Z (oA Z Z (eN (sR (fC0_4 (.fx 5 (.fl 6 (.nil)) .stop)) Z (oM Z Z (oR Z (ze Z Z Tryz.runUnderlying316 Z zB) (oL Z (hS.ldC (f:=1) ha0 (v:=jV p1.lo) Z Z zF Z) (oR Z (ze Z Z Tryz.runUnderlying316 Z zB) (oL Z (hS.ldC (f:=2) ha0 (v:=jV p1.hi) Z Z zF Z) (bnK hm fun x1 h2 hm3=>zJ 0 Z Z Z Z (zG Z Z Tryz.call122 (zA Z (zA Z (zA Z zL))) Z) hS (fun hs=>wCq p0 p1.lo p1.hi w U hs h2) (.inr Z) ?_))))))))))
 rintro U4 L5 v6 W7 le8 hS9 ⟨rfl,rfl⟩
 have hS10:sW w U U4 [] W7:=hS9
 refine oA Z Z (eN (zH ?_))
 have hE:=nB hm3;first | subst r | cases hE
 exact ⟨Z,_,(zZ Z),U4,_,hS10,Z,Z⟩
theorem wBu (p0:List Int) (pA0:Option Addr) (pc0:Nat) (p1:(Int->Option Bool)) (pv1:Value) (w:World) (U:PHeap) (hS:St0 w U []) (ha0:Sl U 1 pA0 pc0 p0.length (nA KL.encI p0)) (ha1:FnOK Tryz.prog U pv1 wLd wLe p1) {r:Bool} (hm:wAq p0 p1=some r):Gv Tryz.prog 213 [.slice pA0 p0.length pc0,pv1] w (wCc w [] U (fun U_ L_ v=>v=.bool r/\L_=[])):=by
 unfold wAq at hm
 refine Gv.of Tryz.func213 Z Tryz.ntmps213 Tryz.results213 Z (sR fL1 Z (oA Z Z (eN (zD (sR fL3 Z (oM Z Z (oR Z (zh Z Z zE) (oM Z Z (eN (zS ?_))))))))))
 have q:=wEZ hm
 obtain ⟨r3,hX4⟩:=q
 have q:=wEY hX4
 obtain ⟨hle5,hf6⟩:=q
 replace hle5:=zI hle5
 refine CK.forN (fun k2 _ σ_ w_=>∃ (U_:PHeap),σ_ 9=jV (↑k2:Int)/\σ_ 1=pv1/\σ_ 7=.slice pA0 p0.length pc0/\σ_ 8=jV (↑p0.length:Int)/\PHeap.Le U U_/\sW w U U_ [] w_) hf6 ?_ ?_ ?_
 ·exact ⟨U,Z,Z,Z,Z,(zj _),hS⟩
 ·rintro k2 ⟨⟩ xx9 σ7 W8 hk12 ⟨U14,fi13,f17,f18,f19,le15,hS16⟩ hx10 hb11
  try dsimp only at hx10
  have c20:Hid ((↑k2:Int) < (↑p0.length:Int)):=zI (wCa hk12)
  replace hk12:=zI hk12
  have hi21:Hid (w64 ((↑k2:Int) + 1)=(↑(k2 + 1):Int)):=zI (by have h1:=hle5.out;have h2:=c20.out;rw [wAd] <;> omega)
  refine sR fL1 Z (oR Z (zU Z fi13 f19) (eN (zD (cT Z c20 (kN (zD (zS (sR fL3 Z (bnK hx10 fun x22 h23 hm24=>?_)))))))))
  have h25:=ha0.le le15
  have q:=h25.el (fun _=>rfl) (wBS h23)
  obtain ⟨b26,off27,hA28,hC29⟩:=q
  refine oR Z (ZB Z f18 hA28 fi13 zE zB (wDy h23)) (oL Z (hS16.ldC (f:=0) hC29 (v:=jV x22) Z Z zF Z) (oA Z Z (eN (sR (.fl 0 (.fl 1 (.fx 2 (.fl 3 (.nil)) .stop))) Z (oM Z f17 (oM Z Z (bnK hm24 fun x30 h31 hm32=>?_)))))))
  have h39:=ha1.le le15
  refine OKS.callV (a:=x22) Z Z Z Z Z Z (zA Z zL) hS16 h39 Z h31 ?_
  rintro U33 L34 v35 W36 le37 hS38 ⟨rfl,rfl⟩
  have hS40:sW w U U33 [] W36:=hS38
  refine oR Z (Runs.notT Z Z) (eN (ifc hm32 ?_ ?_))
  ·intro c41 hm42
   refine zk (nC c41.out) (CK.skip (zo (zK (rR fL2 Z (oR Z (zq (zP Z fi13 Z) (congrArg (jV) hi21.out)) (oM Z Z (zy ?_)))))))
   obtain rfl:=nB hm42
   exact zK ⟨Z,_,Z,⟨U33,Z,f17,f18,f19,(le15.trans le37),hS40⟩⟩
  ·intro c41 hm43
   refine zY (nF (c41.out)) (sR fL1 Z (oA Z Z (eN (zH (zQ (zC ?_))))))
   have q:=wBF hm43
   obtain ⟨v44,hm45,e46⟩:=q
   obtain rfl:=wCQ hm hX4 (hb11 v44 e46)
   refine zC (zQ (zC ?_))
   have hE:=nB hm45;first | subst r | cases hE
   exact ⟨Z,_,(zZ Z),U33,_,hS40,Z,Z⟩
 ·rintro ⟨⟩ σ47 W48 ⟨U51,fi50,f54,f55,f56,le52,hS53⟩ hb49
  have hm57:=wGP hm hX4 hb49
  try dsimp only at hm57
  have c58:Hid (¬ ((↑(((↑p0.length:Int):Int) - 0).toNat:Int) < (↑p0.length:Int))):=zI (wBp)
  refine sR fL1 Z (oR Z (zU Z fi50 f56) (eN (zD (cF Z c58 (ZE (zf (zf (ZA (zK (sR fL1 Z (oA Z Z (eN (zH ?_)))))))))))))
  have hE:=nB hm57;first | subst r | cases hE
  exact ⟨Z,_,(zZ Z),U51,_,hS53,Z,Z⟩
theorem wDj (p0:List Int) (pA0:Option Addr) (pc0:Nat) (w:World) (U:PHeap) (hS:St0 w U []) (ha0:Sl U 1 pA0 pc0 p0.length (nA KL.encI p0)) {r:Bool} (hm:wBL p0=some r):Gv Tryz.prog 144 [.slice pA0 p0.length pc0] w (wCc w [] U (fun U_ L_ v=>v=.bool r/\L_=[])):=by
 unfold wBL at hm
 refine Gv.of Tryz.func144 Z Tryz.ntmps144 Tryz.results144 Z (sR fL1 Z (oA Z Z (eN (sR (.fx 0 (.fl 1 (.nil)) .stop) Z (OKS.makeMap Z Z Z Z Z hS ?_)))))
 intro W1 b2 hS3
 have hr4:=MpR.nil wOV mv74
 refine oA Z Z (eN (zD (sR fL3 Z (oM Z Z (oR Z (zh Z Z zE) (oM Z Z (eN (zS ?_))))))))
 have q:=wEZ hm
 obtain ⟨r21,hX22⟩:=q
 have q:=wEY hX22
 obtain ⟨hle23,hf24⟩:=q
 replace hle23:=zI hle23
 refine CK.forN (fun k20 l17 σ_ w_=>∃ (U_:PHeap) (es18:Array MapEntry) (ck19:Nat),σ_ 9=jV (↑k20:Int)/\σ_ 3=.map (some b2)/\σ_ 7=.slice pA0 p0.length pc0/\σ_ 8=jV (↑p0.length:Int)/\PHeap.Le U U_/\sW w U U_ [.obj b2 (.map es18 ck19)] w_/\MpR es18 wOV mv74 l17) hf24 ?_ ?_ ?_
 ·exact ⟨U,#[],0,Z,Z,Z,Z,(zj _),hS3,hr4⟩
 ·rintro k20 l17 xx27 σ25 W26 hk30 ⟨U32,es18,ck19,fi31,f35,f36,f37,le33,hS34,h38⟩ hx28 hb29
  have c39:Hid ((↑k20:Int) < (↑p0.length:Int)):=zI (wCa hk30)
  replace hk30:=zI hk30
  have hi40:Hid (w64 ((↑k20:Int) + 1)=(↑(k20 + 1):Int)):=zI (by have h1:=hle23.out;have h2:=c39.out;rw [wAd] <;> omega)
  refine sR fL1 Z (oR Z (zU Z fi31 f37) (eN (zD (cT Z c39 (kN (zD (zS (sR fL3 Z (bnK hx28 fun x41 h42 hm43=>?_)))))))))
  have h44:=ha0.le le33
  have q:=h44.el (fun _=>rfl) (wBS h42)
  obtain ⟨b45,off46,hA47,hC48⟩:=q
  refine oR Z (ZB Z f36 hA47 fi31 zE zB (wDy h42)) (oL Z (hS34.ldC (f:=0) hC48 (v:=jV x41) Z Z zF Z) (oA Z Z (eN (zD (sR fL3 Z (oM Z f35 (oM Z Z (oL Z (hS34.lookup1 (j:=0) (mk:=wOV) (mv:=mv74) (a:=x41) (z:=false) Z Z Z Z (wCR Tryz.runUnderlying74) wMI Tryz.zeroValue4 h38) (eN (ifc hm43 ?_ ?_))))))))))
  ·intro c49 hm50
   refine zY (congrArg nD c49.out) (sR fL1 Z (oA Z Z (eN (zH (zC (zQ (zC ?_)))))))
   have q:=wBF hm50
   obtain ⟨v51,hm52,e53⟩:=q
   obtain rfl:=wCQ hm hX22 (hb29 v51 e53)
   refine zC (zQ (zC ?_))
   have hE:=nB hm52;first | subst r | cases hE
   exact ⟨rfl,_,(zZ rfl),U32,_,(hS34.pick [] _ (by decide) rfl),rfl,rfl⟩
  ·intro c49 hm54
   refine zk (congrArg nD (nE.2 c49.out)) (kN (rR (.fl 0 (.fl 1 (.fx 2 (.nil) .stop))) rfl (zW rfl rfl rfl rfl rfl f35 (zW rfl rfl rfl rfl rfl rfl (OKS.mapPut (x:=.tmp 16) (y:=.tmp 17) (j:=0) (mk:=wOV) (mv:=mv74) (a:=x41) (v:=true) rfl rfl rfl (by first | exact .inl rfl | exact .inr rfl) hS34 rfl rfl rfl rfl (wCR Tryz.runUnderlying74) wMI h38 rfl ?_)))))
   intro es55 ck56 W57 hr58 hS59
   have hS60:sW w U U32 [.obj b2 (.map es55 ck56)] W57:=hS59
   refine zy (zo (zK (rR fL2 Z (oR Z (zq (zP Z fi31 Z) (congrArg (jV) hi40.out)) (oM Z Z (zy ?_))))))
   obtain rfl:=nB hm54
   exact zK ⟨Z,_,Z,⟨U32,es55,ck56,Z,f35,f36,f37,le33,hS60,hr58⟩⟩
 ·rintro y68 σ64 W65 ⟨U71,e69,c70,fi67,f74,f75,f76,le72,hS73,h77⟩ hb66
  have hm78:=wGP hm hX22 hb66
  have c79:Hid (¬ ((↑(((↑p0.length:Int):Int) - 0).toNat:Int) < (↑p0.length:Int))):=zI (wBp)
  refine sR fL1 Z (oR Z (zU Z fi67 f76) (eN (zD (cF Z c79 (ZE (zf (zf (ZA (zK (sR fL1 Z (oA Z Z (eN (zH ?_)))))))))))))
  have hE:=nB hm78;first | subst r | cases hE
  exact ⟨rfl,_,(zZ rfl),U71,_,(hS73.pick [] _ (by decide) rfl),rfl,rfl⟩
theorem wDk (p0:List wAA) (pA0:Option Addr) (pc0:Nat) (w:World) (U:PHeap) (hS:St0 w U []) (ha0:Sl U 3 pA0 pc0 p0.length (nA wAB p0)) {r:Int} (hm:wBM p0=some r):Gv Tryz.prog 121 [.slice pA0 p0.length pc0] w (wCc w [] U (fun U_ L_ v=>v=jV r/\L_=[])):=by
 unfold wBM at hm
 refine Gv.of Tryz.func121 Z Tryz.ntmps121 Tryz.results121 Z (sR fL1 Z (oA Z Z (eN (zD (sR (.fl 0 (.fl 1 (.fx 2 (.fl 3 (.nil)) .stop))) Z (oM Z Z (oR Z (zh Z Z zN) (bnK hm fun x1 h2 hm3=>zJ 0 Z Z Z Z (zG Z Z Tryz.call122 (zA Z (zA Z (zA Z zL))) Z) hS (fun hs=>wCq (↑p0.length:Int) 1 60 w U hs h2) (.inr Z) ?_))))))))
 rintro U4 L5 v6 W7 le8 hS9 ⟨rfl,rfl⟩
 have hS10:sW w U U4 [] W7:=hS9
 refine oR Z (Runs.notT Z Z) (eN (ifc hm3 ?_ ?_))
 ·intro c11 hm12
  refine zk (nC c11.out) (kN (sR (.fx 0 (.fx 1 (.fx 2 (.nil) .stop) .stop) .stop) Z ?_))
  have q:=bnd hm12
  obtain ⟨⟨⟩,h13,hm14⟩:=q
  try dsimp only at hm14
  refine zJ 0 Z Z Z Z (zG Z Z Tryz.call212 zL Z) hS10 (fun hs=>wFI W7 U4 hs h13) (.inr Z) ?_
  rintro U15 L16 v17 W18 le19 hS20 ⟨rfl,rfl⟩
  have hS21:sW w U U15 [] W18:=hS20
  refine ZJ (cs:=[.nilFunc,jV 0,jV 0,.nilFunc,jV 0,jV 0,.nilFunc,jV 0,jV 0]) Z Z Z Z Z Tryz.zeroValue317 Z hS21 ?_
  intro W22 b23 hS24
  let B0:List Value:=[.func (.func 272) #[] #[],jV 1,jV 999,.func (.func 273) #[] #[],jV 1,jV 9999,.func (.func 274) #[] #[],jV 0,jV 30]
  refine OKS.st (j:=0) (vs:=B0) Z Z Z Z hS24 Z Z Z Z Tryz.sizeOf317 (zM Z) Z Z Z ?_
  intro W26 hS27
  have hS28:sW w U U15 [.blk b23 317 B0] W26:=hS27
  refine eN (zD (sR fL2 rfl (zz rfl rfl rfl rfl (hS28.ldBA (j:=0) rfl rfl rfl Tryz.isAgg317 Tryz.sizeOf317 (vs:=B0) rfl rfl) rfl (zW rfl rfl rfl rfl rfl rfl (eN (zS (CK.unroll 4 (CKR.succ (sR fL1 rfl (zd rfl rfl rfl rfl (fun _=>zU rfl rfl rfl) (eN (zD (zY (wDV (by decide)) (kN (zD (zS (sR (.fl 0 (.fx 1 (.fx 2 (.nil) .stop) .stop)) rfl (zd rfl rfl rfl rfl (fun _=>(Runs.ixA (i:=0) rfl rfl rfl ZF zO (by decide) (by decide) (wCl zw zO rfl))) ?_))))))))))))))))))
  let B1:List Value:=[.nilFunc,jV 0,jV 0]
  refine ZJ (cs:=B1) Z Z Z Z Z zu Z hS28 ?_
  intro W29 b30 hS31
  let B2:List Value:=[.func (.func 272) #[] #[],jV 1,jV 999]
  refine OKS.st (j:=0) (vs:=B2) Z Z Z Z hS31 Z Z Z Z zO (zM Z) Z Z Z ?_
  intro W33 hS34
  have hS35:sW w U U15 [.blk b30 316 B2,.blk b23 317 B0] W33:=hS34
  refine eN (sR (.fl 0 (.fl 1 (.fx 2 (.fl 3 (.fx 4 (.fl 5 (.nil)) .stop)) .stop))) Z (oL Z (hS35.ldBA (j:=0) Z Z Z zw zO (vs:=B2) Z Z) (oM Z Z ?_)))
  have hF36:FnOK Tryz.prog U15 (.func (.func 272) #[] #[]) wFR wFS wAK:=⟨272,[],[],rfl,Tryz.call272,fun U1 w1 x y vs le hs ha hm=>by obtain rfl:=ha;exact wBc x w1 U1 hs  hm⟩
  have h37:=ha0.le le8
  have h38:=h37.le le19
  refine bnK hm14 fun x39 h40 hm41=>zJ 0 Z Z Z Z (zG Z Z Tryz.call214 (zA Z (zA Z zL)) Z) hS35 (fun hs=>wAr (⟨wAK,1,999⟩:wAE) (.func (.func 272) #[] #[]) p0 pA0 pc0 W33 U15 hs hF36 h38 h40) (.inr Z) ?_
  rintro U42 L43 v44 W45 le46 hS47 ⟨A48,c49,rfl,rfl⟩
  let B3:Res:=.row A48 c49 3 1 (nA KL.encI x39)
  have hS51:sW w U U42 [B3,.blk b30 316 B2,.blk b23 317 B0] W45:=hS47
  have q:=hS51.freeze (k:=1) rfl
  obtain ⟨U52,le53,hC54,hS55⟩:=q
  replace hC54:=Cl.of hC54
  have hS56:sW w U U52 [B3,.blk b23 317 B0] W45:=hS55
  replace hC54:Cl U52 b30 0 B2:=hC54
  refine oR Z (Runs.mkf Z zL (zA Z zL)) ?_
  have q:=hS56.freezeR (k:=0) (n:=x39.length) rfl (wAH (f:=KL.encI) (sz:=1) (fun _=>rfl) x39) (by decide)
  obtain ⟨U57,le58,hs59,hS60⟩:=q
  have hS61:sW w U U57 [.blk b23 317 B0] W45:=hS60
  have h62:=hC54.le le58
  have hF63:FnOK Tryz.prog U57 (.func (.func 272) #[] #[]) wFR wFS wAK:=⟨272,[],[],rfl,Tryz.call272,fun U1 w1 x y vs le hs ha hm=>by obtain rfl:=ha;exact wBc x w1 U1 hs  hm⟩
  have hF64:FnOK Tryz.prog U57 (.func (.func 215) #[] #[.pointer (some ⟨b30,0,none⟩)]) wLd wLe (fun x=>wAT x (⟨wAK,1,999⟩:wAE)):=⟨215,[],[.pointer (some ⟨b30,0,none⟩)],rfl,Tryz.call215,fun U1 w1 x y vs le hs ha hm=>by obtain rfl:=ha;exact wBt x (⟨wAK,1,999⟩:wAE) b30 (.func (.func 272) #[] #[]) w1 U1 hs (h62.le le) (hF63.le le) hm⟩
  refine bnK hm41 fun x65 h66 hm67=>zJ 0 Z Z Z Z (zG Z Z Tryz.call213 (zA Z (zA Z zL)) Z) hS61 (fun hs=>wBu x39 A48 c49 (fun x=>wAT x (⟨wAK,1,999⟩:wAE)) (.func (.func 215) #[] #[.pointer (some ⟨b30,0,none⟩)]) W45 U57 hs hs59 hF64 h66) (.inr Z) ?_
  rintro U68 L69 v70 W71 le72 hS73 ⟨rfl,rfl⟩
  have hS74:sW w U U68 [.blk b23 317 B0] W71:=hS73
  refine oR Z (Runs.notT Z Z) (eN (ifc hm67 ?_ ?_))
  ·intro c75 hm76
   refine zk (nC c75.out) (CK.skip (zo (zK (rR fL2 rfl (zd rfl rfl rfl rfl (fun _=>zq (zP rfl rfl rfl) (congrArg (jV) (show w64 (0 + 1)=1 by decide))) (zW rfl rfl rfl rfl rfl rfl (eN (CKR.succ (sR fL1 rfl (zd rfl rfl rfl rfl (fun _=>zU rfl rfl rfl) (eN (zD (zY (wDV (by decide)) (kN (zD (zS (sR (.fl 0 (.fx 1 (.fx 2 (.nil) .stop) .stop)) rfl (zd rfl rfl rfl rfl (fun _=>(Runs.ixA (i:=1) rfl rfl rfl ZF zO (by decide) (by decide) (wCl zw zO rfl))) (ZJ (cs:=B1) rfl rfl rfl rfl rfl zu rfl hS74 ?_)))))))))))))))))))
   intro W77 b78 hS79
   let B4:List Value:=[.func (.func 273) #[] #[],jV 1,jV 9999]
   refine OKS.st (j:=0) (vs:=B4) Z Z Z Z hS79 Z Z Z Z zO (zM Z) Z Z Z ?_
   intro W81 hS82
   have hS83:sW w U U68 [.blk b78 316 B4,.blk b23 317 B0] W81:=hS82
   refine eN (sR (.fl 0 (.fl 1 (.fx 2 (.fl 3 (.fx 4 (.fl 5 (.nil)) .stop)) .stop))) Z (oL Z (hS83.ldBA (j:=0) Z Z Z zw zO (vs:=B4) Z Z) (oM Z Z ?_)))
   have hF84:FnOK Tryz.prog U68 (.func (.func 273) #[] #[]) wFR wFS wAL:=⟨273,[],[],rfl,Tryz.call273,fun U1 w1 x y vs le hs ha hm=>by obtain rfl:=ha;exact wBd x w1 U1 hs  hm⟩
   have h85:=h38.le le46
   have h86:=h85.le le53
   have h87:=h86.le le58
   have h88:=h87.le le72
   refine bnK hm76 fun x89 h90 hm91=>zJ 0 Z Z Z Z (zG Z Z Tryz.call214 (zA Z (zA Z zL)) Z) hS83 (fun hs=>wAr (⟨wAL,1,9999⟩:wAE) (.func (.func 273) #[] #[]) p0 pA0 pc0 W81 U68 hs hF84 h88 h90) (.inr Z) ?_
   rintro U92 L93 v94 W95 le96 hS97 ⟨A98,c99,rfl,rfl⟩
   let B5:Res:=.row A98 c99 3 1 (nA KL.encI x89)
   have hS101:sW w U U92 [B5,.blk b78 316 B4,.blk b23 317 B0] W95:=hS97
   have q:=hS101.freeze (k:=1) rfl
   obtain ⟨U102,le103,hC104,hS105⟩:=q
   replace hC104:=Cl.of hC104
   have hS106:sW w U U102 [B5,.blk b23 317 B0] W95:=hS105
   replace hC104:Cl U102 b78 0 B4:=hC104
   refine oR Z (Runs.mkf Z zL (zA Z zL)) ?_
   have q:=hS106.freezeR (k:=0) (n:=x89.length) rfl (wAH (f:=KL.encI) (sz:=1) (fun _=>rfl) x89) (by decide)
   obtain ⟨U107,le108,hs109,hS110⟩:=q
   have hS111:sW w U U107 [.blk b23 317 B0] W95:=hS110
   have h112:=hC104.le le108
   have hF113:FnOK Tryz.prog U107 (.func (.func 273) #[] #[]) wFR wFS wAL:=⟨273,[],[],rfl,Tryz.call273,fun U1 w1 x y vs le hs ha hm=>by obtain rfl:=ha;exact wBd x w1 U1 hs  hm⟩
   have hF114:FnOK Tryz.prog U107 (.func (.func 215) #[] #[.pointer (some ⟨b78,0,none⟩)]) wLd wLe (fun x=>wAT x (⟨wAL,1,9999⟩:wAE)):=⟨215,[],[.pointer (some ⟨b78,0,none⟩)],rfl,Tryz.call215,fun U1 w1 x y vs le hs ha hm=>by obtain rfl:=ha;exact wBt x (⟨wAL,1,9999⟩:wAE) b78 (.func (.func 273) #[] #[]) w1 U1 hs (h112.le le) (hF113.le le) hm⟩
   refine bnK hm91 fun x115 h116 hm117=>zJ 0 Z Z Z Z (zG Z Z Tryz.call213 (zA Z (zA Z zL)) Z) hS111 (fun hs=>wBu x89 A98 c99 (fun x=>wAT x (⟨wAL,1,9999⟩:wAE)) (.func (.func 215) #[] #[.pointer (some ⟨b78,0,none⟩)]) W95 U107 hs hs109 hF114 h116) (.inr Z) ?_
   rintro U118 L119 v120 W121 le122 hS123 ⟨rfl,rfl⟩
   have hS124:sW w U U118 [.blk b23 317 B0] W121:=hS123
   refine oR Z (Runs.notT Z Z) (eN (ifc hm117 ?_ ?_))
   ·intro c125 hm126
    refine zk (nC c125.out) (CK.skip (zo (zK (rR fL2 rfl (zd rfl rfl rfl rfl (fun _=>zq (zP rfl rfl rfl) (congrArg (jV) (show w64 (1 + 1)=2 by decide))) (zW rfl rfl rfl rfl rfl rfl (eN (CKR.succ (sR fL1 rfl (zd rfl rfl rfl rfl (fun _=>zU rfl rfl rfl) (eN (zD (zY (wDV (by decide)) (kN (zD (zS (sR (.fl 0 (.fx 1 (.fx 2 (.nil) .stop) .stop)) rfl (zd rfl rfl rfl rfl (fun _=>(Runs.ixA (i:=2) rfl rfl rfl ZF zO (by decide) (by decide) (wCl zw zO rfl))) (ZJ (cs:=B1) rfl rfl rfl rfl rfl zu rfl hS124 ?_)))))))))))))))))))
    intro W127 b128 hS129
    let B6:List Value:=[.func (.func 274) #[] #[],jV 0,jV 30]
    refine OKS.st (j:=0) (vs:=B6) Z Z Z Z hS129 Z Z Z Z zO (zM Z) Z Z Z ?_
    intro W131 hS132
    have hS133:sW w U U118 [.blk b128 316 B6,.blk b23 317 B0] W131:=hS132
    refine eN (sR (.fl 0 (.fl 1 (.fx 2 (.fl 3 (.fx 4 (.fl 5 (.nil)) .stop)) .stop))) Z (oL Z (hS133.ldBA (j:=0) Z Z Z zw zO (vs:=B6) Z Z) (oM Z Z ?_)))
    have hF134:FnOK Tryz.prog U118 (.func (.func 274) #[] #[]) wFR wFS wAS:=⟨274,[],[],rfl,Tryz.call274,fun U1 w1 x y vs le hs ha hm=>by obtain rfl:=ha;exact wCH x w1 U1 hs  hm⟩
    have h135:=h88.le le96
    have h136:=h135.le le103
    have h137:=h136.le le108
    have h138:=h137.le le122
    refine bnK hm126 fun x139 h140 hm141=>zJ 0 Z Z Z Z (zG Z Z Tryz.call214 (zA Z (zA Z zL)) Z) hS133 (fun hs=>wAr (⟨wAS,0,30⟩:wAE) (.func (.func 274) #[] #[]) p0 pA0 pc0 W131 U118 hs hF134 h138 h140) (.inr Z) ?_
    rintro U142 L143 v144 W145 le146 hS147 ⟨A148,c149,rfl,rfl⟩
    let B7:Res:=.row A148 c149 3 1 (nA KL.encI x139)
    have hS151:sW w U U142 [B7,.blk b128 316 B6,.blk b23 317 B0] W145:=hS147
    have q:=hS151.freeze (k:=1) rfl
    obtain ⟨U152,le153,hC154,hS155⟩:=q
    replace hC154:=Cl.of hC154
    have hS156:sW w U U152 [B7,.blk b23 317 B0] W145:=hS155
    replace hC154:Cl U152 b128 0 B6:=hC154
    refine oR Z (Runs.mkf Z zL (zA Z zL)) ?_
    have q:=hS156.freezeR (k:=0) (n:=x139.length) rfl (wAH (f:=KL.encI) (sz:=1) (fun _=>rfl) x139) (by decide)
    obtain ⟨U157,le158,hs159,hS160⟩:=q
    have hS161:sW w U U157 [.blk b23 317 B0] W145:=hS160
    have h162:=hC154.le le158
    have hF163:FnOK Tryz.prog U157 (.func (.func 274) #[] #[]) wFR wFS wAS:=⟨274,[],[],rfl,Tryz.call274,fun U1 w1 x y vs le hs ha hm=>by obtain rfl:=ha;exact wCH x w1 U1 hs  hm⟩
    have hF164:FnOK Tryz.prog U157 (.func (.func 215) #[] #[.pointer (some ⟨b128,0,none⟩)]) wLd wLe (fun x=>wAT x (⟨wAS,0,30⟩:wAE)):=⟨215,[],[.pointer (some ⟨b128,0,none⟩)],rfl,Tryz.call215,fun U1 w1 x y vs le hs ha hm=>by obtain rfl:=ha;exact wBt x (⟨wAS,0,30⟩:wAE) b128 (.func (.func 274) #[] #[]) w1 U1 hs (h162.le le) (hF163.le le) hm⟩
    refine bnK hm141 fun x165 h166 hm167=>zJ 0 Z Z Z Z (zG Z Z Tryz.call213 (zA Z (zA Z zL)) Z) hS161 (fun hs=>wBu x139 A148 c149 (fun x=>wAT x (⟨wAS,0,30⟩:wAE)) (.func (.func 215) #[] #[.pointer (some ⟨b128,0,none⟩)]) W145 U157 hs hs159 hF164 h166) (.inr Z) ?_
    rintro U168 L169 v170 W171 le172 hS173 ⟨rfl,rfl⟩
    have hS174:sW w U U168 [.blk b23 317 B0] W171:=hS173
    refine oR Z (Runs.notT Z Z) (eN (ifc hm167 ?_ ?_))
    ·intro c175 hm176
     refine zk (nC c175.out) (CK.skip (zo (zK (CK.fresh fun σ177 hσ178=>?_))))
     have f179:σ177 0=.slice pA0 p0.length pc0:=(hσ178 0).trans rfl
     have f180:σ177 3=.pointer (some ⟨b23,0,none⟩):=(hσ178 3).trans rfl
     have f181:σ177 13=.agg B0.toArray:=(hσ178 13).trans rfl
     have f182:σ177 14=jV 2:=(hσ178 14).trans rfl
     clear hσ178
     refine rR fL2 rfl (zd rfl rfl rfl rfl (fun _=>zq (zP rfl f182 rfl) (congrArg (jV) (show w64 (2 + 1)=3 by decide))) (zW rfl rfl rfl rfl rfl rfl (eN (CKR.succ (sR fL1 rfl (zd rfl rfl rfl rfl (fun _=>zU rfl rfl rfl) (eN (zD (zk (zm (by decide)) (ZE (zf (zf (ZA (zK (zD (sR fL3 rfl (zd rfl rfl rfl rfl (fun _=>Runs.slAh (k:=2) rfl f180 rfl ZF zO (by decide)) (zd rfl rfl rfl rfl (fun _=>zh rfl rfl Tryz.runUnderlying319) (zW rfl rfl rfl rfl rfl rfl (eN (zS (CK.unroll 3 (CKR.succ (sR fL1 rfl (zd rfl rfl rfl rfl (fun _=>zU rfl rfl rfl) (eN (zD (zY (wDV (by decide)) (kN (zD (zS (sR (.fl 0 (.fl 1 (.fx 2 (.fx 3 (.nil) .stop) .stop))) rfl (zd rfl rfl rfl rfl (fun _=>zq (ZB (k:=0) rfl rfl rfl rfl Tryz.runUnderlying319 zO (by decide)) rfl) (zz rfl rfl rfl rfl (hS174.ldBA (j:=0) rfl rfl rfl zw zO (vs:=B2) rfl rfl) rfl (ZJ (cs:=B1) rfl rfl rfl rfl rfl zu rfl hS174 ?_)))))))))))))))))))))))))))))))))))
     intro W183 b184 hS185
     refine OKS.st (j:=0) (vs:=B2) Z Z Z Z hS185 Z Z Z Z zO (zM Z) Z Z Z ?_
     intro W187 hS188
     have hS189:sW w U U168 [.blk b184 316 B2,.blk b23 317 B0] W187:=hS188
     refine eN (sR (.fl 0 (.fl 1 (.fx 2 (.fx 3 (.nil) .stop) .stop))) Z (oL Z (hS189.ldBA (j:=0) Z Z Z zw zO (vs:=B2) Z Z) (oM Z f179 ?_)))
     have hF190:FnOK Tryz.prog U168 (.func (.func 272) #[] #[]) wFR wFS wAK:=⟨272,[],[],rfl,Tryz.call272,fun U1 w1 x y vs le hs ha hm=>by obtain rfl:=ha;exact wBc x w1 U1 hs  hm⟩
     have h191:=h138.le le146
     have h192:=h191.le le153
     have h193:=h192.le le158
     have h194:=h193.le le172
     refine bnK hm176 fun x195 h196 hm197=>zJ 0 Z Z Z Z (zG Z Z Tryz.call214 (zA Z (zA Z zL)) Z) hS189 (fun hs=>wAr (⟨wAK,1,999⟩:wAE) (.func (.func 272) #[] #[]) p0 pA0 pc0 W187 U168 hs hF190 h194 h196) (.inr Z) ?_
     rintro U198 L199 v200 W201 le202 hS203 ⟨A204,c205,rfl,rfl⟩
     have hS207:sW w U U198 [.row A204 c205 3 1 (nA KL.encI x195),.blk b184 316 B2,.blk b23 317 B0] W201:=hS203
     have q:=hS207.freezeR (k:=0) (n:=x195.length) rfl (wAH (f:=KL.encI) (sz:=1) (fun _=>rfl) x195) (by decide)
     obtain ⟨U208,le209,hs210,hS211⟩:=q
     have hS212:sW w U U208 [.blk b184 316 B2,.blk b23 317 B0] W201:=hS211
     refine bnK hm197 fun x213 h214 hm215=>zJ 0 Z Z Z Z (zG Z Z Tryz.call144 (zA Z zL) Z) hS212 (fun hs=>wDj x195 A204 c205 W201 U208 hs hs210 h214) (.inr Z) ?_
     rintro U216 L217 v218 W219 le220 hS221 ⟨rfl,rfl⟩
     have hS222:sW w U U216 [.blk b184 316 B2,.blk b23 317 B0] W219:=hS221
     refine eN (ifc hm215 ?_ ?_)
     ·intro c223 hm224
      refine zY (congrArg nD c223.out) (sR fL1 Z (oA Z Z (eN (zH (zQ (zC (zC (zQ (zC ?_)))))))))
      cases hm224
      exact ⟨rfl,_,(zZ rfl),U216,_,(hS222.pick [] _ (by decide) rfl),rfl,rfl⟩
     ·intro c223 hm225
      refine zk (congrArg nD (nE.2 c223.out)) (CK.skip (zo (zK (rR fL2 rfl (zd rfl rfl rfl rfl (fun _=>zq (zP rfl rfl rfl) (congrArg (jV) (show w64 (0 + 1)=1 by decide))) (zW rfl rfl rfl rfl rfl rfl (eN (CKR.succ (sR fL1 rfl (zd rfl rfl rfl rfl (fun _=>zU rfl rfl rfl) (eN (zD (zY (wDV (by decide)) (kN (zD (zS (sR (.fl 0 (.fl 1 (.fx 2 (.fx 3 (.nil) .stop) .stop))) rfl (zd rfl rfl rfl rfl (fun _=>zq (ZB (k:=1) rfl rfl rfl rfl Tryz.runUnderlying319 zO (by decide)) rfl) (zz rfl rfl rfl rfl (hS222.ldBA (j:=1) rfl rfl rfl zw zO (vs:=B4) rfl rfl) rfl (ZJ (cs:=B1) rfl rfl rfl rfl rfl zu rfl hS222 ?_))))))))))))))))))))
      intro W226 b227 hS228
      refine OKS.st (j:=0) (vs:=B4) Z Z Z Z hS228 Z Z Z Z zO (zM Z) Z Z Z ?_
      intro W230 hS231
      have hS232:sW w U U216 [.blk b227 316 B4,.blk b184 316 B2,.blk b23 317 B0] W230:=hS231
      refine eN (sR (.fl 0 (.fl 1 (.fx 2 (.fx 3 (.nil) .stop) .stop))) Z (oL Z (hS232.ldBA (j:=0) Z Z Z zw zO (vs:=B4) Z Z) (oM Z f179 ?_)))
      have hF233:FnOK Tryz.prog U216 (.func (.func 273) #[] #[]) wFR wFS wAL:=⟨273,[],[],rfl,Tryz.call273,fun U1 w1 x y vs le hs ha hm=>by obtain rfl:=ha;exact wBd x w1 U1 hs  hm⟩
      have h234:=h194.le le202
      have h235:=h234.le le209
      have h236:=h235.le le220
      refine bnK hm225 fun x237 h238 hm239=>zJ 0 Z Z Z Z (zG Z Z Tryz.call214 (zA Z (zA Z zL)) Z) hS232 (fun hs=>wAr (⟨wAL,1,9999⟩:wAE) (.func (.func 273) #[] #[]) p0 pA0 pc0 W230 U216 hs hF233 h236 h238) (.inr Z) ?_
      rintro U240 L241 v242 W243 le244 hS245 ⟨A246,c247,rfl,rfl⟩
      have hS249:sW w U U240 [.row A246 c247 3 1 (nA KL.encI x237),.blk b227 316 B4,.blk b184 316 B2,.blk b23 317 B0] W243:=hS245
      have q:=hS249.freezeR (k:=0) (n:=x237.length) rfl (wAH (f:=KL.encI) (sz:=1) (fun _=>rfl) x237) (by decide)
      obtain ⟨U250,le251,hs252,hS253⟩:=q
      have hS254:sW w U U250 [.blk b227 316 B4,.blk b184 316 B2,.blk b23 317 B0] W243:=hS253
      refine bnK hm239 fun x255 h256 hm257=>zJ 0 Z Z Z Z (zG Z Z Tryz.call144 (zA Z zL) Z) hS254 (fun hs=>wDj x237 A246 c247 W243 U250 hs hs252 h256) (.inr Z) ?_
      rintro U258 L259 v260 W261 le262 hS263 ⟨rfl,rfl⟩
      have hS264:sW w U U258 [.blk b227 316 B4,.blk b184 316 B2,.blk b23 317 B0] W261:=hS263
      refine eN (ifc hm257 ?_ ?_)
      ·intro c265 hm266
       refine zY (congrArg nD c265.out) (sR fL1 Z (oA Z Z (eN (zH (zQ (zC (zC (zQ (zC ?_)))))))))
       cases hm266
       exact ⟨rfl,_,(zZ rfl),U258,_,(hS264.pick [] _ (by decide) rfl),rfl,rfl⟩
      ·intro c265 hm267
       refine zk (congrArg nD (nE.2 c265.out)) (CK.skip (zo (zK (rR fL2 rfl (zd rfl rfl rfl rfl (fun _=>zq (zP rfl rfl rfl) (congrArg (jV) (show w64 (1 + 1)=2 by decide))) (zW rfl rfl rfl rfl rfl rfl (eN (CKR.succ (sR fL1 rfl (zd rfl rfl rfl rfl (fun _=>zU rfl rfl rfl) (eN (zD (zk (zm (by decide)) (ZE (zf (zf (ZA (zK (sR fL1 rfl (OKS.ra rfl rfl rfl rfl rfl rfl (eN (zH ?_))))))))))))))))))))))
       cases hm267
       exact ⟨rfl,_,(zZ rfl),U258,_,(hS264.pick [] _ (by decide) rfl),rfl,rfl⟩
    ·intro c175 hm268
     refine zY (nF (c175.out)) (sR fL1 Z (oA Z Z (eN (zH (zQ (zC (zC (zQ (zC ?_)))))))))
     cases hm268
     exact ⟨rfl,_,(zZ rfl),U168,_,(hS174.pick [] _ (by decide) rfl),rfl,rfl⟩
   ·intro c125 hm269
    refine zY (nF (c125.out)) (sR fL1 Z (oA Z Z (eN (zH (zQ (zC (zC (zQ (zC ?_)))))))))
    cases hm269
    exact ⟨rfl,_,(zZ rfl),U118,_,(hS124.pick [] _ (by decide) rfl),rfl,rfl⟩
  ·intro c75 hm270
   refine zY (nF (c75.out)) (sR fL1 Z (oA Z Z (eN (zH (zQ (zC (zC (zQ (zC ?_)))))))))
   cases hm270
   exact ⟨rfl,_,(zZ rfl),U68,_,(hS74.pick [] _ (by decide) rfl),rfl,rfl⟩
 ·intro c11 hm271
  refine zY (nF (c11.out)) (sR fL1 Z (oA Z Z (eN (zH (zC ?_)))))
  cases hm271
  exact ⟨Z,_,(zZ Z),U4,_,hS10,Z,Z⟩
theorem wCj (p0:Int) (w:World) (U:PHeap) (hS:St0 w U [])  {r:Bool} (hm:wBI p0=some r):Gv Tryz.prog 236 [jV p0] w (wCc w [] U (fun U_ L_ v=>v=.bool r/\L_=[])):=by
 unfold wBI at hm
 refine Gv.of Tryz.func236 Z Tryz.ntmps236 Tryz.results236 Z (sR fL1 Z (oA Z Z (eN (sR fL4 Z (oM Z Z (oM Z Z (oR Z (Runs.neq Z Z Z) (oA Z Z (eN (zH ?_))))))))))
 cases hm
 exact ⟨Z,_,(zZ Z),U,_,hS,Z,Z⟩
theorem wDv (p0:Int) (p1:Int) (w:World) (U:PHeap) (hS:St0 w U [])  {r:Int} (hm:wAx p0 p1=some r):Gv Tryz.prog 158 [jV p0,jV p1] w (wCc w [] U (fun U_ L_ v=>v=jV r/\L_=[])):=by
 unfold wAx at hm
 refine Gv.of Tryz.func158 Z Tryz.ntmps158 Tryz.results158 Z (sR fL1 Z (oA Z Z (eN (sR (.fl 0 (.fx 1 (.fl 2 (.nil)) .stop)) Z (oM Z Z (bnK hm fun x1 h2 hm3=>zJ 0 Z Z Z Z (zG Z Z Tryz.call236 (zA Z zL) Z) hS (fun hs=>wCj p0 w U hs h2) (.inr Z) ?_))))))
 rintro U4 L5 v6 W7 le8 hS9 ⟨rfl,rfl⟩
 have hS10:sW w U U4 [] W7:=hS9
 refine oA Z Z (eN (sR (.fl 0 (.fx 1 (.fl 2 (.nil)) .stop)) Z (oM Z Z (bnK hm3 fun x11 h12 hm13=>zJ 0 Z Z Z Z (zG Z Z Tryz.call236 (zA Z zL) Z) hS10 (fun hs=>wCj p1 W7 U4 hs h12) (.inr Z) ?_))))
 rintro U14 L15 v16 W17 le18 hS19 ⟨rfl,rfl⟩
 have hS20:sW w U U14 [] W17:=hS19
 refine oA Z Z (eN (zD (sR fL1 Z (oM Z Z (eN (ifc hm13 ?_ ?_))))))
 ·intro c21 hm22
  refine zY (congrArg nD c21.out) (zD (sR fL1 Z (oM Z Z (eN (ifc hm22 ?_ ?_)))))
  ·intro c23 hm24
   refine zY (congrArg nD c23.out) (sR fL1 Z (oA Z Z (eN (zH (zC (zC ?_))))))
   cases hm24
   exact ⟨Z,_,(zZ Z),U14,_,hS20,Z,Z⟩
  ·intro c23 hm25
   refine zk (congrArg nD (nE.2 c23.out)) (kN (sR fL1 Z (oA Z Z (eN (zH (zC ?_))))))
   cases hm25
   exact ⟨Z,_,(zZ Z),U14,_,hS20,Z,Z⟩
 ·intro c21 hm26
  refine zk (congrArg nD (nE.2 c21.out)) (kN (zD (sR fL1 Z (oM Z Z (eN (ifc hm26 ?_ ?_))))))
  ·intro c27 hm28
   refine zY (congrArg nD c27.out) (sR fL1 Z (oA Z Z (eN (zH (zC ?_)))))
   cases hm28
   exact ⟨Z,_,(zZ Z),U14,_,hS20,Z,Z⟩
  ·intro c27 hm29
   refine zk (congrArg nD (nE.2 c27.out)) (kN (zD (sR fL3 Z (oM Z Z (oM Z Z (oR Z (zU Z Z Z) (eN (ifc hm29 ?_ ?_))))))))
   ·intro c30 hm31
    refine cT Z c30 (sR fL1 Z (oA Z Z (eN (zH (zC ?_)))))
    cases hm31
    exact ⟨Z,_,(zZ Z),U14,_,hS20,Z,Z⟩
   ·intro c30 hm32
    refine cF Z c30 (kN (zD (sR fL3 Z (oM Z Z (oM Z Z (oR Z (Runs.gtr Z Z Z) (eN (ifc hm32 ?_ ?_))))))))
    ·intro c33 hm34
     refine cT Z c33 (sR fL1 Z (oA Z Z (eN (zH (zC ?_)))))
     cases hm34
     exact ⟨Z,_,(zZ Z),U14,_,hS20,Z,Z⟩
    ·intro c33 hm35
     refine cF Z c33 (kN (sR fL1 Z (oA Z Z (eN (zH ?_)))))
     cases hm35
     exact ⟨Z,_,(zZ Z),U14,_,hS20,Z,Z⟩
theorem wEJ (p0:Int) (p1:Int) (p2:List wAA) (pb2:Nat) (pA2:Option Addr) (pc2:Nat) (w:World) (U:PHeap) (hS:St0 w U []) (ha0:Cl U pb2 0 [.slice pA2 p2.length pc2]) (ha1:Sl U 3 pA2 pc2 p2.length (nA wAB p2)) {r:Int} (hm:wAW p0 p1 p2=some r):Gv Tryz.prog 217 [jV p0,jV p1,.pointer (some ⟨pb2,0,none⟩)] w (wCc w [] U (fun U_ L_ v=>v=jV r/\L_=[])):=by
 unfold wAW at hm
 refine Gv.of Tryz.func217 rfl Tryz.ntmps217 Tryz.results217 rfl (sR fL1 rfl (OKS.ra rfl rfl rfl rfl rfl rfl (eN (zD (ZI ZH [1,3,3,3,1,1,3,3,3,1,2,3] (fC0_9 (.fx 10 (.fl 11 (.nil)) .stop)) (by kernel_rfl) ?_)))))
 have hS1:=hS.drew
 generalize hw_W2:({ w with drawn:=w.drawn + 1 }:World)=W2 at hS1 ⊢
 refine oL Z (hS1.ldC (f:=0) ha0 (v:=.slice pA2 p2.length pc2) Z Z Tryz.isAgg78 Z) (oM Z Z (bnK hm fun x3 h4 hm5=>?_))
 have q:=ha1.el (fun _=>rfl) (wBS h4)
 obtain ⟨b6,off7,hA8,hC9⟩:=q
 refine oR Z (ZG Z Z hA8 Z zN zn (wEW h4) (wFX h4)) (oR Z (ze Z Z zt Z zB) (oL Z (hS1.ldC (f:=2) hC9 (v:=jV x3.Rank) Z Z zF Z) (oL Z (hS1.ldC (f:=0) ha0 (v:=.slice pA2 p2.length pc2) Z Z Tryz.isAgg78 Z) (oM Z Z (bnK hm5 fun x10 h11 hm12=>?_)))))
 have q:=ha1.el (fun _=>rfl) (wBS h11)
 obtain ⟨b13,off14,hA15,hC16⟩:=q
 refine oR Z (ZG Z Z hA15 Z zN zn (wEW h11) (wFX h11)) (oR Z (ze Z Z zt Z zB) (oL Z (hS1.ldC (f:=2) hC16 (v:=jV x10.Rank) Z Z zF Z) (bnK hm12 fun x17 h18 hm19=>zJ 0 Z Z Z Z (zG Z Z Tryz.call158 (zA Z (zA Z zL)) Z) hS1 (fun hs=>wDv x3.Rank x10.Rank W2 U hs h18) (.inr Z) ?_)))
 rintro U20 L21 v22 W23 le24 hS25 ⟨rfl,rfl⟩
 have hS26:sW w U U20 [] W23:=hS25
 refine oA Z Z (eN (zH ?_))
 have hE:=nB hm19;first | subst r | cases hE
 exact ⟨Z,_,(zZ Z),U20,_,hS26,Z,Z⟩
theorem wCD (p0:List Int) (pA0:Option Addr) (pc0:Nat) (p1:((Int × Int)->Option Int)) (pv1:Value) (w:World) (U:PHeap) (hS:St ⟨w,[.row pA0 pc0 3 1 (nA KL.encI p0)],U⟩ U [.row pA0 pc0 3 1 (nA KL.encI p0)] w) (ha0:FnOK Tryz.prog U pv1 ar80 rr80 p1) (ha1:∃ g cb,pv1=.func (.func g) #[] cb) {r:List Int} (hm:wAv p0 p1=some r):Gv Tryz.prog 216 [.slice pA0 p0.length pc0,pv1] w (wCc w [.row pA0 pc0 3 1 (nA KL.encI p0)] U (fun U_ L_ v=>v=.tuple #[]/\L_=[.row pA0 pc0 3 1 (nA KL.encI r)]/\r.length=p0.length)) :=
 wJN (enc1:=(fun x=>.int .i64 x)) (fun _=>rfl) (fun _=>rfl) (fun _ _ _=>rfl) (fun _ _ _ _ h=>h.1) (fun enc a cf b g cb k1 k2 k3 d w h1 h2 h3 h4 h5 h6=>Go.Proofs.Tryz.slices_SortFunc_total enc a cf b g cb k1 k2 k3 d w h1 h2 h3 h4 h5 h6) (fun p c v w=>Go.Proofs.Tryz.slices_SortFunc_none (α:=Int) p c v w) hS ha0 ha1 hm
theorem wCv (p0:List wAA) (pA0:Option Addr) (pc0:Nat) (w:World) (U:PHeap) (hS:St0 w U []) (ha0:Sl U 3 pA0 pc0 p0.length (nA wAB p0)) {r:(List Int)} (hm:wAw p0=some r):Gv Tryz.prog 123 [.slice pA0 p0.length pc0] w (wCc w [] U (fun U_ L_ v=>∃ (A0:Option Addr) (c0:Nat),v=.slice A0 r.length c0/\L_=[.row A0 c0 3 1 (nA KL.encI r)])):=by
 unfold wAw at hm
 refine Gv.of Tryz.func123 rfl Tryz.ntmps123 Tryz.results123 rfl (sR (.fx 0 (.fl 1 (.nil)) .stop) rfl (OKS.box (cs:=[.slice pA0 p0.length pc0]) rfl rfl rfl rfl rfl rfl (by rfl) hS ?_))
 intro W1 b2 hS3
 have q:=hS3.freeze (k:=0) rfl
 obtain ⟨U5,le6,hC7,hS8⟩:=q
 replace hC7:=Cl.of hC7
 have hS9:sW w U U5 [] W1:=hS8
 replace hC7:Cl U5 b2 0 [.slice pA0 p0.length pc0]:=hC7
 refine oA Z Z (eN (sR (.fl 0 (.fl 1 (.fx 2 (.fl 3 (.nil)) .stop))) Z (oL Z (hS9.ldC (f:=0) hC7 (v:=.slice pA0 p0.length pc0) Z Z Tryz.isAgg78 Z) (oR Z (zh Z Z zN) (bnK hm fun x10 h11 hm12=>OKS.makeSlice (enc:=KL.encI) (z:=0) (v:=jV 0) Z Z Z Z Z (wCR zE) wLg Z Z Z Z Z Z h11 hS9 ?_)))))
 intro W13 b14 hS15
 have hS17:sW w U U5 [.row (some ⟨b14,0,none⟩) x10.length 3 1 (nA KL.encI x10)] W13:=hS15
 refine oA Z Z (eN (zD (sR fL3 Z (oL Z (hS17.ldC (f:=0) hC7 (v:=.slice pA0 p0.length pc0) Z Z Tryz.isAgg78 Z) (oR Z (zh Z Z zN) (oM Z Z (eN (zS (bnK hm12 fun y29 hf26 hm25=>?_)))))))))
 have q:=wCm hf26
 obtain ⟨hle27,hf28⟩:=q
 replace hle27:=zI hle27
 refine CK.forN' (fun k24 l23 σ_ w_=>∃ (U_:PHeap),σ_ 10=jV (↑k24:Int)/\σ_ 1=.pointer (some ⟨b2,0,none⟩)/\σ_ 3=.slice (some ⟨b14,0,none⟩) l23.length x10.length/\σ_ 9=jV (↑p0.length:Int)/\PHeap.Le U5 U_/\sW w U U_ [.row (some ⟨b14,0,none⟩) x10.length 3 1 (nA KL.encI l23)] w_/\l23.length=x10.length) hf28 ?_ ?_ ?_
 ·exact ⟨U5,Z,Z,Z,Z,(zj _),hS17,Z⟩
 ·rintro k24 l23 xx32 σ30 W31 hk35 ⟨U37,fi36,f40,f41,f42,le38,hS39,h43⟩ hx33
  have c44:Hid ((↑k24:Int) < (↑p0.length:Int)):=zI (wCa hk35)
  replace hk35:=zI hk35
  have hi45:Hid (w64 ((↑k24:Int) + 1)=(↑(k24 + 1):Int)):=zI (by have h1:=hle27.out;have h2:=c44.out;rw [wAd] <;> omega)
  refine sR fL1 Z (oR Z (zU Z fi36 f42) (eN (zD (cT Z c44 (kN (zD (zS (sR fL2 Z (oM Z fi36 (oA Z Z (eN (rR (wLo (.fx 4 (.nil) .stop)) Z (oM Z f41 (oM Z Z (oM Z Z (bnK hx33 fun _ h46 hm47=>oR Z (ZB Z Z Z Z zE zB (wAs h46)) ?_))))))))))))))))
  have hg48:=wBT (xs:=l23) (wAs h46)
  refine OKS.stR (j:=0) (vs:=[jV (↑k24:Int)]) (cs':=nA KL.encI (nJ l23 k24 (↑k24:Int))) rfl rfl rfl rfl hS39 rfl rfl rfl rfl rfl zB (by rw [wAH (f:=KL.encI) (sz:=1) (fun _=>rfl)];have hz:=wAs h46;simp only [nI,nG,nH,nM,nN];omega) rfl (wFn (sz:=1) (fo:=0) (fun _=>rfl) _ _ _ _ hg48 (by first | omega | (simp only [nI,nG,nH];omega)) (zM rfl) rfl) rfl ?_
  intro W49 hS50
  have hS51:sW w U U37 [.row (some ⟨b14,0,none⟩) x10.length 3 1 (nA KL.encI (nJ l23 k24 (↑k24:Int)))] W49:=hS50
  refine zy (zo (zK (rR fL2 Z (oR Z (zq (zP Z fi36 Z) (congrArg (jV) hi45.out)) (oM Z Z (zy ?_))))))
  cases hm47
  exact zK ⟨rfl,⟨U37,rfl,f40,(nP (b:=(.slice (some ⟨b14,0,none⟩) l23.length x10.length:Value)) (c:=(.slice (some ⟨b14,0,none⟩) ((nJ l23 k24 (↑k24:Int)).length) x10.length:Value)) f41 (by simp only [nL])),f42,le38,hS51,(by simp only [nL];exact h43)⟩⟩
 ·rintro σ53 W54 ⟨U58,fi56,f61,f62,f63,le59,hS60,h64⟩
  have c65:Hid (¬ ((↑(((↑p0.length:Int):Int) - 0).toNat:Int) < (↑p0.length:Int))):=zI (wBp)
  refine sR fL1 Z (oR Z (zU Z fi56 f63) (eN (zD (cF Z c65 (ZE (zf (zf (ZA (zK (sR (.fl 0 (.fl 1 (.fx 2 (.nil) .stop))) Z (oM Z f62 (oR Z (Runs.mkf Z zL (zA f61 zL)) ?_))))))))))))
  have h66:=hC7.le le59
  have h67:=ha0.le le6
  have h68:=h67.le le59
  have hF69:FnOK Tryz.prog U58 (.func (.func 217) #[] #[.pointer (some ⟨b2,0,none⟩)]) ar80 rr80 (fun x=>wAW x.1 x.2 p0):=⟨217,[],[.pointer (some ⟨b2,0,none⟩)],rfl,Tryz.call217,fun U1 w1 x y vs le hs ha hm=>by obtain rfl:=ha;exact wEJ x.1 x.2 p0 b2 pA0 pc0 w1 U1 hs (h66.le le) (h68.le le) hm⟩
  refine bnK hm25 fun x70 h71 hm72=>zJ 1 Z Z Z Z (zG Z Z Tryz.call216 (zA Z (zA Z zL)) Z) hS60 (fun hs=>wCD y29 (some ⟨b14,0,none⟩) x10.length (fun x=>wAW x.1 x.2 p0) (.func (.func 217) #[] #[.pointer (some ⟨b2,0,none⟩)]) W54 U58 hs hF69 ⟨_,_,Z⟩ h71) (.inl Z) ?_
  rintro U73 L74 v75 W76 le77 hS78 ⟨rfl,rfl,h79⟩
  have hS80:sW w U U73 [.row (some ⟨b14,0,none⟩) x10.length 3 1 (nA KL.encI x70)] W76:=hS78
  refine eN (sR fL2 rfl (zW rfl rfl rfl rfl rfl (nP (b:=(.slice (some ⟨b14,0,none⟩) y29.length x10.length:Value)) (c:=(.slice (some ⟨b14,0,none⟩) x70.length x10.length:Value)) f62 (by rw [h79])) (OKS.ra rfl rfl rfl rfl rfl rfl (eN (zH ?_)))))
  have hE:=nB hm72;first | subst r | cases hE
  exact ⟨Z,_,(zZ Z),U73,_,hS80,(some ⟨b14,0,none⟩),x10.length,Z,Z⟩
end Go.Proofs.YthbficbpebiekaaGreat
namespace Go.Proofs.YthbficbpebiekaaGreat
open Go.KL
set_option maxHeartbeats 4000000
theorem wDl (p0:List wAA) (pA0:Option Addr) (pc0:Nat) (p1:Int) (w:World) (U:PHeap) (hS:St0 w U []) (ha0:Sl U 3 pA0 pc0 p0.length (nA wAB p0)) {r:(List wAO) × Int} (hm:wAm p0 p1=some r):Gv Tryz.prog 39 [.slice pA0 p0.length pc0,jV p1] w (wCc w [] U (fun U_ L_ v=>∃ (A0:Option Addr) (c0:Nat),v=.tuple #[.slice A0 r.1.length c0,jV r.2]/\L_=[.row A0 c0 88 3 (nA wAG r.1)])):=by
 unfold wAm at hm
 refine Gv.of Tryz.func39 Z Tryz.ntmps39 Tryz.results39 Z (sR fL2 Z (oA Z Z (oA Z Z (eN (sR (.fl 0 (.fx 1 (.fl 2 (.nil)) .stop)) Z (oM Z Z (bnK hm fun x1 h2 hm3=>zJ 0 Z Z Z Z (zG Z Z Tryz.call121 (zA Z zL) Z) hS (fun hs=>wDk p0 pA0 pc0 w U hs ha0 h2) (.inr Z) ?_)))))))
 rintro U4 L5 v6 W7 le8 hS9 ⟨rfl,rfl⟩
 have hS10:sW w U U4 [] W7:=hS9
 refine oA Z Z (eN (zD (zS (sR fL3 Z (oM Z Z (oR Z (Runs.neq Z Z Z) (oA Z Z (eN (ifc hm3 ?_ ?_)))))))))
 ·intro c11 hm12
  refine zk (zm (fun h=>h c11.out)) (sR (.fl 0 (.fx 1 (.fl 2 (.fl 3 (.nil))) .stop)) Z (oM Z Z (bnK hm12 fun x13 h14 hm15=>zJ 0 Z Z Z Z (zG Z Z Tryz.call122 (zA Z (zA Z (zA Z zL))) Z) hS10 (fun hs=>wCq p1 1 20 W7 U4 hs h14) (.inr Z) ?_)))
  rintro U16 L17 v18 W19 le20 hS21 ⟨rfl,rfl⟩
  have hS22:sW w U U16 [] W19:=hS21
  refine oR Z (Runs.notT Z Z) (oA Z Z (eN (ifc hm15 ?_ ?_)))
  ·intro c23 hm24
   refine zk (nC c23.out) (CK.skip (zo (zK (sR (wLn (.fx 3 (.fl 4 (.nil)) .stop)) Z (oM Z Z (oR Z (zP Z Z Z) (bnK hm24 fun x25 h26 hm27=>oR Z (Runs.quo Z Z Z h26) (zr (pv:=[(0,jV x25)]) (zs:=[jV 0]) (cs:=[jV x25]) Z Z Z Z Z (wAM Z wAt) zE zB Tryz.zeroValue3 Z Z Z Z Z hS22 ?_))))))))
   intro W28 b29 hS30
   have hS32:sW w U U16 [.row (some ⟨b29,0,none⟩) 1 3 1 (nA KL.encI [x25])] W28:=hS30
   refine oA Z Z (eN (zD (sR fL1 Z (oA Z Z (eN (zS (CK.iter (fun (l45,x48) σ_ w_=>∃ (U_:PHeap) (A46:Option Addr) (c47:Nat),σ_ 0=.slice pA0 p0.length pc0/\σ_ 1=jV p1/\σ_ 7=.slice A46 l45.length c47/\σ_ 8=jV x48/\PHeap.Le U16 U_/\sW w U U_ [.row A46 c47 3 1 (nA KL.encI l45)] w_) hm27 ?_ ?_)))))))
   ·exact ⟨U16,(some ⟨b29,0,none⟩),1,Z,Z,Z,Z,(zj _),hS32⟩
   ·rintro ⟨l45,x48⟩ xx51 σ49 W50 ⟨U56,A46,c47,f59,f60,f61,f62,le57,hS58⟩ hx52 hb53
    try dsimp only at hx52
    refine zD (sR fL4 Z (oM Z f61 (oR Z (zh Z Z zE) (oM Z f60 (oR Z (zU Z Z Z) (eN ?_))))))
    by_cases c63:(↑l45.length:Int) < p1
    ·have hm64:=hx52;rw [if_pos c63] at hm64;replace c63:=zI c63
     refine cT Z c63 (kN (zD (zS (zD (ZI ZH [3,3,1,3,3,3,3,1,3,3,3,3] fL12 (by kernel_rfl) ?_)))))
     have hS65:=hS58.drew
     generalize hw_W66:({ W50 with drawn:=W50.drawn + 1 }:World)=W66 at hS65 ⊢
     refine oM Z f61 (bnK hm64 fun _ h67 hm68=>?_)
     obtain ⟨b69,hA70⟩:=hS65.rowSome (j:=0) rfl (by rw [wAH (f:=KL.encI) (sz:=1) (fun _=>rfl) l45];have hz:=wAs h67;omega)
     refine oR Z (ZB Z Z hA70 Z zE zB (wAs h67)) ?_
     have hg71:=wBT (xs:=l45) (wAs h67)
     refine zz rfl rfl rfl rfl (hS65.ldR (j:=0) rfl hA70 rfl rfl zF (wBA (sz:=1) (fun _=>rfl) _ _ 0 _ hg71 (by first | omega | rfl | simp) rfl)) rfl (zW rfl rfl rfl rfl rfl f62 (zd rfl rfl rfl rfl (fun _=>zP rfl rfl rfl) (zW rfl rfl rfl rfl rfl f61 (zd rfl rfl rfl rfl (fun _=>ZB rfl rfl hA70 rfl zE zB (wAs h67)) ?_))))
     have hg72:=wBT (xs:=l45) (wAs h67)
     refine zz rfl rfl rfl rfl (hS65.ldR (j:=0) rfl hA70 rfl rfl zF (wBA (sz:=1) (fun _=>rfl) _ _ 0 _ hg72 (by first | omega | rfl | simp) rfl)) rfl (zW rfl rfl rfl rfl rfl f62 (zd rfl rfl rfl rfl (fun _=>Runs.subw rfl rfl rfl) ?_))
     let B0:List Value:=[jV (w64 ((gd l45 0) + x48)),jV (w64 ((gd l45 0) - x48))]
     refine oR Z (Runs.buildA (pv:=[(0,jV (w64 ((gd l45 0) + x48))),(1,jV (w64 ((gd l45 0) - x48)))]) (z:=[jV 0,jV 0]) (cs:=B0) Z (wAM Z (wAM Z wAt)) Tryz.zeroValue68 Tryz.runUnderlying68 zB Z Z) (oM Z Z (eN (zS (bnK hm68 fun y92 hf89 hm88=>?_))))
     have q:=wCm hf89
     obtain ⟨hle90,hf91⟩:=q
     replace hle90:=zI hle90
     refine CK.forN' (fun k87 l84 σ_ w_=>∃ (U_:PHeap) (A85:Option Addr) (c86:Nat),σ_ 45=jV (↑k87:Int)/\σ_ 0=.slice pA0 p0.length pc0/\σ_ 1=jV p1/\σ_ 7=.slice A85 l84.length c86/\σ_ 8=jV x48/\σ_ 44=.agg B0.toArray/\PHeap.Le U56 U_/\sW w U U_ [.row A85 c86 3 1 (nA KL.encI l84)] w_) hf91 ?_ ?_ ?_
     ·exact ⟨U56,A46,c47,Z,f59,f60,f61,f62,Z,(zj _),hS65⟩
     ·rintro k87 l84 xx95 σ93 W94 hk98 ⟨U100,A85,c86,fi99,f103,f104,f105,f106,f107,le101,hS102⟩ hx96
      have c108:Hid ((↑k87:Int) < 2):=zI (wCa hk98)
      replace hk98:=zI hk98
      have hi109:Hid (w64 ((↑k87:Int) + 1)=(↑(k87 + 1):Int)):=zI (by have h1:=hle90.out;have h2:=c108.out;rw [wAd] <;> omega)
      refine sR fL1 Z (oR Z (zU Z fi99 Z) (eN (zD (cT Z c108 (kN (zD (zS (sR fL2 Z (bnK hx96 fun x110 h111 hm112=>oR Z (Runs.ixA (cs:=nA KL.encI ([w64 ((gd l45 0) + x48),w64 ((gd l45 0) - x48)]:List Int)) Z f107 fi99 Tryz.runUnderlying68 zB (wEW h111) (wFX h111) (wDU zF (wCG (sz:=1) (fun _=>Z) _ _ 0 _ _ (wBS h111) Z))) (oA Z Z (eN (sR (.fl 0 (.fl 1 (.fx 2 (.nil) .stop))) Z (oM Z Z (oM Z f104 (bnK hm112 fun x113 h114 hm115=>zJ 0 Z Z Z Z (zG Z Z Tryz.call122 (zA Z (zA Z (zA Z zL))) Z) hS102 (fun hs=>wCq x110 1 p1 W94 U100 hs h114) (.inr Z) ?_)))))))))))))))
      rintro U116 L117 v118 W119 le120 hS121 ⟨rfl,rfl⟩
      let B1:Res:=.row A85 c86 3 1 (nA KL.encI l84)
      have hS122:sW w U U116 [B1] W119:=hS121
      refine eN (ifc hm115 ?_ ?_)
      ·intro c123 hm124
       refine zY (congrArg nD c123.out) (rR (.fl 0 (.fl 1 (.fx 2 (.fx 3 (.fl 4 (.nil)) .stop) .stop))) Z (oM Z f105 (oM Z Z (zr (pv:=[(0,jV x110)]) (zs:=[jV 0]) (cs:=[jV x110]) Z Z Z Z Z (wAM Z wAt) zE zB Tryz.zeroValue3 Z Z Z Z Z hS122 ?_))))
       intro W125 b126 hS127
       let B2:Res:=.row (some ⟨b126,0,none⟩) 1 3 1 (nA KL.encI [x110])
       have hS129:sW w U U116 [B2,B1] W125:=hS127
       refine bnK hm124 fun x130 h131 hm132=>OKS.append (j:=1) (enc:=KL.encI) (xs:=l84) (ys:=[x110]) (zs:=x130) rfl rfl rfl rfl rfl Tryz.underlying22 wLg rfl rfl rfl rfl rfl rfl hS129 rfl rfl rfl (hS129.srcR (j:=0) rfl (by decide) (wAH (f:=KL.encI) (sz:=1) (fun _=>rfl) [x110])) (fun _=>rfl) (fun _=>rfl) h131 rfl ?_
       intro A133 c134 W135 hS136
       have hS137:sW w U U116 [B2,.row A133 c134 3 1 (nA KL.encI x130)] W135:=hS136
       refine oA Z Z (zy (zo (zK (rR fL2 Z (oR Z (zq (zP Z fi99 Z) (congrArg (jV) hi109.out)) (oM Z Z (zy ?_)))))))
       cases hm132
       exact zK ⟨rfl,⟨U116,A133,c134,rfl,f103,f104,rfl,f106,f107,(le101.trans le120),(hS137.pick [1] _ (by decide) rfl)⟩⟩
      ·intro c123 hm141
       refine zk (congrArg nD (nE.2 c123.out)) (CK.skip (zo (zK (rR fL2 Z (oR Z (zq (zP Z fi99 Z) (congrArg (jV) hi109.out)) (oM Z Z (zy ?_)))))))
       cases hm141
       exact zK ⟨Z,⟨U116,A85,c86,Z,f103,f104,f105,f106,f107,(le101.trans le120),hS122⟩⟩
     ·rintro σ145 W146 ⟨U154,A152,c153,fi148,f157,f158,f159,f160,f161,le155,hS156⟩
      have c162:Hid (¬ ((↑((2:Int) - 0).toNat:Int) < 2)):=zI (wBp)
      refine sR fL1 Z (oR Z (zU Z fi148 Z) (eN (zD (cF Z c162 (ZE (zf (zf (ZA (zo (zK (rR fL3 Z (oM Z f160 (oR Z (zP Z Z Z) (oA Z Z (zy ?_)))))))))))))))
      obtain rfl:=nB hm88
      exact zK ⟨Z,_,Z,⟨U154,A152,c153,f157,f158,f159,Z,(le57.trans le155),hS156⟩⟩
    ·have hm167:=hx52;rw [if_neg c63] at hm167;replace c63:=zI c63
     refine cF Z c63 (ZE (zf ?_))
     have q:=wBF hm167
     obtain ⟨v168,hm169,e170⟩:=q
     obtain rfl:=hb53 v168 e170
     refine zf (ZA (zK (sR fL1 Z (oA Z Z (eN (zD (sR (.fl 0 (.fx 1 (.fl 2 (.fl 3 (.nil))) .stop)) Z (oM Z f59 ?_))))))))
     have h171:=ha0.le le8
     have h172:=h171.le le20
     have h173:=h172.le le57
     refine bnK hm169 fun x174 h175 hm176=>zJ 0 Z Z Z Z (zG Z Z Tryz.call123 (zA Z zL) Z) hS58 (fun hs=>wCv p0 pA0 pc0 W50 U56 hs h173 h175) (.inr Z) ?_
     rintro U177 L178 v179 W180 le181 hS182 ⟨A183,c184,rfl,rfl⟩
     let B3:Res:=.row A183 c184 3 1 (nA KL.encI x174)
     let B4:Res:=.row A46 c47 3 1 (nA KL.encI l45)
     have hS186:sW w U U177 [B3,B4] W180:=hS182
     refine oR Z (zh Z Z zE) (oM Z Z (eN (zS (bnK hm176 fun y209 hf206 hm205=>?_))))
     have q:=wCm hf206
     obtain ⟨hle207,hf208⟩:=q
     replace hle207:=zI hle207
     refine CK.forN' (fun k204 l200 σ_ w_=>∃ (U_:PHeap) (A201:Option Addr) (c202:Nat),σ_ 59=jV (↑k204:Int)/\σ_ 0=.slice pA0 p0.length pc0/\σ_ 1=jV p1/\σ_ 7=.slice A46 l45.length c47/\σ_ 11=.slice A201 l200.length c202/\σ_ 57=.slice A183 x174.length c184/\σ_ 58=jV (↑x174.length:Int)/\PHeap.Le U177 U_/\sW w U U_ [B4,.row A201 c202 88 3 (nA wAG l200),B3] w_) hf208 ?_ ?_ ?_
     ·have hS210:=hS186.nilrow 88 3
      exact ⟨U177,none,0,rfl,f59,f60,f61,rfl,rfl,rfl,(zj _),(hS210.pick [2,0,1] _ (by decide) rfl)⟩
     ·rintro k204 l200 xx214 σ212 W213 hk217 ⟨U219,A201,c202,fi218,f222,f223,f224,f225,f226,f227,le220,hS221⟩ hx215
      have c228:Hid ((↑k204:Int) < (↑x174.length:Int)):=zI (wCa hk217)
      replace hk217:=zI hk217
      have hi229:Hid (w64 ((↑k204:Int) + 1)=(↑(k204 + 1):Int)):=zI (by have h1:=hle207.out;have h2:=c228.out;rw [wAd] <;> omega)
      refine sR fL1 Z (oR Z (zU Z fi218 f227) (eN (zD (cT Z c228 (kN (zD (zS (sR fL5 Z (oM Z fi218 (bnK hx215 fun _ h230 hm231=>?_))))))))))
      obtain ⟨b232,hA233⟩:=hS221.rowSome (j:=2) rfl (by rw [wAH (f:=KL.encI) (sz:=1) (fun _=>rfl) x174];have hz:=wAs h230;omega)
      refine oR Z (ZB Z f226 hA233 fi218 zE zB (wAs h230)) ?_
      have hg234:=wBT (xs:=x174) (wAs h230)
      refine zz rfl rfl rfl rfl (hS221.ldR (j:=2) rfl hA233 rfl rfl zF (wBA (sz:=1) (fun _=>rfl) _ _ 0 _ hg234 (by first | omega | rfl | simp) rfl)) rfl (OKS.ra rfl rfl rfl rfl rfl rfl (OKS.ra rfl rfl rfl rfl rfl rfl (eN (ZI ZH [3,3,3,3,3,1,3,3,3,3,3,3,3,3,3,1,3,2,0,3] (wMM (.fx 17 (.fx 18 (.fl 19 (.nil)) .stop) .stop)) (by kernel_rfl) ?_))))
      have hS235:=hS221.drew
      generalize hw_W236:({ W213 with drawn:=W213.drawn + 1 }:World)=W236 at hS235 ⊢
      refine oM Z f225 (oM Z f222 (oM Z Z (bnK hm231 fun x237 h238 hm239=>?_)))
      have h240:=h173.le le181
      have h241:=h240.le le220
      have q:=h241.el (fun _=>rfl) (wBS h238)
      obtain ⟨b242,off243,hA244,hC245⟩:=q
      refine oR Z (ZG Z Z hA244 Z zN zn (wEW h238) (wFX h238)) (oR Z (ze Z Z zt Z zB) (oL Z (hS235.ldC (f:=0) hC245 (v:=jV x237.Bib) Z Z zF Z) (oM Z Z (oM Z f223 (bnK hm239 fun x246 h247 hm248=>oR Z (Runs.quo Z Z Z h247) (oR Z (zP Z Z Z) (oM Z f224 (oM Z Z (oM Z f223 (bnK hm248 fun x249 h250 hm251=>oR Z (Runs.rem Z Z Z h250) (bnK hm251 fun _ h252 hm253=>?_)))))))))))
      obtain ⟨b254,hA255⟩:=hS235.rowSome (j:=0) rfl (by rw [wAH (f:=KL.encI) (sz:=1) (fun _=>rfl) l45];have hz:=wAs h252;omega)
      refine oR Z (ZG Z Z hA255 Z zE zB (wDZ h252) (wDa h252)) ?_
      have hg256:=wBT (xs:=l45) (wAs h252)
      refine zz rfl rfl rfl rfl (hS235.ldR (j:=0) rfl hA255 rfl rfl zF (wBA (sz:=1) (fun _=>rfl) _ _ 0 _ hg256 (by first | omega | rfl | simp) rfl)) rfl ?_
      let B5:List Value:=[jV x237.Bib,jV (w64 (x246 + 1)),jV (gd l45 x249.toNat)]
      let B6:List Value:=[jV 0,jV 0,jV 0]
      refine oR Z (Runs.build (pv:=[(0,jV x237.Bib),(1,jV (w64 (x246 + 1))),(2,jV (gd l45 x249.toNat))]) (z:=B6) (cs:=B5) Z (wAM Z (wAM Z (wAM Z wAt))) Tryz.zeroValue88 wLf Z Z) (zr (pv:=[(0,.agg B5.toArray)]) (zs:=B6) (cs:=B5) Z Z Z Z Z (wAM Z wAt) zR zp Tryz.zeroValue88 Z Z Z Z Z hS235 ?_)
      intro W257 b258 hS259
      let B7:Res:=.row (some ⟨b258,0,none⟩) 1 88 3 (nA wAG [(⟨x237.Bib,w64 (x246 + 1),(gd l45 x249.toNat)⟩:wAO)])
      have hS261:sW w U U219 [B7,B4,.row A201 c202 88 3 (nA wAG l200),B3] W257:=hS259
      refine bnK hm253 fun x262 h263 hm264=>OKS.append (j:=2) (enc:=wAG) (xs:=l200) (ys:=[(⟨x237.Bib,w64 (x246 + 1),(gd l45 x249.toNat)⟩:wAO)]) (zs:=x262) rfl rfl rfl rfl rfl Tryz.underlying81 wOW rfl rfl rfl rfl rfl rfl hS261 rfl rfl rfl (hS261.srcR (j:=0) rfl (by decide) (wAH (f:=wAG) (sz:=3) (fun _=>rfl) [(⟨x237.Bib,w64 (x246 + 1),(gd l45 x249.toNat)⟩:wAO)])) (fun _=>rfl) (fun _=>rfl) h263 rfl ?_
      intro A265 c266 W267 hS268
      have hS269:sW w U U219 [B7,B4,.row A265 c266 88 3 (nA wAG x262),B3] W267:=hS268
      refine oA Z Z (zy (zo (zK (rR fL2 Z (oR Z (zq (zP Z fi218 Z) (congrArg (jV) hi229.out)) (oM Z Z (zy ?_)))))))
      cases hm264
      exact zK ⟨rfl,⟨U219,A265,c266,rfl,f222,f223,f224,rfl,f226,f227,le220,(hS269.pick [1,2,3] _ (by decide) rfl)⟩⟩
     ·rintro σ273 W274 ⟨U282,A280,c281,fi276,f285,f286,f287,f288,f289,f290,le283,hS284⟩
      have c291:Hid (¬ ((↑(((↑x174.length:Int):Int) - 0).toNat:Int) < (↑x174.length:Int))):=zI (wBp)
      refine sR fL1 Z (oR Z (zU Z fi276 f290) (eN (zD (cF Z c291 (ZE (zf (zf (ZA (zK (sR fL3 Z (oM Z f288 (oA Z Z (oA Z Z (eN (zH ?_)))))))))))))))
      cases hm205
      exact ⟨rfl,_,(wNa rfl rfl),U282,_,(hS284.pick [1] _ (by decide) rfl),A280,c281,rfl,rfl⟩
  ·intro c23 hm292
   refine zY (nF (c23.out)) (sR fL2 Z (oA Z Z (oA Z Z (eN (zH (zQ (zC ?_)))))))
   have hS293:=hS22.nilrow 88 3
   cases hm292
   exact ⟨Z,_,(wNa Z Z),U16,_,hS293,none,0,Z,Z⟩
 ·intro c11 hm295
  refine cT Z c11 (sR fL3 Z (oM Z Z (oA Z Z (oA Z Z (eN (zH (zQ (zC ?_))))))))
  have hS296:=hS10.nilrow 88 3
  cases hm295
  exact ⟨Z,_,(wNa Z Z),U4,_,hS296,none,0,Z,Z⟩
theorem wFT (p0:List wAA) (pA0:Option Addr) (pc0:Nat) (w:World) (U:PHeap) (hS:St0 w U []) (ha0:Sl U 3 pA0 pc0 p0.length (nA wAB p0)) {r:(List Int) × Int} (hm:wBC p0=some r):Gv Tryz.prog 40 [.slice pA0 p0.length pc0] w (wCc w [] U (fun U_ L_ v=>∃ (A0:Option Addr) (c0:Nat),v=.tuple #[.slice A0 r.1.length c0,jV r.2]/\L_=[.row A0 c0 3 1 (nA KL.encI r.1)])):=by
 unfold wBC at hm
 refine Gv.of Tryz.func40 Z Tryz.ntmps40 Tryz.results40 Z (sR fL2 Z (oA Z Z (oA Z Z (eN (zD (sR (.fl 0 (.fx 1 (.fl 2 (.nil)) .stop)) Z (oM Z Z (bnK hm fun x1 h2 hm3=>zJ 0 Z Z Z Z (zG Z Z Tryz.call121 (zA Z zL) Z) hS (fun hs=>wDk p0 pA0 pc0 w U hs ha0 h2) (.inr Z) ?_))))))))
 rintro U4 L5 v6 W7 le8 hS9 ⟨rfl,rfl⟩
 have hS10:sW w U U4 [] W7:=hS9
 refine oA Z Z (eN (sR fL2 Z (oM Z Z (oR Z (Runs.neq Z Z Z) (eN (ifc hm3 ?_ ?_))))))
 ·intro c11 hm12
  refine zk (zm (fun h=>h c11.out)) (kN (sR (.fl 0 (.fx 1 (.fl 2 (.fl 3 (.nil))) .stop)) Z (oM Z Z ?_)))
  have h13:=ha0.le le8
  refine bnK hm12 fun x14 h15 hm16=>zJ 0 Z Z Z Z (zG Z Z Tryz.call123 (zA Z zL) Z) hS10 (fun hs=>wCv p0 pA0 pc0 W7 U4 hs h13 h15) (.inr Z) ?_
  rintro U17 L18 v19 W20 le21 hS22 ⟨A23,c24,rfl,rfl⟩
  have hS26:sW w U U17 [.row A23 c24 3 1 (nA KL.encI x14)] W20:=hS22
  refine oA Z Z (oA Z Z (eN (zH ?_)))
  cases hm16
  exact ⟨Z,_,(wNa Z Z),U17,_,hS26,A23,c24,Z,Z⟩
 ·intro c11 hm27
  refine cT Z c11 (sR fL3 Z (oM Z Z (oA Z Z (oA Z Z (eN (zH (zC ?_)))))))
  have hS28:=hS10.nilrow 3 1
  cases hm27
  exact ⟨Z,_,(wNa Z Z),U4,_,hS28,none,0,Z,Z⟩
theorem wCP (p0:List Int) (pA0:Option Addr) (pc0:Nat) (p1:Int) (w:World) (U:PHeap) (hS:St0 w U []) (ha0:Sl U 1 pA0 pc0 p0.length (nA KL.encI p0)) {r:Bool} (hm:wAZ p0 p1=some r):Gv Tryz.prog 41 [.slice pA0 p0.length pc0,jV p1] w (wCc w [] U (fun U_ L_ v=>v=.bool r/\L_=[])):=by
 unfold wAZ at hm
 refine Gv.of Tryz.func41 Z Tryz.ntmps41 Tryz.results41 Z (sR fL1 Z (oA Z Z (eN (sR (.fl 0 (.fx 1 (.fl 2 (.nil)) .stop)) Z (oM Z Z (bnK hm fun x1 h2 hm3=>OKS.makeSlice (enc:=KL.encT) (z:=false) (v:=.bool false) Z Z Z Z Z (wCR Tryz.runUnderlying131) info4 Z Z Z Z Z Z h2 hS ?_))))))
 intro W4 b5 hS6
 have hS8:sW w U U [.row (some ⟨b5,0,none⟩) x1.length 4 1 (nA KL.encT x1)] W4:=hS6
 refine oA Z Z (eN (zD (sR fL3 Z (oM Z Z (oR Z (zh Z Z zE) (oM Z Z (eN (zS ?_))))))))
 have q:=wEZ hm3
 obtain ⟨r16,hX17⟩:=q
 have q:=wEY hX17
 obtain ⟨hle18,hf19⟩:=q
 replace hle18:=zI hle18
 refine CK.forN (fun k15 l14 σ_ w_=>∃ (U_:PHeap),σ_ 12=jV (↑k15:Int)/\σ_ 0=.slice pA0 p0.length pc0/\σ_ 1=jV p1/\σ_ 5=.slice (some ⟨b5,0,none⟩) l14.length x1.length/\σ_ 10=.slice pA0 p0.length pc0/\σ_ 11=jV (↑p0.length:Int)/\PHeap.Le U U_/\sW w U U_ [.row (some ⟨b5,0,none⟩) x1.length 4 1 (nA KL.encT l14)] w_/\l14.length=x1.length) hf19 ?_ ?_ ?_
 ·exact ⟨U,Z,Z,Z,Z,Z,Z,(zj _),hS8,Z⟩
 ·rintro k15 l14 xx22 σ20 W21 hk25 ⟨U27,fi26,f30,f31,f32,f33,f34,le28,hS29,h35⟩ hx23 hb24
  have c36:Hid ((↑k15:Int) < (↑p0.length:Int)):=zI (wCa hk25)
  replace hk25:=zI hk25
  have hi37:Hid (w64 ((↑k15:Int) + 1)=(↑(k15 + 1):Int)):=zI (by have h1:=hle18.out;have h2:=c36.out;rw [wAd] <;> omega)
  refine sR fL1 Z (oR Z (zU Z fi26 f34) (eN (zD (cT Z c36 (kN (zD (zS (sR fL3 Z (bnK hx23 fun x38 h39 hm40=>?_)))))))))
  have h41:=ha0.le le28
  have q:=h41.el (fun _=>rfl) (wBS h39)
  obtain ⟨b42,off43,hA44,hC45⟩:=q
  refine oR Z (ZB Z f33 hA44 fi26 zE zB (wDy h39)) (oL Z (hS29.ldC (f:=0) hC45 (v:=jV x38) Z Z zF Z) (oA Z Z (eN (zD (sR fL13 Z (oM Z Z (oR Z (zU Z Z Z) (oM Z Z (ifc hm40 ?_ ?_)))))))))
  ·intro c46 hm47
   refine oT Z c46 (oT Z c46 (oT Z c46 (oR Z (zV Z (wDV c46.out) Z) (oM Z Z (oN Z (oN Z (oN Z (oN Z (oR Z (zV Z Z Z) (eN (zY Z (sR fL1 Z (oA Z Z (eN (zH (zC (zQ (zC ?_))))))))))))))))))
   have q:=wBF hm47
   obtain ⟨v48,hm49,e50⟩:=q
   obtain rfl:=wCQ hm3 hX17 (hb24 v48 e50)
   refine zC (zQ (zC ?_))
   have hE:=nB hm49;first | subst r | cases hE
   exact ⟨rfl,_,(zZ rfl),U27,_,(hS29.pick [] _ (by decide) rfl),rfl,rfl⟩
  ·intro c46 hm51
   refine zW Z Z Z (wF Z c46) Z Z (zW Z Z Z (wF Z c46) Z f31 (rU Z (wF Z c46) (Runs.geq Z Z Z) (oR Z (zl Z (zm c46.out) Z) (oM Z Z (ifc hm51 ?_ ?_)))))
   ·intro c52 hm53
    refine oT Z c52 (oT Z c52 (oT Z c52 (oT Z c52 (oR Z (zV Z (wDV c52.out) Z) (eN (zY Z (sR fL1 Z (oA Z Z (eN (zH (zC (zQ (zC ?_)))))))))))))
    have q:=wBF hm53
    obtain ⟨v54,hm55,e56⟩:=q
    obtain rfl:=wCQ hm3 hX17 (hb24 v54 e56)
    refine zC (zQ (zC ?_))
    have hE:=nB hm55;first | subst r | cases hE
    exact ⟨rfl,_,(zZ rfl),U27,_,(hS29.pick [] _ (by decide) rfl),rfl,rfl⟩
   ·intro c52 hm57
    refine zW Z Z Z (wF Z c52) Z f32 (zW Z Z Z (wF Z c52) Z Z (bnK hm57 fun _ h58 hm59=>rU Z (wF Z c52) (ZG Z Z Z Z Tryz.runUnderlying131 Tryz.sizeOf4 (wDZ h58) (wDa h58)) ?_))
    have hg60:=wBT (xs:=l14) (wAs h58)
    refine zz rfl rfl rfl (zg rfl rfl (zm c52.out)) (hS29.ldR (j:=0) rfl rfl rfl rfl Tryz.isAgg4 (wBA (sz:=1) (fun _=>rfl) _ _ 0 _ hg60 (by first | omega | rfl | simp) rfl)) rfl (zd rfl rfl rfl rfl (fun _=>zl rfl (zm c52.out) rfl) (eN (ifc hm59 ?_ ?_)))
    ·intro c61 hm62
     refine zY (congrArg nD c61.out) (sR fL1 Z (oA Z Z (eN (zH (zC (zQ (zC ?_)))))))
     have q:=wBF hm62
     obtain ⟨v63,hm64,e65⟩:=q
     obtain rfl:=wCQ hm3 hX17 (hb24 v63 e65)
     refine zC (zQ (zC ?_))
     have hE:=nB hm64;first | subst r | cases hE
     exact ⟨rfl,_,(zZ rfl),U27,_,(hS29.pick [] _ (by decide) rfl),rfl,rfl⟩
    ·intro c61 hm66
     refine zk (congrArg nD (nE.2 c61.out)) (kN (rR (wLn (.fx 3 (.nil) .stop)) Z (oM Z f32 (oM Z Z (oR Z (ZG Z Z Z Z Tryz.runUnderlying131 Tryz.sizeOf4 (wDZ h58) (wDa h58)) ?_)))))
     have hg67:=wBT (xs:=l14) (wAs h58)
     refine OKS.stR (j:=0) (vs:=[.bool true]) (cs':=nA KL.encT (nJ l14 x38.toNat true)) rfl rfl rfl rfl hS29 rfl rfl rfl rfl rfl Tryz.sizeOf4 (by rw [wAH (f:=KL.encT) (sz:=1) (fun _=>rfl)];have hz:=wAs h58;simp only [nI,nG,nH,nM,nN];omega) rfl (wFn (sz:=1) (fo:=0) (fun _=>rfl) _ _ _ _ hg67 (by first | omega | (simp only [nI,nG,nH];omega)) (zM rfl) rfl) rfl ?_
     intro W68 hS69
     have hS70:sW w U U27 [.row (some ⟨b5,0,none⟩) x1.length 4 1 (nA KL.encT (nJ l14 x38.toNat true))] W68:=hS69
     refine zy (zo (zK (rR fL2 Z (oR Z (zq (zP Z fi26 Z) (congrArg (jV) hi37.out)) (oM Z Z (zy ?_))))))
     obtain rfl:=nB hm66
     exact zK ⟨rfl,_,rfl,⟨U27,rfl,f30,f31,(nP (b:=(.slice (some ⟨b5,0,none⟩) l14.length x1.length:Value)) (c:=(.slice (some ⟨b5,0,none⟩) ((nJ l14 x38.toNat true).length) x1.length:Value)) f32 (by simp only [nL])),f33,f34,le28,hS70,(by simp only [nL];exact h35)⟩⟩
 ·rintro y76 σ72 W73 ⟨U77,fi75,f80,f81,f82,f83,f84,le78,hS79,h85⟩ hb74
  have hm86:=wGP hm3 hX17 hb74
  have c87:Hid (¬ ((↑(((↑p0.length:Int):Int) - 0).toNat:Int) < (↑p0.length:Int))):=zI (wBp)
  refine sR fL1 Z (oR Z (zU Z fi75 f84) (eN (zD (cF Z c87 (ZE (zf (zf (ZA (zK (sR fL5 Z (oM Z f80 (oR Z (zh Z Z zE) (oM Z f81 (oR Z (Runs.eql Z Z Z) (oA Z Z (eN (zH ?_)))))))))))))))))
  cases hm86
  exact ⟨rfl,_,(zZ rfl),U77,_,(hS79.pick [] _ (by decide) rfl),rfl,rfl⟩
theorem wBJ (p0:wAO) (p1:Int) (pb1:Nat) (w:World) (U:PHeap) (hS:St0 w U []) (ha0:Cl U pb1 0 [jV p1]) {r:Int} (hm:wAJ p0 p1=some r):Gv Tryz.prog 42 [.agg #[jV p0.Bib,jV p0.Row,jV p0.Lane],.pointer (some ⟨pb1,0,none⟩)] w (wCc w [] U (fun U_ L_ v=>v=jV r/\L_=[])):=by
 unfold wAJ at hm
 refine Gv.of Tryz.func42 rfl Tryz.ntmps42 Tryz.results42 rfl (sR (.fx 0 (.fl 1 (.nil)) .stop) rfl (OKS.box (cs:=[jV p0.Bib,jV p0.Row,jV p0.Lane]) rfl rfl rfl rfl rfl rfl (by rfl) hS ?_))
 intro W1 b2 hS3
 refine oA Z Z (eN (sR fL14 Z (oR Z (ze Z Z zi Z zB) (oL Z (hS3.ldB (j:=0) Z Z Z zF (v:=jV p0.Lane) Z) (oR Z (Runs.mulw Z Z Z) (oL Z (hS3.ldC (f:=0) ha0 (v:=jV p1) Z Z zF Z) (oR Z (Runs.subw Z Z Z) (oR Z (Runs.subw Z Z Z) (oL Z (hS3.ldC (f:=0) ha0 (v:=jV p1) Z Z zF Z) (oR Z (zP Z Z Z) (oR Z (ze Z Z zi Z zB) (oL Z (hS3.ldB (j:=0) Z Z Z zF (v:=jV p0.Lane) Z) (oR Z (Runs.mulw Z Z Z) (oR Z (Runs.subw Z Z Z) (oR Z (Runs.max Z Z Z) (oA Z Z (eN (zH ?_))))))))))))))))))
 cases hm
 exact ⟨rfl,_,(zZ rfl),U,_,(hS3.pick [] _ (by decide) rfl),rfl,rfl⟩
theorem wAc (p0:List wAA) (pA0:Option Addr) (pc0:Nat) (w:World) (U:PHeap) (hS:St0 w U []) (ha0:Sl U 3 pA0 pc0 p0.length (nA wAB p0)) {r:(List wAA)} (hm:wAN p0=some r):Gv Tryz.prog 43 [.slice pA0 p0.length pc0] w (wCc w [] U (fun U_ L_ v=>∃ (A0:Option Addr) (c0:Nat),v=.slice A0 r.length c0/\L_=[.row A0 c0 90 3 (nA wAB r)])):=by
 unfold wAN at hm
 refine Gv.of Tryz.func43 Z Tryz.ntmps43 Tryz.results43 Z (sR fL1 Z (oA Z Z (eN (sR (.fl 0 (.fx 1 (.fl 2 (.nil)) .stop)) Z (oM Z Z ?_)))))
 have hS1:=hS.nilrow 90 3
 have hS3:sW w U U [.row none 0 90 3 (nA wAB ([]:List wAA))] w:=hS1
 refine bnK hm fun x4 h5 hm6=>OKS.append (j:=0) (enc:=wAB) (xs:=([]:List wAA)) (ys:=p0) (zs:=x4) Z Z Z Z Z Tryz.underlying78 wIF Z Z Z Z Z Z hS3 Z Z Z (hS3.srcS ha0) (fun _=>Z) (fun _=>Z) h5 Z ?_
 intro A7 c8 W9 hS10
 have hS11:sW w U U [.row A7 c8 90 3 (nA wAB x4)] W9:=hS10
 refine oA Z Z (eN (zH ?_))
 have hE:=nB hm6;first | subst r | cases hE
 exact ⟨Z,_,(zZ Z),U,_,hS11,A7,c8,Z,Z⟩
theorem wBm (p0:List wAO) (pA0:Option Addr) (pc0:Nat) (p1:List wAO) (pA1:Option Addr) (pc1:Nat) (w:World) (U:PHeap) (hS:St0 w U []) (ha0:Sl U 3 pA0 pc0 p0.length (nA wAG p0)) (ha1:Sl U 3 pA1 pc1 p1.length (nA wAG p1)) {r:Bool} (hm:wAQ p0 p1=some r):Gv Tryz.prog 44 [.slice pA0 p0.length pc0,.slice pA1 p1.length pc1] w (wCc w [] U (fun U_ L_ v=>v=.bool r/\L_=[])):=by
 unfold wAQ at hm
 refine Gv.of Tryz.func44 Z Tryz.ntmps44 Tryz.results44 Z (sR fL1 Z (oA Z Z (eN (zD (sR fL5 Z (oM Z Z (oR Z (zh Z Z zR) (oM Z Z (oR Z (zh Z Z zR) (oR Z (Runs.neq Z Z Z) (eN ?_)))))))))))
 by_cases c1:(↑p0.length:Int)=(↑p1.length:Int)
 ·have hm2:=hm;rw [if_pos c1] at hm2;replace c1:=zI c1
  refine zk (zm (fun h=>h c1.out)) (kN (zD (sR fL3 Z (oM Z Z (oR Z (zh Z Z zR) (oM Z Z (eN (zS ?_))))))))
  have q:=wEZ hm2
  obtain ⟨r5,hX6⟩:=q
  have q:=wEY hX6
  obtain ⟨hle7,hf8⟩:=q
  replace hle7:=zI hle7
  refine CK.forN (fun k4 _ σ_ w_=>∃ (U_:PHeap),σ_ 13=jV (↑k4:Int)/\σ_ 0=.slice pA0 p0.length pc0/\σ_ 1=.slice pA1 p1.length pc1/\σ_ 12=jV (↑p0.length:Int)/\PHeap.Le U U_/\sW w U U_ [] w_) hf8 ?_ ?_ ?_
  ·exact ⟨U,Z,Z,Z,Z,(zj _),hS⟩
  ·rintro k4 ⟨⟩ xx11 σ9 W10 hk14 ⟨U16,fi15,f19,f20,f21,le17,hS18⟩ hx12 hb13
   try dsimp only at hx12
   have c22:Hid ((↑k4:Int) < (↑p0.length:Int)):=zI (wCa hk14)
   replace hk14:=zI hk14
   have hi23:Hid (w64 ((↑k4:Int) + 1)=(↑(k4 + 1):Int)):=zI (by have h1:=hle7.out;have h2:=c22.out;rw [wAd] <;> omega)
   refine sR fL1 rfl (zd rfl rfl rfl rfl (fun _=>zU rfl fi15 f21) (eN (zD (cT Z c22 (kN (zD (zS (sR fL2 rfl (zW rfl rfl rfl rfl rfl fi15 (OKS.ra rfl rfl rfl rfl rfl rfl (eN (zD (ZI ZH [3,3,3,1,3,3,3,1,3] fL9 (by kernel_rfl) ?_)))))))))))))
   have hS24:=hS18.drew
   generalize hw_W25:({ W10 with drawn:=W10.drawn + 1 }:World)=W25 at hS24 ⊢
   refine oM Z f19 (oM Z Z (bnK hx12 fun x26 h27 hm28=>?_))
   have h29:=ha0.le le17
   have q:=h29.el (fun _=>rfl) (wBS h27)
   obtain ⟨b30,off31,hA32,hC33⟩:=q
   refine oR Z (ZB Z Z hA32 Z zR zp (wDy h27)) (oL Z (hS24.ldCA (f:=0) hC33 Z Z Tryz.isAgg88 zp (us:=[jV x26.Bib,jV x26.Row,jV x26.Lane]) Z Z) (oM Z f20 (oM Z Z (bnK hm28 fun x34 h35 hm36=>?_))))
   have h37:=ha1.le le17
   have q:=h37.el (fun _=>rfl) (wBS h35)
   obtain ⟨b38,off39,hA40,hC41⟩:=q
   refine oR Z (ZB Z Z hA40 Z zR zp (wDy h35)) (oL Z (hS24.ldCA (f:=0) hC41 Z Z Tryz.isAgg88 zp (us:=[jV x34.Bib,jV x34.Row,jV x34.Lane]) Z Z) (oR Z (zq (Runs.neS (enc:=wAG) (a:=x26) (b:=x34) Z Z Z eqT88 eqG88) (congrArg nD (decide_not).symm)) (eN (ifc hm36 ?_ ?_))))
   ·intro c42 hm43
    refine zk (zm (fun h=>h c42.out)) (CK.skip (zo (zK (rR fL2 Z (oR Z (zq (zP Z fi15 Z) (congrArg (jV) hi23.out)) (oM Z Z (zy ?_)))))))
    obtain rfl:=nB hm43
    exact zK ⟨Z,_,Z,⟨U16,Z,f19,f20,f21,le17,hS24⟩⟩
   ·intro c42 hm44
    refine cT Z c42 (sR fL1 Z (oA Z Z (eN (zH (zQ (zC ?_))))))
    have q:=wBF hm44
    obtain ⟨v45,hm46,e47⟩:=q
    obtain rfl:=wCQ hm2 hX6 (hb13 v45 e47)
    refine zC (zQ (zC ?_))
    have hE:=nB hm46;first | subst r | cases hE
    exact ⟨Z,_,(zZ Z),U16,_,hS24,Z,Z⟩
  ·rintro ⟨⟩ σ48 W49 ⟨U52,fi51,f55,f56,f57,le53,hS54⟩ hb50
   have hm58:=wGP hm2 hX6 hb50
   try dsimp only at hm58
   have c59:Hid (¬ ((↑(((↑p0.length:Int):Int) - 0).toNat:Int) < (↑p0.length:Int))):=zI (wBp)
   refine sR fL1 Z (oR Z (zU Z fi51 f57) (eN (zD (cF Z c59 (ZE (zf (zf (ZA (zK (sR fL1 Z (oA Z Z (eN (zH ?_)))))))))))))
   have hE:=nB hm58;first | subst r | cases hE
   exact ⟨Z,_,(zZ Z),U52,_,hS54,Z,Z⟩
 ·have hm60:=hm;rw [if_neg c1] at hm60;replace c1:=zI c1
  refine cT Z c1 (sR fL1 Z (oA Z Z (eN (zH (zC ?_)))))
  have hE:=nB hm60;first | subst r | cases hE
  exact ⟨Z,_,(zZ Z),U,_,hS,Z,Z⟩
theorem wCs (w:World) (U:PHeap) (hS:St0 w U []) {r:Bool} (hm:wBN=some r):Gv Tryz.prog 45 [] w (wCc w [] U (fun U_ L_ v=>v=.bool r/\L_=[])):=by
 cases hm
 refine (xr45 w).mono ?_
 rintro v w' ⟨rfl,k⟩
 exact ⟨U,[],hS.grow k,Z,Z⟩
theorem wCE (p0:List Int) (pA0:Option Addr) (pc0:Nat) (p1:Int) (w:World) (U:PHeap) (hS:St0 w U []) (ha0:Sl U 1 pA0 pc0 p0.length (nA KL.encB8 p0)) {r:Bool} (hm:wAg p0 p1=some r):Gv Tryz.prog 5 [.slice pA0 p0.length pc0,jV p1] w (wCc w [] U (fun U_ L_ v=>v=.bool r/\L_=[])):=by
 unfold wAg at hm
 refine Gv.of Tryz.func5 Z Tryz.ntmps5 Tryz.results5 Z (sR fL1 Z (oA Z Z (eN (sR (.fl 0 (.fx 1 (.fx 2 (.fl 3 (.nil)) .stop) .stop)) Z (oM Z Z (bnK hm fun x1 h2 hm3=>zJ 0 Z Z Z Z (zG Z Z Tryz.call29 (zA Z zL) Z) hS (fun hs=>wFH p0 pA0 pc0 w U hs ha0 h2) (.inr Z) ?_))))))
 rintro U4 L5 v6 W7 le8 hS9 ⟨b10,A11,c12,rfl,rfl,h14⟩
 have hS15:sW w U U4 [.blk b10 184 [.slice A11 x1.bytes.length c12,jV x1.next,.int .u32 x1.state]] W7:=hS9
 have q:=bnd hm3
 obtain ⟨⟨x16,x17⟩,h18,hm19⟩:=q
 try dsimp only at hm19
 refine zJ 1 Z Z Z Z (zG Z Z Tryz.call37 (zA Z (zA Z zL)) Z) hS15 (fun hs=>wDN x1 b10 A11 c12 30 W7 U4 hs h14 h18) (.inl Z) ?_
 rintro U20 L21 v22 W23 le24 hS25 ⟨A26,c27,A28,c29,rfl,rfl,h31⟩
 let B0:Res:=.blk b10 184 [.slice A28 x17.bytes.length c29,jV x17.next,.int .u32 x17.state]
 let B1:Res:=.row A26 c27 90 3 (nA wAB x16)
 have hS32:sW w U U20 [B1,B0] W23:=hS25
 refine oA Z Z (eN (sR (.fl 0 (.fx 1 (.fl 2 (.fx 3 (.fx 4 (.nil) .stop) .stop)) .stop)) Z (oM Z Z (bnK hm19 fun x33 h34 hm35=>zJ 0 Z Z Z Z (zG Z Z Tryz.call38 (zA Z (zA Z zL)) Z) hS32 (fun hs=>wDu p1 20 W23 U20 hs h34) (.inr Z) ?_))))
 rintro U36 L37 v38 W39 le40 hS41 ⟨rfl,rfl⟩
 have hS42:sW w U U36 [B1,B0] W39:=hS41
 refine oR Z (zP Z Z Z) (ZJ (cs:=[jV 0]) Z Z Z Z Z Tryz.zeroValue3 Z hS42 ?_)
 intro W43 b44 hS45
 let B2:List Value:=[jV (w64 (x33 + 1))]
 refine OKS.st (j:=0) (vs:=B2) Z Z Z Z hS45 Z Z Z Z zB (zM Z) Z Z Z ?_
 intro W47 hS48
 have hS49:sW w U U36 [.blk b44 3 B2,B1,B0] W47:=hS48
 refine eN (sR (.fl 0 (.fl 1 (.fx 2 (fC3_7 (.nil)) .stop))) Z (oM Z Z (oL Z (hS49.ldB (j:=0) Z Z Z zF (v:=jV (w64 (x33 + 1))) Z) ?_)))
 have q:=hS49.freezeR (k:=1) (n:=x16.length) rfl (wAH (f:=wAB) (sz:=3) (fun _=>rfl) x16) (by decide)
 obtain ⟨U50,le51,hs52,hS53⟩:=q
 have hS54:sW w U U50 [.blk b44 3 B2,B0] W47:=hS53
 have q:=bnd hm35
 obtain ⟨⟨x55,x56⟩,h57,hm58⟩:=q
 try dsimp only at hm58
 refine zJ 0 Z Z Z Z (zG Z Z Tryz.call39 (zA Z (zA Z zL)) Z) hS54 (fun hs=>wDl x16 A26 c27 (w64 (x33 + 1)) W47 U50 hs hs52 h57) (.inr Z) ?_
 rintro U59 L60 v61 W62 le63 hS64 ⟨A65,c66,rfl,rfl⟩
 let B3:Res:=.row A65 c66 88 3 (nA wAG x55)
 have hS68:sW w U U59 [B3,.blk b44 3 B2,B0] W62:=hS64
 refine oM Z Z (oR Z (Runs.ext Z Z (v:=.slice A65 x55.length c66) Z) (oR Z (Runs.ext Z Z (v:=jV x56) Z) (oA Z Z (oA Z Z (eN (sR (.fl 0 (.fx 1 (fC2_6 (.nil)) .stop)) Z (oM Z Z ?_)))))))
 have h69:=hs52.le le63
 have q:=bnd hm58
 obtain ⟨⟨x70,x71⟩,h72,hm73⟩:=q
 try dsimp only at hm73
 refine zJ 0 Z Z Z Z (zG Z Z Tryz.call40 (zA Z zL) Z) hS68 (fun hs=>wFT x16 A26 c27 W62 U59 hs h69 h72) (.inr Z) ?_
 rintro U74 L75 v76 W77 le78 hS79 ⟨A80,c81,rfl,rfl⟩
 have hS83:sW w U U74 [.row A80 c81 3 1 (nA KL.encI x70),B3,.blk b44 3 B2,B0] W77:=hS79
 refine oM Z Z (oR Z (Runs.ext Z Z (v:=.slice A80 x70.length c81) Z) (oR Z (Runs.ext Z Z (v:=jV x71) Z) (oA Z Z (oA Z Z (eN (zD (sR (wMM (.fx 17 (.fl 18 (.fl 19 (.nil))) .stop)) Z (oM Z Z (oR Z (Runs.neq Z Z Z) (oM Z Z (ifc hm73 ?_ ?_)))))))))))
 ·intro c84 hm85
  refine zW Z Z Z (zg Z Z (zm (fun h=>h c84.out))) Z Z (zd Z Z Z (zg Z Z (zm (fun h=>h c84.out))) (fun _=>Runs.neq Z Z Z) (oR Z (zl Z (zm (fun h=>h c84.out)) Z) (oM Z Z (ifc hm85 ?_ ?_))))
  ·intro c86 hm87
   refine zW Z Z Z (zg Z Z (zm (fun h=>h c86.out))) Z Z (zd Z Z Z (zg Z Z (zm (fun h=>h c86.out))) (fun _=>zh Z Z zR) (zW Z Z Z (zg Z Z (zm (fun h=>h c86.out))) Z Z (zd Z Z Z (zg Z Z (zm (fun h=>h c86.out))) (fun _=>zh Z Z zN) (zd Z Z Z (zg Z Z (zm (fun h=>h c86.out))) (fun _=>Runs.neq Z Z Z) (oR Z (zl Z (zm (fun h=>h c86.out)) Z) (oM Z Z (ifc hm87 ?_ ?_)))))))
   ·intro c88 hm89
    refine zW Z Z Z (zg Z Z (zm (fun h=>h c88.out))) Z Z (zW Z Z Z (zg Z Z (zm (fun h=>h c88.out))) Z Z (zd Z Z Z (zg Z Z (zm (fun h=>h c88.out))) (fun _=>zh Z Z zN) ?_))
    have q:=hS83.freezeR (k:=0) (n:=x70.length) rfl (wAH (f:=KL.encI) (sz:=1) (fun _=>rfl) x70) (by decide)
    obtain ⟨U90,le91,hs92,hS93⟩:=q
    have hS94:sW w U U90 [B3,.blk b44 3 B2,B0] W77:=hS93
    refine bnK hm89 fun x95 h96 hm97=>zJ 0 Z Z Z (zg Z Z (zm (fun h=>h c88.out))) (zG Z Z Tryz.call41 (zA Z (zA Z zL)) Z) hS94 (fun hs=>wCP x70 A80 c81 (↑x16.length:Int) W77 U90 hs hs92 h96) (.inr Z) ?_
    rintro U98 L99 v100 W101 le102 hS103 ⟨rfl,rfl⟩
    have hS104:sW w U U98 [B3,.blk b44 3 B2,B0] W101:=hS103
    refine zd Z Z Z (zg Z Z (zm (fun h=>h c88.out))) (fun _=>Runs.notT Z Z) (oR Z (zl Z (zm (fun h=>h c88.out)) Z) (eN (ifc hm97 ?_ ?_)))
    ·intro c105 hm106
     refine zk (nC c105.out) (kN (zD (CK.fresh fun σ107 hσ108=>?_)))
     have f109:σ107 5=.slice A26 x16.length c27:=(hσ108 5).trans rfl
     have f110:σ107 6=.pointer (some ⟨b44,0,none⟩):=(hσ108 6).trans rfl
     have f111:σ107 7=.slice A65 x55.length c66:=(hσ108 7).trans rfl
     have f112:σ107 9=.slice A80 x70.length c81:=(hσ108 9).trans rfl
     clear hσ108
     refine rR (.fx 0 (.fl 1 (.nil)) .stop) Z (OKS.makeMap Z Z Z Z Z hS104 ?_)
     intro W113 b114 hS115
     have hr116:=MpR.nil wNZ mv86
     refine oA Z Z (eN (zD (sR fL3 Z (oM Z f111 (oR Z (zh Z Z zR) (oM Z Z (eN (zS ?_))))))))
     have q:=hS115.freeze (k:=2) rfl
     obtain ⟨U119,le120,hC121,hS122⟩:=q
     replace hC121:=Cl.of hC121
     have hS123:sW w U U119 [.obj b114 (.map #[] 0),B3,B0] W113:=hS122
     replace hC121:Cl U119 b44 0 B2:=hC121
     have q:=wEZ hm106
     obtain ⟨r139,hX140⟩:=q
     have q:=wEY hX140
     obtain ⟨hle141,hf142⟩:=q
     replace hle141:=zI hle141
     refine CK.forN (fun k138 l135 σ_ w_=>∃ (U_:PHeap) (es136:Array MapEntry) (ck137:Nat),σ_ 56=jV (↑k138:Int)/\σ_ 5=.slice A26 x16.length c27/\σ_ 6=.pointer (some ⟨b44,0,none⟩)/\σ_ 7=.slice A65 x55.length c66/\σ_ 9=.slice A80 x70.length c81/\σ_ 11=.map (some b114)/\σ_ 54=.slice A65 x55.length c66/\σ_ 55=jV (↑x55.length:Int)/\PHeap.Le U119 U_/\sW w U U_ [.obj b114 (.map es136 ck137),B0,B3] w_/\MpR es136 wNZ mv86 l135) hf142 ?_ ?_ ?_
     ·exact ⟨U119,#[],0,rfl,f109,f110,f111,f112,rfl,rfl,rfl,(zj _),(hS123.pick [0,2,1] _ (by decide) rfl),hr116⟩
     ·rintro k138 l135 xx145 σ143 W144 hk148 ⟨U150,es136,ck137,fi149,f153,f154,f155,f156,f157,f158,f159,le151,hS152,h160⟩ hx146 hb147
      have c161:Hid ((↑k138:Int) < (↑x55.length:Int)):=zI (wCa hk148)
      replace hk148:=zI hk148
      have hi162:Hid (w64 ((↑k138:Int) + 1)=(↑(k138 + 1):Int)):=zI (by have h1:=hle141.out;have h2:=c161.out;rw [wAd] <;> omega)
      refine sR fL1 Z (oR Z (zU Z fi149 f159) (eN (zD (cT Z c161 (kN (zD (zS (sR (wLn (.fx 3 (.fl 4 (.fx 5 (.nil) .stop)) .stop)) Z (oM Z fi149 (bnK hx146 fun _ h163 hm164=>?_))))))))))
      obtain ⟨b165,hA166⟩:=hS152.rowSome (j:=2) rfl (by rw [wAH (f:=wAG) (sz:=3) (fun _=>rfl) x55];have hz:=wAs h163;omega)
      refine oR Z (ZB Z f158 hA166 fi149 zR zp (wAs h163)) ?_
      have hg167:=wBT (xs:=x55) (wAs h163)
      let B4:List Value:=[jV ((gd x55 k138).Bib),jV ((gd x55 k138).Row),jV ((gd x55 k138).Lane)]
      refine zz rfl rfl rfl rfl (hS152.ldRA (j:=2) rfl hA166 rfl rfl Tryz.isAgg88 zp (vs:=B4) (wEf (sz:=3) (fun _=>rfl) _ _ _ hg167 (by first | omega | rfl | simp) rfl) rfl) rfl (ZJ (cs:=[jV 0,jV 0,jV 0]) rfl rfl rfl rfl rfl Tryz.zeroValue88 rfl hS152 ?_)
      intro W168 b169 hS170
      refine oA Z Z (OKS.st (j:=0) (vs:=B4) Z Z Z Z hS170 Z Z Z Z zp (zM Z) Z Z Z ?_)
      intro W172 hS173
      have hS174:sW w U U150 [.blk b169 88 B4,.obj b114 (.map es136 ck137),B0,B3] W172:=hS173
      refine eN (zD (zD (CK.fresh fun σ175 hσ176=>?_)))
      have f177:σ175 5=.slice A26 x16.length c27:=(hσ176 5).trans f153
      have f178:σ175 6=.pointer (some ⟨b44,0,none⟩):=(hσ176 6).trans f154
      have f179:σ175 7=.slice A65 x55.length c66:=(hσ176 7).trans f155
      have f180:σ175 9=.slice A80 x70.length c81:=(hσ176 9).trans f156
      have f181:σ175 11=.map (some b114):=(hσ176 11).trans f157
      have f182:σ175 12=jV (↑k138:Int):=(hσ176 12).trans rfl
      have f183:σ175 13=.pointer (some ⟨b169,0,none⟩):=(hσ176 13).trans rfl
      have f184:σ175 54=.slice A65 x55.length c66:=(hσ176 54).trans f158
      have f185:σ175 55=jV (↑x55.length:Int):=(hσ176 55).trans f159
      have f186:σ175 56=jV (↑k138:Int):=(hσ176 56).trans fi149
      clear hσ176
      refine ZI ZH [3,1,3,3,3,3,1,3,3,1,3,3,3,1,3,1,3,3,3,3,3,3,1,3,3,3,3,1,1,3,3,3,3,3,1,3,1,3,1,3] fL40 (by kernel_rfl) ?_
      have hS187:=hS174.drew
      generalize hw_W188:({ W172 with drawn:=W172.drawn + 1 }:World)=W188 at hS187 ⊢
      refine oR Z (ze Z f183 zi Z zB) (oL Z (hS187.ldB (j:=0) Z Z Z zF (v:=jV ((gd x55 k138).Bib)) Z) (oM Z f177 (oM Z f180 (oM Z f182 (bnK hm164 fun x189 h190 hm191=>?_)))))
      have h192:=hs92.le le102
      have h193:=h192.le le120
      have h194:=h193.le le151
      have q:=h194.el (fun _=>rfl) (wBS h190)
      obtain ⟨b195,off196,hA197,hC198⟩:=q
      refine oR Z (ZB Z Z hA197 Z zE zB (wDy h190)) (oL Z (hS187.ldC (f:=0) hC198 (v:=jV x189) Z Z zF Z) (bnK hm191 fun x199 h200 hm201=>?_))
      have h202:=h69.le le78
      have h203:=h202.le le91
      have h204:=h203.le le102
      have h205:=h204.le le120
      have h206:=h205.le le151
      have q:=h206.el (fun _=>rfl) (wBS h200)
      obtain ⟨b207,off208,hA209,hC210⟩:=q
      refine oR Z (ZG Z Z hA209 Z zN zn (wEW h200) (wFX h200)) (oR Z (ze Z Z zt Z zB) (oL Z (hS187.ldC (f:=0) hC210 (v:=jV x199.Bib) Z Z zF Z) (oR Z (Runs.neq Z Z Z) (oM Z Z (ifc hm201 ?_ ?_)))))
      ·intro c211 hm212
       refine zd Z Z Z (zg Z Z (zm (fun h=>h c211.out))) (fun _=>ze Z f183 zi Z zB) (zz Z Z Z (zg Z Z (zm (fun h=>h c211.out))) (hS187.ldB (j:=0) Z Z Z zF (v:=jV ((gd x55 k138).Row)) Z) Z (zW Z Z Z (zg Z Z (zm (fun h=>h c211.out))) Z f182 ?_))
       have h213:=hC121.le le151
       refine zz Z Z Z (zg Z Z (zm (fun h=>h c211.out))) (hS187.ldC (f:=0) h213 (v:=jV (w64 (x33 + 1))) Z f178 zF Z) Z (bnK hm212 fun x214 h215 hm216=>zd Z Z Z (zg Z Z (zm (fun h=>h c211.out))) (fun _=>Runs.quo Z Z Z h215) (zd Z Z Z (zg Z Z (zm (fun h=>h c211.out))) (fun _=>zP Z Z Z) (zd Z Z Z (zg Z Z (zm (fun h=>h c211.out))) (fun _=>Runs.neq Z Z Z) (oR Z (zl Z (zm (fun h=>h c211.out)) Z) (oM Z Z (ifc hm216 ?_ ?_))))))
       ·intro c217 hm218
        refine zd Z Z Z (zg Z Z (zm (fun h=>h c217.out))) (fun _=>ze Z f183 zi Z zB) (zz Z Z Z (zg Z Z (zm (fun h=>h c217.out))) (hS187.ldB (j:=0) Z Z Z zF (v:=jV ((gd x55 k138).Lane)) Z) Z (zd Z Z Z (zg Z Z (zm (fun h=>h c217.out))) (fun _=>zU Z Z Z) (oR Z (zl Z (zm (fun h=>h c217.out)) Z) (oM Z Z (ifc hm218 ?_ ?_)))))
        ·intro c219 hm220
         refine oT Z c219 (oT Z c219 (oT Z c219 (oT Z c219 (oR Z (zV Z (wDV c219.out) Z) (oM Z Z (oN Z (oN Z (oN Z (oN Z (oN Z (oN Z (oN Z (oR Z (zV Z Z Z) (eN (zY Z (sR fL1 Z (oA Z Z (eN (zH (zC (zQ (zC ?_))))))))))))))))))))))
         have q:=wBF hm220
         obtain ⟨v221,hm222,e223⟩:=q
         obtain rfl:=wCQ hm106 hX140 (hb147 v221 e223)
         refine zC (zQ (zC ?_))
         have hE:=nB hm222;first | subst r | cases hE
         exact ⟨rfl,_,(zZ rfl),U150,_,(hS187.pick [] _ (by decide) rfl),rfl,rfl⟩
        ·intro c219 hm224
         refine rU Z (wF Z c219) (ze Z f183 zi Z zB) (zz Z Z Z (wF Z c219) (hS187.ldB (j:=0) Z Z Z zF (v:=jV ((gd x55 k138).Lane)) Z) Z (zz Z Z Z (wF Z c219) (hS187.ldC (f:=0) h213 (v:=jV (w64 (x33 + 1))) Z f178 zF Z) Z (rU Z (wF Z c219) (Runs.gtr Z Z Z) (oR Z (zl Z (zm c219.out) Z) (oM Z Z (ifc hm224 ?_ ?_))))))
         ·intro c225 hm226
          refine oT Z c225 (oT Z c225 (oT Z c225 (oT Z c225 (oT Z c225 (oT Z c225 (oT Z c225 (oR Z (zV Z (wDV c225.out) Z) (eN (zY Z (sR fL1 Z (oA Z Z (eN (zH (zC (zQ (zC ?_))))))))))))))))
          have q:=wBF hm226
          obtain ⟨v227,hm228,e229⟩:=q
          obtain rfl:=wCQ hm106 hX140 (hb147 v227 e229)
          refine zC (zQ (zC ?_))
          have hE:=nB hm228;first | subst r | cases hE
          exact ⟨rfl,_,(zZ rfl),U150,_,(hS187.pick [] _ (by decide) rfl),rfl,rfl⟩
         ·intro c225 hm230
          refine zW Z Z Z (wF Z c225) Z f181 (rU Z (wF Z c225) (ze Z f183 zi Z zB) (zz Z Z Z (wF Z c225) (hS187.ldB (j:=0) Z Z Z zF (v:=jV ((gd x55 k138).Row)) Z) Z (rU Z (wF Z c225) (ze Z f183 zi Z zB) (zz Z Z Z (wF Z c225) (hS187.ldB (j:=0) Z Z Z zF (v:=jV ((gd x55 k138).Lane)) Z) Z ?_))))
          let B5:List Value:=[jV ((gd x55 k138).Row),jV ((gd x55 k138).Lane)]
          refine rU Z (wF Z c225) (Runs.buildA (pv:=[(0,jV ((gd x55 k138).Row)),(1,jV ((gd x55 k138).Lane))]) (z:=[jV 0,jV 0]) (cs:=B5) Z (wAM Z (wAM Z wAt)) Tryz.zeroValue68 Tryz.runUnderlying68 zB Z Z) (zz Z Z Z (wF Z c225) (hS187.lookup1 (j:=1) (mk:=wNZ) (mv:=mv86) (a:=(⟨[(gd x55 k138).Row,(gd x55 k138).Lane],Z⟩:Arr Int 2)) (z:=false) Z Z Z Z (wCR Tryz.runUnderlying86) wMJ Tryz.zeroValue4 h160) Z (oR Z (zl Z (zm c225.out) Z) (eN (ifc hm230 ?_ ?_))))
          ·intro c231 hm232
           refine zY (congrArg nD c231.out) (sR fL1 Z (oA Z Z (eN (zH (zC (zQ (zC ?_)))))))
           have q:=wBF hm232
           obtain ⟨v233,hm234,e235⟩:=q
           obtain rfl:=wCQ hm106 hX140 (hb147 v233 e235)
           refine zC (zQ (zC ?_))
           have hE:=nB hm234;first | subst r | cases hE
           exact ⟨rfl,_,(zZ rfl),U150,_,(hS187.pick [] _ (by decide) rfl),rfl,rfl⟩
          ·intro c231 hm236
           refine zk (congrArg nD (nE.2 c231.out)) (kN (zD (CK.fresh fun σ237 hσ238=>?_)))
           have f239:σ237 5=.slice A26 x16.length c27:=(hσ238 5).trans f177
           have f240:σ237 6=.pointer (some ⟨b44,0,none⟩):=(hσ238 6).trans f178
           have f241:σ237 7=.slice A65 x55.length c66:=(hσ238 7).trans f179
           have f242:σ237 9=.slice A80 x70.length c81:=(hσ238 9).trans f180
           have f243:σ237 11=.map (some b114):=(hσ238 11).trans f181
           have f244:σ237 12=jV (↑k138:Int):=(hσ238 12).trans f182
           have f245:σ237 13=.pointer (some ⟨b169,0,none⟩):=(hσ238 13).trans f183
           have f246:σ237 54=.slice A65 x55.length c66:=(hσ238 54).trans f184
           have f247:σ237 55=jV (↑x55.length:Int):=(hσ238 55).trans f185
           have f248:σ237 56=jV (↑k138:Int):=(hσ238 56).trans f186
           clear hσ238
           refine rR (wOb (.fx 6 (.nil) .stop)) rfl (zW rfl rfl rfl rfl rfl f243 (zd rfl rfl rfl rfl (fun _=>ze rfl f245 zi rfl zB) (zz rfl rfl rfl rfl (hS187.ldB (j:=0) rfl rfl rfl zF (v:=jV ((gd x55 k138).Row)) rfl) rfl (zd rfl rfl rfl rfl (fun _=>ze rfl f245 zi rfl zB) (zz rfl rfl rfl rfl (hS187.ldB (j:=0) rfl rfl rfl zF (v:=jV ((gd x55 k138).Lane)) rfl) rfl (zd rfl rfl rfl rfl (fun _=>Runs.buildA (pv:=[(0,jV ((gd x55 k138).Row)),(1,jV ((gd x55 k138).Lane))]) (z:=[jV 0,jV 0]) (cs:=B5) rfl (wAM rfl (wAM rfl wAt)) Tryz.zeroValue68 Tryz.runUnderlying68 zB rfl rfl) (OKS.mapPut (x:=.tmp 101) (y:=.tmp 106) (j:=1) (mk:=wNZ) (mv:=mv86) (a:=(⟨[(gd x55 k138).Row,(gd x55 k138).Lane],rfl⟩:Arr Int 2)) (v:=true) rfl rfl rfl (by first | exact .inl rfl | exact .inr rfl) hS187 rfl rfl rfl rfl (wCR Tryz.runUnderlying86) wMJ h160 rfl ?_)))))))
           intro es249 ck250 W251 hr252 hS253
           have hS254:sW w U U150 [.blk b169 88 B4,.obj b114 (.map es249 ck250),B0,B3] W251:=hS253
           refine eN (sR fL2 rfl (zd rfl rfl rfl rfl (fun _=>Runs.mkf rfl zL (zA f240 zL)) (OKS.ra rfl rfl rfl rfl rfl rfl (eN (zD (ZI ZH [3,1,3,3,3,3,3,3,3,3,1,2,3,1,2,3,3] (wOc (.fl 12 (.fl 13 (.fx 11 (.fx 14 (.fl 15 (.fl 16 (.nil))) .stop) .stop)))) (by kernel_rfl) ?_))))))
           have hS255:=hS254.drew
           generalize hw_W256:({ W251 with drawn:=W251.drawn + 1 }:World)=W256 at hS255 ⊢
           refine oM Z f244 (oL Z (hS255.ldC (f:=0) h213 (v:=jV (w64 (x33 + 1))) Z f240 zF Z) (bnK hm236 fun x257 h258 hm259=>oR Z (Runs.rem Z Z Z h258) (oR Z (Runs.gtr Z Z Z) (oM Z Z (ifc hm259 ?_ ?_)))))
           ·intro c260 hm261
            refine zW Z Z Z (wT Z c260) Z Z (zW Z Z Z (wT Z c260) Z f241 (zW Z Z Z (wT Z c260) Z f244 (rU Z (wT Z c260) (Runs.subw Z Z Z) (bnK hm261 fun _ h262 hm263=>rU Z (wT Z c260) (ZG Z Z hA166 Z zR zp (wDZ h262) (wDa h262)) ?_))))
            have hg264:=wBT (xs:=x55) (wAs h262)
            refine zz rfl rfl rfl (zg rfl rfl (wDV c260.out)) (hS255.ldRA (j:=3) rfl hA166 rfl rfl Tryz.isAgg88 zp (vs:=[jV ((gd x55 (w64 ((↑k138:Int) - 1)).toNat).Bib),jV ((gd x55 (w64 ((↑k138:Int) - 1)).toNat).Row),jV ((gd x55 (w64 ((↑k138:Int) - 1)).toNat).Lane)]) (wEf (sz:=3) (fun _=>rfl) _ _ _ hg264 (by first | omega | rfl | simp) rfl) rfl) rfl (zW rfl rfl rfl (zg rfl rfl (wDV c260.out)) rfl rfl (zz rfl rfl rfl (zg rfl rfl (wDV c260.out)) (hS255.ldBA (j:=0) rfl rfl f245 Tryz.isAgg88 zp (vs:=B4) rfl rfl) rfl (bnK hm263 fun x265 h266 hm267=>zJ 0 rfl rfl rfl (zg rfl rfl (wDV c260.out)) (zG rfl rfl Tryz.call42 (zA rfl zL) rfl) hS255 (fun hs=>wBJ (gd x55 (w64 ((↑k138:Int) - 1)).toNat) (w64 (x33 + 1)) b44 W256 U150 hs h213 h266) (.inr rfl) ?_)))
            rintro U268 L269 v270 W271 le272 hS273 ⟨rfl,rfl⟩
            have hS274:sW w U U268 [.blk b169 88 B4,.obj b114 (.map es249 ck250),B0,B3] W271:=hS273
            have h275:=h213.le le272
            refine bnK hm267 fun x276 h277 hm278=>zJ 0 Z Z Z (wT Z c260) (zG Z Z Tryz.call42 (zA Z zL) Z) hS274 (fun hs=>wBJ (gd x55 k138) (w64 (x33 + 1)) b44 W271 U268 hs h275 h277) (.inr Z) ?_
            rintro U279 L280 v281 W282 le283 hS284 ⟨rfl,rfl⟩
            have hS285:sW w U U279 [.blk b169 88 B4,.obj b114 (.map es249 ck250),B0,B3] W282:=hS284
            refine rU Z (wT Z c260) (Runs.gtr Z Z Z) (oR Z (zV Z (wDV c260.out) Z) (eN (ifc hm278 ?_ ?_)))
            ·intro c286 hm287
             refine cT Z c286 (sR fL1 Z (oA Z Z (eN (zH (zQ (zC ?_))))))
             have q:=wBF hm287
             obtain ⟨v288,hm289,e290⟩:=q
             obtain rfl:=wCQ hm106 hX140 (hb147 v288 e290)
             refine zC (zQ (zC ?_))
             have hE:=nB hm289;first | subst r | cases hE
             exact ⟨rfl,_,(zZ rfl),U279,_,(hS285.pick [] _ (by decide) rfl),rfl,rfl⟩
            ·intro c286 hm291
             refine cF Z c286 (CK.skip (zo (zK (rR fL2 Z (oR Z (zq (zP Z f248 Z) (congrArg (jV) hi162.out)) (oM Z Z (zy ?_)))))))
             obtain rfl:=nB hm291
             exact zK ⟨rfl,_,rfl,⟨U279,es249,ck250,rfl,f239,f240,f241,f242,f243,f246,f247,((le151.trans le272).trans le283),(hS285.pick [1,2,3] _ (by decide) rfl),hr252⟩⟩
           ·intro c260 hm295
            refine oF Z c260 (oF Z c260 (oF Z c260 (oF Z c260 (oF Z c260 (oF Z c260 (oF Z c260 (oF Z c260 (OKS.px Z Z Z (wBX Z Z (zm c260.out) Z) (OKS.px Z Z Z (wBX Z Z (zm c260.out) Z) (oF Z c260 (oR Z (zl Z (zm c260.out) Z) (eN (zk Z (CK.skip (zo (zK (rR fL2 Z (oR Z (zq (zP Z f248 Z) (congrArg (jV) hi162.out)) (oM Z Z (zy ?_))))))))))))))))))))
            obtain rfl:=nB hm295
            exact zK ⟨rfl,_,rfl,⟨U150,es249,ck250,rfl,f239,f240,f241,f242,f243,f246,f247,le151,(hS255.pick [1,2,3] _ (by decide) rfl),hr252⟩⟩
       ·intro c217 hm299
        refine oT Z c217 (oT Z c217 (oT Z c217 (oR Z (zV Z (wDV c217.out) Z) (oM Z Z (oN Z (oN Z (oN Z (oN Z (oR Z (zV Z Z Z) (oM Z Z (oN Z (oN Z (oN Z (oN Z (oN Z (oN Z (oN Z (oR Z (zV Z Z Z) (eN (zY Z (sR fL1 Z (oA Z Z (eN (zH (zC (zQ (zC ?_)))))))))))))))))))))))))))
        have q:=wBF hm299
        obtain ⟨v300,hm301,e302⟩:=q
        obtain rfl:=wCQ hm106 hX140 (hb147 v300 e302)
        refine zC (zQ (zC ?_))
        have hE:=nB hm301;first | subst r | cases hE
        exact ⟨rfl,_,(zZ rfl),U150,_,(hS187.pick [] _ (by decide) rfl),rfl,rfl⟩
      ·intro c211 hm303
       refine oT Z c211 (oT Z c211 (oT Z c211 (oT Z c211 (oT Z c211 (oT Z c211 (oT Z c211 (oR Z (zV Z (wDV c211.out) Z) (oM Z Z (oN Z (oN Z (oN Z (oR Z (zV Z Z Z) (oM Z Z (oN Z (oN Z (oN Z (oN Z (oR Z (zV Z Z Z) (oM Z Z (oN Z (oN Z (oN Z (oN Z (oN Z (oN Z (oN Z (oR Z (zV Z Z Z) (eN (zY Z (sR fL1 Z (oA Z Z (eN (zH (zC (zQ (zC ?_))))))))))))))))))))))))))))))))))))
       have q:=wBF hm303
       obtain ⟨v304,hm305,e306⟩:=q
       obtain rfl:=wCQ hm106 hX140 (hb147 v304 e306)
       refine zC (zQ (zC ?_))
       have hE:=nB hm305;first | subst r | cases hE
       exact ⟨rfl,_,(zZ rfl),U150,_,(hS187.pick [] _ (by decide) rfl),rfl,rfl⟩
     ·rintro y311 σ307 W308 ⟨U314,e312,c313,fi310,f317,f318,f319,f320,f321,f322,f323,le315,hS316,h324⟩ hb309
      have hm325:=wGP hm106 hX140 hb309
      have c326:Hid (¬ ((↑(((↑x55.length:Int):Int) - 0).toNat:Int) < (↑x55.length:Int))):=zI (wBp)
      refine sR fL1 Z (oR Z (zU Z fi310 f323) (eN (zD (cF Z c326 (ZE (zf (zf (ZA (zK ?_)))))))))
      have q:=bnd hm325
      obtain ⟨⟨x327,l328⟩,hx332,hm333⟩:=q
      try dsimp only at hm333
      refine CK.cut (fun σ_ w_=>∃ (U_:PHeap) (A329:Option Addr) (c330:Nat),σ_ 7=.slice A65 x55.length c66/\σ_ 8=jV x327/\σ_ 15=.slice A329 l328.length c330/\PHeap.Le U314 U_/\sW w U U_ [.obj b114 (.map e312 c313),B0,B3,.row A329 c330 88 3 (nA wAG l328)] w_) ?_ ?_
      ·refine bnK hx332 fun x339 h340 hm386=>bnK hm386 fun x357 h358 hm387=>?_
       have q:=bnd hm387
       obtain ⟨⟨x372,x373⟩,h374,hm388⟩:=q
       try dsimp only at hm388
       refine ZI ZH [3,2,3,2,0,2,2,3,3,3,3,3] (.fl 0 (.fl 2 (.fx 1 (.fx 3 (.fx 4 (.fx 5 (.fx 6 (wBl (.nil)) (.stop)) (.stop)) (.fx 5 (.fx 4 (.fx 6 (wBl (.nil)) (.stop)) (.stop)) (.stop))) (.fx 5 (.fx 3 (.fx 4 (.fx 6 (wBl (.nil)) (.stop)) (.stop)) (.stop)) (.stop))) (.fx 3 (.fx 1 (.fx 4 (.fx 5 (.fx 6 (wBl (.nil)) (.stop)) (.stop)) (.fx 5 (.fx 4 (.fx 6 (wBl (.nil)) (.stop)) (.stop)) (.stop))) (.fx 5 (.fx 1 (.fx 4 (.fx 6 (wBl (.nil)) (.stop)) (.stop)) (.stop)) (.stop))) (.fx 5 (.fx 1 (.fx 3 (.fx 4 (.fx 6 (wBl (.nil)) (.stop)) (.stop)) (.stop)) (.fx 3 (.fx 1 (.fx 4 (.fx 6 (wBl (.nil)) (.stop)) (.stop)) (.stop)) (.stop))) (.stop)))))) (by kernel_rfl) ?_
       have hS389:=hS316.drew
       generalize hw_W390:({ W308 with drawn:=W308.drawn + 1 }:World)=W390 at hS389 ⊢
       refine OKS.cutD (s:=wBl (.nil)) (M:=fun σ_ w_=>∃ (U_:PHeap) (A562:Option Addr) (c563:Nat) (A565:Option Addr) (c566:Nat) (A567:Option Addr) (c568:Nat),σ_ 5=.slice A26 x16.length c27/\σ_ 6=.pointer (some ⟨b44,0,none⟩)/\σ_ 7=.slice A65 x55.length c66/\σ_ 127=.slice A26 x16.length c27/\σ_ 129=.agg #[jV 999,jV 0,jV 9999]/\σ_ 130=.slice A562 ([(⟨999,0,9999⟩:wAA)].length) c563/\σ_ 131=.slice A565 x357.length c566/\σ_ 132=jV (w64 (x33 + 1))/\σ_ 133=.tuple #[.slice A567 x372.length c568,jV x373]/\PHeap.Le U314 U_/\sW w U U_ [.obj b114 (.map e312 c313),B0,B3,.row A562 c563 90 3 (nA wAB [(⟨999,0,9999⟩:wAA)]),.row A567 c568 88 3 (nA wAG x372)] w_/\Sl U_ 3 A565 c566 x357.length (nA wAB x357)) ?_ fun ko569=>?_
       ·rintro σ570 W571 ⟨U572,A562,c563,A565,c566,A567,c568,f575,f576,f577,f578,f579,f580,f581,f582,f583,le573,hS574,h584⟩
        refine oM Z f583 (oR Z (Runs.ext Z Z (v:=.slice A567 x372.length c568) Z) (oR Z (Runs.ext Z Z (v:=jV x373) Z) (oA Z Z (oA Z Z (zy ?_)))))
        cases hm388
        exact zK ⟨rfl,⟨U572,A567,c568,f577,rfl,rfl,le573,(hS574.pick [0,1,2,4] _ (by decide) rfl)⟩⟩
       refine OKS.cutD (s:=.fx 6 (wBl (.nil)) (.stop)) (M:=fun σ_ w_=>∃ (U_:PHeap) (A589:Option Addr) (c590:Nat) (A591:Option Addr) (c592:Nat),σ_ 5=.slice A26 x16.length c27/\σ_ 6=.pointer (some ⟨b44,0,none⟩)/\σ_ 7=.slice A65 x55.length c66/\σ_ 127=.slice A26 x16.length c27/\σ_ 129=.agg #[jV 999,jV 0,jV 9999]/\σ_ 130=.slice A589 ([(⟨999,0,9999⟩:wAA)].length) c590/\σ_ 131=.slice A591 x357.length c592/\σ_ 132=jV (w64 (x33 + 1))/\PHeap.Le U314 U_/\sW w U U_ [.obj b114 (.map e312 c313),B0,B3,.row A589 c590 90 3 (nA wAB [(⟨999,0,9999⟩:wAA)]),.row A591 c592 90 3 (nA wAB x357)] w_) ?_ fun ko593=>?_
       ·rintro σ594 W595 ⟨U596,A589,c590,A591,c592,f599,f600,f601,f602,f603,f604,f605,f606,le597,hS598⟩
        have q:=hS598.freezeR (k:=4) (n:=x357.length) rfl (wAH (f:=wAB) (sz:=3) (fun _=>rfl) x357) (by decide)
        obtain ⟨U607,le608,hs609,hS610⟩:=q
        let B6:Res:=.row A589 c590 90 3 (nA wAB [(⟨999,0,9999⟩:wAA)])
        have hS611:sW w U U607 [.obj b114 (.map e312 c313),B0,B3,B6] W595:=hS610
        refine zJ 0 Z Z Z Z (zG Z Z Tryz.call39 (zA f605 (zA f606 zL)) Z) hS611 (fun hs=>wDl x357 A591 c592 (w64 (x33 + 1)) W595 U607 hs hs609 h374) (.inr Z) ?_
        rintro U614 L615 v616 W617 le618 hS619 ⟨A620,c621,rfl,rfl⟩
        have hS623:sW w U U614 [.row A620 c621 88 3 (nA wAG x372),.obj b114 (.map e312 c313),B0,B3,B6] W617:=hS619
        have h631:=hs609.le le618
        exact ko569 _ _ ⟨U614,A589,c590,A591,c592,A620,c621,f599,f600,f601,f602,f603,f604,f605,f606,rfl,((le597.trans le608).trans le618),(hS623.pick [1,2,3,4,0] _ (by decide) rfl),h631⟩
       refine OKS.cutD (s:=.fx 4 (.fx 6 (wBl (.nil)) (.stop)) (.stop)) (M:=fun σ_ w_=>∃ (U_:PHeap) (A632:Option Addr) (c633:Nat) (A634:Option Addr) (c635:Nat),σ_ 5=.slice A26 x16.length c27/\σ_ 6=.pointer (some ⟨b44,0,none⟩)/\σ_ 7=.slice A65 x55.length c66/\σ_ 127=.slice A26 x16.length c27/\σ_ 128=.slice A632 x339.length c633/\σ_ 129=.agg #[jV 999,jV 0,jV 9999]/\σ_ 130=.slice A634 ([(⟨999,0,9999⟩:wAA)].length) c635/\σ_ 132=jV (w64 (x33 + 1))/\PHeap.Le U314 U_/\sW w U U_ [.obj b114 (.map e312 c313),B0,B3,.row A632 c633 90 3 (nA wAB x339),.row A634 c635 90 3 (nA wAB [(⟨999,0,9999⟩:wAA)])] w_) ?_ fun ko636=>?_
       ·rintro σ637 W638 ⟨U639,A632,c633,A634,c635,f642,f643,f644,f645,f646,f647,f648,f649,le640,hS641⟩
        refine OKS.append (j:=3) (enc:=wAB) (xs:=x339) (ys:=[(⟨999,0,9999⟩:wAA)]) (zs:=x357) rfl rfl rfl rfl rfl Tryz.underlying78 wIF rfl rfl rfl rfl rfl rfl hS641 rfl f646 f648 (hS641.srcR (j:=4) rfl (by decide) (wAH (f:=wAB) (sz:=3) (fun _=>rfl) [(⟨999,0,9999⟩:wAA)])) (fun _=>rfl) (fun _=>rfl) h358 rfl ?_
        intro A650 c651 W652 hS653
        have hS654:sW w U U639 [.obj b114 (.map e312 c313),B0,B3,.row A650 c651 90 3 (nA wAB x357),.row A634 c635 90 3 (nA wAB [(⟨999,0,9999⟩:wAA)])] W652:=hS653
        exact ko593 _ _ ⟨U639,A634,c635,A650,c651,f642,f643,f644,f645,f647,f648,rfl,f649,le640,(hS654.pick [0,1,2,4,3] _ (by decide) rfl)⟩
       refine OKS.cutD (s:=.fx 5 (.fx 6 (wBl (.nil)) (.stop)) (.stop)) (M:=fun σ_ w_=>∃ (U_:PHeap) (A659:Option Addr) (c660:Nat) (A661:Option Addr) (c662:Nat),σ_ 5=.slice A26 x16.length c27/\σ_ 6=.pointer (some ⟨b44,0,none⟩)/\σ_ 7=.slice A65 x55.length c66/\σ_ 127=.slice A26 x16.length c27/\σ_ 129=.agg #[jV 999,jV 0,jV 9999]/\σ_ 130=.slice A659 ([(⟨999,0,9999⟩:wAA)].length) c660/\σ_ 131=.slice A661 x357.length c662/\PHeap.Le U314 U_/\sW w U U_ [.obj b114 (.map e312 c313),B0,B3,.row A659 c660 90 3 (nA wAB [(⟨999,0,9999⟩:wAA)]),.row A661 c662 90 3 (nA wAB x357)] w_) ?_ fun ko663=>?_
       ·rintro σ664 W665 ⟨U666,A659,c660,A661,c662,f669,f670,f671,f672,f673,f674,f675,le667,hS668⟩
        have h676:=hC121.le le315
        have h677:=h676.le le667
        exact OKS.mx2 Z Z Z Z (hS668.ldC (f:=0) h677 (v:=jV (w64 (x33 + 1))) Z f670 zF Z) (ko593 _ _ ⟨U666,A659,c660,A661,c662,f669,f670,f671,f672,f673,f674,f675,Z,le667,hS668⟩)
       refine OKS.cutD (s:=.fx 1 (.fx 4 (.fx 6 (wBl (.nil)) (.stop)) (.stop)) (.stop)) (M:=fun σ_ w_=>∃ (U_:PHeap) (A682:Option Addr) (c683:Nat),σ_ 5=.slice A26 x16.length c27/\σ_ 6=.pointer (some ⟨b44,0,none⟩)/\σ_ 7=.slice A65 x55.length c66/\σ_ 127=.slice A26 x16.length c27/\σ_ 129=.agg #[jV 999,jV 0,jV 9999]/\σ_ 130=.slice A682 ([(⟨999,0,9999⟩:wAA)].length) c683/\σ_ 132=jV (w64 (x33 + 1))/\PHeap.Le U314 U_/\sW w U U_ [.obj b114 (.map e312 c313),B0,B3,.row A682 c683 90 3 (nA wAB [(⟨999,0,9999⟩:wAA)])] w_) ?_ fun ko684=>?_
       ·rintro σ685 W686 ⟨U687,A682,c683,f690,f691,f692,f693,f694,f695,f696,le688,hS689⟩
        have h697:=h69.le le78
        have h698:=h697.le le91
        have h699:=h698.le le102
        have h700:=h699.le le120
        have h701:=h700.le le315
        have h702:=h701.le le688
        refine zJ 0 Z Z Z Z (zG Z Z Tryz.call43 (zA f693 zL) Z) hS689 (fun hs=>wAc x16 A26 c27 W686 U687 hs h702 h340) (.inr Z) ?_
        rintro U704 L705 v706 W707 le708 hS709 ⟨A710,c711,rfl,rfl⟩
        have hS713:sW w U U704 [.row A710 c711 90 3 (nA wAB x339),.obj b114 (.map e312 c313),B0,B3,.row A682 c683 90 3 (nA wAB [(⟨999,0,9999⟩:wAA)])] W707:=hS709
        exact ko636 _ _ ⟨U704,A710,c711,A682,c683,f690,f691,f692,f693,rfl,f694,f695,f696,(le688.trans le708),(hS713.pick [1,2,3,0,4] _ (by decide) rfl)⟩
       refine OKS.cutD (s:=.fx 3 (.fx 4 (.fx 6 (wBl (.nil)) (.stop)) (.stop)) (.stop)) (M:=fun σ_ w_=>∃ (U_:PHeap) (A718:Option Addr) (c719:Nat),σ_ 5=.slice A26 x16.length c27/\σ_ 6=.pointer (some ⟨b44,0,none⟩)/\σ_ 7=.slice A65 x55.length c66/\σ_ 127=.slice A26 x16.length c27/\σ_ 128=.slice A718 x339.length c719/\σ_ 129=.agg #[jV 999,jV 0,jV 9999]/\σ_ 132=jV (w64 (x33 + 1))/\PHeap.Le U314 U_/\sW w U U_ [.obj b114 (.map e312 c313),B0,B3,.row A718 c719 90 3 (nA wAB x339)] w_) ?_ fun ko720=>?_
       ·rintro σ721 W722 ⟨U723,A718,c719,f726,f727,f728,f729,f730,f731,f732,le724,hS725⟩
        let B7:List Value:=[jV 999,jV 0,jV 9999]
        refine zr (pv:=[(0,.agg B7.toArray)]) (zs:=[jV 0,jV 0,jV 0]) (cs:=B7) Z Z Z Z Z (wAM f731 wAt) zN zn zx Z Z Z Z Z hS725 ?_
        intro W733 b734 hS735
        have hS737:sW w U U723 [.row (some ⟨b734,0,none⟩) 1 90 3 (nA wAB [(⟨999,0,9999⟩:wAA)]),.obj b114 (.map e312 c313),B0,B3,.row A718 c719 90 3 (nA wAB x339)] W733:=hS735
        exact ko636 _ _ ⟨U723,A718,c719,(some ⟨b734,0,none⟩),1,f726,f727,f728,f729,f730,f731,rfl,f732,le724,(hS737.pick [1,2,3,4,0] _ (by decide) rfl)⟩
       refine OKS.cutD (s:=.fx 4 (.fx 5 (.fx 6 (wBl (.nil)) (.stop)) (.stop)) (.fx 5 (.fx 4 (.fx 6 (wBl (.nil)) (.stop)) (.stop)) (.stop))) (M:=fun σ_ w_=>∃ (U_:PHeap) (A742:Option Addr) (c743:Nat) (A744:Option Addr) (c745:Nat),σ_ 5=.slice A26 x16.length c27/\σ_ 6=.pointer (some ⟨b44,0,none⟩)/\σ_ 7=.slice A65 x55.length c66/\σ_ 127=.slice A26 x16.length c27/\σ_ 128=.slice A742 x339.length c743/\σ_ 129=.agg #[jV 999,jV 0,jV 9999]/\σ_ 130=.slice A744 ([(⟨999,0,9999⟩:wAA)].length) c745/\PHeap.Le U314 U_/\sW w U U_ [.obj b114 (.map e312 c313),B0,B3,.row A742 c743 90 3 (nA wAB x339),.row A744 c745 90 3 (nA wAB [(⟨999,0,9999⟩:wAA)])] w_) ?_ fun ko746=>?_
       ·rintro σ747 W748 ⟨U749,A742,c743,A744,c745,f752,f753,f754,f755,f756,f757,f758,le750,hS751⟩
        refine OKS.both ?_ ?_
        ·refine OKS.append (j:=3) (enc:=wAB) (xs:=x339) (ys:=[(⟨999,0,9999⟩:wAA)]) (zs:=x357) rfl rfl rfl rfl rfl Tryz.underlying78 wIF rfl rfl rfl rfl rfl rfl hS751 rfl f756 f758 (hS751.srcR (j:=4) rfl (by decide) (wAH (f:=wAB) (sz:=3) (fun _=>rfl) [(⟨999,0,9999⟩:wAA)])) (fun _=>rfl) (fun _=>rfl) h358 rfl ?_
         intro A759 c760 W761 hS762
         have hS763:sW w U U749 [.obj b114 (.map e312 c313),B0,B3,.row A759 c760 90 3 (nA wAB x357),.row A744 c745 90 3 (nA wAB [(⟨999,0,9999⟩:wAA)])] W761:=hS762
         exact ko663 _ _ ⟨U749,A744,c745,A759,c760,f752,f753,f754,f755,f757,f758,rfl,le750,(hS763.pick [0,1,2,4,3] _ (by decide) rfl)⟩
        ·have h768:=hC121.le le315
         have h769:=h768.le le750
         exact OKS.mx2 Z Z Z Z (hS751.ldC (f:=0) h769 (v:=jV (w64 (x33 + 1))) Z f753 zF Z) (ko636 _ _ ⟨U749,A742,c743,A744,c745,f752,f753,f754,f755,f756,f757,f758,Z,le750,hS751⟩)
       refine oM Z f317 ?_
       let B8:List Value:=[jV 999,jV 0,jV 9999]
       let B9:List Value:=[jV 0,jV 0,jV 0]
       refine oR Z (Runs.build (pv:=[(0,jV 999),(2,jV 9999)]) (z:=B9) (cs:=B8) Z (wAM Z (wAM Z wAt)) zx wIE Z Z) (OKS.both ?_ ?_)
       ·have h774:=h69.le le78
        have h775:=h774.le le91
        have h776:=h775.le le102
        have h777:=h776.le le120
        have h778:=h777.le le315
        refine zJ 0 Z Z Z Z (zG Z Z Tryz.call43 (zA Z zL) Z) hS389 (fun hs=>wAc x16 A26 c27 W390 U314 hs h778 h340) (.inr Z) ?_
        rintro U780 L781 v782 W783 le784 hS785 ⟨A786,c787,rfl,rfl⟩
        let B10:Res:=.row A786 c787 90 3 (nA wAB x339)
        have hS789:sW w U U780 [B10,.obj b114 (.map e312 c313),B0,B3] W783:=hS785
        refine OKS.both ?_ ?_
        ·refine zr (pv:=[(0,.agg B8.toArray)]) (zs:=B9) (cs:=B8) Z Z Z Z Z (wAM Z wAt) zN zn zx Z Z Z Z Z hS789 ?_
         intro W790 b791 hS792
         have hS794:sW w U U780 [.row (some ⟨b791,0,none⟩) 1 90 3 (nA wAB [(⟨999,0,9999⟩:wAA)]),B10,.obj b114 (.map e312 c313),B0,B3] W790:=hS792
         exact ko746 _ _ ⟨U780,A786,c787,(some ⟨b791,0,none⟩),1,f317,f318,f319,rfl,rfl,rfl,rfl,le784,(hS794.pick [2,3,4,1,0] _ (by decide) rfl)⟩
        ·have h799:=hC121.le le315
         have h800:=h799.le le784
         exact OKS.mx2 rfl rfl rfl rfl (hS789.ldC (f:=0) h800 (v:=jV (w64 (x33 + 1))) rfl f318 zF rfl) (ko720 _ _ ⟨U780,A786,c787,f317,f318,f319,rfl,rfl,rfl,rfl,le784,(hS789.pick [1,2,3,0] _ (by decide) rfl)⟩)
       refine OKS.both ?_ ?_
       ·refine zr (pv:=[(0,.agg B8.toArray)]) (zs:=B9) (cs:=B8) Z Z Z Z Z (wAM Z wAt) zN zn zx Z Z Z Z Z hS389 ?_
        intro W803 b804 hS805
        let B11:Res:=.row (some ⟨b804,0,none⟩) 1 90 3 (nA wAB [(⟨999,0,9999⟩:wAA)])
        have hS807:sW w U U314 [B11,.obj b114 (.map e312 c313),B0,B3] W803:=hS805
        refine OKS.both ?_ ?_
        ·have h808:=h69.le le78
         have h809:=h808.le le91
         have h810:=h809.le le102
         have h811:=h810.le le120
         have h812:=h811.le le315
         refine zJ 0 Z Z Z Z (zG Z Z Tryz.call43 (zA Z zL) Z) hS807 (fun hs=>wAc x16 A26 c27 W803 U314 hs h812 h340) (.inr Z) ?_
         rintro U814 L815 v816 W817 le818 hS819 ⟨A820,c821,rfl,rfl⟩
         have hS823:sW w U U814 [.row A820 c821 90 3 (nA wAB x339),B11,.obj b114 (.map e312 c313),B0,B3] W817:=hS819
         exact ko746 _ _ ⟨U814,A820,c821,(some ⟨b804,0,none⟩),1,f317,f318,f319,rfl,rfl,rfl,rfl,le818,(hS823.pick [2,3,4,0,1] _ (by decide) rfl)⟩
        ·have h828:=hC121.le le315
         exact OKS.mx2 rfl rfl rfl rfl (hS807.ldC (f:=0) h828 (v:=jV (w64 (x33 + 1))) rfl f318 zF rfl) (ko684 _ _ ⟨U314,(some ⟨b804,0,none⟩),1,f317,f318,f319,rfl,rfl,rfl,rfl,(zj _),(hS807.pick [1,2,3,0] _ (by decide) rfl)⟩)
       ·have h831:=hC121.le le315
        refine OKS.mx2 Z Z Z Z (hS389.ldC (f:=0) h831 (v:=jV (w64 (x33 + 1))) Z f318 zF Z) (OKS.both ?_ ?_)
        ·have h832:=h69.le le78
         have h833:=h832.le le91
         have h834:=h833.le le102
         have h835:=h834.le le120
         have h836:=h835.le le315
         refine zJ 0 Z Z Z Z (zG Z Z Tryz.call43 (zA Z zL) Z) hS389 (fun hs=>wAc x16 A26 c27 W390 U314 hs h836 h340) (.inr Z) ?_
         rintro U838 L839 v840 W841 le842 hS843 ⟨A844,c845,rfl,rfl⟩
         have hS847:sW w U U838 [.row A844 c845 90 3 (nA wAB x339),.obj b114 (.map e312 c313),B0,B3] W841:=hS843
         exact ko720 _ _ ⟨U838,A844,c845,f317,f318,f319,rfl,rfl,rfl,rfl,le842,(hS847.pick [1,2,3,0] _ (by decide) rfl)⟩
        ·refine zr (pv:=[(0,.agg B8.toArray)]) (zs:=B9) (cs:=B8) Z Z Z Z Z (wAM Z wAt) zN zn zx Z Z Z Z Z hS389 ?_
         intro W850 b851 hS852
         have hS854:sW w U U314 [.row (some ⟨b851,0,none⟩) 1 90 3 (nA wAB [(⟨999,0,9999⟩:wAA)]),.obj b114 (.map e312 c313),B0,B3] W850:=hS852
         exact ko684 _ _ ⟨U314,(some ⟨b851,0,none⟩),1,f317,f318,f319,rfl,rfl,rfl,rfl,(zj _),(hS854.pick [1,2,3,0] _ (by decide) rfl)⟩
      ·rintro σ857 W858 ⟨U859,A329,c330,f862,f863,f864,le860,hS861⟩
       refine sR (wOf (.fx 16 (.fl 17 (.fl 18 (.fx 19 (.fl 20 (.fl 21 (.nil))) .stop))) .stop)) Z (oM Z f863 (oR Z (Runs.eql Z Z Z) (oM Z Z (ifc hm333 ?_ ?_))))
       ·intro c865 hm866
        refine zW Z Z Z (wT Z c865) Z f864 (rU Z (wT Z c865) (zh Z Z zR) (zW Z Z Z (wT Z c865) Z f862 (rU Z (wT Z c865) (zh Z Z zR) (rU Z (wT Z c865) (zP Z Z Z) (rU Z (wT Z c865) (Runs.eql Z Z Z) (oR Z (zV Z (wDV c865.out) Z) (oM Z Z (ifc hm866 ?_ ?_))))))))
        ·intro c867 hm868
         refine zW Z Z Z (wT Z c867) Z f864 (zW Z Z Z (wT Z c867) Z f862 (rU Z (wT Z c867) (zh Z Z zR) ?_))
         have q:=hS861.freezeR (k:=3) (n:=l328.length) rfl (wAH (f:=wAG) (sz:=3) (fun _=>rfl) l328) (by decide)
         obtain ⟨U869,le870,hs871,hS872⟩:=q
         have hS873:sW w U U869 [.obj b114 (.map e312 c313),B0,B3] W858:=hS872
         refine bnK hm868 fun x874 h875 hm876=>?_
         have q:=Sl.cutM (sz:=3) (f:=wAG) hs871 (fun _=>rfl) h875
         obtain ⟨sl885,ha882,hab884,hb883,hn881⟩:=q
         refine zd (v:=.slice (if c330=(0:Int).toNat then A329 else Option.map (·.add ((0:Int).toNat * 3)) A329) x874.length (c330 - (0:Int).toNat)) rfl rfl rfl (zg rfl rfl (wDV c867.out)) (fun _=>zq (Runs.slc (sz:=3) (a:=0) (b:=(↑x55.length:Int)) rfl rfl (.inr ⟨rfl,rfl⟩) (.inl ⟨_,rfl,rfl⟩) zR zp ha882 hab884 hb883 (hs871).cap) (by rw [hn881])) ?_
         generalize hA_A878:(if c330=(0:Int).toNat then A329 else Option.map (·.add ((0:Int).toNat * 3)) A329)=A878 at sl885 ⊢
         generalize hc_c879:c330 - (0:Int).toNat=c879 at sl885 ⊢
         refine zW Z Z Z (wT Z c867) Z f862 ?_
         have q:=hS873.freezeR (k:=2) (n:=x55.length) rfl (wAH (f:=wAG) (sz:=3) (fun _=>rfl) x55) (by decide)
         obtain ⟨U886,le887,hs888,hS889⟩:=q
         have hS890:sW w U U886 [.obj b114 (.map e312 c313),B0] W858:=hS889
         have h891:=sl885.le le887
         refine bnK hm876 fun x892 h893 hm894=>zJ 0 Z Z Z (wT Z c867) (zG Z Z Tryz.call44 (zA Z (zA Z zL)) Z) hS890 (fun hs=>wBm x874 A878 c879 x55 A65 c66 W858 U886 hs h891 hs888 h893) (.inr Z) ?_
         rintro U895 L896 v897 W898 le899 hS900 ⟨rfl,rfl⟩
         have hS901:sW w U U895 [.obj b114 (.map e312 c313),B0] W898:=hS900
         refine oR Z (zV Z (wDV c867.out) Z) (oM Z Z (ifc hm894 ?_ ?_))
         ·intro c902 hm903
          refine bnK hm903 fun x904 h905 hm906=>zJ 0 Z Z Z (zg Z Z (congrArg nD c902.out)) (zG Z Z Tryz.call45 zL Z) hS901 (fun hs=>wCs W898 U895 hs h905) (.inr Z) ?_
          rintro U907 L908 v909 W910 le911 hS912 ⟨rfl,rfl⟩
          have hS913:sW w U U907 [.obj b114 (.map e312 c313),B0] W910:=hS912
          refine oR Z (zV Z (congrArg nD c902.out) Z) (oA Z Z (eN (zH ?_)))
          have hE:=nB hm906;first | subst r | cases hE
          exact ⟨rfl,_,(zZ rfl),U907,_,(hS913.pick [] _ (by decide) rfl),rfl,rfl⟩
         ·intro c902 hm914
          refine OKS.px Z Z Z (wBX Z Z (congrArg nD (nE.2 c902.out)) Z) (oR Z (zl Z (congrArg nD (nE.2 c902.out)) Z) (oA Z Z (eN (zH ?_))))
          have hE:=nB hm914;first | subst r | cases hE
          exact ⟨rfl,_,(zZ rfl),U895,_,(hS901.pick [] _ (by decide) rfl),rfl,rfl⟩
        ·intro c867 hm915
         refine oF Z c867 (oF Z c867 (oF Z c867 (oF Z c867 (oF Z c867 (OKS.px Z Z Z (wBX Z Z (zm c867.out) Z) (oR Z (zl Z (zm c867.out) Z) (oM Z Z (OKS.px Z Z Z (wBX Z Z Z Z) (oR Z (zl Z Z Z) (oA Z Z (eN (zH ?_))))))))))))
         have hE:=nB hm915;first | subst r | cases hE
         exact ⟨rfl,_,(zZ rfl),U859,_,(hS861.pick [] _ (by decide) rfl),rfl,rfl⟩
       ·intro c865 hm916
        refine oF Z c865 (oF Z c865 (oF Z c865 (oF Z c865 (oF Z c865 (oF Z c865 (oR Z (zl Z (zm c865.out) Z) (oM Z Z (oN Z (oN Z (oN Z (oN Z (oN Z (OKS.px Z Z Z (wBX Z Z Z Z) (oR Z (zl Z Z Z) (oM Z Z (OKS.px Z Z Z (wBX Z Z Z Z) (oR Z (zl Z Z Z) (oA Z Z (eN (zH ?_))))))))))))))))))))
        have hE:=nB hm916;first | subst r | cases hE
        exact ⟨rfl,_,(zZ rfl),U859,_,(hS861.pick [] _ (by decide) rfl),rfl,rfl⟩
    ·intro c105 hm917
     refine zY (nF (c105.out)) (zD (CK.fresh fun σ918 hσ919=>?_))
     have f920:σ918 4=.bool false:=(hσ919 4).trans rfl
     clear hσ919
     refine rR fL1 Z (oA Z Z (eN (zH (zC ?_))))
     have hE:=nB hm917;first | subst r | cases hE
     exact ⟨rfl,_,(zZ rfl),U98,_,(hS104.pick [] _ (by decide) rfl),rfl,rfl⟩
   ·intro c88 hm921
    refine oT Z c88 (oT Z c88 (oT Z c88 (OKS.px Z Z Z (wBX Z Z (wDV c88.out) Z) (oT Z c88 (oR Z (zV Z (wDV c88.out) Z) (eN (zY Z (zD (CK.fresh fun σ922 hσ923=>?_)))))))))
    have f924:σ922 4=.bool false:=(hσ923 4).trans rfl
    clear hσ923
    refine rR fL1 Z (oA Z Z (eN (zH (zC ?_))))
    have hE:=nB hm921;first | subst r | cases hE
    exact ⟨rfl,_,(zZ rfl),U74,_,(hS83.pick [] _ (by decide) rfl),rfl,rfl⟩
  ·intro c86 hm925
   refine oT Z c86 (oT Z c86 (oT Z c86 (oT Z c86 (oT Z c86 (oR Z (zV Z (wDV c86.out) Z) (oM Z Z (oN Z (oN Z (oN Z (OKS.px Z Z Z (wBX Z Z Z Z) (oN Z (oR Z (zV Z Z Z) (eN (zY Z (zD (CK.fresh fun σ926 hσ927=>?_))))))))))))))))
   have f928:σ926 4=.bool false:=(hσ927 4).trans rfl
   clear hσ927
   refine rR fL1 Z (oA Z Z (eN (zH (zC ?_))))
   have hE:=nB hm925;first | subst r | cases hE
   exact ⟨rfl,_,(zZ rfl),U74,_,(hS83.pick [] _ (by decide) rfl),rfl,rfl⟩
 ·intro c84 hm929
  refine oT Z c84 (oT Z c84 (oR Z (zV Z (wDV c84.out) Z) (oM Z Z (oN Z (oN Z (oN Z (oN Z (oN Z (oR Z (zV Z Z Z) (oM Z Z (oN Z (oN Z (oN Z (OKS.px Z Z Z (wBX Z Z Z Z) (oN Z (oR Z (zV Z Z Z) (eN (zY Z (zD (CK.fresh fun σ930 hσ931=>?_))))))))))))))))))))
  have f932:σ930 4=.bool false:=(hσ931 4).trans rfl
  clear hσ931
  refine rR fL1 Z (oA Z Z (eN (zH (zC ?_))))
  have hE:=nB hm929;first | subst r | cases hE
  exact ⟨rfl,_,(zZ rfl),U74,_,(hS83.pick [] _ (by decide) rfl),rfl,rfl⟩
end Go.Proofs.YthbficbpebiekaaGreat
