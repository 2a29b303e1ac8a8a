import Derived.Test.YthbficbpebiekaaGreatZ4
set_option linter.all false
open List renaming flatMap->hH,set->nG,length_set->nH,getElem_cons_succ->nI,getElem_cons_zero->nJ,getElem_toArray->nK
open Option.some renaming inj->nA
open Go.Value renaming bool->nB
open Bool renaming eq_false_iff->nD
open Prod.mk renaming injEq->nE
open Option renaming map->nL
open Nat renaming blt->nM,le_of_ble_eq_true->nN
open Eq renaming trans->nO
namespace Go.Proofs.YthbficbpebiekaaGreat
open Go.KL
set_option maxHeartbeats 4000000
theorem Z {α:Type} {a:α}:a=a:=rfl
section
variable {r:Option Nat} {N:Nat} {P:Program} {l:List Oper} {Q:wBq} {D:List Deferred} {ks:List Nat} {σ:Env} {w:World} {i d j e:Nat} {s:Sch} {o:Oper} {b:Bool} {x:Operand} {v:Value} {p:Prop} {inst:Decidable p} {K:List Deferred->Env->World->Prop} {c1 c2:Code}
abbrev jV (n:Int):Value:=.int .i64 n
abbrev SW (w:World) (X:List Res) (U U':PHeap) (L:List Res) (w':World):Prop:=St ⟨w,X,U⟩ U' L w'
abbrev sW (w:World) (U U':PHeap) (L:List Res) (w':World):Prop:=St ⟨w,[],U⟩ U' L w'
abbrev St0 (w:World) (U:PHeap) (L:List Res):Prop:=St ⟨w,L,U⟩ U L w
theorem ifc {α:Type} {G p:Prop} {inst:Decidable p} {a b r:α} (h:@ite α p inst a b=r) (h1:Hid p->a=r->G) (h2:Hid (¬ p)->b=r->G):G:=by
 by_cases c:p
 · rw [if_pos c] at h;exact h1 ⟨c⟩ h
 · rw [if_neg c] at h;exact h2 ⟨c⟩ h
theorem bnK {α β:Type} {G:Prop} {o:Option α} {f:α->Option β} {r:β} (h:o.bind f=some r) (k:∀ x,o=some x->f x=some r->G):G:=by
 obtain ⟨x,h1,h2⟩:=bnd h
 exact k x h1 h2
theorem oR (h:(l[i]?,o.dst,nM d N,wanted l σ o)=(some o,some d,true,true)) (hr:∀ {w'},Runs P σ w' o v w') (k:OKS N P l Q D ks s (upd σ d v) w):OKS N P l Q D ks (.fl i s) σ w:=by
 simp only [nE] at h;exact OKS.r h.1 h.2.1 h.2.2.1 h.2.2.2 (fun _=>hr) k
theorem oL (h:(l[i]?,o.dst,nM d N,wanted l σ o,wNn (kOf ks i))=(some o,some d,true,true,false)) (hr:wDf P σ w o v) (k:OKS N P l Q D ks s (upd σ d v) w):OKS N P l Q D ks (.fl i s) σ w:=by
 simp only [nE] at h;exact OKS.m h.1 h.2.1 h.2.2.1 h.2.2.2.1 hr h.2.2.2.2 k
theorem oM (h:(l[i]?,o.dst,nM d N,wanted l σ o,o.op)=(some o,some d,true,true,.move x)) (hx:ev σ x=v) (k:OKS N P l Q D ks s (upd σ d v) w):OKS N P l Q D ks (.fl i s) σ w:=by
 simp only [nE] at h;exact OKS.rm h.1 h.2.1 h.2.2.1 h.2.2.2.1 h.2.2.2.2 hx k
theorem oA (h:(l[i]?,o.dst,nM d N,wanted l σ o,o.op)=(some o,some d,true,true,.assign x)) (hx:ev σ x=v) (k:OKS N P l Q D ks s (upd σ d v) w):OKS N P l Q D ks (.fl i s) σ w:=by
 simp only [nE] at h;exact OKS.ra h.1 h.2.1 h.2.2.1 h.2.2.2.1 h.2.2.2.2 hx k
theorem oF (h:(l[i]?,o.dst,nM d N,o.guard,(l[j]?).bind (·.dst),σ e,false == b)=(some o,some d,true,some (j,b),some e,.bool (decide p),false)) (c:Hid (¬ p)) (k:OKS N P l Q D ks s (upd σ d undef) w):OKS N P l Q D ks (.fl i s) σ w:=by
 simp only [nE] at h;exact OKS.p h.1 h.2.1 h.2.2.1 (wEV h.2.2.2.1 h.2.2.2.2.1 (h.2.2.2.2.2.1.trans (wNm c.out)) h.2.2.2.2.2.2) k
theorem oT (h:(l[i]?,o.dst,nM d N,o.guard,(l[j]?).bind (·.dst),σ e,true == b)=(some o,some d,true,some (j,b),some e,.bool (decide p),false)) (c:Hid p) (k:OKS N P l Q D ks s (upd σ d undef) w):OKS N P l Q D ks (.fl i s) σ w:=by
 simp only [nE] at h;exact OKS.p h.1 h.2.1 h.2.2.1 (wEV h.2.2.2.1 h.2.2.2.2.1 (h.2.2.2.2.2.1.trans (wDq c.out)) h.2.2.2.2.2.2) k
theorem oN {b2:Bool} (h:(l[i]?,o.dst,nM d N,o.guard,(l[j]?).bind (·.dst),σ e,b2 == b)=(some o,some d,true,some (j,b),some e,.bool b2,false)) (k:OKS N P l Q D ks s (upd σ d undef) w):OKS N P l Q D ks (.fl i s) σ w:=by
 simp only [nE] at h;exact OKS.p h.1 h.2.1 h.2.2.1 (wEV h.2.2.2.1 h.2.2.2.2.1 h.2.2.2.2.2.1 h.2.2.2.2.2.2) k
theorem nC {a b:Bool} (h:a=b):nB (!a)=nB (!b):=h ▸ rfl
theorem nF {a:Bool} (h:¬ a=true):nB (!a)=nB (!false):=nC (nD.2 h)
theorem wT (h:(o.guard,(l[j]?).bind (·.dst),σ e)=(some (j,true),some e,.bool (decide p))) (c:Hid p):wanted l σ o=true:=by
 simp only [nE] at h;exact wFh h.1 h.2.1 (h.2.2.trans (wDq c.out))
theorem wF (h:(o.guard,(l[j]?).bind (·.dst),σ e)=(some (j,false),some e,.bool (decide p))) (c:Hid (¬ p)):wanted l σ o=true:=by
 simp only [nE] at h;exact wFh h.1 h.2.1 (h.2.2.trans (wNm c.out))
theorem rU (h:(l[i]?,o.dst,nM d N)=(some o,some d,true)) (hw:wanted l σ o=true) (hr:∀ {w'},Runs P σ w' o v w') (k:OKS N P l Q D ks s (upd σ d v) w):OKS N P l Q D ks (.fl i s) σ w:=by
 simp only [nE] at h;exact OKS.r h.1 h.2.1 h.2.2 hw (fun _=>hr) k
theorem sR {id:Nat} (s:Sch) (hs:inOrder 0 s l.length=true) (h:OKS N P l (wDK (fun D σ w=>CK r N P c2 Q D σ w) Q) D [] s σ w):CK r N P (.seq (.region id l.toArray false) c2) Q D σ w:=CK.seq (CK.reg s hs h)
theorem rR {id:Nat} (s:Sch) (hs:inOrder 0 s l.length=true) (h:OKS N P l Q D [] s σ w):CK r N P (.region id l.toArray false) Q D σ w:=CK.reg s hs h
theorem eN (h:K D σ w):OKS N P l (wDK K Q) D ks .nil σ w:=OKS.e (wFb h)
theorem cT (hz:ev σ x=.bool (decide p)) (c:Hid p) (h:CK r N P c1 Q D σ w):CK r N P (.cond x c1 c2) Q D σ w:=CK.condT (hz.trans (wDq c.out)) h
theorem cF (hz:ev σ x=.bool (decide p)) (c:Hid (¬ p)) (h:CK r N P c2 Q D σ w):CK r N P (.cond x c1 c2) Q D σ w:=CK.condF (hz.trans (wNm c.out)) h
theorem kN (h:K D σ w):CK r N P .skip (wDK K Q) D σ w:=CK.skip (wFb h)
end
def fL1:Sch:=.fl 0 (.nil)
def fL2:Sch:=.fl 0 (.fl 1 (.nil))
def fL3:Sch:=.fl 0 (.fl 1 (.fl 2 (.nil)))
def fL4:Sch:=.fl 0 (.fl 1 (.fl 2 (.fl 3 (.nil))))
def fL5:Sch:=.fl 0 (.fl 1 (.fl 2 (.fl 3 (.fl 4 (.nil)))))
def fL6:Sch:=.fl 0 (.fl 1 (.fl 2 (.fl 3 (.fl 4 (.fl 5 (.nil))))))
def fL7:Sch:=.fl 0 (.fl 1 (.fl 2 (.fl 3 (.fl 4 (.fl 5 (.fl 6 (.nil)))))))
def fL8:Sch:=.fl 0 (.fl 1 (.fl 2 (.fl 3 (.fl 4 (.fl 5 (.fl 6 (.fl 7 (.nil))))))))
def fL9:Sch:=.fl 0 (.fl 1 (.fl 2 (.fl 3 (.fl 4 (.fl 5 (.fl 6 (.fl 7 (.fl 8 (.nil)))))))))
def fL10:Sch:=.fl 0 (.fl 1 (.fl 2 (.fl 3 (.fl 4 (.fl 5 (.fl 6 (.fl 7 (.fl 8 (.fl 9 (.nil))))))))))
def fL11:Sch:=.fl 0 (.fl 1 (.fl 2 (.fl 3 (.fl 4 (.fl 5 (.fl 6 (.fl 7 (.fl 8 (.fl 9 (.fl 10 (.nil)))))))))))
def fL14:Sch:=.fl 0 (.fl 1 (.fl 2 (.fl 3 (.fl 4 (.fl 5 (.fl 6 (.fl 7 (.fl 8 (.fl 9 (.fl 10 (.fl 11 (.fl 12 (.fl 13 (.nil))))))))))))))
def fL22:Sch:=.fl 0 (.fl 1 (.fl 2 (.fl 3 (.fl 4 (.fl 5 (.fl 6 (.fl 7 (.fl 8 (.fl 9 (.fl 10 (.fl 11 (.fl 12 (.fl 13 (.fl 14 (.fl 15 (.fl 16 (.fl 17 (.fl 18 (.fl 19 (.fl 20 (.fl 21 (.nil))))))))))))))))))))))
def fL29:Sch:=.fl 0 (.fl 1 (.fl 2 (.fl 3 (.fl 4 (.fl 5 (.fl 6 (.fl 7 (.fl 8 (.fl 9 (.fl 10 (.fl 11 (.fl 12 (.fl 13 (.fl 14 (.fl 15 (.fl 16 (.fl 17 (.fl 18 (.fl 19 (.fl 20 (.fl 21 (.fl 22 (.fl 23 (.fl 24 (.fl 25 (.fl 26 (.fl 27 (.fl 28 (.nil)))))))))))))))))))))))))))))
def fL30:Sch:=.fl 0 (.fl 1 (.fl 2 (.fl 3 (.fl 4 (.fl 5 (.fl 6 (.fl 7 (.fl 8 (.fl 9 (.fl 10 (.fl 11 (.fl 12 (.fl 13 (.fl 14 (.fl 15 (.fl 16 (.fl 17 (.fl 18 (.fl 19 (.fl 20 (.fl 21 (.fl 22 (.fl 23 (.fl 24 (.fl 25 (.fl 26 (.fl 27 (.fl 28 (.fl 29 (.nil))))))))))))))))))))))))))))))
def fL37:Sch:=.fl 0 (.fl 1 (.fl 2 (.fl 3 (.fl 4 (.fl 5 (.fl 6 (.fl 7 (.fl 8 (.fl 9 (.fl 10 (.fl 11 (.fl 12 (.fl 13 (.fl 14 (.fl 15 (.fl 16 (.fl 17 (.fl 18 (.fl 19 (.fl 20 (.fl 21 (.fl 22 (.fl 23 (.fl 24 (.fl 25 (.fl 26 (.fl 27 (.fl 28 (.fl 29 (.fl 30 (.fl 31 (.fl 32 (.fl 33 (.fl 34 (.fl 35 (.fl 36 (.nil)))))))))))))))))))))))))))))))))))))
def wFK (s:Sch):Sch:=.fl 0 (.fl 1 (.fl 2 (s)))
def wOs (s:Sch):Sch:=.fl 0 (.fl 1 (.fl 2 (.fl 3 (s))))
def wNd (s:Sch):Sch:=.fl 0 (.fl 1 (.fl 2 (.fl 3 (.fl 4 (s)))))
def wNe (s:Sch):Sch:=.fl 0 (.fl 1 (.fl 2 (.fl 3 (.fl 4 (.fl 5 (s))))))
def fC0_6 (s:Sch):Sch:=.fl 0 (.fl 1 (.fl 2 (.fl 3 (.fl 4 (.fl 5 (.fl 6 (s)))))))
def wOt (s:Sch):Sch:=.fl 0 (.fl 1 (.fl 2 (.fl 3 (.fl 4 (.fl 5 (.fl 6 (.fl 7 (s))))))))
def wOu (s:Sch):Sch:=.fl 0 (.fl 1 (.fl 2 (.fl 3 (.fl 4 (.fl 5 (.fl 6 (.fl 7 (.fl 8 (s)))))))))
def wOv (s:Sch):Sch:=.fl 0 (.fl 1 (.fl 2 (.fl 3 (.fl 4 (.fl 5 (.fl 6 (.fl 7 (.fl 8 (.fl 9 (.fl 10 (.fl 11 (.fl 12 (s)))))))))))))
def wOw (s:Sch):Sch:=.fl 0 (.fl 1 (.fl 2 (.fl 3 (.fl 4 (.fl 5 (.fl 6 (.fl 7 (.fl 8 (.fl 9 (.fl 10 (.fl 11 (.fl 12 (.fl 13 (.fl 14 (s)))))))))))))))
def wOx (s:Sch):Sch:=.fl 3 (.fl 4 (.fl 5 (s)))
def wLN (s:Sch):Sch:=.fl 3 (.fl 4 (.fl 5 (.fl 6 (.fl 7 (s)))))
def wOy (s:Sch):Sch:=.fl 4 (.fl 5 (.fl 6 (.fl 7 (.fl 8 (s)))))
def fC5_7 (s:Sch):Sch:=.fl 5 (.fl 6 (.fl 7 (s)))
def wOz (s:Sch):Sch:=.fl 5 (.fl 6 (.fl 7 (.fl 8 (.fl 9 (.fl 10 (.fl 11 (.fl 12 (s))))))))
def wPA (s:Sch):Sch:=.fl 7 (.fl 8 (.fl 9 (.fl 10 (s))))
def wPB (s:Sch):Sch:=.fl 7 (.fl 8 (.fl 9 (.fl 10 (.fl 11 (s)))))
theorem zA:type_of% @Tryz.runUnderlying95:=@Tryz.runUnderlying95
theorem zB:type_of% @wJC:=@wJC
theorem zC:type_of% @Tryz.sizeOf105:=@Tryz.sizeOf105
theorem zD:type_of% @Tryz.sizeOf3:=@Tryz.sizeOf3
theorem zE:type_of% @Runs.pickT:=@Runs.pickT
theorem zF:type_of% @Hid.mk:=@Hid.mk
theorem zG:type_of% @wJB:=@wJB
theorem zH:type_of% @CK.seq:=@CK.seq
theorem zI:type_of% @Tryz.runUnderlying105:=@Tryz.runUnderlying105
theorem zJ:type_of% @wFh:=@wFh
theorem zK:type_of% @wFb:=@wFb
theorem zL:type_of% @CK.ret:=@CK.ret
theorem zM:type_of% @OKS.callH:=@OKS.callH
theorem zN:type_of% @Enters.mk:=@Enters.mk
theorem zO:type_of% @Tryz.runUnderlying22:=@Tryz.runUnderlying22
theorem zP:type_of% @PHeap.Le.refl:=@PHeap.Le.refl
theorem zQ:type_of% @Runs.pickF:=@Runs.pickF
theorem zR:type_of% @wLz:=@wLz
theorem zS:type_of% @Tryz.isAgg3:=@Tryz.isAgg3
theorem zU:type_of% @OKS.rm:=@OKS.rm
theorem zV:type_of% @nN:=@nN
theorem zW:type_of% @wHm:=@wHm
theorem zX:type_of% @wNm:=@wNm
theorem zY:type_of% @Runs.lss:=@Runs.lss
theorem zZ:type_of% @Runs.addw:=@Runs.addw
theorem zd:type_of% @CK.block:=@CK.block
theorem ze:type_of% @res1:=@res1
theorem zf:type_of% @Tryz.runUnderlying184:=@Tryz.runUnderlying184
theorem zg:type_of% @Tryz.isAgg105:=@Tryz.isAgg105
theorem zh:type_of% @Runs.fa:=@Runs.fa
theorem zi:type_of% @CK.condT:=@CK.condT
theorem zj:type_of% @Tryz.underlying22:=@Tryz.underlying22
theorem zk:type_of% @Runs.len:=@Runs.len
theorem zl:type_of% @wJA:=@wJA
theorem zm:type_of% @wEV:=@wEV
theorem zn:type_of% @wHl:=@wHl
theorem zo:type_of% @OKS.e:=@OKS.e
theorem zp:type_of% @OKS.r:=@OKS.r
theorem zq:type_of% @CK.condF:=@CK.condF
theorem zr:type_of% @Tryz.zeroValue105:=@Tryz.zeroValue105
theorem zt:type_of% @OKS.p:=@OKS.p
theorem zu:type_of% @OKS.buildSlice:=@OKS.buildSlice
theorem zw:type_of% @OKS.append:=@OKS.append
theorem zx:type_of% @Tryz.zeroValue3:=@Tryz.zeroValue3
theorem zy:type_of% @Runs.to:=@Runs.to
theorem zz:type_of% @Runs.neq:=@Runs.neq
theorem ZA:type_of% @wFc:=@wFc
theorem ZB:type_of% @Runs.iaN:=@Runs.iaN
theorem ZC:type_of% @Runs.ext:=@Runs.ext
theorem ZD:type_of% @CK.exit:=@CK.exit
theorem ZE:type_of% @Runs.nilp:=@Runs.nilp
theorem ZF:type_of% @Tryz.runUnderlying182:=@Tryz.runUnderlying182
theorem ZG:type_of% @OKS.alloc:=@OKS.alloc
end Go.Proofs.YthbficbpebiekaaGreat
namespace Go.Proofs.YthbficbpebiekaaGreat
open Go.KL
set_option maxHeartbeats 4000000
theorem wCd (p0:List Int) (pA0:Option Addr) (pc0:Nat) (w:World) (U:PHeap) (hS:St0 w U []) (ha0:Sl U 1 pA0 pc0 p0.length (hH KL.encB8 p0)) {r:wAC} (hm:wAl p0=some r):Gv Tryz.prog 29 [.slice pA0 p0.length pc0] w (wCo w [] U (fun U_ L_ v=>∃ (b0:Nat) (A0p0:Option Addr) (c0p0:Nat),v=.pointer (some ⟨b0,0,none⟩)/\L_=[.blk b0 184 [.slice A0p0 r.bytes.length c0p0,jV r.next,.int .u32 r.state]]/\Sl U_ 1 A0p0 c0p0 r.bytes.length (hH KL.encB8 r.bytes))):=by
 unfold wAl at hm
 refine Gv.of Tryz.func29 Z Tryz.ntmps29 Tryz.results29 Z (sR fL1 Z (oA Z Z (eN (sR (.fl 0 (.fl 1 (.fx 2 (.fl 3 (.nil)) .stop))) Z (oM Z Z ?_)))))
 let B0:List Value:=[.slice pA0 p0.length pc0,jV 0,.int .u32 17]
 refine zp rfl rfl rfl rfl (fun _=>Runs.build (pv:=[(0,.slice pA0 p0.length pc0),(2,.int .u32 17)]) (z:=[.slice none 0 0,jV 0,.int .u32 0]) (cs:=B0) rfl (wAn rfl (wAn rfl wBM)) Tryz.zeroValue184 wKg rfl rfl) (OKS.box (cs:=B0) rfl rfl rfl rfl rfl rfl (by rfl) hS ?_)
 intro W1 b2 hS3
 refine oA Z Z (eN (zL ?_))
 cases hm
 exact ⟨Z,_,(ze Z),U,_,hS3,b2,pA0,pc0,Z,Z,ha0⟩
theorem wAP (p0:wAC) (pb0:Nat) (pA0_0:Option Addr) (pc0_0:Nat) (p1:Int) (w:World) (U:PHeap) (hS:St0 w U [.blk pb0 184 [.slice pA0_0 p0.bytes.length pc0_0,jV p0.next,.int .u32 p0.state]]) (ha0:Sl U 1 pA0_0 pc0_0 p0.bytes.length (hH KL.encB8 p0.bytes)) {r:Int × wAC} (hm:wAF p0 p1=some r):Gv Tryz.prog 55 [.pointer (some ⟨pb0,0,none⟩),jV p1] w (wCo w [.blk pb0 184 [.slice pA0_0 p0.bytes.length pc0_0,jV p0.next,.int .u32 p0.state]] U (fun U_ L_ v=>∃ (Ao00:Option Addr) (co00:Nat),v=jV r.1/\L_=[.blk pb0 184 [.slice Ao00 r.2.bytes.length co00,jV r.2.next,.int .u32 r.2.state]]/\Sl U_ 1 Ao00 co00 r.2.bytes.length (hH KL.encB8 r.2.bytes))):=by
 unfold wAF at hm
 refine Gv.of Tryz.func55 Z Tryz.ntmps55 Tryz.results55 Z (sR fL1 Z (oA Z Z (eN (zH (sR fL10 Z (oM Z Z (oR Z (Runs.leq Z Z Z) (oM Z Z ?_))))))))
 by_cases c2:p1 <= 1
 ·have hm3:=hm;rw [if_pos c2] at hm3;replace c2:=zF c2
  refine oT Z c2 (oT Z c2 (oT Z c2 (oT Z c2 (oT Z c2 (oT Z c2 (oR Z (zE Z (wDq c2.out) Z) (eN (zi Z (sR fL1 Z (oA Z Z (eN (zL (zG ?_)))))))))))))
  cases hm3
  exact ⟨Z,_,(ze Z),U,_,hS,pA0_0,pc0_0,Z,Z,ha0⟩
 ·have hm4:=hm;rw [if_neg c2] at hm4;replace c2:=zF c2
  refine zU Z Z Z (wF Z c2) Z Z (rU Z (wF Z c2) (ZE Z Z) (rU Z (wF Z c2) (zh Z Z zf Z Tryz.sizeOf60) (OKS.m Z Z Z (wF Z c2) (hS.ldB (j:=0) Z Z Z Tryz.isAgg60 (v:=.slice pA0_0 p0.bytes.length pc0_0) Z) Z (rU Z (wF Z c2) (zk Z Z Tryz.runUnderlying60) (rU Z (wF Z c2) (Runs.eql Z Z Z) (oR Z (zQ Z (zX c2.out) Z) (eN (ifc hm4 ?_ ?_))))))))
  ·intro c5 hm6
   refine cT Z c5 (sR fL1 Z (oA Z Z (eN (zL (zG ?_)))))
   cases hm6
   exact ⟨Z,_,(ze Z),U,_,hS,pA0_0,pc0_0,Z,Z,ha0⟩
  ·intro c5 hm7
   refine cF Z c5 (kN (zH (CK.anyOrd Tryz.mixed [3,3,3,1,3,3,3,1,3,3,3,1,3,3,3,1,3,3,3,3,1,3,3,3,1,3,3,3,3,3] fL30 (by kernel_rfl) ?_)))
   have hS8:=hS.drew
   generalize hw_W9:({ w with drawn:=w.drawn + 1 }:World)=W9 at hS8 ⊢
   refine oM Z Z (oR Z (ZE Z Z) (oR Z (zh Z Z zf Z Tryz.sizeOf60) (oL Z (hS8.ldB (j:=0) Z Z Z Tryz.isAgg60 (v:=.slice pA0_0 p0.bytes.length pc0_0) Z) (oM Z Z (oR Z (ZE Z Z) (oR Z (zh Z Z zf Z zD) (oL Z (hS8.ldB (j:=0) Z Z Z zS (v:=jV p0.next) Z) (oM Z Z (oR Z (ZE Z Z) (oR Z (zh Z Z zf Z Tryz.sizeOf60) (oL Z (hS8.ldB (j:=0) Z Z Z Tryz.isAgg60 (v:=.slice pA0_0 p0.bytes.length pc0_0) Z) (oR Z (zk Z Z Tryz.runUnderlying60) (bnK hm7 fun x10 h11 hm12=>oR Z (Runs.rem Z Z Z h11) (bnK hm12 fun x13 h14 hm15=>?_))))))))))))))
   have q:=ha0.el (fun _=>rfl) (wAw h14)
   obtain ⟨b16,off17,hA18,hC19⟩:=q
   refine oR Z (Runs.iaI Z Z hA18 Z Tryz.runUnderlying60 Tryz.sizeOf5 (wET h14) (wFO h14)) (oL Z (hS8.ldC (f:=0) hC19 (v:=.int .u8 x13) Z Z Tryz.isAgg5 Z) (oR Z (Runs.cvu Z Z Tryz.runUnderlying5 ZF Z Z) (oM Z Z (oR Z (ZE Z Z) (oR Z (zh Z Z zf Z zD) (oL Z (hS8.ldB (j:=0) Z Z Z zS (v:=jV p0.next) Z) (oM Z Z (oR Z (ZE Z Z) (oR Z (zh Z Z zf Z Tryz.sizeOf60) (oL Z (hS8.ldB (j:=0) Z Z Z Tryz.isAgg60 (v:=.slice pA0_0 p0.bytes.length pc0_0) Z) (oR Z (zk Z Z Tryz.runUnderlying60) (bnK hm15 fun x20 h21 hm22=>oR Z (Runs.quo Z Z Z h21) (oR Z (Runs.cvu Z Z Tryz.runUnderlying3 ZF Z Z) (oA Z Z (oA Z Z (eN (zH (CK.fresh fun σ23 hσ24=>?_))))))))))))))))))
   have f25:σ23 0=.pointer (some ⟨pb0,0,none⟩):=(hσ24 0).trans rfl
   have f26:σ23 1=jV p1:=(hσ24 1).trans rfl
   have f27:σ23 5=.int .u32 (wCT x13):=(hσ24 5).trans rfl
   have f28:σ23 6=.int .u32 (wCT x20):=(hσ24 6).trans rfl
   clear hσ24
   refine rR (fC0_6 (.fx 7 (.nil) .stop)) Z (oM Z f25 (oR Z (ZE Z Z) (oR Z (zh Z Z zf Z zD) (oL Z (hS8.ldB (j:=0) Z Z Z zS (v:=jV p0.next) Z) (oR Z (zZ Z Z Z) (oR Z (ZE Z Z) (oR Z (zh Z Z zf Z zD) (OKS.st (j:=0) (vs:=[jV (w64 (p0.next + 1))]) Z Z Z Z hS8 Z Z Z Z zD (zV Z) Z Z Z ?_))))))))
   intro W29 hS30
   let B0:Res:=.blk pb0 184 [.slice pA0_0 p0.bytes.length pc0_0,jV p0.next,.int .u32 p0.state]
   have hS31:SW w [B0] U U [.blk pb0 184 [.slice pA0_0 p0.bytes.length pc0_0,jV (w64 (p0.next + 1)),.int .u32 p0.state]] W29:=hS30
   refine eN (sR (wOw (.fx 15 (.nil) .stop)) Z (oM Z f25 (oM Z f25 (oR Z (ZE Z Z) (oR Z (zh Z Z zf Z Tryz.sizeOf182) (oL Z (hS31.ldB (j:=0) Z Z Z Tryz.isAgg182 (v:=.int .u32 p0.state) Z) (oR Z (Runs.mulu Z Z Z) (oM Z f27 (oR Z (Runs.addu Z Z Z) (oM Z f28 (oR Z (Runs.mulu Z Z Z) (oR Z (Runs.addu Z Z Z) (oR Z (Runs.addu Z Z Z) (bnK hm22 fun x32 h33 hm34=>oR Z (Runs.rem Z Z Z h33) (oR Z (ZE Z Z) (oR Z (zh Z Z zf Z Tryz.sizeOf182) (OKS.st (j:=0) (vs:=[.int .u32 x32]) Z Z Z Z hS31 Z Z Z Z Tryz.sizeOf182 (zV Z) Z Z Z ?_)))))))))))))))))
   intro W35 hS36
   have hS37:SW w [B0] U U [.blk pb0 184 [.slice pA0_0 p0.bytes.length pc0_0,jV (w64 (p0.next + 1)),.int .u32 x32]] W35:=hS36
   refine eN (zH (sR fL6 Z (oM Z f28 (oR Z (Runs.eql Z Z Z) (oM Z Z (ifc hm34 ?_ ?_))))))
   ·intro c38 hm39
    refine zU Z Z Z (wT Z c38) Z f26 (rU Z (wT Z c38) (Runs.leq Z Z Z) (oR Z (zE Z (wDq c38.out) Z) (eN (ifc hm39 ?_ ?_))))
    ·intro c40 hm41
     refine cT Z c40 (sR fL5 Z (oM Z f27 (oR Z (Runs.cvw Z Z ZF Tryz.runUnderlying3 Z Z) (oM Z f26 (bnK hm41 fun x42 h43 hm44=>oR Z (Runs.rem Z Z Z h43) (oA Z Z (eN (zL (zG ?_)))))))))
     cases hm44
     exact ⟨Z,_,(ze Z),U,_,hS37,pA0_0,pc0_0,Z,Z,ha0⟩
    ·intro c40 hm45
     refine cF Z c40 (kN (sR fL11 Z (oM Z f25 (oR Z (ZE Z Z) (oR Z (zh Z Z zf Z Tryz.sizeOf182) (oL Z (hS37.ldB (j:=0) Z Z Z Tryz.isAgg182 (v:=.int .u32 x32) Z) (oR Z (Runs.mulu Z Z Z) (oM Z f27 (oR Z (Runs.addu Z Z Z) (oR Z (Runs.cvw Z Z ZF Tryz.runUnderlying3 Z Z) (oM Z f26 (bnK hm45 fun x46 h47 hm48=>oR Z (Runs.rem Z Z Z h47) (oA Z Z (eN (zL ?_)))))))))))))))
     cases hm48
     exact ⟨Z,_,(ze Z),U,_,hS37,pA0_0,pc0_0,Z,Z,ha0⟩
   ·intro c38 hm49
    refine oF Z c38 (oF Z c38 (oR Z (zQ Z (zX c38.out) Z) (eN (zq Z (kN (sR fL11 Z (oM Z f25 (oR Z (ZE Z Z) (oR Z (zh Z Z zf Z Tryz.sizeOf182) (oL Z (hS37.ldB (j:=0) Z Z Z Tryz.isAgg182 (v:=.int .u32 x32) Z) (oR Z (Runs.mulu Z Z Z) (oM Z f27 (oR Z (Runs.addu Z Z Z) (oR Z (Runs.cvw Z Z ZF Tryz.runUnderlying3 Z Z) (oM Z f26 (bnK hm49 fun x50 h51 hm52=>oR Z (Runs.rem Z Z Z h51) (oA Z Z (eN (zL ?_)))))))))))))))))))
    cases hm52
    exact ⟨Z,_,(ze Z),U,_,hS37,pA0_0,pc0_0,Z,Z,ha0⟩
theorem wBI (p0:wAC) (pb0:Nat) (pA0_0:Option Addr) (pc0_0:Nat) (p1:Int) (p2:Int) (w:World) (U:PHeap) (hS:St0 w U [.blk pb0 184 [.slice pA0_0 p0.bytes.length pc0_0,jV p0.next,.int .u32 p0.state]]) (ha0:Sl U 1 pA0_0 pc0_0 p0.bytes.length (hH KL.encB8 p0.bytes)) {r:Int × wAC} (hm:wAI p0 p1 p2=some r):Gv Tryz.prog 53 [.pointer (some ⟨pb0,0,none⟩),jV p1,jV p2] w (wCo w [.blk pb0 184 [.slice pA0_0 p0.bytes.length pc0_0,jV p0.next,.int .u32 p0.state]] U (fun U_ L_ v=>∃ (Ao00:Option Addr) (co00:Nat),v=jV r.1/\L_=[.blk pb0 184 [.slice Ao00 r.2.bytes.length co00,jV r.2.next,.int .u32 r.2.state]]/\Sl U_ 1 Ao00 co00 r.2.bytes.length (hH KL.encB8 r.2.bytes))):=by
 unfold wAI at hm
 refine Gv.of Tryz.func53 Z Tryz.ntmps53 Tryz.results53 Z (sR fL1 Z (oA Z Z (eN (sR (wNe (.fx 6 (.fl 7 (.fl 8 (.nil))) .stop)) Z (oM Z Z (oM Z Z (oM Z Z (oM Z Z (oR Z (Runs.subw Z Z Z) (oR Z (zZ Z Z Z) ?_))))))))))
 have q:=bnd hm
 obtain ⟨⟨x2,x3⟩,h4,hm5⟩:=q
 try dsimp only at hm5
 refine zM 1 Z Z Z Z (zN Z Z Tryz.call55 (zB Z (zB Z zR)) Z) hS (fun hs=>wAP p0 pb0 pA0_0 pc0_0 (w64 ((w64 (p2 - p1)) + 1)) w U hs ha0 h4) (.inl Z) ?_
 rintro U6 L7 v8 W9 le10 hS11 ⟨A12,c13,rfl,rfl,h14⟩
 have hS15:SW w [.blk pb0 184 [.slice pA0_0 p0.bytes.length pc0_0,jV p0.next,.int .u32 p0.state]] U U6 [.blk pb0 184 [.slice A12 x3.bytes.length c13,jV x3.next,.int .u32 x3.state]] W9:=hS11
 refine oR Z (zZ Z Z Z) (oA Z Z (eN (zL ?_)))
 cases hm5
 exact ⟨Z,_,(ze Z),U6,_,hS15,A12,c13,Z,Z,h14⟩
theorem wBW (p0:wAC) (pb0:Nat) (pA0_0:Option Addr) (pc0_0:Nat) (p1:Int) (w:World) (U:PHeap) (hS:St0 w U [.blk pb0 184 [.slice pA0_0 p0.bytes.length pc0_0,jV p0.next,.int .u32 p0.state]]) (ha0:Sl U 1 pA0_0 pc0_0 p0.bytes.length (hH KL.encB8 p0.bytes)) {r:Bool × wAC} (hm:wAM p0 p1=some r):Gv Tryz.prog 54 [.pointer (some ⟨pb0,0,none⟩),jV p1] w (wCo w [.blk pb0 184 [.slice pA0_0 p0.bytes.length pc0_0,jV p0.next,.int .u32 p0.state]] U (fun U_ L_ v=>∃ (Ao00:Option Addr) (co00:Nat),v=.bool r.1/\L_=[.blk pb0 184 [.slice Ao00 r.2.bytes.length co00,jV r.2.next,.int .u32 r.2.state]]/\Sl U_ 1 Ao00 co00 r.2.bytes.length (hH KL.encB8 r.2.bytes))):=by
 unfold wAM at hm
 refine Gv.of Tryz.func54 Z Tryz.ntmps54 Tryz.results54 Z (sR fL1 Z (oA Z Z (eN (sR (.fl 0 (.fl 1 (.fx 2 (.fl 3 (.fl 4 (.nil))) .stop))) Z (oM Z Z (oM Z Z ?_))))))
 have q:=bnd hm
 obtain ⟨⟨x2,x3⟩,h4,hm5⟩:=q
 try dsimp only at hm5
 refine zM 1 Z Z Z Z (zN Z Z Tryz.call55 (zB Z (zB Z zR)) Z) hS (fun hs=>wAP p0 pb0 pA0_0 pc0_0 p1 w U hs ha0 h4) (.inl Z) ?_
 rintro U6 L7 v8 W9 le10 hS11 ⟨A12,c13,rfl,rfl,h14⟩
 have hS15:SW w [.blk pb0 184 [.slice pA0_0 p0.bytes.length pc0_0,jV p0.next,.int .u32 p0.state]] U U6 [.blk pb0 184 [.slice A12 x3.bytes.length c13,jV x3.next,.int .u32 x3.state]] W9:=hS11
 refine oR Z (Runs.eql Z Z Z) (oA Z Z (eN (zL ?_)))
 cases hm5
 exact ⟨Z,_,(ze Z),U6,_,hS15,A12,c13,Z,Z,h14⟩
theorem wCe (p0:wAC) (pb0:Nat) (pA0_0:Option Addr) (pc0_0:Nat) (p1:Int) (w:World) (U:PHeap) (hS:St0 w U [.blk pb0 184 [.slice pA0_0 p0.bytes.length pc0_0,jV p0.next,.int .u32 p0.state]]) (ha0:Sl U 1 pA0_0 pc0_0 p0.bytes.length (hH KL.encB8 p0.bytes)) {r:(List wAA) × wAC} (hm:wAX p0 p1=some r):Gv Tryz.prog 46 [.pointer (some ⟨pb0,0,none⟩),jV p1] w (wCo w [.blk pb0 184 [.slice pA0_0 p0.bytes.length pc0_0,jV p0.next,.int .u32 p0.state]] U (fun U_ L_ v=>∃ (A0:Option Addr) (c0:Nat) (Ao00:Option Addr) (co00:Nat),v=.slice A0 r.1.length c0/\L_=[.row A0 c0 105 3 (hH wAB r.1),.blk pb0 184 [.slice Ao00 r.2.bytes.length co00,jV r.2.next,.int .u32 r.2.state]]/\Sl U_ 1 Ao00 co00 r.2.bytes.length (hH KL.encB8 r.2.bytes))):=by
 unfold wAX at hm
 refine Gv.of Tryz.func46 Z Tryz.ntmps46 Tryz.results46 Z (sR fL1 Z (oA Z Z (eN (sR fL1 Z (oA Z Z (eN (sR (.fl 0 (.fx 1 (.fl 2 (.nil)) .stop)) Z (oM Z Z ?_))))))))
 have q:=bnd hm
 obtain ⟨⟨x2,x3⟩,h4,hm5⟩:=q
 try dsimp only at hm5
 refine zM 1 Z Z Z Z (zN Z Z Tryz.call55 (zB Z (zB Z zR)) Z) hS (fun hs=>wAP p0 pb0 pA0_0 pc0_0 100 w U hs ha0 h4) (.inl Z) ?_
 rintro U6 L7 v8 W9 le10 hS11 ⟨A12,c13,rfl,rfl,h14⟩
 let B0:Res:=.blk pb0 184 [.slice pA0_0 p0.bytes.length pc0_0,jV p0.next,.int .u32 p0.state]
 have hS15:SW w [B0] U U6 [.blk pb0 184 [.slice A12 x3.bytes.length c13,jV x3.next,.int .u32 x3.state]] W9:=hS11
 refine oA Z Z (eN (zH (sR (wFK (.fx 3 (.fl 4 (.nil)) .stop)) Z (oM Z Z (oM Z Z (oR Z (zZ Z Z Z) ?_))))))
 have q:=bnd hm5
 obtain ⟨⟨x16,x17⟩,h18,hm19⟩:=q
 try dsimp only at hm19
 refine zM 1 Z Z Z Z (zN Z Z Tryz.call55 (zB Z (zB Z zR)) Z) hS15 (fun hs=>wAP x3 pb0 A12 c13 (w64 (p1 + 1)) W9 U6 hs h14 h18) (.inl Z) ?_
 rintro U20 L21 v22 W23 le24 hS25 ⟨A26,c27,rfl,rfl,h28⟩
 have hS29:SW w [B0] U U20 [.blk pb0 184 [.slice A26 x17.bytes.length c27,jV x17.next,.int .u32 x17.state]] W23:=hS25
 refine oM Z Z (eN (zd ?_))
 have q:=bnd hm19
 obtain ⟨⟨y76,y77,y78,y79,y80⟩,hf73,hm72⟩:=q
 try dsimp only at hm72
 have q:=wCg hf73
 obtain ⟨hle74,hf75⟩:=q
 replace hle74:=zF hle74
 refine CK.forN' (fun k71 (l61,x64,x65,l66,x70) σ_ w_=>∃ (U_:PHeap) (A62:Option Addr) (c63:Nat) (A67:Option Addr) (c68:Nat),σ_ 14=jV (↑k71:Int)/\σ_ 0=.pointer (some ⟨pb0,0,none⟩)/\σ_ 5=.slice A67 l66.length c68/\σ_ 6=jV x70/\σ_ 13=jV x16/\PHeap.Le U20 U_/\SW w [B0] U U_ [.blk pb0 184 [.slice A62 l61.length c63,jV x64,.int .u32 x65],.row A67 c68 105 3 (hH wAB l66)] w_/\Sl U_ 1 A62 c63 l61.length (hH KL.encB8 l61)) hf75 ?_ ?_ ?_
 ·have hS81:=hS29.nilrow 105 3
  exact ⟨U20,A26,c27,none,0,rfl,rfl,rfl,rfl,rfl,(zP _),(hS81.pick [1,0] _ (by decide) rfl),h28⟩
 ·rintro k71 ⟨l61,x64,x65,l66,x70⟩ xx85 σ83 W84 hk88 ⟨U90,A62,c63,A67,c68,fi89,f93,f94,f95,f96,le91,hS92,h97⟩ hx86
  try dsimp only at hx86
  have c98:Hid ((↑k71:Int) < x16):=zF (wBm hk88)
  replace hk88:=zF hk88
  have hi99:Hid (w64 ((↑k71:Int) + 1)=(↑(k71 + 1):Int)):=zF (by have h1:=hle74.out;have h2:=c98.out;rw [wAa] <;> omega)
  refine sR fL1 Z (oR Z (zY Z fi89 f96) (eN (zH (cT Z c98 (kN (zH (zd (sR fL2 Z (oM Z fi89 (oA Z Z (eN (sR (wOs (.fx 4 (fC5_7 (.fx 8 (.fl 9 (.fx 10 (.fx 11 (.fl 12 (.nil)) .stop) .stop)) .stop)) .stop)) Z (oM Z f94 (oM Z Z (oR Z (Runs.mulw Z Z Z) (oM Z f93 ?_))))))))))))))))
  have q:=bnd hx86
  obtain ⟨⟨x100,x101⟩,h102,hm103⟩:=q
  try dsimp only at hm103
  refine zM 1 Z Z Z Z (zN Z Z Tryz.call53 (zB Z (zB Z (zB Z zR))) Z) hS92 (fun hs=>wBI (⟨l61,x64,x65⟩:wAC) pb0 A62 c63 1 5 W84 U90 hs h97 h102) (.inl Z) ?_
  rintro U104 L105 v106 W107 le108 hS109 ⟨A110,c111,rfl,rfl,h112⟩
  let B1:Res:=.row A67 c68 105 3 (hH wAB l66)
  have hS113:SW w [B0] U U104 [.blk pb0 184 [.slice A110 x101.bytes.length c111,jV x101.next,.int .u32 x101.state],B1] W107:=hS109
  refine oR Z (zZ Z Z Z) (oM Z f95 (oM Z f93 ?_))
  have q:=bnd hm103
  obtain ⟨⟨x114,x115⟩,h116,hm117⟩:=q
  try dsimp only at hm117
  refine zM 1 Z Z Z Z (zN Z Z Tryz.call55 (zB Z (zB Z zR)) Z) hS113 (fun hs=>wAP x101 pb0 A110 c111 5 W107 U104 hs h112 h116) (.inl Z) ?_
  rintro U118 L119 v120 W121 le122 hS123 ⟨A124,c125,rfl,rfl,h126⟩
  let B2:Res:=.blk pb0 184 [.slice A124 x115.bytes.length c125,jV x115.next,.int .u32 x115.state]
  have hS127:SW w [B0] U U118 [B2,B1] W121:=hS123
  let B3:List Value:=[jV (w64 ((w64 (5 * (↑k71:Int))) + x100)),jV x70,jV x114]
  let B4:List Value:=[jV 0,jV 0,jV 0]
  refine oR Z (Runs.build (pv:=[(0,jV (w64 ((w64 (5 * (↑k71:Int))) + x100))),(1,jV x70),(2,jV x114)]) (z:=B4) (cs:=B3) Z (wAn Z (wAn Z (wAn Z wBM))) zr wKf Z Z) (zu (pv:=[(0,.agg B3.toArray)]) (zs:=B4) (cs:=B3) Z Z Z Z Z (wAn Z wBM) zA zC zr Z Z Z Z Z hS127 ?_)
  intro W128 b129 hS130
  let B5:Res:=.row (some ⟨b129,0,none⟩) 1 105 3 (hH wAB [(⟨w64 ((w64 (5 * (↑k71:Int))) + x100),x70,x114⟩:wAA)])
  have hS132:SW w [B0] U U118 [B5,B2,B1] W128:=hS130
  refine bnK hm117 fun x133 h134 hm135=>zw (j:=2) (enc:=wAB) (xs:=l66) (ys:=[(⟨w64 ((w64 (5 * (↑k71:Int))) + x100),x70,x114⟩:wAA)]) (zs:=x133) rfl rfl rfl rfl rfl Tryz.underlying95 wFw rfl rfl rfl rfl rfl rfl hS132 rfl rfl rfl (hS132.srcR (j:=0) rfl (by decide) (wAG (f:=wAB) (sz:=3) (fun _=>rfl) [(⟨w64 ((w64 (5 * (↑k71:Int))) + x100),x70,x114⟩:wAA)])) (fun _=>rfl) (fun _=>rfl) h134 rfl ?_
  intro A136 c137 W138 hS139
  let B6:Res:=.row A136 c137 105 3 (hH wAB x133)
  have hS140:SW w [B0] U U118 [B5,B2,B6] W138:=hS139
  refine oA Z Z (eN (sR (.fl 0 (.fx 1 (.fl 2 (.nil)) .stop)) Z (oM Z f93 ?_)))
  have q:=bnd hm135
  obtain ⟨⟨x141,x142⟩,h143,hm144⟩:=q
  try dsimp only at hm144
  have hS145:SW w [B0] U U118 [B2,B5,B6] W138:=hS140.pick [1,0,2] _ (by decide) rfl
  refine zM 1 Z Z Z Z (zN Z Z Tryz.call54 (zB Z (zB Z zR)) Z) hS145 (fun hs=>wBW x115 pb0 A124 c125 4 W138 U118 hs h126 h143) (.inl Z) ?_
  rintro U146 L147 v148 W149 le150 hS151 ⟨A152,c153,rfl,rfl,h154⟩
  have hS155:SW w [B0] U U146 [.blk pb0 184 [.slice A152 x142.bytes.length c153,jV x142.next,.int .u32 x142.state],B5,B6] W149:=hS151
  refine oR Z (Runs.notT Z Z) (eN (ifc hm144 ?_ ?_))
  ·intro c156 hm157
   refine zq (nC c156.out) (CK.skip (zn (zK (rR fL2 Z (oR Z (zy (zZ Z fi89 Z) (congrArg (jV) hi99.out)) (oM Z Z (zo ?_)))))))
   cases hm157
   exact zK ⟨rfl,⟨U146,A152,c153,A136,c137,rfl,f93,rfl,f95,f96,(((le91.trans le108).trans le122).trans le150),(hS155.pick [0,2] _ (by decide) rfl),h154⟩⟩
  ·intro c156 hm167
   refine zi (nF (c156.out)) (rR (.fl 0 (.fl 1 (.fx 2 (.fl 3 (.fl 4 (.nil))) .stop))) Z (oM Z f95 (oM Z f93 ?_)))
   have q:=bnd hm167
   obtain ⟨⟨x168,x169⟩,h170,hm171⟩:=q
   try dsimp only at hm171
   refine zM 1 Z Z Z Z (zN Z Z Tryz.call55 (zB Z (zB Z zR)) Z) hS155 (fun hs=>wAP x142 pb0 A152 c153 40 W149 U146 hs h154 h170) (.inl Z) ?_
   rintro U172 L173 v174 W175 le176 hS177 ⟨A178,c179,rfl,rfl,h180⟩
   have hS181:SW w [B0] U U172 [.blk pb0 184 [.slice A178 x169.bytes.length c179,jV x169.next,.int .u32 x169.state],B5,B6] W175:=hS177
   refine oR Z (zZ Z Z Z) (oA Z Z (zo (zn (zK (rR fL2 Z (oR Z (zy (zZ Z fi89 Z) (congrArg (jV) hi99.out)) (oM Z Z (zo ?_))))))))
   cases hm171
   exact zK ⟨rfl,⟨U172,A178,c179,A136,c137,rfl,f93,rfl,rfl,f96,((((le91.trans le108).trans le122).trans le150).trans le176),(hS181.pick [0,2] _ (by decide) rfl),h180⟩⟩
 ·rintro σ191 W192 ⟨U208,A204,c205,A206,c207,fi194,f211,f212,f213,f214,le209,hS210,h215⟩
  have c216:Hid (¬ ((↑((x16:Int) - 0).toNat:Int) < x16)):=zF (wBL)
  refine sR fL1 Z (oR Z (zY Z fi194 f214) (eN (zH (cF Z c216 (ZD (zl (zl (ZA (zK (sR fL2 Z (oM Z f212 (oA Z Z (eN (zL ?_))))))))))))))
  cases hm72
  exact ⟨rfl,_,(ze rfl),U208,_,(hS210.pick [1,0] _ (by decide) rfl),A206,c207,A204,c205,rfl,rfl,h215⟩
theorem wDm (p0:Int) (p1:Int) (w:World) (U:PHeap) (hS:St0 w U [])  {r:Int} (hm:wAj p0 p1=some r):Gv Tryz.prog 38 [jV p0,jV p1] w (wCo w [] U (fun U_ L_ v=>v=jV r/\L_=[])):=by
 unfold wAj at hm
 refine Gv.of Tryz.func38 Z Tryz.ntmps38 Tryz.results38 Z (sR fL1 Z (oA Z Z (eN (zH (sR fL2 Z (oM Z Z (oR Z (Runs.leq Z Z Z) (eN ?_))))))))
 by_cases c1:p1 <= 0
 ·have hm2:=hm;rw [if_pos c1] at hm2;replace c1:=zF c1
  refine cT Z c1 (sR fL1 Z (oA Z Z (eN (zL (zG ?_)))))
  cases hm2
  exact ⟨Z,_,(ze Z),U,_,hS,Z,Z⟩
 ·have hm3:=hm;rw [if_neg c1] at hm3;replace c1:=zF c1
  refine cF Z c1 (kN (sR fL8 Z (oM Z Z (oM Z Z (bnK hm3 fun x4 h5 hm6=>oR Z (Runs.rem Z Z Z h5) (oM Z Z (oR Z (zZ Z Z Z) (oM Z Z (bnK hm6 fun x7 h8 hm9=>oR Z (Runs.rem Z Z Z h8) (oA Z Z (eN (zL ?_))))))))))))
  have hE:=nA hm9;first | subst r | cases hE
  exact ⟨Z,_,(ze Z),U,_,hS,Z,Z⟩
theorem wBS (p0:List wAA) (pA0:Option Addr) (pc0:Nat) (p1:(wAA->Option Bool)) (pv1:Value) (w:World) (U:PHeap) (hS:St0 w U []) (ha0:Sl U 3 pA0 pc0 p0.length (hH wAB p0)) (ha1:FnOK Tryz.prog U pv1 wIq wIr p1) {r:Bool} (hm:wAR p0 p1=some r):Gv Tryz.prog 140 [.slice pA0 p0.length pc0,pv1] w (wCo w [] U (fun U_ L_ v=>v=.bool r/\L_=[])):=by
 unfold wAR at hm
 refine Gv.of Tryz.func140 Z Tryz.ntmps140 Tryz.results140 Z (sR fL1 Z (oA Z Z (eN (zH (sR fL3 Z (oM Z Z (oR Z (zk Z Z zA) (oM Z Z (eN (zd ?_))))))))))
 have q:=wCI hm
 obtain ⟨r3,hX4⟩:=q
 have q:=wCH hX4
 obtain ⟨hle5,hf6⟩:=q
 replace hle5:=zF hle5
 refine CK.forN (fun k2 _ σ_ w_=>∃ (U_:PHeap),σ_ 9=jV (↑k2:Int)/\σ_ 1=pv1/\σ_ 7=.slice pA0 p0.length pc0/\σ_ 8=jV (↑p0.length:Int)/\PHeap.Le U U_/\sW w U U_ [] w_) hf6 ?_ ?_ ?_
 ·exact ⟨U,Z,Z,Z,Z,(zP _),hS⟩
 ·rintro k2 ⟨⟩ xx9 σ7 W8 hk12 ⟨U14,fi13,f17,f18,f19,le15,hS16⟩ hx10 hb11
  try dsimp only at hx10
  have c20:Hid ((↑k2:Int) < (↑p0.length:Int)):=zF (wBm hk12)
  replace hk12:=zF hk12
  have hi21:Hid (w64 ((↑k2:Int) + 1)=(↑(k2 + 1):Int)):=zF (by have h1:=hle5.out;have h2:=c20.out;rw [wAa] <;> omega)
  refine sR fL1 Z (oR Z (zY Z fi13 f19) (eN (zH (cT Z c20 (kN (zH (zd (sR (.fl 0 (.fl 1 (.fx 2 (.fx 3 (.nil) .stop) .stop))) Z (bnK hx10 fun x22 h23 hm24=>?_)))))))))
  have h25:=ha0.le le15
  have q:=h25.el (fun _=>rfl) (wAw h23)
  obtain ⟨b26,off27,hA28,hC29⟩:=q
  refine oR Z (ZB Z f18 hA28 fi13 zA zC (wCD h23)) (oL Z (hS16.ldCA (f:=0) hC29 Z Z zg zC (us:=[jV x22.Bib,jV x22.Time,jV x22.Gate]) Z Z) (ZG (cs:=[jV 0,jV 0,jV 0]) Z Z Z Z Z zr Z hS16 ?_))
  intro W30 b31 hS32
  let B0:List Value:=[jV x22.Bib,jV x22.Time,jV x22.Gate]
  refine OKS.st (j:=0) (vs:=B0) Z Z Z Z hS32 Z Z Z Z zC (zV Z) Z Z Z ?_
  intro W34 hS35
  have hS36:sW w U U14 [.blk b31 105 B0] W34:=hS35
  refine eN (sR (.fl 0 (.fl 1 (.fx 2 (.fl 3 (.nil)) .stop))) Z (oM Z f17 (oL Z (hS36.ldBA (j:=0) Z Z Z zg zC (vs:=B0) Z Z) (bnK hm24 fun x37 h38 hm39=>?_))))
  have h46:=ha1.le le15
  refine OKS.callV (a:=x22) Z Z Z Z Z Z (zB Z zR) hS36 h46 Z h38 ?_
  rintro U40 L41 v42 W43 le44 hS45 ⟨rfl,rfl⟩
  have hS47:sW w U U40 [.blk b31 105 B0] W43:=hS45
  refine oR Z (Runs.notT Z Z) (eN (ifc hm39 ?_ ?_))
  ·intro c48 hm49
   refine zq (nC c48.out) (CK.skip (zn (zK (rR fL2 Z (oR Z (zy (zZ Z fi13 Z) (congrArg (jV) hi21.out)) (oM Z Z (zo ?_)))))))
   obtain rfl:=nA hm49
   exact zK ⟨rfl,_,rfl,⟨U40,rfl,f17,f18,f19,(le15.trans le44),(hS47.pick [] _ (by decide) rfl)⟩⟩
  ·intro c48 hm50
   refine zi (nF (c48.out)) (sR fL1 Z (oA Z Z (eN (zL (zW (zG ?_))))))
   have q:=wAo hm50
   obtain ⟨v51,hm52,e53⟩:=q
   obtain rfl:=wBl hm hX4 (hb11 v51 e53)
   refine zG (zW (zG ?_))
   have hE:=nA hm52;first | subst r | cases hE
   exact ⟨rfl,_,(ze rfl),U40,_,(hS47.pick [] _ (by decide) rfl),rfl,rfl⟩
 ·rintro ⟨⟩ σ54 W55 ⟨U58,fi57,f61,f62,f63,le59,hS60⟩ hb56
  have hm64:=wDP hm hX4 hb56
  try dsimp only at hm64
  have c65:Hid (¬ ((↑(((↑p0.length:Int):Int) - 0).toNat:Int) < (↑p0.length:Int))):=zF (wBL)
  refine sR fL1 Z (oR Z (zY Z fi57 f63) (eN (zH (cF Z c65 (ZD (zl (zl (ZA (zK (sR fL1 Z (oA Z Z (eN (zL ?_)))))))))))))
  have hE:=nA hm64;first | subst r | cases hE
  exact ⟨Z,_,(ze Z),U58,_,hS60,Z,Z⟩
theorem wCl (p0:Int) (p1:Int) (p2:Int) (w:World) (U:PHeap) (hS:St0 w U [])  {r:Bool} (hm:wBO p0 p1 p2=some r):Gv Tryz.prog 122 [jV p0,jV p1,jV p2] w (wCo w [] U (fun U_ L_ v=>v=.bool r/\L_=[])):=by
 unfold wBO at hm
 refine Gv.of Tryz.func122 Z Tryz.ntmps122 Tryz.results122 Z (sR fL1 Z (oA Z Z (eN (sR fL9 Z (oM Z Z (oM Z Z (oR Z (Runs.geq Z Z Z) (oM Z Z ?_))))))))
 by_cases c1:p1 <= p0
 ·have hm2:=hm;rw [if_pos c1] at hm2;replace c1:=zF c1
  refine zU Z Z Z (wT Z c1) Z Z (zU Z Z Z (wT Z c1) Z Z (rU Z (wT Z c1) (Runs.leq Z Z Z) (oR Z (zE Z (wDq c1.out) Z) (oA Z Z (eN (zL ?_))))))
  cases hm2
  exact ⟨Z,_,(ze Z),U,_,hS,Z,Z⟩
 ·have hm3:=hm;rw [if_neg c1] at hm3;replace c1:=zF c1
  refine oF Z c1 (oF Z c1 (oF Z c1 (oR Z (zQ Z (zX c1.out) Z) (oA Z Z (eN (zL ?_))))))
  have hE:=nA hm3;first | subst r | cases hE
  exact ⟨Z,_,(ze Z),U,_,hS,Z,Z⟩
theorem wDH (p0:wAA) (w:World) (U:PHeap) (hS:St0 w U [])  {r:Bool} (hm:wAV p0=some r):Gv Tryz.prog 143 [.agg #[jV p0.Bib,jV p0.Time,jV p0.Gate]] w (wCo w [] U (fun U_ L_ v=>v=.bool r/\L_=[])):=by
 unfold wAV at hm
 refine Gv.of Tryz.func143 Z Tryz.ntmps143 Tryz.results143 Z (sR (.fx 0 (.fl 1 (.nil)) .stop) Z ?_)
 let B0:List Value:=[jV p0.Bib,jV p0.Time,jV p0.Gate]
 refine OKS.box (cs:=B0) rfl rfl rfl rfl rfl rfl (by rfl) hS ?_
 intro W1 b2 hS3
 refine oA Z Z (eN (sR (.fl 0 (.fl 1 (.fx 2 (wOx (.fx 6 (wPA (.fx 11 (.fl 12 (.fl 13 (.nil))) .stop)) .stop)) .stop))) Z (oR Z (zh Z Z zI Z zD) (oL Z (hS3.ldB (j:=0) Z Z Z zS (v:=jV p0.Bib) Z) (bnK hm fun x5 h6 hm7=>zM 0 Z Z Z Z (zN Z Z Tryz.call122 (zB Z (zB Z (zB Z zR))) Z) hS3 (fun hs=>wCl p0.Bib 1 999 W1 U hs h6) (.inr Z) ?_)))))
 rintro U8 L9 v10 W11 le12 hS13 ⟨rfl,rfl⟩
 have hS14:sW w U U8 [.blk b2 105 B0] W11:=hS13
 refine oM Z Z (ifc hm7 ?_ ?_)
 ·intro c15 hm16
  refine zp Z Z Z (zJ Z Z (congrArg nB c15.out)) (fun _=>zh Z Z zI Z zD) (OKS.m Z Z Z (zJ Z Z (congrArg nB c15.out)) (hS14.ldB (j:=0) Z Z Z zS (v:=jV p0.Time) Z) Z (bnK hm16 fun x17 h18 hm19=>zM 0 Z Z Z (zJ Z Z (congrArg nB c15.out)) (zN Z Z Tryz.call122 (zB Z (zB Z (zB Z zR))) Z) hS14 (fun hs=>wCl p0.Time 0 360000 W11 U8 hs h18) (.inr Z) ?_))
  rintro U20 L21 v22 W23 le24 hS25 ⟨rfl,rfl⟩
  have hS26:sW w U U20 [.blk b2 105 B0] W23:=hS25
  refine oR Z (zE Z (congrArg nB c15.out) Z) (oM Z Z (ifc hm19 ?_ ?_))
  ·intro c27 hm28
   refine zp Z Z Z (zJ Z Z (congrArg nB c27.out)) (fun _=>zh Z Z zI Z zD) (OKS.m Z Z Z (zJ Z Z (congrArg nB c27.out)) (hS26.ldB (j:=0) Z Z Z zS (v:=jV p0.Gate) Z) Z (bnK hm28 fun x29 h30 hm31=>zM 0 Z Z Z (zJ Z Z (congrArg nB c27.out)) (zN Z Z Tryz.call122 (zB Z (zB Z (zB Z zR))) Z) hS26 (fun hs=>wCl p0.Gate 0 60 W23 U20 hs h30) (.inr Z) ?_))
   rintro U32 L33 v34 W35 le36 hS37 ⟨rfl,rfl⟩
   have hS38:sW w U U32 [.blk b2 105 B0] W35:=hS37
   refine oR Z (zE Z (congrArg nB c27.out) Z) (oA Z Z (eN (zL ?_)))
   have hE:=nA hm31;first | subst r | cases hE
   exact ⟨rfl,_,(ze rfl),U32,_,(hS38.pick [] _ (by decide) rfl),rfl,rfl⟩
  ·intro c27 hm39
   refine zt Z Z Z (zm Z Z (congrArg nB (nD.2 c27.out)) Z) (zt Z Z Z (zm Z Z (congrArg nB (nD.2 c27.out)) Z) (OKS.px Z Z Z (zm Z Z (congrArg nB (nD.2 c27.out)) Z) (oR Z (zQ Z (congrArg nB (nD.2 c27.out)) Z) (oA Z Z (eN (zL ?_))))))
   have hE:=nA hm39;first | subst r | cases hE
   exact ⟨rfl,_,(ze rfl),U20,_,(hS26.pick [] _ (by decide) rfl),rfl,rfl⟩
 ·intro c15 hm40
  refine zt Z Z Z (zm Z Z (congrArg nB (nD.2 c15.out)) Z) (zt Z Z Z (zm Z Z (congrArg nB (nD.2 c15.out)) Z) (OKS.px Z Z Z (zm Z Z (congrArg nB (nD.2 c15.out)) Z) (oR Z (zQ Z (congrArg nB (nD.2 c15.out)) Z) (oM Z Z (oN Z (oN Z (OKS.px Z Z Z (zm Z Z Z Z) (oR Z (zQ Z Z Z) (oA Z Z (eN (zL ?_)))))))))))
  have hE:=nA hm40;first | subst r | cases hE
  exact ⟨rfl,_,(ze rfl),U8,_,(hS14.pick [] _ (by decide) rfl),rfl,rfl⟩
theorem wFx (p0:List Int) (pA0:Option Addr) (pc0:Nat) (w:World) (U:PHeap) (hS:St0 w U []) (ha0:Sl U 1 pA0 pc0 p0.length (hH KL.encI p0)) {r:Bool} (hm:wBQ p0=some r):Gv Tryz.prog 144 [.slice pA0 p0.length pc0] w (wCo w [] U (fun U_ L_ v=>v=.bool r/\L_=[])):=by
 unfold wBQ at hm
 refine Gv.of Tryz.func144 Z Tryz.ntmps144 Tryz.results144 Z (sR fL1 Z (oA Z Z (eN (sR (.fx 0 (.fl 1 (.nil)) .stop) Z (OKS.makeMap Z Z Z Z Z hS ?_)))))
 intro W1 b2 hS3
 have hr4:=MpR.nil wOg mv74
 refine oA Z Z (eN (zH (sR fL3 Z (oM Z Z (oR Z (zk Z Z zO) (oM Z Z (eN (zd ?_))))))))
 have q:=wCI hm
 obtain ⟨r21,hX22⟩:=q
 have q:=wCH hX22
 obtain ⟨hle23,hf24⟩:=q
 replace hle23:=zF hle23
 refine CK.forN (fun k20 l17 σ_ w_=>∃ (U_:PHeap) (es18:Array MapEntry) (ck19:Nat),σ_ 9=jV (↑k20:Int)/\σ_ 3=.map (some b2)/\σ_ 7=.slice pA0 p0.length pc0/\σ_ 8=jV (↑p0.length:Int)/\PHeap.Le U U_/\sW w U U_ [.obj b2 (.map es18 ck19)] w_/\MpR es18 wOg mv74 l17) hf24 ?_ ?_ ?_
 ·exact ⟨U,#[],0,Z,Z,Z,Z,(zP _),hS3,hr4⟩
 ·rintro k20 l17 xx27 σ25 W26 hk30 ⟨U32,es18,ck19,fi31,f35,f36,f37,le33,hS34,h38⟩ hx28 hb29
  have c39:Hid ((↑k20:Int) < (↑p0.length:Int)):=zF (wBm hk30)
  replace hk30:=zF hk30
  have hi40:Hid (w64 ((↑k20:Int) + 1)=(↑(k20 + 1):Int)):=zF (by have h1:=hle23.out;have h2:=c39.out;rw [wAa] <;> omega)
  refine sR fL1 Z (oR Z (zY Z fi31 f37) (eN (zH (cT Z c39 (kN (zH (zd (sR fL3 Z (bnK hx28 fun x41 h42 hm43=>?_)))))))))
  have h44:=ha0.le le33
  have q:=h44.el (fun _=>rfl) (wAw h42)
  obtain ⟨b45,off46,hA47,hC48⟩:=q
  refine oR Z (ZB Z f36 hA47 fi31 zO zD (wCD h42)) (oL Z (hS34.ldC (f:=0) hC48 (v:=jV x41) Z Z zS Z) (oA Z Z (eN (zH (sR fL3 Z (oM Z f35 (oM Z Z (oL Z (hS34.lookup1 (j:=0) (mk:=wOg) (mv:=mv74) (a:=x41) (z:=false) Z Z Z Z (wFP Tryz.runUnderlying74) wMS Tryz.zeroValue4 h38) (eN (ifc hm43 ?_ ?_))))))))))
  ·intro c49 hm50
   refine zi (congrArg nB c49.out) (sR fL1 Z (oA Z Z (eN (zL (zG (zW (zG ?_)))))))
   have q:=wAo hm50
   obtain ⟨v51,hm52,e53⟩:=q
   obtain rfl:=wBl hm hX22 (hb29 v51 e53)
   refine zG (zW (zG ?_))
   have hE:=nA hm52;first | subst r | cases hE
   exact ⟨rfl,_,(ze rfl),U32,_,(hS34.pick [] _ (by decide) rfl),rfl,rfl⟩
  ·intro c49 hm54
   refine zq (congrArg nB (nD.2 c49.out)) (kN (rR (.fl 0 (.fl 1 (.fx 2 (.nil) .stop))) rfl (zU rfl rfl rfl rfl rfl f35 (zU rfl rfl rfl rfl rfl rfl (OKS.mapPut (x:=.tmp 16) (y:=.tmp 17) (j:=0) (mk:=wOg) (mv:=mv74) (a:=x41) (v:=true) rfl rfl rfl (by first | exact .inl rfl | exact .inr rfl) hS34 rfl rfl rfl rfl (wFP Tryz.runUnderlying74) wMS h38 rfl ?_)))))
   intro es55 ck56 W57 hr58 hS59
   have hS60:sW w U U32 [.obj b2 (.map es55 ck56)] W57:=hS59
   refine zo (zn (zK (rR fL2 Z (oR Z (zy (zZ Z fi31 Z) (congrArg (jV) hi40.out)) (oM Z Z (zo ?_))))))
   obtain rfl:=nA hm54
   exact zK ⟨Z,_,Z,⟨U32,es55,ck56,Z,f35,f36,f37,le33,hS60,hr58⟩⟩
 ·rintro y68 σ64 W65 ⟨U71,e69,c70,fi67,f74,f75,f76,le72,hS73,h77⟩ hb66
  have hm78:=wDP hm hX22 hb66
  have c79:Hid (¬ ((↑(((↑p0.length:Int):Int) - 0).toNat:Int) < (↑p0.length:Int))):=zF (wBL)
  refine sR fL1 Z (oR Z (zY Z fi67 f76) (eN (zH (cF Z c79 (ZD (zl (zl (ZA (zK (sR fL1 Z (oA Z Z (eN (zL ?_)))))))))))))
  have hE:=nA hm78;first | subst r | cases hE
  exact ⟨rfl,_,(ze rfl),U71,_,(hS73.pick [] _ (by decide) rfl),rfl,rfl⟩
theorem wCf (p0:Int) (w:World) (U:PHeap) (hS:St0 w U [])  {r:Bool} (hm:wBC p0=some r):Gv Tryz.prog 236 [jV p0] w (wCo w [] U (fun U_ L_ v=>v=.bool r/\L_=[])):=by
 unfold wBC at hm
 refine Gv.of Tryz.func236 Z Tryz.ntmps236 Tryz.results236 Z (sR fL1 Z (oA Z Z (eN (sR fL4 Z (oM Z Z (oM Z Z (oR Z (zz Z Z Z) (oA Z Z (eN (zL ?_))))))))))
 cases hm
 exact ⟨Z,_,(ze Z),U,_,hS,Z,Z⟩
theorem wFJ (p0:Int) (p1:Int) (w:World) (U:PHeap) (hS:St0 w U [])  {r:Bool} (hm:wAz p0 p1=some r):Gv Tryz.prog 188 [jV p0,jV p1] w (wCo w [] U (fun U_ L_ v=>v=.bool r/\L_=[])):=by
 unfold wAz at hm
 refine Gv.of Tryz.func188 Z Tryz.ntmps188 Tryz.results188 Z (sR fL1 Z (oA Z Z (eN (sR (.fl 0 (.fx 1 (.fl 2 (.fl 3 (.fx 4 (wOz (.nil)) .stop))) .stop)) Z (oM Z Z (bnK hm fun x1 h2 hm3=>zM 0 Z Z Z Z (zN Z Z Tryz.call236 (zB Z zR) Z) hS (fun hs=>wCf p0 w U hs h2) (.inr Z) ?_))))))
 rintro U4 L5 v6 W7 le8 hS9 ⟨rfl,rfl⟩
 have hS10:sW w U U4 [] W7:=hS9
 refine oM Z Z (ifc hm3 ?_ ?_)
 ·intro c11 hm12
  refine zU Z Z Z (zJ Z Z (congrArg nB c11.out)) Z Z (bnK hm12 fun x13 h14 hm15=>zM 0 Z Z Z (zJ Z Z (congrArg nB c11.out)) (zN Z Z Tryz.call236 (zB Z zR) Z) hS10 (fun hs=>wCf p1 W7 U4 hs h14) (.inr Z) ?_)
  rintro U16 L17 v18 W19 le20 hS21 ⟨rfl,rfl⟩
  have hS22:sW w U U16 [] W19:=hS21
  refine zp Z Z Z (zJ Z Z (congrArg nB c11.out)) (fun _=>Runs.notT Z Z) (oR Z (zE Z (congrArg nB c11.out) Z) (oM Z Z (ifc hm15 ?_ ?_)))
  ·intro c23 hm24
   refine zU Z Z Z (zJ Z Z (nC c23.out)) Z Z (zU Z Z Z (zJ Z Z (nC c23.out)) Z Z (zp Z Z Z (zJ Z Z (nC c23.out)) (fun _=>zY Z Z Z) (oR Z (zQ Z (nC c23.out) Z) (oA Z Z (eN (zL ?_))))))
   cases hm24
   exact ⟨Z,_,(ze Z),U16,_,hS22,Z,Z⟩
  ·intro c23 hm25
   refine zt Z Z Z (zm Z Z (nF (c23.out)) Z) (zt Z Z Z (zm Z Z (nF (c23.out)) Z) (zt Z Z Z (zm Z Z (nF (c23.out)) Z) (oR Z (zE Z (nF (c23.out)) Z) (oA Z Z (eN (zL ?_))))))
   have hE:=nA hm25;first | subst r | cases hE
   exact ⟨Z,_,(ze Z),U16,_,hS22,Z,Z⟩
 ·intro c11 hm26
  refine zt Z Z Z (zm Z Z (congrArg nB (nD.2 c11.out)) Z) (OKS.px Z Z Z (zm Z Z (congrArg nB (nD.2 c11.out)) Z) (zt Z Z Z (zm Z Z (congrArg nB (nD.2 c11.out)) Z) (oR Z (zQ Z (congrArg nB (nD.2 c11.out)) Z) (oM Z Z (zU Z Z Z (zJ Z Z Z) Z Z (zU Z Z Z (zJ Z Z Z) Z Z (zp Z Z Z (zJ Z Z Z) (fun _=>zY Z Z Z) (oR Z (zQ Z Z Z) (oA Z Z (eN (zL ?_)))))))))))
  cases hm26
  exact ⟨Z,_,(ze Z),U4,_,hS10,Z,Z⟩
end Go.Proofs.YthbficbpebiekaaGreat
namespace Go.Proofs.YthbficbpebiekaaGreat
open Go.KL
set_option maxHeartbeats 4000000
theorem wBx (p0:List Int) (pA0:Option Addr) (pc0:Nat) (w:World) (U:PHeap) (hS:St0 w U []) (ha0:Sl U 1 pA0 pc0 p0.length (hH KL.encI p0)) {r:Bool} (hm:wAU p0=some r):Gv Tryz.prog 145 [.slice pA0 p0.length pc0] w (wCo w [] U (fun U_ L_ v=>v=.bool r/\L_=[])):=by
 unfold wAU at hm
 refine Gv.of Tryz.func145 Z Tryz.ntmps145 Tryz.results145 Z (sR fL1 Z (oA Z Z (eN (zH (sR fL4 Z (oM Z Z (oR Z (zk Z Z zO) (oR Z (Runs.subw Z Z Z) (oA Z Z (eN (zd (CK.iter (fun x4 σ_ w_=>∃ (U_:PHeap),σ_ 0=.slice pA0 p0.length pc0/\σ_ 3=jV x4/\PHeap.Le U U_/\sW w U U_ [] w_) hm ?_ ?_))))))))))))
 ·exact ⟨U,Z,Z,(zP _),hS⟩
 ·rintro x4 xx7 σ5 W6 ⟨U12,f15,f16,le13,hS14⟩ hx8 hb9
  refine zH (sR fL2 Z (oM Z f16 (oR Z (Runs.gtr Z Z Z) (eN ?_))))
  by_cases c17:0 < x4
  ·have hm18:=hx8;rw [if_pos c17] at hm18;replace c17:=zF c17
   refine cT Z c17 (kN (zH (zd (zH (CK.anyOrd Tryz.mixed [3,3,3,1,3,3,3,3,1,2] (wOu (.fx 9 (.nil) .stop)) (by kernel_rfl) ?_)))))
   have hS19:=hS14.drew
   generalize hw_W20:({ W6 with drawn:=W6.drawn + 1 }:World)=W20 at hS19 ⊢
   refine oM Z f15 (oM Z f16 (bnK hm18 fun x21 h22 hm23=>?_))
   have h24:=ha0.le le13
   have q:=h24.el (fun _=>rfl) (wAw h22)
   obtain ⟨b25,off26,hA27,hC28⟩:=q
   refine oR Z (Runs.iaI Z Z hA27 Z zO zD (wET h22) (wFO h22)) (oL Z (hS19.ldC (f:=0) hC28 (v:=jV x21) Z Z zS Z) (oM Z f15 (oM Z f16 (oR Z (Runs.subw Z Z Z) (bnK hm23 fun x29 h30 hm31=>?_)))))
   have q:=h24.el (fun _=>rfl) (wAw h30)
   obtain ⟨b32,off33,hA34,hC35⟩:=q
   refine oR Z (Runs.iaI Z Z hA34 Z zO zD (wET h30) (wFO h30)) (oL Z (hS19.ldC (f:=0) hC35 (v:=jV x29) Z Z zS Z) (bnK hm31 fun x36 h37 hm38=>zM 0 Z Z Z Z (zN Z Z Tryz.call188 (zB Z (zB Z zR)) Z) hS19 (fun hs=>wFJ x21 x29 W20 U12 hs h37) (.inr Z) ?_))
   rintro U39 L40 v41 W42 le43 hS44 ⟨rfl,rfl⟩
   have hS45:sW w U U39 [] W42:=hS44
   refine eN (ifc hm38 ?_ ?_)
   ·intro c46 hm47
    refine zi (congrArg nB c46.out) (sR fL1 Z (oA Z Z (eN (zL (zW (zG ?_))))))
    have q:=wAo hm47
    obtain ⟨v48,hm49,e50⟩:=q
    obtain rfl:=hb9 v48 e50
    refine zG (zW (zG ?_))
    have hE:=nA hm49;first | subst r | cases hE
    exact ⟨Z,_,(ze Z),U39,_,hS45,Z,Z⟩
   ·intro c46 hm51
    refine zq (congrArg nB (nD.2 c46.out)) (CK.skip (zn (zK (rR fL3 Z (oM Z f16 (oR Z (Runs.subw Z Z Z) (oA Z Z (zo ?_))))))))
    obtain rfl:=nA hm51
    exact zK ⟨Z,_,Z,⟨U39,f15,Z,(le13.trans le43),hS45⟩⟩
  ·have hm53:=hx8;rw [if_neg c17] at hm53;replace c17:=zF c17
   refine cF Z c17 (ZD (zl ?_))
   have q:=wAo hm53
   obtain ⟨v54,hm55,e56⟩:=q
   obtain rfl:=hb9 v54 e56
   refine zl (ZA (zK (sR fL1 Z (oA Z Z (eN (zL ?_))))))
   have hE:=nA hm55;first | subst r | cases hE
   exact ⟨Z,_,(ze Z),U12,_,hS14,Z,Z⟩
theorem wDn (p0:List wAA) (pA0:Option Addr) (pc0:Nat) (w:World) (U:PHeap) (hS:St0 w U []) (ha0:Sl U 3 pA0 pc0 p0.length (hH wAB p0)) {r:Int} (hm:wAs p0=some r):Gv Tryz.prog 57 [.slice pA0 p0.length pc0] w (wCo w [] U (fun U_ L_ v=>v=jV r/\L_=[])):=by
 unfold wAs at hm
 refine Gv.of Tryz.func57 Z Tryz.ntmps57 Tryz.results57 Z (sR fL1 Z (oA Z Z (eN (sR fL2 Z (oA Z Z (oA Z Z (eN (zH (sR fL3 Z (oM Z Z (oR Z (zk Z Z zA) (oM Z Z (eN (zd ?_))))))))))))))
 have q:=bnd hm
 obtain ⟨⟨y38,y39⟩,hf35,hm34⟩:=q
 try dsimp only at hm34
 have q:=wCg hf35
 obtain ⟨hle36,hf37⟩:=q
 replace hle36:=zF hle36
 refine CK.forN' (fun k33 (l25,l29) σ_ w_=>∃ (U_:PHeap) (A26:Option Addr) (c27:Nat) (A30:Option Addr) (c31:Nat),σ_ 9=jV (↑k33:Int)/\σ_ 0=.slice pA0 p0.length pc0/\σ_ 3=.slice A26 l25.length c27/\σ_ 4=.slice A30 l29.length c31/\σ_ 7=.slice pA0 p0.length pc0/\σ_ 8=jV (↑p0.length:Int)/\PHeap.Le U U_/\sW w U U_ [.row A26 c27 3 1 (hH KL.encI l25),.row A30 c31 3 1 (hH KL.encI l29)] w_) hf37 ?_ ?_ ?_
 ·have hS40:=hS.nilrow 3 1
  have hS42:=hS40.nilrow 3 1
  exact ⟨U,none,0,none,0,rfl,rfl,rfl,rfl,rfl,rfl,(zP _),(hS42.pick [1,0] _ (by decide) rfl)⟩
 ·rintro k33 ⟨l25,l29⟩ xx46 σ44 W45 hk49 ⟨U51,A26,c27,A30,c31,fi50,f54,f55,f56,f57,f58,le52,hS53⟩ hx47
  try dsimp only at hx47
  have c59:Hid ((↑k33:Int) < (↑p0.length:Int)):=zF (wBm hk49)
  replace hk49:=zF hk49
  have hi60:Hid (w64 ((↑k33:Int) + 1)=(↑(k33 + 1):Int)):=zF (by have h1:=hle36.out;have h2:=c59.out;rw [wAa] <;> omega)
  refine sR fL1 Z (oR Z (zY Z fi50 f58) (eN (zH (cT Z c59 (kN ?_)))))
  have q:=bnd hx47
  obtain ⟨⟨l61,l64⟩,hx68,hm69⟩:=q
  try dsimp only at hm69
  refine CK.cut (fun σ_ w_=>∃ (U_:PHeap) (A62:Option Addr) (c63:Nat) (A65:Option Addr) (c66:Nat),σ_ 0=.slice pA0 p0.length pc0/\σ_ 3=.slice A62 l61.length c63/\σ_ 4=.slice A65 l64.length c66/\σ_ 7=.slice pA0 p0.length pc0/\σ_ 8=jV (↑p0.length:Int)/\σ_ 9=jV (↑k33:Int)/\PHeap.Le U51 U_/\sW w U U_ [.row A62 c63 3 1 (hH KL.encI l61),.row A65 c66 3 1 (hH KL.encI l64)] w_) ?_ ?_
  ·refine zd (sR (.fl 0 (.fl 1 (.fx 2 (.fx 3 (.nil) .stop) .stop))) Z (bnK hx68 fun x70 h71 hm72=>?_))
   have h73:=ha0.le le52
   have q:=h73.el (fun _=>rfl) (wAw h71)
   obtain ⟨b74,off75,hA76,hC77⟩:=q
   refine oR Z (ZB Z f57 hA76 fi50 zA zC (wCD h71)) (oL Z (hS53.ldCA (f:=0) hC77 Z Z zg zC (us:=[jV x70.Bib,jV x70.Time,jV x70.Gate]) Z Z) (ZG (cs:=[jV 0,jV 0,jV 0]) Z Z Z Z Z zr Z hS53 ?_))
   intro W78 b79 hS80
   let B0:List Value:=[jV x70.Bib,jV x70.Time,jV x70.Gate]
   refine OKS.st (j:=0) (vs:=B0) Z Z Z Z hS80 Z Z Z Z zC (zV Z) Z Z Z ?_
   intro W82 hS83
   let B1:Res:=.row A30 c31 3 1 (hH KL.encI l29)
   let B2:Res:=.row A26 c27 3 1 (hH KL.encI l25)
   have hS84:sW w U U51 [.blk b79 105 B0,B2,B1] W82:=hS83
   refine eN (bnK hm72 fun x90 h91 hm111=>bnK hm111 fun x103 h104 hm112=>CK.anyOrd Tryz.mixed [3,3,1,2,0,3,3,2,2,0,3,3] (wFK (.fl 5 (.fl 6 (.fx 3 (.fx 4 (.fx 7 (.fx 8 (.fx 9 (.fl 10 (.fl 11 (.nil))) (.stop)) (.stop)) (.stop)) (.fx 7 (.fx 4 (.fx 8 (.fx 9 (.fl 10 (.fl 11 (.nil))) (.stop)) (.stop)) (.fx 8 (.fx 4 (.fx 9 (.fl 10 (.fl 11 (.nil))) (.stop)) (.stop)) (.stop))) (.stop))) (.fx 7 (.fx 3 (.fx 4 (.fx 8 (.fx 9 (.fl 10 (.fl 11 (.nil))) (.stop)) (.stop)) (.fx 8 (.fx 4 (.fx 9 (.fl 10 (.fl 11 (.nil))) (.stop)) (.stop)) (.stop))) (.fx 8 (.fx 3 (.fx 4 (.fx 9 (.fl 10 (.fl 11 (.nil))) (.stop)) (.stop)) (.stop)) (.stop))) (.stop)))))) (by kernel_rfl) ?_)
   have hS113:=hS84.drew
   generalize hw_W114:({ W82 with drawn:=W82.drawn + 1 }:World)=W114 at hS113 ⊢
   refine oM Z f55 (oR Z (zh Z Z zI Z zD) (oL Z (hS113.ldB (j:=0) Z Z Z zS (v:=jV x70.Bib) Z) (oM Z f56 (oR Z (zh Z Z zI Z zD) (OKS.both ?_ ?_)))))
   ·refine zu (pv:=[(0,jV x70.Bib)]) (zs:=[jV 0]) (cs:=[jV x70.Bib]) Z Z Z Z Z (wAn Z wBM) zO zD zx Z Z Z Z Z hS113 ?_
    intro W115 b116 hS117
    let B3:Res:=.row (some ⟨b116,0,none⟩) 1 3 1 (hH KL.encI [x70.Bib])
    have hS119:sW w U U51 [B3,.blk b79 105 B0,B2,B1] W115:=hS117
    refine OKS.both ?_ ?_
    ·refine zw (j:=2) (enc:=KL.encI) (xs:=l25) (ys:=[x70.Bib]) (zs:=x90) rfl rfl rfl rfl rfl zj wDX rfl rfl rfl rfl rfl rfl hS119 rfl rfl rfl (hS119.srcR (j:=0) rfl (by decide) (wAG (f:=KL.encI) (sz:=1) (fun _=>rfl) [x70.Bib])) (fun _=>rfl) (fun _=>rfl) h91 rfl ?_
     intro A120 c121 W122 hS123
     let B4:Res:=.row A120 c121 3 1 (hH KL.encI x90)
     have hS124:sW w U U51 [B3,.blk b79 105 B0,B4,B1] W122:=hS123
     refine OKS.mx2 Z Z Z Z (hS124.ldB (j:=1) Z Z Z zS (v:=jV x70.Time) Z) (zu (pv:=[(0,jV x70.Time)]) (zs:=[jV 0]) (cs:=[jV x70.Time]) Z Z Z Z Z (wAn Z wBM) zO zD zx Z Z Z Z Z hS124 ?_)
     intro W125 b126 hS127
     let B5:Res:=.row (some ⟨b126,0,none⟩) 1 3 1 (hH KL.encI [x70.Time])
     have hS129:sW w U U51 [B5,B3,.blk b79 105 B0,B4,B1] W125:=hS127
     refine zw (j:=4) (enc:=KL.encI) (xs:=l29) (ys:=[x70.Time]) (zs:=x103) rfl rfl rfl rfl rfl zj wDX rfl rfl rfl rfl rfl rfl hS129 rfl rfl rfl (hS129.srcR (j:=0) rfl (by decide) (wAG (f:=KL.encI) (sz:=1) (fun _=>rfl) [x70.Time])) (fun _=>rfl) (fun _=>rfl) h104 rfl ?_
     intro A130 c131 W132 hS133
     have hS134:sW w U U51 [B5,B3,.blk b79 105 B0,B4,.row A130 c131 3 1 (hH KL.encI x103)] W132:=hS133
     refine oA Z Z (oA Z Z (zo (zn ?_)))
     cases hm112
     exact zK ⟨rfl,⟨U51,A120,c121,A130,c131,f54,rfl,rfl,f57,f58,fi50,(zP _),(hS134.pick [3,4] _ (by decide) rfl)⟩⟩
    ·refine OKS.mx2 Z Z Z Z (hS119.ldB (j:=1) Z Z Z zS (v:=jV x70.Time) Z) (OKS.both ?_ ?_)
     ·refine zw (j:=2) (enc:=KL.encI) (xs:=l25) (ys:=[x70.Bib]) (zs:=x90) rfl rfl rfl rfl rfl zj wDX rfl rfl rfl rfl rfl rfl hS119 rfl rfl rfl (hS119.srcR (j:=0) rfl (by decide) (wAG (f:=KL.encI) (sz:=1) (fun _=>rfl) [x70.Bib])) (fun _=>rfl) (fun _=>rfl) h91 rfl ?_
      intro A141 c142 W143 hS144
      let B6:Res:=.row A141 c142 3 1 (hH KL.encI x90)
      have hS145:sW w U U51 [B3,.blk b79 105 B0,B6,B1] W143:=hS144
      refine zu (pv:=[(0,jV x70.Time)]) (zs:=[jV 0]) (cs:=[jV x70.Time]) Z Z Z Z Z (wAn Z wBM) zO zD zx Z Z Z Z Z hS145 ?_
      intro W146 b147 hS148
      let B7:Res:=.row (some ⟨b147,0,none⟩) 1 3 1 (hH KL.encI [x70.Time])
      have hS150:sW w U U51 [B7,B3,.blk b79 105 B0,B6,B1] W146:=hS148
      refine zw (j:=4) (enc:=KL.encI) (xs:=l29) (ys:=[x70.Time]) (zs:=x103) rfl rfl rfl rfl rfl zj wDX rfl rfl rfl rfl rfl rfl hS150 rfl rfl rfl (hS150.srcR (j:=0) rfl (by decide) (wAG (f:=KL.encI) (sz:=1) (fun _=>rfl) [x70.Time])) (fun _=>rfl) (fun _=>rfl) h104 rfl ?_
      intro A151 c152 W153 hS154
      have hS155:sW w U U51 [B7,B3,.blk b79 105 B0,B6,.row A151 c152 3 1 (hH KL.encI x103)] W153:=hS154
      refine oA Z Z (oA Z Z (zo (zn ?_)))
      cases hm112
      exact zK ⟨rfl,⟨U51,A141,c142,A151,c152,f54,rfl,rfl,f57,f58,fi50,(zP _),(hS155.pick [3,4] _ (by decide) rfl)⟩⟩
     ·refine zu (pv:=[(0,jV x70.Time)]) (zs:=[jV 0]) (cs:=[jV x70.Time]) Z Z Z Z Z (wAn Z wBM) zO zD zx Z Z Z Z Z hS119 ?_
      intro W162 b163 hS164
      let B8:Res:=.row (some ⟨b163,0,none⟩) 1 3 1 (hH KL.encI [x70.Time])
      have hS166:sW w U U51 [B8,B3,.blk b79 105 B0,B2,B1] W162:=hS164
      refine zw (j:=3) (enc:=KL.encI) (xs:=l25) (ys:=[x70.Bib]) (zs:=x90) rfl rfl rfl rfl rfl zj wDX rfl rfl rfl rfl rfl rfl hS166 rfl rfl rfl (hS166.srcR (j:=1) rfl (by decide) (wAG (f:=KL.encI) (sz:=1) (fun _=>rfl) [x70.Bib])) (fun _=>rfl) (fun _=>rfl) h91 rfl ?_
      intro A167 c168 W169 hS170
      let B9:Res:=.row A167 c168 3 1 (hH KL.encI x90)
      have hS171:sW w U U51 [B8,B3,.blk b79 105 B0,B9,B1] W169:=hS170
      refine zw (j:=4) (enc:=KL.encI) (xs:=l29) (ys:=[x70.Time]) (zs:=x103) rfl rfl rfl rfl rfl zj wDX rfl rfl rfl rfl rfl rfl hS171 rfl rfl rfl (hS171.srcR (j:=0) rfl (by decide) (wAG (f:=KL.encI) (sz:=1) (fun _=>rfl) [x70.Time])) (fun _=>rfl) (fun _=>rfl) h104 rfl ?_
      intro A172 c173 W174 hS175
      have hS176:sW w U U51 [B8,B3,.blk b79 105 B0,B9,.row A172 c173 3 1 (hH KL.encI x103)] W174:=hS175
      refine oA Z Z (oA Z Z (zo (zn ?_)))
      cases hm112
      exact zK ⟨rfl,⟨U51,A167,c168,A172,c173,f54,rfl,rfl,f57,f58,fi50,(zP _),(hS176.pick [3,4] _ (by decide) rfl)⟩⟩
   ·refine OKS.mx2 Z Z Z Z (hS113.ldB (j:=0) Z Z Z zS (v:=jV x70.Time) Z) (OKS.both ?_ ?_)
    ·refine zu (pv:=[(0,jV x70.Bib)]) (zs:=[jV 0]) (cs:=[jV x70.Bib]) Z Z Z Z Z (wAn Z wBM) zO zD zx Z Z Z Z Z hS113 ?_
     intro W183 b184 hS185
     let B10:Res:=.row (some ⟨b184,0,none⟩) 1 3 1 (hH KL.encI [x70.Bib])
     have hS187:sW w U U51 [B10,.blk b79 105 B0,B2,B1] W183:=hS185
     refine OKS.both ?_ ?_
     ·refine zw (j:=2) (enc:=KL.encI) (xs:=l25) (ys:=[x70.Bib]) (zs:=x90) rfl rfl rfl rfl rfl zj wDX rfl rfl rfl rfl rfl rfl hS187 rfl rfl rfl (hS187.srcR (j:=0) rfl (by decide) (wAG (f:=KL.encI) (sz:=1) (fun _=>rfl) [x70.Bib])) (fun _=>rfl) (fun _=>rfl) h91 rfl ?_
      intro A188 c189 W190 hS191
      let B11:Res:=.row A188 c189 3 1 (hH KL.encI x90)
      have hS192:sW w U U51 [B10,.blk b79 105 B0,B11,B1] W190:=hS191
      refine zu (pv:=[(0,jV x70.Time)]) (zs:=[jV 0]) (cs:=[jV x70.Time]) Z Z Z Z Z (wAn Z wBM) zO zD zx Z Z Z Z Z hS192 ?_
      intro W193 b194 hS195
      let B12:Res:=.row (some ⟨b194,0,none⟩) 1 3 1 (hH KL.encI [x70.Time])
      have hS197:sW w U U51 [B12,B10,.blk b79 105 B0,B11,B1] W193:=hS195
      refine zw (j:=4) (enc:=KL.encI) (xs:=l29) (ys:=[x70.Time]) (zs:=x103) rfl rfl rfl rfl rfl zj wDX rfl rfl rfl rfl rfl rfl hS197 rfl rfl rfl (hS197.srcR (j:=0) rfl (by decide) (wAG (f:=KL.encI) (sz:=1) (fun _=>rfl) [x70.Time])) (fun _=>rfl) (fun _=>rfl) h104 rfl ?_
      intro A198 c199 W200 hS201
      have hS202:sW w U U51 [B12,B10,.blk b79 105 B0,B11,.row A198 c199 3 1 (hH KL.encI x103)] W200:=hS201
      refine oA Z Z (oA Z Z (zo (zn ?_)))
      cases hm112
      exact zK ⟨rfl,⟨U51,A188,c189,A198,c199,f54,rfl,rfl,f57,f58,fi50,(zP _),(hS202.pick [3,4] _ (by decide) rfl)⟩⟩
     ·refine zu (pv:=[(0,jV x70.Time)]) (zs:=[jV 0]) (cs:=[jV x70.Time]) Z Z Z Z Z (wAn Z wBM) zO zD zx Z Z Z Z Z hS187 ?_
      intro W209 b210 hS211
      let B13:Res:=.row (some ⟨b210,0,none⟩) 1 3 1 (hH KL.encI [x70.Time])
      have hS213:sW w U U51 [B13,B10,.blk b79 105 B0,B2,B1] W209:=hS211
      refine zw (j:=3) (enc:=KL.encI) (xs:=l25) (ys:=[x70.Bib]) (zs:=x90) rfl rfl rfl rfl rfl zj wDX rfl rfl rfl rfl rfl rfl hS213 rfl rfl rfl (hS213.srcR (j:=1) rfl (by decide) (wAG (f:=KL.encI) (sz:=1) (fun _=>rfl) [x70.Bib])) (fun _=>rfl) (fun _=>rfl) h91 rfl ?_
      intro A214 c215 W216 hS217
      let B14:Res:=.row A214 c215 3 1 (hH KL.encI x90)
      have hS218:sW w U U51 [B13,B10,.blk b79 105 B0,B14,B1] W216:=hS217
      refine zw (j:=4) (enc:=KL.encI) (xs:=l29) (ys:=[x70.Time]) (zs:=x103) rfl rfl rfl rfl rfl zj wDX rfl rfl rfl rfl rfl rfl hS218 rfl rfl rfl (hS218.srcR (j:=0) rfl (by decide) (wAG (f:=KL.encI) (sz:=1) (fun _=>rfl) [x70.Time])) (fun _=>rfl) (fun _=>rfl) h104 rfl ?_
      intro A219 c220 W221 hS222
      have hS223:sW w U U51 [B13,B10,.blk b79 105 B0,B14,.row A219 c220 3 1 (hH KL.encI x103)] W221:=hS222
      refine oA Z Z (oA Z Z (zo (zn ?_)))
      cases hm112
      exact zK ⟨rfl,⟨U51,A214,c215,A219,c220,f54,rfl,rfl,f57,f58,fi50,(zP _),(hS223.pick [3,4] _ (by decide) rfl)⟩⟩
    ·refine zu (pv:=[(0,jV x70.Time)]) (zs:=[jV 0]) (cs:=[jV x70.Time]) Z Z Z Z Z (wAn Z wBM) zO zD zx Z Z Z Z Z hS113 ?_
     intro W230 b231 hS232
     let B15:Res:=.row (some ⟨b231,0,none⟩) 1 3 1 (hH KL.encI [x70.Time])
     have hS234:sW w U U51 [B15,.blk b79 105 B0,B2,B1] W230:=hS232
     refine zu (pv:=[(0,jV x70.Bib)]) (zs:=[jV 0]) (cs:=[jV x70.Bib]) Z Z Z Z Z (wAn Z wBM) zO zD zx Z Z Z Z Z hS234 ?_
     intro W235 b236 hS237
     let B16:Res:=.row (some ⟨b236,0,none⟩) 1 3 1 (hH KL.encI [x70.Bib])
     have hS239:sW w U U51 [B16,B15,.blk b79 105 B0,B2,B1] W235:=hS237
     refine zw (j:=3) (enc:=KL.encI) (xs:=l25) (ys:=[x70.Bib]) (zs:=x90) rfl rfl rfl rfl rfl zj wDX rfl rfl rfl rfl rfl rfl hS239 rfl rfl rfl (hS239.srcR (j:=0) rfl (by decide) (wAG (f:=KL.encI) (sz:=1) (fun _=>rfl) [x70.Bib])) (fun _=>rfl) (fun _=>rfl) h91 rfl ?_
     intro A240 c241 W242 hS243
     let B17:Res:=.row A240 c241 3 1 (hH KL.encI x90)
     have hS244:sW w U U51 [B16,B15,.blk b79 105 B0,B17,B1] W242:=hS243
     refine zw (j:=4) (enc:=KL.encI) (xs:=l29) (ys:=[x70.Time]) (zs:=x103) rfl rfl rfl rfl rfl zj wDX rfl rfl rfl rfl rfl rfl hS244 rfl rfl rfl (hS244.srcR (j:=1) rfl (by decide) (wAG (f:=KL.encI) (sz:=1) (fun _=>rfl) [x70.Time])) (fun _=>rfl) (fun _=>rfl) h104 rfl ?_
     intro A245 c246 W247 hS248
     have hS249:sW w U U51 [B16,B15,.blk b79 105 B0,B17,.row A245 c246 3 1 (hH KL.encI x103)] W247:=hS248
     refine oA Z Z (oA Z Z (zo (zn ?_)))
     cases hm112
     exact zK ⟨rfl,⟨U51,A240,c241,A245,c246,f54,rfl,rfl,f57,f58,fi50,(zP _),(hS249.pick [3,4] _ (by decide) rfl)⟩⟩
  ·rintro σ256 W257 ⟨U258,A62,c63,A65,c66,f261,f262,f263,f264,f265,f266,le259,hS260⟩
   refine rR fL2 Z (oR Z (zy (zZ Z f266 Z) (congrArg (jV) hi60.out)) (oM Z Z (zo ?_)))
   cases hm69
   exact zK ⟨Z,⟨U258,A62,c63,A65,c66,Z,f261,f262,f263,f264,f265,(le52.trans le259),hS260⟩⟩
 ·rintro σ273 W274 ⟨U287,A283,c284,A285,c286,fi276,f290,f291,f292,f293,f294,le288,hS289⟩
  have c295:Hid (¬ ((↑(((↑p0.length:Int):Int) - 0).toNat:Int) < (↑p0.length:Int))):=zF (wBL)
  refine sR fL1 Z (oR Z (zY Z fi276 f294) (eN (zH (cF Z c295 (ZD (zl (zl (ZA (zK (zH (zd (sR fL4 Z (oM Z f290 (oR Z (zk Z Z zA) (oR Z (Runs.gtr Z Z Z) (oA Z Z (eN (ifc hm34 ?_ ?_))))))))))))))))))
  ·intro c296 hm297
   refine cT Z c296 (sR fL1 Z (oA Z Z (eN (zL (zW (zG ?_))))))
   cases hm297
   exact ⟨rfl,_,(ze rfl),U287,_,(hS289.pick [] _ (by decide) rfl),rfl,rfl⟩
  ·intro c296 hm298
   refine cF Z c296 (sR (.fl 0 (.fx 1 (.fl 2 (.fl 3 (.nil))) .stop)) Z (oM Z f290 ?_))
   have h299:=ha0.le le288
   have hF300:FnOK Tryz.prog U287 (.func (.func 143) #[] #[]) wIq wIr wAV:=⟨143,[],[],rfl,Tryz.call143,fun U1 w1 x y vs le hs ha hm=>by obtain rfl:=ha;exact wDH x w1 U1 hs  hm⟩
   refine bnK hm298 fun x301 h302 hm303=>zM 0 Z Z Z Z (zN Z Z Tryz.call140 (zB Z (zB Z zR)) Z) hS289 (fun hs=>wBS p0 pA0 pc0 wAV (.func (.func 143) #[] #[]) W274 U287 hs h299 hF300 h302) (.inr Z) ?_
   rintro U304 L305 v306 W307 le308 hS309 ⟨rfl,rfl⟩
   let B18:Res:=.row A285 c286 3 1 (hH KL.encI y39)
   have hS310:sW w U U304 [.row A283 c284 3 1 (hH KL.encI y38),B18] W307:=hS309
   refine oR Z (Runs.notT Z Z) (oA Z Z (eN (ifc hm303 ?_ ?_)))
   ·intro c311 hm312
    refine zq (nC c311.out) (sR (.fl 0 (.fx 1 (.fl 2 (.nil)) .stop)) Z (oM Z f291 ?_))
    have q:=hS310.freezeR (k:=0) (n:=y38.length) rfl (wAG (f:=KL.encI) (sz:=1) (fun _=>rfl) y38) (by decide)
    obtain ⟨U313,le314,hs315,hS316⟩:=q
    have hS317:sW w U U313 [B18] W307:=hS316
    refine bnK hm312 fun x318 h319 hm320=>zM 0 Z Z Z Z (zN Z Z Tryz.call144 (zB Z zR) Z) hS317 (fun hs=>wFx y38 A283 c284 W307 U313 hs hs315 h319) (.inr Z) ?_
    rintro U321 L322 v323 W324 le325 hS326 ⟨rfl,rfl⟩
    have hS327:sW w U U321 [B18] W324:=hS326
    refine oA Z Z (eN (ifc hm320 ?_ ?_))
    ·intro c328 hm329
     refine zi (congrArg nB c328.out) (sR fL1 Z (oA Z Z (eN (zL (zW (zG ?_))))))
     cases hm329
     exact ⟨rfl,_,(ze rfl),U321,_,(hS327.pick [] _ (by decide) rfl),rfl,rfl⟩
    ·intro c328 hm330
     refine zq (congrArg nB (nD.2 c328.out)) (sR (.fl 0 (.fx 1 (.fl 2 (.fl 3 (.nil))) .stop)) Z (oM Z f292 ?_))
     have q:=hS327.freezeR (k:=0) (n:=y39.length) rfl (wAG (f:=KL.encI) (sz:=1) (fun _=>rfl) y39) (by decide)
     obtain ⟨U331,le332,hs333,hS334⟩:=q
     have hS335:sW w U U331 [] W324:=hS334
     refine bnK hm330 fun x336 h337 hm338=>zM 0 Z Z Z Z (zN Z Z Tryz.call145 (zB Z zR) Z) hS335 (fun hs=>wBx y39 A285 c286 W324 U331 hs hs333 h337) (.inr Z) ?_
     rintro U339 L340 v341 W342 le343 hS344 ⟨rfl,rfl⟩
     have hS345:sW w U U339 [] W342:=hS344
     refine oR Z (Runs.notT Z Z) (oA Z Z (eN (ifc hm338 ?_ ?_)))
     ·intro c346 hm347
      refine zq (nC c346.out) (CK.skip (zn (zK (sR fL1 Z (oA Z Z (eN (zL ?_)))))))
      cases hm347
      exact ⟨Z,_,(ze Z),U339,_,hS345,Z,Z⟩
     ·intro c346 hm348
      refine zi (nF (c346.out)) (sR fL1 Z (oA Z Z (eN (zL (zW (zG ?_))))))
      cases hm348
      exact ⟨Z,_,(ze Z),U339,_,hS345,Z,Z⟩
   ·intro c311 hm349
    refine zi (nF (c311.out)) (sR fL1 Z (oA Z Z (eN (zL (zW (zG ?_))))))
    cases hm349
    exact ⟨rfl,_,(ze rfl),U304,_,(hS310.pick [] _ (by decide) rfl),rfl,rfl⟩
theorem wBT (p0:List wAA) (pA0:Option Addr) (pc0:Nat) (p1:Int) (w:World) (U:PHeap) (hS:St0 w U []) (ha0:Sl U 3 pA0 pc0 p0.length (hH wAB p0)) {r:Int} (hm:wAg p0 p1=some r):Gv Tryz.prog 136 [.slice pA0 p0.length pc0,jV p1] w (wCo w [] U (fun U_ L_ v=>v=jV r/\L_=[])):=by
 unfold wAg at hm
 refine Gv.of Tryz.func136 Z Tryz.ntmps136 Tryz.results136 Z (sR fL1 Z (oA Z Z (eN (sR (.fl 0 (.fx 1 (.fl 2 (.nil)) .stop)) Z (oM Z Z (bnK hm fun x1 h2 hm3=>zM 0 Z Z Z Z (zN Z Z Tryz.call57 (zB Z zR) Z) hS (fun hs=>wDn p0 pA0 pc0 w U hs ha0 h2) (.inr Z) ?_))))))
 rintro U4 L5 v6 W7 le8 hS9 ⟨rfl,rfl⟩
 have hS10:sW w U U4 [] W7:=hS9
 refine oA Z Z (eN (zH (sR (wOs (.fx 4 (.fl 5 (.fl 6 (.nil))) .stop)) Z (oM Z Z (oR Z (Runs.eql Z Z Z) (oM Z Z (ifc hm3 ?_ ?_)))))))
 ·intro c11 hm12
  refine zU Z Z Z (wT Z c11) Z Z (bnK hm12 fun x13 h14 hm15=>zM 0 Z Z Z (wT Z c11) (zN Z Z Tryz.call122 (zB Z (zB Z (zB Z zR))) Z) hS10 (fun hs=>wCl p1 1 6000 W7 U4 hs h14) (.inr Z) ?_)
  rintro U16 L17 v18 W19 le20 hS21 ⟨rfl,rfl⟩
  have hS22:sW w U U16 [] W19:=hS21
  refine rU Z (wT Z c11) (Runs.notT Z Z) (oR Z (zE Z (wDq c11.out) Z) (eN (ifc hm15 ?_ ?_)))
  ·intro c23 hm24
   refine zq (nC c23.out) (kN (sR fL2 Z (oM Z Z (oA Z Z (eN (zL ?_))))))
   have hE:=nA hm24;first | subst r | cases hE
   exact ⟨Z,_,(ze Z),U16,_,hS22,Z,Z⟩
  ·intro c23 hm25
   refine zi (nF (c23.out)) (rR fL1 Z (oA Z Z (eN (sR fL2 Z (oM Z Z (oA Z Z (eN (zL ?_))))))))
   cases hm25
   exact ⟨Z,_,(ze Z),U16,_,hS22,Z,Z⟩
 ·intro c11 hm26
  refine oF Z c11 (OKS.px Z Z Z (zm Z Z (zX c11.out) Z) (oF Z c11 (oR Z (zQ Z (zX c11.out) Z) (eN (zq Z (kN (sR fL2 Z (oM Z Z (oA Z Z (eN (zL ?_)))))))))))
  have hE:=nA hm26;first | subst r | cases hE
  exact ⟨Z,_,(ze Z),U4,_,hS10,Z,Z⟩
theorem wBb (p0:Int) (p1:wAA) (p2:wAA) (w:World) (U:PHeap) (hS:St0 w U [])  {r:Bool} (hm:wAJ p0 p1 p2=some r):Gv Tryz.prog 139 [jV p0,.agg #[jV p1.Bib,jV p1.Time,jV p1.Gate],.agg #[jV p2.Bib,jV p2.Time,jV p2.Gate]] w (wCo w [] U (fun U_ L_ v=>v=.bool r/\L_=[])):=by
 unfold wAJ at hm
 refine Gv.of Tryz.func139 rfl Tryz.ntmps139 Tryz.results139 rfl (sR (.fx 0 (.fx 1 (.fl 2 (.nil)) .stop) .stop) rfl (OKS.box (cs:=[jV p1.Bib,jV p1.Time,jV p1.Gate]) rfl rfl rfl rfl rfl rfl (by rfl) hS ?_))
 intro W1 b2 hS3
 refine OKS.box (cs:=[jV p2.Bib,jV p2.Time,jV p2.Gate]) rfl rfl rfl rfl rfl rfl (by rfl) hS3 ?_
 intro W5 b6 hS7
 refine oA Z Z (eN (sR fL14 Z (oR Z (zh Z Z zI Z zD) (oL Z (hS7.ldB (j:=1) Z Z Z zS (v:=jV p1.Time) Z) (oR Z (zh Z Z zI Z zD) (oL Z (hS7.ldB (j:=0) Z Z Z zS (v:=jV p2.Time) Z) (oR Z (Runs.subw Z Z Z) (oR Z (zh Z Z zI Z zD) (oL Z (hS7.ldB (j:=0) Z Z Z zS (v:=jV p2.Time) Z) (oR Z (zh Z Z zI Z zD) (oL Z (hS7.ldB (j:=1) Z Z Z zS (v:=jV p1.Time) Z) (oR Z (Runs.subw Z Z Z) (oR Z (Runs.max Z Z Z) (oM Z Z (oR Z (zY Z Z Z) (oA Z Z (eN (zL ?_))))))))))))))))))
 cases hm
 exact ⟨rfl,_,(ze rfl),U,_,(hS7.pick [] _ (by decide) rfl),rfl,rfl⟩
theorem wEx (p0:wAA) (p1:((wAA × wAA)->Option Bool)) (pb1:Nat) (pv1:Value) (p2:wAA) (pb2:Nat) (w:World) (U:PHeap) (hS:St0 w U []) (ha0:Cl U pb1 0 [pv1]) (ha1:FnOK Tryz.prog U pv1 wOh wOi p1) (ha2:Cl U pb2 0 [jV p2.Bib,jV p2.Time,jV p2.Gate]) {r:Bool} (hm:wAm p0 p1 p2=some r):Gv Tryz.prog 232 [.agg #[jV p0.Bib,jV p0.Time,jV p0.Gate],.pointer (some ⟨pb1,0,none⟩),.pointer (some ⟨pb2,0,none⟩)] w (wCo w [] U (fun U_ L_ v=>v=.bool r/\L_=[])):=by
 unfold wAm at hm
 refine Gv.of Tryz.func232 Z Tryz.ntmps232 Tryz.results232 Z (sR (.fx 0 (.fl 1 (.nil)) .stop) Z ?_)
 let B0:List Value:=[jV p0.Bib,jV p0.Time,jV p0.Gate]
 refine OKS.box (cs:=B0) rfl rfl rfl rfl rfl rfl (by rfl) hS ?_
 intro W1 b2 hS3
 refine oA Z Z (eN (sR (wFK (.fx 3 (.fl 4 (.nil)) .stop)) Z (oL Z (hS3.ldC (f:=0) ha0 (v:=pv1) Z Z Tryz.isAgg238 Z) (oL Z (hS3.ldBA (j:=0) Z Z Z zg zC (vs:=B0) Z Z) (oL Z (hS3.ldCA (f:=0) ha2 Z Z zg zC (us:=[jV p2.Bib,jV p2.Time,jV p2.Gate]) Z Z) (bnK hm fun x5 h6 hm7=>OKS.callV (a:=(p0,p2)) Z Z Z Z Z Z (zB Z (zB Z zR)) hS3 ha1 Z h6 ?_))))))
 rintro U8 L9 v10 W11 le12 hS13 ⟨rfl,rfl⟩
 have hS14:sW w U U8 [.blk b2 105 B0] W11:=hS13
 refine oA Z Z (eN (zL ?_))
 have hE:=nA hm7;first | subst r | cases hE
 exact ⟨rfl,_,(ze rfl),U8,_,(hS14.pick [] _ (by decide) rfl),rfl,rfl⟩
theorem wAY (p0:List wAA) (pA0:Option Addr) (pc0:Nat) (p1:(wAA->Option Bool)) (pv1:Value) (w:World) (U:PHeap) (hS:St0 w U []) (ha0:Sl U 3 pA0 pc0 p0.length (hH wAB p0)) (ha1:FnOK Tryz.prog U pv1 wIq wIr p1) {r:Int} (hm:wAE p0 p1=some r):Gv Tryz.prog 65 [.slice pA0 p0.length pc0,pv1] w (wCo w [] U (fun U_ L_ v=>v=jV r/\L_=[])):=by
 unfold wAE at hm
 refine Gv.of Tryz.func65 Z Tryz.ntmps65 Tryz.results65 Z (sR fL1 Z (oA Z Z (eN (zH (sR fL3 Z (oM Z Z (oR Z (zk Z Z zA) (oM Z Z (eN (zd ?_))))))))))
 have q:=wCI hm
 obtain ⟨r3,hX4⟩:=q
 have q:=wCH hX4
 obtain ⟨hle5,hf6⟩:=q
 replace hle5:=zF hle5
 refine CK.forN (fun k2 _ σ_ w_=>∃ (U_:PHeap),σ_ 8=jV (↑k2:Int)/\σ_ 0=.slice pA0 p0.length pc0/\σ_ 1=pv1/\σ_ 7=jV (↑p0.length:Int)/\PHeap.Le U U_/\sW w U U_ [] w_) hf6 ?_ ?_ ?_
 ·exact ⟨U,Z,Z,Z,Z,(zP _),hS⟩
 ·rintro k2 ⟨⟩ xx9 σ7 W8 hk12 ⟨U14,fi13,f17,f18,f19,le15,hS16⟩ hx10 hb11
  try dsimp only at hx10
  have c20:Hid ((↑k2:Int) < (↑p0.length:Int)):=zF (wBm hk12)
  replace hk12:=zF hk12
  have hi21:Hid (w64 ((↑k2:Int) + 1)=(↑(k2 + 1):Int)):=zF (by have h1:=hle5.out;have h2:=c20.out;rw [wAa] <;> omega)
  refine sR fL1 Z (oR Z (zY Z fi13 f19) (eN (zH (cT Z c20 (kN (zH (zd (sR fL2 Z (oM Z fi13 (oA Z Z (eN (sR (wNd (.fx 5 (.nil) .stop)) Z (oM Z f18 (oM Z f17 (oM Z Z (bnK hx10 fun x22 h23 hm24=>?_))))))))))))))))
  have h25:=ha0.le le15
  have q:=h25.el (fun _=>rfl) (wAw h23)
  obtain ⟨b26,off27,hA28,hC29⟩:=q
  refine oR Z (ZB Z Z hA28 Z zA zC (wCD h23)) (oL Z (hS16.ldCA (f:=0) hC29 Z Z zg zC (us:=[jV x22.Bib,jV x22.Time,jV x22.Gate]) Z Z) (bnK hm24 fun x30 h31 hm32=>?_))
  have h39:=ha1.le le15
  refine OKS.callV (a:=x22) Z Z Z Z Z Z (zB Z zR) hS16 h39 Z h31 ?_
  rintro U33 L34 v35 W36 le37 hS38 ⟨rfl,rfl⟩
  have hS40:sW w U U33 [] W36:=hS38
  refine eN (ifc hm32 ?_ ?_)
  ·intro c41 hm42
   refine zi (congrArg nB c41.out) (sR fL2 Z (oM Z Z (oA Z Z (eN (zL (zW (zG ?_)))))))
   have q:=wAo hm42
   obtain ⟨v43,hm44,e45⟩:=q
   obtain rfl:=wBl hm hX4 (hb11 v43 e45)
   refine zG (zW (zG ?_))
   cases hm44
   exact ⟨Z,_,(ze Z),U33,_,hS40,Z,Z⟩
  ·intro c41 hm46
   refine zq (congrArg nB (nD.2 c41.out)) (CK.skip (zn (zK (rR fL2 Z (oR Z (zy (zZ Z fi13 Z) (congrArg (jV) hi21.out)) (oM Z Z (zo ?_)))))))
   obtain rfl:=nA hm46
   exact zK ⟨Z,_,Z,⟨U33,Z,f17,f18,f19,(le15.trans le37),hS40⟩⟩
 ·rintro ⟨⟩ σ47 W48 ⟨U51,fi50,f54,f55,f56,le52,hS53⟩ hb49
  have hm57:=wDP hm hX4 hb49
  try dsimp only at hm57
  have c58:Hid (¬ ((↑(((↑p0.length:Int):Int) - 0).toNat:Int) < (↑p0.length:Int))):=zF (wBL)
  refine sR fL1 Z (oR Z (zY Z fi50 f56) (eN (zH (cF Z c58 (ZD (zl (zl (ZA (zK (sR fL1 Z (oA Z Z (eN (zL ?_)))))))))))))
  cases hm57
  exact ⟨Z,_,(ze Z),U51,_,hS53,Z,Z⟩
theorem wCO (p0:List wAA) (pA0:Option Addr) (pc0:Nat) (p1:Int) (w:World) (U:PHeap) (hS:St0 w U []) (ha0:Sl U 3 pA0 pc0 p0.length (hH wAB p0)) {r:(List wAA)} (hm:wAx p0 p1=some r):Gv Tryz.prog 137 [.slice pA0 p0.length pc0,jV p1] w (wCo w [] U (fun U_ L_ v=>∃ (A0:Option Addr) (c0:Nat),v=.slice A0 r.length c0/\L_=[]/\Sl U_ 3 A0 c0 r.length (hH wAB r))):=by
 unfold wAx at hm
 refine Gv.of Tryz.func137 Z Tryz.ntmps137 Tryz.results137 Z (sR fL1 Z (oA Z Z (eN (sR (.fl 0 (.fl 1 (.fx 2 (.fx 3 (.nil) .stop) .stop))) Z (oM Z Z (oR Z (Runs.mkf Z (zB Z zR) zR) (ZG (cs:=[.nilFunc]) Z Z Z Z Z Tryz.zeroValue238 Z hS ?_)))))))
 intro W1 b2 hS3
 let B0:List Value:=[.func (.func 139) #[jV p1] #[]]
 refine OKS.st (j:=0) (vs:=B0) Z Z Z Z hS3 Z Z Z Z Tryz.sizeOf238 (zV Z) Z Z Z ?_
 intro W5 hS6
 have hS7:sW w U U [.blk b2 238 B0] W5:=hS6
 refine eN (sR fL1 Z (oA Z Z (eN (zH (sR fL3 Z (oM Z Z (oR Z (zk Z Z zA) (oM Z Z (eN (zd ?_))))))))))
 have q:=hS7.freeze (k:=0) rfl
 obtain ⟨U9,le10,hC11,hS12⟩:=q
 replace hC11:=Cl.of hC11
 have hS13:sW w U U9 [] W5:=hS12
 replace hC11:Cl U9 b2 0 B0:=hC11
 refine bnK hm fun y33 hf30 hm29=>?_
 have q:=wCg hf30
 obtain ⟨hle31,hf32⟩:=q
 replace hle31:=zF hle31
 refine CK.forN' (fun k28 l25 σ_ w_=>∃ (U_:PHeap) (A26:Option Addr) (c27:Nat),σ_ 14=jV (↑k28:Int)/\σ_ 0=.slice pA0 p0.length pc0/\σ_ 5=.pointer (some ⟨b2,0,none⟩)/\σ_ 6=.slice A26 l25.length c27/\σ_ 12=.slice pA0 p0.length pc0/\σ_ 13=jV (↑p0.length:Int)/\PHeap.Le U9 U_/\sW w U U_ [] w_/\Sl U_ 3 A26 c27 l25.length (hH wAB l25)) hf32 ?_ ?_ ?_
 ·exact ⟨U9,none,0,rfl,rfl,rfl,rfl,rfl,rfl,(zP _),hS13,(by first | exact Sl.nil _ _ _ _ | exact SlR.nil)⟩
 ·rintro k28 l25 xx36 σ34 W35 hk39 ⟨U41,A26,c27,fi40,f44,f45,f46,f47,f48,le42,hS43,h49⟩ hx37
  have c50:Hid ((↑k28:Int) < (↑p0.length:Int)):=zF (wBm hk39)
  replace hk39:=zF hk39
  have hi51:Hid (w64 ((↑k28:Int) + 1)=(↑(k28 + 1):Int)):=zF (by have h1:=hle31.out;have h2:=c50.out;rw [wAa] <;> omega)
  refine sR fL1 Z (oR Z (zY Z fi40 f48) (eN (zH (cT Z c50 (kN (zH (zd (sR (wFK (.fx 3 (.fl 4 (.fx 5 (.nil) .stop)) .stop)) Z (oM Z fi40 (bnK hx37 fun x52 h53 hm54=>?_))))))))))
  have h55:=ha0.le le10
  have h56:=h55.le le42
  have q:=h56.el (fun _=>rfl) (wAw h53)
  obtain ⟨b57,off58,hA59,hC60⟩:=q
  refine oR Z (ZB Z f47 hA59 fi40 zA zC (wCD h53)) (oL Z (hS43.ldCA (f:=0) hC60 Z Z zg zC (us:=[jV x52.Bib,jV x52.Time,jV x52.Gate]) Z Z) (ZG (cs:=[jV 0,jV 0,jV 0]) Z Z Z Z Z zr Z hS43 ?_))
  intro W61 b62 hS63
  refine oA Z Z ?_
  let B1:List Value:=[jV x52.Bib,jV x52.Time,jV x52.Gate]
  refine OKS.st (j:=0) (vs:=B1) Z Z Z Z hS63 Z Z Z Z zC (zV Z) Z Z Z ?_
  intro W65 hS66
  have hS67:sW w U U41 [.blk b62 105 B1] W65:=hS66
  refine eN (sR (wNd (.fx 5 (.fl 6 (.nil)) .stop)) Z (oM Z f44 (oM Z Z (oR Z (zy (zZ Z Z Z) (congrArg (jV) hi51.out)) (bnK hm54 fun x68 h69 hm70=>?_)))))
  have q:=Sl.cutM (sz:=3) (f:=wAB) h56 (fun _=>rfl) h69
  obtain ⟨sl79,ha76,hab78,hb77,hn75⟩:=q
  refine zp (v:=.slice (if pc0=(0:Int).toNat then pA0 else nL (·.add ((0:Int).toNat * 3)) pA0) x68.length (pc0 - (0:Int).toNat)) rfl rfl rfl rfl (fun _=>zy (Runs.slc (sz:=3) (a:=0) (b:=(↑(k28 + 1):Int)) rfl rfl (.inr ⟨rfl,rfl⟩) (.inl ⟨_,rfl,rfl⟩) zA zC ha76 hab78 hb77 (h56).cap) (by rw [hn75])) ?_
  generalize hA_A72:(if pc0=(0:Int).toNat then pA0 else nL (·.add ((0:Int).toNat * 3)) pA0)=A72 at sl79 ⊢
  generalize hc_c73:pc0 - (0:Int).toNat=c73 at sl79 ⊢
  have q:=hS67.freeze (k:=0) rfl
  obtain ⟨U80,le81,hC82,hS83⟩:=q
  replace hC82:=Cl.of hC82
  have hS84:sW w U U80 [] W65:=hS83
  replace hC82:Cl U80 b62 0 B1:=hC82
  refine oR Z (Runs.mkf Z zR (zB f45 (zB Z zR))) ?_
  have h85:=sl79.le le81
  have h86:=hC11.le le42
  have h87:=h86.le le81
  have hF88:FnOK Tryz.prog U80 (.func (.func 139) #[jV p1] #[]) wOh wOi (fun x=>wAJ p1 x.1 x.2):=⟨139,[jV p1],[],rfl,Tryz.call139,fun U1 w1 x y vs le hs ha hm=>by obtain rfl:=ha;exact wBb p1 x.1 x.2 w1 U1 hs  hm⟩
  have hF89:FnOK Tryz.prog U80 (.func (.func 232) #[] #[.pointer (some ⟨b2,0,none⟩),.pointer (some ⟨b62,0,none⟩)]) wIq wIr (fun x=>wAm x (fun x=>wAJ p1 x.1 x.2) x52):=⟨232,[],[.pointer (some ⟨b2,0,none⟩),.pointer (some ⟨b62,0,none⟩)],rfl,Tryz.call232,fun U1 w1 x y vs le hs ha hm=>by obtain rfl:=ha;exact wEx x (fun x=>wAJ p1 x.1 x.2) b2 (.func (.func 139) #[jV p1] #[]) x52 b62 w1 U1 hs (h87.le le) (hF88.le le) (hC82.le le) hm⟩
  refine bnK hm70 fun x90 h91 hm92=>zM 0 Z Z Z Z (zN Z Z Tryz.call65 (zB Z (zB Z zR)) Z) hS84 (fun hs=>wAY x68 A72 c73 (fun x=>wAm x (fun x=>wAJ p1 x.1 x.2) x52) (.func (.func 232) #[] #[.pointer (some ⟨b2,0,none⟩),.pointer (some ⟨b62,0,none⟩)]) W65 U80 hs h85 hF89 h91) (.inr Z) ?_
  rintro U93 L94 v95 W96 le97 hS98 ⟨rfl,rfl⟩
  have hS99:sW w U U93 [] W96:=hS98
  refine oA Z Z (eN (sR fL7 Z (oM Z Z (oR Z (zy (zZ Z Z Z) (congrArg (jV) hi51.out)) (oM Z Z (oR Z (Runs.subw Z Z Z) (oM Z f46 (oR Z (zk Z Z zA) (oR Z (Runs.gtr Z Z Z) (eN (ifc hm92 ?_ ?_)))))))))))
  ·intro c100 hm101
   refine cT Z c100 (rR fL6 Z (oM Z f44 (oM Z Z (oM Z Z (oR Z (zy (zZ Z Z Z) (congrArg (jV) hi51.out)) (bnK hm101 fun x102 h103 hm104=>?_))))))
   have h114:=h56.le le81
   have h115:=h114.le le97
   have q:=Sl.cutM (sz:=3) (f:=wAB) h115 (fun _=>rfl) h103
   obtain ⟨sl113,ha110,hab112,hb111,hn109⟩:=q
   refine zp (v:=.slice (if pc0=(x90:Int).toNat then pA0 else nL (·.add ((x90:Int).toNat * 3)) pA0) x102.length (pc0 - (x90:Int).toNat)) rfl rfl rfl rfl (fun _=>zy (Runs.slc (sz:=3) (a:=x90) (b:=(↑(k28 + 1):Int)) rfl rfl (.inl ⟨_,rfl,rfl⟩) (.inl ⟨_,rfl,rfl⟩) zA zC ha110 hab112 hb111 (h115).cap) (by rw [hn109])) ?_
   generalize hA_A106:(if pc0=(x90:Int).toNat then pA0 else nL (·.add ((x90:Int).toNat * 3)) pA0)=A106 at sl113 ⊢
   generalize hc_c107:pc0 - (x90:Int).toNat=c107 at sl113 ⊢
   refine oA Z Z (zo (zn (zK (rR fL2 Z (oR Z (zy (zZ Z fi40 Z) (congrArg (jV) hi51.out)) (oM Z Z (zo ?_)))))))
   cases hm104
   exact zK ⟨Z,⟨U93,A106,c107,Z,f44,f45,Z,f47,f48,((le42.trans le81).trans le97),hS99,sl113⟩⟩
  ·intro c100 hm119
   refine cF Z c100 (CK.skip (zn (zK (rR fL2 Z (oR Z (zy (zZ Z fi40 Z) (congrArg (jV) hi51.out)) (oM Z Z (zo ?_)))))))
   cases hm119
   have h123:=h49.le le81
   have h124:=h123.le le97
   exact zK ⟨Z,⟨U93,A26,c27,Z,f44,f45,f46,f47,f48,((le42.trans le81).trans le97),hS99,h124⟩⟩
 ·rintro σ125 W126 ⟨U134,A132,c133,fi128,f137,f138,f139,f140,f141,le135,hS136,h142⟩
  have c143:Hid (¬ ((↑(((↑p0.length:Int):Int) - 0).toNat:Int) < (↑p0.length:Int))):=zF (wBL)
  refine sR fL1 Z (oR Z (zY Z fi128 f141) (eN (zH (cF Z c143 (ZD (zl (zl (ZA (zK (sR fL2 Z (oM Z f139 (oA Z Z (eN (zL ?_))))))))))))))
  have hE:=nA hm29;first | subst r | cases hE
  exact ⟨Z,_,(ze Z),U134,_,hS136,A132,c133,Z,Z,h142⟩
theorem wDY (p0:List wAA) (pA0:Option Addr) (pc0:Nat) (p1:Int) (w:World) (U:PHeap) (hS:St0 w U []) (ha0:Sl U 3 pA0 pc0 p0.length (hH wAB p0)) {r:Int × Int} (hm:wAp p0 p1=some r):Gv Tryz.prog 47 [.slice pA0 p0.length pc0,jV p1] w (wCo w [] U (fun U_ L_ v=>v=.tuple #[jV r.1,jV r.2]/\L_=[])):=by
 unfold wAp at hm
 refine Gv.of Tryz.func47 Z Tryz.ntmps47 Tryz.results47 Z (sR fL2 Z (oA Z Z (oA Z Z (eN (zH (sR (.fl 0 (.fl 1 (.fx 2 (.fl 3 (.nil)) .stop))) Z (oM Z Z (oM Z Z (bnK hm fun x1 h2 hm3=>zM 0 Z Z Z Z (zN Z Z Tryz.call136 (zB Z (zB Z zR)) Z) hS (fun hs=>wBT p0 pA0 pc0 p1 w U hs ha0 h2) (.inr Z) ?_)))))))))
 rintro U4 L5 v6 W7 le8 hS9 ⟨rfl,rfl⟩
 have hS10:sW w U U4 [] W7:=hS9
 refine oA Z Z (eN (sR fL2 Z (oM Z Z (oR Z (zz Z Z Z) (eN (ifc hm3 ?_ ?_))))))
 ·intro c11 hm12
  refine zq (zX (fun h=>h c11.out)) (kN (sR (.fl 0 (.fl 1 (.fx 2 (wOx (.nil)) .stop))) Z (oM Z Z (oM Z Z ?_))))
  have h13:=ha0.le le8
  refine bnK hm12 fun x14 h15 hm16=>zM 0 Z Z Z Z (zN Z Z Tryz.call137 (zB Z (zB Z zR)) Z) hS10 (fun hs=>wCO p0 pA0 pc0 p1 W7 U4 hs h13 h15) (.inr Z) ?_
  rintro U17 L18 v19 W20 le21 hS22 ⟨A23,c24,rfl,rfl,h25⟩
  have hS26:sW w U U17 [] W20:=hS22
  refine oR Z (zk Z Z zA) (oA Z Z (oA Z Z (eN (zL ?_))))
  cases hm16
  exact ⟨Z,_,(wHo Z Z),U17,_,hS26,Z,Z⟩
 ·intro c11 hm27
  refine cT Z c11 (sR fL3 Z (oM Z Z (oA Z Z (oA Z Z (eN (zL (zG ?_)))))))
  cases hm27
  exact ⟨Z,_,(wHo Z Z),U4,_,hS10,Z,Z⟩
end Go.Proofs.YthbficbpebiekaaGreat
namespace Go.Proofs.YthbficbpebiekaaGreat
open Go.KL
set_option maxHeartbeats 4000000
theorem wBF (p0:List wAA) (pA0:Option Addr) (pc0:Nat) (w:World) (U:PHeap) (hS:St0 w U []) (ha0:Sl U 3 pA0 pc0 p0.length (hH wAB p0)) {r:(List wAA)} (hm:wAH p0=some r):Gv Tryz.prog 138 [.slice pA0 p0.length pc0] w (wCo w [] U (fun U_ L_ v=>∃ (A0:Option Addr) (c0:Nat),v=.slice A0 r.length c0/\L_=[.row A0 c0 105 3 (hH wAB r)])):=by
 unfold wAH at hm
 refine Gv.of Tryz.func138 Z Tryz.ntmps138 Tryz.results138 Z (sR fL1 Z (oA Z Z (eN (zH (sR fL2 Z (oM Z Z (oR Z (Runs.eqNil Z Z Z zA) (eN ?_))))))))
 by_cases c1:pA0.isNone=true
 ·replace c1:=zF c1
  have hp2:p0=[]:=List.eq_nil_of_length_eq_zero (Sl.nilA (Option.isNone_iff_eq_none.1 c1.out ▸ ha0))
  have hm3:(some [])=some r:=by simpa [hp2,app] using hm
  refine zi (congrArg nB c1.out) (sR fL1 Z (oA Z Z (eN (zL (zG ?_)))))
  have hS4:=hS.nilrow 105 3
  cases hm3
  exact ⟨Z,_,(ze Z),U,_,hS4,none,0,Z,Z⟩
 ·replace c1:=zF c1
  refine zq (congrArg nB (nD.2 c1.out)) (kN (sR (.fx 0 (.fl 1 (.fx 2 (.fl 3 (.nil)) .stop)) .stop) Z (OKS.buildSlice0 3 Z Z Z Z Z zA zC hS ?_)))
  intro W6 b7 hS8
  have hS10:sW w U U [.row (some ⟨b7,0,none⟩) 0 105 3 (hH wAB ([]:List wAA))] W6:=hS8
  refine oM Z Z (bnK hm fun x11 h12 hm13=>zw (j:=0) (enc:=wAB) (xs:=([]:List wAA)) (ys:=p0) (zs:=x11) Z Z Z Z Z Tryz.underlying95 wFw Z Z Z Z Z Z hS10 Z Z Z (hS10.srcS ha0) (fun _=>Z) (fun _=>Z) h12 Z ?_)
  intro A14 c15 W16 hS17
  have hS18:sW w U U [.row A14 c15 105 3 (hH wAB x11)] W16:=hS17
  refine oA Z Z (eN (zL ?_))
  have hE:=nA hm13;first | subst r | cases hE
  exact ⟨Z,_,(ze Z),U,_,hS18,A14,c15,Z,Z⟩
theorem wFy (p0:List wAA) (pA0:Option Addr) (pc0:Nat) (p1:Int) (w:World) (U:PHeap) (hS:St0 w U []) (ha0:Sl U 3 pA0 pc0 p0.length (hH wAB p0)) {r:(List wAA) × Int} (hm:wBD p0 p1=some r):Gv Tryz.prog 48 [.slice pA0 p0.length pc0,jV p1] w (wCo w [] U (fun U_ L_ v=>∃ (A0:Option Addr) (c0:Nat),v=.tuple #[.slice A0 r.1.length c0,jV r.2]/\L_=[.row A0 c0 105 3 (hH wAB r.1)])):=by
 unfold wBD at hm
 refine Gv.of Tryz.func48 Z Tryz.ntmps48 Tryz.results48 Z (sR fL2 Z (oA Z Z (oA Z Z (eN (zH (sR (.fl 0 (.fl 1 (.fx 2 (.fl 3 (.nil)) .stop))) Z (oM Z Z (oM Z Z (bnK hm fun x1 h2 hm3=>zM 0 Z Z Z Z (zN Z Z Tryz.call136 (zB Z (zB Z zR)) Z) hS (fun hs=>wBT p0 pA0 pc0 p1 w U hs ha0 h2) (.inr Z) ?_)))))))))
 rintro U4 L5 v6 W7 le8 hS9 ⟨rfl,rfl⟩
 have hS10:sW w U U4 [] W7:=hS9
 refine oA Z Z (eN (sR fL2 Z (oM Z Z (oR Z (zz Z Z Z) (eN (ifc hm3 ?_ ?_))))))
 ·intro c11 hm12
  refine zq (zX (fun h=>h c11.out)) (kN (sR (.fl 0 (.fl 1 (.fx 2 (.fl 3 (.fl 4 (.nil))) .stop))) Z (oM Z Z (oM Z Z ?_))))
  have h13:=ha0.le le8
  refine bnK hm12 fun x14 h15 hm16=>zM 0 Z Z Z Z (zN Z Z Tryz.call137 (zB Z (zB Z zR)) Z) hS10 (fun hs=>wCO p0 pA0 pc0 p1 W7 U4 hs h13 h15) (.inr Z) ?_
  rintro U17 L18 v19 W20 le21 hS22 ⟨A23,c24,rfl,rfl,h25⟩
  have hS26:sW w U U17 [] W20:=hS22
  refine oR Z (zk Z Z zA) (oA Z Z (eN (sR (.fl 0 (.fx 1 (.fl 2 (.nil)) .stop)) Z (oM Z Z ?_))))
  have h27:=h13.le le21
  refine bnK hm16 fun x28 h29 hm30=>zM 0 Z Z Z Z (zN Z Z Tryz.call138 (zB Z zR) Z) hS26 (fun hs=>wBF p0 pA0 pc0 W20 U17 hs h27 h29) (.inr Z) ?_
  rintro U31 L32 v33 W34 le35 hS36 ⟨A37,c38,rfl,rfl⟩
  have hS40:sW w U U31 [.row A37 c38 105 3 (hH wAB x28)] W34:=hS36
  refine oA Z Z (eN (zH (sR fL3 Z (oM Z Z (oR Z (zk Z Z zA) (oM Z Z (eN (zd (bnK hm30 fun y52 hf49 hm48=>?_)))))))))
  have q:=wCg hf49
  obtain ⟨hle50,hf51⟩:=q
  replace hle50:=zF hle50
  refine CK.forN' (fun k47 l46 σ_ w_=>∃ (U_:PHeap),σ_ 24=jV (↑k47:Int)/\σ_ 7=jV (↑x14.length:Int)/\σ_ 8=.slice A37 l46.length c38/\σ_ 23=jV (↑x28.length:Int)/\PHeap.Le U31 U_/\sW w U U_ [.row A37 c38 105 3 (hH wAB l46)] w_/\l46.length=x28.length) hf51 ?_ ?_ ?_
  ·exact ⟨U31,Z,Z,Z,Z,(zP _),hS40,Z⟩
  ·rintro k47 l46 xx55 σ53 W54 hk58 ⟨U60,fi59,f63,f64,f65,le61,hS62,h66⟩ hx56
   have c67:Hid ((↑k47:Int) < (↑x28.length:Int)):=zF (wBm hk58)
   replace hk58:=zF hk58
   have hi68:Hid (w64 ((↑k47:Int) + 1)=(↑(k47 + 1):Int)):=zF (by have h1:=hle50.out;have h2:=c67.out;rw [wAa] <;> omega)
   refine sR fL1 Z (oR Z (zY Z fi59 f65) (eN (zH (cT Z c67 (kN (zH (zd (sR fL2 Z (oM Z fi59 (oA Z Z (eN (rR (wOt (.fx 8 (.nil) .stop)) Z (oM Z f64 (oM Z Z (oM Z Z (oM Z f63 (bnK hx56 fun x69 h70 hm71=>oR Z (Runs.rem Z Z Z h70) (oR Z (zZ Z Z Z) (bnK hm71 fun _ h72 hm73=>?_)))))))))))))))))))
   obtain ⟨b74,hA75⟩:=hS62.rowSome (j:=0) rfl (by rw [wAG (f:=wAB) (sz:=3) (fun _=>rfl) l46];have hz:=wCC h72;omega)
   refine oR Z (ZB Z Z hA75 Z zA zC (wCC h72)) (oR Z (zh Z Z zI Z zD) ?_)
   have hg76:=wBh (xs:=l46) (wCC h72)
   refine OKS.stR (j:=0) (vs:=[jV (w64 (x69 + 1))]) (cs':=hH wAB (nG l46 k47 (⟨(gd l46 k47).Bib,(gd l46 k47).Time,w64 (x69 + 1)⟩:wAA))) rfl rfl rfl rfl hS62 rfl hA75 rfl rfl rfl zD (by rw [wAG (f:=wAB) (sz:=3) (fun _=>rfl)];have hz:=wCC h72;simp only [nK,nI,nJ,List.length_cons,List.length_nil];omega) rfl (wJI (sz:=3) (fo:=2) (fun _=>rfl) _ _ _ _ hg76 (by first | omega | (simp only [nK,nI,nJ];omega)) (zV rfl) rfl) rfl ?_
   intro W77 hS78
   have hS79:sW w U U60 [.row A37 c38 105 3 (hH wAB (nG l46 k47 (⟨(gd l46 k47).Bib,(gd l46 k47).Time,w64 (x69 + 1)⟩:wAA)))] W77:=hS78
   refine zo (zn (zK (rR fL2 Z (oR Z (zy (zZ Z fi59 Z) (congrArg (jV) hi68.out)) (oM Z Z (zo ?_))))))
   cases hm73
   exact zK ⟨rfl,⟨U60,rfl,f63,(nO (b:=(.slice A37 l46.length c38:Value)) (c:=(.slice A37 ((nG l46 k47 (⟨(gd l46 k47).Bib,(gd l46 k47).Time,w64 (x69 + 1)⟩:wAA)).length) c38:Value)) f64 (by simp only [nH])),f65,le61,hS79,(by simp only [nH];exact h66)⟩⟩
  ·rintro σ81 W82 ⟨U86,fi84,f89,f90,f91,le87,hS88,h92⟩
   have c93:Hid (¬ ((↑(((↑x28.length:Int):Int) - 0).toNat:Int) < (↑x28.length:Int))):=zF (wBL)
   refine sR fL1 Z (oR Z (zY Z fi84 f91) (eN (zH (cF Z c93 (ZD (zl (zl (ZA (zK (sR fL3 Z (oM Z f90 (oA Z Z (oA Z Z (eN (zL ?_)))))))))))))))
   cases hm48
   exact ⟨Z,_,(wHo Z Z),U86,_,hS88,A37,c38,Z,Z⟩
 ·intro c11 hm94
  refine cT Z c11 (sR fL3 Z (oM Z Z (oA Z Z (oA Z Z (eN (zL (zG ?_)))))))
  have hS95:=hS10.nilrow 105 3
  cases hm94
  exact ⟨Z,_,(wHo Z Z),U4,_,hS95,none,0,Z,Z⟩
theorem wFz (p0:List wAA) (pA0:Option Addr) (pc0:Nat) (p1:Int) (w:World) (U:PHeap) (hS:St0 w U []) (ha0:Sl U 3 pA0 pc0 p0.length (hH wAB p0)) {r:(List Int) × Int} (hm:wBE p0 p1=some r):Gv Tryz.prog 49 [.slice pA0 p0.length pc0,jV p1] w (wCo w [] U (fun U_ L_ v=>∃ (A0:Option Addr) (c0:Nat),v=.tuple #[.slice A0 r.1.length c0,jV r.2]/\L_=[.row A0 c0 3 1 (hH KL.encI r.1)])):=by
 unfold wBE at hm
 refine Gv.of Tryz.func49 Z Tryz.ntmps49 Tryz.results49 Z (sR fL2 Z (oA Z Z (oA Z Z (eN (zH (sR (.fl 0 (.fl 1 (.fx 2 (.fl 3 (.nil)) .stop))) Z (oM Z Z (oM Z Z (bnK hm fun x1 h2 hm3=>zM 0 Z Z Z Z (zN Z Z Tryz.call136 (zB Z (zB Z zR)) Z) hS (fun hs=>wBT p0 pA0 pc0 p1 w U hs ha0 h2) (.inr Z) ?_)))))))))
 rintro U4 L5 v6 W7 le8 hS9 ⟨rfl,rfl⟩
 have hS10:sW w U U4 [] W7:=hS9
 refine oA Z Z (eN (sR fL2 Z (oM Z Z (oR Z (zz Z Z Z) (eN (ifc hm3 ?_ ?_))))))
 ·intro c11 hm12
  refine zq (zX (fun h=>h c11.out)) (kN (sR fL1 Z (oA Z Z (eN (zH (sR (.fl 0 (.fl 1 (.fx 2 (.fl 3 (.fl 4 (.nil))) .stop))) Z (oM Z Z (oM Z Z ?_))))))))
  have h13:=ha0.le le8
  refine bnK hm12 fun x14 h15 hm16=>zM 0 Z Z Z Z (zN Z Z Tryz.call137 (zB Z (zB Z zR)) Z) hS10 (fun hs=>wCO p0 pA0 pc0 p1 W7 U4 hs h13 h15) (.inr Z) ?_
  rintro U17 L18 v19 W20 le21 hS22 ⟨A23,c24,rfl,rfl,h25⟩
  have hS26:sW w U U17 [] W20:=hS22
  refine oR Z (zk Z Z zA) (oM Z Z (eN (zd (bnK hm16 fun y49 hf46 hm45=>?_))))
  have q:=wCg hf46
  obtain ⟨hle47,hf48⟩:=q
  replace hle47:=zF hle47
  refine CK.forN' (fun k44 l40 σ_ w_=>∃ (U_:PHeap) (A41:Option Addr) (c42:Nat),σ_ 20=jV (↑k44:Int)/\σ_ 7=.slice A41 l40.length c42/\σ_ 18=.slice A23 x14.length c24/\σ_ 19=jV (↑x14.length:Int)/\PHeap.Le U17 U_/\sW w U U_ [.row A41 c42 3 1 (hH KL.encI l40)] w_) hf48 ?_ ?_ ?_
  ·have hS50:=hS26.nilrow 3 1
   exact ⟨U17,none,0,Z,Z,Z,Z,(zP _),hS50⟩
  ·rintro k44 l40 xx54 σ52 W53 hk57 ⟨U59,A41,c42,fi58,f62,f63,f64,le60,hS61⟩ hx55
   have c65:Hid ((↑k44:Int) < (↑x14.length:Int)):=zF (wBm hk57)
   replace hk57:=zF hk57
   have hi66:Hid (w64 ((↑k44:Int) + 1)=(↑(k44 + 1):Int)):=zF (by have h1:=hle47.out;have h2:=c65.out;rw [wAa] <;> omega)
   refine sR fL1 Z (oR Z (zY Z fi58 f64) (eN (zH (cT Z c65 (kN (zH (zd (sR (.fl 0 (.fl 1 (.fx 2 (.fx 3 (.nil) .stop) .stop))) Z (bnK hx55 fun x67 h68 hm69=>?_)))))))))
   have h70:=h25.le le60
   have q:=h70.el (fun _=>rfl) (wAw h68)
   obtain ⟨b71,off72,hA73,hC74⟩:=q
   refine oR Z (ZB Z f63 hA73 fi58 zA zC (wCD h68)) (oL Z (hS61.ldCA (f:=0) hC74 Z Z zg zC (us:=[jV x67.Bib,jV x67.Time,jV x67.Gate]) Z Z) (ZG (cs:=[jV 0,jV 0,jV 0]) Z Z Z Z Z zr Z hS61 ?_))
   intro W75 b76 hS77
   let B0:List Value:=[jV x67.Bib,jV x67.Time,jV x67.Gate]
   refine OKS.st (j:=0) (vs:=B0) Z Z Z Z hS77 Z Z Z Z zC (zV Z) Z Z Z ?_
   intro W79 hS80
   let B1:Res:=.row A41 c42 3 1 (hH KL.encI l40)
   have hS81:sW w U U59 [.blk b76 105 B0,B1] W79:=hS80
   refine eN (rR (wFK (.fx 3 (.fx 4 (.fl 5 (.nil)) .stop) .stop)) Z (oM Z f62 (oR Z (zh Z Z zI Z zD) (oL Z (hS81.ldB (j:=0) Z Z Z zS (v:=jV x67.Bib) Z) (zu (pv:=[(0,jV x67.Bib)]) (zs:=[jV 0]) (cs:=[jV x67.Bib]) Z Z Z Z Z (wAn Z wBM) zO zD zx Z Z Z Z Z hS81 ?_)))))
   intro W82 b83 hS84
   let B2:Res:=.row (some ⟨b83,0,none⟩) 1 3 1 (hH KL.encI [x67.Bib])
   have hS86:sW w U U59 [B2,.blk b76 105 B0,B1] W82:=hS84
   refine bnK hm69 fun x87 h88 hm89=>zw (j:=2) (enc:=KL.encI) (xs:=l40) (ys:=[x67.Bib]) (zs:=x87) rfl rfl rfl rfl rfl zj wDX rfl rfl rfl rfl rfl rfl hS86 rfl rfl rfl (hS86.srcR (j:=0) rfl (by decide) (wAG (f:=KL.encI) (sz:=1) (fun _=>rfl) [x67.Bib])) (fun _=>rfl) (fun _=>rfl) h88 rfl ?_
   intro A90 c91 W92 hS93
   have hS94:sW w U U59 [B2,.blk b76 105 B0,.row A90 c91 3 1 (hH KL.encI x87)] W92:=hS93
   refine oA Z Z (zo (zn (zK (rR fL2 Z (oR Z (zy (zZ Z fi58 Z) (congrArg (jV) hi66.out)) (oM Z Z (zo ?_)))))))
   cases hm89
   exact zK ⟨rfl,⟨U59,A90,c91,rfl,rfl,f63,f64,le60,(hS94.pick [2] _ (by decide) rfl)⟩⟩
  ·rintro σ98 W99 ⟨U107,A105,c106,fi101,f110,f111,f112,le108,hS109⟩
   have c113:Hid (¬ ((↑(((↑x14.length:Int):Int) - 0).toNat:Int) < (↑x14.length:Int))):=zF (wBL)
   refine sR fL1 Z (oR Z (zY Z fi101 f112) (eN (zH (cF Z c113 (ZD (zl (zl (ZA (zK (sR fL3 Z (oM Z f110 (oA Z Z (oA Z Z (eN (zL ?_)))))))))))))))
   cases hm45
   exact ⟨Z,_,(wHo Z Z),U107,_,hS109,A105,c106,Z,Z⟩
 ·intro c11 hm114
  refine cT Z c11 (sR fL3 Z (oM Z Z (oA Z Z (oA Z Z (eN (zL (zG ?_)))))))
  have hS115:=hS10.nilrow 3 1
  cases hm114
  exact ⟨Z,_,(wHo Z Z),U4,_,hS115,none,0,Z,Z⟩
theorem wEy (p0:wAA) (w:World) (U:PHeap) (hS:St0 w U [])  {r:Bool} (hm:wAt p0=some r):Gv Tryz.prog 141 [.agg #[jV p0.Bib,jV p0.Time,jV p0.Gate]] w (wCo w [] U (fun U_ L_ v=>v=.bool r/\L_=[])):=by
 unfold wAt at hm
 refine Gv.of Tryz.func141 rfl Tryz.ntmps141 Tryz.results141 rfl (sR (.fx 0 (.fl 1 (.nil)) .stop) rfl (OKS.box (cs:=[jV p0.Bib,jV p0.Time,jV p0.Gate]) rfl rfl rfl rfl rfl rfl (by rfl) hS ?_))
 intro W1 b2 hS3
 refine oA Z Z (eN (sR fL4 Z (oR Z (zh Z Z zI Z zD) (oL Z (hS3.ldB (j:=0) Z Z Z zS (v:=jV p0.Gate) Z) (oR Z (Runs.gtr Z Z Z) (oA Z Z (eN (zL ?_))))))))
 cases hm
 exact ⟨rfl,_,(ze rfl),U,_,(hS3.pick [] _ (by decide) rfl),rfl,rfl⟩
theorem wDZ (p0:List wAA) (pA0:Option Addr) (pc0:Nat) (p1:Int) (w:World) (U:PHeap) (hS:St0 w U []) (ha0:Sl U 3 pA0 pc0 p0.length (hH wAB p0)) {r:Bool × Int} (hm:wAq p0 p1=some r):Gv Tryz.prog 50 [.slice pA0 p0.length pc0,jV p1] w (wCo w [] U (fun U_ L_ v=>v=.tuple #[.bool r.1,jV r.2]/\L_=[])):=by
 unfold wAq at hm
 refine Gv.of Tryz.func50 Z Tryz.ntmps50 Tryz.results50 Z (sR fL2 Z (oA Z Z (oA Z Z (eN (zH (sR (.fl 0 (.fl 1 (.fx 2 (.fl 3 (.nil)) .stop))) Z (oM Z Z (oM Z Z (bnK hm fun x1 h2 hm3=>zM 0 Z Z Z Z (zN Z Z Tryz.call136 (zB Z (zB Z zR)) Z) hS (fun hs=>wBT p0 pA0 pc0 p1 w U hs ha0 h2) (.inr Z) ?_)))))))))
 rintro U4 L5 v6 W7 le8 hS9 ⟨rfl,rfl⟩
 have hS10:sW w U U4 [] W7:=hS9
 refine oA Z Z (eN (sR fL2 Z (oM Z Z (oR Z (zz Z Z Z) (eN (ifc hm3 ?_ ?_))))))
 ·intro c11 hm12
  refine zq (zX (fun h=>h c11.out)) (kN (zH (sR fL3 Z (oM Z Z (oR Z (zk Z Z zA) (oM Z Z (eN (zd ?_))))))))
  have q:=wCI hm12
  obtain ⟨r15,hX16⟩:=q
  have q:=wCH hX16
  obtain ⟨hle17,hf18⟩:=q
  replace hle17:=zF hle17
  refine CK.forN (fun k14 _ σ_ w_=>∃ (U_:PHeap),σ_ 19=jV (↑k14:Int)/\σ_ 0=.slice pA0 p0.length pc0/\σ_ 1=jV p1/\σ_ 17=.slice pA0 p0.length pc0/\σ_ 18=jV (↑p0.length:Int)/\PHeap.Le U4 U_/\sW w U U_ [] w_) hf18 ?_ ?_ ?_
  ·exact ⟨U4,Z,Z,Z,Z,Z,(zP _),hS10⟩
  ·rintro k14 ⟨⟩ xx21 σ19 W20 hk24 ⟨U26,fi25,f29,f30,f31,f32,le27,hS28⟩ hx22 hb23
   try dsimp only at hx22
   have c33:Hid ((↑k14:Int) < (↑p0.length:Int)):=zF (wBm hk24)
   replace hk24:=zF hk24
   have hi34:Hid (w64 ((↑k14:Int) + 1)=(↑(k14 + 1):Int)):=zF (by have h1:=hle17.out;have h2:=c33.out;rw [wAa] <;> omega)
   refine sR fL1 Z (oR Z (zY Z fi25 f32) (eN (zH (cT Z c33 (kN (zH (zd (sR (wFK (.fx 3 (.fl 4 (.fx 5 (.nil) .stop)) .stop)) Z (oM Z fi25 (bnK hx22 fun x35 h36 hm37=>?_))))))))))
   have h38:=ha0.le le8
   have h39:=h38.le le27
   have q:=h39.el (fun _=>rfl) (wAw h36)
   obtain ⟨b40,off41,hA42,hC43⟩:=q
   refine oR Z (ZB Z f31 hA42 fi25 zA zC (wCD h36)) (oL Z (hS28.ldCA (f:=0) hC43 Z Z zg zC (us:=[jV x35.Bib,jV x35.Time,jV x35.Gate]) Z Z) ?_)
   let B0:List Value:=[jV 0,jV 0,jV 0]
   refine ZG (cs:=B0) Z Z Z Z Z zr Z hS28 ?_
   intro W44 b45 hS46
   refine oA Z Z ?_
   let B1:List Value:=[jV x35.Bib,jV x35.Time,jV x35.Gate]
   refine OKS.st (j:=0) (vs:=B1) Z Z Z Z hS46 Z Z Z Z zC (zV Z) Z Z Z ?_
   intro W48 hS49
   have hS50:sW w U U26 [.blk b45 105 B1] W48:=hS49
   refine eN (sR fL5 Z (oM Z f29 (oM Z Z (bnK hm37 fun x51 h52 hm53=>?_))))
   have q:=Sl.cutM (sz:=3) (f:=wAB) h39 (fun _=>rfl) h52
   obtain ⟨sl62,ha59,hab61,hb60,hn58⟩:=q
   refine zp (v:=.slice (if pc0=(0:Int).toNat then pA0 else nL (·.add ((0:Int).toNat * 3)) pA0) x51.length (pc0 - (0:Int).toNat)) rfl rfl rfl rfl (fun _=>zy (Runs.slc (sz:=3) (a:=0) (b:=(↑k14:Int)) rfl rfl (.inr ⟨rfl,rfl⟩) (.inl ⟨_,rfl,rfl⟩) zA zC ha59 hab61 hb60 (h39).cap) (by rw [hn58])) ?_
   generalize hA_A55:(if pc0=(0:Int).toNat then pA0 else nL (·.add ((0:Int).toNat * 3)) pA0)=A55 at sl62 ⊢
   generalize hc_c56:pc0 - (0:Int).toNat=c56 at sl62 ⊢
   refine oR Z (zk Z Z zA) (oM Z Z (eN (zd ?_)))
   have q:=wCI hm53
   obtain ⟨r65,hX66⟩:=q
   have q:=wCH hX66
   obtain ⟨hle67,hf68⟩:=q
   replace hle67:=zF hle67
   refine CK.forN (fun k64 _ σ_ w_=>∃ (U_:PHeap),σ_ 28=jV (↑k64:Int)/\σ_ 0=.slice pA0 p0.length pc0/\σ_ 1=jV p1/\σ_ 8=.pointer (some ⟨b45,0,none⟩)/\σ_ 17=.slice pA0 p0.length pc0/\σ_ 18=jV (↑p0.length:Int)/\σ_ 19=jV (↑k14:Int)/\σ_ 26=.slice A55 x51.length c56/\σ_ 27=jV (↑x51.length:Int)/\PHeap.Le U26 U_/\sW w U U_ [.blk b45 105 B1] w_) hf68 ?_ ?_ ?_
   ·exact ⟨U26,Z,f29,f30,Z,f31,f32,fi25,Z,Z,(zP _),hS50⟩
   ·rintro k64 ⟨⟩ xx71 σ69 W70 hk74 ⟨U76,fi75,f79,f80,f81,f82,f83,f84,f85,f86,le77,hS78⟩ hx72 hb73
    try dsimp only at hx72
    have c87:Hid ((↑k64:Int) < (↑x51.length:Int)):=zF (wBm hk74)
    replace hk74:=zF hk74
    have hi88:Hid (w64 ((↑k64:Int) + 1)=(↑(k64 + 1):Int)):=zF (by have h1:=hle67.out;have h2:=c87.out;rw [wAa] <;> omega)
    refine sR fL1 Z (oR Z (zY Z fi75 f86) (eN (zH (cT Z c87 (kN (zH (zd (sR (.fl 0 (.fl 1 (.fx 2 (.fx 3 (.nil) .stop) .stop))) Z (bnK hx72 fun x89 h90 hm91=>?_)))))))))
    have h92:=sl62.le le77
    have q:=h92.el (fun _=>rfl) (wAw h90)
    obtain ⟨b93,off94,hA95,hC96⟩:=q
    refine oR Z (ZB Z f85 hA95 fi75 zA zC (wCD h90)) (oL Z (hS78.ldCA (f:=0) hC96 Z Z zg zC (us:=[jV x89.Bib,jV x89.Time,jV x89.Gate]) Z Z) (ZG (cs:=B0) Z Z Z Z Z zr Z hS78 ?_))
    intro W97 b98 hS99
    let B2:List Value:=[jV x89.Bib,jV x89.Time,jV x89.Gate]
    refine OKS.st (j:=0) (vs:=B2) Z Z Z Z hS99 Z Z Z Z zC (zV Z) Z Z Z ?_
    intro W101 hS102
    have hS103:sW w U U76 [.blk b98 105 B2,.blk b45 105 B1] W101:=hS102
    refine eN (sR (wOu (.fx 9 (.fl 10 (.nil)) .stop)) Z (oR Z (zh Z f81 zI Z zD) (oL Z (hS103.ldB (j:=1) Z Z Z zS (v:=jV x35.Gate) Z) (oR Z (zh Z Z zI Z zD) (oL Z (hS103.ldB (j:=0) Z Z Z zS (v:=jV x89.Gate) Z) (oR Z (Runs.eql Z Z Z) (oM Z Z (ifc hm91 ?_ ?_))))))))
    ·intro c104 hm105
     refine zU Z Z Z (wT Z c104) Z f80 (OKS.m Z Z Z (wT Z c104) (hS103.ldBA (j:=1) Z Z f81 zg zC (vs:=B1) Z Z) Z (OKS.m Z Z Z (wT Z c104) (hS103.ldBA (j:=0) Z Z Z zg zC (vs:=B2) Z Z) Z (bnK hm105 fun x106 h107 hm108=>zM 0 Z Z Z (wT Z c104) (zN Z Z Tryz.call139 (zB Z (zB Z (zB Z zR))) Z) hS103 (fun hs=>wBb p1 x35 x89 W101 U76 hs h107) (.inr Z) ?_)))
     rintro U109 L110 v111 W112 le113 hS114 ⟨rfl,rfl⟩
     have hS115:sW w U U109 [.blk b98 105 B2,.blk b45 105 B1] W112:=hS114
     refine oR Z (zE Z (wDq c104.out) Z) (eN (ifc hm108 ?_ ?_))
     ·intro c116 hm117
      refine zi (congrArg nB c116.out) (sR fL2 Z (oA Z Z (oA Z Z (eN (zL (zW (zG ?_)))))))
      have q:=wAo hm117
      obtain ⟨v118,hm119,e120⟩:=q
      obtain rfl:=wBl hm53 hX66 (hb73 v118 e120)
      refine zG (zW (zW (zG ?_)))
      have q:=wAo hm119
      obtain ⟨v121,hm122,e123⟩:=q
      obtain rfl:=wBl hm12 hX16 (hb23 v121 e123)
      refine zG (zW (zG ?_))
      cases hm122
      exact ⟨rfl,_,(wHo rfl rfl),U109,_,(hS115.pick [] _ (by decide) rfl),rfl,rfl⟩
     ·intro c116 hm124
      refine zq (congrArg nB (nD.2 c116.out)) (CK.skip (zn (zK (rR fL2 Z (oR Z (zy (zZ Z fi75 Z) (congrArg (jV) hi88.out)) (oM Z Z (zo ?_)))))))
      obtain rfl:=nA hm124
      exact zK ⟨rfl,_,rfl,⟨U109,rfl,f79,f80,f81,f82,f83,f84,f85,f86,(le77.trans le113),(hS115.pick [1] _ (by decide) rfl)⟩⟩
    ·intro c104 hm125
     refine oF Z c104 (oF Z c104 (oF Z c104 (OKS.px Z Z Z (zm Z Z (zX c104.out) Z) (oR Z (zQ Z (zX c104.out) Z) (eN (zq Z (CK.skip (zn (zK (rR fL2 Z (oR Z (zy (zZ Z fi75 Z) (congrArg (jV) hi88.out)) (oM Z Z (zo ?_)))))))))))))
     obtain rfl:=nA hm125
     exact zK ⟨rfl,_,rfl,⟨U76,rfl,f79,f80,f81,f82,f83,f84,f85,f86,le77,(hS103.pick [1] _ (by decide) rfl)⟩⟩
   ·rintro ⟨⟩ σ126 W127 ⟨U130,fi129,f133,f134,f135,f136,f137,f138,f139,f140,le131,hS132⟩ hb128
    have hm141:=wDP hm53 hX66 hb128
    try dsimp only at hm141
    have c142:Hid (¬ ((↑(((↑x51.length:Int):Int) - 0).toNat:Int) < (↑x51.length:Int))):=zF (wBL)
    refine sR fL1 Z (oR Z (zY Z fi129 f140) (eN (zH (cF Z c142 (ZD (zl (zl (ZA (zn (zK (rR fL2 Z (oR Z (zy (zZ Z f138 Z) (congrArg (jV) hi34.out)) (oM Z Z (zo ?_))))))))))))))
    obtain rfl:=nA hm141
    exact zK ⟨rfl,_,rfl,⟨U130,rfl,f133,f134,f136,f137,(le27.trans le131),(hS132.pick [] _ (by decide) rfl)⟩⟩
  ·rintro ⟨⟩ σ143 W144 ⟨U147,fi146,f150,f151,f152,f153,le148,hS149⟩ hb145
   have hm154:=wDP hm12 hX16 hb145
   try dsimp only at hm154
   have c155:Hid (¬ ((↑(((↑p0.length:Int):Int) - 0).toNat:Int) < (↑p0.length:Int))):=zF (wBL)
   refine sR fL1 Z (oR Z (zY Z fi146 f153) (eN (zH (cF Z c155 (ZD (zl (zl (ZA (zK (sR (.fl 0 (.fx 1 (.fl 2 (.fl 3 (.nil))) .stop)) Z (oM Z f150 ?_)))))))))))
   have h156:=ha0.le le8
   have h157:=h156.le le148
   have hF158:FnOK Tryz.prog U147 (.func (.func 141) #[] #[]) wIq wIr wAt:=⟨141,[],[],rfl,Tryz.call141,fun U1 w1 x y vs le hs ha hm=>by obtain rfl:=ha;exact wEy x w1 U1 hs  hm⟩
   refine bnK hm154 fun x159 h160 hm161=>zM 0 Z Z Z Z (zN Z Z Tryz.call140 (zB Z (zB Z zR)) Z) hS149 (fun hs=>wBS p0 pA0 pc0 wAt (.func (.func 141) #[] #[]) W144 U147 hs h157 hF158 h160) (.inr Z) ?_
   rintro U162 L163 v164 W165 le166 hS167 ⟨rfl,rfl⟩
   have hS168:sW w U U162 [] W165:=hS167
   refine oA Z Z (oA Z Z (eN (zL ?_)))
   cases hm161
   exact ⟨Z,_,(wHo Z Z),U162,_,hS168,Z,Z⟩
 ·intro c11 hm169
  refine cT Z c11 (sR fL3 Z (oM Z Z (oA Z Z (oA Z Z (eN (zL (zG ?_)))))))
  cases hm169
  exact ⟨Z,_,(wHo Z Z),U4,_,hS10,Z,Z⟩
theorem wEE (p0:wAA) (p1:Int) (pb1:Nat) (w:World) (U:PHeap) (hS:St0 w U []) (ha0:Cl U pb1 0 [jV p1]) {r:Bool} (hm:wAd p0 p1=some r):Gv Tryz.prog 142 [.agg #[jV p0.Bib,jV p0.Time,jV p0.Gate],.pointer (some ⟨pb1,0,none⟩)] w (wCo w [] U (fun U_ L_ v=>v=.bool r/\L_=[])):=by
 unfold wAd at hm
 refine Gv.of Tryz.func142 rfl Tryz.ntmps142 Tryz.results142 rfl (sR (.fx 0 (.fl 1 (.nil)) .stop) rfl (OKS.box (cs:=[jV p0.Bib,jV p0.Time,jV p0.Gate]) rfl rfl rfl rfl rfl rfl (by rfl) hS ?_))
 intro W1 b2 hS3
 refine oA Z Z (eN (sR fL5 Z (oR Z (zh Z Z zI Z zD) (oL Z (hS3.ldB (j:=0) Z Z Z zS (v:=jV p0.Bib) Z) (oL Z (hS3.ldC (f:=0) ha0 (v:=jV p1) Z Z zS Z) (oR Z (Runs.eql Z Z Z) (oA Z Z (eN (zL ?_)))))))))
 cases hm
 exact ⟨rfl,_,(ze rfl),U,_,(hS3.pick [] _ (by decide) rfl),rfl,rfl⟩
theorem wCq (p0:List wAA) (pA0:Option Addr) (pc0:Nat) (p1:Int) (p2:List Int) (pA2:Option Addr) (pc2:Nat) (w:World) (U:PHeap) (hS:St0 w U []) (ha0:Sl U 3 pA0 pc0 p0.length (hH wAB p0)) (ha1:Sl U 1 pA2 pc2 p2.length (hH KL.encI p2)) {r:Bool × Int} (hm:wAi p0 p1 p2=some r):Gv Tryz.prog 51 [.slice pA0 p0.length pc0,jV p1,.slice pA2 p2.length pc2] w (wCo w [] U (fun U_ L_ v=>v=.tuple #[.bool r.1,jV r.2]/\L_=[])):=by
 unfold wAi at hm
 refine Gv.of Tryz.func51 Z Tryz.ntmps51 Tryz.results51 Z (sR fL2 Z (oA Z Z (oA Z Z (eN (zH (sR (.fl 0 (.fl 1 (.fx 2 (.fl 3 (.nil)) .stop))) Z (oM Z Z (oM Z Z (bnK hm fun x1 h2 hm3=>zM 0 Z Z Z Z (zN Z Z Tryz.call136 (zB Z (zB Z zR)) Z) hS (fun hs=>wBT p0 pA0 pc0 p1 w U hs ha0 h2) (.inr Z) ?_)))))))))
 rintro U4 L5 v6 W7 le8 hS9 ⟨rfl,rfl⟩
 have hS10:sW w U U4 [] W7:=hS9
 refine oA Z Z (eN (sR fL2 Z (oM Z Z (oR Z (zz Z Z Z) (eN (ifc hm3 ?_ ?_))))))
 ·intro c11 hm12
  refine zq (zX (fun h=>h c11.out)) (kN (sR fL1 Z (oA Z Z (eN (zH (sR fL3 Z (oM Z Z (oR Z (zk Z Z zO) (oM Z Z (eN (zd ?_)))))))))))
  have q:=wCI hm12
  obtain ⟨r31,hX32⟩:=q
  have q:=wCH hX32
  obtain ⟨hle33,hf34⟩:=q
  replace hle33:=zF hle33
  refine CK.forN (fun k30 l26 σ_ w_=>∃ (U_:PHeap) (A27:Option Addr) (c28:Nat),σ_ 23=jV (↑k30:Int)/\σ_ 0=.slice pA0 p0.length pc0/\σ_ 1=jV p1/\σ_ 9=.slice A27 l26.length c28/\σ_ 21=.slice pA2 p2.length pc2/\σ_ 22=jV (↑p2.length:Int)/\PHeap.Le U4 U_/\sW w U U_ [.row A27 c28 105 3 (hH wAB l26)] w_) hf34 ?_ ?_ ?_
  ·have hS35:=hS10.nilrow 105 3
   exact ⟨U4,none,0,Z,Z,Z,Z,Z,Z,(zP _),hS35⟩
  ·rintro k30 l26 xx39 σ37 W38 hk42 ⟨U44,A27,c28,fi43,f47,f48,f49,f50,f51,le45,hS46⟩ hx40 hb41
   have c52:Hid ((↑k30:Int) < (↑p2.length:Int)):=zF (wBm hk42)
   replace hk42:=zF hk42
   have hi53:Hid (w64 ((↑k30:Int) + 1)=(↑(k30 + 1):Int)):=zF (by have h1:=hle33.out;have h2:=c52.out;rw [wAa] <;> omega)
   refine sR fL1 Z (oR Z (zY Z fi43 f51) (eN (zH (cT Z c52 (kN (zH (zd (sR (.fl 0 (.fl 1 (.fx 2 (.fx 3 (.nil) .stop) .stop))) Z (bnK hx40 fun x54 h55 hm56=>?_)))))))))
   have h57:=ha1.le le8
   have h58:=h57.le le45
   have q:=h58.el (fun _=>rfl) (wAw h55)
   obtain ⟨b59,off60,hA61,hC62⟩:=q
   refine oR Z (ZB Z f50 hA61 fi43 zO zD (wCD h55)) (oL Z (hS46.ldC (f:=0) hC62 (v:=jV x54) Z Z zS Z) (ZG (cs:=[jV 0]) Z Z Z Z Z zx Z hS46 ?_))
   intro W63 b64 hS65
   refine OKS.st (j:=0) (vs:=[jV x54]) Z Z Z Z hS65 Z Z Z Z zD (zV Z) Z Z Z ?_
   intro W67 hS68
   let B0:Res:=.row A27 c28 105 3 (hH wAB l26)
   have hS69:sW w U U44 [.blk b64 3 [jV x54],B0] W67:=hS68
   refine eN (sR (.fl 0 (.fl 1 (.fx 2 (.fl 3 (.nil)) .stop))) Z (oM Z f47 ?_))
   have q:=hS69.freeze (k:=0) rfl
   obtain ⟨U70,le71,hC72,hS73⟩:=q
   replace hC72:=Cl.of hC72
   have hS74:sW w U U70 [B0] W67:=hS73
   replace hC72:Cl U70 b64 0 [jV x54]:=hC72
   refine oR Z (Runs.mkf Z zR (zB Z zR)) ?_
   have h75:=ha0.le le8
   have h76:=h75.le le45
   have h77:=h76.le le71
   have hF78:FnOK Tryz.prog U70 (.func (.func 142) #[] #[.pointer (some ⟨b64,0,none⟩)]) wIq wIr (fun x=>wAd x x54):=⟨142,[],[.pointer (some ⟨b64,0,none⟩)],rfl,Tryz.call142,fun U1 w1 x y vs le hs ha hm=>by obtain rfl:=ha;exact wEE x x54 b64 w1 U1 hs (hC72.le le) hm⟩
   refine bnK hm56 fun x79 h80 hm81=>zM 0 Z Z Z Z (zN Z Z Tryz.call65 (zB Z (zB Z zR)) Z) hS74 (fun hs=>wAY p0 pA0 pc0 (fun x=>wAd x x54) (.func (.func 142) #[] #[.pointer (some ⟨b64,0,none⟩)]) W67 U70 hs h77 hF78 h80) (.inr Z) ?_
   rintro U82 L83 v84 W85 le86 hS87 ⟨rfl,rfl⟩
   have hS88:sW w U U82 [B0] W85:=hS87
   refine oA Z Z (eN (zH (sR fL2 Z (oM Z Z (oR Z (zY Z Z Z) (eN (ifc hm81 ?_ ?_)))))))
   ·intro c89 hm90
    refine cT Z c89 (sR fL2 Z (oA Z Z (oA Z Z (eN (zL (zG (zW (zG ?_))))))))
    have q:=wAo hm90
    obtain ⟨v91,hm92,e93⟩:=q
    obtain rfl:=wBl hm12 hX32 (hb41 v91 e93)
    refine zG (zW (zG ?_))
    cases hm92
    exact ⟨rfl,_,(wHo rfl rfl),U82,_,(hS88.pick [] _ (by decide) rfl),rfl,rfl⟩
   ·intro c89 hm94
    refine cF Z c89 (kN (zH (sR fL3 Z (oM Z f49 (oR Z (zk Z Z zA) (oM Z Z (eN (zd ?_))))))))
    have q:=wCI hm94
    obtain ⟨r98,hX99⟩:=q
    have q:=wCH hX99
    obtain ⟨hle100,hf101⟩:=q
    replace hle100:=zF hle100
    refine CK.forN (fun k97 _ σ_ w_=>∃ (U_:PHeap),σ_ 34=jV (↑k97:Int)/\σ_ 0=.slice pA0 p0.length pc0/\σ_ 1=jV p1/\σ_ 9=.slice A27 l26.length c28/\σ_ 12=jV x79/\σ_ 21=.slice pA2 p2.length pc2/\σ_ 22=jV (↑p2.length:Int)/\σ_ 23=jV (↑k30:Int)/\σ_ 32=.slice A27 l26.length c28/\σ_ 33=jV (↑l26.length:Int)/\PHeap.Le U82 U_/\sW w U U_ [B0] w_) hf101 ?_ ?_ ?_
    ·exact ⟨U82,Z,f47,f48,f49,Z,f50,f51,fi43,Z,Z,(zP _),hS88⟩
    ·rintro k97 ⟨⟩ xx104 σ102 W103 hk107 ⟨U109,fi108,f112,f113,f114,f115,f116,f117,f118,f119,f120,le110,hS111⟩ hx105 hb106
     try dsimp only at hx105
     have c121:Hid ((↑k97:Int) < (↑l26.length:Int)):=zF (wBm hk107)
     replace hk107:=zF hk107
     have hi122:Hid (w64 ((↑k97:Int) + 1)=(↑(k97 + 1):Int)):=zF (by have h1:=hle100.out;have h2:=c121.out;rw [wAa] <;> omega)
     refine sR fL1 Z (oR Z (zY Z fi108 f120) (eN (zH (cT Z c121 (kN (zH (zd (sR (.fl 0 (.fl 1 (.fx 2 (.fx 3 (.nil) .stop) .stop))) Z (bnK hx105 fun _ h123 hm124=>?_)))))))))
     obtain ⟨b125,hA126⟩:=hS111.rowSome (j:=0) rfl (by rw [wAG (f:=wAB) (sz:=3) (fun _=>rfl) l26];have hz:=wCC h123;omega)
     refine oR Z (ZB Z f119 hA126 fi108 zA zC (wCC h123)) ?_
     have hg127:=wBh (xs:=l26) (wCC h123)
     let B1:List Value:=[jV ((gd l26 k97).Bib),jV ((gd l26 k97).Time),jV ((gd l26 k97).Gate)]
     refine OKS.m rfl rfl rfl rfl (hS111.ldRA (j:=0) rfl hA126 rfl rfl zg zC (vs:=B1) (wGz (sz:=3) (fun _=>rfl) _ _ _ hg127 (by first | omega | rfl | simp) rfl) rfl) rfl (ZG (cs:=[jV 0,jV 0,jV 0]) rfl rfl rfl rfl rfl zr rfl hS111 ?_)
     intro W128 b129 hS130
     refine OKS.st (j:=0) (vs:=B1) Z Z Z Z hS130 Z Z Z Z zC (zV Z) Z Z Z ?_
     intro W132 hS133
     have hS134:sW w U U109 [.blk b129 105 B1,B0] W132:=hS133
     refine eN (zH (CK.anyOrd Tryz.mixed [1,3,3,3,1,3,3,3,1,3,3,3,1,2,3,3] (wOv (.fx 13 (.fl 14 (.fl 15 (.nil))) .stop)) (by kernel_rfl) ?_))
     have hS135:=hS134.drew
     generalize hw_W136:({ W132 with drawn:=W132.drawn + 1 }:World)=W136 at hS135 ⊢
     refine oL Z (hS135.ldBA (j:=0) Z Z Z zg zC (vs:=B1) Z Z) (oM Z f112 (oM Z f115 (bnK hm124 fun x137 h138 hm139=>?_)))
     have h140:=h77.le le86
     have h141:=h140.le le110
     have q:=h141.el (fun _=>rfl) (wAw h138)
     obtain ⟨b142,off143,hA144,hC145⟩:=q
     refine oR Z (Runs.iaI Z Z hA144 Z zA zC (wET h138) (wFO h138)) (oL Z (hS135.ldCA (f:=0) hC145 Z Z zg zC (us:=[jV x137.Bib,jV x137.Time,jV x137.Gate]) Z Z) (oR Z (Runs.eqS (enc:=wAB) (a:=(gd l26 k97)) (b:=x137) Z Z Z wOl wOk) (oM Z Z (ifc hm139 ?_ ?_))))
     ·intro c146 hm147
      refine oT Z c146 (oT Z c146 (oT Z c146 (oT Z c146 (oT Z c146 (oT Z c146 (OKS.px Z Z Z (zm Z Z (wDq c146.out) Z) (oT Z c146 (oR Z (zE Z (wDq c146.out) Z) (eN (zi Z (sR fL2 Z (oA Z Z (oA Z Z (eN (zL (zW (zG ?_)))))))))))))))))
      have q:=wAo hm147
      obtain ⟨v148,hm149,e150⟩:=q
      obtain rfl:=wBl hm94 hX99 (hb106 v148 e150)
      refine zG (zW (zG (zW (zG ?_))))
      have q:=wAo hm149
      obtain ⟨v151,hm152,e153⟩:=q
      obtain rfl:=wBl hm12 hX32 (hb41 v151 e153)
      refine zG (zW (zG ?_))
      cases hm152
      exact ⟨rfl,_,(wHo rfl rfl),U109,_,(hS135.pick [] _ (by decide) rfl),rfl,rfl⟩
     ·intro c146 hm154
      refine zU Z Z Z (wF Z c146) Z f113 (OKS.m Z Z Z (wF Z c146) (hS135.ldBA (j:=0) Z Z Z zg zC (vs:=B1) Z Z) Z (zU Z Z Z (wF Z c146) Z f112 (zU Z Z Z (wF Z c146) Z f115 ?_)))
      have q:=h141.el (fun _=>rfl) (wAw h138)
      obtain ⟨b155,off156,hA157,hC158⟩:=q
      refine rU Z (wF Z c146) (Runs.iaI Z Z hA157 Z zA zC (wET h138) (wFO h138)) (OKS.m Z Z Z (wF Z c146) (hS135.ldCA (f:=0) hC158 Z Z zg zC (us:=[jV x137.Bib,jV x137.Time,jV x137.Gate]) Z Z) Z (bnK hm154 fun x159 h160 hm161=>zM 0 Z Z Z (wF Z c146) (zN Z Z Tryz.call139 (zB Z (zB Z (zB Z zR))) Z) hS135 (fun hs=>wBb p1 (gd l26 k97) x137 W136 U109 hs h160) (.inr Z) ?_))
      rintro U162 L163 v164 W165 le166 hS167 ⟨rfl,rfl⟩
      have hS168:sW w U U162 [.blk b129 105 B1,B0] W165:=hS167
      refine rU Z (wF Z c146) (Runs.notT Z Z) (oR Z (zQ Z (zX c146.out) Z) (eN (ifc hm161 ?_ ?_)))
      ·intro c169 hm170
       refine zq (nC c169.out) (CK.skip (zn (zK (rR fL2 Z (oR Z (zy (zZ Z fi108 Z) (congrArg (jV) hi122.out)) (oM Z Z (zo ?_)))))))
       obtain rfl:=nA hm170
       exact zK ⟨rfl,_,rfl,⟨U162,rfl,f112,f113,f114,f115,f116,f117,f118,f119,f120,(le110.trans le166),(hS168.pick [1] _ (by decide) rfl)⟩⟩
      ·intro c169 hm171
       refine zi (nF (c169.out)) (sR fL2 Z (oA Z Z (oA Z Z (eN (zL (zW (zG ?_)))))))
       have q:=wAo hm171
       obtain ⟨v172,hm173,e174⟩:=q
       obtain rfl:=wBl hm94 hX99 (hb106 v172 e174)
       refine zG (zW (zG (zW (zG ?_))))
       have q:=wAo hm173
       obtain ⟨v175,hm176,e177⟩:=q
       obtain rfl:=wBl hm12 hX32 (hb41 v175 e177)
       refine zG (zW (zG ?_))
       cases hm176
       exact ⟨rfl,_,(wHo rfl rfl),U162,_,(hS168.pick [] _ (by decide) rfl),rfl,rfl⟩
    ·rintro ⟨⟩ σ178 W179 ⟨U182,fi181,f185,f186,f187,f188,f189,f190,f191,f192,f193,le183,hS184⟩ hb180
     have hm194:=wDP hm94 hX99 hb180
     try dsimp only at hm194
     have c195:Hid (¬ ((↑(((↑l26.length:Int):Int) - 0).toNat:Int) < (↑l26.length:Int))):=zF (wBL)
     refine sR fL1 Z (oR Z (zY Z fi181 f193) (eN (zH (cF Z c195 (ZD (zl (zl (ZA (zK (rR (wNd (.fx 5 (.fx 6 (.fl 7 (.nil)) .stop) .stop)) Z (oM Z f187 (oM Z f185 (oM Z f188 (bnK hm194 fun x196 h197 hm198=>?_))))))))))))))
     have h199:=h77.le le86
     have h200:=h199.le le183
     have q:=h200.el (fun _=>rfl) (wAw h197)
     obtain ⟨b201,off202,hA203,hC204⟩:=q
     refine oR Z (Runs.iaI Z Z hA203 Z zA zC (wET h197) (wFO h197)) (oL Z (hS184.ldCA (f:=0) hC204 Z Z zg zC (us:=[jV x196.Bib,jV x196.Time,jV x196.Gate]) Z Z) ?_)
     let B2:List Value:=[jV x196.Bib,jV x196.Time,jV x196.Gate]
     refine zu (pv:=[(0,.agg B2.toArray)]) (zs:=[jV 0,jV 0,jV 0]) (cs:=B2) Z Z Z Z Z (wAn Z wBM) zA zC zr Z Z Z Z Z hS184 ?_
     intro W205 b206 hS207
     let B3:Res:=.row (some ⟨b206,0,none⟩) 1 105 3 (hH wAB [x196])
     have hS209:sW w U U182 [B3,B0] W205:=hS207
     refine bnK hm198 fun x210 h211 hm212=>zw (j:=1) (enc:=wAB) (xs:=l26) (ys:=[x196]) (zs:=x210) rfl rfl rfl rfl rfl Tryz.underlying95 wFw rfl rfl rfl rfl rfl rfl hS209 rfl rfl rfl (hS209.srcR (j:=0) rfl (by decide) (wAG (f:=wAB) (sz:=3) (fun _=>rfl) [x196])) (fun _=>rfl) (fun _=>rfl) h211 rfl ?_
     intro A213 c214 W215 hS216
     have hS217:sW w U U182 [B3,.row A213 c214 105 3 (hH wAB x210)] W215:=hS216
     refine oA Z Z (zo (zn (zK (rR fL2 Z (oR Z (zy (zZ Z f191 Z) (congrArg (jV) hi53.out)) (oM Z Z (zo ?_)))))))
     obtain rfl:=nA hm212
     exact zK ⟨rfl,_,rfl,⟨U182,A213,c214,rfl,f185,f186,rfl,f189,f190,(((le45.trans le71).trans le86).trans le183),(hS217.pick [1] _ (by decide) rfl)⟩⟩
  ·rintro y225 σ221 W222 ⟨U228,A226,c227,fi224,f231,f232,f233,f234,f235,le229,hS230⟩ hb223
   have hm236:=wDP hm12 hX32 hb223
   have c237:Hid (¬ ((↑(((↑p2.length:Int):Int) - 0).toNat:Int) < (↑p2.length:Int))):=zF (wBL)
   refine sR fL1 Z (oR Z (zY Z fi224 f235) (eN (zH (cF Z c237 (ZD (zl (zl (ZA (zK (sR fL2 Z (oA Z Z (oA Z Z (eN (zL ?_))))))))))))))
   cases hm236
   exact ⟨rfl,_,(wHo rfl rfl),U228,_,(hS230.pick [] _ (by decide) rfl),rfl,rfl⟩
 ·intro c11 hm238
  refine cT Z c11 (sR fL3 Z (oM Z Z (oA Z Z (oA Z Z (eN (zL (zG ?_)))))))
  cases hm238
  exact ⟨Z,_,(wHo Z Z),U4,_,hS10,Z,Z⟩
end Go.Proofs.YthbficbpebiekaaGreat
namespace Go.Proofs.YthbficbpebiekaaGreat
open Go.KL
set_option maxHeartbeats 4000000
theorem wBg (p0:List wAA) (pA0:Option Addr) (pc0:Nat) (w:World) (U:PHeap) (hS:St0 w U []) (ha0:Sl U 3 pA0 pc0 p0.length (hH wAB p0)) {r:(List wAA)} (hm:wAN p0=some r):Gv Tryz.prog 52 [.slice pA0 p0.length pc0] w (wCo w [] U (fun U_ L_ v=>∃ (A0:Option Addr) (c0:Nat),v=.slice A0 r.length c0/\L_=[.row A0 c0 105 3 (hH wAB r)])):=by
 unfold wAN at hm
 refine Gv.of Tryz.func52 Z Tryz.ntmps52 Tryz.results52 Z (sR fL1 Z (oA Z Z (eN (sR (.fl 0 (.fx 1 (.fl 2 (.nil)) .stop)) Z (oM Z Z ?_)))))
 have hS1:=hS.nilrow 105 3
 have hS3:sW w U U [.row none 0 105 3 (hH wAB ([]:List wAA))] w:=hS1
 refine bnK hm fun x4 h5 hm6=>zw (j:=0) (enc:=wAB) (xs:=([]:List wAA)) (ys:=p0) (zs:=x4) Z Z Z Z Z Tryz.underlying95 wFw Z Z Z Z Z Z hS3 Z Z Z (hS3.srcS ha0) (fun _=>Z) (fun _=>Z) h5 Z ?_
 intro A7 c8 W9 hS10
 have hS11:sW w U U [.row A7 c8 105 3 (hH wAB x4)] W9:=hS10
 refine oA Z Z (eN (zL ?_))
 have hE:=nA hm6;first | subst r | cases hE
 exact ⟨Z,_,(ze Z),U,_,hS11,A7,c8,Z,Z⟩
theorem wCn (w:World) (U:PHeap) (hS:St0 w U []) {r:Bool} (hm:wBH=some r):Gv Tryz.prog 45 [] w (wCo w [] U (fun U_ L_ v=>v=.bool r/\L_=[])):=by
 cases hm
 refine (xr45 w).mono ?_
 rintro v w' ⟨rfl,k⟩
 exact ⟨U,[],hS.grow k,Z,Z⟩
theorem wBy (p0:List Int) (pA0:Option Addr) (pc0:Nat) (p1:List Int) (pA1:Option Addr) (pc1:Nat) (p2:Int) (w:World) (U:PHeap) (hS:St0 w U []) (ha0:Sl U 1 pA0 pc0 p0.length (hH KL.encB8 p0)) (ha1:Sl U 1 pA1 pc1 p1.length (hH KL.encB8 p1)) {r:Bool} (hm:wAZ p0 p1 p2=some r):Gv Tryz.prog 6 [.slice pA0 p0.length pc0,.slice pA1 p1.length pc1,jV p2] w (wCo w [] U (fun U_ L_ v=>v=.bool r/\L_=[])):=by
 unfold wAZ at hm
 refine Gv.of Tryz.func6 Z Tryz.ntmps6 Tryz.results6 Z (sR fL1 Z (oA Z Z (eN (sR (.fl 0 (.fx 1 (.fx 2 (.fl 3 (.nil)) .stop) .stop)) Z (oM Z Z (bnK hm fun x1 h2 hm3=>zM 0 Z Z Z Z (zN Z Z Tryz.call29 (zB Z zR) Z) hS (fun hs=>wCd p0 pA0 pc0 w U hs ha0 h2) (.inr Z) ?_))))))
 rintro U4 L5 v6 W7 le8 hS9 ⟨b10,A11,c12,rfl,rfl,h14⟩
 have hS15:sW w U U4 [.blk b10 184 [.slice A11 x1.bytes.length c12,jV x1.next,.int .u32 x1.state]] W7:=hS9
 have q:=bnd hm3
 obtain ⟨⟨x16,x17⟩,h18,hm19⟩:=q
 try dsimp only at hm19
 refine zM 1 Z Z Z Z (zN Z Z Tryz.call46 (zB Z (zB Z zR)) Z) hS15 (fun hs=>wCe x1 b10 A11 c12 24 W7 U4 hs h14 h18) (.inl Z) ?_
 rintro U20 L21 v22 W23 le24 hS25 ⟨A26,c27,A28,c29,rfl,rfl,h31⟩
 let B0:Res:=.blk b10 184 [.slice A28 x17.bytes.length c29,jV x17.next,.int .u32 x17.state]
 let B1:Res:=.row A26 c27 105 3 (hH wAB x16)
 have hS32:sW w U U20 [B1,B0] W23:=hS25
 refine oA Z Z (eN (sR (.fl 0 (.fx 1 (.fl 2 (.nil)) .stop)) Z (oM Z Z ?_)))
 have h33:=ha1.le le8
 have h34:=h33.le le24
 refine bnK hm19 fun x35 h36 hm37=>zM 0 Z Z Z Z (zN Z Z Tryz.call29 (zB Z zR) Z) hS32 (fun hs=>wCd p1 pA1 pc1 W23 U20 hs h34 h36) (.inr Z) ?_
 rintro U38 L39 v40 W41 le42 hS43 ⟨b44,A45,c46,rfl,rfl,h48⟩
 let B2:Res:=.blk b44 184 [.slice A45 x35.bytes.length c46,jV x35.next,.int .u32 x35.state]
 have hS49:sW w U U38 [B2,B1,B0] W41:=hS43
 refine oA Z Z (eN (sR (.fl 0 (.fx 1 (.fl 2 (.fl 3 (.nil))) .stop)) Z (oM Z Z (bnK hm37 fun x50 h51 hm52=>zM 0 Z Z Z Z (zN Z Z Tryz.call38 (zB Z (zB Z zR)) Z) hS49 (fun hs=>wDm p2 120 W41 U38 hs h51) (.inr Z) ?_))))
 rintro U53 L54 v55 W56 le57 hS58 ⟨rfl,rfl⟩
 have hS59:sW w U U53 [B2,B1,B0] W56:=hS58
 refine oR Z (zZ Z Z Z) (oA Z Z (eN (sR (.fl 0 (.fl 1 (.fx 2 (wLN (.nil)) .stop))) Z (oM Z Z (oM Z Z ?_)))))
 have q:=hS59.freezeR (k:=1) (n:=x16.length) rfl (wAG (f:=wAB) (sz:=3) (fun _=>rfl) x16) (by decide)
 obtain ⟨U60,le61,hs62,hS63⟩:=q
 have hS64:sW w U U60 [B2,B0] W56:=hS63
 have q:=bnd hm52
 obtain ⟨⟨x65,x66⟩,h67,hm68⟩:=q
 try dsimp only at hm68
 refine zM 0 Z Z Z Z (zN Z Z Tryz.call47 (zB Z (zB Z zR)) Z) hS64 (fun hs=>wDY x16 A26 c27 (w64 (x50 + 1)) W56 U60 hs hs62 h67) (.inr Z) ?_
 rintro U69 L70 v71 W72 le73 hS74 ⟨rfl,rfl⟩
 have hS75:sW w U U69 [B2,B0] W72:=hS74
 refine oM Z Z (oR Z (ZC Z Z (v:=jV x65) Z) (oR Z (ZC Z Z (v:=jV x66) Z) (oA Z Z (oA Z Z (eN (sR (.fl 0 (.fl 1 (.fx 2 (wLN (.nil)) .stop))) Z (oM Z Z (oM Z Z ?_))))))))
 have h76:=hs62.le le73
 have q:=bnd hm68
 obtain ⟨⟨x77,x78⟩,h79,hm80⟩:=q
 try dsimp only at hm80
 refine zM 0 Z Z Z Z (zN Z Z Tryz.call48 (zB Z (zB Z zR)) Z) hS75 (fun hs=>wFy x16 A26 c27 (w64 (x50 + 1)) W72 U69 hs h76 h79) (.inr Z) ?_
 rintro U81 L82 v83 W84 le85 hS86 ⟨A87,c88,rfl,rfl⟩
 let B3:Res:=.row A87 c88 105 3 (hH wAB x77)
 have hS90:sW w U U81 [B3,B2,B0] W84:=hS86
 refine oM Z Z (oR Z (ZC Z Z (v:=.slice A87 x77.length c88) Z) (oR Z (ZC Z Z (v:=jV x78) Z) (oA Z Z (oA Z Z (eN (sR (.fl 0 (.fl 1 (.fx 2 (wLN (.nil)) .stop))) Z (oM Z Z (oM Z Z ?_))))))))
 have h91:=h76.le le85
 have q:=bnd hm80
 obtain ⟨⟨x92,x93⟩,h94,hm95⟩:=q
 try dsimp only at hm95
 refine zM 0 Z Z Z Z (zN Z Z Tryz.call49 (zB Z (zB Z zR)) Z) hS90 (fun hs=>wFz x16 A26 c27 (w64 (x50 + 1)) W84 U81 hs h91 h94) (.inr Z) ?_
 rintro U96 L97 v98 W99 le100 hS101 ⟨A102,c103,rfl,rfl⟩
 let B4:Res:=.row A102 c103 3 1 (hH KL.encI x92)
 have hS105:sW w U U96 [B4,B3,B2,B0] W99:=hS101
 refine oM Z Z (oR Z (ZC Z Z (v:=.slice A102 x92.length c103) Z) (oR Z (ZC Z Z (v:=jV x93) Z) (oA Z Z (oA Z Z (eN (zH (zH (CK.fresh fun σ106 hσ107=>?_))))))))
 have f108:σ106 7=.slice A26 x16.length c27:=(hσ107 7).trans rfl
 have f109:σ106 8=.pointer (some ⟨b44,0,none⟩):=(hσ107 8).trans rfl
 have f110:σ106 9=jV (w64 (x50 + 1)):=(hσ107 9).trans rfl
 have f111:σ106 10=jV x65:=(hσ107 10).trans rfl
 have f112:σ106 11=jV x66:=(hσ107 11).trans rfl
 have f113:σ106 12=.slice A87 x77.length c88:=(hσ107 12).trans rfl
 have f114:σ106 13=jV x78:=(hσ107 13).trans rfl
 have f115:σ106 14=.slice A102 x92.length c103:=(hσ107 14).trans rfl
 have f116:σ106 15=jV x93:=(hσ107 15).trans rfl
 clear hσ107
 refine rR fL37 Z (oM Z f112 (oR Z (zz Z Z Z) (oM Z Z (ifc hm95 ?_ ?_))))
 ·intro c117 hm118
  refine zU Z Z Z (zJ Z Z (zX (fun h=>h c117.out))) Z f114 (zp Z Z Z (zJ Z Z (zX (fun h=>h c117.out))) (fun _=>zz Z Z Z) (oR Z (zQ Z (zX (fun h=>h c117.out)) Z) (oM Z Z (ifc hm118 ?_ ?_))))
  ·intro c119 hm120
   refine zU Z Z Z (zJ Z Z (zX (fun h=>h c119.out))) Z f116 (zp Z Z Z (zJ Z Z (zX (fun h=>h c119.out))) (fun _=>zz Z Z Z) (oR Z (zQ Z (zX (fun h=>h c119.out)) Z) (oM Z Z (ifc hm120 ?_ ?_))))
   ·intro c121 hm122
    refine zU Z Z Z (zJ Z Z (zX (fun h=>h c121.out))) Z f115 (zp Z Z Z (zJ Z Z (zX (fun h=>h c121.out))) (fun _=>zk Z Z zO) (zU Z Z Z (zJ Z Z (zX (fun h=>h c121.out))) Z f111 (zp Z Z Z (zJ Z Z (zX (fun h=>h c121.out))) (fun _=>zz Z Z Z) (oR Z (zQ Z (zX (fun h=>h c121.out)) Z) (oM Z Z (ifc hm122 ?_ ?_))))))
    ·intro c123 hm124
     refine zU Z Z Z (zJ Z Z (zX (fun h=>h c123.out))) Z f113 (zp Z Z Z (zJ Z Z (zX (fun h=>h c123.out))) (fun _=>zk Z Z zA) (zU Z Z Z (zJ Z Z (zX (fun h=>h c123.out))) Z f108 (zp Z Z Z (zJ Z Z (zX (fun h=>h c123.out))) (fun _=>zk Z Z zA) (zp Z Z Z (zJ Z Z (zX (fun h=>h c123.out))) (fun _=>zz Z Z Z) (oR Z (zQ Z (zX (fun h=>h c123.out)) Z) (oM Z Z (ifc hm124 ?_ ?_)))))))
     ·intro c125 hm126
      refine zU Z Z Z (zJ Z Z (zX (fun h=>h c125.out))) Z f111 (zU Z Z Z (zJ Z Z (zX (fun h=>h c125.out))) Z f108 (zp Z Z Z (zJ Z Z (zX (fun h=>h c125.out))) (fun _=>zk Z Z zA) (zp Z Z Z (zJ Z Z (zX (fun h=>h c125.out))) (fun _=>Runs.gtr Z Z Z) (oR Z (zQ Z (zX (fun h=>h c125.out)) Z) (oM Z Z (ifc hm126 ?_ ?_))))))
      ·intro c127 hm128
       refine oT Z c127 (oT Z c127 (oT Z c127 (oT Z c127 (oT Z c127 (oT Z c127 (oR Z (zE Z (wDq c127.out) Z) (eN (zi Z (sR fL1 Z (oA Z Z (eN (zL (zG ?_)))))))))))))
       have hE:=nA hm128;first | subst r | cases hE
       exact ⟨rfl,_,(ze rfl),U96,_,(hS105.pick [] _ (by decide) rfl),rfl,rfl⟩
      ·intro c127 hm129
       refine zU Z Z Z (wF Z c127) Z f111 (rU Z (wF Z c127) (Runs.eql Z Z Z) (zU Z Z Z (wF Z c127) Z f108 (rU Z (wF Z c127) (zk Z Z zA) (rU Z (wF Z c127) (Runs.eql Z Z Z) (rU Z (wF Z c127) (Runs.neB Z Z Z Tryz.runUnderlying4) (oR Z (zQ Z (zX c127.out) Z) (eN (ifc hm129 ?_ ?_))))))))
       ·intro c130 hm131
        refine zq (nC c130.out) (kN (sR (.fl 0 (.fl 1 (.fx 2 (wLN (.nil)) .stop))) Z (oM Z f113 (oM Z f110 ?_))))
        have q:=hS105.freezeR (k:=1) (n:=x77.length) rfl (wAG (f:=wAB) (sz:=3) (fun _=>rfl) x77) (by decide)
        obtain ⟨U132,le133,hs134,hS135⟩:=q
        have hS136:sW w U U132 [B4,B2,B0] W99:=hS135
        have q:=bnd hm131
        obtain ⟨⟨x137,x138⟩,h139,hm140⟩:=q
        try dsimp only at hm140
        refine zM 0 Z Z Z Z (zN Z Z Tryz.call50 (zB Z (zB Z zR)) Z) hS136 (fun hs=>wDZ x77 A87 c88 (w64 (x50 + 1)) W99 U132 hs hs134 h139) (.inr Z) ?_
        rintro U141 L142 v143 W144 le145 hS146 ⟨rfl,rfl⟩
        have hS147:sW w U U141 [B4,B2,B0] W144:=hS146
        refine oM Z Z (oR Z (ZC Z Z (v:=.bool x137) Z) (oR Z (ZC Z Z (v:=jV x138) Z) (oA Z Z (oA Z Z (eN (zH (CK.fresh fun σ148 hσ149=>?_)))))))
        have f150:σ148 7=.slice A26 x16.length c27:=(hσ149 7).trans f108
        have f151:σ148 8=.pointer (some ⟨b44,0,none⟩):=(hσ149 8).trans f109
        have f152:σ148 9=jV (w64 (x50 + 1)):=(hσ149 9).trans f110
        have f153:σ148 10=jV x65:=(hσ149 10).trans f111
        have f154:σ148 11=jV x138:=(hσ149 11).trans rfl
        have f155:σ148 12=.slice A87 x77.length c88:=(hσ149 12).trans f113
        have f156:σ148 13=jV x78:=(hσ149 13).trans f114
        have f157:σ148 14=.slice A102 x92.length c103:=(hσ149 14).trans f115
        have f158:σ148 16=.bool x137:=(hσ149 16).trans rfl
        clear hσ149
        refine rR (wFK (.fx 3 (wOy (.nil)) .stop)) Z (oM Z f150 (oM Z f152 (oM Z f157 ?_)))
        have q:=hS147.freezeR (k:=0) (n:=x92.length) rfl (wAG (f:=KL.encI) (sz:=1) (fun _=>rfl) x92) (by decide)
        obtain ⟨U159,le160,hs161,hS162⟩:=q
        have hS163:sW w U U159 [B2,B0] W144:=hS162
        have h164:=h91.le le100
        have h165:=h164.le le133
        have h166:=h165.le le145
        have h167:=h166.le le160
        have q:=bnd hm140
        obtain ⟨⟨x168,x169⟩,h170,hm171⟩:=q
        try dsimp only at hm171
        refine zM 0 Z Z Z Z (zN Z Z Tryz.call51 (zB Z (zB Z (zB Z zR))) Z) hS163 (fun hs=>wCq x16 A26 c27 (w64 (x50 + 1)) x92 A102 c103 W144 U159 hs h167 hs161 h170) (.inr Z) ?_
        rintro U172 L173 v174 W175 le176 hS177 ⟨rfl,rfl⟩
        have hS178:sW w U U172 [B2,B0] W175:=hS177
        refine oM Z Z (oR Z (ZC Z Z (v:=.bool x168) Z) (oR Z (ZC Z Z (v:=jV x169) Z) (oA Z Z (oA Z Z (eN (zH (sR fL14 Z (oM Z f154 (oR Z (zz Z Z Z) (oM Z Z (ifc hm171 ?_ ?_)))))))))))
        ·intro c179 hm180
         refine zU Z Z Z (zJ Z Z (zX (fun h=>h c179.out))) Z Z (zp Z Z Z (zJ Z Z (zX (fun h=>h c179.out))) (fun _=>zz Z Z Z) (oR Z (zQ Z (zX (fun h=>h c179.out)) Z) (oM Z Z (ifc hm180 ?_ ?_))))
         ·intro c181 hm182
          refine zU Z Z Z (zJ Z Z (zX (fun h=>h c181.out))) Z f158 (zp Z Z Z (zJ Z Z (zX (fun h=>h c181.out))) (fun _=>Runs.notT Z Z) (oR Z (zQ Z (zX (fun h=>h c181.out)) Z) (oM Z Z (ifc hm182 ?_ ?_))))
          ·intro c183 hm184
           refine zU Z Z Z (zJ Z Z (nC c183.out)) Z Z (zp Z Z Z (zJ Z Z (nC c183.out)) (fun _=>Runs.notT Z Z) (oR Z (zQ Z (nC c183.out) Z) (eN (ifc hm184 ?_ ?_))))
           ·intro c185 hm186
            refine zq (nC c185.out) (kN (zH (sR fL3 Z (oM Z f155 (oR Z (zk Z Z zA) (oM Z Z (eN (zd ?_))))))))
            have q:=wCI hm186
            obtain ⟨r189,hX190⟩:=q
            have q:=wCH hX190
            obtain ⟨hle191,hf192⟩:=q
            replace hle191:=zF hle191
            refine CK.forN (fun k188 _ σ_ w_=>∃ (U_:PHeap),σ_ 120=jV (↑k188:Int)/\σ_ 7=.slice A26 x16.length c27/\σ_ 8=.pointer (some ⟨b44,0,none⟩)/\σ_ 9=jV (w64 (x50 + 1))/\σ_ 10=jV x65/\σ_ 118=.slice A87 x77.length c88/\σ_ 119=jV (↑x77.length:Int)/\PHeap.Le U172 U_/\sW w U U_ [B2,B0] w_) hf192 ?_ ?_ ?_
            ·exact ⟨U172,Z,f150,f151,f152,f153,Z,Z,(zP _),hS178⟩
            ·rintro k188 ⟨⟩ xx195 σ193 W194 hk198 ⟨U200,fi199,f203,f204,f205,f206,f207,f208,le201,hS202⟩ hx196 hb197
             try dsimp only at hx196
             have c209:Hid ((↑k188:Int) < (↑x77.length:Int)):=zF (wBm hk198)
             replace hk198:=zF hk198
             have hi210:Hid (w64 ((↑k188:Int) + 1)=(↑(k188 + 1):Int)):=zF (by have h1:=hle191.out;have h2:=c209.out;rw [wAa] <;> omega)
             refine sR fL1 Z (oR Z (zY Z fi199 f208) (eN (zH (cT Z c209 (kN (zH (zd (sR (wFK (.fx 3 (.fl 4 (.fx 5 (.nil) .stop)) .stop)) Z (oM Z fi199 (bnK hx196 fun x211 h212 hm213=>?_))))))))))
             have h214:=hs134.le le145
             have h215:=h214.le le160
             have h216:=h215.le le176
             have h217:=h216.le le201
             have q:=h217.el (fun _=>rfl) (wAw h212)
             obtain ⟨b218,off219,hA220,hC221⟩:=q
             refine oR Z (ZB Z f207 hA220 fi199 zA zC (wCD h212)) (oL Z (hS202.ldCA (f:=0) hC221 Z Z zg zC (us:=[jV x211.Bib,jV x211.Time,jV x211.Gate]) Z Z) (ZG (cs:=[jV 0,jV 0,jV 0]) Z Z Z Z Z zr Z hS202 ?_))
             intro W222 b223 hS224
             refine oA Z Z ?_
             let B5:List Value:=[jV x211.Bib,jV x211.Time,jV x211.Gate]
             refine OKS.st (j:=0) (vs:=B5) Z Z Z Z hS224 Z Z Z Z zC (zV Z) Z Z Z ?_
             intro W226 hS227
             have hS228:sW w U U200 [.blk b223 105 B5,B2,B0] W226:=hS227
             refine eN (zH (CK.anyOrd Tryz.mixed [3,1,3,3,3,3,1,3,3,3,1,3,3,3,3,1,3,3,3,3,1,3,3,3,3,1,3,3,3] fL29 (by kernel_rfl) ?_))
             have hS229:=hS228.drew
             generalize hw_W230:({ W226 with drawn:=W226.drawn + 1 }:World)=W230 at hS229 ⊢
             refine oR Z (zh Z Z zI Z zD) (oL Z (hS229.ldB (j:=0) Z Z Z zS (v:=jV x211.Bib) Z) (oM Z f203 (oM Z Z (bnK hm213 fun x231 h232 hm233=>?_))))
             have h234:=h167.le le176
             have h235:=h234.le le201
             have q:=h235.el (fun _=>rfl) (wAw h232)
             obtain ⟨b236,off237,hA238,hC239⟩:=q
             refine oR Z (ZB Z Z hA238 Z zA zC (wCD h232)) (oR Z (zh Z Z zI Z zD) (oL Z (hS229.ldC (f:=0) hC239 (v:=jV x231.Bib) Z Z zS Z) (oR Z (zz Z Z Z) (oM Z Z (ifc hm233 ?_ ?_)))))
             ·intro c240 hm241
              refine zp Z Z Z (zJ Z Z (zX (fun h=>h c240.out))) (fun _=>zh Z Z zI Z zD) (OKS.m Z Z Z (zJ Z Z (zX (fun h=>h c240.out))) (hS229.ldB (j:=0) Z Z Z zS (v:=jV x211.Time) Z) Z (zU Z Z Z (zJ Z Z (zX (fun h=>h c240.out))) Z f203 (zU Z Z Z (zJ Z Z (zX (fun h=>h c240.out))) Z Z ?_)))
              have q:=h235.el (fun _=>rfl) (wAw h232)
              obtain ⟨b242,off243,hA244,hC245⟩:=q
              refine zp Z Z Z (zJ Z Z (zX (fun h=>h c240.out))) (fun _=>ZB Z Z hA244 Z zA zC (wCD h232)) (zp Z Z Z (zJ Z Z (zX (fun h=>h c240.out))) (fun _=>zh Z Z zI Z zD) (OKS.m Z Z Z (zJ Z Z (zX (fun h=>h c240.out))) (hS229.ldC (f:=1) hC245 (v:=jV x231.Time) Z Z zS Z) Z (zp Z Z Z (zJ Z Z (zX (fun h=>h c240.out))) (fun _=>zz Z Z Z) (oR Z (zQ Z (zX (fun h=>h c240.out)) Z) (oM Z Z (ifc hm241 ?_ ?_))))))
              ·intro c246 hm247
               refine zp Z Z Z (zJ Z Z (zX (fun h=>h c246.out))) (fun _=>zh Z Z zI Z zD) (OKS.m Z Z Z (zJ Z Z (zX (fun h=>h c246.out))) (hS229.ldB (j:=0) Z Z Z zS (v:=jV x211.Gate) Z) Z (zp Z Z Z (zJ Z Z (zX (fun h=>h c246.out))) (fun _=>zY Z Z Z) (oR Z (zQ Z (zX (fun h=>h c246.out)) Z) (oM Z Z (ifc hm247 ?_ ?_)))))
               ·intro c248 hm249
                refine oT Z c248 (oT Z c248 (oT Z c248 (oT Z c248 (oR Z (zE Z (wDq c248.out) Z) (eN (zi Z (sR fL1 Z (oA Z Z (eN (zL (zW (zG ?_))))))))))))
                have q:=wAo hm249
                obtain ⟨v250,hm251,e252⟩:=q
                obtain rfl:=wBl hm186 hX190 (hb197 v250 e252)
                refine zG (zW (zG ?_))
                have hE:=nA hm251;first | subst r | cases hE
                exact ⟨rfl,_,(ze rfl),U200,_,(hS229.pick [] _ (by decide) rfl),rfl,rfl⟩
               ·intro c248 hm253
                refine rU Z (wF Z c248) (zh Z Z zI Z zD) (OKS.m Z Z Z (wF Z c248) (hS229.ldB (j:=0) Z Z Z zS (v:=jV x211.Gate) Z) Z (zU Z Z Z (wF Z c248) Z f206 (rU Z (wF Z c248) (Runs.gtr Z Z Z) (oR Z (zQ Z (zX c248.out) Z) (eN (ifc hm253 ?_ ?_))))))
                ·intro c254 hm255
                 refine cT Z c254 (sR fL1 Z (oA Z Z (eN (zL (zW (zG ?_))))))
                 have q:=wAo hm255
                 obtain ⟨v256,hm257,e258⟩:=q
                 obtain rfl:=wBl hm186 hX190 (hb197 v256 e258)
                 refine zG (zW (zG ?_))
                 have hE:=nA hm257;first | subst r | cases hE
                 exact ⟨rfl,_,(ze rfl),U200,_,(hS229.pick [] _ (by decide) rfl),rfl,rfl⟩
                ·intro c254 hm259
                 refine cF Z c254 (CK.skip (zn (zK (rR fL2 Z (oR Z (zy (zZ Z fi199 Z) (congrArg (jV) hi210.out)) (oM Z Z (zo ?_)))))))
                 obtain rfl:=nA hm259
                 exact zK ⟨rfl,_,rfl,⟨U200,rfl,f203,f204,f205,f206,f207,f208,le201,(hS229.pick [1,2] _ (by decide) rfl)⟩⟩
              ·intro c246 hm260
               refine oT Z c246 (oT Z c246 (oT Z c246 (oR Z (zE Z (wDq c246.out) Z) (oM Z Z (oN Z (oN Z (oN Z (oN Z (oR Z (zE Z Z Z) (eN (zi Z (sR fL1 Z (oA Z Z (eN (zL (zW (zG ?_)))))))))))))))))
               have q:=wAo hm260
               obtain ⟨v261,hm262,e263⟩:=q
               obtain rfl:=wBl hm186 hX190 (hb197 v261 e263)
               refine zG (zW (zG ?_))
               have hE:=nA hm262;first | subst r | cases hE
               exact ⟨rfl,_,(ze rfl),U200,_,(hS229.pick [] _ (by decide) rfl),rfl,rfl⟩
             ·intro c240 hm264
              refine oT Z c240 (oT Z c240 (oT Z c240 (oT Z c240 (oT Z c240 (oT Z c240 (oT Z c240 (oT Z c240 (oR Z (zE Z (wDq c240.out) Z) (oM Z Z (oN Z (oN Z (oN Z (oR Z (zE Z Z Z) (oM Z Z (oN Z (oN Z (oN Z (oN Z (oR Z (zE Z Z Z) (eN (zi Z (sR fL1 Z (oA Z Z (eN (zL (zW (zG ?_)))))))))))))))))))))))))))
              have q:=wAo hm264
              obtain ⟨v265,hm266,e267⟩:=q
              obtain rfl:=wBl hm186 hX190 (hb197 v265 e267)
              refine zG (zW (zG ?_))
              have hE:=nA hm266;first | subst r | cases hE
              exact ⟨rfl,_,(ze rfl),U200,_,(hS229.pick [] _ (by decide) rfl),rfl,rfl⟩
            ·rintro ⟨⟩ σ268 W269 ⟨U272,fi271,f275,f276,f277,f278,f279,f280,le273,hS274⟩ hb270
             have hm281:=wDP hm186 hX190 hb270
             try dsimp only at hm281
             have c282:Hid (¬ ((↑(((↑x77.length:Int):Int) - 0).toNat:Int) < (↑x77.length:Int))):=zF (wBL)
             refine sR fL1 Z (oR Z (zY Z fi271 f280) (eN (zH (cF Z c282 (ZD (zl (zl (ZA (zK (zH (sR fL1 Z (oM Z Z (eN (zd ?_))))))))))))))
             have q:=wCI hm281
             obtain ⟨r306,hX307⟩:=q
             have q:=wCH hX307
             obtain ⟨hle308,hf309⟩:=q
             replace hle308:=zF hle308
             refine CK.forN (fun k305 (l300,x303,x304) σ_ w_=>∃ (U_:PHeap) (A301:Option Addr) (c302:Nat),σ_ 155=jV (↑k305:Int)/\σ_ 7=.slice A26 x16.length c27/\σ_ 8=.pointer (some ⟨b44,0,none⟩)/\σ_ 9=jV (w64 (x50 + 1))/\σ_ 10=jV x65/\PHeap.Le U272 U_/\sW w U U_ [.blk b44 184 [.slice A301 l300.length c302,jV x303,.int .u32 x304],B0] w_/\Sl U_ 1 A301 c302 l300.length (hH KL.encB8 l300)) hf309 ?_ ?_ ?_
             ·have h310:=h48.le le57
              have h311:=h310.le le61
              have h312:=h311.le le73
              have h313:=h312.le le85
              have h314:=h313.le le100
              have h315:=h314.le le133
              have h316:=h315.le le145
              have h317:=h316.le le160
              have h318:=h317.le le176
              have h319:=h318.le le273
              exact ⟨U272,A45,c46,Z,f275,f276,f277,f278,(zP _),hS274,h319⟩
             ·rintro k305 ⟨l300,x303,x304⟩ xx322 σ320 W321 hk325 ⟨U327,A301,c302,fi326,f330,f331,f332,f333,le328,hS329,h334⟩ hx323 hb324
              try dsimp only at hx323
              have c335:Hid ((↑k305:Int) < 5):=zF (wBm hk325)
              replace hk325:=zF hk325
              have hi336:Hid (w64 ((↑k305:Int) + 1)=(↑(k305 + 1):Int)):=zF (by have h1:=hle308.out;have h2:=c335.out;rw [wAa] <;> omega)
              refine sR fL1 Z (oR Z (zY Z fi326 Z) (eN (zH (cT Z c335 (kN (zH (zd (sR (.fl 0 (.fx 1 (.fl 2 (.nil)) .stop)) Z (oM Z f330 ?_)))))))))
              have h337:=h167.le le176
              have h338:=h337.le le273
              have h339:=h338.le le328
              refine bnK hx323 fun x340 h341 hm342=>zM 0 Z Z Z Z (zN Z Z Tryz.call52 (zB Z zR) Z) hS329 (fun hs=>wBg x16 A26 c27 W321 U327 hs h339 h341) (.inr Z) ?_
              rintro U343 L344 v345 W346 le347 hS348 ⟨A349,c350,rfl,rfl⟩
              have hS352:sW w U U343 [.row A349 c350 105 3 (hH wAB x340),.blk b44 184 [.slice A301 l300.length c302,jV x303,.int .u32 x304],B0] W346:=hS348
              refine oA Z Z (eN (sR fL1 Z (oA Z Z (eN (zH (sR fL3 Z (oM Z Z (oR Z (zk Z Z zA) (oM Z Z (eN (zd ?_)))))))))))
              have q:=bnd hm342
              obtain ⟨⟨y399,y400,y401,y402,y403⟩,hf396,hm395⟩:=q
              try dsimp only at hm395
              have q:=wCg hf396
              obtain ⟨hle397,hf398⟩:=q
              replace hle397:=zF hle397
              refine CK.forN' (fun k394 (l384,x387,x388,l389,l390) σ_ w_=>∃ (U_:PHeap) (A385:Option Addr) (c386:Nat) (A391:Option Addr) (c392:Nat),σ_ 161=jV (↑k394:Int)/\σ_ 7=.slice A26 x16.length c27/\σ_ 8=.pointer (some ⟨b44,0,none⟩)/\σ_ 9=jV (w64 (x50 + 1))/\σ_ 10=jV x65/\σ_ 20=.slice A349 l389.length c350/\σ_ 21=.slice A391 l390.length c392/\σ_ 155=jV (↑k305:Int)/\σ_ 160=jV (↑x340.length:Int)/\PHeap.Le U343 U_/\sW w U U_ [.blk b44 184 [.slice A385 l384.length c386,jV x387,.int .u32 x388],B0,.row A349 c350 105 3 (hH wAB l389),.row A391 c392 3 1 (hH KL.encI l390)] w_/\Sl U_ 1 A385 c386 l384.length (hH KL.encB8 l384)/\l389.length=x340.length) hf398 ?_ ?_ ?_
              ·have hS404:=hS352.nilrow 3 1
               have h406:=h334.le le347
               exact ⟨U343,A301,c302,none,0,rfl,f330,f331,f332,f333,rfl,rfl,fi326,rfl,(zP _),(hS404.pick [2,3,1,0] _ (by decide) rfl),h406,rfl⟩
              ·rintro k394 ⟨l384,x387,x388,l389,l390⟩ xx409 σ407 W408 hk412 ⟨U414,A385,c386,A391,c392,fi413,f417,f418,f419,f420,f421,f422,f423,f424,le415,hS416,h425,h426⟩ hx410
               try dsimp only at hx410
               have c427:Hid ((↑k394:Int) < (↑x340.length:Int)):=zF (wBm hk412)
               replace hk412:=zF hk412
               have hi428:Hid (w64 ((↑k394:Int) + 1)=(↑(k394 + 1):Int)):=zF (by have h1:=hle397.out;have h2:=c427.out;rw [wAa] <;> omega)
               refine sR fL1 Z (oR Z (zY Z fi413 f424) (eN (zH (cT Z c427 (kN (zH (zd (sR fL2 Z (oM Z fi413 (oA Z Z (eN (sR (wNe (.fx 6 (.fl 7 (.fl 8 (.fx 9 (.nil) .stop))) .stop)) Z (oM Z f421 (oM Z Z (oM Z f418 (oM Z f420 (oR Z (Runs.subw Z Z Z) (oR Z (Runs.max Z Z Z) ?_))))))))))))))))))
               have q:=bnd hx410
               obtain ⟨⟨x429,x430⟩,h431,hm432⟩:=q
               try dsimp only at hm432
               refine zM 1 Z Z Z Z (zN Z Z Tryz.call53 (zB Z (zB Z (zB Z zR))) Z) hS416 (fun hs=>wBI (⟨l384,x387,x388⟩:wAC) b44 A385 c386 1 (max 1 (w64 (x65 - 1))) W408 U414 hs h425 h431) (.inl Z) ?_
               rintro U433 L434 v435 W436 le437 hS438 ⟨A439,c440,rfl,rfl,h441⟩
               let B6:Res:=.row A391 c392 3 1 (hH KL.encI l390)
               let B7:Res:=.blk b44 184 [.slice A439 x430.bytes.length c440,jV x430.next,.int .u32 x430.state]
               have hS442:sW w U U433 [B7,B0,.row A349 c350 105 3 (hH wAB l389),B6] W436:=hS438
               refine bnK hm432 fun _ h443 hm444=>?_
               obtain ⟨b445,hA446⟩:=hS442.rowSome (j:=2) rfl (by rw [wAG (f:=wAB) (sz:=3) (fun _=>rfl) l389];have hz:=wCC h443;omega)
               refine oR Z (ZB Z Z hA446 Z zA zC (wCC h443)) (oR Z (zh Z Z zI Z zD) ?_)
               have hg447:=wBh (xs:=l389) (wCC h443)
               refine OKS.stR (j:=2) (vs:=[jV x429]) (cs':=hH wAB (nG l389 k394 (⟨(gd l389 k394).Bib,(gd l389 k394).Time,x429⟩:wAA))) rfl rfl rfl rfl hS442 rfl hA446 rfl rfl rfl zD (by rw [wAG (f:=wAB) (sz:=3) (fun _=>rfl)];have hz:=wCC h443;simp only [nK,nI,nJ,List.length_cons,List.length_nil];omega) rfl (wJI (sz:=3) (fo:=2) (fun _=>rfl) _ _ _ _ hg447 (by first | omega | (simp only [nK,nI,nJ];omega)) (zV rfl) rfl) rfl ?_
               intro W448 hS449
               let B8:Res:=.row A349 c350 105 3 (hH wAB (nG l389 k394 (⟨(gd l389 k394).Bib,(gd l389 k394).Time,x429⟩:wAA)))
               have hS450:sW w U U433 [B7,B0,B8,B6] W448:=hS449
               refine eN (sR (.fl 0 (.fx 1 (.nil) .stop)) Z (oM Z f418 ?_))
               have q:=bnd hm444
               obtain ⟨⟨x451,x452⟩,h453,hm454⟩:=q
               try dsimp only at hm454
               refine zM 1 Z Z Z Z (zN Z Z Tryz.call54 (zB Z (zB Z zR)) Z) hS450 (fun hs=>wBW x430 b44 A439 c440 2 W448 U433 hs h441 h453) (.inl Z) ?_
               rintro U455 L456 v457 W458 le459 hS460 ⟨A461,c462,rfl,rfl,h463⟩
               let B9:Res:=.blk b44 184 [.slice A461 x452.bytes.length c462,jV x452.next,.int .u32 x452.state]
               have hS464:sW w U U455 [B9,B0,B8,B6] W458:=hS460
               refine eN (ifc hm454 ?_ ?_)
               ·intro c465 hm466
                refine zi (congrArg nB c465.out) (rR (wNe (.fx 6 (.fx 7 (.fl 8 (.nil)) .stop) .stop)) rfl (zU rfl rfl rfl rfl rfl f422 (zU rfl rfl rfl rfl rfl (nO (b:=(.slice A349 l389.length c350:Value)) (c:=(.slice A349 ((nG l389 k394 (⟨(gd l389 k394).Bib,(gd l389 k394).Time,x429⟩:wAA)).length) c350:Value)) f421 (by simp only [nH])) (zU rfl rfl rfl rfl rfl rfl (bnK hm466 fun _ h467 hm468=>zp rfl rfl rfl rfl (fun _=>ZB rfl rfl hA446 rfl zA zC (wCC h467)) (zp rfl rfl rfl rfl (fun _=>zh rfl rfl zI rfl zD) ?_))))))
                have hg469:=wBh (xs:=(nG l389 k394 (⟨(gd l389 k394).Bib,(gd l389 k394).Time,x429⟩:wAA))) (wCC h467)
                refine OKS.m rfl rfl rfl rfl (hS464.ldR (j:=2) rfl hA446 rfl rfl zS (wGS (sz:=3) (fun _=>rfl) _ _ 0 _ hg469 (by first | omega | rfl | simp) rfl)) rfl (zu (pv:=[(0,jV ((gd (nG l389 k394 (⟨(gd l389 k394).Bib,(gd l389 k394).Time,x429⟩:wAA)) k394).Bib))]) (zs:=[jV 0]) (cs:=[jV ((gd (nG l389 k394 (⟨(gd l389 k394).Bib,(gd l389 k394).Time,x429⟩:wAA)) k394).Bib)]) rfl rfl rfl rfl rfl (wAn rfl wBM) zO zD zx rfl rfl rfl rfl rfl hS464 ?_)
                intro W470 b471 hS472
                let B10:Res:=.row (some ⟨b471,0,none⟩) 1 3 1 (hH KL.encI [(gd (nG l389 k394 (⟨(gd l389 k394).Bib,(gd l389 k394).Time,x429⟩:wAA)) k394).Bib])
                have hS474:sW w U U455 [B10,B9,B0,B8,B6] W470:=hS472
                refine bnK hm468 fun x475 h476 hm477=>zw (j:=4) (enc:=KL.encI) (xs:=l390) (ys:=[(gd (nG l389 k394 (⟨(gd l389 k394).Bib,(gd l389 k394).Time,x429⟩:wAA)) k394).Bib]) (zs:=x475) rfl rfl rfl rfl rfl zj wDX rfl rfl rfl rfl rfl rfl hS474 rfl rfl rfl (hS474.srcR (j:=0) rfl (by decide) (wAG (f:=KL.encI) (sz:=1) (fun _=>rfl) [(gd (nG l389 k394 (⟨(gd l389 k394).Bib,(gd l389 k394).Time,x429⟩:wAA)) k394).Bib])) (fun _=>rfl) (fun _=>rfl) h476 rfl ?_
                intro A478 c479 W480 hS481
                have hS482:sW w U U455 [B10,B9,B0,B8,.row A478 c479 3 1 (hH KL.encI x475)] W480:=hS481
                refine oA Z Z (zo (zn (zK (rR fL2 Z (oR Z (zy (zZ Z fi413 Z) (congrArg (jV) hi428.out)) (oM Z Z (zo ?_)))))))
                cases hm477
                exact zK ⟨rfl,⟨U455,A461,c462,A478,c479,rfl,f417,f418,f419,f420,(nO (b:=(.slice A349 l389.length c350:Value)) (c:=(.slice A349 ((nG l389 k394 (⟨(gd l389 k394).Bib,(gd l389 k394).Time,x429⟩:wAA)).length) c350:Value)) f421 (by simp only [nH])),rfl,f423,f424,((le415.trans le437).trans le459),(hS482.pick [1,2,3,4] _ (by decide) rfl),h463,(by simp only [nH];exact h426)⟩⟩
               ·intro c465 hm492
                refine zq (congrArg nB (nD.2 c465.out)) (CK.skip (zn (zK (rR fL2 Z (oR Z (zy (zZ Z fi413 Z) (congrArg (jV) hi428.out)) (oM Z Z (zo ?_)))))))
                cases hm492
                exact zK ⟨rfl,⟨U455,A461,c462,A391,c392,rfl,f417,f418,f419,f420,(nO (b:=(.slice A349 l389.length c350:Value)) (c:=(.slice A349 ((nG l389 k394 (⟨(gd l389 k394).Bib,(gd l389 k394).Time,x429⟩:wAA)).length) c350:Value)) f421 (by simp only [nH])),f422,f423,f424,((le415.trans le437).trans le459),hS464,h463,(by simp only [nH];exact h426)⟩⟩
              ·rintro σ502 W503 ⟨U519,A515,c516,A517,c518,fi505,f522,f523,f524,f525,f526,f527,f528,f529,le520,hS521,h530,h531⟩
               have c532:Hid (¬ ((↑(((↑x340.length:Int):Int) - 0).toNat:Int) < (↑x340.length:Int))):=zF (wBL)
               refine sR fL1 Z (oR Z (zY Z fi505 f529) (eN (zH (cF Z c532 (ZD (zl (zl (ZA (zK (sR (.fl 0 (.fl 1 (.fx 2 (wLN (.nil)) .stop))) Z (oM Z f526 (oM Z f524 ?_))))))))))))
               have q:=hS521.freezeR (k:=2) (n:=y402.length) rfl (wAG (f:=wAB) (sz:=3) (fun _=>rfl) y402) (by decide)
               obtain ⟨U533,le534,hs535,hS536⟩:=q
               let B11:Res:=.blk b44 184 [.slice A515 y399.length c516,jV y400,.int .u32 y401]
               let B12:Res:=.row A517 c518 3 1 (hH KL.encI y403)
               have hS537:sW w U U533 [B11,B0,B12] W503:=hS536
               have q:=bnd hm395
               obtain ⟨⟨x538,x539⟩,h540,hm541⟩:=q
               try dsimp only at hm541
               refine zM 0 Z Z Z Z (zN Z Z Tryz.call50 (zB Z (zB Z zR)) Z) hS537 (fun hs=>wDZ y402 A349 c350 (w64 (x50 + 1)) W503 U533 hs hs535 h540) (.inr Z) ?_
               rintro U542 L543 v544 W545 le546 hS547 ⟨rfl,rfl⟩
               have hS548:sW w U U542 [B11,B0,B12] W545:=hS547
               refine oM Z Z (oR Z (ZC Z Z (v:=.bool x538) Z) (oR Z (ZC Z Z (v:=jV x539) Z) (oA Z Z (oA Z Z (eN (sR (wFK (.fx 3 (wOy (.nil)) .stop)) Z (oM Z f522 (oM Z f524 (oM Z f527 ?_)))))))))
               have q:=hS548.freezeR (k:=2) (n:=y403.length) rfl (wAG (f:=KL.encI) (sz:=1) (fun _=>rfl) y403) (by decide)
               obtain ⟨U549,le550,hs551,hS552⟩:=q
               have hS553:sW w U U549 [B11,B0] W545:=hS552
               have h554:=h339.le le347
               have h555:=h554.le le520
               have h556:=h555.le le534
               have h557:=h556.le le546
               have h558:=h557.le le550
               have q:=bnd hm541
               obtain ⟨⟨x559,x560⟩,h561,hm562⟩:=q
               try dsimp only at hm562
               refine zM 0 Z Z Z Z (zN Z Z Tryz.call51 (zB Z (zB Z (zB Z zR))) Z) hS553 (fun hs=>wCq x16 A26 c27 (w64 (x50 + 1)) y403 A517 c518 W545 U549 hs h558 hs551 h561) (.inr Z) ?_
               rintro U563 L564 v565 W566 le567 hS568 ⟨rfl,rfl⟩
               have hS569:sW w U U563 [B11,B0] W566:=hS568
               refine oM Z Z (oR Z (ZC Z Z (v:=.bool x559) Z) (oR Z (ZC Z Z (v:=jV x560) Z) (oA Z Z (oA Z Z (eN (bnK hm562 fun b570 hx572 hm573=>CK.cut (fun σ_ w_=>∃ (U_:PHeap),σ_ 7=.slice A26 x16.length c27/\σ_ 8=.pointer (some ⟨b44,0,none⟩)/\σ_ 9=jV (w64 (x50 + 1))/\σ_ 10=jV x65/\σ_ 155=jV (↑k305:Int)/\σ_ 218=.bool b570/\PHeap.Le U563 U_/\sW w U U_ [B11,B0] w_) ?_ ?_))))))
               ·refine rR fL22 Z (oM Z Z (oR Z (zz Z Z Z) (oM Z Z ?_)))
                by_cases c574:x539=0
                ·have hm575:=hx572;rw [if_pos c574] at hm575;replace c574:=zF c574
                 refine zU Z Z Z (zJ Z Z (zX (fun h=>h c574.out))) Z Z (zp Z Z Z (zJ Z Z (zX (fun h=>h c574.out))) (fun _=>zz Z Z Z) (oR Z (zQ Z (zX (fun h=>h c574.out)) Z) (oM Z Z (ifc hm575 ?_ ?_))))
                 ·intro c576 hm577
                  refine zU Z Z Z (zJ Z Z (zX (fun h=>h c576.out))) Z Z (zU Z Z Z (zJ Z Z (zX (fun h=>h c576.out))) Z Z (ifc hm577 ?_ ?_))
                  ·intro c578 hm579
                   refine zU Z Z Z (zJ Z Z (congrArg nB c578.out)) Z f525 (zp Z Z Z (zJ Z Z (congrArg nB c578.out)) (fun _=>Runs.gtr Z Z Z) (zp Z Z Z (zJ Z Z (zX (fun h=>h c576.out))) (fun _=>zE Z (congrArg nB c578.out) Z) (oR Z (zQ Z (zX (fun h=>h c576.out)) Z) (oM Z Z (ifc hm579 ?_ ?_)))))
                   ·intro c580 hm581
                    refine oT Z c580 (oT Z c580 (zt Z Z Z (wBG Z Z Z) (zt Z Z Z (wBG Z Z Z) (zt Z Z Z (wBG Z Z Z) (zt Z Z Z (wBG Z Z Z) (oT Z c580 (oR Z (zE Z (wDq c580.out) Z) (zo ?_))))))))
                    cases hm581
                    exact zK ⟨Z,⟨U563,f522,f523,f524,f525,f528,Z,(zP _),hS569⟩⟩
                   ·intro c580 hm583
                    refine zU Z Z Z (wF Z c580) Z Z (zU Z Z Z (wF Z c580) Z Z (ifc hm583 ?_ ?_))
                    ·intro c584 hm585
                     refine zU Z Z Z (zJ Z Z (congrArg nB c584.out)) Z f527 (zp Z Z Z (zJ Z Z (congrArg nB c584.out)) (fun _=>zk Z Z zO) (zU Z Z Z (zJ Z Z (congrArg nB c584.out)) Z f525 (zp Z Z Z (zJ Z Z (congrArg nB c584.out)) (fun _=>Runs.gtr Z Z Z) (rU Z (wF Z c580) (zE Z (congrArg nB c584.out) Z) (oR Z (zQ Z (zX c580.out) Z) (zo ?_))))))
                     cases hm585
                     exact zK ⟨Z,⟨U563,f522,f523,f524,f525,f528,Z,(zP _),hS569⟩⟩
                    ·intro c584 hm587
                     refine zt Z Z Z (zm Z Z (congrArg nB (nD.2 c584.out)) Z) (zt Z Z Z (zm Z Z (congrArg nB (nD.2 c584.out)) Z) (zt Z Z Z (zm Z Z (congrArg nB (nD.2 c584.out)) Z) (zt Z Z Z (zm Z Z (congrArg nB (nD.2 c584.out)) Z) (rU Z (wF Z c580) (zQ Z (congrArg nB (nD.2 c584.out)) Z) (oR Z (zQ Z (zX c580.out) Z) (zo ?_))))))
                     cases hm587
                     exact zK ⟨Z,⟨U563,f522,f523,f524,f525,f528,Z,(zP _),hS569⟩⟩
                  ·intro c578 hm589
                   refine zt Z Z Z (zm Z Z (congrArg nB (nD.2 c578.out)) Z) (zt Z Z Z (zm Z Z (congrArg nB (nD.2 c578.out)) Z) (zp Z Z Z (zJ Z Z (zX (fun h=>h c576.out))) (fun _=>zQ Z (congrArg nB (nD.2 c578.out)) Z) (oR Z (zQ Z (zX (fun h=>h c576.out)) Z) (oM Z Z (zU Z Z Z (zJ Z Z Z) Z Z (zU Z Z Z (zJ Z Z Z) Z Z (ifc hm589 ?_ ?_)))))))
                   ·intro c590 hm591
                    refine zU Z Z Z (zJ Z Z (congrArg nB c590.out)) Z f527 (zp Z Z Z (zJ Z Z (congrArg nB c590.out)) (fun _=>zk Z Z zO) (zU Z Z Z (zJ Z Z (congrArg nB c590.out)) Z f525 (zp Z Z Z (zJ Z Z (congrArg nB c590.out)) (fun _=>Runs.gtr Z Z Z) (zp Z Z Z (zJ Z Z Z) (fun _=>zE Z (congrArg nB c590.out) Z) (oR Z (zQ Z Z Z) (zo ?_))))))
                    cases hm591
                    exact zK ⟨Z,⟨U563,f522,f523,f524,f525,f528,Z,(zP _),hS569⟩⟩
                   ·intro c590 hm593
                    refine zt Z Z Z (zm Z Z (congrArg nB (nD.2 c590.out)) Z) (zt Z Z Z (zm Z Z (congrArg nB (nD.2 c590.out)) Z) (zt Z Z Z (zm Z Z (congrArg nB (nD.2 c590.out)) Z) (zt Z Z Z (zm Z Z (congrArg nB (nD.2 c590.out)) Z) (zp Z Z Z (zJ Z Z Z) (fun _=>zQ Z (congrArg nB (nD.2 c590.out)) Z) (oR Z (zQ Z Z Z) (zo ?_))))))
                    cases hm593
                    exact zK ⟨Z,⟨U563,f522,f523,f524,f525,f528,Z,(zP _),hS569⟩⟩
                 ·intro c576 hm595
                  refine oT Z c576 (oT Z c576 (zt Z Z Z (wBG Z Z Z) (zt Z Z Z (wBG Z Z Z) (oT Z c576 (oR Z (zE Z (wDq c576.out) Z) (oM Z Z (oN Z (oN Z (zt Z Z Z (wBG Z Z Z) (zt Z Z Z (wBG Z Z Z) (zt Z Z Z (wBG Z Z Z) (zt Z Z Z (wBG Z Z Z) (oN Z (oR Z (zE Z Z Z) (zo ?_)))))))))))))))
                  cases hm595
                  exact zK ⟨Z,⟨U563,f522,f523,f524,f525,f528,Z,(zP _),hS569⟩⟩
                ·have hm597:=hx572;rw [if_neg c574] at hm597;replace c574:=zF c574
                 refine oT Z c574 (oT Z c574 (oR Z (zE Z (wDq c574.out) Z) (oM Z Z (oN Z (oN Z (zt Z Z Z (wBG Z Z Z) (zt Z Z Z (wBG Z Z Z) (oN Z (oR Z (zE Z Z Z) (oM Z Z (oN Z (oN Z (zt Z Z Z (wBG Z Z Z) (zt Z Z Z (wBG Z Z Z) (zt Z Z Z (wBG Z Z Z) (zt Z Z Z (wBG Z Z Z) (oN Z (oR Z (zE Z Z Z) (zo ?_)))))))))))))))))))
                 cases hm597
                 exact zK ⟨Z,⟨U563,f522,f523,f524,f525,f528,Z,(zP _),hS569⟩⟩
               ·rintro σ599 W600 ⟨U601,f604,f605,f606,f607,f608,f609,le602,hS603⟩
                refine ifc hm573 ?_ ?_
                ·intro c610 hm611
                 refine zi (f609.trans (congrArg nB c610.out)) (sR fL1 Z (oA Z Z (eN (zL (zW (zG ?_))))))
                 have q:=wAo hm611
                 obtain ⟨v612,hm613,e614⟩:=q
                 obtain rfl:=wBl hm281 hX307 (hb324 v612 e614)
                 refine zG (zW (zG ?_))
                 have hE:=nA hm613;first | subst r | cases hE
                 exact ⟨rfl,_,(ze rfl),U601,_,(hS603.pick [] _ (by decide) rfl),rfl,rfl⟩
                ·intro c610 hm615
                 refine zq (f609.trans (congrArg nB (nD.2 c610.out))) (CK.skip (zn (zK (rR fL2 Z (oR Z (zy (zZ Z f608 Z) (congrArg (jV) hi336.out)) (oM Z Z (zo ?_)))))))
                 obtain rfl:=nA hm615
                 have h621:=h530.le le534
                 have h622:=h621.le le546
                 have h623:=h622.le le550
                 have h624:=h623.le le567
                 have h625:=h624.le le602
                 exact zK ⟨Z,_,Z,⟨U601,A515,c516,Z,f604,f605,f606,f607,(((((((le328.trans le347).trans le520).trans le534).trans le546).trans le550).trans le567).trans le602),hS603,h625⟩⟩
             ·rintro ⟨y630,y631,y632⟩ σ626 W627 ⟨U635,A633,c634,fi629,f638,f639,f640,f641,le636,hS637,h642⟩ hb628
              have hm643:=wDP hm281 hX307 hb628
              try dsimp only at hm643
              have c644:Hid (¬ ((↑((5:Int) - 0).toNat:Int) < 5)):=zF (wBL)
              refine sR fL1 Z (oR Z (zY Z fi629 Z) (eN (zH (cF Z c644 (ZD (zl (zl (ZA (zK (sR (wFK (.fx 3 (.fl 4 (.fl 5 (.fx 6 (wPB (.nil)) .stop))) .stop)) Z (oM Z f638 (oM Z f640 (oM Z f639 ?_)))))))))))))
              have q:=bnd hm643
              obtain ⟨⟨x645,x646⟩,h647,hm648⟩:=q
              try dsimp only at hm648
              refine zM 1 Z Z Z Z (zN Z Z Tryz.call55 (zB Z (zB Z zR)) Z) hS637 (fun hs=>wAP (⟨y630,y631,y632⟩:wAC) b44 A633 c634 40 W627 U635 hs h642 h647) (.inl Z) ?_
              rintro U649 L650 v651 W652 le653 hS654 ⟨A655,c656,rfl,rfl,h657⟩
              let B13:Res:=.blk b44 184 [.slice A655 x646.bytes.length c656,jV x646.next,.int .u32 x646.state]
              have hS658:sW w U U649 [B13,B0] W652:=hS654
              refine oR Z (Runs.subw Z Z Z) (oR Z (Runs.max Z Z Z) ?_)
              have h659:=h167.le le176
              have h660:=h659.le le273
              have h661:=h660.le le636
              have h662:=h661.le le653
              have q:=bnd hm648
              obtain ⟨⟨x663,x664⟩,h665,hm666⟩:=q
              try dsimp only at hm666
              refine zM 0 Z Z Z Z (zN Z Z Tryz.call47 (zB Z (zB Z zR)) Z) hS658 (fun hs=>wDY x16 A26 c27 (max 1 (w64 ((w64 (x50 + 1)) - x645))) W652 U649 hs h662 h665) (.inr Z) ?_
              rintro U667 L668 v669 W670 le671 hS672 ⟨rfl,rfl⟩
              have hS673:sW w U U667 [B13,B0] W670:=hS672
              refine oM Z Z (oR Z (ZC Z Z (v:=jV x663) Z) (oR Z (ZC Z Z (v:=jV x664) Z) (oA Z Z (oA Z Z (eN (sR (wOt (.fx 8 (.fl 9 (.fl 10 (.nil))) .stop)) Z (oM Z Z (oR Z (Runs.eql Z Z Z) (oM Z Z (ifc hm666 ?_ ?_))))))))))
              ·intro c674 hm675
               refine zU Z Z Z (wT Z c674) Z Z (zU Z Z Z (wT Z c674) Z f641 (rU Z (wT Z c674) (Runs.leq Z Z Z) (oR Z (zE Z (wDq c674.out) Z) (oM Z Z (ifc hm675 ?_ ?_)))))
               ·intro c676 hm677
                refine bnK hm677 fun x678 h679 hm680=>zM 0 Z Z Z (wT Z c676) (zN Z Z Tryz.call45 zR Z) hS673 (fun hs=>wCn W670 U667 hs h679) (.inr Z) ?_
                rintro U681 L682 v683 W684 le685 hS686 ⟨rfl,rfl⟩
                have hS687:sW w U U681 [B13,B0] W684:=hS686
                refine oR Z (zE Z (wDq c676.out) Z) (oA Z Z (eN (zL ?_)))
                have hE:=nA hm680;first | subst r | cases hE
                exact ⟨rfl,_,(ze rfl),U681,_,(hS687.pick [] _ (by decide) rfl),rfl,rfl⟩
               ·intro c676 hm688
                refine OKS.px Z Z Z (zm Z Z (zX c676.out) Z) (oR Z (zQ Z (zX c676.out) Z) (oA Z Z (eN (zL ?_))))
                have hE:=nA hm688;first | subst r | cases hE
                exact ⟨rfl,_,(ze rfl),U667,_,(hS673.pick [] _ (by decide) rfl),rfl,rfl⟩
              ·intro c674 hm689
               refine oF Z c674 (oF Z c674 (oF Z c674 (oR Z (zQ Z (zX c674.out) Z) (oM Z Z (OKS.px Z Z Z (zm Z Z Z Z) (oR Z (zQ Z Z Z) (oA Z Z (eN (zL ?_)))))))))
               have hE:=nA hm689;first | subst r | cases hE
               exact ⟨rfl,_,(ze rfl),U667,_,(hS673.pick [] _ (by decide) rfl),rfl,rfl⟩
           ·intro c185 hm690
            refine zi (nF (c185.out)) (sR fL1 Z (oA Z Z (eN (zL (zG ?_)))))
            have hE:=nA hm690;first | subst r | cases hE
            exact ⟨rfl,_,(ze rfl),U172,_,(hS178.pick [] _ (by decide) rfl),rfl,rfl⟩
          ·intro c183 hm691
           refine zt Z Z Z (zm Z Z (nF (c183.out)) Z) (zt Z Z Z (zm Z Z (nF (c183.out)) Z) (oR Z (zE Z (nF (c183.out)) Z) (eN (zi Z (sR fL1 Z (oA Z Z (eN (zL (zG ?_)))))))))
           have hE:=nA hm691;first | subst r | cases hE
           exact ⟨rfl,_,(ze rfl),U172,_,(hS178.pick [] _ (by decide) rfl),rfl,rfl⟩
         ·intro c181 hm692
          refine oT Z c181 (oT Z c181 (oR Z (zE Z (wDq c181.out) Z) (oM Z Z (oN Z (oN Z (oR Z (zE Z Z Z) (eN (zi Z (sR fL1 Z (oA Z Z (eN (zL (zG ?_)))))))))))))
          have hE:=nA hm692;first | subst r | cases hE
          exact ⟨rfl,_,(ze rfl),U172,_,(hS178.pick [] _ (by decide) rfl),rfl,rfl⟩
        ·intro c179 hm693
         refine oT Z c179 (oT Z c179 (oR Z (zE Z (wDq c179.out) Z) (oM Z Z (oN Z (oN Z (oR Z (zE Z Z Z) (oM Z Z (oN Z (oN Z (oR Z (zE Z Z Z) (eN (zi Z (sR fL1 Z (oA Z Z (eN (zL (zG ?_)))))))))))))))))
         have hE:=nA hm693;first | subst r | cases hE
         exact ⟨rfl,_,(ze rfl),U172,_,(hS178.pick [] _ (by decide) rfl),rfl,rfl⟩
       ·intro c130 hm694
        refine zi (nF (c130.out)) (sR fL1 Z (oA Z Z (eN (zL (zG ?_)))))
        have hE:=nA hm694;first | subst r | cases hE
        exact ⟨rfl,_,(ze rfl),U96,_,(hS105.pick [] _ (by decide) rfl),rfl,rfl⟩
     ·intro c125 hm695
      refine oT Z c125 (oT Z c125 (oT Z c125 (oT Z c125 (oR Z (zE Z (wDq c125.out) Z) (oM Z Z (oN Z (oN Z (oN Z (oN Z (oN Z (oN Z (oR Z (zE Z Z Z) (eN (zi Z (sR fL1 Z (oA Z Z (eN (zL (zG ?_)))))))))))))))))))
      have hE:=nA hm695;first | subst r | cases hE
      exact ⟨rfl,_,(ze rfl),U96,_,(hS105.pick [] _ (by decide) rfl),rfl,rfl⟩
    ·intro c123 hm696
     refine oT Z c123 (oT Z c123 (oT Z c123 (oT Z c123 (oT Z c123 (oR Z (zE Z (wDq c123.out) Z) (oM Z Z (oN Z (oN Z (oN Z (oN Z (oR Z (zE Z Z Z) (oM Z Z (oN Z (oN Z (oN Z (oN Z (oN Z (oN Z (oR Z (zE Z Z Z) (eN (zi Z (sR fL1 Z (oA Z Z (eN (zL (zG ?_))))))))))))))))))))))))))
     have hE:=nA hm696;first | subst r | cases hE
     exact ⟨rfl,_,(ze rfl),U96,_,(hS105.pick [] _ (by decide) rfl),rfl,rfl⟩
   ·intro c121 hm697
    refine oT Z c121 (oT Z c121 (oT Z c121 (oT Z c121 (oR Z (zE Z (wDq c121.out) Z) (oM Z Z (oN Z (oN Z (oN Z (oN Z (oN Z (oR Z (zE Z Z Z) (oM Z Z (oN Z (oN Z (oN Z (oN Z (oR Z (zE Z Z Z) (oM Z Z (oN Z (oN Z (oN Z (oN Z (oN Z (oN Z (oR Z (zE Z Z Z) (eN (zi Z (sR fL1 Z (oA Z Z (eN (zL (zG ?_))))))))))))))))))))))))))))))))
    have hE:=nA hm697;first | subst r | cases hE
    exact ⟨rfl,_,(ze rfl),U96,_,(hS105.pick [] _ (by decide) rfl),rfl,rfl⟩
  ·intro c119 hm698
   refine oT Z c119 (oT Z c119 (oR Z (zE Z (wDq c119.out) Z) (oM Z Z (oN Z (oN Z (oN Z (oN Z (oR Z (zE Z Z Z) (oM Z Z (oN Z (oN Z (oN Z (oN Z (oN Z (oR Z (zE Z Z Z) (oM Z Z (oN Z (oN Z (oN Z (oN Z (oR Z (zE Z Z Z) (oM Z Z (oN Z (oN Z (oN Z (oN Z (oN Z (oN Z (oR Z (zE Z Z Z) (eN (zi Z (sR fL1 Z (oA Z Z (eN (zL (zG ?_))))))))))))))))))))))))))))))))))))
   have hE:=nA hm698;first | subst r | cases hE
   exact ⟨rfl,_,(ze rfl),U96,_,(hS105.pick [] _ (by decide) rfl),rfl,rfl⟩
 ·intro c117 hm699
  refine oT Z c117 (oT Z c117 (oR Z (zE Z (wDq c117.out) Z) (oM Z Z (oN Z (oN Z (oR Z (zE Z Z Z) (oM Z Z (oN Z (oN Z (oN Z (oN Z (oR Z (zE Z Z Z) (oM Z Z (oN Z (oN Z (oN Z (oN Z (oN Z (oR Z (zE Z Z Z) (oM Z Z (oN Z (oN Z (oN Z (oN Z (oR Z (zE Z Z Z) (oM Z Z (oN Z (oN Z (oN Z (oN Z (oN Z (oN Z (oR Z (zE Z Z Z) (eN (zi Z (sR fL1 Z (oA Z Z (eN (zL (zG ?_))))))))))))))))))))))))))))))))))))))))
  have hE:=nA hm699;first | subst r | cases hE
  exact ⟨rfl,_,(ze rfl),U96,_,(hS105.pick [] _ (by decide) rfl),rfl,rfl⟩
end Go.Proofs.YthbficbpebiekaaGreat
