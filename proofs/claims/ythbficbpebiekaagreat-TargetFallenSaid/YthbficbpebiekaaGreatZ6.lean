import Derived.Test.YthbficbpebiekaaGreatZ5
open List renaming flatMap->nA,set->nH,getElem_cons_succ->nI,getElem_cons_zero->nJ,getElem_toArray->nK,length_cons->nL,length_nil->nM,length_set->nN,length_append->nP
open Option.some renaming inj->nB
open Go.Value renaming bool->nD
open Bool renaming eq_false_iff->nE
open Prod.mk renaming injEq->nG
open Nat renaming blt->nO,le_of_ble_eq_true->nQ
open Eq renaming trans->nR
open Option renaming map->nS
namespace Go.Proofs.YthbficbpebiekaaGreat
open Go.KL
set_option maxHeartbeats 4000000
theorem Z {α:Type} {a:α}:a=a:=rfl
section
variable {r:Option Nat} {N:Nat} {P:Program} {l:List Oper} {Q:wBh} {D:List Deferred} {ks:List Nat} {σ:Env} {w:World} {i d j e:Nat} {s:Sch} {o:Oper} {b:Bool} {x:Operand} {v:Value} {p:Prop} {inst:Decidable p} {K:List Deferred->Env->World->Prop} {c1 c2:Code}
abbrev jV (n:Int):Value:=.int .i64 n
abbrev SW (w:World) (X:List Res) (U U':PHeap) (L:List Res) (w':World):Prop:=St ⟨w,X,U⟩ U' L w'
abbrev sW (w:World) (U U':PHeap) (L:List Res) (w':World):Prop:=St ⟨w,[],U⟩ U' L w'
abbrev St0 (w:World) (U:PHeap) (L:List Res):Prop:=St ⟨w,L,U⟩ U L w
theorem ifc {α:Type} {G p:Prop} {inst:Decidable p} {a b r:α} (h:@ite α p inst a b=r) (h1:Hid p->a=r->G) (h2:Hid (¬ p)->b=r->G):G:=by
 by_cases c:p
 · rw [if_pos c] at h;exact h1 ⟨c⟩ h
 · rw [if_neg c] at h;exact h2 ⟨c⟩ h
theorem bnK {α β:Type} {G:Prop} {o:Option α} {f:α->Option β} {r:β} (h:o.bind f=some r) (k:∀ x,o=some x->f x=some r->G):G:=by
 obtain ⟨x,h1,h2⟩:=bnd h
 exact k x h1 h2
theorem oR (h:(l[i]?,o.dst,nO d N,wanted l σ o)=(some o,some d,true,true)) (hr:∀ {w'},Runs P σ w' o v w') (k:OKS N P l Q D ks s (upd σ d v) w):OKS N P l Q D ks (.fl i s) σ w:=by
 simp only [nG] at h;exact OKS.r h.1 h.2.1 h.2.2.1 h.2.2.2 (fun _=>hr) k
theorem oL (h:(l[i]?,o.dst,nO d N,wanted l σ o,wNG (kOf ks i))=(some o,some d,true,true,false)) (hr:wDR P σ w o v) (k:OKS N P l Q D ks s (upd σ d v) w):OKS N P l Q D ks (.fl i s) σ w:=by
 simp only [nG] at h;exact OKS.m h.1 h.2.1 h.2.2.1 h.2.2.2.1 hr h.2.2.2.2 k
theorem oM (h:(l[i]?,o.dst,nO d N,wanted l σ o,o.op)=(some o,some d,true,true,.move x)) (hx:ev σ x=v) (k:OKS N P l Q D ks s (upd σ d v) w):OKS N P l Q D ks (.fl i s) σ w:=by
 simp only [nG] at h;exact OKS.rm h.1 h.2.1 h.2.2.1 h.2.2.2.1 h.2.2.2.2 hx k
theorem oA (h:(l[i]?,o.dst,nO d N,wanted l σ o,o.op)=(some o,some d,true,true,.assign x)) (hx:ev σ x=v) (k:OKS N P l Q D ks s (upd σ d v) w):OKS N P l Q D ks (.fl i s) σ w:=by
 simp only [nG] at h;exact OKS.ra h.1 h.2.1 h.2.2.1 h.2.2.2.1 h.2.2.2.2 hx k
theorem oF (h:(l[i]?,o.dst,nO d N,o.guard,(l[j]?).bind (·.dst),σ e,false == b)=(some o,some d,true,some (j,b),some e,.bool (decide p),false)) (c:Hid (¬ p)) (k:OKS N P l Q D ks s (upd σ d undef) w):OKS N P l Q D ks (.fl i s) σ w:=by
 simp only [nG] at h;exact OKS.p h.1 h.2.1 h.2.2.1 (wEC h.2.2.2.1 h.2.2.2.2.1 (h.2.2.2.2.2.1.trans (wNF c.out)) h.2.2.2.2.2.2) k
theorem oT (h:(l[i]?,o.dst,nO d N,o.guard,(l[j]?).bind (·.dst),σ e,true == b)=(some o,some d,true,some (j,b),some e,.bool (decide p),false)) (c:Hid p) (k:OKS N P l Q D ks s (upd σ d undef) w):OKS N P l Q D ks (.fl i s) σ w:=by
 simp only [nG] at h;exact OKS.p h.1 h.2.1 h.2.2.1 (wEC h.2.2.2.1 h.2.2.2.2.1 (h.2.2.2.2.2.1.trans (wDt c.out)) h.2.2.2.2.2.2) k
theorem oN {b2:Bool} (h:(l[i]?,o.dst,nO d N,o.guard,(l[j]?).bind (·.dst),σ e,b2 == b)=(some o,some d,true,some (j,b),some e,.bool b2,false)) (k:OKS N P l Q D ks s (upd σ d undef) w):OKS N P l Q D ks (.fl i s) σ w:=by
 simp only [nG] at h;exact OKS.p h.1 h.2.1 h.2.2.1 (wEC h.2.2.2.1 h.2.2.2.2.1 h.2.2.2.2.2.1 h.2.2.2.2.2.2) k
theorem nC {a b:Bool} (h:a=b):nD (!a)=nD (!b):=h ▸ rfl
theorem nF {a:Bool} (h:¬ a=true):nD (!a)=nD (!false):=nC (nE.2 h)
theorem wT (h:(o.guard,(l[j]?).bind (·.dst),σ e)=(some (j,true),some e,.bool (decide p))) (c:Hid p):wanted l σ o=true:=by
 simp only [nG] at h;exact wFO h.1 h.2.1 (h.2.2.trans (wDt c.out))
theorem wF (h:(o.guard,(l[j]?).bind (·.dst),σ e)=(some (j,false),some e,.bool (decide p))) (c:Hid (¬ p)):wanted l σ o=true:=by
 simp only [nG] at h;exact wFO h.1 h.2.1 (h.2.2.trans (wNF c.out))
theorem rU (h:(l[i]?,o.dst,nO d N)=(some o,some d,true)) (hw:wanted l σ o=true) (hr:∀ {w'},Runs P σ w' o v w') (k:OKS N P l Q D ks s (upd σ d v) w):OKS N P l Q D ks (.fl i s) σ w:=by
 simp only [nG] at h;exact OKS.r h.1 h.2.1 h.2.2 hw (fun _=>hr) k
theorem sR {id:Nat} (s:Sch) (hs:inOrder 0 s l.length=true) (h:OKS N P l (wCv (fun D σ w=>CK r N P c2 Q D σ w) Q) D [] s σ w):CK r N P (.seq (.region id l.toArray false) c2) Q D σ w:=CK.seq (CK.reg s hs h)
theorem rR {id:Nat} (s:Sch) (hs:inOrder 0 s l.length=true) (h:OKS N P l Q D [] s σ w):CK r N P (.region id l.toArray false) Q D σ w:=CK.reg s hs h
theorem eN (h:K D σ w):OKS N P l (wCv K Q) D ks .nil σ w:=OKS.e (wFK h)
theorem cT (hz:ev σ x=.bool (decide p)) (c:Hid p) (h:CK r N P c1 Q D σ w):CK r N P (.cond x c1 c2) Q D σ w:=CK.condT (hz.trans (wDt c.out)) h
theorem cF (hz:ev σ x=.bool (decide p)) (c:Hid (¬ p)) (h:CK r N P c2 Q D σ w):CK r N P (.cond x c1 c2) Q D σ w:=CK.condF (hz.trans (wNF c.out)) h
theorem kN (h:K D σ w):CK r N P .skip (wCv K Q) D σ w:=CK.skip (wFK h)
end
def fL1:Sch:=.fl 0 (.nil)
def fL2:Sch:=.fl 0 (.fl 1 (.nil))
def fL3:Sch:=.fl 0 (.fl 1 (.fl 2 (.nil)))
def fL4:Sch:=.fl 0 (.fl 1 (.fl 2 (.fl 3 (.nil))))
def fL5:Sch:=.fl 0 (.fl 1 (.fl 2 (.fl 3 (.fl 4 (.nil)))))
def fL6:Sch:=.fl 0 (.fl 1 (.fl 2 (.fl 3 (.fl 4 (.fl 5 (.nil))))))
def fL7:Sch:=.fl 0 (.fl 1 (.fl 2 (.fl 3 (.fl 4 (.fl 5 (.fl 6 (.nil)))))))
def fL9:Sch:=.fl 0 (.fl 1 (.fl 2 (.fl 3 (.fl 4 (.fl 5 (.fl 6 (.fl 7 (.fl 8 (.nil)))))))))
def fL10:Sch:=.fl 0 (.fl 1 (.fl 2 (.fl 3 (.fl 4 (.fl 5 (.fl 6 (.fl 7 (.fl 8 (.fl 9 (.nil))))))))))
def fL11:Sch:=.fl 0 (.fl 1 (.fl 2 (.fl 3 (.fl 4 (.fl 5 (.fl 6 (.fl 7 (.fl 8 (.fl 9 (.fl 10 (.nil)))))))))))
def fL13:Sch:=.fl 0 (.fl 1 (.fl 2 (.fl 3 (.fl 4 (.fl 5 (.fl 6 (.fl 7 (.fl 8 (.fl 9 (.fl 10 (.fl 11 (.fl 12 (.nil)))))))))))))
def fL15:Sch:=.fl 0 (.fl 1 (.fl 2 (.fl 3 (.fl 4 (.fl 5 (.fl 6 (.fl 7 (.fl 8 (.fl 9 (.fl 10 (.fl 11 (.fl 12 (.fl 13 (.fl 14 (.nil)))))))))))))))
def fL16:Sch:=.fl 0 (.fl 1 (.fl 2 (.fl 3 (.fl 4 (.fl 5 (.fl 6 (.fl 7 (.fl 8 (.fl 9 (.fl 10 (.fl 11 (.fl 12 (.fl 13 (.fl 14 (.fl 15 (.nil))))))))))))))))
def fL19:Sch:=.fl 0 (.fl 1 (.fl 2 (.fl 3 (.fl 4 (.fl 5 (.fl 6 (.fl 7 (.fl 8 (.fl 9 (.fl 10 (.fl 11 (.fl 12 (.fl 13 (.fl 14 (.fl 15 (.fl 16 (.fl 17 (.fl 18 (.nil)))))))))))))))))))
def fL30:Sch:=.fl 0 (.fl 1 (.fl 2 (.fl 3 (.fl 4 (.fl 5 (.fl 6 (.fl 7 (.fl 8 (.fl 9 (.fl 10 (.fl 11 (.fl 12 (.fl 13 (.fl 14 (.fl 15 (.fl 16 (.fl 17 (.fl 18 (.fl 19 (.fl 20 (.fl 21 (.fl 22 (.fl 23 (.fl 24 (.fl 25 (.fl 26 (.fl 27 (.fl 28 (.fl 29 (.nil))))))))))))))))))))))))))))))
def wNz (s:Sch):Sch:=.fl 0 (.fl 1 (.fl 2 (s)))
def fC0_3 (s:Sch):Sch:=.fl 0 (.fl 1 (.fl 2 (.fl 3 (s))))
def wOA (s:Sch):Sch:=.fl 0 (.fl 1 (.fl 2 (.fl 3 (.fl 4 (s)))))
def wOB (s:Sch):Sch:=.fl 0 (.fl 1 (.fl 2 (.fl 3 (.fl 4 (.fl 5 (s))))))
def wOC (s:Sch):Sch:=.fl 0 (.fl 1 (.fl 2 (.fl 3 (.fl 4 (.fl 5 (.fl 6 (s)))))))
def wOD (s:Sch):Sch:=.fl 0 (.fl 1 (.fl 2 (.fl 3 (.fl 4 (.fl 5 (.fl 6 (.fl 7 (.fl 8 (.fl 9 (.fl 10 (.fl 11 (.fl 12 (s)))))))))))))
def wOE (s:Sch):Sch:=.fl 0 (.fl 1 (.fl 2 (.fl 3 (.fl 4 (.fl 5 (.fl 6 (.fl 7 (.fl 8 (.fl 9 (.fl 10 (.fl 11 (.fl 12 (.fl 13 (.fl 14 (s)))))))))))))))
def wOF (s:Sch):Sch:=.fl 0 (.fl 1 (.fl 2 (.fl 3 (.fl 4 (.fl 5 (.fl 6 (.fl 7 (.fl 8 (.fl 9 (.fl 10 (.fl 11 (.fl 12 (.fl 13 (.fl 14 (.fl 15 (.fl 16 (.fl 17 (.fl 18 (.fl 19 (.fl 20 (.fl 21 (.fl 22 (s)))))))))))))))))))))))
def fC3_5 (s:Sch):Sch:=.fl 3 (.fl 4 (.fl 5 (s)))
def wIb (s:Sch):Sch:=.fl 3 (.fl 4 (.fl 5 (.fl 6 (.fl 7 (s)))))
def fC5_9 (s:Sch):Sch:=.fl 5 (.fl 6 (.fl 7 (.fl 8 (.fl 9 (s)))))
def fC6_8 (s:Sch):Sch:=.fl 6 (.fl 7 (.fl 8 (s)))
theorem zA:type_of% @wIe:=@wIe
theorem zB:type_of% @wFO:=@wFO
theorem zC:type_of% @Tryz.runUnderlying22:=@Tryz.runUnderlying22
theorem zD:type_of% @wIf:=@wIf
theorem zE:type_of% @wFK:=@wFK
theorem zF:type_of% @Hid.mk:=@Hid.mk
theorem zG:type_of% @Tryz.sizeOf3:=@Tryz.sizeOf3
theorem zH:type_of% @CK.seq:=@CK.seq
theorem zI:type_of% @wHI:=@wHI
theorem zJ:type_of% @OKS.rm:=@OKS.rm
theorem zK:type_of% @CK.ret:=@CK.ret
theorem zL:type_of% @OKS.callH:=@OKS.callH
theorem zM:type_of% @Enters.mk:=@Enters.mk
theorem zN:type_of% @Runs.pickT:=@Runs.pickT
theorem zO:type_of% @wEC:=@wEC
theorem zP:type_of% @Tryz.runUnderlying61:=@Tryz.runUnderlying61
theorem zQ:type_of% @OKS.r:=@OKS.r
theorem zR:type_of% @Tryz.runUnderlying184:=@Tryz.runUnderlying184
theorem zS:type_of% @PHeap.Le.refl:=@PHeap.Le.refl
theorem zU:type_of% @OKS.p:=@OKS.p
theorem zV:type_of% @Runs.pickF:=@Runs.pickF
theorem zW:type_of% @Runs.addw:=@Runs.addw
theorem zX:type_of% @wLT:=@wLT
theorem zY:type_of% @wNF:=@wNF
theorem zZ:type_of% @Tryz.isAgg3:=@Tryz.isAgg3
theorem zd:type_of% @CK.block:=@CK.block
theorem ze:type_of% @Runs.to:=@Runs.to
theorem zf:type_of% @nQ:=@nQ
theorem zg:type_of% @OKS.e:=@OKS.e
theorem zh:type_of% @wId:=@wId
theorem zi:type_of% @Runs.len:=@Runs.len
theorem zj:type_of% @Runs.lss:=@Runs.lss
theorem zk:type_of% @res1:=@res1
theorem zl:type_of% @CK.condF:=@CK.condF
theorem zm:type_of% @wHH:=@wHH
theorem zn:type_of% @Tryz.sizeOf67:=@Tryz.sizeOf67
theorem zo:type_of% @Tryz.runUnderlying69:=@Tryz.runUnderlying69
theorem zp:type_of% @Runs.neq:=@Runs.neq
theorem zq:type_of% @Tryz.sizeOf4:=@Tryz.sizeOf4
theorem zr:type_of% @Runs.fa:=@Runs.fa
theorem zt:type_of% @Runs.ext:=@Runs.ext
theorem zu:type_of% @Runs.nilp:=@Runs.nilp
theorem zw:type_of% @Tryz.runUnderlying182:=@Tryz.runUnderlying182
theorem zx:type_of% @wFL:=@wFL
theorem zy:type_of% @Runs.iaA:=@Runs.iaA
theorem zz:type_of% @Runs.notT:=@Runs.notT
end Go.Proofs.YthbficbpebiekaaGreat
namespace Go.Proofs.YthbficbpebiekaaGreat
open Go.KL
set_option maxHeartbeats 4000000
theorem wCR (p0:List Int) (pA0:Option Addr) (pc0:Nat) (w:World) (U:PHeap) (hS:St0 w U []) (ha0:Sl U 1 pA0 pc0 p0.length (nA KL.encB8 p0)) {r:wAB} (hm:wAl p0=some r):Gv Tryz.prog 29 [.slice pA0 p0.length pc0] w (wEB w [] U (fun U_ L_ v=>∃ (b0:Nat) (A0p0:Option Addr) (c0p0:Nat),v=.pointer (some ⟨b0,0,none⟩)/\L_=[.blk b0 184 [.slice A0p0 r.bytes.length c0p0,jV r.next,.int .u32 r.state]]/\Sl U_ 1 A0p0 c0p0 r.bytes.length (nA KL.encB8 r.bytes))):=by
 unfold wAl at hm
 refine Gv.of Tryz.func29 Z Tryz.ntmps29 Tryz.results29 Z (sR fL1 Z (oA Z Z (eN (sR (.fl 0 (.fl 1 (.fx 2 (.fl 3 (.nil)) .stop))) Z (oM Z Z ?_)))))
 let B0:List Value:=[.slice pA0 p0.length pc0,jV 0,.int .u32 17]
 refine zQ rfl rfl rfl rfl (fun _=>Runs.build (pv:=[(0,.slice pA0 p0.length pc0),(2,.int .u32 17)]) (z:=[.slice none 0 0,jV 0,.int .u32 0]) (cs:=B0) rfl (wBK rfl (wBK rfl wCL)) Tryz.zeroValue184 wKM rfl rfl) (OKS.box (cs:=B0) rfl rfl rfl rfl rfl rfl (by rfl) hS ?_)
 intro W1 b2 hS3
 refine oA Z Z (eN (zK ?_))
 cases hm
 exact ⟨Z,_,(zk Z),U,_,hS3,b2,pA0,pc0,Z,Z,ha0⟩
theorem wAm (p0:wAB) (pb0:Nat) (pA0_0:Option Addr) (pc0_0:Nat) (p1:Int) (w:World) (U:PHeap) (hS:St0 w U [.blk pb0 184 [.slice pA0_0 p0.bytes.length pc0_0,jV p0.next,.int .u32 p0.state]]) (ha0:Sl U 1 pA0_0 pc0_0 p0.bytes.length (nA KL.encB8 p0.bytes)) {r:Int × wAB} (hm:wAI p0 p1=some r):Gv Tryz.prog 55 [.pointer (some ⟨pb0,0,none⟩),jV p1] w (wEB w [.blk pb0 184 [.slice pA0_0 p0.bytes.length pc0_0,jV p0.next,.int .u32 p0.state]] U (fun U_ L_ v=>∃ (Ao00:Option Addr) (co00:Nat),v=jV r.1/\L_=[.blk pb0 184 [.slice Ao00 r.2.bytes.length co00,jV r.2.next,.int .u32 r.2.state]]/\Sl U_ 1 Ao00 co00 r.2.bytes.length (nA KL.encB8 r.2.bytes))):=by
 unfold wAI at hm
 refine Gv.of Tryz.func55 Z Tryz.ntmps55 Tryz.results55 Z (sR fL1 Z (oA Z Z (eN (zH (sR fL10 Z (oM Z Z (oR Z (Runs.leq Z Z Z) (oM Z Z ?_))))))))
 by_cases c2:p1 <= 1
 ·have hm3:=hm;rw [if_pos c2] at hm3;replace c2:=zF c2
  refine oT Z c2 (oT Z c2 (oT Z c2 (oT Z c2 (oT Z c2 (oT Z c2 (oR Z (zN Z (wDt c2.out) Z) (eN (CK.condT Z (sR fL1 Z (oA Z Z (eN (zK (zA ?_)))))))))))))
  cases hm3
  exact ⟨Z,_,(zk Z),U,_,hS,pA0_0,pc0_0,Z,Z,ha0⟩
 ·have hm4:=hm;rw [if_neg c2] at hm4;replace c2:=zF c2
  refine zJ Z Z Z (wF Z c2) Z Z (rU Z (wF Z c2) (zu Z Z) (rU Z (wF Z c2) (zr Z Z zR Z Tryz.sizeOf60) (OKS.m Z Z Z (wF Z c2) (hS.ldB (j:=0) Z Z Z Tryz.isAgg60 (v:=.slice pA0_0 p0.bytes.length pc0_0) Z) Z (rU Z (wF Z c2) (zi Z Z Tryz.runUnderlying60) (rU Z (wF Z c2) (Runs.eql Z Z Z) (oR Z (zV Z (zY c2.out) Z) (eN (ifc hm4 ?_ ?_))))))))
  ·intro c5 hm6
   refine cT Z c5 (sR fL1 Z (oA Z Z (eN (zK (zA ?_)))))
   cases hm6
   exact ⟨Z,_,(zk Z),U,_,hS,pA0_0,pc0_0,Z,Z,ha0⟩
  ·intro c5 hm7
   refine cF Z c5 (kN (zH (CK.anyOrd Tryz.mixed [3,3,3,1,3,3,3,1,3,3,3,1,3,3,3,1,3,3,3,3,1,3,3,3,1,3,3,3,3,3] fL30 (by kernel_rfl) ?_)))
   have hS8:=hS.drew
   generalize hw_W9:({ w with drawn:=w.drawn + 1 }:World)=W9 at hS8 ⊢
   refine oM Z Z (oR Z (zu Z Z) (oR Z (zr Z Z zR Z Tryz.sizeOf60) (oL Z (hS8.ldB (j:=0) Z Z Z Tryz.isAgg60 (v:=.slice pA0_0 p0.bytes.length pc0_0) Z) (oM Z Z (oR Z (zu Z Z) (oR Z (zr Z Z zR Z zG) (oL Z (hS8.ldB (j:=0) Z Z Z zZ (v:=jV p0.next) Z) (oM Z Z (oR Z (zu Z Z) (oR Z (zr Z Z zR Z Tryz.sizeOf60) (oL Z (hS8.ldB (j:=0) Z Z Z Tryz.isAgg60 (v:=.slice pA0_0 p0.bytes.length pc0_0) Z) (oR Z (zi Z Z Tryz.runUnderlying60) (bnK hm7 fun x10 h11 hm12=>oR Z (Runs.rem Z Z Z h11) (bnK hm12 fun x13 h14 hm15=>?_))))))))))))))
   have q:=ha0.el (fun _=>rfl) (wCI h14)
   obtain ⟨b16,off17,hA18,hC19⟩:=q
   refine oR Z (Runs.iaI Z Z hA18 Z Tryz.runUnderlying60 Tryz.sizeOf5 (wIk h14) (wLX h14)) (oL Z (hS8.ldC (f:=0) hC19 (v:=.int .u8 x13) Z Z Tryz.isAgg5 Z) (oR Z (Runs.cvu Z Z Tryz.runUnderlying5 zw Z Z) (oM Z Z (oR Z (zu Z Z) (oR Z (zr Z Z zR Z zG) (oL Z (hS8.ldB (j:=0) Z Z Z zZ (v:=jV p0.next) Z) (oM Z Z (oR Z (zu Z Z) (oR Z (zr Z Z zR Z Tryz.sizeOf60) (oL Z (hS8.ldB (j:=0) Z Z Z Tryz.isAgg60 (v:=.slice pA0_0 p0.bytes.length pc0_0) Z) (oR Z (zi Z Z Tryz.runUnderlying60) (bnK hm15 fun x20 h21 hm22=>oR Z (Runs.quo Z Z Z h21) (oR Z (Runs.cvu Z Z Tryz.runUnderlying3 zw Z Z) (oA Z Z (oA Z Z (eN (zH (CK.fresh fun σ23 hσ24=>?_))))))))))))))))))
   have f25:σ23 0=.pointer (some ⟨pb0,0,none⟩):=(hσ24 0).trans rfl
   have f26:σ23 1=jV p1:=(hσ24 1).trans rfl
   have f27:σ23 5=.int .u32 (wCG x13):=(hσ24 5).trans rfl
   have f28:σ23 6=.int .u32 (wCG x20):=(hσ24 6).trans rfl
   clear hσ24
   refine rR (wOC (.fx 7 (.nil) .stop)) Z (oM Z f25 (oR Z (zu Z Z) (oR Z (zr Z Z zR Z zG) (oL Z (hS8.ldB (j:=0) Z Z Z zZ (v:=jV p0.next) Z) (oR Z (zW Z Z Z) (oR Z (zu Z Z) (oR Z (zr Z Z zR Z zG) (OKS.st (j:=0) (vs:=[jV (w64 (p0.next + 1))]) Z Z Z Z hS8 Z Z Z Z zG (zf Z) Z Z Z ?_))))))))
   intro W29 hS30
   let B0:Res:=.blk pb0 184 [.slice pA0_0 p0.bytes.length pc0_0,jV p0.next,.int .u32 p0.state]
   have hS31:SW w [B0] U U [.blk pb0 184 [.slice pA0_0 p0.bytes.length pc0_0,jV (w64 (p0.next + 1)),.int .u32 p0.state]] W29:=hS30
   refine eN (sR (wOE (.fx 15 (.nil) .stop)) Z (oM Z f25 (oM Z f25 (oR Z (zu Z Z) (oR Z (zr Z Z zR Z Tryz.sizeOf182) (oL Z (hS31.ldB (j:=0) Z Z Z Tryz.isAgg182 (v:=.int .u32 p0.state) Z) (oR Z (Runs.mulu Z Z Z) (oM Z f27 (oR Z (Runs.addu Z Z Z) (oM Z f28 (oR Z (Runs.mulu Z Z Z) (oR Z (Runs.addu Z Z Z) (oR Z (Runs.addu Z Z Z) (bnK hm22 fun x32 h33 hm34=>oR Z (Runs.rem Z Z Z h33) (oR Z (zu Z Z) (oR Z (zr Z Z zR Z Tryz.sizeOf182) (OKS.st (j:=0) (vs:=[.int .u32 x32]) Z Z Z Z hS31 Z Z Z Z Tryz.sizeOf182 (zf Z) Z Z Z ?_)))))))))))))))))
   intro W35 hS36
   have hS37:SW w [B0] U U [.blk pb0 184 [.slice pA0_0 p0.bytes.length pc0_0,jV (w64 (p0.next + 1)),.int .u32 x32]] W35:=hS36
   refine eN (zH (sR fL6 Z (oM Z f28 (oR Z (Runs.eql Z Z Z) (oM Z Z (ifc hm34 ?_ ?_))))))
   ·intro c38 hm39
    refine zJ Z Z Z (wT Z c38) Z f26 (rU Z (wT Z c38) (Runs.leq Z Z Z) (oR Z (zN Z (wDt c38.out) Z) (eN (ifc hm39 ?_ ?_))))
    ·intro c40 hm41
     refine cT Z c40 (sR fL5 Z (oM Z f27 (oR Z (Runs.cvw Z Z zw Tryz.runUnderlying3 Z Z) (oM Z f26 (bnK hm41 fun x42 h43 hm44=>oR Z (Runs.rem Z Z Z h43) (oA Z Z (eN (zK (zA ?_)))))))))
     cases hm44
     exact ⟨Z,_,(zk Z),U,_,hS37,pA0_0,pc0_0,Z,Z,ha0⟩
    ·intro c40 hm45
     refine cF Z c40 (kN (sR fL11 Z (oM Z f25 (oR Z (zu Z Z) (oR Z (zr Z Z zR Z Tryz.sizeOf182) (oL Z (hS37.ldB (j:=0) Z Z Z Tryz.isAgg182 (v:=.int .u32 x32) Z) (oR Z (Runs.mulu Z Z Z) (oM Z f27 (oR Z (Runs.addu Z Z Z) (oR Z (Runs.cvw Z Z zw Tryz.runUnderlying3 Z Z) (oM Z f26 (bnK hm45 fun x46 h47 hm48=>oR Z (Runs.rem Z Z Z h47) (oA Z Z (eN (zK ?_)))))))))))))))
     cases hm48
     exact ⟨Z,_,(zk Z),U,_,hS37,pA0_0,pc0_0,Z,Z,ha0⟩
   ·intro c38 hm49
    refine oF Z c38 (oF Z c38 (oR Z (zV Z (zY c38.out) Z) (eN (zl Z (kN (sR fL11 Z (oM Z f25 (oR Z (zu Z Z) (oR Z (zr Z Z zR Z Tryz.sizeOf182) (oL Z (hS37.ldB (j:=0) Z Z Z Tryz.isAgg182 (v:=.int .u32 x32) Z) (oR Z (Runs.mulu Z Z Z) (oM Z f27 (oR Z (Runs.addu Z Z Z) (oR Z (Runs.cvw Z Z zw Tryz.runUnderlying3 Z Z) (oM Z f26 (bnK hm49 fun x50 h51 hm52=>oR Z (Runs.rem Z Z Z h51) (oA Z Z (eN (zK ?_)))))))))))))))))))
    cases hm52
    exact ⟨Z,_,(zk Z),U,_,hS37,pA0_0,pc0_0,Z,Z,ha0⟩
theorem wBD (p0:wAB) (pb0:Nat) (pA0_0:Option Addr) (pc0_0:Nat) (p1:Int) (p2:Int) (w:World) (U:PHeap) (hS:St0 w U [.blk pb0 184 [.slice pA0_0 p0.bytes.length pc0_0,jV p0.next,.int .u32 p0.state]]) (ha0:Sl U 1 pA0_0 pc0_0 p0.bytes.length (nA KL.encB8 p0.bytes)) {r:Int × wAB} (hm:wAG p0 p1 p2=some r):Gv Tryz.prog 53 [.pointer (some ⟨pb0,0,none⟩),jV p1,jV p2] w (wEB w [.blk pb0 184 [.slice pA0_0 p0.bytes.length pc0_0,jV p0.next,.int .u32 p0.state]] U (fun U_ L_ v=>∃ (Ao00:Option Addr) (co00:Nat),v=jV r.1/\L_=[.blk pb0 184 [.slice Ao00 r.2.bytes.length co00,jV r.2.next,.int .u32 r.2.state]]/\Sl U_ 1 Ao00 co00 r.2.bytes.length (nA KL.encB8 r.2.bytes))):=by
 unfold wAG at hm
 refine Gv.of Tryz.func53 Z Tryz.ntmps53 Tryz.results53 Z (sR fL1 Z (oA Z Z (eN (sR (wOB (.fx 6 (.fl 7 (.fl 8 (.nil))) .stop)) Z (oM Z Z (oM Z Z (oM Z Z (oM Z Z (oR Z (Runs.subw Z Z Z) (oR Z (zW Z Z Z) ?_))))))))))
 have q:=bnd hm
 obtain ⟨⟨x2,x3⟩,h4,hm5⟩:=q
 try dsimp only at hm5
 refine zL 1 Z Z Z Z (zM Z Z Tryz.call55 (zD Z (zD Z zX)) Z) hS (fun hs=>wAm p0 pb0 pA0_0 pc0_0 (w64 ((w64 (p2 - p1)) + 1)) w U hs ha0 h4) (.inl Z) ?_
 rintro U6 L7 v8 W9 le10 hS11 ⟨A12,c13,rfl,rfl,h14⟩
 have hS15:SW w [.blk pb0 184 [.slice pA0_0 p0.bytes.length pc0_0,jV p0.next,.int .u32 p0.state]] U U6 [.blk pb0 184 [.slice A12 x3.bytes.length c13,jV x3.next,.int .u32 x3.state]] W9:=hS11
 refine oR Z (zW Z Z Z) (oA Z Z (eN (zK ?_)))
 cases hm5
 exact ⟨Z,_,(zk Z),U6,_,hS15,A12,c13,Z,Z,h14⟩
theorem wCs (p0:wAB) (pb0:Nat) (pA0_0:Option Addr) (pc0_0:Nat) (p1:Int) (w:World) (U:PHeap) (hS:St0 w U [.blk pb0 184 [.slice pA0_0 p0.bytes.length pc0_0,jV p0.next,.int .u32 p0.state]]) (ha0:Sl U 1 pA0_0 pc0_0 p0.bytes.length (nA KL.encB8 p0.bytes)) {r:(List wAA) × wAB} (hm:wAc p0 p1=some r):Gv Tryz.prog 28 [.pointer (some ⟨pb0,0,none⟩),jV p1] w (wEB w [.blk pb0 184 [.slice pA0_0 p0.bytes.length pc0_0,jV p0.next,.int .u32 p0.state]] U (fun U_ L_ v=>∃ (A0:Option Addr) (c0:Nat) (Ao00:Option Addr) (co00:Nat),v=.slice A0 r.1.length c0/\L_=[.row A0 c0 67 2 (nA wAD r.1),.blk pb0 184 [.slice Ao00 r.2.bytes.length co00,jV r.2.next,.int .u32 r.2.state]]/\Sl U_ 1 Ao00 co00 r.2.bytes.length (nA KL.encB8 r.2.bytes))):=by
 unfold wAc at hm
 refine Gv.of Tryz.func28 Z Tryz.ntmps28 Tryz.results28 Z (sR fL1 Z (oA Z Z (eN (sR fL1 Z (oA Z Z (eN (zH (sR (wNz (.fx 3 (.fl 4 (.nil)) .stop)) Z (oM Z Z (oM Z Z (oR Z (zW Z Z Z) ?_)))))))))))
 have q:=bnd hm
 obtain ⟨⟨x2,x3⟩,h4,hm5⟩:=q
 try dsimp only at hm5
 refine zL 1 Z Z Z Z (zM Z Z Tryz.call55 (zD Z (zD Z zX)) Z) hS (fun hs=>wAm p0 pb0 pA0_0 pc0_0 (w64 (p1 + 1)) w U hs ha0 h4) (.inl Z) ?_
 rintro U6 L7 v8 W9 le10 hS11 ⟨A12,c13,rfl,rfl,h14⟩
 let B0:Res:=.blk pb0 184 [.slice pA0_0 p0.bytes.length pc0_0,jV p0.next,.int .u32 p0.state]
 have hS15:SW w [B0] U U6 [.blk pb0 184 [.slice A12 x3.bytes.length c13,jV x3.next,.int .u32 x3.state]] W9:=hS11
 refine oM Z Z (eN (zd ?_))
 have q:=bnd hm5
 obtain ⟨⟨y58,y59,y60,y61⟩,hf55,hm54⟩:=q
 try dsimp only at hm54
 have q:=wDC hf55
 obtain ⟨hle56,hf57⟩:=q
 replace hle56:=zF hle56
 refine CK.forN' (fun k53 (l44,x47,x48,l49) σ_ w_=>∃ (U_:PHeap) (A45:Option Addr) (c46:Nat) (A50:Option Addr) (c51:Nat),σ_ 10=jV (↑k53:Int)/\σ_ 0=.pointer (some ⟨pb0,0,none⟩)/\σ_ 5=.slice A50 l49.length c51/\σ_ 9=jV x2/\PHeap.Le U6 U_/\SW w [B0] U U_ [.blk pb0 184 [.slice A45 l44.length c46,jV x47,.int .u32 x48],.row A50 c51 67 2 (nA wAD l49)] w_/\Sl U_ 1 A45 c46 l44.length (nA KL.encB8 l44)) hf57 ?_ ?_ ?_
 ·have hS62:=hS15.nilrow 67 2
  exact ⟨U6,A12,c13,none,0,rfl,rfl,rfl,rfl,(zS _),(hS62.pick [1,0] _ (by decide) rfl),h14⟩
 ·rintro k53 ⟨l44,x47,x48,l49⟩ xx66 σ64 W65 hk69 ⟨U71,A45,c46,A50,c51,fi70,f74,f75,f76,le72,hS73,h77⟩ hx67
  try dsimp only at hx67
  have c78:Hid ((↑k53:Int) < x2):=zF (wDD hk69)
  replace hk69:=zF hk69
  have hi79:Hid (w64 ((↑k53:Int) + 1)=(↑(k53 + 1):Int)):=zF (by have h1:=hle56.out;have h2:=c78.out;rw [wAd] <;> omega)
  refine sR fL1 Z (oR Z (zj Z fi70 f76) (eN (zH (cT Z c78 (kN (zH (zd (rR (.fl 0 (.fl 1 (.fx 2 (.fl 3 (.fl 4 (.fx 5 (fC6_8 (.fx 9 (.fl 10 (.fl 11 (.fx 12 (.fx 13 (.fl 14 (.nil)) .stop) .stop))) .stop)) .stop))) .stop))) Z (oM Z f75 (oM Z f74 ?_))))))))))
  have q:=bnd hx67
  obtain ⟨⟨x80,x81⟩,h82,hm83⟩:=q
  try dsimp only at hm83
  refine zL 1 Z Z Z Z (zM Z Z Tryz.call55 (zD Z (zD Z zX)) Z) hS73 (fun hs=>wAm (⟨l44,x47,x48⟩:wAB) pb0 A45 c46 5 W65 U71 hs h77 h82) (.inl Z) ?_
  rintro U84 L85 v86 W87 le88 hS89 ⟨A90,c91,rfl,rfl,h92⟩
  let B1:Res:=.row A50 c51 67 2 (nA wAD l49)
  have hS93:SW w [B0] U U84 [.blk pb0 184 [.slice A90 x81.bytes.length c91,jV x81.next,.int .u32 x81.state],B1] W87:=hS89
  refine oR Z (Runs.mulw Z Z Z) (oM Z f74 ?_)
  have q:=bnd hm83
  obtain ⟨⟨x94,x95⟩,h96,hm97⟩:=q
  try dsimp only at hm97
  refine zL 1 Z Z Z Z (zM Z Z Tryz.call53 (zD Z (zD Z (zD Z zX))) Z) hS93 (fun hs=>wBD x81 pb0 A90 c91 (-60) 60 W87 U84 hs h92 h96) (.inl Z) ?_
  rintro U98 L99 v100 W101 le102 hS103 ⟨A104,c105,rfl,rfl,h106⟩
  have hS107:SW w [B0] U U98 [.blk pb0 184 [.slice A104 x95.bytes.length c105,jV x95.next,.int .u32 x95.state],B1] W101:=hS103
  refine oR Z (Runs.mulw Z Z Z) (oR Z (zW Z Z Z) (oM Z f74 ?_))
  have q:=bnd hm97
  obtain ⟨⟨x108,x109⟩,h110,hm111⟩:=q
  try dsimp only at hm111
  refine zL 1 Z Z Z Z (zM Z Z Tryz.call53 (zD Z (zD Z (zD Z zX))) Z) hS107 (fun hs=>wBD x95 pb0 A104 c105 (-40) 40 W101 U98 hs h106 h110) (.inl Z) ?_
  rintro U112 L113 v114 W115 le116 hS117 ⟨A118,c119,rfl,rfl,h120⟩
  let B2:Res:=.blk pb0 184 [.slice A118 x109.bytes.length c119,jV x109.next,.int .u32 x109.state]
  have hS121:SW w [B0] U U112 [B2,B1] W115:=hS117
  refine oR Z (Runs.mulw Z Z Z) ?_
  let B3:List Value:=[jV (w64 ((w64 (2500 * x80)) + (w64 (10 * x94)))),jV (w64 (10 * x108))]
  refine oR Z (Runs.build (pv:=[(0,jV (w64 ((w64 (2500 * x80)) + (w64 (10 * x94))))),(1,jV (w64 (10 * x108)))]) (z:=[jV 0,jV 0]) (cs:=B3) Z (wBK Z (wBK Z wCL)) Tryz.zeroValue67 wLG Z Z) (OKS.buildSlice (pv:=[(0,.agg B3.toArray)]) (zs:=[jV 0,jV 0]) (cs:=B3) Z Z Z Z Z (wBK Z wCL) zP zn Tryz.zeroValue67 Z Z Z Z Z hS121 ?_)
  intro W122 b123 hS124
  let B4:Res:=.row (some ⟨b123,0,none⟩) 1 67 2 (nA wAD [(⟨w64 ((w64 (2500 * x80)) + (w64 (10 * x94))),w64 (10 * x108)⟩:wAA)])
  have hS126:SW w [B0] U U112 [B4,B2,B1] W122:=hS124
  refine bnK hm111 fun x127 h128 hm129=>OKS.append (j:=2) (enc:=wAD) (xs:=l49) (ys:=[(⟨w64 ((w64 (2500 * x80)) + (w64 (10 * x94))),w64 (10 * x108)⟩:wAA)]) (zs:=x127) rfl rfl rfl rfl rfl Tryz.underlying61 wLn rfl rfl rfl rfl rfl rfl hS126 rfl rfl rfl (hS126.srcR (j:=0) rfl (by decide) (wAJ (f:=wAD) (sz:=2) (fun _=>rfl) [(⟨w64 ((w64 (2500 * x80)) + (w64 (10 * x94))),w64 (10 * x108)⟩:wAA)])) (fun _=>rfl) (fun _=>rfl) h128 rfl ?_
  intro A130 c131 W132 hS133
  have hS134:SW w [B0] U U112 [B4,B2,.row A130 c131 67 2 (nA wAD x127)] W132:=hS133
  refine oA Z Z (zg (zm (zE (rR fL2 Z (oR Z (ze (zW Z fi70 Z) (congrArg (jV) hi79.out)) (oM Z Z (zg ?_)))))))
  cases hm129
  exact zE ⟨rfl,⟨U112,A118,c119,A130,c131,rfl,f74,rfl,f76,(((le72.trans le88).trans le102).trans le116),(hS134.pick [1,2] _ (by decide) rfl),h120⟩⟩
 ·rintro σ143 W144 ⟨U159,A155,c156,A157,c158,fi146,f162,f163,f164,le160,hS161,h165⟩
  have c166:Hid (¬ ((↑((x2:Int) - 0).toNat:Int) < x2)):=zF (wBw)
  refine sR fL1 Z (oR Z (zj Z fi146 f164) (eN (zH (cF Z c166 (CK.exit (zh (zh (zx (zE (sR fL2 Z (oM Z f163 (oA Z Z (eN (zK ?_))))))))))))))
  cases hm54
  exact ⟨rfl,_,(zk rfl),U159,_,(hS161.pick [1,0] _ (by decide) rfl),A157,c158,A155,c156,rfl,rfl,h165⟩
theorem wBo (p0:wAB) (pb0:Nat) (pA0_0:Option Addr) (pc0_0:Nat) (p1:Int) (w:World) (U:PHeap) (hS:St0 w U [.blk pb0 184 [.slice pA0_0 p0.bytes.length pc0_0,jV p0.next,.int .u32 p0.state]]) (ha0:Sl U 1 pA0_0 pc0_0 p0.bytes.length (nA KL.encB8 p0.bytes)) {r:(List Int) × wAB} (hm:wAR p0 p1=some r):Gv Tryz.prog 30 [.pointer (some ⟨pb0,0,none⟩),jV p1] w (wEB w [.blk pb0 184 [.slice pA0_0 p0.bytes.length pc0_0,jV p0.next,.int .u32 p0.state]] U (fun U_ L_ v=>∃ (A0:Option Addr) (c0:Nat) (Ao00:Option Addr) (co00:Nat),v=.slice A0 r.1.length c0/\L_=[.row A0 c0 3 1 (nA KL.encI r.1),.blk pb0 184 [.slice Ao00 r.2.bytes.length co00,jV r.2.next,.int .u32 r.2.state]]/\Sl U_ 1 Ao00 co00 r.2.bytes.length (nA KL.encB8 r.2.bytes))):=by
 unfold wAR at hm
 refine Gv.of Tryz.func30 Z Tryz.ntmps30 Tryz.results30 Z (sR fL1 Z (oA Z Z (eN (sR fL1 Z (oA Z Z (eN (zH (sR fL3 Z (oM Z Z (oR Z (Runs.max Z Z Z) (oM Z Z (eN (zd (bnK hm fun y24 hf21 hm20=>?_))))))))))))))
 have q:=wDC hf21
 obtain ⟨hle22,hf23⟩:=q
 replace hle22:=zF hle22
 let B0:Res:=.blk pb0 184 [.slice pA0_0 p0.bytes.length pc0_0,jV p0.next,.int .u32 p0.state]
 refine CK.forN' (fun k19 l15 σ_ w_=>∃ (U_:PHeap) (A16:Option Addr) (c17:Nat),σ_ 11=jV (↑k19:Int)/\σ_ 0=.pointer (some ⟨pb0,0,none⟩)/\σ_ 5=.slice A16 l15.length c17/\σ_ 10=jV (max 0 p1)/\PHeap.Le U U_/\SW w [B0] U U_ [B0,.row A16 c17 3 1 (nA KL.encI l15)] w_) hf23 ?_ ?_ ?_
 ·have hS25:=hS.nilrow 3 1
  exact ⟨U,none,0,rfl,rfl,rfl,rfl,(zS _),(hS25.pick [1,0] _ (by decide) rfl)⟩
 ·rintro k19 l15 xx29 σ27 W28 hk32 ⟨U34,A16,c17,fi33,f37,f38,f39,le35,hS36⟩ hx30
  have c40:Hid ((↑k19:Int) < (max 0 p1)):=zF (wDD hk32)
  replace hk32:=zF hk32
  have hi41:Hid (w64 ((↑k19:Int) + 1)=(↑(k19 + 1):Int)):=zF (by have h1:=hle22.out;have h2:=c40.out;rw [wAd] <;> omega)
  refine sR fL1 Z (oR Z (zj Z fi33 f39) (eN (zH (cT Z c40 (kN (zH (zd (sR fL2 Z (oM Z fi33 (oA Z Z (eN (rR (.fl 0 (.fl 1 (.fx 2 (.fx 3 (.fl 4 (.nil)) .stop) .stop))) Z (oM Z f38 (oM Z Z (OKS.buildSlice (pv:=[(0,jV (↑k19:Int))]) (zs:=[jV 0]) (cs:=[jV (↑k19:Int)]) Z Z Z Z Z (wBK Z wCL) zC zG Tryz.zeroValue3 Z Z Z Z Z hS36 ?_)))))))))))))))
  intro W42 b43 hS44
  let B1:Res:=.row (some ⟨b43,0,none⟩) 1 3 1 (nA KL.encI [(↑k19:Int)])
  have hS46:SW w [B0] U U34 [B1,B0,.row A16 c17 3 1 (nA KL.encI l15)] W42:=hS44
  refine bnK hx30 fun x47 h48 hm49=>OKS.append (j:=2) (enc:=KL.encI) (xs:=l15) (ys:=[(↑k19:Int)]) (zs:=x47) rfl rfl rfl rfl rfl Tryz.underlying22 wLH rfl rfl rfl rfl rfl rfl hS46 rfl rfl rfl (hS46.srcR (j:=0) rfl (by decide) (wAJ (f:=KL.encI) (sz:=1) (fun _=>rfl) [(↑k19:Int)])) (fun _=>rfl) (fun _=>rfl) h48 rfl ?_
  intro A50 c51 W52 hS53
  have hS54:SW w [B0] U U34 [B1,B0,.row A50 c51 3 1 (nA KL.encI x47)] W52:=hS53
  refine oA Z Z (zg (zm (zE (rR fL2 Z (oR Z (ze (zW Z fi33 Z) (congrArg (jV) hi41.out)) (oM Z Z (zg ?_)))))))
  cases hm49
  exact zE ⟨rfl,⟨U34,A50,c51,rfl,f37,rfl,f39,le35,(hS54.pick [1,2] _ (by decide) rfl)⟩⟩
 ·rintro σ58 W59 ⟨U67,A65,c66,fi61,f70,f71,f72,le68,hS69⟩
  have c73:Hid (¬ ((↑((max 0 p1:Int) - 0).toNat:Int) < (max 0 p1))):=zF (wBw)
  refine sR fL1 Z (oR Z (zj Z fi61 f72) (eN (zH (cF Z c73 (CK.exit (zh (zh (zx (zE (zH (sR fL4 Z (oM Z f71 (oR Z (zi Z Z zC) (oR Z (Runs.subw Z Z Z) (oA Z Z (eN (zd (CK.iter (fun (l95,x98,x99,l100,x101) σ_ w_=>∃ (U_:PHeap) (A96:Option Addr) (c97:Nat),σ_ 0=.pointer (some ⟨pb0,0,none⟩)/\σ_ 5=.slice A65 l100.length c66/\σ_ 7=jV x101/\PHeap.Le U67 U_/\SW w [B0] U U_ [.blk pb0 184 [.slice A96 l95.length c97,jV x98,.int .u32 x99],.row A65 c66 3 1 (nA KL.encI l100)] w_/\Sl U_ 1 A96 c97 l95.length (nA KL.encB8 l95)/\l100.length=y24.length) hm20 ?_ ?_))))))))))))))))))
  ·have h102:=ha0.le le68
   exact ⟨U67,pA0_0,pc0_0,f70,f71,Z,(zS _),hS69,h102,Z⟩
  ·rintro ⟨l95,x98,x99,l100,x101⟩ xx105 σ103 W104 ⟨U110,A96,c97,f113,f114,f115,le111,hS112,h116,h117⟩ hx106 hb107
   try dsimp only at hx106
   refine zH (sR fL2 Z (oM Z f115 (oR Z (Runs.gtr Z Z Z) (eN ?_))))
   by_cases c118:0 < x101
   ·have hm119:=hx106;rw [if_pos c118] at hm119;replace c118:=zF c118
    refine cT Z c118 (kN (zH (zd (sR (wNz (.fx 3 (.fl 4 (.nil)) .stop)) Z (oM Z f113 (oM Z f115 (oR Z (zW Z Z Z) ?_)))))))
    have q:=bnd hm119
    obtain ⟨⟨x120,x121⟩,h122,hm123⟩:=q
    try dsimp only at hm123
    refine zL 1 Z Z Z Z (zM Z Z Tryz.call55 (zD Z (zD Z zX)) Z) hS112 (fun hs=>wAm (⟨l95,x98,x99⟩:wAB) pb0 A96 c97 (w64 (x101 + 1)) W104 U110 hs h116 h122) (.inl Z) ?_
    rintro U124 L125 v126 W127 le128 hS129 ⟨A130,c131,rfl,rfl,h132⟩
    let B2:Res:=.blk pb0 184 [.slice A130 x121.bytes.length c131,jV x121.next,.int .u32 x121.state]
    have hS133:SW w [B0] U U124 [B2,.row A65 c66 3 1 (nA KL.encI l100)] W127:=hS129
    refine OKS.ra rfl rfl rfl rfl rfl rfl (eN (CK.anyOrd Tryz.mixed [3,3,3,3,3,3,3,1,3,3,3,1,3,0,3,0] (wOD (.fx 13 (.fl 14 (.fx 15 (.nil) .stop)) .stop)) (by kernel_rfl) ?_))
    have hS134:=hS133.drew
    generalize hw_W135:({ W127 with drawn:=W127.drawn + 1 }:World)=W135 at hS134 ⊢
    refine oM Z f114 (oM Z f115 (oM Z f114 (oM Z Z (oM Z f114 (oM Z Z (bnK hm123 fun _ h136 hm137=>?_))))))
    obtain ⟨b138,hA139⟩:=hS134.rowSome (j:=1) rfl (by rw [wAJ (f:=KL.encI) (sz:=1) (fun _=>rfl) l100];have hz:=wBA h136;omega)
    refine oR Z (Runs.iaI Z Z hA139 Z zC zG (wCZ h136) (wCa h136)) ?_
    have hg140:=wFl (xs:=l100) (wBA h136)
    refine OKS.m rfl rfl rfl rfl (hS134.ldR (j:=1) rfl hA139 rfl rfl zZ (wAY (sz:=1) (fun _=>rfl) _ _ 0 _ hg140 (by first | omega | rfl | simp) rfl)) rfl (zJ rfl rfl rfl rfl rfl f114 (zJ rfl rfl rfl rfl rfl f115 (bnK hm137 fun _ h141 hm142=>zQ rfl rfl rfl rfl (fun _=>Runs.iaI rfl rfl hA139 rfl zC zG (wCZ h141) (wCa h141)) ?_)))
    have hg143:=wFl (xs:=l100) (wBA h141)
    refine OKS.m rfl rfl rfl rfl (hS134.ldR (j:=1) rfl hA139 rfl rfl zZ (wAY (sz:=1) (fun _=>rfl) _ _ 0 _ hg143 (by first | omega | rfl | simp) rfl)) rfl (zQ rfl rfl rfl rfl (fun _=>Runs.iaI rfl rfl hA139 rfl zC zG (wCZ h141) (wCa h141)) ?_)
    have hg144:=wFl (xs:=l100) (wBA h141)
    refine OKS.stR (j:=1) (vs:=[jV (gd l100 x120.toNat)]) (cs':=nA KL.encI (nH l100 x101.toNat (gd l100 x120.toNat))) rfl rfl rfl rfl hS134 rfl hA139 rfl rfl rfl zG (by rw [wAJ (f:=KL.encI) (sz:=1) (fun _=>rfl)];have hz:=wBA h141;simp only [nK,nI,nJ,nL,nM];omega) rfl (wEE (sz:=1) (fo:=0) (fun _=>rfl) _ _ _ _ hg144 (by first | omega | (simp only [nK,nI,nJ];omega)) (zf rfl) rfl) rfl ?_
    intro W145 hS146
    have hS147:SW w [B0] U U124 [B2,.row A65 c66 3 1 (nA KL.encI (nH l100 x101.toNat (gd l100 x120.toNat)))] W145:=hS146
    refine bnK hm142 fun _ h148 hm149=>zQ rfl rfl rfl rfl (fun _=>Runs.iaI rfl (nR (b:=(.slice A65 l100.length c66:Value)) (c:=(.slice A65 ((nH l100 x101.toNat (gd l100 x120.toNat)).length) c66:Value)) rfl (by simp only [nN])) hA139 rfl zC zG (wCZ h148) (wCa h148)) ?_
    have hg150:=wFl (xs:=(nH l100 x101.toNat (gd l100 x120.toNat))) (wBA h148)
    refine OKS.stR (j:=1) (vs:=[jV (gd l100 x101.toNat)]) (cs':=nA KL.encI (nH (nH l100 x101.toNat (gd l100 x120.toNat)) x120.toNat (gd l100 x101.toNat))) rfl rfl rfl rfl hS147 rfl hA139 rfl rfl rfl zG (by rw [wAJ (f:=KL.encI) (sz:=1) (fun _=>rfl)];have hz:=wBA h148;simp only [nK,nI,nJ,nL,nM];omega) rfl (wEE (sz:=1) (fo:=0) (fun _=>rfl) _ _ _ _ hg150 (by first | omega | (simp only [nK,nI,nJ];omega)) (zf rfl) rfl) rfl ?_
    intro W151 hS152
    have hS153:SW w [B0] U U124 [B2,.row A65 c66 3 1 (nA KL.encI (nH (nH l100 x101.toNat (gd l100 x120.toNat)) x120.toNat (gd l100 x101.toNat)))] W151:=hS152
    refine zg (zm (zE (rR fL3 Z (oM Z f115 (oR Z (Runs.subw Z Z Z) (oA Z Z (zg ?_)))))))
    obtain rfl:=nB hm149
    exact zE ⟨rfl,_,rfl,⟨U124,A130,c131,f113,(nR (b:=(.slice A65 ((nH l100 x101.toNat (gd l100 x120.toNat)).length) c66:Value)) (c:=(.slice A65 ((nH (nH l100 x101.toNat (gd l100 x120.toNat)) x120.toNat (gd l100 x101.toNat)).length) c66:Value)) (nR (b:=(.slice A65 l100.length c66:Value)) (c:=(.slice A65 ((nH l100 x101.toNat (gd l100 x120.toNat)).length) c66:Value)) f114 (by simp only [nN])) (by simp only [nN])),rfl,(le111.trans le128),hS153,h132,(by simp only [nN];exact h117)⟩⟩
   ·have hm161:=hx106;rw [if_neg c118] at hm161;replace c118:=zF c118
    refine cF Z c118 (CK.exit (zh ?_))
    have q:=wAa hm161
    obtain ⟨v162,hm163,e164⟩:=q
    obtain rfl:=hb107 v162 e164
    refine zh (zx (zE (sR fL2 Z (oM Z f114 (oA Z Z (eN (zK ?_)))))))
    cases hm163
    exact ⟨rfl,_,(zk rfl),U110,_,(hS112.pick [1,0] _ (by decide) rfl),A65,c66,A96,c97,rfl,rfl,h116⟩
theorem wBg (p0:wAA) (p1:(wAA->Option Bool)) (pb1:Nat) (pv1:Value) (w:World) (U:PHeap) (hS:St0 w U []) (ha0:Cl U pb1 0 [pv1]) (ha1:FnOK Tryz.prog U pv1 wGy wGz p1) {r:Bool} (hm:wAP p0 p1=some r):Gv Tryz.prog 181 [.agg #[jV p0.X,jV p0.Y],.pointer (some ⟨pb1,0,none⟩)] w (wEB w [] U (fun U_ L_ v=>v=.bool r/\L_=[])):=by
 unfold wAP at hm
 refine Gv.of Tryz.func181 Z Tryz.ntmps181 Tryz.results181 Z (sR (.fx 0 (.fl 1 (.nil)) .stop) Z ?_)
 let B0:List Value:=[jV p0.X,jV p0.Y]
 refine OKS.box (cs:=B0) rfl rfl rfl rfl rfl rfl (by rfl) hS ?_
 intro W1 b2 hS3
 refine oA Z Z (eN (sR (.fl 0 (.fl 1 (.fx 2 (.fl 3 (.fl 4 (.nil))) .stop))) Z (oL Z (hS3.ldC (f:=0) ha0 (v:=pv1) Z Z Tryz.isAgg186 Z) (oL Z (hS3.ldBA (j:=0) Z Z Z Tryz.isAgg67 zn (vs:=B0) Z Z) (bnK hm fun x5 h6 hm7=>OKS.callV (a:=p0) Z Z Z Z Z Z (zD Z zX) hS3 ha1 Z h6 ?_)))))
 rintro U8 L9 v10 W11 le12 hS13 ⟨rfl,rfl⟩
 have hS14:sW w U U8 [.blk b2 67 B0] W11:=hS13
 refine oR Z (zz Z Z) (oA Z Z (eN (zK ?_)))
 cases hm7
 exact ⟨rfl,_,(zk rfl),U8,_,(hS14.pick [] _ (by decide) rfl),rfl,rfl⟩
theorem wAw (p0:List wAA) (pA0:Option Addr) (pc0:Nat) (p1:(wAA->Option Bool)) (pv1:Value) (w:World) (U:PHeap) (hS:St0 w U []) (ha0:Sl U 2 pA0 pc0 p0.length (nA wAD p0)) (ha1:FnOK Tryz.prog U pv1 wGy wGz p1) {r:Int} (hm:wAH p0 p1=some r):Gv Tryz.prog 253 [.slice pA0 p0.length pc0,pv1] w (wEB w [] U (fun U_ L_ v=>v=jV r/\L_=[])):=by
 unfold wAH at hm
 refine Gv.of Tryz.func253 Z Tryz.ntmps253 Tryz.results253 Z (sR fL1 Z (oA Z Z (eN (zH (sR fL3 Z (oM Z Z (oR Z (zi Z Z zP) (oM Z Z (eN (zd ?_))))))))))
 have q:=wDS hm
 obtain ⟨r3,hX4⟩:=q
 have q:=wDz hX4
 obtain ⟨hle5,hf6⟩:=q
 replace hle5:=zF hle5
 refine CK.forN (fun k2 _ σ_ w_=>∃ (U_:PHeap),σ_ 8=jV (↑k2:Int)/\σ_ 0=.slice pA0 p0.length pc0/\σ_ 1=pv1/\σ_ 7=jV (↑p0.length:Int)/\PHeap.Le U U_/\sW w U U_ [] w_) hf6 ?_ ?_ ?_
 ·exact ⟨U,Z,Z,Z,Z,(zS _),hS⟩
 ·rintro k2 ⟨⟩ xx9 σ7 W8 hk12 ⟨U14,fi13,f17,f18,f19,le15,hS16⟩ hx10 hb11
  try dsimp only at hx10
  have c20:Hid ((↑k2:Int) < (↑p0.length:Int)):=zF (wDD hk12)
  replace hk12:=zF hk12
  have hi21:Hid (w64 ((↑k2:Int) + 1)=(↑(k2 + 1):Int)):=zF (by have h1:=hle5.out;have h2:=c20.out;rw [wAd] <;> omega)
  refine sR fL1 Z (oR Z (zj Z fi13 f19) (eN (zH (cT Z c20 (kN (zH (zd (sR fL2 Z (oM Z fi13 (oA Z Z (eN (sR (wOA (.fx 5 (.nil) .stop)) Z (oM Z f18 (oM Z f17 (oM Z Z (bnK hx10 fun x22 h23 hm24=>?_))))))))))))))))
  have h25:=ha0.le le15
  have q:=h25.el (fun _=>rfl) (wCI h23)
  obtain ⟨b26,off27,hA28,hC29⟩:=q
  refine oR Z (Runs.iaN Z Z hA28 Z zP zn (wEv h23)) (oL Z (hS16.ldCA (f:=0) hC29 Z Z Tryz.isAgg67 zn (us:=[jV x22.X,jV x22.Y]) Z Z) (bnK hm24 fun x30 h31 hm32=>?_))
  have h39:=ha1.le le15
  refine OKS.callV (a:=x22) Z Z Z Z Z Z (zD Z zX) hS16 h39 Z h31 ?_
  rintro U33 L34 v35 W36 le37 hS38 ⟨rfl,rfl⟩
  have hS40:sW w U U33 [] W36:=hS38
  refine eN (ifc hm32 ?_ ?_)
  ·intro c41 hm42
   refine CK.condT (congrArg nD c41.out) (sR fL2 Z (oM Z Z (oA Z Z (eN (zK (zI (zA ?_)))))))
   have q:=wAa hm42
   obtain ⟨v43,hm44,e45⟩:=q
   obtain rfl:=wBC hm hX4 (hb11 v43 e45)
   refine zA (zI (zA ?_))
   cases hm44
   exact ⟨Z,_,(zk Z),U33,_,hS40,Z,Z⟩
  ·intro c41 hm46
   refine zl (congrArg nD (nE.2 c41.out)) (CK.skip (zm (zE (rR fL2 Z (oR Z (ze (zW Z fi13 Z) (congrArg (jV) hi21.out)) (oM Z Z (zg ?_)))))))
   obtain rfl:=nB hm46
   exact zE ⟨Z,_,Z,⟨U33,Z,f17,f18,f19,(le15.trans le37),hS40⟩⟩
 ·rintro ⟨⟩ σ47 W48 ⟨U51,fi50,f54,f55,f56,le52,hS53⟩ hb49
  have hm57:=wEw hm hX4 hb49
  try dsimp only at hm57
  have c58:Hid (¬ ((↑(((↑p0.length:Int):Int) - 0).toNat:Int) < (↑p0.length:Int))):=zF (wBw)
  refine sR fL1 Z (oR Z (zj Z fi50 f56) (eN (zH (cF Z c58 (CK.exit (zh (zh (zx (zE (sR fL1 Z (oA Z Z (eN (zK ?_)))))))))))))
  cases hm57
  exact ⟨Z,_,(zk Z),U51,_,hS53,Z,Z⟩
theorem wAr (p0:List wAA) (pA0:Option Addr) (pc0:Nat) (p1:(wAA->Option Bool)) (pv1:Value) (w:World) (U:PHeap) (hS:St0 w U []) (ha0:Sl U 2 pA0 pc0 p0.length (nA wAD p0)) (ha1:FnOK Tryz.prog U pv1 wGy wGz p1) {r:Bool} (hm:wAE p0 p1=some r):Gv Tryz.prog 180 [.slice pA0 p0.length pc0,pv1] w (wEB w [] U (fun U_ L_ v=>v=.bool r/\L_=[])):=by
 unfold wAE at hm
 refine Gv.of Tryz.func180 Z Tryz.ntmps180 Tryz.results180 Z (sR fL1 Z (oA Z Z (eN (sR (.fl 0 (.fl 1 (.fx 2 (.fl 3 (.fl 4 (.nil))) .stop))) Z (oM Z Z (oM Z Z (bnK hm fun x1 h2 hm3=>zL 0 Z Z Z Z (zM Z Z Tryz.call253 (zD Z (zD Z zX)) Z) hS (fun hs=>wAw p0 pA0 pc0 p1 pv1 w U hs ha0 ha1 h2) (.inr Z) ?_)))))))
 rintro U4 L5 v6 W7 le8 hS9 ⟨rfl,rfl⟩
 have hS10:sW w U U4 [] W7:=hS9
 refine oR Z (Runs.geq Z Z Z) (oA Z Z (eN (zK ?_)))
 cases hm3
 exact ⟨Z,_,(zk Z),U4,_,hS10,Z,Z⟩
theorem wBJ (p0:List wAA) (pA0:Option Addr) (pc0:Nat) (p1:(wAA->Option Bool)) (pv1:Value) (w:World) (U:PHeap) (hS:St0 w U []) (ha0:Sl U 2 pA0 pc0 p0.length (nA wAD p0)) (ha1:FnOK Tryz.prog U pv1 wGy wGz p1) {r:Bool} (hm:wAT p0 p1=some r):Gv Tryz.prog 104 [.slice pA0 p0.length pc0,pv1] w (wEB w [] U (fun U_ L_ v=>v=.bool r/\L_=[])):=by
 unfold wAT at hm
 refine Gv.of Tryz.func104 Z Tryz.ntmps104 Tryz.results104 Z (sR (.fx 0 (.fl 1 (.nil)) .stop) Z (OKS.box (cs:=[pv1]) Z Z Z Z Z Z (FnOK.cells ha1) hS ?_))
 intro W1 b2 hS3
 have q:=hS3.freeze (k:=0) rfl
 obtain ⟨U5,le6,hC7,hS8⟩:=q
 replace hC7:=Cl.of hC7
 have hS9:sW w U U5 [] W1:=hS8
 replace hC7:Cl U5 b2 0 [pv1]:=hC7
 refine oA Z Z (eN (sR (.fl 0 (.fl 1 (.fx 2 (.fl 3 (.fl 4 (.nil))) .stop))) Z (oM Z Z (oR Z (Runs.mkf Z zX (zD Z zX)) ?_))))
 have h10:=ha0.le le6
 have h11:=ha1.le le6
 have hF12:FnOK Tryz.prog U5 (.func (.func 181) #[] #[.pointer (some ⟨b2,0,none⟩)]) wGy wGz (fun x=>wAP x p1):=⟨181,[],[.pointer (some ⟨b2,0,none⟩)],rfl,Tryz.call181,fun U1 w1 x y vs le hs ha hm=>by obtain rfl:=ha;exact wBg x p1 b2 pv1 w1 U1 hs (hC7.le le) (h11.le le) hm⟩
 refine bnK hm fun x13 h14 hm15=>zL 0 Z Z Z Z (zM Z Z Tryz.call180 (zD Z (zD Z zX)) Z) hS9 (fun hs=>wAr p0 pA0 pc0 (fun x=>wAP x p1) (.func (.func 181) #[] #[.pointer (some ⟨b2,0,none⟩)]) W1 U5 hs h10 hF12 h14) (.inr Z) ?_
 rintro U16 L17 v18 W19 le20 hS21 ⟨rfl,rfl⟩
 have hS22:sW w U U16 [] W19:=hS21
 refine oR Z (zz Z Z) (oA Z Z (eN (zK ?_)))
 cases hm15
 exact ⟨Z,_,(zk Z),U16,_,hS22,Z,Z⟩
theorem wCS (p0:Int) (p1:Int) (p2:Int) (w:World) (U:PHeap) (hS:St0 w U [])  {r:Bool} (hm:wAo p0 p1 p2=some r):Gv Tryz.prog 106 [jV p0,jV p1,jV p2] w (wEB w [] U (fun U_ L_ v=>v=.bool r/\L_=[])):=by
 unfold wAo at hm
 refine Gv.of Tryz.func106 Z Tryz.ntmps106 Tryz.results106 Z (sR fL1 Z (oA Z Z (eN (sR fL9 Z (oM Z Z (oM Z Z (oR Z (Runs.geq Z Z Z) (oM Z Z ?_))))))))
 by_cases c1:p1 <= p0
 ·have hm2:=hm;rw [if_pos c1] at hm2;replace c1:=zF c1
  refine zJ Z Z Z (wT Z c1) Z Z (zJ Z Z Z (wT Z c1) Z Z (rU Z (wT Z c1) (Runs.leq Z Z Z) (oR Z (zN Z (wDt c1.out) Z) (oA Z Z (eN (zK ?_))))))
  cases hm2
  exact ⟨Z,_,(zk Z),U,_,hS,Z,Z⟩
 ·have hm3:=hm;rw [if_neg c1] at hm3;replace c1:=zF c1
  refine oF Z c1 (oF Z c1 (oF Z c1 (oR Z (zV Z (zY c1.out) Z) (oA Z Z (eN (zK ?_))))))
  have hE:=nB hm3;first | subst r | cases hE
  exact ⟨Z,_,(zk Z),U,_,hS,Z,Z⟩
theorem wCE (p0:wAA) (w:World) (U:PHeap) (hS:St0 w U [])  {r:Bool} (hm:wAU p0=some r):Gv Tryz.prog 105 [.agg #[jV p0.X,jV p0.Y]] w (wEB w [] U (fun U_ L_ v=>v=.bool r/\L_=[])):=by
 unfold wAU at hm
 refine Gv.of Tryz.func105 Z Tryz.ntmps105 Tryz.results105 Z (sR (.fx 0 (.fl 1 (.nil)) .stop) Z ?_)
 let B0:List Value:=[jV p0.X,jV p0.Y]
 refine OKS.box (cs:=B0) rfl rfl rfl rfl rfl rfl (by rfl) hS ?_
 intro W1 b2 hS3
 refine oA Z Z (eN (sR (.fl 0 (.fl 1 (.fx 2 (fC3_5 (.fx 6 (.fl 7 (.fl 8 (.nil))) .stop)) .stop))) Z (oR Z (zr Z Z Tryz.runUnderlying67 Z zG) (oL Z (hS3.ldB (j:=0) Z Z Z zZ (v:=jV p0.X) Z) (bnK hm fun x5 h6 hm7=>zL 0 Z Z Z Z (zM Z Z Tryz.call106 (zD Z (zD Z (zD Z zX))) Z) hS3 (fun hs=>wCS p0.X (-20000) 20000 W1 U hs h6) (.inr Z) ?_)))))
 rintro U8 L9 v10 W11 le12 hS13 ⟨rfl,rfl⟩
 have hS14:sW w U U8 [.blk b2 67 B0] W11:=hS13
 refine oM Z Z (ifc hm7 ?_ ?_)
 ·intro c15 hm16
  refine zQ Z Z Z (zB Z Z (congrArg nD c15.out)) (fun _=>zr Z Z Tryz.runUnderlying67 Z zG) (OKS.m Z Z Z (zB Z Z (congrArg nD c15.out)) (hS14.ldB (j:=0) Z Z Z zZ (v:=jV p0.Y) Z) Z (bnK hm16 fun x17 h18 hm19=>zL 0 Z Z Z (zB Z Z (congrArg nD c15.out)) (zM Z Z Tryz.call106 (zD Z (zD Z (zD Z zX))) Z) hS14 (fun hs=>wCS p0.Y (-20000) 20000 W11 U8 hs h18) (.inr Z) ?_))
  rintro U20 L21 v22 W23 le24 hS25 ⟨rfl,rfl⟩
  have hS26:sW w U U20 [.blk b2 67 B0] W23:=hS25
  refine oR Z (zN Z (congrArg nD c15.out) Z) (oA Z Z (eN (zK ?_)))
  have hE:=nB hm19;first | subst r | cases hE
  exact ⟨rfl,_,(zk rfl),U20,_,(hS26.pick [] _ (by decide) rfl),rfl,rfl⟩
 ·intro c15 hm27
  refine zU Z Z Z (zO Z Z (congrArg nD (nE.2 c15.out)) Z) (zU Z Z Z (zO Z Z (congrArg nD (nE.2 c15.out)) Z) (OKS.px Z Z Z (zO Z Z (congrArg nD (nE.2 c15.out)) Z) (oR Z (zV Z (congrArg nD (nE.2 c15.out)) Z) (oA Z Z (eN (zK ?_))))))
  have hE:=nB hm27;first | subst r | cases hE
  exact ⟨rfl,_,(zk rfl),U8,_,(hS14.pick [] _ (by decide) rfl),rfl,rfl⟩
theorem wBE (p0:Int) (p1:List wAA) (pA1:Option Addr) (pc1:Nat) (w:World) (U:PHeap) (hS:St0 w U []) (ha0:Sl U 2 pA1 pc1 p1.length (nA wAD p1)) {r:(List Int) × Int} (hm:wAN p0 p1=some r):Gv Tryz.prog 31 [jV p0,.slice pA1 p1.length pc1] w (wEB w [] U (fun U_ L_ v=>∃ (A0:Option Addr) (c0:Nat),v=.tuple #[.slice A0 r.1.length c0,jV r.2]/\L_=[.row A0 c0 3 1 (nA KL.encI r.1)])):=by
 unfold wAN at hm
 refine Gv.of Tryz.func31 Z Tryz.ntmps31 Tryz.results31 Z (sR fL2 Z (oA Z Z (oA Z Z (eN ?_))))
 have q:=wDS hm
 obtain ⟨r1,hx2⟩:=q
 refine CK.cut (fun σ_ w_=>r1=.inl ()/\∃ (U_:PHeap),σ_ 0=jV p0/\σ_ 1=.slice pA1 p1.length pc1/\PHeap.Le U U_/\sW w U U_ [] w_) ?_ ?_
 ·refine zd (sR fL7 Z (oM Z Z (oR Z (zp Z Z Z) (oM Z Z ?_))))
  by_cases c3:p0=0
  ·have hm4:=hx2;rw [if_pos c3] at hm4;replace c3:=zF c3
   refine zU Z Z Z (zO Z Z (zY (fun h=>h c3.out)) Z) (zU Z Z Z (zO Z Z (zY (fun h=>h c3.out)) Z) (oR Z (zV Z (zY (fun h=>h c3.out)) Z) (oA Z Z (eN (zl Z (sR fL4 Z (oM Z Z (oR Z (zi Z Z zP) (oR Z (Runs.gtr Z Z Z) (oA Z Z (eN (ifc hm4 ?_ ?_))))))))))))
   ·intro c5 hm6
    refine cT Z c5 (sR fL2 Z (oA Z Z (oA Z Z (eN (zK (zI ?_))))))
    have q:=wAa hm6
    obtain ⟨v7,hm8,e9⟩:=q
    obtain rfl:=wBC hm hx2 e9
    refine zA ?_
    have hS10:=hS.nilrow 3 1
    cases hm8
    exact ⟨Z,_,(wIg Z Z),U,_,hS10,none,0,Z,Z⟩
   ·intro c5 hm12
    refine cF Z c5 (sR (.fl 0 (.fx 1 (.fl 2 (.fl 3 (.nil))) .stop)) Z (oM Z Z ?_))
    have hF13:FnOK Tryz.prog U (.func (.func 105) #[] #[]) wGy wGz wAU:=⟨105,[],[],rfl,Tryz.call105,fun U1 w1 x y vs le hs ha hm=>by obtain rfl:=ha;exact wCE x w1 U1 hs  hm⟩
    refine bnK hm12 fun x14 h15 hm16=>zL 0 Z Z Z Z (zM Z Z Tryz.call104 (zD Z (zD Z zX)) Z) hS (fun hs=>wBJ p1 pA1 pc1 wAU (.func (.func 105) #[] #[]) w U hs ha0 hF13 h15) (.inr Z) ?_
    rintro U17 L18 v19 W20 le21 hS22 ⟨rfl,rfl⟩
    have hS23:sW w U U17 [] W20:=hS22
    refine oR Z (zz Z Z) (oA Z Z (eN (ifc hm16 ?_ ?_)))
    ·intro c24 hm25
     exact zl (nC c24.out) (CK.skip (zm (zE ⟨Z,(nB hm25).symm,⟨U17,Z,Z,le21,hS23⟩⟩)))
    ·intro c24 hm26
     refine CK.condT (nF (c24.out)) (sR fL2 Z (oA Z Z (oA Z Z (eN (zK (zI ?_))))))
     have q:=wAa hm26
     obtain ⟨v27,hm28,e29⟩:=q
     obtain rfl:=wBC hm hx2 e29
     refine zA ?_
     have hS30:=hS23.nilrow 3 1
     cases hm28
     exact ⟨Z,_,(wIg Z Z),U17,_,hS30,none,0,Z,Z⟩
  ·have hm32:=hx2;rw [if_neg c3] at hm32;replace c3:=zF c3
   refine zJ Z Z Z (wT Z c3) Z Z (rU Z (wT Z c3) (zp Z Z Z) (oR Z (zN Z (wDt c3.out) Z) (oA Z Z (eN (ifc hm32 ?_ ?_)))))
   ·intro c33 hm34
    refine zl (zY (fun h=>h c33.out)) (sR fL4 Z (oM Z Z (oR Z (zi Z Z zP) (oR Z (Runs.gtr Z Z Z) (oA Z Z (eN (ifc hm34 ?_ ?_)))))))
    ·intro c35 hm36
     refine cT Z c35 (sR fL2 Z (oA Z Z (oA Z Z (eN (zK (zI ?_))))))
     have q:=wAa hm36
     obtain ⟨v37,hm38,e39⟩:=q
     obtain rfl:=wBC hm hx2 e39
     refine zA ?_
     have hS40:=hS.nilrow 3 1
     cases hm38
     exact ⟨Z,_,(wIg Z Z),U,_,hS40,none,0,Z,Z⟩
    ·intro c35 hm42
     refine cF Z c35 (sR (.fl 0 (.fx 1 (.fl 2 (.fl 3 (.nil))) .stop)) Z (oM Z Z ?_))
     have hF43:FnOK Tryz.prog U (.func (.func 105) #[] #[]) wGy wGz wAU:=⟨105,[],[],rfl,Tryz.call105,fun U1 w1 x y vs le hs ha hm=>by obtain rfl:=ha;exact wCE x w1 U1 hs  hm⟩
     refine bnK hm42 fun x44 h45 hm46=>zL 0 Z Z Z Z (zM Z Z Tryz.call104 (zD Z (zD Z zX)) Z) hS (fun hs=>wBJ p1 pA1 pc1 wAU (.func (.func 105) #[] #[]) w U hs ha0 hF43 h45) (.inr Z) ?_
     rintro U47 L48 v49 W50 le51 hS52 ⟨rfl,rfl⟩
     have hS53:sW w U U47 [] W50:=hS52
     refine oR Z (zz Z Z) (oA Z Z (eN (ifc hm46 ?_ ?_)))
     ·intro c54 hm55
      exact zl (nC c54.out) (CK.skip (zm (zE ⟨Z,(nB hm55).symm,⟨U47,Z,Z,le51,hS53⟩⟩)))
     ·intro c54 hm56
      refine CK.condT (nF (c54.out)) (sR fL2 Z (oA Z Z (oA Z Z (eN (zK (zI ?_))))))
      have q:=wAa hm56
      obtain ⟨v57,hm58,e59⟩:=q
      obtain rfl:=wBC hm hx2 e59
      refine zA ?_
      have hS60:=hS53.nilrow 3 1
      cases hm58
      exact ⟨Z,_,(wIg Z Z),U47,_,hS60,none,0,Z,Z⟩
   ·intro c33 hm62
    refine cT Z c33 (sR fL2 Z (oA Z Z (oA Z Z (eN (zK (zI ?_))))))
    have q:=wAa hm62
    obtain ⟨v63,hm64,e65⟩:=q
    obtain rfl:=wBC hm hx2 e65
    refine zA ?_
    have hS66:=hS.nilrow 3 1
    cases hm64
    exact ⟨Z,_,(wIg Z Z),U,_,hS66,none,0,Z,Z⟩
 ·rintro σ68 W69 ⟨er70,⟨U71,f74,f75,le72,hS73⟩⟩
  have hm76:=wEw hm hx2 er70
  try dsimp only at hm76
  refine sR fL4 Z (oR Z (Runs.buildA (pv:=[(0,jV 225),(1,jV 575)]) (z:=[jV 0,jV 0]) (cs:=[jV 225,jV 575]) Z (wBK Z (wBK Z wCL)) Tryz.zeroValue68 Tryz.runUnderlying68 zG Z Z) (oM Z f74 (bnK hm76 fun x77 h78 hm79=>oR Z (Runs.ixA (cs:=nA KL.encI ([225,575]:List Int)) Z Z Z Tryz.runUnderlying68 zG (wIk h78) (wLX h78) (wCz zZ (wBr (sz:=1) (fun _=>Z) _ _ 0 _ _ (wCI h78) Z))) (oA Z Z (eN (sR (.fx 0 (.nil) .stop) Z (OKS.alloc (cs:=nA KL.encT (Arr.fill 6 false).l) Z Z Z Z Z Tryz.zeroValue187 Z hS73 ?_)))))))
  intro W80 b81 hS82
  have hS84:sW w U U71 [.blk b81 187 (nA KL.encT (Arr.fill 6 false).l)] W80:=hS82
  refine eN (sR fL1 Z (oA Z Z (eN (sR fL1 Z (oA Z Z (eN (zH (sR fL3 Z (oM Z f75 (oR Z (zi Z Z zP) (oM Z Z (eN (zd ?_)))))))))))))
  have q:=wDS hm79
  obtain ⟨r111,hX112⟩:=q
  have q:=wDz hX112
  obtain ⟨hle113,hf114⟩:=q
  replace hle113:=zF hle113
  refine CK.forN (fun k110 (a104,x105,l106) σ_ w_=>∃ (U_:PHeap) (A107:Option Addr) (c108:Nat),σ_ 35=jV (↑k110:Int)/\σ_ 6=jV x77/\σ_ 7=.pointer (some ⟨b81,0,none⟩)/\σ_ 8=jV x105/\σ_ 9=.slice A107 l106.length c108/\σ_ 33=.slice pA1 p1.length pc1/\σ_ 34=jV (↑p1.length:Int)/\PHeap.Le U71 U_/\sW w U U_ [.blk b81 187 (nA KL.encT a104.l),.row A107 c108 3 1 (nA KL.encI l106)] w_) hf114 ?_ ?_ ?_
  ·have hS115:=hS84.nilrow 3 1
   exact ⟨U71,none,0,rfl,rfl,rfl,rfl,rfl,rfl,rfl,(zS _),(hS115.pick [1,0] _ (by decide) rfl)⟩
  ·rintro k110 ⟨a104,x105,l106⟩ xx119 σ117 W118 hk122 ⟨U124,A107,c108,fi123,f127,f128,f129,f130,f131,f132,le125,hS126⟩ hx120 hb121
   try dsimp only at hx120
   have c133:Hid ((↑k110:Int) < (↑p1.length:Int)):=zF (wDD hk122)
   replace hk122:=zF hk122
   have hi134:Hid (w64 ((↑k110:Int) + 1)=(↑(k110 + 1):Int)):=zF (by have h1:=hle113.out;have h2:=c133.out;rw [wAd] <;> omega)
   refine sR fL1 Z (oR Z (zj Z fi123 f132) (eN (zH (cT Z c133 (kN (zH (zd (sR (.fl 0 (.fl 1 (.fx 2 (.fx 3 (.nil) .stop) .stop))) Z (bnK hx120 fun x135 h136 hm137=>?_)))))))))
   have h138:=ha0.le le72
   have h139:=h138.le le125
   have q:=h139.el (fun _=>rfl) (wCI h136)
   obtain ⟨b140,off141,hA142,hC143⟩:=q
   refine oR Z (Runs.iaN Z f131 hA142 fi123 zP zn (wEv h136)) (oL Z (hS126.ldCA (f:=0) hC143 Z Z Tryz.isAgg67 zn (us:=[jV x135.X,jV x135.Y]) Z Z) (OKS.alloc (cs:=[jV 0,jV 0]) Z Z Z Z Z Tryz.zeroValue67 Z hS126 ?_))
   intro W144 b145 hS146
   let B0:List Value:=[jV x135.X,jV x135.Y]
   refine OKS.st (j:=0) (vs:=B0) Z Z Z Z hS146 Z Z Z Z zn (zf Z) Z Z Z ?_
   intro W148 hS149
   let B1:Res:=.row A107 c108 3 1 (nA KL.encI l106)
   have hS150:sW w U U124 [.blk b145 67 B0,.blk b81 187 (nA KL.encT a104.l),B1] W148:=hS149
   refine eN (zH (sR fL2 Z (oM Z f129 (oR Z (Runs.eql Z Z Z) (eN (ifc hm137 ?_ ?_))))))
   ·intro c151 hm152
    refine cT Z c151 (sR fL2 Z (oA Z Z (oA Z Z (eN (zK (zA (zI (zA ?_))))))))
    have q:=wAa hm152
    obtain ⟨v153,hm154,e155⟩:=q
    obtain rfl:=wBC hm79 hX112 (hb121 v153 e155)
    refine zA (zI (zA ?_))
    have hS156:=hS150.nilrow 3 1
    cases hm154
    exact ⟨rfl,_,(wIg rfl rfl),U124,_,(hS156.pick [0] _ (by decide) rfl),none,0,rfl,rfl⟩
   ·intro c151 hm158
    refine cF Z c151 (kN (sR fL1 Z (oA Z Z (eN (zH (sR fL1 Z (oA Z Z (eN (zd (bnK hm158 fun y170 hf167 hm166=>?_))))))))))
    have q:=wDC hf167
    obtain ⟨hle168,hf169⟩:=q
    replace hle168:=zF hle168
    refine CK.forN' (fun k165 x164 σ_ w_=>∃ (U_:PHeap),σ_ 13=jV (1 + ↑k165:Int)/\σ_ 6=jV x77/\σ_ 7=.pointer (some ⟨b81,0,none⟩)/\σ_ 8=jV x105/\σ_ 9=.slice A107 l106.length c108/\σ_ 11=.pointer (some ⟨b145,0,none⟩)/\σ_ 12=jV x164/\σ_ 33=.slice pA1 p1.length pc1/\σ_ 34=jV (↑p1.length:Int)/\σ_ 35=jV (↑k110:Int)/\PHeap.Le U124 U_/\sW w U U_ [.blk b145 67 B0,.blk b81 187 (nA KL.encT a104.l),B1] w_) hf169 ?_ ?_ ?_
    ·exact ⟨U124,Z,f127,f128,f129,f130,Z,Z,f131,f132,fi123,(zS _),hS150⟩
    ·rintro k165 x164 xx173 σ171 W172 hk176 ⟨U178,fi177,f181,f182,f183,f184,f185,f186,f187,f188,f189,le179,hS180⟩ hx174
     have c190:Hid ((1 + ↑k165:Int) <= 5):=zF (lp_le hk176)
     replace hk176:=zF hk176
     have hi191:Hid (w64 ((1 + ↑k165:Int) + 1)=(1 + ↑(k165 + 1):Int)):=zF (by have h1:=hle168.out;have h2:=c190.out;rw [wAd] <;> omega)
     refine zH (sR fL2 Z (oM Z fi177 (oR Z (Runs.leq Z Z Z) (eN (cT Z c190 (kN (zH (zd (sR fL7 Z (oR Z (zr Z f185 Tryz.runUnderlying67 Z zG) (oL Z (hS180.ldB (j:=0) Z Z Z zZ (v:=jV x135.X) Z) (oM Z fi177 (oR Z (Runs.subw Z Z Z) (oR Z (Runs.mulw Z Z Z) (oR Z (Runs.subw Z Z Z) (oA Z Z (eN (sR fL19 Z (oM Z fi177 (bnK hx174 fun _ h192 hm193=>oR Z (zy Z f182 Z Tryz.runUnderlying187 zq (wCZ h192) (wCa h192)) ?_))))))))))))))))))))
     have hg194:=Arr.at_ a104 (k:=((1 + ↑k165:Int).toNat)) (by have hz0:=wBA h192;omega)
     refine OKS.m rfl rfl rfl rfl (hS180.ldB (j:=1) rfl rfl rfl Tryz.isAgg4 (wAY (sz:=1) (fun _=>rfl) _ _ 0 _ hg194 (by first | omega | rfl | simp) rfl)) rfl (zQ rfl rfl rfl rfl (fun _=>zz rfl rfl) (zJ rfl rfl rfl rfl rfl rfl (ifc hm193 ?_ ?_)))
     ·intro c195 hm196
      refine zU Z Z Z (zO Z Z (nC c195.out) Z) (zU Z Z Z (zO Z Z (nC c195.out) Z) (zU Z Z Z (zO Z Z (nC c195.out) Z) (zU Z Z Z (zO Z Z (nC c195.out) Z) (zU Z Z Z (zO Z Z (nC c195.out) Z) (zU Z Z Z (zO Z Z (nC c195.out) Z) (zU Z Z Z (zO Z Z (nC c195.out) Z) (zU Z Z Z (zO Z Z (nC c195.out) Z) (zU Z Z Z (zO Z Z (nC c195.out) Z) (zU Z Z Z (zO Z Z (nC c195.out) Z) (zU Z Z Z (zO Z Z (nC c195.out) Z) (zU Z Z Z (zO Z Z (nC c195.out) Z) (zU Z Z Z (zO Z Z (nC c195.out) Z) (oR Z (zV Z (nC c195.out) Z) (eN (zl Z (CK.skip (zm (zE (rR fL3 Z (oM Z fi177 (oR Z (ze (zW Z Z Z) (congrArg (jV) hi191.out)) (oA Z Z (zg ?_)))))))))))))))))))))))
      cases hm196
      exact zE ⟨Z,⟨U178,Z,f181,f182,f183,f184,f185,f186,f187,f188,f189,le179,hS180⟩⟩
     ·intro c195 hm198
      refine zJ Z Z Z (zB Z Z (nF (c195.out))) Z Z (zJ Z Z Z (zB Z Z (nF (c195.out))) Z Z (zQ Z Z Z (zB Z Z (nF (c195.out))) (fun _=>Runs.mulw Z Z Z) (zQ Z Z Z (zB Z Z (nF (c195.out))) (fun _=>zr Z f185 Tryz.runUnderlying67 Z zG) (OKS.m Z Z Z (zB Z Z (nF (c195.out))) (hS180.ldB (j:=0) Z Z Z zZ (v:=jV x135.Y) Z) Z (zQ Z Z Z (zB Z Z (nF (c195.out))) (fun _=>zr Z f185 Tryz.runUnderlying67 Z zG) (OKS.m Z Z Z (zB Z Z (nF (c195.out))) (hS180.ldB (j:=0) Z Z Z zZ (v:=jV x135.Y) Z) Z (zQ Z Z Z (zB Z Z (nF (c195.out))) (fun _=>Runs.mulw Z Z Z) (zQ Z Z Z (zB Z Z (nF (c195.out))) (fun _=>zW Z Z Z) (zJ Z Z Z (zB Z Z (nF (c195.out))) Z f181 (zJ Z Z Z (zB Z Z (nF (c195.out))) Z f181 (zQ Z Z Z (zB Z Z (nF (c195.out))) (fun _=>Runs.mulw Z Z Z) (zQ Z Z Z (zB Z Z (nF (c195.out))) (fun _=>Runs.leq Z Z Z) (oR Z (zN Z (nF (c195.out)) Z) (eN (ifc hm198 ?_ ?_)))))))))))))))
      ·intro c199 hm200
       refine cT Z c199 (rR fL2 Z (oM Z fi177 (oA Z Z (zg (zm (zE (rR fL3 Z (oM Z fi177 (oR Z (ze (zW Z Z Z) (congrArg (jV) hi191.out)) (oA Z Z (zg ?_)))))))))))
       cases hm200
       exact zE ⟨Z,⟨U178,Z,f181,f182,f183,f184,f185,Z,f187,f188,f189,le179,hS180⟩⟩
      ·intro c199 hm202
       refine cF Z c199 (CK.skip (zm (zE (rR fL3 Z (oM Z fi177 (oR Z (ze (zW Z Z Z) (congrArg (jV) hi191.out)) (oA Z Z (zg ?_))))))))
       cases hm202
       exact zE ⟨Z,⟨U178,Z,f181,f182,f183,f184,f185,f186,f187,f188,f189,le179,hS180⟩⟩
    ·rintro σ204 W205 ⟨U209,fi207,f212,f213,f214,f215,f216,f217,f218,f219,f220,le210,hS211⟩
     have c221:Hid (¬ ((1 + ↑(((5 + 1):Int) - 1).toNat:Int) <= 5)):=zF (wIl)
     refine zH (sR fL2 Z (oM Z fi207 (oR Z (Runs.leq Z Z Z) (eN (cF Z c221 (CK.exit (zh (zh (zx (zE (zH (sR fL2 Z (oM Z f217 (oR Z (Runs.gtr Z Z Z) (eN (ifc hm166 ?_ ?_))))))))))))))))
     ·intro c222 hm223
      refine cT Z c222 (sR (.fl 0 (.fl 1 (.fx 2 (.nil) .stop))) Z (oM Z f217 (bnK hm223 fun _ h224 hm225=>oR Z (zy Z f213 Z Tryz.runUnderlying187 zq (wCZ h224) (wCa h224)) ?_)))
      have hg226:=Arr.at_ a104 (k:=y170.toNat) (by have hz0:=wBA h224;omega)
      refine OKS.st (j:=1) (vs:=[.bool true]) (cs':=nA KL.encT (a104.set y170.toNat true).l) rfl rfl rfl rfl hS211 rfl rfl rfl rfl zq (by have hz0:=wBA h224;simp only [nP,nL,nM,wEF (f:=KL.encT) (sz:=1) (N:=6) a104 (fun _=>rfl) rfl];omega) rfl (wEE (sz:=1) (fo:=0) (fun _=>rfl) _ _ _ _ hg226 (by first | omega | rfl | simp) (zf rfl) rfl) rfl ?_
      intro W227 hS228
      have hS229:sW w U U209 [.blk b145 67 B0,.blk b81 187 (nA KL.encT (a104.set y170.toNat true).l),B1] W227:=hS228
      refine eN (rR fL3 Z (oM Z f214 (oR Z (zW Z Z Z) (oA Z Z (eN (rR (.fl 0 (.fl 1 (.fx 2 (.fx 3 (.fl 4 (.nil)) .stop) .stop))) Z (oM Z f215 (oM Z f217 (OKS.buildSlice (pv:=[(0,jV y170)]) (zs:=[jV 0]) (cs:=[jV y170]) Z Z Z Z Z (wBK Z wCL) zC zG Tryz.zeroValue3 Z Z Z Z Z hS229 ?_)))))))))
      intro W230 b231 hS232
      let B2:Res:=.row (some ⟨b231,0,none⟩) 1 3 1 (nA KL.encI [y170])
      have hS234:sW w U U209 [B2,.blk b145 67 B0,.blk b81 187 (nA KL.encT (a104.set y170.toNat true).l),B1] W230:=hS232
      refine bnK hm225 fun x235 h236 hm237=>OKS.append (j:=3) (enc:=KL.encI) (xs:=l106) (ys:=[y170]) (zs:=x235) rfl rfl rfl rfl rfl Tryz.underlying22 wLH rfl rfl rfl rfl rfl rfl hS234 rfl rfl rfl (hS234.srcR (j:=0) rfl (by decide) (wAJ (f:=KL.encI) (sz:=1) (fun _=>rfl) [y170])) (fun _=>rfl) (fun _=>rfl) h236 rfl ?_
      intro A238 c239 W240 hS241
      have hS242:sW w U U209 [B2,.blk b145 67 B0,.blk b81 187 (nA KL.encT (a104.set y170.toNat true).l),.row A238 c239 3 1 (nA KL.encI x235)] W240:=hS241
      refine oA Z Z (zg (zm (zE (rR fL2 Z (oR Z (ze (zW Z f220 Z) (congrArg (jV) hi134.out)) (oM Z Z (zg ?_)))))))
      obtain rfl:=nB hm237
      exact zE ⟨rfl,_,rfl,⟨U209,A238,c239,rfl,f212,f213,rfl,rfl,f218,f219,(le125.trans le210),(hS242.pick [2,3] _ (by decide) rfl)⟩⟩
     ·intro c222 hm248
      refine cF Z c222 (kN (rR (.fl 0 (.fl 1 (.fx 2 (.fx 3 (.fl 4 (.nil)) .stop) .stop))) Z (oM Z f215 (oM Z f217 (OKS.buildSlice (pv:=[(0,jV y170)]) (zs:=[jV 0]) (cs:=[jV y170]) Z Z Z Z Z (wBK Z wCL) zC zG Tryz.zeroValue3 Z Z Z Z Z hS211 ?_)))))
      intro W249 b250 hS251
      let B3:Res:=.row (some ⟨b250,0,none⟩) 1 3 1 (nA KL.encI [y170])
      have hS253:sW w U U209 [B3,.blk b145 67 B0,.blk b81 187 (nA KL.encT a104.l),B1] W249:=hS251
      refine bnK hm248 fun x254 h255 hm256=>OKS.append (j:=3) (enc:=KL.encI) (xs:=l106) (ys:=[y170]) (zs:=x254) rfl rfl rfl rfl rfl Tryz.underlying22 wLH rfl rfl rfl rfl rfl rfl hS253 rfl rfl rfl (hS253.srcR (j:=0) rfl (by decide) (wAJ (f:=KL.encI) (sz:=1) (fun _=>rfl) [y170])) (fun _=>rfl) (fun _=>rfl) h255 rfl ?_
      intro A257 c258 W259 hS260
      have hS261:sW w U U209 [B3,.blk b145 67 B0,.blk b81 187 (nA KL.encT a104.l),.row A257 c258 3 1 (nA KL.encI x254)] W259:=hS260
      refine oA Z Z (zg (zm (zE (rR fL2 Z (oR Z (ze (zW Z f220 Z) (congrArg (jV) hi134.out)) (oM Z Z (zg ?_)))))))
      obtain rfl:=nB hm256
      exact zE ⟨rfl,_,rfl,⟨U209,A257,c258,rfl,f212,f213,f214,rfl,f218,f219,(le125.trans le210),(hS261.pick [2,3] _ (by decide) rfl)⟩⟩
  ·rintro ⟨y271,y272,y273⟩ σ267 W268 ⟨U276,A274,c275,fi270,f279,f280,f281,f282,f283,f284,le277,hS278⟩ hb269
   have hm285:=wEw hm79 hX112 hb269
   try dsimp only at hm285
   have c286:Hid (¬ ((↑(((↑p1.length:Int):Int) - 0).toNat:Int) < (↑p1.length:Int))):=zF (wBw)
   refine sR fL1 Z (oR Z (zj Z fi270 f284) (eN (zH (cF Z c286 (CK.exit (zh (zh (zx (zE (sR fL3 Z (oM Z f282 (oA Z Z (oA Z Z (eN (zK ?_)))))))))))))))
   cases hm285
   exact ⟨rfl,_,(wIg rfl rfl),U276,_,(hS278.pick [1] _ (by decide) rfl),A274,c275,rfl,rfl⟩
end Go.Proofs.YthbficbpebiekaaGreat
namespace Go.Proofs.YthbficbpebiekaaGreat
open Go.KL
set_option maxHeartbeats 4000000
theorem wEp (p0:Int) (p1:List wAA) (pA1:Option Addr) (pc1:Nat) (w:World) (U:PHeap) (hS:St0 w U []) (ha0:Sl U 2 pA1 pc1 p1.length (nA wAD p1)) {r:Int × Int} (hm:wAj p0 p1=some r):Gv Tryz.prog 32 [jV p0,.slice pA1 p1.length pc1] w (wEB w [] U (fun U_ L_ v=>v=.tuple #[jV r.1,jV r.2]/\L_=[])):=by
 unfold wAj at hm
 refine Gv.of Tryz.func32 Z Tryz.ntmps32 Tryz.results32 Z (sR fL2 Z (oA Z Z (oA Z Z (eN (sR (.fl 0 (.fl 1 (.fx 2 (wIb (.nil)) .stop))) Z (oM Z Z (oM Z Z ?_)))))))
 have q:=bnd hm
 obtain ⟨⟨x1,x2⟩,h3,hm4⟩:=q
 try dsimp only at hm4
 refine zL 0 Z Z Z Z (zM Z Z Tryz.call31 (zD Z (zD Z zX)) Z) hS (fun hs=>wBE p0 p1 pA1 pc1 w U hs ha0 h3) (.inr Z) ?_
 rintro U5 L6 v7 W8 le9 hS10 ⟨A11,c12,rfl,rfl⟩
 let B0:Res:=.row A11 c12 3 1 (nA KL.encI x1)
 have hS14:sW w U U5 [B0] W8:=hS10
 refine oM Z Z (oR Z (zt Z Z (v:=.slice A11 x1.length c12) Z) (oR Z (zt Z Z (v:=jV x2) Z) (oA Z Z (oA Z Z (eN (zH (sR fL2 Z (oM Z Z (oR Z (zp Z Z Z) (eN (ifc hm4 ?_ ?_)))))))))))
 ·intro c15 hm16
  refine zl (zY (fun h=>h c15.out)) (kN (sR fL1 Z (oA Z Z (eN (zH (sR fL3 Z (oM Z Z (oR Z (zi Z Z zC) (oM Z Z (eN (zd (bnK hm16 fun y28 hf25 hm24=>?_))))))))))))
  have q:=wDC hf25
  obtain ⟨hle26,hf27⟩:=q
  replace hle26:=zF hle26
  refine CK.forN' (fun k23 x22 σ_ w_=>∃ (U_:PHeap),σ_ 22=jV (↑k23:Int)/\σ_ 8=jV x22/\σ_ 20=.slice A11 x1.length c12/\σ_ 21=jV (↑x1.length:Int)/\PHeap.Le U5 U_/\sW w U U_ [B0] w_) hf27 ?_ ?_ ?_
  ·exact ⟨U5,Z,Z,Z,Z,(zS _),hS14⟩
  ·rintro k23 x22 xx31 σ29 W30 hk34 ⟨U36,fi35,f39,f40,f41,le37,hS38⟩ hx32
   have c42:Hid ((↑k23:Int) < (↑x1.length:Int)):=zF (wDD hk34)
   replace hk34:=zF hk34
   have hi43:Hid (w64 ((↑k23:Int) + 1)=(↑(k23 + 1):Int)):=zF (by have h1:=hle26.out;have h2:=c42.out;rw [wAd] <;> omega)
   refine sR fL1 Z (oR Z (zj Z fi35 f41) (eN (zH (cT Z c42 (kN (zH (zd (sR fL3 Z (bnK hx32 fun _ h44 hm45=>?_)))))))))
   obtain ⟨b46,hA47⟩:=hS38.rowSome (j:=0) rfl (by rw [wAJ (f:=KL.encI) (sz:=1) (fun _=>rfl) x1];have hz:=wBA h44;omega)
   refine oR Z (Runs.iaN Z f40 hA47 fi35 zC zG (wBA h44)) ?_
   have hg48:=wFl (xs:=x1) (wBA h44)
   refine OKS.m rfl rfl rfl rfl (hS38.ldR (j:=0) rfl hA47 rfl rfl zZ (wAY (sz:=1) (fun _=>rfl) _ _ 0 _ hg48 (by first | omega | rfl | simp) rfl)) rfl (OKS.ra rfl rfl rfl rfl rfl rfl (eN (sR fL2 rfl (zJ rfl rfl rfl rfl rfl rfl (zQ rfl rfl rfl rfl (fun _=>Runs.gtr rfl rfl rfl) (eN (ifc hm45 ?_ ?_)))))))
   ·intro c49 hm50
    refine cT Z c49 (rR fL3 Z (oM Z f39 (oR Z (Runs.subw Z Z Z) (oA Z Z (zg (zm (zE (rR fL2 Z (oR Z (ze (zW Z fi35 Z) (congrArg (jV) hi43.out)) (oM Z Z (zg ?_)))))))))))
    cases hm50
    exact zE ⟨Z,⟨U36,Z,Z,f40,f41,le37,hS38⟩⟩
   ·intro c49 hm52
    refine cF Z c49 (CK.skip (zm (zE (rR fL2 Z (oR Z (ze (zW Z fi35 Z) (congrArg (jV) hi43.out)) (oM Z Z (zg ?_)))))))
    cases hm52
    exact zE ⟨Z,⟨U36,Z,f39,f40,f41,le37,hS38⟩⟩
  ·rintro σ54 W55 ⟨U59,fi57,f62,f63,f64,le60,hS61⟩
   have c65:Hid (¬ ((↑(((↑x1.length:Int):Int) - 0).toNat:Int) < (↑x1.length:Int))):=zF (wBw)
   refine sR fL1 Z (oR Z (zj Z fi57 f64) (eN (zH (cF Z c65 (CK.exit (zh (zh (zx (zE (sR fL3 Z (oM Z f62 (oA Z Z (oA Z Z (eN (zK ?_)))))))))))))))
   cases hm24
   exact ⟨rfl,_,(wIg rfl rfl),U59,_,(hS61.pick [] _ (by decide) rfl),rfl,rfl⟩
 ·intro c15 hm66
  refine cT Z c15 (sR fL3 Z (oM Z Z (oA Z Z (oA Z Z (eN (zK (zA ?_)))))))
  cases hm66
  exact ⟨rfl,_,(wIg rfl rfl),U5,_,(hS14.pick [] _ (by decide) rfl),rfl,rfl⟩
theorem wEf (p0:Int) (p1:List wAA) (pA1:Option Addr) (pc1:Nat) (w:World) (U:PHeap) (hS:St0 w U []) (ha0:Sl U 2 pA1 pc1 p1.length (nA wAD p1)) {r:Int × Int} (hm:wAp p0 p1=some r):Gv Tryz.prog 33 [jV p0,.slice pA1 p1.length pc1] w (wEB w [] U (fun U_ L_ v=>v=.tuple #[jV r.1,jV r.2]/\L_=[])):=by
 unfold wAp at hm
 refine Gv.of Tryz.func33 Z Tryz.ntmps33 Tryz.results33 Z (sR fL2 Z (oA Z Z (oA Z Z (eN (sR (.fl 0 (.fl 1 (.fx 2 (wIb (.nil)) .stop))) Z (oM Z Z (oM Z Z ?_)))))))
 have q:=bnd hm
 obtain ⟨⟨x1,x2⟩,h3,hm4⟩:=q
 try dsimp only at hm4
 refine zL 0 Z Z Z Z (zM Z Z Tryz.call31 (zD Z (zD Z zX)) Z) hS (fun hs=>wBE p0 p1 pA1 pc1 w U hs ha0 h3) (.inr Z) ?_
 rintro U5 L6 v7 W8 le9 hS10 ⟨A11,c12,rfl,rfl⟩
 have hS14:sW w U U5 [.row A11 c12 3 1 (nA KL.encI x1)] W8:=hS10
 refine oM Z Z (oR Z (zt Z Z (v:=.slice A11 x1.length c12) Z) (oR Z (zt Z Z (v:=jV x2) Z) (oA Z Z (oA Z Z (eN (zH (sR fL2 Z (oM Z Z (oR Z (zp Z Z Z) (eN (ifc hm4 ?_ ?_)))))))))))
 ·intro c15 hm16
  refine zl (zY (fun h=>h c15.out)) (kN (sR fL6 Z (oM Z Z (oR Z (zi Z Z zC) (oR Z (Runs.subw Z Z Z) (oR Z (Runs.max Z Z Z) (oA Z Z (oA Z Z (eN (zK ?_))))))))))
  cases hm16
  exact ⟨rfl,_,(wIg rfl rfl),U5,_,(hS14.pick [] _ (by decide) rfl),rfl,rfl⟩
 ·intro c15 hm17
  refine cT Z c15 (sR fL3 Z (oM Z Z (oA Z Z (oA Z Z (eN (zK (zA ?_)))))))
  cases hm17
  exact ⟨rfl,_,(wIg rfl rfl),U5,_,(hS14.pick [] _ (by decide) rfl),rfl,rfl⟩
theorem wBO (p0:List Int) (pA0:Option Addr) (pc0:Nat) (p1:List Int) (pA1:Option Addr) (pc1:Nat) (w:World) (U:PHeap) (hS:St0 w U []) (ha0:Sl U 1 pA0 pc0 p0.length (nA KL.encI p0)) (ha1:Sl U 1 pA1 pc1 p1.length (nA KL.encI p1)) {r:Bool} (hm:wAL p0 p1=some r):Gv Tryz.prog 20 [.slice pA0 p0.length pc0,.slice pA1 p1.length pc1] w (wEB w [] U (fun U_ L_ v=>v=.bool r/\L_=[])):=by
 unfold wAL at hm
 refine Gv.of Tryz.func20 Z Tryz.ntmps20 Tryz.results20 Z (sR fL1 Z (oA Z Z (eN (zH (sR fL5 Z (oM Z Z (oR Z (zi Z Z zC) (oM Z Z (oR Z (zi Z Z zC) (oR Z (zp Z Z Z) (eN ?_)))))))))))
 by_cases c1:(↑p0.length:Int)=(↑p1.length:Int)
 ·have hm2:=hm;rw [if_pos c1] at hm2;replace c1:=zF c1
  refine zl (zY (fun h=>h c1.out)) (kN (zH (sR fL3 Z (oM Z Z (oR Z (zi Z Z zC) (oM Z Z (eN (zd ?_))))))))
  have q:=wDS hm2
  obtain ⟨r5,hX6⟩:=q
  have q:=wDz hX6
  obtain ⟨hle7,hf8⟩:=q
  replace hle7:=zF hle7
  refine CK.forN (fun k4 _ σ_ w_=>∃ (U_:PHeap),σ_ 13=jV (↑k4:Int)/\σ_ 0=.slice pA0 p0.length pc0/\σ_ 1=.slice pA1 p1.length pc1/\σ_ 12=jV (↑p0.length:Int)/\PHeap.Le U U_/\sW w U U_ [] w_) hf8 ?_ ?_ ?_
  ·exact ⟨U,Z,Z,Z,Z,(zS _),hS⟩
  ·rintro k4 ⟨⟩ xx11 σ9 W10 hk14 ⟨U16,fi15,f19,f20,f21,le17,hS18⟩ hx12 hb13
   try dsimp only at hx12
   have c22:Hid ((↑k4:Int) < (↑p0.length:Int)):=zF (wDD hk14)
   replace hk14:=zF hk14
   have hi23:Hid (w64 ((↑k4:Int) + 1)=(↑(k4 + 1):Int)):=zF (by have h1:=hle7.out;have h2:=c22.out;rw [wAd] <;> omega)
   refine sR fL1 rfl (zQ rfl rfl rfl rfl (fun _=>zj rfl fi15 f21) (eN (zH (cT Z c22 (kN (zH (zd (sR fL2 rfl (zJ rfl rfl rfl rfl rfl fi15 (OKS.ra rfl rfl rfl rfl rfl rfl (eN (zH (CK.anyOrd Tryz.mixed [3,3,3,1,3,3,3,1,3] fL9 (by kernel_rfl) ?_)))))))))))))
   have hS24:=hS18.drew
   generalize hw_W25:({ W10 with drawn:=W10.drawn + 1 }:World)=W25 at hS24 ⊢
   refine oM Z f19 (oM Z Z (bnK hx12 fun x26 h27 hm28=>?_))
   have h29:=ha0.le le17
   have q:=h29.el (fun _=>rfl) (wCI h27)
   obtain ⟨b30,off31,hA32,hC33⟩:=q
   refine oR Z (Runs.iaN Z Z hA32 Z zC zG (wEv h27)) (oL Z (hS24.ldC (f:=0) hC33 (v:=jV x26) Z Z zZ Z) (oM Z f20 (oM Z Z (bnK hm28 fun x34 h35 hm36=>?_))))
   have h37:=ha1.le le17
   have q:=h37.el (fun _=>rfl) (wCI h35)
   obtain ⟨b38,off39,hA40,hC41⟩:=q
   refine oR Z (Runs.iaN Z Z hA40 Z zC zG (wEv h35)) (oL Z (hS24.ldC (f:=0) hC41 (v:=jV x34) Z Z zZ Z) (oR Z (zp Z Z Z) (eN (ifc hm36 ?_ ?_))))
   ·intro c42 hm43
    refine zl (zY (fun h=>h c42.out)) (CK.skip (zm (zE (rR fL2 Z (oR Z (ze (zW Z fi15 Z) (congrArg (jV) hi23.out)) (oM Z Z (zg ?_)))))))
    obtain rfl:=nB hm43
    exact zE ⟨Z,_,Z,⟨U16,Z,f19,f20,f21,le17,hS24⟩⟩
   ·intro c42 hm44
    refine cT Z c42 (sR fL1 Z (oA Z Z (eN (zK (zI (zA ?_))))))
    have q:=wAa hm44
    obtain ⟨v45,hm46,e47⟩:=q
    obtain rfl:=wBC hm2 hX6 (hb13 v45 e47)
    refine zA (zI (zA ?_))
    have hE:=nB hm46;first | subst r | cases hE
    exact ⟨Z,_,(zk Z),U16,_,hS24,Z,Z⟩
  ·rintro ⟨⟩ σ48 W49 ⟨U52,fi51,f55,f56,f57,le53,hS54⟩ hb50
   have hm58:=wEw hm2 hX6 hb50
   try dsimp only at hm58
   have c59:Hid (¬ ((↑(((↑p0.length:Int):Int) - 0).toNat:Int) < (↑p0.length:Int))):=zF (wBw)
   refine sR fL1 Z (oR Z (zj Z fi51 f57) (eN (zH (cF Z c59 (CK.exit (zh (zh (zx (zE (sR fL1 Z (oA Z Z (eN (zK ?_)))))))))))))
   have hE:=nB hm58;first | subst r | cases hE
   exact ⟨Z,_,(zk Z),U52,_,hS54,Z,Z⟩
 ·have hm60:=hm;rw [if_neg c1] at hm60;replace c1:=zF c1
  refine cT Z c1 (sR fL1 Z (oA Z Z (eN (zK (zA ?_)))))
  have hE:=nB hm60;first | subst r | cases hE
  exact ⟨Z,_,(zk Z),U,_,hS,Z,Z⟩
theorem wBP (p0:List Int) (pA0:Option Addr) (pc0:Nat) (w:World) (U:PHeap) (hS:St0 w U []) (ha0:Sl U 1 pA0 pc0 p0.length (nA KL.encI p0)) {r:(List Int)} (hm:wAM p0=some r):Gv Tryz.prog 34 [.slice pA0 p0.length pc0] w (wEB w [] U (fun U_ L_ v=>∃ (A0:Option Addr) (c0:Nat),v=.slice A0 r.length c0/\L_=[.row A0 c0 3 1 (nA KL.encI r)])):=by
 unfold wAM at hm
 refine Gv.of Tryz.func34 Z Tryz.ntmps34 Tryz.results34 Z (sR fL1 Z (oA Z Z (eN (sR (.fl 0 (.fx 1 (.fl 2 (.nil)) .stop)) Z (oM Z Z ?_)))))
 have hS1:=hS.nilrow 3 1
 have hS3:sW w U U [.row none 0 3 1 (nA KL.encI ([]:List Int))] w:=hS1
 refine bnK hm fun x4 h5 hm6=>OKS.append (j:=0) (enc:=KL.encI) (xs:=([]:List Int)) (ys:=p0) (zs:=x4) Z Z Z Z Z Tryz.underlying22 wLH Z Z Z Z Z Z hS3 Z Z Z (hS3.srcS ha0) (fun _=>Z) (fun _=>Z) h5 Z ?_
 intro A7 c8 W9 hS10
 have hS11:sW w U U [.row A7 c8 3 1 (nA KL.encI x4)] W9:=hS10
 refine oA Z Z (eN (zK ?_))
 have hE:=nB hm6;first | subst r | cases hE
 exact ⟨Z,_,(zk Z),U,_,hS11,A7,c8,Z,Z⟩
theorem wBY (p0:List Int) (pA0:Option Addr) (pc0:Nat) (w:World) (U:PHeap) (hS:St ⟨w,[.row pA0 pc0 3 1 (nA KL.encI p0)],U⟩ U [.row pA0 pc0 3 1 (nA KL.encI p0)] w) {r:List Int} (hm:wAO p0=some r):Gv Tryz.prog 35 [.slice pA0 p0.length pc0] w (wEB w [.row pA0 pc0 3 1 (nA KL.encI p0)] U (fun U_ L_ v=>v=.tuple #[]/\L_=[.row pA0 pc0 3 1 (nA KL.encI r)]/\r.length=p0.length)) :=
 wKp (fun b o c zs w h1 h2 h3=>Go.Proofs.Tryz.slices_Sort_int b o c zs w h1 h2 h3) (fun p c w=>Go.Proofs.Tryz.slices_Sort_int_none p c w) hS hm
theorem wBB (w:World) (U:PHeap) (hS:St0 w U []) {r:Bool} (hm:wAW=some r):Gv Tryz.prog 36 [] w (wEB w [] U (fun U_ L_ v=>v=.bool r/\L_=[])):=by
 cases hm
 refine (xr36 w).mono ?_
 rintro v w' ⟨rfl,k⟩
 exact ⟨U,[],hS.grow k,Z,Z⟩
theorem wBf (p0:List Int) (pA0:Option Addr) (pc0:Nat) (p1:List Int) (pA1:Option Addr) (pc1:Nat) (w:World) (U:PHeap) (hS:St0 w U []) (ha0:Sl U 1 pA0 pc0 p0.length (nA KL.encB8 p0)) (ha1:Sl U 1 pA1 pc1 p1.length (nA KL.encB8 p1)) {r:Bool} (hm:wAZ p0 p1=some r):Gv Tryz.prog 4 [.slice pA0 p0.length pc0,.slice pA1 p1.length pc1] w (wEB w [] U (fun U_ L_ v=>v=.bool r/\L_=[])):=by
 unfold wAZ at hm
 refine Gv.of Tryz.func4 Z Tryz.ntmps4 Tryz.results4 Z (sR fL1 Z (oA Z Z (eN (sR (.fl 0 (.fx 1 (.fx 2 (.fl 3 (.nil)) .stop) .stop)) Z (oM Z Z (bnK hm fun x1 h2 hm3=>zL 0 Z Z Z Z (zM Z Z Tryz.call29 (zD Z zX) Z) hS (fun hs=>wCR p0 pA0 pc0 w U hs ha0 h2) (.inr Z) ?_))))))
 rintro U4 L5 v6 W7 le8 hS9 ⟨b10,A11,c12,rfl,rfl,h14⟩
 have hS15:sW w U U4 [.blk b10 184 [.slice A11 x1.bytes.length c12,jV x1.next,.int .u32 x1.state]] W7:=hS9
 have q:=bnd hm3
 obtain ⟨⟨x16,x17⟩,h18,hm19⟩:=q
 try dsimp only at hm19
 refine zL 1 Z Z Z Z (zM Z Z Tryz.call28 (zD Z (zD Z zX)) Z) hS15 (fun hs=>wCs x1 b10 A11 c12 8 W7 U4 hs h14 h18) (.inl Z) ?_
 rintro U20 L21 v22 W23 le24 hS25 ⟨A26,c27,A28,c29,rfl,rfl,h31⟩
 let B0:Res:=.blk b10 184 [.slice A28 x17.bytes.length c29,jV x17.next,.int .u32 x17.state]
 let B1:Res:=.row A26 c27 67 2 (nA wAD x16)
 have hS32:sW w U U20 [B1,B0] W23:=hS25
 refine oA Z Z (eN (sR fL1 Z (oA Z Z (eN (zH (sR (.fl 0 (.fx 1 (.fl 2 (.fl 3 (.fx 4 (.fl 5 (.fl 6 (.nil))) .stop))) .stop)) Z (oM Z Z ?_)))))))
 have h33:=ha1.le le8
 have h34:=h33.le le24
 refine bnK hm19 fun x35 h36 hm37=>zL 0 Z Z Z Z (zM Z Z Tryz.call29 (zD Z zX) Z) hS32 (fun hs=>wCR p1 pA1 pc1 W23 U20 hs h34 h36) (.inr Z) ?_
 rintro U38 L39 v40 W41 le42 hS43 ⟨b44,A45,c46,rfl,rfl,h48⟩
 have hS49:sW w U U38 [.blk b44 184 [.slice A45 x35.bytes.length c46,jV x35.next,.int .u32 x35.state],B1,B0] W41:=hS43
 refine oM Z Z (oR Z (zi Z Z zP) ?_)
 have q:=bnd hm37
 obtain ⟨⟨x50,x51⟩,h52,hm53⟩:=q
 try dsimp only at hm53
 refine zL 1 Z Z Z Z (zM Z Z Tryz.call30 (zD Z (zD Z zX)) Z) hS49 (fun hs=>wBo x35 b44 A45 c46 (↑x16.length:Int) W41 U38 hs h48 h52) (.inl Z) ?_
 rintro U54 L55 v56 W57 le58 hS59 ⟨A60,c61,A62,c63,rfl,rfl,h65⟩
 let B2:Res:=.blk b44 184 [.slice A62 x51.bytes.length c63,jV x51.next,.int .u32 x51.state]
 let B3:Res:=.row A60 c61 3 1 (nA KL.encI x50)
 have hS66:sW w U U54 [B3,B2,B1,B0] W57:=hS59
 refine oR Z (zi Z Z zC) (oM Z Z (eN (zd (bnK hm53 fun y89 hf86 hm85=>?_))))
 have q:=wDC hf86
 obtain ⟨hle87,hf88⟩:=q
 replace hle87:=zF hle87
 refine CK.forN' (fun k84 l80 σ_ w_=>∃ (U_:PHeap) (A81:Option Addr) (c82:Nat),σ_ 35=jV (↑k84:Int)/\σ_ 5=.slice A26 x16.length c27/\σ_ 6=.slice A81 l80.length c82/\σ_ 33=.slice A60 x50.length c61/\σ_ 34=jV (↑x50.length:Int)/\PHeap.Le U54 U_/\sW w U U_ [B2,B0,B1,.row A81 c82 67 2 (nA wAD l80),B3] w_) hf88 ?_ ?_ ?_
 ·have hS90:=hS66.nilrow 67 2
  exact ⟨U54,none,0,rfl,rfl,rfl,rfl,rfl,(zS _),(hS90.pick [2,4,3,0,1] _ (by decide) rfl)⟩
 ·rintro k84 l80 xx94 σ92 W93 hk97 ⟨U99,A81,c82,fi98,f102,f103,f104,f105,le100,hS101⟩ hx95
  have c106:Hid ((↑k84:Int) < (↑x50.length:Int)):=zF (wDD hk97)
  replace hk97:=zF hk97
  have hi107:Hid (w64 ((↑k84:Int) + 1)=(↑(k84 + 1):Int)):=zF (by have h1:=hle87.out;have h2:=c106.out;rw [wAd] <;> omega)
  refine sR fL1 Z (oR Z (zj Z fi98 f105) (eN (zH (cT Z c106 (kN (zH (zd (sR fL3 Z (bnK hx95 fun _ h108 hm109=>?_)))))))))
  obtain ⟨b110,hA111⟩:=hS101.rowSome (j:=4) rfl (by rw [wAJ (f:=KL.encI) (sz:=1) (fun _=>rfl) x50];have hz:=wBA h108;omega)
  refine oR Z (Runs.iaN Z f104 hA111 fi98 zC zG (wBA h108)) ?_
  have hg112:=wFl (xs:=x50) (wBA h108)
  refine OKS.m rfl rfl rfl rfl (hS101.ldR (j:=4) rfl hA111 rfl rfl zZ (wAY (sz:=1) (fun _=>rfl) _ _ 0 _ hg112 (by first | omega | rfl | simp) rfl)) rfl (OKS.ra rfl rfl rfl rfl rfl rfl (eN (rR (wOA (.fx 5 (.fx 6 (.fl 7 (.nil)) .stop) .stop)) rfl (zJ rfl rfl rfl rfl rfl f103 (zJ rfl rfl rfl rfl rfl f102 (zJ rfl rfl rfl rfl rfl rfl (bnK hm109 fun _ h113 hm114=>?_)))))))
  obtain ⟨b115,hA116⟩:=hS101.rowSome (j:=2) rfl (by rw [wAJ (f:=wAD) (sz:=2) (fun _=>rfl) x16];have hz:=wBA h113;omega)
  refine oR Z (Runs.iaI Z Z hA116 Z zP zn (wCZ h113) (wCa h113)) ?_
  have hg117:=wFl (xs:=x16) (wBA h113)
  let B4:List Value:=[jV ((gd x16 (gd x50 k84).toNat).X),jV ((gd x16 (gd x50 k84).toNat).Y)]
  refine OKS.m rfl rfl rfl rfl (hS101.ldRA (j:=2) rfl hA116 rfl rfl Tryz.isAgg67 zn (vs:=B4) (wGS (sz:=2) (fun _=>rfl) _ _ _ hg117 (by first | omega | rfl | simp) rfl) rfl) rfl (OKS.buildSlice (pv:=[(0,.agg B4.toArray)]) (zs:=[jV 0,jV 0]) (cs:=B4) rfl rfl rfl rfl rfl (wBK rfl wCL) zP zn Tryz.zeroValue67 rfl rfl rfl rfl rfl hS101 ?_)
  intro W118 b119 hS120
  let B5:Res:=.row (some ⟨b119,0,none⟩) 1 67 2 (nA wAD [(gd x16 (gd x50 k84).toNat)])
  have hS122:sW w U U99 [B5,B2,B0,B1,.row A81 c82 67 2 (nA wAD l80),B3] W118:=hS120
  refine bnK hm114 fun x123 h124 hm125=>OKS.append (j:=4) (enc:=wAD) (xs:=l80) (ys:=[(gd x16 (gd x50 k84).toNat)]) (zs:=x123) rfl rfl rfl rfl rfl Tryz.underlying61 wLn rfl rfl rfl rfl rfl rfl hS122 rfl rfl rfl (hS122.srcR (j:=0) rfl (by decide) (wAJ (f:=wAD) (sz:=2) (fun _=>rfl) [(gd x16 (gd x50 k84).toNat)])) (fun _=>rfl) (fun _=>rfl) h124 rfl ?_
  intro A126 c127 W128 hS129
  have hS130:sW w U U99 [B5,B2,B0,B1,.row A126 c127 67 2 (nA wAD x123),B3] W128:=hS129
  refine oA Z Z (zg (zm (zE (rR fL2 Z (oR Z (ze (zW Z fi98 Z) (congrArg (jV) hi107.out)) (oM Z Z (zg ?_)))))))
  cases hm125
  exact zE ⟨rfl,⟨U99,A126,c127,rfl,f102,rfl,f104,f105,le100,(hS130.pick [1,2,3,4,5] _ (by decide) rfl)⟩⟩
 ·rintro σ134 W135 ⟨U143,A141,c142,fi137,f146,f147,f148,f149,le144,hS145⟩
  have c150:Hid (¬ ((↑(((↑x50.length:Int):Int) - 0).toNat:Int) < (↑x50.length:Int))):=zF (wBw)
  refine sR fL1 Z (oR Z (zj Z fi137 f149) (eN (zH (cF Z c150 (CK.exit (zh (zh (zx (zE (sR (.fx 0 (.nil) .stop) Z (OKS.alloc (cs:=nA KL.encI (Arr.fill 2 0).l) Z Z Z Z Z Tryz.zeroValue68 Z hS145 ?_)))))))))))
  intro W151 b152 hS153
  let B6:Res:=.row A141 c142 67 2 (nA wAD y89)
  have hS155:sW w U U143 [.blk b152 68 (nA KL.encI (Arr.fill 2 0).l),B2,B0,B1,B6,B3] W151:=hS153
  refine eN (sR (.fx 0 (.nil) .stop) Z (OKS.alloc (cs:=nA KL.encT (Arr.fill 2 false).l) Z Z Z Z Z Tryz.zeroValue69 Z hS155 ?_))
  intro W156 b157 hS158
  have hS160:sW w U U143 [.blk b157 69 (nA KL.encT (Arr.fill 2 false).l),.blk b152 68 (nA KL.encI (Arr.fill 2 0).l),B2,B0,B1,B6,B3] W156:=hS158
  refine eN (zH (sR fL1 Z (oM Z Z (eN (zd ?_)))))
  have q:=hS160.freezeR (k:=4) (n:=x16.length) rfl (wAJ (f:=wAD) (sz:=2) (fun _=>rfl) x16) (by decide)
  obtain ⟨U164,le165,hs166,hS167⟩:=q
  have hS168:sW w U U164 [.blk b157 69 (nA KL.encT (Arr.fill 2 false).l),.blk b152 68 (nA KL.encI (Arr.fill 2 0).l),B2,B0,B6,B3] W156:=hS167
  have q:=hS168.freezeR (k:=4) (n:=y89.length) rfl (wAJ (f:=wAD) (sz:=2) (fun _=>rfl) y89) (by decide)
  obtain ⟨U172,le173,hs174,hS175⟩:=q
  have hS176:sW w U U172 [.blk b157 69 (nA KL.encT (Arr.fill 2 false).l),.blk b152 68 (nA KL.encI (Arr.fill 2 0).l),B2,B0,B3] W156:=hS175
  have q:=wDS hm85
  obtain ⟨r188,hX189⟩:=q
  have q:=wDz hX189
  obtain ⟨hle190,hf191⟩:=q
  replace hle190:=zF hle190
  refine CK.forN (fun k187 (a185,a186) σ_ w_=>∃ (U_:PHeap),σ_ 47=jV (↑k187:Int)/\σ_ 5=.slice A26 x16.length c27/\σ_ 6=.slice A141 y89.length c142/\σ_ 9=.pointer (some ⟨b152,0,none⟩)/\σ_ 10=.pointer (some ⟨b157,0,none⟩)/\PHeap.Le U172 U_/\sW w U U_ [.blk b157 69 (nA KL.encT a185.l),.blk b152 68 (nA KL.encI a186.l),B2,B0] w_) hf191 ?_ ?_ ?_
  ·exact ⟨U172,rfl,f146,f147,rfl,rfl,(zS _),(hS176.pick [0,1,2,3] _ (by decide) rfl)⟩
  ·rintro k187 ⟨a185,a186⟩ xx194 σ192 W193 hk197 ⟨U199,fi198,f202,f203,f204,f205,le200,hS201⟩ hx195 hb196
   try dsimp only at hx195
   have c206:Hid ((↑k187:Int) < 2):=zF (wDD hk197)
   replace hk197:=zF hk197
   have hi207:Hid (w64 ((↑k187:Int) + 1)=(↑(k187 + 1):Int)):=zF (by have h1:=hle190.out;have h2:=c206.out;rw [wAd] <;> omega)
   refine sR fL1 Z (oR Z (zj Z fi198 Z) (eN (zH (cT Z c206 (kN (zH (zd (sR fL2 Z (oM Z fi198 (oA Z Z (eN (sR (.fl 0 (.fl 1 (.fx 2 (wIb (.nil)) .stop))) Z (oM Z Z (oM Z f202 ?_))))))))))))))
   have h208:=hs166.le le173
   have h209:=h208.le le200
   have q:=bnd hx195
   obtain ⟨⟨x210,x211⟩,h212,hm213⟩:=q
   try dsimp only at hm213
   refine zL 0 Z Z Z Z (zM Z Z Tryz.call31 (zD Z (zD Z zX)) Z) hS201 (fun hs=>wBE (↑k187:Int) x16 A26 c27 W193 U199 hs h209 h212) (.inr Z) ?_
   rintro U214 L215 v216 W217 le218 hS219 ⟨A220,c221,rfl,rfl⟩
   let B7:Res:=.row A220 c221 3 1 (nA KL.encI x210)
   have hS223:sW w U U214 [B7,.blk b157 69 (nA KL.encT a185.l),.blk b152 68 (nA KL.encI a186.l),B2,B0] W217:=hS219
   refine oM Z Z (oR Z (zt Z Z (v:=.slice A220 x210.length c221) Z) (oR Z (zt Z Z (v:=jV x211) Z) (oA Z Z (oA Z Z (eN (sR (.fl 0 (.fl 1 (.fx 2 (wIb (.nil)) .stop))) Z (oM Z Z (oM Z f202 ?_))))))))
   have h224:=h209.le le218
   have q:=bnd hm213
   obtain ⟨⟨x225,x226⟩,h227,hm228⟩:=q
   try dsimp only at hm228
   refine zL 0 Z Z Z Z (zM Z Z Tryz.call32 (zD Z (zD Z zX)) Z) hS223 (fun hs=>wEp (↑k187:Int) x16 A26 c27 W217 U214 hs h224 h227) (.inr Z) ?_
   rintro U229 L230 v231 W232 le233 hS234 ⟨rfl,rfl⟩
   have hS235:sW w U U229 [B7,.blk b157 69 (nA KL.encT a185.l),.blk b152 68 (nA KL.encI a186.l),B2,B0] W232:=hS234
   refine oM Z Z (oR Z (zt Z Z (v:=jV x225) Z) (oR Z (zt Z Z (v:=jV x226) Z) (oA Z Z (oA Z Z (eN (sR (.fl 0 (.fl 1 (.fx 2 (wIb (.nil)) .stop))) Z (oM Z Z (oM Z f202 ?_))))))))
   have h236:=h224.le le233
   have q:=bnd hm228
   obtain ⟨⟨x237,x238⟩,h239,hm240⟩:=q
   try dsimp only at hm240
   refine zL 0 Z Z Z Z (zM Z Z Tryz.call33 (zD Z (zD Z zX)) Z) hS235 (fun hs=>wEf (↑k187:Int) x16 A26 c27 W232 U229 hs h236 h239) (.inr Z) ?_
   rintro U241 L242 v243 W244 le245 hS246 ⟨rfl,rfl⟩
   have hS247:sW w U U241 [B7,.blk b157 69 (nA KL.encT a185.l),.blk b152 68 (nA KL.encI a186.l),B2,B0] W244:=hS246
   refine oM Z Z (oR Z (zt Z Z (v:=jV x237) Z) (oR Z (zt Z Z (v:=jV x238) Z) (oA Z Z (oA Z Z (eN (zH (bnK hm240 fun b248 hx250 hm251=>CK.cut (fun σ_ w_=>∃ (U_:PHeap),σ_ 5=.slice A26 x16.length c27/\σ_ 6=.slice A141 y89.length c142/\σ_ 9=.pointer (some ⟨b152,0,none⟩)/\σ_ 10=.pointer (some ⟨b157,0,none⟩)/\σ_ 11=jV (↑k187:Int)/\σ_ 12=.slice A220 x210.length c221/\σ_ 13=jV x211/\σ_ 14=jV x225/\σ_ 16=jV x237/\σ_ 47=jV (↑k187:Int)/\σ_ 83=.bool b248/\PHeap.Le U241 U_/\sW w U U_ [.blk b157 69 (nA KL.encT a185.l),.blk b152 68 (nA KL.encI a186.l),B2,B0,B7] w_) ?_ ?_)))))))
   ·refine rR fL16 Z (oM Z Z (oM Z Z (oR Z (zp Z Z Z) (oM Z Z ?_))))
    by_cases c252:x211=x226
    ·have hm253:=hx250;rw [if_pos c252] at hm253;replace c252:=zF c252
     refine zJ Z Z Z (zB Z Z (zY (fun h=>h c252.out))) Z Z (zJ Z Z Z (zB Z Z (zY (fun h=>h c252.out))) Z Z (zQ Z Z Z (zB Z Z (zY (fun h=>h c252.out))) (fun _=>zp Z Z Z) (oR Z (zV Z (zY (fun h=>h c252.out)) Z) (oM Z Z (ifc hm253 ?_ ?_)))))
     ·intro c254 hm255
      refine zJ Z Z Z (zB Z Z (zY (fun h=>h c254.out))) Z Z (zQ Z Z Z (zB Z Z (zY (fun h=>h c254.out))) (fun _=>zp Z Z Z) (zJ Z Z Z (zB Z Z (zY (fun h=>h c254.out))) Z Z (ifc hm255 ?_ ?_)))
      ·intro c256 hm257
       refine zU Z Z Z (zO Z Z (zY (fun h=>h c256.out)) Z) (zU Z Z Z (zO Z Z (zY (fun h=>h c256.out)) Z) (zQ Z Z Z (zB Z Z (zY (fun h=>h c254.out))) (fun _=>zV Z (zY (fun h=>h c256.out)) Z) (oR Z (zV Z (zY (fun h=>h c254.out)) Z) (zg ?_))))
       cases hm257
       exact zE ⟨rfl,⟨U241,f202,f203,f204,f205,rfl,rfl,rfl,rfl,rfl,fi198,rfl,(zS _),(hS247.pick [1,2,3,4,0] _ (by decide) rfl)⟩⟩
      ·intro c256 hm259
       refine zJ Z Z Z (wT Z c256) Z Z (rU Z (wT Z c256) (zp Z Z Z) (zQ Z Z Z (zB Z Z (zY (fun h=>h c254.out))) (fun _=>zN Z (wDt c256.out) Z) (oR Z (zV Z (zY (fun h=>h c254.out)) Z) (zg ?_))))
       cases hm259
       exact zE ⟨rfl,⟨U241,f202,f203,f204,f205,rfl,rfl,rfl,rfl,rfl,fi198,rfl,(zS _),(hS247.pick [1,2,3,4,0] _ (by decide) rfl)⟩⟩
     ·intro c254 hm261
      refine oT Z c254 (oT Z c254 (oT Z c254 (zU Z Z Z (wBZ Z Z Z) (zU Z Z Z (wBZ Z Z Z) (oT Z c254 (oR Z (zN Z (wDt c254.out) Z) (zg ?_)))))))
      cases hm261
      exact zE ⟨rfl,⟨U241,f202,f203,f204,f205,rfl,rfl,rfl,rfl,rfl,fi198,rfl,(zS _),(hS247.pick [1,2,3,4,0] _ (by decide) rfl)⟩⟩
    ·have hm263:=hx250;rw [if_neg c252] at hm263;replace c252:=zF c252
     refine oT Z c252 (oT Z c252 (oT Z c252 (oR Z (zN Z (wDt c252.out) Z) (oM Z Z (oN Z (oN Z (oN Z (zU Z Z Z (wBZ Z Z Z) (zU Z Z Z (wBZ Z Z Z) (oN Z (oR Z (zN Z Z Z) (zg ?_))))))))))))
     cases hm263
     exact zE ⟨rfl,⟨U241,f202,f203,f204,f205,rfl,rfl,rfl,rfl,rfl,fi198,rfl,(zS _),(hS247.pick [1,2,3,4,0] _ (by decide) rfl)⟩⟩
   ·rintro σ265 W266 ⟨U267,f270,f271,f272,f273,f274,f275,f276,f277,f278,f279,f280,le268,hS269⟩
    refine ifc hm251 ?_ ?_
    ·intro c281 hm282
     refine CK.condT (f280.trans (congrArg nD c281.out)) (sR fL1 Z (oA Z Z (eN (zK (zA (zI (zA ?_)))))))
     have q:=wAa hm282
     obtain ⟨v283,hm284,e285⟩:=q
     obtain rfl:=wBC hm85 hX189 (hb196 v283 e285)
     refine zA (zI (zA ?_))
     have hE:=nB hm284;first | subst r | cases hE
     exact ⟨rfl,_,(zk rfl),U267,_,(hS269.pick [] _ (by decide) rfl),rfl,rfl⟩
    ·intro c281 hm286
     refine zl (f280.trans (congrArg nD (nE.2 c281.out))) (kN (sR (wOB (.fx 6 (.fl 7 (.fx 8 (.nil) .stop)) .stop)) Z (oM Z f274 (oM Z f274 (oM Z f277 (oM Z f276 (oR Z (zp Z Z Z) (bnK hm286 fun _ h287 hm288=>oR Z (zy Z f272 Z Tryz.runUnderlying68 zG (wCZ h287) (wCa h287)) ?_))))))))
     have hg289:=Arr.at_ a186 (k:=k187) (by have hz0:=wBA h287;omega)
     refine OKS.st (j:=1) (vs:=[jV x225]) (cs':=nA KL.encI (a186.set k187 x225).l) rfl rfl rfl rfl hS269 rfl rfl rfl rfl zG (by have hz0:=wBA h287;simp only [nP,nL,nM,wEF (f:=KL.encI) (sz:=1) (N:=2) a186 (fun _=>rfl) rfl];omega) rfl (wEE (sz:=1) (fo:=0) (fun _=>rfl) _ _ _ _ hg289 (by first | omega | rfl | simp) (zf rfl) rfl) rfl ?_
     intro W290 hS291
     have hS292:sW w U U267 [.blk b157 69 (nA KL.encT a185.l),.blk b152 68 (nA KL.encI (a186.set k187 x225).l),B2,B0,B7] W290:=hS291
     refine oR Z (zy Z f273 Z zo zq (wCZ h287) (wCa h287)) ?_
     have hg293:=Arr.at_ a185 (k:=k187) (by have hz0:=wBA h287;omega)
     refine OKS.st (j:=0) (vs:=[.bool (decide (¬ (x211=0)))]) (cs':=nA KL.encT (a185.set k187 (decide (¬ (x211=0)))).l) rfl rfl rfl rfl hS292 rfl rfl rfl rfl zq (by have hz0:=wBA h287;simp only [nP,nL,nM,wEF (f:=KL.encT) (sz:=1) (N:=2) a185 (fun _=>rfl) rfl];omega) rfl (wEE (sz:=1) (fo:=0) (fun _=>rfl) _ _ _ _ hg293 (by first | omega | rfl | simp) (zf rfl) rfl) rfl ?_
     intro W294 hS295
     have hS296:sW w U U267 [.blk b157 69 (nA KL.encT (a185.set k187 (decide (¬ (x211=0)))).l),.blk b152 68 (nA KL.encI (a186.set k187 x225).l),B2,B0,B7] W294:=hS295
     refine eN (zH (sR fL2 Z (oM Z f276 (oR Z (zp Z Z Z) (eN (ifc hm288 ?_ ?_))))))
     ·intro c297 hm298
      refine zl (zY (fun h=>h c297.out)) (kN (zH (sR fL13 Z (oM Z f275 (oR Z (zi Z Z zC) (oM Z f270 (oR Z (zi Z Z zP) (oR Z (zp Z Z Z) (oM Z Z (ifc hm298 ?_ ?_))))))))))
      ·intro c299 hm300
       refine zJ Z Z Z (zB Z Z (zY (fun h=>h c299.out))) Z f278 (zJ Z Z Z (zB Z Z (zY (fun h=>h c299.out))) Z f270 (zQ Z Z Z (zB Z Z (zY (fun h=>h c299.out))) (fun _=>zi Z Z zP) (zQ Z Z Z (zB Z Z (zY (fun h=>h c299.out))) (fun _=>Runs.subw Z Z Z) (zQ Z Z Z (zB Z Z (zY (fun h=>h c299.out))) (fun _=>Runs.max Z Z Z) (zQ Z Z Z (zB Z Z (zY (fun h=>h c299.out))) (fun _=>zp Z Z Z) (oR Z (zV Z (zY (fun h=>h c299.out)) Z) (eN (ifc hm300 ?_ ?_))))))))
       ·intro c301 hm302
        refine zl (zY (fun h=>h c301.out)) (kN (sR (.fx 0 (.fx 1 (.fl 2 (.fl 3 (.nil))) .stop) .stop) Z (OKS.makeMap Z Z Z Z Z hS296 ?_)))
        intro W303 b304 hS305
        have hr306:=MpR.nil wMn wNC
        refine OKS.mapPut (x:=.tmp 106) (j:=0) (mk:=wMn) (mv:=wNC) (a:=0) (v:=true) rfl rfl rfl (by first | exact .inl rfl | exact .inr rfl) hS305 rfl rfl rfl rfl (wFp Tryz.runUnderlying74) wKN hr306 rfl ?_
        intro es308 ck309 W310 hr311 hS312
        have hS313:sW w U U267 [.obj b304 (.map es308 ck309),.blk b157 69 (nA KL.encT (a185.set k187 (decide (¬ (x211=0)))).l),.blk b152 68 (nA KL.encI (a186.set k187 x225).l),B2,B0,B7] W310:=hS312
        refine oM Z Z (oA Z Z (eN (zH (sR fL3 Z (oM Z f275 (oR Z (zi Z Z zC) (oM Z Z (eN (zd ?_)))))))))
        have q:=hS313.freezeR (k:=5) (n:=x210.length) rfl (wAJ (f:=KL.encI) (sz:=1) (fun _=>rfl) x210) (by decide)
        obtain ⟨U318,le319,hs320,hS321⟩:=q
        have hS322:sW w U U318 [.obj b304 (.map es308 ck309),.blk b157 69 (nA KL.encT (a185.set k187 (decide (¬ (x211=0)))).l),.blk b152 68 (nA KL.encI (a186.set k187 x225).l),B2,B0] W310:=hS321
        have q:=wDS hm302
        obtain ⟨r338,hX339⟩:=q
        have q:=wDz hX339
        obtain ⟨hle340,hf341⟩:=q
        replace hle340:=zF hle340
        refine CK.forN (fun k337 l334 σ_ w_=>∃ (U_:PHeap) (es335:Array MapEntry) (ck336:Nat),σ_ 110=jV (↑k337:Int)/\σ_ 5=.slice A26 x16.length c27/\σ_ 6=.slice A141 y89.length c142/\σ_ 9=.pointer (some ⟨b152,0,none⟩)/\σ_ 10=.pointer (some ⟨b157,0,none⟩)/\σ_ 11=jV (↑k187:Int)/\σ_ 12=.slice A220 x210.length c221/\σ_ 14=jV x225/\σ_ 18=.map (some b304)/\σ_ 47=jV (↑k187:Int)/\σ_ 108=.slice A220 x210.length c221/\σ_ 109=jV (↑x210.length:Int)/\PHeap.Le U318 U_/\sW w U U_ [.obj b304 (.map es335 ck336),.blk b157 69 (nA KL.encT (a185.set k187 (decide (¬ (x211=0)))).l),.blk b152 68 (nA KL.encI (a186.set k187 x225).l),B2,B0] w_/\MpR es335 wMn wNC l334) hf341 ?_ ?_ ?_
        ·exact ⟨U318,es308,ck309,Z,f270,f271,f272,f273,f274,f275,f277,Z,f279,Z,Z,(zS _),hS322,hr311⟩
        ·rintro k337 l334 xx344 σ342 W343 hk347 ⟨U349,es335,ck336,fi348,f352,f353,f354,f355,f356,f357,f358,f359,f360,f361,f362,le350,hS351,h363⟩ hx345 hb346
         have c364:Hid ((↑k337:Int) < (↑x210.length:Int)):=zF (wDD hk347)
         replace hk347:=zF hk347
         have hi365:Hid (w64 ((↑k337:Int) + 1)=(↑(k337 + 1):Int)):=zF (by have h1:=hle340.out;have h2:=c364.out;rw [wAd] <;> omega)
         refine sR fL1 Z (oR Z (zj Z fi348 f362) (eN (zH (cT Z c364 (kN (zH (zd (sR fL5 Z (oM Z fi348 (bnK hx345 fun x366 h367 hm368=>?_))))))))))
         have h369:=hs320.le le350
         have q:=h369.el (fun _=>rfl) (wCI h367)
         obtain ⟨b370,off371,hA372,hC373⟩:=q
         refine oR Z (Runs.iaN Z f361 hA372 fi348 zC zG (wEv h367)) (oL Z (hS351.ldC (f:=0) hC373 (v:=jV x366) Z Z zZ Z) (oA Z Z (oA Z Z (eN (zH (bnK hm368 fun b374 hx376 hm377=>CK.cut (fun σ_ w_=>∃ (U_:PHeap),σ_ 5=.slice A26 x16.length c27/\σ_ 6=.slice A141 y89.length c142/\σ_ 9=.pointer (some ⟨b152,0,none⟩)/\σ_ 10=.pointer (some ⟨b157,0,none⟩)/\σ_ 11=jV (↑k187:Int)/\σ_ 12=.slice A220 x210.length c221/\σ_ 14=jV x225/\σ_ 18=.map (some b304)/\σ_ 19=jV (↑k337:Int)/\σ_ 20=jV x366/\σ_ 47=jV (↑k187:Int)/\σ_ 108=.slice A220 x210.length c221/\σ_ 109=jV (↑x210.length:Int)/\σ_ 110=jV (↑k337:Int)/\σ_ 129=.bool b374/\PHeap.Le U349 U_/\sW w U U_ [.obj b304 (.map es335 ck336),.blk b157 69 (nA KL.encT (a185.set k187 (decide (¬ (x211=0)))).l),.blk b152 68 (nA KL.encI (a186.set k187 x225).l),B2,B0] w_) ?_ ?_))))))
         ·refine rR fL15 Z (oM Z Z (oR Z (zj Z Z Z) (oM Z Z ?_)))
          by_cases c378:x366 < 0
          ·have hm379:=hx376;rw [if_pos c378] at hm379;replace c378:=zF c378
           refine oT Z c378 (oT Z c378 (oR Z (zN Z (wDt c378.out) Z) (oM Z Z (oN Z (oN Z (oN Z (zU Z Z Z (wBZ Z Z Z) (zU Z Z Z (wBZ Z Z Z) (zU Z Z Z (wBZ Z Z Z) (oN Z (oR Z (zN Z Z Z) (zg ?_))))))))))))
           cases hm379
           exact zE ⟨Z,⟨U349,f352,f353,f354,f355,f356,f357,f358,f359,Z,Z,f360,f361,f362,fi348,Z,(zS _),hS351⟩⟩
          ·have hm381:=hx376;rw [if_neg c378] at hm381;replace c378:=zF c378
           refine zJ Z Z Z (wF Z c378) Z Z (rU Z (wF Z c378) (Runs.gtr Z Z Z) (oR Z (zV Z (zY c378.out) Z) (oM Z Z (ifc hm381 ?_ ?_))))
           ·intro c382 hm383
            refine oT Z c382 (oT Z c382 (oT Z c382 (zU Z Z Z (wBZ Z Z Z) (zU Z Z Z (wBZ Z Z Z) (zU Z Z Z (wBZ Z Z Z) (oT Z c382 (oR Z (zN Z (wDt c382.out) Z) (zg ?_))))))))
            cases hm383
            exact zE ⟨Z,⟨U349,f352,f353,f354,f355,f356,f357,f358,f359,Z,Z,f360,f361,f362,fi348,Z,(zS _),hS351⟩⟩
           ·intro c382 hm385
            refine zJ Z Z Z (wF Z c382) Z Z (rU Z (wF Z c382) (Runs.gtr Z Z Z) (zJ Z Z Z (wF Z c382) Z Z (ifc hm385 ?_ ?_)))
            ·intro c386 hm387
             refine zJ Z Z Z (wT Z c386) Z f359 (zJ Z Z Z (wT Z c386) Z Z (OKS.m Z Z Z (wT Z c386) (hS351.lookup1 (j:=0) (mk:=wMn) (mv:=wNC) (a:=x366) (z:=false) Z Z Z Z (wFp Tryz.runUnderlying74) wKN Tryz.zeroValue4 h363) Z (rU Z (wF Z c382) (zN Z (wDt c386.out) Z) (oR Z (zV Z (zY c382.out) Z) (zg ?_)))))
             cases hm387
             exact zE ⟨Z,⟨U349,f352,f353,f354,f355,f356,f357,f358,f359,Z,Z,f360,f361,f362,fi348,Z,(zS _),hS351⟩⟩
            ·intro c386 hm389
             refine oF Z c386 (oF Z c386 (oF Z c386 (rU Z (wF Z c382) (zV Z (zY c386.out) Z) (oR Z (zV Z (zY c382.out) Z) (zg ?_)))))
             cases hm389
             exact zE ⟨Z,⟨U349,f352,f353,f354,f355,f356,f357,f358,f359,Z,Z,f360,f361,f362,fi348,Z,(zS _),hS351⟩⟩
         ·rintro σ391 W392 ⟨U393,f396,f397,f398,f399,f400,f401,f402,f403,f404,f405,f406,f407,f408,f409,f410,le394,hS395⟩
          refine ifc hm377 ?_ ?_
          ·intro c411 hm412
           refine CK.condT (f410.trans (congrArg nD c411.out)) (sR fL1 Z (oA Z Z (eN (zK (zA (zI (zA ?_)))))))
           have q:=wAa hm412
           obtain ⟨v413,hm414,e415⟩:=q
           obtain rfl:=wBC hm302 hX339 (hb346 v413 e415)
           refine zA (zI (zA (zI (zA ?_))))
           have q:=wAa hm414
           obtain ⟨v416,hm417,e418⟩:=q
           obtain rfl:=wBC hm85 hX189 (hb196 v416 e418)
           refine zA (zI (zA ?_))
           have hE:=nB hm417;first | subst r | cases hE
           exact ⟨rfl,_,(zk rfl),U393,_,(hS395.pick [] _ (by decide) rfl),rfl,rfl⟩
          ·intro c411 hm419
           refine zl (f410.trans (congrArg nD (nE.2 c411.out))) (kN (sR (.fl 0 (.fl 1 (.fx 2 (.nil) .stop))) rfl (zJ rfl rfl rfl rfl rfl f403 (zJ rfl rfl rfl rfl rfl f405 (OKS.mapPut (x:=.tmp 130) (y:=.tmp 131) (j:=0) (mk:=wMn) (mv:=wNC) (a:=x366) (v:=true) rfl rfl rfl (by first | exact .inl rfl | exact .inr rfl) hS395 rfl rfl rfl rfl (wFp Tryz.runUnderlying74) wKN h363 rfl ?_)))))
           intro es420 ck421 W422 hr423 hS424
           have hS425:sW w U U393 [.obj b304 (.map es420 ck421),.blk b157 69 (nA KL.encT (a185.set k187 (decide (¬ (x211=0)))).l),.blk b152 68 (nA KL.encI (a186.set k187 x225).l),B2,B0] W422:=hS424
           refine eN (sR (fC0_3 (.fx 4 (fC5_9 (.nil)) .stop)) Z (oM Z f400 (oM Z f396 (oM Z f404 (bnK hm419 fun x426 h427 hm428=>?_)))))
           have h438:=h236.le le245
           have h439:=h438.le le268
           have h440:=h439.le le319
           have h441:=h440.le le350
           have h442:=h441.le le394
           have q:=Sl.cutM (sz:=2) (f:=wAD) h442 (fun _=>rfl) h427
           obtain ⟨sl437,ha434,hab436,hb435,hn433⟩:=q
           refine zQ (v:=.slice (if c27=(0:Int).toNat then A26 else nS (·.add ((0:Int).toNat * 2)) A26) x426.length (c27 - (0:Int).toNat)) rfl rfl rfl rfl (fun _=>ze (Runs.slc (sz:=2) (a:=0) (b:=(↑k337:Int)) rfl rfl (.inr ⟨rfl,rfl⟩) (.inl ⟨_,rfl,rfl⟩) zP zn ha434 hab436 hb435 (h442).cap) (by rw [hn433])) ?_
           generalize hA_A430:(if c27=(0:Int).toNat then A26 else nS (·.add ((0:Int).toNat * 2)) A26)=A430 at sl437 ⊢
           generalize hc_c431:c27 - (0:Int).toNat=c431 at sl437 ⊢
           have q:=bnd hm428
           obtain ⟨⟨x443,x444⟩,h445,hm446⟩:=q
           try dsimp only at hm446
           refine zL 0 Z Z Z Z (zM Z Z Tryz.call31 (zD Z (zD Z zX)) Z) hS425 (fun hs=>wBE (↑k187:Int) x426 A430 c431 W422 U393 hs sl437 h445) (.inr Z) ?_
           rintro U447 L448 v449 W450 le451 hS452 ⟨A453,c454,rfl,rfl⟩
           have hS456:sW w U U447 [.row A453 c454 3 1 (nA KL.encI x443),.obj b304 (.map es420 ck421),.blk b157 69 (nA KL.encT (a185.set k187 (decide (¬ (x211=0)))).l),.blk b152 68 (nA KL.encI (a186.set k187 x225).l),B2,B0] W450:=hS452
           refine oM Z Z (oR Z (zt Z Z (v:=.slice A453 x443.length c454) Z) (oR Z (zt Z Z (v:=jV x444) Z) (oA Z Z (oA Z Z (eN (sR (wOC (.fx 7 (.fl 8 (.fl 9 (.nil))) .stop)) Z (oM Z Z (oR Z (zp Z Z Z) (oM Z Z (ifc hm446 ?_ ?_))))))))))
           ·intro c457 hm458
            refine zJ Z Z Z (zB Z Z (zY (fun h=>h c457.out))) Z Z (zJ Z Z Z (zB Z Z (zY (fun h=>h c457.out))) Z f401 (zJ Z Z Z (zB Z Z (zY (fun h=>h c457.out))) Z f404 (bnK hm458 fun x459 h460 hm461=>?_)))
            have h471:=h369.le le394
            have h472:=h471.le le451
            have q:=Sl.cutM (sz:=1) (f:=KL.encI) h472 (fun _=>rfl) h460
            obtain ⟨sl470,ha467,hab469,hb468,hn466⟩:=q
            refine zQ (v:=.slice (if c221=(0:Int).toNat then A220 else nS (·.add ((0:Int).toNat * 1)) A220) x459.length (c221 - (0:Int).toNat)) rfl rfl rfl (zB rfl rfl (zY (fun h=>h c457.out))) (fun _=>ze (Runs.slc (sz:=1) (a:=0) (b:=(↑k337:Int)) rfl rfl (.inr ⟨rfl,rfl⟩) (.inl ⟨_,rfl,rfl⟩) zC zG ha467 hab469 hb468 (h472).cap) (by rw [hn466])) ?_
            generalize hA_A463:(if c221=(0:Int).toNat then A220 else nS (·.add ((0:Int).toNat * 1)) A220)=A463 at sl470 ⊢
            generalize hc_c464:c221 - (0:Int).toNat=c464 at sl470 ⊢
            have q:=hS456.freezeR (k:=0) (n:=x443.length) rfl (wAJ (f:=KL.encI) (sz:=1) (fun _=>rfl) x443) (by decide)
            obtain ⟨U473,le474,hs475,hS476⟩:=q
            have hS477:sW w U U473 [.obj b304 (.map es420 ck421),.blk b157 69 (nA KL.encT (a185.set k187 (decide (¬ (x211=0)))).l),.blk b152 68 (nA KL.encI (a186.set k187 x225).l),B2,B0] W450:=hS476
            have h478:=sl470.le le474
            refine bnK hm461 fun x479 h480 hm481=>zL 0 Z Z Z (zB Z Z (zY (fun h=>h c457.out))) (zM Z Z Tryz.call20 (zD Z (zD Z zX)) Z) hS477 (fun hs=>wBO x443 A453 c454 x459 A463 c464 W450 U473 hs hs475 h478 h480) (.inr Z) ?_
            rintro U482 L483 v484 W485 le486 hS487 ⟨rfl,rfl⟩
            have hS488:sW w U U482 [.obj b304 (.map es420 ck421),.blk b157 69 (nA KL.encT (a185.set k187 (decide (¬ (x211=0)))).l),.blk b152 68 (nA KL.encI (a186.set k187 x225).l),B2,B0] W485:=hS487
            refine zQ Z Z Z (zB Z Z (zY (fun h=>h c457.out))) (fun _=>zz Z Z) (oR Z (zV Z (zY (fun h=>h c457.out)) Z) (eN (ifc hm481 ?_ ?_)))
            ·intro c489 hm490
             refine zl (nC c489.out) (CK.skip (zm (zE (rR fL2 Z (oR Z (ze (zW Z f409 Z) (congrArg (jV) hi365.out)) (oM Z Z (zg ?_)))))))
             obtain rfl:=nB hm490
             exact zE ⟨Z,_,Z,⟨U482,es420,ck421,Z,f396,f397,f398,f399,f400,f401,f402,f403,f406,f407,f408,((((le350.trans le394).trans le451).trans le474).trans le486),hS488,hr423⟩⟩
            ·intro c489 hm494
             refine CK.condT (nF (c489.out)) (sR fL1 Z (oA Z Z (eN (zK (zI (zA ?_))))))
             have q:=wAa hm494
             obtain ⟨v495,hm496,e497⟩:=q
             obtain rfl:=wBC hm302 hX339 (hb346 v495 e497)
             refine zA (zI (zA (zI (zA ?_))))
             have q:=wAa hm496
             obtain ⟨v498,hm499,e500⟩:=q
             obtain rfl:=wBC hm85 hX189 (hb196 v498 e500)
             refine zA (zI (zA ?_))
             have hE:=nB hm499;first | subst r | cases hE
             exact ⟨rfl,_,(zk rfl),U482,_,(hS488.pick [] _ (by decide) rfl),rfl,rfl⟩
           ·intro c457 hm501
            refine oT Z c457 (oT Z c457 (oT Z c457 (oT Z c457 (OKS.px Z Z Z (zO Z Z (wDt c457.out) Z) (oT Z c457 (oR Z (zN Z (wDt c457.out) Z) (eN (CK.condT Z (sR fL1 Z (oA Z Z (eN (zK (zI (zA ?_))))))))))))))
            have q:=wAa hm501
            obtain ⟨v502,hm503,e504⟩:=q
            obtain rfl:=wBC hm302 hX339 (hb346 v502 e504)
            refine zA (zI (zA (zI (zA ?_))))
            have q:=wAa hm503
            obtain ⟨v505,hm506,e507⟩:=q
            obtain rfl:=wBC hm85 hX189 (hb196 v505 e507)
            refine zA (zI (zA ?_))
            have hE:=nB hm506;first | subst r | cases hE
            exact ⟨rfl,_,(zk rfl),U447,_,(hS456.pick [] _ (by decide) rfl),rfl,rfl⟩
        ·rintro y512 σ508 W509 ⟨U515,e513,c514,fi511,f518,f519,f520,f521,f522,f523,f524,f525,f526,f527,f528,le516,hS517,h529⟩ hb510
         have hm530:=wEw hm302 hX339 hb510
         have c531:Hid (¬ ((↑(((↑x210.length:Int):Int) - 0).toNat:Int) < (↑x210.length:Int))):=zF (wBw)
         refine sR fL1 Z (oR Z (zj Z fi511 f528) (eN (zH (cF Z c531 (CK.exit (zh (zh (zx (zE (zH (sR fL5 Z (oM Z f524 (oM Z f525 (oL Z (hS517.lenM (j:=0) (mk:=wMn) (mv:=wNC) Z Z Z (wFp Tryz.runUnderlying74) h529) (oR Z (Runs.subw Z Z Z) (oR Z (zp Z Z Z) (eN (ifc hm530 ?_ ?_))))))))))))))))))
         ·intro c532 hm533
          refine zl (zY (fun h=>h c532.out)) (kN (sR (.fl 0 (.fl 1 (.fx 2 (wIb (.nil)) .stop))) Z (oM Z f522 (oM Z f519 ?_))))
          have h534:=hs174.le le200
          have h535:=h534.le le218
          have h536:=h535.le le233
          have h537:=h536.le le245
          have h538:=h537.le le268
          have h539:=h538.le le319
          have h540:=h539.le le516
          have q:=bnd hm533
          obtain ⟨⟨x541,x542⟩,h543,hm544⟩:=q
          try dsimp only at hm544
          refine zL 0 Z Z Z Z (zM Z Z Tryz.call31 (zD Z (zD Z zX)) Z) hS517 (fun hs=>wBE (↑k187:Int) y89 A141 c142 W509 U515 hs h540 h543) (.inr Z) ?_
          rintro U545 L546 v547 W548 le549 hS550 ⟨A551,c552,rfl,rfl⟩
          let B8:Res:=.row A551 c552 3 1 (nA KL.encI x541)
          have hS554:sW w U U545 [B8,.obj b304 (.map e513 c514),.blk b157 69 (nA KL.encT (a185.set k187 (decide (¬ (x211=0)))).l),.blk b152 68 (nA KL.encI (a186.set k187 x225).l),B2,B0] W548:=hS550
          refine oM Z Z (oR Z (zt Z Z (v:=.slice A551 x541.length c552) Z) (oR Z (zt Z Z (v:=jV x542) Z) (oA Z Z (oA Z Z (eN (sR fL2 Z (oM Z Z (oR Z (Runs.eql Z Z Z) (eN (ifc hm544 ?_ ?_))))))))))
          ·intro c555 hm556
           refine cT Z c555 (sR (.fl 0 (.fx 1 (.fl 2 (.fx 3 (.fl 4 (.fl 5 (.nil))) .stop)) .stop)) Z (oM Z f523 ?_))
           have h557:=hs320.le le516
           have h558:=h557.le le549
           refine bnK hm556 fun x559 h560 hm561=>zL 0 Z Z Z Z (zM Z Z Tryz.call34 (zD Z zX) Z) hS554 (fun hs=>wBP x210 A220 c221 W548 U545 hs h558 h560) (.inr Z) ?_
           rintro U562 L563 v564 W565 le566 hS567 ⟨A568,c569,rfl,rfl⟩
           let B9:Res:=.row A568 c569 3 1 (nA KL.encI x559)
           have hS571:sW w U U562 [B9,B8,.obj b304 (.map e513 c514),.blk b157 69 (nA KL.encT (a185.set k187 (decide (¬ (x211=0)))).l),.blk b152 68 (nA KL.encI (a186.set k187 x225).l),B2,B0] W565:=hS567
           refine oM Z Z ?_
           have q:=hS571.freezeR (k:=1) (n:=x541.length) rfl (wAJ (f:=KL.encI) (sz:=1) (fun _=>rfl) x541) (by decide)
           obtain ⟨U572,le573,hs574,hS575⟩:=q
           have hS576:sW w U U572 [B9,.obj b304 (.map e513 c514),.blk b157 69 (nA KL.encT (a185.set k187 (decide (¬ (x211=0)))).l),.blk b152 68 (nA KL.encI (a186.set k187 x225).l),B2,B0] W565:=hS575
           refine bnK hm561 fun x577 h578 hm579=>zL 0 Z Z Z Z (zM Z Z Tryz.call34 (zD Z zX) Z) hS576 (fun hs=>wBP x541 A551 c552 W565 U572 hs hs574 h578) (.inr Z) ?_
           rintro U580 L581 v582 W583 le584 hS585 ⟨A586,c587,rfl,rfl⟩
           let B10:Res:=.row A586 c587 3 1 (nA KL.encI x577)
           have hS589:sW w U U580 [B10,B9,.obj b304 (.map e513 c514),.blk b157 69 (nA KL.encT (a185.set k187 (decide (¬ (x211=0)))).l),.blk b152 68 (nA KL.encI (a186.set k187 x225).l),B2,B0] W583:=hS585
           refine oA Z Z (oA Z Z (eN (sR (.fl 0 (.fx 1 (.nil) .stop)) Z (oM Z Z (bnK hm579 fun x590 h591 hm592=>?_)))))
           have hS593:sW w U U580 [B9,B10,.obj b304 (.map e513 c514),.blk b157 69 (nA KL.encT (a185.set k187 (decide (¬ (x211=0)))).l),.blk b152 68 (nA KL.encI (a186.set k187 x225).l),B2,B0] W583:=hS589.pick [1,0,2,3,4,5,6] _ (by decide) rfl
           refine zL 1 Z Z Z Z (zM Z Z Tryz.call35 (zD Z zX) Z) hS593 (fun hs=>wBY x559 A568 c569 W583 U580 hs h591) (.inl Z) ?_
           rintro U594 L595 v596 W597 le598 hS599 ⟨rfl,rfl,h600⟩
           let B11:Res:=.row A568 c569 3 1 (nA KL.encI x590)
           have hS601:sW w U U594 [B11,B10,.obj b304 (.map e513 c514),.blk b157 69 (nA KL.encT (a185.set k187 (decide (¬ (x211=0)))).l),.blk b152 68 (nA KL.encI (a186.set k187 x225).l),B2,B0] W597:=hS599
           refine eN (sR (.fl 0 (.fx 1 (.nil) .stop)) Z (oM Z Z (bnK hm592 fun x602 h603 hm604=>?_)))
           have hS605:sW w U U594 [B10,B11,.obj b304 (.map e513 c514),.blk b157 69 (nA KL.encT (a185.set k187 (decide (¬ (x211=0)))).l),.blk b152 68 (nA KL.encI (a186.set k187 x225).l),B2,B0] W597:=hS601.pick [1,0,2,3,4,5,6] _ (by decide) rfl
           refine zL 1 Z Z Z Z (zM Z Z Tryz.call35 (zD Z zX) Z) hS605 (fun hs=>wBY x577 A586 c587 W597 U594 hs h603) (.inl Z) ?_
           rintro U606 L607 v608 W609 le610 hS611 ⟨rfl,rfl,h612⟩
           let B12:Res:=.row A586 c587 3 1 (nA KL.encI x602)
           have hS613:sW w U U606 [B12,B11,.obj b304 (.map e513 c514),.blk b157 69 (nA KL.encT (a185.set k187 (decide (¬ (x211=0)))).l),.blk b152 68 (nA KL.encI (a186.set k187 x225).l),B2,B0] W609:=hS611
           refine eN (sR (.fl 0 (.fl 1 (.fx 2 (.fl 3 (.nil)) .stop))) rfl (zJ rfl rfl rfl rfl rfl (nR (b:=(.slice A568 x559.length c569:Value)) (c:=(.slice A568 x590.length c569:Value)) rfl (by rw [h600])) (zJ rfl rfl rfl rfl rfl (nR (b:=(.slice A586 x577.length c587:Value)) (c:=(.slice A586 x602.length c587:Value)) rfl (by rw [h612])) ?_)))
           have q:=hS613.freezeR (k:=1) (n:=x590.length) rfl (wAJ (f:=KL.encI) (sz:=1) (fun _=>rfl) x590) (by decide)
           obtain ⟨U614,le615,hs616,hS617⟩:=q
           have hS618:sW w U U614 [B12,.obj b304 (.map e513 c514),.blk b157 69 (nA KL.encT (a185.set k187 (decide (¬ (x211=0)))).l),.blk b152 68 (nA KL.encI (a186.set k187 x225).l),B2,B0] W609:=hS617
           have q:=hS618.freezeR (k:=0) (n:=x602.length) rfl (wAJ (f:=KL.encI) (sz:=1) (fun _=>rfl) x602) (by decide)
           obtain ⟨U619,le620,hs621,hS622⟩:=q
           have hS623:sW w U U619 [.obj b304 (.map e513 c514),.blk b157 69 (nA KL.encT (a185.set k187 (decide (¬ (x211=0)))).l),.blk b152 68 (nA KL.encI (a186.set k187 x225).l),B2,B0] W609:=hS622
           have h624:=hs616.le le620
           refine bnK hm604 fun x625 h626 hm627=>zL 0 Z Z Z Z (zM Z Z Tryz.call20 (zD Z (zD Z zX)) Z) hS623 (fun hs=>wBO x590 A568 c569 x602 A586 c587 W609 U619 hs h624 hs621 h626) (.inr Z) ?_
           rintro U628 L629 v630 W631 le632 hS633 ⟨rfl,rfl⟩
           have hS634:sW w U U628 [.obj b304 (.map e513 c514),.blk b157 69 (nA KL.encT (a185.set k187 (decide (¬ (x211=0)))).l),.blk b152 68 (nA KL.encI (a186.set k187 x225).l),B2,B0] W631:=hS633
           refine oR Z (zz Z Z) (eN (ifc hm627 ?_ ?_))
           ·intro c635 hm636
            refine zl (nC c635.out) (CK.skip (zm (zE (rR fL2 Z (oR Z (ze (zW Z f526 Z) (congrArg (jV) hi207.out)) (oM Z Z (zg ?_)))))))
            obtain rfl:=nB hm636
            exact zE ⟨rfl,_,rfl,⟨U628,rfl,f518,f519,f520,f521,(((((((((((((((le200.trans le218).trans le233).trans le245).trans le268).trans le319).trans le516).trans le549).trans le566).trans le573).trans le584).trans le598).trans le610).trans le615).trans le620).trans le632),(hS634.pick [1,2,3,4] _ (by decide) rfl)⟩⟩
           ·intro c635 hm639
            refine CK.condT (nF (c635.out)) (sR fL1 Z (oA Z Z (eN (zK (zI (zA ?_))))))
            have q:=wAa hm639
            obtain ⟨v640,hm641,e642⟩:=q
            obtain rfl:=wBC hm85 hX189 (hb196 v640 e642)
            refine zA (zI (zA ?_))
            have hE:=nB hm641;first | subst r | cases hE
            exact ⟨rfl,_,(zk rfl),U628,_,(hS634.pick [] _ (by decide) rfl),rfl,rfl⟩
          ·intro c555 hm643
           refine cF Z c555 (sR fL6 Z (oM Z Z (oR Z (zp Z Z Z) (oM Z Z (ifc hm643 ?_ ?_)))))
           ·intro c644 hm645
            refine zJ Z Z Z (zB Z Z (zY (fun h=>h c644.out))) Z f524 (zQ Z Z Z (zB Z Z (zY (fun h=>h c644.out))) (fun _=>Runs.gtr Z Z Z) (oR Z (zV Z (zY (fun h=>h c644.out)) Z) (eN (ifc hm645 ?_ ?_))))
            ·intro c646 hm647
             refine cT Z c646 (sR fL1 Z (oA Z Z (eN (zK (zI (zA ?_))))))
             have q:=wAa hm647
             obtain ⟨v648,hm649,e650⟩:=q
             obtain rfl:=wBC hm85 hX189 (hb196 v648 e650)
             refine zA (zI (zA ?_))
             have hE:=nB hm649;first | subst r | cases hE
             exact ⟨rfl,_,(zk rfl),U545,_,(hS554.pick [] _ (by decide) rfl),rfl,rfl⟩
            ·intro c646 hm651
             refine cF Z c646 (CK.skip (zm (zE (rR fL2 Z (oR Z (ze (zW Z f526 Z) (congrArg (jV) hi207.out)) (oM Z Z (zg ?_)))))))
             obtain rfl:=nB hm651
             exact zE ⟨rfl,_,rfl,⟨U545,rfl,f518,f519,f520,f521,(((((((le200.trans le218).trans le233).trans le245).trans le268).trans le319).trans le516).trans le549),(hS554.pick [2,3,4,5] _ (by decide) rfl)⟩⟩
           ·intro c644 hm654
            refine oT Z c644 (oT Z c644 (oR Z (zN Z (wDt c644.out) Z) (eN (CK.condT Z (sR fL1 Z (oA Z Z (eN (zK (zI (zA ?_))))))))))
            have q:=wAa hm654
            obtain ⟨v655,hm656,e657⟩:=q
            obtain rfl:=wBC hm85 hX189 (hb196 v655 e657)
            refine zA (zI (zA ?_))
            have hE:=nB hm656;first | subst r | cases hE
            exact ⟨rfl,_,(zk rfl),U545,_,(hS554.pick [] _ (by decide) rfl),rfl,rfl⟩
         ·intro c532 hm658
          refine cT Z c532 (sR fL1 Z (oA Z Z (eN (zK (zA (zI (zA ?_)))))))
          have q:=wAa hm658
          obtain ⟨v659,hm660,e661⟩:=q
          obtain rfl:=wBC hm85 hX189 (hb196 v659 e661)
          refine zA (zI (zA ?_))
          have hE:=nB hm660;first | subst r | cases hE
          exact ⟨rfl,_,(zk rfl),U515,_,(hS517.pick [] _ (by decide) rfl),rfl,rfl⟩
       ·intro c301 hm662
        refine cT Z c301 (sR fL1 Z (oA Z Z (eN (zK (zA (zI (zA ?_)))))))
        have q:=wAa hm662
        obtain ⟨v663,hm664,e665⟩:=q
        obtain rfl:=wBC hm85 hX189 (hb196 v663 e665)
        refine zA (zI (zA ?_))
        have hE:=nB hm664;first | subst r | cases hE
        exact ⟨rfl,_,(zk rfl),U267,_,(hS296.pick [] _ (by decide) rfl),rfl,rfl⟩
      ·intro c299 hm666
       refine oT Z c299 (oT Z c299 (oT Z c299 (oT Z c299 (oT Z c299 (oT Z c299 (oR Z (zN Z (wDt c299.out) Z) (eN (CK.condT Z (sR fL1 Z (oA Z Z (eN (zK (zA (zI (zA ?_)))))))))))))))
       have q:=wAa hm666
       obtain ⟨v667,hm668,e669⟩:=q
       obtain rfl:=wBC hm85 hX189 (hb196 v667 e669)
       refine zA (zI (zA ?_))
       have hE:=nB hm668;first | subst r | cases hE
       exact ⟨rfl,_,(zk rfl),U267,_,(hS296.pick [] _ (by decide) rfl),rfl,rfl⟩
     ·intro c297 hm670
      refine cT Z c297 (CK.exit (zh (zx (zE (rR fL2 Z (oR Z (ze (zW Z f279 Z) (congrArg (jV) hi207.out)) (oM Z Z (zg ?_))))))))
      obtain rfl:=nB hm670
      exact zE ⟨rfl,_,rfl,⟨U267,rfl,f270,f271,f272,f273,((((le200.trans le218).trans le233).trans le245).trans le268),(hS296.pick [0,1,2,3] _ (by decide) rfl)⟩⟩
  ·rintro ⟨y677,y678⟩ σ673 W674 ⟨U679,fi676,f682,f683,f684,f685,le680,hS681⟩ hb675
   have hm686:=wEw hm85 hX189 hb675
   try dsimp only at hm686
   have c687:Hid (¬ ((↑((2:Int) - 0).toNat:Int) < 2)):=zF (wBw)
   refine sR fL1 rfl (zQ rfl rfl rfl rfl (fun _=>zj rfl fi676 rfl) (eN (zH (cF Z c687 (CK.exit (zh (zh (zx (zE (sR (wOF (.fx 23 (.fl 24 (.fl 25 (.nil))) .stop)) rfl (zQ rfl rfl rfl rfl (fun _=>ze (zy rfl f685 rfl zo zq (by decide) (by decide)) rfl) ?_)))))))))))
   have hg688:=Arr.at_ y677 (k:=(0)) (by omega)
   refine OKS.m rfl rfl rfl rfl (hS681.ldB (j:=0) rfl rfl rfl Tryz.isAgg4 (wAY (sz:=1) (fun _=>rfl) _ _ 0 _ hg688 (by first | omega | rfl | simp) rfl)) rfl (zJ rfl rfl rfl rfl rfl rfl (ifc hm686 ?_ ?_))
   ·intro c689 hm690
    refine zU rfl rfl rfl (zO rfl rfl (congrArg nD c689.out) rfl) (zU rfl rfl rfl (zO rfl rfl (congrArg nD c689.out) rfl) (zQ rfl rfl rfl rfl (fun _=>zN rfl (congrArg nD c689.out) rfl) (zJ rfl rfl rfl rfl rfl rfl (zU rfl rfl rfl (zO rfl rfl rfl rfl) (zU rfl rfl rfl (zO rfl rfl rfl rfl) (zU rfl rfl rfl (zO rfl rfl rfl rfl) (zU rfl rfl rfl (zO rfl rfl rfl rfl) (zU rfl rfl rfl (zO rfl rfl rfl rfl) (zQ rfl rfl rfl rfl (fun _=>zN rfl rfl rfl) (zJ rfl rfl rfl rfl rfl rfl (zQ rfl rfl rfl (zB rfl rfl rfl) (fun _=>ze (zy rfl f685 rfl zo zq (by decide) (by decide)) rfl) ?_)))))))))))
    have hg691:=Arr.at_ y677 (k:=(0)) (by omega)
    refine OKS.m rfl rfl rfl (zB rfl rfl rfl) (hS681.ldB (j:=0) rfl rfl rfl Tryz.isAgg4 (wAY (sz:=1) (fun _=>rfl) _ _ 0 _ hg691 (by first | omega | rfl | simp) rfl)) rfl (zQ rfl rfl rfl (zB rfl rfl rfl) (fun _=>zz rfl rfl) (zJ rfl rfl rfl (zB rfl rfl rfl) rfl rfl (zQ rfl rfl rfl (zB rfl rfl (nC c689.out)) (fun _=>ze (zy rfl f685 rfl zo zq (by decide) (by decide)) rfl) ?_)))
    have hg692:=Arr.at_ y677 (k:=1) (by omega)
    refine OKS.m rfl rfl rfl (zB rfl rfl (nC c689.out)) (hS681.ldB (j:=0) rfl rfl rfl Tryz.isAgg4 (wAY (sz:=1) (fun _=>rfl) _ _ 0 _ hg692 (by first | omega | rfl | simp) rfl)) rfl (zQ rfl rfl rfl (zB rfl rfl rfl) (fun _=>zV rfl (nC c689.out) rfl) (zQ rfl rfl rfl rfl (fun _=>zN rfl rfl rfl) (zJ rfl rfl rfl rfl rfl rfl (ifc hm690 ?_ ?_))))
    ·intro c693 hm694
     refine bnK hm694 fun x695 h696 hm697=>zL 0 Z Z Z (zB Z Z (congrArg nD c693.out)) (zM Z Z Tryz.call36 zX Z) hS681 (fun hs=>wBB W674 U679 hs h696) (.inr Z) ?_
     rintro U698 L699 v700 W701 le702 hS703 ⟨rfl,rfl⟩
     have hS704:sW w U U698 [.blk b157 69 (nA KL.encT y677.l),.blk b152 68 (nA KL.encI y678.l),B2,B0] W701:=hS703
     refine oR Z (zN Z (congrArg nD c693.out) Z) (oA Z Z (eN (zK ?_)))
     have hE:=nB hm697;first | subst r | cases hE
     exact ⟨rfl,_,(zk rfl),U698,_,(hS704.pick [] _ (by decide) rfl),rfl,rfl⟩
    ·intro c693 hm705
     refine OKS.px Z Z Z (zO Z Z (congrArg nD (nE.2 c693.out)) Z) (oR Z (zV Z (congrArg nD (nE.2 c693.out)) Z) (oA Z Z (eN (zK ?_))))
     have hE:=nB hm705;first | subst r | cases hE
     exact ⟨rfl,_,(zk rfl),U679,_,(hS681.pick [] _ (by decide) rfl),rfl,rfl⟩
   ·intro c689 hm706
    refine zQ rfl rfl rfl (zB rfl rfl (congrArg nD (nE.2 c689.out))) (fun _=>ze (zy rfl f685 rfl zo zq (by decide) (by decide)) rfl) ?_
    have hg707:=Arr.at_ y677 (k:=1) (by omega)
    refine OKS.m rfl rfl rfl (zB rfl rfl (congrArg nD (nE.2 c689.out))) (hS681.ldB (j:=0) rfl rfl rfl Tryz.isAgg4 (wAY (sz:=1) (fun _=>rfl) _ _ 0 _ hg707 (by first | omega | rfl | simp) rfl)) rfl (zQ rfl rfl rfl rfl (fun _=>zV rfl (congrArg nD (nE.2 c689.out)) rfl) (zJ rfl rfl rfl rfl rfl rfl (ifc hm706 ?_ ?_)))
    ·intro c708 hm709
     refine zU rfl rfl rfl (zO rfl rfl (congrArg nD c708.out) rfl) (zU rfl rfl rfl (zO rfl rfl (congrArg nD c708.out) rfl) (zU rfl rfl rfl (zO rfl rfl (congrArg nD c708.out) rfl) (zU rfl rfl rfl (zO rfl rfl (congrArg nD c708.out) rfl) (zU rfl rfl rfl (zO rfl rfl (congrArg nD c708.out) rfl) (zQ rfl rfl rfl rfl (fun _=>zN rfl (congrArg nD c708.out) rfl) (zJ rfl rfl rfl rfl rfl rfl (zQ rfl rfl rfl (zB rfl rfl rfl) (fun _=>ze (zy rfl f685 rfl zo zq (by decide) (by decide)) rfl) ?_)))))))
     have hg710:=Arr.at_ y677 (k:=(0)) (by omega)
     refine OKS.m rfl rfl rfl (zB rfl rfl rfl) (hS681.ldB (j:=0) rfl rfl rfl Tryz.isAgg4 (wAY (sz:=1) (fun _=>rfl) _ _ 0 _ hg710 (by first | omega | rfl | simp) rfl)) rfl (zQ rfl rfl rfl (zB rfl rfl rfl) (fun _=>zz rfl rfl) (zJ rfl rfl rfl (zB rfl rfl rfl) rfl rfl (zU rfl rfl rfl (zO rfl rfl (nF (c689.out)) rfl) (zU rfl rfl rfl (zO rfl rfl (nF (c689.out)) rfl) (zQ rfl rfl rfl (zB rfl rfl rfl) (fun _=>zN rfl (nF (c689.out)) rfl) (zQ rfl rfl rfl rfl (fun _=>zN rfl rfl rfl) (zJ rfl rfl rfl rfl rfl rfl (bnK hm709 fun x711 h712 hm713=>zL 0 rfl rfl rfl (zB rfl rfl rfl) (zM rfl rfl Tryz.call36 zX rfl) hS681 (fun hs=>wBB W674 U679 hs h712) (.inr rfl) ?_))))))))
     rintro U714 L715 v716 W717 le718 hS719 ⟨rfl,rfl⟩
     have hS720:sW w U U714 [.blk b157 69 (nA KL.encT y677.l),.blk b152 68 (nA KL.encI y678.l),B2,B0] W717:=hS719
     refine oR Z (zN Z Z Z) (oA Z Z (eN (zK ?_)))
     have hE:=nB hm713;first | subst r | cases hE
     exact ⟨rfl,_,(zk rfl),U714,_,(hS720.pick [] _ (by decide) rfl),rfl,rfl⟩
    ·intro c708 hm721
     refine zQ rfl rfl rfl (zB rfl rfl (congrArg nD (nE.2 c708.out))) (fun _=>ze (zy rfl f684 rfl Tryz.runUnderlying68 zG (by decide) (by decide)) rfl) ?_
     have hg722:=Arr.at_ y678 (k:=1) (by omega)
     refine OKS.m rfl rfl rfl (zB rfl rfl (congrArg nD (nE.2 c708.out))) (hS681.ldB (j:=1) rfl rfl rfl zZ (wAY (sz:=1) (fun _=>rfl) _ _ 0 _ hg722 (by first | omega | rfl | simp) rfl)) rfl (zQ rfl rfl rfl (zB rfl rfl (congrArg nD (nE.2 c708.out))) (fun _=>ze (zy rfl f684 rfl Tryz.runUnderlying68 zG (by decide) (by decide)) rfl) ?_)
     have hg723:=Arr.at_ y678 (k:=(0)) (by omega)
     refine OKS.m rfl rfl rfl (zB rfl rfl (congrArg nD (nE.2 c708.out))) (hS681.ldB (j:=1) rfl rfl rfl zZ (wAY (sz:=1) (fun _=>rfl) _ _ 0 _ hg723 (by first | omega | rfl | simp) rfl)) rfl (zQ rfl rfl rfl (zB rfl rfl (congrArg nD (nE.2 c708.out))) (fun _=>Runs.leq rfl rfl rfl) (zQ rfl rfl rfl rfl (fun _=>zV rfl (congrArg nD (nE.2 c708.out)) rfl) (zJ rfl rfl rfl rfl rfl rfl (ifc hm721 ?_ ?_))))
     ·intro c724 hm725
      refine zQ rfl rfl rfl (zB rfl rfl (wDt c724.out)) (fun _=>ze (zy rfl f685 rfl zo zq (by decide) (by decide)) rfl) ?_
      have hg726:=Arr.at_ y677 (k:=(0)) (by omega)
      refine OKS.m rfl rfl rfl (zB rfl rfl (wDt c724.out)) (hS681.ldB (j:=0) rfl rfl rfl Tryz.isAgg4 (wAY (sz:=1) (fun _=>rfl) _ _ 0 _ hg726 (by first | omega | rfl | simp) rfl)) rfl (zQ rfl rfl rfl (zB rfl rfl (wDt c724.out)) (fun _=>zz rfl rfl) (zJ rfl rfl rfl (zB rfl rfl (wDt c724.out)) rfl rfl (zU rfl rfl rfl (zO rfl rfl (nF (c689.out)) rfl) (zU rfl rfl rfl (zO rfl rfl (nF (c689.out)) rfl) (zQ rfl rfl rfl (zB rfl rfl (wDt c724.out)) (fun _=>zN rfl (nF (c689.out)) rfl) (zQ rfl rfl rfl rfl (fun _=>zN rfl (wDt c724.out) rfl) (zJ rfl rfl rfl rfl rfl rfl (bnK hm725 fun x727 h728 hm729=>zL 0 rfl rfl rfl (zB rfl rfl rfl) (zM rfl rfl Tryz.call36 zX rfl) hS681 (fun hs=>wBB W674 U679 hs h728) (.inr rfl) ?_))))))))
      rintro U730 L731 v732 W733 le734 hS735 ⟨rfl,rfl⟩
      have hS736:sW w U U730 [.blk b157 69 (nA KL.encT y677.l),.blk b152 68 (nA KL.encI y678.l),B2,B0] W733:=hS735
      refine oR Z (zN Z Z Z) (oA Z Z (eN (zK ?_)))
      have hE:=nB hm729;first | subst r | cases hE
      exact ⟨rfl,_,(zk rfl),U730,_,(hS736.pick [] _ (by decide) rfl),rfl,rfl⟩
     ·intro c724 hm737
      refine oF Z c724 (oF Z c724 (oF Z c724 (oF Z c724 (zU Z Z Z (wBZ Z Z Z) (zU Z Z Z (wBZ Z Z Z) (oF Z c724 (oR Z (zV Z (zY c724.out) Z) (oM Z Z (OKS.px Z Z Z (zO Z Z Z Z) (oR Z (zV Z Z Z) (oA Z Z (eN (zK ?_)))))))))))))
      have hE:=nB hm737;first | subst r | cases hE
      exact ⟨rfl,_,(zk rfl),U679,_,(hS681.pick [] _ (by decide) rfl),rfl,rfl⟩
end Go.Proofs.YthbficbpebiekaaGreat
