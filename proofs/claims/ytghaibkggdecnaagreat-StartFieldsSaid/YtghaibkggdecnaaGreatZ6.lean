import Derived.Test.YtghaibkggdecnaaGreatZ5
set_option linter.all false
open List renaming flatMap->nA,getElem_cons_succ->nH,getElem_cons_zero->nI,getElem_toArray->nJ,length_set->nK,set->nM,length_append->nR
open Option.some renaming inj->nB
open Go.Value renaming bool->nD
open Bool renaming eq_false_iff->nE
open Prod.mk renaming injEq->nG
open Int renaming toNat_natCast->nL
open Nat renaming blt->nN,le_of_ble_eq_true->nO
open Eq renaming trans->nP
open Option renaming map->nQ
namespace Go.Proofs.YtghaibkggdecnaaGreat
open Go.KL
set_option maxHeartbeats 4000000
theorem Z {α:Type} {a:α}:a=a:=rfl
section
variable {r:Option Nat} {N:Nat} {P:Program} {l:List Oper} {Q:wCH} {D:List Deferred} {ks:List Nat} {σ:Env} {w:World} {i d j e:Nat} {s:Sch} {o:Oper} {b:Bool} {x:Operand} {v:Value} {p:Prop} {inst:Decidable p} {K:List Deferred->Env->World->Prop} {c1 c2:Code}
abbrev jV (n:Int):Value:=.int .i64 n
abbrev SW (w:World) (X:List Res) (U U':PHeap) (L:List Res) (w':World):Prop:=St ⟨w,X,U⟩ U' L w'
abbrev sW (w:World) (U U':PHeap) (L:List Res) (w':World):Prop:=St ⟨w,[],U⟩ U' L w'
abbrev St0 (w:World) (U:PHeap) (L:List Res):Prop:=St ⟨w,L,U⟩ U L w
theorem ifc {α:Type} {G p:Prop} {inst:Decidable p} {a b r:α} (h:@ite α p inst a b=r) (h1:Hid p->a=r->G) (h2:Hid (¬ p)->b=r->G):G:=by
 by_cases c:p
 · rw [if_pos c] at h;exact h1 ⟨c⟩ h
 · rw [if_neg c] at h;exact h2 ⟨c⟩ h
theorem bnK {α β:Type} {G:Prop} {o:Option α} {f:α->Option β} {r:β} (h:o.bind f=some r) (k:∀ x,o=some x->f x=some r->G):G:=by
 obtain ⟨x,h1,h2⟩:=bnd h
 exact k x h1 h2
theorem oR (h:(l[i]?,o.dst,nN d N,wanted l σ o)=(some o,some d,true,true)) (hr:∀ {w'},Runs P σ w' o v w') (k:OKS N P l Q D ks s (upd σ d v) w):OKS N P l Q D ks (.fl i s) σ w:=by
 simp only [nG] at h;exact OKS.r h.1 h.2.1 h.2.2.1 h.2.2.2 (fun _=>hr) k
theorem oL (h:(l[i]?,o.dst,nN d N,wanted l σ o,wOq (kOf ks i))=(some o,some d,true,true,false)) (hr:RunsK P σ w o v) (k:OKS N P l Q D ks s (upd σ d v) w):OKS N P l Q D ks (.fl i s) σ w:=by
 simp only [nG] at h;exact OKS.m h.1 h.2.1 h.2.2.1 h.2.2.2.1 hr h.2.2.2.2 k
theorem oM (h:(l[i]?,o.dst,nN d N,wanted l σ o,o.op)=(some o,some d,true,true,.move x)) (hx:ev σ x=v) (k:OKS N P l Q D ks s (upd σ d v) w):OKS N P l Q D ks (.fl i s) σ w:=by
 simp only [nG] at h;exact OKS.rm h.1 h.2.1 h.2.2.1 h.2.2.2.1 h.2.2.2.2 hx k
theorem oA (h:(l[i]?,o.dst,nN d N,wanted l σ o,o.op)=(some o,some d,true,true,.assign x)) (hx:ev σ x=v) (k:OKS N P l Q D ks s (upd σ d v) w):OKS N P l Q D ks (.fl i s) σ w:=by
 simp only [nG] at h;exact OKS.ra h.1 h.2.1 h.2.2.1 h.2.2.2.1 h.2.2.2.2 hx k
theorem oF (h:(l[i]?,o.dst,nN d N,o.guard,(l[j]?).bind (·.dst),σ e,false == b)=(some o,some d,true,some (j,b),some e,.bool (decide p),false)) (c:Hid (¬ p)) (k:OKS N P l Q D ks s (upd σ d undef) w):OKS N P l Q D ks (.fl i s) σ w:=by
 simp only [nG] at h;exact OKS.p h.1 h.2.1 h.2.2.1 (wEt h.2.2.2.1 h.2.2.2.2.1 (h.2.2.2.2.2.1.trans (wOp c.out)) h.2.2.2.2.2.2) k
theorem oT (h:(l[i]?,o.dst,nN d N,o.guard,(l[j]?).bind (·.dst),σ e,true == b)=(some o,some d,true,some (j,b),some e,.bool (decide p),false)) (c:Hid p) (k:OKS N P l Q D ks s (upd σ d undef) w):OKS N P l Q D ks (.fl i s) σ w:=by
 simp only [nG] at h;exact OKS.p h.1 h.2.1 h.2.2.1 (wEt h.2.2.2.1 h.2.2.2.2.1 (h.2.2.2.2.2.1.trans (wFs c.out)) h.2.2.2.2.2.2) k
theorem oN {b2:Bool} (h:(l[i]?,o.dst,nN d N,o.guard,(l[j]?).bind (·.dst),σ e,b2 == b)=(some o,some d,true,some (j,b),some e,.bool b2,false)) (k:OKS N P l Q D ks s (upd σ d undef) w):OKS N P l Q D ks (.fl i s) σ w:=by
 simp only [nG] at h;exact OKS.p h.1 h.2.1 h.2.2.1 (wEt h.2.2.2.1 h.2.2.2.2.1 h.2.2.2.2.2.1 h.2.2.2.2.2.2) k
theorem nC {a b:Bool} (h:a=b):nD (!a)=nD (!b):=h ▸ rfl
theorem nF {a:Bool} (h:¬ a=true):nD (!a)=nD (!false):=nC (nE.2 h)
theorem wT (h:(o.guard,(l[j]?).bind (·.dst),σ e)=(some (j,true),some e,.bool (decide p))) (c:Hid p):wanted l σ o=true:=by
 simp only [nG] at h;exact wGN h.1 h.2.1 (h.2.2.trans (wFs c.out))
theorem wF (h:(o.guard,(l[j]?).bind (·.dst),σ e)=(some (j,false),some e,.bool (decide p))) (c:Hid (¬ p)):wanted l σ o=true:=by
 simp only [nG] at h;exact wGN h.1 h.2.1 (h.2.2.trans (wOp c.out))
theorem rU (h:(l[i]?,o.dst,nN d N)=(some o,some d,true)) (hw:wanted l σ o=true) (hr:∀ {w'},Runs P σ w' o v w') (k:OKS N P l Q D ks s (upd σ d v) w):OKS N P l Q D ks (.fl i s) σ w:=by
 simp only [nG] at h;exact OKS.r h.1 h.2.1 h.2.2 hw (fun _=>hr) k
theorem sR {id:Nat} (s:Sch) (hs:inOrder 0 s l.length=true) (h:OKS N P l (wDj (fun D σ w=>CK r N P c2 Q D σ w) Q) D [] s σ w):CK r N P (.seq (.region id l.toArray false) c2) Q D σ w:=CK.seq (CK.reg s hs h)
theorem rR {id:Nat} (s:Sch) (hs:inOrder 0 s l.length=true) (h:OKS N P l Q D [] s σ w):CK r N P (.region id l.toArray false) Q D σ w:=CK.reg s hs h
theorem eN (h:K D σ w):OKS N P l (wDj K Q) D ks .nil σ w:=OKS.e (wGK h)
theorem cT (hz:ev σ x=.bool (decide p)) (c:Hid p) (h:CK r N P c1 Q D σ w):CK r N P (.cond x c1 c2) Q D σ w:=CK.condT (hz.trans (wFs c.out)) h
theorem cF (hz:ev σ x=.bool (decide p)) (c:Hid (¬ p)) (h:CK r N P c2 Q D σ w):CK r N P (.cond x c1 c2) Q D σ w:=CK.condF (hz.trans (wOp c.out)) h
theorem kN (h:K D σ w):CK r N P .skip (wDj K Q) D σ w:=CK.skip (wGK h)
end
def fL1:Sch:=.fl 0 (.nil)
def fL2:Sch:=.fl 0 (.fl 1 (.nil))
def fL3:Sch:=.fl 0 (.fl 1 (.fl 2 (.nil)))
def fL4:Sch:=.fl 0 (.fl 1 (.fl 2 (.fl 3 (.nil))))
def fL5:Sch:=.fl 0 (.fl 1 (.fl 2 (.fl 3 (.fl 4 (.nil)))))
def fL6:Sch:=.fl 0 (.fl 1 (.fl 2 (.fl 3 (.fl 4 (.fl 5 (.nil))))))
def fL7:Sch:=.fl 0 (.fl 1 (.fl 2 (.fl 3 (.fl 4 (.fl 5 (.fl 6 (.nil)))))))
def fL8:Sch:=.fl 0 (.fl 1 (.fl 2 (.fl 3 (.fl 4 (.fl 5 (.fl 6 (.fl 7 (.nil))))))))
def fL9:Sch:=.fl 0 (.fl 1 (.fl 2 (.fl 3 (.fl 4 (.fl 5 (.fl 6 (.fl 7 (.fl 8 (.nil)))))))))
def fL11:Sch:=.fl 0 (.fl 1 (.fl 2 (.fl 3 (.fl 4 (.fl 5 (.fl 6 (.fl 7 (.fl 8 (.fl 9 (.fl 10 (.nil)))))))))))
def fL12:Sch:=.fl 0 (.fl 1 (.fl 2 (.fl 3 (.fl 4 (.fl 5 (.fl 6 (.fl 7 (.fl 8 (.fl 9 (.fl 10 (.fl 11 (.nil))))))))))))
def fL13:Sch:=.fl 0 (.fl 1 (.fl 2 (.fl 3 (.fl 4 (.fl 5 (.fl 6 (.fl 7 (.fl 8 (.fl 9 (.fl 10 (.fl 11 (.fl 12 (.nil)))))))))))))
def fL24:Sch:=.fl 0 (.fl 1 (.fl 2 (.fl 3 (.fl 4 (.fl 5 (.fl 6 (.fl 7 (.fl 8 (.fl 9 (.fl 10 (.fl 11 (.fl 12 (.fl 13 (.fl 14 (.fl 15 (.fl 16 (.fl 17 (.fl 18 (.fl 19 (.fl 20 (.fl 21 (.fl 22 (.fl 23 (.nil))))))))))))))))))))))))
def wPq (s:Sch):Sch:=.fl 0 (.fl 1 (.fl 2 (s)))
def wIS (s:Sch):Sch:=.fl 0 (.fl 1 (.fl 2 (.fl 3 (s))))
def wOc (s:Sch):Sch:=.fl 0 (.fl 1 (.fl 2 (.fl 3 (.fl 4 (s)))))
def wOd (s:Sch):Sch:=.fl 0 (.fl 1 (.fl 2 (.fl 3 (.fl 4 (.fl 5 (s))))))
def wOe (s:Sch):Sch:=.fl 0 (.fl 1 (.fl 2 (.fl 3 (.fl 4 (.fl 5 (.fl 6 (.fl 7 (s))))))))
def fC0_9 (s:Sch):Sch:=.fl 0 (.fl 1 (.fl 2 (.fl 3 (.fl 4 (.fl 5 (.fl 6 (.fl 7 (.fl 8 (.fl 9 (s))))))))))
def fC2_5 (s:Sch):Sch:=.fl 2 (.fl 3 (.fl 4 (.fl 5 (s))))
def wOf (s:Sch):Sch:=.fl 2 (.fl 3 (.fl 4 (.fl 5 (.fl 6 (s)))))
def wMs (s:Sch):Sch:=.fl 3 (.fl 4 (.fl 5 (.fl 6 (.fl 7 (s)))))
def wPr (s:Sch):Sch:=.fl 4 (.fl 5 (.fl 6 (.fl 7 (.fl 8 (s)))))
def wPs (s:Sch):Sch:=.fl 6 (.fl 7 (.fl 8 (.fl 9 (.fl 10 (.fl 11 (s))))))
def fC7_9 (s:Sch):Sch:=.fl 7 (.fl 8 (.fl 9 (s)))
def wPt (s:Sch):Sch:=.fl 7 (.fl 8 (.fl 9 (.fl 10 (s))))
def wPu (s:Sch):Sch:=.fl 8 (.fl 9 (.fl 10 (.fl 11 (s))))
def wOg (s:Sch):Sch:=.fl 12 (.fl 13 (.fl 14 (.fl 15 (s))))
def wOh (s:Sch):Sch:=.fl 13 (.fl 14 (.fl 15 (.fl 16 (.fl 17 (.fl 18 (.fl 19 (s)))))))
def wOi (s:Sch):Sch:=.fl 17 (.fl 18 (.fl 19 (.fl 20 (s))))
theorem zA:type_of% @Tryz.runUnderlying31:=@Tryz.runUnderlying31
theorem zB:type_of% @CK.seq:=@CK.seq
theorem zC:type_of% @wJs:=@wJs
theorem zD:type_of% @Hid.mk:=@Hid.mk
theorem zE:type_of% @wJr:=@wJr
theorem zF:type_of% @wGK:=@wGK
theorem zG:type_of% @CK.ret:=@CK.ret
theorem zH:type_of% @OKS.callH:=@OKS.callH
theorem zI:type_of% @Enters.mk:=@Enters.mk
theorem zJ:type_of% @Tryz.sizeOf3:=@Tryz.sizeOf3
theorem zK:type_of% @CK.block:=@CK.block
theorem zL:type_of% @Tryz.runUnderlying86:=@Tryz.runUnderlying86
theorem zM:type_of% @wMt:=@wMt
theorem zN:type_of% @Runs.lss:=@Runs.lss
theorem zO:type_of% @Runs.len:=@Runs.len
theorem zP:type_of% @wIU:=@wIU
theorem zQ:type_of% @wJq:=@wJq
theorem zR:type_of% @Tryz.isAgg3:=@Tryz.isAgg3
theorem zS:type_of% @Tryz.runUnderlying58:=@Tryz.runUnderlying58
theorem zU:type_of% @CK.condF:=@CK.condF
theorem zV:type_of% @PHeap.Le.refl:=@PHeap.Le.refl
theorem zW:type_of% @Runs.addw:=@Runs.addw
theorem zX:type_of% @Tryz.sizeOf160:=@Tryz.sizeOf160
theorem zY:type_of% @CK.condT:=@CK.condT
theorem zZ:type_of% @OKS.rm:=@OKS.rm
theorem zd:type_of% @res1:=@res1
theorem ze:type_of% @Tryz.runUnderlying71:=@Tryz.runUnderlying71
theorem zf:type_of% @Runs.iaN:=@Runs.iaN
theorem zg:type_of% @wIT:=@wIT
theorem zh:type_of% @Runs.pickF:=@Runs.pickF
theorem zi:type_of% @wEt:=@wEt
theorem zj:type_of% @Runs.to:=@Runs.to
theorem zk:type_of% @nO:=@nO
theorem zl:type_of% @wGL:=@wGL
theorem zm:type_of% @wGN:=@wGN
theorem zn:type_of% @OKS.e:=@OKS.e
theorem zo:type_of% @CK.exit:=@CK.exit
theorem zp:type_of% @Tryz.runUnderlying157:=@Tryz.runUnderlying157
theorem zq:type_of% @Tryz.sizeOf62:=@Tryz.sizeOf62
theorem zr:type_of% @Runs.pickT:=@Runs.pickT
theorem zt:type_of% @OKS.r:=@OKS.r
theorem zu:type_of% @wOp:=@wOp
theorem zw:type_of% @Runs.neq:=@Runs.neq
theorem zx:type_of% @Runs.ext:=@Runs.ext
theorem zy:type_of% @Tryz.sizeOf157:=@Tryz.sizeOf157
theorem zz:type_of% @Tryz.zeroValue160:=@Tryz.zeroValue160
theorem ZA:type_of% @Tryz.isAgg31:=@Tryz.isAgg31
theorem ZB:type_of% @Tryz.isAgg160:=@Tryz.isAgg160
theorem ZC:type_of% @OKS.px:=@OKS.px
theorem ZD:type_of% @Runs.fa:=@Runs.fa
theorem ZE:type_of% @CK.skip:=@CK.skip
theorem ZF:type_of% @Tryz.runUnderlying161:=@Tryz.runUnderlying161
theorem ZG:type_of% @Tryz.sizeOf31:=@Tryz.sizeOf31
theorem ZH:type_of% @Tryz.underlying31:=@Tryz.underlying31
theorem ZI:type_of% @Runs.notT:=@Runs.notT
theorem ZJ:type_of% @OKS.append:=@OKS.append
theorem ZK:type_of% @Tryz.mixed:=@Tryz.mixed
end Go.Proofs.YtghaibkggdecnaaGreat
namespace Go.Proofs.YtghaibkggdecnaaGreat
open Go.KL
set_option maxHeartbeats 4000000
theorem wBG (w:World) (U:PHeap) (hS:St0 w U []) {r:Bool} (hm:wAo=some r):Gv Tryz.prog 11 [] w (wCX w [] U (fun U_ L_ v=>v=.bool r/\L_=[])):=by
 cases hm
 refine (xr11 w).mono ?_
 rintro v w' ⟨rfl,k⟩
 exact ⟨U,[],hS.grow k,Z,Z⟩
theorem wBt (p0:List wAA) (pA0:Option Addr) (pc0:Nat) (w:World) (U:PHeap) (hS:St0 w U []) (ha0:Sl U 3 pA0 pc0 p0.length (nA wAC p0)) {r:(List wAA)} (hm:wAR p0=some r):Gv Tryz.prog 38 [.slice pA0 p0.length pc0] w (wCX w [] U (fun U_ L_ v=>∃ (A0:Option Addr) (c0:Nat),v=.slice A0 r.length c0/\L_=[.row A0 c0 62 3 (nA wAC r)])):=by
 unfold wAR at hm
 refine Gv.of Tryz.func38 Z Tryz.ntmps38 Tryz.results38 Z (sR fL1 Z (oA Z Z (eN (sR (.fl 0 (.fx 1 (.fl 2 (.nil)) .stop)) Z (oM Z Z ?_)))))
 have hS1:=hS.nilrow 62 3
 have hS3:sW w U U [.row none 0 62 3 (nA wAC ([]:List wAA))] w:=hS1
 refine bnK hm fun x4 h5 hm6=>ZJ (j:=0) (enc:=wAC) (xs:=([]:List wAA)) (ys:=p0) (zs:=x4) Z Z Z Z Z Tryz.underlying58 wPj Z Z Z Z Z Z hS3 Z Z Z (hS3.srcS ha0) (fun _=>Z) (fun _=>Z) h5 Z ?_
 intro A7 c8 W9 hS10
 have hS11:sW w U U [.row A7 c8 62 3 (nA wAC x4)] W9:=hS10
 refine oA Z Z (eN (zG ?_))
 have hE:=nB hm6;first | subst r | cases hE
 exact ⟨Z,_,(zd Z),U,_,hS11,A7,c8,Z,Z⟩
theorem wBg (p0:List Int) (pA0:Option Addr) (pc0:Nat) (w:World) (U:PHeap) (hS:St0 w U []) (ha0:Sl U 1 pA0 pc0 p0.length (nA KL.encI p0)) {r:(List Int)} (hm:wAc p0=some r):Gv Tryz.prog 39 [.slice pA0 p0.length pc0] w (wCX w [] U (fun U_ L_ v=>∃ (A0:Option Addr) (c0:Nat),v=.slice A0 r.length c0/\L_=[.row A0 c0 3 1 (nA KL.encI r)])):=by
 unfold wAc at hm
 refine Gv.of Tryz.func39 Z Tryz.ntmps39 Tryz.results39 Z (sR fL1 Z (oA Z Z (eN (sR (.fl 0 (.fx 1 (.fl 2 (.nil)) .stop)) Z (oM Z Z ?_)))))
 have hS1:=hS.nilrow 3 1
 have hS3:sW w U U [.row none 0 3 1 (nA KL.encI ([]:List Int))] w:=hS1
 refine bnK hm fun x4 h5 hm6=>ZJ (j:=0) (enc:=KL.encI) (xs:=([]:List Int)) (ys:=p0) (zs:=x4) Z Z Z Z Z ZH wHI Z Z Z Z Z Z hS3 Z Z Z (hS3.srcS ha0) (fun _=>Z) (fun _=>Z) h5 Z ?_
 intro A7 c8 W9 hS10
 have hS11:sW w U U [.row A7 c8 3 1 (nA KL.encI x4)] W9:=hS10
 refine oA Z Z (eN (zG ?_))
 have hE:=nB hm6;first | subst r | cases hE
 exact ⟨Z,_,(zd Z),U,_,hS11,A7,c8,Z,Z⟩
theorem wDM (p0:List wAA) (pA0:Option Addr) (pc0:Nat) (w:World) (U:PHeap) (hS:St0 w U []) (ha0:Sl U 3 pA0 pc0 p0.length (nA wAC p0)) {r:(List wAE)} (hm:wAp p0=some r):Gv Tryz.prog 40 [.slice pA0 p0.length pc0] w (wCX w [] U (fun U_ L_ v=>∃ (A0:Option Addr) (c0:Nat),v=.slice A0 r.length c0/\L_=[.row A0 c0 157 3 (nA wAF r)])):=by
 unfold wAp at hm
 refine Gv.of Tryz.func40 Z Tryz.ntmps40 Tryz.results40 Z (sR fL1 Z (oA Z Z (eN (sR fL1 Z (oA Z Z (eN (zB (sR fL3 Z (oM Z Z (oR Z (zO Z Z zS) (oM Z Z (eN (zK (bnK hm fun y23 hf20 hm19=>?_))))))))))))))
 have q:=wBa hf20
 obtain ⟨hle21,hf22⟩:=q
 replace hle21:=zD hle21
 refine CK.forN' (fun k18 l14 σ_ w_=>∃ (U_:PHeap) (A15:Option Addr) (c16:Nat),σ_ 8=jV (↑k18:Int)/\σ_ 3=.slice A15 l14.length c16/\σ_ 6=.slice pA0 p0.length pc0/\σ_ 7=jV (↑p0.length:Int)/\PHeap.Le U U_/\sW w U U_ [.row A15 c16 157 3 (nA wAF l14)] w_) hf22 ?_ ?_ ?_
 ·have hS24:=hS.nilrow 157 3
  exact ⟨U,none,0,Z,Z,Z,Z,(zV _),hS24⟩
 ·rintro k18 l14 xx28 σ26 W27 hk31 ⟨U33,A15,c16,fi32,f36,f37,f38,le34,hS35⟩ hx29
  have c39:Hid ((↑k18:Int) < (↑p0.length:Int)):=zD (wBT hk31)
  replace hk31:=zD hk31
  have hi40:Hid (w64 ((↑k18:Int) + 1)=(↑(k18 + 1):Int)):=zD (by have h1:=hle21.out;have h2:=c39.out;rw [wBC] <;> omega)
  refine sR fL1 Z (oR Z (zN Z fi32 f38) (eN (zB (cT Z c39 (kN (zB (zK (sR (.fl 0 (.fl 1 (.fx 2 (.fx 3 (.nil) .stop) .stop))) Z (bnK hx29 fun x41 h42 hm43=>?_)))))))))
  have h44:=ha0.le le34
  have q:=h44.el (fun _=>rfl) (wAV h42)
  obtain ⟨b45,off46,hA47,hC48⟩:=q
  refine oR Z (zf Z f37 hA47 fi32 zS zq (wAv h42)) (oL Z (hS35.ldCA (f:=0) hC48 Z Z Tryz.isAgg62 zq (us:=[jV x41.Bib,jV x41.Nation,jV x41.Rank]) Z Z) ?_)
  let B0:List Value:=[jV 0,jV 0,jV 0]
  refine OKS.alloc (cs:=B0) Z Z Z Z Z Tryz.zeroValue62 Z hS35 ?_
  intro W49 b50 hS51
  let B1:List Value:=[jV x41.Bib,jV x41.Nation,jV x41.Rank]
  refine OKS.st (j:=0) (vs:=B1) Z Z Z Z hS51 Z Z Z Z zq (zk Z) Z Z Z ?_
  intro W53 hS54
  let B2:Res:=.row A15 c16 157 3 (nA wAF l14)
  have hS55:sW w U U33 [.blk b50 62 B1,B2] W53:=hS54
  refine eN (rR (.fl 0 (.fl 1 (.fx 2 (.fx 3 (.fl 4 (.nil)) .stop) .stop))) Z (oM Z f36 (oL Z (hS55.ldBA (j:=0) Z Z Z Tryz.isAgg62 zq (vs:=B1) Z Z) (OKS.buildSlice (pv:=[(0,.agg B1.toArray)]) (zs:=B0) (cs:=B1) Z Z Z Z Z (wAz Z wCS) zL zy Tryz.zeroValue157 Z Z Z Z Z hS55 ?_))))
  intro W56 b57 hS58
  let B3:Res:=.row (some ⟨b57,0,none⟩) 1 157 3 (nA wAF [(⟨x41.Bib,x41.Nation,x41.Rank⟩:wAE)])
  have hS60:sW w U U33 [B3,.blk b50 62 B1,B2] W56:=hS58
  refine bnK hm43 fun x61 h62 hm63=>ZJ (j:=2) (enc:=wAF) (xs:=l14) (ys:=[(⟨x41.Bib,x41.Nation,x41.Rank⟩:wAE)]) (zs:=x61) rfl rfl rfl rfl rfl Tryz.underlying86 wOU rfl rfl rfl rfl rfl rfl hS60 rfl rfl rfl (hS60.srcR (j:=0) rfl (by decide) (wAG (f:=wAF) (sz:=3) (fun _=>rfl) [(⟨x41.Bib,x41.Nation,x41.Rank⟩:wAE)])) (fun _=>rfl) (fun _=>rfl) h62 rfl ?_
  intro A64 c65 W66 hS67
  have hS68:sW w U U33 [B3,.blk b50 62 B1,.row A64 c65 157 3 (nA wAF x61)] W66:=hS67
  refine oA Z Z (zn (zg (zF (rR fL2 Z (oR Z (zj (zW Z fi32 Z) (congrArg (jV) hi40.out)) (oM Z Z (zn ?_)))))))
  cases hm63
  exact zF ⟨rfl,⟨U33,A64,c65,rfl,rfl,f37,f38,le34,(hS68.pick [2] _ (by decide) rfl)⟩⟩
 ·rintro σ72 W73 ⟨U81,A79,c80,fi75,f84,f85,f86,le82,hS83⟩
  have c87:Hid (¬ ((↑(((↑p0.length:Int):Int) - 0).toNat:Int) < (↑p0.length:Int))):=zD (wBA)
  refine sR fL1 Z (oR Z (zN Z fi75 f86) (eN (zB (cF Z c87 (zo (zQ (zQ (zl (zF (sR fL2 Z (oM Z f84 (oA Z Z (eN (zG ?_))))))))))))))
  have hE:=nB hm19;first | subst r | cases hE
  exact ⟨Z,_,(zd Z),U81,_,hS83,A79,c80,Z,Z⟩
theorem wCb (p0:Int) (p1:Int) (p2:Int) (w:World) (U:PHeap) (hS:St0 w U [])  {r:Bool} (hm:wBS p0 p1 p2=some r):Gv Tryz.prog 86 [jV p0,jV p1,jV p2] w (wCX w [] U (fun U_ L_ v=>v=.bool r/\L_=[])):=by
 unfold wBS at hm
 refine Gv.of Tryz.func86 Z Tryz.ntmps86 Tryz.results86 Z (sR fL1 Z (oA Z Z (eN (sR fL9 Z (oM Z Z (oM Z Z (oR Z (Runs.geq Z Z Z) (oM Z Z ?_))))))))
 by_cases c1:p1 <= p0
 ·have hm2:=hm;rw [if_pos c1] at hm2;replace c1:=zD c1
  refine zZ Z Z Z (wT Z c1) Z Z (zZ Z Z Z (wT Z c1) Z Z (rU Z (wT Z c1) (Runs.leq Z Z Z) (oR Z (zr Z (wFs c1.out) Z) (oA Z Z (eN (zG ?_))))))
  cases hm2
  exact ⟨Z,_,(zd Z),U,_,hS,Z,Z⟩
 ·have hm3:=hm;rw [if_neg c1] at hm3;replace c1:=zD c1
  refine oF Z c1 (oF Z c1 (oF Z c1 (oR Z (zh Z (zu c1.out) Z) (oA Z Z (eN (zG ?_))))))
  have hE:=nB hm3;first | subst r | cases hE
  exact ⟨Z,_,(zd Z),U,_,hS,Z,Z⟩
theorem wBl (p0:wAA) (w:World) (U:PHeap) (hS:St0 w U [])  {r:Int} (hm:wAI p0=some r):Gv Tryz.prog 142 [.agg #[jV p0.Bib,jV p0.Nation,jV p0.Rank]] w (wCX w [] U (fun U_ L_ v=>v=jV r/\L_=[])):=by
 unfold wAI at hm
 refine Gv.of Tryz.func142 rfl Tryz.ntmps142 Tryz.results142 rfl (sR (.fx 0 (.fl 1 (.nil)) .stop) rfl (OKS.box (cs:=[jV p0.Bib,jV p0.Nation,jV p0.Rank]) rfl rfl rfl rfl rfl rfl (by rfl) hS ?_))
 intro W1 b2 hS3
 refine oA Z Z (eN (sR fL3 Z (oR Z (ZD Z Z Tryz.runUnderlying62 Z zJ) (oL Z (hS3.ldB (j:=0) Z Z Z zR (v:=jV p0.Bib) Z) (oA Z Z (eN (zG ?_)))))))
 cases hm
 exact ⟨rfl,_,(zd rfl),U,_,(hS3.pick [] _ (by decide) rfl),rfl,rfl⟩
theorem wBm (p0:wAA) (w:World) (U:PHeap) (hS:St0 w U [])  {r:Int} (hm:wAJ p0=some r):Gv Tryz.prog 143 [.agg #[jV p0.Bib,jV p0.Nation,jV p0.Rank]] w (wCX w [] U (fun U_ L_ v=>v=jV r/\L_=[])):=by
 unfold wAJ at hm
 refine Gv.of Tryz.func143 rfl Tryz.ntmps143 Tryz.results143 rfl (sR (.fx 0 (.fl 1 (.nil)) .stop) rfl (OKS.box (cs:=[jV p0.Bib,jV p0.Nation,jV p0.Rank]) rfl rfl rfl rfl rfl rfl (by rfl) hS ?_))
 intro W1 b2 hS3
 refine oA Z Z (eN (sR fL3 Z (oR Z (ZD Z Z Tryz.runUnderlying62 Z zJ) (oL Z (hS3.ldB (j:=0) Z Z Z zR (v:=jV p0.Rank) Z) (oA Z Z (eN (zG ?_)))))))
 cases hm
 exact ⟨rfl,_,(zd rfl),U,_,(hS3.pick [] _ (by decide) rfl),rfl,rfl⟩
theorem wCc (p0:wAA) (w:World) (U:PHeap) (hS:St0 w U [])  {r:Int} (hm:wAP p0=some r):Gv Tryz.prog 144 [.agg #[jV p0.Bib,jV p0.Nation,jV p0.Rank]] w (wCX w [] U (fun U_ L_ v=>v=jV r/\L_=[])):=by
 unfold wAP at hm
 refine Gv.of Tryz.func144 rfl Tryz.ntmps144 Tryz.results144 rfl (sR (.fx 0 (.fl 1 (.nil)) .stop) rfl (OKS.box (cs:=[jV p0.Bib,jV p0.Nation,jV p0.Rank]) rfl rfl rfl rfl rfl rfl (by rfl) hS ?_))
 intro W1 b2 hS3
 refine oA Z Z (eN (sR fL3 Z (oR Z (ZD Z Z Tryz.runUnderlying62 Z zJ) (oL Z (hS3.ldB (j:=0) Z Z Z zR (v:=jV p0.Nation) Z) (oA Z Z (eN (zG ?_)))))))
 cases hm
 exact ⟨rfl,_,(zd rfl),U,_,(hS3.pick [] _ (by decide) rfl),rfl,rfl⟩
theorem wFX  (w:World) (U:PHeap) (hS:St0 w U [])  {r:Unit} (hm:wBb =some r):Gv Tryz.prog 98 [] w (wCX w [] U (fun U_ L_ v=>v=.agg #[.func (.func 142) #[] #[],jV 1,jV 999,.func (.func 143) #[] #[],jV 1,jV 9999,.func (.func 144) #[] #[],jV 0,jV 30]/\L_=[])):=by
 unfold wBb at hm
 refine Gv.of Tryz.func98 Z Tryz.ntmps98 Tryz.results98 Z (sR (.fx 0 (.nil) .stop) Z ?_)
 let B0:List Value:=[.nilFunc,jV 0,jV 0,.nilFunc,jV 0,jV 0,.nilFunc,jV 0,jV 0]
 refine OKS.alloc (cs:=B0) Z Z Z Z Z Tryz.zeroValue161 Z hS ?_
 intro W1 b2 hS3
 refine eN (sR (wIS (.fx 4 (.nil) .stop)) Z ?_)
 let B1:List Value:=[.nilFunc,jV 0,jV 0]
 let B2:List Value:=[.func (.func 142) #[] #[],jV 1,jV 999]
 refine oR Z (Runs.build (pv:=[(0,.func (.func 142) #[] #[]),(1,jV 1),(2,jV 999)]) (z:=B1) (cs:=B2) Z (wAz Z (wAz Z (wAz Z wCS))) zz wFW Z Z) ?_
 let B3:List Value:=[.func (.func 143) #[] #[],jV 1,jV 9999]
 refine oR Z (Runs.build (pv:=[(0,.func (.func 143) #[] #[]),(1,jV 1),(2,jV 9999)]) (z:=B1) (cs:=B3) Z (wAz Z (wAz Z (wAz Z wCS))) zz wFW Z Z) ?_
 let B4:List Value:=[.func (.func 144) #[] #[],jV 0,jV 30]
 refine oR Z (Runs.build (pv:=[(0,.func (.func 144) #[] #[]),(1,jV 0),(2,jV 30)]) (z:=B1) (cs:=B4) Z (wAz Z (wAz Z (wAz Z wCS))) zz wFW Z Z) ?_
 let B5:List Value:=[.func (.func 142) #[] #[],jV 1,jV 999,.func (.func 143) #[] #[],jV 1,jV 9999,.func (.func 144) #[] #[],jV 0,jV 30]
 refine oR Z (Runs.buildA (pv:=[(0,.agg B2.toArray),(1,.agg B3.toArray),(2,.agg B4.toArray)]) (z:=B0) (cs:=B5) Z (wAz Z (wAz Z (wAz Z wCS))) Tryz.zeroValue161 ZF zX Z Z) (OKS.st (j:=0) (vs:=B5) Z Z Z Z hS3 Z Z Z Z Tryz.sizeOf161 (zk Z) Z Z Z ?_)
 intro W5 hS6
 have hS7:sW w U U [.blk b2 161 B5] W5:=hS6
 refine eN (zG ?_)
 cases hm
 exact ⟨rfl,_,(wOt (v:=.agg B5.toArray) ⟨⟨_,rfl,(wOu Tryz.isAgg161 Tryz.sizeOf161 (hS7.blkAt (k:=0) rfl) (vs:=B5) rfl rfl)⟩,trivial⟩),U,_,(hS7.pick [] _ (by decide) rfl),rfl,rfl⟩
theorem wAx (p0:wAD) (pv0_0:Value) (p1:List wAA) (pA1:Option Addr) (pc1:Nat) (w:World) (U:PHeap) (hS:St0 w U []) (ha0:FnOK Tryz.prog U pv0_0 wFi wFj p0.of) (ha1:Sl U 3 pA1 pc1 p1.length (nA wAC p1)) {r:(List Int)} (hm:wAT p0 p1=some r):Gv Tryz.prog 100 [.agg #[pv0_0,jV p0.lo,jV p0.hi],.slice pA1 p1.length pc1] w (wCX w [] U (fun U_ L_ v=>∃ (A0:Option Addr) (c0:Nat),v=.slice A0 r.length c0/\L_=[.row A0 c0 3 1 (nA KL.encI r)])):=by
 unfold wAT at hm
 refine Gv.of Tryz.func100 Z Tryz.ntmps100 Tryz.results100 Z (sR (.fx 0 (.fl 1 (.nil)) .stop) Z ?_)
 let B0:List Value:=[pv0_0,jV p0.lo,jV p0.hi]
 refine OKS.box (cs:=B0) rfl rfl rfl rfl rfl rfl (by rfl) hS ?_
 intro W1 b2 hS3
 refine oA Z Z (eN (sR fL1 Z (oA Z Z (eN (zB (sR fL3 Z (oM Z Z (oR Z (zO Z Z zS) (oM Z Z (eN (zK (bnK hm fun y27 hf24 hm23=>?_))))))))))))
 have q:=wBa hf24
 obtain ⟨hle25,hf26⟩:=q
 replace hle25:=zD hle25
 refine CK.forN' (fun k22 l18 σ_ w_=>∃ (U_:PHeap) (A19:Option Addr) (c20:Nat),σ_ 10=jV (↑k22:Int)/\σ_ 2=.pointer (some ⟨b2,0,none⟩)/\σ_ 5=.slice A19 l18.length c20/\σ_ 8=.slice pA1 p1.length pc1/\σ_ 9=jV (↑p1.length:Int)/\PHeap.Le U U_/\sW w U U_ [.blk b2 160 B0,.row A19 c20 3 1 (nA KL.encI l18)] w_) hf26 ?_ ?_ ?_
 ·have hS28:=hS3.nilrow 3 1
  exact ⟨U,none,0,rfl,rfl,rfl,rfl,rfl,(zV _),(hS28.pick [1,0] _ (by decide) rfl)⟩
 ·rintro k22 l18 xx32 σ30 W31 hk35 ⟨U37,A19,c20,fi36,f40,f41,f42,f43,le38,hS39⟩ hx33
  have c44:Hid ((↑k22:Int) < (↑p1.length:Int)):=zD (wBT hk35)
  replace hk35:=zD hk35
  have hi45:Hid (w64 ((↑k22:Int) + 1)=(↑(k22 + 1):Int)):=zD (by have h1:=hle25.out;have h2:=c44.out;rw [wBC] <;> omega)
  refine sR fL1 Z (oR Z (zN Z fi36 f43) (eN (zB (cT Z c44 (kN (zB (zK (sR (.fl 0 (.fl 1 (.fx 2 (.fx 3 (.nil) .stop) .stop))) Z (bnK hx33 fun x46 h47 hm48=>?_)))))))))
  have h49:=ha1.le le38
  have q:=h49.el (fun _=>rfl) (wAV h47)
  obtain ⟨b50,off51,hA52,hC53⟩:=q
  refine oR Z (zf Z f42 hA52 fi36 zS zq (wAv h47)) (oL Z (hS39.ldCA (f:=0) hC53 Z Z Tryz.isAgg62 zq (us:=[jV x46.Bib,jV x46.Nation,jV x46.Rank]) Z Z) (OKS.alloc (cs:=[jV 0,jV 0,jV 0]) Z Z Z Z Z Tryz.zeroValue62 Z hS39 ?_))
  intro W54 b55 hS56
  let B1:List Value:=[jV x46.Bib,jV x46.Nation,jV x46.Rank]
  refine OKS.st (j:=0) (vs:=B1) Z Z Z Z hS56 Z Z Z Z zq (zk Z) Z Z Z ?_
  intro W58 hS59
  let B2:Res:=.row A19 c20 3 1 (nA KL.encI l18)
  have hS60:sW w U U37 [.blk b55 62 B1,.blk b2 160 B0,B2] W58:=hS59
  refine eN (rR (wIS (.fx 4 (.fx 5 (.fx 6 (.fl 7 (.nil)) .stop) .stop) .stop)) Z (oM Z f41 (oR Z (ZD Z f40 Tryz.runUnderlying160 Z Tryz.sizeOf158) (oL Z (hS60.ldB (j:=1) Z Z Z Tryz.isAgg158 (v:=pv0_0) Z) (oL Z (hS60.ldBA (j:=0) Z Z Z Tryz.isAgg62 zq (vs:=B1) Z Z) (bnK hm48 fun x61 h62 hm63=>?_))))))
  have h70:=ha0.le le38
  refine OKS.callV (a:=x46) Z Z Z Z Z Z (zC Z zM) hS60 h70 Z h62 ?_
  rintro U64 L65 v66 W67 le68 hS69 ⟨rfl,rfl⟩
  have hS71:sW w U U64 [.blk b55 62 B1,.blk b2 160 B0,B2] W67:=hS69
  refine OKS.buildSlice (pv:=[(0,jV x61)]) (zs:=[jV 0]) (cs:=[jV x61]) Z Z Z Z Z (wAz Z wCS) zA zJ Tryz.zeroValue3 Z Z Z Z Z hS71 ?_
  intro W72 b73 hS74
  let B3:Res:=.row (some ⟨b73,0,none⟩) 1 3 1 (nA KL.encI [x61])
  have hS76:sW w U U64 [B3,.blk b55 62 B1,.blk b2 160 B0,B2] W72:=hS74
  refine bnK hm63 fun x77 h78 hm79=>ZJ (j:=3) (enc:=KL.encI) (xs:=l18) (ys:=[x61]) (zs:=x77) rfl rfl rfl rfl rfl ZH wHI rfl rfl rfl rfl rfl rfl hS76 rfl rfl rfl (hS76.srcR (j:=0) rfl (by decide) (wAG (f:=KL.encI) (sz:=1) (fun _=>rfl) [x61])) (fun _=>rfl) (fun _=>rfl) h78 rfl ?_
  intro A80 c81 W82 hS83
  have hS84:sW w U U64 [B3,.blk b55 62 B1,.blk b2 160 B0,.row A80 c81 3 1 (nA KL.encI x77)] W82:=hS83
  refine oA Z Z (zn (zg (zF (rR fL2 Z (oR Z (zj (zW Z fi36 Z) (congrArg (jV) hi45.out)) (oM Z Z (zn ?_)))))))
  cases hm79
  exact zF ⟨rfl,⟨U64,A80,c81,rfl,f40,rfl,f42,f43,(le38.trans le68),(hS84.pick [2,3] _ (by decide) rfl)⟩⟩
 ·rintro σ88 W89 ⟨U97,A95,c96,fi91,f100,f101,f102,f103,le98,hS99⟩
  have c104:Hid (¬ ((↑(((↑p1.length:Int):Int) - 0).toNat:Int) < (↑p1.length:Int))):=zD (wBA)
  refine sR fL1 Z (oR Z (zN Z fi91 f103) (eN (zB (cF Z c104 (zo (zQ (zQ (zl (zF (sR fL2 Z (oM Z f101 (oA Z Z (eN (zG ?_))))))))))))))
  have hE:=nB hm23;first | subst r | cases hE
  exact ⟨rfl,_,(zd rfl),U97,_,(hS99.pick [1] _ (by decide) rfl),A95,c96,rfl,rfl⟩
theorem wCM (p0:Int) (p1:wAD) (pb1:Nat) (pv1_0:Value) (w:World) (U:PHeap) (hS:St0 w U []) (ha0:Cl U pb1 0 [pv1_0,jV p1.lo,jV p1.hi]) (ha1:FnOK Tryz.prog U pv1_0 wFi wFj p1.of) {r:Bool} (hm:wAQ p0 p1=some r):Gv Tryz.prog 101 [jV p0,.pointer (some ⟨pb1,0,none⟩)] w (wCX w [] U (fun U_ L_ v=>v=.bool r/\L_=[])):=by
 unfold wAQ at hm
 refine Gv.of Tryz.func101 Z Tryz.ntmps101 Tryz.results101 Z (sR fL1 Z (oA Z Z (eN (sR (wOc (.fx 5 (.fl 6 (.nil)) .stop)) Z (oM Z Z (oR Z (ZD Z Z Tryz.runUnderlying160 Z zJ) (oL Z (hS.ldC (f:=1) ha0 (v:=jV p1.lo) Z Z zR Z) (oR Z (ZD Z Z Tryz.runUnderlying160 Z zJ) (oL Z (hS.ldC (f:=2) ha0 (v:=jV p1.hi) Z Z zR Z) (bnK hm fun x1 h2 hm3=>zH 0 Z Z Z Z (zI Z Z Tryz.call86 (zC Z (zC Z (zC Z zM))) Z) hS (fun hs=>wCb p0 p1.lo p1.hi w U hs h2) (.inr Z) ?_))))))))))
 rintro U4 L5 v6 W7 le8 hS9 ⟨rfl,rfl⟩
 have hS10:sW w U U4 [] W7:=hS9
 refine oA Z Z (eN (zG ?_))
 have hE:=nB hm3;first | subst r | cases hE
 exact ⟨Z,_,(zd Z),U4,_,hS10,Z,Z⟩
theorem wBR (p0:List Int) (pA0:Option Addr) (pc0:Nat) (p1:(Int->Option Bool)) (pv1:Value) (w:World) (U:PHeap) (hS:St0 w U []) (ha0:Sl U 1 pA0 pc0 p0.length (nA KL.encI p0)) (ha1:FnOK Tryz.prog U pv1 wJb wJc p1) {r:Bool} (hm:wAY p0 p1=some r):Gv Tryz.prog 99 [.slice pA0 p0.length pc0,pv1] w (wCX w [] U (fun U_ L_ v=>v=.bool r/\L_=[])):=by
 unfold wAY at hm
 refine Gv.of Tryz.func99 Z Tryz.ntmps99 Tryz.results99 Z (sR fL1 Z (oA Z Z (eN (zB (sR fL3 Z (oM Z Z (oR Z (zO Z Z zA) (oM Z Z (eN (zK ?_))))))))))
 have q:=wCA hm
 obtain ⟨r3,hX4⟩:=q
 have q:=wBz hX4
 obtain ⟨hle5,hf6⟩:=q
 replace hle5:=zD hle5
 refine CK.forN (fun k2 _ σ_ w_=>∃ (U_:PHeap),σ_ 9=jV (↑k2:Int)/\σ_ 1=pv1/\σ_ 7=.slice pA0 p0.length pc0/\σ_ 8=jV (↑p0.length:Int)/\PHeap.Le U U_/\sW w U U_ [] w_) hf6 ?_ ?_ ?_
 ·exact ⟨U,Z,Z,Z,Z,(zV _),hS⟩
 ·rintro k2 ⟨⟩ xx9 σ7 W8 hk12 ⟨U14,fi13,f17,f18,f19,le15,hS16⟩ hx10 hb11
  try dsimp only at hx10
  have c20:Hid ((↑k2:Int) < (↑p0.length:Int)):=zD (wBT hk12)
  replace hk12:=zD hk12
  have hi21:Hid (w64 ((↑k2:Int) + 1)=(↑(k2 + 1):Int)):=zD (by have h1:=hle5.out;have h2:=c20.out;rw [wBC] <;> omega)
  refine sR fL1 Z (oR Z (zN Z fi13 f19) (eN (zB (cT Z c20 (kN (zB (zK (sR fL3 Z (bnK hx10 fun x22 h23 hm24=>?_)))))))))
  have h25:=ha0.le le15
  have q:=h25.el (fun _=>rfl) (wAV h23)
  obtain ⟨b26,off27,hA28,hC29⟩:=q
  refine oR Z (zf Z f18 hA28 fi13 zA zJ (wAv h23)) (oL Z (hS16.ldC (f:=0) hC29 (v:=jV x22) Z Z zR Z) (oA Z Z (eN (sR (.fl 0 (.fl 1 (.fx 2 (.fl 3 (.nil)) .stop))) Z (oM Z f17 (oM Z Z (bnK hm24 fun x30 h31 hm32=>?_)))))))
  have h39:=ha1.le le15
  refine OKS.callV (a:=x22) Z Z Z Z Z Z (zC Z zM) hS16 h39 Z h31 ?_
  rintro U33 L34 v35 W36 le37 hS38 ⟨rfl,rfl⟩
  have hS40:sW w U U33 [] W36:=hS38
  refine oR Z (ZI Z Z) (eN (ifc hm32 ?_ ?_))
  ·intro c41 hm42
   refine zU (nC c41.out) (ZE (zg (zF (rR fL2 Z (oR Z (zj (zW Z fi13 Z) (congrArg (jV) hi21.out)) (oM Z Z (zn ?_)))))))
   obtain rfl:=nB hm42
   exact zF ⟨Z,_,Z,⟨U33,Z,f17,f18,f19,(le15.trans le37),hS40⟩⟩
  ·intro c41 hm43
   refine zY (nF (c41.out)) (sR fL1 Z (oA Z Z (eN (zG (zP (zE ?_))))))
   have q:=wAy hm43
   obtain ⟨v44,hm45,e46⟩:=q
   obtain rfl:=wCD hm hX4 (hb11 v44 e46)
   refine zE (zP (zE ?_))
   have hE:=nB hm45;first | subst r | cases hE
   exact ⟨Z,_,(zd Z),U33,_,hS40,Z,Z⟩
 ·rintro ⟨⟩ σ47 W48 ⟨U51,fi50,f54,f55,f56,le52,hS53⟩ hb49
  have hm57:=wCs hm hX4 hb49
  try dsimp only at hm57
  have c58:Hid (¬ ((↑(((↑p0.length:Int):Int) - 0).toNat:Int) < (↑p0.length:Int))):=zD (wBA)
  refine sR fL1 Z (oR Z (zN Z fi50 f56) (eN (zB (cF Z c58 (zo (zQ (zQ (zl (zF (sR fL1 Z (oA Z Z (eN (zG ?_)))))))))))))
  have hE:=nB hm57;first | subst r | cases hE
  exact ⟨Z,_,(zd Z),U51,_,hS53,Z,Z⟩
theorem wCn (p0:List Int) (pA0:Option Addr) (pc0:Nat) (w:World) (U:PHeap) (hS:St0 w U []) (ha0:Sl U 1 pA0 pc0 p0.length (nA KL.encI p0)) {r:Bool} (hm:wBJ p0=some r):Gv Tryz.prog 87 [.slice pA0 p0.length pc0] w (wCX w [] U (fun U_ L_ v=>v=.bool r/\L_=[])):=by
 unfold wBJ at hm
 refine Gv.of Tryz.func87 Z Tryz.ntmps87 Tryz.results87 Z (sR fL1 Z (oA Z Z (eN (sR (.fx 0 (.fl 1 (.nil)) .stop) Z (OKS.makeMap Z Z Z Z Z hS ?_)))))
 intro W1 b2 hS3
 have hr4:=MpR.nil wLh wMc
 refine oA Z Z (eN (zB (sR fL3 Z (oM Z Z (oR Z (zO Z Z zA) (oM Z Z (eN (zK ?_))))))))
 have q:=wCA hm
 obtain ⟨r21,hX22⟩:=q
 have q:=wBz hX22
 obtain ⟨hle23,hf24⟩:=q
 replace hle23:=zD hle23
 refine CK.forN (fun k20 l17 σ_ w_=>∃ (U_:PHeap) (es18:Array MapEntry) (ck19:Nat),σ_ 9=jV (↑k20:Int)/\σ_ 3=.map (some b2)/\σ_ 7=.slice pA0 p0.length pc0/\σ_ 8=jV (↑p0.length:Int)/\PHeap.Le U U_/\sW w U U_ [.obj b2 (.map es18 ck19)] w_/\MpR es18 wLh wMc l17) hf24 ?_ ?_ ?_
 ·exact ⟨U,#[],0,Z,Z,Z,Z,(zV _),hS3,hr4⟩
 ·rintro k20 l17 xx27 σ25 W26 hk30 ⟨U32,es18,ck19,fi31,f35,f36,f37,le33,hS34,h38⟩ hx28 hb29
  have c39:Hid ((↑k20:Int) < (↑p0.length:Int)):=zD (wBT hk30)
  replace hk30:=zD hk30
  have hi40:Hid (w64 ((↑k20:Int) + 1)=(↑(k20 + 1):Int)):=zD (by have h1:=hle23.out;have h2:=c39.out;rw [wBC] <;> omega)
  refine sR fL1 Z (oR Z (zN Z fi31 f37) (eN (zB (cT Z c39 (kN (zB (zK (sR fL3 Z (bnK hx28 fun x41 h42 hm43=>?_)))))))))
  have h44:=ha0.le le33
  have q:=h44.el (fun _=>rfl) (wAV h42)
  obtain ⟨b45,off46,hA47,hC48⟩:=q
  refine oR Z (zf Z f36 hA47 fi31 zA zJ (wAv h42)) (oL Z (hS34.ldC (f:=0) hC48 (v:=jV x41) Z Z zR Z) (oA Z Z (eN (zB (sR fL3 Z (oM Z f35 (oM Z Z (oL Z (hS34.lookup1 (j:=0) (mk:=wLh) (mv:=wMc) (a:=x41) (z:=false) Z Z Z Z (wEN Tryz.runUnderlying180) wLi Tryz.zeroValue4 h38) (eN (ifc hm43 ?_ ?_))))))))))
  ·intro c49 hm50
   refine zY (congrArg nD c49.out) (sR fL1 Z (oA Z Z (eN (zG (zE (zP (zE ?_)))))))
   have q:=wAy hm50
   obtain ⟨v51,hm52,e53⟩:=q
   obtain rfl:=wCD hm hX22 (hb29 v51 e53)
   refine zE (zP (zE ?_))
   have hE:=nB hm52;first | subst r | cases hE
   exact ⟨rfl,_,(zd rfl),U32,_,(hS34.pick [] _ (by decide) rfl),rfl,rfl⟩
  ·intro c49 hm54
   refine zU (congrArg nD (nE.2 c49.out)) (kN (rR (.fl 0 (.fl 1 (.fx 2 (.nil) .stop))) rfl (zZ rfl rfl rfl rfl rfl f35 (zZ rfl rfl rfl rfl rfl rfl (OKS.mapPut (x:=.tmp 16) (y:=.tmp 17) (j:=0) (mk:=wLh) (mv:=wMc) (a:=x41) (v:=true) rfl rfl rfl (by first | exact .inl rfl | exact .inr rfl) hS34 rfl rfl rfl rfl (wEN Tryz.runUnderlying180) wLi h38 rfl ?_)))))
   intro es55 ck56 W57 hr58 hS59
   have hS60:sW w U U32 [.obj b2 (.map es55 ck56)] W57:=hS59
   refine zn (zg (zF (rR fL2 Z (oR Z (zj (zW Z fi31 Z) (congrArg (jV) hi40.out)) (oM Z Z (zn ?_))))))
   obtain rfl:=nB hm54
   exact zF ⟨Z,_,Z,⟨U32,es55,ck56,Z,f35,f36,f37,le33,hS60,hr58⟩⟩
 ·rintro y68 σ64 W65 ⟨U71,e69,c70,fi67,f74,f75,f76,le72,hS73,h77⟩ hb66
  have hm78:=wCs hm hX22 hb66
  have c79:Hid (¬ ((↑(((↑p0.length:Int):Int) - 0).toNat:Int) < (↑p0.length:Int))):=zD (wBA)
  refine sR fL1 Z (oR Z (zN Z fi67 f76) (eN (zB (cF Z c79 (zo (zQ (zQ (zl (zF (sR fL1 Z (oA Z Z (eN (zG ?_)))))))))))))
  have hE:=nB hm78;first | subst r | cases hE
  exact ⟨rfl,_,(zd rfl),U71,_,(hS73.pick [] _ (by decide) rfl),rfl,rfl⟩
theorem wCo (p0:List wAA) (pA0:Option Addr) (pc0:Nat) (w:World) (U:PHeap) (hS:St0 w U []) (ha0:Sl U 3 pA0 pc0 p0.length (nA wAC p0)) {r:Int} (hm:wBK p0=some r):Gv Tryz.prog 41 [.slice pA0 p0.length pc0] w (wCX w [] U (fun U_ L_ v=>v=jV r/\L_=[])):=by
 unfold wBK at hm
 refine Gv.of Tryz.func41 Z Tryz.ntmps41 Tryz.results41 Z (sR fL1 Z (oA Z Z (eN (zB (sR (.fl 0 (.fl 1 (.fx 2 (.fl 3 (.nil)) .stop))) Z (oM Z Z (oR Z (zO Z Z zS) (bnK hm fun x1 h2 hm3=>zH 0 Z Z Z Z (zI Z Z Tryz.call86 (zC Z (zC Z (zC Z zM))) Z) hS (fun hs=>wCb (↑p0.length:Int) 1 60 w U hs h2) (.inr Z) ?_))))))))
 rintro U4 L5 v6 W7 le8 hS9 ⟨rfl,rfl⟩
 have hS10:sW w U U4 [] W7:=hS9
 refine oR Z (ZI Z Z) (eN (ifc hm3 ?_ ?_))
 ·intro c11 hm12
  refine zU (nC c11.out) (kN (sR (.fx 0 (.fx 1 (.fx 2 (.nil) .stop) .stop) .stop) Z ?_))
  have q:=bnd hm12
  obtain ⟨⟨⟩,h13,hm14⟩:=q
  try dsimp only at hm14
  refine zH 0 Z Z Z Z (zI Z Z Tryz.call98 zM Z) hS10 (fun hs=>wFX W7 U4 hs h13) (.inr Z) ?_
  rintro U15 L16 v17 W18 le19 hS20 ⟨rfl,rfl⟩
  have hS21:sW w U U15 [] W18:=hS20
  refine OKS.alloc (cs:=[.nilFunc,jV 0,jV 0,.nilFunc,jV 0,jV 0,.nilFunc,jV 0,jV 0]) Z Z Z Z Z Tryz.zeroValue161 Z hS21 ?_
  intro W22 b23 hS24
  let B0:List Value:=[.func (.func 142) #[] #[],jV 1,jV 999,.func (.func 143) #[] #[],jV 1,jV 9999,.func (.func 144) #[] #[],jV 0,jV 30]
  refine OKS.st (j:=0) (vs:=B0) Z Z Z Z hS24 Z Z Z Z Tryz.sizeOf161 (zk Z) Z Z Z ?_
  intro W26 hS27
  have hS28:sW w U U15 [.blk b23 161 B0] W26:=hS27
  refine eN (zB (sR fL2 rfl (OKS.m rfl rfl rfl rfl (hS28.ldBA (j:=0) rfl rfl rfl Tryz.isAgg161 Tryz.sizeOf161 (vs:=B0) rfl rfl) rfl (zZ rfl rfl rfl rfl rfl rfl (eN (zK (CK.unroll 4 (CKR.succ (sR fL1 rfl (zt rfl rfl rfl rfl (fun _=>zN rfl rfl rfl) (eN (zB (zY (wFs (by decide)) (kN (zB (zK (sR (.fl 0 (.fx 1 (.fx 2 (.nil) .stop) .stop)) rfl (zt rfl rfl rfl rfl (fun _=>(Runs.ixA (i:=0) rfl rfl rfl ZF zX (by decide) (by decide) (wDH ZB zX rfl))) ?_))))))))))))))))))
  let B1:List Value:=[.nilFunc,jV 0,jV 0]
  refine OKS.alloc (cs:=B1) Z Z Z Z Z zz Z hS28 ?_
  intro W29 b30 hS31
  let B2:List Value:=[.func (.func 142) #[] #[],jV 1,jV 999]
  refine OKS.st (j:=0) (vs:=B2) Z Z Z Z hS31 Z Z Z Z zX (zk Z) Z Z Z ?_
  intro W33 hS34
  have hS35:sW w U U15 [.blk b30 160 B2,.blk b23 161 B0] W33:=hS34
  refine eN (sR (.fl 0 (.fl 1 (.fx 2 (.fl 3 (.fx 4 (.fl 5 (.nil)) .stop)) .stop))) Z (oL Z (hS35.ldBA (j:=0) Z Z Z ZB zX (vs:=B2) Z Z) (oM Z Z ?_)))
  have hF36:FnOK Tryz.prog U15 (.func (.func 142) #[] #[]) wFi wFj wAI:=⟨142,[],[],rfl,Tryz.call142,fun U1 w1 x y vs le hs ha hm=>by obtain rfl:=ha;exact wBl x w1 U1 hs  hm⟩
  have h37:=ha0.le le8
  have h38:=h37.le le19
  refine bnK hm14 fun x39 h40 hm41=>zH 0 Z Z Z Z (zI Z Z Tryz.call100 (zC Z (zC Z zM)) Z) hS35 (fun hs=>wAx (⟨wAI,1,999⟩:wAD) (.func (.func 142) #[] #[]) p0 pA0 pc0 W33 U15 hs hF36 h38 h40) (.inr Z) ?_
  rintro U42 L43 v44 W45 le46 hS47 ⟨A48,c49,rfl,rfl⟩
  let B3:Res:=.row A48 c49 3 1 (nA KL.encI x39)
  have hS51:sW w U U42 [B3,.blk b30 160 B2,.blk b23 161 B0] W45:=hS47
  have q:=hS51.freeze (k:=1) rfl
  obtain ⟨U52,le53,hC54,hS55⟩:=q
  replace hC54:=Cl.of hC54
  have hS56:sW w U U52 [B3,.blk b23 161 B0] W45:=hS55
  replace hC54:Cl U52 b30 0 B2:=hC54
  refine oR Z (Runs.mkf Z zM (zC Z zM)) ?_
  have q:=hS56.freezeR (k:=0) (n:=x39.length) rfl (wAG (f:=KL.encI) (sz:=1) (fun _=>rfl) x39) (by decide)
  obtain ⟨U57,le58,hs59,hS60⟩:=q
  have hS61:sW w U U57 [.blk b23 161 B0] W45:=hS60
  have h62:=hC54.le le58
  have hF63:FnOK Tryz.prog U57 (.func (.func 142) #[] #[]) wFi wFj wAI:=⟨142,[],[],rfl,Tryz.call142,fun U1 w1 x y vs le hs ha hm=>by obtain rfl:=ha;exact wBl x w1 U1 hs  hm⟩
  have hF64:FnOK Tryz.prog U57 (.func (.func 101) #[] #[.pointer (some ⟨b30,0,none⟩)]) wJb wJc (fun x=>wAQ x (⟨wAI,1,999⟩:wAD)):=⟨101,[],[.pointer (some ⟨b30,0,none⟩)],rfl,Tryz.call101,fun U1 w1 x y vs le hs ha hm=>by obtain rfl:=ha;exact wCM x (⟨wAI,1,999⟩:wAD) b30 (.func (.func 142) #[] #[]) w1 U1 hs (h62.le le) (hF63.le le) hm⟩
  refine bnK hm41 fun x65 h66 hm67=>zH 0 Z Z Z Z (zI Z Z Tryz.call99 (zC Z (zC Z zM)) Z) hS61 (fun hs=>wBR x39 A48 c49 (fun x=>wAQ x (⟨wAI,1,999⟩:wAD)) (.func (.func 101) #[] #[.pointer (some ⟨b30,0,none⟩)]) W45 U57 hs hs59 hF64 h66) (.inr Z) ?_
  rintro U68 L69 v70 W71 le72 hS73 ⟨rfl,rfl⟩
  have hS74:sW w U U68 [.blk b23 161 B0] W71:=hS73
  refine oR Z (ZI Z Z) (eN (ifc hm67 ?_ ?_))
  ·intro c75 hm76
   refine zU (nC c75.out) (ZE (zg (zF (rR fL2 rfl (zt rfl rfl rfl rfl (fun _=>zj (zW rfl rfl rfl) (congrArg (jV) (show w64 (0 + 1)=1 by decide))) (zZ rfl rfl rfl rfl rfl rfl (eN (CKR.succ (sR fL1 rfl (zt rfl rfl rfl rfl (fun _=>zN rfl rfl rfl) (eN (zB (zY (wFs (by decide)) (kN (zB (zK (sR (.fl 0 (.fx 1 (.fx 2 (.nil) .stop) .stop)) rfl (zt rfl rfl rfl rfl (fun _=>(Runs.ixA (i:=1) rfl rfl rfl ZF zX (by decide) (by decide) (wDH ZB zX rfl))) (OKS.alloc (cs:=B1) rfl rfl rfl rfl rfl zz rfl hS74 ?_)))))))))))))))))))
   intro W77 b78 hS79
   let B4:List Value:=[.func (.func 143) #[] #[],jV 1,jV 9999]
   refine OKS.st (j:=0) (vs:=B4) Z Z Z Z hS79 Z Z Z Z zX (zk Z) Z Z Z ?_
   intro W81 hS82
   have hS83:sW w U U68 [.blk b78 160 B4,.blk b23 161 B0] W81:=hS82
   refine eN (sR (.fl 0 (.fl 1 (.fx 2 (.fl 3 (.fx 4 (.fl 5 (.nil)) .stop)) .stop))) Z (oL Z (hS83.ldBA (j:=0) Z Z Z ZB zX (vs:=B4) Z Z) (oM Z Z ?_)))
   have hF84:FnOK Tryz.prog U68 (.func (.func 143) #[] #[]) wFi wFj wAJ:=⟨143,[],[],rfl,Tryz.call143,fun U1 w1 x y vs le hs ha hm=>by obtain rfl:=ha;exact wBm x w1 U1 hs  hm⟩
   have h85:=h38.le le46
   have h86:=h85.le le53
   have h87:=h86.le le58
   have h88:=h87.le le72
   refine bnK hm76 fun x89 h90 hm91=>zH 0 Z Z Z Z (zI Z Z Tryz.call100 (zC Z (zC Z zM)) Z) hS83 (fun hs=>wAx (⟨wAJ,1,9999⟩:wAD) (.func (.func 143) #[] #[]) p0 pA0 pc0 W81 U68 hs hF84 h88 h90) (.inr Z) ?_
   rintro U92 L93 v94 W95 le96 hS97 ⟨A98,c99,rfl,rfl⟩
   let B5:Res:=.row A98 c99 3 1 (nA KL.encI x89)
   have hS101:sW w U U92 [B5,.blk b78 160 B4,.blk b23 161 B0] W95:=hS97
   have q:=hS101.freeze (k:=1) rfl
   obtain ⟨U102,le103,hC104,hS105⟩:=q
   replace hC104:=Cl.of hC104
   have hS106:sW w U U102 [B5,.blk b23 161 B0] W95:=hS105
   replace hC104:Cl U102 b78 0 B4:=hC104
   refine oR Z (Runs.mkf Z zM (zC Z zM)) ?_
   have q:=hS106.freezeR (k:=0) (n:=x89.length) rfl (wAG (f:=KL.encI) (sz:=1) (fun _=>rfl) x89) (by decide)
   obtain ⟨U107,le108,hs109,hS110⟩:=q
   have hS111:sW w U U107 [.blk b23 161 B0] W95:=hS110
   have h112:=hC104.le le108
   have hF113:FnOK Tryz.prog U107 (.func (.func 143) #[] #[]) wFi wFj wAJ:=⟨143,[],[],rfl,Tryz.call143,fun U1 w1 x y vs le hs ha hm=>by obtain rfl:=ha;exact wBm x w1 U1 hs  hm⟩
   have hF114:FnOK Tryz.prog U107 (.func (.func 101) #[] #[.pointer (some ⟨b78,0,none⟩)]) wJb wJc (fun x=>wAQ x (⟨wAJ,1,9999⟩:wAD)):=⟨101,[],[.pointer (some ⟨b78,0,none⟩)],rfl,Tryz.call101,fun U1 w1 x y vs le hs ha hm=>by obtain rfl:=ha;exact wCM x (⟨wAJ,1,9999⟩:wAD) b78 (.func (.func 143) #[] #[]) w1 U1 hs (h112.le le) (hF113.le le) hm⟩
   refine bnK hm91 fun x115 h116 hm117=>zH 0 Z Z Z Z (zI Z Z Tryz.call99 (zC Z (zC Z zM)) Z) hS111 (fun hs=>wBR x89 A98 c99 (fun x=>wAQ x (⟨wAJ,1,9999⟩:wAD)) (.func (.func 101) #[] #[.pointer (some ⟨b78,0,none⟩)]) W95 U107 hs hs109 hF114 h116) (.inr Z) ?_
   rintro U118 L119 v120 W121 le122 hS123 ⟨rfl,rfl⟩
   have hS124:sW w U U118 [.blk b23 161 B0] W121:=hS123
   refine oR Z (ZI Z Z) (eN (ifc hm117 ?_ ?_))
   ·intro c125 hm126
    refine zU (nC c125.out) (ZE (zg (zF (rR fL2 rfl (zt rfl rfl rfl rfl (fun _=>zj (zW rfl rfl rfl) (congrArg (jV) (show w64 (1 + 1)=2 by decide))) (zZ rfl rfl rfl rfl rfl rfl (eN (CKR.succ (sR fL1 rfl (zt rfl rfl rfl rfl (fun _=>zN rfl rfl rfl) (eN (zB (zY (wFs (by decide)) (kN (zB (zK (sR (.fl 0 (.fx 1 (.fx 2 (.nil) .stop) .stop)) rfl (zt rfl rfl rfl rfl (fun _=>(Runs.ixA (i:=2) rfl rfl rfl ZF zX (by decide) (by decide) (wDH ZB zX rfl))) (OKS.alloc (cs:=B1) rfl rfl rfl rfl rfl zz rfl hS124 ?_)))))))))))))))))))
    intro W127 b128 hS129
    let B6:List Value:=[.func (.func 144) #[] #[],jV 0,jV 30]
    refine OKS.st (j:=0) (vs:=B6) Z Z Z Z hS129 Z Z Z Z zX (zk Z) Z Z Z ?_
    intro W131 hS132
    have hS133:sW w U U118 [.blk b128 160 B6,.blk b23 161 B0] W131:=hS132
    refine eN (sR (.fl 0 (.fl 1 (.fx 2 (.fl 3 (.fx 4 (.fl 5 (.nil)) .stop)) .stop))) Z (oL Z (hS133.ldBA (j:=0) Z Z Z ZB zX (vs:=B6) Z Z) (oM Z Z ?_)))
    have hF134:FnOK Tryz.prog U118 (.func (.func 144) #[] #[]) wFi wFj wAP:=⟨144,[],[],rfl,Tryz.call144,fun U1 w1 x y vs le hs ha hm=>by obtain rfl:=ha;exact wCc x w1 U1 hs  hm⟩
    have h135:=h88.le le96
    have h136:=h135.le le103
    have h137:=h136.le le108
    have h138:=h137.le le122
    refine bnK hm126 fun x139 h140 hm141=>zH 0 Z Z Z Z (zI Z Z Tryz.call100 (zC Z (zC Z zM)) Z) hS133 (fun hs=>wAx (⟨wAP,0,30⟩:wAD) (.func (.func 144) #[] #[]) p0 pA0 pc0 W131 U118 hs hF134 h138 h140) (.inr Z) ?_
    rintro U142 L143 v144 W145 le146 hS147 ⟨A148,c149,rfl,rfl⟩
    let B7:Res:=.row A148 c149 3 1 (nA KL.encI x139)
    have hS151:sW w U U142 [B7,.blk b128 160 B6,.blk b23 161 B0] W145:=hS147
    have q:=hS151.freeze (k:=1) rfl
    obtain ⟨U152,le153,hC154,hS155⟩:=q
    replace hC154:=Cl.of hC154
    have hS156:sW w U U152 [B7,.blk b23 161 B0] W145:=hS155
    replace hC154:Cl U152 b128 0 B6:=hC154
    refine oR Z (Runs.mkf Z zM (zC Z zM)) ?_
    have q:=hS156.freezeR (k:=0) (n:=x139.length) rfl (wAG (f:=KL.encI) (sz:=1) (fun _=>rfl) x139) (by decide)
    obtain ⟨U157,le158,hs159,hS160⟩:=q
    have hS161:sW w U U157 [.blk b23 161 B0] W145:=hS160
    have h162:=hC154.le le158
    have hF163:FnOK Tryz.prog U157 (.func (.func 144) #[] #[]) wFi wFj wAP:=⟨144,[],[],rfl,Tryz.call144,fun U1 w1 x y vs le hs ha hm=>by obtain rfl:=ha;exact wCc x w1 U1 hs  hm⟩
    have hF164:FnOK Tryz.prog U157 (.func (.func 101) #[] #[.pointer (some ⟨b128,0,none⟩)]) wJb wJc (fun x=>wAQ x (⟨wAP,0,30⟩:wAD)):=⟨101,[],[.pointer (some ⟨b128,0,none⟩)],rfl,Tryz.call101,fun U1 w1 x y vs le hs ha hm=>by obtain rfl:=ha;exact wCM x (⟨wAP,0,30⟩:wAD) b128 (.func (.func 144) #[] #[]) w1 U1 hs (h162.le le) (hF163.le le) hm⟩
    refine bnK hm141 fun x165 h166 hm167=>zH 0 Z Z Z Z (zI Z Z Tryz.call99 (zC Z (zC Z zM)) Z) hS161 (fun hs=>wBR x139 A148 c149 (fun x=>wAQ x (⟨wAP,0,30⟩:wAD)) (.func (.func 101) #[] #[.pointer (some ⟨b128,0,none⟩)]) W145 U157 hs hs159 hF164 h166) (.inr Z) ?_
    rintro U168 L169 v170 W171 le172 hS173 ⟨rfl,rfl⟩
    have hS174:sW w U U168 [.blk b23 161 B0] W171:=hS173
    refine oR Z (ZI Z Z) (eN (ifc hm167 ?_ ?_))
    ·intro c175 hm176
     refine zU (nC c175.out) (ZE (zg (zF (CK.fresh fun σ177 hσ178=>?_))))
     have f179:σ177 0=.slice pA0 p0.length pc0:=(hσ178 0).trans rfl
     have f180:σ177 3=.pointer (some ⟨b23,0,none⟩):=(hσ178 3).trans rfl
     have f181:σ177 13=.agg B0.toArray:=(hσ178 13).trans rfl
     have f182:σ177 14=jV 2:=(hσ178 14).trans rfl
     clear hσ178
     refine rR fL2 rfl (zt rfl rfl rfl rfl (fun _=>zj (zW rfl f182 rfl) (congrArg (jV) (show w64 (2 + 1)=3 by decide))) (zZ rfl rfl rfl rfl rfl rfl (eN (CKR.succ (sR fL1 rfl (zt rfl rfl rfl rfl (fun _=>zN rfl rfl rfl) (eN (zB (zU (zu (by decide)) (zo (zQ (zQ (zl (zF (zB (sR fL3 rfl (zt rfl rfl rfl rfl (fun _=>Runs.slAh (k:=2) rfl f180 rfl ZF zX (by decide)) (zt rfl rfl rfl rfl (fun _=>zO rfl rfl Tryz.runUnderlying164) (zZ rfl rfl rfl rfl rfl rfl (eN (zK (CK.unroll 3 (CKR.succ (sR fL1 rfl (zt rfl rfl rfl rfl (fun _=>zN rfl rfl rfl) (eN (zB (zY (wFs (by decide)) (kN (zB (zK (sR (.fl 0 (.fl 1 (.fx 2 (.fx 3 (.nil) .stop) .stop))) rfl (zt rfl rfl rfl rfl (fun _=>zj (zf (k:=0) rfl rfl rfl rfl Tryz.runUnderlying164 zX (by decide)) rfl) (OKS.m rfl rfl rfl rfl (hS174.ldBA (j:=0) rfl rfl rfl ZB zX (vs:=B2) rfl rfl) rfl (OKS.alloc (cs:=B1) rfl rfl rfl rfl rfl zz rfl hS174 ?_)))))))))))))))))))))))))))))))))))
     intro W183 b184 hS185
     refine OKS.st (j:=0) (vs:=B2) Z Z Z Z hS185 Z Z Z Z zX (zk Z) Z Z Z ?_
     intro W187 hS188
     have hS189:sW w U U168 [.blk b184 160 B2,.blk b23 161 B0] W187:=hS188
     refine eN (sR (.fl 0 (.fl 1 (.fx 2 (.fx 3 (.nil) .stop) .stop))) Z (oL Z (hS189.ldBA (j:=0) Z Z Z ZB zX (vs:=B2) Z Z) (oM Z f179 ?_)))
     have hF190:FnOK Tryz.prog U168 (.func (.func 142) #[] #[]) wFi wFj wAI:=⟨142,[],[],rfl,Tryz.call142,fun U1 w1 x y vs le hs ha hm=>by obtain rfl:=ha;exact wBl x w1 U1 hs  hm⟩
     have h191:=h138.le le146
     have h192:=h191.le le153
     have h193:=h192.le le158
     have h194:=h193.le le172
     refine bnK hm176 fun x195 h196 hm197=>zH 0 Z Z Z Z (zI Z Z Tryz.call100 (zC Z (zC Z zM)) Z) hS189 (fun hs=>wAx (⟨wAI,1,999⟩:wAD) (.func (.func 142) #[] #[]) p0 pA0 pc0 W187 U168 hs hF190 h194 h196) (.inr Z) ?_
     rintro U198 L199 v200 W201 le202 hS203 ⟨A204,c205,rfl,rfl⟩
     have hS207:sW w U U198 [.row A204 c205 3 1 (nA KL.encI x195),.blk b184 160 B2,.blk b23 161 B0] W201:=hS203
     have q:=hS207.freezeR (k:=0) (n:=x195.length) rfl (wAG (f:=KL.encI) (sz:=1) (fun _=>rfl) x195) (by decide)
     obtain ⟨U208,le209,hs210,hS211⟩:=q
     have hS212:sW w U U208 [.blk b184 160 B2,.blk b23 161 B0] W201:=hS211
     refine bnK hm197 fun x213 h214 hm215=>zH 0 Z Z Z Z (zI Z Z Tryz.call87 (zC Z zM) Z) hS212 (fun hs=>wCn x195 A204 c205 W201 U208 hs hs210 h214) (.inr Z) ?_
     rintro U216 L217 v218 W219 le220 hS221 ⟨rfl,rfl⟩
     have hS222:sW w U U216 [.blk b184 160 B2,.blk b23 161 B0] W219:=hS221
     refine eN (ifc hm215 ?_ ?_)
     ·intro c223 hm224
      refine zY (congrArg nD c223.out) (sR fL1 Z (oA Z Z (eN (zG (zP (zE (zE (zP (zE ?_)))))))))
      cases hm224
      exact ⟨rfl,_,(zd rfl),U216,_,(hS222.pick [] _ (by decide) rfl),rfl,rfl⟩
     ·intro c223 hm225
      refine zU (congrArg nD (nE.2 c223.out)) (ZE (zg (zF (rR fL2 rfl (zt rfl rfl rfl rfl (fun _=>zj (zW rfl rfl rfl) (congrArg (jV) (show w64 (0 + 1)=1 by decide))) (zZ rfl rfl rfl rfl rfl rfl (eN (CKR.succ (sR fL1 rfl (zt rfl rfl rfl rfl (fun _=>zN rfl rfl rfl) (eN (zB (zY (wFs (by decide)) (kN (zB (zK (sR (.fl 0 (.fl 1 (.fx 2 (.fx 3 (.nil) .stop) .stop))) rfl (zt rfl rfl rfl rfl (fun _=>zj (zf (k:=1) rfl rfl rfl rfl Tryz.runUnderlying164 zX (by decide)) rfl) (OKS.m rfl rfl rfl rfl (hS222.ldBA (j:=1) rfl rfl rfl ZB zX (vs:=B4) rfl rfl) rfl (OKS.alloc (cs:=B1) rfl rfl rfl rfl rfl zz rfl hS222 ?_))))))))))))))))))))
      intro W226 b227 hS228
      refine OKS.st (j:=0) (vs:=B4) Z Z Z Z hS228 Z Z Z Z zX (zk Z) Z Z Z ?_
      intro W230 hS231
      have hS232:sW w U U216 [.blk b227 160 B4,.blk b184 160 B2,.blk b23 161 B0] W230:=hS231
      refine eN (sR (.fl 0 (.fl 1 (.fx 2 (.fx 3 (.nil) .stop) .stop))) Z (oL Z (hS232.ldBA (j:=0) Z Z Z ZB zX (vs:=B4) Z Z) (oM Z f179 ?_)))
      have hF233:FnOK Tryz.prog U216 (.func (.func 143) #[] #[]) wFi wFj wAJ:=⟨143,[],[],rfl,Tryz.call143,fun U1 w1 x y vs le hs ha hm=>by obtain rfl:=ha;exact wBm x w1 U1 hs  hm⟩
      have h234:=h194.le le202
      have h235:=h234.le le209
      have h236:=h235.le le220
      refine bnK hm225 fun x237 h238 hm239=>zH 0 Z Z Z Z (zI Z Z Tryz.call100 (zC Z (zC Z zM)) Z) hS232 (fun hs=>wAx (⟨wAJ,1,9999⟩:wAD) (.func (.func 143) #[] #[]) p0 pA0 pc0 W230 U216 hs hF233 h236 h238) (.inr Z) ?_
      rintro U240 L241 v242 W243 le244 hS245 ⟨A246,c247,rfl,rfl⟩
      have hS249:sW w U U240 [.row A246 c247 3 1 (nA KL.encI x237),.blk b227 160 B4,.blk b184 160 B2,.blk b23 161 B0] W243:=hS245
      have q:=hS249.freezeR (k:=0) (n:=x237.length) rfl (wAG (f:=KL.encI) (sz:=1) (fun _=>rfl) x237) (by decide)
      obtain ⟨U250,le251,hs252,hS253⟩:=q
      have hS254:sW w U U250 [.blk b227 160 B4,.blk b184 160 B2,.blk b23 161 B0] W243:=hS253
      refine bnK hm239 fun x255 h256 hm257=>zH 0 Z Z Z Z (zI Z Z Tryz.call87 (zC Z zM) Z) hS254 (fun hs=>wCn x237 A246 c247 W243 U250 hs hs252 h256) (.inr Z) ?_
      rintro U258 L259 v260 W261 le262 hS263 ⟨rfl,rfl⟩
      have hS264:sW w U U258 [.blk b227 160 B4,.blk b184 160 B2,.blk b23 161 B0] W261:=hS263
      refine eN (ifc hm257 ?_ ?_)
      ·intro c265 hm266
       refine zY (congrArg nD c265.out) (sR fL1 Z (oA Z Z (eN (zG (zP (zE (zE (zP (zE ?_)))))))))
       cases hm266
       exact ⟨rfl,_,(zd rfl),U258,_,(hS264.pick [] _ (by decide) rfl),rfl,rfl⟩
      ·intro c265 hm267
       refine zU (congrArg nD (nE.2 c265.out)) (ZE (zg (zF (rR fL2 rfl (zt rfl rfl rfl rfl (fun _=>zj (zW rfl rfl rfl) (congrArg (jV) (show w64 (1 + 1)=2 by decide))) (zZ rfl rfl rfl rfl rfl rfl (eN (CKR.succ (sR fL1 rfl (zt rfl rfl rfl rfl (fun _=>zN rfl rfl rfl) (eN (zB (zU (zu (by decide)) (zo (zQ (zQ (zl (zF (sR fL1 rfl (OKS.ra rfl rfl rfl rfl rfl rfl (eN (zG ?_))))))))))))))))))))))
       cases hm267
       exact ⟨rfl,_,(zd rfl),U258,_,(hS264.pick [] _ (by decide) rfl),rfl,rfl⟩
    ·intro c175 hm268
     refine zY (nF (c175.out)) (sR fL1 Z (oA Z Z (eN (zG (zP (zE (zE (zP (zE ?_)))))))))
     cases hm268
     exact ⟨rfl,_,(zd rfl),U168,_,(hS174.pick [] _ (by decide) rfl),rfl,rfl⟩
   ·intro c125 hm269
    refine zY (nF (c125.out)) (sR fL1 Z (oA Z Z (eN (zG (zP (zE (zE (zP (zE ?_)))))))))
    cases hm269
    exact ⟨rfl,_,(zd rfl),U118,_,(hS124.pick [] _ (by decide) rfl),rfl,rfl⟩
  ·intro c75 hm270
   refine zY (nF (c75.out)) (sR fL1 Z (oA Z Z (eN (zG (zP (zE (zE (zP (zE ?_)))))))))
   cases hm270
   exact ⟨rfl,_,(zd rfl),U68,_,(hS74.pick [] _ (by decide) rfl),rfl,rfl⟩
 ·intro c11 hm271
  refine zY (nF (c11.out)) (sR fL1 Z (oA Z Z (eN (zG (zE ?_)))))
  cases hm271
  exact ⟨Z,_,(zd Z),U4,_,hS10,Z,Z⟩
end Go.Proofs.YtghaibkggdecnaaGreat
namespace Go.Proofs.YtghaibkggdecnaaGreat
open Go.KL
set_option maxHeartbeats 4000000
theorem wBD (p0:Int) (p1:Int) (p2:Int) (w:World) (U:PHeap) (hS:St0 w U [])  {r:Bool} (hm:wAL p0 p1 p2=some r):Gv Tryz.prog 77 [jV p0,jV p1,jV p2] w (wCX w [] U (fun U_ L_ v=>v=.bool r/\L_=[])):=by
 unfold wAL at hm
 refine Gv.of Tryz.func77 Z Tryz.ntmps77 Tryz.results77 Z (sR fL1 Z (oA Z Z (eN (sR fL9 Z (oM Z Z (oM Z Z (oR Z (zN Z Z Z) (oM Z Z ?_))))))))
 by_cases c1:p0 < p1
 ·have hm2:=hm;rw [if_pos c1] at hm2;replace c1:=zD c1
  refine oT Z c1 (oT Z c1 (oT Z c1 (oR Z (zr Z (wFs c1.out) Z) (oA Z Z (eN (zG ?_))))))
  have hE:=nB hm2;first | subst r | cases hE
  exact ⟨Z,_,(zd Z),U,_,hS,Z,Z⟩
 ·have hm3:=hm;rw [if_neg c1] at hm3;replace c1:=zD c1
  refine zZ Z Z Z (wF Z c1) Z Z (zZ Z Z Z (wF Z c1) Z Z (rU Z (wF Z c1) (Runs.gtr Z Z Z) (oR Z (zh Z (zu c1.out) Z) (oA Z Z (eN (zG ?_))))))
  cases hm3
  exact ⟨Z,_,(zd Z),U,_,hS,Z,Z⟩
theorem wCE (p0:List wAE) (pA0:Option Addr) (pc0:Nat) (w:World) (U:PHeap) (hS:St0 w U []) (ha0:Sl U 3 pA0 pc0 p0.length (nA wAF p0)) {r:Int} (hm:wAg p0=some r):Gv Tryz.prog 42 [.slice pA0 p0.length pc0] w (wCX w [] U (fun U_ L_ v=>v=jV r/\L_=[])):=by
 unfold wAg at hm
 refine Gv.of Tryz.func42 Z Tryz.ntmps42 Tryz.results42 Z (sR fL1 Z (oA Z Z (eN (zB (sR fL8 Z (oM Z Z (oR Z (zO Z Z zL) (oR Z (Runs.eql Z Z Z) (oM Z Z ?_)))))))))
 by_cases c1:(↑p0.length:Int)=0
 ·have hm2:=hm;rw [if_pos c1] at hm2;replace c1:=zD c1
  refine oT Z c1 (oT Z c1 (oT Z c1 (oR Z (zr Z (wFs c1.out) Z) (eN (zY Z (sR fL1 Z (oA Z Z (eN (zG (zE ?_))))))))))
  cases hm2
  exact ⟨Z,_,(zd Z),U,_,hS,Z,Z⟩
 ·have hm3:=hm;rw [if_neg c1] at hm3;replace c1:=zD c1
  refine zZ Z Z Z (wF Z c1) Z Z (rU Z (wF Z c1) (zO Z Z zL) (rU Z (wF Z c1) (Runs.gtr Z Z Z) (oR Z (zh Z (zu c1.out) Z) (eN (ifc hm3 ?_ ?_)))))
  ·intro c4 hm5
   refine cT Z c4 (sR fL1 Z (oA Z Z (eN (zG (zE ?_)))))
   cases hm5
   exact ⟨Z,_,(zd Z),U,_,hS,Z,Z⟩
  ·intro c4 hm6
   refine cF Z c4 (kN (zB (sR fL1 Z (oA Z Z (eN (zK ?_))))))
   have q:=wCA hm6
   obtain ⟨r9,hX10⟩:=q
   have q:=wBz hX10
   obtain ⟨hle11,hf12⟩:=q
   replace hle11:=zD hle11
   refine CK.forN (fun k8 _ σ_ w_=>∃ (U_:PHeap),σ_ 3=jV (↑k8:Int)/\σ_ 0=.slice pA0 p0.length pc0/\PHeap.Le U U_/\sW w U U_ [] w_) hf12 ?_ ?_ ?_
   ·exact ⟨U,Z,Z,(zV _),hS⟩
   ·rintro k8 ⟨⟩ xx15 σ13 W14 hk18 ⟨U20,fi19,f23,le21,hS22⟩ hx16 hb17
    try dsimp only at hx16
    have c24:Hid ((↑k8:Int) < (↑p0.length:Int)):=zD (wBT hk18)
    replace hk18:=zD hk18
    have hi25:Hid (w64 ((↑k8:Int) + 1)=(↑(k8 + 1):Int)):=zD (by have h1:=hle11.out;have h2:=c24.out;rw [wBC] <;> omega)
    refine zB (sR fL4 Z (oM Z fi19 (oM Z f23 (oR Z (zO Z Z zL) (oR Z (zN Z Z Z) (eN (cT Z c24 (kN (zB (zK (sR (wOc (.fx 5 (wPs (.fx 12 (wOh (.fx 20 (.fl 21 (.nil)) .stop)) .stop)) .stop)) Z (oM Z f23 (oM Z fi19 (bnK hx16 fun x26 h27 hm28=>?_))))))))))))))
    have h29:=ha0.le le21
    have q:=h29.el (fun _=>rfl) (wAV h27)
    obtain ⟨b30,off31,hA32,hC33⟩:=q
    refine oR Z (zf Z Z hA32 Z zL zy (wAv h27)) (oR Z (ZD Z Z zp Z zJ) (oL Z (hS22.ldC (f:=0) hC33 (v:=jV x26.Bib) Z Z zR Z) (bnK hm28 fun x34 h35 hm36=>zH 0 Z Z Z Z (zI Z Z Tryz.call77 (zC Z (zC Z (zC Z zM))) Z) hS22 (fun hs=>wBD x26.Bib 1 999 W14 U20 hs h35) (.inr Z) ?_)))
    rintro U37 L38 v39 W40 le41 hS42 ⟨rfl,rfl⟩
    have hS43:sW w U U37 [] W40:=hS42
    refine oM Z Z (ifc hm36 ?_ ?_)
    ·intro c44 hm45
     refine OKS.p Z Z Z (zi Z Z (congrArg nD c44.out) Z) (OKS.p Z Z Z (zi Z Z (congrArg nD c44.out) Z) (OKS.p Z Z Z (zi Z Z (congrArg nD c44.out) Z) (OKS.p Z Z Z (zi Z Z (congrArg nD c44.out) Z) (OKS.p Z Z Z (zi Z Z (congrArg nD c44.out) Z) (ZC Z Z Z (zi Z Z (congrArg nD c44.out) Z) (oR Z (zr Z (congrArg nD c44.out) Z) (oM Z Z (oN Z (oN Z (oN Z (oN Z (oN Z (ZC Z Z Z (zi Z Z Z Z) (oR Z (zr Z Z Z) (eN (zY Z (sR fL1 Z (oA Z Z (eN (zG (zP (zE ?_))))))))))))))))))))))
     have q:=wAy hm45
     obtain ⟨v46,hm47,e48⟩:=q
     obtain rfl:=wCD hm6 hX10 (hb17 v46 e48)
     refine zE (zP (zE ?_))
     cases hm47
     exact ⟨Z,_,(zd Z),U37,_,hS43,Z,Z⟩
    ·intro c44 hm49
     refine zZ Z Z Z (zm Z Z (congrArg nD (nE.2 c44.out))) Z f23 (zZ Z Z Z (zm Z Z (congrArg nD (nE.2 c44.out))) Z fi19 ?_)
     have h50:=h29.le le41
     have q:=h50.el (fun _=>rfl) (wAV h27)
     obtain ⟨b51,off52,hA53,hC54⟩:=q
     refine zt Z Z Z (zm Z Z (congrArg nD (nE.2 c44.out))) (fun _=>zf Z Z hA53 Z zL zy (wAv h27)) (zt Z Z Z (zm Z Z (congrArg nD (nE.2 c44.out))) (fun _=>ZD Z Z zp Z zJ) (OKS.m Z Z Z (zm Z Z (congrArg nD (nE.2 c44.out))) (hS43.ldC (f:=1) hC54 (v:=jV x26.Nation) Z Z zR Z) Z (bnK hm49 fun x55 h56 hm57=>zH 0 Z Z Z (zm Z Z (congrArg nD (nE.2 c44.out))) (zI Z Z Tryz.call77 (zC Z (zC Z (zC Z zM))) Z) hS43 (fun hs=>wBD x26.Nation 0 30 W40 U37 hs h56) (.inr Z) ?_)))
     rintro U58 L59 v60 W61 le62 hS63 ⟨rfl,rfl⟩
     have hS64:sW w U U58 [] W61:=hS63
     refine oR Z (zh Z (congrArg nD (nE.2 c44.out)) Z) (oM Z Z (ifc hm57 ?_ ?_))
     ·intro c65 hm66
      refine OKS.p Z Z Z (zi Z Z (congrArg nD c65.out) Z) (OKS.p Z Z Z (zi Z Z (congrArg nD c65.out) Z) (OKS.p Z Z Z (zi Z Z (congrArg nD c65.out) Z) (OKS.p Z Z Z (zi Z Z (congrArg nD c65.out) Z) (OKS.p Z Z Z (zi Z Z (congrArg nD c65.out) Z) (ZC Z Z Z (zi Z Z (congrArg nD c65.out) Z) (oR Z (zr Z (congrArg nD c65.out) Z) (eN (zY Z (sR fL1 Z (oA Z Z (eN (zG (zP (zE ?_))))))))))))))
      have q:=wAy hm66
      obtain ⟨v67,hm68,e69⟩:=q
      obtain rfl:=wCD hm6 hX10 (hb17 v67 e69)
      refine zE (zP (zE ?_))
      cases hm68
      exact ⟨Z,_,(zd Z),U58,_,hS64,Z,Z⟩
     ·intro c65 hm70
      refine zZ Z Z Z (zm Z Z (congrArg nD (nE.2 c65.out))) Z f23 (zZ Z Z Z (zm Z Z (congrArg nD (nE.2 c65.out))) Z fi19 ?_)
      have h71:=h50.le le62
      have q:=h71.el (fun _=>rfl) (wAV h27)
      obtain ⟨b72,off73,hA74,hC75⟩:=q
      refine zt Z Z Z (zm Z Z (congrArg nD (nE.2 c65.out))) (fun _=>zf Z Z hA74 Z zL zy (wAv h27)) (zt Z Z Z (zm Z Z (congrArg nD (nE.2 c65.out))) (fun _=>ZD Z Z zp Z zJ) (OKS.m Z Z Z (zm Z Z (congrArg nD (nE.2 c65.out))) (hS64.ldC (f:=2) hC75 (v:=jV x26.Rank) Z Z zR Z) Z (bnK hm70 fun x76 h77 hm78=>zH 0 Z Z Z (zm Z Z (congrArg nD (nE.2 c65.out))) (zI Z Z Tryz.call77 (zC Z (zC Z (zC Z zM))) Z) hS64 (fun hs=>wBD x26.Rank 1 9999 W61 U58 hs h77) (.inr Z) ?_)))
      rintro U79 L80 v81 W82 le83 hS84 ⟨rfl,rfl⟩
      have hS85:sW w U U79 [] W82:=hS84
      refine oR Z (zh Z (congrArg nD (nE.2 c65.out)) Z) (eN (ifc hm78 ?_ ?_))
      ·intro c86 hm87
       refine zY (congrArg nD c86.out) (sR fL1 Z (oA Z Z (eN (zG (zP (zE ?_))))))
       have q:=wAy hm87
       obtain ⟨v88,hm89,e90⟩:=q
       obtain rfl:=wCD hm6 hX10 (hb17 v88 e90)
       refine zE (zP (zE ?_))
       cases hm89
       exact ⟨Z,_,(zd Z),U79,_,hS85,Z,Z⟩
      ·intro c86 hm91
       refine zU (congrArg nD (nE.2 c86.out)) (ZE (zg (zF (rR fL3 Z (oM Z fi19 (oR Z (zj (zW Z Z Z) (congrArg (jV) hi25.out)) (oA Z Z (zn ?_))))))))
       obtain rfl:=nB hm91
       exact zF ⟨Z,_,Z,⟨U79,Z,f23,(((le21.trans le41).trans le62).trans le83),hS85⟩⟩
   ·rintro ⟨⟩ σ92 W93 ⟨U96,fi95,f99,le97,hS98⟩ hb94
    have hm100:=wCs hm6 hX10 hb94
    try dsimp only at hm100
    have c101:Hid (¬ ((↑(((↑p0.length:Int):Int) - 0).toNat:Int) < (↑p0.length:Int))):=zD (wBA)
    refine zB (sR fL4 Z (oM Z fi95 (oM Z f99 (oR Z (zO Z Z zL) (oR Z (zN Z Z Z) (eN (cF Z c101 (zo (zQ (zQ (zl (zF (zB (sR fL1 Z (oA Z Z (eN (zK ?_)))))))))))))))))
    have q:=wCA hm100
    obtain ⟨r104,hX105⟩:=q
    have q:=wBz hX105
    obtain ⟨hle106,hf107⟩:=q
    replace hle106:=zD hle106
    refine CK.forN (fun k103 _ σ_ w_=>∃ (U_:PHeap),σ_ 4=jV (↑k103:Int)/\σ_ 0=.slice pA0 p0.length pc0/\PHeap.Le U96 U_/\sW w U U_ [] w_) hf107 ?_ ?_ ?_
    ·exact ⟨U96,Z,f99,(zV _),hS98⟩
    ·rintro k103 ⟨⟩ xx110 σ108 W109 hk113 ⟨U115,fi114,f118,le116,hS117⟩ hx111 hb112
     try dsimp only at hx111
     have c119:Hid ((↑k103:Int) < (↑p0.length:Int)):=zD (wBT hk113)
     replace hk113:=zD hk113
     have hi120:Hid (w64 ((↑k103:Int) + 1)=(↑(k103 + 1):Int)):=zD (by have h1:=hle106.out;have h2:=c119.out;rw [wBC] <;> omega)
     refine zB (sR fL4 Z (oM Z fi114 (oM Z f118 (oR Z (zO Z Z zL) (oR Z (zN Z Z Z) (eN (cT Z c119 (kN (zB (zK (sR fL1 Z (oA Z Z (eN (zK ?_))))))))))))))
     have q:=wCA hx111
     obtain ⟨r123,hX124⟩:=q
     have q:=wBz hX124
     obtain ⟨hle125,hf126⟩:=q
     replace hle125:=zD hle125
     refine CK.forN (fun k122 _ σ_ w_=>∃ (U_:PHeap),σ_ 5=jV (↑k122:Int)/\σ_ 0=.slice pA0 p0.length pc0/\σ_ 4=jV (↑k103:Int)/\PHeap.Le U115 U_/\sW w U U_ [] w_) hf126 ?_ ?_ ?_
     ·exact ⟨U115,Z,f118,fi114,(zV _),hS117⟩
     ·rintro k122 ⟨⟩ xx129 σ127 W128 hk132 ⟨U134,fi133,f137,f138,le135,hS136⟩ hx130 hb131
      try dsimp only at hx130
      have c139:Hid ((↑k122:Int) < (↑k103:Int)):=zD (wBT hk132)
      replace hk132:=zD hk132
      have hi140:Hid (w64 ((↑k122:Int) + 1)=(↑(k122 + 1):Int)):=zD (by have h1:=hle125.out;have h2:=c139.out;rw [wBC] <;> omega)
      refine zB (sR fL3 rfl (zZ rfl rfl rfl rfl rfl fi133 (zZ rfl rfl rfl rfl rfl f138 (zt rfl rfl rfl rfl (fun _=>zN rfl rfl rfl) (eN (cT Z c139 (kN (zB (zK (zB (CK.anyOrd ZK [3,3,3,3,1,3,3,3,3,1,3,3,3,3,3,3,1,3,3,3,3,1,3,3] fL24 (by kernel_rfl) ?_)))))))))))
      have hS141:=hS136.drew
      generalize hw_W142:({ W128 with drawn:=W128.drawn + 1 }:World)=W142 at hS141 ⊢
      refine oM Z f137 (oM Z f138 (bnK hx130 fun x143 h144 hm145=>?_))
      have h146:=ha0.le le97
      have h147:=h146.le le116
      have h148:=h147.le le135
      have q:=h148.el (fun _=>rfl) (wAV h144)
      obtain ⟨b149,off150,hA151,hC152⟩:=q
      refine oR Z (zf Z Z hA151 Z zL zy (wAv h144)) (oR Z (ZD Z Z zp Z zJ) (oL Z (hS141.ldC (f:=0) hC152 (v:=jV x143.Bib) Z Z zR Z) (oM Z f137 (oM Z fi133 (bnK hm145 fun x153 h154 hm155=>?_)))))
      have q:=h148.el (fun _=>rfl) (wAV h154)
      obtain ⟨b156,off157,hA158,hC159⟩:=q
      refine oR Z (zf Z Z hA158 Z zL zy (wAv h154)) (oR Z (ZD Z Z zp Z zJ) (oL Z (hS141.ldC (f:=0) hC159 (v:=jV x153.Bib) Z Z zR Z) (oR Z (Runs.eql Z Z Z) (oM Z Z (ifc hm155 ?_ ?_)))))
      ·intro c160 hm161
       refine oT Z c160 (oT Z c160 (oT Z c160 (oT Z c160 (oT Z c160 (oT Z c160 (oT Z c160 (oT Z c160 (oT Z c160 (oT Z c160 (oT Z c160 (oR Z (zr Z (wFs c160.out) Z) (eN (zY Z (sR fL1 Z (oA Z Z (eN (zG (zP (zE ?_)))))))))))))))))))
       have q:=wAy hm161
       obtain ⟨v162,hm163,e164⟩:=q
       obtain rfl:=wCD hx111 hX124 (hb131 v162 e164)
       refine zE (zP (zP (zE ?_)))
       have q:=wAy hm163
       obtain ⟨v165,hm166,e167⟩:=q
       obtain rfl:=wCD hm100 hX105 (hb112 v165 e167)
       refine zE (zP (zE ?_))
       cases hm166
       exact ⟨Z,_,(zd Z),U134,_,hS141,Z,Z⟩
      ·intro c160 hm168
       refine zZ Z Z Z (wF Z c160) Z f137 (zZ Z Z Z (wF Z c160) Z f138 ?_)
       have q:=h148.el (fun _=>rfl) (wAV h144)
       obtain ⟨b169,off170,hA171,hC172⟩:=q
       refine rU Z (wF Z c160) (zf Z Z hA171 Z zL zy (wAv h144)) (rU Z (wF Z c160) (ZD Z Z zp Z zJ) (OKS.m Z Z Z (wF Z c160) (hS141.ldC (f:=2) hC172 (v:=jV x143.Rank) Z Z zR Z) Z (zZ Z Z Z (wF Z c160) Z f137 (zZ Z Z Z (wF Z c160) Z fi133 ?_))))
       have q:=h148.el (fun _=>rfl) (wAV h154)
       obtain ⟨b173,off174,hA175,hC176⟩:=q
       refine rU Z (wF Z c160) (zf Z Z hA175 Z zL zy (wAv h154)) (rU Z (wF Z c160) (ZD Z Z zp Z zJ) (OKS.m Z Z Z (wF Z c160) (hS141.ldC (f:=2) hC176 (v:=jV x153.Rank) Z Z zR Z) Z (rU Z (wF Z c160) (Runs.eql Z Z Z) (oR Z (zh Z (zu c160.out) Z) (eN (ifc hm168 ?_ ?_))))))
       ·intro c177 hm178
        refine cT Z c177 (sR fL1 Z (oA Z Z (eN (zG (zP (zE ?_))))))
        have q:=wAy hm178
        obtain ⟨v179,hm180,e181⟩:=q
        obtain rfl:=wCD hx111 hX124 (hb131 v179 e181)
        refine zE (zP (zP (zE ?_)))
        have q:=wAy hm180
        obtain ⟨v182,hm183,e184⟩:=q
        obtain rfl:=wCD hm100 hX105 (hb112 v182 e184)
        refine zE (zP (zE ?_))
        cases hm183
        exact ⟨Z,_,(zd Z),U134,_,hS141,Z,Z⟩
       ·intro c177 hm185
        refine cF Z c177 (ZE (zg (zF (rR fL3 Z (oM Z fi133 (oR Z (zj (zW Z Z Z) (congrArg (jV) hi140.out)) (oA Z Z (zn ?_))))))))
        obtain rfl:=nB hm185
        exact zF ⟨Z,_,Z,⟨U134,Z,f137,f138,le135,hS141⟩⟩
     ·rintro ⟨⟩ σ186 W187 ⟨U190,fi189,f193,f194,le191,hS192⟩ hb188
      have hm195:=wCs hx111 hX124 hb188
      try dsimp only at hm195
      have c196:Hid (¬ ((↑(((↑k103:Int):Int) - 0).toNat:Int) < (↑k103:Int))):=zD (wBA)
      refine zB (sR fL3 Z (oM Z fi189 (oM Z f194 (oR Z (zN Z Z Z) (eN (cF Z c196 (zo (zQ (zQ (zl (zg (zF (rR fL3 Z (oM Z f194 (oR Z (zj (zW Z Z Z) (congrArg (jV) hi120.out)) (oA Z Z (zn ?_)))))))))))))))))
      obtain rfl:=nB hm195
      exact zF ⟨Z,_,Z,⟨U190,Z,f193,(le116.trans le191),hS192⟩⟩
    ·rintro ⟨⟩ σ197 W198 ⟨U201,fi200,f204,le202,hS203⟩ hb199
     have hm205:=wCs hm100 hX105 hb199
     try dsimp only at hm205
     have c206:Hid (¬ ((↑(((↑p0.length:Int):Int) - 0).toNat:Int) < (↑p0.length:Int))):=zD (wBA)
     refine zB (sR fL4 Z (oM Z fi200 (oM Z f204 (oR Z (zO Z Z zL) (oR Z (zN Z Z Z) (eN (cF Z c206 (zo (zQ (zQ (zl (zF (sR fL1 Z (oA Z Z (eN (zG ?_))))))))))))))))
     cases hm205
     exact ⟨Z,_,(zd Z),U201,_,hS203,Z,Z⟩
theorem wDE (p0:Int) (w:World) (U:PHeap) (hS:St0 w U [])  {r:Bool} (hm:wBQ p0=some r):Gv Tryz.prog 128 [jV p0] w (wCX w [] U (fun U_ L_ v=>v=.bool r/\L_=[])):=by
 unfold wBQ at hm
 refine Gv.of Tryz.func128 Z Tryz.ntmps128 Tryz.results128 Z (sR fL1 Z (oA Z Z (eN (sR fL4 Z (oM Z Z (oM Z Z (oR Z (zw Z Z Z) (oA Z Z (eN (zG ?_))))))))))
 cases hm
 exact ⟨Z,_,(zd Z),U,_,hS,Z,Z⟩
theorem wCd (p0:Int) (p1:Int) (w:World) (U:PHeap) (hS:St0 w U [])  {r:Int} (hm:wAt p0 p1=some r):Gv Tryz.prog 82 [jV p0,jV p1] w (wCX w [] U (fun U_ L_ v=>v=jV r/\L_=[])):=by
 unfold wAt at hm
 refine Gv.of Tryz.func82 Z Tryz.ntmps82 Tryz.results82 Z (sR fL1 Z (oA Z Z (eN (sR (.fl 0 (.fx 1 (.fl 2 (.nil)) .stop)) Z (oM Z Z (bnK hm fun x1 h2 hm3=>zH 0 Z Z Z Z (zI Z Z Tryz.call128 (zC Z zM) Z) hS (fun hs=>wDE p0 w U hs h2) (.inr Z) ?_))))))
 rintro U4 L5 v6 W7 le8 hS9 ⟨rfl,rfl⟩
 have hS10:sW w U U4 [] W7:=hS9
 refine oA Z Z (eN (sR (.fl 0 (.fx 1 (.fl 2 (.nil)) .stop)) Z (oM Z Z (bnK hm3 fun x11 h12 hm13=>zH 0 Z Z Z Z (zI Z Z Tryz.call128 (zC Z zM) Z) hS10 (fun hs=>wDE p1 W7 U4 hs h12) (.inr Z) ?_))))
 rintro U14 L15 v16 W17 le18 hS19 ⟨rfl,rfl⟩
 have hS20:sW w U U14 [] W17:=hS19
 refine oA Z Z (eN (zB (sR fL1 Z (oM Z Z (eN (ifc hm13 ?_ ?_))))))
 ·intro c21 hm22
  refine zY (congrArg nD c21.out) (zB (sR fL1 Z (oM Z Z (eN (ifc hm22 ?_ ?_)))))
  ·intro c23 hm24
   refine zY (congrArg nD c23.out) (sR fL1 Z (oA Z Z (eN (zG (zE (zE ?_))))))
   cases hm24
   exact ⟨Z,_,(zd Z),U14,_,hS20,Z,Z⟩
  ·intro c23 hm25
   refine zU (congrArg nD (nE.2 c23.out)) (kN (sR fL1 Z (oA Z Z (eN (zG (zE ?_))))))
   cases hm25
   exact ⟨Z,_,(zd Z),U14,_,hS20,Z,Z⟩
 ·intro c21 hm26
  refine zU (congrArg nD (nE.2 c21.out)) (kN (zB (sR fL1 Z (oM Z Z (eN (ifc hm26 ?_ ?_))))))
  ·intro c27 hm28
   refine zY (congrArg nD c27.out) (sR fL1 Z (oA Z Z (eN (zG (zE ?_)))))
   cases hm28
   exact ⟨Z,_,(zd Z),U14,_,hS20,Z,Z⟩
  ·intro c27 hm29
   refine zU (congrArg nD (nE.2 c27.out)) (kN (zB (sR fL3 Z (oM Z Z (oM Z Z (oR Z (zN Z Z Z) (eN (ifc hm29 ?_ ?_))))))))
   ·intro c30 hm31
    refine cT Z c30 (sR fL1 Z (oA Z Z (eN (zG (zE ?_)))))
    cases hm31
    exact ⟨Z,_,(zd Z),U14,_,hS20,Z,Z⟩
   ·intro c30 hm32
    refine cF Z c30 (kN (zB (sR fL3 Z (oM Z Z (oM Z Z (oR Z (Runs.gtr Z Z Z) (eN (ifc hm32 ?_ ?_))))))))
    ·intro c33 hm34
     refine cT Z c33 (sR fL1 Z (oA Z Z (eN (zG (zE ?_)))))
     cases hm34
     exact ⟨Z,_,(zd Z),U14,_,hS20,Z,Z⟩
    ·intro c33 hm35
     refine cF Z c33 (kN (sR fL1 Z (oA Z Z (eN (zG ?_)))))
     cases hm35
     exact ⟨Z,_,(zd Z),U14,_,hS20,Z,Z⟩
theorem wEa (p0:Int) (p1:Int) (p2:List wAA) (pb2:Nat) (pA2:Option Addr) (pc2:Nat) (w:World) (U:PHeap) (hS:St0 w U []) (ha0:Cl U pb2 0 [.slice pA2 p2.length pc2]) (ha1:Sl U 3 pA2 pc2 p2.length (nA wAC p2)) {r:Int} (hm:wAW p0 p1 p2=some r):Gv Tryz.prog 130 [jV p0,jV p1,.pointer (some ⟨pb2,0,none⟩)] w (wCX w [] U (fun U_ L_ v=>v=jV r/\L_=[])):=by
 unfold wAW at hm
 refine Gv.of Tryz.func130 rfl Tryz.ntmps130 Tryz.results130 rfl (sR fL1 rfl (OKS.ra rfl rfl rfl rfl rfl rfl (eN (zB (CK.anyOrd ZK [1,3,3,3,1,1,3,3,3,1,2,3] (fC0_9 (.fx 10 (.fl 11 (.nil)) .stop)) (by kernel_rfl) ?_)))))
 have hS1:=hS.drew
 generalize hw_W2:({ w with drawn:=w.drawn + 1 }:World)=W2 at hS1 ⊢
 refine oL Z (hS1.ldC (f:=0) ha0 (v:=.slice pA2 p2.length pc2) Z Z Tryz.isAgg58 Z) (oM Z Z (bnK hm fun x3 h4 hm5=>?_))
 have q:=ha1.el (fun _=>rfl) (wAV h4)
 obtain ⟨b6,off7,hA8,hC9⟩:=q
 refine oR Z (Runs.iaI Z Z hA8 Z zS zq (wEK h4) (wEp h4)) (oR Z (ZD Z Z Tryz.runUnderlying62 Z zJ) (oL Z (hS1.ldC (f:=2) hC9 (v:=jV x3.Rank) Z Z zR Z) (oL Z (hS1.ldC (f:=0) ha0 (v:=.slice pA2 p2.length pc2) Z Z Tryz.isAgg58 Z) (oM Z Z (bnK hm5 fun x10 h11 hm12=>?_)))))
 have q:=ha1.el (fun _=>rfl) (wAV h11)
 obtain ⟨b13,off14,hA15,hC16⟩:=q
 refine oR Z (Runs.iaI Z Z hA15 Z zS zq (wEK h11) (wEp h11)) (oR Z (ZD Z Z Tryz.runUnderlying62 Z zJ) (oL Z (hS1.ldC (f:=2) hC16 (v:=jV x10.Rank) Z Z zR Z) (bnK hm12 fun x17 h18 hm19=>zH 0 Z Z Z Z (zI Z Z Tryz.call82 (zC Z (zC Z zM)) Z) hS1 (fun hs=>wCd x3.Rank x10.Rank W2 U hs h18) (.inr Z) ?_)))
 rintro U20 L21 v22 W23 le24 hS25 ⟨rfl,rfl⟩
 have hS26:sW w U U20 [] W23:=hS25
 refine oA Z Z (eN (zG ?_))
 have hE:=nB hm19;first | subst r | cases hE
 exact ⟨Z,_,(zd Z),U20,_,hS26,Z,Z⟩
theorem wBU (p0:List Int) (pA0:Option Addr) (pc0:Nat) (p1:((Int × Int)->Option Int)) (pv1:Value) (w:World) (U:PHeap) (hS:St ⟨w,[.row pA0 pc0 3 1 (nA KL.encI p0)],U⟩ U [.row pA0 pc0 3 1 (nA KL.encI p0)] w) (ha0:FnOK Tryz.prog U pv1 ar50 rr50 p1) (ha1:∃ g cb,pv1=.func (.func g) #[] cb) {r:List Int} (hm:wAO p0 p1=some r):Gv Tryz.prog 106 [.slice pA0 p0.length pc0,pv1] w (wCX w [.row pA0 pc0 3 1 (nA KL.encI p0)] U (fun U_ L_ v=>v=.tuple #[]/\L_=[.row pA0 pc0 3 1 (nA KL.encI r)]/\r.length=p0.length)) :=
 wKN (enc1:=(fun x=>.int .i64 x)) (fun _=>rfl) (fun _=>rfl) (fun _ _ _=>rfl) (fun _ _ _ _ h=>h.1) (fun enc a cf b g cb k1 k2 k3 d w h1 h2 h3 h4 h5 h6=>Go.Proofs.Tryz.slices_SortFunc_total enc a cf b g cb k1 k2 k3 d w h1 h2 h3 h4 h5 h6) (fun p c v w=>Go.Proofs.Tryz.slices_SortFunc_none_f106 (α:=Int) p c v w) hS ha0 ha1 hm
theorem wDP (p0:List wAA) (pA0:Option Addr) (pc0:Nat) (w:World) (U:PHeap) (hS:St0 w U []) (ha0:Sl U 3 pA0 pc0 p0.length (nA wAC p0)) {r:(List Int)} (hm:wAs p0=some r):Gv Tryz.prog 89 [.slice pA0 p0.length pc0] w (wCX w [] U (fun U_ L_ v=>∃ (A0:Option Addr) (c0:Nat),v=.slice A0 r.length c0/\L_=[.row A0 c0 3 1 (nA KL.encI r)])):=by
 unfold wAs at hm
 refine Gv.of Tryz.func89 rfl Tryz.ntmps89 Tryz.results89 rfl (sR (.fx 0 (.fl 1 (.nil)) .stop) rfl (OKS.box (cs:=[.slice pA0 p0.length pc0]) rfl rfl rfl rfl rfl rfl (by rfl) hS ?_))
 intro W1 b2 hS3
 have q:=hS3.freeze (k:=0) rfl
 obtain ⟨U5,le6,hC7,hS8⟩:=q
 replace hC7:=Cl.of hC7
 have hS9:sW w U U5 [] W1:=hS8
 replace hC7:Cl U5 b2 0 [.slice pA0 p0.length pc0]:=hC7
 refine oA Z Z (eN (sR (.fl 0 (.fl 1 (.fx 2 (.fl 3 (.nil)) .stop))) Z (oL Z (hS9.ldC (f:=0) hC7 (v:=.slice pA0 p0.length pc0) Z Z Tryz.isAgg58 Z) (oR Z (zO Z Z zS) (bnK hm fun x10 h11 hm12=>OKS.makeSlice (enc:=KL.encI) (z:=(0:Int)) (v:=jV 0) Z Z Z Z Z (wEN zA) wHI Z Z Z Z Z Z h11 hS9 ?_)))))
 intro W13 b14 hS15
 have hS17:sW w U U5 [.row (some ⟨b14,0,none⟩) x10.length 3 1 (nA KL.encI x10)] W13:=hS15
 refine oA Z Z (eN (zB (sR fL3 Z (oL Z (hS17.ldC (f:=0) hC7 (v:=.slice pA0 p0.length pc0) Z Z Tryz.isAgg58 Z) (oR Z (zO Z Z zS) (oM Z Z (eN (zK (bnK hm12 fun y29 hf26 hm25=>?_)))))))))
 have q:=wBa hf26
 obtain ⟨hle27,hf28⟩:=q
 replace hle27:=zD hle27
 refine CK.forN' (fun k24 l23 σ_ w_=>∃ (U_:PHeap),σ_ 10=jV (↑k24:Int)/\σ_ 1=.pointer (some ⟨b2,0,none⟩)/\σ_ 3=.slice (some ⟨b14,0,none⟩) l23.length x10.length/\σ_ 9=jV (↑p0.length:Int)/\PHeap.Le U5 U_/\sW w U U_ [.row (some ⟨b14,0,none⟩) x10.length 3 1 (nA KL.encI l23)] w_/\l23.length=x10.length) hf28 ?_ ?_ ?_
 ·exact ⟨U5,Z,Z,Z,Z,(zV _),hS17,Z⟩
 ·rintro k24 l23 xx32 σ30 W31 hk35 ⟨U37,fi36,f40,f41,f42,le38,hS39,h43⟩ hx33
  have c44:Hid ((↑k24:Int) < (↑p0.length:Int)):=zD (wBT hk35)
  replace hk35:=zD hk35
  have hi45:Hid (w64 ((↑k24:Int) + 1)=(↑(k24 + 1):Int)):=zD (by have h1:=hle27.out;have h2:=c44.out;rw [wBC] <;> omega)
  refine sR fL1 Z (oR Z (zN Z fi36 f42) (eN (zB (cT Z c44 (kN (zB (zK (sR fL2 Z (oM Z fi36 (oA Z Z (eN (rR (wIS (.fx 4 (.nil) .stop)) Z (oM Z f41 (oM Z Z (oM Z Z (bnK hx33 fun _ h46 hm47=>oR Z (zf Z Z Z Z zA zJ (wCr h46)) ?_))))))))))))))))
  have hg48:=wBe (xs:=l23) (wCr h46)
  refine OKS.stR (j:=0) (vs:=[jV (↑k24:Int)]) (cs':=nA KL.encI (nM l23 k24 (↑k24:Int))) rfl rfl rfl rfl hS39 rfl rfl rfl rfl rfl zJ (by rw [wAG (f:=KL.encI) (sz:=1) (fun _=>rfl)];have hz:=wCr h46;simp only [nJ,nH,nI,List.length_cons,List.length_nil];first | omega | (simp only [nL];omega)) rfl (wKD (sz:=1) (fo:=0) (fun _=>rfl) _ _ _ _ hg48 (by first | omega | (simp only [nL];omega) | (simp only [nJ,nH,nI];omega)) (zk rfl) rfl) rfl ?_
  intro W49 hS50
  have hS51:sW w U U37 [.row (some ⟨b14,0,none⟩) x10.length 3 1 (nA KL.encI (nM l23 k24 (↑k24:Int)))] W49:=hS50
  refine zn (zg (zF (rR fL2 Z (oR Z (zj (zW Z fi36 Z) (congrArg (jV) hi45.out)) (oM Z Z (zn ?_))))))
  cases hm47
  exact zF ⟨rfl,⟨U37,rfl,f40,(nP (b:=(.slice (some ⟨b14,0,none⟩) l23.length x10.length:Value)) (c:=(.slice (some ⟨b14,0,none⟩) ((nM l23 k24 (↑k24:Int)).length) x10.length:Value)) f41 (by simp only [nK])),f42,le38,hS51,(by simp only [nK];exact h43)⟩⟩
 ·rintro σ53 W54 ⟨U58,fi56,f61,f62,f63,le59,hS60,h64⟩
  have c65:Hid (¬ ((↑(((↑p0.length:Int):Int) - 0).toNat:Int) < (↑p0.length:Int))):=zD (wBA)
  refine sR fL1 Z (oR Z (zN Z fi56 f63) (eN (zB (cF Z c65 (zo (zQ (zQ (zl (zF (sR (.fl 0 (.fl 1 (.fx 2 (.nil) .stop))) Z (oM Z f62 (oR Z (Runs.mkf Z zM (zC f61 zM)) ?_))))))))))))
  have h66:=hC7.le le59
  have h67:=ha0.le le6
  have h68:=h67.le le59
  have hF69:FnOK Tryz.prog U58 (.func (.func 130) #[] #[.pointer (some ⟨b2,0,none⟩)]) ar50 rr50 (fun x=>wAW x.1 x.2 p0):=⟨130,[],[.pointer (some ⟨b2,0,none⟩)],rfl,Tryz.call130,fun U1 w1 x y vs le hs ha hm=>by obtain rfl:=ha;exact wEa x.1 x.2 p0 b2 pA0 pc0 w1 U1 hs (h66.le le) (h68.le le) hm⟩
  refine bnK hm25 fun x70 h71 hm72=>zH 1 Z Z Z Z (zI Z Z Tryz.call106 (zC Z (zC Z zM)) Z) hS60 (fun hs=>wBU y29 (some ⟨b14,0,none⟩) x10.length (fun x=>wAW x.1 x.2 p0) (.func (.func 130) #[] #[.pointer (some ⟨b2,0,none⟩)]) W54 U58 hs hF69 ⟨_,_,Z⟩ h71) (.inl Z) ?_
  rintro U73 L74 v75 W76 le77 hS78 ⟨rfl,rfl,h79⟩
  have hS80:sW w U U73 [.row (some ⟨b14,0,none⟩) x10.length 3 1 (nA KL.encI x70)] W76:=hS78
  refine eN (sR fL2 rfl (zZ rfl rfl rfl rfl rfl (nP (b:=(.slice (some ⟨b14,0,none⟩) y29.length x10.length:Value)) (c:=(.slice (some ⟨b14,0,none⟩) x70.length x10.length:Value)) f62 (by rw [h79])) (OKS.ra rfl rfl rfl rfl rfl rfl (eN (zG ?_)))))
  have hE:=nB hm72;first | subst r | cases hE
  exact ⟨Z,_,(zd Z),U73,_,hS80,(some ⟨b14,0,none⟩),x10.length,Z,Z⟩
theorem wFk (p0:List wAA) (pA0:Option Addr) (pc0:Nat) (w:World) (U:PHeap) (hS:St0 w U []) (ha0:Sl U 3 pA0 pc0 p0.length (nA wAC p0)) {r:(List Int) × Int} (hm:wBM p0=some r):Gv Tryz.prog 43 [.slice pA0 p0.length pc0] w (wCX w [] U (fun U_ L_ v=>∃ (A0:Option Addr) (c0:Nat),v=.tuple #[.slice A0 r.1.length c0,jV r.2]/\L_=[.row A0 c0 3 1 (nA KL.encI r.1)])):=by
 unfold wBM at hm
 refine Gv.of Tryz.func43 Z Tryz.ntmps43 Tryz.results43 Z (sR fL2 Z (oA Z Z (oA Z Z (eN (zB (sR (.fl 0 (.fx 1 (.fl 2 (.nil)) .stop)) Z (oM Z Z (bnK hm fun x1 h2 hm3=>zH 0 Z Z Z Z (zI Z Z Tryz.call41 (zC Z zM) Z) hS (fun hs=>wCo p0 pA0 pc0 w U hs ha0 h2) (.inr Z) ?_))))))))
 rintro U4 L5 v6 W7 le8 hS9 ⟨rfl,rfl⟩
 have hS10:sW w U U4 [] W7:=hS9
 refine oA Z Z (eN (sR fL2 Z (oM Z Z (oR Z (zw Z Z Z) (eN (ifc hm3 ?_ ?_))))))
 ·intro c11 hm12
  refine zU (zu (fun h=>h c11.out)) (kN (sR (.fl 0 (.fx 1 (.fl 2 (.fl 3 (.nil))) .stop)) Z (oM Z Z ?_)))
  have h13:=ha0.le le8
  refine bnK hm12 fun x14 h15 hm16=>zH 0 Z Z Z Z (zI Z Z Tryz.call89 (zC Z zM) Z) hS10 (fun hs=>wDP p0 pA0 pc0 W7 U4 hs h13 h15) (.inr Z) ?_
  rintro U17 L18 v19 W20 le21 hS22 ⟨A23,c24,rfl,rfl⟩
  have hS26:sW w U U17 [.row A23 c24 3 1 (nA KL.encI x14)] W20:=hS22
  refine oA Z Z (oA Z Z (eN (zG ?_)))
  cases hm16
  exact ⟨Z,_,(wEW Z Z),U17,_,hS26,A23,c24,Z,Z⟩
 ·intro c11 hm27
  refine cT Z c11 (sR fL3 Z (oM Z Z (oA Z Z (oA Z Z (eN (zG (zE ?_)))))))
  have hS28:=hS10.nilrow 3 1
  cases hm27
  exact ⟨Z,_,(wEW Z Z),U4,_,hS28,none,0,Z,Z⟩
theorem wBu (p0:List wAE) (pA0:Option Addr) (pc0:Nat) (w:World) (U:PHeap) (hS:St0 w U []) (ha0:Sl U 3 pA0 pc0 p0.length (nA wAF p0)) {r:(List Int) × Int} (hm:wAM p0=some r):Gv Tryz.prog 44 [.slice pA0 p0.length pc0] w (wCX w [] U (fun U_ L_ v=>∃ (A0:Option Addr) (c0:Nat),v=.tuple #[.slice A0 r.1.length c0,jV r.2]/\L_=[.row A0 c0 3 1 (nA KL.encI r.1)])):=by
 unfold wAM at hm
 refine Gv.of Tryz.func44 Z Tryz.ntmps44 Tryz.results44 Z (sR fL2 Z (oA Z Z (oA Z Z (eN (zB (sR (.fl 0 (.fx 1 (.fl 2 (.nil)) .stop)) Z (oM Z Z (bnK hm fun x1 h2 hm3=>zH 0 Z Z Z Z (zI Z Z Tryz.call42 (zC Z zM) Z) hS (fun hs=>wCE p0 pA0 pc0 w U hs ha0 h2) (.inr Z) ?_))))))))
 rintro U4 L5 v6 W7 le8 hS9 ⟨rfl,rfl⟩
 have hS10:sW w U U4 [] W7:=hS9
 refine oA Z Z (eN (sR fL2 Z (oM Z Z (oR Z (zw Z Z Z) (eN (ifc hm3 ?_ ?_))))))
 ·intro c11 hm12
  refine zU (zu (fun h=>h c11.out)) (kN (sR (.fl 0 (.fl 1 (.fx 2 (.fl 3 (.nil)) .stop))) Z (oM Z Z (oR Z (zO Z Z zL) (bnK hm12 fun x13 h14 hm15=>OKS.makeSlice (enc:=KL.encI) (z:=(0:Int)) (v:=jV 0) Z Z Z Z Z (wEN zA) wHI Z Z Z Z Z Z h14 hS10 ?_)))))
  intro W16 b17 hS18
  have hS20:sW w U U4 [.row (some ⟨b17,0,none⟩) x13.length 3 1 (nA KL.encI x13)] W16:=hS18
  refine oA Z Z (eN (zB (sR fL1 Z (oA Z Z (eN (zK (bnK hm15 fun y32 hf29 hm28=>?_)))))))
  have q:=wBa hf29
  obtain ⟨hle30,hf31⟩:=q
  replace hle30:=zD hle30
  refine CK.forN' (fun k27 l26 σ_ w_=>∃ (U_:PHeap),σ_ 6=jV (↑k27:Int)/\σ_ 0=.slice pA0 p0.length pc0/\σ_ 5=.slice (some ⟨b17,0,none⟩) l26.length x13.length/\PHeap.Le U4 U_/\sW w U U_ [.row (some ⟨b17,0,none⟩) x13.length 3 1 (nA KL.encI l26)] w_/\l26.length=x13.length) hf31 ?_ ?_ ?_
  ·exact ⟨U4,Z,Z,Z,(zV _),hS20,Z⟩
  ·rintro k27 l26 xx35 σ33 W34 hk38 ⟨U40,fi39,f43,f44,le41,hS42,h45⟩ hx36
   have c46:Hid ((↑k27:Int) < (↑p0.length:Int)):=zD (wBT hk38)
   replace hk38:=zD hk38
   have hi47:Hid (w64 ((↑k27:Int) + 1)=(↑(k27 + 1):Int)):=zD (by have h1:=hle30.out;have h2:=c46.out;rw [wBC] <;> omega)
   refine zB (sR fL4 Z (oM Z fi39 (oM Z f43 (oR Z (zO Z Z zL) (oR Z (zN Z Z Z) (eN (cT Z c46 (kN (zB (zK (sR fL1 Z (oA Z Z (eN (zB (sR fL1 Z (oA Z Z (eN (zK (bnK hx36 fun y59 hf56 hm55=>?_)))))))))))))))))))
   have q:=wBa hf56
   obtain ⟨hle57,hf58⟩:=q
   replace hle57:=zD hle57
   refine CK.forN' (fun k54 x53 σ_ w_=>∃ (U_:PHeap),σ_ 8=jV (↑k54:Int)/\σ_ 0=.slice pA0 p0.length pc0/\σ_ 5=.slice (some ⟨b17,0,none⟩) l26.length x13.length/\σ_ 6=jV (↑k27:Int)/\σ_ 7=jV x53/\PHeap.Le U40 U_/\sW w U U_ [.row (some ⟨b17,0,none⟩) x13.length 3 1 (nA KL.encI l26)] w_) hf58 ?_ ?_ ?_
   ·exact ⟨U40,Z,f43,f44,fi39,Z,(zV _),hS42⟩
   ·rintro k54 x53 xx62 σ60 W61 hk65 ⟨U67,fi66,f70,f71,f72,f73,le68,hS69⟩ hx63
    have c74:Hid ((↑k54:Int) < (↑p0.length:Int)):=zD (wBT hk65)
    replace hk65:=zD hk65
    have hi75:Hid (w64 ((↑k54:Int) + 1)=(↑(k54 + 1):Int)):=zD (by have h1:=hle57.out;have h2:=c74.out;rw [wBC] <;> omega)
    refine zB (sR fL4 rfl (zZ rfl rfl rfl rfl rfl fi66 (zZ rfl rfl rfl rfl rfl f70 (zt rfl rfl rfl rfl (fun _=>zO rfl rfl zL) (zt rfl rfl rfl rfl (fun _=>zN rfl rfl rfl) (eN (cT Z c74 (kN (zB (zK (zB (CK.anyOrd ZK [3,3,3,3,1,3,3,3,3,1,3] fL11 (by kernel_rfl) ?_))))))))))))
    have hS76:=hS69.drew
    generalize hw_W77:({ W61 with drawn:=W61.drawn + 1 }:World)=W77 at hS76 ⊢
    refine oM Z f70 (oM Z fi66 (bnK hx63 fun x78 h79 hm80=>?_))
    have h81:=ha0.le le8
    have h82:=h81.le le41
    have h83:=h82.le le68
    have q:=h83.el (fun _=>rfl) (wAV h79)
    obtain ⟨b84,off85,hA86,hC87⟩:=q
    refine oR Z (zf Z Z hA86 Z zL zy (wAv h79)) (oR Z (ZD Z Z zp Z zJ) (oL Z (hS76.ldC (f:=2) hC87 (v:=jV x78.Rank) Z Z zR Z) (oM Z f70 (oM Z f72 (bnK hm80 fun x88 h89 hm90=>?_)))))
    have q:=h83.el (fun _=>rfl) (wAV h89)
    obtain ⟨b91,off92,hA93,hC94⟩:=q
    refine oR Z (zf Z Z hA93 Z zL zy (wAv h89)) (oR Z (ZD Z Z zp Z zJ) (oL Z (hS76.ldC (f:=2) hC94 (v:=jV x88.Rank) Z Z zR Z) (oR Z (zN Z Z Z) (eN (ifc hm90 ?_ ?_)))))
    ·intro c95 hm96
     refine cT Z c95 (rR fL3 Z (oM Z f73 (oR Z (zW Z Z Z) (oA Z Z (zn (zg (zF (rR fL3 Z (oM Z fi66 (oR Z (zj (zW Z Z Z) (congrArg (jV) hi75.out)) (oA Z Z (zn ?_))))))))))))
     cases hm96
     exact zF ⟨Z,⟨U67,Z,f70,f71,f72,Z,le68,hS76⟩⟩
    ·intro c95 hm98
     refine cF Z c95 (ZE (zg (zF (rR fL3 Z (oM Z fi66 (oR Z (zj (zW Z Z Z) (congrArg (jV) hi75.out)) (oA Z Z (zn ?_))))))))
     cases hm98
     exact zF ⟨Z,⟨U67,Z,f70,f71,f72,f73,le68,hS76⟩⟩
   ·rintro σ100 W101 ⟨U105,fi103,f108,f109,f110,f111,le106,hS107⟩
    have c112:Hid (¬ ((↑(((↑p0.length:Int):Int) - 0).toNat:Int) < (↑p0.length:Int))):=zD (wBA)
    refine zB (sR fL4 Z (oM Z fi103 (oM Z f108 (oR Z (zO Z Z zL) (oR Z (zN Z Z Z) (eN (cF Z c112 (zo (zQ (zQ (zl (zF (rR (wIS (.fx 4 (.nil) .stop)) Z (oM Z f109 (oM Z f111 (oM Z f110 (bnK hm55 fun _ h113 hm114=>oR Z (Runs.iaI Z Z Z Z zA zJ (wJw h113) (wJx h113)) ?_)))))))))))))))))
    have hg115:=wBe (xs:=l26) (wCr h113)
    refine OKS.stR (j:=0) (vs:=[jV (↑k27:Int)]) (cs':=nA KL.encI (nM l26 y59.toNat (↑k27:Int))) rfl rfl rfl rfl hS107 rfl rfl rfl rfl rfl zJ (by rw [wAG (f:=KL.encI) (sz:=1) (fun _=>rfl)];have hz:=wCr h113;simp only [nJ,nH,nI,List.length_cons,List.length_nil];first | omega | (simp only [nL];omega)) rfl (wKD (sz:=1) (fo:=0) (fun _=>rfl) _ _ _ _ hg115 (by first | omega | (simp only [nL];omega) | (simp only [nJ,nH,nI];omega)) (zk rfl) rfl) rfl ?_
    intro W116 hS117
    have hS118:sW w U U105 [.row (some ⟨b17,0,none⟩) x13.length 3 1 (nA KL.encI (nM l26 y59.toNat (↑k27:Int)))] W116:=hS117
    refine zn (zg (zF (rR fL3 Z (oM Z f110 (oR Z (zj (zW Z Z Z) (congrArg (jV) hi47.out)) (oA Z Z (zn ?_)))))))
    cases hm114
    exact zF ⟨rfl,⟨U105,rfl,f108,(nP (b:=(.slice (some ⟨b17,0,none⟩) l26.length x13.length:Value)) (c:=(.slice (some ⟨b17,0,none⟩) ((nM l26 y59.toNat (↑k27:Int)).length) x13.length:Value)) f109 (by simp only [nK])),(le41.trans le106),hS118,(by simp only [nK];exact h45)⟩⟩
  ·rintro σ120 W121 ⟨U125,fi123,f128,f129,le126,hS127,h130⟩
   have c131:Hid (¬ ((↑(((↑p0.length:Int):Int) - 0).toNat:Int) < (↑p0.length:Int))):=zD (wBA)
   refine zB (sR fL4 Z (oM Z fi123 (oM Z f128 (oR Z (zO Z Z zL) (oR Z (zN Z Z Z) (eN (cF Z c131 (zo (zQ (zQ (zl (zF (sR fL3 Z (oM Z f129 (oA Z Z (oA Z Z (eN (zG ?_))))))))))))))))))
   cases hm28
   exact ⟨Z,_,(wEW Z Z),U125,_,hS127,(some ⟨b17,0,none⟩),x13.length,Z,Z⟩
 ·intro c11 hm132
  refine cT Z c11 (sR fL3 Z (oM Z Z (oA Z Z (oA Z Z (eN (zG (zE ?_)))))))
  have hS133:=hS10.nilrow 3 1
  cases hm132
  exact ⟨Z,_,(wEW Z Z),U4,_,hS133,none,0,Z,Z⟩
end Go.Proofs.YtghaibkggdecnaaGreat
namespace Go.Proofs.YtghaibkggdecnaaGreat
open Go.KL
set_option maxHeartbeats 4000000
theorem wAj (p0:List Int) (pA0:Option Addr) (pc0:Nat) (p1:List Int) (pA1:Option Addr) (pc1:Nat) (w:World) (U:PHeap) (hS:St0 w U []) (ha0:Sl U 1 pA0 pc0 p0.length (nA KL.encI p0)) (ha1:Sl U 1 pA1 pc1 p1.length (nA KL.encI p1)) {r:Bool} (hm:wAK p0 p1=some r):Gv Tryz.prog 15 [.slice pA0 p0.length pc0,.slice pA1 p1.length pc1] w (wCX w [] U (fun U_ L_ v=>v=.bool r/\L_=[])):=by
 unfold wAK at hm
 refine Gv.of Tryz.func15 Z Tryz.ntmps15 Tryz.results15 Z (sR fL1 Z (oA Z Z (eN (zB (sR fL5 Z (oM Z Z (oR Z (zO Z Z zA) (oM Z Z (oR Z (zO Z Z zA) (oR Z (zw Z Z Z) (eN ?_)))))))))))
 by_cases c1:(↑p0.length:Int)=(↑p1.length:Int)
 ·have hm2:=hm;rw [if_pos c1] at hm2;replace c1:=zD c1
  refine zU (zu (fun h=>h c1.out)) (kN (zB (sR fL3 Z (oM Z Z (oR Z (zO Z Z zA) (oM Z Z (eN (zK ?_))))))))
  have q:=wCA hm2
  obtain ⟨r5,hX6⟩:=q
  have q:=wBz hX6
  obtain ⟨hle7,hf8⟩:=q
  replace hle7:=zD hle7
  refine CK.forN (fun k4 _ σ_ w_=>∃ (U_:PHeap),σ_ 13=jV (↑k4:Int)/\σ_ 0=.slice pA0 p0.length pc0/\σ_ 1=.slice pA1 p1.length pc1/\σ_ 12=jV (↑p0.length:Int)/\PHeap.Le U U_/\sW w U U_ [] w_) hf8 ?_ ?_ ?_
  ·exact ⟨U,Z,Z,Z,Z,(zV _),hS⟩
  ·rintro k4 ⟨⟩ xx11 σ9 W10 hk14 ⟨U16,fi15,f19,f20,f21,le17,hS18⟩ hx12 hb13
   try dsimp only at hx12
   have c22:Hid ((↑k4:Int) < (↑p0.length:Int)):=zD (wBT hk14)
   replace hk14:=zD hk14
   have hi23:Hid (w64 ((↑k4:Int) + 1)=(↑(k4 + 1):Int)):=zD (by have h1:=hle7.out;have h2:=c22.out;rw [wBC] <;> omega)
   refine sR fL1 rfl (zt rfl rfl rfl rfl (fun _=>zN rfl fi15 f21) (eN (zB (cT Z c22 (kN (zB (zK (sR fL2 rfl (zZ rfl rfl rfl rfl rfl fi15 (OKS.ra rfl rfl rfl rfl rfl rfl (eN (zB (CK.anyOrd ZK [3,3,3,1,3,3,3,1,3] fL9 (by kernel_rfl) ?_)))))))))))))
   have hS24:=hS18.drew
   generalize hw_W25:({ W10 with drawn:=W10.drawn + 1 }:World)=W25 at hS24 ⊢
   refine oM Z f19 (oM Z Z (bnK hx12 fun x26 h27 hm28=>?_))
   have h29:=ha0.le le17
   have q:=h29.el (fun _=>rfl) (wAV h27)
   obtain ⟨b30,off31,hA32,hC33⟩:=q
   refine oR Z (zf Z Z hA32 Z zA zJ (wAv h27)) (oL Z (hS24.ldC (f:=0) hC33 (v:=jV x26) Z Z zR Z) (oM Z f20 (oM Z Z (bnK hm28 fun x34 h35 hm36=>?_))))
   have h37:=ha1.le le17
   have q:=h37.el (fun _=>rfl) (wAV h35)
   obtain ⟨b38,off39,hA40,hC41⟩:=q
   refine oR Z (zf Z Z hA40 Z zA zJ (wAv h35)) (oL Z (hS24.ldC (f:=0) hC41 (v:=jV x34) Z Z zR Z) (oR Z (zw Z Z Z) (eN (ifc hm36 ?_ ?_))))
   ·intro c42 hm43
    refine zU (zu (fun h=>h c42.out)) (ZE (zg (zF (rR fL2 Z (oR Z (zj (zW Z fi15 Z) (congrArg (jV) hi23.out)) (oM Z Z (zn ?_)))))))
    obtain rfl:=nB hm43
    exact zF ⟨Z,_,Z,⟨U16,Z,f19,f20,f21,le17,hS24⟩⟩
   ·intro c42 hm44
    refine cT Z c42 (sR fL1 Z (oA Z Z (eN (zG (zP (zE ?_))))))
    have q:=wAy hm44
    obtain ⟨v45,hm46,e47⟩:=q
    obtain rfl:=wCD hm2 hX6 (hb13 v45 e47)
    refine zE (zP (zE ?_))
    have hE:=nB hm46;first | subst r | cases hE
    exact ⟨Z,_,(zd Z),U16,_,hS24,Z,Z⟩
  ·rintro ⟨⟩ σ48 W49 ⟨U52,fi51,f55,f56,f57,le53,hS54⟩ hb50
   have hm58:=wCs hm2 hX6 hb50
   try dsimp only at hm58
   have c59:Hid (¬ ((↑(((↑p0.length:Int):Int) - 0).toNat:Int) < (↑p0.length:Int))):=zD (wBA)
   refine sR fL1 Z (oR Z (zN Z fi51 f57) (eN (zB (cF Z c59 (zo (zQ (zQ (zl (zF (sR fL1 Z (oA Z Z (eN (zG ?_)))))))))))))
   have hE:=nB hm58;first | subst r | cases hE
   exact ⟨Z,_,(zd Z),U52,_,hS54,Z,Z⟩
 ·have hm60:=hm;rw [if_neg c1] at hm60;replace c1:=zD c1
  refine cT Z c1 (sR fL1 Z (oA Z Z (eN (zG (zE ?_)))))
  have hE:=nB hm60;first | subst r | cases hE
  exact ⟨Z,_,(zd Z),U,_,hS,Z,Z⟩
theorem wEb (p0:Int) (w:World) (U:PHeap) (hS:St0 w U [])  {r:Bool} (hm:wBB p0=some r):Gv Tryz.prog 102 [jV p0] w (wCX w [] U (fun U_ L_ v=>v=.bool r/\L_=[])):=by
 unfold wBB at hm
 refine Gv.of Tryz.func102 Z Tryz.ntmps102 Tryz.results102 Z (sR fL1 Z (oA Z Z (eN (sR (.fl 0 (.fx 1 (.fl 2 (.nil)) .stop)) Z (oM Z Z (bnK hm fun x1 h2 hm3=>zH 0 Z Z Z Z (zI Z Z Tryz.call86 (zC Z (zC Z (zC Z zM))) Z) hS (fun hs=>wCb p0 1 60 w U hs h2) (.inr Z) ?_))))))
 rintro U4 L5 v6 W7 le8 hS9 ⟨rfl,rfl⟩
 have hS10:sW w U U4 [] W7:=hS9
 refine oA Z Z (eN (zG ?_))
 have hE:=nB hm3;first | subst r | cases hE
 exact ⟨Z,_,(zd Z),U4,_,hS10,Z,Z⟩
theorem wIH (p0:List Int) (pA0:Option Addr) (pc0:Nat) (w:World) (U:PHeap) (hS:St0 w U []) (ha0:Sl U 1 pA0 pc0 p0.length (nA KL.encI p0)) {r:Int} (hm:wCJ p0=some r):Gv Tryz.prog 103 [.slice pA0 p0.length pc0] w (wCX w [] U (fun U_ L_ v=>v=jV r/\L_=[])):=by
 unfold wCJ at hm
 refine Gv.of Tryz.func103 Z Tryz.ntmps103 Tryz.results103 Z (sR fL1 Z (oA Z Z (eN (sR fL1 Z (oA Z Z (eN (zB (sR fL3 Z (oM Z Z (oR Z (zO Z Z zA) (oM Z Z (eN (zK (bnK hm fun y12 hf9 hm8=>?_))))))))))))))
 have q:=wBa hf9
 obtain ⟨hle10,hf11⟩:=q
 replace hle10:=zD hle10
 refine CK.forN' (fun k7 x6 σ_ w_=>∃ (U_:PHeap),σ_ 8=jV (↑k7:Int)/\σ_ 3=jV x6/\σ_ 6=.slice pA0 p0.length pc0/\σ_ 7=jV (↑p0.length:Int)/\PHeap.Le U U_/\sW w U U_ [] w_) hf11 ?_ ?_ ?_
 ·exact ⟨U,Z,Z,Z,Z,(zV _),hS⟩
 ·rintro k7 x6 xx15 σ13 W14 hk18 ⟨U20,fi19,f23,f24,f25,le21,hS22⟩ hx16
  have c26:Hid ((↑k7:Int) < (↑p0.length:Int)):=zD (wBT hk18)
  replace hk18:=zD hk18
  have hi27:Hid (w64 ((↑k7:Int) + 1)=(↑(k7 + 1):Int)):=zD (by have h1:=hle10.out;have h2:=c26.out;rw [wBC] <;> omega)
  refine sR fL1 Z (oR Z (zN Z fi19 f25) (eN (zB (cT Z c26 (kN (zB (zK (sR fL3 Z (bnK hx16 fun x28 h29 hm30=>?_)))))))))
  have h31:=ha0.le le21
  have q:=h31.el (fun _=>rfl) (wAV h29)
  obtain ⟨b32,off33,hA34,hC35⟩:=q
  refine oR Z (zf Z f24 hA34 fi19 zA zJ (wAv h29)) (oL Z (hS22.ldC (f:=0) hC35 (v:=jV x28) Z Z zR Z) (oA Z Z (eN (rR fL4 Z (oM Z f23 (oM Z Z (oR Z (zW Z Z Z) (oA Z Z (zn (zg (zF (rR fL2 Z (oR Z (zj (zW Z fi19 Z) (congrArg (jV) hi27.out)) (oM Z Z (zn ?_)))))))))))))))
  cases hm30
  exact zF ⟨Z,⟨U20,Z,Z,f24,f25,le21,hS22⟩⟩
 ·rintro σ37 W38 ⟨U42,fi40,f45,f46,f47,le43,hS44⟩
  have c48:Hid (¬ ((↑(((↑p0.length:Int):Int) - 0).toNat:Int) < (↑p0.length:Int))):=zD (wBA)
  refine sR fL1 Z (oR Z (zN Z fi40 f47) (eN (zB (cF Z c48 (zo (zQ (zQ (zl (zF (sR fL2 Z (oM Z f45 (oA Z Z (eN (zG ?_))))))))))))))
  have hE:=nB hm8;first | subst r | cases hE
  exact ⟨Z,_,(zd Z),U42,_,hS44,Z,Z⟩
theorem wCw (p0:List Int) (pA0:Option Addr) (pc0:Nat) (w:World) (U:PHeap) (hS:St0 w U []) (ha0:Sl U 1 pA0 pc0 p0.length (nA KL.encI p0)) {r:(List Int)} (hm:wAi p0=some r):Gv Tryz.prog 104 [.slice pA0 p0.length pc0] w (wCX w [] U (fun U_ L_ v=>∃ (A0:Option Addr) (c0:Nat),v=.slice A0 r.length c0/\L_=[.row A0 c0 3 1 (nA KL.encI r)])):=by
 unfold wAi at hm
 refine Gv.of Tryz.func104 Z Tryz.ntmps104 Tryz.results104 Z (sR fL1 Z (oA Z Z (eN (zB (sR fL2 Z (oM Z Z (oR Z (Runs.eqNil Z Z Z zA) (eN ?_))))))))
 by_cases c1:pA0.isNone=true
 ·replace c1:=zD c1
  have hp2:p0=[]:=List.eq_nil_of_length_eq_zero (Sl.nilA (Option.isNone_iff_eq_none.1 c1.out ▸ ha0))
  have hm3:(some [])=some r:=by simpa [hp2,app] using hm
  refine zY (congrArg nD c1.out) (sR fL1 Z (oA Z Z (eN (zG (zE ?_)))))
  have hS4:=hS.nilrow 3 1
  cases hm3
  exact ⟨Z,_,(zd Z),U,_,hS4,none,0,Z,Z⟩
 ·replace c1:=zD c1
  refine zU (congrArg nD (nE.2 c1.out)) (kN (sR (.fx 0 (.fl 1 (.fx 2 (.fl 3 (.nil)) .stop)) .stop) Z (OKS.buildSlice0 1 Z Z Z Z Z zA zJ hS ?_)))
  intro W6 b7 hS8
  have hS10:sW w U U [.row (some ⟨b7,0,none⟩) 0 3 1 (nA KL.encI ([]:List Int))] W6:=hS8
  refine oM Z Z (bnK hm fun x11 h12 hm13=>ZJ (j:=0) (enc:=KL.encI) (xs:=([]:List Int)) (ys:=p0) (zs:=x11) Z Z Z Z Z ZH wHI Z Z Z Z Z Z hS10 Z Z Z (hS10.srcS ha0) (fun _=>Z) (fun _=>Z) h12 Z ?_)
  intro A14 c15 W16 hS17
  have hS18:sW w U U [.row A14 c15 3 1 (nA KL.encI x11)] W16:=hS17
  refine oA Z Z (eN (zG ?_))
  have hE:=nB hm13;first | subst r | cases hE
  exact ⟨Z,_,(zd Z),U,_,hS18,A14,c15,Z,Z⟩
theorem wDQ (p0:List wAA) (pA0:Option Addr) (pc0:Nat) (p1:List Int) (pA1:Option Addr) (pc1:Nat) (w:World) (U:PHeap) (hS:St0 w U []) (ha0:Sl U 3 pA0 pc0 p0.length (nA wAC p0)) (ha1:Sl U 1 pA1 pc1 p1.length (nA KL.encI p1)) {r:(List (List Int)) × Int} (hm:wBF p0 p1=some r):Gv Tryz.prog 45 [.slice pA0 p0.length pc0,.slice pA1 p1.length pc1] w (wCX w [] U (fun U_ L_ v=>∃ (A0:Option Addr) (c0:Nat) (hs0:List Hd),v=.tuple #[.slice A0 r.1.length c0,jV r.2]/\L_=[.row A0 c0 31 1 (nA wEY hs0),inn 3 1 KL.encI hs0 r.1])):=by
 unfold wBF at hm
 refine Gv.of Tryz.func45 Z Tryz.ntmps45 Tryz.results45 Z (sR fL2 Z (oA Z Z (oA Z Z (eN (sR (.fl 0 (.fx 1 (.fl 2 (.nil)) .stop)) Z (oM Z Z (bnK hm fun x1 h2 hm3=>zH 0 Z Z Z Z (zI Z Z Tryz.call41 (zC Z zM) Z) hS (fun hs=>wCo p0 pA0 pc0 w U hs ha0 h2) (.inr Z) ?_)))))))
 rintro U4 L5 v6 W7 le8 hS9 ⟨rfl,rfl⟩
 have hS10:sW w U U4 [] W7:=hS9
 refine oA Z Z (eN (zB (zK (sR fL3 Z (oM Z Z (oR Z (zw Z Z Z) (oA Z Z (eN (ifc hm3 ?_ ?_)))))))))
 ·intro c11 hm12
  refine zU (zu (fun h=>h c11.out)) (sR (.fl 0 (.fl 1 (.fx 2 (.fl 3 (.fl 4 (.nil))) .stop))) Z (oM Z Z (oR Z (zO Z Z zA) (bnK hm12 fun x13 h14 hm15=>zH 0 Z Z Z Z (zI Z Z Tryz.call86 (zC Z (zC Z (zC Z zM))) Z) hS10 (fun hs=>wCb (↑p1.length:Int) 1 6 W7 U4 hs h14) (.inr Z) ?_))))
  rintro U16 L17 v18 W19 le20 hS21 ⟨rfl,rfl⟩
  have hS22:sW w U U16 [] W19:=hS21
  refine oR Z (ZI Z Z) (oA Z Z (eN (ifc hm15 ?_ ?_)))
  ·intro c23 hm24
   refine zU (nC c23.out) (sR (.fl 0 (.fx 1 (.fl 2 (.fl 3 (.nil))) .stop)) Z (oM Z Z ?_))
   have h25:=ha1.le le8
   have h26:=h25.le le20
   have hF27:FnOK Tryz.prog U16 (.func (.func 102) #[] #[]) wJb wJc wBB:=⟨102,[],[],rfl,Tryz.call102,fun U1 w1 x y vs le hs ha hm=>by obtain rfl:=ha;exact wEb x w1 U1 hs  hm⟩
   refine bnK hm24 fun x28 h29 hm30=>zH 0 Z Z Z Z (zI Z Z Tryz.call99 (zC Z (zC Z zM)) Z) hS22 (fun hs=>wBR p1 pA1 pc1 wBB (.func (.func 102) #[] #[]) W19 U16 hs h26 hF27 h29) (.inr Z) ?_
   rintro U31 L32 v33 W34 le35 hS36 ⟨rfl,rfl⟩
   have hS37:sW w U U31 [] W34:=hS36
   refine oR Z (ZI Z Z) (oA Z Z (eN (ifc hm30 ?_ ?_)))
   ·intro c38 hm39
    refine zU (nC c38.out) (sR (.fl 0 (.fx 1 (fC2_5 (.nil)) .stop)) Z (oM Z Z ?_))
    have h40:=h26.le le35
    refine bnK hm39 fun x41 h42 hm43=>zH 0 Z Z Z Z (zI Z Z Tryz.call103 (zC Z zM) Z) hS37 (fun hs=>wIH p1 pA1 pc1 W34 U31 hs h40 h42) (.inr Z) ?_
    rintro U44 L45 v46 W47 le48 hS49 ⟨rfl,rfl⟩
    have hS50:sW w U U44 [] W47:=hS49
    refine oM Z Z (oR Z (zO Z Z zS) (oR Z (zw Z Z Z) (oA Z Z (eN (ifc hm43 ?_ ?_)))))
    ·intro c51 hm52
     refine zU (zu (fun h=>h c51.out)) (ZE (zg (zF (sR (.fl 0 (.fx 1 (.fl 2 (.nil)) .stop)) Z (oM Z Z ?_)))))
     have h53:=ha0.le le8
     have h54:=h53.le le20
     have h55:=h54.le le35
     have h56:=h55.le le48
     refine bnK hm52 fun x57 h58 hm59=>zH 0 Z Z Z Z (zI Z Z Tryz.call89 (zC Z zM) Z) hS50 (fun hs=>wDP p0 pA0 pc0 W47 U44 hs h56 h58) (.inr Z) ?_
     rintro U60 L61 v62 W63 le64 hS65 ⟨A66,c67,rfl,rfl⟩
     have hS69:sW w U U60 [.row A66 c67 3 1 (nA KL.encI x57)] W63:=hS65
     refine oA Z Z (eN (sR fL1 Z (oA Z Z (eN (zB (sR fL3 Z (oM Z Z (oR Z (zO Z Z zA) (oM Z Z (eN (zK ?_)))))))))))
     have q:=hS69.freezeR (k:=0) (n:=x57.length) rfl (wAG (f:=KL.encI) (sz:=1) (fun _=>rfl) x57) (by decide)
     obtain ⟨U71,le72,hs73,hS74⟩:=q
     have hS75:sW w U U71 [] W63:=hS74
     have q:=bnd hm59
     obtain ⟨⟨y116,y117⟩,hf113,hm112⟩:=q
     try dsimp only at hm112
     have q:=wBa hf113
     obtain ⟨hle114,hf115⟩:=q
     replace hle114:=zD hle114
     refine CK.forN' (fun k111 (l102,l105) σ_ w_=>∃ (U_:PHeap) (A103:Option Addr) (c104:Nat) (A106:Option Addr) (c107:Nat) (hs110:List Hd),σ_ 36=jV (↑k111:Int)/\σ_ 7=.slice A103 l102.length c104/\σ_ 8=.slice A106 l105.length c107/\σ_ 34=.slice pA1 p1.length pc1/\σ_ 35=jV (↑p1.length:Int)/\PHeap.Le U71 U_/\sW w U U_ [.row A106 c107 31 1 (nA wEY hs110),inn 3 1 KL.encI hs110 l105] w_/\Sl U_ 1 A103 c104 l102.length (nA KL.encI l102)) hf115 ?_ ?_ ?_
     ·have hS118:=hS75.nilrow 31 1
      have hS120:=hS118.innNil 3 1 KL.encI
      have hS122:sW w U U71 [inn 3 1 KL.encI ([]:List Hd) ([]:List (List Int)),.row none 0 31 1 []] W63:=hS120
      exact ⟨U71,A66,c67,none,0,[],rfl,rfl,rfl,rfl,rfl,(zV _),(hS122.pick [1,0] _ (by decide) rfl),hs73⟩
     ·rintro k111 ⟨l102,l105⟩ xx125 σ123 W124 hk128 ⟨U130,A103,c104,A106,c107,hs110,fi129,f133,f134,f135,f136,le131,hS132,h137⟩ hx126
      try dsimp only at hx126
      have c138:Hid ((↑k111:Int) < (↑p1.length:Int)):=zD (wBT hk128)
      replace hk128:=zD hk128
      have hi139:Hid (w64 ((↑k111:Int) + 1)=(↑(k111 + 1):Int)):=zD (by have h1:=hle114.out;have h2:=c138.out;rw [wBC] <;> omega)
      refine sR fL1 Z (oR Z (zN Z fi129 f136) (eN (zB (cT Z c138 (kN (zB (zK (sR fL3 Z (bnK hx126 fun x140 h141 hm142=>?_)))))))))
      have h143:=h40.le le48
      have h144:=h143.le le64
      have h145:=h144.le le72
      have h146:=h145.le le131
      have q:=h146.el (fun _=>rfl) (wAV h141)
      obtain ⟨b147,off148,hA149,hC150⟩:=q
      refine zt rfl rfl rfl rfl (fun _=>zf rfl f135 hA149 fi129 zA zJ (wAv h141)) (OKS.m rfl rfl rfl rfl (hS132.ldC (f:=0) hC150 (v:=jV x140) rfl rfl zR rfl) rfl (OKS.ra rfl rfl rfl rfl rfl rfl (eN (CK.anyOrd ZK [3,3,3,3,2,2,0,3,3,3,3,3] (wIS (fC7_9 (.fx 4 (.fx 5 (.fx 6 (.fl 10 (.fl 11 (.nil))) .stop) .stop) .stop))) (by kernel_rfl) ?_))))
      have hS151:=hS132.drew
      generalize hw_W152:({ W124 with drawn:=W124.drawn + 1 }:World)=W152 at hS151 ⊢
      refine oM Z f134 (oM Z f133 (oM Z Z (bnK hm142 fun x153 h154 hm155=>?_)))
      have q:=Sl.cutM (sz:=1) (f:=KL.encI) h137 (fun _=>rfl) h154
      obtain ⟨sl164,ha161,hab163,hb162,hn160⟩:=q
      refine zt (v:=.slice (if c104=(0:Int).toNat then A103 else nQ (·.add ((0:Int).toNat * 1)) A103) x153.length (c104 - (0:Int).toNat)) rfl rfl rfl rfl (fun _=>zj (Runs.slc (sz:=1) (a:=0) (b:=x140) rfl rfl (.inr ⟨rfl,rfl⟩) (.inl ⟨_,rfl,rfl⟩) zA zJ ha161 hab163 hb162 (h137).cap) (by rw [hn160])) ?_
      generalize hA_A157:(if c104=(0:Int).toNat then A103 else nQ (·.add ((0:Int).toNat * 1)) A103)=A157 at sl164 ⊢
      generalize hc_c158:c104 - (0:Int).toNat=c158 at sl164 ⊢
      refine oM Z f133 (oM Z Z (bnK hm155 fun x165 h166 hm167=>?_))
      have q:=Sl.cutM (sz:=1) (f:=KL.encI) h137 (fun _=>rfl) h166
      obtain ⟨sl176,ha173,hab175,hb174,hn172⟩:=q
      refine zt (v:=.slice (if c104=(x140:Int).toNat then A103 else nQ (·.add ((x140:Int).toNat * 1)) A103) x165.length (c104 - (x140:Int).toNat)) rfl rfl rfl rfl (fun _=>zj (Runs.slc (sz:=1) (a:=x140) (b:=(↑(l102.length):Int)) rfl rfl (.inl ⟨_,rfl,rfl⟩) (.inr ⟨rfl,rfl⟩) zA zJ ha173 hab175 hb174 (h137).cap) (by rw [hn172])) ?_
      generalize hA_A169:(if c104=(x140:Int).toNat then A103 else nQ (·.add ((x140:Int).toNat * 1)) A103)=A169 at sl176 ⊢
      generalize hc_c170:c104 - (x140:Int).toNat=c170 at sl176 ⊢
      refine bnK hm167 fun x177 h178 hm179=>zH 0 Z Z Z Z (zI Z Z Tryz.call104 (zC Z zM) Z) hS151 (fun hs=>wCw x153 A157 c158 W152 U130 hs sl164 h178) (.inr Z) ?_
      rintro U180 L181 v182 W183 le184 hS185 ⟨A186,c187,rfl,rfl⟩
      let B0:Res:=.row A106 c107 31 1 (nA wEY hs110)
      let B1:Res:=.row A186 c187 3 1 (nA KL.encI x177)
      have hS189:sW w U U180 [B1,B0,inn 3 1 KL.encI hs110 l105] W183:=hS185
      let B2:List Value:=[.slice A186 x177.length c187]
      refine OKS.buildSlice (pv:=[(0,.slice A186 x177.length c187)]) (zs:=[.slice none 0 0]) (cs:=B2) Z Z Z Z Z (wAz Z wCS) ze ZG Tryz.zeroValue31 Z Z Z Z Z hS189 ?_
      intro W193 b194 hS195
      let B3:Res:=.row (some ⟨b194,0,none⟩) 1 31 1 B2
      have hS197:sW w U U180 [B3,B1,B0,inn 3 1 KL.encI hs110 l105] W193:=hS195
      have hS198:sW w U U180 [B1,B3,B0,inn 3 1 KL.encI hs110 l105] W193:=hS197.pick [1,0,2,3] _ (by decide) rfl
      have hS199:=hS198.innOne
      let B4:Res:=.row (some ⟨b194,0,none⟩) 1 31 1 (nA wEY [(⟨A186,x177.length,c187⟩:Hd)])
      have hS201:sW w U U180 [inn 3 1 KL.encI [(⟨A186,x177.length,c187⟩:Hd)] [x177],B4,B0,inn 3 1 KL.encI hs110 l105] W193:=hS199
      refine bnK hm179 fun x202 h203 hm204=>?_
      have hf205:=hS201.innFit (j:=3) rfl
      have hf206:=hS201.innFit (j:=0) rfl
      have q:=wOx h203 hf205 hf206
      obtain ⟨ha207,hz208⟩:=q
      refine ZJ (j:=2) (enc:=wEY) (xs:=hs110) (ys:=[(⟨A186,x177.length,c187⟩:Hd)]) rfl rfl rfl rfl rfl Tryz.underlying71 wNN rfl rfl rfl rfl rfl rfl hS201 rfl (slen rfl hf205) (slen rfl hf206) (hS201.srcR (j:=1) rfl (by decide) (wAG (f:=wEY) (sz:=1) (fun _=>rfl) [(⟨A186,x177.length,c187⟩:Hd)])) (fun _=>rfl) (fun _=>rfl) ha207 rfl ?_
      intro A209 c210 W211 hS212
      have hl213:(hs110 ++ [(⟨A186,x177.length,c187⟩:Hd)]:List Hd).length=x202.length:=by rw [hz208,nR,nR,hf205.len,hf206.len]
      rw [hl213]
      let B5:Res:=.row A209 c210 31 1 (nA wEY (hs110 ++ [(⟨A186,x177.length,c187⟩:Hd)]:List Hd))
      have hS215:sW w U U180 [inn 3 1 KL.encI [(⟨A186,x177.length,c187⟩:Hd)] [x177],B4,B5,inn 3 1 KL.encI hs110 l105] W211:=hS212
      have hS216:sW w U U180 [inn 3 1 KL.encI hs110 l105,inn 3 1 KL.encI [(⟨A186,x177.length,c187⟩:Hd)] [x177],B4,B5] W211:=hS215.pick [3,0,1,2] _ (by decide) rfl
      have hS214:=hS216.innApp
      rw [<- hz208] at hS214
      have hS217:sW w U U180 [inn 3 1 KL.encI (hs110 ++ [(⟨A186,x177.length,c187⟩:Hd)]:List Hd) x202,B4,B5] W211:=hS214
      have hS218:=hS217.drop 1
      have hS219:sW w U U180 [inn 3 1 KL.encI (hs110 ++ [(⟨A186,x177.length,c187⟩:Hd)]:List Hd) x202,B5] W211:=hS218
      refine oA Z Z (oA Z Z (zn (zg (zF (rR fL2 Z (oR Z (zj (zW Z fi129 Z) (congrArg (jV) hi139.out)) (oM Z Z (zn ?_))))))))
      cases hm204
      have h227:=sl176.le le184
      exact zF ⟨rfl,⟨U180,A169,c170,A209,c210,(hs110 ++ [(⟨A186,x177.length,c187⟩:Hd)]:List Hd),rfl,rfl,rfl,f135,f136,(le131.trans le184),(hS219.pick [1,0] _ (by decide) rfl),h227⟩⟩
     ·rintro σ228 W229 ⟨U244,A239,c240,A241,c242,h243,fi231,f247,f248,f249,f250,le245,hS246,h251⟩
      have c252:Hid (¬ ((↑(((↑p1.length:Int):Int) - 0).toNat:Int) < (↑p1.length:Int))):=zD (wBA)
      refine sR fL1 Z (oR Z (zN Z fi231 f250) (eN (zB (cF Z c252 (zo (zQ (zQ (zl (zF (sR fL3 Z (oM Z f248 (oA Z Z (oA Z Z (eN (zG ?_)))))))))))))))
      cases hm112
      exact ⟨Z,_,(wEW Z Z),U244,_,hS246,A241,c242,h243,Z,Z⟩
    ·intro c51 hm253
     refine cT Z c51 (sR fL2 Z (oA Z Z (oA Z Z (eN (zG (zP (zE ?_)))))))
     have hS254:=hS50.nilrow 31 1
     have hS256:=hS254.innNil 3 1 KL.encI
     have hS258:sW w U U44 [inn 3 1 KL.encI ([]:List Hd) ([]:List (List Int)),.row none 0 31 1 []] W47:=hS256
     cases hm253
     exact ⟨rfl,_,(wEW rfl rfl),U44,_,(hS258.pick [1,0] _ (by decide) rfl),none,0,([]:List Hd),rfl,rfl⟩
   ·intro c38 hm259
    refine zY (nF (c38.out)) (sR fL2 Z (oA Z Z (oA Z Z (eN (zG (zP (zE ?_)))))))
    have hS260:=hS37.nilrow 31 1
    have hS262:=hS260.innNil 3 1 KL.encI
    have hS264:sW w U U31 [inn 3 1 KL.encI ([]:List Hd) ([]:List (List Int)),.row none 0 31 1 []] W34:=hS262
    cases hm259
    exact ⟨rfl,_,(wEW rfl rfl),U31,_,(hS264.pick [1,0] _ (by decide) rfl),none,0,([]:List Hd),rfl,rfl⟩
  ·intro c23 hm265
   refine zY (nF (c23.out)) (sR fL2 Z (oA Z Z (oA Z Z (eN (zG (zP (zE ?_)))))))
   have hS266:=hS22.nilrow 31 1
   have hS268:=hS266.innNil 3 1 KL.encI
   have hS270:sW w U U16 [inn 3 1 KL.encI ([]:List Hd) ([]:List (List Int)),.row none 0 31 1 []] W19:=hS268
   cases hm265
   exact ⟨rfl,_,(wEW rfl rfl),U16,_,(hS270.pick [1,0] _ (by decide) rfl),none,0,([]:List Hd),rfl,rfl⟩
 ·intro c11 hm271
  refine cT Z c11 (sR fL3 Z (oM Z Z (oA Z Z (oA Z Z (eN (zG (zP (zE ?_))))))))
  have hS272:=hS10.nilrow 31 1
  have hS274:=hS272.innNil 3 1 KL.encI
  have hS276:sW w U U4 [inn 3 1 KL.encI ([]:List Hd) ([]:List (List Int)),.row none 0 31 1 []] W7:=hS274
  cases hm271
  exact ⟨rfl,_,(wEW rfl rfl),U4,_,(hS276.pick [1,0] _ (by decide) rfl),none,0,([]:List Hd),rfl,rfl⟩
theorem wBv (p0:List wAE) (pA0:Option Addr) (pc0:Nat) (p1:List Int) (pA1:Option Addr) (pc1:Nat) (w:World) (U:PHeap) (hS:St0 w U []) (ha0:Sl U 3 pA0 pc0 p0.length (nA wAF p0)) (ha1:Sl U 1 pA1 pc1 p1.length (nA KL.encI p1)) {r:(List (List Int)) × Int} (hm:wAe p0 p1=some r):Gv Tryz.prog 46 [.slice pA0 p0.length pc0,.slice pA1 p1.length pc1] w (wCX w [] U (fun U_ L_ v=>∃ (A0:Option Addr) (c0:Nat) (cs0:List Value),v=.tuple #[.slice A0 r.1.length c0,jV r.2]/\L_=[.row A0 c0 31 1 cs0]/\RlL U_ wMH r.1 cs0)):=by
 unfold wAe at hm
 refine Gv.of Tryz.func46 Z Tryz.ntmps46 Tryz.results46 Z (sR fL2 Z (oA Z Z (oA Z Z (eN (sR (.fl 0 (.fx 1 (wOf (.nil)) .stop)) Z (oM Z Z ?_))))))
 have q:=bnd hm
 obtain ⟨⟨x1,x2⟩,h3,hm4⟩:=q
 try dsimp only at hm4
 refine zH 0 Z Z Z Z (zI Z Z Tryz.call44 (zC Z zM) Z) hS (fun hs=>wBu p0 pA0 pc0 w U hs ha0 h3) (.inr Z) ?_
 rintro U5 L6 v7 W8 le9 hS10 ⟨A11,c12,rfl,rfl⟩
 let B0:Res:=.row A11 c12 3 1 (nA KL.encI x1)
 have hS14:sW w U U5 [B0] W8:=hS10
 refine oM Z Z (oR Z (zx Z Z (v:=.slice A11 x1.length c12) Z) (oR Z (zx Z Z (v:=jV x2) Z) (oA Z Z (oA Z Z (eN (zB (sR fL2 Z (oM Z Z (oR Z (zw Z Z Z) (eN (ifc hm4 ?_ ?_)))))))))))
 ·intro c15 hm16
  refine zU (zu (fun h=>h c15.out)) (kN (zB (sR fL8 Z (oM Z Z (oR Z (zO Z Z zA) (oR Z (Runs.eql Z Z Z) (oM Z Z (ifc hm16 ?_ ?_))))))))
  ·intro c17 hm18
   refine oT Z c17 (oT Z c17 (oT Z c17 (oR Z (zr Z (wFs c17.out) Z) (eN (zY Z (sR fL2 Z (oA Z Z (oA Z Z (eN (zG (zE ?_)))))))))))
   have hS19:=hS14.nilrow 31 1
   cases hm18
   exact ⟨rfl,_,(wEW rfl rfl),U5,_,(hS19.pick [0] _ (by decide) rfl),none,0,[],rfl,rfl,RlL.nil⟩
  ·intro c17 hm21
   refine zZ Z Z Z (wF Z c17) Z Z (rU Z (wF Z c17) (zO Z Z zA) (rU Z (wF Z c17) (Runs.gtr Z Z Z) (oR Z (zh Z (zu c17.out) Z) (eN (ifc hm21 ?_ ?_)))))
   ·intro c22 hm23
    refine cT Z c22 (sR fL2 Z (oA Z Z (oA Z Z (eN (zG (zE ?_))))))
    have hS24:=hS14.nilrow 31 1
    cases hm23
    exact ⟨rfl,_,(wEW rfl rfl),U5,_,(hS24.pick [0] _ (by decide) rfl),none,0,[],rfl,rfl,RlL.nil⟩
   ·intro c22 hm26
    refine cF Z c22 (kN (sR fL1 Z (oA Z Z (eN (zB (sR fL1 Z (oA Z Z (eN (zK ?_)))))))))
    have q:=wCA hm26
    obtain ⟨r34,hX35⟩:=q
    have q:=wBz hX35
    obtain ⟨hle36,hf37⟩:=q
    replace hle36:=zD hle36
    refine CK.forN (fun k33 x32 σ_ w_=>∃ (U_:PHeap),σ_ 9=jV (↑k33:Int)/\σ_ 0=.slice pA0 p0.length pc0/\σ_ 1=.slice pA1 p1.length pc1/\σ_ 6=.slice A11 x1.length c12/\σ_ 8=jV x32/\PHeap.Le U5 U_/\sW w U U_ [B0] w_) hf37 ?_ ?_ ?_
    ·exact ⟨U5,Z,Z,Z,Z,Z,(zV _),hS14⟩
    ·rintro k33 x32 xx40 σ38 W39 hk43 ⟨U45,fi44,f48,f49,f50,f51,le46,hS47⟩ hx41 hb42
     have c52:Hid ((↑k33:Int) < (↑p1.length:Int)):=zD (wBT hk43)
     replace hk43:=zD hk43
     have hi53:Hid (w64 ((↑k33:Int) + 1)=(↑(k33 + 1):Int)):=zD (by have h1:=hle36.out;have h2:=c52.out;rw [wBC] <;> omega)
     refine zB (sR fL4 Z (oM Z fi44 (oM Z f49 (oR Z (zO Z Z zA) (oR Z (zN Z Z Z) (eN (cT Z c52 (kN (zB (zK (zB (sR (wIS (.fx 4 (.nil) .stop)) Z (oM Z f49 (oM Z fi44 (bnK hx41 fun x54 h55 hm56=>?_)))))))))))))))
     have h57:=ha1.le le9
     have h58:=h57.le le46
     have q:=h58.el (fun _=>rfl) (wAV h55)
     obtain ⟨b59,off60,hA61,hC62⟩:=q
     refine oR Z (zf Z Z hA61 Z zA zJ (wAv h55)) (oL Z (hS47.ldC (f:=0) hC62 (v:=jV x54) Z Z zR Z) (bnK hm56 fun x63 h64 hm65=>zH 0 Z Z Z Z (zI Z Z Tryz.call77 (zC Z (zC Z (zC Z zM))) Z) hS47 (fun hs=>wBD x54 1 60 W39 U45 hs h64) (.inr Z) ?_))
     rintro U66 L67 v68 W69 le70 hS71 ⟨rfl,rfl⟩
     have hS72:sW w U U66 [B0] W69:=hS71
     refine eN (ifc hm65 ?_ ?_)
     ·intro c73 hm74
      refine zY (congrArg nD c73.out) (sR fL2 Z (oA Z Z (oA Z Z (eN (zG (zE (zP (zE ?_))))))))
      have q:=wAy hm74
      obtain ⟨v75,hm76,e77⟩:=q
      obtain rfl:=wCD hm26 hX35 (hb42 v75 e77)
      refine zE (zP (zE ?_))
      have hS78:=hS72.nilrow 31 1
      cases hm76
      exact ⟨rfl,_,(wEW rfl rfl),U66,_,(hS78.pick [0] _ (by decide) rfl),none,0,[],rfl,rfl,RlL.nil⟩
     ·intro c73 hm80
      refine zU (congrArg nD (nE.2 c73.out)) (kN (rR fL7 Z (oM Z f51 (oM Z f49 (oM Z fi44 ?_)))))
      have h81:=h58.le le70
      have q:=h81.el (fun _=>rfl) (wAV h55)
      obtain ⟨b82,off83,hA84,hC85⟩:=q
      refine oR Z (zf Z Z hA84 Z zA zJ (wAv h55)) (oL Z (hS72.ldC (f:=0) hC85 (v:=jV x54) Z Z zR Z) (oR Z (zW Z Z Z) (oA Z Z (zn (zg (zF (rR fL3 Z (oM Z fi44 (oR Z (zj (zW Z Z Z) (congrArg (jV) hi53.out)) (oA Z Z (zn ?_)))))))))))
      obtain rfl:=nB hm80
      exact zF ⟨Z,_,Z,⟨U66,Z,f48,f49,f50,Z,(le46.trans le70),hS72⟩⟩
    ·rintro y91 σ87 W88 ⟨U92,fi90,f95,f96,f97,f98,le93,hS94⟩ hb89
     have hm99:=wCs hm26 hX35 hb89
     have c100:Hid (¬ ((↑(((↑p1.length:Int):Int) - 0).toNat:Int) < (↑p1.length:Int))):=zD (wBA)
     refine zB (sR fL4 Z (oM Z fi90 (oM Z f96 (oR Z (zO Z Z zA) (oR Z (zN Z Z Z) (eN (cF Z c100 (zo (zQ (zQ (zl (zF (zB (sR fL4 Z (oM Z f98 (oM Z f95 (oR Z (zO Z Z zL) (oR Z (zw Z Z Z) (eN (ifc hm99 ?_ ?_))))))))))))))))))))
     ·intro c101 hm102
      refine zU (zu (fun h=>h c101.out)) (kN (sR fL1 Z (oA Z Z (eN (sR fL1 Z (oA Z Z (eN (zB (sR fL1 Z (oA Z Z (eN (zK ?_))))))))))))
      have q:=bnd hm102
      obtain ⟨⟨y133,y134⟩,hf130,hm129⟩:=q
      try dsimp only at hm129
      have q:=wBa hf130
      obtain ⟨hle131,hf132⟩:=q
      replace hle131:=zD hle131
      refine CK.forN' (fun k128 (l122,x127) σ_ w_=>∃ (U_:PHeap) (A123:Option Addr) (c124:Nat) (cs126:List Value),σ_ 12=jV (↑k128:Int)/\σ_ 1=.slice pA1 p1.length pc1/\σ_ 6=.slice A11 x1.length c12/\σ_ 10=.slice A123 l122.length c124/\σ_ 11=jV x127/\PHeap.Le U92 U_/\sW w U U_ [.row A11 c12 3 1 (nA KL.encI x1),.row A123 c124 31 1 cs126] w_/\RlL U_ wMH l122 cs126) hf132 ?_ ?_ ?_
      ·have hS135:=hS94.nilrow 31 1
       exact ⟨U92,none,0,[],rfl,f96,f97,rfl,rfl,(zV _),(hS135.pick [1,0] _ (by decide) rfl),RlL.nil⟩
      ·rintro k128 ⟨l122,x127⟩ xx139 σ137 W138 hk142 ⟨U144,A123,c124,cs126,fi143,f147,f148,f149,f150,le145,hS146,h151⟩ hx140
       try dsimp only at hx140
       have c152:Hid ((↑k128:Int) < (↑p1.length:Int)):=zD (wBT hk142)
       replace hk142:=zD hk142
       have hi153:Hid (w64 ((↑k128:Int) + 1)=(↑(k128 + 1):Int)):=zD (by have h1:=hle131.out;have h2:=c152.out;rw [wBC] <;> omega)
       refine zB (sR fL4 Z (oM Z fi143 (oM Z f147 (oR Z (zO Z Z zA) (oR Z (zN Z Z Z) (eN (cT Z c152 (kN (zB (zK (sR fL1 Z (oA Z Z (eN (zB (sR fL1 Z (oA Z Z (eN (zK ?_))))))))))))))))))
       let B1:Res:=.row A123 c124 31 1 cs126
       refine CK.iter (fun (x171,l172,x176) σ_ w_=>∃ (U_:PHeap) (A173:Option Addr) (c174:Nat),σ_ 1=.slice pA1 p1.length pc1/\σ_ 6=.slice A11 x1.length c12/\σ_ 10=.slice A123 l122.length c124/\σ_ 11=jV x171/\σ_ 12=jV (↑k128:Int)/\σ_ 13=.slice A173 l172.length c174/\σ_ 14=jV x176/\PHeap.Le U144 U_/\sW w U U_ [B0,B1,.row A173 c174 3 1 (nA KL.encI l172)] w_) hx140 ?_ ?_
       ·have hS177:=hS146.nilrow 3 1
        exact ⟨U144,none,0,f147,f148,f149,f150,fi143,rfl,rfl,(zV _),(hS177.pick [1,2,0] _ (by decide) rfl)⟩
       ·rintro ⟨x171,l172,x176⟩ xx181 σ179 W180 ⟨U186,A173,c174,f189,f190,f191,f192,f193,f194,f195,le187,hS188⟩ hx182 hb183
        try dsimp only at hx182
        refine zB (sR fL6 Z (oM Z f195 (oM Z f189 (oM Z f193 (bnK hx182 fun x196 h197 hm198=>?_)))))
        have h199:=ha1.le le9
        have h200:=h199.le le93
        have h201:=h200.le le145
        have h202:=h201.le le187
        have q:=h202.el (fun _=>rfl) (wAV h197)
        obtain ⟨b203,off204,hA205,hC206⟩:=q
        refine oR Z (zf Z Z hA205 Z zA zJ (wAv h197)) (oL Z (hS188.ldC (f:=0) hC206 (v:=jV x196) Z Z zR Z) (oR Z (zN Z Z Z) (eN (ifc hm198 ?_ ?_))))
        ·intro c207 hm208
         refine cT Z c207 (kN (zB (zK (sR (wOc (.fx 5 (.fx 6 (.fl 7 (.nil)) .stop) .stop)) Z (oM Z f194 (oM Z f190 (oM Z f192 (bnK hm208 fun _ h209 hm210=>?_))))))))
         obtain ⟨b211,hA212⟩:=hS188.rowSome (j:=0) rfl (by rw [wAG (f:=KL.encI) (sz:=1) (fun _=>rfl) x1];have hz:=wCr h209;omega)
         refine oR Z (Runs.iaI Z Z hA212 Z zA zJ (wJw h209) (wJx h209)) ?_
         have hg213:=wBe (xs:=x1) (wCr h209)
         refine OKS.m rfl rfl rfl rfl (hS188.ldR (j:=0) rfl hA212 rfl rfl zR (wEM (sz:=1) (fun _=>rfl) _ _ 0 _ hg213 (by first | omega | rfl | simp) rfl)) rfl (OKS.buildSlice (pv:=[(0,jV (gd x1 x171.toNat))]) (zs:=[jV 0]) (cs:=[jV (gd x1 x171.toNat)]) rfl rfl rfl rfl rfl (wAz rfl wCS) zA zJ Tryz.zeroValue3 rfl rfl rfl rfl rfl hS188 ?_)
         intro W214 b215 hS216
         let B2:Res:=.row (some ⟨b215,0,none⟩) 1 3 1 (nA KL.encI [(gd x1 x171.toNat)])
         have hS218:sW w U U186 [B2,B0,B1,.row A173 c174 3 1 (nA KL.encI l172)] W214:=hS216
         refine bnK hm210 fun x219 h220 hm221=>ZJ (j:=3) (enc:=KL.encI) (xs:=l172) (ys:=[(gd x1 x171.toNat)]) (zs:=x219) rfl rfl rfl rfl rfl ZH wHI rfl rfl rfl rfl rfl rfl hS218 rfl rfl rfl (hS218.srcR (j:=0) rfl (by decide) (wAG (f:=KL.encI) (sz:=1) (fun _=>rfl) [(gd x1 x171.toNat)])) (fun _=>rfl) (fun _=>rfl) h220 rfl ?_
         intro A222 c223 W224 hS225
         have hS226:sW w U U186 [B2,B0,B1,.row A222 c223 3 1 (nA KL.encI x219)] W224:=hS225
         refine oA Z Z (eN (rR fL3 Z (oM Z f192 (oR Z (zW Z Z Z) (oA Z Z (zn (zg (zF (rR fL3 Z (oM Z f195 (oR Z (zW Z Z Z) (oA Z Z (zn ?_)))))))))))))
         obtain rfl:=nB hm221
         exact zF ⟨rfl,_,rfl,⟨U186,A222,c223,f189,f190,f191,rfl,f193,rfl,rfl,le187,(hS226.pick [1,2,3] _ (by decide) rfl)⟩⟩
        ·intro c207 hm232
         refine cF Z c207 (zo (zQ ?_))
         have q:=wAy hm232
         obtain ⟨v233,hm234,e235⟩:=q
         obtain rfl:=hb183 v233 e235
         refine zQ (zl (zF (rR (.fl 0 (.fl 1 (.fx 2 (.fx 3 (.fl 4 (.nil)) .stop) .stop))) Z (oM Z f191 (oM Z f194 ?_)))))
         have q:=hS188.freezeR (k:=2) (n:=l172.length) rfl (wAG (f:=KL.encI) (sz:=1) (fun _=>rfl) l172) (by decide)
         obtain ⟨U239,le240,hs241,hS242⟩:=q
         have hS243:sW w U U239 [B0,B1] W180:=hS242
         let B3:List Value:=[.slice A173 l172.length c174]
         refine OKS.buildSlice (pv:=[(0,.slice A173 l172.length c174)]) (zs:=[.slice none 0 0]) (cs:=B3) Z Z Z Z Z (wAz Z wCS) ze ZG Tryz.zeroValue31 Z Z Z Z Z hS243 ?_
         intro W236 b237 hS238
         have hr245:RlL U239 wMH [l172] B3:=(RlL.cons (R:=wMH) (x:=l172) (vs:=B3) ⟨A173,c174,rfl,hs241⟩ RlL.nil)
         let B4:Res:=.row (some ⟨b237,0,none⟩) 1 31 1 B3
         have hS246:sW w U U239 [B4,B0,B1] W236:=hS238
         refine bnK hm234 fun x247 h248 hm249=>?_
         have h256:=h151.le le187
         have h257:=h256.le le240
         refine OKS.appendR (R:=wMH) (j:=2) (xs:=l122) (ys:=[l172]) (zs:=x247) rfl rfl rfl rfl rfl Tryz.underlying71 wNN rfl rfl rfl rfl rfl rfl rfl hS246 rfl rfl rfl h257 hr245 (hS246.srcR (j:=0) rfl (by decide) (RlL.len hr245)) h248 rfl ?_
         intro A250 c251 cs252 W253 hS254 hr255
         have hS258:sW w U U239 [B4,B0,.row A250 c251 31 1 cs252] W253:=hS254
         refine oA Z Z (zn (zg (zF (rR fL3 Z (oM Z f193 (oR Z (zj (zW Z Z Z) (congrArg (jV) hi153.out)) (oA Z Z (zn ?_))))))))
         cases hm249
         exact zF ⟨rfl,⟨U239,A250,c251,cs252,rfl,f189,f190,rfl,f192,((le145.trans le187).trans le240),(hS258.pick [1,2] _ (by decide) rfl),hr255⟩⟩
      ·rintro σ264 W265 ⟨U276,A273,c274,c275,fi267,f279,f280,f281,f282,le277,hS278,h283⟩
       have c284:Hid (¬ ((↑(((↑p1.length:Int):Int) - 0).toNat:Int) < (↑p1.length:Int))):=zD (wBA)
       refine zB (sR fL4 Z (oM Z fi267 (oM Z f279 (oR Z (zO Z Z zA) (oR Z (zN Z Z Z) (eN (cF Z c284 (zo (zQ (zQ (zl (zF (sR fL3 Z (oM Z f281 (oA Z Z (oA Z Z (eN (zG ?_))))))))))))))))))
       cases hm129
       exact ⟨rfl,_,(wEW rfl rfl),U276,_,(hS278.pick [1] _ (by decide) rfl),A273,c274,c275,rfl,rfl,h283⟩
     ·intro c101 hm285
      refine cT Z c101 (sR fL2 Z (oA Z Z (oA Z Z (eN (zG (zE ?_))))))
      have hS286:=hS94.nilrow 31 1
      cases hm285
      exact ⟨rfl,_,(wEW rfl rfl),U92,_,(hS286.pick [0] _ (by decide) rfl),none,0,[],rfl,rfl,RlL.nil⟩
 ·intro c15 hm288
  refine cT Z c15 (sR fL3 Z (oM Z Z (oA Z Z (oA Z Z (eN (zG (zE ?_)))))))
  have hS289:=hS14.nilrow 31 1
  cases hm288
  exact ⟨rfl,_,(wEW rfl rfl),U5,_,(hS289.pick [0] _ (by decide) rfl),none,0,[],rfl,rfl,RlL.nil⟩
theorem wCV (p0:List (List Int)) (pA0:Option Addr) (pc0:Nat) (p1:List (List Int)) (pA1:Option Addr) (pc1:Nat) (w:World) (U:PHeap) (hS:St0 w U []) (ha0:SlR U wMH pA0 pc0 p0) (ha1:SlR U wMH pA1 pc1 p1) {r:Bool} (hm:wAd p0 p1=some r):Gv Tryz.prog 47 [.slice pA0 p0.length pc0,.slice pA1 p1.length pc1] w (wCX w [] U (fun U_ L_ v=>v=.bool r/\L_=[])):=by
 unfold wAd at hm
 refine Gv.of Tryz.func47 Z Tryz.ntmps47 Tryz.results47 Z (sR fL1 Z (oA Z Z (eN (zB (sR fL5 Z (oM Z Z (oR Z (zO Z Z ze) (oM Z Z (oR Z (zO Z Z ze) (oR Z (zw Z Z Z) (eN ?_)))))))))))
 by_cases c1:(↑p0.length:Int)=(↑p1.length:Int)
 ·have hm2:=hm;rw [if_pos c1] at hm2;replace c1:=zD c1
  refine zU (zu (fun h=>h c1.out)) (kN (zB (sR fL3 Z (oM Z Z (oR Z (zO Z Z ze) (oM Z Z (eN (zK ?_))))))))
  have q:=wCA hm2
  obtain ⟨r5,hX6⟩:=q
  have q:=wBz hX6
  obtain ⟨hle7,hf8⟩:=q
  replace hle7:=zD hle7
  refine CK.forN (fun k4 _ σ_ w_=>∃ (U_:PHeap),σ_ 13=jV (↑k4:Int)/\σ_ 0=.slice pA0 p0.length pc0/\σ_ 1=.slice pA1 p1.length pc1/\σ_ 12=jV (↑p0.length:Int)/\PHeap.Le U U_/\sW w U U_ [] w_) hf8 ?_ ?_ ?_
  ·exact ⟨U,Z,Z,Z,Z,(zV _),hS⟩
  ·rintro k4 ⟨⟩ xx11 σ9 W10 hk14 ⟨U16,fi15,f19,f20,f21,le17,hS18⟩ hx12 hb13
   try dsimp only at hx12
   have c22:Hid ((↑k4:Int) < (↑p0.length:Int)):=zD (wBT hk14)
   replace hk14:=zD hk14
   have hi23:Hid (w64 ((↑k4:Int) + 1)=(↑(k4 + 1):Int)):=zD (by have h1:=hle7.out;have h2:=c22.out;rw [wBC] <;> omega)
   refine sR fL1 rfl (zt rfl rfl rfl rfl (fun _=>zN rfl fi15 f21) (eN (zB (cT Z c22 (kN (zB (zK (sR fL2 rfl (zZ rfl rfl rfl rfl rfl fi15 (OKS.ra rfl rfl rfl rfl rfl rfl (eN (zB (CK.anyOrd ZK [3,3,3,1,3,3,3,1,2,3] (wOe (.fx 8 (.fl 9 (.nil)) .stop)) (by kernel_rfl) ?_)))))))))))))
   have hS24:=hS18.drew
   generalize hw_W25:({ W10 with drawn:=W10.drawn + 1 }:World)=W25 at hS24 ⊢
   refine oM Z f19 (oM Z Z (bnK hx12 fun x26 h27 hm28=>?_))
   have h29:=ha0.le le17
   have q:=h29.el (wAV h27)
   obtain ⟨b30,off31,vs34,hA32,hC33,hr35⟩:=q
   obtain ⟨pA36,pc37,rfl,h38⟩:=hr35
   replace hC33:Cl U16 b30 (off31 + k4 * 1) [.slice pA36 x26.length pc37]:=hC33
   refine oR Z (zf Z Z hA32 Z ze ZG (wAv h27)) (oL Z (hS24.ldC (f:=0) hC33 (v:=.slice pA36 x26.length pc37) Z Z ZA Z) (oM Z f20 (oM Z Z (bnK hm28 fun x39 h40 hm41=>?_))))
   have h42:=ha1.le le17
   have q:=h42.el (wAV h40)
   obtain ⟨b43,off44,vs47,hA45,hC46,hr48⟩:=q
   obtain ⟨pA49,pc50,rfl,h51⟩:=hr48
   replace hC46:Cl U16 b43 (off44 + k4 * 1) [.slice pA49 x39.length pc50]:=hC46
   refine oR Z (zf Z Z hA45 Z ze ZG (wAv h40)) (oL Z (hS24.ldC (f:=0) hC46 (v:=.slice pA49 x39.length pc50) Z Z ZA Z) (bnK hm41 fun x52 h53 hm54=>zH 0 Z Z Z Z (zI Z Z Tryz.call15 (zC Z (zC Z zM)) Z) hS24 (fun hs=>wAj x26 pA36 pc37 x39 pA49 pc50 W25 U16 hs h38 h51 h53) (.inr Z) ?_))
   rintro U55 L56 v57 W58 le59 hS60 ⟨rfl,rfl⟩
   have hS61:sW w U U55 [] W58:=hS60
   refine oR Z (ZI Z Z) (eN (ifc hm54 ?_ ?_))
   ·intro c62 hm63
    refine zU (nC c62.out) (ZE (zg (zF (rR fL2 Z (oR Z (zj (zW Z fi15 Z) (congrArg (jV) hi23.out)) (oM Z Z (zn ?_)))))))
    obtain rfl:=nB hm63
    exact zF ⟨Z,_,Z,⟨U55,Z,f19,f20,f21,(le17.trans le59),hS61⟩⟩
   ·intro c62 hm64
    refine zY (nF (c62.out)) (sR fL1 Z (oA Z Z (eN (zG (zP (zE ?_))))))
    have q:=wAy hm64
    obtain ⟨v65,hm66,e67⟩:=q
    obtain rfl:=wCD hm2 hX6 (hb13 v65 e67)
    refine zE (zP (zE ?_))
    have hE:=nB hm66;first | subst r | cases hE
    exact ⟨Z,_,(zd Z),U55,_,hS61,Z,Z⟩
  ·rintro ⟨⟩ σ68 W69 ⟨U72,fi71,f75,f76,f77,le73,hS74⟩ hb70
   have hm78:=wCs hm2 hX6 hb70
   try dsimp only at hm78
   have c79:Hid (¬ ((↑(((↑p0.length:Int):Int) - 0).toNat:Int) < (↑p0.length:Int))):=zD (wBA)
   refine sR fL1 Z (oR Z (zN Z fi71 f77) (eN (zB (cF Z c79 (zo (zQ (zQ (zl (zF (sR fL1 Z (oA Z Z (eN (zG ?_)))))))))))))
   have hE:=nB hm78;first | subst r | cases hE
   exact ⟨Z,_,(zd Z),U72,_,hS74,Z,Z⟩
 ·have hm80:=hm;rw [if_neg c1] at hm80;replace c1:=zD c1
  refine cT Z c1 (sR fL1 Z (oA Z Z (eN (zG (zE ?_)))))
  have hE:=nB hm80;first | subst r | cases hE
  exact ⟨Z,_,(zd Z),U,_,hS,Z,Z⟩
end Go.Proofs.YtghaibkggdecnaaGreat
namespace Go.Proofs.YtghaibkggdecnaaGreat
open Go.KL
set_option maxHeartbeats 4000000
theorem wFl (p0:Int) (w:World) (U:PHeap) (hS:St0 w U [])  {r:Bool} (hm:wBN p0=some r):Gv Tryz.prog 105 [jV p0] w (wCX w [] U (fun U_ L_ v=>v=.bool r/\L_=[])):=by
 unfold wBN at hm
 refine Gv.of Tryz.func105 Z Tryz.ntmps105 Tryz.results105 Z (sR fL1 Z (oA Z Z (eN (sR (.fl 0 (.fx 1 (.fl 2 (.nil)) .stop)) Z (oM Z Z (bnK hm fun x1 h2 hm3=>zH 0 Z Z Z Z (zI Z Z Tryz.call86 (zC Z (zC Z (zC Z zM))) Z) hS (fun hs=>wCb p0 0 9999 w U hs h2) (.inr Z) ?_))))))
 rintro U4 L5 v6 W7 le8 hS9 ⟨rfl,rfl⟩
 have hS10:sW w U U4 [] W7:=hS9
 refine oA Z Z (eN (zG ?_))
 have hE:=nB hm3;first | subst r | cases hE
 exact ⟨Z,_,(zd Z),U4,_,hS10,Z,Z⟩
theorem wFm (p0:Int) (p1:Int) (p2:List Int) (pb2:Nat) (pA2:Option Addr) (pc2:Nat) (w:World) (U:PHeap) (hS:St0 w U []) (ha0:Cl U pb2 0 [.slice pA2 p2.length pc2]) (ha1:Sl U 1 pA2 pc2 p2.length (nA KL.encI p2)) {r:Int} (hm:wAf p0 p1 p2=some r):Gv Tryz.prog 107 [jV p0,jV p1,.pointer (some ⟨pb2,0,none⟩)] w (wCX w [] U (fun U_ L_ v=>v=jV r/\L_=[])):=by
 unfold wAf at hm
 refine Gv.of Tryz.func107 rfl Tryz.ntmps107 Tryz.results107 rfl (sR fL1 rfl (OKS.ra rfl rfl rfl rfl rfl rfl (eN (zB (CK.anyOrd ZK [1,3,3,1,1,3,3,1,2,3] (wOe (.fx 8 (.fl 9 (.nil)) .stop)) (by kernel_rfl) ?_)))))
 have hS1:=hS.drew
 generalize hw_W2:({ w with drawn:=w.drawn + 1 }:World)=W2 at hS1 ⊢
 refine oL Z (hS1.ldC (f:=0) ha0 (v:=.slice pA2 p2.length pc2) Z Z ZA Z) (oM Z Z (bnK hm fun x3 h4 hm5=>?_))
 have q:=ha1.el (fun _=>rfl) (wAV h4)
 obtain ⟨b6,off7,hA8,hC9⟩:=q
 refine oR Z (Runs.iaI Z Z hA8 Z zA zJ (wEK h4) (wEp h4)) (oL Z (hS1.ldC (f:=0) hC9 (v:=jV x3) Z Z zR Z) (oL Z (hS1.ldC (f:=0) ha0 (v:=.slice pA2 p2.length pc2) Z Z ZA Z) (oM Z Z (bnK hm5 fun x10 h11 hm12=>?_))))
 have q:=ha1.el (fun _=>rfl) (wAV h11)
 obtain ⟨b13,off14,hA15,hC16⟩:=q
 refine oR Z (Runs.iaI Z Z hA15 Z zA zJ (wEK h11) (wEp h11)) (oL Z (hS1.ldC (f:=0) hC16 (v:=jV x10) Z Z zR Z) (bnK hm12 fun x17 h18 hm19=>zH 0 Z Z Z Z (zI Z Z Tryz.call82 (zC Z (zC Z zM)) Z) hS1 (fun hs=>wCd x3 x10 W2 U hs h18) (.inr Z) ?_))
 rintro U20 L21 v22 W23 le24 hS25 ⟨rfl,rfl⟩
 have hS26:sW w U U20 [] W23:=hS25
 refine oA Z Z (eN (zG ?_))
 have hE:=nB hm19;first | subst r | cases hE
 exact ⟨Z,_,(zd Z),U20,_,hS26,Z,Z⟩
theorem wHJ (p0:List wAA) (pA0:Option Addr) (pc0:Nat) (p1:List Int) (pA1:Option Addr) (pc1:Nat) (p2:List Int) (pA2:Option Addr) (pc2:Nat) (w:World) (U:PHeap) (hS:St0 w U []) (ha0:Sl U 3 pA0 pc0 p0.length (nA wAC p0)) (ha1:Sl U 1 pA1 pc1 p1.length (nA KL.encI p1)) (ha2:Sl U 1 pA2 pc2 p2.length (nA KL.encI p2)) {r:(List Int) × Int} (hm:wBs p0 p1 p2=some r):Gv Tryz.prog 48 [.slice pA0 p0.length pc0,.slice pA1 p1.length pc1,.slice pA2 p2.length pc2] w (wCX w [] U (fun U_ L_ v=>∃ (A0:Option Addr) (c0:Nat),v=.tuple #[.slice A0 r.1.length c0,jV r.2]/\L_=[.row A0 c0 3 1 (nA KL.encI r.1)])):=by
 unfold wBs at hm
 refine Gv.of Tryz.func48 rfl Tryz.ntmps48 Tryz.results48 rfl (sR (.fx 0 (.fl 1 (.fl 2 (.nil))) .stop) rfl (OKS.box (cs:=[.slice pA2 p2.length pc2]) rfl rfl rfl rfl rfl rfl (by rfl) hS ?_))
 intro W1 b2 hS3
 have q:=hS3.freeze (k:=0) rfl
 obtain ⟨U5,le6,hC7,hS8⟩:=q
 replace hC7:=Cl.of hC7
 have hS9:sW w U U5 [] W1:=hS8
 replace hC7:Cl U5 b2 0 [.slice pA2 p2.length pc2]:=hC7
 refine oA Z Z (oA Z Z (eN (sR (.fl 0 (.fl 1 (.fx 2 (wMs (.nil)) .stop))) Z (oM Z Z (oM Z Z ?_)))))
 have h10:=ha0.le le6
 have h11:=ha1.le le6
 have q:=bnd hm
 obtain ⟨⟨x12,x13⟩,h14,hm15⟩:=q
 try dsimp only at hm15
 refine zH 0 Z Z Z Z (zI Z Z Tryz.call45 (zC Z (zC Z zM)) Z) hS9 (fun hs=>wDQ p0 pA0 pc0 p1 pA1 pc1 W1 U5 hs h10 h11 h14) (.inr Z) ?_
 rintro U16 L17 v18 W19 le20 hS21 ⟨A22,c23,h24,rfl,rfl⟩
 let B0:Res:=.row A22 c23 31 1 (nA wEY h24)
 have hS27:sW w U U16 [B0,inn 3 1 KL.encI h24 x12] W19:=hS21
 refine oM Z Z (oR Z (zx Z Z (v:=.slice A22 x12.length c23) Z) (oR Z (zx Z Z (v:=jV x13) Z) (oA Z Z (oA Z Z (eN (zB (zK (sR fL3 Z (oM Z Z (oR Z (zw Z Z Z) (oA Z Z (eN (ifc hm15 ?_ ?_)))))))))))))
 ·intro c28 hm29
  refine zU (zu (fun h=>h c28.out)) (sR fL6 Z ?_)
  have h30:=hC7.le le20
  refine oL Z (hS27.ldC (f:=0) h30 (v:=.slice pA2 p2.length pc2) Z Z ZA Z) (oR Z (zO Z Z zA) (oM Z Z (oR Z (zO Z Z zS) (oR Z (zw Z Z Z) (oA Z Z (eN (ifc hm29 ?_ ?_)))))))
  ·intro c31 hm32
   refine zU (zu (fun h=>h c31.out)) (sR (.fl 0 (.fx 1 (.fl 2 (.fl 3 (.nil))) .stop)) Z (oL Z (hS27.ldC (f:=0) h30 (v:=.slice pA2 p2.length pc2) Z Z ZA Z) ?_))
   have h33:=ha2.le le6
   have h34:=h33.le le20
   have hF35:FnOK Tryz.prog U16 (.func (.func 105) #[] #[]) wJb wJc wBN:=⟨105,[],[],rfl,Tryz.call105,fun U1 w1 x y vs le hs ha hm=>by obtain rfl:=ha;exact wFl x w1 U1 hs  hm⟩
   refine bnK hm32 fun x36 h37 hm38=>zH 0 Z Z Z Z (zI Z Z Tryz.call99 (zC Z (zC Z zM)) Z) hS27 (fun hs=>wBR p2 pA2 pc2 wBN (.func (.func 105) #[] #[]) W19 U16 hs h34 hF35 h37) (.inr Z) ?_
   rintro U39 L40 v41 W42 le43 hS44 ⟨rfl,rfl⟩
   have hS45:sW w U U39 [B0,inn 3 1 KL.encI h24 x12] W42:=hS44
   refine oR Z (ZI Z Z) (oA Z Z (eN (ifc hm38 ?_ ?_)))
   ·intro c46 hm47
    refine zU (nC c46.out) (sR (.fl 0 (.fx 1 (.fl 2 (.nil)) .stop)) Z ?_)
    have h48:=h30.le le43
    refine oL Z (hS45.ldC (f:=0) h48 (v:=.slice pA2 p2.length pc2) Z Z ZA Z) ?_
    have h49:=h34.le le43
    refine bnK hm47 fun x50 h51 hm52=>zH 0 Z Z Z Z (zI Z Z Tryz.call87 (zC Z zM) Z) hS45 (fun hs=>wCn p2 pA2 pc2 W42 U39 hs h49 h51) (.inr Z) ?_
    rintro U53 L54 v55 W56 le57 hS58 ⟨rfl,rfl⟩
    have hS59:sW w U U53 [B0,inn 3 1 KL.encI h24 x12] W56:=hS58
    refine oA Z Z (eN (ifc hm52 ?_ ?_))
    ·intro c60 hm61
     refine zY (congrArg nD c60.out) (sR fL2 Z (oA Z Z (oA Z Z (eN (zG (zP (zE ?_)))))))
     have hS62:=hS59.nilrow 3 1
     cases hm61
     exact ⟨rfl,_,(wEW rfl rfl),U53,_,(hS62.pick [0] _ (by decide) rfl),none,0,rfl,rfl⟩
    ·intro c60 hm64
     refine zU (congrArg nD (nE.2 c60.out)) (ZE (zg (zF (sR fL1 Z (oA Z Z (eN (zB (sR fL3 Z (oM Z Z (oR Z (zO Z Z ze) (oM Z Z (eN (zK ?_)))))))))))))
     have q:=bnd hm64
     obtain ⟨⟨y96,y97⟩,hf93,hm92⟩:=q
     try dsimp only at hm92
     have q:=wBa hf93
     obtain ⟨hle94,hf95⟩:=q
     replace hle94:=zD hle94
     refine CK.forN' (fun k91 (l86,l90) σ_ w_=>∃ (U_:PHeap) (A87:Option Addr) (c88:Nat),σ_ 38=jV (↑k91:Int)/\σ_ 5=.pointer (some ⟨b2,0,none⟩)/\σ_ 10=.slice A87 l86.length c88/\σ_ 36=.slice A22 l90.length c23/\σ_ 37=jV (↑x12.length:Int)/\PHeap.Le U53 U_/\sW w U U_ [.row A87 c88 3 1 (nA KL.encI l86),B0,inn 3 1 KL.encI h24 l90] w_) hf95 ?_ ?_ ?_
     ·have hS98:=hS59.nilrow 3 1
      exact ⟨U53,none,0,Z,Z,Z,Z,Z,(zV _),hS98⟩
     ·rintro k91 ⟨l86,l90⟩ xx102 σ100 W101 hk105 ⟨U107,A87,c88,fi106,f110,f111,f112,f113,le108,hS109⟩ hx103
      try dsimp only at hx103
      have c114:Hid ((↑k91:Int) < (↑x12.length:Int)):=zD (wBT hk105)
      replace hk105:=zD hk105
      have hi115:Hid (w64 ((↑k91:Int) + 1)=(↑(k91 + 1):Int)):=zD (by have h1:=hle94.out;have h2:=c114.out;rw [wBC] <;> omega)
      refine sR fL1 Z (oR Z (zN Z fi106 f113) (eN (zB (cT Z c114 (kN (zB (zK (sR fL3 Z (bnK hx103 fun _ h116 hm117=>?_)))))))))
      obtain ⟨b118,hA119⟩:=hS109.rowSome (j:=1) rfl (by rw [wAG (f:=wEY) (sz:=1) (fun _=>rfl),(hS109.innFit (j:=2) rfl).len];have hz:=wCr h116;omega)
      refine oR Z (zf Z f112 hA119 fi106 ze ZG (wCr h116)) ?_
      have hf120:=hS109.innFit (j:=2) rfl
      have hg121:=wBe (xs:=h24) (k:=k91) (by rw [hf120.len];exact wCr h116)
      have hv122:Value.slice (gd h24 k91).A (gd h24 k91).n (gd h24 k91).c=.slice ((gd h24 k91).A) ((gd l90 k91).length) ((gd h24 k91).c):=by rw [hf120.at_ (k:=k91) (wCr h116)]
      refine OKS.m rfl rfl rfl rfl (RunsK.to (hS109.ldR (j:=1) rfl hA119 rfl rfl ZA (wEM (sz:=1) (fun _=>rfl) _ _ 0 _ hg121 (by first | omega | rfl | simp) rfl)) hv122) rfl ?_
      let B1:Res:=.row A87 c88 3 1 (nA KL.encI l86)
      have hS123:sW w U U107 [inn 3 1 KL.encI h24 l90,B1,B0] W101:=hS109.pick [2,0,1] _ (by decide) rfl
      have hS124:=hS123.innTake (k:=k91) (wCr h116)
      have hS126:sW w U U107 [.row ((gd h24 k91).A) ((gd h24 k91).c) 3 1 (nA KL.encI (gd l90 k91)),wNY 3 1 KL.encI h24 l90 k91,B1,B0] W101:=hS124
      refine oA Z Z (eN (sR (.fl 0 (.fl 1 (.fx 2 (.nil) .stop))) Z (oM Z Z (oR Z (Runs.mkf Z zM (zC f110 zM)) ?_))))
      have h127:=h48.le le57
      have h128:=h127.le le108
      have h129:=h49.le le57
      have h130:=h129.le le108
      have hF131:FnOK Tryz.prog U107 (.func (.func 107) #[] #[.pointer (some ⟨b2,0,none⟩)]) ar50 rr50 (fun x=>wAf x.1 x.2 p2):=⟨107,[],[.pointer (some ⟨b2,0,none⟩)],rfl,Tryz.call107,fun U1 w1 x y vs le hs ha hm=>by obtain rfl:=ha;exact wFm x.1 x.2 p2 b2 pA2 pc2 w1 U1 hs (h128.le le) (h130.le le) hm⟩
      refine bnK hm117 fun x132 h133 hm134=>zH 1 Z Z Z Z (zI Z Z Tryz.call106 (zC Z (zC Z zM)) Z) hS126 (fun hs=>wBU (gd l90 k91) ((gd h24 k91).A) ((gd h24 k91).c) (fun x=>wAf x.1 x.2 p2) (.func (.func 107) #[] #[.pointer (some ⟨b2,0,none⟩)]) W101 U107 hs hF131 ⟨_,_,Z⟩ h133) (.inl Z) ?_
      rintro U135 L136 v137 W138 le139 hS140 ⟨rfl,rfl,h141⟩
      let B2:Res:=.row ((gd h24 k91).A) ((gd h24 k91).c) 3 1 (nA KL.encI x132)
      have hS142:sW w U U135 [B2,wNY 3 1 KL.encI h24 l90 k91,B1,B0] W138:=hS140
      refine eN (rR (.fl 0 (.fl 1 (.fx 2 (.fl 3 (.nil)) .stop))) rfl (zZ rfl rfl rfl rfl rfl f111 (zZ rfl rfl rfl rfl rfl (nP (b:=(.slice ((gd h24 k91).A) ((gd l90 k91).length) ((gd h24 k91).c):Value)) (c:=(.slice ((gd h24 k91).A) x132.length ((gd h24 k91).c):Value)) rfl (by rw [h141])) (bnK hm134 fun x143 h144 hm145=>ZJ (j:=2) (enc:=KL.encI) (xs:=l86) (ys:=x132) (zs:=x143) rfl rfl rfl rfl rfl ZH wHI rfl rfl rfl rfl rfl rfl hS142 rfl rfl rfl (hS142.srcR (j:=0) rfl (by decide) (wAG (f:=KL.encI) (sz:=1) (fun _=>rfl) x132)) (fun _=>rfl) (fun _=>rfl) h144 rfl ?_))))
      intro A146 c147 W148 hS149
      let B3:Res:=.row A146 c147 3 1 (nA KL.encI x143)
      have hS150:sW w U U135 [B2,wNY 3 1 KL.encI h24 l90 k91,B3,B0] W148:=hS149
      refine oA Z Z (zn (zg (zF (rR fL2 Z (oR Z (zj (zW Z fi106 Z) (congrArg (jV) hi115.out)) (oM Z Z (zn ?_)))))))
      have hS151:=hS150.innBack h141
      have hS152:sW w U U135 [inn 3 1 KL.encI h24 (nM l90 k91 x132),B3,B0] W148:=hS151
      cases hm145
      exact zF ⟨rfl,⟨U135,A146,c147,rfl,f110,rfl,(nP (b:=(.slice A22 l90.length c23:Value)) (c:=(.slice A22 ((nM l90 k91 x132).length) c23:Value)) f112 (by simp only [nK])),f113,(le108.trans le139),(hS152.pick [1,2,0] _ (by decide) rfl)⟩⟩
     ·rintro σ157 W158 ⟨U167,A165,c166,fi160,f170,f171,f172,f173,le168,hS169⟩
      have c174:Hid (¬ ((↑(((↑x12.length:Int):Int) - 0).toNat:Int) < (↑x12.length:Int))):=zD (wBA)
      refine sR fL1 Z (oR Z (zN Z fi160 f173) (eN (zB (cF Z c174 (zo (zQ (zQ (zl (zF (sR fL3 Z (oM Z f171 (oA Z Z (oA Z Z (eN (zG ?_)))))))))))))))
      cases hm92
      exact ⟨rfl,_,(wEW rfl rfl),U167,_,(hS169.pick [0] _ (by decide) rfl),A165,c166,rfl,rfl⟩
   ·intro c46 hm175
    refine zY (nF (c46.out)) (sR fL2 Z (oA Z Z (oA Z Z (eN (zG (zP (zE ?_)))))))
    have hS176:=hS45.nilrow 3 1
    cases hm175
    exact ⟨rfl,_,(wEW rfl rfl),U39,_,(hS176.pick [0] _ (by decide) rfl),none,0,rfl,rfl⟩
  ·intro c31 hm178
   refine cT Z c31 (sR fL2 Z (oA Z Z (oA Z Z (eN (zG (zP (zE ?_)))))))
   have hS179:=hS27.nilrow 3 1
   cases hm178
   exact ⟨rfl,_,(wEW rfl rfl),U16,_,(hS179.pick [0] _ (by decide) rfl),none,0,rfl,rfl⟩
 ·intro c28 hm181
  refine cT Z c28 (sR fL3 Z (oM Z Z (oA Z Z (oA Z Z (eN (zG (zP (zE ?_))))))))
  have hS182:=hS27.nilrow 3 1
  cases hm181
  exact ⟨rfl,_,(wEW rfl rfl),U16,_,(hS182.pick [0] _ (by decide) rfl),none,0,rfl,rfl⟩
theorem wDF (p0:List Int) (pA0:Option Addr) (pc0:Nat) (w:World) (U:PHeap) (hS:St0 w U []) (ha0:Sl U 1 pA0 pc0 p0.length (nA KL.encI p0)) {r:Bool} (hm:wAk p0=some r):Gv Tryz.prog 78 [.slice pA0 p0.length pc0] w (wCX w [] U (fun U_ L_ v=>v=.bool r/\L_=[])):=by
 unfold wAk at hm
 refine Gv.of Tryz.func78 Z Tryz.ntmps78 Tryz.results78 Z (sR fL1 Z (oA Z Z (eN (zB (sR fL1 Z (oA Z Z (eN (zK ?_))))))))
 have q:=wCA hm
 obtain ⟨r3,hX4⟩:=q
 have q:=wBz hX4
 obtain ⟨hle5,hf6⟩:=q
 replace hle5:=zD hle5
 refine CK.forN (fun k2 _ σ_ w_=>∃ (U_:PHeap),σ_ 3=jV (↑k2:Int)/\σ_ 0=.slice pA0 p0.length pc0/\PHeap.Le U U_/\sW w U U_ [] w_) hf6 ?_ ?_ ?_
 ·exact ⟨U,Z,Z,(zV _),hS⟩
 ·rintro k2 ⟨⟩ xx9 σ7 W8 hk12 ⟨U14,fi13,f17,le15,hS16⟩ hx10 hb11
  try dsimp only at hx10
  have c18:Hid ((↑k2:Int) < (↑p0.length:Int)):=zD (wBT hk12)
  replace hk12:=zD hk12
  have hi19:Hid (w64 ((↑k2:Int) + 1)=(↑(k2 + 1):Int)):=zD (by have h1:=hle5.out;have h2:=c18.out;rw [wBC] <;> omega)
  refine zB (sR fL4 Z (oM Z fi13 (oM Z f17 (oR Z (zO Z Z zA) (oR Z (zN Z Z Z) (eN (cT Z c18 (kN (zB (zK (sR fL1 Z (oA Z Z (eN (zK ?_))))))))))))))
  have q:=wCA hx10
  obtain ⟨r22,hX23⟩:=q
  have q:=wBz hX23
  obtain ⟨hle24,hf25⟩:=q
  replace hle24:=zD hle24
  refine CK.forN (fun k21 _ σ_ w_=>∃ (U_:PHeap),σ_ 4=jV (↑k21:Int)/\σ_ 0=.slice pA0 p0.length pc0/\σ_ 3=jV (↑k2:Int)/\PHeap.Le U14 U_/\sW w U U_ [] w_) hf25 ?_ ?_ ?_
  ·exact ⟨U14,Z,f17,fi13,(zV _),hS16⟩
  ·rintro k21 ⟨⟩ xx28 σ26 W27 hk31 ⟨U33,fi32,f36,f37,le34,hS35⟩ hx29 hb30
   try dsimp only at hx29
   have c38:Hid ((↑k21:Int) < (↑k2:Int)):=zD (wBT hk31)
   replace hk31:=zD hk31
   have hi39:Hid (w64 ((↑k21:Int) + 1)=(↑(k21 + 1):Int)):=zD (by have h1:=hle24.out;have h2:=c38.out;rw [wBC] <;> omega)
   refine zB (sR fL3 rfl (zZ rfl rfl rfl rfl rfl fi32 (zZ rfl rfl rfl rfl rfl f37 (zt rfl rfl rfl rfl (fun _=>zN rfl rfl rfl) (eN (cT Z c38 (kN (zB (zK (zB (CK.anyOrd ZK [3,3,3,1,3,3,3,1,3] fL9 (by kernel_rfl) ?_)))))))))))
   have hS40:=hS35.drew
   generalize hw_W41:({ W27 with drawn:=W27.drawn + 1 }:World)=W41 at hS40 ⊢
   refine oM Z f36 (oM Z f37 (bnK hx29 fun x42 h43 hm44=>?_))
   have h45:=ha0.le le15
   have h46:=h45.le le34
   have q:=h46.el (fun _=>rfl) (wAV h43)
   obtain ⟨b47,off48,hA49,hC50⟩:=q
   refine oR Z (zf Z Z hA49 Z zA zJ (wAv h43)) (oL Z (hS40.ldC (f:=0) hC50 (v:=jV x42) Z Z zR Z) (oM Z f36 (oM Z fi32 (bnK hm44 fun x51 h52 hm53=>?_))))
   have q:=h46.el (fun _=>rfl) (wAV h52)
   obtain ⟨b54,off55,hA56,hC57⟩:=q
   refine oR Z (zf Z Z hA56 Z zA zJ (wAv h52)) (oL Z (hS40.ldC (f:=0) hC57 (v:=jV x51) Z Z zR Z) (oR Z (Runs.eql Z Z Z) (eN (ifc hm53 ?_ ?_))))
   ·intro c58 hm59
    refine cT Z c58 (sR fL1 Z (oA Z Z (eN (zG (zP (zE ?_))))))
    have q:=wAy hm59
    obtain ⟨v60,hm61,e62⟩:=q
    obtain rfl:=wCD hx10 hX23 (hb30 v60 e62)
    refine zE (zP (zP (zE ?_)))
    have q:=wAy hm61
    obtain ⟨v63,hm64,e65⟩:=q
    obtain rfl:=wCD hm hX4 (hb11 v63 e65)
    refine zE (zP (zE ?_))
    have hE:=nB hm64;first | subst r | cases hE
    exact ⟨Z,_,(zd Z),U33,_,hS40,Z,Z⟩
   ·intro c58 hm66
    refine cF Z c58 (ZE (zg (zF (rR fL3 Z (oM Z fi32 (oR Z (zj (zW Z Z Z) (congrArg (jV) hi39.out)) (oA Z Z (zn ?_))))))))
    obtain rfl:=nB hm66
    exact zF ⟨Z,_,Z,⟨U33,Z,f36,f37,le34,hS40⟩⟩
  ·rintro ⟨⟩ σ67 W68 ⟨U71,fi70,f74,f75,le72,hS73⟩ hb69
   have hm76:=wCs hx10 hX23 hb69
   try dsimp only at hm76
   have c77:Hid (¬ ((↑(((↑k2:Int):Int) - 0).toNat:Int) < (↑k2:Int))):=zD (wBA)
   refine zB (sR fL3 Z (oM Z fi70 (oM Z f75 (oR Z (zN Z Z Z) (eN (cF Z c77 (zo (zQ (zQ (zl (zg (zF (rR fL3 Z (oM Z f75 (oR Z (zj (zW Z Z Z) (congrArg (jV) hi19.out)) (oA Z Z (zn ?_)))))))))))))))))
   obtain rfl:=nB hm76
   exact zF ⟨Z,_,Z,⟨U71,Z,f74,(le15.trans le72),hS73⟩⟩
 ·rintro ⟨⟩ σ78 W79 ⟨U82,fi81,f85,le83,hS84⟩ hb80
  have hm86:=wCs hm hX4 hb80
  try dsimp only at hm86
  have c87:Hid (¬ ((↑(((↑p0.length:Int):Int) - 0).toNat:Int) < (↑p0.length:Int))):=zD (wBA)
  refine zB (sR fL4 Z (oM Z fi81 (oM Z f85 (oR Z (zO Z Z zA) (oR Z (zN Z Z Z) (eN (cF Z c87 (zo (zQ (zQ (zl (zF (sR fL1 Z (oA Z Z (eN (zG ?_))))))))))))))))
  have hE:=nB hm86;first | subst r | cases hE
  exact ⟨Z,_,(zd Z),U82,_,hS84,Z,Z⟩
theorem wDg (p0:List wAE) (pA0:Option Addr) (pc0:Nat) (p1:List Int) (pA1:Option Addr) (pc1:Nat) (p2:List Int) (pA2:Option Addr) (pc2:Nat) (w:World) (U:PHeap) (hS:St0 w U []) (ha0:Sl U 3 pA0 pc0 p0.length (nA wAF p0)) (ha1:Sl U 1 pA1 pc1 p1.length (nA KL.encI p1)) (ha2:Sl U 1 pA2 pc2 p2.length (nA KL.encI p2)) {r:(List Int) × Int} (hm:wAw p0 p1 p2=some r):Gv Tryz.prog 49 [.slice pA0 p0.length pc0,.slice pA1 p1.length pc1,.slice pA2 p2.length pc2] w (wCX w [] U (fun U_ L_ v=>∃ (A0:Option Addr) (c0:Nat),v=.tuple #[.slice A0 r.1.length c0,jV r.2]/\L_=[.row A0 c0 3 1 (nA KL.encI r.1)])):=by
 unfold wAw at hm
 refine Gv.of Tryz.func49 Z Tryz.ntmps49 Tryz.results49 Z (sR fL2 Z (oA Z Z (oA Z Z (eN (sR (.fl 0 (.fl 1 (.fx 2 (wMs (.nil)) .stop))) Z (oM Z Z (oM Z Z ?_)))))))
 have q:=bnd hm
 obtain ⟨⟨x1,x2⟩,h3,hm4⟩:=q
 try dsimp only at hm4
 refine zH 0 Z Z Z Z (zI Z Z Tryz.call46 (zC Z (zC Z zM)) Z) hS (fun hs=>wBv p0 pA0 pc0 p1 pA1 pc1 w U hs ha0 ha1 h3) (.inr Z) ?_
 rintro U5 L6 v7 W8 le9 hS10 ⟨A11,c12,c13,rfl,rfl,h15⟩
 let B0:Res:=.row A11 c12 31 1 c13
 have hS16:sW w U U5 [B0] W8:=hS10
 refine oM Z Z (oR Z (zx Z Z (v:=.slice A11 x1.length c12) Z) (oR Z (zx Z Z (v:=jV x2) Z) (oA Z Z (oA Z Z (eN (zB (sR fL2 Z (oM Z Z (oR Z (zw Z Z Z) (eN (ifc hm4 ?_ ?_)))))))))))
 ·intro c17 hm18
  refine zU (zu (fun h=>h c17.out)) (kN (zB (sR fL5 Z (oM Z Z (oR Z (zO Z Z zA) (oM Z Z (oR Z (zO Z Z zL) (oR Z (zw Z Z Z) (eN (ifc hm18 ?_ ?_))))))))))
  ·intro c19 hm20
   refine zU (zu (fun h=>h c19.out)) (kN (zB (sR fL1 Z (oA Z Z (eN (zK ?_))))))
   have q:=wCA hm20
   obtain ⟨r24,hX25⟩:=q
   have q:=wBz hX25
   obtain ⟨hle26,hf27⟩:=q
   replace hle26:=zD hle26
   refine CK.forN (fun k23 _ σ_ w_=>∃ (U_:PHeap),σ_ 10=jV (↑k23:Int)/\σ_ 2=.slice pA2 p2.length pc2/\σ_ 8=.slice A11 x1.length c12/\PHeap.Le U5 U_/\sW w U U_ [B0] w_) hf27 ?_ ?_ ?_
   ·exact ⟨U5,Z,Z,Z,(zV _),hS16⟩
   ·rintro k23 ⟨⟩ xx30 σ28 W29 hk33 ⟨U35,fi34,f38,f39,le36,hS37⟩ hx31 hb32
    try dsimp only at hx31
    have c40:Hid ((↑k23:Int) < (↑p2.length:Int)):=zD (wBT hk33)
    replace hk33:=zD hk33
    have hi41:Hid (w64 ((↑k23:Int) + 1)=(↑(k23 + 1):Int)):=zD (by have h1:=hle26.out;have h2:=c40.out;rw [wBC] <;> omega)
    refine zB (sR fL4 Z (oM Z fi34 (oM Z f38 (oR Z (zO Z Z zA) (oR Z (zN Z Z Z) (eN (cT Z c40 (kN (zB (zK (sR (wIS (.fx 4 (.nil) .stop)) Z (oM Z f38 (oM Z fi34 (bnK hx31 fun x42 h43 hm44=>?_))))))))))))))
    have h45:=ha2.le le9
    have h46:=h45.le le36
    have q:=h46.el (fun _=>rfl) (wAV h43)
    obtain ⟨b47,off48,hA49,hC50⟩:=q
    refine oR Z (zf Z Z hA49 Z zA zJ (wAv h43)) (oL Z (hS37.ldC (f:=0) hC50 (v:=jV x42) Z Z zR Z) (bnK hm44 fun x51 h52 hm53=>zH 0 Z Z Z Z (zI Z Z Tryz.call77 (zC Z (zC Z (zC Z zM))) Z) hS37 (fun hs=>wBD x42 0 9999 W29 U35 hs h52) (.inr Z) ?_))
    rintro U54 L55 v56 W57 le58 hS59 ⟨rfl,rfl⟩
    have hS60:sW w U U54 [B0] W57:=hS59
    refine eN (ifc hm53 ?_ ?_)
    ·intro c61 hm62
     refine zY (congrArg nD c61.out) (sR fL2 Z (oA Z Z (oA Z Z (eN (zG (zP (zE ?_)))))))
     have q:=wAy hm62
     obtain ⟨v63,hm64,e65⟩:=q
     obtain rfl:=wCD hm20 hX25 (hb32 v63 e65)
     refine zE (zP (zE ?_))
     have hS66:=hS60.nilrow 3 1
     cases hm64
     exact ⟨rfl,_,(wEW rfl rfl),U54,_,(hS66.pick [0] _ (by decide) rfl),none,0,rfl,rfl⟩
    ·intro c61 hm68
     refine zU (congrArg nD (nE.2 c61.out)) (ZE (zg (zF (rR fL3 Z (oM Z fi34 (oR Z (zj (zW Z Z Z) (congrArg (jV) hi41.out)) (oA Z Z (zn ?_))))))))
     obtain rfl:=nB hm68
     exact zF ⟨Z,_,Z,⟨U54,Z,f38,f39,(le36.trans le58),hS60⟩⟩
   ·rintro ⟨⟩ σ69 W70 ⟨U73,fi72,f76,f77,le74,hS75⟩ hb71
    have hm78:=wCs hm20 hX25 hb71
    try dsimp only at hm78
    have c79:Hid (¬ ((↑(((↑p2.length:Int):Int) - 0).toNat:Int) < (↑p2.length:Int))):=zD (wBA)
    refine zB (sR fL4 Z (oM Z fi72 (oM Z f76 (oR Z (zO Z Z zA) (oR Z (zN Z Z Z) (eN (cF Z c79 (zo (zQ (zQ (zl (zF (zB (sR (.fl 0 (.fx 1 (.nil) .stop)) Z (oM Z f76 ?_)))))))))))))))
    have h80:=ha2.le le9
    have h81:=h80.le le74
    refine bnK hm78 fun x82 h83 hm84=>zH 0 Z Z Z Z (zI Z Z Tryz.call78 (zC Z zM) Z) hS75 (fun hs=>wDF p2 pA2 pc2 W70 U73 hs h81 h83) (.inr Z) ?_
    rintro U85 L86 v87 W88 le89 hS90 ⟨rfl,rfl⟩
    have hS91:sW w U U85 [B0] W88:=hS90
    refine eN (ifc hm84 ?_ ?_)
    ·intro c92 hm93
     refine zY (congrArg nD c92.out) (sR fL2 Z (oA Z Z (oA Z Z (eN (zG (zE ?_))))))
     have hS94:=hS91.nilrow 3 1
     cases hm93
     exact ⟨rfl,_,(wEW rfl rfl),U85,_,(hS94.pick [0] _ (by decide) rfl),none,0,rfl,rfl⟩
    ·intro c92 hm96
     refine zU (congrArg nD (nE.2 c92.out)) (kN (sR fL1 Z (oA Z Z (eN (zB (sR fL1 Z (oA Z Z (eN (zK ?_)))))))))
     have h102:=h15.le le74
     have h103:=h102.le le89
     have q:=hS91.freezeRR (R:=wMH) (k:=0) rfl h103 rfl (by decide)
     obtain ⟨U98,le99,hs100,hS101⟩:=q
     have hS104:sW w U U98 [] W88:=hS101
     refine bnK hm96 fun y127 hf124 hm123=>?_
     have q:=wBa hf124
     obtain ⟨hle125,hf126⟩:=q
     replace hle125:=zD hle125
     refine CK.forN' (fun k122 l118 σ_ w_=>∃ (U_:PHeap) (A119:Option Addr) (c120:Nat),σ_ 12=jV (↑k122:Int)/\σ_ 2=.slice pA2 p2.length pc2/\σ_ 8=.slice A11 x1.length c12/\σ_ 11=.slice A119 l118.length c120/\PHeap.Le U98 U_/\sW w U U_ [.row A119 c120 3 1 (nA KL.encI l118)] w_) hf126 ?_ ?_ ?_
     ·have hS128:=hS104.nilrow 3 1
      exact ⟨U98,none,0,Z,f76,f77,Z,(zV _),hS128⟩
     ·rintro k122 l118 xx132 σ130 W131 hk135 ⟨U137,A119,c120,fi136,f140,f141,f142,le138,hS139⟩ hx133
      have c143:Hid ((↑k122:Int) < (↑x1.length:Int)):=zD (wBT hk135)
      replace hk135:=zD hk135
      have hi144:Hid (w64 ((↑k122:Int) + 1)=(↑(k122 + 1):Int)):=zD (by have h1:=hle125.out;have h2:=c143.out;rw [wBC] <;> omega)
      refine zB (sR fL4 Z (oM Z fi136 (oM Z f141 (oR Z (zO Z Z ze) (oR Z (zN Z Z Z) (eN (cT Z c143 (kN (zB (zK (sR fL1 Z (oA Z Z (eN (zK (bnK hx133 fun y164 hf161 hm160=>?_)))))))))))))))
      have q:=wBa hf161
      obtain ⟨hle162,hf163⟩:=q
      replace hle162:=zD hle162
      refine CK.forN' (fun k159 l156 σ_ w_=>∃ (U_:PHeap) (A157:Option Addr) (c158:Nat),σ_ 13=jV (↑k159:Int)/\σ_ 2=.slice pA2 p2.length pc2/\σ_ 8=.slice A11 x1.length c12/\σ_ 11=.slice A157 l156.length c158/\σ_ 12=jV (↑k122:Int)/\PHeap.Le U137 U_/\sW w U U_ [.row A157 c158 3 1 (nA KL.encI l156)] w_) hf163 ?_ ?_ ?_
      ·exact ⟨U137,A119,c120,Z,f140,f141,f142,fi136,(zV _),hS139⟩
      ·rintro k159 l156 xx167 σ165 W166 hk170 ⟨U172,A157,c158,fi171,f175,f176,f177,f178,le173,hS174⟩ hx168
       have c179:Hid ((↑k159:Int) <= 9999):=zD (wOs hk170)
       replace hk170:=zD hk170
       have hi180:Hid (w64 ((↑k159:Int) + 1)=(↑(k159 + 1):Int)):=zD (by have h1:=hle162.out;have h2:=c179.out;rw [wBC] <;> omega)
       refine zB (sR fL2 Z (oM Z fi171 (oR Z (Runs.leq Z Z Z) (eN (cT Z c179 (kN (zB (zK (sR fL1 Z (oA Z Z (eN (zK (CK.iter (fun (l193,x196) σ_ w_=>∃ (U_:PHeap) (A194:Option Addr) (c195:Nat),σ_ 2=.slice pA2 p2.length pc2/\σ_ 8=.slice A11 x1.length c12/\σ_ 11=.slice A194 l193.length c195/\σ_ 12=jV (↑k122:Int)/\σ_ 13=jV (↑k159:Int)/\σ_ 14=jV x196/\PHeap.Le U172 U_/\sW w U U_ [.row A194 c195 3 1 (nA KL.encI l193)] w_) hx168 ?_ ?_)))))))))))))
       ·exact ⟨U172,A157,c158,f175,f176,f177,f178,fi171,Z,(zV _),hS174⟩
       ·rintro ⟨l193,x196⟩ xx199 σ197 W198 ⟨U204,A194,c195,f207,f208,f209,f210,f211,f212,le205,hS206⟩ hx200 hb201
        try dsimp only at hx200
        refine zB (sR fL7 Z (oM Z f212 (oM Z f208 (oM Z f210 (bnK hx200 fun x213 h214 hm215=>?_)))))
        have h216:=hs100.le le138
        have h217:=h216.le le173
        have h218:=h217.le le205
        have q:=h218.el (wAV h214)
        obtain ⟨b219,off220,vs223,hA221,hC222,hr224⟩:=q
        obtain ⟨pA225,pc226,rfl,h227⟩:=hr224
        replace hC222:Cl U204 b219 (off220 + k122 * 1) [.slice pA225 x213.length pc226]:=hC222
        refine oR Z (zf Z Z hA221 Z ze ZG (wAv h214)) (oL Z (hS206.ldC (f:=0) hC222 (v:=.slice pA225 x213.length pc226) Z Z ZA Z) (oR Z (zO Z Z zA) (oR Z (zN Z Z Z) (eN (ifc hm215 ?_ ?_)))))
        ·intro c228 hm229
         refine cT Z c228 (kN (zB (zK (sR fL12 Z (oM Z f207 (oM Z f208 (oM Z f210 ?_)))))))
         have q:=h218.el (wAV h214)
         obtain ⟨b230,off231,vs234,hA232,hC233,hr235⟩:=q
         obtain ⟨pA236,pc237,rfl,h238⟩:=hr235
         replace hC233:Cl U204 b230 (off231 + k122 * 1) [.slice pA236 x213.length pc237]:=hC233
         refine oR Z (zf Z Z hA232 Z ze ZG (wAv h214)) (oL Z (hS206.ldC (f:=0) hC233 (v:=.slice pA236 x213.length pc237) Z Z ZA Z) (oM Z f212 (bnK hm229 fun x239 h240 hm241=>?_)))
         have q:=h238.el (fun _=>rfl) (wAV h240)
         obtain ⟨b242,off243,hA244,hC245⟩:=q
         refine oR Z (Runs.iaI Z Z hA244 Z zA zJ (wEK h240) (wEp h240)) (oL Z (hS206.ldC (f:=0) hC245 (v:=jV x239) Z Z zR Z) (bnK hm241 fun x246 h247 hm248=>?_))
         have h249:=h81.le le89
         have h250:=h249.le le99
         have h251:=h250.le le138
         have h252:=h251.le le173
         have h253:=h252.le le205
         have q:=h253.el (fun _=>rfl) (wAV h247)
         obtain ⟨b254,off255,hA256,hC257⟩:=q
         refine oR Z (Runs.iaI Z Z hA256 Z zA zJ (wEK h247) (wEp h247)) (oL Z (hS206.ldC (f:=0) hC257 (v:=jV x246) Z Z zR Z) (oM Z f211 (oR Z (Runs.eql Z Z Z) (eN (ifc hm248 ?_ ?_)))))
         ·intro c258 hm259
          refine cT Z c258 (rR (wOe (.fx 8 (.fx 9 (.fl 10 (.nil)) .stop) .stop)) Z (oM Z f209 (oM Z f208 (oM Z f210 ?_))))
          have q:=h218.el (wAV h214)
          obtain ⟨b260,off261,vs264,hA262,hC263,hr265⟩:=q
          obtain ⟨pA266,pc267,rfl,h268⟩:=hr265
          replace hC263:Cl U204 b260 (off261 + k122 * 1) [.slice pA266 x213.length pc267]:=hC263
          refine oR Z (zf Z Z hA262 Z ze ZG (wAv h214)) (oL Z (hS206.ldC (f:=0) hC263 (v:=.slice pA266 x213.length pc267) Z Z ZA Z) (oM Z f212 ?_))
          have q:=h268.el (fun _=>rfl) (wAV h240)
          obtain ⟨b269,off270,hA271,hC272⟩:=q
          refine oR Z (Runs.iaI Z Z hA271 Z zA zJ (wEK h240) (wEp h240)) (oL Z (hS206.ldC (f:=0) hC272 (v:=jV x239) Z Z zR Z) (OKS.buildSlice (pv:=[(0,jV x239)]) (zs:=[jV 0]) (cs:=[jV x239]) Z Z Z Z Z (wAz Z wCS) zA zJ Tryz.zeroValue3 Z Z Z Z Z hS206 ?_))
          intro W273 b274 hS275
          let B1:Res:=.row (some ⟨b274,0,none⟩) 1 3 1 (nA KL.encI [x239])
          have hS277:sW w U U204 [B1,.row A194 c195 3 1 (nA KL.encI l193)] W273:=hS275
          refine bnK hm259 fun x278 h279 hm280=>ZJ (j:=1) (enc:=KL.encI) (xs:=l193) (ys:=[x239]) (zs:=x278) rfl rfl rfl rfl rfl ZH wHI rfl rfl rfl rfl rfl rfl hS277 rfl rfl rfl (hS277.srcR (j:=0) rfl (by decide) (wAG (f:=KL.encI) (sz:=1) (fun _=>rfl) [x239])) (fun _=>rfl) (fun _=>rfl) h279 rfl ?_
          intro A281 c282 W283 hS284
          have hS285:sW w U U204 [B1,.row A281 c282 3 1 (nA KL.encI x278)] W283:=hS284
          refine oA Z Z (zn (zg (zF (rR fL3 Z (oM Z f212 (oR Z (zW Z Z Z) (oA Z Z (zn ?_))))))))
          obtain rfl:=nB hm280
          exact zF ⟨rfl,_,rfl,⟨U204,A281,c282,f207,f208,rfl,f210,f211,rfl,le205,(hS285.pick [1] _ (by decide) rfl)⟩⟩
         ·intro c258 hm290
          refine cF Z c258 (ZE (zg (zF (rR fL3 Z (oM Z f212 (oR Z (zW Z Z Z) (oA Z Z (zn ?_))))))))
          obtain rfl:=nB hm290
          exact zF ⟨Z,_,Z,⟨U204,A194,c195,f207,f208,f209,f210,f211,Z,le205,hS206⟩⟩
        ·intro c228 hm295
         refine cF Z c228 (zo (zQ ?_))
         have q:=wAy hm295
         obtain ⟨v296,hm297,e298⟩:=q
         obtain rfl:=hb201 v296 e298
         refine zQ (zl (zg (zF (rR fL3 Z (oM Z f211 (oR Z (zj (zW Z Z Z) (congrArg (jV) hi180.out)) (oA Z Z (zn ?_))))))))
         cases hm297
         exact zF ⟨Z,⟨U204,A194,c195,Z,f207,f208,f209,f210,(le173.trans le205),hS206⟩⟩
      ·rintro σ302 W303 ⟨U311,A309,c310,fi305,f314,f315,f316,f317,le312,hS313⟩
       have c318:Hid (¬ ((↑(((9999 + 1):Int) - 0).toNat:Int) <= 9999)):=zD (wJE)
       refine zB (sR fL2 Z (oM Z fi305 (oR Z (Runs.leq Z Z Z) (eN (cF Z c318 (zo (zQ (zQ (zl (zg (zF (rR fL3 Z (oM Z f317 (oR Z (zj (zW Z Z Z) (congrArg (jV) hi144.out)) (oA Z Z (zn ?_))))))))))))))))
       cases hm160
       exact zF ⟨Z,⟨U311,A309,c310,Z,f314,f315,f316,(le138.trans le312),hS313⟩⟩
     ·rintro σ322 W323 ⟨U331,A329,c330,fi325,f334,f335,f336,le332,hS333⟩
      have c337:Hid (¬ ((↑(((↑x1.length:Int):Int) - 0).toNat:Int) < (↑x1.length:Int))):=zD (wBA)
      refine zB (sR fL4 Z (oM Z fi325 (oM Z f335 (oR Z (zO Z Z ze) (oR Z (zN Z Z Z) (eN (cF Z c337 (zo (zQ (zQ (zl (zF (sR fL3 Z (oM Z f336 (oA Z Z (oA Z Z (eN (zG ?_))))))))))))))))))
      cases hm123
      exact ⟨Z,_,(wEW Z Z),U331,_,hS333,A329,c330,Z,Z⟩
  ·intro c19 hm338
   refine cT Z c19 (sR fL2 Z (oA Z Z (oA Z Z (eN (zG (zE ?_))))))
   have hS339:=hS16.nilrow 3 1
   cases hm338
   exact ⟨rfl,_,(wEW rfl rfl),U5,_,(hS339.pick [0] _ (by decide) rfl),none,0,rfl,rfl⟩
 ·intro c17 hm341
  refine cT Z c17 (sR fL3 Z (oM Z Z (oA Z Z (oA Z Z (eN (zG (zE ?_)))))))
  have hS342:=hS16.nilrow 3 1
  cases hm341
  exact ⟨rfl,_,(wEW rfl rfl),U5,_,(hS342.pick [0] _ (by decide) rfl),none,0,rfl,rfl⟩
theorem wBw (p0:List wAA) (pA0:Option Addr) (pc0:Nat) (p1:List wAA) (pA1:Option Addr) (pc1:Nat) (w:World) (U:PHeap) (hS:St0 w U []) (ha0:Sl U 3 pA0 pc0 p0.length (nA wAC p0)) (ha1:Sl U 3 pA1 pc1 p1.length (nA wAC p1)) {r:Bool} (hm:wAS p0 p1=some r):Gv Tryz.prog 50 [.slice pA0 p0.length pc0,.slice pA1 p1.length pc1] w (wCX w [] U (fun U_ L_ v=>v=.bool r/\L_=[])):=by
 unfold wAS at hm
 refine Gv.of Tryz.func50 Z Tryz.ntmps50 Tryz.results50 Z (sR fL1 Z (oA Z Z (eN (zB (sR fL5 Z (oM Z Z (oR Z (zO Z Z zS) (oM Z Z (oR Z (zO Z Z zS) (oR Z (zw Z Z Z) (eN ?_)))))))))))
 by_cases c1:(↑p0.length:Int)=(↑p1.length:Int)
 ·have hm2:=hm;rw [if_pos c1] at hm2;replace c1:=zD c1
  refine zU (zu (fun h=>h c1.out)) (kN (zB (sR fL3 Z (oM Z Z (oR Z (zO Z Z zS) (oM Z Z (eN (zK ?_))))))))
  have q:=wCA hm2
  obtain ⟨r5,hX6⟩:=q
  have q:=wBz hX6
  obtain ⟨hle7,hf8⟩:=q
  replace hle7:=zD hle7
  refine CK.forN (fun k4 _ σ_ w_=>∃ (U_:PHeap),σ_ 13=jV (↑k4:Int)/\σ_ 0=.slice pA0 p0.length pc0/\σ_ 1=.slice pA1 p1.length pc1/\σ_ 12=jV (↑p0.length:Int)/\PHeap.Le U U_/\sW w U U_ [] w_) hf8 ?_ ?_ ?_
  ·exact ⟨U,Z,Z,Z,Z,(zV _),hS⟩
  ·rintro k4 ⟨⟩ xx11 σ9 W10 hk14 ⟨U16,fi15,f19,f20,f21,le17,hS18⟩ hx12 hb13
   try dsimp only at hx12
   have c22:Hid ((↑k4:Int) < (↑p0.length:Int)):=zD (wBT hk14)
   replace hk14:=zD hk14
   have hi23:Hid (w64 ((↑k4:Int) + 1)=(↑(k4 + 1):Int)):=zD (by have h1:=hle7.out;have h2:=c22.out;rw [wBC] <;> omega)
   refine sR fL1 rfl (zt rfl rfl rfl rfl (fun _=>zN rfl fi15 f21) (eN (zB (cT Z c22 (kN (zB (zK (sR fL2 rfl (zZ rfl rfl rfl rfl rfl fi15 (OKS.ra rfl rfl rfl rfl rfl rfl (eN (zB (CK.anyOrd ZK [3,3,3,1,3,3,3,1,3] fL9 (by kernel_rfl) ?_)))))))))))))
   have hS24:=hS18.drew
   generalize hw_W25:({ W10 with drawn:=W10.drawn + 1 }:World)=W25 at hS24 ⊢
   refine oM Z f19 (oM Z Z (bnK hx12 fun x26 h27 hm28=>?_))
   have h29:=ha0.le le17
   have q:=h29.el (fun _=>rfl) (wAV h27)
   obtain ⟨b30,off31,hA32,hC33⟩:=q
   refine oR Z (zf Z Z hA32 Z zS zq (wAv h27)) (oL Z (hS24.ldCA (f:=0) hC33 Z Z Tryz.isAgg62 zq (us:=[jV x26.Bib,jV x26.Nation,jV x26.Rank]) Z Z) (oM Z f20 (oM Z Z (bnK hm28 fun x34 h35 hm36=>?_))))
   have h37:=ha1.le le17
   have q:=h37.el (fun _=>rfl) (wAV h35)
   obtain ⟨b38,off39,hA40,hC41⟩:=q
   refine oR Z (zf Z Z hA40 Z zS zq (wAv h35)) (oL Z (hS24.ldCA (f:=0) hC41 Z Z Tryz.isAgg62 zq (us:=[jV x34.Bib,jV x34.Nation,jV x34.Rank]) Z Z) (oR Z (zj (Runs.neS (enc:=wAC) (a:=x26) (b:=x34) Z Z Z eqT62 eqG62) (congrArg nD (decide_not).symm)) (eN (ifc hm36 ?_ ?_))))
   ·intro c42 hm43
    refine zU (zu (fun h=>h c42.out)) (ZE (zg (zF (rR fL2 Z (oR Z (zj (zW Z fi15 Z) (congrArg (jV) hi23.out)) (oM Z Z (zn ?_)))))))
    obtain rfl:=nB hm43
    exact zF ⟨Z,_,Z,⟨U16,Z,f19,f20,f21,le17,hS24⟩⟩
   ·intro c42 hm44
    refine cT Z c42 (sR fL1 Z (oA Z Z (eN (zG (zP (zE ?_))))))
    have q:=wAy hm44
    obtain ⟨v45,hm46,e47⟩:=q
    obtain rfl:=wCD hm2 hX6 (hb13 v45 e47)
    refine zE (zP (zE ?_))
    have hE:=nB hm46;first | subst r | cases hE
    exact ⟨Z,_,(zd Z),U16,_,hS24,Z,Z⟩
  ·rintro ⟨⟩ σ48 W49 ⟨U52,fi51,f55,f56,f57,le53,hS54⟩ hb50
   have hm58:=wCs hm2 hX6 hb50
   try dsimp only at hm58
   have c59:Hid (¬ ((↑(((↑p0.length:Int):Int) - 0).toNat:Int) < (↑p0.length:Int))):=zD (wBA)
   refine sR fL1 Z (oR Z (zN Z fi51 f57) (eN (zB (cF Z c59 (zo (zQ (zQ (zl (zF (sR fL1 Z (oA Z Z (eN (zG ?_)))))))))))))
   have hE:=nB hm58;first | subst r | cases hE
   exact ⟨Z,_,(zd Z),U52,_,hS54,Z,Z⟩
 ·have hm60:=hm;rw [if_neg c1] at hm60;replace c1:=zD c1
  refine cT Z c1 (sR fL1 Z (oA Z Z (eN (zG (zE ?_)))))
  have hE:=nB hm60;first | subst r | cases hE
  exact ⟨Z,_,(zd Z),U,_,hS,Z,Z⟩
end Go.Proofs.YtghaibkggdecnaaGreat
namespace Go.Proofs.YtghaibkggdecnaaGreat
open Go.KL
set_option maxHeartbeats 4000000
theorem wCN (p0:List wAA) (pA0:Option Addr) (pc0:Nat) (p1:List Int) (pA1:Option Addr) (pc1:Nat) (p2:List Int) (pA2:Option Addr) (pc2:Nat) (w:World) (U:PHeap) (hS:St0 w U []) (ha0:Sl U 3 pA0 pc0 p0.length (nA wAC p0)) (ha1:Sl U 1 pA1 pc1 p1.length (nA KL.encI p1)) (ha2:Sl U 1 pA2 pc2 p2.length (nA KL.encI p2)) {r:Bool} (hm:wAh p0 p1 p2=some r):Gv Tryz.prog 6 [.slice pA0 p0.length pc0,.slice pA1 p1.length pc1,.slice pA2 p2.length pc2] w (wCX w [] U (fun U_ L_ v=>v=.bool r/\L_=[])):=by
 unfold wAh at hm
 refine Gv.of Tryz.func6 Z Tryz.ntmps6 Tryz.results6 Z (sR fL1 Z (oA Z Z (eN (zB (sR fL13 Z (oM Z Z (oR Z (zO Z Z zS) (oR Z (Runs.gtr Z Z Z) (oM Z Z ?_)))))))))
 by_cases c1:64 < (↑p0.length:Int)
 ·have hm2:=hm;rw [if_pos c1] at hm2;replace c1:=zD c1
  refine oT Z c1 (oT Z c1 (oT Z c1 (oR Z (zr Z (wFs c1.out) Z) (oM Z Z (oN Z (oN Z (oN Z (oR Z (zr Z Z Z) (eN (zY Z (sR (.fx 0 (.fl 1 (.nil)) .stop) Z (bnK hm2 fun x3 h4 hm5=>zH 0 Z Z Z Z (zI Z Z Tryz.call11 zM Z) hS (fun hs=>wBG w U hs h4) (.inr Z) ?_))))))))))))
  rintro U6 L7 v8 W9 le10 hS11 ⟨rfl,rfl⟩
  have hS12:sW w U U6 [] W9:=hS11
  refine oA Z Z (eN (zG (zE ?_)))
  have hE:=nB hm5;first | subst r | cases hE
  exact ⟨Z,_,(zd Z),U6,_,hS12,Z,Z⟩
 ·have hm13:=hm;rw [if_neg c1] at hm13;replace c1:=zD c1
  refine zZ Z Z Z (wF Z c1) Z Z (rU Z (wF Z c1) (zO Z Z zA) (rU Z (wF Z c1) (Runs.gtr Z Z Z) (oR Z (zh Z (zu c1.out) Z) (oM Z Z (ifc hm13 ?_ ?_)))))
  ·intro c14 hm15
   refine oT Z c14 (oT Z c14 (oT Z c14 (oR Z (zr Z (wFs c14.out) Z) (eN (zY Z (sR (.fx 0 (.fl 1 (.nil)) .stop) Z (bnK hm15 fun x16 h17 hm18=>zH 0 Z Z Z Z (zI Z Z Tryz.call11 zM Z) hS (fun hs=>wBG w U hs h17) (.inr Z) ?_)))))))
   rintro U19 L20 v21 W22 le23 hS24 ⟨rfl,rfl⟩
   have hS25:sW w U U19 [] W22:=hS24
   refine oA Z Z (eN (zG (zE ?_)))
   have hE:=nB hm18;first | subst r | cases hE
   exact ⟨Z,_,(zd Z),U19,_,hS25,Z,Z⟩
  ·intro c14 hm26
   refine zZ Z Z Z (wF Z c14) Z Z (rU Z (wF Z c14) (zO Z Z zA) (rU Z (wF Z c14) (Runs.gtr Z Z Z) (oR Z (zh Z (zu c14.out) Z) (eN (ifc hm26 ?_ ?_)))))
   ·intro c27 hm28
    refine cT Z c27 (sR (.fx 0 (.fl 1 (.nil)) .stop) Z (bnK hm28 fun x29 h30 hm31=>zH 0 Z Z Z Z (zI Z Z Tryz.call11 zM Z) hS (fun hs=>wBG w U hs h30) (.inr Z) ?_))
    rintro U32 L33 v34 W35 le36 hS37 ⟨rfl,rfl⟩
    have hS38:sW w U U32 [] W35:=hS37
    refine oA Z Z (eN (zG (zE ?_)))
    have hE:=nB hm31;first | subst r | cases hE
    exact ⟨Z,_,(zd Z),U32,_,hS38,Z,Z⟩
   ·intro c27 hm39
    refine cF Z c27 (kN (sR (.fl 0 (.fx 1 (.fl 2 (.fx 3 (.fl 4 (.fx 5 (.fl 6 (.fx 7 (wPu (.nil)) .stop)) .stop)) .stop)) .stop)) Z (oM Z Z (bnK hm39 fun x40 h41 hm42=>zH 0 Z Z Z Z (zI Z Z Tryz.call38 (zC Z zM) Z) hS (fun hs=>wBt p0 pA0 pc0 w U hs ha0 h41) (.inr Z) ?_))))
    rintro U43 L44 v45 W46 le47 hS48 ⟨A49,c50,rfl,rfl⟩
    let B0:Res:=.row A49 c50 62 3 (nA wAC x40)
    have hS52:sW w U U43 [B0] W46:=hS48
    refine oM Z Z ?_
    have h53:=ha1.le le47
    refine bnK hm42 fun x54 h55 hm56=>zH 0 Z Z Z Z (zI Z Z Tryz.call39 (zC Z zM) Z) hS52 (fun hs=>wBg p1 pA1 pc1 W46 U43 hs h53 h55) (.inr Z) ?_
    rintro U57 L58 v59 W60 le61 hS62 ⟨A63,c64,rfl,rfl⟩
    let B1:Res:=.row A63 c64 3 1 (nA KL.encI x54)
    have hS66:sW w U U57 [B1,B0] W60:=hS62
    refine oM Z Z ?_
    have h67:=ha2.le le47
    have h68:=h67.le le61
    refine bnK hm56 fun x69 h70 hm71=>zH 0 Z Z Z Z (zI Z Z Tryz.call39 (zC Z zM) Z) hS66 (fun hs=>wBg p2 pA2 pc2 W60 U57 hs h68 h70) (.inr Z) ?_
    rintro U72 L73 v74 W75 le76 hS77 ⟨A78,c79,rfl,rfl⟩
    let B2:Res:=.row A78 c79 3 1 (nA KL.encI x69)
    have hS81:sW w U U72 [B2,B1,B0] W75:=hS77
    refine oM Z Z ?_
    have h82:=ha0.le le47
    have h83:=h82.le le61
    have h84:=h83.le le76
    refine bnK hm71 fun x85 h86 hm87=>zH 0 Z Z Z Z (zI Z Z Tryz.call40 (zC Z zM) Z) hS81 (fun hs=>wDM p0 pA0 pc0 W75 U72 hs h84 h86) (.inr Z) ?_
    rintro U88 L89 v90 W91 le92 hS93 ⟨A94,c95,rfl,rfl⟩
    let B3:Res:=.row A94 c95 157 3 (nA wAF x85)
    have hS97:sW w U U88 [B3,B2,B1,B0] W91:=hS93
    refine oA Z Z (oA Z Z (oA Z Z (oA Z Z (eN (zB (sR (.fl 0 (.fx 1 (.fl 2 (.fx 3 (.fl 4 (.nil)) .stop)) .stop)) Z (oM Z Z ?_)))))))
    have q:=hS97.freezeR (k:=3) (n:=x40.length) rfl (wAG (f:=wAC) (sz:=3) (fun _=>rfl) x40) (by decide)
    obtain ⟨U98,le99,hs100,hS101⟩:=q
    have hS102:sW w U U98 [B3,B2,B1] W91:=hS101
    refine bnK hm87 fun x103 h104 hm105=>zH 0 Z Z Z Z (zI Z Z Tryz.call41 (zC Z zM) Z) hS102 (fun hs=>wCo x40 A49 c50 W91 U98 hs hs100 h104) (.inr Z) ?_
    rintro U106 L107 v108 W109 le110 hS111 ⟨rfl,rfl⟩
    have hS112:sW w U U106 [B3,B2,B1] W109:=hS111
    refine oM Z Z ?_
    have q:=hS112.freezeR (k:=0) (n:=x85.length) rfl (wAG (f:=wAF) (sz:=3) (fun _=>rfl) x85) (by decide)
    obtain ⟨U113,le114,hs115,hS116⟩:=q
    have hS117:sW w U U113 [B2,B1] W109:=hS116
    refine bnK hm105 fun x118 h119 hm120=>zH 0 Z Z Z Z (zI Z Z Tryz.call42 (zC Z zM) Z) hS117 (fun hs=>wCE x85 A94 c95 W109 U113 hs hs115 h119) (.inr Z) ?_
    rintro U121 L122 v123 W124 le125 hS126 ⟨rfl,rfl⟩
    have hS127:sW w U U121 [B2,B1] W124:=hS126
    refine oR Z (zw Z Z Z) (eN (ifc hm120 ?_ ?_))
    ·intro c128 hm129
     refine zU (zu (fun h=>h c128.out)) (kN (sR (.fl 0 (.fx 1 (wOf (.nil)) .stop)) Z (oM Z Z ?_)))
     have h130:=hs100.le le110
     have h131:=h130.le le114
     have h132:=h131.le le125
     have q:=bnd hm129
     obtain ⟨⟨x133,x134⟩,h135,hm136⟩:=q
     try dsimp only at hm136
     refine zH 0 Z Z Z Z (zI Z Z Tryz.call43 (zC Z zM) Z) hS127 (fun hs=>wFk x40 A49 c50 W124 U121 hs h132 h135) (.inr Z) ?_
     rintro U137 L138 v139 W140 le141 hS142 ⟨A143,c144,rfl,rfl⟩
     let B4:Res:=.row A143 c144 3 1 (nA KL.encI x133)
     have hS146:sW w U U137 [B4,B2,B1] W140:=hS142
     refine oM Z Z (oR Z (zx Z Z (v:=.slice A143 x133.length c144) Z) (oR Z (zx Z Z (v:=jV x134) Z) (oA Z Z (oA Z Z (eN (sR (.fl 0 (.fx 1 (wOf (.nil)) .stop)) Z (oM Z Z ?_)))))))
     have h147:=hs115.le le125
     have h148:=h147.le le141
     have q:=bnd hm136
     obtain ⟨⟨x149,x150⟩,h151,hm152⟩:=q
     try dsimp only at hm152
     refine zH 0 Z Z Z Z (zI Z Z Tryz.call44 (zC Z zM) Z) hS146 (fun hs=>wBu x85 A94 c95 W140 U137 hs h148 h151) (.inr Z) ?_
     rintro U153 L154 v155 W156 le157 hS158 ⟨A159,c160,rfl,rfl⟩
     let B5:Res:=.row A159 c160 3 1 (nA KL.encI x149)
     have hS162:sW w U U153 [B5,B4,B2,B1] W156:=hS158
     refine oM Z Z (oR Z (zx Z Z (v:=.slice A159 x149.length c160) Z) (oR Z (zx Z Z (v:=jV x150) Z) (oA Z Z (oA Z Z (eN (zB (zB (CK.fresh fun σ163 hσ164=>?_))))))))
     have f165:σ163 0=.slice pA0 p0.length pc0:=(hσ164 0).trans rfl
     have f166:σ163 1=.slice pA1 p1.length pc1:=(hσ164 1).trans rfl
     have f167:σ163 2=.slice pA2 p2.length pc2:=(hσ164 2).trans rfl
     have f168:σ163 7=.slice A49 x40.length c50:=(hσ164 7).trans rfl
     have f169:σ163 8=.slice A63 x54.length c64:=(hσ164 8).trans rfl
     have f170:σ163 9=.slice A78 x69.length c79:=(hσ164 9).trans rfl
     have f171:σ163 10=.slice A94 x85.length c95:=(hσ164 10).trans rfl
     have f172:σ163 11=.slice A143 x133.length c144:=(hσ164 11).trans rfl
     have f173:σ163 12=jV x134:=(hσ164 12).trans rfl
     have f174:σ163 13=.slice A159 x149.length c160:=(hσ164 13).trans rfl
     have f175:σ163 14=jV x150:=(hσ164 14).trans rfl
     clear hσ164
     refine rR (wOd (.fx 6 (.fl 7 (.fl 8 (.nil))) .stop)) Z (oM Z f173 (oM Z f175 (oR Z (zw Z Z Z) (oM Z Z (ifc hm152 ?_ ?_)))))
     ·intro c176 hm177
      refine zZ Z Z Z (zm Z Z (zu (fun h=>h c176.out))) Z f172 (zZ Z Z Z (zm Z Z (zu (fun h=>h c176.out))) Z f174 ?_)
      have q:=hS162.freezeR (k:=1) (n:=x133.length) rfl (wAG (f:=KL.encI) (sz:=1) (fun _=>rfl) x133) (by decide)
      obtain ⟨U178,le179,hs180,hS181⟩:=q
      have hS182:sW w U U178 [B5,B2,B1] W156:=hS181
      have q:=hS182.freezeR (k:=0) (n:=x149.length) rfl (wAG (f:=KL.encI) (sz:=1) (fun _=>rfl) x149) (by decide)
      obtain ⟨U183,le184,hs185,hS186⟩:=q
      have hS187:sW w U U183 [B2,B1] W156:=hS186
      have h188:=hs180.le le184
      refine bnK hm177 fun x189 h190 hm191=>zH 0 Z Z Z (zm Z Z (zu (fun h=>h c176.out))) (zI Z Z Tryz.call15 (zC Z (zC Z zM)) Z) hS187 (fun hs=>wAj x133 A143 c144 x149 A159 c160 W156 U183 hs h188 hs185 h190) (.inr Z) ?_
      rintro U192 L193 v194 W195 le196 hS197 ⟨rfl,rfl⟩
      have hS198:sW w U U192 [B2,B1] W195:=hS197
      refine zt Z Z Z (zm Z Z (zu (fun h=>h c176.out))) (fun _=>ZI Z Z) (oR Z (zh Z (zu (fun h=>h c176.out)) Z) (eN (ifc hm191 ?_ ?_)))
      ·intro c199 hm200
       refine zU (nC c199.out) (kN (sR (.fl 0 (.fl 1 (.fx 2 (wMs (.nil)) .stop))) Z (oM Z f168 (oM Z f169 ?_))))
       have q:=hS198.freezeR (k:=1) (n:=x54.length) rfl (wAG (f:=KL.encI) (sz:=1) (fun _=>rfl) x54) (by decide)
       obtain ⟨U201,le202,hs203,hS204⟩:=q
       have hS205:sW w U U201 [B2] W195:=hS204
       have h206:=h132.le le141
       have h207:=h206.le le157
       have h208:=h207.le le179
       have h209:=h208.le le184
       have h210:=h209.le le196
       have h211:=h210.le le202
       have q:=bnd hm200
       obtain ⟨⟨x212,x213⟩,h214,hm215⟩:=q
       try dsimp only at hm215
       refine zH 0 Z Z Z Z (zI Z Z Tryz.call45 (zC Z (zC Z zM)) Z) hS205 (fun hs=>wDQ x40 A49 c50 x54 A63 c64 W195 U201 hs h211 hs203 h214) (.inr Z) ?_
       rintro U216 L217 v218 W219 le220 hS221 ⟨A222,c223,h224,rfl,rfl⟩
       have hS227:sW w U U216 [.row A222 c223 31 1 (nA wEY h224),inn 3 1 KL.encI h224 x212,B2] W219:=hS221
       have q:=St.freezeN (R:=wMH) hS227 (fun _ _ _ _ h=>⟨_,_,rfl,h⟩) (fun _=>rfl) (by decide) rfl
       obtain ⟨U228,le229,hs230,hS231⟩:=q
       have hS232:sW w U U228 [B2] W219:=hS231
       refine oM Z Z (oR Z (zx Z Z (v:=.slice A222 x212.length c223) Z) (oR Z (zx Z Z (v:=jV x213) Z) (oA Z Z (oA Z Z (eN (sR (.fl 0 (.fl 1 (.fx 2 (wMs (.nil)) .stop))) Z (oM Z f171 (oM Z f166 ?_))))))))
       have h233:=h148.le le157
       have h234:=h233.le le179
       have h235:=h234.le le184
       have h236:=h235.le le196
       have h237:=h236.le le202
       have h238:=h237.le le220
       have h239:=h238.le le229
       have h240:=h53.le le61
       have h241:=h240.le le76
       have h242:=h241.le le92
       have h243:=h242.le le99
       have h244:=h243.le le110
       have h245:=h244.le le114
       have h246:=h245.le le125
       have h247:=h246.le le141
       have h248:=h247.le le157
       have h249:=h248.le le179
       have h250:=h249.le le184
       have h251:=h250.le le196
       have h252:=h251.le le202
       have h253:=h252.le le220
       have h254:=h253.le le229
       have q:=bnd hm215
       obtain ⟨⟨x255,x256⟩,h257,hm258⟩:=q
       try dsimp only at hm258
       refine zH 0 Z Z Z Z (zI Z Z Tryz.call46 (zC Z (zC Z zM)) Z) hS232 (fun hs=>wBv x85 A94 c95 p1 pA1 pc1 W219 U228 hs h239 h254 h257) (.inr Z) ?_
       rintro U259 L260 v261 W262 le263 hS264 ⟨A265,c266,c267,rfl,rfl,h269⟩
       have hS270:sW w U U259 [.row A265 c266 31 1 c267,B2] W262:=hS264
       refine oM Z Z (oR Z (zx Z Z (v:=.slice A265 x255.length c266) Z) (oR Z (zx Z Z (v:=jV x256) Z) (oA Z Z (oA Z Z (eN (zB (sR (wOd (.fx 6 (.fl 7 (.fl 8 (.nil))) .stop)) Z (oM Z Z (oM Z Z (oR Z (zw Z Z Z) (oM Z Z (ifc hm258 ?_ ?_))))))))))))
       ·intro c271 hm272
        refine zZ Z Z Z (zm Z Z (zu (fun h=>h c271.out))) Z Z (zZ Z Z Z (zm Z Z (zu (fun h=>h c271.out))) Z Z ?_)
        have q:=hS270.freezeRR (R:=wMH) (k:=0) rfl h269 rfl (by decide)
        obtain ⟨U273,le274,hs275,hS276⟩:=q
        have hS277:sW w U U273 [B2] W262:=hS276
        have h278:=hs230.le le263
        have h279:=h278.le le274
        refine bnK hm272 fun x280 h281 hm282=>zH 0 Z Z Z (zm Z Z (zu (fun h=>h c271.out))) (zI Z Z Tryz.call47 (zC Z (zC Z zM)) Z) hS277 (fun hs=>wCV x212 A222 c223 x255 A265 c266 W262 U273 hs h279 hs275 h281) (.inr Z) ?_
        rintro U283 L284 v285 W286 le287 hS288 ⟨rfl,rfl⟩
        have hS289:sW w U U283 [B2] W286:=hS288
        refine zt Z Z Z (zm Z Z (zu (fun h=>h c271.out))) (fun _=>ZI Z Z) (oR Z (zh Z (zu (fun h=>h c271.out)) Z) (eN (ifc hm282 ?_ ?_)))
        ·intro c290 hm291
         refine zU (nC c290.out) (kN (sR (wPq (.fx 3 (wPr (.nil)) .stop)) Z (oM Z f168 (oM Z f169 (oM Z f170 ?_)))))
         have q:=hS289.freezeR (k:=0) (n:=x69.length) rfl (wAG (f:=KL.encI) (sz:=1) (fun _=>rfl) x69) (by decide)
         obtain ⟨U292,le293,hs294,hS295⟩:=q
         have hS296:sW w U U292 [] W286:=hS295
         have h297:=h211.le le220
         have h298:=h297.le le229
         have h299:=h298.le le263
         have h300:=h299.le le274
         have h301:=h300.le le287
         have h302:=h301.le le293
         have h303:=hs203.le le220
         have h304:=h303.le le229
         have h305:=h304.le le263
         have h306:=h305.le le274
         have h307:=h306.le le287
         have h308:=h307.le le293
         have q:=bnd hm291
         obtain ⟨⟨x309,x310⟩,h311,hm312⟩:=q
         try dsimp only at hm312
         refine zH 0 Z Z Z Z (zI Z Z Tryz.call48 (zC Z (zC Z (zC Z zM))) Z) hS296 (fun hs=>wHJ x40 A49 c50 x54 A63 c64 x69 A78 c79 W286 U292 hs h302 h308 hs294 h311) (.inr Z) ?_
         rintro U313 L314 v315 W316 le317 hS318 ⟨A319,c320,rfl,rfl⟩
         let B6:Res:=.row A319 c320 3 1 (nA KL.encI x309)
         have hS322:sW w U U313 [B6] W316:=hS318
         refine oM Z Z (oR Z (zx Z Z (v:=.slice A319 x309.length c320) Z) (oR Z (zx Z Z (v:=jV x310) Z) (oA Z Z (oA Z Z (eN (zB (CK.fresh fun σ323 hσ324=>?_)))))))
         have f325:σ323 0=.slice pA0 p0.length pc0:=(hσ324 0).trans f165
         have f326:σ323 1=.slice pA1 p1.length pc1:=(hσ324 1).trans f166
         have f327:σ323 2=.slice pA2 p2.length pc2:=(hσ324 2).trans f167
         have f328:σ323 7=.slice A49 x40.length c50:=(hσ324 7).trans f168
         have f329:σ323 8=.slice A63 x54.length c64:=(hσ324 8).trans f169
         have f330:σ323 9=.slice A78 x69.length c79:=(hσ324 9).trans f170
         have f331:σ323 10=.slice A94 x85.length c95:=(hσ324 10).trans f171
         have f332:σ323 11=.slice A319 x309.length c320:=(hσ324 11).trans rfl
         have f333:σ323 12=jV x310:=(hσ324 12).trans rfl
         have f334:σ323 13=.slice A159 x149.length c160:=(hσ324 13).trans f174
         have f335:σ323 14=jV x256:=(hσ324 14).trans rfl
         clear hσ324
         refine rR (wPq (.fx 3 (wPr (.nil)) .stop)) Z (oM Z f331 (oM Z f326 (oM Z f327 ?_)))
         have h336:=h239.le le263
         have h337:=h336.le le274
         have h338:=h337.le le287
         have h339:=h338.le le293
         have h340:=h339.le le317
         have h341:=h254.le le263
         have h342:=h341.le le274
         have h343:=h342.le le287
         have h344:=h343.le le293
         have h345:=h344.le le317
         have h346:=h68.le le76
         have h347:=h346.le le92
         have h348:=h347.le le99
         have h349:=h348.le le110
         have h350:=h349.le le114
         have h351:=h350.le le125
         have h352:=h351.le le141
         have h353:=h352.le le157
         have h354:=h353.le le179
         have h355:=h354.le le184
         have h356:=h355.le le196
         have h357:=h356.le le202
         have h358:=h357.le le220
         have h359:=h358.le le229
         have h360:=h359.le le263
         have h361:=h360.le le274
         have h362:=h361.le le287
         have h363:=h362.le le293
         have h364:=h363.le le317
         have q:=bnd hm312
         obtain ⟨⟨x365,x366⟩,h367,hm368⟩:=q
         try dsimp only at hm368
         refine zH 0 Z Z Z Z (zI Z Z Tryz.call49 (zC Z (zC Z (zC Z zM))) Z) hS322 (fun hs=>wDg x85 A94 c95 p1 pA1 pc1 p2 pA2 pc2 W316 U313 hs h340 h345 h364 h367) (.inr Z) ?_
         rintro U369 L370 v371 W372 le373 hS374 ⟨A375,c376,rfl,rfl⟩
         let B7:Res:=.row A375 c376 3 1 (nA KL.encI x365)
         have hS378:sW w U U369 [B7,B6] W372:=hS374
         refine oM Z Z (oR Z (zx Z Z (v:=.slice A375 x365.length c376) Z) (oR Z (zx Z Z (v:=jV x366) Z) (oA Z Z (oA Z Z (eN (sR (wOd (.fx 6 (wPt (.fx 11 (wOg (.fx 16 (wOi (.fx 21 (.fl 22 (.fl 23 (.fx 24 (.fl 25 (.fl 26 (.nil))) .stop))) .stop)) .stop)) .stop)) .stop)) Z (oM Z f333 (oM Z Z (oR Z (Runs.eql Z Z Z) (oM Z Z (ifc hm368 ?_ ?_)))))))))))
         ·intro c379 hm380
          refine zZ Z Z Z (wT Z c379) Z f332 (zZ Z Z Z (wT Z c379) Z Z ?_)
          have q:=hS378.freezeR (k:=1) (n:=x309.length) rfl (wAG (f:=KL.encI) (sz:=1) (fun _=>rfl) x309) (by decide)
          obtain ⟨U381,le382,hs383,hS384⟩:=q
          have hS385:sW w U U381 [B7] W372:=hS384
          have q:=hS385.freezeR (k:=0) (n:=x365.length) rfl (wAG (f:=KL.encI) (sz:=1) (fun _=>rfl) x365) (by decide)
          obtain ⟨U386,le387,hs388,hS389⟩:=q
          have hS390:sW w U U386 [] W372:=hS389
          have h391:=hs383.le le387
          refine bnK hm380 fun x392 h393 hm394=>zH 0 Z Z Z (wT Z c379) (zI Z Z Tryz.call15 (zC Z (zC Z zM)) Z) hS390 (fun hs=>wAj x309 A319 c320 x365 A375 c376 W372 U386 hs h391 hs388 h393) (.inr Z) ?_
          rintro U395 L396 v397 W398 le399 hS400 ⟨rfl,rfl⟩
          have hS401:sW w U U395 [] W398:=hS400
          refine oR Z (zr Z (wFs c379.out) Z) (oM Z Z (ifc hm394 ?_ ?_))
          ·intro c402 hm403
           refine zZ Z Z Z (zm Z Z (congrArg nD c402.out)) Z f328 (zZ Z Z Z (zm Z Z (congrArg nD c402.out)) Z f325 ?_)
           have h404:=h302.le le317
           have h405:=h404.le le373
           have h406:=h405.le le382
           have h407:=h406.le le387
           have h408:=h407.le le399
           have h409:=h84.le le92
           have h410:=h409.le le99
           have h411:=h410.le le110
           have h412:=h411.le le114
           have h413:=h412.le le125
           have h414:=h413.le le141
           have h415:=h414.le le157
           have h416:=h415.le le179
           have h417:=h416.le le184
           have h418:=h417.le le196
           have h419:=h418.le le202
           have h420:=h419.le le220
           have h421:=h420.le le229
           have h422:=h421.le le263
           have h423:=h422.le le274
           have h424:=h423.le le287
           have h425:=h424.le le293
           have h426:=h425.le le317
           have h427:=h426.le le373
           have h428:=h427.le le382
           have h429:=h428.le le387
           have h430:=h429.le le399
           refine bnK hm403 fun x431 h432 hm433=>zH 0 Z Z Z (zm Z Z (congrArg nD c402.out)) (zI Z Z Tryz.call50 (zC Z (zC Z zM)) Z) hS401 (fun hs=>wBw x40 A49 c50 p0 pA0 pc0 W398 U395 hs h408 h430 h432) (.inr Z) ?_
           rintro U434 L435 v436 W437 le438 hS439 ⟨rfl,rfl⟩
           have hS440:sW w U U434 [] W437:=hS439
           refine oR Z (zr Z (congrArg nD c402.out) Z) (oM Z Z (ifc hm433 ?_ ?_))
           ·intro c441 hm442
            refine zZ Z Z Z (zm Z Z (congrArg nD c441.out)) Z f329 (zZ Z Z Z (zm Z Z (congrArg nD c441.out)) Z f326 ?_)
            have h443:=h308.le le317
            have h444:=h443.le le373
            have h445:=h444.le le382
            have h446:=h445.le le387
            have h447:=h446.le le399
            have h448:=h447.le le438
            have h449:=h345.le le373
            have h450:=h449.le le382
            have h451:=h450.le le387
            have h452:=h451.le le399
            have h453:=h452.le le438
            refine bnK hm442 fun x454 h455 hm456=>zH 0 Z Z Z (zm Z Z (congrArg nD c441.out)) (zI Z Z Tryz.call15 (zC Z (zC Z zM)) Z) hS440 (fun hs=>wAj x54 A63 c64 p1 pA1 pc1 W437 U434 hs h448 h453 h455) (.inr Z) ?_
            rintro U457 L458 v459 W460 le461 hS462 ⟨rfl,rfl⟩
            have hS463:sW w U U457 [] W460:=hS462
            refine oR Z (zr Z (congrArg nD c441.out) Z) (oM Z Z (ifc hm456 ?_ ?_))
            ·intro c464 hm465
             refine zZ Z Z Z (zm Z Z (congrArg nD c464.out)) Z f330 (zZ Z Z Z (zm Z Z (congrArg nD c464.out)) Z f327 ?_)
             have h466:=hs294.le le317
             have h467:=h466.le le373
             have h468:=h467.le le382
             have h469:=h468.le le387
             have h470:=h469.le le399
             have h471:=h470.le le438
             have h472:=h471.le le461
             have h473:=h364.le le373
             have h474:=h473.le le382
             have h475:=h474.le le387
             have h476:=h475.le le399
             have h477:=h476.le le438
             have h478:=h477.le le461
             refine bnK hm465 fun x479 h480 hm481=>zH 0 Z Z Z (zm Z Z (congrArg nD c464.out)) (zI Z Z Tryz.call15 (zC Z (zC Z zM)) Z) hS463 (fun hs=>wAj x69 A78 c79 p2 pA2 pc2 W460 U457 hs h472 h478 h480) (.inr Z) ?_
             rintro U482 L483 v484 W485 le486 hS487 ⟨rfl,rfl⟩
             have hS488:sW w U U482 [] W485:=hS487
             refine oR Z (zr Z (congrArg nD c464.out) Z) (oM Z Z (ifc hm481 ?_ ?_))
             ·intro c489 hm490
              refine bnK hm490 fun x491 h492 hm493=>zH 0 Z Z Z (zm Z Z (congrArg nD c489.out)) (zI Z Z Tryz.call11 zM Z) hS488 (fun hs=>wBG W485 U482 hs h492) (.inr Z) ?_
              rintro U494 L495 v496 W497 le498 hS499 ⟨rfl,rfl⟩
              have hS500:sW w U U494 [] W497:=hS499
              refine oR Z (zr Z (congrArg nD c489.out) Z) (oA Z Z (eN (zG ?_)))
              have hE:=nB hm493;first | subst r | cases hE
              exact ⟨Z,_,(zd Z),U494,_,hS500,Z,Z⟩
             ·intro c489 hm501
              refine ZC Z Z Z (zi Z Z (congrArg nD (nE.2 c489.out)) Z) (oR Z (zh Z (congrArg nD (nE.2 c489.out)) Z) (oA Z Z (eN (zG ?_))))
              have hE:=nB hm501;first | subst r | cases hE
              exact ⟨Z,_,(zd Z),U482,_,hS488,Z,Z⟩
            ·intro c464 hm502
             refine OKS.p Z Z Z (zi Z Z (congrArg nD (nE.2 c464.out)) Z) (OKS.p Z Z Z (zi Z Z (congrArg nD (nE.2 c464.out)) Z) (ZC Z Z Z (zi Z Z (congrArg nD (nE.2 c464.out)) Z) (oR Z (zh Z (congrArg nD (nE.2 c464.out)) Z) (oM Z Z (ZC Z Z Z (zi Z Z Z Z) (oR Z (zh Z Z Z) (oA Z Z (eN (zG ?_)))))))))
             have hE:=nB hm502;first | subst r | cases hE
             exact ⟨Z,_,(zd Z),U457,_,hS463,Z,Z⟩
           ·intro c441 hm503
            refine OKS.p Z Z Z (zi Z Z (congrArg nD (nE.2 c441.out)) Z) (OKS.p Z Z Z (zi Z Z (congrArg nD (nE.2 c441.out)) Z) (ZC Z Z Z (zi Z Z (congrArg nD (nE.2 c441.out)) Z) (oR Z (zh Z (congrArg nD (nE.2 c441.out)) Z) (oM Z Z (oN Z (oN Z (ZC Z Z Z (zi Z Z Z Z) (oR Z (zh Z Z Z) (oM Z Z (ZC Z Z Z (zi Z Z Z Z) (oR Z (zh Z Z Z) (oA Z Z (eN (zG ?_))))))))))))))
            have hE:=nB hm503;first | subst r | cases hE
            exact ⟨Z,_,(zd Z),U434,_,hS440,Z,Z⟩
          ·intro c402 hm504
           refine OKS.p Z Z Z (zi Z Z (congrArg nD (nE.2 c402.out)) Z) (OKS.p Z Z Z (zi Z Z (congrArg nD (nE.2 c402.out)) Z) (ZC Z Z Z (zi Z Z (congrArg nD (nE.2 c402.out)) Z) (oR Z (zh Z (congrArg nD (nE.2 c402.out)) Z) (oM Z Z (oN Z (oN Z (ZC Z Z Z (zi Z Z Z Z) (oR Z (zh Z Z Z) (oM Z Z (oN Z (oN Z (ZC Z Z Z (zi Z Z Z Z) (oR Z (zh Z Z Z) (oM Z Z (ZC Z Z Z (zi Z Z Z Z) (oR Z (zh Z Z Z) (oA Z Z (eN (zG ?_)))))))))))))))))))
           have hE:=nB hm504;first | subst r | cases hE
           exact ⟨Z,_,(zd Z),U395,_,hS401,Z,Z⟩
         ·intro c379 hm505
          refine oF Z c379 (oF Z c379 (ZC Z Z Z (zi Z Z (zu c379.out) Z) (oR Z (zh Z (zu c379.out) Z) (oM Z Z (oN Z (oN Z (ZC Z Z Z (zi Z Z Z Z) (oR Z (zh Z Z Z) (oM Z Z (oN Z (oN Z (ZC Z Z Z (zi Z Z Z Z) (oR Z (zh Z Z Z) (oM Z Z (oN Z (oN Z (ZC Z Z Z (zi Z Z Z Z) (oR Z (zh Z Z Z) (oM Z Z (ZC Z Z Z (zi Z Z Z Z) (oR Z (zh Z Z Z) (oA Z Z (eN (zG ?_))))))))))))))))))))))))
          have hE:=nB hm505;first | subst r | cases hE
          exact ⟨rfl,_,(zd rfl),U369,_,(hS378.pick [] _ (by decide) rfl),rfl,rfl⟩
        ·intro c290 hm506
         refine zY (nF (c290.out)) (sR fL1 Z (oA Z Z (eN (zG (zE ?_)))))
         have hE:=nB hm506;first | subst r | cases hE
         exact ⟨rfl,_,(zd rfl),U283,_,(hS289.pick [] _ (by decide) rfl),rfl,rfl⟩
       ·intro c271 hm507
        refine oT Z c271 (oT Z c271 (ZC Z Z Z (zi Z Z (wFs c271.out) Z) (oT Z c271 (oR Z (zr Z (wFs c271.out) Z) (eN (zY Z (sR fL1 Z (oA Z Z (eN (zG (zE ?_)))))))))))
        have hE:=nB hm507;first | subst r | cases hE
        exact ⟨rfl,_,(zd rfl),U259,_,(hS270.pick [] _ (by decide) rfl),rfl,rfl⟩
      ·intro c199 hm508
       refine zY (nF (c199.out)) (sR fL1 Z (oA Z Z (eN (zG (zE ?_)))))
       have hE:=nB hm508;first | subst r | cases hE
       exact ⟨rfl,_,(zd rfl),U192,_,(hS198.pick [] _ (by decide) rfl),rfl,rfl⟩
     ·intro c176 hm509
      refine oT Z c176 (oT Z c176 (ZC Z Z Z (zi Z Z (wFs c176.out) Z) (oT Z c176 (oR Z (zr Z (wFs c176.out) Z) (eN (zY Z (sR fL1 Z (oA Z Z (eN (zG (zE ?_)))))))))))
      have hE:=nB hm509;first | subst r | cases hE
      exact ⟨rfl,_,(zd rfl),U153,_,(hS162.pick [] _ (by decide) rfl),rfl,rfl⟩
    ·intro c128 hm510
     refine cT Z c128 (sR fL1 Z (oA Z Z (eN (zG (zE ?_)))))
     have hE:=nB hm510;first | subst r | cases hE
     exact ⟨rfl,_,(zd rfl),U121,_,(hS127.pick [] _ (by decide) rfl),rfl,rfl⟩
end Go.Proofs.YtghaibkggdecnaaGreat
