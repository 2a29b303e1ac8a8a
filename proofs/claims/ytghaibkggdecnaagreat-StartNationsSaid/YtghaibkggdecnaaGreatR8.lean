import Derived.Test.YtghaibkggdecnaaGreatR7
set_option linter.all false
open List renaming flatMap->nA,length_append->nI,length_cons->nJ,length_nil->nK,getElem_cons_succ->nL,getElem_cons_zero->nM,getElem_toArray->nO
open Go.Value renaming bool->nB
open Option.some renaming inj->nD
open Bool renaming eq_false_iff->nE
open Prod.mk renaming injEq->nG
open Nat renaming blt->nH,le_of_ble_eq_true->nN
namespace Go.Proofs.YtghaibkggdecnaaGreat
open Go.KL
set_option maxHeartbeats 4000000
theorem Z {α:Type} {a:α}:a=a:=rfl
section
variable {r:Option Nat} {N:Nat} {P:Program} {l:List Oper} {Q:wDC} {D:List Deferred} {ks:List Nat} {σ:Env} {w:World} {i d j e:Nat} {s:Sch} {o:Oper} {b:Bool} {x:Operand} {v:Value} {p:Prop} {inst:Decidable p} {K:List Deferred->Env->World->Prop} {c1 c2:Code}
abbrev jV (n:Int):Value:=.int .i64 n
abbrev SW (w:World) (X:List Res) (U U':PHeap) (L:List Res) (w':World):Prop:=St ⟨w,X,U⟩ U' L w'
abbrev sW (w:World) (U U':PHeap) (L:List Res) (w':World):Prop:=St ⟨w,[],U⟩ U' L w'
abbrev St0 (w:World) (U:PHeap) (L:List Res):Prop:=St ⟨w,L,U⟩ U L w
theorem ifc {α:Type} {G p:Prop} {inst:Decidable p} {a b r:α} (h:@ite α p inst a b=r) (h1:Hid p->a=r->G) (h2:Hid (¬ p)->b=r->G):G:=by
 by_cases c:p
 · rw [if_pos c] at h;exact h1 ⟨c⟩ h
 · rw [if_neg c] at h;exact h2 ⟨c⟩ h
theorem bnK {α β:Type} {G:Prop} {o:Option α} {f:α->Option β} {r:β} (h:o.bind f=some r) (k:∀ x,o=some x->f x=some r->G):G:=by
 obtain ⟨x,h1,h2⟩:=bnd h
 exact k x h1 h2
theorem oR (h:(l[i]?,o.dst,nH d N,wanted l σ o)=(some o,some d,true,true)) (hr:∀ {w'},Runs P σ w' o v w') (k:OKS N P l Q D ks s (upd σ d v) w):OKS N P l Q D ks (.fl i s) σ w:=by
 simp only [nG] at h;exact OKS.r h.1 h.2.1 h.2.2.1 h.2.2.2 (fun _=>hr) k
theorem oL (h:(l[i]?,o.dst,nH d N,wanted l σ o,wQP (kOf ks i))=(some o,some d,true,true,false)) (hr:wFW P σ w o v) (k:OKS N P l Q D ks s (upd σ d v) w):OKS N P l Q D ks (.fl i s) σ w:=by
 simp only [nG] at h;exact OKS.m h.1 h.2.1 h.2.2.1 h.2.2.2.1 hr h.2.2.2.2 k
theorem oM (h:(l[i]?,o.dst,nH d N,wanted l σ o,o.op)=(some o,some d,true,true,.move x)) (hx:ev σ x=v) (k:OKS N P l Q D ks s (upd σ d v) w):OKS N P l Q D ks (.fl i s) σ w:=by
 simp only [nG] at h;exact OKS.rm h.1 h.2.1 h.2.2.1 h.2.2.2.1 h.2.2.2.2 hx k
theorem oA (h:(l[i]?,o.dst,nH d N,wanted l σ o,o.op)=(some o,some d,true,true,.assign x)) (hx:ev σ x=v) (k:OKS N P l Q D ks s (upd σ d v) w):OKS N P l Q D ks (.fl i s) σ w:=by
 simp only [nG] at h;exact OKS.ra h.1 h.2.1 h.2.2.1 h.2.2.2.1 h.2.2.2.2 hx k
theorem oF (h:(l[i]?,o.dst,nH d N,o.guard,(l[j]?).bind (·.dst),σ e,false == b)=(some o,some d,true,some (j,b),some e,.bool (decide p),false)) (c:Hid (¬ p)) (k:OKS N P l Q D ks s (upd σ d undef) w):OKS N P l Q D ks (.fl i s) σ w:=by
 simp only [nG] at h;exact OKS.p h.1 h.2.1 h.2.2.1 (wFv h.2.2.2.1 h.2.2.2.2.1 (h.2.2.2.2.2.1.trans (wQO c.out)) h.2.2.2.2.2.2) k
theorem oT (h:(l[i]?,o.dst,nH d N,o.guard,(l[j]?).bind (·.dst),σ e,true == b)=(some o,some d,true,some (j,b),some e,.bool (decide p),false)) (c:Hid p) (k:OKS N P l Q D ks s (upd σ d undef) w):OKS N P l Q D ks (.fl i s) σ w:=by
 simp only [nG] at h;exact OKS.p h.1 h.2.1 h.2.2.1 (wFv h.2.2.2.1 h.2.2.2.2.1 (h.2.2.2.2.2.1.trans (wQN c.out)) h.2.2.2.2.2.2) k
theorem oN {b2:Bool} (h:(l[i]?,o.dst,nH d N,o.guard,(l[j]?).bind (·.dst),σ e,b2 == b)=(some o,some d,true,some (j,b),some e,.bool b2,false)) (k:OKS N P l Q D ks s (upd σ d undef) w):OKS N P l Q D ks (.fl i s) σ w:=by
 simp only [nG] at h;exact OKS.p h.1 h.2.1 h.2.2.1 (wFv h.2.2.2.1 h.2.2.2.2.1 h.2.2.2.2.2.1 h.2.2.2.2.2.2) k
theorem nC {a b:Bool} (h:a=b):nB (!a)=nB (!b):=h ▸ rfl
theorem nF {a:Bool} (h:¬ a=true):nB (!a)=nB (!false):=nC (nE.2 h)
theorem wT (h:(o.guard,(l[j]?).bind (·.dst),σ e)=(some (j,true),some e,.bool (decide p))) (c:Hid p):wanted l σ o=true:=by
 simp only [nG] at h;exact wHO h.1 h.2.1 (h.2.2.trans (wQN c.out))
theorem wF (h:(o.guard,(l[j]?).bind (·.dst),σ e)=(some (j,false),some e,.bool (decide p))) (c:Hid (¬ p)):wanted l σ o=true:=by
 simp only [nG] at h;exact wHO h.1 h.2.1 (h.2.2.trans (wQO c.out))
theorem rU (h:(l[i]?,o.dst,nH d N)=(some o,some d,true)) (hw:wanted l σ o=true) (hr:∀ {w'},Runs P σ w' o v w') (k:OKS N P l Q D ks s (upd σ d v) w):OKS N P l Q D ks (.fl i s) σ w:=by
 simp only [nG] at h;exact OKS.r h.1 h.2.1 h.2.2 hw (fun _=>hr) k
theorem sR {id:Nat} (s:Sch) (hs:inOrder 0 s l.length=true) (h:OKS N P l (wEg (fun D σ w=>CK r N P c2 Q D σ w) Q) D [] s σ w):CK r N P (.seq (.region id l.toArray false) c2) Q D σ w:=CK.seq (CK.reg s hs h)
theorem rR {id:Nat} (s:Sch) (hs:inOrder 0 s l.length=true) (h:OKS N P l Q D [] s σ w):CK r N P (.region id l.toArray false) Q D σ w:=CK.reg s hs h
theorem eN (h:K D σ w):OKS N P l (wEg K Q) D ks .nil σ w:=OKS.e (wHL h)
theorem cT (hz:ev σ x=.bool (decide p)) (c:Hid p) (h:CK r N P c1 Q D σ w):CK r N P (.cond x c1 c2) Q D σ w:=CK.condT (hz.trans (wQN c.out)) h
theorem cF (hz:ev σ x=.bool (decide p)) (c:Hid (¬ p)) (h:CK r N P c2 Q D σ w):CK r N P (.cond x c1 c2) Q D σ w:=CK.condF (hz.trans (wQO c.out)) h
theorem kN (h:K D σ w):CK r N P .skip (wEg K Q) D σ w:=CK.skip (wHL h)
end
def fL1:Sch:=.fl 0 (.nil)
def fL2:Sch:=.fl 0 (.fl 1 (.nil))
def fL3:Sch:=.fl 0 (.fl 1 (.fl 2 (.nil)))
def fL4:Sch:=.fl 0 (.fl 1 (.fl 2 (.fl 3 (.nil))))
def fL5:Sch:=.fl 0 (.fl 1 (.fl 2 (.fl 3 (.fl 4 (.nil)))))
def fL6:Sch:=.fl 0 (.fl 1 (.fl 2 (.fl 3 (.fl 4 (.fl 5 (.nil))))))
def fL7:Sch:=.fl 0 (.fl 1 (.fl 2 (.fl 3 (.fl 4 (.fl 5 (.fl 6 (.nil)))))))
def fL8:Sch:=.fl 0 (.fl 1 (.fl 2 (.fl 3 (.fl 4 (.fl 5 (.fl 6 (.fl 7 (.nil))))))))
def fL9:Sch:=.fl 0 (.fl 1 (.fl 2 (.fl 3 (.fl 4 (.fl 5 (.fl 6 (.fl 7 (.fl 8 (.nil)))))))))
def fL10:Sch:=.fl 0 (.fl 1 (.fl 2 (.fl 3 (.fl 4 (.fl 5 (.fl 6 (.fl 7 (.fl 8 (.fl 9 (.nil))))))))))
def fL12:Sch:=.fl 0 (.fl 1 (.fl 2 (.fl 3 (.fl 4 (.fl 5 (.fl 6 (.fl 7 (.fl 8 (.fl 9 (.fl 10 (.fl 11 (.nil))))))))))))
def fL13:Sch:=.fl 0 (.fl 1 (.fl 2 (.fl 3 (.fl 4 (.fl 5 (.fl 6 (.fl 7 (.fl 8 (.fl 9 (.fl 10 (.fl 11 (.fl 12 (.nil)))))))))))))
def fL24:Sch:=.fl 0 (.fl 1 (.fl 2 (.fl 3 (.fl 4 (.fl 5 (.fl 6 (.fl 7 (.fl 8 (.fl 9 (.fl 10 (.fl 11 (.fl 12 (.fl 13 (.fl 14 (.fl 15 (.fl 16 (.fl 17 (.fl 18 (.fl 19 (.fl 20 (.fl 21 (.fl 22 (.fl 23 (.nil))))))))))))))))))))))))
def fL27:Sch:=.fl 0 (.fl 1 (.fl 2 (.fl 3 (.fl 4 (.fl 5 (.fl 6 (.fl 7 (.fl 8 (.fl 9 (.fl 10 (.fl 11 (.fl 12 (.fl 13 (.fl 14 (.fl 15 (.fl 16 (.fl 17 (.fl 18 (.fl 19 (.fl 20 (.fl 21 (.fl 22 (.fl 23 (.fl 24 (.fl 25 (.fl 26 (.nil)))))))))))))))))))))))))))
def fL42:Sch:=.fl 0 (.fl 1 (.fl 2 (.fl 3 (.fl 4 (.fl 5 (.fl 6 (.fl 7 (.fl 8 (.fl 9 (.fl 10 (.fl 11 (.fl 12 (.fl 13 (.fl 14 (.fl 15 (.fl 16 (.fl 17 (.fl 18 (.fl 19 (.fl 20 (.fl 21 (.fl 22 (.fl 23 (.fl 24 (.fl 25 (.fl 26 (.fl 27 (.fl 28 (.fl 29 (.fl 30 (.fl 31 (.fl 32 (.fl 33 (.fl 34 (.fl 35 (.fl 36 (.fl 37 (.fl 38 (.fl 39 (.fl 40 (.fl 41 (.nil))))))))))))))))))))))))))))))))))))))))))
def wNY (s:Sch):Sch:=.fl 0 (.fl 1 (.fl 2 (s)))
def wLM (s:Sch):Sch:=.fl 0 (.fl 1 (.fl 2 (.fl 3 (s))))
def wIp (s:Sch):Sch:=.fl 0 (.fl 1 (.fl 2 (.fl 3 (.fl 4 (s)))))
def wRV (s:Sch):Sch:=.fl 0 (.fl 1 (.fl 2 (.fl 3 (.fl 4 (.fl 5 (s))))))
def wQD (s:Sch):Sch:=.fl 0 (.fl 1 (.fl 2 (.fl 3 (.fl 4 (.fl 5 (.fl 6 (s)))))))
def wRW (s:Sch):Sch:=.fl 0 (.fl 1 (.fl 2 (.fl 3 (.fl 4 (.fl 5 (.fl 6 (.fl 7 (.fl 8 (.fl 9 (s))))))))))
def wRX (s:Sch):Sch:=.fl 0 (.fl 1 (.fl 2 (.fl 3 (.fl 4 (.fl 5 (.fl 6 (.fl 7 (.fl 8 (.fl 9 (.fl 10 (.fl 11 (.fl 12 (s)))))))))))))
def fC1_3 (s:Sch):Sch:=.fl 1 (.fl 2 (.fl 3 (s)))
def wQE (s:Sch):Sch:=.fl 2 (.fl 3 (.fl 4 (.fl 5 (.fl 6 (s)))))
def wRY (s:Sch):Sch:=.fl 2 (.fl 3 (.fl 4 (.fl 5 (.fl 6 (.fl 7 (.fl 8 (s)))))))
def fC2_9 (s:Sch):Sch:=.fl 2 (.fl 3 (.fl 4 (.fl 5 (.fl 6 (.fl 7 (.fl 8 (.fl 9 (s))))))))
def wRZ (s:Sch):Sch:=.fl 2 (.fl 3 (.fl 4 (.fl 5 (.fl 6 (.fl 7 (.fl 8 (.fl 9 (.fl 10 (.fl 11 (s))))))))))
def wRa (s:Sch):Sch:=.fl 3 (.fl 4 (.fl 5 (s)))
def wIq (s:Sch):Sch:=.fl 3 (.fl 4 (.fl 5 (.fl 6 (.fl 7 (s)))))
def wRb (s:Sch):Sch:=.fl 4 (.fl 5 (.fl 6 (.fl 7 (.fl 8 (s)))))
def wRc (s:Sch):Sch:=.fl 6 (.fl 7 (.fl 8 (.fl 9 (.fl 10 (.fl 11 (s))))))
def wOp (s:Sch):Sch:=.fl 7 (.fl 8 (.fl 9 (.fl 10 (s))))
def wRd (s:Sch):Sch:=.fl 8 (.fl 9 (.fl 10 (.fl 11 (s))))
def wQF (s:Sch):Sch:=.fl 13 (.fl 14 (.fl 15 (.fl 16 (.fl 17 (.fl 18 (.fl 19 (s)))))))
theorem zA:type_of% @Tryz.runUnderlying31:=@Tryz.runUnderlying31
theorem zB:type_of% @CK.seq:=@CK.seq
theorem zC:type_of% @Hid.mk:=@Hid.mk
theorem zD:type_of% @wHL:=@wHL
theorem zE:type_of% @wLQ:=@wLQ
theorem zF:type_of% @Tryz.sizeOf3:=@Tryz.sizeOf3
theorem zG:type_of% @OKS.p:=@OKS.p
theorem zH:type_of% @wLP:=@wLP
theorem zI:type_of% @wHO:=@wHO
theorem zJ:type_of% @PHeap.Le.refl:=@PHeap.Le.refl
theorem zK:type_of% @OKS.rm:=@OKS.rm
theorem zL:type_of% @Tryz.isAgg3:=@Tryz.isAgg3
theorem zM:type_of% @OKS.callH:=@OKS.callH
theorem zN:type_of% @Enters.mk:=@Enters.mk
theorem zO:type_of% @CK.ret:=@CK.ret
theorem zP:type_of% @Runs.lss:=@Runs.lss
theorem zQ:type_of% @Runs.len:=@Runs.len
theorem zR:type_of% @Tryz.runUnderlying86:=@Tryz.runUnderlying86
theorem zS:type_of% @Runs.pickT:=@Runs.pickT
theorem zU:type_of% @CK.block:=@CK.block
theorem zV:type_of% @Tryz.runUnderlying58:=@Tryz.runUnderlying58
theorem zW:type_of% @wOQ:=@wOQ
theorem zX:type_of% @Runs.pickF:=@Runs.pickF
theorem zY:type_of% @nN:=@nN
theorem zZ:type_of% @OKS.r:=@OKS.r
theorem zd:type_of% @wJr:=@wJr
theorem ze:type_of% @wLO:=@wLO
theorem zf:type_of% @wFv:=@wFv
theorem zg:type_of% @Runs.addw:=@Runs.addw
theorem zh:type_of% @wJs:=@wJs
theorem zi:type_of% @wQO:=@wQO
theorem zj:type_of% @OKS.e:=@OKS.e
theorem zk:type_of% @CK.condF:=@CK.condF
theorem zl:type_of% @Runs.to:=@Runs.to
theorem zm:type_of% @res1:=@res1
theorem zn:type_of% @CK.condT:=@CK.condT
theorem zo:type_of% @Tryz.runUnderlying141:=@Tryz.runUnderlying141
theorem zp:type_of% @Tryz.sizeOf160:=@Tryz.sizeOf160
theorem zq:type_of% @wHM:=@wHM
theorem zr:type_of% @Tryz.sizeOf62:=@Tryz.sizeOf62
theorem zt:type_of% @Runs.iaN:=@Runs.iaN
theorem zu:type_of% @Runs.ext:=@Runs.ext
theorem zw:type_of% @Runs.neq:=@Runs.neq
theorem zx:type_of% @CK.exit:=@CK.exit
theorem zy:type_of% @CK.skip:=@CK.skip
theorem zz:type_of% @Tryz.runUnderlying157:=@Tryz.runUnderlying157
theorem ZA:type_of% @Tryz.runUnderlying62:=@Tryz.runUnderlying62
theorem ZB:type_of% @Runs.subw:=@Runs.subw
theorem ZC:type_of% @Tryz.isAgg58:=@Tryz.isAgg58
theorem ZD:type_of% @wQN:=@wQN
theorem ZE:type_of% @Runs.fa:=@Runs.fa
theorem ZF:type_of% @Tryz.sizeOf157:=@Tryz.sizeOf157
theorem ZG:type_of% @OKS.m:=@OKS.m
theorem ZH:type_of% @OKS.st:=@OKS.st
theorem ZI:type_of% @OKS.alloc:=@OKS.alloc
theorem ZJ:type_of% @Runs.gtr:=@Runs.gtr
theorem ZK:type_of% @Tryz.zeroValue3:=@Tryz.zeroValue3
theorem ZL:type_of% @Tryz.runUnderlying145:=@Tryz.runUnderlying145
theorem ZM:type_of% @Tryz.runUnderlying40:=@Tryz.runUnderlying40
theorem ZN:type_of% @Tryz.zeroValue160:=@Tryz.zeroValue160
theorem ZO:type_of% @Runs.iaI:=@Runs.iaI
theorem ZP:type_of% @Tryz.isAgg160:=@Tryz.isAgg160
theorem ZQ:type_of% @OKS.buildSlice:=@OKS.buildSlice
theorem ZR:type_of% @Tryz.sizeOf141:=@Tryz.sizeOf141
theorem ZS:type_of% @OKS.append:=@OKS.append
theorem ZT:type_of% @Tryz.underlying31:=@Tryz.underlying31
theorem ZU:type_of% @CK.forN:=@CK.forN
theorem ZV:type_of% @Runs.eql:=@Runs.eql
theorem ZW:type_of% @Runs.notT:=@Runs.notT
theorem ZX:type_of% @OKS.ra:=@OKS.ra
theorem ZY:type_of% @Tryz.runUnderlying161:=@Tryz.runUnderlying161
theorem Za:type_of% @Tryz.mixed:=@Tryz.mixed
theorem Zb:type_of% @OKS.px:=@OKS.px
theorem Zc:type_of% @Runs.iaA:=@Runs.iaA
theorem Zd:type_of% @CK.anyOrd:=@CK.anyOrd
end Go.Proofs.YtghaibkggdecnaaGreat
namespace Go.Proofs.YtghaibkggdecnaaGreat
open Go.KL
set_option maxHeartbeats 4000000
theorem wBQ (w:World) (U:PHeap) (hS:St0 w U []) {r:Bool} (hm:wBB=some r):Gv Tryz.prog 11 [] w (wCd w [] U (fun U_ L_ v=>v=.bool r/\L_=[])):=by
 cases hm
 refine (xr11 w).mono ?_
 rintro v w' ⟨rfl,k⟩
 exact ⟨U,[],hS.grow k,Z,Z⟩
theorem wCg (p0:List wAA) (pA0:Option Addr) (pc0:Nat) (w:World) (U:PHeap) (hS:St0 w U []) (ha0:Sl U 3 pA0 pc0 p0.length (nA wAE p0)) {r:(List wAA)} (hm:wAa p0=some r):Gv Tryz.prog 38 [.slice pA0 p0.length pc0] w (wCd w [] U (fun U_ L_ v=>∃ (A0:Option Addr) (c0:Nat),v=.slice A0 r.length c0/\L_=[.row A0 c0 62 3 (nA wAE r)])):=by
 unfold wAa at hm
 refine Gv.of Tryz.func38 Z Tryz.ntmps38 Tryz.results38 Z (sR fL1 Z (oA Z Z (eN (sR (.fl 0 (.fx 1 (.fl 2 (.nil)) .stop)) Z (oM Z Z ?_)))))
 have hS1:=hS.nilrow 62 3
 have hS3:sW w U U [.row none 0 62 3 (nA wAE ([]:List wAA))] w:=hS1
 refine bnK hm fun x4 h5 hm6=>ZS (j:=0) (enc:=wAE) (xs:=([]:List wAA)) (ys:=p0) (zs:=x4) Z Z Z Z Z Tryz.underlying58 wRH Z Z Z Z Z Z hS3 Z Z Z (hS3.srcS ha0) (fun _=>Z) (fun _=>Z) h5 Z ?_
 intro A7 c8 W9 hS10
 have hS11:sW w U U [.row A7 c8 62 3 (nA wAE x4)] W9:=hS10
 refine oA Z Z (eN (zO ?_))
 have hE:=nD hm6;first | subst r | cases hE
 exact ⟨Z,_,(zm Z),U,_,hS11,A7,c8,Z,Z⟩
theorem wCV (p0:List Int) (pA0:Option Addr) (pc0:Nat) (w:World) (U:PHeap) (hS:St0 w U []) (ha0:Sl U 1 pA0 pc0 p0.length (nA KL.encI p0)) {r:(List Int)} (hm:wAt p0=some r):Gv Tryz.prog 39 [.slice pA0 p0.length pc0] w (wCd w [] U (fun U_ L_ v=>∃ (A0:Option Addr) (c0:Nat),v=.slice A0 r.length c0/\L_=[.row A0 c0 3 1 (nA KL.encI r)])):=by
 unfold wAt at hm
 refine Gv.of Tryz.func39 Z Tryz.ntmps39 Tryz.results39 Z (sR fL1 Z (oA Z Z (eN (sR (.fl 0 (.fx 1 (.fl 2 (.nil)) .stop)) Z (oM Z Z ?_)))))
 have hS1:=hS.nilrow 3 1
 have hS3:sW w U U [.row none 0 3 1 (nA KL.encI ([]:List Int))] w:=hS1
 refine bnK hm fun x4 h5 hm6=>ZS (j:=0) (enc:=KL.encI) (xs:=([]:List Int)) (ys:=p0) (zs:=x4) Z Z Z Z Z ZT wIb Z Z Z Z Z Z hS3 Z Z Z (hS3.srcS ha0) (fun _=>Z) (fun _=>Z) h5 Z ?_
 intro A7 c8 W9 hS10
 have hS11:sW w U U [.row A7 c8 3 1 (nA KL.encI x4)] W9:=hS10
 refine oA Z Z (eN (zO ?_))
 have hE:=nD hm6;first | subst r | cases hE
 exact ⟨Z,_,(zm Z),U,_,hS11,A7,c8,Z,Z⟩
theorem wEA (p0:List wAA) (pA0:Option Addr) (pc0:Nat) (w:World) (U:PHeap) (hS:St0 w U []) (ha0:Sl U 3 pA0 pc0 p0.length (nA wAE p0)) {r:(List wAD)} (hm:wBM p0=some r):Gv Tryz.prog 40 [.slice pA0 p0.length pc0] w (wCd w [] U (fun U_ L_ v=>∃ (A0:Option Addr) (c0:Nat),v=.slice A0 r.length c0/\L_=[.row A0 c0 157 3 (nA wAH r)])):=by
 unfold wBM at hm
 refine Gv.of Tryz.func40 Z Tryz.ntmps40 Tryz.results40 Z (sR fL1 Z (oA Z Z (eN (sR fL1 Z (oA Z Z (eN (zB (sR fL3 Z (oM Z Z (oR Z (zQ Z Z zV) (oM Z Z (eN (zU (bnK hm fun y23 hf20 hm19=>?_))))))))))))))
 have q:=wBH hf20
 obtain ⟨hle21,hf22⟩:=q
 replace hle21:=zC hle21
 refine CK.forN' (fun k18 l14 σ_ w_=>∃ (U_:PHeap) (A15:Option Addr) (c16:Nat),σ_ 8=jV (↑k18:Int)/\σ_ 3=.slice A15 l14.length c16/\σ_ 6=.slice pA0 p0.length pc0/\σ_ 7=jV (↑p0.length:Int)/\PHeap.Le U U_/\sW w U U_ [.row A15 c16 157 3 (nA wAH l14)] w_) hf22 ?_ ?_ ?_
 ·have hS24:=hS.nilrow 157 3
  exact ⟨U,none,0,Z,Z,Z,Z,(zJ _),hS24⟩
 ·rintro k18 l14 xx28 σ26 W27 hk31 ⟨U33,A15,c16,fi32,f36,f37,f38,le34,hS35⟩ hx29
  have c39:Hid ((↑k18:Int) < (↑p0.length:Int)):=zC (wBU hk31)
  replace hk31:=zC hk31
  have hi40:Hid (w64 ((↑k18:Int) + 1)=(↑(k18 + 1):Int)):=zC (by have h1:=hle21.out;have h2:=c39.out;rw [wAS] <;> omega)
  refine sR fL1 Z (oR Z (zP Z fi32 f38) (eN (zB (cT Z c39 (kN (zB (zU (sR (.fl 0 (.fl 1 (.fx 2 (.fx 3 (.nil) .stop) .stop))) Z (bnK hx29 fun x41 h42 hm43=>?_)))))))))
  have h44:=ha0.le le34
  have q:=h44.el (fun _=>rfl) (wAN h42)
  obtain ⟨b45,off46,hA47,hC48⟩:=q
  refine oR Z (zt Z f37 hA47 fi32 zV zr (wBL h42)) (oL Z (hS35.ldCA (f:=0) hC48 Z Z Tryz.isAgg62 zr (us:=[jV x41.Bib,jV x41.Nation,jV x41.Rank]) Z Z) ?_)
  let B0:List Value:=[jV 0,jV 0,jV 0]
  refine ZI (cs:=B0) Z Z Z Z Z Tryz.zeroValue62 Z hS35 ?_
  intro W49 b50 hS51
  let B1:List Value:=[jV x41.Bib,jV x41.Nation,jV x41.Rank]
  refine ZH (j:=0) (vs:=B1) Z Z Z Z hS51 Z Z Z Z zr (zY Z) Z Z Z ?_
  intro W53 hS54
  let B2:Res:=.row A15 c16 157 3 (nA wAH l14)
  have hS55:sW w U U33 [.blk b50 62 B1,B2] W53:=hS54
  refine eN (rR (.fl 0 (.fl 1 (.fx 2 (.fx 3 (.fl 4 (.nil)) .stop) .stop))) Z (oM Z f36 (oL Z (hS55.ldBA (j:=0) Z Z Z Tryz.isAgg62 zr (vs:=B1) Z Z) (ZQ (pv:=[(0,.agg B1.toArray)]) (zs:=B0) (cs:=B1) Z Z Z Z Z (wAs Z wCH) zR ZF Tryz.zeroValue157 Z Z Z Z Z hS55 ?_))))
  intro W56 b57 hS58
  let B3:Res:=.row (some ⟨b57,0,none⟩) 1 157 3 (nA wAH [(⟨x41.Bib,x41.Nation,x41.Rank⟩:wAD)])
  have hS60:sW w U U33 [B3,.blk b50 62 B1,B2] W56:=hS58
  refine bnK hm43 fun x61 h62 hm63=>ZS (j:=2) (enc:=wAH) (xs:=l14) (ys:=[(⟨x41.Bib,x41.Nation,x41.Rank⟩:wAD)]) (zs:=x61) rfl rfl rfl rfl rfl Tryz.underlying86 wPp rfl rfl rfl rfl rfl rfl hS60 rfl rfl rfl (hS60.srcR (j:=0) rfl (by decide) (wAI (f:=wAH) (sz:=3) (fun _=>rfl) [(⟨x41.Bib,x41.Nation,x41.Rank⟩:wAD)])) (fun _=>rfl) (fun _=>rfl) h62 rfl ?_
  intro A64 c65 W66 hS67
  have hS68:sW w U U33 [B3,.blk b50 62 B1,.row A64 c65 157 3 (nA wAH x61)] W66:=hS67
  refine oA Z Z (zj (zd (zD (rR fL2 Z (oR Z (zl (zg Z fi32 Z) (congrArg (jV) hi40.out)) (oM Z Z (zj ?_)))))))
  cases hm63
  exact zD ⟨rfl,⟨U33,A64,c65,rfl,rfl,f37,f38,le34,(hS68.pick [2] _ (by decide) rfl)⟩⟩
 ·rintro σ72 W73 ⟨U81,A79,c80,fi75,f84,f85,f86,le82,hS83⟩
  have c87:Hid (¬ ((↑(((↑p0.length:Int):Int) - 0).toNat:Int) < (↑p0.length:Int))):=zC (wAv)
  refine sR fL1 Z (oR Z (zP Z fi75 f86) (eN (zB (cF Z c87 (zx (ze (ze (zq (zD (sR fL2 Z (oM Z f84 (oA Z Z (eN (zO ?_))))))))))))))
  have hE:=nD hm19;first | subst r | cases hE
  exact ⟨Z,_,(zm Z),U81,_,hS83,A79,c80,Z,Z⟩
theorem wDQ (p0:Int) (p1:Int) (p2:Int) (w:World) (U:PHeap) (hS:St0 w U [])  {r:Bool} (hm:wBo p0 p1 p2=some r):Gv Tryz.prog 86 [jV p0,jV p1,jV p2] w (wCd w [] U (fun U_ L_ v=>v=.bool r/\L_=[])):=by
 unfold wBo at hm
 refine Gv.of Tryz.func86 Z Tryz.ntmps86 Tryz.results86 Z (sR fL1 Z (oA Z Z (eN (sR fL9 Z (oM Z Z (oM Z Z (oR Z (Runs.geq Z Z Z) (oM Z Z ?_))))))))
 by_cases c1:p1 <= p0
 ·have hm2:=hm;rw [if_pos c1] at hm2;replace c1:=zC c1
  refine zK Z Z Z (wT Z c1) Z Z (zK Z Z Z (wT Z c1) Z Z (rU Z (wT Z c1) (Runs.leq Z Z Z) (oR Z (zS Z (ZD c1.out) Z) (oA Z Z (eN (zO ?_))))))
  cases hm2
  exact ⟨Z,_,(zm Z),U,_,hS,Z,Z⟩
 ·have hm3:=hm;rw [if_neg c1] at hm3;replace c1:=zC c1
  refine oF Z c1 (oF Z c1 (oF Z c1 (oR Z (zX Z (zi c1.out) Z) (oA Z Z (eN (zO ?_))))))
  have hE:=nD hm3;first | subst r | cases hE
  exact ⟨Z,_,(zm Z),U,_,hS,Z,Z⟩
theorem wCa (p0:wAA) (w:World) (U:PHeap) (hS:St0 w U [])  {r:Int} (hm:wAL p0=some r):Gv Tryz.prog 142 [.agg #[jV p0.Bib,jV p0.Nation,jV p0.Rank]] w (wCd w [] U (fun U_ L_ v=>v=jV r/\L_=[])):=by
 unfold wAL at hm
 refine Gv.of Tryz.func142 rfl Tryz.ntmps142 Tryz.results142 rfl (sR (.fx 0 (.fl 1 (.nil)) .stop) rfl (OKS.box (cs:=[jV p0.Bib,jV p0.Nation,jV p0.Rank]) rfl rfl rfl rfl rfl rfl (by rfl) hS ?_))
 intro W1 b2 hS3
 refine oA Z Z (eN (sR fL3 Z (oR Z (ZE Z Z ZA Z zF) (oL Z (hS3.ldB (j:=0) Z Z Z zL (v:=jV p0.Bib) Z) (oA Z Z (eN (zO ?_)))))))
 cases hm
 exact ⟨rfl,_,(zm rfl),U,_,(hS3.pick [] _ (by decide) rfl),rfl,rfl⟩
theorem wCb (p0:wAA) (w:World) (U:PHeap) (hS:St0 w U [])  {r:Int} (hm:wAM p0=some r):Gv Tryz.prog 143 [.agg #[jV p0.Bib,jV p0.Nation,jV p0.Rank]] w (wCd w [] U (fun U_ L_ v=>v=jV r/\L_=[])):=by
 unfold wAM at hm
 refine Gv.of Tryz.func143 rfl Tryz.ntmps143 Tryz.results143 rfl (sR (.fx 0 (.fl 1 (.nil)) .stop) rfl (OKS.box (cs:=[jV p0.Bib,jV p0.Nation,jV p0.Rank]) rfl rfl rfl rfl rfl rfl (by rfl) hS ?_))
 intro W1 b2 hS3
 refine oA Z Z (eN (sR fL3 Z (oR Z (ZE Z Z ZA Z zF) (oL Z (hS3.ldB (j:=0) Z Z Z zL (v:=jV p0.Rank) Z) (oA Z Z (eN (zO ?_)))))))
 cases hm
 exact ⟨rfl,_,(zm rfl),U,_,(hS3.pick [] _ (by decide) rfl),rfl,rfl⟩
theorem wDR (p0:wAA) (w:World) (U:PHeap) (hS:St0 w U [])  {r:Int} (hm:wAY p0=some r):Gv Tryz.prog 144 [.agg #[jV p0.Bib,jV p0.Nation,jV p0.Rank]] w (wCd w [] U (fun U_ L_ v=>v=jV r/\L_=[])):=by
 unfold wAY at hm
 refine Gv.of Tryz.func144 rfl Tryz.ntmps144 Tryz.results144 rfl (sR (.fx 0 (.fl 1 (.nil)) .stop) rfl (OKS.box (cs:=[jV p0.Bib,jV p0.Nation,jV p0.Rank]) rfl rfl rfl rfl rfl rfl (by rfl) hS ?_))
 intro W1 b2 hS3
 refine oA Z Z (eN (sR fL3 Z (oR Z (ZE Z Z ZA Z zF) (oL Z (hS3.ldB (j:=0) Z Z Z zL (v:=jV p0.Nation) Z) (oA Z Z (eN (zO ?_)))))))
 cases hm
 exact ⟨rfl,_,(zm rfl),U,_,(hS3.pick [] _ (by decide) rfl),rfl,rfl⟩
theorem wGY  (w:World) (U:PHeap) (hS:St0 w U [])  {r:Unit} (hm:wCN =some r):Gv Tryz.prog 98 [] w (wCd w [] U (fun U_ L_ v=>v=.agg #[.func (.func 142) #[] #[],jV 1,jV 999,.func (.func 143) #[] #[],jV 1,jV 9999,.func (.func 144) #[] #[],jV 0,jV 30]/\L_=[])):=by
 unfold wCN at hm
 refine Gv.of Tryz.func98 Z Tryz.ntmps98 Tryz.results98 Z (sR (.fx 0 (.nil) .stop) Z ?_)
 let B0:List Value:=[.nilFunc,jV 0,jV 0,.nilFunc,jV 0,jV 0,.nilFunc,jV 0,jV 0]
 refine ZI (cs:=B0) Z Z Z Z Z Tryz.zeroValue161 Z hS ?_
 intro W1 b2 hS3
 refine eN (sR (wLM (.fx 4 (.nil) .stop)) Z ?_)
 let B1:List Value:=[.nilFunc,jV 0,jV 0]
 let B2:List Value:=[.func (.func 142) #[] #[],jV 1,jV 999]
 refine oR Z (Runs.build (pv:=[(0,.func (.func 142) #[] #[]),(1,jV 1),(2,jV 999)]) (z:=B1) (cs:=B2) Z (wAs Z (wAs Z (wAs Z wCH))) ZN wGX Z Z) ?_
 let B3:List Value:=[.func (.func 143) #[] #[],jV 1,jV 9999]
 refine oR Z (Runs.build (pv:=[(0,.func (.func 143) #[] #[]),(1,jV 1),(2,jV 9999)]) (z:=B1) (cs:=B3) Z (wAs Z (wAs Z (wAs Z wCH))) ZN wGX Z Z) ?_
 let B4:List Value:=[.func (.func 144) #[] #[],jV 0,jV 30]
 refine oR Z (Runs.build (pv:=[(0,.func (.func 144) #[] #[]),(1,jV 0),(2,jV 30)]) (z:=B1) (cs:=B4) Z (wAs Z (wAs Z (wAs Z wCH))) ZN wGX Z Z) ?_
 let B5:List Value:=[.func (.func 142) #[] #[],jV 1,jV 999,.func (.func 143) #[] #[],jV 1,jV 9999,.func (.func 144) #[] #[],jV 0,jV 30]
 refine oR Z (Runs.buildA (pv:=[(0,.agg B2.toArray),(1,.agg B3.toArray),(2,.agg B4.toArray)]) (z:=B0) (cs:=B5) Z (wAs Z (wAs Z (wAs Z wCH))) Tryz.zeroValue161 ZY zp Z Z) (ZH (j:=0) (vs:=B5) Z Z Z Z hS3 Z Z Z Z Tryz.sizeOf161 (zY Z) Z Z Z ?_)
 intro W5 hS6
 have hS7:sW w U U [.blk b2 161 B5] W5:=hS6
 refine eN (zO ?_)
 cases hm
 exact ⟨rfl,_,(wOu (v:=.agg B5.toArray) ⟨⟨_,rfl,(wOW Tryz.isAgg161 Tryz.sizeOf161 (hS7.blkAt (k:=0) rfl) (vs:=B5) rfl rfl)⟩,trivial⟩),U,_,(hS7.pick [] _ (by decide) rfl),rfl,rfl⟩
theorem wBX (p0:wAJ) (pv0_0:Value) (p1:List wAA) (pA1:Option Addr) (pc1:Nat) (w:World) (U:PHeap) (hS:St0 w U []) (ha0:FnOK Tryz.prog U pv0_0 wGl wGm p0.of) (ha1:Sl U 3 pA1 pc1 p1.length (nA wAE p1)) {r:(List Int)} (hm:wAb p0 p1=some r):Gv Tryz.prog 100 [.agg #[pv0_0,jV p0.lo,jV p0.hi],.slice pA1 p1.length pc1] w (wCd w [] U (fun U_ L_ v=>∃ (A0:Option Addr) (c0:Nat),v=.slice A0 r.length c0/\L_=[.row A0 c0 3 1 (nA KL.encI r)])):=by
 unfold wAb at hm
 refine Gv.of Tryz.func100 Z Tryz.ntmps100 Tryz.results100 Z (sR (.fx 0 (.fl 1 (.nil)) .stop) Z ?_)
 let B0:List Value:=[pv0_0,jV p0.lo,jV p0.hi]
 refine OKS.box (cs:=B0) rfl rfl rfl rfl rfl rfl (by rfl) hS ?_
 intro W1 b2 hS3
 refine oA Z Z (eN (sR fL1 Z (oA Z Z (eN (zB (sR fL3 Z (oM Z Z (oR Z (zQ Z Z zV) (oM Z Z (eN (zU (bnK hm fun y27 hf24 hm23=>?_))))))))))))
 have q:=wBH hf24
 obtain ⟨hle25,hf26⟩:=q
 replace hle25:=zC hle25
 refine CK.forN' (fun k22 l18 σ_ w_=>∃ (U_:PHeap) (A19:Option Addr) (c20:Nat),σ_ 10=jV (↑k22:Int)/\σ_ 2=.pointer (some ⟨b2,0,none⟩)/\σ_ 5=.slice A19 l18.length c20/\σ_ 8=.slice pA1 p1.length pc1/\σ_ 9=jV (↑p1.length:Int)/\PHeap.Le U U_/\sW w U U_ [.blk b2 160 B0,.row A19 c20 3 1 (nA KL.encI l18)] w_) hf26 ?_ ?_ ?_
 ·have hS28:=hS3.nilrow 3 1
  exact ⟨U,none,0,rfl,rfl,rfl,rfl,rfl,(zJ _),(hS28.pick [1,0] _ (by decide) rfl)⟩
 ·rintro k22 l18 xx32 σ30 W31 hk35 ⟨U37,A19,c20,fi36,f40,f41,f42,f43,le38,hS39⟩ hx33
  have c44:Hid ((↑k22:Int) < (↑p1.length:Int)):=zC (wBU hk35)
  replace hk35:=zC hk35
  have hi45:Hid (w64 ((↑k22:Int) + 1)=(↑(k22 + 1):Int)):=zC (by have h1:=hle25.out;have h2:=c44.out;rw [wAS] <;> omega)
  refine sR fL1 Z (oR Z (zP Z fi36 f43) (eN (zB (cT Z c44 (kN (zB (zU (sR (.fl 0 (.fl 1 (.fx 2 (.fx 3 (.nil) .stop) .stop))) Z (bnK hx33 fun x46 h47 hm48=>?_)))))))))
  have h49:=ha1.le le38
  have q:=h49.el (fun _=>rfl) (wAN h47)
  obtain ⟨b50,off51,hA52,hC53⟩:=q
  refine oR Z (zt Z f42 hA52 fi36 zV zr (wBL h47)) (oL Z (hS39.ldCA (f:=0) hC53 Z Z Tryz.isAgg62 zr (us:=[jV x46.Bib,jV x46.Nation,jV x46.Rank]) Z Z) (ZI (cs:=[jV 0,jV 0,jV 0]) Z Z Z Z Z Tryz.zeroValue62 Z hS39 ?_))
  intro W54 b55 hS56
  let B1:List Value:=[jV x46.Bib,jV x46.Nation,jV x46.Rank]
  refine ZH (j:=0) (vs:=B1) Z Z Z Z hS56 Z Z Z Z zr (zY Z) Z Z Z ?_
  intro W58 hS59
  let B2:Res:=.row A19 c20 3 1 (nA KL.encI l18)
  have hS60:sW w U U37 [.blk b55 62 B1,.blk b2 160 B0,B2] W58:=hS59
  refine eN (rR (wLM (.fx 4 (.fx 5 (.fx 6 (.fl 7 (.nil)) .stop) .stop) .stop)) Z (oM Z f41 (oR Z (ZE Z f40 Tryz.runUnderlying160 Z Tryz.sizeOf158) (oL Z (hS60.ldB (j:=1) Z Z Z Tryz.isAgg158 (v:=pv0_0) Z) (oL Z (hS60.ldBA (j:=0) Z Z Z Tryz.isAgg62 zr (vs:=B1) Z Z) (bnK hm48 fun x61 h62 hm63=>?_))))))
  have h70:=ha0.le le38
  refine OKS.callV (a:=x46) Z Z Z Z Z Z (zE Z zW) hS60 h70 Z h62 ?_
  rintro U64 L65 v66 W67 le68 hS69 ⟨rfl,rfl⟩
  have hS71:sW w U U64 [.blk b55 62 B1,.blk b2 160 B0,B2] W67:=hS69
  refine ZQ (pv:=[(0,jV x61)]) (zs:=[jV 0]) (cs:=[jV x61]) Z Z Z Z Z (wAs Z wCH) zA zF ZK Z Z Z Z Z hS71 ?_
  intro W72 b73 hS74
  let B3:Res:=.row (some ⟨b73,0,none⟩) 1 3 1 (nA KL.encI [x61])
  have hS76:sW w U U64 [B3,.blk b55 62 B1,.blk b2 160 B0,B2] W72:=hS74
  refine bnK hm63 fun x77 h78 hm79=>ZS (j:=3) (enc:=KL.encI) (xs:=l18) (ys:=[x61]) (zs:=x77) rfl rfl rfl rfl rfl ZT wIb rfl rfl rfl rfl rfl rfl hS76 rfl rfl rfl (hS76.srcR (j:=0) rfl (by decide) (wAI (f:=KL.encI) (sz:=1) (fun _=>rfl) [x61])) (fun _=>rfl) (fun _=>rfl) h78 rfl ?_
  intro A80 c81 W82 hS83
  have hS84:sW w U U64 [B3,.blk b55 62 B1,.blk b2 160 B0,.row A80 c81 3 1 (nA KL.encI x77)] W82:=hS83
  refine oA Z Z (zj (zd (zD (rR fL2 Z (oR Z (zl (zg Z fi36 Z) (congrArg (jV) hi45.out)) (oM Z Z (zj ?_)))))))
  cases hm79
  exact zD ⟨rfl,⟨U64,A80,c81,rfl,f40,rfl,f42,f43,(le38.trans le68),(hS84.pick [2,3] _ (by decide) rfl)⟩⟩
 ·rintro σ88 W89 ⟨U97,A95,c96,fi91,f100,f101,f102,f103,le98,hS99⟩
  have c104:Hid (¬ ((↑(((↑p1.length:Int):Int) - 0).toNat:Int) < (↑p1.length:Int))):=zC (wAv)
  refine sR fL1 Z (oR Z (zP Z fi91 f103) (eN (zB (cF Z c104 (zx (ze (ze (zq (zD (sR fL2 Z (oM Z f101 (oA Z Z (eN (zO ?_))))))))))))))
  have hE:=nD hm23;first | subst r | cases hE
  exact ⟨rfl,_,(zm rfl),U97,_,(hS99.pick [1] _ (by decide) rfl),A95,c96,rfl,rfl⟩
theorem wCw (p0:Int) (p1:wAJ) (pb1:Nat) (pv1_0:Value) (w:World) (U:PHeap) (hS:St0 w U []) (ha0:Cl U pb1 0 [pv1_0,jV p1.lo,jV p1.hi]) (ha1:FnOK Tryz.prog U pv1_0 wGl wGm p1.of) {r:Bool} (hm:wAZ p0 p1=some r):Gv Tryz.prog 101 [jV p0,.pointer (some ⟨pb1,0,none⟩)] w (wCd w [] U (fun U_ L_ v=>v=.bool r/\L_=[])):=by
 unfold wAZ at hm
 refine Gv.of Tryz.func101 Z Tryz.ntmps101 Tryz.results101 Z (sR fL1 Z (oA Z Z (eN (sR (wIp (.fx 5 (.fl 6 (.nil)) .stop)) Z (oM Z Z (oR Z (ZE Z Z Tryz.runUnderlying160 Z zF) (oL Z (hS.ldC (f:=1) ha0 (v:=jV p1.lo) Z Z zL Z) (oR Z (ZE Z Z Tryz.runUnderlying160 Z zF) (oL Z (hS.ldC (f:=2) ha0 (v:=jV p1.hi) Z Z zL Z) (bnK hm fun x1 h2 hm3=>zM 0 Z Z Z Z (zN Z Z Tryz.call86 (zE Z (zE Z (zE Z zW))) Z) hS (fun hs=>wDQ p0 p1.lo p1.hi w U hs h2) (.inr Z) ?_))))))))))
 rintro U4 L5 v6 W7 le8 hS9 ⟨rfl,rfl⟩
 have hS10:sW w U U4 [] W7:=hS9
 refine oA Z Z (eN (zO ?_))
 have hE:=nD hm3;first | subst r | cases hE
 exact ⟨Z,_,(zm Z),U4,_,hS10,Z,Z⟩
theorem wCP (p0:List Int) (pA0:Option Addr) (pc0:Nat) (p1:(Int->Option Bool)) (pv1:Value) (w:World) (U:PHeap) (hS:St0 w U []) (ha0:Sl U 1 pA0 pc0 p0.length (nA KL.encI p0)) (ha1:FnOK Tryz.prog U pv1 wIZ wIa p1) {r:Bool} (hm:wAu p0 p1=some r):Gv Tryz.prog 99 [.slice pA0 p0.length pc0,pv1] w (wCd w [] U (fun U_ L_ v=>v=.bool r/\L_=[])):=by
 unfold wAu at hm
 refine Gv.of Tryz.func99 Z Tryz.ntmps99 Tryz.results99 Z (sR fL1 Z (oA Z Z (eN (zB (sR fL3 Z (oM Z Z (oR Z (zQ Z Z zA) (oM Z Z (eN (zU ?_))))))))))
 have q:=wBy hm
 obtain ⟨r3,hX4⟩:=q
 have q:=wBx hX4
 obtain ⟨hle5,hf6⟩:=q
 replace hle5:=zC hle5
 refine ZU (fun k2 _ σ_ w_=>∃ (U_:PHeap),σ_ 9=jV (↑k2:Int)/\σ_ 1=pv1/\σ_ 7=.slice pA0 p0.length pc0/\σ_ 8=jV (↑p0.length:Int)/\PHeap.Le U U_/\sW w U U_ [] w_) hf6 ?_ ?_ ?_
 ·exact ⟨U,Z,Z,Z,Z,(zJ _),hS⟩
 ·rintro k2 ⟨⟩ xx9 σ7 W8 hk12 ⟨U14,fi13,f17,f18,f19,le15,hS16⟩ hx10 hb11
  try dsimp only at hx10
  have c20:Hid ((↑k2:Int) < (↑p0.length:Int)):=zC (wBU hk12)
  replace hk12:=zC hk12
  have hi21:Hid (w64 ((↑k2:Int) + 1)=(↑(k2 + 1):Int)):=zC (by have h1:=hle5.out;have h2:=c20.out;rw [wAS] <;> omega)
  refine sR fL1 Z (oR Z (zP Z fi13 f19) (eN (zB (cT Z c20 (kN (zB (zU (sR fL3 Z (bnK hx10 fun x22 h23 hm24=>?_)))))))))
  have h25:=ha0.le le15
  have q:=h25.el (fun _=>rfl) (wAN h23)
  obtain ⟨b26,off27,hA28,hC29⟩:=q
  refine oR Z (zt Z f18 hA28 fi13 zA zF (wBL h23)) (oL Z (hS16.ldC (f:=0) hC29 (v:=jV x22) Z Z zL Z) (oA Z Z (eN (sR (.fl 0 (.fl 1 (.fx 2 (.fl 3 (.nil)) .stop))) Z (oM Z f17 (oM Z Z (bnK hm24 fun x30 h31 hm32=>?_)))))))
  have h39:=ha1.le le15
  refine OKS.callV (a:=x22) Z Z Z Z Z Z (zE Z zW) hS16 h39 Z h31 ?_
  rintro U33 L34 v35 W36 le37 hS38 ⟨rfl,rfl⟩
  have hS40:sW w U U33 [] W36:=hS38
  refine oR Z (ZW Z Z) (eN (ifc hm32 ?_ ?_))
  ·intro c41 hm42
   refine zk (nC c41.out) (zy (zd (zD (rR fL2 Z (oR Z (zl (zg Z fi13 Z) (congrArg (jV) hi21.out)) (oM Z Z (zj ?_)))))))
   obtain rfl:=nD hm42
   exact zD ⟨Z,_,Z,⟨U33,Z,f17,f18,f19,(le15.trans le37),hS40⟩⟩
  ·intro c41 hm43
   refine zn (nF (c41.out)) (sR fL1 Z (oA Z Z (eN (zO (zh (zH ?_))))))
   have q:=wBE hm43
   obtain ⟨v44,hm45,e46⟩:=q
   obtain rfl:=wCD hm hX4 (hb11 v44 e46)
   refine zH (zh (zH ?_))
   have hE:=nD hm45;first | subst r | cases hE
   exact ⟨Z,_,(zm Z),U33,_,hS40,Z,Z⟩
 ·rintro ⟨⟩ σ47 W48 ⟨U51,fi50,f54,f55,f56,le52,hS53⟩ hb49
  have hm57:=wCk hm hX4 hb49
  try dsimp only at hm57
  have c58:Hid (¬ ((↑(((↑p0.length:Int):Int) - 0).toNat:Int) < (↑p0.length:Int))):=zC (wAv)
  refine sR fL1 Z (oR Z (zP Z fi50 f56) (eN (zB (cF Z c58 (zx (ze (ze (zq (zD (sR fL1 Z (oA Z Z (eN (zO ?_)))))))))))))
  have hE:=nD hm57;first | subst r | cases hE
  exact ⟨Z,_,(zm Z),U51,_,hS53,Z,Z⟩
theorem wDb (p0:List Int) (pA0:Option Addr) (pc0:Nat) (w:World) (U:PHeap) (hS:St0 w U []) (ha0:Sl U 1 pA0 pc0 p0.length (nA KL.encI p0)) {r:Bool} (hm:wBj p0=some r):Gv Tryz.prog 87 [.slice pA0 p0.length pc0] w (wCd w [] U (fun U_ L_ v=>v=.bool r/\L_=[])):=by
 unfold wBj at hm
 refine Gv.of Tryz.func87 Z Tryz.ntmps87 Tryz.results87 Z (sR fL1 Z (oA Z Z (eN (sR (.fx 0 (.fl 1 (.nil)) .stop) Z (OKS.makeMap Z Z Z Z Z hS ?_)))))
 intro W1 b2 hS3
 have hr4:=MpR.nil wNA wOB
 refine oA Z Z (eN (zB (sR fL3 Z (oM Z Z (oR Z (zQ Z Z zA) (oM Z Z (eN (zU ?_))))))))
 have q:=wBy hm
 obtain ⟨r21,hX22⟩:=q
 have q:=wBx hX22
 obtain ⟨hle23,hf24⟩:=q
 replace hle23:=zC hle23
 refine ZU (fun k20 l17 σ_ w_=>∃ (U_:PHeap) (es18:Array MapEntry) (ck19:Nat),σ_ 9=jV (↑k20:Int)/\σ_ 3=.map (some b2)/\σ_ 7=.slice pA0 p0.length pc0/\σ_ 8=jV (↑p0.length:Int)/\PHeap.Le U U_/\sW w U U_ [.obj b2 (.map es18 ck19)] w_/\MpR es18 wNA wOB l17) hf24 ?_ ?_ ?_
 ·exact ⟨U,#[],0,Z,Z,Z,Z,(zJ _),hS3,hr4⟩
 ·rintro k20 l17 xx27 σ25 W26 hk30 ⟨U32,es18,ck19,fi31,f35,f36,f37,le33,hS34,h38⟩ hx28 hb29
  have c39:Hid ((↑k20:Int) < (↑p0.length:Int)):=zC (wBU hk30)
  replace hk30:=zC hk30
  have hi40:Hid (w64 ((↑k20:Int) + 1)=(↑(k20 + 1):Int)):=zC (by have h1:=hle23.out;have h2:=c39.out;rw [wAS] <;> omega)
  refine sR fL1 Z (oR Z (zP Z fi31 f37) (eN (zB (cT Z c39 (kN (zB (zU (sR fL3 Z (bnK hx28 fun x41 h42 hm43=>?_)))))))))
  have h44:=ha0.le le33
  have q:=h44.el (fun _=>rfl) (wAN h42)
  obtain ⟨b45,off46,hA47,hC48⟩:=q
  refine oR Z (zt Z f36 hA47 fi31 zA zF (wBL h42)) (oL Z (hS34.ldC (f:=0) hC48 (v:=jV x41) Z Z zL Z) (oA Z Z (eN (zB (sR fL3 Z (oM Z f35 (oM Z Z (oL Z (hS34.lookup1 (j:=0) (mk:=wNA) (mv:=wOB) (a:=x41) (z:=false) Z Z Z Z (wCl Tryz.runUnderlying180) wND Tryz.zeroValue4 h38) (eN (ifc hm43 ?_ ?_))))))))))
  ·intro c49 hm50
   refine zn (congrArg nB c49.out) (sR fL1 Z (oA Z Z (eN (zO (zH (zh (zH ?_)))))))
   have q:=wBE hm50
   obtain ⟨v51,hm52,e53⟩:=q
   obtain rfl:=wCD hm hX22 (hb29 v51 e53)
   refine zH (zh (zH ?_))
   have hE:=nD hm52;first | subst r | cases hE
   exact ⟨rfl,_,(zm rfl),U32,_,(hS34.pick [] _ (by decide) rfl),rfl,rfl⟩
  ·intro c49 hm54
   refine zk (congrArg nB (nE.2 c49.out)) (kN (rR (.fl 0 (.fl 1 (.fx 2 (.nil) .stop))) rfl (zK rfl rfl rfl rfl rfl f35 (zK rfl rfl rfl rfl rfl rfl (OKS.mapPut (x:=.tmp 16) (y:=.tmp 17) (j:=0) (mk:=wNA) (mv:=wOB) (a:=x41) (v:=true) rfl rfl rfl (by first | exact .inl rfl | exact .inr rfl) hS34 rfl rfl rfl rfl (wCl Tryz.runUnderlying180) wND h38 rfl ?_)))))
   intro es55 ck56 W57 hr58 hS59
   have hS60:sW w U U32 [.obj b2 (.map es55 ck56)] W57:=hS59
   refine zj (zd (zD (rR fL2 Z (oR Z (zl (zg Z fi31 Z) (congrArg (jV) hi40.out)) (oM Z Z (zj ?_))))))
   obtain rfl:=nD hm54
   exact zD ⟨Z,_,Z,⟨U32,es55,ck56,Z,f35,f36,f37,le33,hS60,hr58⟩⟩
 ·rintro y68 σ64 W65 ⟨U71,e69,c70,fi67,f74,f75,f76,le72,hS73,h77⟩ hb66
  have hm78:=wCk hm hX22 hb66
  have c79:Hid (¬ ((↑(((↑p0.length:Int):Int) - 0).toNat:Int) < (↑p0.length:Int))):=zC (wAv)
  refine sR fL1 Z (oR Z (zP Z fi67 f76) (eN (zB (cF Z c79 (zx (ze (ze (zq (zD (sR fL1 Z (oA Z Z (eN (zO ?_)))))))))))))
  have hE:=nD hm78;first | subst r | cases hE
  exact ⟨rfl,_,(zm rfl),U71,_,(hS73.pick [] _ (by decide) rfl),rfl,rfl⟩
theorem wCo (p0:List wAA) (pA0:Option Addr) (pc0:Nat) (w:World) (U:PHeap) (hS:St0 w U []) (ha0:Sl U 3 pA0 pc0 p0.length (nA wAE p0)) {r:Int} (hm:wBF p0=some r):Gv Tryz.prog 41 [.slice pA0 p0.length pc0] w (wCd w [] U (fun U_ L_ v=>v=jV r/\L_=[])):=by
 unfold wBF at hm
 refine Gv.of Tryz.func41 Z Tryz.ntmps41 Tryz.results41 Z (sR fL1 Z (oA Z Z (eN (zB (sR (.fl 0 (.fl 1 (.fx 2 (.fl 3 (.nil)) .stop))) Z (oM Z Z (oR Z (zQ Z Z zV) (bnK hm fun x1 h2 hm3=>zM 0 Z Z Z Z (zN Z Z Tryz.call86 (zE Z (zE Z (zE Z zW))) Z) hS (fun hs=>wDQ (↑p0.length:Int) 1 60 w U hs h2) (.inr Z) ?_))))))))
 rintro U4 L5 v6 W7 le8 hS9 ⟨rfl,rfl⟩
 have hS10:sW w U U4 [] W7:=hS9
 refine oR Z (ZW Z Z) (eN (ifc hm3 ?_ ?_))
 ·intro c11 hm12
  refine zk (nC c11.out) (kN (sR (.fx 0 (.fx 1 (.fx 2 (.nil) .stop) .stop) .stop) Z ?_))
  have q:=bnd hm12
  obtain ⟨⟨⟩,h13,hm14⟩:=q
  try dsimp only at hm14
  refine zM 0 Z Z Z Z (zN Z Z Tryz.call98 zW Z) hS10 (fun hs=>wGY W7 U4 hs h13) (.inr Z) ?_
  rintro U15 L16 v17 W18 le19 hS20 ⟨rfl,rfl⟩
  have hS21:sW w U U15 [] W18:=hS20
  refine ZI (cs:=[.nilFunc,jV 0,jV 0,.nilFunc,jV 0,jV 0,.nilFunc,jV 0,jV 0]) Z Z Z Z Z Tryz.zeroValue161 Z hS21 ?_
  intro W22 b23 hS24
  let B0:List Value:=[.func (.func 142) #[] #[],jV 1,jV 999,.func (.func 143) #[] #[],jV 1,jV 9999,.func (.func 144) #[] #[],jV 0,jV 30]
  refine ZH (j:=0) (vs:=B0) Z Z Z Z hS24 Z Z Z Z Tryz.sizeOf161 (zY Z) Z Z Z ?_
  intro W26 hS27
  have hS28:sW w U U15 [.blk b23 161 B0] W26:=hS27
  refine eN (zB (sR fL2 rfl (ZG rfl rfl rfl rfl (hS28.ldBA (j:=0) rfl rfl rfl Tryz.isAgg161 Tryz.sizeOf161 (vs:=B0) rfl rfl) rfl (zK rfl rfl rfl rfl rfl rfl (eN (zU (CK.unroll 4 (CKR.succ (sR fL1 rfl (zZ rfl rfl rfl rfl (fun _=>zP rfl rfl rfl) (eN (zB (zn (ZD (by decide)) (kN (zB (zU (sR (.fl 0 (.fx 1 (.fx 2 (.nil) .stop) .stop)) rfl (zZ rfl rfl rfl rfl (fun _=>(Runs.ixA (i:=0) rfl rfl rfl ZY zp (by decide) (by decide) (wDu ZP zp rfl))) ?_))))))))))))))))))
  let B1:List Value:=[.nilFunc,jV 0,jV 0]
  refine ZI (cs:=B1) Z Z Z Z Z ZN Z hS28 ?_
  intro W29 b30 hS31
  let B2:List Value:=[.func (.func 142) #[] #[],jV 1,jV 999]
  refine ZH (j:=0) (vs:=B2) Z Z Z Z hS31 Z Z Z Z zp (zY Z) Z Z Z ?_
  intro W33 hS34
  have hS35:sW w U U15 [.blk b30 160 B2,.blk b23 161 B0] W33:=hS34
  refine eN (sR (.fl 0 (.fl 1 (.fx 2 (.fl 3 (.fx 4 (.fl 5 (.nil)) .stop)) .stop))) Z (oL Z (hS35.ldBA (j:=0) Z Z Z ZP zp (vs:=B2) Z Z) (oM Z Z ?_)))
  have hF36:FnOK Tryz.prog U15 (.func (.func 142) #[] #[]) wGl wGm wAL:=⟨142,[],[],rfl,Tryz.call142,fun U1 w1 x y vs le hs ha hm=>by obtain rfl:=ha;exact wCa x w1 U1 hs  hm⟩
  have h37:=ha0.le le8
  have h38:=h37.le le19
  refine bnK hm14 fun x39 h40 hm41=>zM 0 Z Z Z Z (zN Z Z Tryz.call100 (zE Z (zE Z zW)) Z) hS35 (fun hs=>wBX (⟨wAL,1,999⟩:wAJ) (.func (.func 142) #[] #[]) p0 pA0 pc0 W33 U15 hs hF36 h38 h40) (.inr Z) ?_
  rintro U42 L43 v44 W45 le46 hS47 ⟨A48,c49,rfl,rfl⟩
  let B3:Res:=.row A48 c49 3 1 (nA KL.encI x39)
  have hS51:sW w U U42 [B3,.blk b30 160 B2,.blk b23 161 B0] W45:=hS47
  have q:=hS51.freeze (k:=1) rfl
  obtain ⟨U52,le53,hC54,hS55⟩:=q
  replace hC54:=Cl.of hC54
  have hS56:sW w U U52 [B3,.blk b23 161 B0] W45:=hS55
  replace hC54:Cl U52 b30 0 B2:=hC54
  refine oR Z (Runs.mkf Z zW (zE Z zW)) ?_
  have q:=hS56.freezeR (k:=0) (n:=x39.length) rfl (wAI (f:=KL.encI) (sz:=1) (fun _=>rfl) x39) (by decide)
  obtain ⟨U57,le58,hs59,hS60⟩:=q
  have hS61:sW w U U57 [.blk b23 161 B0] W45:=hS60
  have h62:=hC54.le le58
  have hF63:FnOK Tryz.prog U57 (.func (.func 142) #[] #[]) wGl wGm wAL:=⟨142,[],[],rfl,Tryz.call142,fun U1 w1 x y vs le hs ha hm=>by obtain rfl:=ha;exact wCa x w1 U1 hs  hm⟩
  have hF64:FnOK Tryz.prog U57 (.func (.func 101) #[] #[.pointer (some ⟨b30,0,none⟩)]) wIZ wIa (fun x=>wAZ x (⟨wAL,1,999⟩:wAJ)):=⟨101,[],[.pointer (some ⟨b30,0,none⟩)],rfl,Tryz.call101,fun U1 w1 x y vs le hs ha hm=>by obtain rfl:=ha;exact wCw x (⟨wAL,1,999⟩:wAJ) b30 (.func (.func 142) #[] #[]) w1 U1 hs (h62.le le) (hF63.le le) hm⟩
  refine bnK hm41 fun x65 h66 hm67=>zM 0 Z Z Z Z (zN Z Z Tryz.call99 (zE Z (zE Z zW)) Z) hS61 (fun hs=>wCP x39 A48 c49 (fun x=>wAZ x (⟨wAL,1,999⟩:wAJ)) (.func (.func 101) #[] #[.pointer (some ⟨b30,0,none⟩)]) W45 U57 hs hs59 hF64 h66) (.inr Z) ?_
  rintro U68 L69 v70 W71 le72 hS73 ⟨rfl,rfl⟩
  have hS74:sW w U U68 [.blk b23 161 B0] W71:=hS73
  refine oR Z (ZW Z Z) (eN (ifc hm67 ?_ ?_))
  ·intro c75 hm76
   refine zk (nC c75.out) (zy (zd (zD (rR fL2 rfl (zZ rfl rfl rfl rfl (fun _=>zl (zg rfl rfl rfl) (congrArg (jV) (show w64 (0 + 1)=1 by decide))) (zK rfl rfl rfl rfl rfl rfl (eN (CKR.succ (sR fL1 rfl (zZ rfl rfl rfl rfl (fun _=>zP rfl rfl rfl) (eN (zB (zn (ZD (by decide)) (kN (zB (zU (sR (.fl 0 (.fx 1 (.fx 2 (.nil) .stop) .stop)) rfl (zZ rfl rfl rfl rfl (fun _=>(Runs.ixA (i:=1) rfl rfl rfl ZY zp (by decide) (by decide) (wDu ZP zp rfl))) (ZI (cs:=B1) rfl rfl rfl rfl rfl ZN rfl hS74 ?_)))))))))))))))))))
   intro W77 b78 hS79
   let B4:List Value:=[.func (.func 143) #[] #[],jV 1,jV 9999]
   refine ZH (j:=0) (vs:=B4) Z Z Z Z hS79 Z Z Z Z zp (zY Z) Z Z Z ?_
   intro W81 hS82
   have hS83:sW w U U68 [.blk b78 160 B4,.blk b23 161 B0] W81:=hS82
   refine eN (sR (.fl 0 (.fl 1 (.fx 2 (.fl 3 (.fx 4 (.fl 5 (.nil)) .stop)) .stop))) Z (oL Z (hS83.ldBA (j:=0) Z Z Z ZP zp (vs:=B4) Z Z) (oM Z Z ?_)))
   have hF84:FnOK Tryz.prog U68 (.func (.func 143) #[] #[]) wGl wGm wAM:=⟨143,[],[],rfl,Tryz.call143,fun U1 w1 x y vs le hs ha hm=>by obtain rfl:=ha;exact wCb x w1 U1 hs  hm⟩
   have h85:=h38.le le46
   have h86:=h85.le le53
   have h87:=h86.le le58
   have h88:=h87.le le72
   refine bnK hm76 fun x89 h90 hm91=>zM 0 Z Z Z Z (zN Z Z Tryz.call100 (zE Z (zE Z zW)) Z) hS83 (fun hs=>wBX (⟨wAM,1,9999⟩:wAJ) (.func (.func 143) #[] #[]) p0 pA0 pc0 W81 U68 hs hF84 h88 h90) (.inr Z) ?_
   rintro U92 L93 v94 W95 le96 hS97 ⟨A98,c99,rfl,rfl⟩
   let B5:Res:=.row A98 c99 3 1 (nA KL.encI x89)
   have hS101:sW w U U92 [B5,.blk b78 160 B4,.blk b23 161 B0] W95:=hS97
   have q:=hS101.freeze (k:=1) rfl
   obtain ⟨U102,le103,hC104,hS105⟩:=q
   replace hC104:=Cl.of hC104
   have hS106:sW w U U102 [B5,.blk b23 161 B0] W95:=hS105
   replace hC104:Cl U102 b78 0 B4:=hC104
   refine oR Z (Runs.mkf Z zW (zE Z zW)) ?_
   have q:=hS106.freezeR (k:=0) (n:=x89.length) rfl (wAI (f:=KL.encI) (sz:=1) (fun _=>rfl) x89) (by decide)
   obtain ⟨U107,le108,hs109,hS110⟩:=q
   have hS111:sW w U U107 [.blk b23 161 B0] W95:=hS110
   have h112:=hC104.le le108
   have hF113:FnOK Tryz.prog U107 (.func (.func 143) #[] #[]) wGl wGm wAM:=⟨143,[],[],rfl,Tryz.call143,fun U1 w1 x y vs le hs ha hm=>by obtain rfl:=ha;exact wCb x w1 U1 hs  hm⟩
   have hF114:FnOK Tryz.prog U107 (.func (.func 101) #[] #[.pointer (some ⟨b78,0,none⟩)]) wIZ wIa (fun x=>wAZ x (⟨wAM,1,9999⟩:wAJ)):=⟨101,[],[.pointer (some ⟨b78,0,none⟩)],rfl,Tryz.call101,fun U1 w1 x y vs le hs ha hm=>by obtain rfl:=ha;exact wCw x (⟨wAM,1,9999⟩:wAJ) b78 (.func (.func 143) #[] #[]) w1 U1 hs (h112.le le) (hF113.le le) hm⟩
   refine bnK hm91 fun x115 h116 hm117=>zM 0 Z Z Z Z (zN Z Z Tryz.call99 (zE Z (zE Z zW)) Z) hS111 (fun hs=>wCP x89 A98 c99 (fun x=>wAZ x (⟨wAM,1,9999⟩:wAJ)) (.func (.func 101) #[] #[.pointer (some ⟨b78,0,none⟩)]) W95 U107 hs hs109 hF114 h116) (.inr Z) ?_
   rintro U118 L119 v120 W121 le122 hS123 ⟨rfl,rfl⟩
   have hS124:sW w U U118 [.blk b23 161 B0] W121:=hS123
   refine oR Z (ZW Z Z) (eN (ifc hm117 ?_ ?_))
   ·intro c125 hm126
    refine zk (nC c125.out) (zy (zd (zD (rR fL2 rfl (zZ rfl rfl rfl rfl (fun _=>zl (zg rfl rfl rfl) (congrArg (jV) (show w64 (1 + 1)=2 by decide))) (zK rfl rfl rfl rfl rfl rfl (eN (CKR.succ (sR fL1 rfl (zZ rfl rfl rfl rfl (fun _=>zP rfl rfl rfl) (eN (zB (zn (ZD (by decide)) (kN (zB (zU (sR (.fl 0 (.fx 1 (.fx 2 (.nil) .stop) .stop)) rfl (zZ rfl rfl rfl rfl (fun _=>(Runs.ixA (i:=2) rfl rfl rfl ZY zp (by decide) (by decide) (wDu ZP zp rfl))) (ZI (cs:=B1) rfl rfl rfl rfl rfl ZN rfl hS124 ?_)))))))))))))))))))
    intro W127 b128 hS129
    let B6:List Value:=[.func (.func 144) #[] #[],jV 0,jV 30]
    refine ZH (j:=0) (vs:=B6) Z Z Z Z hS129 Z Z Z Z zp (zY Z) Z Z Z ?_
    intro W131 hS132
    have hS133:sW w U U118 [.blk b128 160 B6,.blk b23 161 B0] W131:=hS132
    refine eN (sR (.fl 0 (.fl 1 (.fx 2 (.fl 3 (.fx 4 (.fl 5 (.nil)) .stop)) .stop))) Z (oL Z (hS133.ldBA (j:=0) Z Z Z ZP zp (vs:=B6) Z Z) (oM Z Z ?_)))
    have hF134:FnOK Tryz.prog U118 (.func (.func 144) #[] #[]) wGl wGm wAY:=⟨144,[],[],rfl,Tryz.call144,fun U1 w1 x y vs le hs ha hm=>by obtain rfl:=ha;exact wDR x w1 U1 hs  hm⟩
    have h135:=h88.le le96
    have h136:=h135.le le103
    have h137:=h136.le le108
    have h138:=h137.le le122
    refine bnK hm126 fun x139 h140 hm141=>zM 0 Z Z Z Z (zN Z Z Tryz.call100 (zE Z (zE Z zW)) Z) hS133 (fun hs=>wBX (⟨wAY,0,30⟩:wAJ) (.func (.func 144) #[] #[]) p0 pA0 pc0 W131 U118 hs hF134 h138 h140) (.inr Z) ?_
    rintro U142 L143 v144 W145 le146 hS147 ⟨A148,c149,rfl,rfl⟩
    let B7:Res:=.row A148 c149 3 1 (nA KL.encI x139)
    have hS151:sW w U U142 [B7,.blk b128 160 B6,.blk b23 161 B0] W145:=hS147
    have q:=hS151.freeze (k:=1) rfl
    obtain ⟨U152,le153,hC154,hS155⟩:=q
    replace hC154:=Cl.of hC154
    have hS156:sW w U U152 [B7,.blk b23 161 B0] W145:=hS155
    replace hC154:Cl U152 b128 0 B6:=hC154
    refine oR Z (Runs.mkf Z zW (zE Z zW)) ?_
    have q:=hS156.freezeR (k:=0) (n:=x139.length) rfl (wAI (f:=KL.encI) (sz:=1) (fun _=>rfl) x139) (by decide)
    obtain ⟨U157,le158,hs159,hS160⟩:=q
    have hS161:sW w U U157 [.blk b23 161 B0] W145:=hS160
    have h162:=hC154.le le158
    have hF163:FnOK Tryz.prog U157 (.func (.func 144) #[] #[]) wGl wGm wAY:=⟨144,[],[],rfl,Tryz.call144,fun U1 w1 x y vs le hs ha hm=>by obtain rfl:=ha;exact wDR x w1 U1 hs  hm⟩
    have hF164:FnOK Tryz.prog U157 (.func (.func 101) #[] #[.pointer (some ⟨b128,0,none⟩)]) wIZ wIa (fun x=>wAZ x (⟨wAY,0,30⟩:wAJ)):=⟨101,[],[.pointer (some ⟨b128,0,none⟩)],rfl,Tryz.call101,fun U1 w1 x y vs le hs ha hm=>by obtain rfl:=ha;exact wCw x (⟨wAY,0,30⟩:wAJ) b128 (.func (.func 144) #[] #[]) w1 U1 hs (h162.le le) (hF163.le le) hm⟩
    refine bnK hm141 fun x165 h166 hm167=>zM 0 Z Z Z Z (zN Z Z Tryz.call99 (zE Z (zE Z zW)) Z) hS161 (fun hs=>wCP x139 A148 c149 (fun x=>wAZ x (⟨wAY,0,30⟩:wAJ)) (.func (.func 101) #[] #[.pointer (some ⟨b128,0,none⟩)]) W145 U157 hs hs159 hF164 h166) (.inr Z) ?_
    rintro U168 L169 v170 W171 le172 hS173 ⟨rfl,rfl⟩
    have hS174:sW w U U168 [.blk b23 161 B0] W171:=hS173
    refine oR Z (ZW Z Z) (eN (ifc hm167 ?_ ?_))
    ·intro c175 hm176
     refine zk (nC c175.out) (zy (zd (zD (CK.fresh fun σ177 hσ178=>?_))))
     have f179:σ177 0=.slice pA0 p0.length pc0:=(hσ178 0).trans rfl
     have f180:σ177 3=.pointer (some ⟨b23,0,none⟩):=(hσ178 3).trans rfl
     have f181:σ177 13=.agg B0.toArray:=(hσ178 13).trans rfl
     have f182:σ177 14=jV 2:=(hσ178 14).trans rfl
     clear hσ178
     refine rR fL2 rfl (zZ rfl rfl rfl rfl (fun _=>zl (zg rfl f182 rfl) (congrArg (jV) (show w64 (2 + 1)=3 by decide))) (zK rfl rfl rfl rfl rfl rfl (eN (CKR.succ (sR fL1 rfl (zZ rfl rfl rfl rfl (fun _=>zP rfl rfl rfl) (eN (zB (zk (zi (by decide)) (zx (ze (ze (zq (zD (zB (sR fL3 rfl (zZ rfl rfl rfl rfl (fun _=>Runs.slAh (k:=2) rfl f180 rfl ZY zp (by decide)) (zZ rfl rfl rfl rfl (fun _=>zQ rfl rfl Tryz.runUnderlying164) (zK rfl rfl rfl rfl rfl rfl (eN (zU (CK.unroll 3 (CKR.succ (sR fL1 rfl (zZ rfl rfl rfl rfl (fun _=>zP rfl rfl rfl) (eN (zB (zn (ZD (by decide)) (kN (zB (zU (sR (.fl 0 (.fl 1 (.fx 2 (.fx 3 (.nil) .stop) .stop))) rfl (zZ rfl rfl rfl rfl (fun _=>zl (zt (k:=0) rfl rfl rfl rfl Tryz.runUnderlying164 zp (by decide)) rfl) (ZG rfl rfl rfl rfl (hS174.ldBA (j:=0) rfl rfl rfl ZP zp (vs:=B2) rfl rfl) rfl (ZI (cs:=B1) rfl rfl rfl rfl rfl ZN rfl hS174 ?_)))))))))))))))))))))))))))))))))))
     intro W183 b184 hS185
     refine ZH (j:=0) (vs:=B2) Z Z Z Z hS185 Z Z Z Z zp (zY Z) Z Z Z ?_
     intro W187 hS188
     have hS189:sW w U U168 [.blk b184 160 B2,.blk b23 161 B0] W187:=hS188
     refine eN (sR (.fl 0 (.fl 1 (.fx 2 (.fx 3 (.nil) .stop) .stop))) Z (oL Z (hS189.ldBA (j:=0) Z Z Z ZP zp (vs:=B2) Z Z) (oM Z f179 ?_)))
     have hF190:FnOK Tryz.prog U168 (.func (.func 142) #[] #[]) wGl wGm wAL:=⟨142,[],[],rfl,Tryz.call142,fun U1 w1 x y vs le hs ha hm=>by obtain rfl:=ha;exact wCa x w1 U1 hs  hm⟩
     have h191:=h138.le le146
     have h192:=h191.le le153
     have h193:=h192.le le158
     have h194:=h193.le le172
     refine bnK hm176 fun x195 h196 hm197=>zM 0 Z Z Z Z (zN Z Z Tryz.call100 (zE Z (zE Z zW)) Z) hS189 (fun hs=>wBX (⟨wAL,1,999⟩:wAJ) (.func (.func 142) #[] #[]) p0 pA0 pc0 W187 U168 hs hF190 h194 h196) (.inr Z) ?_
     rintro U198 L199 v200 W201 le202 hS203 ⟨A204,c205,rfl,rfl⟩
     have hS207:sW w U U198 [.row A204 c205 3 1 (nA KL.encI x195),.blk b184 160 B2,.blk b23 161 B0] W201:=hS203
     have q:=hS207.freezeR (k:=0) (n:=x195.length) rfl (wAI (f:=KL.encI) (sz:=1) (fun _=>rfl) x195) (by decide)
     obtain ⟨U208,le209,hs210,hS211⟩:=q
     have hS212:sW w U U208 [.blk b184 160 B2,.blk b23 161 B0] W201:=hS211
     refine bnK hm197 fun x213 h214 hm215=>zM 0 Z Z Z Z (zN Z Z Tryz.call87 (zE Z zW) Z) hS212 (fun hs=>wDb x195 A204 c205 W201 U208 hs hs210 h214) (.inr Z) ?_
     rintro U216 L217 v218 W219 le220 hS221 ⟨rfl,rfl⟩
     have hS222:sW w U U216 [.blk b184 160 B2,.blk b23 161 B0] W219:=hS221
     refine eN (ifc hm215 ?_ ?_)
     ·intro c223 hm224
      refine zn (congrArg nB c223.out) (sR fL1 Z (oA Z Z (eN (zO (zh (zH (zH (zh (zH ?_)))))))))
      cases hm224
      exact ⟨rfl,_,(zm rfl),U216,_,(hS222.pick [] _ (by decide) rfl),rfl,rfl⟩
     ·intro c223 hm225
      refine zk (congrArg nB (nE.2 c223.out)) (zy (zd (zD (rR fL2 rfl (zZ rfl rfl rfl rfl (fun _=>zl (zg rfl rfl rfl) (congrArg (jV) (show w64 (0 + 1)=1 by decide))) (zK rfl rfl rfl rfl rfl rfl (eN (CKR.succ (sR fL1 rfl (zZ rfl rfl rfl rfl (fun _=>zP rfl rfl rfl) (eN (zB (zn (ZD (by decide)) (kN (zB (zU (sR (.fl 0 (.fl 1 (.fx 2 (.fx 3 (.nil) .stop) .stop))) rfl (zZ rfl rfl rfl rfl (fun _=>zl (zt (k:=1) rfl rfl rfl rfl Tryz.runUnderlying164 zp (by decide)) rfl) (ZG rfl rfl rfl rfl (hS222.ldBA (j:=1) rfl rfl rfl ZP zp (vs:=B4) rfl rfl) rfl (ZI (cs:=B1) rfl rfl rfl rfl rfl ZN rfl hS222 ?_))))))))))))))))))))
      intro W226 b227 hS228
      refine ZH (j:=0) (vs:=B4) Z Z Z Z hS228 Z Z Z Z zp (zY Z) Z Z Z ?_
      intro W230 hS231
      have hS232:sW w U U216 [.blk b227 160 B4,.blk b184 160 B2,.blk b23 161 B0] W230:=hS231
      refine eN (sR (.fl 0 (.fl 1 (.fx 2 (.fx 3 (.nil) .stop) .stop))) Z (oL Z (hS232.ldBA (j:=0) Z Z Z ZP zp (vs:=B4) Z Z) (oM Z f179 ?_)))
      have hF233:FnOK Tryz.prog U216 (.func (.func 143) #[] #[]) wGl wGm wAM:=⟨143,[],[],rfl,Tryz.call143,fun U1 w1 x y vs le hs ha hm=>by obtain rfl:=ha;exact wCb x w1 U1 hs  hm⟩
      have h234:=h194.le le202
      have h235:=h234.le le209
      have h236:=h235.le le220
      refine bnK hm225 fun x237 h238 hm239=>zM 0 Z Z Z Z (zN Z Z Tryz.call100 (zE Z (zE Z zW)) Z) hS232 (fun hs=>wBX (⟨wAM,1,9999⟩:wAJ) (.func (.func 143) #[] #[]) p0 pA0 pc0 W230 U216 hs hF233 h236 h238) (.inr Z) ?_
      rintro U240 L241 v242 W243 le244 hS245 ⟨A246,c247,rfl,rfl⟩
      have hS249:sW w U U240 [.row A246 c247 3 1 (nA KL.encI x237),.blk b227 160 B4,.blk b184 160 B2,.blk b23 161 B0] W243:=hS245
      have q:=hS249.freezeR (k:=0) (n:=x237.length) rfl (wAI (f:=KL.encI) (sz:=1) (fun _=>rfl) x237) (by decide)
      obtain ⟨U250,le251,hs252,hS253⟩:=q
      have hS254:sW w U U250 [.blk b227 160 B4,.blk b184 160 B2,.blk b23 161 B0] W243:=hS253
      refine bnK hm239 fun x255 h256 hm257=>zM 0 Z Z Z Z (zN Z Z Tryz.call87 (zE Z zW) Z) hS254 (fun hs=>wDb x237 A246 c247 W243 U250 hs hs252 h256) (.inr Z) ?_
      rintro U258 L259 v260 W261 le262 hS263 ⟨rfl,rfl⟩
      have hS264:sW w U U258 [.blk b227 160 B4,.blk b184 160 B2,.blk b23 161 B0] W261:=hS263
      refine eN (ifc hm257 ?_ ?_)
      ·intro c265 hm266
       refine zn (congrArg nB c265.out) (sR fL1 Z (oA Z Z (eN (zO (zh (zH (zH (zh (zH ?_)))))))))
       cases hm266
       exact ⟨rfl,_,(zm rfl),U258,_,(hS264.pick [] _ (by decide) rfl),rfl,rfl⟩
      ·intro c265 hm267
       refine zk (congrArg nB (nE.2 c265.out)) (zy (zd (zD (rR fL2 rfl (zZ rfl rfl rfl rfl (fun _=>zl (zg rfl rfl rfl) (congrArg (jV) (show w64 (1 + 1)=2 by decide))) (zK rfl rfl rfl rfl rfl rfl (eN (CKR.succ (sR fL1 rfl (zZ rfl rfl rfl rfl (fun _=>zP rfl rfl rfl) (eN (zB (zk (zi (by decide)) (zx (ze (ze (zq (zD (sR fL1 rfl (ZX rfl rfl rfl rfl rfl rfl (eN (zO ?_))))))))))))))))))))))
       cases hm267
       exact ⟨rfl,_,(zm rfl),U258,_,(hS264.pick [] _ (by decide) rfl),rfl,rfl⟩
    ·intro c175 hm268
     refine zn (nF (c175.out)) (sR fL1 Z (oA Z Z (eN (zO (zh (zH (zH (zh (zH ?_)))))))))
     cases hm268
     exact ⟨rfl,_,(zm rfl),U168,_,(hS174.pick [] _ (by decide) rfl),rfl,rfl⟩
   ·intro c125 hm269
    refine zn (nF (c125.out)) (sR fL1 Z (oA Z Z (eN (zO (zh (zH (zH (zh (zH ?_)))))))))
    cases hm269
    exact ⟨rfl,_,(zm rfl),U118,_,(hS124.pick [] _ (by decide) rfl),rfl,rfl⟩
  ·intro c75 hm270
   refine zn (nF (c75.out)) (sR fL1 Z (oA Z Z (eN (zO (zh (zH (zH (zh (zH ?_)))))))))
   cases hm270
   exact ⟨rfl,_,(zm rfl),U68,_,(hS74.pick [] _ (by decide) rfl),rfl,rfl⟩
 ·intro c11 hm271
  refine zn (nF (c11.out)) (sR fL1 Z (oA Z Z (eN (zO (zH ?_)))))
  cases hm271
  exact ⟨Z,_,(zm Z),U4,_,hS10,Z,Z⟩
end Go.Proofs.YtghaibkggdecnaaGreat
namespace Go.Proofs.YtghaibkggdecnaaGreat
open Go.KL
set_option maxHeartbeats 4000000
theorem wFL (p0:Int) (p1:List wAA) (pb1:Nat) (pA1:Option Addr) (pc1:Nat) (w:World) (U:PHeap) (hS:St0 w U []) (ha0:Cl U pb1 0 [.slice pA1 p1.length pc1]) (ha1:Sl U 3 pA1 pc1 p1.length (nA wAE p1)) {r:Bool} (hm:wBD p0 p1=some r):Gv Tryz.prog 147 [jV p0,.pointer (some ⟨pb1,0,none⟩)] w (wCd w [] U (fun U_ L_ v=>v=.bool r/\L_=[])):=by
 unfold wBD at hm
 refine Gv.of Tryz.func147 Z Tryz.ntmps147 Tryz.results147 Z (sR fL1 Z (oA Z Z (eN (sR (wLM (.fx 4 (.fl 5 (.nil)) .stop)) Z (oM Z Z (oL Z (hS.ldC (f:=0) ha0 (v:=.slice pA1 p1.length pc1) Z Z ZC Z) (oR Z (zQ Z Z zV) (oR Z (ZB Z Z Z) (bnK hm fun x1 h2 hm3=>zM 0 Z Z Z Z (zN Z Z Tryz.call86 (zE Z (zE Z (zE Z zW))) Z) hS (fun hs=>wDQ p0 0 (w64 ((↑p1.length:Int) - 1)) w U hs h2) (.inr Z) ?_)))))))))
 rintro U4 L5 v6 W7 le8 hS9 ⟨rfl,rfl⟩
 have hS10:sW w U U4 [] W7:=hS9
 refine oA Z Z (eN (zO ?_))
 have hE:=nD hm3;first | subst r | cases hE
 exact ⟨Z,_,(zm Z),U4,_,hS10,Z,Z⟩
theorem wDq (p0:List wAA) (pA0:Option Addr) (pc0:Nat) (p1:List Int) (pA1:Option Addr) (pc1:Nat) (w:World) (U:PHeap) (hS:St0 w U []) (ha0:Sl U 3 pA0 pc0 p0.length (nA wAE p0)) (ha1:Sl U 1 pA1 pc1 p1.length (nA KL.encI p1)) {r:Int} (hm:wBV p0 p1=some r):Gv Tryz.prog 108 [.slice pA0 p0.length pc0,.slice pA1 p1.length pc1] w (wCd w [] U (fun U_ L_ v=>v=jV r/\L_=[])):=by
 unfold wBV at hm
 refine Gv.of Tryz.func108 rfl Tryz.ntmps108 Tryz.results108 rfl (sR (.fx 0 (.fl 1 (.nil)) .stop) rfl (OKS.box (cs:=[.slice pA0 p0.length pc0]) rfl rfl rfl rfl rfl rfl (by rfl) hS ?_))
 intro W1 b2 hS3
 have q:=hS3.freeze (k:=0) rfl
 obtain ⟨U5,le6,hC7,hS8⟩:=q
 replace hC7:=Cl.of hC7
 have hS9:sW w U U5 [] W1:=hS8
 replace hC7:Cl U5 b2 0 [.slice pA0 p0.length pc0]:=hC7
 refine oA Z Z (eN (sR (.fl 0 (.fx 1 (.fl 2 (.nil)) .stop)) Z (oL Z (hS9.ldC (f:=0) hC7 (v:=.slice pA0 p0.length pc0) Z Z ZC Z) ?_)))
 have h10:=ha0.le le6
 refine bnK hm fun x11 h12 hm13=>zM 0 Z Z Z Z (zN Z Z Tryz.call41 (zE Z zW) Z) hS9 (fun hs=>wCo p0 pA0 pc0 W1 U5 hs h10 h12) (.inr Z) ?_
 rintro U14 L15 v16 W17 le18 hS19 ⟨rfl,rfl⟩
 have hS20:sW w U U14 [] W17:=hS19
 refine oA Z Z (eN (zB (zU (sR fL3 Z (oM Z Z (oR Z (zw Z Z Z) (oA Z Z (eN (ifc hm13 ?_ ?_)))))))))
 ·intro c21 hm22
  refine zk (zi (fun h=>h c21.out)) (sR fL6 Z (oM Z Z (oR Z (zQ Z Z zA) ?_)))
  have h23:=hC7.le le18
  refine oL Z (hS20.ldC (f:=0) h23 (v:=.slice pA0 p0.length pc0) Z Z ZC Z) (oR Z (zQ Z Z zV) (oR Z (zw Z Z Z) (oA Z Z (eN (ifc hm22 ?_ ?_)))))
  ·intro c24 hm25
   refine zk (zi (fun h=>h c24.out)) (sR (.fl 0 (.fl 1 (.fx 2 (.fl 3 (.fl 4 (.nil))) .stop))) Z (oM Z Z (oR Z (Runs.mkf Z zW (zE Z zW)) ?_)))
   have h26:=ha1.le le6
   have h27:=h26.le le18
   have h28:=h10.le le18
   have hF29:FnOK Tryz.prog U14 (.func (.func 147) #[] #[.pointer (some ⟨b2,0,none⟩)]) wIZ wIa (fun x=>wBD x p0):=⟨147,[],[.pointer (some ⟨b2,0,none⟩)],rfl,Tryz.call147,fun U1 w1 x y vs le hs ha hm=>by obtain rfl:=ha;exact wFL x p0 b2 pA0 pc0 w1 U1 hs (h23.le le) (h28.le le) hm⟩
   refine bnK hm25 fun x30 h31 hm32=>zM 0 Z Z Z Z (zN Z Z Tryz.call99 (zE Z (zE Z zW)) Z) hS20 (fun hs=>wCP p1 pA1 pc1 (fun x=>wBD x p0) (.func (.func 147) #[] #[.pointer (some ⟨b2,0,none⟩)]) W17 U14 hs h27 hF29 h31) (.inr Z) ?_
   rintro U33 L34 v35 W36 le37 hS38 ⟨rfl,rfl⟩
   have hS39:sW w U U33 [] W36:=hS38
   refine oR Z (ZW Z Z) (oA Z Z (eN (ifc hm32 ?_ ?_)))
   ·intro c40 hm41
    refine zk (nC c40.out) (sR (.fl 0 (.fx 1 (.fl 2 (.nil)) .stop)) Z (oM Z Z ?_))
    have h42:=h27.le le37
    refine bnK hm41 fun x43 h44 hm45=>zM 0 Z Z Z Z (zN Z Z Tryz.call87 (zE Z zW) Z) hS39 (fun hs=>wDb p1 pA1 pc1 W36 U33 hs h42 h44) (.inr Z) ?_
    rintro U46 L47 v48 W49 le50 hS51 ⟨rfl,rfl⟩
    have hS52:sW w U U46 [] W49:=hS51
    refine oA Z Z (eN (ifc hm45 ?_ ?_))
    ·intro c53 hm54
     refine zn (congrArg nB c53.out) (sR fL1 Z (oA Z Z (eN (zO (zh (zH ?_))))))
     cases hm54
     exact ⟨Z,_,(zm Z),U46,_,hS52,Z,Z⟩
    ·intro c53 hm55
     refine zk (congrArg nB (nE.2 c53.out)) (zy (zd (zD (sR fL1 Z (oA Z Z (eN (zO ?_)))))))
     cases hm55
     exact ⟨Z,_,(zm Z),U46,_,hS52,Z,Z⟩
   ·intro c40 hm56
    refine zn (nF (c40.out)) (sR fL1 Z (oA Z Z (eN (zO (zh (zH ?_))))))
    cases hm56
    exact ⟨Z,_,(zm Z),U33,_,hS39,Z,Z⟩
  ·intro c24 hm57
   refine cT Z c24 (sR fL1 Z (oA Z Z (eN (zO (zh (zH ?_))))))
   cases hm57
   exact ⟨Z,_,(zm Z),U14,_,hS20,Z,Z⟩
 ·intro c21 hm58
  refine cT Z c21 (sR fL2 Z (oM Z Z (oA Z Z (eN (zO (zh (zH ?_)))))))
  have hE:=nD hm58;first | subst r | cases hE
  exact ⟨Z,_,(zm Z),U14,_,hS20,Z,Z⟩
theorem wHh (p0:List wAA) (pA0:Option Addr) (pc0:Nat) (p1:List Int) (pA1:Option Addr) (pc1:Nat) (w:World) (U:PHeap) (hS:St0 w U []) (ha0:Sl U 3 pA0 pc0 p0.length (nA wAE p0)) (ha1:Sl U 1 pA1 pc1 p1.length (nA KL.encI p1)) {r:Int × Int} (hm:wBa p0 p1=some r):Gv Tryz.prog 51 [.slice pA0 p0.length pc0,.slice pA1 p1.length pc1] w (wCd w [] U (fun U_ L_ v=>v=.tuple #[jV r.1,jV r.2]/\L_=[])):=by
 unfold wBa at hm
 refine Gv.of Tryz.func51 Z Tryz.ntmps51 Tryz.results51 Z (sR fL2 Z (oA Z Z (oA Z Z (eN (zB (sR (.fl 0 (.fl 1 (.fx 2 (.fl 3 (.nil)) .stop))) Z (oM Z Z (oM Z Z (bnK hm fun x1 h2 hm3=>zM 0 Z Z Z Z (zN Z Z Tryz.call108 (zE Z (zE Z zW)) Z) hS (fun hs=>wDq p0 pA0 pc0 p1 pA1 pc1 w U hs ha0 ha1 h2) (.inr Z) ?_)))))))))
 rintro U4 L5 v6 W7 le8 hS9 ⟨rfl,rfl⟩
 have hS10:sW w U U4 [] W7:=hS9
 refine oA Z Z (eN (sR fL2 Z (oM Z Z (oR Z (zw Z Z Z) (eN (ifc hm3 ?_ ?_))))))
 ·intro c11 hm12
  refine zk (zi (fun h=>h c11.out)) (kN (sR fL3 Z (oM Z Z (oR Z (zQ Z Z zV) (oA Z Z (eN (sR (.fx 0 (.fl 1 (.nil)) .stop) Z (OKS.makeMap Z Z Z Z Z hS10 ?_))))))))
  intro W13 b14 hS15
  have hr16:=MpR.nil wEx wFK
  refine oA Z Z (eN (zB (sR fL3 Z (oM Z Z (oR Z (zQ Z Z zA) (oM Z Z (eN (zU ?_))))))))
  have q:=bnd hm12
  obtain ⟨⟨y41,y42⟩,hf38,hm37⟩:=q
  try dsimp only at hm37
  have q:=wBH hf38
  obtain ⟨hle39,hf40⟩:=q
  replace hle39:=zC hle39
  refine CK.forN' (fun k36 (l32,x35) σ_ w_=>∃ (U_:PHeap) (es33:Array MapEntry) (ck34:Nat),σ_ 24=jV (↑k36:Int)/\σ_ 0=.slice pA0 p0.length pc0/\σ_ 7=jV x35/\σ_ 8=.map (some b14)/\σ_ 22=.slice pA1 p1.length pc1/\σ_ 23=jV (↑p1.length:Int)/\PHeap.Le U4 U_/\sW w U U_ [.obj b14 (.map es33 ck34)] w_/\MpR es33 wEx wFK l32) hf40 ?_ ?_ ?_
  ·exact ⟨U4,#[],0,Z,Z,Z,Z,Z,Z,(zJ _),hS15,hr16⟩
  ·rintro k36 ⟨l32,x35⟩ xx45 σ43 W44 hk48 ⟨U50,es33,ck34,fi49,f53,f54,f55,f56,f57,le51,hS52,h58⟩ hx46
   try dsimp only at hx46
   have c59:Hid ((↑k36:Int) < (↑p1.length:Int)):=zC (wBU hk48)
   replace hk48:=zC hk48
   have hi60:Hid (w64 ((↑k36:Int) + 1)=(↑(k36 + 1):Int)):=zC (by have h1:=hle39.out;have h2:=c59.out;rw [wAS] <;> omega)
   refine sR fL1 Z (oR Z (zP Z fi49 f57) (eN (zB (cT Z c59 (kN (zB (zU (sR fL5 Z (oM Z fi49 (bnK hx46 fun x61 h62 hm63=>?_))))))))))
   have h64:=ha1.le le8
   have h65:=h64.le le51
   have q:=h65.el (fun _=>rfl) (wAN h62)
   obtain ⟨b66,off67,hA68,hC69⟩:=q
   refine oR Z (zt Z f56 hA68 fi49 zA zF (wBL h62)) (oL Z (hS52.ldC (f:=0) hC69 (v:=jV x61) Z Z zL Z) (oA Z Z (oA Z Z (eN (zB (sR fL12 Z (oM Z f55 (oM Z f53 (oM Z Z (bnK hm63 fun x70 h71 hm72=>?_))))))))))
   have h73:=ha0.le le8
   have h74:=h73.le le51
   have q:=h74.el (fun _=>rfl) (wAN h71)
   obtain ⟨b75,off76,hA77,hC78⟩:=q
   refine oR Z (ZO Z Z hA77 Z zV zr (wCL h71) (wCU h71)) (oR Z (ZE Z Z ZA Z zF) (oL Z (hS52.ldC (f:=1) hC78 (v:=jV x70.Nation) Z Z zL Z) (oL Z (hS52.lookup2 (j:=0) (mk:=wEx) (mv:=wFK) (a:=x70.Nation) (z:=0) Z Z Z Z (wCl ZL) wEZ ZK h58) (oM Z Z (oR Z (zu Z Z (v:=jV (wCK l32 x70.Nation 0)) Z) (oR Z (zu Z Z (v:=.bool (wFu l32 x70.Nation)) Z) (oA Z Z (oA Z Z (eN (sR fL1 Z (oM Z Z (eN (ifc hm72 ?_ ?_)))))))))))))
   ·intro c79 hm80
    refine zn (congrArg nB c79.out) (rR fL6 Z (oM Z f54 (oM Z Z (oM Z Z (oR Z (ZB Z Z Z) (oR Z (Runs.min Z Z Z) (oA Z Z (eN (rR (wQD (.fx 7 (.nil) .stop)) Z (oM Z f55 (oM Z f53 (oM Z Z ?_))))))))))))
    have q:=h74.el (fun _=>rfl) (wAN h71)
    obtain ⟨b81,off82,hA83,hC84⟩:=q
    refine zZ rfl rfl rfl rfl (fun _=>ZO rfl rfl hA83 rfl zV zr (wCL h71) (wCU h71)) (zZ rfl rfl rfl rfl (fun _=>ZE rfl rfl ZA rfl zF) (ZG rfl rfl rfl rfl (hS52.ldC (f:=1) hC84 (v:=jV x70.Nation) rfl rfl zL rfl) rfl (zK rfl rfl rfl rfl rfl rfl (OKS.mapPut (x:=.tmp 45) (y:=.tmp 50) (z:=.tmp 51) (j:=0) (mk:=wEx) (mv:=wFK) (a:=x70.Nation) (v:=(↑k36:Int)) rfl rfl rfl (by first | exact .inl rfl | exact .inr rfl) hS52 rfl rfl rfl rfl (wCl ZL) wEZ h58 rfl ?_))))
    intro es85 ck86 W87 hr88 hS89
    have hS90:sW w U U50 [.obj b14 (.map es85 ck86)] W87:=hS89
    refine zj (zd (zD (rR fL2 Z (oR Z (zl (zg Z fi49 Z) (congrArg (jV) hi60.out)) (oM Z Z (zj ?_))))))
    cases hm80
    exact zD ⟨Z,⟨U50,es85,ck86,Z,f53,Z,f55,f56,f57,le51,hS90,hr88⟩⟩
   ·intro c79 hm95
    refine zk (congrArg nB (nE.2 c79.out)) (kN (rR (wQD (.fx 7 (.nil) .stop)) Z (oM Z f55 (oM Z f53 (oM Z Z ?_)))))
    have q:=h74.el (fun _=>rfl) (wAN h71)
    obtain ⟨b96,off97,hA98,hC99⟩:=q
    refine zZ rfl rfl rfl rfl (fun _=>ZO rfl rfl hA98 rfl zV zr (wCL h71) (wCU h71)) (zZ rfl rfl rfl rfl (fun _=>ZE rfl rfl ZA rfl zF) (ZG rfl rfl rfl rfl (hS52.ldC (f:=1) hC99 (v:=jV x70.Nation) rfl rfl zL rfl) rfl (zK rfl rfl rfl rfl rfl rfl (OKS.mapPut (x:=.tmp 45) (y:=.tmp 50) (z:=.tmp 51) (j:=0) (mk:=wEx) (mv:=wFK) (a:=x70.Nation) (v:=(↑k36:Int)) rfl rfl rfl (by first | exact .inl rfl | exact .inr rfl) hS52 rfl rfl rfl rfl (wCl ZL) wEZ h58 rfl ?_))))
    intro es100 ck101 W102 hr103 hS104
    have hS105:sW w U U50 [.obj b14 (.map es100 ck101)] W102:=hS104
    refine zj (zd (zD (rR fL2 Z (oR Z (zl (zg Z fi49 Z) (congrArg (jV) hi60.out)) (oM Z Z (zj ?_))))))
    cases hm95
    exact zD ⟨Z,⟨U50,es100,ck101,Z,f53,f54,f55,f56,f57,le51,hS105,hr103⟩⟩
  ·rintro σ110 W111 ⟨U120,e118,c119,fi113,f123,f124,f125,f126,f127,le121,hS122,h128⟩
   have c129:Hid (¬ ((↑(((↑p1.length:Int):Int) - 0).toNat:Int) < (↑p1.length:Int))):=zC (wAv)
   refine sR fL1 Z (oR Z (zP Z fi113 f127) (eN (zB (cF Z c129 (zx (ze (ze (zq (zD (sR fL3 Z (oM Z f124 (oA Z Z (oA Z Z (eN (zO ?_)))))))))))))))
   cases hm37
   exact ⟨rfl,_,(wEf rfl rfl),U120,_,(hS122.pick [] _ (by decide) rfl),rfl,rfl⟩
 ·intro c11 hm130
  refine cT Z c11 (sR fL3 Z (oM Z Z (oA Z Z (oA Z Z (eN (zO (zH ?_)))))))
  cases hm130
  exact ⟨Z,_,(wEf Z Z),U4,_,hS10,Z,Z⟩
theorem wBb (p0:Int) (p1:Int) (p2:Int) (w:World) (U:PHeap) (hS:St0 w U [])  {r:Bool} (hm:wAi p0 p1 p2=some r):Gv Tryz.prog 77 [jV p0,jV p1,jV p2] w (wCd w [] U (fun U_ L_ v=>v=.bool r/\L_=[])):=by
 unfold wAi at hm
 refine Gv.of Tryz.func77 Z Tryz.ntmps77 Tryz.results77 Z (sR fL1 Z (oA Z Z (eN (sR fL9 Z (oM Z Z (oM Z Z (oR Z (zP Z Z Z) (oM Z Z ?_))))))))
 by_cases c1:p0 < p1
 ·have hm2:=hm;rw [if_pos c1] at hm2;replace c1:=zC c1
  refine oT Z c1 (oT Z c1 (oT Z c1 (oR Z (zS Z (ZD c1.out) Z) (oA Z Z (eN (zO ?_))))))
  have hE:=nD hm2;first | subst r | cases hE
  exact ⟨Z,_,(zm Z),U,_,hS,Z,Z⟩
 ·have hm3:=hm;rw [if_neg c1] at hm3;replace c1:=zC c1
  refine zK Z Z Z (wF Z c1) Z Z (zK Z Z Z (wF Z c1) Z Z (rU Z (wF Z c1) (ZJ Z Z Z) (oR Z (zX Z (zi c1.out) Z) (oA Z Z (eN (zO ?_))))))
  cases hm3
  exact ⟨Z,_,(zm Z),U,_,hS,Z,Z⟩
theorem wBz (p0:List wAD) (pA0:Option Addr) (pc0:Nat) (w:World) (U:PHeap) (hS:St0 w U []) (ha0:Sl U 3 pA0 pc0 p0.length (nA wAH p0)) {r:Int} (hm:wAo p0=some r):Gv Tryz.prog 42 [.slice pA0 p0.length pc0] w (wCd w [] U (fun U_ L_ v=>v=jV r/\L_=[])):=by
 unfold wAo at hm
 refine Gv.of Tryz.func42 Z Tryz.ntmps42 Tryz.results42 Z (sR fL1 Z (oA Z Z (eN (zB (sR fL8 Z (oM Z Z (oR Z (zQ Z Z zR) (oR Z (ZV Z Z Z) (oM Z Z ?_)))))))))
 by_cases c1:(↑p0.length:Int)=0
 ·have hm2:=hm;rw [if_pos c1] at hm2;replace c1:=zC c1
  refine oT Z c1 (oT Z c1 (oT Z c1 (oR Z (zS Z (ZD c1.out) Z) (eN (zn Z (sR fL1 Z (oA Z Z (eN (zO (zH ?_))))))))))
  cases hm2
  exact ⟨Z,_,(zm Z),U,_,hS,Z,Z⟩
 ·have hm3:=hm;rw [if_neg c1] at hm3;replace c1:=zC c1
  refine zK Z Z Z (wF Z c1) Z Z (rU Z (wF Z c1) (zQ Z Z zR) (rU Z (wF Z c1) (ZJ Z Z Z) (oR Z (zX Z (zi c1.out) Z) (eN (ifc hm3 ?_ ?_)))))
  ·intro c4 hm5
   refine cT Z c4 (sR fL1 Z (oA Z Z (eN (zO (zH ?_)))))
   cases hm5
   exact ⟨Z,_,(zm Z),U,_,hS,Z,Z⟩
  ·intro c4 hm6
   refine cF Z c4 (kN (zB (sR fL1 Z (oA Z Z (eN (zU ?_))))))
   have q:=wBy hm6
   obtain ⟨r9,hX10⟩:=q
   have q:=wBx hX10
   obtain ⟨hle11,hf12⟩:=q
   replace hle11:=zC hle11
   refine ZU (fun k8 _ σ_ w_=>∃ (U_:PHeap),σ_ 3=jV (↑k8:Int)/\σ_ 0=.slice pA0 p0.length pc0/\PHeap.Le U U_/\sW w U U_ [] w_) hf12 ?_ ?_ ?_
   ·exact ⟨U,Z,Z,(zJ _),hS⟩
   ·rintro k8 ⟨⟩ xx15 σ13 W14 hk18 ⟨U20,fi19,f23,le21,hS22⟩ hx16 hb17
    try dsimp only at hx16
    have c24:Hid ((↑k8:Int) < (↑p0.length:Int)):=zC (wBU hk18)
    replace hk18:=zC hk18
    have hi25:Hid (w64 ((↑k8:Int) + 1)=(↑(k8 + 1):Int)):=zC (by have h1:=hle11.out;have h2:=c24.out;rw [wAS] <;> omega)
    refine zB (sR fL4 Z (oM Z fi19 (oM Z f23 (oR Z (zQ Z Z zR) (oR Z (zP Z Z Z) (eN (cT Z c24 (kN (zB (zU (sR (wIp (.fx 5 (wRc (.fx 12 (wQF (.fx 20 (.fl 21 (.nil)) .stop)) .stop)) .stop)) Z (oM Z f23 (oM Z fi19 (bnK hx16 fun x26 h27 hm28=>?_))))))))))))))
    have h29:=ha0.le le21
    have q:=h29.el (fun _=>rfl) (wAN h27)
    obtain ⟨b30,off31,hA32,hC33⟩:=q
    refine oR Z (zt Z Z hA32 Z zR ZF (wBL h27)) (oR Z (ZE Z Z zz Z zF) (oL Z (hS22.ldC (f:=0) hC33 (v:=jV x26.Bib) Z Z zL Z) (bnK hm28 fun x34 h35 hm36=>zM 0 Z Z Z Z (zN Z Z Tryz.call77 (zE Z (zE Z (zE Z zW))) Z) hS22 (fun hs=>wBb x26.Bib 1 999 W14 U20 hs h35) (.inr Z) ?_)))
    rintro U37 L38 v39 W40 le41 hS42 ⟨rfl,rfl⟩
    have hS43:sW w U U37 [] W40:=hS42
    refine oM Z Z (ifc hm36 ?_ ?_)
    ·intro c44 hm45
     refine zG Z Z Z (zf Z Z (congrArg nB c44.out) Z) (zG Z Z Z (zf Z Z (congrArg nB c44.out) Z) (zG Z Z Z (zf Z Z (congrArg nB c44.out) Z) (zG Z Z Z (zf Z Z (congrArg nB c44.out) Z) (zG Z Z Z (zf Z Z (congrArg nB c44.out) Z) (Zb Z Z Z (zf Z Z (congrArg nB c44.out) Z) (oR Z (zS Z (congrArg nB c44.out) Z) (oM Z Z (oN Z (oN Z (oN Z (oN Z (oN Z (Zb Z Z Z (zf Z Z Z Z) (oR Z (zS Z Z Z) (eN (zn Z (sR fL1 Z (oA Z Z (eN (zO (zh (zH ?_))))))))))))))))))))))
     have q:=wBE hm45
     obtain ⟨v46,hm47,e48⟩:=q
     obtain rfl:=wCD hm6 hX10 (hb17 v46 e48)
     refine zH (zh (zH ?_))
     cases hm47
     exact ⟨Z,_,(zm Z),U37,_,hS43,Z,Z⟩
    ·intro c44 hm49
     refine zK Z Z Z (zI Z Z (congrArg nB (nE.2 c44.out))) Z f23 (zK Z Z Z (zI Z Z (congrArg nB (nE.2 c44.out))) Z fi19 ?_)
     have h50:=h29.le le41
     have q:=h50.el (fun _=>rfl) (wAN h27)
     obtain ⟨b51,off52,hA53,hC54⟩:=q
     refine zZ Z Z Z (zI Z Z (congrArg nB (nE.2 c44.out))) (fun _=>zt Z Z hA53 Z zR ZF (wBL h27)) (zZ Z Z Z (zI Z Z (congrArg nB (nE.2 c44.out))) (fun _=>ZE Z Z zz Z zF) (ZG Z Z Z (zI Z Z (congrArg nB (nE.2 c44.out))) (hS43.ldC (f:=1) hC54 (v:=jV x26.Nation) Z Z zL Z) Z (bnK hm49 fun x55 h56 hm57=>zM 0 Z Z Z (zI Z Z (congrArg nB (nE.2 c44.out))) (zN Z Z Tryz.call77 (zE Z (zE Z (zE Z zW))) Z) hS43 (fun hs=>wBb x26.Nation 0 30 W40 U37 hs h56) (.inr Z) ?_)))
     rintro U58 L59 v60 W61 le62 hS63 ⟨rfl,rfl⟩
     have hS64:sW w U U58 [] W61:=hS63
     refine oR Z (zX Z (congrArg nB (nE.2 c44.out)) Z) (oM Z Z (ifc hm57 ?_ ?_))
     ·intro c65 hm66
      refine zG Z Z Z (zf Z Z (congrArg nB c65.out) Z) (zG Z Z Z (zf Z Z (congrArg nB c65.out) Z) (zG Z Z Z (zf Z Z (congrArg nB c65.out) Z) (zG Z Z Z (zf Z Z (congrArg nB c65.out) Z) (zG Z Z Z (zf Z Z (congrArg nB c65.out) Z) (Zb Z Z Z (zf Z Z (congrArg nB c65.out) Z) (oR Z (zS Z (congrArg nB c65.out) Z) (eN (zn Z (sR fL1 Z (oA Z Z (eN (zO (zh (zH ?_))))))))))))))
      have q:=wBE hm66
      obtain ⟨v67,hm68,e69⟩:=q
      obtain rfl:=wCD hm6 hX10 (hb17 v67 e69)
      refine zH (zh (zH ?_))
      cases hm68
      exact ⟨Z,_,(zm Z),U58,_,hS64,Z,Z⟩
     ·intro c65 hm70
      refine zK Z Z Z (zI Z Z (congrArg nB (nE.2 c65.out))) Z f23 (zK Z Z Z (zI Z Z (congrArg nB (nE.2 c65.out))) Z fi19 ?_)
      have h71:=h50.le le62
      have q:=h71.el (fun _=>rfl) (wAN h27)
      obtain ⟨b72,off73,hA74,hC75⟩:=q
      refine zZ Z Z Z (zI Z Z (congrArg nB (nE.2 c65.out))) (fun _=>zt Z Z hA74 Z zR ZF (wBL h27)) (zZ Z Z Z (zI Z Z (congrArg nB (nE.2 c65.out))) (fun _=>ZE Z Z zz Z zF) (ZG Z Z Z (zI Z Z (congrArg nB (nE.2 c65.out))) (hS64.ldC (f:=2) hC75 (v:=jV x26.Rank) Z Z zL Z) Z (bnK hm70 fun x76 h77 hm78=>zM 0 Z Z Z (zI Z Z (congrArg nB (nE.2 c65.out))) (zN Z Z Tryz.call77 (zE Z (zE Z (zE Z zW))) Z) hS64 (fun hs=>wBb x26.Rank 1 9999 W61 U58 hs h77) (.inr Z) ?_)))
      rintro U79 L80 v81 W82 le83 hS84 ⟨rfl,rfl⟩
      have hS85:sW w U U79 [] W82:=hS84
      refine oR Z (zX Z (congrArg nB (nE.2 c65.out)) Z) (eN (ifc hm78 ?_ ?_))
      ·intro c86 hm87
       refine zn (congrArg nB c86.out) (sR fL1 Z (oA Z Z (eN (zO (zh (zH ?_))))))
       have q:=wBE hm87
       obtain ⟨v88,hm89,e90⟩:=q
       obtain rfl:=wCD hm6 hX10 (hb17 v88 e90)
       refine zH (zh (zH ?_))
       cases hm89
       exact ⟨Z,_,(zm Z),U79,_,hS85,Z,Z⟩
      ·intro c86 hm91
       refine zk (congrArg nB (nE.2 c86.out)) (zy (zd (zD (rR fL3 Z (oM Z fi19 (oR Z (zl (zg Z Z Z) (congrArg (jV) hi25.out)) (oA Z Z (zj ?_))))))))
       obtain rfl:=nD hm91
       exact zD ⟨Z,_,Z,⟨U79,Z,f23,(((le21.trans le41).trans le62).trans le83),hS85⟩⟩
   ·rintro ⟨⟩ σ92 W93 ⟨U96,fi95,f99,le97,hS98⟩ hb94
    have hm100:=wCk hm6 hX10 hb94
    try dsimp only at hm100
    have c101:Hid (¬ ((↑(((↑p0.length:Int):Int) - 0).toNat:Int) < (↑p0.length:Int))):=zC (wAv)
    refine zB (sR fL4 Z (oM Z fi95 (oM Z f99 (oR Z (zQ Z Z zR) (oR Z (zP Z Z Z) (eN (cF Z c101 (zx (ze (ze (zq (zD (zB (sR fL1 Z (oA Z Z (eN (zU ?_)))))))))))))))))
    have q:=wBy hm100
    obtain ⟨r104,hX105⟩:=q
    have q:=wBx hX105
    obtain ⟨hle106,hf107⟩:=q
    replace hle106:=zC hle106
    refine ZU (fun k103 _ σ_ w_=>∃ (U_:PHeap),σ_ 4=jV (↑k103:Int)/\σ_ 0=.slice pA0 p0.length pc0/\PHeap.Le U96 U_/\sW w U U_ [] w_) hf107 ?_ ?_ ?_
    ·exact ⟨U96,Z,f99,(zJ _),hS98⟩
    ·rintro k103 ⟨⟩ xx110 σ108 W109 hk113 ⟨U115,fi114,f118,le116,hS117⟩ hx111 hb112
     try dsimp only at hx111
     have c119:Hid ((↑k103:Int) < (↑p0.length:Int)):=zC (wBU hk113)
     replace hk113:=zC hk113
     have hi120:Hid (w64 ((↑k103:Int) + 1)=(↑(k103 + 1):Int)):=zC (by have h1:=hle106.out;have h2:=c119.out;rw [wAS] <;> omega)
     refine zB (sR fL4 Z (oM Z fi114 (oM Z f118 (oR Z (zQ Z Z zR) (oR Z (zP Z Z Z) (eN (cT Z c119 (kN (zB (zU (sR fL1 Z (oA Z Z (eN (zU ?_))))))))))))))
     have q:=wBy hx111
     obtain ⟨r123,hX124⟩:=q
     have q:=wBx hX124
     obtain ⟨hle125,hf126⟩:=q
     replace hle125:=zC hle125
     refine ZU (fun k122 _ σ_ w_=>∃ (U_:PHeap),σ_ 5=jV (↑k122:Int)/\σ_ 0=.slice pA0 p0.length pc0/\σ_ 4=jV (↑k103:Int)/\PHeap.Le U115 U_/\sW w U U_ [] w_) hf126 ?_ ?_ ?_
     ·exact ⟨U115,Z,f118,fi114,(zJ _),hS117⟩
     ·rintro k122 ⟨⟩ xx129 σ127 W128 hk132 ⟨U134,fi133,f137,f138,le135,hS136⟩ hx130 hb131
      try dsimp only at hx130
      have c139:Hid ((↑k122:Int) < (↑k103:Int)):=zC (wBU hk132)
      replace hk132:=zC hk132
      have hi140:Hid (w64 ((↑k122:Int) + 1)=(↑(k122 + 1):Int)):=zC (by have h1:=hle125.out;have h2:=c139.out;rw [wAS] <;> omega)
      refine zB (sR fL3 rfl (zK rfl rfl rfl rfl rfl fi133 (zK rfl rfl rfl rfl rfl f138 (zZ rfl rfl rfl rfl (fun _=>zP rfl rfl rfl) (eN (cT Z c139 (kN (zB (zU (zB (Zd Za [3,3,3,3,1,3,3,3,3,1,3,3,3,3,3,3,1,3,3,3,3,1,3,3] fL24 (by kernel_rfl) ?_)))))))))))
      have hS141:=hS136.drew
      generalize hw_W142:({ W128 with drawn:=W128.drawn + 1 }:World)=W142 at hS141 ⊢
      refine oM Z f137 (oM Z f138 (bnK hx130 fun x143 h144 hm145=>?_))
      have h146:=ha0.le le97
      have h147:=h146.le le116
      have h148:=h147.le le135
      have q:=h148.el (fun _=>rfl) (wAN h144)
      obtain ⟨b149,off150,hA151,hC152⟩:=q
      refine oR Z (zt Z Z hA151 Z zR ZF (wBL h144)) (oR Z (ZE Z Z zz Z zF) (oL Z (hS141.ldC (f:=0) hC152 (v:=jV x143.Bib) Z Z zL Z) (oM Z f137 (oM Z fi133 (bnK hm145 fun x153 h154 hm155=>?_)))))
      have q:=h148.el (fun _=>rfl) (wAN h154)
      obtain ⟨b156,off157,hA158,hC159⟩:=q
      refine oR Z (zt Z Z hA158 Z zR ZF (wBL h154)) (oR Z (ZE Z Z zz Z zF) (oL Z (hS141.ldC (f:=0) hC159 (v:=jV x153.Bib) Z Z zL Z) (oR Z (ZV Z Z Z) (oM Z Z (ifc hm155 ?_ ?_)))))
      ·intro c160 hm161
       refine oT Z c160 (oT Z c160 (oT Z c160 (oT Z c160 (oT Z c160 (oT Z c160 (oT Z c160 (oT Z c160 (oT Z c160 (oT Z c160 (oT Z c160 (oR Z (zS Z (ZD c160.out) Z) (eN (zn Z (sR fL1 Z (oA Z Z (eN (zO (zh (zH ?_)))))))))))))))))))
       have q:=wBE hm161
       obtain ⟨v162,hm163,e164⟩:=q
       obtain rfl:=wCD hx111 hX124 (hb131 v162 e164)
       refine zH (zh (zh (zH ?_)))
       have q:=wBE hm163
       obtain ⟨v165,hm166,e167⟩:=q
       obtain rfl:=wCD hm100 hX105 (hb112 v165 e167)
       refine zH (zh (zH ?_))
       cases hm166
       exact ⟨Z,_,(zm Z),U134,_,hS141,Z,Z⟩
      ·intro c160 hm168
       refine zK Z Z Z (wF Z c160) Z f137 (zK Z Z Z (wF Z c160) Z f138 ?_)
       have q:=h148.el (fun _=>rfl) (wAN h144)
       obtain ⟨b169,off170,hA171,hC172⟩:=q
       refine rU Z (wF Z c160) (zt Z Z hA171 Z zR ZF (wBL h144)) (rU Z (wF Z c160) (ZE Z Z zz Z zF) (ZG Z Z Z (wF Z c160) (hS141.ldC (f:=2) hC172 (v:=jV x143.Rank) Z Z zL Z) Z (zK Z Z Z (wF Z c160) Z f137 (zK Z Z Z (wF Z c160) Z fi133 ?_))))
       have q:=h148.el (fun _=>rfl) (wAN h154)
       obtain ⟨b173,off174,hA175,hC176⟩:=q
       refine rU Z (wF Z c160) (zt Z Z hA175 Z zR ZF (wBL h154)) (rU Z (wF Z c160) (ZE Z Z zz Z zF) (ZG Z Z Z (wF Z c160) (hS141.ldC (f:=2) hC176 (v:=jV x153.Rank) Z Z zL Z) Z (rU Z (wF Z c160) (ZV Z Z Z) (oR Z (zX Z (zi c160.out) Z) (eN (ifc hm168 ?_ ?_))))))
       ·intro c177 hm178
        refine cT Z c177 (sR fL1 Z (oA Z Z (eN (zO (zh (zH ?_))))))
        have q:=wBE hm178
        obtain ⟨v179,hm180,e181⟩:=q
        obtain rfl:=wCD hx111 hX124 (hb131 v179 e181)
        refine zH (zh (zh (zH ?_)))
        have q:=wBE hm180
        obtain ⟨v182,hm183,e184⟩:=q
        obtain rfl:=wCD hm100 hX105 (hb112 v182 e184)
        refine zH (zh (zH ?_))
        cases hm183
        exact ⟨Z,_,(zm Z),U134,_,hS141,Z,Z⟩
       ·intro c177 hm185
        refine cF Z c177 (zy (zd (zD (rR fL3 Z (oM Z fi133 (oR Z (zl (zg Z Z Z) (congrArg (jV) hi140.out)) (oA Z Z (zj ?_))))))))
        obtain rfl:=nD hm185
        exact zD ⟨Z,_,Z,⟨U134,Z,f137,f138,le135,hS141⟩⟩
     ·rintro ⟨⟩ σ186 W187 ⟨U190,fi189,f193,f194,le191,hS192⟩ hb188
      have hm195:=wCk hx111 hX124 hb188
      try dsimp only at hm195
      have c196:Hid (¬ ((↑(((↑k103:Int):Int) - 0).toNat:Int) < (↑k103:Int))):=zC (wAv)
      refine zB (sR fL3 Z (oM Z fi189 (oM Z f194 (oR Z (zP Z Z Z) (eN (cF Z c196 (zx (ze (ze (zq (zd (zD (rR fL3 Z (oM Z f194 (oR Z (zl (zg Z Z Z) (congrArg (jV) hi120.out)) (oA Z Z (zj ?_)))))))))))))))))
      obtain rfl:=nD hm195
      exact zD ⟨Z,_,Z,⟨U190,Z,f193,(le116.trans le191),hS192⟩⟩
    ·rintro ⟨⟩ σ197 W198 ⟨U201,fi200,f204,le202,hS203⟩ hb199
     have hm205:=wCk hm100 hX105 hb199
     try dsimp only at hm205
     have c206:Hid (¬ ((↑(((↑p0.length:Int):Int) - 0).toNat:Int) < (↑p0.length:Int))):=zC (wAv)
     refine zB (sR fL4 Z (oM Z fi200 (oM Z f204 (oR Z (zQ Z Z zR) (oR Z (zP Z Z Z) (eN (cF Z c206 (zx (ze (ze (zq (zD (sR fL1 Z (oA Z Z (eN (zO ?_))))))))))))))))
     cases hm205
     exact ⟨Z,_,(zm Z),U201,_,hS203,Z,Z⟩
theorem wCh (p0:List Int) (pA0:Option Addr) (pc0:Nat) (w:World) (U:PHeap) (hS:St0 w U []) (ha0:Sl U 1 pA0 pc0 p0.length (nA KL.encI p0)) {r:Bool} (hm:wAl p0=some r):Gv Tryz.prog 78 [.slice pA0 p0.length pc0] w (wCd w [] U (fun U_ L_ v=>v=.bool r/\L_=[])):=by
 unfold wAl at hm
 refine Gv.of Tryz.func78 Z Tryz.ntmps78 Tryz.results78 Z (sR fL1 Z (oA Z Z (eN (zB (sR fL1 Z (oA Z Z (eN (zU ?_))))))))
 have q:=wBy hm
 obtain ⟨r3,hX4⟩:=q
 have q:=wBx hX4
 obtain ⟨hle5,hf6⟩:=q
 replace hle5:=zC hle5
 refine ZU (fun k2 _ σ_ w_=>∃ (U_:PHeap),σ_ 3=jV (↑k2:Int)/\σ_ 0=.slice pA0 p0.length pc0/\PHeap.Le U U_/\sW w U U_ [] w_) hf6 ?_ ?_ ?_
 ·exact ⟨U,Z,Z,(zJ _),hS⟩
 ·rintro k2 ⟨⟩ xx9 σ7 W8 hk12 ⟨U14,fi13,f17,le15,hS16⟩ hx10 hb11
  try dsimp only at hx10
  have c18:Hid ((↑k2:Int) < (↑p0.length:Int)):=zC (wBU hk12)
  replace hk12:=zC hk12
  have hi19:Hid (w64 ((↑k2:Int) + 1)=(↑(k2 + 1):Int)):=zC (by have h1:=hle5.out;have h2:=c18.out;rw [wAS] <;> omega)
  refine zB (sR fL4 Z (oM Z fi13 (oM Z f17 (oR Z (zQ Z Z zA) (oR Z (zP Z Z Z) (eN (cT Z c18 (kN (zB (zU (sR fL1 Z (oA Z Z (eN (zU ?_))))))))))))))
  have q:=wBy hx10
  obtain ⟨r22,hX23⟩:=q
  have q:=wBx hX23
  obtain ⟨hle24,hf25⟩:=q
  replace hle24:=zC hle24
  refine ZU (fun k21 _ σ_ w_=>∃ (U_:PHeap),σ_ 4=jV (↑k21:Int)/\σ_ 0=.slice pA0 p0.length pc0/\σ_ 3=jV (↑k2:Int)/\PHeap.Le U14 U_/\sW w U U_ [] w_) hf25 ?_ ?_ ?_
  ·exact ⟨U14,Z,f17,fi13,(zJ _),hS16⟩
  ·rintro k21 ⟨⟩ xx28 σ26 W27 hk31 ⟨U33,fi32,f36,f37,le34,hS35⟩ hx29 hb30
   try dsimp only at hx29
   have c38:Hid ((↑k21:Int) < (↑k2:Int)):=zC (wBU hk31)
   replace hk31:=zC hk31
   have hi39:Hid (w64 ((↑k21:Int) + 1)=(↑(k21 + 1):Int)):=zC (by have h1:=hle24.out;have h2:=c38.out;rw [wAS] <;> omega)
   refine zB (sR fL3 rfl (zK rfl rfl rfl rfl rfl fi32 (zK rfl rfl rfl rfl rfl f37 (zZ rfl rfl rfl rfl (fun _=>zP rfl rfl rfl) (eN (cT Z c38 (kN (zB (zU (zB (Zd Za [3,3,3,1,3,3,3,1,3] fL9 (by kernel_rfl) ?_)))))))))))
   have hS40:=hS35.drew
   generalize hw_W41:({ W27 with drawn:=W27.drawn + 1 }:World)=W41 at hS40 ⊢
   refine oM Z f36 (oM Z f37 (bnK hx29 fun x42 h43 hm44=>?_))
   have h45:=ha0.le le15
   have h46:=h45.le le34
   have q:=h46.el (fun _=>rfl) (wAN h43)
   obtain ⟨b47,off48,hA49,hC50⟩:=q
   refine oR Z (zt Z Z hA49 Z zA zF (wBL h43)) (oL Z (hS40.ldC (f:=0) hC50 (v:=jV x42) Z Z zL Z) (oM Z f36 (oM Z fi32 (bnK hm44 fun x51 h52 hm53=>?_))))
   have q:=h46.el (fun _=>rfl) (wAN h52)
   obtain ⟨b54,off55,hA56,hC57⟩:=q
   refine oR Z (zt Z Z hA56 Z zA zF (wBL h52)) (oL Z (hS40.ldC (f:=0) hC57 (v:=jV x51) Z Z zL Z) (oR Z (ZV Z Z Z) (eN (ifc hm53 ?_ ?_))))
   ·intro c58 hm59
    refine cT Z c58 (sR fL1 Z (oA Z Z (eN (zO (zh (zH ?_))))))
    have q:=wBE hm59
    obtain ⟨v60,hm61,e62⟩:=q
    obtain rfl:=wCD hx10 hX23 (hb30 v60 e62)
    refine zH (zh (zh (zH ?_)))
    have q:=wBE hm61
    obtain ⟨v63,hm64,e65⟩:=q
    obtain rfl:=wCD hm hX4 (hb11 v63 e65)
    refine zH (zh (zH ?_))
    have hE:=nD hm64;first | subst r | cases hE
    exact ⟨Z,_,(zm Z),U33,_,hS40,Z,Z⟩
   ·intro c58 hm66
    refine cF Z c58 (zy (zd (zD (rR fL3 Z (oM Z fi32 (oR Z (zl (zg Z Z Z) (congrArg (jV) hi39.out)) (oA Z Z (zj ?_))))))))
    obtain rfl:=nD hm66
    exact zD ⟨Z,_,Z,⟨U33,Z,f36,f37,le34,hS40⟩⟩
  ·rintro ⟨⟩ σ67 W68 ⟨U71,fi70,f74,f75,le72,hS73⟩ hb69
   have hm76:=wCk hx10 hX23 hb69
   try dsimp only at hm76
   have c77:Hid (¬ ((↑(((↑k2:Int):Int) - 0).toNat:Int) < (↑k2:Int))):=zC (wAv)
   refine zB (sR fL3 Z (oM Z fi70 (oM Z f75 (oR Z (zP Z Z Z) (eN (cF Z c77 (zx (ze (ze (zq (zd (zD (rR fL3 Z (oM Z f75 (oR Z (zl (zg Z Z Z) (congrArg (jV) hi19.out)) (oA Z Z (zj ?_)))))))))))))))))
   obtain rfl:=nD hm76
   exact zD ⟨Z,_,Z,⟨U71,Z,f74,(le15.trans le72),hS73⟩⟩
 ·rintro ⟨⟩ σ78 W79 ⟨U82,fi81,f85,le83,hS84⟩ hb80
  have hm86:=wCk hm hX4 hb80
  try dsimp only at hm86
  have c87:Hid (¬ ((↑(((↑p0.length:Int):Int) - 0).toNat:Int) < (↑p0.length:Int))):=zC (wAv)
  refine zB (sR fL4 Z (oM Z fi81 (oM Z f85 (oR Z (zQ Z Z zA) (oR Z (zP Z Z Z) (eN (cF Z c87 (zx (ze (ze (zq (zD (sR fL1 Z (oA Z Z (eN (zO ?_))))))))))))))))
  have hE:=nD hm86;first | subst r | cases hE
  exact ⟨Z,_,(zm Z),U82,_,hS84,Z,Z⟩
theorem wCm (p0:List wAD) (pA0:Option Addr) (pc0:Nat) (p1:List Int) (pA1:Option Addr) (pc1:Nat) (w:World) (U:PHeap) (hS:St0 w U []) (ha0:Sl U 3 pA0 pc0 p0.length (nA wAH p0)) (ha1:Sl U 1 pA1 pc1 p1.length (nA KL.encI p1)) {r:Int} (hm:wAp p0 p1=some r):Gv Tryz.prog 111 [.slice pA0 p0.length pc0,.slice pA1 p1.length pc1] w (wCd w [] U (fun U_ L_ v=>v=jV r/\L_=[])):=by
 unfold wAp at hm
 refine Gv.of Tryz.func111 Z Tryz.ntmps111 Tryz.results111 Z (sR fL1 Z (oA Z Z (eN (zB (sR (.fl 0 (.fx 1 (.fl 2 (.nil)) .stop)) Z (oM Z Z (bnK hm fun x1 h2 hm3=>zM 0 Z Z Z Z (zN Z Z Tryz.call42 (zE Z zW) Z) hS (fun hs=>wBz p0 pA0 pc0 w U hs ha0 h2) (.inr Z) ?_)))))))
 rintro U4 L5 v6 W7 le8 hS9 ⟨rfl,rfl⟩
 have hS10:sW w U U4 [] W7:=hS9
 refine oA Z Z (eN (sR fL2 Z (oM Z Z (oR Z (zw Z Z Z) (eN (ifc hm3 ?_ ?_))))))
 ·intro c11 hm12
  refine zk (zi (fun h=>h c11.out)) (kN (zB (sR fL5 Z (oM Z Z (oR Z (zQ Z Z zA) (oM Z Z (oR Z (zQ Z Z zR) (oR Z (zw Z Z Z) (eN (ifc hm12 ?_ ?_))))))))))
  ·intro c13 hm14
   refine zk (zi (fun h=>h c13.out)) (kN (zB (sR fL1 Z (oA Z Z (eN (zU ?_))))))
   have q:=wBy hm14
   obtain ⟨r17,hX18⟩:=q
   have q:=wBx hX18
   obtain ⟨hle19,hf20⟩:=q
   replace hle19:=zC hle19
   refine ZU (fun k16 _ σ_ w_=>∃ (U_:PHeap),σ_ 6=jV (↑k16:Int)/\σ_ 0=.slice pA0 p0.length pc0/\σ_ 1=.slice pA1 p1.length pc1/\PHeap.Le U4 U_/\sW w U U_ [] w_) hf20 ?_ ?_ ?_
   ·exact ⟨U4,Z,Z,Z,(zJ _),hS10⟩
   ·rintro k16 ⟨⟩ xx23 σ21 W22 hk26 ⟨U28,fi27,f31,f32,le29,hS30⟩ hx24 hb25
    try dsimp only at hx24
    have c33:Hid ((↑k16:Int) < (↑p1.length:Int)):=zC (wBU hk26)
    replace hk26:=zC hk26
    have hi34:Hid (w64 ((↑k16:Int) + 1)=(↑(k16 + 1):Int)):=zC (by have h1:=hle19.out;have h2:=c33.out;rw [wAS] <;> omega)
    refine zB (sR fL4 Z (oM Z fi27 (oM Z f32 (oR Z (zQ Z Z zA) (oR Z (zP Z Z Z) (eN (cT Z c33 (kN (zB (zU (sR (wQD (.fx 7 (.nil) .stop)) Z (oM Z f32 (oM Z fi27 (bnK hx24 fun x35 h36 hm37=>?_))))))))))))))
    have h38:=ha1.le le8
    have h39:=h38.le le29
    have q:=h39.el (fun _=>rfl) (wAN h36)
    obtain ⟨b40,off41,hA42,hC43⟩:=q
    refine oR Z (zt Z Z hA42 Z zA zF (wBL h36)) (oL Z (hS30.ldC (f:=0) hC43 (v:=jV x35) Z Z zL Z) (oM Z f31 (oR Z (zQ Z Z zR) (oR Z (ZB Z Z Z) (bnK hm37 fun x44 h45 hm46=>zM 0 Z Z Z Z (zN Z Z Tryz.call77 (zE Z (zE Z (zE Z zW))) Z) hS30 (fun hs=>wBb x35 0 (w64 ((↑p0.length:Int) - 1)) W22 U28 hs h45) (.inr Z) ?_)))))
    rintro U47 L48 v49 W50 le51 hS52 ⟨rfl,rfl⟩
    have hS53:sW w U U47 [] W50:=hS52
    refine eN (ifc hm46 ?_ ?_)
    ·intro c54 hm55
     refine zn (congrArg nB c54.out) (sR fL1 Z (oA Z Z (eN (zO (zh (zH ?_))))))
     have q:=wBE hm55
     obtain ⟨v56,hm57,e58⟩:=q
     obtain rfl:=wCD hm14 hX18 (hb25 v56 e58)
     refine zH (zh (zH ?_))
     cases hm57
     exact ⟨Z,_,(zm Z),U47,_,hS53,Z,Z⟩
    ·intro c54 hm59
     refine zk (congrArg nB (nE.2 c54.out)) (zy (zd (zD (rR fL3 Z (oM Z fi27 (oR Z (zl (zg Z Z Z) (congrArg (jV) hi34.out)) (oA Z Z (zj ?_))))))))
     obtain rfl:=nD hm59
     exact zD ⟨Z,_,Z,⟨U47,Z,f31,f32,(le29.trans le51),hS53⟩⟩
   ·rintro ⟨⟩ σ60 W61 ⟨U64,fi63,f67,f68,le65,hS66⟩ hb62
    have hm69:=wCk hm14 hX18 hb62
    try dsimp only at hm69
    have c70:Hid (¬ ((↑(((↑p1.length:Int):Int) - 0).toNat:Int) < (↑p1.length:Int))):=zC (wAv)
    refine zB (sR fL4 Z (oM Z fi63 (oM Z f68 (oR Z (zQ Z Z zA) (oR Z (zP Z Z Z) (eN (cF Z c70 (zx (ze (ze (zq (zD (zB (sR (.fl 0 (.fx 1 (.nil) .stop)) Z (oM Z f68 ?_)))))))))))))))
    have h71:=ha1.le le8
    have h72:=h71.le le65
    refine bnK hm69 fun x73 h74 hm75=>zM 0 Z Z Z Z (zN Z Z Tryz.call78 (zE Z zW) Z) hS66 (fun hs=>wCh p1 pA1 pc1 W61 U64 hs h72 h74) (.inr Z) ?_
    rintro U76 L77 v78 W79 le80 hS81 ⟨rfl,rfl⟩
    have hS82:sW w U U76 [] W79:=hS81
    refine eN (ifc hm75 ?_ ?_)
    ·intro c83 hm84
     refine zn (congrArg nB c83.out) (sR fL1 Z (oA Z Z (eN (zO (zH ?_)))))
     cases hm84
     exact ⟨Z,_,(zm Z),U76,_,hS82,Z,Z⟩
    ·intro c83 hm85
     refine zk (congrArg nB (nE.2 c83.out)) (kN (sR fL1 Z (oA Z Z (eN (zO ?_)))))
     cases hm85
     exact ⟨Z,_,(zm Z),U76,_,hS82,Z,Z⟩
  ·intro c13 hm86
   refine cT Z c13 (sR fL1 Z (oA Z Z (eN (zO (zH ?_)))))
   cases hm86
   exact ⟨Z,_,(zm Z),U4,_,hS10,Z,Z⟩
 ·intro c11 hm87
  refine cT Z c11 (sR fL2 Z (oM Z Z (oA Z Z (eN (zO (zH ?_))))))
  have hE:=nD hm87;first | subst r | cases hE
  exact ⟨Z,_,(zm Z),U4,_,hS10,Z,Z⟩
end Go.Proofs.YtghaibkggdecnaaGreat
namespace Go.Proofs.YtghaibkggdecnaaGreat
open Go.KL
set_option maxHeartbeats 4000000
theorem wCA (p0:List wAD) (pA0:Option Addr) (pc0:Nat) (p1:List Int) (pA1:Option Addr) (pc1:Nat) (w:World) (U:PHeap) (hS:St0 w U []) (ha0:Sl U 3 pA0 pc0 p0.length (nA wAH p0)) (ha1:Sl U 1 pA1 pc1 p1.length (nA KL.encI p1)) {r:Int × Int} (hm:wAQ p0 p1=some r):Gv Tryz.prog 60 [.slice pA0 p0.length pc0,.slice pA1 p1.length pc1] w (wCd w [] U (fun U_ L_ v=>v=.tuple #[jV r.1,jV r.2]/\L_=[])):=by
 unfold wAQ at hm
 refine Gv.of Tryz.func60 Z Tryz.ntmps60 Tryz.results60 Z (sR fL2 Z (oA Z Z (oA Z Z (eN (zB (sR (.fl 0 (.fl 1 (.fx 2 (.fl 3 (.nil)) .stop))) Z (oM Z Z (oM Z Z (bnK hm fun x1 h2 hm3=>zM 0 Z Z Z Z (zN Z Z Tryz.call111 (zE Z (zE Z zW)) Z) hS (fun hs=>wCm p0 pA0 pc0 p1 pA1 pc1 w U hs ha0 ha1 h2) (.inr Z) ?_)))))))))
 rintro U4 L5 v6 W7 le8 hS9 ⟨rfl,rfl⟩
 have hS10:sW w U U4 [] W7:=hS9
 refine oA Z Z (eN (sR fL2 Z (oM Z Z (oR Z (zw Z Z Z) (eN (ifc hm3 ?_ ?_))))))
 ·intro c11 hm12
  refine zk (zi (fun h=>h c11.out)) (kN (sR fL3 Z (oM Z Z (oR Z (zQ Z Z zR) (oA Z Z (eN (zB (sR fL1 Z (oA Z Z (eN (zU (bnK hm12 fun y24 hf21 hm20=>?_))))))))))))
  have q:=wBH hf21
  obtain ⟨hle22,hf23⟩:=q
  replace hle22:=zC hle22
  refine CK.forN' (fun k19 x18 σ_ w_=>∃ (U_:PHeap),σ_ 8=jV (↑k19:Int)/\σ_ 0=.slice pA0 p0.length pc0/\σ_ 1=.slice pA1 p1.length pc1/\σ_ 7=jV x18/\PHeap.Le U4 U_/\sW w U U_ [] w_) hf23 ?_ ?_ ?_
  ·exact ⟨U4,Z,Z,Z,Z,(zJ _),hS10⟩
  ·rintro k19 x18 xx27 σ25 W26 hk30 ⟨U32,fi31,f35,f36,f37,le33,hS34⟩ hx28
   have c38:Hid ((↑k19:Int) < (↑p1.length:Int)):=zC (wBU hk30)
   replace hk30:=zC hk30
   have hi39:Hid (w64 ((↑k19:Int) + 1)=(↑(k19 + 1):Int)):=zC (by have h1:=hle22.out;have h2:=c38.out;rw [wAS] <;> omega)
   refine zB (sR fL4 Z (oM Z fi31 (oM Z f36 (oR Z (zQ Z Z zA) (oR Z (zP Z Z Z) (eN (cT Z c38 (kN (zB (zU (sR fL1 Z (oA Z Z (eN (zU (bnK hx28 fun y51 hf48 hm47=>?_)))))))))))))))
   have q:=wBH hf48
   obtain ⟨hle49,hf50⟩:=q
   replace hle49:=zC hle49
   refine CK.forN' (fun k46 x45 σ_ w_=>∃ (U_:PHeap),σ_ 9=jV (↑k46:Int)/\σ_ 0=.slice pA0 p0.length pc0/\σ_ 1=.slice pA1 p1.length pc1/\σ_ 7=jV x45/\σ_ 8=jV (↑k19:Int)/\PHeap.Le U32 U_/\sW w U U_ [] w_) hf50 ?_ ?_ ?_
   ·exact ⟨U32,Z,f35,f36,f37,fi31,(zJ _),hS34⟩
   ·rintro k46 x45 xx54 σ52 W53 hk57 ⟨U59,fi58,f62,f63,f64,f65,le60,hS61⟩ hx55
    have c66:Hid ((↑k46:Int) < (↑k19:Int)):=zC (wBU hk57)
    replace hk57:=zC hk57
    have hi67:Hid (w64 ((↑k46:Int) + 1)=(↑(k46 + 1):Int)):=zC (by have h1:=hle49.out;have h2:=c66.out;rw [wAS] <;> omega)
    refine zB (sR fL3 rfl (zK rfl rfl rfl rfl rfl fi58 (zK rfl rfl rfl rfl rfl f65 (zZ rfl rfl rfl rfl (fun _=>zP rfl rfl rfl) (eN (cT Z c66 (kN (zB (zU (zB (Zd Za [3,3,3,3,1,3,3,1,3,3,3,3,1,3,3,1,3,3,3,3,3,3,3,3] fL24 (by kernel_rfl) ?_)))))))))))
    have hS68:=hS61.drew
    generalize hw_W69:({ W53 with drawn:=W53.drawn + 1 }:World)=W69 at hS68 ⊢
    refine oM Z f62 (oM Z f63 (oM Z f65 (bnK hx55 fun x70 h71 hm72=>?_)))
    have h73:=ha1.le le8
    have h74:=h73.le le33
    have h75:=h74.le le60
    have q:=h75.el (fun _=>rfl) (wAN h71)
    obtain ⟨b76,off77,hA78,hC79⟩:=q
    refine oR Z (zt Z Z hA78 Z zA zF (wBL h71)) (oL Z (hS68.ldC (f:=0) hC79 (v:=jV x70) Z Z zL Z) (bnK hm72 fun x80 h81 hm82=>?_))
    have h83:=ha0.le le8
    have h84:=h83.le le33
    have h85:=h84.le le60
    have q:=h85.el (fun _=>rfl) (wAN h81)
    obtain ⟨b86,off87,hA88,hC89⟩:=q
    refine oR Z (ZO Z Z hA88 Z zR ZF (wCL h81) (wCU h81)) (oR Z (ZE Z Z zz Z zF) (oL Z (hS68.ldC (f:=1) hC89 (v:=jV x80.Nation) Z Z zL Z) (oM Z f62 (oM Z f63 (oM Z fi58 (bnK hm82 fun x90 h91 hm92=>?_))))))
    have q:=h75.el (fun _=>rfl) (wAN h91)
    obtain ⟨b93,off94,hA95,hC96⟩:=q
    refine oR Z (zt Z Z hA95 Z zA zF (wBL h91)) (oL Z (hS68.ldC (f:=0) hC96 (v:=jV x90) Z Z zL Z) (bnK hm92 fun x97 h98 hm99=>?_))
    have q:=h85.el (fun _=>rfl) (wAN h98)
    obtain ⟨b100,off101,hA102,hC103⟩:=q
    refine oR Z (ZO Z Z hA102 Z zR ZF (wCL h98) (wCU h98)) (oR Z (ZE Z Z zz Z zF) (oL Z (hS68.ldC (f:=1) hC103 (v:=jV x97.Nation) Z Z zL Z) (oR Z (ZV Z Z Z) (oM Z Z (ifc hm99 ?_ ?_)))))
    ·intro c104 hm105
     refine zK Z Z Z (wT Z c104) Z f65 (zK Z Z Z (wT Z c104) Z fi58 (rU Z (wT Z c104) (ZB Z Z Z) (zK Z Z Z (wT Z c104) Z f64 (rU Z (wT Z c104) (zP Z Z Z) (oR Z (zS Z (ZD c104.out) Z) (eN (ifc hm105 ?_ ?_)))))))
     ·intro c106 hm107
      refine cT Z c106 (rR fL4 Z (oM Z f65 (oM Z fi58 (oR Z (ZB Z Z Z) (oA Z Z (zj (zd (zD (rR fL3 Z (oM Z fi58 (oR Z (zl (zg Z Z Z) (congrArg (jV) hi67.out)) (oA Z Z (zj ?_)))))))))))))
      cases hm107
      exact zD ⟨Z,⟨U59,Z,f62,f63,Z,f65,le60,hS68⟩⟩
     ·intro c106 hm109
      refine cF Z c106 (zy (zd (zD (rR fL3 Z (oM Z fi58 (oR Z (zl (zg Z Z Z) (congrArg (jV) hi67.out)) (oA Z Z (zj ?_))))))))
      cases hm109
      exact zD ⟨Z,⟨U59,Z,f62,f63,f64,f65,le60,hS68⟩⟩
    ·intro c104 hm111
     refine oF Z c104 (oF Z c104 (oF Z c104 (oF Z c104 (oF Z c104 (oR Z (zX Z (zi c104.out) Z) (eN (zk Z (zy (zd (zD (rR fL3 Z (oM Z fi58 (oR Z (zl (zg Z Z Z) (congrArg (jV) hi67.out)) (oA Z Z (zj ?_)))))))))))))))
     cases hm111
     exact zD ⟨Z,⟨U59,Z,f62,f63,f64,f65,le60,hS68⟩⟩
   ·rintro σ113 W114 ⟨U118,fi116,f121,f122,f123,f124,le119,hS120⟩
    have c125:Hid (¬ ((↑(((↑k19:Int):Int) - 0).toNat:Int) < (↑k19:Int))):=zC (wAv)
    refine zB (sR fL3 Z (oM Z fi116 (oM Z f124 (oR Z (zP Z Z Z) (eN (cF Z c125 (zx (ze (ze (zq (zd (zD (rR fL3 Z (oM Z f124 (oR Z (zl (zg Z Z Z) (congrArg (jV) hi39.out)) (oA Z Z (zj ?_)))))))))))))))))
    cases hm47
    exact zD ⟨Z,⟨U118,Z,f121,f122,f123,(le33.trans le119),hS120⟩⟩
  ·rintro σ127 W128 ⟨U132,fi130,f135,f136,f137,le133,hS134⟩
   have c138:Hid (¬ ((↑(((↑p1.length:Int):Int) - 0).toNat:Int) < (↑p1.length:Int))):=zC (wAv)
   refine zB (sR fL4 Z (oM Z fi130 (oM Z f136 (oR Z (zQ Z Z zA) (oR Z (zP Z Z Z) (eN (cF Z c138 (zx (ze (ze (zq (zD (sR fL3 Z (oM Z f137 (oA Z Z (oA Z Z (eN (zO ?_))))))))))))))))))
   cases hm20
   exact ⟨Z,_,(wEf Z Z),U132,_,hS134,Z,Z⟩
 ·intro c11 hm139
  refine cT Z c11 (sR fL3 Z (oM Z Z (oA Z Z (oA Z Z (eN (zO (zH ?_)))))))
  cases hm139
  exact ⟨Z,_,(wEf Z Z),U4,_,hS10,Z,Z⟩
theorem wCx (p0:List wAA) (pA0:Option Addr) (pc0:Nat) (w:World) (U:PHeap) (hS:St0 w U []) (ha0:Sl U 3 pA0 pc0 p0.length (nA wAE p0)) {r:(Arr Int 31)} (hm:wAx p0=some r):Gv Tryz.prog 90 [.slice pA0 p0.length pc0] w (wCd w [] U (fun U_ L_ v=>v=.agg (nA KL.encI r.l).toArray/\L_=[])):=by
 unfold wAx at hm
 refine Gv.of Tryz.func90 Z Tryz.ntmps90 Tryz.results90 Z (sR (.fx 0 (.nil) .stop) Z (ZI (cs:=nA KL.encI (Arr.fill 31 0).l) Z Z Z Z Z Tryz.zeroValue141 Z hS ?_))
 intro W1 b2 hS3
 have hS5:sW w U U [.blk b2 141 (nA KL.encI (Arr.fill 31 0).l)] W1:=hS3
 refine eN (sR (.fx 0 (.nil) .stop) Z (ZI (cs:=nA KL.encI (Arr.fill 31 0).l) Z Z Z Z Z Tryz.zeroValue141 Z hS5 ?_))
 intro W6 b7 hS8
 have hS10:sW w U U [.blk b7 141 (nA KL.encI (Arr.fill 31 0).l),.blk b2 141 (nA KL.encI (Arr.fill 31 0).l)] W6:=hS8
 refine eN (zB (sR fL3 Z (oM Z Z (oR Z (zQ Z Z zV) (oM Z Z (eN (zU (bnK hm fun y22 hf19 hm18=>?_))))))))
 have q:=wBH hf19
 obtain ⟨hle20,hf21⟩:=q
 replace hle20:=zC hle20
 refine CK.forN' (fun k17 a16 σ_ w_=>∃ (U_:PHeap),σ_ 8=jV (↑k17:Int)/\σ_ 2=.pointer (some ⟨b2,0,none⟩)/\σ_ 3=.pointer (some ⟨b7,0,none⟩)/\σ_ 6=.slice pA0 p0.length pc0/\σ_ 7=jV (↑p0.length:Int)/\PHeap.Le U U_/\sW w U U_ [.blk b7 141 (nA KL.encI a16.l),.blk b2 141 (nA KL.encI (Arr.fill 31 0).l)] w_) hf21 ?_ ?_ ?_
 ·exact ⟨U,Z,Z,Z,Z,Z,(zJ _),hS10⟩
 ·rintro k17 a16 xx25 σ23 W24 hk28 ⟨U30,fi29,f33,f34,f35,f36,le31,hS32⟩ hx26
  have c37:Hid ((↑k17:Int) < (↑p0.length:Int)):=zC (wBU hk28)
  replace hk28:=zC hk28
  have hi38:Hid (w64 ((↑k17:Int) + 1)=(↑(k17 + 1):Int)):=zC (by have h1:=hle20.out;have h2:=c37.out;rw [wAS] <;> omega)
  refine sR fL1 Z (oR Z (zP Z fi29 f36) (eN (zB (cT Z c37 (kN (zB (zU (sR (.fl 0 (.fl 1 (.fx 2 (.fx 3 (.nil) .stop) .stop))) Z (bnK hx26 fun x39 h40 hm41=>?_)))))))))
  have h42:=ha0.le le31
  have q:=h42.el (fun _=>rfl) (wAN h40)
  obtain ⟨b43,off44,hA45,hC46⟩:=q
  refine oR Z (zt Z f35 hA45 fi29 zV zr (wBL h40)) (oL Z (hS32.ldCA (f:=0) hC46 Z Z Tryz.isAgg62 zr (us:=[jV x39.Bib,jV x39.Nation,jV x39.Rank]) Z Z) (ZI (cs:=[jV 0,jV 0,jV 0]) Z Z Z Z Z Tryz.zeroValue62 Z hS32 ?_))
  intro W47 b48 hS49
  let B0:List Value:=[jV x39.Bib,jV x39.Nation,jV x39.Rank]
  refine ZH (j:=0) (vs:=B0) Z Z Z Z hS49 Z Z Z Z zr (zY Z) Z Z Z ?_
  intro W51 hS52
  have hS53:sW w U U30 [.blk b48 62 B0,.blk b7 141 (nA KL.encI a16.l),.blk b2 141 (nA KL.encI (Arr.fill 31 0).l)] W51:=hS52
  refine eN (rR (wRV (.fx 6 (.nil) .stop)) Z (oR Z (ZE Z Z ZA Z zF) (oL Z (hS53.ldB (j:=0) Z Z Z zL (v:=jV x39.Nation) Z) (bnK hm41 fun _ h54 hm55=>oR Z (Zc Z f34 Z zo zF (wCr h54) (wCs h54)) ?_))))
  have hg56:=Arr.at_ a16 (k:=x39.Nation.toNat) (by have hz0:=wBv h54;omega)
  refine ZG rfl rfl rfl rfl (hS53.ldB (j:=1) rfl rfl rfl zL (wBG (sz:=1) (fun _=>rfl) _ _ 0 _ hg56 (by first | omega | rfl | simp) rfl)) rfl (zZ rfl rfl rfl rfl (fun _=>zg rfl rfl rfl) (zZ rfl rfl rfl rfl (fun _=>Zc rfl f34 rfl zo zF (wCr h54) (wCs h54)) ?_))
  have hg57:=Arr.at_ a16 (k:=x39.Nation.toNat) (by have hz0:=wBv h54;omega)
  refine ZH (j:=1) (vs:=[jV (w64 ((a16.get x39.Nation.toNat) + 1))]) (cs':=nA KL.encI (a16.set x39.Nation.toNat (w64 ((a16.get x39.Nation.toNat) + 1))).l) rfl rfl rfl rfl hS53 rfl rfl rfl rfl zF (by have hz0:=wBv h54;simp only [nI,nJ,nK,wAh (f:=KL.encI) (sz:=1) (N:=31) a16 (fun _=>rfl) rfl];omega) rfl (wHQ (sz:=1) (fo:=0) (fun _=>rfl) _ _ _ _ hg57 (by first | omega | rfl | simp) (zY rfl) rfl) rfl ?_
  intro W58 hS59
  have hS60:sW w U U30 [.blk b48 62 B0,.blk b7 141 (nA KL.encI (a16.set x39.Nation.toNat (w64 ((a16.get x39.Nation.toNat) + 1))).l),.blk b2 141 (nA KL.encI (Arr.fill 31 0).l)] W58:=hS59
  refine zj (zd (zD (rR fL2 Z (oR Z (zl (zg Z fi29 Z) (congrArg (jV) hi38.out)) (oM Z Z (zj ?_))))))
  cases hm55
  exact zD ⟨rfl,⟨U30,rfl,f33,f34,f35,f36,le31,(hS60.pick [1,2] _ (by decide) rfl)⟩⟩
 ·rintro σ62 W63 ⟨U67,fi65,f70,f71,f72,f73,le68,hS69⟩
  have c74:Hid (¬ ((↑(((↑p0.length:Int):Int) - 0).toNat:Int) < (↑p0.length:Int))):=zC (wAv)
  refine sR fL1 rfl (zZ rfl rfl rfl rfl (fun _=>zP rfl fi65 f73) (eN (zB (cF Z c74 (zx (ze (ze (zq (zD (sR (.fl 0 (.fx 1 (.nil) .stop)) rfl (ZG rfl rfl rfl rfl (hS69.ldBA (j:=0) rfl rfl f71 Tryz.isAgg141 ZR (vs:=nA KL.encI y22.l) (wKj y22 (fun _=>rfl) rfl) (wAh y22 (fun _=>rfl) rfl)) rfl (ZH (j:=1) (vs:=nA KL.encI y22.l) rfl rfl rfl rfl hS69 rfl f70 rfl rfl (fun w=>by rw [wAh (f:=KL.encI) (sz:=1) (N:=31) y22 (fun _=>rfl) rfl];exact ZR w) (by rw [wAh (f:=KL.encI) (sz:=1) (N:=31) y22 (fun _=>rfl) rfl,wAh (f:=KL.encI) (sz:=1) (N:=31) (Arr.fill 31 0) (fun _=>rfl) rfl];exact zY rfl) (wDk (fun _=>rfl) _) (wHR _ _ (by rw [wAh (f:=KL.encI) (sz:=1) (N:=31) y22 (fun _=>rfl) rfl,wAh (f:=KL.encI) (sz:=1) (N:=31) (Arr.fill 31 0) (fun _=>rfl) rfl])) rfl ?_))))))))))))
  intro W75 hS76
  have hS77:sW w U U67 [.blk b7 141 (nA KL.encI y22.l),.blk b2 141 (nA KL.encI y22.l)] W75:=hS76
  refine eN (zO ?_)
  have hE:=nD hm18;first | subst r | cases hE
  exact ⟨rfl,_,(wOu (v:=.agg (nA KL.encI y22.l).toArray) ⟨⟨_,f70,(wOW Tryz.isAgg141 ZR (hS77.blkAt (k:=1) rfl) (wKj y22 (fun _=>rfl) rfl) (wAh y22 (fun _=>rfl) rfl))⟩,trivial⟩),U67,_,(hS77.pick [] _ (by decide) rfl),rfl,rfl⟩
theorem wHi (p0:List wAA) (pA0:Option Addr) (pc0:Nat) (p1:List Int) (pA1:Option Addr) (pc1:Nat) (w:World) (U:PHeap) (hS:St0 w U []) (ha0:Sl U 3 pA0 pc0 p0.length (nA wAE p0)) (ha1:Sl U 1 pA1 pc1 p1.length (nA KL.encI p1)) {r:Int × Int} (hm:wAj p0 p1=some r):Gv Tryz.prog 54 [.slice pA0 p0.length pc0,.slice pA1 p1.length pc1] w (wCd w [] U (fun U_ L_ v=>v=.tuple #[jV r.1,jV r.2]/\L_=[])):=by
 unfold wAj at hm
 refine Gv.of Tryz.func54 Z Tryz.ntmps54 Tryz.results54 Z (sR fL2 Z (oA Z Z (oA Z Z (eN (sR (.fl 0 (.fx 1 (.fl 2 (.nil)) .stop)) Z (oM Z Z (bnK hm fun x1 h2 hm3=>zM 0 Z Z Z Z (zN Z Z Tryz.call41 (zE Z zW) Z) hS (fun hs=>wCo p0 pA0 pc0 w U hs ha0 h2) (.inr Z) ?_)))))))
 rintro U4 L5 v6 W7 le8 hS9 ⟨rfl,rfl⟩
 have hS10:sW w U U4 [] W7:=hS9
 refine oA Z Z (eN (zB (zU (sR fL3 Z (oM Z Z (oR Z (zw Z Z Z) (oA Z Z (eN (ifc hm3 ?_ ?_)))))))))
 ·intro c11 hm12
  refine zk (zi (fun h=>h c11.out)) (sR fL4 Z (oM Z Z (oR Z (zQ Z Z zA) (oR Z (ZV Z Z Z) (oA Z Z (eN (ifc hm12 ?_ ?_)))))))
  ·intro c13 hm14
   refine cT Z c13 (sR fL2 Z (oA Z Z (oA Z Z (eN (zO (zh (zH ?_)))))))
   cases hm14
   exact ⟨Z,_,(wEf Z Z),U4,_,hS10,Z,Z⟩
  ·intro c13 hm15
   refine cF Z c13 (zy (zd (zD (zB (sR fL1 Z (oA Z Z (eN (zU ?_))))))))
   have q:=wBy hm15
   obtain ⟨r18,hX19⟩:=q
   have q:=wBx hX19
   obtain ⟨hle20,hf21⟩:=q
   replace hle20:=zC hle20
   refine ZU (fun k17 _ σ_ w_=>∃ (U_:PHeap),σ_ 7=jV (1 + ↑k17:Int)/\σ_ 0=.slice pA0 p0.length pc0/\σ_ 1=.slice pA1 p1.length pc1/\PHeap.Le U4 U_/\sW w U U_ [] w_) hf21 ?_ ?_ ?_
   ·exact ⟨U4,Z,Z,Z,(zJ _),hS10⟩
   ·rintro k17 ⟨⟩ xx24 σ22 W23 hk27 ⟨U29,fi28,f32,f33,le30,hS31⟩ hx25 hb26
    try dsimp only at hx25
    have c34:Hid ((1 + ↑k17:Int) < (↑p1.length:Int)):=zC (wOt hk27)
    replace hk27:=zC hk27
    have hi35:Hid (w64 ((1 + ↑k17:Int) + 1)=(1 + ↑(k17 + 1):Int)):=zC (by have h1:=hle20.out;have h2:=c34.out;rw [wAS] <;> omega)
    refine zB (sR fL4 rfl (zK rfl rfl rfl rfl rfl fi28 (zK rfl rfl rfl rfl rfl f33 (zZ rfl rfl rfl rfl (fun _=>zQ rfl rfl zA) (zZ rfl rfl rfl rfl (fun _=>zP rfl rfl rfl) (eN (cT Z c34 (kN (zB (zU (zB (Zd Za [3,3,3,1,3,3,3,3,1,3] fL10 (by kernel_rfl) ?_))))))))))))
    have hS36:=hS31.drew
    generalize hw_W37:({ W23 with drawn:=W23.drawn + 1 }:World)=W37 at hS36 ⊢
    refine oM Z f33 (oM Z fi28 (bnK hx25 fun x38 h39 hm40=>?_))
    have h41:=ha1.le le8
    have h42:=h41.le le30
    have q:=h42.el (fun _=>rfl) (wAN h39)
    obtain ⟨b43,off44,hA45,hC46⟩:=q
    refine oR Z (ZO Z Z hA45 Z zA zF (wCL h39) (wCU h39)) (oL Z (hS36.ldC (f:=0) hC46 (v:=jV x38) Z Z zL Z) (oM Z f33 (oM Z fi28 (oR Z (ZB Z Z Z) (bnK hm40 fun x47 h48 hm49=>?_)))))
    have q:=h42.el (fun _=>rfl) (wAN h48)
    obtain ⟨b50,off51,hA52,hC53⟩:=q
    refine oR Z (ZO Z Z hA52 Z zA zF (wCL h48) (wCU h48)) (oL Z (hS36.ldC (f:=0) hC53 (v:=jV x47) Z Z zL Z) (oR Z (Runs.leq Z Z Z) (eN (ifc hm49 ?_ ?_))))
    ·intro c54 hm55
     refine cT Z c54 (sR fL2 Z (oA Z Z (oA Z Z (eN (zO (zh (zH ?_)))))))
     have q:=wBE hm55
     obtain ⟨v56,hm57,e58⟩:=q
     obtain rfl:=wCD hm15 hX19 (hb26 v56 e58)
     refine zH (zh (zH ?_))
     cases hm57
     exact ⟨Z,_,(wEf Z Z),U29,_,hS36,Z,Z⟩
    ·intro c54 hm59
     refine cF Z c54 (zy (zd (zD (rR fL3 Z (oM Z fi28 (oR Z (zl (zg Z Z Z) (congrArg (jV) hi35.out)) (oA Z Z (zj ?_))))))))
     obtain rfl:=nD hm59
     exact zD ⟨Z,_,Z,⟨U29,Z,f32,f33,le30,hS36⟩⟩
   ·rintro ⟨⟩ σ60 W61 ⟨U64,fi63,f67,f68,le65,hS66⟩ hb62
    have hm69:=wCk hm15 hX19 hb62
    try dsimp only at hm69
    have c70:Hid (¬ ((1 + ↑(((↑p1.length:Int):Int) - 1).toNat:Int) < (↑p1.length:Int))):=zC (wLU)
    refine zB (sR fL4 Z (oM Z fi63 (oM Z f68 (oR Z (zQ Z Z zA) (oR Z (zP Z Z Z) (eN (cF Z c70 (zx (ze (ze (zq (zD (sR (.fl 0 (.fx 1 (.fx 2 (.fx 3 (.fl 4 (.nil)) .stop) .stop) .stop)) Z (oM Z f67 ?_))))))))))))))
    have h71:=ha0.le le8
    have h72:=h71.le le65
    refine bnK hm69 fun x73 h74 hm75=>zM 0 Z Z Z Z (zN Z Z Tryz.call90 (zE Z zW) Z) hS66 (fun hs=>wCx p0 pA0 pc0 W61 U64 hs h72 h74) (.inr Z) ?_
    rintro U76 L77 v78 W79 le80 hS81 ⟨rfl,rfl⟩
    have hS82:sW w U U76 [] W79:=hS81
    refine ZI (cs:=nA KL.encI (Arr.fill 31 0).l) Z Z Z Z Z Tryz.zeroValue141 Z hS82 ?_
    intro W83 b84 hS85
    have hS87:sW w U U76 [.blk b84 141 (nA KL.encI (Arr.fill 31 0).l)] W83:=hS85
    refine ZH (j:=0) (vs:=nA KL.encI x73.l) rfl rfl rfl rfl hS87 rfl rfl rfl rfl (fun w=>by rw [wAh (f:=KL.encI) (sz:=1) (N:=31) x73 (fun _=>rfl) rfl];exact ZR w) (by rw [wAh (f:=KL.encI) (sz:=1) (N:=31) x73 (fun _=>rfl) rfl,wAh (f:=KL.encI) (sz:=1) (N:=31) (Arr.fill 31 0) (fun _=>rfl) rfl];exact zY rfl) (wDk (fun _=>rfl) _) (wHR _ _ (by rw [wAh (f:=KL.encI) (sz:=1) (N:=31) x73 (fun _=>rfl) rfl,wAh (f:=KL.encI) (sz:=1) (N:=31) (Arr.fill 31 0) (fun _=>rfl) rfl])) rfl ?_
    intro W88 hS89
    have hS90:sW w U U76 [.blk b84 141 (nA KL.encI x73.l)] W88:=hS89
    refine oA Z Z (eN (zB (sR fL3 Z (oM Z f68 (oR Z (zQ Z Z zA) (oM Z Z (eN (zU ?_))))))))
    have q:=wBy hm75
    obtain ⟨r98,hX99⟩:=q
    have q:=wBx hX99
    obtain ⟨hle100,hf101⟩:=q
    replace hle100:=zC hle100
    refine ZU (fun k97 x96 σ_ w_=>∃ (U_:PHeap),σ_ 42=jV (↑k97:Int)/\σ_ 0=.slice pA0 p0.length pc0/\σ_ 1=.slice pA1 p1.length pc1/\σ_ 8=.pointer (some ⟨b84,0,none⟩)/\σ_ 9=jV x96/\σ_ 40=.slice pA1 p1.length pc1/\σ_ 41=jV (↑p1.length:Int)/\PHeap.Le U76 U_/\sW w U U_ [.blk b84 141 (nA KL.encI x73.l)] w_) hf101 ?_ ?_ ?_
    ·exact ⟨U76,Z,f67,f68,Z,Z,Z,Z,(zJ _),hS90⟩
    ·rintro k97 x96 xx104 σ102 W103 hk107 ⟨U109,fi108,f112,f113,f114,f115,f116,f117,le110,hS111⟩ hx105 hb106
     have c118:Hid ((↑k97:Int) < (↑p1.length:Int)):=zC (wBU hk107)
     replace hk107:=zC hk107
     have hi119:Hid (w64 ((↑k97:Int) + 1)=(↑(k97 + 1):Int)):=zC (by have h1:=hle100.out;have h2:=c118.out;rw [wAS] <;> omega)
     refine sR fL1 Z (oR Z (zP Z fi108 f117) (eN (zB (cT Z c118 (kN (zB (zU (sR fL3 Z (bnK hx105 fun x120 h121 hm122=>?_)))))))))
     have h123:=ha1.le le8
     have h124:=h123.le le65
     have h125:=h124.le le80
     have h126:=h125.le le110
     have q:=h126.el (fun _=>rfl) (wAN h121)
     obtain ⟨b127,off128,hA129,hC130⟩:=q
     refine oR Z (zt Z f116 hA129 fi108 zA zF (wBL h121)) (oL Z (hS111.ldC (f:=0) hC130 (v:=jV x120) Z Z zL Z) (oA Z Z (eN (zB (sR (.fl 0 (.fx 1 (wRY (.nil)) .stop)) Z (oM Z Z (bnK hm122 fun x131 h132 hm133=>zM 0 Z Z Z Z (zN Z Z Tryz.call86 (zE Z (zE Z (zE Z zW))) Z) hS111 (fun hs=>wDQ x120 0 30 W103 U109 hs h132) (.inr Z) ?_)))))))
     rintro U134 L135 v136 W137 le138 hS139 ⟨rfl,rfl⟩
     have hS140:sW w U U134 [.blk b84 141 (nA KL.encI x73.l)] W137:=hS139
     refine oR Z (ZW Z Z) (oM Z Z (ifc hm133 ?_ ?_))
     ·intro c141 hm142
      refine zK Z Z Z (zI Z Z (nC c141.out)) Z Z (bnK hm142 fun _ h143 hm144=>zZ Z Z Z (zI Z Z (nC c141.out)) (fun _=>Zc Z f114 Z zo zF (wCr h143) (wCs h143)) ?_)
      have hg145:=Arr.at_ x73 (k:=x120.toNat) (by have hz0:=wBv h143;omega)
      refine ZG rfl rfl rfl (zI rfl rfl (nC c141.out)) (hS140.ldB (j:=0) rfl rfl rfl zL (wBG (sz:=1) (fun _=>rfl) _ _ 0 _ hg145 (by first | omega | rfl | simp) rfl)) rfl (zZ rfl rfl rfl (zI rfl rfl (nC c141.out)) (fun _=>zP rfl rfl rfl) (zZ rfl rfl rfl rfl (fun _=>zX rfl (nC c141.out) rfl) (eN (ifc hm144 ?_ ?_))))
      ·intro c146 hm147
       refine cT Z c146 (sR fL2 Z (oA Z Z (oA Z Z (eN (zO (zH (zh (zH ?_))))))))
       have q:=wBE hm147
       obtain ⟨v148,hm149,e150⟩:=q
       obtain rfl:=wCD hm75 hX99 (hb106 v148 e150)
       refine zH (zh (zH ?_))
       cases hm149
       exact ⟨rfl,_,(wEf rfl rfl),U134,_,(hS140.pick [] _ (by decide) rfl),rfl,rfl⟩
      ·intro c146 hm151
       refine cF Z c146 (kN (rR fL6 Z (oM Z f115 (oM Z Z (oR Z (Zc Z f114 Z zo zF (wCr h143) (wCs h143)) ?_)))))
       have hg152:=Arr.at_ x73 (k:=x120.toNat) (by have hz0:=wBv h143;omega)
       refine ZG rfl rfl rfl rfl (hS140.ldB (j:=0) rfl rfl rfl zL (wBG (sz:=1) (fun _=>rfl) _ _ 0 _ hg152 (by first | omega | rfl | simp) rfl)) rfl (zZ rfl rfl rfl rfl (fun _=>Runs.min rfl rfl rfl) (ZX rfl rfl rfl rfl rfl rfl (zj (zd (zD (rR fL2 rfl (zZ rfl rfl rfl rfl (fun _=>zl (zg rfl fi108 rfl) (congrArg (jV) hi119.out)) (zK rfl rfl rfl rfl rfl rfl (zj ?_)))))))))
       obtain rfl:=nD hm151
       exact zD ⟨Z,_,Z,⟨U134,Z,f112,f113,f114,Z,f116,f117,(le110.trans le138),hS140⟩⟩
     ·intro c141 hm154
      refine zG Z Z Z (zf Z Z (nF (c141.out)) Z) (zG Z Z Z (zf Z Z (nF (c141.out)) Z) (zG Z Z Z (zf Z Z (nF (c141.out)) Z) (zG Z Z Z (zf Z Z (nF (c141.out)) Z) (oR Z (zS Z (nF (c141.out)) Z) (eN (zn Z (sR fL2 Z (oA Z Z (oA Z Z (eN (zO (zH (zh (zH ?_))))))))))))))
      have q:=wBE hm154
      obtain ⟨v155,hm156,e157⟩:=q
      obtain rfl:=wCD hm75 hX99 (hb106 v155 e157)
      refine zH (zh (zH ?_))
      cases hm156
      exact ⟨rfl,_,(wEf rfl rfl),U134,_,(hS140.pick [] _ (by decide) rfl),rfl,rfl⟩
    ·rintro y162 σ158 W159 ⟨U163,fi161,f166,f167,f168,f169,f170,f171,le164,hS165⟩ hb160
     have hm172:=wCk hm75 hX99 hb160
     have c173:Hid (¬ ((↑(((↑p1.length:Int):Int) - 0).toNat:Int) < (↑p1.length:Int))):=zC (wAv)
     refine sR fL1 Z (oR Z (zP Z fi161 f171) (eN (zB (cF Z c173 (zx (ze (ze (zq (zD (sR fL10 Z (oM Z f166 (oR Z (zQ Z Z zV) (oM Z f167 (oR Z (zQ Z Z zA) (oR Z (ZB Z Z Z) (oM Z f169 (oR Z (ZB Z Z Z) (bnK hm172 fun x174 h175 hm176=>oR Z (Runs.quo Z Z Z h175) (oA Z Z (oA Z Z (eN (zO ?_))))))))))))))))))))))
     cases hm176
     exact ⟨rfl,_,(wEf rfl rfl),U163,_,(hS165.pick [] _ (by decide) rfl),rfl,rfl⟩
 ·intro c11 hm177
  refine cT Z c11 (sR fL3 Z (oM Z Z (oA Z Z (oA Z Z (eN (zO (zh (zH ?_))))))))
  cases hm177
  exact ⟨Z,_,(wEf Z Z),U4,_,hS10,Z,Z⟩
theorem wCy (p0:List wAD) (pA0:Option Addr) (pc0:Nat) (p1:Int) (w:World) (U:PHeap) (hS:St0 w U []) (ha0:Sl U 3 pA0 pc0 p0.length (nA wAH p0)) {r:Int} (hm:wAc p0 p1=some r):Gv Tryz.prog 112 [.slice pA0 p0.length pc0,jV p1] w (wCd w [] U (fun U_ L_ v=>v=jV r/\L_=[])):=by
 unfold wAc at hm
 refine Gv.of Tryz.func112 Z Tryz.ntmps112 Tryz.results112 Z (sR fL1 Z (oA Z Z (eN (sR fL1 Z (oA Z Z (eN (zB (sR fL1 Z (oA Z Z (eN (zU (bnK hm fun y12 hf9 hm8=>?_))))))))))))
 have q:=wBH hf9
 obtain ⟨hle10,hf11⟩:=q
 replace hle10:=zC hle10
 refine CK.forN' (fun k7 x6 σ_ w_=>∃ (U_:PHeap),σ_ 6=jV (↑k7:Int)/\σ_ 0=.slice pA0 p0.length pc0/\σ_ 1=jV p1/\σ_ 5=jV x6/\PHeap.Le U U_/\sW w U U_ [] w_) hf11 ?_ ?_ ?_
 ·exact ⟨U,Z,Z,Z,Z,(zJ _),hS⟩
 ·rintro k7 x6 xx15 σ13 W14 hk18 ⟨U20,fi19,f23,f24,f25,le21,hS22⟩ hx16
  have c26:Hid ((↑k7:Int) < (↑p0.length:Int)):=zC (wBU hk18)
  replace hk18:=zC hk18
  have hi27:Hid (w64 ((↑k7:Int) + 1)=(↑(k7 + 1):Int)):=zC (by have h1:=hle10.out;have h2:=c26.out;rw [wAS] <;> omega)
  refine zB (sR fL4 Z (oM Z fi19 (oM Z f23 (oR Z (zQ Z Z zR) (oR Z (zP Z Z Z) (eN (cT Z c26 (kN (zB (zU (sR fL7 Z (oM Z f23 (oM Z fi19 (bnK hx16 fun x28 h29 hm30=>?_))))))))))))))
  have h31:=ha0.le le21
  have q:=h31.el (fun _=>rfl) (wAN h29)
  obtain ⟨b32,off33,hA34,hC35⟩:=q
  refine oR Z (zt Z Z hA34 Z zR ZF (wBL h29)) (oR Z (ZE Z Z zz Z zF) (oL Z (hS22.ldC (f:=1) hC35 (v:=jV x28.Nation) Z Z zL Z) (oM Z f24 (oR Z (ZV Z Z Z) (eN (ifc hm30 ?_ ?_))))))
  ·intro c36 hm37
   refine cT Z c36 (rR fL3 Z (oM Z f25 (oR Z (zg Z Z Z) (oA Z Z (zj (zd (zD (rR fL3 Z (oM Z fi19 (oR Z (zl (zg Z Z Z) (congrArg (jV) hi27.out)) (oA Z Z (zj ?_))))))))))))
   cases hm37
   exact zD ⟨Z,⟨U20,Z,f23,f24,Z,le21,hS22⟩⟩
  ·intro c36 hm39
   refine cF Z c36 (zy (zd (zD (rR fL3 Z (oM Z fi19 (oR Z (zl (zg Z Z Z) (congrArg (jV) hi27.out)) (oA Z Z (zj ?_))))))))
   cases hm39
   exact zD ⟨Z,⟨U20,Z,f23,f24,f25,le21,hS22⟩⟩
 ·rintro σ41 W42 ⟨U46,fi44,f49,f50,f51,le47,hS48⟩
  have c52:Hid (¬ ((↑(((↑p0.length:Int):Int) - 0).toNat:Int) < (↑p0.length:Int))):=zC (wAv)
  refine zB (sR fL4 Z (oM Z fi44 (oM Z f49 (oR Z (zQ Z Z zR) (oR Z (zP Z Z Z) (eN (cF Z c52 (zx (ze (ze (zq (zD (sR fL2 Z (oM Z f51 (oA Z Z (eN (zO ?_)))))))))))))))))
  have hE:=nD hm8;first | subst r | cases hE
  exact ⟨Z,_,(zm Z),U46,_,hS48,Z,Z⟩
theorem wCn (p0:List wAD) (pA0:Option Addr) (pc0:Nat) (p1:List Int) (pA1:Option Addr) (pc1:Nat) (w:World) (U:PHeap) (hS:St0 w U []) (ha0:Sl U 3 pA0 pc0 p0.length (nA wAH p0)) (ha1:Sl U 1 pA1 pc1 p1.length (nA KL.encI p1)) {r:Int × Int} (hm:wAX p0 p1=some r):Gv Tryz.prog 61 [.slice pA0 p0.length pc0,.slice pA1 p1.length pc1] w (wCd w [] U (fun U_ L_ v=>v=.tuple #[jV r.1,jV r.2]/\L_=[])):=by
 unfold wAX at hm
 refine Gv.of Tryz.func61 Z Tryz.ntmps61 Tryz.results61 Z (sR fL2 Z (oA Z Z (oA Z Z (eN (zB (sR (.fl 0 (.fx 1 (.fl 2 (.nil)) .stop)) Z (oM Z Z (bnK hm fun x1 h2 hm3=>zM 0 Z Z Z Z (zN Z Z Tryz.call42 (zE Z zW) Z) hS (fun hs=>wBz p0 pA0 pc0 w U hs ha0 h2) (.inr Z) ?_))))))))
 rintro U4 L5 v6 W7 le8 hS9 ⟨rfl,rfl⟩
 have hS10:sW w U U4 [] W7:=hS9
 refine oA Z Z (eN (sR fL2 Z (oM Z Z (oR Z (zw Z Z Z) (eN (ifc hm3 ?_ ?_))))))
 ·intro c11 hm12
  refine zk (zi (fun h=>h c11.out)) (kN (zB (sR fL3 Z (oM Z Z (oR Z (zQ Z Z zA) (oR Z (ZV Z Z Z) (eN (ifc hm12 ?_ ?_))))))))
  ·intro c13 hm14
   refine cT Z c13 (sR fL2 Z (oA Z Z (oA Z Z (eN (zO (zH ?_))))))
   cases hm14
   exact ⟨Z,_,(wEf Z Z),U4,_,hS10,Z,Z⟩
  ·intro c13 hm15
   refine cF Z c13 (kN (zB (sR fL1 Z (oA Z Z (eN (zU ?_))))))
   have q:=wBy hm15
   obtain ⟨r18,hX19⟩:=q
   have q:=wBx hX19
   obtain ⟨hle20,hf21⟩:=q
   replace hle20:=zC hle20
   refine ZU (fun k17 _ σ_ w_=>∃ (U_:PHeap),σ_ 7=jV (1 + ↑k17:Int)/\σ_ 0=.slice pA0 p0.length pc0/\σ_ 1=.slice pA1 p1.length pc1/\PHeap.Le U4 U_/\sW w U U_ [] w_) hf21 ?_ ?_ ?_
   ·exact ⟨U4,Z,Z,Z,(zJ _),hS10⟩
   ·rintro k17 ⟨⟩ xx24 σ22 W23 hk27 ⟨U29,fi28,f32,f33,le30,hS31⟩ hx25 hb26
    try dsimp only at hx25
    have c34:Hid ((1 + ↑k17:Int) < (↑p1.length:Int)):=zC (wOt hk27)
    replace hk27:=zC hk27
    have hi35:Hid (w64 ((1 + ↑k17:Int) + 1)=(1 + ↑(k17 + 1):Int)):=zC (by have h1:=hle20.out;have h2:=c34.out;rw [wAS] <;> omega)
    refine zB (sR fL4 rfl (zK rfl rfl rfl rfl rfl fi28 (zK rfl rfl rfl rfl rfl f33 (zZ rfl rfl rfl rfl (fun _=>zQ rfl rfl zA) (zZ rfl rfl rfl rfl (fun _=>zP rfl rfl rfl) (eN (cT Z c34 (kN (zB (zU (zB (Zd Za [3,3,3,3,1,3,3,3,1,3] fL10 (by kernel_rfl) ?_))))))))))))
    have hS36:=hS31.drew
    generalize hw_W37:({ W23 with drawn:=W23.drawn + 1 }:World)=W37 at hS36 ⊢
    refine oM Z f33 (oM Z fi28 (oR Z (ZB Z Z Z) (bnK hx25 fun x38 h39 hm40=>?_)))
    have h41:=ha1.le le8
    have h42:=h41.le le30
    have q:=h42.el (fun _=>rfl) (wAN h39)
    obtain ⟨b43,off44,hA45,hC46⟩:=q
    refine oR Z (ZO Z Z hA45 Z zA zF (wCL h39) (wCU h39)) (oL Z (hS36.ldC (f:=0) hC46 (v:=jV x38) Z Z zL Z) (oM Z f33 (oM Z fi28 (bnK hm40 fun x47 h48 hm49=>?_))))
    have q:=h42.el (fun _=>rfl) (wAN h48)
    obtain ⟨b50,off51,hA52,hC53⟩:=q
    refine oR Z (ZO Z Z hA52 Z zA zF (wCL h48) (wCU h48)) (oL Z (hS36.ldC (f:=0) hC53 (v:=jV x47) Z Z zL Z) (oR Z (Runs.geq Z Z Z) (eN (ifc hm49 ?_ ?_))))
    ·intro c54 hm55
     refine cT Z c54 (sR fL2 Z (oA Z Z (oA Z Z (eN (zO (zh (zH ?_)))))))
     have q:=wBE hm55
     obtain ⟨v56,hm57,e58⟩:=q
     obtain rfl:=wCD hm15 hX19 (hb26 v56 e58)
     refine zH (zh (zH ?_))
     cases hm57
     exact ⟨Z,_,(wEf Z Z),U29,_,hS36,Z,Z⟩
    ·intro c54 hm59
     refine cF Z c54 (zy (zd (zD (rR fL3 Z (oM Z fi28 (oR Z (zl (zg Z Z Z) (congrArg (jV) hi35.out)) (oA Z Z (zj ?_))))))))
     obtain rfl:=nD hm59
     exact zD ⟨Z,_,Z,⟨U29,Z,f32,f33,le30,hS36⟩⟩
   ·rintro ⟨⟩ σ60 W61 ⟨U64,fi63,f67,f68,le65,hS66⟩ hb62
    have hm69:=wCk hm15 hX19 hb62
    try dsimp only at hm69
    have c70:Hid (¬ ((1 + ↑(((↑p1.length:Int):Int) - 1).toNat:Int) < (↑p1.length:Int))):=zC (wLU)
    refine zB (sR fL4 Z (oM Z fi63 (oM Z f68 (oR Z (zQ Z Z zA) (oR Z (zP Z Z Z) (eN (cF Z c70 (zx (ze (ze (zq (zD (sR fL1 Z (oA Z Z (eN (zB (sR fL1 Z (oA Z Z (eN (zU ?_))))))))))))))))))))
    have q:=wBy hm69
    obtain ⟨r78,hX79⟩:=q
    have q:=wBx hX79
    obtain ⟨hle80,hf81⟩:=q
    replace hle80:=zC hle80
    refine ZU (fun k77 x76 σ_ w_=>∃ (U_:PHeap),σ_ 9=jV (↑k77:Int)/\σ_ 0=.slice pA0 p0.length pc0/\σ_ 1=.slice pA1 p1.length pc1/\σ_ 8=jV x76/\PHeap.Le U64 U_/\sW w U U_ [] w_) hf81 ?_ ?_ ?_
    ·exact ⟨U64,Z,f67,f68,Z,(zJ _),hS66⟩
    ·rintro k77 x76 xx84 σ82 W83 hk87 ⟨U89,fi88,f92,f93,f94,le90,hS91⟩ hx85 hb86
     have c95:Hid ((↑k77:Int) < (↑p1.length:Int)):=zC (wBU hk87)
     replace hk87:=zC hk87
     have hi96:Hid (w64 ((↑k77:Int) + 1)=(↑(k77 + 1):Int)):=zC (by have h1:=hle80.out;have h2:=c95.out;rw [wAS] <;> omega)
     refine zB (sR fL4 Z (oM Z fi88 (oM Z f93 (oR Z (zQ Z Z zA) (oR Z (zP Z Z Z) (eN (cT Z c95 (kN (zB (zU (sR (wIp (.fx 5 (.fl 6 (.nil)) .stop)) Z (oM Z f92 (oM Z f93 (oM Z fi88 (bnK hx85 fun x97 h98 hm99=>?_)))))))))))))))
     have h100:=ha1.le le8
     have h101:=h100.le le65
     have h102:=h101.le le90
     have q:=h102.el (fun _=>rfl) (wAN h98)
     obtain ⟨b103,off104,hA105,hC106⟩:=q
     refine oR Z (zt Z Z hA105 Z zA zF (wBL h98)) (oL Z (hS91.ldC (f:=0) hC106 (v:=jV x97) Z Z zL Z) ?_)
     have h107:=ha0.le le8
     have h108:=h107.le le65
     have h109:=h108.le le90
     refine bnK hm99 fun x110 h111 hm112=>zM 0 Z Z Z Z (zN Z Z Tryz.call112 (zE Z (zE Z zW)) Z) hS91 (fun hs=>wCy p0 pA0 pc0 x97 W83 U89 hs h109 h111) (.inr Z) ?_
     rintro U113 L114 v115 W116 le117 hS118 ⟨rfl,rfl⟩
     have hS119:sW w U U113 [] W116:=hS118
     refine oA Z Z (eN (zB (sR fL2 Z (oM Z Z (oR Z (zP Z Z Z) (eN (ifc hm112 ?_ ?_)))))))
     ·intro c120 hm121
      refine cT Z c120 (sR fL2 Z (oA Z Z (oA Z Z (eN (zO (zH (zh (zH ?_))))))))
      have q:=wBE hm121
      obtain ⟨v122,hm123,e124⟩:=q
      obtain rfl:=wCD hm69 hX79 (hb86 v122 e124)
      refine zH (zh (zH ?_))
      cases hm123
      exact ⟨Z,_,(wEf Z Z),U113,_,hS119,Z,Z⟩
     ·intro c120 hm125
      refine cF Z c120 (kN (sR fL3 Z (oM Z Z (oM Z f94 (oR Z (zP Z Z Z) (eN (ifc hm125 ?_ ?_)))))))
      ·intro c126 hm127
       refine cT Z c126 (rR fL2 Z (oM Z Z (oA Z Z (zj (zd (zD (rR fL3 Z (oM Z fi88 (oR Z (zl (zg Z Z Z) (congrArg (jV) hi96.out)) (oA Z Z (zj ?_)))))))))))
       obtain rfl:=nD hm127
       exact zD ⟨Z,_,Z,⟨U113,Z,f92,f93,Z,(le90.trans le117),hS119⟩⟩
      ·intro c126 hm129
       refine cF Z c126 (zy (zd (zD (rR fL3 Z (oM Z fi88 (oR Z (zl (zg Z Z Z) (congrArg (jV) hi96.out)) (oA Z Z (zj ?_))))))))
       obtain rfl:=nD hm129
       exact zD ⟨Z,_,Z,⟨U113,Z,f92,f93,f94,(le90.trans le117),hS119⟩⟩
    ·rintro y135 σ131 W132 ⟨U136,fi134,f139,f140,f141,le137,hS138⟩ hb133
     have hm142:=wCk hm69 hX79 hb133
     have c143:Hid (¬ ((↑(((↑p1.length:Int):Int) - 0).toNat:Int) < (↑p1.length:Int))):=zC (wAv)
     refine zB (sR fL4 Z (oM Z fi134 (oM Z f140 (oR Z (zQ Z Z zA) (oR Z (zP Z Z Z) (eN (cF Z c143 (zx (ze (ze (zq (zD (sR fL10 Z (oM Z f139 (oR Z (zQ Z Z zR) (oM Z f140 (oR Z (zQ Z Z zA) (oR Z (ZB Z Z Z) (oM Z f141 (oR Z (ZB Z Z Z) (bnK hm142 fun x144 h145 hm146=>oR Z (Runs.quo Z Z Z h145) (oA Z Z (oA Z Z (eN (zO ?_)))))))))))))))))))))))))
     cases hm146
     exact ⟨Z,_,(wEf Z Z),U136,_,hS138,Z,Z⟩
 ·intro c11 hm147
  refine cT Z c11 (sR fL3 Z (oM Z Z (oA Z Z (oA Z Z (eN (zO (zH ?_)))))))
  cases hm147
  exact ⟨Z,_,(wEf Z Z),U4,_,hS10,Z,Z⟩
end Go.Proofs.YtghaibkggdecnaaGreat
namespace Go.Proofs.YtghaibkggdecnaaGreat
open Go.KL
set_option maxHeartbeats 4000000
theorem wFa (p0:List wAA) (pA0:Option Addr) (pc0:Nat) (p1:List Int) (pA1:Option Addr) (pc1:Nat) (p2:Int) (w:World) (U:PHeap) (hS:St0 w U []) (ha0:Sl U 3 pA0 pc0 p0.length (nA wAE p0)) (ha1:Sl U 1 pA1 pc1 p1.length (nA KL.encI p1)) {r:(List wAW) × Int} (hm:wBm p0 p1 p2=some r):Gv Tryz.prog 62 [.slice pA0 p0.length pc0,.slice pA1 p1.length pc1,jV p2] w (wCd w [] U (fun U_ L_ v=>∃ (A0:Option Addr) (c0:Nat),v=.tuple #[.slice A0 r.1.length c0,jV r.2]/\L_=[.row A0 c0 54 3 (nA wAg r.1)])):=by
 unfold wBm at hm
 refine Gv.of Tryz.func62 Z Tryz.ntmps62 Tryz.results62 Z (sR fL2 Z (oA Z Z (oA Z Z (eN (sR (.fl 0 (.fl 1 (.fx 2 (.fl 3 (.nil)) .stop))) Z (oM Z Z (oM Z Z (bnK hm fun x1 h2 hm3=>zM 0 Z Z Z Z (zN Z Z Tryz.call108 (zE Z (zE Z zW)) Z) hS (fun hs=>wDq p0 pA0 pc0 p1 pA1 pc1 w U hs ha0 ha1 h2) (.inr Z) ?_))))))))
 rintro U4 L5 v6 W7 le8 hS9 ⟨rfl,rfl⟩
 have hS10:sW w U U4 [] W7:=hS9
 refine oA Z Z (eN (zB (zU (sR fL3 Z (oM Z Z (oR Z (zw Z Z Z) (oA Z Z (eN (ifc hm3 ?_ ?_)))))))))
 ·intro c11 hm12
  refine zk (zi (fun h=>h c11.out)) (sR (.fl 0 (.fx 1 (wRZ (.nil)) .stop)) Z (oM Z Z (bnK hm12 fun x13 h14 hm15=>zM 0 Z Z Z Z (zN Z Z Tryz.call86 (zE Z (zE Z (zE Z zW))) Z) hS10 (fun hs=>wDQ p2 1 360000 W7 U4 hs h14) (.inr Z) ?_)))
  rintro U16 L17 v18 W19 le20 hS21 ⟨rfl,rfl⟩
  have hS22:sW w U U16 [] W19:=hS21
  refine oR Z (ZW Z Z) (oM Z Z (ifc hm15 ?_ ?_))
  ·intro c23 hm24
   refine zK Z Z Z (zI Z Z (nC c23.out)) Z Z (zK Z Z Z (zI Z Z (nC c23.out)) Z Z (zZ Z Z Z (zI Z Z (nC c23.out)) (fun _=>zQ Z Z zV) (zZ Z Z Z (zI Z Z (nC c23.out)) (fun _=>ZB Z Z Z) (zZ Z Z Z (zI Z Z (nC c23.out)) (fun _=>Runs.mulw Z Z Z) (zZ Z Z Z (zI Z Z (nC c23.out)) (fun _=>ZJ Z Z Z) (oR Z (zX Z (nC c23.out) Z) (oA Z Z (eN (ifc hm24 ?_ ?_)))))))))
   ·intro c25 hm26
    refine cT Z c25 (sR fL2 Z (oA Z Z (oA Z Z (eN (zO (zh (zH ?_)))))))
    have hS27:=hS22.nilrow 54 3
    cases hm26
    exact ⟨Z,_,(wEf Z Z),U16,_,hS27,none,0,Z,Z⟩
   ·intro c25 hm29
    refine cF Z c25 (zy (zd (zD (sR fL1 Z (oA Z Z (eN (zB (sR fL3 Z (oM Z Z (oR Z (zQ Z Z zA) (oM Z Z (eN (zU (bnK hm29 fun y52 hf49 hm48=>?_))))))))))))))
    have q:=wBH hf49
    obtain ⟨hle50,hf51⟩:=q
    replace hle50:=zC hle50
    refine CK.forN' (fun k47 l43 σ_ w_=>∃ (U_:PHeap) (A44:Option Addr) (c45:Nat),σ_ 33=jV (↑k47:Int)/\σ_ 0=.slice pA0 p0.length pc0/\σ_ 2=jV p2/\σ_ 9=.slice A44 l43.length c45/\σ_ 31=.slice pA1 p1.length pc1/\σ_ 32=jV (↑p1.length:Int)/\PHeap.Le U16 U_/\sW w U U_ [.row A44 c45 54 3 (nA wAg l43)] w_) hf51 ?_ ?_ ?_
    ·have hS53:=hS22.nilrow 54 3
     exact ⟨U16,none,0,Z,Z,Z,Z,Z,Z,(zJ _),hS53⟩
    ·rintro k47 l43 xx57 σ55 W56 hk60 ⟨U62,A44,c45,fi61,f65,f66,f67,f68,f69,le63,hS64⟩ hx58
     have c70:Hid ((↑k47:Int) < (↑p1.length:Int)):=zC (wBU hk60)
     replace hk60:=zC hk60
     have hi71:Hid (w64 ((↑k47:Int) + 1)=(↑(k47 + 1):Int)):=zC (by have h1:=hle50.out;have h2:=c70.out;rw [wAS] <;> omega)
     refine sR fL1 Z (oR Z (zP Z fi61 f69) (eN (zB (cT Z c70 (kN (zB (zU (sR fL5 Z (oM Z fi61 (bnK hx58 fun x72 h73 hm74=>?_))))))))))
     have h75:=ha1.le le8
     have h76:=h75.le le20
     have h77:=h76.le le63
     have q:=h77.el (fun _=>rfl) (wAN h73)
     obtain ⟨b78,off79,hA80,hC81⟩:=q
     refine oR Z (zt Z f68 hA80 fi61 zA zF (wBL h73)) (oL Z (hS64.ldC (f:=0) hC81 (v:=jV x72) Z Z zL Z) (oA Z Z (oA Z Z (eN (rR (wRW (.fx 10 (.fx 11 (.fl 12 (.nil)) .stop) .stop)) Z (oM Z f67 (oM Z f65 (oM Z Z (bnK hm74 fun x82 h83 hm84=>?_)))))))))
     have h85:=ha0.le le8
     have h86:=h85.le le20
     have h87:=h86.le le63
     have q:=h87.el (fun _=>rfl) (wAN h83)
     obtain ⟨b88,off89,hA90,hC91⟩:=q
     refine oR Z (ZO Z Z hA90 Z zV zr (wCL h83) (wCU h83)) (oR Z (ZE Z Z ZA Z zF) (oL Z (hS64.ldC (f:=0) hC91 (v:=jV x82.Bib) Z Z zL Z) (oM Z Z (oM Z f66 (oR Z (Runs.mulw Z Z Z) ?_)))))
     let B0:List Value:=[jV x82.Bib,jV (w64 ((↑k47:Int) * p2)),jV 0]
     let B1:List Value:=[jV 0,jV 0,jV 0]
     refine oR Z (Runs.build (pv:=[(0,jV x82.Bib),(1,jV (w64 ((↑k47:Int) * p2)))]) (z:=B1) (cs:=B0) Z (wAs Z (wAs Z wCH)) Tryz.zeroValue54 wOC Z Z) (ZQ (pv:=[(0,.agg B0.toArray)]) (zs:=B1) (cs:=B0) Z Z Z Z Z (wAs Z wCH) Tryz.runUnderlying37 Tryz.sizeOf54 Tryz.zeroValue54 Z Z Z Z Z hS64 ?_)
     intro W92 b93 hS94
     let B2:Res:=.row (some ⟨b93,0,none⟩) 1 54 3 (nA wAg [(⟨x82.Bib,w64 ((↑k47:Int) * p2),0⟩:wAW)])
     have hS96:sW w U U62 [B2,.row A44 c45 54 3 (nA wAg l43)] W92:=hS94
     refine bnK hm84 fun x97 h98 hm99=>ZS (j:=1) (enc:=wAg) (xs:=l43) (ys:=[(⟨x82.Bib,w64 ((↑k47:Int) * p2),0⟩:wAW)]) (zs:=x97) rfl rfl rfl rfl rfl Tryz.underlying37 wRG rfl rfl rfl rfl rfl rfl hS96 rfl rfl rfl (hS96.srcR (j:=0) rfl (by decide) (wAI (f:=wAg) (sz:=3) (fun _=>rfl) [(⟨x82.Bib,w64 ((↑k47:Int) * p2),0⟩:wAW)])) (fun _=>rfl) (fun _=>rfl) h98 rfl ?_
     intro A100 c101 W102 hS103
     have hS104:sW w U U62 [B2,.row A100 c101 54 3 (nA wAg x97)] W102:=hS103
     refine oA Z Z (zj (zd (zD (rR fL2 Z (oR Z (zl (zg Z fi61 Z) (congrArg (jV) hi71.out)) (oM Z Z (zj ?_)))))))
     cases hm99
     exact zD ⟨rfl,⟨U62,A100,c101,rfl,f65,f66,rfl,f68,f69,le63,(hS104.pick [1] _ (by decide) rfl)⟩⟩
    ·rintro σ108 W109 ⟨U117,A115,c116,fi111,f120,f121,f122,f123,f124,le118,hS119⟩
     have c125:Hid (¬ ((↑(((↑p1.length:Int):Int) - 0).toNat:Int) < (↑p1.length:Int))):=zC (wAv)
     refine sR fL1 Z (oR Z (zP Z fi111 f124) (eN (zB (cF Z c125 (zx (ze (ze (zq (zD (sR fL3 Z (oM Z f122 (oA Z Z (oA Z Z (eN (zO ?_)))))))))))))))
     cases hm48
     exact ⟨Z,_,(wEf Z Z),U117,_,hS119,A115,c116,Z,Z⟩
  ·intro c23 hm126
   refine zG Z Z Z (zf Z Z (nF (c23.out)) Z) (zG Z Z Z (zf Z Z (nF (c23.out)) Z) (zG Z Z Z (zf Z Z (nF (c23.out)) Z) (zG Z Z Z (zf Z Z (nF (c23.out)) Z) (zG Z Z Z (zf Z Z (nF (c23.out)) Z) (zG Z Z Z (zf Z Z (nF (c23.out)) Z) (oR Z (zS Z (nF (c23.out)) Z) (oA Z Z (eN (zn Z (sR fL2 Z (oA Z Z (oA Z Z (eN (zO (zh (zH ?_))))))))))))))))
   have hS127:=hS22.nilrow 54 3
   cases hm126
   exact ⟨Z,_,(wEf Z Z),U16,_,hS127,none,0,Z,Z⟩
 ·intro c11 hm129
  refine cT Z c11 (sR fL3 Z (oM Z Z (oA Z Z (oA Z Z (eN (zO (zh (zH ?_))))))))
  have hS130:=hS10.nilrow 54 3
  cases hm129
  exact ⟨Z,_,(wEf Z Z),U4,_,hS130,none,0,Z,Z⟩
theorem wDc (p0:List wAD) (pA0:Option Addr) (pc0:Nat) (p1:List Int) (pA1:Option Addr) (pc1:Nat) (p2:Int) (w:World) (U:PHeap) (hS:St0 w U []) (ha0:Sl U 3 pA0 pc0 p0.length (nA wAH p0)) (ha1:Sl U 1 pA1 pc1 p1.length (nA KL.encI p1)) {r:(List wAF) × Int} (hm:wAy p0 p1 p2=some r):Gv Tryz.prog 63 [.slice pA0 p0.length pc0,.slice pA1 p1.length pc1,jV p2] w (wCd w [] U (fun U_ L_ v=>∃ (A0:Option Addr) (c0:Nat),v=.tuple #[.slice A0 r.1.length c0,jV r.2]/\L_=[.row A0 c0 132 3 (nA wAB r.1)])):=by
 unfold wAy at hm
 refine Gv.of Tryz.func63 Z Tryz.ntmps63 Tryz.results63 Z (sR fL2 Z (oA Z Z (oA Z Z (eN (zB (sR (.fl 0 (.fl 1 (.fx 2 (.fl 3 (.nil)) .stop))) Z (oM Z Z (oM Z Z (bnK hm fun x1 h2 hm3=>zM 0 Z Z Z Z (zN Z Z Tryz.call111 (zE Z (zE Z zW)) Z) hS (fun hs=>wCm p0 pA0 pc0 p1 pA1 pc1 w U hs ha0 ha1 h2) (.inr Z) ?_)))))))))
 rintro U4 L5 v6 W7 le8 hS9 ⟨rfl,rfl⟩
 have hS10:sW w U U4 [] W7:=hS9
 refine oA Z Z (eN (sR fL2 Z (oM Z Z (oR Z (zw Z Z Z) (eN (ifc hm3 ?_ ?_))))))
 ·intro c11 hm12
  refine zk (zi (fun h=>h c11.out)) (kN (zB (sR (.fl 0 (.fx 1 (fC2_9 (.nil)) .stop)) Z (oM Z Z (bnK hm12 fun x13 h14 hm15=>zM 0 Z Z Z Z (zN Z Z Tryz.call77 (zE Z (zE Z (zE Z zW))) Z) hS10 (fun hs=>wBb p2 1 360000 W7 U4 hs h14) (.inr Z) ?_)))))
  rintro U16 L17 v18 W19 le20 hS21 ⟨rfl,rfl⟩
  have hS22:sW w U U16 [] W19:=hS21
  refine oM Z Z (ifc hm15 ?_ ?_)
  ·intro c23 hm24
   refine zG Z Z Z (zf Z Z (congrArg nB c23.out) Z) (zG Z Z Z (zf Z Z (congrArg nB c23.out) Z) (zG Z Z Z (zf Z Z (congrArg nB c23.out) Z) (zG Z Z Z (zf Z Z (congrArg nB c23.out) Z) (zG Z Z Z (zf Z Z (congrArg nB c23.out) Z) (zG Z Z Z (zf Z Z (congrArg nB c23.out) Z) (oR Z (zS Z (congrArg nB c23.out) Z) (eN (zn Z (sR fL2 Z (oA Z Z (oA Z Z (eN (zO (zH ?_))))))))))))))
   have hS25:=hS22.nilrow 132 3
   cases hm24
   exact ⟨Z,_,(wEf Z Z),U16,_,hS25,none,0,Z,Z⟩
  ·intro c23 hm27
   refine zK Z Z Z (zI Z Z (congrArg nB (nE.2 c23.out))) Z Z (zK Z Z Z (zI Z Z (congrArg nB (nE.2 c23.out))) Z Z (zZ Z Z Z (zI Z Z (congrArg nB (nE.2 c23.out))) (fun _=>zQ Z Z zR) (zZ Z Z Z (zI Z Z (congrArg nB (nE.2 c23.out))) (fun _=>ZB Z Z Z) (zZ Z Z Z (zI Z Z (congrArg nB (nE.2 c23.out))) (fun _=>Runs.mulw Z Z Z) (zZ Z Z Z (zI Z Z (congrArg nB (nE.2 c23.out))) (fun _=>ZJ Z Z Z) (oR Z (zX Z (congrArg nB (nE.2 c23.out)) Z) (eN (ifc hm27 ?_ ?_))))))))
   ·intro c28 hm29
    refine cT Z c28 (sR fL2 Z (oA Z Z (oA Z Z (eN (zO (zH ?_))))))
    have hS30:=hS22.nilrow 132 3
    cases hm29
    exact ⟨Z,_,(wEf Z Z),U16,_,hS30,none,0,Z,Z⟩
   ·intro c28 hm32
    refine cF Z c28 (kN (sR fL1 Z (oA Z Z (eN (zB (sR fL1 Z (oA Z Z (eN (zU (bnK hm32 fun y55 hf52 hm51=>?_))))))))))
    have q:=wBH hf52
    obtain ⟨hle53,hf54⟩:=q
    replace hle53:=zC hle53
    refine CK.forN' (fun k50 l46 σ_ w_=>∃ (U_:PHeap) (A47:Option Addr) (c48:Nat),σ_ 10=jV (↑k50:Int)/\σ_ 0=.slice pA0 p0.length pc0/\σ_ 1=.slice pA1 p1.length pc1/\σ_ 2=jV p2/\σ_ 9=.slice A47 l46.length c48/\PHeap.Le U16 U_/\sW w U U_ [.row A47 c48 132 3 (nA wAB l46)] w_) hf54 ?_ ?_ ?_
    ·have hS56:=hS22.nilrow 132 3
     exact ⟨U16,none,0,Z,Z,Z,Z,Z,(zJ _),hS56⟩
    ·rintro k50 l46 xx60 σ58 W59 hk63 ⟨U65,A47,c48,fi64,f68,f69,f70,f71,le66,hS67⟩ hx61
     have c72:Hid ((↑k50:Int) < (↑p1.length:Int)):=zC (wBU hk63)
     replace hk63:=zC hk63
     have hi73:Hid (w64 ((↑k50:Int) + 1)=(↑(k50 + 1):Int)):=zC (by have h1:=hle53.out;have h2:=c72.out;rw [wAS] <;> omega)
     refine zB (sR fL4 Z (oM Z fi64 (oM Z f69 (oR Z (zQ Z Z zA) (oR Z (zP Z Z Z) (eN (cT Z c72 (kN (zB (zU (rR (wRX (.fx 13 (.fx 14 (.fl 15 (.nil)) .stop) .stop)) Z (oM Z f71 (oM Z f68 (oM Z f69 (oM Z fi64 (bnK hx61 fun x74 h75 hm76=>?_))))))))))))))))
     have h77:=ha1.le le8
     have h78:=h77.le le20
     have h79:=h78.le le66
     have q:=h79.el (fun _=>rfl) (wAN h75)
     obtain ⟨b80,off81,hA82,hC83⟩:=q
     refine oR Z (zt Z Z hA82 Z zA zF (wBL h75)) (oL Z (hS67.ldC (f:=0) hC83 (v:=jV x74) Z Z zL Z) (bnK hm76 fun x84 h85 hm86=>?_))
     have h87:=ha0.le le8
     have h88:=h87.le le20
     have h89:=h88.le le66
     have q:=h89.el (fun _=>rfl) (wAN h85)
     obtain ⟨b90,off91,hA92,hC93⟩:=q
     refine oR Z (ZO Z Z hA92 Z zR ZF (wCL h85) (wCU h85)) (oR Z (ZE Z Z zz Z zF) (oL Z (hS67.ldC (f:=0) hC93 (v:=jV x84.Bib) Z Z zL Z) (oM Z fi64 (oM Z f70 (oR Z (Runs.mulw Z Z Z) ?_)))))
     let B0:List Value:=[jV x84.Bib,jV (w64 ((↑k50:Int) * p2)),jV 0]
     let B1:List Value:=[jV 0,jV 0,jV 0]
     refine oR Z (Runs.build (pv:=[(0,jV x84.Bib),(1,jV (w64 ((↑k50:Int) * p2))),(2,jV 0)]) (z:=B1) (cs:=B0) Z (wAs Z (wAs Z (wAs Z wCH))) Tryz.zeroValue132 wNB Z Z) (ZQ (pv:=[(0,.agg B0.toArray)]) (zs:=B1) (cs:=B0) Z Z Z Z Z (wAs Z wCH) ZM Tryz.sizeOf132 Tryz.zeroValue132 Z Z Z Z Z hS67 ?_)
     intro W94 b95 hS96
     let B2:Res:=.row (some ⟨b95,0,none⟩) 1 132 3 (nA wAB [(⟨x84.Bib,w64 ((↑k50:Int) * p2),0⟩:wAF)])
     have hS98:sW w U U65 [B2,.row A47 c48 132 3 (nA wAB l46)] W94:=hS96
     refine bnK hm86 fun x99 h100 hm101=>ZS (j:=1) (enc:=wAB) (xs:=l46) (ys:=[(⟨x84.Bib,w64 ((↑k50:Int) * p2),0⟩:wAF)]) (zs:=x99) rfl rfl rfl rfl rfl Tryz.underlying40 wNC rfl rfl rfl rfl rfl rfl hS98 rfl rfl rfl (hS98.srcR (j:=0) rfl (by decide) (wAI (f:=wAB) (sz:=3) (fun _=>rfl) [(⟨x84.Bib,w64 ((↑k50:Int) * p2),0⟩:wAF)])) (fun _=>rfl) (fun _=>rfl) h100 rfl ?_
     intro A102 c103 W104 hS105
     have hS106:sW w U U65 [B2,.row A102 c103 132 3 (nA wAB x99)] W104:=hS105
     refine oA Z Z (zj (zd (zD (rR fL3 Z (oM Z fi64 (oR Z (zl (zg Z Z Z) (congrArg (jV) hi73.out)) (oA Z Z (zj ?_))))))))
     cases hm101
     exact zD ⟨rfl,⟨U65,A102,c103,rfl,f68,f69,f70,rfl,le66,(hS106.pick [1] _ (by decide) rfl)⟩⟩
    ·rintro σ110 W111 ⟨U119,A117,c118,fi113,f122,f123,f124,f125,le120,hS121⟩
     have c126:Hid (¬ ((↑(((↑p1.length:Int):Int) - 0).toNat:Int) < (↑p1.length:Int))):=zC (wAv)
     refine zB (sR fL4 Z (oM Z fi113 (oM Z f123 (oR Z (zQ Z Z zA) (oR Z (zP Z Z Z) (eN (cF Z c126 (zx (ze (ze (zq (zD (sR fL3 Z (oM Z f125 (oA Z Z (oA Z Z (eN (zO ?_))))))))))))))))))
     cases hm51
     exact ⟨Z,_,(wEf Z Z),U119,_,hS121,A117,c118,Z,Z⟩
 ·intro c11 hm127
  refine cT Z c11 (sR fL3 Z (oM Z Z (oA Z Z (oA Z Z (eN (zO (zH ?_)))))))
  have hS128:=hS10.nilrow 132 3
  cases hm127
  exact ⟨Z,_,(wEf Z Z),U4,_,hS128,none,0,Z,Z⟩
theorem wEa (p0:List wAW) (pA0:Option Addr) (pc0:Nat) (w:World) (U:PHeap) (hS:St0 w U []) (ha0:Sl U 3 pA0 pc0 p0.length (nA wAg p0)) {r:(List wAF)} (hm:wBW p0=some r):Gv Tryz.prog 66 [.slice pA0 p0.length pc0] w (wCd w [] U (fun U_ L_ v=>∃ (A0:Option Addr) (c0:Nat),v=.slice A0 r.length c0/\L_=[.row A0 c0 132 3 (nA wAB r)])):=by
 unfold wBW at hm
 refine Gv.of Tryz.func66 Z Tryz.ntmps66 Tryz.results66 Z (sR fL1 Z (oA Z Z (eN (sR fL1 Z (oA Z Z (eN (zB (sR fL3 Z (oM Z Z (oR Z (zQ Z Z Tryz.runUnderlying37) (oM Z Z (eN (zU (bnK hm fun y23 hf20 hm19=>?_))))))))))))))
 have q:=wBH hf20
 obtain ⟨hle21,hf22⟩:=q
 replace hle21:=zC hle21
 refine CK.forN' (fun k18 l14 σ_ w_=>∃ (U_:PHeap) (A15:Option Addr) (c16:Nat),σ_ 8=jV (↑k18:Int)/\σ_ 3=.slice A15 l14.length c16/\σ_ 6=.slice pA0 p0.length pc0/\σ_ 7=jV (↑p0.length:Int)/\PHeap.Le U U_/\sW w U U_ [.row A15 c16 132 3 (nA wAB l14)] w_) hf22 ?_ ?_ ?_
 ·have hS24:=hS.nilrow 132 3
  exact ⟨U,none,0,Z,Z,Z,Z,(zJ _),hS24⟩
 ·rintro k18 l14 xx28 σ26 W27 hk31 ⟨U33,A15,c16,fi32,f36,f37,f38,le34,hS35⟩ hx29
  have c39:Hid ((↑k18:Int) < (↑p0.length:Int)):=zC (wBU hk31)
  replace hk31:=zC hk31
  have hi40:Hid (w64 ((↑k18:Int) + 1)=(↑(k18 + 1):Int)):=zC (by have h1:=hle21.out;have h2:=c39.out;rw [wAS] <;> omega)
  refine sR fL1 Z (oR Z (zP Z fi32 f38) (eN (zB (cT Z c39 (kN (zB (zU (sR (.fl 0 (.fl 1 (.fx 2 (.fx 3 (.nil) .stop) .stop))) Z (bnK hx29 fun x41 h42 hm43=>?_)))))))))
  have h44:=ha0.le le34
  have q:=h44.el (fun _=>rfl) (wAN h42)
  obtain ⟨b45,off46,hA47,hC48⟩:=q
  refine oR Z (zt Z f37 hA47 fi32 Tryz.runUnderlying37 Tryz.sizeOf54 (wBL h42)) (oL Z (hS35.ldCA (f:=0) hC48 Z Z Tryz.isAgg54 Tryz.sizeOf54 (us:=[jV x41.Bib,jV x41.Time,jV x41.Gate]) Z Z) ?_)
  let B0:List Value:=[jV 0,jV 0,jV 0]
  refine ZI (cs:=B0) Z Z Z Z Z Tryz.zeroValue54 Z hS35 ?_
  intro W49 b50 hS51
  let B1:List Value:=[jV x41.Bib,jV x41.Time,jV x41.Gate]
  refine ZH (j:=0) (vs:=B1) Z Z Z Z hS51 Z Z Z Z Tryz.sizeOf54 (zY Z) Z Z Z ?_
  intro W53 hS54
  let B2:Res:=.row A15 c16 132 3 (nA wAB l14)
  have hS55:sW w U U33 [.blk b50 54 B1,B2] W53:=hS54
  refine eN (rR (.fl 0 (.fl 1 (.fx 2 (.fx 3 (.fl 4 (.nil)) .stop) .stop))) Z (oM Z f36 (oL Z (hS55.ldBA (j:=0) Z Z Z Tryz.isAgg54 Tryz.sizeOf54 (vs:=B1) Z Z) (ZQ (pv:=[(0,.agg B1.toArray)]) (zs:=B0) (cs:=B1) Z Z Z Z Z (wAs Z wCH) ZM Tryz.sizeOf132 Tryz.zeroValue132 Z Z Z Z Z hS55 ?_))))
  intro W56 b57 hS58
  let B3:Res:=.row (some ⟨b57,0,none⟩) 1 132 3 (nA wAB [(⟨x41.Bib,x41.Time,x41.Gate⟩:wAF)])
  have hS60:sW w U U33 [B3,.blk b50 54 B1,B2] W56:=hS58
  refine bnK hm43 fun x61 h62 hm63=>ZS (j:=2) (enc:=wAB) (xs:=l14) (ys:=[(⟨x41.Bib,x41.Time,x41.Gate⟩:wAF)]) (zs:=x61) rfl rfl rfl rfl rfl Tryz.underlying40 wNC rfl rfl rfl rfl rfl rfl hS60 rfl rfl rfl (hS60.srcR (j:=0) rfl (by decide) (wAI (f:=wAB) (sz:=3) (fun _=>rfl) [(⟨x41.Bib,x41.Time,x41.Gate⟩:wAF)])) (fun _=>rfl) (fun _=>rfl) h62 rfl ?_
  intro A64 c65 W66 hS67
  have hS68:sW w U U33 [B3,.blk b50 54 B1,.row A64 c65 132 3 (nA wAB x61)] W66:=hS67
  refine oA Z Z (zj (zd (zD (rR fL2 Z (oR Z (zl (zg Z fi32 Z) (congrArg (jV) hi40.out)) (oM Z Z (zj ?_)))))))
  cases hm63
  exact zD ⟨rfl,⟨U33,A64,c65,rfl,rfl,f37,f38,le34,(hS68.pick [2] _ (by decide) rfl)⟩⟩
 ·rintro σ72 W73 ⟨U81,A79,c80,fi75,f84,f85,f86,le82,hS83⟩
  have c87:Hid (¬ ((↑(((↑p0.length:Int):Int) - 0).toNat:Int) < (↑p0.length:Int))):=zC (wAv)
  refine sR fL1 Z (oR Z (zP Z fi75 f86) (eN (zB (cF Z c87 (zx (ze (ze (zq (zD (sR fL2 Z (oM Z f84 (oA Z Z (eN (zO ?_))))))))))))))
  have hE:=nD hm19;first | subst r | cases hE
  exact ⟨Z,_,(zm Z),U81,_,hS83,A79,c80,Z,Z⟩
theorem wCB (p0:List wAF) (pA0:Option Addr) (pc0:Nat) (p1:List wAF) (pA1:Option Addr) (pc1:Nat) (w:World) (U:PHeap) (hS:St0 w U []) (ha0:Sl U 3 pA0 pc0 p0.length (nA wAB p0)) (ha1:Sl U 3 pA1 pc1 p1.length (nA wAB p1)) {r:Bool} (hm:wAO p0 p1=some r):Gv Tryz.prog 83 [.slice pA0 p0.length pc0,.slice pA1 p1.length pc1] w (wCd w [] U (fun U_ L_ v=>v=.bool r/\L_=[])):=by
 unfold wAO at hm
 refine Gv.of Tryz.func83 Z Tryz.ntmps83 Tryz.results83 Z (sR fL1 Z (oA Z Z (eN (zB (sR fL5 Z (oM Z Z (oR Z (zQ Z Z ZM) (oM Z Z (oR Z (zQ Z Z ZM) (oR Z (zw Z Z Z) (eN ?_)))))))))))
 by_cases c1:(↑p0.length:Int)=(↑p1.length:Int)
 ·have hm2:=hm;rw [if_pos c1] at hm2;replace c1:=zC c1
  refine zk (zi (fun h=>h c1.out)) (kN (zB (sR fL3 Z (oM Z Z (oR Z (zQ Z Z ZM) (oM Z Z (eN (zU ?_))))))))
  have q:=wBy hm2
  obtain ⟨r5,hX6⟩:=q
  have q:=wBx hX6
  obtain ⟨hle7,hf8⟩:=q
  replace hle7:=zC hle7
  refine ZU (fun k4 _ σ_ w_=>∃ (U_:PHeap),σ_ 13=jV (↑k4:Int)/\σ_ 0=.slice pA0 p0.length pc0/\σ_ 1=.slice pA1 p1.length pc1/\σ_ 12=jV (↑p0.length:Int)/\PHeap.Le U U_/\sW w U U_ [] w_) hf8 ?_ ?_ ?_
  ·exact ⟨U,Z,Z,Z,Z,(zJ _),hS⟩
  ·rintro k4 ⟨⟩ xx11 σ9 W10 hk14 ⟨U16,fi15,f19,f20,f21,le17,hS18⟩ hx12 hb13
   try dsimp only at hx12
   have c22:Hid ((↑k4:Int) < (↑p0.length:Int)):=zC (wBU hk14)
   replace hk14:=zC hk14
   have hi23:Hid (w64 ((↑k4:Int) + 1)=(↑(k4 + 1):Int)):=zC (by have h1:=hle7.out;have h2:=c22.out;rw [wAS] <;> omega)
   refine sR fL1 rfl (zZ rfl rfl rfl rfl (fun _=>zP rfl fi15 f21) (eN (zB (cT Z c22 (kN (zB (zU (sR fL2 rfl (zK rfl rfl rfl rfl rfl fi15 (ZX rfl rfl rfl rfl rfl rfl (eN (zB (Zd Za [3,3,3,1,3,3,3,1,3] fL9 (by kernel_rfl) ?_)))))))))))))
   have hS24:=hS18.drew
   generalize hw_W25:({ W10 with drawn:=W10.drawn + 1 }:World)=W25 at hS24 ⊢
   refine oM Z f19 (oM Z Z (bnK hx12 fun x26 h27 hm28=>?_))
   have h29:=ha0.le le17
   have q:=h29.el (fun _=>rfl) (wAN h27)
   obtain ⟨b30,off31,hA32,hC33⟩:=q
   refine oR Z (zt Z Z hA32 Z ZM Tryz.sizeOf132 (wBL h27)) (oL Z (hS24.ldCA (f:=0) hC33 Z Z Tryz.isAgg132 Tryz.sizeOf132 (us:=[jV x26.Bib,jV x26.Time,jV x26.Gate]) Z Z) (oM Z f20 (oM Z Z (bnK hm28 fun x34 h35 hm36=>?_))))
   have h37:=ha1.le le17
   have q:=h37.el (fun _=>rfl) (wAN h35)
   obtain ⟨b38,off39,hA40,hC41⟩:=q
   refine oR Z (zt Z Z hA40 Z ZM Tryz.sizeOf132 (wBL h35)) (oL Z (hS24.ldCA (f:=0) hC41 Z Z Tryz.isAgg132 Tryz.sizeOf132 (us:=[jV x34.Bib,jV x34.Time,jV x34.Gate]) Z Z) (oR Z (zl (Runs.neS (enc:=wAB) (a:=x26) (b:=x34) Z Z Z wRK wRJ) (congrArg nB (decide_not).symm)) (eN (ifc hm36 ?_ ?_))))
   ·intro c42 hm43
    refine zk (zi (fun h=>h c42.out)) (zy (zd (zD (rR fL2 Z (oR Z (zl (zg Z fi15 Z) (congrArg (jV) hi23.out)) (oM Z Z (zj ?_)))))))
    obtain rfl:=nD hm43
    exact zD ⟨Z,_,Z,⟨U16,Z,f19,f20,f21,le17,hS24⟩⟩
   ·intro c42 hm44
    refine cT Z c42 (sR fL1 Z (oA Z Z (eN (zO (zh (zH ?_))))))
    have q:=wBE hm44
    obtain ⟨v45,hm46,e47⟩:=q
    obtain rfl:=wCD hm2 hX6 (hb13 v45 e47)
    refine zH (zh (zH ?_))
    have hE:=nD hm46;first | subst r | cases hE
    exact ⟨Z,_,(zm Z),U16,_,hS24,Z,Z⟩
  ·rintro ⟨⟩ σ48 W49 ⟨U52,fi51,f55,f56,f57,le53,hS54⟩ hb50
   have hm58:=wCk hm2 hX6 hb50
   try dsimp only at hm58
   have c59:Hid (¬ ((↑(((↑p0.length:Int):Int) - 0).toNat:Int) < (↑p0.length:Int))):=zC (wAv)
   refine sR fL1 Z (oR Z (zP Z fi51 f57) (eN (zB (cF Z c59 (zx (ze (ze (zq (zD (sR fL1 Z (oA Z Z (eN (zO ?_)))))))))))))
   have hE:=nD hm58;first | subst r | cases hE
   exact ⟨Z,_,(zm Z),U52,_,hS54,Z,Z⟩
 ·have hm60:=hm;rw [if_neg c1] at hm60;replace c1:=zC c1
  refine cT Z c1 (sR fL1 Z (oA Z Z (eN (zO (zH ?_)))))
  have hE:=nD hm60;first | subst r | cases hE
  exact ⟨Z,_,(zm Z),U,_,hS,Z,Z⟩
theorem wEB (p0:List wAW) (pA0:Option Addr) (pc0:Nat) (p1:List wAF) (pA1:Option Addr) (pc1:Nat) (w:World) (U:PHeap) (hS:St0 w U []) (ha0:Sl U 3 pA0 pc0 p0.length (nA wAg p0)) (ha1:Sl U 3 pA1 pc1 p1.length (nA wAB p1)) {r:Bool} (hm:wBN p0 p1=some r):Gv Tryz.prog 18 [.slice pA0 p0.length pc0,.slice pA1 p1.length pc1] w (wCd w [] U (fun U_ L_ v=>v=.bool r/\L_=[])):=by
 unfold wBN at hm
 refine Gv.of Tryz.func18 Z Tryz.ntmps18 Tryz.results18 Z (sR fL1 Z (oA Z Z (eN (sR (.fl 0 (.fx 1 (.fl 2 (.fx 3 (.fl 4 (.nil)) .stop)) .stop)) Z (oM Z Z (bnK hm fun x1 h2 hm3=>zM 0 Z Z Z Z (zN Z Z Tryz.call66 (zE Z zW) Z) hS (fun hs=>wEa p0 pA0 pc0 w U hs ha0 h2) (.inr Z) ?_))))))
 rintro U4 L5 v6 W7 le8 hS9 ⟨A10,c11,rfl,rfl⟩
 have hS13:sW w U U4 [.row A10 c11 132 3 (nA wAB x1)] W7:=hS9
 refine oM Z Z ?_
 have q:=hS13.freezeR (k:=0) (n:=x1.length) rfl (wAI (f:=wAB) (sz:=3) (fun _=>rfl) x1) (by decide)
 obtain ⟨U14,le15,hs16,hS17⟩:=q
 have hS18:sW w U U14 [] W7:=hS17
 have h19:=ha1.le le8
 have h20:=h19.le le15
 refine bnK hm3 fun x21 h22 hm23=>zM 0 Z Z Z Z (zN Z Z Tryz.call83 (zE Z (zE Z zW)) Z) hS18 (fun hs=>wCB x1 A10 c11 p1 pA1 pc1 W7 U14 hs hs16 h20 h22) (.inr Z) ?_
 rintro U24 L25 v26 W27 le28 hS29 ⟨rfl,rfl⟩
 have hS30:sW w U U24 [] W27:=hS29
 refine oA Z Z (eN (zO ?_))
 have hE:=nD hm23;first | subst r | cases hE
 exact ⟨Z,_,(zm Z),U24,_,hS30,Z,Z⟩
theorem wEC (p0:List Int) (pA0:Option Addr) (pc0:Nat) (w:World) (U:PHeap) (hS:St0 w U []) (ha0:Sl U 1 pA0 pc0 p0.length (nA KL.encI p0)) {r:Int} (hm:wBO p0=some r):Gv Tryz.prog 131 [.slice pA0 p0.length pc0] w (wCd w [] U (fun U_ L_ v=>v=jV r/\L_=[])):=by
 unfold wBO at hm
 refine Gv.of Tryz.func131 Z Tryz.ntmps131 Tryz.results131 Z (sR fL1 Z (oA Z Z (eN (zB (sR fL3 Z (oM Z Z (oR Z (zQ Z Z zA) (oR Z (zP Z Z Z) (eN ?_)))))))))
 by_cases c1:(↑p0.length:Int) < 1
 ·have hm2:=hm;rw [if_pos c1] at hm2;replace c1:=zC c1
  refine cT Z c1 (rR (.fx 0 (.fx 1 (.nil) .stop) .stop) Z ?_)
  cases hm2
 ·have hm3:=hm;rw [if_neg c1] at hm3;replace c1:=zC c1
  refine cF Z c1 (kN (sR fL4 Z (oM Z Z (bnK hm3 fun x4 h5 hm6=>?_))))
  have q:=ha0.el (fun _=>rfl) (wAN h5)
  obtain ⟨b7,off8,hA9,hC10⟩:=q
  refine oR Z (zt Z Z hA9 Z zA zF (wBL h5)) (oL Z (hS.ldC (f:=0) hC10 (v:=jV x4) Z Z zL Z) (oA Z Z (eN (zB (sR fL1 Z (oA Z Z (eN (zU (bnK hm6 fun y22 hf19 hm18=>?_)))))))))
  have q:=wBH hf19
  obtain ⟨hle20,hf21⟩:=q
  replace hle20:=zC hle20
  refine CK.forN' (fun k17 x16 σ_ w_=>∃ (U_:PHeap),σ_ 4=jV (1 + ↑k17:Int)/\σ_ 0=.slice pA0 p0.length pc0/\σ_ 3=jV x16/\PHeap.Le U U_/\sW w U U_ [] w_) hf21 ?_ ?_ ?_
  ·exact ⟨U,Z,Z,Z,(zJ _),hS⟩
  ·rintro k17 x16 xx25 σ23 W24 hk28 ⟨U30,fi29,f33,f34,le31,hS32⟩ hx26
   have c35:Hid ((1 + ↑k17:Int) < (↑p0.length:Int)):=zC (wOt hk28)
   replace hk28:=zC hk28
   have hi36:Hid (w64 ((1 + ↑k17:Int) + 1)=(1 + ↑(k17 + 1):Int)):=zC (by have h1:=hle20.out;have h2:=c35.out;rw [wAS] <;> omega)
   refine zB (sR fL4 Z (oM Z fi29 (oM Z f33 (oR Z (zQ Z Z zA) (oR Z (zP Z Z Z) (eN (cT Z c35 (kN (zB (zU (rR fL7 Z (oM Z f34 (oM Z f33 (oM Z fi29 (bnK hx26 fun x37 h38 hm39=>?_)))))))))))))))
   have h40:=ha0.le le31
   have q:=h40.el (fun _=>rfl) (wAN h38)
   obtain ⟨b41,off42,hA43,hC44⟩:=q
   refine oR Z (ZO Z Z hA43 Z zA zF (wCL h38) (wCU h38)) (oL Z (hS32.ldC (f:=0) hC44 (v:=jV x37) Z Z zL Z) (oR Z (Runs.max Z Z Z) (oA Z Z (zj (zd (zD (rR fL3 Z (oM Z fi29 (oR Z (zl (zg Z Z Z) (congrArg (jV) hi36.out)) (oA Z Z (zj ?_)))))))))))
   cases hm39
   exact zD ⟨Z,⟨U30,Z,f33,Z,le31,hS32⟩⟩
  ·rintro σ46 W47 ⟨U51,fi49,f54,f55,le52,hS53⟩
   have c56:Hid (¬ ((1 + ↑(((↑p0.length:Int):Int) - 1).toNat:Int) < (↑p0.length:Int))):=zC (wLU)
   refine zB (sR fL4 Z (oM Z fi49 (oM Z f54 (oR Z (zQ Z Z zA) (oR Z (zP Z Z Z) (eN (cF Z c56 (zx (ze (ze (zq (zD (sR fL2 Z (oM Z f55 (oA Z Z (eN (zO ?_)))))))))))))))))
   have hE:=nD hm18;first | subst r | cases hE
   exact ⟨Z,_,(zm Z),U51,_,hS53,Z,Z⟩
theorem wCQ (p0:Arr Int 31) (w:World) (U:PHeap) (hS:St0 w U [])  {r:(List Int) × Int} (hm:wAT p0=some r):Gv Tryz.prog 91 [.agg (nA KL.encI p0.l).toArray] w (wCd w [] U (fun U_ L_ v=>∃ (A0:Option Addr) (c0:Nat),v=.tuple #[.slice A0 r.1.length c0,jV r.2]/\L_=[.row A0 c0 3 1 (nA KL.encI r.1)])):=by
 unfold wAT at hm
 refine Gv.of Tryz.func91 rfl Tryz.ntmps91 Tryz.results91 rfl (sR (.fx 0 (.fl 1 (.fl 2 (.nil))) .stop) rfl (OKS.box (cs:=nA KL.encI p0.l) rfl rfl rfl rfl rfl rfl (by rfl) hS ?_))
 intro W1 b2 hS3
 have hS5:sW w U U [.blk b2 141 (nA KL.encI p0.l)] W1:=hS3
 refine oA Z Z (oA Z Z (eN (sR (.fl 0 (.fx 1 (.fl 2 (.nil)) .stop)) Z (oR Z (Runs.slA Z Z zo zF) ?_))))
 have q:=St.freezeTA (a:=p0) (f:=KL.encI) (sz:=1) hS5 (k:=0) rfl (fun _=>rfl)
 obtain ⟨U7,le8,hs9,hS10,th6⟩:=q
 have hS11:sW w U U7 [] W1:=hS10
 refine bnK hm fun x12 h13 hm14=>zM 0 Z Z Z Z (zN Z Z Tryz.call131 (zE (slenA p0 Z) zW) Z) hS11 (fun hs=>wEC p0.l (some ⟨b2,0,none⟩) 31 W1 U7 hs hs9 h13) (.inr Z) ?_
 rintro U15 L16 v17 W18 le19 hS20 ⟨rfl,rfl⟩
 have hS21:sW w U U15 [] W18:=hS20
 have q:=th6 _ _ _ le19 hS21
 obtain ⟨U22,le23,hS24⟩:=q
 have hS25:sW w U U22 [.blk b2 141 (nA KL.encI p0.l)] W18:=hS24
 refine oA Z Z (eN (sR fL1 Z (oA Z Z (eN (zB (sR fL2 Z (oL Z (hS25.ldBA (j:=0) Z Z Z Tryz.isAgg141 ZR (vs:=nA KL.encI p0.l) (wKj p0 (fun _=>Z) Z) (wAh p0 (fun _=>Z) Z)) (oM Z Z (eN (zU (bnK hm14 fun y48 hf45 hm44=>?_)))))))))))
 have q:=wBH hf45
 obtain ⟨hle46,hf47⟩:=q
 replace hle46:=zC hle46
 refine CK.forN' (fun k43 l39 σ_ w_=>∃ (U_:PHeap) (A40:Option Addr) (c41:Nat),σ_ 11=jV (↑k43:Int)/\σ_ 4=jV x12/\σ_ 5=.slice A40 l39.length c41/\σ_ 10=.agg (nA KL.encI p0.l).toArray/\PHeap.Le U22 U_/\sW w U U_ [.blk b2 141 (nA KL.encI p0.l),.row A40 c41 3 1 (nA KL.encI l39)] w_) hf47 ?_ ?_ ?_
 ·have hS49:=hS25.nilrow 3 1
  exact ⟨U22,none,0,rfl,rfl,rfl,rfl,(zJ _),(hS49.pick [1,0] _ (by decide) rfl)⟩
 ·rintro k43 l39 xx53 σ51 W52 hk56 ⟨U58,A40,c41,fi57,f61,f62,f63,le59,hS60⟩ hx54
  have c64:Hid ((↑k43:Int) < 31):=zC (wBU hk56)
  replace hk56:=zC hk56
  have hi65:Hid (w64 ((↑k43:Int) + 1)=(↑(k43 + 1):Int)):=zC (by have h1:=hle46.out;have h2:=c64.out;rw [wAS] <;> omega)
  refine sR fL1 rfl (zZ rfl rfl rfl rfl (fun _=>zP rfl fi57 rfl) (eN (zB (cT Z c64 (kN (zB (zU (sR fL4 rfl (zK rfl rfl rfl rfl rfl fi57 (bnK hx54 fun x66 h67 hm68=>zZ rfl rfl rfl rfl (fun _=>Runs.ixA (cs:=nA KL.encI (p0.l:List Int)) rfl f63 fi57 zo zF (wCL h67) (by have q_:=wCU h67;rw [(p0).h] at q_;exact q_) (wDO zL (wCq (sz:=1) (fun _=>rfl) _ _ 0 _ _ (wAN h67) rfl))) (ZX rfl rfl rfl rfl rfl rfl (ZX rfl rfl rfl rfl rfl rfl (eN (sR fL3 rfl (zK rfl rfl rfl rfl rfl rfl (zK rfl rfl rfl rfl rfl f61 (zZ rfl rfl rfl rfl (fun _=>ZV rfl rfl rfl) (eN (ifc hm68 ?_ ?_)))))))))))))))))))
  ·intro c69 hm70
   refine cT Z c69 (rR (.fl 0 (.fl 1 (.fx 2 (.fx 3 (.fl 4 (.nil)) .stop) .stop))) Z (oM Z f62 (oM Z Z (ZQ (pv:=[(0,jV (↑k43:Int))]) (zs:=[jV 0]) (cs:=[jV (↑k43:Int)]) Z Z Z Z Z (wAs Z wCH) zA zF ZK Z Z Z Z Z hS60 ?_))))
   intro W71 b72 hS73
   let B0:Res:=.row (some ⟨b72,0,none⟩) 1 3 1 (nA KL.encI [(↑k43:Int)])
   have hS75:sW w U U58 [B0,.blk b2 141 (nA KL.encI p0.l),.row A40 c41 3 1 (nA KL.encI l39)] W71:=hS73
   refine bnK hm70 fun x76 h77 hm78=>ZS (j:=2) (enc:=KL.encI) (xs:=l39) (ys:=[(↑k43:Int)]) (zs:=x76) rfl rfl rfl rfl rfl ZT wIb rfl rfl rfl rfl rfl rfl hS75 rfl rfl rfl (hS75.srcR (j:=0) rfl (by decide) (wAI (f:=KL.encI) (sz:=1) (fun _=>rfl) [(↑k43:Int)])) (fun _=>rfl) (fun _=>rfl) h77 rfl ?_
   intro A79 c80 W81 hS82
   have hS83:sW w U U58 [B0,.blk b2 141 (nA KL.encI p0.l),.row A79 c80 3 1 (nA KL.encI x76)] W81:=hS82
   refine oA Z Z (zj (zd (zD (rR fL2 Z (oR Z (zl (zg Z fi57 Z) (congrArg (jV) hi65.out)) (oM Z Z (zj ?_)))))))
   cases hm78
   exact zD ⟨rfl,⟨U58,A79,c80,rfl,f61,rfl,f63,le59,(hS83.pick [1,2] _ (by decide) rfl)⟩⟩
  ·intro c69 hm87
   refine cF Z c69 (zy (zd (zD (rR fL2 Z (oR Z (zl (zg Z fi57 Z) (congrArg (jV) hi65.out)) (oM Z Z (zj ?_)))))))
   cases hm87
   exact zD ⟨Z,⟨U58,A40,c41,Z,f61,f62,f63,le59,hS60⟩⟩
 ·rintro σ91 W92 ⟨U100,A98,c99,fi94,f103,f104,f105,le101,hS102⟩
  have c106:Hid (¬ ((↑((31:Int) - 0).toNat:Int) < 31)):=zC (wAv)
  refine sR fL1 Z (oR Z (zP Z fi94 Z) (eN (zB (cF Z c106 (zx (ze (ze (zq (zD (sR fL4 Z (oM Z f104 (oM Z f103 (oA Z Z (oA Z Z (eN (zO ?_))))))))))))))))
  cases hm44
  exact ⟨rfl,_,(wEf rfl rfl),U100,_,(hS102.pick [1] _ (by decide) rfl),A98,c99,rfl,rfl⟩
theorem wDr (p0:Int) (w:World) (U:PHeap) (hS:St0 w U [])  {r:Bool} (hm:wBt p0=some r):Gv Tryz.prog 128 [jV p0] w (wCd w [] U (fun U_ L_ v=>v=.bool r/\L_=[])):=by
 unfold wBt at hm
 refine Gv.of Tryz.func128 Z Tryz.ntmps128 Tryz.results128 Z (sR fL1 Z (oA Z Z (eN (sR fL4 Z (oM Z Z (oM Z Z (oR Z (zw Z Z Z) (oA Z Z (eN (zO ?_))))))))))
 cases hm
 exact ⟨Z,_,(zm Z),U,_,hS,Z,Z⟩
theorem wFM (p0:Int) (p1:Int) (w:World) (U:PHeap) (hS:St0 w U [])  {r:Int} (hm:wBe p0 p1=some r):Gv Tryz.prog 82 [jV p0,jV p1] w (wCd w [] U (fun U_ L_ v=>v=jV r/\L_=[])):=by
 unfold wBe at hm
 refine Gv.of Tryz.func82 Z Tryz.ntmps82 Tryz.results82 Z (sR fL1 Z (oA Z Z (eN (sR (.fl 0 (.fx 1 (.fl 2 (.nil)) .stop)) Z (oM Z Z (bnK hm fun x1 h2 hm3=>zM 0 Z Z Z Z (zN Z Z Tryz.call128 (zE Z zW) Z) hS (fun hs=>wDr p0 w U hs h2) (.inr Z) ?_))))))
 rintro U4 L5 v6 W7 le8 hS9 ⟨rfl,rfl⟩
 have hS10:sW w U U4 [] W7:=hS9
 refine oA Z Z (eN (sR (.fl 0 (.fx 1 (.fl 2 (.nil)) .stop)) Z (oM Z Z (bnK hm3 fun x11 h12 hm13=>zM 0 Z Z Z Z (zN Z Z Tryz.call128 (zE Z zW) Z) hS10 (fun hs=>wDr p1 W7 U4 hs h12) (.inr Z) ?_))))
 rintro U14 L15 v16 W17 le18 hS19 ⟨rfl,rfl⟩
 have hS20:sW w U U14 [] W17:=hS19
 refine oA Z Z (eN (zB (sR fL1 Z (oM Z Z (eN (ifc hm13 ?_ ?_))))))
 ·intro c21 hm22
  refine zn (congrArg nB c21.out) (zB (sR fL1 Z (oM Z Z (eN (ifc hm22 ?_ ?_)))))
  ·intro c23 hm24
   refine zn (congrArg nB c23.out) (sR fL1 Z (oA Z Z (eN (zO (zH (zH ?_))))))
   cases hm24
   exact ⟨Z,_,(zm Z),U14,_,hS20,Z,Z⟩
  ·intro c23 hm25
   refine zk (congrArg nB (nE.2 c23.out)) (kN (sR fL1 Z (oA Z Z (eN (zO (zH ?_))))))
   cases hm25
   exact ⟨Z,_,(zm Z),U14,_,hS20,Z,Z⟩
 ·intro c21 hm26
  refine zk (congrArg nB (nE.2 c21.out)) (kN (zB (sR fL1 Z (oM Z Z (eN (ifc hm26 ?_ ?_))))))
  ·intro c27 hm28
   refine zn (congrArg nB c27.out) (sR fL1 Z (oA Z Z (eN (zO (zH ?_)))))
   cases hm28
   exact ⟨Z,_,(zm Z),U14,_,hS20,Z,Z⟩
  ·intro c27 hm29
   refine zk (congrArg nB (nE.2 c27.out)) (kN (zB (sR fL3 Z (oM Z Z (oM Z Z (oR Z (zP Z Z Z) (eN (ifc hm29 ?_ ?_))))))))
   ·intro c30 hm31
    refine cT Z c30 (sR fL1 Z (oA Z Z (eN (zO (zH ?_)))))
    cases hm31
    exact ⟨Z,_,(zm Z),U14,_,hS20,Z,Z⟩
   ·intro c30 hm32
    refine cF Z c30 (kN (zB (sR fL3 Z (oM Z Z (oM Z Z (oR Z (ZJ Z Z Z) (eN (ifc hm32 ?_ ?_))))))))
    ·intro c33 hm34
     refine cT Z c33 (sR fL1 Z (oA Z Z (eN (zO (zH ?_)))))
     cases hm34
     exact ⟨Z,_,(zm Z),U14,_,hS20,Z,Z⟩
    ·intro c33 hm35
     refine cF Z c33 (kN (sR fL1 Z (oA Z Z (eN (zO ?_)))))
     cases hm35
     exact ⟨Z,_,(zm Z),U14,_,hS20,Z,Z⟩
end Go.Proofs.YtghaibkggdecnaaGreat
namespace Go.Proofs.YtghaibkggdecnaaGreat
open Go.KL
set_option maxHeartbeats 4000000
theorem wFb (p0:Int) (p1:Int) (p2:List wAA) (pb2:Nat) (pA2:Option Addr) (pc2:Nat) (w:World) (U:PHeap) (hS:St0 w U []) (ha0:Cl U pb2 0 [.slice pA2 p2.length pc2]) (ha1:Sl U 3 pA2 pc2 p2.length (nA wAE p2)) {r:Int} (hm:wAe p0 p1 p2=some r):Gv Tryz.prog 130 [jV p0,jV p1,.pointer (some ⟨pb2,0,none⟩)] w (wCd w [] U (fun U_ L_ v=>v=jV r/\L_=[])):=by
 unfold wAe at hm
 refine Gv.of Tryz.func130 rfl Tryz.ntmps130 Tryz.results130 rfl (sR fL1 rfl (ZX rfl rfl rfl rfl rfl rfl (eN (zB (Zd Za [1,3,3,3,1,1,3,3,3,1,2,3] (wRW (.fx 10 (.fl 11 (.nil)) .stop)) (by kernel_rfl) ?_)))))
 have hS1:=hS.drew
 generalize hw_W2:({ w with drawn:=w.drawn + 1 }:World)=W2 at hS1 ⊢
 refine oL Z (hS1.ldC (f:=0) ha0 (v:=.slice pA2 p2.length pc2) Z Z ZC Z) (oM Z Z (bnK hm fun x3 h4 hm5=>?_))
 have q:=ha1.el (fun _=>rfl) (wAN h4)
 obtain ⟨b6,off7,hA8,hC9⟩:=q
 refine oR Z (ZO Z Z hA8 Z zV zr (wCL h4) (wCU h4)) (oR Z (ZE Z Z ZA Z zF) (oL Z (hS1.ldC (f:=2) hC9 (v:=jV x3.Rank) Z Z zL Z) (oL Z (hS1.ldC (f:=0) ha0 (v:=.slice pA2 p2.length pc2) Z Z ZC Z) (oM Z Z (bnK hm5 fun x10 h11 hm12=>?_)))))
 have q:=ha1.el (fun _=>rfl) (wAN h11)
 obtain ⟨b13,off14,hA15,hC16⟩:=q
 refine oR Z (ZO Z Z hA15 Z zV zr (wCL h11) (wCU h11)) (oR Z (ZE Z Z ZA Z zF) (oL Z (hS1.ldC (f:=2) hC16 (v:=jV x10.Rank) Z Z zL Z) (bnK hm12 fun x17 h18 hm19=>zM 0 Z Z Z Z (zN Z Z Tryz.call82 (zE Z (zE Z zW)) Z) hS1 (fun hs=>wFM x3.Rank x10.Rank W2 U hs h18) (.inr Z) ?_)))
 rintro U20 L21 v22 W23 le24 hS25 ⟨rfl,rfl⟩
 have hS26:sW w U U20 [] W23:=hS25
 refine oA Z Z (eN (zO ?_))
 have hE:=nD hm19;first | subst r | cases hE
 exact ⟨Z,_,(zm Z),U20,_,hS26,Z,Z⟩
theorem wDL (p0:List Int) (pA0:Option Addr) (pc0:Nat) (p1:((Int × Int)->Option Int)) (pv1:Value) (w:World) (U:PHeap) (hS:St ⟨w,[.row pA0 pc0 3 1 (nA KL.encI p0)],U⟩ U [.row pA0 pc0 3 1 (nA KL.encI p0)] w) (ha0:FnOK Tryz.prog U pv1 ar50 rr50 p1) (ha1:∃ g cb,pv1=.func (.func g) #[] cb) {r:List Int} (hm:wBd p0 p1=some r):Gv Tryz.prog 106 [.slice pA0 p0.length pc0,pv1] w (wCd w [.row pA0 pc0 3 1 (nA KL.encI p0)] U (fun U_ L_ v=>v=.tuple #[]/\L_=[.row pA0 pc0 3 1 (nA KL.encI r)]/\r.length=p0.length)) :=
 wLh (enc1:=(fun x=>.int .i64 x)) (fun _=>rfl) (fun _=>rfl) (fun _ _ _=>rfl) (fun _ _ _ _ h=>h.1) (fun enc a cf b g cb k1 k2 k3 d w h1 h2 h3 h4 h5 h6=>Go.Proofs.Tryz.slices_SortFunc_total enc a cf b g cb k1 k2 k3 d w h1 h2 h3 h4 h5 h6) (fun p c v w=>Go.Proofs.Tryz.slices_SortFunc_none_f106 (α:=Int) p c v w) hS ha0 ha1 hm
theorem wEF (p0:List wAA) (pA0:Option Addr) (pc0:Nat) (w:World) (U:PHeap) (hS:St0 w U []) (ha0:Sl U 3 pA0 pc0 p0.length (nA wAE p0)) {r:(List Int)} (hm:wBS p0=some r):Gv Tryz.prog 89 [.slice pA0 p0.length pc0] w (wCd w [] U (fun U_ L_ v=>∃ (A0:Option Addr) (c0:Nat),v=.slice A0 r.length c0/\L_=[.row A0 c0 3 1 (nA KL.encI r)])):=by
 unfold wBS at hm
 refine Gv.of Tryz.func89 rfl Tryz.ntmps89 Tryz.results89 rfl (sR (.fx 0 (.fl 1 (.nil)) .stop) rfl (OKS.box (cs:=[.slice pA0 p0.length pc0]) rfl rfl rfl rfl rfl rfl (by rfl) hS ?_))
 intro W1 b2 hS3
 have q:=hS3.freeze (k:=0) rfl
 obtain ⟨U5,le6,hC7,hS8⟩:=q
 replace hC7:=Cl.of hC7
 have hS9:sW w U U5 [] W1:=hS8
 replace hC7:Cl U5 b2 0 [.slice pA0 p0.length pc0]:=hC7
 refine oA Z Z (eN (sR (.fl 0 (.fl 1 (.fx 2 (.fl 3 (.nil)) .stop))) Z (oL Z (hS9.ldC (f:=0) hC7 (v:=.slice pA0 p0.length pc0) Z Z ZC Z) (oR Z (zQ Z Z zV) (bnK hm fun x10 h11 hm12=>OKS.makeSlice (enc:=KL.encI) (z:=(0:Int)) (v:=jV 0) Z Z Z Z Z (wCl zA) wIb Z Z Z Z Z Z h11 hS9 ?_)))))
 intro W13 b14 hS15
 have hS17:sW w U U5 [.row (some ⟨b14,0,none⟩) x10.length 3 1 (nA KL.encI x10)] W13:=hS15
 refine oA Z Z (eN (zB (sR fL3 Z (oL Z (hS17.ldC (f:=0) hC7 (v:=.slice pA0 p0.length pc0) Z Z ZC Z) (oR Z (zQ Z Z zV) (oM Z Z (eN (zU (bnK hm12 fun y29 hf26 hm25=>?_)))))))))
 have q:=wBH hf26
 obtain ⟨hle27,hf28⟩:=q
 replace hle27:=zC hle27
 refine CK.forN' (fun k24 l23 σ_ w_=>∃ (U_:PHeap),σ_ 10=jV (↑k24:Int)/\σ_ 1=.pointer (some ⟨b2,0,none⟩)/\σ_ 3=.slice (some ⟨b14,0,none⟩) l23.length x10.length/\σ_ 9=jV (↑p0.length:Int)/\PHeap.Le U5 U_/\sW w U U_ [.row (some ⟨b14,0,none⟩) x10.length 3 1 (nA KL.encI l23)] w_/\l23.length=x10.length) hf28 ?_ ?_ ?_
 ·exact ⟨U5,Z,Z,Z,Z,(zJ _),hS17,Z⟩
 ·rintro k24 l23 xx32 σ30 W31 hk35 ⟨U37,fi36,f40,f41,f42,le38,hS39,h43⟩ hx33
  have c44:Hid ((↑k24:Int) < (↑p0.length:Int)):=zC (wBU hk35)
  replace hk35:=zC hk35
  have hi45:Hid (w64 ((↑k24:Int) + 1)=(↑(k24 + 1):Int)):=zC (by have h1:=hle27.out;have h2:=c44.out;rw [wAS] <;> omega)
  refine sR fL1 Z (oR Z (zP Z fi36 f42) (eN (zB (cT Z c44 (kN (zB (zU (sR fL2 Z (oM Z fi36 (oA Z Z (eN (rR (wLM (.fx 4 (.nil) .stop)) Z (oM Z f41 (oM Z Z (oM Z Z (bnK hx33 fun _ h46 hm47=>oR Z (zt Z Z Z Z zA zF (wBv h46)) ?_))))))))))))))))
  have hg48:=wEm (xs:=l23) (wBv h46)
  refine OKS.stR (j:=0) (vs:=[jV (↑k24:Int)]) (cs':=nA KL.encI (List.set l23 k24 (↑k24:Int))) rfl rfl rfl rfl hS39 rfl rfl rfl rfl rfl zF (by rw [wAI (f:=KL.encI) (sz:=1) (fun _=>rfl)];have hz:=wBv h46;show _ + 1 <= _;first | omega | (simp only [Int.toNat_natCast];omega) | (simp only [nO,nL,nM];omega)) rfl (wHQ (sz:=1) (fo:=0) (fun _=>rfl) _ _ _ _ hg48 (by first | omega | (simp only [Int.toNat_natCast];omega) | (simp only [nO,nL,nM];omega)) (zY rfl) rfl) rfl ?_
  intro W49 hS50
  have hS51:sW w U U37 [.row (some ⟨b14,0,none⟩) x10.length 3 1 (nA KL.encI (List.set l23 k24 (↑k24:Int)))] W49:=hS50
  refine zj (zd (zD (rR fL2 Z (oR Z (zl (zg Z fi36 Z) (congrArg (jV) hi45.out)) (oM Z Z (zj ?_))))))
  cases hm47
  exact zD ⟨rfl,⟨U37,rfl,f40,(Eq.trans (b:=(.slice (some ⟨b14,0,none⟩) l23.length x10.length:Value)) (c:=(.slice (some ⟨b14,0,none⟩) ((List.set l23 k24 (↑k24:Int)).length) x10.length:Value)) f41 (by simp only [List.length_set])),f42,le38,hS51,(List.length_set.trans h43)⟩⟩
 ·rintro σ53 W54 ⟨U58,fi56,f61,f62,f63,le59,hS60,h64⟩
  have c65:Hid (¬ ((↑(((↑p0.length:Int):Int) - 0).toNat:Int) < (↑p0.length:Int))):=zC (wAv)
  refine sR fL1 Z (oR Z (zP Z fi56 f63) (eN (zB (cF Z c65 (zx (ze (ze (zq (zD (sR (.fl 0 (.fl 1 (.fx 2 (.nil) .stop))) Z (oM Z f62 (oR Z (Runs.mkf Z zW (zE f61 zW)) ?_))))))))))))
  have h66:=hC7.le le59
  have h67:=ha0.le le6
  have h68:=h67.le le59
  have hF69:FnOK Tryz.prog U58 (.func (.func 130) #[] #[.pointer (some ⟨b2,0,none⟩)]) ar50 rr50 (fun x=>wAe x.1 x.2 p0):=⟨130,[],[.pointer (some ⟨b2,0,none⟩)],rfl,Tryz.call130,fun U1 w1 x y vs le hs ha hm=>by obtain rfl:=ha;exact wFb x.1 x.2 p0 b2 pA0 pc0 w1 U1 hs (h66.le le) (h68.le le) hm⟩
  refine bnK hm25 fun x70 h71 hm72=>zM 1 Z Z Z Z (zN Z Z Tryz.call106 (zE Z (zE Z zW)) Z) hS60 (fun hs=>wDL y29 (some ⟨b14,0,none⟩) x10.length (fun x=>wAe x.1 x.2 p0) (.func (.func 130) #[] #[.pointer (some ⟨b2,0,none⟩)]) W54 U58 hs hF69 ⟨_,_,Z⟩ h71) (.inl Z) ?_
  rintro U73 L74 v75 W76 le77 hS78 ⟨rfl,rfl,h79⟩
  have hS80:sW w U U73 [.row (some ⟨b14,0,none⟩) x10.length 3 1 (nA KL.encI x70)] W76:=hS78
  refine eN (sR fL2 rfl (zK rfl rfl rfl rfl rfl (Eq.trans (b:=(.slice (some ⟨b14,0,none⟩) y29.length x10.length:Value)) (c:=(.slice (some ⟨b14,0,none⟩) x70.length x10.length:Value)) f62 (by rw [h79])) (ZX rfl rfl rfl rfl rfl rfl (eN (zO ?_)))))
  have hE:=nD hm72;first | subst r | cases hE
  exact ⟨Z,_,(zm Z),U73,_,hS80,(some ⟨b14,0,none⟩),x10.length,Z,Z⟩
theorem wDg (p0:Int) (p1:List wAA) (pb1:Nat) (pA1:Option Addr) (pc1:Nat) (p2:Int) (pb2:Nat) (w:World) (U:PHeap) (hS:St0 w U []) (ha0:Cl U pb1 0 [.slice pA1 p1.length pc1]) (ha1:Sl U 3 pA1 pc1 p1.length (nA wAE p1)) (ha2:Cl U pb2 0 [jV p2]) {r:Bool} (hm:wAf p0 p1 p2=some r):Gv Tryz.prog 93 [jV p0,.pointer (some ⟨pb1,0,none⟩),.pointer (some ⟨pb2,0,none⟩)] w (wCd w [] U (fun U_ L_ v=>v=.bool r/\L_=[])):=by
 unfold wAf at hm
 refine Gv.of Tryz.func93 rfl Tryz.ntmps93 Tryz.results93 rfl (sR fL1 rfl (ZX rfl rfl rfl rfl rfl rfl (eN (zB (Zd Za [1,3,3,3,1,1,3,3] fL8 (by kernel_rfl) ?_)))))
 have hS1:=hS.drew
 generalize hw_W2:({ w with drawn:=w.drawn + 1 }:World)=W2 at hS1 ⊢
 refine oL Z (hS1.ldC (f:=0) ha0 (v:=.slice pA1 p1.length pc1) Z Z ZC Z) (oM Z Z (bnK hm fun x3 h4 hm5=>?_))
 have q:=ha1.el (fun _=>rfl) (wAN h4)
 obtain ⟨b6,off7,hA8,hC9⟩:=q
 refine oR Z (ZO Z Z hA8 Z zV zr (wCL h4) (wCU h4)) (oR Z (ZE Z Z ZA Z zF) (oL Z (hS1.ldC (f:=1) hC9 (v:=jV x3.Nation) Z Z zL Z) (oL Z (hS1.ldC (f:=0) ha2 (v:=jV p2) Z Z zL Z) (oR Z (ZV Z Z Z) (oA Z Z (eN (zO ?_)))))))
 cases hm5
 exact ⟨Z,_,(zm Z),U,_,hS1,Z,Z⟩
theorem wBw (p0:List Int) (pA0:Option Addr) (pc0:Nat) (p1:(Int->Option Bool)) (pv1:Value) (w:World) (U:PHeap) (hS:St0 w U []) (ha0:Sl U 1 pA0 pc0 p0.length (nA KL.encI p0)) (ha1:FnOK Tryz.prog U pv1 wIZ wIa p1) {r:Int} (hm:wAR p0 p1=some r):Gv Tryz.prog 92 [.slice pA0 p0.length pc0,pv1] w (wCd w [] U (fun U_ L_ v=>v=jV r/\L_=[])):=by
 unfold wAR at hm
 refine Gv.of Tryz.func92 Z Tryz.ntmps92 Tryz.results92 Z (sR fL1 Z (oA Z Z (eN (zB (sR fL3 Z (oM Z Z (oR Z (zQ Z Z zA) (oM Z Z (eN (zU ?_))))))))))
 have q:=wBy hm
 obtain ⟨r3,hX4⟩:=q
 have q:=wBx hX4
 obtain ⟨hle5,hf6⟩:=q
 replace hle5:=zC hle5
 refine ZU (fun k2 _ σ_ w_=>∃ (U_:PHeap),σ_ 8=jV (↑k2:Int)/\σ_ 0=.slice pA0 p0.length pc0/\σ_ 1=pv1/\σ_ 7=jV (↑p0.length:Int)/\PHeap.Le U U_/\sW w U U_ [] w_) hf6 ?_ ?_ ?_
 ·exact ⟨U,Z,Z,Z,Z,(zJ _),hS⟩
 ·rintro k2 ⟨⟩ xx9 σ7 W8 hk12 ⟨U14,fi13,f17,f18,f19,le15,hS16⟩ hx10 hb11
  try dsimp only at hx10
  have c20:Hid ((↑k2:Int) < (↑p0.length:Int)):=zC (wBU hk12)
  replace hk12:=zC hk12
  have hi21:Hid (w64 ((↑k2:Int) + 1)=(↑(k2 + 1):Int)):=zC (by have h1:=hle5.out;have h2:=c20.out;rw [wAS] <;> omega)
  refine sR fL1 Z (oR Z (zP Z fi13 f19) (eN (zB (cT Z c20 (kN (zB (zU (sR fL2 Z (oM Z fi13 (oA Z Z (eN (sR (wIp (.fx 5 (.nil) .stop)) Z (oM Z f18 (oM Z f17 (oM Z Z (bnK hx10 fun x22 h23 hm24=>?_))))))))))))))))
  have h25:=ha0.le le15
  have q:=h25.el (fun _=>rfl) (wAN h23)
  obtain ⟨b26,off27,hA28,hC29⟩:=q
  refine oR Z (zt Z Z hA28 Z zA zF (wBL h23)) (oL Z (hS16.ldC (f:=0) hC29 (v:=jV x22) Z Z zL Z) (bnK hm24 fun x30 h31 hm32=>?_))
  have h39:=ha1.le le15
  refine OKS.callV (a:=x22) Z Z Z Z Z Z (zE Z zW) hS16 h39 Z h31 ?_
  rintro U33 L34 v35 W36 le37 hS38 ⟨rfl,rfl⟩
  have hS40:sW w U U33 [] W36:=hS38
  refine eN (ifc hm32 ?_ ?_)
  ·intro c41 hm42
   refine zn (congrArg nB c41.out) (sR fL2 Z (oM Z Z (oA Z Z (eN (zO (zh (zH ?_)))))))
   have q:=wBE hm42
   obtain ⟨v43,hm44,e45⟩:=q
   obtain rfl:=wCD hm hX4 (hb11 v43 e45)
   refine zH (zh (zH ?_))
   cases hm44
   exact ⟨Z,_,(zm Z),U33,_,hS40,Z,Z⟩
  ·intro c41 hm46
   refine zk (congrArg nB (nE.2 c41.out)) (zy (zd (zD (rR fL2 Z (oR Z (zl (zg Z fi13 Z) (congrArg (jV) hi21.out)) (oM Z Z (zj ?_)))))))
   obtain rfl:=nD hm46
   exact zD ⟨Z,_,Z,⟨U33,Z,f17,f18,f19,(le15.trans le37),hS40⟩⟩
 ·rintro ⟨⟩ σ47 W48 ⟨U51,fi50,f54,f55,f56,le52,hS53⟩ hb49
  have hm57:=wCk hm hX4 hb49
  try dsimp only at hm57
  have c58:Hid (¬ ((↑(((↑p0.length:Int):Int) - 0).toNat:Int) < (↑p0.length:Int))):=zC (wAv)
  refine sR fL1 Z (oR Z (zP Z fi50 f56) (eN (zB (cF Z c58 (zx (ze (ze (zq (zD (sR fL1 Z (oA Z Z (eN (zO ?_)))))))))))))
  cases hm57
  exact ⟨Z,_,(zm Z),U51,_,hS53,Z,Z⟩
theorem wCR (p0:List Int) (pA0:Option Addr) (pc0:Nat) (p1:Int) (p2:Int) (w:World) (U:PHeap) (hS:St ⟨w,[.row pA0 pc0 3 1 (nA KL.encI p0)],U⟩ U [.row pA0 pc0 3 1 (nA KL.encI p0)] w) {r:List Int} (hm:wAz p0 p1 p2=some r):Gv Tryz.prog 94 [.slice pA0 p0.length pc0,.int .i64 p1,.int .i64 p2] w (wCd w [.row pA0 pc0 3 1 (nA KL.encI p0)] U (fun U_ L_ v=>∃ (A0:Option Addr) (c0:Nat),v=.slice A0 r.length c0/\L_=[.row A0 c0 3 1 (nA KL.encI r)])) :=
 wKn (z:=.int .i64 0) (fun _=>rfl) (by omega) (fun _=>rfl) rfl (fun b c n i j cs w h1 h2 h3 h4 h5 h6 h7 h8=>Go.Proofs.delCalls94 b c n i j cs w h1 h2 h3 h4 h5 h6 h7 h8) hS hm
theorem wGn (p0:List wAA) (pA0:Option Addr) (pc0:Nat) (w:World) (U:PHeap) (hS:St0 w U []) (ha0:Sl U 3 pA0 pc0 p0.length (nA wAE p0)) {r:(List Int) × Int × Int} (hm:wBp p0=some r):Gv Tryz.prog 31 [.slice pA0 p0.length pc0] w (wCd w [] U (fun U_ L_ v=>∃ (A0:Option Addr) (c0:Nat),v=.tuple #[.slice A0 r.1.length c0,jV r.2.1,jV r.2.2]/\L_=[.row A0 c0 3 1 (nA KL.encI r.1)])):=by
 unfold wBp at hm
 refine Gv.of Tryz.func31 rfl Tryz.ntmps31 Tryz.results31 rfl (sR (.fx 0 (fC1_3 (.nil)) .stop) rfl (OKS.box (cs:=[.slice pA0 p0.length pc0]) rfl rfl rfl rfl rfl rfl (by rfl) hS ?_))
 intro W1 b2 hS3
 have q:=hS3.freeze (k:=0) rfl
 obtain ⟨U5,le6,hC7,hS8⟩:=q
 replace hC7:=Cl.of hC7
 have hS9:sW w U U5 [] W1:=hS8
 replace hC7:Cl U5 b2 0 [.slice pA0 p0.length pc0]:=hC7
 refine oA Z Z (oA Z Z (oA Z Z (eN (zB (sR (.fl 0 (.fx 1 (.fl 2 (.nil)) .stop)) Z (oL Z (hS9.ldC (f:=0) hC7 (v:=.slice pA0 p0.length pc0) Z Z ZC Z) ?_))))))
 have h10:=ha0.le le6
 refine bnK hm fun x11 h12 hm13=>zM 0 Z Z Z Z (zN Z Z Tryz.call41 (zE Z zW) Z) hS9 (fun hs=>wCo p0 pA0 pc0 W1 U5 hs h10 h12) (.inr Z) ?_
 rintro U14 L15 v16 W17 le18 hS19 ⟨rfl,rfl⟩
 have hS20:sW w U U14 [] W17:=hS19
 refine oA Z Z (eN (sR fL2 Z (oM Z Z (oR Z (zw Z Z Z) (eN (ifc hm13 ?_ ?_))))))
 ·intro c21 hm22
  refine zk (zi (fun h=>h c21.out)) (kN (sR (.fl 0 (.fx 1 (.fx 2 (.fx 3 (.nil) .stop) .stop) .stop)) Z ?_))
  have h23:=hC7.le le18
  refine oL Z (hS20.ldC (f:=0) h23 (v:=.slice pA0 p0.length pc0) Z Z ZC Z) ?_
  have h24:=h10.le le18
  refine bnK hm22 fun x25 h26 hm27=>zM 0 Z Z Z Z (zN Z Z Tryz.call90 (zE Z zW) Z) hS20 (fun hs=>wCx p0 pA0 pc0 W17 U14 hs h24 h26) (.inr Z) ?_
  rintro U28 L29 v30 W31 le32 hS33 ⟨rfl,rfl⟩
  have hS34:sW w U U28 [] W31:=hS33
  refine ZI (cs:=nA KL.encI (Arr.fill 31 0).l) Z Z Z Z Z Tryz.zeroValue141 Z hS34 ?_
  intro W35 b36 hS37
  have hS39:sW w U U28 [.blk b36 141 (nA KL.encI (Arr.fill 31 0).l)] W35:=hS37
  refine ZH (j:=0) (vs:=nA KL.encI x25.l) rfl rfl rfl rfl hS39 rfl rfl rfl rfl (fun w=>by rw [wAh (f:=KL.encI) (sz:=1) (N:=31) x25 (fun _=>rfl) rfl];exact ZR w) (by rw [wAh (f:=KL.encI) (sz:=1) (N:=31) x25 (fun _=>rfl) rfl,wAh (f:=KL.encI) (sz:=1) (N:=31) (Arr.fill 31 0) (fun _=>rfl) rfl];exact zY rfl) (wDk (fun _=>rfl) _) (wHR _ _ (by rw [wAh (f:=KL.encI) (sz:=1) (N:=31) x25 (fun _=>rfl) rfl,wAh (f:=KL.encI) (sz:=1) (N:=31) (Arr.fill 31 0) (fun _=>rfl) rfl])) rfl ?_
  intro W40 hS41
  have hS42:sW w U U28 [.blk b36 141 (nA KL.encI x25.l)] W40:=hS41
  refine eN (sR (.fl 0 (.fx 1 (wQE (.nil)) .stop)) Z (oL Z (hS42.ldBA (j:=0) Z Z Z Tryz.isAgg141 ZR (vs:=nA KL.encI x25.l) (wKj x25 (fun _=>Z) Z) (wAh x25 (fun _=>Z) Z)) ?_))
  have q:=bnd hm27
  obtain ⟨⟨x43,x44⟩,h45,hm46⟩:=q
  try dsimp only at hm46
  refine zM 0 Z Z Z Z (zN Z Z Tryz.call91 (zE Z zW) Z) hS42 (fun hs=>wCQ x25 W40 U28 hs h45) (.inr Z) ?_
  rintro U47 L48 v49 W50 le51 hS52 ⟨A53,c54,rfl,rfl⟩
  let B0:Res:=.row A53 c54 3 1 (nA KL.encI x43)
  have hS56:sW w U U47 [B0,.blk b36 141 (nA KL.encI x25.l)] W50:=hS52
  refine oM Z Z (oR Z (zu Z Z (v:=.slice A53 x43.length c54) Z) (oR Z (zu Z Z (v:=jV x44) Z) (oA Z Z (oA Z Z (eN (sR fL3 Z ?_))))))
  have h57:=h23.le le32
  have h58:=h57.le le51
  refine oL Z (hS56.ldC (f:=0) h58 (v:=.slice pA0 p0.length pc0) Z Z ZC Z) (oR Z (zQ Z Z zV) (oA Z Z (eN (zB (sR fL2 Z (oM Z Z (oR Z (ZJ Z Z Z) (eN (ifc hm46 ?_ ?_)))))))))
  ·intro c59 hm60
   refine cT Z c59 (rR fL9 Z (oL Z (hS56.ldC (f:=0) h58 (v:=.slice pA0 p0.length pc0) Z Z ZC Z) (oR Z (zQ Z Z zV) (oM Z Z (oR Z (zQ Z Z zA) (oR Z (ZB Z Z Z) (oM Z Z (oR Z (ZB Z Z Z) (bnK hm60 fun x61 h62 hm63=>oR Z (Runs.quo Z Z Z h62) (oA Z Z (eN (sR (.fl 0 (.fx 1 (.fl 2 (.nil)) .stop)) Z (oL Z (hS56.ldC (f:=0) h58 (v:=.slice pA0 p0.length pc0) Z Z ZC Z) ?_)))))))))))))
   have h64:=h24.le le32
   have h65:=h64.le le51
   refine bnK hm63 fun x66 h67 hm68=>zM 0 Z Z Z Z (zN Z Z Tryz.call89 (zE Z zW) Z) hS56 (fun hs=>wEF p0 pA0 pc0 W50 U47 hs h65 h67) (.inr Z) ?_
   rintro U69 L70 v71 W72 le73 hS74 ⟨A75,c76,rfl,rfl⟩
   have hS78:sW w U U69 [.row A75 c76 3 1 (nA KL.encI x66),B0,.blk b36 141 (nA KL.encI x25.l)] W72:=hS74
   refine oA Z Z (eN (sR (.fx 0 (.fl 1 (.nil)) .stop) Z (OKS.makeMap Z Z Z Z Z hS78 ?_)))
   intro W79 b80 hS81
   have hr82:=MpR.nil wEx wFK
   refine oA Z Z (eN (sR fL1 Z (oA Z Z (eN (zB (sR fL3 Z ?_))))))
   have h84:=h58.le le73
   refine oL Z (hS81.ldC (f:=0) h84 (v:=.slice pA0 p0.length pc0) Z Z ZC Z) (oR Z (zQ Z Z zV) (oM Z Z (eN (zU ?_))))
   have q:=bnd hm68
   obtain ⟨⟨y135,y136,y137,y138⟩,hf132,hm131⟩:=q
   try dsimp only at hm131
   have q:=wBH hf132
   obtain ⟨hle133,hf134⟩:=q
   replace hle133:=zC hle133
   refine CK.forN' (fun k130 (l119,a122,l123,l126) σ_ w_=>∃ (U_:PHeap) (es120:Array MapEntry) (ck121:Nat) (A124:Option Addr) (c125:Nat) (A127:Option Addr) (c128:Nat),σ_ 49=jV (↑k130:Int)/\σ_ 1=.pointer (some ⟨b2,0,none⟩)/\σ_ 6=.pointer (some ⟨b36,0,none⟩)/\σ_ 9=jV x61/\σ_ 10=.slice A124 l123.length c125/\σ_ 11=.map (some b80)/\σ_ 12=.slice A127 l126.length c128/\σ_ 48=jV (↑p0.length:Int)/\PHeap.Le U69 U_/\sW w U U_ [.obj b80 (.map es120 ck121),.blk b36 141 (nA KL.encI a122.l),.row A124 c125 3 1 (nA KL.encI l123),.row A127 c128 3 1 (nA KL.encI l126)] w_/\MpR es120 wEx wFK l119) hf134 ?_ ?_ ?_
   ·have hS139:=hS81.nilrow 3 1
    exact ⟨U69,#[],0,A75,c76,none,0,rfl,rfl,rfl,rfl,rfl,rfl,rfl,rfl,(zJ _),(hS139.pick [1,4,2,0] _ (by decide) rfl),hr82⟩
   ·rintro k130 ⟨l119,a122,l123,l126⟩ xx143 σ141 W142 hk146 ⟨U148,es120,ck121,A124,c125,A127,c128,fi147,f151,f152,f153,f154,f155,f156,f157,le149,hS150,h158⟩ hx144
    try dsimp only at hx144
    have c159:Hid ((↑k130:Int) < (↑p0.length:Int)):=zC (wBU hk146)
    replace hk146:=zC hk146
    have hi160:Hid (w64 ((↑k130:Int) + 1)=(↑(k130 + 1):Int)):=zC (by have h1:=hle133.out;have h2:=c159.out;rw [wAS] <;> omega)
    refine sR fL1 Z (oR Z (zP Z fi147 f157) (eN (zB (cT Z c159 (kN (zB (zU (sR fL2 Z (oM Z fi147 (oA Z Z (eN (sR (.fx 0 (.fx 1 (.nil) .stop) .stop) Z (ZI (cs:=[jV 0]) Z Z Z Z Z ZK Z hS150 ?_)))))))))))))
    intro W161 b162 hS163
    refine ZH (j:=0) (vs:=[jV (-1)]) Z Z Z Z hS163 Z Z Z Z zF (zY Z) Z Z Z ?_
    intro W165 hS166
    let B1:Res:=.row A124 c125 3 1 (nA KL.encI l123)
    let B2:Res:=.row A127 c128 3 1 (nA KL.encI l126)
    have hS167:sW w U U148 [.blk b162 3 [jV (-1)],.obj b80 (.map es120 ck121),.blk b36 141 (nA KL.encI a122.l),B1,B2] W165:=hS166
    refine eN (zB (sR fL2 Z (oL Z (hS167.ldBA (j:=2) Z Z f152 Tryz.isAgg141 ZR (vs:=nA KL.encI a122.l) (wKj a122 (fun _=>Z) Z) (wAh a122 (fun _=>Z) Z)) (oM Z Z (eN (zU (bnK hx144 fun y179 hf176 hm175=>?_)))))))
    have q:=wBH hf176
    obtain ⟨hle177,hf178⟩:=q
    replace hle177:=zC hle177
    refine CK.forN' (fun k174 x173 σ_ w_=>∃ (U_:PHeap),σ_ 53=jV (↑k174:Int)/\σ_ 1=.pointer (some ⟨b2,0,none⟩)/\σ_ 6=.pointer (some ⟨b36,0,none⟩)/\σ_ 9=jV x61/\σ_ 10=.slice A124 l123.length c125/\σ_ 11=.map (some b80)/\σ_ 12=.slice A127 l126.length c128/\σ_ 13=jV (↑k130:Int)/\σ_ 14=.pointer (some ⟨b162,0,none⟩)/\σ_ 48=jV (↑p0.length:Int)/\σ_ 49=jV (↑k130:Int)/\σ_ 52=.agg (nA KL.encI a122.l).toArray/\PHeap.Le U148 U_/\sW w U U_ [.blk b162 3 [jV x173],.obj b80 (.map es120 ck121),.blk b36 141 (nA KL.encI a122.l),B1,B2] w_) hf178 ?_ ?_ ?_
    ·exact ⟨U148,Z,f151,f152,f153,f154,f155,f156,Z,Z,f157,fi147,Z,(zJ _),hS167⟩
    ·rintro k174 x173 xx182 σ180 W181 hk185 ⟨U187,fi186,f190,f191,f192,f193,f194,f195,f196,f197,f198,f199,f200,le188,hS189⟩ hx183
     have c201:Hid ((↑k174:Int) < 31):=zC (wBU hk185)
     replace hk185:=zC hk185
     have hi202:Hid (w64 ((↑k174:Int) + 1)=(↑(k174 + 1):Int)):=zC (by have h1:=hle177.out;have h2:=c201.out;rw [wAS] <;> omega)
     refine sR fL1 Z (oR Z (zP Z fi186 Z) (eN (zB (cT Z c201 (kN (bnK hx183 fun x203 hx205 hm206=>CK.cut (fun σ_ w_=>∃ (U_:PHeap),σ_ 1=.pointer (some ⟨b2,0,none⟩)/\σ_ 6=.pointer (some ⟨b36,0,none⟩)/\σ_ 9=jV x61/\σ_ 10=.slice A124 l123.length c125/\σ_ 11=.map (some b80)/\σ_ 12=.slice A127 l126.length c128/\σ_ 13=jV (↑k130:Int)/\σ_ 14=.pointer (some ⟨b162,0,none⟩)/\σ_ 48=jV (↑p0.length:Int)/\σ_ 49=jV (↑k130:Int)/\σ_ 52=.agg (nA KL.encI a122.l).toArray/\σ_ 53=jV (↑k174:Int)/\PHeap.Le U187 U_/\sW w U U_ [.blk b162 3 [jV x203],.obj b80 (.map es120 ck121),.blk b36 141 (nA KL.encI a122.l),B1,B2] w_) ?_ ?_))))))
     ·refine zU (sR fL4 rfl (zK rfl rfl rfl rfl rfl fi186 (bnK hx205 fun x207 h208 hm209=>zZ rfl rfl rfl rfl (fun _=>Runs.ixA (cs:=nA KL.encI (a122.l:List Int)) rfl f200 fi186 zo zF (wCL h208) (by have q_:=wCU h208;rw [(a122).h] at q_;exact q_) (wDO zL (wCq (sz:=1) (fun _=>rfl) _ _ 0 _ _ (wAN h208) rfl))) (ZX rfl rfl rfl rfl rfl rfl (ZX rfl rfl rfl rfl rfl rfl (eN (sR fL8 rfl (zK rfl rfl rfl rfl rfl f194 (zK rfl rfl rfl rfl rfl rfl (ZG rfl rfl rfl rfl (hS189.lookup2 (j:=1) (mk:=wEx) (mv:=wFK) (a:=(↑k174:Int)) (z:=0) rfl rfl rfl rfl (wCl ZL) wEZ ZK h158) rfl (zK rfl rfl rfl rfl rfl rfl (zZ rfl rfl rfl rfl (fun _=>zu rfl rfl (v:=jV (wCK l119 (↑k174:Int) 0)) rfl) (zZ rfl rfl rfl rfl (fun _=>zu rfl rfl (v:=.bool (wFu l119 (↑k174:Int))) rfl) (ZX rfl rfl rfl rfl rfl rfl (ZX rfl rfl rfl rfl rfl rfl (eN (sR fL24 rfl (zK rfl rfl rfl rfl rfl rfl (zZ rfl rfl rfl rfl (fun _=>ZJ rfl rfl rfl) (zK rfl rfl rfl rfl rfl rfl (ifc hm209 ?_ ?_)))))))))))))))))))))
      ·intro c210 hm211
       refine zK Z Z Z (wT Z c210) Z Z (rU Z (wT Z c210) (ZW Z Z) (zK Z Z Z (wT Z c210) Z Z (ifc hm211 ?_ ?_)))
       ·intro c212 hm213
        refine zK Z Z Z (zI Z Z (nC c212.out)) Z f196 (zK Z Z Z (zI Z Z (nC c212.out)) Z Z (zZ Z Z Z (zI Z Z (nC c212.out)) (fun _=>ZB Z Z Z) (zK Z Z Z (zI Z Z (nC c212.out)) Z f192 (zZ Z Z Z (zI Z Z (nC c212.out)) (fun _=>Runs.geq Z Z Z) (rU Z (wT Z c210) (zX Z (nC c212.out) Z) (oR Z (zS Z (ZD c210.out) Z) (oM Z Z (ifc hm213 ?_ ?_))))))))
        ·intro c214 hm215
         refine ZG Z Z Z (wT Z c214) (hS189.ldB (j:=0) Z Z f197 zL (v:=jV x173) Z) Z (rU Z (wT Z c214) (zP Z Z Z) (zK Z Z Z (wT Z c214) Z Z (ifc hm215 ?_ ?_)))
         ·intro c216 hm217
          refine oT Z c216 (oT Z c216 (oT Z c216 (oT Z c216 (oT Z c216 (rU Z (wT Z c214) (zS Z (ZD c216.out) Z) (oR Z (zS Z (ZD c214.out) Z) (eN (zn Z (rR (.fl 0 (.fx 1 (.nil) .stop)) Z (oM Z Z (ZH (j:=0) (vs:=[jV (↑k174:Int)]) Z Z Z Z hS189 Z f197 Z Z zF (zY Z) Z Z Z ?_)))))))))))
          intro W218 hS219
          have hS220:sW w U U187 [.blk b162 3 [jV (↑k174:Int)],.obj b80 (.map es120 ck121),.blk b36 141 (nA KL.encI a122.l),B1,B2] W218:=hS219
          refine zj (zd ?_)
          cases hm217
          exact zD ⟨Z,⟨U187,f190,f191,f192,f193,f194,f195,f196,f197,f198,f199,f200,fi186,(zJ _),hS220⟩⟩
         ·intro c216 hm222
          refine zK Z Z Z (wF Z c216) Z Z (ZG Z Z Z (wF Z c216) (hS189.ldB (j:=0) Z Z f197 zL (v:=jV x173) Z) Z (bnK hm222 fun _ h223 hm224=>rU Z (wF Z c216) (Zc Z f191 Z zo zF (wCr h223) (wCs h223)) ?_))
          have hg225:=Arr.at_ a122 (k:=x173.toNat) (by have hz0:=wBv h223;omega)
          refine ZG rfl rfl rfl (zI rfl rfl (zi c216.out)) (hS189.ldB (j:=2) rfl rfl rfl zL (wBG (sz:=1) (fun _=>rfl) _ _ 0 _ hg225 (by first | omega | rfl | simp) rfl)) rfl (zZ rfl rfl rfl (zI rfl rfl (zi c216.out)) (fun _=>ZJ rfl rfl rfl) (zZ rfl rfl rfl (zI rfl rfl (ZD c214.out)) (fun _=>zX rfl (zi c216.out) rfl) (zZ rfl rfl rfl rfl (fun _=>zS rfl (ZD c214.out) rfl) (eN (ifc hm224 ?_ ?_)))))
          ·intro c226 hm227
           refine cT Z c226 (rR (.fl 0 (.fx 1 (.nil) .stop)) Z (oM Z Z (ZH (j:=0) (vs:=[jV (↑k174:Int)]) Z Z Z Z hS189 Z f197 Z Z zF (zY Z) Z Z Z ?_)))
           intro W228 hS229
           have hS230:sW w U U187 [.blk b162 3 [jV (↑k174:Int)],.obj b80 (.map es120 ck121),.blk b36 141 (nA KL.encI a122.l),B1,B2] W228:=hS229
           refine zj (zd ?_)
           cases hm227
           exact zD ⟨Z,⟨U187,f190,f191,f192,f193,f194,f195,f196,f197,f198,f199,f200,fi186,(zJ _),hS230⟩⟩
          ·intro c226 hm232
           refine cF Z c226 (zy (zd ?_))
           cases hm232
           exact zD ⟨Z,⟨U187,f190,f191,f192,f193,f194,f195,f196,f197,f198,f199,f200,fi186,(zJ _),hS189⟩⟩
        ·intro c214 hm234
         refine oF Z c214 (oF Z c214 (oF Z c214 (zG Z Z Z (wAC Z Z Z) (zG Z Z Z (wAC Z Z Z) (zG Z Z Z (wAC Z Z Z) (zG Z Z Z (wAC Z Z Z) (zG Z Z Z (wAC Z Z Z) (oF Z c214 (oR Z (zX Z (zi c214.out) Z) (eN (zk Z (zy (zd ?_)))))))))))))
         cases hm234
         exact zD ⟨Z,⟨U187,f190,f191,f192,f193,f194,f195,f196,f197,f198,f199,f200,fi186,(zJ _),hS189⟩⟩
       ·intro c212 hm236
        refine zG Z Z Z (zf Z Z (nF (c212.out)) Z) (zG Z Z Z (zf Z Z (nF (c212.out)) Z) (zG Z Z Z (zf Z Z (nF (c212.out)) Z) (zG Z Z Z (zf Z Z (nF (c212.out)) Z) (zG Z Z Z (zf Z Z (nF (c212.out)) Z) (rU Z (wT Z c210) (zS Z (nF (c212.out)) Z) (oR Z (zS Z (ZD c210.out) Z) (oM Z Z (ZG Z Z Z (zI Z Z Z) (hS189.ldB (j:=0) Z Z f197 zL (v:=jV x173) Z) Z (zZ Z Z Z (zI Z Z Z) (fun _=>zP Z Z Z) (zK Z Z Z (zI Z Z Z) Z Z (ifc hm236 ?_ ?_)))))))))))
        ·intro c237 hm238
         refine oT Z c237 (oT Z c237 (oT Z c237 (oT Z c237 (oT Z c237 (zZ Z Z Z (zI Z Z Z) (fun _=>zS Z (ZD c237.out) Z) (oR Z (zS Z Z Z) (eN (zn Z (rR (.fl 0 (.fx 1 (.nil) .stop)) Z (oM Z Z (ZH (j:=0) (vs:=[jV (↑k174:Int)]) Z Z Z Z hS189 Z f197 Z Z zF (zY Z) Z Z Z ?_)))))))))))
         intro W239 hS240
         have hS241:sW w U U187 [.blk b162 3 [jV (↑k174:Int)],.obj b80 (.map es120 ck121),.blk b36 141 (nA KL.encI a122.l),B1,B2] W239:=hS240
         refine zj (zd ?_)
         cases hm238
         exact zD ⟨Z,⟨U187,f190,f191,f192,f193,f194,f195,f196,f197,f198,f199,f200,fi186,(zJ _),hS241⟩⟩
        ·intro c237 hm243
         refine zK Z Z Z (wF Z c237) Z Z (ZG Z Z Z (wF Z c237) (hS189.ldB (j:=0) Z Z f197 zL (v:=jV x173) Z) Z (bnK hm243 fun _ h244 hm245=>rU Z (wF Z c237) (Zc Z f191 Z zo zF (wCr h244) (wCs h244)) ?_))
         have hg246:=Arr.at_ a122 (k:=x173.toNat) (by have hz0:=wBv h244;omega)
         refine ZG rfl rfl rfl (zI rfl rfl (zi c237.out)) (hS189.ldB (j:=2) rfl rfl rfl zL (wBG (sz:=1) (fun _=>rfl) _ _ 0 _ hg246 (by first | omega | rfl | simp) rfl)) rfl (zZ rfl rfl rfl (zI rfl rfl (zi c237.out)) (fun _=>ZJ rfl rfl rfl) (zZ rfl rfl rfl (zI rfl rfl rfl) (fun _=>zX rfl (zi c237.out) rfl) (zZ rfl rfl rfl rfl (fun _=>zS rfl rfl rfl) (eN (ifc hm245 ?_ ?_)))))
         ·intro c247 hm248
          refine cT Z c247 (rR (.fl 0 (.fx 1 (.nil) .stop)) Z (oM Z Z (ZH (j:=0) (vs:=[jV (↑k174:Int)]) Z Z Z Z hS189 Z f197 Z Z zF (zY Z) Z Z Z ?_)))
          intro W249 hS250
          have hS251:sW w U U187 [.blk b162 3 [jV (↑k174:Int)],.obj b80 (.map es120 ck121),.blk b36 141 (nA KL.encI a122.l),B1,B2] W249:=hS250
          refine zj (zd ?_)
          cases hm248
          exact zD ⟨Z,⟨U187,f190,f191,f192,f193,f194,f195,f196,f197,f198,f199,f200,fi186,(zJ _),hS251⟩⟩
         ·intro c247 hm253
          refine cF Z c247 (zy (zd ?_))
          cases hm253
          exact zD ⟨Z,⟨U187,f190,f191,f192,f193,f194,f195,f196,f197,f198,f199,f200,fi186,(zJ _),hS189⟩⟩
      ·intro c210 hm255
       refine oF Z c210 (oF Z c210 (oF Z c210 (zG Z Z Z (wAC Z Z Z) (zG Z Z Z (wAC Z Z Z) (zG Z Z Z (wAC Z Z Z) (zG Z Z Z (wAC Z Z Z) (zG Z Z Z (wAC Z Z Z) (oF Z c210 (oR Z (zX Z (zi c210.out) Z) (oM Z Z (oN Z (oN Z (oN Z (zG Z Z Z (wAC Z Z Z) (zG Z Z Z (wAC Z Z Z) (zG Z Z Z (wAC Z Z Z) (zG Z Z Z (wAC Z Z Z) (zG Z Z Z (wAC Z Z Z) (oN Z (oR Z (zX Z Z Z) (eN (zk Z (zy (zd ?_))))))))))))))))))))))))
       cases hm255
       exact zD ⟨Z,⟨U187,f190,f191,f192,f193,f194,f195,f196,f197,f198,f199,f200,fi186,(zJ _),hS189⟩⟩
     ·rintro σ257 W258 ⟨U259,f262,f263,f264,f265,f266,f267,f268,f269,f270,f271,f272,f273,le260,hS261⟩
      refine rR fL2 Z (oR Z (zl (zg Z f273 Z) (congrArg (jV) hi202.out)) (oM Z Z (zj ?_)))
      cases hm206
      exact zD ⟨Z,⟨U259,Z,f262,f263,f264,f265,f266,f267,f268,f269,f270,f271,f272,(le188.trans le260),hS261⟩⟩
    ·rintro σ275 W276 ⟨U280,fi278,f283,f284,f285,f286,f287,f288,f289,f290,f291,f292,f293,le281,hS282⟩
     have c294:Hid (¬ ((↑((31:Int) - 0).toNat:Int) < 31)):=zC (wAv)
     refine sR fL1 Z (oR Z (zP Z fi278 Z) (eN (zB (cF Z c294 (zx (ze (ze (zq (zD (sR (.fl 0 (.fl 1 (.fx 2 (.fl 3 (.nil)) .stop))) Z (oM Z f286 ?_)))))))))))
     have q:=hS282.freeze (k:=0) rfl
     obtain ⟨U295,le296,hC297,hS298⟩:=q
     replace hC297:=Cl.of hC297
     have hS299:sW w U U295 [.obj b80 (.map es120 ck121),.blk b36 141 (nA KL.encI a122.l),B1,B2] W276:=hS298
     replace hC297:Cl U295 b162 0 [jV y179]:=hC297
     refine oR Z (Runs.mkf Z zW (zE f283 (zE f290 zW))) ?_
     have q:=hS299.freezeT (k:=2) (n:=l123.length) rfl (wAI (f:=KL.encI) (sz:=1) (fun _=>rfl) l123) (by decide)
     obtain ⟨U301,le302,hs303,hS304,th300⟩:=q
     have hS305:sW w U U301 [.obj b80 (.map es120 ck121),.blk b36 141 (nA KL.encI a122.l),B2] W276:=hS304
     have h306:=h84.le le149
     have h307:=h306.le le281
     have h308:=h307.le le296
     have h309:=h308.le le302
     have h310:=h65.le le73
     have h311:=h310.le le149
     have h312:=h311.le le281
     have h313:=h312.le le296
     have h314:=h313.le le302
     have h315:=hC297.le le302
     have hF316:FnOK Tryz.prog U301 (.func (.func 93) #[] #[.pointer (some ⟨b2,0,none⟩),.pointer (some ⟨b162,0,none⟩)]) wIZ wIa (fun x=>wAf x p0 y179):=⟨93,[],[.pointer (some ⟨b2,0,none⟩),.pointer (some ⟨b162,0,none⟩)],rfl,Tryz.call93,fun U1 w1 x y vs le hs ha hm=>by obtain rfl:=ha;exact wDg x p0 b2 pA0 pc0 y179 b162 w1 U1 hs (h309.le le) (h314.le le) (h315.le le) hm⟩
     refine bnK hm175 fun x317 h318 hm319=>zM 0 Z Z Z Z (zN Z Z Tryz.call92 (zE Z (zE Z zW)) Z) hS305 (fun hs=>wBw l123 A124 c125 (fun x=>wAf x p0 y179) (.func (.func 93) #[] #[.pointer (some ⟨b2,0,none⟩),.pointer (some ⟨b162,0,none⟩)]) W276 U301 hs hs303 hF316 h318) (.inr Z) ?_
     rintro U320 L321 v322 W323 le324 hS325 ⟨rfl,rfl⟩
     have hS326:sW w U U320 [.obj b80 (.map es120 ck121),.blk b36 141 (nA KL.encI a122.l),B2] W323:=hS325
     have q:=th300 _ _ _ le324 hS326
     obtain ⟨U327,le328,hS329⟩:=q
     have hS330:sW w U U327 [B1,.obj b80 (.map es120 ck121),.blk b36 141 (nA KL.encI a122.l),B2] W323:=hS329
     refine oA Z Z (eN (sR (wIp (.fx 5 (.fx 6 (.fl 7 (.nil)) .stop) .stop)) Z (oM Z f288 (oM Z f286 (oM Z Z (bnK hm319 fun _ h331 hm332=>?_))))))
     obtain ⟨b333,hA334⟩:=hS330.rowSome (j:=0) rfl (by rw [wAI (f:=KL.encI) (sz:=1) (fun _=>rfl) l123];have hz:=wBv h331;omega)
     refine oR Z (ZO Z Z hA334 Z zA zF (wCr h331) (wCs h331)) ?_
     have hg335:=wEm (xs:=l123) (wBv h331)
     refine ZG rfl rfl rfl rfl (hS330.ldR (j:=0) rfl hA334 rfl rfl zL (wBG (sz:=1) (fun _=>rfl) _ _ 0 _ hg335 (by first | omega | rfl | simp) rfl)) rfl (ZQ (pv:=[(0,jV (gd l123 x317.toNat))]) (zs:=[jV 0]) (cs:=[jV (gd l123 x317.toNat)]) rfl rfl rfl rfl rfl (wAs rfl wCH) zA zF ZK rfl rfl rfl rfl rfl hS330 ?_)
     intro W336 b337 hS338
     let B3:Res:=.row (some ⟨b337,0,none⟩) 1 3 1 (nA KL.encI [(gd l123 x317.toNat)])
     have hS340:sW w U U327 [B3,B1,.obj b80 (.map es120 ck121),.blk b36 141 (nA KL.encI a122.l),B2] W336:=hS338
     refine bnK hm332 fun x341 h342 hm343=>ZS (j:=4) (enc:=KL.encI) (xs:=l126) (ys:=[(gd l123 x317.toNat)]) (zs:=x341) rfl rfl rfl rfl rfl ZT wIb rfl rfl rfl rfl rfl rfl hS340 rfl rfl rfl (hS340.srcR (j:=0) rfl (by decide) (wAI (f:=KL.encI) (sz:=1) (fun _=>rfl) [(gd l123 x317.toNat)])) (fun _=>rfl) (fun _=>rfl) h342 rfl ?_
     intro A344 c345 W346 hS347
     let B4:Res:=.row A344 c345 3 1 (nA KL.encI x341)
     have hS348:sW w U U327 [B3,B1,.obj b80 (.map es120 ck121),.blk b36 141 (nA KL.encI a122.l),B4] W346:=hS347
     refine oA Z Z (eN (sR (wLM (.fx 4 (.fl 5 (.nil)) .stop)) Z (oM Z f286 (oM Z Z (oM Z Z (oR Z (zg Z Z Z) (bnK hm343 fun x349 h350 hm351=>?_)))))))
     have hS352:sW w U U327 [B1,B3,.obj b80 (.map es120 ck121),.blk b36 141 (nA KL.encI a122.l),B4] W346:=hS348.pick [1,0,2,3,4] _ (by decide) rfl
     refine zM 1 Z Z Z Z (zN Z Z Tryz.call94 (zE Z (zE Z (zE Z zW))) Z) hS352 (fun hs=>wCR l123 A124 c125 x317 (w64 (x317 + 1)) W346 U327 hs h350) (.inl Z) ?_
     rintro U353 L354 v355 W356 le357 hS358 ⟨A359,c360,rfl,rfl⟩
     let B5:Res:=.row A359 c360 3 1 (nA KL.encI x349)
     have hS362:sW w U U353 [B5,B3,.obj b80 (.map es120 ck121),.blk b36 141 (nA KL.encI a122.l),B4] W356:=hS358
     refine oA Z Z (eN (sR (wIp (.fx 5 (.nil) .stop)) Z ?_))
     have h363:=hC297.le le328
     have h364:=h363.le le357
     refine oL Z (hS362.ldC (f:=0) h364 (v:=jV y179) Z f290 zL Z) (bnK hm351 fun _ h365 hm366=>oR Z (Zc Z f284 Z zo zF (wCr h365) (wCs h365)) ?_)
     have hg367:=Arr.at_ a122 (k:=y179.toNat) (by have hz0:=wBv h365;omega)
     refine ZG rfl rfl rfl rfl (hS362.ldB (j:=3) rfl rfl rfl zL (wBG (sz:=1) (fun _=>rfl) _ _ 0 _ hg367 (by first | omega | rfl | simp) rfl)) rfl (zZ rfl rfl rfl rfl (fun _=>ZB rfl rfl rfl) (zZ rfl rfl rfl rfl (fun _=>Zc rfl f284 rfl zo zF (wCr h365) (wCs h365)) ?_))
     have hg368:=Arr.at_ a122 (k:=y179.toNat) (by have hz0:=wBv h365;omega)
     refine ZH (j:=3) (vs:=[jV (w64 ((a122.get y179.toNat) - 1))]) (cs':=nA KL.encI (a122.set y179.toNat (w64 ((a122.get y179.toNat) - 1))).l) rfl rfl rfl rfl hS362 rfl rfl rfl rfl zF (by have hz0:=wBv h365;simp only [nI,nJ,nK,wAh (f:=KL.encI) (sz:=1) (N:=31) a122 (fun _=>rfl) rfl];omega) rfl (wHQ (sz:=1) (fo:=0) (fun _=>rfl) _ _ _ _ hg368 (by first | omega | rfl | simp) (zY rfl) rfl) rfl ?_
     intro W369 hS370
     have hS371:sW w U U353 [B5,B3,.obj b80 (.map es120 ck121),.blk b36 141 (nA KL.encI (a122.set y179.toNat (w64 ((a122.get y179.toNat) - 1))).l),B4] W369:=hS370
     refine eN (rR (wNY (.fx 3 (.nil) .stop)) rfl (zK rfl rfl rfl rfl rfl f287 (ZG rfl rfl rfl rfl (hS371.ldC (f:=0) h364 (v:=jV y179) rfl f290 zL rfl) rfl (zK rfl rfl rfl rfl rfl f289 (OKS.mapPut (x:=.tmp 109) (y:=.tmp 110) (z:=.tmp 111) (j:=2) (mk:=wEx) (mv:=wFK) (a:=y179) (v:=(↑k130:Int)) rfl rfl rfl (by first | exact .inl rfl | exact .inr rfl) hS371 rfl rfl rfl rfl (wCl ZL) wEZ h158 rfl ?_)))))
     intro es372 ck373 W374 hr375 hS376
     have hS377:sW w U U353 [B5,B3,.obj b80 (.map es372 ck373),.blk b36 141 (nA KL.encI (a122.set y179.toNat (w64 ((a122.get y179.toNat) - 1))).l),B4] W374:=hS376
     refine zj (zd (zD (rR fL2 Z (oR Z (zl (zg Z f292 Z) (congrArg (jV) hi160.out)) (oM Z Z (zj ?_))))))
     cases hm366
     exact zD ⟨rfl,⟨U353,es372,ck373,A359,c360,A344,c345,rfl,f283,f284,f285,rfl,f287,rfl,f291,((((le149.trans le281).trans le296).trans le328).trans le357),(hS377.pick [2,3,0,4] _ (by decide) rfl),hr375⟩⟩
   ·rintro σ388 W389 ⟨U408,e402,c403,A404,c405,A406,c407,fi391,f411,f412,f413,f414,f415,f416,f417,le409,hS410,h418⟩
    have c419:Hid (¬ ((↑(((↑p0.length:Int):Int) - 0).toNat:Int) < (↑p0.length:Int))):=zC (wAv)
    refine sR fL1 Z (oR Z (zP Z fi391 f417) (eN (zB (cF Z c419 (zx (ze (ze (zq (zD (sR fL5 Z (oM Z f416 (oM Z f413 (oA Z Z (oA Z Z (oA Z Z (eN (zO ?_)))))))))))))))))
    cases hm131
    exact ⟨rfl,_,(res3 rfl rfl rfl),U408,_,(hS410.pick [3] _ (by decide) rfl),A406,c407,rfl,rfl⟩
  ·intro c59 hm420
   refine cF Z c59 (kN (sR (.fl 0 (.fx 1 (.fl 2 (.nil)) .stop)) Z (oL Z (hS56.ldC (f:=0) h58 (v:=.slice pA0 p0.length pc0) Z Z ZC Z) ?_)))
   have h421:=h24.le le32
   have h422:=h421.le le51
   refine bnK hm420 fun x423 h424 hm425=>zM 0 Z Z Z Z (zN Z Z Tryz.call89 (zE Z zW) Z) hS56 (fun hs=>wEF p0 pA0 pc0 W50 U47 hs h422 h424) (.inr Z) ?_
   rintro U426 L427 v428 W429 le430 hS431 ⟨A432,c433,rfl,rfl⟩
   have hS435:sW w U U426 [.row A432 c433 3 1 (nA KL.encI x423),B0,.blk b36 141 (nA KL.encI x25.l)] W429:=hS431
   refine oA Z Z (eN (sR (.fx 0 (.fl 1 (.nil)) .stop) Z (OKS.makeMap Z Z Z Z Z hS435 ?_)))
   intro W436 b437 hS438
   have hr439:=MpR.nil wEx wFK
   refine oA Z Z (eN (sR fL1 Z (oA Z Z (eN (zB (sR fL3 Z ?_))))))
   have h441:=h58.le le430
   refine oL Z (hS438.ldC (f:=0) h441 (v:=.slice pA0 p0.length pc0) Z Z ZC Z) (oR Z (zQ Z Z zV) (oM Z Z (eN (zU ?_))))
   have q:=bnd hm425
   obtain ⟨⟨y492,y493,y494,y495⟩,hf489,hm488⟩:=q
   try dsimp only at hm488
   have q:=wBH hf489
   obtain ⟨hle490,hf491⟩:=q
   replace hle490:=zC hle490
   refine CK.forN' (fun k487 (l476,a479,l480,l483) σ_ w_=>∃ (U_:PHeap) (es477:Array MapEntry) (ck478:Nat) (A481:Option Addr) (c482:Nat) (A484:Option Addr) (c485:Nat),σ_ 49=jV (↑k487:Int)/\σ_ 1=.pointer (some ⟨b2,0,none⟩)/\σ_ 6=.pointer (some ⟨b36,0,none⟩)/\σ_ 9=jV (↑p0.length:Int)/\σ_ 10=.slice A481 l480.length c482/\σ_ 11=.map (some b437)/\σ_ 12=.slice A484 l483.length c485/\σ_ 48=jV (↑p0.length:Int)/\PHeap.Le U426 U_/\sW w U U_ [.obj b437 (.map es477 ck478),.blk b36 141 (nA KL.encI a479.l),.row A481 c482 3 1 (nA KL.encI l480),.row A484 c485 3 1 (nA KL.encI l483)] w_/\MpR es477 wEx wFK l476) hf491 ?_ ?_ ?_
   ·have hS496:=hS438.nilrow 3 1
    exact ⟨U426,#[],0,A432,c433,none,0,rfl,rfl,rfl,rfl,rfl,rfl,rfl,rfl,(zJ _),(hS496.pick [1,4,2,0] _ (by decide) rfl),hr439⟩
   ·rintro k487 ⟨l476,a479,l480,l483⟩ xx500 σ498 W499 hk503 ⟨U505,es477,ck478,A481,c482,A484,c485,fi504,f508,f509,f510,f511,f512,f513,f514,le506,hS507,h515⟩ hx501
    try dsimp only at hx501
    have c516:Hid ((↑k487:Int) < (↑p0.length:Int)):=zC (wBU hk503)
    replace hk503:=zC hk503
    have hi517:Hid (w64 ((↑k487:Int) + 1)=(↑(k487 + 1):Int)):=zC (by have h1:=hle490.out;have h2:=c516.out;rw [wAS] <;> omega)
    refine sR fL1 Z (oR Z (zP Z fi504 f514) (eN (zB (cT Z c516 (kN (zB (zU (sR fL2 Z (oM Z fi504 (oA Z Z (eN (sR (.fx 0 (.fx 1 (.nil) .stop) .stop) Z (ZI (cs:=[jV 0]) Z Z Z Z Z ZK Z hS507 ?_)))))))))))))
    intro W518 b519 hS520
    refine ZH (j:=0) (vs:=[jV (-1)]) Z Z Z Z hS520 Z Z Z Z zF (zY Z) Z Z Z ?_
    intro W522 hS523
    let B6:Res:=.row A481 c482 3 1 (nA KL.encI l480)
    let B7:Res:=.row A484 c485 3 1 (nA KL.encI l483)
    have hS524:sW w U U505 [.blk b519 3 [jV (-1)],.obj b437 (.map es477 ck478),.blk b36 141 (nA KL.encI a479.l),B6,B7] W522:=hS523
    refine eN (zB (sR fL2 Z (oL Z (hS524.ldBA (j:=2) Z Z f509 Tryz.isAgg141 ZR (vs:=nA KL.encI a479.l) (wKj a479 (fun _=>Z) Z) (wAh a479 (fun _=>Z) Z)) (oM Z Z (eN (zU (bnK hx501 fun y536 hf533 hm532=>?_)))))))
    have q:=wBH hf533
    obtain ⟨hle534,hf535⟩:=q
    replace hle534:=zC hle534
    refine CK.forN' (fun k531 x530 σ_ w_=>∃ (U_:PHeap),σ_ 53=jV (↑k531:Int)/\σ_ 1=.pointer (some ⟨b2,0,none⟩)/\σ_ 6=.pointer (some ⟨b36,0,none⟩)/\σ_ 9=jV (↑p0.length:Int)/\σ_ 10=.slice A481 l480.length c482/\σ_ 11=.map (some b437)/\σ_ 12=.slice A484 l483.length c485/\σ_ 13=jV (↑k487:Int)/\σ_ 14=.pointer (some ⟨b519,0,none⟩)/\σ_ 48=jV (↑p0.length:Int)/\σ_ 49=jV (↑k487:Int)/\σ_ 52=.agg (nA KL.encI a479.l).toArray/\PHeap.Le U505 U_/\sW w U U_ [.blk b519 3 [jV x530],.obj b437 (.map es477 ck478),.blk b36 141 (nA KL.encI a479.l),B6,B7] w_) hf535 ?_ ?_ ?_
    ·exact ⟨U505,Z,f508,f509,f510,f511,f512,f513,Z,Z,f514,fi504,Z,(zJ _),hS524⟩
    ·rintro k531 x530 xx539 σ537 W538 hk542 ⟨U544,fi543,f547,f548,f549,f550,f551,f552,f553,f554,f555,f556,f557,le545,hS546⟩ hx540
     have c558:Hid ((↑k531:Int) < 31):=zC (wBU hk542)
     replace hk542:=zC hk542
     have hi559:Hid (w64 ((↑k531:Int) + 1)=(↑(k531 + 1):Int)):=zC (by have h1:=hle534.out;have h2:=c558.out;rw [wAS] <;> omega)
     refine sR fL1 Z (oR Z (zP Z fi543 Z) (eN (zB (cT Z c558 (kN (bnK hx540 fun x560 hx562 hm563=>CK.cut (fun σ_ w_=>∃ (U_:PHeap),σ_ 1=.pointer (some ⟨b2,0,none⟩)/\σ_ 6=.pointer (some ⟨b36,0,none⟩)/\σ_ 9=jV (↑p0.length:Int)/\σ_ 10=.slice A481 l480.length c482/\σ_ 11=.map (some b437)/\σ_ 12=.slice A484 l483.length c485/\σ_ 13=jV (↑k487:Int)/\σ_ 14=.pointer (some ⟨b519,0,none⟩)/\σ_ 48=jV (↑p0.length:Int)/\σ_ 49=jV (↑k487:Int)/\σ_ 52=.agg (nA KL.encI a479.l).toArray/\σ_ 53=jV (↑k531:Int)/\PHeap.Le U544 U_/\sW w U U_ [.blk b519 3 [jV x560],.obj b437 (.map es477 ck478),.blk b36 141 (nA KL.encI a479.l),B6,B7] w_) ?_ ?_))))))
     ·refine zU (sR fL4 rfl (zK rfl rfl rfl rfl rfl fi543 (bnK hx562 fun x564 h565 hm566=>zZ rfl rfl rfl rfl (fun _=>Runs.ixA (cs:=nA KL.encI (a479.l:List Int)) rfl f557 fi543 zo zF (wCL h565) (by have q_:=wCU h565;rw [(a479).h] at q_;exact q_) (wDO zL (wCq (sz:=1) (fun _=>rfl) _ _ 0 _ _ (wAN h565) rfl))) (ZX rfl rfl rfl rfl rfl rfl (ZX rfl rfl rfl rfl rfl rfl (eN (sR fL8 rfl (zK rfl rfl rfl rfl rfl f551 (zK rfl rfl rfl rfl rfl rfl (ZG rfl rfl rfl rfl (hS546.lookup2 (j:=1) (mk:=wEx) (mv:=wFK) (a:=(↑k531:Int)) (z:=0) rfl rfl rfl rfl (wCl ZL) wEZ ZK h515) rfl (zK rfl rfl rfl rfl rfl rfl (zZ rfl rfl rfl rfl (fun _=>zu rfl rfl (v:=jV (wCK l476 (↑k531:Int) 0)) rfl) (zZ rfl rfl rfl rfl (fun _=>zu rfl rfl (v:=.bool (wFu l476 (↑k531:Int))) rfl) (ZX rfl rfl rfl rfl rfl rfl (ZX rfl rfl rfl rfl rfl rfl (eN (sR fL24 rfl (zK rfl rfl rfl rfl rfl rfl (zZ rfl rfl rfl rfl (fun _=>ZJ rfl rfl rfl) (zK rfl rfl rfl rfl rfl rfl (ifc hm566 ?_ ?_)))))))))))))))))))))
      ·intro c567 hm568
       refine zK Z Z Z (wT Z c567) Z Z (rU Z (wT Z c567) (ZW Z Z) (zK Z Z Z (wT Z c567) Z Z (ifc hm568 ?_ ?_)))
       ·intro c569 hm570
        refine zK Z Z Z (zI Z Z (nC c569.out)) Z f553 (zK Z Z Z (zI Z Z (nC c569.out)) Z Z (zZ Z Z Z (zI Z Z (nC c569.out)) (fun _=>ZB Z Z Z) (zK Z Z Z (zI Z Z (nC c569.out)) Z f549 (zZ Z Z Z (zI Z Z (nC c569.out)) (fun _=>Runs.geq Z Z Z) (rU Z (wT Z c567) (zX Z (nC c569.out) Z) (oR Z (zS Z (ZD c567.out) Z) (oM Z Z (ifc hm570 ?_ ?_))))))))
        ·intro c571 hm572
         refine ZG Z Z Z (wT Z c571) (hS546.ldB (j:=0) Z Z f554 zL (v:=jV x530) Z) Z (rU Z (wT Z c571) (zP Z Z Z) (zK Z Z Z (wT Z c571) Z Z (ifc hm572 ?_ ?_)))
         ·intro c573 hm574
          refine oT Z c573 (oT Z c573 (oT Z c573 (oT Z c573 (oT Z c573 (rU Z (wT Z c571) (zS Z (ZD c573.out) Z) (oR Z (zS Z (ZD c571.out) Z) (eN (zn Z (rR (.fl 0 (.fx 1 (.nil) .stop)) Z (oM Z Z (ZH (j:=0) (vs:=[jV (↑k531:Int)]) Z Z Z Z hS546 Z f554 Z Z zF (zY Z) Z Z Z ?_)))))))))))
          intro W575 hS576
          have hS577:sW w U U544 [.blk b519 3 [jV (↑k531:Int)],.obj b437 (.map es477 ck478),.blk b36 141 (nA KL.encI a479.l),B6,B7] W575:=hS576
          refine zj (zd ?_)
          cases hm574
          exact zD ⟨Z,⟨U544,f547,f548,f549,f550,f551,f552,f553,f554,f555,f556,f557,fi543,(zJ _),hS577⟩⟩
         ·intro c573 hm579
          refine zK Z Z Z (wF Z c573) Z Z (ZG Z Z Z (wF Z c573) (hS546.ldB (j:=0) Z Z f554 zL (v:=jV x530) Z) Z (bnK hm579 fun _ h580 hm581=>rU Z (wF Z c573) (Zc Z f548 Z zo zF (wCr h580) (wCs h580)) ?_))
          have hg582:=Arr.at_ a479 (k:=x530.toNat) (by have hz0:=wBv h580;omega)
          refine ZG rfl rfl rfl (zI rfl rfl (zi c573.out)) (hS546.ldB (j:=2) rfl rfl rfl zL (wBG (sz:=1) (fun _=>rfl) _ _ 0 _ hg582 (by first | omega | rfl | simp) rfl)) rfl (zZ rfl rfl rfl (zI rfl rfl (zi c573.out)) (fun _=>ZJ rfl rfl rfl) (zZ rfl rfl rfl (zI rfl rfl (ZD c571.out)) (fun _=>zX rfl (zi c573.out) rfl) (zZ rfl rfl rfl rfl (fun _=>zS rfl (ZD c571.out) rfl) (eN (ifc hm581 ?_ ?_)))))
          ·intro c583 hm584
           refine cT Z c583 (rR (.fl 0 (.fx 1 (.nil) .stop)) Z (oM Z Z (ZH (j:=0) (vs:=[jV (↑k531:Int)]) Z Z Z Z hS546 Z f554 Z Z zF (zY Z) Z Z Z ?_)))
           intro W585 hS586
           have hS587:sW w U U544 [.blk b519 3 [jV (↑k531:Int)],.obj b437 (.map es477 ck478),.blk b36 141 (nA KL.encI a479.l),B6,B7] W585:=hS586
           refine zj (zd ?_)
           cases hm584
           exact zD ⟨Z,⟨U544,f547,f548,f549,f550,f551,f552,f553,f554,f555,f556,f557,fi543,(zJ _),hS587⟩⟩
          ·intro c583 hm589
           refine cF Z c583 (zy (zd ?_))
           cases hm589
           exact zD ⟨Z,⟨U544,f547,f548,f549,f550,f551,f552,f553,f554,f555,f556,f557,fi543,(zJ _),hS546⟩⟩
        ·intro c571 hm591
         refine oF Z c571 (oF Z c571 (oF Z c571 (zG Z Z Z (wAC Z Z Z) (zG Z Z Z (wAC Z Z Z) (zG Z Z Z (wAC Z Z Z) (zG Z Z Z (wAC Z Z Z) (zG Z Z Z (wAC Z Z Z) (oF Z c571 (oR Z (zX Z (zi c571.out) Z) (eN (zk Z (zy (zd ?_)))))))))))))
         cases hm591
         exact zD ⟨Z,⟨U544,f547,f548,f549,f550,f551,f552,f553,f554,f555,f556,f557,fi543,(zJ _),hS546⟩⟩
       ·intro c569 hm593
        refine zG Z Z Z (zf Z Z (nF (c569.out)) Z) (zG Z Z Z (zf Z Z (nF (c569.out)) Z) (zG Z Z Z (zf Z Z (nF (c569.out)) Z) (zG Z Z Z (zf Z Z (nF (c569.out)) Z) (zG Z Z Z (zf Z Z (nF (c569.out)) Z) (rU Z (wT Z c567) (zS Z (nF (c569.out)) Z) (oR Z (zS Z (ZD c567.out) Z) (oM Z Z (ZG Z Z Z (zI Z Z Z) (hS546.ldB (j:=0) Z Z f554 zL (v:=jV x530) Z) Z (zZ Z Z Z (zI Z Z Z) (fun _=>zP Z Z Z) (zK Z Z Z (zI Z Z Z) Z Z (ifc hm593 ?_ ?_)))))))))))
        ·intro c594 hm595
         refine oT Z c594 (oT Z c594 (oT Z c594 (oT Z c594 (oT Z c594 (zZ Z Z Z (zI Z Z Z) (fun _=>zS Z (ZD c594.out) Z) (oR Z (zS Z Z Z) (eN (zn Z (rR (.fl 0 (.fx 1 (.nil) .stop)) Z (oM Z Z (ZH (j:=0) (vs:=[jV (↑k531:Int)]) Z Z Z Z hS546 Z f554 Z Z zF (zY Z) Z Z Z ?_)))))))))))
         intro W596 hS597
         have hS598:sW w U U544 [.blk b519 3 [jV (↑k531:Int)],.obj b437 (.map es477 ck478),.blk b36 141 (nA KL.encI a479.l),B6,B7] W596:=hS597
         refine zj (zd ?_)
         cases hm595
         exact zD ⟨Z,⟨U544,f547,f548,f549,f550,f551,f552,f553,f554,f555,f556,f557,fi543,(zJ _),hS598⟩⟩
        ·intro c594 hm600
         refine zK Z Z Z (wF Z c594) Z Z (ZG Z Z Z (wF Z c594) (hS546.ldB (j:=0) Z Z f554 zL (v:=jV x530) Z) Z (bnK hm600 fun _ h601 hm602=>rU Z (wF Z c594) (Zc Z f548 Z zo zF (wCr h601) (wCs h601)) ?_))
         have hg603:=Arr.at_ a479 (k:=x530.toNat) (by have hz0:=wBv h601;omega)
         refine ZG rfl rfl rfl (zI rfl rfl (zi c594.out)) (hS546.ldB (j:=2) rfl rfl rfl zL (wBG (sz:=1) (fun _=>rfl) _ _ 0 _ hg603 (by first | omega | rfl | simp) rfl)) rfl (zZ rfl rfl rfl (zI rfl rfl (zi c594.out)) (fun _=>ZJ rfl rfl rfl) (zZ rfl rfl rfl (zI rfl rfl rfl) (fun _=>zX rfl (zi c594.out) rfl) (zZ rfl rfl rfl rfl (fun _=>zS rfl rfl rfl) (eN (ifc hm602 ?_ ?_)))))
         ·intro c604 hm605
          refine cT Z c604 (rR (.fl 0 (.fx 1 (.nil) .stop)) Z (oM Z Z (ZH (j:=0) (vs:=[jV (↑k531:Int)]) Z Z Z Z hS546 Z f554 Z Z zF (zY Z) Z Z Z ?_)))
          intro W606 hS607
          have hS608:sW w U U544 [.blk b519 3 [jV (↑k531:Int)],.obj b437 (.map es477 ck478),.blk b36 141 (nA KL.encI a479.l),B6,B7] W606:=hS607
          refine zj (zd ?_)
          cases hm605
          exact zD ⟨Z,⟨U544,f547,f548,f549,f550,f551,f552,f553,f554,f555,f556,f557,fi543,(zJ _),hS608⟩⟩
         ·intro c604 hm610
          refine cF Z c604 (zy (zd ?_))
          cases hm610
          exact zD ⟨Z,⟨U544,f547,f548,f549,f550,f551,f552,f553,f554,f555,f556,f557,fi543,(zJ _),hS546⟩⟩
      ·intro c567 hm612
       refine oF Z c567 (oF Z c567 (oF Z c567 (zG Z Z Z (wAC Z Z Z) (zG Z Z Z (wAC Z Z Z) (zG Z Z Z (wAC Z Z Z) (zG Z Z Z (wAC Z Z Z) (zG Z Z Z (wAC Z Z Z) (oF Z c567 (oR Z (zX Z (zi c567.out) Z) (oM Z Z (oN Z (oN Z (oN Z (zG Z Z Z (wAC Z Z Z) (zG Z Z Z (wAC Z Z Z) (zG Z Z Z (wAC Z Z Z) (zG Z Z Z (wAC Z Z Z) (zG Z Z Z (wAC Z Z Z) (oN Z (oR Z (zX Z Z Z) (eN (zk Z (zy (zd ?_))))))))))))))))))))))))
       cases hm612
       exact zD ⟨Z,⟨U544,f547,f548,f549,f550,f551,f552,f553,f554,f555,f556,f557,fi543,(zJ _),hS546⟩⟩
     ·rintro σ614 W615 ⟨U616,f619,f620,f621,f622,f623,f624,f625,f626,f627,f628,f629,f630,le617,hS618⟩
      refine rR fL2 Z (oR Z (zl (zg Z f630 Z) (congrArg (jV) hi559.out)) (oM Z Z (zj ?_)))
      cases hm563
      exact zD ⟨Z,⟨U616,Z,f619,f620,f621,f622,f623,f624,f625,f626,f627,f628,f629,(le545.trans le617),hS618⟩⟩
    ·rintro σ632 W633 ⟨U637,fi635,f640,f641,f642,f643,f644,f645,f646,f647,f648,f649,f650,le638,hS639⟩
     have c651:Hid (¬ ((↑((31:Int) - 0).toNat:Int) < 31)):=zC (wAv)
     refine sR fL1 Z (oR Z (zP Z fi635 Z) (eN (zB (cF Z c651 (zx (ze (ze (zq (zD (sR (.fl 0 (.fl 1 (.fx 2 (.fl 3 (.nil)) .stop))) Z (oM Z f643 ?_)))))))))))
     have q:=hS639.freeze (k:=0) rfl
     obtain ⟨U652,le653,hC654,hS655⟩:=q
     replace hC654:=Cl.of hC654
     have hS656:sW w U U652 [.obj b437 (.map es477 ck478),.blk b36 141 (nA KL.encI a479.l),B6,B7] W633:=hS655
     replace hC654:Cl U652 b519 0 [jV y536]:=hC654
     refine oR Z (Runs.mkf Z zW (zE f640 (zE f647 zW))) ?_
     have q:=hS656.freezeT (k:=2) (n:=l480.length) rfl (wAI (f:=KL.encI) (sz:=1) (fun _=>rfl) l480) (by decide)
     obtain ⟨U658,le659,hs660,hS661,th657⟩:=q
     have hS662:sW w U U658 [.obj b437 (.map es477 ck478),.blk b36 141 (nA KL.encI a479.l),B7] W633:=hS661
     have h663:=h441.le le506
     have h664:=h663.le le638
     have h665:=h664.le le653
     have h666:=h665.le le659
     have h667:=h422.le le430
     have h668:=h667.le le506
     have h669:=h668.le le638
     have h670:=h669.le le653
     have h671:=h670.le le659
     have h672:=hC654.le le659
     have hF673:FnOK Tryz.prog U658 (.func (.func 93) #[] #[.pointer (some ⟨b2,0,none⟩),.pointer (some ⟨b519,0,none⟩)]) wIZ wIa (fun x=>wAf x p0 y536):=⟨93,[],[.pointer (some ⟨b2,0,none⟩),.pointer (some ⟨b519,0,none⟩)],rfl,Tryz.call93,fun U1 w1 x y vs le hs ha hm=>by obtain rfl:=ha;exact wDg x p0 b2 pA0 pc0 y536 b519 w1 U1 hs (h666.le le) (h671.le le) (h672.le le) hm⟩
     refine bnK hm532 fun x674 h675 hm676=>zM 0 Z Z Z Z (zN Z Z Tryz.call92 (zE Z (zE Z zW)) Z) hS662 (fun hs=>wBw l480 A481 c482 (fun x=>wAf x p0 y536) (.func (.func 93) #[] #[.pointer (some ⟨b2,0,none⟩),.pointer (some ⟨b519,0,none⟩)]) W633 U658 hs hs660 hF673 h675) (.inr Z) ?_
     rintro U677 L678 v679 W680 le681 hS682 ⟨rfl,rfl⟩
     have hS683:sW w U U677 [.obj b437 (.map es477 ck478),.blk b36 141 (nA KL.encI a479.l),B7] W680:=hS682
     have q:=th657 _ _ _ le681 hS683
     obtain ⟨U684,le685,hS686⟩:=q
     have hS687:sW w U U684 [B6,.obj b437 (.map es477 ck478),.blk b36 141 (nA KL.encI a479.l),B7] W680:=hS686
     refine oA Z Z (eN (sR (wIp (.fx 5 (.fx 6 (.fl 7 (.nil)) .stop) .stop)) Z (oM Z f645 (oM Z f643 (oM Z Z (bnK hm676 fun _ h688 hm689=>?_))))))
     obtain ⟨b690,hA691⟩:=hS687.rowSome (j:=0) rfl (by rw [wAI (f:=KL.encI) (sz:=1) (fun _=>rfl) l480];have hz:=wBv h688;omega)
     refine oR Z (ZO Z Z hA691 Z zA zF (wCr h688) (wCs h688)) ?_
     have hg692:=wEm (xs:=l480) (wBv h688)
     refine ZG rfl rfl rfl rfl (hS687.ldR (j:=0) rfl hA691 rfl rfl zL (wBG (sz:=1) (fun _=>rfl) _ _ 0 _ hg692 (by first | omega | rfl | simp) rfl)) rfl (ZQ (pv:=[(0,jV (gd l480 x674.toNat))]) (zs:=[jV 0]) (cs:=[jV (gd l480 x674.toNat)]) rfl rfl rfl rfl rfl (wAs rfl wCH) zA zF ZK rfl rfl rfl rfl rfl hS687 ?_)
     intro W693 b694 hS695
     let B8:Res:=.row (some ⟨b694,0,none⟩) 1 3 1 (nA KL.encI [(gd l480 x674.toNat)])
     have hS697:sW w U U684 [B8,B6,.obj b437 (.map es477 ck478),.blk b36 141 (nA KL.encI a479.l),B7] W693:=hS695
     refine bnK hm689 fun x698 h699 hm700=>ZS (j:=4) (enc:=KL.encI) (xs:=l483) (ys:=[(gd l480 x674.toNat)]) (zs:=x698) rfl rfl rfl rfl rfl ZT wIb rfl rfl rfl rfl rfl rfl hS697 rfl rfl rfl (hS697.srcR (j:=0) rfl (by decide) (wAI (f:=KL.encI) (sz:=1) (fun _=>rfl) [(gd l480 x674.toNat)])) (fun _=>rfl) (fun _=>rfl) h699 rfl ?_
     intro A701 c702 W703 hS704
     let B9:Res:=.row A701 c702 3 1 (nA KL.encI x698)
     have hS705:sW w U U684 [B8,B6,.obj b437 (.map es477 ck478),.blk b36 141 (nA KL.encI a479.l),B9] W703:=hS704
     refine oA Z Z (eN (sR (wLM (.fx 4 (.fl 5 (.nil)) .stop)) Z (oM Z f643 (oM Z Z (oM Z Z (oR Z (zg Z Z Z) (bnK hm700 fun x706 h707 hm708=>?_)))))))
     have hS709:sW w U U684 [B6,B8,.obj b437 (.map es477 ck478),.blk b36 141 (nA KL.encI a479.l),B9] W703:=hS705.pick [1,0,2,3,4] _ (by decide) rfl
     refine zM 1 Z Z Z Z (zN Z Z Tryz.call94 (zE Z (zE Z (zE Z zW))) Z) hS709 (fun hs=>wCR l480 A481 c482 x674 (w64 (x674 + 1)) W703 U684 hs h707) (.inl Z) ?_
     rintro U710 L711 v712 W713 le714 hS715 ⟨A716,c717,rfl,rfl⟩
     let B10:Res:=.row A716 c717 3 1 (nA KL.encI x706)
     have hS719:sW w U U710 [B10,B8,.obj b437 (.map es477 ck478),.blk b36 141 (nA KL.encI a479.l),B9] W713:=hS715
     refine oA Z Z (eN (sR (wIp (.fx 5 (.nil) .stop)) Z ?_))
     have h720:=hC654.le le685
     have h721:=h720.le le714
     refine oL Z (hS719.ldC (f:=0) h721 (v:=jV y536) Z f647 zL Z) (bnK hm708 fun _ h722 hm723=>oR Z (Zc Z f641 Z zo zF (wCr h722) (wCs h722)) ?_)
     have hg724:=Arr.at_ a479 (k:=y536.toNat) (by have hz0:=wBv h722;omega)
     refine ZG rfl rfl rfl rfl (hS719.ldB (j:=3) rfl rfl rfl zL (wBG (sz:=1) (fun _=>rfl) _ _ 0 _ hg724 (by first | omega | rfl | simp) rfl)) rfl (zZ rfl rfl rfl rfl (fun _=>ZB rfl rfl rfl) (zZ rfl rfl rfl rfl (fun _=>Zc rfl f641 rfl zo zF (wCr h722) (wCs h722)) ?_))
     have hg725:=Arr.at_ a479 (k:=y536.toNat) (by have hz0:=wBv h722;omega)
     refine ZH (j:=3) (vs:=[jV (w64 ((a479.get y536.toNat) - 1))]) (cs':=nA KL.encI (a479.set y536.toNat (w64 ((a479.get y536.toNat) - 1))).l) rfl rfl rfl rfl hS719 rfl rfl rfl rfl zF (by have hz0:=wBv h722;simp only [nI,nJ,nK,wAh (f:=KL.encI) (sz:=1) (N:=31) a479 (fun _=>rfl) rfl];omega) rfl (wHQ (sz:=1) (fo:=0) (fun _=>rfl) _ _ _ _ hg725 (by first | omega | rfl | simp) (zY rfl) rfl) rfl ?_
     intro W726 hS727
     have hS728:sW w U U710 [B10,B8,.obj b437 (.map es477 ck478),.blk b36 141 (nA KL.encI (a479.set y536.toNat (w64 ((a479.get y536.toNat) - 1))).l),B9] W726:=hS727
     refine eN (rR (wNY (.fx 3 (.nil) .stop)) rfl (zK rfl rfl rfl rfl rfl f644 (ZG rfl rfl rfl rfl (hS728.ldC (f:=0) h721 (v:=jV y536) rfl f647 zL rfl) rfl (zK rfl rfl rfl rfl rfl f646 (OKS.mapPut (x:=.tmp 109) (y:=.tmp 110) (z:=.tmp 111) (j:=2) (mk:=wEx) (mv:=wFK) (a:=y536) (v:=(↑k487:Int)) rfl rfl rfl (by first | exact .inl rfl | exact .inr rfl) hS728 rfl rfl rfl rfl (wCl ZL) wEZ h515 rfl ?_)))))
     intro es729 ck730 W731 hr732 hS733
     have hS734:sW w U U710 [B10,B8,.obj b437 (.map es729 ck730),.blk b36 141 (nA KL.encI (a479.set y536.toNat (w64 ((a479.get y536.toNat) - 1))).l),B9] W731:=hS733
     refine zj (zd (zD (rR fL2 Z (oR Z (zl (zg Z f649 Z) (congrArg (jV) hi517.out)) (oM Z Z (zj ?_))))))
     cases hm723
     exact zD ⟨rfl,⟨U710,es729,ck730,A716,c717,A701,c702,rfl,f640,f641,f642,rfl,f644,rfl,f648,((((le506.trans le638).trans le653).trans le685).trans le714),(hS734.pick [2,3,0,4] _ (by decide) rfl),hr732⟩⟩
   ·rintro σ745 W746 ⟨U765,e759,c760,A761,c762,A763,c764,fi748,f768,f769,f770,f771,f772,f773,f774,le766,hS767,h775⟩
    have c776:Hid (¬ ((↑(((↑p0.length:Int):Int) - 0).toNat:Int) < (↑p0.length:Int))):=zC (wAv)
    refine sR fL1 Z (oR Z (zP Z fi748 f774) (eN (zB (cF Z c776 (zx (ze (ze (zq (zD (sR fL5 Z (oM Z f773 (oM Z f770 (oA Z Z (oA Z Z (oA Z Z (eN (zO ?_)))))))))))))))))
    cases hm488
    exact ⟨rfl,_,(res3 rfl rfl rfl),U765,_,(hS767.pick [3] _ (by decide) rfl),A763,c764,rfl,rfl⟩
 ·intro c21 hm777
  refine cT Z c21 (sR fL4 Z (oM Z Z (oA Z Z (oA Z Z (oA Z Z (eN (zO (zH ?_))))))))
  have hS778:=hS20.nilrow 3 1
  cases hm777
  exact ⟨Z,_,(res3 Z Z Z),U14,_,hS778,none,0,Z,Z⟩
end Go.Proofs.YtghaibkggdecnaaGreat
