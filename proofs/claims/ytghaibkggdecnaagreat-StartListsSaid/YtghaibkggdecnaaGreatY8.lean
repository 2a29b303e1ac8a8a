import Derived.Test.YtghaibkggdecnaaGreatY7
set_option linter.all false
open List renaming flatMap->nA,getElem_cons_succ->nH,getElem_cons_zero->nI,getElem_toArray->nJ,length_set->nL,set->nN
open Go.Value renaming bool->nB
open Bool renaming eq_false_iff->nD
open Option.some renaming inj->nE
open Prod.mk renaming injEq->nG
open Int renaming toNat_natCast->nK
open Nat renaming blt->nM,le_of_ble_eq_true->nO
namespace Go.Proofs.YtghaibkggdecnaaGreat
open Go.KL
set_option maxHeartbeats 4000000
theorem Z {α:Type} {a:α}:a=a:=rfl
section
variable {r:Option Nat} {N:Nat} {P:Program} {l:List Oper} {Q:wCx} {D:List Deferred} {ks:List Nat} {σ:Env} {w:World} {i d j e:Nat} {s:Sch} {o:Oper} {b:Bool} {x:Operand} {v:Value} {p:Prop} {inst:Decidable p} {K:List Deferred->Env->World->Prop} {c1 c2:Code}
abbrev jV (n:Int):Value:=.int .i64 n
abbrev SW (w:World) (X:List Res) (U U':PHeap) (L:List Res) (w':World):Prop:=St ⟨w,X,U⟩ U' L w'
abbrev sW (w:World) (U U':PHeap) (L:List Res) (w':World):Prop:=St ⟨w,[],U⟩ U' L w'
abbrev St0 (w:World) (U:PHeap) (L:List Res):Prop:=St ⟨w,L,U⟩ U L w
theorem ifc {α:Type} {G p:Prop} {inst:Decidable p} {a b r:α} (h:@ite α p inst a b=r) (h1:Hid p->a=r->G) (h2:Hid (¬ p)->b=r->G):G:=by
 by_cases c:p
 · rw [if_pos c] at h;exact h1 ⟨c⟩ h
 · rw [if_neg c] at h;exact h2 ⟨c⟩ h
theorem bnK {α β:Type} {G:Prop} {o:Option α} {f:α->Option β} {r:β} (h:o.bind f=some r) (k:∀ x,o=some x->f x=some r->G):G:=by
 obtain ⟨x,h1,h2⟩:=bnd h
 exact k x h1 h2
theorem oR (h:(l[i]?,o.dst,nM d N,wanted l σ o)=(some o,some d,true,true)) (hr:∀ {w'},Runs P σ w' o v w') (k:OKS N P l Q D ks s (upd σ d v) w):OKS N P l Q D ks (.fl i s) σ w:=by
 simp only [nG] at h;exact OKS.r h.1 h.2.1 h.2.2.1 h.2.2.2 (fun _=>hr) k
theorem oL (h:(l[i]?,o.dst,nM d N,wanted l σ o,wPs (kOf ks i))=(some o,some d,true,true,false)) (hr:wFB P σ w o v) (k:OKS N P l Q D ks s (upd σ d v) w):OKS N P l Q D ks (.fl i s) σ w:=by
 simp only [nG] at h;exact OKS.m h.1 h.2.1 h.2.2.1 h.2.2.2.1 hr h.2.2.2.2 k
theorem oM (h:(l[i]?,o.dst,nM d N,wanted l σ o,o.op)=(some o,some d,true,true,.move x)) (hx:ev σ x=v) (k:OKS N P l Q D ks s (upd σ d v) w):OKS N P l Q D ks (.fl i s) σ w:=by
 simp only [nG] at h;exact OKS.rm h.1 h.2.1 h.2.2.1 h.2.2.2.1 h.2.2.2.2 hx k
theorem oA (h:(l[i]?,o.dst,nM d N,wanted l σ o,o.op)=(some o,some d,true,true,.assign x)) (hx:ev σ x=v) (k:OKS N P l Q D ks s (upd σ d v) w):OKS N P l Q D ks (.fl i s) σ w:=by
 simp only [nG] at h;exact OKS.ra h.1 h.2.1 h.2.2.1 h.2.2.2.1 h.2.2.2.2 hx k
theorem oF (h:(l[i]?,o.dst,nM d N,o.guard,(l[j]?).bind (·.dst),σ e,false == b)=(some o,some d,true,some (j,b),some e,.bool (decide p),false)) (c:Hid (¬ p)) (k:OKS N P l Q D ks s (upd σ d undef) w):OKS N P l Q D ks (.fl i s) σ w:=by
 simp only [nG] at h;exact OKS.p h.1 h.2.1 h.2.2.1 (wFp h.2.2.2.1 h.2.2.2.2.1 (h.2.2.2.2.2.1.trans (wPr c.out)) h.2.2.2.2.2.2) k
theorem oT (h:(l[i]?,o.dst,nM d N,o.guard,(l[j]?).bind (·.dst),σ e,true == b)=(some o,some d,true,some (j,b),some e,.bool (decide p),false)) (c:Hid p) (k:OKS N P l Q D ks s (upd σ d undef) w):OKS N P l Q D ks (.fl i s) σ w:=by
 simp only [nG] at h;exact OKS.p h.1 h.2.1 h.2.2.1 (wFp h.2.2.2.1 h.2.2.2.2.1 (h.2.2.2.2.2.1.trans (wGn c.out)) h.2.2.2.2.2.2) k
theorem oN {b2:Bool} (h:(l[i]?,o.dst,nM d N,o.guard,(l[j]?).bind (·.dst),σ e,b2 == b)=(some o,some d,true,some (j,b),some e,.bool b2,false)) (k:OKS N P l Q D ks s (upd σ d undef) w):OKS N P l Q D ks (.fl i s) σ w:=by
 simp only [nG] at h;exact OKS.p h.1 h.2.1 h.2.2.1 (wFp h.2.2.2.1 h.2.2.2.2.1 h.2.2.2.2.2.1 h.2.2.2.2.2.2) k
theorem nC {a b:Bool} (h:a=b):nB (!a)=nB (!b):=h ▸ rfl
theorem nF {a:Bool} (h:¬ a=true):nB (!a)=nB (!false):=nC (nD.2 h)
theorem wT (h:(o.guard,(l[j]?).bind (·.dst),σ e)=(some (j,true),some e,.bool (decide p))) (c:Hid p):wanted l σ o=true:=by
 simp only [nG] at h;exact wHJ h.1 h.2.1 (h.2.2.trans (wGn c.out))
theorem wF (h:(o.guard,(l[j]?).bind (·.dst),σ e)=(some (j,false),some e,.bool (decide p))) (c:Hid (¬ p)):wanted l σ o=true:=by
 simp only [nG] at h;exact wHJ h.1 h.2.1 (h.2.2.trans (wPr c.out))
theorem rU (h:(l[i]?,o.dst,nM d N)=(some o,some d,true)) (hw:wanted l σ o=true) (hr:∀ {w'},Runs P σ w' o v w') (k:OKS N P l Q D ks s (upd σ d v) w):OKS N P l Q D ks (.fl i s) σ w:=by
 simp only [nG] at h;exact OKS.r h.1 h.2.1 h.2.2 hw (fun _=>hr) k
theorem sR {id:Nat} (s:Sch) (hs:inOrder 0 s l.length=true) (h:OKS N P l (wEN (fun D σ w=>CK r N P c2 Q D σ w) Q) D [] s σ w):CK r N P (.seq (.region id l.toArray false) c2) Q D σ w:=CK.seq (CK.reg s hs h)
theorem rR {id:Nat} (s:Sch) (hs:inOrder 0 s l.length=true) (h:OKS N P l Q D [] s σ w):CK r N P (.region id l.toArray false) Q D σ w:=CK.reg s hs h
theorem eN (h:K D σ w):OKS N P l (wEN K Q) D ks .nil σ w:=OKS.e (wHG h)
theorem cT (hz:ev σ x=.bool (decide p)) (c:Hid p) (h:CK r N P c1 Q D σ w):CK r N P (.cond x c1 c2) Q D σ w:=CK.condT (hz.trans (wGn c.out)) h
theorem cF (hz:ev σ x=.bool (decide p)) (c:Hid (¬ p)) (h:CK r N P c2 Q D σ w):CK r N P (.cond x c1 c2) Q D σ w:=CK.condF (hz.trans (wPr c.out)) h
theorem kN (h:K D σ w):CK r N P .skip (wEN K Q) D σ w:=CK.skip (wHG h)
end
def fL1:Sch:=.fl 0 (.nil)
def fL2:Sch:=.fl 0 (.fl 1 (.nil))
def fL3:Sch:=.fl 0 (.fl 1 (.fl 2 (.nil)))
def fL4:Sch:=.fl 0 (.fl 1 (.fl 2 (.fl 3 (.nil))))
def fL5:Sch:=.fl 0 (.fl 1 (.fl 2 (.fl 3 (.fl 4 (.nil)))))
def fL6:Sch:=.fl 0 (.fl 1 (.fl 2 (.fl 3 (.fl 4 (.fl 5 (.nil))))))
def fL7:Sch:=.fl 0 (.fl 1 (.fl 2 (.fl 3 (.fl 4 (.fl 5 (.fl 6 (.nil)))))))
def fL8:Sch:=.fl 0 (.fl 1 (.fl 2 (.fl 3 (.fl 4 (.fl 5 (.fl 6 (.fl 7 (.nil))))))))
def fL9:Sch:=.fl 0 (.fl 1 (.fl 2 (.fl 3 (.fl 4 (.fl 5 (.fl 6 (.fl 7 (.fl 8 (.nil)))))))))
def fL10:Sch:=.fl 0 (.fl 1 (.fl 2 (.fl 3 (.fl 4 (.fl 5 (.fl 6 (.fl 7 (.fl 8 (.fl 9 (.nil))))))))))
def fL11:Sch:=.fl 0 (.fl 1 (.fl 2 (.fl 3 (.fl 4 (.fl 5 (.fl 6 (.fl 7 (.fl 8 (.fl 9 (.fl 10 (.nil)))))))))))
def fL12:Sch:=.fl 0 (.fl 1 (.fl 2 (.fl 3 (.fl 4 (.fl 5 (.fl 6 (.fl 7 (.fl 8 (.fl 9 (.fl 10 (.fl 11 (.nil))))))))))))
def fL24:Sch:=.fl 0 (.fl 1 (.fl 2 (.fl 3 (.fl 4 (.fl 5 (.fl 6 (.fl 7 (.fl 8 (.fl 9 (.fl 10 (.fl 11 (.fl 12 (.fl 13 (.fl 14 (.fl 15 (.fl 16 (.fl 17 (.fl 18 (.fl 19 (.fl 20 (.fl 21 (.fl 22 (.fl 23 (.nil))))))))))))))))))))))))
def wKr (s:Sch):Sch:=.fl 0 (.fl 1 (.fl 2 (s)))
def wGZ (s:Sch):Sch:=.fl 0 (.fl 1 (.fl 2 (.fl 3 (s))))
def wGa (s:Sch):Sch:=.fl 0 (.fl 1 (.fl 2 (.fl 3 (.fl 4 (s)))))
def wRE (s:Sch):Sch:=.fl 0 (.fl 1 (.fl 2 (.fl 3 (.fl 4 (.fl 5 (s))))))
def fC0_8 (s:Sch):Sch:=.fl 0 (.fl 1 (.fl 2 (.fl 3 (.fl 4 (.fl 5 (.fl 6 (.fl 7 (.fl 8 (s)))))))))
def fC0_9 (s:Sch):Sch:=.fl 0 (.fl 1 (.fl 2 (.fl 3 (.fl 4 (.fl 5 (.fl 6 (.fl 7 (.fl 8 (.fl 9 (s))))))))))
def wOb (s:Sch):Sch:=.fl 0 (.fl 1 (.fl 2 (.fl 3 (.fl 4 (.fl 5 (.fl 6 (.fl 7 (.fl 8 (.fl 9 (.fl 10 (.fl 11 (.fl 12 (.fl 13 (.fl 14 (s)))))))))))))))
def wRF (s:Sch):Sch:=.fl 0 (.fl 1 (.fl 2 (.fl 3 (.fl 4 (.fl 5 (.fl 6 (.fl 7 (.fl 8 (.fl 9 (.fl 10 (.fl 11 (.fl 12 (.fl 13 (.fl 14 (.fl 15 (.fl 16 (s)))))))))))))))))
def wRG (s:Sch):Sch:=.fl 2 (.fl 3 (.fl 4 (s)))
def wOA (s:Sch):Sch:=.fl 2 (.fl 3 (.fl 4 (.fl 5 (s))))
def fC2_6 (s:Sch):Sch:=.fl 2 (.fl 3 (.fl 4 (.fl 5 (.fl 6 (s)))))
def wRH (s:Sch):Sch:=.fl 3 (.fl 4 (.fl 5 (s)))
def wPj (s:Sch):Sch:=.fl 3 (.fl 4 (.fl 5 (.fl 6 (.fl 7 (s)))))
def wPk (s:Sch):Sch:=.fl 4 (.fl 5 (.fl 6 (.fl 7 (.fl 8 (s)))))
def wRI (s:Sch):Sch:=.fl 5 (.fl 6 (.fl 7 (.fl 8 (.fl 9 (.fl 10 (.fl 11 (.fl 12 (s))))))))
def wRJ (s:Sch):Sch:=.fl 6 (.fl 7 (.fl 8 (s)))
def wOc (s:Sch):Sch:=.fl 6 (.fl 7 (.fl 8 (.fl 9 (.fl 10 (.fl 11 (s))))))
def wRK (s:Sch):Sch:=.fl 7 (.fl 8 (.fl 9 (.fl 10 (s))))
def wNI (s:Sch):Sch:=.fl 13 (.fl 14 (.fl 15 (.fl 16 (.fl 17 (.fl 18 (.fl 19 (s)))))))
theorem zA:type_of% @CK.seq:=@CK.seq
theorem zB:type_of% @wKv:=@wKv
theorem zC:type_of% @Hid.mk:=@Hid.mk
theorem zD:type_of% @Tryz.runUnderlying40:=@Tryz.runUnderlying40
theorem zE:type_of% @wHG:=@wHG
theorem zF:type_of% @Tryz.sizeOf3:=@Tryz.sizeOf3
theorem zG:type_of% @wKu:=@wKu
theorem zH:type_of% @Tryz.isAgg3:=@Tryz.isAgg3
theorem zI:type_of% @OKS.callH:=@OKS.callH
theorem zJ:type_of% @Enters.mk:=@Enters.mk
theorem zK:type_of% @CK.ret:=@CK.ret
theorem zL:type_of% @Tryz.runUnderlying37:=@Tryz.runUnderlying37
theorem zM:type_of% @CK.block:=@CK.block
theorem zN:type_of% @Runs.lss:=@Runs.lss
theorem zO:type_of% @wOB:=@wOB
theorem zP:type_of% @Tryz.runUnderlying31:=@Tryz.runUnderlying31
theorem zQ:type_of% @wKt:=@wKt
theorem zR:type_of% @Tryz.sizeOf132:=@Tryz.sizeOf132
theorem zS:type_of% @PHeap.Le.refl:=@PHeap.Le.refl
theorem zU:type_of% @Runs.addw:=@Runs.addw
theorem zV:type_of% @Runs.len:=@Runs.len
theorem zW:type_of% @wJa:=@wJa
theorem zX:type_of% @wJZ:=@wJZ
theorem zY:type_of% @OKS.buildSlice:=@OKS.buildSlice
theorem zZ:type_of% @nO:=@nO
theorem zd:type_of% @Tryz.runUnderlying86:=@Tryz.runUnderlying86
theorem ze:type_of% @Runs.iaN:=@Runs.iaN
theorem zf:type_of% @Tryz.sizeOf54:=@Tryz.sizeOf54
theorem zg:type_of% @CK.condF:=@CK.condF
theorem zh:type_of% @wHJ:=@wHJ
theorem zi:type_of% @OKS.e:=@OKS.e
theorem zj:type_of% @CK.condT:=@CK.condT
theorem zk:type_of% @OKS.rm:=@OKS.rm
theorem zl:type_of% @Runs.to:=@Runs.to
theorem zm:type_of% @res1:=@res1
theorem zn:type_of% @wHH:=@wHH
theorem zo:type_of% @wFp:=@wFp
theorem zp:type_of% @OKS.append:=@OKS.append
theorem zq:type_of% @Runs.fa:=@Runs.fa
theorem zr:type_of% @Tryz.runUnderlying58:=@Tryz.runUnderlying58
theorem zt:type_of% @CK.exit:=@CK.exit
theorem zu:type_of% @Tryz.sizeOf160:=@Tryz.sizeOf160
theorem zw:type_of% @Tryz.runUnderlying132:=@Tryz.runUnderlying132
theorem zx:type_of% @OKS.r:=@OKS.r
theorem zy:type_of% @Tryz.zeroValue54:=@Tryz.zeroValue54
theorem zz:type_of% @Tryz.zeroValue132:=@Tryz.zeroValue132
theorem ZA:type_of% @Tryz.runUnderlying54:=@Tryz.runUnderlying54
theorem ZB:type_of% @Runs.pickF:=@Runs.pickF
theorem ZC:type_of% @Runs.pickT:=@Runs.pickT
theorem ZD:type_of% @Tryz.underlying31:=@Tryz.underlying31
theorem ZE:type_of% @Tryz.runUnderlying157:=@Tryz.runUnderlying157
theorem ZF:type_of% @CK.skip:=@CK.skip
theorem ZG:type_of% @Tryz.underlying40:=@Tryz.underlying40
theorem ZH:type_of% @Tryz.sizeOf62:=@Tryz.sizeOf62
theorem ZI:type_of% @Tryz.zeroValue3:=@Tryz.zeroValue3
theorem ZJ:type_of% @Tryz.mixed:=@Tryz.mixed
theorem ZK:type_of% @CK.anyOrd:=@CK.anyOrd
theorem ZL:type_of% @OKS.p:=@OKS.p
theorem ZM:type_of% @Tryz.sizeOf157:=@Tryz.sizeOf157
theorem ZN:type_of% @wPr:=@wPr
theorem ZO:type_of% @Runs.notT:=@Runs.notT
theorem ZP:type_of% @Runs.build:=@Runs.build
theorem ZQ:type_of% @Tryz.zeroValue160:=@Tryz.zeroValue160
theorem ZR:type_of% @Runs.gtr:=@Runs.gtr
theorem ZS:type_of% @OKS.alloc:=@OKS.alloc
theorem ZT:type_of% @Tryz.isAgg160:=@Tryz.isAgg160
theorem ZU:type_of% @Runs.neq:=@Runs.neq
theorem ZV:type_of% @CK.forN:=@CK.forN
theorem ZW:type_of% @Tryz.isAgg54:=@Tryz.isAgg54
theorem ZX:type_of% @Tryz.runUnderlying62:=@Tryz.runUnderlying62
theorem ZY:type_of% @Tryz.isAgg132:=@Tryz.isAgg132
theorem Za:type_of% @Runs.eql:=@Runs.eql
theorem Zb:type_of% @Runs.ext:=@Runs.ext
theorem Zc:type_of% @OKS.st:=@OKS.st
theorem Zd:type_of% @Tryz.call116:=@Tryz.call116
theorem Ze:type_of% @Tryz.runUnderlying161:=@Tryz.runUnderlying161
theorem Zf:type_of% @OKS.px:=@OKS.px
theorem Zg:type_of% @Tryz.call86:=@Tryz.call86
theorem Zh:type_of% @Tryz.call77:=@Tryz.call77
theorem Zi:type_of% @Tryz.call122:=@Tryz.call122
end Go.Proofs.YtghaibkggdecnaaGreat
namespace Go.Proofs.YtghaibkggdecnaaGreat
open Go.KL
set_option maxHeartbeats 4000000
theorem wCB (w:World) (U:PHeap) (hS:St0 w U []) {r:Bool} (hm:wBf=some r):Gv Tryz.prog 11 [] w (wCQ w [] U (fun U_ L_ v=>v=.bool r/\L_=[])):=by
 cases hm
 refine (xr11 w).mono ?_
 rintro v w' ⟨rfl,k⟩
 exact ⟨U,[],hS.grow k,Z,Z⟩
theorem wCd (p0:List wAE) (pA0:Option Addr) (pc0:Nat) (w:World) (U:PHeap) (hS:St0 w U []) (ha0:Sl U 3 pA0 pc0 p0.length (nA wAQ p0)) {r:(List wAE)} (hm:wAh p0=some r):Gv Tryz.prog 38 [.slice pA0 p0.length pc0] w (wCQ w [] U (fun U_ L_ v=>∃ (A0:Option Addr) (c0:Nat),v=.slice A0 r.length c0/\L_=[.row A0 c0 62 3 (nA wAQ r)])):=by
 unfold wAh at hm
 refine Gv.of Tryz.func38 Z Tryz.ntmps38 Tryz.results38 Z (sR fL1 Z (oA Z Z (eN (sR (.fl 0 (.fx 1 (.fl 2 (.nil)) .stop)) Z (oM Z Z ?_)))))
 have hS1:=hS.nilrow 62 3
 have hS3:sW w U U [.row none 0 62 3 (nA wAQ ([]:List wAE))] w:=hS1
 refine bnK hm fun x4 h5 hm6=>zp (j:=0) (enc:=wAQ) (xs:=([]:List wAE)) (ys:=p0) (zs:=x4) Z Z Z Z Z Tryz.underlying58 wQl Z Z Z Z Z Z hS3 Z Z Z (hS3.srcS ha0) (fun _=>Z) (fun _=>Z) h5 Z ?_
 intro A7 c8 W9 hS10
 have hS11:sW w U U [.row A7 c8 62 3 (nA wAQ x4)] W9:=hS10
 refine oA Z Z (eN (zK ?_))
 have hE:=nE hm6;first | subst r | cases hE
 exact ⟨Z,_,(zm Z),U,_,hS11,A7,c8,Z,Z⟩
theorem wCe (p0:List wAA) (pA0:Option Addr) (pc0:Nat) (w:World) (U:PHeap) (hS:St0 w U []) (ha0:Sl U 3 pA0 pc0 p0.length (nA wAC p0)) {r:(List wAA)} (hm:wAi p0=some r):Gv Tryz.prog 65 [.slice pA0 p0.length pc0] w (wCQ w [] U (fun U_ L_ v=>∃ (A0:Option Addr) (c0:Nat),v=.slice A0 r.length c0/\L_=[.row A0 c0 54 3 (nA wAC r)])):=by
 unfold wAi at hm
 refine Gv.of Tryz.func65 Z Tryz.ntmps65 Tryz.results65 Z (sR fL1 Z (oA Z Z (eN (sR (.fl 0 (.fx 1 (.fl 2 (.nil)) .stop)) Z (oM Z Z ?_)))))
 have hS1:=hS.nilrow 54 3
 have hS3:sW w U U [.row none 0 54 3 (nA wAC ([]:List wAA))] w:=hS1
 refine bnK hm fun x4 h5 hm6=>zp (j:=0) (enc:=wAC) (xs:=([]:List wAA)) (ys:=p0) (zs:=x4) Z Z Z Z Z Tryz.underlying37 wOX Z Z Z Z Z Z hS3 Z Z Z (hS3.srcS ha0) (fun _=>Z) (fun _=>Z) h5 Z ?_
 intro A7 c8 W9 hS10
 have hS11:sW w U U [.row A7 c8 54 3 (nA wAC x4)] W9:=hS10
 refine oA Z Z (eN (zK ?_))
 have hE:=nE hm6;first | subst r | cases hE
 exact ⟨Z,_,(zm Z),U,_,hS11,A7,c8,Z,Z⟩
theorem wCs (p0:List wAA) (pA0:Option Addr) (pc0:Nat) (w:World) (U:PHeap) (hS:St0 w U []) (ha0:Sl U 3 pA0 pc0 p0.length (nA wAC p0)) {r:(List wAD)} (hm:wBF p0=some r):Gv Tryz.prog 66 [.slice pA0 p0.length pc0] w (wCQ w [] U (fun U_ L_ v=>∃ (A0:Option Addr) (c0:Nat),v=.slice A0 r.length c0/\L_=[.row A0 c0 132 3 (nA wAB r)])):=by
 unfold wBF at hm
 refine Gv.of Tryz.func66 Z Tryz.ntmps66 Tryz.results66 Z (sR fL1 Z (oA Z Z (eN (sR fL1 Z (oA Z Z (eN (zA (sR fL3 Z (oM Z Z (oR Z (zV Z Z zL) (oM Z Z (eN (zM (bnK hm fun y23 hf20 hm19=>?_))))))))))))))
 have q:=wBb hf20
 obtain ⟨hle21,hf22⟩:=q
 replace hle21:=zC hle21
 refine CK.forN' (fun k18 l14 σ_ w_=>∃ (U_:PHeap) (A15:Option Addr) (c16:Nat),σ_ 8=jV (↑k18:Int)/\σ_ 3=.slice A15 l14.length c16/\σ_ 6=.slice pA0 p0.length pc0/\σ_ 7=jV (↑p0.length:Int)/\PHeap.Le U U_/\sW w U U_ [.row A15 c16 132 3 (nA wAB l14)] w_) hf22 ?_ ?_ ?_
 ·have hS24:=hS.nilrow 132 3
  exact ⟨U,none,0,Z,Z,Z,Z,(zS _),hS24⟩
 ·rintro k18 l14 xx28 σ26 W27 hk31 ⟨U33,A15,c16,fi32,f36,f37,f38,le34,hS35⟩ hx29
  have c39:Hid ((↑k18:Int) < (↑p0.length:Int)):=zC (wBL hk31)
  replace hk31:=zC hk31
  have hi40:Hid (w64 ((↑k18:Int) + 1)=(↑(k18 + 1):Int)):=zC (by have h1:=hle21.out;have h2:=c39.out;rw [wAe] <;> omega)
  refine sR fL1 Z (oR Z (zN Z fi32 f38) (eN (zA (cT Z c39 (kN (zA (zM (sR (.fl 0 (.fl 1 (.fx 2 (.fx 3 (.nil) .stop) .stop))) Z (bnK hx29 fun x41 h42 hm43=>?_)))))))))
  have h44:=ha0.le le34
  have q:=h44.el (fun _=>rfl) (wAU h42)
  obtain ⟨b45,off46,hA47,hC48⟩:=q
  refine oR Z (ze Z f37 hA47 fi32 zL zf (wAu h42)) (oL Z (hS35.ldCA (f:=0) hC48 Z Z ZW zf (us:=[jV x41.Bib,jV x41.Time,jV x41.Gate]) Z Z) ?_)
  let B0:List Value:=[jV 0,jV 0,jV 0]
  refine ZS (cs:=B0) Z Z Z Z Z zy Z hS35 ?_
  intro W49 b50 hS51
  let B1:List Value:=[jV x41.Bib,jV x41.Time,jV x41.Gate]
  refine Zc (j:=0) (vs:=B1) Z Z Z Z hS51 Z Z Z Z zf (zZ Z) Z Z Z ?_
  intro W53 hS54
  let B2:Res:=.row A15 c16 132 3 (nA wAB l14)
  have hS55:sW w U U33 [.blk b50 54 B1,B2] W53:=hS54
  refine eN (rR (.fl 0 (.fl 1 (.fx 2 (.fx 3 (.fl 4 (.nil)) .stop) .stop))) Z (oM Z f36 (oL Z (hS55.ldBA (j:=0) Z Z Z ZW zf (vs:=B1) Z Z) (zY (pv:=[(0,.agg B1.toArray)]) (zs:=B0) (cs:=B1) Z Z Z Z Z (wAH Z wAV) zD zR zz Z Z Z Z Z hS55 ?_))))
  intro W56 b57 hS58
  let B3:Res:=.row (some ⟨b57,0,none⟩) 1 132 3 (nA wAB [(⟨x41.Bib,x41.Time,x41.Gate⟩:wAD)])
  have hS60:sW w U U33 [B3,.blk b50 54 B1,B2] W56:=hS58
  refine bnK hm43 fun x61 h62 hm63=>zp (j:=2) (enc:=wAB) (xs:=l14) (ys:=[(⟨x41.Bib,x41.Time,x41.Gate⟩:wAD)]) (zs:=x61) rfl rfl rfl rfl rfl ZG wCi rfl rfl rfl rfl rfl rfl hS60 rfl rfl rfl (hS60.srcR (j:=0) rfl (by decide) (wAF (f:=wAB) (sz:=3) (fun _=>rfl) [(⟨x41.Bib,x41.Time,x41.Gate⟩:wAD)])) (fun _=>rfl) (fun _=>rfl) h62 rfl ?_
  intro A64 c65 W66 hS67
  have hS68:sW w U U33 [B3,.blk b50 54 B1,.row A64 c65 132 3 (nA wAB x61)] W66:=hS67
  refine oA Z Z (zi (zX (zE (rR fL2 Z (oR Z (zl (zU Z fi32 Z) (congrArg (jV) hi40.out)) (oM Z Z (zi ?_)))))))
  cases hm63
  exact zE ⟨rfl,⟨U33,A64,c65,rfl,rfl,f37,f38,le34,(hS68.pick [2] _ (by decide) rfl)⟩⟩
 ·rintro σ72 W73 ⟨U81,A79,c80,fi75,f84,f85,f86,le82,hS83⟩
  have c87:Hid (¬ ((↑(((↑p0.length:Int):Int) - 0).toNat:Int) < (↑p0.length:Int))):=zC (wAv)
  refine sR fL1 Z (oR Z (zN Z fi75 f86) (eN (zA (cF Z c87 (zt (zQ (zQ (zn (zE (sR fL2 Z (oM Z f84 (oA Z Z (eN (zK ?_))))))))))))))
  have hE:=nE hm19;first | subst r | cases hE
  exact ⟨Z,_,(zm Z),U81,_,hS83,A79,c80,Z,Z⟩
theorem wBz (p0:Int) (p1:Int) (p2:Int) (w:World) (U:PHeap) (hS:St0 w U [])  {r:Bool} (hm:wBM p0 p1 p2=some r):Gv Tryz.prog 86 [jV p0,jV p1,jV p2] w (wCQ w [] U (fun U_ L_ v=>v=.bool r/\L_=[])):=by
 unfold wBM at hm
 refine Gv.of Tryz.func86 Z Tryz.ntmps86 Tryz.results86 Z (sR fL1 Z (oA Z Z (eN (sR fL9 Z (oM Z Z (oM Z Z (oR Z (Runs.geq Z Z Z) (oM Z Z ?_))))))))
 by_cases c1:p1 <= p0
 ·have hm2:=hm;rw [if_pos c1] at hm2;replace c1:=zC c1
  refine zk Z Z Z (wT Z c1) Z Z (zk Z Z Z (wT Z c1) Z Z (rU Z (wT Z c1) (Runs.leq Z Z Z) (oR Z (ZC Z (wGn c1.out) Z) (oA Z Z (eN (zK ?_))))))
  cases hm2
  exact ⟨Z,_,(zm Z),U,_,hS,Z,Z⟩
 ·have hm3:=hm;rw [if_neg c1] at hm3;replace c1:=zC c1
  refine oF Z c1 (oF Z c1 (oF Z c1 (oR Z (ZB Z (ZN c1.out) Z) (oA Z Z (eN (zK ?_))))))
  have hE:=nE hm3;first | subst r | cases hE
  exact ⟨Z,_,(zm Z),U,_,hS,Z,Z⟩
theorem wCX (p0:wAE) (w:World) (U:PHeap) (hS:St0 w U [])  {r:Int} (hm:wAX p0=some r):Gv Tryz.prog 142 [.agg #[jV p0.Bib,jV p0.Nation,jV p0.Rank]] w (wCQ w [] U (fun U_ L_ v=>v=jV r/\L_=[])):=by
 unfold wAX at hm
 refine Gv.of Tryz.func142 rfl Tryz.ntmps142 Tryz.results142 rfl (sR (.fx 0 (.fl 1 (.nil)) .stop) rfl (OKS.box (cs:=[jV p0.Bib,jV p0.Nation,jV p0.Rank]) rfl rfl rfl rfl rfl rfl (by rfl) hS ?_))
 intro W1 b2 hS3
 refine oA Z Z (eN (sR fL3 Z (oR Z (zq Z Z ZX Z zF) (oL Z (hS3.ldB (j:=0) Z Z Z zH (v:=jV p0.Bib) Z) (oA Z Z (eN (zK ?_)))))))
 cases hm
 exact ⟨rfl,_,(zm rfl),U,_,(hS3.pick [] _ (by decide) rfl),rfl,rfl⟩
theorem wCY (p0:wAE) (w:World) (U:PHeap) (hS:St0 w U [])  {r:Int} (hm:wAY p0=some r):Gv Tryz.prog 143 [.agg #[jV p0.Bib,jV p0.Nation,jV p0.Rank]] w (wCQ w [] U (fun U_ L_ v=>v=jV r/\L_=[])):=by
 unfold wAY at hm
 refine Gv.of Tryz.func143 rfl Tryz.ntmps143 Tryz.results143 rfl (sR (.fx 0 (.fl 1 (.nil)) .stop) rfl (OKS.box (cs:=[jV p0.Bib,jV p0.Nation,jV p0.Rank]) rfl rfl rfl rfl rfl rfl (by rfl) hS ?_))
 intro W1 b2 hS3
 refine oA Z Z (eN (sR fL3 Z (oR Z (zq Z Z ZX Z zF) (oL Z (hS3.ldB (j:=0) Z Z Z zH (v:=jV p0.Rank) Z) (oA Z Z (eN (zK ?_)))))))
 cases hm
 exact ⟨rfl,_,(zm rfl),U,_,(hS3.pick [] _ (by decide) rfl),rfl,rfl⟩
theorem wDM (p0:wAE) (w:World) (U:PHeap) (hS:St0 w U [])  {r:Int} (hm:wAf p0=some r):Gv Tryz.prog 144 [.agg #[jV p0.Bib,jV p0.Nation,jV p0.Rank]] w (wCQ w [] U (fun U_ L_ v=>v=jV r/\L_=[])):=by
 unfold wAf at hm
 refine Gv.of Tryz.func144 rfl Tryz.ntmps144 Tryz.results144 rfl (sR (.fx 0 (.fl 1 (.nil)) .stop) rfl (OKS.box (cs:=[jV p0.Bib,jV p0.Nation,jV p0.Rank]) rfl rfl rfl rfl rfl rfl (by rfl) hS ?_))
 intro W1 b2 hS3
 refine oA Z Z (eN (sR fL3 Z (oR Z (zq Z Z ZX Z zF) (oL Z (hS3.ldB (j:=0) Z Z Z zH (v:=jV p0.Nation) Z) (oA Z Z (eN (zK ?_)))))))
 cases hm
 exact ⟨rfl,_,(zm rfl),U,_,(hS3.pick [] _ (by decide) rfl),rfl,rfl⟩
theorem wGT  (w:World) (U:PHeap) (hS:St0 w U [])  {r:Unit} (hm:wCM =some r):Gv Tryz.prog 98 [] w (wCQ w [] U (fun U_ L_ v=>v=.agg #[.func (.func 142) #[] #[],jV 1,jV 999,.func (.func 143) #[] #[],jV 1,jV 9999,.func (.func 144) #[] #[],jV 0,jV 30]/\L_=[])):=by
 unfold wCM at hm
 refine Gv.of Tryz.func98 Z Tryz.ntmps98 Tryz.results98 Z (sR (.fx 0 (.nil) .stop) Z ?_)
 let B0:List Value:=[.nilFunc,jV 0,jV 0,.nilFunc,jV 0,jV 0,.nilFunc,jV 0,jV 0]
 refine ZS (cs:=B0) Z Z Z Z Z Tryz.zeroValue161 Z hS ?_
 intro W1 b2 hS3
 refine eN (sR (wGZ (.fx 4 (.nil) .stop)) Z ?_)
 let B1:List Value:=[.nilFunc,jV 0,jV 0]
 let B2:List Value:=[.func (.func 142) #[] #[],jV 1,jV 999]
 refine oR Z (ZP (pv:=[(0,.func (.func 142) #[] #[]),(1,jV 1),(2,jV 999)]) (z:=B1) (cs:=B2) Z (wAH Z (wAH Z (wAH Z wAV))) ZQ wGS Z Z) ?_
 let B3:List Value:=[.func (.func 143) #[] #[],jV 1,jV 9999]
 refine oR Z (ZP (pv:=[(0,.func (.func 143) #[] #[]),(1,jV 1),(2,jV 9999)]) (z:=B1) (cs:=B3) Z (wAH Z (wAH Z (wAH Z wAV))) ZQ wGS Z Z) ?_
 let B4:List Value:=[.func (.func 144) #[] #[],jV 0,jV 30]
 refine oR Z (ZP (pv:=[(0,.func (.func 144) #[] #[]),(1,jV 0),(2,jV 30)]) (z:=B1) (cs:=B4) Z (wAH Z (wAH Z (wAH Z wAV))) ZQ wGS Z Z) ?_
 let B5:List Value:=[.func (.func 142) #[] #[],jV 1,jV 999,.func (.func 143) #[] #[],jV 1,jV 9999,.func (.func 144) #[] #[],jV 0,jV 30]
 refine oR Z (Runs.buildA (pv:=[(0,.agg B2.toArray),(1,.agg B3.toArray),(2,.agg B4.toArray)]) (z:=B0) (cs:=B5) Z (wAH Z (wAH Z (wAH Z wAV))) Tryz.zeroValue161 Ze zu Z Z) (Zc (j:=0) (vs:=B5) Z Z Z Z hS3 Z Z Z Z Tryz.sizeOf161 (zZ Z) Z Z Z ?_)
 intro W5 hS6
 have hS7:sW w U U [.blk b2 161 B5] W5:=hS6
 refine eN (zK ?_)
 cases hm
 exact ⟨rfl,_,(wPy (v:=.agg B5.toArray) ⟨⟨_,rfl,(wPz Tryz.isAgg161 Tryz.sizeOf161 (hS7.blkAt (k:=0) rfl) (vs:=B5) rfl rfl)⟩,trivial⟩),U,_,(hS7.pick [] _ (by decide) rfl),rfl,rfl⟩
theorem wBa (p0:wAO) (pv0_0:Value) (p1:List wAE) (pA1:Option Addr) (pc1:Nat) (w:World) (U:PHeap) (hS:St0 w U []) (ha0:FnOK Tryz.prog U pv0_0 wGh wGi p0.of) (ha1:Sl U 3 pA1 pc1 p1.length (nA wAQ p1)) {r:(List Int)} (hm:wAm p0 p1=some r):Gv Tryz.prog 100 [.agg #[pv0_0,jV p0.lo,jV p0.hi],.slice pA1 p1.length pc1] w (wCQ w [] U (fun U_ L_ v=>∃ (A0:Option Addr) (c0:Nat),v=.slice A0 r.length c0/\L_=[.row A0 c0 3 1 (nA KL.encI r)])):=by
 unfold wAm at hm
 refine Gv.of Tryz.func100 Z Tryz.ntmps100 Tryz.results100 Z (sR (.fx 0 (.fl 1 (.nil)) .stop) Z ?_)
 let B0:List Value:=[pv0_0,jV p0.lo,jV p0.hi]
 refine OKS.box (cs:=B0) rfl rfl rfl rfl rfl rfl (by rfl) hS ?_
 intro W1 b2 hS3
 refine oA Z Z (eN (sR fL1 Z (oA Z Z (eN (zA (sR fL3 Z (oM Z Z (oR Z (zV Z Z zr) (oM Z Z (eN (zM (bnK hm fun y27 hf24 hm23=>?_))))))))))))
 have q:=wBb hf24
 obtain ⟨hle25,hf26⟩:=q
 replace hle25:=zC hle25
 refine CK.forN' (fun k22 l18 σ_ w_=>∃ (U_:PHeap) (A19:Option Addr) (c20:Nat),σ_ 10=jV (↑k22:Int)/\σ_ 2=.pointer (some ⟨b2,0,none⟩)/\σ_ 5=.slice A19 l18.length c20/\σ_ 8=.slice pA1 p1.length pc1/\σ_ 9=jV (↑p1.length:Int)/\PHeap.Le U U_/\sW w U U_ [.blk b2 160 B0,.row A19 c20 3 1 (nA KL.encI l18)] w_) hf26 ?_ ?_ ?_
 ·have hS28:=hS3.nilrow 3 1
  exact ⟨U,none,0,rfl,rfl,rfl,rfl,rfl,(zS _),(hS28.pick [1,0] _ (by decide) rfl)⟩
 ·rintro k22 l18 xx32 σ30 W31 hk35 ⟨U37,A19,c20,fi36,f40,f41,f42,f43,le38,hS39⟩ hx33
  have c44:Hid ((↑k22:Int) < (↑p1.length:Int)):=zC (wBL hk35)
  replace hk35:=zC hk35
  have hi45:Hid (w64 ((↑k22:Int) + 1)=(↑(k22 + 1):Int)):=zC (by have h1:=hle25.out;have h2:=c44.out;rw [wAe] <;> omega)
  refine sR fL1 Z (oR Z (zN Z fi36 f43) (eN (zA (cT Z c44 (kN (zA (zM (sR (.fl 0 (.fl 1 (.fx 2 (.fx 3 (.nil) .stop) .stop))) Z (bnK hx33 fun x46 h47 hm48=>?_)))))))))
  have h49:=ha1.le le38
  have q:=h49.el (fun _=>rfl) (wAU h47)
  obtain ⟨b50,off51,hA52,hC53⟩:=q
  refine oR Z (ze Z f42 hA52 fi36 zr ZH (wAu h47)) (oL Z (hS39.ldCA (f:=0) hC53 Z Z Tryz.isAgg62 ZH (us:=[jV x46.Bib,jV x46.Nation,jV x46.Rank]) Z Z) (ZS (cs:=[jV 0,jV 0,jV 0]) Z Z Z Z Z Tryz.zeroValue62 Z hS39 ?_))
  intro W54 b55 hS56
  let B1:List Value:=[jV x46.Bib,jV x46.Nation,jV x46.Rank]
  refine Zc (j:=0) (vs:=B1) Z Z Z Z hS56 Z Z Z Z ZH (zZ Z) Z Z Z ?_
  intro W58 hS59
  let B2:Res:=.row A19 c20 3 1 (nA KL.encI l18)
  have hS60:sW w U U37 [.blk b55 62 B1,.blk b2 160 B0,B2] W58:=hS59
  refine eN (rR (wGZ (.fx 4 (.fx 5 (.fx 6 (.fl 7 (.nil)) .stop) .stop) .stop)) Z (oM Z f41 (oR Z (zq Z f40 Tryz.runUnderlying160 Z Tryz.sizeOf158) (oL Z (hS60.ldB (j:=1) Z Z Z Tryz.isAgg158 (v:=pv0_0) Z) (oL Z (hS60.ldBA (j:=0) Z Z Z Tryz.isAgg62 ZH (vs:=B1) Z Z) (bnK hm48 fun x61 h62 hm63=>?_))))))
  have h70:=ha0.le le38
  refine OKS.callV (a:=x46) Z Z Z Z Z Z (zB Z zO) hS60 h70 Z h62 ?_
  rintro U64 L65 v66 W67 le68 hS69 ⟨rfl,rfl⟩
  have hS71:sW w U U64 [.blk b55 62 B1,.blk b2 160 B0,B2] W67:=hS69
  refine zY (pv:=[(0,jV x61)]) (zs:=[jV 0]) (cs:=[jV x61]) Z Z Z Z Z (wAH Z wAV) zP zF ZI Z Z Z Z Z hS71 ?_
  intro W72 b73 hS74
  let B3:Res:=.row (some ⟨b73,0,none⟩) 1 3 1 (nA KL.encI [x61])
  have hS76:sW w U U64 [B3,.blk b55 62 B1,.blk b2 160 B0,B2] W72:=hS74
  refine bnK hm63 fun x77 h78 hm79=>zp (j:=3) (enc:=KL.encI) (xs:=l18) (ys:=[x61]) (zs:=x77) rfl rfl rfl rfl rfl ZD wEC rfl rfl rfl rfl rfl rfl hS76 rfl rfl rfl (hS76.srcR (j:=0) rfl (by decide) (wAF (f:=KL.encI) (sz:=1) (fun _=>rfl) [x61])) (fun _=>rfl) (fun _=>rfl) h78 rfl ?_
  intro A80 c81 W82 hS83
  have hS84:sW w U U64 [B3,.blk b55 62 B1,.blk b2 160 B0,.row A80 c81 3 1 (nA KL.encI x77)] W82:=hS83
  refine oA Z Z (zi (zX (zE (rR fL2 Z (oR Z (zl (zU Z fi36 Z) (congrArg (jV) hi45.out)) (oM Z Z (zi ?_)))))))
  cases hm79
  exact zE ⟨rfl,⟨U64,A80,c81,rfl,f40,rfl,f42,f43,(le38.trans le68),(hS84.pick [2,3] _ (by decide) rfl)⟩⟩
 ·rintro σ88 W89 ⟨U97,A95,c96,fi91,f100,f101,f102,f103,le98,hS99⟩
  have c104:Hid (¬ ((↑(((↑p1.length:Int):Int) - 0).toNat:Int) < (↑p1.length:Int))):=zC (wAv)
  refine sR fL1 Z (oR Z (zN Z fi91 f103) (eN (zA (cF Z c104 (zt (zQ (zQ (zn (zE (sR fL2 Z (oM Z f101 (oA Z Z (eN (zK ?_))))))))))))))
  have hE:=nE hm23;first | subst r | cases hE
  exact ⟨rfl,_,(zm rfl),U97,_,(hS99.pick [1] _ (by decide) rfl),A95,c96,rfl,rfl⟩
theorem wCt (p0:Int) (p1:wAO) (pb1:Nat) (pv1_0:Value) (w:World) (U:PHeap) (hS:St0 w U []) (ha0:Cl U pb1 0 [pv1_0,jV p1.lo,jV p1.hi]) (ha1:FnOK Tryz.prog U pv1_0 wGh wGi p1.of) {r:Bool} (hm:wAg p0 p1=some r):Gv Tryz.prog 101 [jV p0,.pointer (some ⟨pb1,0,none⟩)] w (wCQ w [] U (fun U_ L_ v=>v=.bool r/\L_=[])):=by
 unfold wAg at hm
 refine Gv.of Tryz.func101 Z Tryz.ntmps101 Tryz.results101 Z (sR fL1 Z (oA Z Z (eN (sR (wGa (.fx 5 (.fl 6 (.nil)) .stop)) Z (oM Z Z (oR Z (zq Z Z Tryz.runUnderlying160 Z zF) (oL Z (hS.ldC (f:=1) ha0 (v:=jV p1.lo) Z Z zH Z) (oR Z (zq Z Z Tryz.runUnderlying160 Z zF) (oL Z (hS.ldC (f:=2) ha0 (v:=jV p1.hi) Z Z zH Z) (bnK hm fun x1 h2 hm3=>zI 0 Z Z Z Z (zJ Z Z Zg (zB Z (zB Z (zB Z zO))) Z) hS (fun hs=>wBz p0 p1.lo p1.hi w U hs h2) (.inr Z) ?_))))))))))
 rintro U4 L5 v6 W7 le8 hS9 ⟨rfl,rfl⟩
 have hS10:sW w U U4 [] W7:=hS9
 refine oA Z Z (eN (zK ?_))
 have hE:=nE hm3;first | subst r | cases hE
 exact ⟨Z,_,(zm Z),U4,_,hS10,Z,Z⟩
theorem wCu (p0:List Int) (pA0:Option Addr) (pc0:Nat) (p1:(Int->Option Bool)) (pv1:Value) (w:World) (U:PHeap) (hS:St0 w U []) (ha0:Sl U 1 pA0 pc0 p0.length (nA KL.encI p0)) (ha1:FnOK Tryz.prog U pv1 wNj wNk p1) {r:Bool} (hm:wBZ p0 p1=some r):Gv Tryz.prog 99 [.slice pA0 p0.length pc0,pv1] w (wCQ w [] U (fun U_ L_ v=>v=.bool r/\L_=[])):=by
 unfold wBZ at hm
 refine Gv.of Tryz.func99 Z Tryz.ntmps99 Tryz.results99 Z (sR fL1 Z (oA Z Z (eN (zA (sR fL3 Z (oM Z Z (oR Z (zV Z Z zP) (oM Z Z (eN (zM ?_))))))))))
 have q:=wBs hm
 obtain ⟨r3,hX4⟩:=q
 have q:=wBr hX4
 obtain ⟨hle5,hf6⟩:=q
 replace hle5:=zC hle5
 refine ZV (fun k2 _ σ_ w_=>∃ (U_:PHeap),σ_ 9=jV (↑k2:Int)/\σ_ 1=pv1/\σ_ 7=.slice pA0 p0.length pc0/\σ_ 8=jV (↑p0.length:Int)/\PHeap.Le U U_/\sW w U U_ [] w_) hf6 ?_ ?_ ?_
 ·exact ⟨U,Z,Z,Z,Z,(zS _),hS⟩
 ·rintro k2 ⟨⟩ xx9 σ7 W8 hk12 ⟨U14,fi13,f17,f18,f19,le15,hS16⟩ hx10 hb11
  try dsimp only at hx10
  have c20:Hid ((↑k2:Int) < (↑p0.length:Int)):=zC (wBL hk12)
  replace hk12:=zC hk12
  have hi21:Hid (w64 ((↑k2:Int) + 1)=(↑(k2 + 1):Int)):=zC (by have h1:=hle5.out;have h2:=c20.out;rw [wAe] <;> omega)
  refine sR fL1 Z (oR Z (zN Z fi13 f19) (eN (zA (cT Z c20 (kN (zA (zM (sR fL3 Z (bnK hx10 fun x22 h23 hm24=>?_)))))))))
  have h25:=ha0.le le15
  have q:=h25.el (fun _=>rfl) (wAU h23)
  obtain ⟨b26,off27,hA28,hC29⟩:=q
  refine oR Z (ze Z f18 hA28 fi13 zP zF (wAu h23)) (oL Z (hS16.ldC (f:=0) hC29 (v:=jV x22) Z Z zH Z) (oA Z Z (eN (sR (.fl 0 (.fl 1 (.fx 2 (.fl 3 (.nil)) .stop))) Z (oM Z f17 (oM Z Z (bnK hm24 fun x30 h31 hm32=>?_)))))))
  have h39:=ha1.le le15
  refine OKS.callV (a:=x22) Z Z Z Z Z Z (zB Z zO) hS16 h39 Z h31 ?_
  rintro U33 L34 v35 W36 le37 hS38 ⟨rfl,rfl⟩
  have hS40:sW w U U33 [] W36:=hS38
  refine oR Z (ZO Z Z) (eN (ifc hm32 ?_ ?_))
  ·intro c41 hm42
   refine zg (nC c41.out) (ZF (zX (zE (rR fL2 Z (oR Z (zl (zU Z fi13 Z) (congrArg (jV) hi21.out)) (oM Z Z (zi ?_)))))))
   obtain rfl:=nE hm42
   exact zE ⟨Z,_,Z,⟨U33,Z,f17,f18,f19,(le15.trans le37),hS40⟩⟩
  ·intro c41 hm43
   refine zj (nF (c41.out)) (sR fL1 Z (oA Z Z (eN (zK (zW (zG ?_))))))
   have q:=wAl hm43
   obtain ⟨v44,hm45,e46⟩:=q
   obtain rfl:=wBt hm hX4 (hb11 v44 e46)
   refine zG (zW (zG ?_))
   have hE:=nE hm45;first | subst r | cases hE
   exact ⟨Z,_,(zm Z),U33,_,hS40,Z,Z⟩
 ·rintro ⟨⟩ σ47 W48 ⟨U51,fi50,f54,f55,f56,le52,hS53⟩ hb49
  have hm57:=wCR hm hX4 hb49
  try dsimp only at hm57
  have c58:Hid (¬ ((↑(((↑p0.length:Int):Int) - 0).toNat:Int) < (↑p0.length:Int))):=zC (wAv)
  refine sR fL1 Z (oR Z (zN Z fi50 f56) (eN (zA (cF Z c58 (zt (zQ (zQ (zn (zE (sR fL1 Z (oA Z Z (eN (zK ?_)))))))))))))
  have hE:=nE hm57;first | subst r | cases hE
  exact ⟨Z,_,(zm Z),U51,_,hS53,Z,Z⟩
theorem wDZ (p0:List Int) (pA0:Option Addr) (pc0:Nat) (w:World) (U:PHeap) (hS:St0 w U []) (ha0:Sl U 1 pA0 pc0 p0.length (nA KL.encI p0)) {r:Bool} (hm:wBl p0=some r):Gv Tryz.prog 87 [.slice pA0 p0.length pc0] w (wCQ w [] U (fun U_ L_ v=>v=.bool r/\L_=[])):=by
 unfold wBl at hm
 refine Gv.of Tryz.func87 Z Tryz.ntmps87 Tryz.results87 Z (sR fL1 Z (oA Z Z (eN (sR (.fx 0 (.fl 1 (.nil)) .stop) Z (OKS.makeMap Z Z Z Z Z hS ?_)))))
 intro W1 b2 hS3
 have hr4:=MpR.nil wMf wNl
 refine oA Z Z (eN (zA (sR fL3 Z (oM Z Z (oR Z (zV Z Z zP) (oM Z Z (eN (zM ?_))))))))
 have q:=wBs hm
 obtain ⟨r21,hX22⟩:=q
 have q:=wBr hX22
 obtain ⟨hle23,hf24⟩:=q
 replace hle23:=zC hle23
 refine ZV (fun k20 l17 σ_ w_=>∃ (U_:PHeap) (es18:Array MapEntry) (ck19:Nat),σ_ 9=jV (↑k20:Int)/\σ_ 3=.map (some b2)/\σ_ 7=.slice pA0 p0.length pc0/\σ_ 8=jV (↑p0.length:Int)/\PHeap.Le U U_/\sW w U U_ [.obj b2 (.map es18 ck19)] w_/\MpR es18 wMf wNl l17) hf24 ?_ ?_ ?_
 ·exact ⟨U,#[],0,Z,Z,Z,Z,(zS _),hS3,hr4⟩
 ·rintro k20 l17 xx27 σ25 W26 hk30 ⟨U32,es18,ck19,fi31,f35,f36,f37,le33,hS34,h38⟩ hx28 hb29
  have c39:Hid ((↑k20:Int) < (↑p0.length:Int)):=zC (wBL hk30)
  replace hk30:=zC hk30
  have hi40:Hid (w64 ((↑k20:Int) + 1)=(↑(k20 + 1):Int)):=zC (by have h1:=hle23.out;have h2:=c39.out;rw [wAe] <;> omega)
  refine sR fL1 Z (oR Z (zN Z fi31 f37) (eN (zA (cT Z c39 (kN (zA (zM (sR fL3 Z (bnK hx28 fun x41 h42 hm43=>?_)))))))))
  have h44:=ha0.le le33
  have q:=h44.el (fun _=>rfl) (wAU h42)
  obtain ⟨b45,off46,hA47,hC48⟩:=q
  refine oR Z (ze Z f36 hA47 fi31 zP zF (wAu h42)) (oL Z (hS34.ldC (f:=0) hC48 (v:=jV x41) Z Z zH Z) (oA Z Z (eN (zA (sR fL3 Z (oM Z f35 (oM Z Z (oL Z (hS34.lookup1 (j:=0) (mk:=wMf) (mv:=wNl) (a:=x41) (z:=false) Z Z Z Z (wDl Tryz.runUnderlying180) wMh Tryz.zeroValue4 h38) (eN (ifc hm43 ?_ ?_))))))))))
  ·intro c49 hm50
   refine zj (congrArg nB c49.out) (sR fL1 Z (oA Z Z (eN (zK (zG (zW (zG ?_)))))))
   have q:=wAl hm50
   obtain ⟨v51,hm52,e53⟩:=q
   obtain rfl:=wBt hm hX22 (hb29 v51 e53)
   refine zG (zW (zG ?_))
   have hE:=nE hm52;first | subst r | cases hE
   exact ⟨rfl,_,(zm rfl),U32,_,(hS34.pick [] _ (by decide) rfl),rfl,rfl⟩
  ·intro c49 hm54
   refine zg (congrArg nB (nD.2 c49.out)) (kN (rR (.fl 0 (.fl 1 (.fx 2 (.nil) .stop))) rfl (zk rfl rfl rfl rfl rfl f35 (zk rfl rfl rfl rfl rfl rfl (OKS.mapPut (x:=.tmp 16) (y:=.tmp 17) (j:=0) (mk:=wMf) (mv:=wNl) (a:=x41) (v:=true) rfl rfl rfl (by first | exact .inl rfl | exact .inr rfl) hS34 rfl rfl rfl rfl (wDl Tryz.runUnderlying180) wMh h38 rfl ?_)))))
   intro es55 ck56 W57 hr58 hS59
   have hS60:sW w U U32 [.obj b2 (.map es55 ck56)] W57:=hS59
   refine zi (zX (zE (rR fL2 Z (oR Z (zl (zU Z fi31 Z) (congrArg (jV) hi40.out)) (oM Z Z (zi ?_))))))
   obtain rfl:=nE hm54
   exact zE ⟨Z,_,Z,⟨U32,es55,ck56,Z,f35,f36,f37,le33,hS60,hr58⟩⟩
 ·rintro y68 σ64 W65 ⟨U71,e69,c70,fi67,f74,f75,f76,le72,hS73,h77⟩ hb66
  have hm78:=wCR hm hX22 hb66
  have c79:Hid (¬ ((↑(((↑p0.length:Int):Int) - 0).toNat:Int) < (↑p0.length:Int))):=zC (wAv)
  refine sR fL1 Z (oR Z (zN Z fi67 f76) (eN (zA (cF Z c79 (zt (zQ (zQ (zn (zE (sR fL1 Z (oA Z Z (eN (zK ?_)))))))))))))
  have hE:=nE hm78;first | subst r | cases hE
  exact ⟨rfl,_,(zm rfl),U71,_,(hS73.pick [] _ (by decide) rfl),rfl,rfl⟩
theorem wHa (p0:List wAE) (pA0:Option Addr) (pc0:Nat) (w:World) (U:PHeap) (hS:St0 w U []) (ha0:Sl U 3 pA0 pc0 p0.length (nA wAQ p0)) {r:Int} (hm:wBy p0=some r):Gv Tryz.prog 41 [.slice pA0 p0.length pc0] w (wCQ w [] U (fun U_ L_ v=>v=jV r/\L_=[])):=by
 unfold wBy at hm
 refine Gv.of Tryz.func41 Z Tryz.ntmps41 Tryz.results41 Z (sR fL1 Z (oA Z Z (eN (zA (sR (.fl 0 (.fl 1 (.fx 2 (.fl 3 (.nil)) .stop))) Z (oM Z Z (oR Z (zV Z Z zr) (bnK hm fun x1 h2 hm3=>zI 0 Z Z Z Z (zJ Z Z Zg (zB Z (zB Z (zB Z zO))) Z) hS (fun hs=>wBz (↑p0.length:Int) 1 60 w U hs h2) (.inr Z) ?_))))))))
 rintro U4 L5 v6 W7 le8 hS9 ⟨rfl,rfl⟩
 have hS10:sW w U U4 [] W7:=hS9
 refine oR Z (ZO Z Z) (eN (ifc hm3 ?_ ?_))
 ·intro c11 hm12
  refine zg (nC c11.out) (kN (sR (.fx 0 (.fx 1 (.fx 2 (.nil) .stop) .stop) .stop) Z ?_))
  have q:=bnd hm12
  obtain ⟨⟨⟩,h13,hm14⟩:=q
  try dsimp only at hm14
  refine zI 0 Z Z Z Z (zJ Z Z Tryz.call98 zO Z) hS10 (fun hs=>wGT W7 U4 hs h13) (.inr Z) ?_
  rintro U15 L16 v17 W18 le19 hS20 ⟨rfl,rfl⟩
  have hS21:sW w U U15 [] W18:=hS20
  refine ZS (cs:=[.nilFunc,jV 0,jV 0,.nilFunc,jV 0,jV 0,.nilFunc,jV 0,jV 0]) Z Z Z Z Z Tryz.zeroValue161 Z hS21 ?_
  intro W22 b23 hS24
  let B0:List Value:=[.func (.func 142) #[] #[],jV 1,jV 999,.func (.func 143) #[] #[],jV 1,jV 9999,.func (.func 144) #[] #[],jV 0,jV 30]
  refine Zc (j:=0) (vs:=B0) Z Z Z Z hS24 Z Z Z Z Tryz.sizeOf161 (zZ Z) Z Z Z ?_
  intro W26 hS27
  have hS28:sW w U U15 [.blk b23 161 B0] W26:=hS27
  refine eN (zA (sR fL2 rfl (OKS.m rfl rfl rfl rfl (hS28.ldBA (j:=0) rfl rfl rfl Tryz.isAgg161 Tryz.sizeOf161 (vs:=B0) rfl rfl) rfl (zk rfl rfl rfl rfl rfl rfl (eN (zM (CK.unroll 4 (CKR.succ (sR fL1 rfl (zx rfl rfl rfl rfl (fun _=>zN rfl rfl rfl) (eN (zA (zj (wGn (by decide)) (kN (zA (zM (sR (.fl 0 (.fx 1 (.fx 2 (.nil) .stop) .stop)) rfl (zx rfl rfl rfl rfl (fun _=>(Runs.ixA (i:=0) rfl rfl rfl Ze zu (by decide) (by decide) (wDv ZT zu rfl))) ?_))))))))))))))))))
  let B1:List Value:=[.nilFunc,jV 0,jV 0]
  refine ZS (cs:=B1) Z Z Z Z Z ZQ Z hS28 ?_
  intro W29 b30 hS31
  let B2:List Value:=[.func (.func 142) #[] #[],jV 1,jV 999]
  refine Zc (j:=0) (vs:=B2) Z Z Z Z hS31 Z Z Z Z zu (zZ Z) Z Z Z ?_
  intro W33 hS34
  have hS35:sW w U U15 [.blk b30 160 B2,.blk b23 161 B0] W33:=hS34
  refine eN (sR (.fl 0 (.fl 1 (.fx 2 (.fl 3 (.fx 4 (.fl 5 (.nil)) .stop)) .stop))) Z (oL Z (hS35.ldBA (j:=0) Z Z Z ZT zu (vs:=B2) Z Z) (oM Z Z ?_)))
  have hF36:FnOK Tryz.prog U15 (.func (.func 142) #[] #[]) wGh wGi wAX:=⟨142,[],[],rfl,Tryz.call142,fun U1 w1 x y vs le hs ha hm=>by obtain rfl:=ha;exact wCX x w1 U1 hs  hm⟩
  have h37:=ha0.le le8
  have h38:=h37.le le19
  refine bnK hm14 fun x39 h40 hm41=>zI 0 Z Z Z Z (zJ Z Z Tryz.call100 (zB Z (zB Z zO)) Z) hS35 (fun hs=>wBa (⟨wAX,1,999⟩:wAO) (.func (.func 142) #[] #[]) p0 pA0 pc0 W33 U15 hs hF36 h38 h40) (.inr Z) ?_
  rintro U42 L43 v44 W45 le46 hS47 ⟨A48,c49,rfl,rfl⟩
  let B3:Res:=.row A48 c49 3 1 (nA KL.encI x39)
  have hS51:sW w U U42 [B3,.blk b30 160 B2,.blk b23 161 B0] W45:=hS47
  have q:=hS51.freeze (k:=1) rfl
  obtain ⟨U52,le53,hC54,hS55⟩:=q
  replace hC54:=Cl.of hC54
  have hS56:sW w U U52 [B3,.blk b23 161 B0] W45:=hS55
  replace hC54:Cl U52 b30 0 B2:=hC54
  refine oR Z (Runs.mkf Z zO (zB Z zO)) ?_
  have q:=hS56.freezeR (k:=0) (n:=x39.length) rfl (wAF (f:=KL.encI) (sz:=1) (fun _=>rfl) x39) (by decide)
  obtain ⟨U57,le58,hs59,hS60⟩:=q
  have hS61:sW w U U57 [.blk b23 161 B0] W45:=hS60
  have h62:=hC54.le le58
  have hF63:FnOK Tryz.prog U57 (.func (.func 142) #[] #[]) wGh wGi wAX:=⟨142,[],[],rfl,Tryz.call142,fun U1 w1 x y vs le hs ha hm=>by obtain rfl:=ha;exact wCX x w1 U1 hs  hm⟩
  have hF64:FnOK Tryz.prog U57 (.func (.func 101) #[] #[.pointer (some ⟨b30,0,none⟩)]) wNj wNk (fun x=>wAg x (⟨wAX,1,999⟩:wAO)):=⟨101,[],[.pointer (some ⟨b30,0,none⟩)],rfl,Tryz.call101,fun U1 w1 x y vs le hs ha hm=>by obtain rfl:=ha;exact wCt x (⟨wAX,1,999⟩:wAO) b30 (.func (.func 142) #[] #[]) w1 U1 hs (h62.le le) (hF63.le le) hm⟩
  refine bnK hm41 fun x65 h66 hm67=>zI 0 Z Z Z Z (zJ Z Z Tryz.call99 (zB Z (zB Z zO)) Z) hS61 (fun hs=>wCu x39 A48 c49 (fun x=>wAg x (⟨wAX,1,999⟩:wAO)) (.func (.func 101) #[] #[.pointer (some ⟨b30,0,none⟩)]) W45 U57 hs hs59 hF64 h66) (.inr Z) ?_
  rintro U68 L69 v70 W71 le72 hS73 ⟨rfl,rfl⟩
  have hS74:sW w U U68 [.blk b23 161 B0] W71:=hS73
  refine oR Z (ZO Z Z) (eN (ifc hm67 ?_ ?_))
  ·intro c75 hm76
   refine zg (nC c75.out) (ZF (zX (zE (rR fL2 rfl (zx rfl rfl rfl rfl (fun _=>zl (zU rfl rfl rfl) (congrArg (jV) (show w64 (0 + 1)=1 by decide))) (zk rfl rfl rfl rfl rfl rfl (eN (CKR.succ (sR fL1 rfl (zx rfl rfl rfl rfl (fun _=>zN rfl rfl rfl) (eN (zA (zj (wGn (by decide)) (kN (zA (zM (sR (.fl 0 (.fx 1 (.fx 2 (.nil) .stop) .stop)) rfl (zx rfl rfl rfl rfl (fun _=>(Runs.ixA (i:=1) rfl rfl rfl Ze zu (by decide) (by decide) (wDv ZT zu rfl))) (ZS (cs:=B1) rfl rfl rfl rfl rfl ZQ rfl hS74 ?_)))))))))))))))))))
   intro W77 b78 hS79
   let B4:List Value:=[.func (.func 143) #[] #[],jV 1,jV 9999]
   refine Zc (j:=0) (vs:=B4) Z Z Z Z hS79 Z Z Z Z zu (zZ Z) Z Z Z ?_
   intro W81 hS82
   have hS83:sW w U U68 [.blk b78 160 B4,.blk b23 161 B0] W81:=hS82
   refine eN (sR (.fl 0 (.fl 1 (.fx 2 (.fl 3 (.fx 4 (.fl 5 (.nil)) .stop)) .stop))) Z (oL Z (hS83.ldBA (j:=0) Z Z Z ZT zu (vs:=B4) Z Z) (oM Z Z ?_)))
   have hF84:FnOK Tryz.prog U68 (.func (.func 143) #[] #[]) wGh wGi wAY:=⟨143,[],[],rfl,Tryz.call143,fun U1 w1 x y vs le hs ha hm=>by obtain rfl:=ha;exact wCY x w1 U1 hs  hm⟩
   have h85:=h38.le le46
   have h86:=h85.le le53
   have h87:=h86.le le58
   have h88:=h87.le le72
   refine bnK hm76 fun x89 h90 hm91=>zI 0 Z Z Z Z (zJ Z Z Tryz.call100 (zB Z (zB Z zO)) Z) hS83 (fun hs=>wBa (⟨wAY,1,9999⟩:wAO) (.func (.func 143) #[] #[]) p0 pA0 pc0 W81 U68 hs hF84 h88 h90) (.inr Z) ?_
   rintro U92 L93 v94 W95 le96 hS97 ⟨A98,c99,rfl,rfl⟩
   let B5:Res:=.row A98 c99 3 1 (nA KL.encI x89)
   have hS101:sW w U U92 [B5,.blk b78 160 B4,.blk b23 161 B0] W95:=hS97
   have q:=hS101.freeze (k:=1) rfl
   obtain ⟨U102,le103,hC104,hS105⟩:=q
   replace hC104:=Cl.of hC104
   have hS106:sW w U U102 [B5,.blk b23 161 B0] W95:=hS105
   replace hC104:Cl U102 b78 0 B4:=hC104
   refine oR Z (Runs.mkf Z zO (zB Z zO)) ?_
   have q:=hS106.freezeR (k:=0) (n:=x89.length) rfl (wAF (f:=KL.encI) (sz:=1) (fun _=>rfl) x89) (by decide)
   obtain ⟨U107,le108,hs109,hS110⟩:=q
   have hS111:sW w U U107 [.blk b23 161 B0] W95:=hS110
   have h112:=hC104.le le108
   have hF113:FnOK Tryz.prog U107 (.func (.func 143) #[] #[]) wGh wGi wAY:=⟨143,[],[],rfl,Tryz.call143,fun U1 w1 x y vs le hs ha hm=>by obtain rfl:=ha;exact wCY x w1 U1 hs  hm⟩
   have hF114:FnOK Tryz.prog U107 (.func (.func 101) #[] #[.pointer (some ⟨b78,0,none⟩)]) wNj wNk (fun x=>wAg x (⟨wAY,1,9999⟩:wAO)):=⟨101,[],[.pointer (some ⟨b78,0,none⟩)],rfl,Tryz.call101,fun U1 w1 x y vs le hs ha hm=>by obtain rfl:=ha;exact wCt x (⟨wAY,1,9999⟩:wAO) b78 (.func (.func 143) #[] #[]) w1 U1 hs (h112.le le) (hF113.le le) hm⟩
   refine bnK hm91 fun x115 h116 hm117=>zI 0 Z Z Z Z (zJ Z Z Tryz.call99 (zB Z (zB Z zO)) Z) hS111 (fun hs=>wCu x89 A98 c99 (fun x=>wAg x (⟨wAY,1,9999⟩:wAO)) (.func (.func 101) #[] #[.pointer (some ⟨b78,0,none⟩)]) W95 U107 hs hs109 hF114 h116) (.inr Z) ?_
   rintro U118 L119 v120 W121 le122 hS123 ⟨rfl,rfl⟩
   have hS124:sW w U U118 [.blk b23 161 B0] W121:=hS123
   refine oR Z (ZO Z Z) (eN (ifc hm117 ?_ ?_))
   ·intro c125 hm126
    refine zg (nC c125.out) (ZF (zX (zE (rR fL2 rfl (zx rfl rfl rfl rfl (fun _=>zl (zU rfl rfl rfl) (congrArg (jV) (show w64 (1 + 1)=2 by decide))) (zk rfl rfl rfl rfl rfl rfl (eN (CKR.succ (sR fL1 rfl (zx rfl rfl rfl rfl (fun _=>zN rfl rfl rfl) (eN (zA (zj (wGn (by decide)) (kN (zA (zM (sR (.fl 0 (.fx 1 (.fx 2 (.nil) .stop) .stop)) rfl (zx rfl rfl rfl rfl (fun _=>(Runs.ixA (i:=2) rfl rfl rfl Ze zu (by decide) (by decide) (wDv ZT zu rfl))) (ZS (cs:=B1) rfl rfl rfl rfl rfl ZQ rfl hS124 ?_)))))))))))))))))))
    intro W127 b128 hS129
    let B6:List Value:=[.func (.func 144) #[] #[],jV 0,jV 30]
    refine Zc (j:=0) (vs:=B6) Z Z Z Z hS129 Z Z Z Z zu (zZ Z) Z Z Z ?_
    intro W131 hS132
    have hS133:sW w U U118 [.blk b128 160 B6,.blk b23 161 B0] W131:=hS132
    refine eN (sR (.fl 0 (.fl 1 (.fx 2 (.fl 3 (.fx 4 (.fl 5 (.nil)) .stop)) .stop))) Z (oL Z (hS133.ldBA (j:=0) Z Z Z ZT zu (vs:=B6) Z Z) (oM Z Z ?_)))
    have hF134:FnOK Tryz.prog U118 (.func (.func 144) #[] #[]) wGh wGi wAf:=⟨144,[],[],rfl,Tryz.call144,fun U1 w1 x y vs le hs ha hm=>by obtain rfl:=ha;exact wDM x w1 U1 hs  hm⟩
    have h135:=h88.le le96
    have h136:=h135.le le103
    have h137:=h136.le le108
    have h138:=h137.le le122
    refine bnK hm126 fun x139 h140 hm141=>zI 0 Z Z Z Z (zJ Z Z Tryz.call100 (zB Z (zB Z zO)) Z) hS133 (fun hs=>wBa (⟨wAf,0,30⟩:wAO) (.func (.func 144) #[] #[]) p0 pA0 pc0 W131 U118 hs hF134 h138 h140) (.inr Z) ?_
    rintro U142 L143 v144 W145 le146 hS147 ⟨A148,c149,rfl,rfl⟩
    let B7:Res:=.row A148 c149 3 1 (nA KL.encI x139)
    have hS151:sW w U U142 [B7,.blk b128 160 B6,.blk b23 161 B0] W145:=hS147
    have q:=hS151.freeze (k:=1) rfl
    obtain ⟨U152,le153,hC154,hS155⟩:=q
    replace hC154:=Cl.of hC154
    have hS156:sW w U U152 [B7,.blk b23 161 B0] W145:=hS155
    replace hC154:Cl U152 b128 0 B6:=hC154
    refine oR Z (Runs.mkf Z zO (zB Z zO)) ?_
    have q:=hS156.freezeR (k:=0) (n:=x139.length) rfl (wAF (f:=KL.encI) (sz:=1) (fun _=>rfl) x139) (by decide)
    obtain ⟨U157,le158,hs159,hS160⟩:=q
    have hS161:sW w U U157 [.blk b23 161 B0] W145:=hS160
    have h162:=hC154.le le158
    have hF163:FnOK Tryz.prog U157 (.func (.func 144) #[] #[]) wGh wGi wAf:=⟨144,[],[],rfl,Tryz.call144,fun U1 w1 x y vs le hs ha hm=>by obtain rfl:=ha;exact wDM x w1 U1 hs  hm⟩
    have hF164:FnOK Tryz.prog U157 (.func (.func 101) #[] #[.pointer (some ⟨b128,0,none⟩)]) wNj wNk (fun x=>wAg x (⟨wAf,0,30⟩:wAO)):=⟨101,[],[.pointer (some ⟨b128,0,none⟩)],rfl,Tryz.call101,fun U1 w1 x y vs le hs ha hm=>by obtain rfl:=ha;exact wCt x (⟨wAf,0,30⟩:wAO) b128 (.func (.func 144) #[] #[]) w1 U1 hs (h162.le le) (hF163.le le) hm⟩
    refine bnK hm141 fun x165 h166 hm167=>zI 0 Z Z Z Z (zJ Z Z Tryz.call99 (zB Z (zB Z zO)) Z) hS161 (fun hs=>wCu x139 A148 c149 (fun x=>wAg x (⟨wAf,0,30⟩:wAO)) (.func (.func 101) #[] #[.pointer (some ⟨b128,0,none⟩)]) W145 U157 hs hs159 hF164 h166) (.inr Z) ?_
    rintro U168 L169 v170 W171 le172 hS173 ⟨rfl,rfl⟩
    have hS174:sW w U U168 [.blk b23 161 B0] W171:=hS173
    refine oR Z (ZO Z Z) (eN (ifc hm167 ?_ ?_))
    ·intro c175 hm176
     refine zg (nC c175.out) (ZF (zX (zE (CK.fresh fun σ177 hσ178=>?_))))
     have f179:σ177 0=.slice pA0 p0.length pc0:=(hσ178 0).trans rfl
     have f180:σ177 3=.pointer (some ⟨b23,0,none⟩):=(hσ178 3).trans rfl
     have f181:σ177 13=.agg B0.toArray:=(hσ178 13).trans rfl
     have f182:σ177 14=jV 2:=(hσ178 14).trans rfl
     clear hσ178
     refine rR fL2 rfl (zx rfl rfl rfl rfl (fun _=>zl (zU rfl f182 rfl) (congrArg (jV) (show w64 (2 + 1)=3 by decide))) (zk rfl rfl rfl rfl rfl rfl (eN (CKR.succ (sR fL1 rfl (zx rfl rfl rfl rfl (fun _=>zN rfl rfl rfl) (eN (zA (zg (ZN (by decide)) (zt (zQ (zQ (zn (zE (zA (sR fL3 rfl (zx rfl rfl rfl rfl (fun _=>Runs.slAh (k:=2) rfl f180 rfl Ze zu (by decide)) (zx rfl rfl rfl rfl (fun _=>zV rfl rfl Tryz.runUnderlying164) (zk rfl rfl rfl rfl rfl rfl (eN (zM (CK.unroll 3 (CKR.succ (sR fL1 rfl (zx rfl rfl rfl rfl (fun _=>zN rfl rfl rfl) (eN (zA (zj (wGn (by decide)) (kN (zA (zM (sR (.fl 0 (.fl 1 (.fx 2 (.fx 3 (.nil) .stop) .stop))) rfl (zx rfl rfl rfl rfl (fun _=>zl (ze (k:=0) rfl rfl rfl rfl Tryz.runUnderlying164 zu (by decide)) rfl) (OKS.m rfl rfl rfl rfl (hS174.ldBA (j:=0) rfl rfl rfl ZT zu (vs:=B2) rfl rfl) rfl (ZS (cs:=B1) rfl rfl rfl rfl rfl ZQ rfl hS174 ?_)))))))))))))))))))))))))))))))))))
     intro W183 b184 hS185
     refine Zc (j:=0) (vs:=B2) Z Z Z Z hS185 Z Z Z Z zu (zZ Z) Z Z Z ?_
     intro W187 hS188
     have hS189:sW w U U168 [.blk b184 160 B2,.blk b23 161 B0] W187:=hS188
     refine eN (sR (.fl 0 (.fl 1 (.fx 2 (.fx 3 (.nil) .stop) .stop))) Z (oL Z (hS189.ldBA (j:=0) Z Z Z ZT zu (vs:=B2) Z Z) (oM Z f179 ?_)))
     have hF190:FnOK Tryz.prog U168 (.func (.func 142) #[] #[]) wGh wGi wAX:=⟨142,[],[],rfl,Tryz.call142,fun U1 w1 x y vs le hs ha hm=>by obtain rfl:=ha;exact wCX x w1 U1 hs  hm⟩
     have h191:=h138.le le146
     have h192:=h191.le le153
     have h193:=h192.le le158
     have h194:=h193.le le172
     refine bnK hm176 fun x195 h196 hm197=>zI 0 Z Z Z Z (zJ Z Z Tryz.call100 (zB Z (zB Z zO)) Z) hS189 (fun hs=>wBa (⟨wAX,1,999⟩:wAO) (.func (.func 142) #[] #[]) p0 pA0 pc0 W187 U168 hs hF190 h194 h196) (.inr Z) ?_
     rintro U198 L199 v200 W201 le202 hS203 ⟨A204,c205,rfl,rfl⟩
     have hS207:sW w U U198 [.row A204 c205 3 1 (nA KL.encI x195),.blk b184 160 B2,.blk b23 161 B0] W201:=hS203
     have q:=hS207.freezeR (k:=0) (n:=x195.length) rfl (wAF (f:=KL.encI) (sz:=1) (fun _=>rfl) x195) (by decide)
     obtain ⟨U208,le209,hs210,hS211⟩:=q
     have hS212:sW w U U208 [.blk b184 160 B2,.blk b23 161 B0] W201:=hS211
     refine bnK hm197 fun x213 h214 hm215=>zI 0 Z Z Z Z (zJ Z Z Tryz.call87 (zB Z zO) Z) hS212 (fun hs=>wDZ x195 A204 c205 W201 U208 hs hs210 h214) (.inr Z) ?_
     rintro U216 L217 v218 W219 le220 hS221 ⟨rfl,rfl⟩
     have hS222:sW w U U216 [.blk b184 160 B2,.blk b23 161 B0] W219:=hS221
     refine eN (ifc hm215 ?_ ?_)
     ·intro c223 hm224
      refine zj (congrArg nB c223.out) (sR fL1 Z (oA Z Z (eN (zK (zW (zG (zG (zW (zG ?_)))))))))
      cases hm224
      exact ⟨rfl,_,(zm rfl),U216,_,(hS222.pick [] _ (by decide) rfl),rfl,rfl⟩
     ·intro c223 hm225
      refine zg (congrArg nB (nD.2 c223.out)) (ZF (zX (zE (rR fL2 rfl (zx rfl rfl rfl rfl (fun _=>zl (zU rfl rfl rfl) (congrArg (jV) (show w64 (0 + 1)=1 by decide))) (zk rfl rfl rfl rfl rfl rfl (eN (CKR.succ (sR fL1 rfl (zx rfl rfl rfl rfl (fun _=>zN rfl rfl rfl) (eN (zA (zj (wGn (by decide)) (kN (zA (zM (sR (.fl 0 (.fl 1 (.fx 2 (.fx 3 (.nil) .stop) .stop))) rfl (zx rfl rfl rfl rfl (fun _=>zl (ze (k:=1) rfl rfl rfl rfl Tryz.runUnderlying164 zu (by decide)) rfl) (OKS.m rfl rfl rfl rfl (hS222.ldBA (j:=1) rfl rfl rfl ZT zu (vs:=B4) rfl rfl) rfl (ZS (cs:=B1) rfl rfl rfl rfl rfl ZQ rfl hS222 ?_))))))))))))))))))))
      intro W226 b227 hS228
      refine Zc (j:=0) (vs:=B4) Z Z Z Z hS228 Z Z Z Z zu (zZ Z) Z Z Z ?_
      intro W230 hS231
      have hS232:sW w U U216 [.blk b227 160 B4,.blk b184 160 B2,.blk b23 161 B0] W230:=hS231
      refine eN (sR (.fl 0 (.fl 1 (.fx 2 (.fx 3 (.nil) .stop) .stop))) Z (oL Z (hS232.ldBA (j:=0) Z Z Z ZT zu (vs:=B4) Z Z) (oM Z f179 ?_)))
      have hF233:FnOK Tryz.prog U216 (.func (.func 143) #[] #[]) wGh wGi wAY:=⟨143,[],[],rfl,Tryz.call143,fun U1 w1 x y vs le hs ha hm=>by obtain rfl:=ha;exact wCY x w1 U1 hs  hm⟩
      have h234:=h194.le le202
      have h235:=h234.le le209
      have h236:=h235.le le220
      refine bnK hm225 fun x237 h238 hm239=>zI 0 Z Z Z Z (zJ Z Z Tryz.call100 (zB Z (zB Z zO)) Z) hS232 (fun hs=>wBa (⟨wAY,1,9999⟩:wAO) (.func (.func 143) #[] #[]) p0 pA0 pc0 W230 U216 hs hF233 h236 h238) (.inr Z) ?_
      rintro U240 L241 v242 W243 le244 hS245 ⟨A246,c247,rfl,rfl⟩
      have hS249:sW w U U240 [.row A246 c247 3 1 (nA KL.encI x237),.blk b227 160 B4,.blk b184 160 B2,.blk b23 161 B0] W243:=hS245
      have q:=hS249.freezeR (k:=0) (n:=x237.length) rfl (wAF (f:=KL.encI) (sz:=1) (fun _=>rfl) x237) (by decide)
      obtain ⟨U250,le251,hs252,hS253⟩:=q
      have hS254:sW w U U250 [.blk b227 160 B4,.blk b184 160 B2,.blk b23 161 B0] W243:=hS253
      refine bnK hm239 fun x255 h256 hm257=>zI 0 Z Z Z Z (zJ Z Z Tryz.call87 (zB Z zO) Z) hS254 (fun hs=>wDZ x237 A246 c247 W243 U250 hs hs252 h256) (.inr Z) ?_
      rintro U258 L259 v260 W261 le262 hS263 ⟨rfl,rfl⟩
      have hS264:sW w U U258 [.blk b227 160 B4,.blk b184 160 B2,.blk b23 161 B0] W261:=hS263
      refine eN (ifc hm257 ?_ ?_)
      ·intro c265 hm266
       refine zj (congrArg nB c265.out) (sR fL1 Z (oA Z Z (eN (zK (zW (zG (zG (zW (zG ?_)))))))))
       cases hm266
       exact ⟨rfl,_,(zm rfl),U258,_,(hS264.pick [] _ (by decide) rfl),rfl,rfl⟩
      ·intro c265 hm267
       refine zg (congrArg nB (nD.2 c265.out)) (ZF (zX (zE (rR fL2 rfl (zx rfl rfl rfl rfl (fun _=>zl (zU rfl rfl rfl) (congrArg (jV) (show w64 (1 + 1)=2 by decide))) (zk rfl rfl rfl rfl rfl rfl (eN (CKR.succ (sR fL1 rfl (zx rfl rfl rfl rfl (fun _=>zN rfl rfl rfl) (eN (zA (zg (ZN (by decide)) (zt (zQ (zQ (zn (zE (sR fL1 rfl (OKS.ra rfl rfl rfl rfl rfl rfl (eN (zK ?_))))))))))))))))))))))
       cases hm267
       exact ⟨rfl,_,(zm rfl),U258,_,(hS264.pick [] _ (by decide) rfl),rfl,rfl⟩
    ·intro c175 hm268
     refine zj (nF (c175.out)) (sR fL1 Z (oA Z Z (eN (zK (zW (zG (zG (zW (zG ?_)))))))))
     cases hm268
     exact ⟨rfl,_,(zm rfl),U168,_,(hS174.pick [] _ (by decide) rfl),rfl,rfl⟩
   ·intro c125 hm269
    refine zj (nF (c125.out)) (sR fL1 Z (oA Z Z (eN (zK (zW (zG (zG (zW (zG ?_)))))))))
    cases hm269
    exact ⟨rfl,_,(zm rfl),U118,_,(hS124.pick [] _ (by decide) rfl),rfl,rfl⟩
  ·intro c75 hm270
   refine zj (nF (c75.out)) (sR fL1 Z (oA Z Z (eN (zK (zW (zG (zG (zW (zG ?_)))))))))
   cases hm270
   exact ⟨rfl,_,(zm rfl),U68,_,(hS74.pick [] _ (by decide) rfl),rfl,rfl⟩
 ·intro c11 hm271
  refine zj (nF (c11.out)) (sR fL1 Z (oA Z Z (eN (zK (zG ?_)))))
  cases hm271
  exact ⟨Z,_,(zm Z),U4,_,hS10,Z,Z⟩
end Go.Proofs.YtghaibkggdecnaaGreat
namespace Go.Proofs.YtghaibkggdecnaaGreat
open Go.KL
set_option maxHeartbeats 4000000
theorem wCP (p0:Int) (w:World) (U:PHeap) (hS:St0 w U [])  {r:Bool} (hm:wBK p0=some r):Gv Tryz.prog 128 [jV p0] w (wCQ w [] U (fun U_ L_ v=>v=.bool r/\L_=[])):=by
 unfold wBK at hm
 refine Gv.of Tryz.func128 Z Tryz.ntmps128 Tryz.results128 Z (sR fL1 Z (oA Z Z (eN (sR fL4 Z (oM Z Z (oM Z Z (oR Z (ZU Z Z Z) (oA Z Z (eN (zK ?_))))))))))
 cases hm
 exact ⟨Z,_,(zm Z),U,_,hS,Z,Z⟩
theorem wFJ (p0:Int) (p1:Int) (w:World) (U:PHeap) (hS:St0 w U [])  {r:Int} (hm:wBg p0 p1=some r):Gv Tryz.prog 82 [jV p0,jV p1] w (wCQ w [] U (fun U_ L_ v=>v=jV r/\L_=[])):=by
 unfold wBg at hm
 refine Gv.of Tryz.func82 Z Tryz.ntmps82 Tryz.results82 Z (sR fL1 Z (oA Z Z (eN (sR (.fl 0 (.fx 1 (.fl 2 (.nil)) .stop)) Z (oM Z Z (bnK hm fun x1 h2 hm3=>zI 0 Z Z Z Z (zJ Z Z Tryz.call128 (zB Z zO) Z) hS (fun hs=>wCP p0 w U hs h2) (.inr Z) ?_))))))
 rintro U4 L5 v6 W7 le8 hS9 ⟨rfl,rfl⟩
 have hS10:sW w U U4 [] W7:=hS9
 refine oA Z Z (eN (sR (.fl 0 (.fx 1 (.fl 2 (.nil)) .stop)) Z (oM Z Z (bnK hm3 fun x11 h12 hm13=>zI 0 Z Z Z Z (zJ Z Z Tryz.call128 (zB Z zO) Z) hS10 (fun hs=>wCP p1 W7 U4 hs h12) (.inr Z) ?_))))
 rintro U14 L15 v16 W17 le18 hS19 ⟨rfl,rfl⟩
 have hS20:sW w U U14 [] W17:=hS19
 refine oA Z Z (eN (zA (sR fL1 Z (oM Z Z (eN (ifc hm13 ?_ ?_))))))
 ·intro c21 hm22
  refine zj (congrArg nB c21.out) (zA (sR fL1 Z (oM Z Z (eN (ifc hm22 ?_ ?_)))))
  ·intro c23 hm24
   refine zj (congrArg nB c23.out) (sR fL1 Z (oA Z Z (eN (zK (zG (zG ?_))))))
   cases hm24
   exact ⟨Z,_,(zm Z),U14,_,hS20,Z,Z⟩
  ·intro c23 hm25
   refine zg (congrArg nB (nD.2 c23.out)) (kN (sR fL1 Z (oA Z Z (eN (zK (zG ?_))))))
   cases hm25
   exact ⟨Z,_,(zm Z),U14,_,hS20,Z,Z⟩
 ·intro c21 hm26
  refine zg (congrArg nB (nD.2 c21.out)) (kN (zA (sR fL1 Z (oM Z Z (eN (ifc hm26 ?_ ?_))))))
  ·intro c27 hm28
   refine zj (congrArg nB c27.out) (sR fL1 Z (oA Z Z (eN (zK (zG ?_)))))
   cases hm28
   exact ⟨Z,_,(zm Z),U14,_,hS20,Z,Z⟩
  ·intro c27 hm29
   refine zg (congrArg nB (nD.2 c27.out)) (kN (zA (sR fL3 Z (oM Z Z (oM Z Z (oR Z (zN Z Z Z) (eN (ifc hm29 ?_ ?_))))))))
   ·intro c30 hm31
    refine cT Z c30 (sR fL1 Z (oA Z Z (eN (zK (zG ?_)))))
    cases hm31
    exact ⟨Z,_,(zm Z),U14,_,hS20,Z,Z⟩
   ·intro c30 hm32
    refine cF Z c30 (kN (zA (sR fL3 Z (oM Z Z (oM Z Z (oR Z (ZR Z Z Z) (eN (ifc hm32 ?_ ?_))))))))
    ·intro c33 hm34
     refine cT Z c33 (sR fL1 Z (oA Z Z (eN (zK (zG ?_)))))
     cases hm34
     exact ⟨Z,_,(zm Z),U14,_,hS20,Z,Z⟩
    ·intro c33 hm35
     refine cF Z c33 (kN (sR fL1 Z (oA Z Z (eN (zK ?_)))))
     cases hm35
     exact ⟨Z,_,(zm Z),U14,_,hS20,Z,Z⟩
theorem wFX (p0:Int) (p1:Int) (p2:List wAE) (pb2:Nat) (pA2:Option Addr) (pc2:Nat) (w:World) (U:PHeap) (hS:St0 w U []) (ha0:Cl U pb2 0 [.slice pA2 p2.length pc2]) (ha1:Sl U 3 pA2 pc2 p2.length (nA wAQ p2)) {r:Int} (hm:wAo p0 p1 p2=some r):Gv Tryz.prog 130 [jV p0,jV p1,.pointer (some ⟨pb2,0,none⟩)] w (wCQ w [] U (fun U_ L_ v=>v=jV r/\L_=[])):=by
 unfold wAo at hm
 refine Gv.of Tryz.func130 rfl Tryz.ntmps130 Tryz.results130 rfl (sR fL1 rfl (OKS.ra rfl rfl rfl rfl rfl rfl (eN (zA (ZK ZJ [1,3,3,3,1,1,3,3,3,1,2,3] (fC0_9 (.fx 10 (.fl 11 (.nil)) .stop)) (by kernel_rfl) ?_)))))
 have hS1:=hS.drew
 generalize hw_W2:({ w with drawn:=w.drawn + 1 }:World)=W2 at hS1 ⊢
 refine oL Z (hS1.ldC (f:=0) ha0 (v:=.slice pA2 p2.length pc2) Z Z Tryz.isAgg58 Z) (oM Z Z (bnK hm fun x3 h4 hm5=>?_))
 have q:=ha1.el (fun _=>rfl) (wAU h4)
 obtain ⟨b6,off7,hA8,hC9⟩:=q
 refine oR Z (Runs.iaI Z Z hA8 Z zr ZH (wDj h4) (wEI h4)) (oR Z (zq Z Z ZX Z zF) (oL Z (hS1.ldC (f:=2) hC9 (v:=jV x3.Rank) Z Z zH Z) (oL Z (hS1.ldC (f:=0) ha0 (v:=.slice pA2 p2.length pc2) Z Z Tryz.isAgg58 Z) (oM Z Z (bnK hm5 fun x10 h11 hm12=>?_)))))
 have q:=ha1.el (fun _=>rfl) (wAU h11)
 obtain ⟨b13,off14,hA15,hC16⟩:=q
 refine oR Z (Runs.iaI Z Z hA15 Z zr ZH (wDj h11) (wEI h11)) (oR Z (zq Z Z ZX Z zF) (oL Z (hS1.ldC (f:=2) hC16 (v:=jV x10.Rank) Z Z zH Z) (bnK hm12 fun x17 h18 hm19=>zI 0 Z Z Z Z (zJ Z Z Tryz.call82 (zB Z (zB Z zO)) Z) hS1 (fun hs=>wFJ x3.Rank x10.Rank W2 U hs h18) (.inr Z) ?_)))
 rintro U20 L21 v22 W23 le24 hS25 ⟨rfl,rfl⟩
 have hS26:sW w U U20 [] W23:=hS25
 refine oA Z Z (eN (zK ?_))
 have hE:=nE hm19;first | subst r | cases hE
 exact ⟨Z,_,(zm Z),U20,_,hS26,Z,Z⟩
theorem wDG (p0:List Int) (pA0:Option Addr) (pc0:Nat) (p1:((Int × Int)->Option Int)) (pv1:Value) (w:World) (U:PHeap) (hS:St ⟨w,[.row pA0 pc0 3 1 (nA KL.encI p0)],U⟩ U [.row pA0 pc0 3 1 (nA KL.encI p0)] w) (ha0:FnOK Tryz.prog U pv1 ar50 rr50 p1) (ha1:∃ g cb,pv1=.func (.func g) #[] cb) {r:List Int} (hm:wBe p0 p1=some r):Gv Tryz.prog 106 [.slice pA0 p0.length pc0,pv1] w (wCQ w [.row pA0 pc0 3 1 (nA KL.encI p0)] U (fun U_ L_ v=>v=.tuple #[]/\L_=[.row pA0 pc0 3 1 (nA KL.encI r)]/\r.length=p0.length)) :=
 wLM (enc1:=(fun x=>.int .i64 x)) (fun _=>rfl) (fun _=>rfl) (fun _ _ _=>rfl) (fun _ _ _ _ h=>h.1) (fun enc a cf b g cb k1 k2 k3 d w h1 h2 h3 h4 h5 h6=>Go.Proofs.Tryz.slices_SortFunc_total enc a cf b g cb k1 k2 k3 d w h1 h2 h3 h4 h5 h6) (fun p c v w=>Go.Proofs.Tryz.slices_SortFunc_none_f106 (α:=Int) p c v w) hS ha0 ha1 hm
theorem wGj (p0:List wAE) (pA0:Option Addr) (pc0:Nat) (w:World) (U:PHeap) (hS:St0 w U []) (ha0:Sl U 3 pA0 pc0 p0.length (nA wAQ p0)) {r:(List Int)} (hm:wBo p0=some r):Gv Tryz.prog 89 [.slice pA0 p0.length pc0] w (wCQ w [] U (fun U_ L_ v=>∃ (A0:Option Addr) (c0:Nat),v=.slice A0 r.length c0/\L_=[.row A0 c0 3 1 (nA KL.encI r)])):=by
 unfold wBo at hm
 refine Gv.of Tryz.func89 rfl Tryz.ntmps89 Tryz.results89 rfl (sR (.fx 0 (.fl 1 (.nil)) .stop) rfl (OKS.box (cs:=[.slice pA0 p0.length pc0]) rfl rfl rfl rfl rfl rfl (by rfl) hS ?_))
 intro W1 b2 hS3
 have q:=hS3.freeze (k:=0) rfl
 obtain ⟨U5,le6,hC7,hS8⟩:=q
 replace hC7:=Cl.of hC7
 have hS9:sW w U U5 [] W1:=hS8
 replace hC7:Cl U5 b2 0 [.slice pA0 p0.length pc0]:=hC7
 refine oA Z Z (eN (sR (.fl 0 (.fl 1 (.fx 2 (.fl 3 (.nil)) .stop))) Z (oL Z (hS9.ldC (f:=0) hC7 (v:=.slice pA0 p0.length pc0) Z Z Tryz.isAgg58 Z) (oR Z (zV Z Z zr) (bnK hm fun x10 h11 hm12=>OKS.makeSlice (enc:=KL.encI) (z:=(0:Int)) (v:=jV 0) Z Z Z Z Z (wDl zP) wEC Z Z Z Z Z Z h11 hS9 ?_)))))
 intro W13 b14 hS15
 have hS17:sW w U U5 [.row (some ⟨b14,0,none⟩) x10.length 3 1 (nA KL.encI x10)] W13:=hS15
 refine oA Z Z (eN (zA (sR fL3 Z (oL Z (hS17.ldC (f:=0) hC7 (v:=.slice pA0 p0.length pc0) Z Z Tryz.isAgg58 Z) (oR Z (zV Z Z zr) (oM Z Z (eN (zM (bnK hm12 fun y29 hf26 hm25=>?_)))))))))
 have q:=wBb hf26
 obtain ⟨hle27,hf28⟩:=q
 replace hle27:=zC hle27
 refine CK.forN' (fun k24 l23 σ_ w_=>∃ (U_:PHeap),σ_ 10=jV (↑k24:Int)/\σ_ 1=.pointer (some ⟨b2,0,none⟩)/\σ_ 3=.slice (some ⟨b14,0,none⟩) l23.length x10.length/\σ_ 9=jV (↑p0.length:Int)/\PHeap.Le U5 U_/\sW w U U_ [.row (some ⟨b14,0,none⟩) x10.length 3 1 (nA KL.encI l23)] w_/\l23.length=x10.length) hf28 ?_ ?_ ?_
 ·exact ⟨U5,Z,Z,Z,Z,(zS _),hS17,Z⟩
 ·rintro k24 l23 xx32 σ30 W31 hk35 ⟨U37,fi36,f40,f41,f42,le38,hS39,h43⟩ hx33
  have c44:Hid ((↑k24:Int) < (↑p0.length:Int)):=zC (wBL hk35)
  replace hk35:=zC hk35
  have hi45:Hid (w64 ((↑k24:Int) + 1)=(↑(k24 + 1):Int)):=zC (by have h1:=hle27.out;have h2:=c44.out;rw [wAe] <;> omega)
  refine sR fL1 Z (oR Z (zN Z fi36 f42) (eN (zA (cT Z c44 (kN (zA (zM (sR fL2 Z (oM Z fi36 (oA Z Z (eN (rR (wGZ (.fx 4 (.nil) .stop)) Z (oM Z f41 (oM Z Z (oM Z Z (bnK hx33 fun _ h46 hm47=>oR Z (ze Z Z Z Z zP zF (wBJ h46)) ?_))))))))))))))))
  have hg48:=wCK (xs:=l23) (wBJ h46)
  refine OKS.stR (j:=0) (vs:=[jV (↑k24:Int)]) (cs':=nA KL.encI (nN l23 k24 (↑k24:Int))) rfl rfl rfl rfl hS39 rfl rfl rfl rfl rfl zF (by rw [wAF (f:=KL.encI) (sz:=1) (fun _=>rfl)];have hz:=wBJ h46;simp only [nJ,nH,nI,List.length_cons,List.length_nil];first | omega | (simp only [nK];omega)) rfl (wHK (sz:=1) (fo:=0) (fun _=>rfl) _ _ _ _ hg48 (by first | omega | (simp only [nK];omega) | (simp only [nJ,nH,nI];omega)) (zZ rfl) rfl) rfl ?_
  intro W49 hS50
  have hS51:sW w U U37 [.row (some ⟨b14,0,none⟩) x10.length 3 1 (nA KL.encI (nN l23 k24 (↑k24:Int)))] W49:=hS50
  refine zi (zX (zE (rR fL2 Z (oR Z (zl (zU Z fi36 Z) (congrArg (jV) hi45.out)) (oM Z Z (zi ?_))))))
  cases hm47
  exact zE ⟨rfl,⟨U37,rfl,f40,(Eq.trans (b:=(.slice (some ⟨b14,0,none⟩) l23.length x10.length:Value)) (c:=(.slice (some ⟨b14,0,none⟩) ((nN l23 k24 (↑k24:Int)).length) x10.length:Value)) f41 (by simp only [nL])),f42,le38,hS51,(by simp only [nL];exact h43)⟩⟩
 ·rintro σ53 W54 ⟨U58,fi56,f61,f62,f63,le59,hS60,h64⟩
  have c65:Hid (¬ ((↑(((↑p0.length:Int):Int) - 0).toNat:Int) < (↑p0.length:Int))):=zC (wAv)
  refine sR fL1 Z (oR Z (zN Z fi56 f63) (eN (zA (cF Z c65 (zt (zQ (zQ (zn (zE (sR (.fl 0 (.fl 1 (.fx 2 (.nil) .stop))) Z (oM Z f62 (oR Z (Runs.mkf Z zO (zB f61 zO)) ?_))))))))))))
  have h66:=hC7.le le59
  have h67:=ha0.le le6
  have h68:=h67.le le59
  have hF69:FnOK Tryz.prog U58 (.func (.func 130) #[] #[.pointer (some ⟨b2,0,none⟩)]) ar50 rr50 (fun x=>wAo x.1 x.2 p0):=⟨130,[],[.pointer (some ⟨b2,0,none⟩)],rfl,Tryz.call130,fun U1 w1 x y vs le hs ha hm=>by obtain rfl:=ha;exact wFX x.1 x.2 p0 b2 pA0 pc0 w1 U1 hs (h66.le le) (h68.le le) hm⟩
  refine bnK hm25 fun x70 h71 hm72=>zI 1 Z Z Z Z (zJ Z Z Tryz.call106 (zB Z (zB Z zO)) Z) hS60 (fun hs=>wDG y29 (some ⟨b14,0,none⟩) x10.length (fun x=>wAo x.1 x.2 p0) (.func (.func 130) #[] #[.pointer (some ⟨b2,0,none⟩)]) W54 U58 hs hF69 ⟨_,_,Z⟩ h71) (.inl Z) ?_
  rintro U73 L74 v75 W76 le77 hS78 ⟨rfl,rfl,h79⟩
  have hS80:sW w U U73 [.row (some ⟨b14,0,none⟩) x10.length 3 1 (nA KL.encI x70)] W76:=hS78
  refine eN (sR fL2 rfl (zk rfl rfl rfl rfl rfl (Eq.trans (b:=(.slice (some ⟨b14,0,none⟩) y29.length x10.length:Value)) (c:=(.slice (some ⟨b14,0,none⟩) x70.length x10.length:Value)) f62 (by rw [h79])) (OKS.ra rfl rfl rfl rfl rfl rfl (eN (zK ?_)))))
  have hE:=nE hm72;first | subst r | cases hE
  exact ⟨Z,_,(zm Z),U73,_,hS80,(some ⟨b14,0,none⟩),x10.length,Z,Z⟩
theorem wHb (p0:List wAE) (pA0:Option Addr) (pc0:Nat) (p1:Int) (w:World) (U:PHeap) (hS:St0 w U []) (ha0:Sl U 3 pA0 pc0 p0.length (nA wAQ p0)) {r:(List wBQ) × Int} (hm:wBc p0 p1=some r):Gv Tryz.prog 30 [.slice pA0 p0.length pc0,jV p1] w (wCQ w [] U (fun U_ L_ v=>∃ (A0:Option Addr) (c0:Nat),v=.tuple #[.slice A0 r.1.length c0,jV r.2]/\L_=[.row A0 c0 70 3 (nA wBI r.1)])):=by
 unfold wBc at hm
 refine Gv.of Tryz.func30 Z Tryz.ntmps30 Tryz.results30 Z (sR fL2 Z (oA Z Z (oA Z Z (eN (sR (.fl 0 (.fx 1 (.fl 2 (.nil)) .stop)) Z (oM Z Z (bnK hm fun x1 h2 hm3=>zI 0 Z Z Z Z (zJ Z Z Tryz.call41 (zB Z zO) Z) hS (fun hs=>wHa p0 pA0 pc0 w U hs ha0 h2) (.inr Z) ?_)))))))
 rintro U4 L5 v6 W7 le8 hS9 ⟨rfl,rfl⟩
 have hS10:sW w U U4 [] W7:=hS9
 refine oA Z Z (eN (zA (zM (sR fL3 Z (oM Z Z (oR Z (ZU Z Z Z) (oA Z Z (eN (ifc hm3 ?_ ?_)))))))))
 ·intro c11 hm12
  refine zg (ZN (fun h=>h c11.out)) (sR (.fl 0 (.fx 1 (.fl 2 (.fl 3 (.nil))) .stop)) Z (oM Z Z (bnK hm12 fun x13 h14 hm15=>zI 0 Z Z Z Z (zJ Z Z Zg (zB Z (zB Z (zB Z zO))) Z) hS10 (fun hs=>wBz p1 1 20 W7 U4 hs h14) (.inr Z) ?_)))
  rintro U16 L17 v18 W19 le20 hS21 ⟨rfl,rfl⟩
  have hS22:sW w U U16 [] W19:=hS21
  refine oR Z (ZO Z Z) (oA Z Z (eN (ifc hm15 ?_ ?_)))
  ·intro c23 hm24
   refine zg (nC c23.out) (ZF (zX (zE (sR (wKr (.fx 3 (.fl 4 (.nil)) .stop)) Z (oM Z Z (oR Z (zU Z Z Z) (bnK hm24 fun x25 h26 hm27=>oR Z (Runs.quo Z Z Z h26) (zY (pv:=[(0,jV x25)]) (zs:=[jV 0]) (cs:=[jV x25]) Z Z Z Z Z (wAH Z wAV) zP zF ZI Z Z Z Z Z hS22 ?_))))))))
   intro W28 b29 hS30
   have hS32:sW w U U16 [.row (some ⟨b29,0,none⟩) 1 3 1 (nA KL.encI [x25])] W28:=hS30
   refine oA Z Z (eN (zA (sR fL1 Z (oA Z Z (eN (zM (CK.iter (fun (l45,x48) σ_ w_=>∃ (U_:PHeap) (A46:Option Addr) (c47:Nat),σ_ 0=.slice pA0 p0.length pc0/\σ_ 1=jV p1/\σ_ 7=.slice A46 l45.length c47/\σ_ 8=jV x48/\PHeap.Le U16 U_/\sW w U U_ [.row A46 c47 3 1 (nA KL.encI l45)] w_) hm27 ?_ ?_)))))))
   ·exact ⟨U16,(some ⟨b29,0,none⟩),1,Z,Z,Z,Z,(zS _),hS32⟩
   ·rintro ⟨l45,x48⟩ xx51 σ49 W50 ⟨U56,A46,c47,f59,f60,f61,f62,le57,hS58⟩ hx52 hb53
    try dsimp only at hx52
    refine zA (sR fL4 Z (oM Z f61 (oR Z (zV Z Z zP) (oM Z f60 (oR Z (zN Z Z Z) (eN ?_))))))
    by_cases c63:(↑l45.length:Int) < p1
    ·have hm64:=hx52;rw [if_pos c63] at hm64;replace c63:=zC c63
     refine cT Z c63 (kN (zA (zM (zA (ZK ZJ [3,3,1,3,3,3,3,1,3,3,3,3] fL12 (by kernel_rfl) ?_)))))
     have hS65:=hS58.drew
     generalize hw_W66:({ W50 with drawn:=W50.drawn + 1 }:World)=W66 at hS65 ⊢
     refine oM Z f61 (bnK hm64 fun _ h67 hm68=>?_)
     obtain ⟨b69,hA70⟩:=hS65.rowSome (j:=0) rfl (by rw [wAF (f:=KL.encI) (sz:=1) (fun _=>rfl) l45];have hz:=wBJ h67;omega)
     refine oR Z (ze Z Z hA70 Z zP zF (wBJ h67)) ?_
     have hg71:=wCK (xs:=l45) (wBJ h67)
     refine OKS.m rfl rfl rfl rfl (hS65.ldR (j:=0) rfl hA70 rfl rfl zH (wCG (sz:=1) (fun _=>rfl) _ _ 0 _ hg71 (by first | omega | rfl | simp) rfl)) rfl (zk rfl rfl rfl rfl rfl f62 (zx rfl rfl rfl rfl (fun _=>zU rfl rfl rfl) (zk rfl rfl rfl rfl rfl f61 (zx rfl rfl rfl rfl (fun _=>ze rfl rfl hA70 rfl zP zF (wBJ h67)) ?_))))
     have hg72:=wCK (xs:=l45) (wBJ h67)
     refine OKS.m rfl rfl rfl rfl (hS65.ldR (j:=0) rfl hA70 rfl rfl zH (wCG (sz:=1) (fun _=>rfl) _ _ 0 _ hg72 (by first | omega | rfl | simp) rfl)) rfl (zk rfl rfl rfl rfl rfl f62 (zx rfl rfl rfl rfl (fun _=>Runs.subw rfl rfl rfl) ?_))
     let B0:List Value:=[jV (w64 ((gd l45 0) + x48)),jV (w64 ((gd l45 0) - x48))]
     refine oR Z (Runs.buildA (pv:=[(0,jV (w64 ((gd l45 0) + x48))),(1,jV (w64 ((gd l45 0) - x48)))]) (z:=[jV 0,jV 0]) (cs:=B0) Z (wAH Z (wAH Z wAV)) Tryz.zeroValue138 Tryz.runUnderlying138 zF Z Z) (oM Z Z (eN (zM (bnK hm68 fun y92 hf89 hm88=>?_))))
     have q:=wBb hf89
     obtain ⟨hle90,hf91⟩:=q
     replace hle90:=zC hle90
     refine CK.forN' (fun k87 l84 σ_ w_=>∃ (U_:PHeap) (A85:Option Addr) (c86:Nat),σ_ 45=jV (↑k87:Int)/\σ_ 0=.slice pA0 p0.length pc0/\σ_ 1=jV p1/\σ_ 7=.slice A85 l84.length c86/\σ_ 8=jV x48/\σ_ 44=.agg B0.toArray/\PHeap.Le U56 U_/\sW w U U_ [.row A85 c86 3 1 (nA KL.encI l84)] w_) hf91 ?_ ?_ ?_
     ·exact ⟨U56,A46,c47,Z,f59,f60,f61,f62,Z,(zS _),hS65⟩
     ·rintro k87 l84 xx95 σ93 W94 hk98 ⟨U100,A85,c86,fi99,f103,f104,f105,f106,f107,le101,hS102⟩ hx96
      have c108:Hid ((↑k87:Int) < 2):=zC (wBL hk98)
      replace hk98:=zC hk98
      have hi109:Hid (w64 ((↑k87:Int) + 1)=(↑(k87 + 1):Int)):=zC (by have h1:=hle90.out;have h2:=c108.out;rw [wAe] <;> omega)
      refine sR fL1 Z (oR Z (zN Z fi99 Z) (eN (zA (cT Z c108 (kN (zA (zM (sR fL2 Z (bnK hx96 fun x110 h111 hm112=>oR Z (Runs.ixA (cs:=nA KL.encI ([w64 ((gd l45 0) + x48),w64 ((gd l45 0) - x48)]:List Int)) Z f107 fi99 Tryz.runUnderlying138 zF (wDj h111) (wEI h111) (wEl zH (wDL (sz:=1) (fun _=>Z) _ _ 0 _ _ (wAU h111) Z))) (oA Z Z (eN (sR (.fl 0 (.fl 1 (.fx 2 (.nil) .stop))) Z (oM Z Z (oM Z f104 (bnK hm112 fun x113 h114 hm115=>zI 0 Z Z Z Z (zJ Z Z Zg (zB Z (zB Z (zB Z zO))) Z) hS102 (fun hs=>wBz x110 1 p1 W94 U100 hs h114) (.inr Z) ?_)))))))))))))))
      rintro U116 L117 v118 W119 le120 hS121 ⟨rfl,rfl⟩
      let B1:Res:=.row A85 c86 3 1 (nA KL.encI l84)
      have hS122:sW w U U116 [B1] W119:=hS121
      refine eN (ifc hm115 ?_ ?_)
      ·intro c123 hm124
       refine zj (congrArg nB c123.out) (rR (.fl 0 (.fl 1 (.fx 2 (.fx 3 (.fl 4 (.nil)) .stop) .stop))) Z (oM Z f105 (oM Z Z (zY (pv:=[(0,jV x110)]) (zs:=[jV 0]) (cs:=[jV x110]) Z Z Z Z Z (wAH Z wAV) zP zF ZI Z Z Z Z Z hS122 ?_))))
       intro W125 b126 hS127
       let B2:Res:=.row (some ⟨b126,0,none⟩) 1 3 1 (nA KL.encI [x110])
       have hS129:sW w U U116 [B2,B1] W125:=hS127
       refine bnK hm124 fun x130 h131 hm132=>zp (j:=1) (enc:=KL.encI) (xs:=l84) (ys:=[x110]) (zs:=x130) rfl rfl rfl rfl rfl ZD wEC rfl rfl rfl rfl rfl rfl hS129 rfl rfl rfl (hS129.srcR (j:=0) rfl (by decide) (wAF (f:=KL.encI) (sz:=1) (fun _=>rfl) [x110])) (fun _=>rfl) (fun _=>rfl) h131 rfl ?_
       intro A133 c134 W135 hS136
       have hS137:sW w U U116 [B2,.row A133 c134 3 1 (nA KL.encI x130)] W135:=hS136
       refine oA Z Z (zi (zX (zE (rR fL2 Z (oR Z (zl (zU Z fi99 Z) (congrArg (jV) hi109.out)) (oM Z Z (zi ?_)))))))
       cases hm132
       exact zE ⟨rfl,⟨U116,A133,c134,rfl,f103,f104,rfl,f106,f107,(le101.trans le120),(hS137.pick [1] _ (by decide) rfl)⟩⟩
      ·intro c123 hm141
       refine zg (congrArg nB (nD.2 c123.out)) (ZF (zX (zE (rR fL2 Z (oR Z (zl (zU Z fi99 Z) (congrArg (jV) hi109.out)) (oM Z Z (zi ?_)))))))
       cases hm141
       exact zE ⟨Z,⟨U116,A85,c86,Z,f103,f104,f105,f106,f107,(le101.trans le120),hS122⟩⟩
     ·rintro σ145 W146 ⟨U154,A152,c153,fi148,f157,f158,f159,f160,f161,le155,hS156⟩
      have c162:Hid (¬ ((↑((2:Int) - 0).toNat:Int) < 2)):=zC (wAv)
      refine sR fL1 Z (oR Z (zN Z fi148 Z) (eN (zA (cF Z c162 (zt (zQ (zQ (zn (zX (zE (rR fL3 Z (oM Z f160 (oR Z (zU Z Z Z) (oA Z Z (zi ?_)))))))))))))))
      obtain rfl:=nE hm88
      exact zE ⟨Z,_,Z,⟨U154,A152,c153,f157,f158,f159,Z,(le57.trans le155),hS156⟩⟩
    ·have hm167:=hx52;rw [if_neg c63] at hm167;replace c63:=zC c63
     refine cF Z c63 (zt (zQ ?_))
     have q:=wAl hm167
     obtain ⟨v168,hm169,e170⟩:=q
     obtain rfl:=hb53 v168 e170
     refine zQ (zn (zE (sR fL1 Z (oA Z Z (eN (zA (sR (.fl 0 (.fx 1 (.fl 2 (.fl 3 (.nil))) .stop)) Z (oM Z f59 ?_))))))))
     have h171:=ha0.le le8
     have h172:=h171.le le20
     have h173:=h172.le le57
     refine bnK hm169 fun x174 h175 hm176=>zI 0 Z Z Z Z (zJ Z Z Tryz.call89 (zB Z zO) Z) hS58 (fun hs=>wGj p0 pA0 pc0 W50 U56 hs h173 h175) (.inr Z) ?_
     rintro U177 L178 v179 W180 le181 hS182 ⟨A183,c184,rfl,rfl⟩
     let B3:Res:=.row A183 c184 3 1 (nA KL.encI x174)
     let B4:Res:=.row A46 c47 3 1 (nA KL.encI l45)
     have hS186:sW w U U177 [B3,B4] W180:=hS182
     refine oR Z (zV Z Z zP) (oM Z Z (eN (zM (bnK hm176 fun y209 hf206 hm205=>?_))))
     have q:=wBb hf206
     obtain ⟨hle207,hf208⟩:=q
     replace hle207:=zC hle207
     refine CK.forN' (fun k204 l200 σ_ w_=>∃ (U_:PHeap) (A201:Option Addr) (c202:Nat),σ_ 59=jV (↑k204:Int)/\σ_ 0=.slice pA0 p0.length pc0/\σ_ 1=jV p1/\σ_ 7=.slice A46 l45.length c47/\σ_ 11=.slice A201 l200.length c202/\σ_ 57=.slice A183 x174.length c184/\σ_ 58=jV (↑x174.length:Int)/\PHeap.Le U177 U_/\sW w U U_ [B4,.row A201 c202 70 3 (nA wBI l200),B3] w_) hf208 ?_ ?_ ?_
     ·have hS210:=hS186.nilrow 70 3
      exact ⟨U177,none,0,rfl,f59,f60,f61,rfl,rfl,rfl,(zS _),(hS210.pick [2,0,1] _ (by decide) rfl)⟩
     ·rintro k204 l200 xx214 σ212 W213 hk217 ⟨U219,A201,c202,fi218,f222,f223,f224,f225,f226,f227,le220,hS221⟩ hx215
      have c228:Hid ((↑k204:Int) < (↑x174.length:Int)):=zC (wBL hk217)
      replace hk217:=zC hk217
      have hi229:Hid (w64 ((↑k204:Int) + 1)=(↑(k204 + 1):Int)):=zC (by have h1:=hle207.out;have h2:=c228.out;rw [wAe] <;> omega)
      refine sR fL1 Z (oR Z (zN Z fi218 f227) (eN (zA (cT Z c228 (kN (zA (zM (sR fL5 Z (oM Z fi218 (bnK hx215 fun _ h230 hm231=>?_))))))))))
      obtain ⟨b232,hA233⟩:=hS221.rowSome (j:=2) rfl (by rw [wAF (f:=KL.encI) (sz:=1) (fun _=>rfl) x174];have hz:=wBJ h230;omega)
      refine oR Z (ze Z f226 hA233 fi218 zP zF (wBJ h230)) ?_
      have hg234:=wCK (xs:=x174) (wBJ h230)
      refine OKS.m rfl rfl rfl rfl (hS221.ldR (j:=2) rfl hA233 rfl rfl zH (wCG (sz:=1) (fun _=>rfl) _ _ 0 _ hg234 (by first | omega | rfl | simp) rfl)) rfl (OKS.ra rfl rfl rfl rfl rfl rfl (OKS.ra rfl rfl rfl rfl rfl rfl (eN (ZK ZJ [3,3,3,3,3,1,3,3,3,3,3,3,3,3,3,1,3,2,0,3] (wRF (.fx 17 (.fx 18 (.fl 19 (.nil)) .stop) .stop)) (by kernel_rfl) ?_))))
      have hS235:=hS221.drew
      generalize hw_W236:({ W213 with drawn:=W213.drawn + 1 }:World)=W236 at hS235 ⊢
      refine oM Z f225 (oM Z f222 (oM Z Z (bnK hm231 fun x237 h238 hm239=>?_)))
      have h240:=h173.le le181
      have h241:=h240.le le220
      have q:=h241.el (fun _=>rfl) (wAU h238)
      obtain ⟨b242,off243,hA244,hC245⟩:=q
      refine oR Z (Runs.iaI Z Z hA244 Z zr ZH (wDj h238) (wEI h238)) (oR Z (zq Z Z ZX Z zF) (oL Z (hS235.ldC (f:=0) hC245 (v:=jV x237.Bib) Z Z zH Z) (oM Z Z (oM Z f223 (bnK hm239 fun x246 h247 hm248=>oR Z (Runs.quo Z Z Z h247) (oR Z (zU Z Z Z) (oM Z f224 (oM Z Z (oM Z f223 (bnK hm248 fun x249 h250 hm251=>oR Z (Runs.rem Z Z Z h250) (bnK hm251 fun _ h252 hm253=>?_)))))))))))
      obtain ⟨b254,hA255⟩:=hS235.rowSome (j:=0) rfl (by rw [wAF (f:=KL.encI) (sz:=1) (fun _=>rfl) l45];have hz:=wBJ h252;omega)
      refine oR Z (Runs.iaI Z Z hA255 Z zP zF (wKz h252) (wLA h252)) ?_
      have hg256:=wCK (xs:=l45) (wBJ h252)
      refine OKS.m rfl rfl rfl rfl (hS235.ldR (j:=0) rfl hA255 rfl rfl zH (wCG (sz:=1) (fun _=>rfl) _ _ 0 _ hg256 (by first | omega | rfl | simp) rfl)) rfl ?_
      let B5:List Value:=[jV x237.Bib,jV (w64 (x246 + 1)),jV (gd l45 x249.toNat)]
      let B6:List Value:=[jV 0,jV 0,jV 0]
      refine oR Z (ZP (pv:=[(0,jV x237.Bib),(1,jV (w64 (x246 + 1))),(2,jV (gd l45 x249.toNat))]) (z:=B6) (cs:=B5) Z (wAH Z (wAH Z (wAH Z wAV))) Tryz.zeroValue70 wNm Z Z) (zY (pv:=[(0,.agg B5.toArray)]) (zs:=B6) (cs:=B5) Z Z Z Z Z (wAH Z wAV) Tryz.runUnderlying63 Tryz.sizeOf70 Tryz.zeroValue70 Z Z Z Z Z hS235 ?_)
      intro W257 b258 hS259
      let B7:Res:=.row (some ⟨b258,0,none⟩) 1 70 3 (nA wBI [(⟨x237.Bib,w64 (x246 + 1),(gd l45 x249.toNat)⟩:wBQ)])
      have hS261:sW w U U219 [B7,B4,.row A201 c202 70 3 (nA wBI l200),B3] W257:=hS259
      refine bnK hm253 fun x262 h263 hm264=>zp (j:=2) (enc:=wBI) (xs:=l200) (ys:=[(⟨x237.Bib,w64 (x246 + 1),(gd l45 x249.toNat)⟩:wBQ)]) (zs:=x262) rfl rfl rfl rfl rfl Tryz.underlying63 wQm rfl rfl rfl rfl rfl rfl hS261 rfl rfl rfl (hS261.srcR (j:=0) rfl (by decide) (wAF (f:=wBI) (sz:=3) (fun _=>rfl) [(⟨x237.Bib,w64 (x246 + 1),(gd l45 x249.toNat)⟩:wBQ)])) (fun _=>rfl) (fun _=>rfl) h263 rfl ?_
      intro A265 c266 W267 hS268
      have hS269:sW w U U219 [B7,B4,.row A265 c266 70 3 (nA wBI x262),B3] W267:=hS268
      refine oA Z Z (zi (zX (zE (rR fL2 Z (oR Z (zl (zU Z fi218 Z) (congrArg (jV) hi229.out)) (oM Z Z (zi ?_)))))))
      cases hm264
      exact zE ⟨rfl,⟨U219,A265,c266,rfl,f222,f223,f224,rfl,f226,f227,le220,(hS269.pick [1,2,3] _ (by decide) rfl)⟩⟩
     ·rintro σ273 W274 ⟨U282,A280,c281,fi276,f285,f286,f287,f288,f289,f290,le283,hS284⟩
      have c291:Hid (¬ ((↑(((↑x174.length:Int):Int) - 0).toNat:Int) < (↑x174.length:Int))):=zC (wAv)
      refine sR fL1 Z (oR Z (zN Z fi276 f290) (eN (zA (cF Z c291 (zt (zQ (zQ (zn (zE (sR fL3 Z (oM Z f288 (oA Z Z (oA Z Z (eN (zK ?_)))))))))))))))
      cases hm205
      exact ⟨rfl,_,(wDf rfl rfl),U282,_,(hS284.pick [1] _ (by decide) rfl),A280,c281,rfl,rfl⟩
  ·intro c23 hm292
   refine zj (nF (c23.out)) (sR fL2 Z (oA Z Z (oA Z Z (eN (zK (zW (zG ?_)))))))
   have hS293:=hS22.nilrow 70 3
   cases hm292
   exact ⟨Z,_,(wDf Z Z),U16,_,hS293,none,0,Z,Z⟩
 ·intro c11 hm295
  refine cT Z c11 (sR fL3 Z (oM Z Z (oA Z Z (oA Z Z (eN (zK (zW (zG ?_))))))))
  have hS296:=hS10.nilrow 70 3
  cases hm295
  exact ⟨Z,_,(wDf Z Z),U4,_,hS296,none,0,Z,Z⟩
theorem wED (p0:List wAE) (pA0:Option Addr) (pc0:Nat) (w:World) (U:PHeap) (hS:St0 w U []) (ha0:Sl U 3 pA0 pc0 p0.length (nA wAQ p0)) {r:(List wAS)} (hm:wBS p0=some r):Gv Tryz.prog 40 [.slice pA0 p0.length pc0] w (wCQ w [] U (fun U_ L_ v=>∃ (A0:Option Addr) (c0:Nat),v=.slice A0 r.length c0/\L_=[.row A0 c0 157 3 (nA wAR r)])):=by
 unfold wBS at hm
 refine Gv.of Tryz.func40 Z Tryz.ntmps40 Tryz.results40 Z (sR fL1 Z (oA Z Z (eN (sR fL1 Z (oA Z Z (eN (zA (sR fL3 Z (oM Z Z (oR Z (zV Z Z zr) (oM Z Z (eN (zM (bnK hm fun y23 hf20 hm19=>?_))))))))))))))
 have q:=wBb hf20
 obtain ⟨hle21,hf22⟩:=q
 replace hle21:=zC hle21
 refine CK.forN' (fun k18 l14 σ_ w_=>∃ (U_:PHeap) (A15:Option Addr) (c16:Nat),σ_ 8=jV (↑k18:Int)/\σ_ 3=.slice A15 l14.length c16/\σ_ 6=.slice pA0 p0.length pc0/\σ_ 7=jV (↑p0.length:Int)/\PHeap.Le U U_/\sW w U U_ [.row A15 c16 157 3 (nA wAR l14)] w_) hf22 ?_ ?_ ?_
 ·have hS24:=hS.nilrow 157 3
  exact ⟨U,none,0,Z,Z,Z,Z,(zS _),hS24⟩
 ·rintro k18 l14 xx28 σ26 W27 hk31 ⟨U33,A15,c16,fi32,f36,f37,f38,le34,hS35⟩ hx29
  have c39:Hid ((↑k18:Int) < (↑p0.length:Int)):=zC (wBL hk31)
  replace hk31:=zC hk31
  have hi40:Hid (w64 ((↑k18:Int) + 1)=(↑(k18 + 1):Int)):=zC (by have h1:=hle21.out;have h2:=c39.out;rw [wAe] <;> omega)
  refine sR fL1 Z (oR Z (zN Z fi32 f38) (eN (zA (cT Z c39 (kN (zA (zM (sR (.fl 0 (.fl 1 (.fx 2 (.fx 3 (.nil) .stop) .stop))) Z (bnK hx29 fun x41 h42 hm43=>?_)))))))))
  have h44:=ha0.le le34
  have q:=h44.el (fun _=>rfl) (wAU h42)
  obtain ⟨b45,off46,hA47,hC48⟩:=q
  refine oR Z (ze Z f37 hA47 fi32 zr ZH (wAu h42)) (oL Z (hS35.ldCA (f:=0) hC48 Z Z Tryz.isAgg62 ZH (us:=[jV x41.Bib,jV x41.Nation,jV x41.Rank]) Z Z) ?_)
  let B0:List Value:=[jV 0,jV 0,jV 0]
  refine ZS (cs:=B0) Z Z Z Z Z Tryz.zeroValue62 Z hS35 ?_
  intro W49 b50 hS51
  let B1:List Value:=[jV x41.Bib,jV x41.Nation,jV x41.Rank]
  refine Zc (j:=0) (vs:=B1) Z Z Z Z hS51 Z Z Z Z ZH (zZ Z) Z Z Z ?_
  intro W53 hS54
  let B2:Res:=.row A15 c16 157 3 (nA wAR l14)
  have hS55:sW w U U33 [.blk b50 62 B1,B2] W53:=hS54
  refine eN (rR (.fl 0 (.fl 1 (.fx 2 (.fx 3 (.fl 4 (.nil)) .stop) .stop))) Z (oM Z f36 (oL Z (hS55.ldBA (j:=0) Z Z Z Tryz.isAgg62 ZH (vs:=B1) Z Z) (zY (pv:=[(0,.agg B1.toArray)]) (zs:=B0) (cs:=B1) Z Z Z Z Z (wAH Z wAV) zd ZM Tryz.zeroValue157 Z Z Z Z Z hS55 ?_))))
  intro W56 b57 hS58
  let B3:Res:=.row (some ⟨b57,0,none⟩) 1 157 3 (nA wAR [(⟨x41.Bib,x41.Nation,x41.Rank⟩:wAS)])
  have hS60:sW w U U33 [B3,.blk b50 62 B1,B2] W56:=hS58
  refine bnK hm43 fun x61 h62 hm63=>zp (j:=2) (enc:=wAR) (xs:=l14) (ys:=[(⟨x41.Bib,x41.Nation,x41.Rank⟩:wAS)]) (zs:=x61) rfl rfl rfl rfl rfl Tryz.underlying86 wPb rfl rfl rfl rfl rfl rfl hS60 rfl rfl rfl (hS60.srcR (j:=0) rfl (by decide) (wAF (f:=wAR) (sz:=3) (fun _=>rfl) [(⟨x41.Bib,x41.Nation,x41.Rank⟩:wAS)])) (fun _=>rfl) (fun _=>rfl) h62 rfl ?_
  intro A64 c65 W66 hS67
  have hS68:sW w U U33 [B3,.blk b50 62 B1,.row A64 c65 157 3 (nA wAR x61)] W66:=hS67
  refine oA Z Z (zi (zX (zE (rR fL2 Z (oR Z (zl (zU Z fi32 Z) (congrArg (jV) hi40.out)) (oM Z Z (zi ?_)))))))
  cases hm63
  exact zE ⟨rfl,⟨U33,A64,c65,rfl,rfl,f37,f38,le34,(hS68.pick [2] _ (by decide) rfl)⟩⟩
 ·rintro σ72 W73 ⟨U81,A79,c80,fi75,f84,f85,f86,le82,hS83⟩
  have c87:Hid (¬ ((↑(((↑p0.length:Int):Int) - 0).toNat:Int) < (↑p0.length:Int))):=zC (wAv)
  refine sR fL1 Z (oR Z (zN Z fi75 f86) (eN (zA (cF Z c87 (zt (zQ (zQ (zn (zE (sR fL2 Z (oM Z f84 (oA Z Z (eN (zK ?_))))))))))))))
  have hE:=nE hm19;first | subst r | cases hE
  exact ⟨Z,_,(zm Z),U81,_,hS83,A79,c80,Z,Z⟩
theorem wAr (p0:Int) (p1:Int) (p2:Int) (w:World) (U:PHeap) (hS:St0 w U [])  {r:Bool} (hm:wAZ p0 p1 p2=some r):Gv Tryz.prog 77 [jV p0,jV p1,jV p2] w (wCQ w [] U (fun U_ L_ v=>v=.bool r/\L_=[])):=by
 unfold wAZ at hm
 refine Gv.of Tryz.func77 Z Tryz.ntmps77 Tryz.results77 Z (sR fL1 Z (oA Z Z (eN (sR fL9 Z (oM Z Z (oM Z Z (oR Z (zN Z Z Z) (oM Z Z ?_))))))))
 by_cases c1:p0 < p1
 ·have hm2:=hm;rw [if_pos c1] at hm2;replace c1:=zC c1
  refine oT Z c1 (oT Z c1 (oT Z c1 (oR Z (ZC Z (wGn c1.out) Z) (oA Z Z (eN (zK ?_))))))
  have hE:=nE hm2;first | subst r | cases hE
  exact ⟨Z,_,(zm Z),U,_,hS,Z,Z⟩
 ·have hm3:=hm;rw [if_neg c1] at hm3;replace c1:=zC c1
  refine zk Z Z Z (wF Z c1) Z Z (zk Z Z Z (wF Z c1) Z Z (rU Z (wF Z c1) (ZR Z Z Z) (oR Z (ZB Z (ZN c1.out) Z) (oA Z Z (eN (zK ?_))))))
  cases hm3
  exact ⟨Z,_,(zm Z),U,_,hS,Z,Z⟩
theorem wEE (p0:List wAS) (pA0:Option Addr) (pc0:Nat) (w:World) (U:PHeap) (hS:St0 w U []) (ha0:Sl U 3 pA0 pc0 p0.length (nA wAR p0)) {r:Int} (hm:wBT p0=some r):Gv Tryz.prog 42 [.slice pA0 p0.length pc0] w (wCQ w [] U (fun U_ L_ v=>v=jV r/\L_=[])):=by
 unfold wBT at hm
 refine Gv.of Tryz.func42 Z Tryz.ntmps42 Tryz.results42 Z (sR fL1 Z (oA Z Z (eN (zA (sR fL8 Z (oM Z Z (oR Z (zV Z Z zd) (oR Z (Za Z Z Z) (oM Z Z ?_)))))))))
 by_cases c1:(↑p0.length:Int)=0
 ·have hm2:=hm;rw [if_pos c1] at hm2;replace c1:=zC c1
  refine oT Z c1 (oT Z c1 (oT Z c1 (oR Z (ZC Z (wGn c1.out) Z) (eN (zj Z (sR fL1 Z (oA Z Z (eN (zK (zG ?_))))))))))
  cases hm2
  exact ⟨Z,_,(zm Z),U,_,hS,Z,Z⟩
 ·have hm3:=hm;rw [if_neg c1] at hm3;replace c1:=zC c1
  refine zk Z Z Z (wF Z c1) Z Z (rU Z (wF Z c1) (zV Z Z zd) (rU Z (wF Z c1) (ZR Z Z Z) (oR Z (ZB Z (ZN c1.out) Z) (eN (ifc hm3 ?_ ?_)))))
  ·intro c4 hm5
   refine cT Z c4 (sR fL1 Z (oA Z Z (eN (zK (zG ?_)))))
   cases hm5
   exact ⟨Z,_,(zm Z),U,_,hS,Z,Z⟩
  ·intro c4 hm6
   refine cF Z c4 (kN (zA (sR fL1 Z (oA Z Z (eN (zM ?_))))))
   have q:=wBs hm6
   obtain ⟨r9,hX10⟩:=q
   have q:=wBr hX10
   obtain ⟨hle11,hf12⟩:=q
   replace hle11:=zC hle11
   refine ZV (fun k8 _ σ_ w_=>∃ (U_:PHeap),σ_ 3=jV (↑k8:Int)/\σ_ 0=.slice pA0 p0.length pc0/\PHeap.Le U U_/\sW w U U_ [] w_) hf12 ?_ ?_ ?_
   ·exact ⟨U,Z,Z,(zS _),hS⟩
   ·rintro k8 ⟨⟩ xx15 σ13 W14 hk18 ⟨U20,fi19,f23,le21,hS22⟩ hx16 hb17
    try dsimp only at hx16
    have c24:Hid ((↑k8:Int) < (↑p0.length:Int)):=zC (wBL hk18)
    replace hk18:=zC hk18
    have hi25:Hid (w64 ((↑k8:Int) + 1)=(↑(k8 + 1):Int)):=zC (by have h1:=hle11.out;have h2:=c24.out;rw [wAe] <;> omega)
    refine zA (sR fL4 Z (oM Z fi19 (oM Z f23 (oR Z (zV Z Z zd) (oR Z (zN Z Z Z) (eN (cT Z c24 (kN (zA (zM (sR (wGa (.fx 5 (wOc (.fx 12 (wNI (.fx 20 (.fl 21 (.nil)) .stop)) .stop)) .stop)) Z (oM Z f23 (oM Z fi19 (bnK hx16 fun x26 h27 hm28=>?_))))))))))))))
    have h29:=ha0.le le21
    have q:=h29.el (fun _=>rfl) (wAU h27)
    obtain ⟨b30,off31,hA32,hC33⟩:=q
    refine oR Z (ze Z Z hA32 Z zd ZM (wAu h27)) (oR Z (zq Z Z ZE Z zF) (oL Z (hS22.ldC (f:=0) hC33 (v:=jV x26.Bib) Z Z zH Z) (bnK hm28 fun x34 h35 hm36=>zI 0 Z Z Z Z (zJ Z Z Zh (zB Z (zB Z (zB Z zO))) Z) hS22 (fun hs=>wAr x26.Bib 1 999 W14 U20 hs h35) (.inr Z) ?_)))
    rintro U37 L38 v39 W40 le41 hS42 ⟨rfl,rfl⟩
    have hS43:sW w U U37 [] W40:=hS42
    refine oM Z Z (ifc hm36 ?_ ?_)
    ·intro c44 hm45
     refine ZL Z Z Z (zo Z Z (congrArg nB c44.out) Z) (ZL Z Z Z (zo Z Z (congrArg nB c44.out) Z) (ZL Z Z Z (zo Z Z (congrArg nB c44.out) Z) (ZL Z Z Z (zo Z Z (congrArg nB c44.out) Z) (ZL Z Z Z (zo Z Z (congrArg nB c44.out) Z) (Zf Z Z Z (zo Z Z (congrArg nB c44.out) Z) (oR Z (ZC Z (congrArg nB c44.out) Z) (oM Z Z (oN Z (oN Z (oN Z (oN Z (oN Z (Zf Z Z Z (zo Z Z Z Z) (oR Z (ZC Z Z Z) (eN (zj Z (sR fL1 Z (oA Z Z (eN (zK (zW (zG ?_))))))))))))))))))))))
     have q:=wAl hm45
     obtain ⟨v46,hm47,e48⟩:=q
     obtain rfl:=wBt hm6 hX10 (hb17 v46 e48)
     refine zG (zW (zG ?_))
     cases hm47
     exact ⟨Z,_,(zm Z),U37,_,hS43,Z,Z⟩
    ·intro c44 hm49
     refine zk Z Z Z (zh Z Z (congrArg nB (nD.2 c44.out))) Z f23 (zk Z Z Z (zh Z Z (congrArg nB (nD.2 c44.out))) Z fi19 ?_)
     have h50:=h29.le le41
     have q:=h50.el (fun _=>rfl) (wAU h27)
     obtain ⟨b51,off52,hA53,hC54⟩:=q
     refine zx Z Z Z (zh Z Z (congrArg nB (nD.2 c44.out))) (fun _=>ze Z Z hA53 Z zd ZM (wAu h27)) (zx Z Z Z (zh Z Z (congrArg nB (nD.2 c44.out))) (fun _=>zq Z Z ZE Z zF) (OKS.m Z Z Z (zh Z Z (congrArg nB (nD.2 c44.out))) (hS43.ldC (f:=1) hC54 (v:=jV x26.Nation) Z Z zH Z) Z (bnK hm49 fun x55 h56 hm57=>zI 0 Z Z Z (zh Z Z (congrArg nB (nD.2 c44.out))) (zJ Z Z Zh (zB Z (zB Z (zB Z zO))) Z) hS43 (fun hs=>wAr x26.Nation 0 30 W40 U37 hs h56) (.inr Z) ?_)))
     rintro U58 L59 v60 W61 le62 hS63 ⟨rfl,rfl⟩
     have hS64:sW w U U58 [] W61:=hS63
     refine oR Z (ZB Z (congrArg nB (nD.2 c44.out)) Z) (oM Z Z (ifc hm57 ?_ ?_))
     ·intro c65 hm66
      refine ZL Z Z Z (zo Z Z (congrArg nB c65.out) Z) (ZL Z Z Z (zo Z Z (congrArg nB c65.out) Z) (ZL Z Z Z (zo Z Z (congrArg nB c65.out) Z) (ZL Z Z Z (zo Z Z (congrArg nB c65.out) Z) (ZL Z Z Z (zo Z Z (congrArg nB c65.out) Z) (Zf Z Z Z (zo Z Z (congrArg nB c65.out) Z) (oR Z (ZC Z (congrArg nB c65.out) Z) (eN (zj Z (sR fL1 Z (oA Z Z (eN (zK (zW (zG ?_))))))))))))))
      have q:=wAl hm66
      obtain ⟨v67,hm68,e69⟩:=q
      obtain rfl:=wBt hm6 hX10 (hb17 v67 e69)
      refine zG (zW (zG ?_))
      cases hm68
      exact ⟨Z,_,(zm Z),U58,_,hS64,Z,Z⟩
     ·intro c65 hm70
      refine zk Z Z Z (zh Z Z (congrArg nB (nD.2 c65.out))) Z f23 (zk Z Z Z (zh Z Z (congrArg nB (nD.2 c65.out))) Z fi19 ?_)
      have h71:=h50.le le62
      have q:=h71.el (fun _=>rfl) (wAU h27)
      obtain ⟨b72,off73,hA74,hC75⟩:=q
      refine zx Z Z Z (zh Z Z (congrArg nB (nD.2 c65.out))) (fun _=>ze Z Z hA74 Z zd ZM (wAu h27)) (zx Z Z Z (zh Z Z (congrArg nB (nD.2 c65.out))) (fun _=>zq Z Z ZE Z zF) (OKS.m Z Z Z (zh Z Z (congrArg nB (nD.2 c65.out))) (hS64.ldC (f:=2) hC75 (v:=jV x26.Rank) Z Z zH Z) Z (bnK hm70 fun x76 h77 hm78=>zI 0 Z Z Z (zh Z Z (congrArg nB (nD.2 c65.out))) (zJ Z Z Zh (zB Z (zB Z (zB Z zO))) Z) hS64 (fun hs=>wAr x26.Rank 1 9999 W61 U58 hs h77) (.inr Z) ?_)))
      rintro U79 L80 v81 W82 le83 hS84 ⟨rfl,rfl⟩
      have hS85:sW w U U79 [] W82:=hS84
      refine oR Z (ZB Z (congrArg nB (nD.2 c65.out)) Z) (eN (ifc hm78 ?_ ?_))
      ·intro c86 hm87
       refine zj (congrArg nB c86.out) (sR fL1 Z (oA Z Z (eN (zK (zW (zG ?_))))))
       have q:=wAl hm87
       obtain ⟨v88,hm89,e90⟩:=q
       obtain rfl:=wBt hm6 hX10 (hb17 v88 e90)
       refine zG (zW (zG ?_))
       cases hm89
       exact ⟨Z,_,(zm Z),U79,_,hS85,Z,Z⟩
      ·intro c86 hm91
       refine zg (congrArg nB (nD.2 c86.out)) (ZF (zX (zE (rR fL3 Z (oM Z fi19 (oR Z (zl (zU Z Z Z) (congrArg (jV) hi25.out)) (oA Z Z (zi ?_))))))))
       obtain rfl:=nE hm91
       exact zE ⟨Z,_,Z,⟨U79,Z,f23,(((le21.trans le41).trans le62).trans le83),hS85⟩⟩
   ·rintro ⟨⟩ σ92 W93 ⟨U96,fi95,f99,le97,hS98⟩ hb94
    have hm100:=wCR hm6 hX10 hb94
    try dsimp only at hm100
    have c101:Hid (¬ ((↑(((↑p0.length:Int):Int) - 0).toNat:Int) < (↑p0.length:Int))):=zC (wAv)
    refine zA (sR fL4 Z (oM Z fi95 (oM Z f99 (oR Z (zV Z Z zd) (oR Z (zN Z Z Z) (eN (cF Z c101 (zt (zQ (zQ (zn (zE (zA (sR fL1 Z (oA Z Z (eN (zM ?_)))))))))))))))))
    have q:=wBs hm100
    obtain ⟨r104,hX105⟩:=q
    have q:=wBr hX105
    obtain ⟨hle106,hf107⟩:=q
    replace hle106:=zC hle106
    refine ZV (fun k103 _ σ_ w_=>∃ (U_:PHeap),σ_ 4=jV (↑k103:Int)/\σ_ 0=.slice pA0 p0.length pc0/\PHeap.Le U96 U_/\sW w U U_ [] w_) hf107 ?_ ?_ ?_
    ·exact ⟨U96,Z,f99,(zS _),hS98⟩
    ·rintro k103 ⟨⟩ xx110 σ108 W109 hk113 ⟨U115,fi114,f118,le116,hS117⟩ hx111 hb112
     try dsimp only at hx111
     have c119:Hid ((↑k103:Int) < (↑p0.length:Int)):=zC (wBL hk113)
     replace hk113:=zC hk113
     have hi120:Hid (w64 ((↑k103:Int) + 1)=(↑(k103 + 1):Int)):=zC (by have h1:=hle106.out;have h2:=c119.out;rw [wAe] <;> omega)
     refine zA (sR fL4 Z (oM Z fi114 (oM Z f118 (oR Z (zV Z Z zd) (oR Z (zN Z Z Z) (eN (cT Z c119 (kN (zA (zM (sR fL1 Z (oA Z Z (eN (zM ?_))))))))))))))
     have q:=wBs hx111
     obtain ⟨r123,hX124⟩:=q
     have q:=wBr hX124
     obtain ⟨hle125,hf126⟩:=q
     replace hle125:=zC hle125
     refine ZV (fun k122 _ σ_ w_=>∃ (U_:PHeap),σ_ 5=jV (↑k122:Int)/\σ_ 0=.slice pA0 p0.length pc0/\σ_ 4=jV (↑k103:Int)/\PHeap.Le U115 U_/\sW w U U_ [] w_) hf126 ?_ ?_ ?_
     ·exact ⟨U115,Z,f118,fi114,(zS _),hS117⟩
     ·rintro k122 ⟨⟩ xx129 σ127 W128 hk132 ⟨U134,fi133,f137,f138,le135,hS136⟩ hx130 hb131
      try dsimp only at hx130
      have c139:Hid ((↑k122:Int) < (↑k103:Int)):=zC (wBL hk132)
      replace hk132:=zC hk132
      have hi140:Hid (w64 ((↑k122:Int) + 1)=(↑(k122 + 1):Int)):=zC (by have h1:=hle125.out;have h2:=c139.out;rw [wAe] <;> omega)
      refine zA (sR fL3 rfl (zk rfl rfl rfl rfl rfl fi133 (zk rfl rfl rfl rfl rfl f138 (zx rfl rfl rfl rfl (fun _=>zN rfl rfl rfl) (eN (cT Z c139 (kN (zA (zM (zA (ZK ZJ [3,3,3,3,1,3,3,3,3,1,3,3,3,3,3,3,1,3,3,3,3,1,3,3] fL24 (by kernel_rfl) ?_)))))))))))
      have hS141:=hS136.drew
      generalize hw_W142:({ W128 with drawn:=W128.drawn + 1 }:World)=W142 at hS141 ⊢
      refine oM Z f137 (oM Z f138 (bnK hx130 fun x143 h144 hm145=>?_))
      have h146:=ha0.le le97
      have h147:=h146.le le116
      have h148:=h147.le le135
      have q:=h148.el (fun _=>rfl) (wAU h144)
      obtain ⟨b149,off150,hA151,hC152⟩:=q
      refine oR Z (ze Z Z hA151 Z zd ZM (wAu h144)) (oR Z (zq Z Z ZE Z zF) (oL Z (hS141.ldC (f:=0) hC152 (v:=jV x143.Bib) Z Z zH Z) (oM Z f137 (oM Z fi133 (bnK hm145 fun x153 h154 hm155=>?_)))))
      have q:=h148.el (fun _=>rfl) (wAU h154)
      obtain ⟨b156,off157,hA158,hC159⟩:=q
      refine oR Z (ze Z Z hA158 Z zd ZM (wAu h154)) (oR Z (zq Z Z ZE Z zF) (oL Z (hS141.ldC (f:=0) hC159 (v:=jV x153.Bib) Z Z zH Z) (oR Z (Za Z Z Z) (oM Z Z (ifc hm155 ?_ ?_)))))
      ·intro c160 hm161
       refine oT Z c160 (oT Z c160 (oT Z c160 (oT Z c160 (oT Z c160 (oT Z c160 (oT Z c160 (oT Z c160 (oT Z c160 (oT Z c160 (oT Z c160 (oR Z (ZC Z (wGn c160.out) Z) (eN (zj Z (sR fL1 Z (oA Z Z (eN (zK (zW (zG ?_)))))))))))))))))))
       have q:=wAl hm161
       obtain ⟨v162,hm163,e164⟩:=q
       obtain rfl:=wBt hx111 hX124 (hb131 v162 e164)
       refine zG (zW (zW (zG ?_)))
       have q:=wAl hm163
       obtain ⟨v165,hm166,e167⟩:=q
       obtain rfl:=wBt hm100 hX105 (hb112 v165 e167)
       refine zG (zW (zG ?_))
       cases hm166
       exact ⟨Z,_,(zm Z),U134,_,hS141,Z,Z⟩
      ·intro c160 hm168
       refine zk Z Z Z (wF Z c160) Z f137 (zk Z Z Z (wF Z c160) Z f138 ?_)
       have q:=h148.el (fun _=>rfl) (wAU h144)
       obtain ⟨b169,off170,hA171,hC172⟩:=q
       refine rU Z (wF Z c160) (ze Z Z hA171 Z zd ZM (wAu h144)) (rU Z (wF Z c160) (zq Z Z ZE Z zF) (OKS.m Z Z Z (wF Z c160) (hS141.ldC (f:=2) hC172 (v:=jV x143.Rank) Z Z zH Z) Z (zk Z Z Z (wF Z c160) Z f137 (zk Z Z Z (wF Z c160) Z fi133 ?_))))
       have q:=h148.el (fun _=>rfl) (wAU h154)
       obtain ⟨b173,off174,hA175,hC176⟩:=q
       refine rU Z (wF Z c160) (ze Z Z hA175 Z zd ZM (wAu h154)) (rU Z (wF Z c160) (zq Z Z ZE Z zF) (OKS.m Z Z Z (wF Z c160) (hS141.ldC (f:=2) hC176 (v:=jV x153.Rank) Z Z zH Z) Z (rU Z (wF Z c160) (Za Z Z Z) (oR Z (ZB Z (ZN c160.out) Z) (eN (ifc hm168 ?_ ?_))))))
       ·intro c177 hm178
        refine cT Z c177 (sR fL1 Z (oA Z Z (eN (zK (zW (zG ?_))))))
        have q:=wAl hm178
        obtain ⟨v179,hm180,e181⟩:=q
        obtain rfl:=wBt hx111 hX124 (hb131 v179 e181)
        refine zG (zW (zW (zG ?_)))
        have q:=wAl hm180
        obtain ⟨v182,hm183,e184⟩:=q
        obtain rfl:=wBt hm100 hX105 (hb112 v182 e184)
        refine zG (zW (zG ?_))
        cases hm183
        exact ⟨Z,_,(zm Z),U134,_,hS141,Z,Z⟩
       ·intro c177 hm185
        refine cF Z c177 (ZF (zX (zE (rR fL3 Z (oM Z fi133 (oR Z (zl (zU Z Z Z) (congrArg (jV) hi140.out)) (oA Z Z (zi ?_))))))))
        obtain rfl:=nE hm185
        exact zE ⟨Z,_,Z,⟨U134,Z,f137,f138,le135,hS141⟩⟩
     ·rintro ⟨⟩ σ186 W187 ⟨U190,fi189,f193,f194,le191,hS192⟩ hb188
      have hm195:=wCR hx111 hX124 hb188
      try dsimp only at hm195
      have c196:Hid (¬ ((↑(((↑k103:Int):Int) - 0).toNat:Int) < (↑k103:Int))):=zC (wAv)
      refine zA (sR fL3 Z (oM Z fi189 (oM Z f194 (oR Z (zN Z Z Z) (eN (cF Z c196 (zt (zQ (zQ (zn (zX (zE (rR fL3 Z (oM Z f194 (oR Z (zl (zU Z Z Z) (congrArg (jV) hi120.out)) (oA Z Z (zi ?_)))))))))))))))))
      obtain rfl:=nE hm195
      exact zE ⟨Z,_,Z,⟨U190,Z,f193,(le116.trans le191),hS192⟩⟩
    ·rintro ⟨⟩ σ197 W198 ⟨U201,fi200,f204,le202,hS203⟩ hb199
     have hm205:=wCR hm100 hX105 hb199
     try dsimp only at hm205
     have c206:Hid (¬ ((↑(((↑p0.length:Int):Int) - 0).toNat:Int) < (↑p0.length:Int))):=zC (wAv)
     refine zA (sR fL4 Z (oM Z fi200 (oM Z f204 (oR Z (zV Z Z zd) (oR Z (zN Z Z Z) (eN (cF Z c206 (zt (zQ (zQ (zn (zE (sR fL1 Z (oA Z Z (eN (zK ?_))))))))))))))))
     cases hm205
     exact ⟨Z,_,(zm Z),U201,_,hS203,Z,Z⟩
end Go.Proofs.YtghaibkggdecnaaGreat
namespace Go.Proofs.YtghaibkggdecnaaGreat
open Go.KL
set_option maxHeartbeats 4000000
theorem wDr (p0:List wAS) (pA0:Option Addr) (pc0:Nat) (w:World) (U:PHeap) (hS:St0 w U []) (ha0:Sl U 3 pA0 pc0 p0.length (nA wAR p0)) {r:(List Int) × Int} (hm:wBB p0=some r):Gv Tryz.prog 44 [.slice pA0 p0.length pc0] w (wCQ w [] U (fun U_ L_ v=>∃ (A0:Option Addr) (c0:Nat),v=.tuple #[.slice A0 r.1.length c0,jV r.2]/\L_=[.row A0 c0 3 1 (nA KL.encI r.1)])):=by
 unfold wBB at hm
 refine Gv.of Tryz.func44 Z Tryz.ntmps44 Tryz.results44 Z (sR fL2 Z (oA Z Z (oA Z Z (eN (zA (sR (.fl 0 (.fx 1 (.fl 2 (.nil)) .stop)) Z (oM Z Z (bnK hm fun x1 h2 hm3=>zI 0 Z Z Z Z (zJ Z Z Tryz.call42 (zB Z zO) Z) hS (fun hs=>wEE p0 pA0 pc0 w U hs ha0 h2) (.inr Z) ?_))))))))
 rintro U4 L5 v6 W7 le8 hS9 ⟨rfl,rfl⟩
 have hS10:sW w U U4 [] W7:=hS9
 refine oA Z Z (eN (sR fL2 Z (oM Z Z (oR Z (ZU Z Z Z) (eN (ifc hm3 ?_ ?_))))))
 ·intro c11 hm12
  refine zg (ZN (fun h=>h c11.out)) (kN (sR (.fl 0 (.fl 1 (.fx 2 (.fl 3 (.nil)) .stop))) Z (oM Z Z (oR Z (zV Z Z zd) (bnK hm12 fun x13 h14 hm15=>OKS.makeSlice (enc:=KL.encI) (z:=(0:Int)) (v:=jV 0) Z Z Z Z Z (wDl zP) wEC Z Z Z Z Z Z h14 hS10 ?_)))))
  intro W16 b17 hS18
  have hS20:sW w U U4 [.row (some ⟨b17,0,none⟩) x13.length 3 1 (nA KL.encI x13)] W16:=hS18
  refine oA Z Z (eN (zA (sR fL1 Z (oA Z Z (eN (zM (bnK hm15 fun y32 hf29 hm28=>?_)))))))
  have q:=wBb hf29
  obtain ⟨hle30,hf31⟩:=q
  replace hle30:=zC hle30
  refine CK.forN' (fun k27 l26 σ_ w_=>∃ (U_:PHeap),σ_ 6=jV (↑k27:Int)/\σ_ 0=.slice pA0 p0.length pc0/\σ_ 5=.slice (some ⟨b17,0,none⟩) l26.length x13.length/\PHeap.Le U4 U_/\sW w U U_ [.row (some ⟨b17,0,none⟩) x13.length 3 1 (nA KL.encI l26)] w_/\l26.length=x13.length) hf31 ?_ ?_ ?_
  ·exact ⟨U4,Z,Z,Z,(zS _),hS20,Z⟩
  ·rintro k27 l26 xx35 σ33 W34 hk38 ⟨U40,fi39,f43,f44,le41,hS42,h45⟩ hx36
   have c46:Hid ((↑k27:Int) < (↑p0.length:Int)):=zC (wBL hk38)
   replace hk38:=zC hk38
   have hi47:Hid (w64 ((↑k27:Int) + 1)=(↑(k27 + 1):Int)):=zC (by have h1:=hle30.out;have h2:=c46.out;rw [wAe] <;> omega)
   refine zA (sR fL4 Z (oM Z fi39 (oM Z f43 (oR Z (zV Z Z zd) (oR Z (zN Z Z Z) (eN (cT Z c46 (kN (zA (zM (sR fL1 Z (oA Z Z (eN (zA (sR fL1 Z (oA Z Z (eN (zM (bnK hx36 fun y59 hf56 hm55=>?_)))))))))))))))))))
   have q:=wBb hf56
   obtain ⟨hle57,hf58⟩:=q
   replace hle57:=zC hle57
   refine CK.forN' (fun k54 x53 σ_ w_=>∃ (U_:PHeap),σ_ 8=jV (↑k54:Int)/\σ_ 0=.slice pA0 p0.length pc0/\σ_ 5=.slice (some ⟨b17,0,none⟩) l26.length x13.length/\σ_ 6=jV (↑k27:Int)/\σ_ 7=jV x53/\PHeap.Le U40 U_/\sW w U U_ [.row (some ⟨b17,0,none⟩) x13.length 3 1 (nA KL.encI l26)] w_) hf58 ?_ ?_ ?_
   ·exact ⟨U40,Z,f43,f44,fi39,Z,(zS _),hS42⟩
   ·rintro k54 x53 xx62 σ60 W61 hk65 ⟨U67,fi66,f70,f71,f72,f73,le68,hS69⟩ hx63
    have c74:Hid ((↑k54:Int) < (↑p0.length:Int)):=zC (wBL hk65)
    replace hk65:=zC hk65
    have hi75:Hid (w64 ((↑k54:Int) + 1)=(↑(k54 + 1):Int)):=zC (by have h1:=hle57.out;have h2:=c74.out;rw [wAe] <;> omega)
    refine zA (sR fL4 rfl (zk rfl rfl rfl rfl rfl fi66 (zk rfl rfl rfl rfl rfl f70 (zx rfl rfl rfl rfl (fun _=>zV rfl rfl zd) (zx rfl rfl rfl rfl (fun _=>zN rfl rfl rfl) (eN (cT Z c74 (kN (zA (zM (zA (ZK ZJ [3,3,3,3,1,3,3,3,3,1,3] fL11 (by kernel_rfl) ?_))))))))))))
    have hS76:=hS69.drew
    generalize hw_W77:({ W61 with drawn:=W61.drawn + 1 }:World)=W77 at hS76 ⊢
    refine oM Z f70 (oM Z fi66 (bnK hx63 fun x78 h79 hm80=>?_))
    have h81:=ha0.le le8
    have h82:=h81.le le41
    have h83:=h82.le le68
    have q:=h83.el (fun _=>rfl) (wAU h79)
    obtain ⟨b84,off85,hA86,hC87⟩:=q
    refine oR Z (ze Z Z hA86 Z zd ZM (wAu h79)) (oR Z (zq Z Z ZE Z zF) (oL Z (hS76.ldC (f:=2) hC87 (v:=jV x78.Rank) Z Z zH Z) (oM Z f70 (oM Z f72 (bnK hm80 fun x88 h89 hm90=>?_)))))
    have q:=h83.el (fun _=>rfl) (wAU h89)
    obtain ⟨b91,off92,hA93,hC94⟩:=q
    refine oR Z (ze Z Z hA93 Z zd ZM (wAu h89)) (oR Z (zq Z Z ZE Z zF) (oL Z (hS76.ldC (f:=2) hC94 (v:=jV x88.Rank) Z Z zH Z) (oR Z (zN Z Z Z) (eN (ifc hm90 ?_ ?_)))))
    ·intro c95 hm96
     refine cT Z c95 (rR fL3 Z (oM Z f73 (oR Z (zU Z Z Z) (oA Z Z (zi (zX (zE (rR fL3 Z (oM Z fi66 (oR Z (zl (zU Z Z Z) (congrArg (jV) hi75.out)) (oA Z Z (zi ?_))))))))))))
     cases hm96
     exact zE ⟨Z,⟨U67,Z,f70,f71,f72,Z,le68,hS76⟩⟩
    ·intro c95 hm98
     refine cF Z c95 (ZF (zX (zE (rR fL3 Z (oM Z fi66 (oR Z (zl (zU Z Z Z) (congrArg (jV) hi75.out)) (oA Z Z (zi ?_))))))))
     cases hm98
     exact zE ⟨Z,⟨U67,Z,f70,f71,f72,f73,le68,hS76⟩⟩
   ·rintro σ100 W101 ⟨U105,fi103,f108,f109,f110,f111,le106,hS107⟩
    have c112:Hid (¬ ((↑(((↑p0.length:Int):Int) - 0).toNat:Int) < (↑p0.length:Int))):=zC (wAv)
    refine zA (sR fL4 Z (oM Z fi103 (oM Z f108 (oR Z (zV Z Z zd) (oR Z (zN Z Z Z) (eN (cF Z c112 (zt (zQ (zQ (zn (zE (rR (wGZ (.fx 4 (.nil) .stop)) Z (oM Z f109 (oM Z f111 (oM Z f110 (bnK hm55 fun _ h113 hm114=>oR Z (Runs.iaI Z Z Z Z zP zF (wKz h113) (wLA h113)) ?_)))))))))))))))))
    have hg115:=wCK (xs:=l26) (wBJ h113)
    refine OKS.stR (j:=0) (vs:=[jV (↑k27:Int)]) (cs':=nA KL.encI (nN l26 y59.toNat (↑k27:Int))) rfl rfl rfl rfl hS107 rfl rfl rfl rfl rfl zF (by rw [wAF (f:=KL.encI) (sz:=1) (fun _=>rfl)];have hz:=wBJ h113;simp only [nJ,nH,nI,List.length_cons,List.length_nil];first | omega | (simp only [nK];omega)) rfl (wHK (sz:=1) (fo:=0) (fun _=>rfl) _ _ _ _ hg115 (by first | omega | (simp only [nK];omega) | (simp only [nJ,nH,nI];omega)) (zZ rfl) rfl) rfl ?_
    intro W116 hS117
    have hS118:sW w U U105 [.row (some ⟨b17,0,none⟩) x13.length 3 1 (nA KL.encI (nN l26 y59.toNat (↑k27:Int)))] W116:=hS117
    refine zi (zX (zE (rR fL3 Z (oM Z f110 (oR Z (zl (zU Z Z Z) (congrArg (jV) hi47.out)) (oA Z Z (zi ?_)))))))
    cases hm114
    exact zE ⟨rfl,⟨U105,rfl,f108,(Eq.trans (b:=(.slice (some ⟨b17,0,none⟩) l26.length x13.length:Value)) (c:=(.slice (some ⟨b17,0,none⟩) ((nN l26 y59.toNat (↑k27:Int)).length) x13.length:Value)) f109 (by simp only [nL])),(le41.trans le106),hS118,(by simp only [nL];exact h45)⟩⟩
  ·rintro σ120 W121 ⟨U125,fi123,f128,f129,le126,hS127,h130⟩
   have c131:Hid (¬ ((↑(((↑p0.length:Int):Int) - 0).toNat:Int) < (↑p0.length:Int))):=zC (wAv)
   refine zA (sR fL4 Z (oM Z fi123 (oM Z f128 (oR Z (zV Z Z zd) (oR Z (zN Z Z Z) (eN (cF Z c131 (zt (zQ (zQ (zn (zE (sR fL3 Z (oM Z f129 (oA Z Z (oA Z Z (eN (zK ?_))))))))))))))))))
   cases hm28
   exact ⟨Z,_,(wDf Z Z),U125,_,hS127,(some ⟨b17,0,none⟩),x13.length,Z,Z⟩
 ·intro c11 hm132
  refine cT Z c11 (sR fL3 Z (oM Z Z (oA Z Z (oA Z Z (eN (zK (zG ?_)))))))
  have hS133:=hS10.nilrow 3 1
  cases hm132
  exact ⟨Z,_,(wDf Z Z),U4,_,hS133,none,0,Z,Z⟩
theorem wEF (p0:List wAS) (pA0:Option Addr) (pc0:Nat) (p1:Int) (w:World) (U:PHeap) (hS:St0 w U []) (ha0:Sl U 3 pA0 pc0 p0.length (nA wAR p0)) {r:(List wAP) × Int} (hm:wAq p0 p1=some r):Gv Tryz.prog 67 [.slice pA0 p0.length pc0,jV p1] w (wCQ w [] U (fun U_ L_ v=>∃ (A0:Option Addr) (c0:Nat),v=.tuple #[.slice A0 r.1.length c0,jV r.2]/\L_=[.row A0 c0 117 3 (nA wAL r.1)])):=by
 unfold wAq at hm
 refine Gv.of Tryz.func67 Z Tryz.ntmps67 Tryz.results67 Z (sR fL2 Z (oA Z Z (oA Z Z (eN (sR (.fl 0 (.fx 1 (fC2_6 (.nil)) .stop)) Z (oM Z Z ?_))))))
 have q:=bnd hm
 obtain ⟨⟨x1,x2⟩,h3,hm4⟩:=q
 try dsimp only at hm4
 refine zI 0 Z Z Z Z (zJ Z Z Tryz.call44 (zB Z zO) Z) hS (fun hs=>wDr p0 pA0 pc0 w U hs ha0 h3) (.inr Z) ?_
 rintro U5 L6 v7 W8 le9 hS10 ⟨A11,c12,rfl,rfl⟩
 let B0:Res:=.row A11 c12 3 1 (nA KL.encI x1)
 have hS14:sW w U U5 [B0] W8:=hS10
 refine oM Z Z (oR Z (Zb Z Z (v:=.slice A11 x1.length c12) Z) (oR Z (Zb Z Z (v:=jV x2) Z) (oA Z Z (oA Z Z (eN (zA (sR fL2 Z (oM Z Z (oR Z (ZU Z Z Z) (eN (ifc hm4 ?_ ?_)))))))))))
 ·intro c15 hm16
  refine zg (ZN (fun h=>h c15.out)) (kN (zA (sR (.fl 0 (.fx 1 (.nil) .stop)) Z (oM Z Z (bnK hm16 fun x17 h18 hm19=>zI 0 Z Z Z Z (zJ Z Z Zh (zB Z (zB Z (zB Z zO))) Z) hS14 (fun hs=>wAr p1 1 20 W8 U5 hs h18) (.inr Z) ?_)))))
  rintro U20 L21 v22 W23 le24 hS25 ⟨rfl,rfl⟩
  have hS26:sW w U U20 [B0] W23:=hS25
  refine eN (ifc hm19 ?_ ?_)
  ·intro c27 hm28
   refine zj (congrArg nB c27.out) (sR fL2 Z (oA Z Z (oA Z Z (eN (zK (zG ?_))))))
   have hS29:=hS26.nilrow 117 3
   cases hm28
   exact ⟨rfl,_,(wDf rfl rfl),U20,_,(hS29.pick [0] _ (by decide) rfl),none,0,rfl,rfl⟩
  ·intro c27 hm31
   refine zg (congrArg nB (nD.2 c27.out)) (kN (sR fL1 Z (oA Z Z (eN (zA (sR fL1 Z (oA Z Z (eN (zM (bnK hm31 fun y54 hf51 hm50=>?_))))))))))
   have q:=wBb hf51
   obtain ⟨hle52,hf53⟩:=q
   replace hle52:=zC hle52
   refine CK.forN' (fun k49 l45 σ_ w_=>∃ (U_:PHeap) (A46:Option Addr) (c47:Nat),σ_ 9=jV (↑k49:Int)/\σ_ 0=.slice pA0 p0.length pc0/\σ_ 1=jV p1/\σ_ 6=.slice A11 x1.length c12/\σ_ 8=.slice A46 l45.length c47/\PHeap.Le U20 U_/\sW w U U_ [B0,.row A46 c47 117 3 (nA wAL l45)] w_) hf53 ?_ ?_ ?_
   ·have hS55:=hS26.nilrow 117 3
    exact ⟨U20,none,0,rfl,rfl,rfl,rfl,rfl,(zS _),(hS55.pick [1,0] _ (by decide) rfl)⟩
   ·rintro k49 l45 xx59 σ57 W58 hk62 ⟨U64,A46,c47,fi63,f67,f68,f69,f70,le65,hS66⟩ hx60
    have c71:Hid ((↑k49:Int) < (↑x1.length:Int)):=zC (wBL hk62)
    replace hk62:=zC hk62
    have hi72:Hid (w64 ((↑k49:Int) + 1)=(↑(k49 + 1):Int)):=zC (by have h1:=hle52.out;have h2:=c71.out;rw [wAe] <;> omega)
    refine zA (sR fL4 Z (oM Z fi63 (oM Z f69 (oR Z (zV Z Z zP) (oR Z (zN Z Z Z) (eN (cT Z c71 (kN (zA (zM (sR fL4 Z (oM Z fi63 (oM Z f68 (bnK hx60 fun x73 h74 hm75=>oR Z (Runs.rem Z Z Z h74) (oA Z Z (eN (sR fL4 Z (oM Z f68 (oR Z (zU Z Z Z) (bnK hm75 fun x76 h77 hm78=>oR Z (Runs.quo Z Z Z h77) (oA Z Z (eN (zA (sR fL3 Z (oM Z Z (bnK hm78 fun x79 h80 hm81=>oR Z (Runs.rem Z Z Z h80) (oR Z (Za Z Z Z) (eN (ifc hm81 ?_ ?_)))))))))))))))))))))))))))))
    ·intro c82 hm83
     refine cT Z c82 (rR fL6 rfl (zk rfl rfl rfl rfl rfl rfl (zk rfl rfl rfl rfl rfl rfl (zx rfl rfl rfl rfl (fun _=>zU rfl rfl rfl) (bnK hm83 fun x84 h85 hm86=>zx rfl rfl rfl rfl (fun _=>Runs.quo rfl rfl rfl h85) (zx rfl rfl rfl rfl (fun _=>zU rfl rfl rfl) (OKS.ra rfl rfl rfl rfl rfl rfl (eN (ZK ZJ [3,3,3,3,3,1,3,3,1,3,3,3,3,3,3,2,0,3] (wOb (.fx 15 (.fx 16 (.fl 17 (.nil)) .stop) .stop)) (by kernel_rfl) ?_)))))))))
     have hS87:=hS66.drew
     generalize hw_W88:({ W58 with drawn:=W58.drawn + 1 }:World)=W88 at hS87 ⊢
     refine oM Z f70 (oM Z f67 (oM Z f69 (oM Z fi63 (bnK hm86 fun _ h89 hm90=>?_))))
     obtain ⟨b91,hA92⟩:=hS87.rowSome (j:=0) rfl (by rw [wAF (f:=KL.encI) (sz:=1) (fun _=>rfl) x1];have hz:=wBJ h89;omega)
     refine oR Z (ze Z Z hA92 Z zP zF (wBJ h89)) ?_
     have hg93:=wCK (xs:=x1) (wBJ h89)
     refine OKS.m rfl rfl rfl rfl (hS87.ldR (j:=0) rfl hA92 rfl rfl zH (wCG (sz:=1) (fun _=>rfl) _ _ 0 _ hg93 (by first | omega | rfl | simp) rfl)) rfl (bnK hm90 fun x94 h95 hm96=>?_)
     have h97:=ha0.le le9
     have h98:=h97.le le24
     have h99:=h98.le le65
     have q:=h99.el (fun _=>rfl) (wAU h95)
     obtain ⟨b100,off101,hA102,hC103⟩:=q
     refine oR Z (Runs.iaI Z Z hA102 Z zd ZM (wDj h95) (wEI h95)) (oR Z (zq Z Z ZE Z zF) (oL Z (hS87.ldC (f:=0) hC103 (v:=jV x94.Bib) Z Z zH Z) (oM Z fi63 (oM Z f68 (bnK hm96 fun x104 h105 hm106=>oR Z (Runs.quo Z Z Z h105) (oR Z (zU Z Z Z) (oM Z Z ?_)))))))
     let B1:List Value:=[jV x94.Bib,jV (w64 (x104 + 1)),jV (w64 (x76 + x84))]
     let B2:List Value:=[jV 0,jV 0,jV 0]
     refine oR Z (ZP (pv:=[(0,jV x94.Bib),(1,jV (w64 (x104 + 1))),(2,jV (w64 (x76 + x84)))]) (z:=B2) (cs:=B1) Z (wAH Z (wAH Z (wAH Z wAV))) Tryz.zeroValue117 wIM Z Z) (zY (pv:=[(0,.agg B1.toArray)]) (zs:=B2) (cs:=B1) Z Z Z Z Z (wAH Z wAV) Tryz.runUnderlying114 Tryz.sizeOf117 Tryz.zeroValue117 Z Z Z Z Z hS87 ?_)
     intro W107 b108 hS109
     let B3:Res:=.row (some ⟨b108,0,none⟩) 1 117 3 (nA wAL [(⟨x94.Bib,w64 (x104 + 1),w64 (x76 + x84)⟩:wAP)])
     have hS111:sW w U U64 [B3,B0,.row A46 c47 117 3 (nA wAL l45)] W107:=hS109
     refine bnK hm106 fun x112 h113 hm114=>zp (j:=2) (enc:=wAL) (xs:=l45) (ys:=[(⟨x94.Bib,w64 (x104 + 1),w64 (x76 + x84)⟩:wAP)]) (zs:=x112) rfl rfl rfl rfl rfl Tryz.underlying114 wMg rfl rfl rfl rfl rfl rfl hS111 rfl rfl rfl (hS111.srcR (j:=0) rfl (by decide) (wAF (f:=wAL) (sz:=3) (fun _=>rfl) [(⟨x94.Bib,w64 (x104 + 1),w64 (x76 + x84)⟩:wAP)])) (fun _=>rfl) (fun _=>rfl) h113 rfl ?_
     intro A115 c116 W117 hS118
     have hS119:sW w U U64 [B3,B0,.row A115 c116 117 3 (nA wAL x112)] W117:=hS118
     refine oA Z Z (zi (zX (zE (rR fL3 Z (oM Z fi63 (oR Z (zl (zU Z Z Z) (congrArg (jV) hi72.out)) (oA Z Z (zi ?_))))))))
     cases hm114
     exact zE ⟨rfl,⟨U64,A115,c116,rfl,f67,f68,f69,rfl,le65,(hS119.pick [1,2] _ (by decide) rfl)⟩⟩
    ·intro c82 hm123
     refine cF Z c82 (rR fL5 rfl (zk rfl rfl rfl rfl rfl rfl (zk rfl rfl rfl rfl rfl rfl (bnK hm123 fun x124 h125 hm126=>zx rfl rfl rfl rfl (fun _=>Runs.quo rfl rfl rfl h125) (zx rfl rfl rfl rfl (fun _=>Runs.subw rfl rfl rfl) (OKS.ra rfl rfl rfl rfl rfl rfl (eN (ZK ZJ [3,3,3,3,3,1,3,3,1,3,3,3,3,3,3,2,0,3] (wOb (.fx 15 (.fx 16 (.fl 17 (.nil)) .stop) .stop)) (by kernel_rfl) ?_))))))))
     have hS127:=hS66.drew
     generalize hw_W128:({ W58 with drawn:=W58.drawn + 1 }:World)=W128 at hS127 ⊢
     refine oM Z f70 (oM Z f67 (oM Z f69 (oM Z fi63 (bnK hm126 fun _ h129 hm130=>?_))))
     obtain ⟨b131,hA132⟩:=hS127.rowSome (j:=0) rfl (by rw [wAF (f:=KL.encI) (sz:=1) (fun _=>rfl) x1];have hz:=wBJ h129;omega)
     refine oR Z (ze Z Z hA132 Z zP zF (wBJ h129)) ?_
     have hg133:=wCK (xs:=x1) (wBJ h129)
     refine OKS.m rfl rfl rfl rfl (hS127.ldR (j:=0) rfl hA132 rfl rfl zH (wCG (sz:=1) (fun _=>rfl) _ _ 0 _ hg133 (by first | omega | rfl | simp) rfl)) rfl (bnK hm130 fun x134 h135 hm136=>?_)
     have h137:=ha0.le le9
     have h138:=h137.le le24
     have h139:=h138.le le65
     have q:=h139.el (fun _=>rfl) (wAU h135)
     obtain ⟨b140,off141,hA142,hC143⟩:=q
     refine oR Z (Runs.iaI Z Z hA142 Z zd ZM (wDj h135) (wEI h135)) (oR Z (zq Z Z ZE Z zF) (oL Z (hS127.ldC (f:=0) hC143 (v:=jV x134.Bib) Z Z zH Z) (oM Z fi63 (oM Z f68 (bnK hm136 fun x144 h145 hm146=>oR Z (Runs.quo Z Z Z h145) (oR Z (zU Z Z Z) (oM Z Z ?_)))))))
     let B4:List Value:=[jV x134.Bib,jV (w64 (x144 + 1)),jV (w64 (x76 - x124))]
     let B5:List Value:=[jV 0,jV 0,jV 0]
     refine oR Z (ZP (pv:=[(0,jV x134.Bib),(1,jV (w64 (x144 + 1))),(2,jV (w64 (x76 - x124)))]) (z:=B5) (cs:=B4) Z (wAH Z (wAH Z (wAH Z wAV))) Tryz.zeroValue117 wIM Z Z) (zY (pv:=[(0,.agg B4.toArray)]) (zs:=B5) (cs:=B4) Z Z Z Z Z (wAH Z wAV) Tryz.runUnderlying114 Tryz.sizeOf117 Tryz.zeroValue117 Z Z Z Z Z hS127 ?_)
     intro W147 b148 hS149
     let B6:Res:=.row (some ⟨b148,0,none⟩) 1 117 3 (nA wAL [(⟨x134.Bib,w64 (x144 + 1),w64 (x76 - x124)⟩:wAP)])
     have hS151:sW w U U64 [B6,B0,.row A46 c47 117 3 (nA wAL l45)] W147:=hS149
     refine bnK hm146 fun x152 h153 hm154=>zp (j:=2) (enc:=wAL) (xs:=l45) (ys:=[(⟨x134.Bib,w64 (x144 + 1),w64 (x76 - x124)⟩:wAP)]) (zs:=x152) rfl rfl rfl rfl rfl Tryz.underlying114 wMg rfl rfl rfl rfl rfl rfl hS151 rfl rfl rfl (hS151.srcR (j:=0) rfl (by decide) (wAF (f:=wAL) (sz:=3) (fun _=>rfl) [(⟨x134.Bib,w64 (x144 + 1),w64 (x76 - x124)⟩:wAP)])) (fun _=>rfl) (fun _=>rfl) h153 rfl ?_
     intro A155 c156 W157 hS158
     have hS159:sW w U U64 [B6,B0,.row A155 c156 117 3 (nA wAL x152)] W157:=hS158
     refine oA Z Z (zi (zX (zE (rR fL3 Z (oM Z fi63 (oR Z (zl (zU Z Z Z) (congrArg (jV) hi72.out)) (oA Z Z (zi ?_))))))))
     cases hm154
     exact zE ⟨rfl,⟨U64,A155,c156,rfl,f67,f68,f69,rfl,le65,(hS159.pick [1,2] _ (by decide) rfl)⟩⟩
   ·rintro σ163 W164 ⟨U172,A170,c171,fi166,f175,f176,f177,f178,le173,hS174⟩
    have c179:Hid (¬ ((↑(((↑x1.length:Int):Int) - 0).toNat:Int) < (↑x1.length:Int))):=zC (wAv)
    refine zA (sR fL4 Z (oM Z fi166 (oM Z f177 (oR Z (zV Z Z zP) (oR Z (zN Z Z Z) (eN (cF Z c179 (zt (zQ (zQ (zn (zE (sR fL3 Z (oM Z f178 (oA Z Z (oA Z Z (eN (zK ?_))))))))))))))))))
    cases hm50
    exact ⟨rfl,_,(wDf rfl rfl),U172,_,(hS174.pick [1] _ (by decide) rfl),A170,c171,rfl,rfl⟩
 ·intro c15 hm180
  refine cT Z c15 (sR fL3 Z (oM Z Z (oA Z Z (oA Z Z (eN (zK (zG ?_)))))))
  have hS181:=hS14.nilrow 117 3
  cases hm180
  exact ⟨rfl,_,(wDf rfl rfl),U5,_,(hS181.pick [0] _ (by decide) rfl),none,0,rfl,rfl⟩
theorem wDa (p0:List wAA) (pA0:Option Addr) (pc0:Nat) (p1:(wAA->Option Bool)) (pv1:Value) (w:World) (U:PHeap) (hS:St0 w U []) (ha0:Sl U 3 pA0 pc0 p0.length (nA wAC p0)) (ha1:FnOK Tryz.prog U pv1 wOV wOW p1) {r:Bool} (hm:wBC p0 p1=some r):Gv Tryz.prog 84 [.slice pA0 p0.length pc0,pv1] w (wCQ w [] U (fun U_ L_ v=>v=.bool r/\L_=[])):=by
 unfold wBC at hm
 refine Gv.of Tryz.func84 Z Tryz.ntmps84 Tryz.results84 Z (sR fL1 Z (oA Z Z (eN (zA (sR fL3 Z (oM Z Z (oR Z (zV Z Z zL) (oM Z Z (eN (zM ?_))))))))))
 have q:=wBs hm
 obtain ⟨r3,hX4⟩:=q
 have q:=wBr hX4
 obtain ⟨hle5,hf6⟩:=q
 replace hle5:=zC hle5
 refine ZV (fun k2 _ σ_ w_=>∃ (U_:PHeap),σ_ 9=jV (↑k2:Int)/\σ_ 1=pv1/\σ_ 7=.slice pA0 p0.length pc0/\σ_ 8=jV (↑p0.length:Int)/\PHeap.Le U U_/\sW w U U_ [] w_) hf6 ?_ ?_ ?_
 ·exact ⟨U,Z,Z,Z,Z,(zS _),hS⟩
 ·rintro k2 ⟨⟩ xx9 σ7 W8 hk12 ⟨U14,fi13,f17,f18,f19,le15,hS16⟩ hx10 hb11
  try dsimp only at hx10
  have c20:Hid ((↑k2:Int) < (↑p0.length:Int)):=zC (wBL hk12)
  replace hk12:=zC hk12
  have hi21:Hid (w64 ((↑k2:Int) + 1)=(↑(k2 + 1):Int)):=zC (by have h1:=hle5.out;have h2:=c20.out;rw [wAe] <;> omega)
  refine sR fL1 Z (oR Z (zN Z fi13 f19) (eN (zA (cT Z c20 (kN (zA (zM (sR (.fl 0 (.fl 1 (.fx 2 (.fx 3 (.nil) .stop) .stop))) Z (bnK hx10 fun x22 h23 hm24=>?_)))))))))
  have h25:=ha0.le le15
  have q:=h25.el (fun _=>rfl) (wAU h23)
  obtain ⟨b26,off27,hA28,hC29⟩:=q
  refine oR Z (ze Z f18 hA28 fi13 zL zf (wAu h23)) (oL Z (hS16.ldCA (f:=0) hC29 Z Z ZW zf (us:=[jV x22.Bib,jV x22.Time,jV x22.Gate]) Z Z) (ZS (cs:=[jV 0,jV 0,jV 0]) Z Z Z Z Z zy Z hS16 ?_))
  intro W30 b31 hS32
  let B0:List Value:=[jV x22.Bib,jV x22.Time,jV x22.Gate]
  refine Zc (j:=0) (vs:=B0) Z Z Z Z hS32 Z Z Z Z zf (zZ Z) Z Z Z ?_
  intro W34 hS35
  have hS36:sW w U U14 [.blk b31 54 B0] W34:=hS35
  refine eN (sR (.fl 0 (.fl 1 (.fx 2 (.fl 3 (.nil)) .stop))) Z (oM Z f17 (oL Z (hS36.ldBA (j:=0) Z Z Z ZW zf (vs:=B0) Z Z) (bnK hm24 fun x37 h38 hm39=>?_))))
  have h46:=ha1.le le15
  refine OKS.callV (a:=x22) Z Z Z Z Z Z (zB Z zO) hS36 h46 Z h38 ?_
  rintro U40 L41 v42 W43 le44 hS45 ⟨rfl,rfl⟩
  have hS47:sW w U U40 [.blk b31 54 B0] W43:=hS45
  refine oR Z (ZO Z Z) (eN (ifc hm39 ?_ ?_))
  ·intro c48 hm49
   refine zg (nC c48.out) (ZF (zX (zE (rR fL2 Z (oR Z (zl (zU Z fi13 Z) (congrArg (jV) hi21.out)) (oM Z Z (zi ?_)))))))
   obtain rfl:=nE hm49
   exact zE ⟨rfl,_,rfl,⟨U40,rfl,f17,f18,f19,(le15.trans le44),(hS47.pick [] _ (by decide) rfl)⟩⟩
  ·intro c48 hm50
   refine zj (nF (c48.out)) (sR fL1 Z (oA Z Z (eN (zK (zW (zG ?_))))))
   have q:=wAl hm50
   obtain ⟨v51,hm52,e53⟩:=q
   obtain rfl:=wBt hm hX4 (hb11 v51 e53)
   refine zG (zW (zG ?_))
   have hE:=nE hm52;first | subst r | cases hE
   exact ⟨rfl,_,(zm rfl),U40,_,(hS47.pick [] _ (by decide) rfl),rfl,rfl⟩
 ·rintro ⟨⟩ σ54 W55 ⟨U58,fi57,f61,f62,f63,le59,hS60⟩ hb56
  have hm64:=wCR hm hX4 hb56
  try dsimp only at hm64
  have c65:Hid (¬ ((↑(((↑p0.length:Int):Int) - 0).toNat:Int) < (↑p0.length:Int))):=zC (wAv)
  refine sR fL1 Z (oR Z (zN Z fi57 f63) (eN (zA (cF Z c65 (zt (zQ (zQ (zn (zE (sR fL1 Z (oA Z Z (eN (zK ?_)))))))))))))
  have hE:=nE hm64;first | subst r | cases hE
  exact ⟨Z,_,(zm Z),U58,_,hS60,Z,Z⟩
theorem wEd (p0:wAA) (w:World) (U:PHeap) (hS:St0 w U [])  {r:Bool} (hm:wBA p0=some r):Gv Tryz.prog 85 [.agg #[jV p0.Bib,jV p0.Time,jV p0.Gate]] w (wCQ w [] U (fun U_ L_ v=>v=.bool r/\L_=[])):=by
 unfold wBA at hm
 refine Gv.of Tryz.func85 Z Tryz.ntmps85 Tryz.results85 Z (sR (.fx 0 (.fl 1 (.nil)) .stop) Z ?_)
 let B0:List Value:=[jV p0.Bib,jV p0.Time,jV p0.Gate]
 refine OKS.box (cs:=B0) rfl rfl rfl rfl rfl rfl (by rfl) hS ?_
 intro W1 b2 hS3
 refine oA Z Z (eN (sR (.fl 0 (.fl 1 (.fx 2 (wRH (.fx 6 (wRK (.fx 11 (.fl 12 (.fl 13 (.nil))) .stop)) .stop)) .stop))) Z (oR Z (zq Z Z ZA Z zF) (oL Z (hS3.ldB (j:=0) Z Z Z zH (v:=jV p0.Bib) Z) (bnK hm fun x5 h6 hm7=>zI 0 Z Z Z Z (zJ Z Z Zg (zB Z (zB Z (zB Z zO))) Z) hS3 (fun hs=>wBz p0.Bib 1 999 W1 U hs h6) (.inr Z) ?_)))))
 rintro U8 L9 v10 W11 le12 hS13 ⟨rfl,rfl⟩
 have hS14:sW w U U8 [.blk b2 54 B0] W11:=hS13
 refine oM Z Z (ifc hm7 ?_ ?_)
 ·intro c15 hm16
  refine zx Z Z Z (zh Z Z (congrArg nB c15.out)) (fun _=>zq Z Z ZA Z zF) (OKS.m Z Z Z (zh Z Z (congrArg nB c15.out)) (hS14.ldB (j:=0) Z Z Z zH (v:=jV p0.Time) Z) Z (bnK hm16 fun x17 h18 hm19=>zI 0 Z Z Z (zh Z Z (congrArg nB c15.out)) (zJ Z Z Zg (zB Z (zB Z (zB Z zO))) Z) hS14 (fun hs=>wBz p0.Time 0 360000 W11 U8 hs h18) (.inr Z) ?_))
  rintro U20 L21 v22 W23 le24 hS25 ⟨rfl,rfl⟩
  have hS26:sW w U U20 [.blk b2 54 B0] W23:=hS25
  refine oR Z (ZC Z (congrArg nB c15.out) Z) (oM Z Z (ifc hm19 ?_ ?_))
  ·intro c27 hm28
   refine zx Z Z Z (zh Z Z (congrArg nB c27.out)) (fun _=>zq Z Z ZA Z zF) (OKS.m Z Z Z (zh Z Z (congrArg nB c27.out)) (hS26.ldB (j:=0) Z Z Z zH (v:=jV p0.Gate) Z) Z (bnK hm28 fun x29 h30 hm31=>zI 0 Z Z Z (zh Z Z (congrArg nB c27.out)) (zJ Z Z Zg (zB Z (zB Z (zB Z zO))) Z) hS26 (fun hs=>wBz p0.Gate 0 60 W23 U20 hs h30) (.inr Z) ?_))
   rintro U32 L33 v34 W35 le36 hS37 ⟨rfl,rfl⟩
   have hS38:sW w U U32 [.blk b2 54 B0] W35:=hS37
   refine oR Z (ZC Z (congrArg nB c27.out) Z) (oA Z Z (eN (zK ?_)))
   have hE:=nE hm31;first | subst r | cases hE
   exact ⟨rfl,_,(zm rfl),U32,_,(hS38.pick [] _ (by decide) rfl),rfl,rfl⟩
  ·intro c27 hm39
   refine ZL Z Z Z (zo Z Z (congrArg nB (nD.2 c27.out)) Z) (ZL Z Z Z (zo Z Z (congrArg nB (nD.2 c27.out)) Z) (Zf Z Z Z (zo Z Z (congrArg nB (nD.2 c27.out)) Z) (oR Z (ZB Z (congrArg nB (nD.2 c27.out)) Z) (oA Z Z (eN (zK ?_))))))
   have hE:=nE hm39;first | subst r | cases hE
   exact ⟨rfl,_,(zm rfl),U20,_,(hS26.pick [] _ (by decide) rfl),rfl,rfl⟩
 ·intro c15 hm40
  refine ZL Z Z Z (zo Z Z (congrArg nB (nD.2 c15.out)) Z) (ZL Z Z Z (zo Z Z (congrArg nB (nD.2 c15.out)) Z) (Zf Z Z Z (zo Z Z (congrArg nB (nD.2 c15.out)) Z) (oR Z (ZB Z (congrArg nB (nD.2 c15.out)) Z) (oM Z Z (oN Z (oN Z (Zf Z Z Z (zo Z Z Z Z) (oR Z (ZB Z Z Z) (oA Z Z (eN (zK ?_)))))))))))
  have hE:=nE hm40;first | subst r | cases hE
  exact ⟨rfl,_,(zm rfl),U8,_,(hS14.pick [] _ (by decide) rfl),rfl,rfl⟩
theorem wGk (p0:Int) (p1:Int) (w:World) (U:PHeap) (hS:St0 w U [])  {r:Bool} (hm:wBp p0 p1=some r):Gv Tryz.prog 129 [jV p0,jV p1] w (wCQ w [] U (fun U_ L_ v=>v=.bool r/\L_=[])):=by
 unfold wBp at hm
 refine Gv.of Tryz.func129 Z Tryz.ntmps129 Tryz.results129 Z (sR fL1 Z (oA Z Z (eN (sR (.fl 0 (.fx 1 (.fl 2 (.fl 3 (.fx 4 (wRI (.nil)) .stop))) .stop)) Z (oM Z Z (bnK hm fun x1 h2 hm3=>zI 0 Z Z Z Z (zJ Z Z Tryz.call128 (zB Z zO) Z) hS (fun hs=>wCP p0 w U hs h2) (.inr Z) ?_))))))
 rintro U4 L5 v6 W7 le8 hS9 ⟨rfl,rfl⟩
 have hS10:sW w U U4 [] W7:=hS9
 refine oM Z Z (ifc hm3 ?_ ?_)
 ·intro c11 hm12
  refine zk Z Z Z (zh Z Z (congrArg nB c11.out)) Z Z (bnK hm12 fun x13 h14 hm15=>zI 0 Z Z Z (zh Z Z (congrArg nB c11.out)) (zJ Z Z Tryz.call128 (zB Z zO) Z) hS10 (fun hs=>wCP p1 W7 U4 hs h14) (.inr Z) ?_)
  rintro U16 L17 v18 W19 le20 hS21 ⟨rfl,rfl⟩
  have hS22:sW w U U16 [] W19:=hS21
  refine zx Z Z Z (zh Z Z (congrArg nB c11.out)) (fun _=>ZO Z Z) (oR Z (ZC Z (congrArg nB c11.out) Z) (oM Z Z (ifc hm15 ?_ ?_)))
  ·intro c23 hm24
   refine zk Z Z Z (zh Z Z (nC c23.out)) Z Z (zk Z Z Z (zh Z Z (nC c23.out)) Z Z (zx Z Z Z (zh Z Z (nC c23.out)) (fun _=>zN Z Z Z) (oR Z (ZB Z (nC c23.out) Z) (oA Z Z (eN (zK ?_))))))
   cases hm24
   exact ⟨Z,_,(zm Z),U16,_,hS22,Z,Z⟩
  ·intro c23 hm25
   refine ZL Z Z Z (zo Z Z (nF (c23.out)) Z) (ZL Z Z Z (zo Z Z (nF (c23.out)) Z) (ZL Z Z Z (zo Z Z (nF (c23.out)) Z) (oR Z (ZC Z (nF (c23.out)) Z) (oA Z Z (eN (zK ?_))))))
   have hE:=nE hm25;first | subst r | cases hE
   exact ⟨Z,_,(zm Z),U16,_,hS22,Z,Z⟩
 ·intro c11 hm26
  refine ZL Z Z Z (zo Z Z (congrArg nB (nD.2 c11.out)) Z) (Zf Z Z Z (zo Z Z (congrArg nB (nD.2 c11.out)) Z) (ZL Z Z Z (zo Z Z (congrArg nB (nD.2 c11.out)) Z) (oR Z (ZB Z (congrArg nB (nD.2 c11.out)) Z) (oM Z Z (zk Z Z Z (zh Z Z Z) Z Z (zk Z Z Z (zh Z Z Z) Z Z (zx Z Z Z (zh Z Z Z) (fun _=>zN Z Z Z) (oR Z (ZB Z Z Z) (oA Z Z (eN (zK ?_)))))))))))
  cases hm26
  exact ⟨Z,_,(zm Z),U4,_,hS10,Z,Z⟩
theorem wDH (p0:List Int) (pA0:Option Addr) (pc0:Nat) (w:World) (U:PHeap) (hS:St0 w U []) (ha0:Sl U 1 pA0 pc0 p0.length (nA KL.encI p0)) {r:Bool} (hm:wAy p0=some r):Gv Tryz.prog 88 [.slice pA0 p0.length pc0] w (wCQ w [] U (fun U_ L_ v=>v=.bool r/\L_=[])):=by
 unfold wAy at hm
 refine Gv.of Tryz.func88 Z Tryz.ntmps88 Tryz.results88 Z (sR fL1 Z (oA Z Z (eN (zA (sR fL4 Z (oM Z Z (oR Z (zV Z Z zP) (oR Z (Runs.subw Z Z Z) (oA Z Z (eN (zM (CK.iter (fun x4 σ_ w_=>∃ (U_:PHeap),σ_ 0=.slice pA0 p0.length pc0/\σ_ 3=jV x4/\PHeap.Le U U_/\sW w U U_ [] w_) hm ?_ ?_))))))))))))
 ·exact ⟨U,Z,Z,(zS _),hS⟩
 ·rintro x4 xx7 σ5 W6 ⟨U12,f15,f16,le13,hS14⟩ hx8 hb9
  refine zA (sR fL2 Z (oM Z f16 (oR Z (ZR Z Z Z) (eN ?_))))
  by_cases c17:0 < x4
  ·have hm18:=hx8;rw [if_pos c17] at hm18;replace c17:=zC c17
   refine cT Z c17 (kN (zA (zM (zA (ZK ZJ [3,3,3,1,3,3,3,3,1,2] (fC0_8 (.fx 9 (.nil) .stop)) (by kernel_rfl) ?_)))))
   have hS19:=hS14.drew
   generalize hw_W20:({ W6 with drawn:=W6.drawn + 1 }:World)=W20 at hS19 ⊢
   refine oM Z f15 (oM Z f16 (bnK hm18 fun x21 h22 hm23=>?_))
   have h24:=ha0.le le13
   have q:=h24.el (fun _=>rfl) (wAU h22)
   obtain ⟨b25,off26,hA27,hC28⟩:=q
   refine oR Z (Runs.iaI Z Z hA27 Z zP zF (wDj h22) (wEI h22)) (oL Z (hS19.ldC (f:=0) hC28 (v:=jV x21) Z Z zH Z) (oM Z f15 (oM Z f16 (oR Z (Runs.subw Z Z Z) (bnK hm23 fun x29 h30 hm31=>?_)))))
   have q:=h24.el (fun _=>rfl) (wAU h30)
   obtain ⟨b32,off33,hA34,hC35⟩:=q
   refine oR Z (Runs.iaI Z Z hA34 Z zP zF (wDj h30) (wEI h30)) (oL Z (hS19.ldC (f:=0) hC35 (v:=jV x29) Z Z zH Z) (bnK hm31 fun x36 h37 hm38=>zI 0 Z Z Z Z (zJ Z Z Tryz.call129 (zB Z (zB Z zO)) Z) hS19 (fun hs=>wGk x21 x29 W20 U12 hs h37) (.inr Z) ?_))
   rintro U39 L40 v41 W42 le43 hS44 ⟨rfl,rfl⟩
   have hS45:sW w U U39 [] W42:=hS44
   refine eN (ifc hm38 ?_ ?_)
   ·intro c46 hm47
    refine zj (congrArg nB c46.out) (sR fL1 Z (oA Z Z (eN (zK (zW (zG ?_))))))
    have q:=wAl hm47
    obtain ⟨v48,hm49,e50⟩:=q
    obtain rfl:=hb9 v48 e50
    refine zG (zW (zG ?_))
    have hE:=nE hm49;first | subst r | cases hE
    exact ⟨Z,_,(zm Z),U39,_,hS45,Z,Z⟩
   ·intro c46 hm51
    refine zg (congrArg nB (nD.2 c46.out)) (ZF (zX (zE (rR fL3 Z (oM Z f16 (oR Z (Runs.subw Z Z Z) (oA Z Z (zi ?_))))))))
    obtain rfl:=nE hm51
    exact zE ⟨Z,_,Z,⟨U39,f15,Z,(le13.trans le43),hS45⟩⟩
  ·have hm53:=hx8;rw [if_neg c17] at hm53;replace c17:=zC c17
   refine cF Z c17 (zt (zQ ?_))
   have q:=wAl hm53
   obtain ⟨v54,hm55,e56⟩:=q
   obtain rfl:=hb9 v54 e56
   refine zQ (zn (zE (sR fL1 Z (oA Z Z (eN (zK ?_))))))
   have hE:=nE hm55;first | subst r | cases hE
   exact ⟨Z,_,(zm Z),U12,_,hS14,Z,Z⟩
theorem wDN (p0:List wAA) (pA0:Option Addr) (pc0:Nat) (w:World) (U:PHeap) (hS:St0 w U []) (ha0:Sl U 3 pA0 pc0 p0.length (nA wAC p0)) {r:Int} (hm:wBX p0=some r):Gv Tryz.prog 23 [.slice pA0 p0.length pc0] w (wCQ w [] U (fun U_ L_ v=>v=jV r/\L_=[])):=by
 unfold wBX at hm
 refine Gv.of Tryz.func23 Z Tryz.ntmps23 Tryz.results23 Z (sR fL1 Z (oA Z Z (eN (sR fL2 Z (oA Z Z (oA Z Z (eN (zA (sR fL3 Z (oM Z Z (oR Z (zV Z Z zL) (oM Z Z (eN (zM ?_))))))))))))))
 have q:=bnd hm
 obtain ⟨⟨y38,y39⟩,hf35,hm34⟩:=q
 try dsimp only at hm34
 have q:=wBb hf35
 obtain ⟨hle36,hf37⟩:=q
 replace hle36:=zC hle36
 refine CK.forN' (fun k33 (l25,l29) σ_ w_=>∃ (U_:PHeap) (A26:Option Addr) (c27:Nat) (A30:Option Addr) (c31:Nat),σ_ 9=jV (↑k33:Int)/\σ_ 0=.slice pA0 p0.length pc0/\σ_ 3=.slice A26 l25.length c27/\σ_ 4=.slice A30 l29.length c31/\σ_ 7=.slice pA0 p0.length pc0/\σ_ 8=jV (↑p0.length:Int)/\PHeap.Le U U_/\sW w U U_ [.row A26 c27 3 1 (nA KL.encI l25),.row A30 c31 3 1 (nA KL.encI l29)] w_) hf37 ?_ ?_ ?_
 ·have hS40:=hS.nilrow 3 1
  have hS42:=hS40.nilrow 3 1
  exact ⟨U,none,0,none,0,rfl,rfl,rfl,rfl,rfl,rfl,(zS _),(hS42.pick [1,0] _ (by decide) rfl)⟩
 ·rintro k33 ⟨l25,l29⟩ xx46 σ44 W45 hk49 ⟨U51,A26,c27,A30,c31,fi50,f54,f55,f56,f57,f58,le52,hS53⟩ hx47
  try dsimp only at hx47
  have c59:Hid ((↑k33:Int) < (↑p0.length:Int)):=zC (wBL hk49)
  replace hk49:=zC hk49
  have hi60:Hid (w64 ((↑k33:Int) + 1)=(↑(k33 + 1):Int)):=zC (by have h1:=hle36.out;have h2:=c59.out;rw [wAe] <;> omega)
  refine sR fL1 Z (oR Z (zN Z fi50 f58) (eN (zA (cT Z c59 (kN ?_)))))
  have q:=bnd hx47
  obtain ⟨⟨l61,l64⟩,hx68,hm69⟩:=q
  try dsimp only at hm69
  refine CK.cut (fun σ_ w_=>∃ (U_:PHeap) (A62:Option Addr) (c63:Nat) (A65:Option Addr) (c66:Nat),σ_ 0=.slice pA0 p0.length pc0/\σ_ 3=.slice A62 l61.length c63/\σ_ 4=.slice A65 l64.length c66/\σ_ 7=.slice pA0 p0.length pc0/\σ_ 8=jV (↑p0.length:Int)/\σ_ 9=jV (↑k33:Int)/\PHeap.Le U51 U_/\sW w U U_ [.row A62 c63 3 1 (nA KL.encI l61),.row A65 c66 3 1 (nA KL.encI l64)] w_) ?_ ?_
  ·refine zM (sR (.fl 0 (.fl 1 (.fx 2 (.fx 3 (.nil) .stop) .stop))) Z (bnK hx68 fun x70 h71 hm72=>?_))
   have h73:=ha0.le le52
   have q:=h73.el (fun _=>rfl) (wAU h71)
   obtain ⟨b74,off75,hA76,hC77⟩:=q
   refine oR Z (ze Z f57 hA76 fi50 zL zf (wAu h71)) (oL Z (hS53.ldCA (f:=0) hC77 Z Z ZW zf (us:=[jV x70.Bib,jV x70.Time,jV x70.Gate]) Z Z) (ZS (cs:=[jV 0,jV 0,jV 0]) Z Z Z Z Z zy Z hS53 ?_))
   intro W78 b79 hS80
   let B0:List Value:=[jV x70.Bib,jV x70.Time,jV x70.Gate]
   refine Zc (j:=0) (vs:=B0) Z Z Z Z hS80 Z Z Z Z zf (zZ Z) Z Z Z ?_
   intro W82 hS83
   let B1:Res:=.row A30 c31 3 1 (nA KL.encI l29)
   let B2:Res:=.row A26 c27 3 1 (nA KL.encI l25)
   have hS84:sW w U U51 [.blk b79 54 B0,B2,B1] W82:=hS83
   refine eN (bnK hm72 fun x90 h91 hm111=>bnK hm111 fun x103 h104 hm112=>ZK ZJ [3,3,1,2,0,3,3,2,2,0,3,3] (wKr (.fl 5 (.fl 6 (.fx 3 (.fx 4 (.fx 7 (.fx 8 (.fx 9 (.fl 10 (.fl 11 (.nil))) (.stop)) (.stop)) (.stop)) (.fx 7 (.fx 4 (.fx 8 (.fx 9 (.fl 10 (.fl 11 (.nil))) (.stop)) (.stop)) (.fx 8 (.fx 4 (.fx 9 (.fl 10 (.fl 11 (.nil))) (.stop)) (.stop)) (.stop))) (.stop))) (.fx 7 (.fx 3 (.fx 4 (.fx 8 (.fx 9 (.fl 10 (.fl 11 (.nil))) (.stop)) (.stop)) (.fx 8 (.fx 4 (.fx 9 (.fl 10 (.fl 11 (.nil))) (.stop)) (.stop)) (.stop))) (.fx 8 (.fx 3 (.fx 4 (.fx 9 (.fl 10 (.fl 11 (.nil))) (.stop)) (.stop)) (.stop)) (.stop))) (.stop)))))) (by kernel_rfl) ?_)
   have hS113:=hS84.drew
   generalize hw_W114:({ W82 with drawn:=W82.drawn + 1 }:World)=W114 at hS113 ⊢
   refine oM Z f55 (oR Z (zq Z Z ZA Z zF) (oL Z (hS113.ldB (j:=0) Z Z Z zH (v:=jV x70.Bib) Z) (oM Z f56 (oR Z (zq Z Z ZA Z zF) (OKS.both ?_ ?_)))))
   ·refine zY (pv:=[(0,jV x70.Bib)]) (zs:=[jV 0]) (cs:=[jV x70.Bib]) Z Z Z Z Z (wAH Z wAV) zP zF ZI Z Z Z Z Z hS113 ?_
    intro W115 b116 hS117
    let B3:Res:=.row (some ⟨b116,0,none⟩) 1 3 1 (nA KL.encI [x70.Bib])
    have hS119:sW w U U51 [B3,.blk b79 54 B0,B2,B1] W115:=hS117
    refine OKS.both ?_ ?_
    ·refine zp (j:=2) (enc:=KL.encI) (xs:=l25) (ys:=[x70.Bib]) (zs:=x90) rfl rfl rfl rfl rfl ZD wEC rfl rfl rfl rfl rfl rfl hS119 rfl rfl rfl (hS119.srcR (j:=0) rfl (by decide) (wAF (f:=KL.encI) (sz:=1) (fun _=>rfl) [x70.Bib])) (fun _=>rfl) (fun _=>rfl) h91 rfl ?_
     intro A120 c121 W122 hS123
     let B4:Res:=.row A120 c121 3 1 (nA KL.encI x90)
     have hS124:sW w U U51 [B3,.blk b79 54 B0,B4,B1] W122:=hS123
     refine OKS.mx2 Z Z Z Z (hS124.ldB (j:=1) Z Z Z zH (v:=jV x70.Time) Z) (zY (pv:=[(0,jV x70.Time)]) (zs:=[jV 0]) (cs:=[jV x70.Time]) Z Z Z Z Z (wAH Z wAV) zP zF ZI Z Z Z Z Z hS124 ?_)
     intro W125 b126 hS127
     let B5:Res:=.row (some ⟨b126,0,none⟩) 1 3 1 (nA KL.encI [x70.Time])
     have hS129:sW w U U51 [B5,B3,.blk b79 54 B0,B4,B1] W125:=hS127
     refine zp (j:=4) (enc:=KL.encI) (xs:=l29) (ys:=[x70.Time]) (zs:=x103) rfl rfl rfl rfl rfl ZD wEC rfl rfl rfl rfl rfl rfl hS129 rfl rfl rfl (hS129.srcR (j:=0) rfl (by decide) (wAF (f:=KL.encI) (sz:=1) (fun _=>rfl) [x70.Time])) (fun _=>rfl) (fun _=>rfl) h104 rfl ?_
     intro A130 c131 W132 hS133
     have hS134:sW w U U51 [B5,B3,.blk b79 54 B0,B4,.row A130 c131 3 1 (nA KL.encI x103)] W132:=hS133
     refine oA Z Z (oA Z Z (zi (zX ?_)))
     cases hm112
     exact zE ⟨rfl,⟨U51,A120,c121,A130,c131,f54,rfl,rfl,f57,f58,fi50,(zS _),(hS134.pick [3,4] _ (by decide) rfl)⟩⟩
    ·refine OKS.mx2 Z Z Z Z (hS119.ldB (j:=1) Z Z Z zH (v:=jV x70.Time) Z) (OKS.both ?_ ?_)
     ·refine zp (j:=2) (enc:=KL.encI) (xs:=l25) (ys:=[x70.Bib]) (zs:=x90) rfl rfl rfl rfl rfl ZD wEC rfl rfl rfl rfl rfl rfl hS119 rfl rfl rfl (hS119.srcR (j:=0) rfl (by decide) (wAF (f:=KL.encI) (sz:=1) (fun _=>rfl) [x70.Bib])) (fun _=>rfl) (fun _=>rfl) h91 rfl ?_
      intro A141 c142 W143 hS144
      let B6:Res:=.row A141 c142 3 1 (nA KL.encI x90)
      have hS145:sW w U U51 [B3,.blk b79 54 B0,B6,B1] W143:=hS144
      refine zY (pv:=[(0,jV x70.Time)]) (zs:=[jV 0]) (cs:=[jV x70.Time]) Z Z Z Z Z (wAH Z wAV) zP zF ZI Z Z Z Z Z hS145 ?_
      intro W146 b147 hS148
      let B7:Res:=.row (some ⟨b147,0,none⟩) 1 3 1 (nA KL.encI [x70.Time])
      have hS150:sW w U U51 [B7,B3,.blk b79 54 B0,B6,B1] W146:=hS148
      refine zp (j:=4) (enc:=KL.encI) (xs:=l29) (ys:=[x70.Time]) (zs:=x103) rfl rfl rfl rfl rfl ZD wEC rfl rfl rfl rfl rfl rfl hS150 rfl rfl rfl (hS150.srcR (j:=0) rfl (by decide) (wAF (f:=KL.encI) (sz:=1) (fun _=>rfl) [x70.Time])) (fun _=>rfl) (fun _=>rfl) h104 rfl ?_
      intro A151 c152 W153 hS154
      have hS155:sW w U U51 [B7,B3,.blk b79 54 B0,B6,.row A151 c152 3 1 (nA KL.encI x103)] W153:=hS154
      refine oA Z Z (oA Z Z (zi (zX ?_)))
      cases hm112
      exact zE ⟨rfl,⟨U51,A141,c142,A151,c152,f54,rfl,rfl,f57,f58,fi50,(zS _),(hS155.pick [3,4] _ (by decide) rfl)⟩⟩
     ·refine zY (pv:=[(0,jV x70.Time)]) (zs:=[jV 0]) (cs:=[jV x70.Time]) Z Z Z Z Z (wAH Z wAV) zP zF ZI Z Z Z Z Z hS119 ?_
      intro W162 b163 hS164
      let B8:Res:=.row (some ⟨b163,0,none⟩) 1 3 1 (nA KL.encI [x70.Time])
      have hS166:sW w U U51 [B8,B3,.blk b79 54 B0,B2,B1] W162:=hS164
      refine zp (j:=3) (enc:=KL.encI) (xs:=l25) (ys:=[x70.Bib]) (zs:=x90) rfl rfl rfl rfl rfl ZD wEC rfl rfl rfl rfl rfl rfl hS166 rfl rfl rfl (hS166.srcR (j:=1) rfl (by decide) (wAF (f:=KL.encI) (sz:=1) (fun _=>rfl) [x70.Bib])) (fun _=>rfl) (fun _=>rfl) h91 rfl ?_
      intro A167 c168 W169 hS170
      let B9:Res:=.row A167 c168 3 1 (nA KL.encI x90)
      have hS171:sW w U U51 [B8,B3,.blk b79 54 B0,B9,B1] W169:=hS170
      refine zp (j:=4) (enc:=KL.encI) (xs:=l29) (ys:=[x70.Time]) (zs:=x103) rfl rfl rfl rfl rfl ZD wEC rfl rfl rfl rfl rfl rfl hS171 rfl rfl rfl (hS171.srcR (j:=0) rfl (by decide) (wAF (f:=KL.encI) (sz:=1) (fun _=>rfl) [x70.Time])) (fun _=>rfl) (fun _=>rfl) h104 rfl ?_
      intro A172 c173 W174 hS175
      have hS176:sW w U U51 [B8,B3,.blk b79 54 B0,B9,.row A172 c173 3 1 (nA KL.encI x103)] W174:=hS175
      refine oA Z Z (oA Z Z (zi (zX ?_)))
      cases hm112
      exact zE ⟨rfl,⟨U51,A167,c168,A172,c173,f54,rfl,rfl,f57,f58,fi50,(zS _),(hS176.pick [3,4] _ (by decide) rfl)⟩⟩
   ·refine OKS.mx2 Z Z Z Z (hS113.ldB (j:=0) Z Z Z zH (v:=jV x70.Time) Z) (OKS.both ?_ ?_)
    ·refine zY (pv:=[(0,jV x70.Bib)]) (zs:=[jV 0]) (cs:=[jV x70.Bib]) Z Z Z Z Z (wAH Z wAV) zP zF ZI Z Z Z Z Z hS113 ?_
     intro W183 b184 hS185
     let B10:Res:=.row (some ⟨b184,0,none⟩) 1 3 1 (nA KL.encI [x70.Bib])
     have hS187:sW w U U51 [B10,.blk b79 54 B0,B2,B1] W183:=hS185
     refine OKS.both ?_ ?_
     ·refine zp (j:=2) (enc:=KL.encI) (xs:=l25) (ys:=[x70.Bib]) (zs:=x90) rfl rfl rfl rfl rfl ZD wEC rfl rfl rfl rfl rfl rfl hS187 rfl rfl rfl (hS187.srcR (j:=0) rfl (by decide) (wAF (f:=KL.encI) (sz:=1) (fun _=>rfl) [x70.Bib])) (fun _=>rfl) (fun _=>rfl) h91 rfl ?_
      intro A188 c189 W190 hS191
      let B11:Res:=.row A188 c189 3 1 (nA KL.encI x90)
      have hS192:sW w U U51 [B10,.blk b79 54 B0,B11,B1] W190:=hS191
      refine zY (pv:=[(0,jV x70.Time)]) (zs:=[jV 0]) (cs:=[jV x70.Time]) Z Z Z Z Z (wAH Z wAV) zP zF ZI Z Z Z Z Z hS192 ?_
      intro W193 b194 hS195
      let B12:Res:=.row (some ⟨b194,0,none⟩) 1 3 1 (nA KL.encI [x70.Time])
      have hS197:sW w U U51 [B12,B10,.blk b79 54 B0,B11,B1] W193:=hS195
      refine zp (j:=4) (enc:=KL.encI) (xs:=l29) (ys:=[x70.Time]) (zs:=x103) rfl rfl rfl rfl rfl ZD wEC rfl rfl rfl rfl rfl rfl hS197 rfl rfl rfl (hS197.srcR (j:=0) rfl (by decide) (wAF (f:=KL.encI) (sz:=1) (fun _=>rfl) [x70.Time])) (fun _=>rfl) (fun _=>rfl) h104 rfl ?_
      intro A198 c199 W200 hS201
      have hS202:sW w U U51 [B12,B10,.blk b79 54 B0,B11,.row A198 c199 3 1 (nA KL.encI x103)] W200:=hS201
      refine oA Z Z (oA Z Z (zi (zX ?_)))
      cases hm112
      exact zE ⟨rfl,⟨U51,A188,c189,A198,c199,f54,rfl,rfl,f57,f58,fi50,(zS _),(hS202.pick [3,4] _ (by decide) rfl)⟩⟩
     ·refine zY (pv:=[(0,jV x70.Time)]) (zs:=[jV 0]) (cs:=[jV x70.Time]) Z Z Z Z Z (wAH Z wAV) zP zF ZI Z Z Z Z Z hS187 ?_
      intro W209 b210 hS211
      let B13:Res:=.row (some ⟨b210,0,none⟩) 1 3 1 (nA KL.encI [x70.Time])
      have hS213:sW w U U51 [B13,B10,.blk b79 54 B0,B2,B1] W209:=hS211
      refine zp (j:=3) (enc:=KL.encI) (xs:=l25) (ys:=[x70.Bib]) (zs:=x90) rfl rfl rfl rfl rfl ZD wEC rfl rfl rfl rfl rfl rfl hS213 rfl rfl rfl (hS213.srcR (j:=1) rfl (by decide) (wAF (f:=KL.encI) (sz:=1) (fun _=>rfl) [x70.Bib])) (fun _=>rfl) (fun _=>rfl) h91 rfl ?_
      intro A214 c215 W216 hS217
      let B14:Res:=.row A214 c215 3 1 (nA KL.encI x90)
      have hS218:sW w U U51 [B13,B10,.blk b79 54 B0,B14,B1] W216:=hS217
      refine zp (j:=4) (enc:=KL.encI) (xs:=l29) (ys:=[x70.Time]) (zs:=x103) rfl rfl rfl rfl rfl ZD wEC rfl rfl rfl rfl rfl rfl hS218 rfl rfl rfl (hS218.srcR (j:=0) rfl (by decide) (wAF (f:=KL.encI) (sz:=1) (fun _=>rfl) [x70.Time])) (fun _=>rfl) (fun _=>rfl) h104 rfl ?_
      intro A219 c220 W221 hS222
      have hS223:sW w U U51 [B13,B10,.blk b79 54 B0,B14,.row A219 c220 3 1 (nA KL.encI x103)] W221:=hS222
      refine oA Z Z (oA Z Z (zi (zX ?_)))
      cases hm112
      exact zE ⟨rfl,⟨U51,A214,c215,A219,c220,f54,rfl,rfl,f57,f58,fi50,(zS _),(hS223.pick [3,4] _ (by decide) rfl)⟩⟩
    ·refine zY (pv:=[(0,jV x70.Time)]) (zs:=[jV 0]) (cs:=[jV x70.Time]) Z Z Z Z Z (wAH Z wAV) zP zF ZI Z Z Z Z Z hS113 ?_
     intro W230 b231 hS232
     let B15:Res:=.row (some ⟨b231,0,none⟩) 1 3 1 (nA KL.encI [x70.Time])
     have hS234:sW w U U51 [B15,.blk b79 54 B0,B2,B1] W230:=hS232
     refine zY (pv:=[(0,jV x70.Bib)]) (zs:=[jV 0]) (cs:=[jV x70.Bib]) Z Z Z Z Z (wAH Z wAV) zP zF ZI Z Z Z Z Z hS234 ?_
     intro W235 b236 hS237
     let B16:Res:=.row (some ⟨b236,0,none⟩) 1 3 1 (nA KL.encI [x70.Bib])
     have hS239:sW w U U51 [B16,B15,.blk b79 54 B0,B2,B1] W235:=hS237
     refine zp (j:=3) (enc:=KL.encI) (xs:=l25) (ys:=[x70.Bib]) (zs:=x90) rfl rfl rfl rfl rfl ZD wEC rfl rfl rfl rfl rfl rfl hS239 rfl rfl rfl (hS239.srcR (j:=0) rfl (by decide) (wAF (f:=KL.encI) (sz:=1) (fun _=>rfl) [x70.Bib])) (fun _=>rfl) (fun _=>rfl) h91 rfl ?_
     intro A240 c241 W242 hS243
     let B17:Res:=.row A240 c241 3 1 (nA KL.encI x90)
     have hS244:sW w U U51 [B16,B15,.blk b79 54 B0,B17,B1] W242:=hS243
     refine zp (j:=4) (enc:=KL.encI) (xs:=l29) (ys:=[x70.Time]) (zs:=x103) rfl rfl rfl rfl rfl ZD wEC rfl rfl rfl rfl rfl rfl hS244 rfl rfl rfl (hS244.srcR (j:=1) rfl (by decide) (wAF (f:=KL.encI) (sz:=1) (fun _=>rfl) [x70.Time])) (fun _=>rfl) (fun _=>rfl) h104 rfl ?_
     intro A245 c246 W247 hS248
     have hS249:sW w U U51 [B16,B15,.blk b79 54 B0,B17,.row A245 c246 3 1 (nA KL.encI x103)] W247:=hS248
     refine oA Z Z (oA Z Z (zi (zX ?_)))
     cases hm112
     exact zE ⟨rfl,⟨U51,A240,c241,A245,c246,f54,rfl,rfl,f57,f58,fi50,(zS _),(hS249.pick [3,4] _ (by decide) rfl)⟩⟩
  ·rintro σ256 W257 ⟨U258,A62,c63,A65,c66,f261,f262,f263,f264,f265,f266,le259,hS260⟩
   refine rR fL2 Z (oR Z (zl (zU Z f266 Z) (congrArg (jV) hi60.out)) (oM Z Z (zi ?_)))
   cases hm69
   exact zE ⟨Z,⟨U258,A62,c63,A65,c66,Z,f261,f262,f263,f264,f265,(le52.trans le259),hS260⟩⟩
 ·rintro σ273 W274 ⟨U287,A283,c284,A285,c286,fi276,f290,f291,f292,f293,f294,le288,hS289⟩
  have c295:Hid (¬ ((↑(((↑p0.length:Int):Int) - 0).toNat:Int) < (↑p0.length:Int))):=zC (wAv)
  refine sR fL1 Z (oR Z (zN Z fi276 f294) (eN (zA (cF Z c295 (zt (zQ (zQ (zn (zE (zA (zM (sR fL4 Z (oM Z f290 (oR Z (zV Z Z zL) (oR Z (ZR Z Z Z) (oA Z Z (eN (ifc hm34 ?_ ?_))))))))))))))))))
  ·intro c296 hm297
   refine cT Z c296 (sR fL1 Z (oA Z Z (eN (zK (zW (zG ?_))))))
   cases hm297
   exact ⟨rfl,_,(zm rfl),U287,_,(hS289.pick [] _ (by decide) rfl),rfl,rfl⟩
  ·intro c296 hm298
   refine cF Z c296 (sR (.fl 0 (.fx 1 (.fl 2 (.fl 3 (.nil))) .stop)) Z (oM Z f290 ?_))
   have h299:=ha0.le le288
   have hF300:FnOK Tryz.prog U287 (.func (.func 85) #[] #[]) wOV wOW wBA:=⟨85,[],[],rfl,Tryz.call85,fun U1 w1 x y vs le hs ha hm=>by obtain rfl:=ha;exact wEd x w1 U1 hs  hm⟩
   refine bnK hm298 fun x301 h302 hm303=>zI 0 Z Z Z Z (zJ Z Z Tryz.call84 (zB Z (zB Z zO)) Z) hS289 (fun hs=>wDa p0 pA0 pc0 wBA (.func (.func 85) #[] #[]) W274 U287 hs h299 hF300 h302) (.inr Z) ?_
   rintro U304 L305 v306 W307 le308 hS309 ⟨rfl,rfl⟩
   let B18:Res:=.row A285 c286 3 1 (nA KL.encI y39)
   have hS310:sW w U U304 [.row A283 c284 3 1 (nA KL.encI y38),B18] W307:=hS309
   refine oR Z (ZO Z Z) (oA Z Z (eN (ifc hm303 ?_ ?_)))
   ·intro c311 hm312
    refine zg (nC c311.out) (sR (.fl 0 (.fx 1 (.fl 2 (.nil)) .stop)) Z (oM Z f291 ?_))
    have q:=hS310.freezeR (k:=0) (n:=y38.length) rfl (wAF (f:=KL.encI) (sz:=1) (fun _=>rfl) y38) (by decide)
    obtain ⟨U313,le314,hs315,hS316⟩:=q
    have hS317:sW w U U313 [B18] W307:=hS316
    refine bnK hm312 fun x318 h319 hm320=>zI 0 Z Z Z Z (zJ Z Z Tryz.call87 (zB Z zO) Z) hS317 (fun hs=>wDZ y38 A283 c284 W307 U313 hs hs315 h319) (.inr Z) ?_
    rintro U321 L322 v323 W324 le325 hS326 ⟨rfl,rfl⟩
    have hS327:sW w U U321 [B18] W324:=hS326
    refine oA Z Z (eN (ifc hm320 ?_ ?_))
    ·intro c328 hm329
     refine zj (congrArg nB c328.out) (sR fL1 Z (oA Z Z (eN (zK (zW (zG ?_))))))
     cases hm329
     exact ⟨rfl,_,(zm rfl),U321,_,(hS327.pick [] _ (by decide) rfl),rfl,rfl⟩
    ·intro c328 hm330
     refine zg (congrArg nB (nD.2 c328.out)) (sR (.fl 0 (.fx 1 (.fl 2 (.fl 3 (.nil))) .stop)) Z (oM Z f292 ?_))
     have q:=hS327.freezeR (k:=0) (n:=y39.length) rfl (wAF (f:=KL.encI) (sz:=1) (fun _=>rfl) y39) (by decide)
     obtain ⟨U331,le332,hs333,hS334⟩:=q
     have hS335:sW w U U331 [] W324:=hS334
     refine bnK hm330 fun x336 h337 hm338=>zI 0 Z Z Z Z (zJ Z Z Tryz.call88 (zB Z zO) Z) hS335 (fun hs=>wDH y39 A285 c286 W324 U331 hs hs333 h337) (.inr Z) ?_
     rintro U339 L340 v341 W342 le343 hS344 ⟨rfl,rfl⟩
     have hS345:sW w U U339 [] W342:=hS344
     refine oR Z (ZO Z Z) (oA Z Z (eN (ifc hm338 ?_ ?_)))
     ·intro c346 hm347
      refine zg (nC c346.out) (ZF (zX (zE (sR fL1 Z (oA Z Z (eN (zK ?_)))))))
      cases hm347
      exact ⟨Z,_,(zm Z),U339,_,hS345,Z,Z⟩
     ·intro c346 hm348
      refine zj (nF (c346.out)) (sR fL1 Z (oA Z Z (eN (zK (zW (zG ?_))))))
      cases hm348
      exact ⟨Z,_,(zm Z),U339,_,hS345,Z,Z⟩
   ·intro c311 hm349
    refine zj (nF (c311.out)) (sR fL1 Z (oA Z Z (eN (zK (zW (zG ?_))))))
    cases hm349
    exact ⟨rfl,_,(zm rfl),U304,_,(hS310.pick [] _ (by decide) rfl),rfl,rfl⟩
end Go.Proofs.YtghaibkggdecnaaGreat
namespace Go.Proofs.YtghaibkggdecnaaGreat
open Go.KL
set_option maxHeartbeats 4000000
theorem wEy (p0:wAA) (p1:Int) (pb1:Nat) (w:World) (U:PHeap) (hS:St0 w U []) (ha0:Cl U pb1 0 [jV p1]) {r:Bool} (hm:wBN p0 p1=some r):Gv Tryz.prog 114 [.agg #[jV p0.Bib,jV p0.Time,jV p0.Gate],.pointer (some ⟨pb1,0,none⟩)] w (wCQ w [] U (fun U_ L_ v=>v=.bool r/\L_=[])):=by
 unfold wBN at hm
 refine Gv.of Tryz.func114 rfl Tryz.ntmps114 Tryz.results114 rfl (sR (.fx 0 (.fl 1 (.nil)) .stop) rfl (OKS.box (cs:=[jV p0.Bib,jV p0.Time,jV p0.Gate]) rfl rfl rfl rfl rfl rfl (by rfl) hS ?_))
 intro W1 b2 hS3
 refine oA Z Z (eN (sR fL5 Z (oR Z (zq Z Z ZA Z zF) (oL Z (hS3.ldB (j:=0) Z Z Z zH (v:=jV p0.Bib) Z) (oL Z (hS3.ldC (f:=0) ha0 (v:=jV p1) Z Z zH Z) (oR Z (Za Z Z Z) (oA Z Z (eN (zK ?_)))))))))
 cases hm
 exact ⟨rfl,_,(zm rfl),U,_,(hS3.pick [] _ (by decide) rfl),rfl,rfl⟩
theorem wAb (p0:List wAA) (pA0:Option Addr) (pc0:Nat) (p1:(wAA->Option Bool)) (pv1:Value) (w:World) (U:PHeap) (hS:St0 w U []) (ha0:Sl U 3 pA0 pc0 p0.length (nA wAC p0)) (ha1:FnOK Tryz.prog U pv1 wOV wOW p1) {r:Int} (hm:wAI p0 p1=some r):Gv Tryz.prog 24 [.slice pA0 p0.length pc0,pv1] w (wCQ w [] U (fun U_ L_ v=>v=jV r/\L_=[])):=by
 unfold wAI at hm
 refine Gv.of Tryz.func24 Z Tryz.ntmps24 Tryz.results24 Z (sR fL1 Z (oA Z Z (eN (zA (sR fL3 Z (oM Z Z (oR Z (zV Z Z zL) (oM Z Z (eN (zM ?_))))))))))
 have q:=wBs hm
 obtain ⟨r3,hX4⟩:=q
 have q:=wBr hX4
 obtain ⟨hle5,hf6⟩:=q
 replace hle5:=zC hle5
 refine ZV (fun k2 _ σ_ w_=>∃ (U_:PHeap),σ_ 8=jV (↑k2:Int)/\σ_ 0=.slice pA0 p0.length pc0/\σ_ 1=pv1/\σ_ 7=jV (↑p0.length:Int)/\PHeap.Le U U_/\sW w U U_ [] w_) hf6 ?_ ?_ ?_
 ·exact ⟨U,Z,Z,Z,Z,(zS _),hS⟩
 ·rintro k2 ⟨⟩ xx9 σ7 W8 hk12 ⟨U14,fi13,f17,f18,f19,le15,hS16⟩ hx10 hb11
  try dsimp only at hx10
  have c20:Hid ((↑k2:Int) < (↑p0.length:Int)):=zC (wBL hk12)
  replace hk12:=zC hk12
  have hi21:Hid (w64 ((↑k2:Int) + 1)=(↑(k2 + 1):Int)):=zC (by have h1:=hle5.out;have h2:=c20.out;rw [wAe] <;> omega)
  refine sR fL1 Z (oR Z (zN Z fi13 f19) (eN (zA (cT Z c20 (kN (zA (zM (sR fL2 Z (oM Z fi13 (oA Z Z (eN (sR (wGa (.fx 5 (.nil) .stop)) Z (oM Z f18 (oM Z f17 (oM Z Z (bnK hx10 fun x22 h23 hm24=>?_))))))))))))))))
  have h25:=ha0.le le15
  have q:=h25.el (fun _=>rfl) (wAU h23)
  obtain ⟨b26,off27,hA28,hC29⟩:=q
  refine oR Z (ze Z Z hA28 Z zL zf (wAu h23)) (oL Z (hS16.ldCA (f:=0) hC29 Z Z ZW zf (us:=[jV x22.Bib,jV x22.Time,jV x22.Gate]) Z Z) (bnK hm24 fun x30 h31 hm32=>?_))
  have h39:=ha1.le le15
  refine OKS.callV (a:=x22) Z Z Z Z Z Z (zB Z zO) hS16 h39 Z h31 ?_
  rintro U33 L34 v35 W36 le37 hS38 ⟨rfl,rfl⟩
  have hS40:sW w U U33 [] W36:=hS38
  refine eN (ifc hm32 ?_ ?_)
  ·intro c41 hm42
   refine zj (congrArg nB c41.out) (sR fL2 Z (oM Z Z (oA Z Z (eN (zK (zW (zG ?_)))))))
   have q:=wAl hm42
   obtain ⟨v43,hm44,e45⟩:=q
   obtain rfl:=wBt hm hX4 (hb11 v43 e45)
   refine zG (zW (zG ?_))
   cases hm44
   exact ⟨Z,_,(zm Z),U33,_,hS40,Z,Z⟩
  ·intro c41 hm46
   refine zg (congrArg nB (nD.2 c41.out)) (ZF (zX (zE (rR fL2 Z (oR Z (zl (zU Z fi13 Z) (congrArg (jV) hi21.out)) (oM Z Z (zi ?_)))))))
   obtain rfl:=nE hm46
   exact zE ⟨Z,_,Z,⟨U33,Z,f17,f18,f19,(le15.trans le37),hS40⟩⟩
 ·rintro ⟨⟩ σ47 W48 ⟨U51,fi50,f54,f55,f56,le52,hS53⟩ hb49
  have hm57:=wCR hm hX4 hb49
  try dsimp only at hm57
  have c58:Hid (¬ ((↑(((↑p0.length:Int):Int) - 0).toNat:Int) < (↑p0.length:Int))):=zC (wAv)
  refine sR fL1 Z (oR Z (zN Z fi50 f56) (eN (zA (cF Z c58 (zt (zQ (zQ (zn (zE (sR fL1 Z (oA Z Z (eN (zK ?_)))))))))))))
  cases hm57
  exact ⟨Z,_,(zm Z),U51,_,hS53,Z,Z⟩
theorem wAM (p0:List wAA) (pA0:Option Addr) (pc0:Nat) (w:World) (U:PHeap) (hS:St0 w U []) (ha0:Sl U 3 pA0 pc0 p0.length (nA wAC p0)) {r:(List wAA)} (hm:wAG p0=some r):Gv Tryz.prog 116 [.slice pA0 p0.length pc0] w (wCQ w [] U (fun U_ L_ v=>∃ (A0:Option Addr) (c0:Nat),v=.slice A0 r.length c0/\L_=[.row A0 c0 54 3 (nA wAC r)])):=by
 unfold wAG at hm
 refine Gv.of Tryz.func116 Z Tryz.ntmps116 Tryz.results116 Z (sR fL1 Z (oA Z Z (eN (zA (sR fL2 Z (oM Z Z (oR Z (Runs.eqNil Z Z Z zL) (eN ?_))))))))
 by_cases c1:pA0.isNone=true
 ·replace c1:=zC c1
  have hp2:p0=[]:=List.eq_nil_of_length_eq_zero (Sl.nilA (Option.isNone_iff_eq_none.1 c1.out ▸ ha0))
  have hm3:(some [])=some r:=by simpa [hp2,app] using hm
  refine zj (congrArg nB c1.out) (sR fL1 Z (oA Z Z (eN (zK (zG ?_)))))
  have hS4:=hS.nilrow 54 3
  cases hm3
  exact ⟨Z,_,(zm Z),U,_,hS4,none,0,Z,Z⟩
 ·replace c1:=zC c1
  refine zg (congrArg nB (nD.2 c1.out)) (kN (sR (.fx 0 (.fl 1 (.fx 2 (.fl 3 (.nil)) .stop)) .stop) Z (OKS.buildSlice0 3 Z Z Z Z Z zL zf hS ?_)))
  intro W6 b7 hS8
  have hS10:sW w U U [.row (some ⟨b7,0,none⟩) 0 54 3 (nA wAC ([]:List wAA))] W6:=hS8
  refine oM Z Z (bnK hm fun x11 h12 hm13=>zp (j:=0) (enc:=wAC) (xs:=([]:List wAA)) (ys:=p0) (zs:=x11) Z Z Z Z Z Tryz.underlying37 wOX Z Z Z Z Z Z hS10 Z Z Z (hS10.srcS ha0) (fun _=>Z) (fun _=>Z) h12 Z ?_)
  intro A14 c15 W16 hS17
  have hS18:sW w U U [.row A14 c15 54 3 (nA wAC x11)] W16:=hS17
  refine oA Z Z (eN (zK ?_))
  have hE:=nE hm13;first | subst r | cases hE
  exact ⟨Z,_,(zm Z),U,_,hS18,A14,c15,Z,Z⟩
theorem wBw (p0:List wAA) (pA0:Option Addr) (pc0:Nat) (p1:Int) (p2:Int) (w:World) (U:PHeap) (hS:St ⟨w,[.row pA0 pc0 54 3 (nA wAC p0)],U⟩ U [.row pA0 pc0 54 3 (nA wAC p0)] w) {r:List wAA} (hm:wAc p0 p1 p2=some r):Gv Tryz.prog 115 [.slice pA0 p0.length pc0,.int .i64 p1,.int .i64 p2] w (wCQ w [.row pA0 pc0 54 3 (nA wAC p0)] U (fun U_ L_ v=>∃ (A0:Option Addr) (c0:Nat),v=.slice A0 r.length c0/\L_=[.row A0 c0 54 3 (nA wAC r)])) :=
 wKN (z:=.int .i64 0) (fun _=>rfl) (by omega) (fun _=>rfl) rfl (fun b c n i j cs w h1 h2 h3 h4 h5 h6 h7 h8=>Go.Proofs.delCalls115 b c n i j cs w h1 h2 h3 h4 h5 h6 h7 h8) hS hm
theorem wFY (p0:List wAA) (pA0:Option Addr) (pc0:Nat) (p1:Int) (w:World) (U:PHeap) (hS:St0 w U []) (ha0:Sl U 3 pA0 pc0 p0.length (nA wAC p0)) {r:(List wAA) × Int} (hm:wBm p0 p1=some r):Gv Tryz.prog 68 [.slice pA0 p0.length pc0,jV p1] w (wCQ w [] U (fun U_ L_ v=>∃ (A0:Option Addr) (c0:Nat),v=.tuple #[.slice A0 r.1.length c0,jV r.2]/\L_=[.row A0 c0 54 3 (nA wAC r.1)])):=by
 unfold wBm at hm
 refine Gv.of Tryz.func68 rfl Tryz.ntmps68 Tryz.results68 rfl (sR (.fx 0 (.fl 1 (.fl 2 (.nil))) .stop) rfl (OKS.box (cs:=[jV p1]) rfl rfl rfl rfl rfl rfl (by rfl) hS ?_))
 intro W1 b2 hS3
 have q:=hS3.freeze (k:=0) rfl
 obtain ⟨U5,le6,hC7,hS8⟩:=q
 replace hC7:=Cl.of hC7
 have hS9:sW w U U5 [] W1:=hS8
 replace hC7:Cl U5 b2 0 [jV p1]:=hC7
 refine oA Z Z (oA Z Z (eN (zA (sR (.fl 0 (.fx 1 (.fl 2 (.nil)) .stop)) Z (oM Z Z ?_)))))
 have h10:=ha0.le le6
 refine bnK hm fun x11 h12 hm13=>zI 0 Z Z Z Z (zJ Z Z Tryz.call23 (zB Z zO) Z) hS9 (fun hs=>wDN p0 pA0 pc0 W1 U5 hs h10 h12) (.inr Z) ?_
 rintro U14 L15 v16 W17 le18 hS19 ⟨rfl,rfl⟩
 have hS20:sW w U U14 [] W17:=hS19
 refine oA Z Z (eN (sR fL2 Z (oM Z Z (oR Z (ZU Z Z Z) (eN (ifc hm13 ?_ ?_))))))
 ·intro c21 hm22
  refine zg (ZN (fun h=>h c21.out)) (kN (sR (.fl 0 (.fl 1 (.fx 2 (.fl 3 (.nil)) .stop))) Z (oM Z Z (oR Z (Runs.mkf Z zO (zB Z zO)) ?_))))
  have h23:=h10.le le18
  have h24:=hC7.le le18
  have hF25:FnOK Tryz.prog U14 (.func (.func 114) #[] #[.pointer (some ⟨b2,0,none⟩)]) wOV wOW (fun x=>wBN x p1):=⟨114,[],[.pointer (some ⟨b2,0,none⟩)],rfl,Tryz.call114,fun U1 w1 x y vs le hs ha hm=>by obtain rfl:=ha;exact wEy x p1 b2 w1 U1 hs (h24.le le) hm⟩
  refine bnK hm22 fun x26 h27 hm28=>zI 0 Z Z Z Z (zJ Z Z Tryz.call24 (zB Z (zB Z zO)) Z) hS20 (fun hs=>wAb p0 pA0 pc0 (fun x=>wBN x p1) (.func (.func 114) #[] #[.pointer (some ⟨b2,0,none⟩)]) W17 U14 hs h23 hF25 h27) (.inr Z) ?_
  rintro U29 L30 v31 W32 le33 hS34 ⟨rfl,rfl⟩
  have hS35:sW w U U29 [] W32:=hS34
  refine oA Z Z (eN (zA (sR fL2 Z (oM Z Z (oR Z (zN Z Z Z) (eN (ifc hm28 ?_ ?_)))))))
  ·intro c36 hm37
   refine cT Z c36 (sR fL2 Z (oA Z Z (oA Z Z (eN (zK (zG ?_))))))
   have hS38:=hS35.nilrow 54 3
   cases hm37
   exact ⟨Z,_,(wDf Z Z),U29,_,hS38,none,0,Z,Z⟩
  ·intro c36 hm40
   refine cF Z c36 (kN (sR (.fl 0 (.fx 1 (wRG (.fx 5 (.fl 6 (.fl 7 (.nil))) .stop)) .stop)) Z (oM Z Z ?_)))
   have h41:=h23.le le33
   refine bnK hm40 fun x42 h43 hm44=>zI 0 Z Z Z Z (zJ Z Z Zd (zB Z zO) Z) hS35 (fun hs=>wAM p0 pA0 pc0 W32 U29 hs h41 h43) (.inr Z) ?_
   rintro U45 L46 v47 W48 le49 hS50 ⟨A51,c52,rfl,rfl⟩
   have hS54:sW w U U45 [.row A51 c52 54 3 (nA wAC x42)] W48:=hS50
   refine oM Z Z (oM Z Z (oR Z (zU Z Z Z) (bnK hm44 fun x55 h56 hm57=>zI 1 Z Z Z Z (zJ Z Z Tryz.call115 (zB Z (zB Z (zB Z zO))) Z) hS54 (fun hs=>wBw x42 A51 c52 x26 (w64 (x26 + 1)) W48 U45 hs h56) (.inl Z) ?_)))
   rintro U58 L59 v60 W61 le62 hS63 ⟨A64,c65,rfl,rfl⟩
   have hS67:sW w U U58 [.row A64 c65 54 3 (nA wAC x55)] W61:=hS63
   refine oA Z Z (oA Z Z (eN (zK ?_)))
   cases hm57
   exact ⟨Z,_,(wDf Z Z),U58,_,hS67,A64,c65,Z,Z⟩
 ·intro c21 hm68
  refine cT Z c21 (sR fL3 Z (oM Z Z (oA Z Z (oA Z Z (eN (zK (zG ?_)))))))
  have hS69:=hS20.nilrow 54 3
  cases hm68
  exact ⟨Z,_,(wDf Z Z),U14,_,hS69,none,0,Z,Z⟩
theorem wCJ (p0:List wAD) (pA0:Option Addr) (pc0:Nat) (w:World) (U:PHeap) (hS:St0 w U []) (ha0:Sl U 3 pA0 pc0 p0.length (nA wAB p0)) {r:Int} (hm:wAt p0=some r):Gv Tryz.prog 117 [.slice pA0 p0.length pc0] w (wCQ w [] U (fun U_ L_ v=>v=jV r/\L_=[])):=by
 unfold wAt at hm
 refine Gv.of Tryz.func117 Z Tryz.ntmps117 Tryz.results117 Z (sR fL1 Z (oA Z Z (eN (zA (sR fL3 Z (oM Z Z (oR Z (zV Z Z zD) (oR Z (ZR Z Z Z) (eN ?_)))))))))
 by_cases c1:60 < (↑p0.length:Int)
 ·have hm2:=hm;rw [if_pos c1] at hm2;replace c1:=zC c1
  refine cT Z c1 (sR fL1 Z (oA Z Z (eN (zK (zG ?_)))))
  cases hm2
  exact ⟨Z,_,(zm Z),U,_,hS,Z,Z⟩
 ·have hm3:=hm;rw [if_neg c1] at hm3;replace c1:=zC c1
  refine cF Z c1 (kN (zA (sR fL1 Z (oA Z Z (eN (zM ?_))))))
  have q:=wBs hm3
  obtain ⟨r6,hX7⟩:=q
  have q:=wBr hX7
  obtain ⟨hle8,hf9⟩:=q
  replace hle8:=zC hle8
  refine ZV (fun k5 _ σ_ w_=>∃ (U_:PHeap),σ_ 3=jV (↑k5:Int)/\σ_ 0=.slice pA0 p0.length pc0/\PHeap.Le U U_/\sW w U U_ [] w_) hf9 ?_ ?_ ?_
  ·exact ⟨U,Z,Z,(zS _),hS⟩
  ·rintro k5 ⟨⟩ xx12 σ10 W11 hk15 ⟨U17,fi16,f20,le18,hS19⟩ hx13 hb14
   try dsimp only at hx13
   have c21:Hid ((↑k5:Int) < (↑p0.length:Int)):=zC (wBL hk15)
   replace hk15:=zC hk15
   have hi22:Hid (w64 ((↑k5:Int) + 1)=(↑(k5 + 1):Int)):=zC (by have h1:=hle8.out;have h2:=c21.out;rw [wAe] <;> omega)
   refine zA (sR fL4 Z (oM Z fi16 (oM Z f20 (oR Z (zV Z Z zD) (oR Z (zN Z Z Z) (eN (cT Z c21 (kN (zA (zM (sR (wGa (.fx 5 (wOc (.fx 12 (wNI (.fx 20 (.fl 21 (.nil)) .stop)) .stop)) .stop)) Z (oM Z f20 (oM Z fi16 (bnK hx13 fun x23 h24 hm25=>?_))))))))))))))
   have h26:=ha0.le le18
   have q:=h26.el (fun _=>rfl) (wAU h24)
   obtain ⟨b27,off28,hA29,hC30⟩:=q
   refine oR Z (ze Z Z hA29 Z zD zR (wAu h24)) (oR Z (zq Z Z zw Z zF) (oL Z (hS19.ldC (f:=0) hC30 (v:=jV x23.Bib) Z Z zH Z) (bnK hm25 fun x31 h32 hm33=>zI 0 Z Z Z Z (zJ Z Z Zh (zB Z (zB Z (zB Z zO))) Z) hS19 (fun hs=>wAr x23.Bib 1 999 W11 U17 hs h32) (.inr Z) ?_)))
   rintro U34 L35 v36 W37 le38 hS39 ⟨rfl,rfl⟩
   have hS40:sW w U U34 [] W37:=hS39
   refine oM Z Z (ifc hm33 ?_ ?_)
   ·intro c41 hm42
    refine ZL Z Z Z (zo Z Z (congrArg nB c41.out) Z) (ZL Z Z Z (zo Z Z (congrArg nB c41.out) Z) (ZL Z Z Z (zo Z Z (congrArg nB c41.out) Z) (ZL Z Z Z (zo Z Z (congrArg nB c41.out) Z) (ZL Z Z Z (zo Z Z (congrArg nB c41.out) Z) (Zf Z Z Z (zo Z Z (congrArg nB c41.out) Z) (oR Z (ZC Z (congrArg nB c41.out) Z) (oM Z Z (oN Z (oN Z (oN Z (oN Z (oN Z (Zf Z Z Z (zo Z Z Z Z) (oR Z (ZC Z Z Z) (eN (zj Z (sR fL1 Z (oA Z Z (eN (zK (zW (zG ?_))))))))))))))))))))))
    have q:=wAl hm42
    obtain ⟨v43,hm44,e45⟩:=q
    obtain rfl:=wBt hm3 hX7 (hb14 v43 e45)
    refine zG (zW (zG ?_))
    cases hm44
    exact ⟨Z,_,(zm Z),U34,_,hS40,Z,Z⟩
   ·intro c41 hm46
    refine zk Z Z Z (zh Z Z (congrArg nB (nD.2 c41.out))) Z f20 (zk Z Z Z (zh Z Z (congrArg nB (nD.2 c41.out))) Z fi16 ?_)
    have h47:=h26.le le38
    have q:=h47.el (fun _=>rfl) (wAU h24)
    obtain ⟨b48,off49,hA50,hC51⟩:=q
    refine zx Z Z Z (zh Z Z (congrArg nB (nD.2 c41.out))) (fun _=>ze Z Z hA50 Z zD zR (wAu h24)) (zx Z Z Z (zh Z Z (congrArg nB (nD.2 c41.out))) (fun _=>zq Z Z zw Z zF) (OKS.m Z Z Z (zh Z Z (congrArg nB (nD.2 c41.out))) (hS40.ldC (f:=1) hC51 (v:=jV x23.Time) Z Z zH Z) Z (bnK hm46 fun x52 h53 hm54=>zI 0 Z Z Z (zh Z Z (congrArg nB (nD.2 c41.out))) (zJ Z Z Zh (zB Z (zB Z (zB Z zO))) Z) hS40 (fun hs=>wAr x23.Time 0 360000 W37 U34 hs h53) (.inr Z) ?_)))
    rintro U55 L56 v57 W58 le59 hS60 ⟨rfl,rfl⟩
    have hS61:sW w U U55 [] W58:=hS60
    refine oR Z (ZB Z (congrArg nB (nD.2 c41.out)) Z) (oM Z Z (ifc hm54 ?_ ?_))
    ·intro c62 hm63
     refine ZL Z Z Z (zo Z Z (congrArg nB c62.out) Z) (ZL Z Z Z (zo Z Z (congrArg nB c62.out) Z) (ZL Z Z Z (zo Z Z (congrArg nB c62.out) Z) (ZL Z Z Z (zo Z Z (congrArg nB c62.out) Z) (ZL Z Z Z (zo Z Z (congrArg nB c62.out) Z) (Zf Z Z Z (zo Z Z (congrArg nB c62.out) Z) (oR Z (ZC Z (congrArg nB c62.out) Z) (eN (zj Z (sR fL1 Z (oA Z Z (eN (zK (zW (zG ?_))))))))))))))
     have q:=wAl hm63
     obtain ⟨v64,hm65,e66⟩:=q
     obtain rfl:=wBt hm3 hX7 (hb14 v64 e66)
     refine zG (zW (zG ?_))
     cases hm65
     exact ⟨Z,_,(zm Z),U55,_,hS61,Z,Z⟩
    ·intro c62 hm67
     refine zk Z Z Z (zh Z Z (congrArg nB (nD.2 c62.out))) Z f20 (zk Z Z Z (zh Z Z (congrArg nB (nD.2 c62.out))) Z fi16 ?_)
     have h68:=h47.le le59
     have q:=h68.el (fun _=>rfl) (wAU h24)
     obtain ⟨b69,off70,hA71,hC72⟩:=q
     refine zx Z Z Z (zh Z Z (congrArg nB (nD.2 c62.out))) (fun _=>ze Z Z hA71 Z zD zR (wAu h24)) (zx Z Z Z (zh Z Z (congrArg nB (nD.2 c62.out))) (fun _=>zq Z Z zw Z zF) (OKS.m Z Z Z (zh Z Z (congrArg nB (nD.2 c62.out))) (hS61.ldC (f:=2) hC72 (v:=jV x23.Gate) Z Z zH Z) Z (bnK hm67 fun x73 h74 hm75=>zI 0 Z Z Z (zh Z Z (congrArg nB (nD.2 c62.out))) (zJ Z Z Zh (zB Z (zB Z (zB Z zO))) Z) hS61 (fun hs=>wAr x23.Gate 0 60 W58 U55 hs h74) (.inr Z) ?_)))
     rintro U76 L77 v78 W79 le80 hS81 ⟨rfl,rfl⟩
     have hS82:sW w U U76 [] W79:=hS81
     refine oR Z (ZB Z (congrArg nB (nD.2 c62.out)) Z) (eN (ifc hm75 ?_ ?_))
     ·intro c83 hm84
      refine zj (congrArg nB c83.out) (sR fL1 Z (oA Z Z (eN (zK (zW (zG ?_))))))
      have q:=wAl hm84
      obtain ⟨v85,hm86,e87⟩:=q
      obtain rfl:=wBt hm3 hX7 (hb14 v85 e87)
      refine zG (zW (zG ?_))
      cases hm86
      exact ⟨Z,_,(zm Z),U76,_,hS82,Z,Z⟩
     ·intro c83 hm88
      refine zg (congrArg nB (nD.2 c83.out)) (ZF (zX (zE (rR fL3 Z (oM Z fi16 (oR Z (zl (zU Z Z Z) (congrArg (jV) hi22.out)) (oA Z Z (zi ?_))))))))
      obtain rfl:=nE hm88
      exact zE ⟨Z,_,Z,⟨U76,Z,f20,(((le18.trans le38).trans le59).trans le80),hS82⟩⟩
  ·rintro ⟨⟩ σ89 W90 ⟨U93,fi92,f96,le94,hS95⟩ hb91
   have hm97:=wCR hm3 hX7 hb91
   try dsimp only at hm97
   have c98:Hid (¬ ((↑(((↑p0.length:Int):Int) - 0).toNat:Int) < (↑p0.length:Int))):=zC (wAv)
   refine zA (sR fL4 Z (oM Z fi92 (oM Z f96 (oR Z (zV Z Z zD) (oR Z (zN Z Z Z) (eN (cF Z c98 (zt (zQ (zQ (zn (zE (zA (sR fL1 Z (oA Z Z (eN (zM ?_)))))))))))))))))
   have q:=wBs hm97
   obtain ⟨r101,hX102⟩:=q
   have q:=wBr hX102
   obtain ⟨hle103,hf104⟩:=q
   replace hle103:=zC hle103
   refine ZV (fun k100 _ σ_ w_=>∃ (U_:PHeap),σ_ 4=jV (↑k100:Int)/\σ_ 0=.slice pA0 p0.length pc0/\PHeap.Le U93 U_/\sW w U U_ [] w_) hf104 ?_ ?_ ?_
   ·exact ⟨U93,Z,f96,(zS _),hS95⟩
   ·rintro k100 ⟨⟩ xx107 σ105 W106 hk110 ⟨U112,fi111,f115,le113,hS114⟩ hx108 hb109
    try dsimp only at hx108
    have c116:Hid ((↑k100:Int) < (↑p0.length:Int)):=zC (wBL hk110)
    replace hk110:=zC hk110
    have hi117:Hid (w64 ((↑k100:Int) + 1)=(↑(k100 + 1):Int)):=zC (by have h1:=hle103.out;have h2:=c116.out;rw [wAe] <;> omega)
    refine zA (sR fL4 Z (oM Z fi111 (oM Z f115 (oR Z (zV Z Z zD) (oR Z (zN Z Z Z) (eN (cT Z c116 (kN (zA (zM (sR fL1 Z (oA Z Z (eN (zM ?_))))))))))))))
    have q:=wBs hx108
    obtain ⟨r120,hX121⟩:=q
    have q:=wBr hX121
    obtain ⟨hle122,hf123⟩:=q
    replace hle122:=zC hle122
    refine ZV (fun k119 _ σ_ w_=>∃ (U_:PHeap),σ_ 5=jV (↑k119:Int)/\σ_ 0=.slice pA0 p0.length pc0/\σ_ 4=jV (↑k100:Int)/\PHeap.Le U112 U_/\sW w U U_ [] w_) hf123 ?_ ?_ ?_
    ·exact ⟨U112,Z,f115,fi111,(zS _),hS114⟩
    ·rintro k119 ⟨⟩ xx126 σ124 W125 hk129 ⟨U131,fi130,f134,f135,le132,hS133⟩ hx127 hb128
     try dsimp only at hx127
     have c136:Hid ((↑k119:Int) < (↑k100:Int)):=zC (wBL hk129)
     replace hk129:=zC hk129
     have hi137:Hid (w64 ((↑k119:Int) + 1)=(↑(k119 + 1):Int)):=zC (by have h1:=hle122.out;have h2:=c136.out;rw [wAe] <;> omega)
     refine zA (sR fL3 rfl (zk rfl rfl rfl rfl rfl fi130 (zk rfl rfl rfl rfl rfl f135 (zx rfl rfl rfl rfl (fun _=>zN rfl rfl rfl) (eN (cT Z c136 (kN (zA (zM (zA (ZK ZJ [3,3,3,3,1,3,3,3,3,1,3] fL11 (by kernel_rfl) ?_)))))))))))
     have hS138:=hS133.drew
     generalize hw_W139:({ W125 with drawn:=W125.drawn + 1 }:World)=W139 at hS138 ⊢
     refine oM Z f134 (oM Z f135 (bnK hx127 fun x140 h141 hm142=>?_))
     have h143:=ha0.le le94
     have h144:=h143.le le113
     have h145:=h144.le le132
     have q:=h145.el (fun _=>rfl) (wAU h141)
     obtain ⟨b146,off147,hA148,hC149⟩:=q
     refine oR Z (ze Z Z hA148 Z zD zR (wAu h141)) (oR Z (zq Z Z zw Z zF) (oL Z (hS138.ldC (f:=0) hC149 (v:=jV x140.Bib) Z Z zH Z) (oM Z f134 (oM Z fi130 (bnK hm142 fun x150 h151 hm152=>?_)))))
     have q:=h145.el (fun _=>rfl) (wAU h151)
     obtain ⟨b153,off154,hA155,hC156⟩:=q
     refine oR Z (ze Z Z hA155 Z zD zR (wAu h151)) (oR Z (zq Z Z zw Z zF) (oL Z (hS138.ldC (f:=0) hC156 (v:=jV x150.Bib) Z Z zH Z) (oR Z (Za Z Z Z) (eN (ifc hm152 ?_ ?_)))))
     ·intro c157 hm158
      refine cT Z c157 (sR fL1 Z (oA Z Z (eN (zK (zW (zG ?_))))))
      have q:=wAl hm158
      obtain ⟨v159,hm160,e161⟩:=q
      obtain rfl:=wBt hx108 hX121 (hb128 v159 e161)
      refine zG (zW (zW (zG ?_)))
      have q:=wAl hm160
      obtain ⟨v162,hm163,e164⟩:=q
      obtain rfl:=wBt hm97 hX102 (hb109 v162 e164)
      refine zG (zW (zG ?_))
      cases hm163
      exact ⟨Z,_,(zm Z),U131,_,hS138,Z,Z⟩
     ·intro c157 hm165
      refine cF Z c157 (ZF (zX (zE (rR fL3 Z (oM Z fi130 (oR Z (zl (zU Z Z Z) (congrArg (jV) hi137.out)) (oA Z Z (zi ?_))))))))
      obtain rfl:=nE hm165
      exact zE ⟨Z,_,Z,⟨U131,Z,f134,f135,le132,hS138⟩⟩
    ·rintro ⟨⟩ σ166 W167 ⟨U170,fi169,f173,f174,le171,hS172⟩ hb168
     have hm175:=wCR hx108 hX121 hb168
     try dsimp only at hm175
     have c176:Hid (¬ ((↑(((↑k100:Int):Int) - 0).toNat:Int) < (↑k100:Int))):=zC (wAv)
     refine zA (sR fL3 Z (oM Z fi169 (oM Z f174 (oR Z (zN Z Z Z) (eN (cF Z c176 (zt (zQ (zQ (zn (zX (zE (rR fL3 Z (oM Z f174 (oR Z (zl (zU Z Z Z) (congrArg (jV) hi117.out)) (oA Z Z (zi ?_)))))))))))))))))
     obtain rfl:=nE hm175
     exact zE ⟨Z,_,Z,⟨U170,Z,f173,(le113.trans le171),hS172⟩⟩
   ·rintro ⟨⟩ σ177 W178 ⟨U181,fi180,f184,le182,hS183⟩ hb179
    have hm185:=wCR hm97 hX102 hb179
    try dsimp only at hm185
    have c186:Hid (¬ ((↑(((↑p0.length:Int):Int) - 0).toNat:Int) < (↑p0.length:Int))):=zC (wAv)
    refine zA (sR fL4 Z (oM Z fi180 (oM Z f184 (oR Z (zV Z Z zD) (oR Z (zN Z Z Z) (eN (cF Z c186 (zt (zQ (zQ (zn (zE (zA (sR fL1 Z (oA Z Z (eN (zM ?_)))))))))))))))))
    have q:=wBs hm185
    obtain ⟨r189,hX190⟩:=q
    have q:=wBr hX190
    obtain ⟨hle191,hf192⟩:=q
    replace hle191:=zC hle191
    refine ZV (fun k188 _ σ_ w_=>∃ (U_:PHeap),σ_ 6=jV (1 + ↑k188:Int)/\σ_ 0=.slice pA0 p0.length pc0/\PHeap.Le U181 U_/\sW w U U_ [] w_) hf192 ?_ ?_ ?_
    ·exact ⟨U181,Z,f184,(zS _),hS183⟩
    ·rintro k188 ⟨⟩ xx195 σ193 W194 hk198 ⟨U200,fi199,f203,le201,hS202⟩ hx196 hb197
     try dsimp only at hx196
     have c204:Hid ((1 + ↑k188:Int) < (↑p0.length:Int)):=zC (lp_lt hk198)
     replace hk198:=zC hk198
     have hi205:Hid (w64 ((1 + ↑k188:Int) + 1)=(1 + ↑(k188 + 1):Int)):=zC (by have h1:=hle191.out;have h2:=c204.out;rw [wAe] <;> omega)
     refine zA (sR fL4 rfl (zk rfl rfl rfl rfl rfl fi199 (zk rfl rfl rfl rfl rfl f203 (zx rfl rfl rfl rfl (fun _=>zV rfl rfl zD) (zx rfl rfl rfl rfl (fun _=>zN rfl rfl rfl) (eN (cT Z c204 (kN (zA (zM (zA (ZK ZJ [3,3,3,3,1,3,3,3,3,3,1,3] fL12 (by kernel_rfl) ?_))))))))))))
     have hS206:=hS202.drew
     generalize hw_W207:({ W194 with drawn:=W194.drawn + 1 }:World)=W207 at hS206 ⊢
     refine oM Z f203 (oM Z fi199 (bnK hx196 fun x208 h209 hm210=>?_))
     have h211:=ha0.le le94
     have h212:=h211.le le182
     have h213:=h212.le le201
     have q:=h213.el (fun _=>rfl) (wAU h209)
     obtain ⟨b214,off215,hA216,hC217⟩:=q
     refine oR Z (Runs.iaI Z Z hA216 Z zD zR (wDj h209) (wEI h209)) (oR Z (zq Z Z zw Z zF) (oL Z (hS206.ldC (f:=1) hC217 (v:=jV x208.Time) Z Z zH Z) (oM Z f203 (oM Z fi199 (oR Z (Runs.subw Z Z Z) (bnK hm210 fun x218 h219 hm220=>?_))))))
     have q:=h213.el (fun _=>rfl) (wAU h219)
     obtain ⟨b221,off222,hA223,hC224⟩:=q
     refine oR Z (Runs.iaI Z Z hA223 Z zD zR (wDj h219) (wEI h219)) (oR Z (zq Z Z zw Z zF) (oL Z (hS206.ldC (f:=1) hC224 (v:=jV x218.Time) Z Z zH Z) (oR Z (zN Z Z Z) (eN (ifc hm220 ?_ ?_)))))
     ·intro c225 hm226
      refine cT Z c225 (sR fL1 Z (oA Z Z (eN (zK (zW (zG ?_))))))
      have q:=wAl hm226
      obtain ⟨v227,hm228,e229⟩:=q
      obtain rfl:=wBt hm185 hX190 (hb197 v227 e229)
      refine zG (zW (zG ?_))
      cases hm228
      exact ⟨Z,_,(zm Z),U200,_,hS206,Z,Z⟩
     ·intro c225 hm230
      refine cF Z c225 (ZF (zX (zE (rR fL3 Z (oM Z fi199 (oR Z (zl (zU Z Z Z) (congrArg (jV) hi205.out)) (oA Z Z (zi ?_))))))))
      obtain rfl:=nE hm230
      exact zE ⟨Z,_,Z,⟨U200,Z,f203,le201,hS206⟩⟩
    ·rintro ⟨⟩ σ231 W232 ⟨U235,fi234,f238,le236,hS237⟩ hb233
     have hm239:=wCR hm185 hX190 hb233
     try dsimp only at hm239
     have c240:Hid (¬ ((1 + ↑(((↑p0.length:Int):Int) - 1).toNat:Int) < (↑p0.length:Int))):=zC (wPx)
     refine zA (sR fL4 Z (oM Z fi234 (oM Z f238 (oR Z (zV Z Z zD) (oR Z (zN Z Z Z) (eN (cF Z c240 (zt (zQ (zQ (zn (zE (sR fL1 Z (oA Z Z (eN (zK ?_))))))))))))))))
     cases hm239
     exact ⟨Z,_,(zm Z),U235,_,hS237,Z,Z⟩
theorem wCv (p0:List wAD) (pA0:Option Addr) (pc0:Nat) (p1:Int) (w:World) (U:PHeap) (hS:St0 w U []) (ha0:Sl U 3 pA0 pc0 p0.length (nA wAB p0)) {r:Int} (hm:wBG p0 p1=some r):Gv Tryz.prog 118 [.slice pA0 p0.length pc0,jV p1] w (wCQ w [] U (fun U_ L_ v=>v=jV r/\L_=[])):=by
 unfold wBG at hm
 refine Gv.of Tryz.func118 Z Tryz.ntmps118 Tryz.results118 Z (sR fL1 Z (oA Z Z (eN (zA (sR fL1 Z (oA Z Z (eN (zM ?_))))))))
 have q:=wBs hm
 obtain ⟨r3,hX4⟩:=q
 have q:=wBr hX4
 obtain ⟨hle5,hf6⟩:=q
 replace hle5:=zC hle5
 refine ZV (fun k2 _ σ_ w_=>∃ (U_:PHeap),σ_ 5=jV (↑k2:Int)/\σ_ 0=.slice pA0 p0.length pc0/\σ_ 1=jV p1/\PHeap.Le U U_/\sW w U U_ [] w_) hf6 ?_ ?_ ?_
 ·exact ⟨U,Z,Z,Z,(zS _),hS⟩
 ·rintro k2 ⟨⟩ xx9 σ7 W8 hk12 ⟨U14,fi13,f17,f18,le15,hS16⟩ hx10 hb11
  try dsimp only at hx10
  have c19:Hid ((↑k2:Int) < (↑p0.length:Int)):=zC (wBL hk12)
  replace hk12:=zC hk12
  have hi20:Hid (w64 ((↑k2:Int) + 1)=(↑(k2 + 1):Int)):=zC (by have h1:=hle5.out;have h2:=c19.out;rw [wAe] <;> omega)
  refine zA (sR fL4 Z (oM Z fi13 (oM Z f17 (oR Z (zV Z Z zD) (oR Z (zN Z Z Z) (eN (cT Z c19 (kN (zA (zM (sR fL7 Z (oM Z f17 (oM Z fi13 (bnK hx10 fun x21 h22 hm23=>?_))))))))))))))
  have h24:=ha0.le le15
  have q:=h24.el (fun _=>rfl) (wAU h22)
  obtain ⟨b25,off26,hA27,hC28⟩:=q
  refine oR Z (ze Z Z hA27 Z zD zR (wAu h22)) (oR Z (zq Z Z zw Z zF) (oL Z (hS16.ldC (f:=0) hC28 (v:=jV x21.Bib) Z Z zH Z) (oM Z f18 (oR Z (Za Z Z Z) (eN (ifc hm23 ?_ ?_))))))
  ·intro c29 hm30
   refine cT Z c29 (sR fL2 Z (oM Z fi13 (oA Z Z (eN (zK (zW (zG ?_)))))))
   have q:=wAl hm30
   obtain ⟨v31,hm32,e33⟩:=q
   obtain rfl:=wBt hm hX4 (hb11 v31 e33)
   refine zG (zW (zG ?_))
   cases hm32
   exact ⟨Z,_,(zm Z),U14,_,hS16,Z,Z⟩
  ·intro c29 hm34
   refine cF Z c29 (ZF (zX (zE (rR fL3 Z (oM Z fi13 (oR Z (zl (zU Z Z Z) (congrArg (jV) hi20.out)) (oA Z Z (zi ?_))))))))
   obtain rfl:=nE hm34
   exact zE ⟨Z,_,Z,⟨U14,Z,f17,f18,le15,hS16⟩⟩
 ·rintro ⟨⟩ σ35 W36 ⟨U39,fi38,f42,f43,le40,hS41⟩ hb37
  have hm44:=wCR hm hX4 hb37
  try dsimp only at hm44
  have c45:Hid (¬ ((↑(((↑p0.length:Int):Int) - 0).toNat:Int) < (↑p0.length:Int))):=zC (wAv)
  refine zA (sR fL4 Z (oM Z fi38 (oM Z f42 (oR Z (zV Z Z zD) (oR Z (zN Z Z Z) (eN (cF Z c45 (zt (zQ (zQ (zn (zE (sR fL1 Z (oA Z Z (eN (zK ?_))))))))))))))))
  cases hm44
  exact ⟨Z,_,(zm Z),U39,_,hS41,Z,Z⟩
theorem wDb (p0:List wAD) (pA0:Option Addr) (pc0:Nat) (p1:Int) (w:World) (U:PHeap) (hS:St0 w U []) (ha0:Sl U 3 pA0 pc0 p0.length (nA wAB p0)) {r:(List wAD) × Int} (hm:wBD p0 p1=some r):Gv Tryz.prog 69 [.slice pA0 p0.length pc0,jV p1] w (wCQ w [] U (fun U_ L_ v=>∃ (A0:Option Addr) (c0:Nat),v=.tuple #[.slice A0 r.1.length c0,jV r.2]/\L_=[.row A0 c0 132 3 (nA wAB r.1)])):=by
 unfold wBD at hm
 refine Gv.of Tryz.func69 Z Tryz.ntmps69 Tryz.results69 Z (sR fL2 Z (oA Z Z (oA Z Z (eN (zA (sR (.fl 0 (.fx 1 (.fl 2 (.nil)) .stop)) Z (oM Z Z (bnK hm fun x1 h2 hm3=>zI 0 Z Z Z Z (zJ Z Z Tryz.call117 (zB Z zO) Z) hS (fun hs=>wCJ p0 pA0 pc0 w U hs ha0 h2) (.inr Z) ?_))))))))
 rintro U4 L5 v6 W7 le8 hS9 ⟨rfl,rfl⟩
 have hS10:sW w U U4 [] W7:=hS9
 refine oA Z Z (eN (sR fL2 Z (oM Z Z (oR Z (ZU Z Z Z) (eN (ifc hm3 ?_ ?_))))))
 ·intro c11 hm12
  refine zg (ZN (fun h=>h c11.out)) (kN (zA (sR (.fl 0 (.fl 1 (.fx 2 (.fl 3 (.nil)) .stop))) Z (oM Z Z (oM Z Z ?_)))))
  have h13:=ha0.le le8
  refine bnK hm12 fun x14 h15 hm16=>zI 0 Z Z Z Z (zJ Z Z Tryz.call118 (zB Z (zB Z zO)) Z) hS10 (fun hs=>wCv p0 pA0 pc0 p1 W7 U4 hs h13 h15) (.inr Z) ?_
  rintro U17 L18 v19 W20 le21 hS22 ⟨rfl,rfl⟩
  have hS23:sW w U U17 [] W20:=hS22
  refine oR Z (zN Z Z Z) (eN (ifc hm16 ?_ ?_))
  ·intro c24 hm25
   refine cT Z c24 (sR fL2 Z (oA Z Z (oA Z Z (eN (zK (zG ?_))))))
   have hS26:=hS23.nilrow 132 3
   cases hm25
   exact ⟨Z,_,(wDf Z Z),U17,_,hS26,none,0,Z,Z⟩
  ·intro c24 hm28
   refine cF Z c24 (kN (sR fL1 Z (oA Z Z (eN (zA (sR fL1 Z (oA Z Z (eN (zM (bnK hm28 fun y51 hf48 hm47=>?_))))))))))
   have q:=wBb hf48
   obtain ⟨hle49,hf50⟩:=q
   replace hle49:=zC hle49
   refine CK.forN' (fun k46 l42 σ_ w_=>∃ (U_:PHeap) (A43:Option Addr) (c44:Nat),σ_ 8=jV (↑k46:Int)/\σ_ 0=.slice pA0 p0.length pc0/\σ_ 1=jV p1/\σ_ 7=.slice A43 l42.length c44/\PHeap.Le U17 U_/\sW w U U_ [.row A43 c44 132 3 (nA wAB l42)] w_) hf50 ?_ ?_ ?_
   ·have hS52:=hS23.nilrow 132 3
    exact ⟨U17,none,0,Z,Z,Z,Z,(zS _),hS52⟩
   ·rintro k46 l42 xx56 σ54 W55 hk59 ⟨U61,A43,c44,fi60,f64,f65,f66,le62,hS63⟩ hx57
    have c67:Hid ((↑k46:Int) < (↑p0.length:Int)):=zC (wBL hk59)
    replace hk59:=zC hk59
    have hi68:Hid (w64 ((↑k46:Int) + 1)=(↑(k46 + 1):Int)):=zC (by have h1:=hle49.out;have h2:=c67.out;rw [wAe] <;> omega)
    refine zA (sR fL4 Z (oM Z fi60 (oM Z f64 (oR Z (zV Z Z zD) (oR Z (zN Z Z Z) (eN (cT Z c67 (kN (zA (zM (sR fL7 Z (oM Z f64 (oM Z fi60 (bnK hx57 fun x69 h70 hm71=>?_))))))))))))))
    have h72:=h13.le le21
    have h73:=h72.le le62
    have q:=h73.el (fun _=>rfl) (wAU h70)
    obtain ⟨b74,off75,hA76,hC77⟩:=q
    refine oR Z (ze Z Z hA76 Z zD zR (wAu h70)) (oR Z (zq Z Z zw Z zF) (oL Z (hS63.ldC (f:=0) hC77 (v:=jV x69.Bib) Z Z zH Z) (oM Z f65 (oR Z (ZU Z Z Z) (eN (ifc hm71 ?_ ?_))))))
    ·intro c78 hm79
     refine zg (ZN (fun h=>h c78.out)) (ZF (zX (zE (rR fL3 Z (oM Z fi60 (oR Z (zl (zU Z Z Z) (congrArg (jV) hi68.out)) (oA Z Z (zi ?_))))))))
     cases hm79
     exact zE ⟨Z,⟨U61,A43,c44,Z,f64,f65,f66,le62,hS63⟩⟩
    ·intro c78 hm83
     refine cT Z c78 (rR (wGa (.fx 5 (.fx 6 (.fl 7 (.nil)) .stop) .stop)) Z (oM Z f66 (oM Z f64 (oM Z fi60 ?_))))
     have q:=h73.el (fun _=>rfl) (wAU h70)
     obtain ⟨b84,off85,hA86,hC87⟩:=q
     refine oR Z (ze Z Z hA86 Z zD zR (wAu h70)) (oL Z (hS63.ldCA (f:=0) hC87 Z Z ZY zR (us:=[jV x69.Bib,jV x69.Time,jV x69.Gate]) Z Z) ?_)
     let B0:List Value:=[jV x69.Bib,jV x69.Time,jV x69.Gate]
     refine zY (pv:=[(0,.agg B0.toArray)]) (zs:=[jV 0,jV 0,jV 0]) (cs:=B0) Z Z Z Z Z (wAH Z wAV) zD zR zz Z Z Z Z Z hS63 ?_
     intro W88 b89 hS90
     let B1:Res:=.row (some ⟨b89,0,none⟩) 1 132 3 (nA wAB [x69])
     have hS92:sW w U U61 [B1,.row A43 c44 132 3 (nA wAB l42)] W88:=hS90
     refine bnK hm83 fun x93 h94 hm95=>zp (j:=1) (enc:=wAB) (xs:=l42) (ys:=[x69]) (zs:=x93) rfl rfl rfl rfl rfl ZG wCi rfl rfl rfl rfl rfl rfl hS92 rfl rfl rfl (hS92.srcR (j:=0) rfl (by decide) (wAF (f:=wAB) (sz:=3) (fun _=>rfl) [x69])) (fun _=>rfl) (fun _=>rfl) h94 rfl ?_
     intro A96 c97 W98 hS99
     have hS100:sW w U U61 [B1,.row A96 c97 132 3 (nA wAB x93)] W98:=hS99
     refine oA Z Z (zi (zX (zE (rR fL3 Z (oM Z fi60 (oR Z (zl (zU Z Z Z) (congrArg (jV) hi68.out)) (oA Z Z (zi ?_))))))))
     cases hm95
     exact zE ⟨rfl,⟨U61,A96,c97,rfl,f64,f65,rfl,le62,(hS100.pick [1] _ (by decide) rfl)⟩⟩
   ·rintro σ104 W105 ⟨U113,A111,c112,fi107,f116,f117,f118,le114,hS115⟩
    have c119:Hid (¬ ((↑(((↑p0.length:Int):Int) - 0).toNat:Int) < (↑p0.length:Int))):=zC (wAv)
    refine zA (sR fL4 Z (oM Z fi107 (oM Z f116 (oR Z (zV Z Z zD) (oR Z (zN Z Z Z) (eN (cF Z c119 (zt (zQ (zQ (zn (zE (sR fL3 Z (oM Z f118 (oA Z Z (oA Z Z (eN (zK ?_))))))))))))))))))
    cases hm47
    exact ⟨Z,_,(wDf Z Z),U113,_,hS115,A111,c112,Z,Z⟩
 ·intro c11 hm120
  refine cT Z c11 (sR fL3 Z (oM Z Z (oA Z Z (oA Z Z (eN (zK (zG ?_)))))))
  have hS121:=hS10.nilrow 132 3
  cases hm120
  exact ⟨Z,_,(wDf Z Z),U4,_,hS121,none,0,Z,Z⟩
theorem wCC (p0:List wAD) (pA0:Option Addr) (pc0:Nat) (p1:List wAD) (pA1:Option Addr) (pc1:Nat) (w:World) (U:PHeap) (hS:St0 w U []) (ha0:Sl U 3 pA0 pc0 p0.length (nA wAB p0)) (ha1:Sl U 3 pA1 pc1 p1.length (nA wAB p1)) {r:Bool} (hm:wAa p0 p1=some r):Gv Tryz.prog 83 [.slice pA0 p0.length pc0,.slice pA1 p1.length pc1] w (wCQ w [] U (fun U_ L_ v=>v=.bool r/\L_=[])):=by
 unfold wAa at hm
 refine Gv.of Tryz.func83 Z Tryz.ntmps83 Tryz.results83 Z (sR fL1 Z (oA Z Z (eN (zA (sR fL5 Z (oM Z Z (oR Z (zV Z Z zD) (oM Z Z (oR Z (zV Z Z zD) (oR Z (ZU Z Z Z) (eN ?_)))))))))))
 by_cases c1:(↑p0.length:Int)=(↑p1.length:Int)
 ·have hm2:=hm;rw [if_pos c1] at hm2;replace c1:=zC c1
  refine zg (ZN (fun h=>h c1.out)) (kN (zA (sR fL3 Z (oM Z Z (oR Z (zV Z Z zD) (oM Z Z (eN (zM ?_))))))))
  have q:=wBs hm2
  obtain ⟨r5,hX6⟩:=q
  have q:=wBr hX6
  obtain ⟨hle7,hf8⟩:=q
  replace hle7:=zC hle7
  refine ZV (fun k4 _ σ_ w_=>∃ (U_:PHeap),σ_ 13=jV (↑k4:Int)/\σ_ 0=.slice pA0 p0.length pc0/\σ_ 1=.slice pA1 p1.length pc1/\σ_ 12=jV (↑p0.length:Int)/\PHeap.Le U U_/\sW w U U_ [] w_) hf8 ?_ ?_ ?_
  ·exact ⟨U,Z,Z,Z,Z,(zS _),hS⟩
  ·rintro k4 ⟨⟩ xx11 σ9 W10 hk14 ⟨U16,fi15,f19,f20,f21,le17,hS18⟩ hx12 hb13
   try dsimp only at hx12
   have c22:Hid ((↑k4:Int) < (↑p0.length:Int)):=zC (wBL hk14)
   replace hk14:=zC hk14
   have hi23:Hid (w64 ((↑k4:Int) + 1)=(↑(k4 + 1):Int)):=zC (by have h1:=hle7.out;have h2:=c22.out;rw [wAe] <;> omega)
   refine sR fL1 rfl (zx rfl rfl rfl rfl (fun _=>zN rfl fi15 f21) (eN (zA (cT Z c22 (kN (zA (zM (sR fL2 rfl (zk rfl rfl rfl rfl rfl fi15 (OKS.ra rfl rfl rfl rfl rfl rfl (eN (zA (ZK ZJ [3,3,3,1,3,3,3,1,3] fL9 (by kernel_rfl) ?_)))))))))))))
   have hS24:=hS18.drew
   generalize hw_W25:({ W10 with drawn:=W10.drawn + 1 }:World)=W25 at hS24 ⊢
   refine oM Z f19 (oM Z Z (bnK hx12 fun x26 h27 hm28=>?_))
   have h29:=ha0.le le17
   have q:=h29.el (fun _=>rfl) (wAU h27)
   obtain ⟨b30,off31,hA32,hC33⟩:=q
   refine oR Z (ze Z Z hA32 Z zD zR (wAu h27)) (oL Z (hS24.ldCA (f:=0) hC33 Z Z ZY zR (us:=[jV x26.Bib,jV x26.Time,jV x26.Gate]) Z Z) (oM Z f20 (oM Z Z (bnK hm28 fun x34 h35 hm36=>?_))))
   have h37:=ha1.le le17
   have q:=h37.el (fun _=>rfl) (wAU h35)
   obtain ⟨b38,off39,hA40,hC41⟩:=q
   refine oR Z (ze Z Z hA40 Z zD zR (wAu h35)) (oL Z (hS24.ldCA (f:=0) hC41 Z Z ZY zR (us:=[jV x34.Bib,jV x34.Time,jV x34.Gate]) Z Z) (oR Z (zl (Runs.neS (enc:=wAB) (a:=x26) (b:=x34) Z Z Z wQs wQr) (congrArg nB (decide_not).symm)) (eN (ifc hm36 ?_ ?_))))
   ·intro c42 hm43
    refine zg (ZN (fun h=>h c42.out)) (ZF (zX (zE (rR fL2 Z (oR Z (zl (zU Z fi15 Z) (congrArg (jV) hi23.out)) (oM Z Z (zi ?_)))))))
    obtain rfl:=nE hm43
    exact zE ⟨Z,_,Z,⟨U16,Z,f19,f20,f21,le17,hS24⟩⟩
   ·intro c42 hm44
    refine cT Z c42 (sR fL1 Z (oA Z Z (eN (zK (zW (zG ?_))))))
    have q:=wAl hm44
    obtain ⟨v45,hm46,e47⟩:=q
    obtain rfl:=wBt hm2 hX6 (hb13 v45 e47)
    refine zG (zW (zG ?_))
    have hE:=nE hm46;first | subst r | cases hE
    exact ⟨Z,_,(zm Z),U16,_,hS24,Z,Z⟩
  ·rintro ⟨⟩ σ48 W49 ⟨U52,fi51,f55,f56,f57,le53,hS54⟩ hb50
   have hm58:=wCR hm2 hX6 hb50
   try dsimp only at hm58
   have c59:Hid (¬ ((↑(((↑p0.length:Int):Int) - 0).toNat:Int) < (↑p0.length:Int))):=zC (wAv)
   refine sR fL1 Z (oR Z (zN Z fi51 f57) (eN (zA (cF Z c59 (zt (zQ (zQ (zn (zE (sR fL1 Z (oA Z Z (eN (zK ?_)))))))))))))
   have hE:=nE hm58;first | subst r | cases hE
   exact ⟨Z,_,(zm Z),U52,_,hS54,Z,Z⟩
 ·have hm60:=hm;rw [if_neg c1] at hm60;replace c1:=zC c1
  refine cT Z c1 (sR fL1 Z (oA Z Z (eN (zK (zG ?_)))))
  have hE:=nE hm60;first | subst r | cases hE
  exact ⟨Z,_,(zm Z),U,_,hS,Z,Z⟩
end Go.Proofs.YtghaibkggdecnaaGreat
namespace Go.Proofs.YtghaibkggdecnaaGreat
open Go.KL
set_option maxHeartbeats 4000000
theorem wCk (p0:List wAA) (pA0:Option Addr) (pc0:Nat) (p1:List wAD) (pA1:Option Addr) (pc1:Nat) (w:World) (U:PHeap) (hS:St0 w U []) (ha0:Sl U 3 pA0 pc0 p0.length (nA wAC p0)) (ha1:Sl U 3 pA1 pc1 p1.length (nA wAB p1)) {r:Bool} (hm:wBE p0 p1=some r):Gv Tryz.prog 18 [.slice pA0 p0.length pc0,.slice pA1 p1.length pc1] w (wCQ w [] U (fun U_ L_ v=>v=.bool r/\L_=[])):=by
 unfold wBE at hm
 refine Gv.of Tryz.func18 Z Tryz.ntmps18 Tryz.results18 Z (sR fL1 Z (oA Z Z (eN (sR (.fl 0 (.fx 1 (.fl 2 (.fx 3 (.fl 4 (.nil)) .stop)) .stop)) Z (oM Z Z (bnK hm fun x1 h2 hm3=>zI 0 Z Z Z Z (zJ Z Z Tryz.call66 (zB Z zO) Z) hS (fun hs=>wCs p0 pA0 pc0 w U hs ha0 h2) (.inr Z) ?_))))))
 rintro U4 L5 v6 W7 le8 hS9 ⟨A10,c11,rfl,rfl⟩
 have hS13:sW w U U4 [.row A10 c11 132 3 (nA wAB x1)] W7:=hS9
 refine oM Z Z ?_
 have q:=hS13.freezeR (k:=0) (n:=x1.length) rfl (wAF (f:=wAB) (sz:=3) (fun _=>rfl) x1) (by decide)
 obtain ⟨U14,le15,hs16,hS17⟩:=q
 have hS18:sW w U U14 [] W7:=hS17
 have h19:=ha1.le le8
 have h20:=h19.le le15
 refine bnK hm3 fun x21 h22 hm23=>zI 0 Z Z Z Z (zJ Z Z Tryz.call83 (zB Z (zB Z zO)) Z) hS18 (fun hs=>wCC x1 A10 c11 p1 pA1 pc1 W7 U14 hs hs16 h20 h22) (.inr Z) ?_
 rintro U24 L25 v26 W27 le28 hS29 ⟨rfl,rfl⟩
 have hS30:sW w U U24 [] W27:=hS29
 refine oA Z Z (eN (zK ?_))
 have hE:=nE hm23;first | subst r | cases hE
 exact ⟨Z,_,(zm Z),U24,_,hS30,Z,Z⟩
theorem wGU (p0:wAA) (p1:Int) (pb1:Nat) (w:World) (U:PHeap) (hS:St0 w U []) (ha0:Cl U pb1 0 [jV p1]) {r:Bool} (hm:wBh p0 p1=some r):Gv Tryz.prog 120 [.agg #[jV p0.Bib,jV p0.Time,jV p0.Gate],.pointer (some ⟨pb1,0,none⟩)] w (wCQ w [] U (fun U_ L_ v=>v=.bool r/\L_=[])):=by
 unfold wBh at hm
 refine Gv.of Tryz.func120 rfl Tryz.ntmps120 Tryz.results120 rfl (sR (.fx 0 (.fl 1 (.nil)) .stop) rfl (OKS.box (cs:=[jV p0.Bib,jV p0.Time,jV p0.Gate]) rfl rfl rfl rfl rfl rfl (by rfl) hS ?_))
 intro W1 b2 hS3
 refine oA Z Z (eN (sR fL5 Z (oR Z (zq Z Z ZA Z zF) (oL Z (hS3.ldB (j:=0) Z Z Z zH (v:=jV p0.Bib) Z) (oL Z (hS3.ldC (f:=0) ha0 (v:=jV p1) Z Z zH Z) (oR Z (Za Z Z Z) (oA Z Z (eN (zK ?_)))))))))
 cases hm
 exact ⟨rfl,_,(zm rfl),U,_,(hS3.pick [] _ (by decide) rfl),rfl,rfl⟩
theorem wBj (p0:List wAA) (pA0:Option Addr) (pc0:Nat) (p1:(wAA->Option Bool)) (pv1:Value) (w:World) (U:PHeap) (hS:St0 w U []) (ha0:Sl U 3 pA0 pc0 p0.length (nA wAC p0)) (ha1:FnOK Tryz.prog U pv1 wOV wOW p1) {r:Bool} (hm:wAT p0 p1=some r):Gv Tryz.prog 119 [.slice pA0 p0.length pc0,pv1] w (wCQ w [] U (fun U_ L_ v=>v=.bool r/\L_=[])):=by
 unfold wAT at hm
 refine Gv.of Tryz.func119 Z Tryz.ntmps119 Tryz.results119 Z (sR fL1 Z (oA Z Z (eN (sR (.fl 0 (.fl 1 (.fx 2 (.fl 3 (.fl 4 (.nil))) .stop))) Z (oM Z Z (oM Z Z (bnK hm fun x1 h2 hm3=>zI 0 Z Z Z Z (zJ Z Z Tryz.call24 (zB Z (zB Z zO)) Z) hS (fun hs=>wAb p0 pA0 pc0 p1 pv1 w U hs ha0 ha1 h2) (.inr Z) ?_)))))))
 rintro U4 L5 v6 W7 le8 hS9 ⟨rfl,rfl⟩
 have hS10:sW w U U4 [] W7:=hS9
 refine oR Z (Runs.geq Z Z Z) (oA Z Z (eN (zK ?_)))
 cases hm3
 exact ⟨Z,_,(zm Z),U4,_,hS10,Z,Z⟩
theorem wDs (p0:wAA) (p1:Int) (pb1:Nat) (w:World) (U:PHeap) (hS:St0 w U []) (ha0:Cl U pb1 0 [jV p1]) {r:Bool} (hm:wAz p0 p1=some r):Gv Tryz.prog 121 [.agg #[jV p0.Bib,jV p0.Time,jV p0.Gate],.pointer (some ⟨pb1,0,none⟩)] w (wCQ w [] U (fun U_ L_ v=>v=.bool r/\L_=[])):=by
 unfold wAz at hm
 refine Gv.of Tryz.func121 rfl Tryz.ntmps121 Tryz.results121 rfl (sR (.fx 0 (.fl 1 (.nil)) .stop) rfl (OKS.box (cs:=[jV p0.Bib,jV p0.Time,jV p0.Gate]) rfl rfl rfl rfl rfl rfl (by rfl) hS ?_))
 intro W1 b2 hS3
 refine oA Z Z (eN (sR fL5 Z (oR Z (zq Z Z ZA Z zF) (oL Z (hS3.ldB (j:=0) Z Z Z zH (v:=jV p0.Time) Z) (oL Z (hS3.ldC (f:=0) ha0 (v:=jV p1) Z Z zH Z) (oR Z (ZR Z Z Z) (oA Z Z (eN (zK ?_)))))))))
 cases hm
 exact ⟨rfl,_,(zm rfl),U,_,(hS3.pick [] _ (by decide) rfl),rfl,rfl⟩
theorem wAN (p0:List wAA) (pA0:Option Addr) (pc0:Nat) (p1:Int) (p2:List wAA) (pA2:Option Addr) (pc2:Nat) (w:World) (U:PHeap) (hS:St ⟨w,[.row pA0 pc0 54 3 (nA wAC p0),.row pA2 pc2 54 3 (nA wAC p2)],U⟩ U [.row pA0 pc0 54 3 (nA wAC p0),.row pA2 pc2 54 3 (nA wAC p2)] w) {r:List wAA} (hm:wAK p0 p1 p2=some r):Gv Tryz.prog 122 [.slice pA0 p0.length pc0,.int .i64 p1,.slice pA2 p2.length pc2] w (wCQ w [.row pA0 pc0 54 3 (nA wAC p0),.row pA2 pc2 54 3 (nA wAC p2)] U (fun U_ L_ v=>∃ (A0:Option Addr) (c0:Nat),v=.slice A0 r.length c0/\L_=[.row A0 c0 54 3 (nA wAC r),.row pA2 pc2 54 3 (nA wAC p2)])) :=
 wKO (z:=.int .i64 0) (by_:=24) (fun _=>rfl) (by omega) (fun _=>rfl) rfl (by omega) (fun b n c i vb vc cs vs w h1 h2 h3 h4 h5 h6 h7 h8 h9 ha tA tB kA kB hb hc hd he hf hg=>Go.Proofs.insShift122 b n c i vb vc cs vs w h1 h2 h3 h4 h5 h6 h7 h8 h9 ha tA tB kA kB hb hc hd he hf hg) (fun b n c vb vc vs w h1 h2 h3 h4 h5 h6 h7=>Go.Proofs.insEndRoom122 b n c vb vc vs w h1 h2 h3 h4 h5 h6 h7) (fun base n c vb vc cs vs w h1 h2 h3 h4 h5 h6 h7 h8 h9=>Go.Proofs.insEndGrow122 base n c vb vc cs vs w h1 h2 h3 h4 h5 h6 h7 h8 h9) (fun b n c i vb vc cs vs w h1 h2 h3 h4 h5 h6 h7 h8 h9 ha=>Go.Proofs.insGrow122 b n c i vb vc cs vs w h1 h2 h3 h4 h5 h6 h7 h8 h9 ha) hS hm
theorem wHc (p0:List wAA) (pA0:Option Addr) (pc0:Nat) (p1:Int) (p2:Int) (w:World) (U:PHeap) (hS:St0 w U []) (ha0:Sl U 3 pA0 pc0 p0.length (nA wAC p0)) {r:(List wAA) × Int} (hm:wCN p0 p1 p2=some r):Gv Tryz.prog 70 [.slice pA0 p0.length pc0,jV p1,jV p2] w (wCQ w [] U (fun U_ L_ v=>∃ (A0:Option Addr) (c0:Nat),v=.tuple #[.slice A0 r.1.length c0,jV r.2]/\L_=[.row A0 c0 54 3 (nA wAC r.1)])):=by
 unfold wCN at hm
 refine Gv.of Tryz.func70 rfl Tryz.ntmps70 Tryz.results70 rfl (sR (.fx 0 (.fl 1 (.fl 2 (.nil))) .stop) rfl (OKS.box (cs:=[jV p1]) rfl rfl rfl rfl rfl rfl (by rfl) hS ?_))
 intro W1 b2 hS3
 have q:=hS3.freeze (k:=0) rfl
 obtain ⟨U5,le6,hC7,hS8⟩:=q
 replace hC7:=Cl.of hC7
 have hS9:sW w U U5 [] W1:=hS8
 replace hC7:Cl U5 b2 0 [jV p1]:=hC7
 refine oA Z Z (oA Z Z (eN (CK.scope (sR (.fl 0 (.fx 1 (.fl 2 (.nil)) .stop)) Z (oM Z Z ?_)))))
 have h10:=ha0.le le6
 refine bnK hm fun x11 h12 hm13=>zI 0 Z Z Z Z (zJ Z Z Tryz.call23 (zB Z zO) Z) hS9 (fun hs=>wDN p0 pA0 pc0 W1 U5 hs h10 h12) (.inr Z) ?_
 rintro U14 L15 v16 W17 le18 hS19 ⟨rfl,rfl⟩
 have hS20:sW w U U14 [] W17:=hS19
 refine oA Z Z (eN (zA (zM (sR fL3 Z (oM Z Z (oR Z (ZU Z Z Z) (oA Z Z (eN (ifc hm13 ?_ ?_)))))))))
 ·intro c21 hm22
  refine zg (ZN (fun h=>h c21.out)) (sR (.fl 0 (.fx 1 (wRG (.fx 5 (wRJ (.nil)) .stop)) .stop)) Z ?_)
  have h23:=hC7.le le18
  refine oL Z (hS20.ldC (f:=0) h23 (v:=jV p1) Z Z zH Z) (bnK hm22 fun x24 h25 hm26=>zI 0 Z Z Z Z (zJ Z Z Zg (zB Z (zB Z (zB Z zO))) Z) hS20 (fun hs=>wBz p1 1 999 W17 U14 hs h25) (.inr Z) ?_)
  rintro U27 L28 v29 W30 le31 hS32 ⟨rfl,rfl⟩
  have hS33:sW w U U27 [] W30:=hS32
  refine oR Z (ZO Z Z) (oM Z Z (ifc hm26 ?_ ?_))
  ·intro c34 hm35
   refine zk Z Z Z (zh Z Z (nC c34.out)) Z Z (bnK hm35 fun x36 h37 hm38=>zI 0 Z Z Z (zh Z Z (nC c34.out)) (zJ Z Z Zg (zB Z (zB Z (zB Z zO))) Z) hS33 (fun hs=>wBz p2 1 360000 W30 U27 hs h37) (.inr Z) ?_)
   rintro U39 L40 v41 W42 le43 hS44 ⟨rfl,rfl⟩
   have hS45:sW w U U39 [] W42:=hS44
   refine zx Z Z Z (zh Z Z (nC c34.out)) (fun _=>ZO Z Z) (oR Z (ZB Z (nC c34.out) Z) (oA Z Z (eN (ifc hm38 ?_ ?_))))
   ·intro c46 hm47
    refine zg (nC c46.out) (sR (.fl 0 (.fl 1 (.fx 2 (.fl 3 (.nil)) .stop))) Z (oM Z Z (oR Z (Runs.mkf Z zO (zB Z zO)) ?_)))
    have h48:=h10.le le18
    have h49:=h48.le le31
    have h50:=h49.le le43
    have h51:=h23.le le31
    have h52:=h51.le le43
    have hF53:FnOK Tryz.prog U39 (.func (.func 120) #[] #[.pointer (some ⟨b2,0,none⟩)]) wOV wOW (fun x=>wBh x p1):=⟨120,[],[.pointer (some ⟨b2,0,none⟩)],rfl,Tryz.call120,fun U1 w1 x y vs le hs ha hm=>by obtain rfl:=ha;exact wGU x p1 b2 w1 U1 hs (h52.le le) hm⟩
    refine bnK hm47 fun x54 h55 hm56=>zI 0 Z Z Z Z (zJ Z Z Tryz.call119 (zB Z (zB Z zO)) Z) hS45 (fun hs=>wBj p0 pA0 pc0 (fun x=>wBh x p1) (.func (.func 120) #[] #[.pointer (some ⟨b2,0,none⟩)]) W42 U39 hs h50 hF53 h55) (.inr Z) ?_
    rintro U57 L58 v59 W60 le61 hS62 ⟨rfl,rfl⟩
    have hS63:sW w U U57 [] W60:=hS62
    refine oA Z Z (eN (ifc hm56 ?_ ?_))
    ·intro c64 hm65
     refine zj (congrArg nB c64.out) (sR fL2 Z (oA Z Z (oA Z Z (eN (zK (zW (zG (wCL ?_))))))))
     have hS66:=hS63.nilrow 54 3
     cases hm65
     exact ⟨Z,_,(wDf Z Z),U57,_,hS66,none,0,Z,Z⟩
    ·intro c64 hm68
     refine zg (congrArg nB (nD.2 c64.out)) (sR fL4 Z (oM Z Z (oR Z (zV Z Z zL) (oR Z (Za Z Z Z) (oA Z Z (eN (ifc hm68 ?_ ?_)))))))
     ·intro c69 hm70
      refine cT Z c69 (sR fL2 Z (oA Z Z (oA Z Z (eN (zK (zW (zG (wCL ?_))))))))
      have hS71:=hS63.nilrow 54 3
      cases hm70
      exact ⟨Z,_,(wDf Z Z),U57,_,hS71,none,0,Z,Z⟩
     ·intro c69 hm73
      refine cF Z c69 (ZF (zX (zE (sR (.fx 0 (.fx 1 (.nil) .stop) .stop) Z (ZS (cs:=[jV 0]) Z Z Z Z Z ZI Z hS63 ?_)))))
      intro W74 b75 hS76
      refine Zc (j:=0) (vs:=[jV 0]) Z Z Z Z hS76 Z Z Z Z zF (zZ Z) Z Z Z ?_
      intro W78 hS79
      have hS80:sW w U U57 [.blk b75 3 [jV 0]] W78:=hS79
      refine eN (zA (sR fL3 Z (oM Z Z (oR Z (zV Z Z zL) (oR Z (ZR Z Z Z) (eN (ifc hm73 ?_ ?_)))))))
      ·intro c81 hm82
       refine cT Z c81 (rR (wGZ (.fx 4 (.nil) .stop)) Z (oM Z Z (bnK hm82 fun x83 h84 hm85=>?_)))
       have h86:=h50.le le61
       have q:=h86.el (fun _=>rfl) (wAU h84)
       obtain ⟨b87,off88,hA89,hC90⟩:=q
       refine oR Z (ze Z Z hA89 Z zL zf (wAu h84)) (oR Z (zq Z Z ZA Z zF) (oL Z (hS80.ldC (f:=1) hC90 (v:=jV x83.Time) Z Z zH Z) (Zc (j:=0) (vs:=[jV x83.Time]) Z Z Z Z hS80 Z Z Z Z zF (zZ Z) Z Z Z ?_)))
       intro W91 hS92
       have hS93:sW w U U57 [.blk b75 3 [jV x83.Time]] W91:=hS92
       refine eN (zA (CK.label (zE (bnK hm85 fun x94 hx96 hm97=>CK.cut (fun σ_ w_=>∃ (U_:PHeap),σ_ 0=.slice pA0 p0.length pc0/\σ_ 4=.pointer (some ⟨b2,0,none⟩)/\σ_ 9=.pointer (some ⟨b75,0,none⟩)/\PHeap.Le U57 U_/\sW w U U_ [.blk b75 3 [jV x94]] w_) ?_ ?_))))
       ·refine zM (CK.iter (fun x101 σ_ w_=>∃ (U_:PHeap),σ_ 0=.slice pA0 p0.length pc0/\σ_ 2=jV p2/\σ_ 4=.pointer (some ⟨b2,0,none⟩)/\σ_ 9=.pointer (some ⟨b75,0,none⟩)/\PHeap.Le U57 U_/\sW w U U_ [.blk b75 3 [jV x101]] w_) hx96 ?_ ?_)
        ·exact ⟨U57,Z,Z,Z,Z,(zS _),hS93⟩
        ·rintro x101 xx104 σ102 W103 ⟨U109,f112,f113,f114,f115,le110,hS111⟩ hx105 hb106
         refine zM (zA (sR fL3 Z (oM Z f112 (oR Z (zV Z Z zL) (oM Z Z (eN (zM ?_)))))))
         have q:=wBs hx105
         obtain ⟨r118,hX119⟩:=q
         have q:=wBr hX119
         obtain ⟨hle120,hf121⟩:=q
         replace hle120:=zC hle120
         refine ZV (fun k117 _ σ_ w_=>∃ (U_:PHeap),σ_ 45=jV (↑k117:Int)/\σ_ 0=.slice pA0 p0.length pc0/\σ_ 2=jV p2/\σ_ 4=.pointer (some ⟨b2,0,none⟩)/\σ_ 9=.pointer (some ⟨b75,0,none⟩)/\σ_ 43=.slice pA0 p0.length pc0/\σ_ 44=jV (↑p0.length:Int)/\PHeap.Le U109 U_/\sW w U U_ [.blk b75 3 [jV x101]] w_) hf121 ?_ ?_ ?_
         ·exact ⟨U109,Z,f112,f113,f114,f115,Z,Z,(zS _),hS111⟩
         ·rintro k117 ⟨⟩ xx124 σ122 W123 hk127 ⟨U129,fi128,f132,f133,f134,f135,f136,f137,le130,hS131⟩ hx125 hb126
          try dsimp only at hx125
          have c138:Hid ((↑k117:Int) < (↑p0.length:Int)):=zC (wBL hk127)
          replace hk127:=zC hk127
          have hi139:Hid (w64 ((↑k117:Int) + 1)=(↑(k117 + 1):Int)):=zC (by have h1:=hle120.out;have h2:=c138.out;rw [wAe] <;> omega)
          refine sR fL1 Z (oR Z (zN Z fi128 f137) (eN (zA (cT Z c138 (kN (zA (zM (sR (.fl 0 (.fl 1 (.fx 2 (.fx 3 (.nil) .stop) .stop))) Z (bnK hx125 fun x140 h141 hm142=>?_)))))))))
          have h143:=h86.le le110
          have h144:=h143.le le130
          have q:=h144.el (fun _=>rfl) (wAU h141)
          obtain ⟨b145,off146,hA147,hC148⟩:=q
          refine oR Z (ze Z f136 hA147 fi128 zL zf (wAu h141)) (oL Z (hS131.ldCA (f:=0) hC148 Z Z ZW zf (us:=[jV x140.Bib,jV x140.Time,jV x140.Gate]) Z Z) (ZS (cs:=[jV 0,jV 0,jV 0]) Z Z Z Z Z zy Z hS131 ?_))
          intro W149 b150 hS151
          let B0:List Value:=[jV x140.Bib,jV x140.Time,jV x140.Gate]
          refine Zc (j:=0) (vs:=B0) Z Z Z Z hS151 Z Z Z Z zf (zZ Z) Z Z Z ?_
          intro W153 hS154
          have hS155:sW w U U129 [.blk b150 54 B0,.blk b75 3 [jV x101]] W153:=hS154
          refine eN (sR fL4 Z (oR Z (zq Z Z ZA Z zF) (oL Z (hS155.ldB (j:=0) Z Z Z zH (v:=jV x140.Time) Z) (oL Z (hS155.ldB (j:=1) Z Z f135 zH (v:=jV x101) Z) (oR Z (Za Z Z Z) (eN (ifc hm142 ?_ ?_)))))))
          ·intro c156 hm157
           refine cT Z c156 (sR (wKr (.fx 3 (.nil) .stop)) Z (oL Z (hS155.ldB (j:=1) Z Z f135 zH (v:=jV x101) Z) (oM Z f133 (oR Z (zU Z Z Z) (Zc (j:=1) (vs:=[jV (w64 (x101 + p2))]) Z Z Z Z hS155 Z f135 Z Z zF (zZ Z) Z Z Z ?_)))))
           intro W158 hS159
           have hS160:sW w U U129 [.blk b150 54 B0,.blk b75 3 [jV (w64 (x101 + p2))]] W158:=hS159
           refine eN (zt (wDQ (zQ ?_)))
           have q:=wAl hm157
           obtain ⟨v161,hm162,e163⟩:=q
           obtain rfl:=wBt hx105 hX119 (hb126 v161 e163)
           refine zQ (wDQ (zQ (zn ?_)))
           obtain rfl:=nE hm162
           exact zE ⟨rfl,_,rfl,⟨U129,f132,f133,f134,f135,(le110.trans le130),(hS160.pick [1] _ (by decide) rfl)⟩⟩
          ·intro c156 hm165
           refine cF Z c156 (ZF (zX (zE (rR fL2 Z (oR Z (zl (zU Z fi128 Z) (congrArg (jV) hi139.out)) (oM Z Z (zi ?_)))))))
           obtain rfl:=nE hm165
           exact zE ⟨rfl,_,rfl,⟨U129,rfl,f132,f133,f134,f135,f136,f137,le130,(hS155.pick [1] _ (by decide) rfl)⟩⟩
         ·rintro ⟨⟩ σ166 W167 ⟨U170,fi169,f173,f174,f175,f176,f177,f178,le171,hS172⟩ hb168
          have hm179:=wCR hx105 hX119 hb168
          try dsimp only at hm179
          have c180:Hid (¬ ((↑(((↑p0.length:Int):Int) - 0).toNat:Int) < (↑p0.length:Int))):=zC (wAv)
          refine sR fL1 Z (oR Z (zN Z fi169 f178) (eN (zA (cF Z c180 (zt (zQ (zQ (zn (zE (zt (wDQ ?_)))))))))))
          have q:=wAl hm179
          obtain ⟨v181,hm182,e183⟩:=q
          obtain rfl:=hb106 v181 e183
          refine zQ (zn ?_)
          cases hm182
          exact zE ⟨Z,⟨U170,f173,f175,f176,(le110.trans le171),hS172⟩⟩
       ·rintro σ185 W186 ⟨U187,f190,f191,f192,le188,hS189⟩
        refine zA (sR fL2 Z (oL Z (hS189.ldB (j:=0) Z Z f192 zH (v:=jV x94) Z) (oR Z (ZR Z Z Z) (eN (ifc hm97 ?_ ?_)))))
        ·intro c193 hm194
         refine cT Z c193 (sR fL2 Z (oA Z Z (oA Z Z (eN (zK (zG (wCL ?_)))))))
         have hS195:=hS189.nilrow 54 3
         cases hm194
         exact ⟨rfl,_,(wDf rfl rfl),U187,_,(hS195.pick [0] _ (by decide) rfl),none,0,rfl,rfl⟩
        ·intro c193 hm197
         refine cF Z c193 (kN (sR (.fl 0 (.fl 1 (.fx 2 (.fl 3 (.nil)) .stop))) Z (oM Z f190 ?_)))
         have q:=hS189.freeze (k:=0) rfl
         obtain ⟨U198,le199,hC200,hS201⟩:=q
         replace hC200:=Cl.of hC200
         have hS202:sW w U U198 [] W186:=hS201
         replace hC200:Cl U198 b75 0 [jV x94]:=hC200
         refine oR Z (Runs.mkf Z zO (zB f192 zO)) ?_
         have h203:=h86.le le188
         have h204:=h203.le le199
         have hF205:FnOK Tryz.prog U198 (.func (.func 121) #[] #[.pointer (some ⟨b75,0,none⟩)]) wOV wOW (fun x=>wAz x x94):=⟨121,[],[.pointer (some ⟨b75,0,none⟩)],rfl,Tryz.call121,fun U1 w1 x y vs le hs ha hm=>by obtain rfl:=ha;exact wDs x x94 b75 w1 U1 hs (hC200.le le) hm⟩
         refine bnK hm197 fun x206 h207 hm208=>zI 0 Z Z Z Z (zJ Z Z Tryz.call24 (zB Z (zB Z zO)) Z) hS202 (fun hs=>wAb p0 pA0 pc0 (fun x=>wAz x x94) (.func (.func 121) #[] #[.pointer (some ⟨b75,0,none⟩)]) W186 U198 hs h204 hF205 h207) (.inr Z) ?_
         rintro U209 L210 v211 W212 le213 hS214 ⟨rfl,rfl⟩
         have hS215:sW w U U209 [] W212:=hS214
         refine oA Z Z (eN (zA (sR fL2 Z (oM Z Z (oR Z (zN Z Z Z) (eN (ifc hm208 ?_ ?_)))))))
         ·intro c216 hm217
          refine cT Z c216 (rR fL3 Z (oM Z f190 (oR Z (zV Z Z zL) (oA Z Z (eN (bnK hm217 fun l218 hx222 hm223=>CK.cut (fun σ_ w_=>∃ (U_:PHeap) (A219:Option Addr) (c220:Nat),σ_ 6=.slice A219 l218.length c220/\σ_ 7=jV 0/\PHeap.Le U209 U_/\sW w U U_ [.row A219 c220 54 3 (nA wAC l218)] w_) ?_ ?_))))))
          ·refine bnK hx222 fun x230 h231 hm262=>bnK hm262 fun x248 h249 hm263=>ZK ZJ [3,2,3,1,1,3,2,0,3,3] (.fl 0 (wOA (.fx 1 (.fx 6 (.fx 7 (.fl 8 (.fl 9 (.nil))) (.stop)) (.stop)) (.fx 6 (.fx 1 (.fx 7 (.fl 8 (.fl 9 (.nil))) (.stop)) (.stop)) (.stop))))) (by kernel_rfl) ?_
           have hS264:=hS215.drew
           generalize hw_W265:({ W212 with drawn:=W212.drawn + 1 }:World)=W265 at hS264 ⊢
           refine oM Z f190 (oM Z Z ?_)
           have h266:=h52.le le61
           have h267:=h266.le le188
           have h268:=h267.le le199
           have h269:=h268.le le213
           refine oL Z (hS264.ldC (f:=0) h269 (v:=jV p1) Z f191 zH Z) ?_
           have h270:=hC200.le le213
           refine oL Z (hS264.ldC (f:=0) h270 (v:=jV x94) Z f192 zH Z) ?_
           let B1:List Value:=[jV p1,jV x94,jV 0]
           let B2:List Value:=[jV 0,jV 0,jV 0]
           refine oR Z (ZP (pv:=[(0,jV p1),(1,jV x94)]) (z:=B2) (cs:=B1) Z (wAH Z (wAH Z wAV)) zy wFh Z Z) (OKS.both ?_ ?_)
           ·have h271:=h204.le le213
            refine zI 0 Z Z Z Z (zJ Z Z Zd (zB Z zO) Z) hS264 (fun hs=>wAM p0 pA0 pc0 W265 U209 hs h271 h231) (.inr Z) ?_
            rintro U273 L274 v275 W276 le277 hS278 ⟨A279,c280,rfl,rfl⟩
            let B3:Res:=.row A279 c280 54 3 (nA wAC x230)
            have hS282:sW w U U273 [B3] W276:=hS278
            refine zY (pv:=[(0,.agg B1.toArray)]) (zs:=B2) (cs:=B1) Z Z Z Z Z (wAH Z wAV) zL zf zy Z Z Z Z Z hS282 ?_
            intro W283 b284 hS285
            let B4:Res:=.row (some ⟨b284,0,none⟩) 1 54 3 (nA wAC [(⟨p1,x94,0⟩:wAA)])
            have hS287:sW w U U273 [B4,B3] W283:=hS285
            have hS289:sW w U U273 [B3,B4] W283:=hS287.pick [1,0] _ (by decide) rfl
            refine zI 2 Z Z Z Z (zJ Z Z Zi (zB Z (zB Z (zB Z zO))) Z) hS289 (fun hs=>wAN x230 A279 c280 (↑p0.length:Int) [(⟨p1,x94,0⟩:wAA)] (some ⟨b284,0,none⟩) 1 W283 U273 hs h249) (.inl Z) ?_
            rintro U290 L291 v292 W293 le294 hS295 ⟨A296,c297,rfl,rfl⟩
            have hS299:sW w U U290 [.row A296 c297 54 3 (nA wAC x248),B4] W293:=hS295
            refine oA Z Z (oA Z Z (zi ?_))
            cases hm263
            exact zE ⟨rfl,⟨U290,A296,c297,rfl,rfl,(le277.trans le294),(hS299.pick [0] _ (by decide) rfl)⟩⟩
           ·refine zY (pv:=[(0,.agg B1.toArray)]) (zs:=B2) (cs:=B1) Z Z Z Z Z (wAH Z wAV) zL zf zy Z Z Z Z Z hS264 ?_
            intro W303 b304 hS305
            let B5:Res:=.row (some ⟨b304,0,none⟩) 1 54 3 (nA wAC [(⟨p1,x94,0⟩:wAA)])
            have hS307:sW w U U209 [B5] W303:=hS305
            have h308:=h204.le le213
            refine zI 0 Z Z Z Z (zJ Z Z Zd (zB Z zO) Z) hS307 (fun hs=>wAM p0 pA0 pc0 W303 U209 hs h308 h231) (.inr Z) ?_
            rintro U310 L311 v312 W313 le314 hS315 ⟨A316,c317,rfl,rfl⟩
            have hS319:sW w U U310 [.row A316 c317 54 3 (nA wAC x230),B5] W313:=hS315
            refine zI 2 Z Z Z Z (zJ Z Z Zi (zB Z (zB Z (zB Z zO))) Z) hS319 (fun hs=>wAN x230 A316 c317 (↑p0.length:Int) [(⟨p1,x94,0⟩:wAA)] (some ⟨b304,0,none⟩) 1 W313 U310 hs h249) (.inl Z) ?_
            rintro U321 L322 v323 W324 le325 hS326 ⟨A327,c328,rfl,rfl⟩
            have hS330:sW w U U321 [.row A327 c328 54 3 (nA wAC x248),B5] W324:=hS326
            refine oA Z Z (oA Z Z (zi ?_))
            cases hm263
            exact zE ⟨rfl,⟨U321,A327,c328,rfl,rfl,(le314.trans le325),(hS330.pick [0] _ (by decide) rfl)⟩⟩
          ·rintro σ334 W335 ⟨U336,A219,c220,f339,f340,le337,hS338⟩
           refine zK (wCL ?_)
           cases hm223
           exact ⟨Z,_,(wDf f339 f340),U336,_,hS338,A219,c220,Z,Z⟩
         ·intro c216 hm341
          refine cF Z c216 (kN (bnK hm341 fun l342 hx346 hm347=>CK.cut (fun σ_ w_=>∃ (U_:PHeap) (A343:Option Addr) (c344:Nat),σ_ 6=.slice A343 l342.length c344/\σ_ 7=jV 0/\PHeap.Le U209 U_/\sW w U U_ [.row A343 c344 54 3 (nA wAC l342)] w_) ?_ ?_))
          ·refine bnK hx346 fun x354 h355 hm386=>bnK hm386 fun x372 h373 hm387=>ZK ZJ [3,2,3,1,1,3,2,0,3,3] (.fl 0 (wOA (.fx 1 (.fx 6 (.fx 7 (.fl 8 (.fl 9 (.nil))) (.stop)) (.stop)) (.fx 6 (.fx 1 (.fx 7 (.fl 8 (.fl 9 (.nil))) (.stop)) (.stop)) (.stop))))) (by kernel_rfl) ?_
           have hS388:=hS215.drew
           generalize hw_W389:({ W212 with drawn:=W212.drawn + 1 }:World)=W389 at hS388 ⊢
           refine oM Z f190 (oM Z Z ?_)
           have h390:=h52.le le61
           have h391:=h390.le le188
           have h392:=h391.le le199
           have h393:=h392.le le213
           refine oL Z (hS388.ldC (f:=0) h393 (v:=jV p1) Z f191 zH Z) ?_
           have h394:=hC200.le le213
           refine oL Z (hS388.ldC (f:=0) h394 (v:=jV x94) Z f192 zH Z) ?_
           let B6:List Value:=[jV p1,jV x94,jV 0]
           let B7:List Value:=[jV 0,jV 0,jV 0]
           refine oR Z (ZP (pv:=[(0,jV p1),(1,jV x94)]) (z:=B7) (cs:=B6) Z (wAH Z (wAH Z wAV)) zy wFh Z Z) (OKS.both ?_ ?_)
           ·have h395:=h204.le le213
            refine zI 0 Z Z Z Z (zJ Z Z Zd (zB Z zO) Z) hS388 (fun hs=>wAM p0 pA0 pc0 W389 U209 hs h395 h355) (.inr Z) ?_
            rintro U397 L398 v399 W400 le401 hS402 ⟨A403,c404,rfl,rfl⟩
            let B8:Res:=.row A403 c404 54 3 (nA wAC x354)
            have hS406:sW w U U397 [B8] W400:=hS402
            refine zY (pv:=[(0,.agg B6.toArray)]) (zs:=B7) (cs:=B6) Z Z Z Z Z (wAH Z wAV) zL zf zy Z Z Z Z Z hS406 ?_
            intro W407 b408 hS409
            let B9:Res:=.row (some ⟨b408,0,none⟩) 1 54 3 (nA wAC [(⟨p1,x94,0⟩:wAA)])
            have hS411:sW w U U397 [B9,B8] W407:=hS409
            have hS413:sW w U U397 [B8,B9] W407:=hS411.pick [1,0] _ (by decide) rfl
            refine zI 2 Z Z Z Z (zJ Z Z Zi (zB Z (zB Z (zB Z zO))) Z) hS413 (fun hs=>wAN x354 A403 c404 x206 [(⟨p1,x94,0⟩:wAA)] (some ⟨b408,0,none⟩) 1 W407 U397 hs h373) (.inl Z) ?_
            rintro U414 L415 v416 W417 le418 hS419 ⟨A420,c421,rfl,rfl⟩
            have hS423:sW w U U414 [.row A420 c421 54 3 (nA wAC x372),B9] W417:=hS419
            refine oA Z Z (oA Z Z (zi ?_))
            cases hm387
            exact zE ⟨rfl,⟨U414,A420,c421,rfl,rfl,(le401.trans le418),(hS423.pick [0] _ (by decide) rfl)⟩⟩
           ·refine zY (pv:=[(0,.agg B6.toArray)]) (zs:=B7) (cs:=B6) Z Z Z Z Z (wAH Z wAV) zL zf zy Z Z Z Z Z hS388 ?_
            intro W427 b428 hS429
            let B10:Res:=.row (some ⟨b428,0,none⟩) 1 54 3 (nA wAC [(⟨p1,x94,0⟩:wAA)])
            have hS431:sW w U U209 [B10] W427:=hS429
            have h432:=h204.le le213
            refine zI 0 Z Z Z Z (zJ Z Z Zd (zB Z zO) Z) hS431 (fun hs=>wAM p0 pA0 pc0 W427 U209 hs h432 h355) (.inr Z) ?_
            rintro U434 L435 v436 W437 le438 hS439 ⟨A440,c441,rfl,rfl⟩
            have hS443:sW w U U434 [.row A440 c441 54 3 (nA wAC x354),B10] W437:=hS439
            refine zI 2 Z Z Z Z (zJ Z Z Zi (zB Z (zB Z (zB Z zO))) Z) hS443 (fun hs=>wAN x354 A440 c441 x206 [(⟨p1,x94,0⟩:wAA)] (some ⟨b428,0,none⟩) 1 W437 U434 hs h373) (.inl Z) ?_
            rintro U445 L446 v447 W448 le449 hS450 ⟨A451,c452,rfl,rfl⟩
            have hS454:sW w U U445 [.row A451 c452 54 3 (nA wAC x372),B10] W448:=hS450
            refine oA Z Z (oA Z Z (zi ?_))
            cases hm387
            exact zE ⟨rfl,⟨U445,A451,c452,rfl,rfl,(le438.trans le449),(hS454.pick [0] _ (by decide) rfl)⟩⟩
          ·rintro σ458 W459 ⟨U460,A343,c344,f463,f464,le461,hS462⟩
           refine zK (wCL ?_)
           cases hm347
           exact ⟨Z,_,(wDf f463 f464),U460,_,hS462,A343,c344,Z,Z⟩
      ·intro c81 hm465
       refine cF Z c81 (kN (zA (CK.label (zE (bnK hm465 fun x466 hx468 hm469=>CK.cut (fun σ_ w_=>∃ (U_:PHeap),σ_ 0=.slice pA0 p0.length pc0/\σ_ 4=.pointer (some ⟨b2,0,none⟩)/\σ_ 9=.pointer (some ⟨b75,0,none⟩)/\PHeap.Le U57 U_/\sW w U U_ [.blk b75 3 [jV x466]] w_) ?_ ?_)))))
       ·refine zM (CK.iter (fun x473 σ_ w_=>∃ (U_:PHeap),σ_ 0=.slice pA0 p0.length pc0/\σ_ 2=jV p2/\σ_ 4=.pointer (some ⟨b2,0,none⟩)/\σ_ 9=.pointer (some ⟨b75,0,none⟩)/\PHeap.Le U57 U_/\sW w U U_ [.blk b75 3 [jV x473]] w_) hx468 ?_ ?_)
        ·exact ⟨U57,Z,Z,Z,Z,(zS _),hS80⟩
        ·rintro x473 xx476 σ474 W475 ⟨U481,f484,f485,f486,f487,le482,hS483⟩ hx477 hb478
         refine zM (zA (sR fL3 Z (oM Z f484 (oR Z (zV Z Z zL) (oM Z Z (eN (zM ?_)))))))
         have q:=wBs hx477
         obtain ⟨r490,hX491⟩:=q
         have q:=wBr hX491
         obtain ⟨hle492,hf493⟩:=q
         replace hle492:=zC hle492
         refine ZV (fun k489 _ σ_ w_=>∃ (U_:PHeap),σ_ 45=jV (↑k489:Int)/\σ_ 0=.slice pA0 p0.length pc0/\σ_ 2=jV p2/\σ_ 4=.pointer (some ⟨b2,0,none⟩)/\σ_ 9=.pointer (some ⟨b75,0,none⟩)/\σ_ 43=.slice pA0 p0.length pc0/\σ_ 44=jV (↑p0.length:Int)/\PHeap.Le U481 U_/\sW w U U_ [.blk b75 3 [jV x473]] w_) hf493 ?_ ?_ ?_
         ·exact ⟨U481,Z,f484,f485,f486,f487,Z,Z,(zS _),hS483⟩
         ·rintro k489 ⟨⟩ xx496 σ494 W495 hk499 ⟨U501,fi500,f504,f505,f506,f507,f508,f509,le502,hS503⟩ hx497 hb498
          try dsimp only at hx497
          have c510:Hid ((↑k489:Int) < (↑p0.length:Int)):=zC (wBL hk499)
          replace hk499:=zC hk499
          have hi511:Hid (w64 ((↑k489:Int) + 1)=(↑(k489 + 1):Int)):=zC (by have h1:=hle492.out;have h2:=c510.out;rw [wAe] <;> omega)
          refine sR fL1 Z (oR Z (zN Z fi500 f509) (eN (zA (cT Z c510 (kN (zA (zM (sR (.fl 0 (.fl 1 (.fx 2 (.fx 3 (.nil) .stop) .stop))) Z (bnK hx497 fun x512 h513 hm514=>?_)))))))))
          have h515:=h50.le le61
          have h516:=h515.le le482
          have h517:=h516.le le502
          have q:=h517.el (fun _=>rfl) (wAU h513)
          obtain ⟨b518,off519,hA520,hC521⟩:=q
          refine oR Z (ze Z f508 hA520 fi500 zL zf (wAu h513)) (oL Z (hS503.ldCA (f:=0) hC521 Z Z ZW zf (us:=[jV x512.Bib,jV x512.Time,jV x512.Gate]) Z Z) (ZS (cs:=[jV 0,jV 0,jV 0]) Z Z Z Z Z zy Z hS503 ?_))
          intro W522 b523 hS524
          let B11:List Value:=[jV x512.Bib,jV x512.Time,jV x512.Gate]
          refine Zc (j:=0) (vs:=B11) Z Z Z Z hS524 Z Z Z Z zf (zZ Z) Z Z Z ?_
          intro W526 hS527
          have hS528:sW w U U501 [.blk b523 54 B11,.blk b75 3 [jV x473]] W526:=hS527
          refine eN (sR fL4 Z (oR Z (zq Z Z ZA Z zF) (oL Z (hS528.ldB (j:=0) Z Z Z zH (v:=jV x512.Time) Z) (oL Z (hS528.ldB (j:=1) Z Z f507 zH (v:=jV x473) Z) (oR Z (Za Z Z Z) (eN (ifc hm514 ?_ ?_)))))))
          ·intro c529 hm530
           refine cT Z c529 (sR (wKr (.fx 3 (.nil) .stop)) Z (oL Z (hS528.ldB (j:=1) Z Z f507 zH (v:=jV x473) Z) (oM Z f505 (oR Z (zU Z Z Z) (Zc (j:=1) (vs:=[jV (w64 (x473 + p2))]) Z Z Z Z hS528 Z f507 Z Z zF (zZ Z) Z Z Z ?_)))))
           intro W531 hS532
           have hS533:sW w U U501 [.blk b523 54 B11,.blk b75 3 [jV (w64 (x473 + p2))]] W531:=hS532
           refine eN (zt (wDQ (zQ ?_)))
           have q:=wAl hm530
           obtain ⟨v534,hm535,e536⟩:=q
           obtain rfl:=wBt hx477 hX491 (hb498 v534 e536)
           refine zQ (wDQ (zQ (zn ?_)))
           obtain rfl:=nE hm535
           exact zE ⟨rfl,_,rfl,⟨U501,f504,f505,f506,f507,(le482.trans le502),(hS533.pick [1] _ (by decide) rfl)⟩⟩
          ·intro c529 hm538
           refine cF Z c529 (ZF (zX (zE (rR fL2 Z (oR Z (zl (zU Z fi500 Z) (congrArg (jV) hi511.out)) (oM Z Z (zi ?_)))))))
           obtain rfl:=nE hm538
           exact zE ⟨rfl,_,rfl,⟨U501,rfl,f504,f505,f506,f507,f508,f509,le502,(hS528.pick [1] _ (by decide) rfl)⟩⟩
         ·rintro ⟨⟩ σ539 W540 ⟨U543,fi542,f546,f547,f548,f549,f550,f551,le544,hS545⟩ hb541
          have hm552:=wCR hx477 hX491 hb541
          try dsimp only at hm552
          have c553:Hid (¬ ((↑(((↑p0.length:Int):Int) - 0).toNat:Int) < (↑p0.length:Int))):=zC (wAv)
          refine sR fL1 Z (oR Z (zN Z fi542 f551) (eN (zA (cF Z c553 (zt (zQ (zQ (zn (zE (zt (wDQ ?_)))))))))))
          have q:=wAl hm552
          obtain ⟨v554,hm555,e556⟩:=q
          obtain rfl:=hb478 v554 e556
          refine zQ (zn ?_)
          cases hm555
          exact zE ⟨Z,⟨U543,f546,f548,f549,(le482.trans le544),hS545⟩⟩
       ·rintro σ558 W559 ⟨U560,f563,f564,f565,le561,hS562⟩
        refine zA (sR fL2 Z (oL Z (hS562.ldB (j:=0) Z Z f565 zH (v:=jV x466) Z) (oR Z (ZR Z Z Z) (eN (ifc hm469 ?_ ?_)))))
        ·intro c566 hm567
         refine cT Z c566 (sR fL2 Z (oA Z Z (oA Z Z (eN (zK (zG (wCL ?_)))))))
         have hS568:=hS562.nilrow 54 3
         cases hm567
         exact ⟨rfl,_,(wDf rfl rfl),U560,_,(hS568.pick [0] _ (by decide) rfl),none,0,rfl,rfl⟩
        ·intro c566 hm570
         refine cF Z c566 (kN (sR (.fl 0 (.fl 1 (.fx 2 (.fl 3 (.nil)) .stop))) Z (oM Z f563 ?_)))
         have q:=hS562.freeze (k:=0) rfl
         obtain ⟨U571,le572,hC573,hS574⟩:=q
         replace hC573:=Cl.of hC573
         have hS575:sW w U U571 [] W559:=hS574
         replace hC573:Cl U571 b75 0 [jV x466]:=hC573
         refine oR Z (Runs.mkf Z zO (zB f565 zO)) ?_
         have h576:=h50.le le61
         have h577:=h576.le le561
         have h578:=h577.le le572
         have hF579:FnOK Tryz.prog U571 (.func (.func 121) #[] #[.pointer (some ⟨b75,0,none⟩)]) wOV wOW (fun x=>wAz x x466):=⟨121,[],[.pointer (some ⟨b75,0,none⟩)],rfl,Tryz.call121,fun U1 w1 x y vs le hs ha hm=>by obtain rfl:=ha;exact wDs x x466 b75 w1 U1 hs (hC573.le le) hm⟩
         refine bnK hm570 fun x580 h581 hm582=>zI 0 Z Z Z Z (zJ Z Z Tryz.call24 (zB Z (zB Z zO)) Z) hS575 (fun hs=>wAb p0 pA0 pc0 (fun x=>wAz x x466) (.func (.func 121) #[] #[.pointer (some ⟨b75,0,none⟩)]) W559 U571 hs h578 hF579 h581) (.inr Z) ?_
         rintro U583 L584 v585 W586 le587 hS588 ⟨rfl,rfl⟩
         have hS589:sW w U U583 [] W586:=hS588
         refine oA Z Z (eN (zA (sR fL2 Z (oM Z Z (oR Z (zN Z Z Z) (eN (ifc hm582 ?_ ?_)))))))
         ·intro c590 hm591
          refine cT Z c590 (rR fL3 Z (oM Z f563 (oR Z (zV Z Z zL) (oA Z Z (eN (bnK hm591 fun l592 hx596 hm597=>CK.cut (fun σ_ w_=>∃ (U_:PHeap) (A593:Option Addr) (c594:Nat),σ_ 6=.slice A593 l592.length c594/\σ_ 7=jV 0/\PHeap.Le U583 U_/\sW w U U_ [.row A593 c594 54 3 (nA wAC l592)] w_) ?_ ?_))))))
          ·refine bnK hx596 fun x604 h605 hm636=>bnK hm636 fun x622 h623 hm637=>ZK ZJ [3,2,3,1,1,3,2,0,3,3] (.fl 0 (wOA (.fx 1 (.fx 6 (.fx 7 (.fl 8 (.fl 9 (.nil))) (.stop)) (.stop)) (.fx 6 (.fx 1 (.fx 7 (.fl 8 (.fl 9 (.nil))) (.stop)) (.stop)) (.stop))))) (by kernel_rfl) ?_
           have hS638:=hS589.drew
           generalize hw_W639:({ W586 with drawn:=W586.drawn + 1 }:World)=W639 at hS638 ⊢
           refine oM Z f563 (oM Z Z ?_)
           have h640:=h52.le le61
           have h641:=h640.le le561
           have h642:=h641.le le572
           have h643:=h642.le le587
           refine oL Z (hS638.ldC (f:=0) h643 (v:=jV p1) Z f564 zH Z) ?_
           have h644:=hC573.le le587
           refine oL Z (hS638.ldC (f:=0) h644 (v:=jV x466) Z f565 zH Z) ?_
           let B12:List Value:=[jV p1,jV x466,jV 0]
           let B13:List Value:=[jV 0,jV 0,jV 0]
           refine oR Z (ZP (pv:=[(0,jV p1),(1,jV x466)]) (z:=B13) (cs:=B12) Z (wAH Z (wAH Z wAV)) zy wFh Z Z) (OKS.both ?_ ?_)
           ·have h645:=h578.le le587
            refine zI 0 Z Z Z Z (zJ Z Z Zd (zB Z zO) Z) hS638 (fun hs=>wAM p0 pA0 pc0 W639 U583 hs h645 h605) (.inr Z) ?_
            rintro U647 L648 v649 W650 le651 hS652 ⟨A653,c654,rfl,rfl⟩
            let B14:Res:=.row A653 c654 54 3 (nA wAC x604)
            have hS656:sW w U U647 [B14] W650:=hS652
            refine zY (pv:=[(0,.agg B12.toArray)]) (zs:=B13) (cs:=B12) Z Z Z Z Z (wAH Z wAV) zL zf zy Z Z Z Z Z hS656 ?_
            intro W657 b658 hS659
            let B15:Res:=.row (some ⟨b658,0,none⟩) 1 54 3 (nA wAC [(⟨p1,x466,0⟩:wAA)])
            have hS661:sW w U U647 [B15,B14] W657:=hS659
            have hS663:sW w U U647 [B14,B15] W657:=hS661.pick [1,0] _ (by decide) rfl
            refine zI 2 Z Z Z Z (zJ Z Z Zi (zB Z (zB Z (zB Z zO))) Z) hS663 (fun hs=>wAN x604 A653 c654 (↑p0.length:Int) [(⟨p1,x466,0⟩:wAA)] (some ⟨b658,0,none⟩) 1 W657 U647 hs h623) (.inl Z) ?_
            rintro U664 L665 v666 W667 le668 hS669 ⟨A670,c671,rfl,rfl⟩
            have hS673:sW w U U664 [.row A670 c671 54 3 (nA wAC x622),B15] W667:=hS669
            refine oA Z Z (oA Z Z (zi ?_))
            cases hm637
            exact zE ⟨rfl,⟨U664,A670,c671,rfl,rfl,(le651.trans le668),(hS673.pick [0] _ (by decide) rfl)⟩⟩
           ·refine zY (pv:=[(0,.agg B12.toArray)]) (zs:=B13) (cs:=B12) Z Z Z Z Z (wAH Z wAV) zL zf zy Z Z Z Z Z hS638 ?_
            intro W677 b678 hS679
            let B16:Res:=.row (some ⟨b678,0,none⟩) 1 54 3 (nA wAC [(⟨p1,x466,0⟩:wAA)])
            have hS681:sW w U U583 [B16] W677:=hS679
            have h682:=h578.le le587
            refine zI 0 Z Z Z Z (zJ Z Z Zd (zB Z zO) Z) hS681 (fun hs=>wAM p0 pA0 pc0 W677 U583 hs h682 h605) (.inr Z) ?_
            rintro U684 L685 v686 W687 le688 hS689 ⟨A690,c691,rfl,rfl⟩
            have hS693:sW w U U684 [.row A690 c691 54 3 (nA wAC x604),B16] W687:=hS689
            refine zI 2 Z Z Z Z (zJ Z Z Zi (zB Z (zB Z (zB Z zO))) Z) hS693 (fun hs=>wAN x604 A690 c691 (↑p0.length:Int) [(⟨p1,x466,0⟩:wAA)] (some ⟨b678,0,none⟩) 1 W687 U684 hs h623) (.inl Z) ?_
            rintro U695 L696 v697 W698 le699 hS700 ⟨A701,c702,rfl,rfl⟩
            have hS704:sW w U U695 [.row A701 c702 54 3 (nA wAC x622),B16] W698:=hS700
            refine oA Z Z (oA Z Z (zi ?_))
            cases hm637
            exact zE ⟨rfl,⟨U695,A701,c702,rfl,rfl,(le688.trans le699),(hS704.pick [0] _ (by decide) rfl)⟩⟩
          ·rintro σ708 W709 ⟨U710,A593,c594,f713,f714,le711,hS712⟩
           refine zK (wCL ?_)
           cases hm597
           exact ⟨Z,_,(wDf f713 f714),U710,_,hS712,A593,c594,Z,Z⟩
         ·intro c590 hm715
          refine cF Z c590 (kN (bnK hm715 fun l716 hx720 hm721=>CK.cut (fun σ_ w_=>∃ (U_:PHeap) (A717:Option Addr) (c718:Nat),σ_ 6=.slice A717 l716.length c718/\σ_ 7=jV 0/\PHeap.Le U583 U_/\sW w U U_ [.row A717 c718 54 3 (nA wAC l716)] w_) ?_ ?_))
          ·refine bnK hx720 fun x728 h729 hm760=>bnK hm760 fun x746 h747 hm761=>ZK ZJ [3,2,3,1,1,3,2,0,3,3] (.fl 0 (wOA (.fx 1 (.fx 6 (.fx 7 (.fl 8 (.fl 9 (.nil))) (.stop)) (.stop)) (.fx 6 (.fx 1 (.fx 7 (.fl 8 (.fl 9 (.nil))) (.stop)) (.stop)) (.stop))))) (by kernel_rfl) ?_
           have hS762:=hS589.drew
           generalize hw_W763:({ W586 with drawn:=W586.drawn + 1 }:World)=W763 at hS762 ⊢
           refine oM Z f563 (oM Z Z ?_)
           have h764:=h52.le le61
           have h765:=h764.le le561
           have h766:=h765.le le572
           have h767:=h766.le le587
           refine oL Z (hS762.ldC (f:=0) h767 (v:=jV p1) Z f564 zH Z) ?_
           have h768:=hC573.le le587
           refine oL Z (hS762.ldC (f:=0) h768 (v:=jV x466) Z f565 zH Z) ?_
           let B17:List Value:=[jV p1,jV x466,jV 0]
           let B18:List Value:=[jV 0,jV 0,jV 0]
           refine oR Z (ZP (pv:=[(0,jV p1),(1,jV x466)]) (z:=B18) (cs:=B17) Z (wAH Z (wAH Z wAV)) zy wFh Z Z) (OKS.both ?_ ?_)
           ·have h769:=h578.le le587
            refine zI 0 Z Z Z Z (zJ Z Z Zd (zB Z zO) Z) hS762 (fun hs=>wAM p0 pA0 pc0 W763 U583 hs h769 h729) (.inr Z) ?_
            rintro U771 L772 v773 W774 le775 hS776 ⟨A777,c778,rfl,rfl⟩
            let B19:Res:=.row A777 c778 54 3 (nA wAC x728)
            have hS780:sW w U U771 [B19] W774:=hS776
            refine zY (pv:=[(0,.agg B17.toArray)]) (zs:=B18) (cs:=B17) Z Z Z Z Z (wAH Z wAV) zL zf zy Z Z Z Z Z hS780 ?_
            intro W781 b782 hS783
            let B20:Res:=.row (some ⟨b782,0,none⟩) 1 54 3 (nA wAC [(⟨p1,x466,0⟩:wAA)])
            have hS785:sW w U U771 [B20,B19] W781:=hS783
            have hS787:sW w U U771 [B19,B20] W781:=hS785.pick [1,0] _ (by decide) rfl
            refine zI 2 Z Z Z Z (zJ Z Z Zi (zB Z (zB Z (zB Z zO))) Z) hS787 (fun hs=>wAN x728 A777 c778 x580 [(⟨p1,x466,0⟩:wAA)] (some ⟨b782,0,none⟩) 1 W781 U771 hs h747) (.inl Z) ?_
            rintro U788 L789 v790 W791 le792 hS793 ⟨A794,c795,rfl,rfl⟩
            have hS797:sW w U U788 [.row A794 c795 54 3 (nA wAC x746),B20] W791:=hS793
            refine oA Z Z (oA Z Z (zi ?_))
            cases hm761
            exact zE ⟨rfl,⟨U788,A794,c795,rfl,rfl,(le775.trans le792),(hS797.pick [0] _ (by decide) rfl)⟩⟩
           ·refine zY (pv:=[(0,.agg B17.toArray)]) (zs:=B18) (cs:=B17) Z Z Z Z Z (wAH Z wAV) zL zf zy Z Z Z Z Z hS762 ?_
            intro W801 b802 hS803
            let B21:Res:=.row (some ⟨b802,0,none⟩) 1 54 3 (nA wAC [(⟨p1,x466,0⟩:wAA)])
            have hS805:sW w U U583 [B21] W801:=hS803
            have h806:=h578.le le587
            refine zI 0 Z Z Z Z (zJ Z Z Zd (zB Z zO) Z) hS805 (fun hs=>wAM p0 pA0 pc0 W801 U583 hs h806 h729) (.inr Z) ?_
            rintro U808 L809 v810 W811 le812 hS813 ⟨A814,c815,rfl,rfl⟩
            have hS817:sW w U U808 [.row A814 c815 54 3 (nA wAC x728),B21] W811:=hS813
            refine zI 2 Z Z Z Z (zJ Z Z Zi (zB Z (zB Z (zB Z zO))) Z) hS817 (fun hs=>wAN x728 A814 c815 x580 [(⟨p1,x466,0⟩:wAA)] (some ⟨b802,0,none⟩) 1 W811 U808 hs h747) (.inl Z) ?_
            rintro U819 L820 v821 W822 le823 hS824 ⟨A825,c826,rfl,rfl⟩
            have hS828:sW w U U819 [.row A825 c826 54 3 (nA wAC x746),B21] W822:=hS824
            refine oA Z Z (oA Z Z (zi ?_))
            cases hm761
            exact zE ⟨rfl,⟨U819,A825,c826,rfl,rfl,(le812.trans le823),(hS828.pick [0] _ (by decide) rfl)⟩⟩
          ·rintro σ832 W833 ⟨U834,A717,c718,f837,f838,le835,hS836⟩
           refine zK (wCL ?_)
           cases hm721
           exact ⟨Z,_,(wDf f837 f838),U834,_,hS836,A717,c718,Z,Z⟩
   ·intro c46 hm839
    refine zj (nF (c46.out)) (sR fL2 Z (oA Z Z (oA Z Z (eN (zK (zW (zG (wCL ?_))))))))
    have hS840:=hS45.nilrow 54 3
    cases hm839
    exact ⟨Z,_,(wDf Z Z),U39,_,hS840,none,0,Z,Z⟩
  ·intro c34 hm842
   refine ZL Z Z Z (zo Z Z (nF (c34.out)) Z) (Zf Z Z Z (zo Z Z (nF (c34.out)) Z) (ZL Z Z Z (zo Z Z (nF (c34.out)) Z) (oR Z (ZC Z (nF (c34.out)) Z) (oA Z Z (eN (zj Z (sR fL2 Z (oA Z Z (oA Z Z (eN (zK (zW (zG (wCL ?_))))))))))))))
   have hS843:=hS33.nilrow 54 3
   cases hm842
   exact ⟨Z,_,(wDf Z Z),U27,_,hS843,none,0,Z,Z⟩
 ·intro c21 hm845
  refine cT Z c21 (sR fL3 Z (oM Z Z (oA Z Z (oA Z Z (eN (zK (zW (zG (wCL ?_)))))))))
  have hS846:=hS20.nilrow 54 3
  cases hm845
  exact ⟨Z,_,(wDf Z Z),U14,_,hS846,none,0,Z,Z⟩
end Go.Proofs.YtghaibkggdecnaaGreat
namespace Go.Proofs.YtghaibkggdecnaaGreat
open Go.KL
set_option maxHeartbeats 4000000
theorem wEG (p0:List wAD) (pA0:Option Addr) (pc0:Nat) (p1:Int) (p2:Int) (w:World) (U:PHeap) (hS:St0 w U []) (ha0:Sl U 3 pA0 pc0 p0.length (nA wAB p0)) {r:(List wAD) × Int} (hm:wBU p0 p1 p2=some r):Gv Tryz.prog 71 [.slice pA0 p0.length pc0,jV p1,jV p2] w (wCQ w [] U (fun U_ L_ v=>∃ (A0:Option Addr) (c0:Nat),v=.tuple #[.slice A0 r.1.length c0,jV r.2]/\L_=[.row A0 c0 132 3 (nA wAB r.1)])):=by
 unfold wBU at hm
 refine Gv.of Tryz.func71 Z Tryz.ntmps71 Tryz.results71 Z (sR fL2 Z (oA Z Z (oA Z Z (eN (zA (sR (.fl 0 (.fx 1 (.fl 2 (.nil)) .stop)) Z (oM Z Z (bnK hm fun x1 h2 hm3=>zI 0 Z Z Z Z (zJ Z Z Tryz.call117 (zB Z zO) Z) hS (fun hs=>wCJ p0 pA0 pc0 w U hs ha0 h2) (.inr Z) ?_))))))))
 rintro U4 L5 v6 W7 le8 hS9 ⟨rfl,rfl⟩
 have hS10:sW w U U4 [] W7:=hS9
 refine oA Z Z (eN (sR fL2 Z (oM Z Z (oR Z (ZU Z Z Z) (eN (ifc hm3 ?_ ?_))))))
 ·intro c11 hm12
  refine zg (ZN (fun h=>h c11.out)) (kN (zA (sR (.fl 0 (.fx 1 (.fl 2 (.fl 3 (.fx 4 (.fl 5 (.nil)) .stop))) .stop)) Z (oM Z Z (bnK hm12 fun x13 h14 hm15=>zI 0 Z Z Z Z (zJ Z Z Zh (zB Z (zB Z (zB Z zO))) Z) hS10 (fun hs=>wAr p1 1 999 W7 U4 hs h14) (.inr Z) ?_)))))
  rintro U16 L17 v18 W19 le20 hS21 ⟨rfl,rfl⟩
  have hS22:sW w U U16 [] W19:=hS21
  refine oM Z Z (ifc hm15 ?_ ?_)
  ·intro c23 hm24
   refine ZL Z Z Z (zo Z Z (congrArg nB c23.out) Z) (Zf Z Z Z (zo Z Z (congrArg nB c23.out) Z) (oR Z (ZC Z (congrArg nB c23.out) Z) (eN (zj Z (sR fL2 Z (oA Z Z (oA Z Z (eN (zK (zG ?_))))))))))
   have hS25:=hS22.nilrow 132 3
   cases hm24
   exact ⟨Z,_,(wDf Z Z),U16,_,hS25,none,0,Z,Z⟩
  ·intro c23 hm27
   refine zk Z Z Z (zh Z Z (congrArg nB (nD.2 c23.out))) Z Z (bnK hm27 fun x28 h29 hm30=>zI 0 Z Z Z (zh Z Z (congrArg nB (nD.2 c23.out))) (zJ Z Z Zh (zB Z (zB Z (zB Z zO))) Z) hS22 (fun hs=>wAr p2 1 360000 W19 U16 hs h29) (.inr Z) ?_)
   rintro U31 L32 v33 W34 le35 hS36 ⟨rfl,rfl⟩
   have hS37:sW w U U31 [] W34:=hS36
   refine oR Z (ZB Z (congrArg nB (nD.2 c23.out)) Z) (eN (ifc hm30 ?_ ?_))
   ·intro c38 hm39
    refine zj (congrArg nB c38.out) (sR fL2 Z (oA Z Z (oA Z Z (eN (zK (zG ?_))))))
    have hS40:=hS37.nilrow 132 3
    cases hm39
    exact ⟨Z,_,(wDf Z Z),U31,_,hS40,none,0,Z,Z⟩
   ·intro c38 hm42
    refine zg (congrArg nB (nD.2 c38.out)) (kN (zA (sR (.fl 0 (.fl 1 (.fx 2 (.fl 3 (.nil)) .stop))) Z (oM Z Z (oM Z Z ?_)))))
    have h43:=ha0.le le8
    have h44:=h43.le le20
    have h45:=h44.le le35
    refine bnK hm42 fun x46 h47 hm48=>zI 0 Z Z Z Z (zJ Z Z Tryz.call118 (zB Z (zB Z zO)) Z) hS37 (fun hs=>wCv p0 pA0 pc0 p1 W34 U31 hs h45 h47) (.inr Z) ?_
    rintro U49 L50 v51 W52 le53 hS54 ⟨rfl,rfl⟩
    have hS55:sW w U U49 [] W52:=hS54
    refine oR Z (Runs.geq Z Z Z) (eN (ifc hm48 ?_ ?_))
    ·intro c56 hm57
     refine cT Z c56 (sR fL2 Z (oA Z Z (oA Z Z (eN (zK (zG ?_))))))
     have hS58:=hS55.nilrow 132 3
     cases hm57
     exact ⟨Z,_,(wDf Z Z),U49,_,hS58,none,0,Z,Z⟩
    ·intro c56 hm60
     refine cF Z c56 (kN (zA (sR fL3 Z (oM Z Z (oR Z (zV Z Z zD) (oR Z (Za Z Z Z) (eN (ifc hm60 ?_ ?_))))))))
     ·intro c61 hm62
      refine cT Z c61 (sR fL2 Z (oA Z Z (oA Z Z (eN (zK (zG ?_))))))
      have hS63:=hS55.nilrow 132 3
      cases hm62
      exact ⟨Z,_,(wDf Z Z),U49,_,hS63,none,0,Z,Z⟩
     ·intro c61 hm65
      refine cF Z c61 (kN (sR fL1 Z (oA Z Z (eN (zA (sR fL3 Z (oM Z Z (oR Z (zV Z Z zD) (oR Z (ZR Z Z Z) (eN (ifc hm65 ?_ ?_)))))))))))
      ·intro c66 hm67
       refine cT Z c66 (rR fL5 Z (oM Z Z (bnK hm67 fun x68 h69 hm70=>?_)))
       have h71:=h45.le le53
       have q:=h71.el (fun _=>rfl) (wAU h69)
       obtain ⟨b72,off73,hA74,hC75⟩:=q
       refine oR Z (ze Z Z hA74 Z zD zR (wAu h69)) (oR Z (zq Z Z zw Z zF) (oL Z (hS55.ldC (f:=1) hC75 (v:=jV x68.Time) Z Z zH Z) (oA Z Z (eN (zA (sR fL1 Z (oA Z Z (eN (zM (CK.iter (fun (x82,b83) σ_ w_=>∃ (U_:PHeap),σ_ 0=.slice pA0 p0.length pc0/\σ_ 1=jV p1/\σ_ 2=jV p2/\σ_ 9=jV x82/\σ_ 10=.bool b83/\PHeap.Le U49 U_/\sW w U U_ [] w_) hm70 ?_ ?_))))))))))
       ·exact ⟨U49,Z,Z,Z,Z,Z,(zS _),hS55⟩
       ·rintro ⟨x82,b83⟩ xx86 σ84 W85 ⟨U91,f94,f95,f96,f97,f98,le92,hS93⟩ hx87 hb88
        try dsimp only at hx87
        refine zA (sR fL1 Z (oM Z f98 (eN ?_)))
        by_cases c99:b83=true
        ·have hm100:=hx87;rw [if_pos c99] at hm100;replace c99:=zC c99
         refine zj (congrArg nB c99.out) (kN (zM (sR fL1 Z (oA Z Z (eN (zA (sR fL1 Z (oA Z Z (eN (zM (bnK hm100 fun y112 hf109 hm108=>?_)))))))))))
         have q:=wBb hf109
         obtain ⟨hle110,hf111⟩:=q
         replace hle110:=zC hle110
         refine CK.forN' (fun k107 b106 σ_ w_=>∃ (U_:PHeap),σ_ 11=jV (↑k107:Int)/\σ_ 0=.slice pA0 p0.length pc0/\σ_ 1=jV p1/\σ_ 2=jV p2/\σ_ 9=jV x82/\σ_ 10=.bool b106/\PHeap.Le U91 U_/\sW w U U_ [] w_) hf111 ?_ ?_ ?_
         ·exact ⟨U91,Z,f94,f95,f96,f97,Z,(zS _),hS93⟩
         ·rintro k107 b106 xx115 σ113 W114 hk118 ⟨U120,fi119,f123,f124,f125,f126,f127,le121,hS122⟩ hx116
          have c128:Hid ((↑k107:Int) < (↑p0.length:Int)):=zC (wBL hk118)
          replace hk118:=zC hk118
          have hi129:Hid (w64 ((↑k107:Int) + 1)=(↑(k107 + 1):Int)):=zC (by have h1:=hle110.out;have h2:=c128.out;rw [wAe] <;> omega)
          refine zA (sR fL4 Z (oM Z fi119 (oM Z f123 (oR Z (zV Z Z zD) (oR Z (zN Z Z Z) (eN (cT Z c128 (kN (zA (zM (sR fL7 Z (oM Z f123 (oM Z fi119 (bnK hx116 fun x130 h131 hm132=>?_))))))))))))))
          have h133:=h71.le le92
          have h134:=h133.le le121
          have q:=h134.el (fun _=>rfl) (wAU h131)
          obtain ⟨b135,off136,hA137,hC138⟩:=q
          refine oR Z (ze Z Z hA137 Z zD zR (wAu h131)) (oR Z (zq Z Z zw Z zF) (oL Z (hS122.ldC (f:=1) hC138 (v:=jV x130.Time) Z Z zH Z) (oM Z f126 (oR Z (Za Z Z Z) (eN (ifc hm132 ?_ ?_))))))
          ·intro c139 hm140
           refine cT Z c139 (rR fL1 Z (oA Z Z (zi (zX (zE (rR fL3 Z (oM Z fi119 (oR Z (zl (zU Z Z Z) (congrArg (jV) hi129.out)) (oA Z Z (zi ?_))))))))))
           cases hm140
           exact zE ⟨Z,⟨U120,Z,f123,f124,f125,f126,Z,le121,hS122⟩⟩
          ·intro c139 hm142
           refine cF Z c139 (ZF (zX (zE (rR fL3 Z (oM Z fi119 (oR Z (zl (zU Z Z Z) (congrArg (jV) hi129.out)) (oA Z Z (zi ?_))))))))
           cases hm142
           exact zE ⟨Z,⟨U120,Z,f123,f124,f125,f126,f127,le121,hS122⟩⟩
         ·rintro σ144 W145 ⟨U149,fi147,f152,f153,f154,f155,f156,le150,hS151⟩
          have c157:Hid (¬ ((↑(((↑p0.length:Int):Int) - 0).toNat:Int) < (↑p0.length:Int))):=zC (wAv)
          refine zA (sR fL4 Z (oM Z fi147 (oM Z f152 (oR Z (zV Z Z zD) (oR Z (zN Z Z Z) (eN (cF Z c157 (zt (zQ (zQ (zn (zE (sR fL1 Z (oM Z f156 (eN (ifc hm108 ?_ ?_))))))))))))))))
          ·intro c158 hm159
           refine zj (congrArg nB c158.out) (rR fL4 Z (oM Z f155 (oM Z f154 (oR Z (zU Z Z Z) (oA Z Z (zi (zX ?_)))))))
           obtain rfl:=nE hm159
           exact zE ⟨Z,_,Z,⟨U149,f152,f153,f154,Z,f156,(le92.trans le150),hS151⟩⟩
          ·intro c158 hm162
           refine zg (congrArg nB (nD.2 c158.out)) (ZF (zX ?_))
           obtain rfl:=nE hm162
           exact zE ⟨Z,_,Z,⟨U149,f152,f153,f154,f155,f156,(le92.trans le150),hS151⟩⟩
        ·have hm165:=hx87;rw [if_neg c99] at hm165;replace c99:=zC c99
         refine zg (congrArg nB (nD.2 c99.out)) (zt (zQ ?_))
         have q:=wAl hm165
         obtain ⟨v166,hm167,e168⟩:=q
         obtain rfl:=hb88 v166 e168
         refine zQ (zn (zE (zA (sR fL2 Z (oM Z f97 (oR Z (ZR Z Z Z) (eN (ifc hm167 ?_ ?_))))))))
         ·intro c169 hm170
          refine cT Z c169 (sR fL2 Z (oA Z Z (oA Z Z (eN (zK (zG ?_))))))
          have hS171:=hS93.nilrow 132 3
          cases hm170
          exact ⟨Z,_,(wDf Z Z),U91,_,hS171,none,0,Z,Z⟩
         ·intro c169 hm173
          refine cF Z c169 (kN (sR fL1 Z (oA Z Z (eN (sR fL1 Z (oA Z Z (eN (zA (sR fL1 Z (oA Z Z (eN (zM ?_))))))))))))
          have q:=bnd hm173
          obtain ⟨⟨y200,y201⟩,hf197,hm196⟩:=q
          try dsimp only at hm196
          have q:=wBb hf197
          obtain ⟨hle198,hf199⟩:=q
          replace hle198:=zC hle198
          refine CK.forN' (fun k195 (l190,b194) σ_ w_=>∃ (U_:PHeap) (A191:Option Addr) (c192:Nat),σ_ 14=jV (↑k195:Int)/\σ_ 0=.slice pA0 p0.length pc0/\σ_ 1=jV p1/\σ_ 9=jV x82/\σ_ 12=.slice A191 l190.length c192/\σ_ 13=.bool b194/\PHeap.Le U91 U_/\sW w U U_ [.row A191 c192 132 3 (nA wAB l190)] w_) hf199 ?_ ?_ ?_
          ·have hS202:=hS93.nilrow 132 3
           exact ⟨U91,none,0,Z,f94,f95,f97,Z,Z,(zS _),hS202⟩
          ·rintro k195 ⟨l190,b194⟩ xx206 σ204 W205 hk209 ⟨U211,A191,c192,fi210,f214,f215,f216,f217,f218,le212,hS213⟩ hx207
           try dsimp only at hx207
           have c219:Hid ((↑k195:Int) < (↑p0.length:Int)):=zC (wBL hk209)
           replace hk209:=zC hk209
           have hi220:Hid (w64 ((↑k195:Int) + 1)=(↑(k195 + 1):Int)):=zC (by have h1:=hle198.out;have h2:=c219.out;rw [wAe] <;> omega)
           refine zA (sR fL4 Z (oM Z fi210 (oM Z f214 (oR Z (zV Z Z zD) (oR Z (zN Z Z Z) (eN (cT Z c219 (kN (zA (zM (zA (sR fL11 Z (oM Z f214 (oM Z fi210 (bnK hx207 fun x221 h222 hm223=>?_)))))))))))))))
           have h224:=h71.le le92
           have h225:=h224.le le212
           have q:=h225.el (fun _=>rfl) (wAU h222)
           obtain ⟨b226,off227,hA228,hC229⟩:=q
           refine oR Z (ze Z Z hA228 Z zD zR (wAu h222)) (oR Z (zq Z Z zw Z zF) (oL Z (hS213.ldC (f:=1) hC229 (v:=jV x221.Time) Z Z zH Z) (oM Z f216 (oR Z (ZR Z Z Z) (oM Z Z (ifc hm223 ?_ ?_))))))
           ·intro c230 hm231
            refine zk Z Z Z (wT Z c230) Z f218 (rU Z (wT Z c230) (ZO Z Z) (oR Z (ZC Z (wGn c230.out) Z) (eN (ifc hm231 ?_ ?_))))
            ·intro c232 hm233
             refine zg (nC c232.out) (kN (rR (wGa (.fx 5 (.fx 6 (.fl 7 (.nil)) .stop) .stop)) Z (oM Z f217 (oM Z f214 (oM Z fi210 ?_)))))
             have q:=h225.el (fun _=>rfl) (wAU h222)
             obtain ⟨b234,off235,hA236,hC237⟩:=q
             refine oR Z (ze Z Z hA236 Z zD zR (wAu h222)) (oL Z (hS213.ldCA (f:=0) hC237 Z Z ZY zR (us:=[jV x221.Bib,jV x221.Time,jV x221.Gate]) Z Z) ?_)
             let B0:List Value:=[jV x221.Bib,jV x221.Time,jV x221.Gate]
             refine zY (pv:=[(0,.agg B0.toArray)]) (zs:=[jV 0,jV 0,jV 0]) (cs:=B0) Z Z Z Z Z (wAH Z wAV) zD zR zz Z Z Z Z Z hS213 ?_
             intro W238 b239 hS240
             let B1:Res:=.row (some ⟨b239,0,none⟩) 1 132 3 (nA wAB [x221])
             have hS242:sW w U U211 [B1,.row A191 c192 132 3 (nA wAB l190)] W238:=hS240
             refine bnK hm233 fun x243 h244 hm245=>zp (j:=1) (enc:=wAB) (xs:=l190) (ys:=[x221]) (zs:=x243) rfl rfl rfl rfl rfl ZG wCi rfl rfl rfl rfl rfl rfl hS242 rfl rfl rfl (hS242.srcR (j:=0) rfl (by decide) (wAF (f:=wAB) (sz:=3) (fun _=>rfl) [x221])) (fun _=>rfl) (fun _=>rfl) h244 rfl ?_
             intro A246 c247 W248 hS249
             have hS250:sW w U U211 [B1,.row A246 c247 132 3 (nA wAB x243)] W248:=hS249
             refine oA Z Z (zi (zX (zE (rR fL3 Z (oM Z fi210 (oR Z (zl (zU Z Z Z) (congrArg (jV) hi220.out)) (oA Z Z (zi ?_))))))))
             cases hm245
             exact zE ⟨rfl,⟨U211,A246,c247,rfl,f214,f215,f216,rfl,f218,le212,(hS250.pick [1] _ (by decide) rfl)⟩⟩
            ·intro c232 hm255
             refine zj (nF (c232.out)) (sR (wGZ (.fx 4 (.fx 5 (.fl 6 (.nil)) .stop) .stop)) Z (oM Z f217 (oM Z f215 (oM Z f216 ?_))))
             let B2:List Value:=[jV p1,jV x82,jV 0]
             let B3:List Value:=[jV 0,jV 0,jV 0]
             refine oR Z (ZP (pv:=[(0,jV p1),(1,jV x82),(2,jV 0)]) (z:=B3) (cs:=B2) Z (wAH Z (wAH Z (wAH Z wAV))) zz wEx Z Z) (zY (pv:=[(0,.agg B2.toArray)]) (zs:=B3) (cs:=B2) Z Z Z Z Z (wAH Z wAV) zD zR zz Z Z Z Z Z hS213 ?_)
             intro W256 b257 hS258
             let B4:Res:=.row (some ⟨b257,0,none⟩) 1 132 3 (nA wAB [(⟨p1,x82,0⟩:wAD)])
             have hS260:sW w U U211 [B4,.row A191 c192 132 3 (nA wAB l190)] W256:=hS258
             refine bnK hm255 fun x261 h262 hm263=>zp (j:=1) (enc:=wAB) (xs:=l190) (ys:=[(⟨p1,x82,0⟩:wAD)]) (zs:=x261) rfl rfl rfl rfl rfl ZG wCi rfl rfl rfl rfl rfl rfl hS260 rfl rfl rfl (hS260.srcR (j:=0) rfl (by decide) (wAF (f:=wAB) (sz:=3) (fun _=>rfl) [(⟨p1,x82,0⟩:wAD)])) (fun _=>rfl) (fun _=>rfl) h262 rfl ?_
             intro A264 c265 W266 hS267
             let B5:Res:=.row A264 c265 132 3 (nA wAB x261)
             have hS268:sW w U U211 [B4,B5] W266:=hS267
             refine oA Z Z (eN (rR fL1 Z (oA Z Z (eN (rR (wGa (.fx 5 (.fx 6 (.fl 7 (.nil)) .stop) .stop)) Z (oM Z Z (oM Z f214 (oM Z fi210 ?_))))))))
             have q:=h225.el (fun _=>rfl) (wAU h222)
             obtain ⟨b269,off270,hA271,hC272⟩:=q
             refine oR Z (ze Z Z hA271 Z zD zR (wAu h222)) (oL Z (hS268.ldCA (f:=0) hC272 Z Z ZY zR (us:=[jV x221.Bib,jV x221.Time,jV x221.Gate]) Z Z) ?_)
             let B6:List Value:=[jV x221.Bib,jV x221.Time,jV x221.Gate]
             refine zY (pv:=[(0,.agg B6.toArray)]) (zs:=B3) (cs:=B6) Z Z Z Z Z (wAH Z wAV) zD zR zz Z Z Z Z Z hS268 ?_
             intro W273 b274 hS275
             let B7:Res:=.row (some ⟨b274,0,none⟩) 1 132 3 (nA wAB [x221])
             have hS277:sW w U U211 [B7,B4,B5] W273:=hS275
             refine bnK hm263 fun x278 h279 hm280=>zp (j:=2) (enc:=wAB) (xs:=x261) (ys:=[x221]) (zs:=x278) rfl rfl rfl rfl rfl ZG wCi rfl rfl rfl rfl rfl rfl hS277 rfl rfl rfl (hS277.srcR (j:=0) rfl (by decide) (wAF (f:=wAB) (sz:=3) (fun _=>rfl) [x221])) (fun _=>rfl) (fun _=>rfl) h279 rfl ?_
             intro A281 c282 W283 hS284
             have hS285:sW w U U211 [B7,B4,.row A281 c282 132 3 (nA wAB x278)] W283:=hS284
             refine oA Z Z (zi (zX (zE (rR fL3 Z (oM Z fi210 (oR Z (zl (zU Z Z Z) (congrArg (jV) hi220.out)) (oA Z Z (zi ?_))))))))
             cases hm280
             exact zE ⟨rfl,⟨U211,A281,c282,rfl,f214,f215,f216,rfl,rfl,le212,(hS285.pick [2] _ (by decide) rfl)⟩⟩
           ·intro c230 hm290
            refine oF Z c230 (oF Z c230 (oR Z (ZB Z (ZN c230.out) Z) (eN (zg Z (kN (rR (wGa (.fx 5 (.fx 6 (.fl 7 (.nil)) .stop) .stop)) Z (oM Z f217 (oM Z f214 (oM Z fi210 ?_)))))))))
            have q:=h225.el (fun _=>rfl) (wAU h222)
            obtain ⟨b291,off292,hA293,hC294⟩:=q
            refine oR Z (ze Z Z hA293 Z zD zR (wAu h222)) (oL Z (hS213.ldCA (f:=0) hC294 Z Z ZY zR (us:=[jV x221.Bib,jV x221.Time,jV x221.Gate]) Z Z) ?_)
            let B8:List Value:=[jV x221.Bib,jV x221.Time,jV x221.Gate]
            refine zY (pv:=[(0,.agg B8.toArray)]) (zs:=[jV 0,jV 0,jV 0]) (cs:=B8) Z Z Z Z Z (wAH Z wAV) zD zR zz Z Z Z Z Z hS213 ?_
            intro W295 b296 hS297
            let B9:Res:=.row (some ⟨b296,0,none⟩) 1 132 3 (nA wAB [x221])
            have hS299:sW w U U211 [B9,.row A191 c192 132 3 (nA wAB l190)] W295:=hS297
            refine bnK hm290 fun x300 h301 hm302=>zp (j:=1) (enc:=wAB) (xs:=l190) (ys:=[x221]) (zs:=x300) rfl rfl rfl rfl rfl ZG wCi rfl rfl rfl rfl rfl rfl hS299 rfl rfl rfl (hS299.srcR (j:=0) rfl (by decide) (wAF (f:=wAB) (sz:=3) (fun _=>rfl) [x221])) (fun _=>rfl) (fun _=>rfl) h301 rfl ?_
            intro A303 c304 W305 hS306
            have hS307:sW w U U211 [B9,.row A303 c304 132 3 (nA wAB x300)] W305:=hS306
            refine oA Z Z (zi (zX (zE (rR fL3 Z (oM Z fi210 (oR Z (zl (zU Z Z Z) (congrArg (jV) hi220.out)) (oA Z Z (zi ?_))))))))
            cases hm302
            exact zE ⟨rfl,⟨U211,A303,c304,rfl,f214,f215,f216,rfl,f218,le212,(hS307.pick [1] _ (by decide) rfl)⟩⟩
          ·rintro σ312 W313 ⟨U322,A320,c321,fi315,f325,f326,f327,f328,f329,le323,hS324⟩
           have c330:Hid (¬ ((↑(((↑p0.length:Int):Int) - 0).toNat:Int) < (↑p0.length:Int))):=zC (wAv)
           refine zA (sR fL4 Z (oM Z fi315 (oM Z f325 (oR Z (zV Z Z zD) (oR Z (zN Z Z Z) (eN (cF Z c330 (zt (zQ (zQ (zn (zE (zA (sR fL2 Z (oM Z f329 (oR Z (ZO Z Z) (eN (ifc hm196 ?_ ?_))))))))))))))))))
           ·intro c331 hm332
            refine zg (nC c331.out) (kN (sR fL3 Z (oM Z f328 (oA Z Z (oA Z Z (eN (zK ?_)))))))
            cases hm332
            exact ⟨Z,_,(wDf Z Z),U322,_,hS324,A320,c321,Z,Z⟩
           ·intro c331 hm333
            refine zj (nF (c331.out)) (rR (wGZ (.fx 4 (.fx 5 (.fl 6 (.nil)) .stop) .stop)) Z (oM Z f328 (oM Z f326 (oM Z f327 ?_))))
            let B10:List Value:=[jV p1,jV x82,jV 0]
            let B11:List Value:=[jV 0,jV 0,jV 0]
            refine oR Z (ZP (pv:=[(0,jV p1),(1,jV x82),(2,jV 0)]) (z:=B11) (cs:=B10) Z (wAH Z (wAH Z (wAH Z wAV))) zz wEx Z Z) (zY (pv:=[(0,.agg B10.toArray)]) (zs:=B11) (cs:=B10) Z Z Z Z Z (wAH Z wAV) zD zR zz Z Z Z Z Z hS324 ?_)
            intro W334 b335 hS336
            let B12:Res:=.row (some ⟨b335,0,none⟩) 1 132 3 (nA wAB [(⟨p1,x82,0⟩:wAD)])
            have hS338:sW w U U322 [B12,.row A320 c321 132 3 (nA wAB y200)] W334:=hS336
            refine bnK hm333 fun x339 h340 hm341=>zp (j:=1) (enc:=wAB) (xs:=y200) (ys:=[(⟨p1,x82,0⟩:wAD)]) (zs:=x339) rfl rfl rfl rfl rfl ZG wCi rfl rfl rfl rfl rfl rfl hS338 rfl rfl rfl (hS338.srcR (j:=0) rfl (by decide) (wAF (f:=wAB) (sz:=3) (fun _=>rfl) [(⟨p1,x82,0⟩:wAD)])) (fun _=>rfl) (fun _=>rfl) h340 rfl ?_
            intro A342 c343 W344 hS345
            have hS346:sW w U U322 [B12,.row A342 c343 132 3 (nA wAB x339)] W344:=hS345
            refine oA Z Z (eN (sR fL3 Z (oM Z Z (oA Z Z (oA Z Z (eN (zK ?_)))))))
            cases hm341
            exact ⟨rfl,_,(wDf rfl rfl),U322,_,(hS346.pick [1] _ (by decide) rfl),A342,c343,rfl,rfl⟩
      ·intro c66 hm347
       refine cF Z c66 (kN (zA (sR fL1 Z (oA Z Z (eN (zM (CK.iter (fun (x354,b355) σ_ w_=>∃ (U_:PHeap),σ_ 0=.slice pA0 p0.length pc0/\σ_ 1=jV p1/\σ_ 2=jV p2/\σ_ 9=jV x354/\σ_ 10=.bool b355/\PHeap.Le U49 U_/\sW w U U_ [] w_) hm347 ?_ ?_)))))))
       ·exact ⟨U49,Z,Z,Z,Z,Z,(zS _),hS55⟩
       ·rintro ⟨x354,b355⟩ xx358 σ356 W357 ⟨U363,f366,f367,f368,f369,f370,le364,hS365⟩ hx359 hb360
        try dsimp only at hx359
        refine zA (sR fL1 Z (oM Z f370 (eN ?_)))
        by_cases c371:b355=true
        ·have hm372:=hx359;rw [if_pos c371] at hm372;replace c371:=zC c371
         refine zj (congrArg nB c371.out) (kN (zM (sR fL1 Z (oA Z Z (eN (zA (sR fL1 Z (oA Z Z (eN (zM (bnK hm372 fun y384 hf381 hm380=>?_)))))))))))
         have q:=wBb hf381
         obtain ⟨hle382,hf383⟩:=q
         replace hle382:=zC hle382
         refine CK.forN' (fun k379 b378 σ_ w_=>∃ (U_:PHeap),σ_ 11=jV (↑k379:Int)/\σ_ 0=.slice pA0 p0.length pc0/\σ_ 1=jV p1/\σ_ 2=jV p2/\σ_ 9=jV x354/\σ_ 10=.bool b378/\PHeap.Le U363 U_/\sW w U U_ [] w_) hf383 ?_ ?_ ?_
         ·exact ⟨U363,Z,f366,f367,f368,f369,Z,(zS _),hS365⟩
         ·rintro k379 b378 xx387 σ385 W386 hk390 ⟨U392,fi391,f395,f396,f397,f398,f399,le393,hS394⟩ hx388
          have c400:Hid ((↑k379:Int) < (↑p0.length:Int)):=zC (wBL hk390)
          replace hk390:=zC hk390
          have hi401:Hid (w64 ((↑k379:Int) + 1)=(↑(k379 + 1):Int)):=zC (by have h1:=hle382.out;have h2:=c400.out;rw [wAe] <;> omega)
          refine zA (sR fL4 Z (oM Z fi391 (oM Z f395 (oR Z (zV Z Z zD) (oR Z (zN Z Z Z) (eN (cT Z c400 (kN (zA (zM (sR fL7 Z (oM Z f395 (oM Z fi391 (bnK hx388 fun x402 h403 hm404=>?_))))))))))))))
          have h405:=h45.le le53
          have h406:=h405.le le364
          have h407:=h406.le le393
          have q:=h407.el (fun _=>rfl) (wAU h403)
          obtain ⟨b408,off409,hA410,hC411⟩:=q
          refine oR Z (ze Z Z hA410 Z zD zR (wAu h403)) (oR Z (zq Z Z zw Z zF) (oL Z (hS394.ldC (f:=1) hC411 (v:=jV x402.Time) Z Z zH Z) (oM Z f398 (oR Z (Za Z Z Z) (eN (ifc hm404 ?_ ?_))))))
          ·intro c412 hm413
           refine cT Z c412 (rR fL1 Z (oA Z Z (zi (zX (zE (rR fL3 Z (oM Z fi391 (oR Z (zl (zU Z Z Z) (congrArg (jV) hi401.out)) (oA Z Z (zi ?_))))))))))
           cases hm413
           exact zE ⟨Z,⟨U392,Z,f395,f396,f397,f398,Z,le393,hS394⟩⟩
          ·intro c412 hm415
           refine cF Z c412 (ZF (zX (zE (rR fL3 Z (oM Z fi391 (oR Z (zl (zU Z Z Z) (congrArg (jV) hi401.out)) (oA Z Z (zi ?_))))))))
           cases hm415
           exact zE ⟨Z,⟨U392,Z,f395,f396,f397,f398,f399,le393,hS394⟩⟩
         ·rintro σ417 W418 ⟨U422,fi420,f425,f426,f427,f428,f429,le423,hS424⟩
          have c430:Hid (¬ ((↑(((↑p0.length:Int):Int) - 0).toNat:Int) < (↑p0.length:Int))):=zC (wAv)
          refine zA (sR fL4 Z (oM Z fi420 (oM Z f425 (oR Z (zV Z Z zD) (oR Z (zN Z Z Z) (eN (cF Z c430 (zt (zQ (zQ (zn (zE (sR fL1 Z (oM Z f429 (eN (ifc hm380 ?_ ?_))))))))))))))))
          ·intro c431 hm432
           refine zj (congrArg nB c431.out) (rR fL4 Z (oM Z f428 (oM Z f427 (oR Z (zU Z Z Z) (oA Z Z (zi (zX ?_)))))))
           obtain rfl:=nE hm432
           exact zE ⟨Z,_,Z,⟨U422,f425,f426,f427,Z,f429,(le364.trans le423),hS424⟩⟩
          ·intro c431 hm435
           refine zg (congrArg nB (nD.2 c431.out)) (ZF (zX ?_))
           obtain rfl:=nE hm435
           exact zE ⟨Z,_,Z,⟨U422,f425,f426,f427,f428,f429,(le364.trans le423),hS424⟩⟩
        ·have hm438:=hx359;rw [if_neg c371] at hm438;replace c371:=zC c371
         refine zg (congrArg nB (nD.2 c371.out)) (zt (zQ ?_))
         have q:=wAl hm438
         obtain ⟨v439,hm440,e441⟩:=q
         obtain rfl:=hb360 v439 e441
         refine zQ (zn (zE (zA (sR fL2 Z (oM Z f369 (oR Z (ZR Z Z Z) (eN (ifc hm440 ?_ ?_))))))))
         ·intro c442 hm443
          refine cT Z c442 (sR fL2 Z (oA Z Z (oA Z Z (eN (zK (zG ?_))))))
          have hS444:=hS365.nilrow 132 3
          cases hm443
          exact ⟨Z,_,(wDf Z Z),U363,_,hS444,none,0,Z,Z⟩
         ·intro c442 hm446
          refine cF Z c442 (kN (sR fL1 Z (oA Z Z (eN (sR fL1 Z (oA Z Z (eN (zA (sR fL1 Z (oA Z Z (eN (zM ?_))))))))))))
          have q:=bnd hm446
          obtain ⟨⟨y473,y474⟩,hf470,hm469⟩:=q
          try dsimp only at hm469
          have q:=wBb hf470
          obtain ⟨hle471,hf472⟩:=q
          replace hle471:=zC hle471
          refine CK.forN' (fun k468 (l463,b467) σ_ w_=>∃ (U_:PHeap) (A464:Option Addr) (c465:Nat),σ_ 14=jV (↑k468:Int)/\σ_ 0=.slice pA0 p0.length pc0/\σ_ 1=jV p1/\σ_ 9=jV x354/\σ_ 12=.slice A464 l463.length c465/\σ_ 13=.bool b467/\PHeap.Le U363 U_/\sW w U U_ [.row A464 c465 132 3 (nA wAB l463)] w_) hf472 ?_ ?_ ?_
          ·have hS475:=hS365.nilrow 132 3
           exact ⟨U363,none,0,Z,f366,f367,f369,Z,Z,(zS _),hS475⟩
          ·rintro k468 ⟨l463,b467⟩ xx479 σ477 W478 hk482 ⟨U484,A464,c465,fi483,f487,f488,f489,f490,f491,le485,hS486⟩ hx480
           try dsimp only at hx480
           have c492:Hid ((↑k468:Int) < (↑p0.length:Int)):=zC (wBL hk482)
           replace hk482:=zC hk482
           have hi493:Hid (w64 ((↑k468:Int) + 1)=(↑(k468 + 1):Int)):=zC (by have h1:=hle471.out;have h2:=c492.out;rw [wAe] <;> omega)
           refine zA (sR fL4 Z (oM Z fi483 (oM Z f487 (oR Z (zV Z Z zD) (oR Z (zN Z Z Z) (eN (cT Z c492 (kN (zA (zM (zA (sR fL11 Z (oM Z f487 (oM Z fi483 (bnK hx480 fun x494 h495 hm496=>?_)))))))))))))))
           have h497:=h45.le le53
           have h498:=h497.le le364
           have h499:=h498.le le485
           have q:=h499.el (fun _=>rfl) (wAU h495)
           obtain ⟨b500,off501,hA502,hC503⟩:=q
           refine oR Z (ze Z Z hA502 Z zD zR (wAu h495)) (oR Z (zq Z Z zw Z zF) (oL Z (hS486.ldC (f:=1) hC503 (v:=jV x494.Time) Z Z zH Z) (oM Z f489 (oR Z (ZR Z Z Z) (oM Z Z (ifc hm496 ?_ ?_))))))
           ·intro c504 hm505
            refine zk Z Z Z (wT Z c504) Z f491 (rU Z (wT Z c504) (ZO Z Z) (oR Z (ZC Z (wGn c504.out) Z) (eN (ifc hm505 ?_ ?_))))
            ·intro c506 hm507
             refine zg (nC c506.out) (kN (rR (wGa (.fx 5 (.fx 6 (.fl 7 (.nil)) .stop) .stop)) Z (oM Z f490 (oM Z f487 (oM Z fi483 ?_)))))
             have q:=h499.el (fun _=>rfl) (wAU h495)
             obtain ⟨b508,off509,hA510,hC511⟩:=q
             refine oR Z (ze Z Z hA510 Z zD zR (wAu h495)) (oL Z (hS486.ldCA (f:=0) hC511 Z Z ZY zR (us:=[jV x494.Bib,jV x494.Time,jV x494.Gate]) Z Z) ?_)
             let B13:List Value:=[jV x494.Bib,jV x494.Time,jV x494.Gate]
             refine zY (pv:=[(0,.agg B13.toArray)]) (zs:=[jV 0,jV 0,jV 0]) (cs:=B13) Z Z Z Z Z (wAH Z wAV) zD zR zz Z Z Z Z Z hS486 ?_
             intro W512 b513 hS514
             let B14:Res:=.row (some ⟨b513,0,none⟩) 1 132 3 (nA wAB [x494])
             have hS516:sW w U U484 [B14,.row A464 c465 132 3 (nA wAB l463)] W512:=hS514
             refine bnK hm507 fun x517 h518 hm519=>zp (j:=1) (enc:=wAB) (xs:=l463) (ys:=[x494]) (zs:=x517) rfl rfl rfl rfl rfl ZG wCi rfl rfl rfl rfl rfl rfl hS516 rfl rfl rfl (hS516.srcR (j:=0) rfl (by decide) (wAF (f:=wAB) (sz:=3) (fun _=>rfl) [x494])) (fun _=>rfl) (fun _=>rfl) h518 rfl ?_
             intro A520 c521 W522 hS523
             have hS524:sW w U U484 [B14,.row A520 c521 132 3 (nA wAB x517)] W522:=hS523
             refine oA Z Z (zi (zX (zE (rR fL3 Z (oM Z fi483 (oR Z (zl (zU Z Z Z) (congrArg (jV) hi493.out)) (oA Z Z (zi ?_))))))))
             cases hm519
             exact zE ⟨rfl,⟨U484,A520,c521,rfl,f487,f488,f489,rfl,f491,le485,(hS524.pick [1] _ (by decide) rfl)⟩⟩
            ·intro c506 hm529
             refine zj (nF (c506.out)) (sR (wGZ (.fx 4 (.fx 5 (.fl 6 (.nil)) .stop) .stop)) Z (oM Z f490 (oM Z f488 (oM Z f489 ?_))))
             let B15:List Value:=[jV p1,jV x354,jV 0]
             let B16:List Value:=[jV 0,jV 0,jV 0]
             refine oR Z (ZP (pv:=[(0,jV p1),(1,jV x354),(2,jV 0)]) (z:=B16) (cs:=B15) Z (wAH Z (wAH Z (wAH Z wAV))) zz wEx Z Z) (zY (pv:=[(0,.agg B15.toArray)]) (zs:=B16) (cs:=B15) Z Z Z Z Z (wAH Z wAV) zD zR zz Z Z Z Z Z hS486 ?_)
             intro W530 b531 hS532
             let B17:Res:=.row (some ⟨b531,0,none⟩) 1 132 3 (nA wAB [(⟨p1,x354,0⟩:wAD)])
             have hS534:sW w U U484 [B17,.row A464 c465 132 3 (nA wAB l463)] W530:=hS532
             refine bnK hm529 fun x535 h536 hm537=>zp (j:=1) (enc:=wAB) (xs:=l463) (ys:=[(⟨p1,x354,0⟩:wAD)]) (zs:=x535) rfl rfl rfl rfl rfl ZG wCi rfl rfl rfl rfl rfl rfl hS534 rfl rfl rfl (hS534.srcR (j:=0) rfl (by decide) (wAF (f:=wAB) (sz:=3) (fun _=>rfl) [(⟨p1,x354,0⟩:wAD)])) (fun _=>rfl) (fun _=>rfl) h536 rfl ?_
             intro A538 c539 W540 hS541
             let B18:Res:=.row A538 c539 132 3 (nA wAB x535)
             have hS542:sW w U U484 [B17,B18] W540:=hS541
             refine oA Z Z (eN (rR fL1 Z (oA Z Z (eN (rR (wGa (.fx 5 (.fx 6 (.fl 7 (.nil)) .stop) .stop)) Z (oM Z Z (oM Z f487 (oM Z fi483 ?_))))))))
             have q:=h499.el (fun _=>rfl) (wAU h495)
             obtain ⟨b543,off544,hA545,hC546⟩:=q
             refine oR Z (ze Z Z hA545 Z zD zR (wAu h495)) (oL Z (hS542.ldCA (f:=0) hC546 Z Z ZY zR (us:=[jV x494.Bib,jV x494.Time,jV x494.Gate]) Z Z) ?_)
             let B19:List Value:=[jV x494.Bib,jV x494.Time,jV x494.Gate]
             refine zY (pv:=[(0,.agg B19.toArray)]) (zs:=B16) (cs:=B19) Z Z Z Z Z (wAH Z wAV) zD zR zz Z Z Z Z Z hS542 ?_
             intro W547 b548 hS549
             let B20:Res:=.row (some ⟨b548,0,none⟩) 1 132 3 (nA wAB [x494])
             have hS551:sW w U U484 [B20,B17,B18] W547:=hS549
             refine bnK hm537 fun x552 h553 hm554=>zp (j:=2) (enc:=wAB) (xs:=x535) (ys:=[x494]) (zs:=x552) rfl rfl rfl rfl rfl ZG wCi rfl rfl rfl rfl rfl rfl hS551 rfl rfl rfl (hS551.srcR (j:=0) rfl (by decide) (wAF (f:=wAB) (sz:=3) (fun _=>rfl) [x494])) (fun _=>rfl) (fun _=>rfl) h553 rfl ?_
             intro A555 c556 W557 hS558
             have hS559:sW w U U484 [B20,B17,.row A555 c556 132 3 (nA wAB x552)] W557:=hS558
             refine oA Z Z (zi (zX (zE (rR fL3 Z (oM Z fi483 (oR Z (zl (zU Z Z Z) (congrArg (jV) hi493.out)) (oA Z Z (zi ?_))))))))
             cases hm554
             exact zE ⟨rfl,⟨U484,A555,c556,rfl,f487,f488,f489,rfl,rfl,le485,(hS559.pick [2] _ (by decide) rfl)⟩⟩
           ·intro c504 hm564
            refine oF Z c504 (oF Z c504 (oR Z (ZB Z (ZN c504.out) Z) (eN (zg Z (kN (rR (wGa (.fx 5 (.fx 6 (.fl 7 (.nil)) .stop) .stop)) Z (oM Z f490 (oM Z f487 (oM Z fi483 ?_)))))))))
            have q:=h499.el (fun _=>rfl) (wAU h495)
            obtain ⟨b565,off566,hA567,hC568⟩:=q
            refine oR Z (ze Z Z hA567 Z zD zR (wAu h495)) (oL Z (hS486.ldCA (f:=0) hC568 Z Z ZY zR (us:=[jV x494.Bib,jV x494.Time,jV x494.Gate]) Z Z) ?_)
            let B21:List Value:=[jV x494.Bib,jV x494.Time,jV x494.Gate]
            refine zY (pv:=[(0,.agg B21.toArray)]) (zs:=[jV 0,jV 0,jV 0]) (cs:=B21) Z Z Z Z Z (wAH Z wAV) zD zR zz Z Z Z Z Z hS486 ?_
            intro W569 b570 hS571
            let B22:Res:=.row (some ⟨b570,0,none⟩) 1 132 3 (nA wAB [x494])
            have hS573:sW w U U484 [B22,.row A464 c465 132 3 (nA wAB l463)] W569:=hS571
            refine bnK hm564 fun x574 h575 hm576=>zp (j:=1) (enc:=wAB) (xs:=l463) (ys:=[x494]) (zs:=x574) rfl rfl rfl rfl rfl ZG wCi rfl rfl rfl rfl rfl rfl hS573 rfl rfl rfl (hS573.srcR (j:=0) rfl (by decide) (wAF (f:=wAB) (sz:=3) (fun _=>rfl) [x494])) (fun _=>rfl) (fun _=>rfl) h575 rfl ?_
            intro A577 c578 W579 hS580
            have hS581:sW w U U484 [B22,.row A577 c578 132 3 (nA wAB x574)] W579:=hS580
            refine oA Z Z (zi (zX (zE (rR fL3 Z (oM Z fi483 (oR Z (zl (zU Z Z Z) (congrArg (jV) hi493.out)) (oA Z Z (zi ?_))))))))
            cases hm576
            exact zE ⟨rfl,⟨U484,A577,c578,rfl,f487,f488,f489,rfl,f491,le485,(hS581.pick [1] _ (by decide) rfl)⟩⟩
          ·rintro σ586 W587 ⟨U596,A594,c595,fi589,f599,f600,f601,f602,f603,le597,hS598⟩
           have c604:Hid (¬ ((↑(((↑p0.length:Int):Int) - 0).toNat:Int) < (↑p0.length:Int))):=zC (wAv)
           refine zA (sR fL4 Z (oM Z fi589 (oM Z f599 (oR Z (zV Z Z zD) (oR Z (zN Z Z Z) (eN (cF Z c604 (zt (zQ (zQ (zn (zE (zA (sR fL2 Z (oM Z f603 (oR Z (ZO Z Z) (eN (ifc hm469 ?_ ?_))))))))))))))))))
           ·intro c605 hm606
            refine zg (nC c605.out) (kN (sR fL3 Z (oM Z f602 (oA Z Z (oA Z Z (eN (zK ?_)))))))
            cases hm606
            exact ⟨Z,_,(wDf Z Z),U596,_,hS598,A594,c595,Z,Z⟩
           ·intro c605 hm607
            refine zj (nF (c605.out)) (rR (wGZ (.fx 4 (.fx 5 (.fl 6 (.nil)) .stop) .stop)) Z (oM Z f602 (oM Z f600 (oM Z f601 ?_))))
            let B23:List Value:=[jV p1,jV x354,jV 0]
            let B24:List Value:=[jV 0,jV 0,jV 0]
            refine oR Z (ZP (pv:=[(0,jV p1),(1,jV x354),(2,jV 0)]) (z:=B24) (cs:=B23) Z (wAH Z (wAH Z (wAH Z wAV))) zz wEx Z Z) (zY (pv:=[(0,.agg B23.toArray)]) (zs:=B24) (cs:=B23) Z Z Z Z Z (wAH Z wAV) zD zR zz Z Z Z Z Z hS598 ?_)
            intro W608 b609 hS610
            let B25:Res:=.row (some ⟨b609,0,none⟩) 1 132 3 (nA wAB [(⟨p1,x354,0⟩:wAD)])
            have hS612:sW w U U596 [B25,.row A594 c595 132 3 (nA wAB y473)] W608:=hS610
            refine bnK hm607 fun x613 h614 hm615=>zp (j:=1) (enc:=wAB) (xs:=y473) (ys:=[(⟨p1,x354,0⟩:wAD)]) (zs:=x613) rfl rfl rfl rfl rfl ZG wCi rfl rfl rfl rfl rfl rfl hS612 rfl rfl rfl (hS612.srcR (j:=0) rfl (by decide) (wAF (f:=wAB) (sz:=3) (fun _=>rfl) [(⟨p1,x354,0⟩:wAD)])) (fun _=>rfl) (fun _=>rfl) h614 rfl ?_
            intro A616 c617 W618 hS619
            have hS620:sW w U U596 [B25,.row A616 c617 132 3 (nA wAB x613)] W618:=hS619
            refine oA Z Z (eN (sR fL3 Z (oM Z Z (oA Z Z (oA Z Z (eN (zK ?_)))))))
            cases hm615
            exact ⟨rfl,_,(wDf rfl rfl),U596,_,(hS620.pick [1] _ (by decide) rfl),A616,c617,rfl,rfl⟩
 ·intro c11 hm621
  refine cT Z c11 (sR fL3 Z (oM Z Z (oA Z Z (oA Z Z (eN (zK (zG ?_)))))))
  have hS622:=hS10.nilrow 132 3
  cases hm621
  exact ⟨Z,_,(wDf Z Z),U4,_,hS622,none,0,Z,Z⟩
end Go.Proofs.YtghaibkggdecnaaGreat
