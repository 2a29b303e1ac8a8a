import Derived.Test.YtbpllbhagaoocaaGreatZ7
set_option linter.all false
open List renaming flatMap->nA,getElem_cons_succ->nH,getElem_cons_zero->nI,getElem_toArray->nJ,length_set->nL,set->nN,length_cons->nO,length_nil->nP
open Option.some renaming inj->nD
open Go.Value renaming bool->nE
open Bool renaming eq_false_iff->nG
open Int renaming toNat_natCast->nK
open Prod.mk renaming injEq->nM
open Nat renaming blt->nQ,le_of_ble_eq_true->nR
open Eq renaming trans->nS
open Option renaming map->nT
namespace Go.Proofs.YtbpllbhagaoocaaGreat
open Go.KL
set_option maxHeartbeats 4000000
theorem Z {α:Type} {a:α}:a=a:=rfl
section
variable {r:Option Nat} {N:Nat} {P:Program} {l:List Oper} {Q:wCa} {D:List Deferred} {ks:List Nat} {σ:Env} {w:World} {i d j e:Nat} {s:Sch} {o:Oper} {b:Bool} {x:Operand} {v:Value} {p:Prop} {inst:Decidable p} {K:List Deferred->Env->World->Prop} {c1 c2:Code}
abbrev jV (n:Int):Value:=.int .i64 n
abbrev SW (w:World) (X:List Res) (U U':PHeap) (L:List Res) (w':World):Prop:=St ⟨w,X,U⟩ U' L w'
abbrev sW (w:World) (U U':PHeap) (L:List Res) (w':World):Prop:=St ⟨w,[],U⟩ U' L w'
abbrev St0 (w:World) (U:PHeap) (L:List Res):Prop:=St ⟨w,L,U⟩ U L w
theorem ifc {α:Type} {G p:Prop} {inst:Decidable p} {a b r:α} (h:@ite α p inst a b=r) (h1:Hid p->a=r->G) (h2:Hid (¬ p)->b=r->G):G:=by
 by_cases c:p
 · rw [if_pos c] at h;exact h1 ⟨c⟩ h
 · rw [if_neg c] at h;exact h2 ⟨c⟩ h
theorem bnK {α β:Type} {G:Prop} {o:Option α} {f:α->Option β} {r:β} (h:o.bind f=some r) (k:∀ x,o=some x->f x=some r->G):G:=by
 obtain ⟨x,h1,h2⟩:=bnd h
 exact k x h1 h2
theorem oR (h:(l[i]?,o.dst,nQ d N,wanted l σ o)=(some o,some d,true,true)) (hr:∀ {w'},Runs P σ w' o v w') (k:OKS N P l Q D ks s (upd σ d v) w):OKS N P l Q D ks (.fl i s) σ w:=by
 simp only [nM] at h;exact OKS.r h.1 h.2.1 h.2.2.1 h.2.2.2 (fun _=>hr) k
theorem oL (h:(l[i]?,o.dst,nQ d N,wanted l σ o,wPB (kOf ks i))=(some o,some d,true,true,false)) (hr:wEz P σ w o v) (k:OKS N P l Q D ks s (upd σ d v) w):OKS N P l Q D ks (.fl i s) σ w:=by
 simp only [nM] at h;exact OKS.m h.1 h.2.1 h.2.2.1 h.2.2.2.1 hr h.2.2.2.2 k
theorem oM (h:(l[i]?,o.dst,nQ d N,wanted l σ o,o.op)=(some o,some d,true,true,.move x)) (hx:ev σ x=v) (k:OKS N P l Q D ks s (upd σ d v) w):OKS N P l Q D ks (.fl i s) σ w:=by
 simp only [nM] at h;exact OKS.rm h.1 h.2.1 h.2.2.1 h.2.2.2.1 h.2.2.2.2 hx k
theorem oA (h:(l[i]?,o.dst,nQ d N,wanted l σ o,o.op)=(some o,some d,true,true,.assign x)) (hx:ev σ x=v) (k:OKS N P l Q D ks s (upd σ d v) w):OKS N P l Q D ks (.fl i s) σ w:=by
 simp only [nM] at h;exact OKS.ra h.1 h.2.1 h.2.2.1 h.2.2.2.1 h.2.2.2.2 hx k
theorem oF (h:(l[i]?,o.dst,nQ d N,o.guard,(l[j]?).bind (·.dst),σ e,false == b)=(some o,some d,true,some (j,b),some e,.bool (decide p),false)) (c:Hid (¬ p)) (k:OKS N P l Q D ks s (upd σ d undef) w):OKS N P l Q D ks (.fl i s) σ w:=by
 simp only [nM] at h;exact OKS.p h.1 h.2.1 h.2.2.1 (wFG h.2.2.2.1 h.2.2.2.2.1 (h.2.2.2.2.2.1.trans (wPA c.out)) h.2.2.2.2.2.2) k
theorem oT (h:(l[i]?,o.dst,nQ d N,o.guard,(l[j]?).bind (·.dst),σ e,true == b)=(some o,some d,true,some (j,b),some e,.bool (decide p),false)) (c:Hid p) (k:OKS N P l Q D ks s (upd σ d undef) w):OKS N P l Q D ks (.fl i s) σ w:=by
 simp only [nM] at h;exact OKS.p h.1 h.2.1 h.2.2.1 (wFG h.2.2.2.1 h.2.2.2.2.1 (h.2.2.2.2.2.1.trans (wED c.out)) h.2.2.2.2.2.2) k
theorem oN {b2:Bool} (h:(l[i]?,o.dst,nQ d N,o.guard,(l[j]?).bind (·.dst),σ e,b2 == b)=(some o,some d,true,some (j,b),some e,.bool b2,false)) (k:OKS N P l Q D ks s (upd σ d undef) w):OKS N P l Q D ks (.fl i s) σ w:=by
 simp only [nM] at h;exact OKS.p h.1 h.2.1 h.2.2.1 (wFG h.2.2.2.1 h.2.2.2.2.1 h.2.2.2.2.2.1 h.2.2.2.2.2.2) k
theorem nC {a b:Bool} (h:a=b):nE (!a)=nE (!b):=h ▸ rfl
theorem nF {a:Bool} (h:¬ a=true):nE (!a)=nE (!false):=nC (nG.2 h)
theorem wT (h:(o.guard,(l[j]?).bind (·.dst),σ e)=(some (j,true),some e,.bool (decide p))) (c:Hid p):wanted l σ o=true:=by
 simp only [nM] at h;exact wGc h.1 h.2.1 (h.2.2.trans (wED c.out))
theorem wF (h:(o.guard,(l[j]?).bind (·.dst),σ e)=(some (j,false),some e,.bool (decide p))) (c:Hid (¬ p)):wanted l σ o=true:=by
 simp only [nM] at h;exact wGc h.1 h.2.1 (h.2.2.trans (wPA c.out))
theorem rU (h:(l[i]?,o.dst,nQ d N)=(some o,some d,true)) (hw:wanted l σ o=true) (hr:∀ {w'},Runs P σ w' o v w') (k:OKS N P l Q D ks s (upd σ d v) w):OKS N P l Q D ks (.fl i s) σ w:=by
 simp only [nM] at h;exact OKS.r h.1 h.2.1 h.2.2 hw (fun _=>hr) k
theorem sR {id:Nat} (s:Sch) (hs:inOrder 0 s l.length=true) (h:OKS N P l (wEA (fun D σ w=>CK r N P c2 Q D σ w) Q) D [] s σ w):CK r N P (.seq (.region id l.toArray false) c2) Q D σ w:=CK.seq (CK.reg s hs h)
theorem rR {id:Nat} (s:Sch) (hs:inOrder 0 s l.length=true) (h:OKS N P l Q D [] s σ w):CK r N P (.region id l.toArray false) Q D σ w:=CK.reg s hs h
theorem eN (h:K D σ w):OKS N P l (wEA K Q) D ks .nil σ w:=OKS.e (wGY h)
theorem cT (hz:ev σ x=.bool (decide p)) (c:Hid p) (h:CK r N P c1 Q D σ w):CK r N P (.cond x c1 c2) Q D σ w:=CK.condT (hz.trans (wED c.out)) h
theorem cF (hz:ev σ x=.bool (decide p)) (c:Hid (¬ p)) (h:CK r N P c2 Q D σ w):CK r N P (.cond x c1 c2) Q D σ w:=CK.condF (hz.trans (wPA c.out)) h
theorem kN (h:K D σ w):CK r N P .skip (wEA K Q) D σ w:=CK.skip (wGY h)
end
def fL1:Sch:=.fl 0 (.nil)
def fL2:Sch:=.fl 0 (.fl 1 (.nil))
def fL3:Sch:=.fl 0 (.fl 1 (.fl 2 (.nil)))
def fL4:Sch:=.fl 0 (.fl 1 (.fl 2 (.fl 3 (.nil))))
def fL5:Sch:=.fl 0 (.fl 1 (.fl 2 (.fl 3 (.fl 4 (.nil)))))
def fL6:Sch:=.fl 0 (.fl 1 (.fl 2 (.fl 3 (.fl 4 (.fl 5 (.nil))))))
def fL7:Sch:=.fl 0 (.fl 1 (.fl 2 (.fl 3 (.fl 4 (.fl 5 (.fl 6 (.nil)))))))
def fL8:Sch:=.fl 0 (.fl 1 (.fl 2 (.fl 3 (.fl 4 (.fl 5 (.fl 6 (.fl 7 (.nil))))))))
def fL9:Sch:=.fl 0 (.fl 1 (.fl 2 (.fl 3 (.fl 4 (.fl 5 (.fl 6 (.fl 7 (.fl 8 (.nil)))))))))
def fL10:Sch:=.fl 0 (.fl 1 (.fl 2 (.fl 3 (.fl 4 (.fl 5 (.fl 6 (.fl 7 (.fl 8 (.fl 9 (.nil))))))))))
def fL11:Sch:=.fl 0 (.fl 1 (.fl 2 (.fl 3 (.fl 4 (.fl 5 (.fl 6 (.fl 7 (.fl 8 (.fl 9 (.fl 10 (.nil)))))))))))
def fL12:Sch:=.fl 0 (.fl 1 (.fl 2 (.fl 3 (.fl 4 (.fl 5 (.fl 6 (.fl 7 (.fl 8 (.fl 9 (.fl 10 (.fl 11 (.nil))))))))))))
def fL18:Sch:=.fl 0 (.fl 1 (.fl 2 (.fl 3 (.fl 4 (.fl 5 (.fl 6 (.fl 7 (.fl 8 (.fl 9 (.fl 10 (.fl 11 (.fl 12 (.fl 13 (.fl 14 (.fl 15 (.fl 16 (.fl 17 (.nil))))))))))))))))))
def fL22:Sch:=.fl 0 (.fl 1 (.fl 2 (.fl 3 (.fl 4 (.fl 5 (.fl 6 (.fl 7 (.fl 8 (.fl 9 (.fl 10 (.fl 11 (.fl 12 (.fl 13 (.fl 14 (.fl 15 (.fl 16 (.fl 17 (.fl 18 (.fl 19 (.fl 20 (.fl 21 (.nil))))))))))))))))))))))
def fL37:Sch:=.fl 0 (.fl 1 (.fl 2 (.fl 3 (.fl 4 (.fl 5 (.fl 6 (.fl 7 (.fl 8 (.fl 9 (.fl 10 (.fl 11 (.fl 12 (.fl 13 (.fl 14 (.fl 15 (.fl 16 (.fl 17 (.fl 18 (.fl 19 (.fl 20 (.fl 21 (.fl 22 (.fl 23 (.fl 24 (.fl 25 (.fl 26 (.fl 27 (.fl 28 (.fl 29 (.fl 30 (.fl 31 (.fl 32 (.fl 33 (.fl 34 (.fl 35 (.fl 36 (.nil)))))))))))))))))))))))))))))))))))))
def fL53:Sch:=.fl 0 (.fl 1 (.fl 2 (.fl 3 (.fl 4 (.fl 5 (.fl 6 (.fl 7 (.fl 8 (.fl 9 (.fl 10 (.fl 11 (.fl 12 (.fl 13 (.fl 14 (.fl 15 (.fl 16 (.fl 17 (.fl 18 (.fl 19 (.fl 20 (.fl 21 (.fl 22 (.fl 23 (.fl 24 (.fl 25 (.fl 26 (.fl 27 (.fl 28 (.fl 29 (.fl 30 (.fl 31 (.fl 32 (.fl 33 (.fl 34 (.fl 35 (.fl 36 (.fl 37 (.fl 38 (.fl 39 (.fl 40 (.fl 41 (.fl 42 (.fl 43 (.fl 44 (.fl 45 (.fl 46 (.fl 47 (.fl 48 (.fl 49 (.fl 50 (.fl 51 (.fl 52 (.nil)))))))))))))))))))))))))))))))))))))))))))))))))))))
def wOo (s:Sch):Sch:=.fl 0 (.fl 1 (.fl 2 (s)))
def wLn (s:Sch):Sch:=.fl 0 (.fl 1 (.fl 2 (.fl 3 (s))))
def wOp (s:Sch):Sch:=.fl 0 (.fl 1 (.fl 2 (.fl 3 (.fl 4 (s)))))
def wOq (s:Sch):Sch:=.fl 0 (.fl 1 (.fl 2 (.fl 3 (.fl 4 (.fl 5 (s))))))
def fC0_6 (s:Sch):Sch:=.fl 0 (.fl 1 (.fl 2 (.fl 3 (.fl 4 (.fl 5 (.fl 6 (s)))))))
def wQD (s:Sch):Sch:=.fl 0 (.fl 1 (.fl 2 (.fl 3 (.fl 4 (.fl 5 (.fl 6 (.fl 7 (s))))))))
def fC0_8 (s:Sch):Sch:=.fl 0 (.fl 1 (.fl 2 (.fl 3 (.fl 4 (.fl 5 (.fl 6 (.fl 7 (.fl 8 (s)))))))))
def wQE (s:Sch):Sch:=.fl 0 (.fl 1 (.fl 2 (.fl 3 (.fl 4 (.fl 5 (.fl 6 (.fl 7 (.fl 8 (.fl 9 (s))))))))))
def wQF (s:Sch):Sch:=.fl 0 (.fl 1 (.fl 2 (.fl 3 (.fl 4 (.fl 5 (.fl 6 (.fl 7 (.fl 8 (.fl 9 (.fl 10 (s)))))))))))
def wQG (s:Sch):Sch:=.fl 0 (.fl 1 (.fl 2 (.fl 3 (.fl 4 (.fl 5 (.fl 6 (.fl 7 (.fl 8 (.fl 9 (.fl 10 (.fl 11 (.fl 12 (s)))))))))))))
def wQH (s:Sch):Sch:=.fl 0 (.fl 1 (.fl 2 (.fl 3 (.fl 4 (.fl 5 (.fl 6 (.fl 7 (.fl 8 (.fl 9 (.fl 10 (.fl 11 (.fl 12 (.fl 13 (.fl 14 (.fl 15 (.fl 16 (.fl 17 (.fl 18 (.fl 19 (.fl 20 (.fl 21 (.fl 22 (.fl 23 (.fl 24 (.fl 25 (.fl 26 (.fl 27 (.fl 28 (.fl 29 (.fl 30 (.fl 31 (s))))))))))))))))))))))))))))))))
def wHl (s:Sch):Sch:=.fl 2 (.fl 3 (.fl 4 (.fl 5 (.fl 6 (s)))))
def fC3_6 (s:Sch):Sch:=.fl 3 (.fl 4 (.fl 5 (.fl 6 (s))))
def wQI (s:Sch):Sch:=.fl 3 (.fl 4 (.fl 5 (.fl 6 (.fl 7 (.fl 8 (.fl 9 (.fl 10 (.fl 11 (.fl 12 (.fl 13 (.fl 14 (.fl 15 (.fl 16 (.fl 17 (s)))))))))))))))
def wQJ (s:Sch):Sch:=.fl 3 (.fl 4 (.fl 5 (.fl 6 (.fl 7 (.fl 8 (.fl 9 (.fl 10 (.fl 11 (.fl 12 (.fl 13 (.fl 14 (.fl 15 (.fl 16 (.fl 17 (.fl 18 (.fl 19 (.fl 20 (.fl 21 (.fl 22 (s))))))))))))))))))))
def fC5_7 (s:Sch):Sch:=.fl 5 (.fl 6 (.fl 7 (s)))
def fC5_8 (s:Sch):Sch:=.fl 5 (.fl 6 (.fl 7 (.fl 8 (s))))
def fC6_9 (s:Sch):Sch:=.fl 6 (.fl 7 (.fl 8 (.fl 9 (s))))
def wQK (s:Sch):Sch:=.fl 7 (.fl 8 (.fl 9 (.fl 10 (.fl 11 (.fl 12 (.fl 13 (.fl 14 (.fl 15 (.fl 16 (.fl 17 (.fl 18 (.fl 19 (s)))))))))))))
def wQL (s:Sch):Sch:=.fl 8 (.fl 9 (.fl 10 (s)))
def wOr (s:Sch):Sch:=.fl 21 (.fl 22 (.fl 23 (.fl 24 (.fl 25 (.fl 26 (s))))))
def wOs (s:Sch):Sch:=.fl 24 (.fl 25 (.fl 26 (s)))
def wOt (s:Sch):Sch:=.fl 33 (.fl 34 (.fl 35 (s)))
theorem zA:type_of% @Tryz.runUnderlying23:=@Tryz.runUnderlying23
theorem zC:type_of% @wGY:=@wGY
theorem zD:type_of% @CK.seq:=@CK.seq
theorem zF:type_of% @Hid.mk:=@Hid.mk
theorem zG:type_of% @Tryz.sizeOf3:=@Tryz.sizeOf3
theorem zH:type_of% @Tryz.runUnderlying24:=@Tryz.runUnderlying24
theorem zI:type_of% @Tryz.sizeOf23:=@Tryz.sizeOf23
theorem zJ:type_of% @Tryz.isAgg23:=@Tryz.isAgg23
theorem zK:type_of% @wJk:=@wJk
theorem zL:type_of% @Tryz.runUnderlying26:=@Tryz.runUnderlying26
theorem zM:type_of% @Tryz.runUnderlying58:=@Tryz.runUnderlying58
theorem zN:type_of% @PHeap.Le.refl:=@PHeap.Le.refl
theorem zO:type_of% @Runs.fa:=@Runs.fa
theorem zP:type_of% @CK.block:=@CK.block
theorem zQ:type_of% @Tryz.isAgg3:=@Tryz.isAgg3
theorem zR:type_of% @wJj:=@wJj
theorem zS:type_of% @Runs.lss:=@Runs.lss
theorem zU:type_of% @OKS.p:=@OKS.p
theorem zV:type_of% @OKS.callH:=@OKS.callH
theorem zW:type_of% @Enters.mk:=@Enters.mk
theorem zX:type_of% @Runs.addw:=@Runs.addw
theorem zY:type_of% @Runs.len:=@Runs.len
theorem zZ:type_of% @wIc:=@wIc
theorem zd:type_of% @wJi:=@wJi
theorem ze:type_of% @CK.ret:=@CK.ret
theorem zf:type_of% @OKS.rm:=@OKS.rm
theorem zg:type_of% @Runs.pickF:=@Runs.pickF
theorem zh:type_of% @wNA:=@wNA
theorem zj:type_of% @OKS.e:=@OKS.e
theorem zk:type_of% @Runs.pickT:=@Runs.pickT
theorem zm:type_of% @Tryz.sizeOf24:=@Tryz.sizeOf24
theorem zn:type_of% @wId:=@wId
theorem zo:type_of% @wFG:=@wFG
theorem zq:type_of% @Runs.iaI:=@Runs.iaI
theorem zr:type_of% @Tryz.isAgg24:=@Tryz.isAgg24
theorem zt:type_of% @OKS.r:=@OKS.r
theorem zu:type_of% @Tryz.runUnderlying78:=@Tryz.runUnderlying78
theorem zw:type_of% @wGc:=@wGc
theorem zx:type_of% @wGZ:=@wGZ
theorem zy:type_of% @CK.condF:=@CK.condF
theorem zz:type_of% @res1:=@res1
theorem ZA:type_of% @OKS.m:=@OKS.m
theorem ZB:type_of% @nR:=@nR
theorem ZC:type_of% @Runs.to:=@Runs.to
theorem ZD:type_of% @Runs.iaN:=@Runs.iaN
theorem ZE:type_of% @Tryz.runUnderlying61:=@Tryz.runUnderlying61
theorem ZF:type_of% @CK.exit:=@CK.exit
theorem ZG:type_of% @Tryz.sizeOf26:=@Tryz.sizeOf26
theorem ZH:type_of% @CK.skip:=@CK.skip
theorem ZI:type_of% @CK.condT:=@CK.condT
theorem ZJ:type_of% @Tryz.mixed:=@Tryz.mixed
theorem ZK:type_of% @CK.anyOrd:=@CK.anyOrd
theorem ZL:type_of% @wPA:=@wPA
theorem ZM:type_of% @Tryz.runUnderlying76:=@Tryz.runUnderlying76
theorem ZN:type_of% @Runs.nilp:=@Runs.nilp
theorem ZO:type_of% @Tryz.sizeOf64:=@Tryz.sizeOf64
theorem ZP:type_of% @Tryz.isAgg26:=@Tryz.isAgg26
theorem ZQ:type_of% @OKS.makeSlice:=@OKS.makeSlice
theorem ZR:type_of% @Tryz.sizeOf58:=@Tryz.sizeOf58
theorem ZS:type_of% @Runs.ext:=@Runs.ext
theorem ZT:type_of% @OKS.box:=@OKS.box
theorem ZU:type_of% @Runs.neq:=@Runs.neq
theorem ZV:type_of% @Runs.notT:=@Runs.notT
theorem ZW:type_of% @OKS.px:=@OKS.px
theorem ZX:type_of% @OKS.alloc:=@OKS.alloc
theorem ZY:type_of% @CK.iter:=@CK.iter
theorem Za:type_of% @Runs.gtr:=@Runs.gtr
theorem Zb:type_of% @Tryz.isAgg73:=@Tryz.isAgg73
theorem Zc:type_of% @Tryz.zeroValue58:=@Tryz.zeroValue58
theorem Zd:type_of% @CK.forN:=@CK.forN
end Go.Proofs.YtbpllbhagaoocaaGreat
namespace Go.Proofs.YtbpllbhagaoocaaGreat
open Go.KL
set_option maxHeartbeats 4000000
theorem wBS (w:World) (U:PHeap) (hS:St0 w U []) {r:Bool} (hm:wBF=some r):Gv Tryz.prog 14 [] w (wCR w [] U (fun U_ L_ v=>v=.bool r/\L_=[])):=by
 cases hm
 refine (xr14 w).mono ?_
 rintro v w' ⟨rfl,k⟩
 exact ⟨U,[],hS.grow k,Z,Z⟩
theorem wBN (p0:List Int) (pA0:Option Addr) (pc0:Nat) (w:World) (U:PHeap) (hS:St0 w U []) (ha0:Sl U 1 pA0 pc0 p0.length (nA KL.encI p0)) {r:(List Int)} (hm:wAa p0=some r):Gv Tryz.prog 24 [.slice pA0 p0.length pc0] w (wCR w [] U (fun U_ L_ v=>∃ (A0:Option Addr) (c0:Nat),v=.slice A0 r.length c0/\L_=[.row A0 c0 3 1 (nA KL.encI r)])):=by
 unfold wAa at hm
 refine Gv.of Tryz.func24 Z Tryz.ntmps24 Tryz.results24 Z (sR fL1 Z (oA Z Z (eN (sR (.fl 0 (.fx 1 (.fl 2 (.nil)) .stop)) Z (oM Z Z ?_)))))
 have hS1:=hS.nilrow 3 1
 have hS3:sW w U U [.row none 0 3 1 (nA KL.encI ([]:List Int))] w:=hS1
 refine bnK hm fun x4 h5 hm6=>OKS.append (j:=0) (enc:=KL.encI) (xs:=([]:List Int)) (ys:=p0) (zs:=x4) Z Z Z Z Z Tryz.underlying23 wFy Z Z Z Z Z Z hS3 Z Z Z (hS3.srcS ha0) (fun _=>Z) (fun _=>Z) h5 Z ?_
 intro A7 c8 W9 hS10
 have hS11:sW w U U [.row A7 c8 3 1 (nA KL.encI x4)] W9:=hS10
 refine oA Z Z (eN (ze ?_))
 have hE:=nD hm6;first | subst r | cases hE
 exact ⟨Z,_,(zz Z),U,_,hS11,A7,c8,Z,Z⟩
theorem wAv (p0:List (List Int)) (pA0:Option Addr) (pc0:Nat) (w:World) (U:PHeap) (hS:St0 w U []) (ha0:SlR U wDc pA0 pc0 p0) {r:(List (List Int))} (hm:wAX p0=some r):Gv Tryz.prog 18 [.slice pA0 p0.length pc0] w (wCR w [] U (fun U_ L_ v=>∃ (A0:Option Addr) (c0:Nat) (cs0:List Value),v=.slice A0 r.length c0/\L_=[.row A0 c0 23 1 cs0]/\RlL U_ wDc r cs0)):=by
 unfold wAX at hm
 refine Gv.of Tryz.func18 Z Tryz.ntmps18 Tryz.results18 Z (sR fL1 Z (oA Z Z (eN (sR fL1 Z (oA Z Z (eN (zD (sR fL3 Z (oM Z Z (oR Z (zY Z Z zH) (oM Z Z (eN (zP (bnK hm fun y27 hf24 hm23=>?_))))))))))))))
 have q:=wCG hf24
 obtain ⟨hle25,hf26⟩:=q
 replace hle25:=zF hle25
 refine CK.forN' (fun k22 l17 σ_ w_=>∃ (U_:PHeap) (A18:Option Addr) (c19:Nat) (cs21:List Value),σ_ 8=jV (↑k22:Int)/\σ_ 3=.slice A18 l17.length c19/\σ_ 6=.slice pA0 p0.length pc0/\σ_ 7=jV (↑p0.length:Int)/\PHeap.Le U U_/\sW w U U_ [.row A18 c19 23 1 cs21] w_/\RlL U_ wDc l17 cs21) hf26 ?_ ?_ ?_
 ·have hS28:=hS.nilrow 23 1
  exact ⟨U,none,0,[],Z,Z,Z,Z,(zN _),hS28,RlL.nil⟩
 ·rintro k22 l17 xx32 σ30 W31 hk35 ⟨U37,A18,c19,cs21,fi36,f40,f41,f42,le38,hS39,h43⟩ hx33
  have c44:Hid ((↑k22:Int) < (↑p0.length:Int)):=zF (wBi hk35)
  replace hk35:=zF hk35
  have hi45:Hid (w64 ((↑k22:Int) + 1)=(↑(k22 + 1):Int)):=zF (by have h1:=hle25.out;have h2:=c44.out;rw [wAe] <;> omega)
  refine sR fL1 Z (oR Z (zS Z fi36 f42) (eN (zD (cT Z c44 (kN (zD (zP (sR fL3 Z (bnK hx33 fun x46 h47 hm48=>?_)))))))))
  have h49:=ha0.le le38
  have q:=h49.el (wAL h47)
  obtain ⟨b50,off51,vs54,hA52,hC53,hr55⟩:=q
  obtain ⟨pA56,pc57,rfl,h58⟩:=hr55
  replace hC53:Cl U37 b50 (off51 + k22 * 1) [.slice pA56 x46.length pc57]:=hC53
  refine oR Z (ZD Z f41 hA52 fi36 zH zI (wBe h47)) (oL Z (hS39.ldC (f:=0) hC53 (v:=.slice pA56 x46.length pc57) Z Z zJ Z) (oA Z Z (eN (rR (.fl 0 (.fl 1 (.fx 2 (.fx 3 (.fx 4 (.fl 5 (.nil)) .stop) .stop) .stop))) Z (oM Z f40 (oM Z Z (bnK hm48 fun x59 h60 hm61=>zV 0 Z Z Z Z (zW Z Z Tryz.call24 (zK Z zh) Z) hS39 (fun hs=>wBN x46 pA56 pc57 W31 U37 hs h58 h60) (.inr Z) ?_)))))))
  rintro U62 L63 v64 W65 le66 hS67 ⟨A68,c69,rfl,rfl⟩
  let B0:Res:=.row A18 c19 23 1 cs21
  have hS71:sW w U U62 [.row A68 c69 3 1 (nA KL.encI x59),B0] W65:=hS67
  have q:=hS71.freezeR (k:=0) (n:=x59.length) rfl (wAF (f:=KL.encI) (sz:=1) (fun _=>rfl) x59) (by decide)
  obtain ⟨U75,le76,hs77,hS78⟩:=q
  have hS79:sW w U U75 [B0] W65:=hS78
  let B1:List Value:=[.slice A68 x59.length c69]
  refine OKS.buildSlice (pv:=[(0,.slice A68 x59.length c69)]) (zs:=[.slice none 0 0]) (cs:=B1) Z Z Z Z Z (wAR Z wBq) zH zI Tryz.zeroValue23 Z Z Z Z Z hS79 ?_
  intro W72 b73 hS74
  have hr81:RlL U75 wDc [x59] B1:=(RlL.cons (R:=wDc) (x:=x59) (vs:=B1) ⟨A68,c69,rfl,hs77⟩ RlL.nil)
  let B2:Res:=.row (some ⟨b73,0,none⟩) 1 23 1 B1
  have hS82:sW w U U75 [B2,B0] W72:=hS74
  refine bnK hm61 fun x83 h84 hm85=>?_
  have h92:=h43.le le66
  have h93:=h92.le le76
  refine OKS.appendR (R:=wDc) (j:=1) (xs:=l17) (ys:=[x59]) (zs:=x83) rfl rfl rfl rfl rfl Tryz.underlying24 wPt rfl rfl rfl rfl rfl rfl rfl hS82 rfl rfl rfl h93 hr81 (hS82.srcR (j:=0) rfl (by decide) (RlL.len hr81)) h84 rfl ?_
  intro A86 c87 cs88 W89 hS90 hr91
  have hS94:sW w U U75 [B2,.row A86 c87 23 1 cs88] W89:=hS90
  refine oA Z Z (zj (zZ (zC (rR fL2 Z (oR Z (ZC (zX Z fi36 Z) (congrArg (jV) hi45.out)) (oM Z Z (zj ?_)))))))
  cases hm85
  exact zC ⟨rfl,⟨U75,A86,c87,cs88,rfl,rfl,f41,f42,((le38.trans le66).trans le76),(hS94.pick [1] _ (by decide) rfl),hr91⟩⟩
 ·rintro σ99 W100 ⟨U110,A107,c108,c109,fi102,f113,f114,f115,le111,hS112,h116⟩
  have c117:Hid (¬ ((↑(((↑p0.length:Int):Int) - 0).toNat:Int) < (↑p0.length:Int))):=zF (wBQ)
  refine sR fL1 Z (oR Z (zS Z fi102 f115) (eN (zD (cF Z c117 (ZF (zd (zd (zx (zC (sR fL2 Z (oM Z f113 (oA Z Z (eN (ze ?_))))))))))))))
  have hE:=nD hm23;first | subst r | cases hE
  exact ⟨Z,_,(zz Z),U110,_,hS112,A107,c108,c109,Z,Z,h116⟩
theorem wCp (p0:wAA) (pA0_1:Option Addr) (pc0_1:Nat) (pA0_2:Option Addr) (pc0_2:Nat) (w:World) (U:PHeap) (hS:St0 w U []) (ha0:Sl U 1 pA0_1 pc0_1 p0.Bibs.length (nA KL.encI p0.Bibs)) (ha1:SlR U wDc pA0_2 pc0_2 p0.Times) {r:wAA} (hm:wAf p0=some r):Gv Tryz.prog 23 [.agg #[jV p0.Laps,.slice pA0_1 p0.Bibs.length pc0_1,.slice pA0_2 p0.Times.length pc0_2]] w (wCR w [] U (fun U_ L_ v=>∃ (A01:Option Addr) (c01:Nat) (A02:Option Addr) (c02:Nat) (cs02:List Value),v=.agg #[jV r.Laps,.slice A01 r.Bibs.length c01,.slice A02 r.Times.length c02]/\L_=[.row A01 c01 3 1 (nA KL.encI r.Bibs),.row A02 c02 23 1 cs02]/\RlL U_ wDc r.Times cs02)):=by
 unfold wAf at hm
 refine Gv.of Tryz.func23 Z Tryz.ntmps23 Tryz.results23 Z (sR (.fx 0 (.fx 1 (.nil) .stop) .stop) Z ?_)
 let B0:List Value:=[jV p0.Laps,.slice pA0_1 p0.Bibs.length pc0_1,.slice pA0_2 p0.Times.length pc0_2]
 refine ZT (cs:=B0) rfl rfl rfl rfl rfl rfl (by rfl) hS ?_
 intro W1 b2 hS3
 let B1:List Value:=[jV 0,.slice none 0 0,.slice none 0 0]
 refine ZX (cs:=B1) Z Z Z Z Z Tryz.zeroValue26 Z hS3 ?_
 intro W5 b6 hS7
 refine eN (zD (ZK ZJ [3,1,3,1,2,3,1,2,3,0] (wLn (.fl 5 (.fl 6 (.fx 4 (.fx 7 (.fl 8 (.fx 9 (.nil) .stop)) .stop) .stop)))) (by kernel_rfl) ?_))
 have hS9:=hS7.drew
 generalize hw_W10:({ W5 with drawn:=W5.drawn + 1 }:World)=W10 at hS9 ⊢
 refine oR Z (zO Z Z zL Z zG) (oL Z (hS9.ldB (j:=1) Z Z Z zQ (v:=jV p0.Laps) Z) (oR Z (zO Z Z zL Z zI) (oL Z (hS9.ldB (j:=1) Z Z Z zJ (v:=.slice pA0_1 p0.Bibs.length pc0_1) Z) (oR Z (zO Z Z zL Z zm) (oL Z (hS9.ldB (j:=1) Z Z Z zr (v:=.slice pA0_2 p0.Times.length pc0_2) Z) (bnK hm fun x11 h12 hm13=>zV 0 Z Z Z Z (zW Z Z Tryz.call24 (zK Z zh) Z) hS9 (fun hs=>wBN p0.Bibs pA0_1 pc0_1 W10 U hs ha0 h12) (.inr Z) ?_))))))
 rintro U14 L15 v16 W17 le18 hS19 ⟨A20,c21,rfl,rfl⟩
 let B2:Res:=.row A20 c21 3 1 (nA KL.encI x11)
 have hS23:sW w U U14 [B2,.blk b6 26 B1,.blk b2 26 B0] W17:=hS19
 have h24:=ha1.le le18
 refine bnK hm13 fun x25 h26 hm27=>zV 0 Z Z Z Z (zW Z Z Tryz.call18 (zK Z zh) Z) hS23 (fun hs=>wAv p0.Times pA0_2 pc0_2 W17 U14 hs h24 h26) (.inr Z) ?_
 rintro U28 L29 v30 W31 le32 hS33 ⟨A34,c35,c36,rfl,rfl,h38⟩
 have hS39:sW w U U28 [.row A34 c35 23 1 c36,B2,.blk b6 26 B1,.blk b2 26 B0] W31:=hS33
 let B3:List Value:=[jV p0.Laps,.slice A20 x11.length c21,.slice A34 x25.length c35]
 refine oR Z (Runs.build (pv:=[(0,jV p0.Laps),(1,.slice A20 x11.length c21),(2,.slice A34 x25.length c35)]) (z:=B1) (cs:=B3) Z (wAR Z (wAR Z (wAR Z wBq))) Tryz.zeroValue26 wMU Z Z) (OKS.st (j:=2) (vs:=B3) Z Z Z Z hS39 Z Z Z Z ZG (ZB Z) Z Z Z ?_)
 intro W40 hS41
 have hS42:sW w U U28 [.row A34 c35 23 1 c36,B2,.blk b6 26 B3,.blk b2 26 B0] W40:=hS41
 refine eN (ze ?_)
 cases hm27
 exact ⟨rfl,_,(wPE (v:=.agg B3.toArray) ⟨⟨_,rfl,(wPF ZP ZG (hS42.blkAt (k:=2) rfl) (vs:=B3) rfl rfl)⟩,trivial⟩),U28,_,(hS42.pick [1,0] _ (by decide) rfl),A20,c21,A34,c35,c36,rfl,rfl,h38⟩
theorem wEa (p0:Int) (p1:Int) (p2:Int) (w:World) (U:PHeap) (hS:St0 w U [])  {r:Bool} (hm:wBz p0 p1 p2=some r):Gv Tryz.prog 59 [jV p0,jV p1,jV p2] w (wCR w [] U (fun U_ L_ v=>v=.bool r/\L_=[])):=by
 unfold wBz at hm
 refine Gv.of Tryz.func59 Z Tryz.ntmps59 Tryz.results59 Z (sR fL1 Z (oA Z Z (eN (sR fL9 Z (oM Z Z (oM Z Z (oR Z (Runs.geq Z Z Z) (oM Z Z ?_))))))))
 by_cases c1:p1 <= p0
 ·have hm2:=hm;rw [if_pos c1] at hm2;replace c1:=zF c1
  refine zf Z Z Z (wT Z c1) Z Z (zf Z Z Z (wT Z c1) Z Z (rU Z (wT Z c1) (Runs.leq Z Z Z) (oR Z (zk Z (wED c1.out) Z) (oA Z Z (eN (ze ?_))))))
  cases hm2
  exact ⟨Z,_,(zz Z),U,_,hS,Z,Z⟩
 ·have hm3:=hm;rw [if_neg c1] at hm3;replace c1:=zF c1
  refine oF Z c1 (oF Z c1 (oF Z c1 (oR Z (zg Z (ZL c1.out) Z) (oA Z Z (eN (ze ?_))))))
  have hE:=nD hm3;first | subst r | cases hE
  exact ⟨Z,_,(zz Z),U,_,hS,Z,Z⟩
theorem wDw (p0:List Int) (pA0:Option Addr) (pc0:Nat) (p1:wAA) (pb1:Nat) (pA1_1:Option Addr) (pc1_1:Nat) (pA1_2:Option Addr) (pc1_2:Nat) (w:World) (U:PHeap) (hS:St0 w U []) (ha0:Sl U 1 pA0 pc0 p0.length (nA KL.encI p0)) (ha1:Cl U pb1 0 [jV p1.Laps,.slice pA1_1 p1.Bibs.length pc1_1,.slice pA1_2 p1.Times.length pc1_2]) (ha2:Sl U 1 pA1_1 pc1_1 p1.Bibs.length (nA KL.encI p1.Bibs)) (ha3:SlR U wDc pA1_2 pc1_2 p1.Times) {r:Bool} (hm:wAr p0 p1=some r):Gv Tryz.prog 61 [.slice pA0 p0.length pc0,.pointer (some ⟨pb1,0,none⟩)] w (wCR w [] U (fun U_ L_ v=>v=.bool r/\L_=[])):=by
 unfold wAr at hm
 refine Gv.of Tryz.func61 Z Tryz.ntmps61 Tryz.results61 Z (sR fL1 Z (oA Z Z (eN (sR fL6 Z (oM Z Z (oR Z (zY Z Z zA) (oR Z (zO Z Z zL Z zG) (oL Z (hS.ldC (f:=0) ha1 (v:=jV p1.Laps) Z Z zQ Z) (oR Z (Runs.leq Z Z Z) (oA Z Z (eN (ze ?_))))))))))))
 cases hm
 exact ⟨Z,_,(zz Z),U,_,hS,Z,Z⟩
theorem wDO (p0:List (List Int)) (pA0:Option Addr) (pc0:Nat) (p1:((List Int)->Option Bool)) (pv1:Value) (w:World) (U:PHeap) (hS:St0 w U []) (ha0:SlR U wDc pA0 pc0 p0) (ha1:FnOK Tryz.prog U pv1 wOZ wOa p1) {r:Bool} (hm:wBT p0 p1=some r):Gv Tryz.prog 60 [.slice pA0 p0.length pc0,pv1] w (wCR w [] U (fun U_ L_ v=>v=.bool r/\L_=[])):=by
 unfold wBT at hm
 refine Gv.of Tryz.func60 Z Tryz.ntmps60 Tryz.results60 Z (sR fL1 Z (oA Z Z (eN (zD (sR fL3 Z (oM Z Z (oR Z (zY Z Z zH) (oM Z Z (eN (zP ?_))))))))))
 have q:=wBx hm
 obtain ⟨r3,hX4⟩:=q
 have q:=wBw hX4
 obtain ⟨hle5,hf6⟩:=q
 replace hle5:=zF hle5
 refine Zd (fun k2 _ σ_ w_=>∃ (U_:PHeap),σ_ 9=jV (↑k2:Int)/\σ_ 1=pv1/\σ_ 7=.slice pA0 p0.length pc0/\σ_ 8=jV (↑p0.length:Int)/\PHeap.Le U U_/\sW w U U_ [] w_) hf6 ?_ ?_ ?_
 ·exact ⟨U,Z,Z,Z,Z,(zN _),hS⟩
 ·rintro k2 ⟨⟩ xx9 σ7 W8 hk12 ⟨U14,fi13,f17,f18,f19,le15,hS16⟩ hx10 hb11
  try dsimp only at hx10
  have c20:Hid ((↑k2:Int) < (↑p0.length:Int)):=zF (wBi hk12)
  replace hk12:=zF hk12
  have hi21:Hid (w64 ((↑k2:Int) + 1)=(↑(k2 + 1):Int)):=zF (by have h1:=hle5.out;have h2:=c20.out;rw [wAe] <;> omega)
  refine sR fL1 Z (oR Z (zS Z fi13 f19) (eN (zD (cT Z c20 (kN (zD (zP (sR fL3 Z (bnK hx10 fun x22 h23 hm24=>?_)))))))))
  have h25:=ha0.le le15
  have q:=h25.el (wAL h23)
  obtain ⟨b26,off27,vs30,hA28,hC29,hr31⟩:=q
  obtain ⟨pA32,pc33,rfl,h34⟩:=hr31
  replace hC29:Cl U14 b26 (off27 + k2 * 1) [.slice pA32 x22.length pc33]:=hC29
  refine oR Z (ZD Z f18 hA28 fi13 zH zI (wBe h23)) (oL Z (hS16.ldC (f:=0) hC29 (v:=.slice pA32 x22.length pc33) Z Z zJ Z) (oA Z Z (eN (sR (.fl 0 (.fl 1 (.fx 2 (.fl 3 (.nil)) .stop))) Z (oM Z f17 (oM Z Z (bnK hm24 fun x35 h36 hm37=>?_)))))))
  have h44:=ha1.le le15
  refine OKS.callV (a:=x22) Z Z Z Z Z Z (zK Z zh) hS16 h44 ⟨pA32,pc33,Z,h34⟩ h36 ?_
  rintro U38 L39 v40 W41 le42 hS43 ⟨rfl,rfl⟩
  have hS45:sW w U U38 [] W41:=hS43
  refine oR Z (ZV Z Z) (eN (ifc hm37 ?_ ?_))
  ·intro c46 hm47
   refine zy (nC c46.out) (ZH (zZ (zC (rR fL2 Z (oR Z (ZC (zX Z fi13 Z) (congrArg (jV) hi21.out)) (oM Z Z (zj ?_)))))))
   obtain rfl:=nD hm47
   exact zC ⟨Z,_,Z,⟨U38,Z,f17,f18,f19,(le15.trans le42),hS45⟩⟩
  ·intro c46 hm48
   refine ZI (nF (c46.out)) (sR fL1 Z (oA Z Z (eN (ze (zn (zR ?_))))))
   have q:=wAQ hm48
   obtain ⟨v49,hm50,e51⟩:=q
   obtain rfl:=wCn hm hX4 (hb11 v49 e51)
   refine zR (zn (zR ?_))
   have hE:=nD hm50;first | subst r | cases hE
   exact ⟨Z,_,(zz Z),U38,_,hS45,Z,Z⟩
 ·rintro ⟨⟩ σ52 W53 ⟨U56,fi55,f59,f60,f61,le57,hS58⟩ hb54
  have hm62:=wCm hm hX4 hb54
  try dsimp only at hm62
  have c63:Hid (¬ ((↑(((↑p0.length:Int):Int) - 0).toNat:Int) < (↑p0.length:Int))):=zF (wBQ)
  refine sR fL1 Z (oR Z (zS Z fi55 f61) (eN (zD (cF Z c63 (ZF (zd (zd (zx (zC (sR fL1 Z (oA Z Z (eN (ze ?_)))))))))))))
  have hE:=nD hm62;first | subst r | cases hE
  exact ⟨Z,_,(zz Z),U56,_,hS58,Z,Z⟩
theorem wCf (p0:List Int) (pA0:Option Addr) (pc0:Nat) (p1:(Int->Option Bool)) (pv1:Value) (w:World) (U:PHeap) (hS:St0 w U []) (ha0:Sl U 1 pA0 pc0 p0.length (nA KL.encI p0)) (ha1:FnOK Tryz.prog U pv1 wLS wOb p1) {r:Bool} (hm:wAx p0 p1=some r):Gv Tryz.prog 62 [.slice pA0 p0.length pc0,pv1] w (wCR w [] U (fun U_ L_ v=>v=.bool r/\L_=[])):=by
 unfold wAx at hm
 refine Gv.of Tryz.func62 Z Tryz.ntmps62 Tryz.results62 Z (sR fL1 Z (oA Z Z (eN (zD (sR fL3 Z (oM Z Z (oR Z (zY Z Z zA) (oM Z Z (eN (zP ?_))))))))))
 have q:=wBx hm
 obtain ⟨r3,hX4⟩:=q
 have q:=wBw hX4
 obtain ⟨hle5,hf6⟩:=q
 replace hle5:=zF hle5
 refine Zd (fun k2 _ σ_ w_=>∃ (U_:PHeap),σ_ 9=jV (↑k2:Int)/\σ_ 1=pv1/\σ_ 7=.slice pA0 p0.length pc0/\σ_ 8=jV (↑p0.length:Int)/\PHeap.Le U U_/\sW w U U_ [] w_) hf6 ?_ ?_ ?_
 ·exact ⟨U,Z,Z,Z,Z,(zN _),hS⟩
 ·rintro k2 ⟨⟩ xx9 σ7 W8 hk12 ⟨U14,fi13,f17,f18,f19,le15,hS16⟩ hx10 hb11
  try dsimp only at hx10
  have c20:Hid ((↑k2:Int) < (↑p0.length:Int)):=zF (wBi hk12)
  replace hk12:=zF hk12
  have hi21:Hid (w64 ((↑k2:Int) + 1)=(↑(k2 + 1):Int)):=zF (by have h1:=hle5.out;have h2:=c20.out;rw [wAe] <;> omega)
  refine sR fL1 Z (oR Z (zS Z fi13 f19) (eN (zD (cT Z c20 (kN (zD (zP (sR fL3 Z (bnK hx10 fun x22 h23 hm24=>?_)))))))))
  have h25:=ha0.le le15
  have q:=h25.el (fun _=>rfl) (wAL h23)
  obtain ⟨b26,off27,hA28,hC29⟩:=q
  refine oR Z (ZD Z f18 hA28 fi13 zA zG (wBe h23)) (oL Z (hS16.ldC (f:=0) hC29 (v:=jV x22) Z Z zQ Z) (oA Z Z (eN (sR (.fl 0 (.fl 1 (.fx 2 (.fl 3 (.nil)) .stop))) Z (oM Z f17 (oM Z Z (bnK hm24 fun x30 h31 hm32=>?_)))))))
  have h39:=ha1.le le15
  refine OKS.callV (a:=x22) Z Z Z Z Z Z (zK Z zh) hS16 h39 Z h31 ?_
  rintro U33 L34 v35 W36 le37 hS38 ⟨rfl,rfl⟩
  have hS40:sW w U U33 [] W36:=hS38
  refine oR Z (ZV Z Z) (eN (ifc hm32 ?_ ?_))
  ·intro c41 hm42
   refine zy (nC c41.out) (ZH (zZ (zC (rR fL2 Z (oR Z (ZC (zX Z fi13 Z) (congrArg (jV) hi21.out)) (oM Z Z (zj ?_)))))))
   obtain rfl:=nD hm42
   exact zC ⟨Z,_,Z,⟨U33,Z,f17,f18,f19,(le15.trans le37),hS40⟩⟩
  ·intro c41 hm43
   refine ZI (nF (c41.out)) (sR fL1 Z (oA Z Z (eN (ze (zn (zR ?_))))))
   have q:=wAQ hm43
   obtain ⟨v44,hm45,e46⟩:=q
   obtain rfl:=wCn hm hX4 (hb11 v44 e46)
   refine zR (zn (zR ?_))
   have hE:=nD hm45;first | subst r | cases hE
   exact ⟨Z,_,(zz Z),U33,_,hS40,Z,Z⟩
 ·rintro ⟨⟩ σ47 W48 ⟨U51,fi50,f54,f55,f56,le52,hS53⟩ hb49
  have hm57:=wCm hm hX4 hb49
  try dsimp only at hm57
  have c58:Hid (¬ ((↑(((↑p0.length:Int):Int) - 0).toNat:Int) < (↑p0.length:Int))):=zF (wBQ)
  refine sR fL1 Z (oR Z (zS Z fi50 f56) (eN (zD (cF Z c58 (ZF (zd (zd (zx (zC (sR fL1 Z (oA Z Z (eN (ze ?_)))))))))))))
  have hE:=nD hm57;first | subst r | cases hE
  exact ⟨Z,_,(zz Z),U51,_,hS53,Z,Z⟩
theorem wDx (p0:Int) (w:World) (U:PHeap) (hS:St0 w U [])  {r:Bool} (hm:wAs p0=some r):Gv Tryz.prog 63 [jV p0] w (wCR w [] U (fun U_ L_ v=>v=.bool r/\L_=[])):=by
 unfold wAs at hm
 refine Gv.of Tryz.func63 Z Tryz.ntmps63 Tryz.results63 Z (sR fL1 Z (oA Z Z (eN (sR (.fl 0 (.fx 1 (.fl 2 (.nil)) .stop)) Z (oM Z Z (bnK hm fun x1 h2 hm3=>zV 0 Z Z Z Z (zW Z Z Tryz.call59 (zK Z (zK Z (zK Z zh))) Z) hS (fun hs=>wEa p0 1 999 w U hs h2) (.inr Z) ?_))))))
 rintro U4 L5 v6 W7 le8 hS9 ⟨rfl,rfl⟩
 have hS10:sW w U U4 [] W7:=hS9
 refine oA Z Z (eN (ze ?_))
 have hE:=nD hm3;first | subst r | cases hE
 exact ⟨Z,_,(zz Z),U4,_,hS10,Z,Z⟩
theorem wDP (p0:Int) (w:World) (U:PHeap) (hS:St0 w U [])  {r:Bool} (hm:wAn p0=some r):Gv Tryz.prog 65 [jV p0] w (wCR w [] U (fun U_ L_ v=>v=.bool r/\L_=[])):=by
 unfold wAn at hm
 refine Gv.of Tryz.func65 Z Tryz.ntmps65 Tryz.results65 Z (sR fL1 Z (oA Z Z (eN (sR (.fl 0 (.fx 1 (.fl 2 (.nil)) .stop)) Z (oM Z Z (bnK hm fun x1 h2 hm3=>zV 0 Z Z Z Z (zW Z Z Tryz.call59 (zK Z (zK Z (zK Z zh))) Z) hS (fun hs=>wEa p0 0 360000 w U hs h2) (.inr Z) ?_))))))
 rintro U4 L5 v6 W7 le8 hS9 ⟨rfl,rfl⟩
 have hS10:sW w U U4 [] W7:=hS9
 refine oA Z Z (eN (ze ?_))
 have hE:=nD hm3;first | subst r | cases hE
 exact ⟨Z,_,(zz Z),U4,_,hS10,Z,Z⟩
theorem wDy (p0:List Int) (pA0:Option Addr) (pc0:Nat) (w:World) (U:PHeap) (hS:St0 w U []) (ha0:Sl U 1 pA0 pc0 p0.length (nA KL.encI p0)) {r:Bool} (hm:wAt p0=some r):Gv Tryz.prog 64 [.slice pA0 p0.length pc0] w (wCR w [] U (fun U_ L_ v=>v=.bool r/\L_=[])):=by
 unfold wAt at hm
 refine Gv.of Tryz.func64 Z Tryz.ntmps64 Tryz.results64 Z (sR fL1 Z (oA Z Z (eN (sR (.fl 0 (.fx 1 (.fl 2 (.nil)) .stop)) Z (oM Z Z ?_)))))
 have hF1:FnOK Tryz.prog U (.func (.func 65) #[] #[]) wLS wOb wAn:=⟨65,[],[],rfl,Tryz.call65,fun U1 w1 x y vs le hs ha hm=>by obtain rfl:=ha;exact wDP x w1 U1 hs  hm⟩
 refine bnK hm fun x2 h3 hm4=>zV 0 Z Z Z Z (zW Z Z Tryz.call62 (zK Z (zK Z zh)) Z) hS (fun hs=>wCf p0 pA0 pc0 wAn (.func (.func 65) #[] #[]) w U hs ha0 hF1 h3) (.inr Z) ?_
 rintro U5 L6 v7 W8 le9 hS10 ⟨rfl,rfl⟩
 have hS11:sW w U U5 [] W8:=hS10
 refine oA Z Z (eN (ze ?_))
 have hE:=nD hm4;first | subst r | cases hE
 exact ⟨Z,_,(zz Z),U5,_,hS11,Z,Z⟩
theorem wGt (p0:List Int) (pA0:Option Addr) (pc0:Nat) (w:World) (U:PHeap) (hS:St0 w U []) (ha0:Sl U 1 pA0 pc0 p0.length (nA KL.encI p0)) {r:Bool} (hm:wBs p0=some r):Gv Tryz.prog 66 [.slice pA0 p0.length pc0] w (wCR w [] U (fun U_ L_ v=>v=.bool r/\L_=[])):=by
 unfold wBs at hm
 refine Gv.of Tryz.func66 Z Tryz.ntmps66 Tryz.results66 Z (sR fL1 Z (oA Z Z (eN (sR (.fx 0 (.fl 1 (.nil)) .stop) Z (OKS.makeMap Z Z Z Z Z hS ?_)))))
 intro W1 b2 hS3
 have hr4:=MpR.nil wLT wMT
 refine oA Z Z (eN (zD (sR fL3 Z (oM Z Z (oR Z (zY Z Z zA) (oM Z Z (eN (zP ?_))))))))
 have q:=wBx hm
 obtain ⟨r21,hX22⟩:=q
 have q:=wBw hX22
 obtain ⟨hle23,hf24⟩:=q
 replace hle23:=zF hle23
 refine Zd (fun k20 l17 σ_ w_=>∃ (U_:PHeap) (es18:Array MapEntry) (ck19:Nat),σ_ 9=jV (↑k20:Int)/\σ_ 3=.map (some b2)/\σ_ 7=.slice pA0 p0.length pc0/\σ_ 8=jV (↑p0.length:Int)/\PHeap.Le U U_/\sW w U U_ [.obj b2 (.map es18 ck19)] w_/\MpR es18 wLT wMT l17) hf24 ?_ ?_ ?_
 ·exact ⟨U,#[],0,Z,Z,Z,Z,(zN _),hS3,hr4⟩
 ·rintro k20 l17 xx27 σ25 W26 hk30 ⟨U32,es18,ck19,fi31,f35,f36,f37,le33,hS34,h38⟩ hx28 hb29
  have c39:Hid ((↑k20:Int) < (↑p0.length:Int)):=zF (wBi hk30)
  replace hk30:=zF hk30
  have hi40:Hid (w64 ((↑k20:Int) + 1)=(↑(k20 + 1):Int)):=zF (by have h1:=hle23.out;have h2:=c39.out;rw [wAe] <;> omega)
  refine sR fL1 Z (oR Z (zS Z fi31 f37) (eN (zD (cT Z c39 (kN (zD (zP (sR fL3 Z (bnK hx28 fun x41 h42 hm43=>?_)))))))))
  have h44:=ha0.le le33
  have q:=h44.el (fun _=>rfl) (wAL h42)
  obtain ⟨b45,off46,hA47,hC48⟩:=q
  refine oR Z (ZD Z f36 hA47 fi31 zA zG (wBe h42)) (oL Z (hS34.ldC (f:=0) hC48 (v:=jV x41) Z Z zQ Z) (oA Z Z (eN (zD (sR fL3 Z (oM Z f35 (oM Z Z (oL Z (hS34.lookup1 (j:=0) (mk:=wLT) (mv:=wMT) (a:=x41) (z:=false) Z Z Z Z (wCM Tryz.runUnderlying211) wLV Tryz.zeroValue4 h38) (eN (ifc hm43 ?_ ?_))))))))))
  ·intro c49 hm50
   refine ZI (congrArg nE c49.out) (sR fL1 Z (oA Z Z (eN (ze (zR (zn (zR ?_)))))))
   have q:=wAQ hm50
   obtain ⟨v51,hm52,e53⟩:=q
   obtain rfl:=wCn hm hX22 (hb29 v51 e53)
   refine zR (zn (zR ?_))
   have hE:=nD hm52;first | subst r | cases hE
   exact ⟨rfl,_,(zz rfl),U32,_,(hS34.pick [] _ (by decide) rfl),rfl,rfl⟩
  ·intro c49 hm54
   refine zy (congrArg nE (nG.2 c49.out)) (kN (rR (.fl 0 (.fl 1 (.fx 2 (.nil) .stop))) rfl (zf rfl rfl rfl rfl rfl f35 (zf rfl rfl rfl rfl rfl rfl (OKS.mapPut (x:=.tmp 16) (y:=.tmp 17) (j:=0) (mk:=wLT) (mv:=wMT) (a:=x41) (v:=true) rfl rfl rfl (by first | exact .inl rfl | exact .inr rfl) hS34 rfl rfl rfl rfl (wCM Tryz.runUnderlying211) wLV h38 rfl ?_)))))
   intro es55 ck56 W57 hr58 hS59
   have hS60:sW w U U32 [.obj b2 (.map es55 ck56)] W57:=hS59
   refine zj (zZ (zC (rR fL2 Z (oR Z (ZC (zX Z fi31 Z) (congrArg (jV) hi40.out)) (oM Z Z (zj ?_))))))
   obtain rfl:=nD hm54
   exact zC ⟨Z,_,Z,⟨U32,es55,ck56,Z,f35,f36,f37,le33,hS60,hr58⟩⟩
 ·rintro y68 σ64 W65 ⟨U71,e69,c70,fi67,f74,f75,f76,le72,hS73,h77⟩ hb66
  have hm78:=wCm hm hX22 hb66
  have c79:Hid (¬ ((↑(((↑p0.length:Int):Int) - 0).toNat:Int) < (↑p0.length:Int))):=zF (wBQ)
  refine sR fL1 Z (oR Z (zS Z fi67 f76) (eN (zD (cF Z c79 (ZF (zd (zd (zx (zC (sR fL1 Z (oA Z Z (eN (ze ?_)))))))))))))
  have hE:=nD hm78;first | subst r | cases hE
  exact ⟨rfl,_,(zz rfl),U71,_,(hS73.pick [] _ (by decide) rfl),rfl,rfl⟩
theorem wCE (p0:wAA) (pA0_1:Option Addr) (pc0_1:Nat) (pA0_2:Option Addr) (pc0_2:Nat) (w:World) (U:PHeap) (hS:St0 w U []) (ha0:Sl U 1 pA0_1 pc0_1 p0.Bibs.length (nA KL.encI p0.Bibs)) (ha1:SlR U wDc pA0_2 pc0_2 p0.Times) {r:Int} (hm:wAu p0=some r):Gv Tryz.prog 25 [.agg #[jV p0.Laps,.slice pA0_1 p0.Bibs.length pc0_1,.slice pA0_2 p0.Times.length pc0_2]] w (wCR w [] U (fun U_ L_ v=>v=jV r/\L_=[])):=by
 unfold wAu at hm
 refine Gv.of Tryz.func25 Z Tryz.ntmps25 Tryz.results25 Z (sR (.fx 0 (.fl 1 (.nil)) .stop) Z ?_)
 let B0:List Value:=[jV p0.Laps,.slice pA0_1 p0.Bibs.length pc0_1,.slice pA0_2 p0.Times.length pc0_2]
 refine ZT (cs:=B0) rfl rfl rfl rfl rfl rfl (by rfl) hS ?_
 intro W1 b2 hS3
 have q:=hS3.freeze (k:=0) rfl
 obtain ⟨U5,le6,hC7,hS8⟩:=q
 replace hC7:=Cl.of hC7
 have hS9:sW w U U5 [] W1:=hS8
 replace hC7:Cl U5 b2 0 B0:=hC7
 refine oA Z Z (eN (zD (zP (sR (.fl 0 (.fl 1 (.fx 2 (wQJ (.fx 23 (wOs (.nil)) .stop)) .stop))) Z (oR Z (zO Z Z zL Z zG) (oL Z (hS9.ldC (f:=0) hC7 (v:=jV p0.Laps) Z Z zQ Z) (bnK hm fun x10 h11 hm12=>zV 0 Z Z Z Z (zW Z Z Tryz.call59 (zK Z (zK Z (zK Z zh))) Z) hS9 (fun hs=>wEa p0.Laps 1 20 W1 U5 hs h11) (.inr Z) ?_)))))))
 rintro U13 L14 v15 W16 le17 hS18 ⟨rfl,rfl⟩
 have hS19:sW w U U13 [] W16:=hS18
 refine oR Z (ZV Z Z) (oM Z Z (ifc hm12 ?_ ?_))
 ·intro c20 hm21
  refine zt Z Z Z (zw Z Z (nC c20.out)) (fun _=>zO Z Z zL Z zI) ?_
  have h22:=hC7.le le17
  refine ZA Z Z Z (zw Z Z (nC c20.out)) (hS19.ldC (f:=1) h22 (v:=.slice pA0_1 p0.Bibs.length pc0_1) Z Z zJ Z) Z (zt Z Z Z (zw Z Z (nC c20.out)) (fun _=>zY Z Z zA) (zt Z Z Z (zw Z Z (nC c20.out)) (fun _=>Za Z Z Z) (oR Z (zg Z (nC c20.out) Z) (oM Z Z (ifc hm21 ?_ ?_)))))
  ·intro c23 hm24
   refine oT Z c23 (oT Z c23 (oT Z c23 (oT Z c23 (oT Z c23 (oT Z c23 (oT Z c23 (oR Z (zk Z (wED c23.out) Z) (oM Z Z (oN Z (oN Z (oN Z (ZW Z Z Z (zo Z Z Z Z) (oN Z (oR Z (zk Z Z Z) (oA Z Z (eN (ZI Z (sR fL1 Z (oA Z Z (eN (ze (zn (zR ?_)))))))))))))))))))))))
   cases hm24
   exact ⟨Z,_,(zz Z),U13,_,hS19,Z,Z⟩
  ·intro c23 hm25
   refine rU Z (wF Z c23) (zO Z Z zL Z zm) (ZA Z Z Z (wF Z c23) (hS19.ldC (f:=2) h22 (v:=.slice pA0_2 p0.Times.length pc0_2) Z Z zr Z) Z (rU Z (wF Z c23) (zY Z Z zH) (rU Z (wF Z c23) (zO Z Z zL Z zI) (ZA Z Z Z (wF Z c23) (hS19.ldC (f:=1) h22 (v:=.slice pA0_1 p0.Bibs.length pc0_1) Z Z zJ Z) Z (rU Z (wF Z c23) (zY Z Z zA) (rU Z (wF Z c23) (ZU Z Z Z) (oR Z (zg Z (ZL c23.out) Z) (oM Z Z (ifc hm25 ?_ ?_)))))))))
   ·intro c26 hm27
    refine zt Z Z Z (zw Z Z (ZL (fun h=>h c26.out))) (fun _=>zO Z Z zL Z zm) (ZA Z Z Z (zw Z Z (ZL (fun h=>h c26.out))) (hS19.ldC (f:=2) h22 (v:=.slice pA0_2 p0.Times.length pc0_2) Z Z zr Z) Z (zt Z Z Z (zw Z Z (ZL (fun h=>h c26.out))) (fun _=>Runs.mkf Z zh (zK Z zh)) ?_))
    have h28:=ha1.le le6
    have h29:=h28.le le17
    have h30:=ha0.le le6
    have h31:=h30.le le17
    have hF32:FnOK Tryz.prog U13 (.func (.func 61) #[] #[.pointer (some ⟨b2,0,none⟩)]) wOZ wOa (fun x=>wAr x p0):=⟨61,[],[.pointer (some ⟨b2,0,none⟩)],rfl,Tryz.call61,fun U1 w1 x y vs le hs ha hm=>by obtain ⟨pA_0,pc_0,rfl,hq0_0⟩:=ha;exact wDw x pA_0 pc_0 p0 b2 pA0_1 pc0_1 pA0_2 pc0_2 w1 U1 hs hq0_0 (h22.le le) (h31.le le) (h29.le le) hm⟩
    refine bnK hm27 fun x33 h34 hm35=>zV 0 Z Z Z (zw Z Z (ZL (fun h=>h c26.out))) (zW Z Z Tryz.call60 (zK Z (zK Z zh)) Z) hS19 (fun hs=>wDO p0.Times pA0_2 pc0_2 (fun x=>wAr x p0) (.func (.func 61) #[] #[.pointer (some ⟨b2,0,none⟩)]) W16 U13 hs h29 hF32 h34) (.inr Z) ?_
    rintro U36 L37 v38 W39 le40 hS41 ⟨rfl,rfl⟩
    have hS42:sW w U U36 [] W39:=hS41
    refine zt Z Z Z (zw Z Z (ZL (fun h=>h c26.out))) (fun _=>ZV Z Z) (oR Z (zg Z (ZL (fun h=>h c26.out)) Z) (oA Z Z (eN (ifc hm35 ?_ ?_))))
    ·intro c43 hm44
     refine zy (nC c43.out) (sR (.fl 0 (.fl 1 (.fx 2 (fC3_6 (.fx 7 (wQL (.nil)) .stop)) .stop))) Z (oR Z (zO Z Z zL Z zI) ?_))
     have h45:=h22.le le40
     refine oL Z (hS42.ldC (f:=1) h45 (v:=.slice pA0_1 p0.Bibs.length pc0_1) Z Z zJ Z) ?_
     have h46:=h31.le le40
     have hF47:FnOK Tryz.prog U36 (.func (.func 63) #[] #[]) wLS wOb wAs:=⟨63,[],[],rfl,Tryz.call63,fun U1 w1 x y vs le hs ha hm=>by obtain rfl:=ha;exact wDx x w1 U1 hs  hm⟩
     refine bnK hm44 fun x48 h49 hm50=>zV 0 Z Z Z Z (zW Z Z Tryz.call62 (zK Z (zK Z zh)) Z) hS42 (fun hs=>wCf p0.Bibs pA0_1 pc0_1 wAs (.func (.func 63) #[] #[]) W39 U36 hs h46 hF47 h49) (.inr Z) ?_
     rintro U51 L52 v53 W54 le55 hS56 ⟨rfl,rfl⟩
     have hS57:sW w U U51 [] W54:=hS56
     refine oR Z (ZV Z Z) (oM Z Z (ifc hm50 ?_ ?_))
     ·intro c58 hm59
      refine zt Z Z Z (zw Z Z (nC c58.out)) (fun _=>zO Z Z zL Z zm) ?_
      have h60:=h45.le le55
      refine ZA Z Z Z (zw Z Z (nC c58.out)) (hS57.ldC (f:=2) h60 (v:=.slice pA0_2 p0.Times.length pc0_2) Z Z zr Z) Z ?_
      have h61:=h29.le le40
      have h62:=h61.le le55
      have hF63:FnOK Tryz.prog U51 (.func (.func 64) #[] #[]) wOZ wOa wAt:=⟨64,[],[],rfl,Tryz.call64,fun U1 w1 x y vs le hs ha hm=>by obtain ⟨pA_0,pc_0,rfl,hq0_0⟩:=ha;exact wDy x pA_0 pc_0 w1 U1 hs hq0_0 hm⟩
      refine bnK hm59 fun x64 h65 hm66=>zV 0 Z Z Z (zw Z Z (nC c58.out)) (zW Z Z Tryz.call60 (zK Z (zK Z zh)) Z) hS57 (fun hs=>wDO p0.Times pA0_2 pc0_2 wAt (.func (.func 64) #[] #[]) W54 U51 hs h62 hF63 h65) (.inr Z) ?_
      rintro U67 L68 v69 W70 le71 hS72 ⟨rfl,rfl⟩
      have hS73:sW w U U67 [] W70:=hS72
      refine zt Z Z Z (zw Z Z (nC c58.out)) (fun _=>ZV Z Z) (oR Z (zg Z (nC c58.out) Z) (oA Z Z (eN (ifc hm66 ?_ ?_))))
      ·intro c74 hm75
       refine zy (nC c74.out) (sR (.fl 0 (.fl 1 (.fx 2 (.fl 3 (.nil)) .stop))) Z (oR Z (zO Z Z zL Z zI) ?_))
       have h76:=h60.le le71
       refine oL Z (hS73.ldC (f:=1) h76 (v:=.slice pA0_1 p0.Bibs.length pc0_1) Z Z zJ Z) ?_
       have h77:=h46.le le55
       have h78:=h77.le le71
       refine bnK hm75 fun x79 h80 hm81=>zV 0 Z Z Z Z (zW Z Z Tryz.call66 (zK Z zh) Z) hS73 (fun hs=>wGt p0.Bibs pA0_1 pc0_1 W70 U67 hs h78 h80) (.inr Z) ?_
       rintro U82 L83 v84 W85 le86 hS87 ⟨rfl,rfl⟩
       have hS88:sW w U U82 [] W85:=hS87
       refine oA Z Z (eN (ifc hm81 ?_ ?_))
       ·intro c89 hm90
        refine ZI (congrArg nE c89.out) (sR fL1 Z (oA Z Z (eN (ze (zn (zR ?_))))))
        cases hm90
        exact ⟨Z,_,(zz Z),U82,_,hS88,Z,Z⟩
       ·intro c89 hm91
        refine zy (congrArg nE (nG.2 c89.out)) (ZH (zZ (zC (zD (zD (CK.fresh fun σ92 hσ93=>?_))))))
        have f94:σ92 1=.pointer (some ⟨b2,0,none⟩):=(hσ93 1).trans rfl
        clear hσ93
        refine rR fL4 Z (oR Z (zO Z f94 zL Z zm) ?_)
        have h95:=h76.le le86
        refine oL Z (hS88.ldC (f:=2) h95 (v:=.slice pA0_2 p0.Times.length pc0_2) Z Z zr Z) (oR Z (zY Z Z zH) (oM Z Z (eN (zP ?_))))
        have q:=wBx hm91
        obtain ⟨r98,hX99⟩:=q
        have q:=wBw hX99
        obtain ⟨hle100,hf101⟩:=q
        replace hle100:=zF hle100
        refine Zd (fun k97 _ σ_ w_=>∃ (U_:PHeap),σ_ 51=jV (↑k97:Int)/\σ_ 49=.slice pA0_2 p0.Times.length pc0_2/\σ_ 50=jV (↑p0.Times.length:Int)/\PHeap.Le U82 U_/\sW w U U_ [] w_) hf101 ?_ ?_ ?_
        ·exact ⟨U82,Z,Z,Z,(zN _),hS88⟩
        ·rintro k97 ⟨⟩ xx104 σ102 W103 hk107 ⟨U109,fi108,f112,f113,le110,hS111⟩ hx105 hb106
         try dsimp only at hx105
         have c114:Hid ((↑k97:Int) < (↑p0.Times.length:Int)):=zF (wBi hk107)
         replace hk107:=zF hk107
         have hi115:Hid (w64 ((↑k97:Int) + 1)=(↑(k97 + 1):Int)):=zF (by have h1:=hle100.out;have h2:=c114.out;rw [wAe] <;> omega)
         refine sR fL1 Z (oR Z (zS Z fi108 f113) (eN (zD (cT Z c114 (kN (zD (zP (sR fL3 Z (bnK hx105 fun x116 h117 hm118=>?_)))))))))
         have h119:=h62.le le71
         have h120:=h119.le le86
         have h121:=h120.le le110
         have q:=h121.el (wAL h117)
         obtain ⟨b122,off123,vs126,hA124,hC125,hr127⟩:=q
         obtain ⟨pA128,pc129,rfl,h130⟩:=hr127
         replace hC125:Cl U109 b122 (off123 + k97 * 1) [.slice pA128 x116.length pc129]:=hC125
         refine oR Z (ZD Z f112 hA124 fi108 zH zI (wBe h117)) (oL Z (hS111.ldC (f:=0) hC125 (v:=.slice pA128 x116.length pc129) Z Z zJ Z) (oA Z Z (eN (sR fL1 Z (oA Z Z (eN (zP ?_)))))))
         have q:=wBx hm118
         obtain ⟨r133,hX134⟩:=q
         have q:=wBw hX134
         obtain ⟨hle135,hf136⟩:=q
         replace hle135:=zF hle135
         refine Zd (fun k132 _ σ_ w_=>∃ (U_:PHeap),σ_ 5=jV (1 + ↑k132:Int)/\σ_ 4=.slice pA128 x116.length pc129/\σ_ 49=.slice pA0_2 p0.Times.length pc0_2/\σ_ 50=jV (↑p0.Times.length:Int)/\σ_ 51=jV (↑k97:Int)/\PHeap.Le U109 U_/\sW w U U_ [] w_) hf136 ?_ ?_ ?_
         ·exact ⟨U109,Z,Z,f112,f113,fi108,(zN _),hS111⟩
         ·rintro k132 ⟨⟩ xx139 σ137 W138 hk142 ⟨U144,fi143,f147,f148,f149,f150,le145,hS146⟩ hx140 hb141
          try dsimp only at hx140
          have c151:Hid ((1 + ↑k132:Int) < (↑x116.length:Int)):=zF (wPD hk142)
          replace hk142:=zF hk142
          have hi152:Hid (w64 ((1 + ↑k132:Int) + 1)=(1 + ↑(k132 + 1):Int)):=zF (by have h1:=hle135.out;have h2:=c151.out;rw [wAe] <;> omega)
          refine zD (sR fL4 rfl (zf rfl rfl rfl rfl rfl fi143 (zf rfl rfl rfl rfl rfl f147 (zt rfl rfl rfl rfl (fun _=>zY rfl rfl zA) (zt rfl rfl rfl rfl (fun _=>zS rfl rfl rfl) (eN (cT Z c151 (kN (zD (zP (zD (ZK ZJ [3,3,3,1,3,3,3,3,1,3] fL10 (by kernel_rfl) ?_))))))))))))
          have hS153:=hS146.drew
          generalize hw_W154:({ W138 with drawn:=W138.drawn + 1 }:World)=W154 at hS153 ⊢
          refine oM Z f147 (oM Z fi143 (bnK hx140 fun x155 h156 hm157=>?_))
          have h158:=h130.le le145
          have q:=h158.el (fun _=>rfl) (wAL h156)
          obtain ⟨b159,off160,hA161,hC162⟩:=q
          refine oR Z (zq Z Z hA161 Z zA zG (wBL h156) (wBO h156)) (oL Z (hS153.ldC (f:=0) hC162 (v:=jV x155) Z Z zQ Z) (oM Z f147 (oM Z fi143 (oR Z (Runs.subw Z Z Z) (bnK hm157 fun x163 h164 hm165=>?_)))))
          have q:=h158.el (fun _=>rfl) (wAL h164)
          obtain ⟨b166,off167,hA168,hC169⟩:=q
          refine oR Z (zq Z Z hA168 Z zA zG (wBL h164) (wBO h164)) (oL Z (hS153.ldC (f:=0) hC169 (v:=jV x163) Z Z zQ Z) (oR Z (Runs.leq Z Z Z) (eN (ifc hm165 ?_ ?_))))
          ·intro c170 hm171
           refine cT Z c170 (sR fL1 Z (oA Z Z (eN (ze (zn (zR ?_))))))
           have q:=wAQ hm171
           obtain ⟨v172,hm173,e174⟩:=q
           obtain rfl:=wCn hm118 hX134 (hb141 v172 e174)
           refine zR (zn (zn (zR ?_)))
           have q:=wAQ hm173
           obtain ⟨v175,hm176,e177⟩:=q
           obtain rfl:=wCn hm91 hX99 (hb106 v175 e177)
           refine zR (zn (zR ?_))
           cases hm176
           exact ⟨Z,_,(zz Z),U144,_,hS153,Z,Z⟩
          ·intro c170 hm178
           refine cF Z c170 (ZH (zZ (zC (rR fL3 Z (oM Z fi143 (oR Z (ZC (zX Z Z Z) (congrArg (jV) hi152.out)) (oA Z Z (zj ?_))))))))
           obtain rfl:=nD hm178
           exact zC ⟨Z,_,Z,⟨U144,Z,f147,f148,f149,f150,le145,hS153⟩⟩
         ·rintro ⟨⟩ σ179 W180 ⟨U183,fi182,f186,f187,f188,f189,le184,hS185⟩ hb181
          have hm190:=wCm hm118 hX134 hb181
          try dsimp only at hm190
          have c191:Hid (¬ ((1 + ↑(((↑x116.length:Int):Int) - 1).toNat:Int) < (↑x116.length:Int))):=zF (wNF)
          refine zD (sR fL4 Z (oM Z fi182 (oM Z f186 (oR Z (zY Z Z zA) (oR Z (zS Z Z Z) (eN (cF Z c191 (ZF (zd (zd (zx (zZ (zC (rR fL2 Z (oR Z (ZC (zX Z f189 Z) (congrArg (jV) hi115.out)) (oM Z Z (zj ?_)))))))))))))))))
          obtain rfl:=nD hm190
          exact zC ⟨Z,_,Z,⟨U183,Z,f187,f188,(le110.trans le184),hS185⟩⟩
        ·rintro ⟨⟩ σ192 W193 ⟨U196,fi195,f199,f200,le197,hS198⟩ hb194
         have hm201:=wCm hm91 hX99 hb194
         try dsimp only at hm201
         have c202:Hid (¬ ((↑(((↑p0.Times.length:Int):Int) - 0).toNat:Int) < (↑p0.Times.length:Int))):=zF (wBQ)
         refine sR fL1 Z (oR Z (zS Z fi195 f200) (eN (zD (cF Z c202 (ZF (zd (zd (zx (zC (sR fL1 Z (oA Z Z (eN (ze ?_)))))))))))))
         cases hm201
         exact ⟨Z,_,(zz Z),U196,_,hS198,Z,Z⟩
      ·intro c74 hm203
       refine ZI (nF (c74.out)) (sR fL1 Z (oA Z Z (eN (ze (zn (zR ?_))))))
       cases hm203
       exact ⟨Z,_,(zz Z),U67,_,hS73,Z,Z⟩
     ·intro c58 hm204
      refine zU Z Z Z (zo Z Z (nF (c58.out)) Z) (zU Z Z Z (zo Z Z (nF (c58.out)) Z) (ZW Z Z Z (zo Z Z (nF (c58.out)) Z) (zU Z Z Z (zo Z Z (nF (c58.out)) Z) (oR Z (zk Z (nF (c58.out)) Z) (oA Z Z (eN (ZI Z (sR fL1 Z (oA Z Z (eN (ze (zn (zR ?_)))))))))))))
      cases hm204
      exact ⟨Z,_,(zz Z),U51,_,hS57,Z,Z⟩
    ·intro c43 hm205
     refine ZI (nF (c43.out)) (sR fL1 Z (oA Z Z (eN (ze (zn (zR ?_))))))
     cases hm205
     exact ⟨Z,_,(zz Z),U36,_,hS42,Z,Z⟩
   ·intro c26 hm206
    refine oT Z c26 (oT Z c26 (oT Z c26 (ZW Z Z Z (zo Z Z (wED c26.out) Z) (oT Z c26 (oR Z (zk Z (wED c26.out) Z) (oA Z Z (eN (ZI Z (sR fL1 Z (oA Z Z (eN (ze (zn (zR ?_))))))))))))))
    cases hm206
    exact ⟨Z,_,(zz Z),U13,_,hS19,Z,Z⟩
 ·intro c20 hm207
  refine zU Z Z Z (zo Z Z (nF (c20.out)) Z) (zU Z Z Z (zo Z Z (nF (c20.out)) Z) (zU Z Z Z (zo Z Z (nF (c20.out)) Z) (zU Z Z Z (zo Z Z (nF (c20.out)) Z) (oR Z (zk Z (nF (c20.out)) Z) (oM Z Z (oN Z (oN Z (oN Z (oN Z (oN Z (oN Z (oN Z (oR Z (zk Z Z Z) (oM Z Z (oN Z (oN Z (oN Z (ZW Z Z Z (zo Z Z Z Z) (oN Z (oR Z (zk Z Z Z) (oA Z Z (eN (ZI Z (sR fL1 Z (oA Z Z (eN (ze (zn (zR ?_)))))))))))))))))))))))))))))
  cases hm207
  exact ⟨Z,_,(zz Z),U13,_,hS19,Z,Z⟩
end Go.Proofs.YtbpllbhagaoocaaGreat
namespace Go.Proofs.YtbpllbhagaoocaaGreat
open Go.KL
set_option maxHeartbeats 4000000
theorem wBt (p0:Int) (p1:Int) (p2:Int) (w:World) (U:PHeap) (hS:St0 w U [])  {r:Bool} (hm:wAU p0 p1 p2=some r):Gv Tryz.prog 67 [jV p0,jV p1,jV p2] w (wCR w [] U (fun U_ L_ v=>v=.bool r/\L_=[])):=by
 unfold wAU at hm
 refine Gv.of Tryz.func67 Z Tryz.ntmps67 Tryz.results67 Z (sR fL1 Z (oA Z Z (eN (sR fL9 Z (oM Z Z (oM Z Z (oR Z (zS Z Z Z) (oM Z Z ?_))))))))
 by_cases c1:p0 < p1
 ·have hm2:=hm;rw [if_pos c1] at hm2;replace c1:=zF c1
  refine oT Z c1 (oT Z c1 (oT Z c1 (oR Z (zk Z (wED c1.out) Z) (oA Z Z (eN (ze ?_))))))
  have hE:=nD hm2;first | subst r | cases hE
  exact ⟨Z,_,(zz Z),U,_,hS,Z,Z⟩
 ·have hm3:=hm;rw [if_neg c1] at hm3;replace c1:=zF c1
  refine zf Z Z Z (wF Z c1) Z Z (zf Z Z Z (wF Z c1) Z Z (rU Z (wF Z c1) (Za Z Z Z) (oR Z (zg Z (ZL c1.out) Z) (oA Z Z (eN (ze ?_))))))
  cases hm3
  exact ⟨Z,_,(zz Z),U,_,hS,Z,Z⟩
theorem wDQ (p0:List Int) (pA0:Option Addr) (pc0:Nat) (w:World) (U:PHeap) (hS:St0 w U []) (ha0:Sl U 1 pA0 pc0 p0.length (nA KL.encI p0)) {r:Bool} (hm:wAo p0=some r):Gv Tryz.prog 68 [.slice pA0 p0.length pc0] w (wCR w [] U (fun U_ L_ v=>v=.bool r/\L_=[])):=by
 unfold wAo at hm
 refine Gv.of Tryz.func68 Z Tryz.ntmps68 Tryz.results68 Z (sR fL1 Z (oA Z Z (eN (zD (sR fL1 Z (oA Z Z (eN (zP ?_))))))))
 have q:=wBx hm
 obtain ⟨r3,hX4⟩:=q
 have q:=wBw hX4
 obtain ⟨hle5,hf6⟩:=q
 replace hle5:=zF hle5
 refine Zd (fun k2 _ σ_ w_=>∃ (U_:PHeap),σ_ 3=jV (↑k2:Int)/\σ_ 0=.slice pA0 p0.length pc0/\PHeap.Le U U_/\sW w U U_ [] w_) hf6 ?_ ?_ ?_
 ·exact ⟨U,Z,Z,(zN _),hS⟩
 ·rintro k2 ⟨⟩ xx9 σ7 W8 hk12 ⟨U14,fi13,f17,le15,hS16⟩ hx10 hb11
  try dsimp only at hx10
  have c18:Hid ((↑k2:Int) < (↑p0.length:Int)):=zF (wBi hk12)
  replace hk12:=zF hk12
  have hi19:Hid (w64 ((↑k2:Int) + 1)=(↑(k2 + 1):Int)):=zF (by have h1:=hle5.out;have h2:=c18.out;rw [wAe] <;> omega)
  refine zD (sR fL4 Z (oM Z fi13 (oM Z f17 (oR Z (zY Z Z zA) (oR Z (zS Z Z Z) (eN (cT Z c18 (kN (zD (zP (sR fL1 Z (oA Z Z (eN (zP ?_))))))))))))))
  have q:=wBx hx10
  obtain ⟨r22,hX23⟩:=q
  have q:=wBw hX23
  obtain ⟨hle24,hf25⟩:=q
  replace hle24:=zF hle24
  refine Zd (fun k21 _ σ_ w_=>∃ (U_:PHeap),σ_ 4=jV (↑k21:Int)/\σ_ 0=.slice pA0 p0.length pc0/\σ_ 3=jV (↑k2:Int)/\PHeap.Le U14 U_/\sW w U U_ [] w_) hf25 ?_ ?_ ?_
  ·exact ⟨U14,Z,f17,fi13,(zN _),hS16⟩
  ·rintro k21 ⟨⟩ xx28 σ26 W27 hk31 ⟨U33,fi32,f36,f37,le34,hS35⟩ hx29 hb30
   try dsimp only at hx29
   have c38:Hid ((↑k21:Int) < (↑k2:Int)):=zF (wBi hk31)
   replace hk31:=zF hk31
   have hi39:Hid (w64 ((↑k21:Int) + 1)=(↑(k21 + 1):Int)):=zF (by have h1:=hle24.out;have h2:=c38.out;rw [wAe] <;> omega)
   refine zD (sR fL3 rfl (zf rfl rfl rfl rfl rfl fi32 (zf rfl rfl rfl rfl rfl f37 (zt rfl rfl rfl rfl (fun _=>zS rfl rfl rfl) (eN (cT Z c38 (kN (zD (zP (zD (ZK ZJ [3,3,3,1,3,3,3,1,3] fL9 (by kernel_rfl) ?_)))))))))))
   have hS40:=hS35.drew
   generalize hw_W41:({ W27 with drawn:=W27.drawn + 1 }:World)=W41 at hS40 ⊢
   refine oM Z f36 (oM Z f37 (bnK hx29 fun x42 h43 hm44=>?_))
   have h45:=ha0.le le15
   have h46:=h45.le le34
   have q:=h46.el (fun _=>rfl) (wAL h43)
   obtain ⟨b47,off48,hA49,hC50⟩:=q
   refine oR Z (ZD Z Z hA49 Z zA zG (wBe h43)) (oL Z (hS40.ldC (f:=0) hC50 (v:=jV x42) Z Z zQ Z) (oM Z f36 (oM Z fi32 (bnK hm44 fun x51 h52 hm53=>?_))))
   have q:=h46.el (fun _=>rfl) (wAL h52)
   obtain ⟨b54,off55,hA56,hC57⟩:=q
   refine oR Z (ZD Z Z hA56 Z zA zG (wBe h52)) (oL Z (hS40.ldC (f:=0) hC57 (v:=jV x51) Z Z zQ Z) (oR Z (Runs.eql Z Z Z) (eN (ifc hm53 ?_ ?_))))
   ·intro c58 hm59
    refine cT Z c58 (sR fL1 Z (oA Z Z (eN (ze (zn (zR ?_))))))
    have q:=wAQ hm59
    obtain ⟨v60,hm61,e62⟩:=q
    obtain rfl:=wCn hx10 hX23 (hb30 v60 e62)
    refine zR (zn (zn (zR ?_)))
    have q:=wAQ hm61
    obtain ⟨v63,hm64,e65⟩:=q
    obtain rfl:=wCn hm hX4 (hb11 v63 e65)
    refine zR (zn (zR ?_))
    have hE:=nD hm64;first | subst r | cases hE
    exact ⟨Z,_,(zz Z),U33,_,hS40,Z,Z⟩
   ·intro c58 hm66
    refine cF Z c58 (ZH (zZ (zC (rR fL3 Z (oM Z fi32 (oR Z (ZC (zX Z Z Z) (congrArg (jV) hi39.out)) (oA Z Z (zj ?_))))))))
    obtain rfl:=nD hm66
    exact zC ⟨Z,_,Z,⟨U33,Z,f36,f37,le34,hS40⟩⟩
  ·rintro ⟨⟩ σ67 W68 ⟨U71,fi70,f74,f75,le72,hS73⟩ hb69
   have hm76:=wCm hx10 hX23 hb69
   try dsimp only at hm76
   have c77:Hid (¬ ((↑(((↑k2:Int):Int) - 0).toNat:Int) < (↑k2:Int))):=zF (wBQ)
   refine zD (sR fL3 Z (oM Z fi70 (oM Z f75 (oR Z (zS Z Z Z) (eN (cF Z c77 (ZF (zd (zd (zx (zZ (zC (rR fL3 Z (oM Z f75 (oR Z (ZC (zX Z Z Z) (congrArg (jV) hi19.out)) (oA Z Z (zj ?_)))))))))))))))))
   obtain rfl:=nD hm76
   exact zC ⟨Z,_,Z,⟨U71,Z,f74,(le15.trans le72),hS73⟩⟩
 ·rintro ⟨⟩ σ78 W79 ⟨U82,fi81,f85,le83,hS84⟩ hb80
  have hm86:=wCm hm hX4 hb80
  try dsimp only at hm86
  have c87:Hid (¬ ((↑(((↑p0.length:Int):Int) - 0).toNat:Int) < (↑p0.length:Int))):=zF (wBQ)
  refine zD (sR fL4 Z (oM Z fi81 (oM Z f85 (oR Z (zY Z Z zA) (oR Z (zS Z Z Z) (eN (cF Z c87 (ZF (zd (zd (zx (zC (sR fL1 Z (oA Z Z (eN (ze ?_))))))))))))))))
  have hE:=nD hm86;first | subst r | cases hE
  exact ⟨Z,_,(zz Z),U82,_,hS84,Z,Z⟩
theorem wBV (p0:wAH) (pA0_1:Option Addr) (pc0_1:Nat) (pA0_2:Option Addr) (pc0_2:Nat) (w:World) (U:PHeap) (hS:St0 w U []) (ha0:Sl U 1 pA0_1 pc0_1 p0.Bibs.length (nA KL.encI p0.Bibs)) (ha1:SlR U wDc pA0_2 pc0_2 p0.Times) {r:Int} (hm:wAT p0=some r):Gv Tryz.prog 26 [.agg #[jV p0.Laps,.slice pA0_1 p0.Bibs.length pc0_1,.slice pA0_2 p0.Times.length pc0_2]] w (wCR w [] U (fun U_ L_ v=>v=jV r/\L_=[])):=by
 unfold wAT at hm
 refine Gv.of Tryz.func26 Z Tryz.ntmps26 Tryz.results26 Z (sR (.fx 0 (.fl 1 (.nil)) .stop) Z ?_)
 let B0:List Value:=[jV p0.Laps,.slice pA0_1 p0.Bibs.length pc0_1,.slice pA0_2 p0.Times.length pc0_2]
 refine ZT (cs:=B0) rfl rfl rfl rfl rfl rfl (by rfl) hS ?_
 intro W1 b2 hS3
 refine oA Z Z (eN (zD (sR (.fl 0 (.fl 1 (.fx 2 (wQI (.nil)) .stop))) Z (oR Z (zO Z Z zM Z zG) (oL Z (hS3.ldB (j:=0) Z Z Z zQ (v:=jV p0.Laps) Z) (bnK hm fun x5 h6 hm7=>zV 0 Z Z Z Z (zW Z Z Tryz.call67 (zK Z (zK Z (zK Z zh))) Z) hS3 (fun hs=>wBt p0.Laps 1 20 W1 U hs h6) (.inr Z) ?_))))))
 rintro U8 L9 v10 W11 le12 hS13 ⟨rfl,rfl⟩
 have hS14:sW w U U8 [.blk b2 58 B0] W11:=hS13
 refine oM Z Z (ifc hm7 ?_ ?_)
 ·intro c15 hm16
  refine zU Z Z Z (zo Z Z (congrArg nE c15.out) Z) (zU Z Z Z (zo Z Z (congrArg nE c15.out) Z) (zU Z Z Z (zo Z Z (congrArg nE c15.out) Z) (zU Z Z Z (zo Z Z (congrArg nE c15.out) Z) (oR Z (zk Z (congrArg nE c15.out) Z) (oM Z Z (oN Z (oN Z (oN Z (oN Z (oN Z (oN Z (oN Z (oR Z (zk Z Z Z) (eN (ZI Z (sR fL1 Z (oA Z Z (eN (ze (zR ?_))))))))))))))))))))
  cases hm16
  exact ⟨rfl,_,(zz rfl),U8,_,(hS14.pick [] _ (by decide) rfl),rfl,rfl⟩
 ·intro c15 hm17
  refine zt Z Z Z (zw Z Z (congrArg nE (nG.2 c15.out))) (fun _=>zO Z Z zM Z zI) (ZA Z Z Z (zw Z Z (congrArg nE (nG.2 c15.out))) (hS14.ldB (j:=0) Z Z Z zJ (v:=.slice pA0_1 p0.Bibs.length pc0_1) Z) Z (zt Z Z Z (zw Z Z (congrArg nE (nG.2 c15.out))) (fun _=>zY Z Z zA) (zt Z Z Z (zw Z Z (congrArg nE (nG.2 c15.out))) (fun _=>Za Z Z Z) (oR Z (zg Z (congrArg nE (nG.2 c15.out)) Z) (oM Z Z (ifc hm17 ?_ ?_))))))
  ·intro c18 hm19
   refine oT Z c18 (oT Z c18 (oT Z c18 (oT Z c18 (oT Z c18 (oT Z c18 (oT Z c18 (oR Z (zk Z (wED c18.out) Z) (eN (ZI Z (sR fL1 Z (oA Z Z (eN (ze (zR ?_))))))))))))))
   cases hm19
   exact ⟨rfl,_,(zz rfl),U8,_,(hS14.pick [] _ (by decide) rfl),rfl,rfl⟩
  ·intro c18 hm20
   refine rU Z (wF Z c18) (zO Z Z zM Z zm) (ZA Z Z Z (wF Z c18) (hS14.ldB (j:=0) Z Z Z zr (v:=.slice pA0_2 p0.Times.length pc0_2) Z) Z (rU Z (wF Z c18) (zY Z Z zH) (rU Z (wF Z c18) (zO Z Z zM Z zI) (ZA Z Z Z (wF Z c18) (hS14.ldB (j:=0) Z Z Z zJ (v:=.slice pA0_1 p0.Bibs.length pc0_1) Z) Z (rU Z (wF Z c18) (zY Z Z zA) (rU Z (wF Z c18) (ZU Z Z Z) (oR Z (zg Z (ZL c18.out) Z) (eN (ifc hm20 ?_ ?_)))))))))
   ·intro c21 hm22
    refine zy (ZL (fun h=>h c21.out)) (kN (zD (sR fL1 Z (oA Z Z (eN (zP (ZY (fun x26 σ_ w_=>∃ (U_:PHeap),σ_ 1=.pointer (some ⟨b2,0,none⟩)/\σ_ 3=jV x26/\PHeap.Le U8 U_/\sW w U U_ [.blk b2 58 B0] w_) hm22 ?_ ?_)))))))
    ·exact ⟨U8,Z,Z,(zN _),hS14⟩
    ·rintro x26 xx29 σ27 W28 ⟨U34,f37,f38,le35,hS36⟩ hx30 hb31
     refine zD (sR fL5 Z (oM Z f38 (oR Z (zO Z f37 zM Z zm) (oL Z (hS36.ldB (j:=0) Z Z Z zr (v:=.slice pA0_2 p0.Times.length pc0_2) Z) (oR Z (zY Z Z zH) (oR Z (zS Z Z Z) (eN ?_)))))))
     by_cases c39:x26 < (↑p0.Times.length:Int)
     ·have hm40:=hx30;rw [if_pos c39] at hm40;replace c39:=zF c39
      refine cT Z c39 (kN (zD (zP (zD (ZK ZJ [3,1,3,3,1,3,3,1,3] fL9 (by kernel_rfl) ?_)))))
      have hS41:=hS36.drew
      generalize hw_W42:({ W28 with drawn:=W28.drawn + 1 }:World)=W42 at hS41 ⊢
      refine oR Z (zO Z f37 zM Z zm) (oL Z (hS41.ldB (j:=0) Z Z Z zr (v:=.slice pA0_2 p0.Times.length pc0_2) Z) (oM Z f38 (bnK hm40 fun x43 h44 hm45=>?_)))
      have h46:=ha1.le le12
      have h47:=h46.le le35
      have q:=h47.el (wAL h44)
      obtain ⟨b48,off49,vs52,hA50,hC51,hr53⟩:=q
      obtain ⟨pA54,pc55,rfl,h56⟩:=hr53
      replace hC51:Cl U34 b48 (off49 + x26.toNat * 1) [.slice pA54 x43.length pc55]:=hC51
      refine oR Z (zq Z Z hA50 Z zH zI (wBL h44) (wBO h44)) (oL Z (hS41.ldC (f:=0) hC51 (v:=.slice pA54 x43.length pc55) Z Z zJ Z) (oR Z (zY Z Z zA) (oR Z (zO Z f37 zM Z zG) (oL Z (hS41.ldB (j:=0) Z Z Z zQ (v:=jV p0.Laps) Z) (oR Z (Za Z Z Z) (eN (ifc hm45 ?_ ?_)))))))
      ·intro c57 hm58
       refine cT Z c57 (sR fL1 Z (oA Z Z (eN (ze (zn (zR ?_))))))
       have q:=wAQ hm58
       obtain ⟨v59,hm60,e61⟩:=q
       obtain rfl:=hb31 v59 e61
       refine zR (zn (zR ?_))
       cases hm60
       exact ⟨rfl,_,(zz rfl),U34,_,(hS41.pick [] _ (by decide) rfl),rfl,rfl⟩
      ·intro c57 hm62
       refine cF Z c57 (ZH (zZ (zC (rR fL3 Z (oM Z f38 (oR Z (zX Z Z Z) (oA Z Z (zj ?_))))))))
       obtain rfl:=nD hm62
       exact zC ⟨Z,_,Z,⟨U34,f37,Z,le35,hS41⟩⟩
     ·have hm64:=hx30;rw [if_neg c39] at hm64;replace c39:=zF c39
      refine cF Z c39 (ZF (zd ?_))
      have q:=wAQ hm64
      obtain ⟨v65,hm66,e67⟩:=q
      obtain rfl:=hb31 v65 e67
      refine zd (zx (zC (zD (sR fL1 Z (oA Z Z (eN (zP (ZY (fun x71 σ_ w_=>∃ (U_:PHeap),σ_ 1=.pointer (some ⟨b2,0,none⟩)/\σ_ 4=jV x71/\PHeap.Le U34 U_/\sW w U U_ [.blk b2 58 B0] w_) hm66 ?_ ?_))))))))
      ·exact ⟨U34,f37,Z,(zN _),hS36⟩
      ·rintro x71 xx74 σ72 W73 ⟨U79,f82,f83,le80,hS81⟩ hx75 hb76
       refine zD (sR fL5 Z (oM Z f83 (oR Z (zO Z f82 zM Z zI) (oL Z (hS81.ldB (j:=0) Z Z Z zJ (v:=.slice pA0_1 p0.Bibs.length pc0_1) Z) (oR Z (zY Z Z zA) (oR Z (zS Z Z Z) (eN ?_)))))))
       by_cases c84:x71 < (↑p0.Bibs.length:Int)
       ·have hm85:=hx75;rw [if_pos c84] at hm85;replace c84:=zF c84
        refine cT Z c84 (kN (zD (zP (zD (sR (wOp (.fx 5 (.nil) .stop)) Z (oR Z (zO Z f82 zM Z zI) (oL Z (hS81.ldB (j:=0) Z Z Z zJ (v:=.slice pA0_1 p0.Bibs.length pc0_1) Z) (oM Z f83 (bnK hm85 fun x86 h87 hm88=>?_)))))))))
        have h89:=ha0.le le12
        have h90:=h89.le le35
        have h91:=h90.le le80
        have q:=h91.el (fun _=>rfl) (wAL h87)
        obtain ⟨b92,off93,hA94,hC95⟩:=q
        refine oR Z (zq Z Z hA94 Z zA zG (wBL h87) (wBO h87)) (oL Z (hS81.ldC (f:=0) hC95 (v:=jV x86) Z Z zQ Z) (bnK hm88 fun x96 h97 hm98=>zV 0 Z Z Z Z (zW Z Z Tryz.call67 (zK Z (zK Z (zK Z zh))) Z) hS81 (fun hs=>wBt x86 1 999 W73 U79 hs h97) (.inr Z) ?_))
        rintro U99 L100 v101 W102 le103 hS104 ⟨rfl,rfl⟩
        have hS105:sW w U U99 [.blk b2 58 B0] W102:=hS104
        refine eN (ifc hm98 ?_ ?_)
        ·intro c106 hm107
         refine ZI (congrArg nE c106.out) (sR fL1 Z (oA Z Z (eN (ze (zR (zn (zR ?_)))))))
         have q:=wAQ hm107
         obtain ⟨v108,hm109,e110⟩:=q
         obtain rfl:=hb76 v108 e110
         refine zR (zn (zR ?_))
         cases hm109
         exact ⟨rfl,_,(zz rfl),U99,_,(hS105.pick [] _ (by decide) rfl),rfl,rfl⟩
        ·intro c106 hm111
         refine zy (congrArg nE (nG.2 c106.out)) (kN (sR fL1 Z (oA Z Z (eN (zP (ZY (fun x115 σ_ w_=>∃ (U_:PHeap),σ_ 1=.pointer (some ⟨b2,0,none⟩)/\σ_ 4=jV x71/\σ_ 5=jV x115/\PHeap.Le U99 U_/\sW w U U_ [.blk b2 58 B0] w_) hm111 ?_ ?_))))))
         ·exact ⟨U99,f82,f83,Z,(zN _),hS105⟩
         ·rintro x115 xx118 σ116 W117 ⟨U123,f126,f127,f128,le124,hS125⟩ hx119 hb120
          refine zD (sR fL8 Z (oM Z f128 (oR Z (zO Z f126 zM Z zm) (oL Z (hS125.ldB (j:=0) Z Z Z zr (v:=.slice pA0_2 p0.Times.length pc0_2) Z) (oM Z f127 (bnK hx119 fun x129 h130 hm131=>?_))))))
          have h132:=ha1.le le12
          have h133:=h132.le le35
          have h134:=h133.le le80
          have h135:=h134.le le103
          have h136:=h135.le le124
          have q:=h136.el (wAL h130)
          obtain ⟨b137,off138,vs141,hA139,hC140,hr142⟩:=q
          obtain ⟨pA143,pc144,rfl,h145⟩:=hr142
          replace hC140:Cl U123 b137 (off138 + x71.toNat * 1) [.slice pA143 x129.length pc144]:=hC140
          refine oR Z (zq Z Z hA139 Z zH zI (wBL h130) (wBO h130)) (oL Z (hS125.ldC (f:=0) hC140 (v:=.slice pA143 x129.length pc144) Z Z zJ Z) (oR Z (zY Z Z zA) (oR Z (zS Z Z Z) (eN (ifc hm131 ?_ ?_)))))
          ·intro c146 hm147
           refine cT Z c146 (kN (zD (zP (sR (wQD (.fx 8 (.nil) .stop)) Z (oR Z (zO Z f126 zM Z zm) (oL Z (hS125.ldB (j:=0) Z Z Z zr (v:=.slice pA0_2 p0.Times.length pc0_2) Z) (oM Z f127 ?_)))))))
           have q:=h136.el (wAL h130)
           obtain ⟨b148,off149,vs152,hA150,hC151,hr153⟩:=q
           obtain ⟨pA154,pc155,rfl,h156⟩:=hr153
           replace hC151:Cl U123 b148 (off149 + x71.toNat * 1) [.slice pA154 x129.length pc155]:=hC151
           refine oR Z (zq Z Z hA150 Z zH zI (wBL h130) (wBO h130)) (oL Z (hS125.ldC (f:=0) hC151 (v:=.slice pA154 x129.length pc155) Z Z zJ Z) (oM Z f128 (bnK hm147 fun x157 h158 hm159=>?_)))
           have q:=h156.el (fun _=>rfl) (wAL h158)
           obtain ⟨b160,off161,hA162,hC163⟩:=q
           refine oR Z (zq Z Z hA162 Z zA zG (wBL h158) (wBO h158)) (oL Z (hS125.ldC (f:=0) hC163 (v:=jV x157) Z Z zQ Z) (bnK hm159 fun x164 h165 hm166=>zV 0 Z Z Z Z (zW Z Z Tryz.call67 (zK Z (zK Z (zK Z zh))) Z) hS125 (fun hs=>wBt x157 0 360000 W117 U123 hs h165) (.inr Z) ?_))
           rintro U167 L168 v169 W170 le171 hS172 ⟨rfl,rfl⟩
           have hS173:sW w U U167 [.blk b2 58 B0] W170:=hS172
           refine eN (ifc hm166 ?_ ?_)
           ·intro c174 hm175
            refine ZI (congrArg nE c174.out) (sR fL1 Z (oA Z Z (eN (ze (zn (zR ?_))))))
            have q:=wAQ hm175
            obtain ⟨v176,hm177,e178⟩:=q
            obtain rfl:=hb120 v176 e178
            refine zR (zn (zn (zR ?_)))
            have q:=wAQ hm177
            obtain ⟨v179,hm180,e181⟩:=q
            obtain rfl:=hb76 v179 e181
            refine zR (zn (zR ?_))
            cases hm180
            exact ⟨rfl,_,(zz rfl),U167,_,(hS173.pick [] _ (by decide) rfl),rfl,rfl⟩
           ·intro c174 hm182
            refine zy (congrArg nE (nG.2 c174.out)) (ZH (zZ (zC (rR fL3 Z (oM Z f128 (oR Z (zX Z Z Z) (oA Z Z (zj ?_))))))))
            obtain rfl:=nD hm182
            exact zC ⟨Z,_,Z,⟨U167,f126,f127,Z,(le124.trans le171),hS173⟩⟩
          ·intro c146 hm184
           refine cF Z c146 (ZF (zd ?_))
           have q:=wAQ hm184
           obtain ⟨v185,hm186,e187⟩:=q
           obtain rfl:=hb120 v185 e187
           refine zd (zx (zZ (zC (rR fL3 Z (oM Z f127 (oR Z (zX Z Z Z) (oA Z Z (zj ?_))))))))
           obtain rfl:=nD hm186
           exact zC ⟨Z,_,Z,⟨U123,f126,Z,((le80.trans le103).trans le124),hS125⟩⟩
       ·have hm189:=hx75;rw [if_neg c84] at hm189;replace c84:=zF c84
        refine cF Z c84 (ZF (zd ?_))
        have q:=wAQ hm189
        obtain ⟨v190,hm191,e192⟩:=q
        obtain rfl:=hb76 v190 e192
        refine zd (zx (zC (zD (sR (.fl 0 (.fl 1 (.fx 2 (.nil) .stop))) Z (oR Z (zO Z f82 zM Z zI) (oL Z (hS81.ldB (j:=0) Z Z Z zJ (v:=.slice pA0_1 p0.Bibs.length pc0_1) Z) ?_))))))
        have h193:=ha0.le le12
        have h194:=h193.le le35
        have h195:=h194.le le80
        refine bnK hm191 fun x196 h197 hm198=>zV 0 Z Z Z Z (zW Z Z Tryz.call68 (zK Z zh) Z) hS81 (fun hs=>wDQ p0.Bibs pA0_1 pc0_1 W73 U79 hs h195 h197) (.inr Z) ?_
        rintro U199 L200 v201 W202 le203 hS204 ⟨rfl,rfl⟩
        have hS205:sW w U U199 [.blk b2 58 B0] W202:=hS204
        refine eN (ifc hm198 ?_ ?_)
        ·intro c206 hm207
         refine ZI (congrArg nE c206.out) (sR fL1 Z (oA Z Z (eN (ze (zR ?_)))))
         cases hm207
         exact ⟨rfl,_,(zz rfl),U199,_,(hS205.pick [] _ (by decide) rfl),rfl,rfl⟩
        ·intro c206 hm208
         refine zy (congrArg nE (nG.2 c206.out)) (kN (zD (sR fL1 Z (oA Z Z (eN (zP (ZY (fun x212 σ_ w_=>∃ (U_:PHeap),σ_ 1=.pointer (some ⟨b2,0,none⟩)/\σ_ 6=jV x212/\PHeap.Le U199 U_/\sW w U U_ [.blk b2 58 B0] w_) hm208 ?_ ?_)))))))
         ·exact ⟨U199,f82,Z,(zN _),hS205⟩
         ·rintro x212 xx215 σ213 W214 ⟨U220,f223,f224,le221,hS222⟩ hx216 hb217
          refine zD (sR fL5 Z (oM Z f224 (oR Z (zO Z f223 zM Z zm) (oL Z (hS222.ldB (j:=0) Z Z Z zr (v:=.slice pA0_2 p0.Times.length pc0_2) Z) (oR Z (zY Z Z zH) (oR Z (zS Z Z Z) (eN ?_)))))))
          by_cases c225:x212 < (↑p0.Times.length:Int)
          ·have hm226:=hx216;rw [if_pos c225] at hm226;replace c225:=zF c225
           refine cT Z c225 (kN (zD (zP (sR fL1 Z (oA Z Z (eN (zP (ZY (fun x230 σ_ w_=>∃ (U_:PHeap),σ_ 1=.pointer (some ⟨b2,0,none⟩)/\σ_ 6=jV x212/\σ_ 7=jV x230/\PHeap.Le U220 U_/\sW w U U_ [.blk b2 58 B0] w_) hm226 ?_ ?_))))))))
           ·exact ⟨U220,f223,f224,Z,(zN _),hS222⟩
           ·rintro x230 xx233 σ231 W232 ⟨U238,f241,f242,f243,le239,hS240⟩ hx234 hb235
            refine zD (sR fL8 Z (oM Z f243 (oR Z (zO Z f241 zM Z zm) (oL Z (hS240.ldB (j:=0) Z Z Z zr (v:=.slice pA0_2 p0.Times.length pc0_2) Z) (oM Z f242 (bnK hx234 fun x244 h245 hm246=>?_))))))
            have h247:=ha1.le le12
            have h248:=h247.le le35
            have h249:=h248.le le80
            have h250:=h249.le le203
            have h251:=h250.le le221
            have h252:=h251.le le239
            have q:=h252.el (wAL h245)
            obtain ⟨b253,off254,vs257,hA255,hC256,hr258⟩:=q
            obtain ⟨pA259,pc260,rfl,h261⟩:=hr258
            replace hC256:Cl U238 b253 (off254 + x212.toNat * 1) [.slice pA259 x244.length pc260]:=hC256
            refine oR Z (zq Z Z hA255 Z zH zI (wBL h245) (wBO h245)) (oL Z (hS240.ldC (f:=0) hC256 (v:=.slice pA259 x244.length pc260) Z Z zJ Z) (oR Z (zY Z Z zA) (oR Z (zS Z Z Z) (eN (ifc hm246 ?_ ?_)))))
            ·intro c262 hm263
             refine cT Z c262 (kN (zD (zP (zD (ZK ZJ [3,1,3,3,1,3,3,1,3,1,3,3,1,3,3,3,1,3] fL18 (by kernel_rfl) ?_)))))
             have hS264:=hS240.drew
             generalize hw_W265:({ W232 with drawn:=W232.drawn + 1 }:World)=W265 at hS264 ⊢
             refine oR Z (zO Z f241 zM Z zm) (oL Z (hS264.ldB (j:=0) Z Z Z zr (v:=.slice pA0_2 p0.Times.length pc0_2) Z) (oM Z f242 ?_))
             have q:=h252.el (wAL h245)
             obtain ⟨b266,off267,vs270,hA268,hC269,hr271⟩:=q
             obtain ⟨pA272,pc273,rfl,h274⟩:=hr271
             replace hC269:Cl U238 b266 (off267 + x212.toNat * 1) [.slice pA272 x244.length pc273]:=hC269
             refine oR Z (zq Z Z hA268 Z zH zI (wBL h245) (wBO h245)) (oL Z (hS264.ldC (f:=0) hC269 (v:=.slice pA272 x244.length pc273) Z Z zJ Z) (oM Z f243 (bnK hm263 fun x275 h276 hm277=>?_)))
             have q:=h274.el (fun _=>rfl) (wAL h276)
             obtain ⟨b278,off279,hA280,hC281⟩:=q
             refine oR Z (zq Z Z hA280 Z zA zG (wBL h276) (wBO h276)) (oL Z (hS264.ldC (f:=0) hC281 (v:=jV x275) Z Z zQ Z) (oR Z (zO Z f241 zM Z zm) (oL Z (hS264.ldB (j:=0) Z Z Z zr (v:=.slice pA0_2 p0.Times.length pc0_2) Z) (oM Z f242 ?_))))
             have q:=h252.el (wAL h245)
             obtain ⟨b282,off283,vs286,hA284,hC285,hr287⟩:=q
             obtain ⟨pA288,pc289,rfl,h290⟩:=hr287
             replace hC285:Cl U238 b282 (off283 + x212.toNat * 1) [.slice pA288 x244.length pc289]:=hC285
             refine oR Z (zq Z Z hA284 Z zH zI (wBL h245) (wBO h245)) (oL Z (hS264.ldC (f:=0) hC285 (v:=.slice pA288 x244.length pc289) Z Z zJ Z) (oM Z f243 (oR Z (Runs.subw Z Z Z) (bnK hm277 fun x291 h292 hm293=>?_))))
             have q:=h290.el (fun _=>rfl) (wAL h292)
             obtain ⟨b294,off295,hA296,hC297⟩:=q
             refine oR Z (zq Z Z hA296 Z zA zG (wBL h292) (wBO h292)) (oL Z (hS264.ldC (f:=0) hC297 (v:=jV x291) Z Z zQ Z) (oR Z (Runs.leq Z Z Z) (eN (ifc hm293 ?_ ?_))))
             ·intro c298 hm299
              refine cT Z c298 (sR fL1 Z (oA Z Z (eN (ze (zn (zR ?_))))))
              have q:=wAQ hm299
              obtain ⟨v300,hm301,e302⟩:=q
              obtain rfl:=hb235 v300 e302
              refine zR (zn (zn (zR ?_)))
              have q:=wAQ hm301
              obtain ⟨v303,hm304,e305⟩:=q
              obtain rfl:=hb217 v303 e305
              refine zR (zn (zR ?_))
              cases hm304
              exact ⟨rfl,_,(zz rfl),U238,_,(hS264.pick [] _ (by decide) rfl),rfl,rfl⟩
             ·intro c298 hm306
              refine cF Z c298 (ZH (zZ (zC (rR fL3 Z (oM Z f243 (oR Z (zX Z Z Z) (oA Z Z (zj ?_))))))))
              obtain rfl:=nD hm306
              exact zC ⟨Z,_,Z,⟨U238,f241,f242,Z,le239,hS264⟩⟩
            ·intro c262 hm308
             refine cF Z c262 (ZF (zd ?_))
             have q:=wAQ hm308
             obtain ⟨v309,hm310,e311⟩:=q
             obtain rfl:=hb235 v309 e311
             refine zd (zx (zZ (zC (rR fL3 Z (oM Z f242 (oR Z (zX Z Z Z) (oA Z Z (zj ?_))))))))
             obtain rfl:=nD hm310
             exact zC ⟨Z,_,Z,⟨U238,f241,Z,(le221.trans le239),hS240⟩⟩
          ·have hm313:=hx216;rw [if_neg c225] at hm313;replace c225:=zF c225
           refine cF Z c225 (ZF (zd ?_))
           have q:=wAQ hm313
           obtain ⟨v314,hm315,e316⟩:=q
           obtain rfl:=hb217 v314 e316
           refine zd (zx (zC (sR fL1 Z (oA Z Z (eN (ze ?_))))))
           cases hm315
           exact ⟨rfl,_,(zz rfl),U220,_,(hS222.pick [] _ (by decide) rfl),rfl,rfl⟩
   ·intro c21 hm317
    refine cT Z c21 (sR fL1 Z (oA Z Z (eN (ze (zR ?_)))))
    cases hm317
    exact ⟨rfl,_,(zz rfl),U8,_,(hS14.pick [] _ (by decide) rfl),rfl,rfl⟩
theorem wDR (p0:List Int) (p1:Int) (w:World) (U:PHeap) (hS:St0 w U [])  {r:(List Int)} (hm:wAw p0 p1=some r):Gv Tryz.prog 157 [.slice none 0 0,jV p1] w (wCR w [] U (fun U_ L_ v=>∃ (A0:Option Addr) (c0:Nat),v=.slice A0 r.length c0/\L_=[.row A0 c0 3 1 (nA KL.encI r)])):=by
 unfold wAw at hm
 refine Gv.of Tryz.func157 Z Tryz.ntmps157 Tryz.results157 Z (sR fL1 Z (oA Z Z (eN (zD (sR fL2 Z (oM Z Z (oR Z (zS Z Z Z) (eN ?_))))))))
 by_cases c1:p1 < 0
 ·have hm2:=hm;rw [if_pos c1] at hm2;replace c1:=zF c1
  refine cT Z c1 (rR (.fx 0 (.fx 1 (.nil) .stop) .stop) Z ?_)
  cases hm2
 ·have hm3:=hm;rw [if_neg c1] at hm3;replace c1:=zF c1
  refine cF Z c1 (kN (zD (sR fL8 rfl (zf rfl rfl rfl rfl rfl rfl (zf rfl rfl rfl rfl rfl rfl (zt rfl rfl rfl rfl (fun _=>Runs.capn rfl rfl zA) (zf rfl rfl rfl rfl rfl rfl (zt rfl rfl rfl rfl (fun _=>zY rfl rfl zA) (zt rfl rfl rfl rfl (fun _=>ZC (Runs.subw rfl rfl rfl) (congrArg (jV) (show w64 (0 - 0)=0 by decide))) (zt rfl rfl rfl rfl (fun _=>Runs.subw rfl rfl rfl) (OKS.ra rfl rfl rfl rfl rfl rfl (eN (sR fL2 rfl (zf rfl rfl rfl rfl rfl rfl (zt rfl rfl rfl rfl (fun _=>Za rfl rfl rfl) (eN (ifc hm3 ?_ ?_)))))))))))))))))
  ·intro c4 hm5
   refine cT Z c4 (rR (wOp (.fx 5 (fC6_9 (.nil)) .stop)) rfl (zf rfl rfl rfl rfl rfl rfl (zf rfl rfl rfl rfl rfl rfl (zt rfl rfl rfl rfl (fun _=>Runs.capn rfl rfl zA) (zt rfl rfl rfl rfl (fun _=>ZC (Runs.slc (sz:=1) (a:=0) (b:=0) rfl rfl (.inr ⟨rfl,rfl⟩) (.inl ⟨_,rfl,rfl⟩) zA zG (by decide) (by decide) (by decide) (Nat.le_refl _)) rfl) (zf rfl rfl rfl rfl rfl rfl (bnK hm5 fun x6 h7 hm8=>OKS.appendZ (enc:=KL.encI) (z:=(0:Int)) (xs:=x6) rfl rfl rfl rfl rfl Tryz.underlying23 Tryz.underlying3 wFy rfl rfl rfl rfl rfl hS rfl rfl h7 rfl ?_)))))))
   intro W9 A10 c11 hS12
   have hS14:sW w U U [.row A10 c11 3 1 (nA KL.encI x6)] W9:=hS12
   refine oM Z Z (oR Z (zY Z Z zA) ?_)
   have hp15:=hS14.rowCap (j:=0) rfl (by decide) (wAF (f:=KL.encI) (sz:=1) (fun _=>rfl) x6)
   refine zt (v:=.slice A10 0 c11) Z Z Z Z (fun _=>ZC (Runs.slc (sz:=1) (a:=0) (b:=0) Z Z (.inr ⟨Z,Z⟩) (.inl ⟨_,Z,Z⟩) zA zG (Int.le_refl _) (Int.le_refl _) (Int.natCast_nonneg _) hp15) slc0) ?_
   have hS16:=hS14.cutRowM (enc:=KL.encI) (k:=0) (b:=0) rfl
   have hS17:sW w U U [.row A10 c11 3 1 (nA KL.encI ([]:List Int))] W9:=hS16
   refine oA Z Z (eN (sR fL2 Z (oM Z Z (oA Z Z (eN (ze ?_))))))
   cases hm8
   exact ⟨Z,_,(zz Z),U,_,hS17,A10,c11,Z,Z⟩
  ·intro c4 hm18
   refine cF Z c4 (kN (sR fL2 Z (oM Z Z (oA Z Z (eN (ze ?_))))))
   have hS19:=hS.nilrow 3 1
   cases hm18
   exact ⟨Z,_,(zz Z),U,_,hS19,none,0,Z,Z⟩
theorem wDA (p0:List (List Int)) (pA0:Option Addr) (pc0:Nat) (w:World) (U:PHeap) (hS:St0 w U []) (ha0:SlR U wDc pA0 pc0 p0) {r:(List Int)} (hm:wAq p0=some r):Gv Tryz.prog 118 [.slice pA0 p0.length pc0] w (wCR w [] U (fun U_ L_ v=>∃ (A0:Option Addr) (c0:Nat),v=.slice A0 r.length c0/\L_=[.row A0 c0 3 1 (nA KL.encI r)])):=by
 unfold wAq at hm
 refine Gv.of Tryz.func118 Z Tryz.ntmps118 Tryz.results118 Z (sR fL1 Z (oA Z Z (eN (sR fL1 Z (oA Z Z (eN (zD (sR fL3 Z (oM Z Z (oR Z (zY Z Z zH) (oM Z Z (eN (zP (bnK hm fun y12 hf9 hm8=>?_))))))))))))))
 have q:=wCG hf9
 obtain ⟨hle10,hf11⟩:=q
 replace hle10:=zF hle10
 refine CK.forN' (fun k7 x6 σ_ w_=>∃ (U_:PHeap),σ_ 11=jV (↑k7:Int)/\σ_ 0=.slice pA0 p0.length pc0/\σ_ 3=jV x6/\σ_ 9=.slice pA0 p0.length pc0/\σ_ 10=jV (↑p0.length:Int)/\PHeap.Le U U_/\sW w U U_ [] w_) hf11 ?_ ?_ ?_
 ·exact ⟨U,Z,Z,Z,Z,Z,(zN _),hS⟩
 ·rintro k7 x6 xx15 σ13 W14 hk18 ⟨U20,fi19,f23,f24,f25,f26,le21,hS22⟩ hx16
  have c27:Hid ((↑k7:Int) < (↑p0.length:Int)):=zF (wBi hk18)
  replace hk18:=zF hk18
  have hi28:Hid (w64 ((↑k7:Int) + 1)=(↑(k7 + 1):Int)):=zF (by have h1:=hle10.out;have h2:=c27.out;rw [wAe] <;> omega)
  refine sR fL1 Z (oR Z (zS Z fi19 f26) (eN (zD (cT Z c27 (kN (zD (zP (sR fL3 Z (bnK hx16 fun x29 h30 hm31=>?_)))))))))
  have h32:=ha0.le le21
  have q:=h32.el (wAL h30)
  obtain ⟨b33,off34,vs37,hA35,hC36,hr38⟩:=q
  obtain ⟨pA39,pc40,rfl,h41⟩:=hr38
  replace hC36:Cl U20 b33 (off34 + k7 * 1) [.slice pA39 x29.length pc40]:=hC36
  refine oR Z (ZD Z f25 hA35 fi19 zH zI (wBe h30)) (oL Z (hS22.ldC (f:=0) hC36 (v:=.slice pA39 x29.length pc40) Z Z zJ Z) (oA Z Z (eN (sR fL5 Z (oM Z f24 (oM Z Z (oR Z (zY Z Z zA) (oR Z (zX Z Z Z) (oA Z Z (eN (sR fL2 Z (oM Z Z (oR Z (zS Z Z Z) (eN (ifc hm31 ?_ ?_)))))))))))))))
  ·intro c42 hm43
   refine cT Z c42 (rR (.fx 0 (.fx 1 (.nil) .stop) .stop) Z ?_)
   cases hm43
  ·intro c42 hm44
   refine cF Z c42 (ZH (zZ (zC (rR fL2 Z (oR Z (ZC (zX Z fi19 Z) (congrArg (jV) hi28.out)) (oM Z Z (zj ?_)))))))
   cases hm44
   exact zC ⟨Z,⟨U20,Z,f23,Z,f25,f26,le21,hS22⟩⟩
 ·rintro σ46 W47 ⟨U51,fi49,f54,f55,f56,f57,le52,hS53⟩
  have c58:Hid (¬ ((↑(((↑p0.length:Int):Int) - 0).toNat:Int) < (↑p0.length:Int))):=zF (wBQ)
  refine sR fL1 Z (oR Z (zS Z fi49 f57) (eN (zD (cF Z c58 (ZF (zd (zd (zx (zC (sR (.fl 0 (.fx 1 (.fl 2 (.nil)) .stop)) Z (oM Z f55 (bnK hm8 fun x59 h60 hm61=>zV 0 Z Z Z Z (zW Z Z Tryz.call157 (zK Z (zK Z zh)) Z) hS53 (fun hs=>wDR [] y12 W47 U51 hs h60) (.inr Z) ?_))))))))))))
  rintro U62 L63 v64 W65 le66 hS67 ⟨A68,c69,rfl,rfl⟩
  have hS71:sW w U U62 [.row A68 c69 3 1 (nA KL.encI x59)] W65:=hS67
  refine oA Z Z (eN (zD (sR fL3 Z (oM Z f54 (oR Z (zY Z Z zH) (oM Z Z (eN (zP (bnK hm61 fun y91 hf88 hm87=>?_)))))))))
  have q:=wCG hf88
  obtain ⟨hle89,hf90⟩:=q
  replace hle89:=zF hle89
  refine CK.forN' (fun k86 l83 σ_ w_=>∃ (U_:PHeap) (A84:Option Addr) (c85:Nat),σ_ 27=jV (↑k86:Int)/\σ_ 6=.slice A84 l83.length c85/\σ_ 25=.slice pA0 p0.length pc0/\σ_ 26=jV (↑p0.length:Int)/\PHeap.Le U62 U_/\sW w U U_ [.row A84 c85 3 1 (nA KL.encI l83)] w_) hf90 ?_ ?_ ?_
  ·exact ⟨U62,A68,c69,Z,Z,Z,Z,(zN _),hS71⟩
  ·rintro k86 l83 xx94 σ92 W93 hk97 ⟨U99,A84,c85,fi98,f102,f103,f104,le100,hS101⟩ hx95
   have c105:Hid ((↑k86:Int) < (↑p0.length:Int)):=zF (wBi hk97)
   replace hk97:=zF hk97
   have hi106:Hid (w64 ((↑k86:Int) + 1)=(↑(k86 + 1):Int)):=zF (by have h1:=hle89.out;have h2:=c105.out;rw [wAe] <;> omega)
   refine sR fL1 Z (oR Z (zS Z fi98 f104) (eN (zD (cT Z c105 (kN (zD (zP (sR fL3 Z (bnK hx95 fun x107 h108 hm109=>?_)))))))))
   have h110:=ha0.le le52
   have h111:=h110.le le66
   have h112:=h111.le le100
   have q:=h112.el (wAL h108)
   obtain ⟨b113,off114,vs117,hA115,hC116,hr118⟩:=q
   obtain ⟨pA119,pc120,rfl,h121⟩:=hr118
   replace hC116:Cl U99 b113 (off114 + k86 * 1) [.slice pA119 x107.length pc120]:=hC116
   refine oR Z (ZD Z f103 hA115 fi98 zH zI (wBe h108)) (oL Z (hS101.ldC (f:=0) hC116 (v:=.slice pA119 x107.length pc120) Z Z zJ Z) (oA Z Z (eN (rR (.fl 0 (.fl 1 (.fx 2 (.fl 3 (.nil)) .stop))) Z (oM Z f102 (oM Z Z (bnK hm109 fun x122 h123 hm124=>OKS.append (j:=0) (enc:=KL.encI) (xs:=l83) (ys:=x107) (zs:=x122) Z Z Z Z Z Tryz.underlying23 wFy Z Z Z Z Z Z hS101 Z Z Z (hS101.srcS h121) (fun _=>Z) (fun _=>Z) h123 Z ?_)))))))
   intro A125 c126 W127 hS128
   have hS129:sW w U U99 [.row A125 c126 3 1 (nA KL.encI x122)] W127:=hS128
   refine oA Z Z (zj (zZ (zC (rR fL2 Z (oR Z (ZC (zX Z fi98 Z) (congrArg (jV) hi106.out)) (oM Z Z (zj ?_)))))))
   cases hm124
   exact zC ⟨Z,⟨U99,A125,c126,Z,Z,f103,f104,le100,hS129⟩⟩
  ·rintro σ133 W134 ⟨U142,A140,c141,fi136,f145,f146,f147,le143,hS144⟩
   have c148:Hid (¬ ((↑(((↑p0.length:Int):Int) - 0).toNat:Int) < (↑p0.length:Int))):=zF (wBQ)
   refine sR fL1 Z (oR Z (zS Z fi136 f147) (eN (zD (cF Z c148 (ZF (zd (zd (zx (zC (sR fL2 Z (oM Z f145 (oA Z Z (eN (ze ?_))))))))))))))
   have hE:=nD hm87;first | subst r | cases hE
   exact ⟨Z,_,(zz Z),U142,_,hS144,A140,c141,Z,Z⟩
end Go.Proofs.YtbpllbhagaoocaaGreat
namespace Go.Proofs.YtbpllbhagaoocaaGreat
open Go.KL
set_option maxHeartbeats 4000000
theorem wDS (p0:List Int) (pA0:Option Addr) (pc0:Nat) (w:World) (U:PHeap) (hS:St ⟨w,[.row pA0 pc0 3 1 (nA KL.encI p0)],U⟩ U [.row pA0 pc0 3 1 (nA KL.encI p0)] w) {r:List Int} (hm:wBP p0=some r):Gv Tryz.prog 119 [.slice pA0 p0.length pc0] w (wCR w [.row pA0 pc0 3 1 (nA KL.encI p0)] U (fun U_ L_ v=>v=.tuple #[]/\L_=[.row pA0 pc0 3 1 (nA KL.encI r)]/\r.length=p0.length)) :=
 wME (fun b o c zs w h1 h2 h3=>Go.Proofs.Tryz.slices_Sort_int b o c zs w h1 h2 h3) (fun p c w=>Go.Proofs.Tryz.slices_Sort_int_none p c w) hS hm
theorem wCq (p0:List Int) (pA0:Option Addr) (pc0:Nat) (w:World) (U:PHeap) (hS:St ⟨w,[.row pA0 pc0 3 1 (nA KL.encI p0)],U⟩ U [.row pA0 pc0 3 1 (nA KL.encI p0)] w) {r:List Int} (hm:wAy p0=some r):Gv Tryz.prog 121 [.slice pA0 p0.length pc0] w (wCR w [.row pA0 pc0 3 1 (nA KL.encI p0)] U (fun U_ L_ v=>∃ (A0:Option Addr) (c0:Nat),v=.slice A0 r.length c0/\L_=[.row A0 c0 3 1 (nA KL.encI r)])) :=
 wIL (fun b o c zs w h1 h2 h3=>Go.Proofs.Tryz.slices_Compact_int b o c zs w h1 h2 h3) (fun p c w=>Go.Proofs.Tryz.slices_Compact_int_empty p c w) hS hm
theorem wCj {S E:Type} (PY:S->PHeap->List Res->Prop) (PE:E->PHeap->List Res->Prop) (f:S->Int->Option (S ⊕ E)) (y:Nat) (s0:S) (p1:List Int) (pb1:Nat) (pA1:Option Addr) (pc1:Nat) (w:World) (L:List Res) (U:PHeap) (hS:St ⟨w,L,U⟩ U L w) (hP:PY s0 U L) (hY:YOK Tryz.prog y wLS PY PE f U) (ha0:Cl U pb1 0 [.slice pA1 p1.length pc1]) (ha1:Sl U 1 pA1 pc1 p1.length (nA KL.encI p1)) {r:S ⊕ E} (hm:wAY f s0 p1=some r):Gv Tryz.prog 159 [.func (.yield y) #[] #[],.pointer (some ⟨pb1,0,none⟩)] w (ItS w L U PY PE r):=by
 unfold wAY at hm
 refine Gv.of Tryz.func159 Z Tryz.ntmps159 Tryz.results159 Z (sR fL3 Z (oL Z (hS.ldC (f:=0) ha0 (v:=.slice pA1 p1.length pc1) Z Z zJ Z) (oR Z (zY Z Z zA) (oM Z Z (eN (zP ?_))))))
 have q:=wBx hm
 obtain ⟨r13,hX14⟩:=q
 have q:=wBw hX14
 obtain ⟨hle15,hf16⟩:=q
 replace hle15:=zF hle15
 refine Zd (fun k12 s10 σ_ w_=>∃ (U_:PHeap) (LY11:List Res),σ_ 7=jV (↑k12:Int)/\σ_ 0=.func (.yield y) #[] #[]/\σ_ 5=.slice pA1 p1.length pc1/\σ_ 6=jV (↑p1.length:Int)/\PHeap.Le U U_/\St ⟨w,L,U⟩ U_ LY11 w_/\PY s10 U_ LY11) hf16 ?_ ?_ ?_
 ·exact ⟨U,L,Z,Z,Z,Z,(zN _),hS,hP⟩
 ·rintro k12 s10 xx19 σ17 W18 hk22 ⟨U24,LY11,fi23,f27,f28,f29,le25,hS26,h30⟩ hx20 hb21
  have c31:Hid ((↑k12:Int) < (↑p1.length:Int)):=zF (wBi hk22)
  replace hk22:=zF hk22
  have hi32:Hid (w64 ((↑k12:Int) + 1)=(↑(k12 + 1):Int)):=zF (by have h1:=hle15.out;have h2:=c31.out;rw [wAe] <;> omega)
  refine sR fL1 Z (oR Z (zS Z fi23 f29) (eN (zD (cT Z c31 (kN (zD (zP (sR fL3 Z (bnK hx20 fun x33 h34 hm35=>?_)))))))))
  have h36:=ha1.le le25
  have q:=h36.el (fun _=>rfl) (wAL h34)
  obtain ⟨b37,off38,hA39,hC40⟩:=q
  refine oR Z (ZD Z f28 hA39 fi23 zA zG (wBe h34)) (oL Z (hS26.ldC (f:=0) hC40 (v:=jV x33) Z Z zQ Z) (oA Z Z (eN (sR (.fl 0 (.fl 1 (.fx 2 (.fl 3 (.nil)) .stop))) Z (oM Z f27 (oM Z Z (bnK hm35 fun yr41 h42 hm43=>OKS.yieldT 0 (a:=x33) Z Z Z Z Z Z (zK Z zh) hS26 hY le25 h30 Z h42 Z ?_)))))))
  rintro U44 LY45 b46 W47 le48 hS49 hM50
  rcases yr41 with s51 | s51
  ·try dsimp only at hm43 hM50
   obtain ⟨rfl,hp52⟩:=hM50
   have hS53:St ⟨w,L,U⟩ U44 LY45 W47:=hS49
   refine oR Z (ZV Z Z) (eN (zy Z (ZH (zZ (zC (rR fL2 Z (oR Z (ZC (zX Z fi23 Z) (congrArg (jV) hi32.out)) (oM Z Z (zj ?_)))))))))
   obtain rfl:=nD hm43
   exact zC ⟨Z,_,Z,⟨U44,LY45,Z,f27,f28,f29,(le25.trans le48),hS53,hp52⟩⟩
  ·try dsimp only at hm43 hM50
   obtain ⟨rfl,hp56⟩:=hM50
   have hS57:St ⟨w,L,U⟩ U44 LY45 W47:=hS49
   refine oR Z (ZV Z Z) (eN (ZI Z (ze (zn (zR ?_)))))
   have q:=wAQ hm43
   obtain ⟨v58,hm59,e60⟩:=q
   obtain rfl:=wCn hm hX14 (hb21 v58 e60)
   refine zR (zn ?_)
   cases hm59
   exact ⟨Z,_,(res0),U44,_,hS57,hp56⟩
 ·rintro y65 σ61 W62 ⟨U67,L66,fi64,f70,f71,f72,le68,hS69,h73⟩ hb63
  have hm74:=wCm hm hX14 hb63
  have c75:Hid (¬ ((↑(((↑p1.length:Int):Int) - 0).toNat:Int) < (↑p1.length:Int))):=zF (wBQ)
  refine sR fL1 Z (oR Z (zS Z fi64 f72) (eN (zD (cF Z c75 (ZF (zd (zd (zx ?_))))))))
  cases hm74
  exact ⟨Z,_,(res0),U67,_,hS69,h73⟩
theorem wDB (p0:List Int) (pA0:Option Addr) (pc0:Nat) (w:World) (U:PHeap) (hS:St0 w U []) (ha0:Sl U 1 pA0 pc0 p0.length (nA KL.encI p0)) {r:Unit} (hm:wBH p0=some r):Gv Tryz.prog 120 [.slice pA0 p0.length pc0] w (wCR w [] U (fun U_ L_ v=>∃ (b0:Nat),v=.func (.func 159) #[] #[.pointer (some ⟨b0,0,none⟩)]/\L_=[]/\Cl U_ b0 0 [.slice pA0 p0.length pc0])):=by
 unfold wBH at hm
 refine Gv.of Tryz.func120 rfl Tryz.ntmps120 Tryz.results120 rfl (sR (.fx 0 (.fl 1 (.nil)) .stop) rfl (ZT (cs:=[.slice pA0 p0.length pc0]) rfl rfl rfl rfl rfl rfl (by rfl) hS ?_))
 intro W1 b2 hS3
 have q:=hS3.freeze (k:=0) rfl
 obtain ⟨U5,le6,hC7,hS8⟩:=q
 replace hC7:=Cl.of hC7
 have hS9:sW w U U5 [] W1:=hS8
 replace hC7:Cl U5 b2 0 [.slice pA0 p0.length pc0]:=hC7
 refine oA Z Z (eN (sR fL2 Z (oR Z (Runs.mkf Z zh (zK Z zh)) (oA Z Z (eN (ze ?_))))))
 cases hm
 exact ⟨Z,_,(zz Z),U5,_,hS9,b2,Z,Z,hC7⟩
theorem wEO (p0:wAA) (pA0_1:Option Addr) (pc0_1:Nat) (pA0_2:Option Addr) (pc0_2:Nat) (w:World) (U:PHeap) (hS:St0 w U []) (ha0:Sl U 1 pA0_1 pc0_1 p0.Bibs.length (nA KL.encI p0.Bibs)) (ha1:SlR U wDc pA0_2 pc0_2 p0.Times) {r:(List Int)} (hm:wAz p0=some r):Gv Tryz.prog 71 [.agg #[jV p0.Laps,.slice pA0_1 p0.Bibs.length pc0_1,.slice pA0_2 p0.Times.length pc0_2]] w (wCR w [] U (fun U_ L_ v=>∃ (b0:Nat) (A0:Option Addr) (c0:Nat),v=.func (.func 159) #[] #[.pointer (some ⟨b0,0,none⟩)]/\L_=[]/\Cl U_ b0 0 [.slice A0 r.length c0]/\Sl U_ 1 A0 c0 r.length (nA KL.encI r))):=by
 unfold wAz at hm
 refine Gv.of Tryz.func71 Z Tryz.ntmps71 Tryz.results71 Z (sR (.fx 0 (.fl 1 (.nil)) .stop) Z ?_)
 let B0:List Value:=[jV p0.Laps,.slice pA0_1 p0.Bibs.length pc0_1,.slice pA0_2 p0.Times.length pc0_2]
 refine ZT (cs:=B0) rfl rfl rfl rfl rfl rfl (by rfl) hS ?_
 intro W1 b2 hS3
 refine oA Z Z (eN (sR (.fl 0 (.fl 1 (.fx 2 (.fl 3 (.nil)) .stop))) Z (oR Z (zO Z Z zL Z zm) (oL Z (hS3.ldB (j:=0) Z Z Z zr (v:=.slice pA0_2 p0.Times.length pc0_2) Z) (bnK hm fun x5 h6 hm7=>zV 0 Z Z Z Z (zW Z Z Tryz.call118 (zK Z zh) Z) hS3 (fun hs=>wDA p0.Times pA0_2 pc0_2 W1 U hs ha1 h6) (.inr Z) ?_)))))
 rintro U8 L9 v10 W11 le12 hS13 ⟨A14,c15,rfl,rfl⟩
 have hS17:sW w U U8 [.row A14 c15 3 1 (nA KL.encI x5),.blk b2 26 B0] W11:=hS13
 refine oA Z Z (eN (sR (.fl 0 (.fx 1 (.nil) .stop)) Z (oM Z Z (bnK hm7 fun x18 h19 hm20=>zV 1 Z Z Z Z (zW Z Z Tryz.call119 (zK Z zh) Z) hS17 (fun hs=>wDS x5 A14 c15 W11 U8 hs h19) (.inl Z) ?_))))
 rintro U21 L22 v23 W24 le25 hS26 ⟨rfl,rfl,h27⟩
 have hS28:sW w U U21 [.row A14 c15 3 1 (nA KL.encI x18),.blk b2 26 B0] W24:=hS26
 refine eN (sR (.fl 0 (.fx 1 (.fx 2 (.fl 3 (.nil)) .stop) .stop)) rfl (zf rfl rfl rfl rfl rfl (nS (b:=(.slice A14 x5.length c15:Value)) (c:=(.slice A14 x18.length c15:Value)) rfl (by rw [h27])) (bnK hm20 fun x29 h30 hm31=>zV 1 rfl rfl rfl rfl (zW rfl rfl Tryz.call121 (zK rfl zh) rfl) hS28 (fun hs=>wCq x18 A14 c15 W24 U21 hs h30) (.inl rfl) ?_)))
 rintro U32 L33 v34 W35 le36 hS37 ⟨A38,c39,rfl,rfl⟩
 have hS41:sW w U U32 [.row A38 c39 3 1 (nA KL.encI x29),.blk b2 26 B0] W35:=hS37
 have q:=hS41.freezeR (k:=0) (n:=x29.length) rfl (wAF (f:=KL.encI) (sz:=1) (fun _=>rfl) x29) (by decide)
 obtain ⟨U42,le43,hs44,hS45⟩:=q
 have hS46:sW w U U42 [.blk b2 26 B0] W35:=hS45
 have q:=bnd hm31
 obtain ⟨⟨⟩,h47,hm48⟩:=q
 try dsimp only at hm48
 refine zV 0 Z Z Z Z (zW Z Z Tryz.call120 (zK Z zh) Z) hS46 (fun hs=>wDB x29 A38 c39 W35 U42 hs hs44 h47) (.inr Z) ?_
 rintro U49 L50 v51 W52 le53 hS54 ⟨b55,rfl,rfl,h56⟩
 have hS57:sW w U U49 [.blk b2 26 B0] W52:=hS54
 refine oA Z Z (eN (ze ?_))
 have h58:=hs44.le le53
 have hE:=nD hm48;first | subst r | cases hE
 exact ⟨rfl,_,(zz rfl),U49,_,(hS57.pick [] _ (by decide) rfl),b55,A38,c39,rfl,rfl,h56,h58⟩
theorem wCZ (p0:wAD) (pb0:Nat) (pA0_0_1:Option Addr) (pc0_0_1:Nat) (pA0_0_2:Option Addr) (pc0_0_2:Nat) (pA0_1:Option Addr) (pc0_1:Nat) (pA0_2:Option Addr) (pc0_2:Nat) (p1:Int) (p2:Int) (p3:Int) (w:World) (U:PHeap) (hS:St0 w U []) (ha0:Cl U pb0 0 [jV p0.Race.Laps,.slice pA0_0_1 p0.Race.Bibs.length pc0_0_1,.slice pA0_0_2 p0.Race.Times.length pc0_0_2,.slice pA0_1 p0.done.length pc0_1,.slice pA0_2 p0.out.length pc0_2]) (ha1:Sl U 1 pA0_0_1 pc0_0_1 p0.Race.Bibs.length (nA KL.encI p0.Race.Bibs)) (ha2:SlR U wDc pA0_0_2 pc0_0_2 p0.Race.Times) (ha3:Sl U 1 pA0_1 pc0_1 p0.done.length (nA KL.encI p0.done)) (ha4:Sl U 1 pA0_2 pc0_2 p0.out.length (nA KL.encT p0.out)) {r:Int} (hm:wAg p0 p1 p2 p3=some r):Gv Tryz.prog 73 [.pointer (some ⟨pb0,0,none⟩),jV p1,jV p2,jV p3] w (wCR w [] U (fun U_ L_ v=>v=jV r/\L_=[])):=by
 unfold wAg at hm
 refine Gv.of Tryz.func73 Z Tryz.ntmps73 Tryz.results73 Z (sR fL1 Z (oA Z Z (eN (sR fL1 Z (oA Z Z (eN (zD (sR fL6 Z (oM Z Z (oR Z (ZN Z Z) (oR Z (zO Z Z zu Z zI) (oL Z (hS.ldC (f:=3) ha0 (v:=.slice pA0_1 p0.done.length pc0_1) Z Z zJ Z) (oR Z (zY Z Z zA) (oM Z Z (eN (zP (bnK hm fun y12 hf9 hm8=>?_)))))))))))))))))
 have q:=wCG hf9
 obtain ⟨hle10,hf11⟩:=q
 replace hle10:=zF hle10
 refine CK.forN' (fun k7 x6 σ_ w_=>∃ (U_:PHeap),σ_ 17=jV (↑k7:Int)/\σ_ 0=.pointer (some ⟨pb0,0,none⟩)/\σ_ 2=jV p2/\σ_ 3=jV p3/\σ_ 9=jV x6/\σ_ 15=.slice pA0_1 p0.done.length pc0_1/\σ_ 16=jV (↑p0.done.length:Int)/\PHeap.Le U U_/\sW w U U_ [] w_) hf11 ?_ ?_ ?_
 ·exact ⟨U,Z,Z,Z,Z,Z,Z,Z,(zN _),hS⟩
 ·rintro k7 x6 xx15 σ13 W14 hk18 ⟨U20,fi19,f23,f24,f25,f26,f27,f28,le21,hS22⟩ hx16
  have c29:Hid ((↑k7:Int) < (↑p0.done.length:Int)):=zF (wBi hk18)
  replace hk18:=zF hk18
  have hi30:Hid (w64 ((↑k7:Int) + 1)=(↑(k7 + 1):Int)):=zF (by have h1:=hle10.out;have h2:=c29.out;rw [wAe] <;> omega)
  refine sR fL1 Z (oR Z (zS Z fi19 f28) (eN (zD (cT Z c29 (kN (bnK hx16 fun x31 hx33 hm34=>CK.cut (fun σ_ w_=>∃ (U_:PHeap),σ_ 0=.pointer (some ⟨pb0,0,none⟩)/\σ_ 2=jV p2/\σ_ 3=jV p3/\σ_ 9=jV x31/\σ_ 15=.slice pA0_1 p0.done.length pc0_1/\σ_ 16=jV (↑p0.done.length:Int)/\σ_ 17=jV (↑k7:Int)/\PHeap.Le U20 U_/\sW w U U_ [] w_) ?_ ?_))))))
  ·refine zP (sR fL5 Z (oM Z fi19 (bnK hx33 fun x35 h36 hm37=>?_)))
   have h38:=ha3.le le21
   have q:=h38.el (fun _=>rfl) (wAL h36)
   obtain ⟨b39,off40,hA41,hC42⟩:=q
   refine zt rfl rfl rfl rfl (fun _=>ZD rfl f27 hA41 fi19 zA zG (wBe h36)) (ZA rfl rfl rfl rfl (hS22.ldC (f:=0) hC42 (v:=jV x35) rfl rfl zQ rfl) rfl (OKS.ra rfl rfl rfl rfl rfl rfl (OKS.ra rfl rfl rfl rfl rfl rfl (eN (zD (ZK ZJ [3,3,3,1,3,3,1,3,3,3,3,3,3,3,3,3,3,3,3,1,3,3,1,3,3,3,1,3,3,3,3,3,3,3,3,3,3,3,1,3,3,1,3,3,3,3,1,3,3,1,3,3,3] fL53 (by kernel_rfl) ?_))))))
   have hS43:=hS22.drew
   generalize hw_W44:({ W14 with drawn:=W14.drawn + 1 }:World)=W44 at hS43 ⊢
   refine oM Z f23 (oR Z (ZN Z Z) (oR Z (zO Z Z zu Z Tryz.sizeOf76) ?_))
   have h45:=ha0.le le21
   refine oL Z (hS43.ldC (f:=4) h45 (v:=.slice pA0_2 p0.out.length pc0_2) Z Z Tryz.isAgg76 Z) (oM Z Z (bnK hm37 fun x46 h47 hm48=>?_))
   have h49:=ha4.le le21
   have q:=h49.el (fun _=>rfl) (wAL h47)
   obtain ⟨b50,off51,hA52,hC53⟩:=q
   refine oR Z (ZD Z Z hA52 Z ZM Tryz.sizeOf4 (wBe h47)) (oL Z (hS43.ldC (f:=0) hC53 (v:=.bool x46) Z Z Tryz.isAgg4 Z) (oR Z (ZV Z Z) (oM Z Z (ifc hm48 ?_ ?_))))
   ·intro c54 hm55
    refine zU Z Z Z (zo Z Z (nC c54.out) Z) (zU Z Z Z (zo Z Z (nC c54.out) Z) (zU Z Z Z (zo Z Z (nC c54.out) Z) (zU Z Z Z (zo Z Z (nC c54.out) Z) (oR Z (zg Z (nC c54.out) Z) (oM Z Z (oN Z (oN Z (oN Z (oN Z (oN Z (oN Z (oN Z (oN Z (oN Z (oN Z (oN Z (oN Z (oN Z (oN Z (oR Z (zg Z Z Z) (oM Z Z (oN Z (oN Z (oN Z (zU Z Z Z (wAG Z Z Z) (zU Z Z Z (wAG Z Z Z) (zU Z Z Z (wAG Z Z Z) (zU Z Z Z (wAG Z Z Z) (zU Z Z Z (wAG Z Z Z) (zU Z Z Z (wAG Z Z Z) (zU Z Z Z (wAG Z Z Z) (zU Z Z Z (wAG Z Z Z) (zU Z Z Z (wAG Z Z Z) (zU Z Z Z (wAG Z Z Z) (zU Z Z Z (wAG Z Z Z) (zU Z Z Z (wAG Z Z Z) (zU Z Z Z (wAG Z Z Z) (zU Z Z Z (wAG Z Z Z) (zU Z Z Z (wAG Z Z Z) (zU Z Z Z (wAG Z Z Z) (zU Z Z Z (wAG Z Z Z) (oN Z (oR Z (zg Z Z Z) (eN (zy Z (ZH (zZ ?_)))))))))))))))))))))))))))))))))))))))))))))))
    cases hm55
    exact zC ⟨Z,⟨U20,f23,f24,f25,f26,f27,f28,fi19,(zN _),hS43⟩⟩
   ·intro c54 hm57
    refine zf Z Z Z (zw Z Z (nF (c54.out))) Z Z (zf Z Z Z (zw Z Z (nF (c54.out))) Z f24 (zt Z Z Z (zw Z Z (nF (c54.out))) (fun _=>zX Z Z Z) (zt Z Z Z (zw Z Z (nF (c54.out))) (fun _=>Runs.geq Z Z Z) (oR Z (zk Z (nF (c54.out)) Z) (oM Z Z (ifc hm57 ?_ ?_))))))
    ·intro c58 hm59
     refine zf Z Z Z (wT Z c58) Z f23 (rU Z (wT Z c58) (ZN Z Z) (rU Z (wT Z c58) (zO Z Z zu Z ZG) (rU Z (wT Z c58) (zO Z Z zL Z zm) (ZA Z Z Z (wT Z c58) (hS43.ldC (f:=2) h45 (v:=.slice pA0_0_2 p0.Race.Times.length pc0_0_2) Z Z zr Z) Z (zf Z Z Z (wT Z c58) Z Z (bnK hm59 fun x60 h61 hm62=>?_))))))
     have h63:=ha2.le le21
     have q:=h63.el (wAL h61)
     obtain ⟨b64,off65,vs68,hA66,hC67,hr69⟩:=q
     obtain ⟨pA70,pc71,rfl,h72⟩:=hr69
     replace hC67:Cl U20 b64 (off65 + k7 * 1) [.slice pA70 x60.length pc71]:=hC67
     refine rU Z (wT Z c58) (ZD Z Z hA66 Z zH zI (wBe h61)) (ZA Z Z Z (wT Z c58) (hS43.ldC (f:=0) hC67 (v:=.slice pA70 x60.length pc71) Z Z zJ Z) Z (zf Z Z Z (wT Z c58) Z Z (rU Z (wT Z c58) (Runs.subw Z Z Z) (bnK hm62 fun x73 h74 hm75=>?_))))
     have q:=h72.el (fun _=>rfl) (wAL h74)
     obtain ⟨b76,off77,hA78,hC79⟩:=q
     refine rU Z (wT Z c58) (zq Z Z hA78 Z zA zG (wBL h74) (wBO h74)) (ZA Z Z Z (wT Z c58) (hS43.ldC (f:=0) hC79 (v:=jV x73) Z Z zQ Z) Z (zf Z Z Z (wT Z c58) Z f25 (rU Z (wT Z c58) (Runs.eql Z Z Z) (oR Z (zk Z (wED c58.out) Z) (oM Z Z (ifc hm75 ?_ ?_))))))
     ·intro c80 hm81
      refine zf Z Z Z (wT Z c80) Z f26 (rU Z (wT Z c80) (zS Z Z Z) (zf Z Z Z (wT Z c80) Z Z (ifc hm81 ?_ ?_)))
      ·intro c82 hm83
       refine oT Z c82 (oT Z c82 (oT Z c82 (oT Z c82 (oT Z c82 (oT Z c82 (oT Z c82 (oT Z c82 (oT Z c82 (oT Z c82 (oT Z c82 (oT Z c82 (oT Z c82 (oT Z c82 (oT Z c82 (oT Z c82 (oT Z c82 (rU Z (wT Z c80) (zk Z (wED c82.out) Z) (oR Z (zk Z (wED c80.out) Z) (eN (ZI Z (CK.fresh fun σ84 hσ85=>?_)))))))))))))))))))))
       have f86:σ84 0=.pointer (some ⟨pb0,0,none⟩):=(hσ85 0).trans f23
       have f87:σ84 2=jV p2:=(hσ85 2).trans f24
       have f88:σ84 3=jV p3:=(hσ85 3).trans f25
       have f89:σ84 9=jV x6:=(hσ85 9).trans f26
       have f90:σ84 10=jV (↑k7:Int):=(hσ85 10).trans rfl
       have f91:σ84 15=.slice pA0_1 p0.done.length pc0_1:=(hσ85 15).trans f27
       have f92:σ84 16=jV (↑p0.done.length:Int):=(hσ85 16).trans f28
       have f93:σ84 17=jV (↑k7:Int):=(hσ85 17).trans fi19
       clear hσ85
       refine rR fL2 Z (oM Z f90 (oA Z Z (zj (zZ ?_))))
       cases hm83
       exact zC ⟨Z,⟨U20,f86,f87,f88,Z,f91,f92,f93,(zN _),hS43⟩⟩
      ·intro c82 hm95
       refine zf Z Z Z (wF Z c82) Z f23 (rU Z (wF Z c82) (ZN Z Z) (rU Z (wF Z c82) (zO Z Z zu Z ZG) (rU Z (wF Z c82) (zO Z Z zL Z zI) (ZA Z Z Z (wF Z c82) (hS43.ldC (f:=1) h45 (v:=.slice pA0_0_1 p0.Race.Bibs.length pc0_0_1) Z Z zJ Z) Z (zf Z Z Z (wF Z c82) Z Z (bnK hm95 fun x96 h97 hm98=>?_))))))
       have h99:=ha1.le le21
       have q:=h99.el (fun _=>rfl) (wAL h97)
       obtain ⟨b100,off101,hA102,hC103⟩:=q
       refine rU Z (wF Z c82) (ZD Z Z hA102 Z zA zG (wBe h97)) (ZA Z Z Z (wF Z c82) (hS43.ldC (f:=0) hC103 (v:=jV x96) Z Z zQ Z) Z (zf Z Z Z (wF Z c82) Z f23 (rU Z (wF Z c82) (ZN Z Z) (rU Z (wF Z c82) (zO Z Z zu Z ZG) (rU Z (wF Z c82) (zO Z Z zL Z zI) (ZA Z Z Z (wF Z c82) (hS43.ldC (f:=1) h45 (v:=.slice pA0_0_1 p0.Race.Bibs.length pc0_0_1) Z Z zJ Z) Z (zf Z Z Z (wF Z c82) Z f26 (bnK hm98 fun x104 h105 hm106=>?_))))))))
       have q:=h99.el (fun _=>rfl) (wAL h105)
       obtain ⟨b107,off108,hA109,hC110⟩:=q
       refine rU Z (wF Z c82) (zq Z Z hA109 Z zA zG (wBL h105) (wBO h105)) (ZA Z Z Z (wF Z c82) (hS43.ldC (f:=0) hC110 (v:=jV x104) Z Z zQ Z) Z (rU Z (wF Z c82) (zS Z Z Z) (rU Z (wT Z c80) (zg Z (ZL c82.out) Z) (oR Z (zk Z (wED c80.out) Z) (eN (ifc hm106 ?_ ?_))))))
       ·intro c111 hm112
        refine cT Z c111 (CK.fresh fun σ113 hσ114=>?_)
        have f115:σ113 0=.pointer (some ⟨pb0,0,none⟩):=(hσ114 0).trans f23
        have f116:σ113 2=jV p2:=(hσ114 2).trans f24
        have f117:σ113 3=jV p3:=(hσ114 3).trans f25
        have f118:σ113 9=jV x6:=(hσ114 9).trans f26
        have f119:σ113 10=jV (↑k7:Int):=(hσ114 10).trans rfl
        have f120:σ113 15=.slice pA0_1 p0.done.length pc0_1:=(hσ114 15).trans f27
        have f121:σ113 16=jV (↑p0.done.length:Int):=(hσ114 16).trans f28
        have f122:σ113 17=jV (↑k7:Int):=(hσ114 17).trans fi19
        clear hσ114
        refine rR fL2 Z (oM Z f119 (oA Z Z (zj (zZ ?_))))
        cases hm112
        exact zC ⟨Z,⟨U20,f115,f116,f117,Z,f120,f121,f122,(zN _),hS43⟩⟩
       ·intro c111 hm124
        refine cF Z c111 (ZH (zZ ?_))
        cases hm124
        exact zC ⟨Z,⟨U20,f23,f24,f25,f26,f27,f28,fi19,(zN _),hS43⟩⟩
     ·intro c80 hm126
      refine oF Z c80 (oF Z c80 (oF Z c80 (zU Z Z Z (wAG Z Z Z) (zU Z Z Z (wAG Z Z Z) (zU Z Z Z (wAG Z Z Z) (zU Z Z Z (wAG Z Z Z) (zU Z Z Z (wAG Z Z Z) (zU Z Z Z (wAG Z Z Z) (zU Z Z Z (wAG Z Z Z) (zU Z Z Z (wAG Z Z Z) (zU Z Z Z (wAG Z Z Z) (zU Z Z Z (wAG Z Z Z) (zU Z Z Z (wAG Z Z Z) (zU Z Z Z (wAG Z Z Z) (zU Z Z Z (wAG Z Z Z) (zU Z Z Z (wAG Z Z Z) (zU Z Z Z (wAG Z Z Z) (zU Z Z Z (wAG Z Z Z) (zU Z Z Z (wAG Z Z Z) (oF Z c80 (oR Z (zg Z (ZL c80.out) Z) (eN (zy Z (ZH (zZ ?_)))))))))))))))))))))))))
      cases hm126
      exact zC ⟨Z,⟨U20,f23,f24,f25,f26,f27,f28,fi19,(zN _),hS43⟩⟩
    ·intro c58 hm128
     refine oF Z c58 (oF Z c58 (oF Z c58 (oF Z c58 (oF Z c58 (oF Z c58 (oF Z c58 (oF Z c58 (oF Z c58 (oF Z c58 (oF Z c58 (oF Z c58 (oF Z c58 (oF Z c58 (oR Z (zg Z (ZL c58.out) Z) (oM Z Z (oN Z (oN Z (oN Z (zU Z Z Z (wAG Z Z Z) (zU Z Z Z (wAG Z Z Z) (zU Z Z Z (wAG Z Z Z) (zU Z Z Z (wAG Z Z Z) (zU Z Z Z (wAG Z Z Z) (zU Z Z Z (wAG Z Z Z) (zU Z Z Z (wAG Z Z Z) (zU Z Z Z (wAG Z Z Z) (zU Z Z Z (wAG Z Z Z) (zU Z Z Z (wAG Z Z Z) (zU Z Z Z (wAG Z Z Z) (zU Z Z Z (wAG Z Z Z) (zU Z Z Z (wAG Z Z Z) (zU Z Z Z (wAG Z Z Z) (zU Z Z Z (wAG Z Z Z) (zU Z Z Z (wAG Z Z Z) (zU Z Z Z (wAG Z Z Z) (oN Z (oR Z (zg Z Z Z) (eN (zy Z (ZH (zZ ?_)))))))))))))))))))))))))))))))))))))))))
     cases hm128
     exact zC ⟨Z,⟨U20,f23,f24,f25,f26,f27,f28,fi19,(zN _),hS43⟩⟩
  ·rintro σ130 W131 ⟨U132,f135,f136,f137,f138,f139,f140,f141,le133,hS134⟩
   refine rR fL2 Z (oR Z (ZC (zX Z f141 Z) (congrArg (jV) hi30.out)) (oM Z Z (zj ?_)))
   cases hm34
   exact zC ⟨Z,⟨U132,Z,f135,f136,f137,f138,f139,f140,(le21.trans le133),hS134⟩⟩
 ·rintro σ143 W144 ⟨U148,fi146,f151,f152,f153,f154,f155,f156,le149,hS150⟩
  have c157:Hid (¬ ((↑(((↑p0.done.length:Int):Int) - 0).toNat:Int) < (↑p0.done.length:Int))):=zF (wBQ)
  refine sR fL1 Z (oR Z (zS Z fi146 f156) (eN (zD (cF Z c157 (ZF (zd (zd (zx (zC (sR fL2 Z (oM Z f154 (oA Z Z (eN (ze ?_))))))))))))))
  have hE:=nD hm8;first | subst r | cases hE
  exact ⟨Z,_,(zz Z),U148,_,hS150,Z,Z⟩
theorem wDT (p0:wAD) (pb0:Nat) (pA0_0_1:Option Addr) (pc0_0_1:Nat) (pA0_0_2:Option Addr) (pc0_0_2:Nat) (pA0_1:Option Addr) (pc0_1:Nat) (pA0_2:Option Addr) (pc0_2:Nat) (p1:Int) (w:World) (U:PHeap) (hS:St0 w U [.blk pb0 78 [jV p0.Race.Laps,.slice pA0_0_1 p0.Race.Bibs.length pc0_0_1,.slice pA0_0_2 p0.Race.Times.length pc0_0_2,.slice pA0_1 p0.done.length pc0_1,.slice pA0_2 p0.out.length pc0_2],.row pA0_1 pc0_1 3 1 (nA KL.encI p0.done),.row pA0_2 pc0_2 4 1 (nA KL.encT p0.out)]) (ha0:Sl U 1 pA0_0_1 pc0_0_1 p0.Race.Bibs.length (nA KL.encI p0.Race.Bibs)) (ha1:SlR U wDc pA0_0_2 pc0_0_2 p0.Race.Times) {r:(List Int) × wAD} (hm:wAh p0 p1=some r):Gv Tryz.prog 72 [.pointer (some ⟨pb0,0,none⟩),jV p1] w (wCR w [.blk pb0 78 [jV p0.Race.Laps,.slice pA0_0_1 p0.Race.Bibs.length pc0_0_1,.slice pA0_0_2 p0.Race.Times.length pc0_0_2,.slice pA0_1 p0.done.length pc0_1,.slice pA0_2 p0.out.length pc0_2],.row pA0_1 pc0_1 3 1 (nA KL.encI p0.done),.row pA0_2 pc0_2 4 1 (nA KL.encT p0.out)] U (fun U_ L_ v=>∃ (A0:Option Addr) (c0:Nat) (Ao001:Option Addr) (co001:Nat) (Ao002:Option Addr) (co002:Nat) (Ao01:Option Addr) (co01:Nat) (Ao02:Option Addr) (co02:Nat),v=.slice A0 r.1.length c0/\L_=[.row A0 c0 3 1 (nA KL.encI r.1),.row Ao01 co01 3 1 (nA KL.encI r.2.done),.row Ao02 co02 4 1 (nA KL.encT r.2.out),.blk pb0 78 [jV r.2.Race.Laps,.slice Ao001 r.2.Race.Bibs.length co001,.slice Ao002 r.2.Race.Times.length co002,.slice Ao01 r.2.done.length co01,.slice Ao02 r.2.out.length co02]]/\Sl U_ 1 Ao001 co001 r.2.Race.Bibs.length (nA KL.encI r.2.Race.Bibs)/\SlR U_ wDc Ao002 co002 r.2.Race.Times)):=by
 unfold wAh at hm
 refine Gv.of Tryz.func72 Z Tryz.ntmps72 Tryz.results72 Z (sR fL1 Z (oA Z Z (eN (zD (sR fL7 Z (oM Z Z (oR Z (ZN Z Z) (oR Z (zO Z Z zu Z ZG) (oR Z (zO Z Z zL Z zm) (oL Z (hS.ldB (j:=0) Z Z Z zr (v:=.slice pA0_0_2 p0.Race.Times.length pc0_0_2) Z) (oR Z (zY Z Z zH) (oM Z Z (eN (zP (bnK hm fun y15 hf12 hm11=>?_)))))))))))))))
 have q:=wCG hf12
 obtain ⟨hle13,hf14⟩:=q
 replace hle13:=zF hle13
 let B0:Res:=.blk pb0 78 [jV p0.Race.Laps,.slice pA0_0_1 p0.Race.Bibs.length pc0_0_1,.slice pA0_0_2 p0.Race.Times.length pc0_0_2,.slice pA0_1 p0.done.length pc0_1,.slice pA0_2 p0.out.length pc0_2]
 let B1:Res:=.row pA0_2 pc0_2 4 1 (nA KL.encT p0.out)
 let B2:Res:=.row pA0_1 pc0_1 3 1 (nA KL.encI p0.done)
 refine CK.forN' (fun k10 l9 σ_ w_=>∃ (U_:PHeap),σ_ 17=jV (↑k10:Int)/\σ_ 0=.pointer (some ⟨pb0,0,none⟩)/\σ_ 1=jV p1/\σ_ 15=.slice pA0_0_2 p0.Race.Times.length pc0_0_2/\σ_ 16=jV (↑p0.Race.Times.length:Int)/\PHeap.Le U U_/\SW w [B0,B2,B1] U U_ [.row pA0_1 pc0_1 3 1 (nA KL.encI l9),B1,.blk pb0 78 [jV p0.Race.Laps,.slice pA0_0_1 p0.Race.Bibs.length pc0_0_1,.slice pA0_0_2 p0.Race.Times.length pc0_0_2,.slice pA0_1 l9.length pc0_1,.slice pA0_2 p0.out.length pc0_2]] w_/\l9.length=p0.done.length) hf14 ?_ ?_ ?_
 ·exact ⟨U,rfl,rfl,rfl,rfl,rfl,(zN _),(hS.pick [1,2,0] _ (by decide) rfl),rfl⟩
 ·rintro k10 l9 xx18 σ16 W17 hk21 ⟨U23,fi22,f26,f27,f28,f29,le24,hS25,h30⟩ hx19
  have c31:Hid ((↑k10:Int) < (↑p0.Race.Times.length:Int)):=zF (wBi hk21)
  replace hk21:=zF hk21
  have hi32:Hid (w64 ((↑k10:Int) + 1)=(↑(k10 + 1):Int)):=zF (by have h1:=hle13.out;have h2:=c31.out;rw [wAe] <;> omega)
  refine sR fL1 Z (oR Z (zS Z fi22 f29) (eN (zD (cT Z c31 (kN (zD (zP (sR fL5 Z (oM Z fi22 (bnK hx19 fun x33 h34 hm35=>?_))))))))))
  have h36:=ha1.le le24
  have q:=h36.el (wAL h34)
  obtain ⟨b37,off38,vs41,hA39,hC40,hr42⟩:=q
  obtain ⟨pA43,pc44,rfl,h45⟩:=hr42
  replace hC40:Cl U23 b37 (off38 + k10 * 1) [.slice pA43 x33.length pc44]:=hC40
  refine oR Z (ZD Z f28 hA39 fi22 zH zI (wBe h34)) (oL Z (hS25.ldC (f:=0) hC40 (v:=.slice pA43 x33.length pc44) Z Z zJ Z) (oA Z Z (oA Z Z (eN (sR fL8 Z (oM Z f26 (oR Z (ZN Z Z) (oR Z (zO Z Z zu Z zI) (oL Z (hS25.ldB (j:=2) Z Z Z zJ (v:=.slice pA0_1 l9.length pc0_1) Z) (oM Z Z (bnK hm35 fun _ h46 hm47=>?_)))))))))))
  obtain ⟨b48,hA49⟩:=hS25.rowSome (j:=0) rfl (by rw [wAF (f:=KL.encI) (sz:=1) (fun _=>rfl) l9];have hz:=wAW h46;omega)
  refine oR Z (ZD Z Z hA49 Z zA zG (wAW h46)) ?_
  have hg50:=wBX (xs:=l9) (wAW h46)
  refine ZA rfl rfl rfl rfl (hS25.ldR (j:=0) rfl hA49 rfl rfl zQ (wAZ (sz:=1) (fun _=>rfl) _ _ 0 _ hg50 (by first | omega | rfl | simp) rfl)) rfl (OKS.ra rfl rfl rfl rfl rfl rfl (eN (sR fL22 rfl (zf rfl rfl rfl rfl rfl f26 (zt rfl rfl rfl rfl (fun _=>ZN rfl rfl) (zt rfl rfl rfl rfl (fun _=>zO rfl rfl zu rfl Tryz.sizeOf76) (ZA rfl rfl rfl rfl (hS25.ldB (j:=2) rfl rfl rfl Tryz.isAgg76 (v:=.slice pA0_2 p0.out.length pc0_2) rfl) rfl (zf rfl rfl rfl rfl rfl rfl (bnK hm47 fun _ h51 hm52=>?_)))))))))
  obtain ⟨b53,hA54⟩:=hS25.rowSome (j:=1) rfl (by rw [wAF (f:=KL.encT) (sz:=1) (fun _=>rfl) p0.out];have hz:=wAW h51;omega)
  refine oR Z (ZD Z Z hA54 Z ZM Tryz.sizeOf4 (wAW h51)) ?_
  have hg55:=wBX (xs:=p0.out) (wAW h51)
  refine ZA rfl rfl rfl rfl (hS25.ldR (j:=1) rfl hA54 rfl rfl Tryz.isAgg4 (wAZ (sz:=1) (fun _=>rfl) _ _ 0 _ hg55 (by first | omega | rfl | simp) rfl)) rfl (zt rfl rfl rfl rfl (fun _=>ZV rfl rfl) (zf rfl rfl rfl rfl rfl rfl (ifc hm52 ?_ ?_)))
  ·intro c56 hm57
   refine zU Z Z Z (zo Z Z (nC c56.out) Z) (zU Z Z Z (zo Z Z (nC c56.out) Z) (zU Z Z Z (zo Z Z (nC c56.out) Z) (zU Z Z Z (zo Z Z (nC c56.out) Z) (oR Z (zg Z (nC c56.out) Z) (oM Z Z (oN Z (oN Z (oN Z (oN Z (oN Z (oN Z (oR Z (zg Z Z Z) (eN (zy Z (ZH (zZ (zC (rR fL2 Z (oR Z (ZC (zX Z fi22 Z) (congrArg (jV) hi32.out)) (oM Z Z (zj ?_)))))))))))))))))))))
   cases hm57
   exact zC ⟨Z,⟨U23,Z,f26,f27,f28,f29,le24,hS25,h30⟩⟩
  ·intro c56 hm59
   refine zf Z Z Z (zw Z Z (nF (c56.out))) Z Z (zf Z Z Z (zw Z Z (nF (c56.out))) Z Z (zt Z Z Z (zw Z Z (nF (c56.out))) (fun _=>zY Z Z zA) (zt Z Z Z (zw Z Z (nF (c56.out))) (fun _=>zS Z Z Z) (oR Z (zk Z (nF (c56.out)) Z) (oM Z Z (ifc hm59 ?_ ?_))))))
   ·intro c60 hm61
    refine zf Z Z Z (wT Z c60) Z Z (zf Z Z Z (wT Z c60) Z Z (bnK hm61 fun x62 h63 hm64=>?_))
    have q:=h45.el (fun _=>rfl) (wAL h63)
    obtain ⟨b65,off66,hA67,hC68⟩:=q
    refine rU Z (wT Z c60) (zq Z Z hA67 Z zA zG (wBL h63) (wBO h63)) (ZA Z Z Z (wT Z c60) (hS25.ldC (f:=0) hC68 (v:=jV x62) Z Z zQ Z) Z (zf Z Z Z (wT Z c60) Z f27 (rU Z (wT Z c60) (Runs.eql Z Z Z) (oR Z (zk Z (wED c60.out) Z) (eN (ifc hm64 ?_ ?_))))))
    ·intro c69 hm70
     refine cT Z c69 (CK.fresh fun σ71 hσ72=>?_)
     have f73:σ71 0=.pointer (some ⟨pb0,0,none⟩):=(hσ72 0).trans f26
     have f74:σ71 1=jV p1:=(hσ72 1).trans f27
     have f75:σ71 5=jV (↑k10:Int):=(hσ72 5).trans rfl
     have f76:σ71 15=.slice pA0_0_2 p0.Race.Times.length pc0_0_2:=(hσ72 15).trans f28
     have f77:σ71 16=jV (↑p0.Race.Times.length:Int):=(hσ72 16).trans f29
     have f78:σ71 17=jV (↑k10:Int):=(hσ72 17).trans fi22
     clear hσ72
     refine rR (fC0_8 (.fx 9 (.nil) .stop)) Z (oM Z f73 (oR Z (ZN Z Z) (oR Z (zO Z Z zu Z zI) (oL Z (hS25.ldB (j:=2) Z Z Z zJ (v:=.slice pA0_1 l9.length pc0_1) Z) (oM Z f75 (oR Z (ZD Z Z hA49 Z zA zG (wAW h46)) ?_))))))
     have hg79:=wBX (xs:=l9) (wAW h46)
     refine ZA rfl rfl rfl rfl (hS25.ldR (j:=0) rfl hA49 rfl rfl zQ (wAZ (sz:=1) (fun _=>rfl) _ _ 0 _ hg79 (by first | omega | rfl | simp) rfl)) rfl (zt rfl rfl rfl rfl (fun _=>zX rfl rfl rfl) (zt rfl rfl rfl rfl (fun _=>ZD rfl rfl hA49 rfl zA zG (wAW h46)) ?_))
     have hg80:=wBX (xs:=l9) (wAW h46)
     refine OKS.stR (j:=0) (vs:=[jV (w64 ((gd l9 k10) + 1))]) (cs':=nA KL.encI (nN l9 k10 (w64 ((gd l9 k10) + 1)))) rfl rfl rfl rfl hS25 rfl hA49 rfl rfl rfl zG (by rw [wAF (f:=KL.encI) (sz:=1) (fun _=>rfl)];have hz:=wAW h46;simp only [nJ,nH,nI,nO,nP];first | omega | (simp only [nK];omega)) rfl (wFI (sz:=1) (fo:=0) (fun _=>rfl) _ _ _ _ hg80 (by first | omega | (simp only [nK];omega) | (simp only [nJ,nH,nI];omega)) (ZB rfl) rfl) rfl ?_
     intro W81 hS82
     let B3:Res:=.row pA0_1 pc0_1 3 1 (nA KL.encI (nN l9 k10 (w64 ((gd l9 k10) + 1))))
     have hS83:SW w [B0,B2,B1] U U23 [B3,B1,.blk pb0 78 [jV p0.Race.Laps,.slice pA0_0_1 p0.Race.Bibs.length pc0_0_1,.slice pA0_0_2 p0.Race.Times.length pc0_0_2,.slice pA0_1 l9.length pc0_1,.slice pA0_2 p0.out.length pc0_2]] W81:=hS82
     have hS84:SW w [B0,B2,B1] U U23 [B3,B1,.blk pb0 78 [jV p0.Race.Laps,.slice pA0_0_1 p0.Race.Bibs.length pc0_0_1,.slice pA0_0_2 p0.Race.Times.length pc0_0_2,.slice pA0_1 ((nN l9 k10 (w64 ((gd l9 k10) + 1))).length) pc0_1,.slice pA0_2 p0.out.length pc0_2]] W81:=by simpa only [nL] using hS83
     refine zj (zZ (zC (rR fL2 Z (oR Z (ZC (zX Z f78 Z) (congrArg (jV) hi32.out)) (oM Z Z (zj ?_))))))
     cases hm70
     exact zC ⟨rfl,⟨U23,rfl,f73,f74,f76,f77,le24,hS84,(by simp only [nL];exact h30)⟩⟩
    ·intro c69 hm86
     refine cF Z c69 (ZH (zZ (zC (rR fL2 Z (oR Z (ZC (zX Z fi22 Z) (congrArg (jV) hi32.out)) (oM Z Z (zj ?_)))))))
     cases hm86
     exact zC ⟨Z,⟨U23,Z,f26,f27,f28,f29,le24,hS25,h30⟩⟩
   ·intro c60 hm88
    refine oF Z c60 (oF Z c60 (oF Z c60 (oF Z c60 (oF Z c60 (oF Z c60 (oR Z (zg Z (ZL c60.out) Z) (eN (zy Z (ZH (zZ (zC (rR fL2 Z (oR Z (ZC (zX Z fi22 Z) (congrArg (jV) hi32.out)) (oM Z Z (zj ?_)))))))))))))))
    cases hm88
    exact zC ⟨Z,⟨U23,Z,f26,f27,f28,f29,le24,hS25,h30⟩⟩
 ·rintro σ90 W91 ⟨U95,fi93,f98,f99,f100,f101,le96,hS97,h102⟩
  have c103:Hid (¬ ((↑(((↑p0.Race.Times.length:Int):Int) - 0).toNat:Int) < (↑p0.Race.Times.length:Int))):=zF (wBQ)
  refine sR fL1 Z (oR Z (zS Z fi93 f101) (eN (zD (cF Z c103 (ZF (zd (zd (zx (zC (sR fL1 Z (oA Z Z (eN (zD (sR fL6 Z (oM Z f98 (oR Z (ZN Z Z) (oR Z (zO Z Z zu Z zI) (oL Z (hS97.ldB (j:=2) Z Z Z zJ (v:=.slice pA0_1 y15.length pc0_1) Z) (oR Z (zY Z Z zA) (oM Z Z (eN (zP (bnK hm11 fun y126 hf123 hm122=>?_)))))))))))))))))))))))
  have q:=wCG hf123
  obtain ⟨hle124,hf125⟩:=q
  replace hle124:=zF hle124
  let B4:List Value:=[jV p0.Race.Laps,.slice pA0_0_1 p0.Race.Bibs.length pc0_0_1,.slice pA0_0_2 p0.Race.Times.length pc0_0_2,.slice pA0_1 y15.length pc0_1,.slice pA0_2 p0.out.length pc0_2]
  let B5:Res:=.row pA0_1 pc0_1 3 1 (nA KL.encI y15)
  refine CK.forN' (fun k121 l117 σ_ w_=>∃ (U_:PHeap) (A118:Option Addr) (c119:Nat),σ_ 66=jV (↑k121:Int)/\σ_ 0=.pointer (some ⟨pb0,0,none⟩)/\σ_ 1=jV p1/\σ_ 8=.slice A118 l117.length c119/\σ_ 64=.slice pA0_1 y15.length pc0_1/\σ_ 65=jV (↑y15.length:Int)/\PHeap.Le U95 U_/\SW w [B0,B2,B1] U U_ [B5,B1,.blk pb0 78 B4,.row A118 c119 3 1 (nA KL.encI l117)] w_) hf125 ?_ ?_ ?_
  ·have hS127:=hS97.nilrow 3 1
   exact ⟨U95,none,0,rfl,f98,f99,rfl,rfl,rfl,(zN _),(hS127.pick [1,2,3,0] _ (by decide) rfl)⟩
  ·rintro k121 l117 xx131 σ129 W130 hk134 ⟨U136,A118,c119,fi135,f139,f140,f141,f142,f143,le137,hS138⟩ hx132
   have c144:Hid ((↑k121:Int) < (↑y15.length:Int)):=zF (wBi hk134)
   replace hk134:=zF hk134
   have hi145:Hid (w64 ((↑k121:Int) + 1)=(↑(k121 + 1):Int)):=zF (by have h1:=hle124.out;have h2:=c144.out;rw [wAe] <;> omega)
   refine sR fL1 Z (oR Z (zS Z fi135 f143) (eN (zD (cT Z c144 (kN (zD (zP (sR fL5 Z (oM Z fi135 (bnK hx132 fun _ h146 hm147=>?_))))))))))
   obtain ⟨b148,hA149⟩:=hS138.rowSome (j:=0) rfl (by rw [wAF (f:=KL.encI) (sz:=1) (fun _=>rfl) y15];have hz:=wAW h146;omega)
   refine oR Z (ZD Z f142 hA149 fi135 zA zG (wAW h146)) ?_
   have hg150:=wBX (xs:=y15) (wAW h146)
   refine ZA rfl rfl rfl rfl (hS138.ldR (j:=0) rfl hA149 rfl rfl zQ (wAZ (sz:=1) (fun _=>rfl) _ _ 0 _ hg150 (by first | omega | rfl | simp) rfl)) rfl (OKS.ra rfl rfl rfl rfl rfl rfl (OKS.ra rfl rfl rfl rfl rfl rfl (eN (sR (wQG (.fx 13 (.fl 14 (.fl 15 (.nil))) .stop)) rfl (zf rfl rfl rfl rfl rfl f139 (zt rfl rfl rfl rfl (fun _=>ZN rfl rfl) (zt rfl rfl rfl rfl (fun _=>zO rfl rfl zu rfl Tryz.sizeOf76) (ZA rfl rfl rfl rfl (hS138.ldB (j:=2) rfl rfl rfl Tryz.isAgg76 (v:=.slice pA0_2 p0.out.length pc0_2) rfl) rfl (zf rfl rfl rfl rfl rfl rfl (bnK hm147 fun _ h151 hm152=>?_))))))))))
   obtain ⟨b153,hA154⟩:=hS138.rowSome (j:=1) rfl (by rw [wAF (f:=KL.encT) (sz:=1) (fun _=>rfl) p0.out];have hz:=wAW h151;omega)
   refine oR Z (ZD Z Z hA154 Z ZM Tryz.sizeOf4 (wAW h151)) ?_
   have hg155:=wBX (xs:=p0.out) (wAW h151)
   refine ZA rfl rfl rfl rfl (hS138.ldR (j:=1) rfl hA154 rfl rfl Tryz.isAgg4 (wAZ (sz:=1) (fun _=>rfl) _ _ 0 _ hg155 (by first | omega | rfl | simp) rfl)) rfl (zt rfl rfl rfl rfl (fun _=>ZV rfl rfl) (zf rfl rfl rfl rfl rfl rfl (ifc hm152 ?_ ?_)))
   ·intro c156 hm157
    refine zU Z Z Z (zo Z Z (nC c156.out) Z) (zU Z Z Z (zo Z Z (nC c156.out) Z) (zU Z Z Z (zo Z Z (nC c156.out) Z) (zU Z Z Z (zo Z Z (nC c156.out) Z) (ZW Z Z Z (zo Z Z (nC c156.out) Z) (zU Z Z Z (zo Z Z (nC c156.out) Z) (oR Z (zg Z (nC c156.out) Z) (eN (zy Z (ZH (zZ (zC (rR fL2 Z (oR Z (ZC (zX Z fi135 Z) (congrArg (jV) hi145.out)) (oM Z Z (zj ?_)))))))))))))))
    cases hm157
    exact zC ⟨Z,⟨U136,A118,c119,Z,f139,f140,f141,f142,f143,le137,hS138⟩⟩
   ·intro c156 hm161
    refine zf Z Z Z (zw Z Z (nF (c156.out))) Z f139 (zf Z Z Z (zw Z Z (nF (c156.out))) Z Z (zf Z Z Z (zw Z Z (nF (c156.out))) Z Z (zf Z Z Z (zw Z Z (nF (c156.out))) Z f140 ?_)))
    have q:=hS138.freezeT (k:=0) (n:=y15.length) rfl (wAF (f:=KL.encI) (sz:=1) (fun _=>rfl) y15) (by decide)
    obtain ⟨U163,le164,hs165,hS166,th162⟩:=q
    let B6:Res:=.row A118 c119 3 1 (nA KL.encI l117)
    have hS167:SW w [B0,B2,B1] U U163 [B1,.blk pb0 78 B4,B6] W130:=hS166
    have q:=hS167.freezeT (k:=0) (n:=p0.out.length) rfl (wAF (f:=KL.encT) (sz:=1) (fun _=>rfl) p0.out) (by decide)
    obtain ⟨U169,le170,hs171,hS172,th168⟩:=q
    have hS173:SW w [B0,B2,B1] U U169 [.blk pb0 78 B4,B6] W130:=hS172
    have q:=hS173.freezeTB (k:=0) rfl
    obtain ⟨U175,le176,hC177,hS178,th174⟩:=q
    replace hC177:=Cl.of hC177
    have hS179:SW w [B0,B2,B1] U U175 [B6] W130:=hS178
    replace hC177:Cl U175 pb0 0 B4:=hC177
    have h180:=ha0.le le96
    have h181:=h180.le le137
    have h182:=h181.le le164
    have h183:=h182.le le170
    have h184:=h183.le le176
    have h185:=ha1.le le96
    have h186:=h185.le le137
    have h187:=h186.le le164
    have h188:=h187.le le170
    have h189:=h188.le le176
    have h190:=hs165.le le170
    have h191:=h190.le le176
    have h192:=hs171.le le176
    refine bnK hm161 fun x193 h194 hm195=>zV 0 rfl rfl rfl (zw rfl rfl (nF (c156.out))) (zW rfl rfl Tryz.call73 (zK rfl (zK rfl (zK rfl (zK rfl zh)))) rfl) hS179 (fun hs=>wCZ (⟨p0.Race,y15,p0.out⟩:wAD) pb0 pA0_0_1 pc0_0_1 pA0_0_2 pc0_0_2 pA0_1 pc0_1 pA0_2 pc0_2 (↑k121:Int) (gd y15 k121) p1 W130 U175 hs hC177 h184 h189 h191 h192 h194) (.inr rfl) ?_
    rintro U196 L197 v198 W199 le200 hS201 ⟨rfl,rfl⟩
    have hS202:SW w [B0,B2,B1] U U196 [B6] W199:=hS201
    have q:=th174 _ _ _ le200 hS202
    obtain ⟨U203,le204,hS205⟩:=q
    have hS206:SW w [B0,B2,B1] U U203 [.blk pb0 78 B4,B6] W199:=hS205
    have q:=th168 _ _ _ le204 hS206
    obtain ⟨U207,le208,hS209⟩:=q
    have hS210:SW w [B0,B2,B1] U U207 [B1,.blk pb0 78 B4,B6] W199:=hS209
    have q:=th162 _ _ _ le208 hS210
    obtain ⟨U211,le212,hS213⟩:=q
    have hS214:SW w [B0,B2,B1] U U211 [B5,B1,.blk pb0 78 B4,B6] W199:=hS213
    refine zt Z Z Z (zw Z Z (nF (c156.out))) (fun _=>Runs.geq Z Z Z) (oR Z (zk Z (nF (c156.out)) Z) (eN (ifc hm195 ?_ ?_)))
    ·intro c215 hm216
     refine cT Z c215 (rR (.fl 0 (.fl 1 (.fx 2 (.fx 3 (.fl 4 (.nil)) .stop) .stop))) Z (oM Z f141 (oM Z Z (OKS.buildSlice (pv:=[(0,jV (↑k121:Int))]) (zs:=[jV 0]) (cs:=[jV (↑k121:Int)]) Z Z Z Z Z (wAR Z wBq) zA zG Tryz.zeroValue3 Z Z Z Z Z hS214 ?_))))
     intro W217 b218 hS219
     let B7:Res:=.row (some ⟨b218,0,none⟩) 1 3 1 (nA KL.encI [(↑k121:Int)])
     have hS221:SW w [B0,B2,B1] U U211 [B7,B5,B1,.blk pb0 78 B4,B6] W217:=hS219
     refine bnK hm216 fun x222 h223 hm224=>OKS.append (j:=4) (enc:=KL.encI) (xs:=l117) (ys:=[(↑k121:Int)]) (zs:=x222) rfl rfl rfl rfl rfl Tryz.underlying23 wFy rfl rfl rfl rfl rfl rfl hS221 rfl rfl rfl (hS221.srcR (j:=0) rfl (by decide) (wAF (f:=KL.encI) (sz:=1) (fun _=>rfl) [(↑k121:Int)])) (fun _=>rfl) (fun _=>rfl) h223 rfl ?_
     intro A225 c226 W227 hS228
     have hS229:SW w [B0,B2,B1] U U211 [B7,B5,B1,.blk pb0 78 B4,.row A225 c226 3 1 (nA KL.encI x222)] W227:=hS228
     refine oA Z Z (zj (zZ (zC (rR fL2 Z (oR Z (ZC (zX Z fi135 Z) (congrArg (jV) hi145.out)) (oM Z Z (zj ?_)))))))
     cases hm224
     exact zC ⟨rfl,⟨U211,A225,c226,rfl,f139,f140,rfl,f142,f143,(le137.trans le212),(hS229.pick [1,2,3,4] _ (by decide) rfl)⟩⟩
    ·intro c215 hm233
     refine cF Z c215 (ZH (zZ (zC (rR fL2 Z (oR Z (ZC (zX Z fi135 Z) (congrArg (jV) hi145.out)) (oM Z Z (zj ?_)))))))
     cases hm233
     exact zC ⟨Z,⟨U211,A118,c119,Z,f139,f140,f141,f142,f143,(le137.trans le212),hS214⟩⟩
  ·rintro σ237 W238 ⟨U246,A244,c245,fi240,f249,f250,f251,f252,f253,le247,hS248⟩
   have c254:Hid (¬ ((↑(((↑y15.length:Int):Int) - 0).toNat:Int) < (↑y15.length:Int))):=zF (wBQ)
   refine sR fL1 Z (oR Z (zS Z fi240 f253) (eN (zD (cF Z c254 (ZF (zd (zd (zx (zC (sR fL2 Z (oM Z f251 (oA Z Z (eN (ze ?_))))))))))))))
   have h255:=ha0.le le96
   have h256:=h255.le le247
   have h257:=ha1.le le96
   have h258:=h257.le le247
   cases hm122
   exact ⟨rfl,_,(zz rfl),U246,_,(hS248.pick [3,0,1,2] _ (by decide) rfl),A244,c245,pA0_0_1,pc0_0_1,pA0_0_2,pc0_0_2,pA0_1,pc0_1,pA0_2,pc0_2,rfl,rfl,h256,h258⟩
end Go.Proofs.YtbpllbhagaoocaaGreat
namespace Go.Proofs.YtbpllbhagaoocaaGreat
open Go.KL
set_option maxHeartbeats 4000000
theorem wBh (p0:List wAC) (pA0:Option Addr) (pc0:Nat) (p1:((wAC × wAC)->Option Int)) (pv1:Value) (w:World) (U:PHeap) (hS:St ⟨w,[.row pA0 pc0 38 4 (nA wAI p0)],U⟩ U [.row pA0 pc0 38 4 (nA wAI p0)] w) (ha0:FnOK Tryz.prog U pv1 wPr wPs p1) (ha1:∃ g cb,pv1=.func (.func g) #[] cb) {r:List wAC} (hm:wAS p0 p1=some r):Gv Tryz.prog 74 [.slice pA0 p0.length pc0,pv1] w (wCR w [.row pA0 pc0 38 4 (nA wAI p0)] U (fun U_ L_ v=>v=.tuple #[]/\L_=[.row pA0 pc0 38 4 (nA wAI r)]/\r.length=p0.length)) :=
 wKa (sz:=4) (fun _=>rfl) (fun x v h=>List.all_eq_true.1 (show (wAI x).all (·.oneCell')=true from rfl) v h) (fun _ _ _=>rfl) (fun _ _ _ _ h=>h.1) (fun enc a1 a2 cf b g cb k1 k2 k3 d w h1 h2 h3 h4 h5 h6=>Go.Proofs.Tryz.slices_SortFunc_total_f74 4 Tryz.isAgg38 Tryz.sizeOf38 enc a1 a2 cf b g cb k1 k2 k3 d w h1 h2 h3 h4 h5 h6) (fun p c v w=>Go.Proofs.Tryz.slices_SortFunc_none_f74 (α:=Int) p c v w) hS ha0 (by decide) ha1 hm
theorem wDU (p0:Int) (w:World) (U:PHeap) (hS:St0 w U [])  {r:Bool} (hm:wBg p0=some r):Gv Tryz.prog 124 [jV p0] w (wCR w [] U (fun U_ L_ v=>v=.bool r/\L_=[])):=by
 unfold wBg at hm
 refine Gv.of Tryz.func124 Z Tryz.ntmps124 Tryz.results124 Z (sR fL1 Z (oA Z Z (eN (sR fL4 Z (oM Z Z (oM Z Z (oR Z (ZU Z Z Z) (oA Z Z (eN (ze ?_))))))))))
 cases hm
 exact ⟨Z,_,(zz Z),U,_,hS,Z,Z⟩
theorem wCr (p0:Int) (p1:Int) (w:World) (U:PHeap) (hS:St0 w U [])  {r:Int} (hm:wBJ p0 p1=some r):Gv Tryz.prog 77 [jV p0,jV p1] w (wCR w [] U (fun U_ L_ v=>v=jV r/\L_=[])):=by
 unfold wBJ at hm
 refine Gv.of Tryz.func77 Z Tryz.ntmps77 Tryz.results77 Z (sR fL1 Z (oA Z Z (eN (sR (.fl 0 (.fx 1 (.fl 2 (.nil)) .stop)) Z (oM Z Z (bnK hm fun x1 h2 hm3=>zV 0 Z Z Z Z (zW Z Z Tryz.call124 (zK Z zh) Z) hS (fun hs=>wDU p0 w U hs h2) (.inr Z) ?_))))))
 rintro U4 L5 v6 W7 le8 hS9 ⟨rfl,rfl⟩
 have hS10:sW w U U4 [] W7:=hS9
 refine oA Z Z (eN (sR (.fl 0 (.fx 1 (.fl 2 (.nil)) .stop)) Z (oM Z Z (bnK hm3 fun x11 h12 hm13=>zV 0 Z Z Z Z (zW Z Z Tryz.call124 (zK Z zh) Z) hS10 (fun hs=>wDU p1 W7 U4 hs h12) (.inr Z) ?_))))
 rintro U14 L15 v16 W17 le18 hS19 ⟨rfl,rfl⟩
 have hS20:sW w U U14 [] W17:=hS19
 refine oA Z Z (eN (zD (sR fL1 Z (oM Z Z (eN (ifc hm13 ?_ ?_))))))
 ·intro c21 hm22
  refine ZI (congrArg nE c21.out) (zD (sR fL1 Z (oM Z Z (eN (ifc hm22 ?_ ?_)))))
  ·intro c23 hm24
   refine ZI (congrArg nE c23.out) (sR fL1 Z (oA Z Z (eN (ze (zR (zR ?_))))))
   cases hm24
   exact ⟨Z,_,(zz Z),U14,_,hS20,Z,Z⟩
  ·intro c23 hm25
   refine zy (congrArg nE (nG.2 c23.out)) (kN (sR fL1 Z (oA Z Z (eN (ze (zR ?_))))))
   cases hm25
   exact ⟨Z,_,(zz Z),U14,_,hS20,Z,Z⟩
 ·intro c21 hm26
  refine zy (congrArg nE (nG.2 c21.out)) (kN (zD (sR fL1 Z (oM Z Z (eN (ifc hm26 ?_ ?_))))))
  ·intro c27 hm28
   refine ZI (congrArg nE c27.out) (sR fL1 Z (oA Z Z (eN (ze (zR ?_)))))
   cases hm28
   exact ⟨Z,_,(zz Z),U14,_,hS20,Z,Z⟩
  ·intro c27 hm29
   refine zy (congrArg nE (nG.2 c27.out)) (kN (zD (sR fL3 Z (oM Z Z (oM Z Z (oR Z (zS Z Z Z) (eN (ifc hm29 ?_ ?_))))))))
   ·intro c30 hm31
    refine cT Z c30 (sR fL1 Z (oA Z Z (eN (ze (zR ?_)))))
    cases hm31
    exact ⟨Z,_,(zz Z),U14,_,hS20,Z,Z⟩
   ·intro c30 hm32
    refine cF Z c30 (kN (zD (sR fL3 Z (oM Z Z (oM Z Z (oR Z (Za Z Z Z) (eN (ifc hm32 ?_ ?_))))))))
    ·intro c33 hm34
     refine cT Z c33 (sR fL1 Z (oA Z Z (eN (ze (zR ?_)))))
     cases hm34
     exact ⟨Z,_,(zz Z),U14,_,hS20,Z,Z⟩
    ·intro c33 hm35
     refine cF Z c33 (kN (sR fL1 Z (oA Z Z (eN (ze ?_)))))
     cases hm35
     exact ⟨Z,_,(zz Z),U14,_,hS20,Z,Z⟩
theorem wHc (p0:List Int) (pA0:Option Addr) (pc0:Nat) (w:World) (U:PHeap) (hS:St0 w U []) (ha0:Sl U 1 pA0 pc0 p0.length (nA KL.encI p0)) {r:Int} (hm:wCK p0=some r):Gv Tryz.prog 76 [.slice pA0 p0.length pc0] w (wCR w [] U (fun U_ L_ v=>v=jV r/\L_=[])):=by
 unfold wCK at hm
 refine Gv.of Tryz.func76 Z Tryz.ntmps76 Tryz.results76 Z (sR fL1 Z (oA Z Z (eN (sR fL1 Z (oA Z Z (eN (zD (sR fL3 Z (oM Z Z (oR Z (zY Z Z zA) (oM Z Z (eN (zP ?_)))))))))))))
 have q:=wBx hm
 obtain ⟨r3,hX4⟩:=q
 have q:=wBw hX4
 obtain ⟨hle5,hf6⟩:=q
 replace hle5:=zF hle5
 refine Zd (fun k2 _ σ_ w_=>∃ (U_:PHeap),σ_ 8=jV (↑k2:Int)/\σ_ 3=jV 0/\σ_ 6=.slice pA0 p0.length pc0/\σ_ 7=jV (↑p0.length:Int)/\PHeap.Le U U_/\sW w U U_ [] w_) hf6 ?_ ?_ ?_
 ·exact ⟨U,Z,Z,Z,Z,(zN _),hS⟩
 ·rintro k2 ⟨⟩ xx9 σ7 W8 hk12 ⟨U14,fi13,f17,f18,f19,le15,hS16⟩ hx10 hb11
  try dsimp only at hx10
  have c20:Hid ((↑k2:Int) < (↑p0.length:Int)):=zF (wBi hk12)
  replace hk12:=zF hk12
  have hi21:Hid (w64 ((↑k2:Int) + 1)=(↑(k2 + 1):Int)):=zF (by have h1:=hle5.out;have h2:=c20.out;rw [wAe] <;> omega)
  refine sR fL1 Z (oR Z (zS Z fi13 f19) (eN (zD (cT Z c20 (kN (zD (zP (sR fL3 Z (bnK hx10 fun x22 h23 hm24=>?_)))))))))
  have h25:=ha0.le le15
  have q:=h25.el (fun _=>rfl) (wAL h23)
  obtain ⟨b26,off27,hA28,hC29⟩:=q
  refine oR Z (ZD Z f18 hA28 fi13 zA zG (wBe h23)) (oL Z (hS16.ldC (f:=0) hC29 (v:=jV x22) Z Z zQ Z) (oA Z Z (eN (sR fL3 Z (oM Z Z (oM Z f17 (oR Z (ZU Z Z Z) (eN (ifc hm24 ?_ ?_)))))))))
  ·intro c30 hm31
   refine zy (ZL (fun h=>h c30.out)) (ZH (zZ (zC (rR fL2 Z (oR Z (ZC (zX Z fi13 Z) (congrArg (jV) hi21.out)) (oM Z Z (zj ?_)))))))
   obtain rfl:=nD hm31
   exact zC ⟨Z,_,Z,⟨U14,Z,f17,f18,f19,le15,hS16⟩⟩
  ·intro c30 hm32
   refine cT Z c30 (sR fL2 Z (oM Z Z (oA Z Z (eN (ze (zn (zR ?_)))))))
   have q:=wAQ hm32
   obtain ⟨v33,hm34,e35⟩:=q
   obtain rfl:=wCn hm hX4 (hb11 v33 e35)
   refine zR (zn (zR ?_))
   have hE:=nD hm34;first | subst r | cases hE
   exact ⟨Z,_,(zz Z),U14,_,hS16,Z,Z⟩
 ·rintro ⟨⟩ σ36 W37 ⟨U40,fi39,f43,f44,f45,le41,hS42⟩ hb38
  have hm46:=wCm hm hX4 hb38
  try dsimp only at hm46
  have c47:Hid (¬ ((↑(((↑p0.length:Int):Int) - 0).toNat:Int) < (↑p0.length:Int))):=zF (wBQ)
  refine sR fL1 Z (oR Z (zS Z fi39 f45) (eN (zD (cF Z c47 (ZF (zd (zd (zx (zC (sR fL2 Z (oM Z f43 (oA Z Z (eN (ze ?_))))))))))))))
  cases hm46
  exact ⟨Z,_,(zz Z),U40,_,hS42,Z,Z⟩
theorem wGu (p0:wAC) (p1:wAC) (w:World) (U:PHeap) (hS:St0 w U [])  {r:Int} (hm:wAc p0 p1=some r):Gv Tryz.prog 75 [.agg #[jV p0.Bib,jV p0.Done,jV p0.Time,jV p0.By],.agg #[jV p1.Bib,jV p1.Done,jV p1.Time,jV p1.By]] w (wCR w [] U (fun U_ L_ v=>v=jV r/\L_=[])):=by
 unfold wAc at hm
 refine Gv.of Tryz.func75 Z Tryz.ntmps75 Tryz.results75 Z (sR (.fx 0 (.fx 1 (.fl 2 (.nil)) .stop) .stop) Z ?_)
 let B0:List Value:=[jV p0.Bib,jV p0.Done,jV p0.Time,jV p0.By]
 refine ZT (cs:=B0) rfl rfl rfl rfl rfl rfl (by rfl) hS ?_
 intro W1 b2 hS3
 let B1:List Value:=[jV p1.Bib,jV p1.Done,jV p1.Time,jV p1.By]
 refine ZT (cs:=B1) rfl rfl rfl rfl rfl rfl (by rfl) hS3 ?_
 intro W5 b6 hS7
 refine OKS.ra rfl rfl rfl rfl rfl rfl (eN (zD (ZK ZJ [3,1,3,1,2,3,1,3,1,2,2,2,3] (wLn (fC5_8 (.fx 4 (.fx 9 (.fx 10 (.fx 11 (.fl 12 (.nil)) .stop) .stop) .stop) .stop))) (by kernel_rfl) ?_)))
 have hS9:=hS7.drew
 generalize hw_W10:({ W5 with drawn:=W5.drawn + 1 }:World)=W10 at hS9 ⊢
 refine oR Z (zO Z Z Tryz.runUnderlying38 Z zG) (oL Z (hS9.ldB (j:=1) Z Z Z zQ (v:=jV p0.Time) Z) (oR Z (zO Z Z Tryz.runUnderlying38 Z zG) (oL Z (hS9.ldB (j:=0) Z Z Z zQ (v:=jV p1.Time) Z) (oR Z (zO Z Z Tryz.runUnderlying38 Z zG) (oL Z (hS9.ldB (j:=1) Z Z Z zQ (v:=jV p0.Bib) Z) (oR Z (zO Z Z Tryz.runUnderlying38 Z zG) (oL Z (hS9.ldB (j:=0) Z Z Z zQ (v:=jV p1.Bib) Z) (bnK hm fun x11 h12 hm13=>zV 0 Z Z Z Z (zW Z Z Tryz.call77 (zK Z (zK Z zh)) Z) hS9 (fun hs=>wCr p0.Time p1.Time W10 U hs h12) (.inr Z) ?_))))))))
 rintro U14 L15 v16 W17 le18 hS19 ⟨rfl,rfl⟩
 have hS20:sW w U U14 [.blk b6 38 B1,.blk b2 38 B0] W17:=hS19
 refine bnK hm13 fun x21 h22 hm23=>zV 0 Z Z Z Z (zW Z Z Tryz.call77 (zK Z (zK Z zh)) Z) hS20 (fun hs=>wCr p0.Bib p1.Bib W17 U14 hs h22) (.inr Z) ?_
 rintro U24 L25 v26 W27 le28 hS29 ⟨rfl,rfl⟩
 have hS30:sW w U U24 [.blk b6 38 B1,.blk b2 38 B0] W27:=hS29
 refine OKS.buildSlice (pv:=[(0,jV x11),(1,jV x21)]) (zs:=[jV 0,jV 0]) (cs:=[jV x11,jV x21]) Z Z Z Z Z (wAR Z (wAR Z wBq)) zA zG Tryz.zeroValue3 Z Z Z Z Z hS30 ?_
 intro W31 b32 hS33
 have hS35:sW w U U24 [.row (some ⟨b32,0,none⟩) 2 3 1 (nA KL.encI [x11,x21]),.blk b6 38 B1,.blk b2 38 B0] W31:=hS33
 have q:=hS35.freezeR (k:=0) (n:=[x11,x21].length) rfl (wAF (f:=KL.encI) (sz:=1) (fun _=>rfl) [x11,x21]) (by decide)
 obtain ⟨U36,le37,hs38,hS39⟩:=q
 have hS40:sW w U U36 [.blk b6 38 B1,.blk b2 38 B0] W31:=hS39
 refine bnK hm23 fun x41 h42 hm43=>zV 0 Z Z Z Z (zW Z Z Tryz.call76 (zK Z zh) Z) hS40 (fun hs=>wHc [x11,x21] (some ⟨b32,0,none⟩) 2 W31 U36 hs hs38 h42) (.inr Z) ?_
 rintro U44 L45 v46 W47 le48 hS49 ⟨rfl,rfl⟩
 have hS50:sW w U U44 [.blk b6 38 B1,.blk b2 38 B0] W47:=hS49
 refine oA Z Z (eN (ze ?_))
 have hE:=nD hm43;first | subst r | cases hE
 exact ⟨rfl,_,(zz rfl),U44,_,(hS50.pick [] _ (by decide) rfl),rfl,rfl⟩
theorem wFl (p0:wAA) (pA0_1:Option Addr) (pc0_1:Nat) (pA0_2:Option Addr) (pc0_2:Nat) (w:World) (U:PHeap) (hS:St0 w U []) (ha0:Sl U 1 pA0_1 pc0_1 p0.Bibs.length (nA KL.encI p0.Bibs)) (ha1:SlR U wDc pA0_2 pc0_2 p0.Times) {r:wAD × (List wAC)} (hm:wCA p0=some r):Gv Tryz.prog 32 [.agg #[jV p0.Laps,.slice pA0_1 p0.Bibs.length pc0_1,.slice pA0_2 p0.Times.length pc0_2]] w (wCR w [] U (fun U_ L_ v=>∃ (b0:Nat) (A0p01:Option Addr) (c0p01:Nat) (A0p02:Option Addr) (c0p02:Nat) (A0p1:Option Addr) (c0p1:Nat) (A0p2:Option Addr) (c0p2:Nat) (A1:Option Addr) (c1:Nat),v=.tuple #[.pointer (some ⟨b0,0,none⟩),.slice A1 r.2.length c1]/\L_=[.blk b0 78 [jV r.1.Race.Laps,.slice A0p01 r.1.Race.Bibs.length c0p01,.slice A0p02 r.1.Race.Times.length c0p02,.slice A0p1 r.1.done.length c0p1,.slice A0p2 r.1.out.length c0p2],.row A0p1 c0p1 3 1 (nA KL.encI r.1.done),.row A0p2 c0p2 4 1 (nA KL.encT r.1.out),.row A1 c1 38 4 (nA wAI r.2)]/\Sl U_ 1 A0p01 c0p01 r.1.Race.Bibs.length (nA KL.encI r.1.Race.Bibs)/\SlR U_ wDc A0p02 c0p02 r.1.Race.Times)):=by
 unfold wCA at hm
 refine Go.KX.Gv.ofM Tryz.func32 Z Tryz.ntmps32 Tryz.results32 (ZB Z) (sR (.fx 0 (.fl 1 (.fl 2 (.nil))) .stop) Z ?_)
 let B0:List Value:=[jV p0.Laps,.slice pA0_1 p0.Bibs.length pc0_1,.slice pA0_2 p0.Times.length pc0_2]
 refine ZT (cs:=B0) rfl rfl rfl rfl rfl rfl (by rfl) hS ?_
 intro W1 b2 hS3
 refine oA Z Z (oA Z Z (eN ?_))
 have q:=bnd hm
 obtain ⟨⟨l9,l12⟩,hx16,hm17⟩:=q
 try dsimp only at hm17
 refine CK.cut (fun σ_ w_=>∃ (U_:PHeap) (b6:Nat) (b8:Nat) (A10:Option Addr) (c11:Nat) (A13:Option Addr) (c14:Nat),σ_ 1=.pointer (some ⟨b2,0,none⟩)/\σ_ 4=.pointer (some ⟨b6,0,none⟩)/\PHeap.Le U U_/\sW w U U_ [.blk b2 26 B0,.blk b6 73 [.pointer (some ⟨b8,0,none⟩)],.blk b8 78 [jV p0.Laps,.slice pA0_1 p0.Bibs.length pc0_1,.slice pA0_2 p0.Times.length pc0_2,.slice A10 l9.length c11,.slice A13 l12.length c14],.row A10 c11 3 1 (nA KL.encI l9),.row A13 c14 4 1 (nA KL.encT l12)] w_) ?_ ?_
 ·refine bnK hx16 fun x18 h19 hm45=>bnK hm45 fun x26 h27 hm46=>ZK ZJ [1,3,1,3,2,3,1,3,2,3,2,2,0] (wLn (fC5_7 (.fx 4 (.fx 8 (.fl 9 (.fx 10 (.fx 11 (.fx 12 (.nil) (.stop)) (.stop)) (.fx 11 (.fx 10 (.fx 12 (.nil) (.stop)) (.stop)) (.stop)))) (.fx 11 (.fx 8 (.fl 9 (.fx 10 (.fx 12 (.nil) (.stop)) (.stop))) (.stop)) (.stop))) (.fx 8 (.fx 4 (.fl 9 (.fx 10 (.fx 11 (.fx 12 (.nil) (.stop)) (.stop)) (.fx 11 (.fx 10 (.fx 12 (.nil) (.stop)) (.stop)) (.stop)))) (.fx 11 (.fx 4 (.fl 9 (.fx 10 (.fx 12 (.nil) (.stop)) (.stop))) (.stop)) (.stop))) (.fx 11 (.fx 4 (.fx 8 (.fl 9 (.fx 10 (.fx 12 (.nil) (.stop)) (.stop))) (.stop)) (.fx 8 (.fx 4 (.fl 9 (.fx 10 (.fx 12 (.nil) (.stop)) (.stop))) (.stop)) (.stop))) (.stop)))))) (by kernel_rfl) ?_
  have hS47:=hS3.drew
  generalize hw_W48:({ W1 with drawn:=W1.drawn + 1 }:World)=W48 at hS47 ⊢
  refine OKS.cutD (s:=.nil) (M:=fun σ_ w_=>∃ (U_:PHeap) (b158:Nat) (b160:Nat) (A161:Option Addr) (c162:Nat) (A163:Option Addr) (c164:Nat),σ_ 1=.pointer (some ⟨b2,0,none⟩)/\σ_ 4=.pointer (some ⟨b158,0,none⟩)/\σ_ 12=.agg B0.toArray/\σ_ 13=.pointer (some ⟨b2,1,none⟩)/\σ_ 14=.slice pA0_1 p0.Bibs.length pc0_1/\σ_ 15=jV (↑p0.Bibs.length:Int)/\σ_ 16=.slice A161 x18.length c162/\σ_ 17=.pointer (some ⟨b2,1,none⟩)/\σ_ 18=.slice pA0_1 p0.Bibs.length pc0_1/\σ_ 19=jV (↑p0.Bibs.length:Int)/\σ_ 20=.slice A163 x26.length c164/\σ_ 21=.agg #[jV p0.Laps,.slice pA0_1 p0.Bibs.length pc0_1,.slice pA0_2 p0.Times.length pc0_2,.slice A161 x18.length c162,.slice A163 x26.length c164]/\σ_ 22=.pointer (some ⟨b160,0,none⟩)/\PHeap.Le U U_/\sW w U U_ [.blk b2 26 B0,.blk b158 73 [.pointer (some ⟨b160,0,none⟩)],.blk b160 78 [jV p0.Laps,.slice pA0_1 p0.Bibs.length pc0_1,.slice pA0_2 p0.Times.length pc0_2,.slice A161 x18.length c162,.slice A163 x26.length c164],.row A161 c162 3 1 (nA KL.encI x18),.row A163 c164 4 1 (nA KL.encT x26)] w_) ?_ fun ko165=>?_
  ·rintro σ166 W167 ⟨U168,b158,b160,A161,c162,A163,c164,f171,f172,f173,f174,f175,f176,f177,f178,f179,f180,f181,f182,f183,le169,hS170⟩
   refine zj ?_
   cases hm46
   exact zC ⟨Z,⟨U168,b158,b160,A161,c162,A163,c164,f171,f172,le169,hS170⟩⟩
  refine OKS.cutD (s:=.fx 12 (.nil) (.stop)) (M:=fun σ_ w_=>∃ (U_:PHeap) (b195:Nat) (A196:Option Addr) (c197:Nat) (A198:Option Addr) (c199:Nat) (b201:Nat),σ_ 1=.pointer (some ⟨b2,0,none⟩)/\σ_ 4=.pointer (some ⟨b195,0,none⟩)/\σ_ 12=.agg B0.toArray/\σ_ 13=.pointer (some ⟨b2,1,none⟩)/\σ_ 14=.slice pA0_1 p0.Bibs.length pc0_1/\σ_ 15=jV (↑p0.Bibs.length:Int)/\σ_ 16=.slice A196 x18.length c197/\σ_ 17=.pointer (some ⟨b2,1,none⟩)/\σ_ 18=.slice pA0_1 p0.Bibs.length pc0_1/\σ_ 19=jV (↑p0.Bibs.length:Int)/\σ_ 20=.slice A198 x26.length c199/\σ_ 21=.agg #[jV p0.Laps,.slice pA0_1 p0.Bibs.length pc0_1,.slice pA0_2 p0.Times.length pc0_2,.slice A196 x18.length c197,.slice A198 x26.length c199]/\σ_ 22=.pointer (some ⟨b201,0,none⟩)/\PHeap.Le U U_/\sW w U U_ [.blk b2 26 B0,.blk b195 73 [.pointer none],.row A196 c197 3 1 (nA KL.encI x18),.row A198 c199 4 1 (nA KL.encT x26),.blk b201 78 [jV p0.Laps,.slice pA0_1 p0.Bibs.length pc0_1,.slice pA0_2 p0.Times.length pc0_2,.slice A196 x18.length c197,.slice A198 x26.length c199]] w_) ?_ fun ko202=>?_
  ·rintro σ203 W204 ⟨U205,b195,A196,c197,A198,c199,b201,f208,f209,f210,f211,f212,f213,f214,f215,f216,f217,f218,f219,f220,le206,hS207⟩
   let B1:List Value:=[.pointer (some ⟨b201,0,none⟩)]
   refine OKS.st (j:=1) (vs:=B1) Z Z Z Z hS207 Z f209 f220 Z Tryz.sizeOf73 (ZB Z) Z Z Z ?_
   intro W221 hS222
   have hS223:sW w U U205 [.blk b2 26 B0,.blk b195 73 B1,.row A196 c197 3 1 (nA KL.encI x18),.row A198 c199 4 1 (nA KL.encT x26),.blk b201 78 [jV p0.Laps,.slice pA0_1 p0.Bibs.length pc0_1,.slice pA0_2 p0.Times.length pc0_2,.slice A196 x18.length c197,.slice A198 x26.length c199]] W221:=hS222
   exact ko165 _ _ ⟨U205,b195,b201,A196,c197,A198,c199,f208,f209,f210,f211,f212,f213,f214,f215,f216,f217,f218,f219,f220,le206,(hS223.pick [0,1,4,2,3] _ (by decide) rfl)⟩
  refine OKS.cutD (s:=.fx 10 (.fx 12 (.nil) (.stop)) (.stop)) (M:=fun σ_ w_=>∃ (U_:PHeap) (b233:Nat) (A234:Option Addr) (c235:Nat) (A236:Option Addr) (c237:Nat),σ_ 1=.pointer (some ⟨b2,0,none⟩)/\σ_ 4=.pointer (some ⟨b233,0,none⟩)/\σ_ 12=.agg B0.toArray/\σ_ 13=.pointer (some ⟨b2,1,none⟩)/\σ_ 14=.slice pA0_1 p0.Bibs.length pc0_1/\σ_ 15=jV (↑p0.Bibs.length:Int)/\σ_ 16=.slice A234 x18.length c235/\σ_ 17=.pointer (some ⟨b2,1,none⟩)/\σ_ 18=.slice pA0_1 p0.Bibs.length pc0_1/\σ_ 19=jV (↑p0.Bibs.length:Int)/\σ_ 20=.slice A236 x26.length c237/\σ_ 21=.agg #[jV p0.Laps,.slice pA0_1 p0.Bibs.length pc0_1,.slice pA0_2 p0.Times.length pc0_2,.slice A234 x18.length c235,.slice A236 x26.length c237]/\PHeap.Le U U_/\sW w U U_ [.blk b2 26 B0,.blk b233 73 [.pointer none],.row A234 c235 3 1 (nA KL.encI x18),.row A236 c237 4 1 (nA KL.encT x26)] w_) ?_ fun ko238=>?_
  ·rintro σ239 W240 ⟨U241,b233,A234,c235,A236,c237,f244,f245,f246,f247,f248,f249,f250,f251,f252,f253,f254,f255,le242,hS243⟩
   refine ZT (cs:=[jV p0.Laps,.slice pA0_1 p0.Bibs.length pc0_1,.slice pA0_2 p0.Times.length pc0_2,.slice A234 x18.length c235,.slice A236 x26.length c237]) rfl rfl rfl rfl rfl f255 (by rfl) hS243 ?_
   intro W256 b257 hS258
   exact ko202 _ _ ⟨U241,b233,A234,c235,A236,c237,b257,f244,f245,f246,f247,f248,f249,f250,f251,f252,f253,f254,f255,rfl,le242,(hS258.pick [1,2,3,4,0] _ (by decide) rfl)⟩
  refine OKS.cutD (s:=.fx 11 (.fx 12 (.nil) (.stop)) (.stop)) (M:=fun σ_ w_=>∃ (U_:PHeap) (A268:Option Addr) (c269:Nat) (A270:Option Addr) (c271:Nat) (b273:Nat),σ_ 1=.pointer (some ⟨b2,0,none⟩)/\σ_ 12=.agg B0.toArray/\σ_ 13=.pointer (some ⟨b2,1,none⟩)/\σ_ 14=.slice pA0_1 p0.Bibs.length pc0_1/\σ_ 15=jV (↑p0.Bibs.length:Int)/\σ_ 16=.slice A268 x18.length c269/\σ_ 17=.pointer (some ⟨b2,1,none⟩)/\σ_ 18=.slice pA0_1 p0.Bibs.length pc0_1/\σ_ 19=jV (↑p0.Bibs.length:Int)/\σ_ 20=.slice A270 x26.length c271/\σ_ 21=.agg #[jV p0.Laps,.slice pA0_1 p0.Bibs.length pc0_1,.slice pA0_2 p0.Times.length pc0_2,.slice A268 x18.length c269,.slice A270 x26.length c271]/\σ_ 22=.pointer (some ⟨b273,0,none⟩)/\PHeap.Le U U_/\sW w U U_ [.blk b2 26 B0,.row A268 c269 3 1 (nA KL.encI x18),.row A270 c271 4 1 (nA KL.encT x26),.blk b273 78 [jV p0.Laps,.slice pA0_1 p0.Bibs.length pc0_1,.slice pA0_2 p0.Times.length pc0_2,.slice A268 x18.length c269,.slice A270 x26.length c271]] w_) ?_ fun ko274=>?_
  ·rintro σ275 W276 ⟨U277,A268,c269,A270,c271,b273,f280,f281,f282,f283,f284,f285,f286,f287,f288,f289,f290,f291,le278,hS279⟩
   refine ZX (cs:=[.pointer none]) Z Z Z Z Z Tryz.zeroValue73 Z hS279 ?_
   intro W292 b293 hS294
   exact ko202 _ _ ⟨U277,b293,A268,c269,A270,c271,b273,f280,rfl,f281,f282,f283,f284,f285,f286,f287,f288,f289,f290,f291,le278,(hS294.pick [1,0,2,3,4] _ (by decide) rfl)⟩
  refine OKS.cutD (s:=.fl 9 (.fx 10 (.fx 12 (.nil) (.stop)) (.stop))) (M:=fun σ_ w_=>∃ (U_:PHeap) (b305:Nat) (A306:Option Addr) (c307:Nat) (A308:Option Addr) (c309:Nat),σ_ 1=.pointer (some ⟨b2,0,none⟩)/\σ_ 4=.pointer (some ⟨b305,0,none⟩)/\σ_ 12=.agg B0.toArray/\σ_ 13=.pointer (some ⟨b2,1,none⟩)/\σ_ 14=.slice pA0_1 p0.Bibs.length pc0_1/\σ_ 15=jV (↑p0.Bibs.length:Int)/\σ_ 16=.slice A306 x18.length c307/\σ_ 17=.pointer (some ⟨b2,1,none⟩)/\σ_ 18=.slice pA0_1 p0.Bibs.length pc0_1/\σ_ 19=jV (↑p0.Bibs.length:Int)/\σ_ 20=.slice A308 x26.length c309/\PHeap.Le U U_/\sW w U U_ [.blk b2 26 B0,.blk b305 73 [.pointer none],.row A306 c307 3 1 (nA KL.encI x18),.row A308 c309 4 1 (nA KL.encT x26)] w_) ?_ fun ko310=>?_
  ·rintro σ311 W312 ⟨U313,b305,A306,c307,A308,c309,f316,f317,f318,f319,f320,f321,f322,f323,f324,f325,f326,le314,hS315⟩
   let B2:List Value:=[jV p0.Laps,.slice pA0_1 p0.Bibs.length pc0_1,.slice pA0_2 p0.Times.length pc0_2,.slice A306 x18.length c307,.slice A308 x26.length c309]
   refine zt rfl rfl rfl rfl (fun _=>Runs.build (pv:=[(0,.agg B0.toArray),(1,.slice A306 x18.length c307),(2,.slice A308 x26.length c309)]) (z:=[jV 0,.slice none 0 0,.slice none 0 0,.slice none 0 0,.slice none 0 0]) (cs:=B2) rfl (wAR f318 (wAR f322 (wAR f326 wBq))) Tryz.zeroValue78 wIz rfl rfl) (ZT (cs:=B2) rfl rfl rfl rfl rfl rfl (by rfl) hS315 ?_)
   intro W327 b328 hS329
   exact ko202 _ _ ⟨U313,b305,A306,c307,A308,c309,b328,f316,f317,f318,f319,f320,f321,f322,f323,f324,f325,f326,rfl,rfl,le314,(hS329.pick [1,2,3,4,0] _ (by decide) rfl)⟩
  refine OKS.cutD (s:=.fx 4 (.fl 9 (.fx 10 (.fx 12 (.nil) (.stop)) (.stop))) (.stop)) (M:=fun σ_ w_=>∃ (U_:PHeap) (b340:Nat) (A341:Option Addr) (c342:Nat),σ_ 1=.pointer (some ⟨b2,0,none⟩)/\σ_ 4=.pointer (some ⟨b340,0,none⟩)/\σ_ 12=.agg B0.toArray/\σ_ 13=.pointer (some ⟨b2,1,none⟩)/\σ_ 14=.slice pA0_1 p0.Bibs.length pc0_1/\σ_ 15=jV (↑p0.Bibs.length:Int)/\σ_ 17=.pointer (some ⟨b2,1,none⟩)/\σ_ 18=.slice pA0_1 p0.Bibs.length pc0_1/\σ_ 19=jV (↑p0.Bibs.length:Int)/\σ_ 20=.slice A341 x26.length c342/\PHeap.Le U U_/\sW w U U_ [.blk b2 26 B0,.blk b340 73 [.pointer none],.row A341 c342 4 1 (nA KL.encT x26)] w_) ?_ fun ko343=>?_
  ·rintro σ344 W345 ⟨U346,b340,A341,c342,f349,f350,f351,f352,f353,f354,f355,f356,f357,f358,le347,hS348⟩
   refine ZQ (enc:=KL.encI) (z:=(0:Int)) (v:=jV 0) Z Z Z Z Z (wCM zA) wFy Z Z Z Z f354 f354 h19 hS348 ?_
   intro W359 b360 hS361
   have hS363:sW w U U346 [.row (some ⟨b360,0,none⟩) x18.length 3 1 (nA KL.encI x18),.blk b2 26 B0,.blk b340 73 [.pointer none],.row A341 c342 4 1 (nA KL.encT x26)] W359:=hS361
   exact ko310 _ _ ⟨U346,b340,(some ⟨b360,0,none⟩),x18.length,A341,c342,f349,f350,f351,f352,f353,f354,rfl,f355,f356,f357,f358,le347,(hS363.pick [1,2,0,3] _ (by decide) rfl)⟩
  refine OKS.cutD (s:=.fx 8 (.fl 9 (.fx 10 (.fx 12 (.nil) (.stop)) (.stop))) (.stop)) (M:=fun σ_ w_=>∃ (U_:PHeap) (b371:Nat) (A372:Option Addr) (c373:Nat),σ_ 1=.pointer (some ⟨b2,0,none⟩)/\σ_ 4=.pointer (some ⟨b371,0,none⟩)/\σ_ 12=.agg B0.toArray/\σ_ 13=.pointer (some ⟨b2,1,none⟩)/\σ_ 14=.slice pA0_1 p0.Bibs.length pc0_1/\σ_ 15=jV (↑p0.Bibs.length:Int)/\σ_ 16=.slice A372 x18.length c373/\σ_ 17=.pointer (some ⟨b2,1,none⟩)/\σ_ 18=.slice pA0_1 p0.Bibs.length pc0_1/\σ_ 19=jV (↑p0.Bibs.length:Int)/\PHeap.Le U U_/\sW w U U_ [.blk b2 26 B0,.blk b371 73 [.pointer none],.row A372 c373 3 1 (nA KL.encI x18)] w_) ?_ fun ko374=>?_
  ·rintro σ375 W376 ⟨U377,b371,A372,c373,f380,f381,f382,f383,f384,f385,f386,f387,f388,f389,le378,hS379⟩
   refine ZQ (enc:=KL.encT) (z:=false) (v:=.bool false) Z Z Z Z Z (wCM ZM) wMX Z Z Z Z f389 f389 h27 hS379 ?_
   intro W390 b391 hS392
   have hS394:sW w U U377 [.row (some ⟨b391,0,none⟩) x26.length 4 1 (nA KL.encT x26),.blk b2 26 B0,.blk b371 73 [.pointer none],.row A372 c373 3 1 (nA KL.encI x18)] W390:=hS392
   exact ko310 _ _ ⟨U377,b371,A372,c373,(some ⟨b391,0,none⟩),x26.length,f380,f381,f382,f383,f384,f385,f386,f387,f388,f389,rfl,le378,(hS394.pick [1,2,3,0] _ (by decide) rfl)⟩
  refine OKS.cutD (s:=.fl 9 (.fx 10 (.fx 11 (.fx 12 (.nil) (.stop)) (.stop)) (.fx 11 (.fx 10 (.fx 12 (.nil) (.stop)) (.stop)) (.stop)))) (M:=fun σ_ w_=>∃ (U_:PHeap) (A401:Option Addr) (c402:Nat) (A403:Option Addr) (c404:Nat),σ_ 1=.pointer (some ⟨b2,0,none⟩)/\σ_ 12=.agg B0.toArray/\σ_ 13=.pointer (some ⟨b2,1,none⟩)/\σ_ 14=.slice pA0_1 p0.Bibs.length pc0_1/\σ_ 15=jV (↑p0.Bibs.length:Int)/\σ_ 16=.slice A401 x18.length c402/\σ_ 17=.pointer (some ⟨b2,1,none⟩)/\σ_ 18=.slice pA0_1 p0.Bibs.length pc0_1/\σ_ 19=jV (↑p0.Bibs.length:Int)/\σ_ 20=.slice A403 x26.length c404/\PHeap.Le U U_/\sW w U U_ [.blk b2 26 B0,.row A401 c402 3 1 (nA KL.encI x18),.row A403 c404 4 1 (nA KL.encT x26)] w_) ?_ fun ko405=>?_
  ·rintro σ406 W407 ⟨U408,A401,c402,A403,c404,f411,f412,f413,f414,f415,f416,f417,f418,f419,f420,le409,hS410⟩
   let B3:List Value:=[jV p0.Laps,.slice pA0_1 p0.Bibs.length pc0_1,.slice pA0_2 p0.Times.length pc0_2,.slice A401 x18.length c402,.slice A403 x26.length c404]
   refine oR Z (Runs.build (pv:=[(0,.agg B0.toArray),(1,.slice A401 x18.length c402),(2,.slice A403 x26.length c404)]) (z:=[jV 0,.slice none 0 0,.slice none 0 0,.slice none 0 0,.slice none 0 0]) (cs:=B3) Z (wAR f412 (wAR f416 (wAR f420 wBq))) Tryz.zeroValue78 wIz Z Z) (OKS.both ?_ ?_)
   ·refine ZT (cs:=B3) rfl rfl rfl rfl rfl rfl (by rfl) hS410 ?_
    intro W421 b422 hS423
    exact ko274 _ _ ⟨U408,A401,c402,A403,c404,b422,f411,f412,f413,f414,f415,f416,f417,f418,f419,f420,rfl,rfl,le409,(hS423.pick [1,2,3,0] _ (by decide) rfl)⟩
   ·refine ZX (cs:=[.pointer none]) Z Z Z Z Z Tryz.zeroValue73 Z hS410 ?_
    intro W431 b432 hS433
    exact ko238 _ _ ⟨U408,b432,A401,c402,A403,c404,f411,rfl,f412,f413,f414,f415,f416,f417,f418,f419,f420,rfl,le409,(hS433.pick [1,0,2,3] _ (by decide) rfl)⟩
  refine oL Z (hS47.ldBA (j:=0) Z Z Z ZP ZG (vs:=B0) Z Z) (oR Z (zO Z Z zL Z zI) (oL Z (hS47.ldB (j:=0) Z Z Z zJ (v:=.slice pA0_1 p0.Bibs.length pc0_1) Z) (oR Z (zY Z Z zA) (oR Z (zO Z Z zL Z zI) (oL Z (hS47.ldB (j:=0) Z Z Z zJ (v:=.slice pA0_1 p0.Bibs.length pc0_1) Z) (oR Z (zY Z Z zA) (OKS.both ?_ ?_)))))))
  ·refine ZQ (enc:=KL.encI) (z:=(0:Int)) (v:=jV 0) Z Z Z Z Z (wCM zA) wFy Z Z Z Z Z Z h19 hS47 ?_
   intro W441 b442 hS443
   let B4:Res:=.row (some ⟨b442,0,none⟩) x18.length 3 1 (nA KL.encI x18)
   have hS445:sW w U U [B4,.blk b2 26 B0] W441:=hS443
   refine OKS.both ?_ ?_
   ·refine ZQ (enc:=KL.encT) (z:=false) (v:=.bool false) Z Z Z Z Z (wCM ZM) wMX Z Z Z Z Z Z h27 hS445 ?_
    intro W446 b447 hS448
    have hS450:sW w U U [.row (some ⟨b447,0,none⟩) x26.length 4 1 (nA KL.encT x26),B4,.blk b2 26 B0] W446:=hS448
    exact ko405 _ _ ⟨U,(some ⟨b442,0,none⟩),x18.length,(some ⟨b447,0,none⟩),x26.length,rfl,rfl,rfl,rfl,rfl,rfl,rfl,rfl,rfl,rfl,(zN _),(hS450.pick [2,1,0] _ (by decide) rfl)⟩
   ·refine ZX (cs:=[.pointer none]) Z Z Z Z Z Tryz.zeroValue73 Z hS445 ?_
    intro W455 b456 hS457
    exact ko374 _ _ ⟨U,b456,(some ⟨b442,0,none⟩),x18.length,rfl,rfl,rfl,rfl,rfl,rfl,rfl,rfl,rfl,rfl,(zN _),(hS457.pick [2,0,1] _ (by decide) rfl)⟩
  refine OKS.both ?_ ?_
  ·refine ZQ (enc:=KL.encT) (z:=false) (v:=.bool false) Z Z Z Z Z (wCM ZM) wMX Z Z Z Z Z Z h27 hS47 ?_
   intro W463 b464 hS465
   let B5:Res:=.row (some ⟨b464,0,none⟩) x26.length 4 1 (nA KL.encT x26)
   have hS467:sW w U U [B5,.blk b2 26 B0] W463:=hS465
   refine OKS.both ?_ ?_
   ·refine ZQ (enc:=KL.encI) (z:=(0:Int)) (v:=jV 0) Z Z Z Z Z (wCM zA) wFy Z Z Z Z Z Z h19 hS467 ?_
    intro W468 b469 hS470
    have hS472:sW w U U [.row (some ⟨b469,0,none⟩) x18.length 3 1 (nA KL.encI x18),B5,.blk b2 26 B0] W468:=hS470
    exact ko405 _ _ ⟨U,(some ⟨b469,0,none⟩),x18.length,(some ⟨b464,0,none⟩),x26.length,rfl,rfl,rfl,rfl,rfl,rfl,rfl,rfl,rfl,rfl,(zN _),(hS472.pick [2,0,1] _ (by decide) rfl)⟩
   ·refine ZX (cs:=[.pointer none]) Z Z Z Z Z Tryz.zeroValue73 Z hS467 ?_
    intro W477 b478 hS479
    exact ko343 _ _ ⟨U,b478,(some ⟨b464,0,none⟩),x26.length,rfl,rfl,rfl,rfl,rfl,rfl,rfl,rfl,rfl,rfl,(zN _),(hS479.pick [2,0,1] _ (by decide) rfl)⟩
  ·refine ZX (cs:=[.pointer none]) Z Z Z Z Z Tryz.zeroValue73 Z hS47 ?_
   intro W485 b486 hS487
   refine OKS.both ?_ ?_
   ·refine ZQ (enc:=KL.encI) (z:=(0:Int)) (v:=jV 0) Z Z Z Z Z (wCM zA) wFy Z Z Z Z Z Z h19 hS487 ?_
    intro W489 b490 hS491
    have hS493:sW w U U [.row (some ⟨b490,0,none⟩) x18.length 3 1 (nA KL.encI x18),.blk b486 73 [.pointer none],.blk b2 26 B0] W489:=hS491
    exact ko374 _ _ ⟨U,b486,(some ⟨b490,0,none⟩),x18.length,rfl,rfl,rfl,rfl,rfl,rfl,rfl,rfl,rfl,rfl,(zN _),(hS493.pick [2,1,0] _ (by decide) rfl)⟩
   ·refine ZQ (enc:=KL.encT) (z:=false) (v:=.bool false) Z Z Z Z Z (wCM ZM) wMX Z Z Z Z Z Z h27 hS487 ?_
    intro W498 b499 hS500
    have hS502:sW w U U [.row (some ⟨b499,0,none⟩) x26.length 4 1 (nA KL.encT x26),.blk b486 73 [.pointer none],.blk b2 26 B0] W498:=hS500
    exact ko343 _ _ ⟨U,b486,(some ⟨b499,0,none⟩),x26.length,rfl,rfl,rfl,rfl,rfl,rfl,rfl,rfl,rfl,rfl,(zN _),(hS502.pick [2,1,0] _ (by decide) rfl)⟩
 ·rintro σ507 W508 ⟨U509,b6,b8,A10,c11,A13,c14,f512,f513,le510,hS511⟩
  refine sR (.fx 0 (.nil) .stop) Z (ZX (cs:=[.slice none 0 0]) Z Z Z Z Z Tryz.zeroValue30 Z hS511 ?_)
  intro W514 b515 hS516
  refine eN (zD (sR (.fl 0 (.fx 1 (.nil) .stop)) Z (oL Z (hS516.ldBA (j:=1) Z Z f512 ZP ZG (vs:=B0) Z Z) ?_)))
  have h518:=ha0.le le510
  have h519:=ha1.le le510
  refine bnK hm17 fun x520 h521 hm522=>zV 0 Z Z Z Z (zW Z Z Tryz.call71 (zK Z zh) Z) hS516 (fun hs=>wEO p0 pA0_1 pc0_1 pA0_2 pc0_2 W514 U509 hs h518 h519 h521) (.inr Z) ?_
  rintro U523 L524 v525 W526 le527 hS528 ⟨b529,A530,c531,rfl,rfl,h532,h533⟩
  let B6:Res:=.blk b6 73 [.pointer (some ⟨b8,0,none⟩)]
  have hS534:sW w U U523 [.blk b515 30 [.slice none 0 0],.blk b2 26 B0,B6,.blk b8 78 [jV p0.Laps,.slice pA0_1 p0.Bibs.length pc0_1,.slice pA0_2 p0.Times.length pc0_2,.slice A10 l9.length c11,.slice A13 l12.length c14],.row A10 c11 3 1 (nA KL.encI l9),.row A13 c14 4 1 (nA KL.encT l12)] W526:=hS528
  refine eN (zP (CK.fresh fun σ535 hσ536=>?_))
  have f537:σ535 4=.pointer (some ⟨b6,0,none⟩):=(hσ536 4).trans f513
  have f538:σ535 5=.pointer (some ⟨b515,0,none⟩):=(hσ536 5).trans rfl
  have f539:σ535 24=.func (.func 159) #[] #[.pointer (some ⟨b529,0,none⟩)]:=(hσ536 24).trans rfl
  clear hσ536
  have hS1114:=hS534.nilrow 38 4
  have h1116:=h518.le le527
  have h1117:=h519.le le527
  refine bnK hm522 fun rr1118 hit1119 hm1120=>CK.rangeY (S:=(List wAC) × Int × (List Int) × (List (List Int)) × (List Int) × (List Bool)) (E:=Empty) (ar:=wLS) (PY:=(fun (s_:(List wAC) × Int × (List Int) × (List (List Int)) × (List Int) × (List Bool)) (U_:PHeap) (L_:List Res)=>match s_ with | (l1081,x1085,l1086,l1089,l1092,l1095)=>∃ (A1082:Option Addr) (c1083:Nat) (A1087:Option Addr) (c1088:Nat) (A1090:Option Addr) (c1091:Nat) (A1093:Option Addr) (c1094:Nat) (A1096:Option Addr) (c1097:Nat),L_=[.row A1082 c1083 38 4 (nA wAI l1081),.blk b515 30 [.slice A1082 l1081.length c1083],.blk b2 26 B0,B6,.row A1093 c1094 3 1 (nA KL.encI l1092),.row A1096 c1097 4 1 (nA KL.encT l1095),.blk b8 78 [jV x1085,.slice A1087 l1086.length c1088,.slice A1090 l1089.length c1091,.slice A1093 l1092.length c1094,.slice A1096 l1095.length c1097]]/\Sl U_ 1 A1087 c1088 l1086.length (nA KL.encI l1086)/\SlR U_ wDc A1090 c1091 l1089)) (PE:=(fun (_:Empty) _ _=>False)) (exO:=Empty.elim) (s0:=([],p0.Laps,p0.Bibs,p0.Times,l9,l12)) (rr:=rr1118) f539 Tryz.call159 (hS1114.pick [0,1,2,3,5,6,4] _ (by decide) rfl) (by decide) (fun _ _ _ h=>by obtain rfl:=h;rfl) (fun e=>nomatch e) ⟨none,0,pA0_1,pc0_1,pA0_2,pc0_2,A10,c11,A13,c14,rfl,h1116,h1117⟩ (fun l w1 L1 PY' PE' hS1 hP1 hY1=>wCj PY' PE' _ l _ x520 b529 A530 c531 w1 L1 U523 hS1 hP1 hY1 h532 h533 hit1119) ?_ ?_
  ·rintro l1121 rb1122 fn1123 ⟨l1081,x1085,l1086,l1089,l1092,l1095⟩ x1124 vs1125 r1126 ph1127 L1128 w1129 o1130 B1131 le1132 hS1133 hP1134 ha1135 hf1136 sg1137 hs1138
   obtain ⟨A1082,c1083,A1087,c1088,A1090,c1091,A1093,c1094,A1096,c1097,rfl,h1139,h1140⟩:=hP1134
   obtain rfl:=ha1135
   replace hs1138:∀ t,sg1137 t=upd σ535 25 (jV x1124) t:=hs1138
   have f1141:sg1137 25=jV x1124:=(hs1138 25).trans (wBo _ _ _)
   have f1142:sg1137 4=.pointer (some ⟨b6,0,none⟩):=(hs1138 4).trans ((wCS _ _ (by decide)).trans f537)
   have f1143:sg1137 5=.pointer (some ⟨b515,0,none⟩):=(hs1138 5).trans ((wCS _ _ (by decide)).trans f538)
   clear hs1138
   let B7:Res:=.blk b8 78 [jV x1085,.slice A1087 l1086.length c1088,.slice A1090 l1089.length c1091,.slice A1093 l1092.length c1094,.slice A1096 l1095.length c1097]
   let B8:Res:=.row A1082 c1083 38 4 (nA wAI l1081)
   let B9:Res:=.blk b515 30 [.slice A1082 l1081.length c1083]
   let B10:Res:=.row A1093 c1094 3 1 (nA KL.encI l1092)
   let B11:Res:=.row A1096 c1097 4 1 (nA KL.encT l1095)
   have hS1145:St B1131 ph1127 [.obj l1121 o1130,B8,B9,.blk b2 26 B0,B6,B10,B11,B7] w1129:=hS1133
   try dsimp only at hf1136
   refine rR fL1 Z (oA Z f1141 (zj ⟨Z,Z,_,_,hS1145,fun W1146 o1147 hS1148=>?_⟩))
   have hS1149:St B1131 ph1127 [.obj l1121 o1147,B8,B9,.blk b2 26 B0,B6,B10,B11,B7] W1146:=hS1148
   refine zP (sR (.fl 0 (.fl 1 (.fx 2 (.fl 3 (.nil)) .stop))) Z (oL Z (hS1149.ldB (j:=4) Z Z f1142 Zb (v:=.pointer (some ⟨b8,0,none⟩)) Z) (oM Z Z ?_)))
   have q:=bnd hf1136
   obtain ⟨⟨x1150,x1151⟩,h1152,hm1153⟩:=q
   try dsimp only at hm1153
   have hS1154:St B1131 ph1127 [B7,B10,B11,.obj l1121 o1147,B8,B9,.blk b2 26 B0,B6] W1146:=hS1149.pick [7,5,6,0,1,2,3,4] _ (by decide) rfl
   refine zV 3 Z Z Z Z (zW Z Z Tryz.call72 (zK Z (zK Z zh)) Z) hS1154 (fun hs=>wDT (⟨(⟨x1085,l1086,l1089⟩:wAA),l1092,l1095⟩:wAD) b8 A1087 c1088 A1090 c1091 A1093 c1094 A1096 c1097 x1124 W1146 ph1127 hs h1139 h1140 h1152) (.inl Z) ?_
   rintro U1155 L1156 v1157 W1158 le1159 hS1160 ⟨A1161,c1162,A1163,c1164,A1165,c1166,A1167,c1168,A1169,c1170,rfl,rfl,h1174,h1175⟩
   let B12:List Value:=[jV x1151.Race.Laps,.slice A1163 x1151.Race.Bibs.length c1164,.slice A1165 x1151.Race.Times.length c1166,.slice A1167 x1151.done.length c1168,.slice A1169 x1151.out.length c1170]
   let B13:Res:=.row A1161 c1162 3 1 (nA KL.encI x1150)
   let B14:Res:=.row A1167 c1168 3 1 (nA KL.encI x1151.done)
   let B15:Res:=.row A1169 c1170 4 1 (nA KL.encT x1151.out)
   have hS1176:St B1131 U1155 [B13,B14,B15,.blk b8 78 B12,.obj l1121 o1147,B8,B9,.blk b2 26 B0,B6] W1158:=hS1160
   refine oA Z Z (eN (zD (sR fL3 Z (oM Z Z (oR Z (zY Z Z zA) (oM Z Z (eN (zP (bnK hm1153 fun y1196 hf1193 hm1192=>?_)))))))))
   have q:=wCG hf1193
   obtain ⟨hle1194,hf1195⟩:=q
   replace hle1194:=zF hle1194
   refine CK.forN' (fun k1191 l1188 σ_ w_=>∃ (U_:PHeap) (A1189:Option Addr) (c1190:Nat),σ_ 31=jV (↑k1191:Int)/\σ_ 4=.pointer (some ⟨b6,0,none⟩)/\σ_ 5=.pointer (some ⟨b515,0,none⟩)/\σ_ 6=jV x1124/\σ_ 7=.slice A1161 x1150.length c1162/\σ_ 29=.slice A1161 x1150.length c1162/\σ_ 30=jV (↑x1150.length:Int)/\PHeap.Le U1155 U_/\St B1131 U_ [B14,B15,.blk b8 78 B12,.obj l1121 o1147,.row A1189 c1190 38 4 (nA wAI l1188),.blk b515 30 [.slice A1189 l1188.length c1190],.blk b2 26 B0,B6,B13] w_) hf1195 ?_ ?_ ?_
   ·exact ⟨U1155,A1082,c1083,rfl,f1142,f1143,rfl,rfl,rfl,rfl,(zN _),(hS1176.pick [1,2,3,4,5,6,7,8,0] _ (by decide) rfl)⟩
   ·rintro k1191 l1188 xx1199 σ1197 W1198 hk1202 ⟨U1204,A1189,c1190,fi1203,f1207,f1208,f1209,f1210,f1211,f1212,le1205,hS1206⟩ hx1200
    have c1213:Hid ((↑k1191:Int) < (↑x1150.length:Int)):=zF (wBi hk1202)
    replace hk1202:=zF hk1202
    have hi1214:Hid (w64 ((↑k1191:Int) + 1)=(↑(k1191 + 1):Int)):=zF (by have h1:=hle1194.out;have h2:=c1213.out;rw [wAe] <;> omega)
    refine sR fL1 Z (oR Z (zS Z fi1203 f1212) (eN (zD (cT Z c1213 (kN (zD (zP (sR fL3 Z (bnK hx1200 fun _ h1215 hm1216=>?_)))))))))
    obtain ⟨b1217,hA1218⟩:=hS1206.rowSome (j:=8) rfl (by rw [wAF (f:=KL.encI) (sz:=1) (fun _=>rfl) x1150];have hz:=wAW h1215;omega)
    refine oR Z (ZD Z f1211 hA1218 fi1203 zA zG (wAW h1215)) ?_
    have hg1219:=wBX (xs:=x1150) (wAW h1215)
    refine ZA rfl rfl rfl rfl (hS1206.ldR (j:=8) rfl hA1218 rfl rfl zQ (wAZ (sz:=1) (fun _=>rfl) _ _ 0 _ hg1219 (by first | omega | rfl | simp) rfl)) rfl (OKS.ra rfl rfl rfl rfl rfl rfl (eN (ZK ZJ [1,1,3,3,3,1,3,3,1,1,3,3,1,3,3,1,3,1,3,3,3,1,1,3,1,3,3,1,3,3,1,3,2,3,1,3,2,0,0] (wQH (.fx 32 (wOt (.fx 36 (.fx 37 (.fx 38 (.nil) .stop) .stop) .stop)) .stop)) (by kernel_rfl) ?_)))
    have hS1220:=hS1206.drew
    generalize hw_W1221:({ W1198 with drawn:=W1198.drawn + 1 }:World)=W1221 at hS1220 ⊢
    refine oL Z (hS1220.ldB (j:=5) Z Z f1208 Tryz.isAgg30 (v:=.slice A1189 l1188.length c1190) Z) (oL Z (hS1220.ldB (j:=7) Z Z f1207 Zb (v:=.pointer (some ⟨b8,0,none⟩)) Z) (oR Z (ZN Z Z) (oR Z (zO Z Z zu Z ZG) (oR Z (zO Z Z zL Z zI) (oL Z (hS1220.ldB (j:=2) Z Z Z zJ (v:=.slice A1163 x1151.Race.Bibs.length c1164) Z) (oM Z Z (bnK hm1216 fun x1222 h1223 hm1224=>?_)))))))
    have h1225:=h1174.le le1205
    have q:=h1225.el (fun _=>rfl) (wAL h1223)
    obtain ⟨b1226,off1227,hA1228,hC1229⟩:=q
    refine oR Z (zq Z Z hA1228 Z zA zG (wBL h1223) (wBO h1223)) (oL Z (hS1220.ldC (f:=0) hC1229 (v:=jV x1222) Z Z zQ Z) (oL Z (hS1220.ldB (j:=7) Z Z f1207 Zb (v:=.pointer (some ⟨b8,0,none⟩)) Z) (oR Z (ZN Z Z) (oR Z (zO Z Z zu Z zI) (oL Z (hS1220.ldB (j:=2) Z Z Z zJ (v:=.slice A1167 x1151.done.length c1168) Z) (oM Z Z (bnK hm1224 fun _ h1230 hm1231=>?_)))))))
    obtain ⟨b1232,hA1233⟩:=hS1220.rowSome (j:=0) rfl (by rw [wAF (f:=KL.encI) (sz:=1) (fun _=>rfl) x1151.done];have hz:=wAW h1230;omega)
    refine oR Z (zq Z Z hA1233 Z zA zG (wCT h1230) (wCU h1230)) ?_
    have hg1234:=wBX (xs:=x1151.done) (wAW h1230)
    refine ZA rfl rfl rfl rfl (hS1220.ldR (j:=0) rfl hA1233 rfl rfl zQ (wAZ (sz:=1) (fun _=>rfl) _ _ 0 _ hg1234 (by first | omega | rfl | simp) rfl)) rfl (zf rfl rfl rfl rfl rfl f1209 (ZA rfl rfl rfl rfl (hS1220.ldB (j:=7) rfl rfl f1207 Zb (v:=.pointer (some ⟨b8,0,none⟩)) rfl) rfl (zt rfl rfl rfl rfl (fun _=>ZN rfl rfl) (zt rfl rfl rfl rfl (fun _=>zO rfl rfl zu rfl ZG) (zt rfl rfl rfl rfl (fun _=>zO rfl rfl zL rfl zI) (ZA rfl rfl rfl rfl (hS1220.ldB (j:=2) rfl rfl rfl zJ (v:=.slice A1163 x1151.Race.Bibs.length c1164) rfl) rfl (ZA rfl rfl rfl rfl (hS1220.ldB (j:=7) rfl rfl f1207 Zb (v:=.pointer (some ⟨b8,0,none⟩)) rfl) rfl (zf rfl rfl rfl rfl rfl rfl (ZA rfl rfl rfl rfl (hS1220.ldB (j:=7) rfl rfl f1207 Zb (v:=.pointer (some ⟨b8,0,none⟩)) rfl) rfl (zt rfl rfl rfl rfl (fun _=>ZN rfl rfl) (zt rfl rfl rfl rfl (fun _=>zO rfl rfl zu rfl zI) (ZA rfl rfl rfl rfl (hS1220.ldB (j:=2) rfl rfl rfl zJ (v:=.slice A1167 x1151.done.length c1168) rfl) rfl (zf rfl rfl rfl rfl rfl rfl (zt rfl rfl rfl rfl (fun _=>zq rfl rfl hA1233 rfl zA zG (wCT h1230) (wCU h1230)) ?_))))))))))))))
    have hg1235:=wBX (xs:=x1151.done) (wAW h1230)
    refine ZA rfl rfl rfl rfl (hS1220.ldR (j:=0) rfl hA1233 rfl rfl zQ (wAZ (sz:=1) (fun _=>rfl) _ _ 0 _ hg1235 (by first | omega | rfl | simp) rfl)) rfl (zf rfl rfl rfl rfl rfl f1209 ?_)
    have q:=hS1220.freezeT (k:=0) (n:=x1151.done.length) rfl (wAF (f:=KL.encI) (sz:=1) (fun _=>rfl) x1151.done) (by decide)
    obtain ⟨U1237,le1238,hs1239,hS1240,th1236⟩:=q
    let B16:Res:=.row A1189 c1190 38 4 (nA wAI l1188)
    let B17:Res:=.blk b515 30 [.slice A1189 l1188.length c1190]
    have hS1241:St B1131 U1237 [B15,.blk b8 78 B12,.obj l1121 o1147,B16,B17,.blk b2 26 B0,B6,B13] W1221:=hS1240
    have q:=hS1241.freezeT (k:=0) (n:=x1151.out.length) rfl (wAF (f:=KL.encT) (sz:=1) (fun _=>rfl) x1151.out) (by decide)
    obtain ⟨U1243,le1244,hs1245,hS1246,th1242⟩:=q
    have hS1247:St B1131 U1243 [.blk b8 78 B12,.obj l1121 o1147,B16,B17,.blk b2 26 B0,B6,B13] W1221:=hS1246
    have q:=hS1247.freezeTB (k:=0) rfl
    obtain ⟨U1249,le1250,hC1251,hS1252,th1248⟩:=q
    replace hC1251:=Cl.of hC1251
    have hS1253:St B1131 U1249 [.obj l1121 o1147,B16,B17,.blk b2 26 B0,B6,B13] W1221:=hS1252
    replace hC1251:Cl U1249 b8 0 B12:=hC1251
    have h1254:=h1225.le le1238
    have h1255:=h1254.le le1244
    have h1256:=h1255.le le1250
    have h1257:=h1175.le le1205
    have h1258:=h1257.le le1238
    have h1259:=h1258.le le1244
    have h1260:=h1259.le le1250
    have h1261:=hs1239.le le1244
    have h1262:=h1261.le le1250
    have h1263:=hs1245.le le1250
    refine bnK hm1231 fun x1264 h1265 hm1266=>zV 0 rfl rfl rfl rfl (zW rfl rfl Tryz.call73 (zK rfl (zK rfl (zK rfl (zK rfl zh)))) rfl) hS1253 (fun hs=>wCZ x1151 b8 A1163 c1164 A1165 c1166 A1167 c1168 A1169 c1170 (gd x1150 k1191) (gd x1151.done (gd x1150 k1191).toNat) x1124 W1221 U1249 hs hC1251 h1256 h1260 h1262 h1263 h1265) (.inr rfl) ?_
    rintro U1267 L1268 v1269 W1270 le1271 hS1272 ⟨rfl,rfl⟩
    have hS1273:St B1131 U1267 [.obj l1121 o1147,B16,B17,.blk b2 26 B0,B6,B13] W1270:=hS1272
    have q:=th1248 _ _ _ le1271 hS1273
    obtain ⟨U1274,le1275,hS1276⟩:=q
    have hS1277:St B1131 U1274 [.blk b8 78 B12,.obj l1121 o1147,B16,B17,.blk b2 26 B0,B6,B13] W1270:=hS1276
    have q:=th1242 _ _ _ le1275 hS1277
    obtain ⟨U1278,le1279,hS1280⟩:=q
    have hS1281:St B1131 U1278 [B15,.blk b8 78 B12,.obj l1121 o1147,B16,B17,.blk b2 26 B0,B6,B13] W1270:=hS1280
    have q:=th1236 _ _ _ le1279 hS1281
    obtain ⟨U1282,le1283,hS1284⟩:=q
    have hS1285:St B1131 U1282 [B14,B15,.blk b8 78 B12,.obj l1121 o1147,B16,B17,.blk b2 26 B0,B6,B13] W1270:=hS1284
    refine bnK hm1266 fun x1286 h1287 hm1288=>?_
    have h1289:=h1225.le le1283
    have q:=h1289.el (fun _=>rfl) (wAL h1287)
    obtain ⟨b1290,off1291,hA1292,hC1293⟩:=q
    refine oR Z (zq Z Z hA1292 Z zA zG (wBL h1287) (wBO h1287)) (oL Z (hS1285.ldC (f:=0) hC1293 (v:=jV x1286) Z Z zQ Z) ?_)
    let B18:List Value:=[jV x1222,jV (gd x1151.done (gd x1150 k1191).toNat),jV x1124,jV x1286]
    let B19:List Value:=[jV 0,jV 0,jV 0,jV 0]
    refine oR Z (Runs.build (pv:=[(0,jV x1222),(1,jV (gd x1151.done (gd x1150 k1191).toNat)),(2,jV x1124),(3,jV x1286)]) (z:=B19) (cs:=B18) Z (wAR Z (wAR Z (wAR Z (wAR Z wBq)))) Tryz.zeroValue38 wMV Z Z) (OKS.buildSlice (pv:=[(0,.agg B18.toArray)]) (zs:=B19) (cs:=B18) Z Z Z Z Z (wAR Z wBq) Tryz.runUnderlying30 Tryz.sizeOf38 Tryz.zeroValue38 Z Z Z Z Z hS1285 ?_)
    intro W1294 b1295 hS1296
    let B20:Res:=.row (some ⟨b1295,0,none⟩) 1 38 4 (nA wAI [(⟨x1222,(gd x1151.done (gd x1150 k1191).toNat),x1124,x1286⟩:wAC)])
    have hS1298:St B1131 U1282 [B20,B14,B15,.blk b8 78 B12,.obj l1121 o1147,B16,B17,.blk b2 26 B0,B6,B13] W1294:=hS1296
    refine bnK hm1288 fun x1299 h1300 hm1301=>OKS.append (j:=5) (enc:=wAI) (xs:=l1188) (ys:=[(⟨x1222,(gd x1151.done (gd x1150 k1191).toNat),x1124,x1286⟩:wAC)]) (zs:=x1299) rfl rfl rfl rfl rfl Tryz.underlying30 wPu rfl rfl rfl rfl rfl rfl hS1298 rfl rfl rfl (hS1298.srcR (j:=0) rfl (by decide) (wAF (f:=wAI) (sz:=4) (fun _=>rfl) [(⟨x1222,(gd x1151.done (gd x1150 k1191).toNat),x1124,x1286⟩:wAC)])) (fun _=>rfl) (fun _=>rfl) h1300 rfl ?_
    intro A1302 c1303 W1304 hS1305
    let B21:Res:=.row A1302 c1303 38 4 (nA wAI x1299)
    have hS1306:St B1131 U1282 [B20,B14,B15,.blk b8 78 B12,.obj l1121 o1147,B21,B17,.blk b2 26 B0,B6,B13] W1304:=hS1305
    refine OKS.st (j:=6) (vs:=[.slice A1302 x1299.length c1303]) Z Z Z Z hS1306 Z f1208 Z Z Tryz.sizeOf30 (ZB Z) Z Z Z ?_
    intro W1307 hS1308
    have hS1309:St B1131 U1282 [B20,B14,B15,.blk b8 78 B12,.obj l1121 o1147,B21,.blk b515 30 [.slice A1302 x1299.length c1303],.blk b2 26 B0,B6,B13] W1307:=hS1308
    refine zj (zZ (zC (rR fL2 Z (oR Z (ZC (zX Z fi1203 Z) (congrArg (jV) hi1214.out)) (oM Z Z (zj ?_))))))
    cases hm1301
    exact zC ⟨rfl,⟨U1282,A1302,c1303,rfl,f1207,f1208,f1209,f1210,f1211,f1212,(le1205.trans le1283),(hS1309.pick [1,2,3,4,5,6,7,8,9] _ (by decide) rfl)⟩⟩
   ·rintro σ1313 W1314 ⟨U1322,A1320,c1321,fi1316,f1325,f1326,f1327,f1328,f1329,f1330,le1323,hS1324⟩
    have c1331:Hid (¬ ((↑(((↑x1150.length:Int):Int) - 0).toNat:Int) < (↑x1150.length:Int))):=zF (wBQ)
    refine sR fL1 Z (oR Z (zS Z fi1316 f1330) (eN (zD (cF Z c1331 (ZF (zd (zd (zx (zC (sR fL3 Z (oM Z f1328 (oR Z (zY Z Z zA) (oM Z Z (eN (zP (bnK hm1192 fun y1343 hf1340 hm1339=>?_))))))))))))))))
    have q:=wCG hf1340
    obtain ⟨hle1341,hf1342⟩:=q
    replace hle1341:=zF hle1341
    let B22:Res:=.row A1320 c1321 38 4 (nA wAI y1196)
    let B23:Res:=.blk b515 30 [.slice A1320 y1196.length c1321]
    refine CK.forN' (fun k1338 l1337 σ_ w_=>∃ (U_:PHeap),σ_ 76=jV (↑k1338:Int)/\σ_ 4=.pointer (some ⟨b6,0,none⟩)/\σ_ 5=.pointer (some ⟨b515,0,none⟩)/\σ_ 74=.slice A1161 x1150.length c1162/\σ_ 75=jV (↑x1150.length:Int)/\PHeap.Le U1322 U_/\St B1131 U_ [B14,.row A1169 c1170 4 1 (nA KL.encT l1337),.blk b8 78 [jV x1151.Race.Laps,.slice A1163 x1151.Race.Bibs.length c1164,.slice A1165 x1151.Race.Times.length c1166,.slice A1167 x1151.done.length c1168,.slice A1169 l1337.length c1170],.obj l1121 o1147,B22,B23,.blk b2 26 B0,B6,B13] w_/\l1337.length=x1151.out.length) hf1342 ?_ ?_ ?_
    ·exact ⟨U1322,Z,f1325,f1326,Z,Z,(zN _),hS1324,Z⟩
    ·rintro k1338 l1337 xx1346 σ1344 W1345 hk1349 ⟨U1351,fi1350,f1354,f1355,f1356,f1357,le1352,hS1353,h1358⟩ hx1347
     have c1359:Hid ((↑k1338:Int) < (↑x1150.length:Int)):=zF (wBi hk1349)
     replace hk1349:=zF hk1349
     have hi1360:Hid (w64 ((↑k1338:Int) + 1)=(↑(k1338 + 1):Int)):=zF (by have h1:=hle1341.out;have h2:=c1359.out;rw [wAe] <;> omega)
     refine sR fL1 Z (oR Z (zS Z fi1350 f1357) (eN (zD (cT Z c1359 (kN (zD (zP (sR fL3 Z (bnK hx1347 fun _ h1361 hm1362=>?_)))))))))
     obtain ⟨b1363,hA1364⟩:=hS1353.rowSome (j:=8) rfl (by rw [wAF (f:=KL.encI) (sz:=1) (fun _=>rfl) x1150];have hz:=wAW h1361;omega)
     refine oR Z (ZD Z f1356 hA1364 fi1350 zA zG (wAW h1361)) ?_
     have hg1365:=wBX (xs:=x1150) (wAW h1361)
     refine ZA rfl rfl rfl rfl (hS1353.ldR (j:=8) rfl hA1364 rfl rfl zQ (wAZ (sz:=1) (fun _=>rfl) _ _ 0 _ hg1365 (by first | omega | rfl | simp) rfl)) rfl (OKS.ra rfl rfl rfl rfl rfl rfl (eN (rR (wOq (.fx 6 (.nil) .stop)) rfl (ZA rfl rfl rfl rfl (hS1353.ldB (j:=7) rfl rfl f1354 Zb (v:=.pointer (some ⟨b8,0,none⟩)) rfl) rfl (zt rfl rfl rfl rfl (fun _=>ZN rfl rfl) (zt rfl rfl rfl rfl (fun _=>zO rfl rfl zu rfl Tryz.sizeOf76) (ZA rfl rfl rfl rfl (hS1353.ldB (j:=2) rfl rfl rfl Tryz.isAgg76 (v:=.slice A1169 l1337.length c1170) rfl) rfl (zf rfl rfl rfl rfl rfl rfl (bnK hm1362 fun _ h1366 hm1367=>?_)))))))))
     obtain ⟨b1368,hA1369⟩:=hS1353.rowSome (j:=1) rfl (by rw [wAF (f:=KL.encT) (sz:=1) (fun _=>rfl) l1337];have hz:=wAW h1366;omega)
     refine oR Z (zq Z Z hA1369 Z ZM Tryz.sizeOf4 (wCT h1366) (wCU h1366)) ?_
     have hg1370:=wBX (xs:=l1337) (wAW h1366)
     refine OKS.stR (j:=1) (vs:=[.bool true]) (cs':=nA KL.encT (nN l1337 (gd x1150 k1338).toNat true)) rfl rfl rfl rfl hS1353 rfl hA1369 rfl rfl rfl Tryz.sizeOf4 (by rw [wAF (f:=KL.encT) (sz:=1) (fun _=>rfl)];have hz:=wAW h1366;simp only [nJ,nH,nI,nO,nP];first | omega | (simp only [nK];omega)) rfl (wFI (sz:=1) (fo:=0) (fun _=>rfl) _ _ _ _ hg1370 (by first | omega | (simp only [nK];omega) | (simp only [nJ,nH,nI];omega)) (ZB rfl) rfl) rfl ?_
     intro W1371 hS1372
     let B24:Res:=.row A1169 c1170 4 1 (nA KL.encT (nN l1337 (gd x1150 k1338).toNat true))
     have hS1373:St B1131 U1351 [B14,B24,.blk b8 78 [jV x1151.Race.Laps,.slice A1163 x1151.Race.Bibs.length c1164,.slice A1165 x1151.Race.Times.length c1166,.slice A1167 x1151.done.length c1168,.slice A1169 l1337.length c1170],.obj l1121 o1147,B22,B23,.blk b2 26 B0,B6,B13] W1371:=hS1372
     have hS1374:St B1131 U1351 [B14,B24,.blk b8 78 [jV x1151.Race.Laps,.slice A1163 x1151.Race.Bibs.length c1164,.slice A1165 x1151.Race.Times.length c1166,.slice A1167 x1151.done.length c1168,.slice A1169 ((nN l1337 (gd x1150 k1338).toNat true).length) c1170],.obj l1121 o1147,B22,B23,.blk b2 26 B0,B6,B13] W1371:=by simpa only [nL] using hS1373
     refine zj (zZ (zC (rR fL2 Z (oR Z (ZC (zX Z fi1350 Z) (congrArg (jV) hi1360.out)) (oM Z Z (zj ?_))))))
     cases hm1367
     exact zC ⟨rfl,⟨U1351,rfl,f1354,f1355,f1356,f1357,le1352,hS1374,(by simp only [nL];exact h1358)⟩⟩
    ·rintro σ1376 W1377 ⟨U1381,fi1379,f1384,f1385,f1386,f1387,le1382,hS1383,h1388⟩
     have c1389:Hid (¬ ((↑(((↑x1150.length:Int):Int) - 0).toNat:Int) < (↑x1150.length:Int))):=zF (wBQ)
     refine sR fL1 Z (oR Z (zS Z fi1379 f1387) (eN (zD (cF Z c1389 (ZF (zd (zd (zx (zZ ?_)))))))))
     have h1406:=h1174.le le1323
     have h1407:=h1406.le le1382
     have h1408:=h1175.le le1323
     have h1409:=h1408.le le1382
     obtain rfl:=nD hm1339
     exact ⟨_,_,(hS1383.pick [3,4,5,6,7,0,1,2] _ (by decide) rfl),rfl,⟨A1320,c1321,A1163,c1164,A1165,c1166,A1167,c1168,A1169,c1170,rfl,h1407,h1409⟩⟩
  ·rintro rb1410 U1411 L1412 W1413 le1414 hS1415
   rcases rr1118 with ⟨y1416,y1417,y1418,y1419,y1420,y1421⟩ | e1432
   ·try dsimp only at hm1120
    rintro ⟨A1422,c1423,A1424,c1425,A1426,c1427,A1428,c1429,A1430,c1431,rfl,h1433,h1434⟩
    let B25:Res:=.blk b8 78 [jV y1417,.slice A1424 y1418.length c1425,.slice A1426 y1419.length c1427,.slice A1428 y1420.length c1429,.slice A1430 y1421.length c1431]
    let B26:Res:=.row A1428 c1429 3 1 (nA KL.encI y1420)
    let B27:Res:=.row A1430 c1431 4 1 (nA KL.encT y1421)
    let B28:Res:=.blk b515 30 [.slice A1422 y1416.length c1423]
    have hS1436:sW w U U1411 [.row A1422 c1423 38 4 (nA wAI y1416),B28,.blk b2 26 B0,B6,B26,B27,B25,.obj rb1410 (.deferred (some []))] W1413:=hS1415
    refine zZ (zC (sR (.fl 0 (.fx 1 (.nil) .stop)) Z (oL Z (hS1436.ldB (j:=1) Z Z f538 Tryz.isAgg30 (v:=.slice A1422 y1416.length c1423) Z) ?_)))
    have hF1437:FnOK Tryz.prog U1411 (.func (.func 75) #[] #[]) wPr wPs (fun x=>wAc x.1 x.2):=⟨75,[],[],rfl,Tryz.call75,fun U1 w1 x y vs le hs ha hm=>by obtain rfl:=ha;exact wGu x.1 x.2 w1 U1 hs  hm⟩
    refine bnK hm1120 fun x1438 h1439 hm1440=>zV 1 Z Z Z Z (zW Z Z Tryz.call74 (zK Z (zK Z zh)) Z) hS1436 (fun hs=>wBh y1416 A1422 c1423 (fun x=>wAc x.1 x.2) (.func (.func 75) #[] #[]) W1413 U1411 hs hF1437 ⟨_,_,Z⟩ h1439) (.inl Z) ?_
    rintro U1441 L1442 v1443 W1444 le1445 hS1446 ⟨rfl,rfl,h1447⟩
    let B29:Res:=.row A1422 c1423 38 4 (nA wAI x1438)
    have hS1448:sW w U U1441 [B29,B28,.blk b2 26 B0,B6,B26,B27,B25,.obj rb1410 (.deferred (some []))] W1444:=hS1446
    let B30:Res:=.blk b515 30 [.slice A1422 x1438.length c1423]
    have hS1449:sW w U U1441 [B29,B30,.blk b2 26 B0,B6,B26,B27,B25,.obj rb1410 (.deferred (some []))] W1444:=by simp only [B30,h1447];exact hS1448
    refine eN (zD (ZK ZJ [1,1,3,3] fL4 (by kernel_rfl) ?_))
    have hS1450:=hS1449.drew
    generalize hw_W1451:({ W1444 with drawn:=W1444.drawn + 1 }:World)=W1451 at hS1450 ⊢
    refine oL Z (hS1450.ldB (j:=3) Z Z f537 Zb (v:=.pointer (some ⟨b8,0,none⟩)) Z) (oL Z (hS1450.ldB (j:=1) Z Z f538 Tryz.isAgg30 (v:=.slice A1422 x1438.length c1423) Z) (oA Z Z (oA Z Z (eN (ze ?_)))))
    have h1452:=h1433.le le1445
    have h1453:=h1434.le le1445
    refine wNm (by first | exact .inl rfl | exact .inr rfl) (rbs:=[rb1410]) (L:=[B29,B30,.blk b2 26 B0,B6,B26,B27,B25]) hS1450 fun W1454 hS1455=>?_
    have hS1456:sW w U U1441 [B29,B30,.blk b2 26 B0,B6,B26,B27,B25] W1454:=hS1455
    cases hm1440
    exact ⟨_,(wLo rfl rfl),U1441,_,(hS1456.pick [6,4,5,0] _ (by decide) rfl),b8,A1424,c1425,A1426,c1427,A1428,c1429,A1430,c1431,A1422,c1423,rfl,rfl,h1452,h1453⟩
   ·exact e1432.elim
end Go.Proofs.YtbpllbhagaoocaaGreat
namespace Go.Proofs.YtbpllbhagaoocaaGreat
open Go.KL
set_option maxHeartbeats 4000000
theorem wFz (p0:wAA) (pA0_1:Option Addr) (pc0_1:Nat) (pA0_2:Option Addr) (pc0_2:Nat) (w:World) (U:PHeap) (hS:St0 w U []) (ha0:Sl U 1 pA0_1 pc0_1 p0.Bibs.length (nA KL.encI p0.Bibs)) (ha1:SlR U wDc pA0_2 pc0_2 p0.Times) {r:(List wAC) × Int} (hm:wBb p0=some r):Gv Tryz.prog 8 [.agg #[jV p0.Laps,.slice pA0_1 p0.Bibs.length pc0_1,.slice pA0_2 p0.Times.length pc0_2]] w (wCR w [] U (fun U_ L_ v=>∃ (A0:Option Addr) (c0:Nat),v=.tuple #[.slice A0 r.1.length c0,jV r.2]/\L_=[.row A0 c0 38 4 (nA wAI r.1)])):=by
 unfold wBb at hm
 refine Gv.of Tryz.func8 Z Tryz.ntmps8 Tryz.results8 Z (sR (.fx 0 (.fl 1 (.fl 2 (.nil))) .stop) Z ?_)
 let B0:List Value:=[jV p0.Laps,.slice pA0_1 p0.Bibs.length pc0_1,.slice pA0_2 p0.Times.length pc0_2]
 refine ZT (cs:=B0) rfl rfl rfl rfl rfl rfl (by rfl) hS ?_
 intro W1 b2 hS3
 refine oA Z Z (oA Z Z (eN (zD (sR (.fl 0 (.fx 1 (.fl 2 (.nil)) .stop)) Z (oL Z (hS3.ldBA (j:=0) Z Z Z ZP ZG (vs:=B0) Z Z) (bnK hm fun x5 h6 hm7=>zV 0 Z Z Z Z (zW Z Z Tryz.call25 (zK Z zh) Z) hS3 (fun hs=>wCE p0 pA0_1 pc0_1 pA0_2 pc0_2 W1 U hs ha0 ha1 h6) (.inr Z) ?_))))))
 rintro U8 L9 v10 W11 le12 hS13 ⟨rfl,rfl⟩
 have hS14:sW w U U8 [.blk b2 26 B0] W11:=hS13
 refine oA Z Z (eN (sR fL2 Z (oM Z Z (oR Z (ZU Z Z Z) (eN (ifc hm7 ?_ ?_))))))
 ·intro c15 hm16
  refine zy (ZL (fun h=>h c15.out)) (kN (sR (.fl 0 (.fx 1 (wHl (.nil)) .stop)) Z (oL Z (hS14.ldBA (j:=0) Z Z Z ZP ZG (vs:=B0) Z Z) ?_)))
  have h17:=ha0.le le12
  have h18:=ha1.le le12
  have q:=bnd hm16
  obtain ⟨⟨x19,x20⟩,h21,hm22⟩:=q
  try dsimp only at hm22
  refine zV 0 Z Z Z Z (zW Z Z Tryz.call32 (zK Z zh) Z) hS14 (fun hs=>wFl p0 pA0_1 pc0_1 pA0_2 pc0_2 W11 U8 hs h17 h18 h21) (.inr Z) ?_
  rintro U23 L24 v25 W26 le27 hS28 ⟨b29,A30,c31,A32,c33,A34,c35,A36,c37,A38,c39,rfl,rfl,h44,h45⟩
  have hS46:sW w U U23 [.blk b29 78 [jV x19.Race.Laps,.slice A30 x19.Race.Bibs.length c31,.slice A32 x19.Race.Times.length c33,.slice A34 x19.done.length c35,.slice A36 x19.out.length c37],.row A34 c35 3 1 (nA KL.encI x19.done),.row A36 c37 4 1 (nA KL.encT x19.out),.row A38 c39 38 4 (nA wAI x20),.blk b2 26 B0] W26:=hS28
  refine oM Z Z (oR Z (ZS Z Z (v:=.pointer (some ⟨b29,0,none⟩)) Z) (oR Z (ZS Z Z (v:=.slice A38 x20.length c39) Z) (oA Z Z (oA Z Z (eN (sR fL3 Z (oM Z Z (oA Z Z (oA Z Z (eN (ze ?_)))))))))))
  cases hm22
  exact ⟨rfl,_,(wLo rfl rfl),U23,_,(hS46.pick [3] _ (by decide) rfl),A38,c39,rfl,rfl⟩
 ·intro c15 hm47
  refine cT Z c15 (sR fL3 Z (oM Z Z (oA Z Z (oA Z Z (eN (ze (zR ?_)))))))
  have hS48:=hS14.nilrow 38 4
  cases hm47
  exact ⟨rfl,_,(wLo rfl rfl),U8,_,(hS48.pick [0] _ (by decide) rfl),none,0,rfl,rfl⟩
theorem wBY (p0:List Int) (pA0:Option Addr) (pc0:Nat) (p1:Int) (p2:Int) (w:World) (U:PHeap) (hS:St0 w U []) (ha0:Sl U 1 pA0 pc0 p0.length (nA KL.encI p0)) {r:Int} (hm:wAM p0 p1 p2=some r):Gv Tryz.prog 70 [.slice pA0 p0.length pc0,jV p1,jV p2] w (wCR w [] U (fun U_ L_ v=>v=jV r/\L_=[])):=by
 unfold wAM at hm
 refine Gv.of Tryz.func70 Z Tryz.ntmps70 Tryz.results70 Z (sR fL1 Z (oA Z Z (eN (sR fL1 Z (oA Z Z (eN (zD (sR fL1 Z (oA Z Z (eN (zP (bnK hm fun y12 hf9 hm8=>?_))))))))))))
 have q:=wCG hf9
 obtain ⟨hle10,hf11⟩:=q
 replace hle10:=zF hle10
 refine CK.forN' (fun k7 x6 σ_ w_=>∃ (U_:PHeap),σ_ 8=jV (↑k7:Int)/\σ_ 0=.slice pA0 p0.length pc0/\σ_ 1=jV p1/\σ_ 2=jV p2/\σ_ 7=jV x6/\PHeap.Le U U_/\sW w U U_ [] w_) hf11 ?_ ?_ ?_
 ·exact ⟨U,Z,Z,Z,Z,Z,(zN _),hS⟩
 ·rintro k7 x6 xx15 σ13 W14 hk18 ⟨U20,fi19,f23,f24,f25,f26,le21,hS22⟩ hx16
  have c27:Hid ((↑k7:Int) < (↑p0.length:Int)):=zF (wBi hk18)
  replace hk18:=zF hk18
  have hi28:Hid (w64 ((↑k7:Int) + 1)=(↑(k7 + 1):Int)):=zF (by have h1:=hle10.out;have h2:=c27.out;rw [wAe] <;> omega)
  refine zD (sR fL4 Z (oM Z fi19 (oM Z f23 (oR Z (zY Z Z zA) (oR Z (zS Z Z Z) (eN (cT Z c27 (kN (zD (zP (sR fL18 Z (oM Z f23 (oM Z fi19 (bnK hx16 fun x29 h30 hm31=>?_))))))))))))))
  have h32:=ha0.le le21
  have q:=h32.el (fun _=>rfl) (wAL h30)
  obtain ⟨b33,off34,hA35,hC36⟩:=q
  refine oR Z (ZD Z Z hA35 Z zA zG (wBe h30)) (oL Z (hS22.ldC (f:=0) hC36 (v:=jV x29) Z Z zQ Z) (oM Z f24 (oR Z (Runs.leq Z Z Z) (oM Z Z (ifc hm31 ?_ ?_)))))
  ·intro c37 hm38
   refine zf Z Z Z (wT Z c37) Z f25 (rU Z (wT Z c37) (zS Z Z Z) (zf Z Z Z (wT Z c37) Z Z (ifc hm38 ?_ ?_)))
   ·intro c39 hm40
    refine oT Z c39 (oT Z c39 (oT Z c39 (oT Z c39 (oT Z c39 (oT Z c39 (rU Z (wT Z c37) (zk Z (wED c39.out) Z) (oR Z (zk Z (wED c37.out) Z) (eN (ZI Z (rR fL3 Z (oM Z f26 (oR Z (zX Z Z Z) (oA Z Z (zj (zZ (zC (rR fL3 Z (oM Z fi19 (oR Z (ZC (zX Z Z Z) (congrArg (jV) hi28.out)) (oA Z Z (zj ?_)))))))))))))))))))))
    cases hm40
    exact zC ⟨Z,⟨U20,Z,f23,f24,f25,Z,le21,hS22⟩⟩
   ·intro c39 hm42
    refine zf Z Z Z (wF Z c39) Z f23 (zf Z Z Z (wF Z c39) Z fi19 ?_)
    have q:=h32.el (fun _=>rfl) (wAL h30)
    obtain ⟨b43,off44,hA45,hC46⟩:=q
    refine rU Z (wF Z c39) (ZD Z Z hA45 Z zA zG (wBe h30)) (ZA Z Z Z (wF Z c39) (hS22.ldC (f:=0) hC46 (v:=jV x29) Z Z zQ Z) Z (zf Z Z Z (wF Z c39) Z f25 (rU Z (wF Z c39) (Runs.leq Z Z Z) (rU Z (wT Z c37) (zg Z (ZL c39.out) Z) (oR Z (zk Z (wED c37.out) Z) (eN (ifc hm42 ?_ ?_)))))))
    ·intro c47 hm48
     refine cT Z c47 (rR fL3 Z (oM Z f26 (oR Z (zX Z Z Z) (oA Z Z (zj (zZ (zC (rR fL3 Z (oM Z fi19 (oR Z (ZC (zX Z Z Z) (congrArg (jV) hi28.out)) (oA Z Z (zj ?_))))))))))))
     cases hm48
     exact zC ⟨Z,⟨U20,Z,f23,f24,f25,Z,le21,hS22⟩⟩
    ·intro c47 hm50
     refine cF Z c47 (ZH (zZ (zC (rR fL3 Z (oM Z fi19 (oR Z (ZC (zX Z Z Z) (congrArg (jV) hi28.out)) (oA Z Z (zj ?_))))))))
     cases hm50
     exact zC ⟨Z,⟨U20,Z,f23,f24,f25,f26,le21,hS22⟩⟩
  ·intro c37 hm52
   refine oF Z c37 (oF Z c37 (oF Z c37 (zU Z Z Z (wAG Z Z Z) (zU Z Z Z (wAG Z Z Z) (zU Z Z Z (wAG Z Z Z) (zU Z Z Z (wAG Z Z Z) (zU Z Z Z (wAG Z Z Z) (zU Z Z Z (wAG Z Z Z) (oF Z c37 (oR Z (zg Z (ZL c37.out) Z) (eN (zy Z (ZH (zZ (zC (rR fL3 Z (oM Z fi19 (oR Z (ZC (zX Z Z Z) (congrArg (jV) hi28.out)) (oA Z Z (zj ?_))))))))))))))))))))
   cases hm52
   exact zC ⟨Z,⟨U20,Z,f23,f24,f25,f26,le21,hS22⟩⟩
 ·rintro σ54 W55 ⟨U59,fi57,f62,f63,f64,f65,le60,hS61⟩
  have c66:Hid (¬ ((↑(((↑p0.length:Int):Int) - 0).toNat:Int) < (↑p0.length:Int))):=zF (wBQ)
  refine zD (sR fL4 Z (oM Z fi57 (oM Z f62 (oR Z (zY Z Z zA) (oR Z (zS Z Z Z) (eN (cF Z c66 (ZF (zd (zd (zx (zC (sR fL2 Z (oM Z f65 (oA Z Z (eN (ze ?_)))))))))))))))))
  have hE:=nD hm8;first | subst r | cases hE
  exact ⟨Z,_,(zz Z),U59,_,hS61,Z,Z⟩
theorem wCg (p0:wAH) (pA0_1:Option Addr) (pc0_1:Nat) (pA0_2:Option Addr) (pc0_2:Nat) (w:World) (U:PHeap) (hS:St0 w U []) (ha0:Sl U 1 pA0_1 pc0_1 p0.Bibs.length (nA KL.encI p0.Bibs)) (ha1:SlR U wDc pA0_2 pc0_2 p0.Times) {r:(List wAJ) × (List Int)} (hm:wBA p0=some r):Gv Tryz.prog 69 [.agg #[jV p0.Laps,.slice pA0_1 p0.Bibs.length pc0_1,.slice pA0_2 p0.Times.length pc0_2]] w (wCR w [] U (fun U_ L_ v=>∃ (A0:Option Addr) (c0:Nat) (A1:Option Addr) (c1:Nat),v=.tuple #[.slice A0 r.1.length c0,.slice A1 r.2.length c1]/\L_=[.row A0 c0 64 4 (nA wAB r.1),.row A1 c1 3 1 (nA KL.encI r.2)])):=by
 unfold wBA at hm
 refine Gv.of Tryz.func69 Z Tryz.ntmps69 Tryz.results69 Z (sR (.fx 0 (.fl 1 (.fl 2 (.nil))) .stop) Z ?_)
 let B0:List Value:=[jV p0.Laps,.slice pA0_1 p0.Bibs.length pc0_1,.slice pA0_2 p0.Times.length pc0_2]
 refine ZT (cs:=B0) rfl rfl rfl rfl rfl rfl (by rfl) hS ?_
 intro W1 b2 hS3
 refine oA Z Z (oA Z Z (eN (sR (wOo (.fx 3 (.fl 4 (.nil)) .stop)) Z (oR Z (zO Z Z zM Z zI) (oL Z (hS3.ldB (j:=0) Z Z Z zJ (v:=.slice pA0_1 p0.Bibs.length pc0_1) Z) (oR Z (zY Z Z zA) (bnK hm fun x5 h6 hm7=>ZQ (enc:=KL.encI) (z:=(0:Int)) (v:=jV 0) Z Z Z Z Z (wCM zA) wFy Z Z Z Z Z Z h6 hS3 ?_)))))))
 intro W8 b9 hS10
 have hS12:sW w U U [.row (some ⟨b9,0,none⟩) x5.length 3 1 (nA KL.encI x5),.blk b2 58 B0] W8:=hS10
 refine oA Z Z (eN (zD (sR fL1 Z (oA Z Z (eN (zP (ZY (fun (l19,x20) σ_ w_=>∃ (U_:PHeap),σ_ 1=.pointer (some ⟨b2,0,none⟩)/\σ_ 4=.slice (some ⟨b9,0,none⟩) l19.length x5.length/\σ_ 5=jV x20/\PHeap.Le U U_/\sW w U U_ [.blk b2 58 B0,.row (some ⟨b9,0,none⟩) x5.length 3 1 (nA KL.encI l19)] w_/\l19.length=x5.length) hm7 ?_ ?_)))))))
 ·exact ⟨U,rfl,rfl,rfl,(zN _),(hS12.pick [1,0] _ (by decide) rfl),rfl⟩
 ·rintro ⟨l19,x20⟩ xx23 σ21 W22 ⟨U28,f31,f32,f33,le29,hS30,h34⟩ hx24 hb25
  try dsimp only at hx24
  refine zD (sR fL4 Z (oM Z f33 (oM Z f32 (oR Z (zY Z Z zA) (oR Z (zS Z Z Z) (eN ?_))))))
  by_cases c35:x20 < (↑l19.length:Int)
  ·have hm36:=hx24;rw [if_pos c35] at hm36;replace c35:=zF c35
   refine cT Z c35 (kN (zD (zP (rR (wOo (.fx 3 (.nil) .stop)) Z (oM Z f32 (oM Z f33 (bnK hm36 fun _ h37 hm38=>oR Z (zq Z Z Z Z zA zG (wCT h37) (wCU h37)) ?_)))))))
   have hg39:=wBX (xs:=l19) (wAW h37)
   refine OKS.stR (j:=1) (vs:=[jV (-1)]) (cs':=nA KL.encI (nN l19 x20.toNat (-1))) rfl rfl rfl rfl hS30 rfl rfl rfl rfl rfl zG (by rw [wAF (f:=KL.encI) (sz:=1) (fun _=>rfl)];have hz:=wAW h37;simp only [nJ,nH,nI,nO,nP];first | omega | (simp only [nK];omega)) rfl (wFI (sz:=1) (fo:=0) (fun _=>rfl) _ _ _ _ hg39 (by first | omega | (simp only [nK];omega) | (simp only [nJ,nH,nI];omega)) (ZB rfl) rfl) rfl ?_
   intro W40 hS41
   have hS42:sW w U U28 [.blk b2 58 B0,.row (some ⟨b9,0,none⟩) x5.length 3 1 (nA KL.encI (nN l19 x20.toNat (-1)))] W40:=hS41
   refine zj (zZ (zC (rR fL3 Z (oM Z f33 (oR Z (zX Z Z Z) (oA Z Z (zj ?_)))))))
   obtain rfl:=nD hm38
   exact zC ⟨rfl,_,rfl,⟨U28,f31,(nS (b:=(.slice (some ⟨b9,0,none⟩) l19.length x5.length:Value)) (c:=(.slice (some ⟨b9,0,none⟩) ((nN l19 x20.toNat (-1)).length) x5.length:Value)) f32 (by simp only [nL])),rfl,le29,hS42,(by simp only [nL];exact h34)⟩⟩
  ·have hm45:=hx24;rw [if_neg c35] at hm45;replace c35:=zF c35
   refine cF Z c35 (ZF (zd ?_))
   have q:=wAQ hm45
   obtain ⟨v46,hm47,e48⟩:=q
   obtain rfl:=hb25 v46 e48
   refine zd (zx (zC (sR fL1 Z (oA Z Z (eN (sR fL1 Z (oA Z Z (eN (zP (ZY (fun (l66,l67,x71) σ_ w_=>∃ (U_:PHeap) (A68:Option Addr) (c69:Nat),σ_ 1=.pointer (some ⟨b2,0,none⟩)/\σ_ 4=.slice (some ⟨b9,0,none⟩) l66.length x5.length/\σ_ 6=.slice A68 l67.length c69/\σ_ 7=jV x71/\PHeap.Le U28 U_/\sW w U U_ [.blk b2 58 B0,.row (some ⟨b9,0,none⟩) x5.length 3 1 (nA KL.encI l66),.row A68 c69 64 4 (nA wAB l67)] w_/\l66.length=x5.length) hm47 ?_ ?_))))))))))
   ·have hS72:=hS30.nilrow 64 4
    exact ⟨U28,none,0,f31,f32,rfl,rfl,(zN _),(hS72.pick [1,2,0] _ (by decide) rfl),h34⟩
   ·rintro ⟨l66,l67,x71⟩ xx76 σ74 W75 ⟨U81,A68,c69,f84,f85,f86,f87,le82,hS83,h88⟩ hx77 hb78
    try dsimp only at hx77
    refine zP (sR fL1 Z (oA Z Z (eN (zD (sR fL1 Z (oA Z Z (eN (zP ?_))))))))
    let B1:Res:=.row (some ⟨b9,0,none⟩) x5.length 3 1 (nA KL.encI l66)
    let B2:Res:=.row A68 c69 64 4 (nA wAB l67)
    refine ZY (fun (x95,x96) σ_ w_=>∃ (U_:PHeap),σ_ 1=.pointer (some ⟨b2,0,none⟩)/\σ_ 4=.slice (some ⟨b9,0,none⟩) l66.length x5.length/\σ_ 6=.slice A68 l67.length c69/\σ_ 7=jV x71/\σ_ 8=jV x95/\σ_ 9=jV x96/\PHeap.Le U81 U_/\sW w U U_ [.blk b2 58 B0,B1,B2] w_) hx77 ?_ ?_
    ·exact ⟨U81,f84,f85,f86,f87,Z,Z,(zN _),hS83⟩
    ·rintro ⟨x95,x96⟩ xx99 σ97 W98 ⟨U104,f107,f108,f109,f110,f111,f112,le105,hS106⟩ hx100 hb101
     try dsimp only at hx100
     refine zD (sR fL5 Z (oM Z f112 (oR Z (zO Z f107 zM Z zm) (oL Z (hS106.ldB (j:=0) Z Z Z zr (v:=.slice pA0_2 p0.Times.length pc0_2) Z) (oR Z (zY Z Z zH) (oR Z (zS Z Z Z) (eN ?_)))))))
     by_cases c113:x96 < (↑p0.Times.length:Int)
     ·have hm114:=hx100;rw [if_pos c113] at hm114;replace c113:=zF c113
      refine cT Z c113 (kN (zD (zP (sR fL1 Z (oA Z Z (eN (zP (ZY (fun (x121,x122) σ_ w_=>∃ (U_:PHeap),σ_ 1=.pointer (some ⟨b2,0,none⟩)/\σ_ 4=.slice (some ⟨b9,0,none⟩) l66.length x5.length/\σ_ 6=.slice A68 l67.length c69/\σ_ 7=jV x71/\σ_ 8=jV x121/\σ_ 9=jV x96/\σ_ 10=jV x122/\PHeap.Le U104 U_/\sW w U U_ [.blk b2 58 B0,B1,B2] w_) hm114 ?_ ?_))))))))
      ·exact ⟨U104,f107,f108,f109,f110,f111,f112,Z,(zN _),hS106⟩
      ·rintro ⟨x121,x122⟩ xx125 σ123 W124 ⟨U130,f133,f134,f135,f136,f137,f138,f139,le131,hS132⟩ hx126 hb127
       try dsimp only at hx126
       refine zD (sR fL8 Z (oM Z f139 (oR Z (zO Z f133 zM Z zm) (oL Z (hS132.ldB (j:=0) Z Z Z zr (v:=.slice pA0_2 p0.Times.length pc0_2) Z) (oM Z f138 (bnK hx126 fun x140 h141 hm142=>?_))))))
       have h143:=ha1.le le29
       have h144:=h143.le le82
       have h145:=h144.le le105
       have h146:=h145.le le131
       have q:=h146.el (wAL h141)
       obtain ⟨b147,off148,vs151,hA149,hC150,hr152⟩:=q
       obtain ⟨pA153,pc154,rfl,h155⟩:=hr152
       replace hC150:Cl U130 b147 (off148 + x96.toNat * 1) [.slice pA153 x140.length pc154]:=hC150
       refine oR Z (zq Z Z hA149 Z zH zI (wBL h141) (wBO h141)) (oL Z (hS132.ldC (f:=0) hC150 (v:=.slice pA153 x140.length pc154) Z Z zJ Z) (oR Z (zY Z Z zA) (oR Z (zS Z Z Z) (eN (ifc hm142 ?_ ?_)))))
       ·intro c156 hm157
        refine cT Z c156 (kN (zD (zP (sR fL9 Z (oR Z (zO Z f133 zM Z zm) (oL Z (hS132.ldB (j:=0) Z Z Z zr (v:=.slice pA0_2 p0.Times.length pc0_2) Z) (oM Z f138 ?_)))))))
        have q:=h146.el (wAL h141)
        obtain ⟨b158,off159,vs162,hA160,hC161,hr163⟩:=q
        obtain ⟨pA164,pc165,rfl,h166⟩:=hr163
        replace hC161:Cl U130 b158 (off159 + x96.toNat * 1) [.slice pA164 x140.length pc165]:=hC161
        refine oR Z (zq Z Z hA160 Z zH zI (wBL h141) (wBO h141)) (oL Z (hS132.ldC (f:=0) hC161 (v:=.slice pA164 x140.length pc165) Z Z zJ Z) (oM Z f139 (bnK hm157 fun x167 h168 hm169=>?_)))
        have q:=h166.el (fun _=>rfl) (wAL h168)
        obtain ⟨b170,off171,hA172,hC173⟩:=q
        refine oR Z (zq Z Z hA172 Z zA zG (wBL h168) (wBO h168)) (oL Z (hS132.ldC (f:=0) hC173 (v:=jV x167) Z Z zQ Z) (oA Z Z (eN (sR fL12 Z (oM Z Z (oM Z f136 (oR Z (Za Z Z Z) (oM Z Z (ifc hm169 ?_ ?_)))))))))
        ·intro c174 hm175
         refine zf Z Z Z (wT Z c174) Z f137 (rU Z (wT Z c174) (zS Z Z Z) (zf Z Z Z (wT Z c174) Z Z (ifc hm175 ?_ ?_)))
         ·intro c176 hm177
          refine oT Z c176 (oT Z c176 (oT Z c176 (rU Z (wT Z c174) (zk Z (wED c176.out) Z) (oR Z (zk Z (wED c174.out) Z) (eN (ZI Z (rR fL2 Z (oM Z Z (oA Z Z (zj (zZ (zC (rR fL3 Z (oM Z f139 (oR Z (zX Z Z Z) (oA Z Z (zj ?_)))))))))))))))))
          obtain rfl:=nD hm177
          exact zC ⟨Z,_,Z,⟨U130,f133,f134,f135,f136,Z,f138,Z,le131,hS132⟩⟩
         ·intro c176 hm180
          refine zf Z Z Z (wF Z c176) Z Z (zf Z Z Z (wF Z c176) Z f137 (rU Z (wF Z c176) (zS Z Z Z) (rU Z (wT Z c174) (zg Z (ZL c176.out) Z) (oR Z (zk Z (wED c174.out) Z) (eN (ifc hm180 ?_ ?_))))))
          ·intro c181 hm182
           refine cT Z c181 (rR fL2 Z (oM Z Z (oA Z Z (zj (zZ (zC (rR fL3 Z (oM Z f139 (oR Z (zX Z Z Z) (oA Z Z (zj ?_)))))))))))
           obtain rfl:=nD hm182
           exact zC ⟨Z,_,Z,⟨U130,f133,f134,f135,f136,Z,f138,Z,le131,hS132⟩⟩
          ·intro c181 hm185
           refine cF Z c181 (ZH (zZ (zC (rR fL3 Z (oM Z f139 (oR Z (zX Z Z Z) (oA Z Z (zj ?_))))))))
           obtain rfl:=nD hm185
           exact zC ⟨Z,_,Z,⟨U130,f133,f134,f135,f136,f137,f138,Z,le131,hS132⟩⟩
        ·intro c174 hm188
         refine oF Z c174 (oF Z c174 (oF Z c174 (zU Z Z Z (wAG Z Z Z) (zU Z Z Z (wAG Z Z Z) (zU Z Z Z (wAG Z Z Z) (oF Z c174 (oR Z (zg Z (ZL c174.out) Z) (eN (zy Z (ZH (zZ (zC (rR fL3 Z (oM Z f139 (oR Z (zX Z Z Z) (oA Z Z (zj ?_)))))))))))))))))
         obtain rfl:=nD hm188
         exact zC ⟨Z,_,Z,⟨U130,f133,f134,f135,f136,f137,f138,Z,le131,hS132⟩⟩
       ·intro c156 hm191
        refine cF Z c156 (ZF (zd ?_))
        have q:=wAQ hm191
        obtain ⟨v192,hm193,e194⟩:=q
        obtain rfl:=hb127 v192 e194
        refine zd (zx (zZ (zC (rR fL3 Z (oM Z f138 (oR Z (zX Z Z Z) (oA Z Z (zj ?_))))))))
        obtain rfl:=nD hm193
        exact zC ⟨Z,_,Z,⟨U130,f133,f134,f135,f136,f137,Z,(le105.trans le131),hS132⟩⟩
     ·have hm197:=hx100;rw [if_neg c113] at hm197;replace c113:=zF c113
      refine cF Z c113 (ZF (zd ?_))
      have q:=wAQ hm197
      obtain ⟨v198,hm199,e200⟩:=q
      obtain rfl:=hb101 v198 e200
      refine zd (zx (zC (zD (sR fL2 Z (oM Z f111 (oR Z (zS Z Z Z) (eN (ifc hm199 ?_ ?_))))))))
      ·intro c201 hm202
       refine cT Z c201 (sR fL4 Z (oM Z f109 (oM Z f108 (oA Z Z (oA Z Z (eN (ze (zR (zn ?_)))))))))
       have q:=wAQ hm202
       obtain ⟨v203,hm204,e205⟩:=q
       obtain rfl:=hb78 v203 e205
       refine zR (zn ?_)
       cases hm204
       exact ⟨rfl,_,(wLo rfl rfl),U104,_,(hS106.pick [2,1] _ (by decide) rfl),A68,c69,(some ⟨b9,0,none⟩),x5.length,rfl,rfl⟩
      ·intro c201 hm206
       refine cF Z c201 (kN (sR fL2 Z (oM Z f111 (oA Z Z (eN (sR fL1 Z (oA Z Z (eN (zD (sR fL1 Z (oA Z Z (eN (zP (ZY (fun (l221,x225) σ_ w_=>∃ (U_:PHeap) (A222:Option Addr) (c223:Nat),σ_ 1=.pointer (some ⟨b2,0,none⟩)/\σ_ 4=.slice (some ⟨b9,0,none⟩) l66.length x5.length/\σ_ 6=.slice A68 l67.length c69/\σ_ 7=jV x95/\σ_ 8=jV x95/\σ_ 12=.slice A222 l221.length c223/\σ_ 13=jV x225/\PHeap.Le U104 U_/\sW w U U_ [.blk b2 58 B0,B1,B2,.row A222 c223 64 4 (nA wAB l221)] w_) hm206 ?_ ?_))))))))))))))
       ·have hS226:=hS106.nilrow 64 4
        exact ⟨U104,none,0,f107,f108,f109,rfl,f111,rfl,rfl,(zN _),(hS226.pick [1,2,3,0] _ (by decide) rfl)⟩
       ·rintro ⟨l221,x225⟩ xx230 σ228 W229 ⟨U235,A222,c223,f238,f239,f240,f241,f242,f243,f244,le236,hS237⟩ hx231 hb232
        try dsimp only at hx231
        refine zD (sR fL5 Z (oM Z f244 (oR Z (zO Z f238 zM Z zI) (oL Z (hS237.ldB (j:=0) Z Z Z zJ (v:=.slice pA0_1 p0.Bibs.length pc0_1) Z) (oR Z (zY Z Z zA) (oR Z (zS Z Z Z) (eN ?_)))))))
        by_cases c245:x225 < (↑p0.Bibs.length:Int)
        ·have hm246:=hx231;rw [if_pos c245] at hm246;replace c245:=zF c245
         refine cT Z c245 (kN (zD (zP (zD (sR fL5 Z (oM Z f239 (oM Z f244 (bnK hm246 fun _ h247 hm248=>oR Z (zq Z Z Z Z zA zG (wCT h247) (wCU h247)) ?_))))))))
         have hg249:=wBX (xs:=l66) (wAW h247)
         refine ZA rfl rfl rfl rfl (hS237.ldR (j:=1) rfl rfl rfl rfl zQ (wAZ (sz:=1) (fun _=>rfl) _ _ 0 _ hg249 (by first | omega | rfl | simp) rfl)) rfl (zt rfl rfl rfl rfl (fun _=>Runs.geq rfl rfl rfl) (eN (ifc hm248 ?_ ?_)))
         ·intro c250 hm251
          refine cT Z c250 (ZF (zd (zx (zC (rR fL3 Z (oM Z f244 (oR Z (zX Z Z Z) (oA Z Z (zj ?_)))))))))
          obtain rfl:=nD hm251
          exact zC ⟨Z,_,Z,⟨U235,A222,c223,f238,f239,f240,f241,f242,f243,Z,le236,hS237⟩⟩
         ·intro c250 hm256
          refine cF Z c250 (kN (sR (wOq (.fx 6 (.fl 7 (.nil)) .stop)) Z (oR Z (zO Z f238 zM Z zm) (oL Z (hS237.ldB (j:=0) Z Z Z zr (v:=.slice pA0_2 p0.Times.length pc0_2) Z) (oM Z f244 (bnK hm256 fun x257 h258 hm259=>?_))))))
          have h260:=ha1.le le29
          have h261:=h260.le le82
          have h262:=h261.le le105
          have h263:=h262.le le236
          have q:=h263.el (wAL h258)
          obtain ⟨b264,off265,vs268,hA266,hC267,hr269⟩:=q
          obtain ⟨pA270,pc271,rfl,h272⟩:=hr269
          replace hC267:Cl U235 b264 (off265 + x225.toNat * 1) [.slice pA270 x257.length pc271]:=hC267
          refine oR Z (zq Z Z hA266 Z zH zI (wBL h258) (wBO h258)) (oL Z (hS237.ldC (f:=0) hC267 (v:=.slice pA270 x257.length pc271) Z Z zJ Z) (oM Z f242 (bnK hm259 fun x273 h274 hm275=>zV 0 Z Z Z Z (zW Z Z Tryz.call70 (zK Z (zK Z (zK Z zh))) Z) hS237 (fun hs=>wBY x257 pA270 pc271 x95 (-1) W229 U235 hs h272 h274) (.inr Z) ?_)))
          rintro U276 L277 v278 W279 le280 hS281 ⟨rfl,rfl⟩
          let B3:Res:=.row A222 c223 64 4 (nA wAB l221)
          have hS282:sW w U U276 [.blk b2 58 B0,B1,B2,B3] W279:=hS281
          refine oA Z Z (eN (sR fL1 Z (oA Z Z (eN (zD (sR fL1 Z (oA Z Z (eN (zP (ZY (fun (x289,x290) σ_ w_=>∃ (U_:PHeap),σ_ 1=.pointer (some ⟨b2,0,none⟩)/\σ_ 4=.slice (some ⟨b9,0,none⟩) l66.length x5.length/\σ_ 6=.slice A68 l67.length c69/\σ_ 7=jV x95/\σ_ 8=jV x95/\σ_ 12=.slice A222 l221.length c223/\σ_ 13=jV x225/\σ_ 14=jV x273/\σ_ 15=jV x289/\σ_ 16=jV x290/\PHeap.Le U276 U_/\sW w U U_ [.blk b2 58 B0,B1,B2,B3] w_) hm275 ?_ ?_))))))))))
          ·exact ⟨U276,f238,f239,f240,f241,f242,f243,f244,Z,Z,Z,(zN _),hS282⟩
          ·rintro ⟨x289,x290⟩ xx293 σ291 W292 ⟨U298,f301,f302,f303,f304,f305,f306,f307,f308,f309,f310,le299,hS300⟩ hx294 hb295
           try dsimp only at hx294
           refine zD (sR fL5 Z (oM Z f310 (oR Z (zO Z f301 zM Z zI) (oL Z (hS300.ldB (j:=0) Z Z Z zJ (v:=.slice pA0_1 p0.Bibs.length pc0_1) Z) (oR Z (zY Z Z zA) (oR Z (zS Z Z Z) (eN ?_)))))))
           by_cases c311:x290 < (↑p0.Bibs.length:Int)
           ·have hm312:=hx294;rw [if_pos c311] at hm312;replace c311:=zF c311
            refine cT Z c311 (kN (bnK hm312 fun x313 hx315 hm316=>CK.cut (fun σ_ w_=>∃ (U_:PHeap),σ_ 1=.pointer (some ⟨b2,0,none⟩)/\σ_ 4=.slice (some ⟨b9,0,none⟩) l66.length x5.length/\σ_ 6=.slice A68 l67.length c69/\σ_ 7=jV x95/\σ_ 8=jV x95/\σ_ 12=.slice A222 l221.length c223/\σ_ 13=jV x225/\σ_ 14=jV x273/\σ_ 15=jV x313/\σ_ 16=jV x290/\PHeap.Le U298 U_/\sW w U U_ [.blk b2 58 B0,B1,B2,B3] w_) ?_ ?_))
            ·refine zP (zD (ZK ZJ [3,1,3,3,1,3,3,3,3,1,2,3] (wQE (.fx 10 (.fl 11 (.nil)) .stop)) (by kernel_rfl) ?_))
             have hS317:=hS300.drew
             generalize hw_W318:({ W292 with drawn:=W292.drawn + 1 }:World)=W318 at hS317 ⊢
             refine oR Z (zO Z f301 zM Z zm) (oL Z (hS317.ldB (j:=0) Z Z Z zr (v:=.slice pA0_2 p0.Times.length pc0_2) Z) (oM Z f310 (bnK hx315 fun x319 h320 hm321=>?_)))
             have h322:=h263.le le280
             have h323:=h322.le le299
             have q:=h323.el (wAL h320)
             obtain ⟨b324,off325,vs328,hA326,hC327,hr329⟩:=q
             obtain ⟨pA330,pc331,rfl,h332⟩:=hr329
             replace hC327:Cl U298 b324 (off325 + x290.toNat * 1) [.slice pA330 x319.length pc331]:=hC327
             refine oR Z (zq Z Z hA326 Z zH zI (wBL h320) (wBO h320)) (oL Z (hS317.ldC (f:=0) hC327 (v:=.slice pA330 x319.length pc331) Z Z zJ Z) (oM Z f305 (oM Z f302 (oM Z f310 (bnK hm321 fun _ h333 hm334=>oR Z (zq Z Z Z Z zA zG (wCT h333) (wCU h333)) ?_)))))
             have hg335:=wBX (xs:=l66) (wAW h333)
             refine ZA rfl rfl rfl rfl (hS317.ldR (j:=1) rfl rfl rfl rfl zQ (wAZ (sz:=1) (fun _=>rfl) _ _ 0 _ hg335 (by first | omega | rfl | simp) rfl)) rfl (bnK hm334 fun x336 h337 hm338=>zV 0 rfl rfl rfl rfl (zW rfl rfl Tryz.call70 (zK rfl (zK rfl (zK rfl zh))) rfl) hS317 (fun hs=>wBY x319 pA330 pc331 x95 (gd l66 x290.toNat) W318 U298 hs h332 h337) (.inr rfl) ?_)
             rintro U339 L340 v341 W342 le343 hS344 ⟨rfl,rfl⟩
             have hS345:sW w U U339 [.blk b2 58 B0,B1,B2,B3] W342:=hS344
             refine oA Z Z (eN (zD (CK.fresh fun σ346 hσ347=>?_)))
             have f348:σ346 1=.pointer (some ⟨b2,0,none⟩):=(hσ347 1).trans f301
             have f349:σ346 4=.slice (some ⟨b9,0,none⟩) l66.length x5.length:=(hσ347 4).trans f302
             have f350:σ346 6=.slice A68 l67.length c69:=(hσ347 6).trans f303
             have f351:σ346 7=jV x95:=(hσ347 7).trans f304
             have f352:σ346 8=jV x95:=(hσ347 8).trans f305
             have f353:σ346 12=.slice A222 l221.length c223:=(hσ347 12).trans f306
             have f354:σ346 13=jV x225:=(hσ347 13).trans f307
             have f355:σ346 14=jV x273:=(hσ347 14).trans f308
             have f356:σ346 15=jV x289:=(hσ347 15).trans f309
             have f357:σ346 16=jV x290:=(hσ347 16).trans f310
             have f358:σ346 17=jV x336:=(hσ347 17).trans rfl
             clear hσ347
             refine rR fL37 Z (oM Z f349 (oM Z f357 (oR Z (zq Z Z Z Z zA zG (wCT h333) (wCU h333)) ?_)))
             have hg359:=wBX (xs:=l66) (wAW h333)
             refine ZA rfl rfl rfl rfl (hS345.ldR (j:=1) rfl rfl rfl rfl zQ (wAZ (sz:=1) (fun _=>rfl) _ _ 0 _ hg359 (by first | omega | rfl | simp) rfl)) rfl (zt rfl rfl rfl rfl (fun _=>zS rfl rfl rfl) (zf rfl rfl rfl rfl rfl rfl (ifc hm338 ?_ ?_)))
             ·intro c360 hm361
              refine zf Z Z Z (wT Z c360) Z f358 (zf Z Z Z (wT Z c360) Z f355 (rU Z (wT Z c360) (zX Z Z Z) (rU Z (wT Z c360) (Runs.geq Z Z Z) (oR Z (zk Z (wED c360.out) Z) (oM Z Z (ifc hm361 ?_ ?_))))))
              ·intro c362 hm363
               refine rU Z (wT Z c362) (zO Z f348 zM Z zm) (ZA Z Z Z (wT Z c362) (hS345.ldB (j:=0) Z Z Z zr (v:=.slice pA0_2 p0.Times.length pc0_2) Z) Z (zf Z Z Z (wT Z c362) Z f357 ?_))
               have h364:=h323.le le343
               have q:=h364.el (wAL h320)
               obtain ⟨b365,off366,vs369,hA367,hC368,hr370⟩:=q
               obtain ⟨pA371,pc372,rfl,h373⟩:=hr370
               replace hC368:Cl U339 b365 (off366 + x290.toNat * 1) [.slice pA371 x319.length pc372]:=hC368
               refine rU Z (wT Z c362) (zq Z Z hA367 Z zH zI (wBL h320) (wBO h320)) (ZA Z Z Z (wT Z c362) (hS345.ldC (f:=0) hC368 (v:=.slice pA371 x319.length pc372) Z Z zJ Z) Z (zf Z Z Z (wT Z c362) Z f358 (rU Z (wT Z c362) (Runs.subw Z Z Z) (bnK hm363 fun x374 h375 hm376=>?_))))
               have q:=h373.el (fun _=>rfl) (wAL h375)
               obtain ⟨b377,off378,hA379,hC380⟩:=q
               refine rU Z (wT Z c362) (zq Z Z hA379 Z zA zG (wBL h375) (wBO h375)) (ZA Z Z Z (wT Z c362) (hS345.ldC (f:=0) hC380 (v:=jV x374) Z Z zQ Z) Z (zf Z Z Z (wT Z c362) Z f352 (rU Z (wT Z c362) (Runs.eql Z Z Z) (oR Z (zk Z (wED c362.out) Z) (oM Z Z (ifc hm376 ?_ ?_))))))
               ·intro c381 hm382
                refine zf Z Z Z (wT Z c381) Z f356 (rU Z (wT Z c381) (Runs.eql Z Z Z) (zf Z Z Z (wT Z c381) Z Z (ifc hm382 ?_ ?_)))
                ·intro c383 hm384
                 refine oT Z c383 (oT Z c383 (oT Z c383 (oT Z c383 (oT Z c383 (oT Z c383 (oT Z c383 (rU Z (wT Z c381) (zk Z (wED c383.out) Z) (oR Z (zk Z (wED c381.out) Z) (eN (ZI Z (rR fL6 Z (oR Z (zO Z f348 zM Z zI) (oL Z (hS345.ldB (j:=0) Z Z Z zJ (v:=.slice pA0_1 p0.Bibs.length pc0_1) Z) (oM Z f357 (bnK hm384 fun x385 h386 hm387=>?_)))))))))))))))
                 have h388:=ha0.le le29
                 have h389:=h388.le le82
                 have h390:=h389.le le105
                 have h391:=h390.le le236
                 have h392:=h391.le le280
                 have h393:=h392.le le299
                 have h394:=h393.le le343
                 have q:=h394.el (fun _=>rfl) (wAL h386)
                 obtain ⟨b395,off396,hA397,hC398⟩:=q
                 refine oR Z (zq Z Z hA397 Z zA zG (wBL h386) (wBO h386)) (oL Z (hS345.ldC (f:=0) hC398 (v:=jV x385) Z Z zQ Z) (oA Z Z (zj (zZ ?_))))
                 cases hm387
                 exact zC ⟨Z,⟨U339,f348,f349,f350,f351,f352,f353,f354,f355,Z,f357,le343,hS345⟩⟩
                ·intro c383 hm400
                 refine rU Z (wF Z c383) (zO Z f348 zM Z zI) (ZA Z Z Z (wF Z c383) (hS345.ldB (j:=0) Z Z Z zJ (v:=.slice pA0_1 p0.Bibs.length pc0_1) Z) Z (zf Z Z Z (wF Z c383) Z f357 (bnK hm400 fun x401 h402 hm403=>?_)))
                 have h404:=ha0.le le29
                 have h405:=h404.le le82
                 have h406:=h405.le le105
                 have h407:=h406.le le236
                 have h408:=h407.le le280
                 have h409:=h408.le le299
                 have h410:=h409.le le343
                 have q:=h410.el (fun _=>rfl) (wAL h402)
                 obtain ⟨b411,off412,hA413,hC414⟩:=q
                 refine rU Z (wF Z c383) (zq Z Z hA413 Z zA zG (wBL h402) (wBO h402)) (ZA Z Z Z (wF Z c383) (hS345.ldC (f:=0) hC414 (v:=jV x401) Z Z zQ Z) Z (zf Z Z Z (wF Z c383) Z f356 (rU Z (wF Z c383) (zS Z Z Z) (rU Z (wT Z c381) (zg Z (ZL c383.out) Z) (oR Z (zk Z (wED c381.out) Z) (eN (ifc hm403 ?_ ?_)))))))
                 ·intro c415 hm416
                  refine cT Z c415 (rR fL6 Z (oR Z (zO Z f348 zM Z zI) (oL Z (hS345.ldB (j:=0) Z Z Z zJ (v:=.slice pA0_1 p0.Bibs.length pc0_1) Z) (oM Z f357 ?_))))
                  have q:=h410.el (fun _=>rfl) (wAL h402)
                  obtain ⟨b417,off418,hA419,hC420⟩:=q
                  refine oR Z (zq Z Z hA419 Z zA zG (wBL h402) (wBO h402)) (oL Z (hS345.ldC (f:=0) hC420 (v:=jV x401) Z Z zQ Z) (oA Z Z (zj (zZ ?_))))
                  cases hm416
                  exact zC ⟨Z,⟨U339,f348,f349,f350,f351,f352,f353,f354,f355,Z,f357,le343,hS345⟩⟩
                 ·intro c415 hm422
                  refine cF Z c415 (ZH (zZ ?_))
                  cases hm422
                  exact zC ⟨Z,⟨U339,f348,f349,f350,f351,f352,f353,f354,f355,f356,f357,le343,hS345⟩⟩
               ·intro c381 hm424
                refine oF Z c381 (oF Z c381 (oF Z c381 (zU Z Z Z (wAG Z Z Z) (zU Z Z Z (wAG Z Z Z) (zU Z Z Z (wAG Z Z Z) (zU Z Z Z (wAG Z Z Z) (zU Z Z Z (wAG Z Z Z) (zU Z Z Z (wAG Z Z Z) (zU Z Z Z (wAG Z Z Z) (oF Z c381 (oR Z (zg Z (ZL c381.out) Z) (eN (zy Z (ZH (zZ ?_)))))))))))))))
                cases hm424
                exact zC ⟨Z,⟨U339,f348,f349,f350,f351,f352,f353,f354,f355,f356,f357,le343,hS345⟩⟩
              ·intro c362 hm426
               refine oF Z c362 (oF Z c362 (oF Z c362 (oF Z c362 (oF Z c362 (oF Z c362 (oF Z c362 (oF Z c362 (oF Z c362 (oF Z c362 (oF Z c362 (oR Z (zg Z (ZL c362.out) Z) (oM Z Z (oN Z (oN Z (oN Z (zU Z Z Z (wAG Z Z Z) (zU Z Z Z (wAG Z Z Z) (zU Z Z Z (wAG Z Z Z) (zU Z Z Z (wAG Z Z Z) (zU Z Z Z (wAG Z Z Z) (zU Z Z Z (wAG Z Z Z) (zU Z Z Z (wAG Z Z Z) (oN Z (oR Z (zg Z Z Z) (eN (zy Z (ZH (zZ ?_))))))))))))))))))))))))))))
               cases hm426
               exact zC ⟨Z,⟨U339,f348,f349,f350,f351,f352,f353,f354,f355,f356,f357,le343,hS345⟩⟩
             ·intro c360 hm428
              refine oF Z c360 (oF Z c360 (oF Z c360 (oF Z c360 (oR Z (zg Z (ZL c360.out) Z) (oM Z Z (oN Z (oN Z (oN Z (oN Z (oN Z (oN Z (oN Z (oN Z (oN Z (oN Z (oN Z (oR Z (zg Z Z Z) (oM Z Z (oN Z (oN Z (oN Z (zU Z Z Z (wAG Z Z Z) (zU Z Z Z (wAG Z Z Z) (zU Z Z Z (wAG Z Z Z) (zU Z Z Z (wAG Z Z Z) (zU Z Z Z (wAG Z Z Z) (zU Z Z Z (wAG Z Z Z) (zU Z Z Z (wAG Z Z Z) (oN Z (oR Z (zg Z Z Z) (eN (zy Z (ZH (zZ ?_))))))))))))))))))))))))))))))))))
              cases hm428
              exact zC ⟨Z,⟨U339,f348,f349,f350,f351,f352,f353,f354,f355,f356,f357,le343,hS345⟩⟩
            ·rintro σ430 W431 ⟨U432,f435,f436,f437,f438,f439,f440,f441,f442,f443,f444,le433,hS434⟩
             refine rR fL3 Z (oM Z f444 (oR Z (zX Z Z Z) (oA Z Z (zj ?_))))
             obtain rfl:=nD hm316
             exact zC ⟨Z,_,Z,⟨U432,f435,f436,f437,f438,f439,f440,f441,f442,f443,Z,(le299.trans le433),hS434⟩⟩
           ·have hm447:=hx294;rw [if_neg c311] at hm447;replace c311:=zF c311
            refine cF Z c311 (ZF (zd ?_))
            have q:=wAQ hm447
            obtain ⟨v448,hm449,e450⟩:=q
            obtain rfl:=hb295 v448 e450
            refine zd (zx (zC (sR fL2 Z (oM Z f309 (oR Z (Za Z Z Z) (eN (ifc hm449 ?_ ?_)))))))
            ·intro c451 hm452
             refine cT Z c451 (rR (wQE (.fx 10 (.fx 11 (.fl 12 (.nil)) .stop) .stop)) Z (oM Z f306 (oR Z (zO Z f301 zM Z zI) (oL Z (hS300.ldB (j:=0) Z Z Z zJ (v:=.slice pA0_1 p0.Bibs.length pc0_1) Z) (oM Z f307 (bnK hm452 fun x453 h454 hm455=>?_))))))
             have h456:=ha0.le le29
             have h457:=h456.le le82
             have h458:=h457.le le105
             have h459:=h458.le le236
             have h460:=h459.le le280
             have h461:=h460.le le299
             have q:=h461.el (fun _=>rfl) (wAL h454)
             obtain ⟨b462,off463,hA464,hC465⟩:=q
             refine oR Z (zq Z Z hA464 Z zA zG (wBL h454) (wBO h454)) (oL Z (hS300.ldC (f:=0) hC465 (v:=jV x453) Z Z zQ Z) (oM Z f308 (oM Z f305 (oM Z f309 ?_))))
             let B4:List Value:=[jV x453,jV x273,jV x95,jV x289]
             let B5:List Value:=[jV 0,jV 0,jV 0,jV 0]
             refine oR Z (Runs.build (pv:=[(0,jV x453),(1,jV x273),(2,jV x95),(3,jV x289)]) (z:=B5) (cs:=B4) Z (wAR Z (wAR Z (wAR Z (wAR Z wBq)))) Tryz.zeroValue64 wMW Z Z) (OKS.buildSlice (pv:=[(0,.agg B4.toArray)]) (zs:=B5) (cs:=B4) Z Z Z Z Z (wAR Z wBq) ZE ZO Tryz.zeroValue64 Z Z Z Z Z hS300 ?_)
             intro W466 b467 hS468
             let B6:Res:=.row (some ⟨b467,0,none⟩) 1 64 4 (nA wAB [(⟨x453,x273,x95,x289⟩:wAJ)])
             have hS470:sW w U U298 [B6,.blk b2 58 B0,B1,B2,B3] W466:=hS468
             refine bnK hm455 fun x471 h472 hm473=>OKS.append (j:=4) (enc:=wAB) (xs:=l221) (ys:=[(⟨x453,x273,x95,x289⟩:wAJ)]) (zs:=x471) rfl rfl rfl rfl rfl Tryz.underlying61 wLU rfl rfl rfl rfl rfl rfl hS470 rfl rfl rfl (hS470.srcR (j:=0) rfl (by decide) (wAF (f:=wAB) (sz:=4) (fun _=>rfl) [(⟨x453,x273,x95,x289⟩:wAJ)])) (fun _=>rfl) (fun _=>rfl) h472 rfl ?_
             intro A474 c475 W476 hS477
             have hS478:sW w U U298 [B6,.blk b2 58 B0,B1,B2,.row A474 c475 64 4 (nA wAB x471)] W476:=hS477
             refine oA Z Z (zj (zZ (zC (rR fL3 Z (oM Z f307 (oR Z (zX Z Z Z) (oA Z Z (zj ?_))))))))
             obtain rfl:=nD hm473
             exact zC ⟨rfl,_,rfl,⟨U298,A474,c475,f301,f302,f303,f304,f305,rfl,rfl,((le236.trans le280).trans le299),(hS478.pick [1,2,3,4] _ (by decide) rfl)⟩⟩
            ·intro c451 hm483
             refine cF Z c451 (ZH (zZ (zC (rR fL3 Z (oM Z f307 (oR Z (zX Z Z Z) (oA Z Z (zj ?_))))))))
             obtain rfl:=nD hm483
             exact zC ⟨Z,_,Z,⟨U298,A222,c223,f301,f302,f303,f304,f305,f306,Z,((le236.trans le280).trans le299),hS300⟩⟩
        ·have hm488:=hx231;rw [if_neg c245] at hm488;replace c245:=zF c245
         refine cF Z c245 (ZF (zd ?_))
         have q:=wAQ hm488
         obtain ⟨v489,hm490,e491⟩:=q
         obtain rfl:=hb232 v489 e491
         refine zd (zx (zC (zP (ZY (fun (l513,l514,l517) σ_ w_=>∃ (U_:PHeap) (A515:Option Addr) (c516:Nat) (A518:Option Addr) (c519:Nat),σ_ 1=.pointer (some ⟨b2,0,none⟩)/\σ_ 4=.slice (some ⟨b9,0,none⟩) l513.length x5.length/\σ_ 6=.slice A515 l514.length c516/\σ_ 7=jV x95/\σ_ 8=jV x95/\σ_ 12=.slice A518 l517.length c519/\PHeap.Le U235 U_/\sW w U U_ [.blk b2 58 B0,.row (some ⟨b9,0,none⟩) x5.length 3 1 (nA KL.encI l513),.row A515 c516 64 4 (nA wAB l514),.row A518 c519 64 4 (nA wAB l517)] w_/\l513.length=x5.length) hm490 ?_ ?_))))
         ·exact ⟨U235,A68,c69,A222,c223,f238,f239,f240,f241,f242,f243,(zN _),hS237,h88⟩
         ·rintro ⟨l513,l514,l517⟩ xx522 σ520 W521 ⟨U527,A515,c516,A518,c519,f530,f531,f532,f533,f534,f535,le528,hS529,h536⟩ hx523 hb524
          try dsimp only at hx523
          refine zD (sR fL3 Z (oM Z f535 (oR Z (zY Z Z ZE) (oR Z (Za Z Z Z) (eN ?_)))))
          by_cases c537:0 < (↑l517.length:Int)
          ·have hm538:=hx523;rw [if_pos c537] at hm538;replace c537:=zF c537
           refine cT Z c537 (kN (zP (sR fL1 Z (oA Z Z (eN (zD (sR fL1 Z (oA Z Z (eN (zP (bnK hm538 fun y550 hf547 hm546=>?_)))))))))))
           have q:=wCG hf547
           obtain ⟨hle548,hf549⟩:=q
           replace hle548:=zF hle548
           let B7:Res:=.row A518 c519 64 4 (nA wAB l517)
           let B8:Res:=.row (some ⟨b9,0,none⟩) x5.length 3 1 (nA KL.encI l513)
           let B9:Res:=.row A515 c516 64 4 (nA wAB l514)
           refine CK.forN' (fun k545 x544 σ_ w_=>∃ (U_:PHeap),σ_ 19=jV (1 + ↑k545:Int)/\σ_ 1=.pointer (some ⟨b2,0,none⟩)/\σ_ 4=.slice (some ⟨b9,0,none⟩) l513.length x5.length/\σ_ 6=.slice A515 l514.length c516/\σ_ 7=jV x95/\σ_ 8=jV x95/\σ_ 12=.slice A518 l517.length c519/\σ_ 18=jV x544/\PHeap.Le U527 U_/\sW w U U_ [.blk b2 58 B0,B8,B9,B7] w_) hf549 ?_ ?_ ?_
           ·exact ⟨U527,Z,f530,f531,f532,f533,f534,f535,Z,(zN _),hS529⟩
           ·rintro k545 x544 xx553 σ551 W552 hk556 ⟨U558,fi557,f561,f562,f563,f564,f565,f566,f567,le559,hS560⟩ hx554
            have c568:Hid ((1 + ↑k545:Int) < (↑l517.length:Int)):=zF (wPD hk556)
            replace hk556:=zF hk556
            have hi569:Hid (w64 ((1 + ↑k545:Int) + 1)=(1 + ↑(k545 + 1):Int)):=zF (by have h1:=hle548.out;have h2:=c568.out;rw [wAe] <;> omega)
            refine zD (sR fL4 rfl (zf rfl rfl rfl rfl rfl fi557 (zf rfl rfl rfl rfl rfl f566 (zt rfl rfl rfl rfl (fun _=>zY rfl rfl ZE) (zt rfl rfl rfl rfl (fun _=>zS rfl rfl rfl) (eN (cT Z c568 (kN (zD (zP (zD (ZK ZJ [3,3,3,3,1,3,3,3,3,1,3] fL11 (by kernel_rfl) ?_))))))))))))
            have hS570:=hS560.drew
            generalize hw_W571:({ W552 with drawn:=W552.drawn + 1 }:World)=W571 at hS570 ⊢
            refine oM Z f566 (oM Z fi557 (bnK hx554 fun _ h572 hm573=>?_))
            obtain ⟨b574,hA575⟩:=hS570.rowSome (j:=3) rfl (by rw [wAF (f:=wAB) (sz:=4) (fun _=>rfl) l517];have hz:=wAW h572;omega)
            refine oR Z (zq Z Z hA575 Z ZE ZO (wCT h572) (wCU h572)) (oR Z (zO Z Z Tryz.runUnderlying64 Z zG) ?_)
            have hg576:=wBX (xs:=l517) (wAW h572)
            refine ZA rfl rfl rfl rfl (hS570.ldR (j:=3) rfl hA575 rfl rfl zQ (wAZ (sz:=4) (fun _=>rfl) _ _ 0 _ hg576 (by first | omega | rfl | simp) rfl)) rfl (zf rfl rfl rfl rfl rfl f566 (zf rfl rfl rfl rfl rfl f567 (bnK hm573 fun _ h577 hm578=>zt rfl rfl rfl rfl (fun _=>zq rfl rfl hA575 rfl ZE ZO (wCT h577) (wCU h577)) (zt rfl rfl rfl rfl (fun _=>zO rfl rfl Tryz.runUnderlying64 rfl zG) ?_))))
            have hg579:=wBX (xs:=l517) (wAW h577)
            refine ZA rfl rfl rfl rfl (hS570.ldR (j:=3) rfl hA575 rfl rfl zQ (wAZ (sz:=4) (fun _=>rfl) _ _ 0 _ hg579 (by first | omega | rfl | simp) rfl)) rfl (zt rfl rfl rfl rfl (fun _=>zS rfl rfl rfl) (eN (ifc hm578 ?_ ?_)))
            ·intro c580 hm581
             refine cT Z c580 (rR fL2 Z (oM Z fi557 (oA Z Z (zj (zZ (zC (rR fL3 Z (oM Z fi557 (oR Z (ZC (zX Z Z Z) (congrArg (jV) hi569.out)) (oA Z Z (zj ?_)))))))))))
             cases hm581
             exact zC ⟨Z,⟨U558,Z,f561,f562,f563,f564,f565,f566,Z,le559,hS570⟩⟩
            ·intro c580 hm583
             refine cF Z c580 (ZH (zZ (zC (rR fL3 Z (oM Z fi557 (oR Z (ZC (zX Z Z Z) (congrArg (jV) hi569.out)) (oA Z Z (zj ?_))))))))
             cases hm583
             exact zC ⟨Z,⟨U558,Z,f561,f562,f563,f564,f565,f566,f567,le559,hS570⟩⟩
           ·rintro σ585 W586 ⟨U590,fi588,f593,f594,f595,f596,f597,f598,f599,le591,hS592⟩
            have c600:Hid (¬ ((1 + ↑(((↑l517.length:Int):Int) - 1).toNat:Int) < (↑l517.length:Int))):=zF (wNF)
            refine zD (sR fL4 Z (oM Z fi588 (oM Z f598 (oR Z (zY Z Z ZE) (oR Z (zS Z Z Z) (eN (cF Z c600 (ZF (zd (zd (zx (zC (sR (wOp (.fx 5 (.fx 6 (.fl 7 (.nil)) .stop) .stop)) Z (oM Z f595 (oM Z f598 (oM Z f599 (bnK hm546 fun _ h601 hm602=>?_)))))))))))))))))
            obtain ⟨b603,hA604⟩:=hS592.rowSome (j:=3) rfl (by rw [wAF (f:=wAB) (sz:=4) (fun _=>rfl) l517];have hz:=wAW h601;omega)
            refine oR Z (zq Z Z hA604 Z ZE ZO (wCT h601) (wCU h601)) ?_
            have hg605:=wBX (xs:=l517) (wAW h601)
            let B10:List Value:=[jV ((gd l517 y550.toNat).Bib),jV ((gd l517 y550.toNat).Done),jV ((gd l517 y550.toNat).Time),jV ((gd l517 y550.toNat).By)]
            refine ZA rfl rfl rfl rfl (hS592.ldRA (j:=3) rfl hA604 rfl rfl Tryz.isAgg64 ZO (vs:=B10) (wDl (sz:=4) (fun _=>rfl) _ _ _ hg605 (by first | omega | rfl | simp) rfl) rfl) rfl (OKS.buildSlice (pv:=[(0,.agg B10.toArray)]) (zs:=[jV 0,jV 0,jV 0,jV 0]) (cs:=B10) rfl rfl rfl rfl rfl (wAR rfl wBq) ZE ZO Tryz.zeroValue64 rfl rfl rfl rfl rfl hS592 ?_)
            intro W606 b607 hS608
            let B11:Res:=.row (some ⟨b607,0,none⟩) 1 64 4 (nA wAB [(gd l517 y550.toNat)])
            have hS610:sW w U U590 [B11,.blk b2 58 B0,B8,B9,B7] W606:=hS608
            refine bnK hm602 fun x611 h612 hm613=>OKS.append (j:=3) (enc:=wAB) (xs:=l514) (ys:=[(gd l517 y550.toNat)]) (zs:=x611) rfl rfl rfl rfl rfl Tryz.underlying61 wLU rfl rfl rfl rfl rfl rfl hS610 rfl rfl rfl (hS610.srcR (j:=0) rfl (by decide) (wAF (f:=wAB) (sz:=4) (fun _=>rfl) [(gd l517 y550.toNat)])) (fun _=>rfl) (fun _=>rfl) h612 rfl ?_
            intro A614 c615 W616 hS617
            let B12:Res:=.row A614 c615 64 4 (nA wAB x611)
            have hS618:sW w U U590 [B11,.blk b2 58 B0,B8,B12,B7] W616:=hS617
            refine oA Z Z (eN (zD (sR fL1 Z (oA Z Z (eN (zP (ZY (fun (l625,x626) σ_ w_=>∃ (U_:PHeap),σ_ 1=.pointer (some ⟨b2,0,none⟩)/\σ_ 4=.slice (some ⟨b9,0,none⟩) l625.length x5.length/\σ_ 6=.slice A614 x611.length c615/\σ_ 7=jV x95/\σ_ 8=jV x95/\σ_ 12=.slice A518 l517.length c519/\σ_ 18=jV y550/\σ_ 20=jV x626/\PHeap.Le U590 U_/\sW w U U_ [.blk b2 58 B0,.row (some ⟨b9,0,none⟩) x5.length 3 1 (nA KL.encI l625),B12,B7] w_/\l625.length=x5.length) hm613 ?_ ?_)))))))
            ·exact ⟨U590,f593,f594,rfl,f596,f597,f598,f599,rfl,(zN _),(hS618.pick [1,2,3,4] _ (by decide) rfl),h536⟩
            ·rintro ⟨l625,x626⟩ xx629 σ627 W628 ⟨U634,f637,f638,f639,f640,f641,f642,f643,f644,le635,hS636,h645⟩ hx630 hb631
             try dsimp only at hx630
             refine zD (sR fL5 Z (oM Z f644 (oR Z (zO Z f637 zM Z zI) (oL Z (hS636.ldB (j:=0) Z Z Z zJ (v:=.slice pA0_1 p0.Bibs.length pc0_1) Z) (oR Z (zY Z Z zA) (oR Z (zS Z Z Z) (eN ?_)))))))
             by_cases c646:x626 < (↑p0.Bibs.length:Int)
             ·have hm647:=hx630;rw [if_pos c646] at hm647;replace c646:=zF c646
              refine cT Z c646 (kN (zD (zP (zD (ZK ZJ [3,1,3,3,1,3,3,3,3,1,3] fL11 (by kernel_rfl) ?_)))))
              have hS648:=hS636.drew
              generalize hw_W649:({ W628 with drawn:=W628.drawn + 1 }:World)=W649 at hS648 ⊢
              refine oR Z (zO Z f637 zM Z zI) (oL Z (hS648.ldB (j:=0) Z Z Z zJ (v:=.slice pA0_1 p0.Bibs.length pc0_1) Z) (oM Z f644 (bnK hm647 fun x650 h651 hm652=>?_)))
              have h653:=ha0.le le29
              have h654:=h653.le le82
              have h655:=h654.le le105
              have h656:=h655.le le236
              have h657:=h656.le le528
              have h658:=h657.le le591
              have h659:=h658.le le635
              have q:=h659.el (fun _=>rfl) (wAL h651)
              obtain ⟨b660,off661,hA662,hC663⟩:=q
              refine oR Z (zq Z Z hA662 Z zA zG (wBL h651) (wBO h651)) (oL Z (hS648.ldC (f:=0) hC663 (v:=jV x650) Z Z zQ Z) (oM Z f642 (oM Z f643 (oR Z (zq Z Z hA604 Z ZE ZO (wCT h601) (wCU h601)) (oR Z (zO Z Z Tryz.runUnderlying64 Z zG) ?_)))))
              have hg664:=wBX (xs:=l517) (wAW h601)
              refine ZA rfl rfl rfl rfl (hS648.ldR (j:=3) rfl hA604 rfl rfl zQ (wAZ (sz:=4) (fun _=>rfl) _ _ 0 _ hg664 (by first | omega | rfl | simp) rfl)) rfl (zt rfl rfl rfl rfl (fun _=>Runs.eql rfl rfl rfl) (eN (ifc hm652 ?_ ?_)))
              ·intro c665 hm666
               refine cT Z c665 (rR (wLn (.fx 4 (.nil) .stop)) Z (oM Z f638 (oM Z f644 (oM Z f641 (bnK hm666 fun _ h667 hm668=>oR Z (zq Z Z Z Z zA zG (wCT h667) (wCU h667)) ?_)))))
               have hg669:=wBX (xs:=l625) (wAW h667)
               refine OKS.stR (j:=1) (vs:=[jV x95]) (cs':=nA KL.encI (nN l625 x626.toNat x95)) rfl rfl rfl rfl hS648 rfl rfl rfl rfl rfl zG (by rw [wAF (f:=KL.encI) (sz:=1) (fun _=>rfl)];have hz:=wAW h667;simp only [nJ,nH,nI,nO,nP];first | omega | (simp only [nK];omega)) rfl (wFI (sz:=1) (fo:=0) (fun _=>rfl) _ _ _ _ hg669 (by first | omega | (simp only [nK];omega) | (simp only [nJ,nH,nI];omega)) (ZB rfl) rfl) rfl ?_
               intro W670 hS671
               have hS672:sW w U U634 [.blk b2 58 B0,.row (some ⟨b9,0,none⟩) x5.length 3 1 (nA KL.encI (nN l625 x626.toNat x95)),B12,B7] W670:=hS671
               refine zj (zZ (zC (rR fL3 Z (oM Z f644 (oR Z (zX Z Z Z) (oA Z Z (zj ?_)))))))
               obtain rfl:=nD hm668
               exact zC ⟨rfl,_,rfl,⟨U634,f637,(nS (b:=(.slice (some ⟨b9,0,none⟩) l625.length x5.length:Value)) (c:=(.slice (some ⟨b9,0,none⟩) ((nN l625 x626.toNat x95).length) x5.length:Value)) f638 (by simp only [nL])),f639,f640,f641,f642,f643,rfl,le635,hS672,(by simp only [nL];exact h645)⟩⟩
              ·intro c665 hm675
               refine cF Z c665 (ZH (zZ (zC (rR fL3 Z (oM Z f644 (oR Z (zX Z Z Z) (oA Z Z (zj ?_))))))))
               obtain rfl:=nD hm675
               exact zC ⟨Z,_,Z,⟨U634,f637,f638,f639,f640,f641,f642,f643,Z,le635,hS648,h645⟩⟩
             ·have hm678:=hx630;rw [if_neg c646] at hm678;replace c646:=zF c646
              refine cF Z c646 (ZF (zd ?_))
              have q:=wAQ hm678
              obtain ⟨v679,hm680,e681⟩:=q
              obtain rfl:=hb631 v679 e681
              refine zd (zx (zC (ZK ZJ [3,3,3,3,3,3,3,0,3] (fC0_6 (.fx 7 (.fl 8 (.nil)) .stop)) (by kernel_rfl) ?_)))
              have hS682:=hS636.drew
              generalize hw_W683:({ W628 with drawn:=W628.drawn + 1 }:World)=W683 at hS682 ⊢
              refine oM Z f642 (oM Z f643 (bnK hm680 fun x684 h685 hm686=>?_))
              have q:=wHJ h685
              obtain ⟨ha687,hab688,hb689,he690,hn691⟩:=q
              have hp692:=hS682.rowCap (j:=3) rfl (by decide) (wAF (f:=wAB) (sz:=4) (fun _=>rfl) l517)
              refine zt (v:=.slice (if c519=(0:Int).toNat then A518 else nT (fun q:Addr=>q.add ((0:Int).toNat * 4)) (A518:Option Addr)) x684.length (c519 - (0:Int).toNat)) rfl rfl rfl rfl (fun _=>ZC (Runs.slc (sz:=4) (a:=0) (b:=y550) rfl rfl (.inr ⟨rfl,rfl⟩) (.inl ⟨_,rfl,rfl⟩) ZE ZO ha687 hab688 hb689 hp692) (by rw [hn691])) (zf rfl rfl rfl rfl rfl f642 (zf rfl rfl rfl rfl rfl f643 (zt rfl rfl rfl rfl (fun _=>zX rfl rfl rfl) (bnK hm686 fun x693 h694 hm695=>?_))))
              have q:=wHJ h694
              obtain ⟨ha696,hab697,hb698,he699,hn700⟩:=q
              have hp701:=hS682.rowCap (j:=3) rfl (by decide) (wAF (f:=wAB) (sz:=4) (fun _=>rfl) l517)
              refine zt (v:=.slice (if c519=((w64 (y550 + 1)):Int).toNat then A518 else nT (fun q:Addr=>q.add (((w64 (y550 + 1)):Int).toNat * 4)) (A518:Option Addr)) x693.length (c519 - ((w64 (y550 + 1)):Int).toNat)) rfl rfl rfl rfl (fun _=>ZC (Runs.slc (sz:=4) (a:=(w64 (y550 + 1))) (b:=(↑(l517.length):Int)) rfl rfl (.inl ⟨_,rfl,rfl⟩) (.inr ⟨rfl,rfl⟩) ZE ZO ha696 hab697 hb698 hp701) (by rw [hn700])) ?_
              have src702:=hS682.srcCutD (f:=wAB) (j:=3) rfl (fun _=>rfl) (by decide) h694 hp701
              have hS703:=hS682.cutRowC (enc:=wAB) (k:=3) rfl h685
              let B13:Res:=.row (some ⟨b9,0,none⟩) x5.length 3 1 (nA KL.encI l625)
              have hS708:sW w U U634 [.blk b2 58 B0,B13,B12,.row A518 c519 64 4 (nA wAB x684)] W683:=hS703
              refine bnK hm695 fun x709 h710 hm711=>OKS.append (j:=3) (enc:=wAB) (xs:=x684) (ys:=x693) (zs:=x709) Z Z Z Z Z Tryz.underlying61 wLU Z Z Z Z Z Z hS708 Z (nS (b:=(.slice (if c519=(0:Int).toNat then A518 else nT (fun q:Addr=>q.add ((0:Int).toNat * 4)) (A518:Option Addr)) x684.length (c519 - (0:Int).toNat):Value)) Z slcK) Z src702 (fun _=>Z) (fun _=>Z) h710 Z ?_
              intro A704 c705 W706 hS707
              have hS712:sW w U U634 [.blk b2 58 B0,B13,B12,.row A704 c705 64 4 (nA wAB x709)] W706:=hS707
              refine oA Z Z (zj (zZ ?_))
              obtain rfl:=nD hm711
              exact zC ⟨Z,_,Z,⟨U634,A614,c615,A704,c705,f637,f638,f639,f640,f641,Z,((le528.trans le591).trans le635),hS712,h645⟩⟩
          ·have hm720:=hx523;rw [if_neg c537] at hm720;replace c537:=zF c537
           refine cF Z c537 (ZF (zd ?_))
           have q:=wAQ hm720
           obtain ⟨v721,hm722,e723⟩:=q
           obtain rfl:=hb524 v721 e723
           refine zd (zx (zZ ?_))
           obtain rfl:=nD hm722
           exact zC ⟨rfl,_,rfl,⟨U527,A515,c516,f530,f531,f532,f533,(((le82.trans le105).trans le236).trans le528),(hS529.pick [0,1,2] _ (by decide) rfl),h536⟩⟩
end Go.Proofs.YtbpllbhagaoocaaGreat
namespace Go.Proofs.YtbpllbhagaoocaaGreat
open Go.KL
set_option maxHeartbeats 4000000
theorem wDV (p0:wAH) (pA0_1:Option Addr) (pc0_1:Nat) (pA0_2:Option Addr) (pc0_2:Nat) (w:World) (U:PHeap) (hS:St0 w U []) (ha0:Sl U 1 pA0_1 pc0_1 p0.Bibs.length (nA KL.encI p0.Bibs)) (ha1:SlR U wDc pA0_2 pc0_2 p0.Times) {r:(List wAJ) × Int} (hm:wAp p0=some r):Gv Tryz.prog 27 [.agg #[jV p0.Laps,.slice pA0_1 p0.Bibs.length pc0_1,.slice pA0_2 p0.Times.length pc0_2]] w (wCR w [] U (fun U_ L_ v=>∃ (A0:Option Addr) (c0:Nat),v=.tuple #[.slice A0 r.1.length c0,jV r.2]/\L_=[.row A0 c0 64 4 (nA wAB r.1)])):=by
 unfold wAp at hm
 refine Gv.of Tryz.func27 Z Tryz.ntmps27 Tryz.results27 Z (sR (.fx 0 (.fl 1 (.fl 2 (.nil))) .stop) Z ?_)
 let B0:List Value:=[jV p0.Laps,.slice pA0_1 p0.Bibs.length pc0_1,.slice pA0_2 p0.Times.length pc0_2]
 refine ZT (cs:=B0) rfl rfl rfl rfl rfl rfl (by rfl) hS ?_
 intro W1 b2 hS3
 refine oA Z Z (oA Z Z (eN (zD (sR (.fl 0 (.fx 1 (.fl 2 (.nil)) .stop)) Z (oL Z (hS3.ldBA (j:=0) Z Z Z Tryz.isAgg58 ZR (vs:=B0) Z Z) (bnK hm fun x5 h6 hm7=>zV 0 Z Z Z Z (zW Z Z Tryz.call26 (zK Z zh) Z) hS3 (fun hs=>wBV p0 pA0_1 pc0_1 pA0_2 pc0_2 W1 U hs ha0 ha1 h6) (.inr Z) ?_))))))
 rintro U8 L9 v10 W11 le12 hS13 ⟨rfl,rfl⟩
 have hS14:sW w U U8 [.blk b2 58 B0] W11:=hS13
 refine oA Z Z (eN (sR fL2 Z (oM Z Z (oR Z (ZU Z Z Z) (eN (ifc hm7 ?_ ?_))))))
 ·intro c15 hm16
  refine zy (ZL (fun h=>h c15.out)) (kN (sR (.fl 0 (.fx 1 (wHl (.nil)) .stop)) Z (oL Z (hS14.ldBA (j:=0) Z Z Z Tryz.isAgg58 ZR (vs:=B0) Z Z) ?_)))
  have h17:=ha0.le le12
  have h18:=ha1.le le12
  have q:=bnd hm16
  obtain ⟨⟨x19,x20⟩,h21,hm22⟩:=q
  try dsimp only at hm22
  refine zV 0 Z Z Z Z (zW Z Z Tryz.call69 (zK Z zh) Z) hS14 (fun hs=>wCg p0 pA0_1 pc0_1 pA0_2 pc0_2 W11 U8 hs h17 h18 h21) (.inr Z) ?_
  rintro U23 L24 v25 W26 le27 hS28 ⟨A29,c30,A31,c32,rfl,rfl⟩
  have hS35:sW w U U23 [.row A29 c30 64 4 (nA wAB x19),.row A31 c32 3 1 (nA KL.encI x20),.blk b2 58 B0] W26:=hS28
  refine oM Z Z (oR Z (ZS Z Z (v:=.slice A29 x19.length c30) Z) (oR Z (ZS Z Z (v:=.slice A31 x20.length c32) Z) (oA Z Z (oA Z Z (eN (sR fL3 Z (oM Z Z (oA Z Z (oA Z Z (eN (ze ?_)))))))))))
  cases hm22
  exact ⟨rfl,_,(wLo rfl rfl),U23,_,(hS35.pick [0] _ (by decide) rfl),A29,c30,rfl,rfl⟩
 ·intro c15 hm36
  refine cT Z c15 (sR fL3 Z (oM Z Z (oA Z Z (oA Z Z (eN (ze (zR ?_)))))))
  have hS37:=hS14.nilrow 64 4
  cases hm36
  exact ⟨rfl,_,(wLo rfl rfl),U8,_,(hS37.pick [0] _ (by decide) rfl),none,0,rfl,rfl⟩
theorem wFm (p0:wAA) (pA0_1:Option Addr) (pc0_1:Nat) (pA0_2:Option Addr) (pc0_2:Nat) (w:World) (U:PHeap) (hS:St0 w U []) (ha0:Sl U 1 pA0_1 pc0_1 p0.Bibs.length (nA KL.encI p0.Bibs)) (ha1:SlR U wDc pA0_2 pc0_2 p0.Times) {r:(List Int) × Int} (hm:wBM p0=some r):Gv Tryz.prog 9 [.agg #[jV p0.Laps,.slice pA0_1 p0.Bibs.length pc0_1,.slice pA0_2 p0.Times.length pc0_2]] w (wCR w [] U (fun U_ L_ v=>∃ (A0:Option Addr) (c0:Nat),v=.tuple #[.slice A0 r.1.length c0,jV r.2]/\L_=[.row A0 c0 3 1 (nA KL.encI r.1)])):=by
 unfold wBM at hm
 refine Gv.of Tryz.func9 Z Tryz.ntmps9 Tryz.results9 Z (sR (.fx 0 (.fl 1 (.fl 2 (.nil))) .stop) Z ?_)
 let B0:List Value:=[jV p0.Laps,.slice pA0_1 p0.Bibs.length pc0_1,.slice pA0_2 p0.Times.length pc0_2]
 refine ZT (cs:=B0) rfl rfl rfl rfl rfl rfl (by rfl) hS ?_
 intro W1 b2 hS3
 refine oA Z Z (oA Z Z (eN (zD (sR (.fl 0 (.fx 1 (.fl 2 (.nil)) .stop)) Z (oL Z (hS3.ldBA (j:=0) Z Z Z ZP ZG (vs:=B0) Z Z) (bnK hm fun x5 h6 hm7=>zV 0 Z Z Z Z (zW Z Z Tryz.call25 (zK Z zh) Z) hS3 (fun hs=>wCE p0 pA0_1 pc0_1 pA0_2 pc0_2 W1 U hs ha0 ha1 h6) (.inr Z) ?_))))))
 rintro U8 L9 v10 W11 le12 hS13 ⟨rfl,rfl⟩
 have hS14:sW w U U8 [.blk b2 26 B0] W11:=hS13
 refine oA Z Z (eN (sR fL2 Z (oM Z Z (oR Z (ZU Z Z Z) (eN (ifc hm7 ?_ ?_))))))
 ·intro c15 hm16
  refine zy (ZL (fun h=>h c15.out)) (kN (sR (.fl 0 (.fx 1 (wHl (.nil)) .stop)) Z (oL Z (hS14.ldBA (j:=0) Z Z Z ZP ZG (vs:=B0) Z Z) ?_)))
  have h17:=ha0.le le12
  have h18:=ha1.le le12
  have q:=bnd hm16
  obtain ⟨⟨x19,x20⟩,h21,hm22⟩:=q
  try dsimp only at hm22
  refine zV 0 Z Z Z Z (zW Z Z Tryz.call32 (zK Z zh) Z) hS14 (fun hs=>wFl p0 pA0_1 pc0_1 pA0_2 pc0_2 W11 U8 hs h17 h18 h21) (.inr Z) ?_
  rintro U23 L24 v25 W26 le27 hS28 ⟨b29,A30,c31,A32,c33,A34,c35,A36,c37,A38,c39,rfl,rfl,h44,h45⟩
  have hS46:sW w U U23 [.blk b29 78 [jV x19.Race.Laps,.slice A30 x19.Race.Bibs.length c31,.slice A32 x19.Race.Times.length c33,.slice A34 x19.done.length c35,.slice A36 x19.out.length c37],.row A34 c35 3 1 (nA KL.encI x19.done),.row A36 c37 4 1 (nA KL.encT x19.out),.row A38 c39 38 4 (nA wAI x20),.blk b2 26 B0] W26:=hS28
  refine oM Z Z (oR Z (ZS Z Z (v:=.pointer (some ⟨b29,0,none⟩)) Z) (oR Z (ZS Z Z (v:=.slice A38 x20.length c39) Z) (oA Z Z (oA Z Z (eN (sR fL6 Z (oM Z Z (oR Z (ZN Z Z) (oR Z (zO Z Z zu Z zI) (oL Z (hS46.ldB (j:=0) Z Z Z zJ (v:=.slice A34 x19.done.length c35) Z) (oA Z Z (oA Z Z (eN (ze ?_))))))))))))))
  cases hm22
  exact ⟨rfl,_,(wLo rfl rfl),U23,_,(hS46.pick [1] _ (by decide) rfl),A34,c35,rfl,rfl⟩
 ·intro c15 hm47
  refine cT Z c15 (sR fL3 Z (oM Z Z (oA Z Z (oA Z Z (eN (ze (zR ?_)))))))
  have hS48:=hS14.nilrow 3 1
  cases hm47
  exact ⟨rfl,_,(wLo rfl rfl),U8,_,(hS48.pick [0] _ (by decide) rfl),none,0,rfl,rfl⟩
theorem wDG (p0:wAH) (pA0_1:Option Addr) (pc0_1:Nat) (pA0_2:Option Addr) (pc0_2:Nat) (w:World) (U:PHeap) (hS:St0 w U []) (ha0:Sl U 1 pA0_1 pc0_1 p0.Bibs.length (nA KL.encI p0.Bibs)) (ha1:SlR U wDc pA0_2 pc0_2 p0.Times) {r:(List Int) × Int} (hm:wAl p0=some r):Gv Tryz.prog 28 [.agg #[jV p0.Laps,.slice pA0_1 p0.Bibs.length pc0_1,.slice pA0_2 p0.Times.length pc0_2]] w (wCR w [] U (fun U_ L_ v=>∃ (A0:Option Addr) (c0:Nat),v=.tuple #[.slice A0 r.1.length c0,jV r.2]/\L_=[.row A0 c0 3 1 (nA KL.encI r.1)])):=by
 unfold wAl at hm
 refine Gv.of Tryz.func28 Z Tryz.ntmps28 Tryz.results28 Z (sR (.fx 0 (.fl 1 (.fl 2 (.nil))) .stop) Z ?_)
 let B0:List Value:=[jV p0.Laps,.slice pA0_1 p0.Bibs.length pc0_1,.slice pA0_2 p0.Times.length pc0_2]
 refine ZT (cs:=B0) rfl rfl rfl rfl rfl rfl (by rfl) hS ?_
 intro W1 b2 hS3
 refine oA Z Z (oA Z Z (eN (zD (sR (.fl 0 (.fx 1 (.fl 2 (.nil)) .stop)) Z (oL Z (hS3.ldBA (j:=0) Z Z Z Tryz.isAgg58 ZR (vs:=B0) Z Z) (bnK hm fun x5 h6 hm7=>zV 0 Z Z Z Z (zW Z Z Tryz.call26 (zK Z zh) Z) hS3 (fun hs=>wBV p0 pA0_1 pc0_1 pA0_2 pc0_2 W1 U hs ha0 ha1 h6) (.inr Z) ?_))))))
 rintro U8 L9 v10 W11 le12 hS13 ⟨rfl,rfl⟩
 have hS14:sW w U U8 [.blk b2 58 B0] W11:=hS13
 refine oA Z Z (eN (sR fL2 Z (oM Z Z (oR Z (ZU Z Z Z) (eN (ifc hm7 ?_ ?_))))))
 ·intro c15 hm16
  refine zy (ZL (fun h=>h c15.out)) (kN (sR (.fl 0 (.fx 1 (wHl (.nil)) .stop)) Z (oL Z (hS14.ldBA (j:=0) Z Z Z Tryz.isAgg58 ZR (vs:=B0) Z Z) ?_)))
  have h17:=ha0.le le12
  have h18:=ha1.le le12
  have q:=bnd hm16
  obtain ⟨⟨x19,x20⟩,h21,hm22⟩:=q
  try dsimp only at hm22
  refine zV 0 Z Z Z Z (zW Z Z Tryz.call69 (zK Z zh) Z) hS14 (fun hs=>wCg p0 pA0_1 pc0_1 pA0_2 pc0_2 W11 U8 hs h17 h18 h21) (.inr Z) ?_
  rintro U23 L24 v25 W26 le27 hS28 ⟨A29,c30,A31,c32,rfl,rfl⟩
  let B1:Res:=.row A31 c32 3 1 (nA KL.encI x20)
  let B2:Res:=.row A29 c30 64 4 (nA wAB x19)
  have hS35:sW w U U23 [B2,B1,.blk b2 58 B0] W26:=hS28
  refine oM Z Z (oR Z (ZS Z Z (v:=.slice A29 x19.length c30) Z) (oR Z (ZS Z Z (v:=.slice A31 x20.length c32) Z) (oA Z Z (oA Z Z (eN (sR (wOo (.fx 3 (.fl 4 (.nil)) .stop)) Z (oR Z (zO Z Z zM Z zI) (oL Z (hS35.ldB (j:=2) Z Z Z zJ (v:=.slice pA0_1 p0.Bibs.length pc0_1) Z) (oR Z (zY Z Z zA) (bnK hm22 fun x36 h37 hm38=>ZQ (enc:=KL.encI) (z:=(0:Int)) (v:=jV 0) Z Z Z Z Z (wCM zA) wFy Z Z Z Z Z Z h37 hS35 ?_))))))))))
  intro W39 b40 hS41
  have hS43:sW w U U23 [.row (some ⟨b40,0,none⟩) x36.length 3 1 (nA KL.encI x36),B2,B1,.blk b2 58 B0] W39:=hS41
  refine oA Z Z (eN (zD (sR fL1 Z (oA Z Z (eN (zP (ZY (fun (l50,x51) σ_ w_=>∃ (U_:PHeap),σ_ 1=.pointer (some ⟨b2,0,none⟩)/\σ_ 6=.slice A31 x20.length c32/\σ_ 7=.slice (some ⟨b40,0,none⟩) l50.length x36.length/\σ_ 8=jV x51/\PHeap.Le U23 U_/\sW w U U_ [.blk b2 58 B0,B1,.row (some ⟨b40,0,none⟩) x36.length 3 1 (nA KL.encI l50)] w_/\l50.length=x36.length) hm38 ?_ ?_)))))))
  ·exact ⟨U23,rfl,rfl,rfl,rfl,(zN _),(hS43.pick [3,2,0] _ (by decide) rfl),rfl⟩
  ·rintro ⟨l50,x51⟩ xx54 σ52 W53 ⟨U59,f62,f63,f64,f65,le60,hS61,h66⟩ hx55 hb56
   try dsimp only at hx55
   refine zD (sR fL4 Z (oM Z f65 (oM Z f64 (oR Z (zY Z Z zA) (oR Z (zS Z Z Z) (eN ?_))))))
   by_cases c67:x51 < (↑l50.length:Int)
   ·have hm68:=hx55;rw [if_pos c67] at hm68;replace c67:=zF c67
    refine cT Z c67 (kN (zD (zP (ZK ZJ [3,3,3,1,3,3,1,3,3,3,1,2,3,0] (wQF (.fx 11 (.fl 12 (.fx 13 (.nil) .stop)) .stop)) (by kernel_rfl) ?_))))
    have hS69:=hS61.drew
    generalize hw_W70:({ W53 with drawn:=W53.drawn + 1 }:World)=W70 at hS69 ⊢
    refine oM Z f64 (oM Z f65 (oR Z (zO Z f62 zM Z zm) (oL Z (hS69.ldB (j:=0) Z Z Z zr (v:=.slice pA0_2 p0.Times.length pc0_2) Z) (oM Z f65 (bnK hm68 fun x71 h72 hm73=>?_)))))
    have h74:=h18.le le27
    have h75:=h74.le le60
    have q:=h75.el (wAL h72)
    obtain ⟨b76,off77,vs80,hA78,hC79,hr81⟩:=q
    obtain ⟨pA82,pc83,rfl,h84⟩:=hr81
    replace hC79:Cl U59 b76 (off77 + x51.toNat * 1) [.slice pA82 x71.length pc83]:=hC79
    refine oR Z (zq Z Z hA78 Z zH zI (wBL h72) (wBO h72)) (oL Z (hS69.ldC (f:=0) hC79 (v:=.slice pA82 x71.length pc83) Z Z zJ Z) (oM Z f63 (oM Z f65 (bnK hm73 fun _ h85 hm86=>?_))))
    obtain ⟨b87,hA88⟩:=hS69.rowSome (j:=1) rfl (by rw [wAF (f:=KL.encI) (sz:=1) (fun _=>rfl) x20];have hz:=wAW h85;omega)
    refine oR Z (zq Z Z hA88 Z zA zG (wCT h85) (wCU h85)) ?_
    have hg89:=wBX (xs:=x20) (wAW h85)
    refine ZA rfl rfl rfl rfl (hS69.ldR (j:=1) rfl hA88 rfl rfl zQ (wAZ (sz:=1) (fun _=>rfl) _ _ 0 _ hg89 (by first | omega | rfl | simp) rfl)) rfl (bnK hm86 fun x90 h91 hm92=>zV 0 rfl rfl rfl rfl (zW rfl rfl Tryz.call70 (zK rfl (zK rfl (zK rfl zh))) rfl) hS69 (fun hs=>wBY x71 pA82 pc83 360000 (gd x20 x51.toNat) W70 U59 hs h84 h91) (.inr rfl) ?_)
    rintro U93 L94 v95 W96 le97 hS98 ⟨rfl,rfl⟩
    have hS99:sW w U U93 [.blk b2 58 B0,B1,.row (some ⟨b40,0,none⟩) x36.length 3 1 (nA KL.encI l50)] W96:=hS98
    refine bnK hm92 fun _ h100 hm101=>oR Z (zq Z Z Z Z zA zG (wCT h100) (wCU h100)) ?_
    have hg102:=wBX (xs:=l50) (wAW h100)
    refine OKS.stR (j:=2) (vs:=[jV x90]) (cs':=nA KL.encI (nN l50 x51.toNat x90)) rfl rfl rfl rfl hS99 rfl rfl rfl rfl rfl zG (by rw [wAF (f:=KL.encI) (sz:=1) (fun _=>rfl)];have hz:=wAW h100;simp only [nJ,nH,nI,nO,nP];first | omega | (simp only [nK];omega)) rfl (wFI (sz:=1) (fo:=0) (fun _=>rfl) _ _ _ _ hg102 (by first | omega | (simp only [nK];omega) | (simp only [nJ,nH,nI];omega)) (ZB rfl) rfl) rfl ?_
    intro W103 hS104
    have hS105:sW w U U93 [.blk b2 58 B0,B1,.row (some ⟨b40,0,none⟩) x36.length 3 1 (nA KL.encI (nN l50 x51.toNat x90))] W103:=hS104
    refine zj (zZ (zC (rR fL3 Z (oM Z f65 (oR Z (zX Z Z Z) (oA Z Z (zj ?_)))))))
    obtain rfl:=nD hm101
    exact zC ⟨rfl,_,rfl,⟨U93,f62,f63,(nS (b:=(.slice (some ⟨b40,0,none⟩) l50.length x36.length:Value)) (c:=(.slice (some ⟨b40,0,none⟩) ((nN l50 x51.toNat x90).length) x36.length:Value)) f64 (by simp only [nL])),rfl,(le60.trans le97),hS105,(by simp only [nL];exact h66)⟩⟩
   ·have hm108:=hx55;rw [if_neg c67] at hm108;replace c67:=zF c67
    refine cF Z c67 (ZF (zd ?_))
    have q:=wAQ hm108
    obtain ⟨v109,hm110,e111⟩:=q
    obtain rfl:=hb56 v109 e111
    refine zd (zx (zC (sR fL3 Z (oM Z f64 (oA Z Z (oA Z Z (eN (ze ?_))))))))
    cases hm110
    exact ⟨rfl,_,(wLo rfl rfl),U59,_,(hS61.pick [2] _ (by decide) rfl),(some ⟨b40,0,none⟩),x36.length,rfl,rfl⟩
 ·intro c15 hm112
  refine cT Z c15 (sR fL3 Z (oM Z Z (oA Z Z (oA Z Z (eN (ze (zR ?_)))))))
  have hS113:=hS14.nilrow 3 1
  cases hm112
  exact ⟨rfl,_,(wLo rfl rfl),U8,_,(hS113.pick [0] _ (by decide) rfl),none,0,rfl,rfl⟩
theorem wBd (p0:List Int) (pA0:Option Addr) (pc0:Nat) (p1:List Int) (pA1:Option Addr) (pc1:Nat) (w:World) (U:PHeap) (hS:St0 w U []) (ha0:Sl U 1 pA0 pc0 p0.length (nA KL.encI p0)) (ha1:Sl U 1 pA1 pc1 p1.length (nA KL.encI p1)) {r:Bool} (hm:wAb p0 p1=some r):Gv Tryz.prog 29 [.slice pA0 p0.length pc0,.slice pA1 p1.length pc1] w (wCR w [] U (fun U_ L_ v=>v=.bool r/\L_=[])):=by
 unfold wAb at hm
 refine Gv.of Tryz.func29 Z Tryz.ntmps29 Tryz.results29 Z (sR fL1 Z (oA Z Z (eN (zD (sR fL5 Z (oM Z Z (oR Z (zY Z Z zA) (oM Z Z (oR Z (zY Z Z zA) (oR Z (ZU Z Z Z) (eN ?_)))))))))))
 by_cases c1:(↑p0.length:Int)=(↑p1.length:Int)
 ·have hm2:=hm;rw [if_pos c1] at hm2;replace c1:=zF c1
  refine zy (ZL (fun h=>h c1.out)) (kN (zD (sR fL3 Z (oM Z Z (oR Z (zY Z Z zA) (oM Z Z (eN (zP ?_))))))))
  have q:=wBx hm2
  obtain ⟨r5,hX6⟩:=q
  have q:=wBw hX6
  obtain ⟨hle7,hf8⟩:=q
  replace hle7:=zF hle7
  refine Zd (fun k4 _ σ_ w_=>∃ (U_:PHeap),σ_ 13=jV (↑k4:Int)/\σ_ 0=.slice pA0 p0.length pc0/\σ_ 1=.slice pA1 p1.length pc1/\σ_ 12=jV (↑p0.length:Int)/\PHeap.Le U U_/\sW w U U_ [] w_) hf8 ?_ ?_ ?_
  ·exact ⟨U,Z,Z,Z,Z,(zN _),hS⟩
  ·rintro k4 ⟨⟩ xx11 σ9 W10 hk14 ⟨U16,fi15,f19,f20,f21,le17,hS18⟩ hx12 hb13
   try dsimp only at hx12
   have c22:Hid ((↑k4:Int) < (↑p0.length:Int)):=zF (wBi hk14)
   replace hk14:=zF hk14
   have hi23:Hid (w64 ((↑k4:Int) + 1)=(↑(k4 + 1):Int)):=zF (by have h1:=hle7.out;have h2:=c22.out;rw [wAe] <;> omega)
   refine sR fL1 rfl (zt rfl rfl rfl rfl (fun _=>zS rfl fi15 f21) (eN (zD (cT Z c22 (kN (zD (zP (sR fL2 rfl (zf rfl rfl rfl rfl rfl fi15 (OKS.ra rfl rfl rfl rfl rfl rfl (eN (zD (ZK ZJ [3,3,3,1,3,3,3,1,3] fL9 (by kernel_rfl) ?_)))))))))))))
   have hS24:=hS18.drew
   generalize hw_W25:({ W10 with drawn:=W10.drawn + 1 }:World)=W25 at hS24 ⊢
   refine oM Z f19 (oM Z Z (bnK hx12 fun x26 h27 hm28=>?_))
   have h29:=ha0.le le17
   have q:=h29.el (fun _=>rfl) (wAL h27)
   obtain ⟨b30,off31,hA32,hC33⟩:=q
   refine oR Z (ZD Z Z hA32 Z zA zG (wBe h27)) (oL Z (hS24.ldC (f:=0) hC33 (v:=jV x26) Z Z zQ Z) (oM Z f20 (oM Z Z (bnK hm28 fun x34 h35 hm36=>?_))))
   have h37:=ha1.le le17
   have q:=h37.el (fun _=>rfl) (wAL h35)
   obtain ⟨b38,off39,hA40,hC41⟩:=q
   refine oR Z (ZD Z Z hA40 Z zA zG (wBe h35)) (oL Z (hS24.ldC (f:=0) hC41 (v:=jV x34) Z Z zQ Z) (oR Z (ZU Z Z Z) (eN (ifc hm36 ?_ ?_))))
   ·intro c42 hm43
    refine zy (ZL (fun h=>h c42.out)) (ZH (zZ (zC (rR fL2 Z (oR Z (ZC (zX Z fi15 Z) (congrArg (jV) hi23.out)) (oM Z Z (zj ?_)))))))
    obtain rfl:=nD hm43
    exact zC ⟨Z,_,Z,⟨U16,Z,f19,f20,f21,le17,hS24⟩⟩
   ·intro c42 hm44
    refine cT Z c42 (sR fL1 Z (oA Z Z (eN (ze (zn (zR ?_))))))
    have q:=wAQ hm44
    obtain ⟨v45,hm46,e47⟩:=q
    obtain rfl:=wCn hm2 hX6 (hb13 v45 e47)
    refine zR (zn (zR ?_))
    have hE:=nD hm46;first | subst r | cases hE
    exact ⟨Z,_,(zz Z),U16,_,hS24,Z,Z⟩
  ·rintro ⟨⟩ σ48 W49 ⟨U52,fi51,f55,f56,f57,le53,hS54⟩ hb50
   have hm58:=wCm hm2 hX6 hb50
   try dsimp only at hm58
   have c59:Hid (¬ ((↑(((↑p0.length:Int):Int) - 0).toNat:Int) < (↑p0.length:Int))):=zF (wBQ)
   refine sR fL1 Z (oR Z (zS Z fi51 f57) (eN (zD (cF Z c59 (ZF (zd (zd (zx (zC (sR fL1 Z (oA Z Z (eN (ze ?_)))))))))))))
   have hE:=nD hm58;first | subst r | cases hE
   exact ⟨Z,_,(zz Z),U52,_,hS54,Z,Z⟩
 ·have hm60:=hm;rw [if_neg c1] at hm60;replace c1:=zF c1
  refine cT Z c1 (sR fL1 Z (oA Z Z (eN (ze (zR ?_)))))
  have hE:=nD hm60;first | subst r | cases hE
  exact ⟨Z,_,(zz Z),U,_,hS,Z,Z⟩
theorem wCk (p0:List (List Int)) (pA0:Option Addr) (pc0:Nat) (p1:List (List Int)) (pA1:Option Addr) (pc1:Nat) (w:World) (U:PHeap) (hS:St0 w U []) (ha0:SlR U wDc pA0 pc0 p0) (ha1:SlR U wDc pA1 pc1 p1) {r:Bool} (hm:wAm p0 p1=some r):Gv Tryz.prog 30 [.slice pA0 p0.length pc0,.slice pA1 p1.length pc1] w (wCR w [] U (fun U_ L_ v=>v=.bool r/\L_=[])):=by
 unfold wAm at hm
 refine Gv.of Tryz.func30 Z Tryz.ntmps30 Tryz.results30 Z (sR fL1 Z (oA Z Z (eN (zD (sR fL5 Z (oM Z Z (oR Z (zY Z Z zH) (oM Z Z (oR Z (zY Z Z zH) (oR Z (ZU Z Z Z) (eN ?_)))))))))))
 by_cases c1:(↑p0.length:Int)=(↑p1.length:Int)
 ·have hm2:=hm;rw [if_pos c1] at hm2;replace c1:=zF c1
  refine zy (ZL (fun h=>h c1.out)) (kN (zD (sR fL3 Z (oM Z Z (oR Z (zY Z Z zH) (oM Z Z (eN (zP ?_))))))))
  have q:=wBx hm2
  obtain ⟨r5,hX6⟩:=q
  have q:=wBw hX6
  obtain ⟨hle7,hf8⟩:=q
  replace hle7:=zF hle7
  refine Zd (fun k4 _ σ_ w_=>∃ (U_:PHeap),σ_ 13=jV (↑k4:Int)/\σ_ 0=.slice pA0 p0.length pc0/\σ_ 1=.slice pA1 p1.length pc1/\σ_ 12=jV (↑p0.length:Int)/\PHeap.Le U U_/\sW w U U_ [] w_) hf8 ?_ ?_ ?_
  ·exact ⟨U,Z,Z,Z,Z,(zN _),hS⟩
  ·rintro k4 ⟨⟩ xx11 σ9 W10 hk14 ⟨U16,fi15,f19,f20,f21,le17,hS18⟩ hx12 hb13
   try dsimp only at hx12
   have c22:Hid ((↑k4:Int) < (↑p0.length:Int)):=zF (wBi hk14)
   replace hk14:=zF hk14
   have hi23:Hid (w64 ((↑k4:Int) + 1)=(↑(k4 + 1):Int)):=zF (by have h1:=hle7.out;have h2:=c22.out;rw [wAe] <;> omega)
   refine sR fL1 rfl (zt rfl rfl rfl rfl (fun _=>zS rfl fi15 f21) (eN (zD (cT Z c22 (kN (zD (zP (sR fL2 rfl (zf rfl rfl rfl rfl rfl fi15 (OKS.ra rfl rfl rfl rfl rfl rfl (eN (zD (ZK ZJ [3,3,3,1,3,3,3,1,2,3] (wQD (.fx 8 (.fl 9 (.nil)) .stop)) (by kernel_rfl) ?_)))))))))))))
   have hS24:=hS18.drew
   generalize hw_W25:({ W10 with drawn:=W10.drawn + 1 }:World)=W25 at hS24 ⊢
   refine oM Z f19 (oM Z Z (bnK hx12 fun x26 h27 hm28=>?_))
   have h29:=ha0.le le17
   have q:=h29.el (wAL h27)
   obtain ⟨b30,off31,vs34,hA32,hC33,hr35⟩:=q
   obtain ⟨pA36,pc37,rfl,h38⟩:=hr35
   replace hC33:Cl U16 b30 (off31 + k4 * 1) [.slice pA36 x26.length pc37]:=hC33
   refine oR Z (ZD Z Z hA32 Z zH zI (wBe h27)) (oL Z (hS24.ldC (f:=0) hC33 (v:=.slice pA36 x26.length pc37) Z Z zJ Z) (oM Z f20 (oM Z Z (bnK hm28 fun x39 h40 hm41=>?_))))
   have h42:=ha1.le le17
   have q:=h42.el (wAL h40)
   obtain ⟨b43,off44,vs47,hA45,hC46,hr48⟩:=q
   obtain ⟨pA49,pc50,rfl,h51⟩:=hr48
   replace hC46:Cl U16 b43 (off44 + k4 * 1) [.slice pA49 x39.length pc50]:=hC46
   refine oR Z (ZD Z Z hA45 Z zH zI (wBe h40)) (oL Z (hS24.ldC (f:=0) hC46 (v:=.slice pA49 x39.length pc50) Z Z zJ Z) (bnK hm41 fun x52 h53 hm54=>zV 0 Z Z Z Z (zW Z Z Tryz.call29 (zK Z (zK Z zh)) Z) hS24 (fun hs=>wBd x26 pA36 pc37 x39 pA49 pc50 W25 U16 hs h38 h51 h53) (.inr Z) ?_))
   rintro U55 L56 v57 W58 le59 hS60 ⟨rfl,rfl⟩
   have hS61:sW w U U55 [] W58:=hS60
   refine oR Z (ZV Z Z) (eN (ifc hm54 ?_ ?_))
   ·intro c62 hm63
    refine zy (nC c62.out) (ZH (zZ (zC (rR fL2 Z (oR Z (ZC (zX Z fi15 Z) (congrArg (jV) hi23.out)) (oM Z Z (zj ?_)))))))
    obtain rfl:=nD hm63
    exact zC ⟨Z,_,Z,⟨U55,Z,f19,f20,f21,(le17.trans le59),hS61⟩⟩
   ·intro c62 hm64
    refine ZI (nF (c62.out)) (sR fL1 Z (oA Z Z (eN (ze (zn (zR ?_))))))
    have q:=wAQ hm64
    obtain ⟨v65,hm66,e67⟩:=q
    obtain rfl:=wCn hm2 hX6 (hb13 v65 e67)
    refine zR (zn (zR ?_))
    have hE:=nD hm66;first | subst r | cases hE
    exact ⟨Z,_,(zz Z),U55,_,hS61,Z,Z⟩
  ·rintro ⟨⟩ σ68 W69 ⟨U72,fi71,f75,f76,f77,le73,hS74⟩ hb70
   have hm78:=wCm hm2 hX6 hb70
   try dsimp only at hm78
   have c79:Hid (¬ ((↑(((↑p0.length:Int):Int) - 0).toNat:Int) < (↑p0.length:Int))):=zF (wBQ)
   refine sR fL1 Z (oR Z (zS Z fi71 f77) (eN (zD (cF Z c79 (ZF (zd (zd (zx (zC (sR fL1 Z (oA Z Z (eN (ze ?_)))))))))))))
   have hE:=nD hm78;first | subst r | cases hE
   exact ⟨Z,_,(zz Z),U72,_,hS74,Z,Z⟩
 ·have hm80:=hm;rw [if_neg c1] at hm80;replace c1:=zF c1
  refine cT Z c1 (sR fL1 Z (oA Z Z (eN (ze (zR ?_)))))
  have hE:=nD hm80;first | subst r | cases hE
  exact ⟨Z,_,(zz Z),U,_,hS,Z,Z⟩
theorem wCs (p0:wAA) (pA0_1:Option Addr) (pc0_1:Nat) (pA0_2:Option Addr) (pc0_2:Nat) (w:World) (U:PHeap) (hS:St0 w U []) (ha0:Sl U 1 pA0_1 pc0_1 p0.Bibs.length (nA KL.encI p0.Bibs)) (ha1:SlR U wDc pA0_2 pc0_2 p0.Times) {r:Bool} (hm:wBB p0=some r):Gv Tryz.prog 5 [.agg #[jV p0.Laps,.slice pA0_1 p0.Bibs.length pc0_1,.slice pA0_2 p0.Times.length pc0_2]] w (wCR w [] U (fun U_ L_ v=>v=.bool r/\L_=[])):=by
 unfold wBB at hm
 refine Gv.of Tryz.func5 Z Tryz.ntmps5 Tryz.results5 Z (sR (.fx 0 (.fl 1 (.nil)) .stop) Z ?_)
 let B0:List Value:=[jV p0.Laps,.slice pA0_1 p0.Bibs.length pc0_1,.slice pA0_2 p0.Times.length pc0_2]
 refine ZT (cs:=B0) rfl rfl rfl rfl rfl rfl (by rfl) hS ?_
 intro W1 b2 hS3
 refine oA Z Z (eN (zD (sR fL10 Z (oR Z (zO Z Z zL Z zI) (oL Z (hS3.ldB (j:=0) Z Z Z zJ (v:=.slice pA0_1 p0.Bibs.length pc0_1) Z) (oR Z (zY Z Z zA) (oR Z (Za Z Z Z) (oM Z Z ?_))))))))
 by_cases c5:64 < (↑p0.Bibs.length:Int)
 ·have hm6:=hm;rw [if_pos c5] at hm6;replace c5:=zF c5
  refine oT Z c5 (oT Z c5 (oT Z c5 (oT Z c5 (oR Z (zk Z (wED c5.out) Z) (eN (ZI Z (sR (.fx 0 (.fl 1 (.nil)) .stop) Z (bnK hm6 fun x7 h8 hm9=>zV 0 Z Z Z Z (zW Z Z Tryz.call14 zh Z) hS3 (fun hs=>wBS W1 U hs h8) (.inr Z) ?_))))))))
  rintro U10 L11 v12 W13 le14 hS15 ⟨rfl,rfl⟩
  have hS16:sW w U U10 [.blk b2 26 B0] W13:=hS15
  refine oA Z Z (eN (ze (zR ?_)))
  have hE:=nD hm9;first | subst r | cases hE
  exact ⟨rfl,_,(zz rfl),U10,_,(hS16.pick [] _ (by decide) rfl),rfl,rfl⟩
 ·have hm17:=hm;rw [if_neg c5] at hm17;replace c5:=zF c5
  refine rU Z (wF Z c5) (zO Z Z zL Z zm) (ZA Z Z Z (wF Z c5) (hS3.ldB (j:=0) Z Z Z zr (v:=.slice pA0_2 p0.Times.length pc0_2) Z) Z (rU Z (wF Z c5) (zY Z Z zH) (rU Z (wF Z c5) (Za Z Z Z) (oR Z (zg Z (ZL c5.out) Z) (eN (ifc hm17 ?_ ?_))))))
  ·intro c18 hm19
   refine cT Z c18 (sR (.fx 0 (.fl 1 (.nil)) .stop) Z (bnK hm19 fun x20 h21 hm22=>zV 0 Z Z Z Z (zW Z Z Tryz.call14 zh Z) hS3 (fun hs=>wBS W1 U hs h21) (.inr Z) ?_))
   rintro U23 L24 v25 W26 le27 hS28 ⟨rfl,rfl⟩
   have hS29:sW w U U23 [.blk b2 26 B0] W26:=hS28
   refine oA Z Z (eN (ze (zR ?_)))
   have hE:=nD hm22;first | subst r | cases hE
   exact ⟨rfl,_,(zz rfl),U23,_,(hS29.pick [] _ (by decide) rfl),rfl,rfl⟩
  ·intro c18 hm30
   refine cF Z c18 (kN (zD (sR fL4 Z (oR Z (zO Z Z zL Z zm) (oL Z (hS3.ldB (j:=0) Z Z Z zr (v:=.slice pA0_2 p0.Times.length pc0_2) Z) (oR Z (zY Z Z zH) (oM Z Z (eN (zP ?_)))))))))
   have q:=wBx hm30
   obtain ⟨r33,hX34⟩:=q
   have q:=wBw hX34
   obtain ⟨hle35,hf36⟩:=q
   replace hle35:=zF hle35
   refine Zd (fun k32 _ σ_ w_=>∃ (U_:PHeap),σ_ 28=jV (↑k32:Int)/\σ_ 1=.pointer (some ⟨b2,0,none⟩)/\σ_ 26=.slice pA0_2 p0.Times.length pc0_2/\σ_ 27=jV (↑p0.Times.length:Int)/\PHeap.Le U U_/\sW w U U_ [.blk b2 26 B0] w_) hf36 ?_ ?_ ?_
   ·exact ⟨U,Z,Z,Z,Z,(zN _),hS3⟩
   ·rintro k32 ⟨⟩ xx39 σ37 W38 hk42 ⟨U44,fi43,f47,f48,f49,le45,hS46⟩ hx40 hb41
    try dsimp only at hx40
    have c50:Hid ((↑k32:Int) < (↑p0.Times.length:Int)):=zF (wBi hk42)
    replace hk42:=zF hk42
    have hi51:Hid (w64 ((↑k32:Int) + 1)=(↑(k32 + 1):Int)):=zF (by have h1:=hle35.out;have h2:=c50.out;rw [wAe] <;> omega)
    refine sR fL1 Z (oR Z (zS Z fi43 f49) (eN (zD (cT Z c50 (kN (zD (zP (sR fL3 Z (bnK hx40 fun x52 h53 hm54=>?_)))))))))
    have h55:=ha1.le le45
    have q:=h55.el (wAL h53)
    obtain ⟨b56,off57,vs60,hA58,hC59,hr61⟩:=q
    obtain ⟨pA62,pc63,rfl,h64⟩:=hr61
    replace hC59:Cl U44 b56 (off57 + k32 * 1) [.slice pA62 x52.length pc63]:=hC59
    refine oR Z (ZD Z f48 hA58 fi43 zH zI (wBe h53)) (oL Z (hS46.ldC (f:=0) hC59 (v:=.slice pA62 x52.length pc63) Z Z zJ Z) (oA Z Z (eN (sR fL3 Z (oM Z Z (oR Z (zY Z Z zA) (oR Z (Za Z Z Z) (eN (ifc hm54 ?_ ?_)))))))))
    ·intro c65 hm66
     refine cT Z c65 (sR (.fx 0 (.fl 1 (.nil)) .stop) Z (bnK hm66 fun x67 h68 hm69=>zV 0 Z Z Z Z (zW Z Z Tryz.call14 zh Z) hS46 (fun hs=>wBS W38 U44 hs h68) (.inr Z) ?_))
     rintro U70 L71 v72 W73 le74 hS75 ⟨rfl,rfl⟩
     have hS76:sW w U U70 [.blk b2 26 B0] W73:=hS75
     refine oA Z Z (eN (ze (zn (zR ?_))))
     have q:=wAQ hm69
     obtain ⟨v77,hm78,e79⟩:=q
     obtain rfl:=wCn hm30 hX34 (hb41 v77 e79)
     refine zR (zn (zR ?_))
     have hE:=nD hm78;first | subst r | cases hE
     exact ⟨rfl,_,(zz rfl),U70,_,(hS76.pick [] _ (by decide) rfl),rfl,rfl⟩
    ·intro c65 hm80
     refine cF Z c65 (ZH (zZ (zC (rR fL2 Z (oR Z (ZC (zX Z fi43 Z) (congrArg (jV) hi51.out)) (oM Z Z (zj ?_)))))))
     obtain rfl:=nD hm80
     exact zC ⟨Z,_,Z,⟨U44,Z,f47,f48,f49,le45,hS46⟩⟩
   ·rintro ⟨⟩ σ81 W82 ⟨U85,fi84,f88,f89,f90,le86,hS87⟩ hb83
    have hm91:=wCm hm30 hX34 hb83
    try dsimp only at hm91
    have c92:Hid (¬ ((↑(((↑p0.Times.length:Int):Int) - 0).toNat:Int) < (↑p0.Times.length:Int))):=zF (wBQ)
    refine sR fL1 Z (oR Z (zS Z fi84 f90) (eN (zD (cF Z c92 (ZF (zd (zd (zx (zC (sR (.fl 0 (.fx 1 (.fx 2 (.fx 3 (.nil) .stop) .stop) .stop)) Z (oL Z (hS87.ldBA (j:=0) Z Z f88 ZP ZG (vs:=B0) Z Z) ?_)))))))))))
    have h93:=ha0.le le86
    have h94:=ha1.le le86
    refine bnK hm91 fun x95 h96 hm97=>zV 0 Z Z Z Z (zW Z Z Tryz.call23 (zK Z zh) Z) hS87 (fun hs=>wCp p0 pA0_1 pc0_1 pA0_2 pc0_2 W82 U85 hs h93 h94 h96) (.inr Z) ?_
    rintro U98 L99 v100 W101 le102 hS103 ⟨A104,c105,A106,c107,c108,rfl,rfl,h111⟩
    let B1:Res:=.row A104 c105 3 1 (nA KL.encI x95.Bibs)
    let B2:Res:=.row A106 c107 23 1 c108
    have hS112:sW w U U98 [B1,B2,.blk b2 26 B0] W101:=hS103
    let B3:List Value:=[jV 0,.slice none 0 0,.slice none 0 0]
    refine ZX (cs:=B3) Z Z Z Z Z Tryz.zeroValue26 Z hS112 ?_
    intro W113 b114 hS115
    let B4:List Value:=[jV x95.Laps,.slice A104 x95.Bibs.length c105,.slice A106 x95.Times.length c107]
    refine OKS.st (j:=0) (vs:=B4) Z Z Z Z hS115 Z Z Z Z ZG (ZB Z) Z Z Z ?_
    intro W117 hS118
    have hS119:sW w U U98 [.blk b114 26 B4,B1,B2,.blk b2 26 B0] W117:=hS118
    refine eN ?_
    have q:=bnd hm97
    obtain ⟨⟨l122,l125⟩,hx130,hm131⟩:=q
    try dsimp only at hm131
    refine CK.cut (fun σ_ w_=>∃ (U_:PHeap) (b121:Nat) (A123:Option Addr) (c124:Nat) (A126:Option Addr) (c127:Nat) (cs128:List Value),σ_ 1=.pointer (some ⟨b2,0,none⟩)/\σ_ 5=.pointer (some ⟨b114,0,none⟩)/\σ_ 6=.pointer (some ⟨b121,0,none⟩)/\PHeap.Le U98 U_/\sW w U U_ [.row A104 c105 3 1 (nA KL.encI x95.Bibs),B2,.blk b114 26 B4,.blk b2 26 B0,.blk b121 58 [jV p0.Laps,.slice A123 l122.length c124,.slice A126 l125.length c127],.row A123 c124 3 1 (nA KL.encI l122),.row A126 c127 23 1 cs128] w_/\RlL U_ wDc l125 cs128) ?_ ?_
    ·refine bnK hx130 fun x133 h134 hm170=>bnK hm170 fun x148 h149 hm171=>ZK ZJ [3,1,3,1,2,3,1,2,3,2,0] (wLn (.fl 5 (.fl 6 (.fx 4 (.fx 7 (.fl 8 (.fx 9 (.fx 10 (.nil) (.stop)) (.stop))) (.fx 9 (.fx 7 (.fl 8 (.fx 10 (.nil) (.stop))) (.stop)) (.stop))) (.fx 9 (.fx 4 (.fx 7 (.fl 8 (.fx 10 (.nil) (.stop))) (.stop)) (.stop)) (.stop)))))) (by kernel_rfl) ?_
     have hS172:=hS119.drew
     generalize hw_W173:({ W117 with drawn:=W117.drawn + 1 }:World)=W173 at hS172 ⊢
     refine oR Z (zO Z f88 zL Z zG) (oL Z (hS172.ldB (j:=3) Z Z Z zQ (v:=jV p0.Laps) Z) (oR Z (zO Z f88 zL Z zI) (oL Z (hS172.ldB (j:=3) Z Z Z zJ (v:=.slice pA0_1 p0.Bibs.length pc0_1) Z) (oR Z (zO Z f88 zL Z zm) (oL Z (hS172.ldB (j:=3) Z Z Z zr (v:=.slice pA0_2 p0.Times.length pc0_2) Z) (OKS.both ?_ ?_))))))
     ·have h174:=h93.le le102
      refine zV 0 Z Z Z Z (zW Z Z Tryz.call24 (zK Z zh) Z) hS172 (fun hs=>wBN p0.Bibs pA0_1 pc0_1 W173 U98 hs h174 h134) (.inr Z) ?_
      rintro U176 L177 v178 W179 le180 hS181 ⟨A182,c183,rfl,rfl⟩
      let B5:Res:=.row A182 c183 3 1 (nA KL.encI x133)
      have hS185:sW w U U176 [B5,.blk b114 26 B4,B1,B2,.blk b2 26 B0] W179:=hS181
      refine OKS.both ?_ ?_
      ·have h186:=h94.le le102
       have h187:=h186.le le180
       refine zV 0 Z Z Z Z (zW Z Z Tryz.call18 (zK Z zh) Z) hS185 (fun hs=>wAv p0.Times pA0_2 pc0_2 W179 U176 hs h187 h149) (.inr Z) ?_
       rintro U189 L190 v191 W192 le193 hS194 ⟨A195,c196,c197,rfl,rfl,h199⟩
       have hS200:sW w U U189 [.row A195 c196 23 1 c197,B5,.blk b114 26 B4,B1,B2,.blk b2 26 B0] W192:=hS194
       let B6:List Value:=[jV p0.Laps,.slice A182 x133.length c183,.slice A195 x148.length c196]
       refine oR Z (Runs.build (pv:=[(0,jV p0.Laps),(1,.slice A182 x133.length c183),(2,.slice A195 x148.length c196)]) (z:=B3) (cs:=B6) Z (wAR Z (wAR Z (wAR Z wBq))) Zc wGs Z Z) (ZX (cs:=B3) Z Z Z Z Z Zc Z hS200 ?_)
       intro W201 b202 hS203
       refine OKS.st (j:=0) (vs:=B6) Z Z Z Z hS203 Z Z Z Z ZR (ZB Z) Z Z Z ?_
       intro W205 hS206
       have hS207:sW w U U189 [.blk b202 58 B6,.row A195 c196 23 1 c197,B5,.blk b114 26 B4,B1,B2,.blk b2 26 B0] W205:=hS206
       refine zj ?_
       cases hm171
       exact zC ⟨rfl,⟨U189,b202,A182,c183,A195,c196,c197,f88,rfl,rfl,(le180.trans le193),(hS207.pick [4,5,3,6,0,2,1] _ (by decide) rfl),h199⟩⟩
      ·refine ZX (cs:=B3) Z Z Z Z Z Zc Z hS185 ?_
       intro W217 b218 hS219
       have h221:=h94.le le102
       have h222:=h221.le le180
       refine zV 0 Z Z Z Z (zW Z Z Tryz.call18 (zK Z zh) Z) hS219 (fun hs=>wAv p0.Times pA0_2 pc0_2 W217 U176 hs h222 h149) (.inr Z) ?_
       rintro U224 L225 v226 W227 le228 hS229 ⟨A230,c231,c232,rfl,rfl,h234⟩
       have hS235:sW w U U224 [.row A230 c231 23 1 c232,.blk b218 58 B3,B5,.blk b114 26 B4,B1,B2,.blk b2 26 B0] W227:=hS229
       let B7:List Value:=[jV p0.Laps,.slice A182 x133.length c183,.slice A230 x148.length c231]
       refine oR Z (Runs.build (pv:=[(0,jV p0.Laps),(1,.slice A182 x133.length c183),(2,.slice A230 x148.length c231)]) (z:=B3) (cs:=B7) Z (wAR Z (wAR Z (wAR Z wBq))) Zc wGs Z Z) (OKS.st (j:=1) (vs:=B7) Z Z Z Z hS235 Z Z Z Z ZR (ZB Z) Z Z Z ?_)
       intro W236 hS237
       have hS238:sW w U U224 [.row A230 c231 23 1 c232,.blk b218 58 B7,B5,.blk b114 26 B4,B1,B2,.blk b2 26 B0] W236:=hS237
       refine zj ?_
       cases hm171
       exact zC ⟨rfl,⟨U224,b218,A182,c183,A230,c231,c232,f88,rfl,rfl,(le180.trans le228),(hS238.pick [4,5,3,6,1,2,0] _ (by decide) rfl),h234⟩⟩
     ·refine ZX (cs:=B3) Z Z Z Z Z Zc Z hS172 ?_
      intro W248 b249 hS250
      have h252:=h93.le le102
      refine zV 0 Z Z Z Z (zW Z Z Tryz.call24 (zK Z zh) Z) hS250 (fun hs=>wBN p0.Bibs pA0_1 pc0_1 W248 U98 hs h252 h134) (.inr Z) ?_
      rintro U254 L255 v256 W257 le258 hS259 ⟨A260,c261,rfl,rfl⟩
      let B8:Res:=.row A260 c261 3 1 (nA KL.encI x133)
      have hS263:sW w U U254 [B8,.blk b249 58 B3,.blk b114 26 B4,B1,B2,.blk b2 26 B0] W257:=hS259
      have h264:=h94.le le102
      have h265:=h264.le le258
      refine zV 0 Z Z Z Z (zW Z Z Tryz.call18 (zK Z zh) Z) hS263 (fun hs=>wAv p0.Times pA0_2 pc0_2 W257 U254 hs h265 h149) (.inr Z) ?_
      rintro U267 L268 v269 W270 le271 hS272 ⟨A273,c274,c275,rfl,rfl,h277⟩
      have hS278:sW w U U267 [.row A273 c274 23 1 c275,B8,.blk b249 58 B3,.blk b114 26 B4,B1,B2,.blk b2 26 B0] W270:=hS272
      let B9:List Value:=[jV p0.Laps,.slice A260 x133.length c261,.slice A273 x148.length c274]
      refine oR Z (Runs.build (pv:=[(0,jV p0.Laps),(1,.slice A260 x133.length c261),(2,.slice A273 x148.length c274)]) (z:=B3) (cs:=B9) Z (wAR Z (wAR Z (wAR Z wBq))) Zc wGs Z Z) (OKS.st (j:=2) (vs:=B9) Z Z Z Z hS278 Z Z Z Z ZR (ZB Z) Z Z Z ?_)
      intro W279 hS280
      have hS281:sW w U U267 [.row A273 c274 23 1 c275,B8,.blk b249 58 B9,.blk b114 26 B4,B1,B2,.blk b2 26 B0] W279:=hS280
      refine zj ?_
      cases hm171
      exact zC ⟨rfl,⟨U267,b249,A260,c261,A273,c274,c275,f88,rfl,rfl,(le258.trans le271),(hS281.pick [4,5,3,6,2,1,0] _ (by decide) rfl),h277⟩⟩
    ·rintro σ291 W292 ⟨U293,b121,A123,c124,A126,c127,cs128,f296,f297,f298,le294,hS295,h299⟩
     refine zD (zD (ZK ZJ [1,2,1,2,3] (.fl 0 (.fl 2 (.fx 1 (.fx 3 (.fl 4 (.nil)) .stop) .stop))) (by kernel_rfl) ?_))
     have hS300:=hS295.drew
     generalize hw_W301:({ W292 with drawn:=W292.drawn + 1 }:World)=W301 at hS300 ⊢
     refine oL Z (hS300.ldBA (j:=2) Z Z f297 ZP ZG (vs:=B4) Z Z) ?_
     let B10:List Value:=[jV p0.Laps,.slice A123 l122.length c124,.slice A126 l125.length c127]
     refine oL Z (hS300.ldBA (j:=4) Z Z f298 Tryz.isAgg58 ZR (vs:=B10) Z Z) ?_
     have q:=hS300.freezeR (k:=0) (n:=x95.Bibs.length) rfl (wAF (f:=KL.encI) (sz:=1) (fun _=>rfl) x95.Bibs) (by decide)
     obtain ⟨U302,le303,hs304,hS305⟩:=q
     let B11:Res:=.row A123 c124 3 1 (nA KL.encI l122)
     let B12:Res:=.row A126 c127 23 1 cs128
     have hS306:sW w U U302 [B2,.blk b114 26 B4,.blk b2 26 B0,.blk b121 58 B10,B11,B12] W301:=hS305
     have h311:=h111.le le294
     have h312:=h311.le le303
     have q:=hS306.freezeRR (R:=wDc) (k:=0) rfl h312 rfl (by decide)
     obtain ⟨U307,le308,hs309,hS310⟩:=q
     have hS313:sW w U U307 [.blk b114 26 B4,.blk b2 26 B0,.blk b121 58 B10,B11,B12] W301:=hS310
     have h314:=hs304.le le308
     refine bnK hm131 fun x315 h316 hm317=>zV 0 Z Z Z Z (zW Z Z Tryz.call25 (zK Z zh) Z) hS313 (fun hs=>wCE x95 A104 c105 A106 c107 W301 U307 hs h314 hs309 h316) (.inr Z) ?_
     rintro U318 L319 v320 W321 le322 hS323 ⟨rfl,rfl⟩
     have hS324:sW w U U318 [.blk b114 26 B4,.blk b2 26 B0,.blk b121 58 B10,B11,B12] W321:=hS323
     have q:=hS324.freezeR (k:=3) (n:=l122.length) rfl (wAF (f:=KL.encI) (sz:=1) (fun _=>rfl) l122) (by decide)
     obtain ⟨U325,le326,hs327,hS328⟩:=q
     have hS329:sW w U U325 [.blk b114 26 B4,.blk b2 26 B0,.blk b121 58 B10,B12] W321:=hS328
     have h334:=h299.le le303
     have h335:=h334.le le308
     have h336:=h335.le le322
     have h337:=h336.le le326
     have q:=hS329.freezeRR (R:=wDc) (k:=3) rfl h337 rfl (by decide)
     obtain ⟨U330,le331,hs332,hS333⟩:=q
     have hS338:sW w U U330 [.blk b114 26 B4,.blk b2 26 B0,.blk b121 58 B10] W321:=hS333
     have h339:=hs327.le le331
     refine bnK hm317 fun x340 h341 hm342=>zV 0 Z Z Z Z (zW Z Z Tryz.call26 (zK Z zh) Z) hS338 (fun hs=>wBV (⟨p0.Laps,l122,l125⟩:wAH) A123 c124 A126 c127 W321 U330 hs h339 hs332 h341) (.inr Z) ?_
     rintro U343 L344 v345 W346 le347 hS348 ⟨rfl,rfl⟩
     have hS349:sW w U U343 [.blk b114 26 B4,.blk b2 26 B0,.blk b121 58 B10] W346:=hS348
     refine oR Z (ZU Z Z Z) (eN (ifc hm342 ?_ ?_))
     ·intro c350 hm351
      refine zy (ZL (fun h=>h c350.out)) (kN (sR (.fl 0 (.fx 1 (wHl (.nil)) .stop)) Z (oL Z (hS349.ldBA (j:=0) Z Z f297 ZP ZG (vs:=B4) Z Z) ?_)))
      have h352:=h314.le le322
      have h353:=h352.le le326
      have h354:=h353.le le331
      have h355:=h354.le le347
      have h356:=hs309.le le322
      have h357:=h356.le le326
      have h358:=h357.le le331
      have h359:=h358.le le347
      have q:=bnd hm351
      obtain ⟨⟨x360,x361⟩,h362,hm363⟩:=q
      try dsimp only at hm363
      refine zV 0 Z Z Z Z (zW Z Z Tryz.call8 (zK Z zh) Z) hS349 (fun hs=>wFz x95 A104 c105 A106 c107 W346 U343 hs h355 h359 h362) (.inr Z) ?_
      rintro U364 L365 v366 W367 le368 hS369 ⟨A370,c371,rfl,rfl⟩
      let B13:Res:=.row A370 c371 38 4 (nA wAI x360)
      have hS373:sW w U U364 [B13,.blk b114 26 B4,.blk b2 26 B0,.blk b121 58 B10] W367:=hS369
      refine oM Z Z (oR Z (ZS Z Z (v:=.slice A370 x360.length c371) Z) (oR Z (ZS Z Z (v:=jV x361) Z) (oA Z Z (oA Z Z (eN (sR (.fl 0 (.fx 1 (wHl (.nil)) .stop)) Z (oL Z (hS373.ldBA (j:=3) Z Z f298 Tryz.isAgg58 ZR (vs:=B10) Z Z) ?_)))))))
      have h374:=h339.le le347
      have h375:=h374.le le368
      have h376:=hs332.le le347
      have h377:=h376.le le368
      have q:=bnd hm363
      obtain ⟨⟨x378,x379⟩,h380,hm381⟩:=q
      try dsimp only at hm381
      refine zV 0 Z Z Z Z (zW Z Z Tryz.call27 (zK Z zh) Z) hS373 (fun hs=>wDV (⟨p0.Laps,l122,l125⟩:wAH) A123 c124 A126 c127 W367 U364 hs h375 h377 h380) (.inr Z) ?_
      rintro U382 L383 v384 W385 le386 hS387 ⟨A388,c389,rfl,rfl⟩
      let B14:Res:=.row A388 c389 64 4 (nA wAB x378)
      have hS391:sW w U U382 [B14,B13,.blk b114 26 B4,.blk b2 26 B0,.blk b121 58 B10] W385:=hS387
      refine oM Z Z (oR Z (ZS Z Z (v:=.slice A388 x378.length c389) Z) (oR Z (ZS Z Z (v:=jV x379) Z) (oA Z Z (oA Z Z (eN (zD (sR fL10 Z (oM Z Z (oM Z Z (oR Z (ZU Z Z Z) (oM Z Z (ifc hm381 ?_ ?_))))))))))))
      ·intro c392 hm393
       refine zf Z Z Z (zw Z Z (ZL (fun h=>h c392.out))) Z Z (zt Z Z Z (zw Z Z (ZL (fun h=>h c392.out))) (fun _=>zY Z Z Tryz.runUnderlying30) (zf Z Z Z (zw Z Z (ZL (fun h=>h c392.out))) Z Z (zt Z Z Z (zw Z Z (ZL (fun h=>h c392.out))) (fun _=>zY Z Z ZE) (zt Z Z Z (zw Z Z (ZL (fun h=>h c392.out))) (fun _=>ZU Z Z Z) (oR Z (zg Z (ZL (fun h=>h c392.out)) Z) (eN (ifc hm393 ?_ ?_)))))))
       ·intro c394 hm395
        refine zy (ZL (fun h=>h c394.out)) (kN (zD (sR fL3 Z (oM Z Z (oR Z (zY Z Z Tryz.runUnderlying30) (oM Z Z (eN (zP ?_))))))))
        have q:=wBx hm395
        obtain ⟨r399,hX400⟩:=q
        have q:=wBw hX400
        obtain ⟨hle401,hf402⟩:=q
        replace hle401:=zF hle401
        refine Zd (fun k398 _ σ_ w_=>∃ (U_:PHeap),σ_ 75=jV (↑k398:Int)/\σ_ 1=.pointer (some ⟨b2,0,none⟩)/\σ_ 5=.pointer (some ⟨b114,0,none⟩)/\σ_ 6=.pointer (some ⟨b121,0,none⟩)/\σ_ 7=.slice A370 x360.length c371/\σ_ 9=.slice A388 x378.length c389/\σ_ 74=jV (↑x360.length:Int)/\PHeap.Le U382 U_/\sW w U U_ [.blk b114 26 B4,.blk b2 26 B0,.blk b121 58 B10,B13,B14] w_) hf402 ?_ ?_ ?_
        ·exact ⟨U382,rfl,f296,f297,f298,rfl,rfl,rfl,(zN _),(hS391.pick [2,3,4,1,0] _ (by decide) rfl)⟩
        ·rintro k398 ⟨⟩ xx405 σ403 W404 hk408 ⟨U410,fi409,f413,f414,f415,f416,f417,f418,le411,hS412⟩ hx406 hb407
         try dsimp only at hx406
         have c419:Hid ((↑k398:Int) < (↑x360.length:Int)):=zF (wBi hk408)
         replace hk408:=zF hk408
         have hi420:Hid (w64 ((↑k398:Int) + 1)=(↑(k398 + 1):Int)):=zF (by have h1:=hle401.out;have h2:=c419.out;rw [wAe] <;> omega)
         refine sR fL1 rfl (zt rfl rfl rfl rfl (fun _=>zS rfl fi409 f418) (eN (zD (cT Z c419 (kN (zD (zP (sR fL2 rfl (zf rfl rfl rfl rfl rfl fi409 (OKS.ra rfl rfl rfl rfl rfl rfl (eN (zD (ZK ZJ [3,3,3,1,3,3,3,1,3] fL9 (by kernel_rfl) ?_)))))))))))))
         have hS421:=hS412.drew
         generalize hw_W422:({ W404 with drawn:=W404.drawn + 1 }:World)=W422 at hS421 ⊢
         refine oM Z f416 (oM Z Z (bnK hx406 fun _ h423 hm424=>?_))
         obtain ⟨b425,hA426⟩:=hS421.rowSome (j:=3) rfl (by rw [wAF (f:=wAI) (sz:=4) (fun _=>rfl) x360];have hz:=wAW h423;omega)
         refine oR Z (ZD Z Z hA426 Z Tryz.runUnderlying30 Tryz.sizeOf38 (wAW h423)) ?_
         have hg427:=wBX (xs:=x360) (wAW h423)
         refine ZA rfl rfl rfl rfl (hS421.ldRA (j:=3) rfl hA426 rfl rfl Tryz.isAgg38 Tryz.sizeOf38 (vs:=[jV ((gd x360 k398).Bib),jV ((gd x360 k398).Done),jV ((gd x360 k398).Time),jV ((gd x360 k398).By)]) (wDl (sz:=4) (fun _=>rfl) _ _ _ hg427 (by first | omega | rfl | simp) rfl) rfl) rfl (zf rfl rfl rfl rfl rfl f417 (zf rfl rfl rfl rfl rfl rfl (bnK hm424 fun _ h428 hm429=>?_)))
         obtain ⟨b430,hA431⟩:=hS421.rowSome (j:=4) rfl (by rw [wAF (f:=wAB) (sz:=4) (fun _=>rfl) x378];have hz:=wAW h428;omega)
         refine oR Z (ZD Z Z hA431 Z ZE ZO (wAW h428)) ?_
         have hg432:=wBX (xs:=x378) (wAW h428)
         refine ZA rfl rfl rfl rfl (hS421.ldRA (j:=4) rfl hA431 rfl rfl Tryz.isAgg64 ZO (vs:=[jV ((gd x378 k398).Bib),jV ((gd x378 k398).Done),jV ((gd x378 k398).Time),jV ((gd x378 k398).By)]) (wDl (sz:=4) (fun _=>rfl) _ _ _ hg432 (by first | omega | rfl | simp) rfl) rfl) rfl (zt rfl rfl rfl rfl (fun _=>ZC (Runs.neS (enc:=wAB) (a:=(⟨(gd x360 k398).Bib,(gd x360 k398).Done,(gd x360 k398).Time,(gd x360 k398).By⟩:wAJ)) (b:=(gd x378 k398)) rfl rfl rfl eqT64 eqG64) (congrArg nE (decide_not).symm)) (eN (ifc hm429 ?_ ?_)))
         ·intro c433 hm434
          refine zy (ZL (fun h=>h c433.out)) (ZH (zZ (zC (rR fL2 Z (oR Z (ZC (zX Z fi409 Z) (congrArg (jV) hi420.out)) (oM Z Z (zj ?_)))))))
          obtain rfl:=nD hm434
          exact zC ⟨Z,_,Z,⟨U410,Z,f413,f414,f415,f416,f417,f418,le411,hS421⟩⟩
         ·intro c433 hm435
          refine cT Z c433 (sR fL1 Z (oA Z Z (eN (ze (zn (zR ?_))))))
          have q:=wAQ hm435
          obtain ⟨v436,hm437,e438⟩:=q
          obtain rfl:=wCn hm395 hX400 (hb407 v436 e438)
          refine zR (zn (zR ?_))
          have hE:=nD hm437;first | subst r | cases hE
          exact ⟨rfl,_,(zz rfl),U410,_,(hS421.pick [] _ (by decide) rfl),rfl,rfl⟩
        ·rintro ⟨⟩ σ439 W440 ⟨U443,fi442,f446,f447,f448,f449,f450,f451,le444,hS445⟩ hb441
         have hm452:=wCm hm395 hX400 hb441
         try dsimp only at hm452
         have c453:Hid (¬ ((↑(((↑x360.length:Int):Int) - 0).toNat:Int) < (↑x360.length:Int))):=zF (wBQ)
         refine sR fL1 Z (oR Z (zS Z fi442 f451) (eN (zD (cF Z c453 (ZF (zd (zd (zx (zC (sR (.fl 0 (.fx 1 (wHl (.nil)) .stop)) Z (oL Z (hS445.ldBA (j:=0) Z Z f447 ZP ZG (vs:=B4) Z Z) ?_)))))))))))
         have h454:=h355.le le368
         have h455:=h454.le le386
         have h456:=h455.le le444
         have h457:=h359.le le368
         have h458:=h457.le le386
         have h459:=h458.le le444
         have q:=bnd hm452
         obtain ⟨⟨x460,x461⟩,h462,hm463⟩:=q
         try dsimp only at hm463
         refine zV 0 Z Z Z Z (zW Z Z Tryz.call9 (zK Z zh) Z) hS445 (fun hs=>wFm x95 A104 c105 A106 c107 W440 U443 hs h456 h459 h462) (.inr Z) ?_
         rintro U464 L465 v466 W467 le468 hS469 ⟨A470,c471,rfl,rfl⟩
         let B15:Res:=.row A470 c471 3 1 (nA KL.encI x460)
         have hS473:sW w U U464 [B15,.blk b114 26 B4,.blk b2 26 B0,.blk b121 58 B10,B13,B14] W467:=hS469
         refine oM Z Z (oR Z (ZS Z Z (v:=.slice A470 x460.length c471) Z) (oR Z (ZS Z Z (v:=jV x461) Z) (oA Z Z (oA Z Z (eN (sR (.fl 0 (.fx 1 (wHl (.nil)) .stop)) Z (oL Z (hS473.ldBA (j:=3) Z Z f448 Tryz.isAgg58 ZR (vs:=B10) Z Z) ?_)))))))
         have h474:=h375.le le386
         have h475:=h474.le le444
         have h476:=h475.le le468
         have h477:=h377.le le386
         have h478:=h477.le le444
         have h479:=h478.le le468
         have q:=bnd hm463
         obtain ⟨⟨x480,x481⟩,h482,hm483⟩:=q
         try dsimp only at hm483
         refine zV 0 Z Z Z Z (zW Z Z Tryz.call28 (zK Z zh) Z) hS473 (fun hs=>wDG (⟨p0.Laps,l122,l125⟩:wAH) A123 c124 A126 c127 W467 U464 hs h476 h479 h482) (.inr Z) ?_
         rintro U484 L485 v486 W487 le488 hS489 ⟨A490,c491,rfl,rfl⟩
         let B16:Res:=.row A490 c491 3 1 (nA KL.encI x480)
         have hS493:sW w U U484 [B16,B15,.blk b114 26 B4,.blk b2 26 B0,.blk b121 58 B10,B13,B14] W487:=hS489
         refine oM Z Z (oR Z (ZS Z Z (v:=.slice A490 x480.length c491) Z) (oR Z (ZS Z Z (v:=jV x481) Z) (oA Z Z (oA Z Z (eN (zD (CK.fresh fun σ494 hσ495=>?_)))))))
         have f496:σ494 1=.pointer (some ⟨b2,0,none⟩):=(hσ495 1).trans f446
         have f497:σ494 5=.pointer (some ⟨b114,0,none⟩):=(hσ495 5).trans f447
         have f498:σ494 8=jV x461:=(hσ495 8).trans rfl
         have f499:σ494 10=jV x481:=(hσ495 10).trans rfl
         have f500:σ494 12=.slice A470 x460.length c471:=(hσ495 12).trans rfl
         have f501:σ494 13=.slice A490 x480.length c491:=(hσ495 13).trans rfl
         clear hσ495
         refine rR (wOq (.fx 6 (wQK (.fx 20 (wOr (.fx 27 (.fl 28 (.fl 29 (.fx 30 (.fl 31 (.fl 32 (.nil))) .stop))) .stop)) .stop)) .stop)) Z (oM Z f498 (oM Z f499 (oR Z (Runs.eql Z Z Z) (oM Z Z (ifc hm483 ?_ ?_)))))
         ·intro c502 hm503
          refine zf Z Z Z (wT Z c502) Z f500 (zf Z Z Z (wT Z c502) Z f501 ?_)
          have q:=hS493.freezeR (k:=1) (n:=x460.length) rfl (wAF (f:=KL.encI) (sz:=1) (fun _=>rfl) x460) (by decide)
          obtain ⟨U504,le505,hs506,hS507⟩:=q
          have hS508:sW w U U504 [B16,.blk b114 26 B4,.blk b2 26 B0,.blk b121 58 B10,B13,B14] W487:=hS507
          have q:=hS508.freezeR (k:=0) (n:=x480.length) rfl (wAF (f:=KL.encI) (sz:=1) (fun _=>rfl) x480) (by decide)
          obtain ⟨U509,le510,hs511,hS512⟩:=q
          have hS513:sW w U U509 [.blk b114 26 B4,.blk b2 26 B0,.blk b121 58 B10,B13,B14] W487:=hS512
          have h514:=hs506.le le510
          refine bnK hm503 fun x515 h516 hm517=>zV 0 Z Z Z (wT Z c502) (zW Z Z Tryz.call29 (zK Z (zK Z zh)) Z) hS513 (fun hs=>wBd x460 A470 c471 x480 A490 c491 W487 U509 hs h514 hs511 h516) (.inr Z) ?_
          rintro U518 L519 v520 W521 le522 hS523 ⟨rfl,rfl⟩
          have hS524:sW w U U518 [.blk b114 26 B4,.blk b2 26 B0,.blk b121 58 B10,B13,B14] W521:=hS523
          refine oR Z (zk Z (wED c502.out) Z) (oM Z Z (ifc hm517 ?_ ?_))
          ·intro c525 hm526
           refine zt Z Z Z (zw Z Z (congrArg nE c525.out)) (fun _=>zO Z f497 zL Z zG) (ZA Z Z Z (zw Z Z (congrArg nE c525.out)) (hS524.ldB (j:=0) Z Z Z zQ (v:=jV x95.Laps) Z) Z (zt Z Z Z (zw Z Z (congrArg nE c525.out)) (fun _=>zO Z f496 zL Z zG) (ZA Z Z Z (zw Z Z (congrArg nE c525.out)) (hS524.ldB (j:=1) Z Z Z zQ (v:=jV p0.Laps) Z) Z (zt Z Z Z (zw Z Z (congrArg nE c525.out)) (fun _=>Runs.eql Z Z Z) (oR Z (zk Z (congrArg nE c525.out) Z) (oM Z Z (ifc hm526 ?_ ?_)))))))
           ·intro c527 hm528
            refine rU Z (wT Z c527) (zO Z f497 zL Z zI) (ZA Z Z Z (wT Z c527) (hS524.ldB (j:=0) Z Z Z zJ (v:=.slice A104 x95.Bibs.length c105) Z) Z (rU Z (wT Z c527) (zO Z f496 zL Z zI) (ZA Z Z Z (wT Z c527) (hS524.ldB (j:=1) Z Z Z zJ (v:=.slice pA0_1 p0.Bibs.length pc0_1) Z) Z ?_)))
            have h529:=h456.le le468
            have h530:=h529.le le488
            have h531:=h530.le le505
            have h532:=h531.le le510
            have h533:=h532.le le522
            have h534:=h93.le le102
            have h535:=h534.le le294
            have h536:=h535.le le303
            have h537:=h536.le le308
            have h538:=h537.le le322
            have h539:=h538.le le326
            have h540:=h539.le le331
            have h541:=h540.le le347
            have h542:=h541.le le368
            have h543:=h542.le le386
            have h544:=h543.le le444
            have h545:=h544.le le468
            have h546:=h545.le le488
            have h547:=h546.le le505
            have h548:=h547.le le510
            have h549:=h548.le le522
            refine bnK hm528 fun x550 h551 hm552=>zV 0 Z Z Z (wT Z c527) (zW Z Z Tryz.call29 (zK Z (zK Z zh)) Z) hS524 (fun hs=>wBd x95.Bibs A104 c105 p0.Bibs pA0_1 pc0_1 W521 U518 hs h533 h549 h551) (.inr Z) ?_
            rintro U553 L554 v555 W556 le557 hS558 ⟨rfl,rfl⟩
            have hS559:sW w U U553 [.blk b114 26 B4,.blk b2 26 B0,.blk b121 58 B10,B13,B14] W556:=hS558
            refine oR Z (zk Z (wED c527.out) Z) (oM Z Z (ifc hm552 ?_ ?_))
            ·intro c560 hm561
             refine zt Z Z Z (zw Z Z (congrArg nE c560.out)) (fun _=>zO Z f497 zL Z zm) (ZA Z Z Z (zw Z Z (congrArg nE c560.out)) (hS559.ldB (j:=0) Z Z Z zr (v:=.slice A106 x95.Times.length c107) Z) Z (zt Z Z Z (zw Z Z (congrArg nE c560.out)) (fun _=>zO Z f496 zL Z zm) (ZA Z Z Z (zw Z Z (congrArg nE c560.out)) (hS559.ldB (j:=1) Z Z Z zr (v:=.slice pA0_2 p0.Times.length pc0_2) Z) Z ?_)))
             have h562:=h459.le le468
             have h563:=h562.le le488
             have h564:=h563.le le505
             have h565:=h564.le le510
             have h566:=h565.le le522
             have h567:=h566.le le557
             have h568:=h94.le le102
             have h569:=h568.le le294
             have h570:=h569.le le303
             have h571:=h570.le le308
             have h572:=h571.le le322
             have h573:=h572.le le326
             have h574:=h573.le le331
             have h575:=h574.le le347
             have h576:=h575.le le368
             have h577:=h576.le le386
             have h578:=h577.le le444
             have h579:=h578.le le468
             have h580:=h579.le le488
             have h581:=h580.le le505
             have h582:=h581.le le510
             have h583:=h582.le le522
             have h584:=h583.le le557
             refine bnK hm561 fun x585 h586 hm587=>zV 0 Z Z Z (zw Z Z (congrArg nE c560.out)) (zW Z Z Tryz.call30 (zK Z (zK Z zh)) Z) hS559 (fun hs=>wCk x95.Times A106 c107 p0.Times pA0_2 pc0_2 W556 U553 hs h567 h584 h586) (.inr Z) ?_
             rintro U588 L589 v590 W591 le592 hS593 ⟨rfl,rfl⟩
             have hS594:sW w U U588 [.blk b114 26 B4,.blk b2 26 B0,.blk b121 58 B10,B13,B14] W591:=hS593
             refine oR Z (zk Z (congrArg nE c560.out) Z) (oM Z Z (ifc hm587 ?_ ?_))
             ·intro c595 hm596
              refine bnK hm596 fun x597 h598 hm599=>zV 0 Z Z Z (zw Z Z (congrArg nE c595.out)) (zW Z Z Tryz.call14 zh Z) hS594 (fun hs=>wBS W591 U588 hs h598) (.inr Z) ?_
              rintro U600 L601 v602 W603 le604 hS605 ⟨rfl,rfl⟩
              have hS606:sW w U U600 [.blk b114 26 B4,.blk b2 26 B0,.blk b121 58 B10,B13,B14] W603:=hS605
              refine oR Z (zk Z (congrArg nE c595.out) Z) (oA Z Z (eN (ze ?_)))
              have hE:=nD hm599;first | subst r | cases hE
              exact ⟨rfl,_,(zz rfl),U600,_,(hS606.pick [] _ (by decide) rfl),rfl,rfl⟩
             ·intro c595 hm607
              refine ZW Z Z Z (zo Z Z (congrArg nE (nG.2 c595.out)) Z) (oR Z (zg Z (congrArg nE (nG.2 c595.out)) Z) (oA Z Z (eN (ze ?_))))
              have hE:=nD hm607;first | subst r | cases hE
              exact ⟨rfl,_,(zz rfl),U588,_,(hS594.pick [] _ (by decide) rfl),rfl,rfl⟩
            ·intro c560 hm608
             refine zU Z Z Z (zo Z Z (congrArg nE (nG.2 c560.out)) Z) (zU Z Z Z (zo Z Z (congrArg nE (nG.2 c560.out)) Z) (zU Z Z Z (zo Z Z (congrArg nE (nG.2 c560.out)) Z) (zU Z Z Z (zo Z Z (congrArg nE (nG.2 c560.out)) Z) (ZW Z Z Z (zo Z Z (congrArg nE (nG.2 c560.out)) Z) (oR Z (zg Z (congrArg nE (nG.2 c560.out)) Z) (oM Z Z (ZW Z Z Z (zo Z Z Z Z) (oR Z (zg Z Z Z) (oA Z Z (eN (ze ?_)))))))))))
             have hE:=nD hm608;first | subst r | cases hE
             exact ⟨rfl,_,(zz rfl),U553,_,(hS559.pick [] _ (by decide) rfl),rfl,rfl⟩
           ·intro c527 hm609
            refine oF Z c527 (oF Z c527 (oF Z c527 (oF Z c527 (ZW Z Z Z (zo Z Z (ZL c527.out) Z) (oR Z (zg Z (ZL c527.out) Z) (oM Z Z (oN Z (oN Z (oN Z (oN Z (ZW Z Z Z (zo Z Z Z Z) (oR Z (zg Z Z Z) (oM Z Z (ZW Z Z Z (zo Z Z Z Z) (oR Z (zg Z Z Z) (oA Z Z (eN (ze ?_))))))))))))))))))
            have hE:=nD hm609;first | subst r | cases hE
            exact ⟨rfl,_,(zz rfl),U518,_,(hS524.pick [] _ (by decide) rfl),rfl,rfl⟩
          ·intro c525 hm610
           refine zU Z Z Z (zo Z Z (congrArg nE (nG.2 c525.out)) Z) (zU Z Z Z (zo Z Z (congrArg nE (nG.2 c525.out)) Z) (zU Z Z Z (zo Z Z (congrArg nE (nG.2 c525.out)) Z) (zU Z Z Z (zo Z Z (congrArg nE (nG.2 c525.out)) Z) (zU Z Z Z (zo Z Z (congrArg nE (nG.2 c525.out)) Z) (oR Z (zg Z (congrArg nE (nG.2 c525.out)) Z) (oM Z Z (oN Z (oN Z (oN Z (oN Z (ZW Z Z Z (zo Z Z Z Z) (oR Z (zg Z Z Z) (oM Z Z (oN Z (oN Z (oN Z (oN Z (ZW Z Z Z (zo Z Z Z Z) (oR Z (zg Z Z Z) (oM Z Z (ZW Z Z Z (zo Z Z Z Z) (oR Z (zg Z Z Z) (oA Z Z (eN (ze ?_)))))))))))))))))))))))))
           have hE:=nD hm610;first | subst r | cases hE
           exact ⟨rfl,_,(zz rfl),U518,_,(hS524.pick [] _ (by decide) rfl),rfl,rfl⟩
         ·intro c502 hm611
          refine oF Z c502 (oF Z c502 (ZW Z Z Z (zo Z Z (ZL c502.out) Z) (oR Z (zg Z (ZL c502.out) Z) (oM Z Z (oN Z (oN Z (oN Z (oN Z (oN Z (oR Z (zg Z Z Z) (oM Z Z (oN Z (oN Z (oN Z (oN Z (ZW Z Z Z (zo Z Z Z Z) (oR Z (zg Z Z Z) (oM Z Z (oN Z (oN Z (oN Z (oN Z (ZW Z Z Z (zo Z Z Z Z) (oR Z (zg Z Z Z) (oM Z Z (ZW Z Z Z (zo Z Z Z Z) (oR Z (zg Z Z Z) (oA Z Z (eN (ze ?_))))))))))))))))))))))))))))))
          have hE:=nD hm611;first | subst r | cases hE
          exact ⟨rfl,_,(zz rfl),U484,_,(hS493.pick [] _ (by decide) rfl),rfl,rfl⟩
       ·intro c394 hm612
        refine cT Z c394 (sR fL1 Z (oA Z Z (eN (ze (zR ?_)))))
        have hE:=nD hm612;first | subst r | cases hE
        exact ⟨rfl,_,(zz rfl),U382,_,(hS391.pick [] _ (by decide) rfl),rfl,rfl⟩
      ·intro c392 hm613
       refine oT Z c392 (oT Z c392 (oT Z c392 (oT Z c392 (oT Z c392 (oR Z (zk Z (wED c392.out) Z) (eN (ZI Z (sR fL1 Z (oA Z Z (eN (ze (zR ?_))))))))))))
       have hE:=nD hm613;first | subst r | cases hE
       exact ⟨rfl,_,(zz rfl),U382,_,(hS391.pick [] _ (by decide) rfl),rfl,rfl⟩
     ·intro c350 hm614
      refine cT Z c350 (sR fL1 Z (oA Z Z (eN (ze (zR ?_)))))
      have hE:=nD hm614;first | subst r | cases hE
      exact ⟨rfl,_,(zz rfl),U343,_,(hS349.pick [] _ (by decide) rfl),rfl,rfl⟩
end Go.Proofs.YtbpllbhagaoocaaGreat
