import Derived.Test.YtbpllbhagaoocaaGreatZ7
set_option linter.all false
open List renaming flatMap->nA,getElem_cons_succ->nH,getElem_cons_zero->nI,getElem_toArray->nJ,length_set->nL,set->nN
open Option.some renaming inj->nB
open Go.Value renaming bool->nD
open Prod.mk renaming injEq->nE
open Bool renaming eq_false_iff->nG
open Int renaming toNat_natCast->nK
open Nat renaming blt->nM,le_of_ble_eq_true->nO
namespace Go.Proofs.YtbpllbhagaoocaaGreat
open Go.KL
set_option maxHeartbeats 4000000
theorem Z {α:Type} {a:α}:a=a:=rfl
section
variable {r:Option Nat} {N:Nat} {P:Program} {l:List Oper} {Q:wCF} {D:List Deferred} {ks:List Nat} {σ:Env} {w:World} {i d j e:Nat} {s:Sch} {o:Oper} {b:Bool} {x:Operand} {v:Value} {p:Prop} {inst:Decidable p} {K:List Deferred->Env->World->Prop} {c1 c2:Code}
abbrev jV (n:Int):Value:=.int .i64 n
abbrev SW (w:World) (X:List Res) (U U':PHeap) (L:List Res) (w':World):Prop:=St ⟨w,X,U⟩ U' L w'
abbrev sW (w:World) (U U':PHeap) (L:List Res) (w':World):Prop:=St ⟨w,[],U⟩ U' L w'
abbrev St0 (w:World) (U:PHeap) (L:List Res):Prop:=St ⟨w,L,U⟩ U L w
theorem ifc {α:Type} {G p:Prop} {inst:Decidable p} {a b r:α} (h:@ite α p inst a b=r) (h1:Hid p->a=r->G) (h2:Hid (¬ p)->b=r->G):G:=by
 by_cases c:p
 · rw [if_pos c] at h;exact h1 ⟨c⟩ h
 · rw [if_neg c] at h;exact h2 ⟨c⟩ h
theorem bnK {α β:Type} {G:Prop} {o:Option α} {f:α->Option β} {r:β} (h:o.bind f=some r) (k:∀ x,o=some x->f x=some r->G):G:=by
 obtain ⟨x,h1,h2⟩:=bnd h
 exact k x h1 h2
theorem oR (h:(l[i]?,o.dst,nM d N,wanted l σ o)=(some o,some d,true,true)) (hr:∀ {w'},Runs P σ w' o v w') (k:OKS N P l Q D ks s (upd σ d v) w):OKS N P l Q D ks (.fl i s) σ w:=by
 simp only [nE] at h;exact OKS.r h.1 h.2.1 h.2.2.1 h.2.2.2 (fun _=>hr) k
theorem oL (h:(l[i]?,o.dst,nM d N,wanted l σ o,wOV (kOf ks i))=(some o,some d,true,true,false)) (hr:wDW P σ w o v) (k:OKS N P l Q D ks s (upd σ d v) w):OKS N P l Q D ks (.fl i s) σ w:=by
 simp only [nE] at h;exact OKS.m h.1 h.2.1 h.2.2.1 h.2.2.2.1 hr h.2.2.2.2 k
theorem oM (h:(l[i]?,o.dst,nM d N,wanted l σ o,o.op)=(some o,some d,true,true,.move x)) (hx:ev σ x=v) (k:OKS N P l Q D ks s (upd σ d v) w):OKS N P l Q D ks (.fl i s) σ w:=by
 simp only [nE] at h;exact OKS.rm h.1 h.2.1 h.2.2.1 h.2.2.2.1 h.2.2.2.2 hx k
theorem oA (h:(l[i]?,o.dst,nM d N,wanted l σ o,o.op)=(some o,some d,true,true,.assign x)) (hx:ev σ x=v) (k:OKS N P l Q D ks s (upd σ d v) w):OKS N P l Q D ks (.fl i s) σ w:=by
 simp only [nE] at h;exact OKS.ra h.1 h.2.1 h.2.2.1 h.2.2.2.1 h.2.2.2.2 hx k
theorem oF (h:(l[i]?,o.dst,nM d N,o.guard,(l[j]?).bind (·.dst),σ e,false == b)=(some o,some d,true,some (j,b),some e,.bool (decide p),false)) (c:Hid (¬ p)) (k:OKS N P l Q D ks s (upd σ d undef) w):OKS N P l Q D ks (.fl i s) σ w:=by
 simp only [nE] at h;exact OKS.p h.1 h.2.1 h.2.2.1 (wEp h.2.2.2.1 h.2.2.2.2.1 (h.2.2.2.2.2.1.trans (wOU c.out)) h.2.2.2.2.2.2) k
theorem oT (h:(l[i]?,o.dst,nM d N,o.guard,(l[j]?).bind (·.dst),σ e,true == b)=(some o,some d,true,some (j,b),some e,.bool (decide p),false)) (c:Hid p) (k:OKS N P l Q D ks s (upd σ d undef) w):OKS N P l Q D ks (.fl i s) σ w:=by
 simp only [nE] at h;exact OKS.p h.1 h.2.1 h.2.2.1 (wEp h.2.2.2.1 h.2.2.2.2.1 (h.2.2.2.2.2.1.trans (wOT c.out)) h.2.2.2.2.2.2) k
theorem oN {b2:Bool} (h:(l[i]?,o.dst,nM d N,o.guard,(l[j]?).bind (·.dst),σ e,b2 == b)=(some o,some d,true,some (j,b),some e,.bool b2,false)) (k:OKS N P l Q D ks s (upd σ d undef) w):OKS N P l Q D ks (.fl i s) σ w:=by
 simp only [nE] at h;exact OKS.p h.1 h.2.1 h.2.2.1 (wEp h.2.2.2.1 h.2.2.2.2.1 h.2.2.2.2.2.1 h.2.2.2.2.2.2) k
theorem nC {a b:Bool} (h:a=b):nD (!a)=nD (!b):=h ▸ rfl
theorem nF {a:Bool} (h:¬ a=true):nD (!a)=nD (!false):=nC (nG.2 h)
theorem wT (h:(o.guard,(l[j]?).bind (·.dst),σ e)=(some (j,true),some e,.bool (decide p))) (c:Hid p):wanted l σ o=true:=by
 simp only [nE] at h;exact wGC h.1 h.2.1 (h.2.2.trans (wOT c.out))
theorem wF (h:(o.guard,(l[j]?).bind (·.dst),σ e)=(some (j,false),some e,.bool (decide p))) (c:Hid (¬ p)):wanted l σ o=true:=by
 simp only [nE] at h;exact wGC h.1 h.2.1 (h.2.2.trans (wOU c.out))
theorem rU (h:(l[i]?,o.dst,nM d N)=(some o,some d,true)) (hw:wanted l σ o=true) (hr:∀ {w'},Runs P σ w' o v w') (k:OKS N P l Q D ks s (upd σ d v) w):OKS N P l Q D ks (.fl i s) σ w:=by
 simp only [nE] at h;exact OKS.r h.1 h.2.1 h.2.2 hw (fun _=>hr) k
theorem sR {id:Nat} (s:Sch) (hs:inOrder 0 s l.length=true) (h:OKS N P l (wEB (fun D σ w=>CK r N P c2 Q D σ w) Q) D [] s σ w):CK r N P (.seq (.region id l.toArray false) c2) Q D σ w:=CK.seq (CK.reg s hs h)
theorem rR {id:Nat} (s:Sch) (hs:inOrder 0 s l.length=true) (h:OKS N P l Q D [] s σ w):CK r N P (.region id l.toArray false) Q D σ w:=CK.reg s hs h
theorem eN (h:K D σ w):OKS N P l (wEB K Q) D ks .nil σ w:=OKS.e (wFy h)
theorem cT (hz:ev σ x=.bool (decide p)) (c:Hid p) (h:CK r N P c1 Q D σ w):CK r N P (.cond x c1 c2) Q D σ w:=CK.condT (hz.trans (wOT c.out)) h
theorem cF (hz:ev σ x=.bool (decide p)) (c:Hid (¬ p)) (h:CK r N P c2 Q D σ w):CK r N P (.cond x c1 c2) Q D σ w:=CK.condF (hz.trans (wOU c.out)) h
theorem kN (h:K D σ w):CK r N P .skip (wEB K Q) D σ w:=CK.skip (wFy h)
end
def fL1:Sch:=.fl 0 (.nil)
def fL2:Sch:=.fl 0 (.fl 1 (.nil))
def fL3:Sch:=.fl 0 (.fl 1 (.fl 2 (.nil)))
def fL4:Sch:=.fl 0 (.fl 1 (.fl 2 (.fl 3 (.nil))))
def fL5:Sch:=.fl 0 (.fl 1 (.fl 2 (.fl 3 (.fl 4 (.nil)))))
def fL6:Sch:=.fl 0 (.fl 1 (.fl 2 (.fl 3 (.fl 4 (.fl 5 (.nil))))))
def fL7:Sch:=.fl 0 (.fl 1 (.fl 2 (.fl 3 (.fl 4 (.fl 5 (.fl 6 (.nil)))))))
def fL8:Sch:=.fl 0 (.fl 1 (.fl 2 (.fl 3 (.fl 4 (.fl 5 (.fl 6 (.fl 7 (.nil))))))))
def fL9:Sch:=.fl 0 (.fl 1 (.fl 2 (.fl 3 (.fl 4 (.fl 5 (.fl 6 (.fl 7 (.fl 8 (.nil)))))))))
def fL10:Sch:=.fl 0 (.fl 1 (.fl 2 (.fl 3 (.fl 4 (.fl 5 (.fl 6 (.fl 7 (.fl 8 (.fl 9 (.nil))))))))))
def fL11:Sch:=.fl 0 (.fl 1 (.fl 2 (.fl 3 (.fl 4 (.fl 5 (.fl 6 (.fl 7 (.fl 8 (.fl 9 (.fl 10 (.nil)))))))))))
def fL14:Sch:=.fl 0 (.fl 1 (.fl 2 (.fl 3 (.fl 4 (.fl 5 (.fl 6 (.fl 7 (.fl 8 (.fl 9 (.fl 10 (.fl 11 (.fl 12 (.fl 13 (.nil))))))))))))))
def fL18:Sch:=.fl 0 (.fl 1 (.fl 2 (.fl 3 (.fl 4 (.fl 5 (.fl 6 (.fl 7 (.fl 8 (.fl 9 (.fl 10 (.fl 11 (.fl 12 (.fl 13 (.fl 14 (.fl 15 (.fl 16 (.fl 17 (.nil))))))))))))))))))
def fL21:Sch:=.fl 0 (.fl 1 (.fl 2 (.fl 3 (.fl 4 (.fl 5 (.fl 6 (.fl 7 (.fl 8 (.fl 9 (.fl 10 (.fl 11 (.fl 12 (.fl 13 (.fl 14 (.fl 15 (.fl 16 (.fl 17 (.fl 18 (.fl 19 (.fl 20 (.nil)))))))))))))))))))))
def fL22:Sch:=.fl 0 (.fl 1 (.fl 2 (.fl 3 (.fl 4 (.fl 5 (.fl 6 (.fl 7 (.fl 8 (.fl 9 (.fl 10 (.fl 11 (.fl 12 (.fl 13 (.fl 14 (.fl 15 (.fl 16 (.fl 17 (.fl 18 (.fl 19 (.fl 20 (.fl 21 (.nil))))))))))))))))))))))
def fL27:Sch:=.fl 0 (.fl 1 (.fl 2 (.fl 3 (.fl 4 (.fl 5 (.fl 6 (.fl 7 (.fl 8 (.fl 9 (.fl 10 (.fl 11 (.fl 12 (.fl 13 (.fl 14 (.fl 15 (.fl 16 (.fl 17 (.fl 18 (.fl 19 (.fl 20 (.fl 21 (.fl 22 (.fl 23 (.fl 24 (.fl 25 (.fl 26 (.nil)))))))))))))))))))))))))))
def fL30:Sch:=.fl 0 (.fl 1 (.fl 2 (.fl 3 (.fl 4 (.fl 5 (.fl 6 (.fl 7 (.fl 8 (.fl 9 (.fl 10 (.fl 11 (.fl 12 (.fl 13 (.fl 14 (.fl 15 (.fl 16 (.fl 17 (.fl 18 (.fl 19 (.fl 20 (.fl 21 (.fl 22 (.fl 23 (.fl 24 (.fl 25 (.fl 26 (.fl 27 (.fl 28 (.fl 29 (.nil))))))))))))))))))))))))))))))
def fL53:Sch:=.fl 0 (.fl 1 (.fl 2 (.fl 3 (.fl 4 (.fl 5 (.fl 6 (.fl 7 (.fl 8 (.fl 9 (.fl 10 (.fl 11 (.fl 12 (.fl 13 (.fl 14 (.fl 15 (.fl 16 (.fl 17 (.fl 18 (.fl 19 (.fl 20 (.fl 21 (.fl 22 (.fl 23 (.fl 24 (.fl 25 (.fl 26 (.fl 27 (.fl 28 (.fl 29 (.fl 30 (.fl 31 (.fl 32 (.fl 33 (.fl 34 (.fl 35 (.fl 36 (.fl 37 (.fl 38 (.fl 39 (.fl 40 (.fl 41 (.fl 42 (.fl 43 (.fl 44 (.fl 45 (.fl 46 (.fl 47 (.fl 48 (.fl 49 (.fl 50 (.fl 51 (.fl 52 (.nil)))))))))))))))))))))))))))))))))))))))))))))))))))))
def wLU (s:Sch):Sch:=.fl 0 (.fl 1 (.fl 2 (s)))
def wOI (s:Sch):Sch:=.fl 0 (.fl 1 (.fl 2 (.fl 3 (s))))
def wMP (s:Sch):Sch:=.fl 0 (.fl 1 (.fl 2 (.fl 3 (.fl 4 (s)))))
def wMQ (s:Sch):Sch:=.fl 0 (.fl 1 (.fl 2 (.fl 3 (.fl 4 (.fl 5 (s))))))
def wPV (s:Sch):Sch:=.fl 0 (.fl 1 (.fl 2 (.fl 3 (.fl 4 (.fl 5 (.fl 6 (s)))))))
def fC0_7 (s:Sch):Sch:=.fl 0 (.fl 1 (.fl 2 (.fl 3 (.fl 4 (.fl 5 (.fl 6 (.fl 7 (s))))))))
def fC0_8 (s:Sch):Sch:=.fl 0 (.fl 1 (.fl 2 (.fl 3 (.fl 4 (.fl 5 (.fl 6 (.fl 7 (.fl 8 (s)))))))))
def wPW (s:Sch):Sch:=.fl 0 (.fl 1 (.fl 2 (.fl 3 (.fl 4 (.fl 5 (.fl 6 (.fl 7 (.fl 8 (.fl 9 (.fl 10 (.fl 11 (.fl 12 (s)))))))))))))
def wPX (s:Sch):Sch:=.fl 0 (.fl 1 (.fl 2 (.fl 3 (.fl 4 (.fl 5 (.fl 6 (.fl 7 (.fl 8 (.fl 9 (.fl 10 (.fl 11 (.fl 12 (.fl 13 (.fl 14 (s)))))))))))))))
def wPY (s:Sch):Sch:=.fl 0 (.fl 1 (.fl 2 (.fl 3 (.fl 4 (.fl 5 (.fl 6 (.fl 7 (.fl 8 (.fl 9 (.fl 10 (.fl 11 (.fl 12 (.fl 13 (.fl 14 (.fl 15 (.fl 16 (.fl 17 (.fl 18 (.fl 19 (.fl 20 (.fl 21 (.fl 22 (.fl 23 (.fl 24 (.fl 25 (.fl 26 (.fl 27 (.fl 28 (.fl 29 (.fl 30 (.fl 31 (s))))))))))))))))))))))))))))))))
def wLV (s:Sch):Sch:=.fl 2 (.fl 3 (.fl 4 (.fl 5 (.fl 6 (s)))))
def fC3_6 (s:Sch):Sch:=.fl 3 (.fl 4 (.fl 5 (.fl 6 (s))))
def wPZ (s:Sch):Sch:=.fl 3 (.fl 4 (.fl 5 (.fl 6 (.fl 7 (.fl 8 (.fl 9 (.fl 10 (.fl 11 (.fl 12 (.fl 13 (.fl 14 (.fl 15 (.fl 16 (.fl 17 (.fl 18 (.fl 19 (.fl 20 (.fl 21 (.fl 22 (s))))))))))))))))))))
def fC4_6 (s:Sch):Sch:=.fl 4 (.fl 5 (.fl 6 (s)))
def fC5_7 (s:Sch):Sch:=.fl 5 (.fl 6 (.fl 7 (s)))
def fC5_8 (s:Sch):Sch:=.fl 5 (.fl 6 (.fl 7 (.fl 8 (s))))
def fC6_9 (s:Sch):Sch:=.fl 6 (.fl 7 (.fl 8 (.fl 9 (s))))
def wPa (s:Sch):Sch:=.fl 7 (.fl 8 (.fl 9 (.fl 10 (.fl 11 (.fl 12 (.fl 13 (.fl 14 (.fl 15 (.fl 16 (.fl 17 (.fl 18 (.fl 19 (.fl 20 (.fl 21 (.fl 22 (.fl 23 (.fl 24 (.fl 25 (.fl 26 (.fl 27 (.fl 28 (.fl 29 (.fl 30 (.fl 31 (.fl 32 (.fl 33 (.fl 34 (.fl 35 (.fl 36 (.fl 37 (.fl 38 (.fl 39 (.fl 40 (.fl 41 (.fl 42 (.fl 43 (.fl 44 (.fl 45 (s)))))))))))))))))))))))))))))))))))))))
def wPb (s:Sch):Sch:=.fl 8 (.fl 9 (.fl 10 (s)))
def wOJ (s:Sch):Sch:=.fl 24 (.fl 25 (.fl 26 (s)))
def wOK (s:Sch):Sch:=.fl 33 (.fl 34 (.fl 35 (s)))
theorem zA:type_of% @Tryz.runUnderlying23:=@Tryz.runUnderlying23
theorem zB:type_of% @Tryz.sizeOf3:=@Tryz.sizeOf3
theorem zC:type_of% @OKS.p:=@OKS.p
theorem zD:type_of% @Tryz.runUnderlying26:=@Tryz.runUnderlying26
theorem zF:type_of% @Tryz.sizeOf23:=@Tryz.sizeOf23
theorem zG:type_of% @Hid.mk:=@Hid.mk
theorem zH:type_of% @Tryz.runUnderlying24:=@Tryz.runUnderlying24
theorem zI:type_of% @PHeap.Le.refl:=@PHeap.Le.refl
theorem zJ:type_of% @wJX:=@wJX
theorem zK:type_of% @wFy:=@wFy
theorem zL:type_of% @CK.seq:=@CK.seq
theorem zM:type_of% @wJY:=@wJY
theorem zN:type_of% @Tryz.isAgg3:=@Tryz.isAgg3
theorem zO:type_of% @Runs.fa:=@Runs.fa
theorem zP:type_of% @wGC:=@wGC
theorem zQ:type_of% @OKS.rm:=@OKS.rm
theorem zR:type_of% @Tryz.isAgg23:=@Tryz.isAgg23
theorem zS:type_of% @wIC:=@wIC
theorem zU:type_of% @Runs.addw:=@Runs.addw
theorem zV:type_of% @Runs.lss:=@Runs.lss
theorem zW:type_of% @OKS.buildSlice:=@OKS.buildSlice
theorem zX:type_of% @Tryz.isAgg24:=@Tryz.isAgg24
theorem zY:type_of% @CK.ret:=@CK.ret
theorem zZ:type_of% @OKS.r:=@OKS.r
theorem zd:type_of% @Enters.mk:=@Enters.mk
theorem ze:type_of% @Runs.pickT:=@Runs.pickT
theorem zf:type_of% @CK.block:=@CK.block
theorem zg:type_of% @Runs.pickF:=@Runs.pickF
theorem zh:type_of% @Tryz.runUnderlying38:=@Tryz.runUnderlying38
theorem zj:type_of% @OKS.callH:=@OKS.callH
theorem zk:type_of% @OKS.both:=@OKS.both
theorem zm:type_of% @nO:=@nO
theorem zn:type_of% @wEp:=@wEp
theorem zo:type_of% @Runs.iaN:=@Runs.iaN
theorem zq:type_of% @wJW:=@wJW
theorem zr:type_of% @wMR:=@wMR
theorem zt:type_of% @wIB:=@wIB
theorem zu:type_of% @Tryz.zeroValue3:=@Tryz.zeroValue3
theorem zw:type_of% @OKS.cutD:=@OKS.cutD
theorem zx:type_of% @Tryz.runUnderlying78:=@Tryz.runUnderlying78
theorem zy:type_of% @Runs.len:=@Runs.len
theorem zz:type_of% @Tryz.underlying23:=@Tryz.underlying23
theorem ZA:type_of% @OKS.e:=@OKS.e
theorem ZB:type_of% @OKS.m:=@OKS.m
theorem ZC:type_of% @res1:=@res1
theorem ZD:type_of% @Runs.to:=@Runs.to
theorem ZE:type_of% @OKS.mx2:=@OKS.mx2
theorem ZF:type_of% @Tryz.sizeOf26:=@Tryz.sizeOf26
theorem ZG:type_of% @Runs.nilp:=@Runs.nilp
theorem ZH:type_of% @Tryz.sizeOf24:=@Tryz.sizeOf24
theorem ZI:type_of% @Tryz.runUnderlying30:=@Tryz.runUnderlying30
theorem ZJ:type_of% @Tryz.zeroValue23:=@Tryz.zeroValue23
theorem ZK:type_of% @wOU:=@wOU
theorem ZL:type_of% @Tryz.runUnderlying72:=@Tryz.runUnderlying72
theorem ZM:type_of% @CK.condT:=@CK.condT
theorem ZN:type_of% @CK.condF:=@CK.condF
theorem ZO:type_of% @wFz:=@wFz
theorem ZP:type_of% @Tryz.sizeOf38:=@Tryz.sizeOf38
theorem ZQ:type_of% @CK.skip:=@CK.skip
theorem ZR:type_of% @CK.exit:=@CK.exit
theorem ZS:type_of% @OKS.append:=@OKS.append
theorem ZT:type_of% @Tryz.runUnderlying76:=@Tryz.runUnderlying76
theorem ZU:type_of% @wOT:=@wOT
theorem ZV:type_of% @Runs.iaI:=@Runs.iaI
theorem ZW:type_of% @Tryz.mixed:=@Tryz.mixed
theorem ZX:type_of% @Runs.notT:=@Runs.notT
theorem ZY:type_of% @Tryz.isAgg26:=@Tryz.isAgg26
theorem Za:type_of% @Runs.ext:=@Runs.ext
theorem Zb:type_of% @CK.anyOrd:=@CK.anyOrd
theorem Zc:type_of% @OKS.alloc:=@OKS.alloc
theorem Zd:type_of% @CK.forN:=@CK.forN
theorem Ze:type_of% @OKS.makeSlice:=@OKS.makeSlice
theorem Zf:type_of% @Tryz.zeroValue26:=@Tryz.zeroValue26
theorem Zg:type_of% @Tryz.isAgg73:=@Tryz.isAgg73
theorem Zh:type_of% @OKS.box:=@OKS.box
end Go.Proofs.YtbpllbhagaoocaaGreat
namespace Go.Proofs.YtbpllbhagaoocaaGreat
open Go.KL
set_option maxHeartbeats 4000000
theorem wFS (p0:List Int) (pA0:Option Addr) (pc0:Nat) (w:World) (U:PHeap) (hS:St0 w U []) (ha0:Sl U 1 pA0 pc0 p0.length (nA KL.encB8 p0)) {r:wAB} (hm:wCL p0=some r):Gv Tryz.prog 7 [.slice pA0 p0.length pc0] w (wCO w [] U (fun U_ L_ v=>∃ (b0:Nat) (A0p0:Option Addr) (c0p0:Nat),v=.pointer (some ⟨b0,0,none⟩)/\L_=[.blk b0 72 [.slice A0p0 r.bytes.length c0p0,jV r.next,.int .u32 r.state]]/\Sl U_ 1 A0p0 c0p0 r.bytes.length (nA KL.encB8 r.bytes))):=by
 unfold wCL at hm
 refine Gv.of Tryz.func7 Z Tryz.ntmps7 Tryz.results7 Z (sR fL1 Z (oA Z Z (eN (sR (.fl 0 (.fl 1 (.fx 2 (.fl 3 (.nil)) .stop))) Z (oM Z Z ?_)))))
 let B0:List Value:=[.slice pA0 p0.length pc0,jV 0,.int .u32 17]
 refine zZ rfl rfl rfl rfl (fun _=>Runs.build (pv:=[(0,.slice pA0 p0.length pc0),(2,.int .u32 17)]) (z:=[.slice none 0 0,jV 0,.int .u32 0]) (cs:=B0) rfl (wAL rfl (wAL rfl wAT)) Tryz.zeroValue72 wMC rfl rfl) (Zh (cs:=B0) rfl rfl rfl rfl rfl rfl (by rfl) hS ?_)
 intro W1 b2 hS3
 refine oA Z Z (eN (zY ?_))
 cases hm
 exact ⟨Z,_,(ZC Z),U,_,hS3,b2,pA0,pc0,Z,Z,ha0⟩
theorem wAo (p0:wAB) (pb0:Nat) (pA0_0:Option Addr) (pc0_0:Nat) (p1:Int) (w:World) (U:PHeap) (hS:St0 w U [.blk pb0 72 [.slice pA0_0 p0.bytes.length pc0_0,jV p0.next,.int .u32 p0.state]]) (ha0:Sl U 1 pA0_0 pc0_0 p0.bytes.length (nA KL.encB8 p0.bytes)) {r:Int × wAB} (hm:wAJ p0 p1=some r):Gv Tryz.prog 31 [.pointer (some ⟨pb0,0,none⟩),jV p1] w (wCO w [.blk pb0 72 [.slice pA0_0 p0.bytes.length pc0_0,jV p0.next,.int .u32 p0.state]] U (fun U_ L_ v=>∃ (Ao00:Option Addr) (co00:Nat),v=jV r.1/\L_=[.blk pb0 72 [.slice Ao00 r.2.bytes.length co00,jV r.2.next,.int .u32 r.2.state]]/\Sl U_ 1 Ao00 co00 r.2.bytes.length (nA KL.encB8 r.2.bytes))):=by
 unfold wAJ at hm
 refine Gv.of Tryz.func31 Z Tryz.ntmps31 Tryz.results31 Z (sR fL1 Z (oA Z Z (eN (zL (sR fL10 Z (oM Z Z (oR Z (Runs.leq Z Z Z) (oM Z Z ?_))))))))
 by_cases c2:p1 <= 1
 ·have hm3:=hm;rw [if_pos c2] at hm3;replace c2:=zG c2
  refine oT Z c2 (oT Z c2 (oT Z c2 (oT Z c2 (oT Z c2 (oT Z c2 (oR Z (ze Z (ZU c2.out) Z) (eN (ZM Z (sR fL1 Z (oA Z Z (eN (zY (zJ ?_)))))))))))))
  cases hm3
  exact ⟨Z,_,(ZC Z),U,_,hS,pA0_0,pc0_0,Z,Z,ha0⟩
 ·have hm4:=hm;rw [if_neg c2] at hm4;replace c2:=zG c2
  refine zQ Z Z Z (wF Z c2) Z Z (rU Z (wF Z c2) (ZG Z Z) (rU Z (wF Z c2) (zO Z Z ZL Z Tryz.sizeOf22) (ZB Z Z Z (wF Z c2) (hS.ldB (j:=0) Z Z Z Tryz.isAgg22 (v:=.slice pA0_0 p0.bytes.length pc0_0) Z) Z (rU Z (wF Z c2) (zy Z Z Tryz.runUnderlying22) (rU Z (wF Z c2) (Runs.eql Z Z Z) (oR Z (zg Z (ZK c2.out) Z) (eN (ifc hm4 ?_ ?_))))))))
  ·intro c5 hm6
   refine cT Z c5 (sR fL1 Z (oA Z Z (eN (zY (zJ ?_)))))
   cases hm6
   exact ⟨Z,_,(ZC Z),U,_,hS,pA0_0,pc0_0,Z,Z,ha0⟩
  ·intro c5 hm7
   refine cF Z c5 (kN (zL (Zb ZW [3,3,3,1,3,3,3,1,3,3,3,1,3,3,3,1,3,3,3,3,1,3,3,3,1,3,3,3,3,3] fL30 (by kernel_rfl) ?_)))
   have hS8:=hS.drew
   generalize hw_W9:({ w with drawn:=w.drawn + 1 }:World)=W9 at hS8 ⊢
   refine oM Z Z (oR Z (ZG Z Z) (oR Z (zO Z Z ZL Z Tryz.sizeOf22) (oL Z (hS8.ldB (j:=0) Z Z Z Tryz.isAgg22 (v:=.slice pA0_0 p0.bytes.length pc0_0) Z) (oM Z Z (oR Z (ZG Z Z) (oR Z (zO Z Z ZL Z zB) (oL Z (hS8.ldB (j:=0) Z Z Z zN (v:=jV p0.next) Z) (oM Z Z (oR Z (ZG Z Z) (oR Z (zO Z Z ZL Z Tryz.sizeOf22) (oL Z (hS8.ldB (j:=0) Z Z Z Tryz.isAgg22 (v:=.slice pA0_0 p0.bytes.length pc0_0) Z) (oR Z (zy Z Z Tryz.runUnderlying22) (bnK hm7 fun x10 h11 hm12=>oR Z (Runs.rem Z Z Z h11) (bnK hm12 fun x13 h14 hm15=>?_))))))))))))))
   have q:=ha0.el (fun _=>rfl) (wAP h14)
   obtain ⟨b16,off17,hA18,hC19⟩:=q
   refine oR Z (ZV Z Z hA18 Z Tryz.runUnderlying22 Tryz.sizeOf5 (wCr h14) (wCy h14)) (oL Z (hS8.ldC (f:=0) hC19 (v:=.int .u8 x13) Z Z Tryz.isAgg5 Z) (oR Z (Runs.cvu Z Z Tryz.runUnderlying5 Tryz.runUnderlying70 Z Z) (oM Z Z (oR Z (ZG Z Z) (oR Z (zO Z Z ZL Z zB) (oL Z (hS8.ldB (j:=0) Z Z Z zN (v:=jV p0.next) Z) (oM Z Z (oR Z (ZG Z Z) (oR Z (zO Z Z ZL Z Tryz.sizeOf22) (oL Z (hS8.ldB (j:=0) Z Z Z Tryz.isAgg22 (v:=.slice pA0_0 p0.bytes.length pc0_0) Z) (oR Z (zy Z Z Tryz.runUnderlying22) (bnK hm15 fun x20 h21 hm22=>oR Z (Runs.quo Z Z Z h21) (oR Z (Runs.cvu Z Z Tryz.runUnderlying3 Tryz.runUnderlying70 Z Z) (oA Z Z (oA Z Z (eN (zL (CK.fresh fun σ23 hσ24=>?_))))))))))))))))))
   have f25:σ23 0=.pointer (some ⟨pb0,0,none⟩):=(hσ24 0).trans rfl
   have f26:σ23 1=jV p1:=(hσ24 1).trans rfl
   have f27:σ23 5=.int .u32 (wCw x13):=(hσ24 5).trans rfl
   have f28:σ23 6=.int .u32 (wCw x20):=(hσ24 6).trans rfl
   clear hσ24
   refine rR (wPV (.fx 7 (.nil) .stop)) Z (oM Z f25 (oR Z (ZG Z Z) (oR Z (zO Z Z ZL Z zB) (oL Z (hS8.ldB (j:=0) Z Z Z zN (v:=jV p0.next) Z) (oR Z (zU Z Z Z) (oR Z (ZG Z Z) (oR Z (zO Z Z ZL Z zB) (OKS.st (j:=0) (vs:=[jV (w64 (p0.next + 1))]) Z Z Z Z hS8 Z Z Z Z zB (zm Z) Z Z Z ?_))))))))
   intro W29 hS30
   let B0:Res:=.blk pb0 72 [.slice pA0_0 p0.bytes.length pc0_0,jV p0.next,.int .u32 p0.state]
   have hS31:SW w [B0] U U [.blk pb0 72 [.slice pA0_0 p0.bytes.length pc0_0,jV (w64 (p0.next + 1)),.int .u32 p0.state]] W29:=hS30
   refine eN (sR (wPX (.fx 15 (.nil) .stop)) Z (oM Z f25 (oM Z f25 (oR Z (ZG Z Z) (oR Z (zO Z Z ZL Z Tryz.sizeOf70) (oL Z (hS31.ldB (j:=0) Z Z Z Tryz.isAgg70 (v:=.int .u32 p0.state) Z) (oR Z (Runs.mulu Z Z Z) (oM Z f27 (oR Z (Runs.addu Z Z Z) (oM Z f28 (oR Z (Runs.mulu Z Z Z) (oR Z (Runs.addu Z Z Z) (oR Z (Runs.addu Z Z Z) (bnK hm22 fun x32 h33 hm34=>oR Z (Runs.rem Z Z Z h33) (oR Z (ZG Z Z) (oR Z (zO Z Z ZL Z Tryz.sizeOf70) (OKS.st (j:=0) (vs:=[.int .u32 x32]) Z Z Z Z hS31 Z Z Z Z Tryz.sizeOf70 (zm Z) Z Z Z ?_)))))))))))))))))
   intro W35 hS36
   have hS37:SW w [B0] U U [.blk pb0 72 [.slice pA0_0 p0.bytes.length pc0_0,jV (w64 (p0.next + 1)),.int .u32 x32]] W35:=hS36
   refine eN (zL (sR fL6 Z (oM Z f28 (oR Z (Runs.eql Z Z Z) (oM Z Z (ifc hm34 ?_ ?_))))))
   ·intro c38 hm39
    refine zQ Z Z Z (wT Z c38) Z f26 (rU Z (wT Z c38) (Runs.leq Z Z Z) (oR Z (ze Z (ZU c38.out) Z) (eN (ifc hm39 ?_ ?_))))
    ·intro c40 hm41
     refine cT Z c40 (sR fL5 Z (oM Z f27 (oR Z (Runs.cvw Z Z Tryz.runUnderlying70 Tryz.runUnderlying3 Z Z) (oM Z f26 (bnK hm41 fun x42 h43 hm44=>oR Z (Runs.rem Z Z Z h43) (oA Z Z (eN (zY (zJ ?_)))))))))
     cases hm44
     exact ⟨Z,_,(ZC Z),U,_,hS37,pA0_0,pc0_0,Z,Z,ha0⟩
    ·intro c40 hm45
     refine cF Z c40 (kN (sR fL11 Z (oM Z f25 (oR Z (ZG Z Z) (oR Z (zO Z Z ZL Z Tryz.sizeOf70) (oL Z (hS37.ldB (j:=0) Z Z Z Tryz.isAgg70 (v:=.int .u32 x32) Z) (oR Z (Runs.mulu Z Z Z) (oM Z f27 (oR Z (Runs.addu Z Z Z) (oR Z (Runs.cvw Z Z Tryz.runUnderlying70 Tryz.runUnderlying3 Z Z) (oM Z f26 (bnK hm45 fun x46 h47 hm48=>oR Z (Runs.rem Z Z Z h47) (oA Z Z (eN (zY ?_)))))))))))))))
     cases hm48
     exact ⟨Z,_,(ZC Z),U,_,hS37,pA0_0,pc0_0,Z,Z,ha0⟩
   ·intro c38 hm49
    refine oF Z c38 (oF Z c38 (oR Z (zg Z (ZK c38.out) Z) (eN (ZN Z (kN (sR fL11 Z (oM Z f25 (oR Z (ZG Z Z) (oR Z (zO Z Z ZL Z Tryz.sizeOf70) (oL Z (hS37.ldB (j:=0) Z Z Z Tryz.isAgg70 (v:=.int .u32 x32) Z) (oR Z (Runs.mulu Z Z Z) (oM Z f27 (oR Z (Runs.addu Z Z Z) (oR Z (Runs.cvw Z Z Tryz.runUnderlying70 Tryz.runUnderlying3 Z Z) (oM Z f26 (bnK hm49 fun x50 h51 hm52=>oR Z (Runs.rem Z Z Z h51) (oA Z Z (eN (zY ?_)))))))))))))))))))
    cases hm52
    exact ⟨Z,_,(ZC Z),U,_,hS37,pA0_0,pc0_0,Z,Z,ha0⟩
theorem wAR (p0:wAB) (pb0:Nat) (pA0_0:Option Addr) (pc0_0:Nat) (p1:Int) (p2:Int) (w:World) (U:PHeap) (hS:St0 w U [.blk pb0 72 [.slice pA0_0 p0.bytes.length pc0_0,jV p0.next,.int .u32 p0.state]]) (ha0:Sl U 1 pA0_0 pc0_0 p0.bytes.length (nA KL.encB8 p0.bytes)) {r:Int × wAB} (hm:wAI p0 p1 p2=some r):Gv Tryz.prog 15 [.pointer (some ⟨pb0,0,none⟩),jV p1,jV p2] w (wCO w [.blk pb0 72 [.slice pA0_0 p0.bytes.length pc0_0,jV p0.next,.int .u32 p0.state]] U (fun U_ L_ v=>∃ (Ao00:Option Addr) (co00:Nat),v=jV r.1/\L_=[.blk pb0 72 [.slice Ao00 r.2.bytes.length co00,jV r.2.next,.int .u32 r.2.state]]/\Sl U_ 1 Ao00 co00 r.2.bytes.length (nA KL.encB8 r.2.bytes))):=by
 unfold wAI at hm
 refine Gv.of Tryz.func15 Z Tryz.ntmps15 Tryz.results15 Z (sR fL1 Z (oA Z Z (eN (sR (wMQ (.fx 6 (.fl 7 (.fl 8 (.nil))) .stop)) Z (oM Z Z (oM Z Z (oM Z Z (oM Z Z (oR Z (Runs.subw Z Z Z) (oR Z (zU Z Z Z) ?_))))))))))
 have q:=bnd hm
 obtain ⟨⟨x2,x3⟩,h4,hm5⟩:=q
 try dsimp only at hm5
 refine zj 1 Z Z Z Z (zd Z Z Tryz.call31 (zM Z (zM Z zr)) Z) hS (fun hs=>wAo p0 pb0 pA0_0 pc0_0 (w64 ((w64 (p2 - p1)) + 1)) w U hs ha0 h4) (.inl Z) ?_
 rintro U6 L7 v8 W9 le10 hS11 ⟨A12,c13,rfl,rfl,h14⟩
 have hS15:SW w [.blk pb0 72 [.slice pA0_0 p0.bytes.length pc0_0,jV p0.next,.int .u32 p0.state]] U U6 [.blk pb0 72 [.slice A12 x3.bytes.length c13,jV x3.next,.int .u32 x3.state]] W9:=hS11
 refine oR Z (zU Z Z Z) (oA Z Z (eN (zY ?_)))
 cases hm5
 exact ⟨Z,_,(ZC Z),U6,_,hS15,A12,c13,Z,Z,h14⟩
theorem wDQ (p0:wAB) (pb0:Nat) (pA0_0:Option Addr) (pc0_0:Nat) (p1:Int) (w:World) (U:PHeap) (hS:St0 w U [.blk pb0 72 [.slice pA0_0 p0.bytes.length pc0_0,jV p0.next,.int .u32 p0.state]]) (ha0:Sl U 1 pA0_0 pc0_0 p0.bytes.length (nA KL.encB8 p0.bytes)) {r:wAE × wAB} (hm:wAm p0 p1=some r):Gv Tryz.prog 6 [.pointer (some ⟨pb0,0,none⟩),jV p1] w (wCO w [.blk pb0 72 [.slice pA0_0 p0.bytes.length pc0_0,jV p0.next,.int .u32 p0.state]] U (fun U_ L_ v=>∃ (A01:Option Addr) (c01:Nat) (A02:Option Addr) (c02:Nat) (cs02:List Value) (Ao00:Option Addr) (co00:Nat),v=.agg #[jV r.1.Laps,.slice A01 r.1.Bibs.length c01,.slice A02 r.1.Times.length c02]/\L_=[.row A01 c01 3 1 (nA KL.encI r.1.Bibs),.row A02 c02 23 1 cs02,.blk pb0 72 [.slice Ao00 r.2.bytes.length co00,jV r.2.next,.int .u32 r.2.state]]/\RlL U_ wBP r.1.Times cs02/\Sl U_ 1 Ao00 co00 r.2.bytes.length (nA KL.encB8 r.2.bytes))):=by
 unfold wAm at hm
 refine Gv.of Tryz.func6 Z Tryz.ntmps6 Tryz.results6 Z (sR (.fx 0 (.nil) .stop) Z ?_)
 let B0:List Value:=[jV 0,.slice none 0 0,.slice none 0 0]
 refine Zc (cs:=B0) Z Z Z Z Z Zf Z hS ?_
 intro W2 b3 hS4
 refine eN (sR (.fl 0 (.fx 1 (.fl 2 (.fx 3 (.fx 4 (.nil) .stop) .stop)) .stop)) Z (oM Z Z ?_))
 have q:=bnd hm
 obtain ⟨⟨x6,x7⟩,h8,hm9⟩:=q
 try dsimp only at hm9
 let B1:Res:=.blk pb0 72 [.slice pA0_0 p0.bytes.length pc0_0,jV p0.next,.int .u32 p0.state]
 have hS10:SW w [B1] U U [B1,.blk b3 26 B0] W2:=hS4.pick [1,0] _ (by decide) rfl
 refine zj 1 Z Z Z Z (zd Z Z Tryz.call15 (zM Z (zM Z (zM Z zr))) Z) hS10 (fun hs=>wAR p0 pb0 pA0_0 pc0_0 1 7 W2 U hs ha0 h8) (.inl Z) ?_
 rintro U11 L12 v13 W14 le15 hS16 ⟨A17,c18,rfl,rfl,h19⟩
 let B2:Res:=.blk pb0 72 [.slice A17 x7.bytes.length c18,jV x7.next,.int .u32 x7.state]
 have hS20:SW w [B1] U U11 [B2,.blk b3 26 B0] W14:=hS16
 let B3:List Value:=[jV x6,.slice none 0 0,.slice none 0 0]
 refine oR Z (Runs.build (pv:=[(0,jV x6)]) (z:=B0) (cs:=B3) Z (wAL Z wAT) Zf wIY Z Z) (Zc (cs:=B0) Z Z Z Z Z Zf Z hS20 ?_)
 intro W21 b22 hS23
 refine OKS.st (j:=0) (vs:=B3) Z Z Z Z hS23 Z Z Z Z ZF (zm Z) Z Z Z ?_
 intro W25 hS26
 have hS27:SW w [B1] U U11 [.blk b22 26 B3,B2,.blk b3 26 B0] W25:=hS26
 refine eN (zL (sR (.fl 0 (.fl 1 (.fx 2 (.fl 3 (.nil)) .stop))) Z (oM Z Z (oM Z Z ?_))))
 have q:=bnd hm9
 obtain ⟨⟨x28,x29⟩,h30,hm31⟩:=q
 try dsimp only at hm31
 have hS32:SW w [B1] U U11 [B2,.blk b22 26 B3,.blk b3 26 B0] W25:=hS27.pick [1,0,2] _ (by decide) rfl
 refine zj 1 Z Z Z Z (zd Z Z Tryz.call15 (zM Z (zM Z (zM Z zr))) Z) hS32 (fun hs=>wAR x7 pb0 A17 c18 1 p1 W25 U11 hs h19 h30) (.inl Z) ?_
 rintro U33 L34 v35 W36 le37 hS38 ⟨A39,c40,rfl,rfl,h41⟩
 have hS42:SW w [B1] U U33 [.blk pb0 72 [.slice A39 x29.bytes.length c40,jV x29.next,.int .u32 x29.state],.blk b22 26 B3,.blk b3 26 B0] W36:=hS38
 refine oM Z Z (eN (zf ?_))
 have q:=bnd hm31
 obtain ⟨⟨y104,y105,y106,y107,y108⟩,hf101,hm100⟩:=q
 try dsimp only at hm100
 have q:=wBw hf101
 obtain ⟨hle102,hf103⟩:=q
 replace hle102:=zG hle102
 refine CK.forN' (fun k99 (l85,x88,x89,l90,l94) σ_ w_=>∃ (U_:PHeap) (A86:Option Addr) (c87:Nat) (A91:Option Addr) (c92:Nat) (A95:Option Addr) (c96:Nat) (cs98:List Value),σ_ 16=jV (↑k99:Int)/\σ_ 0=.pointer (some ⟨pb0,0,none⟩)/\σ_ 4=.pointer (some ⟨b3,0,none⟩)/\σ_ 5=.pointer (some ⟨b22,0,none⟩)/\σ_ 15=jV x28/\PHeap.Le U33 U_/\SW w [B1] U U_ [.blk pb0 72 [.slice A86 l85.length c87,jV x88,.int .u32 x89],.row A91 c92 3 1 (nA KL.encI l90),.row A95 c96 23 1 cs98,.blk b22 26 [jV x6,.slice A91 l90.length c92,.slice A95 l94.length c96],.blk b3 26 B0] w_/\Sl U_ 1 A86 c87 l85.length (nA KL.encB8 l85)/\RlL U_ wBP l94 cs98) hf103 ?_ ?_ ?_
 ·have hS109:=hS42.nilrow 3 1
  have hS111:=hS109.nilrow 23 1
  exact ⟨U33,A39,c40,none,0,none,0,[],rfl,rfl,rfl,rfl,rfl,(zI _),(hS111.pick [2,1,0,3,4] _ (by decide) rfl),h41,RlL.nil⟩
 ·rintro k99 ⟨l85,x88,x89,l90,l94⟩ xx115 σ113 W114 hk118 ⟨U120,A86,c87,A91,c92,A95,c96,cs98,fi119,f123,f124,f125,f126,le121,hS122,h127,h128⟩ hx116
  try dsimp only at hx116
  have c129:Hid ((↑k99:Int) < x28):=zG (wBQ hk118)
  replace hk118:=zG hk118
  have hi130:Hid (w64 ((↑k99:Int) + 1)=(↑(k99 + 1):Int)):=zG (by have h1:=hle102.out;have h2:=c129.out;rw [wAa] <;> omega)
  refine sR fL1 Z (oR Z (zV Z fi119 f126) (eN (zL (cT Z c129 (kN (zL (zf (sR fL2 Z (oM Z fi119 (oA Z Z (eN (sR (.fl 0 (.fx 1 (.fl 2 (.fx 3 (.fl 4 (.fl 5 (.nil))) .stop)) .stop)) Z (oM Z f123 ?_)))))))))))))
  have q:=bnd hx116
  obtain ⟨⟨x131,x132⟩,h133,hm134⟩:=q
  try dsimp only at hm134
  refine zj 1 Z Z Z Z (zd Z Z Tryz.call15 (zM Z (zM Z (zM Z zr))) Z) hS122 (fun hs=>wAR (⟨l85,x88,x89⟩:wAB) pb0 A86 c87 20 75 W114 U120 hs h127 h133) (.inl Z) ?_
  rintro U135 L136 v137 W138 le139 hS140 ⟨A141,c142,rfl,rfl,h143⟩
  let B4:Res:=.blk b22 26 [jV x6,.slice A91 l90.length c92,.slice A95 l94.length c96]
  let B5:Res:=.row A91 c92 3 1 (nA KL.encI l90)
  let B6:Res:=.row A95 c96 23 1 cs98
  have hS144:SW w [B1] U U135 [.blk pb0 72 [.slice A141 x132.bytes.length c142,jV x132.next,.int .u32 x132.state],B5,B6,B4,.blk b3 26 B0] W138:=hS140
  refine oM Z f123 ?_
  have q:=bnd hm134
  obtain ⟨⟨x145,x146⟩,h147,hm148⟩:=q
  try dsimp only at hm148
  refine zj 1 Z Z Z Z (zd Z Z Tryz.call31 (zM Z (zM Z zr)) Z) hS144 (fun hs=>wAo x132 pb0 A141 c142 60 W138 U135 hs h143 h147) (.inl Z) ?_
  rintro U149 L150 v151 W152 le153 hS154 ⟨A155,c156,rfl,rfl,h157⟩
  have hS158:SW w [B1] U U149 [.blk pb0 72 [.slice A155 x146.bytes.length c156,jV x146.next,.int .u32 x146.state],B5,B6,B4,.blk b3 26 B0] W152:=hS154
  refine OKS.ra rfl rfl rfl rfl rfl rfl (OKS.ra rfl rfl rfl rfl rfl rfl (eN (sR fL1 rfl (OKS.ra rfl rfl rfl rfl rfl rfl (eN (zL (zL (Zb ZW [3,1004,3,3,1,3,1005,3,1005,3,3,3,pb0] (wMQ (.fl 7 (.fl 11 (.fx 6 (.fx 8 (.fl 9 (.fl 10 (.nil))) .stop) .stop)))) (by kernel_rfl) ?_))))))))
  have hS188:=hS158.drew
  generalize hw_W189:({ W152 with drawn:=W152.drawn + 1 }:World)=W189 at hS188 ⊢
  refine zZ rfl rfl rfl rfl (fun _=>zO rfl f125 zD rfl zB) (OKS.mt (T:=[pb0]) [0] [1,2,3,4] [B5,B6,B4,.blk b3 26 B0] rfl rfl rfl rfl hS188 rfl ⟨⟨0,by decide,_,rfl,rfl⟩,trivial⟩ (by decide) rfl (by decide) (fun _ hZ190=>(hZ190.ldB (j:=2) rfl rfl rfl zN (v:=jV x6) rfl)) rfl (zQ rfl rfl rfl rfl rfl f123 (zZ rfl rfl rfl rfl (fun _=>zO rfl f125 zD rfl zB) (ZB rfl rfl rfl rfl (hS188.ldB (j:=3) rfl rfl rfl zN (v:=jV x6) rfl) rfl (zZ rfl rfl rfl rfl (fun _=>zU rfl rfl rfl) (zQ rfl rfl rfl rfl rfl f123 (zQ rfl rfl rfl rfl rfl rfl ?_)))))))
  have q:=bnd hm148
  obtain ⟨⟨x191,x192⟩,h193,hm194⟩:=q
  try dsimp only at hm194
  refine OKS.callHT 1 rfl rfl rfl rfl (zd rfl rfl Tryz.call31 (zM rfl (zM rfl zr)) rfl) hS188 (fun hs=>wAo x146 pb0 A155 c156 (w64 (x6 + 1)) W189 U149 hs h157 h193) rfl (T:=[pb0]) rfl ⟨fun b h=>(by cases h;exact .head _),trivial⟩ ?_
  rintro U195 L196 v197 W198 le199 hS200 ⟨A201,c202,rfl,rfl,h203⟩
  have hS204:SW w [B1] U U195 [.blk pb0 72 [.slice A201 x192.bytes.length c202,jV x192.next,.int .u32 x192.state],B5,B6,B4,.blk b3 26 B0] W198:=hS200
  have q:=bnd hm194
  obtain ⟨⟨x205,x206⟩,h207,hm208⟩:=q
  try dsimp only at hm208
  refine OKS.callHT 1 rfl rfl rfl rfl (zd rfl rfl Tryz.call31 (zM rfl (zM rfl zr)) rfl) hS204 (fun hs=>wAo x192 pb0 A201 c202 2 W198 U195 hs h203 h207) rfl (T:=[pb0]) rfl ⟨fun b h=>(by cases h;exact .head _),trivial⟩ ?_
  rintro U209 L210 v211 W212 le213 hS214 ⟨A215,c216,rfl,rfl,h217⟩
  have hS218:SW w [B1] U U209 [.blk pb0 72 [.slice A215 x206.bytes.length c216,jV x206.next,.int .u32 x206.state],B5,B6,B4,.blk b3 26 B0] W212:=hS214
  refine oR Z (Runs.mulw Z Z Z) (oR Z (Runs.subw Z Z Z) (eN (zf ?_)))
  have q:=bnd hm208
  obtain ⟨⟨y265,y266,y267,y268,y269⟩,hf262,hm261⟩:=q
  try dsimp only at hm261
  have q:=wBw hf262
  obtain ⟨hle263,hf264⟩:=q
  replace hle263:=zG hle263
  refine CK.forN' (fun k260 (l250,x253,x254,x255,l256) σ_ w_=>∃ (U_:PHeap) (A251:Option Addr) (c252:Nat) (A257:Option Addr) (c258:Nat),σ_ 34=jV (↑k260:Int)/\σ_ 0=.pointer (some ⟨pb0,0,none⟩)/\σ_ 4=.pointer (some ⟨b3,0,none⟩)/\σ_ 5=.pointer (some ⟨b22,0,none⟩)/\σ_ 6=jV (↑k99:Int)/\σ_ 7=jV x131/\σ_ 8=jV x255/\σ_ 9=.slice A257 l256.length c258/\σ_ 15=jV x28/\σ_ 16=jV (↑k99:Int)/\σ_ 33=jV (w64 (x6 - (w64 (x191 * x205))))/\PHeap.Le U209 U_/\SW w [B1] U U_ [.blk pb0 72 [.slice A251 l250.length c252,jV x253,.int .u32 x254],B5,B6,B4,.blk b3 26 B0,.row A257 c258 3 1 (nA KL.encI l256)] w_/\Sl U_ 1 A251 c252 l250.length (nA KL.encB8 l250)) hf264 ?_ ?_ ?_
  ·have hS270:=hS218.nilrow 3 1
   exact ⟨U209,A215,c216,none,0,rfl,f123,f124,f125,rfl,rfl,rfl,rfl,f126,fi119,rfl,(zI _),(hS270.pick [1,2,3,4,5,0] _ (by decide) rfl),h217⟩
  ·rintro k260 ⟨l250,x253,x254,x255,l256⟩ xx274 σ272 W273 hk277 ⟨U279,A251,c252,A257,c258,fi278,f282,f283,f284,f285,f286,f287,f288,f289,f290,f291,le280,hS281,h292⟩ hx275
   try dsimp only at hx275
   have c293:Hid ((↑k260:Int) < (w64 (x6 - (w64 (x191 * x205))))):=zG (wBQ hk277)
   replace hk277:=zG hk277
   have hi294:Hid (w64 ((↑k260:Int) + 1)=(↑(k260 + 1):Int)):=zG (by have h1:=hle263.out;have h2:=c293.out;rw [wAa] <;> omega)
   refine sR fL1 Z (oR Z (zV Z fi278 f291) (eN (zL (cT Z c293 (kN (zL (zf (sR (wLU (.fx 3 (fC4_6 (.nil)) .stop)) Z (oM Z f287 (oM Z f286 (oM Z f282 ?_)))))))))))
   have q:=bnd hx275
   obtain ⟨⟨x295,x296⟩,h297,hm298⟩:=q
   try dsimp only at hm298
   refine zj 1 Z Z Z Z (zd Z Z Tryz.call31 (zM Z (zM Z zr)) Z) hS281 (fun hs=>wAo (⟨l250,x253,x254⟩:wAB) pb0 A251 c252 9 W273 U279 hs h292 h297) (.inl Z) ?_
   rintro U299 L300 v301 W302 le303 hS304 ⟨A305,c306,rfl,rfl,h307⟩
   let B7:Res:=.blk pb0 72 [.slice A305 x296.bytes.length c306,jV x296.next,.int .u32 x296.state]
   let B8:Res:=.row A257 c258 3 1 (nA KL.encI l256)
   have hS308:SW w [B1] U U299 [B7,B5,B6,B4,.blk b3 26 B0,B8] W302:=hS304
   refine oR Z (zU Z Z Z) (oR Z (zU Z Z Z) (oA Z Z (eN (rR (.fl 0 (.fl 1 (.fx 2 (.fx 3 (.fl 4 (.nil)) .stop) .stop))) Z (oM Z f288 (oM Z Z (zW (pv:=[(0,jV (w64 (x255 + (w64 (x131 + x295)))))]) (zs:=[jV 0]) (cs:=[jV (w64 (x255 + (w64 (x131 + x295))))]) Z Z Z Z Z (wAL Z wAT) zA zB zu Z Z Z Z Z hS308 ?_)))))))
   intro W309 b310 hS311
   let B9:Res:=.row (some ⟨b310,0,none⟩) 1 3 1 (nA KL.encI [w64 (x255 + (w64 (x131 + x295)))])
   have hS313:SW w [B1] U U299 [B9,B7,B5,B6,B4,.blk b3 26 B0,B8] W309:=hS311
   refine bnK hm298 fun x314 h315 hm316=>ZS (j:=6) (enc:=KL.encI) (xs:=l256) (ys:=[w64 (x255 + (w64 (x131 + x295)))]) (zs:=x314) rfl rfl rfl rfl rfl zz wCP rfl rfl rfl rfl rfl rfl hS313 rfl rfl rfl (hS313.srcR (j:=0) rfl (by decide) (wAF (f:=KL.encI) (sz:=1) (fun _=>rfl) [w64 (x255 + (w64 (x131 + x295)))])) (fun _=>rfl) (fun _=>rfl) h315 rfl ?_
   intro A317 c318 W319 hS320
   have hS321:SW w [B1] U U299 [B9,B7,B5,B6,B4,.blk b3 26 B0,.row A317 c318 3 1 (nA KL.encI x314)] W319:=hS320
   refine oA Z Z (ZA (zt (zK (rR fL2 Z (oR Z (ZD (zU Z fi278 Z) (congrArg (jV) hi294.out)) (oM Z Z (ZA ?_)))))))
   cases hm316
   exact zK ⟨rfl,⟨U299,A305,c306,A317,c318,rfl,f282,f283,f284,f285,f286,rfl,rfl,f289,f290,f291,(le280.trans le303),(hS321.pick [1,2,3,4,5,6] _ (by decide) rfl),h307⟩⟩
  ·rintro σ331 W332 ⟨U348,A344,c345,A346,c347,fi334,f351,f352,f353,f354,f355,f356,f357,f358,f359,f360,le349,hS350,h361⟩
   have c362:Hid (¬ ((↑((w64 (x6 - (w64 (x191 * x205))):Int) - 0).toNat:Int) < (w64 (x6 - (w64 (x191 * x205)))))):=zG (wBA)
   refine sR fL1 Z (oR Z (zV Z fi334 f360) (eN (zL (cF Z c362 (ZR (zq (zq (ZO (zK ?_)))))))))
   have q:=bnd hm261
   obtain ⟨⟨x426,x427⟩,h428,hm487⟩:=q
   try dsimp only at hm487
   refine bnK hm487 fun x445 h446 hm488=>bnK hm488 fun x464 h465 hm489=>Zb ZW [3,1004,3,3,3,1005,3,2,0,3,2,3,2,0,3,0,3,0,pb0] (wMP (.fl 9 (.fl 11 (.fx 5 (.fl 6 (.fx 7 (.fx 8 (.fx 10 (.fl 14 (.fx 12 (.fx 13 (.fx 15 (.fl 16 (.fx 17 (.nil) (.stop))) (.stop)) (.stop)) (.stop))) (.fx 12 (.fx 10 (.fl 14 (.fx 13 (.fx 15 (.fl 16 (.fx 17 (.nil) (.stop))) (.stop)) (.stop))) (.stop)) (.stop))) (.fx 10 (.fx 8 (.fl 14 (.fx 12 (.fx 13 (.fx 15 (.fl 16 (.fx 17 (.nil) (.stop))) (.stop)) (.stop)) (.stop))) (.fx 12 (.fx 8 (.fl 14 (.fx 13 (.fx 15 (.fl 16 (.fx 17 (.nil) (.stop))) (.stop)) (.stop))) (.stop)) (.stop))) (.fx 12 (.fx 8 (.fx 10 (.fl 14 (.fx 13 (.fx 15 (.fl 16 (.fx 17 (.nil) (.stop))) (.stop)) (.stop))) (.stop)) (.fx 10 (.fx 8 (.fl 14 (.fx 13 (.fx 15 (.fl 16 (.fx 17 (.nil) (.stop))) (.stop)) (.stop))) (.stop)) (.stop))) (.stop)))) (.fx 10 (.fx 7 (.fx 8 (.fl 14 (.fx 12 (.fx 13 (.fx 15 (.fl 16 (.fx 17 (.nil) (.stop))) (.stop)) (.stop)) (.stop))) (.fx 12 (.fx 8 (.fl 14 (.fx 13 (.fx 15 (.fl 16 (.fx 17 (.nil) (.stop))) (.stop)) (.stop))) (.stop)) (.stop))) (.fx 12 (.fx 7 (.fx 8 (.fl 14 (.fx 13 (.fx 15 (.fl 16 (.fx 17 (.nil) (.stop))) (.stop)) (.stop))) (.stop)) (.stop)) (.stop))) (.fx 12 (.fx 7 (.fx 8 (.fx 10 (.fl 14 (.fx 13 (.fx 15 (.fl 16 (.fx 17 (.nil) (.stop))) (.stop)) (.stop))) (.stop)) (.fx 10 (.fx 8 (.fl 14 (.fx 13 (.fx 15 (.fl 16 (.fx 17 (.nil) (.stop))) (.stop)) (.stop))) (.stop)) (.stop))) (.fx 10 (.fx 7 (.fx 8 (.fl 14 (.fx 13 (.fx 15 (.fl 16 (.fx 17 (.nil) (.stop))) (.stop)) (.stop))) (.stop)) (.stop)) (.stop))) (.stop))))) (.fx 10 (.fx 5 (.fl 6 (.fx 7 (.fx 8 (.fl 14 (.fx 12 (.fx 13 (.fx 15 (.fl 16 (.fx 17 (.nil) (.stop))) (.stop)) (.stop)) (.stop))) (.fx 12 (.fx 8 (.fl 14 (.fx 13 (.fx 15 (.fl 16 (.fx 17 (.nil) (.stop))) (.stop)) (.stop))) (.stop)) (.stop))) (.fx 12 (.fx 7 (.fx 8 (.fl 14 (.fx 13 (.fx 15 (.fl 16 (.fx 17 (.nil) (.stop))) (.stop)) (.stop))) (.stop)) (.stop)) (.stop)))) (.fx 12 (.fx 5 (.fl 6 (.fx 7 (.fx 8 (.fl 14 (.fx 13 (.fx 15 (.fl 16 (.fx 17 (.nil) (.stop))) (.stop)) (.stop))) (.stop)) (.stop))) (.stop)) (.stop))) (.fx 12 (.fx 5 (.fl 6 (.fx 7 (.fx 8 (.fx 10 (.fl 14 (.fx 13 (.fx 15 (.fl 16 (.fx 17 (.nil) (.stop))) (.stop)) (.stop))) (.stop)) (.fx 10 (.fx 8 (.fl 14 (.fx 13 (.fx 15 (.fl 16 (.fx 17 (.nil) (.stop))) (.stop)) (.stop))) (.stop)) (.stop))) (.fx 10 (.fx 7 (.fx 8 (.fl 14 (.fx 13 (.fx 15 (.fl 16 (.fx 17 (.nil) (.stop))) (.stop)) (.stop))) (.stop)) (.stop)) (.stop)))) (.fx 10 (.fx 5 (.fl 6 (.fx 7 (.fx 8 (.fl 14 (.fx 13 (.fx 15 (.fl 16 (.fx 17 (.nil) (.stop))) (.stop)) (.stop))) (.stop)) (.stop))) (.stop)) (.stop))) (.stop))))))) (by kernel_rfl) ?_
   have hS490:=hS350.drew
   generalize hw_W491:({ W332 with drawn:=W332.drawn + 1 }:World)=W491 at hS490 ⊢
   refine zw (s:=.nil) (M:=fun σ_ w_=>∃ (U_:PHeap) (A830:Option Addr) (c831:Nat) (A832:Option Addr) (c833:Nat) (A834:Option Addr) (c835:Nat) (cs836:List Value) (A838:Option Addr) (c839:Nat) (A840:Option Addr) (c841:Nat) (A843:Option Addr) (c844:Nat) (A845:Option Addr) (c846:Nat) (cs847:List Value),σ_ 0=.pointer (some ⟨pb0,0,none⟩)/\σ_ 4=.pointer (some ⟨b3,0,none⟩)/\σ_ 5=.pointer (some ⟨b22,0,none⟩)/\σ_ 6=jV (↑k99:Int)/\σ_ 9=.slice A838 y269.length c839/\σ_ 15=jV x28/\σ_ 16=jV (↑k99:Int)/\σ_ 47=.pointer (some ⟨b22,1,none⟩)/\σ_ 49=jV (↑k99:Int)/\σ_ 50=jV (w64 (7 * (↑k99:Int)))/\σ_ 51=.pointer (some ⟨pb0,0,none⟩)/\σ_ 52=jV x426/\σ_ 53=jV (w64 ((w64 (7 * (↑k99:Int))) + x426))/\σ_ 54=.slice A840 ([w64 ((w64 (7 * (↑k99:Int))) + x426)].length) c841/\σ_ 55=.slice A832 x445.length c833/\σ_ 56=.pointer (some ⟨b22,2,none⟩)/\σ_ 58=.slice A843 y269.length c844/\σ_ 59=.slice A845 ([y269].length) c846/\σ_ 60=.slice A834 x464.length c835/\σ_ 61=.pointer (some ⟨b22,1,none⟩)/\σ_ 62=.pointer (some ⟨b22,2,none⟩)/\PHeap.Le U348 U_/\SW w [B1] U U_ [.blk pb0 72 [.slice A830 x427.bytes.length c831,jV x427.next,.int .u32 x427.state],.row A832 c833 3 1 (nA KL.encI x445),.row A834 c835 23 1 cs836,.blk b22 26 [jV x6,.slice A832 x445.length c833,.slice A834 x464.length c835],.blk b3 26 B0,.row A840 c841 3 1 (nA KL.encI [w64 ((w64 (7 * (↑k99:Int))) + x426)]),.row A845 c846 23 1 cs847] w_/\Sl U_ 1 A830 c831 x427.bytes.length (nA KL.encB8 x427.bytes)/\RlL U_ wBP x464 cs836/\Sl U_ 1 A838 c839 y269.length (nA KL.encI y269)/\Sl U_ 1 A843 c844 y269.length (nA KL.encI y269)/\RlL U_ wBP [y269] cs847) ?_ fun ko848=>?_
   ·rintro σ849 W850 ⟨U851,A830,c831,A832,c833,A834,c835,cs836,A838,c839,A840,c841,A843,c844,A845,c846,cs847,f854,f855,f856,f857,f858,f859,f860,f861,f862,f863,f864,f865,f866,f867,f868,f869,f870,f871,f872,f873,f874,le852,hS853,h875,h876,h877,h878,h879⟩
    refine ZA (zt (zK (rR fL2 Z (oR Z (ZD (zU Z f860 Z) (congrArg (jV) hi130.out)) (oM Z Z (ZA ?_))))))
    cases hm489
    exact zK ⟨rfl,⟨U851,A830,c831,A832,c833,A834,c835,cs836,rfl,f854,f855,f856,f859,((((((le121.trans le139).trans le153).trans le199).trans le213).trans le349).trans le852),(hS853.pick [0,1,2,3,4] _ (by decide) rfl),h875,h876⟩⟩
   refine zw (s:=.fl 16 (.fx 17 (.nil) (.stop))) (M:=fun σ_ w_=>∃ (U_:PHeap) (A893:Option Addr) (c894:Nat) (A895:Option Addr) (c896:Nat) (A898:Option Addr) (c899:Nat) (A900:Option Addr) (c901:Nat) (A903:Option Addr) (c904:Nat) (A905:Option Addr) (c906:Nat) (cs907:List Value) (A908:Option Addr) (c909:Nat) (cs910:List Value),σ_ 0=.pointer (some ⟨pb0,0,none⟩)/\σ_ 4=.pointer (some ⟨b3,0,none⟩)/\σ_ 5=.pointer (some ⟨b22,0,none⟩)/\σ_ 6=jV (↑k99:Int)/\σ_ 9=.slice A898 y269.length c899/\σ_ 15=jV x28/\σ_ 16=jV (↑k99:Int)/\σ_ 47=.pointer (some ⟨b22,1,none⟩)/\σ_ 49=jV (↑k99:Int)/\σ_ 50=jV (w64 (7 * (↑k99:Int)))/\σ_ 51=.pointer (some ⟨pb0,0,none⟩)/\σ_ 52=jV x426/\σ_ 53=jV (w64 ((w64 (7 * (↑k99:Int))) + x426))/\σ_ 54=.slice A900 ([w64 ((w64 (7 * (↑k99:Int))) + x426)].length) c901/\σ_ 55=.slice A895 x445.length c896/\σ_ 56=.pointer (some ⟨b22,2,none⟩)/\σ_ 58=.slice A903 y269.length c904/\σ_ 59=.slice A905 ([y269].length) c906/\σ_ 60=.slice A908 x464.length c909/\σ_ 61=.pointer (some ⟨b22,1,none⟩)/\PHeap.Le U348 U_/\SW w [B1] U U_ [.blk pb0 72 [.slice A893 x427.bytes.length c894,jV x427.next,.int .u32 x427.state],.row A895 c896 3 1 (nA KL.encI x445),.blk b22 26 [jV x6,.slice A895 x445.length c896,.slice A95 l94.length c96],.blk b3 26 B0,.row A900 c901 3 1 (nA KL.encI [w64 ((w64 (7 * (↑k99:Int))) + x426)]),.row A905 c906 23 1 cs907,.row A908 c909 23 1 cs910] w_/\Sl U_ 1 A893 c894 x427.bytes.length (nA KL.encB8 x427.bytes)/\Sl U_ 1 A898 c899 y269.length (nA KL.encI y269)/\Sl U_ 1 A903 c904 y269.length (nA KL.encI y269)/\RlL U_ wBP [y269] cs907/\RlL U_ wBP x464 cs910) ?_ fun ko911=>?_
   ·rintro σ912 W913 ⟨U914,A893,c894,A895,c896,A898,c899,A900,c901,A903,c904,A905,c906,cs907,A908,c909,cs910,f917,f918,f919,f920,f921,f922,f923,f924,f925,f926,f927,f928,f929,f930,f931,f932,f933,f934,f935,f936,le915,hS916,h937,h938,h939,h940,h941⟩
    refine oR Z (zO Z f919 zD Z ZH) (OKS.st (j:=2) (vs:=[.slice A908 x464.length c909]) Z Z Z Z hS916 Z Z f935 Z ZH (zm Z) Z Z Z ?_)
    intro W942 hS943
    have hS944:SW w [B1] U U914 [.blk pb0 72 [.slice A893 x427.bytes.length c894,jV x427.next,.int .u32 x427.state],.row A895 c896 3 1 (nA KL.encI x445),.blk b22 26 [jV x6,.slice A895 x445.length c896,.slice A908 x464.length c909],.blk b3 26 B0,.row A900 c901 3 1 (nA KL.encI [w64 ((w64 (7 * (↑k99:Int))) + x426)]),.row A905 c906 23 1 cs907,.row A908 c909 23 1 cs910] W942:=hS943
    exact ko848 _ _ ⟨U914,A893,c894,A895,c896,A908,c909,cs910,A898,c899,A900,c901,A903,c904,A905,c906,cs907,f917,f918,f919,f920,f921,f922,f923,f924,f925,f926,f927,f928,f929,f930,f931,f932,f933,f934,f935,f936,rfl,le915,(hS944.pick [0,1,6,2,3,4,5] _ (by decide) rfl),h937,h941,h938,h939,h940⟩
   refine zw (s:=.fx 15 (.fl 16 (.fx 17 (.nil) (.stop))) (.stop)) (M:=fun σ_ w_=>∃ (U_:PHeap) (A965:Option Addr) (c966:Nat) (A968:Option Addr) (c969:Nat) (A970:Option Addr) (c971:Nat) (A972:Option Addr) (c973:Nat) (A975:Option Addr) (c976:Nat) (A977:Option Addr) (c978:Nat) (cs979:List Value) (A980:Option Addr) (c981:Nat) (cs982:List Value),σ_ 0=.pointer (some ⟨pb0,0,none⟩)/\σ_ 4=.pointer (some ⟨b3,0,none⟩)/\σ_ 5=.pointer (some ⟨b22,0,none⟩)/\σ_ 6=jV (↑k99:Int)/\σ_ 9=.slice A968 y269.length c969/\σ_ 15=jV x28/\σ_ 16=jV (↑k99:Int)/\σ_ 47=.pointer (some ⟨b22,1,none⟩)/\σ_ 49=jV (↑k99:Int)/\σ_ 50=jV (w64 (7 * (↑k99:Int)))/\σ_ 51=.pointer (some ⟨pb0,0,none⟩)/\σ_ 52=jV x426/\σ_ 53=jV (w64 ((w64 (7 * (↑k99:Int))) + x426))/\σ_ 54=.slice A970 ([w64 ((w64 (7 * (↑k99:Int))) + x426)].length) c971/\σ_ 55=.slice A972 x445.length c973/\σ_ 56=.pointer (some ⟨b22,2,none⟩)/\σ_ 58=.slice A975 y269.length c976/\σ_ 59=.slice A977 ([y269].length) c978/\σ_ 60=.slice A980 x464.length c981/\σ_ 61=.pointer (some ⟨b22,1,none⟩)/\PHeap.Le U348 U_/\SW w [B1] U U_ [.blk pb0 72 [.slice A965 x427.bytes.length c966,jV x427.next,.int .u32 x427.state],B4,.blk b3 26 B0,.row A970 c971 3 1 (nA KL.encI [w64 ((w64 (7 * (↑k99:Int))) + x426)]),.row A972 c973 3 1 (nA KL.encI x445),.row A977 c978 23 1 cs979,.row A980 c981 23 1 cs982] w_/\Sl U_ 1 A965 c966 x427.bytes.length (nA KL.encB8 x427.bytes)/\Sl U_ 1 A968 c969 y269.length (nA KL.encI y269)/\Sl U_ 1 A975 c976 y269.length (nA KL.encI y269)/\RlL U_ wBP [y269] cs979/\RlL U_ wBP x464 cs982) ?_ fun ko983=>?_
   ·rintro σ984 W985 ⟨U986,A965,c966,A968,c969,A970,c971,A972,c973,A975,c976,A977,c978,cs979,A980,c981,cs982,f989,f990,f991,f992,f993,f994,f995,f996,f997,f998,f999,f1000,f1001,f1002,f1003,f1004,f1005,f1006,f1007,f1008,le987,hS988,h1009,h1010,h1011,h1012,h1013⟩
    refine OKS.st (j:=1) (vs:=[.slice A972 x445.length c973]) Z Z Z Z hS988 Z f1008 f1003 Z zF (zm Z) Z Z Z ?_
    intro W1014 hS1015
    have hS1016:SW w [B1] U U986 [.blk pb0 72 [.slice A965 x427.bytes.length c966,jV x427.next,.int .u32 x427.state],.blk b22 26 [jV x6,.slice A972 x445.length c973,.slice A95 l94.length c96],.blk b3 26 B0,.row A970 c971 3 1 (nA KL.encI [w64 ((w64 (7 * (↑k99:Int))) + x426)]),.row A972 c973 3 1 (nA KL.encI x445),.row A977 c978 23 1 cs979,.row A980 c981 23 1 cs982] W1014:=hS1015
    exact ko911 _ _ ⟨U986,A965,c966,A972,c973,A968,c969,A970,c971,A975,c976,A977,c978,cs979,A980,c981,cs982,f989,f990,f991,f992,f993,f994,f995,f996,f997,f998,f999,f1000,f1001,f1002,f1003,f1004,f1005,f1006,f1007,f1008,le987,(hS1016.pick [0,4,1,2,3,5,6] _ (by decide) rfl),h1009,h1010,h1011,h1012,h1013⟩
   refine zw (s:=.fx 13 (.fx 15 (.fl 16 (.fx 17 (.nil) (.stop))) (.stop)) (.stop)) (M:=fun σ_ w_=>∃ (U_:PHeap) (A1037:Option Addr) (c1038:Nat) (A1040:Option Addr) (c1041:Nat) (A1042:Option Addr) (c1043:Nat) (A1044:Option Addr) (c1045:Nat) (A1047:Option Addr) (c1048:Nat) (A1049:Option Addr) (c1050:Nat) (cs1051:List Value),σ_ 0=.pointer (some ⟨pb0,0,none⟩)/\σ_ 4=.pointer (some ⟨b3,0,none⟩)/\σ_ 5=.pointer (some ⟨b22,0,none⟩)/\σ_ 6=jV (↑k99:Int)/\σ_ 9=.slice A1040 y269.length c1041/\σ_ 15=jV x28/\σ_ 16=jV (↑k99:Int)/\σ_ 47=.pointer (some ⟨b22,1,none⟩)/\σ_ 49=jV (↑k99:Int)/\σ_ 50=jV (w64 (7 * (↑k99:Int)))/\σ_ 51=.pointer (some ⟨pb0,0,none⟩)/\σ_ 52=jV x426/\σ_ 53=jV (w64 ((w64 (7 * (↑k99:Int))) + x426))/\σ_ 54=.slice A1042 ([w64 ((w64 (7 * (↑k99:Int))) + x426)].length) c1043/\σ_ 55=.slice A1044 x445.length c1045/\σ_ 56=.pointer (some ⟨b22,2,none⟩)/\σ_ 57=.slice A95 l94.length c96/\σ_ 58=.slice A1047 y269.length c1048/\σ_ 59=.slice A1049 ([y269].length) c1050/\σ_ 61=.pointer (some ⟨b22,1,none⟩)/\PHeap.Le U348 U_/\SW w [B1] U U_ [.blk pb0 72 [.slice A1037 x427.bytes.length c1038,jV x427.next,.int .u32 x427.state],B6,B4,.blk b3 26 B0,.row A1042 c1043 3 1 (nA KL.encI [w64 ((w64 (7 * (↑k99:Int))) + x426)]),.row A1044 c1045 3 1 (nA KL.encI x445),.row A1049 c1050 23 1 cs1051] w_/\Sl U_ 1 A1037 c1038 x427.bytes.length (nA KL.encB8 x427.bytes)/\Sl U_ 1 A1040 c1041 y269.length (nA KL.encI y269)/\Sl U_ 1 A1047 c1048 y269.length (nA KL.encI y269)/\RlL U_ wBP [y269] cs1051) ?_ fun ko1052=>?_
   ·rintro σ1053 W1054 ⟨U1055,A1037,c1038,A1040,c1041,A1042,c1043,A1044,c1045,A1047,c1048,A1049,c1050,cs1051,f1058,f1059,f1060,f1061,f1062,f1063,f1064,f1065,f1066,f1067,f1068,f1069,f1070,f1071,f1072,f1073,f1074,f1075,f1076,f1077,le1056,hS1057,h1078,h1079,h1080,h1081⟩
    have h1088:=h128.le le139
    have h1089:=h1088.le le153
    have h1090:=h1089.le le199
    have h1091:=h1090.le le213
    have h1092:=h1091.le le349
    have h1093:=h1092.le le1056
    refine OKS.appendR (R:=wBP) (j:=1) (xs:=l94) (ys:=[y269]) (zs:=x464) rfl rfl rfl rfl rfl Tryz.underlying24 wIa rfl rfl rfl rfl rfl rfl rfl hS1057 rfl f1074 f1076 h1093 h1081 (hS1057.srcR (j:=6) rfl (by decide) (RlL.len h1081)) h465 rfl ?_
    intro A1082 c1083 cs1084 W1085 hS1086 hr1087
    have hS1094:SW w [B1] U U1055 [.blk pb0 72 [.slice A1037 x427.bytes.length c1038,jV x427.next,.int .u32 x427.state],.row A1082 c1083 23 1 cs1084,B4,.blk b3 26 B0,.row A1042 c1043 3 1 (nA KL.encI [w64 ((w64 (7 * (↑k99:Int))) + x426)]),.row A1044 c1045 3 1 (nA KL.encI x445),.row A1049 c1050 23 1 cs1051] W1085:=hS1086
    exact ko983 _ _ ⟨U1055,A1037,c1038,A1040,c1041,A1042,c1043,A1044,c1045,A1047,c1048,A1049,c1050,cs1051,A1082,c1083,cs1084,f1058,f1059,f1060,f1061,f1062,f1063,f1064,f1065,f1066,f1067,f1068,f1069,f1070,f1071,f1072,f1073,f1075,f1076,rfl,f1077,le1056,(hS1094.pick [0,2,3,4,5,6,1] _ (by decide) rfl),h1078,h1079,h1080,h1081,hr1087⟩
   refine zw (s:=.fl 14 (.fx 13 (.fx 15 (.fl 16 (.fx 17 (.nil) (.stop))) (.stop)) (.stop))) (M:=fun σ_ w_=>∃ (U_:PHeap) (A1115:Option Addr) (c1116:Nat) (A1118:Option Addr) (c1119:Nat) (A1120:Option Addr) (c1121:Nat) (A1122:Option Addr) (c1123:Nat) (A1125:Option Addr) (c1126:Nat) (A1127:Option Addr) (c1128:Nat) (cs1129:List Value),σ_ 0=.pointer (some ⟨pb0,0,none⟩)/\σ_ 4=.pointer (some ⟨b3,0,none⟩)/\σ_ 5=.pointer (some ⟨b22,0,none⟩)/\σ_ 6=jV (↑k99:Int)/\σ_ 9=.slice A1118 y269.length c1119/\σ_ 15=jV x28/\σ_ 16=jV (↑k99:Int)/\σ_ 47=.pointer (some ⟨b22,1,none⟩)/\σ_ 49=jV (↑k99:Int)/\σ_ 50=jV (w64 (7 * (↑k99:Int)))/\σ_ 51=.pointer (some ⟨pb0,0,none⟩)/\σ_ 52=jV x426/\σ_ 53=jV (w64 ((w64 (7 * (↑k99:Int))) + x426))/\σ_ 54=.slice A1120 ([w64 ((w64 (7 * (↑k99:Int))) + x426)].length) c1121/\σ_ 55=.slice A1122 x445.length c1123/\σ_ 56=.pointer (some ⟨b22,2,none⟩)/\σ_ 57=.slice A95 l94.length c96/\σ_ 58=.slice A1125 y269.length c1126/\σ_ 59=.slice A1127 ([y269].length) c1128/\PHeap.Le U348 U_/\SW w [B1] U U_ [.blk pb0 72 [.slice A1115 x427.bytes.length c1116,jV x427.next,.int .u32 x427.state],B6,B4,.blk b3 26 B0,.row A1120 c1121 3 1 (nA KL.encI [w64 ((w64 (7 * (↑k99:Int))) + x426)]),.row A1122 c1123 3 1 (nA KL.encI x445),.row A1127 c1128 23 1 cs1129] w_/\Sl U_ 1 A1115 c1116 x427.bytes.length (nA KL.encB8 x427.bytes)/\Sl U_ 1 A1118 c1119 y269.length (nA KL.encI y269)/\Sl U_ 1 A1125 c1126 y269.length (nA KL.encI y269)/\RlL U_ wBP [y269] cs1129) ?_ fun ko1130=>?_
   ·rintro σ1131 W1132 ⟨U1133,A1115,c1116,A1118,c1119,A1120,c1121,A1122,c1123,A1125,c1126,A1127,c1128,cs1129,f1136,f1137,f1138,f1139,f1140,f1141,f1142,f1143,f1144,f1145,f1146,f1147,f1148,f1149,f1150,f1151,f1152,f1153,f1154,le1134,hS1135,h1155,h1156,h1157,h1158⟩
    refine oR Z (zO Z f1138 zD Z zF) ?_
    have h1165:=h128.le le139
    have h1166:=h1165.le le153
    have h1167:=h1166.le le199
    have h1168:=h1167.le le213
    have h1169:=h1168.le le349
    have h1170:=h1169.le le1134
    refine OKS.appendR (R:=wBP) (j:=1) (xs:=l94) (ys:=[y269]) (zs:=x464) rfl rfl rfl rfl rfl Tryz.underlying24 wIa rfl rfl rfl rfl rfl rfl rfl hS1135 rfl f1152 f1154 h1170 h1158 (hS1135.srcR (j:=6) rfl (by decide) (RlL.len h1158)) h465 rfl ?_
    intro A1159 c1160 cs1161 W1162 hS1163 hr1164
    have hS1171:SW w [B1] U U1133 [.blk pb0 72 [.slice A1115 x427.bytes.length c1116,jV x427.next,.int .u32 x427.state],.row A1159 c1160 23 1 cs1161,B4,.blk b3 26 B0,.row A1120 c1121 3 1 (nA KL.encI [w64 ((w64 (7 * (↑k99:Int))) + x426)]),.row A1122 c1123 3 1 (nA KL.encI x445),.row A1127 c1128 23 1 cs1129] W1162:=hS1163
    exact ko983 _ _ ⟨U1133,A1115,c1116,A1118,c1119,A1120,c1121,A1122,c1123,A1125,c1126,A1127,c1128,cs1129,A1159,c1160,cs1161,f1136,f1137,f1138,f1139,f1140,f1141,f1142,f1143,f1144,f1145,f1146,f1147,f1148,f1149,f1150,f1151,f1153,f1154,rfl,rfl,le1134,(hS1171.pick [0,2,3,4,5,6,1] _ (by decide) rfl),h1155,h1156,h1157,h1158,hr1164⟩
   refine zw (s:=.fx 8 (.fl 14 (.fx 13 (.fx 15 (.fl 16 (.fx 17 (.nil) (.stop))) (.stop)) (.stop))) (.stop)) (M:=fun σ_ w_=>∃ (U_:PHeap) (A1192:Option Addr) (c1193:Nat) (A1195:Option Addr) (c1196:Nat) (A1197:Option Addr) (c1198:Nat) (A1200:Option Addr) (c1201:Nat) (A1202:Option Addr) (c1203:Nat) (cs1204:List Value),σ_ 0=.pointer (some ⟨pb0,0,none⟩)/\σ_ 4=.pointer (some ⟨b3,0,none⟩)/\σ_ 5=.pointer (some ⟨b22,0,none⟩)/\σ_ 6=jV (↑k99:Int)/\σ_ 9=.slice A1195 y269.length c1196/\σ_ 15=jV x28/\σ_ 16=jV (↑k99:Int)/\σ_ 47=.pointer (some ⟨b22,1,none⟩)/\σ_ 48=.slice A91 l90.length c92/\σ_ 49=jV (↑k99:Int)/\σ_ 50=jV (w64 (7 * (↑k99:Int)))/\σ_ 51=.pointer (some ⟨pb0,0,none⟩)/\σ_ 52=jV x426/\σ_ 53=jV (w64 ((w64 (7 * (↑k99:Int))) + x426))/\σ_ 54=.slice A1197 ([w64 ((w64 (7 * (↑k99:Int))) + x426)].length) c1198/\σ_ 56=.pointer (some ⟨b22,2,none⟩)/\σ_ 57=.slice A95 l94.length c96/\σ_ 58=.slice A1200 y269.length c1201/\σ_ 59=.slice A1202 ([y269].length) c1203/\PHeap.Le U348 U_/\SW w [B1] U U_ [.blk pb0 72 [.slice A1192 x427.bytes.length c1193,jV x427.next,.int .u32 x427.state],.row A91 c92 3 1 (nA KL.encI l90),B6,B4,.blk b3 26 B0,.row A1197 c1198 3 1 (nA KL.encI [w64 ((w64 (7 * (↑k99:Int))) + x426)]),.row A1202 c1203 23 1 cs1204] w_/\Sl U_ 1 A1192 c1193 x427.bytes.length (nA KL.encB8 x427.bytes)/\Sl U_ 1 A1195 c1196 y269.length (nA KL.encI y269)/\Sl U_ 1 A1200 c1201 y269.length (nA KL.encI y269)/\RlL U_ wBP [y269] cs1204) ?_ fun ko1205=>?_
   ·rintro σ1206 W1207 ⟨U1208,A1192,c1193,A1195,c1196,A1197,c1198,A1200,c1201,A1202,c1203,cs1204,f1211,f1212,f1213,f1214,f1215,f1216,f1217,f1218,f1219,f1220,f1221,f1222,f1223,f1224,f1225,f1226,f1227,f1228,f1229,le1209,hS1210,h1230,h1231,h1232,h1233⟩
    refine ZS (j:=1) (enc:=KL.encI) (xs:=l90) (ys:=[w64 ((w64 (7 * (↑k99:Int))) + x426)]) (zs:=x445) rfl rfl rfl rfl rfl zz wCP rfl rfl rfl rfl rfl rfl hS1210 rfl f1219 f1225 (hS1210.srcR (j:=5) rfl (by decide) (wAF (f:=KL.encI) (sz:=1) (fun _=>rfl) [w64 ((w64 (7 * (↑k99:Int))) + x426)])) (fun _=>rfl) (fun _=>rfl) h446 rfl ?_
    intro A1234 c1235 W1236 hS1237
    have hS1238:SW w [B1] U U1208 [.blk pb0 72 [.slice A1192 x427.bytes.length c1193,jV x427.next,.int .u32 x427.state],.row A1234 c1235 3 1 (nA KL.encI x445),B6,B4,.blk b3 26 B0,.row A1197 c1198 3 1 (nA KL.encI [w64 ((w64 (7 * (↑k99:Int))) + x426)]),.row A1202 c1203 23 1 cs1204] W1236:=hS1237
    exact ko1130 _ _ ⟨U1208,A1192,c1193,A1195,c1196,A1197,c1198,A1234,c1235,A1200,c1201,A1202,c1203,cs1204,f1211,f1212,f1213,f1214,f1215,f1216,f1217,f1218,f1220,f1221,f1222,f1223,f1224,f1225,rfl,f1226,f1227,f1228,f1229,le1209,(hS1238.pick [0,2,3,4,5,1,6] _ (by decide) rfl),h1230,h1231,h1232,h1233⟩
   refine zw (s:=.fx 10 (.fl 14 (.fx 13 (.fx 15 (.fl 16 (.fx 17 (.nil) (.stop))) (.stop)) (.stop))) (.stop)) (M:=fun σ_ w_=>∃ (U_:PHeap) (A1256:Option Addr) (c1257:Nat) (A1259:Option Addr) (c1260:Nat) (A1261:Option Addr) (c1262:Nat) (A1263:Option Addr) (c1264:Nat) (A1266:Option Addr) (c1267:Nat) (A1268:Option Addr) (c1269:Nat) (cs1270:List Value),σ_ 0=.pointer (some ⟨pb0,0,none⟩)/\σ_ 4=.pointer (some ⟨b3,0,none⟩)/\σ_ 5=.pointer (some ⟨b22,0,none⟩)/\σ_ 6=jV (↑k99:Int)/\σ_ 9=.slice A1259 y269.length c1260/\σ_ 15=jV x28/\σ_ 16=jV (↑k99:Int)/\σ_ 47=.pointer (some ⟨b22,1,none⟩)/\σ_ 49=jV (↑k99:Int)/\σ_ 50=jV (w64 (7 * (↑k99:Int)))/\σ_ 51=.pointer (some ⟨pb0,0,none⟩)/\σ_ 52=jV x426/\σ_ 53=jV (w64 ((w64 (7 * (↑k99:Int))) + x426))/\σ_ 54=.slice A1261 ([w64 ((w64 (7 * (↑k99:Int))) + x426)].length) c1262/\σ_ 55=.slice A1263 x445.length c1264/\σ_ 56=.pointer (some ⟨b22,2,none⟩)/\σ_ 58=.slice A1266 y269.length c1267/\σ_ 59=.slice A1268 ([y269].length) c1269/\PHeap.Le U348 U_/\SW w [B1] U U_ [.blk pb0 72 [.slice A1256 x427.bytes.length c1257,jV x427.next,.int .u32 x427.state],B6,B4,.blk b3 26 B0,.row A1261 c1262 3 1 (nA KL.encI [w64 ((w64 (7 * (↑k99:Int))) + x426)]),.row A1263 c1264 3 1 (nA KL.encI x445),.row A1268 c1269 23 1 cs1270] w_/\Sl U_ 1 A1256 c1257 x427.bytes.length (nA KL.encB8 x427.bytes)/\Sl U_ 1 A1259 c1260 y269.length (nA KL.encI y269)/\Sl U_ 1 A1266 c1267 y269.length (nA KL.encI y269)/\RlL U_ wBP [y269] cs1270) ?_ fun ko1271=>?_
   ·rintro σ1272 W1273 ⟨U1274,A1256,c1257,A1259,c1260,A1261,c1262,A1263,c1264,A1266,c1267,A1268,c1269,cs1270,f1277,f1278,f1279,f1280,f1281,f1282,f1283,f1284,f1285,f1286,f1287,f1288,f1289,f1290,f1291,f1292,f1293,f1294,le1275,hS1276,h1295,h1296,h1297,h1298⟩
    exact ZE Z Z Z Z (hS1276.ldB (j:=2) Z Z f1292 zX (v:=.slice A95 l94.length c96) Z) (ko1130 _ _ ⟨U1274,A1256,c1257,A1259,c1260,A1261,c1262,A1263,c1264,A1266,c1267,A1268,c1269,cs1270,f1277,f1278,f1279,f1280,f1281,f1282,f1283,f1284,f1285,f1286,f1287,f1288,f1289,f1290,f1291,f1292,Z,f1293,f1294,le1275,hS1276,h1295,h1296,h1297,h1298⟩)
   let B10:Res:=.row A346 c347 3 1 (nA KL.encI y269)
   refine zw (s:=.fl 14 (.fx 12 (.fx 13 (.fx 15 (.fl 16 (.fx 17 (.nil) (.stop))) (.stop)) (.stop)) (.stop))) (M:=fun σ_ w_=>∃ (U_:PHeap) (A1316:Option Addr) (c1317:Nat) (A1318:Option Addr) (c1319:Nat) (A1320:Option Addr) (c1321:Nat),σ_ 0=.pointer (some ⟨pb0,0,none⟩)/\σ_ 4=.pointer (some ⟨b3,0,none⟩)/\σ_ 5=.pointer (some ⟨b22,0,none⟩)/\σ_ 6=jV (↑k99:Int)/\σ_ 9=.slice A346 y269.length c347/\σ_ 15=jV x28/\σ_ 16=jV (↑k99:Int)/\σ_ 47=.pointer (some ⟨b22,1,none⟩)/\σ_ 49=jV (↑k99:Int)/\σ_ 50=jV (w64 (7 * (↑k99:Int)))/\σ_ 51=.pointer (some ⟨pb0,0,none⟩)/\σ_ 52=jV x426/\σ_ 53=jV (w64 ((w64 (7 * (↑k99:Int))) + x426))/\σ_ 54=.slice A1318 ([w64 ((w64 (7 * (↑k99:Int))) + x426)].length) c1319/\σ_ 55=.slice A1320 x445.length c1321/\σ_ 56=.pointer (some ⟨b22,2,none⟩)/\σ_ 57=.slice A95 l94.length c96/\σ_ 58=.slice A346 y269.length c347/\PHeap.Le U348 U_/\SW w [B1] U U_ [.blk pb0 72 [.slice A1316 x427.bytes.length c1317,jV x427.next,.int .u32 x427.state],B6,B4,.blk b3 26 B0,B10,.row A1318 c1319 3 1 (nA KL.encI [w64 ((w64 (7 * (↑k99:Int))) + x426)]),.row A1320 c1321 3 1 (nA KL.encI x445)] w_/\Sl U_ 1 A1316 c1317 x427.bytes.length (nA KL.encB8 x427.bytes)) ?_ fun ko1322=>?_
   ·rintro σ1323 W1324 ⟨U1325,A1316,c1317,A1318,c1319,A1320,c1321,f1328,f1329,f1330,f1331,f1332,f1333,f1334,f1335,f1336,f1337,f1338,f1339,f1340,f1341,f1342,f1343,f1344,f1345,le1326,hS1327,h1346⟩
    refine oR Z (zO Z f1330 zD Z zF) ?_
    have q:=hS1327.freezeR (k:=4) (n:=y269.length) rfl (wAF (f:=KL.encI) (sz:=1) (fun _=>rfl) y269) (by decide)
    obtain ⟨U1350,le1351,hs1352,hS1353⟩:=q
    let B11:Res:=.blk pb0 72 [.slice A1316 x427.bytes.length c1317,jV x427.next,.int .u32 x427.state]
    let B12:Res:=.row A1318 c1319 3 1 (nA KL.encI [w64 ((w64 (7 * (↑k99:Int))) + x426)])
    let B13:Res:=.row A1320 c1321 3 1 (nA KL.encI x445)
    have hS1354:SW w [B1] U U1350 [B11,B6,B4,.blk b3 26 B0,B12,B13] W1324:=hS1353
    let B14:List Value:=[.slice A346 y269.length c347]
    refine zW (pv:=[(0,.slice A346 y269.length c347)]) (zs:=[.slice none 0 0]) (cs:=B14) Z Z Z Z Z (wAL f1345 wAT) zH zF ZJ Z Z Z Z Z hS1354 ?_
    intro W1347 b1348 hS1349
    have hr1356:RlL U1350 wBP [y269] B14:=(RlL.cons (R:=wBP) (x:=y269) (vs:=B14) ⟨A346,c347,rfl,hs1352⟩ RlL.nil)
    have hS1357:SW w [B1] U U1350 [.row (some ⟨b1348,0,none⟩) 1 23 1 B14,B11,B6,B4,.blk b3 26 B0,B12,B13] W1347:=hS1349
    have h1374:=h1346.le le1351
    exact ko1052 _ _ ⟨U1350,A1316,c1317,A346,c347,A1318,c1319,A1320,c1321,A346,c347,(some ⟨b1348,0,none⟩),1,B14,f1328,f1329,f1330,f1331,f1332,f1333,f1334,f1335,f1336,f1337,f1338,f1339,f1340,f1341,f1342,f1343,f1344,f1345,rfl,rfl,(le1326.trans le1351),(hS1357.pick [1,2,3,4,5,6,0] _ (by decide) rfl),h1374,hs1352,hs1352,hr1356⟩
   refine zw (s:=.fx 7 (.fx 8 (.fl 14 (.fx 13 (.fx 15 (.fl 16 (.fx 17 (.nil) (.stop))) (.stop)) (.stop))) (.stop)) (.stop)) (M:=fun σ_ w_=>∃ (U_:PHeap) (A1376:Option Addr) (c1377:Nat) (A1379:Option Addr) (c1380:Nat) (A1382:Option Addr) (c1383:Nat) (A1384:Option Addr) (c1385:Nat) (cs1386:List Value),σ_ 0=.pointer (some ⟨pb0,0,none⟩)/\σ_ 4=.pointer (some ⟨b3,0,none⟩)/\σ_ 5=.pointer (some ⟨b22,0,none⟩)/\σ_ 6=jV (↑k99:Int)/\σ_ 9=.slice A1379 y269.length c1380/\σ_ 15=jV x28/\σ_ 16=jV (↑k99:Int)/\σ_ 47=.pointer (some ⟨b22,1,none⟩)/\σ_ 48=.slice A91 l90.length c92/\σ_ 49=jV (↑k99:Int)/\σ_ 50=jV (w64 (7 * (↑k99:Int)))/\σ_ 51=.pointer (some ⟨pb0,0,none⟩)/\σ_ 52=jV x426/\σ_ 53=jV (w64 ((w64 (7 * (↑k99:Int))) + x426))/\σ_ 56=.pointer (some ⟨b22,2,none⟩)/\σ_ 57=.slice A95 l94.length c96/\σ_ 58=.slice A1382 y269.length c1383/\σ_ 59=.slice A1384 ([y269].length) c1385/\PHeap.Le U348 U_/\SW w [B1] U U_ [.blk pb0 72 [.slice A1376 x427.bytes.length c1377,jV x427.next,.int .u32 x427.state],.row A91 c92 3 1 (nA KL.encI l90),B6,B4,.blk b3 26 B0,.row A1384 c1385 23 1 cs1386] w_/\Sl U_ 1 A1376 c1377 x427.bytes.length (nA KL.encB8 x427.bytes)/\Sl U_ 1 A1379 c1380 y269.length (nA KL.encI y269)/\Sl U_ 1 A1382 c1383 y269.length (nA KL.encI y269)/\RlL U_ wBP [y269] cs1386) ?_ fun ko1387=>?_
   ·rintro σ1388 W1389 ⟨U1390,A1376,c1377,A1379,c1380,A1382,c1383,A1384,c1385,cs1386,f1393,f1394,f1395,f1396,f1397,f1398,f1399,f1400,f1401,f1402,f1403,f1404,f1405,f1406,f1407,f1408,f1409,f1410,le1391,hS1392,h1411,h1412,h1413,h1414⟩
    refine zW (pv:=[(0,jV (w64 ((w64 (7 * (↑k99:Int))) + x426)))]) (zs:=[jV 0]) (cs:=[jV (w64 ((w64 (7 * (↑k99:Int))) + x426))]) Z Z Z Z Z (wAL f1406 wAT) zA zB zu Z Z Z Z Z hS1392 ?_
    intro W1415 b1416 hS1417
    have hS1419:SW w [B1] U U1390 [.row (some ⟨b1416,0,none⟩) 1 3 1 (nA KL.encI [w64 ((w64 (7 * (↑k99:Int))) + x426)]),.blk pb0 72 [.slice A1376 x427.bytes.length c1377,jV x427.next,.int .u32 x427.state],B5,B6,B4,.blk b3 26 B0,.row A1384 c1385 23 1 cs1386] W1415:=hS1417
    exact ko1205 _ _ ⟨U1390,A1376,c1377,A1379,c1380,(some ⟨b1416,0,none⟩),1,A1382,c1383,A1384,c1385,cs1386,f1393,f1394,f1395,f1396,f1397,f1398,f1399,f1400,f1401,f1402,f1403,f1404,f1405,f1406,rfl,f1407,f1408,f1409,f1410,le1391,(hS1419.pick [1,2,3,4,5,0,6] _ (by decide) rfl),h1411,h1412,h1413,h1414⟩
   refine zw (s:=.fx 8 (.fx 10 (.fl 14 (.fx 13 (.fx 15 (.fl 16 (.fx 17 (.nil) (.stop))) (.stop)) (.stop))) (.stop)) (.fx 10 (.fx 8 (.fl 14 (.fx 13 (.fx 15 (.fl 16 (.fx 17 (.nil) (.stop))) (.stop)) (.stop))) (.stop)) (.stop))) (M:=fun σ_ w_=>∃ (U_:PHeap) (A1435:Option Addr) (c1436:Nat) (A1438:Option Addr) (c1439:Nat) (A1440:Option Addr) (c1441:Nat) (A1443:Option Addr) (c1444:Nat) (A1445:Option Addr) (c1446:Nat) (cs1447:List Value),σ_ 0=.pointer (some ⟨pb0,0,none⟩)/\σ_ 4=.pointer (some ⟨b3,0,none⟩)/\σ_ 5=.pointer (some ⟨b22,0,none⟩)/\σ_ 6=jV (↑k99:Int)/\σ_ 9=.slice A1438 y269.length c1439/\σ_ 15=jV x28/\σ_ 16=jV (↑k99:Int)/\σ_ 47=.pointer (some ⟨b22,1,none⟩)/\σ_ 48=.slice A91 l90.length c92/\σ_ 49=jV (↑k99:Int)/\σ_ 50=jV (w64 (7 * (↑k99:Int)))/\σ_ 51=.pointer (some ⟨pb0,0,none⟩)/\σ_ 52=jV x426/\σ_ 53=jV (w64 ((w64 (7 * (↑k99:Int))) + x426))/\σ_ 54=.slice A1440 ([w64 ((w64 (7 * (↑k99:Int))) + x426)].length) c1441/\σ_ 56=.pointer (some ⟨b22,2,none⟩)/\σ_ 58=.slice A1443 y269.length c1444/\σ_ 59=.slice A1445 ([y269].length) c1446/\PHeap.Le U348 U_/\SW w [B1] U U_ [.blk pb0 72 [.slice A1435 x427.bytes.length c1436,jV x427.next,.int .u32 x427.state],.row A91 c92 3 1 (nA KL.encI l90),B6,B4,.blk b3 26 B0,.row A1440 c1441 3 1 (nA KL.encI [w64 ((w64 (7 * (↑k99:Int))) + x426)]),.row A1445 c1446 23 1 cs1447] w_/\Sl U_ 1 A1435 c1436 x427.bytes.length (nA KL.encB8 x427.bytes)/\Sl U_ 1 A1438 c1439 y269.length (nA KL.encI y269)/\Sl U_ 1 A1443 c1444 y269.length (nA KL.encI y269)/\RlL U_ wBP [y269] cs1447) ?_ fun ko1448=>?_
   ·rintro σ1449 W1450 ⟨U1451,A1435,c1436,A1438,c1439,A1440,c1441,A1443,c1444,A1445,c1446,cs1447,f1454,f1455,f1456,f1457,f1458,f1459,f1460,f1461,f1462,f1463,f1464,f1465,f1466,f1467,f1468,f1469,f1470,f1471,le1452,hS1453,h1472,h1473,h1474,h1475⟩
    refine zk ?_ ?_
    ·refine ZS (j:=1) (enc:=KL.encI) (xs:=l90) (ys:=[w64 ((w64 (7 * (↑k99:Int))) + x426)]) (zs:=x445) rfl rfl rfl rfl rfl zz wCP rfl rfl rfl rfl rfl rfl hS1453 rfl f1462 f1468 (hS1453.srcR (j:=5) rfl (by decide) (wAF (f:=KL.encI) (sz:=1) (fun _=>rfl) [w64 ((w64 (7 * (↑k99:Int))) + x426)])) (fun _=>rfl) (fun _=>rfl) h446 rfl ?_
     intro A1476 c1477 W1478 hS1479
     have hS1480:SW w [B1] U U1451 [.blk pb0 72 [.slice A1435 x427.bytes.length c1436,jV x427.next,.int .u32 x427.state],.row A1476 c1477 3 1 (nA KL.encI x445),B6,B4,.blk b3 26 B0,.row A1440 c1441 3 1 (nA KL.encI [w64 ((w64 (7 * (↑k99:Int))) + x426)]),.row A1445 c1446 23 1 cs1447] W1478:=hS1479
     exact ko1271 _ _ ⟨U1451,A1435,c1436,A1438,c1439,A1440,c1441,A1476,c1477,A1443,c1444,A1445,c1446,cs1447,f1454,f1455,f1456,f1457,f1458,f1459,f1460,f1461,f1463,f1464,f1465,f1466,f1467,f1468,rfl,f1469,f1470,f1471,le1452,(hS1480.pick [0,2,3,4,5,1,6] _ (by decide) rfl),h1472,h1473,h1474,h1475⟩
    ·exact ZE Z Z Z Z (hS1453.ldB (j:=3) Z Z f1469 zX (v:=.slice A95 l94.length c96) Z) (ko1205 _ _ ⟨U1451,A1435,c1436,A1438,c1439,A1440,c1441,A1443,c1444,A1445,c1446,cs1447,f1454,f1455,f1456,f1457,f1458,f1459,f1460,f1461,f1462,f1463,f1464,f1465,f1466,f1467,f1468,f1469,Z,f1470,f1471,le1452,hS1453,h1472,h1473,h1474,h1475⟩)
   refine zw (s:=.fx 8 (.fl 14 (.fx 12 (.fx 13 (.fx 15 (.fl 16 (.fx 17 (.nil) (.stop))) (.stop)) (.stop)) (.stop))) (.fx 12 (.fx 8 (.fl 14 (.fx 13 (.fx 15 (.fl 16 (.fx 17 (.nil) (.stop))) (.stop)) (.stop))) (.stop)) (.stop))) (M:=fun σ_ w_=>∃ (U_:PHeap) (A1512:Option Addr) (c1513:Nat) (A1514:Option Addr) (c1515:Nat),σ_ 0=.pointer (some ⟨pb0,0,none⟩)/\σ_ 4=.pointer (some ⟨b3,0,none⟩)/\σ_ 5=.pointer (some ⟨b22,0,none⟩)/\σ_ 6=jV (↑k99:Int)/\σ_ 9=.slice A346 y269.length c347/\σ_ 15=jV x28/\σ_ 16=jV (↑k99:Int)/\σ_ 47=.pointer (some ⟨b22,1,none⟩)/\σ_ 48=.slice A91 l90.length c92/\σ_ 49=jV (↑k99:Int)/\σ_ 50=jV (w64 (7 * (↑k99:Int)))/\σ_ 51=.pointer (some ⟨pb0,0,none⟩)/\σ_ 52=jV x426/\σ_ 53=jV (w64 ((w64 (7 * (↑k99:Int))) + x426))/\σ_ 54=.slice A1514 ([w64 ((w64 (7 * (↑k99:Int))) + x426)].length) c1515/\σ_ 56=.pointer (some ⟨b22,2,none⟩)/\σ_ 57=.slice A95 l94.length c96/\σ_ 58=.slice A346 y269.length c347/\PHeap.Le U348 U_/\SW w [B1] U U_ [.blk pb0 72 [.slice A1512 x427.bytes.length c1513,jV x427.next,.int .u32 x427.state],B5,B6,B4,.blk b3 26 B0,B10,.row A1514 c1515 3 1 (nA KL.encI [w64 ((w64 (7 * (↑k99:Int))) + x426)])] w_/\Sl U_ 1 A1512 c1513 x427.bytes.length (nA KL.encB8 x427.bytes)) ?_ fun ko1516=>?_
   ·rintro σ1517 W1518 ⟨U1519,A1512,c1513,A1514,c1515,f1522,f1523,f1524,f1525,f1526,f1527,f1528,f1529,f1530,f1531,f1532,f1533,f1534,f1535,f1536,f1537,f1538,f1539,le1520,hS1521,h1540⟩
    refine zk ?_ ?_
    ·refine ZS (j:=1) (enc:=KL.encI) (xs:=l90) (ys:=[w64 ((w64 (7 * (↑k99:Int))) + x426)]) (zs:=x445) rfl rfl rfl rfl rfl zz wCP rfl rfl rfl rfl rfl rfl hS1521 rfl f1530 f1536 (hS1521.srcR (j:=6) rfl (by decide) (wAF (f:=KL.encI) (sz:=1) (fun _=>rfl) [w64 ((w64 (7 * (↑k99:Int))) + x426)])) (fun _=>rfl) (fun _=>rfl) h446 rfl ?_
     intro A1541 c1542 W1543 hS1544
     have hS1545:SW w [B1] U U1519 [.blk pb0 72 [.slice A1512 x427.bytes.length c1513,jV x427.next,.int .u32 x427.state],.row A1541 c1542 3 1 (nA KL.encI x445),B6,B4,.blk b3 26 B0,B10,.row A1514 c1515 3 1 (nA KL.encI [w64 ((w64 (7 * (↑k99:Int))) + x426)])] W1543:=hS1544
     exact ko1322 _ _ ⟨U1519,A1512,c1513,A1514,c1515,A1541,c1542,f1522,f1523,f1524,f1525,f1526,f1527,f1528,f1529,f1531,f1532,f1533,f1534,f1535,f1536,rfl,f1537,f1538,f1539,le1520,(hS1545.pick [0,2,3,4,5,6,1] _ (by decide) rfl),h1540⟩
    ·have q:=hS1521.freezeR (k:=5) (n:=y269.length) rfl (wAF (f:=KL.encI) (sz:=1) (fun _=>rfl) y269) (by decide)
     obtain ⟨U1556,le1557,hs1558,hS1559⟩:=q
     let B15:Res:=.blk pb0 72 [.slice A1512 x427.bytes.length c1513,jV x427.next,.int .u32 x427.state]
     let B16:Res:=.row A1514 c1515 3 1 (nA KL.encI [w64 ((w64 (7 * (↑k99:Int))) + x426)])
     have hS1560:SW w [B1] U U1556 [B15,B5,B6,B4,.blk b3 26 B0,B16] W1518:=hS1559
     let B17:List Value:=[.slice A346 y269.length c347]
     refine zW (pv:=[(0,.slice A346 y269.length c347)]) (zs:=[.slice none 0 0]) (cs:=B17) Z Z Z Z Z (wAL f1539 wAT) zH zF ZJ Z Z Z Z Z hS1560 ?_
     intro W1553 b1554 hS1555
     have hr1562:RlL U1556 wBP [y269] B17:=(RlL.cons (R:=wBP) (x:=y269) (vs:=B17) ⟨A346,c347,rfl,hs1558⟩ RlL.nil)
     have hS1563:SW w [B1] U U1556 [.row (some ⟨b1554,0,none⟩) 1 23 1 B17,B15,B5,B6,B4,.blk b3 26 B0,B16] W1553:=hS1555
     have h1578:=h1540.le le1557
     exact ko1205 _ _ ⟨U1556,A1512,c1513,A346,c347,A1514,c1515,A346,c347,(some ⟨b1554,0,none⟩),1,B17,f1522,f1523,f1524,f1525,f1526,f1527,f1528,f1529,f1530,f1531,f1532,f1533,f1534,f1535,f1536,f1537,f1538,f1539,rfl,(le1520.trans le1557),(hS1563.pick [1,2,3,4,5,6,0] _ (by decide) rfl),h1578,hs1558,hs1558,hr1562⟩
   refine zw (s:=.fl 6 (.fx 7 (.fx 8 (.fl 14 (.fx 13 (.fx 15 (.fl 16 (.fx 17 (.nil) (.stop))) (.stop)) (.stop))) (.stop)) (.stop))) (M:=fun σ_ w_=>∃ (U_:PHeap) (A1580:Option Addr) (c1581:Nat) (A1583:Option Addr) (c1584:Nat) (A1586:Option Addr) (c1587:Nat) (A1588:Option Addr) (c1589:Nat) (cs1590:List Value),σ_ 0=.pointer (some ⟨pb0,0,none⟩)/\σ_ 4=.pointer (some ⟨b3,0,none⟩)/\σ_ 5=.pointer (some ⟨b22,0,none⟩)/\σ_ 6=jV (↑k99:Int)/\σ_ 9=.slice A1583 y269.length c1584/\σ_ 15=jV x28/\σ_ 16=jV (↑k99:Int)/\σ_ 47=.pointer (some ⟨b22,1,none⟩)/\σ_ 48=.slice A91 l90.length c92/\σ_ 49=jV (↑k99:Int)/\σ_ 50=jV (w64 (7 * (↑k99:Int)))/\σ_ 51=.pointer (some ⟨pb0,0,none⟩)/\σ_ 52=jV x426/\σ_ 56=.pointer (some ⟨b22,2,none⟩)/\σ_ 57=.slice A95 l94.length c96/\σ_ 58=.slice A1586 y269.length c1587/\σ_ 59=.slice A1588 ([y269].length) c1589/\PHeap.Le U348 U_/\SW w [B1] U U_ [.blk pb0 72 [.slice A1580 x427.bytes.length c1581,jV x427.next,.int .u32 x427.state],.row A91 c92 3 1 (nA KL.encI l90),B6,B4,.blk b3 26 B0,.row A1588 c1589 23 1 cs1590] w_/\Sl U_ 1 A1580 c1581 x427.bytes.length (nA KL.encB8 x427.bytes)/\Sl U_ 1 A1583 c1584 y269.length (nA KL.encI y269)/\Sl U_ 1 A1586 c1587 y269.length (nA KL.encI y269)/\RlL U_ wBP [y269] cs1590) ?_ fun ko1591=>?_
   ·rintro σ1592 W1593 ⟨U1594,A1580,c1581,A1583,c1584,A1586,c1587,A1588,c1589,cs1590,f1597,f1598,f1599,f1600,f1601,f1602,f1603,f1604,f1605,f1606,f1607,f1608,f1609,f1610,f1611,f1612,f1613,le1595,hS1596,h1614,h1615,h1616,h1617⟩
    refine oR Z (zU Z f1607 f1609) (zW (pv:=[(0,jV (w64 ((w64 (7 * (↑k99:Int))) + x426)))]) (zs:=[jV 0]) (cs:=[jV (w64 ((w64 (7 * (↑k99:Int))) + x426))]) Z Z Z Z Z (wAL Z wAT) zA zB zu Z Z Z Z Z hS1596 ?_)
    intro W1618 b1619 hS1620
    have hS1622:SW w [B1] U U1594 [.row (some ⟨b1619,0,none⟩) 1 3 1 (nA KL.encI [w64 ((w64 (7 * (↑k99:Int))) + x426)]),.blk pb0 72 [.slice A1580 x427.bytes.length c1581,jV x427.next,.int .u32 x427.state],B5,B6,B4,.blk b3 26 B0,.row A1588 c1589 23 1 cs1590] W1618:=hS1620
    exact ko1205 _ _ ⟨U1594,A1580,c1581,A1583,c1584,(some ⟨b1619,0,none⟩),1,A1586,c1587,A1588,c1589,cs1590,f1597,f1598,f1599,f1600,f1601,f1602,f1603,f1604,f1605,f1606,f1607,f1608,f1609,rfl,rfl,f1610,f1611,f1612,f1613,le1595,(hS1622.pick [1,2,3,4,5,0,6] _ (by decide) rfl),h1614,h1615,h1616,h1617⟩
   let B18:Res:=.blk pb0 72 [.slice A344 y265.length c345,jV y266,.int .u32 y267]
   refine zw (s:=.fx 5 (.fl 6 (.fx 7 (.fx 8 (.fl 14 (.fx 13 (.fx 15 (.fl 16 (.fx 17 (.nil) (.stop))) (.stop)) (.stop))) (.stop)) (.stop))) (.stop)) (M:=fun σ_ w_=>∃ (U_:PHeap) (A1638:Option Addr) (c1639:Nat) (A1641:Option Addr) (c1642:Nat) (A1643:Option Addr) (c1644:Nat) (cs1645:List Value),σ_ 0=.pointer (some ⟨pb0,0,none⟩)/\σ_ 4=.pointer (some ⟨b3,0,none⟩)/\σ_ 5=.pointer (some ⟨b22,0,none⟩)/\σ_ 6=jV (↑k99:Int)/\σ_ 9=.slice A1638 y269.length c1639/\σ_ 15=jV x28/\σ_ 16=jV (↑k99:Int)/\σ_ 47=.pointer (some ⟨b22,1,none⟩)/\σ_ 48=.slice A91 l90.length c92/\σ_ 49=jV (↑k99:Int)/\σ_ 50=jV (w64 (7 * (↑k99:Int)))/\σ_ 51=.pointer (some ⟨pb0,0,none⟩)/\σ_ 56=.pointer (some ⟨b22,2,none⟩)/\σ_ 57=.slice A95 l94.length c96/\σ_ 58=.slice A1641 y269.length c1642/\σ_ 59=.slice A1643 ([y269].length) c1644/\PHeap.Le U348 U_/\SW w [B1] U U_ [B18,.row A91 c92 3 1 (nA KL.encI l90),B6,B4,.blk b3 26 B0,.row A1643 c1644 23 1 cs1645] w_/\Sl U_ 1 A1638 c1639 y269.length (nA KL.encI y269)/\Sl U_ 1 A1641 c1642 y269.length (nA KL.encI y269)/\RlL U_ wBP [y269] cs1645) ?_ fun ko1646=>?_
   ·rintro σ1647 W1648 ⟨U1649,A1638,c1639,A1641,c1642,A1643,c1644,cs1645,f1652,f1653,f1654,f1655,f1656,f1657,f1658,f1659,f1660,f1661,f1662,f1663,f1664,f1665,f1666,f1667,le1650,hS1651,h1668,h1669,h1670⟩
    have h1671:=h361.le le1650
    refine OKS.callHT 1 rfl rfl rfl rfl (zd rfl rfl Tryz.call15 (zM f1663 (zM rfl (zM rfl zr))) rfl) hS1651 (fun hs=>wAR (⟨y265,y266,y267⟩:wAB) pb0 A344 c345 1 7 W1648 U1649 hs h1671 h428) rfl (T:=[pb0]) rfl ⟨fun b h=>(by cases h;exact .head _),trivial⟩ ?_
    rintro U1674 L1675 v1676 W1677 le1678 hS1679 ⟨A1680,c1681,rfl,rfl,h1682⟩
    have hS1683:SW w [B1] U U1674 [.blk pb0 72 [.slice A1680 x427.bytes.length c1681,jV x427.next,.int .u32 x427.state],B5,B6,B4,.blk b3 26 B0,.row A1643 c1644 23 1 cs1645] W1677:=hS1679
    have h1696:=h1668.le le1678
    have h1697:=h1669.le le1678
    have h1698:=h1670.le le1678
    exact ko1591 _ _ ⟨U1674,A1680,c1681,A1638,c1639,A1641,c1642,A1643,c1644,cs1645,f1652,f1653,f1654,f1655,f1656,f1657,f1658,f1659,f1660,f1661,f1662,f1663,Z,f1664,f1665,f1666,f1667,(le1650.trans le1678),hS1683,h1682,h1696,h1697,h1698⟩
   refine zZ rfl rfl rfl rfl (fun _=>zO rfl f353 zD rfl zF) (OKS.mt (T:=[pb0]) [0] [1,2,3,4,5] [B5,B6,B4,.blk b3 26 B0,B10] rfl rfl rfl rfl hS490 rfl ⟨⟨0,by decide,_,rfl,rfl⟩,trivial⟩ (by decide) rfl (by decide) (fun _ hZ1699=>(hZ1699.ldB (j:=2) rfl rfl rfl zR (v:=.slice A91 l90.length c92) rfl)) rfl (zQ rfl rfl rfl rfl rfl f354 (zZ rfl rfl rfl rfl (fun _=>Runs.mulw rfl rfl rfl) (zQ rfl rfl rfl rfl rfl f351 (zZ rfl rfl rfl rfl (fun _=>zO rfl f353 zD rfl ZH) (zQ rfl rfl rfl rfl rfl f357 (zk ?_ ?_)))))))
   ·refine OKS.callHT 1 rfl rfl rfl rfl (zd rfl rfl Tryz.call15 (zM rfl (zM rfl (zM rfl zr))) rfl) hS490 (fun hs=>wAR (⟨y265,y266,y267⟩:wAB) pb0 A344 c345 1 7 W491 U348 hs h361 h428) rfl (T:=[pb0]) rfl ⟨fun b h=>(by cases h;exact .head _),trivial⟩ ?_
    rintro U1702 L1703 v1704 W1705 le1706 hS1707 ⟨A1708,c1709,rfl,rfl,h1710⟩
    let B19:Res:=.blk pb0 72 [.slice A1708 x427.bytes.length c1709,jV x427.next,.int .u32 x427.state]
    have hS1711:SW w [B1] U U1702 [B19,B5,B6,B4,.blk b3 26 B0,B10] W1705:=hS1707
    refine oR Z (zU Z Z Z) (zk ?_ ?_)
    ·refine zW (pv:=[(0,jV (w64 ((w64 (7 * (↑k99:Int))) + x426)))]) (zs:=[jV 0]) (cs:=[jV (w64 ((w64 (7 * (↑k99:Int))) + x426))]) Z Z Z Z Z (wAL Z wAT) zA zB zu Z Z Z Z Z hS1711 ?_
     intro W1712 b1713 hS1714
     let B20:Res:=.row (some ⟨b1713,0,none⟩) 1 3 1 (nA KL.encI [w64 ((w64 (7 * (↑k99:Int))) + x426)])
     have hS1716:SW w [B1] U U1702 [B20,B19,B5,B6,B4,.blk b3 26 B0,B10] W1712:=hS1714
     refine zk ?_ ?_
     ·refine ZS (j:=2) (enc:=KL.encI) (xs:=l90) (ys:=[w64 ((w64 (7 * (↑k99:Int))) + x426)]) (zs:=x445) rfl rfl rfl rfl rfl zz wCP rfl rfl rfl rfl rfl rfl hS1716 rfl rfl rfl (hS1716.srcR (j:=0) rfl (by decide) (wAF (f:=KL.encI) (sz:=1) (fun _=>rfl) [w64 ((w64 (7 * (↑k99:Int))) + x426)])) (fun _=>rfl) (fun _=>rfl) h446 rfl ?_
      intro A1717 c1718 W1719 hS1720
      let B21:Res:=.row A1717 c1718 3 1 (nA KL.encI x445)
      have hS1721:SW w [B1] U U1702 [B20,B19,B21,B6,B4,.blk b3 26 B0,B10] W1719:=hS1720
      refine zk ?_ ?_
      ·exact ZE rfl rfl rfl rfl (hS1721.ldB (j:=4) rfl rfl rfl zX (v:=.slice A95 l94.length c96) rfl) (ko1322 _ _ ⟨U1702,A1708,c1709,(some ⟨b1713,0,none⟩),1,A1717,c1718,f351,f352,f353,f354,f357,f358,f359,rfl,rfl,rfl,rfl,rfl,rfl,rfl,rfl,rfl,rfl,rfl,le1706,(hS1721.pick [1,3,4,5,6,0,2] _ (by decide) rfl),h1710⟩)
      ·have q:=hS1721.freezeR (k:=6) (n:=y269.length) rfl (wAF (f:=KL.encI) (sz:=1) (fun _=>rfl) y269) (by decide)
       obtain ⟨U1732,le1733,hs1734,hS1735⟩:=q
       have hS1736:SW w [B1] U U1732 [B20,B19,B21,B6,B4,.blk b3 26 B0] W1719:=hS1735
       let B22:List Value:=[.slice A346 y269.length c347]
       refine zW (pv:=[(0,.slice A346 y269.length c347)]) (zs:=[.slice none 0 0]) (cs:=B22) Z Z Z Z Z (wAL Z wAT) zH zF ZJ Z Z Z Z Z hS1736 ?_
       intro W1729 b1730 hS1731
       have hr1738:RlL U1732 wBP [y269] B22:=(RlL.cons (R:=wBP) (x:=y269) (vs:=B22) ⟨A346,c347,rfl,hs1734⟩ RlL.nil)
       have hS1739:SW w [B1] U U1732 [.row (some ⟨b1730,0,none⟩) 1 23 1 B22,B20,B19,B21,B6,B4,.blk b3 26 B0] W1729:=hS1731
       have h1756:=h1710.le le1733
       exact ko1271 _ _ ⟨U1732,A1708,c1709,A346,c347,(some ⟨b1713,0,none⟩),1,A1717,c1718,A346,c347,(some ⟨b1730,0,none⟩),1,B22,f351,f352,f353,f354,f357,f358,f359,rfl,rfl,rfl,rfl,rfl,rfl,rfl,rfl,rfl,rfl,rfl,(le1706.trans le1733),(hS1739.pick [2,4,5,6,1,3,0] _ (by decide) rfl),h1756,hs1734,hs1734,hr1738⟩
     refine zk ?_ ?_
     ·exact ZE rfl rfl rfl rfl (hS1716.ldB (j:=4) rfl rfl rfl zX (v:=.slice A95 l94.length c96) rfl) (ko1516 _ _ ⟨U1702,A1708,c1709,(some ⟨b1713,0,none⟩),1,f351,f352,f353,f354,f357,f358,f359,rfl,rfl,rfl,rfl,rfl,rfl,rfl,rfl,rfl,rfl,rfl,le1706,(hS1716.pick [1,2,3,4,5,6,0] _ (by decide) rfl),h1710⟩)
     ·have q:=hS1716.freezeR (k:=6) (n:=y269.length) rfl (wAF (f:=KL.encI) (sz:=1) (fun _=>rfl) y269) (by decide)
      obtain ⟨U1765,le1766,hs1767,hS1768⟩:=q
      have hS1769:SW w [B1] U U1765 [B20,B19,B5,B6,B4,.blk b3 26 B0] W1712:=hS1768
      let B23:List Value:=[.slice A346 y269.length c347]
      refine zW (pv:=[(0,.slice A346 y269.length c347)]) (zs:=[.slice none 0 0]) (cs:=B23) Z Z Z Z Z (wAL Z wAT) zH zF ZJ Z Z Z Z Z hS1769 ?_
      intro W1762 b1763 hS1764
      have hr1771:RlL U1765 wBP [y269] B23:=(RlL.cons (R:=wBP) (x:=y269) (vs:=B23) ⟨A346,c347,rfl,hs1767⟩ RlL.nil)
      have hS1772:SW w [B1] U U1765 [.row (some ⟨b1763,0,none⟩) 1 23 1 B23,B20,B19,B5,B6,B4,.blk b3 26 B0] W1762:=hS1764
      have h1787:=h1710.le le1766
      exact ko1448 _ _ ⟨U1765,A1708,c1709,A346,c347,(some ⟨b1713,0,none⟩),1,A346,c347,(some ⟨b1763,0,none⟩),1,B23,f351,f352,f353,f354,f357,f358,f359,rfl,rfl,rfl,rfl,rfl,rfl,rfl,rfl,rfl,rfl,rfl,(le1706.trans le1766),(hS1772.pick [2,3,4,5,6,1,0] _ (by decide) rfl),h1787,hs1767,hs1767,hr1771⟩
    refine zk ?_ ?_
    ·refine ZE Z Z Z Z (hS1711.ldB (j:=3) Z Z Z zX (v:=.slice A95 l94.length c96) Z) (zk ?_ ?_)
     ·refine zW (pv:=[(0,jV (w64 ((w64 (7 * (↑k99:Int))) + x426)))]) (zs:=[jV 0]) (cs:=[jV (w64 ((w64 (7 * (↑k99:Int))) + x426))]) Z Z Z Z Z (wAL Z wAT) zA zB zu Z Z Z Z Z hS1711 ?_
      intro W1788 b1789 hS1790
      have hS1792:SW w [B1] U U1702 [.row (some ⟨b1789,0,none⟩) 1 3 1 (nA KL.encI [w64 ((w64 (7 * (↑k99:Int))) + x426)]),B19,B5,B6,B4,.blk b3 26 B0,B10] W1788:=hS1790
      exact ko1516 _ _ ⟨U1702,A1708,c1709,(some ⟨b1789,0,none⟩),1,f351,f352,f353,f354,f357,f358,f359,rfl,rfl,rfl,rfl,rfl,rfl,rfl,rfl,rfl,rfl,rfl,le1706,(hS1792.pick [1,2,3,4,5,6,0] _ (by decide) rfl),h1710⟩
     ·have q:=hS1711.freezeR (k:=5) (n:=y269.length) rfl (wAF (f:=KL.encI) (sz:=1) (fun _=>rfl) y269) (by decide)
      obtain ⟨U1801,le1802,hs1803,hS1804⟩:=q
      have hS1805:SW w [B1] U U1801 [B19,B5,B6,B4,.blk b3 26 B0] W1705:=hS1804
      let B24:List Value:=[.slice A346 y269.length c347]
      refine zW (pv:=[(0,.slice A346 y269.length c347)]) (zs:=[.slice none 0 0]) (cs:=B24) Z Z Z Z Z (wAL Z wAT) zH zF ZJ Z Z Z Z Z hS1805 ?_
      intro W1798 b1799 hS1800
      have hr1807:RlL U1801 wBP [y269] B24:=(RlL.cons (R:=wBP) (x:=y269) (vs:=B24) ⟨A346,c347,rfl,hs1803⟩ RlL.nil)
      have hS1808:SW w [B1] U U1801 [.row (some ⟨b1799,0,none⟩) 1 23 1 B24,B19,B5,B6,B4,.blk b3 26 B0] W1798:=hS1800
      have h1821:=h1710.le le1802
      exact ko1387 _ _ ⟨U1801,A1708,c1709,A346,c347,A346,c347,(some ⟨b1799,0,none⟩),1,B24,f351,f352,f353,f354,f357,f358,f359,rfl,rfl,rfl,rfl,rfl,rfl,rfl,rfl,rfl,rfl,rfl,(le1706.trans le1802),(hS1808.pick [1,2,3,4,5,0] _ (by decide) rfl),h1821,hs1803,hs1803,hr1807⟩
    ·have q:=hS1711.freezeR (k:=5) (n:=y269.length) rfl (wAF (f:=KL.encI) (sz:=1) (fun _=>rfl) y269) (by decide)
     obtain ⟨U1825,le1826,hs1827,hS1828⟩:=q
     have hS1829:SW w [B1] U U1825 [B19,B5,B6,B4,.blk b3 26 B0] W1705:=hS1828
     let B25:List Value:=[.slice A346 y269.length c347]
     refine zW (pv:=[(0,.slice A346 y269.length c347)]) (zs:=[.slice none 0 0]) (cs:=B25) Z Z Z Z Z (wAL Z wAT) zH zF ZJ Z Z Z Z Z hS1829 ?_
     intro W1822 b1823 hS1824
     have hr1831:RlL U1825 wBP [y269] B25:=(RlL.cons (R:=wBP) (x:=y269) (vs:=B25) ⟨A346,c347,rfl,hs1827⟩ RlL.nil)
     let B26:Res:=.row (some ⟨b1823,0,none⟩) 1 23 1 B25
     have hS1832:SW w [B1] U U1825 [B26,B19,B5,B6,B4,.blk b3 26 B0] W1822:=hS1824
     refine zk ?_ ?_
     ·refine zW (pv:=[(0,jV (w64 ((w64 (7 * (↑k99:Int))) + x426)))]) (zs:=[jV 0]) (cs:=[jV (w64 ((w64 (7 * (↑k99:Int))) + x426))]) Z Z Z Z Z (wAL Z wAT) zA zB zu Z Z Z Z Z hS1832 ?_
      intro W1833 b1834 hS1835
      have hS1837:SW w [B1] U U1825 [.row (some ⟨b1834,0,none⟩) 1 3 1 (nA KL.encI [w64 ((w64 (7 * (↑k99:Int))) + x426)]),B26,B19,B5,B6,B4,.blk b3 26 B0] W1833:=hS1835
      have h1852:=h1710.le le1826
      exact ko1448 _ _ ⟨U1825,A1708,c1709,A346,c347,(some ⟨b1834,0,none⟩),1,A346,c347,(some ⟨b1823,0,none⟩),1,B25,f351,f352,f353,f354,f357,f358,f359,rfl,rfl,rfl,rfl,rfl,rfl,rfl,rfl,rfl,rfl,rfl,(le1706.trans le1826),(hS1837.pick [2,3,4,5,6,0,1] _ (by decide) rfl),h1852,hs1827,hs1827,hr1831⟩
     ·refine ZE Z Z Z Z (hS1832.ldB (j:=4) Z Z Z zX (v:=.slice A95 l94.length c96) Z) ?_
      have h1865:=h1710.le le1826
      exact ko1387 _ _ ⟨U1825,A1708,c1709,A346,c347,A346,c347,(some ⟨b1823,0,none⟩),1,B25,f351,f352,f353,f354,f357,f358,f359,rfl,rfl,rfl,rfl,rfl,rfl,rfl,rfl,rfl,rfl,rfl,(le1706.trans le1826),(hS1832.pick [1,2,3,4,5,0] _ (by decide) rfl),h1865,hs1827,hs1827,hr1831⟩
   refine zk ?_ ?_
   ·refine ZE Z Z Z Z (hS490.ldB (j:=3) Z Z Z zX (v:=.slice A95 l94.length c96) Z) (zk ?_ ?_)
    ·refine OKS.callHT 1 rfl rfl rfl rfl (zd rfl rfl Tryz.call15 (zM rfl (zM rfl (zM rfl zr))) rfl) hS490 (fun hs=>wAR (⟨y265,y266,y267⟩:wAB) pb0 A344 c345 1 7 W491 U348 hs h361 h428) rfl (T:=[pb0]) rfl ⟨fun b h=>(by cases h;exact .head _),trivial⟩ ?_
     rintro U1868 L1869 v1870 W1871 le1872 hS1873 ⟨A1874,c1875,rfl,rfl,h1876⟩
     let B27:Res:=.blk pb0 72 [.slice A1874 x427.bytes.length c1875,jV x427.next,.int .u32 x427.state]
     have hS1877:SW w [B1] U U1868 [B27,B5,B6,B4,.blk b3 26 B0,B10] W1871:=hS1873
     refine oR Z (zU Z Z Z) (zk ?_ ?_)
     ·refine zW (pv:=[(0,jV (w64 ((w64 (7 * (↑k99:Int))) + x426)))]) (zs:=[jV 0]) (cs:=[jV (w64 ((w64 (7 * (↑k99:Int))) + x426))]) Z Z Z Z Z (wAL Z wAT) zA zB zu Z Z Z Z Z hS1877 ?_
      intro W1878 b1879 hS1880
      have hS1882:SW w [B1] U U1868 [.row (some ⟨b1879,0,none⟩) 1 3 1 (nA KL.encI [w64 ((w64 (7 * (↑k99:Int))) + x426)]),B27,B5,B6,B4,.blk b3 26 B0,B10] W1878:=hS1880
      exact ko1516 _ _ ⟨U1868,A1874,c1875,(some ⟨b1879,0,none⟩),1,f351,f352,f353,f354,f357,f358,f359,rfl,rfl,rfl,rfl,rfl,rfl,rfl,rfl,rfl,rfl,rfl,le1872,(hS1882.pick [1,2,3,4,5,6,0] _ (by decide) rfl),h1876⟩
     ·have q:=hS1877.freezeR (k:=5) (n:=y269.length) rfl (wAF (f:=KL.encI) (sz:=1) (fun _=>rfl) y269) (by decide)
      obtain ⟨U1891,le1892,hs1893,hS1894⟩:=q
      have hS1895:SW w [B1] U U1891 [B27,B5,B6,B4,.blk b3 26 B0] W1871:=hS1894
      let B28:List Value:=[.slice A346 y269.length c347]
      refine zW (pv:=[(0,.slice A346 y269.length c347)]) (zs:=[.slice none 0 0]) (cs:=B28) Z Z Z Z Z (wAL Z wAT) zH zF ZJ Z Z Z Z Z hS1895 ?_
      intro W1888 b1889 hS1890
      have hr1897:RlL U1891 wBP [y269] B28:=(RlL.cons (R:=wBP) (x:=y269) (vs:=B28) ⟨A346,c347,rfl,hs1893⟩ RlL.nil)
      have hS1898:SW w [B1] U U1891 [.row (some ⟨b1889,0,none⟩) 1 23 1 B28,B27,B5,B6,B4,.blk b3 26 B0] W1888:=hS1890
      have h1911:=h1876.le le1892
      exact ko1387 _ _ ⟨U1891,A1874,c1875,A346,c347,A346,c347,(some ⟨b1889,0,none⟩),1,B28,f351,f352,f353,f354,f357,f358,f359,rfl,rfl,rfl,rfl,rfl,rfl,rfl,rfl,rfl,rfl,rfl,(le1872.trans le1892),(hS1898.pick [1,2,3,4,5,0] _ (by decide) rfl),h1911,hs1893,hs1893,hr1897⟩
    ·have q:=hS490.freezeR (k:=5) (n:=y269.length) rfl (wAF (f:=KL.encI) (sz:=1) (fun _=>rfl) y269) (by decide)
     obtain ⟨U1915,le1916,hs1917,hS1918⟩:=q
     have hS1919:SW w [B1] U U1915 [B18,B5,B6,B4,.blk b3 26 B0] W491:=hS1918
     let B29:List Value:=[.slice A346 y269.length c347]
     refine zW (pv:=[(0,.slice A346 y269.length c347)]) (zs:=[.slice none 0 0]) (cs:=B29) Z Z Z Z Z (wAL Z wAT) zH zF ZJ Z Z Z Z Z hS1919 ?_
     intro W1912 b1913 hS1914
     have hr1921:RlL U1915 wBP [y269] B29:=(RlL.cons (R:=wBP) (x:=y269) (vs:=B29) ⟨A346,c347,rfl,hs1917⟩ RlL.nil)
     have hS1922:SW w [B1] U U1915 [.row (some ⟨b1913,0,none⟩) 1 23 1 B29,B18,B5,B6,B4,.blk b3 26 B0] W1912:=hS1914
     exact ko1646 _ _ ⟨U1915,A346,c347,A346,c347,(some ⟨b1913,0,none⟩),1,B29,f351,f352,f353,f354,f357,f358,f359,rfl,rfl,rfl,rfl,rfl,rfl,rfl,rfl,rfl,le1916,(hS1922.pick [1,2,3,4,5,0] _ (by decide) rfl),hs1917,hs1917,hr1921⟩
   ·have q:=hS490.freezeR (k:=5) (n:=y269.length) rfl (wAF (f:=KL.encI) (sz:=1) (fun _=>rfl) y269) (by decide)
    obtain ⟨U1935,le1936,hs1937,hS1938⟩:=q
    have hS1939:SW w [B1] U U1935 [B18,B5,B6,B4,.blk b3 26 B0] W491:=hS1938
    let B30:List Value:=[.slice A346 y269.length c347]
    refine zW (pv:=[(0,.slice A346 y269.length c347)]) (zs:=[.slice none 0 0]) (cs:=B30) Z Z Z Z Z (wAL Z wAT) zH zF ZJ Z Z Z Z Z hS1939 ?_
    intro W1932 b1933 hS1934
    have hr1941:RlL U1935 wBP [y269] B30:=(RlL.cons (R:=wBP) (x:=y269) (vs:=B30) ⟨A346,c347,rfl,hs1937⟩ RlL.nil)
    let B31:Res:=.row (some ⟨b1933,0,none⟩) 1 23 1 B30
    have hS1942:SW w [B1] U U1935 [B31,B18,B5,B6,B4,.blk b3 26 B0] W1932:=hS1934
    refine zk ?_ ?_
    ·have h1943:=h361.le le1936
     have hS1946:SW w [B1] U U1935 [B18,B31,B5,B6,B4,.blk b3 26 B0] W1932:=hS1942.pick [1,0,2,3,4,5] _ (by decide) rfl
     refine OKS.callHT 1 rfl rfl rfl rfl (zd rfl rfl Tryz.call15 (zM rfl (zM rfl (zM rfl zr))) rfl) hS1946 (fun hs=>wAR (⟨y265,y266,y267⟩:wAB) pb0 A344 c345 1 7 W1932 U1935 hs h1943 h428) rfl (T:=[pb0]) rfl ⟨fun b h=>(by cases h;exact .head _),trivial⟩ ?_
     rintro U1947 L1948 v1949 W1950 le1951 hS1952 ⟨A1953,c1954,rfl,rfl,h1955⟩
     let B32:Res:=.blk pb0 72 [.slice A1953 x427.bytes.length c1954,jV x427.next,.int .u32 x427.state]
     have hS1956:SW w [B1] U U1947 [B32,B31,B5,B6,B4,.blk b3 26 B0] W1950:=hS1952
     refine oR Z (zU Z Z Z) (zk ?_ ?_)
     ·refine zW (pv:=[(0,jV (w64 ((w64 (7 * (↑k99:Int))) + x426)))]) (zs:=[jV 0]) (cs:=[jV (w64 ((w64 (7 * (↑k99:Int))) + x426))]) Z Z Z Z Z (wAL Z wAT) zA zB zu Z Z Z Z Z hS1956 ?_
      intro W1957 b1958 hS1959
      have hS1961:SW w [B1] U U1947 [.row (some ⟨b1958,0,none⟩) 1 3 1 (nA KL.encI [w64 ((w64 (7 * (↑k99:Int))) + x426)]),B32,B31,B5,B6,B4,.blk b3 26 B0] W1957:=hS1959
      have h1976:=hs1937.le le1951
      have h1977:=hr1941.le le1951
      exact ko1448 _ _ ⟨U1947,A1953,c1954,A346,c347,(some ⟨b1958,0,none⟩),1,A346,c347,(some ⟨b1933,0,none⟩),1,B30,f351,f352,f353,f354,f357,f358,f359,rfl,rfl,rfl,rfl,rfl,rfl,rfl,rfl,rfl,rfl,rfl,(le1936.trans le1951),(hS1961.pick [1,3,4,5,6,0,2] _ (by decide) rfl),h1955,h1976,h1976,h1977⟩
     ·refine ZE Z Z Z Z (hS1956.ldB (j:=4) Z Z Z zX (v:=.slice A95 l94.length c96) Z) ?_
      have h1990:=hs1937.le le1951
      have h1991:=hr1941.le le1951
      exact ko1387 _ _ ⟨U1947,A1953,c1954,A346,c347,A346,c347,(some ⟨b1933,0,none⟩),1,B30,f351,f352,f353,f354,f357,f358,f359,rfl,rfl,rfl,rfl,rfl,rfl,rfl,rfl,rfl,rfl,rfl,(le1936.trans le1951),(hS1956.pick [0,2,3,4,5,1] _ (by decide) rfl),h1955,h1990,h1990,h1991⟩
    ·exact ZE rfl rfl rfl rfl (hS1942.ldB (j:=4) rfl rfl rfl zX (v:=.slice A95 l94.length c96) rfl) (ko1646 _ _ ⟨U1935,A346,c347,A346,c347,(some ⟨b1933,0,none⟩),1,B30,f351,f352,f353,f354,f357,f358,f359,rfl,rfl,rfl,rfl,rfl,rfl,rfl,rfl,rfl,le1936,(hS1942.pick [1,2,3,4,5,0] _ (by decide) rfl),hs1937,hs1937,hr1941⟩)
 ·rintro σ2001 W2002 ⟨U2024,A2017,c2018,A2019,c2020,A2021,c2022,c2023,fi2004,f2027,f2028,f2029,f2030,le2025,hS2026,h2031,h2032⟩
  have c2033:Hid (¬ ((↑((x28:Int) - 0).toNat:Int) < x28)):=zG (wBA)
  refine sR fL1 Z (oR Z (zV Z fi2004 f2030) (eN (zL (cF Z c2033 (ZR (zq (zq (ZO (zK (sR (.fl 0 (.fx 1 (.nil) .stop)) Z ?_))))))))))
  let B33:List Value:=[jV x6,.slice A2019 y107.length c2020,.slice A2021 y108.length c2022]
  refine oL Z (hS2026.ldBA (j:=3) Z Z f2029 ZY ZF (vs:=B33) Z Z) (OKS.st (j:=4) (vs:=B33) Z Z Z Z hS2026 Z f2028 Z Z ZF (zm Z) Z Z Z ?_)
  intro W2034 hS2035
  have hS2036:SW w [B1] U U2024 [.blk pb0 72 [.slice A2017 y104.length c2018,jV y105,.int .u32 y106],.row A2019 c2020 3 1 (nA KL.encI y107),.row A2021 c2022 23 1 c2023,.blk b22 26 B33,.blk b3 26 B33] W2034:=hS2035
  refine eN (zY ?_)
  cases hm100
  exact ⟨rfl,_,(wOa (v:=.agg B33.toArray) ⟨⟨_,f2028,(wOb ZY ZF (hS2036.blkAt (k:=4) rfl) (vs:=B33) rfl rfl)⟩,trivial⟩),U2024,_,(hS2036.pick [1,2,0] _ (by decide) rfl),A2019,c2020,A2021,c2022,c2023,A2017,c2018,rfl,rfl,h2032,h2031⟩
end Go.Proofs.YtbpllbhagaoocaaGreat
namespace Go.Proofs.YtbpllbhagaoocaaGreat
open Go.KL
set_option maxHeartbeats 4000000
theorem wEK (p0:Int) (p1:Int) (p2:Int) (w:World) (U:PHeap) (hS:St0 w U [])  {r:Bool} (hm:wBr p0 p1 p2=some r):Gv Tryz.prog 59 [jV p0,jV p1,jV p2] w (wCO w [] U (fun U_ L_ v=>v=.bool r/\L_=[])):=by
 unfold wBr at hm
 refine Gv.of Tryz.func59 Z Tryz.ntmps59 Tryz.results59 Z (sR fL1 Z (oA Z Z (eN (sR fL9 Z (oM Z Z (oM Z Z (oR Z (Runs.geq Z Z Z) (oM Z Z ?_))))))))
 by_cases c1:p1 <= p0
 ·have hm2:=hm;rw [if_pos c1] at hm2;replace c1:=zG c1
  refine zQ Z Z Z (wT Z c1) Z Z (zQ Z Z Z (wT Z c1) Z Z (rU Z (wT Z c1) (Runs.leq Z Z Z) (oR Z (ze Z (ZU c1.out) Z) (oA Z Z (eN (zY ?_))))))
  cases hm2
  exact ⟨Z,_,(ZC Z),U,_,hS,Z,Z⟩
 ·have hm3:=hm;rw [if_neg c1] at hm3;replace c1:=zG c1
  refine oF Z c1 (oF Z c1 (oF Z c1 (oR Z (zg Z (ZK c1.out) Z) (oA Z Z (eN (zY ?_))))))
  have hE:=nB hm3;first | subst r | cases hE
  exact ⟨Z,_,(ZC Z),U,_,hS,Z,Z⟩
theorem wDk (p0:List Int) (pA0:Option Addr) (pc0:Nat) (p1:wAE) (pb1:Nat) (pA1_1:Option Addr) (pc1_1:Nat) (pA1_2:Option Addr) (pc1_2:Nat) (w:World) (U:PHeap) (hS:St0 w U []) (ha0:Sl U 1 pA0 pc0 p0.length (nA KL.encI p0)) (ha1:Cl U pb1 0 [jV p1.Laps,.slice pA1_1 p1.Bibs.length pc1_1,.slice pA1_2 p1.Times.length pc1_2]) (ha2:Sl U 1 pA1_1 pc1_1 p1.Bibs.length (nA KL.encI p1.Bibs)) (ha3:SlR U wBP pA1_2 pc1_2 p1.Times) {r:Bool} (hm:wAp p0 p1=some r):Gv Tryz.prog 61 [.slice pA0 p0.length pc0,.pointer (some ⟨pb1,0,none⟩)] w (wCO w [] U (fun U_ L_ v=>v=.bool r/\L_=[])):=by
 unfold wAp at hm
 refine Gv.of Tryz.func61 Z Tryz.ntmps61 Tryz.results61 Z (sR fL1 Z (oA Z Z (eN (sR fL6 Z (oM Z Z (oR Z (zy Z Z zA) (oR Z (zO Z Z zD Z zB) (oL Z (hS.ldC (f:=0) ha1 (v:=jV p1.Laps) Z Z zN Z) (oR Z (Runs.leq Z Z Z) (oA Z Z (eN (zY ?_))))))))))))
 cases hm
 exact ⟨Z,_,(ZC Z),U,_,hS,Z,Z⟩
theorem wDG (p0:List (List Int)) (pA0:Option Addr) (pc0:Nat) (p1:((List Int)->Option Bool)) (pv1:Value) (w:World) (U:PHeap) (hS:St0 w U []) (ha0:SlR U wBP pA0 pc0 p0) (ha1:FnOK Tryz.prog U pv1 wNr wNs p1) {r:Bool} (hm:wBL p0 p1=some r):Gv Tryz.prog 60 [.slice pA0 p0.length pc0,pv1] w (wCO w [] U (fun U_ L_ v=>v=.bool r/\L_=[])):=by
 unfold wBL at hm
 refine Gv.of Tryz.func60 Z Tryz.ntmps60 Tryz.results60 Z (sR fL1 Z (oA Z Z (eN (zL (sR fL3 Z (oM Z Z (oR Z (zy Z Z zH) (oM Z Z (eN (zf ?_))))))))))
 have q:=wBb hm
 obtain ⟨r3,hX4⟩:=q
 have q:=wBa hX4
 obtain ⟨hle5,hf6⟩:=q
 replace hle5:=zG hle5
 refine Zd (fun k2 _ σ_ w_=>∃ (U_:PHeap),σ_ 9=jV (↑k2:Int)/\σ_ 1=pv1/\σ_ 7=.slice pA0 p0.length pc0/\σ_ 8=jV (↑p0.length:Int)/\PHeap.Le U U_/\sW w U U_ [] w_) hf6 ?_ ?_ ?_
 ·exact ⟨U,Z,Z,Z,Z,(zI _),hS⟩
 ·rintro k2 ⟨⟩ xx9 σ7 W8 hk12 ⟨U14,fi13,f17,f18,f19,le15,hS16⟩ hx10 hb11
  try dsimp only at hx10
  have c20:Hid ((↑k2:Int) < (↑p0.length:Int)):=zG (wBQ hk12)
  replace hk12:=zG hk12
  have hi21:Hid (w64 ((↑k2:Int) + 1)=(↑(k2 + 1):Int)):=zG (by have h1:=hle5.out;have h2:=c20.out;rw [wAa] <;> omega)
  refine sR fL1 Z (oR Z (zV Z fi13 f19) (eN (zL (cT Z c20 (kN (zL (zf (sR fL3 Z (bnK hx10 fun x22 h23 hm24=>?_)))))))))
  have h25:=ha0.le le15
  have q:=h25.el (wAP h23)
  obtain ⟨b26,off27,vs30,hA28,hC29,hr31⟩:=q
  obtain ⟨pA32,pc33,rfl,h34⟩:=hr31
  replace hC29:Cl U14 b26 (off27 + k2 * 1) [.slice pA32 x22.length pc33]:=hC29
  refine oR Z (zo Z f18 hA28 fi13 zH zF (wAu h23)) (oL Z (hS16.ldC (f:=0) hC29 (v:=.slice pA32 x22.length pc33) Z Z zR Z) (oA Z Z (eN (sR (.fl 0 (.fl 1 (.fx 2 (.fl 3 (.nil)) .stop))) Z (oM Z f17 (oM Z Z (bnK hm24 fun x35 h36 hm37=>?_)))))))
  have h44:=ha1.le le15
  refine OKS.callV (a:=x22) Z Z Z Z Z Z (zM Z zr) hS16 h44 ⟨pA32,pc33,Z,h34⟩ h36 ?_
  rintro U38 L39 v40 W41 le42 hS43 ⟨rfl,rfl⟩
  have hS45:sW w U U38 [] W41:=hS43
  refine oR Z (ZX Z Z) (eN (ifc hm37 ?_ ?_))
  ·intro c46 hm47
   refine ZN (nC c46.out) (ZQ (zt (zK (rR fL2 Z (oR Z (ZD (zU Z fi13 Z) (congrArg (jV) hi21.out)) (oM Z Z (ZA ?_)))))))
   obtain rfl:=nB hm47
   exact zK ⟨Z,_,Z,⟨U38,Z,f17,f18,f19,(le15.trans le42),hS45⟩⟩
  ·intro c46 hm48
   refine ZM (nF (c46.out)) (sR fL1 Z (oA Z Z (eN (zY (zS (zJ ?_))))))
   have q:=wAV hm48
   obtain ⟨v49,hm50,e51⟩:=q
   obtain rfl:=wBF hm hX4 (hb11 v49 e51)
   refine zJ (zS (zJ ?_))
   have hE:=nB hm50;first | subst r | cases hE
   exact ⟨Z,_,(ZC Z),U38,_,hS45,Z,Z⟩
 ·rintro ⟨⟩ σ52 W53 ⟨U56,fi55,f59,f60,f61,le57,hS58⟩ hb54
  have hm62:=wCD hm hX4 hb54
  try dsimp only at hm62
  have c63:Hid (¬ ((↑(((↑p0.length:Int):Int) - 0).toNat:Int) < (↑p0.length:Int))):=zG (wBA)
  refine sR fL1 Z (oR Z (zV Z fi55 f61) (eN (zL (cF Z c63 (ZR (zq (zq (ZO (zK (sR fL1 Z (oA Z Z (eN (zY ?_)))))))))))))
  have hE:=nB hm62;first | subst r | cases hE
  exact ⟨Z,_,(ZC Z),U56,_,hS58,Z,Z⟩
theorem wCV (p0:List Int) (pA0:Option Addr) (pc0:Nat) (p1:(Int->Option Bool)) (pv1:Value) (w:World) (U:PHeap) (hS:St0 w U []) (ha0:Sl U 1 pA0 pc0 p0.length (nA KL.encI p0)) (ha1:FnOK Tryz.prog U pv1 wLI wNt p1) {r:Bool} (hm:wAv p0 p1=some r):Gv Tryz.prog 62 [.slice pA0 p0.length pc0,pv1] w (wCO w [] U (fun U_ L_ v=>v=.bool r/\L_=[])):=by
 unfold wAv at hm
 refine Gv.of Tryz.func62 Z Tryz.ntmps62 Tryz.results62 Z (sR fL1 Z (oA Z Z (eN (zL (sR fL3 Z (oM Z Z (oR Z (zy Z Z zA) (oM Z Z (eN (zf ?_))))))))))
 have q:=wBb hm
 obtain ⟨r3,hX4⟩:=q
 have q:=wBa hX4
 obtain ⟨hle5,hf6⟩:=q
 replace hle5:=zG hle5
 refine Zd (fun k2 _ σ_ w_=>∃ (U_:PHeap),σ_ 9=jV (↑k2:Int)/\σ_ 1=pv1/\σ_ 7=.slice pA0 p0.length pc0/\σ_ 8=jV (↑p0.length:Int)/\PHeap.Le U U_/\sW w U U_ [] w_) hf6 ?_ ?_ ?_
 ·exact ⟨U,Z,Z,Z,Z,(zI _),hS⟩
 ·rintro k2 ⟨⟩ xx9 σ7 W8 hk12 ⟨U14,fi13,f17,f18,f19,le15,hS16⟩ hx10 hb11
  try dsimp only at hx10
  have c20:Hid ((↑k2:Int) < (↑p0.length:Int)):=zG (wBQ hk12)
  replace hk12:=zG hk12
  have hi21:Hid (w64 ((↑k2:Int) + 1)=(↑(k2 + 1):Int)):=zG (by have h1:=hle5.out;have h2:=c20.out;rw [wAa] <;> omega)
  refine sR fL1 Z (oR Z (zV Z fi13 f19) (eN (zL (cT Z c20 (kN (zL (zf (sR fL3 Z (bnK hx10 fun x22 h23 hm24=>?_)))))))))
  have h25:=ha0.le le15
  have q:=h25.el (fun _=>rfl) (wAP h23)
  obtain ⟨b26,off27,hA28,hC29⟩:=q
  refine oR Z (zo Z f18 hA28 fi13 zA zB (wAu h23)) (oL Z (hS16.ldC (f:=0) hC29 (v:=jV x22) Z Z zN Z) (oA Z Z (eN (sR (.fl 0 (.fl 1 (.fx 2 (.fl 3 (.nil)) .stop))) Z (oM Z f17 (oM Z Z (bnK hm24 fun x30 h31 hm32=>?_)))))))
  have h39:=ha1.le le15
  refine OKS.callV (a:=x22) Z Z Z Z Z Z (zM Z zr) hS16 h39 Z h31 ?_
  rintro U33 L34 v35 W36 le37 hS38 ⟨rfl,rfl⟩
  have hS40:sW w U U33 [] W36:=hS38
  refine oR Z (ZX Z Z) (eN (ifc hm32 ?_ ?_))
  ·intro c41 hm42
   refine ZN (nC c41.out) (ZQ (zt (zK (rR fL2 Z (oR Z (ZD (zU Z fi13 Z) (congrArg (jV) hi21.out)) (oM Z Z (ZA ?_)))))))
   obtain rfl:=nB hm42
   exact zK ⟨Z,_,Z,⟨U33,Z,f17,f18,f19,(le15.trans le37),hS40⟩⟩
  ·intro c41 hm43
   refine ZM (nF (c41.out)) (sR fL1 Z (oA Z Z (eN (zY (zS (zJ ?_))))))
   have q:=wAV hm43
   obtain ⟨v44,hm45,e46⟩:=q
   obtain rfl:=wBF hm hX4 (hb11 v44 e46)
   refine zJ (zS (zJ ?_))
   have hE:=nB hm45;first | subst r | cases hE
   exact ⟨Z,_,(ZC Z),U33,_,hS40,Z,Z⟩
 ·rintro ⟨⟩ σ47 W48 ⟨U51,fi50,f54,f55,f56,le52,hS53⟩ hb49
  have hm57:=wCD hm hX4 hb49
  try dsimp only at hm57
  have c58:Hid (¬ ((↑(((↑p0.length:Int):Int) - 0).toNat:Int) < (↑p0.length:Int))):=zG (wBA)
  refine sR fL1 Z (oR Z (zV Z fi50 f56) (eN (zL (cF Z c58 (ZR (zq (zq (ZO (zK (sR fL1 Z (oA Z Z (eN (zY ?_)))))))))))))
  have hE:=nB hm57;first | subst r | cases hE
  exact ⟨Z,_,(ZC Z),U51,_,hS53,Z,Z⟩
theorem wDl (p0:Int) (w:World) (U:PHeap) (hS:St0 w U [])  {r:Bool} (hm:wAq p0=some r):Gv Tryz.prog 63 [jV p0] w (wCO w [] U (fun U_ L_ v=>v=.bool r/\L_=[])):=by
 unfold wAq at hm
 refine Gv.of Tryz.func63 Z Tryz.ntmps63 Tryz.results63 Z (sR fL1 Z (oA Z Z (eN (sR (.fl 0 (.fx 1 (.fl 2 (.nil)) .stop)) Z (oM Z Z (bnK hm fun x1 h2 hm3=>zj 0 Z Z Z Z (zd Z Z Tryz.call59 (zM Z (zM Z (zM Z zr))) Z) hS (fun hs=>wEK p0 1 999 w U hs h2) (.inr Z) ?_))))))
 rintro U4 L5 v6 W7 le8 hS9 ⟨rfl,rfl⟩
 have hS10:sW w U U4 [] W7:=hS9
 refine oA Z Z (eN (zY ?_))
 have hE:=nB hm3;first | subst r | cases hE
 exact ⟨Z,_,(ZC Z),U4,_,hS10,Z,Z⟩
theorem wDH (p0:Int) (w:World) (U:PHeap) (hS:St0 w U [])  {r:Bool} (hm:wAk p0=some r):Gv Tryz.prog 65 [jV p0] w (wCO w [] U (fun U_ L_ v=>v=.bool r/\L_=[])):=by
 unfold wAk at hm
 refine Gv.of Tryz.func65 Z Tryz.ntmps65 Tryz.results65 Z (sR fL1 Z (oA Z Z (eN (sR (.fl 0 (.fx 1 (.fl 2 (.nil)) .stop)) Z (oM Z Z (bnK hm fun x1 h2 hm3=>zj 0 Z Z Z Z (zd Z Z Tryz.call59 (zM Z (zM Z (zM Z zr))) Z) hS (fun hs=>wEK p0 0 360000 w U hs h2) (.inr Z) ?_))))))
 rintro U4 L5 v6 W7 le8 hS9 ⟨rfl,rfl⟩
 have hS10:sW w U U4 [] W7:=hS9
 refine oA Z Z (eN (zY ?_))
 have hE:=nB hm3;first | subst r | cases hE
 exact ⟨Z,_,(ZC Z),U4,_,hS10,Z,Z⟩
theorem wDm (p0:List Int) (pA0:Option Addr) (pc0:Nat) (w:World) (U:PHeap) (hS:St0 w U []) (ha0:Sl U 1 pA0 pc0 p0.length (nA KL.encI p0)) {r:Bool} (hm:wAr p0=some r):Gv Tryz.prog 64 [.slice pA0 p0.length pc0] w (wCO w [] U (fun U_ L_ v=>v=.bool r/\L_=[])):=by
 unfold wAr at hm
 refine Gv.of Tryz.func64 Z Tryz.ntmps64 Tryz.results64 Z (sR fL1 Z (oA Z Z (eN (sR (.fl 0 (.fx 1 (.fl 2 (.nil)) .stop)) Z (oM Z Z ?_)))))
 have hF1:FnOK Tryz.prog U (.func (.func 65) #[] #[]) wLI wNt wAk:=⟨65,[],[],rfl,Tryz.call65,fun U1 w1 x y vs le hs ha hm=>by obtain rfl:=ha;exact wDH x w1 U1 hs  hm⟩
 refine bnK hm fun x2 h3 hm4=>zj 0 Z Z Z Z (zd Z Z Tryz.call62 (zM Z (zM Z zr)) Z) hS (fun hs=>wCV p0 pA0 pc0 wAk (.func (.func 65) #[] #[]) w U hs ha0 hF1 h3) (.inr Z) ?_
 rintro U5 L6 v7 W8 le9 hS10 ⟨rfl,rfl⟩
 have hS11:sW w U U5 [] W8:=hS10
 refine oA Z Z (eN (zY ?_))
 have hE:=nB hm4;first | subst r | cases hE
 exact ⟨Z,_,(ZC Z),U5,_,hS11,Z,Z⟩
theorem wGS (p0:List Int) (pA0:Option Addr) (pc0:Nat) (w:World) (U:PHeap) (hS:St0 w U []) (ha0:Sl U 1 pA0 pc0 p0.length (nA KL.encI p0)) {r:Bool} (hm:wBo p0=some r):Gv Tryz.prog 66 [.slice pA0 p0.length pc0] w (wCO w [] U (fun U_ L_ v=>v=.bool r/\L_=[])):=by
 unfold wBo at hm
 refine Gv.of Tryz.func66 Z Tryz.ntmps66 Tryz.results66 Z (sR fL1 Z (oA Z Z (eN (sR (.fx 0 (.fl 1 (.nil)) .stop) Z (OKS.makeMap Z Z Z Z Z hS ?_)))))
 intro W1 b2 hS3
 have hr4:=MpR.nil wLJ wMA
 refine oA Z Z (eN (zL (sR fL3 Z (oM Z Z (oR Z (zy Z Z zA) (oM Z Z (eN (zf ?_))))))))
 have q:=wBb hm
 obtain ⟨r21,hX22⟩:=q
 have q:=wBa hX22
 obtain ⟨hle23,hf24⟩:=q
 replace hle23:=zG hle23
 refine Zd (fun k20 l17 σ_ w_=>∃ (U_:PHeap) (es18:Array MapEntry) (ck19:Nat),σ_ 9=jV (↑k20:Int)/\σ_ 3=.map (some b2)/\σ_ 7=.slice pA0 p0.length pc0/\σ_ 8=jV (↑p0.length:Int)/\PHeap.Le U U_/\sW w U U_ [.obj b2 (.map es18 ck19)] w_/\MpR es18 wLJ wMA l17) hf24 ?_ ?_ ?_
 ·exact ⟨U,#[],0,Z,Z,Z,Z,(zI _),hS3,hr4⟩
 ·rintro k20 l17 xx27 σ25 W26 hk30 ⟨U32,es18,ck19,fi31,f35,f36,f37,le33,hS34,h38⟩ hx28 hb29
  have c39:Hid ((↑k20:Int) < (↑p0.length:Int)):=zG (wBQ hk30)
  replace hk30:=zG hk30
  have hi40:Hid (w64 ((↑k20:Int) + 1)=(↑(k20 + 1):Int)):=zG (by have h1:=hle23.out;have h2:=c39.out;rw [wAa] <;> omega)
  refine sR fL1 Z (oR Z (zV Z fi31 f37) (eN (zL (cT Z c39 (kN (zL (zf (sR fL3 Z (bnK hx28 fun x41 h42 hm43=>?_)))))))))
  have h44:=ha0.le le33
  have q:=h44.el (fun _=>rfl) (wAP h42)
  obtain ⟨b45,off46,hA47,hC48⟩:=q
  refine oR Z (zo Z f36 hA47 fi31 zA zB (wAu h42)) (oL Z (hS34.ldC (f:=0) hC48 (v:=jV x41) Z Z zN Z) (oA Z Z (eN (zL (sR fL3 Z (oM Z f35 (oM Z Z (oL Z (hS34.lookup1 (j:=0) (mk:=wLJ) (mv:=wMA) (a:=x41) (z:=false) Z Z Z Z (wCE Tryz.runUnderlying211) wLK Tryz.zeroValue4 h38) (eN (ifc hm43 ?_ ?_))))))))))
  ·intro c49 hm50
   refine ZM (congrArg nD c49.out) (sR fL1 Z (oA Z Z (eN (zY (zJ (zS (zJ ?_)))))))
   have q:=wAV hm50
   obtain ⟨v51,hm52,e53⟩:=q
   obtain rfl:=wBF hm hX22 (hb29 v51 e53)
   refine zJ (zS (zJ ?_))
   have hE:=nB hm52;first | subst r | cases hE
   exact ⟨rfl,_,(ZC rfl),U32,_,(hS34.pick [] _ (by decide) rfl),rfl,rfl⟩
  ·intro c49 hm54
   refine ZN (congrArg nD (nG.2 c49.out)) (kN (rR (.fl 0 (.fl 1 (.fx 2 (.nil) .stop))) rfl (zQ rfl rfl rfl rfl rfl f35 (zQ rfl rfl rfl rfl rfl rfl (OKS.mapPut (x:=.tmp 16) (y:=.tmp 17) (j:=0) (mk:=wLJ) (mv:=wMA) (a:=x41) (v:=true) rfl rfl rfl (by first | exact .inl rfl | exact .inr rfl) hS34 rfl rfl rfl rfl (wCE Tryz.runUnderlying211) wLK h38 rfl ?_)))))
   intro es55 ck56 W57 hr58 hS59
   have hS60:sW w U U32 [.obj b2 (.map es55 ck56)] W57:=hS59
   refine ZA (zt (zK (rR fL2 Z (oR Z (ZD (zU Z fi31 Z) (congrArg (jV) hi40.out)) (oM Z Z (ZA ?_))))))
   obtain rfl:=nB hm54
   exact zK ⟨Z,_,Z,⟨U32,es55,ck56,Z,f35,f36,f37,le33,hS60,hr58⟩⟩
 ·rintro y68 σ64 W65 ⟨U71,e69,c70,fi67,f74,f75,f76,le72,hS73,h77⟩ hb66
  have hm78:=wCD hm hX22 hb66
  have c79:Hid (¬ ((↑(((↑p0.length:Int):Int) - 0).toNat:Int) < (↑p0.length:Int))):=zG (wBA)
  refine sR fL1 Z (oR Z (zV Z fi67 f76) (eN (zL (cF Z c79 (ZR (zq (zq (ZO (zK (sR fL1 Z (oA Z Z (eN (zY ?_)))))))))))))
  have hE:=nB hm78;first | subst r | cases hE
  exact ⟨rfl,_,(ZC rfl),U71,_,(hS73.pick [] _ (by decide) rfl),rfl,rfl⟩
theorem wCd (p0:wAE) (pA0_1:Option Addr) (pc0_1:Nat) (pA0_2:Option Addr) (pc0_2:Nat) (w:World) (U:PHeap) (hS:St0 w U []) (ha0:Sl U 1 pA0_1 pc0_1 p0.Bibs.length (nA KL.encI p0.Bibs)) (ha1:SlR U wBP pA0_2 pc0_2 p0.Times) {r:Int} (hm:wBG p0=some r):Gv Tryz.prog 25 [.agg #[jV p0.Laps,.slice pA0_1 p0.Bibs.length pc0_1,.slice pA0_2 p0.Times.length pc0_2]] w (wCO w [] U (fun U_ L_ v=>v=jV r/\L_=[])):=by
 unfold wBG at hm
 refine Gv.of Tryz.func25 Z Tryz.ntmps25 Tryz.results25 Z (sR (.fx 0 (.fl 1 (.nil)) .stop) Z ?_)
 let B0:List Value:=[jV p0.Laps,.slice pA0_1 p0.Bibs.length pc0_1,.slice pA0_2 p0.Times.length pc0_2]
 refine Zh (cs:=B0) rfl rfl rfl rfl rfl rfl (by rfl) hS ?_
 intro W1 b2 hS3
 have q:=hS3.freeze (k:=0) rfl
 obtain ⟨U5,le6,hC7,hS8⟩:=q
 replace hC7:=Cl.of hC7
 have hS9:sW w U U5 [] W1:=hS8
 replace hC7:Cl U5 b2 0 B0:=hC7
 refine oA Z Z (eN (zL (zf (sR (.fl 0 (.fl 1 (.fx 2 (wPZ (.fx 23 (wOJ (.nil)) .stop)) .stop))) Z (oR Z (zO Z Z zD Z zB) (oL Z (hS9.ldC (f:=0) hC7 (v:=jV p0.Laps) Z Z zN Z) (bnK hm fun x10 h11 hm12=>zj 0 Z Z Z Z (zd Z Z Tryz.call59 (zM Z (zM Z (zM Z zr))) Z) hS9 (fun hs=>wEK p0.Laps 1 20 W1 U5 hs h11) (.inr Z) ?_)))))))
 rintro U13 L14 v15 W16 le17 hS18 ⟨rfl,rfl⟩
 have hS19:sW w U U13 [] W16:=hS18
 refine oR Z (ZX Z Z) (oM Z Z (ifc hm12 ?_ ?_))
 ·intro c20 hm21
  refine zZ Z Z Z (zP Z Z (nC c20.out)) (fun _=>zO Z Z zD Z zF) ?_
  have h22:=hC7.le le17
  refine ZB Z Z Z (zP Z Z (nC c20.out)) (hS19.ldC (f:=1) h22 (v:=.slice pA0_1 p0.Bibs.length pc0_1) Z Z zR Z) Z (zZ Z Z Z (zP Z Z (nC c20.out)) (fun _=>zy Z Z zA) (zZ Z Z Z (zP Z Z (nC c20.out)) (fun _=>Runs.gtr Z Z Z) (oR Z (zg Z (nC c20.out) Z) (oM Z Z (ifc hm21 ?_ ?_)))))
  ·intro c23 hm24
   refine oT Z c23 (oT Z c23 (oT Z c23 (oT Z c23 (oT Z c23 (oT Z c23 (oT Z c23 (oR Z (ze Z (ZU c23.out) Z) (oM Z Z (oN Z (oN Z (oN Z (OKS.px Z Z Z (zn Z Z Z Z) (oN Z (oR Z (ze Z Z Z) (oA Z Z (eN (ZM Z (sR fL1 Z (oA Z Z (eN (zY (zS (zJ ?_)))))))))))))))))))))))
   cases hm24
   exact ⟨Z,_,(ZC Z),U13,_,hS19,Z,Z⟩
  ·intro c23 hm25
   refine rU Z (wF Z c23) (zO Z Z zD Z ZH) (ZB Z Z Z (wF Z c23) (hS19.ldC (f:=2) h22 (v:=.slice pA0_2 p0.Times.length pc0_2) Z Z zX Z) Z (rU Z (wF Z c23) (zy Z Z zH) (rU Z (wF Z c23) (zO Z Z zD Z zF) (ZB Z Z Z (wF Z c23) (hS19.ldC (f:=1) h22 (v:=.slice pA0_1 p0.Bibs.length pc0_1) Z Z zR Z) Z (rU Z (wF Z c23) (zy Z Z zA) (rU Z (wF Z c23) (Runs.neq Z Z Z) (oR Z (zg Z (ZK c23.out) Z) (oM Z Z (ifc hm25 ?_ ?_)))))))))
   ·intro c26 hm27
    refine zZ Z Z Z (zP Z Z (ZK (fun h=>h c26.out))) (fun _=>zO Z Z zD Z ZH) (ZB Z Z Z (zP Z Z (ZK (fun h=>h c26.out))) (hS19.ldC (f:=2) h22 (v:=.slice pA0_2 p0.Times.length pc0_2) Z Z zX Z) Z (zZ Z Z Z (zP Z Z (ZK (fun h=>h c26.out))) (fun _=>Runs.mkf Z zr (zM Z zr)) ?_))
    have h28:=ha1.le le6
    have h29:=h28.le le17
    have h30:=ha0.le le6
    have h31:=h30.le le17
    have hF32:FnOK Tryz.prog U13 (.func (.func 61) #[] #[.pointer (some ⟨b2,0,none⟩)]) wNr wNs (fun x=>wAp x p0):=⟨61,[],[.pointer (some ⟨b2,0,none⟩)],rfl,Tryz.call61,fun U1 w1 x y vs le hs ha hm=>by obtain ⟨pA_0,pc_0,rfl,hq0_0⟩:=ha;exact wDk x pA_0 pc_0 p0 b2 pA0_1 pc0_1 pA0_2 pc0_2 w1 U1 hs hq0_0 (h22.le le) (h31.le le) (h29.le le) hm⟩
    refine bnK hm27 fun x33 h34 hm35=>zj 0 Z Z Z (zP Z Z (ZK (fun h=>h c26.out))) (zd Z Z Tryz.call60 (zM Z (zM Z zr)) Z) hS19 (fun hs=>wDG p0.Times pA0_2 pc0_2 (fun x=>wAp x p0) (.func (.func 61) #[] #[.pointer (some ⟨b2,0,none⟩)]) W16 U13 hs h29 hF32 h34) (.inr Z) ?_
    rintro U36 L37 v38 W39 le40 hS41 ⟨rfl,rfl⟩
    have hS42:sW w U U36 [] W39:=hS41
    refine zZ Z Z Z (zP Z Z (ZK (fun h=>h c26.out))) (fun _=>ZX Z Z) (oR Z (zg Z (ZK (fun h=>h c26.out)) Z) (oA Z Z (eN (ifc hm35 ?_ ?_))))
    ·intro c43 hm44
     refine ZN (nC c43.out) (sR (.fl 0 (.fl 1 (.fx 2 (fC3_6 (.fx 7 (wPb (.nil)) .stop)) .stop))) Z (oR Z (zO Z Z zD Z zF) ?_))
     have h45:=h22.le le40
     refine oL Z (hS42.ldC (f:=1) h45 (v:=.slice pA0_1 p0.Bibs.length pc0_1) Z Z zR Z) ?_
     have h46:=h31.le le40
     have hF47:FnOK Tryz.prog U36 (.func (.func 63) #[] #[]) wLI wNt wAq:=⟨63,[],[],rfl,Tryz.call63,fun U1 w1 x y vs le hs ha hm=>by obtain rfl:=ha;exact wDl x w1 U1 hs  hm⟩
     refine bnK hm44 fun x48 h49 hm50=>zj 0 Z Z Z Z (zd Z Z Tryz.call62 (zM Z (zM Z zr)) Z) hS42 (fun hs=>wCV p0.Bibs pA0_1 pc0_1 wAq (.func (.func 63) #[] #[]) W39 U36 hs h46 hF47 h49) (.inr Z) ?_
     rintro U51 L52 v53 W54 le55 hS56 ⟨rfl,rfl⟩
     have hS57:sW w U U51 [] W54:=hS56
     refine oR Z (ZX Z Z) (oM Z Z (ifc hm50 ?_ ?_))
     ·intro c58 hm59
      refine zZ Z Z Z (zP Z Z (nC c58.out)) (fun _=>zO Z Z zD Z ZH) ?_
      have h60:=h45.le le55
      refine ZB Z Z Z (zP Z Z (nC c58.out)) (hS57.ldC (f:=2) h60 (v:=.slice pA0_2 p0.Times.length pc0_2) Z Z zX Z) Z ?_
      have h61:=h29.le le40
      have h62:=h61.le le55
      have hF63:FnOK Tryz.prog U51 (.func (.func 64) #[] #[]) wNr wNs wAr:=⟨64,[],[],rfl,Tryz.call64,fun U1 w1 x y vs le hs ha hm=>by obtain ⟨pA_0,pc_0,rfl,hq0_0⟩:=ha;exact wDm x pA_0 pc_0 w1 U1 hs hq0_0 hm⟩
      refine bnK hm59 fun x64 h65 hm66=>zj 0 Z Z Z (zP Z Z (nC c58.out)) (zd Z Z Tryz.call60 (zM Z (zM Z zr)) Z) hS57 (fun hs=>wDG p0.Times pA0_2 pc0_2 wAr (.func (.func 64) #[] #[]) W54 U51 hs h62 hF63 h65) (.inr Z) ?_
      rintro U67 L68 v69 W70 le71 hS72 ⟨rfl,rfl⟩
      have hS73:sW w U U67 [] W70:=hS72
      refine zZ Z Z Z (zP Z Z (nC c58.out)) (fun _=>ZX Z Z) (oR Z (zg Z (nC c58.out) Z) (oA Z Z (eN (ifc hm66 ?_ ?_))))
      ·intro c74 hm75
       refine ZN (nC c74.out) (sR (.fl 0 (.fl 1 (.fx 2 (.fl 3 (.nil)) .stop))) Z (oR Z (zO Z Z zD Z zF) ?_))
       have h76:=h60.le le71
       refine oL Z (hS73.ldC (f:=1) h76 (v:=.slice pA0_1 p0.Bibs.length pc0_1) Z Z zR Z) ?_
       have h77:=h46.le le55
       have h78:=h77.le le71
       refine bnK hm75 fun x79 h80 hm81=>zj 0 Z Z Z Z (zd Z Z Tryz.call66 (zM Z zr) Z) hS73 (fun hs=>wGS p0.Bibs pA0_1 pc0_1 W70 U67 hs h78 h80) (.inr Z) ?_
       rintro U82 L83 v84 W85 le86 hS87 ⟨rfl,rfl⟩
       have hS88:sW w U U82 [] W85:=hS87
       refine oA Z Z (eN (ifc hm81 ?_ ?_))
       ·intro c89 hm90
        refine ZM (congrArg nD c89.out) (sR fL1 Z (oA Z Z (eN (zY (zS (zJ ?_))))))
        cases hm90
        exact ⟨Z,_,(ZC Z),U82,_,hS88,Z,Z⟩
       ·intro c89 hm91
        refine ZN (congrArg nD (nG.2 c89.out)) (ZQ (zt (zK (zL (zL (CK.fresh fun σ92 hσ93=>?_))))))
        have f94:σ92 1=.pointer (some ⟨b2,0,none⟩):=(hσ93 1).trans rfl
        clear hσ93
        refine rR fL4 Z (oR Z (zO Z f94 zD Z ZH) ?_)
        have h95:=h76.le le86
        refine oL Z (hS88.ldC (f:=2) h95 (v:=.slice pA0_2 p0.Times.length pc0_2) Z Z zX Z) (oR Z (zy Z Z zH) (oM Z Z (eN (zf ?_))))
        have q:=wBb hm91
        obtain ⟨r98,hX99⟩:=q
        have q:=wBa hX99
        obtain ⟨hle100,hf101⟩:=q
        replace hle100:=zG hle100
        refine Zd (fun k97 _ σ_ w_=>∃ (U_:PHeap),σ_ 51=jV (↑k97:Int)/\σ_ 49=.slice pA0_2 p0.Times.length pc0_2/\σ_ 50=jV (↑p0.Times.length:Int)/\PHeap.Le U82 U_/\sW w U U_ [] w_) hf101 ?_ ?_ ?_
        ·exact ⟨U82,Z,Z,Z,(zI _),hS88⟩
        ·rintro k97 ⟨⟩ xx104 σ102 W103 hk107 ⟨U109,fi108,f112,f113,le110,hS111⟩ hx105 hb106
         try dsimp only at hx105
         have c114:Hid ((↑k97:Int) < (↑p0.Times.length:Int)):=zG (wBQ hk107)
         replace hk107:=zG hk107
         have hi115:Hid (w64 ((↑k97:Int) + 1)=(↑(k97 + 1):Int)):=zG (by have h1:=hle100.out;have h2:=c114.out;rw [wAa] <;> omega)
         refine sR fL1 Z (oR Z (zV Z fi108 f113) (eN (zL (cT Z c114 (kN (zL (zf (sR fL3 Z (bnK hx105 fun x116 h117 hm118=>?_)))))))))
         have h119:=h62.le le71
         have h120:=h119.le le86
         have h121:=h120.le le110
         have q:=h121.el (wAP h117)
         obtain ⟨b122,off123,vs126,hA124,hC125,hr127⟩:=q
         obtain ⟨pA128,pc129,rfl,h130⟩:=hr127
         replace hC125:Cl U109 b122 (off123 + k97 * 1) [.slice pA128 x116.length pc129]:=hC125
         refine oR Z (zo Z f112 hA124 fi108 zH zF (wAu h117)) (oL Z (hS111.ldC (f:=0) hC125 (v:=.slice pA128 x116.length pc129) Z Z zR Z) (oA Z Z (eN (sR fL1 Z (oA Z Z (eN (zf ?_)))))))
         have q:=wBb hm118
         obtain ⟨r133,hX134⟩:=q
         have q:=wBa hX134
         obtain ⟨hle135,hf136⟩:=q
         replace hle135:=zG hle135
         refine Zd (fun k132 _ σ_ w_=>∃ (U_:PHeap),σ_ 5=jV (1 + ↑k132:Int)/\σ_ 4=.slice pA128 x116.length pc129/\σ_ 49=.slice pA0_2 p0.Times.length pc0_2/\σ_ 50=jV (↑p0.Times.length:Int)/\σ_ 51=jV (↑k97:Int)/\PHeap.Le U109 U_/\sW w U U_ [] w_) hf136 ?_ ?_ ?_
         ·exact ⟨U109,Z,Z,f112,f113,fi108,(zI _),hS111⟩
         ·rintro k132 ⟨⟩ xx139 σ137 W138 hk142 ⟨U144,fi143,f147,f148,f149,f150,le145,hS146⟩ hx140 hb141
          try dsimp only at hx140
          have c151:Hid ((1 + ↑k132:Int) < (↑x116.length:Int)):=zG (lp_lt hk142)
          replace hk142:=zG hk142
          have hi152:Hid (w64 ((1 + ↑k132:Int) + 1)=(1 + ↑(k132 + 1):Int)):=zG (by have h1:=hle135.out;have h2:=c151.out;rw [wAa] <;> omega)
          refine zL (sR fL4 rfl (zQ rfl rfl rfl rfl rfl fi143 (zQ rfl rfl rfl rfl rfl f147 (zZ rfl rfl rfl rfl (fun _=>zy rfl rfl zA) (zZ rfl rfl rfl rfl (fun _=>zV rfl rfl rfl) (eN (cT Z c151 (kN (zL (zf (zL (Zb ZW [3,3,3,1,3,3,3,3,1,3] fL10 (by kernel_rfl) ?_))))))))))))
          have hS153:=hS146.drew
          generalize hw_W154:({ W138 with drawn:=W138.drawn + 1 }:World)=W154 at hS153 ⊢
          refine oM Z f147 (oM Z fi143 (bnK hx140 fun x155 h156 hm157=>?_))
          have h158:=h130.le le145
          have q:=h158.el (fun _=>rfl) (wAP h156)
          obtain ⟨b159,off160,hA161,hC162⟩:=q
          refine oR Z (ZV Z Z hA161 Z zA zB (wCr h156) (wCy h156)) (oL Z (hS153.ldC (f:=0) hC162 (v:=jV x155) Z Z zN Z) (oM Z f147 (oM Z fi143 (oR Z (Runs.subw Z Z Z) (bnK hm157 fun x163 h164 hm165=>?_)))))
          have q:=h158.el (fun _=>rfl) (wAP h164)
          obtain ⟨b166,off167,hA168,hC169⟩:=q
          refine oR Z (ZV Z Z hA168 Z zA zB (wCr h164) (wCy h164)) (oL Z (hS153.ldC (f:=0) hC169 (v:=jV x163) Z Z zN Z) (oR Z (Runs.leq Z Z Z) (eN (ifc hm165 ?_ ?_))))
          ·intro c170 hm171
           refine cT Z c170 (sR fL1 Z (oA Z Z (eN (zY (zS (zJ ?_))))))
           have q:=wAV hm171
           obtain ⟨v172,hm173,e174⟩:=q
           obtain rfl:=wBF hm118 hX134 (hb141 v172 e174)
           refine zJ (zS (zS (zJ ?_)))
           have q:=wAV hm173
           obtain ⟨v175,hm176,e177⟩:=q
           obtain rfl:=wBF hm91 hX99 (hb106 v175 e177)
           refine zJ (zS (zJ ?_))
           cases hm176
           exact ⟨Z,_,(ZC Z),U144,_,hS153,Z,Z⟩
          ·intro c170 hm178
           refine cF Z c170 (ZQ (zt (zK (rR fL3 Z (oM Z fi143 (oR Z (ZD (zU Z Z Z) (congrArg (jV) hi152.out)) (oA Z Z (ZA ?_))))))))
           obtain rfl:=nB hm178
           exact zK ⟨Z,_,Z,⟨U144,Z,f147,f148,f149,f150,le145,hS153⟩⟩
         ·rintro ⟨⟩ σ179 W180 ⟨U183,fi182,f186,f187,f188,f189,le184,hS185⟩ hb181
          have hm190:=wCD hm118 hX134 hb181
          try dsimp only at hm190
          have c191:Hid (¬ ((1 + ↑(((↑x116.length:Int):Int) - 1).toNat:Int) < (↑x116.length:Int))):=zG (wOZ)
          refine zL (sR fL4 Z (oM Z fi182 (oM Z f186 (oR Z (zy Z Z zA) (oR Z (zV Z Z Z) (eN (cF Z c191 (ZR (zq (zq (ZO (zt (zK (rR fL2 Z (oR Z (ZD (zU Z f189 Z) (congrArg (jV) hi115.out)) (oM Z Z (ZA ?_)))))))))))))))))
          obtain rfl:=nB hm190
          exact zK ⟨Z,_,Z,⟨U183,Z,f187,f188,(le110.trans le184),hS185⟩⟩
        ·rintro ⟨⟩ σ192 W193 ⟨U196,fi195,f199,f200,le197,hS198⟩ hb194
         have hm201:=wCD hm91 hX99 hb194
         try dsimp only at hm201
         have c202:Hid (¬ ((↑(((↑p0.Times.length:Int):Int) - 0).toNat:Int) < (↑p0.Times.length:Int))):=zG (wBA)
         refine sR fL1 Z (oR Z (zV Z fi195 f200) (eN (zL (cF Z c202 (ZR (zq (zq (ZO (zK (sR fL1 Z (oA Z Z (eN (zY ?_)))))))))))))
         cases hm201
         exact ⟨Z,_,(ZC Z),U196,_,hS198,Z,Z⟩
      ·intro c74 hm203
       refine ZM (nF (c74.out)) (sR fL1 Z (oA Z Z (eN (zY (zS (zJ ?_))))))
       cases hm203
       exact ⟨Z,_,(ZC Z),U67,_,hS73,Z,Z⟩
     ·intro c58 hm204
      refine zC Z Z Z (zn Z Z (nF (c58.out)) Z) (zC Z Z Z (zn Z Z (nF (c58.out)) Z) (OKS.px Z Z Z (zn Z Z (nF (c58.out)) Z) (zC Z Z Z (zn Z Z (nF (c58.out)) Z) (oR Z (ze Z (nF (c58.out)) Z) (oA Z Z (eN (ZM Z (sR fL1 Z (oA Z Z (eN (zY (zS (zJ ?_)))))))))))))
      cases hm204
      exact ⟨Z,_,(ZC Z),U51,_,hS57,Z,Z⟩
    ·intro c43 hm205
     refine ZM (nF (c43.out)) (sR fL1 Z (oA Z Z (eN (zY (zS (zJ ?_))))))
     cases hm205
     exact ⟨Z,_,(ZC Z),U36,_,hS42,Z,Z⟩
   ·intro c26 hm206
    refine oT Z c26 (oT Z c26 (oT Z c26 (OKS.px Z Z Z (zn Z Z (ZU c26.out) Z) (oT Z c26 (oR Z (ze Z (ZU c26.out) Z) (oA Z Z (eN (ZM Z (sR fL1 Z (oA Z Z (eN (zY (zS (zJ ?_))))))))))))))
    cases hm206
    exact ⟨Z,_,(ZC Z),U13,_,hS19,Z,Z⟩
 ·intro c20 hm207
  refine zC Z Z Z (zn Z Z (nF (c20.out)) Z) (zC Z Z Z (zn Z Z (nF (c20.out)) Z) (zC Z Z Z (zn Z Z (nF (c20.out)) Z) (zC Z Z Z (zn Z Z (nF (c20.out)) Z) (oR Z (ze Z (nF (c20.out)) Z) (oM Z Z (oN Z (oN Z (oN Z (oN Z (oN Z (oN Z (oN Z (oR Z (ze Z Z Z) (oM Z Z (oN Z (oN Z (oN Z (OKS.px Z Z Z (zn Z Z Z Z) (oN Z (oR Z (ze Z Z Z) (oA Z Z (eN (ZM Z (sR fL1 Z (oA Z Z (eN (zY (zS (zJ ?_)))))))))))))))))))))))))))))
  cases hm207
  exact ⟨Z,_,(ZC Z),U13,_,hS19,Z,Z⟩
theorem wDI (p0:List Int) (p1:Int) (w:World) (U:PHeap) (hS:St0 w U [])  {r:(List Int)} (hm:wAt p0 p1=some r):Gv Tryz.prog 157 [.slice none 0 0,jV p1] w (wCO w [] U (fun U_ L_ v=>∃ (A0:Option Addr) (c0:Nat),v=.slice A0 r.length c0/\L_=[.row A0 c0 3 1 (nA KL.encI r)])):=by
 unfold wAt at hm
 refine Gv.of Tryz.func157 Z Tryz.ntmps157 Tryz.results157 Z (sR fL1 Z (oA Z Z (eN (zL (sR fL2 Z (oM Z Z (oR Z (zV Z Z Z) (eN ?_))))))))
 by_cases c1:p1 < 0
 ·have hm2:=hm;rw [if_pos c1] at hm2;replace c1:=zG c1
  refine cT Z c1 (rR (.fx 0 (.fx 1 (.nil) .stop) .stop) Z ?_)
  cases hm2
 ·have hm3:=hm;rw [if_neg c1] at hm3;replace c1:=zG c1
  refine cF Z c1 (kN (zL (sR fL8 rfl (zQ rfl rfl rfl rfl rfl rfl (zQ rfl rfl rfl rfl rfl rfl (zZ rfl rfl rfl rfl (fun _=>Runs.capn rfl rfl zA) (zQ rfl rfl rfl rfl rfl rfl (zZ rfl rfl rfl rfl (fun _=>zy rfl rfl zA) (zZ rfl rfl rfl rfl (fun _=>ZD (Runs.subw rfl rfl rfl) (congrArg (jV) (show w64 (0 - 0)=0 by decide))) (zZ rfl rfl rfl rfl (fun _=>Runs.subw rfl rfl rfl) (OKS.ra rfl rfl rfl rfl rfl rfl (eN (sR fL2 rfl (zQ rfl rfl rfl rfl rfl rfl (zZ rfl rfl rfl rfl (fun _=>Runs.gtr rfl rfl rfl) (eN (ifc hm3 ?_ ?_)))))))))))))))))
  ·intro c4 hm5
   refine cT Z c4 (rR (wMP (.fx 5 (fC6_9 (.nil)) .stop)) rfl (zQ rfl rfl rfl rfl rfl rfl (zQ rfl rfl rfl rfl rfl rfl (zZ rfl rfl rfl rfl (fun _=>Runs.capn rfl rfl zA) (zZ rfl rfl rfl rfl (fun _=>ZD (Runs.slc (sz:=1) (a:=0) (b:=0) rfl rfl (.inr ⟨rfl,rfl⟩) (.inl ⟨_,rfl,rfl⟩) zA zB (by decide) (by decide) (by decide) (Nat.le_refl _)) rfl) (zQ rfl rfl rfl rfl rfl rfl (bnK hm5 fun x6 h7 hm8=>OKS.appendZ (enc:=KL.encI) (z:=(0:Int)) (xs:=x6) rfl rfl rfl rfl rfl zz Tryz.underlying3 wCP rfl rfl rfl rfl rfl hS rfl rfl h7 rfl ?_)))))))
   intro W9 A10 c11 hS12
   have hS14:sW w U U [.row A10 c11 3 1 (nA KL.encI x6)] W9:=hS12
   refine oM Z Z (oR Z (zy Z Z zA) ?_)
   have hp15:=hS14.rowCap (j:=0) rfl (by decide) (wAF (f:=KL.encI) (sz:=1) (fun _=>rfl) x6)
   refine zZ (v:=.slice A10 0 c11) Z Z Z Z (fun _=>ZD (Runs.slc (sz:=1) (a:=0) (b:=0) Z Z (.inr ⟨Z,Z⟩) (.inl ⟨_,Z,Z⟩) zA zB (Int.le_refl _) (Int.le_refl _) (Int.natCast_nonneg _) hp15) slc0) ?_
   have hS16:=hS14.cutRowM (enc:=KL.encI) (k:=0) (b:=0) rfl
   have hS17:sW w U U [.row A10 c11 3 1 (nA KL.encI ([]:List Int))] W9:=hS16
   refine oA Z Z (eN (sR fL2 Z (oM Z Z (oA Z Z (eN (zY ?_))))))
   cases hm8
   exact ⟨Z,_,(ZC Z),U,_,hS17,A10,c11,Z,Z⟩
  ·intro c4 hm18
   refine cF Z c4 (kN (sR fL2 Z (oM Z Z (oA Z Z (eN (zY ?_))))))
   have hS19:=hS.nilrow 3 1
   cases hm18
   exact ⟨Z,_,(ZC Z),U,_,hS19,none,0,Z,Z⟩
theorem wCo (p0:List (List Int)) (pA0:Option Addr) (pc0:Nat) (w:World) (U:PHeap) (hS:St0 w U []) (ha0:SlR U wBP pA0 pc0 p0) {r:(List Int)} (hm:wAl p0=some r):Gv Tryz.prog 118 [.slice pA0 p0.length pc0] w (wCO w [] U (fun U_ L_ v=>∃ (A0:Option Addr) (c0:Nat),v=.slice A0 r.length c0/\L_=[.row A0 c0 3 1 (nA KL.encI r)])):=by
 unfold wAl at hm
 refine Gv.of Tryz.func118 Z Tryz.ntmps118 Tryz.results118 Z (sR fL1 Z (oA Z Z (eN (sR fL1 Z (oA Z Z (eN (zL (sR fL3 Z (oM Z Z (oR Z (zy Z Z zH) (oM Z Z (eN (zf (bnK hm fun y12 hf9 hm8=>?_))))))))))))))
 have q:=wBw hf9
 obtain ⟨hle10,hf11⟩:=q
 replace hle10:=zG hle10
 refine CK.forN' (fun k7 x6 σ_ w_=>∃ (U_:PHeap),σ_ 11=jV (↑k7:Int)/\σ_ 0=.slice pA0 p0.length pc0/\σ_ 3=jV x6/\σ_ 9=.slice pA0 p0.length pc0/\σ_ 10=jV (↑p0.length:Int)/\PHeap.Le U U_/\sW w U U_ [] w_) hf11 ?_ ?_ ?_
 ·exact ⟨U,Z,Z,Z,Z,Z,(zI _),hS⟩
 ·rintro k7 x6 xx15 σ13 W14 hk18 ⟨U20,fi19,f23,f24,f25,f26,le21,hS22⟩ hx16
  have c27:Hid ((↑k7:Int) < (↑p0.length:Int)):=zG (wBQ hk18)
  replace hk18:=zG hk18
  have hi28:Hid (w64 ((↑k7:Int) + 1)=(↑(k7 + 1):Int)):=zG (by have h1:=hle10.out;have h2:=c27.out;rw [wAa] <;> omega)
  refine sR fL1 Z (oR Z (zV Z fi19 f26) (eN (zL (cT Z c27 (kN (zL (zf (sR fL3 Z (bnK hx16 fun x29 h30 hm31=>?_)))))))))
  have h32:=ha0.le le21
  have q:=h32.el (wAP h30)
  obtain ⟨b33,off34,vs37,hA35,hC36,hr38⟩:=q
  obtain ⟨pA39,pc40,rfl,h41⟩:=hr38
  replace hC36:Cl U20 b33 (off34 + k7 * 1) [.slice pA39 x29.length pc40]:=hC36
  refine oR Z (zo Z f25 hA35 fi19 zH zF (wAu h30)) (oL Z (hS22.ldC (f:=0) hC36 (v:=.slice pA39 x29.length pc40) Z Z zR Z) (oA Z Z (eN (sR fL5 Z (oM Z f24 (oM Z Z (oR Z (zy Z Z zA) (oR Z (zU Z Z Z) (oA Z Z (eN (sR fL2 Z (oM Z Z (oR Z (zV Z Z Z) (eN (ifc hm31 ?_ ?_)))))))))))))))
  ·intro c42 hm43
   refine cT Z c42 (rR (.fx 0 (.fx 1 (.nil) .stop) .stop) Z ?_)
   cases hm43
  ·intro c42 hm44
   refine cF Z c42 (ZQ (zt (zK (rR fL2 Z (oR Z (ZD (zU Z fi19 Z) (congrArg (jV) hi28.out)) (oM Z Z (ZA ?_)))))))
   cases hm44
   exact zK ⟨Z,⟨U20,Z,f23,Z,f25,f26,le21,hS22⟩⟩
 ·rintro σ46 W47 ⟨U51,fi49,f54,f55,f56,f57,le52,hS53⟩
  have c58:Hid (¬ ((↑(((↑p0.length:Int):Int) - 0).toNat:Int) < (↑p0.length:Int))):=zG (wBA)
  refine sR fL1 Z (oR Z (zV Z fi49 f57) (eN (zL (cF Z c58 (ZR (zq (zq (ZO (zK (sR (.fl 0 (.fx 1 (.fl 2 (.nil)) .stop)) Z (oM Z f55 (bnK hm8 fun x59 h60 hm61=>zj 0 Z Z Z Z (zd Z Z Tryz.call157 (zM Z (zM Z zr)) Z) hS53 (fun hs=>wDI [] y12 W47 U51 hs h60) (.inr Z) ?_))))))))))))
  rintro U62 L63 v64 W65 le66 hS67 ⟨A68,c69,rfl,rfl⟩
  have hS71:sW w U U62 [.row A68 c69 3 1 (nA KL.encI x59)] W65:=hS67
  refine oA Z Z (eN (zL (sR fL3 Z (oM Z f54 (oR Z (zy Z Z zH) (oM Z Z (eN (zf (bnK hm61 fun y91 hf88 hm87=>?_)))))))))
  have q:=wBw hf88
  obtain ⟨hle89,hf90⟩:=q
  replace hle89:=zG hle89
  refine CK.forN' (fun k86 l83 σ_ w_=>∃ (U_:PHeap) (A84:Option Addr) (c85:Nat),σ_ 27=jV (↑k86:Int)/\σ_ 6=.slice A84 l83.length c85/\σ_ 25=.slice pA0 p0.length pc0/\σ_ 26=jV (↑p0.length:Int)/\PHeap.Le U62 U_/\sW w U U_ [.row A84 c85 3 1 (nA KL.encI l83)] w_) hf90 ?_ ?_ ?_
  ·exact ⟨U62,A68,c69,Z,Z,Z,Z,(zI _),hS71⟩
  ·rintro k86 l83 xx94 σ92 W93 hk97 ⟨U99,A84,c85,fi98,f102,f103,f104,le100,hS101⟩ hx95
   have c105:Hid ((↑k86:Int) < (↑p0.length:Int)):=zG (wBQ hk97)
   replace hk97:=zG hk97
   have hi106:Hid (w64 ((↑k86:Int) + 1)=(↑(k86 + 1):Int)):=zG (by have h1:=hle89.out;have h2:=c105.out;rw [wAa] <;> omega)
   refine sR fL1 Z (oR Z (zV Z fi98 f104) (eN (zL (cT Z c105 (kN (zL (zf (sR fL3 Z (bnK hx95 fun x107 h108 hm109=>?_)))))))))
   have h110:=ha0.le le52
   have h111:=h110.le le66
   have h112:=h111.le le100
   have q:=h112.el (wAP h108)
   obtain ⟨b113,off114,vs117,hA115,hC116,hr118⟩:=q
   obtain ⟨pA119,pc120,rfl,h121⟩:=hr118
   replace hC116:Cl U99 b113 (off114 + k86 * 1) [.slice pA119 x107.length pc120]:=hC116
   refine oR Z (zo Z f103 hA115 fi98 zH zF (wAu h108)) (oL Z (hS101.ldC (f:=0) hC116 (v:=.slice pA119 x107.length pc120) Z Z zR Z) (oA Z Z (eN (rR (.fl 0 (.fl 1 (.fx 2 (.fl 3 (.nil)) .stop))) Z (oM Z f102 (oM Z Z (bnK hm109 fun x122 h123 hm124=>ZS (j:=0) (enc:=KL.encI) (xs:=l83) (ys:=x107) (zs:=x122) Z Z Z Z Z zz wCP Z Z Z Z Z Z hS101 Z Z Z (hS101.srcS h121) (fun _=>Z) (fun _=>Z) h123 Z ?_)))))))
   intro A125 c126 W127 hS128
   have hS129:sW w U U99 [.row A125 c126 3 1 (nA KL.encI x122)] W127:=hS128
   refine oA Z Z (ZA (zt (zK (rR fL2 Z (oR Z (ZD (zU Z fi98 Z) (congrArg (jV) hi106.out)) (oM Z Z (ZA ?_)))))))
   cases hm124
   exact zK ⟨Z,⟨U99,A125,c126,Z,Z,f103,f104,le100,hS129⟩⟩
  ·rintro σ133 W134 ⟨U142,A140,c141,fi136,f145,f146,f147,le143,hS144⟩
   have c148:Hid (¬ ((↑(((↑p0.length:Int):Int) - 0).toNat:Int) < (↑p0.length:Int))):=zG (wBA)
   refine sR fL1 Z (oR Z (zV Z fi136 f147) (eN (zL (cF Z c148 (ZR (zq (zq (ZO (zK (sR fL2 Z (oM Z f145 (oA Z Z (eN (zY ?_))))))))))))))
   have hE:=nB hm87;first | subst r | cases hE
   exact ⟨Z,_,(ZC Z),U142,_,hS144,A140,c141,Z,Z⟩
end Go.Proofs.YtbpllbhagaoocaaGreat
namespace Go.Proofs.YtbpllbhagaoocaaGreat
open Go.KL
set_option maxHeartbeats 4000000
theorem wDJ (p0:List Int) (pA0:Option Addr) (pc0:Nat) (w:World) (U:PHeap) (hS:St ⟨w,[.row pA0 pc0 3 1 (nA KL.encI p0)],U⟩ U [.row pA0 pc0 3 1 (nA KL.encI p0)] w) {r:List Int} (hm:wBJ p0=some r):Gv Tryz.prog 119 [.slice pA0 p0.length pc0] w (wCO w [.row pA0 pc0 3 1 (nA KL.encI p0)] U (fun U_ L_ v=>v=.tuple #[]/\L_=[.row pA0 pc0 3 1 (nA KL.encI r)]/\r.length=p0.length)) :=
 wLl (fun b o c zs w h1 h2 h3=>Go.Proofs.Tryz.slices_Sort_int b o c zs w h1 h2 h3) (fun p c w=>Go.Proofs.Tryz.slices_Sort_int_none p c w) hS hm
theorem wCe (p0:List Int) (pA0:Option Addr) (pc0:Nat) (w:World) (U:PHeap) (hS:St ⟨w,[.row pA0 pc0 3 1 (nA KL.encI p0)],U⟩ U [.row pA0 pc0 3 1 (nA KL.encI p0)] w) {r:List Int} (hm:wAw p0=some r):Gv Tryz.prog 121 [.slice pA0 p0.length pc0] w (wCO w [.row pA0 pc0 3 1 (nA KL.encI p0)] U (fun U_ L_ v=>∃ (A0:Option Addr) (c0:Nat),v=.slice A0 r.length c0/\L_=[.row A0 c0 3 1 (nA KL.encI r)])) :=
 wHf (fun b o c zs w h1 h2 h3=>Go.Proofs.Tryz.slices_Compact_int b o c zs w h1 h2 h3) (fun p c w=>Go.Proofs.Tryz.slices_Compact_int_empty p c w) hS hm
theorem wCY {S E:Type} (PY:S->PHeap->List Res->Prop) (PE:E->PHeap->List Res->Prop) (f:S->Int->Option (S ⊕ E)) (y:Nat) (s0:S) (p1:List Int) (pb1:Nat) (pA1:Option Addr) (pc1:Nat) (w:World) (L:List Res) (U:PHeap) (hS:St ⟨w,L,U⟩ U L w) (hP:PY s0 U L) (hY:YOK Tryz.prog y wLI PY PE f U) (ha0:Cl U pb1 0 [.slice pA1 p1.length pc1]) (ha1:Sl U 1 pA1 pc1 p1.length (nA KL.encI p1)) {r:S ⊕ E} (hm:wAY f s0 p1=some r):Gv Tryz.prog 159 [.func (.yield y) #[] #[],.pointer (some ⟨pb1,0,none⟩)] w (ItS w L U PY PE r):=by
 unfold wAY at hm
 refine Gv.of Tryz.func159 Z Tryz.ntmps159 Tryz.results159 Z (sR fL3 Z (oL Z (hS.ldC (f:=0) ha0 (v:=.slice pA1 p1.length pc1) Z Z zR Z) (oR Z (zy Z Z zA) (oM Z Z (eN (zf ?_))))))
 have q:=wBb hm
 obtain ⟨r13,hX14⟩:=q
 have q:=wBa hX14
 obtain ⟨hle15,hf16⟩:=q
 replace hle15:=zG hle15
 refine Zd (fun k12 s10 σ_ w_=>∃ (U_:PHeap) (LY11:List Res),σ_ 7=jV (↑k12:Int)/\σ_ 0=.func (.yield y) #[] #[]/\σ_ 5=.slice pA1 p1.length pc1/\σ_ 6=jV (↑p1.length:Int)/\PHeap.Le U U_/\St ⟨w,L,U⟩ U_ LY11 w_/\PY s10 U_ LY11) hf16 ?_ ?_ ?_
 ·exact ⟨U,L,Z,Z,Z,Z,(zI _),hS,hP⟩
 ·rintro k12 s10 xx19 σ17 W18 hk22 ⟨U24,LY11,fi23,f27,f28,f29,le25,hS26,h30⟩ hx20 hb21
  have c31:Hid ((↑k12:Int) < (↑p1.length:Int)):=zG (wBQ hk22)
  replace hk22:=zG hk22
  have hi32:Hid (w64 ((↑k12:Int) + 1)=(↑(k12 + 1):Int)):=zG (by have h1:=hle15.out;have h2:=c31.out;rw [wAa] <;> omega)
  refine sR fL1 Z (oR Z (zV Z fi23 f29) (eN (zL (cT Z c31 (kN (zL (zf (sR fL3 Z (bnK hx20 fun x33 h34 hm35=>?_)))))))))
  have h36:=ha1.le le25
  have q:=h36.el (fun _=>rfl) (wAP h34)
  obtain ⟨b37,off38,hA39,hC40⟩:=q
  refine oR Z (zo Z f28 hA39 fi23 zA zB (wAu h34)) (oL Z (hS26.ldC (f:=0) hC40 (v:=jV x33) Z Z zN Z) (oA Z Z (eN (sR (.fl 0 (.fl 1 (.fx 2 (.fl 3 (.nil)) .stop))) Z (oM Z f27 (oM Z Z (bnK hm35 fun yr41 h42 hm43=>OKS.yieldT 0 (a:=x33) Z Z Z Z Z Z (zM Z zr) hS26 hY le25 h30 Z h42 Z ?_)))))))
  rintro U44 LY45 b46 W47 le48 hS49 hM50
  rcases yr41 with s51 | s51
  ·try dsimp only at hm43 hM50
   obtain ⟨rfl,hp52⟩:=hM50
   have hS53:St ⟨w,L,U⟩ U44 LY45 W47:=hS49
   refine oR Z (ZX Z Z) (eN (ZN Z (ZQ (zt (zK (rR fL2 Z (oR Z (ZD (zU Z fi23 Z) (congrArg (jV) hi32.out)) (oM Z Z (ZA ?_)))))))))
   obtain rfl:=nB hm43
   exact zK ⟨Z,_,Z,⟨U44,LY45,Z,f27,f28,f29,(le25.trans le48),hS53,hp52⟩⟩
  ·try dsimp only at hm43 hM50
   obtain ⟨rfl,hp56⟩:=hM50
   have hS57:St ⟨w,L,U⟩ U44 LY45 W47:=hS49
   refine oR Z (ZX Z Z) (eN (ZM Z (zY (zS (zJ ?_)))))
   have q:=wAV hm43
   obtain ⟨v58,hm59,e60⟩:=q
   obtain rfl:=wBF hm hX14 (hb21 v58 e60)
   refine zJ (zS ?_)
   cases hm59
   exact ⟨Z,_,(res0),U44,_,hS57,hp56⟩
 ·rintro y65 σ61 W62 ⟨U67,L66,fi64,f70,f71,f72,le68,hS69,h73⟩ hb63
  have hm74:=wCD hm hX14 hb63
  have c75:Hid (¬ ((↑(((↑p1.length:Int):Int) - 0).toNat:Int) < (↑p1.length:Int))):=zG (wBA)
  refine sR fL1 Z (oR Z (zV Z fi64 f72) (eN (zL (cF Z c75 (ZR (zq (zq (ZO ?_))))))))
  cases hm74
  exact ⟨Z,_,(res0),U67,_,hS69,h73⟩
theorem wCp (p0:List Int) (pA0:Option Addr) (pc0:Nat) (w:World) (U:PHeap) (hS:St0 w U []) (ha0:Sl U 1 pA0 pc0 p0.length (nA KL.encI p0)) {r:Unit} (hm:wBD p0=some r):Gv Tryz.prog 120 [.slice pA0 p0.length pc0] w (wCO w [] U (fun U_ L_ v=>∃ (b0:Nat),v=.func (.func 159) #[] #[.pointer (some ⟨b0,0,none⟩)]/\L_=[]/\Cl U_ b0 0 [.slice pA0 p0.length pc0])):=by
 unfold wBD at hm
 refine Gv.of Tryz.func120 rfl Tryz.ntmps120 Tryz.results120 rfl (sR (.fx 0 (.fl 1 (.nil)) .stop) rfl (Zh (cs:=[.slice pA0 p0.length pc0]) rfl rfl rfl rfl rfl rfl (by rfl) hS ?_))
 intro W1 b2 hS3
 have q:=hS3.freeze (k:=0) rfl
 obtain ⟨U5,le6,hC7,hS8⟩:=q
 replace hC7:=Cl.of hC7
 have hS9:sW w U U5 [] W1:=hS8
 replace hC7:Cl U5 b2 0 [.slice pA0 p0.length pc0]:=hC7
 refine oA Z Z (eN (sR fL2 Z (oR Z (Runs.mkf Z zr (zM Z zr)) (oA Z Z (eN (zY ?_))))))
 cases hm
 exact ⟨Z,_,(ZC Z),U5,_,hS9,b2,Z,Z,hC7⟩
theorem wEA (p0:wAE) (pA0_1:Option Addr) (pc0_1:Nat) (pA0_2:Option Addr) (pc0_2:Nat) (w:World) (U:PHeap) (hS:St0 w U []) (ha0:Sl U 1 pA0_1 pc0_1 p0.Bibs.length (nA KL.encI p0.Bibs)) (ha1:SlR U wBP pA0_2 pc0_2 p0.Times) {r:(List Int)} (hm:wAx p0=some r):Gv Tryz.prog 71 [.agg #[jV p0.Laps,.slice pA0_1 p0.Bibs.length pc0_1,.slice pA0_2 p0.Times.length pc0_2]] w (wCO w [] U (fun U_ L_ v=>∃ (b0:Nat) (A0:Option Addr) (c0:Nat),v=.func (.func 159) #[] #[.pointer (some ⟨b0,0,none⟩)]/\L_=[]/\Cl U_ b0 0 [.slice A0 r.length c0]/\Sl U_ 1 A0 c0 r.length (nA KL.encI r))):=by
 unfold wAx at hm
 refine Gv.of Tryz.func71 Z Tryz.ntmps71 Tryz.results71 Z (sR (.fx 0 (.fl 1 (.nil)) .stop) Z ?_)
 let B0:List Value:=[jV p0.Laps,.slice pA0_1 p0.Bibs.length pc0_1,.slice pA0_2 p0.Times.length pc0_2]
 refine Zh (cs:=B0) rfl rfl rfl rfl rfl rfl (by rfl) hS ?_
 intro W1 b2 hS3
 refine oA Z Z (eN (sR (.fl 0 (.fl 1 (.fx 2 (.fl 3 (.nil)) .stop))) Z (oR Z (zO Z Z zD Z ZH) (oL Z (hS3.ldB (j:=0) Z Z Z zX (v:=.slice pA0_2 p0.Times.length pc0_2) Z) (bnK hm fun x5 h6 hm7=>zj 0 Z Z Z Z (zd Z Z Tryz.call118 (zM Z zr) Z) hS3 (fun hs=>wCo p0.Times pA0_2 pc0_2 W1 U hs ha1 h6) (.inr Z) ?_)))))
 rintro U8 L9 v10 W11 le12 hS13 ⟨A14,c15,rfl,rfl⟩
 have hS17:sW w U U8 [.row A14 c15 3 1 (nA KL.encI x5),.blk b2 26 B0] W11:=hS13
 refine oA Z Z (eN (sR (.fl 0 (.fx 1 (.nil) .stop)) Z (oM Z Z (bnK hm7 fun x18 h19 hm20=>zj 1 Z Z Z Z (zd Z Z Tryz.call119 (zM Z zr) Z) hS17 (fun hs=>wDJ x5 A14 c15 W11 U8 hs h19) (.inl Z) ?_))))
 rintro U21 L22 v23 W24 le25 hS26 ⟨rfl,rfl,h27⟩
 have hS28:sW w U U21 [.row A14 c15 3 1 (nA KL.encI x18),.blk b2 26 B0] W24:=hS26
 refine eN (sR (.fl 0 (.fx 1 (.fx 2 (.fl 3 (.nil)) .stop) .stop)) rfl (zQ rfl rfl rfl rfl rfl (Eq.trans (b:=(.slice A14 x5.length c15:Value)) (c:=(.slice A14 x18.length c15:Value)) rfl (by rw [h27])) (bnK hm20 fun x29 h30 hm31=>zj 1 rfl rfl rfl rfl (zd rfl rfl Tryz.call121 (zM rfl zr) rfl) hS28 (fun hs=>wCe x18 A14 c15 W24 U21 hs h30) (.inl rfl) ?_)))
 rintro U32 L33 v34 W35 le36 hS37 ⟨A38,c39,rfl,rfl⟩
 have hS41:sW w U U32 [.row A38 c39 3 1 (nA KL.encI x29),.blk b2 26 B0] W35:=hS37
 have q:=hS41.freezeR (k:=0) (n:=x29.length) rfl (wAF (f:=KL.encI) (sz:=1) (fun _=>rfl) x29) (by decide)
 obtain ⟨U42,le43,hs44,hS45⟩:=q
 have hS46:sW w U U42 [.blk b2 26 B0] W35:=hS45
 have q:=bnd hm31
 obtain ⟨⟨⟩,h47,hm48⟩:=q
 try dsimp only at hm48
 refine zj 0 Z Z Z Z (zd Z Z Tryz.call120 (zM Z zr) Z) hS46 (fun hs=>wCp x29 A38 c39 W35 U42 hs hs44 h47) (.inr Z) ?_
 rintro U49 L50 v51 W52 le53 hS54 ⟨b55,rfl,rfl,h56⟩
 have hS57:sW w U U49 [.blk b2 26 B0] W52:=hS54
 refine oA Z Z (eN (zY ?_))
 have h58:=hs44.le le53
 have hE:=nB hm48;first | subst r | cases hE
 exact ⟨rfl,_,(ZC rfl),U49,_,(hS57.pick [] _ (by decide) rfl),b55,A38,c39,rfl,rfl,h56,h58⟩
theorem wCN (p0:wAC) (pb0:Nat) (pA0_0_1:Option Addr) (pc0_0_1:Nat) (pA0_0_2:Option Addr) (pc0_0_2:Nat) (pA0_1:Option Addr) (pc0_1:Nat) (pA0_2:Option Addr) (pc0_2:Nat) (p1:Int) (p2:Int) (p3:Int) (w:World) (U:PHeap) (hS:St0 w U []) (ha0:Cl U pb0 0 [jV p0.Race.Laps,.slice pA0_0_1 p0.Race.Bibs.length pc0_0_1,.slice pA0_0_2 p0.Race.Times.length pc0_0_2,.slice pA0_1 p0.done.length pc0_1,.slice pA0_2 p0.out.length pc0_2]) (ha1:Sl U 1 pA0_0_1 pc0_0_1 p0.Race.Bibs.length (nA KL.encI p0.Race.Bibs)) (ha2:SlR U wBP pA0_0_2 pc0_0_2 p0.Race.Times) (ha3:Sl U 1 pA0_1 pc0_1 p0.done.length (nA KL.encI p0.done)) (ha4:Sl U 1 pA0_2 pc0_2 p0.out.length (nA KL.encT p0.out)) {r:Int} (hm:wAe p0 p1 p2 p3=some r):Gv Tryz.prog 73 [.pointer (some ⟨pb0,0,none⟩),jV p1,jV p2,jV p3] w (wCO w [] U (fun U_ L_ v=>v=jV r/\L_=[])):=by
 unfold wAe at hm
 refine Gv.of Tryz.func73 Z Tryz.ntmps73 Tryz.results73 Z (sR fL1 Z (oA Z Z (eN (sR fL1 Z (oA Z Z (eN (zL (sR fL6 Z (oM Z Z (oR Z (ZG Z Z) (oR Z (zO Z Z zx Z zF) (oL Z (hS.ldC (f:=3) ha0 (v:=.slice pA0_1 p0.done.length pc0_1) Z Z zR Z) (oR Z (zy Z Z zA) (oM Z Z (eN (zf (bnK hm fun y12 hf9 hm8=>?_)))))))))))))))))
 have q:=wBw hf9
 obtain ⟨hle10,hf11⟩:=q
 replace hle10:=zG hle10
 refine CK.forN' (fun k7 x6 σ_ w_=>∃ (U_:PHeap),σ_ 17=jV (↑k7:Int)/\σ_ 0=.pointer (some ⟨pb0,0,none⟩)/\σ_ 2=jV p2/\σ_ 3=jV p3/\σ_ 9=jV x6/\σ_ 15=.slice pA0_1 p0.done.length pc0_1/\σ_ 16=jV (↑p0.done.length:Int)/\PHeap.Le U U_/\sW w U U_ [] w_) hf11 ?_ ?_ ?_
 ·exact ⟨U,Z,Z,Z,Z,Z,Z,Z,(zI _),hS⟩
 ·rintro k7 x6 xx15 σ13 W14 hk18 ⟨U20,fi19,f23,f24,f25,f26,f27,f28,le21,hS22⟩ hx16
  have c29:Hid ((↑k7:Int) < (↑p0.done.length:Int)):=zG (wBQ hk18)
  replace hk18:=zG hk18
  have hi30:Hid (w64 ((↑k7:Int) + 1)=(↑(k7 + 1):Int)):=zG (by have h1:=hle10.out;have h2:=c29.out;rw [wAa] <;> omega)
  refine sR fL1 Z (oR Z (zV Z fi19 f28) (eN (zL (cT Z c29 (kN (bnK hx16 fun x31 hx33 hm34=>CK.cut (fun σ_ w_=>∃ (U_:PHeap),σ_ 0=.pointer (some ⟨pb0,0,none⟩)/\σ_ 2=jV p2/\σ_ 3=jV p3/\σ_ 9=jV x31/\σ_ 15=.slice pA0_1 p0.done.length pc0_1/\σ_ 16=jV (↑p0.done.length:Int)/\σ_ 17=jV (↑k7:Int)/\PHeap.Le U20 U_/\sW w U U_ [] w_) ?_ ?_))))))
  ·refine zf (sR fL5 Z (oM Z fi19 (bnK hx33 fun x35 h36 hm37=>?_)))
   have h38:=ha3.le le21
   have q:=h38.el (fun _=>rfl) (wAP h36)
   obtain ⟨b39,off40,hA41,hC42⟩:=q
   refine zZ rfl rfl rfl rfl (fun _=>zo rfl f27 hA41 fi19 zA zB (wAu h36)) (ZB rfl rfl rfl rfl (hS22.ldC (f:=0) hC42 (v:=jV x35) rfl rfl zN rfl) rfl (OKS.ra rfl rfl rfl rfl rfl rfl (OKS.ra rfl rfl rfl rfl rfl rfl (eN (zL (Zb ZW [3,3,3,1,3,3,1,3,3,3,3,3,3,3,3,3,3,3,3,1,3,3,1,3,3,3,1,3,3,3,3,3,3,3,3,3,3,3,1,3,3,1,3,3,3,3,1,3,3,1,3,3,3] fL53 (by kernel_rfl) ?_))))))
   have hS43:=hS22.drew
   generalize hw_W44:({ W14 with drawn:=W14.drawn + 1 }:World)=W44 at hS43 ⊢
   refine oM Z f23 (oR Z (ZG Z Z) (oR Z (zO Z Z zx Z Tryz.sizeOf76) ?_))
   have h45:=ha0.le le21
   refine oL Z (hS43.ldC (f:=4) h45 (v:=.slice pA0_2 p0.out.length pc0_2) Z Z Tryz.isAgg76 Z) (oM Z Z (bnK hm37 fun x46 h47 hm48=>?_))
   have h49:=ha4.le le21
   have q:=h49.el (fun _=>rfl) (wAP h47)
   obtain ⟨b50,off51,hA52,hC53⟩:=q
   refine oR Z (zo Z Z hA52 Z ZT Tryz.sizeOf4 (wAu h47)) (oL Z (hS43.ldC (f:=0) hC53 (v:=.bool x46) Z Z Tryz.isAgg4 Z) (oR Z (ZX Z Z) (oM Z Z (ifc hm48 ?_ ?_))))
   ·intro c54 hm55
    refine zC Z Z Z (zn Z Z (nC c54.out) Z) (zC Z Z Z (zn Z Z (nC c54.out) Z) (zC Z Z Z (zn Z Z (nC c54.out) Z) (zC Z Z Z (zn Z Z (nC c54.out) Z) (oR Z (zg Z (nC c54.out) Z) (oM Z Z (oN Z (oN Z (oN Z (oN Z (oN Z (oN Z (oN Z (oN Z (oN Z (oN Z (oN Z (oN Z (oN Z (oN Z (oR Z (zg Z Z Z) (oM Z Z (oN Z (oN Z (oN Z (zC Z Z Z (wAA Z Z Z) (zC Z Z Z (wAA Z Z Z) (zC Z Z Z (wAA Z Z Z) (zC Z Z Z (wAA Z Z Z) (zC Z Z Z (wAA Z Z Z) (zC Z Z Z (wAA Z Z Z) (zC Z Z Z (wAA Z Z Z) (zC Z Z Z (wAA Z Z Z) (zC Z Z Z (wAA Z Z Z) (zC Z Z Z (wAA Z Z Z) (zC Z Z Z (wAA Z Z Z) (zC Z Z Z (wAA Z Z Z) (zC Z Z Z (wAA Z Z Z) (zC Z Z Z (wAA Z Z Z) (zC Z Z Z (wAA Z Z Z) (zC Z Z Z (wAA Z Z Z) (zC Z Z Z (wAA Z Z Z) (oN Z (oR Z (zg Z Z Z) (eN (ZN Z (ZQ (zt ?_)))))))))))))))))))))))))))))))))))))))))))))))
    cases hm55
    exact zK ⟨Z,⟨U20,f23,f24,f25,f26,f27,f28,fi19,(zI _),hS43⟩⟩
   ·intro c54 hm57
    refine zQ Z Z Z (zP Z Z (nF (c54.out))) Z Z (zQ Z Z Z (zP Z Z (nF (c54.out))) Z f24 (zZ Z Z Z (zP Z Z (nF (c54.out))) (fun _=>zU Z Z Z) (zZ Z Z Z (zP Z Z (nF (c54.out))) (fun _=>Runs.geq Z Z Z) (oR Z (ze Z (nF (c54.out)) Z) (oM Z Z (ifc hm57 ?_ ?_))))))
    ·intro c58 hm59
     refine zQ Z Z Z (wT Z c58) Z f23 (rU Z (wT Z c58) (ZG Z Z) (rU Z (wT Z c58) (zO Z Z zx Z ZF) (rU Z (wT Z c58) (zO Z Z zD Z ZH) (ZB Z Z Z (wT Z c58) (hS43.ldC (f:=2) h45 (v:=.slice pA0_0_2 p0.Race.Times.length pc0_0_2) Z Z zX Z) Z (zQ Z Z Z (wT Z c58) Z Z (bnK hm59 fun x60 h61 hm62=>?_))))))
     have h63:=ha2.le le21
     have q:=h63.el (wAP h61)
     obtain ⟨b64,off65,vs68,hA66,hC67,hr69⟩:=q
     obtain ⟨pA70,pc71,rfl,h72⟩:=hr69
     replace hC67:Cl U20 b64 (off65 + k7 * 1) [.slice pA70 x60.length pc71]:=hC67
     refine rU Z (wT Z c58) (zo Z Z hA66 Z zH zF (wAu h61)) (ZB Z Z Z (wT Z c58) (hS43.ldC (f:=0) hC67 (v:=.slice pA70 x60.length pc71) Z Z zR Z) Z (zQ Z Z Z (wT Z c58) Z Z (rU Z (wT Z c58) (Runs.subw Z Z Z) (bnK hm62 fun x73 h74 hm75=>?_))))
     have q:=h72.el (fun _=>rfl) (wAP h74)
     obtain ⟨b76,off77,hA78,hC79⟩:=q
     refine rU Z (wT Z c58) (ZV Z Z hA78 Z zA zB (wCr h74) (wCy h74)) (ZB Z Z Z (wT Z c58) (hS43.ldC (f:=0) hC79 (v:=jV x73) Z Z zN Z) Z (zQ Z Z Z (wT Z c58) Z f25 (rU Z (wT Z c58) (Runs.eql Z Z Z) (oR Z (ze Z (ZU c58.out) Z) (oM Z Z (ifc hm75 ?_ ?_))))))
     ·intro c80 hm81
      refine zQ Z Z Z (wT Z c80) Z f26 (rU Z (wT Z c80) (zV Z Z Z) (zQ Z Z Z (wT Z c80) Z Z (ifc hm81 ?_ ?_)))
      ·intro c82 hm83
       refine oT Z c82 (oT Z c82 (oT Z c82 (oT Z c82 (oT Z c82 (oT Z c82 (oT Z c82 (oT Z c82 (oT Z c82 (oT Z c82 (oT Z c82 (oT Z c82 (oT Z c82 (oT Z c82 (oT Z c82 (oT Z c82 (oT Z c82 (rU Z (wT Z c80) (ze Z (ZU c82.out) Z) (oR Z (ze Z (ZU c80.out) Z) (eN (ZM Z (CK.fresh fun σ84 hσ85=>?_)))))))))))))))))))))
       have f86:σ84 0=.pointer (some ⟨pb0,0,none⟩):=(hσ85 0).trans f23
       have f87:σ84 2=jV p2:=(hσ85 2).trans f24
       have f88:σ84 3=jV p3:=(hσ85 3).trans f25
       have f89:σ84 9=jV x6:=(hσ85 9).trans f26
       have f90:σ84 10=jV (↑k7:Int):=(hσ85 10).trans rfl
       have f91:σ84 15=.slice pA0_1 p0.done.length pc0_1:=(hσ85 15).trans f27
       have f92:σ84 16=jV (↑p0.done.length:Int):=(hσ85 16).trans f28
       have f93:σ84 17=jV (↑k7:Int):=(hσ85 17).trans fi19
       clear hσ85
       refine rR fL2 Z (oM Z f90 (oA Z Z (ZA (zt ?_))))
       cases hm83
       exact zK ⟨Z,⟨U20,f86,f87,f88,Z,f91,f92,f93,(zI _),hS43⟩⟩
      ·intro c82 hm95
       refine zQ Z Z Z (wF Z c82) Z f23 (rU Z (wF Z c82) (ZG Z Z) (rU Z (wF Z c82) (zO Z Z zx Z ZF) (rU Z (wF Z c82) (zO Z Z zD Z zF) (ZB Z Z Z (wF Z c82) (hS43.ldC (f:=1) h45 (v:=.slice pA0_0_1 p0.Race.Bibs.length pc0_0_1) Z Z zR Z) Z (zQ Z Z Z (wF Z c82) Z Z (bnK hm95 fun x96 h97 hm98=>?_))))))
       have h99:=ha1.le le21
       have q:=h99.el (fun _=>rfl) (wAP h97)
       obtain ⟨b100,off101,hA102,hC103⟩:=q
       refine rU Z (wF Z c82) (zo Z Z hA102 Z zA zB (wAu h97)) (ZB Z Z Z (wF Z c82) (hS43.ldC (f:=0) hC103 (v:=jV x96) Z Z zN Z) Z (zQ Z Z Z (wF Z c82) Z f23 (rU Z (wF Z c82) (ZG Z Z) (rU Z (wF Z c82) (zO Z Z zx Z ZF) (rU Z (wF Z c82) (zO Z Z zD Z zF) (ZB Z Z Z (wF Z c82) (hS43.ldC (f:=1) h45 (v:=.slice pA0_0_1 p0.Race.Bibs.length pc0_0_1) Z Z zR Z) Z (zQ Z Z Z (wF Z c82) Z f26 (bnK hm98 fun x104 h105 hm106=>?_))))))))
       have q:=h99.el (fun _=>rfl) (wAP h105)
       obtain ⟨b107,off108,hA109,hC110⟩:=q
       refine rU Z (wF Z c82) (ZV Z Z hA109 Z zA zB (wCr h105) (wCy h105)) (ZB Z Z Z (wF Z c82) (hS43.ldC (f:=0) hC110 (v:=jV x104) Z Z zN Z) Z (rU Z (wF Z c82) (zV Z Z Z) (rU Z (wT Z c80) (zg Z (ZK c82.out) Z) (oR Z (ze Z (ZU c80.out) Z) (eN (ifc hm106 ?_ ?_))))))
       ·intro c111 hm112
        refine cT Z c111 (CK.fresh fun σ113 hσ114=>?_)
        have f115:σ113 0=.pointer (some ⟨pb0,0,none⟩):=(hσ114 0).trans f23
        have f116:σ113 2=jV p2:=(hσ114 2).trans f24
        have f117:σ113 3=jV p3:=(hσ114 3).trans f25
        have f118:σ113 9=jV x6:=(hσ114 9).trans f26
        have f119:σ113 10=jV (↑k7:Int):=(hσ114 10).trans rfl
        have f120:σ113 15=.slice pA0_1 p0.done.length pc0_1:=(hσ114 15).trans f27
        have f121:σ113 16=jV (↑p0.done.length:Int):=(hσ114 16).trans f28
        have f122:σ113 17=jV (↑k7:Int):=(hσ114 17).trans fi19
        clear hσ114
        refine rR fL2 Z (oM Z f119 (oA Z Z (ZA (zt ?_))))
        cases hm112
        exact zK ⟨Z,⟨U20,f115,f116,f117,Z,f120,f121,f122,(zI _),hS43⟩⟩
       ·intro c111 hm124
        refine cF Z c111 (ZQ (zt ?_))
        cases hm124
        exact zK ⟨Z,⟨U20,f23,f24,f25,f26,f27,f28,fi19,(zI _),hS43⟩⟩
     ·intro c80 hm126
      refine oF Z c80 (oF Z c80 (oF Z c80 (zC Z Z Z (wAA Z Z Z) (zC Z Z Z (wAA Z Z Z) (zC Z Z Z (wAA Z Z Z) (zC Z Z Z (wAA Z Z Z) (zC Z Z Z (wAA Z Z Z) (zC Z Z Z (wAA Z Z Z) (zC Z Z Z (wAA Z Z Z) (zC Z Z Z (wAA Z Z Z) (zC Z Z Z (wAA Z Z Z) (zC Z Z Z (wAA Z Z Z) (zC Z Z Z (wAA Z Z Z) (zC Z Z Z (wAA Z Z Z) (zC Z Z Z (wAA Z Z Z) (zC Z Z Z (wAA Z Z Z) (zC Z Z Z (wAA Z Z Z) (zC Z Z Z (wAA Z Z Z) (zC Z Z Z (wAA Z Z Z) (oF Z c80 (oR Z (zg Z (ZK c80.out) Z) (eN (ZN Z (ZQ (zt ?_)))))))))))))))))))))))))
      cases hm126
      exact zK ⟨Z,⟨U20,f23,f24,f25,f26,f27,f28,fi19,(zI _),hS43⟩⟩
    ·intro c58 hm128
     refine oF Z c58 (oF Z c58 (oF Z c58 (oF Z c58 (oF Z c58 (oF Z c58 (oF Z c58 (oF Z c58 (oF Z c58 (oF Z c58 (oF Z c58 (oF Z c58 (oF Z c58 (oF Z c58 (oR Z (zg Z (ZK c58.out) Z) (oM Z Z (oN Z (oN Z (oN Z (zC Z Z Z (wAA Z Z Z) (zC Z Z Z (wAA Z Z Z) (zC Z Z Z (wAA Z Z Z) (zC Z Z Z (wAA Z Z Z) (zC Z Z Z (wAA Z Z Z) (zC Z Z Z (wAA Z Z Z) (zC Z Z Z (wAA Z Z Z) (zC Z Z Z (wAA Z Z Z) (zC Z Z Z (wAA Z Z Z) (zC Z Z Z (wAA Z Z Z) (zC Z Z Z (wAA Z Z Z) (zC Z Z Z (wAA Z Z Z) (zC Z Z Z (wAA Z Z Z) (zC Z Z Z (wAA Z Z Z) (zC Z Z Z (wAA Z Z Z) (zC Z Z Z (wAA Z Z Z) (zC Z Z Z (wAA Z Z Z) (oN Z (oR Z (zg Z Z Z) (eN (ZN Z (ZQ (zt ?_)))))))))))))))))))))))))))))))))))))))))
     cases hm128
     exact zK ⟨Z,⟨U20,f23,f24,f25,f26,f27,f28,fi19,(zI _),hS43⟩⟩
  ·rintro σ130 W131 ⟨U132,f135,f136,f137,f138,f139,f140,f141,le133,hS134⟩
   refine rR fL2 Z (oR Z (ZD (zU Z f141 Z) (congrArg (jV) hi30.out)) (oM Z Z (ZA ?_)))
   cases hm34
   exact zK ⟨Z,⟨U132,Z,f135,f136,f137,f138,f139,f140,(le21.trans le133),hS134⟩⟩
 ·rintro σ143 W144 ⟨U148,fi146,f151,f152,f153,f154,f155,f156,le149,hS150⟩
  have c157:Hid (¬ ((↑(((↑p0.done.length:Int):Int) - 0).toNat:Int) < (↑p0.done.length:Int))):=zG (wBA)
  refine sR fL1 Z (oR Z (zV Z fi146 f156) (eN (zL (cF Z c157 (ZR (zq (zq (ZO (zK (sR fL2 Z (oM Z f154 (oA Z Z (eN (zY ?_))))))))))))))
  have hE:=nB hm8;first | subst r | cases hE
  exact ⟨Z,_,(ZC Z),U148,_,hS150,Z,Z⟩
theorem wDK (p0:wAC) (pb0:Nat) (pA0_0_1:Option Addr) (pc0_0_1:Nat) (pA0_0_2:Option Addr) (pc0_0_2:Nat) (pA0_1:Option Addr) (pc0_1:Nat) (pA0_2:Option Addr) (pc0_2:Nat) (p1:Int) (w:World) (U:PHeap) (hS:St0 w U [.blk pb0 78 [jV p0.Race.Laps,.slice pA0_0_1 p0.Race.Bibs.length pc0_0_1,.slice pA0_0_2 p0.Race.Times.length pc0_0_2,.slice pA0_1 p0.done.length pc0_1,.slice pA0_2 p0.out.length pc0_2],.row pA0_1 pc0_1 3 1 (nA KL.encI p0.done),.row pA0_2 pc0_2 4 1 (nA KL.encT p0.out)]) (ha0:Sl U 1 pA0_0_1 pc0_0_1 p0.Race.Bibs.length (nA KL.encI p0.Race.Bibs)) (ha1:SlR U wBP pA0_0_2 pc0_0_2 p0.Race.Times) {r:(List Int) × wAC} (hm:wAf p0 p1=some r):Gv Tryz.prog 72 [.pointer (some ⟨pb0,0,none⟩),jV p1] w (wCO w [.blk pb0 78 [jV p0.Race.Laps,.slice pA0_0_1 p0.Race.Bibs.length pc0_0_1,.slice pA0_0_2 p0.Race.Times.length pc0_0_2,.slice pA0_1 p0.done.length pc0_1,.slice pA0_2 p0.out.length pc0_2],.row pA0_1 pc0_1 3 1 (nA KL.encI p0.done),.row pA0_2 pc0_2 4 1 (nA KL.encT p0.out)] U (fun U_ L_ v=>∃ (A0:Option Addr) (c0:Nat) (Ao001:Option Addr) (co001:Nat) (Ao002:Option Addr) (co002:Nat) (Ao01:Option Addr) (co01:Nat) (Ao02:Option Addr) (co02:Nat),v=.slice A0 r.1.length c0/\L_=[.row A0 c0 3 1 (nA KL.encI r.1),.row Ao01 co01 3 1 (nA KL.encI r.2.done),.row Ao02 co02 4 1 (nA KL.encT r.2.out),.blk pb0 78 [jV r.2.Race.Laps,.slice Ao001 r.2.Race.Bibs.length co001,.slice Ao002 r.2.Race.Times.length co002,.slice Ao01 r.2.done.length co01,.slice Ao02 r.2.out.length co02]]/\Sl U_ 1 Ao001 co001 r.2.Race.Bibs.length (nA KL.encI r.2.Race.Bibs)/\SlR U_ wBP Ao002 co002 r.2.Race.Times)):=by
 unfold wAf at hm
 refine Gv.of Tryz.func72 Z Tryz.ntmps72 Tryz.results72 Z (sR fL1 Z (oA Z Z (eN (zL (sR fL7 Z (oM Z Z (oR Z (ZG Z Z) (oR Z (zO Z Z zx Z ZF) (oR Z (zO Z Z zD Z ZH) (oL Z (hS.ldB (j:=0) Z Z Z zX (v:=.slice pA0_0_2 p0.Race.Times.length pc0_0_2) Z) (oR Z (zy Z Z zH) (oM Z Z (eN (zf (bnK hm fun y15 hf12 hm11=>?_)))))))))))))))
 have q:=wBw hf12
 obtain ⟨hle13,hf14⟩:=q
 replace hle13:=zG hle13
 let B0:Res:=.blk pb0 78 [jV p0.Race.Laps,.slice pA0_0_1 p0.Race.Bibs.length pc0_0_1,.slice pA0_0_2 p0.Race.Times.length pc0_0_2,.slice pA0_1 p0.done.length pc0_1,.slice pA0_2 p0.out.length pc0_2]
 let B1:Res:=.row pA0_2 pc0_2 4 1 (nA KL.encT p0.out)
 let B2:Res:=.row pA0_1 pc0_1 3 1 (nA KL.encI p0.done)
 refine CK.forN' (fun k10 l9 σ_ w_=>∃ (U_:PHeap),σ_ 17=jV (↑k10:Int)/\σ_ 0=.pointer (some ⟨pb0,0,none⟩)/\σ_ 1=jV p1/\σ_ 15=.slice pA0_0_2 p0.Race.Times.length pc0_0_2/\σ_ 16=jV (↑p0.Race.Times.length:Int)/\PHeap.Le U U_/\SW w [B0,B2,B1] U U_ [.row pA0_1 pc0_1 3 1 (nA KL.encI l9),B1,.blk pb0 78 [jV p0.Race.Laps,.slice pA0_0_1 p0.Race.Bibs.length pc0_0_1,.slice pA0_0_2 p0.Race.Times.length pc0_0_2,.slice pA0_1 l9.length pc0_1,.slice pA0_2 p0.out.length pc0_2]] w_/\l9.length=p0.done.length) hf14 ?_ ?_ ?_
 ·exact ⟨U,rfl,rfl,rfl,rfl,rfl,(zI _),(hS.pick [1,2,0] _ (by decide) rfl),rfl⟩
 ·rintro k10 l9 xx18 σ16 W17 hk21 ⟨U23,fi22,f26,f27,f28,f29,le24,hS25,h30⟩ hx19
  have c31:Hid ((↑k10:Int) < (↑p0.Race.Times.length:Int)):=zG (wBQ hk21)
  replace hk21:=zG hk21
  have hi32:Hid (w64 ((↑k10:Int) + 1)=(↑(k10 + 1):Int)):=zG (by have h1:=hle13.out;have h2:=c31.out;rw [wAa] <;> omega)
  refine sR fL1 Z (oR Z (zV Z fi22 f29) (eN (zL (cT Z c31 (kN (zL (zf (sR fL5 Z (oM Z fi22 (bnK hx19 fun x33 h34 hm35=>?_))))))))))
  have h36:=ha1.le le24
  have q:=h36.el (wAP h34)
  obtain ⟨b37,off38,vs41,hA39,hC40,hr42⟩:=q
  obtain ⟨pA43,pc44,rfl,h45⟩:=hr42
  replace hC40:Cl U23 b37 (off38 + k10 * 1) [.slice pA43 x33.length pc44]:=hC40
  refine oR Z (zo Z f28 hA39 fi22 zH zF (wAu h34)) (oL Z (hS25.ldC (f:=0) hC40 (v:=.slice pA43 x33.length pc44) Z Z zR Z) (oA Z Z (oA Z Z (eN (sR fL8 Z (oM Z f26 (oR Z (ZG Z Z) (oR Z (zO Z Z zx Z zF) (oL Z (hS25.ldB (j:=2) Z Z Z zR (v:=.slice pA0_1 l9.length pc0_1) Z) (oM Z Z (bnK hm35 fun _ h46 hm47=>?_)))))))))))
  obtain ⟨b48,hA49⟩:=hS25.rowSome (j:=0) rfl (by rw [wAF (f:=KL.encI) (sz:=1) (fun _=>rfl) l9];have hz:=wAd h46;omega)
  refine oR Z (zo Z Z hA49 Z zA zB (wAd h46)) ?_
  have hg50:=wBW (xs:=l9) (wAd h46)
  refine ZB rfl rfl rfl rfl (hS25.ldR (j:=0) rfl hA49 rfl rfl zN (wAW (sz:=1) (fun _=>rfl) _ _ 0 _ hg50 (by first | omega | rfl | simp) rfl)) rfl (OKS.ra rfl rfl rfl rfl rfl rfl (eN (sR fL22 rfl (zQ rfl rfl rfl rfl rfl f26 (zZ rfl rfl rfl rfl (fun _=>ZG rfl rfl) (zZ rfl rfl rfl rfl (fun _=>zO rfl rfl zx rfl Tryz.sizeOf76) (ZB rfl rfl rfl rfl (hS25.ldB (j:=2) rfl rfl rfl Tryz.isAgg76 (v:=.slice pA0_2 p0.out.length pc0_2) rfl) rfl (zQ rfl rfl rfl rfl rfl rfl (bnK hm47 fun _ h51 hm52=>?_)))))))))
  obtain ⟨b53,hA54⟩:=hS25.rowSome (j:=1) rfl (by rw [wAF (f:=KL.encT) (sz:=1) (fun _=>rfl) p0.out];have hz:=wAd h51;omega)
  refine oR Z (zo Z Z hA54 Z ZT Tryz.sizeOf4 (wAd h51)) ?_
  have hg55:=wBW (xs:=p0.out) (wAd h51)
  refine ZB rfl rfl rfl rfl (hS25.ldR (j:=1) rfl hA54 rfl rfl Tryz.isAgg4 (wAW (sz:=1) (fun _=>rfl) _ _ 0 _ hg55 (by first | omega | rfl | simp) rfl)) rfl (zZ rfl rfl rfl rfl (fun _=>ZX rfl rfl) (zQ rfl rfl rfl rfl rfl rfl (ifc hm52 ?_ ?_)))
  ·intro c56 hm57
   refine zC Z Z Z (zn Z Z (nC c56.out) Z) (zC Z Z Z (zn Z Z (nC c56.out) Z) (zC Z Z Z (zn Z Z (nC c56.out) Z) (zC Z Z Z (zn Z Z (nC c56.out) Z) (oR Z (zg Z (nC c56.out) Z) (oM Z Z (oN Z (oN Z (oN Z (oN Z (oN Z (oN Z (oR Z (zg Z Z Z) (eN (ZN Z (ZQ (zt (zK (rR fL2 Z (oR Z (ZD (zU Z fi22 Z) (congrArg (jV) hi32.out)) (oM Z Z (ZA ?_)))))))))))))))))))))
   cases hm57
   exact zK ⟨Z,⟨U23,Z,f26,f27,f28,f29,le24,hS25,h30⟩⟩
  ·intro c56 hm59
   refine zQ Z Z Z (zP Z Z (nF (c56.out))) Z Z (zQ Z Z Z (zP Z Z (nF (c56.out))) Z Z (zZ Z Z Z (zP Z Z (nF (c56.out))) (fun _=>zy Z Z zA) (zZ Z Z Z (zP Z Z (nF (c56.out))) (fun _=>zV Z Z Z) (oR Z (ze Z (nF (c56.out)) Z) (oM Z Z (ifc hm59 ?_ ?_))))))
   ·intro c60 hm61
    refine zQ Z Z Z (wT Z c60) Z Z (zQ Z Z Z (wT Z c60) Z Z (bnK hm61 fun x62 h63 hm64=>?_))
    have q:=h45.el (fun _=>rfl) (wAP h63)
    obtain ⟨b65,off66,hA67,hC68⟩:=q
    refine rU Z (wT Z c60) (ZV Z Z hA67 Z zA zB (wCr h63) (wCy h63)) (ZB Z Z Z (wT Z c60) (hS25.ldC (f:=0) hC68 (v:=jV x62) Z Z zN Z) Z (zQ Z Z Z (wT Z c60) Z f27 (rU Z (wT Z c60) (Runs.eql Z Z Z) (oR Z (ze Z (ZU c60.out) Z) (eN (ifc hm64 ?_ ?_))))))
    ·intro c69 hm70
     refine cT Z c69 (CK.fresh fun σ71 hσ72=>?_)
     have f73:σ71 0=.pointer (some ⟨pb0,0,none⟩):=(hσ72 0).trans f26
     have f74:σ71 1=jV p1:=(hσ72 1).trans f27
     have f75:σ71 5=jV (↑k10:Int):=(hσ72 5).trans rfl
     have f76:σ71 15=.slice pA0_0_2 p0.Race.Times.length pc0_0_2:=(hσ72 15).trans f28
     have f77:σ71 16=jV (↑p0.Race.Times.length:Int):=(hσ72 16).trans f29
     have f78:σ71 17=jV (↑k10:Int):=(hσ72 17).trans fi22
     clear hσ72
     refine rR (fC0_8 (.fx 9 (.nil) .stop)) Z (oM Z f73 (oR Z (ZG Z Z) (oR Z (zO Z Z zx Z zF) (oL Z (hS25.ldB (j:=2) Z Z Z zR (v:=.slice pA0_1 l9.length pc0_1) Z) (oM Z f75 (oR Z (zo Z Z hA49 Z zA zB (wAd h46)) ?_))))))
     have hg79:=wBW (xs:=l9) (wAd h46)
     refine ZB rfl rfl rfl rfl (hS25.ldR (j:=0) rfl hA49 rfl rfl zN (wAW (sz:=1) (fun _=>rfl) _ _ 0 _ hg79 (by first | omega | rfl | simp) rfl)) rfl (zZ rfl rfl rfl rfl (fun _=>zU rfl rfl rfl) (zZ rfl rfl rfl rfl (fun _=>zo rfl rfl hA49 rfl zA zB (wAd h46)) ?_))
     have hg80:=wBW (xs:=l9) (wAd h46)
     refine OKS.stR (j:=0) (vs:=[jV (w64 ((gd l9 k10) + 1))]) (cs':=nA KL.encI (nN l9 k10 (w64 ((gd l9 k10) + 1)))) rfl rfl rfl rfl hS25 rfl hA49 rfl rfl rfl zB (by rw [wAF (f:=KL.encI) (sz:=1) (fun _=>rfl)];have hz:=wAd h46;simp only [nJ,nH,nI,List.length_cons,List.length_nil];first | omega | (simp only [nK];omega)) rfl (wJe (sz:=1) (fo:=0) (fun _=>rfl) _ _ _ _ hg80 (by first | omega | (simp only [nK];omega) | (simp only [nJ,nH,nI];omega)) (zm rfl) rfl) rfl ?_
     intro W81 hS82
     let B3:Res:=.row pA0_1 pc0_1 3 1 (nA KL.encI (nN l9 k10 (w64 ((gd l9 k10) + 1))))
     have hS83:SW w [B0,B2,B1] U U23 [B3,B1,.blk pb0 78 [jV p0.Race.Laps,.slice pA0_0_1 p0.Race.Bibs.length pc0_0_1,.slice pA0_0_2 p0.Race.Times.length pc0_0_2,.slice pA0_1 l9.length pc0_1,.slice pA0_2 p0.out.length pc0_2]] W81:=hS82
     have hS84:SW w [B0,B2,B1] U U23 [B3,B1,.blk pb0 78 [jV p0.Race.Laps,.slice pA0_0_1 p0.Race.Bibs.length pc0_0_1,.slice pA0_0_2 p0.Race.Times.length pc0_0_2,.slice pA0_1 ((nN l9 k10 (w64 ((gd l9 k10) + 1))).length) pc0_1,.slice pA0_2 p0.out.length pc0_2]] W81:=by simpa only [nL] using hS83
     refine ZA (zt (zK (rR fL2 Z (oR Z (ZD (zU Z f78 Z) (congrArg (jV) hi32.out)) (oM Z Z (ZA ?_))))))
     cases hm70
     exact zK ⟨rfl,⟨U23,rfl,f73,f74,f76,f77,le24,hS84,(by simp only [nL];exact h30)⟩⟩
    ·intro c69 hm86
     refine cF Z c69 (ZQ (zt (zK (rR fL2 Z (oR Z (ZD (zU Z fi22 Z) (congrArg (jV) hi32.out)) (oM Z Z (ZA ?_)))))))
     cases hm86
     exact zK ⟨Z,⟨U23,Z,f26,f27,f28,f29,le24,hS25,h30⟩⟩
   ·intro c60 hm88
    refine oF Z c60 (oF Z c60 (oF Z c60 (oF Z c60 (oF Z c60 (oF Z c60 (oR Z (zg Z (ZK c60.out) Z) (eN (ZN Z (ZQ (zt (zK (rR fL2 Z (oR Z (ZD (zU Z fi22 Z) (congrArg (jV) hi32.out)) (oM Z Z (ZA ?_)))))))))))))))
    cases hm88
    exact zK ⟨Z,⟨U23,Z,f26,f27,f28,f29,le24,hS25,h30⟩⟩
 ·rintro σ90 W91 ⟨U95,fi93,f98,f99,f100,f101,le96,hS97,h102⟩
  have c103:Hid (¬ ((↑(((↑p0.Race.Times.length:Int):Int) - 0).toNat:Int) < (↑p0.Race.Times.length:Int))):=zG (wBA)
  refine sR fL1 Z (oR Z (zV Z fi93 f101) (eN (zL (cF Z c103 (ZR (zq (zq (ZO (zK (sR fL1 Z (oA Z Z (eN (zL (sR fL6 Z (oM Z f98 (oR Z (ZG Z Z) (oR Z (zO Z Z zx Z zF) (oL Z (hS97.ldB (j:=2) Z Z Z zR (v:=.slice pA0_1 y15.length pc0_1) Z) (oR Z (zy Z Z zA) (oM Z Z (eN (zf (bnK hm11 fun y126 hf123 hm122=>?_)))))))))))))))))))))))
  have q:=wBw hf123
  obtain ⟨hle124,hf125⟩:=q
  replace hle124:=zG hle124
  let B4:List Value:=[jV p0.Race.Laps,.slice pA0_0_1 p0.Race.Bibs.length pc0_0_1,.slice pA0_0_2 p0.Race.Times.length pc0_0_2,.slice pA0_1 y15.length pc0_1,.slice pA0_2 p0.out.length pc0_2]
  let B5:Res:=.row pA0_1 pc0_1 3 1 (nA KL.encI y15)
  refine CK.forN' (fun k121 l117 σ_ w_=>∃ (U_:PHeap) (A118:Option Addr) (c119:Nat),σ_ 66=jV (↑k121:Int)/\σ_ 0=.pointer (some ⟨pb0,0,none⟩)/\σ_ 1=jV p1/\σ_ 8=.slice A118 l117.length c119/\σ_ 64=.slice pA0_1 y15.length pc0_1/\σ_ 65=jV (↑y15.length:Int)/\PHeap.Le U95 U_/\SW w [B0,B2,B1] U U_ [B5,B1,.blk pb0 78 B4,.row A118 c119 3 1 (nA KL.encI l117)] w_) hf125 ?_ ?_ ?_
  ·have hS127:=hS97.nilrow 3 1
   exact ⟨U95,none,0,rfl,f98,f99,rfl,rfl,rfl,(zI _),(hS127.pick [1,2,3,0] _ (by decide) rfl)⟩
  ·rintro k121 l117 xx131 σ129 W130 hk134 ⟨U136,A118,c119,fi135,f139,f140,f141,f142,f143,le137,hS138⟩ hx132
   have c144:Hid ((↑k121:Int) < (↑y15.length:Int)):=zG (wBQ hk134)
   replace hk134:=zG hk134
   have hi145:Hid (w64 ((↑k121:Int) + 1)=(↑(k121 + 1):Int)):=zG (by have h1:=hle124.out;have h2:=c144.out;rw [wAa] <;> omega)
   refine sR fL1 Z (oR Z (zV Z fi135 f143) (eN (zL (cT Z c144 (kN (zL (zf (sR fL5 Z (oM Z fi135 (bnK hx132 fun _ h146 hm147=>?_))))))))))
   obtain ⟨b148,hA149⟩:=hS138.rowSome (j:=0) rfl (by rw [wAF (f:=KL.encI) (sz:=1) (fun _=>rfl) y15];have hz:=wAd h146;omega)
   refine oR Z (zo Z f142 hA149 fi135 zA zB (wAd h146)) ?_
   have hg150:=wBW (xs:=y15) (wAd h146)
   refine ZB rfl rfl rfl rfl (hS138.ldR (j:=0) rfl hA149 rfl rfl zN (wAW (sz:=1) (fun _=>rfl) _ _ 0 _ hg150 (by first | omega | rfl | simp) rfl)) rfl (OKS.ra rfl rfl rfl rfl rfl rfl (OKS.ra rfl rfl rfl rfl rfl rfl (eN (sR (wPW (.fx 13 (.fl 14 (.fl 15 (.nil))) .stop)) rfl (zQ rfl rfl rfl rfl rfl f139 (zZ rfl rfl rfl rfl (fun _=>ZG rfl rfl) (zZ rfl rfl rfl rfl (fun _=>zO rfl rfl zx rfl Tryz.sizeOf76) (ZB rfl rfl rfl rfl (hS138.ldB (j:=2) rfl rfl rfl Tryz.isAgg76 (v:=.slice pA0_2 p0.out.length pc0_2) rfl) rfl (zQ rfl rfl rfl rfl rfl rfl (bnK hm147 fun _ h151 hm152=>?_))))))))))
   obtain ⟨b153,hA154⟩:=hS138.rowSome (j:=1) rfl (by rw [wAF (f:=KL.encT) (sz:=1) (fun _=>rfl) p0.out];have hz:=wAd h151;omega)
   refine oR Z (zo Z Z hA154 Z ZT Tryz.sizeOf4 (wAd h151)) ?_
   have hg155:=wBW (xs:=p0.out) (wAd h151)
   refine ZB rfl rfl rfl rfl (hS138.ldR (j:=1) rfl hA154 rfl rfl Tryz.isAgg4 (wAW (sz:=1) (fun _=>rfl) _ _ 0 _ hg155 (by first | omega | rfl | simp) rfl)) rfl (zZ rfl rfl rfl rfl (fun _=>ZX rfl rfl) (zQ rfl rfl rfl rfl rfl rfl (ifc hm152 ?_ ?_)))
   ·intro c156 hm157
    refine zC Z Z Z (zn Z Z (nC c156.out) Z) (zC Z Z Z (zn Z Z (nC c156.out) Z) (zC Z Z Z (zn Z Z (nC c156.out) Z) (zC Z Z Z (zn Z Z (nC c156.out) Z) (OKS.px Z Z Z (zn Z Z (nC c156.out) Z) (zC Z Z Z (zn Z Z (nC c156.out) Z) (oR Z (zg Z (nC c156.out) Z) (eN (ZN Z (ZQ (zt (zK (rR fL2 Z (oR Z (ZD (zU Z fi135 Z) (congrArg (jV) hi145.out)) (oM Z Z (ZA ?_)))))))))))))))
    cases hm157
    exact zK ⟨Z,⟨U136,A118,c119,Z,f139,f140,f141,f142,f143,le137,hS138⟩⟩
   ·intro c156 hm161
    refine zQ Z Z Z (zP Z Z (nF (c156.out))) Z f139 (zQ Z Z Z (zP Z Z (nF (c156.out))) Z Z (zQ Z Z Z (zP Z Z (nF (c156.out))) Z Z (zQ Z Z Z (zP Z Z (nF (c156.out))) Z f140 ?_)))
    have q:=hS138.freezeT (k:=0) (n:=y15.length) rfl (wAF (f:=KL.encI) (sz:=1) (fun _=>rfl) y15) (by decide)
    obtain ⟨U163,le164,hs165,hS166,th162⟩:=q
    let B6:Res:=.row A118 c119 3 1 (nA KL.encI l117)
    have hS167:SW w [B0,B2,B1] U U163 [B1,.blk pb0 78 B4,B6] W130:=hS166
    have q:=hS167.freezeT (k:=0) (n:=p0.out.length) rfl (wAF (f:=KL.encT) (sz:=1) (fun _=>rfl) p0.out) (by decide)
    obtain ⟨U169,le170,hs171,hS172,th168⟩:=q
    have hS173:SW w [B0,B2,B1] U U169 [.blk pb0 78 B4,B6] W130:=hS172
    have q:=hS173.freezeTB (k:=0) rfl
    obtain ⟨U175,le176,hC177,hS178,th174⟩:=q
    replace hC177:=Cl.of hC177
    have hS179:SW w [B0,B2,B1] U U175 [B6] W130:=hS178
    replace hC177:Cl U175 pb0 0 B4:=hC177
    have h180:=ha0.le le96
    have h181:=h180.le le137
    have h182:=h181.le le164
    have h183:=h182.le le170
    have h184:=h183.le le176
    have h185:=ha1.le le96
    have h186:=h185.le le137
    have h187:=h186.le le164
    have h188:=h187.le le170
    have h189:=h188.le le176
    have h190:=hs165.le le170
    have h191:=h190.le le176
    have h192:=hs171.le le176
    refine bnK hm161 fun x193 h194 hm195=>zj 0 rfl rfl rfl (zP rfl rfl (nF (c156.out))) (zd rfl rfl Tryz.call73 (zM rfl (zM rfl (zM rfl (zM rfl zr)))) rfl) hS179 (fun hs=>wCN (⟨p0.Race,y15,p0.out⟩:wAC) pb0 pA0_0_1 pc0_0_1 pA0_0_2 pc0_0_2 pA0_1 pc0_1 pA0_2 pc0_2 (↑k121:Int) (gd y15 k121) p1 W130 U175 hs hC177 h184 h189 h191 h192 h194) (.inr rfl) ?_
    rintro U196 L197 v198 W199 le200 hS201 ⟨rfl,rfl⟩
    have hS202:SW w [B0,B2,B1] U U196 [B6] W199:=hS201
    have q:=th174 _ _ _ le200 hS202
    obtain ⟨U203,le204,hS205⟩:=q
    have hS206:SW w [B0,B2,B1] U U203 [.blk pb0 78 B4,B6] W199:=hS205
    have q:=th168 _ _ _ le204 hS206
    obtain ⟨U207,le208,hS209⟩:=q
    have hS210:SW w [B0,B2,B1] U U207 [B1,.blk pb0 78 B4,B6] W199:=hS209
    have q:=th162 _ _ _ le208 hS210
    obtain ⟨U211,le212,hS213⟩:=q
    have hS214:SW w [B0,B2,B1] U U211 [B5,B1,.blk pb0 78 B4,B6] W199:=hS213
    refine zZ Z Z Z (zP Z Z (nF (c156.out))) (fun _=>Runs.geq Z Z Z) (oR Z (ze Z (nF (c156.out)) Z) (eN (ifc hm195 ?_ ?_)))
    ·intro c215 hm216
     refine cT Z c215 (rR (.fl 0 (.fl 1 (.fx 2 (.fx 3 (.fl 4 (.nil)) .stop) .stop))) Z (oM Z f141 (oM Z Z (zW (pv:=[(0,jV (↑k121:Int))]) (zs:=[jV 0]) (cs:=[jV (↑k121:Int)]) Z Z Z Z Z (wAL Z wAT) zA zB zu Z Z Z Z Z hS214 ?_))))
     intro W217 b218 hS219
     let B7:Res:=.row (some ⟨b218,0,none⟩) 1 3 1 (nA KL.encI [(↑k121:Int)])
     have hS221:SW w [B0,B2,B1] U U211 [B7,B5,B1,.blk pb0 78 B4,B6] W217:=hS219
     refine bnK hm216 fun x222 h223 hm224=>ZS (j:=4) (enc:=KL.encI) (xs:=l117) (ys:=[(↑k121:Int)]) (zs:=x222) rfl rfl rfl rfl rfl zz wCP rfl rfl rfl rfl rfl rfl hS221 rfl rfl rfl (hS221.srcR (j:=0) rfl (by decide) (wAF (f:=KL.encI) (sz:=1) (fun _=>rfl) [(↑k121:Int)])) (fun _=>rfl) (fun _=>rfl) h223 rfl ?_
     intro A225 c226 W227 hS228
     have hS229:SW w [B0,B2,B1] U U211 [B7,B5,B1,.blk pb0 78 B4,.row A225 c226 3 1 (nA KL.encI x222)] W227:=hS228
     refine oA Z Z (ZA (zt (zK (rR fL2 Z (oR Z (ZD (zU Z fi135 Z) (congrArg (jV) hi145.out)) (oM Z Z (ZA ?_)))))))
     cases hm224
     exact zK ⟨rfl,⟨U211,A225,c226,rfl,f139,f140,rfl,f142,f143,(le137.trans le212),(hS229.pick [1,2,3,4] _ (by decide) rfl)⟩⟩
    ·intro c215 hm233
     refine cF Z c215 (ZQ (zt (zK (rR fL2 Z (oR Z (ZD (zU Z fi135 Z) (congrArg (jV) hi145.out)) (oM Z Z (ZA ?_)))))))
     cases hm233
     exact zK ⟨Z,⟨U211,A118,c119,Z,f139,f140,f141,f142,f143,(le137.trans le212),hS214⟩⟩
  ·rintro σ237 W238 ⟨U246,A244,c245,fi240,f249,f250,f251,f252,f253,le247,hS248⟩
   have c254:Hid (¬ ((↑(((↑y15.length:Int):Int) - 0).toNat:Int) < (↑y15.length:Int))):=zG (wBA)
   refine sR fL1 Z (oR Z (zV Z fi240 f253) (eN (zL (cF Z c254 (ZR (zq (zq (ZO (zK (sR fL2 Z (oM Z f251 (oA Z Z (eN (zY ?_))))))))))))))
   have h255:=ha0.le le96
   have h256:=h255.le le247
   have h257:=ha1.le le96
   have h258:=h257.le le247
   cases hm122
   exact ⟨rfl,_,(ZC rfl),U246,_,(hS248.pick [3,0,1,2] _ (by decide) rfl),A244,c245,pA0_0_1,pc0_0_1,pA0_0_2,pc0_0_2,pA0_1,pc0_1,pA0_2,pc0_2,rfl,rfl,h256,h258⟩
end Go.Proofs.YtbpllbhagaoocaaGreat
namespace Go.Proofs.YtbpllbhagaoocaaGreat
open Go.KL
set_option maxHeartbeats 4000000
theorem wBd (p0:List wAD) (pA0:Option Addr) (pc0:Nat) (p1:((wAD × wAD)->Option Int)) (pv1:Value) (w:World) (U:PHeap) (hS:St ⟨w,[.row pA0 pc0 38 4 (nA wAG p0)],U⟩ U [.row pA0 pc0 38 4 (nA wAG p0)] w) (ha0:FnOK Tryz.prog U pv1 wPN wPO p1) (ha1:∃ g cb,pv1=.func (.func g) #[] cb) {r:List wAD} (hm:wAU p0 p1=some r):Gv Tryz.prog 74 [.slice pA0 p0.length pc0,pv1] w (wCO w [.row pA0 pc0 38 4 (nA wAG p0)] U (fun U_ L_ v=>v=.tuple #[]/\L_=[.row pA0 pc0 38 4 (nA wAG r)]/\r.length=p0.length)) :=
 wKQ (sz:=4) (fun _=>rfl) (fun x v h=>List.all_eq_true.1 (show (wAG x).all (·.oneCell')=true from rfl) v h) (fun _ _ _=>rfl) (fun _ _ _ _ h=>h.1) (fun enc a1 a2 cf b g cb k1 k2 k3 d w h1 h2 h3 h4 h5 h6=>Go.Proofs.Tryz.slices_SortFunc_total_f74 4 Tryz.isAgg38 Tryz.sizeOf38 enc a1 a2 cf b g cb k1 k2 k3 d w h1 h2 h3 h4 h5 h6) (fun p c v w=>Go.Proofs.Tryz.slices_SortFunc_none_f74 (α:=Int) p c v w) hS ha0 (by decide) ha1 hm
theorem wDL (p0:Int) (w:World) (U:PHeap) (hS:St0 w U [])  {r:Bool} (hm:wBX p0=some r):Gv Tryz.prog 124 [jV p0] w (wCO w [] U (fun U_ L_ v=>v=.bool r/\L_=[])):=by
 unfold wBX at hm
 refine Gv.of Tryz.func124 Z Tryz.ntmps124 Tryz.results124 Z (sR fL1 Z (oA Z Z (eN (sR fL4 Z (oM Z Z (oM Z Z (oR Z (Runs.neq Z Z Z) (oA Z Z (eN (zY ?_))))))))))
 cases hm
 exact ⟨Z,_,(ZC Z),U,_,hS,Z,Z⟩
theorem wCf (p0:Int) (p1:Int) (w:World) (U:PHeap) (hS:St0 w U [])  {r:Int} (hm:wBH p0 p1=some r):Gv Tryz.prog 77 [jV p0,jV p1] w (wCO w [] U (fun U_ L_ v=>v=jV r/\L_=[])):=by
 unfold wBH at hm
 refine Gv.of Tryz.func77 Z Tryz.ntmps77 Tryz.results77 Z (sR fL1 Z (oA Z Z (eN (sR (.fl 0 (.fx 1 (.fl 2 (.nil)) .stop)) Z (oM Z Z (bnK hm fun x1 h2 hm3=>zj 0 Z Z Z Z (zd Z Z Tryz.call124 (zM Z zr) Z) hS (fun hs=>wDL p0 w U hs h2) (.inr Z) ?_))))))
 rintro U4 L5 v6 W7 le8 hS9 ⟨rfl,rfl⟩
 have hS10:sW w U U4 [] W7:=hS9
 refine oA Z Z (eN (sR (.fl 0 (.fx 1 (.fl 2 (.nil)) .stop)) Z (oM Z Z (bnK hm3 fun x11 h12 hm13=>zj 0 Z Z Z Z (zd Z Z Tryz.call124 (zM Z zr) Z) hS10 (fun hs=>wDL p1 W7 U4 hs h12) (.inr Z) ?_))))
 rintro U14 L15 v16 W17 le18 hS19 ⟨rfl,rfl⟩
 have hS20:sW w U U14 [] W17:=hS19
 refine oA Z Z (eN (zL (sR fL1 Z (oM Z Z (eN (ifc hm13 ?_ ?_))))))
 ·intro c21 hm22
  refine ZM (congrArg nD c21.out) (zL (sR fL1 Z (oM Z Z (eN (ifc hm22 ?_ ?_)))))
  ·intro c23 hm24
   refine ZM (congrArg nD c23.out) (sR fL1 Z (oA Z Z (eN (zY (zJ (zJ ?_))))))
   cases hm24
   exact ⟨Z,_,(ZC Z),U14,_,hS20,Z,Z⟩
  ·intro c23 hm25
   refine ZN (congrArg nD (nG.2 c23.out)) (kN (sR fL1 Z (oA Z Z (eN (zY (zJ ?_))))))
   cases hm25
   exact ⟨Z,_,(ZC Z),U14,_,hS20,Z,Z⟩
 ·intro c21 hm26
  refine ZN (congrArg nD (nG.2 c21.out)) (kN (zL (sR fL1 Z (oM Z Z (eN (ifc hm26 ?_ ?_))))))
  ·intro c27 hm28
   refine ZM (congrArg nD c27.out) (sR fL1 Z (oA Z Z (eN (zY (zJ ?_)))))
   cases hm28
   exact ⟨Z,_,(ZC Z),U14,_,hS20,Z,Z⟩
  ·intro c27 hm29
   refine ZN (congrArg nD (nG.2 c27.out)) (kN (zL (sR fL3 Z (oM Z Z (oM Z Z (oR Z (zV Z Z Z) (eN (ifc hm29 ?_ ?_))))))))
   ·intro c30 hm31
    refine cT Z c30 (sR fL1 Z (oA Z Z (eN (zY (zJ ?_)))))
    cases hm31
    exact ⟨Z,_,(ZC Z),U14,_,hS20,Z,Z⟩
   ·intro c30 hm32
    refine cF Z c30 (kN (zL (sR fL3 Z (oM Z Z (oM Z Z (oR Z (Runs.gtr Z Z Z) (eN (ifc hm32 ?_ ?_))))))))
    ·intro c33 hm34
     refine cT Z c33 (sR fL1 Z (oA Z Z (eN (zY (zJ ?_)))))
     cases hm34
     exact ⟨Z,_,(ZC Z),U14,_,hS20,Z,Z⟩
    ·intro c33 hm35
     refine cF Z c33 (kN (sR fL1 Z (oA Z Z (eN (zY ?_)))))
     cases hm35
     exact ⟨Z,_,(ZC Z),U14,_,hS20,Z,Z⟩
theorem wGx (p0:List Int) (pA0:Option Addr) (pc0:Nat) (w:World) (U:PHeap) (hS:St0 w U []) (ha0:Sl U 1 pA0 pc0 p0.length (nA KL.encI p0)) {r:Int} (hm:wCA p0=some r):Gv Tryz.prog 76 [.slice pA0 p0.length pc0] w (wCO w [] U (fun U_ L_ v=>v=jV r/\L_=[])):=by
 unfold wCA at hm
 refine Gv.of Tryz.func76 Z Tryz.ntmps76 Tryz.results76 Z (sR fL1 Z (oA Z Z (eN (sR fL1 Z (oA Z Z (eN (zL (sR fL3 Z (oM Z Z (oR Z (zy Z Z zA) (oM Z Z (eN (zf ?_)))))))))))))
 have q:=wBb hm
 obtain ⟨r3,hX4⟩:=q
 have q:=wBa hX4
 obtain ⟨hle5,hf6⟩:=q
 replace hle5:=zG hle5
 refine Zd (fun k2 _ σ_ w_=>∃ (U_:PHeap),σ_ 8=jV (↑k2:Int)/\σ_ 3=jV 0/\σ_ 6=.slice pA0 p0.length pc0/\σ_ 7=jV (↑p0.length:Int)/\PHeap.Le U U_/\sW w U U_ [] w_) hf6 ?_ ?_ ?_
 ·exact ⟨U,Z,Z,Z,Z,(zI _),hS⟩
 ·rintro k2 ⟨⟩ xx9 σ7 W8 hk12 ⟨U14,fi13,f17,f18,f19,le15,hS16⟩ hx10 hb11
  try dsimp only at hx10
  have c20:Hid ((↑k2:Int) < (↑p0.length:Int)):=zG (wBQ hk12)
  replace hk12:=zG hk12
  have hi21:Hid (w64 ((↑k2:Int) + 1)=(↑(k2 + 1):Int)):=zG (by have h1:=hle5.out;have h2:=c20.out;rw [wAa] <;> omega)
  refine sR fL1 Z (oR Z (zV Z fi13 f19) (eN (zL (cT Z c20 (kN (zL (zf (sR fL3 Z (bnK hx10 fun x22 h23 hm24=>?_)))))))))
  have h25:=ha0.le le15
  have q:=h25.el (fun _=>rfl) (wAP h23)
  obtain ⟨b26,off27,hA28,hC29⟩:=q
  refine oR Z (zo Z f18 hA28 fi13 zA zB (wAu h23)) (oL Z (hS16.ldC (f:=0) hC29 (v:=jV x22) Z Z zN Z) (oA Z Z (eN (sR fL3 Z (oM Z Z (oM Z f17 (oR Z (Runs.neq Z Z Z) (eN (ifc hm24 ?_ ?_)))))))))
  ·intro c30 hm31
   refine ZN (ZK (fun h=>h c30.out)) (ZQ (zt (zK (rR fL2 Z (oR Z (ZD (zU Z fi13 Z) (congrArg (jV) hi21.out)) (oM Z Z (ZA ?_)))))))
   obtain rfl:=nB hm31
   exact zK ⟨Z,_,Z,⟨U14,Z,f17,f18,f19,le15,hS16⟩⟩
  ·intro c30 hm32
   refine cT Z c30 (sR fL2 Z (oM Z Z (oA Z Z (eN (zY (zS (zJ ?_)))))))
   have q:=wAV hm32
   obtain ⟨v33,hm34,e35⟩:=q
   obtain rfl:=wBF hm hX4 (hb11 v33 e35)
   refine zJ (zS (zJ ?_))
   have hE:=nB hm34;first | subst r | cases hE
   exact ⟨Z,_,(ZC Z),U14,_,hS16,Z,Z⟩
 ·rintro ⟨⟩ σ36 W37 ⟨U40,fi39,f43,f44,f45,le41,hS42⟩ hb38
  have hm46:=wCD hm hX4 hb38
  try dsimp only at hm46
  have c47:Hid (¬ ((↑(((↑p0.length:Int):Int) - 0).toNat:Int) < (↑p0.length:Int))):=zG (wBA)
  refine sR fL1 Z (oR Z (zV Z fi39 f45) (eN (zL (cF Z c47 (ZR (zq (zq (ZO (zK (sR fL2 Z (oM Z f43 (oA Z Z (eN (zY ?_))))))))))))))
  cases hm46
  exact ⟨Z,_,(ZC Z),U40,_,hS42,Z,Z⟩
theorem wGT (p0:wAD) (p1:wAD) (w:World) (U:PHeap) (hS:St0 w U [])  {r:Int} (hm:wAb p0 p1=some r):Gv Tryz.prog 75 [.agg #[jV p0.Bib,jV p0.Done,jV p0.Time,jV p0.By],.agg #[jV p1.Bib,jV p1.Done,jV p1.Time,jV p1.By]] w (wCO w [] U (fun U_ L_ v=>v=jV r/\L_=[])):=by
 unfold wAb at hm
 refine Gv.of Tryz.func75 Z Tryz.ntmps75 Tryz.results75 Z (sR (.fx 0 (.fx 1 (.fl 2 (.nil)) .stop) .stop) Z ?_)
 let B0:List Value:=[jV p0.Bib,jV p0.Done,jV p0.Time,jV p0.By]
 refine Zh (cs:=B0) rfl rfl rfl rfl rfl rfl (by rfl) hS ?_
 intro W1 b2 hS3
 let B1:List Value:=[jV p1.Bib,jV p1.Done,jV p1.Time,jV p1.By]
 refine Zh (cs:=B1) rfl rfl rfl rfl rfl rfl (by rfl) hS3 ?_
 intro W5 b6 hS7
 refine OKS.ra rfl rfl rfl rfl rfl rfl (eN (zL (Zb ZW [3,1,3,1,2,3,1,3,1,2,2,2,3] (wOI (fC5_8 (.fx 4 (.fx 9 (.fx 10 (.fx 11 (.fl 12 (.nil)) .stop) .stop) .stop) .stop))) (by kernel_rfl) ?_)))
 have hS9:=hS7.drew
 generalize hw_W10:({ W5 with drawn:=W5.drawn + 1 }:World)=W10 at hS9 ⊢
 refine oR Z (zO Z Z zh Z zB) (oL Z (hS9.ldB (j:=1) Z Z Z zN (v:=jV p0.Time) Z) (oR Z (zO Z Z zh Z zB) (oL Z (hS9.ldB (j:=0) Z Z Z zN (v:=jV p1.Time) Z) (oR Z (zO Z Z zh Z zB) (oL Z (hS9.ldB (j:=1) Z Z Z zN (v:=jV p0.Bib) Z) (oR Z (zO Z Z zh Z zB) (oL Z (hS9.ldB (j:=0) Z Z Z zN (v:=jV p1.Bib) Z) (bnK hm fun x11 h12 hm13=>zj 0 Z Z Z Z (zd Z Z Tryz.call77 (zM Z (zM Z zr)) Z) hS9 (fun hs=>wCf p0.Time p1.Time W10 U hs h12) (.inr Z) ?_))))))))
 rintro U14 L15 v16 W17 le18 hS19 ⟨rfl,rfl⟩
 have hS20:sW w U U14 [.blk b6 38 B1,.blk b2 38 B0] W17:=hS19
 refine bnK hm13 fun x21 h22 hm23=>zj 0 Z Z Z Z (zd Z Z Tryz.call77 (zM Z (zM Z zr)) Z) hS20 (fun hs=>wCf p0.Bib p1.Bib W17 U14 hs h22) (.inr Z) ?_
 rintro U24 L25 v26 W27 le28 hS29 ⟨rfl,rfl⟩
 have hS30:sW w U U24 [.blk b6 38 B1,.blk b2 38 B0] W27:=hS29
 refine zW (pv:=[(0,jV x11),(1,jV x21)]) (zs:=[jV 0,jV 0]) (cs:=[jV x11,jV x21]) Z Z Z Z Z (wAL Z (wAL Z wAT)) zA zB zu Z Z Z Z Z hS30 ?_
 intro W31 b32 hS33
 have hS35:sW w U U24 [.row (some ⟨b32,0,none⟩) 2 3 1 (nA KL.encI [x11,x21]),.blk b6 38 B1,.blk b2 38 B0] W31:=hS33
 have q:=hS35.freezeR (k:=0) (n:=[x11,x21].length) rfl (wAF (f:=KL.encI) (sz:=1) (fun _=>rfl) [x11,x21]) (by decide)
 obtain ⟨U36,le37,hs38,hS39⟩:=q
 have hS40:sW w U U36 [.blk b6 38 B1,.blk b2 38 B0] W31:=hS39
 refine bnK hm23 fun x41 h42 hm43=>zj 0 Z Z Z Z (zd Z Z Tryz.call76 (zM Z zr) Z) hS40 (fun hs=>wGx [x11,x21] (some ⟨b32,0,none⟩) 2 W31 U36 hs hs38 h42) (.inr Z) ?_
 rintro U44 L45 v46 W47 le48 hS49 ⟨rfl,rfl⟩
 have hS50:sW w U U44 [.blk b6 38 B1,.blk b2 38 B0] W47:=hS49
 refine oA Z Z (eN (zY ?_))
 have hE:=nB hm43;first | subst r | cases hE
 exact ⟨rfl,_,(ZC rfl),U44,_,(hS50.pick [] _ (by decide) rfl),rfl,rfl⟩
theorem wFT (p0:wAE) (pA0_1:Option Addr) (pc0_1:Nat) (pA0_2:Option Addr) (pc0_2:Nat) (w:World) (U:PHeap) (hS:St0 w U []) (ha0:Sl U 1 pA0_1 pc0_1 p0.Bibs.length (nA KL.encI p0.Bibs)) (ha1:SlR U wBP pA0_2 pc0_2 p0.Times) {r:wAC × (List wAD)} (hm:wBY p0=some r):Gv Tryz.prog 32 [.agg #[jV p0.Laps,.slice pA0_1 p0.Bibs.length pc0_1,.slice pA0_2 p0.Times.length pc0_2]] w (wCO w [] U (fun U_ L_ v=>∃ (b0:Nat) (A0p01:Option Addr) (c0p01:Nat) (A0p02:Option Addr) (c0p02:Nat) (A0p1:Option Addr) (c0p1:Nat) (A0p2:Option Addr) (c0p2:Nat) (A1:Option Addr) (c1:Nat),v=.tuple #[.pointer (some ⟨b0,0,none⟩),.slice A1 r.2.length c1]/\L_=[.blk b0 78 [jV r.1.Race.Laps,.slice A0p01 r.1.Race.Bibs.length c0p01,.slice A0p02 r.1.Race.Times.length c0p02,.slice A0p1 r.1.done.length c0p1,.slice A0p2 r.1.out.length c0p2],.row A0p1 c0p1 3 1 (nA KL.encI r.1.done),.row A0p2 c0p2 4 1 (nA KL.encT r.1.out),.row A1 c1 38 4 (nA wAG r.2)]/\Sl U_ 1 A0p01 c0p01 r.1.Race.Bibs.length (nA KL.encI r.1.Race.Bibs)/\SlR U_ wBP A0p02 c0p02 r.1.Race.Times)):=by
 unfold wBY at hm
 refine Go.KX.Gv.ofM Tryz.func32 Z Tryz.ntmps32 Tryz.results32 (zm Z) (sR (.fx 0 (.fl 1 (.fl 2 (.nil))) .stop) Z ?_)
 let B0:List Value:=[jV p0.Laps,.slice pA0_1 p0.Bibs.length pc0_1,.slice pA0_2 p0.Times.length pc0_2]
 refine Zh (cs:=B0) rfl rfl rfl rfl rfl rfl (by rfl) hS ?_
 intro W1 b2 hS3
 refine oA Z Z (oA Z Z (eN ?_))
 have q:=bnd hm
 obtain ⟨⟨l9,l12⟩,hx16,hm17⟩:=q
 try dsimp only at hm17
 refine CK.cut (fun σ_ w_=>∃ (U_:PHeap) (b6:Nat) (b8:Nat) (A10:Option Addr) (c11:Nat) (A13:Option Addr) (c14:Nat),σ_ 1=.pointer (some ⟨b2,0,none⟩)/\σ_ 4=.pointer (some ⟨b6,0,none⟩)/\PHeap.Le U U_/\sW w U U_ [.blk b2 26 B0,.blk b6 73 [.pointer (some ⟨b8,0,none⟩)],.blk b8 78 [jV p0.Laps,.slice pA0_1 p0.Bibs.length pc0_1,.slice pA0_2 p0.Times.length pc0_2,.slice A10 l9.length c11,.slice A13 l12.length c14],.row A10 c11 3 1 (nA KL.encI l9),.row A13 c14 4 1 (nA KL.encT l12)] w_) ?_ ?_
 ·refine bnK hx16 fun x18 h19 hm45=>bnK hm45 fun x26 h27 hm46=>Zb ZW [1,3,1,3,2,3,1,3,2,3,2,2,0] (wOI (fC5_7 (.fx 4 (.fx 8 (.fl 9 (.fx 10 (.fx 11 (.fx 12 (.nil) (.stop)) (.stop)) (.fx 11 (.fx 10 (.fx 12 (.nil) (.stop)) (.stop)) (.stop)))) (.fx 11 (.fx 8 (.fl 9 (.fx 10 (.fx 12 (.nil) (.stop)) (.stop))) (.stop)) (.stop))) (.fx 8 (.fx 4 (.fl 9 (.fx 10 (.fx 11 (.fx 12 (.nil) (.stop)) (.stop)) (.fx 11 (.fx 10 (.fx 12 (.nil) (.stop)) (.stop)) (.stop)))) (.fx 11 (.fx 4 (.fl 9 (.fx 10 (.fx 12 (.nil) (.stop)) (.stop))) (.stop)) (.stop))) (.fx 11 (.fx 4 (.fx 8 (.fl 9 (.fx 10 (.fx 12 (.nil) (.stop)) (.stop))) (.stop)) (.fx 8 (.fx 4 (.fl 9 (.fx 10 (.fx 12 (.nil) (.stop)) (.stop))) (.stop)) (.stop))) (.stop)))))) (by kernel_rfl) ?_
  have hS47:=hS3.drew
  generalize hw_W48:({ W1 with drawn:=W1.drawn + 1 }:World)=W48 at hS47 ⊢
  refine zw (s:=.nil) (M:=fun σ_ w_=>∃ (U_:PHeap) (b158:Nat) (b160:Nat) (A161:Option Addr) (c162:Nat) (A163:Option Addr) (c164:Nat),σ_ 1=.pointer (some ⟨b2,0,none⟩)/\σ_ 4=.pointer (some ⟨b158,0,none⟩)/\σ_ 12=.agg B0.toArray/\σ_ 13=.pointer (some ⟨b2,1,none⟩)/\σ_ 14=.slice pA0_1 p0.Bibs.length pc0_1/\σ_ 15=jV (↑p0.Bibs.length:Int)/\σ_ 16=.slice A161 x18.length c162/\σ_ 17=.pointer (some ⟨b2,1,none⟩)/\σ_ 18=.slice pA0_1 p0.Bibs.length pc0_1/\σ_ 19=jV (↑p0.Bibs.length:Int)/\σ_ 20=.slice A163 x26.length c164/\σ_ 21=.agg #[jV p0.Laps,.slice pA0_1 p0.Bibs.length pc0_1,.slice pA0_2 p0.Times.length pc0_2,.slice A161 x18.length c162,.slice A163 x26.length c164]/\σ_ 22=.pointer (some ⟨b160,0,none⟩)/\PHeap.Le U U_/\sW w U U_ [.blk b2 26 B0,.blk b158 73 [.pointer (some ⟨b160,0,none⟩)],.blk b160 78 [jV p0.Laps,.slice pA0_1 p0.Bibs.length pc0_1,.slice pA0_2 p0.Times.length pc0_2,.slice A161 x18.length c162,.slice A163 x26.length c164],.row A161 c162 3 1 (nA KL.encI x18),.row A163 c164 4 1 (nA KL.encT x26)] w_) ?_ fun ko165=>?_
  ·rintro σ166 W167 ⟨U168,b158,b160,A161,c162,A163,c164,f171,f172,f173,f174,f175,f176,f177,f178,f179,f180,f181,f182,f183,le169,hS170⟩
   refine ZA ?_
   cases hm46
   exact zK ⟨Z,⟨U168,b158,b160,A161,c162,A163,c164,f171,f172,le169,hS170⟩⟩
  refine zw (s:=.fx 12 (.nil) (.stop)) (M:=fun σ_ w_=>∃ (U_:PHeap) (b195:Nat) (A196:Option Addr) (c197:Nat) (A198:Option Addr) (c199:Nat) (b201:Nat),σ_ 1=.pointer (some ⟨b2,0,none⟩)/\σ_ 4=.pointer (some ⟨b195,0,none⟩)/\σ_ 12=.agg B0.toArray/\σ_ 13=.pointer (some ⟨b2,1,none⟩)/\σ_ 14=.slice pA0_1 p0.Bibs.length pc0_1/\σ_ 15=jV (↑p0.Bibs.length:Int)/\σ_ 16=.slice A196 x18.length c197/\σ_ 17=.pointer (some ⟨b2,1,none⟩)/\σ_ 18=.slice pA0_1 p0.Bibs.length pc0_1/\σ_ 19=jV (↑p0.Bibs.length:Int)/\σ_ 20=.slice A198 x26.length c199/\σ_ 21=.agg #[jV p0.Laps,.slice pA0_1 p0.Bibs.length pc0_1,.slice pA0_2 p0.Times.length pc0_2,.slice A196 x18.length c197,.slice A198 x26.length c199]/\σ_ 22=.pointer (some ⟨b201,0,none⟩)/\PHeap.Le U U_/\sW w U U_ [.blk b2 26 B0,.blk b195 73 [.pointer none],.row A196 c197 3 1 (nA KL.encI x18),.row A198 c199 4 1 (nA KL.encT x26),.blk b201 78 [jV p0.Laps,.slice pA0_1 p0.Bibs.length pc0_1,.slice pA0_2 p0.Times.length pc0_2,.slice A196 x18.length c197,.slice A198 x26.length c199]] w_) ?_ fun ko202=>?_
  ·rintro σ203 W204 ⟨U205,b195,A196,c197,A198,c199,b201,f208,f209,f210,f211,f212,f213,f214,f215,f216,f217,f218,f219,f220,le206,hS207⟩
   let B1:List Value:=[.pointer (some ⟨b201,0,none⟩)]
   refine OKS.st (j:=1) (vs:=B1) Z Z Z Z hS207 Z f209 f220 Z Tryz.sizeOf73 (zm Z) Z Z Z ?_
   intro W221 hS222
   have hS223:sW w U U205 [.blk b2 26 B0,.blk b195 73 B1,.row A196 c197 3 1 (nA KL.encI x18),.row A198 c199 4 1 (nA KL.encT x26),.blk b201 78 [jV p0.Laps,.slice pA0_1 p0.Bibs.length pc0_1,.slice pA0_2 p0.Times.length pc0_2,.slice A196 x18.length c197,.slice A198 x26.length c199]] W221:=hS222
   exact ko165 _ _ ⟨U205,b195,b201,A196,c197,A198,c199,f208,f209,f210,f211,f212,f213,f214,f215,f216,f217,f218,f219,f220,le206,(hS223.pick [0,1,4,2,3] _ (by decide) rfl)⟩
  refine zw (s:=.fx 10 (.fx 12 (.nil) (.stop)) (.stop)) (M:=fun σ_ w_=>∃ (U_:PHeap) (b233:Nat) (A234:Option Addr) (c235:Nat) (A236:Option Addr) (c237:Nat),σ_ 1=.pointer (some ⟨b2,0,none⟩)/\σ_ 4=.pointer (some ⟨b233,0,none⟩)/\σ_ 12=.agg B0.toArray/\σ_ 13=.pointer (some ⟨b2,1,none⟩)/\σ_ 14=.slice pA0_1 p0.Bibs.length pc0_1/\σ_ 15=jV (↑p0.Bibs.length:Int)/\σ_ 16=.slice A234 x18.length c235/\σ_ 17=.pointer (some ⟨b2,1,none⟩)/\σ_ 18=.slice pA0_1 p0.Bibs.length pc0_1/\σ_ 19=jV (↑p0.Bibs.length:Int)/\σ_ 20=.slice A236 x26.length c237/\σ_ 21=.agg #[jV p0.Laps,.slice pA0_1 p0.Bibs.length pc0_1,.slice pA0_2 p0.Times.length pc0_2,.slice A234 x18.length c235,.slice A236 x26.length c237]/\PHeap.Le U U_/\sW w U U_ [.blk b2 26 B0,.blk b233 73 [.pointer none],.row A234 c235 3 1 (nA KL.encI x18),.row A236 c237 4 1 (nA KL.encT x26)] w_) ?_ fun ko238=>?_
  ·rintro σ239 W240 ⟨U241,b233,A234,c235,A236,c237,f244,f245,f246,f247,f248,f249,f250,f251,f252,f253,f254,f255,le242,hS243⟩
   refine Zh (cs:=[jV p0.Laps,.slice pA0_1 p0.Bibs.length pc0_1,.slice pA0_2 p0.Times.length pc0_2,.slice A234 x18.length c235,.slice A236 x26.length c237]) rfl rfl rfl rfl rfl f255 (by rfl) hS243 ?_
   intro W256 b257 hS258
   exact ko202 _ _ ⟨U241,b233,A234,c235,A236,c237,b257,f244,f245,f246,f247,f248,f249,f250,f251,f252,f253,f254,f255,rfl,le242,(hS258.pick [1,2,3,4,0] _ (by decide) rfl)⟩
  refine zw (s:=.fx 11 (.fx 12 (.nil) (.stop)) (.stop)) (M:=fun σ_ w_=>∃ (U_:PHeap) (A268:Option Addr) (c269:Nat) (A270:Option Addr) (c271:Nat) (b273:Nat),σ_ 1=.pointer (some ⟨b2,0,none⟩)/\σ_ 12=.agg B0.toArray/\σ_ 13=.pointer (some ⟨b2,1,none⟩)/\σ_ 14=.slice pA0_1 p0.Bibs.length pc0_1/\σ_ 15=jV (↑p0.Bibs.length:Int)/\σ_ 16=.slice A268 x18.length c269/\σ_ 17=.pointer (some ⟨b2,1,none⟩)/\σ_ 18=.slice pA0_1 p0.Bibs.length pc0_1/\σ_ 19=jV (↑p0.Bibs.length:Int)/\σ_ 20=.slice A270 x26.length c271/\σ_ 21=.agg #[jV p0.Laps,.slice pA0_1 p0.Bibs.length pc0_1,.slice pA0_2 p0.Times.length pc0_2,.slice A268 x18.length c269,.slice A270 x26.length c271]/\σ_ 22=.pointer (some ⟨b273,0,none⟩)/\PHeap.Le U U_/\sW w U U_ [.blk b2 26 B0,.row A268 c269 3 1 (nA KL.encI x18),.row A270 c271 4 1 (nA KL.encT x26),.blk b273 78 [jV p0.Laps,.slice pA0_1 p0.Bibs.length pc0_1,.slice pA0_2 p0.Times.length pc0_2,.slice A268 x18.length c269,.slice A270 x26.length c271]] w_) ?_ fun ko274=>?_
  ·rintro σ275 W276 ⟨U277,A268,c269,A270,c271,b273,f280,f281,f282,f283,f284,f285,f286,f287,f288,f289,f290,f291,le278,hS279⟩
   refine Zc (cs:=[.pointer none]) Z Z Z Z Z Tryz.zeroValue73 Z hS279 ?_
   intro W292 b293 hS294
   exact ko202 _ _ ⟨U277,b293,A268,c269,A270,c271,b273,f280,rfl,f281,f282,f283,f284,f285,f286,f287,f288,f289,f290,f291,le278,(hS294.pick [1,0,2,3,4] _ (by decide) rfl)⟩
  refine zw (s:=.fl 9 (.fx 10 (.fx 12 (.nil) (.stop)) (.stop))) (M:=fun σ_ w_=>∃ (U_:PHeap) (b305:Nat) (A306:Option Addr) (c307:Nat) (A308:Option Addr) (c309:Nat),σ_ 1=.pointer (some ⟨b2,0,none⟩)/\σ_ 4=.pointer (some ⟨b305,0,none⟩)/\σ_ 12=.agg B0.toArray/\σ_ 13=.pointer (some ⟨b2,1,none⟩)/\σ_ 14=.slice pA0_1 p0.Bibs.length pc0_1/\σ_ 15=jV (↑p0.Bibs.length:Int)/\σ_ 16=.slice A306 x18.length c307/\σ_ 17=.pointer (some ⟨b2,1,none⟩)/\σ_ 18=.slice pA0_1 p0.Bibs.length pc0_1/\σ_ 19=jV (↑p0.Bibs.length:Int)/\σ_ 20=.slice A308 x26.length c309/\PHeap.Le U U_/\sW w U U_ [.blk b2 26 B0,.blk b305 73 [.pointer none],.row A306 c307 3 1 (nA KL.encI x18),.row A308 c309 4 1 (nA KL.encT x26)] w_) ?_ fun ko310=>?_
  ·rintro σ311 W312 ⟨U313,b305,A306,c307,A308,c309,f316,f317,f318,f319,f320,f321,f322,f323,f324,f325,f326,le314,hS315⟩
   let B2:List Value:=[jV p0.Laps,.slice pA0_1 p0.Bibs.length pc0_1,.slice pA0_2 p0.Times.length pc0_2,.slice A306 x18.length c307,.slice A308 x26.length c309]
   refine zZ rfl rfl rfl rfl (fun _=>Runs.build (pv:=[(0,.agg B0.toArray),(1,.slice A306 x18.length c307),(2,.slice A308 x26.length c309)]) (z:=[jV 0,.slice none 0 0,.slice none 0 0,.slice none 0 0,.slice none 0 0]) (cs:=B2) rfl (wAL f318 (wAL f322 (wAL f326 wAT))) Tryz.zeroValue78 wIZ rfl rfl) (Zh (cs:=B2) rfl rfl rfl rfl rfl rfl (by rfl) hS315 ?_)
   intro W327 b328 hS329
   exact ko202 _ _ ⟨U313,b305,A306,c307,A308,c309,b328,f316,f317,f318,f319,f320,f321,f322,f323,f324,f325,f326,rfl,rfl,le314,(hS329.pick [1,2,3,4,0] _ (by decide) rfl)⟩
  refine zw (s:=.fx 4 (.fl 9 (.fx 10 (.fx 12 (.nil) (.stop)) (.stop))) (.stop)) (M:=fun σ_ w_=>∃ (U_:PHeap) (b340:Nat) (A341:Option Addr) (c342:Nat),σ_ 1=.pointer (some ⟨b2,0,none⟩)/\σ_ 4=.pointer (some ⟨b340,0,none⟩)/\σ_ 12=.agg B0.toArray/\σ_ 13=.pointer (some ⟨b2,1,none⟩)/\σ_ 14=.slice pA0_1 p0.Bibs.length pc0_1/\σ_ 15=jV (↑p0.Bibs.length:Int)/\σ_ 17=.pointer (some ⟨b2,1,none⟩)/\σ_ 18=.slice pA0_1 p0.Bibs.length pc0_1/\σ_ 19=jV (↑p0.Bibs.length:Int)/\σ_ 20=.slice A341 x26.length c342/\PHeap.Le U U_/\sW w U U_ [.blk b2 26 B0,.blk b340 73 [.pointer none],.row A341 c342 4 1 (nA KL.encT x26)] w_) ?_ fun ko343=>?_
  ·rintro σ344 W345 ⟨U346,b340,A341,c342,f349,f350,f351,f352,f353,f354,f355,f356,f357,f358,le347,hS348⟩
   refine Ze (enc:=KL.encI) (z:=(0:Int)) (v:=jV 0) Z Z Z Z Z (wCE zA) wCP Z Z Z Z f354 f354 h19 hS348 ?_
   intro W359 b360 hS361
   have hS363:sW w U U346 [.row (some ⟨b360,0,none⟩) x18.length 3 1 (nA KL.encI x18),.blk b2 26 B0,.blk b340 73 [.pointer none],.row A341 c342 4 1 (nA KL.encT x26)] W359:=hS361
   exact ko310 _ _ ⟨U346,b340,(some ⟨b360,0,none⟩),x18.length,A341,c342,f349,f350,f351,f352,f353,f354,rfl,f355,f356,f357,f358,le347,(hS363.pick [1,2,0,3] _ (by decide) rfl)⟩
  refine zw (s:=.fx 8 (.fl 9 (.fx 10 (.fx 12 (.nil) (.stop)) (.stop))) (.stop)) (M:=fun σ_ w_=>∃ (U_:PHeap) (b371:Nat) (A372:Option Addr) (c373:Nat),σ_ 1=.pointer (some ⟨b2,0,none⟩)/\σ_ 4=.pointer (some ⟨b371,0,none⟩)/\σ_ 12=.agg B0.toArray/\σ_ 13=.pointer (some ⟨b2,1,none⟩)/\σ_ 14=.slice pA0_1 p0.Bibs.length pc0_1/\σ_ 15=jV (↑p0.Bibs.length:Int)/\σ_ 16=.slice A372 x18.length c373/\σ_ 17=.pointer (some ⟨b2,1,none⟩)/\σ_ 18=.slice pA0_1 p0.Bibs.length pc0_1/\σ_ 19=jV (↑p0.Bibs.length:Int)/\PHeap.Le U U_/\sW w U U_ [.blk b2 26 B0,.blk b371 73 [.pointer none],.row A372 c373 3 1 (nA KL.encI x18)] w_) ?_ fun ko374=>?_
  ·rintro σ375 W376 ⟨U377,b371,A372,c373,f380,f381,f382,f383,f384,f385,f386,f387,f388,f389,le378,hS379⟩
   refine Ze (enc:=KL.encT) (z:=false) (v:=.bool false) Z Z Z Z Z (wCE ZT) wMD Z Z Z Z f389 f389 h27 hS379 ?_
   intro W390 b391 hS392
   have hS394:sW w U U377 [.row (some ⟨b391,0,none⟩) x26.length 4 1 (nA KL.encT x26),.blk b2 26 B0,.blk b371 73 [.pointer none],.row A372 c373 3 1 (nA KL.encI x18)] W390:=hS392
   exact ko310 _ _ ⟨U377,b371,A372,c373,(some ⟨b391,0,none⟩),x26.length,f380,f381,f382,f383,f384,f385,f386,f387,f388,f389,rfl,le378,(hS394.pick [1,2,3,0] _ (by decide) rfl)⟩
  refine zw (s:=.fl 9 (.fx 10 (.fx 11 (.fx 12 (.nil) (.stop)) (.stop)) (.fx 11 (.fx 10 (.fx 12 (.nil) (.stop)) (.stop)) (.stop)))) (M:=fun σ_ w_=>∃ (U_:PHeap) (A401:Option Addr) (c402:Nat) (A403:Option Addr) (c404:Nat),σ_ 1=.pointer (some ⟨b2,0,none⟩)/\σ_ 12=.agg B0.toArray/\σ_ 13=.pointer (some ⟨b2,1,none⟩)/\σ_ 14=.slice pA0_1 p0.Bibs.length pc0_1/\σ_ 15=jV (↑p0.Bibs.length:Int)/\σ_ 16=.slice A401 x18.length c402/\σ_ 17=.pointer (some ⟨b2,1,none⟩)/\σ_ 18=.slice pA0_1 p0.Bibs.length pc0_1/\σ_ 19=jV (↑p0.Bibs.length:Int)/\σ_ 20=.slice A403 x26.length c404/\PHeap.Le U U_/\sW w U U_ [.blk b2 26 B0,.row A401 c402 3 1 (nA KL.encI x18),.row A403 c404 4 1 (nA KL.encT x26)] w_) ?_ fun ko405=>?_
  ·rintro σ406 W407 ⟨U408,A401,c402,A403,c404,f411,f412,f413,f414,f415,f416,f417,f418,f419,f420,le409,hS410⟩
   let B3:List Value:=[jV p0.Laps,.slice pA0_1 p0.Bibs.length pc0_1,.slice pA0_2 p0.Times.length pc0_2,.slice A401 x18.length c402,.slice A403 x26.length c404]
   refine oR Z (Runs.build (pv:=[(0,.agg B0.toArray),(1,.slice A401 x18.length c402),(2,.slice A403 x26.length c404)]) (z:=[jV 0,.slice none 0 0,.slice none 0 0,.slice none 0 0,.slice none 0 0]) (cs:=B3) Z (wAL f412 (wAL f416 (wAL f420 wAT))) Tryz.zeroValue78 wIZ Z Z) (zk ?_ ?_)
   ·refine Zh (cs:=B3) rfl rfl rfl rfl rfl rfl (by rfl) hS410 ?_
    intro W421 b422 hS423
    exact ko274 _ _ ⟨U408,A401,c402,A403,c404,b422,f411,f412,f413,f414,f415,f416,f417,f418,f419,f420,rfl,rfl,le409,(hS423.pick [1,2,3,0] _ (by decide) rfl)⟩
   ·refine Zc (cs:=[.pointer none]) Z Z Z Z Z Tryz.zeroValue73 Z hS410 ?_
    intro W431 b432 hS433
    exact ko238 _ _ ⟨U408,b432,A401,c402,A403,c404,f411,rfl,f412,f413,f414,f415,f416,f417,f418,f419,f420,rfl,le409,(hS433.pick [1,0,2,3] _ (by decide) rfl)⟩
  refine oL Z (hS47.ldBA (j:=0) Z Z Z ZY ZF (vs:=B0) Z Z) (oR Z (zO Z Z zD Z zF) (oL Z (hS47.ldB (j:=0) Z Z Z zR (v:=.slice pA0_1 p0.Bibs.length pc0_1) Z) (oR Z (zy Z Z zA) (oR Z (zO Z Z zD Z zF) (oL Z (hS47.ldB (j:=0) Z Z Z zR (v:=.slice pA0_1 p0.Bibs.length pc0_1) Z) (oR Z (zy Z Z zA) (zk ?_ ?_)))))))
  ·refine Ze (enc:=KL.encI) (z:=(0:Int)) (v:=jV 0) Z Z Z Z Z (wCE zA) wCP Z Z Z Z Z Z h19 hS47 ?_
   intro W441 b442 hS443
   let B4:Res:=.row (some ⟨b442,0,none⟩) x18.length 3 1 (nA KL.encI x18)
   have hS445:sW w U U [B4,.blk b2 26 B0] W441:=hS443
   refine zk ?_ ?_
   ·refine Ze (enc:=KL.encT) (z:=false) (v:=.bool false) Z Z Z Z Z (wCE ZT) wMD Z Z Z Z Z Z h27 hS445 ?_
    intro W446 b447 hS448
    have hS450:sW w U U [.row (some ⟨b447,0,none⟩) x26.length 4 1 (nA KL.encT x26),B4,.blk b2 26 B0] W446:=hS448
    exact ko405 _ _ ⟨U,(some ⟨b442,0,none⟩),x18.length,(some ⟨b447,0,none⟩),x26.length,rfl,rfl,rfl,rfl,rfl,rfl,rfl,rfl,rfl,rfl,(zI _),(hS450.pick [2,1,0] _ (by decide) rfl)⟩
   ·refine Zc (cs:=[.pointer none]) Z Z Z Z Z Tryz.zeroValue73 Z hS445 ?_
    intro W455 b456 hS457
    exact ko374 _ _ ⟨U,b456,(some ⟨b442,0,none⟩),x18.length,rfl,rfl,rfl,rfl,rfl,rfl,rfl,rfl,rfl,rfl,(zI _),(hS457.pick [2,0,1] _ (by decide) rfl)⟩
  refine zk ?_ ?_
  ·refine Ze (enc:=KL.encT) (z:=false) (v:=.bool false) Z Z Z Z Z (wCE ZT) wMD Z Z Z Z Z Z h27 hS47 ?_
   intro W463 b464 hS465
   let B5:Res:=.row (some ⟨b464,0,none⟩) x26.length 4 1 (nA KL.encT x26)
   have hS467:sW w U U [B5,.blk b2 26 B0] W463:=hS465
   refine zk ?_ ?_
   ·refine Ze (enc:=KL.encI) (z:=(0:Int)) (v:=jV 0) Z Z Z Z Z (wCE zA) wCP Z Z Z Z Z Z h19 hS467 ?_
    intro W468 b469 hS470
    have hS472:sW w U U [.row (some ⟨b469,0,none⟩) x18.length 3 1 (nA KL.encI x18),B5,.blk b2 26 B0] W468:=hS470
    exact ko405 _ _ ⟨U,(some ⟨b469,0,none⟩),x18.length,(some ⟨b464,0,none⟩),x26.length,rfl,rfl,rfl,rfl,rfl,rfl,rfl,rfl,rfl,rfl,(zI _),(hS472.pick [2,0,1] _ (by decide) rfl)⟩
   ·refine Zc (cs:=[.pointer none]) Z Z Z Z Z Tryz.zeroValue73 Z hS467 ?_
    intro W477 b478 hS479
    exact ko343 _ _ ⟨U,b478,(some ⟨b464,0,none⟩),x26.length,rfl,rfl,rfl,rfl,rfl,rfl,rfl,rfl,rfl,rfl,(zI _),(hS479.pick [2,0,1] _ (by decide) rfl)⟩
  ·refine Zc (cs:=[.pointer none]) Z Z Z Z Z Tryz.zeroValue73 Z hS47 ?_
   intro W485 b486 hS487
   refine zk ?_ ?_
   ·refine Ze (enc:=KL.encI) (z:=(0:Int)) (v:=jV 0) Z Z Z Z Z (wCE zA) wCP Z Z Z Z Z Z h19 hS487 ?_
    intro W489 b490 hS491
    have hS493:sW w U U [.row (some ⟨b490,0,none⟩) x18.length 3 1 (nA KL.encI x18),.blk b486 73 [.pointer none],.blk b2 26 B0] W489:=hS491
    exact ko374 _ _ ⟨U,b486,(some ⟨b490,0,none⟩),x18.length,rfl,rfl,rfl,rfl,rfl,rfl,rfl,rfl,rfl,rfl,(zI _),(hS493.pick [2,1,0] _ (by decide) rfl)⟩
   ·refine Ze (enc:=KL.encT) (z:=false) (v:=.bool false) Z Z Z Z Z (wCE ZT) wMD Z Z Z Z Z Z h27 hS487 ?_
    intro W498 b499 hS500
    have hS502:sW w U U [.row (some ⟨b499,0,none⟩) x26.length 4 1 (nA KL.encT x26),.blk b486 73 [.pointer none],.blk b2 26 B0] W498:=hS500
    exact ko343 _ _ ⟨U,b486,(some ⟨b499,0,none⟩),x26.length,rfl,rfl,rfl,rfl,rfl,rfl,rfl,rfl,rfl,rfl,(zI _),(hS502.pick [2,1,0] _ (by decide) rfl)⟩
 ·rintro σ507 W508 ⟨U509,b6,b8,A10,c11,A13,c14,f512,f513,le510,hS511⟩
  refine sR (.fx 0 (.nil) .stop) Z (Zc (cs:=[.slice none 0 0]) Z Z Z Z Z Tryz.zeroValue30 Z hS511 ?_)
  intro W514 b515 hS516
  refine eN (zL (sR (.fl 0 (.fx 1 (.nil) .stop)) Z (oL Z (hS516.ldBA (j:=1) Z Z f512 ZY ZF (vs:=B0) Z Z) ?_)))
  have h518:=ha0.le le510
  have h519:=ha1.le le510
  refine bnK hm17 fun x520 h521 hm522=>zj 0 Z Z Z Z (zd Z Z Tryz.call71 (zM Z zr) Z) hS516 (fun hs=>wEA p0 pA0_1 pc0_1 pA0_2 pc0_2 W514 U509 hs h518 h519 h521) (.inr Z) ?_
  rintro U523 L524 v525 W526 le527 hS528 ⟨b529,A530,c531,rfl,rfl,h532,h533⟩
  let B6:Res:=.blk b6 73 [.pointer (some ⟨b8,0,none⟩)]
  have hS534:sW w U U523 [.blk b515 30 [.slice none 0 0],.blk b2 26 B0,B6,.blk b8 78 [jV p0.Laps,.slice pA0_1 p0.Bibs.length pc0_1,.slice pA0_2 p0.Times.length pc0_2,.slice A10 l9.length c11,.slice A13 l12.length c14],.row A10 c11 3 1 (nA KL.encI l9),.row A13 c14 4 1 (nA KL.encT l12)] W526:=hS528
  refine eN (zf (CK.fresh fun σ535 hσ536=>?_))
  have f537:σ535 4=.pointer (some ⟨b6,0,none⟩):=(hσ536 4).trans f513
  have f538:σ535 5=.pointer (some ⟨b515,0,none⟩):=(hσ536 5).trans rfl
  have f539:σ535 24=.func (.func 159) #[] #[.pointer (some ⟨b529,0,none⟩)]:=(hσ536 24).trans rfl
  clear hσ536
  have hS1114:=hS534.nilrow 38 4
  have h1116:=h518.le le527
  have h1117:=h519.le le527
  refine bnK hm522 fun rr1118 hit1119 hm1120=>CK.rangeY (S:=(List wAD) × Int × (List Int) × (List (List Int)) × (List Int) × (List Bool)) (E:=Empty) (ar:=wLI) (PY:=(fun (s_:(List wAD) × Int × (List Int) × (List (List Int)) × (List Int) × (List Bool)) (U_:PHeap) (L_:List Res)=>match s_ with | (l1081,x1085,l1086,l1089,l1092,l1095)=>∃ (A1082:Option Addr) (c1083:Nat) (A1087:Option Addr) (c1088:Nat) (A1090:Option Addr) (c1091:Nat) (A1093:Option Addr) (c1094:Nat) (A1096:Option Addr) (c1097:Nat),L_=[.row A1082 c1083 38 4 (nA wAG l1081),.blk b515 30 [.slice A1082 l1081.length c1083],.blk b2 26 B0,B6,.row A1093 c1094 3 1 (nA KL.encI l1092),.row A1096 c1097 4 1 (nA KL.encT l1095),.blk b8 78 [jV x1085,.slice A1087 l1086.length c1088,.slice A1090 l1089.length c1091,.slice A1093 l1092.length c1094,.slice A1096 l1095.length c1097]]/\Sl U_ 1 A1087 c1088 l1086.length (nA KL.encI l1086)/\SlR U_ wBP A1090 c1091 l1089)) (PE:=(fun (_:Empty) _ _=>False)) (exO:=Empty.elim) (s0:=([],p0.Laps,p0.Bibs,p0.Times,l9,l12)) (rr:=rr1118) f539 Tryz.call159 (hS1114.pick [0,1,2,3,5,6,4] _ (by decide) rfl) (by decide) (fun _ _ _ h=>by obtain rfl:=h;rfl) (fun e=>nomatch e) ⟨none,0,pA0_1,pc0_1,pA0_2,pc0_2,A10,c11,A13,c14,rfl,h1116,h1117⟩ (fun l w1 L1 PY' PE' hS1 hP1 hY1=>wCY PY' PE' _ l _ x520 b529 A530 c531 w1 L1 U523 hS1 hP1 hY1 h532 h533 hit1119) ?_ ?_
  ·rintro l1121 rb1122 fn1123 ⟨l1081,x1085,l1086,l1089,l1092,l1095⟩ x1124 vs1125 r1126 ph1127 L1128 w1129 o1130 B1131 le1132 hS1133 hP1134 ha1135 hf1136 sg1137 hs1138
   obtain ⟨A1082,c1083,A1087,c1088,A1090,c1091,A1093,c1094,A1096,c1097,rfl,h1139,h1140⟩:=hP1134
   obtain rfl:=ha1135
   replace hs1138:∀ t,sg1137 t=upd σ535 25 (jV x1124) t:=hs1138
   have f1141:sg1137 25=jV x1124:=(hs1138 25).trans (wBk _ _ _)
   have f1142:sg1137 4=.pointer (some ⟨b6,0,none⟩):=(hs1138 4).trans ((wCI _ _ (by decide)).trans f537)
   have f1143:sg1137 5=.pointer (some ⟨b515,0,none⟩):=(hs1138 5).trans ((wCI _ _ (by decide)).trans f538)
   clear hs1138
   let B7:Res:=.blk b8 78 [jV x1085,.slice A1087 l1086.length c1088,.slice A1090 l1089.length c1091,.slice A1093 l1092.length c1094,.slice A1096 l1095.length c1097]
   let B8:Res:=.row A1082 c1083 38 4 (nA wAG l1081)
   let B9:Res:=.blk b515 30 [.slice A1082 l1081.length c1083]
   let B10:Res:=.row A1093 c1094 3 1 (nA KL.encI l1092)
   let B11:Res:=.row A1096 c1097 4 1 (nA KL.encT l1095)
   have hS1145:St B1131 ph1127 [.obj l1121 o1130,B8,B9,.blk b2 26 B0,B6,B10,B11,B7] w1129:=hS1133
   try dsimp only at hf1136
   refine rR fL1 Z (oA Z f1141 (ZA ⟨Z,Z,_,_,hS1145,fun W1146 o1147 hS1148=>?_⟩))
   have hS1149:St B1131 ph1127 [.obj l1121 o1147,B8,B9,.blk b2 26 B0,B6,B10,B11,B7] W1146:=hS1148
   refine zf (sR (.fl 0 (.fl 1 (.fx 2 (.fl 3 (.nil)) .stop))) Z (oL Z (hS1149.ldB (j:=4) Z Z f1142 Zg (v:=.pointer (some ⟨b8,0,none⟩)) Z) (oM Z Z ?_)))
   have q:=bnd hf1136
   obtain ⟨⟨x1150,x1151⟩,h1152,hm1153⟩:=q
   try dsimp only at hm1153
   have hS1154:St B1131 ph1127 [B7,B10,B11,.obj l1121 o1147,B8,B9,.blk b2 26 B0,B6] W1146:=hS1149.pick [7,5,6,0,1,2,3,4] _ (by decide) rfl
   refine zj 3 Z Z Z Z (zd Z Z Tryz.call72 (zM Z (zM Z zr)) Z) hS1154 (fun hs=>wDK (⟨(⟨x1085,l1086,l1089⟩:wAE),l1092,l1095⟩:wAC) b8 A1087 c1088 A1090 c1091 A1093 c1094 A1096 c1097 x1124 W1146 ph1127 hs h1139 h1140 h1152) (.inl Z) ?_
   rintro U1155 L1156 v1157 W1158 le1159 hS1160 ⟨A1161,c1162,A1163,c1164,A1165,c1166,A1167,c1168,A1169,c1170,rfl,rfl,h1174,h1175⟩
   let B12:List Value:=[jV x1151.Race.Laps,.slice A1163 x1151.Race.Bibs.length c1164,.slice A1165 x1151.Race.Times.length c1166,.slice A1167 x1151.done.length c1168,.slice A1169 x1151.out.length c1170]
   let B13:Res:=.row A1161 c1162 3 1 (nA KL.encI x1150)
   let B14:Res:=.row A1167 c1168 3 1 (nA KL.encI x1151.done)
   let B15:Res:=.row A1169 c1170 4 1 (nA KL.encT x1151.out)
   have hS1176:St B1131 U1155 [B13,B14,B15,.blk b8 78 B12,.obj l1121 o1147,B8,B9,.blk b2 26 B0,B6] W1158:=hS1160
   refine oA Z Z (eN (zL (sR fL3 Z (oM Z Z (oR Z (zy Z Z zA) (oM Z Z (eN (zf (bnK hm1153 fun y1196 hf1193 hm1192=>?_)))))))))
   have q:=wBw hf1193
   obtain ⟨hle1194,hf1195⟩:=q
   replace hle1194:=zG hle1194
   refine CK.forN' (fun k1191 l1188 σ_ w_=>∃ (U_:PHeap) (A1189:Option Addr) (c1190:Nat),σ_ 31=jV (↑k1191:Int)/\σ_ 4=.pointer (some ⟨b6,0,none⟩)/\σ_ 5=.pointer (some ⟨b515,0,none⟩)/\σ_ 6=jV x1124/\σ_ 7=.slice A1161 x1150.length c1162/\σ_ 29=.slice A1161 x1150.length c1162/\σ_ 30=jV (↑x1150.length:Int)/\PHeap.Le U1155 U_/\St B1131 U_ [B14,B15,.blk b8 78 B12,.obj l1121 o1147,.row A1189 c1190 38 4 (nA wAG l1188),.blk b515 30 [.slice A1189 l1188.length c1190],.blk b2 26 B0,B6,B13] w_) hf1195 ?_ ?_ ?_
   ·exact ⟨U1155,A1082,c1083,rfl,f1142,f1143,rfl,rfl,rfl,rfl,(zI _),(hS1176.pick [1,2,3,4,5,6,7,8,0] _ (by decide) rfl)⟩
   ·rintro k1191 l1188 xx1199 σ1197 W1198 hk1202 ⟨U1204,A1189,c1190,fi1203,f1207,f1208,f1209,f1210,f1211,f1212,le1205,hS1206⟩ hx1200
    have c1213:Hid ((↑k1191:Int) < (↑x1150.length:Int)):=zG (wBQ hk1202)
    replace hk1202:=zG hk1202
    have hi1214:Hid (w64 ((↑k1191:Int) + 1)=(↑(k1191 + 1):Int)):=zG (by have h1:=hle1194.out;have h2:=c1213.out;rw [wAa] <;> omega)
    refine sR fL1 Z (oR Z (zV Z fi1203 f1212) (eN (zL (cT Z c1213 (kN (zL (zf (sR fL3 Z (bnK hx1200 fun _ h1215 hm1216=>?_)))))))))
    obtain ⟨b1217,hA1218⟩:=hS1206.rowSome (j:=8) rfl (by rw [wAF (f:=KL.encI) (sz:=1) (fun _=>rfl) x1150];have hz:=wAd h1215;omega)
    refine oR Z (zo Z f1211 hA1218 fi1203 zA zB (wAd h1215)) ?_
    have hg1219:=wBW (xs:=x1150) (wAd h1215)
    refine ZB rfl rfl rfl rfl (hS1206.ldR (j:=8) rfl hA1218 rfl rfl zN (wAW (sz:=1) (fun _=>rfl) _ _ 0 _ hg1219 (by first | omega | rfl | simp) rfl)) rfl (OKS.ra rfl rfl rfl rfl rfl rfl (eN (Zb ZW [1,1,3,3,3,1,3,3,1,1,3,3,1,3,3,1,3,1,3,3,3,1,1,3,1,3,3,1,3,3,1,3,2,3,1,3,2,0,0] (wPY (.fx 32 (wOK (.fx 36 (.fx 37 (.fx 38 (.nil) .stop) .stop) .stop)) .stop)) (by kernel_rfl) ?_)))
    have hS1220:=hS1206.drew
    generalize hw_W1221:({ W1198 with drawn:=W1198.drawn + 1 }:World)=W1221 at hS1220 ⊢
    refine oL Z (hS1220.ldB (j:=5) Z Z f1208 Tryz.isAgg30 (v:=.slice A1189 l1188.length c1190) Z) (oL Z (hS1220.ldB (j:=7) Z Z f1207 Zg (v:=.pointer (some ⟨b8,0,none⟩)) Z) (oR Z (ZG Z Z) (oR Z (zO Z Z zx Z ZF) (oR Z (zO Z Z zD Z zF) (oL Z (hS1220.ldB (j:=2) Z Z Z zR (v:=.slice A1163 x1151.Race.Bibs.length c1164) Z) (oM Z Z (bnK hm1216 fun x1222 h1223 hm1224=>?_)))))))
    have h1225:=h1174.le le1205
    have q:=h1225.el (fun _=>rfl) (wAP h1223)
    obtain ⟨b1226,off1227,hA1228,hC1229⟩:=q
    refine oR Z (ZV Z Z hA1228 Z zA zB (wCr h1223) (wCy h1223)) (oL Z (hS1220.ldC (f:=0) hC1229 (v:=jV x1222) Z Z zN Z) (oL Z (hS1220.ldB (j:=7) Z Z f1207 Zg (v:=.pointer (some ⟨b8,0,none⟩)) Z) (oR Z (ZG Z Z) (oR Z (zO Z Z zx Z zF) (oL Z (hS1220.ldB (j:=2) Z Z Z zR (v:=.slice A1167 x1151.done.length c1168) Z) (oM Z Z (bnK hm1224 fun _ h1230 hm1231=>?_)))))))
    obtain ⟨b1232,hA1233⟩:=hS1220.rowSome (j:=0) rfl (by rw [wAF (f:=KL.encI) (sz:=1) (fun _=>rfl) x1151.done];have hz:=wAd h1230;omega)
    refine oR Z (ZV Z Z hA1233 Z zA zB (wEP h1230) (wEQ h1230)) ?_
    have hg1234:=wBW (xs:=x1151.done) (wAd h1230)
    refine ZB rfl rfl rfl rfl (hS1220.ldR (j:=0) rfl hA1233 rfl rfl zN (wAW (sz:=1) (fun _=>rfl) _ _ 0 _ hg1234 (by first | omega | rfl | simp) rfl)) rfl (zQ rfl rfl rfl rfl rfl f1209 (ZB rfl rfl rfl rfl (hS1220.ldB (j:=7) rfl rfl f1207 Zg (v:=.pointer (some ⟨b8,0,none⟩)) rfl) rfl (zZ rfl rfl rfl rfl (fun _=>ZG rfl rfl) (zZ rfl rfl rfl rfl (fun _=>zO rfl rfl zx rfl ZF) (zZ rfl rfl rfl rfl (fun _=>zO rfl rfl zD rfl zF) (ZB rfl rfl rfl rfl (hS1220.ldB (j:=2) rfl rfl rfl zR (v:=.slice A1163 x1151.Race.Bibs.length c1164) rfl) rfl (ZB rfl rfl rfl rfl (hS1220.ldB (j:=7) rfl rfl f1207 Zg (v:=.pointer (some ⟨b8,0,none⟩)) rfl) rfl (zQ rfl rfl rfl rfl rfl rfl (ZB rfl rfl rfl rfl (hS1220.ldB (j:=7) rfl rfl f1207 Zg (v:=.pointer (some ⟨b8,0,none⟩)) rfl) rfl (zZ rfl rfl rfl rfl (fun _=>ZG rfl rfl) (zZ rfl rfl rfl rfl (fun _=>zO rfl rfl zx rfl zF) (ZB rfl rfl rfl rfl (hS1220.ldB (j:=2) rfl rfl rfl zR (v:=.slice A1167 x1151.done.length c1168) rfl) rfl (zQ rfl rfl rfl rfl rfl rfl (zZ rfl rfl rfl rfl (fun _=>ZV rfl rfl hA1233 rfl zA zB (wEP h1230) (wEQ h1230)) ?_))))))))))))))
    have hg1235:=wBW (xs:=x1151.done) (wAd h1230)
    refine ZB rfl rfl rfl rfl (hS1220.ldR (j:=0) rfl hA1233 rfl rfl zN (wAW (sz:=1) (fun _=>rfl) _ _ 0 _ hg1235 (by first | omega | rfl | simp) rfl)) rfl (zQ rfl rfl rfl rfl rfl f1209 ?_)
    have q:=hS1220.freezeT (k:=0) (n:=x1151.done.length) rfl (wAF (f:=KL.encI) (sz:=1) (fun _=>rfl) x1151.done) (by decide)
    obtain ⟨U1237,le1238,hs1239,hS1240,th1236⟩:=q
    let B16:Res:=.row A1189 c1190 38 4 (nA wAG l1188)
    let B17:Res:=.blk b515 30 [.slice A1189 l1188.length c1190]
    have hS1241:St B1131 U1237 [B15,.blk b8 78 B12,.obj l1121 o1147,B16,B17,.blk b2 26 B0,B6,B13] W1221:=hS1240
    have q:=hS1241.freezeT (k:=0) (n:=x1151.out.length) rfl (wAF (f:=KL.encT) (sz:=1) (fun _=>rfl) x1151.out) (by decide)
    obtain ⟨U1243,le1244,hs1245,hS1246,th1242⟩:=q
    have hS1247:St B1131 U1243 [.blk b8 78 B12,.obj l1121 o1147,B16,B17,.blk b2 26 B0,B6,B13] W1221:=hS1246
    have q:=hS1247.freezeTB (k:=0) rfl
    obtain ⟨U1249,le1250,hC1251,hS1252,th1248⟩:=q
    replace hC1251:=Cl.of hC1251
    have hS1253:St B1131 U1249 [.obj l1121 o1147,B16,B17,.blk b2 26 B0,B6,B13] W1221:=hS1252
    replace hC1251:Cl U1249 b8 0 B12:=hC1251
    have h1254:=h1225.le le1238
    have h1255:=h1254.le le1244
    have h1256:=h1255.le le1250
    have h1257:=h1175.le le1205
    have h1258:=h1257.le le1238
    have h1259:=h1258.le le1244
    have h1260:=h1259.le le1250
    have h1261:=hs1239.le le1244
    have h1262:=h1261.le le1250
    have h1263:=hs1245.le le1250
    refine bnK hm1231 fun x1264 h1265 hm1266=>zj 0 rfl rfl rfl rfl (zd rfl rfl Tryz.call73 (zM rfl (zM rfl (zM rfl (zM rfl zr)))) rfl) hS1253 (fun hs=>wCN x1151 b8 A1163 c1164 A1165 c1166 A1167 c1168 A1169 c1170 (gd x1150 k1191) (gd x1151.done (gd x1150 k1191).toNat) x1124 W1221 U1249 hs hC1251 h1256 h1260 h1262 h1263 h1265) (.inr rfl) ?_
    rintro U1267 L1268 v1269 W1270 le1271 hS1272 ⟨rfl,rfl⟩
    have hS1273:St B1131 U1267 [.obj l1121 o1147,B16,B17,.blk b2 26 B0,B6,B13] W1270:=hS1272
    have q:=th1248 _ _ _ le1271 hS1273
    obtain ⟨U1274,le1275,hS1276⟩:=q
    have hS1277:St B1131 U1274 [.blk b8 78 B12,.obj l1121 o1147,B16,B17,.blk b2 26 B0,B6,B13] W1270:=hS1276
    have q:=th1242 _ _ _ le1275 hS1277
    obtain ⟨U1278,le1279,hS1280⟩:=q
    have hS1281:St B1131 U1278 [B15,.blk b8 78 B12,.obj l1121 o1147,B16,B17,.blk b2 26 B0,B6,B13] W1270:=hS1280
    have q:=th1236 _ _ _ le1279 hS1281
    obtain ⟨U1282,le1283,hS1284⟩:=q
    have hS1285:St B1131 U1282 [B14,B15,.blk b8 78 B12,.obj l1121 o1147,B16,B17,.blk b2 26 B0,B6,B13] W1270:=hS1284
    refine bnK hm1266 fun x1286 h1287 hm1288=>?_
    have h1289:=h1225.le le1283
    have q:=h1289.el (fun _=>rfl) (wAP h1287)
    obtain ⟨b1290,off1291,hA1292,hC1293⟩:=q
    refine oR Z (ZV Z Z hA1292 Z zA zB (wCr h1287) (wCy h1287)) (oL Z (hS1285.ldC (f:=0) hC1293 (v:=jV x1286) Z Z zN Z) ?_)
    let B18:List Value:=[jV x1222,jV (gd x1151.done (gd x1150 k1191).toNat),jV x1124,jV x1286]
    let B19:List Value:=[jV 0,jV 0,jV 0,jV 0]
    refine oR Z (Runs.build (pv:=[(0,jV x1222),(1,jV (gd x1151.done (gd x1150 k1191).toNat)),(2,jV x1124),(3,jV x1286)]) (z:=B19) (cs:=B18) Z (wAL Z (wAL Z (wAL Z (wAL Z wAT)))) Tryz.zeroValue38 wMB Z Z) (zW (pv:=[(0,.agg B18.toArray)]) (zs:=B19) (cs:=B18) Z Z Z Z Z (wAL Z wAT) ZI ZP Tryz.zeroValue38 Z Z Z Z Z hS1285 ?_)
    intro W1294 b1295 hS1296
    let B20:Res:=.row (some ⟨b1295,0,none⟩) 1 38 4 (nA wAG [(⟨x1222,(gd x1151.done (gd x1150 k1191).toNat),x1124,x1286⟩:wAD)])
    have hS1298:St B1131 U1282 [B20,B14,B15,.blk b8 78 B12,.obj l1121 o1147,B16,B17,.blk b2 26 B0,B6,B13] W1294:=hS1296
    refine bnK hm1288 fun x1299 h1300 hm1301=>ZS (j:=5) (enc:=wAG) (xs:=l1188) (ys:=[(⟨x1222,(gd x1151.done (gd x1150 k1191).toNat),x1124,x1286⟩:wAD)]) (zs:=x1299) rfl rfl rfl rfl rfl Tryz.underlying30 wPP rfl rfl rfl rfl rfl rfl hS1298 rfl rfl rfl (hS1298.srcR (j:=0) rfl (by decide) (wAF (f:=wAG) (sz:=4) (fun _=>rfl) [(⟨x1222,(gd x1151.done (gd x1150 k1191).toNat),x1124,x1286⟩:wAD)])) (fun _=>rfl) (fun _=>rfl) h1300 rfl ?_
    intro A1302 c1303 W1304 hS1305
    let B21:Res:=.row A1302 c1303 38 4 (nA wAG x1299)
    have hS1306:St B1131 U1282 [B20,B14,B15,.blk b8 78 B12,.obj l1121 o1147,B21,B17,.blk b2 26 B0,B6,B13] W1304:=hS1305
    refine OKS.st (j:=6) (vs:=[.slice A1302 x1299.length c1303]) Z Z Z Z hS1306 Z f1208 Z Z Tryz.sizeOf30 (zm Z) Z Z Z ?_
    intro W1307 hS1308
    have hS1309:St B1131 U1282 [B20,B14,B15,.blk b8 78 B12,.obj l1121 o1147,B21,.blk b515 30 [.slice A1302 x1299.length c1303],.blk b2 26 B0,B6,B13] W1307:=hS1308
    refine ZA (zt (zK (rR fL2 Z (oR Z (ZD (zU Z fi1203 Z) (congrArg (jV) hi1214.out)) (oM Z Z (ZA ?_))))))
    cases hm1301
    exact zK ⟨rfl,⟨U1282,A1302,c1303,rfl,f1207,f1208,f1209,f1210,f1211,f1212,(le1205.trans le1283),(hS1309.pick [1,2,3,4,5,6,7,8,9] _ (by decide) rfl)⟩⟩
   ·rintro σ1313 W1314 ⟨U1322,A1320,c1321,fi1316,f1325,f1326,f1327,f1328,f1329,f1330,le1323,hS1324⟩
    have c1331:Hid (¬ ((↑(((↑x1150.length:Int):Int) - 0).toNat:Int) < (↑x1150.length:Int))):=zG (wBA)
    refine sR fL1 Z (oR Z (zV Z fi1316 f1330) (eN (zL (cF Z c1331 (ZR (zq (zq (ZO (zK (sR fL3 Z (oM Z f1328 (oR Z (zy Z Z zA) (oM Z Z (eN (zf (bnK hm1192 fun y1343 hf1340 hm1339=>?_))))))))))))))))
    have q:=wBw hf1340
    obtain ⟨hle1341,hf1342⟩:=q
    replace hle1341:=zG hle1341
    let B22:Res:=.row A1320 c1321 38 4 (nA wAG y1196)
    let B23:Res:=.blk b515 30 [.slice A1320 y1196.length c1321]
    refine CK.forN' (fun k1338 l1337 σ_ w_=>∃ (U_:PHeap),σ_ 76=jV (↑k1338:Int)/\σ_ 4=.pointer (some ⟨b6,0,none⟩)/\σ_ 5=.pointer (some ⟨b515,0,none⟩)/\σ_ 74=.slice A1161 x1150.length c1162/\σ_ 75=jV (↑x1150.length:Int)/\PHeap.Le U1322 U_/\St B1131 U_ [B14,.row A1169 c1170 4 1 (nA KL.encT l1337),.blk b8 78 [jV x1151.Race.Laps,.slice A1163 x1151.Race.Bibs.length c1164,.slice A1165 x1151.Race.Times.length c1166,.slice A1167 x1151.done.length c1168,.slice A1169 l1337.length c1170],.obj l1121 o1147,B22,B23,.blk b2 26 B0,B6,B13] w_/\l1337.length=x1151.out.length) hf1342 ?_ ?_ ?_
    ·exact ⟨U1322,Z,f1325,f1326,Z,Z,(zI _),hS1324,Z⟩
    ·rintro k1338 l1337 xx1346 σ1344 W1345 hk1349 ⟨U1351,fi1350,f1354,f1355,f1356,f1357,le1352,hS1353,h1358⟩ hx1347
     have c1359:Hid ((↑k1338:Int) < (↑x1150.length:Int)):=zG (wBQ hk1349)
     replace hk1349:=zG hk1349
     have hi1360:Hid (w64 ((↑k1338:Int) + 1)=(↑(k1338 + 1):Int)):=zG (by have h1:=hle1341.out;have h2:=c1359.out;rw [wAa] <;> omega)
     refine sR fL1 Z (oR Z (zV Z fi1350 f1357) (eN (zL (cT Z c1359 (kN (zL (zf (sR fL3 Z (bnK hx1347 fun _ h1361 hm1362=>?_)))))))))
     obtain ⟨b1363,hA1364⟩:=hS1353.rowSome (j:=8) rfl (by rw [wAF (f:=KL.encI) (sz:=1) (fun _=>rfl) x1150];have hz:=wAd h1361;omega)
     refine oR Z (zo Z f1356 hA1364 fi1350 zA zB (wAd h1361)) ?_
     have hg1365:=wBW (xs:=x1150) (wAd h1361)
     refine ZB rfl rfl rfl rfl (hS1353.ldR (j:=8) rfl hA1364 rfl rfl zN (wAW (sz:=1) (fun _=>rfl) _ _ 0 _ hg1365 (by first | omega | rfl | simp) rfl)) rfl (OKS.ra rfl rfl rfl rfl rfl rfl (eN (rR (wMQ (.fx 6 (.nil) .stop)) rfl (ZB rfl rfl rfl rfl (hS1353.ldB (j:=7) rfl rfl f1354 Zg (v:=.pointer (some ⟨b8,0,none⟩)) rfl) rfl (zZ rfl rfl rfl rfl (fun _=>ZG rfl rfl) (zZ rfl rfl rfl rfl (fun _=>zO rfl rfl zx rfl Tryz.sizeOf76) (ZB rfl rfl rfl rfl (hS1353.ldB (j:=2) rfl rfl rfl Tryz.isAgg76 (v:=.slice A1169 l1337.length c1170) rfl) rfl (zQ rfl rfl rfl rfl rfl rfl (bnK hm1362 fun _ h1366 hm1367=>?_)))))))))
     obtain ⟨b1368,hA1369⟩:=hS1353.rowSome (j:=1) rfl (by rw [wAF (f:=KL.encT) (sz:=1) (fun _=>rfl) l1337];have hz:=wAd h1366;omega)
     refine oR Z (ZV Z Z hA1369 Z ZT Tryz.sizeOf4 (wEP h1366) (wEQ h1366)) ?_
     have hg1370:=wBW (xs:=l1337) (wAd h1366)
     refine OKS.stR (j:=1) (vs:=[.bool true]) (cs':=nA KL.encT (nN l1337 (gd x1150 k1338).toNat true)) rfl rfl rfl rfl hS1353 rfl hA1369 rfl rfl rfl Tryz.sizeOf4 (by rw [wAF (f:=KL.encT) (sz:=1) (fun _=>rfl)];have hz:=wAd h1366;simp only [nJ,nH,nI,List.length_cons,List.length_nil];first | omega | (simp only [nK];omega)) rfl (wJe (sz:=1) (fo:=0) (fun _=>rfl) _ _ _ _ hg1370 (by first | omega | (simp only [nK];omega) | (simp only [nJ,nH,nI];omega)) (zm rfl) rfl) rfl ?_
     intro W1371 hS1372
     let B24:Res:=.row A1169 c1170 4 1 (nA KL.encT (nN l1337 (gd x1150 k1338).toNat true))
     have hS1373:St B1131 U1351 [B14,B24,.blk b8 78 [jV x1151.Race.Laps,.slice A1163 x1151.Race.Bibs.length c1164,.slice A1165 x1151.Race.Times.length c1166,.slice A1167 x1151.done.length c1168,.slice A1169 l1337.length c1170],.obj l1121 o1147,B22,B23,.blk b2 26 B0,B6,B13] W1371:=hS1372
     have hS1374:St B1131 U1351 [B14,B24,.blk b8 78 [jV x1151.Race.Laps,.slice A1163 x1151.Race.Bibs.length c1164,.slice A1165 x1151.Race.Times.length c1166,.slice A1167 x1151.done.length c1168,.slice A1169 ((nN l1337 (gd x1150 k1338).toNat true).length) c1170],.obj l1121 o1147,B22,B23,.blk b2 26 B0,B6,B13] W1371:=by simpa only [nL] using hS1373
     refine ZA (zt (zK (rR fL2 Z (oR Z (ZD (zU Z fi1350 Z) (congrArg (jV) hi1360.out)) (oM Z Z (ZA ?_))))))
     cases hm1367
     exact zK ⟨rfl,⟨U1351,rfl,f1354,f1355,f1356,f1357,le1352,hS1374,(by simp only [nL];exact h1358)⟩⟩
    ·rintro σ1376 W1377 ⟨U1381,fi1379,f1384,f1385,f1386,f1387,le1382,hS1383,h1388⟩
     have c1389:Hid (¬ ((↑(((↑x1150.length:Int):Int) - 0).toNat:Int) < (↑x1150.length:Int))):=zG (wBA)
     refine sR fL1 Z (oR Z (zV Z fi1379 f1387) (eN (zL (cF Z c1389 (ZR (zq (zq (ZO (zt ?_)))))))))
     have h1406:=h1174.le le1323
     have h1407:=h1406.le le1382
     have h1408:=h1175.le le1323
     have h1409:=h1408.le le1382
     obtain rfl:=nB hm1339
     exact ⟨_,_,(hS1383.pick [3,4,5,6,7,0,1,2] _ (by decide) rfl),rfl,⟨A1320,c1321,A1163,c1164,A1165,c1166,A1167,c1168,A1169,c1170,rfl,h1407,h1409⟩⟩
  ·rintro rb1410 U1411 L1412 W1413 le1414 hS1415
   rcases rr1118 with ⟨y1416,y1417,y1418,y1419,y1420,y1421⟩ | e1432
   ·try dsimp only at hm1120
    rintro ⟨A1422,c1423,A1424,c1425,A1426,c1427,A1428,c1429,A1430,c1431,rfl,h1433,h1434⟩
    let B25:Res:=.blk b8 78 [jV y1417,.slice A1424 y1418.length c1425,.slice A1426 y1419.length c1427,.slice A1428 y1420.length c1429,.slice A1430 y1421.length c1431]
    let B26:Res:=.row A1428 c1429 3 1 (nA KL.encI y1420)
    let B27:Res:=.row A1430 c1431 4 1 (nA KL.encT y1421)
    let B28:Res:=.blk b515 30 [.slice A1422 y1416.length c1423]
    have hS1436:sW w U U1411 [.row A1422 c1423 38 4 (nA wAG y1416),B28,.blk b2 26 B0,B6,B26,B27,B25,.obj rb1410 (.deferred (some []))] W1413:=hS1415
    refine zt (zK (sR (.fl 0 (.fx 1 (.nil) .stop)) Z (oL Z (hS1436.ldB (j:=1) Z Z f538 Tryz.isAgg30 (v:=.slice A1422 y1416.length c1423) Z) ?_)))
    have hF1437:FnOK Tryz.prog U1411 (.func (.func 75) #[] #[]) wPN wPO (fun x=>wAb x.1 x.2):=⟨75,[],[],rfl,Tryz.call75,fun U1 w1 x y vs le hs ha hm=>by obtain rfl:=ha;exact wGT x.1 x.2 w1 U1 hs  hm⟩
    refine bnK hm1120 fun x1438 h1439 hm1440=>zj 1 Z Z Z Z (zd Z Z Tryz.call74 (zM Z (zM Z zr)) Z) hS1436 (fun hs=>wBd y1416 A1422 c1423 (fun x=>wAb x.1 x.2) (.func (.func 75) #[] #[]) W1413 U1411 hs hF1437 ⟨_,_,Z⟩ h1439) (.inl Z) ?_
    rintro U1441 L1442 v1443 W1444 le1445 hS1446 ⟨rfl,rfl,h1447⟩
    let B29:Res:=.row A1422 c1423 38 4 (nA wAG x1438)
    have hS1448:sW w U U1441 [B29,B28,.blk b2 26 B0,B6,B26,B27,B25,.obj rb1410 (.deferred (some []))] W1444:=hS1446
    let B30:Res:=.blk b515 30 [.slice A1422 x1438.length c1423]
    have hS1449:sW w U U1441 [B29,B30,.blk b2 26 B0,B6,B26,B27,B25,.obj rb1410 (.deferred (some []))] W1444:=by simp only [B30,h1447];exact hS1448
    refine eN (zL (Zb ZW [1,1,3,3] fL4 (by kernel_rfl) ?_))
    have hS1450:=hS1449.drew
    generalize hw_W1451:({ W1444 with drawn:=W1444.drawn + 1 }:World)=W1451 at hS1450 ⊢
    refine oL Z (hS1450.ldB (j:=3) Z Z f537 Zg (v:=.pointer (some ⟨b8,0,none⟩)) Z) (oL Z (hS1450.ldB (j:=1) Z Z f538 Tryz.isAgg30 (v:=.slice A1422 x1438.length c1423) Z) (oA Z Z (oA Z Z (eN (zY ?_)))))
    have h1452:=h1433.le le1445
    have h1453:=h1434.le le1445
    refine wNE (by first | exact .inl rfl | exact .inr rfl) (rbs:=[rb1410]) (L:=[B29,B30,.blk b2 26 B0,B6,B26,B27,B25]) hS1450 fun W1454 hS1455=>?_
    have hS1456:sW w U U1441 [B29,B30,.blk b2 26 B0,B6,B26,B27,B25] W1454:=hS1455
    cases hm1440
    exact ⟨_,(wOS rfl rfl),U1441,_,(hS1456.pick [6,4,5,0] _ (by decide) rfl),b8,A1424,c1425,A1426,c1427,A1428,c1429,A1430,c1431,A1422,c1423,rfl,rfl,h1452,h1453⟩
   ·exact e1432.elim
end Go.Proofs.YtbpllbhagaoocaaGreat
