import Derived.Test.YtglpalgiipahjaaGreatT7
set_option linter.all false
open List renaming flatMap->nA,getElem_cons_succ->nG,getElem_cons_zero->nH,getElem_toArray->nI,set->nJ,length_set->nM,length_append->nN
open Option.some renaming inj->nB
open Go.Value renaming bool->nD
open Bool renaming eq_false_iff->nE
open Int renaming toNat_natCast->nK
open Prod.mk renaming injEq->nL
open Nat renaming blt->nO,le_of_ble_eq_true->nP
namespace Go.Proofs.YtglpalgiipahjaaGreat
open Go.KL
set_option maxHeartbeats 4000000
theorem Z {α:Type} {a:α}:a=a:=rfl
section
variable {r:Option Nat} {N:Nat} {P:Program} {l:List Oper} {Q:wCV} {D:List Deferred} {ks:List Nat} {σ:Env} {w:World} {i d j e:Nat} {s:Sch} {o:Oper} {b:Bool} {x:Operand} {v:Value} {p:Prop} {inst:Decidable p} {K:List Deferred->Env->World->Prop} {c1 c2:Code}
abbrev jV (n:Int):Value:=.int .i64 n
abbrev SW (w:World) (X:List Res) (φ φ':PHeap) (L:List Res) (w':World):Prop:=St ⟨w,X,φ⟩ φ' L w'
abbrev sW (w:World) (φ φ':PHeap) (L:List Res) (w':World):Prop:=St ⟨w,[],φ⟩ φ' L w'
abbrev St0 (w:World) (φ:PHeap) (L:List Res):Prop:=St ⟨w,L,φ⟩ φ L w
theorem ifc {α:Type} {G p:Prop} {inst:Decidable p} {a b r:α} (h:@ite α p inst a b=r) (h1:Hid p->a=r->G) (h2:Hid (¬ p)->b=r->G):G:=by
 by_cases c:p
 · rw [if_pos c] at h;exact h1 ⟨c⟩ h
 · rw [if_neg c] at h;exact h2 ⟨c⟩ h
theorem bnK {α β:Type} {G:Prop} {o:Option α} {f:α->Option β} {r:β} (h:o.bind f=some r) (k:∀ x,o=some x->f x=some r->G):G:=by
 obtain ⟨x,h1,h2⟩:=bnd h
 exact k x h1 h2
theorem oR (h:(l[i]?,o.dst,nO d N,wanted l σ o)=(some o,some d,true,true)) (hr:∀ {w'},Runs P σ w' o v w') (k:OKS N P l Q D ks s (upd σ d v) w):OKS N P l Q D ks (.fl i s) σ w:=by
 simp only [nL] at h;exact OKS.r h.1 h.2.1 h.2.2.1 h.2.2.2 (fun _=>hr) k
theorem oL (h:(l[i]?,o.dst,nO d N,wanted l σ o,wPJ (kOf ks i))=(some o,some d,true,true,false)) (hr:RunsK P σ w o v) (k:OKS N P l Q D ks s (upd σ d v) w):OKS N P l Q D ks (.fl i s) σ w:=by
 simp only [nL] at h;exact OKS.m h.1 h.2.1 h.2.2.1 h.2.2.2.1 hr h.2.2.2.2 k
theorem oM (h:(l[i]?,o.dst,nO d N,wanted l σ o,o.op)=(some o,some d,true,true,.move x)) (hx:ev σ x=v) (k:OKS N P l Q D ks s (upd σ d v) w):OKS N P l Q D ks (.fl i s) σ w:=by
 simp only [nL] at h;exact OKS.rm h.1 h.2.1 h.2.2.1 h.2.2.2.1 h.2.2.2.2 hx k
theorem oA (h:(l[i]?,o.dst,nO d N,wanted l σ o,o.op)=(some o,some d,true,true,.assign x)) (hx:ev σ x=v) (k:OKS N P l Q D ks s (upd σ d v) w):OKS N P l Q D ks (.fl i s) σ w:=by
 simp only [nL] at h;exact OKS.ra h.1 h.2.1 h.2.2.1 h.2.2.2.1 h.2.2.2.2 hx k
theorem oF (h:(l[i]?,o.dst,nO d N,o.guard,(l[j]?).bind (·.dst),σ e,false == b)=(some o,some d,true,some (j,b),some e,.bool (decide p),false)) (c:Hid (¬ p)) (k:OKS N P l Q D ks s (upd σ d undef) w):OKS N P l Q D ks (.fl i s) σ w:=by
 simp only [nL] at h;exact OKS.p h.1 h.2.1 h.2.2.1 (wFM h.2.2.2.1 h.2.2.2.2.1 (h.2.2.2.2.2.1.trans (wPI c.out)) h.2.2.2.2.2.2) k
theorem oT (h:(l[i]?,o.dst,nO d N,o.guard,(l[j]?).bind (·.dst),σ e,true == b)=(some o,some d,true,some (j,b),some e,.bool (decide p),false)) (c:Hid p) (k:OKS N P l Q D ks s (upd σ d undef) w):OKS N P l Q D ks (.fl i s) σ w:=by
 simp only [nL] at h;exact OKS.p h.1 h.2.1 h.2.2.1 (wFM h.2.2.2.1 h.2.2.2.2.1 (h.2.2.2.2.2.1.trans (wGe c.out)) h.2.2.2.2.2.2) k
theorem oN {b2:Bool} (h:(l[i]?,o.dst,nO d N,o.guard,(l[j]?).bind (·.dst),σ e,b2 == b)=(some o,some d,true,some (j,b),some e,.bool b2,false)) (k:OKS N P l Q D ks s (upd σ d undef) w):OKS N P l Q D ks (.fl i s) σ w:=by
 simp only [nL] at h;exact OKS.p h.1 h.2.1 h.2.2.1 (wFM h.2.2.2.1 h.2.2.2.2.1 h.2.2.2.2.2.1 h.2.2.2.2.2.2) k
theorem nC {a b:Bool} (h:a=b):nD (!a)=nD (!b):=h ▸ rfl
theorem nF {a:Bool} (h:¬ a=true):nD (!a)=nD (!false):=nC (nE.2 h)
theorem wT (h:(o.guard,(l[j]?).bind (·.dst),σ e)=(some (j,true),some e,.bool (decide p))) (c:Hid p):wanted l σ o=true:=by
 simp only [nL] at h;exact wGf h.1 h.2.1 (h.2.2.trans (wGe c.out))
theorem wF (h:(o.guard,(l[j]?).bind (·.dst),σ e)=(some (j,false),some e,.bool (decide p))) (c:Hid (¬ p)):wanted l σ o=true:=by
 simp only [nL] at h;exact wGf h.1 h.2.1 (h.2.2.trans (wPI c.out))
theorem rU (h:(l[i]?,o.dst,nO d N)=(some o,some d,true)) (hw:wanted l σ o=true) (hr:∀ {w'},Runs P σ w' o v w') (k:OKS N P l Q D ks s (upd σ d v) w):OKS N P l Q D ks (.fl i s) σ w:=by
 simp only [nL] at h;exact OKS.r h.1 h.2.1 h.2.2 hw (fun _=>hr) k
theorem sR {id:Nat} (s:Sch) (hs:inOrder 0 s l.length=true) (h:OKS N P l (wEG (fun D σ w=>CK r N P c2 Q D σ w) Q) D [] s σ w):CK r N P (.seq (.region id l.toArray false) c2) Q D σ w:=CK.seq (CK.reg s hs h)
theorem rR {id:Nat} (s:Sch) (hs:inOrder 0 s l.length=true) (h:OKS N P l Q D [] s σ w):CK r N P (.region id l.toArray false) Q D σ w:=CK.reg s hs h
theorem eN (h:K D σ w):OKS N P l (wEG K Q) D ks .nil σ w:=OKS.e (wGa h)
theorem cT (hz:ev σ x=.bool (decide p)) (c:Hid p) (h:CK r N P c1 Q D σ w):CK r N P (.cond x c1 c2) Q D σ w:=CK.condT (hz.trans (wGe c.out)) h
theorem cF (hz:ev σ x=.bool (decide p)) (c:Hid (¬ p)) (h:CK r N P c2 Q D σ w):CK r N P (.cond x c1 c2) Q D σ w:=CK.condF (hz.trans (wPI c.out)) h
theorem kN (h:K D σ w):CK r N P .skip (wEG K Q) D σ w:=CK.skip (wGa h)
end
def fL1:Sch:=.fl 0 (.nil)
def fL2:Sch:=.fl 0 (.fl 1 (.nil))
def fL3:Sch:=.fl 0 (.fl 1 (.fl 2 (.nil)))
def fL4:Sch:=.fl 0 (.fl 1 (.fl 2 (.fl 3 (.nil))))
def fL5:Sch:=.fl 0 (.fl 1 (.fl 2 (.fl 3 (.fl 4 (.nil)))))
def fL6:Sch:=.fl 0 (.fl 1 (.fl 2 (.fl 3 (.fl 4 (.fl 5 (.nil))))))
def fL7:Sch:=.fl 0 (.fl 1 (.fl 2 (.fl 3 (.fl 4 (.fl 5 (.fl 6 (.nil)))))))
def fL8:Sch:=.fl 0 (.fl 1 (.fl 2 (.fl 3 (.fl 4 (.fl 5 (.fl 6 (.fl 7 (.nil))))))))
def fL9:Sch:=.fl 0 (.fl 1 (.fl 2 (.fl 3 (.fl 4 (.fl 5 (.fl 6 (.fl 7 (.fl 8 (.nil)))))))))
def fL10:Sch:=.fl 0 (.fl 1 (.fl 2 (.fl 3 (.fl 4 (.fl 5 (.fl 6 (.fl 7 (.fl 8 (.fl 9 (.nil))))))))))
def fL11:Sch:=.fl 0 (.fl 1 (.fl 2 (.fl 3 (.fl 4 (.fl 5 (.fl 6 (.fl 7 (.fl 8 (.fl 9 (.fl 10 (.nil)))))))))))
def fL19:Sch:=.fl 0 (.fl 1 (.fl 2 (.fl 3 (.fl 4 (.fl 5 (.fl 6 (.fl 7 (.fl 8 (.fl 9 (.fl 10 (.fl 11 (.fl 12 (.fl 13 (.fl 14 (.fl 15 (.fl 16 (.fl 17 (.fl 18 (.nil)))))))))))))))))))
def fL22:Sch:=.fl 0 (.fl 1 (.fl 2 (.fl 3 (.fl 4 (.fl 5 (.fl 6 (.fl 7 (.fl 8 (.fl 9 (.fl 10 (.fl 11 (.fl 12 (.fl 13 (.fl 14 (.fl 15 (.fl 16 (.fl 17 (.fl 18 (.fl 19 (.fl 20 (.fl 21 (.nil))))))))))))))))))))))
def fL30:Sch:=.fl 0 (.fl 1 (.fl 2 (.fl 3 (.fl 4 (.fl 5 (.fl 6 (.fl 7 (.fl 8 (.fl 9 (.fl 10 (.fl 11 (.fl 12 (.fl 13 (.fl 14 (.fl 15 (.fl 16 (.fl 17 (.fl 18 (.fl 19 (.fl 20 (.fl 21 (.fl 22 (.fl 23 (.fl 24 (.fl 25 (.fl 26 (.fl 27 (.fl 28 (.fl 29 (.nil))))))))))))))))))))))))))))))
def fL53:Sch:=.fl 0 (.fl 1 (.fl 2 (.fl 3 (.fl 4 (.fl 5 (.fl 6 (.fl 7 (.fl 8 (.fl 9 (.fl 10 (.fl 11 (.fl 12 (.fl 13 (.fl 14 (.fl 15 (.fl 16 (.fl 17 (.fl 18 (.fl 19 (.fl 20 (.fl 21 (.fl 22 (.fl 23 (.fl 24 (.fl 25 (.fl 26 (.fl 27 (.fl 28 (.fl 29 (.fl 30 (.fl 31 (.fl 32 (.fl 33 (.fl 34 (.fl 35 (.fl 36 (.fl 37 (.fl 38 (.fl 39 (.fl 40 (.fl 41 (.fl 42 (.fl 43 (.fl 44 (.fl 45 (.fl 46 (.fl 47 (.fl 48 (.fl 49 (.fl 50 (.fl 51 (.fl 52 (.nil)))))))))))))))))))))))))))))))))))))))))))))))))))))
def wOt (s:Sch):Sch:=.fl 0 (.fl 1 (.fl 2 (s)))
def wMD (s:Sch):Sch:=.fl 0 (.fl 1 (.fl 2 (.fl 3 (s))))
def wOu (s:Sch):Sch:=.fl 0 (.fl 1 (.fl 2 (.fl 3 (.fl 4 (s)))))
def wOv (s:Sch):Sch:=.fl 0 (.fl 1 (.fl 2 (.fl 3 (.fl 4 (.fl 5 (s))))))
def fC0_6 (s:Sch):Sch:=.fl 0 (.fl 1 (.fl 2 (.fl 3 (.fl 4 (.fl 5 (.fl 6 (s)))))))
def fC0_8 (s:Sch):Sch:=.fl 0 (.fl 1 (.fl 2 (.fl 3 (.fl 4 (.fl 5 (.fl 6 (.fl 7 (.fl 8 (s)))))))))
def wQM (s:Sch):Sch:=.fl 0 (.fl 1 (.fl 2 (.fl 3 (.fl 4 (.fl 5 (.fl 6 (.fl 7 (.fl 8 (.fl 9 (.fl 10 (.fl 11 (.fl 12 (s)))))))))))))
def wNZ (s:Sch):Sch:=.fl 0 (.fl 1 (.fl 2 (.fl 3 (.fl 4 (.fl 5 (.fl 6 (.fl 7 (.fl 8 (.fl 9 (.fl 10 (.fl 11 (.fl 12 (.fl 13 (.fl 14 (s)))))))))))))))
def wQN (s:Sch):Sch:=.fl 0 (.fl 1 (.fl 2 (.fl 3 (.fl 4 (.fl 5 (.fl 6 (.fl 7 (.fl 8 (.fl 9 (.fl 10 (.fl 11 (.fl 12 (.fl 13 (.fl 14 (.fl 15 (.fl 16 (.fl 17 (.fl 18 (.fl 19 (.fl 20 (.fl 21 (.fl 22 (.fl 23 (.fl 24 (.fl 25 (.fl 26 (.fl 27 (.fl 28 (.fl 29 (.fl 30 (.fl 31 (s))))))))))))))))))))))))))))))))
def wOw (s:Sch):Sch:=.fl 2 (.fl 3 (.fl 4 (.fl 5 (.fl 6 (s)))))
def wQO (s:Sch):Sch:=.fl 3 (.fl 4 (.fl 5 (s)))
def fC3_6 (s:Sch):Sch:=.fl 3 (.fl 4 (.fl 5 (.fl 6 (s))))
def fC3_7 (s:Sch):Sch:=.fl 3 (.fl 4 (.fl 5 (.fl 6 (.fl 7 (s)))))
def wQP (s:Sch):Sch:=.fl 3 (.fl 4 (.fl 5 (.fl 6 (.fl 7 (.fl 8 (.fl 9 (.fl 10 (.fl 11 (.fl 12 (.fl 13 (.fl 14 (.fl 15 (.fl 16 (.fl 17 (.fl 18 (.fl 19 (.fl 20 (.fl 21 (.fl 22 (s))))))))))))))))))))
def fC5_7 (s:Sch):Sch:=.fl 5 (.fl 6 (.fl 7 (s)))
def fC5_8 (s:Sch):Sch:=.fl 5 (.fl 6 (.fl 7 (.fl 8 (s))))
def fC5_9 (s:Sch):Sch:=.fl 5 (.fl 6 (.fl 7 (.fl 8 (.fl 9 (s)))))
def fC6_8 (s:Sch):Sch:=.fl 6 (.fl 7 (.fl 8 (s)))
def fC6_9 (s:Sch):Sch:=.fl 6 (.fl 7 (.fl 8 (.fl 9 (s))))
def fC7_9 (s:Sch):Sch:=.fl 7 (.fl 8 (.fl 9 (s)))
def wQQ (s:Sch):Sch:=.fl 8 (.fl 9 (.fl 10 (s)))
def wOx (s:Sch):Sch:=.fl 24 (.fl 25 (.fl 26 (s)))
def wOy (s:Sch):Sch:=.fl 33 (.fl 34 (.fl 35 (s)))
theorem zA:type_of% @Tryz.runUnderlying22:=@Tryz.runUnderlying22
theorem zB:type_of% @Hid.mk:=@Hid.mk
theorem zC:type_of% @wKE:=@wKE
theorem zD:type_of% @Tryz.sizeOf3:=@Tryz.sizeOf3
theorem zF:type_of% @wGa:=@wGa
theorem zG:type_of% @CK.seq:=@CK.seq
theorem zH:type_of% @Tryz.runUnderlying66:=@Tryz.runUnderlying66
theorem zI:type_of% @wKD:=@wKD
theorem zJ:type_of% @CK.ret:=@CK.ret
theorem zK:type_of% @Tryz.isAgg3:=@Tryz.isAgg3
theorem zL:type_of% @OKS.callH:=@OKS.callH
theorem zM:type_of% @Enters.mk:=@Enters.mk
theorem zN:type_of% @Runs.fa:=@Runs.fa
theorem zO:type_of% @PHeap.Le.refl:=@PHeap.Le.refl
theorem zP:type_of% @OKS.p:=@OKS.p
theorem zQ:type_of% @Runs.addw:=@Runs.addw
theorem zR:type_of% @wMv:=@wMv
theorem zS:type_of% @CK.block:=@CK.block
theorem zU:type_of% @Runs.lss:=@Runs.lss
theorem zV:type_of% @Tryz.sizeOf22:=@Tryz.sizeOf22
theorem zW:type_of% @OKS.rm:=@OKS.rm
theorem zX:type_of% @wGf:=@wGf
theorem zY:type_of% @nP:=@nP
theorem zZ:type_of% @wIl:=@wIl
theorem zd:type_of% @wIm:=@wIm
theorem ze:type_of% @Tryz.runUnderlying46:=@Tryz.runUnderlying46
theorem zf:type_of% @wKC:=@wKC
theorem zg:type_of% @wFM:=@wFM
theorem zh:type_of% @Tryz.runUnderlying204:=@Tryz.runUnderlying204
theorem zj:type_of% @Tryz.isAgg22:=@Tryz.isAgg22
theorem zk:type_of% @OKS.r:=@OKS.r
theorem zm:type_of% @Runs.pickT:=@Runs.pickT
theorem zn:type_of% @res1:=@res1
theorem zo:type_of% @Runs.len:=@Runs.len
theorem zq:type_of% @OKS.e:=@OKS.e
theorem zr:type_of% @Runs.pickF:=@Runs.pickF
theorem zt:type_of% @Runs.to:=@Runs.to
theorem zu:type_of% @Runs.nilp:=@Runs.nilp
theorem zw:type_of% @Tryz.runUnderlying192:=@Tryz.runUnderlying192
theorem zx:type_of% @CK.condF:=@CK.condF
theorem zy:type_of% @Runs.iaN:=@Runs.iaN
theorem zz:type_of% @OKS.m:=@OKS.m
theorem ZA:type_of% @Tryz.sizeOf66:=@Tryz.sizeOf66
theorem ZB:type_of% @wGb:=@wGb
theorem ZC:type_of% @CK.condT:=@CK.condT
theorem ZD:type_of% @CK.exit:=@CK.exit
theorem ZE:type_of% @CK.skip:=@CK.skip
theorem ZF:type_of% @Tryz.runUnderlying77:=@Tryz.runUnderlying77
theorem ZG:type_of% @Tryz.sizeOf46:=@Tryz.sizeOf46
theorem ZH:type_of% @Runs.notT:=@Runs.notT
theorem ZI:type_of% @Tryz.runUnderlying133:=@Tryz.runUnderlying133
theorem ZJ:type_of% @OKS.buildSlice:=@OKS.buildSlice
theorem ZK:type_of% @Tryz.underlying22:=@Tryz.underlying22
theorem ZL:type_of% @wPI:=@wPI
theorem ZM:type_of% @Runs.iaI:=@Runs.iaI
theorem ZN:type_of% @Tryz.isAgg46:=@Tryz.isAgg46
theorem ZO:type_of% @OKS.makeSlice:=@OKS.makeSlice
theorem ZP:type_of% @OKS.append:=@OKS.append
theorem ZQ:type_of% @OKS.alloc:=@OKS.alloc
theorem ZR:type_of% @OKS.box:=@OKS.box
theorem ZS:type_of% @Tryz.runUnderlying190:=@Tryz.runUnderlying190
theorem ZT:type_of% @Tryz.runUnderlying221:=@Tryz.runUnderlying221
theorem ZU:type_of% @Tryz.zeroValue3:=@Tryz.zeroValue3
theorem ZV:type_of% @Tryz.isAgg200:=@Tryz.isAgg200
theorem ZW:type_of% @Tryz.sizeOf221:=@Tryz.sizeOf221
theorem ZX:type_of% @Tryz.sizeOf4:=@Tryz.sizeOf4
theorem ZY:type_of% @Tryz.zeroValue66:=@Tryz.zeroValue66
theorem Za:type_of% @Tryz.mixed:=@Tryz.mixed
theorem Zb:type_of% @Runs.mulw:=@Runs.mulw
end Go.Proofs.YtglpalgiipahjaaGreat
namespace Go.Proofs.YtglpalgiipahjaaGreat
open Go.KL
set_option maxHeartbeats 4000000
theorem wDV (p0:List Int) (pA0:Option Addr) (pc0:Nat) (w:World) (φ:PHeap) (hS:St0 w φ []) (ha0:Sl φ 1 pA0 pc0 p0.length (nA KL.encB8 p0)) {r:wAC} (hm:wBM p0=some r):Gv Tryz.prog 24 [.slice pA0 p0.length pc0] w (wCN w [] φ (fun φ_ L_ v=>∃ (b0:Nat) (A0p0:Option Addr) (c0p0:Nat),v=.pointer (some ⟨b0,0,none⟩)/\L_=[.blk b0 192 [.slice A0p0 r.bytes.length c0p0,jV r.next,.int .u32 r.state]]/\Sl φ_ 1 A0p0 c0p0 r.bytes.length (nA KL.encB8 r.bytes))):=by
 unfold wBM at hm
 refine Gv.of Tryz.func24 Z Tryz.ntmps24 Tryz.results24 Z (sR fL1 Z (oA Z Z (eN (sR (.fl 0 (.fl 1 (.fx 2 (.fl 3 (.nil)) .stop))) Z (oM Z Z ?_)))))
 let B0:List Value:=[.slice pA0 p0.length pc0,jV 0,.int .u32 17]
 refine zk rfl rfl rfl rfl (fun _=>Runs.build (pv:=[(0,.slice pA0 p0.length pc0),(2,.int .u32 17)]) (z:=[.slice none 0 0,jV 0,.int .u32 0]) (cs:=B0) rfl (wAT rfl (wAT rfl wBW)) Tryz.zeroValue192 wLr rfl rfl) (ZR (cs:=B0) rfl rfl rfl rfl rfl rfl (by rfl) hS ?_)
 intro W1 b2 hS3
 refine oA Z Z (eN (zJ ?_))
 cases hm
 exact ⟨Z,_,(zn Z),φ,_,hS3,b2,pA0,pc0,Z,Z,ha0⟩
theorem wBd (p0:wAC) (pb0:Nat) (pA0_0:Option Addr) (pc0_0:Nat) (p1:Int) (w:World) (φ:PHeap) (hS:St0 w φ [.blk pb0 192 [.slice pA0_0 p0.bytes.length pc0_0,jV p0.next,.int .u32 p0.state]]) (ha0:Sl φ 1 pA0_0 pc0_0 p0.bytes.length (nA KL.encB8 p0.bytes)) {r:Int × wAC} (hm:wAQ p0 p1=some r):Gv Tryz.prog 34 [.pointer (some ⟨pb0,0,none⟩),jV p1] w (wCN w [.blk pb0 192 [.slice pA0_0 p0.bytes.length pc0_0,jV p0.next,.int .u32 p0.state]] φ (fun φ_ L_ v=>∃ (Ao00:Option Addr) (co00:Nat),v=jV r.1/\L_=[.blk pb0 192 [.slice Ao00 r.2.bytes.length co00,jV r.2.next,.int .u32 r.2.state]]/\Sl φ_ 1 Ao00 co00 r.2.bytes.length (nA KL.encB8 r.2.bytes))):=by
 unfold wAQ at hm
 refine Gv.of Tryz.func34 Z Tryz.ntmps34 Tryz.results34 Z (sR fL1 Z (oA Z Z (eN (zG (sR fL10 Z (oM Z Z (oR Z (Runs.leq Z Z Z) (oM Z Z ?_))))))))
 by_cases c2:p1 <= 1
 ·have hm3:=hm;rw [if_pos c2] at hm3;replace c2:=zB c2
  refine oT Z c2 (oT Z c2 (oT Z c2 (oT Z c2 (oT Z c2 (oT Z c2 (oR Z (zm Z (wGe c2.out) Z) (eN (ZC Z (sR fL1 Z (oA Z Z (eN (zJ (zI ?_)))))))))))))
  cases hm3
  exact ⟨Z,_,(zn Z),φ,_,hS,pA0_0,pc0_0,Z,Z,ha0⟩
 ·have hm4:=hm;rw [if_neg c2] at hm4;replace c2:=zB c2
  refine zW Z Z Z (wF Z c2) Z Z (rU Z (wF Z c2) (zu Z Z) (rU Z (wF Z c2) (zN Z Z zw Z Tryz.sizeOf61) (zz Z Z Z (wF Z c2) (hS.ldB (j:=0) Z Z Z Tryz.isAgg61 (v:=.slice pA0_0 p0.bytes.length pc0_0) Z) Z (rU Z (wF Z c2) (zo Z Z Tryz.runUnderlying61) (rU Z (wF Z c2) (Runs.eql Z Z Z) (oR Z (zr Z (ZL c2.out) Z) (eN (ifc hm4 ?_ ?_))))))))
  ·intro c5 hm6
   refine cT Z c5 (sR fL1 Z (oA Z Z (eN (zJ (zI ?_)))))
   cases hm6
   exact ⟨Z,_,(zn Z),φ,_,hS,pA0_0,pc0_0,Z,Z,ha0⟩
  ·intro c5 hm7
   refine cF Z c5 (kN (zG (CK.anyOrd Za [3,3,3,1,3,3,3,1,3,3,3,1,3,3,3,1,3,3,3,3,1,3,3,3,1,3,3,3,3,3] fL30 (by kernel_rfl) ?_)))
   have hS8:=hS.drew
   generalize hw_W9:({ w with drawn:=w.drawn + 1 }:World)=W9 at hS8 ⊢
   refine oM Z Z (oR Z (zu Z Z) (oR Z (zN Z Z zw Z Tryz.sizeOf61) (oL Z (hS8.ldB (j:=0) Z Z Z Tryz.isAgg61 (v:=.slice pA0_0 p0.bytes.length pc0_0) Z) (oM Z Z (oR Z (zu Z Z) (oR Z (zN Z Z zw Z zD) (oL Z (hS8.ldB (j:=0) Z Z Z zK (v:=jV p0.next) Z) (oM Z Z (oR Z (zu Z Z) (oR Z (zN Z Z zw Z Tryz.sizeOf61) (oL Z (hS8.ldB (j:=0) Z Z Z Tryz.isAgg61 (v:=.slice pA0_0 p0.bytes.length pc0_0) Z) (oR Z (zo Z Z Tryz.runUnderlying61) (bnK hm7 fun x10 h11 hm12=>oR Z (Runs.rem Z Z Z h11) (bnK hm12 fun x13 h14 hm15=>?_))))))))))))))
   have q:=ha0.el (fun _=>rfl) (wAs h14)
   obtain ⟨b16,off17,hA18,hC19⟩:=q
   refine oR Z (ZM Z Z hA18 Z Tryz.runUnderlying61 Tryz.sizeOf5 (wDi h14) (wEN h14)) (oL Z (hS8.ldC (f:=0) hC19 (v:=.int .u8 x13) Z Z Tryz.isAgg5 Z) (oR Z (Runs.cvu Z Z Tryz.runUnderlying5 ZS Z Z) (oM Z Z (oR Z (zu Z Z) (oR Z (zN Z Z zw Z zD) (oL Z (hS8.ldB (j:=0) Z Z Z zK (v:=jV p0.next) Z) (oM Z Z (oR Z (zu Z Z) (oR Z (zN Z Z zw Z Tryz.sizeOf61) (oL Z (hS8.ldB (j:=0) Z Z Z Tryz.isAgg61 (v:=.slice pA0_0 p0.bytes.length pc0_0) Z) (oR Z (zo Z Z Tryz.runUnderlying61) (bnK hm15 fun x20 h21 hm22=>oR Z (Runs.quo Z Z Z h21) (oR Z (Runs.cvu Z Z Tryz.runUnderlying3 ZS Z Z) (oA Z Z (oA Z Z (eN (zG (CK.fresh fun σ23 hσ24=>?_))))))))))))))))))
   have f25:σ23 0=.pointer (some ⟨pb0,0,none⟩):=(hσ24 0).trans rfl
   have f26:σ23 1=jV p1:=(hσ24 1).trans rfl
   have f27:σ23 5=.int .u32 (wDN x13):=(hσ24 5).trans rfl
   have f28:σ23 6=.int .u32 (wDN x20):=(hσ24 6).trans rfl
   clear hσ24
   refine rR (fC0_6 (.fx 7 (.nil) .stop)) Z (oM Z f25 (oR Z (zu Z Z) (oR Z (zN Z Z zw Z zD) (oL Z (hS8.ldB (j:=0) Z Z Z zK (v:=jV p0.next) Z) (oR Z (zQ Z Z Z) (oR Z (zu Z Z) (oR Z (zN Z Z zw Z zD) (OKS.st (j:=0) (vs:=[jV (w64 (p0.next + 1))]) Z Z Z Z hS8 Z Z Z Z zD (zY Z) Z Z Z ?_))))))))
   intro W29 hS30
   let B0:Res:=.blk pb0 192 [.slice pA0_0 p0.bytes.length pc0_0,jV p0.next,.int .u32 p0.state]
   have hS31:SW w [B0] φ φ [.blk pb0 192 [.slice pA0_0 p0.bytes.length pc0_0,jV (w64 (p0.next + 1)),.int .u32 p0.state]] W29:=hS30
   refine eN (sR (wNZ (.fx 15 (.nil) .stop)) Z (oM Z f25 (oM Z f25 (oR Z (zu Z Z) (oR Z (zN Z Z zw Z Tryz.sizeOf190) (oL Z (hS31.ldB (j:=0) Z Z Z Tryz.isAgg190 (v:=.int .u32 p0.state) Z) (oR Z (Runs.mulu Z Z Z) (oM Z f27 (oR Z (Runs.addu Z Z Z) (oM Z f28 (oR Z (Runs.mulu Z Z Z) (oR Z (Runs.addu Z Z Z) (oR Z (Runs.addu Z Z Z) (bnK hm22 fun x32 h33 hm34=>oR Z (Runs.rem Z Z Z h33) (oR Z (zu Z Z) (oR Z (zN Z Z zw Z Tryz.sizeOf190) (OKS.st (j:=0) (vs:=[.int .u32 x32]) Z Z Z Z hS31 Z Z Z Z Tryz.sizeOf190 (zY Z) Z Z Z ?_)))))))))))))))))
   intro W35 hS36
   have hS37:SW w [B0] φ φ [.blk pb0 192 [.slice pA0_0 p0.bytes.length pc0_0,jV (w64 (p0.next + 1)),.int .u32 x32]] W35:=hS36
   refine eN (zG (sR fL6 Z (oM Z f28 (oR Z (Runs.eql Z Z Z) (oM Z Z (ifc hm34 ?_ ?_))))))
   ·intro c38 hm39
    refine zW Z Z Z (wT Z c38) Z f26 (rU Z (wT Z c38) (Runs.leq Z Z Z) (oR Z (zm Z (wGe c38.out) Z) (eN (ifc hm39 ?_ ?_))))
    ·intro c40 hm41
     refine cT Z c40 (sR fL5 Z (oM Z f27 (oR Z (Runs.cvw Z Z ZS Tryz.runUnderlying3 Z Z) (oM Z f26 (bnK hm41 fun x42 h43 hm44=>oR Z (Runs.rem Z Z Z h43) (oA Z Z (eN (zJ (zI ?_)))))))))
     cases hm44
     exact ⟨Z,_,(zn Z),φ,_,hS37,pA0_0,pc0_0,Z,Z,ha0⟩
    ·intro c40 hm45
     refine cF Z c40 (kN (sR fL11 Z (oM Z f25 (oR Z (zu Z Z) (oR Z (zN Z Z zw Z Tryz.sizeOf190) (oL Z (hS37.ldB (j:=0) Z Z Z Tryz.isAgg190 (v:=.int .u32 x32) Z) (oR Z (Runs.mulu Z Z Z) (oM Z f27 (oR Z (Runs.addu Z Z Z) (oR Z (Runs.cvw Z Z ZS Tryz.runUnderlying3 Z Z) (oM Z f26 (bnK hm45 fun x46 h47 hm48=>oR Z (Runs.rem Z Z Z h47) (oA Z Z (eN (zJ ?_)))))))))))))))
     cases hm48
     exact ⟨Z,_,(zn Z),φ,_,hS37,pA0_0,pc0_0,Z,Z,ha0⟩
   ·intro c38 hm49
    refine oF Z c38 (oF Z c38 (oR Z (zr Z (ZL c38.out) Z) (eN (zx Z (kN (sR fL11 Z (oM Z f25 (oR Z (zu Z Z) (oR Z (zN Z Z zw Z Tryz.sizeOf190) (oL Z (hS37.ldB (j:=0) Z Z Z Tryz.isAgg190 (v:=.int .u32 x32) Z) (oR Z (Runs.mulu Z Z Z) (oM Z f27 (oR Z (Runs.addu Z Z Z) (oR Z (Runs.cvw Z Z ZS Tryz.runUnderlying3 Z Z) (oM Z f26 (bnK hm49 fun x50 h51 hm52=>oR Z (Runs.rem Z Z Z h51) (oA Z Z (eN (zJ ?_)))))))))))))))))))
    cases hm52
    exact ⟨Z,_,(zn Z),φ,_,hS37,pA0_0,pc0_0,Z,Z,ha0⟩
theorem wAy (p0:wAC) (pb0:Nat) (pA0_0:Option Addr) (pc0_0:Nat) (p1:Int) (p2:Int) (w:World) (φ:PHeap) (hS:St0 w φ [.blk pb0 192 [.slice pA0_0 p0.bytes.length pc0_0,jV p0.next,.int .u32 p0.state]]) (ha0:Sl φ 1 pA0_0 pc0_0 p0.bytes.length (nA KL.encB8 p0.bytes)) {r:Int × wAC} (hm:wAH p0 p1 p2=some r):Gv Tryz.prog 64 [.pointer (some ⟨pb0,0,none⟩),jV p1,jV p2] w (wCN w [.blk pb0 192 [.slice pA0_0 p0.bytes.length pc0_0,jV p0.next,.int .u32 p0.state]] φ (fun φ_ L_ v=>∃ (Ao00:Option Addr) (co00:Nat),v=jV r.1/\L_=[.blk pb0 192 [.slice Ao00 r.2.bytes.length co00,jV r.2.next,.int .u32 r.2.state]]/\Sl φ_ 1 Ao00 co00 r.2.bytes.length (nA KL.encB8 r.2.bytes))):=by
 unfold wAH at hm
 refine Gv.of Tryz.func64 Z Tryz.ntmps64 Tryz.results64 Z (sR fL1 Z (oA Z Z (eN (sR (wOv (.fx 6 (.fl 7 (.fl 8 (.nil))) .stop)) Z (oM Z Z (oM Z Z (oM Z Z (oM Z Z (oR Z (Runs.subw Z Z Z) (oR Z (zQ Z Z Z) ?_))))))))))
 have q:=bnd hm
 obtain ⟨⟨x2,x3⟩,h4,hm5⟩:=q
 try dsimp only at hm5
 refine zL 1 Z Z Z Z (zM Z Z Tryz.call34 (zC Z (zC Z zR)) Z) hS (fun hs=>wBd p0 pb0 pA0_0 pc0_0 (w64 ((w64 (p2 - p1)) + 1)) w φ hs ha0 h4) (.inl Z) ?_
 rintro φ6 L7 v8 W9 le10 hS11 ⟨A12,c13,rfl,rfl,h14⟩
 have hS15:SW w [.blk pb0 192 [.slice pA0_0 p0.bytes.length pc0_0,jV p0.next,.int .u32 p0.state]] φ φ6 [.blk pb0 192 [.slice A12 x3.bytes.length c13,jV x3.next,.int .u32 x3.state]] W9:=hS11
 refine oR Z (zQ Z Z Z) (oA Z Z (eN (zJ ?_)))
 cases hm5
 exact ⟨Z,_,(zn Z),φ6,_,hS15,A12,c13,Z,Z,h14⟩
theorem wEB (p0:wAC) (pb0:Nat) (pA0_0:Option Addr) (pc0_0:Nat) (p1:Int) (w:World) (φ:PHeap) (hS:St0 w φ [.blk pb0 192 [.slice pA0_0 p0.bytes.length pc0_0,jV p0.next,.int .u32 p0.state]]) (ha0:Sl φ 1 pA0_0 pc0_0 p0.bytes.length (nA KL.encB8 p0.bytes)) {r:(List wAD) × wAC} (hm:wAt p0 p1=some r):Gv Tryz.prog 66 [.pointer (some ⟨pb0,0,none⟩),jV p1] w (wCN w [.blk pb0 192 [.slice pA0_0 p0.bytes.length pc0_0,jV p0.next,.int .u32 p0.state]] φ (fun φ_ L_ v=>∃ (A0:Option Addr) (c0:Nat) (Ao00:Option Addr) (co00:Nat),v=.slice A0 r.1.length c0/\L_=[.row A0 c0 221 2 (nA wAP r.1),.blk pb0 192 [.slice Ao00 r.2.bytes.length co00,jV r.2.next,.int .u32 r.2.state]]/\Sl φ_ 1 Ao00 co00 r.2.bytes.length (nA KL.encB8 r.2.bytes))):=by
 unfold wAt at hm
 refine Gv.of Tryz.func66 Z Tryz.ntmps66 Tryz.results66 Z (sR fL1 Z (oA Z Z (eN (sR fL1 Z (oA Z Z (eN (zG (sR (wOt (.fx 3 (.fl 4 (.nil)) .stop)) Z (oM Z Z (oM Z Z (oR Z (zQ Z Z Z) ?_)))))))))))
 have q:=bnd hm
 obtain ⟨⟨x2,x3⟩,h4,hm5⟩:=q
 try dsimp only at hm5
 refine zL 1 Z Z Z Z (zM Z Z Tryz.call34 (zC Z (zC Z zR)) Z) hS (fun hs=>wBd p0 pb0 pA0_0 pc0_0 (w64 (p1 + 1)) w φ hs ha0 h4) (.inl Z) ?_
 rintro φ6 L7 v8 W9 le10 hS11 ⟨A12,c13,rfl,rfl,h14⟩
 let B0:Res:=.blk pb0 192 [.slice pA0_0 p0.bytes.length pc0_0,jV p0.next,.int .u32 p0.state]
 have hS15:SW w [B0] φ φ6 [.blk pb0 192 [.slice A12 x3.bytes.length c13,jV x3.next,.int .u32 x3.state]] W9:=hS11
 refine oM Z Z (eN (zS ?_))
 have q:=bnd hm5
 obtain ⟨⟨y58,y59,y60,y61⟩,hf55,hm54⟩:=q
 try dsimp only at hm54
 have q:=wBx hf55
 obtain ⟨hle56,hf57⟩:=q
 replace hle56:=zB hle56
 refine CK.forN' (fun k53 (l44,x47,x48,l49) σ_ w_=>∃ (φ_:PHeap) (A45:Option Addr) (c46:Nat) (A50:Option Addr) (c51:Nat),σ_ 10=jV (↑k53:Int)/\σ_ 0=.pointer (some ⟨pb0,0,none⟩)/\σ_ 5=.slice A50 l49.length c51/\σ_ 9=jV x2/\PHeap.Le φ6 φ_/\SW w [B0] φ φ_ [.blk pb0 192 [.slice A45 l44.length c46,jV x47,.int .u32 x48],.row A50 c51 221 2 (nA wAP l49)] w_/\Sl φ_ 1 A45 c46 l44.length (nA KL.encB8 l44)) hf57 ?_ ?_ ?_
 ·have hS62:=hS15.nilrow 221 2
  exact ⟨φ6,A12,c13,none,0,rfl,rfl,rfl,rfl,(zO _),(hS62.pick [1,0] _ (by decide) rfl),h14⟩
 ·rintro k53 ⟨l44,x47,x48,l49⟩ xx66 σ64 W65 hk69 ⟨φ71,A45,c46,A50,c51,fi70,f74,f75,f76,le72,hS73,h77⟩ hx67
  try dsimp only at hx67
  have c78:Hid ((↑k53:Int) < x2):=zB (wBm hk69)
  replace hk69:=zB hk69
  have hi79:Hid (w64 ((↑k53:Int) + 1)=(↑(k53 + 1):Int)):=zB (by have h1:=hle56.out;have h2:=c78.out;rw [wAa] <;> omega)
  refine sR fL1 Z (oR Z (zU Z fi70 f76) (eN (zG (cT Z c78 (kN (zG (zS (rR (.fl 0 (.fl 1 (.fx 2 (.fl 3 (.fl 4 (.fx 5 (fC6_8 (.fx 9 (.fl 10 (.fl 11 (.fx 12 (.fx 13 (.fl 14 (.nil)) .stop) .stop))) .stop)) .stop))) .stop))) Z (oM Z f75 (oM Z f74 ?_))))))))))
  have q:=bnd hx67
  obtain ⟨⟨x80,x81⟩,h82,hm83⟩:=q
  try dsimp only at hm83
  refine zL 1 Z Z Z Z (zM Z Z Tryz.call34 (zC Z (zC Z zR)) Z) hS73 (fun hs=>wBd (⟨l44,x47,x48⟩:wAC) pb0 A45 c46 5 W65 φ71 hs h77 h82) (.inl Z) ?_
  rintro φ84 L85 v86 W87 le88 hS89 ⟨A90,c91,rfl,rfl,h92⟩
  let B1:Res:=.row A50 c51 221 2 (nA wAP l49)
  have hS93:SW w [B0] φ φ84 [.blk pb0 192 [.slice A90 x81.bytes.length c91,jV x81.next,.int .u32 x81.state],B1] W87:=hS89
  refine oR Z (Zb Z Z Z) (oM Z f74 ?_)
  have q:=bnd hm83
  obtain ⟨⟨x94,x95⟩,h96,hm97⟩:=q
  try dsimp only at hm97
  refine zL 1 Z Z Z Z (zM Z Z Tryz.call64 (zC Z (zC Z (zC Z zR))) Z) hS93 (fun hs=>wAy x81 pb0 A90 c91 (-60) 60 W87 φ84 hs h92 h96) (.inl Z) ?_
  rintro φ98 L99 v100 W101 le102 hS103 ⟨A104,c105,rfl,rfl,h106⟩
  have hS107:SW w [B0] φ φ98 [.blk pb0 192 [.slice A104 x95.bytes.length c105,jV x95.next,.int .u32 x95.state],B1] W101:=hS103
  refine oR Z (Zb Z Z Z) (oR Z (zQ Z Z Z) (oM Z f74 ?_))
  have q:=bnd hm97
  obtain ⟨⟨x108,x109⟩,h110,hm111⟩:=q
  try dsimp only at hm111
  refine zL 1 Z Z Z Z (zM Z Z Tryz.call64 (zC Z (zC Z (zC Z zR))) Z) hS107 (fun hs=>wAy x95 pb0 A104 c105 (-40) 40 W101 φ98 hs h106 h110) (.inl Z) ?_
  rintro φ112 L113 v114 W115 le116 hS117 ⟨A118,c119,rfl,rfl,h120⟩
  let B2:Res:=.blk pb0 192 [.slice A118 x109.bytes.length c119,jV x109.next,.int .u32 x109.state]
  have hS121:SW w [B0] φ φ112 [B2,B1] W115:=hS117
  refine oR Z (Zb Z Z Z) ?_
  let B3:List Value:=[jV (w64 ((w64 (2500 * x80)) + (w64 (10 * x94)))),jV (w64 (10 * x108))]
  refine oR Z (Runs.build (pv:=[(0,jV (w64 ((w64 (2500 * x80)) + (w64 (10 * x94))))),(1,jV (w64 (10 * x108)))]) (z:=[jV 0,jV 0]) (cs:=B3) Z (wAT Z (wAT Z wBW)) Tryz.zeroValue221 wLs Z Z) (ZJ (pv:=[(0,.agg B3.toArray)]) (zs:=[jV 0,jV 0]) (cs:=B3) Z Z Z Z Z (wAT Z wBW) ZI ZW Tryz.zeroValue221 Z Z Z Z Z hS121 ?_)
  intro W122 b123 hS124
  let B4:Res:=.row (some ⟨b123,0,none⟩) 1 221 2 (nA wAP [(⟨w64 ((w64 (2500 * x80)) + (w64 (10 * x94))),w64 (10 * x108)⟩:wAD)])
  have hS126:SW w [B0] φ φ112 [B4,B2,B1] W122:=hS124
  refine bnK hm111 fun x127 h128 hm129=>ZP (j:=2) (enc:=wAP) (xs:=l49) (ys:=[(⟨w64 ((w64 (2500 * x80)) + (w64 (10 * x94))),w64 (10 * x108)⟩:wAD)]) (zs:=x127) rfl rfl rfl rfl rfl Tryz.underlying133 wOh rfl rfl rfl rfl rfl rfl hS126 rfl rfl rfl (hS126.srcR (j:=0) rfl (by decide) (wAG (f:=wAP) (sz:=2) (fun _=>rfl) [(⟨w64 ((w64 (2500 * x80)) + (w64 (10 * x94))),w64 (10 * x108)⟩:wAD)])) (fun _=>rfl) (fun _=>rfl) h128 rfl ?_
  intro A130 c131 W132 hS133
  have hS134:SW w [B0] φ φ112 [B4,B2,.row A130 c131 221 2 (nA wAP x127)] W132:=hS133
  refine oA Z Z (zq (zZ (zF (rR fL2 Z (oR Z (zt (zQ Z fi70 Z) (congrArg (jV) hi79.out)) (oM Z Z (zq ?_)))))))
  cases hm129
  exact zF ⟨rfl,⟨φ112,A118,c119,A130,c131,rfl,f74,rfl,f76,(((le72.trans le88).trans le102).trans le116),(hS134.pick [1,2] _ (by decide) rfl),h120⟩⟩
 ·rintro σ143 W144 ⟨φ159,A155,c156,A157,c158,fi146,f162,f163,f164,le160,hS161,h165⟩
  have c166:Hid (¬ ((↑((x2:Int) - 0).toNat:Int) < x2)):=zB (wBO)
  refine sR fL1 Z (oR Z (zU Z fi146 f164) (eN (zG (cF Z c166 (ZD (zf (zf (ZB (zF (sR fL2 Z (oM Z f163 (oA Z Z (eN (zJ ?_))))))))))))))
  cases hm54
  exact ⟨rfl,_,(zn rfl),φ159,_,(hS161.pick [1,0] _ (by decide) rfl),A157,c158,A155,c156,rfl,rfl,h165⟩
theorem wCg (p0:wAD) (p1:(wAD->Option Bool)) (pb1:Nat) (pv1:Value) (w:World) (φ:PHeap) (hS:St0 w φ []) (ha0:Cl φ pb1 0 [pv1]) (ha1:FnOK Tryz.prog φ pv1 wIZ wIa p1) {r:Bool} (hm:wAW p0 p1=some r):Gv Tryz.prog 266 [.agg #[jV p0.X,jV p0.Y],.pointer (some ⟨pb1,0,none⟩)] w (wCN w [] φ (fun φ_ L_ v=>v=.bool r/\L_=[])):=by
 unfold wAW at hm
 refine Gv.of Tryz.func266 Z Tryz.ntmps266 Tryz.results266 Z (sR (.fx 0 (.fl 1 (.nil)) .stop) Z ?_)
 let B0:List Value:=[jV p0.X,jV p0.Y]
 refine ZR (cs:=B0) rfl rfl rfl rfl rfl rfl (by rfl) hS ?_
 intro W1 b2 hS3
 refine oA Z Z (eN (sR (.fl 0 (.fl 1 (.fx 2 (.fl 3 (.fl 4 (.nil))) .stop))) Z (oL Z (hS3.ldC (f:=0) ha0 (v:=pv1) Z Z Tryz.isAgg303 Z) (oL Z (hS3.ldBA (j:=0) Z Z Z Tryz.isAgg221 ZW (vs:=B0) Z Z) (bnK hm fun x5 h6 hm7=>OKS.callV (a:=p0) Z Z Z Z Z Z (zC Z zR) hS3 ha1 Z h6 ?_)))))
 rintro φ8 L9 v10 W11 le12 hS13 ⟨rfl,rfl⟩
 have hS14:sW w φ φ8 [.blk b2 221 B0] W11:=hS13
 refine oR Z (ZH Z Z) (oA Z Z (eN (zJ ?_)))
 cases hm7
 exact ⟨rfl,_,(zn rfl),φ8,_,(hS14.pick [] _ (by decide) rfl),rfl,rfl⟩
theorem wBZ (p0:List wAD) (pA0:Option Addr) (pc0:Nat) (p1:(wAD->Option Bool)) (pv1:Value) (w:World) (φ:PHeap) (hS:St0 w φ []) (ha0:Sl φ 2 pA0 pc0 p0.length (nA wAP p0)) (ha1:FnOK Tryz.prog φ pv1 wIZ wIa p1) {r:Int} (hm:wAO p0 p1=some r):Gv Tryz.prog 312 [.slice pA0 p0.length pc0,pv1] w (wCN w [] φ (fun φ_ L_ v=>v=jV r/\L_=[])):=by
 unfold wAO at hm
 refine Gv.of Tryz.func312 Z Tryz.ntmps312 Tryz.results312 Z (sR fL1 Z (oA Z Z (eN (zG (sR fL3 Z (oM Z Z (oR Z (zo Z Z ZI) (oM Z Z (eN (zS ?_))))))))))
 have q:=wCC hm
 obtain ⟨r3,hX4⟩:=q
 have q:=wCP hX4
 obtain ⟨hle5,hf6⟩:=q
 replace hle5:=zB hle5
 refine CK.forN (fun k2 _ σ_ w_=>∃ (φ_:PHeap),σ_ 8=jV (↑k2:Int)/\σ_ 0=.slice pA0 p0.length pc0/\σ_ 1=pv1/\σ_ 7=jV (↑p0.length:Int)/\PHeap.Le φ φ_/\sW w φ φ_ [] w_) hf6 ?_ ?_ ?_
 ·exact ⟨φ,Z,Z,Z,Z,(zO _),hS⟩
 ·rintro k2 ⟨⟩ xx9 σ7 W8 hk12 ⟨φ14,fi13,f17,f18,f19,le15,hS16⟩ hx10 hb11
  try dsimp only at hx10
  have c20:Hid ((↑k2:Int) < (↑p0.length:Int)):=zB (wBm hk12)
  replace hk12:=zB hk12
  have hi21:Hid (w64 ((↑k2:Int) + 1)=(↑(k2 + 1):Int)):=zB (by have h1:=hle5.out;have h2:=c20.out;rw [wAa] <;> omega)
  refine sR fL1 Z (oR Z (zU Z fi13 f19) (eN (zG (cT Z c20 (kN (zG (zS (sR fL2 Z (oM Z fi13 (oA Z Z (eN (sR (wOu (.fx 5 (.nil) .stop)) Z (oM Z f18 (oM Z f17 (oM Z Z (bnK hx10 fun x22 h23 hm24=>?_))))))))))))))))
  have h25:=ha0.le le15
  have q:=h25.el (fun _=>rfl) (wAs h23)
  obtain ⟨b26,off27,hA28,hC29⟩:=q
  refine oR Z (zy Z Z hA28 Z ZI ZW (wCA h23)) (oL Z (hS16.ldCA (f:=0) hC29 Z Z Tryz.isAgg221 ZW (us:=[jV x22.X,jV x22.Y]) Z Z) (bnK hm24 fun x30 h31 hm32=>?_))
  have h39:=ha1.le le15
  refine OKS.callV (a:=x22) Z Z Z Z Z Z (zC Z zR) hS16 h39 Z h31 ?_
  rintro φ33 L34 v35 W36 le37 hS38 ⟨rfl,rfl⟩
  have hS40:sW w φ φ33 [] W36:=hS38
  refine eN (ifc hm32 ?_ ?_)
  ·intro c41 hm42
   refine ZC (congrArg nD c41.out) (sR fL2 Z (oM Z Z (oA Z Z (eN (zJ (zd (zI ?_)))))))
   have q:=wAq hm42
   obtain ⟨v43,hm44,e45⟩:=q
   obtain rfl:=wBl hm hX4 (hb11 v43 e45)
   refine zI (zd (zI ?_))
   cases hm44
   exact ⟨Z,_,(zn Z),φ33,_,hS40,Z,Z⟩
  ·intro c41 hm46
   refine zx (congrArg nD (nE.2 c41.out)) (ZE (zZ (zF (rR fL2 Z (oR Z (zt (zQ Z fi13 Z) (congrArg (jV) hi21.out)) (oM Z Z (zq ?_)))))))
   obtain rfl:=nB hm46
   exact zF ⟨Z,_,Z,⟨φ33,Z,f17,f18,f19,(le15.trans le37),hS40⟩⟩
 ·rintro ⟨⟩ σ47 W48 ⟨φ51,fi50,f54,f55,f56,le52,hS53⟩ hb49
  have hm57:=wCr hm hX4 hb49
  try dsimp only at hm57
  have c58:Hid (¬ ((↑(((↑p0.length:Int):Int) - 0).toNat:Int) < (↑p0.length:Int))):=zB (wBO)
  refine sR fL1 Z (oR Z (zU Z fi50 f56) (eN (zG (cF Z c58 (ZD (zf (zf (ZB (zF (sR fL1 Z (oA Z Z (eN (zJ ?_)))))))))))))
  cases hm57
  exact ⟨Z,_,(zn Z),φ51,_,hS53,Z,Z⟩
theorem wBU (p0:List wAD) (pA0:Option Addr) (pc0:Nat) (p1:(wAD->Option Bool)) (pv1:Value) (w:World) (φ:PHeap) (hS:St0 w φ []) (ha0:Sl φ 2 pA0 pc0 p0.length (nA wAP p0)) (ha1:FnOK Tryz.prog φ pv1 wIZ wIa p1) {r:Bool} (hm:wAM p0 p1=some r):Gv Tryz.prog 265 [.slice pA0 p0.length pc0,pv1] w (wCN w [] φ (fun φ_ L_ v=>v=.bool r/\L_=[])):=by
 unfold wAM at hm
 refine Gv.of Tryz.func265 Z Tryz.ntmps265 Tryz.results265 Z (sR fL1 Z (oA Z Z (eN (sR (.fl 0 (.fl 1 (.fx 2 (.fl 3 (.fl 4 (.nil))) .stop))) Z (oM Z Z (oM Z Z (bnK hm fun x1 h2 hm3=>zL 0 Z Z Z Z (zM Z Z Tryz.call312 (zC Z (zC Z zR)) Z) hS (fun hs=>wBZ p0 pA0 pc0 p1 pv1 w φ hs ha0 ha1 h2) (.inr Z) ?_)))))))
 rintro φ4 L5 v6 W7 le8 hS9 ⟨rfl,rfl⟩
 have hS10:sW w φ φ4 [] W7:=hS9
 refine oR Z (Runs.geq Z Z Z) (oA Z Z (eN (zJ ?_)))
 cases hm3
 exact ⟨Z,_,(zn Z),φ4,_,hS10,Z,Z⟩
theorem wBu (p0:List wAD) (pA0:Option Addr) (pc0:Nat) (p1:(wAD->Option Bool)) (pv1:Value) (w:World) (φ:PHeap) (hS:St0 w φ []) (ha0:Sl φ 2 pA0 pc0 p0.length (nA wAP p0)) (ha1:FnOK Tryz.prog φ pv1 wIZ wIa p1) {r:Bool} (hm:wAd p0 p1=some r):Gv Tryz.prog 198 [.slice pA0 p0.length pc0,pv1] w (wCN w [] φ (fun φ_ L_ v=>v=.bool r/\L_=[])):=by
 unfold wAd at hm
 refine Gv.of Tryz.func198 Z Tryz.ntmps198 Tryz.results198 Z (sR (.fx 0 (.fl 1 (.nil)) .stop) Z (ZR (cs:=[pv1]) Z Z Z Z Z Z (FnOK.cells ha1) hS ?_))
 intro W1 b2 hS3
 have q:=hS3.freeze (k:=0) rfl
 obtain ⟨φ5,le6,hC7,hS8⟩:=q
 replace hC7:=Cl.of hC7
 have hS9:sW w φ φ5 [] W1:=hS8
 replace hC7:Cl φ5 b2 0 [pv1]:=hC7
 refine oA Z Z (eN (sR (.fl 0 (.fl 1 (.fx 2 (.fl 3 (.fl 4 (.nil))) .stop))) Z (oM Z Z (oR Z (Runs.mkf Z zR (zC Z zR)) ?_))))
 have h10:=ha0.le le6
 have h11:=ha1.le le6
 have hF12:FnOK Tryz.prog φ5 (.func (.func 266) #[] #[.pointer (some ⟨b2,0,none⟩)]) wIZ wIa (fun x=>wAW x p1):=⟨266,[],[.pointer (some ⟨b2,0,none⟩)],rfl,Tryz.call266,fun φ1 w1 x y vs le hs ha hm=>by obtain rfl:=ha;exact wCg x p1 b2 pv1 w1 φ1 hs (hC7.le le) (h11.le le) hm⟩
 refine bnK hm fun x13 h14 hm15=>zL 0 Z Z Z Z (zM Z Z Tryz.call265 (zC Z (zC Z zR)) Z) hS9 (fun hs=>wBU p0 pA0 pc0 (fun x=>wAW x p1) (.func (.func 266) #[] #[.pointer (some ⟨b2,0,none⟩)]) W1 φ5 hs h10 hF12 h14) (.inr Z) ?_
 rintro φ16 L17 v18 W19 le20 hS21 ⟨rfl,rfl⟩
 have hS22:sW w φ φ16 [] W19:=hS21
 refine oR Z (ZH Z Z) (oA Z Z (eN (zJ ?_)))
 cases hm15
 exact ⟨Z,_,(zn Z),φ16,_,hS22,Z,Z⟩
theorem wDW (p0:Int) (p1:Int) (p2:Int) (w:World) (φ:PHeap) (hS:St0 w φ [])  {r:Bool} (hm:wBQ p0 p1 p2=some r):Gv Tryz.prog 200 [jV p0,jV p1,jV p2] w (wCN w [] φ (fun φ_ L_ v=>v=.bool r/\L_=[])):=by
 unfold wBQ at hm
 refine Gv.of Tryz.func200 Z Tryz.ntmps200 Tryz.results200 Z (sR fL1 Z (oA Z Z (eN (sR fL9 Z (oM Z Z (oM Z Z (oR Z (Runs.geq Z Z Z) (oM Z Z ?_))))))))
 by_cases c1:p1 <= p0
 ·have hm2:=hm;rw [if_pos c1] at hm2;replace c1:=zB c1
  refine zW Z Z Z (wT Z c1) Z Z (zW Z Z Z (wT Z c1) Z Z (rU Z (wT Z c1) (Runs.leq Z Z Z) (oR Z (zm Z (wGe c1.out) Z) (oA Z Z (eN (zJ ?_))))))
  cases hm2
  exact ⟨Z,_,(zn Z),φ,_,hS,Z,Z⟩
 ·have hm3:=hm;rw [if_neg c1] at hm3;replace c1:=zB c1
  refine oF Z c1 (oF Z c1 (oF Z c1 (oR Z (zr Z (ZL c1.out) Z) (oA Z Z (eN (zJ ?_))))))
  have hE:=nB hm3;first | subst r | cases hE
  exact ⟨Z,_,(zn Z),φ,_,hS,Z,Z⟩
theorem wDK (p0:wAD) (w:World) (φ:PHeap) (hS:St0 w φ [])  {r:Bool} (hm:wAh p0=some r):Gv Tryz.prog 199 [.agg #[jV p0.X,jV p0.Y]] w (wCN w [] φ (fun φ_ L_ v=>v=.bool r/\L_=[])):=by
 unfold wAh at hm
 refine Gv.of Tryz.func199 Z Tryz.ntmps199 Tryz.results199 Z (sR (.fx 0 (.fl 1 (.nil)) .stop) Z ?_)
 let B0:List Value:=[jV p0.X,jV p0.Y]
 refine ZR (cs:=B0) rfl rfl rfl rfl rfl rfl (by rfl) hS ?_
 intro W1 b2 hS3
 refine oA Z Z (eN (sR (.fl 0 (.fl 1 (.fx 2 (wQO (.fx 6 (.fl 7 (.fl 8 (.nil))) .stop)) .stop))) Z (oR Z (zN Z Z ZT Z zD) (oL Z (hS3.ldB (j:=0) Z Z Z zK (v:=jV p0.X) Z) (bnK hm fun x5 h6 hm7=>zL 0 Z Z Z Z (zM Z Z Tryz.call200 (zC Z (zC Z (zC Z zR))) Z) hS3 (fun hs=>wDW p0.X (-20000) 20000 W1 φ hs h6) (.inr Z) ?_)))))
 rintro φ8 L9 v10 W11 le12 hS13 ⟨rfl,rfl⟩
 have hS14:sW w φ φ8 [.blk b2 221 B0] W11:=hS13
 refine oM Z Z (ifc hm7 ?_ ?_)
 ·intro c15 hm16
  refine zk Z Z Z (zX Z Z (congrArg nD c15.out)) (fun _=>zN Z Z ZT Z zD) (zz Z Z Z (zX Z Z (congrArg nD c15.out)) (hS14.ldB (j:=0) Z Z Z zK (v:=jV p0.Y) Z) Z (bnK hm16 fun x17 h18 hm19=>zL 0 Z Z Z (zX Z Z (congrArg nD c15.out)) (zM Z Z Tryz.call200 (zC Z (zC Z (zC Z zR))) Z) hS14 (fun hs=>wDW p0.Y (-20000) 20000 W11 φ8 hs h18) (.inr Z) ?_))
  rintro φ20 L21 v22 W23 le24 hS25 ⟨rfl,rfl⟩
  have hS26:sW w φ φ20 [.blk b2 221 B0] W23:=hS25
  refine oR Z (zm Z (congrArg nD c15.out) Z) (oA Z Z (eN (zJ ?_)))
  have hE:=nB hm19;first | subst r | cases hE
  exact ⟨rfl,_,(zn rfl),φ20,_,(hS26.pick [] _ (by decide) rfl),rfl,rfl⟩
 ·intro c15 hm27
  refine zP Z Z Z (zg Z Z (congrArg nD (nE.2 c15.out)) Z) (zP Z Z Z (zg Z Z (congrArg nD (nE.2 c15.out)) Z) (OKS.px Z Z Z (zg Z Z (congrArg nD (nE.2 c15.out)) Z) (oR Z (zr Z (congrArg nD (nE.2 c15.out)) Z) (oA Z Z (eN (zJ ?_))))))
  have hE:=nB hm27;first | subst r | cases hE
  exact ⟨rfl,_,(zn rfl),φ8,_,(hS14.pick [] _ (by decide) rfl),rfl,rfl⟩
theorem wGC (p0:Int) (p1:List wAD) (pA1:Option Addr) (pc1:Nat) (w:World) (φ:PHeap) (hS:St0 w φ []) (ha0:Sl φ 2 pA1 pc1 p1.length (nA wAP p1)) {r:(List Int) × Int} (hm:wBn p0 p1=some r):Gv Tryz.prog 128 [jV p0,.slice pA1 p1.length pc1] w (wCN w [] φ (fun φ_ L_ v=>∃ (A0:Option Addr) (c0:Nat),v=.tuple #[.slice A0 r.1.length c0,jV r.2]/\L_=[.row A0 c0 3 1 (nA KL.encI r.1)])):=by
 unfold wBn at hm
 refine Gv.of Tryz.func128 Z Tryz.ntmps128 Tryz.results128 Z (sR fL2 Z (oA Z Z (oA Z Z (eN ?_))))
 have q:=wCC hm
 obtain ⟨r1,hx2⟩:=q
 refine CK.cut (fun σ_ w_=>r1=.inl ()/\∃ (φ_:PHeap),σ_ 0=jV p0/\σ_ 1=.slice pA1 p1.length pc1/\PHeap.Le φ φ_/\sW w φ φ_ [] w_) ?_ ?_
 ·refine zS (sR fL7 Z (oM Z Z (oR Z (Runs.neq Z Z Z) (oM Z Z ?_))))
  by_cases c3:p0=0
  ·have hm4:=hx2;rw [if_pos c3] at hm4;replace c3:=zB c3
   refine zP Z Z Z (zg Z Z (ZL (fun h=>h c3.out)) Z) (zP Z Z Z (zg Z Z (ZL (fun h=>h c3.out)) Z) (oR Z (zr Z (ZL (fun h=>h c3.out)) Z) (oA Z Z (eN (zx Z (sR fL4 Z (oM Z Z (oR Z (zo Z Z ZI) (oR Z (Runs.gtr Z Z Z) (oA Z Z (eN (ifc hm4 ?_ ?_))))))))))))
   ·intro c5 hm6
    refine cT Z c5 (sR fL2 Z (oA Z Z (oA Z Z (eN (zJ (zd ?_))))))
    have q:=wAq hm6
    obtain ⟨v7,hm8,e9⟩:=q
    obtain rfl:=wBl hm hx2 e9
    refine zI ?_
    have hS10:=hS.nilrow 3 1
    cases hm8
    exact ⟨Z,_,(wKA Z Z),φ,_,hS10,none,0,Z,Z⟩
   ·intro c5 hm12
    refine cF Z c5 (sR (.fl 0 (.fx 1 (.fl 2 (.fl 3 (.nil))) .stop)) Z (oM Z Z ?_))
    have hF13:FnOK Tryz.prog φ (.func (.func 199) #[] #[]) wIZ wIa wAh:=⟨199,[],[],rfl,Tryz.call199,fun φ1 w1 x y vs le hs ha hm=>by obtain rfl:=ha;exact wDK x w1 φ1 hs  hm⟩
    refine bnK hm12 fun x14 h15 hm16=>zL 0 Z Z Z Z (zM Z Z Tryz.call198 (zC Z (zC Z zR)) Z) hS (fun hs=>wBu p1 pA1 pc1 wAh (.func (.func 199) #[] #[]) w φ hs ha0 hF13 h15) (.inr Z) ?_
    rintro φ17 L18 v19 W20 le21 hS22 ⟨rfl,rfl⟩
    have hS23:sW w φ φ17 [] W20:=hS22
    refine oR Z (ZH Z Z) (oA Z Z (eN (ifc hm16 ?_ ?_)))
    ·intro c24 hm25
     exact zx (nC c24.out) (ZE (zZ (zF ⟨Z,(nB hm25).symm,⟨φ17,Z,Z,le21,hS23⟩⟩)))
    ·intro c24 hm26
     refine ZC (nF (c24.out)) (sR fL2 Z (oA Z Z (oA Z Z (eN (zJ (zd ?_))))))
     have q:=wAq hm26
     obtain ⟨v27,hm28,e29⟩:=q
     obtain rfl:=wBl hm hx2 e29
     refine zI ?_
     have hS30:=hS23.nilrow 3 1
     cases hm28
     exact ⟨Z,_,(wKA Z Z),φ17,_,hS30,none,0,Z,Z⟩
  ·have hm32:=hx2;rw [if_neg c3] at hm32;replace c3:=zB c3
   refine zW Z Z Z (wT Z c3) Z Z (rU Z (wT Z c3) (Runs.neq Z Z Z) (oR Z (zm Z (wGe c3.out) Z) (oA Z Z (eN (ifc hm32 ?_ ?_)))))
   ·intro c33 hm34
    refine zx (ZL (fun h=>h c33.out)) (sR fL4 Z (oM Z Z (oR Z (zo Z Z ZI) (oR Z (Runs.gtr Z Z Z) (oA Z Z (eN (ifc hm34 ?_ ?_)))))))
    ·intro c35 hm36
     refine cT Z c35 (sR fL2 Z (oA Z Z (oA Z Z (eN (zJ (zd ?_))))))
     have q:=wAq hm36
     obtain ⟨v37,hm38,e39⟩:=q
     obtain rfl:=wBl hm hx2 e39
     refine zI ?_
     have hS40:=hS.nilrow 3 1
     cases hm38
     exact ⟨Z,_,(wKA Z Z),φ,_,hS40,none,0,Z,Z⟩
    ·intro c35 hm42
     refine cF Z c35 (sR (.fl 0 (.fx 1 (.fl 2 (.fl 3 (.nil))) .stop)) Z (oM Z Z ?_))
     have hF43:FnOK Tryz.prog φ (.func (.func 199) #[] #[]) wIZ wIa wAh:=⟨199,[],[],rfl,Tryz.call199,fun φ1 w1 x y vs le hs ha hm=>by obtain rfl:=ha;exact wDK x w1 φ1 hs  hm⟩
     refine bnK hm42 fun x44 h45 hm46=>zL 0 Z Z Z Z (zM Z Z Tryz.call198 (zC Z (zC Z zR)) Z) hS (fun hs=>wBu p1 pA1 pc1 wAh (.func (.func 199) #[] #[]) w φ hs ha0 hF43 h45) (.inr Z) ?_
     rintro φ47 L48 v49 W50 le51 hS52 ⟨rfl,rfl⟩
     have hS53:sW w φ φ47 [] W50:=hS52
     refine oR Z (ZH Z Z) (oA Z Z (eN (ifc hm46 ?_ ?_)))
     ·intro c54 hm55
      exact zx (nC c54.out) (ZE (zZ (zF ⟨Z,(nB hm55).symm,⟨φ47,Z,Z,le51,hS53⟩⟩)))
     ·intro c54 hm56
      refine ZC (nF (c54.out)) (sR fL2 Z (oA Z Z (oA Z Z (eN (zJ (zd ?_))))))
      have q:=wAq hm56
      obtain ⟨v57,hm58,e59⟩:=q
      obtain rfl:=wBl hm hx2 e59
      refine zI ?_
      have hS60:=hS53.nilrow 3 1
      cases hm58
      exact ⟨Z,_,(wKA Z Z),φ47,_,hS60,none,0,Z,Z⟩
   ·intro c33 hm62
    refine cT Z c33 (sR fL2 Z (oA Z Z (oA Z Z (eN (zJ (zd ?_))))))
    have q:=wAq hm62
    obtain ⟨v63,hm64,e65⟩:=q
    obtain rfl:=wBl hm hx2 e65
    refine zI ?_
    have hS66:=hS.nilrow 3 1
    cases hm64
    exact ⟨Z,_,(wKA Z Z),φ,_,hS66,none,0,Z,Z⟩
 ·rintro σ68 W69 ⟨er70,⟨φ71,f74,f75,le72,hS73⟩⟩
  have hm76:=wCr hm hx2 er70
  try dsimp only at hm76
  refine sR fL4 Z (oR Z (Runs.buildA (pv:=[(0,jV 225),(1,jV 575)]) (z:=[jV 0,jV 0]) (cs:=[jV 225,jV 575]) Z (wAT Z (wAT Z wBW)) Tryz.zeroValue249 Tryz.runUnderlying249 zD Z Z) (oM Z f74 (bnK hm76 fun x77 h78 hm79=>oR Z (Runs.ixA (cs:=nA KL.encI ([225,575]:List Int)) Z Z Z Tryz.runUnderlying249 zD (wDi h78) (wEN h78) (wEJ zK (wCs (sz:=1) (fun _=>Z) _ _ 0 _ _ (wAs h78) Z))) (oA Z Z (eN (sR (.fx 0 (.nil) .stop) Z (ZQ (cs:=nA KL.encT (Arr.fill 6 false).l) Z Z Z Z Z Tryz.zeroValue304 Z hS73 ?_)))))))
  intro W80 b81 hS82
  have hS84:sW w φ φ71 [.blk b81 304 (nA KL.encT (Arr.fill 6 false).l)] W80:=hS82
  refine eN (sR fL1 Z (oA Z Z (eN (sR fL1 Z (oA Z Z (eN (zG (sR fL3 Z (oM Z f75 (oR Z (zo Z Z ZI) (oM Z Z (eN (zS ?_)))))))))))))
  have q:=wCC hm79
  obtain ⟨r111,hX112⟩:=q
  have q:=wCP hX112
  obtain ⟨hle113,hf114⟩:=q
  replace hle113:=zB hle113
  refine CK.forN (fun k110 (a104,x105,l106) σ_ w_=>∃ (φ_:PHeap) (A107:Option Addr) (c108:Nat),σ_ 35=jV (↑k110:Int)/\σ_ 6=jV x77/\σ_ 7=.pointer (some ⟨b81,0,none⟩)/\σ_ 8=jV x105/\σ_ 9=.slice A107 l106.length c108/\σ_ 33=.slice pA1 p1.length pc1/\σ_ 34=jV (↑p1.length:Int)/\PHeap.Le φ71 φ_/\sW w φ φ_ [.blk b81 304 (nA KL.encT a104.l),.row A107 c108 3 1 (nA KL.encI l106)] w_) hf114 ?_ ?_ ?_
  ·have hS115:=hS84.nilrow 3 1
   exact ⟨φ71,none,0,rfl,rfl,rfl,rfl,rfl,rfl,rfl,(zO _),(hS115.pick [1,0] _ (by decide) rfl)⟩
  ·rintro k110 ⟨a104,x105,l106⟩ xx119 σ117 W118 hk122 ⟨φ124,A107,c108,fi123,f127,f128,f129,f130,f131,f132,le125,hS126⟩ hx120 hb121
   try dsimp only at hx120
   have c133:Hid ((↑k110:Int) < (↑p1.length:Int)):=zB (wBm hk122)
   replace hk122:=zB hk122
   have hi134:Hid (w64 ((↑k110:Int) + 1)=(↑(k110 + 1):Int)):=zB (by have h1:=hle113.out;have h2:=c133.out;rw [wAa] <;> omega)
   refine sR fL1 Z (oR Z (zU Z fi123 f132) (eN (zG (cT Z c133 (kN (zG (zS (sR (.fl 0 (.fl 1 (.fx 2 (.fx 3 (.nil) .stop) .stop))) Z (bnK hx120 fun x135 h136 hm137=>?_)))))))))
   have h138:=ha0.le le72
   have h139:=h138.le le125
   have q:=h139.el (fun _=>rfl) (wAs h136)
   obtain ⟨b140,off141,hA142,hC143⟩:=q
   refine oR Z (zy Z f131 hA142 fi123 ZI ZW (wCA h136)) (oL Z (hS126.ldCA (f:=0) hC143 Z Z Tryz.isAgg221 ZW (us:=[jV x135.X,jV x135.Y]) Z Z) (ZQ (cs:=[jV 0,jV 0]) Z Z Z Z Z Tryz.zeroValue221 Z hS126 ?_))
   intro W144 b145 hS146
   let B0:List Value:=[jV x135.X,jV x135.Y]
   refine OKS.st (j:=0) (vs:=B0) Z Z Z Z hS146 Z Z Z Z ZW (zY Z) Z Z Z ?_
   intro W148 hS149
   let B1:Res:=.row A107 c108 3 1 (nA KL.encI l106)
   have hS150:sW w φ φ124 [.blk b145 221 B0,.blk b81 304 (nA KL.encT a104.l),B1] W148:=hS149
   refine eN (zG (sR fL2 Z (oM Z f129 (oR Z (Runs.eql Z Z Z) (eN (ifc hm137 ?_ ?_))))))
   ·intro c151 hm152
    refine cT Z c151 (sR fL2 Z (oA Z Z (oA Z Z (eN (zJ (zI (zd (zI ?_))))))))
    have q:=wAq hm152
    obtain ⟨v153,hm154,e155⟩:=q
    obtain rfl:=wBl hm79 hX112 (hb121 v153 e155)
    refine zI (zd (zI ?_))
    have hS156:=hS150.nilrow 3 1
    cases hm154
    exact ⟨rfl,_,(wKA rfl rfl),φ124,_,(hS156.pick [0] _ (by decide) rfl),none,0,rfl,rfl⟩
   ·intro c151 hm158
    refine cF Z c151 (kN (sR fL1 Z (oA Z Z (eN (zG (sR fL1 Z (oA Z Z (eN (zS (bnK hm158 fun y170 hf167 hm166=>?_))))))))))
    have q:=wBx hf167
    obtain ⟨hle168,hf169⟩:=q
    replace hle168:=zB hle168
    refine CK.forN' (fun k165 x164 σ_ w_=>∃ (φ_:PHeap),σ_ 13=jV (1 + ↑k165:Int)/\σ_ 6=jV x77/\σ_ 7=.pointer (some ⟨b81,0,none⟩)/\σ_ 8=jV x105/\σ_ 9=.slice A107 l106.length c108/\σ_ 11=.pointer (some ⟨b145,0,none⟩)/\σ_ 12=jV x164/\σ_ 33=.slice pA1 p1.length pc1/\σ_ 34=jV (↑p1.length:Int)/\σ_ 35=jV (↑k110:Int)/\PHeap.Le φ124 φ_/\sW w φ φ_ [.blk b145 221 B0,.blk b81 304 (nA KL.encT a104.l),B1] w_) hf169 ?_ ?_ ?_
    ·exact ⟨φ124,Z,f127,f128,f129,f130,Z,Z,f131,f132,fi123,(zO _),hS150⟩
    ·rintro k165 x164 xx173 σ171 W172 hk176 ⟨φ178,fi177,f181,f182,f183,f184,f185,f186,f187,f188,f189,le179,hS180⟩ hx174
     have c190:Hid ((1 + ↑k165:Int) <= 5):=zB (lp_le hk176)
     replace hk176:=zB hk176
     have hi191:Hid (w64 ((1 + ↑k165:Int) + 1)=(1 + ↑(k165 + 1):Int)):=zB (by have h1:=hle168.out;have h2:=c190.out;rw [wAa] <;> omega)
     refine zG (sR fL2 Z (oM Z fi177 (oR Z (Runs.leq Z Z Z) (eN (cT Z c190 (kN (zG (zS (sR fL7 Z (oR Z (zN Z f185 ZT Z zD) (oL Z (hS180.ldB (j:=0) Z Z Z zK (v:=jV x135.X) Z) (oM Z fi177 (oR Z (Runs.subw Z Z Z) (oR Z (Zb Z Z Z) (oR Z (Runs.subw Z Z Z) (oA Z Z (eN (sR fL19 Z (oM Z fi177 (bnK hx174 fun _ h192 hm193=>oR Z (Runs.iaA Z f182 Z Tryz.runUnderlying304 ZX (wDg h192) (wDh h192)) ?_))))))))))))))))))))
     have hg194:=Arr.at_ a104 (k:=((1 + ↑k165:Int).toNat)) (by have hz0:=wAe h192;omega)
     refine zz rfl rfl rfl rfl (hS180.ldB (j:=1) rfl rfl rfl Tryz.isAgg4 (wAk (sz:=1) (fun _=>rfl) _ _ 0 _ hg194 (by first | omega | rfl | simp) rfl)) rfl (zk rfl rfl rfl rfl (fun _=>ZH rfl rfl) (zW rfl rfl rfl rfl rfl rfl (ifc hm193 ?_ ?_)))
     ·intro c195 hm196
      refine zP Z Z Z (zg Z Z (nC c195.out) Z) (zP Z Z Z (zg Z Z (nC c195.out) Z) (zP Z Z Z (zg Z Z (nC c195.out) Z) (zP Z Z Z (zg Z Z (nC c195.out) Z) (zP Z Z Z (zg Z Z (nC c195.out) Z) (zP Z Z Z (zg Z Z (nC c195.out) Z) (zP Z Z Z (zg Z Z (nC c195.out) Z) (zP Z Z Z (zg Z Z (nC c195.out) Z) (zP Z Z Z (zg Z Z (nC c195.out) Z) (zP Z Z Z (zg Z Z (nC c195.out) Z) (zP Z Z Z (zg Z Z (nC c195.out) Z) (zP Z Z Z (zg Z Z (nC c195.out) Z) (zP Z Z Z (zg Z Z (nC c195.out) Z) (oR Z (zr Z (nC c195.out) Z) (eN (zx Z (ZE (zZ (zF (rR fL3 Z (oM Z fi177 (oR Z (zt (zQ Z Z Z) (congrArg (jV) hi191.out)) (oA Z Z (zq ?_)))))))))))))))))))))))
      cases hm196
      exact zF ⟨Z,⟨φ178,Z,f181,f182,f183,f184,f185,f186,f187,f188,f189,le179,hS180⟩⟩
     ·intro c195 hm198
      refine zW Z Z Z (zX Z Z (nF (c195.out))) Z Z (zW Z Z Z (zX Z Z (nF (c195.out))) Z Z (zk Z Z Z (zX Z Z (nF (c195.out))) (fun _=>Zb Z Z Z) (zk Z Z Z (zX Z Z (nF (c195.out))) (fun _=>zN Z f185 ZT Z zD) (zz Z Z Z (zX Z Z (nF (c195.out))) (hS180.ldB (j:=0) Z Z Z zK (v:=jV x135.Y) Z) Z (zk Z Z Z (zX Z Z (nF (c195.out))) (fun _=>zN Z f185 ZT Z zD) (zz Z Z Z (zX Z Z (nF (c195.out))) (hS180.ldB (j:=0) Z Z Z zK (v:=jV x135.Y) Z) Z (zk Z Z Z (zX Z Z (nF (c195.out))) (fun _=>Zb Z Z Z) (zk Z Z Z (zX Z Z (nF (c195.out))) (fun _=>zQ Z Z Z) (zW Z Z Z (zX Z Z (nF (c195.out))) Z f181 (zW Z Z Z (zX Z Z (nF (c195.out))) Z f181 (zk Z Z Z (zX Z Z (nF (c195.out))) (fun _=>Zb Z Z Z) (zk Z Z Z (zX Z Z (nF (c195.out))) (fun _=>Runs.leq Z Z Z) (oR Z (zm Z (nF (c195.out)) Z) (eN (ifc hm198 ?_ ?_)))))))))))))))
      ·intro c199 hm200
       refine cT Z c199 (rR fL2 Z (oM Z fi177 (oA Z Z (zq (zZ (zF (rR fL3 Z (oM Z fi177 (oR Z (zt (zQ Z Z Z) (congrArg (jV) hi191.out)) (oA Z Z (zq ?_)))))))))))
       cases hm200
       exact zF ⟨Z,⟨φ178,Z,f181,f182,f183,f184,f185,Z,f187,f188,f189,le179,hS180⟩⟩
      ·intro c199 hm202
       refine cF Z c199 (ZE (zZ (zF (rR fL3 Z (oM Z fi177 (oR Z (zt (zQ Z Z Z) (congrArg (jV) hi191.out)) (oA Z Z (zq ?_))))))))
       cases hm202
       exact zF ⟨Z,⟨φ178,Z,f181,f182,f183,f184,f185,f186,f187,f188,f189,le179,hS180⟩⟩
    ·rintro σ204 W205 ⟨φ209,fi207,f212,f213,f214,f215,f216,f217,f218,f219,f220,le210,hS211⟩
     have c221:Hid (¬ ((1 + ↑(((5 + 1):Int) - 1).toNat:Int) <= 5)):=zB (wKI)
     refine zG (sR fL2 Z (oM Z fi207 (oR Z (Runs.leq Z Z Z) (eN (cF Z c221 (ZD (zf (zf (ZB (zF (zG (sR fL2 Z (oM Z f217 (oR Z (Runs.gtr Z Z Z) (eN (ifc hm166 ?_ ?_))))))))))))))))
     ·intro c222 hm223
      refine cT Z c222 (sR (.fl 0 (.fl 1 (.fx 2 (.nil) .stop))) Z (oM Z f217 (bnK hm223 fun _ h224 hm225=>oR Z (Runs.iaA Z f213 Z Tryz.runUnderlying304 ZX (wDg h224) (wDh h224)) ?_)))
      have hg226:=Arr.at_ a104 (k:=y170.toNat) (by have hz0:=wAe h224;omega)
      refine OKS.st (j:=1) (vs:=[.bool true]) (cs':=nA KL.encT (a104.set y170.toNat true).l) rfl rfl rfl rfl hS211 rfl rfl rfl rfl ZX (by have hz0:=wAe h224;simp only [nN,List.length_cons,List.length_nil,wKL (f:=KL.encT) (sz:=1) (N:=6) a104 (fun _=>rfl) rfl];omega) rfl (wFO (sz:=1) (fo:=0) (fun _=>rfl) _ _ _ _ hg226 (by first | omega | rfl | simp) (zY rfl) rfl) rfl ?_
      intro W227 hS228
      have hS229:sW w φ φ209 [.blk b145 221 B0,.blk b81 304 (nA KL.encT (a104.set y170.toNat true).l),B1] W227:=hS228
      refine eN (rR fL3 Z (oM Z f214 (oR Z (zQ Z Z Z) (oA Z Z (eN (rR (.fl 0 (.fl 1 (.fx 2 (.fx 3 (.fl 4 (.nil)) .stop) .stop))) Z (oM Z f215 (oM Z f217 (ZJ (pv:=[(0,jV y170)]) (zs:=[jV 0]) (cs:=[jV y170]) Z Z Z Z Z (wAT Z wBW) zA zD ZU Z Z Z Z Z hS229 ?_)))))))))
      intro W230 b231 hS232
      let B2:Res:=.row (some ⟨b231,0,none⟩) 1 3 1 (nA KL.encI [y170])
      have hS234:sW w φ φ209 [B2,.blk b145 221 B0,.blk b81 304 (nA KL.encT (a104.set y170.toNat true).l),B1] W230:=hS232
      refine bnK hm225 fun x235 h236 hm237=>ZP (j:=3) (enc:=KL.encI) (xs:=l106) (ys:=[y170]) (zs:=x235) rfl rfl rfl rfl rfl ZK wEh rfl rfl rfl rfl rfl rfl hS234 rfl rfl rfl (hS234.srcR (j:=0) rfl (by decide) (wAG (f:=KL.encI) (sz:=1) (fun _=>rfl) [y170])) (fun _=>rfl) (fun _=>rfl) h236 rfl ?_
      intro A238 c239 W240 hS241
      have hS242:sW w φ φ209 [B2,.blk b145 221 B0,.blk b81 304 (nA KL.encT (a104.set y170.toNat true).l),.row A238 c239 3 1 (nA KL.encI x235)] W240:=hS241
      refine oA Z Z (zq (zZ (zF (rR fL2 Z (oR Z (zt (zQ Z f220 Z) (congrArg (jV) hi134.out)) (oM Z Z (zq ?_)))))))
      obtain rfl:=nB hm237
      exact zF ⟨rfl,_,rfl,⟨φ209,A238,c239,rfl,f212,f213,rfl,rfl,f218,f219,(le125.trans le210),(hS242.pick [2,3] _ (by decide) rfl)⟩⟩
     ·intro c222 hm248
      refine cF Z c222 (kN (rR (.fl 0 (.fl 1 (.fx 2 (.fx 3 (.fl 4 (.nil)) .stop) .stop))) Z (oM Z f215 (oM Z f217 (ZJ (pv:=[(0,jV y170)]) (zs:=[jV 0]) (cs:=[jV y170]) Z Z Z Z Z (wAT Z wBW) zA zD ZU Z Z Z Z Z hS211 ?_)))))
      intro W249 b250 hS251
      let B3:Res:=.row (some ⟨b250,0,none⟩) 1 3 1 (nA KL.encI [y170])
      have hS253:sW w φ φ209 [B3,.blk b145 221 B0,.blk b81 304 (nA KL.encT a104.l),B1] W249:=hS251
      refine bnK hm248 fun x254 h255 hm256=>ZP (j:=3) (enc:=KL.encI) (xs:=l106) (ys:=[y170]) (zs:=x254) rfl rfl rfl rfl rfl ZK wEh rfl rfl rfl rfl rfl rfl hS253 rfl rfl rfl (hS253.srcR (j:=0) rfl (by decide) (wAG (f:=KL.encI) (sz:=1) (fun _=>rfl) [y170])) (fun _=>rfl) (fun _=>rfl) h255 rfl ?_
      intro A257 c258 W259 hS260
      have hS261:sW w φ φ209 [B3,.blk b145 221 B0,.blk b81 304 (nA KL.encT a104.l),.row A257 c258 3 1 (nA KL.encI x254)] W259:=hS260
      refine oA Z Z (zq (zZ (zF (rR fL2 Z (oR Z (zt (zQ Z f220 Z) (congrArg (jV) hi134.out)) (oM Z Z (zq ?_)))))))
      obtain rfl:=nB hm256
      exact zF ⟨rfl,_,rfl,⟨φ209,A257,c258,rfl,f212,f213,f214,rfl,f218,f219,(le125.trans le210),(hS261.pick [2,3] _ (by decide) rfl)⟩⟩
  ·rintro ⟨y271,y272,y273⟩ σ267 W268 ⟨φ276,A274,c275,fi270,f279,f280,f281,f282,f283,f284,le277,hS278⟩ hb269
   have hm285:=wCr hm79 hX112 hb269
   try dsimp only at hm285
   have c286:Hid (¬ ((↑(((↑p1.length:Int):Int) - 0).toNat:Int) < (↑p1.length:Int))):=zB (wBO)
   refine sR fL1 Z (oR Z (zU Z fi270 f284) (eN (zG (cF Z c286 (ZD (zf (zf (ZB (zF (sR fL3 Z (oM Z f282 (oA Z Z (oA Z Z (eN (zJ ?_)))))))))))))))
   cases hm285
   exact ⟨rfl,_,(wKA rfl rfl),φ276,_,(hS278.pick [1] _ (by decide) rfl),A274,c275,rfl,rfl⟩
end Go.Proofs.YtglpalgiipahjaaGreat
namespace Go.Proofs.YtglpalgiipahjaaGreat
open Go.KL
set_option maxHeartbeats 4000000
theorem wGD (p0:Int) (p1:List wAD) (pA1:Option Addr) (pc1:Nat) (w:World) (φ:PHeap) (hS:St0 w φ []) (ha0:Sl φ 2 pA1 pc1 p1.length (nA wAP p1)) {r:Int × Int} (hm:wBb p0 p1=some r):Gv Tryz.prog 65 [jV p0,.slice pA1 p1.length pc1] w (wCN w [] φ (fun φ_ L_ v=>v=.tuple #[jV r.1,jV r.2]/\L_=[])):=by
 unfold wBb at hm
 refine Gv.of Tryz.func65 Z Tryz.ntmps65 Tryz.results65 Z (sR fL2 Z (oA Z Z (oA Z Z (eN (sR (.fl 0 (.fl 1 (.fx 2 (fC3_7 (.nil)) .stop))) Z (oM Z Z (oM Z Z ?_)))))))
 have q:=bnd hm
 obtain ⟨⟨x1,x2⟩,h3,hm4⟩:=q
 try dsimp only at hm4
 refine zL 0 Z Z Z Z (zM Z Z Tryz.call128 (zC Z (zC Z zR)) Z) hS (fun hs=>wGC p0 p1 pA1 pc1 w φ hs ha0 h3) (.inr Z) ?_
 rintro φ5 L6 v7 W8 le9 hS10 ⟨A11,c12,rfl,rfl⟩
 let B0:Res:=.row A11 c12 3 1 (nA KL.encI x1)
 have hS14:sW w φ φ5 [B0] W8:=hS10
 refine oM Z Z (oR Z (Runs.ext Z Z (v:=.slice A11 x1.length c12) Z) (oR Z (Runs.ext Z Z (v:=jV x2) Z) (oA Z Z (oA Z Z (eN (zG (sR fL2 Z (oM Z Z (oR Z (Runs.neq Z Z Z) (eN (ifc hm4 ?_ ?_)))))))))))
 ·intro c15 hm16
  refine zx (ZL (fun h=>h c15.out)) (kN (sR fL1 Z (oA Z Z (eN (zG (sR fL3 Z (oM Z Z (oR Z (zo Z Z zA) (oM Z Z (eN (zS (bnK hm16 fun y28 hf25 hm24=>?_))))))))))))
  have q:=wBx hf25
  obtain ⟨hle26,hf27⟩:=q
  replace hle26:=zB hle26
  refine CK.forN' (fun k23 x22 σ_ w_=>∃ (φ_:PHeap),σ_ 22=jV (↑k23:Int)/\σ_ 8=jV x22/\σ_ 20=.slice A11 x1.length c12/\σ_ 21=jV (↑x1.length:Int)/\PHeap.Le φ5 φ_/\sW w φ φ_ [B0] w_) hf27 ?_ ?_ ?_
  ·exact ⟨φ5,Z,Z,Z,Z,(zO _),hS14⟩
  ·rintro k23 x22 xx31 σ29 W30 hk34 ⟨φ36,fi35,f39,f40,f41,le37,hS38⟩ hx32
   have c42:Hid ((↑k23:Int) < (↑x1.length:Int)):=zB (wBm hk34)
   replace hk34:=zB hk34
   have hi43:Hid (w64 ((↑k23:Int) + 1)=(↑(k23 + 1):Int)):=zB (by have h1:=hle26.out;have h2:=c42.out;rw [wAa] <;> omega)
   refine sR fL1 Z (oR Z (zU Z fi35 f41) (eN (zG (cT Z c42 (kN (zG (zS (sR fL3 Z (bnK hx32 fun _ h44 hm45=>?_)))))))))
   obtain ⟨b46,hA47⟩:=hS38.rowSome (j:=0) rfl (by rw [wAG (f:=KL.encI) (sz:=1) (fun _=>rfl) x1];have hz:=wAe h44;omega)
   refine oR Z (zy Z f40 hA47 fi35 zA zD (wAe h44)) ?_
   have hg48:=wBh (xs:=x1) (wAe h44)
   refine zz rfl rfl rfl rfl (hS38.ldR (j:=0) rfl hA47 rfl rfl zK (wAk (sz:=1) (fun _=>rfl) _ _ 0 _ hg48 (by first | omega | rfl | simp) rfl)) rfl (OKS.ra rfl rfl rfl rfl rfl rfl (eN (sR fL2 rfl (zW rfl rfl rfl rfl rfl rfl (zk rfl rfl rfl rfl (fun _=>Runs.gtr rfl rfl rfl) (eN (ifc hm45 ?_ ?_)))))))
   ·intro c49 hm50
    refine cT Z c49 (rR fL3 Z (oM Z f39 (oR Z (Runs.subw Z Z Z) (oA Z Z (zq (zZ (zF (rR fL2 Z (oR Z (zt (zQ Z fi35 Z) (congrArg (jV) hi43.out)) (oM Z Z (zq ?_)))))))))))
    cases hm50
    exact zF ⟨Z,⟨φ36,Z,Z,f40,f41,le37,hS38⟩⟩
   ·intro c49 hm52
    refine cF Z c49 (ZE (zZ (zF (rR fL2 Z (oR Z (zt (zQ Z fi35 Z) (congrArg (jV) hi43.out)) (oM Z Z (zq ?_)))))))
    cases hm52
    exact zF ⟨Z,⟨φ36,Z,f39,f40,f41,le37,hS38⟩⟩
  ·rintro σ54 W55 ⟨φ59,fi57,f62,f63,f64,le60,hS61⟩
   have c65:Hid (¬ ((↑(((↑x1.length:Int):Int) - 0).toNat:Int) < (↑x1.length:Int))):=zB (wBO)
   refine sR fL1 Z (oR Z (zU Z fi57 f64) (eN (zG (cF Z c65 (ZD (zf (zf (ZB (zF (sR fL3 Z (oM Z f62 (oA Z Z (oA Z Z (eN (zJ ?_)))))))))))))))
   cases hm24
   exact ⟨rfl,_,(wKA rfl rfl),φ59,_,(hS61.pick [] _ (by decide) rfl),rfl,rfl⟩
 ·intro c15 hm66
  refine cT Z c15 (sR fL3 Z (oM Z Z (oA Z Z (oA Z Z (eN (zJ (zI ?_)))))))
  cases hm66
  exact ⟨rfl,_,(wKA rfl rfl),φ5,_,(hS14.pick [] _ (by decide) rfl),rfl,rfl⟩
theorem wDM (p0:List Int) (pA0:Option Addr) (pc0:Nat) (w:World) (φ:PHeap) (hS:St0 w φ []) (ha0:Sl φ 1 pA0 pc0 p0.length (nA KL.encI p0)) {r:(List Int)} (hm:wAr p0=some r):Gv Tryz.prog 50 [.slice pA0 p0.length pc0] w (wCN w [] φ (fun φ_ L_ v=>∃ (A0:Option Addr) (c0:Nat),v=.slice A0 r.length c0/\L_=[.row A0 c0 3 1 (nA KL.encI r)])):=by
 unfold wAr at hm
 refine Gv.of Tryz.func50 Z Tryz.ntmps50 Tryz.results50 Z (sR fL1 Z (oA Z Z (eN (sR (.fl 0 (.fx 1 (.fl 2 (.nil)) .stop)) Z (oM Z Z ?_)))))
 have hS1:=hS.nilrow 3 1
 have hS3:sW w φ φ [.row none 0 3 1 (nA KL.encI ([]:List Int))] w:=hS1
 refine bnK hm fun x4 h5 hm6=>ZP (j:=0) (enc:=KL.encI) (xs:=([]:List Int)) (ys:=p0) (zs:=x4) Z Z Z Z Z ZK wEh Z Z Z Z Z Z hS3 Z Z Z (hS3.srcS ha0) (fun _=>Z) (fun _=>Z) h5 Z ?_
 intro A7 c8 W9 hS10
 have hS11:sW w φ φ [.row A7 c8 3 1 (nA KL.encI x4)] W9:=hS10
 refine oA Z Z (eN (zJ ?_))
 have hE:=nB hm6;first | subst r | cases hE
 exact ⟨Z,_,(zn Z),φ,_,hS11,A7,c8,Z,Z⟩
theorem wBo (p0:List (List Int)) (pA0:Option Addr) (pc0:Nat) (w:World) (φ:PHeap) (hS:St0 w φ []) (ha0:SlR φ wHZ pA0 pc0 p0) {r:(List (List Int))} (hm:wAY p0=some r):Gv Tryz.prog 67 [.slice pA0 p0.length pc0] w (wCN w [] φ (fun φ_ L_ v=>∃ (A0:Option Addr) (c0:Nat) (hs0:List Hd),v=.slice A0 r.length c0/\L_=[.row A0 c0 22 1 (nA wCm hs0),inn 3 1 KL.encI hs0 r])):=by
 unfold wAY at hm
 refine Gv.of Tryz.func67 Z Tryz.ntmps67 Tryz.results67 Z (sR fL1 Z (oA Z Z (eN (sR fL1 Z (oA Z Z (eN (zG (sR fL3 Z (oM Z Z (oR Z (zo Z Z ze) (oM Z Z (eN (zS (bnK hm fun y29 hf26 hm25=>?_))))))))))))))
 have q:=wBx hf26
 obtain ⟨hle27,hf28⟩:=q
 replace hle27:=zB hle27
 refine CK.forN' (fun k24 l18 σ_ w_=>∃ (φ_:PHeap) (A19:Option Addr) (c20:Nat) (hs23:List Hd),σ_ 8=jV (↑k24:Int)/\σ_ 3=.slice A19 l18.length c20/\σ_ 6=.slice pA0 p0.length pc0/\σ_ 7=jV (↑p0.length:Int)/\PHeap.Le φ φ_/\sW w φ φ_ [.row A19 c20 22 1 (nA wCm hs23),inn 3 1 KL.encI hs23 l18] w_) hf28 ?_ ?_ ?_
 ·have hS30:=hS.nilrow 22 1
  have hS32:=hS30.innNil 3 1 KL.encI
  have hS34:sW w φ φ [inn 3 1 KL.encI ([]:List Hd) ([]:List (List Int)),.row none 0 22 1 []] w:=hS32
  exact ⟨φ,none,0,[],rfl,rfl,rfl,rfl,(zO _),(hS34.pick [1,0] _ (by decide) rfl)⟩
 ·rintro k24 l18 xx37 σ35 W36 hk40 ⟨φ42,A19,c20,hs23,fi41,f45,f46,f47,le43,hS44⟩ hx38
  have c48:Hid ((↑k24:Int) < (↑p0.length:Int)):=zB (wBm hk40)
  replace hk40:=zB hk40
  have hi49:Hid (w64 ((↑k24:Int) + 1)=(↑(k24 + 1):Int)):=zB (by have h1:=hle27.out;have h2:=c48.out;rw [wAa] <;> omega)
  refine sR fL1 Z (oR Z (zU Z fi41 f47) (eN (zG (cT Z c48 (kN (zG (zS (sR fL3 Z (bnK hx38 fun x50 h51 hm52=>?_)))))))))
  have h53:=ha0.le le43
  have q:=h53.el (wAs h51)
  obtain ⟨b54,off55,vs58,hA56,hC57,hr59⟩:=q
  obtain ⟨pA60,pc61,rfl,h62⟩:=hr59
  replace hC57:Cl φ42 b54 (off55 + k24 * 1) [.slice pA60 x50.length pc61]:=hC57
  refine oR Z (zy Z f46 hA56 fi41 ze zV (wCA h51)) (oL Z (hS44.ldC (f:=0) hC57 (v:=.slice pA60 x50.length pc61) Z Z zj Z) (oA Z Z (eN (rR (.fl 0 (.fl 1 (.fx 2 (.fx 3 (.fx 4 (.fl 5 (.nil)) .stop) .stop) .stop))) Z (oM Z f45 (oM Z Z (bnK hm52 fun x63 h64 hm65=>zL 0 Z Z Z Z (zM Z Z Tryz.call50 (zC Z zR) Z) hS44 (fun hs=>wDM x50 pA60 pc61 W36 φ42 hs h62 h64) (.inr Z) ?_)))))))
  rintro φ66 L67 v68 W69 le70 hS71 ⟨A72,c73,rfl,rfl⟩
  let B0:Res:=.row A19 c20 22 1 (nA wCm hs23)
  let B1:Res:=.row A72 c73 3 1 (nA KL.encI x63)
  have hS75:sW w φ φ66 [B1,B0,inn 3 1 KL.encI hs23 l18] W69:=hS71
  let B2:List Value:=[.slice A72 x63.length c73]
  refine ZJ (pv:=[(0,.slice A72 x63.length c73)]) (zs:=[.slice none 0 0]) (cs:=B2) Z Z Z Z Z (wAT Z wBW) ze zV Tryz.zeroValue22 Z Z Z Z Z hS75 ?_
  intro W79 b80 hS81
  let B3:Res:=.row (some ⟨b80,0,none⟩) 1 22 1 B2
  have hS83:sW w φ φ66 [B3,B1,B0,inn 3 1 KL.encI hs23 l18] W79:=hS81
  have hS84:sW w φ φ66 [B1,B3,B0,inn 3 1 KL.encI hs23 l18] W79:=hS83.pick [1,0,2,3] _ (by decide) rfl
  have hS85:=hS84.innOne
  let B4:Res:=.row (some ⟨b80,0,none⟩) 1 22 1 (nA wCm [(⟨A72,x63.length,c73⟩:Hd)])
  have hS87:sW w φ φ66 [inn 3 1 KL.encI [(⟨A72,x63.length,c73⟩:Hd)] [x63],B4,B0,inn 3 1 KL.encI hs23 l18] W79:=hS85
  refine bnK hm65 fun x88 h89 hm90=>?_
  have hf91:=hS87.innFit (j:=3) rfl
  have hf92:=hS87.innFit (j:=0) rfl
  have q:=wNJ h89 hf91 hf92
  obtain ⟨ha93,hz94⟩:=q
  refine ZP (j:=2) (enc:=wCm) (xs:=hs23) (ys:=[(⟨A72,x63.length,c73⟩:Hd)]) rfl rfl rfl rfl rfl Tryz.underlying46 wNS rfl rfl rfl rfl rfl rfl hS87 rfl (slen rfl hf91) (slen rfl hf92) (hS87.srcR (j:=1) rfl (by decide) (wAG (f:=wCm) (sz:=1) (fun _=>rfl) [(⟨A72,x63.length,c73⟩:Hd)])) (fun _=>rfl) (fun _=>rfl) ha93 rfl ?_
  intro A95 c96 W97 hS98
  have hl99:(hs23 ++ [(⟨A72,x63.length,c73⟩:Hd)]:List Hd).length=x88.length:=by rw [hz94,nN,nN,hf91.len,hf92.len]
  rw [hl99]
  let B5:Res:=.row A95 c96 22 1 (nA wCm (hs23 ++ [(⟨A72,x63.length,c73⟩:Hd)]:List Hd))
  have hS101:sW w φ φ66 [inn 3 1 KL.encI [(⟨A72,x63.length,c73⟩:Hd)] [x63],B4,B5,inn 3 1 KL.encI hs23 l18] W97:=hS98
  have hS102:sW w φ φ66 [inn 3 1 KL.encI hs23 l18,inn 3 1 KL.encI [(⟨A72,x63.length,c73⟩:Hd)] [x63],B4,B5] W97:=hS101.pick [3,0,1,2] _ (by decide) rfl
  have hS100:=hS102.innApp
  rw [<- hz94] at hS100
  have hS103:sW w φ φ66 [inn 3 1 KL.encI (hs23 ++ [(⟨A72,x63.length,c73⟩:Hd)]:List Hd) x88,B4,B5] W97:=hS100
  have hS104:=hS103.drop 1
  have hS105:sW w φ φ66 [inn 3 1 KL.encI (hs23 ++ [(⟨A72,x63.length,c73⟩:Hd)]:List Hd) x88,B5] W97:=hS104
  refine oA Z Z (zq (zZ (zF (rR fL2 Z (oR Z (zt (zQ Z fi41 Z) (congrArg (jV) hi49.out)) (oM Z Z (zq ?_)))))))
  cases hm90
  exact zF ⟨rfl,⟨φ66,A95,c96,(hs23 ++ [(⟨A72,x63.length,c73⟩:Hd)]:List Hd),rfl,rfl,f46,f47,(le43.trans le70),(hS105.pick [1,0] _ (by decide) rfl)⟩⟩
 ·rintro σ110 W111 ⟨φ121,A118,c119,h120,fi113,f124,f125,f126,le122,hS123⟩
  have c127:Hid (¬ ((↑(((↑p0.length:Int):Int) - 0).toNat:Int) < (↑p0.length:Int))):=zB (wBO)
  refine sR fL1 Z (oR Z (zU Z fi113 f126) (eN (zG (cF Z c127 (ZD (zf (zf (ZB (zF (sR fL2 Z (oM Z f124 (oA Z Z (eN (zJ ?_))))))))))))))
  have hE:=nB hm25;first | subst r | cases hE
  exact ⟨Z,_,(zn Z),φ121,_,hS123,A118,c119,h120,Z,Z⟩
theorem wEi (p0:Int) (p1:Int) (p2:Int) (w:World) (φ:PHeap) (hS:St0 w φ [])  {r:Bool} (hm:wCE p0 p1 p2=some r):Gv Tryz.prog 142 [jV p0,jV p1,jV p2] w (wCN w [] φ (fun φ_ L_ v=>v=.bool r/\L_=[])):=by
 unfold wCE at hm
 refine Gv.of Tryz.func142 Z Tryz.ntmps142 Tryz.results142 Z (sR fL1 Z (oA Z Z (eN (sR fL9 Z (oM Z Z (oM Z Z (oR Z (Runs.geq Z Z Z) (oM Z Z ?_))))))))
 by_cases c1:p1 <= p0
 ·have hm2:=hm;rw [if_pos c1] at hm2;replace c1:=zB c1
  refine zW Z Z Z (wT Z c1) Z Z (zW Z Z Z (wT Z c1) Z Z (rU Z (wT Z c1) (Runs.leq Z Z Z) (oR Z (zm Z (wGe c1.out) Z) (oA Z Z (eN (zJ ?_))))))
  cases hm2
  exact ⟨Z,_,(zn Z),φ,_,hS,Z,Z⟩
 ·have hm3:=hm;rw [if_neg c1] at hm3;replace c1:=zB c1
  refine oF Z c1 (oF Z c1 (oF Z c1 (oR Z (zr Z (ZL c1.out) Z) (oA Z Z (eN (zJ ?_))))))
  have hE:=nB hm3;first | subst r | cases hE
  exact ⟨Z,_,(zn Z),φ,_,hS,Z,Z⟩
theorem wEC (p0:List Int) (pA0:Option Addr) (pc0:Nat) (p1:wAE) (pb1:Nat) (pA1_1:Option Addr) (pc1_1:Nat) (pA1_2:Option Addr) (pc1_2:Nat) (w:World) (φ:PHeap) (hS:St0 w φ []) (ha0:Sl φ 1 pA0 pc0 p0.length (nA KL.encI p0)) (ha1:Cl φ pb1 0 [jV p1.Laps,.slice pA1_1 p1.Bibs.length pc1_1,.slice pA1_2 p1.Times.length pc1_2]) (ha2:Sl φ 1 pA1_1 pc1_1 p1.Bibs.length (nA KL.encI p1.Bibs)) (ha3:SlR φ wHZ pA1_2 pc1_2 p1.Times) {r:Bool} (hm:wAu p0 p1=some r):Gv Tryz.prog 179 [.slice pA0 p0.length pc0,.pointer (some ⟨pb1,0,none⟩)] w (wCN w [] φ (fun φ_ L_ v=>v=.bool r/\L_=[])):=by
 unfold wAu at hm
 refine Gv.of Tryz.func179 Z Tryz.ntmps179 Tryz.results179 Z (sR fL1 Z (oA Z Z (eN (sR fL6 Z (oM Z Z (oR Z (zo Z Z zA) (oR Z (zN Z Z zH Z zD) (oL Z (hS.ldC (f:=0) ha1 (v:=jV p1.Laps) Z Z zK Z) (oR Z (Runs.leq Z Z Z) (oA Z Z (eN (zJ ?_))))))))))))
 cases hm
 exact ⟨Z,_,(zn Z),φ,_,hS,Z,Z⟩
theorem wDX (p0:List (List Int)) (pA0:Option Addr) (pc0:Nat) (p1:((List Int)->Option Bool)) (pv1:Value) (w:World) (φ:PHeap) (hS:St0 w φ []) (ha0:SlR φ wHZ pA0 pc0 p0) (ha1:FnOK Tryz.prog φ pv1 wOc wOd p1) {r:Bool} (hm:wBR p0 p1=some r):Gv Tryz.prog 178 [.slice pA0 p0.length pc0,pv1] w (wCN w [] φ (fun φ_ L_ v=>v=.bool r/\L_=[])):=by
 unfold wBR at hm
 refine Gv.of Tryz.func178 Z Tryz.ntmps178 Tryz.results178 Z (sR fL1 Z (oA Z Z (eN (zG (sR fL3 Z (oM Z Z (oR Z (zo Z Z ze) (oM Z Z (eN (zS ?_))))))))))
 have q:=wCC hm
 obtain ⟨r3,hX4⟩:=q
 have q:=wCP hX4
 obtain ⟨hle5,hf6⟩:=q
 replace hle5:=zB hle5
 refine CK.forN (fun k2 _ σ_ w_=>∃ (φ_:PHeap),σ_ 9=jV (↑k2:Int)/\σ_ 1=pv1/\σ_ 7=.slice pA0 p0.length pc0/\σ_ 8=jV (↑p0.length:Int)/\PHeap.Le φ φ_/\sW w φ φ_ [] w_) hf6 ?_ ?_ ?_
 ·exact ⟨φ,Z,Z,Z,Z,(zO _),hS⟩
 ·rintro k2 ⟨⟩ xx9 σ7 W8 hk12 ⟨φ14,fi13,f17,f18,f19,le15,hS16⟩ hx10 hb11
  try dsimp only at hx10
  have c20:Hid ((↑k2:Int) < (↑p0.length:Int)):=zB (wBm hk12)
  replace hk12:=zB hk12
  have hi21:Hid (w64 ((↑k2:Int) + 1)=(↑(k2 + 1):Int)):=zB (by have h1:=hle5.out;have h2:=c20.out;rw [wAa] <;> omega)
  refine sR fL1 Z (oR Z (zU Z fi13 f19) (eN (zG (cT Z c20 (kN (zG (zS (sR fL3 Z (bnK hx10 fun x22 h23 hm24=>?_)))))))))
  have h25:=ha0.le le15
  have q:=h25.el (wAs h23)
  obtain ⟨b26,off27,vs30,hA28,hC29,hr31⟩:=q
  obtain ⟨pA32,pc33,rfl,h34⟩:=hr31
  replace hC29:Cl φ14 b26 (off27 + k2 * 1) [.slice pA32 x22.length pc33]:=hC29
  refine oR Z (zy Z f18 hA28 fi13 ze zV (wCA h23)) (oL Z (hS16.ldC (f:=0) hC29 (v:=.slice pA32 x22.length pc33) Z Z zj Z) (oA Z Z (eN (sR (.fl 0 (.fl 1 (.fx 2 (.fl 3 (.nil)) .stop))) Z (oM Z f17 (oM Z Z (bnK hm24 fun x35 h36 hm37=>?_)))))))
  have h44:=ha1.le le15
  refine OKS.callV (a:=x22) Z Z Z Z Z Z (zC Z zR) hS16 h44 ⟨pA32,pc33,Z,h34⟩ h36 ?_
  rintro φ38 L39 v40 W41 le42 hS43 ⟨rfl,rfl⟩
  have hS45:sW w φ φ38 [] W41:=hS43
  refine oR Z (ZH Z Z) (eN (ifc hm37 ?_ ?_))
  ·intro c46 hm47
   refine zx (nC c46.out) (ZE (zZ (zF (rR fL2 Z (oR Z (zt (zQ Z fi13 Z) (congrArg (jV) hi21.out)) (oM Z Z (zq ?_)))))))
   obtain rfl:=nB hm47
   exact zF ⟨Z,_,Z,⟨φ38,Z,f17,f18,f19,(le15.trans le42),hS45⟩⟩
  ·intro c46 hm48
   refine ZC (nF (c46.out)) (sR fL1 Z (oA Z Z (eN (zJ (zd (zI ?_))))))
   have q:=wAq hm48
   obtain ⟨v49,hm50,e51⟩:=q
   obtain rfl:=wBl hm hX4 (hb11 v49 e51)
   refine zI (zd (zI ?_))
   have hE:=nB hm50;first | subst r | cases hE
   exact ⟨Z,_,(zn Z),φ38,_,hS45,Z,Z⟩
 ·rintro ⟨⟩ σ52 W53 ⟨φ56,fi55,f59,f60,f61,le57,hS58⟩ hb54
  have hm62:=wCr hm hX4 hb54
  try dsimp only at hm62
  have c63:Hid (¬ ((↑(((↑p0.length:Int):Int) - 0).toNat:Int) < (↑p0.length:Int))):=zB (wBO)
  refine sR fL1 Z (oR Z (zU Z fi55 f61) (eN (zG (cF Z c63 (ZD (zf (zf (ZB (zF (sR fL1 Z (oA Z Z (eN (zJ ?_)))))))))))))
  have hE:=nB hm62;first | subst r | cases hE
  exact ⟨Z,_,(zn Z),φ56,_,hS58,Z,Z⟩
theorem wCb (p0:List Int) (pA0:Option Addr) (pc0:Nat) (p1:(Int->Option Bool)) (pv1:Value) (w:World) (φ:PHeap) (hS:St0 w φ []) (ha0:Sl φ 1 pA0 pc0 p0.length (nA KL.encI p0)) (ha1:FnOK Tryz.prog φ pv1 wLp wOe p1) {r:Bool} (hm:wAv p0 p1=some r):Gv Tryz.prog 180 [.slice pA0 p0.length pc0,pv1] w (wCN w [] φ (fun φ_ L_ v=>v=.bool r/\L_=[])):=by
 unfold wAv at hm
 refine Gv.of Tryz.func180 Z Tryz.ntmps180 Tryz.results180 Z (sR fL1 Z (oA Z Z (eN (zG (sR fL3 Z (oM Z Z (oR Z (zo Z Z zA) (oM Z Z (eN (zS ?_))))))))))
 have q:=wCC hm
 obtain ⟨r3,hX4⟩:=q
 have q:=wCP hX4
 obtain ⟨hle5,hf6⟩:=q
 replace hle5:=zB hle5
 refine CK.forN (fun k2 _ σ_ w_=>∃ (φ_:PHeap),σ_ 9=jV (↑k2:Int)/\σ_ 1=pv1/\σ_ 7=.slice pA0 p0.length pc0/\σ_ 8=jV (↑p0.length:Int)/\PHeap.Le φ φ_/\sW w φ φ_ [] w_) hf6 ?_ ?_ ?_
 ·exact ⟨φ,Z,Z,Z,Z,(zO _),hS⟩
 ·rintro k2 ⟨⟩ xx9 σ7 W8 hk12 ⟨φ14,fi13,f17,f18,f19,le15,hS16⟩ hx10 hb11
  try dsimp only at hx10
  have c20:Hid ((↑k2:Int) < (↑p0.length:Int)):=zB (wBm hk12)
  replace hk12:=zB hk12
  have hi21:Hid (w64 ((↑k2:Int) + 1)=(↑(k2 + 1):Int)):=zB (by have h1:=hle5.out;have h2:=c20.out;rw [wAa] <;> omega)
  refine sR fL1 Z (oR Z (zU Z fi13 f19) (eN (zG (cT Z c20 (kN (zG (zS (sR fL3 Z (bnK hx10 fun x22 h23 hm24=>?_)))))))))
  have h25:=ha0.le le15
  have q:=h25.el (fun _=>rfl) (wAs h23)
  obtain ⟨b26,off27,hA28,hC29⟩:=q
  refine oR Z (zy Z f18 hA28 fi13 zA zD (wCA h23)) (oL Z (hS16.ldC (f:=0) hC29 (v:=jV x22) Z Z zK Z) (oA Z Z (eN (sR (.fl 0 (.fl 1 (.fx 2 (.fl 3 (.nil)) .stop))) Z (oM Z f17 (oM Z Z (bnK hm24 fun x30 h31 hm32=>?_)))))))
  have h39:=ha1.le le15
  refine OKS.callV (a:=x22) Z Z Z Z Z Z (zC Z zR) hS16 h39 Z h31 ?_
  rintro φ33 L34 v35 W36 le37 hS38 ⟨rfl,rfl⟩
  have hS40:sW w φ φ33 [] W36:=hS38
  refine oR Z (ZH Z Z) (eN (ifc hm32 ?_ ?_))
  ·intro c41 hm42
   refine zx (nC c41.out) (ZE (zZ (zF (rR fL2 Z (oR Z (zt (zQ Z fi13 Z) (congrArg (jV) hi21.out)) (oM Z Z (zq ?_)))))))
   obtain rfl:=nB hm42
   exact zF ⟨Z,_,Z,⟨φ33,Z,f17,f18,f19,(le15.trans le37),hS40⟩⟩
  ·intro c41 hm43
   refine ZC (nF (c41.out)) (sR fL1 Z (oA Z Z (eN (zJ (zd (zI ?_))))))
   have q:=wAq hm43
   obtain ⟨v44,hm45,e46⟩:=q
   obtain rfl:=wBl hm hX4 (hb11 v44 e46)
   refine zI (zd (zI ?_))
   have hE:=nB hm45;first | subst r | cases hE
   exact ⟨Z,_,(zn Z),φ33,_,hS40,Z,Z⟩
 ·rintro ⟨⟩ σ47 W48 ⟨φ51,fi50,f54,f55,f56,le52,hS53⟩ hb49
  have hm57:=wCr hm hX4 hb49
  try dsimp only at hm57
  have c58:Hid (¬ ((↑(((↑p0.length:Int):Int) - 0).toNat:Int) < (↑p0.length:Int))):=zB (wBO)
  refine sR fL1 Z (oR Z (zU Z fi50 f56) (eN (zG (cF Z c58 (ZD (zf (zf (ZB (zF (sR fL1 Z (oA Z Z (eN (zJ ?_)))))))))))))
  have hE:=nB hm57;first | subst r | cases hE
  exact ⟨Z,_,(zn Z),φ51,_,hS53,Z,Z⟩
theorem wED (p0:Int) (w:World) (φ:PHeap) (hS:St0 w φ [])  {r:Bool} (hm:wAw p0=some r):Gv Tryz.prog 181 [jV p0] w (wCN w [] φ (fun φ_ L_ v=>v=.bool r/\L_=[])):=by
 unfold wAw at hm
 refine Gv.of Tryz.func181 Z Tryz.ntmps181 Tryz.results181 Z (sR fL1 Z (oA Z Z (eN (sR (.fl 0 (.fx 1 (.fl 2 (.nil)) .stop)) Z (oM Z Z (bnK hm fun x1 h2 hm3=>zL 0 Z Z Z Z (zM Z Z Tryz.call142 (zC Z (zC Z (zC Z zR))) Z) hS (fun hs=>wEi p0 1 999 w φ hs h2) (.inr Z) ?_))))))
 rintro φ4 L5 v6 W7 le8 hS9 ⟨rfl,rfl⟩
 have hS10:sW w φ φ4 [] W7:=hS9
 refine oA Z Z (eN (zJ ?_))
 have hE:=nB hm3;first | subst r | cases hE
 exact ⟨Z,_,(zn Z),φ4,_,hS10,Z,Z⟩
theorem wDY (p0:Int) (w:World) (φ:PHeap) (hS:St0 w φ [])  {r:Bool} (hm:wAm p0=some r):Gv Tryz.prog 183 [jV p0] w (wCN w [] φ (fun φ_ L_ v=>v=.bool r/\L_=[])):=by
 unfold wAm at hm
 refine Gv.of Tryz.func183 Z Tryz.ntmps183 Tryz.results183 Z (sR fL1 Z (oA Z Z (eN (sR (.fl 0 (.fx 1 (.fl 2 (.nil)) .stop)) Z (oM Z Z (bnK hm fun x1 h2 hm3=>zL 0 Z Z Z Z (zM Z Z Tryz.call142 (zC Z (zC Z (zC Z zR))) Z) hS (fun hs=>wEi p0 0 360000 w φ hs h2) (.inr Z) ?_))))))
 rintro φ4 L5 v6 W7 le8 hS9 ⟨rfl,rfl⟩
 have hS10:sW w φ φ4 [] W7:=hS9
 refine oA Z Z (eN (zJ ?_))
 have hE:=nB hm3;first | subst r | cases hE
 exact ⟨Z,_,(zn Z),φ4,_,hS10,Z,Z⟩
theorem wEE (p0:List Int) (pA0:Option Addr) (pc0:Nat) (w:World) (φ:PHeap) (hS:St0 w φ []) (ha0:Sl φ 1 pA0 pc0 p0.length (nA KL.encI p0)) {r:Bool} (hm:wAx p0=some r):Gv Tryz.prog 182 [.slice pA0 p0.length pc0] w (wCN w [] φ (fun φ_ L_ v=>v=.bool r/\L_=[])):=by
 unfold wAx at hm
 refine Gv.of Tryz.func182 Z Tryz.ntmps182 Tryz.results182 Z (sR fL1 Z (oA Z Z (eN (sR (.fl 0 (.fx 1 (.fl 2 (.nil)) .stop)) Z (oM Z Z ?_)))))
 have hF1:FnOK Tryz.prog φ (.func (.func 183) #[] #[]) wLp wOe wAm:=⟨183,[],[],rfl,Tryz.call183,fun φ1 w1 x y vs le hs ha hm=>by obtain rfl:=ha;exact wDY x w1 φ1 hs  hm⟩
 refine bnK hm fun x2 h3 hm4=>zL 0 Z Z Z Z (zM Z Z Tryz.call180 (zC Z (zC Z zR)) Z) hS (fun hs=>wCb p0 pA0 pc0 wAm (.func (.func 183) #[] #[]) w φ hs ha0 hF1 h3) (.inr Z) ?_
 rintro φ5 L6 v7 W8 le9 hS10 ⟨rfl,rfl⟩
 have hS11:sW w φ φ5 [] W8:=hS10
 refine oA Z Z (eN (zJ ?_))
 have hE:=nB hm4;first | subst r | cases hE
 exact ⟨Z,_,(zn Z),φ5,_,hS11,Z,Z⟩
theorem wGw (p0:List Int) (pA0:Option Addr) (pc0:Nat) (w:World) (φ:PHeap) (hS:St0 w φ []) (ha0:Sl φ 1 pA0 pc0 p0.length (nA KL.encI p0)) {r:Bool} (hm:wBz p0=some r):Gv Tryz.prog 184 [.slice pA0 p0.length pc0] w (wCN w [] φ (fun φ_ L_ v=>v=.bool r/\L_=[])):=by
 unfold wBz at hm
 refine Gv.of Tryz.func184 Z Tryz.ntmps184 Tryz.results184 Z (sR fL1 Z (oA Z Z (eN (sR (.fx 0 (.fl 1 (.nil)) .stop) Z (OKS.makeMap Z Z Z Z Z hS ?_)))))
 intro W1 b2 hS3
 have hr4:=MpR.nil wLq wMi
 refine oA Z Z (eN (zG (sR fL3 Z (oM Z Z (oR Z (zo Z Z zA) (oM Z Z (eN (zS ?_))))))))
 have q:=wCC hm
 obtain ⟨r21,hX22⟩:=q
 have q:=wCP hX22
 obtain ⟨hle23,hf24⟩:=q
 replace hle23:=zB hle23
 refine CK.forN (fun k20 l17 σ_ w_=>∃ (φ_:PHeap) (es18:Array MapEntry) (ck19:Nat),σ_ 9=jV (↑k20:Int)/\σ_ 3=.map (some b2)/\σ_ 7=.slice pA0 p0.length pc0/\σ_ 8=jV (↑p0.length:Int)/\PHeap.Le φ φ_/\sW w φ φ_ [.obj b2 (.map es18 ck19)] w_/\MpR es18 wLq wMi l17) hf24 ?_ ?_ ?_
 ·exact ⟨φ,#[],0,Z,Z,Z,Z,(zO _),hS3,hr4⟩
 ·rintro k20 l17 xx27 σ25 W26 hk30 ⟨φ32,es18,ck19,fi31,f35,f36,f37,le33,hS34,h38⟩ hx28 hb29
  have c39:Hid ((↑k20:Int) < (↑p0.length:Int)):=zB (wBm hk30)
  replace hk30:=zB hk30
  have hi40:Hid (w64 ((↑k20:Int) + 1)=(↑(k20 + 1):Int)):=zB (by have h1:=hle23.out;have h2:=c39.out;rw [wAa] <;> omega)
  refine sR fL1 Z (oR Z (zU Z fi31 f37) (eN (zG (cT Z c39 (kN (zG (zS (sR fL3 Z (bnK hx28 fun x41 h42 hm43=>?_)))))))))
  have h44:=ha0.le le33
  have q:=h44.el (fun _=>rfl) (wAs h42)
  obtain ⟨b45,off46,hA47,hC48⟩:=q
  refine oR Z (zy Z f36 hA47 fi31 zA zD (wCA h42)) (oL Z (hS34.ldC (f:=0) hC48 (v:=jV x41) Z Z zK Z) (oA Z Z (eN (zG (sR fL3 Z (oM Z f35 (oM Z Z (oL Z (hS34.lookup1 (j:=0) (mk:=wLq) (mv:=wMi) (a:=x41) (z:=false) Z Z Z Z (wDH Tryz.runUnderlying176) wLt Tryz.zeroValue4 h38) (eN (ifc hm43 ?_ ?_))))))))))
  ·intro c49 hm50
   refine ZC (congrArg nD c49.out) (sR fL1 Z (oA Z Z (eN (zJ (zI (zd (zI ?_)))))))
   have q:=wAq hm50
   obtain ⟨v51,hm52,e53⟩:=q
   obtain rfl:=wBl hm hX22 (hb29 v51 e53)
   refine zI (zd (zI ?_))
   have hE:=nB hm52;first | subst r | cases hE
   exact ⟨rfl,_,(zn rfl),φ32,_,(hS34.pick [] _ (by decide) rfl),rfl,rfl⟩
  ·intro c49 hm54
   refine zx (congrArg nD (nE.2 c49.out)) (kN (rR (.fl 0 (.fl 1 (.fx 2 (.nil) .stop))) rfl (zW rfl rfl rfl rfl rfl f35 (zW rfl rfl rfl rfl rfl rfl (OKS.mapPut (x:=.tmp 16) (y:=.tmp 17) (j:=0) (mk:=wLq) (mv:=wMi) (a:=x41) (v:=true) rfl rfl rfl (by first | exact .inl rfl | exact .inr rfl) hS34 rfl rfl rfl rfl (wDH Tryz.runUnderlying176) wLt h38 rfl ?_)))))
   intro es55 ck56 W57 hr58 hS59
   have hS60:sW w φ φ32 [.obj b2 (.map es55 ck56)] W57:=hS59
   refine zq (zZ (zF (rR fL2 Z (oR Z (zt (zQ Z fi31 Z) (congrArg (jV) hi40.out)) (oM Z Z (zq ?_))))))
   obtain rfl:=nB hm54
   exact zF ⟨Z,_,Z,⟨φ32,es55,ck56,Z,f35,f36,f37,le33,hS60,hr58⟩⟩
 ·rintro y68 σ64 W65 ⟨φ71,e69,c70,fi67,f74,f75,f76,le72,hS73,h77⟩ hb66
  have hm78:=wCr hm hX22 hb66
  have c79:Hid (¬ ((↑(((↑p0.length:Int):Int) - 0).toNat:Int) < (↑p0.length:Int))):=zB (wBO)
  refine sR fL1 Z (oR Z (zU Z fi67 f76) (eN (zG (cF Z c79 (ZD (zf (zf (ZB (zF (sR fL1 Z (oA Z Z (eN (zJ ?_)))))))))))))
  have hE:=nB hm78;first | subst r | cases hE
  exact ⟨rfl,_,(zn rfl),φ71,_,(hS73.pick [] _ (by decide) rfl),rfl,rfl⟩
theorem wEj (p0:wAE) (pA0_1:Option Addr) (pc0_1:Nat) (pA0_2:Option Addr) (pc0_2:Nat) (w:World) (φ:PHeap) (hS:St0 w φ []) (ha0:Sl φ 1 pA0_1 pc0_1 p0.Bibs.length (nA KL.encI p0.Bibs)) (ha1:SlR φ wHZ pA0_2 pc0_2 p0.Times) {r:Int} (hm:wBS p0=some r):Gv Tryz.prog 106 [.agg #[jV p0.Laps,.slice pA0_1 p0.Bibs.length pc0_1,.slice pA0_2 p0.Times.length pc0_2]] w (wCN w [] φ (fun φ_ L_ v=>v=jV r/\L_=[])):=by
 unfold wBS at hm
 refine Gv.of Tryz.func106 Z Tryz.ntmps106 Tryz.results106 Z (sR (.fx 0 (.fl 1 (.nil)) .stop) Z ?_)
 let B0:List Value:=[jV p0.Laps,.slice pA0_1 p0.Bibs.length pc0_1,.slice pA0_2 p0.Times.length pc0_2]
 refine ZR (cs:=B0) rfl rfl rfl rfl rfl rfl (by rfl) hS ?_
 intro W1 b2 hS3
 have q:=hS3.freeze (k:=0) rfl
 obtain ⟨φ5,le6,hC7,hS8⟩:=q
 replace hC7:=Cl.of hC7
 have hS9:sW w φ φ5 [] W1:=hS8
 replace hC7:Cl φ5 b2 0 B0:=hC7
 refine oA Z Z (eN (zG (zS (sR (.fl 0 (.fl 1 (.fx 2 (wQP (.fx 23 (wOx (.nil)) .stop)) .stop))) Z (oR Z (zN Z Z zH Z zD) (oL Z (hS9.ldC (f:=0) hC7 (v:=jV p0.Laps) Z Z zK Z) (bnK hm fun x10 h11 hm12=>zL 0 Z Z Z Z (zM Z Z Tryz.call142 (zC Z (zC Z (zC Z zR))) Z) hS9 (fun hs=>wEi p0.Laps 1 20 W1 φ5 hs h11) (.inr Z) ?_)))))))
 rintro φ13 L14 v15 W16 le17 hS18 ⟨rfl,rfl⟩
 have hS19:sW w φ φ13 [] W16:=hS18
 refine oR Z (ZH Z Z) (oM Z Z (ifc hm12 ?_ ?_))
 ·intro c20 hm21
  refine zk Z Z Z (zX Z Z (nC c20.out)) (fun _=>zN Z Z zH Z zV) ?_
  have h22:=hC7.le le17
  refine zz Z Z Z (zX Z Z (nC c20.out)) (hS19.ldC (f:=1) h22 (v:=.slice pA0_1 p0.Bibs.length pc0_1) Z Z zj Z) Z (zk Z Z Z (zX Z Z (nC c20.out)) (fun _=>zo Z Z zA) (zk Z Z Z (zX Z Z (nC c20.out)) (fun _=>Runs.gtr Z Z Z) (oR Z (zr Z (nC c20.out) Z) (oM Z Z (ifc hm21 ?_ ?_)))))
  ·intro c23 hm24
   refine oT Z c23 (oT Z c23 (oT Z c23 (oT Z c23 (oT Z c23 (oT Z c23 (oT Z c23 (oR Z (zm Z (wGe c23.out) Z) (oM Z Z (oN Z (oN Z (oN Z (OKS.px Z Z Z (zg Z Z Z Z) (oN Z (oR Z (zm Z Z Z) (oA Z Z (eN (ZC Z (sR fL1 Z (oA Z Z (eN (zJ (zd (zI ?_)))))))))))))))))))))))
   cases hm24
   exact ⟨Z,_,(zn Z),φ13,_,hS19,Z,Z⟩
  ·intro c23 hm25
   refine rU Z (wF Z c23) (zN Z Z zH Z ZG) (zz Z Z Z (wF Z c23) (hS19.ldC (f:=2) h22 (v:=.slice pA0_2 p0.Times.length pc0_2) Z Z ZN Z) Z (rU Z (wF Z c23) (zo Z Z ze) (rU Z (wF Z c23) (zN Z Z zH Z zV) (zz Z Z Z (wF Z c23) (hS19.ldC (f:=1) h22 (v:=.slice pA0_1 p0.Bibs.length pc0_1) Z Z zj Z) Z (rU Z (wF Z c23) (zo Z Z zA) (rU Z (wF Z c23) (Runs.neq Z Z Z) (oR Z (zr Z (ZL c23.out) Z) (oM Z Z (ifc hm25 ?_ ?_)))))))))
   ·intro c26 hm27
    refine zk Z Z Z (zX Z Z (ZL (fun h=>h c26.out))) (fun _=>zN Z Z zH Z ZG) (zz Z Z Z (zX Z Z (ZL (fun h=>h c26.out))) (hS19.ldC (f:=2) h22 (v:=.slice pA0_2 p0.Times.length pc0_2) Z Z ZN Z) Z (zk Z Z Z (zX Z Z (ZL (fun h=>h c26.out))) (fun _=>Runs.mkf Z zR (zC Z zR)) ?_))
    have h28:=ha1.le le6
    have h29:=h28.le le17
    have h30:=ha0.le le6
    have h31:=h30.le le17
    have hF32:FnOK Tryz.prog φ13 (.func (.func 179) #[] #[.pointer (some ⟨b2,0,none⟩)]) wOc wOd (fun x=>wAu x p0):=⟨179,[],[.pointer (some ⟨b2,0,none⟩)],rfl,Tryz.call179,fun φ1 w1 x y vs le hs ha hm=>by obtain ⟨pA_0,pc_0,rfl,hq0_0⟩:=ha;exact wEC x pA_0 pc_0 p0 b2 pA0_1 pc0_1 pA0_2 pc0_2 w1 φ1 hs hq0_0 (h22.le le) (h31.le le) (h29.le le) hm⟩
    refine bnK hm27 fun x33 h34 hm35=>zL 0 Z Z Z (zX Z Z (ZL (fun h=>h c26.out))) (zM Z Z Tryz.call178 (zC Z (zC Z zR)) Z) hS19 (fun hs=>wDX p0.Times pA0_2 pc0_2 (fun x=>wAu x p0) (.func (.func 179) #[] #[.pointer (some ⟨b2,0,none⟩)]) W16 φ13 hs h29 hF32 h34) (.inr Z) ?_
    rintro φ36 L37 v38 W39 le40 hS41 ⟨rfl,rfl⟩
    have hS42:sW w φ φ36 [] W39:=hS41
    refine zk Z Z Z (zX Z Z (ZL (fun h=>h c26.out))) (fun _=>ZH Z Z) (oR Z (zr Z (ZL (fun h=>h c26.out)) Z) (oA Z Z (eN (ifc hm35 ?_ ?_))))
    ·intro c43 hm44
     refine zx (nC c43.out) (sR (.fl 0 (.fl 1 (.fx 2 (fC3_6 (.fx 7 (wQQ (.nil)) .stop)) .stop))) Z (oR Z (zN Z Z zH Z zV) ?_))
     have h45:=h22.le le40
     refine oL Z (hS42.ldC (f:=1) h45 (v:=.slice pA0_1 p0.Bibs.length pc0_1) Z Z zj Z) ?_
     have h46:=h31.le le40
     have hF47:FnOK Tryz.prog φ36 (.func (.func 181) #[] #[]) wLp wOe wAw:=⟨181,[],[],rfl,Tryz.call181,fun φ1 w1 x y vs le hs ha hm=>by obtain rfl:=ha;exact wED x w1 φ1 hs  hm⟩
     refine bnK hm44 fun x48 h49 hm50=>zL 0 Z Z Z Z (zM Z Z Tryz.call180 (zC Z (zC Z zR)) Z) hS42 (fun hs=>wCb p0.Bibs pA0_1 pc0_1 wAw (.func (.func 181) #[] #[]) W39 φ36 hs h46 hF47 h49) (.inr Z) ?_
     rintro φ51 L52 v53 W54 le55 hS56 ⟨rfl,rfl⟩
     have hS57:sW w φ φ51 [] W54:=hS56
     refine oR Z (ZH Z Z) (oM Z Z (ifc hm50 ?_ ?_))
     ·intro c58 hm59
      refine zk Z Z Z (zX Z Z (nC c58.out)) (fun _=>zN Z Z zH Z ZG) ?_
      have h60:=h45.le le55
      refine zz Z Z Z (zX Z Z (nC c58.out)) (hS57.ldC (f:=2) h60 (v:=.slice pA0_2 p0.Times.length pc0_2) Z Z ZN Z) Z ?_
      have h61:=h29.le le40
      have h62:=h61.le le55
      have hF63:FnOK Tryz.prog φ51 (.func (.func 182) #[] #[]) wOc wOd wAx:=⟨182,[],[],rfl,Tryz.call182,fun φ1 w1 x y vs le hs ha hm=>by obtain ⟨pA_0,pc_0,rfl,hq0_0⟩:=ha;exact wEE x pA_0 pc_0 w1 φ1 hs hq0_0 hm⟩
      refine bnK hm59 fun x64 h65 hm66=>zL 0 Z Z Z (zX Z Z (nC c58.out)) (zM Z Z Tryz.call178 (zC Z (zC Z zR)) Z) hS57 (fun hs=>wDX p0.Times pA0_2 pc0_2 wAx (.func (.func 182) #[] #[]) W54 φ51 hs h62 hF63 h65) (.inr Z) ?_
      rintro φ67 L68 v69 W70 le71 hS72 ⟨rfl,rfl⟩
      have hS73:sW w φ φ67 [] W70:=hS72
      refine zk Z Z Z (zX Z Z (nC c58.out)) (fun _=>ZH Z Z) (oR Z (zr Z (nC c58.out) Z) (oA Z Z (eN (ifc hm66 ?_ ?_))))
      ·intro c74 hm75
       refine zx (nC c74.out) (sR (.fl 0 (.fl 1 (.fx 2 (.fl 3 (.nil)) .stop))) Z (oR Z (zN Z Z zH Z zV) ?_))
       have h76:=h60.le le71
       refine oL Z (hS73.ldC (f:=1) h76 (v:=.slice pA0_1 p0.Bibs.length pc0_1) Z Z zj Z) ?_
       have h77:=h46.le le55
       have h78:=h77.le le71
       refine bnK hm75 fun x79 h80 hm81=>zL 0 Z Z Z Z (zM Z Z Tryz.call184 (zC Z zR) Z) hS73 (fun hs=>wGw p0.Bibs pA0_1 pc0_1 W70 φ67 hs h78 h80) (.inr Z) ?_
       rintro φ82 L83 v84 W85 le86 hS87 ⟨rfl,rfl⟩
       have hS88:sW w φ φ82 [] W85:=hS87
       refine oA Z Z (eN (ifc hm81 ?_ ?_))
       ·intro c89 hm90
        refine ZC (congrArg nD c89.out) (sR fL1 Z (oA Z Z (eN (zJ (zd (zI ?_))))))
        cases hm90
        exact ⟨Z,_,(zn Z),φ82,_,hS88,Z,Z⟩
       ·intro c89 hm91
        refine zx (congrArg nD (nE.2 c89.out)) (ZE (zZ (zF (zG (zG (CK.fresh fun σ92 hσ93=>?_))))))
        have f94:σ92 1=.pointer (some ⟨b2,0,none⟩):=(hσ93 1).trans rfl
        clear hσ93
        refine rR fL4 Z (oR Z (zN Z f94 zH Z ZG) ?_)
        have h95:=h76.le le86
        refine oL Z (hS88.ldC (f:=2) h95 (v:=.slice pA0_2 p0.Times.length pc0_2) Z Z ZN Z) (oR Z (zo Z Z ze) (oM Z Z (eN (zS ?_))))
        have q:=wCC hm91
        obtain ⟨r98,hX99⟩:=q
        have q:=wCP hX99
        obtain ⟨hle100,hf101⟩:=q
        replace hle100:=zB hle100
        refine CK.forN (fun k97 _ σ_ w_=>∃ (φ_:PHeap),σ_ 51=jV (↑k97:Int)/\σ_ 49=.slice pA0_2 p0.Times.length pc0_2/\σ_ 50=jV (↑p0.Times.length:Int)/\PHeap.Le φ82 φ_/\sW w φ φ_ [] w_) hf101 ?_ ?_ ?_
        ·exact ⟨φ82,Z,Z,Z,(zO _),hS88⟩
        ·rintro k97 ⟨⟩ xx104 σ102 W103 hk107 ⟨φ109,fi108,f112,f113,le110,hS111⟩ hx105 hb106
         try dsimp only at hx105
         have c114:Hid ((↑k97:Int) < (↑p0.Times.length:Int)):=zB (wBm hk107)
         replace hk107:=zB hk107
         have hi115:Hid (w64 ((↑k97:Int) + 1)=(↑(k97 + 1):Int)):=zB (by have h1:=hle100.out;have h2:=c114.out;rw [wAa] <;> omega)
         refine sR fL1 Z (oR Z (zU Z fi108 f113) (eN (zG (cT Z c114 (kN (zG (zS (sR fL3 Z (bnK hx105 fun x116 h117 hm118=>?_)))))))))
         have h119:=h62.le le71
         have h120:=h119.le le86
         have h121:=h120.le le110
         have q:=h121.el (wAs h117)
         obtain ⟨b122,off123,vs126,hA124,hC125,hr127⟩:=q
         obtain ⟨pA128,pc129,rfl,h130⟩:=hr127
         replace hC125:Cl φ109 b122 (off123 + k97 * 1) [.slice pA128 x116.length pc129]:=hC125
         refine oR Z (zy Z f112 hA124 fi108 ze zV (wCA h117)) (oL Z (hS111.ldC (f:=0) hC125 (v:=.slice pA128 x116.length pc129) Z Z zj Z) (oA Z Z (eN (sR fL1 Z (oA Z Z (eN (zS ?_)))))))
         have q:=wCC hm118
         obtain ⟨r133,hX134⟩:=q
         have q:=wCP hX134
         obtain ⟨hle135,hf136⟩:=q
         replace hle135:=zB hle135
         refine CK.forN (fun k132 _ σ_ w_=>∃ (φ_:PHeap),σ_ 5=jV (1 + ↑k132:Int)/\σ_ 4=.slice pA128 x116.length pc129/\σ_ 49=.slice pA0_2 p0.Times.length pc0_2/\σ_ 50=jV (↑p0.Times.length:Int)/\σ_ 51=jV (↑k97:Int)/\PHeap.Le φ109 φ_/\sW w φ φ_ [] w_) hf136 ?_ ?_ ?_
         ·exact ⟨φ109,Z,Z,f112,f113,fi108,(zO _),hS111⟩
         ·rintro k132 ⟨⟩ xx139 σ137 W138 hk142 ⟨φ144,fi143,f147,f148,f149,f150,le145,hS146⟩ hx140 hb141
          try dsimp only at hx140
          have c151:Hid ((1 + ↑k132:Int) < (↑x116.length:Int)):=zB (lp_lt hk142)
          replace hk142:=zB hk142
          have hi152:Hid (w64 ((1 + ↑k132:Int) + 1)=(1 + ↑(k132 + 1):Int)):=zB (by have h1:=hle135.out;have h2:=c151.out;rw [wAa] <;> omega)
          refine zG (sR fL4 rfl (zW rfl rfl rfl rfl rfl fi143 (zW rfl rfl rfl rfl rfl f147 (zk rfl rfl rfl rfl (fun _=>zo rfl rfl zA) (zk rfl rfl rfl rfl (fun _=>zU rfl rfl rfl) (eN (cT Z c151 (kN (zG (zS (zG (CK.anyOrd Za [3,3,3,1,3,3,3,3,1,3] fL10 (by kernel_rfl) ?_))))))))))))
          have hS153:=hS146.drew
          generalize hw_W154:({ W138 with drawn:=W138.drawn + 1 }:World)=W154 at hS153 ⊢
          refine oM Z f147 (oM Z fi143 (bnK hx140 fun x155 h156 hm157=>?_))
          have h158:=h130.le le145
          have q:=h158.el (fun _=>rfl) (wAs h156)
          obtain ⟨b159,off160,hA161,hC162⟩:=q
          refine oR Z (ZM Z Z hA161 Z zA zD (wDi h156) (wEN h156)) (oL Z (hS153.ldC (f:=0) hC162 (v:=jV x155) Z Z zK Z) (oM Z f147 (oM Z fi143 (oR Z (Runs.subw Z Z Z) (bnK hm157 fun x163 h164 hm165=>?_)))))
          have q:=h158.el (fun _=>rfl) (wAs h164)
          obtain ⟨b166,off167,hA168,hC169⟩:=q
          refine oR Z (ZM Z Z hA168 Z zA zD (wDi h164) (wEN h164)) (oL Z (hS153.ldC (f:=0) hC169 (v:=jV x163) Z Z zK Z) (oR Z (Runs.leq Z Z Z) (eN (ifc hm165 ?_ ?_))))
          ·intro c170 hm171
           refine cT Z c170 (sR fL1 Z (oA Z Z (eN (zJ (zd (zI ?_))))))
           have q:=wAq hm171
           obtain ⟨v172,hm173,e174⟩:=q
           obtain rfl:=wBl hm118 hX134 (hb141 v172 e174)
           refine zI (zd (zd (zI ?_)))
           have q:=wAq hm173
           obtain ⟨v175,hm176,e177⟩:=q
           obtain rfl:=wBl hm91 hX99 (hb106 v175 e177)
           refine zI (zd (zI ?_))
           cases hm176
           exact ⟨Z,_,(zn Z),φ144,_,hS153,Z,Z⟩
          ·intro c170 hm178
           refine cF Z c170 (ZE (zZ (zF (rR fL3 Z (oM Z fi143 (oR Z (zt (zQ Z Z Z) (congrArg (jV) hi152.out)) (oA Z Z (zq ?_))))))))
           obtain rfl:=nB hm178
           exact zF ⟨Z,_,Z,⟨φ144,Z,f147,f148,f149,f150,le145,hS153⟩⟩
         ·rintro ⟨⟩ σ179 W180 ⟨φ183,fi182,f186,f187,f188,f189,le184,hS185⟩ hb181
          have hm190:=wCr hm118 hX134 hb181
          try dsimp only at hm190
          have c191:Hid (¬ ((1 + ↑(((↑x116.length:Int):Int) - 1).toNat:Int) < (↑x116.length:Int))):=zB (wPN)
          refine zG (sR fL4 Z (oM Z fi182 (oM Z f186 (oR Z (zo Z Z zA) (oR Z (zU Z Z Z) (eN (cF Z c191 (ZD (zf (zf (ZB (zZ (zF (rR fL2 Z (oR Z (zt (zQ Z f189 Z) (congrArg (jV) hi115.out)) (oM Z Z (zq ?_)))))))))))))))))
          obtain rfl:=nB hm190
          exact zF ⟨Z,_,Z,⟨φ183,Z,f187,f188,(le110.trans le184),hS185⟩⟩
        ·rintro ⟨⟩ σ192 W193 ⟨φ196,fi195,f199,f200,le197,hS198⟩ hb194
         have hm201:=wCr hm91 hX99 hb194
         try dsimp only at hm201
         have c202:Hid (¬ ((↑(((↑p0.Times.length:Int):Int) - 0).toNat:Int) < (↑p0.Times.length:Int))):=zB (wBO)
         refine sR fL1 Z (oR Z (zU Z fi195 f200) (eN (zG (cF Z c202 (ZD (zf (zf (ZB (zF (sR fL1 Z (oA Z Z (eN (zJ ?_)))))))))))))
         cases hm201
         exact ⟨Z,_,(zn Z),φ196,_,hS198,Z,Z⟩
      ·intro c74 hm203
       refine ZC (nF (c74.out)) (sR fL1 Z (oA Z Z (eN (zJ (zd (zI ?_))))))
       cases hm203
       exact ⟨Z,_,(zn Z),φ67,_,hS73,Z,Z⟩
     ·intro c58 hm204
      refine zP Z Z Z (zg Z Z (nF (c58.out)) Z) (zP Z Z Z (zg Z Z (nF (c58.out)) Z) (OKS.px Z Z Z (zg Z Z (nF (c58.out)) Z) (zP Z Z Z (zg Z Z (nF (c58.out)) Z) (oR Z (zm Z (nF (c58.out)) Z) (oA Z Z (eN (ZC Z (sR fL1 Z (oA Z Z (eN (zJ (zd (zI ?_)))))))))))))
      cases hm204
      exact ⟨Z,_,(zn Z),φ51,_,hS57,Z,Z⟩
    ·intro c43 hm205
     refine ZC (nF (c43.out)) (sR fL1 Z (oA Z Z (eN (zJ (zd (zI ?_))))))
     cases hm205
     exact ⟨Z,_,(zn Z),φ36,_,hS42,Z,Z⟩
   ·intro c26 hm206
    refine oT Z c26 (oT Z c26 (oT Z c26 (OKS.px Z Z Z (zg Z Z (wGe c26.out) Z) (oT Z c26 (oR Z (zm Z (wGe c26.out) Z) (oA Z Z (eN (ZC Z (sR fL1 Z (oA Z Z (eN (zJ (zd (zI ?_))))))))))))))
    cases hm206
    exact ⟨Z,_,(zn Z),φ13,_,hS19,Z,Z⟩
 ·intro c20 hm207
  refine zP Z Z Z (zg Z Z (nF (c20.out)) Z) (zP Z Z Z (zg Z Z (nF (c20.out)) Z) (zP Z Z Z (zg Z Z (nF (c20.out)) Z) (zP Z Z Z (zg Z Z (nF (c20.out)) Z) (oR Z (zm Z (nF (c20.out)) Z) (oM Z Z (oN Z (oN Z (oN Z (oN Z (oN Z (oN Z (oN Z (oR Z (zm Z Z Z) (oM Z Z (oN Z (oN Z (oN Z (OKS.px Z Z Z (zg Z Z Z Z) (oN Z (oR Z (zm Z Z Z) (oA Z Z (eN (ZC Z (sR fL1 Z (oA Z Z (eN (zJ (zd (zI ?_)))))))))))))))))))))))))))))
  cases hm207
  exact ⟨Z,_,(zn Z),φ13,_,hS19,Z,Z⟩
end Go.Proofs.YtglpalgiipahjaaGreat
namespace Go.Proofs.YtglpalgiipahjaaGreat
open Go.KL
set_option maxHeartbeats 4000000
theorem wDZ (p0:List Int) (p1:Int) (w:World) (φ:PHeap) (hS:St0 w φ [])  {r:(List Int)} (hm:wAz p0 p1=some r):Gv Tryz.prog 300 [.slice none 0 0,jV p1] w (wCN w [] φ (fun φ_ L_ v=>∃ (A0:Option Addr) (c0:Nat),v=.slice A0 r.length c0/\L_=[.row A0 c0 3 1 (nA KL.encI r)])):=by
 unfold wAz at hm
 refine Gv.of Tryz.func300 Z Tryz.ntmps300 Tryz.results300 Z (sR fL1 Z (oA Z Z (eN (zG (sR fL2 Z (oM Z Z (oR Z (zU Z Z Z) (eN ?_))))))))
 by_cases c1:p1 < 0
 ·have hm2:=hm;rw [if_pos c1] at hm2;replace c1:=zB c1
  refine cT Z c1 (rR (.fx 0 (.fx 1 (.nil) .stop) .stop) Z ?_)
  cases hm2
 ·have hm3:=hm;rw [if_neg c1] at hm3;replace c1:=zB c1
  refine cF Z c1 (kN (zG (sR fL8 rfl (zW rfl rfl rfl rfl rfl rfl (zW rfl rfl rfl rfl rfl rfl (zk rfl rfl rfl rfl (fun _=>Runs.capn rfl rfl zA) (zW rfl rfl rfl rfl rfl rfl (zk rfl rfl rfl rfl (fun _=>zo rfl rfl zA) (zk rfl rfl rfl rfl (fun _=>zt (Runs.subw rfl rfl rfl) (congrArg (jV) (show w64 (0 - 0)=0 by decide))) (zk rfl rfl rfl rfl (fun _=>Runs.subw rfl rfl rfl) (OKS.ra rfl rfl rfl rfl rfl rfl (eN (sR fL2 rfl (zW rfl rfl rfl rfl rfl rfl (zk rfl rfl rfl rfl (fun _=>Runs.gtr rfl rfl rfl) (eN (ifc hm3 ?_ ?_)))))))))))))))))
  ·intro c4 hm5
   refine cT Z c4 (rR (wOu (.fx 5 (fC6_9 (.nil)) .stop)) rfl (zW rfl rfl rfl rfl rfl rfl (zW rfl rfl rfl rfl rfl rfl (zk rfl rfl rfl rfl (fun _=>Runs.capn rfl rfl zA) (zk rfl rfl rfl rfl (fun _=>zt (Runs.slc (sz:=1) (a:=0) (b:=0) rfl rfl (.inr ⟨rfl,rfl⟩) (.inl ⟨_,rfl,rfl⟩) zA zD (by decide) (by decide) (by decide) (Nat.le_refl _)) rfl) (zW rfl rfl rfl rfl rfl rfl (bnK hm5 fun x6 h7 hm8=>OKS.appendZ (enc:=KL.encI) (z:=(0:Int)) (xs:=x6) rfl rfl rfl rfl rfl ZK Tryz.underlying3 wEh rfl rfl rfl rfl rfl hS rfl rfl h7 rfl ?_)))))))
   intro W9 A10 c11 hS12
   have hS14:sW w φ φ [.row A10 c11 3 1 (nA KL.encI x6)] W9:=hS12
   refine oM Z Z (oR Z (zo Z Z zA) ?_)
   have hp15:=hS14.rowCap (j:=0) rfl (by decide) (wAG (f:=KL.encI) (sz:=1) (fun _=>rfl) x6)
   refine zk (v:=.slice A10 0 c11) Z Z Z Z (fun _=>zt (Runs.slc (sz:=1) (a:=0) (b:=0) Z Z (.inr ⟨Z,Z⟩) (.inl ⟨_,Z,Z⟩) zA zD (Int.le_refl _) (Int.le_refl _) (Int.natCast_nonneg _) hp15) slc0) ?_
   have hS16:=hS14.cutRowM (enc:=KL.encI) (k:=0) (b:=0) rfl
   have hS17:sW w φ φ [.row A10 c11 3 1 (nA KL.encI ([]:List Int))] W9:=hS16
   refine oA Z Z (eN (sR fL2 Z (oM Z Z (oA Z Z (eN (zJ ?_))))))
   cases hm8
   exact ⟨Z,_,(zn Z),φ,_,hS17,A10,c11,Z,Z⟩
  ·intro c4 hm18
   refine cF Z c4 (kN (sR fL2 Z (oM Z Z (oA Z Z (eN (zJ ?_))))))
   have hS19:=hS.nilrow 3 1
   cases hm18
   exact ⟨Z,_,(zn Z),φ,_,hS19,none,0,Z,Z⟩
theorem wDE (p0:List (List Int)) (pA0:Option Addr) (pc0:Nat) (w:World) (φ:PHeap) (hS:St0 w φ []) (ha0:SlR φ wHZ pA0 pc0 p0) {r:(List Int)} (hm:wAn p0=some r):Gv Tryz.prog 252 [.slice pA0 p0.length pc0] w (wCN w [] φ (fun φ_ L_ v=>∃ (A0:Option Addr) (c0:Nat),v=.slice A0 r.length c0/\L_=[.row A0 c0 3 1 (nA KL.encI r)])):=by
 unfold wAn at hm
 refine Gv.of Tryz.func252 Z Tryz.ntmps252 Tryz.results252 Z (sR fL1 Z (oA Z Z (eN (sR fL1 Z (oA Z Z (eN (zG (sR fL3 Z (oM Z Z (oR Z (zo Z Z ze) (oM Z Z (eN (zS (bnK hm fun y12 hf9 hm8=>?_))))))))))))))
 have q:=wBx hf9
 obtain ⟨hle10,hf11⟩:=q
 replace hle10:=zB hle10
 refine CK.forN' (fun k7 x6 σ_ w_=>∃ (φ_:PHeap),σ_ 11=jV (↑k7:Int)/\σ_ 0=.slice pA0 p0.length pc0/\σ_ 3=jV x6/\σ_ 9=.slice pA0 p0.length pc0/\σ_ 10=jV (↑p0.length:Int)/\PHeap.Le φ φ_/\sW w φ φ_ [] w_) hf11 ?_ ?_ ?_
 ·exact ⟨φ,Z,Z,Z,Z,Z,(zO _),hS⟩
 ·rintro k7 x6 xx15 σ13 W14 hk18 ⟨φ20,fi19,f23,f24,f25,f26,le21,hS22⟩ hx16
  have c27:Hid ((↑k7:Int) < (↑p0.length:Int)):=zB (wBm hk18)
  replace hk18:=zB hk18
  have hi28:Hid (w64 ((↑k7:Int) + 1)=(↑(k7 + 1):Int)):=zB (by have h1:=hle10.out;have h2:=c27.out;rw [wAa] <;> omega)
  refine sR fL1 Z (oR Z (zU Z fi19 f26) (eN (zG (cT Z c27 (kN (zG (zS (sR fL3 Z (bnK hx16 fun x29 h30 hm31=>?_)))))))))
  have h32:=ha0.le le21
  have q:=h32.el (wAs h30)
  obtain ⟨b33,off34,vs37,hA35,hC36,hr38⟩:=q
  obtain ⟨pA39,pc40,rfl,h41⟩:=hr38
  replace hC36:Cl φ20 b33 (off34 + k7 * 1) [.slice pA39 x29.length pc40]:=hC36
  refine oR Z (zy Z f25 hA35 fi19 ze zV (wCA h30)) (oL Z (hS22.ldC (f:=0) hC36 (v:=.slice pA39 x29.length pc40) Z Z zj Z) (oA Z Z (eN (sR fL5 Z (oM Z f24 (oM Z Z (oR Z (zo Z Z zA) (oR Z (zQ Z Z Z) (oA Z Z (eN (sR fL2 Z (oM Z Z (oR Z (zU Z Z Z) (eN (ifc hm31 ?_ ?_)))))))))))))))
  ·intro c42 hm43
   refine cT Z c42 (rR (.fx 0 (.fx 1 (.nil) .stop) .stop) Z ?_)
   cases hm43
  ·intro c42 hm44
   refine cF Z c42 (ZE (zZ (zF (rR fL2 Z (oR Z (zt (zQ Z fi19 Z) (congrArg (jV) hi28.out)) (oM Z Z (zq ?_)))))))
   cases hm44
   exact zF ⟨Z,⟨φ20,Z,f23,Z,f25,f26,le21,hS22⟩⟩
 ·rintro σ46 W47 ⟨φ51,fi49,f54,f55,f56,f57,le52,hS53⟩
  have c58:Hid (¬ ((↑(((↑p0.length:Int):Int) - 0).toNat:Int) < (↑p0.length:Int))):=zB (wBO)
  refine sR fL1 Z (oR Z (zU Z fi49 f57) (eN (zG (cF Z c58 (ZD (zf (zf (ZB (zF (sR (.fl 0 (.fx 1 (.fl 2 (.nil)) .stop)) Z (oM Z f55 (bnK hm8 fun x59 h60 hm61=>zL 0 Z Z Z Z (zM Z Z Tryz.call300 (zC Z (zC Z zR)) Z) hS53 (fun hs=>wDZ [] y12 W47 φ51 hs h60) (.inr Z) ?_))))))))))))
  rintro φ62 L63 v64 W65 le66 hS67 ⟨A68,c69,rfl,rfl⟩
  have hS71:sW w φ φ62 [.row A68 c69 3 1 (nA KL.encI x59)] W65:=hS67
  refine oA Z Z (eN (zG (sR fL3 Z (oM Z f54 (oR Z (zo Z Z ze) (oM Z Z (eN (zS (bnK hm61 fun y91 hf88 hm87=>?_)))))))))
  have q:=wBx hf88
  obtain ⟨hle89,hf90⟩:=q
  replace hle89:=zB hle89
  refine CK.forN' (fun k86 l83 σ_ w_=>∃ (φ_:PHeap) (A84:Option Addr) (c85:Nat),σ_ 27=jV (↑k86:Int)/\σ_ 6=.slice A84 l83.length c85/\σ_ 25=.slice pA0 p0.length pc0/\σ_ 26=jV (↑p0.length:Int)/\PHeap.Le φ62 φ_/\sW w φ φ_ [.row A84 c85 3 1 (nA KL.encI l83)] w_) hf90 ?_ ?_ ?_
  ·exact ⟨φ62,A68,c69,Z,Z,Z,Z,(zO _),hS71⟩
  ·rintro k86 l83 xx94 σ92 W93 hk97 ⟨φ99,A84,c85,fi98,f102,f103,f104,le100,hS101⟩ hx95
   have c105:Hid ((↑k86:Int) < (↑p0.length:Int)):=zB (wBm hk97)
   replace hk97:=zB hk97
   have hi106:Hid (w64 ((↑k86:Int) + 1)=(↑(k86 + 1):Int)):=zB (by have h1:=hle89.out;have h2:=c105.out;rw [wAa] <;> omega)
   refine sR fL1 Z (oR Z (zU Z fi98 f104) (eN (zG (cT Z c105 (kN (zG (zS (sR fL3 Z (bnK hx95 fun x107 h108 hm109=>?_)))))))))
   have h110:=ha0.le le52
   have h111:=h110.le le66
   have h112:=h111.le le100
   have q:=h112.el (wAs h108)
   obtain ⟨b113,off114,vs117,hA115,hC116,hr118⟩:=q
   obtain ⟨pA119,pc120,rfl,h121⟩:=hr118
   replace hC116:Cl φ99 b113 (off114 + k86 * 1) [.slice pA119 x107.length pc120]:=hC116
   refine oR Z (zy Z f103 hA115 fi98 ze zV (wCA h108)) (oL Z (hS101.ldC (f:=0) hC116 (v:=.slice pA119 x107.length pc120) Z Z zj Z) (oA Z Z (eN (rR (.fl 0 (.fl 1 (.fx 2 (.fl 3 (.nil)) .stop))) Z (oM Z f102 (oM Z Z (bnK hm109 fun x122 h123 hm124=>ZP (j:=0) (enc:=KL.encI) (xs:=l83) (ys:=x107) (zs:=x122) Z Z Z Z Z ZK wEh Z Z Z Z Z Z hS101 Z Z Z (hS101.srcS h121) (fun _=>Z) (fun _=>Z) h123 Z ?_)))))))
   intro A125 c126 W127 hS128
   have hS129:sW w φ φ99 [.row A125 c126 3 1 (nA KL.encI x122)] W127:=hS128
   refine oA Z Z (zq (zZ (zF (rR fL2 Z (oR Z (zt (zQ Z fi98 Z) (congrArg (jV) hi106.out)) (oM Z Z (zq ?_)))))))
   cases hm124
   exact zF ⟨Z,⟨φ99,A125,c126,Z,Z,f103,f104,le100,hS129⟩⟩
  ·rintro σ133 W134 ⟨φ142,A140,c141,fi136,f145,f146,f147,le143,hS144⟩
   have c148:Hid (¬ ((↑(((↑p0.length:Int):Int) - 0).toNat:Int) < (↑p0.length:Int))):=zB (wBO)
   refine sR fL1 Z (oR Z (zU Z fi136 f147) (eN (zG (cF Z c148 (ZD (zf (zf (ZB (zF (sR fL2 Z (oM Z f145 (oA Z Z (eN (zJ ?_))))))))))))))
   have hE:=nB hm87;first | subst r | cases hE
   exact ⟨Z,_,(zn Z),φ142,_,hS144,A140,c141,Z,Z⟩
theorem wDa (p0:List Int) (pA0:Option Addr) (pc0:Nat) (w:World) (φ:PHeap) (hS:St ⟨w,[.row pA0 pc0 3 1 (nA KL.encI p0)],φ⟩ φ [.row pA0 pc0 3 1 (nA KL.encI p0)] w) {r:List Int} (hm:wBN p0=some r):Gv Tryz.prog 253 [.slice pA0 p0.length pc0] w (wCN w [.row pA0 pc0 3 1 (nA KL.encI p0)] φ (fun φ_ L_ v=>v=.tuple #[]/\L_=[.row pA0 pc0 3 1 (nA KL.encI r)]/\r.length=p0.length)) :=
 wMT (fun b o c zs w h1 h2 h3=>Go.Proofs.Tryz.slices_Sort_int b o c zs w h1 h2 h3) (fun p c w=>Go.Proofs.Tryz.slices_Sort_int_none p c w) hS hm
theorem wCt (p0:List Int) (pA0:Option Addr) (pc0:Nat) (w:World) (φ:PHeap) (hS:St ⟨w,[.row pA0 pc0 3 1 (nA KL.encI p0)],φ⟩ φ [.row pA0 pc0 3 1 (nA KL.encI p0)] w) {r:List Int} (hm:wBA p0=some r):Gv Tryz.prog 255 [.slice pA0 p0.length pc0] w (wCN w [.row pA0 pc0 3 1 (nA KL.encI p0)] φ (fun φ_ L_ v=>∃ (A0:Option Addr) (c0:Nat),v=.slice A0 r.length c0/\L_=[.row A0 c0 3 1 (nA KL.encI r)])) :=
 wIL (fun b o c zs w h1 h2 h3=>Go.Proofs.Tryz.slices_Compact_int b o c zs w h1 h2 h3) (fun p c w=>Go.Proofs.Tryz.slices_Compact_int_empty p c w) hS hm
theorem wCp {S E:Type} (PY:S->PHeap->List Res->Prop) (PE:E->PHeap->List Res->Prop) (f:S->Int->Option (S ⊕ E)) (y:Nat) (s0:S) (p1:List Int) (pb1:Nat) (pA1:Option Addr) (pc1:Nat) (w:World) (L:List Res) (φ:PHeap) (hS:St ⟨w,L,φ⟩ φ L w) (hP:PY s0 φ L) (hY:YOK Tryz.prog y wLp PY PE f φ) (ha0:Cl φ pb1 0 [.slice pA1 p1.length pc1]) (ha1:Sl φ 1 pA1 pc1 p1.length (nA KL.encI p1)) {r:S ⊕ E} (hm:wAZ f s0 p1=some r):Gv Tryz.prog 302 [.func (.yield y) #[] #[],.pointer (some ⟨pb1,0,none⟩)] w (ItS w L φ PY PE r):=by
 unfold wAZ at hm
 refine Gv.of Tryz.func302 Z Tryz.ntmps302 Tryz.results302 Z (sR fL3 Z (oL Z (hS.ldC (f:=0) ha0 (v:=.slice pA1 p1.length pc1) Z Z zj Z) (oR Z (zo Z Z zA) (oM Z Z (eN (zS ?_))))))
 have q:=wCC hm
 obtain ⟨r13,hX14⟩:=q
 have q:=wCP hX14
 obtain ⟨hle15,hf16⟩:=q
 replace hle15:=zB hle15
 refine CK.forN (fun k12 s10 σ_ w_=>∃ (φ_:PHeap) (LY11:List Res),σ_ 7=jV (↑k12:Int)/\σ_ 0=.func (.yield y) #[] #[]/\σ_ 5=.slice pA1 p1.length pc1/\σ_ 6=jV (↑p1.length:Int)/\PHeap.Le φ φ_/\St ⟨w,L,φ⟩ φ_ LY11 w_/\PY s10 φ_ LY11) hf16 ?_ ?_ ?_
 ·exact ⟨φ,L,Z,Z,Z,Z,(zO _),hS,hP⟩
 ·rintro k12 s10 xx19 σ17 W18 hk22 ⟨φ24,LY11,fi23,f27,f28,f29,le25,hS26,h30⟩ hx20 hb21
  have c31:Hid ((↑k12:Int) < (↑p1.length:Int)):=zB (wBm hk22)
  replace hk22:=zB hk22
  have hi32:Hid (w64 ((↑k12:Int) + 1)=(↑(k12 + 1):Int)):=zB (by have h1:=hle15.out;have h2:=c31.out;rw [wAa] <;> omega)
  refine sR fL1 Z (oR Z (zU Z fi23 f29) (eN (zG (cT Z c31 (kN (zG (zS (sR fL3 Z (bnK hx20 fun x33 h34 hm35=>?_)))))))))
  have h36:=ha1.le le25
  have q:=h36.el (fun _=>rfl) (wAs h34)
  obtain ⟨b37,off38,hA39,hC40⟩:=q
  refine oR Z (zy Z f28 hA39 fi23 zA zD (wCA h34)) (oL Z (hS26.ldC (f:=0) hC40 (v:=jV x33) Z Z zK Z) (oA Z Z (eN (sR (.fl 0 (.fl 1 (.fx 2 (.fl 3 (.nil)) .stop))) Z (oM Z f27 (oM Z Z (bnK hm35 fun yr41 h42 hm43=>OKS.yieldT 0 (a:=x33) Z Z Z Z Z Z (zC Z zR) hS26 hY le25 h30 Z h42 Z ?_)))))))
  rintro φ44 LY45 b46 W47 le48 hS49 hM50
  rcases yr41 with s51 | s51
  ·try dsimp only at hm43 hM50
   obtain ⟨rfl,hp52⟩:=hM50
   have hS53:St ⟨w,L,φ⟩ φ44 LY45 W47:=hS49
   refine oR Z (ZH Z Z) (eN (zx Z (ZE (zZ (zF (rR fL2 Z (oR Z (zt (zQ Z fi23 Z) (congrArg (jV) hi32.out)) (oM Z Z (zq ?_)))))))))
   obtain rfl:=nB hm43
   exact zF ⟨Z,_,Z,⟨φ44,LY45,Z,f27,f28,f29,(le25.trans le48),hS53,hp52⟩⟩
  ·try dsimp only at hm43 hM50
   obtain ⟨rfl,hp56⟩:=hM50
   have hS57:St ⟨w,L,φ⟩ φ44 LY45 W47:=hS49
   refine oR Z (ZH Z Z) (eN (ZC Z (zJ (zd (zI ?_)))))
   have q:=wAq hm43
   obtain ⟨v58,hm59,e60⟩:=q
   obtain rfl:=wBl hm hX14 (hb21 v58 e60)
   refine zI (zd ?_)
   cases hm59
   exact ⟨Z,_,(res0),φ44,_,hS57,hp56⟩
 ·rintro y65 σ61 W62 ⟨φ67,L66,fi64,f70,f71,f72,le68,hS69,h73⟩ hb63
  have hm74:=wCr hm hX14 hb63
  have c75:Hid (¬ ((↑(((↑p1.length:Int):Int) - 0).toNat:Int) < (↑p1.length:Int))):=zB (wBO)
  refine sR fL1 Z (oR Z (zU Z fi64 f72) (eN (zG (cF Z c75 (ZD (zf (zf (ZB ?_))))))))
  cases hm74
  exact ⟨Z,_,(res0),φ67,_,hS69,h73⟩
theorem wDF (p0:List Int) (pA0:Option Addr) (pc0:Nat) (w:World) (φ:PHeap) (hS:St0 w φ []) (ha0:Sl φ 1 pA0 pc0 p0.length (nA KL.encI p0)) {r:Unit} (hm:wBH p0=some r):Gv Tryz.prog 254 [.slice pA0 p0.length pc0] w (wCN w [] φ (fun φ_ L_ v=>∃ (b0:Nat),v=.func (.func 302) #[] #[.pointer (some ⟨b0,0,none⟩)]/\L_=[]/\Cl φ_ b0 0 [.slice pA0 p0.length pc0])):=by
 unfold wBH at hm
 refine Gv.of Tryz.func254 rfl Tryz.ntmps254 Tryz.results254 rfl (sR (.fx 0 (.fl 1 (.nil)) .stop) rfl (ZR (cs:=[.slice pA0 p0.length pc0]) rfl rfl rfl rfl rfl rfl (by rfl) hS ?_))
 intro W1 b2 hS3
 have q:=hS3.freeze (k:=0) rfl
 obtain ⟨φ5,le6,hC7,hS8⟩:=q
 replace hC7:=Cl.of hC7
 have hS9:sW w φ φ5 [] W1:=hS8
 replace hC7:Cl φ5 b2 0 [.slice pA0 p0.length pc0]:=hC7
 refine oA Z Z (eN (sR fL2 Z (oR Z (Runs.mkf Z zR (zC Z zR)) (oA Z Z (eN (zJ ?_))))))
 cases hm
 exact ⟨Z,_,(zn Z),φ5,_,hS9,b2,Z,Z,hC7⟩
theorem wEW (p0:wAE) (pA0_1:Option Addr) (pc0_1:Nat) (pA0_2:Option Addr) (pc0_2:Nat) (w:World) (φ:PHeap) (hS:St0 w φ []) (ha0:Sl φ 1 pA0_1 pc0_1 p0.Bibs.length (nA KL.encI p0.Bibs)) (ha1:SlR φ wHZ pA0_2 pc0_2 p0.Times) {r:(List Int)} (hm:wBB p0=some r):Gv Tryz.prog 185 [.agg #[jV p0.Laps,.slice pA0_1 p0.Bibs.length pc0_1,.slice pA0_2 p0.Times.length pc0_2]] w (wCN w [] φ (fun φ_ L_ v=>∃ (b0:Nat) (A0:Option Addr) (c0:Nat),v=.func (.func 302) #[] #[.pointer (some ⟨b0,0,none⟩)]/\L_=[]/\Cl φ_ b0 0 [.slice A0 r.length c0]/\Sl φ_ 1 A0 c0 r.length (nA KL.encI r))):=by
 unfold wBB at hm
 refine Gv.of Tryz.func185 Z Tryz.ntmps185 Tryz.results185 Z (sR (.fx 0 (.fl 1 (.nil)) .stop) Z ?_)
 let B0:List Value:=[jV p0.Laps,.slice pA0_1 p0.Bibs.length pc0_1,.slice pA0_2 p0.Times.length pc0_2]
 refine ZR (cs:=B0) rfl rfl rfl rfl rfl rfl (by rfl) hS ?_
 intro W1 b2 hS3
 refine oA Z Z (eN (sR (.fl 0 (.fl 1 (.fx 2 (.fl 3 (.nil)) .stop))) Z (oR Z (zN Z Z zH Z ZG) (oL Z (hS3.ldB (j:=0) Z Z Z ZN (v:=.slice pA0_2 p0.Times.length pc0_2) Z) (bnK hm fun x5 h6 hm7=>zL 0 Z Z Z Z (zM Z Z Tryz.call252 (zC Z zR) Z) hS3 (fun hs=>wDE p0.Times pA0_2 pc0_2 W1 φ hs ha1 h6) (.inr Z) ?_)))))
 rintro φ8 L9 v10 W11 le12 hS13 ⟨A14,c15,rfl,rfl⟩
 have hS17:sW w φ φ8 [.row A14 c15 3 1 (nA KL.encI x5),.blk b2 66 B0] W11:=hS13
 refine oA Z Z (eN (sR (.fl 0 (.fx 1 (.nil) .stop)) Z (oM Z Z (bnK hm7 fun x18 h19 hm20=>zL 1 Z Z Z Z (zM Z Z Tryz.call253 (zC Z zR) Z) hS17 (fun hs=>wDa x5 A14 c15 W11 φ8 hs h19) (.inl Z) ?_))))
 rintro φ21 L22 v23 W24 le25 hS26 ⟨rfl,rfl,h27⟩
 have hS28:sW w φ φ21 [.row A14 c15 3 1 (nA KL.encI x18),.blk b2 66 B0] W24:=hS26
 refine eN (sR (.fl 0 (.fx 1 (.fx 2 (.fl 3 (.nil)) .stop) .stop)) rfl (zW rfl rfl rfl rfl rfl (Eq.trans (b:=(.slice A14 x5.length c15:Value)) (c:=(.slice A14 x18.length c15:Value)) rfl (by rw [h27])) (bnK hm20 fun x29 h30 hm31=>zL 1 rfl rfl rfl rfl (zM rfl rfl Tryz.call255 (zC rfl zR) rfl) hS28 (fun hs=>wCt x18 A14 c15 W24 φ21 hs h30) (.inl rfl) ?_)))
 rintro φ32 L33 v34 W35 le36 hS37 ⟨A38,c39,rfl,rfl⟩
 have hS41:sW w φ φ32 [.row A38 c39 3 1 (nA KL.encI x29),.blk b2 66 B0] W35:=hS37
 have q:=hS41.freezeR (k:=0) (n:=x29.length) rfl (wAG (f:=KL.encI) (sz:=1) (fun _=>rfl) x29) (by decide)
 obtain ⟨φ42,le43,hs44,hS45⟩:=q
 have hS46:sW w φ φ42 [.blk b2 66 B0] W35:=hS45
 have q:=bnd hm31
 obtain ⟨⟨⟩,h47,hm48⟩:=q
 try dsimp only at hm48
 refine zL 0 Z Z Z Z (zM Z Z Tryz.call254 (zC Z zR) Z) hS46 (fun hs=>wDF x29 A38 c39 W35 φ42 hs hs44 h47) (.inr Z) ?_
 rintro φ49 L50 v51 W52 le53 hS54 ⟨b55,rfl,rfl,h56⟩
 have hS57:sW w φ φ49 [.blk b2 66 B0] W52:=hS54
 refine oA Z Z (eN (zJ ?_))
 have h58:=hs44.le le53
 have hE:=nB hm48;first | subst r | cases hE
 exact ⟨rfl,_,(zn rfl),φ49,_,(hS57.pick [] _ (by decide) rfl),b55,A38,c39,rfl,rfl,h56,h58⟩
theorem wCc (p0:wAA) (pb0:Nat) (pA0_0_1:Option Addr) (pc0_0_1:Nat) (pA0_0_2:Option Addr) (pc0_0_2:Nat) (pA0_1:Option Addr) (pc0_1:Nat) (pA0_2:Option Addr) (pc0_2:Nat) (p1:Int) (p2:Int) (p3:Int) (w:World) (φ:PHeap) (hS:St0 w φ []) (ha0:Cl φ pb0 0 [jV p0.Race.Laps,.slice pA0_0_1 p0.Race.Bibs.length pc0_0_1,.slice pA0_0_2 p0.Race.Times.length pc0_0_2,.slice pA0_1 p0.done.length pc0_1,.slice pA0_2 p0.out.length pc0_2]) (ha1:Sl φ 1 pA0_0_1 pc0_0_1 p0.Race.Bibs.length (nA KL.encI p0.Race.Bibs)) (ha2:SlR φ wHZ pA0_0_2 pc0_0_2 p0.Race.Times) (ha3:Sl φ 1 pA0_1 pc0_1 p0.done.length (nA KL.encI p0.done)) (ha4:Sl φ 1 pA0_2 pc0_2 p0.out.length (nA KL.encT p0.out)) {r:Int} (hm:wAf p0 p1 p2 p3=some r):Gv Tryz.prog 187 [.pointer (some ⟨pb0,0,none⟩),jV p1,jV p2,jV p3] w (wCN w [] φ (fun φ_ L_ v=>v=jV r/\L_=[])):=by
 unfold wAf at hm
 refine Gv.of Tryz.func187 Z Tryz.ntmps187 Tryz.results187 Z (sR fL1 Z (oA Z Z (eN (sR fL1 Z (oA Z Z (eN (zG (sR fL6 Z (oM Z Z (oR Z (zu Z Z) (oR Z (zN Z Z zh Z zV) (oL Z (hS.ldC (f:=3) ha0 (v:=.slice pA0_1 p0.done.length pc0_1) Z Z zj Z) (oR Z (zo Z Z zA) (oM Z Z (eN (zS (bnK hm fun y12 hf9 hm8=>?_)))))))))))))))))
 have q:=wBx hf9
 obtain ⟨hle10,hf11⟩:=q
 replace hle10:=zB hle10
 refine CK.forN' (fun k7 x6 σ_ w_=>∃ (φ_:PHeap),σ_ 17=jV (↑k7:Int)/\σ_ 0=.pointer (some ⟨pb0,0,none⟩)/\σ_ 2=jV p2/\σ_ 3=jV p3/\σ_ 9=jV x6/\σ_ 15=.slice pA0_1 p0.done.length pc0_1/\σ_ 16=jV (↑p0.done.length:Int)/\PHeap.Le φ φ_/\sW w φ φ_ [] w_) hf11 ?_ ?_ ?_
 ·exact ⟨φ,Z,Z,Z,Z,Z,Z,Z,(zO _),hS⟩
 ·rintro k7 x6 xx15 σ13 W14 hk18 ⟨φ20,fi19,f23,f24,f25,f26,f27,f28,le21,hS22⟩ hx16
  have c29:Hid ((↑k7:Int) < (↑p0.done.length:Int)):=zB (wBm hk18)
  replace hk18:=zB hk18
  have hi30:Hid (w64 ((↑k7:Int) + 1)=(↑(k7 + 1):Int)):=zB (by have h1:=hle10.out;have h2:=c29.out;rw [wAa] <;> omega)
  refine sR fL1 Z (oR Z (zU Z fi19 f28) (eN (zG (cT Z c29 (kN (bnK hx16 fun x31 hx33 hm34=>CK.cut (fun σ_ w_=>∃ (φ_:PHeap),σ_ 0=.pointer (some ⟨pb0,0,none⟩)/\σ_ 2=jV p2/\σ_ 3=jV p3/\σ_ 9=jV x31/\σ_ 15=.slice pA0_1 p0.done.length pc0_1/\σ_ 16=jV (↑p0.done.length:Int)/\σ_ 17=jV (↑k7:Int)/\PHeap.Le φ20 φ_/\sW w φ φ_ [] w_) ?_ ?_))))))
  ·refine zS (sR fL5 Z (oM Z fi19 (bnK hx33 fun x35 h36 hm37=>?_)))
   have h38:=ha3.le le21
   have q:=h38.el (fun _=>rfl) (wAs h36)
   obtain ⟨b39,off40,hA41,hC42⟩:=q
   refine zk rfl rfl rfl rfl (fun _=>zy rfl f27 hA41 fi19 zA zD (wCA h36)) (zz rfl rfl rfl rfl (hS22.ldC (f:=0) hC42 (v:=jV x35) rfl rfl zK rfl) rfl (OKS.ra rfl rfl rfl rfl rfl rfl (OKS.ra rfl rfl rfl rfl rfl rfl (eN (zG (CK.anyOrd Za [3,3,3,1,3,3,1,3,3,3,3,3,3,3,3,3,3,3,3,1,3,3,1,3,3,3,1,3,3,3,3,3,3,3,3,3,3,3,1,3,3,1,3,3,3,3,1,3,3,1,3,3,3] fL53 (by kernel_rfl) ?_))))))
   have hS43:=hS22.drew
   generalize hw_W44:({ W14 with drawn:=W14.drawn + 1 }:World)=W44 at hS43 ⊢
   refine oM Z f23 (oR Z (zu Z Z) (oR Z (zN Z Z zh Z Tryz.sizeOf77) ?_))
   have h45:=ha0.le le21
   refine oL Z (hS43.ldC (f:=4) h45 (v:=.slice pA0_2 p0.out.length pc0_2) Z Z Tryz.isAgg77 Z) (oM Z Z (bnK hm37 fun x46 h47 hm48=>?_))
   have h49:=ha4.le le21
   have q:=h49.el (fun _=>rfl) (wAs h47)
   obtain ⟨b50,off51,hA52,hC53⟩:=q
   refine oR Z (zy Z Z hA52 Z ZF ZX (wCA h47)) (oL Z (hS43.ldC (f:=0) hC53 (v:=.bool x46) Z Z Tryz.isAgg4 Z) (oR Z (ZH Z Z) (oM Z Z (ifc hm48 ?_ ?_))))
   ·intro c54 hm55
    refine zP Z Z Z (zg Z Z (nC c54.out) Z) (zP Z Z Z (zg Z Z (nC c54.out) Z) (zP Z Z Z (zg Z Z (nC c54.out) Z) (zP Z Z Z (zg Z Z (nC c54.out) Z) (oR Z (zr Z (nC c54.out) Z) (oM Z Z (oN Z (oN Z (oN Z (oN Z (oN Z (oN Z (oN Z (oN Z (oN Z (oN Z (oN Z (oN Z (oN Z (oN Z (oR Z (zr Z Z Z) (oM Z Z (oN Z (oN Z (oN Z (zP Z Z Z (wAN Z Z Z) (zP Z Z Z (wAN Z Z Z) (zP Z Z Z (wAN Z Z Z) (zP Z Z Z (wAN Z Z Z) (zP Z Z Z (wAN Z Z Z) (zP Z Z Z (wAN Z Z Z) (zP Z Z Z (wAN Z Z Z) (zP Z Z Z (wAN Z Z Z) (zP Z Z Z (wAN Z Z Z) (zP Z Z Z (wAN Z Z Z) (zP Z Z Z (wAN Z Z Z) (zP Z Z Z (wAN Z Z Z) (zP Z Z Z (wAN Z Z Z) (zP Z Z Z (wAN Z Z Z) (zP Z Z Z (wAN Z Z Z) (zP Z Z Z (wAN Z Z Z) (zP Z Z Z (wAN Z Z Z) (oN Z (oR Z (zr Z Z Z) (eN (zx Z (ZE (zZ ?_)))))))))))))))))))))))))))))))))))))))))))))))
    cases hm55
    exact zF ⟨Z,⟨φ20,f23,f24,f25,f26,f27,f28,fi19,(zO _),hS43⟩⟩
   ·intro c54 hm57
    refine zW Z Z Z (zX Z Z (nF (c54.out))) Z Z (zW Z Z Z (zX Z Z (nF (c54.out))) Z f24 (zk Z Z Z (zX Z Z (nF (c54.out))) (fun _=>zQ Z Z Z) (zk Z Z Z (zX Z Z (nF (c54.out))) (fun _=>Runs.geq Z Z Z) (oR Z (zm Z (nF (c54.out)) Z) (oM Z Z (ifc hm57 ?_ ?_))))))
    ·intro c58 hm59
     refine zW Z Z Z (wT Z c58) Z f23 (rU Z (wT Z c58) (zu Z Z) (rU Z (wT Z c58) (zN Z Z zh Z ZA) (rU Z (wT Z c58) (zN Z Z zH Z ZG) (zz Z Z Z (wT Z c58) (hS43.ldC (f:=2) h45 (v:=.slice pA0_0_2 p0.Race.Times.length pc0_0_2) Z Z ZN Z) Z (zW Z Z Z (wT Z c58) Z Z (bnK hm59 fun x60 h61 hm62=>?_))))))
     have h63:=ha2.le le21
     have q:=h63.el (wAs h61)
     obtain ⟨b64,off65,vs68,hA66,hC67,hr69⟩:=q
     obtain ⟨pA70,pc71,rfl,h72⟩:=hr69
     replace hC67:Cl φ20 b64 (off65 + k7 * 1) [.slice pA70 x60.length pc71]:=hC67
     refine rU Z (wT Z c58) (zy Z Z hA66 Z ze zV (wCA h61)) (zz Z Z Z (wT Z c58) (hS43.ldC (f:=0) hC67 (v:=.slice pA70 x60.length pc71) Z Z zj Z) Z (zW Z Z Z (wT Z c58) Z Z (rU Z (wT Z c58) (Runs.subw Z Z Z) (bnK hm62 fun x73 h74 hm75=>?_))))
     have q:=h72.el (fun _=>rfl) (wAs h74)
     obtain ⟨b76,off77,hA78,hC79⟩:=q
     refine rU Z (wT Z c58) (ZM Z Z hA78 Z zA zD (wDi h74) (wEN h74)) (zz Z Z Z (wT Z c58) (hS43.ldC (f:=0) hC79 (v:=jV x73) Z Z zK Z) Z (zW Z Z Z (wT Z c58) Z f25 (rU Z (wT Z c58) (Runs.eql Z Z Z) (oR Z (zm Z (wGe c58.out) Z) (oM Z Z (ifc hm75 ?_ ?_))))))
     ·intro c80 hm81
      refine zW Z Z Z (wT Z c80) Z f26 (rU Z (wT Z c80) (zU Z Z Z) (zW Z Z Z (wT Z c80) Z Z (ifc hm81 ?_ ?_)))
      ·intro c82 hm83
       refine oT Z c82 (oT Z c82 (oT Z c82 (oT Z c82 (oT Z c82 (oT Z c82 (oT Z c82 (oT Z c82 (oT Z c82 (oT Z c82 (oT Z c82 (oT Z c82 (oT Z c82 (oT Z c82 (oT Z c82 (oT Z c82 (oT Z c82 (rU Z (wT Z c80) (zm Z (wGe c82.out) Z) (oR Z (zm Z (wGe c80.out) Z) (eN (ZC Z (CK.fresh fun σ84 hσ85=>?_)))))))))))))))))))))
       have f86:σ84 0=.pointer (some ⟨pb0,0,none⟩):=(hσ85 0).trans f23
       have f87:σ84 2=jV p2:=(hσ85 2).trans f24
       have f88:σ84 3=jV p3:=(hσ85 3).trans f25
       have f89:σ84 9=jV x6:=(hσ85 9).trans f26
       have f90:σ84 10=jV (↑k7:Int):=(hσ85 10).trans rfl
       have f91:σ84 15=.slice pA0_1 p0.done.length pc0_1:=(hσ85 15).trans f27
       have f92:σ84 16=jV (↑p0.done.length:Int):=(hσ85 16).trans f28
       have f93:σ84 17=jV (↑k7:Int):=(hσ85 17).trans fi19
       clear hσ85
       refine rR fL2 Z (oM Z f90 (oA Z Z (zq (zZ ?_))))
       cases hm83
       exact zF ⟨Z,⟨φ20,f86,f87,f88,Z,f91,f92,f93,(zO _),hS43⟩⟩
      ·intro c82 hm95
       refine zW Z Z Z (wF Z c82) Z f23 (rU Z (wF Z c82) (zu Z Z) (rU Z (wF Z c82) (zN Z Z zh Z ZA) (rU Z (wF Z c82) (zN Z Z zH Z zV) (zz Z Z Z (wF Z c82) (hS43.ldC (f:=1) h45 (v:=.slice pA0_0_1 p0.Race.Bibs.length pc0_0_1) Z Z zj Z) Z (zW Z Z Z (wF Z c82) Z Z (bnK hm95 fun x96 h97 hm98=>?_))))))
       have h99:=ha1.le le21
       have q:=h99.el (fun _=>rfl) (wAs h97)
       obtain ⟨b100,off101,hA102,hC103⟩:=q
       refine rU Z (wF Z c82) (zy Z Z hA102 Z zA zD (wCA h97)) (zz Z Z Z (wF Z c82) (hS43.ldC (f:=0) hC103 (v:=jV x96) Z Z zK Z) Z (zW Z Z Z (wF Z c82) Z f23 (rU Z (wF Z c82) (zu Z Z) (rU Z (wF Z c82) (zN Z Z zh Z ZA) (rU Z (wF Z c82) (zN Z Z zH Z zV) (zz Z Z Z (wF Z c82) (hS43.ldC (f:=1) h45 (v:=.slice pA0_0_1 p0.Race.Bibs.length pc0_0_1) Z Z zj Z) Z (zW Z Z Z (wF Z c82) Z f26 (bnK hm98 fun x104 h105 hm106=>?_))))))))
       have q:=h99.el (fun _=>rfl) (wAs h105)
       obtain ⟨b107,off108,hA109,hC110⟩:=q
       refine rU Z (wF Z c82) (ZM Z Z hA109 Z zA zD (wDi h105) (wEN h105)) (zz Z Z Z (wF Z c82) (hS43.ldC (f:=0) hC110 (v:=jV x104) Z Z zK Z) Z (rU Z (wF Z c82) (zU Z Z Z) (rU Z (wT Z c80) (zr Z (ZL c82.out) Z) (oR Z (zm Z (wGe c80.out) Z) (eN (ifc hm106 ?_ ?_))))))
       ·intro c111 hm112
        refine cT Z c111 (CK.fresh fun σ113 hσ114=>?_)
        have f115:σ113 0=.pointer (some ⟨pb0,0,none⟩):=(hσ114 0).trans f23
        have f116:σ113 2=jV p2:=(hσ114 2).trans f24
        have f117:σ113 3=jV p3:=(hσ114 3).trans f25
        have f118:σ113 9=jV x6:=(hσ114 9).trans f26
        have f119:σ113 10=jV (↑k7:Int):=(hσ114 10).trans rfl
        have f120:σ113 15=.slice pA0_1 p0.done.length pc0_1:=(hσ114 15).trans f27
        have f121:σ113 16=jV (↑p0.done.length:Int):=(hσ114 16).trans f28
        have f122:σ113 17=jV (↑k7:Int):=(hσ114 17).trans fi19
        clear hσ114
        refine rR fL2 Z (oM Z f119 (oA Z Z (zq (zZ ?_))))
        cases hm112
        exact zF ⟨Z,⟨φ20,f115,f116,f117,Z,f120,f121,f122,(zO _),hS43⟩⟩
       ·intro c111 hm124
        refine cF Z c111 (ZE (zZ ?_))
        cases hm124
        exact zF ⟨Z,⟨φ20,f23,f24,f25,f26,f27,f28,fi19,(zO _),hS43⟩⟩
     ·intro c80 hm126
      refine oF Z c80 (oF Z c80 (oF Z c80 (zP Z Z Z (wAN Z Z Z) (zP Z Z Z (wAN Z Z Z) (zP Z Z Z (wAN Z Z Z) (zP Z Z Z (wAN Z Z Z) (zP Z Z Z (wAN Z Z Z) (zP Z Z Z (wAN Z Z Z) (zP Z Z Z (wAN Z Z Z) (zP Z Z Z (wAN Z Z Z) (zP Z Z Z (wAN Z Z Z) (zP Z Z Z (wAN Z Z Z) (zP Z Z Z (wAN Z Z Z) (zP Z Z Z (wAN Z Z Z) (zP Z Z Z (wAN Z Z Z) (zP Z Z Z (wAN Z Z Z) (zP Z Z Z (wAN Z Z Z) (zP Z Z Z (wAN Z Z Z) (zP Z Z Z (wAN Z Z Z) (oF Z c80 (oR Z (zr Z (ZL c80.out) Z) (eN (zx Z (ZE (zZ ?_)))))))))))))))))))))))))
      cases hm126
      exact zF ⟨Z,⟨φ20,f23,f24,f25,f26,f27,f28,fi19,(zO _),hS43⟩⟩
    ·intro c58 hm128
     refine oF Z c58 (oF Z c58 (oF Z c58 (oF Z c58 (oF Z c58 (oF Z c58 (oF Z c58 (oF Z c58 (oF Z c58 (oF Z c58 (oF Z c58 (oF Z c58 (oF Z c58 (oF Z c58 (oR Z (zr Z (ZL c58.out) Z) (oM Z Z (oN Z (oN Z (oN Z (zP Z Z Z (wAN Z Z Z) (zP Z Z Z (wAN Z Z Z) (zP Z Z Z (wAN Z Z Z) (zP Z Z Z (wAN Z Z Z) (zP Z Z Z (wAN Z Z Z) (zP Z Z Z (wAN Z Z Z) (zP Z Z Z (wAN Z Z Z) (zP Z Z Z (wAN Z Z Z) (zP Z Z Z (wAN Z Z Z) (zP Z Z Z (wAN Z Z Z) (zP Z Z Z (wAN Z Z Z) (zP Z Z Z (wAN Z Z Z) (zP Z Z Z (wAN Z Z Z) (zP Z Z Z (wAN Z Z Z) (zP Z Z Z (wAN Z Z Z) (zP Z Z Z (wAN Z Z Z) (zP Z Z Z (wAN Z Z Z) (oN Z (oR Z (zr Z Z Z) (eN (zx Z (ZE (zZ ?_)))))))))))))))))))))))))))))))))))))))))
     cases hm128
     exact zF ⟨Z,⟨φ20,f23,f24,f25,f26,f27,f28,fi19,(zO _),hS43⟩⟩
  ·rintro σ130 W131 ⟨φ132,f135,f136,f137,f138,f139,f140,f141,le133,hS134⟩
   refine rR fL2 Z (oR Z (zt (zQ Z f141 Z) (congrArg (jV) hi30.out)) (oM Z Z (zq ?_)))
   cases hm34
   exact zF ⟨Z,⟨φ132,Z,f135,f136,f137,f138,f139,f140,(le21.trans le133),hS134⟩⟩
 ·rintro σ143 W144 ⟨φ148,fi146,f151,f152,f153,f154,f155,f156,le149,hS150⟩
  have c157:Hid (¬ ((↑(((↑p0.done.length:Int):Int) - 0).toNat:Int) < (↑p0.done.length:Int))):=zB (wBO)
  refine sR fL1 Z (oR Z (zU Z fi146 f156) (eN (zG (cF Z c157 (ZD (zf (zf (ZB (zF (sR fL2 Z (oM Z f154 (oA Z Z (eN (zJ ?_))))))))))))))
  have hE:=nB hm8;first | subst r | cases hE
  exact ⟨Z,_,(zn Z),φ148,_,hS150,Z,Z⟩
theorem wDb (p0:wAA) (pb0:Nat) (pA0_0_1:Option Addr) (pc0_0_1:Nat) (pA0_0_2:Option Addr) (pc0_0_2:Nat) (pA0_1:Option Addr) (pc0_1:Nat) (pA0_2:Option Addr) (pc0_2:Nat) (p1:Int) (w:World) (φ:PHeap) (hS:St0 w φ [.blk pb0 204 [jV p0.Race.Laps,.slice pA0_0_1 p0.Race.Bibs.length pc0_0_1,.slice pA0_0_2 p0.Race.Times.length pc0_0_2,.slice pA0_1 p0.done.length pc0_1,.slice pA0_2 p0.out.length pc0_2],.row pA0_1 pc0_1 3 1 (nA KL.encI p0.done),.row pA0_2 pc0_2 4 1 (nA KL.encT p0.out)]) (ha0:Sl φ 1 pA0_0_1 pc0_0_1 p0.Race.Bibs.length (nA KL.encI p0.Race.Bibs)) (ha1:SlR φ wHZ pA0_0_2 pc0_0_2 p0.Race.Times) {r:(List Int) × wAA} (hm:wAg p0 p1=some r):Gv Tryz.prog 186 [.pointer (some ⟨pb0,0,none⟩),jV p1] w (wCN w [.blk pb0 204 [jV p0.Race.Laps,.slice pA0_0_1 p0.Race.Bibs.length pc0_0_1,.slice pA0_0_2 p0.Race.Times.length pc0_0_2,.slice pA0_1 p0.done.length pc0_1,.slice pA0_2 p0.out.length pc0_2],.row pA0_1 pc0_1 3 1 (nA KL.encI p0.done),.row pA0_2 pc0_2 4 1 (nA KL.encT p0.out)] φ (fun φ_ L_ v=>∃ (A0:Option Addr) (c0:Nat) (Ao001:Option Addr) (co001:Nat) (Ao002:Option Addr) (co002:Nat) (Ao01:Option Addr) (co01:Nat) (Ao02:Option Addr) (co02:Nat),v=.slice A0 r.1.length c0/\L_=[.row A0 c0 3 1 (nA KL.encI r.1),.row Ao01 co01 3 1 (nA KL.encI r.2.done),.row Ao02 co02 4 1 (nA KL.encT r.2.out),.blk pb0 204 [jV r.2.Race.Laps,.slice Ao001 r.2.Race.Bibs.length co001,.slice Ao002 r.2.Race.Times.length co002,.slice Ao01 r.2.done.length co01,.slice Ao02 r.2.out.length co02]]/\Sl φ_ 1 Ao001 co001 r.2.Race.Bibs.length (nA KL.encI r.2.Race.Bibs)/\SlR φ_ wHZ Ao002 co002 r.2.Race.Times)):=by
 unfold wAg at hm
 refine Gv.of Tryz.func186 Z Tryz.ntmps186 Tryz.results186 Z (sR fL1 Z (oA Z Z (eN (zG (sR fL7 Z (oM Z Z (oR Z (zu Z Z) (oR Z (zN Z Z zh Z ZA) (oR Z (zN Z Z zH Z ZG) (oL Z (hS.ldB (j:=0) Z Z Z ZN (v:=.slice pA0_0_2 p0.Race.Times.length pc0_0_2) Z) (oR Z (zo Z Z ze) (oM Z Z (eN (zS (bnK hm fun y15 hf12 hm11=>?_)))))))))))))))
 have q:=wBx hf12
 obtain ⟨hle13,hf14⟩:=q
 replace hle13:=zB hle13
 let B0:Res:=.blk pb0 204 [jV p0.Race.Laps,.slice pA0_0_1 p0.Race.Bibs.length pc0_0_1,.slice pA0_0_2 p0.Race.Times.length pc0_0_2,.slice pA0_1 p0.done.length pc0_1,.slice pA0_2 p0.out.length pc0_2]
 let B1:Res:=.row pA0_2 pc0_2 4 1 (nA KL.encT p0.out)
 let B2:Res:=.row pA0_1 pc0_1 3 1 (nA KL.encI p0.done)
 refine CK.forN' (fun k10 l9 σ_ w_=>∃ (φ_:PHeap),σ_ 17=jV (↑k10:Int)/\σ_ 0=.pointer (some ⟨pb0,0,none⟩)/\σ_ 1=jV p1/\σ_ 15=.slice pA0_0_2 p0.Race.Times.length pc0_0_2/\σ_ 16=jV (↑p0.Race.Times.length:Int)/\PHeap.Le φ φ_/\SW w [B0,B2,B1] φ φ_ [.row pA0_1 pc0_1 3 1 (nA KL.encI l9),B1,.blk pb0 204 [jV p0.Race.Laps,.slice pA0_0_1 p0.Race.Bibs.length pc0_0_1,.slice pA0_0_2 p0.Race.Times.length pc0_0_2,.slice pA0_1 l9.length pc0_1,.slice pA0_2 p0.out.length pc0_2]] w_/\l9.length=p0.done.length) hf14 ?_ ?_ ?_
 ·exact ⟨φ,rfl,rfl,rfl,rfl,rfl,(zO _),(hS.pick [1,2,0] _ (by decide) rfl),rfl⟩
 ·rintro k10 l9 xx18 σ16 W17 hk21 ⟨φ23,fi22,f26,f27,f28,f29,le24,hS25,h30⟩ hx19
  have c31:Hid ((↑k10:Int) < (↑p0.Race.Times.length:Int)):=zB (wBm hk21)
  replace hk21:=zB hk21
  have hi32:Hid (w64 ((↑k10:Int) + 1)=(↑(k10 + 1):Int)):=zB (by have h1:=hle13.out;have h2:=c31.out;rw [wAa] <;> omega)
  refine sR fL1 Z (oR Z (zU Z fi22 f29) (eN (zG (cT Z c31 (kN (zG (zS (sR fL5 Z (oM Z fi22 (bnK hx19 fun x33 h34 hm35=>?_))))))))))
  have h36:=ha1.le le24
  have q:=h36.el (wAs h34)
  obtain ⟨b37,off38,vs41,hA39,hC40,hr42⟩:=q
  obtain ⟨pA43,pc44,rfl,h45⟩:=hr42
  replace hC40:Cl φ23 b37 (off38 + k10 * 1) [.slice pA43 x33.length pc44]:=hC40
  refine oR Z (zy Z f28 hA39 fi22 ze zV (wCA h34)) (oL Z (hS25.ldC (f:=0) hC40 (v:=.slice pA43 x33.length pc44) Z Z zj Z) (oA Z Z (oA Z Z (eN (sR fL8 Z (oM Z f26 (oR Z (zu Z Z) (oR Z (zN Z Z zh Z zV) (oL Z (hS25.ldB (j:=2) Z Z Z zj (v:=.slice pA0_1 l9.length pc0_1) Z) (oM Z Z (bnK hm35 fun _ h46 hm47=>?_)))))))))))
  obtain ⟨b48,hA49⟩:=hS25.rowSome (j:=0) rfl (by rw [wAG (f:=KL.encI) (sz:=1) (fun _=>rfl) l9];have hz:=wAe h46;omega)
  refine oR Z (zy Z Z hA49 Z zA zD (wAe h46)) ?_
  have hg50:=wBh (xs:=l9) (wAe h46)
  refine zz rfl rfl rfl rfl (hS25.ldR (j:=0) rfl hA49 rfl rfl zK (wAk (sz:=1) (fun _=>rfl) _ _ 0 _ hg50 (by first | omega | rfl | simp) rfl)) rfl (OKS.ra rfl rfl rfl rfl rfl rfl (eN (sR fL22 rfl (zW rfl rfl rfl rfl rfl f26 (zk rfl rfl rfl rfl (fun _=>zu rfl rfl) (zk rfl rfl rfl rfl (fun _=>zN rfl rfl zh rfl Tryz.sizeOf77) (zz rfl rfl rfl rfl (hS25.ldB (j:=2) rfl rfl rfl Tryz.isAgg77 (v:=.slice pA0_2 p0.out.length pc0_2) rfl) rfl (zW rfl rfl rfl rfl rfl rfl (bnK hm47 fun _ h51 hm52=>?_)))))))))
  obtain ⟨b53,hA54⟩:=hS25.rowSome (j:=1) rfl (by rw [wAG (f:=KL.encT) (sz:=1) (fun _=>rfl) p0.out];have hz:=wAe h51;omega)
  refine oR Z (zy Z Z hA54 Z ZF ZX (wAe h51)) ?_
  have hg55:=wBh (xs:=p0.out) (wAe h51)
  refine zz rfl rfl rfl rfl (hS25.ldR (j:=1) rfl hA54 rfl rfl Tryz.isAgg4 (wAk (sz:=1) (fun _=>rfl) _ _ 0 _ hg55 (by first | omega | rfl | simp) rfl)) rfl (zk rfl rfl rfl rfl (fun _=>ZH rfl rfl) (zW rfl rfl rfl rfl rfl rfl (ifc hm52 ?_ ?_)))
  ·intro c56 hm57
   refine zP Z Z Z (zg Z Z (nC c56.out) Z) (zP Z Z Z (zg Z Z (nC c56.out) Z) (zP Z Z Z (zg Z Z (nC c56.out) Z) (zP Z Z Z (zg Z Z (nC c56.out) Z) (oR Z (zr Z (nC c56.out) Z) (oM Z Z (oN Z (oN Z (oN Z (oN Z (oN Z (oN Z (oR Z (zr Z Z Z) (eN (zx Z (ZE (zZ (zF (rR fL2 Z (oR Z (zt (zQ Z fi22 Z) (congrArg (jV) hi32.out)) (oM Z Z (zq ?_)))))))))))))))))))))
   cases hm57
   exact zF ⟨Z,⟨φ23,Z,f26,f27,f28,f29,le24,hS25,h30⟩⟩
  ·intro c56 hm59
   refine zW Z Z Z (zX Z Z (nF (c56.out))) Z Z (zW Z Z Z (zX Z Z (nF (c56.out))) Z Z (zk Z Z Z (zX Z Z (nF (c56.out))) (fun _=>zo Z Z zA) (zk Z Z Z (zX Z Z (nF (c56.out))) (fun _=>zU Z Z Z) (oR Z (zm Z (nF (c56.out)) Z) (oM Z Z (ifc hm59 ?_ ?_))))))
   ·intro c60 hm61
    refine zW Z Z Z (wT Z c60) Z Z (zW Z Z Z (wT Z c60) Z Z (bnK hm61 fun x62 h63 hm64=>?_))
    have q:=h45.el (fun _=>rfl) (wAs h63)
    obtain ⟨b65,off66,hA67,hC68⟩:=q
    refine rU Z (wT Z c60) (ZM Z Z hA67 Z zA zD (wDi h63) (wEN h63)) (zz Z Z Z (wT Z c60) (hS25.ldC (f:=0) hC68 (v:=jV x62) Z Z zK Z) Z (zW Z Z Z (wT Z c60) Z f27 (rU Z (wT Z c60) (Runs.eql Z Z Z) (oR Z (zm Z (wGe c60.out) Z) (eN (ifc hm64 ?_ ?_))))))
    ·intro c69 hm70
     refine cT Z c69 (CK.fresh fun σ71 hσ72=>?_)
     have f73:σ71 0=.pointer (some ⟨pb0,0,none⟩):=(hσ72 0).trans f26
     have f74:σ71 1=jV p1:=(hσ72 1).trans f27
     have f75:σ71 5=jV (↑k10:Int):=(hσ72 5).trans rfl
     have f76:σ71 15=.slice pA0_0_2 p0.Race.Times.length pc0_0_2:=(hσ72 15).trans f28
     have f77:σ71 16=jV (↑p0.Race.Times.length:Int):=(hσ72 16).trans f29
     have f78:σ71 17=jV (↑k10:Int):=(hσ72 17).trans fi22
     clear hσ72
     refine rR (fC0_8 (.fx 9 (.nil) .stop)) Z (oM Z f73 (oR Z (zu Z Z) (oR Z (zN Z Z zh Z zV) (oL Z (hS25.ldB (j:=2) Z Z Z zj (v:=.slice pA0_1 l9.length pc0_1) Z) (oM Z f75 (oR Z (zy Z Z hA49 Z zA zD (wAe h46)) ?_))))))
     have hg79:=wBh (xs:=l9) (wAe h46)
     refine zz rfl rfl rfl rfl (hS25.ldR (j:=0) rfl hA49 rfl rfl zK (wAk (sz:=1) (fun _=>rfl) _ _ 0 _ hg79 (by first | omega | rfl | simp) rfl)) rfl (zk rfl rfl rfl rfl (fun _=>zQ rfl rfl rfl) (zk rfl rfl rfl rfl (fun _=>zy rfl rfl hA49 rfl zA zD (wAe h46)) ?_))
     have hg80:=wBh (xs:=l9) (wAe h46)
     refine OKS.stR (j:=0) (vs:=[jV (w64 ((gd l9 k10) + 1))]) (cs':=nA KL.encI (nJ l9 k10 (w64 ((gd l9 k10) + 1)))) rfl rfl rfl rfl hS25 rfl hA49 rfl rfl rfl zD (by rw [wAG (f:=KL.encI) (sz:=1) (fun _=>rfl)];have hz:=wAe h46;show _ + 1 <= _;first | omega | (simp only [nK];omega) | (simp only [nI,nG,nH];omega)) rfl (wFO (sz:=1) (fo:=0) (fun _=>rfl) _ _ _ _ hg80 (by first | omega | (simp only [nK];omega) | (simp only [nI,nG,nH];omega)) (zY rfl) rfl) rfl ?_
     intro W81 hS82
     let B3:Res:=.row pA0_1 pc0_1 3 1 (nA KL.encI (nJ l9 k10 (w64 ((gd l9 k10) + 1))))
     have hS83:SW w [B0,B2,B1] φ φ23 [B3,B1,.blk pb0 204 [jV p0.Race.Laps,.slice pA0_0_1 p0.Race.Bibs.length pc0_0_1,.slice pA0_0_2 p0.Race.Times.length pc0_0_2,.slice pA0_1 l9.length pc0_1,.slice pA0_2 p0.out.length pc0_2]] W81:=hS82
     have hS84:SW w [B0,B2,B1] φ φ23 [B3,B1,.blk pb0 204 [jV p0.Race.Laps,.slice pA0_0_1 p0.Race.Bibs.length pc0_0_1,.slice pA0_0_2 p0.Race.Times.length pc0_0_2,.slice pA0_1 ((nJ l9 k10 (w64 ((gd l9 k10) + 1))).length) pc0_1,.slice pA0_2 p0.out.length pc0_2]] W81:=by simpa only [nM] using hS83
     refine zq (zZ (zF (rR fL2 Z (oR Z (zt (zQ Z f78 Z) (congrArg (jV) hi32.out)) (oM Z Z (zq ?_))))))
     cases hm70
     exact zF ⟨Z,⟨φ23,Z,f73,f74,f76,f77,le24,hS84,(nM.trans h30)⟩⟩
    ·intro c69 hm86
     refine cF Z c69 (ZE (zZ (zF (rR fL2 Z (oR Z (zt (zQ Z fi22 Z) (congrArg (jV) hi32.out)) (oM Z Z (zq ?_)))))))
     cases hm86
     exact zF ⟨Z,⟨φ23,Z,f26,f27,f28,f29,le24,hS25,h30⟩⟩
   ·intro c60 hm88
    refine oF Z c60 (oF Z c60 (oF Z c60 (oF Z c60 (oF Z c60 (oF Z c60 (oR Z (zr Z (ZL c60.out) Z) (eN (zx Z (ZE (zZ (zF (rR fL2 Z (oR Z (zt (zQ Z fi22 Z) (congrArg (jV) hi32.out)) (oM Z Z (zq ?_)))))))))))))))
    cases hm88
    exact zF ⟨Z,⟨φ23,Z,f26,f27,f28,f29,le24,hS25,h30⟩⟩
 ·rintro σ90 W91 ⟨φ95,fi93,f98,f99,f100,f101,le96,hS97,h102⟩
  have c103:Hid (¬ ((↑(((↑p0.Race.Times.length:Int):Int) - 0).toNat:Int) < (↑p0.Race.Times.length:Int))):=zB (wBO)
  refine sR fL1 Z (oR Z (zU Z fi93 f101) (eN (zG (cF Z c103 (ZD (zf (zf (ZB (zF (sR fL1 Z (oA Z Z (eN (zG (sR fL6 Z (oM Z f98 (oR Z (zu Z Z) (oR Z (zN Z Z zh Z zV) (oL Z (hS97.ldB (j:=2) Z Z Z zj (v:=.slice pA0_1 y15.length pc0_1) Z) (oR Z (zo Z Z zA) (oM Z Z (eN (zS (bnK hm11 fun y126 hf123 hm122=>?_)))))))))))))))))))))))
  have q:=wBx hf123
  obtain ⟨hle124,hf125⟩:=q
  replace hle124:=zB hle124
  let B4:List Value:=[jV p0.Race.Laps,.slice pA0_0_1 p0.Race.Bibs.length pc0_0_1,.slice pA0_0_2 p0.Race.Times.length pc0_0_2,.slice pA0_1 y15.length pc0_1,.slice pA0_2 p0.out.length pc0_2]
  let B5:Res:=.row pA0_1 pc0_1 3 1 (nA KL.encI y15)
  refine CK.forN' (fun k121 l117 σ_ w_=>∃ (φ_:PHeap) (A118:Option Addr) (c119:Nat),σ_ 66=jV (↑k121:Int)/\σ_ 0=.pointer (some ⟨pb0,0,none⟩)/\σ_ 1=jV p1/\σ_ 8=.slice A118 l117.length c119/\σ_ 64=.slice pA0_1 y15.length pc0_1/\σ_ 65=jV (↑y15.length:Int)/\PHeap.Le φ95 φ_/\SW w [B0,B2,B1] φ φ_ [B5,B1,.blk pb0 204 B4,.row A118 c119 3 1 (nA KL.encI l117)] w_) hf125 ?_ ?_ ?_
  ·have hS127:=hS97.nilrow 3 1
   exact ⟨φ95,none,0,rfl,f98,f99,rfl,rfl,rfl,(zO _),(hS127.pick [1,2,3,0] _ (by decide) rfl)⟩
  ·rintro k121 l117 xx131 σ129 W130 hk134 ⟨φ136,A118,c119,fi135,f139,f140,f141,f142,f143,le137,hS138⟩ hx132
   have c144:Hid ((↑k121:Int) < (↑y15.length:Int)):=zB (wBm hk134)
   replace hk134:=zB hk134
   have hi145:Hid (w64 ((↑k121:Int) + 1)=(↑(k121 + 1):Int)):=zB (by have h1:=hle124.out;have h2:=c144.out;rw [wAa] <;> omega)
   refine sR fL1 Z (oR Z (zU Z fi135 f143) (eN (zG (cT Z c144 (kN (zG (zS (sR fL5 Z (oM Z fi135 (bnK hx132 fun _ h146 hm147=>?_))))))))))
   obtain ⟨b148,hA149⟩:=hS138.rowSome (j:=0) rfl (by rw [wAG (f:=KL.encI) (sz:=1) (fun _=>rfl) y15];have hz:=wAe h146;omega)
   refine oR Z (zy Z f142 hA149 fi135 zA zD (wAe h146)) ?_
   have hg150:=wBh (xs:=y15) (wAe h146)
   refine zz rfl rfl rfl rfl (hS138.ldR (j:=0) rfl hA149 rfl rfl zK (wAk (sz:=1) (fun _=>rfl) _ _ 0 _ hg150 (by first | omega | rfl | simp) rfl)) rfl (OKS.ra rfl rfl rfl rfl rfl rfl (OKS.ra rfl rfl rfl rfl rfl rfl (eN (sR (wQM (.fx 13 (.fl 14 (.fl 15 (.nil))) .stop)) rfl (zW rfl rfl rfl rfl rfl f139 (zk rfl rfl rfl rfl (fun _=>zu rfl rfl) (zk rfl rfl rfl rfl (fun _=>zN rfl rfl zh rfl Tryz.sizeOf77) (zz rfl rfl rfl rfl (hS138.ldB (j:=2) rfl rfl rfl Tryz.isAgg77 (v:=.slice pA0_2 p0.out.length pc0_2) rfl) rfl (zW rfl rfl rfl rfl rfl rfl (bnK hm147 fun _ h151 hm152=>?_))))))))))
   obtain ⟨b153,hA154⟩:=hS138.rowSome (j:=1) rfl (by rw [wAG (f:=KL.encT) (sz:=1) (fun _=>rfl) p0.out];have hz:=wAe h151;omega)
   refine oR Z (zy Z Z hA154 Z ZF ZX (wAe h151)) ?_
   have hg155:=wBh (xs:=p0.out) (wAe h151)
   refine zz rfl rfl rfl rfl (hS138.ldR (j:=1) rfl hA154 rfl rfl Tryz.isAgg4 (wAk (sz:=1) (fun _=>rfl) _ _ 0 _ hg155 (by first | omega | rfl | simp) rfl)) rfl (zk rfl rfl rfl rfl (fun _=>ZH rfl rfl) (zW rfl rfl rfl rfl rfl rfl (ifc hm152 ?_ ?_)))
   ·intro c156 hm157
    refine zP Z Z Z (zg Z Z (nC c156.out) Z) (zP Z Z Z (zg Z Z (nC c156.out) Z) (zP Z Z Z (zg Z Z (nC c156.out) Z) (zP Z Z Z (zg Z Z (nC c156.out) Z) (OKS.px Z Z Z (zg Z Z (nC c156.out) Z) (zP Z Z Z (zg Z Z (nC c156.out) Z) (oR Z (zr Z (nC c156.out) Z) (eN (zx Z (ZE (zZ (zF (rR fL2 Z (oR Z (zt (zQ Z fi135 Z) (congrArg (jV) hi145.out)) (oM Z Z (zq ?_)))))))))))))))
    cases hm157
    exact zF ⟨Z,⟨φ136,A118,c119,Z,f139,f140,f141,f142,f143,le137,hS138⟩⟩
   ·intro c156 hm161
    refine zW Z Z Z (zX Z Z (nF (c156.out))) Z f139 (zW Z Z Z (zX Z Z (nF (c156.out))) Z Z (zW Z Z Z (zX Z Z (nF (c156.out))) Z Z (zW Z Z Z (zX Z Z (nF (c156.out))) Z f140 ?_)))
    have q:=hS138.freezeT (k:=0) (n:=y15.length) rfl (wAG (f:=KL.encI) (sz:=1) (fun _=>rfl) y15) (by decide)
    obtain ⟨φ163,le164,hs165,hS166,th162⟩:=q
    let B6:Res:=.row A118 c119 3 1 (nA KL.encI l117)
    have hS167:SW w [B0,B2,B1] φ φ163 [B1,.blk pb0 204 B4,B6] W130:=hS166
    have q:=hS167.freezeT (k:=0) (n:=p0.out.length) rfl (wAG (f:=KL.encT) (sz:=1) (fun _=>rfl) p0.out) (by decide)
    obtain ⟨φ169,le170,hs171,hS172,th168⟩:=q
    have hS173:SW w [B0,B2,B1] φ φ169 [.blk pb0 204 B4,B6] W130:=hS172
    have q:=hS173.freezeTB (k:=0) rfl
    obtain ⟨φ175,le176,hC177,hS178,th174⟩:=q
    replace hC177:=Cl.of hC177
    have hS179:SW w [B0,B2,B1] φ φ175 [B6] W130:=hS178
    replace hC177:Cl φ175 pb0 0 B4:=hC177
    have h180:=ha0.le le96
    have h181:=h180.le le137
    have h182:=h181.le le164
    have h183:=h182.le le170
    have h184:=h183.le le176
    have h185:=ha1.le le96
    have h186:=h185.le le137
    have h187:=h186.le le164
    have h188:=h187.le le170
    have h189:=h188.le le176
    have h190:=hs165.le le170
    have h191:=h190.le le176
    have h192:=hs171.le le176
    refine bnK hm161 fun x193 h194 hm195=>zL 0 rfl rfl rfl (zX rfl rfl (nF (c156.out))) (zM rfl rfl Tryz.call187 (zC rfl (zC rfl (zC rfl (zC rfl zR)))) rfl) hS179 (fun hs=>wCc (⟨p0.Race,y15,p0.out⟩:wAA) pb0 pA0_0_1 pc0_0_1 pA0_0_2 pc0_0_2 pA0_1 pc0_1 pA0_2 pc0_2 (↑k121:Int) (gd y15 k121) p1 W130 φ175 hs hC177 h184 h189 h191 h192 h194) (.inr rfl) ?_
    rintro φ196 L197 v198 W199 le200 hS201 ⟨rfl,rfl⟩
    have hS202:SW w [B0,B2,B1] φ φ196 [B6] W199:=hS201
    have q:=th174 _ _ _ le200 hS202
    obtain ⟨φ203,le204,hS205⟩:=q
    have hS206:SW w [B0,B2,B1] φ φ203 [.blk pb0 204 B4,B6] W199:=hS205
    have q:=th168 _ _ _ le204 hS206
    obtain ⟨φ207,le208,hS209⟩:=q
    have hS210:SW w [B0,B2,B1] φ φ207 [B1,.blk pb0 204 B4,B6] W199:=hS209
    have q:=th162 _ _ _ le208 hS210
    obtain ⟨φ211,le212,hS213⟩:=q
    have hS214:SW w [B0,B2,B1] φ φ211 [B5,B1,.blk pb0 204 B4,B6] W199:=hS213
    refine zk Z Z Z (zX Z Z (nF (c156.out))) (fun _=>Runs.geq Z Z Z) (oR Z (zm Z (nF (c156.out)) Z) (eN (ifc hm195 ?_ ?_)))
    ·intro c215 hm216
     refine cT Z c215 (rR (.fl 0 (.fl 1 (.fx 2 (.fx 3 (.fl 4 (.nil)) .stop) .stop))) Z (oM Z f141 (oM Z Z (ZJ (pv:=[(0,jV (↑k121:Int))]) (zs:=[jV 0]) (cs:=[jV (↑k121:Int)]) Z Z Z Z Z (wAT Z wBW) zA zD ZU Z Z Z Z Z hS214 ?_))))
     intro W217 b218 hS219
     let B7:Res:=.row (some ⟨b218,0,none⟩) 1 3 1 (nA KL.encI [(↑k121:Int)])
     have hS221:SW w [B0,B2,B1] φ φ211 [B7,B5,B1,.blk pb0 204 B4,B6] W217:=hS219
     refine bnK hm216 fun x222 h223 hm224=>ZP (j:=4) (enc:=KL.encI) (xs:=l117) (ys:=[(↑k121:Int)]) (zs:=x222) rfl rfl rfl rfl rfl ZK wEh rfl rfl rfl rfl rfl rfl hS221 rfl rfl rfl (hS221.srcR (j:=0) rfl (by decide) (wAG (f:=KL.encI) (sz:=1) (fun _=>rfl) [(↑k121:Int)])) (fun _=>rfl) (fun _=>rfl) h223 rfl ?_
     intro A225 c226 W227 hS228
     have hS229:SW w [B0,B2,B1] φ φ211 [B7,B5,B1,.blk pb0 204 B4,.row A225 c226 3 1 (nA KL.encI x222)] W227:=hS228
     refine oA Z Z (zq (zZ (zF (rR fL2 Z (oR Z (zt (zQ Z fi135 Z) (congrArg (jV) hi145.out)) (oM Z Z (zq ?_)))))))
     cases hm224
     exact zF ⟨rfl,⟨φ211,A225,c226,rfl,f139,f140,rfl,f142,f143,(le137.trans le212),(hS229.pick [1,2,3,4] _ (by decide) rfl)⟩⟩
    ·intro c215 hm233
     refine cF Z c215 (ZE (zZ (zF (rR fL2 Z (oR Z (zt (zQ Z fi135 Z) (congrArg (jV) hi145.out)) (oM Z Z (zq ?_)))))))
     cases hm233
     exact zF ⟨Z,⟨φ211,A118,c119,Z,f139,f140,f141,f142,f143,(le137.trans le212),hS214⟩⟩
  ·rintro σ237 W238 ⟨φ246,A244,c245,fi240,f249,f250,f251,f252,f253,le247,hS248⟩
   have c254:Hid (¬ ((↑(((↑y15.length:Int):Int) - 0).toNat:Int) < (↑y15.length:Int))):=zB (wBO)
   refine sR fL1 Z (oR Z (zU Z fi240 f253) (eN (zG (cF Z c254 (ZD (zf (zf (ZB (zF (sR fL2 Z (oM Z f251 (oA Z Z (eN (zJ ?_))))))))))))))
   have h255:=ha0.le le96
   have h256:=h255.le le247
   have h257:=ha1.le le96
   have h258:=h257.le le247
   cases hm122
   exact ⟨rfl,_,(zn rfl),φ246,_,(hS248.pick [3,0,1,2] _ (by decide) rfl),A244,c245,pA0_0_1,pc0_0_1,pA0_0_2,pc0_0_2,pA0_1,pc0_1,pA0_2,pc0_2,rfl,rfl,h256,h258⟩
end Go.Proofs.YtglpalgiipahjaaGreat
namespace Go.Proofs.YtglpalgiipahjaaGreat
open Go.KL
set_option maxHeartbeats 4000000
theorem wBk (p0:List wAB) (pA0:Option Addr) (pc0:Nat) (p1:((wAB × wAB)->Option Int)) (pv1:Value) (w:World) (φ:PHeap) (hS:St ⟨w,[.row pA0 pc0 45 4 (nA wAI p0)],φ⟩ φ [.row pA0 pc0 45 4 (nA wAI p0)] w) (ha0:FnOK Tryz.prog φ pv1 wQA wQB p1) (ha1:∃ g cb,pv1=.func (.func g) #[] cb) {r:List wAB} (hm:wAV p0 p1=some r):Gv Tryz.prog 188 [.slice pA0 p0.length pc0,pv1] w (wCN w [.row pA0 pc0 45 4 (nA wAI p0)] φ (fun φ_ L_ v=>v=.tuple #[]/\L_=[.row pA0 pc0 45 4 (nA wAI r)]/\r.length=p0.length)) :=
 wKw (sz:=4) (fun _=>rfl) (fun x v h=>List.all_eq_true.1 (show (wAI x).all (·.oneCell')=true from rfl) v h) (fun _ _ _=>rfl) (fun _ _ _ _ h=>h.1) (fun enc a1 a2 cf b g cb k1 k2 k3 d w h1 h2 h3 h4 h5 h6=>Go.Proofs.Tryz.slices_SortFunc_total_f188 4 Tryz.isAgg45 Tryz.sizeOf45 enc a1 a2 cf b g cb k1 k2 k3 d w h1 h2 h3 h4 h5 h6) (fun p c v w=>Go.Proofs.Tryz.slices_SortFunc_none_f188 (α:=Int) p c v w) hS ha0 (by decide) ha1 hm
theorem wDc (p0:Int) (w:World) (φ:PHeap) (hS:St0 w φ [])  {r:Bool} (hm:wBi p0=some r):Gv Tryz.prog 174 [jV p0] w (wCN w [] φ (fun φ_ L_ v=>v=.bool r/\L_=[])):=by
 unfold wBi at hm
 refine Gv.of Tryz.func174 Z Tryz.ntmps174 Tryz.results174 Z (sR fL1 Z (oA Z Z (eN (sR fL4 Z (oM Z Z (oM Z Z (oR Z (Runs.neq Z Z Z) (oA Z Z (eN (zJ ?_))))))))))
 cases hm
 exact ⟨Z,_,(zn Z),φ,_,hS,Z,Z⟩
theorem wCu (p0:Int) (p1:Int) (w:World) (φ:PHeap) (hS:St0 w φ [])  {r:Int} (hm:wBK p0 p1=some r):Gv Tryz.prog 95 [jV p0,jV p1] w (wCN w [] φ (fun φ_ L_ v=>v=jV r/\L_=[])):=by
 unfold wBK at hm
 refine Gv.of Tryz.func95 Z Tryz.ntmps95 Tryz.results95 Z (sR fL1 Z (oA Z Z (eN (sR (.fl 0 (.fx 1 (.fl 2 (.nil)) .stop)) Z (oM Z Z (bnK hm fun x1 h2 hm3=>zL 0 Z Z Z Z (zM Z Z Tryz.call174 (zC Z zR) Z) hS (fun hs=>wDc p0 w φ hs h2) (.inr Z) ?_))))))
 rintro φ4 L5 v6 W7 le8 hS9 ⟨rfl,rfl⟩
 have hS10:sW w φ φ4 [] W7:=hS9
 refine oA Z Z (eN (sR (.fl 0 (.fx 1 (.fl 2 (.nil)) .stop)) Z (oM Z Z (bnK hm3 fun x11 h12 hm13=>zL 0 Z Z Z Z (zM Z Z Tryz.call174 (zC Z zR) Z) hS10 (fun hs=>wDc p1 W7 φ4 hs h12) (.inr Z) ?_))))
 rintro φ14 L15 v16 W17 le18 hS19 ⟨rfl,rfl⟩
 have hS20:sW w φ φ14 [] W17:=hS19
 refine oA Z Z (eN (zG (sR fL1 Z (oM Z Z (eN (ifc hm13 ?_ ?_))))))
 ·intro c21 hm22
  refine ZC (congrArg nD c21.out) (zG (sR fL1 Z (oM Z Z (eN (ifc hm22 ?_ ?_)))))
  ·intro c23 hm24
   refine ZC (congrArg nD c23.out) (sR fL1 Z (oA Z Z (eN (zJ (zI (zI ?_))))))
   cases hm24
   exact ⟨Z,_,(zn Z),φ14,_,hS20,Z,Z⟩
  ·intro c23 hm25
   refine zx (congrArg nD (nE.2 c23.out)) (kN (sR fL1 Z (oA Z Z (eN (zJ (zI ?_))))))
   cases hm25
   exact ⟨Z,_,(zn Z),φ14,_,hS20,Z,Z⟩
 ·intro c21 hm26
  refine zx (congrArg nD (nE.2 c21.out)) (kN (zG (sR fL1 Z (oM Z Z (eN (ifc hm26 ?_ ?_))))))
  ·intro c27 hm28
   refine ZC (congrArg nD c27.out) (sR fL1 Z (oA Z Z (eN (zJ (zI ?_)))))
   cases hm28
   exact ⟨Z,_,(zn Z),φ14,_,hS20,Z,Z⟩
  ·intro c27 hm29
   refine zx (congrArg nD (nE.2 c27.out)) (kN (zG (sR fL3 Z (oM Z Z (oM Z Z (oR Z (zU Z Z Z) (eN (ifc hm29 ?_ ?_))))))))
   ·intro c30 hm31
    refine cT Z c30 (sR fL1 Z (oA Z Z (eN (zJ (zI ?_)))))
    cases hm31
    exact ⟨Z,_,(zn Z),φ14,_,hS20,Z,Z⟩
   ·intro c30 hm32
    refine cF Z c30 (kN (zG (sR fL3 Z (oM Z Z (oM Z Z (oR Z (Runs.gtr Z Z Z) (eN (ifc hm32 ?_ ?_))))))))
    ·intro c33 hm34
     refine cT Z c33 (sR fL1 Z (oA Z Z (eN (zJ (zI ?_)))))
     cases hm34
     exact ⟨Z,_,(zn Z),φ14,_,hS20,Z,Z⟩
    ·intro c33 hm35
     refine cF Z c33 (kN (sR fL1 Z (oA Z Z (eN (zJ ?_)))))
     cases hm35
     exact ⟨Z,_,(zn Z),φ14,_,hS20,Z,Z⟩
theorem wHb (p0:List Int) (pA0:Option Addr) (pc0:Nat) (w:World) (φ:PHeap) (hS:St0 w φ []) (ha0:Sl φ 1 pA0 pc0 p0.length (nA KL.encI p0)) {r:Int} (hm:wCO p0=some r):Gv Tryz.prog 94 [.slice pA0 p0.length pc0] w (wCN w [] φ (fun φ_ L_ v=>v=jV r/\L_=[])):=by
 unfold wCO at hm
 refine Gv.of Tryz.func94 Z Tryz.ntmps94 Tryz.results94 Z (sR fL1 Z (oA Z Z (eN (sR fL1 Z (oA Z Z (eN (zG (sR fL3 Z (oM Z Z (oR Z (zo Z Z zA) (oM Z Z (eN (zS ?_)))))))))))))
 have q:=wCC hm
 obtain ⟨r3,hX4⟩:=q
 have q:=wCP hX4
 obtain ⟨hle5,hf6⟩:=q
 replace hle5:=zB hle5
 refine CK.forN (fun k2 _ σ_ w_=>∃ (φ_:PHeap),σ_ 8=jV (↑k2:Int)/\σ_ 3=jV 0/\σ_ 6=.slice pA0 p0.length pc0/\σ_ 7=jV (↑p0.length:Int)/\PHeap.Le φ φ_/\sW w φ φ_ [] w_) hf6 ?_ ?_ ?_
 ·exact ⟨φ,Z,Z,Z,Z,(zO _),hS⟩
 ·rintro k2 ⟨⟩ xx9 σ7 W8 hk12 ⟨φ14,fi13,f17,f18,f19,le15,hS16⟩ hx10 hb11
  try dsimp only at hx10
  have c20:Hid ((↑k2:Int) < (↑p0.length:Int)):=zB (wBm hk12)
  replace hk12:=zB hk12
  have hi21:Hid (w64 ((↑k2:Int) + 1)=(↑(k2 + 1):Int)):=zB (by have h1:=hle5.out;have h2:=c20.out;rw [wAa] <;> omega)
  refine sR fL1 Z (oR Z (zU Z fi13 f19) (eN (zG (cT Z c20 (kN (zG (zS (sR fL3 Z (bnK hx10 fun x22 h23 hm24=>?_)))))))))
  have h25:=ha0.le le15
  have q:=h25.el (fun _=>rfl) (wAs h23)
  obtain ⟨b26,off27,hA28,hC29⟩:=q
  refine oR Z (zy Z f18 hA28 fi13 zA zD (wCA h23)) (oL Z (hS16.ldC (f:=0) hC29 (v:=jV x22) Z Z zK Z) (oA Z Z (eN (sR fL3 Z (oM Z Z (oM Z f17 (oR Z (Runs.neq Z Z Z) (eN (ifc hm24 ?_ ?_)))))))))
  ·intro c30 hm31
   refine zx (ZL (fun h=>h c30.out)) (ZE (zZ (zF (rR fL2 Z (oR Z (zt (zQ Z fi13 Z) (congrArg (jV) hi21.out)) (oM Z Z (zq ?_)))))))
   obtain rfl:=nB hm31
   exact zF ⟨Z,_,Z,⟨φ14,Z,f17,f18,f19,le15,hS16⟩⟩
  ·intro c30 hm32
   refine cT Z c30 (sR fL2 Z (oM Z Z (oA Z Z (eN (zJ (zd (zI ?_)))))))
   have q:=wAq hm32
   obtain ⟨v33,hm34,e35⟩:=q
   obtain rfl:=wBl hm hX4 (hb11 v33 e35)
   refine zI (zd (zI ?_))
   have hE:=nB hm34;first | subst r | cases hE
   exact ⟨Z,_,(zn Z),φ14,_,hS16,Z,Z⟩
 ·rintro ⟨⟩ σ36 W37 ⟨φ40,fi39,f43,f44,f45,le41,hS42⟩ hb38
  have hm46:=wCr hm hX4 hb38
  try dsimp only at hm46
  have c47:Hid (¬ ((↑(((↑p0.length:Int):Int) - 0).toNat:Int) < (↑p0.length:Int))):=zB (wBO)
  refine sR fL1 Z (oR Z (zU Z fi39 f45) (eN (zG (cF Z c47 (ZD (zf (zf (ZB (zF (sR fL2 Z (oM Z f43 (oA Z Z (eN (zJ ?_))))))))))))))
  cases hm46
  exact ⟨Z,_,(zn Z),φ40,_,hS42,Z,Z⟩
theorem wGx (p0:wAB) (p1:wAB) (w:World) (φ:PHeap) (hS:St0 w φ [])  {r:Int} (hm:wAb p0 p1=some r):Gv Tryz.prog 189 [.agg #[jV p0.Bib,jV p0.Done,jV p0.Time,jV p0.By],.agg #[jV p1.Bib,jV p1.Done,jV p1.Time,jV p1.By]] w (wCN w [] φ (fun φ_ L_ v=>v=jV r/\L_=[])):=by
 unfold wAb at hm
 refine Gv.of Tryz.func189 Z Tryz.ntmps189 Tryz.results189 Z (sR (.fx 0 (.fx 1 (.fl 2 (.nil)) .stop) .stop) Z ?_)
 let B0:List Value:=[jV p0.Bib,jV p0.Done,jV p0.Time,jV p0.By]
 refine ZR (cs:=B0) rfl rfl rfl rfl rfl rfl (by rfl) hS ?_
 intro W1 b2 hS3
 let B1:List Value:=[jV p1.Bib,jV p1.Done,jV p1.Time,jV p1.By]
 refine ZR (cs:=B1) rfl rfl rfl rfl rfl rfl (by rfl) hS3 ?_
 intro W5 b6 hS7
 refine OKS.ra rfl rfl rfl rfl rfl rfl (eN (zG (CK.anyOrd Za [3,1,3,1,2,3,1,3,1,2,2,2,3] (wMD (fC5_8 (.fx 4 (.fx 9 (.fx 10 (.fx 11 (.fl 12 (.nil)) .stop) .stop) .stop) .stop))) (by kernel_rfl) ?_)))
 have hS9:=hS7.drew
 generalize hw_W10:({ W5 with drawn:=W5.drawn + 1 }:World)=W10 at hS9 ⊢
 refine oR Z (zN Z Z Tryz.runUnderlying45 Z zD) (oL Z (hS9.ldB (j:=1) Z Z Z zK (v:=jV p0.Time) Z) (oR Z (zN Z Z Tryz.runUnderlying45 Z zD) (oL Z (hS9.ldB (j:=0) Z Z Z zK (v:=jV p1.Time) Z) (oR Z (zN Z Z Tryz.runUnderlying45 Z zD) (oL Z (hS9.ldB (j:=1) Z Z Z zK (v:=jV p0.Bib) Z) (oR Z (zN Z Z Tryz.runUnderlying45 Z zD) (oL Z (hS9.ldB (j:=0) Z Z Z zK (v:=jV p1.Bib) Z) (bnK hm fun x11 h12 hm13=>zL 0 Z Z Z Z (zM Z Z Tryz.call95 (zC Z (zC Z zR)) Z) hS9 (fun hs=>wCu p0.Time p1.Time W10 φ hs h12) (.inr Z) ?_))))))))
 rintro φ14 L15 v16 W17 le18 hS19 ⟨rfl,rfl⟩
 have hS20:sW w φ φ14 [.blk b6 45 B1,.blk b2 45 B0] W17:=hS19
 refine bnK hm13 fun x21 h22 hm23=>zL 0 Z Z Z Z (zM Z Z Tryz.call95 (zC Z (zC Z zR)) Z) hS20 (fun hs=>wCu p0.Bib p1.Bib W17 φ14 hs h22) (.inr Z) ?_
 rintro φ24 L25 v26 W27 le28 hS29 ⟨rfl,rfl⟩
 have hS30:sW w φ φ24 [.blk b6 45 B1,.blk b2 45 B0] W27:=hS29
 refine ZJ (pv:=[(0,jV x11),(1,jV x21)]) (zs:=[jV 0,jV 0]) (cs:=[jV x11,jV x21]) Z Z Z Z Z (wAT Z (wAT Z wBW)) zA zD ZU Z Z Z Z Z hS30 ?_
 intro W31 b32 hS33
 have hS35:sW w φ φ24 [.row (some ⟨b32,0,none⟩) 2 3 1 (nA KL.encI [x11,x21]),.blk b6 45 B1,.blk b2 45 B0] W31:=hS33
 have q:=hS35.freezeR (k:=0) (n:=[x11,x21].length) rfl (wAG (f:=KL.encI) (sz:=1) (fun _=>rfl) [x11,x21]) (by decide)
 obtain ⟨φ36,le37,hs38,hS39⟩:=q
 have hS40:sW w φ φ36 [.blk b6 45 B1,.blk b2 45 B0] W31:=hS39
 refine bnK hm23 fun x41 h42 hm43=>zL 0 Z Z Z Z (zM Z Z Tryz.call94 (zC Z zR) Z) hS40 (fun hs=>wHb [x11,x21] (some ⟨b32,0,none⟩) 2 W31 φ36 hs hs38 h42) (.inr Z) ?_
 rintro φ44 L45 v46 W47 le48 hS49 ⟨rfl,rfl⟩
 have hS50:sW w φ φ44 [.blk b6 45 B1,.blk b2 45 B0] W47:=hS49
 refine oA Z Z (eN (zJ ?_))
 have hE:=nB hm43;first | subst r | cases hE
 exact ⟨rfl,_,(zn rfl),φ44,_,(hS50.pick [] _ (by decide) rfl),rfl,rfl⟩
theorem wIb (p0:wAE) (pA0_1:Option Addr) (pc0_1:Nat) (pA0_2:Option Addr) (pc0_2:Nat) (w:World) (φ:PHeap) (hS:St0 w φ []) (ha0:Sl φ 1 pA0_1 pc0_1 p0.Bibs.length (nA KL.encI p0.Bibs)) (ha1:SlR φ wHZ pA0_2 pc0_2 p0.Times) {r:wAA × (List wAB)} (hm:wCF p0=some r):Gv Tryz.prog 107 [.agg #[jV p0.Laps,.slice pA0_1 p0.Bibs.length pc0_1,.slice pA0_2 p0.Times.length pc0_2]] w (wCN w [] φ (fun φ_ L_ v=>∃ (b0:Nat) (A0p01:Option Addr) (c0p01:Nat) (A0p02:Option Addr) (c0p02:Nat) (A0p1:Option Addr) (c0p1:Nat) (A0p2:Option Addr) (c0p2:Nat) (A1:Option Addr) (c1:Nat),v=.tuple #[.pointer (some ⟨b0,0,none⟩),.slice A1 r.2.length c1]/\L_=[.blk b0 204 [jV r.1.Race.Laps,.slice A0p01 r.1.Race.Bibs.length c0p01,.slice A0p02 r.1.Race.Times.length c0p02,.slice A0p1 r.1.done.length c0p1,.slice A0p2 r.1.out.length c0p2],.row A0p1 c0p1 3 1 (nA KL.encI r.1.done),.row A0p2 c0p2 4 1 (nA KL.encT r.1.out),.row A1 c1 45 4 (nA wAI r.2)]/\Sl φ_ 1 A0p01 c0p01 r.1.Race.Bibs.length (nA KL.encI r.1.Race.Bibs)/\SlR φ_ wHZ A0p02 c0p02 r.1.Race.Times)):=by
 unfold wCF at hm
 refine Go.KX.Gv.ofM Tryz.func107 Z Tryz.ntmps107 Tryz.results107 (zY Z) (sR (.fx 0 (.fl 1 (.fl 2 (.nil))) .stop) Z ?_)
 let B0:List Value:=[jV p0.Laps,.slice pA0_1 p0.Bibs.length pc0_1,.slice pA0_2 p0.Times.length pc0_2]
 refine ZR (cs:=B0) rfl rfl rfl rfl rfl rfl (by rfl) hS ?_
 intro W1 b2 hS3
 refine oA Z Z (oA Z Z (eN ?_))
 have q:=bnd hm
 obtain ⟨⟨l9,l12⟩,hx16,hm17⟩:=q
 try dsimp only at hm17
 refine CK.cut (fun σ_ w_=>∃ (φ_:PHeap) (b6:Nat) (b8:Nat) (A10:Option Addr) (c11:Nat) (A13:Option Addr) (c14:Nat),σ_ 1=.pointer (some ⟨b2,0,none⟩)/\σ_ 4=.pointer (some ⟨b6,0,none⟩)/\PHeap.Le φ φ_/\sW w φ φ_ [.blk b2 66 B0,.blk b6 200 [.pointer (some ⟨b8,0,none⟩)],.blk b8 204 [jV p0.Laps,.slice pA0_1 p0.Bibs.length pc0_1,.slice pA0_2 p0.Times.length pc0_2,.slice A10 l9.length c11,.slice A13 l12.length c14],.row A10 c11 3 1 (nA KL.encI l9),.row A13 c14 4 1 (nA KL.encT l12)] w_) ?_ ?_
 ·refine bnK hx16 fun x18 h19 hm45=>bnK hm45 fun x26 h27 hm46=>CK.anyOrd Za [1,3,1,3,2,3,1,3,2,3,2,2,0] (wMD (fC5_7 (.fx 4 (.fx 8 (.fl 9 (.fx 10 (.fx 11 (.fx 12 (.nil) (.stop)) (.stop)) (.fx 11 (.fx 10 (.fx 12 (.nil) (.stop)) (.stop)) (.stop)))) (.fx 11 (.fx 8 (.fl 9 (.fx 10 (.fx 12 (.nil) (.stop)) (.stop))) (.stop)) (.stop))) (.fx 8 (.fx 4 (.fl 9 (.fx 10 (.fx 11 (.fx 12 (.nil) (.stop)) (.stop)) (.fx 11 (.fx 10 (.fx 12 (.nil) (.stop)) (.stop)) (.stop)))) (.fx 11 (.fx 4 (.fl 9 (.fx 10 (.fx 12 (.nil) (.stop)) (.stop))) (.stop)) (.stop))) (.fx 11 (.fx 4 (.fx 8 (.fl 9 (.fx 10 (.fx 12 (.nil) (.stop)) (.stop))) (.stop)) (.fx 8 (.fx 4 (.fl 9 (.fx 10 (.fx 12 (.nil) (.stop)) (.stop))) (.stop)) (.stop))) (.stop)))))) (by kernel_rfl) ?_
  have hS47:=hS3.drew
  generalize hw_W48:({ W1 with drawn:=W1.drawn + 1 }:World)=W48 at hS47 ⊢
  refine OKS.cutD (s:=.nil) (M:=fun σ_ w_=>∃ (φ_:PHeap) (b158:Nat) (b160:Nat) (A161:Option Addr) (c162:Nat) (A163:Option Addr) (c164:Nat),σ_ 1=.pointer (some ⟨b2,0,none⟩)/\σ_ 4=.pointer (some ⟨b158,0,none⟩)/\σ_ 12=.agg B0.toArray/\σ_ 13=.pointer (some ⟨b2,1,none⟩)/\σ_ 14=.slice pA0_1 p0.Bibs.length pc0_1/\σ_ 15=jV (↑p0.Bibs.length:Int)/\σ_ 16=.slice A161 x18.length c162/\σ_ 17=.pointer (some ⟨b2,1,none⟩)/\σ_ 18=.slice pA0_1 p0.Bibs.length pc0_1/\σ_ 19=jV (↑p0.Bibs.length:Int)/\σ_ 20=.slice A163 x26.length c164/\σ_ 21=.agg #[jV p0.Laps,.slice pA0_1 p0.Bibs.length pc0_1,.slice pA0_2 p0.Times.length pc0_2,.slice A161 x18.length c162,.slice A163 x26.length c164]/\σ_ 22=.pointer (some ⟨b160,0,none⟩)/\PHeap.Le φ φ_/\sW w φ φ_ [.blk b2 66 B0,.blk b158 200 [.pointer (some ⟨b160,0,none⟩)],.blk b160 204 [jV p0.Laps,.slice pA0_1 p0.Bibs.length pc0_1,.slice pA0_2 p0.Times.length pc0_2,.slice A161 x18.length c162,.slice A163 x26.length c164],.row A161 c162 3 1 (nA KL.encI x18),.row A163 c164 4 1 (nA KL.encT x26)] w_) ?_ fun ko165=>?_
  ·rintro σ166 W167 ⟨φ168,b158,b160,A161,c162,A163,c164,f171,f172,f173,f174,f175,f176,f177,f178,f179,f180,f181,f182,f183,le169,hS170⟩
   refine zq ?_
   cases hm46
   exact zF ⟨Z,⟨φ168,b158,b160,A161,c162,A163,c164,f171,f172,le169,hS170⟩⟩
  refine OKS.cutD (s:=.fx 12 (.nil) (.stop)) (M:=fun σ_ w_=>∃ (φ_:PHeap) (b195:Nat) (A196:Option Addr) (c197:Nat) (A198:Option Addr) (c199:Nat) (b201:Nat),σ_ 1=.pointer (some ⟨b2,0,none⟩)/\σ_ 4=.pointer (some ⟨b195,0,none⟩)/\σ_ 12=.agg B0.toArray/\σ_ 13=.pointer (some ⟨b2,1,none⟩)/\σ_ 14=.slice pA0_1 p0.Bibs.length pc0_1/\σ_ 15=jV (↑p0.Bibs.length:Int)/\σ_ 16=.slice A196 x18.length c197/\σ_ 17=.pointer (some ⟨b2,1,none⟩)/\σ_ 18=.slice pA0_1 p0.Bibs.length pc0_1/\σ_ 19=jV (↑p0.Bibs.length:Int)/\σ_ 20=.slice A198 x26.length c199/\σ_ 21=.agg #[jV p0.Laps,.slice pA0_1 p0.Bibs.length pc0_1,.slice pA0_2 p0.Times.length pc0_2,.slice A196 x18.length c197,.slice A198 x26.length c199]/\σ_ 22=.pointer (some ⟨b201,0,none⟩)/\PHeap.Le φ φ_/\sW w φ φ_ [.blk b2 66 B0,.blk b195 200 [.pointer none],.row A196 c197 3 1 (nA KL.encI x18),.row A198 c199 4 1 (nA KL.encT x26),.blk b201 204 [jV p0.Laps,.slice pA0_1 p0.Bibs.length pc0_1,.slice pA0_2 p0.Times.length pc0_2,.slice A196 x18.length c197,.slice A198 x26.length c199]] w_) ?_ fun ko202=>?_
  ·rintro σ203 W204 ⟨φ205,b195,A196,c197,A198,c199,b201,f208,f209,f210,f211,f212,f213,f214,f215,f216,f217,f218,f219,f220,le206,hS207⟩
   let B1:List Value:=[.pointer (some ⟨b201,0,none⟩)]
   refine OKS.st (j:=1) (vs:=B1) Z Z Z Z hS207 Z f209 f220 Z Tryz.sizeOf200 (zY Z) Z Z Z ?_
   intro W221 hS222
   have hS223:sW w φ φ205 [.blk b2 66 B0,.blk b195 200 B1,.row A196 c197 3 1 (nA KL.encI x18),.row A198 c199 4 1 (nA KL.encT x26),.blk b201 204 [jV p0.Laps,.slice pA0_1 p0.Bibs.length pc0_1,.slice pA0_2 p0.Times.length pc0_2,.slice A196 x18.length c197,.slice A198 x26.length c199]] W221:=hS222
   exact ko165 _ _ ⟨φ205,b195,b201,A196,c197,A198,c199,f208,f209,f210,f211,f212,f213,f214,f215,f216,f217,f218,f219,f220,le206,(hS223.pick [0,1,4,2,3] _ (by decide) rfl)⟩
  refine OKS.cutD (s:=.fx 10 (.fx 12 (.nil) (.stop)) (.stop)) (M:=fun σ_ w_=>∃ (φ_:PHeap) (b233:Nat) (A234:Option Addr) (c235:Nat) (A236:Option Addr) (c237:Nat),σ_ 1=.pointer (some ⟨b2,0,none⟩)/\σ_ 4=.pointer (some ⟨b233,0,none⟩)/\σ_ 12=.agg B0.toArray/\σ_ 13=.pointer (some ⟨b2,1,none⟩)/\σ_ 14=.slice pA0_1 p0.Bibs.length pc0_1/\σ_ 15=jV (↑p0.Bibs.length:Int)/\σ_ 16=.slice A234 x18.length c235/\σ_ 17=.pointer (some ⟨b2,1,none⟩)/\σ_ 18=.slice pA0_1 p0.Bibs.length pc0_1/\σ_ 19=jV (↑p0.Bibs.length:Int)/\σ_ 20=.slice A236 x26.length c237/\σ_ 21=.agg #[jV p0.Laps,.slice pA0_1 p0.Bibs.length pc0_1,.slice pA0_2 p0.Times.length pc0_2,.slice A234 x18.length c235,.slice A236 x26.length c237]/\PHeap.Le φ φ_/\sW w φ φ_ [.blk b2 66 B0,.blk b233 200 [.pointer none],.row A234 c235 3 1 (nA KL.encI x18),.row A236 c237 4 1 (nA KL.encT x26)] w_) ?_ fun ko238=>?_
  ·rintro σ239 W240 ⟨φ241,b233,A234,c235,A236,c237,f244,f245,f246,f247,f248,f249,f250,f251,f252,f253,f254,f255,le242,hS243⟩
   refine ZR (cs:=[jV p0.Laps,.slice pA0_1 p0.Bibs.length pc0_1,.slice pA0_2 p0.Times.length pc0_2,.slice A234 x18.length c235,.slice A236 x26.length c237]) rfl rfl rfl rfl rfl f255 (by rfl) hS243 ?_
   intro W256 b257 hS258
   exact ko202 _ _ ⟨φ241,b233,A234,c235,A236,c237,b257,f244,f245,f246,f247,f248,f249,f250,f251,f252,f253,f254,f255,rfl,le242,(hS258.pick [1,2,3,4,0] _ (by decide) rfl)⟩
  refine OKS.cutD (s:=.fx 11 (.fx 12 (.nil) (.stop)) (.stop)) (M:=fun σ_ w_=>∃ (φ_:PHeap) (A268:Option Addr) (c269:Nat) (A270:Option Addr) (c271:Nat) (b273:Nat),σ_ 1=.pointer (some ⟨b2,0,none⟩)/\σ_ 12=.agg B0.toArray/\σ_ 13=.pointer (some ⟨b2,1,none⟩)/\σ_ 14=.slice pA0_1 p0.Bibs.length pc0_1/\σ_ 15=jV (↑p0.Bibs.length:Int)/\σ_ 16=.slice A268 x18.length c269/\σ_ 17=.pointer (some ⟨b2,1,none⟩)/\σ_ 18=.slice pA0_1 p0.Bibs.length pc0_1/\σ_ 19=jV (↑p0.Bibs.length:Int)/\σ_ 20=.slice A270 x26.length c271/\σ_ 21=.agg #[jV p0.Laps,.slice pA0_1 p0.Bibs.length pc0_1,.slice pA0_2 p0.Times.length pc0_2,.slice A268 x18.length c269,.slice A270 x26.length c271]/\σ_ 22=.pointer (some ⟨b273,0,none⟩)/\PHeap.Le φ φ_/\sW w φ φ_ [.blk b2 66 B0,.row A268 c269 3 1 (nA KL.encI x18),.row A270 c271 4 1 (nA KL.encT x26),.blk b273 204 [jV p0.Laps,.slice pA0_1 p0.Bibs.length pc0_1,.slice pA0_2 p0.Times.length pc0_2,.slice A268 x18.length c269,.slice A270 x26.length c271]] w_) ?_ fun ko274=>?_
  ·rintro σ275 W276 ⟨φ277,A268,c269,A270,c271,b273,f280,f281,f282,f283,f284,f285,f286,f287,f288,f289,f290,f291,le278,hS279⟩
   refine ZQ (cs:=[.pointer none]) Z Z Z Z Z Tryz.zeroValue200 Z hS279 ?_
   intro W292 b293 hS294
   exact ko202 _ _ ⟨φ277,b293,A268,c269,A270,c271,b273,f280,rfl,f281,f282,f283,f284,f285,f286,f287,f288,f289,f290,f291,le278,(hS294.pick [1,0,2,3,4] _ (by decide) rfl)⟩
  refine OKS.cutD (s:=.fl 9 (.fx 10 (.fx 12 (.nil) (.stop)) (.stop))) (M:=fun σ_ w_=>∃ (φ_:PHeap) (b305:Nat) (A306:Option Addr) (c307:Nat) (A308:Option Addr) (c309:Nat),σ_ 1=.pointer (some ⟨b2,0,none⟩)/\σ_ 4=.pointer (some ⟨b305,0,none⟩)/\σ_ 12=.agg B0.toArray/\σ_ 13=.pointer (some ⟨b2,1,none⟩)/\σ_ 14=.slice pA0_1 p0.Bibs.length pc0_1/\σ_ 15=jV (↑p0.Bibs.length:Int)/\σ_ 16=.slice A306 x18.length c307/\σ_ 17=.pointer (some ⟨b2,1,none⟩)/\σ_ 18=.slice pA0_1 p0.Bibs.length pc0_1/\σ_ 19=jV (↑p0.Bibs.length:Int)/\σ_ 20=.slice A308 x26.length c309/\PHeap.Le φ φ_/\sW w φ φ_ [.blk b2 66 B0,.blk b305 200 [.pointer none],.row A306 c307 3 1 (nA KL.encI x18),.row A308 c309 4 1 (nA KL.encT x26)] w_) ?_ fun ko310=>?_
  ·rintro σ311 W312 ⟨φ313,b305,A306,c307,A308,c309,f316,f317,f318,f319,f320,f321,f322,f323,f324,f325,f326,le314,hS315⟩
   let B2:List Value:=[jV p0.Laps,.slice pA0_1 p0.Bibs.length pc0_1,.slice pA0_2 p0.Times.length pc0_2,.slice A306 x18.length c307,.slice A308 x26.length c309]
   refine zk rfl rfl rfl rfl (fun _=>Runs.build (pv:=[(0,.agg B0.toArray),(1,.slice A306 x18.length c307),(2,.slice A308 x26.length c309)]) (z:=[jV 0,.slice none 0 0,.slice none 0 0,.slice none 0 0,.slice none 0 0]) (cs:=B2) rfl (wAT f318 (wAT f322 (wAT f326 wBW))) Tryz.zeroValue204 wHa rfl rfl) (ZR (cs:=B2) rfl rfl rfl rfl rfl rfl (by rfl) hS315 ?_)
   intro W327 b328 hS329
   exact ko202 _ _ ⟨φ313,b305,A306,c307,A308,c309,b328,f316,f317,f318,f319,f320,f321,f322,f323,f324,f325,f326,rfl,rfl,le314,(hS329.pick [1,2,3,4,0] _ (by decide) rfl)⟩
  refine OKS.cutD (s:=.fx 4 (.fl 9 (.fx 10 (.fx 12 (.nil) (.stop)) (.stop))) (.stop)) (M:=fun σ_ w_=>∃ (φ_:PHeap) (b340:Nat) (A341:Option Addr) (c342:Nat),σ_ 1=.pointer (some ⟨b2,0,none⟩)/\σ_ 4=.pointer (some ⟨b340,0,none⟩)/\σ_ 12=.agg B0.toArray/\σ_ 13=.pointer (some ⟨b2,1,none⟩)/\σ_ 14=.slice pA0_1 p0.Bibs.length pc0_1/\σ_ 15=jV (↑p0.Bibs.length:Int)/\σ_ 17=.pointer (some ⟨b2,1,none⟩)/\σ_ 18=.slice pA0_1 p0.Bibs.length pc0_1/\σ_ 19=jV (↑p0.Bibs.length:Int)/\σ_ 20=.slice A341 x26.length c342/\PHeap.Le φ φ_/\sW w φ φ_ [.blk b2 66 B0,.blk b340 200 [.pointer none],.row A341 c342 4 1 (nA KL.encT x26)] w_) ?_ fun ko343=>?_
  ·rintro σ344 W345 ⟨φ346,b340,A341,c342,f349,f350,f351,f352,f353,f354,f355,f356,f357,f358,le347,hS348⟩
   refine ZO (enc:=KL.encI) (z:=(0:Int)) (v:=jV 0) Z Z Z Z Z (wDH zA) wEh Z Z Z Z f354 f354 h19 hS348 ?_
   intro W359 b360 hS361
   have hS363:sW w φ φ346 [.row (some ⟨b360,0,none⟩) x18.length 3 1 (nA KL.encI x18),.blk b2 66 B0,.blk b340 200 [.pointer none],.row A341 c342 4 1 (nA KL.encT x26)] W359:=hS361
   exact ko310 _ _ ⟨φ346,b340,(some ⟨b360,0,none⟩),x18.length,A341,c342,f349,f350,f351,f352,f353,f354,rfl,f355,f356,f357,f358,le347,(hS363.pick [1,2,0,3] _ (by decide) rfl)⟩
  refine OKS.cutD (s:=.fx 8 (.fl 9 (.fx 10 (.fx 12 (.nil) (.stop)) (.stop))) (.stop)) (M:=fun σ_ w_=>∃ (φ_:PHeap) (b371:Nat) (A372:Option Addr) (c373:Nat),σ_ 1=.pointer (some ⟨b2,0,none⟩)/\σ_ 4=.pointer (some ⟨b371,0,none⟩)/\σ_ 12=.agg B0.toArray/\σ_ 13=.pointer (some ⟨b2,1,none⟩)/\σ_ 14=.slice pA0_1 p0.Bibs.length pc0_1/\σ_ 15=jV (↑p0.Bibs.length:Int)/\σ_ 16=.slice A372 x18.length c373/\σ_ 17=.pointer (some ⟨b2,1,none⟩)/\σ_ 18=.slice pA0_1 p0.Bibs.length pc0_1/\σ_ 19=jV (↑p0.Bibs.length:Int)/\PHeap.Le φ φ_/\sW w φ φ_ [.blk b2 66 B0,.blk b371 200 [.pointer none],.row A372 c373 3 1 (nA KL.encI x18)] w_) ?_ fun ko374=>?_
  ·rintro σ375 W376 ⟨φ377,b371,A372,c373,f380,f381,f382,f383,f384,f385,f386,f387,f388,f389,le378,hS379⟩
   refine ZO (enc:=KL.encT) (z:=false) (v:=.bool false) Z Z Z Z Z (wDH ZF) wMk Z Z Z Z f389 f389 h27 hS379 ?_
   intro W390 b391 hS392
   have hS394:sW w φ φ377 [.row (some ⟨b391,0,none⟩) x26.length 4 1 (nA KL.encT x26),.blk b2 66 B0,.blk b371 200 [.pointer none],.row A372 c373 3 1 (nA KL.encI x18)] W390:=hS392
   exact ko310 _ _ ⟨φ377,b371,A372,c373,(some ⟨b391,0,none⟩),x26.length,f380,f381,f382,f383,f384,f385,f386,f387,f388,f389,rfl,le378,(hS394.pick [1,2,3,0] _ (by decide) rfl)⟩
  refine OKS.cutD (s:=.fl 9 (.fx 10 (.fx 11 (.fx 12 (.nil) (.stop)) (.stop)) (.fx 11 (.fx 10 (.fx 12 (.nil) (.stop)) (.stop)) (.stop)))) (M:=fun σ_ w_=>∃ (φ_:PHeap) (A401:Option Addr) (c402:Nat) (A403:Option Addr) (c404:Nat),σ_ 1=.pointer (some ⟨b2,0,none⟩)/\σ_ 12=.agg B0.toArray/\σ_ 13=.pointer (some ⟨b2,1,none⟩)/\σ_ 14=.slice pA0_1 p0.Bibs.length pc0_1/\σ_ 15=jV (↑p0.Bibs.length:Int)/\σ_ 16=.slice A401 x18.length c402/\σ_ 17=.pointer (some ⟨b2,1,none⟩)/\σ_ 18=.slice pA0_1 p0.Bibs.length pc0_1/\σ_ 19=jV (↑p0.Bibs.length:Int)/\σ_ 20=.slice A403 x26.length c404/\PHeap.Le φ φ_/\sW w φ φ_ [.blk b2 66 B0,.row A401 c402 3 1 (nA KL.encI x18),.row A403 c404 4 1 (nA KL.encT x26)] w_) ?_ fun ko405=>?_
  ·rintro σ406 W407 ⟨φ408,A401,c402,A403,c404,f411,f412,f413,f414,f415,f416,f417,f418,f419,f420,le409,hS410⟩
   let B3:List Value:=[jV p0.Laps,.slice pA0_1 p0.Bibs.length pc0_1,.slice pA0_2 p0.Times.length pc0_2,.slice A401 x18.length c402,.slice A403 x26.length c404]
   refine oR Z (Runs.build (pv:=[(0,.agg B0.toArray),(1,.slice A401 x18.length c402),(2,.slice A403 x26.length c404)]) (z:=[jV 0,.slice none 0 0,.slice none 0 0,.slice none 0 0,.slice none 0 0]) (cs:=B3) Z (wAT f412 (wAT f416 (wAT f420 wBW))) Tryz.zeroValue204 wHa Z Z) (OKS.both ?_ ?_)
   ·refine ZR (cs:=B3) rfl rfl rfl rfl rfl rfl (by rfl) hS410 ?_
    intro W421 b422 hS423
    exact ko274 _ _ ⟨φ408,A401,c402,A403,c404,b422,f411,f412,f413,f414,f415,f416,f417,f418,f419,f420,rfl,rfl,le409,(hS423.pick [1,2,3,0] _ (by decide) rfl)⟩
   ·refine ZQ (cs:=[.pointer none]) Z Z Z Z Z Tryz.zeroValue200 Z hS410 ?_
    intro W431 b432 hS433
    exact ko238 _ _ ⟨φ408,b432,A401,c402,A403,c404,f411,rfl,f412,f413,f414,f415,f416,f417,f418,f419,f420,rfl,le409,(hS433.pick [1,0,2,3] _ (by decide) rfl)⟩
  refine oL Z (hS47.ldBA (j:=0) Z Z Z Tryz.isAgg66 ZA (vs:=B0) Z Z) (oR Z (zN Z Z zH Z zV) (oL Z (hS47.ldB (j:=0) Z Z Z zj (v:=.slice pA0_1 p0.Bibs.length pc0_1) Z) (oR Z (zo Z Z zA) (oR Z (zN Z Z zH Z zV) (oL Z (hS47.ldB (j:=0) Z Z Z zj (v:=.slice pA0_1 p0.Bibs.length pc0_1) Z) (oR Z (zo Z Z zA) (OKS.both ?_ ?_)))))))
  ·refine ZO (enc:=KL.encI) (z:=(0:Int)) (v:=jV 0) Z Z Z Z Z (wDH zA) wEh Z Z Z Z Z Z h19 hS47 ?_
   intro W441 b442 hS443
   let B4:Res:=.row (some ⟨b442,0,none⟩) x18.length 3 1 (nA KL.encI x18)
   have hS445:sW w φ φ [B4,.blk b2 66 B0] W441:=hS443
   refine OKS.both ?_ ?_
   ·refine ZO (enc:=KL.encT) (z:=false) (v:=.bool false) Z Z Z Z Z (wDH ZF) wMk Z Z Z Z Z Z h27 hS445 ?_
    intro W446 b447 hS448
    have hS450:sW w φ φ [.row (some ⟨b447,0,none⟩) x26.length 4 1 (nA KL.encT x26),B4,.blk b2 66 B0] W446:=hS448
    exact ko405 _ _ ⟨φ,(some ⟨b442,0,none⟩),x18.length,(some ⟨b447,0,none⟩),x26.length,rfl,rfl,rfl,rfl,rfl,rfl,rfl,rfl,rfl,rfl,(zO _),(hS450.pick [2,1,0] _ (by decide) rfl)⟩
   ·refine ZQ (cs:=[.pointer none]) Z Z Z Z Z Tryz.zeroValue200 Z hS445 ?_
    intro W455 b456 hS457
    exact ko374 _ _ ⟨φ,b456,(some ⟨b442,0,none⟩),x18.length,rfl,rfl,rfl,rfl,rfl,rfl,rfl,rfl,rfl,rfl,(zO _),(hS457.pick [2,0,1] _ (by decide) rfl)⟩
  refine OKS.both ?_ ?_
  ·refine ZO (enc:=KL.encT) (z:=false) (v:=.bool false) Z Z Z Z Z (wDH ZF) wMk Z Z Z Z Z Z h27 hS47 ?_
   intro W463 b464 hS465
   let B5:Res:=.row (some ⟨b464,0,none⟩) x26.length 4 1 (nA KL.encT x26)
   have hS467:sW w φ φ [B5,.blk b2 66 B0] W463:=hS465
   refine OKS.both ?_ ?_
   ·refine ZO (enc:=KL.encI) (z:=(0:Int)) (v:=jV 0) Z Z Z Z Z (wDH zA) wEh Z Z Z Z Z Z h19 hS467 ?_
    intro W468 b469 hS470
    have hS472:sW w φ φ [.row (some ⟨b469,0,none⟩) x18.length 3 1 (nA KL.encI x18),B5,.blk b2 66 B0] W468:=hS470
    exact ko405 _ _ ⟨φ,(some ⟨b469,0,none⟩),x18.length,(some ⟨b464,0,none⟩),x26.length,rfl,rfl,rfl,rfl,rfl,rfl,rfl,rfl,rfl,rfl,(zO _),(hS472.pick [2,0,1] _ (by decide) rfl)⟩
   ·refine ZQ (cs:=[.pointer none]) Z Z Z Z Z Tryz.zeroValue200 Z hS467 ?_
    intro W477 b478 hS479
    exact ko343 _ _ ⟨φ,b478,(some ⟨b464,0,none⟩),x26.length,rfl,rfl,rfl,rfl,rfl,rfl,rfl,rfl,rfl,rfl,(zO _),(hS479.pick [2,0,1] _ (by decide) rfl)⟩
  ·refine ZQ (cs:=[.pointer none]) Z Z Z Z Z Tryz.zeroValue200 Z hS47 ?_
   intro W485 b486 hS487
   refine OKS.both ?_ ?_
   ·refine ZO (enc:=KL.encI) (z:=(0:Int)) (v:=jV 0) Z Z Z Z Z (wDH zA) wEh Z Z Z Z Z Z h19 hS487 ?_
    intro W489 b490 hS491
    have hS493:sW w φ φ [.row (some ⟨b490,0,none⟩) x18.length 3 1 (nA KL.encI x18),.blk b486 200 [.pointer none],.blk b2 66 B0] W489:=hS491
    exact ko374 _ _ ⟨φ,b486,(some ⟨b490,0,none⟩),x18.length,rfl,rfl,rfl,rfl,rfl,rfl,rfl,rfl,rfl,rfl,(zO _),(hS493.pick [2,1,0] _ (by decide) rfl)⟩
   ·refine ZO (enc:=KL.encT) (z:=false) (v:=.bool false) Z Z Z Z Z (wDH ZF) wMk Z Z Z Z Z Z h27 hS487 ?_
    intro W498 b499 hS500
    have hS502:sW w φ φ [.row (some ⟨b499,0,none⟩) x26.length 4 1 (nA KL.encT x26),.blk b486 200 [.pointer none],.blk b2 66 B0] W498:=hS500
    exact ko343 _ _ ⟨φ,b486,(some ⟨b499,0,none⟩),x26.length,rfl,rfl,rfl,rfl,rfl,rfl,rfl,rfl,rfl,rfl,(zO _),(hS502.pick [2,1,0] _ (by decide) rfl)⟩
 ·rintro σ507 W508 ⟨φ509,b6,b8,A10,c11,A13,c14,f512,f513,le510,hS511⟩
  refine sR (.fx 0 (.nil) .stop) Z (ZQ (cs:=[.slice none 0 0]) Z Z Z Z Z Tryz.zeroValue36 Z hS511 ?_)
  intro W514 b515 hS516
  refine eN (zG (sR (.fl 0 (.fx 1 (.nil) .stop)) Z (oL Z (hS516.ldBA (j:=1) Z Z f512 Tryz.isAgg66 ZA (vs:=B0) Z Z) ?_)))
  have h518:=ha0.le le510
  have h519:=ha1.le le510
  refine bnK hm17 fun x520 h521 hm522=>zL 0 Z Z Z Z (zM Z Z Tryz.call185 (zC Z zR) Z) hS516 (fun hs=>wEW p0 pA0_1 pc0_1 pA0_2 pc0_2 W514 φ509 hs h518 h519 h521) (.inr Z) ?_
  rintro φ523 L524 v525 W526 le527 hS528 ⟨b529,A530,c531,rfl,rfl,h532,h533⟩
  let B6:Res:=.blk b6 200 [.pointer (some ⟨b8,0,none⟩)]
  have hS534:sW w φ φ523 [.blk b515 36 [.slice none 0 0],.blk b2 66 B0,B6,.blk b8 204 [jV p0.Laps,.slice pA0_1 p0.Bibs.length pc0_1,.slice pA0_2 p0.Times.length pc0_2,.slice A10 l9.length c11,.slice A13 l12.length c14],.row A10 c11 3 1 (nA KL.encI l9),.row A13 c14 4 1 (nA KL.encT l12)] W526:=hS528
  refine eN (zS (CK.fresh fun σ535 hσ536=>?_))
  have f537:σ535 4=.pointer (some ⟨b6,0,none⟩):=(hσ536 4).trans f513
  have f538:σ535 5=.pointer (some ⟨b515,0,none⟩):=(hσ536 5).trans rfl
  have f539:σ535 24=.func (.func 302) #[] #[.pointer (some ⟨b529,0,none⟩)]:=(hσ536 24).trans rfl
  clear hσ536
  have hS1114:=hS534.nilrow 45 4
  have h1116:=h518.le le527
  have h1117:=h519.le le527
  refine bnK hm522 fun rr1118 hit1119 hm1120=>CK.rangeY (S:=(List wAB) × Int × (List Int) × (List (List Int)) × (List Int) × (List Bool)) (E:=Empty) (ar:=wLp) (PY:=(fun (s_:(List wAB) × Int × (List Int) × (List (List Int)) × (List Int) × (List Bool)) (φ_:PHeap) (L_:List Res)=>match s_ with | (l1081,x1085,l1086,l1089,l1092,l1095)=>∃ (A1082:Option Addr) (c1083:Nat) (A1087:Option Addr) (c1088:Nat) (A1090:Option Addr) (c1091:Nat) (A1093:Option Addr) (c1094:Nat) (A1096:Option Addr) (c1097:Nat),L_=[.row A1082 c1083 45 4 (nA wAI l1081),.blk b515 36 [.slice A1082 l1081.length c1083],.blk b2 66 B0,B6,.row A1093 c1094 3 1 (nA KL.encI l1092),.row A1096 c1097 4 1 (nA KL.encT l1095),.blk b8 204 [jV x1085,.slice A1087 l1086.length c1088,.slice A1090 l1089.length c1091,.slice A1093 l1092.length c1094,.slice A1096 l1095.length c1097]]/\Sl φ_ 1 A1087 c1088 l1086.length (nA KL.encI l1086)/\SlR φ_ wHZ A1090 c1091 l1089)) (PE:=(fun (_:Empty) _ _=>False)) (exO:=Empty.elim) (s0:=([],p0.Laps,p0.Bibs,p0.Times,l9,l12)) (rr:=rr1118) f539 Tryz.call302 (hS1114.pick [0,1,2,3,5,6,4] _ (by decide) rfl) (by decide) (fun _ _ _ h=>by obtain rfl:=h;rfl) (fun e=>nomatch e) ⟨none,0,pA0_1,pc0_1,pA0_2,pc0_2,A10,c11,A13,c14,rfl,h1116,h1117⟩ (fun l w1 L1 PY' PE' hS1 hP1 hY1=>wCp PY' PE' _ l _ x520 b529 A530 c531 w1 L1 φ523 hS1 hP1 hY1 h532 h533 hit1119) ?_ ?_
  ·rintro l1121 rb1122 fn1123 ⟨l1081,x1085,l1086,l1089,l1092,l1095⟩ x1124 vs1125 r1126 ph1127 L1128 w1129 o1130 B1131 le1132 hS1133 hP1134 ha1135 hf1136 sg1137 hs1138
   obtain ⟨A1082,c1083,A1087,c1088,A1090,c1091,A1093,c1094,A1096,c1097,rfl,h1139,h1140⟩:=hP1134
   obtain rfl:=ha1135
   replace hs1138:∀ t,sg1137 t=upd σ535 25 (jV x1124) t:=hs1138
   have f1141:sg1137 25=jV x1124:=(hs1138 25).trans (wBv _ _ _)
   have f1142:sg1137 4=.pointer (some ⟨b6,0,none⟩):=(hs1138 4).trans ((wCU _ _ (by decide)).trans f537)
   have f1143:sg1137 5=.pointer (some ⟨b515,0,none⟩):=(hs1138 5).trans ((wCU _ _ (by decide)).trans f538)
   clear hs1138
   let B7:Res:=.blk b8 204 [jV x1085,.slice A1087 l1086.length c1088,.slice A1090 l1089.length c1091,.slice A1093 l1092.length c1094,.slice A1096 l1095.length c1097]
   let B8:Res:=.row A1082 c1083 45 4 (nA wAI l1081)
   let B9:Res:=.blk b515 36 [.slice A1082 l1081.length c1083]
   let B10:Res:=.row A1093 c1094 3 1 (nA KL.encI l1092)
   let B11:Res:=.row A1096 c1097 4 1 (nA KL.encT l1095)
   have hS1145:St B1131 ph1127 [.obj l1121 o1130,B8,B9,.blk b2 66 B0,B6,B10,B11,B7] w1129:=hS1133
   try dsimp only at hf1136
   refine rR fL1 Z (oA Z f1141 (zq ⟨Z,Z,_,_,hS1145,fun W1146 o1147 hS1148=>?_⟩))
   have hS1149:St B1131 ph1127 [.obj l1121 o1147,B8,B9,.blk b2 66 B0,B6,B10,B11,B7] W1146:=hS1148
   refine zS (sR (.fl 0 (.fl 1 (.fx 2 (.fl 3 (.nil)) .stop))) Z (oL Z (hS1149.ldB (j:=4) Z Z f1142 ZV (v:=.pointer (some ⟨b8,0,none⟩)) Z) (oM Z Z ?_)))
   have q:=bnd hf1136
   obtain ⟨⟨x1150,x1151⟩,h1152,hm1153⟩:=q
   try dsimp only at hm1153
   have hS1154:St B1131 ph1127 [B7,B10,B11,.obj l1121 o1147,B8,B9,.blk b2 66 B0,B6] W1146:=hS1149.pick [7,5,6,0,1,2,3,4] _ (by decide) rfl
   refine zL 3 Z Z Z Z (zM Z Z Tryz.call186 (zC Z (zC Z zR)) Z) hS1154 (fun hs=>wDb (⟨(⟨x1085,l1086,l1089⟩:wAE),l1092,l1095⟩:wAA) b8 A1087 c1088 A1090 c1091 A1093 c1094 A1096 c1097 x1124 W1146 ph1127 hs h1139 h1140 h1152) (.inl Z) ?_
   rintro φ1155 L1156 v1157 W1158 le1159 hS1160 ⟨A1161,c1162,A1163,c1164,A1165,c1166,A1167,c1168,A1169,c1170,rfl,rfl,h1174,h1175⟩
   let B12:List Value:=[jV x1151.Race.Laps,.slice A1163 x1151.Race.Bibs.length c1164,.slice A1165 x1151.Race.Times.length c1166,.slice A1167 x1151.done.length c1168,.slice A1169 x1151.out.length c1170]
   let B13:Res:=.row A1161 c1162 3 1 (nA KL.encI x1150)
   let B14:Res:=.row A1167 c1168 3 1 (nA KL.encI x1151.done)
   let B15:Res:=.row A1169 c1170 4 1 (nA KL.encT x1151.out)
   have hS1176:St B1131 φ1155 [B13,B14,B15,.blk b8 204 B12,.obj l1121 o1147,B8,B9,.blk b2 66 B0,B6] W1158:=hS1160
   refine oA Z Z (eN (zG (sR fL3 Z (oM Z Z (oR Z (zo Z Z zA) (oM Z Z (eN (zS (bnK hm1153 fun y1196 hf1193 hm1192=>?_)))))))))
   have q:=wBx hf1193
   obtain ⟨hle1194,hf1195⟩:=q
   replace hle1194:=zB hle1194
   refine CK.forN' (fun k1191 l1188 σ_ w_=>∃ (φ_:PHeap) (A1189:Option Addr) (c1190:Nat),σ_ 31=jV (↑k1191:Int)/\σ_ 4=.pointer (some ⟨b6,0,none⟩)/\σ_ 5=.pointer (some ⟨b515,0,none⟩)/\σ_ 6=jV x1124/\σ_ 7=.slice A1161 x1150.length c1162/\σ_ 29=.slice A1161 x1150.length c1162/\σ_ 30=jV (↑x1150.length:Int)/\PHeap.Le φ1155 φ_/\St B1131 φ_ [B14,B15,.blk b8 204 B12,.obj l1121 o1147,.row A1189 c1190 45 4 (nA wAI l1188),.blk b515 36 [.slice A1189 l1188.length c1190],.blk b2 66 B0,B6,B13] w_) hf1195 ?_ ?_ ?_
   ·exact ⟨φ1155,A1082,c1083,rfl,f1142,f1143,rfl,rfl,rfl,rfl,(zO _),(hS1176.pick [1,2,3,4,5,6,7,8,0] _ (by decide) rfl)⟩
   ·rintro k1191 l1188 xx1199 σ1197 W1198 hk1202 ⟨φ1204,A1189,c1190,fi1203,f1207,f1208,f1209,f1210,f1211,f1212,le1205,hS1206⟩ hx1200
    have c1213:Hid ((↑k1191:Int) < (↑x1150.length:Int)):=zB (wBm hk1202)
    replace hk1202:=zB hk1202
    have hi1214:Hid (w64 ((↑k1191:Int) + 1)=(↑(k1191 + 1):Int)):=zB (by have h1:=hle1194.out;have h2:=c1213.out;rw [wAa] <;> omega)
    refine sR fL1 Z (oR Z (zU Z fi1203 f1212) (eN (zG (cT Z c1213 (kN (zG (zS (sR fL3 Z (bnK hx1200 fun _ h1215 hm1216=>?_)))))))))
    obtain ⟨b1217,hA1218⟩:=hS1206.rowSome (j:=8) rfl (by rw [wAG (f:=KL.encI) (sz:=1) (fun _=>rfl) x1150];have hz:=wAe h1215;omega)
    refine oR Z (zy Z f1211 hA1218 fi1203 zA zD (wAe h1215)) ?_
    have hg1219:=wBh (xs:=x1150) (wAe h1215)
    refine zz rfl rfl rfl rfl (hS1206.ldR (j:=8) rfl hA1218 rfl rfl zK (wAk (sz:=1) (fun _=>rfl) _ _ 0 _ hg1219 (by first | omega | rfl | simp) rfl)) rfl (OKS.ra rfl rfl rfl rfl rfl rfl (eN (CK.anyOrd Za [1,1,3,3,3,1,3,3,1,1,3,3,1,3,3,1,3,1,3,3,3,1,1,3,1,3,3,1,3,3,1,3,2,3,1,3,2,0,0] (wQN (.fx 32 (wOy (.fx 36 (.fx 37 (.fx 38 (.nil) .stop) .stop) .stop)) .stop)) (by kernel_rfl) ?_)))
    have hS1220:=hS1206.drew
    generalize hw_W1221:({ W1198 with drawn:=W1198.drawn + 1 }:World)=W1221 at hS1220 ⊢
    refine oL Z (hS1220.ldB (j:=5) Z Z f1208 Tryz.isAgg36 (v:=.slice A1189 l1188.length c1190) Z) (oL Z (hS1220.ldB (j:=7) Z Z f1207 ZV (v:=.pointer (some ⟨b8,0,none⟩)) Z) (oR Z (zu Z Z) (oR Z (zN Z Z zh Z ZA) (oR Z (zN Z Z zH Z zV) (oL Z (hS1220.ldB (j:=2) Z Z Z zj (v:=.slice A1163 x1151.Race.Bibs.length c1164) Z) (oM Z Z (bnK hm1216 fun x1222 h1223 hm1224=>?_)))))))
    have h1225:=h1174.le le1205
    have q:=h1225.el (fun _=>rfl) (wAs h1223)
    obtain ⟨b1226,off1227,hA1228,hC1229⟩:=q
    refine oR Z (ZM Z Z hA1228 Z zA zD (wDi h1223) (wEN h1223)) (oL Z (hS1220.ldC (f:=0) hC1229 (v:=jV x1222) Z Z zK Z) (oL Z (hS1220.ldB (j:=7) Z Z f1207 ZV (v:=.pointer (some ⟨b8,0,none⟩)) Z) (oR Z (zu Z Z) (oR Z (zN Z Z zh Z zV) (oL Z (hS1220.ldB (j:=2) Z Z Z zj (v:=.slice A1167 x1151.done.length c1168) Z) (oM Z Z (bnK hm1224 fun _ h1230 hm1231=>?_)))))))
    obtain ⟨b1232,hA1233⟩:=hS1220.rowSome (j:=0) rfl (by rw [wAG (f:=KL.encI) (sz:=1) (fun _=>rfl) x1151.done];have hz:=wAe h1230;omega)
    refine oR Z (ZM Z Z hA1233 Z zA zD (wDg h1230) (wDh h1230)) ?_
    have hg1234:=wBh (xs:=x1151.done) (wAe h1230)
    refine zz rfl rfl rfl rfl (hS1220.ldR (j:=0) rfl hA1233 rfl rfl zK (wAk (sz:=1) (fun _=>rfl) _ _ 0 _ hg1234 (by first | omega | rfl | simp) rfl)) rfl (zW rfl rfl rfl rfl rfl f1209 (zz rfl rfl rfl rfl (hS1220.ldB (j:=7) rfl rfl f1207 ZV (v:=.pointer (some ⟨b8,0,none⟩)) rfl) rfl (zk rfl rfl rfl rfl (fun _=>zu rfl rfl) (zk rfl rfl rfl rfl (fun _=>zN rfl rfl zh rfl ZA) (zk rfl rfl rfl rfl (fun _=>zN rfl rfl zH rfl zV) (zz rfl rfl rfl rfl (hS1220.ldB (j:=2) rfl rfl rfl zj (v:=.slice A1163 x1151.Race.Bibs.length c1164) rfl) rfl (zz rfl rfl rfl rfl (hS1220.ldB (j:=7) rfl rfl f1207 ZV (v:=.pointer (some ⟨b8,0,none⟩)) rfl) rfl (zW rfl rfl rfl rfl rfl rfl (zz rfl rfl rfl rfl (hS1220.ldB (j:=7) rfl rfl f1207 ZV (v:=.pointer (some ⟨b8,0,none⟩)) rfl) rfl (zk rfl rfl rfl rfl (fun _=>zu rfl rfl) (zk rfl rfl rfl rfl (fun _=>zN rfl rfl zh rfl zV) (zz rfl rfl rfl rfl (hS1220.ldB (j:=2) rfl rfl rfl zj (v:=.slice A1167 x1151.done.length c1168) rfl) rfl (zW rfl rfl rfl rfl rfl rfl (zk rfl rfl rfl rfl (fun _=>ZM rfl rfl hA1233 rfl zA zD (wDg h1230) (wDh h1230)) ?_))))))))))))))
    have hg1235:=wBh (xs:=x1151.done) (wAe h1230)
    refine zz rfl rfl rfl rfl (hS1220.ldR (j:=0) rfl hA1233 rfl rfl zK (wAk (sz:=1) (fun _=>rfl) _ _ 0 _ hg1235 (by first | omega | rfl | simp) rfl)) rfl (zW rfl rfl rfl rfl rfl f1209 ?_)
    have q:=hS1220.freezeT (k:=0) (n:=x1151.done.length) rfl (wAG (f:=KL.encI) (sz:=1) (fun _=>rfl) x1151.done) (by decide)
    obtain ⟨φ1237,le1238,hs1239,hS1240,th1236⟩:=q
    let B16:Res:=.row A1189 c1190 45 4 (nA wAI l1188)
    let B17:Res:=.blk b515 36 [.slice A1189 l1188.length c1190]
    have hS1241:St B1131 φ1237 [B15,.blk b8 204 B12,.obj l1121 o1147,B16,B17,.blk b2 66 B0,B6,B13] W1221:=hS1240
    have q:=hS1241.freezeT (k:=0) (n:=x1151.out.length) rfl (wAG (f:=KL.encT) (sz:=1) (fun _=>rfl) x1151.out) (by decide)
    obtain ⟨φ1243,le1244,hs1245,hS1246,th1242⟩:=q
    have hS1247:St B1131 φ1243 [.blk b8 204 B12,.obj l1121 o1147,B16,B17,.blk b2 66 B0,B6,B13] W1221:=hS1246
    have q:=hS1247.freezeTB (k:=0) rfl
    obtain ⟨φ1249,le1250,hC1251,hS1252,th1248⟩:=q
    replace hC1251:=Cl.of hC1251
    have hS1253:St B1131 φ1249 [.obj l1121 o1147,B16,B17,.blk b2 66 B0,B6,B13] W1221:=hS1252
    replace hC1251:Cl φ1249 b8 0 B12:=hC1251
    have h1254:=h1225.le le1238
    have h1255:=h1254.le le1244
    have h1256:=h1255.le le1250
    have h1257:=h1175.le le1205
    have h1258:=h1257.le le1238
    have h1259:=h1258.le le1244
    have h1260:=h1259.le le1250
    have h1261:=hs1239.le le1244
    have h1262:=h1261.le le1250
    have h1263:=hs1245.le le1250
    refine bnK hm1231 fun x1264 h1265 hm1266=>zL 0 rfl rfl rfl rfl (zM rfl rfl Tryz.call187 (zC rfl (zC rfl (zC rfl (zC rfl zR)))) rfl) hS1253 (fun hs=>wCc x1151 b8 A1163 c1164 A1165 c1166 A1167 c1168 A1169 c1170 (gd x1150 k1191) (gd x1151.done (gd x1150 k1191).toNat) x1124 W1221 φ1249 hs hC1251 h1256 h1260 h1262 h1263 h1265) (.inr rfl) ?_
    rintro φ1267 L1268 v1269 W1270 le1271 hS1272 ⟨rfl,rfl⟩
    have hS1273:St B1131 φ1267 [.obj l1121 o1147,B16,B17,.blk b2 66 B0,B6,B13] W1270:=hS1272
    have q:=th1248 _ _ _ le1271 hS1273
    obtain ⟨φ1274,le1275,hS1276⟩:=q
    have hS1277:St B1131 φ1274 [.blk b8 204 B12,.obj l1121 o1147,B16,B17,.blk b2 66 B0,B6,B13] W1270:=hS1276
    have q:=th1242 _ _ _ le1275 hS1277
    obtain ⟨φ1278,le1279,hS1280⟩:=q
    have hS1281:St B1131 φ1278 [B15,.blk b8 204 B12,.obj l1121 o1147,B16,B17,.blk b2 66 B0,B6,B13] W1270:=hS1280
    have q:=th1236 _ _ _ le1279 hS1281
    obtain ⟨φ1282,le1283,hS1284⟩:=q
    have hS1285:St B1131 φ1282 [B14,B15,.blk b8 204 B12,.obj l1121 o1147,B16,B17,.blk b2 66 B0,B6,B13] W1270:=hS1284
    refine bnK hm1266 fun x1286 h1287 hm1288=>?_
    have h1289:=h1225.le le1283
    have q:=h1289.el (fun _=>rfl) (wAs h1287)
    obtain ⟨b1290,off1291,hA1292,hC1293⟩:=q
    refine oR Z (ZM Z Z hA1292 Z zA zD (wDi h1287) (wEN h1287)) (oL Z (hS1285.ldC (f:=0) hC1293 (v:=jV x1286) Z Z zK Z) ?_)
    let B18:List Value:=[jV x1222,jV (gd x1151.done (gd x1150 k1191).toNat),jV x1124,jV x1286]
    let B19:List Value:=[jV 0,jV 0,jV 0,jV 0]
    refine oR Z (Runs.build (pv:=[(0,jV x1222),(1,jV (gd x1151.done (gd x1150 k1191).toNat)),(2,jV x1124),(3,jV x1286)]) (z:=B19) (cs:=B18) Z (wAT Z (wAT Z (wAT Z (wAT Z wBW)))) Tryz.zeroValue45 wMj Z Z) (ZJ (pv:=[(0,.agg B18.toArray)]) (zs:=B19) (cs:=B18) Z Z Z Z Z (wAT Z wBW) Tryz.runUnderlying36 Tryz.sizeOf45 Tryz.zeroValue45 Z Z Z Z Z hS1285 ?_)
    intro W1294 b1295 hS1296
    let B20:Res:=.row (some ⟨b1295,0,none⟩) 1 45 4 (nA wAI [(⟨x1222,(gd x1151.done (gd x1150 k1191).toNat),x1124,x1286⟩:wAB)])
    have hS1298:St B1131 φ1282 [B20,B14,B15,.blk b8 204 B12,.obj l1121 o1147,B16,B17,.blk b2 66 B0,B6,B13] W1294:=hS1296
    refine bnK hm1288 fun x1299 h1300 hm1301=>ZP (j:=5) (enc:=wAI) (xs:=l1188) (ys:=[(⟨x1222,(gd x1151.done (gd x1150 k1191).toNat),x1124,x1286⟩:wAB)]) (zs:=x1299) rfl rfl rfl rfl rfl Tryz.underlying36 wQC rfl rfl rfl rfl rfl rfl hS1298 rfl rfl rfl (hS1298.srcR (j:=0) rfl (by decide) (wAG (f:=wAI) (sz:=4) (fun _=>rfl) [(⟨x1222,(gd x1151.done (gd x1150 k1191).toNat),x1124,x1286⟩:wAB)])) (fun _=>rfl) (fun _=>rfl) h1300 rfl ?_
    intro A1302 c1303 W1304 hS1305
    let B21:Res:=.row A1302 c1303 45 4 (nA wAI x1299)
    have hS1306:St B1131 φ1282 [B20,B14,B15,.blk b8 204 B12,.obj l1121 o1147,B21,B17,.blk b2 66 B0,B6,B13] W1304:=hS1305
    refine OKS.st (j:=6) (vs:=[.slice A1302 x1299.length c1303]) Z Z Z Z hS1306 Z f1208 Z Z Tryz.sizeOf36 (zY Z) Z Z Z ?_
    intro W1307 hS1308
    have hS1309:St B1131 φ1282 [B20,B14,B15,.blk b8 204 B12,.obj l1121 o1147,B21,.blk b515 36 [.slice A1302 x1299.length c1303],.blk b2 66 B0,B6,B13] W1307:=hS1308
    refine zq (zZ (zF (rR fL2 Z (oR Z (zt (zQ Z fi1203 Z) (congrArg (jV) hi1214.out)) (oM Z Z (zq ?_))))))
    cases hm1301
    exact zF ⟨rfl,⟨φ1282,A1302,c1303,rfl,f1207,f1208,f1209,f1210,f1211,f1212,(le1205.trans le1283),(hS1309.pick [1,2,3,4,5,6,7,8,9] _ (by decide) rfl)⟩⟩
   ·rintro σ1313 W1314 ⟨φ1322,A1320,c1321,fi1316,f1325,f1326,f1327,f1328,f1329,f1330,le1323,hS1324⟩
    have c1331:Hid (¬ ((↑(((↑x1150.length:Int):Int) - 0).toNat:Int) < (↑x1150.length:Int))):=zB (wBO)
    refine sR fL1 Z (oR Z (zU Z fi1316 f1330) (eN (zG (cF Z c1331 (ZD (zf (zf (ZB (zF (sR fL3 Z (oM Z f1328 (oR Z (zo Z Z zA) (oM Z Z (eN (zS (bnK hm1192 fun y1343 hf1340 hm1339=>?_))))))))))))))))
    have q:=wBx hf1340
    obtain ⟨hle1341,hf1342⟩:=q
    replace hle1341:=zB hle1341
    let B22:Res:=.row A1320 c1321 45 4 (nA wAI y1196)
    let B23:Res:=.blk b515 36 [.slice A1320 y1196.length c1321]
    refine CK.forN' (fun k1338 l1337 σ_ w_=>∃ (φ_:PHeap),σ_ 76=jV (↑k1338:Int)/\σ_ 4=.pointer (some ⟨b6,0,none⟩)/\σ_ 5=.pointer (some ⟨b515,0,none⟩)/\σ_ 74=.slice A1161 x1150.length c1162/\σ_ 75=jV (↑x1150.length:Int)/\PHeap.Le φ1322 φ_/\St B1131 φ_ [B14,.row A1169 c1170 4 1 (nA KL.encT l1337),.blk b8 204 [jV x1151.Race.Laps,.slice A1163 x1151.Race.Bibs.length c1164,.slice A1165 x1151.Race.Times.length c1166,.slice A1167 x1151.done.length c1168,.slice A1169 l1337.length c1170],.obj l1121 o1147,B22,B23,.blk b2 66 B0,B6,B13] w_/\l1337.length=x1151.out.length) hf1342 ?_ ?_ ?_
    ·exact ⟨φ1322,Z,f1325,f1326,Z,Z,(zO _),hS1324,Z⟩
    ·rintro k1338 l1337 xx1346 σ1344 W1345 hk1349 ⟨φ1351,fi1350,f1354,f1355,f1356,f1357,le1352,hS1353,h1358⟩ hx1347
     have c1359:Hid ((↑k1338:Int) < (↑x1150.length:Int)):=zB (wBm hk1349)
     replace hk1349:=zB hk1349
     have hi1360:Hid (w64 ((↑k1338:Int) + 1)=(↑(k1338 + 1):Int)):=zB (by have h1:=hle1341.out;have h2:=c1359.out;rw [wAa] <;> omega)
     refine sR fL1 Z (oR Z (zU Z fi1350 f1357) (eN (zG (cT Z c1359 (kN (zG (zS (sR fL3 Z (bnK hx1347 fun _ h1361 hm1362=>?_)))))))))
     obtain ⟨b1363,hA1364⟩:=hS1353.rowSome (j:=8) rfl (by rw [wAG (f:=KL.encI) (sz:=1) (fun _=>rfl) x1150];have hz:=wAe h1361;omega)
     refine oR Z (zy Z f1356 hA1364 fi1350 zA zD (wAe h1361)) ?_
     have hg1365:=wBh (xs:=x1150) (wAe h1361)
     refine zz rfl rfl rfl rfl (hS1353.ldR (j:=8) rfl hA1364 rfl rfl zK (wAk (sz:=1) (fun _=>rfl) _ _ 0 _ hg1365 (by first | omega | rfl | simp) rfl)) rfl (OKS.ra rfl rfl rfl rfl rfl rfl (eN (rR (wOv (.fx 6 (.nil) .stop)) rfl (zz rfl rfl rfl rfl (hS1353.ldB (j:=7) rfl rfl f1354 ZV (v:=.pointer (some ⟨b8,0,none⟩)) rfl) rfl (zk rfl rfl rfl rfl (fun _=>zu rfl rfl) (zk rfl rfl rfl rfl (fun _=>zN rfl rfl zh rfl Tryz.sizeOf77) (zz rfl rfl rfl rfl (hS1353.ldB (j:=2) rfl rfl rfl Tryz.isAgg77 (v:=.slice A1169 l1337.length c1170) rfl) rfl (zW rfl rfl rfl rfl rfl rfl (bnK hm1362 fun _ h1366 hm1367=>?_)))))))))
     obtain ⟨b1368,hA1369⟩:=hS1353.rowSome (j:=1) rfl (by rw [wAG (f:=KL.encT) (sz:=1) (fun _=>rfl) l1337];have hz:=wAe h1366;omega)
     refine oR Z (ZM Z Z hA1369 Z ZF ZX (wDg h1366) (wDh h1366)) ?_
     have hg1370:=wBh (xs:=l1337) (wAe h1366)
     refine OKS.stR (j:=1) (vs:=[.bool true]) (cs':=nA KL.encT (nJ l1337 (gd x1150 k1338).toNat true)) rfl rfl rfl rfl hS1353 rfl hA1369 rfl rfl rfl ZX (by rw [wAG (f:=KL.encT) (sz:=1) (fun _=>rfl)];have hz:=wAe h1366;show _ + 1 <= _;first | omega | (simp only [nK];omega) | (simp only [nI,nG,nH];omega)) rfl (wFO (sz:=1) (fo:=0) (fun _=>rfl) _ _ _ _ hg1370 (by first | omega | (simp only [nK];omega) | (simp only [nI,nG,nH];omega)) (zY rfl) rfl) rfl ?_
     intro W1371 hS1372
     let B24:Res:=.row A1169 c1170 4 1 (nA KL.encT (nJ l1337 (gd x1150 k1338).toNat true))
     have hS1373:St B1131 φ1351 [B14,B24,.blk b8 204 [jV x1151.Race.Laps,.slice A1163 x1151.Race.Bibs.length c1164,.slice A1165 x1151.Race.Times.length c1166,.slice A1167 x1151.done.length c1168,.slice A1169 l1337.length c1170],.obj l1121 o1147,B22,B23,.blk b2 66 B0,B6,B13] W1371:=hS1372
     have hS1374:St B1131 φ1351 [B14,B24,.blk b8 204 [jV x1151.Race.Laps,.slice A1163 x1151.Race.Bibs.length c1164,.slice A1165 x1151.Race.Times.length c1166,.slice A1167 x1151.done.length c1168,.slice A1169 ((nJ l1337 (gd x1150 k1338).toNat true).length) c1170],.obj l1121 o1147,B22,B23,.blk b2 66 B0,B6,B13] W1371:=by simpa only [nM] using hS1373
     refine zq (zZ (zF (rR fL2 Z (oR Z (zt (zQ Z fi1350 Z) (congrArg (jV) hi1360.out)) (oM Z Z (zq ?_))))))
     cases hm1367
     exact zF ⟨Z,⟨φ1351,Z,f1354,f1355,f1356,f1357,le1352,hS1374,(nM.trans h1358)⟩⟩
    ·rintro σ1376 W1377 ⟨φ1381,fi1379,f1384,f1385,f1386,f1387,le1382,hS1383,h1388⟩
     have c1389:Hid (¬ ((↑(((↑x1150.length:Int):Int) - 0).toNat:Int) < (↑x1150.length:Int))):=zB (wBO)
     refine sR fL1 Z (oR Z (zU Z fi1379 f1387) (eN (zG (cF Z c1389 (ZD (zf (zf (ZB (zZ ?_)))))))))
     have h1406:=h1174.le le1323
     have h1407:=h1406.le le1382
     have h1408:=h1175.le le1323
     have h1409:=h1408.le le1382
     obtain rfl:=nB hm1339
     exact ⟨_,_,(hS1383.pick [3,4,5,6,7,0,1,2] _ (by decide) rfl),rfl,⟨A1320,c1321,A1163,c1164,A1165,c1166,A1167,c1168,A1169,c1170,rfl,h1407,h1409⟩⟩
  ·rintro rb1410 φ1411 L1412 W1413 le1414 hS1415
   rcases rr1118 with ⟨y1416,y1417,y1418,y1419,y1420,y1421⟩ | e1432
   ·try dsimp only at hm1120
    rintro ⟨A1422,c1423,A1424,c1425,A1426,c1427,A1428,c1429,A1430,c1431,rfl,h1433,h1434⟩
    let B25:Res:=.blk b8 204 [jV y1417,.slice A1424 y1418.length c1425,.slice A1426 y1419.length c1427,.slice A1428 y1420.length c1429,.slice A1430 y1421.length c1431]
    let B26:Res:=.row A1428 c1429 3 1 (nA KL.encI y1420)
    let B27:Res:=.row A1430 c1431 4 1 (nA KL.encT y1421)
    let B28:Res:=.blk b515 36 [.slice A1422 y1416.length c1423]
    have hS1436:sW w φ φ1411 [.row A1422 c1423 45 4 (nA wAI y1416),B28,.blk b2 66 B0,B6,B26,B27,B25,.obj rb1410 (.deferred (some []))] W1413:=hS1415
    refine zZ (zF (sR (.fl 0 (.fx 1 (.nil) .stop)) Z (oL Z (hS1436.ldB (j:=1) Z Z f538 Tryz.isAgg36 (v:=.slice A1422 y1416.length c1423) Z) ?_)))
    have hF1437:FnOK Tryz.prog φ1411 (.func (.func 189) #[] #[]) wQA wQB (fun x=>wAb x.1 x.2):=⟨189,[],[],rfl,Tryz.call189,fun φ1 w1 x y vs le hs ha hm=>by obtain rfl:=ha;exact wGx x.1 x.2 w1 φ1 hs  hm⟩
    refine bnK hm1120 fun x1438 h1439 hm1440=>zL 1 Z Z Z Z (zM Z Z Tryz.call188 (zC Z (zC Z zR)) Z) hS1436 (fun hs=>wBk y1416 A1422 c1423 (fun x=>wAb x.1 x.2) (.func (.func 189) #[] #[]) W1413 φ1411 hs hF1437 ⟨_,_,Z⟩ h1439) (.inl Z) ?_
    rintro φ1441 L1442 v1443 W1444 le1445 hS1446 ⟨rfl,rfl,h1447⟩
    let B29:Res:=.row A1422 c1423 45 4 (nA wAI x1438)
    have hS1448:sW w φ φ1441 [B29,B28,.blk b2 66 B0,B6,B26,B27,B25,.obj rb1410 (.deferred (some []))] W1444:=hS1446
    let B30:Res:=.blk b515 36 [.slice A1422 x1438.length c1423]
    have hS1449:sW w φ φ1441 [B29,B30,.blk b2 66 B0,B6,B26,B27,B25,.obj rb1410 (.deferred (some []))] W1444:=by simp only [B30,h1447];exact hS1448
    refine eN (zG (CK.anyOrd Za [1,1,3,3] fL4 (by kernel_rfl) ?_))
    have hS1450:=hS1449.drew
    generalize hw_W1451:({ W1444 with drawn:=W1444.drawn + 1 }:World)=W1451 at hS1450 ⊢
    refine oL Z (hS1450.ldB (j:=3) Z Z f537 ZV (v:=.pointer (some ⟨b8,0,none⟩)) Z) (oL Z (hS1450.ldB (j:=1) Z Z f538 Tryz.isAgg36 (v:=.slice A1422 x1438.length c1423) Z) (oA Z Z (oA Z Z (eN (zJ ?_)))))
    have h1452:=h1433.le le1445
    have h1453:=h1434.le le1445
    refine wNn (by first | exact .inl rfl | exact .inr rfl) (rbs:=[rb1410]) (L:=[B29,B30,.blk b2 66 B0,B6,B26,B27,B25]) hS1450 fun W1454 hS1455=>?_
    have hS1456:sW w φ φ1441 [B29,B30,.blk b2 66 B0,B6,B26,B27,B25] W1454:=hS1455
    cases hm1440
    exact ⟨_,(wKA rfl rfl),φ1441,_,(hS1456.pick [6,4,5,0] _ (by decide) rfl),b8,A1424,c1425,A1426,c1427,A1428,c1429,A1430,c1431,A1422,c1423,rfl,rfl,h1452,h1453⟩
   ·exact e1432.elim
end Go.Proofs.YtglpalgiipahjaaGreat
namespace Go.Proofs.YtglpalgiipahjaaGreat
open Go.KL
set_option maxHeartbeats 4000000
theorem wDk (p0:wAE) (pA0_1:Option Addr) (pc0_1:Nat) (pA0_2:Option Addr) (pc0_2:Nat) (w:World) (φ:PHeap) (hS:St0 w φ []) (ha0:Sl φ 1 pA0_1 pc0_1 p0.Bibs.length (nA KL.encI p0.Bibs)) (ha1:SlR φ wHZ pA0_2 pc0_2 p0.Times) {r:(List wAB) × Int} (hm:wBJ p0=some r):Gv Tryz.prog 44 [.agg #[jV p0.Laps,.slice pA0_1 p0.Bibs.length pc0_1,.slice pA0_2 p0.Times.length pc0_2]] w (wCN w [] φ (fun φ_ L_ v=>∃ (A0:Option Addr) (c0:Nat),v=.tuple #[.slice A0 r.1.length c0,jV r.2]/\L_=[.row A0 c0 45 4 (nA wAI r.1)])):=by
 unfold wBJ at hm
 refine Gv.of Tryz.func44 Z Tryz.ntmps44 Tryz.results44 Z (sR (.fx 0 (.fl 1 (.fl 2 (.nil))) .stop) Z ?_)
 let B0:List Value:=[jV p0.Laps,.slice pA0_1 p0.Bibs.length pc0_1,.slice pA0_2 p0.Times.length pc0_2]
 refine ZR (cs:=B0) rfl rfl rfl rfl rfl rfl (by rfl) hS ?_
 intro W1 b2 hS3
 refine oA Z Z (oA Z Z (eN (zG (sR (.fl 0 (.fx 1 (.fl 2 (.nil)) .stop)) Z (oL Z (hS3.ldBA (j:=0) Z Z Z Tryz.isAgg66 ZA (vs:=B0) Z Z) (bnK hm fun x5 h6 hm7=>zL 0 Z Z Z Z (zM Z Z Tryz.call106 (zC Z zR) Z) hS3 (fun hs=>wEj p0 pA0_1 pc0_1 pA0_2 pc0_2 W1 φ hs ha0 ha1 h6) (.inr Z) ?_))))))
 rintro φ8 L9 v10 W11 le12 hS13 ⟨rfl,rfl⟩
 have hS14:sW w φ φ8 [.blk b2 66 B0] W11:=hS13
 refine oA Z Z (eN (sR fL2 Z (oM Z Z (oR Z (Runs.neq Z Z Z) (eN (ifc hm7 ?_ ?_))))))
 ·intro c15 hm16
  refine zx (ZL (fun h=>h c15.out)) (kN (sR (.fl 0 (.fx 1 (wOw (.nil)) .stop)) Z (oL Z (hS14.ldBA (j:=0) Z Z Z Tryz.isAgg66 ZA (vs:=B0) Z Z) ?_)))
  have h17:=ha0.le le12
  have h18:=ha1.le le12
  have q:=bnd hm16
  obtain ⟨⟨x19,x20⟩,h21,hm22⟩:=q
  try dsimp only at hm22
  refine zL 0 Z Z Z Z (zM Z Z Tryz.call107 (zC Z zR) Z) hS14 (fun hs=>wIb p0 pA0_1 pc0_1 pA0_2 pc0_2 W11 φ8 hs h17 h18 h21) (.inr Z) ?_
  rintro φ23 L24 v25 W26 le27 hS28 ⟨b29,A30,c31,A32,c33,A34,c35,A36,c37,A38,c39,rfl,rfl,h44,h45⟩
  have hS46:sW w φ φ23 [.blk b29 204 [jV x19.Race.Laps,.slice A30 x19.Race.Bibs.length c31,.slice A32 x19.Race.Times.length c33,.slice A34 x19.done.length c35,.slice A36 x19.out.length c37],.row A34 c35 3 1 (nA KL.encI x19.done),.row A36 c37 4 1 (nA KL.encT x19.out),.row A38 c39 45 4 (nA wAI x20),.blk b2 66 B0] W26:=hS28
  refine oM Z Z (oR Z (Runs.ext Z Z (v:=.pointer (some ⟨b29,0,none⟩)) Z) (oR Z (Runs.ext Z Z (v:=.slice A38 x20.length c39) Z) (oA Z Z (oA Z Z (eN (sR fL3 Z (oM Z Z (oA Z Z (oA Z Z (eN (zJ ?_)))))))))))
  cases hm22
  exact ⟨rfl,_,(wKA rfl rfl),φ23,_,(hS46.pick [3] _ (by decide) rfl),A38,c39,rfl,rfl⟩
 ·intro c15 hm47
  refine cT Z c15 (sR fL3 Z (oM Z Z (oA Z Z (oA Z Z (eN (zJ (zI ?_)))))))
  have hS48:=hS14.nilrow 45 4
  cases hm47
  exact ⟨rfl,_,(wKA rfl rfl),φ8,_,(hS48.pick [0] _ (by decide) rfl),none,0,rfl,rfl⟩
theorem wCJ (p0:wAB) (p1:Int) (pb1:Nat) (w:World) (φ:PHeap) (hS:St0 w φ []) (ha0:Cl φ pb1 0 [jV p1]) {r:Bool} (hm:wAL p0 p1=some r):Gv Tryz.prog 69 [.agg #[jV p0.Bib,jV p0.Done,jV p0.Time,jV p0.By],.pointer (some ⟨pb1,0,none⟩)] w (wCN w [] φ (fun φ_ L_ v=>v=.bool r/\L_=[])):=by
 unfold wAL at hm
 refine Gv.of Tryz.func69 rfl Tryz.ntmps69 Tryz.results69 rfl (sR (.fx 0 (.fl 1 (.nil)) .stop) rfl (ZR (cs:=[jV p0.Bib,jV p0.Done,jV p0.Time,jV p0.By]) rfl rfl rfl rfl rfl rfl (by rfl) hS ?_))
 intro W1 b2 hS3
 refine oA Z Z (eN (sR fL6 Z (oR Z (zN Z Z Tryz.runUnderlying45 Z zD) (oL Z (hS3.ldB (j:=0) Z Z Z zK (v:=jV p0.Bib) Z) (oL Z (hS3.ldC (f:=0) ha0 (v:=jV p1) Z Z zK Z) (oR Z (zQ Z Z Z) (oR Z (Runs.eql Z Z Z) (oA Z Z (eN (zJ ?_))))))))))
 cases hm
 exact ⟨rfl,_,(zn rfl),φ,_,(hS3.pick [] _ (by decide) rfl),rfl,rfl⟩
theorem wBj (p0:List wAB) (pA0:Option Addr) (pc0:Nat) (p1:(wAB->Option Bool)) (pv1:Value) (w:World) (φ:PHeap) (hS:St0 w φ []) (ha0:Sl φ 4 pA0 pc0 p0.length (nA wAI p0)) (ha1:FnOK Tryz.prog φ pv1 wOf wOg p1) {r:Int} (hm:wAU p0 p1=some r):Gv Tryz.prog 108 [.slice pA0 p0.length pc0,pv1] w (wCN w [] φ (fun φ_ L_ v=>v=jV r/\L_=[])):=by
 unfold wAU at hm
 refine Gv.of Tryz.func108 Z Tryz.ntmps108 Tryz.results108 Z (sR fL1 Z (oA Z Z (eN (zG (sR fL3 Z (oM Z Z (oR Z (zo Z Z Tryz.runUnderlying36) (oM Z Z (eN (zS ?_))))))))))
 have q:=wCC hm
 obtain ⟨r3,hX4⟩:=q
 have q:=wCP hX4
 obtain ⟨hle5,hf6⟩:=q
 replace hle5:=zB hle5
 refine CK.forN (fun k2 _ σ_ w_=>∃ (φ_:PHeap),σ_ 8=jV (↑k2:Int)/\σ_ 0=.slice pA0 p0.length pc0/\σ_ 1=pv1/\σ_ 7=jV (↑p0.length:Int)/\PHeap.Le φ φ_/\sW w φ φ_ [] w_) hf6 ?_ ?_ ?_
 ·exact ⟨φ,Z,Z,Z,Z,(zO _),hS⟩
 ·rintro k2 ⟨⟩ xx9 σ7 W8 hk12 ⟨φ14,fi13,f17,f18,f19,le15,hS16⟩ hx10 hb11
  try dsimp only at hx10
  have c20:Hid ((↑k2:Int) < (↑p0.length:Int)):=zB (wBm hk12)
  replace hk12:=zB hk12
  have hi21:Hid (w64 ((↑k2:Int) + 1)=(↑(k2 + 1):Int)):=zB (by have h1:=hle5.out;have h2:=c20.out;rw [wAa] <;> omega)
  refine sR fL1 Z (oR Z (zU Z fi13 f19) (eN (zG (cT Z c20 (kN (zG (zS (sR fL2 Z (oM Z fi13 (oA Z Z (eN (sR (wOu (.fx 5 (.nil) .stop)) Z (oM Z f18 (oM Z f17 (oM Z Z (bnK hx10 fun x22 h23 hm24=>?_))))))))))))))))
  have h25:=ha0.le le15
  have q:=h25.el (fun _=>rfl) (wAs h23)
  obtain ⟨b26,off27,hA28,hC29⟩:=q
  refine oR Z (zy Z Z hA28 Z Tryz.runUnderlying36 Tryz.sizeOf45 (wCA h23)) (oL Z (hS16.ldCA (f:=0) hC29 Z Z Tryz.isAgg45 Tryz.sizeOf45 (us:=[jV x22.Bib,jV x22.Done,jV x22.Time,jV x22.By]) Z Z) (bnK hm24 fun x30 h31 hm32=>?_))
  have h39:=ha1.le le15
  refine OKS.callV (a:=x22) Z Z Z Z Z Z (zC Z zR) hS16 h39 Z h31 ?_
  rintro φ33 L34 v35 W36 le37 hS38 ⟨rfl,rfl⟩
  have hS40:sW w φ φ33 [] W36:=hS38
  refine eN (ifc hm32 ?_ ?_)
  ·intro c41 hm42
   refine ZC (congrArg nD c41.out) (sR fL2 Z (oM Z Z (oA Z Z (eN (zJ (zd (zI ?_)))))))
   have q:=wAq hm42
   obtain ⟨v43,hm44,e45⟩:=q
   obtain rfl:=wBl hm hX4 (hb11 v43 e45)
   refine zI (zd (zI ?_))
   cases hm44
   exact ⟨Z,_,(zn Z),φ33,_,hS40,Z,Z⟩
  ·intro c41 hm46
   refine zx (congrArg nD (nE.2 c41.out)) (ZE (zZ (zF (rR fL2 Z (oR Z (zt (zQ Z fi13 Z) (congrArg (jV) hi21.out)) (oM Z Z (zq ?_)))))))
   obtain rfl:=nB hm46
   exact zF ⟨Z,_,Z,⟨φ33,Z,f17,f18,f19,(le15.trans le37),hS40⟩⟩
 ·rintro ⟨⟩ σ47 W48 ⟨φ51,fi50,f54,f55,f56,le52,hS53⟩ hb49
  have hm57:=wCr hm hX4 hb49
  try dsimp only at hm57
  have c58:Hid (¬ ((↑(((↑p0.length:Int):Int) - 0).toNat:Int) < (↑p0.length:Int))):=zB (wBO)
  refine sR fL1 Z (oR Z (zU Z fi50 f56) (eN (zG (cF Z c58 (ZD (zf (zf (ZB (zF (sR fL1 Z (oA Z Z (eN (zJ ?_)))))))))))))
  cases hm57
  exact ⟨Z,_,(zn Z),φ51,_,hS53,Z,Z⟩
theorem wBe (p0:List wAB) (pA0:Option Addr) (pc0:Nat) (p1:(wAB->Option Bool)) (pv1:Value) (w:World) (φ:PHeap) (hS:St0 w φ []) (ha0:Sl φ 4 pA0 pc0 p0.length (nA wAI p0)) (ha1:FnOK Tryz.prog φ pv1 wOf wOg p1) {r:Bool} (hm:wAR p0 p1=some r):Gv Tryz.prog 40 [.slice pA0 p0.length pc0,pv1] w (wCN w [] φ (fun φ_ L_ v=>v=.bool r/\L_=[])):=by
 unfold wAR at hm
 refine Gv.of Tryz.func40 Z Tryz.ntmps40 Tryz.results40 Z (sR fL1 Z (oA Z Z (eN (sR (.fl 0 (.fl 1 (.fx 2 (.fl 3 (.fl 4 (.nil))) .stop))) Z (oM Z Z (oM Z Z (bnK hm fun x1 h2 hm3=>zL 0 Z Z Z Z (zM Z Z Tryz.call108 (zC Z (zC Z zR)) Z) hS (fun hs=>wBj p0 pA0 pc0 p1 pv1 w φ hs ha0 ha1 h2) (.inr Z) ?_)))))))
 rintro φ4 L5 v6 W7 le8 hS9 ⟨rfl,rfl⟩
 have hS10:sW w φ φ4 [] W7:=hS9
 refine oR Z (Runs.geq Z Z Z) (oA Z Z (eN (zJ ?_)))
 cases hm3
 exact ⟨Z,_,(zn Z),φ4,_,hS10,Z,Z⟩
theorem wBa (p0:List wAB) (pA0:Option Addr) (pc0:Nat) (p1:Int) (pb1:Nat) (w:World) (φ:PHeap) (hS:St0 w φ []) (ha0:Sl φ 4 pA0 pc0 p0.length (nA wAI p0)) (ha1:Cl φ pb1 0 [jV p1]) {r:Bool} (hm:wAK p0 p1=some r):Gv Tryz.prog 68 [.slice pA0 p0.length pc0,.pointer (some ⟨pb1,0,none⟩)] w (wCN w [] φ (fun φ_ L_ v=>v=.bool r/\L_=[])):=by
 unfold wAK at hm
 refine Gv.of Tryz.func68 Z Tryz.ntmps68 Tryz.results68 Z (sR fL1 Z (oA Z Z (eN (sR (.fl 0 (.fl 1 (.fx 2 (.fl 3 (.nil)) .stop))) Z (oM Z Z (oR Z (Runs.mkf Z zR (zC Z zR)) ?_))))))
 have hF1:FnOK Tryz.prog φ (.func (.func 69) #[] #[.pointer (some ⟨pb1,0,none⟩)]) wOf wOg (fun x=>wAL x p1):=⟨69,[],[.pointer (some ⟨pb1,0,none⟩)],rfl,Tryz.call69,fun φ1 w1 x y vs le hs ha hm=>by obtain rfl:=ha;exact wCJ x p1 pb1 w1 φ1 hs (ha1.le le) hm⟩
 refine bnK hm fun x2 h3 hm4=>zL 0 Z Z Z Z (zM Z Z Tryz.call40 (zC Z (zC Z zR)) Z) hS (fun hs=>wBe p0 pA0 pc0 (fun x=>wAL x p1) (.func (.func 69) #[] #[.pointer (some ⟨pb1,0,none⟩)]) w φ hs ha0 hF1 h3) (.inr Z) ?_
 rintro φ5 L6 v7 W8 le9 hS10 ⟨rfl,rfl⟩
 have hS11:sW w φ φ5 [] W8:=hS10
 refine oA Z Z (eN (zJ ?_))
 have hE:=nB hm4;first | subst r | cases hE
 exact ⟨Z,_,(zn Z),φ5,_,hS11,Z,Z⟩
theorem wCQ (w:World) (φ:PHeap) (hS:St0 w φ []) {r:Bool} (hm:wBF=some r):Gv Tryz.prog 70 [] w (wCN w [] φ (fun φ_ L_ v=>v=.bool r/\L_=[])):=by
 cases hm
 refine (xr70 w).mono ?_
 rintro v w' ⟨rfl,k⟩
 exact ⟨φ,[],hS.grow k,Z,Z⟩
theorem wCd (p0:List Int) (pA0:Option Addr) (pc0:Nat) (p1:List Int) (pA1:Option Addr) (pc1:Nat) (p2:Int) (w:World) (φ:PHeap) (hS:St0 w φ []) (ha0:Sl φ 1 pA0 pc0 p0.length (nA KL.encB8 p0)) (ha1:Sl φ 1 pA1 pc1 p1.length (nA KL.encB8 p1)) {r:Bool} (hm:wAo p0 p1 p2=some r):Gv Tryz.prog 9 [.slice pA0 p0.length pc0,.slice pA1 p1.length pc1,.int .u8 p2] w (wCN w [] φ (fun φ_ L_ v=>v=.bool r/\L_=[])):=by
 unfold wAo at hm
 refine Gv.of Tryz.func9 Z Tryz.ntmps9 Tryz.results9 Z (sR fL1 Z (oA Z Z (eN (sR (.fl 0 (.fx 1 (.fl 2 (.fx 3 (.fl 4 (.fl 5 (.nil))) .stop)) .stop)) Z (oM Z Z (bnK hm fun x1 h2 hm3=>zL 0 Z Z Z Z (zM Z Z Tryz.call24 (zC Z zR) Z) hS (fun hs=>wDV p0 pA0 pc0 w φ hs ha0 h2) (.inr Z) ?_))))))
 rintro φ4 L5 v6 W7 le8 hS9 ⟨b10,A11,c12,rfl,rfl,h14⟩
 let B0:Res:=.blk b10 192 [.slice A11 x1.bytes.length c12,jV x1.next,.int .u32 x1.state]
 have hS15:sW w φ φ4 [B0] W7:=hS9
 refine oM Z Z ?_
 have h16:=ha1.le le8
 refine bnK hm3 fun x17 h18 hm19=>zL 0 Z Z Z Z (zM Z Z Tryz.call24 (zC Z zR) Z) hS15 (fun hs=>wDV p1 pA1 pc1 W7 φ4 hs h16 h18) (.inr Z) ?_
 rintro φ20 L21 v22 W23 le24 hS25 ⟨b26,A27,c28,rfl,rfl,h30⟩
 let B1:Res:=.blk b26 192 [.slice A27 x17.bytes.length c28,jV x17.next,.int .u32 x17.state]
 have hS31:sW w φ φ20 [B1,B0] W23:=hS25
 refine oA Z Z (oA Z Z (eN (sR (.fl 0 (.fx 1 (.fl 2 (.fx 3 (.fx 4 (.nil) .stop) .stop)) .stop)) Z (oM Z Z ?_))))
 have h32:=h14.le le24
 have q:=bnd hm19
 obtain ⟨⟨x33,x34⟩,h35,hm36⟩:=q
 try dsimp only at hm36
 have hS37:sW w φ φ20 [B0,B1] W23:=hS31.pick [1,0] _ (by decide) rfl
 refine zL 1 Z Z Z Z (zM Z Z Tryz.call64 (zC Z (zC Z (zC Z zR))) Z) hS37 (fun hs=>wAy x1 b10 A11 c12 2 8 W23 φ20 hs h32 h35) (.inl Z) ?_
 rintro φ38 L39 v40 W41 le42 hS43 ⟨A44,c45,rfl,rfl,h46⟩
 let B2:Res:=.blk b10 192 [.slice A44 x34.bytes.length c45,jV x34.next,.int .u32 x34.state]
 have hS47:sW w φ φ38 [B2,B1] W41:=hS43
 let B3:List Value:=[jV 0,.slice none 0 0,.slice none 0 0]
 let B4:List Value:=[jV x33,.slice none 0 0,.slice none 0 0]
 refine oR Z (Runs.build (pv:=[(0,jV x33)]) (z:=B3) (cs:=B4) Z (wAT Z wBW) ZY wGv Z Z) (ZQ (cs:=B3) Z Z Z Z Z ZY Z hS47 ?_)
 intro W48 b49 hS50
 refine OKS.st (j:=0) (vs:=B4) Z Z Z Z hS50 Z Z Z Z ZA (zY Z) Z Z Z ?_
 intro W52 hS53
 have hS54:sW w φ φ38 [.blk b49 66 B4,B2,B1] W52:=hS53
 refine eN (sR fL1 Z (oA Z Z (eN (sR (.fl 0 (.fx 1 (.fl 2 (.nil)) .stop)) Z (oM Z Z (bnK hm36 fun x55 h56 hm57=>ZO (enc:=KL.encI) (z:=(0:Int)) (v:=jV 0) Z Z Z Z Z (wDH zA) wEh Z Z Z Z Z Z h56 hS54 ?_))))))
 intro W58 b59 hS60
 let B5:Res:=.row (some ⟨b59,0,none⟩) x55.length 3 1 (nA KL.encI x55)
 have hS62:sW w φ φ38 [B5,.blk b49 66 B4,B2,B1] W58:=hS60
 refine oA Z Z (eN (zG (sR fL2 Z (oM Z Z (oM Z Z (eN (zS ?_)))))))
 have q:=wCC hm57
 obtain ⟨r146,hX147⟩:=q
 have q:=wCP hX147
 obtain ⟨hle148,hf149⟩:=q
 replace hle148:=zB hle148
 refine CK.forN (fun k145 (l124,l128,l134,x137,x138,l139,x142,x143,l144) σ_ w_=>∃ (φ_:PHeap) (A125:Option Addr) (c126:Nat) (A129:Option Addr) (c130:Nat) (hs133:List Hd) (A135:Option Addr) (c136:Nat) (A140:Option Addr) (c141:Nat),σ_ 36=jV (↑k145:Int)/\σ_ 2=.int .u8 p2/\σ_ 7=.pointer (some ⟨b10,0,none⟩)/\σ_ 8=.pointer (some ⟨b26,0,none⟩)/\σ_ 9=.pointer (some ⟨b49,0,none⟩)/\σ_ 10=jV 2/\σ_ 11=.slice (some ⟨b59,0,none⟩) l144.length x55.length/\σ_ 35=jV 2/\PHeap.Le φ38 φ_/\sW w φ φ_ [.row A125 c126 3 1 (nA KL.encI l124),.row A129 c130 22 1 (nA wCm hs133),inn 3 1 KL.encI hs133 l128,.blk b49 66 [jV x33,.slice A125 l124.length c126,.slice A129 l128.length c130],.blk b10 192 [.slice A135 l134.length c136,jV x137,.int .u32 x138],.blk b26 192 [.slice A140 l139.length c141,jV x142,.int .u32 x143],.row (some ⟨b59,0,none⟩) x55.length 3 1 (nA KL.encI l144)] w_/\Sl φ_ 1 A135 c136 l134.length (nA KL.encB8 l134)/\Sl φ_ 1 A140 c141 l139.length (nA KL.encB8 l139)/\l144.length=x55.length) hf149 ?_ ?_ ?_
 ·have hS150:=hS62.nilrow 3 1
  have hS152:=hS150.nilrow 22 1
  have hS154:=hS152.innNil 3 1 KL.encI
  have hS156:sW w φ φ38 [inn 3 1 KL.encI ([]:List Hd) ([]:List (List Int)),.row none 0 22 1 [],.row none 0 3 1 [],B5,.blk b49 66 B4,B2,B1] W58:=hS154
  have h157:=h30.le le42
  exact ⟨φ38,none,0,none,0,[],A44,c45,A27,c28,rfl,rfl,rfl,rfl,rfl,rfl,rfl,rfl,(zO _),(hS156.pick [2,1,0,4,5,6,3] _ (by decide) rfl),h46,h157,rfl⟩
 ·rintro k145 ⟨l124,l128,l134,x137,x138,l139,x142,x143,l144⟩ xx160 σ158 W159 hk163 ⟨φ165,A125,c126,A129,c130,hs133,A135,c136,A140,c141,fi164,f168,f169,f170,f171,f172,f173,f174,le166,hS167,h175,h176,h177⟩ hx161 hb162
  try dsimp only at hx161
  have c178:Hid ((↑k145:Int) < 2):=zB (wBm hk163)
  replace hk163:=zB hk163
  have hi179:Hid (w64 ((↑k145:Int) + 1)=(↑(k145 + 1):Int)):=zB (by have h1:=hle148.out;have h2:=c178.out;rw [wAa] <;> omega)
  refine sR fL1 Z (oR Z (zU Z fi164 f174) (eN (zG (cT Z c178 (kN (zG (zS (sR fL2 Z (oM Z fi164 (oA Z Z (eN (sR (wMD (.fx 4 (.fx 5 (.fl 6 (.fx 7 (.nil) .stop)) .stop) .stop)) Z (oR Z (zN Z f171 zH Z zV) (oL Z (hS167.ldB (j:=3) Z Z Z zj (v:=.slice A125 l124.length c126) Z) (oM Z Z (oR Z (zt (zQ Z Z Z) (congrArg (jV) hi179.out)) (ZJ (pv:=[(0,jV (↑(k145 + 1):Int))]) (zs:=[jV 0]) (cs:=[jV (↑(k145 + 1):Int)]) Z Z Z Z Z (wAT Z wBW) zA zD ZU Z Z Z Z Z hS167 ?_)))))))))))))))))
  intro W180 b181 hS182
  let B6:Res:=.row A129 c130 22 1 (nA wCm hs133)
  let B7:Res:=.row (some ⟨b181,0,none⟩) 1 3 1 (nA KL.encI [(↑(k145 + 1):Int)])
  let B8:Res:=.blk b10 192 [.slice A135 l134.length c136,jV x137,.int .u32 x138]
  let B9:Res:=.blk b26 192 [.slice A140 l139.length c141,jV x142,.int .u32 x143]
  let B10:Res:=.row (some ⟨b59,0,none⟩) x55.length 3 1 (nA KL.encI l144)
  let B11:Res:=.blk b49 66 [jV x33,.slice A125 l124.length c126,.slice A129 l128.length c130]
  have hS184:sW w φ φ165 [B7,.row A125 c126 3 1 (nA KL.encI l124),B6,inn 3 1 KL.encI hs133 l128,B11,B8,B9,B10] W180:=hS182
  refine bnK hx161 fun x185 h186 hm187=>ZP (j:=1) (enc:=KL.encI) (xs:=l124) (ys:=[(↑(k145 + 1):Int)]) (zs:=x185) rfl rfl rfl rfl rfl ZK wEh rfl rfl rfl rfl rfl rfl hS184 rfl rfl rfl (hS184.srcR (j:=0) rfl (by decide) (wAG (f:=KL.encI) (sz:=1) (fun _=>rfl) [(↑(k145 + 1):Int)])) (fun _=>rfl) (fun _=>rfl) h186 rfl ?_
  intro A188 c189 W190 hS191
  let B12:Res:=.row A188 c189 3 1 (nA KL.encI x185)
  have hS192:sW w φ φ165 [B7,B12,B6,inn 3 1 KL.encI hs133 l128,B11,B8,B9,B10] W190:=hS191
  refine oR Z (zN Z f171 zH Z zV) (OKS.st (j:=4) (vs:=[.slice A188 x185.length c189]) Z Z Z Z hS192 Z Z Z Z zV (zY Z) Z Z Z ?_)
  intro W193 hS194
  let B13:Res:=.blk b49 66 [jV x33,.slice A188 x185.length c189,.slice A129 l128.length c130]
  have hS195:sW w φ φ165 [B7,B12,B6,inn 3 1 KL.encI hs133 l128,B13,B8,B9,B10] W193:=hS194
  refine eN (sR fL1 Z (oA Z Z (eN (sR fL1 Z (oA Z Z (eN (zG (sR fL3 Z (oR Z (zN Z f171 zH Z zD) (oL Z (hS195.ldB (j:=4) Z Z Z zK (v:=jV x33) Z) (oM Z Z (eN (zS ?_)))))))))))))
  have q:=wCC hm187
  obtain ⟨r262,hX263⟩:=q
  have q:=wCP hX263
  obtain ⟨hle264,hf265⟩:=q
  replace hle264:=zB hle264
  refine CK.forN (fun k261 (l245,x248,x249,l250,x253,x254,l255,l256,x260) σ_ w_=>∃ (φ_:PHeap) (A246:Option Addr) (c247:Nat) (A251:Option Addr) (c252:Nat) (A257:Option Addr) (c258:Nat),σ_ 48=jV (↑k261:Int)/\σ_ 2=.int .u8 p2/\σ_ 7=.pointer (some ⟨b10,0,none⟩)/\σ_ 8=.pointer (some ⟨b26,0,none⟩)/\σ_ 9=.pointer (some ⟨b49,0,none⟩)/\σ_ 10=jV 2/\σ_ 11=.slice (some ⟨b59,0,none⟩) l255.length x55.length/\σ_ 12=jV (↑k145:Int)/\σ_ 13=.slice A257 l256.length c258/\σ_ 14=jV x260/\σ_ 35=jV 2/\σ_ 36=jV (↑k145:Int)/\σ_ 47=jV x33/\PHeap.Le φ165 φ_/\sW w φ φ_ [B12,B6,inn 3 1 KL.encI hs133 l128,B13,.blk b10 192 [.slice A246 l245.length c247,jV x248,.int .u32 x249],.blk b26 192 [.slice A251 l250.length c252,jV x253,.int .u32 x254],.row (some ⟨b59,0,none⟩) x55.length 3 1 (nA KL.encI l255),.row A257 c258 3 1 (nA KL.encI l256)] w_/\Sl φ_ 1 A246 c247 l245.length (nA KL.encB8 l245)/\Sl φ_ 1 A251 c252 l250.length (nA KL.encB8 l250)/\l255.length=x55.length) hf265 ?_ ?_ ?_
  ·have hS266:=hS195.nilrow 3 1
   exact ⟨φ165,A135,c136,A140,c141,none,0,rfl,f168,f169,f170,f171,f172,f173,rfl,rfl,rfl,f174,fi164,rfl,(zO _),(hS266.pick [2,3,4,5,6,7,8,0] _ (by decide) rfl),h175,h176,h177⟩
  ·rintro k261 ⟨l245,x248,x249,l250,x253,x254,l255,l256,x260⟩ xx270 σ268 W269 hk273 ⟨φ275,A246,c247,A251,c252,A257,c258,fi274,f278,f279,f280,f281,f282,f283,f284,f285,f286,f287,f288,f289,le276,hS277,h290,h291,h292⟩ hx271 hb272
   try dsimp only at hx271
   have c293:Hid ((↑k261:Int) < x33):=zB (wBm hk273)
   replace hk273:=zB hk273
   have hi294:Hid (w64 ((↑k261:Int) + 1)=(↑(k261 + 1):Int)):=zB (by have h1:=hle264.out;have h2:=c293.out;rw [wAa] <;> omega)
   refine sR fL1 Z (oR Z (zU Z fi274 f289) (eN (zG (cT Z c293 (kN (zG (zS (sR fL2 Z (oM Z fi274 (oA Z Z (eN (sR (.fl 0 (.fl 1 (.fx 2 (.fl 3 (.fl 4 (.nil))) .stop))) Z (oM Z f286 (oM Z f279 ?_))))))))))))))
   have q:=bnd hx271
   obtain ⟨⟨x295,x296⟩,h297,hm298⟩:=q
   try dsimp only at hm298
   let B14:Res:=.row (some ⟨b59,0,none⟩) x55.length 3 1 (nA KL.encI l255)
   let B15:Res:=.blk b26 192 [.slice A251 l250.length c252,jV x253,.int .u32 x254]
   let B16:Res:=.row A257 c258 3 1 (nA KL.encI l256)
   have hS299:sW w φ φ275 [.blk b10 192 [.slice A246 l245.length c247,jV x248,.int .u32 x249],B12,B6,inn 3 1 KL.encI hs133 l128,B13,B15,B14,B16] W269:=hS277.pick [4,0,1,2,3,5,6,7] _ (by decide) rfl
   refine zL 1 Z Z Z Z (zM Z Z Tryz.call64 (zC Z (zC Z (zC Z zR))) Z) hS299 (fun hs=>wAy (⟨l245,x248,x249⟩:wAC) b10 A246 c247 300 700 W269 φ275 hs h290 h297) (.inl Z) ?_
   rintro φ300 L301 v302 W303 le304 hS305 ⟨A306,c307,rfl,rfl,h308⟩
   let B17:Res:=.blk b10 192 [.slice A306 x296.bytes.length c307,jV x296.next,.int .u32 x296.state]
   have hS309:sW w φ φ300 [B17,B12,B6,inn 3 1 KL.encI hs133 l128,B13,B15,B14,B16] W303:=hS305
   refine oR Z (zQ Z Z Z) (oA Z Z (eN (sR (.fl 0 (.fl 1 (.fx 2 (.fx 3 (.fl 4 (.nil)) .stop) .stop))) Z (oM Z f285 (oM Z Z (ZJ (pv:=[(0,jV (w64 (x260 + x295)))]) (zs:=[jV 0]) (cs:=[jV (w64 (x260 + x295))]) Z Z Z Z Z (wAT Z wBW) zA zD ZU Z Z Z Z Z hS309 ?_))))))
   intro W310 b311 hS312
   let B18:Res:=.row (some ⟨b311,0,none⟩) 1 3 1 (nA KL.encI [w64 (x260 + x295)])
   have hS314:sW w φ φ300 [B18,B17,B12,B6,inn 3 1 KL.encI hs133 l128,B13,B15,B14,B16] W310:=hS312
   refine bnK hm298 fun x315 h316 hm317=>ZP (j:=8) (enc:=KL.encI) (xs:=l256) (ys:=[w64 (x260 + x295)]) (zs:=x315) rfl rfl rfl rfl rfl ZK wEh rfl rfl rfl rfl rfl rfl hS314 rfl rfl rfl (hS314.srcR (j:=0) rfl (by decide) (wAG (f:=KL.encI) (sz:=1) (fun _=>rfl) [w64 (x260 + x295)])) (fun _=>rfl) (fun _=>rfl) h316 rfl ?_
   intro A318 c319 W320 hS321
   let B19:Res:=.row A318 c319 3 1 (nA KL.encI x315)
   have hS322:sW w φ φ300 [B18,B17,B12,B6,inn 3 1 KL.encI hs133 l128,B13,B15,B14,B19] W320:=hS321
   refine oA Z Z (eN (sR (wOt (.fx 3 (.fx 4 (fC5_9 (.nil)) .stop) .stop)) Z (oM Z Z (bnK hm317 fun x323 h324 hm325=>oR Z (Runs.rem Z Z Z h324) (oM Z f280 ?_)))))
   have h326:=h291.le le304
   have q:=bnd hm325
   obtain ⟨⟨x327,x328⟩,h329,hm330⟩:=q
   try dsimp only at hm330
   have hS331:sW w φ φ300 [B15,B18,B17,B12,B6,inn 3 1 KL.encI hs133 l128,B13,B14,B19] W320:=hS322.pick [6,0,1,2,3,4,5,7,8] _ (by decide) rfl
   refine zL 1 Z Z Z Z (zM Z Z Tryz.call66 (zC Z (zC Z zR)) Z) hS331 (fun hs=>wEB (⟨l250,x253,x254⟩:wAC) b26 A251 c252 5 W320 φ300 hs h326 h329) (.inl Z) ?_
   rintro φ332 L333 v334 W335 le336 hS337 ⟨A338,c339,A340,c341,rfl,rfl,h343⟩
   let B20:Res:=.blk b26 192 [.slice A340 x328.bytes.length c341,jV x328.next,.int .u32 x328.state]
   have hS344:sW w φ φ332 [.row A338 c339 221 2 (nA wAP x327),B20,B18,B17,B12,B6,inn 3 1 KL.encI hs133 l128,B13,B14,B19] W335:=hS337
   have q:=hS344.freezeR (k:=0) (n:=x327.length) rfl (wAG (f:=wAP) (sz:=2) (fun _=>rfl) x327) (by decide)
   obtain ⟨φ345,le346,hs347,hS348⟩:=q
   have hS349:sW w φ φ345 [B20,B18,B17,B12,B6,inn 3 1 KL.encI hs133 l128,B13,B14,B19] W335:=hS348
   have q:=bnd hm330
   obtain ⟨⟨x350,x351⟩,h352,hm353⟩:=q
   try dsimp only at hm353
   refine zL 0 Z Z Z Z (zM Z Z Tryz.call65 (zC Z (zC Z zR)) Z) hS349 (fun hs=>wGD x323 x327 A338 c339 W335 φ345 hs hs347 h352) (.inr Z) ?_
   rintro φ354 L355 v356 W357 le358 hS359 ⟨rfl,rfl⟩
   have hS360:sW w φ φ354 [B20,B18,B17,B12,B6,inn 3 1 KL.encI hs133 l128,B13,B14,B19] W357:=hS359
   refine oM Z Z (oR Z (Runs.ext Z Z (v:=jV x350) Z) (oR Z (Runs.ext Z Z (v:=jV x351) Z) (oA Z Z (oA Z Z (eN (zG (sR fL10 Z (oM Z Z (oR Z (Runs.neq Z Z Z) (oM Z Z (ifc hm353 ?_ ?_)))))))))))
   ·intro c361 hm362
    refine zW Z Z Z (zX Z Z (ZL (fun h=>h c361.out))) Z Z (zk Z Z Z (zX Z Z (ZL (fun h=>h c361.out))) (fun _=>zU Z Z Z) (oR Z (zr Z (ZL (fun h=>h c361.out)) Z) (oM Z Z (ifc hm362 ?_ ?_))))
    ·intro c363 hm364
     refine oT Z c363 (oT Z c363 (oR Z (zm Z (wGe c363.out) Z) (eN (ZC Z (sR fL1 Z (oA Z Z (eN (zJ (zI (zd (zI ?_)))))))))))
     have q:=wAq hm364
     obtain ⟨v365,hm366,e367⟩:=q
     obtain rfl:=wBl hm187 hX263 (hb272 v365 e367)
     refine zI (zd (zI (zd (zI ?_))))
     have q:=wAq hm366
     obtain ⟨v368,hm369,e370⟩:=q
     obtain rfl:=wBl hm57 hX147 (hb162 v368 e370)
     refine zI (zd (zI ?_))
     have hE:=nB hm369;first | subst r | cases hE
     exact ⟨rfl,_,(zn rfl),φ354,_,(hS360.pick [] _ (by decide) rfl),rfl,rfl⟩
    ·intro c363 hm371
     refine zW Z Z Z (wF Z c363) Z Z (rU Z (wF Z c363) (Runs.gtr Z Z Z) (oR Z (zr Z (ZL c363.out) Z) (eN (ifc hm371 ?_ ?_))))
     ·intro c372 hm373
      refine cT Z c372 (sR fL1 Z (oA Z Z (eN (zJ (zI (zd (zI ?_)))))))
      have q:=wAq hm373
      obtain ⟨v374,hm375,e376⟩:=q
      obtain rfl:=wBl hm187 hX263 (hb272 v374 e376)
      refine zI (zd (zI (zd (zI ?_))))
      have q:=wAq hm375
      obtain ⟨v377,hm378,e379⟩:=q
      obtain rfl:=wBl hm57 hX147 (hb162 v377 e379)
      refine zI (zd (zI ?_))
      have hE:=nB hm378;first | subst r | cases hE
      exact ⟨rfl,_,(zn rfl),φ354,_,(hS360.pick [] _ (by decide) rfl),rfl,rfl⟩
     ·intro c372 hm380
      refine cF Z c372 (kN (zG (sR fL2 Z (oM Z Z (oR Z (Runs.eql Z Z Z) (eN (ifc hm380 ?_ ?_)))))))
      ·intro c381 hm382
       refine cT Z c381 (rR (wMD (.fx 4 (.nil) .stop)) Z (oM Z f283 (oM Z f284 (oM Z Z (bnK hm382 fun _ h383 hm384=>oR Z (zy Z Z Z Z zA zD (wAe h383)) ?_)))))
       have hg385:=wBh (xs:=l255) (wAe h383)
       refine OKS.stR (j:=7) (vs:=[jV x350]) (cs':=nA KL.encI (nJ l255 k145 x350)) rfl rfl rfl rfl hS360 rfl rfl rfl rfl rfl zD (by rw [wAG (f:=KL.encI) (sz:=1) (fun _=>rfl)];have hz:=wAe h383;show _ + 1 <= _;first | omega | (simp only [nK];omega) | (simp only [nI,nG,nH];omega)) rfl (wFO (sz:=1) (fo:=0) (fun _=>rfl) _ _ _ _ hg385 (by first | omega | (simp only [nK];omega) | (simp only [nI,nG,nH];omega)) (zY rfl) rfl) rfl ?_
       intro W386 hS387
       have hS388:sW w φ φ354 [B20,B18,B17,B12,B6,inn 3 1 KL.encI hs133 l128,B13,.row (some ⟨b59,0,none⟩) x55.length 3 1 (nA KL.encI (nJ l255 k145 x350)),B19] W386:=hS387
       refine eN (rR fL5 Z (oM Z Z (oM Z Z (oR Z (Zb Z Z Z) (oR Z (zQ Z Z Z) (oA Z Z (zq (zZ (zF (CK.fresh fun σ389 hσ390=>?_))))))))))
       have f391:σ389 2=.int .u8 p2:=(hσ390 2).trans f278
       have f392:σ389 7=.pointer (some ⟨b10,0,none⟩):=(hσ390 7).trans f279
       have f393:σ389 8=.pointer (some ⟨b26,0,none⟩):=(hσ390 8).trans f280
       have f394:σ389 9=.pointer (some ⟨b49,0,none⟩):=(hσ390 9).trans f281
       have f395:σ389 10=jV 2:=(hσ390 10).trans f282
       have f396:σ389 11=.slice (some ⟨b59,0,none⟩) ((nJ l255 k145 x350).length) x55.length:=(hσ390 11).trans (Eq.trans (b:=(.slice (some ⟨b59,0,none⟩) l255.length x55.length:Value)) (c:=(.slice (some ⟨b59,0,none⟩) ((nJ l255 k145 x350).length) x55.length:Value)) f283 (by simp only [nM]))
       have f397:σ389 12=jV (↑k145:Int):=(hσ390 12).trans f284
       have f398:σ389 13=.slice A318 x315.length c319:=(hσ390 13).trans rfl
       have f399:σ389 14=jV (w64 ((w64 (x260 + x295)) + (w64 (250 * x350)))):=(hσ390 14).trans rfl
       have f400:σ389 35=jV 2:=(hσ390 35).trans f287
       have f401:σ389 36=jV (↑k145:Int):=(hσ390 36).trans f288
       have f402:σ389 47=jV x33:=(hσ390 47).trans f289
       have f403:σ389 48=jV (↑k261:Int):=(hσ390 48).trans fi274
       clear hσ390
       refine rR fL2 Z (oR Z (zt (zQ Z f403 Z) (congrArg (jV) hi294.out)) (oM Z Z (zq ?_)))
       obtain rfl:=nB hm384
       have h419:=h308.le le336
       have h420:=h419.le le346
       have h421:=h420.le le358
       have h422:=h343.le le346
       have h423:=h422.le le358
       exact zF ⟨rfl,_,rfl,⟨φ354,A306,c307,A340,c341,A318,c319,rfl,f391,f392,f393,f394,f395,f396,f397,f398,f399,f400,f401,f402,((((le276.trans le304).trans le336).trans le346).trans le358),(hS388.pick [3,4,5,6,2,0,7,8] _ (by decide) rfl),h421,h423,(nM.trans h292)⟩⟩
      ·intro c381 hm424
       refine cF Z c381 (kN (rR fL5 Z (oM Z Z (oM Z Z (oR Z (Zb Z Z Z) (oR Z (zQ Z Z Z) (oA Z Z (zq (zZ (zF (rR fL2 Z (oR Z (zt (zQ Z fi274 Z) (congrArg (jV) hi294.out)) (oM Z Z (zq ?_))))))))))))))
       obtain rfl:=nB hm424
       have h440:=h308.le le336
       have h441:=h440.le le346
       have h442:=h441.le le358
       have h443:=h343.le le346
       have h444:=h443.le le358
       exact zF ⟨rfl,_,rfl,⟨φ354,A306,c307,A340,c341,A318,c319,rfl,f278,f279,f280,f281,f282,f283,f284,rfl,rfl,f287,f288,f289,((((le276.trans le304).trans le336).trans le346).trans le358),(hS360.pick [3,4,5,6,2,0,7,8] _ (by decide) rfl),h442,h444,h292⟩⟩
   ·intro c361 hm445
    refine oT Z c361 (oT Z c361 (oR Z (zm Z (wGe c361.out) Z) (oM Z Z (oN Z (oN Z (oR Z (zm Z Z Z) (eN (ZC Z (sR fL1 Z (oA Z Z (eN (zJ (zI (zd (zI ?_)))))))))))))))
    have q:=wAq hm445
    obtain ⟨v446,hm447,e448⟩:=q
    obtain rfl:=wBl hm187 hX263 (hb272 v446 e448)
    refine zI (zd (zI (zd (zI ?_))))
    have q:=wAq hm447
    obtain ⟨v449,hm450,e451⟩:=q
    obtain rfl:=wBl hm57 hX147 (hb162 v449 e451)
    refine zI (zd (zI ?_))
    have hE:=nB hm450;first | subst r | cases hE
    exact ⟨rfl,_,(zn rfl),φ354,_,(hS360.pick [] _ (by decide) rfl),rfl,rfl⟩
  ·rintro ⟨y456,y457,y458,y459,y460,y461,y462,y463,y464⟩ σ452 W453 ⟨φ471,A465,c466,A467,c468,A469,c470,fi455,f474,f475,f476,f477,f478,f479,f480,f481,f482,f483,f484,f485,le472,hS473,h486,h487,h488⟩ hb454
   have hm489:=wCr hm187 hX263 hb454
   try dsimp only at hm489
   have c490:Hid (¬ ((↑((x33:Int) - 0).toNat:Int) < x33)):=zB (wBO)
   refine sR fL1 Z (oR Z (zU Z fi455 f485) (eN (zG (cF Z c490 (ZD (zf (zf (ZB (zF (rR (wOt (.fx 3 (.fx 4 (.fl 5 (.fx 6 (.nil) .stop)) .stop) .stop)) Z (oR Z (zN Z f477 zH Z ZG) (oL Z (hS473.ldB (j:=3) Z Z Z ZN (v:=.slice A129 l128.length c130) Z) (oM Z f481 ?_)))))))))))))
   let B21:List Value:=[.slice A469 y463.length c470]
   refine ZJ (pv:=[(0,.slice A469 y463.length c470)]) (zs:=[.slice none 0 0]) (cs:=B21) Z Z Z Z Z (wAT Z wBW) ze zV Tryz.zeroValue22 Z Z Z Z Z hS473 ?_
   intro W494 b495 hS496
   let B22:Res:=.blk b10 192 [.slice A465 y456.length c466,jV y457,.int .u32 y458]
   let B23:Res:=.blk b26 192 [.slice A467 y459.length c468,jV y460,.int .u32 y461]
   let B24:Res:=.row (some ⟨b59,0,none⟩) x55.length 3 1 (nA KL.encI y462)
   let B25:Res:=.row A469 c470 3 1 (nA KL.encI y463)
   let B26:Res:=.row (some ⟨b495,0,none⟩) 1 22 1 B21
   have hS498:sW w φ φ471 [B26,B12,B6,inn 3 1 KL.encI hs133 l128,B13,B22,B23,B24,B25] W494:=hS496
   have hS499:sW w φ φ471 [B25,B26,B12,B6,inn 3 1 KL.encI hs133 l128,B13,B22,B23,B24] W494:=hS498.pick [8,0,1,2,3,4,5,6,7] _ (by decide) rfl
   have hS500:=hS499.innOne
   let B27:Res:=.row (some ⟨b495,0,none⟩) 1 22 1 (nA wCm [(⟨A469,y463.length,c470⟩:Hd)])
   have hS502:sW w φ φ471 [inn 3 1 KL.encI [(⟨A469,y463.length,c470⟩:Hd)] [y463],B27,B12,B6,inn 3 1 KL.encI hs133 l128,B13,B22,B23,B24] W494:=hS500
   refine bnK hm489 fun x503 h504 hm505=>?_
   have hf506:=hS502.innFit (j:=4) rfl
   have hf507:=hS502.innFit (j:=0) rfl
   have q:=wNJ h504 hf506 hf507
   obtain ⟨ha508,hz509⟩:=q
   refine ZP (j:=3) (enc:=wCm) (xs:=hs133) (ys:=[(⟨A469,y463.length,c470⟩:Hd)]) rfl rfl rfl rfl rfl Tryz.underlying46 wNS rfl rfl rfl rfl rfl rfl hS502 rfl (slen rfl hf506) (slen rfl hf507) (hS502.srcR (j:=1) rfl (by decide) (wAG (f:=wCm) (sz:=1) (fun _=>rfl) [(⟨A469,y463.length,c470⟩:Hd)])) (fun _=>rfl) (fun _=>rfl) ha508 rfl ?_
   intro A510 c511 W512 hS513
   have hl514:(hs133 ++ [(⟨A469,y463.length,c470⟩:Hd)]:List Hd).length=x503.length:=by rw [hz509,nN,nN,hf506.len,hf507.len]
   rw [hl514]
   let B28:Res:=.row A510 c511 22 1 (nA wCm (hs133 ++ [(⟨A469,y463.length,c470⟩:Hd)]:List Hd))
   have hS516:sW w φ φ471 [inn 3 1 KL.encI [(⟨A469,y463.length,c470⟩:Hd)] [y463],B27,B12,B28,inn 3 1 KL.encI hs133 l128,B13,B22,B23,B24] W512:=hS513
   have hS517:sW w φ φ471 [inn 3 1 KL.encI hs133 l128,inn 3 1 KL.encI [(⟨A469,y463.length,c470⟩:Hd)] [y463],B27,B12,B28,B13,B22,B23,B24] W512:=hS516.pick [4,0,1,2,3,5,6,7,8] _ (by decide) rfl
   have hS515:=hS517.innApp
   rw [<- hz509] at hS515
   have hS518:sW w φ φ471 [inn 3 1 KL.encI (hs133 ++ [(⟨A469,y463.length,c470⟩:Hd)]:List Hd) x503,B27,B12,B28,B13,B22,B23,B24] W512:=hS515
   have hS519:=hS518.drop 1
   have hS520:sW w φ φ471 [inn 3 1 KL.encI (hs133 ++ [(⟨A469,y463.length,c470⟩:Hd)]:List Hd) x503,B12,B28,B13,B22,B23,B24] W512:=hS519
   refine oR Z (zN Z f477 zH Z ZG) (OKS.st (j:=3) (vs:=[.slice A510 x503.length c511]) Z Z Z Z hS520 Z Z Z Z ZG (zY Z) Z Z Z ?_)
   intro W521 hS522
   have hS523:sW w φ φ471 [inn 3 1 KL.encI (hs133 ++ [(⟨A469,y463.length,c470⟩:Hd)]:List Hd) x503,B12,B28,.blk b49 66 [jV x33,.slice A188 x185.length c189,.slice A510 x503.length c511],B22,B23,B24] W521:=hS522
   refine zq (zZ (zF (rR fL2 Z (oR Z (zt (zQ Z f484 Z) (congrArg (jV) hi179.out)) (oM Z Z (zq ?_))))))
   obtain rfl:=nB hm505
   exact zF ⟨rfl,_,rfl,⟨φ471,A188,c189,A510,c511,(hs133 ++ [(⟨A469,y463.length,c470⟩:Hd)]:List Hd),A465,c466,A467,c468,rfl,f474,f475,f476,f477,f478,f479,f483,(le166.trans le472),(hS523.pick [1,2,0,3,4,5,6] _ (by decide) rfl),h486,h487,h488⟩⟩
 ·rintro ⟨y546,y547,y548,y549,y550,y551,y552,y553,y554⟩ σ542 W543 ⟨φ564,A555,c556,A557,c558,h559,A560,c561,A562,c563,fi545,f567,f568,f569,f570,f571,f572,f573,le565,hS566,h574,h575,h576⟩ hb544
  have hm577:=wCr hm57 hX147 hb544
  try dsimp only at hm577
  have c578:Hid (¬ ((↑((2:Int) - 0).toNat:Int) < 2)):=zB (wBO)
  refine sR fL1 Z (oR Z (zU Z fi545 f573) (eN (zG (cF Z c578 (ZD (zf (zf (ZB (zF (sR (wMD (.fx 4 (.fx 5 (.nil) .stop) .stop)) Z (oM Z f567 (oR Z (Runs.cvw Z Z Tryz.runUnderlying5 Tryz.runUnderlying3 Z Z) (oM Z f571 (bnK hm577 fun x579 h580 hm581=>oR Z (Runs.rem Z Z Z h580) (ZQ (cs:=[jV 0]) Z Z Z Z Z ZU Z hS566 ?_)))))))))))))))
  intro W582 b583 hS584
  refine OKS.st (j:=0) (vs:=[jV x579]) Z Z Z Z hS584 Z Z Z Z zD (zY Z) Z Z Z ?_
  intro W586 hS587
  let B29:Res:=.blk b10 192 [.slice A560 y548.length c561,jV y549,.int .u32 y550]
  let B30:Res:=.blk b26 192 [.slice A562 y551.length c563,jV y552,.int .u32 y553]
  let B31:Res:=.row (some ⟨b59,0,none⟩) x55.length 3 1 (nA KL.encI y554)
  let B32:Res:=.blk b49 66 [jV x33,.slice A555 y546.length c556,.slice A557 y547.length c558]
  let B33:Res:=.row A555 c556 3 1 (nA KL.encI y546)
  let B34:Res:=.blk b583 3 [jV x579]
  let B35:Res:=.row A557 c558 22 1 (nA wCm h559)
  have hS588:sW w φ φ564 [B34,B33,B35,inn 3 1 KL.encI h559 y547,B32,B29,B30,B31] W586:=hS587
  refine eN ?_
  have q:=bnd hm581
  obtain ⟨⟨l589,l594⟩,hx599,hm600⟩:=q
  try dsimp only at hm600
  refine CK.cut (fun σ_ w_=>∃ (φ_:PHeap) (A590:Option Addr) (c591:Nat) (b593:Nat) (A595:Option Addr) (c596:Nat) (hs597:List Hd),σ_ 9=.pointer (some ⟨b49,0,none⟩)/\σ_ 11=.slice (some ⟨b59,0,none⟩) y554.length x55.length/\σ_ 18=.pointer (some ⟨b583,0,none⟩)/\σ_ 19=.pointer (some ⟨b593,0,none⟩)/\PHeap.Le φ564 φ_/\sW w φ φ_ [B34,.row A555 c556 3 1 (nA KL.encI y546),.blk b49 66 [jV x33,.slice A555 y546.length c556,.slice A590 l589.length c591],B29,B30,.row (some ⟨b59,0,none⟩) x55.length 3 1 (nA KL.encI y554),.blk b593 66 [jV x33,.slice A555 y546.length c556,.slice A595 l594.length c596],.row A595 c596 22 1 (nA wCm hs597),inn 3 1 KL.encI hs597 l594] w_/\SlR φ_ wHZ A590 c591 l589) ?_ ?_
  ·refine bnK hx599 fun x607 h608 hm629=>CK.anyOrd Za [3,1,3,1,3,1,2,3,2,0] (wOv (.fx 6 (.fl 7 (.fx 8 (.fx 9 (.nil) (.stop)) (.stop))) (.fx 8 (.fx 6 (.fl 7 (.fx 9 (.nil) (.stop))) (.stop)) (.stop)))) (by kernel_rfl) ?_
   have hS630:=hS588.drew
   generalize hw_W631:({ W586 with drawn:=W586.drawn + 1 }:World)=W631 at hS630 ⊢
   refine oR Z (zN Z f570 zH Z zD) (oL Z (hS630.ldB (j:=4) Z Z Z zK (v:=jV x33) Z) (oR Z (zN Z f570 zH Z zV) (oL Z (hS630.ldB (j:=4) Z Z Z zj (v:=.slice A555 y546.length c556) Z) (oR Z (zN Z f570 zH Z ZG) (oL Z (hS630.ldB (j:=4) Z Z Z ZN (v:=.slice A557 y547.length c558) Z) (OKS.both ?_ ?_))))))
   ·have hS632:sW w φ φ564 [B35,inn 3 1 KL.encI h559 y547,B34,B33,B32,B29,B30,B31] W631:=hS630.pick [2,3,0,1,4,5,6,7] _ (by decide) rfl
    have q:=St.freezeN (R:=wHZ) hS632 (fun _ _ _ _ h=>⟨_,_,rfl,h⟩) (fun _=>rfl) (by decide) rfl
    obtain ⟨φ633,le634,hs635,hS636⟩:=q
    have hS637:sW w φ φ633 [B34,B33,B32,B29,B30,B31] W631:=hS636
    refine zL 0 Z Z Z Z (zM Z Z Tryz.call67 (zC Z zR) Z) hS637 (fun hs=>wBo y547 A557 c558 W631 φ633 hs hs635 h608) (.inr Z) ?_
    rintro φ639 L640 v641 W642 le643 hS644 ⟨A645,c646,h647,rfl,rfl⟩
    let B36:Res:=.row A645 c646 22 1 (nA wCm h647)
    have hS650:sW w φ φ639 [B36,inn 3 1 KL.encI h647 x607,B34,B33,B32,B29,B30,B31] W642:=hS644
    let B37:List Value:=[jV x33,.slice A555 y546.length c556,.slice A645 x607.length c646]
    refine oR Z (Runs.build (pv:=[(0,jV x33),(1,.slice A555 y546.length c556),(2,.slice A645 x607.length c646)]) (z:=B3) (cs:=B37) Z (wAT Z (wAT Z (wAT Z wBW))) ZY wGv Z Z) (ZQ (cs:=B3) Z Z Z Z Z ZY Z hS650 ?_)
    intro W651 b652 hS653
    refine OKS.st (j:=0) (vs:=B37) Z Z Z Z hS653 Z Z Z Z ZA (zY Z) Z Z Z ?_
    intro W655 hS656
    have hS657:sW w φ φ639 [.blk b652 66 B37,B36,inn 3 1 KL.encI h647 x607,B34,B33,B32,B29,B30,B31] W655:=hS656
    refine zq ?_
    cases hm629
    have h667:=hs635.le le643
    exact zF ⟨rfl,⟨φ639,A557,c558,b652,A645,c646,h647,f570,f572,rfl,rfl,(le634.trans le643),(hS657.pick [3,4,5,6,7,8,0,1,2] _ (by decide) rfl),h667⟩⟩
   ·refine ZQ (cs:=B3) Z Z Z Z Z ZY Z hS630 ?_
    intro W668 b669 hS670
    have hS672:sW w φ φ564 [B35,inn 3 1 KL.encI h559 y547,.blk b669 66 B3,B34,B33,B32,B29,B30,B31] W668:=hS670.pick [3,4,0,1,2,5,6,7,8] _ (by decide) rfl
    have q:=St.freezeN (R:=wHZ) hS672 (fun _ _ _ _ h=>⟨_,_,rfl,h⟩) (fun _=>rfl) (by decide) rfl
    obtain ⟨φ673,le674,hs675,hS676⟩:=q
    have hS677:sW w φ φ673 [.blk b669 66 B3,B34,B33,B32,B29,B30,B31] W668:=hS676
    refine zL 0 Z Z Z Z (zM Z Z Tryz.call67 (zC Z zR) Z) hS677 (fun hs=>wBo y547 A557 c558 W668 φ673 hs hs675 h608) (.inr Z) ?_
    rintro φ679 L680 v681 W682 le683 hS684 ⟨A685,c686,h687,rfl,rfl⟩
    let B38:Res:=.row A685 c686 22 1 (nA wCm h687)
    have hS690:sW w φ φ679 [B38,inn 3 1 KL.encI h687 x607,.blk b669 66 B3,B34,B33,B32,B29,B30,B31] W682:=hS684
    let B39:List Value:=[jV x33,.slice A555 y546.length c556,.slice A685 x607.length c686]
    refine oR Z (Runs.build (pv:=[(0,jV x33),(1,.slice A555 y546.length c556),(2,.slice A685 x607.length c686)]) (z:=B3) (cs:=B39) Z (wAT Z (wAT Z (wAT Z wBW))) ZY wGv Z Z) (OKS.st (j:=2) (vs:=B39) Z Z Z Z hS690 Z Z Z Z ZA (zY Z) Z Z Z ?_)
    intro W691 hS692
    have hS693:sW w φ φ679 [B38,inn 3 1 KL.encI h687 x607,.blk b669 66 B39,B34,B33,B32,B29,B30,B31] W691:=hS692
    refine zq ?_
    cases hm629
    have h703:=hs675.le le683
    exact zF ⟨rfl,⟨φ679,A557,c558,b669,A685,c686,h687,f570,f572,rfl,rfl,(le674.trans le683),(hS693.pick [3,4,5,6,7,8,2,0,1] _ (by decide) rfl),h703⟩⟩
  ·rintro σ704 W705 ⟨φ706,A590,c591,b593,A595,c596,hs597,f709,f710,f711,f712,le707,hS708,h713⟩
   refine zG (sR fL1 Z (oA Z Z (eN (zS ?_))))
   let B40:Res:=.blk b49 66 [jV x33,.slice A555 y546.length c556,.slice A590 l589.length c591]
   let B41:Res:=.row A595 c596 22 1 (nA wCm hs597)
   refine CK.iter (fun (l726,x727) σ_ w_=>∃ (φ_:PHeap),σ_ 9=.pointer (some ⟨b49,0,none⟩)/\σ_ 11=.slice (some ⟨b59,0,none⟩) y554.length x55.length/\σ_ 18=.pointer (some ⟨b583,0,none⟩)/\σ_ 19=.pointer (some ⟨b593,0,none⟩)/\σ_ 20=jV x727/\PHeap.Le φ706 φ_/\sW w φ φ_ [B34,B33,B40,B29,B30,B41,inn 3 1 KL.encI hs597 l726,.blk b593 66 [jV x33,.slice A555 y546.length c556,.slice A595 l726.length c596],B31] w_) hm600 ?_ ?_
   ·exact ⟨φ706,f709,f710,f711,f712,rfl,(zO _),(hS708.pick [0,1,2,3,4,7,8,6,5] _ (by decide) rfl)⟩
   ·rintro ⟨l726,x727⟩ xx730 σ728 W729 ⟨φ735,f738,f739,f740,f741,f742,le736,hS737⟩ hx731 hb732
    try dsimp only at hx731
    refine zG (sR fL4 Z (oM Z f742 (oR Z (zN Z f738 zH Z zD) (oL Z (hS737.ldB (j:=2) Z Z Z zK (v:=jV x33) Z) (oR Z (zU Z Z Z) (eN ?_))))))
    by_cases c743:x727 < x33
    ·have hm744:=hx731;rw [if_pos c743] at hm744;replace c743:=zB c743
     refine cT Z c743 (kN (zG (zS (CK.anyOrd Za [3,1,1,3,1,3,3,1,3,1,3,1,3,3,3,0] (wNZ (.fx 15 (.nil) .stop)) (by kernel_rfl) ?_))))
     have hS745:=hS737.drew
     generalize hw_W746:({ W729 with drawn:=W729.drawn + 1 }:World)=W746 at hS745 ⊢
     refine oR Z (zN Z f741 zH Z ZG) (oL Z (hS745.ldB (j:=7) Z Z Z ZN (v:=.slice A595 l726.length c596) Z) (oL Z (hS745.ldB (j:=0) Z Z f740 zK (v:=jV x579) Z) (bnK hm744 fun _ h747 hm748=>?_)))
     obtain ⟨b749,hA750⟩:=hS745.rowSome (j:=5) rfl (by rw [wAG (f:=wCm) (sz:=1) (fun _=>rfl),(hS745.innFit (j:=6) rfl).len];have hz:=wAe h747;omega)
     refine oR Z (ZM Z Z hA750 Z ze zV (wDg h747) (wDh h747)) ?_
     have hf751:=hS745.innFit (j:=6) rfl
     have hg752:=wBh (xs:=hs597) (k:=x579.toNat) (by rw [hf751.len];exact wAe h747)
     have hv753:Value.slice (gd hs597 x579.toNat).A (gd hs597 x579.toNat).n (gd hs597 x579.toNat).c=.slice ((gd hs597 x579.toNat).A) ((gd l726 x579.toNat).length) ((gd hs597 x579.toNat).c):=by rw [hf751.at_ (k:=x579.toNat) (wAe h747)]
     refine zz rfl rfl rfl rfl (RunsK.to (hS745.ldR (j:=5) rfl hA750 rfl rfl zj (wAk (sz:=1) (fun _=>rfl) _ _ 0 _ hg752 (by first | omega | rfl | simp) rfl)) hv753) rfl ?_
     let B42:Res:=.blk b593 66 [jV x33,.slice A555 y546.length c556,.slice A595 l726.length c596]
     have hS754:sW w φ φ735 [inn 3 1 KL.encI hs597 l726,B34,B33,B40,B29,B30,B41,B42,B31] W746:=hS745.pick [6,0,1,2,3,4,5,7,8] _ (by decide) rfl
     have hS755:=hS754.innTake (k:=x579.toNat) (wAe h747)
     have hS757:sW w φ φ735 [.row ((gd hs597 x579.toNat).A) ((gd hs597 x579.toNat).c) 3 1 (nA KL.encI (gd l726 x579.toNat)),wPC 3 1 KL.encI hs597 l726 x579.toNat,B34,B33,B40,B29,B30,B41,B42,B31] W746:=hS755
     refine oM Z f742 (bnK hm748 fun _ h758 hm759=>?_)
     obtain ⟨b760,hA761⟩:=hS757.rowSome (j:=0) rfl (by rw [wAG (f:=KL.encI) (sz:=1) (fun _=>rfl) (gd l726 x579.toNat)];have hz:=wAe h758;omega)
     refine oR Z (ZM Z Z hA761 Z zA zD (wDg h758) (wDh h758)) ?_
     have hg762:=wBh (xs:=(gd l726 x579.toNat)) (wAe h758)
     refine zz rfl rfl rfl rfl (hS757.ldR (j:=0) rfl hA761 rfl rfl zK (wAk (sz:=1) (fun _=>rfl) _ _ 0 _ hg762 (by first | omega | rfl | simp) rfl)) rfl (zW rfl rfl rfl rfl rfl f739 (zz rfl rfl rfl rfl (hS757.ldB (j:=2) rfl rfl f740 zK (v:=jV x579) rfl) rfl (bnK hm759 fun _ h763 hm764=>zk rfl rfl rfl rfl (fun _=>ZM rfl rfl rfl rfl zA zD (wDg h763) (wDh h763)) ?_)))
     have hg765:=wBh (xs:=y554) (wAe h763)
     refine zz rfl rfl rfl rfl (hS757.ldR (j:=9) rfl rfl rfl rfl zK (wAk (sz:=1) (fun _=>rfl) _ _ 0 _ hg765 (by first | omega | rfl | simp) rfl)) rfl (zk rfl rfl rfl rfl (fun _=>Zb rfl rfl rfl) (zk rfl rfl rfl rfl (fun _=>Runs.subw rfl rfl rfl) (zk rfl rfl rfl rfl (fun _=>ZM rfl rfl hA761 rfl zA zD (wDg h758) (wDh h758)) ?_)))
     have hg766:=wBh (xs:=(gd l726 x579.toNat)) (wAe h758)
     refine OKS.stR (j:=0) (vs:=[jV (w64 ((gd (gd l726 x579.toNat) x727.toNat) - (w64 (250 * (gd y554 x579.toNat)))))]) (cs':=nA KL.encI (nJ (gd l726 x579.toNat) x727.toNat (w64 ((gd (gd l726 x579.toNat) x727.toNat) - (w64 (250 * (gd y554 x579.toNat))))))) rfl rfl rfl rfl hS757 rfl hA761 rfl rfl rfl zD (by rw [wAG (f:=KL.encI) (sz:=1) (fun _=>rfl)];have hz:=wAe h758;show _ + 1 <= _;first | omega | (simp only [nK];omega) | (simp only [nI,nG,nH];omega)) rfl (wFO (sz:=1) (fo:=0) (fun _=>rfl) _ _ _ _ hg766 (by first | omega | (simp only [nK];omega) | (simp only [nI,nG,nH];omega)) (zY rfl) rfl) rfl ?_
     intro W767 hS768
     have hS769:sW w φ φ735 [.row ((gd hs597 x579.toNat).A) ((gd hs597 x579.toNat).c) 3 1 (nA KL.encI (nJ (gd l726 x579.toNat) x727.toNat (w64 ((gd (gd l726 x579.toNat) x727.toNat) - (w64 (250 * (gd y554 x579.toNat))))))),wPC 3 1 KL.encI hs597 l726 x579.toNat,B34,B33,B40,B29,B30,B41,B42,B31] W767:=hS768
     refine zq (zZ (zF (rR fL3 Z (oM Z f742 (oR Z (zQ Z Z Z) (oA Z Z (zq ?_)))))))
     have hS770:=hS769.innBack nM
     have hS771:sW w φ φ735 [inn 3 1 KL.encI hs597 (nJ l726 x579.toNat (nJ (gd l726 x579.toNat) x727.toNat (w64 ((gd (gd l726 x579.toNat) x727.toNat) - (w64 (250 * (gd y554 x579.toNat))))))),B34,B33,B40,B29,B30,B41,B42,B31] W767:=hS770
     have hS772:sW w φ φ735 [inn 3 1 KL.encI hs597 (nJ l726 x579.toNat (nJ (gd l726 x579.toNat) x727.toNat (w64 ((gd (gd l726 x579.toNat) x727.toNat) - (w64 (250 * (gd y554 x579.toNat))))))),B34,B33,B40,B29,B30,B41,.blk b593 66 [jV x33,.slice A555 y546.length c556,.slice A595 ((nJ l726 x579.toNat (nJ (gd l726 x579.toNat) x727.toNat (w64 ((gd (gd l726 x579.toNat) x727.toNat) - (w64 (250 * (gd y554 x579.toNat))))))).length) c596],B31] W767:=by simpa only [nM] using hS771
     obtain rfl:=nB hm764
     exact zF ⟨rfl,_,rfl,⟨φ735,f738,f739,f740,f741,rfl,le736,(hS772.pick [1,2,3,4,5,6,0,7,8] _ (by decide) rfl)⟩⟩
    ·have hm775:=hx731;rw [if_neg c743] at hm775;replace c743:=zB c743
     refine cF Z c743 (ZD (zf ?_))
     have q:=wAq hm775
     obtain ⟨v776,hm777,e778⟩:=q
     obtain rfl:=hb732 v776 e778
     refine zf (ZB (zF (sR (.fl 0 (.fx 1 (wOw (.nil)) .stop)) Z (oL Z (hS737.ldBA (j:=2) Z Z f738 Tryz.isAgg66 ZA (vs:=[jV x33,.slice A555 y546.length c556,.slice A590 l589.length c591]) Z Z) ?_))))
     have q:=hS737.freezeR (k:=1) (n:=y546.length) rfl (wAG (f:=KL.encI) (sz:=1) (fun _=>rfl) y546) (by decide)
     obtain ⟨φ779,le780,hs781,hS782⟩:=q
     let B43:Res:=.blk b593 66 [jV x33,.slice A555 y546.length c556,.slice A595 l726.length c596]
     have hS783:sW w φ φ779 [B34,B40,B29,B30,B41,inn 3 1 KL.encI hs597 l726,B43,B31] W729:=hS782
     have h784:=h713.le le736
     have h785:=h784.le le780
     have q:=bnd hm777
     obtain ⟨⟨x786,x787⟩,h788,hm789⟩:=q
     try dsimp only at hm789
     refine zL 0 Z Z Z Z (zM Z Z Tryz.call44 (zC Z zR) Z) hS783 (fun hs=>wDk (⟨x33,y546,l589⟩:wAE) A555 c556 A590 c591 W729 φ779 hs hs781 h785 h788) (.inr Z) ?_
     rintro φ790 L791 v792 W793 le794 hS795 ⟨A796,c797,rfl,rfl⟩
     let B44:Res:=.row A796 c797 45 4 (nA wAI x786)
     have hS799:sW w φ φ790 [B44,B34,B40,B29,B30,B41,inn 3 1 KL.encI hs597 l726,B43,B31] W793:=hS795
     refine oM Z Z (oR Z (Runs.ext Z Z (v:=.slice A796 x786.length c797) Z) (oR Z (Runs.ext Z Z (v:=jV x787) Z) (oA Z Z (oA Z Z (eN (sR (.fl 0 (.fx 1 (wOw (.nil)) .stop)) Z (oL Z (hS799.ldBA (j:=7) Z Z f741 Tryz.isAgg66 ZA (vs:=[jV x33,.slice A555 y546.length c556,.slice A595 l726.length c596]) Z Z) ?_)))))))
     have hS800:sW w φ φ790 [B41,inn 3 1 KL.encI hs597 l726,B44,B34,B40,B29,B30,B43,B31] W793:=hS799.pick [5,6,0,1,2,3,4,7,8] _ (by decide) rfl
     have q:=St.freezeN (R:=wHZ) hS800 (fun _ _ _ _ h=>⟨_,_,rfl,h⟩) (fun _=>rfl) (by decide) rfl
     obtain ⟨φ801,le802,hs803,hS804⟩:=q
     have hS805:sW w φ φ801 [B44,B34,B40,B29,B30,B43,B31] W793:=hS804
     have h806:=hs781.le le794
     have h807:=h806.le le802
     have q:=bnd hm789
     obtain ⟨⟨x808,x809⟩,h810,hm811⟩:=q
     try dsimp only at hm811
     refine zL 0 Z Z Z Z (zM Z Z Tryz.call44 (zC Z zR) Z) hS805 (fun hs=>wDk (⟨x33,y546,l726⟩:wAE) A555 c556 A595 c596 W793 φ801 hs h807 hs803 h810) (.inr Z) ?_
     rintro φ812 L813 v814 W815 le816 hS817 ⟨A818,c819,rfl,rfl⟩
     let B45:Res:=.row A818 c819 45 4 (nA wAI x808)
     have hS821:sW w φ φ812 [B45,B44,B34,B40,B29,B30,B43,B31] W815:=hS817
     refine oM Z Z (oR Z (Runs.ext Z Z (v:=.slice A818 x808.length c819) Z) (oR Z (Runs.ext Z Z (v:=jV x809) Z) (oA Z Z (oA Z Z (eN (zG (sR fL6 Z (oM Z Z (oR Z (Runs.neq Z Z Z) (oM Z Z (ifc hm811 ?_ ?_)))))))))))
     ·intro c822 hm823
      refine zW Z Z Z (zX Z Z (ZL (fun h=>h c822.out))) Z Z (zk Z Z Z (zX Z Z (ZL (fun h=>h c822.out))) (fun _=>Runs.neq Z Z Z) (oR Z (zr Z (ZL (fun h=>h c822.out)) Z) (eN (ifc hm823 ?_ ?_))))
      ·intro c824 hm825
       refine zx (ZL (fun h=>h c824.out)) (kN (sR fL2 Z ?_))
       have q:=hS821.freeze (k:=2) rfl
       obtain ⟨φ826,le827,hC828,hS829⟩:=q
       replace hC828:=Cl.of hC828
       have hS830:sW w φ φ826 [B45,B44,B40,B29,B30,B43,B31] W815:=hS829
       replace hC828:Cl φ826 b583 0 [jV x579]:=hC828
       refine oR Z (Runs.mkf Z zR (zC f740 zR)) (oA Z Z (eN (sR (.fl 0 (.fl 1 (.fx 2 (wQO (.fx 6 (fC7_9 (.fx 10 (.fl 11 (.fl 12 (.nil))) .stop)) .stop)) .stop))) Z (oM Z Z (oM Z Z ?_)))))
       have q:=hS830.freezeR (k:=1) (n:=x786.length) rfl (wAG (f:=wAI) (sz:=4) (fun _=>rfl) x786) (by decide)
       obtain ⟨φ831,le832,hs833,hS834⟩:=q
       have hS835:sW w φ φ831 [B45,B40,B29,B30,B43,B31] W815:=hS834
       have h836:=hC828.le le832
       refine bnK hm825 fun x837 h838 hm839=>zL 0 Z Z Z Z (zM Z Z Tryz.call68 (zC Z zR) Z) hS835 (fun hs=>wBa x786 A796 c797 x579 b583 W815 φ831 hs hs833 h836 h838) (.inr Z) ?_
       rintro φ840 L841 v842 W843 le844 hS845 ⟨rfl,rfl⟩
       have hS846:sW w φ φ840 [B45,B40,B29,B30,B43,B31] W843:=hS845
       refine oM Z Z (ifc hm839 ?_ ?_)
       ·intro c847 hm848
        refine zP Z Z Z (zg Z Z (congrArg nD c847.out) Z) (zP Z Z Z (zg Z Z (congrArg nD c847.out) Z) (OKS.px Z Z Z (zg Z Z (congrArg nD c847.out) Z) (zP Z Z Z (zg Z Z (congrArg nD c847.out) Z) (oR Z (zm Z (congrArg nD c847.out) Z) (oM Z Z (bnK hm848 fun x849 h850 hm851=>zL 0 Z Z Z (zX Z Z Z) (zM Z Z Tryz.call70 zR Z) hS846 (fun hs=>wCQ W843 φ840 hs h850) (.inr Z) ?_))))))
        rintro φ852 L853 v854 W855 le856 hS857 ⟨rfl,rfl⟩
        have hS858:sW w φ φ852 [B45,B40,B29,B30,B43,B31] W855:=hS857
        refine oR Z (zm Z Z Z) (oA Z Z (eN (zJ ?_)))
        have hE:=nB hm851;first | subst r | cases hE
        exact ⟨rfl,_,(zn rfl),φ852,_,(hS858.pick [] _ (by decide) rfl),rfl,rfl⟩
       ·intro c847 hm859
        refine zW Z Z Z (zX Z Z (congrArg nD (nE.2 c847.out))) Z Z (zW Z Z Z (zX Z Z (congrArg nD (nE.2 c847.out))) Z Z ?_)
        have q:=hS846.freezeR (k:=0) (n:=x808.length) rfl (wAG (f:=wAI) (sz:=4) (fun _=>rfl) x808) (by decide)
        obtain ⟨φ860,le861,hs862,hS863⟩:=q
        have hS864:sW w φ φ860 [B40,B29,B30,B43,B31] W843:=hS863
        have h865:=h836.le le844
        have h866:=h865.le le861
        refine bnK hm859 fun x867 h868 hm869=>zL 0 Z Z Z (zX Z Z (congrArg nD (nE.2 c847.out))) (zM Z Z Tryz.call68 (zC Z zR) Z) hS864 (fun hs=>wBa x808 A818 c819 x579 b583 W843 φ860 hs hs862 h866 h868) (.inr Z) ?_
        rintro φ870 L871 v872 W873 le874 hS875 ⟨rfl,rfl⟩
        have hS876:sW w φ φ870 [B40,B29,B30,B43,B31] W873:=hS875
        refine zk Z Z Z (zX Z Z (congrArg nD (nE.2 c847.out))) (fun _=>ZH Z Z) (oR Z (zr Z (congrArg nD (nE.2 c847.out)) Z) (oM Z Z (ifc hm869 ?_ ?_)))
        ·intro c877 hm878
         refine OKS.px Z Z Z (zg Z Z (nC c877.out) Z) (oR Z (zr Z (nC c877.out) Z) (oA Z Z (eN (zJ ?_))))
         have hE:=nB hm878;first | subst r | cases hE
         exact ⟨rfl,_,(zn rfl),φ870,_,(hS876.pick [] _ (by decide) rfl),rfl,rfl⟩
        ·intro c877 hm879
         refine bnK hm879 fun x880 h881 hm882=>zL 0 Z Z Z (zX Z Z (nF (c877.out))) (zM Z Z Tryz.call70 zR Z) hS876 (fun hs=>wCQ W873 φ870 hs h881) (.inr Z) ?_
         rintro φ883 L884 v885 W886 le887 hS888 ⟨rfl,rfl⟩
         have hS889:sW w φ φ883 [B40,B29,B30,B43,B31] W886:=hS888
         refine oR Z (zm Z (nF (c877.out)) Z) (oA Z Z (eN (zJ ?_)))
         have hE:=nB hm882;first | subst r | cases hE
         exact ⟨rfl,_,(zn rfl),φ883,_,(hS889.pick [] _ (by decide) rfl),rfl,rfl⟩
      ·intro c824 hm890
       refine cT Z c824 (sR fL1 Z (oA Z Z (eN (zJ (zI ?_)))))
       have hE:=nB hm890;first | subst r | cases hE
       exact ⟨rfl,_,(zn rfl),φ812,_,(hS821.pick [] _ (by decide) rfl),rfl,rfl⟩
     ·intro c822 hm891
      refine oT Z c822 (oT Z c822 (oR Z (zm Z (wGe c822.out) Z) (eN (ZC Z (sR fL1 Z (oA Z Z (eN (zJ (zI ?_)))))))))
      have hE:=nB hm891;first | subst r | cases hE
      exact ⟨rfl,_,(zn rfl),φ812,_,(hS821.pick [] _ (by decide) rfl),rfl,rfl⟩
end Go.Proofs.YtglpalgiipahjaaGreat
