import Derived.Test.YthbficbpebiekaaGreatZ4
set_option linter.all false
open List renaming flatMap->hH,getElem_cons_succ->nI,getElem_cons_zero->nJ,getElem_toArray->nL
open Option.some renaming inj->nA
open Go.Value renaming bool->nB
open Bool renaming eq_false_iff->nD
open Prod.mk renaming injEq->nE
open Option renaming map->nG
open Nat renaming blt->nH,le_of_ble_eq_true->nK
namespace Go.Proofs.YthbficbpebiekaaGreat
open Go.KL
set_option maxHeartbeats 4000000
theorem Z {α:Type} {a:α}:a=a:=rfl
section
variable {r:Option Nat} {N:Nat} {P:Program} {l:List Oper} {Q:wCO} {D:List Deferred} {ks:List Nat} {σ:Env} {w:World} {i d j e:Nat} {s:Sch} {o:Oper} {b:Bool} {x:Operand} {v:Value} {p:Prop} {inst:Decidable p} {K:List Deferred->Env->World->Prop} {c1 c2:Code}
abbrev jV (n:Int):Value:=.int .i64 n
abbrev SW (w:World) (X:List Res) (U U':PHeap) (L:List Res) (w':World):Prop:=St ⟨w,X,U⟩ U' L w'
abbrev sW (w:World) (U U':PHeap) (L:List Res) (w':World):Prop:=St ⟨w,[],U⟩ U' L w'
abbrev St0 (w:World) (U:PHeap) (L:List Res):Prop:=St ⟨w,L,U⟩ U L w
theorem ifc {α:Type} {G p:Prop} {inst:Decidable p} {a b r:α} (h:@ite α p inst a b=r) (h1:Hid p->a=r->G) (h2:Hid (¬ p)->b=r->G):G:=by
 by_cases c:p
 · rw [if_pos c] at h;exact h1 ⟨c⟩ h
 · rw [if_neg c] at h;exact h2 ⟨c⟩ h
theorem bnK {α β:Type} {G:Prop} {o:Option α} {f:α->Option β} {r:β} (h:o.bind f=some r) (k:∀ x,o=some x->f x=some r->G):G:=by
 obtain ⟨x,h1,h2⟩:=bnd h
 exact k x h1 h2
theorem oR (h:(l[i]?,o.dst,nH d N,wanted l σ o)=(some o,some d,true,true)) (hr:∀ {w'},Runs P σ w' o v w') (k:OKS N P l Q D ks s (upd σ d v) w):OKS N P l Q D ks (.fl i s) σ w:=by
 simp only [nE] at h;exact OKS.r h.1 h.2.1 h.2.2.1 h.2.2.2 (fun _=>hr) k
theorem oL (h:(l[i]?,o.dst,nH d N,wanted l σ o,wOT (kOf ks i))=(some o,some d,true,true,false)) (hr:wDz P σ w o v) (k:OKS N P l Q D ks s (upd σ d v) w):OKS N P l Q D ks (.fl i s) σ w:=by
 simp only [nE] at h;exact OKS.m h.1 h.2.1 h.2.2.1 h.2.2.2.1 hr h.2.2.2.2 k
theorem oM (h:(l[i]?,o.dst,nH d N,wanted l σ o,o.op)=(some o,some d,true,true,.move x)) (hx:ev σ x=v) (k:OKS N P l Q D ks s (upd σ d v) w):OKS N P l Q D ks (.fl i s) σ w:=by
 simp only [nE] at h;exact OKS.rm h.1 h.2.1 h.2.2.1 h.2.2.2.1 h.2.2.2.2 hx k
theorem oA (h:(l[i]?,o.dst,nH d N,wanted l σ o,o.op)=(some o,some d,true,true,.assign x)) (hx:ev σ x=v) (k:OKS N P l Q D ks s (upd σ d v) w):OKS N P l Q D ks (.fl i s) σ w:=by
 simp only [nE] at h;exact OKS.ra h.1 h.2.1 h.2.2.1 h.2.2.2.1 h.2.2.2.2 hx k
theorem oF (h:(l[i]?,o.dst,nH d N,o.guard,(l[j]?).bind (·.dst),σ e,false == b)=(some o,some d,true,some (j,b),some e,.bool (decide p),false)) (c:Hid (¬ p)) (k:OKS N P l Q D ks s (upd σ d undef) w):OKS N P l Q D ks (.fl i s) σ w:=by
 simp only [nE] at h;exact OKS.p h.1 h.2.1 h.2.2.1 (wEm h.2.2.2.1 h.2.2.2.2.1 (h.2.2.2.2.2.1.trans (wOS c.out)) h.2.2.2.2.2.2) k
theorem oT (h:(l[i]?,o.dst,nH d N,o.guard,(l[j]?).bind (·.dst),σ e,true == b)=(some o,some d,true,some (j,b),some e,.bool (decide p),false)) (c:Hid p) (k:OKS N P l Q D ks s (upd σ d undef) w):OKS N P l Q D ks (.fl i s) σ w:=by
 simp only [nE] at h;exact OKS.p h.1 h.2.1 h.2.2.1 (wEm h.2.2.2.1 h.2.2.2.2.1 (h.2.2.2.2.2.1.trans (wDl c.out)) h.2.2.2.2.2.2) k
theorem oN {b2:Bool} (h:(l[i]?,o.dst,nH d N,o.guard,(l[j]?).bind (·.dst),σ e,b2 == b)=(some o,some d,true,some (j,b),some e,.bool b2,false)) (k:OKS N P l Q D ks s (upd σ d undef) w):OKS N P l Q D ks (.fl i s) σ w:=by
 simp only [nE] at h;exact OKS.p h.1 h.2.1 h.2.2.1 (wEm h.2.2.2.1 h.2.2.2.2.1 h.2.2.2.2.2.1 h.2.2.2.2.2.2) k
theorem nC {a b:Bool} (h:a=b):nB (!a)=nB (!b):=h ▸ rfl
theorem nF {a:Bool} (h:¬ a=true):nB (!a)=nB (!false):=nC (nD.2 h)
theorem wT (h:(o.guard,(l[j]?).bind (·.dst),σ e)=(some (j,true),some e,.bool (decide p))) (c:Hid p):wanted l σ o=true:=by
 simp only [nE] at h;exact wFz h.1 h.2.1 (h.2.2.trans (wDl c.out))
theorem wF (h:(o.guard,(l[j]?).bind (·.dst),σ e)=(some (j,false),some e,.bool (decide p))) (c:Hid (¬ p)):wanted l σ o=true:=by
 simp only [nE] at h;exact wFz h.1 h.2.1 (h.2.2.trans (wOS c.out))
theorem rU (h:(l[i]?,o.dst,nH d N)=(some o,some d,true)) (hw:wanted l σ o=true) (hr:∀ {w'},Runs P σ w' o v w') (k:OKS N P l Q D ks s (upd σ d v) w):OKS N P l Q D ks (.fl i s) σ w:=by
 simp only [nE] at h;exact OKS.r h.1 h.2.1 h.2.2 hw (fun _=>hr) k
theorem sR {id:Nat} (s:Sch) (hs:inOrder 0 s l.length=true) (h:OKS N P l (wDi (fun D σ w=>CK r N P c2 Q D σ w) Q) D [] s σ w):CK r N P (.seq (.region id l.toArray false) c2) Q D σ w:=CK.seq (CK.reg s hs h)
theorem rR {id:Nat} (s:Sch) (hs:inOrder 0 s l.length=true) (h:OKS N P l Q D [] s σ w):CK r N P (.region id l.toArray false) Q D σ w:=CK.reg s hs h
theorem eN (h:K D σ w):OKS N P l (wDi K Q) D ks .nil σ w:=OKS.e (wFv h)
theorem cT (hz:ev σ x=.bool (decide p)) (c:Hid p) (h:CK r N P c1 Q D σ w):CK r N P (.cond x c1 c2) Q D σ w:=CK.condT (hz.trans (wDl c.out)) h
theorem cF (hz:ev σ x=.bool (decide p)) (c:Hid (¬ p)) (h:CK r N P c2 Q D σ w):CK r N P (.cond x c1 c2) Q D σ w:=CK.condF (hz.trans (wOS c.out)) h
theorem kN (h:K D σ w):CK r N P .skip (wDi K Q) D σ w:=CK.skip (wFv h)
end
def fL1:Sch:=.fl 0 (.nil)
def fL2:Sch:=.fl 0 (.fl 1 (.nil))
def fL3:Sch:=.fl 0 (.fl 1 (.fl 2 (.nil)))
def fL4:Sch:=.fl 0 (.fl 1 (.fl 2 (.fl 3 (.nil))))
def fL5:Sch:=.fl 0 (.fl 1 (.fl 2 (.fl 3 (.fl 4 (.nil)))))
def fL6:Sch:=.fl 0 (.fl 1 (.fl 2 (.fl 3 (.fl 4 (.fl 5 (.nil))))))
def fL7:Sch:=.fl 0 (.fl 1 (.fl 2 (.fl 3 (.fl 4 (.fl 5 (.fl 6 (.nil)))))))
def fL8:Sch:=.fl 0 (.fl 1 (.fl 2 (.fl 3 (.fl 4 (.fl 5 (.fl 6 (.fl 7 (.nil))))))))
def fL9:Sch:=.fl 0 (.fl 1 (.fl 2 (.fl 3 (.fl 4 (.fl 5 (.fl 6 (.fl 7 (.fl 8 (.nil)))))))))
def fL11:Sch:=.fl 0 (.fl 1 (.fl 2 (.fl 3 (.fl 4 (.fl 5 (.fl 6 (.fl 7 (.fl 8 (.fl 9 (.fl 10 (.nil)))))))))))
def fL12:Sch:=.fl 0 (.fl 1 (.fl 2 (.fl 3 (.fl 4 (.fl 5 (.fl 6 (.fl 7 (.fl 8 (.fl 9 (.fl 10 (.fl 11 (.nil))))))))))))
def fL14:Sch:=.fl 0 (.fl 1 (.fl 2 (.fl 3 (.fl 4 (.fl 5 (.fl 6 (.fl 7 (.fl 8 (.fl 9 (.fl 10 (.fl 11 (.fl 12 (.fl 13 (.nil))))))))))))))
def fL17:Sch:=.fl 0 (.fl 1 (.fl 2 (.fl 3 (.fl 4 (.fl 5 (.fl 6 (.fl 7 (.fl 8 (.fl 9 (.fl 10 (.fl 11 (.fl 12 (.fl 13 (.fl 14 (.fl 15 (.fl 16 (.nil)))))))))))))))))
def fL24:Sch:=.fl 0 (.fl 1 (.fl 2 (.fl 3 (.fl 4 (.fl 5 (.fl 6 (.fl 7 (.fl 8 (.fl 9 (.fl 10 (.fl 11 (.fl 12 (.fl 13 (.fl 14 (.fl 15 (.fl 16 (.fl 17 (.fl 18 (.fl 19 (.fl 20 (.fl 21 (.fl 22 (.fl 23 (.nil))))))))))))))))))))))))
def fL27:Sch:=.fl 0 (.fl 1 (.fl 2 (.fl 3 (.fl 4 (.fl 5 (.fl 6 (.fl 7 (.fl 8 (.fl 9 (.fl 10 (.fl 11 (.fl 12 (.fl 13 (.fl 14 (.fl 15 (.fl 16 (.fl 17 (.fl 18 (.fl 19 (.fl 20 (.fl 21 (.fl 22 (.fl 23 (.fl 24 (.fl 25 (.fl 26 (.nil)))))))))))))))))))))))))))
def fL30:Sch:=.fl 0 (.fl 1 (.fl 2 (.fl 3 (.fl 4 (.fl 5 (.fl 6 (.fl 7 (.fl 8 (.fl 9 (.fl 10 (.fl 11 (.fl 12 (.fl 13 (.fl 14 (.fl 15 (.fl 16 (.fl 17 (.fl 18 (.fl 19 (.fl 20 (.fl 21 (.fl 22 (.fl 23 (.fl 24 (.fl 25 (.fl 26 (.fl 27 (.fl 28 (.fl 29 (.nil))))))))))))))))))))))))))))))
def wGa (s:Sch):Sch:=.fl 0 (.fl 1 (.fl 2 (s)))
def fC0_3 (s:Sch):Sch:=.fl 0 (.fl 1 (.fl 2 (.fl 3 (s))))
def wLb (s:Sch):Sch:=.fl 0 (.fl 1 (.fl 2 (.fl 3 (.fl 4 (s)))))
def fC0_7 (s:Sch):Sch:=.fl 0 (.fl 1 (.fl 2 (.fl 3 (.fl 4 (.fl 5 (.fl 6 (.fl 7 (s))))))))
def wPX (s:Sch):Sch:=.fl 0 (.fl 1 (.fl 2 (.fl 3 (.fl 4 (.fl 5 (.fl 6 (.fl 7 (.fl 8 (s)))))))))
def wPY (s:Sch):Sch:=.fl 0 (.fl 1 (.fl 2 (.fl 3 (.fl 4 (.fl 5 (.fl 6 (.fl 7 (.fl 8 (.fl 9 (.fl 10 (.fl 11 (.fl 12 (s)))))))))))))
def wMz (s:Sch):Sch:=.fl 0 (.fl 1 (.fl 2 (.fl 3 (.fl 4 (.fl 5 (.fl 6 (.fl 7 (.fl 8 (.fl 9 (.fl 10 (.fl 11 (.fl 12 (.fl 13 (.fl 14 (.fl 15 (s))))))))))))))))
def wPZ (s:Sch):Sch:=.fl 0 (.fl 1 (.fl 2 (.fl 3 (.fl 4 (.fl 5 (.fl 6 (.fl 7 (.fl 8 (.fl 9 (.fl 10 (.fl 11 (.fl 12 (.fl 13 (.fl 14 (.fl 15 (.fl 16 (.fl 17 (.fl 18 (.fl 19 (.fl 20 (s)))))))))))))))))))))
def wMU (s:Sch):Sch:=.fl 3 (.fl 4 (.fl 5 (s)))
def wJJ (s:Sch):Sch:=.fl 3 (.fl 4 (.fl 5 (.fl 6 (.fl 7 (s)))))
def wMV (s:Sch):Sch:=.fl 4 (.fl 5 (.fl 6 (.fl 7 (.fl 8 (s)))))
def wPa (s:Sch):Sch:=.fl 5 (.fl 6 (.fl 7 (.fl 8 (.fl 9 (.fl 10 (.fl 11 (.fl 12 (s))))))))
def fC6_8 (s:Sch):Sch:=.fl 6 (.fl 7 (.fl 8 (s)))
def wPb (s:Sch):Sch:=.fl 6 (.fl 7 (.fl 8 (.fl 9 (.fl 10 (.fl 11 (s))))))
def wPc (s:Sch):Sch:=.fl 7 (.fl 8 (.fl 9 (.fl 10 (s))))
def wOJ (s:Sch):Sch:=.fl 13 (.fl 14 (.fl 15 (.fl 16 (.fl 17 (.fl 18 (.fl 19 (s)))))))
def wOK (s:Sch):Sch:=.fl 19 (.fl 20 (.fl 21 (.fl 22 (.fl 23 (.fl 24 (s))))))
theorem zA:type_of% @Tryz.runUnderlying95:=@Tryz.runUnderlying95
theorem zB:type_of% @Hid.mk:=@Hid.mk
theorem zC:type_of% @wJM:=@wJM
theorem zD:type_of% @wJN:=@wJN
theorem zE:type_of% @CK.seq:=@CK.seq
theorem zF:type_of% @Tryz.sizeOf105:=@Tryz.sizeOf105
theorem zG:type_of% @Tryz.sizeOf3:=@Tryz.sizeOf3
theorem zH:type_of% @wFv:=@wFv
theorem zI:type_of% @Tryz.runUnderlying22:=@Tryz.runUnderlying22
theorem zJ:type_of% @Tryz.runUnderlying110:=@Tryz.runUnderlying110
theorem zK:type_of% @CK.ret:=@CK.ret
theorem zL:type_of% @wFz:=@wFz
theorem zM:type_of% @OKS.callH:=@OKS.callH
theorem zN:type_of% @Enters.mk:=@Enters.mk
theorem zO:type_of% @Tryz.isAgg3:=@Tryz.isAgg3
theorem zP:type_of% @wIC:=@wIC
theorem zQ:type_of% @PHeap.Le.refl:=@PHeap.Le.refl
theorem zR:type_of% @Runs.pickT:=@Runs.pickT
theorem zS:type_of% @OKS.rm:=@OKS.rm
theorem zU:type_of% @Runs.lss:=@Runs.lss
theorem zV:type_of% @CK.block:=@CK.block
theorem zW:type_of% @wMW:=@wMW
theorem zX:type_of% @Tryz.runUnderlying105:=@Tryz.runUnderlying105
theorem zY:type_of% @wJL:=@wJL
theorem zZ:type_of% @wEm:=@wEm
theorem zd:type_of% @Runs.pickF:=@Runs.pickF
theorem ze:type_of% @Runs.len:=@Runs.len
theorem zf:type_of% @wOS:=@wOS
theorem zg:type_of% @Tryz.sizeOf239:=@Tryz.sizeOf239
theorem zh:type_of% @Runs.addw:=@Runs.addw
theorem zi:type_of% @res1:=@res1
theorem zj:type_of% @wIB:=@wIB
theorem zk:type_of% @CK.condF:=@CK.condF
theorem zl:type_of% @Tryz.runUnderlying239:=@Tryz.runUnderlying239
theorem zm:type_of% @Runs.iaN:=@Runs.iaN
theorem zn:type_of% @Tryz.isAgg105:=@Tryz.isAgg105
theorem zo:type_of% @OKS.p:=@OKS.p
theorem zp:type_of% @CK.condT:=@CK.condT
theorem zq:type_of% @Runs.to:=@Runs.to
theorem zr:type_of% @OKS.e:=@OKS.e
theorem zt:type_of% @Tryz.underlying22:=@Tryz.underlying22
theorem zu:type_of% @nK:=@nK
theorem zw:type_of% @Runs.fa:=@Runs.fa
theorem zx:type_of% @wFw:=@wFw
theorem zy:type_of% @Runs.neq:=@Runs.neq
theorem zz:type_of% @OKS.r:=@OKS.r
theorem ZA:type_of% @CK.exit:=@CK.exit
theorem ZB:type_of% @OKS.append:=@OKS.append
theorem ZC:type_of% @OKS.buildSlice:=@OKS.buildSlice
theorem ZD:type_of% @Tryz.zeroValue3:=@Tryz.zeroValue3
theorem ZE:type_of% @Tryz.zeroValue105:=@Tryz.zeroValue105
theorem ZF:type_of% @Runs.ext:=@Runs.ext
theorem ZG:type_of% @CK.skip:=@CK.skip
theorem ZH:type_of% @CK.forN:=@CK.forN
theorem ZI:type_of% @OKS.px:=@OKS.px
theorem ZJ:type_of% @OKS.m:=@OKS.m
theorem ZK:type_of% @Tryz.mixed:=@Tryz.mixed
theorem ZL:type_of% @OKS.alloc:=@OKS.alloc
theorem ZM:type_of% @Runs.notT:=@Runs.notT
theorem ZN:type_of% @CK.anyOrd:=@CK.anyOrd
end Go.Proofs.YthbficbpebiekaaGreat
namespace Go.Proofs.YthbficbpebiekaaGreat
open Go.KL
set_option maxHeartbeats 4000000
theorem wBC (w:World) (U:PHeap) (hS:St0 w U []) {r:Bool} (hm:wAr=some r):Gv Tryz.prog 45 [] w (wCm w [] U (fun U_ L_ v=>v=.bool r/\L_=[])):=by
 cases hm
 refine (xr45 w).mono ?_
 rintro v w' ⟨rfl,k⟩
 exact ⟨U,[],hS.grow k,Z,Z⟩
theorem wCB (p0:List wAA) (pA0:Option Addr) (pc0:Nat) (w:World) (U:PHeap) (hS:St0 w U []) (ha0:Sl U 3 pA0 pc0 p0.length (hH wAB p0)) {r:(List wAA)} (hm:wAP p0=some r):Gv Tryz.prog 52 [.slice pA0 p0.length pc0] w (wCm w [] U (fun U_ L_ v=>∃ (A0:Option Addr) (c0:Nat),v=.slice A0 r.length c0/\L_=[.row A0 c0 105 3 (hH wAB r)])):=by
 unfold wAP at hm
 refine Gv.of Tryz.func52 Z Tryz.ntmps52 Tryz.results52 Z (sR fL1 Z (oA Z Z (eN (sR (.fl 0 (.fx 1 (.fl 2 (.nil)) .stop)) Z (oM Z Z ?_)))))
 have hS1:=hS.nilrow 105 3
 have hS3:sW w U U [.row none 0 105 3 (hH wAB ([]:List wAA))] w:=hS1
 refine bnK hm fun x4 h5 hm6=>ZB (j:=0) (enc:=wAB) (xs:=([]:List wAA)) (ys:=p0) (zs:=x4) Z Z Z Z Z Tryz.underlying95 wHr Z Z Z Z Z Z hS3 Z Z Z (hS3.srcS ha0) (fun _=>Z) (fun _=>Z) h5 Z ?_
 intro A7 c8 W9 hS10
 have hS11:sW w U U [.row A7 c8 105 3 (hH wAB x4)] W9:=hS10
 refine oA Z Z (eN (zK ?_))
 have hE:=nA hm6;first | subst r | cases hE
 exact ⟨Z,_,(zi Z),U,_,hS11,A7,c8,Z,Z⟩
theorem wCr (p0:List Int) (pA0:Option Addr) (pc0:Nat) (w:World) (U:PHeap) (hS:St0 w U []) (ha0:Sl U 1 pA0 pc0 p0.length (hH KL.encI p0)) {r:(List Int)} (hm:wAh p0=some r):Gv Tryz.prog 34 [.slice pA0 p0.length pc0] w (wCm w [] U (fun U_ L_ v=>∃ (A0:Option Addr) (c0:Nat),v=.slice A0 r.length c0/\L_=[.row A0 c0 3 1 (hH KL.encI r)])):=by
 unfold wAh at hm
 refine Gv.of Tryz.func34 Z Tryz.ntmps34 Tryz.results34 Z (sR fL1 Z (oA Z Z (eN (sR (.fl 0 (.fx 1 (.fl 2 (.nil)) .stop)) Z (oM Z Z ?_)))))
 have hS1:=hS.nilrow 3 1
 have hS3:sW w U U [.row none 0 3 1 (hH KL.encI ([]:List Int))] w:=hS1
 refine bnK hm fun x4 h5 hm6=>ZB (j:=0) (enc:=KL.encI) (xs:=([]:List Int)) (ys:=p0) (zs:=x4) Z Z Z Z Z zt wDf Z Z Z Z Z Z hS3 Z Z Z (hS3.srcS ha0) (fun _=>Z) (fun _=>Z) h5 Z ?_
 intro A7 c8 W9 hS10
 have hS11:sW w U U [.row A7 c8 3 1 (hH KL.encI x4)] W9:=hS10
 refine oA Z Z (eN (zK ?_))
 have hE:=nA hm6;first | subst r | cases hE
 exact ⟨Z,_,(zi Z),U,_,hS11,A7,c8,Z,Z⟩
theorem wCN (p0:List wAA) (pA0:Option Addr) (pc0:Nat) (w:World) (U:PHeap) (hS:St0 w U []) (ha0:Sl U 3 pA0 pc0 p0.length (hH wAB p0)) {r:(List wAC)} (hm:wAi p0=some r):Gv Tryz.prog 56 [.slice pA0 p0.length pc0] w (wCm w [] U (fun U_ L_ v=>∃ (A0:Option Addr) (c0:Nat),v=.slice A0 r.length c0/\L_=[.row A0 c0 239 3 (hH wAE r)])):=by
 unfold wAi at hm
 refine Gv.of Tryz.func56 Z Tryz.ntmps56 Tryz.results56 Z (sR fL1 Z (oA Z Z (eN (sR fL1 Z (oA Z Z (eN (zE (sR fL3 Z (oM Z Z (oR Z (ze Z Z zA) (oM Z Z (eN (zV (bnK hm fun y23 hf20 hm19=>?_))))))))))))))
 have q:=wCd hf20
 obtain ⟨hle21,hf22⟩:=q
 replace hle21:=zB hle21
 refine CK.forN' (fun k18 l14 σ_ w_=>∃ (U_:PHeap) (A15:Option Addr) (c16:Nat),σ_ 8=jV (↑k18:Int)/\σ_ 3=.slice A15 l14.length c16/\σ_ 6=.slice pA0 p0.length pc0/\σ_ 7=jV (↑p0.length:Int)/\PHeap.Le U U_/\sW w U U_ [.row A15 c16 239 3 (hH wAE l14)] w_) hf22 ?_ ?_ ?_
 ·have hS24:=hS.nilrow 239 3
  exact ⟨U,none,0,Z,Z,Z,Z,(zQ _),hS24⟩
 ·rintro k18 l14 xx28 σ26 W27 hk31 ⟨U33,A15,c16,fi32,f36,f37,f38,le34,hS35⟩ hx29
  have c39:Hid ((↑k18:Int) < (↑p0.length:Int)):=zB (wBP hk31)
  replace hk31:=zB hk31
  have hi40:Hid (w64 ((↑k18:Int) + 1)=(↑(k18 + 1):Int)):=zB (by have h1:=hle21.out;have h2:=c39.out;rw [wAj] <;> omega)
  refine sR fL1 Z (oR Z (zU Z fi32 f38) (eN (zE (cT Z c39 (kN (zE (zV (sR (.fl 0 (.fl 1 (.fx 2 (.fx 3 (.nil) .stop) .stop))) Z (bnK hx29 fun x41 h42 hm43=>?_)))))))))
  have h44:=ha0.le le34
  have q:=h44.el (fun _=>rfl) (wAL h42)
  obtain ⟨b45,off46,hA47,hC48⟩:=q
  refine oR Z (zm Z f37 hA47 fi32 zA zF (wAk h42)) (oL Z (hS35.ldCA (f:=0) hC48 Z Z zn zF (us:=[jV x41.Bib,jV x41.Time,jV x41.Gate]) Z Z) ?_)
  let B0:List Value:=[jV 0,jV 0,jV 0]
  refine ZL (cs:=B0) Z Z Z Z Z ZE Z hS35 ?_
  intro W49 b50 hS51
  let B1:List Value:=[jV x41.Bib,jV x41.Time,jV x41.Gate]
  refine OKS.st (j:=0) (vs:=B1) Z Z Z Z hS51 Z Z Z Z zF (zu Z) Z Z Z ?_
  intro W53 hS54
  let B2:Res:=.row A15 c16 239 3 (hH wAE l14)
  have hS55:sW w U U33 [.blk b50 105 B1,B2] W53:=hS54
  refine eN (rR (.fl 0 (.fl 1 (.fx 2 (.fx 3 (.fl 4 (.nil)) .stop) .stop))) Z (oM Z f36 (oL Z (hS55.ldBA (j:=0) Z Z Z zn zF (vs:=B1) Z Z) (ZC (pv:=[(0,.agg B1.toArray)]) (zs:=B0) (cs:=B1) Z Z Z Z Z (wBX Z wBo) zJ zg Tryz.zeroValue239 Z Z Z Z Z hS55 ?_))))
  intro W56 b57 hS58
  let B3:Res:=.row (some ⟨b57,0,none⟩) 1 239 3 (hH wAE [(⟨x41.Bib,x41.Time,x41.Gate⟩:wAC)])
  have hS60:sW w U U33 [B3,.blk b50 105 B1,B2] W56:=hS58
  refine bnK hm43 fun x61 h62 hm63=>ZB (j:=2) (enc:=wAE) (xs:=l14) (ys:=[(⟨x41.Bib,x41.Time,x41.Gate⟩:wAC)]) (zs:=x61) rfl rfl rfl rfl rfl Tryz.underlying110 wOA rfl rfl rfl rfl rfl rfl hS60 rfl rfl rfl (hS60.srcR (j:=0) rfl (by decide) (wAG (f:=wAE) (sz:=3) (fun _=>rfl) [(⟨x41.Bib,x41.Time,x41.Gate⟩:wAC)])) (fun _=>rfl) (fun _=>rfl) h62 rfl ?_
  intro A64 c65 W66 hS67
  have hS68:sW w U U33 [B3,.blk b50 105 B1,.row A64 c65 239 3 (hH wAE x61)] W66:=hS67
  refine oA Z Z (zr (zj (zH (rR fL2 Z (oR Z (zq (zh Z fi32 Z) (congrArg (jV) hi40.out)) (oM Z Z (zr ?_)))))))
  cases hm63
  exact zH ⟨rfl,⟨U33,A64,c65,rfl,rfl,f37,f38,le34,(hS68.pick [2] _ (by decide) rfl)⟩⟩
 ·rintro σ72 W73 ⟨U81,A79,c80,fi75,f84,f85,f86,le82,hS83⟩
  have c87:Hid (¬ ((↑(((↑p0.length:Int):Int) - 0).toNat:Int) < (↑p0.length:Int))):=zB (wAo)
  refine sR fL1 Z (oR Z (zU Z fi75 f86) (eN (zE (cF Z c87 (ZA (zY (zY (zx (zH (sR fL2 Z (oM Z f84 (oA Z Z (eN (zK ?_))))))))))))))
  have hE:=nA hm19;first | subst r | cases hE
  exact ⟨Z,_,(zi Z),U81,_,hS83,A79,c80,Z,Z⟩
theorem wBk (p0:List wAA) (pA0:Option Addr) (pc0:Nat) (p1:(wAA->Option Bool)) (pv1:Value) (w:World) (U:PHeap) (hS:St0 w U []) (ha0:Sl U 3 pA0 pc0 p0.length (hH wAB p0)) (ha1:FnOK Tryz.prog U pv1 wJA wJB p1) {r:Bool} (hm:wAW p0 p1=some r):Gv Tryz.prog 140 [.slice pA0 p0.length pc0,pv1] w (wCm w [] U (fun U_ L_ v=>v=.bool r/\L_=[])):=by
 unfold wAW at hm
 refine Gv.of Tryz.func140 Z Tryz.ntmps140 Tryz.results140 Z (sR fL1 Z (oA Z Z (eN (zE (sR fL3 Z (oM Z Z (oR Z (ze Z Z zA) (oM Z Z (eN (zV ?_))))))))))
 have q:=wBJ hm
 obtain ⟨r3,hX4⟩:=q
 have q:=wBI hX4
 obtain ⟨hle5,hf6⟩:=q
 replace hle5:=zB hle5
 refine ZH (fun k2 _ σ_ w_=>∃ (U_:PHeap),σ_ 9=jV (↑k2:Int)/\σ_ 1=pv1/\σ_ 7=.slice pA0 p0.length pc0/\σ_ 8=jV (↑p0.length:Int)/\PHeap.Le U U_/\sW w U U_ [] w_) hf6 ?_ ?_ ?_
 ·exact ⟨U,Z,Z,Z,Z,(zQ _),hS⟩
 ·rintro k2 ⟨⟩ xx9 σ7 W8 hk12 ⟨U14,fi13,f17,f18,f19,le15,hS16⟩ hx10 hb11
  try dsimp only at hx10
  have c20:Hid ((↑k2:Int) < (↑p0.length:Int)):=zB (wBP hk12)
  replace hk12:=zB hk12
  have hi21:Hid (w64 ((↑k2:Int) + 1)=(↑(k2 + 1):Int)):=zB (by have h1:=hle5.out;have h2:=c20.out;rw [wAj] <;> omega)
  refine sR fL1 Z (oR Z (zU Z fi13 f19) (eN (zE (cT Z c20 (kN (zE (zV (sR (.fl 0 (.fl 1 (.fx 2 (.fx 3 (.nil) .stop) .stop))) Z (bnK hx10 fun x22 h23 hm24=>?_)))))))))
  have h25:=ha0.le le15
  have q:=h25.el (fun _=>rfl) (wAL h23)
  obtain ⟨b26,off27,hA28,hC29⟩:=q
  refine oR Z (zm Z f18 hA28 fi13 zA zF (wAk h23)) (oL Z (hS16.ldCA (f:=0) hC29 Z Z zn zF (us:=[jV x22.Bib,jV x22.Time,jV x22.Gate]) Z Z) (ZL (cs:=[jV 0,jV 0,jV 0]) Z Z Z Z Z ZE Z hS16 ?_))
  intro W30 b31 hS32
  let B0:List Value:=[jV x22.Bib,jV x22.Time,jV x22.Gate]
  refine OKS.st (j:=0) (vs:=B0) Z Z Z Z hS32 Z Z Z Z zF (zu Z) Z Z Z ?_
  intro W34 hS35
  have hS36:sW w U U14 [.blk b31 105 B0] W34:=hS35
  refine eN (sR (.fl 0 (.fl 1 (.fx 2 (.fl 3 (.nil)) .stop))) Z (oM Z f17 (oL Z (hS36.ldBA (j:=0) Z Z Z zn zF (vs:=B0) Z Z) (bnK hm24 fun x37 h38 hm39=>?_))))
  have h46:=ha1.le le15
  refine OKS.callV (a:=x22) Z Z Z Z Z Z (zD Z zW) hS36 h46 Z h38 ?_
  rintro U40 L41 v42 W43 le44 hS45 ⟨rfl,rfl⟩
  have hS47:sW w U U40 [.blk b31 105 B0] W43:=hS45
  refine oR Z (ZM Z Z) (eN (ifc hm39 ?_ ?_))
  ·intro c48 hm49
   refine zk (nC c48.out) (ZG (zj (zH (rR fL2 Z (oR Z (zq (zh Z fi13 Z) (congrArg (jV) hi21.out)) (oM Z Z (zr ?_)))))))
   obtain rfl:=nA hm49
   exact zH ⟨rfl,_,rfl,⟨U40,rfl,f17,f18,f19,(le15.trans le44),(hS47.pick [] _ (by decide) rfl)⟩⟩
  ·intro c48 hm50
   refine zp (nF (c48.out)) (sR fL1 Z (oA Z Z (eN (zK (zP (zC ?_))))))
   have q:=wAO hm50
   obtain ⟨v51,hm52,e53⟩:=q
   obtain rfl:=wAz hm hX4 (hb11 v51 e53)
   refine zC (zP (zC ?_))
   have hE:=nA hm52;first | subst r | cases hE
   exact ⟨rfl,_,(zi rfl),U40,_,(hS47.pick [] _ (by decide) rfl),rfl,rfl⟩
 ·rintro ⟨⟩ σ54 W55 ⟨U58,fi57,f61,f62,f63,le59,hS60⟩ hb56
  have hm64:=wBh hm hX4 hb56
  try dsimp only at hm64
  have c65:Hid (¬ ((↑(((↑p0.length:Int):Int) - 0).toNat:Int) < (↑p0.length:Int))):=zB (wAo)
  refine sR fL1 Z (oR Z (zU Z fi57 f63) (eN (zE (cF Z c65 (ZA (zY (zY (zx (zH (sR fL1 Z (oA Z Z (eN (zK ?_)))))))))))))
  have hE:=nA hm64;first | subst r | cases hE
  exact ⟨Z,_,(zi Z),U58,_,hS60,Z,Z⟩
theorem wDI (p0:Int) (p1:Int) (p2:Int) (w:World) (U:PHeap) (hS:St0 w U [])  {r:Bool} (hm:wBe p0 p1 p2=some r):Gv Tryz.prog 122 [jV p0,jV p1,jV p2] w (wCm w [] U (fun U_ L_ v=>v=.bool r/\L_=[])):=by
 unfold wBe at hm
 refine Gv.of Tryz.func122 Z Tryz.ntmps122 Tryz.results122 Z (sR fL1 Z (oA Z Z (eN (sR fL9 Z (oM Z Z (oM Z Z (oR Z (Runs.geq Z Z Z) (oM Z Z ?_))))))))
 by_cases c1:p1 <= p0
 ·have hm2:=hm;rw [if_pos c1] at hm2;replace c1:=zB c1
  refine zS Z Z Z (wT Z c1) Z Z (zS Z Z Z (wT Z c1) Z Z (rU Z (wT Z c1) (Runs.leq Z Z Z) (oR Z (zR Z (wDl c1.out) Z) (oA Z Z (eN (zK ?_))))))
  cases hm2
  exact ⟨Z,_,(zi Z),U,_,hS,Z,Z⟩
 ·have hm3:=hm;rw [if_neg c1] at hm3;replace c1:=zB c1
  refine oF Z c1 (oF Z c1 (oF Z c1 (oR Z (zd Z (zf c1.out) Z) (oA Z Z (eN (zK ?_))))))
  have hE:=nA hm3;first | subst r | cases hE
  exact ⟨Z,_,(zi Z),U,_,hS,Z,Z⟩
theorem wDg (p0:wAA) (w:World) (U:PHeap) (hS:St0 w U [])  {r:Bool} (hm:wAd p0=some r):Gv Tryz.prog 143 [.agg #[jV p0.Bib,jV p0.Time,jV p0.Gate]] w (wCm w [] U (fun U_ L_ v=>v=.bool r/\L_=[])):=by
 unfold wAd at hm
 refine Gv.of Tryz.func143 Z Tryz.ntmps143 Tryz.results143 Z (sR (.fx 0 (.fl 1 (.nil)) .stop) Z ?_)
 let B0:List Value:=[jV p0.Bib,jV p0.Time,jV p0.Gate]
 refine OKS.box (cs:=B0) rfl rfl rfl rfl rfl rfl (by rfl) hS ?_
 intro W1 b2 hS3
 refine oA Z Z (eN (sR (.fl 0 (.fl 1 (.fx 2 (wMU (.fx 6 (wPc (.fx 11 (.fl 12 (.fl 13 (.nil))) .stop)) .stop)) .stop))) Z (oR Z (zw Z Z zX Z zG) (oL Z (hS3.ldB (j:=0) Z Z Z zO (v:=jV p0.Bib) Z) (bnK hm fun x5 h6 hm7=>zM 0 Z Z Z Z (zN Z Z Tryz.call122 (zD Z (zD Z (zD Z zW))) Z) hS3 (fun hs=>wDI p0.Bib 1 999 W1 U hs h6) (.inr Z) ?_)))))
 rintro U8 L9 v10 W11 le12 hS13 ⟨rfl,rfl⟩
 have hS14:sW w U U8 [.blk b2 105 B0] W11:=hS13
 refine oM Z Z (ifc hm7 ?_ ?_)
 ·intro c15 hm16
  refine zz Z Z Z (zL Z Z (congrArg nB c15.out)) (fun _=>zw Z Z zX Z zG) (ZJ Z Z Z (zL Z Z (congrArg nB c15.out)) (hS14.ldB (j:=0) Z Z Z zO (v:=jV p0.Time) Z) Z (bnK hm16 fun x17 h18 hm19=>zM 0 Z Z Z (zL Z Z (congrArg nB c15.out)) (zN Z Z Tryz.call122 (zD Z (zD Z (zD Z zW))) Z) hS14 (fun hs=>wDI p0.Time 0 360000 W11 U8 hs h18) (.inr Z) ?_))
  rintro U20 L21 v22 W23 le24 hS25 ⟨rfl,rfl⟩
  have hS26:sW w U U20 [.blk b2 105 B0] W23:=hS25
  refine oR Z (zR Z (congrArg nB c15.out) Z) (oM Z Z (ifc hm19 ?_ ?_))
  ·intro c27 hm28
   refine zz Z Z Z (zL Z Z (congrArg nB c27.out)) (fun _=>zw Z Z zX Z zG) (ZJ Z Z Z (zL Z Z (congrArg nB c27.out)) (hS26.ldB (j:=0) Z Z Z zO (v:=jV p0.Gate) Z) Z (bnK hm28 fun x29 h30 hm31=>zM 0 Z Z Z (zL Z Z (congrArg nB c27.out)) (zN Z Z Tryz.call122 (zD Z (zD Z (zD Z zW))) Z) hS26 (fun hs=>wDI p0.Gate 0 60 W23 U20 hs h30) (.inr Z) ?_))
   rintro U32 L33 v34 W35 le36 hS37 ⟨rfl,rfl⟩
   have hS38:sW w U U32 [.blk b2 105 B0] W35:=hS37
   refine oR Z (zR Z (congrArg nB c27.out) Z) (oA Z Z (eN (zK ?_)))
   have hE:=nA hm31;first | subst r | cases hE
   exact ⟨rfl,_,(zi rfl),U32,_,(hS38.pick [] _ (by decide) rfl),rfl,rfl⟩
  ·intro c27 hm39
   refine zo Z Z Z (zZ Z Z (congrArg nB (nD.2 c27.out)) Z) (zo Z Z Z (zZ Z Z (congrArg nB (nD.2 c27.out)) Z) (ZI Z Z Z (zZ Z Z (congrArg nB (nD.2 c27.out)) Z) (oR Z (zd Z (congrArg nB (nD.2 c27.out)) Z) (oA Z Z (eN (zK ?_))))))
   have hE:=nA hm39;first | subst r | cases hE
   exact ⟨rfl,_,(zi rfl),U20,_,(hS26.pick [] _ (by decide) rfl),rfl,rfl⟩
 ·intro c15 hm40
  refine zo Z Z Z (zZ Z Z (congrArg nB (nD.2 c15.out)) Z) (zo Z Z Z (zZ Z Z (congrArg nB (nD.2 c15.out)) Z) (ZI Z Z Z (zZ Z Z (congrArg nB (nD.2 c15.out)) Z) (oR Z (zd Z (congrArg nB (nD.2 c15.out)) Z) (oM Z Z (oN Z (oN Z (ZI Z Z Z (zZ Z Z Z Z) (oR Z (zd Z Z Z) (oA Z Z (eN (zK ?_)))))))))))
  have hE:=nA hm40;first | subst r | cases hE
  exact ⟨rfl,_,(zi rfl),U8,_,(hS14.pick [] _ (by decide) rfl),rfl,rfl⟩
theorem wGO (p0:List Int) (pA0:Option Addr) (pc0:Nat) (w:World) (U:PHeap) (hS:St0 w U []) (ha0:Sl U 1 pA0 pc0 p0.length (hH KL.encI p0)) {r:Bool} (hm:wBi p0=some r):Gv Tryz.prog 144 [.slice pA0 p0.length pc0] w (wCm w [] U (fun U_ L_ v=>v=.bool r/\L_=[])):=by
 unfold wBi at hm
 refine Gv.of Tryz.func144 Z Tryz.ntmps144 Tryz.results144 Z (sR fL1 Z (oA Z Z (eN (sR (.fx 0 (.fl 1 (.nil)) .stop) Z (OKS.makeMap Z Z Z Z Z hS ?_)))))
 intro W1 b2 hS3
 have hr4:=MpR.nil wPM mv74
 refine oA Z Z (eN (zE (sR fL3 Z (oM Z Z (oR Z (ze Z Z zI) (oM Z Z (eN (zV ?_))))))))
 have q:=wBJ hm
 obtain ⟨r21,hX22⟩:=q
 have q:=wBI hX22
 obtain ⟨hle23,hf24⟩:=q
 replace hle23:=zB hle23
 refine ZH (fun k20 l17 σ_ w_=>∃ (U_:PHeap) (es18:Array MapEntry) (ck19:Nat),σ_ 9=jV (↑k20:Int)/\σ_ 3=.map (some b2)/\σ_ 7=.slice pA0 p0.length pc0/\σ_ 8=jV (↑p0.length:Int)/\PHeap.Le U U_/\sW w U U_ [.obj b2 (.map es18 ck19)] w_/\MpR es18 wPM mv74 l17) hf24 ?_ ?_ ?_
 ·exact ⟨U,#[],0,Z,Z,Z,Z,(zQ _),hS3,hr4⟩
 ·rintro k20 l17 xx27 σ25 W26 hk30 ⟨U32,es18,ck19,fi31,f35,f36,f37,le33,hS34,h38⟩ hx28 hb29
  have c39:Hid ((↑k20:Int) < (↑p0.length:Int)):=zB (wBP hk30)
  replace hk30:=zB hk30
  have hi40:Hid (w64 ((↑k20:Int) + 1)=(↑(k20 + 1):Int)):=zB (by have h1:=hle23.out;have h2:=c39.out;rw [wAj] <;> omega)
  refine sR fL1 Z (oR Z (zU Z fi31 f37) (eN (zE (cT Z c39 (kN (zE (zV (sR fL3 Z (bnK hx28 fun x41 h42 hm43=>?_)))))))))
  have h44:=ha0.le le33
  have q:=h44.el (fun _=>rfl) (wAL h42)
  obtain ⟨b45,off46,hA47,hC48⟩:=q
  refine oR Z (zm Z f36 hA47 fi31 zI zG (wAk h42)) (oL Z (hS34.ldC (f:=0) hC48 (v:=jV x41) Z Z zO Z) (oA Z Z (eN (zE (sR fL3 Z (oM Z f35 (oM Z Z (oL Z (hS34.lookup1 (j:=0) (mk:=wPM) (mv:=mv74) (a:=x41) (z:=false) Z Z Z Z (wFg Tryz.runUnderlying74) wMr Tryz.zeroValue4 h38) (eN (ifc hm43 ?_ ?_))))))))))
  ·intro c49 hm50
   refine zp (congrArg nB c49.out) (sR fL1 Z (oA Z Z (eN (zK (zC (zP (zC ?_)))))))
   have q:=wAO hm50
   obtain ⟨v51,hm52,e53⟩:=q
   obtain rfl:=wAz hm hX22 (hb29 v51 e53)
   refine zC (zP (zC ?_))
   have hE:=nA hm52;first | subst r | cases hE
   exact ⟨rfl,_,(zi rfl),U32,_,(hS34.pick [] _ (by decide) rfl),rfl,rfl⟩
  ·intro c49 hm54
   refine zk (congrArg nB (nD.2 c49.out)) (kN (rR (.fl 0 (.fl 1 (.fx 2 (.nil) .stop))) rfl (zS rfl rfl rfl rfl rfl f35 (zS rfl rfl rfl rfl rfl rfl (OKS.mapPut (x:=.tmp 16) (y:=.tmp 17) (j:=0) (mk:=wPM) (mv:=mv74) (a:=x41) (v:=true) rfl rfl rfl (by first | exact .inl rfl | exact .inr rfl) hS34 rfl rfl rfl rfl (wFg Tryz.runUnderlying74) wMr h38 rfl ?_)))))
   intro es55 ck56 W57 hr58 hS59
   have hS60:sW w U U32 [.obj b2 (.map es55 ck56)] W57:=hS59
   refine zr (zj (zH (rR fL2 Z (oR Z (zq (zh Z fi31 Z) (congrArg (jV) hi40.out)) (oM Z Z (zr ?_))))))
   obtain rfl:=nA hm54
   exact zH ⟨Z,_,Z,⟨U32,es55,ck56,Z,f35,f36,f37,le33,hS60,hr58⟩⟩
 ·rintro y68 σ64 W65 ⟨U71,e69,c70,fi67,f74,f75,f76,le72,hS73,h77⟩ hb66
  have hm78:=wBh hm hX22 hb66
  have c79:Hid (¬ ((↑(((↑p0.length:Int):Int) - 0).toNat:Int) < (↑p0.length:Int))):=zB (wAo)
  refine sR fL1 Z (oR Z (zU Z fi67 f76) (eN (zE (cF Z c79 (ZA (zY (zY (zx (zH (sR fL1 Z (oA Z Z (eN (zK ?_)))))))))))))
  have hE:=nA hm78;first | subst r | cases hE
  exact ⟨rfl,_,(zi rfl),U71,_,(hS73.pick [] _ (by decide) rfl),rfl,rfl⟩
theorem wDB (p0:Int) (w:World) (U:PHeap) (hS:St0 w U [])  {r:Bool} (hm:wBW p0=some r):Gv Tryz.prog 236 [jV p0] w (wCm w [] U (fun U_ L_ v=>v=.bool r/\L_=[])):=by
 unfold wBW at hm
 refine Gv.of Tryz.func236 Z Tryz.ntmps236 Tryz.results236 Z (sR fL1 Z (oA Z Z (eN (sR fL4 Z (oM Z Z (oM Z Z (oR Z (zy Z Z Z) (oA Z Z (eN (zK ?_))))))))))
 cases hm
 exact ⟨Z,_,(zi Z),U,_,hS,Z,Z⟩
theorem wFa (p0:Int) (p1:Int) (w:World) (U:PHeap) (hS:St0 w U [])  {r:Bool} (hm:wBR p0 p1=some r):Gv Tryz.prog 188 [jV p0,jV p1] w (wCm w [] U (fun U_ L_ v=>v=.bool r/\L_=[])):=by
 unfold wBR at hm
 refine Gv.of Tryz.func188 Z Tryz.ntmps188 Tryz.results188 Z (sR fL1 Z (oA Z Z (eN (sR (.fl 0 (.fx 1 (.fl 2 (.fl 3 (.fx 4 (wPa (.nil)) .stop))) .stop)) Z (oM Z Z (bnK hm fun x1 h2 hm3=>zM 0 Z Z Z Z (zN Z Z Tryz.call236 (zD Z zW) Z) hS (fun hs=>wDB p0 w U hs h2) (.inr Z) ?_))))))
 rintro U4 L5 v6 W7 le8 hS9 ⟨rfl,rfl⟩
 have hS10:sW w U U4 [] W7:=hS9
 refine oM Z Z (ifc hm3 ?_ ?_)
 ·intro c11 hm12
  refine zS Z Z Z (zL Z Z (congrArg nB c11.out)) Z Z (bnK hm12 fun x13 h14 hm15=>zM 0 Z Z Z (zL Z Z (congrArg nB c11.out)) (zN Z Z Tryz.call236 (zD Z zW) Z) hS10 (fun hs=>wDB p1 W7 U4 hs h14) (.inr Z) ?_)
  rintro U16 L17 v18 W19 le20 hS21 ⟨rfl,rfl⟩
  have hS22:sW w U U16 [] W19:=hS21
  refine zz Z Z Z (zL Z Z (congrArg nB c11.out)) (fun _=>ZM Z Z) (oR Z (zR Z (congrArg nB c11.out) Z) (oM Z Z (ifc hm15 ?_ ?_)))
  ·intro c23 hm24
   refine zS Z Z Z (zL Z Z (nC c23.out)) Z Z (zS Z Z Z (zL Z Z (nC c23.out)) Z Z (zz Z Z Z (zL Z Z (nC c23.out)) (fun _=>zU Z Z Z) (oR Z (zd Z (nC c23.out) Z) (oA Z Z (eN (zK ?_))))))
   cases hm24
   exact ⟨Z,_,(zi Z),U16,_,hS22,Z,Z⟩
  ·intro c23 hm25
   refine zo Z Z Z (zZ Z Z (nF (c23.out)) Z) (zo Z Z Z (zZ Z Z (nF (c23.out)) Z) (zo Z Z Z (zZ Z Z (nF (c23.out)) Z) (oR Z (zR Z (nF (c23.out)) Z) (oA Z Z (eN (zK ?_))))))
   have hE:=nA hm25;first | subst r | cases hE
   exact ⟨Z,_,(zi Z),U16,_,hS22,Z,Z⟩
 ·intro c11 hm26
  refine zo Z Z Z (zZ Z Z (congrArg nB (nD.2 c11.out)) Z) (ZI Z Z Z (zZ Z Z (congrArg nB (nD.2 c11.out)) Z) (zo Z Z Z (zZ Z Z (congrArg nB (nD.2 c11.out)) Z) (oR Z (zd Z (congrArg nB (nD.2 c11.out)) Z) (oM Z Z (zS Z Z Z (zL Z Z Z) Z Z (zS Z Z Z (zL Z Z Z) Z Z (zz Z Z Z (zL Z Z Z) (fun _=>zU Z Z Z) (oR Z (zd Z Z Z) (oA Z Z (eN (zK ?_)))))))))))
  cases hm26
  exact ⟨Z,_,(zi Z),U4,_,hS10,Z,Z⟩
theorem wCV (p0:List Int) (pA0:Option Addr) (pc0:Nat) (w:World) (U:PHeap) (hS:St0 w U []) (ha0:Sl U 1 pA0 pc0 p0.length (hH KL.encI p0)) {r:Bool} (hm:wAc p0=some r):Gv Tryz.prog 145 [.slice pA0 p0.length pc0] w (wCm w [] U (fun U_ L_ v=>v=.bool r/\L_=[])):=by
 unfold wAc at hm
 refine Gv.of Tryz.func145 Z Tryz.ntmps145 Tryz.results145 Z (sR fL1 Z (oA Z Z (eN (zE (sR fL4 Z (oM Z Z (oR Z (ze Z Z zI) (oR Z (Runs.subw Z Z Z) (oA Z Z (eN (zV (CK.iter (fun x4 σ_ w_=>∃ (U_:PHeap),σ_ 0=.slice pA0 p0.length pc0/\σ_ 3=jV x4/\PHeap.Le U U_/\sW w U U_ [] w_) hm ?_ ?_))))))))))))
 ·exact ⟨U,Z,Z,(zQ _),hS⟩
 ·rintro x4 xx7 σ5 W6 ⟨U12,f15,f16,le13,hS14⟩ hx8 hb9
  refine zE (sR fL2 Z (oM Z f16 (oR Z (Runs.gtr Z Z Z) (eN ?_))))
  by_cases c17:0 < x4
  ·have hm18:=hx8;rw [if_pos c17] at hm18;replace c17:=zB c17
   refine cT Z c17 (kN (zE (zV (zE (ZN ZK [3,3,3,1,3,3,3,3,1,2] (wPX (.fx 9 (.nil) .stop)) (by kernel_rfl) ?_)))))
   have hS19:=hS14.drew
   generalize hw_W20:({ W6 with drawn:=W6.drawn + 1 }:World)=W20 at hS19 ⊢
   refine oM Z f15 (oM Z f16 (bnK hm18 fun x21 h22 hm23=>?_))
   have h24:=ha0.le le13
   have q:=h24.el (fun _=>rfl) (wAL h22)
   obtain ⟨b25,off26,hA27,hC28⟩:=q
   refine oR Z (Runs.iaI Z Z hA27 Z zI zG (wDN h22) (wDo h22)) (oL Z (hS19.ldC (f:=0) hC28 (v:=jV x21) Z Z zO Z) (oM Z f15 (oM Z f16 (oR Z (Runs.subw Z Z Z) (bnK hm23 fun x29 h30 hm31=>?_)))))
   have q:=h24.el (fun _=>rfl) (wAL h30)
   obtain ⟨b32,off33,hA34,hC35⟩:=q
   refine oR Z (Runs.iaI Z Z hA34 Z zI zG (wDN h30) (wDo h30)) (oL Z (hS19.ldC (f:=0) hC35 (v:=jV x29) Z Z zO Z) (bnK hm31 fun x36 h37 hm38=>zM 0 Z Z Z Z (zN Z Z Tryz.call188 (zD Z (zD Z zW)) Z) hS19 (fun hs=>wFa x21 x29 W20 U12 hs h37) (.inr Z) ?_))
   rintro U39 L40 v41 W42 le43 hS44 ⟨rfl,rfl⟩
   have hS45:sW w U U39 [] W42:=hS44
   refine eN (ifc hm38 ?_ ?_)
   ·intro c46 hm47
    refine zp (congrArg nB c46.out) (sR fL1 Z (oA Z Z (eN (zK (zP (zC ?_))))))
    have q:=wAO hm47
    obtain ⟨v48,hm49,e50⟩:=q
    obtain rfl:=hb9 v48 e50
    refine zC (zP (zC ?_))
    have hE:=nA hm49;first | subst r | cases hE
    exact ⟨Z,_,(zi Z),U39,_,hS45,Z,Z⟩
   ·intro c46 hm51
    refine zk (congrArg nB (nD.2 c46.out)) (ZG (zj (zH (rR fL3 Z (oM Z f16 (oR Z (Runs.subw Z Z Z) (oA Z Z (zr ?_))))))))
    obtain rfl:=nA hm51
    exact zH ⟨Z,_,Z,⟨U39,f15,Z,(le13.trans le43),hS45⟩⟩
  ·have hm53:=hx8;rw [if_neg c17] at hm53;replace c17:=zB c17
   refine cF Z c17 (ZA (zY ?_))
   have q:=wAO hm53
   obtain ⟨v54,hm55,e56⟩:=q
   obtain rfl:=hb9 v54 e56
   refine zY (zx (zH (sR fL1 Z (oA Z Z (eN (zK ?_))))))
   have hE:=nA hm55;first | subst r | cases hE
   exact ⟨Z,_,(zi Z),U12,_,hS14,Z,Z⟩
theorem wCa (p0:List wAA) (pA0:Option Addr) (pc0:Nat) (w:World) (U:PHeap) (hS:St0 w U []) (ha0:Sl U 3 pA0 pc0 p0.length (hH wAB p0)) {r:Int} (hm:wAw p0=some r):Gv Tryz.prog 57 [.slice pA0 p0.length pc0] w (wCm w [] U (fun U_ L_ v=>v=jV r/\L_=[])):=by
 unfold wAw at hm
 refine Gv.of Tryz.func57 Z Tryz.ntmps57 Tryz.results57 Z (sR fL1 Z (oA Z Z (eN (sR fL2 Z (oA Z Z (oA Z Z (eN (zE (sR fL3 Z (oM Z Z (oR Z (ze Z Z zA) (oM Z Z (eN (zV ?_))))))))))))))
 have q:=bnd hm
 obtain ⟨⟨y38,y39⟩,hf35,hm34⟩:=q
 try dsimp only at hm34
 have q:=wCd hf35
 obtain ⟨hle36,hf37⟩:=q
 replace hle36:=zB hle36
 refine CK.forN' (fun k33 (l25,l29) σ_ w_=>∃ (U_:PHeap) (A26:Option Addr) (c27:Nat) (A30:Option Addr) (c31:Nat),σ_ 9=jV (↑k33:Int)/\σ_ 0=.slice pA0 p0.length pc0/\σ_ 3=.slice A26 l25.length c27/\σ_ 4=.slice A30 l29.length c31/\σ_ 7=.slice pA0 p0.length pc0/\σ_ 8=jV (↑p0.length:Int)/\PHeap.Le U U_/\sW w U U_ [.row A26 c27 3 1 (hH KL.encI l25),.row A30 c31 3 1 (hH KL.encI l29)] w_) hf37 ?_ ?_ ?_
 ·have hS40:=hS.nilrow 3 1
  have hS42:=hS40.nilrow 3 1
  exact ⟨U,none,0,none,0,rfl,rfl,rfl,rfl,rfl,rfl,(zQ _),(hS42.pick [1,0] _ (by decide) rfl)⟩
 ·rintro k33 ⟨l25,l29⟩ xx46 σ44 W45 hk49 ⟨U51,A26,c27,A30,c31,fi50,f54,f55,f56,f57,f58,le52,hS53⟩ hx47
  try dsimp only at hx47
  have c59:Hid ((↑k33:Int) < (↑p0.length:Int)):=zB (wBP hk49)
  replace hk49:=zB hk49
  have hi60:Hid (w64 ((↑k33:Int) + 1)=(↑(k33 + 1):Int)):=zB (by have h1:=hle36.out;have h2:=c59.out;rw [wAj] <;> omega)
  refine sR fL1 Z (oR Z (zU Z fi50 f58) (eN (zE (cT Z c59 (kN ?_)))))
  have q:=bnd hx47
  obtain ⟨⟨l61,l64⟩,hx68,hm69⟩:=q
  try dsimp only at hm69
  refine CK.cut (fun σ_ w_=>∃ (U_:PHeap) (A62:Option Addr) (c63:Nat) (A65:Option Addr) (c66:Nat),σ_ 0=.slice pA0 p0.length pc0/\σ_ 3=.slice A62 l61.length c63/\σ_ 4=.slice A65 l64.length c66/\σ_ 7=.slice pA0 p0.length pc0/\σ_ 8=jV (↑p0.length:Int)/\σ_ 9=jV (↑k33:Int)/\PHeap.Le U51 U_/\sW w U U_ [.row A62 c63 3 1 (hH KL.encI l61),.row A65 c66 3 1 (hH KL.encI l64)] w_) ?_ ?_
  ·refine zV (sR (.fl 0 (.fl 1 (.fx 2 (.fx 3 (.nil) .stop) .stop))) Z (bnK hx68 fun x70 h71 hm72=>?_))
   have h73:=ha0.le le52
   have q:=h73.el (fun _=>rfl) (wAL h71)
   obtain ⟨b74,off75,hA76,hC77⟩:=q
   refine oR Z (zm Z f57 hA76 fi50 zA zF (wAk h71)) (oL Z (hS53.ldCA (f:=0) hC77 Z Z zn zF (us:=[jV x70.Bib,jV x70.Time,jV x70.Gate]) Z Z) (ZL (cs:=[jV 0,jV 0,jV 0]) Z Z Z Z Z ZE Z hS53 ?_))
   intro W78 b79 hS80
   let B0:List Value:=[jV x70.Bib,jV x70.Time,jV x70.Gate]
   refine OKS.st (j:=0) (vs:=B0) Z Z Z Z hS80 Z Z Z Z zF (zu Z) Z Z Z ?_
   intro W82 hS83
   let B1:Res:=.row A30 c31 3 1 (hH KL.encI l29)
   let B2:Res:=.row A26 c27 3 1 (hH KL.encI l25)
   have hS84:sW w U U51 [.blk b79 105 B0,B2,B1] W82:=hS83
   refine eN (bnK hm72 fun x90 h91 hm111=>bnK hm111 fun x103 h104 hm112=>ZN ZK [3,3,1,2,0,3,3,2,2,0,3,3] (wGa (.fl 5 (.fl 6 (.fx 3 (.fx 4 (.fx 7 (.fx 8 (.fx 9 (.fl 10 (.fl 11 (.nil))) (.stop)) (.stop)) (.stop)) (.fx 7 (.fx 4 (.fx 8 (.fx 9 (.fl 10 (.fl 11 (.nil))) (.stop)) (.stop)) (.fx 8 (.fx 4 (.fx 9 (.fl 10 (.fl 11 (.nil))) (.stop)) (.stop)) (.stop))) (.stop))) (.fx 7 (.fx 3 (.fx 4 (.fx 8 (.fx 9 (.fl 10 (.fl 11 (.nil))) (.stop)) (.stop)) (.fx 8 (.fx 4 (.fx 9 (.fl 10 (.fl 11 (.nil))) (.stop)) (.stop)) (.stop))) (.fx 8 (.fx 3 (.fx 4 (.fx 9 (.fl 10 (.fl 11 (.nil))) (.stop)) (.stop)) (.stop)) (.stop))) (.stop)))))) (by kernel_rfl) ?_)
   have hS113:=hS84.drew
   generalize hw_W114:({ W82 with drawn:=W82.drawn + 1 }:World)=W114 at hS113 ⊢
   refine oM Z f55 (oR Z (zw Z Z zX Z zG) (oL Z (hS113.ldB (j:=0) Z Z Z zO (v:=jV x70.Bib) Z) (oM Z f56 (oR Z (zw Z Z zX Z zG) (OKS.both ?_ ?_)))))
   ·refine ZC (pv:=[(0,jV x70.Bib)]) (zs:=[jV 0]) (cs:=[jV x70.Bib]) Z Z Z Z Z (wBX Z wBo) zI zG ZD Z Z Z Z Z hS113 ?_
    intro W115 b116 hS117
    let B3:Res:=.row (some ⟨b116,0,none⟩) 1 3 1 (hH KL.encI [x70.Bib])
    have hS119:sW w U U51 [B3,.blk b79 105 B0,B2,B1] W115:=hS117
    refine OKS.both ?_ ?_
    ·refine ZB (j:=2) (enc:=KL.encI) (xs:=l25) (ys:=[x70.Bib]) (zs:=x90) rfl rfl rfl rfl rfl zt wDf rfl rfl rfl rfl rfl rfl hS119 rfl rfl rfl (hS119.srcR (j:=0) rfl (by decide) (wAG (f:=KL.encI) (sz:=1) (fun _=>rfl) [x70.Bib])) (fun _=>rfl) (fun _=>rfl) h91 rfl ?_
     intro A120 c121 W122 hS123
     let B4:Res:=.row A120 c121 3 1 (hH KL.encI x90)
     have hS124:sW w U U51 [B3,.blk b79 105 B0,B4,B1] W122:=hS123
     refine OKS.mx2 Z Z Z Z (hS124.ldB (j:=1) Z Z Z zO (v:=jV x70.Time) Z) (ZC (pv:=[(0,jV x70.Time)]) (zs:=[jV 0]) (cs:=[jV x70.Time]) Z Z Z Z Z (wBX Z wBo) zI zG ZD Z Z Z Z Z hS124 ?_)
     intro W125 b126 hS127
     let B5:Res:=.row (some ⟨b126,0,none⟩) 1 3 1 (hH KL.encI [x70.Time])
     have hS129:sW w U U51 [B5,B3,.blk b79 105 B0,B4,B1] W125:=hS127
     refine ZB (j:=4) (enc:=KL.encI) (xs:=l29) (ys:=[x70.Time]) (zs:=x103) rfl rfl rfl rfl rfl zt wDf rfl rfl rfl rfl rfl rfl hS129 rfl rfl rfl (hS129.srcR (j:=0) rfl (by decide) (wAG (f:=KL.encI) (sz:=1) (fun _=>rfl) [x70.Time])) (fun _=>rfl) (fun _=>rfl) h104 rfl ?_
     intro A130 c131 W132 hS133
     have hS134:sW w U U51 [B5,B3,.blk b79 105 B0,B4,.row A130 c131 3 1 (hH KL.encI x103)] W132:=hS133
     refine oA Z Z (oA Z Z (zr (zj ?_)))
     cases hm112
     exact zH ⟨rfl,⟨U51,A120,c121,A130,c131,f54,rfl,rfl,f57,f58,fi50,(zQ _),(hS134.pick [3,4] _ (by decide) rfl)⟩⟩
    ·refine OKS.mx2 Z Z Z Z (hS119.ldB (j:=1) Z Z Z zO (v:=jV x70.Time) Z) (OKS.both ?_ ?_)
     ·refine ZB (j:=2) (enc:=KL.encI) (xs:=l25) (ys:=[x70.Bib]) (zs:=x90) rfl rfl rfl rfl rfl zt wDf rfl rfl rfl rfl rfl rfl hS119 rfl rfl rfl (hS119.srcR (j:=0) rfl (by decide) (wAG (f:=KL.encI) (sz:=1) (fun _=>rfl) [x70.Bib])) (fun _=>rfl) (fun _=>rfl) h91 rfl ?_
      intro A141 c142 W143 hS144
      let B6:Res:=.row A141 c142 3 1 (hH KL.encI x90)
      have hS145:sW w U U51 [B3,.blk b79 105 B0,B6,B1] W143:=hS144
      refine ZC (pv:=[(0,jV x70.Time)]) (zs:=[jV 0]) (cs:=[jV x70.Time]) Z Z Z Z Z (wBX Z wBo) zI zG ZD Z Z Z Z Z hS145 ?_
      intro W146 b147 hS148
      let B7:Res:=.row (some ⟨b147,0,none⟩) 1 3 1 (hH KL.encI [x70.Time])
      have hS150:sW w U U51 [B7,B3,.blk b79 105 B0,B6,B1] W146:=hS148
      refine ZB (j:=4) (enc:=KL.encI) (xs:=l29) (ys:=[x70.Time]) (zs:=x103) rfl rfl rfl rfl rfl zt wDf rfl rfl rfl rfl rfl rfl hS150 rfl rfl rfl (hS150.srcR (j:=0) rfl (by decide) (wAG (f:=KL.encI) (sz:=1) (fun _=>rfl) [x70.Time])) (fun _=>rfl) (fun _=>rfl) h104 rfl ?_
      intro A151 c152 W153 hS154
      have hS155:sW w U U51 [B7,B3,.blk b79 105 B0,B6,.row A151 c152 3 1 (hH KL.encI x103)] W153:=hS154
      refine oA Z Z (oA Z Z (zr (zj ?_)))
      cases hm112
      exact zH ⟨rfl,⟨U51,A141,c142,A151,c152,f54,rfl,rfl,f57,f58,fi50,(zQ _),(hS155.pick [3,4] _ (by decide) rfl)⟩⟩
     ·refine ZC (pv:=[(0,jV x70.Time)]) (zs:=[jV 0]) (cs:=[jV x70.Time]) Z Z Z Z Z (wBX Z wBo) zI zG ZD Z Z Z Z Z hS119 ?_
      intro W162 b163 hS164
      let B8:Res:=.row (some ⟨b163,0,none⟩) 1 3 1 (hH KL.encI [x70.Time])
      have hS166:sW w U U51 [B8,B3,.blk b79 105 B0,B2,B1] W162:=hS164
      refine ZB (j:=3) (enc:=KL.encI) (xs:=l25) (ys:=[x70.Bib]) (zs:=x90) rfl rfl rfl rfl rfl zt wDf rfl rfl rfl rfl rfl rfl hS166 rfl rfl rfl (hS166.srcR (j:=1) rfl (by decide) (wAG (f:=KL.encI) (sz:=1) (fun _=>rfl) [x70.Bib])) (fun _=>rfl) (fun _=>rfl) h91 rfl ?_
      intro A167 c168 W169 hS170
      let B9:Res:=.row A167 c168 3 1 (hH KL.encI x90)
      have hS171:sW w U U51 [B8,B3,.blk b79 105 B0,B9,B1] W169:=hS170
      refine ZB (j:=4) (enc:=KL.encI) (xs:=l29) (ys:=[x70.Time]) (zs:=x103) rfl rfl rfl rfl rfl zt wDf rfl rfl rfl rfl rfl rfl hS171 rfl rfl rfl (hS171.srcR (j:=0) rfl (by decide) (wAG (f:=KL.encI) (sz:=1) (fun _=>rfl) [x70.Time])) (fun _=>rfl) (fun _=>rfl) h104 rfl ?_
      intro A172 c173 W174 hS175
      have hS176:sW w U U51 [B8,B3,.blk b79 105 B0,B9,.row A172 c173 3 1 (hH KL.encI x103)] W174:=hS175
      refine oA Z Z (oA Z Z (zr (zj ?_)))
      cases hm112
      exact zH ⟨rfl,⟨U51,A167,c168,A172,c173,f54,rfl,rfl,f57,f58,fi50,(zQ _),(hS176.pick [3,4] _ (by decide) rfl)⟩⟩
   ·refine OKS.mx2 Z Z Z Z (hS113.ldB (j:=0) Z Z Z zO (v:=jV x70.Time) Z) (OKS.both ?_ ?_)
    ·refine ZC (pv:=[(0,jV x70.Bib)]) (zs:=[jV 0]) (cs:=[jV x70.Bib]) Z Z Z Z Z (wBX Z wBo) zI zG ZD Z Z Z Z Z hS113 ?_
     intro W183 b184 hS185
     let B10:Res:=.row (some ⟨b184,0,none⟩) 1 3 1 (hH KL.encI [x70.Bib])
     have hS187:sW w U U51 [B10,.blk b79 105 B0,B2,B1] W183:=hS185
     refine OKS.both ?_ ?_
     ·refine ZB (j:=2) (enc:=KL.encI) (xs:=l25) (ys:=[x70.Bib]) (zs:=x90) rfl rfl rfl rfl rfl zt wDf rfl rfl rfl rfl rfl rfl hS187 rfl rfl rfl (hS187.srcR (j:=0) rfl (by decide) (wAG (f:=KL.encI) (sz:=1) (fun _=>rfl) [x70.Bib])) (fun _=>rfl) (fun _=>rfl) h91 rfl ?_
      intro A188 c189 W190 hS191
      let B11:Res:=.row A188 c189 3 1 (hH KL.encI x90)
      have hS192:sW w U U51 [B10,.blk b79 105 B0,B11,B1] W190:=hS191
      refine ZC (pv:=[(0,jV x70.Time)]) (zs:=[jV 0]) (cs:=[jV x70.Time]) Z Z Z Z Z (wBX Z wBo) zI zG ZD Z Z Z Z Z hS192 ?_
      intro W193 b194 hS195
      let B12:Res:=.row (some ⟨b194,0,none⟩) 1 3 1 (hH KL.encI [x70.Time])
      have hS197:sW w U U51 [B12,B10,.blk b79 105 B0,B11,B1] W193:=hS195
      refine ZB (j:=4) (enc:=KL.encI) (xs:=l29) (ys:=[x70.Time]) (zs:=x103) rfl rfl rfl rfl rfl zt wDf rfl rfl rfl rfl rfl rfl hS197 rfl rfl rfl (hS197.srcR (j:=0) rfl (by decide) (wAG (f:=KL.encI) (sz:=1) (fun _=>rfl) [x70.Time])) (fun _=>rfl) (fun _=>rfl) h104 rfl ?_
      intro A198 c199 W200 hS201
      have hS202:sW w U U51 [B12,B10,.blk b79 105 B0,B11,.row A198 c199 3 1 (hH KL.encI x103)] W200:=hS201
      refine oA Z Z (oA Z Z (zr (zj ?_)))
      cases hm112
      exact zH ⟨rfl,⟨U51,A188,c189,A198,c199,f54,rfl,rfl,f57,f58,fi50,(zQ _),(hS202.pick [3,4] _ (by decide) rfl)⟩⟩
     ·refine ZC (pv:=[(0,jV x70.Time)]) (zs:=[jV 0]) (cs:=[jV x70.Time]) Z Z Z Z Z (wBX Z wBo) zI zG ZD Z Z Z Z Z hS187 ?_
      intro W209 b210 hS211
      let B13:Res:=.row (some ⟨b210,0,none⟩) 1 3 1 (hH KL.encI [x70.Time])
      have hS213:sW w U U51 [B13,B10,.blk b79 105 B0,B2,B1] W209:=hS211
      refine ZB (j:=3) (enc:=KL.encI) (xs:=l25) (ys:=[x70.Bib]) (zs:=x90) rfl rfl rfl rfl rfl zt wDf rfl rfl rfl rfl rfl rfl hS213 rfl rfl rfl (hS213.srcR (j:=1) rfl (by decide) (wAG (f:=KL.encI) (sz:=1) (fun _=>rfl) [x70.Bib])) (fun _=>rfl) (fun _=>rfl) h91 rfl ?_
      intro A214 c215 W216 hS217
      let B14:Res:=.row A214 c215 3 1 (hH KL.encI x90)
      have hS218:sW w U U51 [B13,B10,.blk b79 105 B0,B14,B1] W216:=hS217
      refine ZB (j:=4) (enc:=KL.encI) (xs:=l29) (ys:=[x70.Time]) (zs:=x103) rfl rfl rfl rfl rfl zt wDf rfl rfl rfl rfl rfl rfl hS218 rfl rfl rfl (hS218.srcR (j:=0) rfl (by decide) (wAG (f:=KL.encI) (sz:=1) (fun _=>rfl) [x70.Time])) (fun _=>rfl) (fun _=>rfl) h104 rfl ?_
      intro A219 c220 W221 hS222
      have hS223:sW w U U51 [B13,B10,.blk b79 105 B0,B14,.row A219 c220 3 1 (hH KL.encI x103)] W221:=hS222
      refine oA Z Z (oA Z Z (zr (zj ?_)))
      cases hm112
      exact zH ⟨rfl,⟨U51,A214,c215,A219,c220,f54,rfl,rfl,f57,f58,fi50,(zQ _),(hS223.pick [3,4] _ (by decide) rfl)⟩⟩
    ·refine ZC (pv:=[(0,jV x70.Time)]) (zs:=[jV 0]) (cs:=[jV x70.Time]) Z Z Z Z Z (wBX Z wBo) zI zG ZD Z Z Z Z Z hS113 ?_
     intro W230 b231 hS232
     let B15:Res:=.row (some ⟨b231,0,none⟩) 1 3 1 (hH KL.encI [x70.Time])
     have hS234:sW w U U51 [B15,.blk b79 105 B0,B2,B1] W230:=hS232
     refine ZC (pv:=[(0,jV x70.Bib)]) (zs:=[jV 0]) (cs:=[jV x70.Bib]) Z Z Z Z Z (wBX Z wBo) zI zG ZD Z Z Z Z Z hS234 ?_
     intro W235 b236 hS237
     let B16:Res:=.row (some ⟨b236,0,none⟩) 1 3 1 (hH KL.encI [x70.Bib])
     have hS239:sW w U U51 [B16,B15,.blk b79 105 B0,B2,B1] W235:=hS237
     refine ZB (j:=3) (enc:=KL.encI) (xs:=l25) (ys:=[x70.Bib]) (zs:=x90) rfl rfl rfl rfl rfl zt wDf rfl rfl rfl rfl rfl rfl hS239 rfl rfl rfl (hS239.srcR (j:=0) rfl (by decide) (wAG (f:=KL.encI) (sz:=1) (fun _=>rfl) [x70.Bib])) (fun _=>rfl) (fun _=>rfl) h91 rfl ?_
     intro A240 c241 W242 hS243
     let B17:Res:=.row A240 c241 3 1 (hH KL.encI x90)
     have hS244:sW w U U51 [B16,B15,.blk b79 105 B0,B17,B1] W242:=hS243
     refine ZB (j:=4) (enc:=KL.encI) (xs:=l29) (ys:=[x70.Time]) (zs:=x103) rfl rfl rfl rfl rfl zt wDf rfl rfl rfl rfl rfl rfl hS244 rfl rfl rfl (hS244.srcR (j:=1) rfl (by decide) (wAG (f:=KL.encI) (sz:=1) (fun _=>rfl) [x70.Time])) (fun _=>rfl) (fun _=>rfl) h104 rfl ?_
     intro A245 c246 W247 hS248
     have hS249:sW w U U51 [B16,B15,.blk b79 105 B0,B17,.row A245 c246 3 1 (hH KL.encI x103)] W247:=hS248
     refine oA Z Z (oA Z Z (zr (zj ?_)))
     cases hm112
     exact zH ⟨rfl,⟨U51,A240,c241,A245,c246,f54,rfl,rfl,f57,f58,fi50,(zQ _),(hS249.pick [3,4] _ (by decide) rfl)⟩⟩
  ·rintro σ256 W257 ⟨U258,A62,c63,A65,c66,f261,f262,f263,f264,f265,f266,le259,hS260⟩
   refine rR fL2 Z (oR Z (zq (zh Z f266 Z) (congrArg (jV) hi60.out)) (oM Z Z (zr ?_)))
   cases hm69
   exact zH ⟨Z,⟨U258,A62,c63,A65,c66,Z,f261,f262,f263,f264,f265,(le52.trans le259),hS260⟩⟩
 ·rintro σ273 W274 ⟨U287,A283,c284,A285,c286,fi276,f290,f291,f292,f293,f294,le288,hS289⟩
  have c295:Hid (¬ ((↑(((↑p0.length:Int):Int) - 0).toNat:Int) < (↑p0.length:Int))):=zB (wAo)
  refine sR fL1 Z (oR Z (zU Z fi276 f294) (eN (zE (cF Z c295 (ZA (zY (zY (zx (zH (zE (zV (sR fL4 Z (oM Z f290 (oR Z (ze Z Z zA) (oR Z (Runs.gtr Z Z Z) (oA Z Z (eN (ifc hm34 ?_ ?_))))))))))))))))))
  ·intro c296 hm297
   refine cT Z c296 (sR fL1 Z (oA Z Z (eN (zK (zP (zC ?_))))))
   cases hm297
   exact ⟨rfl,_,(zi rfl),U287,_,(hS289.pick [] _ (by decide) rfl),rfl,rfl⟩
  ·intro c296 hm298
   refine cF Z c296 (sR (.fl 0 (.fx 1 (.fl 2 (.fl 3 (.nil))) .stop)) Z (oM Z f290 ?_))
   have h299:=ha0.le le288
   have hF300:FnOK Tryz.prog U287 (.func (.func 143) #[] #[]) wJA wJB wAd:=⟨143,[],[],rfl,Tryz.call143,fun U1 w1 x y vs le hs ha hm=>by obtain rfl:=ha;exact wDg x w1 U1 hs  hm⟩
   refine bnK hm298 fun x301 h302 hm303=>zM 0 Z Z Z Z (zN Z Z Tryz.call140 (zD Z (zD Z zW)) Z) hS289 (fun hs=>wBk p0 pA0 pc0 wAd (.func (.func 143) #[] #[]) W274 U287 hs h299 hF300 h302) (.inr Z) ?_
   rintro U304 L305 v306 W307 le308 hS309 ⟨rfl,rfl⟩
   let B18:Res:=.row A285 c286 3 1 (hH KL.encI y39)
   have hS310:sW w U U304 [.row A283 c284 3 1 (hH KL.encI y38),B18] W307:=hS309
   refine oR Z (ZM Z Z) (oA Z Z (eN (ifc hm303 ?_ ?_)))
   ·intro c311 hm312
    refine zk (nC c311.out) (sR (.fl 0 (.fx 1 (.fl 2 (.nil)) .stop)) Z (oM Z f291 ?_))
    have q:=hS310.freezeR (k:=0) (n:=y38.length) rfl (wAG (f:=KL.encI) (sz:=1) (fun _=>rfl) y38) (by decide)
    obtain ⟨U313,le314,hs315,hS316⟩:=q
    have hS317:sW w U U313 [B18] W307:=hS316
    refine bnK hm312 fun x318 h319 hm320=>zM 0 Z Z Z Z (zN Z Z Tryz.call144 (zD Z zW) Z) hS317 (fun hs=>wGO y38 A283 c284 W307 U313 hs hs315 h319) (.inr Z) ?_
    rintro U321 L322 v323 W324 le325 hS326 ⟨rfl,rfl⟩
    have hS327:sW w U U321 [B18] W324:=hS326
    refine oA Z Z (eN (ifc hm320 ?_ ?_))
    ·intro c328 hm329
     refine zp (congrArg nB c328.out) (sR fL1 Z (oA Z Z (eN (zK (zP (zC ?_))))))
     cases hm329
     exact ⟨rfl,_,(zi rfl),U321,_,(hS327.pick [] _ (by decide) rfl),rfl,rfl⟩
    ·intro c328 hm330
     refine zk (congrArg nB (nD.2 c328.out)) (sR (.fl 0 (.fx 1 (.fl 2 (.fl 3 (.nil))) .stop)) Z (oM Z f292 ?_))
     have q:=hS327.freezeR (k:=0) (n:=y39.length) rfl (wAG (f:=KL.encI) (sz:=1) (fun _=>rfl) y39) (by decide)
     obtain ⟨U331,le332,hs333,hS334⟩:=q
     have hS335:sW w U U331 [] W324:=hS334
     refine bnK hm330 fun x336 h337 hm338=>zM 0 Z Z Z Z (zN Z Z Tryz.call145 (zD Z zW) Z) hS335 (fun hs=>wCV y39 A285 c286 W324 U331 hs hs333 h337) (.inr Z) ?_
     rintro U339 L340 v341 W342 le343 hS344 ⟨rfl,rfl⟩
     have hS345:sW w U U339 [] W342:=hS344
     refine oR Z (ZM Z Z) (oA Z Z (eN (ifc hm338 ?_ ?_)))
     ·intro c346 hm347
      refine zk (nC c346.out) (ZG (zj (zH (sR fL1 Z (oA Z Z (eN (zK ?_)))))))
      cases hm347
      exact ⟨Z,_,(zi Z),U339,_,hS345,Z,Z⟩
     ·intro c346 hm348
      refine zp (nF (c346.out)) (sR fL1 Z (oA Z Z (eN (zK (zP (zC ?_))))))
      cases hm348
      exact ⟨Z,_,(zi Z),U339,_,hS345,Z,Z⟩
   ·intro c311 hm349
    refine zp (nF (c311.out)) (sR fL1 Z (oA Z Z (eN (zK (zP (zC ?_))))))
    cases hm349
    exact ⟨rfl,_,(zi rfl),U304,_,(hS310.pick [] _ (by decide) rfl),rfl,rfl⟩
end Go.Proofs.YthbficbpebiekaaGreat
namespace Go.Proofs.YthbficbpebiekaaGreat
open Go.KL
set_option maxHeartbeats 4000000
theorem wBV (p0:Int) (p1:Int) (p2:Int) (w:World) (U:PHeap) (hS:St0 w U [])  {r:Bool} (hm:wAa p0 p1 p2=some r):Gv Tryz.prog 146 [jV p0,jV p1,jV p2] w (wCm w [] U (fun U_ L_ v=>v=.bool r/\L_=[])):=by
 unfold wAa at hm
 refine Gv.of Tryz.func146 Z Tryz.ntmps146 Tryz.results146 Z (sR fL1 Z (oA Z Z (eN (sR fL9 Z (oM Z Z (oM Z Z (oR Z (zU Z Z Z) (oM Z Z ?_))))))))
 by_cases c1:p0 < p1
 ·have hm2:=hm;rw [if_pos c1] at hm2;replace c1:=zB c1
  refine oT Z c1 (oT Z c1 (oT Z c1 (oR Z (zR Z (wDl c1.out) Z) (oA Z Z (eN (zK ?_))))))
  have hE:=nA hm2;first | subst r | cases hE
  exact ⟨Z,_,(zi Z),U,_,hS,Z,Z⟩
 ·have hm3:=hm;rw [if_neg c1] at hm3;replace c1:=zB c1
  refine zS Z Z Z (wF Z c1) Z Z (zS Z Z Z (wF Z c1) Z Z (rU Z (wF Z c1) (Runs.gtr Z Z Z) (oR Z (zd Z (zf c1.out) Z) (oA Z Z (eN (zK ?_))))))
  cases hm3
  exact ⟨Z,_,(zi Z),U,_,hS,Z,Z⟩
theorem wBg (p0:List wAC) (pA0:Option Addr) (pc0:Nat) (w:World) (U:PHeap) (hS:St0 w U []) (ha0:Sl U 3 pA0 pc0 p0.length (hH wAE p0)) {r:Int} (hm:wAV p0=some r):Gv Tryz.prog 58 [.slice pA0 p0.length pc0] w (wCm w [] U (fun U_ L_ v=>v=jV r/\L_=[])):=by
 unfold wAV at hm
 refine Gv.of Tryz.func58 Z Tryz.ntmps58 Tryz.results58 Z (sR fL1 Z (oA Z Z (eN (zE (sR fL3 Z (oM Z Z (oR Z (ze Z Z zJ) (oR Z (Runs.gtr Z Z Z) (eN ?_)))))))))
 by_cases c1:60 < (↑p0.length:Int)
 ·have hm2:=hm;rw [if_pos c1] at hm2;replace c1:=zB c1
  refine cT Z c1 (sR fL1 Z (oA Z Z (eN (zK (zC ?_)))))
  cases hm2
  exact ⟨Z,_,(zi Z),U,_,hS,Z,Z⟩
 ·have hm3:=hm;rw [if_neg c1] at hm3;replace c1:=zB c1
  refine cF Z c1 (kN (zE (sR fL1 Z (oA Z Z (eN (zV ?_))))))
  have q:=wBJ hm3
  obtain ⟨r6,hX7⟩:=q
  have q:=wBI hX7
  obtain ⟨hle8,hf9⟩:=q
  replace hle8:=zB hle8
  refine ZH (fun k5 _ σ_ w_=>∃ (U_:PHeap),σ_ 3=jV (↑k5:Int)/\σ_ 0=.slice pA0 p0.length pc0/\PHeap.Le U U_/\sW w U U_ [] w_) hf9 ?_ ?_ ?_
  ·exact ⟨U,Z,Z,(zQ _),hS⟩
  ·rintro k5 ⟨⟩ xx12 σ10 W11 hk15 ⟨U17,fi16,f20,le18,hS19⟩ hx13 hb14
   try dsimp only at hx13
   have c21:Hid ((↑k5:Int) < (↑p0.length:Int)):=zB (wBP hk15)
   replace hk15:=zB hk15
   have hi22:Hid (w64 ((↑k5:Int) + 1)=(↑(k5 + 1):Int)):=zB (by have h1:=hle8.out;have h2:=c21.out;rw [wAj] <;> omega)
   refine zE (sR fL4 Z (oM Z fi16 (oM Z f20 (oR Z (ze Z Z zJ) (oR Z (zU Z Z Z) (eN (cT Z c21 (kN (zE (zV (sR (wLb (.fx 5 (wPb (.fx 12 (wOJ (.fx 20 (.fl 21 (.nil)) .stop)) .stop)) .stop)) Z (oM Z f20 (oM Z fi16 (bnK hx13 fun x23 h24 hm25=>?_))))))))))))))
   have h26:=ha0.le le18
   have q:=h26.el (fun _=>rfl) (wAL h24)
   obtain ⟨b27,off28,hA29,hC30⟩:=q
   refine oR Z (zm Z Z hA29 Z zJ zg (wAk h24)) (oR Z (zw Z Z zl Z zG) (oL Z (hS19.ldC (f:=0) hC30 (v:=jV x23.Bib) Z Z zO Z) (bnK hm25 fun x31 h32 hm33=>zM 0 Z Z Z Z (zN Z Z Tryz.call146 (zD Z (zD Z (zD Z zW))) Z) hS19 (fun hs=>wBV x23.Bib 1 999 W11 U17 hs h32) (.inr Z) ?_)))
   rintro U34 L35 v36 W37 le38 hS39 ⟨rfl,rfl⟩
   have hS40:sW w U U34 [] W37:=hS39
   refine oM Z Z (ifc hm33 ?_ ?_)
   ·intro c41 hm42
    refine zo Z Z Z (zZ Z Z (congrArg nB c41.out) Z) (zo Z Z Z (zZ Z Z (congrArg nB c41.out) Z) (zo Z Z Z (zZ Z Z (congrArg nB c41.out) Z) (zo Z Z Z (zZ Z Z (congrArg nB c41.out) Z) (zo Z Z Z (zZ Z Z (congrArg nB c41.out) Z) (ZI Z Z Z (zZ Z Z (congrArg nB c41.out) Z) (oR Z (zR Z (congrArg nB c41.out) Z) (oM Z Z (oN Z (oN Z (oN Z (oN Z (oN Z (ZI Z Z Z (zZ Z Z Z Z) (oR Z (zR Z Z Z) (eN (zp Z (sR fL1 Z (oA Z Z (eN (zK (zP (zC ?_))))))))))))))))))))))
    have q:=wAO hm42
    obtain ⟨v43,hm44,e45⟩:=q
    obtain rfl:=wAz hm3 hX7 (hb14 v43 e45)
    refine zC (zP (zC ?_))
    cases hm44
    exact ⟨Z,_,(zi Z),U34,_,hS40,Z,Z⟩
   ·intro c41 hm46
    refine zS Z Z Z (zL Z Z (congrArg nB (nD.2 c41.out))) Z f20 (zS Z Z Z (zL Z Z (congrArg nB (nD.2 c41.out))) Z fi16 ?_)
    have h47:=h26.le le38
    have q:=h47.el (fun _=>rfl) (wAL h24)
    obtain ⟨b48,off49,hA50,hC51⟩:=q
    refine zz Z Z Z (zL Z Z (congrArg nB (nD.2 c41.out))) (fun _=>zm Z Z hA50 Z zJ zg (wAk h24)) (zz Z Z Z (zL Z Z (congrArg nB (nD.2 c41.out))) (fun _=>zw Z Z zl Z zG) (ZJ Z Z Z (zL Z Z (congrArg nB (nD.2 c41.out))) (hS40.ldC (f:=1) hC51 (v:=jV x23.Time) Z Z zO Z) Z (bnK hm46 fun x52 h53 hm54=>zM 0 Z Z Z (zL Z Z (congrArg nB (nD.2 c41.out))) (zN Z Z Tryz.call146 (zD Z (zD Z (zD Z zW))) Z) hS40 (fun hs=>wBV x23.Time 0 360000 W37 U34 hs h53) (.inr Z) ?_)))
    rintro U55 L56 v57 W58 le59 hS60 ⟨rfl,rfl⟩
    have hS61:sW w U U55 [] W58:=hS60
    refine oR Z (zd Z (congrArg nB (nD.2 c41.out)) Z) (oM Z Z (ifc hm54 ?_ ?_))
    ·intro c62 hm63
     refine zo Z Z Z (zZ Z Z (congrArg nB c62.out) Z) (zo Z Z Z (zZ Z Z (congrArg nB c62.out) Z) (zo Z Z Z (zZ Z Z (congrArg nB c62.out) Z) (zo Z Z Z (zZ Z Z (congrArg nB c62.out) Z) (zo Z Z Z (zZ Z Z (congrArg nB c62.out) Z) (ZI Z Z Z (zZ Z Z (congrArg nB c62.out) Z) (oR Z (zR Z (congrArg nB c62.out) Z) (eN (zp Z (sR fL1 Z (oA Z Z (eN (zK (zP (zC ?_))))))))))))))
     have q:=wAO hm63
     obtain ⟨v64,hm65,e66⟩:=q
     obtain rfl:=wAz hm3 hX7 (hb14 v64 e66)
     refine zC (zP (zC ?_))
     cases hm65
     exact ⟨Z,_,(zi Z),U55,_,hS61,Z,Z⟩
    ·intro c62 hm67
     refine zS Z Z Z (zL Z Z (congrArg nB (nD.2 c62.out))) Z f20 (zS Z Z Z (zL Z Z (congrArg nB (nD.2 c62.out))) Z fi16 ?_)
     have h68:=h47.le le59
     have q:=h68.el (fun _=>rfl) (wAL h24)
     obtain ⟨b69,off70,hA71,hC72⟩:=q
     refine zz Z Z Z (zL Z Z (congrArg nB (nD.2 c62.out))) (fun _=>zm Z Z hA71 Z zJ zg (wAk h24)) (zz Z Z Z (zL Z Z (congrArg nB (nD.2 c62.out))) (fun _=>zw Z Z zl Z zG) (ZJ Z Z Z (zL Z Z (congrArg nB (nD.2 c62.out))) (hS61.ldC (f:=2) hC72 (v:=jV x23.Gate) Z Z zO Z) Z (bnK hm67 fun x73 h74 hm75=>zM 0 Z Z Z (zL Z Z (congrArg nB (nD.2 c62.out))) (zN Z Z Tryz.call146 (zD Z (zD Z (zD Z zW))) Z) hS61 (fun hs=>wBV x23.Gate 0 60 W58 U55 hs h74) (.inr Z) ?_)))
     rintro U76 L77 v78 W79 le80 hS81 ⟨rfl,rfl⟩
     have hS82:sW w U U76 [] W79:=hS81
     refine oR Z (zd Z (congrArg nB (nD.2 c62.out)) Z) (eN (ifc hm75 ?_ ?_))
     ·intro c83 hm84
      refine zp (congrArg nB c83.out) (sR fL1 Z (oA Z Z (eN (zK (zP (zC ?_))))))
      have q:=wAO hm84
      obtain ⟨v85,hm86,e87⟩:=q
      obtain rfl:=wAz hm3 hX7 (hb14 v85 e87)
      refine zC (zP (zC ?_))
      cases hm86
      exact ⟨Z,_,(zi Z),U76,_,hS82,Z,Z⟩
     ·intro c83 hm88
      refine zk (congrArg nB (nD.2 c83.out)) (ZG (zj (zH (rR fL3 Z (oM Z fi16 (oR Z (zq (zh Z Z Z) (congrArg (jV) hi22.out)) (oA Z Z (zr ?_))))))))
      obtain rfl:=nA hm88
      exact zH ⟨Z,_,Z,⟨U76,Z,f20,(((le18.trans le38).trans le59).trans le80),hS82⟩⟩
  ·rintro ⟨⟩ σ89 W90 ⟨U93,fi92,f96,le94,hS95⟩ hb91
   have hm97:=wBh hm3 hX7 hb91
   try dsimp only at hm97
   have c98:Hid (¬ ((↑(((↑p0.length:Int):Int) - 0).toNat:Int) < (↑p0.length:Int))):=zB (wAo)
   refine zE (sR fL4 Z (oM Z fi92 (oM Z f96 (oR Z (ze Z Z zJ) (oR Z (zU Z Z Z) (eN (cF Z c98 (ZA (zY (zY (zx (zH (zE (sR fL1 Z (oA Z Z (eN (zV ?_)))))))))))))))))
   have q:=wBJ hm97
   obtain ⟨r101,hX102⟩:=q
   have q:=wBI hX102
   obtain ⟨hle103,hf104⟩:=q
   replace hle103:=zB hle103
   refine ZH (fun k100 _ σ_ w_=>∃ (U_:PHeap),σ_ 4=jV (↑k100:Int)/\σ_ 0=.slice pA0 p0.length pc0/\PHeap.Le U93 U_/\sW w U U_ [] w_) hf104 ?_ ?_ ?_
   ·exact ⟨U93,Z,f96,(zQ _),hS95⟩
   ·rintro k100 ⟨⟩ xx107 σ105 W106 hk110 ⟨U112,fi111,f115,le113,hS114⟩ hx108 hb109
    try dsimp only at hx108
    have c116:Hid ((↑k100:Int) < (↑p0.length:Int)):=zB (wBP hk110)
    replace hk110:=zB hk110
    have hi117:Hid (w64 ((↑k100:Int) + 1)=(↑(k100 + 1):Int)):=zB (by have h1:=hle103.out;have h2:=c116.out;rw [wAj] <;> omega)
    refine zE (sR fL4 Z (oM Z fi111 (oM Z f115 (oR Z (ze Z Z zJ) (oR Z (zU Z Z Z) (eN (cT Z c116 (kN (zE (zV (sR fL1 Z (oA Z Z (eN (zV ?_))))))))))))))
    have q:=wBJ hx108
    obtain ⟨r120,hX121⟩:=q
    have q:=wBI hX121
    obtain ⟨hle122,hf123⟩:=q
    replace hle122:=zB hle122
    refine ZH (fun k119 _ σ_ w_=>∃ (U_:PHeap),σ_ 5=jV (↑k119:Int)/\σ_ 0=.slice pA0 p0.length pc0/\σ_ 4=jV (↑k100:Int)/\PHeap.Le U112 U_/\sW w U U_ [] w_) hf123 ?_ ?_ ?_
    ·exact ⟨U112,Z,f115,fi111,(zQ _),hS114⟩
    ·rintro k119 ⟨⟩ xx126 σ124 W125 hk129 ⟨U131,fi130,f134,f135,le132,hS133⟩ hx127 hb128
     try dsimp only at hx127
     have c136:Hid ((↑k119:Int) < (↑k100:Int)):=zB (wBP hk129)
     replace hk129:=zB hk129
     have hi137:Hid (w64 ((↑k119:Int) + 1)=(↑(k119 + 1):Int)):=zB (by have h1:=hle122.out;have h2:=c136.out;rw [wAj] <;> omega)
     refine zE (sR fL3 rfl (zS rfl rfl rfl rfl rfl fi130 (zS rfl rfl rfl rfl rfl f135 (zz rfl rfl rfl rfl (fun _=>zU rfl rfl rfl) (eN (cT Z c136 (kN (zE (zV (zE (ZN ZK [3,3,3,3,1,3,3,3,3,1,3] fL11 (by kernel_rfl) ?_)))))))))))
     have hS138:=hS133.drew
     generalize hw_W139:({ W125 with drawn:=W125.drawn + 1 }:World)=W139 at hS138 ⊢
     refine oM Z f134 (oM Z f135 (bnK hx127 fun x140 h141 hm142=>?_))
     have h143:=ha0.le le94
     have h144:=h143.le le113
     have h145:=h144.le le132
     have q:=h145.el (fun _=>rfl) (wAL h141)
     obtain ⟨b146,off147,hA148,hC149⟩:=q
     refine oR Z (zm Z Z hA148 Z zJ zg (wAk h141)) (oR Z (zw Z Z zl Z zG) (oL Z (hS138.ldC (f:=0) hC149 (v:=jV x140.Bib) Z Z zO Z) (oM Z f134 (oM Z fi130 (bnK hm142 fun x150 h151 hm152=>?_)))))
     have q:=h145.el (fun _=>rfl) (wAL h151)
     obtain ⟨b153,off154,hA155,hC156⟩:=q
     refine oR Z (zm Z Z hA155 Z zJ zg (wAk h151)) (oR Z (zw Z Z zl Z zG) (oL Z (hS138.ldC (f:=0) hC156 (v:=jV x150.Bib) Z Z zO Z) (oR Z (Runs.eql Z Z Z) (eN (ifc hm152 ?_ ?_)))))
     ·intro c157 hm158
      refine cT Z c157 (sR fL1 Z (oA Z Z (eN (zK (zP (zC ?_))))))
      have q:=wAO hm158
      obtain ⟨v159,hm160,e161⟩:=q
      obtain rfl:=wAz hx108 hX121 (hb128 v159 e161)
      refine zC (zP (zP (zC ?_)))
      have q:=wAO hm160
      obtain ⟨v162,hm163,e164⟩:=q
      obtain rfl:=wAz hm97 hX102 (hb109 v162 e164)
      refine zC (zP (zC ?_))
      cases hm163
      exact ⟨Z,_,(zi Z),U131,_,hS138,Z,Z⟩
     ·intro c157 hm165
      refine cF Z c157 (ZG (zj (zH (rR fL3 Z (oM Z fi130 (oR Z (zq (zh Z Z Z) (congrArg (jV) hi137.out)) (oA Z Z (zr ?_))))))))
      obtain rfl:=nA hm165
      exact zH ⟨Z,_,Z,⟨U131,Z,f134,f135,le132,hS138⟩⟩
    ·rintro ⟨⟩ σ166 W167 ⟨U170,fi169,f173,f174,le171,hS172⟩ hb168
     have hm175:=wBh hx108 hX121 hb168
     try dsimp only at hm175
     have c176:Hid (¬ ((↑(((↑k100:Int):Int) - 0).toNat:Int) < (↑k100:Int))):=zB (wAo)
     refine zE (sR fL3 Z (oM Z fi169 (oM Z f174 (oR Z (zU Z Z Z) (eN (cF Z c176 (ZA (zY (zY (zx (zj (zH (rR fL3 Z (oM Z f174 (oR Z (zq (zh Z Z Z) (congrArg (jV) hi117.out)) (oA Z Z (zr ?_)))))))))))))))))
     obtain rfl:=nA hm175
     exact zH ⟨Z,_,Z,⟨U170,Z,f173,(le113.trans le171),hS172⟩⟩
   ·rintro ⟨⟩ σ177 W178 ⟨U181,fi180,f184,le182,hS183⟩ hb179
    have hm185:=wBh hm97 hX102 hb179
    try dsimp only at hm185
    have c186:Hid (¬ ((↑(((↑p0.length:Int):Int) - 0).toNat:Int) < (↑p0.length:Int))):=zB (wAo)
    refine zE (sR fL4 Z (oM Z fi180 (oM Z f184 (oR Z (ze Z Z zJ) (oR Z (zU Z Z Z) (eN (cF Z c186 (ZA (zY (zY (zx (zH (zE (sR fL1 Z (oA Z Z (eN (zV ?_)))))))))))))))))
    have q:=wBJ hm185
    obtain ⟨r189,hX190⟩:=q
    have q:=wBI hX190
    obtain ⟨hle191,hf192⟩:=q
    replace hle191:=zB hle191
    refine ZH (fun k188 _ σ_ w_=>∃ (U_:PHeap),σ_ 6=jV (1 + ↑k188:Int)/\σ_ 0=.slice pA0 p0.length pc0/\PHeap.Le U181 U_/\sW w U U_ [] w_) hf192 ?_ ?_ ?_
    ·exact ⟨U181,Z,f184,(zQ _),hS183⟩
    ·rintro k188 ⟨⟩ xx195 σ193 W194 hk198 ⟨U200,fi199,f203,le201,hS202⟩ hx196 hb197
     try dsimp only at hx196
     have c204:Hid ((1 + ↑k188:Int) < (↑p0.length:Int)):=zB (lp_lt hk198)
     replace hk198:=zB hk198
     have hi205:Hid (w64 ((1 + ↑k188:Int) + 1)=(1 + ↑(k188 + 1):Int)):=zB (by have h1:=hle191.out;have h2:=c204.out;rw [wAj] <;> omega)
     refine zE (sR fL4 rfl (zS rfl rfl rfl rfl rfl fi199 (zS rfl rfl rfl rfl rfl f203 (zz rfl rfl rfl rfl (fun _=>ze rfl rfl zJ) (zz rfl rfl rfl rfl (fun _=>zU rfl rfl rfl) (eN (cT Z c204 (kN (zE (zV (zE (ZN ZK [3,3,3,3,1,3,3,3,3,3,1,3] fL12 (by kernel_rfl) ?_))))))))))))
     have hS206:=hS202.drew
     generalize hw_W207:({ W194 with drawn:=W194.drawn + 1 }:World)=W207 at hS206 ⊢
     refine oM Z f203 (oM Z fi199 (bnK hx196 fun x208 h209 hm210=>?_))
     have h211:=ha0.le le94
     have h212:=h211.le le182
     have h213:=h212.le le201
     have q:=h213.el (fun _=>rfl) (wAL h209)
     obtain ⟨b214,off215,hA216,hC217⟩:=q
     refine oR Z (Runs.iaI Z Z hA216 Z zJ zg (wDN h209) (wDo h209)) (oR Z (zw Z Z zl Z zG) (oL Z (hS206.ldC (f:=1) hC217 (v:=jV x208.Time) Z Z zO Z) (oM Z f203 (oM Z fi199 (oR Z (Runs.subw Z Z Z) (bnK hm210 fun x218 h219 hm220=>?_))))))
     have q:=h213.el (fun _=>rfl) (wAL h219)
     obtain ⟨b221,off222,hA223,hC224⟩:=q
     refine oR Z (Runs.iaI Z Z hA223 Z zJ zg (wDN h219) (wDo h219)) (oR Z (zw Z Z zl Z zG) (oL Z (hS206.ldC (f:=1) hC224 (v:=jV x218.Time) Z Z zO Z) (oR Z (zU Z Z Z) (eN (ifc hm220 ?_ ?_)))))
     ·intro c225 hm226
      refine cT Z c225 (sR fL1 Z (oA Z Z (eN (zK (zP (zC ?_))))))
      have q:=wAO hm226
      obtain ⟨v227,hm228,e229⟩:=q
      obtain rfl:=wAz hm185 hX190 (hb197 v227 e229)
      refine zC (zP (zC ?_))
      cases hm228
      exact ⟨Z,_,(zi Z),U200,_,hS206,Z,Z⟩
     ·intro c225 hm230
      refine cF Z c225 (ZG (zj (zH (rR fL3 Z (oM Z fi199 (oR Z (zq (zh Z Z Z) (congrArg (jV) hi205.out)) (oA Z Z (zr ?_))))))))
      obtain rfl:=nA hm230
      exact zH ⟨Z,_,Z,⟨U200,Z,f203,le201,hS206⟩⟩
    ·rintro ⟨⟩ σ231 W232 ⟨U235,fi234,f238,le236,hS237⟩ hb233
     have hm239:=wBh hm185 hX190 hb233
     try dsimp only at hm239
     have c240:Hid (¬ ((1 + ↑(((↑p0.length:Int):Int) - 1).toNat:Int) < (↑p0.length:Int))):=zB (wOZ)
     refine zE (sR fL4 Z (oM Z fi234 (oM Z f238 (oR Z (ze Z Z zJ) (oR Z (zU Z Z Z) (eN (cF Z c240 (ZA (zY (zY (zx (zH (sR fL1 Z (oA Z Z (eN (zK ?_))))))))))))))))
     cases hm239
     exact ⟨Z,_,(zi Z),U235,_,hS237,Z,Z⟩
theorem wBl (p0:List wAA) (pA0:Option Addr) (pc0:Nat) (p1:Int) (w:World) (U:PHeap) (hS:St0 w U []) (ha0:Sl U 3 pA0 pc0 p0.length (hH wAB p0)) {r:Int} (hm:wAu p0 p1=some r):Gv Tryz.prog 136 [.slice pA0 p0.length pc0,jV p1] w (wCm w [] U (fun U_ L_ v=>v=jV r/\L_=[])):=by
 unfold wAu at hm
 refine Gv.of Tryz.func136 Z Tryz.ntmps136 Tryz.results136 Z (sR fL1 Z (oA Z Z (eN (sR (.fl 0 (.fx 1 (.fl 2 (.nil)) .stop)) Z (oM Z Z (bnK hm fun x1 h2 hm3=>zM 0 Z Z Z Z (zN Z Z Tryz.call57 (zD Z zW) Z) hS (fun hs=>wCa p0 pA0 pc0 w U hs ha0 h2) (.inr Z) ?_))))))
 rintro U4 L5 v6 W7 le8 hS9 ⟨rfl,rfl⟩
 have hS10:sW w U U4 [] W7:=hS9
 refine oA Z Z (eN (zE (sR (fC0_3 (.fx 4 (.fl 5 (.fl 6 (.nil))) .stop)) Z (oM Z Z (oR Z (Runs.eql Z Z Z) (oM Z Z (ifc hm3 ?_ ?_)))))))
 ·intro c11 hm12
  refine zS Z Z Z (wT Z c11) Z Z (bnK hm12 fun x13 h14 hm15=>zM 0 Z Z Z (wT Z c11) (zN Z Z Tryz.call122 (zD Z (zD Z (zD Z zW))) Z) hS10 (fun hs=>wDI p1 1 6000 W7 U4 hs h14) (.inr Z) ?_)
  rintro U16 L17 v18 W19 le20 hS21 ⟨rfl,rfl⟩
  have hS22:sW w U U16 [] W19:=hS21
  refine rU Z (wT Z c11) (ZM Z Z) (oR Z (zR Z (wDl c11.out) Z) (eN (ifc hm15 ?_ ?_)))
  ·intro c23 hm24
   refine zk (nC c23.out) (kN (sR fL2 Z (oM Z Z (oA Z Z (eN (zK ?_))))))
   have hE:=nA hm24;first | subst r | cases hE
   exact ⟨Z,_,(zi Z),U16,_,hS22,Z,Z⟩
  ·intro c23 hm25
   refine zp (nF (c23.out)) (rR fL1 Z (oA Z Z (eN (sR fL2 Z (oM Z Z (oA Z Z (eN (zK ?_))))))))
   cases hm25
   exact ⟨Z,_,(zi Z),U16,_,hS22,Z,Z⟩
 ·intro c11 hm26
  refine oF Z c11 (ZI Z Z Z (zZ Z Z (zf c11.out) Z) (oF Z c11 (oR Z (zd Z (zf c11.out) Z) (eN (zk Z (kN (sR fL2 Z (oM Z Z (oA Z Z (eN (zK ?_)))))))))))
  have hE:=nA hm26;first | subst r | cases hE
  exact ⟨Z,_,(zi Z),U4,_,hS10,Z,Z⟩
theorem wBt (p0:Int) (p1:wAA) (p2:wAA) (w:World) (U:PHeap) (hS:St0 w U [])  {r:Bool} (hm:wAI p0 p1 p2=some r):Gv Tryz.prog 139 [jV p0,.agg #[jV p1.Bib,jV p1.Time,jV p1.Gate],.agg #[jV p2.Bib,jV p2.Time,jV p2.Gate]] w (wCm w [] U (fun U_ L_ v=>v=.bool r/\L_=[])):=by
 unfold wAI at hm
 refine Gv.of Tryz.func139 rfl Tryz.ntmps139 Tryz.results139 rfl (sR (.fx 0 (.fx 1 (.fl 2 (.nil)) .stop) .stop) rfl (OKS.box (cs:=[jV p1.Bib,jV p1.Time,jV p1.Gate]) rfl rfl rfl rfl rfl rfl (by rfl) hS ?_))
 intro W1 b2 hS3
 refine OKS.box (cs:=[jV p2.Bib,jV p2.Time,jV p2.Gate]) rfl rfl rfl rfl rfl rfl (by rfl) hS3 ?_
 intro W5 b6 hS7
 refine oA Z Z (eN (sR fL14 Z (oR Z (zw Z Z zX Z zG) (oL Z (hS7.ldB (j:=1) Z Z Z zO (v:=jV p1.Time) Z) (oR Z (zw Z Z zX Z zG) (oL Z (hS7.ldB (j:=0) Z Z Z zO (v:=jV p2.Time) Z) (oR Z (Runs.subw Z Z Z) (oR Z (zw Z Z zX Z zG) (oL Z (hS7.ldB (j:=0) Z Z Z zO (v:=jV p2.Time) Z) (oR Z (zw Z Z zX Z zG) (oL Z (hS7.ldB (j:=1) Z Z Z zO (v:=jV p1.Time) Z) (oR Z (Runs.subw Z Z Z) (oR Z (Runs.max Z Z Z) (oM Z Z (oR Z (zU Z Z Z) (oA Z Z (eN (zK ?_))))))))))))))))))
 cases hm
 exact ⟨rfl,_,(zi rfl),U,_,(hS7.pick [] _ (by decide) rfl),rfl,rfl⟩
theorem wFO (p0:wAA) (w:World) (U:PHeap) (hS:St0 w U [])  {r:Bool} (hm:wBE p0=some r):Gv Tryz.prog 141 [.agg #[jV p0.Bib,jV p0.Time,jV p0.Gate]] w (wCm w [] U (fun U_ L_ v=>v=.bool r/\L_=[])):=by
 unfold wBE at hm
 refine Gv.of Tryz.func141 rfl Tryz.ntmps141 Tryz.results141 rfl (sR (.fx 0 (.fl 1 (.nil)) .stop) rfl (OKS.box (cs:=[jV p0.Bib,jV p0.Time,jV p0.Gate]) rfl rfl rfl rfl rfl rfl (by rfl) hS ?_))
 intro W1 b2 hS3
 refine oA Z Z (eN (sR fL4 Z (oR Z (zw Z Z zX Z zG) (oL Z (hS3.ldB (j:=0) Z Z Z zO (v:=jV p0.Gate) Z) (oR Z (Runs.gtr Z Z Z) (oA Z Z (eN (zK ?_))))))))
 cases hm
 exact ⟨rfl,_,(zi rfl),U,_,(hS3.pick [] _ (by decide) rfl),rfl,rfl⟩
theorem wGP (p0:List wAA) (pA0:Option Addr) (pc0:Nat) (p1:Int) (w:World) (U:PHeap) (hS:St0 w U []) (ha0:Sl U 3 pA0 pc0 p0.length (hH wAB p0)) {r:Bool × Int} (hm:wBK p0 p1=some r):Gv Tryz.prog 50 [.slice pA0 p0.length pc0,jV p1] w (wCm w [] U (fun U_ L_ v=>v=.tuple #[.bool r.1,jV r.2]/\L_=[])):=by
 unfold wBK at hm
 refine Gv.of Tryz.func50 Z Tryz.ntmps50 Tryz.results50 Z (sR fL2 Z (oA Z Z (oA Z Z (eN (zE (sR (.fl 0 (.fl 1 (.fx 2 (.fl 3 (.nil)) .stop))) Z (oM Z Z (oM Z Z (bnK hm fun x1 h2 hm3=>zM 0 Z Z Z Z (zN Z Z Tryz.call136 (zD Z (zD Z zW)) Z) hS (fun hs=>wBl p0 pA0 pc0 p1 w U hs ha0 h2) (.inr Z) ?_)))))))))
 rintro U4 L5 v6 W7 le8 hS9 ⟨rfl,rfl⟩
 have hS10:sW w U U4 [] W7:=hS9
 refine oA Z Z (eN (sR fL2 Z (oM Z Z (oR Z (zy Z Z Z) (eN (ifc hm3 ?_ ?_))))))
 ·intro c11 hm12
  refine zk (zf (fun h=>h c11.out)) (kN (zE (sR fL3 Z (oM Z Z (oR Z (ze Z Z zA) (oM Z Z (eN (zV ?_))))))))
  have q:=wBJ hm12
  obtain ⟨r15,hX16⟩:=q
  have q:=wBI hX16
  obtain ⟨hle17,hf18⟩:=q
  replace hle17:=zB hle17
  refine ZH (fun k14 _ σ_ w_=>∃ (U_:PHeap),σ_ 19=jV (↑k14:Int)/\σ_ 0=.slice pA0 p0.length pc0/\σ_ 1=jV p1/\σ_ 17=.slice pA0 p0.length pc0/\σ_ 18=jV (↑p0.length:Int)/\PHeap.Le U4 U_/\sW w U U_ [] w_) hf18 ?_ ?_ ?_
  ·exact ⟨U4,Z,Z,Z,Z,Z,(zQ _),hS10⟩
  ·rintro k14 ⟨⟩ xx21 σ19 W20 hk24 ⟨U26,fi25,f29,f30,f31,f32,le27,hS28⟩ hx22 hb23
   try dsimp only at hx22
   have c33:Hid ((↑k14:Int) < (↑p0.length:Int)):=zB (wBP hk24)
   replace hk24:=zB hk24
   have hi34:Hid (w64 ((↑k14:Int) + 1)=(↑(k14 + 1):Int)):=zB (by have h1:=hle17.out;have h2:=c33.out;rw [wAj] <;> omega)
   refine sR fL1 Z (oR Z (zU Z fi25 f32) (eN (zE (cT Z c33 (kN (zE (zV (sR (wGa (.fx 3 (.fl 4 (.fx 5 (.nil) .stop)) .stop)) Z (oM Z fi25 (bnK hx22 fun x35 h36 hm37=>?_))))))))))
   have h38:=ha0.le le8
   have h39:=h38.le le27
   have q:=h39.el (fun _=>rfl) (wAL h36)
   obtain ⟨b40,off41,hA42,hC43⟩:=q
   refine oR Z (zm Z f31 hA42 fi25 zA zF (wAk h36)) (oL Z (hS28.ldCA (f:=0) hC43 Z Z zn zF (us:=[jV x35.Bib,jV x35.Time,jV x35.Gate]) Z Z) ?_)
   let B0:List Value:=[jV 0,jV 0,jV 0]
   refine ZL (cs:=B0) Z Z Z Z Z ZE Z hS28 ?_
   intro W44 b45 hS46
   refine oA Z Z ?_
   let B1:List Value:=[jV x35.Bib,jV x35.Time,jV x35.Gate]
   refine OKS.st (j:=0) (vs:=B1) Z Z Z Z hS46 Z Z Z Z zF (zu Z) Z Z Z ?_
   intro W48 hS49
   have hS50:sW w U U26 [.blk b45 105 B1] W48:=hS49
   refine eN (sR fL5 Z (oM Z f29 (oM Z Z (bnK hm37 fun x51 h52 hm53=>?_))))
   have q:=Sl.cutM (sz:=3) (f:=wAB) h39 (fun _=>rfl) h52
   obtain ⟨sl62,ha59,hab61,hb60,hn58⟩:=q
   refine zz (v:=.slice (if pc0=(0:Int).toNat then pA0 else nG (·.add ((0:Int).toNat * 3)) pA0) x51.length (pc0 - (0:Int).toNat)) rfl rfl rfl rfl (fun _=>zq (Runs.slc (sz:=3) (a:=0) (b:=(↑k14:Int)) rfl rfl (.inr ⟨rfl,rfl⟩) (.inl ⟨_,rfl,rfl⟩) zA zF ha59 hab61 hb60 (h39).cap) (by rw [hn58])) ?_
   generalize hA_A55:(if pc0=(0:Int).toNat then pA0 else nG (·.add ((0:Int).toNat * 3)) pA0)=A55 at sl62 ⊢
   generalize hc_c56:pc0 - (0:Int).toNat=c56 at sl62 ⊢
   refine oR Z (ze Z Z zA) (oM Z Z (eN (zV ?_)))
   have q:=wBJ hm53
   obtain ⟨r65,hX66⟩:=q
   have q:=wBI hX66
   obtain ⟨hle67,hf68⟩:=q
   replace hle67:=zB hle67
   refine ZH (fun k64 _ σ_ w_=>∃ (U_:PHeap),σ_ 28=jV (↑k64:Int)/\σ_ 0=.slice pA0 p0.length pc0/\σ_ 1=jV p1/\σ_ 8=.pointer (some ⟨b45,0,none⟩)/\σ_ 17=.slice pA0 p0.length pc0/\σ_ 18=jV (↑p0.length:Int)/\σ_ 19=jV (↑k14:Int)/\σ_ 26=.slice A55 x51.length c56/\σ_ 27=jV (↑x51.length:Int)/\PHeap.Le U26 U_/\sW w U U_ [.blk b45 105 B1] w_) hf68 ?_ ?_ ?_
   ·exact ⟨U26,Z,f29,f30,Z,f31,f32,fi25,Z,Z,(zQ _),hS50⟩
   ·rintro k64 ⟨⟩ xx71 σ69 W70 hk74 ⟨U76,fi75,f79,f80,f81,f82,f83,f84,f85,f86,le77,hS78⟩ hx72 hb73
    try dsimp only at hx72
    have c87:Hid ((↑k64:Int) < (↑x51.length:Int)):=zB (wBP hk74)
    replace hk74:=zB hk74
    have hi88:Hid (w64 ((↑k64:Int) + 1)=(↑(k64 + 1):Int)):=zB (by have h1:=hle67.out;have h2:=c87.out;rw [wAj] <;> omega)
    refine sR fL1 Z (oR Z (zU Z fi75 f86) (eN (zE (cT Z c87 (kN (zE (zV (sR (.fl 0 (.fl 1 (.fx 2 (.fx 3 (.nil) .stop) .stop))) Z (bnK hx72 fun x89 h90 hm91=>?_)))))))))
    have h92:=sl62.le le77
    have q:=h92.el (fun _=>rfl) (wAL h90)
    obtain ⟨b93,off94,hA95,hC96⟩:=q
    refine oR Z (zm Z f85 hA95 fi75 zA zF (wAk h90)) (oL Z (hS78.ldCA (f:=0) hC96 Z Z zn zF (us:=[jV x89.Bib,jV x89.Time,jV x89.Gate]) Z Z) (ZL (cs:=B0) Z Z Z Z Z ZE Z hS78 ?_))
    intro W97 b98 hS99
    let B2:List Value:=[jV x89.Bib,jV x89.Time,jV x89.Gate]
    refine OKS.st (j:=0) (vs:=B2) Z Z Z Z hS99 Z Z Z Z zF (zu Z) Z Z Z ?_
    intro W101 hS102
    have hS103:sW w U U76 [.blk b98 105 B2,.blk b45 105 B1] W101:=hS102
    refine eN (sR (wPX (.fx 9 (.fl 10 (.nil)) .stop)) Z (oR Z (zw Z f81 zX Z zG) (oL Z (hS103.ldB (j:=1) Z Z Z zO (v:=jV x35.Gate) Z) (oR Z (zw Z Z zX Z zG) (oL Z (hS103.ldB (j:=0) Z Z Z zO (v:=jV x89.Gate) Z) (oR Z (Runs.eql Z Z Z) (oM Z Z (ifc hm91 ?_ ?_))))))))
    ·intro c104 hm105
     refine zS Z Z Z (wT Z c104) Z f80 (ZJ Z Z Z (wT Z c104) (hS103.ldBA (j:=1) Z Z f81 zn zF (vs:=B1) Z Z) Z (ZJ Z Z Z (wT Z c104) (hS103.ldBA (j:=0) Z Z Z zn zF (vs:=B2) Z Z) Z (bnK hm105 fun x106 h107 hm108=>zM 0 Z Z Z (wT Z c104) (zN Z Z Tryz.call139 (zD Z (zD Z (zD Z zW))) Z) hS103 (fun hs=>wBt p1 x35 x89 W101 U76 hs h107) (.inr Z) ?_)))
     rintro U109 L110 v111 W112 le113 hS114 ⟨rfl,rfl⟩
     have hS115:sW w U U109 [.blk b98 105 B2,.blk b45 105 B1] W112:=hS114
     refine oR Z (zR Z (wDl c104.out) Z) (eN (ifc hm108 ?_ ?_))
     ·intro c116 hm117
      refine zp (congrArg nB c116.out) (sR fL2 Z (oA Z Z (oA Z Z (eN (zK (zP (zC ?_)))))))
      have q:=wAO hm117
      obtain ⟨v118,hm119,e120⟩:=q
      obtain rfl:=wAz hm53 hX66 (hb73 v118 e120)
      refine zC (zP (zP (zC ?_)))
      have q:=wAO hm119
      obtain ⟨v121,hm122,e123⟩:=q
      obtain rfl:=wAz hm12 hX16 (hb23 v121 e123)
      refine zC (zP (zC ?_))
      cases hm122
      exact ⟨rfl,_,(wET rfl rfl),U109,_,(hS115.pick [] _ (by decide) rfl),rfl,rfl⟩
     ·intro c116 hm124
      refine zk (congrArg nB (nD.2 c116.out)) (ZG (zj (zH (rR fL2 Z (oR Z (zq (zh Z fi75 Z) (congrArg (jV) hi88.out)) (oM Z Z (zr ?_)))))))
      obtain rfl:=nA hm124
      exact zH ⟨rfl,_,rfl,⟨U109,rfl,f79,f80,f81,f82,f83,f84,f85,f86,(le77.trans le113),(hS115.pick [1] _ (by decide) rfl)⟩⟩
    ·intro c104 hm125
     refine oF Z c104 (oF Z c104 (oF Z c104 (ZI Z Z Z (zZ Z Z (zf c104.out) Z) (oR Z (zd Z (zf c104.out) Z) (eN (zk Z (ZG (zj (zH (rR fL2 Z (oR Z (zq (zh Z fi75 Z) (congrArg (jV) hi88.out)) (oM Z Z (zr ?_)))))))))))))
     obtain rfl:=nA hm125
     exact zH ⟨rfl,_,rfl,⟨U76,rfl,f79,f80,f81,f82,f83,f84,f85,f86,le77,(hS103.pick [1] _ (by decide) rfl)⟩⟩
   ·rintro ⟨⟩ σ126 W127 ⟨U130,fi129,f133,f134,f135,f136,f137,f138,f139,f140,le131,hS132⟩ hb128
    have hm141:=wBh hm53 hX66 hb128
    try dsimp only at hm141
    have c142:Hid (¬ ((↑(((↑x51.length:Int):Int) - 0).toNat:Int) < (↑x51.length:Int))):=zB (wAo)
    refine sR fL1 Z (oR Z (zU Z fi129 f140) (eN (zE (cF Z c142 (ZA (zY (zY (zx (zj (zH (rR fL2 Z (oR Z (zq (zh Z f138 Z) (congrArg (jV) hi34.out)) (oM Z Z (zr ?_))))))))))))))
    obtain rfl:=nA hm141
    exact zH ⟨rfl,_,rfl,⟨U130,rfl,f133,f134,f136,f137,(le27.trans le131),(hS132.pick [] _ (by decide) rfl)⟩⟩
  ·rintro ⟨⟩ σ143 W144 ⟨U147,fi146,f150,f151,f152,f153,le148,hS149⟩ hb145
   have hm154:=wBh hm12 hX16 hb145
   try dsimp only at hm154
   have c155:Hid (¬ ((↑(((↑p0.length:Int):Int) - 0).toNat:Int) < (↑p0.length:Int))):=zB (wAo)
   refine sR fL1 Z (oR Z (zU Z fi146 f153) (eN (zE (cF Z c155 (ZA (zY (zY (zx (zH (sR (.fl 0 (.fx 1 (.fl 2 (.fl 3 (.nil))) .stop)) Z (oM Z f150 ?_)))))))))))
   have h156:=ha0.le le8
   have h157:=h156.le le148
   have hF158:FnOK Tryz.prog U147 (.func (.func 141) #[] #[]) wJA wJB wBE:=⟨141,[],[],rfl,Tryz.call141,fun U1 w1 x y vs le hs ha hm=>by obtain rfl:=ha;exact wFO x w1 U1 hs  hm⟩
   refine bnK hm154 fun x159 h160 hm161=>zM 0 Z Z Z Z (zN Z Z Tryz.call140 (zD Z (zD Z zW)) Z) hS149 (fun hs=>wBk p0 pA0 pc0 wBE (.func (.func 141) #[] #[]) W144 U147 hs h157 hF158 h160) (.inr Z) ?_
   rintro U162 L163 v164 W165 le166 hS167 ⟨rfl,rfl⟩
   have hS168:sW w U U162 [] W165:=hS167
   refine oA Z Z (oA Z Z (eN (zK ?_)))
   cases hm161
   exact ⟨Z,_,(wET Z Z),U162,_,hS168,Z,Z⟩
 ·intro c11 hm169
  refine cT Z c11 (sR fL3 Z (oM Z Z (oA Z Z (oA Z Z (eN (zK (zC ?_)))))))
  cases hm169
  exact ⟨Z,_,(wET Z Z),U4,_,hS10,Z,Z⟩
theorem wBT (p0:List wAC) (pA0:Option Addr) (pc0:Nat) (p1:Int) (w:World) (U:PHeap) (hS:St0 w U []) (ha0:Sl U 3 pA0 pc0 p0.length (hH wAE p0)) {r:Int} (hm:wAT p0 p1=some r):Gv Tryz.prog 147 [.slice pA0 p0.length pc0,jV p1] w (wCm w [] U (fun U_ L_ v=>v=jV r/\L_=[])):=by
 unfold wAT at hm
 refine Gv.of Tryz.func147 Z Tryz.ntmps147 Tryz.results147 Z (sR fL1 Z (oA Z Z (eN (zE (sR (.fl 0 (.fx 1 (.fl 2 (.nil)) .stop)) Z (oM Z Z (bnK hm fun x1 h2 hm3=>zM 0 Z Z Z Z (zN Z Z Tryz.call58 (zD Z zW) Z) hS (fun hs=>wBg p0 pA0 pc0 w U hs ha0 h2) (.inr Z) ?_)))))))
 rintro U4 L5 v6 W7 le8 hS9 ⟨rfl,rfl⟩
 have hS10:sW w U U4 [] W7:=hS9
 refine oA Z Z (eN (sR fL2 Z (oM Z Z (oR Z (zy Z Z Z) (eN (ifc hm3 ?_ ?_))))))
 ·intro c11 hm12
  refine zk (zf (fun h=>h c11.out)) (kN (zE (sR (.fl 0 (.fx 1 (.nil) .stop)) Z (oM Z Z (bnK hm12 fun x13 h14 hm15=>zM 0 Z Z Z Z (zN Z Z Tryz.call146 (zD Z (zD Z (zD Z zW))) Z) hS10 (fun hs=>wBV p1 1 6000 W7 U4 hs h14) (.inr Z) ?_)))))
  rintro U16 L17 v18 W19 le20 hS21 ⟨rfl,rfl⟩
  have hS22:sW w U U16 [] W19:=hS21
  refine eN (ifc hm15 ?_ ?_)
  ·intro c23 hm24
   refine zp (congrArg nB c23.out) (sR fL1 Z (oA Z Z (eN (zK (zC ?_)))))
   cases hm24
   exact ⟨Z,_,(zi Z),U16,_,hS22,Z,Z⟩
  ·intro c23 hm25
   refine zk (congrArg nB (nD.2 c23.out)) (kN (sR fL1 Z (oA Z Z (eN (zK ?_)))))
   cases hm25
   exact ⟨Z,_,(zi Z),U16,_,hS22,Z,Z⟩
 ·intro c11 hm26
  refine cT Z c11 (sR fL2 Z (oM Z Z (oA Z Z (eN (zK (zC ?_))))))
  have hE:=nA hm26;first | subst r | cases hE
  exact ⟨Z,_,(zi Z),U4,_,hS10,Z,Z⟩
theorem wBc (p0:wAC) (p1:wAC) (p2:Int) (w:World) (U:PHeap) (hS:St0 w U [])  {r:Bool} (hm:wAN p0 p1 p2=some r):Gv Tryz.prog 148 [.agg #[jV p0.Bib,jV p0.Time,jV p0.Gate],.agg #[jV p1.Bib,jV p1.Time,jV p1.Gate],jV p2] w (wCm w [] U (fun U_ L_ v=>v=.bool r/\L_=[])):=by
 unfold wAN at hm
 refine Gv.of Tryz.func148 rfl Tryz.ntmps148 Tryz.results148 rfl (sR (.fx 0 (.fx 1 (.fl 2 (.nil)) .stop) .stop) rfl (OKS.box (cs:=[jV p0.Bib,jV p0.Time,jV p0.Gate]) rfl rfl rfl rfl rfl rfl (by rfl) hS ?_))
 intro W1 b2 hS3
 refine OKS.box (cs:=[jV p1.Bib,jV p1.Time,jV p1.Gate]) rfl rfl rfl rfl rfl rfl (by rfl) hS3 ?_
 intro W5 b6 hS7
 refine oA Z Z (eN (sR fL17 Z (oR Z (zw Z Z zl Z zG) (oL Z (hS7.ldB (j:=1) Z Z Z zO (v:=jV p0.Time) Z) (oR Z (zw Z Z zl Z zG) (oL Z (hS7.ldB (j:=0) Z Z Z zO (v:=jV p1.Time) Z) (oR Z (Runs.subw Z Z Z) (oM Z Z (oR Z (zU Z Z Z) (oM Z Z ?_))))))))))
 by_cases c9:(w64 (p0.Time - p1.Time)) < p2
 ·have hm10:=hm;rw [if_pos c9] at hm10;replace c9:=zB c9
  refine rU Z (wT Z c9) (zw Z Z zl Z zG) (ZJ Z Z Z (wT Z c9) (hS7.ldB (j:=0) Z Z Z zO (v:=jV p1.Time) Z) Z (rU Z (wT Z c9) (zw Z Z zl Z zG) (ZJ Z Z Z (wT Z c9) (hS7.ldB (j:=1) Z Z Z zO (v:=jV p0.Time) Z) Z (rU Z (wT Z c9) (Runs.subw Z Z Z) (zS Z Z Z (wT Z c9) Z Z (rU Z (wT Z c9) (zU Z Z Z) (oR Z (zR Z (wDl c9.out) Z) (oA Z Z (eN (zK ?_))))))))))
  cases hm10
  exact ⟨rfl,_,(zi rfl),U,_,(hS7.pick [] _ (by decide) rfl),rfl,rfl⟩
 ·have hm11:=hm;rw [if_neg c9] at hm11;replace c9:=zB c9
  refine oF Z c9 (oF Z c9 (oF Z c9 (oF Z c9 (oF Z c9 (oF Z c9 (oF Z c9 (oR Z (zd Z (zf c9.out) Z) (oA Z Z (eN (zK ?_))))))))))
  have hE:=nA hm11;first | subst r | cases hE
  exact ⟨rfl,_,(zi rfl),U,_,(hS7.pick [] _ (by decide) rfl),rfl,rfl⟩
theorem wCF (p0:List wAC) (pA0:Option Addr) (pc0:Nat) (p1:Int) (w:World) (U:PHeap) (hS:St0 w U []) (ha0:Sl U 3 pA0 pc0 p0.length (hH wAE p0)) {r:Bool × Int} (hm:wAS p0 p1=some r):Gv Tryz.prog 59 [.slice pA0 p0.length pc0,jV p1] w (wCm w [] U (fun U_ L_ v=>v=.tuple #[.bool r.1,jV r.2]/\L_=[])):=by
 unfold wAS at hm
 refine Gv.of Tryz.func59 Z Tryz.ntmps59 Tryz.results59 Z (sR fL2 Z (oA Z Z (oA Z Z (eN (zE (sR (.fl 0 (.fl 1 (.fx 2 (.fl 3 (.nil)) .stop))) Z (oM Z Z (oM Z Z (bnK hm fun x1 h2 hm3=>zM 0 Z Z Z Z (zN Z Z Tryz.call147 (zD Z (zD Z zW)) Z) hS (fun hs=>wBT p0 pA0 pc0 p1 w U hs ha0 h2) (.inr Z) ?_)))))))))
 rintro U4 L5 v6 W7 le8 hS9 ⟨rfl,rfl⟩
 have hS10:sW w U U4 [] W7:=hS9
 refine oA Z Z (eN (sR fL2 Z (oM Z Z (oR Z (zy Z Z Z) (eN (ifc hm3 ?_ ?_))))))
 ·intro c11 hm12
  refine zk (zf (fun h=>h c11.out)) (kN (zE (sR fL1 Z (oA Z Z (eN (zV ?_))))))
  have q:=wBJ hm12
  obtain ⟨r15,hX16⟩:=q
  have q:=wBI hX16
  obtain ⟨hle17,hf18⟩:=q
  replace hle17:=zB hle17
  refine ZH (fun k14 _ σ_ w_=>∃ (U_:PHeap),σ_ 7=jV (↑k14:Int)/\σ_ 0=.slice pA0 p0.length pc0/\σ_ 1=jV p1/\PHeap.Le U4 U_/\sW w U U_ [] w_) hf18 ?_ ?_ ?_
  ·exact ⟨U4,Z,Z,Z,(zQ _),hS10⟩
  ·rintro k14 ⟨⟩ xx21 σ19 W20 hk24 ⟨U26,fi25,f29,f30,le27,hS28⟩ hx22 hb23
   try dsimp only at hx22
   have c31:Hid ((↑k14:Int) < (↑p0.length:Int)):=zB (wBP hk24)
   replace hk24:=zB hk24
   have hi32:Hid (w64 ((↑k14:Int) + 1)=(↑(k14 + 1):Int)):=zB (by have h1:=hle17.out;have h2:=c31.out;rw [wAj] <;> omega)
   refine zE (sR fL4 Z (oM Z fi25 (oM Z f29 (oR Z (ze Z Z zJ) (oR Z (zU Z Z Z) (eN (cT Z c31 (kN (zE (zV (zE (sR fL6 Z (oM Z f29 (oM Z fi25 (bnK hx22 fun x33 h34 hm35=>?_)))))))))))))))
   have h36:=ha0.le le8
   have h37:=h36.le le27
   have q:=h37.el (fun _=>rfl) (wAL h34)
   obtain ⟨b38,off39,hA40,hC41⟩:=q
   refine oR Z (zm Z Z hA40 Z zJ zg (wAk h34)) (oR Z (zw Z Z zl Z zG) (oL Z (hS28.ldC (f:=2) hC41 (v:=jV x33.Gate) Z Z zO Z) (oR Z (Runs.eql Z Z Z) (eN (ifc hm35 ?_ ?_)))))
   ·intro c42 hm43
    refine cT Z c42 (sR fL2 Z (oA Z Z (oA Z Z (eN (zK (zC (zP (zC ?_))))))))
    have q:=wAO hm43
    obtain ⟨v44,hm45,e46⟩:=q
    obtain rfl:=wAz hm12 hX16 (hb23 v44 e46)
    refine zC (zP (zC ?_))
    cases hm45
    exact ⟨Z,_,(wET Z Z),U26,_,hS28,Z,Z⟩
   ·intro c42 hm47
    refine cF Z c42 (kN (sR fL1 Z (oA Z Z (eN (zV ?_)))))
    have q:=wBJ hm47
    obtain ⟨r50,hX51⟩:=q
    have q:=wBI hX51
    obtain ⟨hle52,hf53⟩:=q
    replace hle52:=zB hle52
    refine ZH (fun k49 _ σ_ w_=>∃ (U_:PHeap),σ_ 8=jV (↑k49:Int)/\σ_ 0=.slice pA0 p0.length pc0/\σ_ 1=jV p1/\σ_ 7=jV (↑k14:Int)/\PHeap.Le U26 U_/\sW w U U_ [] w_) hf53 ?_ ?_ ?_
    ·exact ⟨U26,Z,f29,f30,fi25,(zQ _),hS28⟩
    ·rintro k49 ⟨⟩ xx56 σ54 W55 hk59 ⟨U61,fi60,f64,f65,f66,le62,hS63⟩ hx57 hb58
     try dsimp only at hx57
     have c67:Hid ((↑k49:Int) < (↑k14:Int)):=zB (wBP hk59)
     replace hk59:=zB hk59
     have hi68:Hid (w64 ((↑k49:Int) + 1)=(↑(k49 + 1):Int)):=zB (by have h1:=hle52.out;have h2:=c67.out;rw [wAj] <;> omega)
     refine zE (sR fL3 rfl (zS rfl rfl rfl rfl rfl fi60 (zS rfl rfl rfl rfl rfl f66 (zz rfl rfl rfl rfl (fun _=>zU rfl rfl rfl) (eN (cT Z c67 (kN (zE (zV (zE (ZN ZK [3,3,3,3,1,3,3,3,3,1,3,3,3,3,3,1,3,3,3,1,3,2,3] (wPZ (.fx 21 (.fl 22 (.nil)) .stop)) (by kernel_rfl) ?_)))))))))))
     have hS69:=hS63.drew
     generalize hw_W70:({ W55 with drawn:=W55.drawn + 1 }:World)=W70 at hS69 ⊢
     refine oM Z f64 (oM Z f66 ?_)
     have h71:=h37.le le62
     have q:=h71.el (fun _=>rfl) (wAL h34)
     obtain ⟨b72,off73,hA74,hC75⟩:=q
     refine oR Z (zm Z Z hA74 Z zJ zg (wAk h34)) (oR Z (zw Z Z zl Z zG) (oL Z (hS69.ldC (f:=2) hC75 (v:=jV x33.Gate) Z Z zO Z) (oM Z f64 (oM Z fi60 (bnK hx57 fun x76 h77 hm78=>?_)))))
     have q:=h71.el (fun _=>rfl) (wAL h77)
     obtain ⟨b79,off80,hA81,hC82⟩:=q
     refine oR Z (zm Z Z hA81 Z zJ zg (wAk h77)) (oR Z (zw Z Z zl Z zG) (oL Z (hS69.ldC (f:=2) hC82 (v:=jV x76.Gate) Z Z zO Z) (oR Z (Runs.eql Z Z Z) (oM Z Z (ifc hm78 ?_ ?_)))))
     ·intro c83 hm84
      refine zS Z Z Z (wT Z c83) Z f64 (zS Z Z Z (wT Z c83) Z f66 ?_)
      have q:=h71.el (fun _=>rfl) (wAL h34)
      obtain ⟨b85,off86,hA87,hC88⟩:=q
      refine rU Z (wT Z c83) (zm Z Z hA87 Z zJ zg (wAk h34)) (ZJ Z Z Z (wT Z c83) (hS69.ldCA (f:=0) hC88 Z Z Tryz.isAgg239 zg (us:=[jV x33.Bib,jV x33.Time,jV x33.Gate]) Z Z) Z (zS Z Z Z (wT Z c83) Z f64 (zS Z Z Z (wT Z c83) Z fi60 ?_)))
      have q:=h71.el (fun _=>rfl) (wAL h77)
      obtain ⟨b89,off90,hA91,hC92⟩:=q
      refine rU Z (wT Z c83) (zm Z Z hA91 Z zJ zg (wAk h77)) (ZJ Z Z Z (wT Z c83) (hS69.ldCA (f:=0) hC92 Z Z Tryz.isAgg239 zg (us:=[jV x76.Bib,jV x76.Time,jV x76.Gate]) Z Z) Z (zS Z Z Z (wT Z c83) Z f65 (bnK hm84 fun x93 h94 hm95=>zM 0 Z Z Z (wT Z c83) (zN Z Z Tryz.call148 (zD Z (zD Z (zD Z zW))) Z) hS69 (fun hs=>wBc x33 x76 p1 W70 U61 hs h94) (.inr Z) ?_)))
      rintro U96 L97 v98 W99 le100 hS101 ⟨rfl,rfl⟩
      have hS102:sW w U U96 [] W99:=hS101
      refine oR Z (zR Z (wDl c83.out) Z) (eN (ifc hm95 ?_ ?_))
      ·intro c103 hm104
       refine zp (congrArg nB c103.out) (sR fL2 Z (oA Z Z (oA Z Z (eN (zK (zP (zC ?_)))))))
       have q:=wAO hm104
       obtain ⟨v105,hm106,e107⟩:=q
       obtain rfl:=wAz hm47 hX51 (hb58 v105 e107)
       refine zC (zP (zP (zC ?_)))
       have q:=wAO hm106
       obtain ⟨v108,hm109,e110⟩:=q
       obtain rfl:=wAz hm12 hX16 (hb23 v108 e110)
       refine zC (zP (zC ?_))
       cases hm109
       exact ⟨Z,_,(wET Z Z),U96,_,hS102,Z,Z⟩
      ·intro c103 hm111
       refine zk (congrArg nB (nD.2 c103.out)) (ZG (zj (zH (rR fL3 Z (oM Z fi60 (oR Z (zq (zh Z Z Z) (congrArg (jV) hi68.out)) (oA Z Z (zr ?_))))))))
       obtain rfl:=nA hm111
       exact zH ⟨Z,_,Z,⟨U96,Z,f64,f65,f66,(le62.trans le100),hS102⟩⟩
     ·intro c83 hm112
      refine oF Z c83 (oF Z c83 (oF Z c83 (oF Z c83 (oF Z c83 (oF Z c83 (oF Z c83 (oF Z c83 (oF Z c83 (ZI Z Z Z (zZ Z Z (zf c83.out) Z) (oR Z (zd Z (zf c83.out) Z) (eN (zk Z (ZG (zj (zH (rR fL3 Z (oM Z fi60 (oR Z (zq (zh Z Z Z) (congrArg (jV) hi68.out)) (oA Z Z (zr ?_))))))))))))))))))))
      obtain rfl:=nA hm112
      exact zH ⟨Z,_,Z,⟨U61,Z,f64,f65,f66,le62,hS69⟩⟩
    ·rintro ⟨⟩ σ113 W114 ⟨U117,fi116,f120,f121,f122,le118,hS119⟩ hb115
     have hm123:=wBh hm47 hX51 hb115
     try dsimp only at hm123
     have c124:Hid (¬ ((↑(((↑k14:Int):Int) - 0).toNat:Int) < (↑k14:Int))):=zB (wAo)
     refine zE (sR fL3 Z (oM Z fi116 (oM Z f122 (oR Z (zU Z Z Z) (eN (cF Z c124 (ZA (zY (zY (zx (zj (zH (rR fL3 Z (oM Z f122 (oR Z (zq (zh Z Z Z) (congrArg (jV) hi32.out)) (oA Z Z (zr ?_)))))))))))))))))
     obtain rfl:=nA hm123
     exact zH ⟨Z,_,Z,⟨U117,Z,f120,f121,(le27.trans le118),hS119⟩⟩
  ·rintro ⟨⟩ σ125 W126 ⟨U129,fi128,f132,f133,le130,hS131⟩ hb127
   have hm134:=wBh hm12 hX16 hb127
   try dsimp only at hm134
   have c135:Hid (¬ ((↑(((↑p0.length:Int):Int) - 0).toNat:Int) < (↑p0.length:Int))):=zB (wAo)
   refine zE (sR fL4 Z (oM Z fi128 (oM Z f132 (oR Z (ze Z Z zJ) (oR Z (zU Z Z Z) (eN (cF Z c135 (ZA (zY (zY (zx (zH (sR fL2 Z (oA Z Z (oA Z Z (eN (zK ?_)))))))))))))))))
   cases hm134
   exact ⟨Z,_,(wET Z Z),U129,_,hS131,Z,Z⟩
 ·intro c11 hm136
  refine cT Z c11 (sR fL3 Z (oM Z Z (oA Z Z (oA Z Z (eN (zK (zC ?_)))))))
  cases hm136
  exact ⟨Z,_,(wET Z Z),U4,_,hS10,Z,Z⟩
end Go.Proofs.YthbficbpebiekaaGreat
namespace Go.Proofs.YthbficbpebiekaaGreat
open Go.KL
set_option maxHeartbeats 4000000
theorem wEW (p0:wAA) (p1:Int) (pb1:Nat) (w:World) (U:PHeap) (hS:St0 w U []) (ha0:Cl U pb1 0 [jV p1]) {r:Bool} (hm:wAp p0 p1=some r):Gv Tryz.prog 142 [.agg #[jV p0.Bib,jV p0.Time,jV p0.Gate],.pointer (some ⟨pb1,0,none⟩)] w (wCm w [] U (fun U_ L_ v=>v=.bool r/\L_=[])):=by
 unfold wAp at hm
 refine Gv.of Tryz.func142 rfl Tryz.ntmps142 Tryz.results142 rfl (sR (.fx 0 (.fl 1 (.nil)) .stop) rfl (OKS.box (cs:=[jV p0.Bib,jV p0.Time,jV p0.Gate]) rfl rfl rfl rfl rfl rfl (by rfl) hS ?_))
 intro W1 b2 hS3
 refine oA Z Z (eN (sR fL5 Z (oR Z (zw Z Z zX Z zG) (oL Z (hS3.ldB (j:=0) Z Z Z zO (v:=jV p0.Bib) Z) (oL Z (hS3.ldC (f:=0) ha0 (v:=jV p1) Z Z zO Z) (oR Z (Runs.eql Z Z Z) (oA Z Z (eN (zK ?_)))))))))
 cases hm
 exact ⟨rfl,_,(zi rfl),U,_,(hS3.pick [] _ (by decide) rfl),rfl,rfl⟩
theorem wAg (p0:List wAA) (pA0:Option Addr) (pc0:Nat) (p1:(wAA->Option Bool)) (pv1:Value) (w:World) (U:PHeap) (hS:St0 w U []) (ha0:Sl U 3 pA0 pc0 p0.length (hH wAB p0)) (ha1:FnOK Tryz.prog U pv1 wJA wJB p1) {r:Int} (hm:wAF p0 p1=some r):Gv Tryz.prog 65 [.slice pA0 p0.length pc0,pv1] w (wCm w [] U (fun U_ L_ v=>v=jV r/\L_=[])):=by
 unfold wAF at hm
 refine Gv.of Tryz.func65 Z Tryz.ntmps65 Tryz.results65 Z (sR fL1 Z (oA Z Z (eN (zE (sR fL3 Z (oM Z Z (oR Z (ze Z Z zA) (oM Z Z (eN (zV ?_))))))))))
 have q:=wBJ hm
 obtain ⟨r3,hX4⟩:=q
 have q:=wBI hX4
 obtain ⟨hle5,hf6⟩:=q
 replace hle5:=zB hle5
 refine ZH (fun k2 _ σ_ w_=>∃ (U_:PHeap),σ_ 8=jV (↑k2:Int)/\σ_ 0=.slice pA0 p0.length pc0/\σ_ 1=pv1/\σ_ 7=jV (↑p0.length:Int)/\PHeap.Le U U_/\sW w U U_ [] w_) hf6 ?_ ?_ ?_
 ·exact ⟨U,Z,Z,Z,Z,(zQ _),hS⟩
 ·rintro k2 ⟨⟩ xx9 σ7 W8 hk12 ⟨U14,fi13,f17,f18,f19,le15,hS16⟩ hx10 hb11
  try dsimp only at hx10
  have c20:Hid ((↑k2:Int) < (↑p0.length:Int)):=zB (wBP hk12)
  replace hk12:=zB hk12
  have hi21:Hid (w64 ((↑k2:Int) + 1)=(↑(k2 + 1):Int)):=zB (by have h1:=hle5.out;have h2:=c20.out;rw [wAj] <;> omega)
  refine sR fL1 Z (oR Z (zU Z fi13 f19) (eN (zE (cT Z c20 (kN (zE (zV (sR fL2 Z (oM Z fi13 (oA Z Z (eN (sR (wLb (.fx 5 (.nil) .stop)) Z (oM Z f18 (oM Z f17 (oM Z Z (bnK hx10 fun x22 h23 hm24=>?_))))))))))))))))
  have h25:=ha0.le le15
  have q:=h25.el (fun _=>rfl) (wAL h23)
  obtain ⟨b26,off27,hA28,hC29⟩:=q
  refine oR Z (zm Z Z hA28 Z zA zF (wAk h23)) (oL Z (hS16.ldCA (f:=0) hC29 Z Z zn zF (us:=[jV x22.Bib,jV x22.Time,jV x22.Gate]) Z Z) (bnK hm24 fun x30 h31 hm32=>?_))
  have h39:=ha1.le le15
  refine OKS.callV (a:=x22) Z Z Z Z Z Z (zD Z zW) hS16 h39 Z h31 ?_
  rintro U33 L34 v35 W36 le37 hS38 ⟨rfl,rfl⟩
  have hS40:sW w U U33 [] W36:=hS38
  refine eN (ifc hm32 ?_ ?_)
  ·intro c41 hm42
   refine zp (congrArg nB c41.out) (sR fL2 Z (oM Z Z (oA Z Z (eN (zK (zP (zC ?_)))))))
   have q:=wAO hm42
   obtain ⟨v43,hm44,e45⟩:=q
   obtain rfl:=wAz hm hX4 (hb11 v43 e45)
   refine zC (zP (zC ?_))
   cases hm44
   exact ⟨Z,_,(zi Z),U33,_,hS40,Z,Z⟩
  ·intro c41 hm46
   refine zk (congrArg nB (nD.2 c41.out)) (ZG (zj (zH (rR fL2 Z (oR Z (zq (zh Z fi13 Z) (congrArg (jV) hi21.out)) (oM Z Z (zr ?_)))))))
   obtain rfl:=nA hm46
   exact zH ⟨Z,_,Z,⟨U33,Z,f17,f18,f19,(le15.trans le37),hS40⟩⟩
 ·rintro ⟨⟩ σ47 W48 ⟨U51,fi50,f54,f55,f56,le52,hS53⟩ hb49
  have hm57:=wBh hm hX4 hb49
  try dsimp only at hm57
  have c58:Hid (¬ ((↑(((↑p0.length:Int):Int) - 0).toNat:Int) < (↑p0.length:Int))):=zB (wAo)
  refine sR fL1 Z (oR Z (zU Z fi50 f56) (eN (zE (cF Z c58 (ZA (zY (zY (zx (zH (sR fL1 Z (oA Z Z (eN (zK ?_)))))))))))))
  cases hm57
  exact ⟨Z,_,(zi Z),U51,_,hS53,Z,Z⟩
theorem wFb (p0:List wAA) (pA0:Option Addr) (pc0:Nat) (p1:Int) (p2:List Int) (pA2:Option Addr) (pc2:Nat) (w:World) (U:PHeap) (hS:St0 w U []) (ha0:Sl U 3 pA0 pc0 p0.length (hH wAB p0)) (ha1:Sl U 1 pA2 pc2 p2.length (hH KL.encI p2)) {r:Bool × Int} (hm:wBB p0 p1 p2=some r):Gv Tryz.prog 51 [.slice pA0 p0.length pc0,jV p1,.slice pA2 p2.length pc2] w (wCm w [] U (fun U_ L_ v=>v=.tuple #[.bool r.1,jV r.2]/\L_=[])):=by
 unfold wBB at hm
 refine Gv.of Tryz.func51 Z Tryz.ntmps51 Tryz.results51 Z (sR fL2 Z (oA Z Z (oA Z Z (eN (zE (sR (.fl 0 (.fl 1 (.fx 2 (.fl 3 (.nil)) .stop))) Z (oM Z Z (oM Z Z (bnK hm fun x1 h2 hm3=>zM 0 Z Z Z Z (zN Z Z Tryz.call136 (zD Z (zD Z zW)) Z) hS (fun hs=>wBl p0 pA0 pc0 p1 w U hs ha0 h2) (.inr Z) ?_)))))))))
 rintro U4 L5 v6 W7 le8 hS9 ⟨rfl,rfl⟩
 have hS10:sW w U U4 [] W7:=hS9
 refine oA Z Z (eN (sR fL2 Z (oM Z Z (oR Z (zy Z Z Z) (eN (ifc hm3 ?_ ?_))))))
 ·intro c11 hm12
  refine zk (zf (fun h=>h c11.out)) (kN (sR fL1 Z (oA Z Z (eN (zE (sR fL3 Z (oM Z Z (oR Z (ze Z Z zI) (oM Z Z (eN (zV ?_)))))))))))
  have q:=wBJ hm12
  obtain ⟨r31,hX32⟩:=q
  have q:=wBI hX32
  obtain ⟨hle33,hf34⟩:=q
  replace hle33:=zB hle33
  refine ZH (fun k30 l26 σ_ w_=>∃ (U_:PHeap) (A27:Option Addr) (c28:Nat),σ_ 23=jV (↑k30:Int)/\σ_ 0=.slice pA0 p0.length pc0/\σ_ 1=jV p1/\σ_ 9=.slice A27 l26.length c28/\σ_ 21=.slice pA2 p2.length pc2/\σ_ 22=jV (↑p2.length:Int)/\PHeap.Le U4 U_/\sW w U U_ [.row A27 c28 105 3 (hH wAB l26)] w_) hf34 ?_ ?_ ?_
  ·have hS35:=hS10.nilrow 105 3
   exact ⟨U4,none,0,Z,Z,Z,Z,Z,Z,(zQ _),hS35⟩
  ·rintro k30 l26 xx39 σ37 W38 hk42 ⟨U44,A27,c28,fi43,f47,f48,f49,f50,f51,le45,hS46⟩ hx40 hb41
   have c52:Hid ((↑k30:Int) < (↑p2.length:Int)):=zB (wBP hk42)
   replace hk42:=zB hk42
   have hi53:Hid (w64 ((↑k30:Int) + 1)=(↑(k30 + 1):Int)):=zB (by have h1:=hle33.out;have h2:=c52.out;rw [wAj] <;> omega)
   refine sR fL1 Z (oR Z (zU Z fi43 f51) (eN (zE (cT Z c52 (kN (zE (zV (sR (.fl 0 (.fl 1 (.fx 2 (.fx 3 (.nil) .stop) .stop))) Z (bnK hx40 fun x54 h55 hm56=>?_)))))))))
   have h57:=ha1.le le8
   have h58:=h57.le le45
   have q:=h58.el (fun _=>rfl) (wAL h55)
   obtain ⟨b59,off60,hA61,hC62⟩:=q
   refine oR Z (zm Z f50 hA61 fi43 zI zG (wAk h55)) (oL Z (hS46.ldC (f:=0) hC62 (v:=jV x54) Z Z zO Z) (ZL (cs:=[jV 0]) Z Z Z Z Z ZD Z hS46 ?_))
   intro W63 b64 hS65
   refine OKS.st (j:=0) (vs:=[jV x54]) Z Z Z Z hS65 Z Z Z Z zG (zu Z) Z Z Z ?_
   intro W67 hS68
   let B0:Res:=.row A27 c28 105 3 (hH wAB l26)
   have hS69:sW w U U44 [.blk b64 3 [jV x54],B0] W67:=hS68
   refine eN (sR (.fl 0 (.fl 1 (.fx 2 (.fl 3 (.nil)) .stop))) Z (oM Z f47 ?_))
   have q:=hS69.freeze (k:=0) rfl
   obtain ⟨U70,le71,hC72,hS73⟩:=q
   replace hC72:=Cl.of hC72
   have hS74:sW w U U70 [B0] W67:=hS73
   replace hC72:Cl U70 b64 0 [jV x54]:=hC72
   refine oR Z (Runs.mkf Z zW (zD Z zW)) ?_
   have h75:=ha0.le le8
   have h76:=h75.le le45
   have h77:=h76.le le71
   have hF78:FnOK Tryz.prog U70 (.func (.func 142) #[] #[.pointer (some ⟨b64,0,none⟩)]) wJA wJB (fun x=>wAp x x54):=⟨142,[],[.pointer (some ⟨b64,0,none⟩)],rfl,Tryz.call142,fun U1 w1 x y vs le hs ha hm=>by obtain rfl:=ha;exact wEW x x54 b64 w1 U1 hs (hC72.le le) hm⟩
   refine bnK hm56 fun x79 h80 hm81=>zM 0 Z Z Z Z (zN Z Z Tryz.call65 (zD Z (zD Z zW)) Z) hS74 (fun hs=>wAg p0 pA0 pc0 (fun x=>wAp x x54) (.func (.func 142) #[] #[.pointer (some ⟨b64,0,none⟩)]) W67 U70 hs h77 hF78 h80) (.inr Z) ?_
   rintro U82 L83 v84 W85 le86 hS87 ⟨rfl,rfl⟩
   have hS88:sW w U U82 [B0] W85:=hS87
   refine oA Z Z (eN (zE (sR fL2 Z (oM Z Z (oR Z (zU Z Z Z) (eN (ifc hm81 ?_ ?_)))))))
   ·intro c89 hm90
    refine cT Z c89 (sR fL2 Z (oA Z Z (oA Z Z (eN (zK (zC (zP (zC ?_))))))))
    have q:=wAO hm90
    obtain ⟨v91,hm92,e93⟩:=q
    obtain rfl:=wAz hm12 hX32 (hb41 v91 e93)
    refine zC (zP (zC ?_))
    cases hm92
    exact ⟨rfl,_,(wET rfl rfl),U82,_,(hS88.pick [] _ (by decide) rfl),rfl,rfl⟩
   ·intro c89 hm94
    refine cF Z c89 (kN (zE (sR fL3 Z (oM Z f49 (oR Z (ze Z Z zA) (oM Z Z (eN (zV ?_))))))))
    have q:=wBJ hm94
    obtain ⟨r98,hX99⟩:=q
    have q:=wBI hX99
    obtain ⟨hle100,hf101⟩:=q
    replace hle100:=zB hle100
    refine ZH (fun k97 _ σ_ w_=>∃ (U_:PHeap),σ_ 34=jV (↑k97:Int)/\σ_ 0=.slice pA0 p0.length pc0/\σ_ 1=jV p1/\σ_ 9=.slice A27 l26.length c28/\σ_ 12=jV x79/\σ_ 21=.slice pA2 p2.length pc2/\σ_ 22=jV (↑p2.length:Int)/\σ_ 23=jV (↑k30:Int)/\σ_ 32=.slice A27 l26.length c28/\σ_ 33=jV (↑l26.length:Int)/\PHeap.Le U82 U_/\sW w U U_ [B0] w_) hf101 ?_ ?_ ?_
    ·exact ⟨U82,Z,f47,f48,f49,Z,f50,f51,fi43,Z,Z,(zQ _),hS88⟩
    ·rintro k97 ⟨⟩ xx104 σ102 W103 hk107 ⟨U109,fi108,f112,f113,f114,f115,f116,f117,f118,f119,f120,le110,hS111⟩ hx105 hb106
     try dsimp only at hx105
     have c121:Hid ((↑k97:Int) < (↑l26.length:Int)):=zB (wBP hk107)
     replace hk107:=zB hk107
     have hi122:Hid (w64 ((↑k97:Int) + 1)=(↑(k97 + 1):Int)):=zB (by have h1:=hle100.out;have h2:=c121.out;rw [wAj] <;> omega)
     refine sR fL1 Z (oR Z (zU Z fi108 f120) (eN (zE (cT Z c121 (kN (zE (zV (sR (.fl 0 (.fl 1 (.fx 2 (.fx 3 (.nil) .stop) .stop))) Z (bnK hx105 fun _ h123 hm124=>?_)))))))))
     obtain ⟨b125,hA126⟩:=hS111.rowSome (j:=0) rfl (by rw [wAG (f:=wAB) (sz:=3) (fun _=>rfl) l26];have hz:=wDM h123;omega)
     refine oR Z (zm Z f119 hA126 fi108 zA zF (wDM h123)) ?_
     have hg127:=wCA (xs:=l26) (wDM h123)
     let B1:List Value:=[jV ((gd l26 k97).Bib),jV ((gd l26 k97).Time),jV ((gd l26 k97).Gate)]
     refine ZJ rfl rfl rfl rfl (hS111.ldRA (j:=0) rfl hA126 rfl rfl zn zF (vs:=B1) (wHL (sz:=3) (fun _=>rfl) _ _ _ hg127 (by first | omega | rfl | simp) rfl) rfl) rfl (ZL (cs:=[jV 0,jV 0,jV 0]) rfl rfl rfl rfl rfl ZE rfl hS111 ?_)
     intro W128 b129 hS130
     refine OKS.st (j:=0) (vs:=B1) Z Z Z Z hS130 Z Z Z Z zF (zu Z) Z Z Z ?_
     intro W132 hS133
     have hS134:sW w U U109 [.blk b129 105 B1,B0] W132:=hS133
     refine eN (zE (ZN ZK [1,3,3,3,1,3,3,3,1,3,3,3,1,2,3,3] (wPY (.fx 13 (.fl 14 (.fl 15 (.nil))) .stop)) (by kernel_rfl) ?_))
     have hS135:=hS134.drew
     generalize hw_W136:({ W132 with drawn:=W132.drawn + 1 }:World)=W136 at hS135 ⊢
     refine oL Z (hS135.ldBA (j:=0) Z Z Z zn zF (vs:=B1) Z Z) (oM Z f112 (oM Z f115 (bnK hm124 fun x137 h138 hm139=>?_)))
     have h140:=h77.le le86
     have h141:=h140.le le110
     have q:=h141.el (fun _=>rfl) (wAL h138)
     obtain ⟨b142,off143,hA144,hC145⟩:=q
     refine oR Z (Runs.iaI Z Z hA144 Z zA zF (wDN h138) (wDo h138)) (oL Z (hS135.ldCA (f:=0) hC145 Z Z zn zF (us:=[jV x137.Bib,jV x137.Time,jV x137.Gate]) Z Z) (oR Z (Runs.eqS (enc:=wAB) (a:=(gd l26 k97)) (b:=x137) Z Z Z wMq wMp) (oM Z Z (ifc hm139 ?_ ?_))))
     ·intro c146 hm147
      refine oT Z c146 (oT Z c146 (oT Z c146 (oT Z c146 (oT Z c146 (oT Z c146 (ZI Z Z Z (zZ Z Z (wDl c146.out) Z) (oT Z c146 (oR Z (zR Z (wDl c146.out) Z) (eN (zp Z (sR fL2 Z (oA Z Z (oA Z Z (eN (zK (zP (zC ?_)))))))))))))))))
      have q:=wAO hm147
      obtain ⟨v148,hm149,e150⟩:=q
      obtain rfl:=wAz hm94 hX99 (hb106 v148 e150)
      refine zC (zP (zC (zP (zC ?_))))
      have q:=wAO hm149
      obtain ⟨v151,hm152,e153⟩:=q
      obtain rfl:=wAz hm12 hX32 (hb41 v151 e153)
      refine zC (zP (zC ?_))
      cases hm152
      exact ⟨rfl,_,(wET rfl rfl),U109,_,(hS135.pick [] _ (by decide) rfl),rfl,rfl⟩
     ·intro c146 hm154
      refine zS Z Z Z (wF Z c146) Z f113 (ZJ Z Z Z (wF Z c146) (hS135.ldBA (j:=0) Z Z Z zn zF (vs:=B1) Z Z) Z (zS Z Z Z (wF Z c146) Z f112 (zS Z Z Z (wF Z c146) Z f115 ?_)))
      have q:=h141.el (fun _=>rfl) (wAL h138)
      obtain ⟨b155,off156,hA157,hC158⟩:=q
      refine rU Z (wF Z c146) (Runs.iaI Z Z hA157 Z zA zF (wDN h138) (wDo h138)) (ZJ Z Z Z (wF Z c146) (hS135.ldCA (f:=0) hC158 Z Z zn zF (us:=[jV x137.Bib,jV x137.Time,jV x137.Gate]) Z Z) Z (bnK hm154 fun x159 h160 hm161=>zM 0 Z Z Z (wF Z c146) (zN Z Z Tryz.call139 (zD Z (zD Z (zD Z zW))) Z) hS135 (fun hs=>wBt p1 (gd l26 k97) x137 W136 U109 hs h160) (.inr Z) ?_))
      rintro U162 L163 v164 W165 le166 hS167 ⟨rfl,rfl⟩
      have hS168:sW w U U162 [.blk b129 105 B1,B0] W165:=hS167
      refine rU Z (wF Z c146) (ZM Z Z) (oR Z (zd Z (zf c146.out) Z) (eN (ifc hm161 ?_ ?_)))
      ·intro c169 hm170
       refine zk (nC c169.out) (ZG (zj (zH (rR fL2 Z (oR Z (zq (zh Z fi108 Z) (congrArg (jV) hi122.out)) (oM Z Z (zr ?_)))))))
       obtain rfl:=nA hm170
       exact zH ⟨rfl,_,rfl,⟨U162,rfl,f112,f113,f114,f115,f116,f117,f118,f119,f120,(le110.trans le166),(hS168.pick [1] _ (by decide) rfl)⟩⟩
      ·intro c169 hm171
       refine zp (nF (c169.out)) (sR fL2 Z (oA Z Z (oA Z Z (eN (zK (zP (zC ?_)))))))
       have q:=wAO hm171
       obtain ⟨v172,hm173,e174⟩:=q
       obtain rfl:=wAz hm94 hX99 (hb106 v172 e174)
       refine zC (zP (zC (zP (zC ?_))))
       have q:=wAO hm173
       obtain ⟨v175,hm176,e177⟩:=q
       obtain rfl:=wAz hm12 hX32 (hb41 v175 e177)
       refine zC (zP (zC ?_))
       cases hm176
       exact ⟨rfl,_,(wET rfl rfl),U162,_,(hS168.pick [] _ (by decide) rfl),rfl,rfl⟩
    ·rintro ⟨⟩ σ178 W179 ⟨U182,fi181,f185,f186,f187,f188,f189,f190,f191,f192,f193,le183,hS184⟩ hb180
     have hm194:=wBh hm94 hX99 hb180
     try dsimp only at hm194
     have c195:Hid (¬ ((↑(((↑l26.length:Int):Int) - 0).toNat:Int) < (↑l26.length:Int))):=zB (wAo)
     refine sR fL1 Z (oR Z (zU Z fi181 f193) (eN (zE (cF Z c195 (ZA (zY (zY (zx (zH (rR (wLb (.fx 5 (.fx 6 (.fl 7 (.nil)) .stop) .stop)) Z (oM Z f187 (oM Z f185 (oM Z f188 (bnK hm194 fun x196 h197 hm198=>?_))))))))))))))
     have h199:=h77.le le86
     have h200:=h199.le le183
     have q:=h200.el (fun _=>rfl) (wAL h197)
     obtain ⟨b201,off202,hA203,hC204⟩:=q
     refine oR Z (Runs.iaI Z Z hA203 Z zA zF (wDN h197) (wDo h197)) (oL Z (hS184.ldCA (f:=0) hC204 Z Z zn zF (us:=[jV x196.Bib,jV x196.Time,jV x196.Gate]) Z Z) ?_)
     let B2:List Value:=[jV x196.Bib,jV x196.Time,jV x196.Gate]
     refine ZC (pv:=[(0,.agg B2.toArray)]) (zs:=[jV 0,jV 0,jV 0]) (cs:=B2) Z Z Z Z Z (wBX Z wBo) zA zF ZE Z Z Z Z Z hS184 ?_
     intro W205 b206 hS207
     let B3:Res:=.row (some ⟨b206,0,none⟩) 1 105 3 (hH wAB [x196])
     have hS209:sW w U U182 [B3,B0] W205:=hS207
     refine bnK hm198 fun x210 h211 hm212=>ZB (j:=1) (enc:=wAB) (xs:=l26) (ys:=[x196]) (zs:=x210) rfl rfl rfl rfl rfl Tryz.underlying95 wHr rfl rfl rfl rfl rfl rfl hS209 rfl rfl rfl (hS209.srcR (j:=0) rfl (by decide) (wAG (f:=wAB) (sz:=3) (fun _=>rfl) [x196])) (fun _=>rfl) (fun _=>rfl) h211 rfl ?_
     intro A213 c214 W215 hS216
     have hS217:sW w U U182 [B3,.row A213 c214 105 3 (hH wAB x210)] W215:=hS216
     refine oA Z Z (zr (zj (zH (rR fL2 Z (oR Z (zq (zh Z f191 Z) (congrArg (jV) hi53.out)) (oM Z Z (zr ?_)))))))
     obtain rfl:=nA hm212
     exact zH ⟨rfl,_,rfl,⟨U182,A213,c214,rfl,f185,f186,rfl,f189,f190,(((le45.trans le71).trans le86).trans le183),(hS217.pick [1] _ (by decide) rfl)⟩⟩
  ·rintro y225 σ221 W222 ⟨U228,A226,c227,fi224,f231,f232,f233,f234,f235,le229,hS230⟩ hb223
   have hm236:=wBh hm12 hX32 hb223
   have c237:Hid (¬ ((↑(((↑p2.length:Int):Int) - 0).toNat:Int) < (↑p2.length:Int))):=zB (wAo)
   refine sR fL1 Z (oR Z (zU Z fi224 f235) (eN (zE (cF Z c237 (ZA (zY (zY (zx (zH (sR fL2 Z (oA Z Z (oA Z Z (eN (zK ?_))))))))))))))
   cases hm236
   exact ⟨rfl,_,(wET rfl rfl),U228,_,(hS230.pick [] _ (by decide) rfl),rfl,rfl⟩
 ·intro c11 hm238
  refine cT Z c11 (sR fL3 Z (oM Z Z (oA Z Z (oA Z Z (eN (zK (zC ?_)))))))
  cases hm238
  exact ⟨Z,_,(wET Z Z),U4,_,hS10,Z,Z⟩
theorem wBd (p0:List wAC) (pA0:Option Addr) (pc0:Nat) (p1:Int) (w:World) (U:PHeap) (hS:St0 w U []) (ha0:Sl U 3 pA0 pc0 p0.length (hH wAE p0)) {r:Int} (hm:wAe p0 p1=some r):Gv Tryz.prog 149 [.slice pA0 p0.length pc0,jV p1] w (wCm w [] U (fun U_ L_ v=>v=jV r/\L_=[])):=by
 unfold wAe at hm
 refine Gv.of Tryz.func149 Z Tryz.ntmps149 Tryz.results149 Z (sR fL1 Z (oA Z Z (eN (zE (sR fL1 Z (oA Z Z (eN (zV ?_))))))))
 have q:=wBJ hm
 obtain ⟨r3,hX4⟩:=q
 have q:=wBI hX4
 obtain ⟨hle5,hf6⟩:=q
 replace hle5:=zB hle5
 refine ZH (fun k2 _ σ_ w_=>∃ (U_:PHeap),σ_ 5=jV (↑k2:Int)/\σ_ 0=.slice pA0 p0.length pc0/\σ_ 1=jV p1/\PHeap.Le U U_/\sW w U U_ [] w_) hf6 ?_ ?_ ?_
 ·exact ⟨U,Z,Z,Z,(zQ _),hS⟩
 ·rintro k2 ⟨⟩ xx9 σ7 W8 hk12 ⟨U14,fi13,f17,f18,le15,hS16⟩ hx10 hb11
  try dsimp only at hx10
  have c19:Hid ((↑k2:Int) < (↑p0.length:Int)):=zB (wBP hk12)
  replace hk12:=zB hk12
  have hi20:Hid (w64 ((↑k2:Int) + 1)=(↑(k2 + 1):Int)):=zB (by have h1:=hle5.out;have h2:=c19.out;rw [wAj] <;> omega)
  refine zE (sR fL4 Z (oM Z fi13 (oM Z f17 (oR Z (ze Z Z zJ) (oR Z (zU Z Z Z) (eN (cT Z c19 (kN (zE (zV (sR fL7 Z (oM Z f17 (oM Z fi13 (bnK hx10 fun x21 h22 hm23=>?_))))))))))))))
  have h24:=ha0.le le15
  have q:=h24.el (fun _=>rfl) (wAL h22)
  obtain ⟨b25,off26,hA27,hC28⟩:=q
  refine oR Z (zm Z Z hA27 Z zJ zg (wAk h22)) (oR Z (zw Z Z zl Z zG) (oL Z (hS16.ldC (f:=0) hC28 (v:=jV x21.Bib) Z Z zO Z) (oM Z f18 (oR Z (Runs.eql Z Z Z) (eN (ifc hm23 ?_ ?_))))))
  ·intro c29 hm30
   refine cT Z c29 (sR fL2 Z (oM Z fi13 (oA Z Z (eN (zK (zP (zC ?_)))))))
   have q:=wAO hm30
   obtain ⟨v31,hm32,e33⟩:=q
   obtain rfl:=wAz hm hX4 (hb11 v31 e33)
   refine zC (zP (zC ?_))
   cases hm32
   exact ⟨Z,_,(zi Z),U14,_,hS16,Z,Z⟩
  ·intro c29 hm34
   refine cF Z c29 (ZG (zj (zH (rR fL3 Z (oM Z fi13 (oR Z (zq (zh Z Z Z) (congrArg (jV) hi20.out)) (oA Z Z (zr ?_))))))))
   obtain rfl:=nA hm34
   exact zH ⟨Z,_,Z,⟨U14,Z,f17,f18,le15,hS16⟩⟩
 ·rintro ⟨⟩ σ35 W36 ⟨U39,fi38,f42,f43,le40,hS41⟩ hb37
  have hm44:=wBh hm hX4 hb37
  try dsimp only at hm44
  have c45:Hid (¬ ((↑(((↑p0.length:Int):Int) - 0).toNat:Int) < (↑p0.length:Int))):=zB (wAo)
  refine zE (sR fL4 Z (oM Z fi38 (oM Z f42 (oR Z (ze Z Z zJ) (oR Z (zU Z Z Z) (eN (cF Z c45 (ZA (zY (zY (zx (zH (sR fL1 Z (oA Z Z (eN (zK ?_))))))))))))))))
  cases hm44
  exact ⟨Z,_,(zi Z),U39,_,hS41,Z,Z⟩
theorem wCC (p0:List wAC) (pA0:Option Addr) (pc0:Nat) (p1:Int) (p2:List Int) (pA2:Option Addr) (pc2:Nat) (w:World) (U:PHeap) (hS:St0 w U []) (ha0:Sl U 3 pA0 pc0 p0.length (hH wAE p0)) (ha1:Sl U 1 pA2 pc2 p2.length (hH KL.encI p2)) {r:Bool × Int} (hm:wAQ p0 p1 p2=some r):Gv Tryz.prog 60 [.slice pA0 p0.length pc0,jV p1,.slice pA2 p2.length pc2] w (wCm w [] U (fun U_ L_ v=>v=.tuple #[.bool r.1,jV r.2]/\L_=[])):=by
 unfold wAQ at hm
 refine Gv.of Tryz.func60 Z Tryz.ntmps60 Tryz.results60 Z (sR fL2 Z (oA Z Z (oA Z Z (eN (zE (sR (.fl 0 (.fl 1 (.fx 2 (.fl 3 (.nil)) .stop))) Z (oM Z Z (oM Z Z (bnK hm fun x1 h2 hm3=>zM 0 Z Z Z Z (zN Z Z Tryz.call147 (zD Z (zD Z zW)) Z) hS (fun hs=>wBT p0 pA0 pc0 p1 w U hs ha0 h2) (.inr Z) ?_)))))))))
 rintro U4 L5 v6 W7 le8 hS9 ⟨rfl,rfl⟩
 have hS10:sW w U U4 [] W7:=hS9
 refine oA Z Z (eN (sR fL2 Z (oM Z Z (oR Z (zy Z Z Z) (eN (ifc hm3 ?_ ?_))))))
 ·intro c11 hm12
  refine zk (zf (fun h=>h c11.out)) (kN (zE (sR fL1 Z (oA Z Z (eN (zV ?_))))))
  have q:=wBJ hm12
  obtain ⟨r15,hX16⟩:=q
  have q:=wBI hX16
  obtain ⟨hle17,hf18⟩:=q
  replace hle17:=zB hle17
  refine ZH (fun k14 _ σ_ w_=>∃ (U_:PHeap),σ_ 9=jV (↑k14:Int)/\σ_ 0=.slice pA0 p0.length pc0/\σ_ 1=jV p1/\σ_ 2=.slice pA2 p2.length pc2/\PHeap.Le U4 U_/\sW w U U_ [] w_) hf18 ?_ ?_ ?_
  ·exact ⟨U4,Z,Z,Z,Z,(zQ _),hS10⟩
  ·rintro k14 ⟨⟩ xx21 σ19 W20 hk24 ⟨U26,fi25,f29,f30,f31,le27,hS28⟩ hx22 hb23
   try dsimp only at hx22
   have c32:Hid ((↑k14:Int) < (↑p2.length:Int)):=zB (wBP hk24)
   replace hk24:=zB hk24
   have hi33:Hid (w64 ((↑k14:Int) + 1)=(↑(k14 + 1):Int)):=zB (by have h1:=hle17.out;have h2:=c32.out;rw [wAj] <;> omega)
   refine zE (sR fL4 Z (oM Z fi25 (oM Z f31 (oR Z (ze Z Z zI) (oR Z (zU Z Z Z) (eN (cT Z c32 (kN (zE (zV (zE (sR (wLb (.fx 5 (.fl 6 (.nil)) .stop)) Z (oM Z f29 (oM Z f31 (oM Z fi25 (bnK hx22 fun x34 h35 hm36=>?_))))))))))))))))
   have h37:=ha1.le le8
   have h38:=h37.le le27
   have q:=h38.el (fun _=>rfl) (wAL h35)
   obtain ⟨b39,off40,hA41,hC42⟩:=q
   refine oR Z (zm Z Z hA41 Z zI zG (wAk h35)) (oL Z (hS28.ldC (f:=0) hC42 (v:=jV x34) Z Z zO Z) ?_)
   have h43:=ha0.le le8
   have h44:=h43.le le27
   refine bnK hm36 fun x45 h46 hm47=>zM 0 Z Z Z Z (zN Z Z Tryz.call149 (zD Z (zD Z zW)) Z) hS28 (fun hs=>wBd p0 pA0 pc0 x34 W20 U26 hs h44 h46) (.inr Z) ?_
   rintro U48 L49 v50 W51 le52 hS53 ⟨rfl,rfl⟩
   have hS54:sW w U U48 [] W51:=hS53
   refine oR Z (zU Z Z Z) (eN (ifc hm47 ?_ ?_))
   ·intro c55 hm56
    refine cT Z c55 (sR fL2 Z (oA Z Z (oA Z Z (eN (zK (zC (zP (zC ?_))))))))
    have q:=wAO hm56
    obtain ⟨v57,hm58,e59⟩:=q
    obtain rfl:=wAz hm12 hX16 (hb23 v57 e59)
    refine zC (zP (zC ?_))
    cases hm58
    exact ⟨Z,_,(wET Z Z),U48,_,hS54,Z,Z⟩
   ·intro c55 hm60
    refine cF Z c55 (kN (sR fL1 Z (oA Z Z (eN (zV ?_)))))
    have q:=wBJ hm60
    obtain ⟨r63,hX64⟩:=q
    have q:=wBI hX64
    obtain ⟨hle65,hf66⟩:=q
    replace hle65:=zB hle65
    refine ZH (fun k62 _ σ_ w_=>∃ (U_:PHeap),σ_ 10=jV (↑k62:Int)/\σ_ 0=.slice pA0 p0.length pc0/\σ_ 1=jV p1/\σ_ 2=.slice pA2 p2.length pc2/\σ_ 9=jV (↑k14:Int)/\PHeap.Le U48 U_/\sW w U U_ [] w_) hf66 ?_ ?_ ?_
    ·exact ⟨U48,Z,f29,f30,f31,fi25,(zQ _),hS54⟩
    ·rintro k62 ⟨⟩ xx69 σ67 W68 hk72 ⟨U74,fi73,f77,f78,f79,f80,le75,hS76⟩ hx70 hb71
     try dsimp only at hx70
     have c81:Hid ((↑k62:Int) < (↑k14:Int)):=zB (wBP hk72)
     replace hk72:=zB hk72
     have hi82:Hid (w64 ((↑k62:Int) + 1)=(↑(k62 + 1):Int)):=zB (by have h1:=hle65.out;have h2:=c81.out;rw [wAj] <;> omega)
     refine zE (sR fL3 rfl (zS rfl rfl rfl rfl rfl fi73 (zS rfl rfl rfl rfl rfl f80 (zz rfl rfl rfl rfl (fun _=>zU rfl rfl rfl) (eN (cT Z c81 (kN (zE (zV (zE (ZN ZK [3,3,3,1,3,3,3,1,3,3,3,3,3,3,3,1,2,3,1,3,3,3,3,3,1,2,3,1,3,2,3,3] (wMz (wOK (.fl 28 (.fx 16 (.fl 17 (.fl 18 (.fx 25 (.fl 26 (.fl 27 (.fx 29 (.fl 30 (.fl 31 (.nil))) .stop))) .stop))) .stop)))) (by kernel_rfl) ?_)))))))))))
     have hS83:=hS76.drew
     generalize hw_W84:({ W68 with drawn:=W68.drawn + 1 }:World)=W84 at hS83 ⊢
     refine oM Z f79 (oM Z f80 ?_)
     have h85:=h38.le le52
     have h86:=h85.le le75
     have q:=h86.el (fun _=>rfl) (wAL h35)
     obtain ⟨b87,off88,hA89,hC90⟩:=q
     refine oR Z (zm Z Z hA89 Z zI zG (wAk h35)) (oL Z (hS83.ldC (f:=0) hC90 (v:=jV x34) Z Z zO Z) (oM Z f79 (oM Z fi73 (bnK hx70 fun x91 h92 hm93=>?_))))
     have q:=h86.el (fun _=>rfl) (wAL h92)
     obtain ⟨b94,off95,hA96,hC97⟩:=q
     refine oR Z (zm Z Z hA96 Z zI zG (wAk h92)) (oL Z (hS83.ldC (f:=0) hC97 (v:=jV x91) Z Z zO Z) (oR Z (Runs.eql Z Z Z) (oM Z Z (ifc hm93 ?_ ?_))))
     ·intro c98 hm99
      refine oT Z c98 (oT Z c98 (oT Z c98 (oT Z c98 (oT Z c98 (oT Z c98 (oT Z c98 (oT Z c98 (oT Z c98 (oT Z c98 (oT Z c98 (oT Z c98 (oT Z c98 (ZI Z Z Z (zZ Z Z (wDl c98.out) Z) (oT Z c98 (oT Z c98 (ZI Z Z Z (zZ Z Z (wDl c98.out) Z) (oT Z c98 (oT Z c98 (ZI Z Z Z (zZ Z Z (wDl c98.out) Z) (oT Z c98 (oR Z (zR Z (wDl c98.out) Z) (eN (zp Z (sR fL2 Z (oA Z Z (oA Z Z (eN (zK (zP (zC ?_))))))))))))))))))))))))))))))
      have q:=wAO hm99
      obtain ⟨v100,hm101,e102⟩:=q
      obtain rfl:=wAz hm60 hX64 (hb71 v100 e102)
      refine zC (zP (zP (zC ?_)))
      have q:=wAO hm101
      obtain ⟨v103,hm104,e105⟩:=q
      obtain rfl:=wAz hm12 hX16 (hb23 v103 e105)
      refine zC (zP (zC ?_))
      cases hm104
      exact ⟨Z,_,(wET Z Z),U74,_,hS83,Z,Z⟩
     ·intro c98 hm106
      refine zS Z Z Z (wF Z c98) Z f77 (zS Z Z Z (wF Z c98) Z f77 (zS Z Z Z (wF Z c98) Z f79 (zS Z Z Z (wF Z c98) Z f80 ?_)))
      have q:=h86.el (fun _=>rfl) (wAL h35)
      obtain ⟨b107,off108,hA109,hC110⟩:=q
      refine rU Z (wF Z c98) (zm Z Z hA109 Z zI zG (wAk h35)) (ZJ Z Z Z (wF Z c98) (hS83.ldC (f:=0) hC110 (v:=jV x34) Z Z zO Z) Z (zS Z Z Z (wF Z c98) Z f77 (zS Z Z Z (wF Z c98) Z f77 (zS Z Z Z (wF Z c98) Z f79 (zS Z Z Z (wF Z c98) Z fi73 ?_)))))
      have q:=h86.el (fun _=>rfl) (wAL h92)
      obtain ⟨b111,off112,hA113,hC114⟩:=q
      refine rU Z (wF Z c98) (zm Z Z hA113 Z zI zG (wAk h92)) (ZJ Z Z Z (wF Z c98) (hS83.ldC (f:=0) hC114 (v:=jV x91) Z Z zO Z) Z (zS Z Z Z (wF Z c98) Z f78 ?_))
      have h115:=h44.le le52
      have h116:=h115.le le75
      refine bnK hm106 fun x117 h118 hm119=>zM 0 Z Z Z (wF Z c98) (zN Z Z Tryz.call149 (zD Z (zD Z zW)) Z) hS83 (fun hs=>wBd p0 pA0 pc0 x34 W84 U74 hs h116 h118) (.inr Z) ?_
      rintro U120 L121 v122 W123 le124 hS125 ⟨rfl,rfl⟩
      have hS126:sW w U U120 [] W123:=hS125
      refine bnK hm119 fun x127 h128 hm129=>?_
      have h130:=h116.le le124
      have q:=h130.el (fun _=>rfl) (wAL h128)
      obtain ⟨b131,off132,hA133,hC134⟩:=q
      refine rU Z (wF Z c98) (Runs.iaI Z Z hA133 Z zJ zg (wDN h128) (wDo h128)) (ZJ Z Z Z (wF Z c98) (hS126.ldCA (f:=0) hC134 Z Z Tryz.isAgg239 zg (us:=[jV x127.Bib,jV x127.Time,jV x127.Gate]) Z Z) Z (bnK hm129 fun x135 h136 hm137=>zM 0 Z Z Z (wF Z c98) (zN Z Z Tryz.call149 (zD Z (zD Z zW)) Z) hS126 (fun hs=>wBd p0 pA0 pc0 x91 W123 U120 hs h130 h136) (.inr Z) ?_))
      rintro U138 L139 v140 W141 le142 hS143 ⟨rfl,rfl⟩
      have hS144:sW w U U138 [] W141:=hS143
      refine bnK hm137 fun x145 h146 hm147=>?_
      have h148:=h130.le le142
      have q:=h148.el (fun _=>rfl) (wAL h146)
      obtain ⟨b149,off150,hA151,hC152⟩:=q
      refine rU Z (wF Z c98) (Runs.iaI Z Z hA151 Z zJ zg (wDN h146) (wDo h146)) (ZJ Z Z Z (wF Z c98) (hS144.ldCA (f:=0) hC152 Z Z Tryz.isAgg239 zg (us:=[jV x145.Bib,jV x145.Time,jV x145.Gate]) Z Z) Z (bnK hm147 fun x153 h154 hm155=>zM 0 Z Z Z (wF Z c98) (zN Z Z Tryz.call148 (zD Z (zD Z (zD Z zW))) Z) hS144 (fun hs=>wBc x127 x145 p1 W141 U138 hs h154) (.inr Z) ?_))
      rintro U156 L157 v158 W159 le160 hS161 ⟨rfl,rfl⟩
      have hS162:sW w U U156 [] W159:=hS161
      refine rU Z (wF Z c98) (ZM Z Z) (oR Z (zd Z (zf c98.out) Z) (eN (ifc hm155 ?_ ?_)))
      ·intro c163 hm164
       refine zk (nC c163.out) (ZG (zj (zH (rR fL3 Z (oM Z fi73 (oR Z (zq (zh Z Z Z) (congrArg (jV) hi82.out)) (oA Z Z (zr ?_))))))))
       obtain rfl:=nA hm164
       exact zH ⟨Z,_,Z,⟨U156,Z,f77,f78,f79,f80,(((le75.trans le124).trans le142).trans le160),hS162⟩⟩
      ·intro c163 hm165
       refine zp (nF (c163.out)) (sR fL2 Z (oA Z Z (oA Z Z (eN (zK (zP (zC ?_)))))))
       have q:=wAO hm165
       obtain ⟨v166,hm167,e168⟩:=q
       obtain rfl:=wAz hm60 hX64 (hb71 v166 e168)
       refine zC (zP (zP (zC ?_)))
       have q:=wAO hm167
       obtain ⟨v169,hm170,e171⟩:=q
       obtain rfl:=wAz hm12 hX16 (hb23 v169 e171)
       refine zC (zP (zC ?_))
       cases hm170
       exact ⟨Z,_,(wET Z Z),U156,_,hS162,Z,Z⟩
    ·rintro ⟨⟩ σ172 W173 ⟨U176,fi175,f179,f180,f181,f182,le177,hS178⟩ hb174
     have hm183:=wBh hm60 hX64 hb174
     try dsimp only at hm183
     have c184:Hid (¬ ((↑(((↑k14:Int):Int) - 0).toNat:Int) < (↑k14:Int))):=zB (wAo)
     refine zE (sR fL3 Z (oM Z fi175 (oM Z f182 (oR Z (zU Z Z Z) (eN (cF Z c184 (ZA (zY (zY (zx (zj (zH (rR fL3 Z (oM Z f182 (oR Z (zq (zh Z Z Z) (congrArg (jV) hi33.out)) (oA Z Z (zr ?_)))))))))))))))))
     obtain rfl:=nA hm183
     exact zH ⟨Z,_,Z,⟨U176,Z,f179,f180,f181,((le27.trans le52).trans le177),hS178⟩⟩
  ·rintro ⟨⟩ σ185 W186 ⟨U189,fi188,f192,f193,f194,le190,hS191⟩ hb187
   have hm195:=wBh hm12 hX16 hb187
   try dsimp only at hm195
   have c196:Hid (¬ ((↑(((↑p2.length:Int):Int) - 0).toNat:Int) < (↑p2.length:Int))):=zB (wAo)
   refine zE (sR fL4 Z (oM Z fi188 (oM Z f194 (oR Z (ze Z Z zI) (oR Z (zU Z Z Z) (eN (cF Z c196 (ZA (zY (zY (zx (zH (sR fL2 Z (oA Z Z (oA Z Z (eN (zK ?_)))))))))))))))))
   cases hm195
   exact ⟨Z,_,(wET Z Z),U189,_,hS191,Z,Z⟩
 ·intro c11 hm197
  refine cT Z c11 (sR fL3 Z (oM Z Z (oA Z Z (oA Z Z (eN (zK (zC ?_)))))))
  cases hm197
  exact ⟨Z,_,(wET Z Z),U4,_,hS10,Z,Z⟩
theorem wFP (p0:wAA) (p1:((wAA × wAA)->Option Bool)) (pb1:Nat) (pv1:Value) (p2:wAA) (pb2:Nat) (w:World) (U:PHeap) (hS:St0 w U []) (ha0:Cl U pb1 0 [pv1]) (ha1:FnOK Tryz.prog U pv1 wPN wPO p1) (ha2:Cl U pb2 0 [jV p2.Bib,jV p2.Time,jV p2.Gate]) {r:Bool} (hm:wAy p0 p1 p2=some r):Gv Tryz.prog 232 [.agg #[jV p0.Bib,jV p0.Time,jV p0.Gate],.pointer (some ⟨pb1,0,none⟩),.pointer (some ⟨pb2,0,none⟩)] w (wCm w [] U (fun U_ L_ v=>v=.bool r/\L_=[])):=by
 unfold wAy at hm
 refine Gv.of Tryz.func232 Z Tryz.ntmps232 Tryz.results232 Z (sR (.fx 0 (.fl 1 (.nil)) .stop) Z ?_)
 let B0:List Value:=[jV p0.Bib,jV p0.Time,jV p0.Gate]
 refine OKS.box (cs:=B0) rfl rfl rfl rfl rfl rfl (by rfl) hS ?_
 intro W1 b2 hS3
 refine oA Z Z (eN (sR (wGa (.fx 3 (.fl 4 (.nil)) .stop)) Z (oL Z (hS3.ldC (f:=0) ha0 (v:=pv1) Z Z Tryz.isAgg238 Z) (oL Z (hS3.ldBA (j:=0) Z Z Z zn zF (vs:=B0) Z Z) (oL Z (hS3.ldCA (f:=0) ha2 Z Z zn zF (us:=[jV p2.Bib,jV p2.Time,jV p2.Gate]) Z Z) (bnK hm fun x5 h6 hm7=>OKS.callV (a:=(p0,p2)) Z Z Z Z Z Z (zD Z (zD Z zW)) hS3 ha1 Z h6 ?_))))))
 rintro U8 L9 v10 W11 le12 hS13 ⟨rfl,rfl⟩
 have hS14:sW w U U8 [.blk b2 105 B0] W11:=hS13
 refine oA Z Z (eN (zK ?_))
 have hE:=nA hm7;first | subst r | cases hE
 exact ⟨rfl,_,(zi rfl),U8,_,(hS14.pick [] _ (by decide) rfl),rfl,rfl⟩
theorem wCk (p0:List wAA) (pA0:Option Addr) (pc0:Nat) (p1:Int) (w:World) (U:PHeap) (hS:St0 w U []) (ha0:Sl U 3 pA0 pc0 p0.length (hH wAB p0)) {r:(List wAA)} (hm:wBL p0 p1=some r):Gv Tryz.prog 137 [.slice pA0 p0.length pc0,jV p1] w (wCm w [] U (fun U_ L_ v=>∃ (A0:Option Addr) (c0:Nat),v=.slice A0 r.length c0/\L_=[]/\Sl U_ 3 A0 c0 r.length (hH wAB r))):=by
 unfold wBL at hm
 refine Gv.of Tryz.func137 Z Tryz.ntmps137 Tryz.results137 Z (sR fL1 Z (oA Z Z (eN (sR (.fl 0 (.fl 1 (.fx 2 (.fx 3 (.nil) .stop) .stop))) Z (oM Z Z (oR Z (Runs.mkf Z (zD Z zW) zW) (ZL (cs:=[.nilFunc]) Z Z Z Z Z Tryz.zeroValue238 Z hS ?_)))))))
 intro W1 b2 hS3
 let B0:List Value:=[.func (.func 139) #[jV p1] #[]]
 refine OKS.st (j:=0) (vs:=B0) Z Z Z Z hS3 Z Z Z Z Tryz.sizeOf238 (zu Z) Z Z Z ?_
 intro W5 hS6
 have hS7:sW w U U [.blk b2 238 B0] W5:=hS6
 refine eN (sR fL1 Z (oA Z Z (eN (zE (sR fL3 Z (oM Z Z (oR Z (ze Z Z zA) (oM Z Z (eN (zV ?_))))))))))
 have q:=hS7.freeze (k:=0) rfl
 obtain ⟨U9,le10,hC11,hS12⟩:=q
 replace hC11:=Cl.of hC11
 have hS13:sW w U U9 [] W5:=hS12
 replace hC11:Cl U9 b2 0 B0:=hC11
 refine bnK hm fun y33 hf30 hm29=>?_
 have q:=wCd hf30
 obtain ⟨hle31,hf32⟩:=q
 replace hle31:=zB hle31
 refine CK.forN' (fun k28 l25 σ_ w_=>∃ (U_:PHeap) (A26:Option Addr) (c27:Nat),σ_ 14=jV (↑k28:Int)/\σ_ 0=.slice pA0 p0.length pc0/\σ_ 5=.pointer (some ⟨b2,0,none⟩)/\σ_ 6=.slice A26 l25.length c27/\σ_ 12=.slice pA0 p0.length pc0/\σ_ 13=jV (↑p0.length:Int)/\PHeap.Le U9 U_/\sW w U U_ [] w_/\Sl U_ 3 A26 c27 l25.length (hH wAB l25)) hf32 ?_ ?_ ?_
 ·exact ⟨U9,none,0,rfl,rfl,rfl,rfl,rfl,rfl,(zQ _),hS13,(by first | exact Sl.nil _ _ _ _ | exact SlR.nil)⟩
 ·rintro k28 l25 xx36 σ34 W35 hk39 ⟨U41,A26,c27,fi40,f44,f45,f46,f47,f48,le42,hS43,h49⟩ hx37
  have c50:Hid ((↑k28:Int) < (↑p0.length:Int)):=zB (wBP hk39)
  replace hk39:=zB hk39
  have hi51:Hid (w64 ((↑k28:Int) + 1)=(↑(k28 + 1):Int)):=zB (by have h1:=hle31.out;have h2:=c50.out;rw [wAj] <;> omega)
  refine sR fL1 Z (oR Z (zU Z fi40 f48) (eN (zE (cT Z c50 (kN (zE (zV (sR (wGa (.fx 3 (.fl 4 (.fx 5 (.nil) .stop)) .stop)) Z (oM Z fi40 (bnK hx37 fun x52 h53 hm54=>?_))))))))))
  have h55:=ha0.le le10
  have h56:=h55.le le42
  have q:=h56.el (fun _=>rfl) (wAL h53)
  obtain ⟨b57,off58,hA59,hC60⟩:=q
  refine oR Z (zm Z f47 hA59 fi40 zA zF (wAk h53)) (oL Z (hS43.ldCA (f:=0) hC60 Z Z zn zF (us:=[jV x52.Bib,jV x52.Time,jV x52.Gate]) Z Z) (ZL (cs:=[jV 0,jV 0,jV 0]) Z Z Z Z Z ZE Z hS43 ?_))
  intro W61 b62 hS63
  refine oA Z Z ?_
  let B1:List Value:=[jV x52.Bib,jV x52.Time,jV x52.Gate]
  refine OKS.st (j:=0) (vs:=B1) Z Z Z Z hS63 Z Z Z Z zF (zu Z) Z Z Z ?_
  intro W65 hS66
  have hS67:sW w U U41 [.blk b62 105 B1] W65:=hS66
  refine eN (sR (wLb (.fx 5 (.fl 6 (.nil)) .stop)) Z (oM Z f44 (oM Z Z (oR Z (zq (zh Z Z Z) (congrArg (jV) hi51.out)) (bnK hm54 fun x68 h69 hm70=>?_)))))
  have q:=Sl.cutM (sz:=3) (f:=wAB) h56 (fun _=>rfl) h69
  obtain ⟨sl79,ha76,hab78,hb77,hn75⟩:=q
  refine zz (v:=.slice (if pc0=(0:Int).toNat then pA0 else nG (·.add ((0:Int).toNat * 3)) pA0) x68.length (pc0 - (0:Int).toNat)) rfl rfl rfl rfl (fun _=>zq (Runs.slc (sz:=3) (a:=0) (b:=(↑(k28 + 1):Int)) rfl rfl (.inr ⟨rfl,rfl⟩) (.inl ⟨_,rfl,rfl⟩) zA zF ha76 hab78 hb77 (h56).cap) (by rw [hn75])) ?_
  generalize hA_A72:(if pc0=(0:Int).toNat then pA0 else nG (·.add ((0:Int).toNat * 3)) pA0)=A72 at sl79 ⊢
  generalize hc_c73:pc0 - (0:Int).toNat=c73 at sl79 ⊢
  have q:=hS67.freeze (k:=0) rfl
  obtain ⟨U80,le81,hC82,hS83⟩:=q
  replace hC82:=Cl.of hC82
  have hS84:sW w U U80 [] W65:=hS83
  replace hC82:Cl U80 b62 0 B1:=hC82
  refine oR Z (Runs.mkf Z zW (zD f45 (zD Z zW))) ?_
  have h85:=sl79.le le81
  have h86:=hC11.le le42
  have h87:=h86.le le81
  have hF88:FnOK Tryz.prog U80 (.func (.func 139) #[jV p1] #[]) wPN wPO (fun x=>wAI p1 x.1 x.2):=⟨139,[jV p1],[],rfl,Tryz.call139,fun U1 w1 x y vs le hs ha hm=>by obtain rfl:=ha;exact wBt p1 x.1 x.2 w1 U1 hs  hm⟩
  have hF89:FnOK Tryz.prog U80 (.func (.func 232) #[] #[.pointer (some ⟨b2,0,none⟩),.pointer (some ⟨b62,0,none⟩)]) wJA wJB (fun x=>wAy x (fun x=>wAI p1 x.1 x.2) x52):=⟨232,[],[.pointer (some ⟨b2,0,none⟩),.pointer (some ⟨b62,0,none⟩)],rfl,Tryz.call232,fun U1 w1 x y vs le hs ha hm=>by obtain rfl:=ha;exact wFP x (fun x=>wAI p1 x.1 x.2) b2 (.func (.func 139) #[jV p1] #[]) x52 b62 w1 U1 hs (h87.le le) (hF88.le le) (hC82.le le) hm⟩
  refine bnK hm70 fun x90 h91 hm92=>zM 0 Z Z Z Z (zN Z Z Tryz.call65 (zD Z (zD Z zW)) Z) hS84 (fun hs=>wAg x68 A72 c73 (fun x=>wAy x (fun x=>wAI p1 x.1 x.2) x52) (.func (.func 232) #[] #[.pointer (some ⟨b2,0,none⟩),.pointer (some ⟨b62,0,none⟩)]) W65 U80 hs h85 hF89 h91) (.inr Z) ?_
  rintro U93 L94 v95 W96 le97 hS98 ⟨rfl,rfl⟩
  have hS99:sW w U U93 [] W96:=hS98
  refine oA Z Z (eN (sR fL7 Z (oM Z Z (oR Z (zq (zh Z Z Z) (congrArg (jV) hi51.out)) (oM Z Z (oR Z (Runs.subw Z Z Z) (oM Z f46 (oR Z (ze Z Z zA) (oR Z (Runs.gtr Z Z Z) (eN (ifc hm92 ?_ ?_)))))))))))
  ·intro c100 hm101
   refine cT Z c100 (rR fL6 Z (oM Z f44 (oM Z Z (oM Z Z (oR Z (zq (zh Z Z Z) (congrArg (jV) hi51.out)) (bnK hm101 fun x102 h103 hm104=>?_))))))
   have h114:=h56.le le81
   have h115:=h114.le le97
   have q:=Sl.cutM (sz:=3) (f:=wAB) h115 (fun _=>rfl) h103
   obtain ⟨sl113,ha110,hab112,hb111,hn109⟩:=q
   refine zz (v:=.slice (if pc0=(x90:Int).toNat then pA0 else nG (·.add ((x90:Int).toNat * 3)) pA0) x102.length (pc0 - (x90:Int).toNat)) rfl rfl rfl rfl (fun _=>zq (Runs.slc (sz:=3) (a:=x90) (b:=(↑(k28 + 1):Int)) rfl rfl (.inl ⟨_,rfl,rfl⟩) (.inl ⟨_,rfl,rfl⟩) zA zF ha110 hab112 hb111 (h115).cap) (by rw [hn109])) ?_
   generalize hA_A106:(if pc0=(x90:Int).toNat then pA0 else nG (·.add ((x90:Int).toNat * 3)) pA0)=A106 at sl113 ⊢
   generalize hc_c107:pc0 - (x90:Int).toNat=c107 at sl113 ⊢
   refine oA Z Z (zr (zj (zH (rR fL2 Z (oR Z (zq (zh Z fi40 Z) (congrArg (jV) hi51.out)) (oM Z Z (zr ?_)))))))
   cases hm104
   exact zH ⟨Z,⟨U93,A106,c107,Z,f44,f45,Z,f47,f48,((le42.trans le81).trans le97),hS99,sl113⟩⟩
  ·intro c100 hm119
   refine cF Z c100 (ZG (zj (zH (rR fL2 Z (oR Z (zq (zh Z fi40 Z) (congrArg (jV) hi51.out)) (oM Z Z (zr ?_)))))))
   cases hm119
   have h123:=h49.le le81
   have h124:=h123.le le97
   exact zH ⟨Z,⟨U93,A26,c27,Z,f44,f45,f46,f47,f48,((le42.trans le81).trans le97),hS99,h124⟩⟩
 ·rintro σ125 W126 ⟨U134,A132,c133,fi128,f137,f138,f139,f140,f141,le135,hS136,h142⟩
  have c143:Hid (¬ ((↑(((↑p0.length:Int):Int) - 0).toNat:Int) < (↑p0.length:Int))):=zB (wAo)
  refine sR fL1 Z (oR Z (zU Z fi128 f141) (eN (zE (cF Z c143 (ZA (zY (zY (zx (zH (sR fL2 Z (oM Z f139 (oA Z Z (eN (zK ?_))))))))))))))
  have hE:=nA hm29;first | subst r | cases hE
  exact ⟨Z,_,(zi Z),U134,_,hS136,A132,c133,Z,Z,h142⟩
end Go.Proofs.YthbficbpebiekaaGreat
namespace Go.Proofs.YthbficbpebiekaaGreat
open Go.KL
set_option maxHeartbeats 4000000
theorem wGQ (p0:List wAA) (pA0:Option Addr) (pc0:Nat) (p1:Int) (w:World) (U:PHeap) (hS:St0 w U []) (ha0:Sl U 3 pA0 pc0 p0.length (hH wAB p0)) {r:Int × Int} (hm:wBM p0 p1=some r):Gv Tryz.prog 47 [.slice pA0 p0.length pc0,jV p1] w (wCm w [] U (fun U_ L_ v=>v=.tuple #[jV r.1,jV r.2]/\L_=[])):=by
 unfold wBM at hm
 refine Gv.of Tryz.func47 Z Tryz.ntmps47 Tryz.results47 Z (sR fL2 Z (oA Z Z (oA Z Z (eN (zE (sR (.fl 0 (.fl 1 (.fx 2 (.fl 3 (.nil)) .stop))) Z (oM Z Z (oM Z Z (bnK hm fun x1 h2 hm3=>zM 0 Z Z Z Z (zN Z Z Tryz.call136 (zD Z (zD Z zW)) Z) hS (fun hs=>wBl p0 pA0 pc0 p1 w U hs ha0 h2) (.inr Z) ?_)))))))))
 rintro U4 L5 v6 W7 le8 hS9 ⟨rfl,rfl⟩
 have hS10:sW w U U4 [] W7:=hS9
 refine oA Z Z (eN (sR fL2 Z (oM Z Z (oR Z (zy Z Z Z) (eN (ifc hm3 ?_ ?_))))))
 ·intro c11 hm12
  refine zk (zf (fun h=>h c11.out)) (kN (sR (.fl 0 (.fl 1 (.fx 2 (wMU (.nil)) .stop))) Z (oM Z Z (oM Z Z ?_))))
  have h13:=ha0.le le8
  refine bnK hm12 fun x14 h15 hm16=>zM 0 Z Z Z Z (zN Z Z Tryz.call137 (zD Z (zD Z zW)) Z) hS10 (fun hs=>wCk p0 pA0 pc0 p1 W7 U4 hs h13 h15) (.inr Z) ?_
  rintro U17 L18 v19 W20 le21 hS22 ⟨A23,c24,rfl,rfl,h25⟩
  have hS26:sW w U U17 [] W20:=hS22
  refine oR Z (ze Z Z zA) (oA Z Z (oA Z Z (eN (zK ?_))))
  cases hm16
  exact ⟨Z,_,(wET Z Z),U17,_,hS26,Z,Z⟩
 ·intro c11 hm27
  refine cT Z c11 (sR fL3 Z (oM Z Z (oA Z Z (oA Z Z (eN (zK (zC ?_)))))))
  cases hm27
  exact ⟨Z,_,(wET Z Z),U4,_,hS10,Z,Z⟩
theorem wDL (p0:List wAC) (pA0:Option Addr) (pc0:Nat) (p1:Int) (w:World) (U:PHeap) (hS:St0 w U []) (ha0:Sl U 3 pA0 pc0 p0.length (hH wAE p0)) {r:Int × Int} (hm:wAY p0 p1=some r):Gv Tryz.prog 61 [.slice pA0 p0.length pc0,jV p1] w (wCm w [] U (fun U_ L_ v=>v=.tuple #[jV r.1,jV r.2]/\L_=[])):=by
 unfold wAY at hm
 refine Gv.of Tryz.func61 Z Tryz.ntmps61 Tryz.results61 Z (sR fL2 Z (oA Z Z (oA Z Z (eN (zE (sR (.fl 0 (.fl 1 (.fx 2 (.fl 3 (.nil)) .stop))) Z (oM Z Z (oM Z Z (bnK hm fun x1 h2 hm3=>zM 0 Z Z Z Z (zN Z Z Tryz.call147 (zD Z (zD Z zW)) Z) hS (fun hs=>wBT p0 pA0 pc0 p1 w U hs ha0 h2) (.inr Z) ?_)))))))))
 rintro U4 L5 v6 W7 le8 hS9 ⟨rfl,rfl⟩
 have hS10:sW w U U4 [] W7:=hS9
 refine oA Z Z (eN (sR fL2 Z (oM Z Z (oR Z (zy Z Z Z) (eN (ifc hm3 ?_ ?_))))))
 ·intro c11 hm12
  refine zk (zf (fun h=>h c11.out)) (kN (sR fL1 Z (oA Z Z (eN (sR fL1 Z (oA Z Z (eN (zE (sR fL1 Z (oA Z Z (eN (zV ?_))))))))))))
  have q:=bnd hm12
  obtain ⟨⟨y39,y40⟩,hf36,hm35⟩:=q
  try dsimp only at hm35
  have q:=wCd hf36
  obtain ⟨hle37,hf38⟩:=q
  replace hle37:=zB hle37
  refine CK.forN' (fun k34 (x29,l30) σ_ w_=>∃ (U_:PHeap) (A31:Option Addr) (c32:Nat),σ_ 9=jV (↑k34:Int)/\σ_ 0=.slice pA0 p0.length pc0/\σ_ 1=jV p1/\σ_ 7=jV x29/\σ_ 8=.slice A31 l30.length c32/\PHeap.Le U4 U_/\sW w U U_ [.row A31 c32 3 1 (hH KL.encI l30)] w_) hf38 ?_ ?_ ?_
  ·have hS41:=hS10.nilrow 3 1
   exact ⟨U4,none,0,Z,Z,Z,Z,Z,(zQ _),hS41⟩
  ·rintro k34 ⟨x29,l30⟩ xx45 σ43 W44 hk48 ⟨U50,A31,c32,fi49,f53,f54,f55,f56,le51,hS52⟩ hx46
   try dsimp only at hx46
   have c57:Hid ((↑k34:Int) < (↑p0.length:Int)):=zB (wBP hk48)
   replace hk48:=zB hk48
   have hi58:Hid (w64 ((↑k34:Int) + 1)=(↑(k34 + 1):Int)):=zB (by have h1:=hle37.out;have h2:=c57.out;rw [wAj] <;> omega)
   refine zE (sR fL4 Z (oM Z fi49 (oM Z f53 (oR Z (ze Z Z zJ) (oR Z (zU Z Z Z) (eN (cT Z c57 (kN (zE (zV (sR fL1 Z (oA Z Z (eN (zE (sR fL1 Z (oA Z Z (eN (zV ?_))))))))))))))))))
   let B0:Res:=.row A31 c32 3 1 (hH KL.encI l30)
   refine CK.iter (fun (x65,b66) σ_ w_=>∃ (U_:PHeap),σ_ 0=.slice pA0 p0.length pc0/\σ_ 1=jV p1/\σ_ 7=jV x29/\σ_ 8=.slice A31 l30.length c32/\σ_ 9=jV (↑k34:Int)/\σ_ 10=jV x65/\σ_ 11=.bool b66/\PHeap.Le U50 U_/\sW w U U_ [B0] w_) hx46 ?_ ?_
   ·exact ⟨U50,f53,f54,f55,f56,fi49,Z,Z,(zQ _),hS52⟩
   ·rintro ⟨x65,b66⟩ xx69 σ67 W68 ⟨U74,f77,f78,f79,f80,f81,f82,f83,le75,hS76⟩ hx70 hb71
    try dsimp only at hx70
    refine zE (sR fL2 Z (oM Z f83 (oR Z (ZM Z Z) (eN ?_))))
    by_cases c84:b66=true
    ·have hm85:=hx70;rw [if_pos c84] at hm85;replace c84:=zB c84
     refine zk (nC c84.out) (ZA (zY ?_))
     have q:=wAO hm85
     obtain ⟨v86,hm87,e88⟩:=q
     obtain rfl:=hb71 v86 e88
     refine zY (zx (zH (sR (.fl 0 (.fl 1 (.fx 2 (.fx 3 (.fl 4 (.nil)) .stop) .stop))) Z (oM Z f80 (oM Z f82 (ZC (pv:=[(0,jV x65)]) (zs:=[jV 0]) (cs:=[jV x65]) Z Z Z Z Z (wBX Z wBo) zI zG ZD Z Z Z Z Z hS76 ?_))))))
     intro W89 b90 hS91
     let B1:Res:=.row (some ⟨b90,0,none⟩) 1 3 1 (hH KL.encI [x65])
     have hS93:sW w U U74 [B1,B0] W89:=hS91
     refine bnK hm87 fun x94 h95 hm96=>ZB (j:=1) (enc:=KL.encI) (xs:=l30) (ys:=[x65]) (zs:=x94) rfl rfl rfl rfl rfl zt wDf rfl rfl rfl rfl rfl rfl hS93 rfl rfl rfl (hS93.srcR (j:=0) rfl (by decide) (wAG (f:=KL.encI) (sz:=1) (fun _=>rfl) [x65])) (fun _=>rfl) (fun _=>rfl) h95 rfl ?_
     intro A97 c98 W99 hS100
     have hS101:sW w U U74 [B1,.row A97 c98 3 1 (hH KL.encI x94)] W99:=hS100
     refine oA Z Z (eN (rR fL4 Z (oM Z f79 (oM Z f82 (oR Z (Runs.max Z Z Z) (oA Z Z (zr (zj (zH (rR fL3 Z (oM Z f81 (oR Z (zq (zh Z Z Z) (congrArg (jV) hi58.out)) (oA Z Z (zr ?_))))))))))))))
     cases hm96
     exact zH ⟨rfl,⟨U74,A97,c98,rfl,f77,f78,rfl,rfl,(le51.trans le75),(hS101.pick [1] _ (by decide) rfl)⟩⟩
    ·have hm106:=hx70;rw [if_neg c84] at hm106;replace c84:=zB c84
     refine zp (nF (c84.out)) (kN (zV (sR fL1 Z (oA Z Z (eN (zE (sR fL1 Z (oA Z Z (eN (zV (bnK hm106 fun y118 hf115 hm114=>?_)))))))))))
     have q:=wCd hf115
     obtain ⟨hle116,hf117⟩:=q
     replace hle116:=zB hle116
     refine CK.forN' (fun k113 b112 σ_ w_=>∃ (U_:PHeap),σ_ 12=jV (↑k113:Int)/\σ_ 0=.slice pA0 p0.length pc0/\σ_ 1=jV p1/\σ_ 7=jV x29/\σ_ 8=.slice A31 l30.length c32/\σ_ 9=jV (↑k34:Int)/\σ_ 10=jV x65/\σ_ 11=.bool b112/\PHeap.Le U74 U_/\sW w U U_ [B0] w_) hf117 ?_ ?_ ?_
     ·exact ⟨U74,Z,f77,f78,f79,f80,f81,f82,Z,(zQ _),hS76⟩
     ·rintro k113 b112 xx121 σ119 W120 hk124 ⟨U126,fi125,f129,f130,f131,f132,f133,f134,f135,le127,hS128⟩ hx122
      have c136:Hid ((↑k113:Int) < (↑k34:Int)):=zB (wBP hk124)
      replace hk124:=zB hk124
      have hi137:Hid (w64 ((↑k113:Int) + 1)=(↑(k113 + 1):Int)):=zB (by have h1:=hle116.out;have h2:=c136.out;rw [wAj] <;> omega)
      refine zE (sR fL3 rfl (zS rfl rfl rfl rfl rfl fi125 (zS rfl rfl rfl rfl rfl f133 (zz rfl rfl rfl rfl (fun _=>zU rfl rfl rfl) (eN (cT Z c136 (kN (zE (zV (zE (ZN ZK [3,3,3,1,3,3,3,3,3,3,1,3,3,3,1,3,2,3] (wMz (.fx 16 (.fl 17 (.nil)) .stop)) (by kernel_rfl) ?_)))))))))))
      have hS138:=hS128.drew
      generalize hw_W139:({ W120 with drawn:=W120.drawn + 1 }:World)=W139 at hS138 ⊢
      refine oM Z f132 (oM Z fi125 (bnK hx122 fun _ h140 hm141=>?_))
      obtain ⟨b142,hA143⟩:=hS138.rowSome (j:=0) rfl (by rw [wAG (f:=KL.encI) (sz:=1) (fun _=>rfl) l30];have hz:=wDM h140;omega)
      refine oR Z (zm Z Z hA143 Z zI zG (wDM h140)) ?_
      have hg144:=wCA (xs:=l30) (wDM h140)
      refine ZJ rfl rfl rfl rfl (hS138.ldR (j:=0) rfl hA143 rfl rfl zO (wGk (sz:=1) (fun _=>rfl) _ _ 0 _ hg144 (by first | omega | rfl | simp) rfl)) rfl (zS rfl rfl rfl rfl rfl f134 (zz rfl rfl rfl rfl (fun _=>Runs.eql rfl rfl rfl) (zS rfl rfl rfl rfl rfl rfl (ifc hm141 ?_ ?_))))
      ·intro c145 hm146
       refine zS Z Z Z (wT Z c145) Z f129 (zS Z Z Z (wT Z c145) Z f133 (bnK hm146 fun x147 h148 hm149=>?_))
       have h150:=ha0.le le8
       have h151:=h150.le le51
       have h152:=h151.le le75
       have h153:=h152.le le127
       have q:=h153.el (fun _=>rfl) (wAL h148)
       obtain ⟨b154,off155,hA156,hC157⟩:=q
       refine rU Z (wT Z c145) (zm Z Z hA156 Z zJ zg (wAk h148)) (ZJ Z Z Z (wT Z c145) (hS138.ldCA (f:=0) hC157 Z Z Tryz.isAgg239 zg (us:=[jV x147.Bib,jV x147.Time,jV x147.Gate]) Z Z) Z (zS Z Z Z (wT Z c145) Z f129 (zS Z Z Z (wT Z c145) Z fi125 (bnK hm149 fun x158 h159 hm160=>?_))))
       have q:=h153.el (fun _=>rfl) (wAL h159)
       obtain ⟨b161,off162,hA163,hC164⟩:=q
       refine rU Z (wT Z c145) (zm Z Z hA163 Z zJ zg (wAk h159)) (ZJ Z Z Z (wT Z c145) (hS138.ldCA (f:=0) hC164 Z Z Tryz.isAgg239 zg (us:=[jV x158.Bib,jV x158.Time,jV x158.Gate]) Z Z) Z (zS Z Z Z (wT Z c145) Z f130 (bnK hm160 fun x165 h166 hm167=>zM 0 Z Z Z (wT Z c145) (zN Z Z Tryz.call148 (zD Z (zD Z (zD Z zW))) Z) hS138 (fun hs=>wBc x147 x158 p1 W139 U126 hs h166) (.inr Z) ?_)))
       rintro U168 L169 v170 W171 le172 hS173 ⟨rfl,rfl⟩
       have hS174:sW w U U168 [B0] W171:=hS173
       refine oR Z (zR Z (wDl c145.out) Z) (eN (ifc hm167 ?_ ?_))
       ·intro c175 hm176
        refine zp (congrArg nB c175.out) (rR fL1 Z (oA Z Z (zr (zj (zH (rR fL3 Z (oM Z fi125 (oR Z (zq (zh Z Z Z) (congrArg (jV) hi137.out)) (oA Z Z (zr ?_))))))))))
        cases hm176
        exact zH ⟨Z,⟨U168,Z,f129,f130,f131,f132,f133,f134,Z,(le127.trans le172),hS174⟩⟩
       ·intro c175 hm178
        refine zk (congrArg nB (nD.2 c175.out)) (ZG (zj (zH (rR fL3 Z (oM Z fi125 (oR Z (zq (zh Z Z Z) (congrArg (jV) hi137.out)) (oA Z Z (zr ?_))))))))
        cases hm178
        exact zH ⟨Z,⟨U168,Z,f129,f130,f131,f132,f133,f134,f135,(le127.trans le172),hS174⟩⟩
      ·intro c145 hm180
       refine oF Z c145 (oF Z c145 (oF Z c145 (oF Z c145 (oF Z c145 (oF Z c145 (oF Z c145 (oF Z c145 (oF Z c145 (ZI Z Z Z (zZ Z Z (zf c145.out) Z) (oR Z (zd Z (zf c145.out) Z) (eN (zk Z (ZG (zj (zH (rR fL3 Z (oM Z fi125 (oR Z (zq (zh Z Z Z) (congrArg (jV) hi137.out)) (oA Z Z (zr ?_))))))))))))))))))))
       cases hm180
       exact zH ⟨Z,⟨U126,Z,f129,f130,f131,f132,f133,f134,f135,le127,hS138⟩⟩
     ·rintro σ182 W183 ⟨U187,fi185,f190,f191,f192,f193,f194,f195,f196,le188,hS189⟩
      have c197:Hid (¬ ((↑(((↑k34:Int):Int) - 0).toNat:Int) < (↑k34:Int))):=zB (wAo)
      refine zE (sR fL3 Z (oM Z fi185 (oM Z f194 (oR Z (zU Z Z Z) (eN (cF Z c197 (ZA (zY (zY (zx (zH (sR fL2 Z (oM Z f196 (oR Z (ZM Z Z) (eN (ifc hm114 ?_ ?_))))))))))))))))
      ·intro c198 hm199
       refine zk (nC c198.out) (ZG (zj ?_))
       obtain rfl:=nA hm199
       exact zH ⟨Z,_,Z,⟨U187,f190,f191,f192,f193,f194,f195,f196,(le75.trans le188),hS189⟩⟩
      ·intro c198 hm202
       refine zp (nF (c198.out)) (rR fL3 Z (oM Z f195 (oR Z (zh Z Z Z) (oA Z Z (zr (zj ?_))))))
       obtain rfl:=nA hm202
       exact zH ⟨Z,_,Z,⟨U187,f190,f191,f192,f193,f194,Z,f196,(le75.trans le188),hS189⟩⟩
  ·rintro σ205 W206 ⟨U215,A213,c214,fi208,f218,f219,f220,f221,le216,hS217⟩
   have c222:Hid (¬ ((↑(((↑p0.length:Int):Int) - 0).toNat:Int) < (↑p0.length:Int))):=zB (wAo)
   refine zE (sR fL4 Z (oM Z fi208 (oM Z f218 (oR Z (ze Z Z zJ) (oR Z (zU Z Z Z) (eN (cF Z c222 (ZA (zY (zY (zx (zH (sR fL3 Z (oM Z f220 (oA Z Z (oA Z Z (eN (zK ?_))))))))))))))))))
   cases hm35
   exact ⟨rfl,_,(wET rfl rfl),U215,_,(hS217.pick [] _ (by decide) rfl),rfl,rfl⟩
 ·intro c11 hm223
  refine cT Z c11 (sR fL3 Z (oM Z Z (oA Z Z (oA Z Z (eN (zK (zC ?_)))))))
  cases hm223
  exact ⟨Z,_,(wET Z Z),U4,_,hS10,Z,Z⟩
theorem wBY (p0:List wAA) (pA0:Option Addr) (pc0:Nat) (w:World) (U:PHeap) (hS:St0 w U []) (ha0:Sl U 3 pA0 pc0 p0.length (hH wAB p0)) {r:(List wAA)} (hm:wAH p0=some r):Gv Tryz.prog 138 [.slice pA0 p0.length pc0] w (wCm w [] U (fun U_ L_ v=>∃ (A0:Option Addr) (c0:Nat),v=.slice A0 r.length c0/\L_=[.row A0 c0 105 3 (hH wAB r)])):=by
 unfold wAH at hm
 refine Gv.of Tryz.func138 Z Tryz.ntmps138 Tryz.results138 Z (sR fL1 Z (oA Z Z (eN (zE (sR fL2 Z (oM Z Z (oR Z (Runs.eqNil Z Z Z zA) (eN ?_))))))))
 by_cases c1:pA0.isNone=true
 ·replace c1:=zB c1
  have hp2:p0=[]:=List.eq_nil_of_length_eq_zero (Sl.nilA (Option.isNone_iff_eq_none.1 c1.out ▸ ha0))
  have hm3:(some [])=some r:=by simpa [hp2,app] using hm
  refine zp (congrArg nB c1.out) (sR fL1 Z (oA Z Z (eN (zK (zC ?_)))))
  have hS4:=hS.nilrow 105 3
  cases hm3
  exact ⟨Z,_,(zi Z),U,_,hS4,none,0,Z,Z⟩
 ·replace c1:=zB c1
  refine zk (congrArg nB (nD.2 c1.out)) (kN (sR (.fx 0 (.fl 1 (.fx 2 (.fl 3 (.nil)) .stop)) .stop) Z (OKS.buildSlice0 3 Z Z Z Z Z zA zF hS ?_)))
  intro W6 b7 hS8
  have hS10:sW w U U [.row (some ⟨b7,0,none⟩) 0 105 3 (hH wAB ([]:List wAA))] W6:=hS8
  refine oM Z Z (bnK hm fun x11 h12 hm13=>ZB (j:=0) (enc:=wAB) (xs:=([]:List wAA)) (ys:=p0) (zs:=x11) Z Z Z Z Z Tryz.underlying95 wHr Z Z Z Z Z Z hS10 Z Z Z (hS10.srcS ha0) (fun _=>Z) (fun _=>Z) h12 Z ?_)
  intro A14 c15 W16 hS17
  have hS18:sW w U U [.row A14 c15 105 3 (hH wAB x11)] W16:=hS17
  refine oA Z Z (eN (zK ?_))
  have hE:=nA hm13;first | subst r | cases hE
  exact ⟨Z,_,(zi Z),U,_,hS18,A14,c15,Z,Z⟩
theorem wGR (p0:List wAA) (pA0:Option Addr) (pc0:Nat) (p1:Int) (w:World) (U:PHeap) (hS:St0 w U []) (ha0:Sl U 3 pA0 pc0 p0.length (hH wAB p0)) {r:(List wAA) × Int} (hm:wBN p0 p1=some r):Gv Tryz.prog 48 [.slice pA0 p0.length pc0,jV p1] w (wCm w [] U (fun U_ L_ v=>∃ (A0:Option Addr) (c0:Nat),v=.tuple #[.slice A0 r.1.length c0,jV r.2]/\L_=[.row A0 c0 105 3 (hH wAB r.1)])):=by
 unfold wBN at hm
 refine Gv.of Tryz.func48 Z Tryz.ntmps48 Tryz.results48 Z (sR fL2 Z (oA Z Z (oA Z Z (eN (zE (sR (.fl 0 (.fl 1 (.fx 2 (.fl 3 (.nil)) .stop))) Z (oM Z Z (oM Z Z (bnK hm fun x1 h2 hm3=>zM 0 Z Z Z Z (zN Z Z Tryz.call136 (zD Z (zD Z zW)) Z) hS (fun hs=>wBl p0 pA0 pc0 p1 w U hs ha0 h2) (.inr Z) ?_)))))))))
 rintro U4 L5 v6 W7 le8 hS9 ⟨rfl,rfl⟩
 have hS10:sW w U U4 [] W7:=hS9
 refine oA Z Z (eN (sR fL2 Z (oM Z Z (oR Z (zy Z Z Z) (eN (ifc hm3 ?_ ?_))))))
 ·intro c11 hm12
  refine zk (zf (fun h=>h c11.out)) (kN (sR (.fl 0 (.fl 1 (.fx 2 (.fl 3 (.fl 4 (.nil))) .stop))) Z (oM Z Z (oM Z Z ?_))))
  have h13:=ha0.le le8
  refine bnK hm12 fun x14 h15 hm16=>zM 0 Z Z Z Z (zN Z Z Tryz.call137 (zD Z (zD Z zW)) Z) hS10 (fun hs=>wCk p0 pA0 pc0 p1 W7 U4 hs h13 h15) (.inr Z) ?_
  rintro U17 L18 v19 W20 le21 hS22 ⟨A23,c24,rfl,rfl,h25⟩
  have hS26:sW w U U17 [] W20:=hS22
  refine oR Z (ze Z Z zA) (oA Z Z (eN (sR (.fl 0 (.fx 1 (.fl 2 (.nil)) .stop)) Z (oM Z Z ?_))))
  have h27:=h13.le le21
  refine bnK hm16 fun x28 h29 hm30=>zM 0 Z Z Z Z (zN Z Z Tryz.call138 (zD Z zW) Z) hS26 (fun hs=>wBY p0 pA0 pc0 W20 U17 hs h27 h29) (.inr Z) ?_
  rintro U31 L32 v33 W34 le35 hS36 ⟨A37,c38,rfl,rfl⟩
  have hS40:sW w U U31 [.row A37 c38 105 3 (hH wAB x28)] W34:=hS36
  refine oA Z Z (eN (zE (sR fL3 Z (oM Z Z (oR Z (ze Z Z zA) (oM Z Z (eN (zV (bnK hm30 fun y52 hf49 hm48=>?_)))))))))
  have q:=wCd hf49
  obtain ⟨hle50,hf51⟩:=q
  replace hle50:=zB hle50
  refine CK.forN' (fun k47 l46 σ_ w_=>∃ (U_:PHeap),σ_ 24=jV (↑k47:Int)/\σ_ 7=jV (↑x14.length:Int)/\σ_ 8=.slice A37 l46.length c38/\σ_ 23=jV (↑x28.length:Int)/\PHeap.Le U31 U_/\sW w U U_ [.row A37 c38 105 3 (hH wAB l46)] w_/\l46.length=x28.length) hf51 ?_ ?_ ?_
  ·exact ⟨U31,Z,Z,Z,Z,(zQ _),hS40,Z⟩
  ·rintro k47 l46 xx55 σ53 W54 hk58 ⟨U60,fi59,f63,f64,f65,le61,hS62,h66⟩ hx56
   have c67:Hid ((↑k47:Int) < (↑x28.length:Int)):=zB (wBP hk58)
   replace hk58:=zB hk58
   have hi68:Hid (w64 ((↑k47:Int) + 1)=(↑(k47 + 1):Int)):=zB (by have h1:=hle50.out;have h2:=c67.out;rw [wAj] <;> omega)
   refine sR fL1 Z (oR Z (zU Z fi59 f65) (eN (zE (cT Z c67 (kN (zE (zV (sR fL2 Z (oM Z fi59 (oA Z Z (eN (rR (fC0_7 (.fx 8 (.nil) .stop)) Z (oM Z f64 (oM Z Z (oM Z Z (oM Z f63 (bnK hx56 fun x69 h70 hm71=>oR Z (Runs.rem Z Z Z h70) (oR Z (zh Z Z Z) (bnK hm71 fun _ h72 hm73=>?_)))))))))))))))))))
   obtain ⟨b74,hA75⟩:=hS62.rowSome (j:=0) rfl (by rw [wAG (f:=wAB) (sz:=3) (fun _=>rfl) l46];have hz:=wDM h72;omega)
   refine oR Z (zm Z Z hA75 Z zA zF (wDM h72)) (oR Z (zw Z Z zX Z zG) ?_)
   have hg76:=wCA (xs:=l46) (wDM h72)
   refine OKS.stR (j:=0) (vs:=[jV (w64 (x69 + 1))]) (cs':=hH wAB (List.set l46 k47 (⟨(gd l46 k47).Bib,(gd l46 k47).Time,w64 (x69 + 1)⟩:wAA))) rfl rfl rfl rfl hS62 rfl hA75 rfl rfl rfl zG (by rw [wAG (f:=wAB) (sz:=3) (fun _=>rfl)];have hz:=wDM h72;simp only [nL,nI,nJ,List.length_cons,List.length_nil];omega) rfl (wNF (sz:=3) (fo:=2) (fun _=>rfl) _ _ _ _ hg76 (by first | omega | (simp only [nL,nI,nJ];omega)) (zu rfl) rfl) rfl ?_
   intro W77 hS78
   have hS79:sW w U U60 [.row A37 c38 105 3 (hH wAB (List.set l46 k47 (⟨(gd l46 k47).Bib,(gd l46 k47).Time,w64 (x69 + 1)⟩:wAA)))] W77:=hS78
   refine zr (zj (zH (rR fL2 Z (oR Z (zq (zh Z fi59 Z) (congrArg (jV) hi68.out)) (oM Z Z (zr ?_))))))
   cases hm73
   exact zH ⟨rfl,⟨U60,rfl,f63,(Eq.trans (b:=(.slice A37 l46.length c38:Value)) (c:=(.slice A37 ((List.set l46 k47 (⟨(gd l46 k47).Bib,(gd l46 k47).Time,w64 (x69 + 1)⟩:wAA)).length) c38:Value)) f64 (by simp only [List.length_set])),f65,le61,hS79,(by simp only [List.length_set];exact h66)⟩⟩
  ·rintro σ81 W82 ⟨U86,fi84,f89,f90,f91,le87,hS88,h92⟩
   have c93:Hid (¬ ((↑(((↑x28.length:Int):Int) - 0).toNat:Int) < (↑x28.length:Int))):=zB (wAo)
   refine sR fL1 Z (oR Z (zU Z fi84 f91) (eN (zE (cF Z c93 (ZA (zY (zY (zx (zH (sR fL3 Z (oM Z f90 (oA Z Z (oA Z Z (eN (zK ?_)))))))))))))))
   cases hm48
   exact ⟨Z,_,(wET Z Z),U86,_,hS88,A37,c38,Z,Z⟩
 ·intro c11 hm94
  refine cT Z c11 (sR fL3 Z (oM Z Z (oA Z Z (oA Z Z (eN (zK (zC ?_)))))))
  have hS95:=hS10.nilrow 105 3
  cases hm94
  exact ⟨Z,_,(wET Z Z),U4,_,hS95,none,0,Z,Z⟩
theorem wGS (p0:List wAA) (pA0:Option Addr) (pc0:Nat) (p1:Int) (w:World) (U:PHeap) (hS:St0 w U []) (ha0:Sl U 3 pA0 pc0 p0.length (hH wAB p0)) {r:(List Int) × Int} (hm:wBO p0 p1=some r):Gv Tryz.prog 49 [.slice pA0 p0.length pc0,jV p1] w (wCm w [] U (fun U_ L_ v=>∃ (A0:Option Addr) (c0:Nat),v=.tuple #[.slice A0 r.1.length c0,jV r.2]/\L_=[.row A0 c0 3 1 (hH KL.encI r.1)])):=by
 unfold wBO at hm
 refine Gv.of Tryz.func49 Z Tryz.ntmps49 Tryz.results49 Z (sR fL2 Z (oA Z Z (oA Z Z (eN (zE (sR (.fl 0 (.fl 1 (.fx 2 (.fl 3 (.nil)) .stop))) Z (oM Z Z (oM Z Z (bnK hm fun x1 h2 hm3=>zM 0 Z Z Z Z (zN Z Z Tryz.call136 (zD Z (zD Z zW)) Z) hS (fun hs=>wBl p0 pA0 pc0 p1 w U hs ha0 h2) (.inr Z) ?_)))))))))
 rintro U4 L5 v6 W7 le8 hS9 ⟨rfl,rfl⟩
 have hS10:sW w U U4 [] W7:=hS9
 refine oA Z Z (eN (sR fL2 Z (oM Z Z (oR Z (zy Z Z Z) (eN (ifc hm3 ?_ ?_))))))
 ·intro c11 hm12
  refine zk (zf (fun h=>h c11.out)) (kN (sR fL1 Z (oA Z Z (eN (zE (sR (.fl 0 (.fl 1 (.fx 2 (.fl 3 (.fl 4 (.nil))) .stop))) Z (oM Z Z (oM Z Z ?_))))))))
  have h13:=ha0.le le8
  refine bnK hm12 fun x14 h15 hm16=>zM 0 Z Z Z Z (zN Z Z Tryz.call137 (zD Z (zD Z zW)) Z) hS10 (fun hs=>wCk p0 pA0 pc0 p1 W7 U4 hs h13 h15) (.inr Z) ?_
  rintro U17 L18 v19 W20 le21 hS22 ⟨A23,c24,rfl,rfl,h25⟩
  have hS26:sW w U U17 [] W20:=hS22
  refine oR Z (ze Z Z zA) (oM Z Z (eN (zV (bnK hm16 fun y49 hf46 hm45=>?_))))
  have q:=wCd hf46
  obtain ⟨hle47,hf48⟩:=q
  replace hle47:=zB hle47
  refine CK.forN' (fun k44 l40 σ_ w_=>∃ (U_:PHeap) (A41:Option Addr) (c42:Nat),σ_ 20=jV (↑k44:Int)/\σ_ 7=.slice A41 l40.length c42/\σ_ 18=.slice A23 x14.length c24/\σ_ 19=jV (↑x14.length:Int)/\PHeap.Le U17 U_/\sW w U U_ [.row A41 c42 3 1 (hH KL.encI l40)] w_) hf48 ?_ ?_ ?_
  ·have hS50:=hS26.nilrow 3 1
   exact ⟨U17,none,0,Z,Z,Z,Z,(zQ _),hS50⟩
  ·rintro k44 l40 xx54 σ52 W53 hk57 ⟨U59,A41,c42,fi58,f62,f63,f64,le60,hS61⟩ hx55
   have c65:Hid ((↑k44:Int) < (↑x14.length:Int)):=zB (wBP hk57)
   replace hk57:=zB hk57
   have hi66:Hid (w64 ((↑k44:Int) + 1)=(↑(k44 + 1):Int)):=zB (by have h1:=hle47.out;have h2:=c65.out;rw [wAj] <;> omega)
   refine sR fL1 Z (oR Z (zU Z fi58 f64) (eN (zE (cT Z c65 (kN (zE (zV (sR (.fl 0 (.fl 1 (.fx 2 (.fx 3 (.nil) .stop) .stop))) Z (bnK hx55 fun x67 h68 hm69=>?_)))))))))
   have h70:=h25.le le60
   have q:=h70.el (fun _=>rfl) (wAL h68)
   obtain ⟨b71,off72,hA73,hC74⟩:=q
   refine oR Z (zm Z f63 hA73 fi58 zA zF (wAk h68)) (oL Z (hS61.ldCA (f:=0) hC74 Z Z zn zF (us:=[jV x67.Bib,jV x67.Time,jV x67.Gate]) Z Z) (ZL (cs:=[jV 0,jV 0,jV 0]) Z Z Z Z Z ZE Z hS61 ?_))
   intro W75 b76 hS77
   let B0:List Value:=[jV x67.Bib,jV x67.Time,jV x67.Gate]
   refine OKS.st (j:=0) (vs:=B0) Z Z Z Z hS77 Z Z Z Z zF (zu Z) Z Z Z ?_
   intro W79 hS80
   let B1:Res:=.row A41 c42 3 1 (hH KL.encI l40)
   have hS81:sW w U U59 [.blk b76 105 B0,B1] W79:=hS80
   refine eN (rR (wGa (.fx 3 (.fx 4 (.fl 5 (.nil)) .stop) .stop)) Z (oM Z f62 (oR Z (zw Z Z zX Z zG) (oL Z (hS81.ldB (j:=0) Z Z Z zO (v:=jV x67.Bib) Z) (ZC (pv:=[(0,jV x67.Bib)]) (zs:=[jV 0]) (cs:=[jV x67.Bib]) Z Z Z Z Z (wBX Z wBo) zI zG ZD Z Z Z Z Z hS81 ?_)))))
   intro W82 b83 hS84
   let B2:Res:=.row (some ⟨b83,0,none⟩) 1 3 1 (hH KL.encI [x67.Bib])
   have hS86:sW w U U59 [B2,.blk b76 105 B0,B1] W82:=hS84
   refine bnK hm69 fun x87 h88 hm89=>ZB (j:=2) (enc:=KL.encI) (xs:=l40) (ys:=[x67.Bib]) (zs:=x87) rfl rfl rfl rfl rfl zt wDf rfl rfl rfl rfl rfl rfl hS86 rfl rfl rfl (hS86.srcR (j:=0) rfl (by decide) (wAG (f:=KL.encI) (sz:=1) (fun _=>rfl) [x67.Bib])) (fun _=>rfl) (fun _=>rfl) h88 rfl ?_
   intro A90 c91 W92 hS93
   have hS94:sW w U U59 [B2,.blk b76 105 B0,.row A90 c91 3 1 (hH KL.encI x87)] W92:=hS93
   refine oA Z Z (zr (zj (zH (rR fL2 Z (oR Z (zq (zh Z fi58 Z) (congrArg (jV) hi66.out)) (oM Z Z (zr ?_)))))))
   cases hm89
   exact zH ⟨rfl,⟨U59,A90,c91,rfl,rfl,f63,f64,le60,(hS94.pick [2] _ (by decide) rfl)⟩⟩
  ·rintro σ98 W99 ⟨U107,A105,c106,fi101,f110,f111,f112,le108,hS109⟩
   have c113:Hid (¬ ((↑(((↑x14.length:Int):Int) - 0).toNat:Int) < (↑x14.length:Int))):=zB (wAo)
   refine sR fL1 Z (oR Z (zU Z fi101 f112) (eN (zE (cF Z c113 (ZA (zY (zY (zx (zH (sR fL3 Z (oM Z f110 (oA Z Z (oA Z Z (eN (zK ?_)))))))))))))))
   cases hm45
   exact ⟨Z,_,(wET Z Z),U107,_,hS109,A105,c106,Z,Z⟩
 ·intro c11 hm114
  refine cT Z c11 (sR fL3 Z (oM Z Z (oA Z Z (oA Z Z (eN (zK (zC ?_)))))))
  have hS115:=hS10.nilrow 3 1
  cases hm114
  exact ⟨Z,_,(wET Z Z),U4,_,hS115,none,0,Z,Z⟩
theorem wBH (p0:List wAA) (pA0:Option Addr) (pc0:Nat) (p1:List wAA) (pA1:Option Addr) (pc1:Nat) (w:World) (U:PHeap) (hS:St0 w U []) (ha0:Sl U 3 pA0 pc0 p0.length (hH wAB p0)) (ha1:Sl U 3 pA1 pc1 p1.length (hH wAB p1)) {r:Bool} (hm:wAK p0 p1=some r):Gv Tryz.prog 62 [.slice pA0 p0.length pc0,.slice pA1 p1.length pc1] w (wCm w [] U (fun U_ L_ v=>v=.bool r/\L_=[])):=by
 unfold wAK at hm
 refine Gv.of Tryz.func62 Z Tryz.ntmps62 Tryz.results62 Z (sR fL1 Z (oA Z Z (eN (zE (sR fL5 Z (oM Z Z (oR Z (ze Z Z zA) (oM Z Z (oR Z (ze Z Z zA) (oR Z (zy Z Z Z) (eN ?_)))))))))))
 by_cases c1:(↑p0.length:Int)=(↑p1.length:Int)
 ·have hm2:=hm;rw [if_pos c1] at hm2;replace c1:=zB c1
  refine zk (zf (fun h=>h c1.out)) (kN (zE (sR fL3 Z (oM Z Z (oR Z (ze Z Z zA) (oM Z Z (eN (zV ?_))))))))
  have q:=wBJ hm2
  obtain ⟨r5,hX6⟩:=q
  have q:=wBI hX6
  obtain ⟨hle7,hf8⟩:=q
  replace hle7:=zB hle7
  refine ZH (fun k4 _ σ_ w_=>∃ (U_:PHeap),σ_ 13=jV (↑k4:Int)/\σ_ 0=.slice pA0 p0.length pc0/\σ_ 1=.slice pA1 p1.length pc1/\σ_ 12=jV (↑p0.length:Int)/\PHeap.Le U U_/\sW w U U_ [] w_) hf8 ?_ ?_ ?_
  ·exact ⟨U,Z,Z,Z,Z,(zQ _),hS⟩
  ·rintro k4 ⟨⟩ xx11 σ9 W10 hk14 ⟨U16,fi15,f19,f20,f21,le17,hS18⟩ hx12 hb13
   try dsimp only at hx12
   have c22:Hid ((↑k4:Int) < (↑p0.length:Int)):=zB (wBP hk14)
   replace hk14:=zB hk14
   have hi23:Hid (w64 ((↑k4:Int) + 1)=(↑(k4 + 1):Int)):=zB (by have h1:=hle7.out;have h2:=c22.out;rw [wAj] <;> omega)
   refine sR fL1 rfl (zz rfl rfl rfl rfl (fun _=>zU rfl fi15 f21) (eN (zE (cT Z c22 (kN (zE (zV (sR fL2 rfl (zS rfl rfl rfl rfl rfl fi15 (OKS.ra rfl rfl rfl rfl rfl rfl (eN (zE (ZN ZK [3,3,3,1,3,3,3,1,3] fL9 (by kernel_rfl) ?_)))))))))))))
   have hS24:=hS18.drew
   generalize hw_W25:({ W10 with drawn:=W10.drawn + 1 }:World)=W25 at hS24 ⊢
   refine oM Z f19 (oM Z Z (bnK hx12 fun x26 h27 hm28=>?_))
   have h29:=ha0.le le17
   have q:=h29.el (fun _=>rfl) (wAL h27)
   obtain ⟨b30,off31,hA32,hC33⟩:=q
   refine oR Z (zm Z Z hA32 Z zA zF (wAk h27)) (oL Z (hS24.ldCA (f:=0) hC33 Z Z zn zF (us:=[jV x26.Bib,jV x26.Time,jV x26.Gate]) Z Z) (oM Z f20 (oM Z Z (bnK hm28 fun x34 h35 hm36=>?_))))
   have h37:=ha1.le le17
   have q:=h37.el (fun _=>rfl) (wAL h35)
   obtain ⟨b38,off39,hA40,hC41⟩:=q
   refine oR Z (zm Z Z hA40 Z zA zF (wAk h35)) (oL Z (hS24.ldCA (f:=0) hC41 Z Z zn zF (us:=[jV x34.Bib,jV x34.Time,jV x34.Gate]) Z Z) (oR Z (zq (Runs.neS (enc:=wAB) (a:=x26) (b:=x34) Z Z Z wMq wMp) (congrArg nB (decide_not).symm)) (eN (ifc hm36 ?_ ?_))))
   ·intro c42 hm43
    refine zk (zf (fun h=>h c42.out)) (ZG (zj (zH (rR fL2 Z (oR Z (zq (zh Z fi15 Z) (congrArg (jV) hi23.out)) (oM Z Z (zr ?_)))))))
    obtain rfl:=nA hm43
    exact zH ⟨Z,_,Z,⟨U16,Z,f19,f20,f21,le17,hS24⟩⟩
   ·intro c42 hm44
    refine cT Z c42 (sR fL1 Z (oA Z Z (eN (zK (zP (zC ?_))))))
    have q:=wAO hm44
    obtain ⟨v45,hm46,e47⟩:=q
    obtain rfl:=wAz hm2 hX6 (hb13 v45 e47)
    refine zC (zP (zC ?_))
    have hE:=nA hm46;first | subst r | cases hE
    exact ⟨Z,_,(zi Z),U16,_,hS24,Z,Z⟩
  ·rintro ⟨⟩ σ48 W49 ⟨U52,fi51,f55,f56,f57,le53,hS54⟩ hb50
   have hm58:=wBh hm2 hX6 hb50
   try dsimp only at hm58
   have c59:Hid (¬ ((↑(((↑p0.length:Int):Int) - 0).toNat:Int) < (↑p0.length:Int))):=zB (wAo)
   refine sR fL1 Z (oR Z (zU Z fi51 f57) (eN (zE (cF Z c59 (ZA (zY (zY (zx (zH (sR fL1 Z (oA Z Z (eN (zK ?_)))))))))))))
   have hE:=nA hm58;first | subst r | cases hE
   exact ⟨Z,_,(zi Z),U52,_,hS54,Z,Z⟩
 ·have hm60:=hm;rw [if_neg c1] at hm60;replace c1:=zB c1
  refine cT Z c1 (sR fL1 Z (oA Z Z (eN (zK (zC ?_)))))
  have hE:=nA hm60;first | subst r | cases hE
  exact ⟨Z,_,(zi Z),U,_,hS,Z,Z⟩
theorem wBn (p0:List Int) (pA0:Option Addr) (pc0:Nat) (p1:List Int) (pA1:Option Addr) (pc1:Nat) (w:World) (U:PHeap) (hS:St0 w U []) (ha0:Sl U 1 pA0 pc0 p0.length (hH KL.encI p0)) (ha1:Sl U 1 pA1 pc1 p1.length (hH KL.encI p1)) {r:Bool} (hm:wAb p0 p1=some r):Gv Tryz.prog 20 [.slice pA0 p0.length pc0,.slice pA1 p1.length pc1] w (wCm w [] U (fun U_ L_ v=>v=.bool r/\L_=[])):=by
 unfold wAb at hm
 refine Gv.of Tryz.func20 Z Tryz.ntmps20 Tryz.results20 Z (sR fL1 Z (oA Z Z (eN (zE (sR fL5 Z (oM Z Z (oR Z (ze Z Z zI) (oM Z Z (oR Z (ze Z Z zI) (oR Z (zy Z Z Z) (eN ?_)))))))))))
 by_cases c1:(↑p0.length:Int)=(↑p1.length:Int)
 ·have hm2:=hm;rw [if_pos c1] at hm2;replace c1:=zB c1
  refine zk (zf (fun h=>h c1.out)) (kN (zE (sR fL3 Z (oM Z Z (oR Z (ze Z Z zI) (oM Z Z (eN (zV ?_))))))))
  have q:=wBJ hm2
  obtain ⟨r5,hX6⟩:=q
  have q:=wBI hX6
  obtain ⟨hle7,hf8⟩:=q
  replace hle7:=zB hle7
  refine ZH (fun k4 _ σ_ w_=>∃ (U_:PHeap),σ_ 13=jV (↑k4:Int)/\σ_ 0=.slice pA0 p0.length pc0/\σ_ 1=.slice pA1 p1.length pc1/\σ_ 12=jV (↑p0.length:Int)/\PHeap.Le U U_/\sW w U U_ [] w_) hf8 ?_ ?_ ?_
  ·exact ⟨U,Z,Z,Z,Z,(zQ _),hS⟩
  ·rintro k4 ⟨⟩ xx11 σ9 W10 hk14 ⟨U16,fi15,f19,f20,f21,le17,hS18⟩ hx12 hb13
   try dsimp only at hx12
   have c22:Hid ((↑k4:Int) < (↑p0.length:Int)):=zB (wBP hk14)
   replace hk14:=zB hk14
   have hi23:Hid (w64 ((↑k4:Int) + 1)=(↑(k4 + 1):Int)):=zB (by have h1:=hle7.out;have h2:=c22.out;rw [wAj] <;> omega)
   refine sR fL1 rfl (zz rfl rfl rfl rfl (fun _=>zU rfl fi15 f21) (eN (zE (cT Z c22 (kN (zE (zV (sR fL2 rfl (zS rfl rfl rfl rfl rfl fi15 (OKS.ra rfl rfl rfl rfl rfl rfl (eN (zE (ZN ZK [3,3,3,1,3,3,3,1,3] fL9 (by kernel_rfl) ?_)))))))))))))
   have hS24:=hS18.drew
   generalize hw_W25:({ W10 with drawn:=W10.drawn + 1 }:World)=W25 at hS24 ⊢
   refine oM Z f19 (oM Z Z (bnK hx12 fun x26 h27 hm28=>?_))
   have h29:=ha0.le le17
   have q:=h29.el (fun _=>rfl) (wAL h27)
   obtain ⟨b30,off31,hA32,hC33⟩:=q
   refine oR Z (zm Z Z hA32 Z zI zG (wAk h27)) (oL Z (hS24.ldC (f:=0) hC33 (v:=jV x26) Z Z zO Z) (oM Z f20 (oM Z Z (bnK hm28 fun x34 h35 hm36=>?_))))
   have h37:=ha1.le le17
   have q:=h37.el (fun _=>rfl) (wAL h35)
   obtain ⟨b38,off39,hA40,hC41⟩:=q
   refine oR Z (zm Z Z hA40 Z zI zG (wAk h35)) (oL Z (hS24.ldC (f:=0) hC41 (v:=jV x34) Z Z zO Z) (oR Z (zy Z Z Z) (eN (ifc hm36 ?_ ?_))))
   ·intro c42 hm43
    refine zk (zf (fun h=>h c42.out)) (ZG (zj (zH (rR fL2 Z (oR Z (zq (zh Z fi15 Z) (congrArg (jV) hi23.out)) (oM Z Z (zr ?_)))))))
    obtain rfl:=nA hm43
    exact zH ⟨Z,_,Z,⟨U16,Z,f19,f20,f21,le17,hS24⟩⟩
   ·intro c42 hm44
    refine cT Z c42 (sR fL1 Z (oA Z Z (eN (zK (zP (zC ?_))))))
    have q:=wAO hm44
    obtain ⟨v45,hm46,e47⟩:=q
    obtain rfl:=wAz hm2 hX6 (hb13 v45 e47)
    refine zC (zP (zC ?_))
    have hE:=nA hm46;first | subst r | cases hE
    exact ⟨Z,_,(zi Z),U16,_,hS24,Z,Z⟩
  ·rintro ⟨⟩ σ48 W49 ⟨U52,fi51,f55,f56,f57,le53,hS54⟩ hb50
   have hm58:=wBh hm2 hX6 hb50
   try dsimp only at hm58
   have c59:Hid (¬ ((↑(((↑p0.length:Int):Int) - 0).toNat:Int) < (↑p0.length:Int))):=zB (wAo)
   refine sR fL1 Z (oR Z (zU Z fi51 f57) (eN (zE (cF Z c59 (ZA (zY (zY (zx (zH (sR fL1 Z (oA Z Z (eN (zK ?_)))))))))))))
   have hE:=nA hm58;first | subst r | cases hE
   exact ⟨Z,_,(zi Z),U52,_,hS54,Z,Z⟩
 ·have hm60:=hm;rw [if_neg c1] at hm60;replace c1:=zB c1
  refine cT Z c1 (sR fL1 Z (oA Z Z (eN (zK (zC ?_)))))
  have hE:=nA hm60;first | subst r | cases hE
  exact ⟨Z,_,(zi Z),U,_,hS,Z,Z⟩
theorem wCW (p0:List wAA) (pA0:Option Addr) (pc0:Nat) (p1:Int) (p2:List Int) (pA2:Option Addr) (pc2:Nat) (w:World) (U:PHeap) (hS:St0 w U []) (ha0:Sl U 3 pA0 pc0 p0.length (hH wAB p0)) (ha1:Sl U 1 pA2 pc2 p2.length (hH KL.encI p2)) {r:Bool} (hm:wAl p0 p1 p2=some r):Gv Tryz.prog 7 [.slice pA0 p0.length pc0,jV p1,.slice pA2 p2.length pc2] w (wCm w [] U (fun U_ L_ v=>v=.bool r/\L_=[])):=by
 unfold wAl at hm
 refine Gv.of Tryz.func7 Z Tryz.ntmps7 Tryz.results7 Z (sR fL1 Z (oA Z Z (eN (zE (sR fL8 Z (oM Z Z (oR Z (ze Z Z zA) (oR Z (Runs.gtr Z Z Z) (oM Z Z ?_)))))))))
 by_cases c1:64 < (↑p0.length:Int)
 ·have hm2:=hm;rw [if_pos c1] at hm2;replace c1:=zB c1
  refine oT Z c1 (oT Z c1 (oT Z c1 (oR Z (zR Z (wDl c1.out) Z) (eN (zp Z (sR (.fx 0 (.fl 1 (.nil)) .stop) Z (bnK hm2 fun x3 h4 hm5=>zM 0 Z Z Z Z (zN Z Z Tryz.call45 zW Z) hS (fun hs=>wBC w U hs h4) (.inr Z) ?_)))))))
  rintro U6 L7 v8 W9 le10 hS11 ⟨rfl,rfl⟩
  have hS12:sW w U U6 [] W9:=hS11
  refine oA Z Z (eN (zK (zC ?_)))
  have hE:=nA hm5;first | subst r | cases hE
  exact ⟨Z,_,(zi Z),U6,_,hS12,Z,Z⟩
 ·have hm13:=hm;rw [if_neg c1] at hm13;replace c1:=zB c1
  refine zS Z Z Z (wF Z c1) Z Z (rU Z (wF Z c1) (ze Z Z zI) (rU Z (wF Z c1) (Runs.gtr Z Z Z) (oR Z (zd Z (zf c1.out) Z) (eN (ifc hm13 ?_ ?_)))))
  ·intro c14 hm15
   refine cT Z c14 (sR (.fx 0 (.fl 1 (.nil)) .stop) Z (bnK hm15 fun x16 h17 hm18=>zM 0 Z Z Z Z (zN Z Z Tryz.call45 zW Z) hS (fun hs=>wBC w U hs h17) (.inr Z) ?_))
   rintro U19 L20 v21 W22 le23 hS24 ⟨rfl,rfl⟩
   have hS25:sW w U U19 [] W22:=hS24
   refine oA Z Z (eN (zK (zC ?_)))
   have hE:=nA hm18;first | subst r | cases hE
   exact ⟨Z,_,(zi Z),U19,_,hS25,Z,Z⟩
  ·intro c14 hm26
   refine cF Z c14 (kN (sR (.fl 0 (.fx 1 (.fl 2 (.fx 3 (.fl 4 (.fx 5 (fC6_8 (.nil)) .stop)) .stop)) .stop)) Z (oM Z Z (bnK hm26 fun x27 h28 hm29=>zM 0 Z Z Z Z (zN Z Z Tryz.call52 (zD Z zW) Z) hS (fun hs=>wCB p0 pA0 pc0 w U hs ha0 h28) (.inr Z) ?_))))
   rintro U30 L31 v32 W33 le34 hS35 ⟨A36,c37,rfl,rfl⟩
   let B0:Res:=.row A36 c37 105 3 (hH wAB x27)
   have hS39:sW w U U30 [B0] W33:=hS35
   refine oM Z Z ?_
   have h40:=ha1.le le34
   refine bnK hm29 fun x41 h42 hm43=>zM 0 Z Z Z Z (zN Z Z Tryz.call34 (zD Z zW) Z) hS39 (fun hs=>wCr p2 pA2 pc2 W33 U30 hs h40 h42) (.inr Z) ?_
   rintro U44 L45 v46 W47 le48 hS49 ⟨A50,c51,rfl,rfl⟩
   let B1:Res:=.row A50 c51 3 1 (hH KL.encI x41)
   have hS53:sW w U U44 [B1,B0] W47:=hS49
   refine oM Z Z ?_
   have h54:=ha0.le le34
   have h55:=h54.le le48
   refine bnK hm43 fun x56 h57 hm58=>zM 0 Z Z Z Z (zN Z Z Tryz.call56 (zD Z zW) Z) hS53 (fun hs=>wCN p0 pA0 pc0 W47 U44 hs h55 h57) (.inr Z) ?_
   rintro U59 L60 v61 W62 le63 hS64 ⟨A65,c66,rfl,rfl⟩
   let B2:Res:=.row A65 c66 239 3 (hH wAE x56)
   have hS68:sW w U U59 [B2,B1,B0] W62:=hS64
   refine oA Z Z (oA Z Z (oA Z Z (eN (zE (sR (.fl 0 (.fx 1 (.fl 2 (.fx 3 (.fl 4 (.nil)) .stop)) .stop)) Z (oM Z Z ?_))))))
   have q:=hS68.freezeR (k:=2) (n:=x27.length) rfl (wAG (f:=wAB) (sz:=3) (fun _=>rfl) x27) (by decide)
   obtain ⟨U69,le70,hs71,hS72⟩:=q
   have hS73:sW w U U69 [B2,B1] W62:=hS72
   refine bnK hm58 fun x74 h75 hm76=>zM 0 Z Z Z Z (zN Z Z Tryz.call57 (zD Z zW) Z) hS73 (fun hs=>wCa x27 A36 c37 W62 U69 hs hs71 h75) (.inr Z) ?_
   rintro U77 L78 v79 W80 le81 hS82 ⟨rfl,rfl⟩
   have hS83:sW w U U77 [B2,B1] W80:=hS82
   refine oM Z Z ?_
   have q:=hS83.freezeR (k:=0) (n:=x56.length) rfl (wAG (f:=wAE) (sz:=3) (fun _=>rfl) x56) (by decide)
   obtain ⟨U84,le85,hs86,hS87⟩:=q
   have hS88:sW w U U84 [B1] W80:=hS87
   refine bnK hm76 fun x89 h90 hm91=>zM 0 Z Z Z Z (zN Z Z Tryz.call58 (zD Z zW) Z) hS88 (fun hs=>wBg x56 A65 c66 W80 U84 hs hs86 h90) (.inr Z) ?_
   rintro U92 L93 v94 W95 le96 hS97 ⟨rfl,rfl⟩
   have hS98:sW w U U92 [B1] W95:=hS97
   refine oR Z (zy Z Z Z) (eN (ifc hm91 ?_ ?_))
   ·intro c99 hm100
    refine zk (zf (fun h=>h c99.out)) (kN (sR (.fl 0 (.fl 1 (.fx 2 (wJJ (.nil)) .stop))) Z (oM Z Z (oM Z Z ?_))))
    have h101:=hs71.le le81
    have h102:=h101.le le85
    have h103:=h102.le le96
    have q:=bnd hm100
    obtain ⟨⟨x104,x105⟩,h106,hm107⟩:=q
    try dsimp only at hm107
    refine zM 0 Z Z Z Z (zN Z Z Tryz.call50 (zD Z (zD Z zW)) Z) hS98 (fun hs=>wGP x27 A36 c37 p1 W95 U92 hs h103 h106) (.inr Z) ?_
    rintro U108 L109 v110 W111 le112 hS113 ⟨rfl,rfl⟩
    have hS114:sW w U U108 [B1] W111:=hS113
    refine oM Z Z (oR Z (ZF Z Z (v:=.bool x104) Z) (oR Z (ZF Z Z (v:=jV x105) Z) (oA Z Z (oA Z Z (eN (sR (.fl 0 (.fl 1 (.fx 2 (wJJ (.nil)) .stop))) Z (oM Z Z (oM Z Z ?_))))))))
    have h115:=hs86.le le96
    have h116:=h115.le le112
    have q:=bnd hm107
    obtain ⟨⟨x117,x118⟩,h119,hm120⟩:=q
    try dsimp only at hm120
    refine zM 0 Z Z Z Z (zN Z Z Tryz.call59 (zD Z (zD Z zW)) Z) hS114 (fun hs=>wCF x56 A65 c66 p1 W111 U108 hs h116 h119) (.inr Z) ?_
    rintro U121 L122 v123 W124 le125 hS126 ⟨rfl,rfl⟩
    have hS127:sW w U U121 [B1] W124:=hS126
    refine oM Z Z (oR Z (ZF Z Z (v:=.bool x117) Z) (oR Z (ZF Z Z (v:=jV x118) Z) (oA Z Z (oA Z Z (eN (zE (zE (CK.fresh fun σ128 hσ129=>?_))))))))
    have f130:σ128 0=.slice pA0 p0.length pc0:=(hσ129 0).trans rfl
    have f131:σ128 1=jV p1:=(hσ129 1).trans rfl
    have f132:σ128 2=.slice pA2 p2.length pc2:=(hσ129 2).trans rfl
    have f133:σ128 7=.slice A36 x27.length c37:=(hσ129 7).trans rfl
    have f134:σ128 8=.slice A50 x41.length c51:=(hσ129 8).trans rfl
    have f135:σ128 9=.slice A65 x56.length c66:=(hσ129 9).trans rfl
    have f136:σ128 10=.bool x104:=(hσ129 10).trans rfl
    have f137:σ128 11=jV x105:=(hσ129 11).trans rfl
    have f138:σ128 12=.bool x117:=(hσ129 12).trans rfl
    have f139:σ128 13=jV x118:=(hσ129 13).trans rfl
    clear hσ129
    refine rR fL8 Z (oM Z f137 (oM Z f139 (oR Z (zy Z Z Z) (oM Z Z (ifc hm120 ?_ ?_)))))
    ·intro c140 hm141
     refine zS Z Z Z (zL Z Z (zf (fun h=>h c140.out))) Z f136 (zS Z Z Z (zL Z Z (zf (fun h=>h c140.out))) Z f138 (zz Z Z Z (zL Z Z (zf (fun h=>h c140.out))) (fun _=>Runs.neB Z Z Z Tryz.runUnderlying4) (oR Z (zd Z (zf (fun h=>h c140.out)) Z) (eN (ifc hm141 ?_ ?_)))))
     ·intro c142 hm143
      refine zk (nC c142.out) (kN (sR (wGa (.fx 3 (wMV (.nil)) .stop)) Z (oM Z f133 (oM Z f131 (oM Z f134 ?_)))))
      have q:=hS127.freezeR (k:=0) (n:=x41.length) rfl (wAG (f:=KL.encI) (sz:=1) (fun _=>rfl) x41) (by decide)
      obtain ⟨U144,le145,hs146,hS147⟩:=q
      have hS148:sW w U U144 [] W124:=hS147
      have h149:=h103.le le112
      have h150:=h149.le le125
      have h151:=h150.le le145
      have q:=bnd hm143
      obtain ⟨⟨x152,x153⟩,h154,hm155⟩:=q
      try dsimp only at hm155
      refine zM 0 Z Z Z Z (zN Z Z Tryz.call51 (zD Z (zD Z (zD Z zW))) Z) hS148 (fun hs=>wFb x27 A36 c37 p1 x41 A50 c51 W124 U144 hs h151 hs146 h154) (.inr Z) ?_
      rintro U156 L157 v158 W159 le160 hS161 ⟨rfl,rfl⟩
      have hS162:sW w U U156 [] W159:=hS161
      refine oM Z Z (oR Z (ZF Z Z (v:=.bool x152) Z) (oR Z (ZF Z Z (v:=jV x153) Z) (oA Z Z (oA Z Z (eN (sR (wGa (.fx 3 (wMV (.nil)) .stop)) Z (oM Z f135 (oM Z f131 (oM Z f132 ?_)))))))))
      have h163:=h116.le le125
      have h164:=h163.le le145
      have h165:=h164.le le160
      have h166:=h40.le le48
      have h167:=h166.le le63
      have h168:=h167.le le70
      have h169:=h168.le le81
      have h170:=h169.le le85
      have h171:=h170.le le96
      have h172:=h171.le le112
      have h173:=h172.le le125
      have h174:=h173.le le145
      have h175:=h174.le le160
      have q:=bnd hm155
      obtain ⟨⟨x176,x177⟩,h178,hm179⟩:=q
      try dsimp only at hm179
      refine zM 0 Z Z Z Z (zN Z Z Tryz.call60 (zD Z (zD Z (zD Z zW))) Z) hS162 (fun hs=>wCC x56 A65 c66 p1 p2 pA2 pc2 W159 U156 hs h165 h175 h178) (.inr Z) ?_
      rintro U180 L181 v182 W183 le184 hS185 ⟨rfl,rfl⟩
      have hS186:sW w U U180 [] W183:=hS185
      refine oM Z Z (oR Z (ZF Z Z (v:=.bool x176) Z) (oR Z (ZF Z Z (v:=jV x177) Z) (oA Z Z (oA Z Z (eN (zE (sR fL8 Z (oM Z Z (oM Z Z (oR Z (zy Z Z Z) (oM Z Z (ifc hm179 ?_ ?_))))))))))))
      ·intro c187 hm188
       refine zS Z Z Z (zL Z Z (zf (fun h=>h c187.out))) Z Z (zS Z Z Z (zL Z Z (zf (fun h=>h c187.out))) Z Z (zz Z Z Z (zL Z Z (zf (fun h=>h c187.out))) (fun _=>Runs.neB Z Z Z Tryz.runUnderlying4) (oR Z (zd Z (zf (fun h=>h c187.out)) Z) (eN (ifc hm188 ?_ ?_)))))
       ·intro c189 hm190
        refine zk (nC c189.out) (kN (sR (.fl 0 (.fl 1 (.fx 2 (wJJ (.nil)) .stop))) Z (oM Z f133 (oM Z f131 ?_))))
        have h191:=h151.le le160
        have h192:=h191.le le184
        have q:=bnd hm190
        obtain ⟨⟨x193,x194⟩,h195,hm196⟩:=q
        try dsimp only at hm196
        refine zM 0 Z Z Z Z (zN Z Z Tryz.call47 (zD Z (zD Z zW)) Z) hS186 (fun hs=>wGQ x27 A36 c37 p1 W183 U180 hs h192 h195) (.inr Z) ?_
        rintro U197 L198 v199 W200 le201 hS202 ⟨rfl,rfl⟩
        have hS203:sW w U U197 [] W200:=hS202
        refine oM Z Z (oR Z (ZF Z Z (v:=jV x193) Z) (oR Z (ZF Z Z (v:=jV x194) Z) (oA Z Z (oA Z Z (eN (zE (CK.fresh fun σ204 hσ205=>?_)))))))
        have f206:σ204 0=.slice pA0 p0.length pc0:=(hσ205 0).trans f130
        have f207:σ204 1=jV p1:=(hσ205 1).trans f131
        have f208:σ204 2=.slice pA2 p2.length pc2:=(hσ205 2).trans f132
        have f209:σ204 7=.slice A36 x27.length c37:=(hσ205 7).trans f133
        have f210:σ204 8=.slice A50 x41.length c51:=(hσ205 8).trans f134
        have f211:σ204 9=.slice A65 x56.length c66:=(hσ205 9).trans f135
        have f212:σ204 11=jV x194:=(hσ205 11).trans rfl
        have f213:σ204 13=jV x177:=(hσ205 13).trans rfl
        have f214:σ204 14=jV x193:=(hσ205 14).trans rfl
        clear hσ205
        refine rR (.fl 0 (.fl 1 (.fx 2 (wJJ (.nil)) .stop))) Z (oM Z f211 (oM Z f207 ?_))
        have h215:=h165.le le184
        have h216:=h215.le le201
        have q:=bnd hm196
        obtain ⟨⟨x217,x218⟩,h219,hm220⟩:=q
        try dsimp only at hm220
        refine zM 0 Z Z Z Z (zN Z Z Tryz.call61 (zD Z (zD Z zW)) Z) hS203 (fun hs=>wDL x56 A65 c66 p1 W200 U197 hs h216 h219) (.inr Z) ?_
        rintro U221 L222 v223 W224 le225 hS226 ⟨rfl,rfl⟩
        have hS227:sW w U U221 [] W224:=hS226
        refine oM Z Z (oR Z (ZF Z Z (v:=jV x217) Z) (oR Z (ZF Z Z (v:=jV x218) Z) (oA Z Z (oA Z Z (eN (sR (.fl 0 (.fl 1 (.fx 2 (wJJ (.nil)) .stop))) Z (oM Z f209 (oM Z f207 ?_))))))))
        have h228:=h192.le le201
        have h229:=h228.le le225
        have q:=bnd hm220
        obtain ⟨⟨x230,x231⟩,h232,hm233⟩:=q
        try dsimp only at hm233
        refine zM 0 Z Z Z Z (zN Z Z Tryz.call48 (zD Z (zD Z zW)) Z) hS227 (fun hs=>wGR x27 A36 c37 p1 W224 U221 hs h229 h232) (.inr Z) ?_
        rintro U234 L235 v236 W237 le238 hS239 ⟨A240,c241,rfl,rfl⟩
        let B3:Res:=.row A240 c241 105 3 (hH wAB x230)
        have hS243:sW w U U234 [B3] W237:=hS239
        refine oM Z Z (oR Z (ZF Z Z (v:=.slice A240 x230.length c241) Z) (oR Z (ZF Z Z (v:=jV x231) Z) (oA Z Z (oA Z Z (eN (sR (.fl 0 (.fl 1 (.fx 2 (wJJ (.nil)) .stop))) Z (oM Z f209 (oM Z f207 ?_))))))))
        have h244:=h229.le le238
        have q:=bnd hm233
        obtain ⟨⟨x245,x246⟩,h247,hm248⟩:=q
        try dsimp only at hm248
        refine zM 0 Z Z Z Z (zN Z Z Tryz.call49 (zD Z (zD Z zW)) Z) hS243 (fun hs=>wGS x27 A36 c37 p1 W237 U234 hs h244 h247) (.inr Z) ?_
        rintro U249 L250 v251 W252 le253 hS254 ⟨A255,c256,rfl,rfl⟩
        let B4:Res:=.row A255 c256 3 1 (hH KL.encI x245)
        have hS258:sW w U U249 [B4,B3] W252:=hS254
        refine oM Z Z (oR Z (ZF Z Z (v:=.slice A255 x245.length c256) Z) (oR Z (ZF Z Z (v:=jV x246) Z) (oA Z Z (oA Z Z (eN (zE (bnK hm248 fun b259 hx261 hm262=>CK.cut (fun σ_ w_=>∃ (U_:PHeap),σ_ 0=.slice pA0 p0.length pc0/\σ_ 1=jV p1/\σ_ 2=.slice pA2 p2.length pc2/\σ_ 7=.slice A36 x27.length c37/\σ_ 8=.slice A50 x41.length c51/\σ_ 9=.slice A65 x56.length c66/\σ_ 11=jV x194/\σ_ 14=jV x193/\σ_ 16=.slice A240 x230.length c241/\σ_ 18=.slice A255 x245.length c256/\σ_ 141=.bool b259/\PHeap.Le U249 U_/\sW w U U_ [B3,B4] w_) ?_ ?_)))))))
        ·refine CK.fresh fun σ263 hσ264=>?_
         have f265:σ263 0=.slice pA0 p0.length pc0:=(hσ264 0).trans f206
         have f266:σ263 1=jV p1:=(hσ264 1).trans f207
         have f267:σ263 2=.slice pA2 p2.length pc2:=(hσ264 2).trans f208
         have f268:σ263 7=.slice A36 x27.length c37:=(hσ264 7).trans f209
         have f269:σ263 8=.slice A50 x41.length c51:=(hσ264 8).trans f210
         have f270:σ263 9=.slice A65 x56.length c66:=(hσ264 9).trans f211
         have f271:σ263 11=jV x194:=(hσ264 11).trans f212
         have f272:σ263 13=jV x218:=(hσ264 13).trans rfl
         have f273:σ263 14=jV x193:=(hσ264 14).trans f214
         have f274:σ263 15=jV x217:=(hσ264 15).trans rfl
         have f275:σ263 16=.slice A240 x230.length c241:=(hσ264 16).trans rfl
         have f276:σ263 17=jV x231:=(hσ264 17).trans rfl
         have f277:σ263 18=.slice A255 x245.length c256:=(hσ264 18).trans rfl
         have f278:σ263 19=jV x246:=(hσ264 19).trans rfl
         clear hσ264
         refine rR fL30 Z (oM Z f271 (oM Z f272 (oR Z (zy Z Z Z) (oM Z Z ?_))))
         by_cases c279:x194=x218
         ·have hm280:=hx261;rw [if_pos c279] at hm280;replace c279:=zB c279
          refine zS Z Z Z (zL Z Z (zf (fun h=>h c279.out))) Z f276 (zS Z Z Z (zL Z Z (zf (fun h=>h c279.out))) Z f272 (zz Z Z Z (zL Z Z (zf (fun h=>h c279.out))) (fun _=>zy Z Z Z) (oR Z (zd Z (zf (fun h=>h c279.out)) Z) (oM Z Z (ifc hm280 ?_ ?_)))))
          ·intro c281 hm282
           refine zS Z Z Z (zL Z Z (zf (fun h=>h c281.out))) Z f278 (zS Z Z Z (zL Z Z (zf (fun h=>h c281.out))) Z f272 (zz Z Z Z (zL Z Z (zf (fun h=>h c281.out))) (fun _=>zy Z Z Z) (oR Z (zd Z (zf (fun h=>h c281.out)) Z) (oM Z Z (ifc hm282 ?_ ?_)))))
           ·intro c283 hm284
            refine zS Z Z Z (zL Z Z (zf (fun h=>h c283.out))) Z f273 (zS Z Z Z (zL Z Z (zf (fun h=>h c283.out))) Z f274 (zz Z Z Z (zL Z Z (zf (fun h=>h c283.out))) (fun _=>zy Z Z Z) (oR Z (zd Z (zf (fun h=>h c283.out)) Z) (oM Z Z (ifc hm284 ?_ ?_)))))
            ·intro c285 hm286
             refine zS Z Z Z (zL Z Z (zf (fun h=>h c285.out))) Z f271 (zz Z Z Z (zL Z Z (zf (fun h=>h c285.out))) (fun _=>zy Z Z Z) (zS Z Z Z (zL Z Z (zf (fun h=>h c285.out))) Z Z (ifc hm286 ?_ ?_)))
             ·intro c287 hm288
              refine zo Z Z Z (zZ Z Z (zf (fun h=>h c287.out)) Z) (zo Z Z Z (zZ Z Z (zf (fun h=>h c287.out)) Z) (zo Z Z Z (zZ Z Z (zf (fun h=>h c287.out)) Z) (zo Z Z Z (zZ Z Z (zf (fun h=>h c287.out)) Z) (zo Z Z Z (zZ Z Z (zf (fun h=>h c287.out)) Z) (zo Z Z Z (zZ Z Z (zf (fun h=>h c287.out)) Z) (zz Z Z Z (zL Z Z (zf (fun h=>h c285.out))) (fun _=>zd Z (zf (fun h=>h c287.out)) Z) (oR Z (zd Z (zf (fun h=>h c285.out)) Z) (zr ?_))))))))
              cases hm288
              exact zH ⟨rfl,⟨U249,f265,f266,f267,f268,f269,f270,f271,f273,f275,f277,rfl,(zQ _),(hS258.pick [1,0] _ (by decide) rfl)⟩⟩
             ·intro c287 hm290
              refine zS Z Z Z (wT Z c287) Z f275 (rU Z (wT Z c287) (ze Z Z zA) (zS Z Z Z (wT Z c287) Z f277 (rU Z (wT Z c287) (ze Z Z zI) (rU Z (wT Z c287) (zh Z Z Z) (rU Z (wT Z c287) (Runs.gtr Z Z Z) (zz Z Z Z (zL Z Z (zf (fun h=>h c285.out))) (fun _=>zR Z (wDl c287.out) Z) (oR Z (zd Z (zf (fun h=>h c285.out)) Z) (zr ?_))))))))
              obtain rfl:=nA hm290
              exact zH ⟨rfl,⟨U249,f265,f266,f267,f268,f269,f270,f271,f273,f275,f277,rfl,(zQ _),(hS258.pick [1,0] _ (by decide) rfl)⟩⟩
            ·intro c285 hm292
             refine oT Z c285 (oT Z c285 (oT Z c285 (zo Z Z Z (wAt Z Z Z) (zo Z Z Z (wAt Z Z Z) (zo Z Z Z (wAt Z Z Z) (zo Z Z Z (wAt Z Z Z) (zo Z Z Z (wAt Z Z Z) (zo Z Z Z (wAt Z Z Z) (oT Z c285 (oR Z (zR Z (wDl c285.out) Z) (zr ?_)))))))))))
             cases hm292
             exact zH ⟨rfl,⟨U249,f265,f266,f267,f268,f269,f270,f271,f273,f275,f277,rfl,(zQ _),(hS258.pick [1,0] _ (by decide) rfl)⟩⟩
           ·intro c283 hm294
            refine oT Z c283 (oT Z c283 (oT Z c283 (oR Z (zR Z (wDl c283.out) Z) (oM Z Z (oN Z (oN Z (oN Z (zo Z Z Z (wAt Z Z Z) (zo Z Z Z (wAt Z Z Z) (zo Z Z Z (wAt Z Z Z) (zo Z Z Z (wAt Z Z Z) (zo Z Z Z (wAt Z Z Z) (zo Z Z Z (wAt Z Z Z) (oN Z (oR Z (zR Z Z Z) (zr ?_))))))))))))))))
            cases hm294
            exact zH ⟨rfl,⟨U249,f265,f266,f267,f268,f269,f270,f271,f273,f275,f277,rfl,(zQ _),(hS258.pick [1,0] _ (by decide) rfl)⟩⟩
          ·intro c281 hm296
           refine oT Z c281 (oT Z c281 (oT Z c281 (oR Z (zR Z (wDl c281.out) Z) (oM Z Z (oN Z (oN Z (oN Z (oR Z (zR Z Z Z) (oM Z Z (oN Z (oN Z (oN Z (zo Z Z Z (wAt Z Z Z) (zo Z Z Z (wAt Z Z Z) (zo Z Z Z (wAt Z Z Z) (zo Z Z Z (wAt Z Z Z) (zo Z Z Z (wAt Z Z Z) (zo Z Z Z (wAt Z Z Z) (oN Z (oR Z (zR Z Z Z) (zr ?_)))))))))))))))))))))
           cases hm296
           exact zH ⟨rfl,⟨U249,f265,f266,f267,f268,f269,f270,f271,f273,f275,f277,rfl,(zQ _),(hS258.pick [1,0] _ (by decide) rfl)⟩⟩
         ·have hm298:=hx261;rw [if_neg c279] at hm298;replace c279:=zB c279
          refine oT Z c279 (oT Z c279 (oT Z c279 (oR Z (zR Z (wDl c279.out) Z) (oM Z Z (oN Z (oN Z (oN Z (oR Z (zR Z Z Z) (oM Z Z (oN Z (oN Z (oN Z (oR Z (zR Z Z Z) (oM Z Z (oN Z (oN Z (oN Z (zo Z Z Z (wAt Z Z Z) (zo Z Z Z (wAt Z Z Z) (zo Z Z Z (wAt Z Z Z) (zo Z Z Z (wAt Z Z Z) (zo Z Z Z (wAt Z Z Z) (zo Z Z Z (wAt Z Z Z) (oN Z (oR Z (zR Z Z Z) (zr ?_))))))))))))))))))))))))))
          cases hm298
          exact zH ⟨rfl,⟨U249,f265,f266,f267,f268,f269,f270,f271,f273,f275,f277,rfl,(zQ _),(hS258.pick [1,0] _ (by decide) rfl)⟩⟩
        ·rintro σ300 W301 ⟨U302,f305,f306,f307,f308,f309,f310,f311,f312,f313,f314,f315,le303,hS304⟩
         refine ifc hm262 ?_ ?_
         ·intro c316 hm317
          refine zp (f315.trans (congrArg nB c316.out)) (sR fL1 Z (oA Z Z (eN (zK (zC ?_)))))
          have hE:=nA hm317;first | subst r | cases hE
          exact ⟨rfl,_,(zi rfl),U302,_,(hS304.pick [] _ (by decide) rfl),rfl,rfl⟩
         ·intro c316 hm318
          refine zk (f315.trans (congrArg nB (nD.2 c316.out))) (kN (zE (sR fL2 Z (oM Z f311 (oR Z (Runs.eql Z Z Z) (eN (ifc hm318 ?_ ?_)))))))
          ·intro c319 hm320
           refine cT Z c319 (sR (.fl 0 (.fx 1 (.fl 2 (.fx 3 (wMV (.nil)) .stop)) .stop)) Z (oM Z f313 ?_))
           have q:=hS304.freezeR (k:=0) (n:=x230.length) rfl (wAG (f:=wAB) (sz:=3) (fun _=>rfl) x230) (by decide)
           obtain ⟨U321,le322,hs323,hS324⟩:=q
           have hS325:sW w U U321 [B4] W301:=hS324
           refine bnK hm320 fun x326 h327 hm328=>zM 0 Z Z Z Z (zN Z Z Tryz.call56 (zD Z zW) Z) hS325 (fun hs=>wCN x230 A240 c241 W301 U321 hs hs323 h327) (.inr Z) ?_
           rintro U329 L330 v331 W332 le333 hS334 ⟨A335,c336,rfl,rfl⟩
           have hS338:sW w U U329 [.row A335 c336 239 3 (hH wAE x326),B4] W332:=hS334
           refine oM Z f306 ?_
           have q:=hS338.freezeR (k:=0) (n:=x326.length) rfl (wAG (f:=wAE) (sz:=3) (fun _=>rfl) x326) (by decide)
           obtain ⟨U339,le340,hs341,hS342⟩:=q
           have hS343:sW w U U339 [B4] W332:=hS342
           have q:=bnd hm328
           obtain ⟨⟨x344,x345⟩,h346,hm347⟩:=q
           try dsimp only at hm347
           refine zM 0 Z Z Z Z (zN Z Z Tryz.call59 (zD Z (zD Z zW)) Z) hS343 (fun hs=>wCF x326 A335 c336 p1 W332 U339 hs hs341 h346) (.inr Z) ?_
           rintro U348 L349 v350 W351 le352 hS353 ⟨rfl,rfl⟩
           have hS354:sW w U U348 [B4] W351:=hS353
           refine oM Z Z (oR Z (ZF Z Z (v:=.bool x344) Z) (oR Z (ZF Z Z (v:=jV x345) Z) (oA Z Z (oA Z Z (eN (sR (wGa (.fx 3 (wMV (.nil)) .stop)) Z (oM Z f310 (oM Z f306 (oM Z f314 ?_)))))))))
           have q:=hS354.freezeR (k:=0) (n:=x245.length) rfl (wAG (f:=KL.encI) (sz:=1) (fun _=>rfl) x245) (by decide)
           obtain ⟨U355,le356,hs357,hS358⟩:=q
           have hS359:sW w U U355 [] W351:=hS358
           have h360:=h216.le le225
           have h361:=h360.le le238
           have h362:=h361.le le253
           have h363:=h362.le le303
           have h364:=h363.le le322
           have h365:=h364.le le333
           have h366:=h365.le le340
           have h367:=h366.le le352
           have h368:=h367.le le356
           have q:=bnd hm347
           obtain ⟨⟨x369,x370⟩,h371,hm372⟩:=q
           try dsimp only at hm372
           refine zM 0 Z Z Z Z (zN Z Z Tryz.call60 (zD Z (zD Z (zD Z zW))) Z) hS359 (fun hs=>wCC x56 A65 c66 p1 x245 A255 c256 W351 U355 hs h368 hs357 h371) (.inr Z) ?_
           rintro U373 L374 v375 W376 le377 hS378 ⟨rfl,rfl⟩
           have hS379:sW w U U373 [] W376:=hS378
           refine oM Z Z (oR Z (ZF Z Z (v:=.bool x369) Z) (oR Z (ZF Z Z (v:=jV x370) Z) (oA Z Z (oA Z Z (eN (zE (zE (CK.fresh fun σ380 hσ381=>?_))))))))
           have f382:σ380 0=.slice pA0 p0.length pc0:=(hσ381 0).trans f305
           have f383:σ380 2=.slice pA2 p2.length pc2:=(hσ381 2).trans f307
           have f384:σ380 7=.slice A36 x27.length c37:=(hσ381 7).trans f308
           have f385:σ380 8=.slice A50 x41.length c51:=(hσ381 8).trans f309
           have f386:σ380 14=jV x193:=(hσ381 14).trans f312
           have f387:σ380 16=.slice A240 x230.length c241:=(hσ381 16).trans f313
           have f388:σ380 18=.slice A255 x245.length c256:=(hσ381 18).trans f314
           have f389:σ380 20=.bool x344:=(hσ381 20).trans rfl
           have f390:σ380 21=jV x345:=(hσ381 21).trans rfl
           have f391:σ380 22=.bool x369:=(hσ381 22).trans rfl
           have f392:σ380 23=jV x370:=(hσ381 23).trans rfl
           clear hσ381
           refine rR fL27 Z (oM Z f390 (oR Z (zy Z Z Z) (oM Z Z (ifc hm372 ?_ ?_))))
           ·intro c393 hm394
            refine zS Z Z Z (zL Z Z (zf (fun h=>h c393.out))) Z f392 (zz Z Z Z (zL Z Z (zf (fun h=>h c393.out))) (fun _=>zy Z Z Z) (oR Z (zd Z (zf (fun h=>h c393.out)) Z) (oM Z Z (ifc hm394 ?_ ?_))))
            ·intro c395 hm396
             refine zS Z Z Z (zL Z Z (zf (fun h=>h c395.out))) Z f389 (zz Z Z Z (zL Z Z (zf (fun h=>h c395.out))) (fun _=>ZM Z Z) (oR Z (zd Z (zf (fun h=>h c395.out)) Z) (oM Z Z (ifc hm396 ?_ ?_))))
             ·intro c397 hm398
              refine zS Z Z Z (zL Z Z (nC c397.out)) Z f391 (zz Z Z Z (zL Z Z (nC c397.out)) (fun _=>ZM Z Z) (oR Z (zd Z (nC c397.out) Z) (oM Z Z (ifc hm398 ?_ ?_))))
              ·intro c399 hm400
               refine zS Z Z Z (zL Z Z (nC c399.out)) Z f388 (zz Z Z Z (zL Z Z (nC c399.out)) (fun _=>ze Z Z zI) (zS Z Z Z (zL Z Z (nC c399.out)) Z f386 (zz Z Z Z (zL Z Z (nC c399.out)) (fun _=>zy Z Z Z) (oR Z (zd Z (nC c399.out) Z) (oM Z Z (ifc hm400 ?_ ?_))))))
               ·intro c401 hm402
                refine zS Z Z Z (zL Z Z (zf (fun h=>h c401.out))) Z f387 (zz Z Z Z (zL Z Z (zf (fun h=>h c401.out))) (fun _=>ze Z Z zA) (zS Z Z Z (zL Z Z (zf (fun h=>h c401.out))) Z f382 (zz Z Z Z (zL Z Z (zf (fun h=>h c401.out))) (fun _=>ze Z Z zA) (zz Z Z Z (zL Z Z (zf (fun h=>h c401.out))) (fun _=>zy Z Z Z) (oR Z (zd Z (zf (fun h=>h c401.out)) Z) (eN (ifc hm402 ?_ ?_)))))))
                ·intro c403 hm404
                 refine zk (zf (fun h=>h c403.out)) (kN (sR fL3 Z (oM Z f387 (oR Z (ze Z Z zA) (oM Z Z (eN (zV ?_)))))))
                 have q:=wBJ hm404
                 obtain ⟨r407,hX408⟩:=q
                 have q:=wBI hX408
                 obtain ⟨hle409,hf410⟩:=q
                 replace hle409:=zB hle409
                 refine ZH (fun k406 _ σ_ w_=>∃ (U_:PHeap),σ_ 187=jV (↑k406:Int)/\σ_ 0=.slice pA0 p0.length pc0/\σ_ 2=.slice pA2 p2.length pc2/\σ_ 7=.slice A36 x27.length c37/\σ_ 8=.slice A50 x41.length c51/\σ_ 14=jV x193/\σ_ 185=.slice A240 x230.length c241/\σ_ 186=jV (↑x230.length:Int)/\PHeap.Le U373 U_/\sW w U U_ [] w_) hf410 ?_ ?_ ?_
                 ·exact ⟨U373,Z,f382,f383,f384,f385,f386,Z,Z,(zQ _),hS379⟩
                 ·rintro k406 ⟨⟩ xx413 σ411 W412 hk416 ⟨U418,fi417,f421,f422,f423,f424,f425,f426,f427,le419,hS420⟩ hx414 hb415
                  try dsimp only at hx414
                  have c428:Hid ((↑k406:Int) < (↑x230.length:Int)):=zB (wBP hk416)
                  replace hk416:=zB hk416
                  have hi429:Hid (w64 ((↑k406:Int) + 1)=(↑(k406 + 1):Int)):=zB (by have h1:=hle409.out;have h2:=c428.out;rw [wAj] <;> omega)
                  refine sR fL1 Z (oR Z (zU Z fi417 f427) (eN (zE (cT Z c428 (kN (zE (zV (sR (wGa (.fx 3 (.fl 4 (.fx 5 (.nil) .stop)) .stop)) Z (oM Z fi417 (bnK hx414 fun x430 h431 hm432=>?_))))))))))
                  have h433:=hs323.le le333
                  have h434:=h433.le le340
                  have h435:=h434.le le352
                  have h436:=h435.le le356
                  have h437:=h436.le le377
                  have h438:=h437.le le419
                  have q:=h438.el (fun _=>rfl) (wAL h431)
                  obtain ⟨b439,off440,hA441,hC442⟩:=q
                  refine oR Z (zm Z f426 hA441 fi417 zA zF (wAk h431)) (oL Z (hS420.ldCA (f:=0) hC442 Z Z zn zF (us:=[jV x430.Bib,jV x430.Time,jV x430.Gate]) Z Z) (ZL (cs:=[jV 0,jV 0,jV 0]) Z Z Z Z Z ZE Z hS420 ?_))
                  intro W443 b444 hS445
                  refine oA Z Z ?_
                  let B5:List Value:=[jV x430.Bib,jV x430.Time,jV x430.Gate]
                  refine OKS.st (j:=0) (vs:=B5) Z Z Z Z hS445 Z Z Z Z zF (zu Z) Z Z Z ?_
                  intro W447 hS448
                  have hS449:sW w U U418 [.blk b444 105 B5] W447:=hS448
                  refine eN (zE (ZN ZK [3,1,3,3,3,3,1,3,3,3,1,3,3,3,3,1,3,3,3,3,1,3,3,3] fL24 (by kernel_rfl) ?_))
                  have hS450:=hS449.drew
                  generalize hw_W451:({ W447 with drawn:=W447.drawn + 1 }:World)=W451 at hS450 ⊢
                  refine oR Z (zw Z Z zX Z zG) (oL Z (hS450.ldB (j:=0) Z Z Z zO (v:=jV x430.Bib) Z) (oM Z f421 (oM Z Z (bnK hm432 fun x452 h453 hm454=>?_))))
                  have h455:=h55.le le63
                  have h456:=h455.le le70
                  have h457:=h456.le le81
                  have h458:=h457.le le85
                  have h459:=h458.le le96
                  have h460:=h459.le le112
                  have h461:=h460.le le125
                  have h462:=h461.le le145
                  have h463:=h462.le le160
                  have h464:=h463.le le184
                  have h465:=h464.le le201
                  have h466:=h465.le le225
                  have h467:=h466.le le238
                  have h468:=h467.le le253
                  have h469:=h468.le le303
                  have h470:=h469.le le322
                  have h471:=h470.le le333
                  have h472:=h471.le le340
                  have h473:=h472.le le352
                  have h474:=h473.le le356
                  have h475:=h474.le le377
                  have h476:=h475.le le419
                  have q:=h476.el (fun _=>rfl) (wAL h453)
                  obtain ⟨b477,off478,hA479,hC480⟩:=q
                  refine oR Z (zm Z Z hA479 Z zA zF (wAk h453)) (oR Z (zw Z Z zX Z zG) (oL Z (hS450.ldC (f:=0) hC480 (v:=jV x452.Bib) Z Z zO Z) (oR Z (zy Z Z Z) (oM Z Z (ifc hm454 ?_ ?_)))))
                  ·intro c481 hm482
                   refine zz Z Z Z (zL Z Z (zf (fun h=>h c481.out))) (fun _=>zw Z Z zX Z zG) (ZJ Z Z Z (zL Z Z (zf (fun h=>h c481.out))) (hS450.ldB (j:=0) Z Z Z zO (v:=jV x430.Time) Z) Z (zS Z Z Z (zL Z Z (zf (fun h=>h c481.out))) Z f421 (zS Z Z Z (zL Z Z (zf (fun h=>h c481.out))) Z Z ?_)))
                   have q:=h476.el (fun _=>rfl) (wAL h453)
                   obtain ⟨b483,off484,hA485,hC486⟩:=q
                   refine zz Z Z Z (zL Z Z (zf (fun h=>h c481.out))) (fun _=>zm Z Z hA485 Z zA zF (wAk h453)) (zz Z Z Z (zL Z Z (zf (fun h=>h c481.out))) (fun _=>zw Z Z zX Z zG) (ZJ Z Z Z (zL Z Z (zf (fun h=>h c481.out))) (hS450.ldC (f:=1) hC486 (v:=jV x452.Time) Z Z zO Z) Z (zz Z Z Z (zL Z Z (zf (fun h=>h c481.out))) (fun _=>zy Z Z Z) (oR Z (zd Z (zf (fun h=>h c481.out)) Z) (oM Z Z (ifc hm482 ?_ ?_))))))
                   ·intro c487 hm488
                    refine zz Z Z Z (zL Z Z (zf (fun h=>h c487.out))) (fun _=>zw Z Z zX Z zG) (ZJ Z Z Z (zL Z Z (zf (fun h=>h c487.out))) (hS450.ldB (j:=0) Z Z Z zO (v:=jV x430.Gate) Z) Z (zS Z Z Z (zL Z Z (zf (fun h=>h c487.out))) Z f425 (zz Z Z Z (zL Z Z (zf (fun h=>h c487.out))) (fun _=>Runs.gtr Z Z Z) (oR Z (zd Z (zf (fun h=>h c487.out)) Z) (eN (ifc hm488 ?_ ?_))))))
                    ·intro c489 hm490
                     refine cT Z c489 (sR fL1 Z (oA Z Z (eN (zK (zP (zC ?_))))))
                     have q:=wAO hm490
                     obtain ⟨v491,hm492,e493⟩:=q
                     obtain rfl:=wAz hm404 hX408 (hb415 v491 e493)
                     refine zC (zP (zC ?_))
                     have hE:=nA hm492;first | subst r | cases hE
                     exact ⟨rfl,_,(zi rfl),U418,_,(hS450.pick [] _ (by decide) rfl),rfl,rfl⟩
                    ·intro c489 hm494
                     refine cF Z c489 (ZG (zj (zH (rR fL2 Z (oR Z (zq (zh Z fi417 Z) (congrArg (jV) hi429.out)) (oM Z Z (zr ?_)))))))
                     obtain rfl:=nA hm494
                     exact zH ⟨rfl,_,rfl,⟨U418,rfl,f421,f422,f423,f424,f425,f426,f427,le419,(hS450.pick [] _ (by decide) rfl)⟩⟩
                   ·intro c487 hm495
                    refine oT Z c487 (oT Z c487 (oT Z c487 (oT Z c487 (oR Z (zR Z (wDl c487.out) Z) (eN (zp Z (sR fL1 Z (oA Z Z (eN (zK (zP (zC ?_))))))))))))
                    have q:=wAO hm495
                    obtain ⟨v496,hm497,e498⟩:=q
                    obtain rfl:=wAz hm404 hX408 (hb415 v496 e498)
                    refine zC (zP (zC ?_))
                    have hE:=nA hm497;first | subst r | cases hE
                    exact ⟨rfl,_,(zi rfl),U418,_,(hS450.pick [] _ (by decide) rfl),rfl,rfl⟩
                  ·intro c481 hm499
                   refine oT Z c481 (oT Z c481 (oT Z c481 (oT Z c481 (oT Z c481 (oT Z c481 (oT Z c481 (oT Z c481 (oR Z (zR Z (wDl c481.out) Z) (oM Z Z (oN Z (oN Z (oN Z (oN Z (oR Z (zR Z Z Z) (eN (zp Z (sR fL1 Z (oA Z Z (eN (zK (zP (zC ?_))))))))))))))))))))))
                   have q:=wAO hm499
                   obtain ⟨v500,hm501,e502⟩:=q
                   obtain rfl:=wAz hm404 hX408 (hb415 v500 e502)
                   refine zC (zP (zC ?_))
                   have hE:=nA hm501;first | subst r | cases hE
                   exact ⟨rfl,_,(zi rfl),U418,_,(hS450.pick [] _ (by decide) rfl),rfl,rfl⟩
                 ·rintro ⟨⟩ σ503 W504 ⟨U507,fi506,f510,f511,f512,f513,f514,f515,f516,le508,hS509⟩ hb505
                  have hm517:=wBh hm404 hX408 hb505
                  try dsimp only at hm517
                  have c518:Hid (¬ ((↑(((↑x230.length:Int):Int) - 0).toNat:Int) < (↑x230.length:Int))):=zB (wAo)
                  refine sR fL1 Z (oR Z (zU Z fi506 f516) (eN (zE (cF Z c518 (ZA (zY (zY (zx (zH (sR (.fl 0 (.fl 1 (.fx 2 (wMU (.fx 6 (.fl 7 (.fl 8 (.fx 9 (.fl 10 (.fl 11 (.nil))) .stop))) .stop)) .stop))) Z (oM Z f512 (oM Z f510 ?_))))))))))))
                  have h519:=h244.le le253
                  have h520:=h519.le le303
                  have h521:=h520.le le322
                  have h522:=h521.le le333
                  have h523:=h522.le le340
                  have h524:=h523.le le352
                  have h525:=h524.le le356
                  have h526:=h525.le le377
                  have h527:=h526.le le508
                  have h528:=h55.le le63
                  have h529:=h528.le le70
                  have h530:=h529.le le81
                  have h531:=h530.le le85
                  have h532:=h531.le le96
                  have h533:=h532.le le112
                  have h534:=h533.le le125
                  have h535:=h534.le le145
                  have h536:=h535.le le160
                  have h537:=h536.le le184
                  have h538:=h537.le le201
                  have h539:=h538.le le225
                  have h540:=h539.le le238
                  have h541:=h540.le le253
                  have h542:=h541.le le303
                  have h543:=h542.le le322
                  have h544:=h543.le le333
                  have h545:=h544.le le340
                  have h546:=h545.le le352
                  have h547:=h546.le le356
                  have h548:=h547.le le377
                  have h549:=h548.le le508
                  refine bnK hm517 fun x550 h551 hm552=>zM 0 Z Z Z Z (zN Z Z Tryz.call62 (zD Z (zD Z zW)) Z) hS509 (fun hs=>wBH x27 A36 c37 p0 pA0 pc0 W504 U507 hs h527 h549 h551) (.inr Z) ?_
                  rintro U553 L554 v555 W556 le557 hS558 ⟨rfl,rfl⟩
                  have hS559:sW w U U553 [] W556:=hS558
                  refine oM Z Z (ifc hm552 ?_ ?_)
                  ·intro c560 hm561
                   refine zS Z Z Z (zL Z Z (congrArg nB c560.out)) Z f513 (zS Z Z Z (zL Z Z (congrArg nB c560.out)) Z f511 ?_)
                   have h562:=hs146.le le160
                   have h563:=h562.le le184
                   have h564:=h563.le le201
                   have h565:=h564.le le225
                   have h566:=h565.le le238
                   have h567:=h566.le le253
                   have h568:=h567.le le303
                   have h569:=h568.le le322
                   have h570:=h569.le le333
                   have h571:=h570.le le340
                   have h572:=h571.le le352
                   have h573:=h572.le le356
                   have h574:=h573.le le377
                   have h575:=h574.le le508
                   have h576:=h575.le le557
                   have h577:=h175.le le184
                   have h578:=h577.le le201
                   have h579:=h578.le le225
                   have h580:=h579.le le238
                   have h581:=h580.le le253
                   have h582:=h581.le le303
                   have h583:=h582.le le322
                   have h584:=h583.le le333
                   have h585:=h584.le le340
                   have h586:=h585.le le352
                   have h587:=h586.le le356
                   have h588:=h587.le le377
                   have h589:=h588.le le508
                   have h590:=h589.le le557
                   refine bnK hm561 fun x591 h592 hm593=>zM 0 Z Z Z (zL Z Z (congrArg nB c560.out)) (zN Z Z Tryz.call20 (zD Z (zD Z zW)) Z) hS559 (fun hs=>wBn x41 A50 c51 p2 pA2 pc2 W556 U553 hs h576 h590 h592) (.inr Z) ?_
                   rintro U594 L595 v596 W597 le598 hS599 ⟨rfl,rfl⟩
                   have hS600:sW w U U594 [] W597:=hS599
                   refine oR Z (zR Z (congrArg nB c560.out) Z) (oM Z Z (ifc hm593 ?_ ?_))
                   ·intro c601 hm602
                    refine bnK hm602 fun x603 h604 hm605=>zM 0 Z Z Z (zL Z Z (congrArg nB c601.out)) (zN Z Z Tryz.call45 zW Z) hS600 (fun hs=>wBC W597 U594 hs h604) (.inr Z) ?_
                    rintro U606 L607 v608 W609 le610 hS611 ⟨rfl,rfl⟩
                    have hS612:sW w U U606 [] W609:=hS611
                    refine oR Z (zR Z (congrArg nB c601.out) Z) (oA Z Z (eN (zK ?_)))
                    have hE:=nA hm605;first | subst r | cases hE
                    exact ⟨Z,_,(zi Z),U606,_,hS612,Z,Z⟩
                   ·intro c601 hm613
                    refine ZI Z Z Z (zZ Z Z (congrArg nB (nD.2 c601.out)) Z) (oR Z (zd Z (congrArg nB (nD.2 c601.out)) Z) (oA Z Z (eN (zK ?_))))
                    have hE:=nA hm613;first | subst r | cases hE
                    exact ⟨Z,_,(zi Z),U594,_,hS600,Z,Z⟩
                  ·intro c560 hm614
                   refine zo Z Z Z (zZ Z Z (congrArg nB (nD.2 c560.out)) Z) (zo Z Z Z (zZ Z Z (congrArg nB (nD.2 c560.out)) Z) (ZI Z Z Z (zZ Z Z (congrArg nB (nD.2 c560.out)) Z) (oR Z (zd Z (congrArg nB (nD.2 c560.out)) Z) (oM Z Z (ZI Z Z Z (zZ Z Z Z Z) (oR Z (zd Z Z Z) (oA Z Z (eN (zK ?_)))))))))
                   have hE:=nA hm614;first | subst r | cases hE
                   exact ⟨Z,_,(zi Z),U553,_,hS559,Z,Z⟩
                ·intro c403 hm615
                 refine cT Z c403 (sR fL1 Z (oA Z Z (eN (zK (zC (zC ?_))))))
                 have hE:=nA hm615;first | subst r | cases hE
                 exact ⟨Z,_,(zi Z),U373,_,hS379,Z,Z⟩
               ·intro c401 hm616
                refine oT Z c401 (oT Z c401 (oT Z c401 (oT Z c401 (oT Z c401 (oR Z (zR Z (wDl c401.out) Z) (eN (zp Z (sR fL1 Z (oA Z Z (eN (zK (zC (zC ?_)))))))))))))
                have hE:=nA hm616;first | subst r | cases hE
                exact ⟨Z,_,(zi Z),U373,_,hS379,Z,Z⟩
              ·intro c399 hm617
               refine zo Z Z Z (zZ Z Z (nF (c399.out)) Z) (zo Z Z Z (zZ Z Z (nF (c399.out)) Z) (zo Z Z Z (zZ Z Z (nF (c399.out)) Z) (zo Z Z Z (zZ Z Z (nF (c399.out)) Z) (oR Z (zR Z (nF (c399.out)) Z) (oM Z Z (oN Z (oN Z (oN Z (oN Z (oN Z (oR Z (zR Z Z Z) (eN (zp Z (sR fL1 Z (oA Z Z (eN (zK (zC (zC ?_)))))))))))))))))))
               have hE:=nA hm617;first | subst r | cases hE
               exact ⟨Z,_,(zi Z),U373,_,hS379,Z,Z⟩
             ·intro c397 hm618
              refine zo Z Z Z (zZ Z Z (nF (c397.out)) Z) (zo Z Z Z (zZ Z Z (nF (c397.out)) Z) (oR Z (zR Z (nF (c397.out)) Z) (oM Z Z (oN Z (oN Z (oN Z (oN Z (oR Z (zR Z Z Z) (oM Z Z (oN Z (oN Z (oN Z (oN Z (oN Z (oR Z (zR Z Z Z) (eN (zp Z (sR fL1 Z (oA Z Z (eN (zK (zC (zC ?_)))))))))))))))))))))))
              have hE:=nA hm618;first | subst r | cases hE
              exact ⟨Z,_,(zi Z),U373,_,hS379,Z,Z⟩
            ·intro c395 hm619
             refine oT Z c395 (oT Z c395 (oR Z (zR Z (wDl c395.out) Z) (oM Z Z (oN Z (oN Z (oR Z (zR Z Z Z) (oM Z Z (oN Z (oN Z (oN Z (oN Z (oR Z (zR Z Z Z) (oM Z Z (oN Z (oN Z (oN Z (oN Z (oN Z (oR Z (zR Z Z Z) (eN (zp Z (sR fL1 Z (oA Z Z (eN (zK (zC (zC ?_)))))))))))))))))))))))))))
             have hE:=nA hm619;first | subst r | cases hE
             exact ⟨Z,_,(zi Z),U373,_,hS379,Z,Z⟩
           ·intro c393 hm620
            refine oT Z c393 (oT Z c393 (oR Z (zR Z (wDl c393.out) Z) (oM Z Z (oN Z (oN Z (oR Z (zR Z Z Z) (oM Z Z (oN Z (oN Z (oR Z (zR Z Z Z) (oM Z Z (oN Z (oN Z (oN Z (oN Z (oR Z (zR Z Z Z) (oM Z Z (oN Z (oN Z (oN Z (oN Z (oN Z (oR Z (zR Z Z Z) (eN (zp Z (sR fL1 Z (oA Z Z (eN (zK (zC (zC ?_)))))))))))))))))))))))))))))))
            have hE:=nA hm620;first | subst r | cases hE
            exact ⟨Z,_,(zi Z),U373,_,hS379,Z,Z⟩
          ·intro c319 hm621
           refine cF Z c319 (kN (sR (.fl 0 (.fl 1 (.fx 2 (wMU (.fx 6 (.fl 7 (.fl 8 (.fx 9 (.fl 10 (.fl 11 (.nil))) .stop))) .stop)) .stop))) Z (oM Z f308 (oM Z f305 ?_))))
           have h622:=h244.le le253
           have h623:=h622.le le303
           have h624:=h55.le le63
           have h625:=h624.le le70
           have h626:=h625.le le81
           have h627:=h626.le le85
           have h628:=h627.le le96
           have h629:=h628.le le112
           have h630:=h629.le le125
           have h631:=h630.le le145
           have h632:=h631.le le160
           have h633:=h632.le le184
           have h634:=h633.le le201
           have h635:=h634.le le225
           have h636:=h635.le le238
           have h637:=h636.le le253
           have h638:=h637.le le303
           refine bnK hm621 fun x639 h640 hm641=>zM 0 Z Z Z Z (zN Z Z Tryz.call62 (zD Z (zD Z zW)) Z) hS304 (fun hs=>wBH x27 A36 c37 p0 pA0 pc0 W301 U302 hs h623 h638 h640) (.inr Z) ?_
           rintro U642 L643 v644 W645 le646 hS647 ⟨rfl,rfl⟩
           have hS648:sW w U U642 [B3,B4] W645:=hS647
           refine oM Z Z (ifc hm641 ?_ ?_)
           ·intro c649 hm650
            refine zS Z Z Z (zL Z Z (congrArg nB c649.out)) Z f309 (zS Z Z Z (zL Z Z (congrArg nB c649.out)) Z f307 ?_)
            have h651:=hs146.le le160
            have h652:=h651.le le184
            have h653:=h652.le le201
            have h654:=h653.le le225
            have h655:=h654.le le238
            have h656:=h655.le le253
            have h657:=h656.le le303
            have h658:=h657.le le646
            have h659:=h175.le le184
            have h660:=h659.le le201
            have h661:=h660.le le225
            have h662:=h661.le le238
            have h663:=h662.le le253
            have h664:=h663.le le303
            have h665:=h664.le le646
            refine bnK hm650 fun x666 h667 hm668=>zM 0 Z Z Z (zL Z Z (congrArg nB c649.out)) (zN Z Z Tryz.call20 (zD Z (zD Z zW)) Z) hS648 (fun hs=>wBn x41 A50 c51 p2 pA2 pc2 W645 U642 hs h658 h665 h667) (.inr Z) ?_
            rintro U669 L670 v671 W672 le673 hS674 ⟨rfl,rfl⟩
            have hS675:sW w U U669 [B3,B4] W672:=hS674
            refine oR Z (zR Z (congrArg nB c649.out) Z) (oM Z Z (ifc hm668 ?_ ?_))
            ·intro c676 hm677
             refine bnK hm677 fun x678 h679 hm680=>zM 0 Z Z Z (zL Z Z (congrArg nB c676.out)) (zN Z Z Tryz.call45 zW Z) hS675 (fun hs=>wBC W672 U669 hs h679) (.inr Z) ?_
             rintro U681 L682 v683 W684 le685 hS686 ⟨rfl,rfl⟩
             have hS687:sW w U U681 [B3,B4] W684:=hS686
             refine oR Z (zR Z (congrArg nB c676.out) Z) (oA Z Z (eN (zK ?_)))
             have hE:=nA hm680;first | subst r | cases hE
             exact ⟨rfl,_,(zi rfl),U681,_,(hS687.pick [] _ (by decide) rfl),rfl,rfl⟩
            ·intro c676 hm688
             refine ZI Z Z Z (zZ Z Z (congrArg nB (nD.2 c676.out)) Z) (oR Z (zd Z (congrArg nB (nD.2 c676.out)) Z) (oA Z Z (eN (zK ?_))))
             have hE:=nA hm688;first | subst r | cases hE
             exact ⟨rfl,_,(zi rfl),U669,_,(hS675.pick [] _ (by decide) rfl),rfl,rfl⟩
           ·intro c649 hm689
            refine zo Z Z Z (zZ Z Z (congrArg nB (nD.2 c649.out)) Z) (zo Z Z Z (zZ Z Z (congrArg nB (nD.2 c649.out)) Z) (ZI Z Z Z (zZ Z Z (congrArg nB (nD.2 c649.out)) Z) (oR Z (zd Z (congrArg nB (nD.2 c649.out)) Z) (oM Z Z (ZI Z Z Z (zZ Z Z Z Z) (oR Z (zd Z Z Z) (oA Z Z (eN (zK ?_)))))))))
            have hE:=nA hm689;first | subst r | cases hE
            exact ⟨rfl,_,(zi rfl),U642,_,(hS648.pick [] _ (by decide) rfl),rfl,rfl⟩
       ·intro c189 hm690
        refine zp (nF (c189.out)) (sR fL1 Z (oA Z Z (eN (zK (zC ?_)))))
        have hE:=nA hm690;first | subst r | cases hE
        exact ⟨Z,_,(zi Z),U180,_,hS186,Z,Z⟩
      ·intro c187 hm691
       refine oT Z c187 (oT Z c187 (oT Z c187 (oR Z (zR Z (wDl c187.out) Z) (eN (zp Z (sR fL1 Z (oA Z Z (eN (zK (zC ?_))))))))))
       have hE:=nA hm691;first | subst r | cases hE
       exact ⟨Z,_,(zi Z),U180,_,hS186,Z,Z⟩
     ·intro c142 hm692
      refine zp (nF (c142.out)) (sR fL1 Z (oA Z Z (eN (zK (zC ?_)))))
      have hE:=nA hm692;first | subst r | cases hE
      exact ⟨rfl,_,(zi rfl),U121,_,(hS127.pick [] _ (by decide) rfl),rfl,rfl⟩
    ·intro c140 hm693
     refine oT Z c140 (oT Z c140 (oT Z c140 (oR Z (zR Z (wDl c140.out) Z) (eN (zp Z (sR fL1 Z (oA Z Z (eN (zK (zC ?_))))))))))
     have hE:=nA hm693;first | subst r | cases hE
     exact ⟨rfl,_,(zi rfl),U121,_,(hS127.pick [] _ (by decide) rfl),rfl,rfl⟩
   ·intro c99 hm694
    refine cT Z c99 (sR fL1 Z (oA Z Z (eN (zK (zC ?_)))))
    have hE:=nA hm694;first | subst r | cases hE
    exact ⟨rfl,_,(zi rfl),U92,_,(hS98.pick [] _ (by decide) rfl),rfl,rfl⟩
end Go.Proofs.YthbficbpebiekaaGreat
