import Derived.Test.YtghaibkggdecnaaGreatT4
set_option linter.all false
open List renaming flatMap->hH,set->nE,getElem_cons_succ->nG,getElem_cons_zero->nH,getElem_toArray->nI,length_set->nJ
open Option.some renaming inj->nA
open Go.Value renaming bool->nB
open Bool renaming eq_false_iff->nD
open Int renaming toNat_natCast->nK
open Eq renaming trans->nL
open Prod.mk renaming injEq->nM
open Nat renaming blt->nN,le_of_ble_eq_true->nO
namespace Go.Proofs.YtghaibkggdecnaaGreat
open Go.KL
set_option maxHeartbeats 4000000
theorem Z {α:Type} {a:α}:a=a:=rfl
section
variable {r:Option Nat} {N:Nat} {P:Program} {l:List Oper} {Q:wCI} {D:List Deferred} {ks:List Nat} {σ:Env} {w:World} {i d j e:Nat} {s:Sch} {o:Oper} {b:Bool} {x:Operand} {v:Value} {p:Prop} {inst:Decidable p} {K:List Deferred->Env->World->Prop} {c1 c2:Code}
abbrev jV (n:Int):Value:=.int .i64 n
abbrev SW (w:World) (X:List Res) (U U':PHeap) (L:List Res) (w':World):Prop:=St ⟨w,X,U⟩ U' L w'
abbrev sW (w:World) (U U':PHeap) (L:List Res) (w':World):Prop:=St ⟨w,[],U⟩ U' L w'
abbrev St0 (w:World) (U:PHeap) (L:List Res):Prop:=St ⟨w,L,U⟩ U L w
theorem ifc {α:Type} {G p:Prop} {inst:Decidable p} {a b r:α} (h:@ite α p inst a b=r) (h1:Hid p->a=r->G) (h2:Hid (¬ p)->b=r->G):G:=by
 by_cases c:p
 · rw [if_pos c] at h;exact h1 ⟨c⟩ h
 · rw [if_neg c] at h;exact h2 ⟨c⟩ h
theorem bnK {α β:Type} {G:Prop} {o:Option α} {f:α->Option β} {r:β} (h:o.bind f=some r) (k:∀ x,o=some x->f x=some r->G):G:=by
 obtain ⟨x,h1,h2⟩:=bnd h
 exact k x h1 h2
theorem oR (h:(l[i]?,o.dst,nN d N,wanted l σ o)=(some o,some d,true,true)) (hr:∀ {w'},Runs P σ w' o v w') (k:OKS N P l Q D ks s (upd σ d v) w):OKS N P l Q D ks (.fl i s) σ w:=by
 simp only [nM] at h;exact OKS.r h.1 h.2.1 h.2.2.1 h.2.2.2 (fun _=>hr) k
theorem oL (h:(l[i]?,o.dst,nN d N,wanted l σ o,wNx (kOf ks i))=(some o,some d,true,true,false)) (hr:wEg P σ w o v) (k:OKS N P l Q D ks s (upd σ d v) w):OKS N P l Q D ks (.fl i s) σ w:=by
 simp only [nM] at h;exact OKS.m h.1 h.2.1 h.2.2.1 h.2.2.2.1 hr h.2.2.2.2 k
theorem oM (h:(l[i]?,o.dst,nN d N,wanted l σ o,o.op)=(some o,some d,true,true,.move x)) (hx:ev σ x=v) (k:OKS N P l Q D ks s (upd σ d v) w):OKS N P l Q D ks (.fl i s) σ w:=by
 simp only [nM] at h;exact OKS.rm h.1 h.2.1 h.2.2.1 h.2.2.2.1 h.2.2.2.2 hx k
theorem oA (h:(l[i]?,o.dst,nN d N,wanted l σ o,o.op)=(some o,some d,true,true,.assign x)) (hx:ev σ x=v) (k:OKS N P l Q D ks s (upd σ d v) w):OKS N P l Q D ks (.fl i s) σ w:=by
 simp only [nM] at h;exact OKS.ra h.1 h.2.1 h.2.2.1 h.2.2.2.1 h.2.2.2.2 hx k
theorem oF (h:(l[i]?,o.dst,nN d N,o.guard,(l[j]?).bind (·.dst),σ e,false == b)=(some o,some d,true,some (j,b),some e,.bool (decide p),false)) (c:Hid (¬ p)) (k:OKS N P l Q D ks s (upd σ d undef) w):OKS N P l Q D ks (.fl i s) σ w:=by
 simp only [nM] at h;exact OKS.p h.1 h.2.1 h.2.2.1 (wEp h.2.2.2.1 h.2.2.2.2.1 (h.2.2.2.2.2.1.trans (wNw c.out)) h.2.2.2.2.2.2) k
theorem oT (h:(l[i]?,o.dst,nN d N,o.guard,(l[j]?).bind (·.dst),σ e,true == b)=(some o,some d,true,some (j,b),some e,.bool (decide p),false)) (c:Hid p) (k:OKS N P l Q D ks s (upd σ d undef) w):OKS N P l Q D ks (.fl i s) σ w:=by
 simp only [nM] at h;exact OKS.p h.1 h.2.1 h.2.2.1 (wEp h.2.2.2.1 h.2.2.2.2.1 (h.2.2.2.2.2.1.trans (wNv c.out)) h.2.2.2.2.2.2) k
theorem oN {b2:Bool} (h:(l[i]?,o.dst,nN d N,o.guard,(l[j]?).bind (·.dst),σ e,b2 == b)=(some o,some d,true,some (j,b),some e,.bool b2,false)) (k:OKS N P l Q D ks s (upd σ d undef) w):OKS N P l Q D ks (.fl i s) σ w:=by
 simp only [nM] at h;exact OKS.p h.1 h.2.1 h.2.2.1 (wEp h.2.2.2.1 h.2.2.2.2.1 h.2.2.2.2.2.1 h.2.2.2.2.2.2) k
theorem nC {a b:Bool} (h:a=b):nB (!a)=nB (!b):=h ▸ rfl
theorem nF {a:Bool} (h:¬ a=true):nB (!a)=nB (!false):=nC (nD.2 h)
theorem wT (h:(o.guard,(l[j]?).bind (·.dst),σ e)=(some (j,true),some e,.bool (decide p))) (c:Hid p):wanted l σ o=true:=by
 simp only [nM] at h;exact wGD h.1 h.2.1 (h.2.2.trans (wNv c.out))
theorem wF (h:(o.guard,(l[j]?).bind (·.dst),σ e)=(some (j,false),some e,.bool (decide p))) (c:Hid (¬ p)):wanted l σ o=true:=by
 simp only [nM] at h;exact wGD h.1 h.2.1 (h.2.2.trans (wNw c.out))
theorem rU (h:(l[i]?,o.dst,nN d N)=(some o,some d,true)) (hw:wanted l σ o=true) (hr:∀ {w'},Runs P σ w' o v w') (k:OKS N P l Q D ks s (upd σ d v) w):OKS N P l Q D ks (.fl i s) σ w:=by
 simp only [nM] at h;exact OKS.r h.1 h.2.1 h.2.2 hw (fun _=>hr) k
theorem sR {id:Nat} (s:Sch) (hs:inOrder 0 s l.length=true) (h:OKS N P l (wDh (fun D σ w=>CK r N P c2 Q D σ w) Q) D [] s σ w):CK r N P (.seq (.region id l.toArray false) c2) Q D σ w:=CK.seq (CK.reg s hs h)
theorem rR {id:Nat} (s:Sch) (hs:inOrder 0 s l.length=true) (h:OKS N P l Q D [] s σ w):CK r N P (.region id l.toArray false) Q D σ w:=CK.reg s hs h
theorem eN (h:K D σ w):OKS N P l (wDh K Q) D ks .nil σ w:=OKS.e (wFz h)
theorem cT (hz:ev σ x=.bool (decide p)) (c:Hid p) (h:CK r N P c1 Q D σ w):CK r N P (.cond x c1 c2) Q D σ w:=CK.condT (hz.trans (wNv c.out)) h
theorem cF (hz:ev σ x=.bool (decide p)) (c:Hid (¬ p)) (h:CK r N P c2 Q D σ w):CK r N P (.cond x c1 c2) Q D σ w:=CK.condF (hz.trans (wNw c.out)) h
theorem kN (h:K D σ w):CK r N P .skip (wDh K Q) D σ w:=CK.skip (wFz h)
end
def fL1:Sch:=.fl 0 (.nil)
def fL2:Sch:=.fl 0 (.fl 1 (.nil))
def fL3:Sch:=.fl 0 (.fl 1 (.fl 2 (.nil)))
def fL4:Sch:=.fl 0 (.fl 1 (.fl 2 (.fl 3 (.nil))))
def fL5:Sch:=.fl 0 (.fl 1 (.fl 2 (.fl 3 (.fl 4 (.nil)))))
def fL6:Sch:=.fl 0 (.fl 1 (.fl 2 (.fl 3 (.fl 4 (.fl 5 (.nil))))))
def fL7:Sch:=.fl 0 (.fl 1 (.fl 2 (.fl 3 (.fl 4 (.fl 5 (.fl 6 (.nil)))))))
def fL8:Sch:=.fl 0 (.fl 1 (.fl 2 (.fl 3 (.fl 4 (.fl 5 (.fl 6 (.fl 7 (.nil))))))))
def fL9:Sch:=.fl 0 (.fl 1 (.fl 2 (.fl 3 (.fl 4 (.fl 5 (.fl 6 (.fl 7 (.fl 8 (.nil)))))))))
def fL11:Sch:=.fl 0 (.fl 1 (.fl 2 (.fl 3 (.fl 4 (.fl 5 (.fl 6 (.fl 7 (.fl 8 (.fl 9 (.fl 10 (.nil)))))))))))
def fL51:Sch:=.fl 0 (.fl 1 (.fl 2 (.fl 3 (.fl 4 (.fl 5 (.fl 6 (.fl 7 (.fl 8 (.fl 9 (.fl 10 (.fl 11 (.fl 12 (.fl 13 (.fl 14 (.fl 15 (.fl 16 (.fl 17 (.fl 18 (.fl 19 (.fl 20 (.fl 21 (.fl 22 (.fl 23 (.fl 24 (.fl 25 (.fl 26 (.fl 27 (.fl 28 (.fl 29 (.fl 30 (.fl 31 (.fl 32 (.fl 33 (.fl 34 (.fl 35 (.fl 36 (.fl 37 (.fl 38 (.fl 39 (.fl 40 (.fl 41 (.fl 42 (.fl 43 (.fl 44 (.fl 45 (.fl 46 (.fl 47 (.fl 48 (.fl 49 (.fl 50 (.nil)))))))))))))))))))))))))))))))))))))))))))))))))))
def wPF (s:Sch):Sch:=.fl 0 (.fl 1 (.fl 2 (s)))
def wNl (s:Sch):Sch:=.fl 0 (.fl 1 (.fl 2 (.fl 3 (s))))
def wCK (s:Sch):Sch:=.fl 0 (.fl 1 (.fl 2 (.fl 3 (.fl 4 (s)))))
def wNm (s:Sch):Sch:=.fl 0 (.fl 1 (.fl 2 (.fl 3 (.fl 4 (.fl 5 (s))))))
def wNn (s:Sch):Sch:=.fl 0 (.fl 1 (.fl 2 (.fl 3 (.fl 4 (.fl 5 (.fl 6 (s)))))))
def fC0_7 (s:Sch):Sch:=.fl 0 (.fl 1 (.fl 2 (.fl 3 (.fl 4 (.fl 5 (.fl 6 (.fl 7 (s))))))))
def wPG (s:Sch):Sch:=.fl 0 (.fl 1 (.fl 2 (.fl 3 (.fl 4 (.fl 5 (.fl 6 (.fl 7 (.fl 8 (s)))))))))
def fC0_9 (s:Sch):Sch:=.fl 0 (.fl 1 (.fl 2 (.fl 3 (.fl 4 (.fl 5 (.fl 6 (.fl 7 (.fl 8 (.fl 9 (s))))))))))
def wIq (s:Sch):Sch:=.fl 0 (.fl 1 (.fl 2 (.fl 3 (.fl 4 (.fl 5 (.fl 6 (.fl 7 (.fl 8 (.fl 9 (.fl 10 (s)))))))))))
def wPH (s:Sch):Sch:=.fl 0 (.fl 1 (.fl 2 (.fl 3 (.fl 4 (.fl 5 (.fl 6 (.fl 7 (.fl 8 (.fl 9 (.fl 10 (.fl 11 (.fl 12 (s)))))))))))))
def wPI (s:Sch):Sch:=.fl 0 (.fl 1 (.fl 2 (.fl 3 (.fl 4 (.fl 5 (.fl 6 (.fl 7 (.fl 8 (.fl 9 (.fl 10 (.fl 11 (.fl 12 (.fl 13 (s))))))))))))))
def wLV (s:Sch):Sch:=.fl 0 (.fl 1 (.fl 2 (.fl 3 (.fl 4 (.fl 5 (.fl 6 (.fl 7 (.fl 8 (.fl 9 (.fl 10 (.fl 11 (.fl 12 (.fl 13 (.fl 14 (s)))))))))))))))
def wPJ (s:Sch):Sch:=.fl 0 (.fl 1 (.fl 2 (.fl 3 (.fl 4 (.fl 5 (.fl 6 (.fl 7 (.fl 8 (.fl 9 (.fl 10 (.fl 11 (.fl 12 (.fl 13 (.fl 14 (.fl 15 (.fl 16 (.fl 17 (.fl 18 (.fl 19 (.fl 20 (s)))))))))))))))))))))
def fC2_5 (s:Sch):Sch:=.fl 2 (.fl 3 (.fl 4 (.fl 5 (s))))
def wPK (s:Sch):Sch:=.fl 3 (.fl 4 (.fl 5 (s)))
def wPL (s:Sch):Sch:=.fl 3 (.fl 4 (.fl 5 (.fl 6 (.fl 7 (s)))))
def fC4_8 (s:Sch):Sch:=.fl 4 (.fl 5 (.fl 6 (.fl 7 (.fl 8 (s)))))
def wMe (s:Sch):Sch:=.fl 6 (.fl 7 (.fl 8 (.fl 9 (.fl 10 (s)))))
def wPM (s:Sch):Sch:=.fl 6 (.fl 7 (.fl 8 (.fl 9 (.fl 10 (.fl 11 (s))))))
def wPN (s:Sch):Sch:=.fl 7 (.fl 8 (.fl 9 (.fl 10 (s))))
def wPO (s:Sch):Sch:=.fl 7 (.fl 8 (.fl 9 (.fl 10 (.fl 11 (s)))))
def wPP (s:Sch):Sch:=.fl 9 (.fl 10 (.fl 11 (.fl 12 (.fl 13 (.fl 14 (.fl 15 (.fl 16 (.fl 17 (.fl 18 (s))))))))))
def wNo (s:Sch):Sch:=.fl 13 (.fl 14 (.fl 15 (s)))
theorem zA:type_of% @wJb:=@wJb
theorem zB:type_of% @Tryz.runUnderlying31:=@Tryz.runUnderlying31
theorem zC:type_of% @Tryz.sizeOf3:=@Tryz.sizeOf3
theorem zD:type_of% @OKS.rm:=@OKS.rm
theorem zE:type_of% @Hid.mk:=@Hid.mk
theorem zF:type_of% @CK.seq:=@CK.seq
theorem zG:type_of% @Runs.lss:=@Runs.lss
theorem zH:type_of% @wFz:=@wFz
theorem zI:type_of% @Tryz.isAgg3:=@Tryz.isAgg3
theorem zJ:type_of% @PHeap.Le.refl:=@PHeap.Le.refl
theorem zK:type_of% @CK.block:=@CK.block
theorem zL:type_of% @OKS.callH:=@OKS.callH
theorem zM:type_of% @Enters.mk:=@Enters.mk
theorem zN:type_of% @wJZ:=@wJZ
theorem zO:type_of% @Runs.addw:=@Runs.addw
theorem zP:type_of% @Tryz.runUnderlying29:=@Tryz.runUnderlying29
theorem zQ:type_of% @Tryz.runUnderlying22:=@Tryz.runUnderlying22
theorem zR:type_of% @Runs.pickF:=@Runs.pickF
theorem zS:type_of% @wJa:=@wJa
theorem zU:type_of% @wMH:=@wMH
theorem zV:type_of% @OKS.e:=@OKS.e
theorem zW:type_of% @wIK:=@wIK
theorem zX:type_of% @CK.ret:=@CK.ret
theorem zY:type_of% @Runs.pickT:=@Runs.pickT
theorem zZ:type_of% @CK.condF:=@CK.condF
theorem zd:type_of% @nO:=@nO
theorem ze:type_of% @OKS.p:=@OKS.p
theorem zf:type_of% @Tryz.sizeOf28:=@Tryz.sizeOf28
theorem zg:type_of% @OKS.r:=@OKS.r
theorem zh:type_of% @wGD:=@wGD
theorem zi:type_of% @Runs.len:=@Runs.len
theorem zj:type_of% @wGA:=@wGA
theorem zk:type_of% @Runs.iaN:=@Runs.iaN
theorem zl:type_of% @Runs.iaI:=@Runs.iaI
theorem zm:type_of% @Runs.subw:=@Runs.subw
theorem zn:type_of% @CK.skip:=@CK.skip
theorem zo:type_of% @CK.exit:=@CK.exit
theorem zp:type_of% @wNw:=@wNw
theorem zq:type_of% @Tryz.runUnderlying30:=@Tryz.runUnderlying30
theorem zr:type_of% @Tryz.call153:=@Tryz.call153
theorem zt:type_of% @wEp:=@wEp
theorem zu:type_of% @Tryz.runUnderlying192:=@Tryz.runUnderlying192
theorem zw:type_of% @wIL:=@wIL
theorem zx:type_of% @Tryz.runUnderlying3:=@Tryz.runUnderlying3
theorem zy:type_of% @Runs.fa:=@Runs.fa
theorem zz:type_of% @res1:=@res1
theorem ZA:type_of% @Tryz.mixed:=@Tryz.mixed
theorem ZB:type_of% @Runs.to:=@Runs.to
theorem ZC:type_of% @OKS.m:=@OKS.m
theorem ZD:type_of% @CK.anyOrd:=@CK.anyOrd
theorem ZE:type_of% @CK.condT:=@CK.condT
theorem ZF:type_of% @Tryz.runUnderlying28:=@Tryz.runUnderlying28
theorem ZG:type_of% @Tryz.runUnderlying24:=@Tryz.runUnderlying24
theorem ZH:type_of% @Tryz.runUnderlying40:=@Tryz.runUnderlying40
theorem ZI:type_of% @Tryz.sizeOf30:=@Tryz.sizeOf30
theorem ZJ:type_of% @wNv:=@wNv
theorem ZK:type_of% @OKS.buildSlice:=@OKS.buildSlice
theorem ZL:type_of% @Tryz.isAgg28:=@Tryz.isAgg28
theorem ZM:type_of% @Tryz.zeroValue3:=@Tryz.zeroValue3
theorem ZN:type_of% @Tryz.underlying31:=@Tryz.underlying31
theorem ZO:type_of% @OKS.append:=@OKS.append
theorem ZP:type_of% @Tryz.sizeOf132:=@Tryz.sizeOf132
theorem ZQ:type_of% @Runs.ext:=@Runs.ext
theorem ZR:type_of% @CK.iter:=@CK.iter
end Go.Proofs.YtghaibkggdecnaaGreat
namespace Go.Proofs.YtghaibkggdecnaaGreat
open Go.KL
set_option maxHeartbeats 4000000
theorem wCB (w:World) (U:PHeap) (hS:St0 w U []) {r:Bool} (hm:wBX=some r):Gv Tryz.prog 11 [] w (wDR w [] U (fun U_ L_ v=>v=.bool r/\L_=[])):=by
 cases hm
 refine (xr11 w).mono ?_
 rintro v w' ⟨rfl,k⟩
 exact ⟨U,[],hS.grow k,Z,Z⟩
theorem wBr (p0:List wAA) (pA0:Option Addr) (pc0:Nat) (w:World) (U:PHeap) (hS:St0 w U []) (ha0:Sl U 2 pA0 pc0 p0.length (hH wAI p0)) {r:(List wAA)} (hm:wAd p0=some r):Gv Tryz.prog 12 [.slice pA0 p0.length pc0] w (wDR w [] U (fun U_ L_ v=>∃ (A0:Option Addr) (c0:Nat),v=.slice A0 r.length c0/\L_=[.row A0 c0 28 2 (hH wAI r)])):=by
 unfold wAd at hm
 refine Gv.of Tryz.func12 Z Tryz.ntmps12 Tryz.results12 Z (sR fL1 Z (oA Z Z (eN (sR (.fl 0 (.fx 1 (.fl 2 (.nil)) .stop)) Z (oM Z Z ?_)))))
 have hS1:=hS.nilrow 28 2
 have hS3:sW w U U [.row none 0 28 2 (hH wAI ([]:List wAA))] w:=hS1
 refine bnK hm fun x4 h5 hm6=>ZO (j:=0) (enc:=wAI) (xs:=([]:List wAA)) (ys:=p0) (zs:=x4) Z Z Z Z Z Tryz.underlying22 wOp Z Z Z Z Z Z hS3 Z Z Z (hS3.srcS ha0) (fun _=>Z) (fun _=>Z) h5 Z ?_
 intro A7 c8 W9 hS10
 have hS11:sW w U U [.row A7 c8 28 2 (hH wAI x4)] W9:=hS10
 refine oA Z Z (eN (zX ?_))
 have hE:=nA hm6;first | subst r | cases hE
 exact ⟨Z,_,(zz Z),U,_,hS11,A7,c8,Z,Z⟩
theorem wCV (p0:List wAA) (pA0:Option Addr) (pc0:Nat) (p1:(wAA->Option Bool)) (pv1:Value) (w:World) (U:PHeap) (hS:St0 w U []) (ha0:Sl U 2 pA0 pc0 p0.length (hH wAI p0)) (ha1:FnOK Tryz.prog U pv1 wOn wOo p1) {r:Bool} (hm:wAi p0 p1=some r):Gv Tryz.prog 125 [.slice pA0 p0.length pc0,pv1] w (wDR w [] U (fun U_ L_ v=>v=.bool r/\L_=[])):=by
 unfold wAi at hm
 refine Gv.of Tryz.func125 Z Tryz.ntmps125 Tryz.results125 Z (sR fL1 Z (oA Z Z (eN (zF (sR fL3 Z (oM Z Z (oR Z (zi Z Z zQ) (oM Z Z (eN (zK ?_))))))))))
 have q:=wCc hm
 obtain ⟨r3,hX4⟩:=q
 have q:=wCb hX4
 obtain ⟨hle5,hf6⟩:=q
 replace hle5:=zE hle5
 refine CK.forN (fun k2 _ σ_ w_=>∃ (U_:PHeap),σ_ 9=jV (↑k2:Int)/\σ_ 1=pv1/\σ_ 7=.slice pA0 p0.length pc0/\σ_ 8=jV (↑p0.length:Int)/\PHeap.Le U U_/\sW w U U_ [] w_) hf6 ?_ ?_ ?_
 ·exact ⟨U,Z,Z,Z,Z,(zJ _),hS⟩
 ·rintro k2 ⟨⟩ xx9 σ7 W8 hk12 ⟨U14,fi13,f17,f18,f19,le15,hS16⟩ hx10 hb11
  try dsimp only at hx10
  have c20:Hid ((↑k2:Int) < (↑p0.length:Int)):=zE (wBe hk12)
  replace hk12:=zE hk12
  have hi21:Hid (w64 ((↑k2:Int) + 1)=(↑(k2 + 1):Int)):=zE (by have h1:=hle5.out;have h2:=c20.out;rw [wAy] <;> omega)
  refine sR fL1 Z (oR Z (zG Z fi13 f19) (eN (zF (cT Z c20 (kN (zF (zK (sR (.fl 0 (.fl 1 (.fx 2 (.fx 3 (.nil) .stop) .stop))) Z (bnK hx10 fun x22 h23 hm24=>?_)))))))))
  have h25:=ha0.le le15
  have q:=h25.el (fun _=>rfl) (wAc h23)
  obtain ⟨b26,off27,hA28,hC29⟩:=q
  refine oR Z (zk Z f18 hA28 fi13 zQ zf (wBG h23)) (oL Z (hS16.ldCA (f:=0) hC29 Z Z ZL zf (us:=[jV x22.Bib,jV x22.Time]) Z Z) (OKS.alloc (cs:=[jV 0,jV 0]) Z Z Z Z Z Tryz.zeroValue28 Z hS16 ?_))
  intro W30 b31 hS32
  let B0:List Value:=[jV x22.Bib,jV x22.Time]
  refine OKS.st (j:=0) (vs:=B0) Z Z Z Z hS32 Z Z Z Z zf (zd Z) Z Z Z ?_
  intro W34 hS35
  have hS36:sW w U U14 [.blk b31 28 B0] W34:=hS35
  refine eN (sR (.fl 0 (.fl 1 (.fx 2 (.fl 3 (.nil)) .stop))) Z (oM Z f17 (oL Z (hS36.ldBA (j:=0) Z Z Z ZL zf (vs:=B0) Z Z) (bnK hm24 fun x37 h38 hm39=>?_))))
  have h46:=ha1.le le15
  refine OKS.callV (a:=x22) Z Z Z Z Z Z (zA Z zU) hS36 h46 Z h38 ?_
  rintro U40 L41 v42 W43 le44 hS45 ⟨rfl,rfl⟩
  have hS47:sW w U U40 [.blk b31 28 B0] W43:=hS45
  refine oR Z (Runs.notT Z Z) (eN (ifc hm39 ?_ ?_))
  ·intro c48 hm49
   refine zZ (nC c48.out) (zn (zW (zH (rR fL2 Z (oR Z (ZB (zO Z fi13 Z) (congrArg (jV) hi21.out)) (oM Z Z (zV ?_)))))))
   obtain rfl:=nA hm49
   exact zH ⟨rfl,_,rfl,⟨U40,rfl,f17,f18,f19,(le15.trans le44),(hS47.pick [] _ (by decide) rfl)⟩⟩
  ·intro c48 hm50
   refine ZE (nF (c48.out)) (sR fL1 Z (oA Z Z (eN (zX (zw (zS ?_))))))
   have q:=wAl hm50
   obtain ⟨v51,hm52,e53⟩:=q
   obtain rfl:=wDJ hm hX4 (hb11 v51 e53)
   refine zS (zw (zS ?_))
   have hE:=nA hm52;first | subst r | cases hE
   exact ⟨rfl,_,(zz rfl),U40,_,(hS47.pick [] _ (by decide) rfl),rfl,rfl⟩
 ·rintro ⟨⟩ σ54 W55 ⟨U58,fi57,f61,f62,f63,le59,hS60⟩ hb56
  have hm64:=wDm hm hX4 hb56
  try dsimp only at hm64
  have c65:Hid (¬ ((↑(((↑p0.length:Int):Int) - 0).toNat:Int) < (↑p0.length:Int))):=zE (wBJ)
  refine sR fL1 Z (oR Z (zG Z fi57 f63) (eN (zF (cF Z c65 (zo (zN (zN (zj (zH (sR fL1 Z (oA Z Z (eN (zX ?_)))))))))))))
  have hE:=nA hm64;first | subst r | cases hE
  exact ⟨Z,_,(zz Z),U58,_,hS60,Z,Z⟩
theorem wDF (p0:Int) (p1:Int) (p2:Int) (w:World) (U:PHeap) (hS:St0 w U [])  {r:Bool} (hm:wBf p0 p1 p2=some r):Gv Tryz.prog 86 [jV p0,jV p1,jV p2] w (wDR w [] U (fun U_ L_ v=>v=.bool r/\L_=[])):=by
 unfold wBf at hm
 refine Gv.of Tryz.func86 Z Tryz.ntmps86 Tryz.results86 Z (sR fL1 Z (oA Z Z (eN (sR fL9 Z (oM Z Z (oM Z Z (oR Z (Runs.geq Z Z Z) (oM Z Z ?_))))))))
 by_cases c1:p1 <= p0
 ·have hm2:=hm;rw [if_pos c1] at hm2;replace c1:=zE c1
  refine zD Z Z Z (wT Z c1) Z Z (zD Z Z Z (wT Z c1) Z Z (rU Z (wT Z c1) (Runs.leq Z Z Z) (oR Z (zY Z (ZJ c1.out) Z) (oA Z Z (eN (zX ?_))))))
  cases hm2
  exact ⟨Z,_,(zz Z),U,_,hS,Z,Z⟩
 ·have hm3:=hm;rw [if_neg c1] at hm3;replace c1:=zE c1
  refine oF Z c1 (oF Z c1 (oF Z c1 (oR Z (zR Z (zp c1.out) Z) (oA Z Z (eN (zX ?_))))))
  have hE:=nA hm3;first | subst r | cases hE
  exact ⟨Z,_,(zz Z),U,_,hS,Z,Z⟩
theorem wEF (p0:wAA) (w:World) (U:PHeap) (hS:St0 w U [])  {r:Bool} (hm:wAj p0=some r):Gv Tryz.prog 126 [.agg #[jV p0.Bib,jV p0.Time]] w (wDR w [] U (fun U_ L_ v=>v=.bool r/\L_=[])):=by
 unfold wAj at hm
 refine Gv.of Tryz.func126 Z Tryz.ntmps126 Tryz.results126 Z (sR (.fx 0 (.fl 1 (.nil)) .stop) Z ?_)
 let B0:List Value:=[jV p0.Bib,jV p0.Time]
 refine OKS.box (cs:=B0) rfl rfl rfl rfl rfl rfl (by rfl) hS ?_
 intro W1 b2 hS3
 refine oA Z Z (eN (sR (.fl 0 (.fl 1 (.fx 2 (wPK (.fx 6 (.fl 7 (.fl 8 (.nil))) .stop)) .stop))) Z (oR Z (zy Z Z ZF Z zC) (oL Z (hS3.ldB (j:=0) Z Z Z zI (v:=jV p0.Bib) Z) (bnK hm fun x5 h6 hm7=>zL 0 Z Z Z Z (zM Z Z Tryz.call86 (zA Z (zA Z (zA Z zU))) Z) hS3 (fun hs=>wDF p0.Bib 1 999 W1 U hs h6) (.inr Z) ?_)))))
 rintro U8 L9 v10 W11 le12 hS13 ⟨rfl,rfl⟩
 have hS14:sW w U U8 [.blk b2 28 B0] W11:=hS13
 refine oM Z Z (ifc hm7 ?_ ?_)
 ·intro c15 hm16
  refine zg Z Z Z (zh Z Z (congrArg nB c15.out)) (fun _=>zy Z Z ZF Z zC) (ZC Z Z Z (zh Z Z (congrArg nB c15.out)) (hS14.ldB (j:=0) Z Z Z zI (v:=jV p0.Time) Z) Z (bnK hm16 fun x17 h18 hm19=>zL 0 Z Z Z (zh Z Z (congrArg nB c15.out)) (zM Z Z Tryz.call86 (zA Z (zA Z (zA Z zU))) Z) hS14 (fun hs=>wDF p0.Time 0 360000 W11 U8 hs h18) (.inr Z) ?_))
  rintro U20 L21 v22 W23 le24 hS25 ⟨rfl,rfl⟩
  have hS26:sW w U U20 [.blk b2 28 B0] W23:=hS25
  refine oR Z (zY Z (congrArg nB c15.out) Z) (oA Z Z (eN (zX ?_)))
  have hE:=nA hm19;first | subst r | cases hE
  exact ⟨rfl,_,(zz rfl),U20,_,(hS26.pick [] _ (by decide) rfl),rfl,rfl⟩
 ·intro c15 hm27
  refine ze Z Z Z (zt Z Z (congrArg nB (nD.2 c15.out)) Z) (ze Z Z Z (zt Z Z (congrArg nB (nD.2 c15.out)) Z) (OKS.px Z Z Z (zt Z Z (congrArg nB (nD.2 c15.out)) Z) (oR Z (zR Z (congrArg nB (nD.2 c15.out)) Z) (oA Z Z (eN (zX ?_))))))
  have hE:=nA hm27;first | subst r | cases hE
  exact ⟨rfl,_,(zz rfl),U8,_,(hS14.pick [] _ (by decide) rfl),rfl,rfl⟩
theorem wGS (p0:List Int) (pA0:Option Addr) (pc0:Nat) (w:World) (U:PHeap) (hS:St0 w U []) (ha0:Sl U 1 pA0 pc0 p0.length (hH KL.encI p0)) {r:Bool} (hm:wBi p0=some r):Gv Tryz.prog 87 [.slice pA0 p0.length pc0] w (wDR w [] U (fun U_ L_ v=>v=.bool r/\L_=[])):=by
 unfold wBi at hm
 refine Gv.of Tryz.func87 Z Tryz.ntmps87 Tryz.results87 Z (sR fL1 Z (oA Z Z (eN (sR (.fx 0 (.fl 1 (.nil)) .stop) Z (OKS.makeMap Z Z Z Z Z hS ?_)))))
 intro W1 b2 hS3
 have hr4:=MpR.nil wLE wLv
 refine oA Z Z (eN (zF (sR fL3 Z (oM Z Z (oR Z (zi Z Z zB) (oM Z Z (eN (zK ?_))))))))
 have q:=wCc hm
 obtain ⟨r21,hX22⟩:=q
 have q:=wCb hX22
 obtain ⟨hle23,hf24⟩:=q
 replace hle23:=zE hle23
 refine CK.forN (fun k20 l17 σ_ w_=>∃ (U_:PHeap) (es18:Array MapEntry) (ck19:Nat),σ_ 9=jV (↑k20:Int)/\σ_ 3=.map (some b2)/\σ_ 7=.slice pA0 p0.length pc0/\σ_ 8=jV (↑p0.length:Int)/\PHeap.Le U U_/\sW w U U_ [.obj b2 (.map es18 ck19)] w_/\MpR es18 wLE wLv l17) hf24 ?_ ?_ ?_
 ·exact ⟨U,#[],0,Z,Z,Z,Z,(zJ _),hS3,hr4⟩
 ·rintro k20 l17 xx27 σ25 W26 hk30 ⟨U32,es18,ck19,fi31,f35,f36,f37,le33,hS34,h38⟩ hx28 hb29
  have c39:Hid ((↑k20:Int) < (↑p0.length:Int)):=zE (wBe hk30)
  replace hk30:=zE hk30
  have hi40:Hid (w64 ((↑k20:Int) + 1)=(↑(k20 + 1):Int)):=zE (by have h1:=hle23.out;have h2:=c39.out;rw [wAy] <;> omega)
  refine sR fL1 Z (oR Z (zG Z fi31 f37) (eN (zF (cT Z c39 (kN (zF (zK (sR fL3 Z (bnK hx28 fun x41 h42 hm43=>?_)))))))))
  have h44:=ha0.le le33
  have q:=h44.el (fun _=>rfl) (wAc h42)
  obtain ⟨b45,off46,hA47,hC48⟩:=q
  refine oR Z (zk Z f36 hA47 fi31 zB zC (wBG h42)) (oL Z (hS34.ldC (f:=0) hC48 (v:=jV x41) Z Z zI Z) (oA Z Z (eN (zF (sR fL3 Z (oM Z f35 (oM Z Z (oL Z (hS34.lookup1 (j:=0) (mk:=wLE) (mv:=wLv) (a:=x41) (z:=false) Z Z Z Z (wEN Tryz.runUnderlying180) wLH Tryz.zeroValue4 h38) (eN (ifc hm43 ?_ ?_))))))))))
  ·intro c49 hm50
   refine ZE (congrArg nB c49.out) (sR fL1 Z (oA Z Z (eN (zX (zS (zw (zS ?_)))))))
   have q:=wAl hm50
   obtain ⟨v51,hm52,e53⟩:=q
   obtain rfl:=wDJ hm hX22 (hb29 v51 e53)
   refine zS (zw (zS ?_))
   have hE:=nA hm52;first | subst r | cases hE
   exact ⟨rfl,_,(zz rfl),U32,_,(hS34.pick [] _ (by decide) rfl),rfl,rfl⟩
  ·intro c49 hm54
   refine zZ (congrArg nB (nD.2 c49.out)) (kN (rR (.fl 0 (.fl 1 (.fx 2 (.nil) .stop))) rfl (zD rfl rfl rfl rfl rfl f35 (zD rfl rfl rfl rfl rfl rfl (OKS.mapPut (x:=.tmp 16) (y:=.tmp 17) (j:=0) (mk:=wLE) (mv:=wLv) (a:=x41) (v:=true) rfl rfl rfl (by first | exact .inl rfl | exact .inr rfl) hS34 rfl rfl rfl rfl (wEN Tryz.runUnderlying180) wLH h38 rfl ?_)))))
   intro es55 ck56 W57 hr58 hS59
   have hS60:sW w U U32 [.obj b2 (.map es55 ck56)] W57:=hS59
   refine zV (zW (zH (rR fL2 Z (oR Z (ZB (zO Z fi31 Z) (congrArg (jV) hi40.out)) (oM Z Z (zV ?_))))))
   obtain rfl:=nA hm54
   exact zH ⟨Z,_,Z,⟨U32,es55,ck56,Z,f35,f36,f37,le33,hS60,hr58⟩⟩
 ·rintro y68 σ64 W65 ⟨U71,e69,c70,fi67,f74,f75,f76,le72,hS73,h77⟩ hb66
  have hm78:=wDm hm hX22 hb66
  have c79:Hid (¬ ((↑(((↑p0.length:Int):Int) - 0).toNat:Int) < (↑p0.length:Int))):=zE (wBJ)
  refine sR fL1 Z (oR Z (zG Z fi67 f76) (eN (zF (cF Z c79 (zo (zN (zN (zj (zH (sR fL1 Z (oA Z Z (eN (zX ?_)))))))))))))
  have hE:=nA hm78;first | subst r | cases hE
  exact ⟨rfl,_,(zz rfl),U71,_,(hS73.pick [] _ (by decide) rfl),rfl,rfl⟩
theorem wFR (p0:List wAA) (pA0:Option Addr) (pc0:Nat) (p1:wAJ) (w:World) (U:PHeap) (hS:St0 w U []) (ha0:Sl U 2 pA0 pc0 p0.length (hH wAI p0)) {r:Int} (hm:wBT p0 p1=some r):Gv Tryz.prog 76 [.slice pA0 p0.length pc0,.agg #[jV p1.Unit,jV p1.Limit]] w (wDR w [] U (fun U_ L_ v=>v=jV r/\L_=[])):=by
 unfold wBT at hm
 refine Gv.of Tryz.func76 Z Tryz.ntmps76 Tryz.results76 Z (sR (.fx 0 (.fl 1 (.nil)) .stop) Z ?_)
 let B0:List Value:=[jV p1.Unit,jV p1.Limit]
 refine OKS.box (cs:=B0) rfl rfl rfl rfl rfl rfl (by rfl) hS ?_
 intro W1 b2 hS3
 refine oA Z Z (eN (sR fL1 Z (oA Z Z (eN (zF (sR fL3 Z (oM Z Z (oR Z (zi Z Z zQ) (oM Z Z (eN (zK (bnK hm fun y27 hf24 hm23=>?_))))))))))))
 have q:=wBh hf24
 obtain ⟨hle25,hf26⟩:=q
 replace hle25:=zE hle25
 refine CK.forN' (fun k22 l18 σ_ w_=>∃ (U_:PHeap) (A19:Option Addr) (c20:Nat),σ_ 10=jV (↑k22:Int)/\σ_ 0=.slice pA0 p0.length pc0/\σ_ 3=.pointer (some ⟨b2,0,none⟩)/\σ_ 5=.slice A19 l18.length c20/\σ_ 8=.slice pA0 p0.length pc0/\σ_ 9=jV (↑p0.length:Int)/\PHeap.Le U U_/\sW w U U_ [.blk b2 24 B0,.row A19 c20 3 1 (hH KL.encI l18)] w_) hf26 ?_ ?_ ?_
 ·have hS28:=hS3.nilrow 3 1
  exact ⟨U,none,0,rfl,rfl,rfl,rfl,rfl,rfl,(zJ _),(hS28.pick [1,0] _ (by decide) rfl)⟩
 ·rintro k22 l18 xx32 σ30 W31 hk35 ⟨U37,A19,c20,fi36,f40,f41,f42,f43,f44,le38,hS39⟩ hx33
  have c45:Hid ((↑k22:Int) < (↑p0.length:Int)):=zE (wBe hk35)
  replace hk35:=zE hk35
  have hi46:Hid (w64 ((↑k22:Int) + 1)=(↑(k22 + 1):Int)):=zE (by have h1:=hle25.out;have h2:=c45.out;rw [wAy] <;> omega)
  refine sR fL1 Z (oR Z (zG Z fi36 f44) (eN (zF (cT Z c45 (kN (zF (zK (sR (.fl 0 (.fl 1 (.fx 2 (.fx 3 (.nil) .stop) .stop))) Z (bnK hx33 fun x47 h48 hm49=>?_)))))))))
  have h50:=ha0.le le38
  have q:=h50.el (fun _=>rfl) (wAc h48)
  obtain ⟨b51,off52,hA53,hC54⟩:=q
  refine oR Z (zk Z f43 hA53 fi36 zQ zf (wBG h48)) (oL Z (hS39.ldCA (f:=0) hC54 Z Z ZL zf (us:=[jV x47.Bib,jV x47.Time]) Z Z) (OKS.alloc (cs:=[jV 0,jV 0]) Z Z Z Z Z Tryz.zeroValue28 Z hS39 ?_))
  intro W55 b56 hS57
  let B1:List Value:=[jV x47.Bib,jV x47.Time]
  refine OKS.st (j:=0) (vs:=B1) Z Z Z Z hS57 Z Z Z Z zf (zd Z) Z Z Z ?_
  intro W59 hS60
  let B2:Res:=.row A19 c20 3 1 (hH KL.encI l18)
  have hS61:sW w U U37 [.blk b56 28 B1,.blk b2 24 B0,B2] W59:=hS60
  refine eN (rR (wPF (.fx 3 (.fx 4 (.fl 5 (.nil)) .stop) .stop)) Z (oM Z f42 (oR Z (zy Z Z ZF Z zC) (oL Z (hS61.ldB (j:=0) Z Z Z zI (v:=jV x47.Bib) Z) (ZK (pv:=[(0,jV x47.Bib)]) (zs:=[jV 0]) (cs:=[jV x47.Bib]) Z Z Z Z Z (wBH Z wCA) zB zC ZM Z Z Z Z Z hS61 ?_)))))
  intro W62 b63 hS64
  let B3:Res:=.row (some ⟨b63,0,none⟩) 1 3 1 (hH KL.encI [x47.Bib])
  have hS66:sW w U U37 [B3,.blk b56 28 B1,.blk b2 24 B0,B2] W62:=hS64
  refine bnK hm49 fun x67 h68 hm69=>ZO (j:=3) (enc:=KL.encI) (xs:=l18) (ys:=[x47.Bib]) (zs:=x67) rfl rfl rfl rfl rfl ZN wJP rfl rfl rfl rfl rfl rfl hS66 rfl rfl rfl (hS66.srcR (j:=0) rfl (by decide) (wAG (f:=KL.encI) (sz:=1) (fun _=>rfl) [x47.Bib])) (fun _=>rfl) (fun _=>rfl) h68 rfl ?_
  intro A70 c71 W72 hS73
  have hS74:sW w U U37 [B3,.blk b56 28 B1,.blk b2 24 B0,.row A70 c71 3 1 (hH KL.encI x67)] W72:=hS73
  refine oA Z Z (zV (zW (zH (rR fL2 Z (oR Z (ZB (zO Z fi36 Z) (congrArg (jV) hi46.out)) (oM Z Z (zV ?_)))))))
  cases hm69
  exact zH ⟨rfl,⟨U37,A70,c71,rfl,f40,f41,rfl,f43,f44,le38,(hS74.pick [2,3] _ (by decide) rfl)⟩⟩
 ·rintro σ78 W79 ⟨U87,A85,c86,fi81,f90,f91,f92,f93,f94,le88,hS89⟩
  have c95:Hid (¬ ((↑(((↑p0.length:Int):Int) - 0).toNat:Int) < (↑p0.length:Int))):=zE (wBJ)
  refine sR fL1 Z (oR Z (zG Z fi81 f94) (eN (zF (cF Z c95 (zo (zN (zN (zj (zH (zF (zK (sR fL4 Z (oM Z f90 (oR Z (zi Z Z zQ) (oR Z (Runs.gtr Z Z Z) (oA Z Z (eN (ifc hm23 ?_ ?_))))))))))))))))))
  ·intro c96 hm97
   refine cT Z c96 (sR fL1 Z (oA Z Z (eN (zX (zw (zS ?_))))))
   cases hm97
   exact ⟨rfl,_,(zz rfl),U87,_,(hS89.pick [] _ (by decide) rfl),rfl,rfl⟩
  ·intro c96 hm98
   refine cF Z c96 (sR (.fl 0 (.fx 1 (fC2_5 (.fx 6 (wPO (.fx 12 (wNo (.nil)) .stop)) .stop)) .stop)) Z (oM Z f90 ?_))
   have h99:=ha0.le le88
   have hF100:FnOK Tryz.prog U87 (.func (.func 126) #[] #[]) wOn wOo wAj:=⟨126,[],[],rfl,Tryz.call126,fun U1 w1 x y vs le hs ha hm=>by obtain rfl:=ha;exact wEF x w1 U1 hs  hm⟩
   refine bnK hm98 fun x101 h102 hm103=>zL 0 Z Z Z Z (zM Z Z Tryz.call125 (zA Z (zA Z zU)) Z) hS89 (fun hs=>wCV p0 pA0 pc0 wAj (.func (.func 126) #[] #[]) W79 U87 hs h99 hF100 h102) (.inr Z) ?_
   rintro U104 L105 v106 W107 le108 hS109 ⟨rfl,rfl⟩
   let B4:Res:=.row A85 c86 3 1 (hH KL.encI y27)
   have hS110:sW w U U104 [.blk b2 24 B0,B4] W107:=hS109
   refine oR Z (Runs.notT Z Z) (oM Z Z (ifc hm103 ?_ ?_))
   ·intro c111 hm112
    refine zg Z Z Z (zh Z Z (nC c111.out)) (fun _=>zy Z f91 ZG Z zC) (ZC Z Z Z (zh Z Z (nC c111.out)) (hS110.ldB (j:=0) Z Z Z zI (v:=jV p1.Unit) Z) Z (bnK hm112 fun x113 h114 hm115=>zL 0 Z Z Z (zh Z Z (nC c111.out)) (zM Z Z Tryz.call86 (zA Z (zA Z (zA Z zU))) Z) hS110 (fun hs=>wDF p1.Unit 1 600 W107 U104 hs h114) (.inr Z) ?_))
    rintro U116 L117 v118 W119 le120 hS121 ⟨rfl,rfl⟩
    have hS122:sW w U U116 [.blk b2 24 B0,B4] W119:=hS121
    refine zg Z Z Z (zh Z Z (nC c111.out)) (fun _=>Runs.notT Z Z) (oR Z (zR Z (nC c111.out) Z) (oM Z Z (ifc hm115 ?_ ?_)))
    ·intro c123 hm124
     refine zg Z Z Z (zh Z Z (nC c123.out)) (fun _=>zy Z f91 ZG Z zC) (ZC Z Z Z (zh Z Z (nC c123.out)) (hS122.ldB (j:=0) Z Z Z zI (v:=jV p1.Limit) Z) Z (bnK hm124 fun x125 h126 hm127=>zL 0 Z Z Z (zh Z Z (nC c123.out)) (zM Z Z Tryz.call86 (zA Z (zA Z (zA Z zU))) Z) hS122 (fun hs=>wDF p1.Limit 0 360000 W119 U116 hs h126) (.inr Z) ?_))
     rintro U128 L129 v130 W131 le132 hS133 ⟨rfl,rfl⟩
     have hS134:sW w U U128 [.blk b2 24 B0,B4] W131:=hS133
     refine zg Z Z Z (zh Z Z (nC c123.out)) (fun _=>Runs.notT Z Z) (oR Z (zR Z (nC c123.out) Z) (oA Z Z (eN (ifc hm127 ?_ ?_))))
     ·intro c135 hm136
      refine zZ (nC c135.out) (sR (.fl 0 (.fx 1 (.fl 2 (.nil)) .stop)) Z (oM Z f92 ?_))
      have q:=hS134.freezeR (k:=1) (n:=y27.length) rfl (wAG (f:=KL.encI) (sz:=1) (fun _=>rfl) y27) (by decide)
      obtain ⟨U137,le138,hs139,hS140⟩:=q
      have hS141:sW w U U137 [.blk b2 24 B0] W131:=hS140
      refine bnK hm136 fun x142 h143 hm144=>zL 0 Z Z Z Z (zM Z Z Tryz.call87 (zA Z zU) Z) hS141 (fun hs=>wGS y27 A85 c86 W131 U137 hs hs139 h143) (.inr Z) ?_
      rintro U145 L146 v147 W148 le149 hS150 ⟨rfl,rfl⟩
      have hS151:sW w U U145 [.blk b2 24 B0] W148:=hS150
      refine oA Z Z (eN (ifc hm144 ?_ ?_))
      ·intro c152 hm153
       refine ZE (congrArg nB c152.out) (sR fL1 Z (oA Z Z (eN (zX (zw (zS ?_))))))
       cases hm153
       exact ⟨rfl,_,(zz rfl),U145,_,(hS151.pick [] _ (by decide) rfl),rfl,rfl⟩
      ·intro c152 hm154
       refine zZ (congrArg nB (nD.2 c152.out)) (zn (zW (zH (sR fL1 Z (oA Z Z (eN (zX ?_)))))))
       cases hm154
       exact ⟨rfl,_,(zz rfl),U145,_,(hS151.pick [] _ (by decide) rfl),rfl,rfl⟩
     ·intro c135 hm155
      refine ZE (nF (c135.out)) (sR fL1 Z (oA Z Z (eN (zX (zw (zS ?_))))))
      cases hm155
      exact ⟨rfl,_,(zz rfl),U128,_,(hS134.pick [] _ (by decide) rfl),rfl,rfl⟩
    ·intro c123 hm156
     refine ze Z Z Z (zt Z Z (nF (c123.out)) Z) (ze Z Z Z (zt Z Z (nF (c123.out)) Z) (OKS.px Z Z Z (zt Z Z (nF (c123.out)) Z) (ze Z Z Z (zt Z Z (nF (c123.out)) Z) (oR Z (zY Z (nF (c123.out)) Z) (oA Z Z (eN (ZE Z (sR fL1 Z (oA Z Z (eN (zX (zw (zS ?_)))))))))))))
     cases hm156
     exact ⟨rfl,_,(zz rfl),U116,_,(hS122.pick [] _ (by decide) rfl),rfl,rfl⟩
   ·intro c111 hm157
    refine ze Z Z Z (zt Z Z (nF (c111.out)) Z) (ze Z Z Z (zt Z Z (nF (c111.out)) Z) (OKS.px Z Z Z (zt Z Z (nF (c111.out)) Z) (ze Z Z Z (zt Z Z (nF (c111.out)) Z) (oR Z (zY Z (nF (c111.out)) Z) (oM Z Z (oN Z (oN Z (OKS.px Z Z Z (zt Z Z Z Z) (oN Z (oR Z (zY Z Z Z) (oA Z Z (eN (ZE Z (sR fL1 Z (oA Z Z (eN (zX (zw (zS ?_)))))))))))))))))))
    cases hm157
    exact ⟨rfl,_,(zz rfl),U104,_,(hS110.pick [] _ (by decide) rfl),rfl,rfl⟩
theorem wCo (p0:List wAA) (pA0:Option Addr) (pc0:Nat) (p1:wAJ) (w:World) (U:PHeap) (hS:St0 w U []) (ha0:Sl U 2 pA0 pc0 p0.length (hH wAI p0)) {r:(List Int) × Int} (hm:wBB p0 p1=some r):Gv Tryz.prog 13 [.slice pA0 p0.length pc0,.agg #[jV p1.Unit,jV p1.Limit]] w (wDR w [] U (fun U_ L_ v=>∃ (A0:Option Addr) (c0:Nat),v=.tuple #[.slice A0 r.1.length c0,jV r.2]/\L_=[.row A0 c0 3 1 (hH KL.encI r.1)])):=by
 unfold wBB at hm
 refine Gv.of Tryz.func13 Z Tryz.ntmps13 Tryz.results13 Z (sR (.fx 0 (.fl 1 (.fl 2 (.nil))) .stop) Z ?_)
 let B0:List Value:=[jV p1.Unit,jV p1.Limit]
 refine OKS.box (cs:=B0) rfl rfl rfl rfl rfl rfl (by rfl) hS ?_
 intro W1 b2 hS3
 refine oA Z Z (oA Z Z (eN (zF (sR (.fl 0 (.fl 1 (.fx 2 (.fl 3 (.nil)) .stop))) Z (oM Z Z (oL Z (hS3.ldBA (j:=0) Z Z Z Tryz.isAgg24 Tryz.sizeOf24 (vs:=B0) Z Z) (bnK hm fun x5 h6 hm7=>zL 0 Z Z Z Z (zM Z Z Tryz.call76 (zA Z (zA Z zU)) Z) hS3 (fun hs=>wFR p0 pA0 pc0 p1 W1 U hs ha0 h6) (.inr Z) ?_)))))))
 rintro U8 L9 v10 W11 le12 hS13 ⟨rfl,rfl⟩
 have hS14:sW w U U8 [.blk b2 24 B0] W11:=hS13
 refine oA Z Z (eN (sR fL2 Z (oM Z Z (oR Z (Runs.neq Z Z Z) (eN (ifc hm7 ?_ ?_))))))
 ·intro c15 hm16
  refine zZ (zp (fun h=>h c15.out)) (kN (sR fL1 Z (oA Z Z (eN (zF (sR fL3 Z (oM Z Z (oR Z (zi Z Z zQ) (oM Z Z (eN (zK (bnK hm16 fun y28 hf25 hm24=>?_))))))))))))
  have q:=wBh hf25
  obtain ⟨hle26,hf27⟩:=q
  replace hle26:=zE hle26
  refine CK.forN' (fun k23 x22 σ_ w_=>∃ (U_:PHeap),σ_ 22=jV (↑k23:Int)/\σ_ 0=.slice pA0 p0.length pc0/\σ_ 3=.pointer (some ⟨b2,0,none⟩)/\σ_ 7=jV x22/\σ_ 20=.slice pA0 p0.length pc0/\σ_ 21=jV (↑p0.length:Int)/\PHeap.Le U8 U_/\sW w U U_ [.blk b2 24 B0] w_) hf27 ?_ ?_ ?_
  ·exact ⟨U8,Z,Z,Z,Z,Z,Z,(zJ _),hS14⟩
  ·rintro k23 x22 xx31 σ29 W30 hk34 ⟨U36,fi35,f39,f40,f41,f42,f43,le37,hS38⟩ hx32
   have c44:Hid ((↑k23:Int) < (↑p0.length:Int)):=zE (wBe hk34)
   replace hk34:=zE hk34
   have hi45:Hid (w64 ((↑k23:Int) + 1)=(↑(k23 + 1):Int)):=zE (by have h1:=hle26.out;have h2:=c44.out;rw [wAy] <;> omega)
   refine sR fL1 Z (oR Z (zG Z fi35 f43) (eN (zF (cT Z c44 (kN (zF (zK (sR (.fl 0 (.fl 1 (.fx 2 (.fx 3 (.nil) .stop) .stop))) Z (bnK hx32 fun x46 h47 hm48=>?_)))))))))
   have h49:=ha0.le le12
   have h50:=h49.le le37
   have q:=h50.el (fun _=>rfl) (wAc h47)
   obtain ⟨b51,off52,hA53,hC54⟩:=q
   refine oR Z (zk Z f42 hA53 fi35 zQ zf (wBG h47)) (oL Z (hS38.ldCA (f:=0) hC54 Z Z ZL zf (us:=[jV x46.Bib,jV x46.Time]) Z Z) (OKS.alloc (cs:=[jV 0,jV 0]) Z Z Z Z Z Tryz.zeroValue28 Z hS38 ?_))
   intro W55 b56 hS57
   let B1:List Value:=[jV x46.Bib,jV x46.Time]
   refine OKS.st (j:=0) (vs:=B1) Z Z Z Z hS57 Z Z Z Z zf (zd Z) Z Z Z ?_
   intro W59 hS60
   have hS61:sW w U U36 [.blk b56 28 B1,.blk b2 24 B0] W59:=hS60
   refine eN (rR fL5 Z (oM Z f41 (oR Z (zy Z Z ZF Z zC) (oL Z (hS61.ldB (j:=0) Z Z Z zI (v:=jV x46.Time) Z) (oR Z (Runs.min Z Z Z) (oA Z Z (zV (zW (zH (rR fL2 Z (oR Z (ZB (zO Z fi35 Z) (congrArg (jV) hi45.out)) (oM Z Z (zV ?_)))))))))))))
   cases hm48
   exact zH ⟨rfl,⟨U36,rfl,f39,f40,rfl,f42,f43,le37,(hS61.pick [1] _ (by decide) rfl)⟩⟩
  ·rintro σ63 W64 ⟨U68,fi66,f71,f72,f73,f74,f75,le69,hS70⟩
   have c76:Hid (¬ ((↑(((↑p0.length:Int):Int) - 0).toNat:Int) < (↑p0.length:Int))):=zE (wBJ)
   refine sR fL1 Z (oR Z (zG Z fi66 f75) (eN (zF (cF Z c76 (zo (zN (zN (zj (zH (sR fL1 Z (oA Z Z (eN (zF (sR fL3 Z (oM Z f71 (oR Z (zi Z Z zQ) (oM Z Z (eN (zK (bnK hm24 fun y99 hf96 hm95=>?_))))))))))))))))))))
   have q:=wBh hf96
   obtain ⟨hle97,hf98⟩:=q
   replace hle97:=zE hle97
   refine CK.forN' (fun k94 l90 σ_ w_=>∃ (U_:PHeap) (A91:Option Addr) (c92:Nat),σ_ 33=jV (↑k94:Int)/\σ_ 3=.pointer (some ⟨b2,0,none⟩)/\σ_ 7=jV y28/\σ_ 10=.slice A91 l90.length c92/\σ_ 31=.slice pA0 p0.length pc0/\σ_ 32=jV (↑p0.length:Int)/\PHeap.Le U68 U_/\sW w U U_ [.blk b2 24 B0,.row A91 c92 3 1 (hH KL.encI l90)] w_) hf98 ?_ ?_ ?_
   ·have hS100:=hS70.nilrow 3 1
    exact ⟨U68,none,0,rfl,f72,f73,rfl,rfl,rfl,(zJ _),(hS100.pick [1,0] _ (by decide) rfl)⟩
   ·rintro k94 l90 xx104 σ102 W103 hk107 ⟨U109,A91,c92,fi108,f112,f113,f114,f115,f116,le110,hS111⟩ hx105
    have c117:Hid ((↑k94:Int) < (↑p0.length:Int)):=zE (wBe hk107)
    replace hk107:=zE hk107
    have hi118:Hid (w64 ((↑k94:Int) + 1)=(↑(k94 + 1):Int)):=zE (by have h1:=hle97.out;have h2:=c117.out;rw [wAy] <;> omega)
    refine sR fL1 Z (oR Z (zG Z fi108 f116) (eN (zF (cT Z c117 (kN (zF (zK (sR (.fl 0 (.fl 1 (.fx 2 (.fx 3 (.nil) .stop) .stop))) Z (bnK hx105 fun x119 h120 hm121=>?_)))))))))
    have h122:=ha0.le le12
    have h123:=h122.le le69
    have h124:=h123.le le110
    have q:=h124.el (fun _=>rfl) (wAc h120)
    obtain ⟨b125,off126,hA127,hC128⟩:=q
    refine oR Z (zk Z f115 hA127 fi108 zQ zf (wBG h120)) (oL Z (hS111.ldCA (f:=0) hC128 Z Z ZL zf (us:=[jV x119.Bib,jV x119.Time]) Z Z) (OKS.alloc (cs:=[jV 0,jV 0]) Z Z Z Z Z Tryz.zeroValue28 Z hS111 ?_))
    intro W129 b130 hS131
    let B2:List Value:=[jV x119.Bib,jV x119.Time]
    refine OKS.st (j:=0) (vs:=B2) Z Z Z Z hS131 Z Z Z Z zf (zd Z) Z Z Z ?_
    intro W133 hS134
    let B3:Res:=.row A91 c92 3 1 (hH KL.encI l90)
    have hS135:sW w U U109 [.blk b130 28 B2,.blk b2 24 B0,B3] W133:=hS134
    refine eN (sR fL5 rfl (zg rfl rfl rfl rfl (fun _=>zy rfl rfl ZF rfl zC) (ZC rfl rfl rfl rfl (hS135.ldB (j:=0) rfl rfl rfl zI (v:=jV x119.Time) rfl) rfl (zD rfl rfl rfl rfl rfl f113 (zg rfl rfl rfl rfl (fun _=>zm rfl rfl rfl) (OKS.ra rfl rfl rfl rfl rfl rfl (eN (ZD ZA [3,3,3,3,1,3,3,3,1,3,2,0,3] (fC0_9 (.fx 10 (.fx 11 (.fl 12 (.nil)) .stop) .stop)) (by kernel_rfl) ?_))))))))
    have hS136:=hS135.drew
    generalize hw_W137:({ W133 with drawn:=W133.drawn + 1 }:World)=W137 at hS136 ⊢
    refine oM Z f114 (oM Z Z (oM Z Z (oR Z (zy Z f112 ZG Z zC) (oL Z (hS136.ldB (j:=1) Z Z Z zI (v:=jV p1.Unit) Z) (bnK hm121 fun x138 h139 hm140=>oR Z (Runs.rem Z Z Z h139) (oR Z (zm Z Z Z) (oR Z (zy Z f112 ZG Z zC) (oL Z (hS136.ldB (j:=1) Z Z Z zI (v:=jV p1.Limit) Z) (oR Z (Runs.min Z Z Z) (ZK (pv:=[(0,jV (min (w64 ((w64 (x119.Time - y28)) - x138)) p1.Limit))]) (zs:=[jV 0]) (cs:=[jV (min (w64 ((w64 (x119.Time - y28)) - x138)) p1.Limit)]) Z Z Z Z Z (wBH Z wCA) zB zC ZM Z Z Z Z Z hS136 ?_))))))))))
    intro W141 b142 hS143
    let B4:Res:=.row (some ⟨b142,0,none⟩) 1 3 1 (hH KL.encI [min (w64 ((w64 (x119.Time - y28)) - x138)) p1.Limit])
    have hS145:sW w U U109 [B4,.blk b130 28 B2,.blk b2 24 B0,B3] W141:=hS143
    refine bnK hm140 fun x146 h147 hm148=>ZO (j:=3) (enc:=KL.encI) (xs:=l90) (ys:=[min (w64 ((w64 (x119.Time - y28)) - x138)) p1.Limit]) (zs:=x146) rfl rfl rfl rfl rfl ZN wJP rfl rfl rfl rfl rfl rfl hS145 rfl rfl rfl (hS145.srcR (j:=0) rfl (by decide) (wAG (f:=KL.encI) (sz:=1) (fun _=>rfl) [min (w64 ((w64 (x119.Time - y28)) - x138)) p1.Limit])) (fun _=>rfl) (fun _=>rfl) h147 rfl ?_
    intro A149 c150 W151 hS152
    have hS153:sW w U U109 [B4,.blk b130 28 B2,.blk b2 24 B0,.row A149 c150 3 1 (hH KL.encI x146)] W151:=hS152
    refine oA Z Z (zV (zW (zH (rR fL2 Z (oR Z (ZB (zO Z fi108 Z) (congrArg (jV) hi118.out)) (oM Z Z (zV ?_)))))))
    cases hm148
    exact zH ⟨rfl,⟨U109,A149,c150,rfl,f112,f113,rfl,f115,f116,le110,(hS153.pick [2,3] _ (by decide) rfl)⟩⟩
   ·rintro σ157 W158 ⟨U166,A164,c165,fi160,f169,f170,f171,f172,f173,le167,hS168⟩
    have c174:Hid (¬ ((↑(((↑p0.length:Int):Int) - 0).toNat:Int) < (↑p0.length:Int))):=zE (wBJ)
    refine sR fL1 Z (oR Z (zG Z fi160 f173) (eN (zF (cF Z c174 (zo (zN (zN (zj (zH (sR fL3 Z (oM Z f171 (oA Z Z (oA Z Z (eN (zX ?_)))))))))))))))
    cases hm95
    exact ⟨rfl,_,(wIr rfl rfl),U166,_,(hS168.pick [1] _ (by decide) rfl),A164,c165,rfl,rfl⟩
 ·intro c15 hm175
  refine cT Z c15 (sR fL3 Z (oM Z Z (oA Z Z (oA Z Z (eN (zX (zS ?_)))))))
  have hS176:=hS14.nilrow 3 1
  cases hm175
  exact ⟨rfl,_,(wIr rfl rfl),U8,_,(hS176.pick [0] _ (by decide) rfl),none,0,rfl,rfl⟩
theorem wBQ (p0:Int) (p1:Int) (p2:Int) (w:World) (U:PHeap) (hS:St0 w U [])  {r:Bool} (hm:wAW p0 p1 p2=some r):Gv Tryz.prog 77 [jV p0,jV p1,jV p2] w (wDR w [] U (fun U_ L_ v=>v=.bool r/\L_=[])):=by
 unfold wAW at hm
 refine Gv.of Tryz.func77 Z Tryz.ntmps77 Tryz.results77 Z (sR fL1 Z (oA Z Z (eN (sR fL9 Z (oM Z Z (oM Z Z (oR Z (zG Z Z Z) (oM Z Z ?_))))))))
 by_cases c1:p0 < p1
 ·have hm2:=hm;rw [if_pos c1] at hm2;replace c1:=zE c1
  refine oT Z c1 (oT Z c1 (oT Z c1 (oR Z (zY Z (ZJ c1.out) Z) (oA Z Z (eN (zX ?_))))))
  have hE:=nA hm2;first | subst r | cases hE
  exact ⟨Z,_,(zz Z),U,_,hS,Z,Z⟩
 ·have hm3:=hm;rw [if_neg c1] at hm3;replace c1:=zE c1
  refine zD Z Z Z (wF Z c1) Z Z (zD Z Z Z (wF Z c1) Z Z (rU Z (wF Z c1) (Runs.gtr Z Z Z) (oR Z (zR Z (zp c1.out) Z) (oA Z Z (eN (zX ?_))))))
  cases hm3
  exact ⟨Z,_,(zz Z),U,_,hS,Z,Z⟩
theorem wCz (p0:List Int) (pA0:Option Addr) (pc0:Nat) (w:World) (U:PHeap) (hS:St0 w U []) (ha0:Sl U 1 pA0 pc0 p0.length (hH KL.encI p0)) {r:Bool} (hm:wAr p0=some r):Gv Tryz.prog 78 [.slice pA0 p0.length pc0] w (wDR w [] U (fun U_ L_ v=>v=.bool r/\L_=[])):=by
 unfold wAr at hm
 refine Gv.of Tryz.func78 Z Tryz.ntmps78 Tryz.results78 Z (sR fL1 Z (oA Z Z (eN (zF (sR fL1 Z (oA Z Z (eN (zK ?_))))))))
 have q:=wCc hm
 obtain ⟨r3,hX4⟩:=q
 have q:=wCb hX4
 obtain ⟨hle5,hf6⟩:=q
 replace hle5:=zE hle5
 refine CK.forN (fun k2 _ σ_ w_=>∃ (U_:PHeap),σ_ 3=jV (↑k2:Int)/\σ_ 0=.slice pA0 p0.length pc0/\PHeap.Le U U_/\sW w U U_ [] w_) hf6 ?_ ?_ ?_
 ·exact ⟨U,Z,Z,(zJ _),hS⟩
 ·rintro k2 ⟨⟩ xx9 σ7 W8 hk12 ⟨U14,fi13,f17,le15,hS16⟩ hx10 hb11
  try dsimp only at hx10
  have c18:Hid ((↑k2:Int) < (↑p0.length:Int)):=zE (wBe hk12)
  replace hk12:=zE hk12
  have hi19:Hid (w64 ((↑k2:Int) + 1)=(↑(k2 + 1):Int)):=zE (by have h1:=hle5.out;have h2:=c18.out;rw [wAy] <;> omega)
  refine zF (sR fL4 Z (oM Z fi13 (oM Z f17 (oR Z (zi Z Z zB) (oR Z (zG Z Z Z) (eN (cT Z c18 (kN (zF (zK (sR fL1 Z (oA Z Z (eN (zK ?_))))))))))))))
  have q:=wCc hx10
  obtain ⟨r22,hX23⟩:=q
  have q:=wCb hX23
  obtain ⟨hle24,hf25⟩:=q
  replace hle24:=zE hle24
  refine CK.forN (fun k21 _ σ_ w_=>∃ (U_:PHeap),σ_ 4=jV (↑k21:Int)/\σ_ 0=.slice pA0 p0.length pc0/\σ_ 3=jV (↑k2:Int)/\PHeap.Le U14 U_/\sW w U U_ [] w_) hf25 ?_ ?_ ?_
  ·exact ⟨U14,Z,f17,fi13,(zJ _),hS16⟩
  ·rintro k21 ⟨⟩ xx28 σ26 W27 hk31 ⟨U33,fi32,f36,f37,le34,hS35⟩ hx29 hb30
   try dsimp only at hx29
   have c38:Hid ((↑k21:Int) < (↑k2:Int)):=zE (wBe hk31)
   replace hk31:=zE hk31
   have hi39:Hid (w64 ((↑k21:Int) + 1)=(↑(k21 + 1):Int)):=zE (by have h1:=hle24.out;have h2:=c38.out;rw [wAy] <;> omega)
   refine zF (sR fL3 rfl (zD rfl rfl rfl rfl rfl fi32 (zD rfl rfl rfl rfl rfl f37 (zg rfl rfl rfl rfl (fun _=>zG rfl rfl rfl) (eN (cT Z c38 (kN (zF (zK (zF (ZD ZA [3,3,3,1,3,3,3,1,3] fL9 (by kernel_rfl) ?_)))))))))))
   have hS40:=hS35.drew
   generalize hw_W41:({ W27 with drawn:=W27.drawn + 1 }:World)=W41 at hS40 ⊢
   refine oM Z f36 (oM Z f37 (bnK hx29 fun x42 h43 hm44=>?_))
   have h45:=ha0.le le15
   have h46:=h45.le le34
   have q:=h46.el (fun _=>rfl) (wAc h43)
   obtain ⟨b47,off48,hA49,hC50⟩:=q
   refine oR Z (zk Z Z hA49 Z zB zC (wBG h43)) (oL Z (hS40.ldC (f:=0) hC50 (v:=jV x42) Z Z zI Z) (oM Z f36 (oM Z fi32 (bnK hm44 fun x51 h52 hm53=>?_))))
   have q:=h46.el (fun _=>rfl) (wAc h52)
   obtain ⟨b54,off55,hA56,hC57⟩:=q
   refine oR Z (zk Z Z hA56 Z zB zC (wBG h52)) (oL Z (hS40.ldC (f:=0) hC57 (v:=jV x51) Z Z zI Z) (oR Z (Runs.eql Z Z Z) (eN (ifc hm53 ?_ ?_))))
   ·intro c58 hm59
    refine cT Z c58 (sR fL1 Z (oA Z Z (eN (zX (zw (zS ?_))))))
    have q:=wAl hm59
    obtain ⟨v60,hm61,e62⟩:=q
    obtain rfl:=wDJ hx10 hX23 (hb30 v60 e62)
    refine zS (zw (zw (zS ?_)))
    have q:=wAl hm61
    obtain ⟨v63,hm64,e65⟩:=q
    obtain rfl:=wDJ hm hX4 (hb11 v63 e65)
    refine zS (zw (zS ?_))
    have hE:=nA hm64;first | subst r | cases hE
    exact ⟨Z,_,(zz Z),U33,_,hS40,Z,Z⟩
   ·intro c58 hm66
    refine cF Z c58 (zn (zW (zH (rR fL3 Z (oM Z fi32 (oR Z (ZB (zO Z Z Z) (congrArg (jV) hi39.out)) (oA Z Z (zV ?_))))))))
    obtain rfl:=nA hm66
    exact zH ⟨Z,_,Z,⟨U33,Z,f36,f37,le34,hS40⟩⟩
  ·rintro ⟨⟩ σ67 W68 ⟨U71,fi70,f74,f75,le72,hS73⟩ hb69
   have hm76:=wDm hx10 hX23 hb69
   try dsimp only at hm76
   have c77:Hid (¬ ((↑(((↑k2:Int):Int) - 0).toNat:Int) < (↑k2:Int))):=zE (wBJ)
   refine zF (sR fL3 Z (oM Z fi70 (oM Z f75 (oR Z (zG Z Z Z) (eN (cF Z c77 (zo (zN (zN (zj (zW (zH (rR fL3 Z (oM Z f75 (oR Z (ZB (zO Z Z Z) (congrArg (jV) hi19.out)) (oA Z Z (zV ?_)))))))))))))))))
   obtain rfl:=nA hm76
   exact zH ⟨Z,_,Z,⟨U71,Z,f74,(le15.trans le72),hS73⟩⟩
 ·rintro ⟨⟩ σ78 W79 ⟨U82,fi81,f85,le83,hS84⟩ hb80
  have hm86:=wDm hm hX4 hb80
  try dsimp only at hm86
  have c87:Hid (¬ ((↑(((↑p0.length:Int):Int) - 0).toNat:Int) < (↑p0.length:Int))):=zE (wBJ)
  refine zF (sR fL4 Z (oM Z fi81 (oM Z f85 (oR Z (zi Z Z zB) (oR Z (zG Z Z Z) (eN (cF Z c87 (zo (zN (zN (zj (zH (sR fL1 Z (oA Z Z (eN (zX ?_))))))))))))))))
  have hE:=nA hm86;first | subst r | cases hE
  exact ⟨Z,_,(zz Z),U82,_,hS84,Z,Z⟩
end Go.Proofs.YtghaibkggdecnaaGreat
namespace Go.Proofs.YtghaibkggdecnaaGreat
open Go.KL
set_option maxHeartbeats 4000000
theorem wBk (p0:List wAN) (pA0:Option Addr) (pc0:Nat) (p1:Int) (p2:Int) (w:World) (U:PHeap) (hS:St0 w U []) (ha0:Sl U 2 pA0 pc0 p0.length (hH wAK p0)) {r:(List Int) × Int} (hm:wAe p0 p1 p2=some r):Gv Tryz.prog 14 [.slice pA0 p0.length pc0,jV p1,jV p2] w (wDR w [] U (fun U_ L_ v=>∃ (A0:Option Addr) (c0:Nat),v=.tuple #[.slice A0 r.1.length c0,jV r.2]/\L_=[.row A0 c0 3 1 (hH KL.encI r.1)])):=by
 unfold wAe at hm
 refine Gv.of Tryz.func14 Z Tryz.ntmps14 Tryz.results14 Z (sR fL2 Z (oA Z Z (oA Z Z (eN (zF (sR fL3 Z (oM Z Z (oR Z (zi Z Z zP) (oR Z (Runs.gtr Z Z Z) (eN ?_))))))))))
 by_cases c1:60 < (↑p0.length:Int)
 ·have hm2:=hm;rw [if_pos c1] at hm2;replace c1:=zE c1
  refine cT Z c1 (sR fL2 Z (oA Z Z (oA Z Z (eN (zX (zS ?_))))))
  have hS3:=hS.nilrow 3 1
  cases hm2
  exact ⟨Z,_,(wIr Z Z),U,_,hS3,none,0,Z,Z⟩
 ·have hm5:=hm;rw [if_neg c1] at hm5;replace c1:=zE c1
  refine cF Z c1 (kN (zF (sR (.fl 0 (.fx 1 (.fl 2 (.fl 3 (.fx 4 (.fl 5 (.nil)) .stop))) .stop)) Z (oM Z Z (bnK hm5 fun x6 h7 hm8=>zL 0 Z Z Z Z (zM Z Z Tryz.call77 (zA Z (zA Z (zA Z zU))) Z) hS (fun hs=>wBQ p1 1 600 w U hs h7) (.inr Z) ?_)))))
  rintro U9 L10 v11 W12 le13 hS14 ⟨rfl,rfl⟩
  have hS15:sW w U U9 [] W12:=hS14
  refine oM Z Z (ifc hm8 ?_ ?_)
  ·intro c16 hm17
   refine ze Z Z Z (zt Z Z (congrArg nB c16.out) Z) (OKS.px Z Z Z (zt Z Z (congrArg nB c16.out) Z) (oR Z (zY Z (congrArg nB c16.out) Z) (eN (ZE Z (sR fL2 Z (oA Z Z (oA Z Z (eN (zX (zS ?_))))))))))
   have hS18:=hS15.nilrow 3 1
   cases hm17
   exact ⟨Z,_,(wIr Z Z),U9,_,hS18,none,0,Z,Z⟩
  ·intro c16 hm20
   refine zD Z Z Z (zh Z Z (congrArg nB (nD.2 c16.out))) Z Z (bnK hm20 fun x21 h22 hm23=>zL 0 Z Z Z (zh Z Z (congrArg nB (nD.2 c16.out))) (zM Z Z Tryz.call77 (zA Z (zA Z (zA Z zU))) Z) hS15 (fun hs=>wBQ p2 0 360000 W12 U9 hs h22) (.inr Z) ?_)
   rintro U24 L25 v26 W27 le28 hS29 ⟨rfl,rfl⟩
   have hS30:sW w U U24 [] W27:=hS29
   refine oR Z (zR Z (congrArg nB (nD.2 c16.out)) Z) (eN (ifc hm23 ?_ ?_))
   ·intro c31 hm32
    refine ZE (congrArg nB c31.out) (sR fL2 Z (oA Z Z (oA Z Z (eN (zX (zS ?_))))))
    have hS33:=hS30.nilrow 3 1
    cases hm32
    exact ⟨Z,_,(wIr Z Z),U24,_,hS33,none,0,Z,Z⟩
   ·intro c31 hm35
    refine zZ (congrArg nB (nD.2 c31.out)) (kN (sR fL1 Z (oA Z Z (eN (sR fL1 Z (oA Z Z (eN (zF (sR fL1 Z (oA Z Z (eN (zK ?_))))))))))))
    have q:=wCc hm35
    obtain ⟨r58,hX59⟩:=q
    have q:=wCb hX59
    obtain ⟨hle60,hf61⟩:=q
    replace hle60:=zE hle60
    refine CK.forN (fun k57 (l52,x56) σ_ w_=>∃ (U_:PHeap) (A53:Option Addr) (c54:Nat),σ_ 10=jV (↑k57:Int)/\σ_ 0=.slice pA0 p0.length pc0/\σ_ 1=jV p1/\σ_ 2=jV p2/\σ_ 8=.slice A53 l52.length c54/\σ_ 9=jV x56/\PHeap.Le U24 U_/\sW w U U_ [.row A53 c54 3 1 (hH KL.encI l52)] w_) hf61 ?_ ?_ ?_
    ·have hS62:=hS30.nilrow 3 1
     exact ⟨U24,none,0,Z,Z,Z,Z,Z,Z,(zJ _),hS62⟩
    ·rintro k57 ⟨l52,x56⟩ xx66 σ64 W65 hk69 ⟨U71,A53,c54,fi70,f74,f75,f76,f77,f78,le72,hS73⟩ hx67 hb68
     try dsimp only at hx67
     have c79:Hid ((↑k57:Int) < (↑p0.length:Int)):=zE (wBe hk69)
     replace hk69:=zE hk69
     have hi80:Hid (w64 ((↑k57:Int) + 1)=(↑(k57 + 1):Int)):=zE (by have h1:=hle60.out;have h2:=c79.out;rw [wAy] <;> omega)
     refine zF (sR fL4 Z (oM Z fi70 (oM Z f74 (oR Z (zi Z Z zP) (oR Z (zG Z Z Z) (eN (cT Z c79 (kN (zF (zK (zF (sR (wCK (.fx 5 (wPM (.fx 12 (.fl 13 (.nil)) .stop)) .stop)) Z (oM Z f74 (oM Z fi70 (bnK hx67 fun x81 h82 hm83=>?_)))))))))))))))
     have h84:=ha0.le le13
     have h85:=h84.le le28
     have h86:=h85.le le72
     have q:=h86.el (fun _=>rfl) (wAc h82)
     obtain ⟨b87,off88,hA89,hC90⟩:=q
     refine oR Z (zk Z Z hA89 Z zP ZI (wBG h82)) (oR Z (zy Z Z zq Z zC) (oL Z (hS73.ldC (f:=0) hC90 (v:=jV x81.Bib) Z Z zI Z) (bnK hm83 fun x91 h92 hm93=>zL 0 Z Z Z Z (zM Z Z Tryz.call77 (zA Z (zA Z (zA Z zU))) Z) hS73 (fun hs=>wBQ x81.Bib 1 999 W65 U71 hs h92) (.inr Z) ?_)))
     rintro U94 L95 v96 W97 le98 hS99 ⟨rfl,rfl⟩
     let B0:Res:=.row A53 c54 3 1 (hH KL.encI l52)
     have hS100:sW w U U94 [B0] W97:=hS99
     refine oM Z Z (ifc hm93 ?_ ?_)
     ·intro c101 hm102
      refine ze Z Z Z (zt Z Z (congrArg nB c101.out) Z) (ze Z Z Z (zt Z Z (congrArg nB c101.out) Z) (ze Z Z Z (zt Z Z (congrArg nB c101.out) Z) (ze Z Z Z (zt Z Z (congrArg nB c101.out) Z) (ze Z Z Z (zt Z Z (congrArg nB c101.out) Z) (OKS.px Z Z Z (zt Z Z (congrArg nB c101.out) Z) (oR Z (zY Z (congrArg nB c101.out) Z) (eN (ZE Z (sR fL2 Z (oA Z Z (oA Z Z (eN (zX (zS (zw (zS ?_))))))))))))))))
      have q:=wAl hm102
      obtain ⟨v103,hm104,e105⟩:=q
      obtain rfl:=wDJ hm35 hX59 (hb68 v103 e105)
      refine zS (zw (zS ?_))
      have hS106:=hS100.nilrow 3 1
      cases hm104
      exact ⟨rfl,_,(wIr rfl rfl),U94,_,(hS106.pick [0] _ (by decide) rfl),none,0,rfl,rfl⟩
     ·intro c101 hm108
      refine zD Z Z Z (zh Z Z (congrArg nB (nD.2 c101.out))) Z f74 (zD Z Z Z (zh Z Z (congrArg nB (nD.2 c101.out))) Z fi70 ?_)
      have h109:=h86.le le98
      have q:=h109.el (fun _=>rfl) (wAc h82)
      obtain ⟨b110,off111,hA112,hC113⟩:=q
      refine zg Z Z Z (zh Z Z (congrArg nB (nD.2 c101.out))) (fun _=>zk Z Z hA112 Z zP ZI (wBG h82)) (zg Z Z Z (zh Z Z (congrArg nB (nD.2 c101.out))) (fun _=>zy Z Z zq Z zC) (ZC Z Z Z (zh Z Z (congrArg nB (nD.2 c101.out))) (hS100.ldC (f:=1) hC113 (v:=jV x81.Time) Z Z zI Z) Z (bnK hm108 fun x114 h115 hm116=>zL 0 Z Z Z (zh Z Z (congrArg nB (nD.2 c101.out))) (zM Z Z Tryz.call77 (zA Z (zA Z (zA Z zU))) Z) hS100 (fun hs=>wBQ x81.Time 0 360000 W97 U94 hs h115) (.inr Z) ?_)))
      rintro U117 L118 v119 W120 le121 hS122 ⟨rfl,rfl⟩
      have hS123:sW w U U117 [B0] W120:=hS122
      refine oR Z (zR Z (congrArg nB (nD.2 c101.out)) Z) (eN (ifc hm116 ?_ ?_))
      ·intro c124 hm125
       refine ZE (congrArg nB c124.out) (sR fL2 Z (oA Z Z (oA Z Z (eN (zX (zS (zw (zS ?_))))))))
       have q:=wAl hm125
       obtain ⟨v126,hm127,e128⟩:=q
       obtain rfl:=wDJ hm35 hX59 (hb68 v126 e128)
       refine zS (zw (zS ?_))
       have hS129:=hS123.nilrow 3 1
       cases hm127
       exact ⟨rfl,_,(wIr rfl rfl),U117,_,(hS129.pick [0] _ (by decide) rfl),none,0,rfl,rfl⟩
      ·intro c124 hm131
       refine zZ (congrArg nB (nD.2 c124.out)) (kN (sR (wNm (.fx 6 (.fx 7 (.fl 8 (.nil)) .stop) .stop)) Z (oM Z f77 (oM Z f74 (oM Z fi70 ?_)))))
       have h132:=h109.le le121
       have q:=h132.el (fun _=>rfl) (wAc h82)
       obtain ⟨b133,off134,hA135,hC136⟩:=q
       refine oR Z (zk Z Z hA135 Z zP ZI (wBG h82)) (oR Z (zy Z Z zq Z zC) (oL Z (hS123.ldC (f:=0) hC136 (v:=jV x81.Bib) Z Z zI Z) (ZK (pv:=[(0,jV x81.Bib)]) (zs:=[jV 0]) (cs:=[jV x81.Bib]) Z Z Z Z Z (wBH Z wCA) zB zC ZM Z Z Z Z Z hS123 ?_)))
       intro W137 b138 hS139
       let B1:Res:=.row (some ⟨b138,0,none⟩) 1 3 1 (hH KL.encI [x81.Bib])
       have hS141:sW w U U117 [B1,B0] W137:=hS139
       refine bnK hm131 fun x142 h143 hm144=>ZO (j:=1) (enc:=KL.encI) (xs:=l52) (ys:=[x81.Bib]) (zs:=x142) rfl rfl rfl rfl rfl ZN wJP rfl rfl rfl rfl rfl rfl hS141 rfl rfl rfl (hS141.srcR (j:=0) rfl (by decide) (wAG (f:=KL.encI) (sz:=1) (fun _=>rfl) [x81.Bib])) (fun _=>rfl) (fun _=>rfl) h143 rfl ?_
       intro A145 c146 W147 hS148
       have hS149:sW w U U117 [B1,.row A145 c146 3 1 (hH KL.encI x142)] W147:=hS148
       refine oA Z Z (eN (sR fL7 Z (oM Z f74 (oM Z fi70 ?_))))
       have q:=h132.el (fun _=>rfl) (wAc h82)
       obtain ⟨b150,off151,hA152,hC153⟩:=q
       refine oR Z (zk Z Z hA152 Z zP ZI (wBG h82)) (oR Z (zy Z Z zq Z zC) (oL Z (hS149.ldC (f:=1) hC153 (v:=jV x81.Time) Z Z zI Z) (oM Z f78 (oR Z (zG Z Z Z) (eN (ifc hm144 ?_ ?_))))))
       ·intro c154 hm155
        refine cT Z c154 (rR fL6 Z (oM Z f74 (oM Z fi70 ?_)))
        have q:=h132.el (fun _=>rfl) (wAc h82)
        obtain ⟨b156,off157,hA158,hC159⟩:=q
        refine oR Z (zk Z Z hA158 Z zP ZI (wBG h82)) (oR Z (zy Z Z zq Z zC) (oL Z (hS149.ldC (f:=1) hC159 (v:=jV x81.Time) Z Z zI Z) (oA Z Z (zV (zW (zH (rR fL3 Z (oM Z fi70 (oR Z (ZB (zO Z Z Z) (congrArg (jV) hi80.out)) (oA Z Z (zV ?_)))))))))))
        obtain rfl:=nA hm155
        exact zH ⟨rfl,_,rfl,⟨U117,A145,c146,rfl,f74,f75,f76,rfl,rfl,((le72.trans le98).trans le121),(hS149.pick [1] _ (by decide) rfl)⟩⟩
       ·intro c154 hm164
        refine cF Z c154 (zn (zW (zH (rR fL3 Z (oM Z fi70 (oR Z (ZB (zO Z Z Z) (congrArg (jV) hi80.out)) (oA Z Z (zV ?_))))))))
        obtain rfl:=nA hm164
        exact zH ⟨rfl,_,rfl,⟨U117,A145,c146,rfl,f74,f75,f76,rfl,f78,((le72.trans le98).trans le121),(hS149.pick [1] _ (by decide) rfl)⟩⟩
    ·rintro ⟨y173,y174⟩ σ169 W170 ⟨U177,A175,c176,fi172,f180,f181,f182,f183,f184,le178,hS179⟩ hb171
     have hm185:=wDm hm35 hX59 hb171
     try dsimp only at hm185
     have c186:Hid (¬ ((↑(((↑p0.length:Int):Int) - 0).toNat:Int) < (↑p0.length:Int))):=zE (wBJ)
     refine zF (sR fL4 Z (oM Z fi172 (oM Z f180 (oR Z (zi Z Z zP) (oR Z (zG Z Z Z) (eN (cF Z c186 (zo (zN (zN (zj (zH (zF (sR (.fl 0 (.fx 1 (.nil) .stop)) Z (oM Z f183 ?_)))))))))))))))
     have q:=hS179.freezeR (k:=0) (n:=y173.length) rfl (wAG (f:=KL.encI) (sz:=1) (fun _=>rfl) y173) (by decide)
     obtain ⟨U187,le188,hs189,hS190⟩:=q
     have hS191:sW w U U187 [] W170:=hS190
     refine bnK hm185 fun x192 h193 hm194=>zL 0 Z Z Z Z (zM Z Z Tryz.call78 (zA Z zU) Z) hS191 (fun hs=>wCz y173 A175 c176 W170 U187 hs hs189 h193) (.inr Z) ?_
     rintro U195 L196 v197 W198 le199 hS200 ⟨rfl,rfl⟩
     have hS201:sW w U U195 [] W198:=hS200
     refine eN (ifc hm194 ?_ ?_)
     ·intro c202 hm203
      refine ZE (congrArg nB c202.out) (sR fL2 Z (oA Z Z (oA Z Z (eN (zX (zS ?_))))))
      have hS204:=hS201.nilrow 3 1
      cases hm203
      exact ⟨Z,_,(wIr Z Z),U195,_,hS204,none,0,Z,Z⟩
     ·intro c202 hm206
      refine zZ (congrArg nB (nD.2 c202.out)) (kN (sR fL1 Z (oA Z Z (eN (zF (sR fL1 Z (oA Z Z (eN (zK (bnK hm206 fun y229 hf226 hm225=>?_))))))))))
      have q:=wBh hf226
      obtain ⟨hle227,hf228⟩:=q
      replace hle227:=zE hle227
      refine CK.forN' (fun k224 l220 σ_ w_=>∃ (U_:PHeap) (A221:Option Addr) (c222:Nat),σ_ 12=jV (↑k224:Int)/\σ_ 0=.slice pA0 p0.length pc0/\σ_ 1=jV p1/\σ_ 2=jV p2/\σ_ 9=jV y174/\σ_ 11=.slice A221 l220.length c222/\PHeap.Le U195 U_/\sW w U U_ [.row A221 c222 3 1 (hH KL.encI l220)] w_) hf228 ?_ ?_ ?_
      ·have hS230:=hS201.nilrow 3 1
       exact ⟨U195,none,0,Z,f180,f181,f182,f184,Z,(zJ _),hS230⟩
      ·rintro k224 l220 xx234 σ232 W233 hk237 ⟨U239,A221,c222,fi238,f242,f243,f244,f245,f246,le240,hS241⟩ hx235
       have c247:Hid ((↑k224:Int) < (↑p0.length:Int)):=zE (wBe hk237)
       replace hk237:=zE hk237
       have hi248:Hid (w64 ((↑k224:Int) + 1)=(↑(k224 + 1):Int)):=zE (by have h1:=hle227.out;have h2:=c247.out;rw [wAy] <;> omega)
       refine zF (sR fL4 Z (oM Z fi238 (oM Z f242 (oR Z (zi Z Z zP) (oR Z (zG Z Z Z) (eN (cT Z c247 (kN (zF (zK (sR fL1 Z (oA Z Z (eN (bnK hx235 fun x249 hx251 hm252=>?_))))))))))))))
       let B2:Res:=.row A221 c222 3 1 (hH KL.encI l220)
       refine CK.cut (fun σ_ w_=>∃ (U_:PHeap),σ_ 0=.slice pA0 p0.length pc0/\σ_ 1=jV p1/\σ_ 2=jV p2/\σ_ 9=jV y174/\σ_ 11=.slice A221 l220.length c222/\σ_ 12=jV (↑k224:Int)/\σ_ 13=jV x249/\PHeap.Le U239 U_/\sW w U U_ [B2] w_) ?_ ?_
       ·refine zK (ZR (fun x256 σ_ w_=>∃ (U_:PHeap),σ_ 0=.slice pA0 p0.length pc0/\σ_ 1=jV p1/\σ_ 2=jV p2/\σ_ 9=jV y174/\σ_ 11=.slice A221 l220.length c222/\σ_ 12=jV (↑k224:Int)/\σ_ 13=jV x256/\PHeap.Le U239 U_/\sW w U U_ [B2] w_) hx251 ?_ ?_)
        ·exact ⟨U239,f242,f243,f244,f245,f246,fi238,Z,(zJ _),hS241⟩
        ·rintro x256 xx259 σ257 W258 ⟨U264,f267,f268,f269,f270,f271,f272,f273,le265,hS266⟩ hx260 hb261
         refine zF (sR fL11 Z (oM Z f273 (oM Z f268 (oR Z (zO Z Z Z) (oM Z f267 (oM Z f272 (bnK hx260 fun x274 h275 hm276=>?_)))))))
         have h277:=ha0.le le13
         have h278:=h277.le le28
         have h279:=h278.le le178
         have h280:=h279.le le188
         have h281:=h280.le le199
         have h282:=h281.le le240
         have h283:=h282.le le265
         have q:=h283.el (fun _=>rfl) (wAc h275)
         obtain ⟨b284,off285,hA286,hC287⟩:=q
         refine oR Z (zk Z Z hA286 Z zP ZI (wBG h275)) (oR Z (zy Z Z zq Z zC) (oL Z (hS266.ldC (f:=1) hC287 (v:=jV x274.Time) Z Z zI Z) (oM Z f270 (oR Z (zm Z Z Z) (oR Z (Runs.leq Z Z Z) (eN (ifc hm276 ?_ ?_)))))))
         ·intro c288 hm289
          refine cT Z c288 (kN (zK (rR fL4 Z (oM Z f273 (oM Z f268 (oR Z (zO Z Z Z) (oA Z Z (zV (zW ?_)))))))))
          obtain rfl:=nA hm289
          exact zH ⟨Z,_,Z,⟨U264,f267,f268,f269,f270,f271,f272,Z,le265,hS266⟩⟩
         ·intro c288 hm291
          refine cF Z c288 (zo (zN ?_))
          have q:=wAl hm291
          obtain ⟨v292,hm293,e294⟩:=q
          obtain rfl:=hb261 v292 e294
          refine zN (zj ?_)
          cases hm293
          exact zH ⟨Z,⟨U264,f267,f268,f269,f270,f271,f272,f273,le265,hS266⟩⟩
       ·rintro σ296 W297 ⟨U298,f301,f302,f303,f304,f305,f306,f307,le299,hS300⟩
        refine zF (sR fL3 Z (oM Z f307 (oM Z f303 (oR Z (Runs.gtr Z Z Z) (eN (ifc hm252 ?_ ?_))))))
        ·intro c308 hm309
         refine cT Z c308 (rR fL2 Z (oM Z f303 (oA Z Z (eN (rR (.fl 0 (.fl 1 (.fx 2 (.fx 3 (.fl 4 (.nil)) .stop) .stop))) Z (oM Z f305 (oM Z Z (ZK (pv:=[(0,jV p2)]) (zs:=[jV 0]) (cs:=[jV p2]) Z Z Z Z Z (wBH Z wCA) zB zC ZM Z Z Z Z Z hS300 ?_))))))))
         intro W310 b311 hS312
         let B3:Res:=.row (some ⟨b311,0,none⟩) 1 3 1 (hH KL.encI [p2])
         have hS314:sW w U U298 [B3,B2] W310:=hS312
         refine bnK hm309 fun x315 h316 hm317=>ZO (j:=1) (enc:=KL.encI) (xs:=l220) (ys:=[p2]) (zs:=x315) rfl rfl rfl rfl rfl ZN wJP rfl rfl rfl rfl rfl rfl hS314 rfl rfl rfl (hS314.srcR (j:=0) rfl (by decide) (wAG (f:=KL.encI) (sz:=1) (fun _=>rfl) [p2])) (fun _=>rfl) (fun _=>rfl) h316 rfl ?_
         intro A318 c319 W320 hS321
         have hS322:sW w U U298 [B3,.row A318 c319 3 1 (hH KL.encI x315)] W320:=hS321
         refine oA Z Z (zV (zW (zH (rR fL3 Z (oM Z f306 (oR Z (ZB (zO Z Z Z) (congrArg (jV) hi248.out)) (oA Z Z (zV ?_))))))))
         cases hm317
         exact zH ⟨rfl,⟨U298,A318,c319,rfl,f301,f302,f303,f304,rfl,(le240.trans le299),(hS322.pick [1] _ (by decide) rfl)⟩⟩
        ·intro c308 hm326
         refine cF Z c308 (kN (rR (.fl 0 (.fl 1 (.fx 2 (.fx 3 (.fl 4 (.nil)) .stop) .stop))) Z (oM Z f305 (oM Z f307 (ZK (pv:=[(0,jV x249)]) (zs:=[jV 0]) (cs:=[jV x249]) Z Z Z Z Z (wBH Z wCA) zB zC ZM Z Z Z Z Z hS300 ?_)))))
         intro W327 b328 hS329
         let B4:Res:=.row (some ⟨b328,0,none⟩) 1 3 1 (hH KL.encI [x249])
         have hS331:sW w U U298 [B4,B2] W327:=hS329
         refine bnK hm326 fun x332 h333 hm334=>ZO (j:=1) (enc:=KL.encI) (xs:=l220) (ys:=[x249]) (zs:=x332) rfl rfl rfl rfl rfl ZN wJP rfl rfl rfl rfl rfl rfl hS331 rfl rfl rfl (hS331.srcR (j:=0) rfl (by decide) (wAG (f:=KL.encI) (sz:=1) (fun _=>rfl) [x249])) (fun _=>rfl) (fun _=>rfl) h333 rfl ?_
         intro A335 c336 W337 hS338
         have hS339:sW w U U298 [B4,.row A335 c336 3 1 (hH KL.encI x332)] W337:=hS338
         refine oA Z Z (zV (zW (zH (rR fL3 Z (oM Z f306 (oR Z (ZB (zO Z Z Z) (congrArg (jV) hi248.out)) (oA Z Z (zV ?_))))))))
         cases hm334
         exact zH ⟨rfl,⟨U298,A335,c336,rfl,f301,f302,f303,f304,rfl,(le240.trans le299),(hS339.pick [1] _ (by decide) rfl)⟩⟩
      ·rintro σ343 W344 ⟨U352,A350,c351,fi346,f355,f356,f357,f358,f359,le353,hS354⟩
       have c360:Hid (¬ ((↑(((↑p0.length:Int):Int) - 0).toNat:Int) < (↑p0.length:Int))):=zE (wBJ)
       refine zF (sR fL4 Z (oM Z fi346 (oM Z f355 (oR Z (zi Z Z zP) (oR Z (zG Z Z Z) (eN (cF Z c360 (zo (zN (zN (zj (zH (sR fL3 Z (oM Z f359 (oA Z Z (oA Z Z (eN (zX ?_))))))))))))))))))
       cases hm225
       exact ⟨Z,_,(wIr Z Z),U352,_,hS354,A350,c351,Z,Z⟩
theorem wCq (p0:List Int) (pA0:Option Addr) (pc0:Nat) (p1:List Int) (pA1:Option Addr) (pc1:Nat) (w:World) (U:PHeap) (hS:St0 w U []) (ha0:Sl U 1 pA0 pc0 p0.length (hH KL.encI p0)) (ha1:Sl U 1 pA1 pc1 p1.length (hH KL.encI p1)) {r:Bool} (hm:wAo p0 p1=some r):Gv Tryz.prog 15 [.slice pA0 p0.length pc0,.slice pA1 p1.length pc1] w (wDR w [] U (fun U_ L_ v=>v=.bool r/\L_=[])):=by
 unfold wAo at hm
 refine Gv.of Tryz.func15 Z Tryz.ntmps15 Tryz.results15 Z (sR fL1 Z (oA Z Z (eN (zF (sR fL5 Z (oM Z Z (oR Z (zi Z Z zB) (oM Z Z (oR Z (zi Z Z zB) (oR Z (Runs.neq Z Z Z) (eN ?_)))))))))))
 by_cases c1:(↑p0.length:Int)=(↑p1.length:Int)
 ·have hm2:=hm;rw [if_pos c1] at hm2;replace c1:=zE c1
  refine zZ (zp (fun h=>h c1.out)) (kN (zF (sR fL3 Z (oM Z Z (oR Z (zi Z Z zB) (oM Z Z (eN (zK ?_))))))))
  have q:=wCc hm2
  obtain ⟨r5,hX6⟩:=q
  have q:=wCb hX6
  obtain ⟨hle7,hf8⟩:=q
  replace hle7:=zE hle7
  refine CK.forN (fun k4 _ σ_ w_=>∃ (U_:PHeap),σ_ 13=jV (↑k4:Int)/\σ_ 0=.slice pA0 p0.length pc0/\σ_ 1=.slice pA1 p1.length pc1/\σ_ 12=jV (↑p0.length:Int)/\PHeap.Le U U_/\sW w U U_ [] w_) hf8 ?_ ?_ ?_
  ·exact ⟨U,Z,Z,Z,Z,(zJ _),hS⟩
  ·rintro k4 ⟨⟩ xx11 σ9 W10 hk14 ⟨U16,fi15,f19,f20,f21,le17,hS18⟩ hx12 hb13
   try dsimp only at hx12
   have c22:Hid ((↑k4:Int) < (↑p0.length:Int)):=zE (wBe hk14)
   replace hk14:=zE hk14
   have hi23:Hid (w64 ((↑k4:Int) + 1)=(↑(k4 + 1):Int)):=zE (by have h1:=hle7.out;have h2:=c22.out;rw [wAy] <;> omega)
   refine sR fL1 rfl (zg rfl rfl rfl rfl (fun _=>zG rfl fi15 f21) (eN (zF (cT Z c22 (kN (zF (zK (sR fL2 rfl (zD rfl rfl rfl rfl rfl fi15 (OKS.ra rfl rfl rfl rfl rfl rfl (eN (zF (ZD ZA [3,3,3,1,3,3,3,1,3] fL9 (by kernel_rfl) ?_)))))))))))))
   have hS24:=hS18.drew
   generalize hw_W25:({ W10 with drawn:=W10.drawn + 1 }:World)=W25 at hS24 ⊢
   refine oM Z f19 (oM Z Z (bnK hx12 fun x26 h27 hm28=>?_))
   have h29:=ha0.le le17
   have q:=h29.el (fun _=>rfl) (wAc h27)
   obtain ⟨b30,off31,hA32,hC33⟩:=q
   refine oR Z (zk Z Z hA32 Z zB zC (wBG h27)) (oL Z (hS24.ldC (f:=0) hC33 (v:=jV x26) Z Z zI Z) (oM Z f20 (oM Z Z (bnK hm28 fun x34 h35 hm36=>?_))))
   have h37:=ha1.le le17
   have q:=h37.el (fun _=>rfl) (wAc h35)
   obtain ⟨b38,off39,hA40,hC41⟩:=q
   refine oR Z (zk Z Z hA40 Z zB zC (wBG h35)) (oL Z (hS24.ldC (f:=0) hC41 (v:=jV x34) Z Z zI Z) (oR Z (Runs.neq Z Z Z) (eN (ifc hm36 ?_ ?_))))
   ·intro c42 hm43
    refine zZ (zp (fun h=>h c42.out)) (zn (zW (zH (rR fL2 Z (oR Z (ZB (zO Z fi15 Z) (congrArg (jV) hi23.out)) (oM Z Z (zV ?_)))))))
    obtain rfl:=nA hm43
    exact zH ⟨Z,_,Z,⟨U16,Z,f19,f20,f21,le17,hS24⟩⟩
   ·intro c42 hm44
    refine cT Z c42 (sR fL1 Z (oA Z Z (eN (zX (zw (zS ?_))))))
    have q:=wAl hm44
    obtain ⟨v45,hm46,e47⟩:=q
    obtain rfl:=wDJ hm2 hX6 (hb13 v45 e47)
    refine zS (zw (zS ?_))
    have hE:=nA hm46;first | subst r | cases hE
    exact ⟨Z,_,(zz Z),U16,_,hS24,Z,Z⟩
  ·rintro ⟨⟩ σ48 W49 ⟨U52,fi51,f55,f56,f57,le53,hS54⟩ hb50
   have hm58:=wDm hm2 hX6 hb50
   try dsimp only at hm58
   have c59:Hid (¬ ((↑(((↑p0.length:Int):Int) - 0).toNat:Int) < (↑p0.length:Int))):=zE (wBJ)
   refine sR fL1 Z (oR Z (zG Z fi51 f57) (eN (zF (cF Z c59 (zo (zN (zN (zj (zH (sR fL1 Z (oA Z Z (eN (zX ?_)))))))))))))
   have hE:=nA hm58;first | subst r | cases hE
   exact ⟨Z,_,(zz Z),U52,_,hS54,Z,Z⟩
 ·have hm60:=hm;rw [if_neg c1] at hm60;replace c1:=zE c1
  refine cT Z c1 (sR fL1 Z (oA Z Z (eN (zX (zS ?_)))))
  have hE:=nA hm60;first | subst r | cases hE
  exact ⟨Z,_,(zz Z),U,_,hS,Z,Z⟩
theorem wDA (p0:Int) (w:World) (U:PHeap) (hS:St0 w U [])  {r:Bool} (hm:wBU p0=some r):Gv Tryz.prog 128 [jV p0] w (wDR w [] U (fun U_ L_ v=>v=.bool r/\L_=[])):=by
 unfold wBU at hm
 refine Gv.of Tryz.func128 Z Tryz.ntmps128 Tryz.results128 Z (sR fL1 Z (oA Z Z (eN (sR fL4 Z (oM Z Z (oM Z Z (oR Z (Runs.neq Z Z Z) (oA Z Z (eN (zX ?_))))))))))
 cases hm
 exact ⟨Z,_,(zz Z),U,_,hS,Z,Z⟩
theorem wCW (p0:Int) (p1:Int) (w:World) (U:PHeap) (hS:St0 w U [])  {r:Int} (hm:wAz p0 p1=some r):Gv Tryz.prog 82 [jV p0,jV p1] w (wDR w [] U (fun U_ L_ v=>v=jV r/\L_=[])):=by
 unfold wAz at hm
 refine Gv.of Tryz.func82 Z Tryz.ntmps82 Tryz.results82 Z (sR fL1 Z (oA Z Z (eN (sR (.fl 0 (.fx 1 (.fl 2 (.nil)) .stop)) Z (oM Z Z (bnK hm fun x1 h2 hm3=>zL 0 Z Z Z Z (zM Z Z Tryz.call128 (zA Z zU) Z) hS (fun hs=>wDA p0 w U hs h2) (.inr Z) ?_))))))
 rintro U4 L5 v6 W7 le8 hS9 ⟨rfl,rfl⟩
 have hS10:sW w U U4 [] W7:=hS9
 refine oA Z Z (eN (sR (.fl 0 (.fx 1 (.fl 2 (.nil)) .stop)) Z (oM Z Z (bnK hm3 fun x11 h12 hm13=>zL 0 Z Z Z Z (zM Z Z Tryz.call128 (zA Z zU) Z) hS10 (fun hs=>wDA p1 W7 U4 hs h12) (.inr Z) ?_))))
 rintro U14 L15 v16 W17 le18 hS19 ⟨rfl,rfl⟩
 have hS20:sW w U U14 [] W17:=hS19
 refine oA Z Z (eN (zF (sR fL1 Z (oM Z Z (eN (ifc hm13 ?_ ?_))))))
 ·intro c21 hm22
  refine ZE (congrArg nB c21.out) (zF (sR fL1 Z (oM Z Z (eN (ifc hm22 ?_ ?_)))))
  ·intro c23 hm24
   refine ZE (congrArg nB c23.out) (sR fL1 Z (oA Z Z (eN (zX (zS (zS ?_))))))
   cases hm24
   exact ⟨Z,_,(zz Z),U14,_,hS20,Z,Z⟩
  ·intro c23 hm25
   refine zZ (congrArg nB (nD.2 c23.out)) (kN (sR fL1 Z (oA Z Z (eN (zX (zS ?_))))))
   cases hm25
   exact ⟨Z,_,(zz Z),U14,_,hS20,Z,Z⟩
 ·intro c21 hm26
  refine zZ (congrArg nB (nD.2 c21.out)) (kN (zF (sR fL1 Z (oM Z Z (eN (ifc hm26 ?_ ?_))))))
  ·intro c27 hm28
   refine ZE (congrArg nB c27.out) (sR fL1 Z (oA Z Z (eN (zX (zS ?_)))))
   cases hm28
   exact ⟨Z,_,(zz Z),U14,_,hS20,Z,Z⟩
  ·intro c27 hm29
   refine zZ (congrArg nB (nD.2 c27.out)) (kN (zF (sR fL3 Z (oM Z Z (oM Z Z (oR Z (zG Z Z Z) (eN (ifc hm29 ?_ ?_))))))))
   ·intro c30 hm31
    refine cT Z c30 (sR fL1 Z (oA Z Z (eN (zX (zS ?_)))))
    cases hm31
    exact ⟨Z,_,(zz Z),U14,_,hS20,Z,Z⟩
   ·intro c30 hm32
    refine cF Z c30 (kN (zF (sR fL3 Z (oM Z Z (oM Z Z (oR Z (Runs.gtr Z Z Z) (eN (ifc hm32 ?_ ?_))))))))
    ·intro c33 hm34
     refine cT Z c33 (sR fL1 Z (oA Z Z (eN (zX (zS ?_)))))
     cases hm34
     exact ⟨Z,_,(zz Z),U14,_,hS20,Z,Z⟩
    ·intro c33 hm35
     refine cF Z c33 (kN (sR fL1 Z (oA Z Z (eN (zX ?_)))))
     cases hm35
     exact ⟨Z,_,(zz Z),U14,_,hS20,Z,Z⟩
theorem wHF (p0:List Int) (pA0:Option Addr) (pc0:Nat) (w:World) (U:PHeap) (hS:St0 w U []) (ha0:Sl U 1 pA0 pc0 p0.length (hH KL.encI p0)) {r:Int} (hm:wBz p0=some r):Gv Tryz.prog 81 [.slice pA0 p0.length pc0] w (wDR w [] U (fun U_ L_ v=>v=jV r/\L_=[])):=by
 unfold wBz at hm
 refine Gv.of Tryz.func81 Z Tryz.ntmps81 Tryz.results81 Z (sR fL1 Z (oA Z Z (eN (sR fL1 Z (oA Z Z (eN (zF (sR fL3 Z (oM Z Z (oR Z (zi Z Z zB) (oM Z Z (eN (zK ?_)))))))))))))
 have q:=wCc hm
 obtain ⟨r3,hX4⟩:=q
 have q:=wCb hX4
 obtain ⟨hle5,hf6⟩:=q
 replace hle5:=zE hle5
 refine CK.forN (fun k2 _ σ_ w_=>∃ (U_:PHeap),σ_ 8=jV (↑k2:Int)/\σ_ 3=jV 0/\σ_ 6=.slice pA0 p0.length pc0/\σ_ 7=jV (↑p0.length:Int)/\PHeap.Le U U_/\sW w U U_ [] w_) hf6 ?_ ?_ ?_
 ·exact ⟨U,Z,Z,Z,Z,(zJ _),hS⟩
 ·rintro k2 ⟨⟩ xx9 σ7 W8 hk12 ⟨U14,fi13,f17,f18,f19,le15,hS16⟩ hx10 hb11
  try dsimp only at hx10
  have c20:Hid ((↑k2:Int) < (↑p0.length:Int)):=zE (wBe hk12)
  replace hk12:=zE hk12
  have hi21:Hid (w64 ((↑k2:Int) + 1)=(↑(k2 + 1):Int)):=zE (by have h1:=hle5.out;have h2:=c20.out;rw [wAy] <;> omega)
  refine sR fL1 Z (oR Z (zG Z fi13 f19) (eN (zF (cT Z c20 (kN (zF (zK (sR fL3 Z (bnK hx10 fun x22 h23 hm24=>?_)))))))))
  have h25:=ha0.le le15
  have q:=h25.el (fun _=>rfl) (wAc h23)
  obtain ⟨b26,off27,hA28,hC29⟩:=q
  refine oR Z (zk Z f18 hA28 fi13 zB zC (wBG h23)) (oL Z (hS16.ldC (f:=0) hC29 (v:=jV x22) Z Z zI Z) (oA Z Z (eN (sR fL3 Z (oM Z Z (oM Z f17 (oR Z (Runs.neq Z Z Z) (eN (ifc hm24 ?_ ?_)))))))))
  ·intro c30 hm31
   refine zZ (zp (fun h=>h c30.out)) (zn (zW (zH (rR fL2 Z (oR Z (ZB (zO Z fi13 Z) (congrArg (jV) hi21.out)) (oM Z Z (zV ?_)))))))
   obtain rfl:=nA hm31
   exact zH ⟨Z,_,Z,⟨U14,Z,f17,f18,f19,le15,hS16⟩⟩
  ·intro c30 hm32
   refine cT Z c30 (sR fL2 Z (oM Z Z (oA Z Z (eN (zX (zw (zS ?_)))))))
   have q:=wAl hm32
   obtain ⟨v33,hm34,e35⟩:=q
   obtain rfl:=wDJ hm hX4 (hb11 v33 e35)
   refine zS (zw (zS ?_))
   have hE:=nA hm34;first | subst r | cases hE
   exact ⟨Z,_,(zz Z),U14,_,hS16,Z,Z⟩
 ·rintro ⟨⟩ σ36 W37 ⟨U40,fi39,f43,f44,f45,le41,hS42⟩ hb38
  have hm46:=wDm hm hX4 hb38
  try dsimp only at hm46
  have c47:Hid (¬ ((↑(((↑p0.length:Int):Int) - 0).toNat:Int) < (↑p0.length:Int))):=zE (wBJ)
  refine sR fL1 Z (oR Z (zG Z fi39 f45) (eN (zF (cF Z c47 (zo (zN (zN (zj (zH (sR fL2 Z (oM Z f43 (oA Z Z (eN (zX ?_))))))))))))))
  cases hm46
  exact ⟨Z,_,(zz Z),U40,_,hS42,Z,Z⟩
theorem wEG (p0:Int) (p1:Int) (p2:List Int) (pb2:Nat) (pA2:Option Addr) (pc2:Nat) (p3:List wAA) (pb3:Nat) (pA3:Option Addr) (pc3:Nat) (w:World) (U:PHeap) (hS:St0 w U []) (ha0:Cl U pb2 0 [.slice pA2 p2.length pc2]) (ha1:Sl U 1 pA2 pc2 p2.length (hH KL.encI p2)) (ha2:Cl U pb3 0 [.slice pA3 p3.length pc3]) (ha3:Sl U 2 pA3 pc3 p3.length (hH wAI p3)) {r:Int} (hm:wAk p0 p1 p2 p3=some r):Gv Tryz.prog 80 [jV p0,jV p1,.pointer (some ⟨pb2,0,none⟩),.pointer (some ⟨pb3,0,none⟩)] w (wDR w [] U (fun U_ L_ v=>v=jV r/\L_=[])):=by
 unfold wAk at hm
 refine Gv.of Tryz.func80 rfl Tryz.ntmps80 Tryz.results80 rfl (sR fL1 rfl (OKS.ra rfl rfl rfl rfl rfl rfl (eN (zF (ZD ZA [1,3,3,1,1,3,3,1,2,1,3,3,3,1,1,3,3,3,1,2,2,2,3] (fC0_7 (wPP (.fx 8 (.fx 19 (.fx 20 (.fx 21 (.fl 22 (.nil)) .stop) .stop) .stop) .stop))) (by kernel_rfl) ?_)))))
 have hS1:=hS.drew
 generalize hw_W2:({ w with drawn:=w.drawn + 1 }:World)=W2 at hS1 ⊢
 refine oL Z (hS1.ldC (f:=0) ha0 (v:=.slice pA2 p2.length pc2) Z Z Tryz.isAgg31 Z) (oM Z Z (bnK hm fun x3 h4 hm5=>?_))
 have q:=ha1.el (fun _=>rfl) (wAc h4)
 obtain ⟨b6,off7,hA8,hC9⟩:=q
 refine oR Z (zl Z Z hA8 Z zB zC (wEl h4) (wFj h4)) (oL Z (hS1.ldC (f:=0) hC9 (v:=jV x3) Z Z zI Z) (oL Z (hS1.ldC (f:=0) ha0 (v:=.slice pA2 p2.length pc2) Z Z Tryz.isAgg31 Z) (oM Z Z (bnK hm5 fun x10 h11 hm12=>?_))))
 have q:=ha1.el (fun _=>rfl) (wAc h11)
 obtain ⟨b13,off14,hA15,hC16⟩:=q
 refine oR Z (zl Z Z hA15 Z zB zC (wEl h11) (wFj h11)) (oL Z (hS1.ldC (f:=0) hC16 (v:=jV x10) Z Z zI Z) (oL Z (hS1.ldC (f:=0) ha2 (v:=.slice pA3 p3.length pc3) Z Z Tryz.isAgg22 Z) (oM Z Z (bnK hm12 fun x17 h18 hm19=>?_))))
 have q:=ha3.el (fun _=>rfl) (wAc h18)
 obtain ⟨b20,off21,hA22,hC23⟩:=q
 refine oR Z (zl Z Z hA22 Z zQ zf (wEl h18) (wFj h18)) (oR Z (zy Z Z ZF Z zC) (oL Z (hS1.ldC (f:=1) hC23 (v:=jV x17.Time) Z Z zI Z) (oL Z (hS1.ldC (f:=0) ha2 (v:=.slice pA3 p3.length pc3) Z Z Tryz.isAgg22 Z) (oM Z Z (bnK hm19 fun x24 h25 hm26=>?_)))))
 have q:=ha3.el (fun _=>rfl) (wAc h25)
 obtain ⟨b27,off28,hA29,hC30⟩:=q
 refine oR Z (zl Z Z hA29 Z zQ zf (wEl h25) (wFj h25)) (oR Z (zy Z Z ZF Z zC) (oL Z (hS1.ldC (f:=1) hC30 (v:=jV x24.Time) Z Z zI Z) (bnK hm26 fun x31 h32 hm33=>zL 0 Z Z Z Z (zM Z Z Tryz.call82 (zA Z (zA Z zU)) Z) hS1 (fun hs=>wCW x3 x10 W2 U hs h32) (.inr Z) ?_)))
 rintro U34 L35 v36 W37 le38 hS39 ⟨rfl,rfl⟩
 have hS40:sW w U U34 [] W37:=hS39
 refine bnK hm33 fun x41 h42 hm43=>zL 0 Z Z Z Z (zM Z Z Tryz.call82 (zA Z (zA Z zU)) Z) hS40 (fun hs=>wCW x17.Time x24.Time W37 U34 hs h42) (.inr Z) ?_
 rintro U44 L45 v46 W47 le48 hS49 ⟨rfl,rfl⟩
 have hS50:sW w U U44 [] W47:=hS49
 refine ZK (pv:=[(0,jV x31),(1,jV x41)]) (zs:=[jV 0,jV 0]) (cs:=[jV x31,jV x41]) Z Z Z Z Z (wBH Z (wBH Z wCA)) zB zC ZM Z Z Z Z Z hS50 ?_
 intro W51 b52 hS53
 have hS55:sW w U U44 [.row (some ⟨b52,0,none⟩) 2 3 1 (hH KL.encI [x31,x41])] W51:=hS53
 have q:=hS55.freezeR (k:=0) (n:=[x31,x41].length) rfl (wAG (f:=KL.encI) (sz:=1) (fun _=>rfl) [x31,x41]) (by decide)
 obtain ⟨U56,le57,hs58,hS59⟩:=q
 have hS60:sW w U U56 [] W51:=hS59
 refine bnK hm43 fun x61 h62 hm63=>zL 0 Z Z Z Z (zM Z Z Tryz.call81 (zA Z zU) Z) hS60 (fun hs=>wHF [x31,x41] (some ⟨b52,0,none⟩) 2 W51 U56 hs hs58 h62) (.inr Z) ?_
 rintro U64 L65 v66 W67 le68 hS69 ⟨rfl,rfl⟩
 have hS70:sW w U U64 [] W67:=hS69
 refine oA Z Z (eN (zX ?_))
 have hE:=nA hm63;first | subst r | cases hE
 exact ⟨Z,_,(zz Z),U64,_,hS70,Z,Z⟩
theorem wBC (p0:List Int) (pA0:Option Addr) (pc0:Nat) (p1:Int) (p2:Int) (p3:((Int × Int)->Option Int)) (pv3:Value) (w:World) (U:PHeap) (hS:St0 w U [.row pA0 pc0 3 1 (hH KL.encI p0)]) (ha0:FnOK Tryz.prog U pv3 wNd wNe p3) {r:(List Int)} (hm:wAH p0 p1 p2 p3=some r):Gv Tryz.prog 152 [.slice pA0 p0.length pc0,jV p1,jV p2,pv3] w (wDR w [.row pA0 pc0 3 1 (hH KL.encI p0)] U (fun U_ L_ v=>v=.tuple #[]/\L_=[.row pA0 pc0 3 1 (hH KL.encI r)]/\r.length=p0.length)):=by
 unfold wAH at hm
 refine Gv.of Tryz.func152 Z Tryz.ntmps152 Tryz.results152 Z (sR fL3 Z (oM Z Z (oR Z (zO Z Z Z) (oA Z Z (eN (zK ?_))))))
 let B0:Res:=.row pA0 pc0 3 1 (hH KL.encI p0)
 refine ZR (fun (l8,x9) σ_ w_=>∃ (U_:PHeap),σ_ 0=.slice pA0 l8.length pc0/\σ_ 1=jV p1/\σ_ 2=jV p2/\σ_ 3=pv3/\σ_ 8=jV x9/\PHeap.Le U U_/\SW w [B0] U U_ [.row pA0 pc0 3 1 (hH KL.encI l8)] w_/\l8.length=p0.length) hm ?_ ?_
 ·exact ⟨U,Z,Z,Z,Z,Z,(zJ _),hS,Z⟩
 ·rintro ⟨l8,x9⟩ xx12 σ10 W11 ⟨U17,f20,f21,f22,f23,f24,le18,hS19,h25⟩ hx13 hb14
  try dsimp only at hx13
  refine zF (sR fL3 Z (oM Z f24 (oM Z f22 (oR Z (zG Z Z Z) (eN ?_)))))
  by_cases c26:x9 < p2
  ·have hm27:=hx13;rw [if_pos c26] at hm27;replace c26:=zE c26
   refine cT Z c26 (kN (zF (zK (sR fL2 Z (oM Z f24 (oA Z Z (eN (zK (ZR (fun (l34,x35) σ_ w_=>∃ (U_:PHeap),σ_ 0=.slice pA0 l34.length pc0/\σ_ 1=jV p1/\σ_ 2=jV p2/\σ_ 3=pv3/\σ_ 8=jV x9/\σ_ 9=jV x35/\PHeap.Le U17 U_/\SW w [B0] U U_ [.row pA0 pc0 3 1 (hH KL.encI l34)] w_/\l34.length=p0.length) hm27 ?_ ?_)))))))))
   ·exact ⟨U17,f20,f21,f22,f23,f24,Z,(zJ _),hS19,h25⟩
   ·rintro ⟨l34,x35⟩ xx38 σ36 W37 ⟨U43,f46,f47,f48,f49,f50,f51,le44,hS45,h52⟩ hx39 hb40
    try dsimp only at hx39
    refine zF (zF (ZD ZA [3,3,3,3,3,3,3,3,1,3,3,3,3,1,2,3,3] (wPI (.fx 14 (.fl 15 (.fl 16 (.nil))) .stop)) (by kernel_rfl) ?_))
    have hS53:=hS45.drew
    generalize hw_W54:({ W37 with drawn:=W37.drawn + 1 }:World)=W54 at hS53 ⊢
    refine oM Z f51 (oM Z f47 (oR Z (Runs.gtr Z Z Z) (oM Z Z ?_)))
    by_cases c55:p1 < x35
    ·have hm56:=hx39;rw [if_pos c55] at hm56;replace c55:=zE c55
     refine zD Z Z Z (wT Z c55) Z f49 (zD Z Z Z (wT Z c55) Z f46 (zD Z Z Z (wT Z c55) Z f51 (bnK hm56 fun _ h57 hm58=>?_)))
     obtain ⟨b59,hA60⟩:=hS53.rowSome (j:=0) rfl (by rw [wAG (f:=KL.encI) (sz:=1) (fun _=>rfl) l34];have hz:=wAS h57;omega)
     refine rU Z (wT Z c55) (zl Z Z hA60 Z zB zC (wBE h57) (wBF h57)) ?_
     have hg61:=wAq (xs:=l34) (wAS h57)
     refine ZC rfl rfl rfl (zh rfl rfl (ZJ c55.out)) (hS53.ldR (j:=0) rfl hA60 rfl rfl zI (wAL (sz:=1) (fun _=>rfl) _ _ 0 _ hg61 (by first | omega | rfl | simp) rfl)) rfl (zD rfl rfl rfl (zh rfl rfl (ZJ c55.out)) rfl f46 (zD rfl rfl rfl (zh rfl rfl (ZJ c55.out)) rfl f51 (zg rfl rfl rfl (zh rfl rfl (ZJ c55.out)) (fun _=>zm rfl rfl rfl) (bnK hm58 fun _ h62 hm63=>zg rfl rfl rfl (zh rfl rfl (ZJ c55.out)) (fun _=>zl rfl rfl hA60 rfl zB zC (wBE h62) (wBF h62)) ?_))))
     have hg64:=wAq (xs:=l34) (wAS h62)
     refine ZC rfl rfl rfl (zh rfl rfl (ZJ c55.out)) (hS53.ldR (j:=0) rfl hA60 rfl rfl zI (wAL (sz:=1) (fun _=>rfl) _ _ 0 _ hg64 (by first | omega | rfl | simp) rfl)) rfl (bnK hm63 fun x65 h66 hm67=>?_)
     have h74:=ha0.le le18
     have h75:=h74.le le44
     refine OKS.callV (a:=((gd l34 x35.toNat),(gd l34 (w64 (x35 - 1)).toNat))) Z Z Z (wT Z c55) Z Z (zA Z (zA Z zU)) hS53 h75 Z h66 ?_
     rintro U68 L69 v70 W71 le72 hS73 ⟨rfl,rfl⟩
     have hS76:SW w [B0] U U68 [.row pA0 pc0 3 1 (hH KL.encI l34)] W71:=hS73
     refine rU Z (wT Z c55) (zG Z Z Z) (oR Z (zY Z (ZJ c55.out) Z) (eN (ifc hm67 ?_ ?_)))
     ·intro c77 hm78
      refine cT Z c77 (kN (zF (zK (ZD ZA [3,3,3,3,3,3,3,3,3,1,3,3,3,1,3,0,3,0] (wLV (.fx 15 (.fl 16 (.fx 17 (.nil) .stop)) .stop)) (by kernel_rfl) ?_))))
      have hS79:=hS76.drew
      generalize hw_W80:({ W71 with drawn:=W71.drawn + 1 }:World)=W80 at hS79 ⊢
      refine oM Z f46 (oM Z f51 (oM Z f46 (oM Z f51 (oR Z (zm Z Z Z) (oM Z f46 (oM Z f51 (oR Z (zm Z Z Z) (oR Z (zl Z Z hA60 Z zB zC (wBE h62) (wBF h62)) ?_))))))))
      have hg81:=wAq (xs:=l34) (wAS h62)
      refine ZC rfl rfl rfl rfl (hS79.ldR (j:=0) rfl hA60 rfl rfl zI (wAL (sz:=1) (fun _=>rfl) _ _ 0 _ hg81 (by first | omega | rfl | simp) rfl)) rfl (zD rfl rfl rfl rfl rfl f46 (zD rfl rfl rfl rfl rfl f51 (zg rfl rfl rfl rfl (fun _=>zl rfl rfl hA60 rfl zB zC (wBE h57) (wBF h57)) ?_)))
      have hg82:=wAq (xs:=l34) (wAS h57)
      refine ZC rfl rfl rfl rfl (hS79.ldR (j:=0) rfl hA60 rfl rfl zI (wAL (sz:=1) (fun _=>rfl) _ _ 0 _ hg82 (by first | omega | rfl | simp) rfl)) rfl (zg rfl rfl rfl rfl (fun _=>zl rfl rfl hA60 rfl zB zC (wBE h57) (wBF h57)) ?_)
      have hg83:=wAq (xs:=l34) (wAS h57)
      refine OKS.stR (j:=0) (vs:=[jV (gd l34 (w64 (x35 - 1)).toNat)]) (cs':=hH KL.encI (nE l34 x35.toNat (gd l34 (w64 (x35 - 1)).toNat))) rfl rfl rfl rfl hS79 rfl hA60 rfl rfl rfl zC (by rw [wAG (f:=KL.encI) (sz:=1) (fun _=>rfl)];have hz:=wAS h57;show _ + 1 <= _;first | omega | (simp only [nK];omega) | (simp only [nI,nG,nH];omega)) rfl (wCd (sz:=1) (fo:=0) (fun _=>rfl) _ _ _ _ hg83 (by first | omega | (simp only [nK];omega) | (simp only [nI,nG,nH];omega)) (zd rfl) rfl) rfl ?_
      intro W84 hS85
      have hS86:SW w [B0] U U68 [.row pA0 pc0 3 1 (hH KL.encI (nE l34 x35.toNat (gd l34 (w64 (x35 - 1)).toNat)))] W84:=hS85
      refine bnK hm78 fun _ h87 hm88=>zg rfl rfl rfl rfl (fun _=>zl rfl (nL (b:=(.slice pA0 l34.length pc0:Value)) (c:=(.slice pA0 ((nE l34 x35.toNat (gd l34 (w64 (x35 - 1)).toNat)).length) pc0:Value)) rfl (by simp only [nJ])) hA60 rfl zB zC (wBE h87) (wBF h87)) ?_
      have hg89:=wAq (xs:=(nE l34 x35.toNat (gd l34 (w64 (x35 - 1)).toNat))) (wAS h87)
      refine OKS.stR (j:=0) (vs:=[jV (gd l34 x35.toNat)]) (cs':=hH KL.encI (nE (nE l34 x35.toNat (gd l34 (w64 (x35 - 1)).toNat)) (w64 (x35 - 1)).toNat (gd l34 x35.toNat))) rfl rfl rfl rfl hS86 rfl hA60 rfl rfl rfl zC (by rw [wAG (f:=KL.encI) (sz:=1) (fun _=>rfl)];have hz:=wAS h87;show _ + 1 <= _;first | omega | (simp only [nK];omega) | (simp only [nI,nG,nH];omega)) rfl (wCd (sz:=1) (fo:=0) (fun _=>rfl) _ _ _ _ hg89 (by first | omega | (simp only [nK];omega) | (simp only [nI,nG,nH];omega)) (zd rfl) rfl) rfl ?_
      intro W90 hS91
      have hS92:SW w [B0] U U68 [.row pA0 pc0 3 1 (hH KL.encI (nE (nE l34 x35.toNat (gd l34 (w64 (x35 - 1)).toNat)) (w64 (x35 - 1)).toNat (gd l34 x35.toNat)))] W90:=hS91
      refine zV (zW (zH (rR fL3 Z (oM Z f51 (oR Z (zm Z Z Z) (oA Z Z (zV ?_)))))))
      obtain rfl:=nA hm88
      exact zH ⟨rfl,_,rfl,⟨U68,(nL (b:=(.slice pA0 ((nE l34 x35.toNat (gd l34 (w64 (x35 - 1)).toNat)).length) pc0:Value)) (c:=(.slice pA0 ((nE (nE l34 x35.toNat (gd l34 (w64 (x35 - 1)).toNat)) (w64 (x35 - 1)).toNat (gd l34 x35.toNat)).length) pc0:Value)) (nL (b:=(.slice pA0 l34.length pc0:Value)) (c:=(.slice pA0 ((nE l34 x35.toNat (gd l34 (w64 (x35 - 1)).toNat)).length) pc0:Value)) f46 (by simp only [nJ])) (by simp only [nJ])),f47,f48,f49,f50,rfl,(le44.trans le72),hS92,((nJ.trans nJ).trans h52)⟩⟩
     ·intro c77 hm95
      refine cF Z c77 (zo (zN ?_))
      have q:=wAl hm95
      obtain ⟨v96,hm97,e98⟩:=q
      obtain rfl:=hb40 v96 e98
      refine zN (zj (zW (zH (rR fL3 Z (oM Z f50 (oR Z (zO Z Z Z) (oA Z Z (zV ?_))))))))
      obtain rfl:=nA hm97
      exact zH ⟨Z,_,Z,⟨U68,f46,f47,f48,f49,Z,((le18.trans le44).trans le72),hS76,h52⟩⟩
    ·have hm101:=hx39;rw [if_neg c55] at hm101;replace c55:=zE c55
     refine oF Z c55 (oF Z c55 (oF Z c55 (oF Z c55 (oF Z c55 (oF Z c55 (oF Z c55 (oF Z c55 (oF Z c55 (oF Z c55 (OKS.px Z Z Z (zt Z Z (zp c55.out) Z) (oF Z c55 (oR Z (zR Z (zp c55.out) Z) (eN (zZ Z (zo (zN ?_))))))))))))))))
     have q:=wAl hm101
     obtain ⟨v102,hm103,e104⟩:=q
     obtain rfl:=hb40 v102 e104
     refine zN (zj (zW (zH (rR fL3 Z (oM Z f50 (oR Z (zO Z Z Z) (oA Z Z (zV ?_))))))))
     obtain rfl:=nA hm103
     exact zH ⟨Z,_,Z,⟨U43,f46,f47,f48,f49,Z,(le18.trans le44),hS53,h52⟩⟩
  ·have hm107:=hx13;rw [if_neg c26] at hm107;replace c26:=zE c26
   refine cF Z c26 (zo (zN ?_))
   have q:=wAl hm107
   obtain ⟨v108,hm109,e110⟩:=q
   obtain rfl:=hb14 v108 e110
   refine zN (zj ?_)
   have hE:=nA hm109;first | subst r | cases hE
   exact ⟨Z,_,(wCO),U17,_,hS19,Z,Z,h25⟩
end Go.Proofs.YtghaibkggdecnaaGreat
namespace Go.Proofs.YtghaibkggdecnaaGreat
open Go.KL
set_option maxHeartbeats 4000000
theorem wAv (p0:List Int) (pA0:Option Addr) (pc0:Nat) (p1:Int) (p2:Int) (p3:Int) (p4:((Int × Int)->Option Int)) (pv4:Value) (w:World) (U:PHeap) (hS:St0 w U [.row pA0 pc0 3 1 (hH KL.encI p0)]) (ha0:FnOK Tryz.prog U pv4 wNd wNe p4) {r:(List Int)} (hm:wAD p0 p1 p2 p3 p4=some r):Gv Tryz.prog 185 [.slice pA0 p0.length pc0,jV p1,jV p2,jV p3,pv4] w (wDR w [.row pA0 pc0 3 1 (hH KL.encI p0)] U (fun U_ L_ v=>v=.tuple #[]/\L_=[.row pA0 pc0 3 1 (hH KL.encI r)]/\r.length=p0.length)):=by
 unfold wAD at hm
 refine Gv.of Tryz.func185 Z Tryz.ntmps185 Tryz.results185 Z (sR fL1 Z (oA Z Z (eN (zK (bnK hm fun y13 hf10 hm9=>?_)))))
 have q:=wBh hf10
 obtain ⟨hle11,hf12⟩:=q
 replace hle11:=zE hle11
 let B0:Res:=.row pA0 pc0 3 1 (hH KL.encI p0)
 refine CK.forN' (fun k8 l7 σ_ w_=>∃ (U_:PHeap),σ_ 10=jV (↑k8:Int)/\σ_ 0=.slice pA0 l7.length pc0/\σ_ 1=jV p1/\σ_ 2=jV p2/\σ_ 3=jV p3/\PHeap.Le U U_/\SW w [B0] U U_ [.row pA0 pc0 3 1 (hH KL.encI l7)] w_/\l7.length=p0.length) hf12 ?_ ?_ ?_
 ·exact ⟨U,Z,Z,Z,Z,Z,(zJ _),hS,Z⟩
 ·rintro k8 l7 xx16 σ14 W15 hk19 ⟨U21,fi20,f24,f25,f26,f27,le22,hS23,h28⟩ hx17
  have c29:Hid ((↑k8:Int) < p3):=zE (wBe hk19)
  replace hk19:=zE hk19
  have hi30:Hid (w64 ((↑k8:Int) + 1)=(↑(k8 + 1):Int)):=zE (by have h1:=hle11.out;have h2:=c29.out;rw [wAy] <;> omega)
  refine zF (sR fL3 rfl (zD rfl rfl rfl rfl rfl fi20 (zD rfl rfl rfl rfl rfl f27 (zg rfl rfl rfl rfl (fun _=>zG rfl rfl rfl) (eN (cT Z c29 (kN (zF (zK (ZD ZA [3,3,3,3,3,3,3,3,3,3,3,3,3,1,3,3,3,3,3,1,3,0,3,0] (wPJ (.fx 21 (.fl 22 (.fx 23 (.nil) .stop)) .stop)) (by kernel_rfl) ?_))))))))))
  have hS31:=hS23.drew
  generalize hw_W32:({ W15 with drawn:=W15.drawn + 1 }:World)=W32 at hS31 ⊢
  refine oM Z f24 (oM Z f25 (oM Z fi20 (oR Z (zO Z Z Z) (oM Z f24 (oM Z f26 (oM Z fi20 (oR Z (zO Z Z Z) (oM Z f24 (oM Z f26 (oM Z fi20 (oR Z (zO Z Z Z) (bnK hx17 fun _ h33 hm34=>?_))))))))))))
  obtain ⟨b35,hA36⟩:=hS31.rowSome (j:=0) rfl (by rw [wAG (f:=KL.encI) (sz:=1) (fun _=>rfl) l7];have hz:=wAS h33;omega)
  refine oR Z (zl Z Z hA36 Z zB zC (wBE h33) (wBF h33)) ?_
  have hg37:=wAq (xs:=l7) (wAS h33)
  refine ZC rfl rfl rfl rfl (hS31.ldR (j:=0) rfl hA36 rfl rfl zI (wAL (sz:=1) (fun _=>rfl) _ _ 0 _ hg37 (by first | omega | rfl | simp) rfl)) rfl (zD rfl rfl rfl rfl rfl f24 (zD rfl rfl rfl rfl rfl f25 (zD rfl rfl rfl rfl rfl fi20 (zg rfl rfl rfl rfl (fun _=>zO rfl rfl rfl) (bnK hm34 fun _ h38 hm39=>zg rfl rfl rfl rfl (fun _=>zl rfl rfl hA36 rfl zB zC (wBE h38) (wBF h38)) ?_)))))
  have hg40:=wAq (xs:=l7) (wAS h38)
  refine ZC rfl rfl rfl rfl (hS31.ldR (j:=0) rfl hA36 rfl rfl zI (wAL (sz:=1) (fun _=>rfl) _ _ 0 _ hg40 (by first | omega | rfl | simp) rfl)) rfl (zg rfl rfl rfl rfl (fun _=>zl rfl rfl hA36 rfl zB zC (wBE h38) (wBF h38)) ?_)
  have hg41:=wAq (xs:=l7) (wAS h38)
  refine OKS.stR (j:=0) (vs:=[jV (gd l7 (w64 (p2 + (↑k8:Int))).toNat)]) (cs':=hH KL.encI (nE l7 (w64 (p1 + (↑k8:Int))).toNat (gd l7 (w64 (p2 + (↑k8:Int))).toNat))) rfl rfl rfl rfl hS31 rfl hA36 rfl rfl rfl zC (by rw [wAG (f:=KL.encI) (sz:=1) (fun _=>rfl)];have hz:=wAS h38;show _ + 1 <= _;first | omega | (simp only [nK];omega) | (simp only [nI,nG,nH];omega)) rfl (wCd (sz:=1) (fo:=0) (fun _=>rfl) _ _ _ _ hg41 (by first | omega | (simp only [nK];omega) | (simp only [nI,nG,nH];omega)) (zd rfl) rfl) rfl ?_
  intro W42 hS43
  have hS44:SW w [B0] U U21 [.row pA0 pc0 3 1 (hH KL.encI (nE l7 (w64 (p1 + (↑k8:Int))).toNat (gd l7 (w64 (p2 + (↑k8:Int))).toNat)))] W42:=hS43
  refine bnK hm39 fun _ h45 hm46=>zg rfl rfl rfl rfl (fun _=>zl rfl (nL (b:=(.slice pA0 l7.length pc0:Value)) (c:=(.slice pA0 ((nE l7 (w64 (p1 + (↑k8:Int))).toNat (gd l7 (w64 (p2 + (↑k8:Int))).toNat)).length) pc0:Value)) rfl (by simp only [nJ])) hA36 rfl zB zC (wBE h45) (wBF h45)) ?_
  have hg47:=wAq (xs:=(nE l7 (w64 (p1 + (↑k8:Int))).toNat (gd l7 (w64 (p2 + (↑k8:Int))).toNat))) (wAS h45)
  refine OKS.stR (j:=0) (vs:=[jV (gd l7 (w64 (p1 + (↑k8:Int))).toNat)]) (cs':=hH KL.encI (nE (nE l7 (w64 (p1 + (↑k8:Int))).toNat (gd l7 (w64 (p2 + (↑k8:Int))).toNat)) (w64 (p2 + (↑k8:Int))).toNat (gd l7 (w64 (p1 + (↑k8:Int))).toNat))) rfl rfl rfl rfl hS44 rfl hA36 rfl rfl rfl zC (by rw [wAG (f:=KL.encI) (sz:=1) (fun _=>rfl)];have hz:=wAS h45;show _ + 1 <= _;first | omega | (simp only [nK];omega) | (simp only [nI,nG,nH];omega)) rfl (wCd (sz:=1) (fo:=0) (fun _=>rfl) _ _ _ _ hg47 (by first | omega | (simp only [nK];omega) | (simp only [nI,nG,nH];omega)) (zd rfl) rfl) rfl ?_
  intro W48 hS49
  have hS50:SW w [B0] U U21 [.row pA0 pc0 3 1 (hH KL.encI (nE (nE l7 (w64 (p1 + (↑k8:Int))).toNat (gd l7 (w64 (p2 + (↑k8:Int))).toNat)) (w64 (p2 + (↑k8:Int))).toNat (gd l7 (w64 (p1 + (↑k8:Int))).toNat)))] W48:=hS49
  refine zV (zW (zH (rR fL3 Z (oM Z fi20 (oR Z (ZB (zO Z Z Z) (congrArg (jV) hi30.out)) (oA Z Z (zV ?_)))))))
  cases hm46
  exact zH ⟨rfl,⟨U21,rfl,(nL (b:=(.slice pA0 ((nE l7 (w64 (p1 + (↑k8:Int))).toNat (gd l7 (w64 (p2 + (↑k8:Int))).toNat)).length) pc0:Value)) (c:=(.slice pA0 ((nE (nE l7 (w64 (p1 + (↑k8:Int))).toNat (gd l7 (w64 (p2 + (↑k8:Int))).toNat)) (w64 (p2 + (↑k8:Int))).toNat (gd l7 (w64 (p1 + (↑k8:Int))).toNat)).length) pc0:Value)) (nL (b:=(.slice pA0 l7.length pc0:Value)) (c:=(.slice pA0 ((nE l7 (w64 (p1 + (↑k8:Int))).toNat (gd l7 (w64 (p2 + (↑k8:Int))).toNat)).length) pc0:Value)) f24 (by simp only [nJ])) (by simp only [nJ])),f25,f26,f27,le22,hS50,((nJ.trans nJ).trans h28)⟩⟩
 ·rintro σ52 W53 ⟨U57,fi55,f60,f61,f62,f63,le58,hS59,h64⟩
  have c65:Hid (¬ ((↑((p3:Int) - 0).toNat:Int) < p3)):=zE (wBJ)
  refine zF (sR fL3 Z (oM Z fi55 (oM Z f63 (oR Z (zG Z Z Z) (eN (cF Z c65 (zo (zN (zN (zj ?_))))))))))
  have hE:=nA hm9;first | subst r | cases hE
  exact ⟨Z,_,(wCO),U57,_,hS59,Z,Z,h64⟩
theorem wBW (p0:List Int) (pA0:Option Addr) (pc0:Nat) (p1:Int) (p2:Int) (p3:Int) (p4:((Int × Int)->Option Int)) (pv4:Value) (w:World) (U:PHeap) (hS:St0 w U [.row pA0 pc0 3 1 (hH KL.encI p0)]) (ha0:FnOK Tryz.prog U pv4 wNd wNe p4) {r:(List Int)} (hm:wAR p0 p1 p2 p3 p4=some r):Gv Tryz.prog 168 [.slice pA0 p0.length pc0,jV p1,jV p2,jV p3,pv4] w (wDR w [.row pA0 pc0 3 1 (hH KL.encI p0)] U (fun U_ L_ v=>v=.tuple #[]/\L_=[.row pA0 pc0 3 1 (hH KL.encI r)]/\r.length=p0.length)):=by
 unfold wAR at hm
 refine Gv.of Tryz.func168 Z Tryz.ntmps168 Tryz.results168 Z (sR fL4 Z (oM Z Z (oM Z Z (oR Z (zm Z Z Z) (oA Z Z (eN (sR fL4 Z (oM Z Z (oM Z Z (oR Z (zm Z Z Z) (oA Z Z (eN ?_))))))))))))
 have q:=bnd hm
 obtain ⟨⟨l2,x3⟩,hx5,hm6⟩:=q
 try dsimp only at hm6
 let B0:Res:=.row pA0 pc0 3 1 (hH KL.encI p0)
 refine CK.cut (fun σ_ w_=>∃ (U_:PHeap),σ_ 0=.slice pA0 l2.length pc0/\σ_ 2=jV p2/\σ_ 4=pv4/\σ_ 10=jV x3/\PHeap.Le U U_/\SW w [B0] U U_ [.row pA0 pc0 3 1 (hH KL.encI l2)] w_/\l2.length=p0.length) ?_ ?_
 ·refine zK (ZR (fun (l16,x17,x18) σ_ w_=>∃ (U_:PHeap),σ_ 0=.slice pA0 l16.length pc0/\σ_ 2=jV p2/\σ_ 4=pv4/\σ_ 10=jV x17/\σ_ 11=jV x18/\PHeap.Le U U_/\SW w [B0] U U_ [.row pA0 pc0 3 1 (hH KL.encI l16)] w_/\l16.length=p0.length) hx5 ?_ ?_)
  ·exact ⟨U,Z,Z,Z,Z,Z,(zJ _),hS,Z⟩
  ·rintro ⟨l16,x17,x18⟩ xx21 σ19 W20 ⟨U26,f29,f30,f31,f32,f33,le27,hS28,h34⟩ hx22 hb23
   try dsimp only at hx22
   refine zF (sR fL3 Z (oM Z f32 (oM Z f33 (oR Z (Runs.neq Z Z Z) (eN ?_)))))
   by_cases c35:x17=x18
   ·have hm36:=hx22;rw [if_pos c35] at hm36;replace c35:=zE c35
    refine zZ (zp (fun h=>h c35.out)) (zo (zN ?_))
    have q:=wAl hm36
    obtain ⟨v37,hm38,e39⟩:=q
    obtain rfl:=hb23 v37 e39
    refine zN (zj ?_)
    cases hm38
    exact zH ⟨Z,⟨U26,f29,f30,f31,f32,le27,hS28,h34⟩⟩
   ·have hm42:=hx22;rw [if_neg c35] at hm42;replace c35:=zE c35
    refine cT Z c35 (kN (zK (sR fL3 Z (oM Z f32 (oM Z f33 (oR Z (Runs.gtr Z Z Z) (eN (ifc hm42 ?_ ?_))))))))
    ·intro c43 hm44
     refine cT Z c43 (sR (wNn (.fx 7 (.nil) .stop)) Z (oM Z f29 (oM Z f30 (oM Z f32 (oR Z (zm Z Z Z) (oM Z f30 (oM Z f33 (oM Z f31 ?_))))))))
     have h45:=ha0.le le27
     refine bnK hm44 fun x46 h47 hm48=>zL 1 Z Z Z Z (zM Z Z Tryz.call185 (zA Z (zA Z (zA Z (zA Z (zA Z zU))))) Z) hS28 (fun hs=>wAv l16 pA0 pc0 (w64 (p2 - x17)) p2 x18 p4 pv4 W20 U26 hs h45 h47) (.inl Z) ?_
     rintro U49 L50 v51 W52 le53 hS54 ⟨rfl,rfl,h55⟩
     have hS56:SW w [B0] U U49 [.row pA0 pc0 3 1 (hH KL.encI x46)] W52:=hS54
     refine eN (rR fL4 Z (oM Z f32 (oM Z f33 (oR Z (zm Z Z Z) (oA Z Z (zV (zW ?_)))))))
     obtain rfl:=nA hm48
     exact zH ⟨rfl,_,rfl,⟨U49,(nL (b:=(.slice pA0 l16.length pc0:Value)) (c:=(.slice pA0 x46.length pc0:Value)) f29 (by rw [h55])),f30,f31,rfl,f33,(le27.trans le53),hS56,(h55.trans h34)⟩⟩
    ·intro c43 hm60
     refine cF Z c43 (sR (wIq (.fx 11 (.nil) .stop)) Z (oM Z f29 (oM Z f30 (oM Z f32 (oR Z (zm Z Z Z) (oM Z f30 (oM Z f33 (oR Z (zO Z Z Z) (oM Z f32 (oR Z (zm Z Z Z) (oM Z f32 (oM Z f31 ?_))))))))))))
     have h61:=ha0.le le27
     refine bnK hm60 fun x62 h63 hm64=>zL 1 Z Z Z Z (zM Z Z Tryz.call185 (zA Z (zA Z (zA Z (zA Z (zA Z zU))))) Z) hS28 (fun hs=>wAv l16 pA0 pc0 (w64 (p2 - x17)) (w64 ((w64 (p2 + x18)) - x17)) x17 p4 pv4 W20 U26 hs h61 h63) (.inl Z) ?_
     rintro U65 L66 v67 W68 le69 hS70 ⟨rfl,rfl,h71⟩
     have hS72:SW w [B0] U U65 [.row pA0 pc0 3 1 (hH KL.encI x62)] W68:=hS70
     refine eN (rR fL4 Z (oM Z f33 (oM Z f32 (oR Z (zm Z Z Z) (oA Z Z (zV (zW ?_)))))))
     obtain rfl:=nA hm64
     exact zH ⟨rfl,_,rfl,⟨U65,(nL (b:=(.slice pA0 l16.length pc0:Value)) (c:=(.slice pA0 x62.length pc0:Value)) f29 (by rw [h71])),f30,f31,f32,rfl,(le27.trans le69),hS72,(h71.trans h34)⟩⟩
 ·rintro σ76 W77 ⟨U78,f81,f82,f83,f84,le79,hS80,h85⟩
  refine rR (wNn (.fx 7 (.nil) .stop)) Z (oM Z f81 (oM Z f82 (oM Z f84 (oR Z (zm Z Z Z) (oM Z f82 (oM Z f84 (oM Z f83 ?_)))))))
  have h86:=ha0.le le79
  refine bnK hm6 fun x87 h88 hm89=>zL 1 Z Z Z Z (zM Z Z Tryz.call185 (zA Z (zA Z (zA Z (zA Z (zA Z zU))))) Z) hS80 (fun hs=>wAv l2 pA0 pc0 (w64 (p2 - x3)) p2 x3 p4 pv4 W77 U78 hs h86 h88) (.inl Z) ?_
  rintro U90 L91 v92 W93 le94 hS95 ⟨rfl,rfl,h96⟩
  have hS97:SW w [B0] U U90 [.row pA0 pc0 3 1 (hH KL.encI x87)] W93:=hS95
  refine zV ?_
  have hE:=nA hm89;first | subst r | cases hE
  exact ⟨Z,_,(wCO),U90,_,hS97,Z,Z,(h96.trans h85)⟩
theorem wBR (n_:Nat):∀ (p0:List Int) (pA0:Option Addr) (pc0:Nat) (p1:Int) (p2:Int) (p3:Int) (p4:((Int × Int)->Option Int)) (pv4:Value) (w:World) (U:PHeap) (hS:St0 w U [.row pA0 pc0 3 1 (hH KL.encI p0)]) (ha0:FnOK Tryz.prog U pv4 wNd wNe p4) {r:(List Int)} (hm:wAE n_ p0 p1 p2 p3 p4=some r),Gv Tryz.prog 153 [.slice pA0 p0.length pc0,jV p1,jV p2,jV p3,pv4] w (wDR w [.row pA0 pc0 3 1 (hH KL.encI p0)] U (fun U_ L_ v=>v=.tuple #[]/\L_=[.row pA0 pc0 3 1 (hH KL.encI r)]/\r.length=p0.length)):=by
 induction n_ with
 | zero =>
  intros
  rename_i hm
  have hm0:(none:Option ((List Int)))=some _:=hm
  cases hm0
 | succ n_ ih =>
  intro p0 pA0 pc0 p1 p2 p3 p4 pv4 w U hS ha0 r hm
  have hm:wAX (wAE n_) p0 p1 p2 p3 p4=some r:=hm
  unfold wAX at hm
  refine Gv.of Tryz.func153 Z Tryz.ntmps153 Tryz.results153 Z (zF (sR fL4 Z (oM Z Z (oM Z Z (oR Z (zm Z Z Z) (oR Z (Runs.eql Z Z Z) (eN ?_)))))))
  by_cases c2:(w64 (p2 - p1))=1
  ·have hm3:=hm;rw [if_pos c2] at hm3;replace c2:=zE c2
   refine cT Z c2 (sR fL2 Z (oM Z Z (oA Z Z (eN (sR fL2 Z (oM Z Z (oA Z Z (eN (bnK hm3 fun x4 hx6 hm7=>?_)))))))))
   let B0:Res:=.row pA0 pc0 3 1 (hH KL.encI p0)
   refine CK.cut (fun σ_ w_=>∃ (U_:PHeap),σ_ 0=.slice pA0 p0.length pc0/\σ_ 1=jV p1/\σ_ 10=jV x4/\PHeap.Le U U_/\SW w [B0] U U_ [B0] w_) ?_ ?_
   ·refine zK (ZR (fun (x14,x15) σ_ w_=>∃ (U_:PHeap),σ_ 0=.slice pA0 p0.length pc0/\σ_ 1=jV p1/\σ_ 4=pv4/\σ_ 10=jV x14/\σ_ 11=jV x15/\PHeap.Le U U_/\SW w [B0] U U_ [B0] w_) hx6 ?_ ?_)
    ·exact ⟨U,Z,Z,Z,Z,Z,(zJ _),hS⟩
    ·rintro ⟨x14,x15⟩ xx18 σ16 W17 ⟨U23,f26,f27,f28,f29,f30,le24,hS25⟩ hx19 hb20
     try dsimp only at hx19
     refine zF (sR fL3 Z (oM Z f29 (oM Z f30 (oR Z (zG Z Z Z) (eN ?_)))))
     by_cases c31:x14 < x15
     ·have hm32:=hx19;rw [if_pos c31] at hm32;replace c31:=zE c31
      refine cT Z c31 (kN (zK (sR fL7 rfl (zD rfl rfl rfl rfl rfl f29 (zD rfl rfl rfl rfl rfl f30 (zg rfl rfl rfl rfl (fun _=>zO rfl rfl rfl) (zg rfl rfl rfl rfl (fun _=>Runs.cv64 rfl rfl zx zu rfl rfl) (zg rfl rfl rfl rfl (fun _=>Runs.shr1 rfl rfl rfl) (zg rfl rfl rfl rfl (fun _=>Runs.cvw rfl rfl zu zx rfl rfl) (OKS.ra rfl rfl rfl rfl rfl rfl (eN (zF (ZD ZA [3,3,3,3,1,3,3,3,1,2,3] (wPG (.fx 9 (.fl 10 (.nil)) .stop)) (by kernel_rfl) ?_)))))))))))))
      have hS33:=hS25.drew
      generalize hw_W34:({ W17 with drawn:=W17.drawn + 1 }:World)=W34 at hS33 ⊢
      refine oM Z f28 (oM Z f26 (oM Z Z (bnK hm32 fun _ h35 hm36=>?_)))
      obtain ⟨b37,hA38⟩:=hS33.rowSome (j:=0) rfl (by rw [wAG (f:=KL.encI) (sz:=1) (fun _=>rfl) p0];have hz:=wAS h35;omega)
      refine oR Z (zl Z Z hA38 Z zB zC (wBE h35) (wBF h35)) ?_
      have hg39:=wAq (xs:=p0) (wAS h35)
      refine ZC rfl rfl rfl rfl (hS33.ldR (j:=0) rfl hA38 rfl rfl zI (wAL (sz:=1) (fun _=>rfl) _ _ 0 _ hg39 (by first | omega | rfl | simp) rfl)) rfl (zD rfl rfl rfl rfl rfl f26 (zD rfl rfl rfl rfl rfl f27 (bnK hm36 fun _ h40 hm41=>zg rfl rfl rfl rfl (fun _=>zl rfl rfl hA38 rfl zB zC (wBE h40) (wBF h40)) ?_)))
      have hg42:=wAq (xs:=p0) (wAS h40)
      refine ZC rfl rfl rfl rfl (hS33.ldR (j:=0) rfl hA38 rfl rfl zI (wAL (sz:=1) (fun _=>rfl) _ _ 0 _ hg42 (by first | omega | rfl | simp) rfl)) rfl (bnK hm41 fun x43 h44 hm45=>?_)
      have h52:=ha0.le le24
      refine OKS.callV (a:=((gd p0 (w64 ((wAQ (w64 (x14 + x15))) / 2)).toNat),(gd p0 p1.toNat))) Z Z Z Z Z Z (zA Z (zA Z zU)) hS33 h52 Z h44 ?_
      rintro U46 L47 v48 W49 le50 hS51 ⟨rfl,rfl⟩
      have hS53:SW w [B0] U U46 [B0] W49:=hS51
      refine oR Z (zG Z Z Z) (eN (ifc hm45 ?_ ?_))
      ·intro c54 hm55
       refine cT Z c54 (rR fL3 Z (oM Z Z (oR Z (zO Z Z Z) (oA Z Z (zV (zW ?_))))))
       obtain rfl:=nA hm55
       exact zH ⟨Z,_,Z,⟨U46,f26,f27,f28,Z,f30,(le24.trans le50),hS53⟩⟩
      ·intro c54 hm58
       refine cF Z c54 (rR fL2 Z (oM Z Z (oA Z Z (zV (zW ?_)))))
       obtain rfl:=nA hm58
       exact zH ⟨Z,_,Z,⟨U46,f26,f27,f28,f29,Z,(le24.trans le50),hS53⟩⟩
     ·have hm61:=hx19;rw [if_neg c31] at hm61;replace c31:=zE c31
      refine cF Z c31 (zo (zN ?_))
      have q:=wAl hm61
      obtain ⟨v62,hm63,e64⟩:=q
      obtain rfl:=hb20 v62 e64
      refine zN (zj ?_)
      cases hm63
      exact zH ⟨Z,⟨U23,f26,f27,f29,le24,hS25⟩⟩
   ·rintro σ66 W67 ⟨U68,f71,f72,f73,le69,hS70⟩
    refine zF (sR fL2 Z (oM Z f72 (oA Z Z (eN (zK (ZR (fun (l80,x81) σ_ w_=>∃ (U_:PHeap),σ_ 0=.slice pA0 l80.length pc0/\σ_ 10=jV x4/\σ_ 13=jV x81/\PHeap.Le U68 U_/\SW w [B0] U U_ [.row pA0 pc0 3 1 (hH KL.encI l80)] w_/\l80.length=p0.length) hm7 ?_ ?_))))))
    ·exact ⟨U68,f71,f73,Z,(zJ _),hS70,Z⟩
    ·rintro ⟨l80,x81⟩ xx84 σ82 W83 ⟨U89,f92,f93,f94,le90,hS91,h95⟩ hx85 hb86
     try dsimp only at hx85
     refine zF (sR fL4 Z (oM Z f94 (oM Z f93 (oR Z (zm Z Z Z) (oR Z (zG Z Z Z) (eN ?_))))))
     by_cases c96:x81 < (w64 (x4 - 1))
     ·have hm97:=hx85;rw [if_pos c96] at hm97;replace c96:=zE c96
      refine cT Z c96 (kN (zF (zK (ZD ZA [3,3,3,3,3,3,3,3,3,1,3,3,3,1,3,0,3,0] (wLV (.fx 15 (.fl 16 (.fx 17 (.nil) .stop)) .stop)) (by kernel_rfl) ?_))))
      have hS98:=hS91.drew
      generalize hw_W99:({ W83 with drawn:=W83.drawn + 1 }:World)=W99 at hS98 ⊢
      refine oM Z f92 (oM Z f94 (oM Z f92 (oM Z f94 (oR Z (zO Z Z Z) (oM Z f92 (oM Z f94 (oR Z (zO Z Z Z) (bnK hm97 fun _ h100 hm101=>?_))))))))
      obtain ⟨b102,hA103⟩:=hS98.rowSome (j:=0) rfl (by rw [wAG (f:=KL.encI) (sz:=1) (fun _=>rfl) l80];have hz:=wAS h100;omega)
      refine oR Z (zl Z Z hA103 Z zB zC (wBE h100) (wBF h100)) ?_
      have hg104:=wAq (xs:=l80) (wAS h100)
      refine ZC rfl rfl rfl rfl (hS98.ldR (j:=0) rfl hA103 rfl rfl zI (wAL (sz:=1) (fun _=>rfl) _ _ 0 _ hg104 (by first | omega | rfl | simp) rfl)) rfl (zD rfl rfl rfl rfl rfl f92 (zD rfl rfl rfl rfl rfl f94 (bnK hm101 fun _ h105 hm106=>zg rfl rfl rfl rfl (fun _=>zl rfl rfl hA103 rfl zB zC (wBE h105) (wBF h105)) ?_)))
      have hg107:=wAq (xs:=l80) (wAS h105)
      refine ZC rfl rfl rfl rfl (hS98.ldR (j:=0) rfl hA103 rfl rfl zI (wAL (sz:=1) (fun _=>rfl) _ _ 0 _ hg107 (by first | omega | rfl | simp) rfl)) rfl (zg rfl rfl rfl rfl (fun _=>zl rfl rfl hA103 rfl zB zC (wBE h105) (wBF h105)) ?_)
      have hg108:=wAq (xs:=l80) (wAS h105)
      refine OKS.stR (j:=0) (vs:=[jV (gd l80 (w64 (x81 + 1)).toNat)]) (cs':=hH KL.encI (nE l80 x81.toNat (gd l80 (w64 (x81 + 1)).toNat))) rfl rfl rfl rfl hS98 rfl hA103 rfl rfl rfl zC (by rw [wAG (f:=KL.encI) (sz:=1) (fun _=>rfl)];have hz:=wAS h105;show _ + 1 <= _;first | omega | (simp only [nK];omega) | (simp only [nI,nG,nH];omega)) rfl (wCd (sz:=1) (fo:=0) (fun _=>rfl) _ _ _ _ hg108 (by first | omega | (simp only [nK];omega) | (simp only [nI,nG,nH];omega)) (zd rfl) rfl) rfl ?_
      intro W109 hS110
      have hS111:SW w [B0] U U89 [.row pA0 pc0 3 1 (hH KL.encI (nE l80 x81.toNat (gd l80 (w64 (x81 + 1)).toNat)))] W109:=hS110
      refine bnK hm106 fun _ h112 hm113=>zg rfl rfl rfl rfl (fun _=>zl rfl (nL (b:=(.slice pA0 l80.length pc0:Value)) (c:=(.slice pA0 ((nE l80 x81.toNat (gd l80 (w64 (x81 + 1)).toNat)).length) pc0:Value)) rfl (by simp only [nJ])) hA103 rfl zB zC (wBE h112) (wBF h112)) ?_
      have hg114:=wAq (xs:=(nE l80 x81.toNat (gd l80 (w64 (x81 + 1)).toNat))) (wAS h112)
      refine OKS.stR (j:=0) (vs:=[jV (gd l80 x81.toNat)]) (cs':=hH KL.encI (nE (nE l80 x81.toNat (gd l80 (w64 (x81 + 1)).toNat)) (w64 (x81 + 1)).toNat (gd l80 x81.toNat))) rfl rfl rfl rfl hS111 rfl hA103 rfl rfl rfl zC (by rw [wAG (f:=KL.encI) (sz:=1) (fun _=>rfl)];have hz:=wAS h112;show _ + 1 <= _;first | omega | (simp only [nK];omega) | (simp only [nI,nG,nH];omega)) rfl (wCd (sz:=1) (fo:=0) (fun _=>rfl) _ _ _ _ hg114 (by first | omega | (simp only [nK];omega) | (simp only [nI,nG,nH];omega)) (zd rfl) rfl) rfl ?_
      intro W115 hS116
      have hS117:SW w [B0] U U89 [.row pA0 pc0 3 1 (hH KL.encI (nE (nE l80 x81.toNat (gd l80 (w64 (x81 + 1)).toNat)) (w64 (x81 + 1)).toNat (gd l80 x81.toNat)))] W115:=hS116
      refine zV (zW (zH (rR fL3 Z (oM Z f94 (oR Z (zO Z Z Z) (oA Z Z (zV ?_)))))))
      obtain rfl:=nA hm113
      exact zH ⟨rfl,_,rfl,⟨U89,(nL (b:=(.slice pA0 ((nE l80 x81.toNat (gd l80 (w64 (x81 + 1)).toNat)).length) pc0:Value)) (c:=(.slice pA0 ((nE (nE l80 x81.toNat (gd l80 (w64 (x81 + 1)).toNat)) (w64 (x81 + 1)).toNat (gd l80 x81.toNat)).length) pc0:Value)) (nL (b:=(.slice pA0 l80.length pc0:Value)) (c:=(.slice pA0 ((nE l80 x81.toNat (gd l80 (w64 (x81 + 1)).toNat)).length) pc0:Value)) f92 (by simp only [nJ])) (by simp only [nJ])),f93,rfl,le90,hS117,((nJ.trans nJ).trans h95)⟩⟩
     ·have hm120:=hx85;rw [if_neg c96] at hm120;replace c96:=zE c96
      refine cF Z c96 (zo (zN ?_))
      have q:=wAl hm120
      obtain ⟨v121,hm122,e123⟩:=q
      obtain rfl:=hb86 v121 e123
      refine zN (zj (zH (zX (zS ?_))))
      have hE:=nA hm122;first | subst r | cases hE
      exact ⟨Z,_,(wCO),U89,_,hS91,Z,Z,h95⟩
  ·have hm124:=hm;rw [if_neg c2] at hm124;replace c2:=zE c2
   refine cF Z c2 (kN (zF (sR fL4 Z (oM Z Z (oM Z Z (oR Z (zm Z Z Z) (oR Z (Runs.eql Z Z Z) (eN (ifc hm124 ?_ ?_)))))))))
   ·intro c125 hm126
    refine cT Z c125 (sR fL2 Z (oM Z Z (oA Z Z (eN (sR fL2 Z (oM Z Z (oA Z Z (eN (bnK hm126 fun x127 hx129 hm130=>?_)))))))))
    let B1:Res:=.row pA0 pc0 3 1 (hH KL.encI p0)
    refine CK.cut (fun σ_ w_=>∃ (U_:PHeap),σ_ 0=.slice pA0 p0.length pc0/\σ_ 2=jV p2/\σ_ 14=jV x127/\PHeap.Le U U_/\SW w [B1] U U_ [B1] w_) ?_ ?_
    ·refine zK (ZR (fun (x137,x138) σ_ w_=>∃ (U_:PHeap),σ_ 0=.slice pA0 p0.length pc0/\σ_ 2=jV p2/\σ_ 4=pv4/\σ_ 14=jV x137/\σ_ 15=jV x138/\PHeap.Le U U_/\SW w [B1] U U_ [B1] w_) hx129 ?_ ?_)
     ·exact ⟨U,Z,Z,Z,Z,Z,(zJ _),hS⟩
     ·rintro ⟨x137,x138⟩ xx141 σ139 W140 ⟨U146,f149,f150,f151,f152,f153,le147,hS148⟩ hx142 hb143
      try dsimp only at hx142
      refine zF (sR fL3 Z (oM Z f152 (oM Z f153 (oR Z (zG Z Z Z) (eN ?_)))))
      by_cases c154:x137 < x138
      ·have hm155:=hx142;rw [if_pos c154] at hm155;replace c154:=zE c154
       refine cT Z c154 (kN (zK (sR fL7 rfl (zD rfl rfl rfl rfl rfl f152 (zD rfl rfl rfl rfl rfl f153 (zg rfl rfl rfl rfl (fun _=>zO rfl rfl rfl) (zg rfl rfl rfl rfl (fun _=>Runs.cv64 rfl rfl zx zu rfl rfl) (zg rfl rfl rfl rfl (fun _=>Runs.shr1 rfl rfl rfl) (zg rfl rfl rfl rfl (fun _=>Runs.cvw rfl rfl zu zx rfl rfl) (OKS.ra rfl rfl rfl rfl rfl rfl (eN (zF (ZD ZA [3,3,3,3,1,3,3,3,1,2,3,3] (wPG (.fx 9 (.fl 10 (.fl 11 (.nil))) .stop)) (by kernel_rfl) ?_)))))))))))))
       have hS156:=hS148.drew
       generalize hw_W157:({ W140 with drawn:=W140.drawn + 1 }:World)=W157 at hS156 ⊢
       refine oM Z f151 (oM Z f149 (oM Z f150 (bnK hm155 fun _ h158 hm159=>?_)))
       obtain ⟨b160,hA161⟩:=hS156.rowSome (j:=0) rfl (by rw [wAG (f:=KL.encI) (sz:=1) (fun _=>rfl) p0];have hz:=wAS h158;omega)
       refine oR Z (zl Z Z hA161 Z zB zC (wBE h158) (wBF h158)) ?_
       have hg162:=wAq (xs:=p0) (wAS h158)
       refine ZC rfl rfl rfl rfl (hS156.ldR (j:=0) rfl hA161 rfl rfl zI (wAL (sz:=1) (fun _=>rfl) _ _ 0 _ hg162 (by first | omega | rfl | simp) rfl)) rfl (zD rfl rfl rfl rfl rfl f149 (zD rfl rfl rfl rfl rfl rfl (bnK hm159 fun _ h163 hm164=>zg rfl rfl rfl rfl (fun _=>zl rfl rfl hA161 rfl zB zC (wBE h163) (wBF h163)) ?_)))
       have hg165:=wAq (xs:=p0) (wAS h163)
       refine ZC rfl rfl rfl rfl (hS156.ldR (j:=0) rfl hA161 rfl rfl zI (wAL (sz:=1) (fun _=>rfl) _ _ 0 _ hg165 (by first | omega | rfl | simp) rfl)) rfl (bnK hm164 fun x166 h167 hm168=>?_)
       have h175:=ha0.le le147
       refine OKS.callV (a:=((gd p0 p2.toNat),(gd p0 (w64 ((wAQ (w64 (x137 + x138))) / 2)).toNat))) Z Z Z Z Z Z (zA Z (zA Z zU)) hS156 h175 Z h167 ?_
       rintro U169 L170 v171 W172 le173 hS174 ⟨rfl,rfl⟩
       have hS176:SW w [B1] U U169 [B1] W172:=hS174
       refine oR Z (zG Z Z Z) (oR Z (Runs.notP Z Z) (eN (ifc hm168 ?_ ?_)))
       ·intro c177 hm178
        refine zZ (zp (fun h=>h c177.out)) (rR fL2 Z (oM Z Z (oA Z Z (zV (zW ?_)))))
        obtain rfl:=nA hm178
        exact zH ⟨Z,_,Z,⟨U169,f149,f150,f151,f152,Z,(le147.trans le173),hS176⟩⟩
       ·intro c177 hm181
        refine cT Z c177 (rR fL3 Z (oM Z Z (oR Z (zO Z Z Z) (oA Z Z (zV (zW ?_))))))
        obtain rfl:=nA hm181
        exact zH ⟨Z,_,Z,⟨U169,f149,f150,f151,Z,f153,(le147.trans le173),hS176⟩⟩
      ·have hm184:=hx142;rw [if_neg c154] at hm184;replace c154:=zE c154
       refine cF Z c154 (zo (zN ?_))
       have q:=wAl hm184
       obtain ⟨v185,hm186,e187⟩:=q
       obtain rfl:=hb143 v185 e187
       refine zN (zj ?_)
       cases hm186
       exact zH ⟨Z,⟨U146,f149,f150,f152,le147,hS148⟩⟩
    ·rintro σ189 W190 ⟨U191,f194,f195,f196,le192,hS193⟩
     refine zF (sR fL2 Z (oM Z f195 (oA Z Z (eN (zK (ZR (fun (l203,x204) σ_ w_=>∃ (U_:PHeap),σ_ 0=.slice pA0 l203.length pc0/\σ_ 14=jV x127/\σ_ 17=jV x204/\PHeap.Le U191 U_/\SW w [B1] U U_ [.row pA0 pc0 3 1 (hH KL.encI l203)] w_/\l203.length=p0.length) hm130 ?_ ?_))))))
     ·exact ⟨U191,f194,f196,Z,(zJ _),hS193,Z⟩
     ·rintro ⟨l203,x204⟩ xx207 σ205 W206 ⟨U212,f215,f216,f217,le213,hS214,h218⟩ hx208 hb209
      try dsimp only at hx208
      refine zF (sR fL3 Z (oM Z f217 (oM Z f216 (oR Z (Runs.gtr Z Z Z) (eN ?_)))))
      by_cases c219:x127 < x204
      ·have hm220:=hx208;rw [if_pos c219] at hm220;replace c219:=zE c219
       refine cT Z c219 (kN (zF (zK (ZD ZA [3,3,3,3,3,3,3,3,3,1,3,3,3,1,3,0,3,0] (wLV (.fx 15 (.fl 16 (.fx 17 (.nil) .stop)) .stop)) (by kernel_rfl) ?_))))
       have hS221:=hS214.drew
       generalize hw_W222:({ W206 with drawn:=W206.drawn + 1 }:World)=W222 at hS221 ⊢
       refine oM Z f215 (oM Z f217 (oM Z f215 (oM Z f217 (oR Z (zm Z Z Z) (oM Z f215 (oM Z f217 (oR Z (zm Z Z Z) (bnK hm220 fun _ h223 hm224=>?_))))))))
       obtain ⟨b225,hA226⟩:=hS221.rowSome (j:=0) rfl (by rw [wAG (f:=KL.encI) (sz:=1) (fun _=>rfl) l203];have hz:=wAS h223;omega)
       refine oR Z (zl Z Z hA226 Z zB zC (wBE h223) (wBF h223)) ?_
       have hg227:=wAq (xs:=l203) (wAS h223)
       refine ZC rfl rfl rfl rfl (hS221.ldR (j:=0) rfl hA226 rfl rfl zI (wAL (sz:=1) (fun _=>rfl) _ _ 0 _ hg227 (by first | omega | rfl | simp) rfl)) rfl (zD rfl rfl rfl rfl rfl f215 (zD rfl rfl rfl rfl rfl f217 (bnK hm224 fun _ h228 hm229=>zg rfl rfl rfl rfl (fun _=>zl rfl rfl hA226 rfl zB zC (wBE h228) (wBF h228)) ?_)))
       have hg230:=wAq (xs:=l203) (wAS h228)
       refine ZC rfl rfl rfl rfl (hS221.ldR (j:=0) rfl hA226 rfl rfl zI (wAL (sz:=1) (fun _=>rfl) _ _ 0 _ hg230 (by first | omega | rfl | simp) rfl)) rfl (zg rfl rfl rfl rfl (fun _=>zl rfl rfl hA226 rfl zB zC (wBE h228) (wBF h228)) ?_)
       have hg231:=wAq (xs:=l203) (wAS h228)
       refine OKS.stR (j:=0) (vs:=[jV (gd l203 (w64 (x204 - 1)).toNat)]) (cs':=hH KL.encI (nE l203 x204.toNat (gd l203 (w64 (x204 - 1)).toNat))) rfl rfl rfl rfl hS221 rfl hA226 rfl rfl rfl zC (by rw [wAG (f:=KL.encI) (sz:=1) (fun _=>rfl)];have hz:=wAS h228;show _ + 1 <= _;first | omega | (simp only [nK];omega) | (simp only [nI,nG,nH];omega)) rfl (wCd (sz:=1) (fo:=0) (fun _=>rfl) _ _ _ _ hg231 (by first | omega | (simp only [nK];omega) | (simp only [nI,nG,nH];omega)) (zd rfl) rfl) rfl ?_
       intro W232 hS233
       have hS234:SW w [B1] U U212 [.row pA0 pc0 3 1 (hH KL.encI (nE l203 x204.toNat (gd l203 (w64 (x204 - 1)).toNat)))] W232:=hS233
       refine bnK hm229 fun _ h235 hm236=>zg rfl rfl rfl rfl (fun _=>zl rfl (nL (b:=(.slice pA0 l203.length pc0:Value)) (c:=(.slice pA0 ((nE l203 x204.toNat (gd l203 (w64 (x204 - 1)).toNat)).length) pc0:Value)) rfl (by simp only [nJ])) hA226 rfl zB zC (wBE h235) (wBF h235)) ?_
       have hg237:=wAq (xs:=(nE l203 x204.toNat (gd l203 (w64 (x204 - 1)).toNat))) (wAS h235)
       refine OKS.stR (j:=0) (vs:=[jV (gd l203 x204.toNat)]) (cs':=hH KL.encI (nE (nE l203 x204.toNat (gd l203 (w64 (x204 - 1)).toNat)) (w64 (x204 - 1)).toNat (gd l203 x204.toNat))) rfl rfl rfl rfl hS234 rfl hA226 rfl rfl rfl zC (by rw [wAG (f:=KL.encI) (sz:=1) (fun _=>rfl)];have hz:=wAS h235;show _ + 1 <= _;first | omega | (simp only [nK];omega) | (simp only [nI,nG,nH];omega)) rfl (wCd (sz:=1) (fo:=0) (fun _=>rfl) _ _ _ _ hg237 (by first | omega | (simp only [nK];omega) | (simp only [nI,nG,nH];omega)) (zd rfl) rfl) rfl ?_
       intro W238 hS239
       have hS240:SW w [B1] U U212 [.row pA0 pc0 3 1 (hH KL.encI (nE (nE l203 x204.toNat (gd l203 (w64 (x204 - 1)).toNat)) (w64 (x204 - 1)).toNat (gd l203 x204.toNat)))] W238:=hS239
       refine zV (zW (zH (rR fL3 Z (oM Z f217 (oR Z (zm Z Z Z) (oA Z Z (zV ?_)))))))
       obtain rfl:=nA hm236
       exact zH ⟨rfl,_,rfl,⟨U212,(nL (b:=(.slice pA0 ((nE l203 x204.toNat (gd l203 (w64 (x204 - 1)).toNat)).length) pc0:Value)) (c:=(.slice pA0 ((nE (nE l203 x204.toNat (gd l203 (w64 (x204 - 1)).toNat)) (w64 (x204 - 1)).toNat (gd l203 x204.toNat)).length) pc0:Value)) (nL (b:=(.slice pA0 l203.length pc0:Value)) (c:=(.slice pA0 ((nE l203 x204.toNat (gd l203 (w64 (x204 - 1)).toNat)).length) pc0:Value)) f215 (by simp only [nJ])) (by simp only [nJ])),f216,rfl,le213,hS240,((nJ.trans nJ).trans h218)⟩⟩
      ·have hm243:=hx208;rw [if_neg c219] at hm243;replace c219:=zE c219
       refine cF Z c219 (zo (zN ?_))
       have q:=wAl hm243
       obtain ⟨v244,hm245,e246⟩:=q
       obtain rfl:=hb209 v244 e246
       refine zN (zj (zH (zX (zS ?_))))
       have hE:=nA hm245;first | subst r | cases hE
       exact ⟨Z,_,(wCO),U212,_,hS214,Z,Z,h218⟩
   ·intro c125 hm247
    refine cF Z c125 (kN (sR fL7 Z (oM Z Z (oM Z Z (oR Z (zO Z Z Z) (oR Z (Runs.cv64 Z Z zx zu Z Z) (oR Z (Runs.shr1 Z Z Z) (oR Z (Runs.cvw Z Z zu zx Z Z) (oA Z Z (eN (sR fL4 Z (oM Z Z (oM Z Z (oR Z (zO Z Z Z) (oA Z Z (eN (sR fL2 Z (oA Z Z (oA Z Z (eN (zF (sR fL3 Z (oM Z Z (oM Z Z (oR Z (Runs.gtr Z Z Z) (eN (ifc hm247 ?_ ?_)))))))))))))))))))))))))))
    ·intro c248 hm249
     refine cT Z c248 (sR fL4 Z (oM Z Z (oM Z Z (oR Z (zm Z Z Z) (oA Z Z (eN (rR fL2 Z (oM Z Z (oA Z Z (eN (sR fL3 Z (oM Z Z (oR Z (zm Z Z Z) (oA Z Z (eN (bnK hm249 fun x250 hx252 hm253=>?_))))))))))))))))
     let B2:Res:=.row pA0 pc0 3 1 (hH KL.encI p0)
     refine CK.cut (fun σ_ w_=>∃ (U_:PHeap),σ_ 0=.slice pA0 p0.length pc0/\σ_ 1=jV p1/\σ_ 2=jV p2/\σ_ 3=jV p3/\σ_ 4=pv4/\σ_ 18=jV (w64 ((wAQ (w64 (p1 + p3))) / 2))/\σ_ 19=jV (w64 ((w64 ((wAQ (w64 (p1 + p3))) / 2)) + p2))/\σ_ 20=jV x250/\PHeap.Le U U_/\SW w [B2] U U_ [B2] w_) ?_ ?_
     ·refine zK (ZR (fun (x260,x261) σ_ w_=>∃ (U_:PHeap),σ_ 0=.slice pA0 p0.length pc0/\σ_ 1=jV p1/\σ_ 2=jV p2/\σ_ 3=jV p3/\σ_ 4=pv4/\σ_ 18=jV (w64 ((wAQ (w64 (p1 + p3))) / 2))/\σ_ 19=jV (w64 ((w64 ((wAQ (w64 (p1 + p3))) / 2)) + p2))/\σ_ 20=jV x260/\σ_ 21=jV x261/\σ_ 22=jV (w64 ((w64 ((w64 ((wAQ (w64 (p1 + p3))) / 2)) + p2)) - 1))/\PHeap.Le U U_/\SW w [B2] U U_ [B2] w_) hx252 ?_ ?_)
      ·exact ⟨U,Z,Z,Z,Z,Z,Z,Z,Z,Z,Z,(zJ _),hS⟩
      ·rintro ⟨x260,x261⟩ xx264 σ262 W263 ⟨U269,f272,f273,f274,f275,f276,f277,f278,f279,f280,f281,le270,hS271⟩ hx265 hb266
       try dsimp only at hx265
       refine zF (sR fL3 Z (oM Z f279 (oM Z f280 (oR Z (zG Z Z Z) (eN ?_)))))
       by_cases c282:x260 < x261
       ·have hm283:=hx265;rw [if_pos c282] at hm283;replace c282:=zE c282
        refine cT Z c282 (kN (zK (sR fL7 rfl (zD rfl rfl rfl rfl rfl f279 (zD rfl rfl rfl rfl rfl f280 (zg rfl rfl rfl rfl (fun _=>zO rfl rfl rfl) (zg rfl rfl rfl rfl (fun _=>Runs.cv64 rfl rfl zx zu rfl rfl) (zg rfl rfl rfl rfl (fun _=>Runs.shr1 rfl rfl rfl) (zg rfl rfl rfl rfl (fun _=>Runs.cvw rfl rfl zu zx rfl rfl) (OKS.ra rfl rfl rfl rfl rfl rfl (eN (zF (ZD ZA [3,3,3,3,3,3,1,3,3,3,1,2,3,3] (wIq (.fx 11 (.fl 12 (.fl 13 (.nil))) .stop)) (by kernel_rfl) ?_)))))))))))))
        have hS284:=hS271.drew
        generalize hw_W285:({ W263 with drawn:=W263.drawn + 1 }:World)=W285 at hS284 ⊢
        refine oM Z f276 (oM Z f272 (oM Z f281 (oM Z Z (oR Z (zm Z Z Z) (bnK hm283 fun _ h286 hm287=>?_)))))
        obtain ⟨b288,hA289⟩:=hS284.rowSome (j:=0) rfl (by rw [wAG (f:=KL.encI) (sz:=1) (fun _=>rfl) p0];have hz:=wAS h286;omega)
        refine oR Z (zl Z Z hA289 Z zB zC (wBE h286) (wBF h286)) ?_
        have hg290:=wAq (xs:=p0) (wAS h286)
        refine ZC rfl rfl rfl rfl (hS284.ldR (j:=0) rfl hA289 rfl rfl zI (wAL (sz:=1) (fun _=>rfl) _ _ 0 _ hg290 (by first | omega | rfl | simp) rfl)) rfl (zD rfl rfl rfl rfl rfl f272 (zD rfl rfl rfl rfl rfl rfl (bnK hm287 fun _ h291 hm292=>zg rfl rfl rfl rfl (fun _=>zl rfl rfl hA289 rfl zB zC (wBE h291) (wBF h291)) ?_)))
        have hg293:=wAq (xs:=p0) (wAS h291)
        refine ZC rfl rfl rfl rfl (hS284.ldR (j:=0) rfl hA289 rfl rfl zI (wAL (sz:=1) (fun _=>rfl) _ _ 0 _ hg293 (by first | omega | rfl | simp) rfl)) rfl (bnK hm292 fun x294 h295 hm296=>?_)
        have h303:=ha0.le le270
        refine OKS.callV (a:=((gd p0 (w64 ((w64 ((w64 ((w64 ((wAQ (w64 (p1 + p3))) / 2)) + p2)) - 1)) - (w64 ((wAQ (w64 (x260 + x261))) / 2)))).toNat),(gd p0 (w64 ((wAQ (w64 (x260 + x261))) / 2)).toNat))) Z Z Z Z Z Z (zA Z (zA Z zU)) hS284 h303 Z h295 ?_
        rintro U297 L298 v299 W300 le301 hS302 ⟨rfl,rfl⟩
        have hS304:SW w [B2] U U297 [B2] W300:=hS302
        refine oR Z (zG Z Z Z) (oR Z (Runs.notP Z Z) (eN (ifc hm296 ?_ ?_)))
        ·intro c305 hm306
         refine zZ (zp (fun h=>h c305.out)) (rR fL2 Z (oM Z Z (oA Z Z (zV (zW ?_)))))
         obtain rfl:=nA hm306
         exact zH ⟨Z,_,Z,⟨U297,f272,f273,f274,f275,f276,f277,f278,f279,Z,f281,(le270.trans le301),hS304⟩⟩
        ·intro c305 hm309
         refine cT Z c305 (rR fL3 Z (oM Z Z (oR Z (zO Z Z Z) (oA Z Z (zV (zW ?_))))))
         obtain rfl:=nA hm309
         exact zH ⟨Z,_,Z,⟨U297,f272,f273,f274,f275,f276,f277,f278,Z,f280,f281,(le270.trans le301),hS304⟩⟩
       ·have hm312:=hx265;rw [if_neg c282] at hm312;replace c282:=zE c282
        refine cF Z c282 (zo (zN ?_))
        have q:=wAl hm312
        obtain ⟨v313,hm314,e315⟩:=q
        obtain rfl:=hb266 v313 e315
        refine zN (zj ?_)
        cases hm314
        exact zH ⟨Z,⟨U269,f272,f273,f274,f275,f276,f277,f278,f279,le270,hS271⟩⟩
     ·rintro σ317 W318 ⟨U319,f322,f323,f324,f325,f326,f327,f328,f329,le320,hS321⟩
      refine sR fL4 Z (oM Z f328 (oM Z f329 (oR Z (zm Z Z Z) (oA Z Z (eN (zF (bnK hm253 fun b330 hx332 hm333=>CK.cut (fun σ_ w_=>∃ (U_:PHeap),σ_ 0=.slice pA0 p0.length pc0/\σ_ 1=jV p1/\σ_ 2=jV p2/\σ_ 3=jV p3/\σ_ 4=pv4/\σ_ 18=jV (w64 ((wAQ (w64 (p1 + p3))) / 2))/\σ_ 20=jV x250/\σ_ 24=jV (w64 ((w64 ((w64 ((wAQ (w64 (p1 + p3))) / 2)) + p2)) - x250))/\σ_ 185=.bool b330/\PHeap.Le U319 U_/\SW w [B2] U U_ [B2] w_) ?_ ?_)))))))
      ·refine rR fL8 Z (oM Z f329 (oM Z f324 (oR Z (zG Z Z Z) (oM Z Z ?_))))
       by_cases c334:x250 < p2
       ·have hm335:=hx332;rw [if_pos c334] at hm335;replace c334:=zE c334
        refine zD Z Z Z (wT Z c334) Z f324 (zD Z Z Z (wT Z c334) Z Z (rU Z (wT Z c334) (zG Z Z Z) (oR Z (zY Z (ZJ c334.out) Z) (zV ?_))))
        obtain rfl:=nA hm335
        exact zH ⟨Z,⟨U319,f322,f323,f324,f325,f326,f327,f329,Z,Z,(zJ _),hS321⟩⟩
       ·have hm337:=hx332;rw [if_neg c334] at hm337;replace c334:=zE c334
        refine oF Z c334 (oF Z c334 (oF Z c334 (oR Z (zR Z (zp c334.out) Z) (zV ?_))))
        cases hm337
        exact zH ⟨Z,⟨U319,f322,f323,f324,f325,f326,f327,f329,Z,Z,(zJ _),hS321⟩⟩
      ·rintro σ339 W340 ⟨U341,f344,f345,f346,f347,f348,f349,f350,f351,f352,le342,hS343⟩
       refine ifc hm333 ?_ ?_
       ·intro c353 hm354
        refine ZE (f352.trans (congrArg nB c353.out)) (rR (wCK (.fx 5 (.nil) .stop)) Z (oM Z f344 (oM Z f350 (oM Z f346 (oM Z f351 (oM Z f348 ?_))))))
        have h355:=ha0.le le320
        have h356:=h355.le le342
        refine bnK hm354 fun x357 h358 hm359=>zL 1 Z Z Z Z (zM Z Z Tryz.call168 (zA Z (zA Z (zA Z (zA Z (zA Z zU))))) Z) hS343 (fun hs=>wBW p0 pA0 pc0 x250 p2 (w64 ((w64 ((w64 ((wAQ (w64 (p1 + p3))) / 2)) + p2)) - x250)) p4 pv4 W340 U341 hs h356 h358) (.inl Z) ?_
        rintro U360 L361 v362 W363 le364 hS365 ⟨rfl,rfl,h366⟩
        have hS367:SW w [B2] U U360 [.row pA0 pc0 3 1 (hH KL.encI x357)] W363:=hS365
        refine eN (zF (sR fL8 Z (oM Z f345 (oM Z f350 (oR Z (zG Z Z Z) (oM Z Z (ifc hm359 ?_ ?_)))))))
        ·intro c368 hm369
         refine zD Z Z Z (wT Z c368) Z f350 (zD Z Z Z (wT Z c368) Z f349 (rU Z (wT Z c368) (zG Z Z Z) (oR Z (zY Z (ZJ c368.out) Z) (eN (ifc hm369 ?_ ?_)))))
         ·intro c370 hm371
          refine cT Z c370 (rR (wCK (.fx 5 (.nil) .stop)) rfl (zD rfl rfl rfl rfl rfl (nL (b:=(.slice pA0 p0.length pc0:Value)) (c:=(.slice pA0 x357.length pc0:Value)) f344 (by rw [h366])) (zD rfl rfl rfl rfl rfl f345 (zD rfl rfl rfl rfl rfl f350 (zD rfl rfl rfl rfl rfl f349 (zD rfl rfl rfl rfl rfl f348 ?_))))))
          have h372:=h356.le le364
          refine bnK hm371 fun x373 h374 hm375=>zL 1 Z Z Z Z (zM Z Z zr (zA Z (zA Z (zA Z (zA Z (zA Z zU))))) Z) hS367 (fun hs=>ih x357 pA0 pc0 p1 x250 (w64 ((wAQ (w64 (p1 + p3))) / 2)) p4 pv4 W363 U360 hs h372 h374) (.inl Z) ?_
          rintro U376 L377 v378 W379 le380 hS381 ⟨rfl,rfl,h382⟩
          have hS383:SW w [B2] U U376 [.row pA0 pc0 3 1 (hH KL.encI x373)] W379:=hS381
          refine eN (sR fL8 Z (oM Z f349 (oM Z f351 (oR Z (zG Z Z Z) (oM Z Z (ifc hm375 ?_ ?_))))))
          ·intro c384 hm385
           refine zD Z Z Z (wT Z c384) Z f351 (zD Z Z Z (wT Z c384) Z f347 (rU Z (wT Z c384) (zG Z Z Z) (oR Z (zY Z (ZJ c384.out) Z) (eN (ifc hm385 ?_ ?_)))))
           ·intro c386 hm387
            refine cT Z c386 (rR (wCK (.fx 5 (.nil) .stop)) rfl (zD rfl rfl rfl rfl rfl (nL (b:=(.slice pA0 x357.length pc0:Value)) (c:=(.slice pA0 x373.length pc0:Value)) (nL (b:=(.slice pA0 p0.length pc0:Value)) (c:=(.slice pA0 x357.length pc0:Value)) f344 (by rw [h366])) (by rw [h382])) (zD rfl rfl rfl rfl rfl f349 (zD rfl rfl rfl rfl rfl f351 (zD rfl rfl rfl rfl rfl f347 (zD rfl rfl rfl rfl rfl f348 ?_))))))
            have h388:=h372.le le380
            refine bnK hm387 fun x389 h390 hm391=>zL 1 Z Z Z Z (zM Z Z zr (zA Z (zA Z (zA Z (zA Z (zA Z zU))))) Z) hS383 (fun hs=>ih x373 pA0 pc0 (w64 ((wAQ (w64 (p1 + p3))) / 2)) (w64 ((w64 ((w64 ((wAQ (w64 (p1 + p3))) / 2)) + p2)) - x250)) p3 p4 pv4 W379 U376 hs h388 h390) (.inl Z) ?_
            rintro U392 L393 v394 W395 le396 hS397 ⟨rfl,rfl,h398⟩
            have hS399:SW w [B2] U U392 [.row pA0 pc0 3 1 (hH KL.encI x389)] W395:=hS397
            refine zV ?_
            have hE:=nA hm391;first | subst r | cases hE
            exact ⟨Z,_,(wCO),U392,_,hS399,Z,Z,((h398.trans h382).trans h366)⟩
           ·intro c386 hm400
            refine cF Z c386 (zn ?_)
            have hE:=nA hm400;first | subst r | cases hE
            exact ⟨Z,_,(wCO),U376,_,hS383,Z,Z,(h382.trans h366)⟩
          ·intro c384 hm401
           refine oF Z c384 (oF Z c384 (oF Z c384 (oR Z (zR Z (zp c384.out) Z) (eN (zZ Z (zn ?_))))))
           have hE:=nA hm401;first | subst r | cases hE
           exact ⟨Z,_,(wCO),U376,_,hS383,Z,Z,(h382.trans h366)⟩
         ·intro c370 hm402
          refine cF Z c370 (kN (sR fL8 Z (oM Z f349 (oM Z f351 (oR Z (zG Z Z Z) (oM Z Z (ifc hm402 ?_ ?_)))))))
          ·intro c403 hm404
           refine zD Z Z Z (wT Z c403) Z f351 (zD Z Z Z (wT Z c403) Z f347 (rU Z (wT Z c403) (zG Z Z Z) (oR Z (zY Z (ZJ c403.out) Z) (eN (ifc hm404 ?_ ?_)))))
           ·intro c405 hm406
            refine cT Z c405 (rR (wCK (.fx 5 (.nil) .stop)) rfl (zD rfl rfl rfl rfl rfl (nL (b:=(.slice pA0 p0.length pc0:Value)) (c:=(.slice pA0 x357.length pc0:Value)) f344 (by rw [h366])) (zD rfl rfl rfl rfl rfl f349 (zD rfl rfl rfl rfl rfl f351 (zD rfl rfl rfl rfl rfl f347 (zD rfl rfl rfl rfl rfl f348 ?_))))))
            have h407:=h356.le le364
            refine bnK hm406 fun x408 h409 hm410=>zL 1 Z Z Z Z (zM Z Z zr (zA Z (zA Z (zA Z (zA Z (zA Z zU))))) Z) hS367 (fun hs=>ih x357 pA0 pc0 (w64 ((wAQ (w64 (p1 + p3))) / 2)) (w64 ((w64 ((w64 ((wAQ (w64 (p1 + p3))) / 2)) + p2)) - x250)) p3 p4 pv4 W363 U360 hs h407 h409) (.inl Z) ?_
            rintro U411 L412 v413 W414 le415 hS416 ⟨rfl,rfl,h417⟩
            have hS418:SW w [B2] U U411 [.row pA0 pc0 3 1 (hH KL.encI x408)] W414:=hS416
            refine zV ?_
            have hE:=nA hm410;first | subst r | cases hE
            exact ⟨Z,_,(wCO),U411,_,hS418,Z,Z,(h417.trans h366)⟩
           ·intro c405 hm419
            refine cF Z c405 (zn ?_)
            have hE:=nA hm419;first | subst r | cases hE
            exact ⟨Z,_,(wCO),U360,_,hS367,Z,Z,h366⟩
          ·intro c403 hm420
           refine oF Z c403 (oF Z c403 (oF Z c403 (oR Z (zR Z (zp c403.out) Z) (eN (zZ Z (zn ?_))))))
           have hE:=nA hm420;first | subst r | cases hE
           exact ⟨Z,_,(wCO),U360,_,hS367,Z,Z,h366⟩
        ·intro c368 hm421
         refine oF Z c368 (oF Z c368 (oF Z c368 (oR Z (zR Z (zp c368.out) Z) (eN (zZ Z (kN (sR fL8 Z (oM Z f349 (oM Z f351 (oR Z (zG Z Z Z) (oM Z Z (ifc hm421 ?_ ?_))))))))))))
         ·intro c422 hm423
          refine zD Z Z Z (wT Z c422) Z f351 (zD Z Z Z (wT Z c422) Z f347 (rU Z (wT Z c422) (zG Z Z Z) (oR Z (zY Z (ZJ c422.out) Z) (eN (ifc hm423 ?_ ?_)))))
          ·intro c424 hm425
           refine cT Z c424 (rR (wCK (.fx 5 (.nil) .stop)) rfl (zD rfl rfl rfl rfl rfl (nL (b:=(.slice pA0 p0.length pc0:Value)) (c:=(.slice pA0 x357.length pc0:Value)) f344 (by rw [h366])) (zD rfl rfl rfl rfl rfl f349 (zD rfl rfl rfl rfl rfl f351 (zD rfl rfl rfl rfl rfl f347 (zD rfl rfl rfl rfl rfl f348 ?_))))))
           have h426:=h356.le le364
           refine bnK hm425 fun x427 h428 hm429=>zL 1 Z Z Z Z (zM Z Z zr (zA Z (zA Z (zA Z (zA Z (zA Z zU))))) Z) hS367 (fun hs=>ih x357 pA0 pc0 (w64 ((wAQ (w64 (p1 + p3))) / 2)) (w64 ((w64 ((w64 ((wAQ (w64 (p1 + p3))) / 2)) + p2)) - x250)) p3 p4 pv4 W363 U360 hs h426 h428) (.inl Z) ?_
           rintro U430 L431 v432 W433 le434 hS435 ⟨rfl,rfl,h436⟩
           have hS437:SW w [B2] U U430 [.row pA0 pc0 3 1 (hH KL.encI x427)] W433:=hS435
           refine zV ?_
           have hE:=nA hm429;first | subst r | cases hE
           exact ⟨Z,_,(wCO),U430,_,hS437,Z,Z,(h436.trans h366)⟩
          ·intro c424 hm438
           refine cF Z c424 (zn ?_)
           have hE:=nA hm438;first | subst r | cases hE
           exact ⟨Z,_,(wCO),U360,_,hS367,Z,Z,h366⟩
         ·intro c422 hm439
          refine oF Z c422 (oF Z c422 (oF Z c422 (oR Z (zR Z (zp c422.out) Z) (eN (zZ Z (zn ?_))))))
          have hE:=nA hm439;first | subst r | cases hE
          exact ⟨Z,_,(wCO),U360,_,hS367,Z,Z,h366⟩
       ·intro c353 hm440
        refine zZ (f352.trans (congrArg nB (nD.2 c353.out))) (kN (zF (sR fL8 Z (oM Z f345 (oM Z f350 (oR Z (zG Z Z Z) (oM Z Z (ifc hm440 ?_ ?_))))))))
        ·intro c441 hm442
         refine zD Z Z Z (wT Z c441) Z f350 (zD Z Z Z (wT Z c441) Z f349 (rU Z (wT Z c441) (zG Z Z Z) (oR Z (zY Z (ZJ c441.out) Z) (eN (ifc hm442 ?_ ?_)))))
         ·intro c443 hm444
          refine cT Z c443 (rR (wCK (.fx 5 (.nil) .stop)) Z (oM Z f344 (oM Z f345 (oM Z f350 (oM Z f349 (oM Z f348 ?_))))))
          have h445:=ha0.le le320
          have h446:=h445.le le342
          refine bnK hm444 fun x447 h448 hm449=>zL 1 Z Z Z Z (zM Z Z zr (zA Z (zA Z (zA Z (zA Z (zA Z zU))))) Z) hS343 (fun hs=>ih p0 pA0 pc0 p1 x250 (w64 ((wAQ (w64 (p1 + p3))) / 2)) p4 pv4 W340 U341 hs h446 h448) (.inl Z) ?_
          rintro U450 L451 v452 W453 le454 hS455 ⟨rfl,rfl,h456⟩
          have hS457:SW w [B2] U U450 [.row pA0 pc0 3 1 (hH KL.encI x447)] W453:=hS455
          refine eN (sR fL8 Z (oM Z f349 (oM Z f351 (oR Z (zG Z Z Z) (oM Z Z (ifc hm449 ?_ ?_))))))
          ·intro c458 hm459
           refine zD Z Z Z (wT Z c458) Z f351 (zD Z Z Z (wT Z c458) Z f347 (rU Z (wT Z c458) (zG Z Z Z) (oR Z (zY Z (ZJ c458.out) Z) (eN (ifc hm459 ?_ ?_)))))
           ·intro c460 hm461
            refine cT Z c460 (rR (wCK (.fx 5 (.nil) .stop)) rfl (zD rfl rfl rfl rfl rfl (nL (b:=(.slice pA0 p0.length pc0:Value)) (c:=(.slice pA0 x447.length pc0:Value)) f344 (by rw [h456])) (zD rfl rfl rfl rfl rfl f349 (zD rfl rfl rfl rfl rfl f351 (zD rfl rfl rfl rfl rfl f347 (zD rfl rfl rfl rfl rfl f348 ?_))))))
            have h462:=h446.le le454
            refine bnK hm461 fun x463 h464 hm465=>zL 1 Z Z Z Z (zM Z Z zr (zA Z (zA Z (zA Z (zA Z (zA Z zU))))) Z) hS457 (fun hs=>ih x447 pA0 pc0 (w64 ((wAQ (w64 (p1 + p3))) / 2)) (w64 ((w64 ((w64 ((wAQ (w64 (p1 + p3))) / 2)) + p2)) - x250)) p3 p4 pv4 W453 U450 hs h462 h464) (.inl Z) ?_
            rintro U466 L467 v468 W469 le470 hS471 ⟨rfl,rfl,h472⟩
            have hS473:SW w [B2] U U466 [.row pA0 pc0 3 1 (hH KL.encI x463)] W469:=hS471
            refine zV ?_
            have hE:=nA hm465;first | subst r | cases hE
            exact ⟨Z,_,(wCO),U466,_,hS473,Z,Z,(h472.trans h456)⟩
           ·intro c460 hm474
            refine cF Z c460 (zn ?_)
            have hE:=nA hm474;first | subst r | cases hE
            exact ⟨Z,_,(wCO),U450,_,hS457,Z,Z,h456⟩
          ·intro c458 hm475
           refine oF Z c458 (oF Z c458 (oF Z c458 (oR Z (zR Z (zp c458.out) Z) (eN (zZ Z (zn ?_))))))
           have hE:=nA hm475;first | subst r | cases hE
           exact ⟨Z,_,(wCO),U450,_,hS457,Z,Z,h456⟩
         ·intro c443 hm476
          refine cF Z c443 (kN (sR fL8 Z (oM Z f349 (oM Z f351 (oR Z (zG Z Z Z) (oM Z Z (ifc hm476 ?_ ?_)))))))
          ·intro c477 hm478
           refine zD Z Z Z (wT Z c477) Z f351 (zD Z Z Z (wT Z c477) Z f347 (rU Z (wT Z c477) (zG Z Z Z) (oR Z (zY Z (ZJ c477.out) Z) (eN (ifc hm478 ?_ ?_)))))
           ·intro c479 hm480
            refine cT Z c479 (rR (wCK (.fx 5 (.nil) .stop)) Z (oM Z f344 (oM Z f349 (oM Z f351 (oM Z f347 (oM Z f348 ?_))))))
            have h481:=ha0.le le320
            have h482:=h481.le le342
            refine bnK hm480 fun x483 h484 hm485=>zL 1 Z Z Z Z (zM Z Z zr (zA Z (zA Z (zA Z (zA Z (zA Z zU))))) Z) hS343 (fun hs=>ih p0 pA0 pc0 (w64 ((wAQ (w64 (p1 + p3))) / 2)) (w64 ((w64 ((w64 ((wAQ (w64 (p1 + p3))) / 2)) + p2)) - x250)) p3 p4 pv4 W340 U341 hs h482 h484) (.inl Z) ?_
            rintro U486 L487 v488 W489 le490 hS491 ⟨rfl,rfl,h492⟩
            have hS493:SW w [B2] U U486 [.row pA0 pc0 3 1 (hH KL.encI x483)] W489:=hS491
            refine zV ?_
            have hE:=nA hm485;first | subst r | cases hE
            exact ⟨Z,_,(wCO),U486,_,hS493,Z,Z,h492⟩
           ·intro c479 hm494
            refine cF Z c479 (zn ?_)
            have hE:=nA hm494;first | subst r | cases hE
            exact ⟨Z,_,(wCO),U341,_,hS343,Z,Z,Z⟩
          ·intro c477 hm495
           refine oF Z c477 (oF Z c477 (oF Z c477 (oR Z (zR Z (zp c477.out) Z) (eN (zZ Z (zn ?_))))))
           have hE:=nA hm495;first | subst r | cases hE
           exact ⟨Z,_,(wCO),U341,_,hS343,Z,Z,Z⟩
        ·intro c441 hm496
         refine oF Z c441 (oF Z c441 (oF Z c441 (oR Z (zR Z (zp c441.out) Z) (eN (zZ Z (kN (sR fL8 Z (oM Z f349 (oM Z f351 (oR Z (zG Z Z Z) (oM Z Z (ifc hm496 ?_ ?_))))))))))))
         ·intro c497 hm498
          refine zD Z Z Z (wT Z c497) Z f351 (zD Z Z Z (wT Z c497) Z f347 (rU Z (wT Z c497) (zG Z Z Z) (oR Z (zY Z (ZJ c497.out) Z) (eN (ifc hm498 ?_ ?_)))))
          ·intro c499 hm500
           refine cT Z c499 (rR (wCK (.fx 5 (.nil) .stop)) Z (oM Z f344 (oM Z f349 (oM Z f351 (oM Z f347 (oM Z f348 ?_))))))
           have h501:=ha0.le le320
           have h502:=h501.le le342
           refine bnK hm500 fun x503 h504 hm505=>zL 1 Z Z Z Z (zM Z Z zr (zA Z (zA Z (zA Z (zA Z (zA Z zU))))) Z) hS343 (fun hs=>ih p0 pA0 pc0 (w64 ((wAQ (w64 (p1 + p3))) / 2)) (w64 ((w64 ((w64 ((wAQ (w64 (p1 + p3))) / 2)) + p2)) - x250)) p3 p4 pv4 W340 U341 hs h502 h504) (.inl Z) ?_
           rintro U506 L507 v508 W509 le510 hS511 ⟨rfl,rfl,h512⟩
           have hS513:SW w [B2] U U506 [.row pA0 pc0 3 1 (hH KL.encI x503)] W509:=hS511
           refine zV ?_
           have hE:=nA hm505;first | subst r | cases hE
           exact ⟨Z,_,(wCO),U506,_,hS513,Z,Z,h512⟩
          ·intro c499 hm514
           refine cF Z c499 (zn ?_)
           have hE:=nA hm514;first | subst r | cases hE
           exact ⟨Z,_,(wCO),U341,_,hS343,Z,Z,Z⟩
         ·intro c497 hm515
          refine oF Z c497 (oF Z c497 (oF Z c497 (oR Z (zR Z (zp c497.out) Z) (eN (zZ Z (zn ?_))))))
          have hE:=nA hm515;first | subst r | cases hE
          exact ⟨Z,_,(wCO),U341,_,hS343,Z,Z,Z⟩
    ·intro c248 hm516
     refine cF Z c248 (sR fL2 Z (oM Z Z (oA Z Z (eN (rR fL2 Z (oM Z Z (oA Z Z (eN (sR fL3 Z (oM Z Z (oR Z (zm Z Z Z) (oA Z Z (eN (bnK hm516 fun x517 hx519 hm520=>?_))))))))))))))
     let B3:Res:=.row pA0 pc0 3 1 (hH KL.encI p0)
     refine CK.cut (fun σ_ w_=>∃ (U_:PHeap),σ_ 0=.slice pA0 p0.length pc0/\σ_ 1=jV p1/\σ_ 2=jV p2/\σ_ 3=jV p3/\σ_ 4=pv4/\σ_ 18=jV (w64 ((wAQ (w64 (p1 + p3))) / 2))/\σ_ 19=jV (w64 ((w64 ((wAQ (w64 (p1 + p3))) / 2)) + p2))/\σ_ 20=jV x517/\PHeap.Le U U_/\SW w [B3] U U_ [B3] w_) ?_ ?_
     ·refine zK (ZR (fun (x527,x528) σ_ w_=>∃ (U_:PHeap),σ_ 0=.slice pA0 p0.length pc0/\σ_ 1=jV p1/\σ_ 2=jV p2/\σ_ 3=jV p3/\σ_ 4=pv4/\σ_ 18=jV (w64 ((wAQ (w64 (p1 + p3))) / 2))/\σ_ 19=jV (w64 ((w64 ((wAQ (w64 (p1 + p3))) / 2)) + p2))/\σ_ 20=jV x527/\σ_ 21=jV x528/\σ_ 22=jV (w64 ((w64 ((w64 ((wAQ (w64 (p1 + p3))) / 2)) + p2)) - 1))/\PHeap.Le U U_/\SW w [B3] U U_ [B3] w_) hx519 ?_ ?_)
      ·exact ⟨U,Z,Z,Z,Z,Z,Z,Z,Z,Z,Z,(zJ _),hS⟩
      ·rintro ⟨x527,x528⟩ xx531 σ529 W530 ⟨U536,f539,f540,f541,f542,f543,f544,f545,f546,f547,f548,le537,hS538⟩ hx532 hb533
       try dsimp only at hx532
       refine zF (sR fL3 Z (oM Z f546 (oM Z f547 (oR Z (zG Z Z Z) (eN ?_)))))
       by_cases c549:x527 < x528
       ·have hm550:=hx532;rw [if_pos c549] at hm550;replace c549:=zE c549
        refine cT Z c549 (kN (zK (sR fL7 rfl (zD rfl rfl rfl rfl rfl f546 (zD rfl rfl rfl rfl rfl f547 (zg rfl rfl rfl rfl (fun _=>zO rfl rfl rfl) (zg rfl rfl rfl rfl (fun _=>Runs.cv64 rfl rfl zx zu rfl rfl) (zg rfl rfl rfl rfl (fun _=>Runs.shr1 rfl rfl rfl) (zg rfl rfl rfl rfl (fun _=>Runs.cvw rfl rfl zu zx rfl rfl) (OKS.ra rfl rfl rfl rfl rfl rfl (eN (zF (ZD ZA [3,3,3,3,3,3,1,3,3,3,1,2,3,3] (wIq (.fx 11 (.fl 12 (.fl 13 (.nil))) .stop)) (by kernel_rfl) ?_)))))))))))))
        have hS551:=hS538.drew
        generalize hw_W552:({ W530 with drawn:=W530.drawn + 1 }:World)=W552 at hS551 ⊢
        refine oM Z f543 (oM Z f539 (oM Z f548 (oM Z Z (oR Z (zm Z Z Z) (bnK hm550 fun _ h553 hm554=>?_)))))
        obtain ⟨b555,hA556⟩:=hS551.rowSome (j:=0) rfl (by rw [wAG (f:=KL.encI) (sz:=1) (fun _=>rfl) p0];have hz:=wAS h553;omega)
        refine oR Z (zl Z Z hA556 Z zB zC (wBE h553) (wBF h553)) ?_
        have hg557:=wAq (xs:=p0) (wAS h553)
        refine ZC rfl rfl rfl rfl (hS551.ldR (j:=0) rfl hA556 rfl rfl zI (wAL (sz:=1) (fun _=>rfl) _ _ 0 _ hg557 (by first | omega | rfl | simp) rfl)) rfl (zD rfl rfl rfl rfl rfl f539 (zD rfl rfl rfl rfl rfl rfl (bnK hm554 fun _ h558 hm559=>zg rfl rfl rfl rfl (fun _=>zl rfl rfl hA556 rfl zB zC (wBE h558) (wBF h558)) ?_)))
        have hg560:=wAq (xs:=p0) (wAS h558)
        refine ZC rfl rfl rfl rfl (hS551.ldR (j:=0) rfl hA556 rfl rfl zI (wAL (sz:=1) (fun _=>rfl) _ _ 0 _ hg560 (by first | omega | rfl | simp) rfl)) rfl (bnK hm559 fun x561 h562 hm563=>?_)
        have h570:=ha0.le le537
        refine OKS.callV (a:=((gd p0 (w64 ((w64 ((w64 ((w64 ((wAQ (w64 (p1 + p3))) / 2)) + p2)) - 1)) - (w64 ((wAQ (w64 (x527 + x528))) / 2)))).toNat),(gd p0 (w64 ((wAQ (w64 (x527 + x528))) / 2)).toNat))) Z Z Z Z Z Z (zA Z (zA Z zU)) hS551 h570 Z h562 ?_
        rintro U564 L565 v566 W567 le568 hS569 ⟨rfl,rfl⟩
        have hS571:SW w [B3] U U564 [B3] W567:=hS569
        refine oR Z (zG Z Z Z) (oR Z (Runs.notP Z Z) (eN (ifc hm563 ?_ ?_)))
        ·intro c572 hm573
         refine zZ (zp (fun h=>h c572.out)) (rR fL2 Z (oM Z Z (oA Z Z (zV (zW ?_)))))
         obtain rfl:=nA hm573
         exact zH ⟨Z,_,Z,⟨U564,f539,f540,f541,f542,f543,f544,f545,f546,Z,f548,(le537.trans le568),hS571⟩⟩
        ·intro c572 hm576
         refine cT Z c572 (rR fL3 Z (oM Z Z (oR Z (zO Z Z Z) (oA Z Z (zV (zW ?_))))))
         obtain rfl:=nA hm576
         exact zH ⟨Z,_,Z,⟨U564,f539,f540,f541,f542,f543,f544,f545,Z,f547,f548,(le537.trans le568),hS571⟩⟩
       ·have hm579:=hx532;rw [if_neg c549] at hm579;replace c549:=zE c549
        refine cF Z c549 (zo (zN ?_))
        have q:=wAl hm579
        obtain ⟨v580,hm581,e582⟩:=q
        obtain rfl:=hb533 v580 e582
        refine zN (zj ?_)
        cases hm581
        exact zH ⟨Z,⟨U536,f539,f540,f541,f542,f543,f544,f545,f546,le537,hS538⟩⟩
     ·rintro σ584 W585 ⟨U586,f589,f590,f591,f592,f593,f594,f595,f596,le587,hS588⟩
      refine sR fL4 Z (oM Z f595 (oM Z f596 (oR Z (zm Z Z Z) (oA Z Z (eN (zF (bnK hm520 fun b597 hx599 hm600=>CK.cut (fun σ_ w_=>∃ (U_:PHeap),σ_ 0=.slice pA0 p0.length pc0/\σ_ 1=jV p1/\σ_ 2=jV p2/\σ_ 3=jV p3/\σ_ 4=pv4/\σ_ 18=jV (w64 ((wAQ (w64 (p1 + p3))) / 2))/\σ_ 20=jV x517/\σ_ 24=jV (w64 ((w64 ((w64 ((wAQ (w64 (p1 + p3))) / 2)) + p2)) - x517))/\σ_ 185=.bool b597/\PHeap.Le U586 U_/\SW w [B3] U U_ [B3] w_) ?_ ?_)))))))
      ·refine rR fL8 Z (oM Z f596 (oM Z f591 (oR Z (zG Z Z Z) (oM Z Z ?_))))
       by_cases c601:x517 < p2
       ·have hm602:=hx599;rw [if_pos c601] at hm602;replace c601:=zE c601
        refine zD Z Z Z (wT Z c601) Z f591 (zD Z Z Z (wT Z c601) Z Z (rU Z (wT Z c601) (zG Z Z Z) (oR Z (zY Z (ZJ c601.out) Z) (zV ?_))))
        obtain rfl:=nA hm602
        exact zH ⟨Z,⟨U586,f589,f590,f591,f592,f593,f594,f596,Z,Z,(zJ _),hS588⟩⟩
       ·have hm604:=hx599;rw [if_neg c601] at hm604;replace c601:=zE c601
        refine oF Z c601 (oF Z c601 (oF Z c601 (oR Z (zR Z (zp c601.out) Z) (zV ?_))))
        cases hm604
        exact zH ⟨Z,⟨U586,f589,f590,f591,f592,f593,f594,f596,Z,Z,(zJ _),hS588⟩⟩
      ·rintro σ606 W607 ⟨U608,f611,f612,f613,f614,f615,f616,f617,f618,f619,le609,hS610⟩
       refine ifc hm600 ?_ ?_
       ·intro c620 hm621
        refine ZE (f619.trans (congrArg nB c620.out)) (rR (wCK (.fx 5 (.nil) .stop)) Z (oM Z f611 (oM Z f617 (oM Z f613 (oM Z f618 (oM Z f615 ?_))))))
        have h622:=ha0.le le587
        have h623:=h622.le le609
        refine bnK hm621 fun x624 h625 hm626=>zL 1 Z Z Z Z (zM Z Z Tryz.call168 (zA Z (zA Z (zA Z (zA Z (zA Z zU))))) Z) hS610 (fun hs=>wBW p0 pA0 pc0 x517 p2 (w64 ((w64 ((w64 ((wAQ (w64 (p1 + p3))) / 2)) + p2)) - x517)) p4 pv4 W607 U608 hs h623 h625) (.inl Z) ?_
        rintro U627 L628 v629 W630 le631 hS632 ⟨rfl,rfl,h633⟩
        have hS634:SW w [B3] U U627 [.row pA0 pc0 3 1 (hH KL.encI x624)] W630:=hS632
        refine eN (zF (sR fL8 Z (oM Z f612 (oM Z f617 (oR Z (zG Z Z Z) (oM Z Z (ifc hm626 ?_ ?_)))))))
        ·intro c635 hm636
         refine zD Z Z Z (wT Z c635) Z f617 (zD Z Z Z (wT Z c635) Z f616 (rU Z (wT Z c635) (zG Z Z Z) (oR Z (zY Z (ZJ c635.out) Z) (eN (ifc hm636 ?_ ?_)))))
         ·intro c637 hm638
          refine cT Z c637 (rR (wCK (.fx 5 (.nil) .stop)) rfl (zD rfl rfl rfl rfl rfl (nL (b:=(.slice pA0 p0.length pc0:Value)) (c:=(.slice pA0 x624.length pc0:Value)) f611 (by rw [h633])) (zD rfl rfl rfl rfl rfl f612 (zD rfl rfl rfl rfl rfl f617 (zD rfl rfl rfl rfl rfl f616 (zD rfl rfl rfl rfl rfl f615 ?_))))))
          have h639:=h623.le le631
          refine bnK hm638 fun x640 h641 hm642=>zL 1 Z Z Z Z (zM Z Z zr (zA Z (zA Z (zA Z (zA Z (zA Z zU))))) Z) hS634 (fun hs=>ih x624 pA0 pc0 p1 x517 (w64 ((wAQ (w64 (p1 + p3))) / 2)) p4 pv4 W630 U627 hs h639 h641) (.inl Z) ?_
          rintro U643 L644 v645 W646 le647 hS648 ⟨rfl,rfl,h649⟩
          have hS650:SW w [B3] U U643 [.row pA0 pc0 3 1 (hH KL.encI x640)] W646:=hS648
          refine eN (sR fL8 Z (oM Z f616 (oM Z f618 (oR Z (zG Z Z Z) (oM Z Z (ifc hm642 ?_ ?_))))))
          ·intro c651 hm652
           refine zD Z Z Z (wT Z c651) Z f618 (zD Z Z Z (wT Z c651) Z f614 (rU Z (wT Z c651) (zG Z Z Z) (oR Z (zY Z (ZJ c651.out) Z) (eN (ifc hm652 ?_ ?_)))))
           ·intro c653 hm654
            refine cT Z c653 (rR (wCK (.fx 5 (.nil) .stop)) rfl (zD rfl rfl rfl rfl rfl (nL (b:=(.slice pA0 x624.length pc0:Value)) (c:=(.slice pA0 x640.length pc0:Value)) (nL (b:=(.slice pA0 p0.length pc0:Value)) (c:=(.slice pA0 x624.length pc0:Value)) f611 (by rw [h633])) (by rw [h649])) (zD rfl rfl rfl rfl rfl f616 (zD rfl rfl rfl rfl rfl f618 (zD rfl rfl rfl rfl rfl f614 (zD rfl rfl rfl rfl rfl f615 ?_))))))
            have h655:=h639.le le647
            refine bnK hm654 fun x656 h657 hm658=>zL 1 Z Z Z Z (zM Z Z zr (zA Z (zA Z (zA Z (zA Z (zA Z zU))))) Z) hS650 (fun hs=>ih x640 pA0 pc0 (w64 ((wAQ (w64 (p1 + p3))) / 2)) (w64 ((w64 ((w64 ((wAQ (w64 (p1 + p3))) / 2)) + p2)) - x517)) p3 p4 pv4 W646 U643 hs h655 h657) (.inl Z) ?_
            rintro U659 L660 v661 W662 le663 hS664 ⟨rfl,rfl,h665⟩
            have hS666:SW w [B3] U U659 [.row pA0 pc0 3 1 (hH KL.encI x656)] W662:=hS664
            refine zV ?_
            have hE:=nA hm658;first | subst r | cases hE
            exact ⟨Z,_,(wCO),U659,_,hS666,Z,Z,((h665.trans h649).trans h633)⟩
           ·intro c653 hm667
            refine cF Z c653 (zn ?_)
            have hE:=nA hm667;first | subst r | cases hE
            exact ⟨Z,_,(wCO),U643,_,hS650,Z,Z,(h649.trans h633)⟩
          ·intro c651 hm668
           refine oF Z c651 (oF Z c651 (oF Z c651 (oR Z (zR Z (zp c651.out) Z) (eN (zZ Z (zn ?_))))))
           have hE:=nA hm668;first | subst r | cases hE
           exact ⟨Z,_,(wCO),U643,_,hS650,Z,Z,(h649.trans h633)⟩
         ·intro c637 hm669
          refine cF Z c637 (kN (sR fL8 Z (oM Z f616 (oM Z f618 (oR Z (zG Z Z Z) (oM Z Z (ifc hm669 ?_ ?_)))))))
          ·intro c670 hm671
           refine zD Z Z Z (wT Z c670) Z f618 (zD Z Z Z (wT Z c670) Z f614 (rU Z (wT Z c670) (zG Z Z Z) (oR Z (zY Z (ZJ c670.out) Z) (eN (ifc hm671 ?_ ?_)))))
           ·intro c672 hm673
            refine cT Z c672 (rR (wCK (.fx 5 (.nil) .stop)) rfl (zD rfl rfl rfl rfl rfl (nL (b:=(.slice pA0 p0.length pc0:Value)) (c:=(.slice pA0 x624.length pc0:Value)) f611 (by rw [h633])) (zD rfl rfl rfl rfl rfl f616 (zD rfl rfl rfl rfl rfl f618 (zD rfl rfl rfl rfl rfl f614 (zD rfl rfl rfl rfl rfl f615 ?_))))))
            have h674:=h623.le le631
            refine bnK hm673 fun x675 h676 hm677=>zL 1 Z Z Z Z (zM Z Z zr (zA Z (zA Z (zA Z (zA Z (zA Z zU))))) Z) hS634 (fun hs=>ih x624 pA0 pc0 (w64 ((wAQ (w64 (p1 + p3))) / 2)) (w64 ((w64 ((w64 ((wAQ (w64 (p1 + p3))) / 2)) + p2)) - x517)) p3 p4 pv4 W630 U627 hs h674 h676) (.inl Z) ?_
            rintro U678 L679 v680 W681 le682 hS683 ⟨rfl,rfl,h684⟩
            have hS685:SW w [B3] U U678 [.row pA0 pc0 3 1 (hH KL.encI x675)] W681:=hS683
            refine zV ?_
            have hE:=nA hm677;first | subst r | cases hE
            exact ⟨Z,_,(wCO),U678,_,hS685,Z,Z,(h684.trans h633)⟩
           ·intro c672 hm686
            refine cF Z c672 (zn ?_)
            have hE:=nA hm686;first | subst r | cases hE
            exact ⟨Z,_,(wCO),U627,_,hS634,Z,Z,h633⟩
          ·intro c670 hm687
           refine oF Z c670 (oF Z c670 (oF Z c670 (oR Z (zR Z (zp c670.out) Z) (eN (zZ Z (zn ?_))))))
           have hE:=nA hm687;first | subst r | cases hE
           exact ⟨Z,_,(wCO),U627,_,hS634,Z,Z,h633⟩
        ·intro c635 hm688
         refine oF Z c635 (oF Z c635 (oF Z c635 (oR Z (zR Z (zp c635.out) Z) (eN (zZ Z (kN (sR fL8 Z (oM Z f616 (oM Z f618 (oR Z (zG Z Z Z) (oM Z Z (ifc hm688 ?_ ?_))))))))))))
         ·intro c689 hm690
          refine zD Z Z Z (wT Z c689) Z f618 (zD Z Z Z (wT Z c689) Z f614 (rU Z (wT Z c689) (zG Z Z Z) (oR Z (zY Z (ZJ c689.out) Z) (eN (ifc hm690 ?_ ?_)))))
          ·intro c691 hm692
           refine cT Z c691 (rR (wCK (.fx 5 (.nil) .stop)) rfl (zD rfl rfl rfl rfl rfl (nL (b:=(.slice pA0 p0.length pc0:Value)) (c:=(.slice pA0 x624.length pc0:Value)) f611 (by rw [h633])) (zD rfl rfl rfl rfl rfl f616 (zD rfl rfl rfl rfl rfl f618 (zD rfl rfl rfl rfl rfl f614 (zD rfl rfl rfl rfl rfl f615 ?_))))))
           have h693:=h623.le le631
           refine bnK hm692 fun x694 h695 hm696=>zL 1 Z Z Z Z (zM Z Z zr (zA Z (zA Z (zA Z (zA Z (zA Z zU))))) Z) hS634 (fun hs=>ih x624 pA0 pc0 (w64 ((wAQ (w64 (p1 + p3))) / 2)) (w64 ((w64 ((w64 ((wAQ (w64 (p1 + p3))) / 2)) + p2)) - x517)) p3 p4 pv4 W630 U627 hs h693 h695) (.inl Z) ?_
           rintro U697 L698 v699 W700 le701 hS702 ⟨rfl,rfl,h703⟩
           have hS704:SW w [B3] U U697 [.row pA0 pc0 3 1 (hH KL.encI x694)] W700:=hS702
           refine zV ?_
           have hE:=nA hm696;first | subst r | cases hE
           exact ⟨Z,_,(wCO),U697,_,hS704,Z,Z,(h703.trans h633)⟩
          ·intro c691 hm705
           refine cF Z c691 (zn ?_)
           have hE:=nA hm705;first | subst r | cases hE
           exact ⟨Z,_,(wCO),U627,_,hS634,Z,Z,h633⟩
         ·intro c689 hm706
          refine oF Z c689 (oF Z c689 (oF Z c689 (oR Z (zR Z (zp c689.out) Z) (eN (zZ Z (zn ?_))))))
          have hE:=nA hm706;first | subst r | cases hE
          exact ⟨Z,_,(wCO),U627,_,hS634,Z,Z,h633⟩
       ·intro c620 hm707
        refine zZ (f619.trans (congrArg nB (nD.2 c620.out))) (kN (zF (sR fL8 Z (oM Z f612 (oM Z f617 (oR Z (zG Z Z Z) (oM Z Z (ifc hm707 ?_ ?_))))))))
        ·intro c708 hm709
         refine zD Z Z Z (wT Z c708) Z f617 (zD Z Z Z (wT Z c708) Z f616 (rU Z (wT Z c708) (zG Z Z Z) (oR Z (zY Z (ZJ c708.out) Z) (eN (ifc hm709 ?_ ?_)))))
         ·intro c710 hm711
          refine cT Z c710 (rR (wCK (.fx 5 (.nil) .stop)) Z (oM Z f611 (oM Z f612 (oM Z f617 (oM Z f616 (oM Z f615 ?_))))))
          have h712:=ha0.le le587
          have h713:=h712.le le609
          refine bnK hm711 fun x714 h715 hm716=>zL 1 Z Z Z Z (zM Z Z zr (zA Z (zA Z (zA Z (zA Z (zA Z zU))))) Z) hS610 (fun hs=>ih p0 pA0 pc0 p1 x517 (w64 ((wAQ (w64 (p1 + p3))) / 2)) p4 pv4 W607 U608 hs h713 h715) (.inl Z) ?_
          rintro U717 L718 v719 W720 le721 hS722 ⟨rfl,rfl,h723⟩
          have hS724:SW w [B3] U U717 [.row pA0 pc0 3 1 (hH KL.encI x714)] W720:=hS722
          refine eN (sR fL8 Z (oM Z f616 (oM Z f618 (oR Z (zG Z Z Z) (oM Z Z (ifc hm716 ?_ ?_))))))
          ·intro c725 hm726
           refine zD Z Z Z (wT Z c725) Z f618 (zD Z Z Z (wT Z c725) Z f614 (rU Z (wT Z c725) (zG Z Z Z) (oR Z (zY Z (ZJ c725.out) Z) (eN (ifc hm726 ?_ ?_)))))
           ·intro c727 hm728
            refine cT Z c727 (rR (wCK (.fx 5 (.nil) .stop)) rfl (zD rfl rfl rfl rfl rfl (nL (b:=(.slice pA0 p0.length pc0:Value)) (c:=(.slice pA0 x714.length pc0:Value)) f611 (by rw [h723])) (zD rfl rfl rfl rfl rfl f616 (zD rfl rfl rfl rfl rfl f618 (zD rfl rfl rfl rfl rfl f614 (zD rfl rfl rfl rfl rfl f615 ?_))))))
            have h729:=h713.le le721
            refine bnK hm728 fun x730 h731 hm732=>zL 1 Z Z Z Z (zM Z Z zr (zA Z (zA Z (zA Z (zA Z (zA Z zU))))) Z) hS724 (fun hs=>ih x714 pA0 pc0 (w64 ((wAQ (w64 (p1 + p3))) / 2)) (w64 ((w64 ((w64 ((wAQ (w64 (p1 + p3))) / 2)) + p2)) - x517)) p3 p4 pv4 W720 U717 hs h729 h731) (.inl Z) ?_
            rintro U733 L734 v735 W736 le737 hS738 ⟨rfl,rfl,h739⟩
            have hS740:SW w [B3] U U733 [.row pA0 pc0 3 1 (hH KL.encI x730)] W736:=hS738
            refine zV ?_
            have hE:=nA hm732;first | subst r | cases hE
            exact ⟨Z,_,(wCO),U733,_,hS740,Z,Z,(h739.trans h723)⟩
           ·intro c727 hm741
            refine cF Z c727 (zn ?_)
            have hE:=nA hm741;first | subst r | cases hE
            exact ⟨Z,_,(wCO),U717,_,hS724,Z,Z,h723⟩
          ·intro c725 hm742
           refine oF Z c725 (oF Z c725 (oF Z c725 (oR Z (zR Z (zp c725.out) Z) (eN (zZ Z (zn ?_))))))
           have hE:=nA hm742;first | subst r | cases hE
           exact ⟨Z,_,(wCO),U717,_,hS724,Z,Z,h723⟩
         ·intro c710 hm743
          refine cF Z c710 (kN (sR fL8 Z (oM Z f616 (oM Z f618 (oR Z (zG Z Z Z) (oM Z Z (ifc hm743 ?_ ?_)))))))
          ·intro c744 hm745
           refine zD Z Z Z (wT Z c744) Z f618 (zD Z Z Z (wT Z c744) Z f614 (rU Z (wT Z c744) (zG Z Z Z) (oR Z (zY Z (ZJ c744.out) Z) (eN (ifc hm745 ?_ ?_)))))
           ·intro c746 hm747
            refine cT Z c746 (rR (wCK (.fx 5 (.nil) .stop)) Z (oM Z f611 (oM Z f616 (oM Z f618 (oM Z f614 (oM Z f615 ?_))))))
            have h748:=ha0.le le587
            have h749:=h748.le le609
            refine bnK hm747 fun x750 h751 hm752=>zL 1 Z Z Z Z (zM Z Z zr (zA Z (zA Z (zA Z (zA Z (zA Z zU))))) Z) hS610 (fun hs=>ih p0 pA0 pc0 (w64 ((wAQ (w64 (p1 + p3))) / 2)) (w64 ((w64 ((w64 ((wAQ (w64 (p1 + p3))) / 2)) + p2)) - x517)) p3 p4 pv4 W607 U608 hs h749 h751) (.inl Z) ?_
            rintro U753 L754 v755 W756 le757 hS758 ⟨rfl,rfl,h759⟩
            have hS760:SW w [B3] U U753 [.row pA0 pc0 3 1 (hH KL.encI x750)] W756:=hS758
            refine zV ?_
            have hE:=nA hm752;first | subst r | cases hE
            exact ⟨Z,_,(wCO),U753,_,hS760,Z,Z,h759⟩
           ·intro c746 hm761
            refine cF Z c746 (zn ?_)
            have hE:=nA hm761;first | subst r | cases hE
            exact ⟨Z,_,(wCO),U608,_,hS610,Z,Z,Z⟩
          ·intro c744 hm762
           refine oF Z c744 (oF Z c744 (oF Z c744 (oR Z (zR Z (zp c744.out) Z) (eN (zZ Z (zn ?_))))))
           have hE:=nA hm762;first | subst r | cases hE
           exact ⟨Z,_,(wCO),U608,_,hS610,Z,Z,Z⟩
        ·intro c708 hm763
         refine oF Z c708 (oF Z c708 (oF Z c708 (oR Z (zR Z (zp c708.out) Z) (eN (zZ Z (kN (sR fL8 Z (oM Z f616 (oM Z f618 (oR Z (zG Z Z Z) (oM Z Z (ifc hm763 ?_ ?_))))))))))))
         ·intro c764 hm765
          refine zD Z Z Z (wT Z c764) Z f618 (zD Z Z Z (wT Z c764) Z f614 (rU Z (wT Z c764) (zG Z Z Z) (oR Z (zY Z (ZJ c764.out) Z) (eN (ifc hm765 ?_ ?_)))))
          ·intro c766 hm767
           refine cT Z c766 (rR (wCK (.fx 5 (.nil) .stop)) Z (oM Z f611 (oM Z f616 (oM Z f618 (oM Z f614 (oM Z f615 ?_))))))
           have h768:=ha0.le le587
           have h769:=h768.le le609
           refine bnK hm767 fun x770 h771 hm772=>zL 1 Z Z Z Z (zM Z Z zr (zA Z (zA Z (zA Z (zA Z (zA Z zU))))) Z) hS610 (fun hs=>ih p0 pA0 pc0 (w64 ((wAQ (w64 (p1 + p3))) / 2)) (w64 ((w64 ((w64 ((wAQ (w64 (p1 + p3))) / 2)) + p2)) - x517)) p3 p4 pv4 W607 U608 hs h769 h771) (.inl Z) ?_
           rintro U773 L774 v775 W776 le777 hS778 ⟨rfl,rfl,h779⟩
           have hS780:SW w [B3] U U773 [.row pA0 pc0 3 1 (hH KL.encI x770)] W776:=hS778
           refine zV ?_
           have hE:=nA hm772;first | subst r | cases hE
           exact ⟨Z,_,(wCO),U773,_,hS780,Z,Z,h779⟩
          ·intro c766 hm781
           refine cF Z c766 (zn ?_)
           have hE:=nA hm781;first | subst r | cases hE
           exact ⟨Z,_,(wCO),U608,_,hS610,Z,Z,Z⟩
         ·intro c764 hm782
          refine oF Z c764 (oF Z c764 (oF Z c764 (oR Z (zR Z (zp c764.out) Z) (eN (zZ Z (zn ?_))))))
          have hE:=nA hm782;first | subst r | cases hE
          exact ⟨Z,_,(wCO),U608,_,hS610,Z,Z,Z⟩
end Go.Proofs.YtghaibkggdecnaaGreat
namespace Go.Proofs.YtghaibkggdecnaaGreat
open Go.KL
set_option maxHeartbeats 4000000
theorem wCJ (p0:List Int) (pA0:Option Addr) (pc0:Nat) (p1:Int) (p2:((Int × Int)->Option Int)) (pv2:Value) (w:World) (U:PHeap) (hS:St0 w U [.row pA0 pc0 3 1 (hH KL.encI p0)]) (ha0:FnOK Tryz.prog U pv2 wNd wNe p2) {r:(List Int)} (hm:wAn p0 p1 p2=some r):Gv Tryz.prog 127 [.slice pA0 p0.length pc0,jV p1,pv2] w (wDR w [.row pA0 pc0 3 1 (hH KL.encI p0)] U (fun U_ L_ v=>v=.tuple #[]/\L_=[.row pA0 pc0 3 1 (hH KL.encI r)]/\r.length=p0.length)):=by
 unfold wAn at hm
 refine Gv.of Tryz.func127 Z Tryz.ntmps127 Tryz.results127 Z (sR fL1 Z (oA Z Z (eN (sR fL3 Z (oM Z Z (oA Z Z (oA Z Z (eN ?_))))))))
 have q:=bnd hm
 obtain ⟨⟨l2,x3⟩,hx5,hm6⟩:=q
 try dsimp only at hm6
 let B0:Res:=.row pA0 pc0 3 1 (hH KL.encI p0)
 refine CK.cut (fun σ_ w_=>∃ (U_:PHeap),σ_ 0=.slice pA0 l2.length pc0/\σ_ 1=jV p1/\σ_ 2=pv2/\σ_ 6=jV 20/\σ_ 7=jV x3/\PHeap.Le U U_/\SW w [B0] U U_ [.row pA0 pc0 3 1 (hH KL.encI l2)] w_/\l2.length=p0.length) ?_ ?_
 ·refine zK (ZR (fun (l16,x17,x18) σ_ w_=>∃ (U_:PHeap),σ_ 0=.slice pA0 l16.length pc0/\σ_ 1=jV p1/\σ_ 2=pv2/\σ_ 6=jV 20/\σ_ 7=jV x17/\σ_ 8=jV x18/\PHeap.Le U U_/\SW w [B0] U U_ [.row pA0 pc0 3 1 (hH KL.encI l16)] w_/\l16.length=p0.length) hx5 ?_ ?_)
  ·exact ⟨U,Z,Z,Z,Z,Z,Z,(zJ _),hS,Z⟩
  ·rintro ⟨l16,x17,x18⟩ xx21 σ19 W20 ⟨U26,f29,f30,f31,f32,f33,f34,le27,hS28,h35⟩ hx22 hb23
   try dsimp only at hx22
   refine zF (sR fL3 Z (oM Z f34 (oM Z f30 (oR Z (Runs.leq Z Z Z) (eN ?_)))))
   by_cases c36:x18 <= p1
   ·have hm37:=hx22;rw [if_pos c36] at hm37;replace c36:=zE c36
    refine cT Z c36 (kN (zK (sR (wNl (.fx 4 (.nil) .stop)) Z (oM Z f29 (oM Z f33 (oM Z f34 (oM Z f31 ?_)))))))
    have h38:=ha0.le le27
    refine bnK hm37 fun x39 h40 hm41=>zL 1 Z Z Z Z (zM Z Z Tryz.call152 (zA Z (zA Z (zA Z (zA Z zU)))) Z) hS28 (fun hs=>wBC l16 pA0 pc0 x17 x18 p2 pv2 W20 U26 hs h38 h40) (.inl Z) ?_
    rintro U42 L43 v44 W45 le46 hS47 ⟨rfl,rfl,h48⟩
    have hS49:SW w [B0] U U42 [.row pA0 pc0 3 1 (hH KL.encI x39)] W45:=hS47
    refine eN (sR fL2 Z (oM Z f34 (oA Z Z (eN (rR fL4 Z (oM Z f34 (oM Z f32 (oR Z (zO Z Z Z) (oA Z Z (zV (zW ?_)))))))))))
    obtain rfl:=nA hm41
    exact zH ⟨rfl,_,rfl,⟨U42,(nL (b:=(.slice pA0 l16.length pc0:Value)) (c:=(.slice pA0 x39.length pc0:Value)) f29 (by rw [h48])),f30,f31,f32,rfl,rfl,(le27.trans le46),hS49,(h48.trans h35)⟩⟩
   ·have hm53:=hx22;rw [if_neg c36] at hm53;replace c36:=zE c36
    refine cF Z c36 (zo (zN ?_))
    have q:=wAl hm53
    obtain ⟨v54,hm55,e56⟩:=q
    obtain rfl:=hb23 v54 e56
    refine zN (zj ?_)
    cases hm55
    exact zH ⟨Z,⟨U26,f29,f30,f31,f32,f33,le27,hS28,h35⟩⟩
 ·rintro σ59 W60 ⟨U61,f64,f65,f66,f67,f68,le62,hS63,h69⟩
  refine sR (wNl (.fx 4 (.nil) .stop)) Z (oM Z f64 (oM Z f68 (oM Z f65 (oM Z f66 ?_))))
  have h70:=ha0.le le62
  refine bnK hm6 fun x71 h72 hm73=>zL 1 Z Z Z Z (zM Z Z Tryz.call152 (zA Z (zA Z (zA Z (zA Z zU)))) Z) hS63 (fun hs=>wBC l2 pA0 pc0 x3 p1 p2 pv2 W60 U61 hs h70 h72) (.inl Z) ?_
  rintro U74 L75 v76 W77 le78 hS79 ⟨rfl,rfl,h80⟩
  have hS81:SW w [B0] U U74 [.row pA0 pc0 3 1 (hH KL.encI x71)] W77:=hS79
  refine eN (zK (ZR (fun (l88,x89) σ_ w_=>∃ (U_:PHeap),σ_ 0=.slice pA0 l88.length pc0/\σ_ 1=jV p1/\σ_ 2=pv2/\σ_ 6=jV x89/\PHeap.Le U74 U_/\SW w [B0] U U_ [.row pA0 pc0 3 1 (hH KL.encI l88)] w_/\l88.length=p0.length) hm73 ?_ ?_))
  ·exact ⟨U74,(nL (b:=(.slice pA0 l2.length pc0:Value)) (c:=(.slice pA0 x71.length pc0:Value)) f64 (by rw [h80])),f65,f66,f67,(zJ _),hS81,(h80.trans h69)⟩
  ·rintro ⟨l88,x89⟩ xx92 σ90 W91 ⟨U97,f100,f101,f102,f103,le98,hS99,h104⟩ hx93 hb94
   try dsimp only at hx93
   refine zF (sR fL3 Z (oM Z f103 (oM Z f101 (oR Z (zG Z Z Z) (eN ?_)))))
   by_cases c105:x89 < p1
   ·have hm106:=hx93;rw [if_pos c105] at hm106;replace c105:=zE c105
    refine cT Z c105 (kN (zK (sR fL4 Z (oM Z f103 (oR Z (Runs.mulw Z Z Z) (oA Z Z (oA Z Z (eN ?_))))))))
    have q:=bnd hm106
    obtain ⟨⟨l107,x108⟩,hx110,hm111⟩:=q
    try dsimp only at hm111
    refine CK.cut (fun σ_ w_=>∃ (U_:PHeap),σ_ 0=.slice pA0 l107.length pc0/\σ_ 1=jV p1/\σ_ 2=pv2/\σ_ 6=jV x89/\σ_ 7=jV x108/\PHeap.Le U97 U_/\SW w [B0] U U_ [.row pA0 pc0 3 1 (hH KL.encI l107)] w_/\l107.length=p0.length) ?_ ?_
    ·refine zK (ZR (fun (l121,x122,x123) σ_ w_=>∃ (U_:PHeap),σ_ 0=.slice pA0 l121.length pc0/\σ_ 1=jV p1/\σ_ 2=pv2/\σ_ 6=jV x89/\σ_ 7=jV x122/\σ_ 8=jV x123/\PHeap.Le U97 U_/\SW w [B0] U U_ [.row pA0 pc0 3 1 (hH KL.encI l121)] w_/\l121.length=p0.length) hx110 ?_ ?_)
     ·exact ⟨U97,f100,f101,f102,f103,Z,Z,(zJ _),hS99,h104⟩
     ·rintro ⟨l121,x122,x123⟩ xx126 σ124 W125 ⟨U131,f134,f135,f136,f137,f138,f139,le132,hS133,h140⟩ hx127 hb128
      try dsimp only at hx127
      refine zF (sR fL3 Z (oM Z f139 (oM Z f135 (oR Z (Runs.leq Z Z Z) (eN ?_)))))
      by_cases c141:x123 <= p1
      ·have hm142:=hx127;rw [if_pos c141] at hm142;replace c141:=zE c141
       refine cT Z c141 (kN (zK (sR (wNn (.fx 7 (.nil) .stop)) Z (oM Z f134 (oM Z f138 (oM Z f138 (oM Z f137 (oR Z (zO Z Z Z) (oM Z f139 (oM Z f136 ?_))))))))))
       have h143:=h70.le le78
       have h144:=h143.le le98
       have h145:=h144.le le132
       refine bnK hm142 fun x146 h147 hm148=>zL 1 Z Z Z Z (zM Z Z zr (zA Z (zA Z (zA Z (zA Z (zA Z zU))))) Z) hS133 (fun hs=>wBR 1000 l121 pA0 pc0 x122 (w64 (x122 + x89)) x123 p2 pv2 W125 U131 hs h145 h147) (.inl Z) ?_
       rintro U149 L150 v151 W152 le153 hS154 ⟨rfl,rfl,h155⟩
       have hS156:SW w [B0] U U149 [.row pA0 pc0 3 1 (hH KL.encI x146)] W152:=hS154
       refine eN (sR fL2 Z (oM Z f139 (oA Z Z (eN (rR fL5 Z (oM Z f139 (oM Z f137 (oR Z (Runs.mulw Z Z Z) (oR Z (zO Z Z Z) (oA Z Z (zV (zW ?_))))))))))))
       obtain rfl:=nA hm148
       exact zH ⟨rfl,_,rfl,⟨U149,(nL (b:=(.slice pA0 l121.length pc0:Value)) (c:=(.slice pA0 x146.length pc0:Value)) f134 (by rw [h155])),f135,f136,f137,rfl,rfl,(le132.trans le153),hS156,(h155.trans h140)⟩⟩
      ·have hm160:=hx127;rw [if_neg c141] at hm160;replace c141:=zE c141
       refine cF Z c141 (zo (zN ?_))
       have q:=wAl hm160
       obtain ⟨v161,hm162,e163⟩:=q
       obtain rfl:=hb128 v161 e163
       refine zN (zj ?_)
       cases hm162
       exact zH ⟨Z,⟨U131,f134,f135,f136,f137,f138,le132,hS133,h140⟩⟩
    ·rintro σ166 W167 ⟨U168,f171,f172,f173,f174,f175,le169,hS170,h176⟩
     refine zF (sR fL4 Z (oM Z f175 (oM Z f174 (oR Z (zO Z Z Z) (oA Z Z (eN (sR fL3 Z (oM Z Z (oM Z f172 (oR Z (zG Z Z Z) (eN (ifc hm111 ?_ ?_))))))))))))
     ·intro c177 hm178
      refine cT Z c177 (rR (wCK (.fx 5 (.nil) .stop)) Z (oM Z f171 (oM Z f175 (oM Z Z (oM Z f172 (oM Z f173 ?_))))))
      have h179:=h70.le le78
      have h180:=h179.le le98
      have h181:=h180.le le169
      refine bnK hm178 fun x182 h183 hm184=>zL 1 Z Z Z Z (zM Z Z zr (zA Z (zA Z (zA Z (zA Z (zA Z zU))))) Z) hS170 (fun hs=>wBR 1000 l107 pA0 pc0 x108 (w64 (x108 + x89)) p1 p2 pv2 W167 U168 hs h181 h183) (.inl Z) ?_
      rintro U185 L186 v187 W188 le189 hS190 ⟨rfl,rfl,h191⟩
      have hS192:SW w [B0] U U185 [.row pA0 pc0 3 1 (hH KL.encI x182)] W188:=hS190
      refine eN (rR fL3 Z (oM Z f174 (oR Z (Runs.mulw Z Z Z) (oA Z Z (zV (zW ?_))))))
      obtain rfl:=nA hm184
      exact zH ⟨rfl,_,rfl,⟨U185,(nL (b:=(.slice pA0 l107.length pc0:Value)) (c:=(.slice pA0 x182.length pc0:Value)) f171 (by rw [h191])),f172,f173,rfl,((le98.trans le169).trans le189),hS192,(h191.trans h176)⟩⟩
     ·intro c177 hm195
      refine cF Z c177 (kN (rR fL3 Z (oM Z f174 (oR Z (Runs.mulw Z Z Z) (oA Z Z (zV (zW ?_)))))))
      obtain rfl:=nA hm195
      exact zH ⟨Z,_,Z,⟨U168,f171,f172,f173,Z,(le98.trans le169),hS170,h176⟩⟩
   ·have hm198:=hx93;rw [if_neg c105] at hm198;replace c105:=zE c105
    refine cF Z c105 (zo (zN ?_))
    have q:=wAl hm198
    obtain ⟨v199,hm200,e201⟩:=q
    obtain rfl:=hb94 v199 e201
    refine zN (zj ?_)
    have hE:=nA hm200;first | subst r | cases hE
    exact ⟨Z,_,(wCO),U97,_,hS99,Z,Z,h104⟩
theorem wBs (p0:List Int) (pA0:Option Addr) (pc0:Nat) (p1:((Int × Int)->Option Int)) (pv1:Value) (w:World) (U:PHeap) (hS:St0 w U [.row pA0 pc0 3 1 (hH KL.encI p0)]) (ha0:FnOK Tryz.prog U pv1 wNd wNe p1) {r:(List Int)} (hm:wAU p0 p1=some r):Gv Tryz.prog 79 [.slice pA0 p0.length pc0,pv1] w (wDR w [.row pA0 pc0 3 1 (hH KL.encI p0)] U (fun U_ L_ v=>v=.tuple #[]/\L_=[.row pA0 pc0 3 1 (hH KL.encI r)]/\r.length=p0.length)):=by
 unfold wAU at hm
 refine Gv.of Tryz.func79 Z Tryz.ntmps79 Tryz.results79 Z (rR (wNl (.fx 4 (.nil) .stop)) Z (oM Z Z (oM Z Z (oR Z (zi Z Z zB) (oM Z Z (bnK hm fun x2 h3 hm4=>zL 1 Z Z Z Z (zM Z Z Tryz.call127 (zA Z (zA Z (zA Z zU))) Z) hS (fun hs=>wCJ p0 pA0 pc0 (↑p0.length:Int) p1 pv1 w U hs ha0 h3) (.inl Z) ?_))))))
 rintro U5 L6 v7 W8 le9 hS10 ⟨rfl,rfl,h11⟩
 have hS12:SW w [.row pA0 pc0 3 1 (hH KL.encI p0)] U U5 [.row pA0 pc0 3 1 (hH KL.encI x2)] W8:=hS10
 refine zV ?_
 have hE:=nA hm4;first | subst r | cases hE
 exact ⟨Z,_,(wCO),U5,_,hS12,Z,Z,h11⟩
theorem wFS (p0:List wAA) (pA0:Option Addr) (pc0:Nat) (p1:wAJ) (w:World) (U:PHeap) (hS:St0 w U []) (ha0:Sl U 2 pA0 pc0 p0.length (hH wAI p0)) {r:(List wAY) × Int} (hm:wBV p0 p1=some r):Gv Tryz.prog 16 [.slice pA0 p0.length pc0,.agg #[jV p1.Unit,jV p1.Limit]] w (wDR w [] U (fun U_ L_ v=>∃ (A0:Option Addr) (c0:Nat),v=.tuple #[.slice A0 r.1.length c0,jV r.2]/\L_=[.row A0 c0 54 3 (hH wAa r.1)])):=by
 unfold wBV at hm
 refine Gv.of Tryz.func16 rfl Tryz.ntmps16 Tryz.results16 rfl (sR (.fx 0 (.fx 1 (.fl 2 (.fl 3 (.nil))) .stop) .stop) rfl (OKS.box (cs:=[.slice pA0 p0.length pc0]) rfl rfl rfl rfl rfl rfl (by rfl) hS ?_))
 intro W1 b2 hS3
 have q:=hS3.freeze (k:=0) rfl
 obtain ⟨U5,le6,hC7,hS8⟩:=q
 replace hC7:=Cl.of hC7
 have hS9:sW w U U5 [] W1:=hS8
 replace hC7:Cl U5 b2 0 [.slice pA0 p0.length pc0]:=hC7
 let B0:List Value:=[jV p1.Unit,jV p1.Limit]
 refine OKS.box (cs:=B0) rfl rfl rfl rfl rfl rfl (by rfl) hS9 ?_
 intro W10 b11 hS12
 refine oA Z Z (oA Z Z (eN (sR (.fl 0 (.fl 1 (.fx 2 (wPK (.fx 6 (.fx 7 (.fl 8 (.nil)) .stop) .stop)) .stop))) Z (oL Z (hS12.ldC (f:=0) hC7 (v:=.slice pA0 p0.length pc0) Z Z Tryz.isAgg22 Z) (oL Z (hS12.ldBA (j:=0) Z Z Z Tryz.isAgg24 Tryz.sizeOf24 (vs:=B0) Z Z) ?_)))))
 have h14:=ha0.le le6
 have q:=bnd hm
 obtain ⟨⟨x15,x16⟩,h17,hm18⟩:=q
 try dsimp only at hm18
 refine zL 0 Z Z Z Z (zM Z Z Tryz.call13 (zA Z (zA Z zU)) Z) hS12 (fun hs=>wCo p0 pA0 pc0 p1 W10 U5 hs h14 h17) (.inr Z) ?_
 rintro U19 L20 v21 W22 le23 hS24 ⟨A25,c26,rfl,rfl⟩
 let B1:Res:=.row A25 c26 3 1 (hH KL.encI x15)
 have hS28:sW w U U19 [B1,.blk b11 24 B0] W22:=hS24
 refine oM Z Z (oR Z (ZQ Z Z (v:=.slice A25 x15.length c26) Z) (oR Z (ZQ Z Z (v:=jV x16) Z) (OKS.alloc (cs:=[.slice none 0 0]) Z Z Z Z Z Tryz.zeroValue31 Z hS28 ?_)))
 intro W29 b30 hS31
 let B2:List Value:=[.slice A25 x15.length c26]
 refine OKS.st (j:=0) (vs:=B2) Z Z Z Z hS31 Z Z Z Z Tryz.sizeOf31 (zd Z) Z Z Z ?_
 intro W33 hS34
 have hS35:sW w U U19 [.blk b30 31 B2,B1,.blk b11 24 B0] W33:=hS34
 refine oA Z Z (eN (zF (sR fL2 Z (oM Z Z (oR Z (Runs.neq Z Z Z) (eN (ifc hm18 ?_ ?_)))))))
 ·intro c36 hm37
  refine zZ (zp (fun h=>h c36.out)) (kN (sR fL1 Z (oA Z Z (eN (zF (sR fL3 Z ?_))))))
  have h38:=hC7.le le23
  refine oL Z (hS35.ldC (f:=0) h38 (v:=.slice pA0 p0.length pc0) Z Z Tryz.isAgg22 Z) (oR Z (zi Z Z zQ) (oM Z Z (eN (zK (bnK hm37 fun y61 hf58 hm57=>?_)))))
  have q:=wBh hf58
  obtain ⟨hle59,hf60⟩:=q
  replace hle59:=zE hle59
  refine CK.forN' (fun k56 l52 σ_ w_=>∃ (U_:PHeap) (A53:Option Addr) (c54:Nat),σ_ 24=jV (↑k56:Int)/\σ_ 2=.pointer (some ⟨b2,0,none⟩)/\σ_ 6=.pointer (some ⟨b30,0,none⟩)/\σ_ 8=.slice A53 l52.length c54/\σ_ 23=jV (↑p0.length:Int)/\PHeap.Le U19 U_/\sW w U U_ [B1,.blk b30 31 B2,.blk b11 24 B0,.row A53 c54 3 1 (hH KL.encI l52)] w_) hf60 ?_ ?_ ?_
  ·have hS62:=hS35.nilrow 3 1
   exact ⟨U19,none,0,rfl,rfl,rfl,rfl,rfl,(zJ _),(hS62.pick [2,1,3,0] _ (by decide) rfl)⟩
  ·rintro k56 l52 xx66 σ64 W65 hk69 ⟨U71,A53,c54,fi70,f74,f75,f76,f77,le72,hS73⟩ hx67
   have c78:Hid ((↑k56:Int) < (↑p0.length:Int)):=zE (wBe hk69)
   replace hk69:=zE hk69
   have hi79:Hid (w64 ((↑k56:Int) + 1)=(↑(k56 + 1):Int)):=zE (by have h1:=hle59.out;have h2:=c78.out;rw [wAy] <;> omega)
   refine sR fL1 Z (oR Z (zG Z fi70 f77) (eN (zF (cT Z c78 (kN (zF (zK (sR fL2 Z (oM Z fi70 (oA Z Z (eN (rR (.fl 0 (.fl 1 (.fx 2 (.fx 3 (.fl 4 (.nil)) .stop) .stop))) Z (oM Z f76 (oM Z Z (ZK (pv:=[(0,jV (↑k56:Int))]) (zs:=[jV 0]) (cs:=[jV (↑k56:Int)]) Z Z Z Z Z (wBH Z wCA) zB zC ZM Z Z Z Z Z hS73 ?_)))))))))))))))
   intro W80 b81 hS82
   let B3:Res:=.row (some ⟨b81,0,none⟩) 1 3 1 (hH KL.encI [(↑k56:Int)])
   have hS84:sW w U U71 [B3,B1,.blk b30 31 B2,.blk b11 24 B0,.row A53 c54 3 1 (hH KL.encI l52)] W80:=hS82
   refine bnK hx67 fun x85 h86 hm87=>ZO (j:=4) (enc:=KL.encI) (xs:=l52) (ys:=[(↑k56:Int)]) (zs:=x85) rfl rfl rfl rfl rfl ZN wJP rfl rfl rfl rfl rfl rfl hS84 rfl rfl rfl (hS84.srcR (j:=0) rfl (by decide) (wAG (f:=KL.encI) (sz:=1) (fun _=>rfl) [(↑k56:Int)])) (fun _=>rfl) (fun _=>rfl) h86 rfl ?_
   intro A88 c89 W90 hS91
   have hS92:sW w U U71 [B3,B1,.blk b30 31 B2,.blk b11 24 B0,.row A88 c89 3 1 (hH KL.encI x85)] W90:=hS91
   refine oA Z Z (zV (zW (zH (rR fL2 Z (oR Z (ZB (zO Z fi70 Z) (congrArg (jV) hi79.out)) (oM Z Z (zV ?_)))))))
   cases hm87
   exact zH ⟨rfl,⟨U71,A88,c89,rfl,f74,f75,rfl,f77,le72,(hS92.pick [1,2,3,4] _ (by decide) rfl)⟩⟩
  ·rintro σ96 W97 ⟨U105,A103,c104,fi99,f108,f109,f110,f111,le106,hS107⟩
   have c112:Hid (¬ ((↑(((↑p0.length:Int):Int) - 0).toNat:Int) < (↑p0.length:Int))):=zE (wBJ)
   refine sR fL1 Z (oR Z (zG Z fi99 f111) (eN (zF (cF Z c112 (zo (zN (zN (zj (zH (sR (.fl 0 (.fl 1 (.fx 2 (.nil) .stop))) Z (oM Z f110 ?_)))))))))))
   have q:=hS107.freezeR (k:=0) (n:=x15.length) rfl (wAG (f:=KL.encI) (sz:=1) (fun _=>rfl) x15) (by decide)
   obtain ⟨U117,le118,hs119,hS120⟩:=q
   let B4:Res:=.row A103 c104 3 1 (hH KL.encI y61)
   have hS121:sW w U U117 [.blk b30 31 B2,.blk b11 24 B0,B4] W97:=hS120
   have q:=hS121.freeze (k:=0) rfl
   obtain ⟨U113,le114,hC115,hS116⟩:=q
   replace hC115:=Cl.of hC115
   have hS122:sW w U U113 [.blk b11 24 B0,B4] W97:=hS116
   replace hC115:Cl U113 b30 0 B2:=hC115
   refine oR Z (Runs.mkf Z zU (zA f109 (zA f108 zU))) ?_
   have h123:=hs119.le le114
   have h124:=h38.le le106
   have h125:=h124.le le118
   have h126:=h125.le le114
   have h127:=h14.le le23
   have h128:=h127.le le106
   have h129:=h128.le le118
   have h130:=h129.le le114
   have hF131:FnOK Tryz.prog U113 (.func (.func 80) #[] #[.pointer (some ⟨b30,0,none⟩),.pointer (some ⟨b2,0,none⟩)]) wNd wNe (fun x=>wAk x.1 x.2 x15 p0):=⟨80,[],[.pointer (some ⟨b30,0,none⟩),.pointer (some ⟨b2,0,none⟩)],rfl,Tryz.call80,fun U1 w1 x y vs le hs ha hm=>by obtain rfl:=ha;exact wEG x.1 x.2 x15 b30 A25 c26 p0 b2 pA0 pc0 w1 U1 hs (hC115.le le) (h123.le le) (h126.le le) (h130.le le) hm⟩
   refine bnK hm57 fun x132 h133 hm134=>?_
   have hS135:sW w U U113 [B4,.blk b11 24 B0] W97:=hS122.pick [1,0] _ (by decide) rfl
   refine zL 1 Z Z Z Z (zM Z Z Tryz.call79 (zA Z (zA Z zU)) Z) hS135 (fun hs=>wBs y61 A103 c104 (fun x=>wAk x.1 x.2 x15 p0) (.func (.func 80) #[] #[.pointer (some ⟨b30,0,none⟩),.pointer (some ⟨b2,0,none⟩)]) W97 U113 hs hF131 h133) (.inl Z) ?_
   rintro U136 L137 v138 W139 le140 hS141 ⟨rfl,rfl,h142⟩
   let B5:Res:=.row A103 c104 3 1 (hH KL.encI x132)
   have hS143:sW w U U136 [B5,.blk b11 24 B0] W139:=hS141
   refine eN (sR fL1 rfl (OKS.ra rfl rfl rfl rfl rfl rfl (eN (zF (sR fL3 rfl (zD rfl rfl rfl rfl rfl (nL (b:=(.slice A103 y61.length c104:Value)) (c:=(.slice A103 x132.length c104:Value)) f110 (by rw [h142])) (zg rfl rfl rfl rfl (fun _=>zi rfl rfl zB) (zD rfl rfl rfl rfl rfl rfl (eN (zK (bnK hm134 fun y166 hf163 hm162=>?_)))))))))))
   have q:=wBh hf163
   obtain ⟨hle164,hf165⟩:=q
   replace hle164:=zE hle164
   refine CK.forN' (fun k161 l157 σ_ w_=>∃ (U_:PHeap) (A158:Option Addr) (c159:Nat),σ_ 37=jV (↑k161:Int)/\σ_ 2=.pointer (some ⟨b2,0,none⟩)/\σ_ 6=.pointer (some ⟨b30,0,none⟩)/\σ_ 10=.slice A158 l157.length c159/\σ_ 35=.slice A103 x132.length c104/\σ_ 36=jV (↑x132.length:Int)/\PHeap.Le U136 U_/\sW w U U_ [.blk b11 24 B0,.row A158 c159 54 3 (hH wAa l157),B5] w_) hf165 ?_ ?_ ?_
   ·have hS167:=hS143.nilrow 54 3
    exact ⟨U136,none,0,rfl,f108,f109,rfl,rfl,rfl,(zJ _),(hS167.pick [2,0,1] _ (by decide) rfl)⟩
   ·rintro k161 l157 xx171 σ169 W170 hk174 ⟨U176,A158,c159,fi175,f179,f180,f181,f182,f183,le177,hS178⟩ hx172
    have c184:Hid ((↑k161:Int) < (↑x132.length:Int)):=zE (wBe hk174)
    replace hk174:=zE hk174
    have hi185:Hid (w64 ((↑k161:Int) + 1)=(↑(k161 + 1):Int)):=zE (by have h1:=hle164.out;have h2:=c184.out;rw [wAy] <;> omega)
    refine sR fL1 Z (oR Z (zG Z fi175 f183) (eN (zF (cT Z c184 (kN (zF (zK (sR fL3 Z (bnK hx172 fun _ h186 hm187=>?_)))))))))
    obtain ⟨b188,hA189⟩:=hS178.rowSome (j:=2) rfl (by rw [wAG (f:=KL.encI) (sz:=1) (fun _=>rfl) x132];have hz:=wAS h186;omega)
    refine oR Z (zk Z f182 hA189 fi175 zB zC (wAS h186)) ?_
    have hg190:=wAq (xs:=x132) (wAS h186)
    refine ZC rfl rfl rfl rfl (hS178.ldR (j:=2) rfl hA189 rfl rfl zI (wAL (sz:=1) (fun _=>rfl) _ _ 0 _ hg190 (by first | omega | rfl | simp) rfl)) rfl (OKS.ra rfl rfl rfl rfl rfl rfl (eN (ZD ZA [3,1,3,3,3,1,1,3,3,1,3,2,0,3] (wIq (.fx 11 (.fx 12 (.fl 13 (.nil)) .stop) .stop)) (by kernel_rfl) ?_)))
    have hS191:=hS178.drew
    generalize hw_W192:({ W170 with drawn:=W170.drawn + 1 }:World)=W192 at hS191 ⊢
    refine oM Z f181 ?_
    have h193:=h126.le le140
    have h194:=h193.le le177
    refine oL Z (hS191.ldC (f:=0) h194 (v:=.slice pA0 p0.length pc0) Z f179 Tryz.isAgg22 Z) (oM Z Z (bnK hm187 fun x195 h196 hm197=>?_))
    have h198:=h130.le le140
    have h199:=h198.le le177
    have q:=h199.el (fun _=>rfl) (wAc h196)
    obtain ⟨b200,off201,hA202,hC203⟩:=q
    refine oR Z (zl Z Z hA202 Z zQ zf (wEl h196) (wFj h196)) (oR Z (zy Z Z ZF Z zC) (oL Z (hS191.ldC (f:=0) hC203 (v:=jV x195.Bib) Z Z zI Z) ?_))
    have h204:=hC115.le le140
    have h205:=h204.le le177
    refine oL Z (hS191.ldC (f:=0) h205 (v:=.slice A25 x15.length c26) Z f180 Tryz.isAgg31 Z) (oM Z Z (bnK hm197 fun x206 h207 hm208=>?_))
    have h209:=h123.le le140
    have h210:=h209.le le177
    have q:=h210.el (fun _=>rfl) (wAc h207)
    obtain ⟨b211,off212,hA213,hC214⟩:=q
    refine oR Z (zl Z Z hA213 Z zB zC (wEl h207) (wFj h207)) (oL Z (hS191.ldC (f:=0) hC214 (v:=jV x206) Z Z zI Z) ?_)
    let B6:List Value:=[jV x195.Bib,jV x206,jV 0]
    let B7:List Value:=[jV 0,jV 0,jV 0]
    refine oR Z (Runs.build (pv:=[(0,jV x195.Bib),(1,jV x206)]) (z:=B7) (cs:=B6) Z (wBH Z (wBH Z wCA)) Tryz.zeroValue54 wLw Z Z) (ZK (pv:=[(0,.agg B6.toArray)]) (zs:=B7) (cs:=B6) Z Z Z Z Z (wBH Z wCA) Tryz.runUnderlying37 Tryz.sizeOf54 Tryz.zeroValue54 Z Z Z Z Z hS191 ?_)
    intro W215 b216 hS217
    let B8:Res:=.row (some ⟨b216,0,none⟩) 1 54 3 (hH wAa [(⟨x195.Bib,x206,0⟩:wAY)])
    have hS219:sW w U U176 [B8,.blk b11 24 B0,.row A158 c159 54 3 (hH wAa l157),B5] W215:=hS217
    refine bnK hm208 fun x220 h221 hm222=>ZO (j:=2) (enc:=wAa) (xs:=l157) (ys:=[(⟨x195.Bib,x206,0⟩:wAY)]) (zs:=x220) rfl rfl rfl rfl rfl Tryz.underlying37 wOr rfl rfl rfl rfl rfl rfl hS219 rfl rfl rfl (hS219.srcR (j:=0) rfl (by decide) (wAG (f:=wAa) (sz:=3) (fun _=>rfl) [(⟨x195.Bib,x206,0⟩:wAY)])) (fun _=>rfl) (fun _=>rfl) h221 rfl ?_
    intro A223 c224 W225 hS226
    have hS227:sW w U U176 [B8,.blk b11 24 B0,.row A223 c224 54 3 (hH wAa x220),B5] W225:=hS226
    refine oA Z Z (zV (zW (zH (rR fL2 Z (oR Z (ZB (zO Z fi175 Z) (congrArg (jV) hi185.out)) (oM Z Z (zV ?_)))))))
    cases hm222
    exact zH ⟨rfl,⟨U176,A223,c224,rfl,f179,f180,rfl,f182,f183,le177,(hS227.pick [1,2,3] _ (by decide) rfl)⟩⟩
   ·rintro σ231 W232 ⟨U240,A238,c239,fi234,f243,f244,f245,f246,f247,le241,hS242⟩
    have c248:Hid (¬ ((↑(((↑x132.length:Int):Int) - 0).toNat:Int) < (↑x132.length:Int))):=zE (wBJ)
    refine sR fL1 Z (oR Z (zG Z fi234 f247) (eN (zF (cF Z c248 (zo (zN (zN (zj (zH (sR fL3 Z (oM Z f245 (oA Z Z (oA Z Z (eN (zX ?_)))))))))))))))
    cases hm162
    exact ⟨rfl,_,(wIr rfl rfl),U240,_,(hS242.pick [1] _ (by decide) rfl),A238,c239,rfl,rfl⟩
 ·intro c36 hm249
  refine cT Z c36 (sR fL3 Z (oM Z Z (oA Z Z (oA Z Z (eN (zX (zS ?_)))))))
  have hS250:=hS35.nilrow 54 3
  cases hm249
  exact ⟨rfl,_,(wIr rfl rfl),U19,_,(hS250.pick [0] _ (by decide) rfl),none,0,rfl,rfl⟩
theorem wCr (p0:List wAN) (pA0:Option Addr) (pc0:Nat) (p1:Int) (p2:Int) (w:World) (U:PHeap) (hS:St0 w U []) (ha0:Sl U 2 pA0 pc0 p0.length (hH wAK p0)) {r:(List wAC) × Int} (hm:wAp p0 p1 p2=some r):Gv Tryz.prog 17 [.slice pA0 p0.length pc0,jV p1,jV p2] w (wDR w [] U (fun U_ L_ v=>∃ (A0:Option Addr) (c0:Nat),v=.tuple #[.slice A0 r.1.length c0,jV r.2]/\L_=[.row A0 c0 132 3 (hH wAB r.1)])):=by
 unfold wAp at hm
 refine Gv.of Tryz.func17 Z Tryz.ntmps17 Tryz.results17 Z (sR fL2 Z (oA Z Z (oA Z Z (eN (sR (wPF (.fx 3 (fC4_8 (.nil)) .stop)) Z (oM Z Z (oM Z Z (oM Z Z ?_))))))))
 have q:=bnd hm
 obtain ⟨⟨x1,x2⟩,h3,hm4⟩:=q
 try dsimp only at hm4
 refine zL 0 Z Z Z Z (zM Z Z Tryz.call14 (zA Z (zA Z (zA Z zU))) Z) hS (fun hs=>wBk p0 pA0 pc0 p1 p2 w U hs ha0 h3) (.inr Z) ?_
 rintro U5 L6 v7 W8 le9 hS10 ⟨A11,c12,rfl,rfl⟩
 let B0:Res:=.row A11 c12 3 1 (hH KL.encI x1)
 have hS14:sW w U U5 [B0] W8:=hS10
 refine oM Z Z (oR Z (ZQ Z Z (v:=.slice A11 x1.length c12) Z) (oR Z (ZQ Z Z (v:=jV x2) Z) (oA Z Z (oA Z Z (eN (zF (sR fL2 Z (oM Z Z (oR Z (Runs.neq Z Z Z) (eN (ifc hm4 ?_ ?_)))))))))))
 ·intro c15 hm16
  refine zZ (zp (fun h=>h c15.out)) (kN (sR (.fl 0 (.fl 1 (.fx 2 (.fl 3 (.nil)) .stop))) rfl (zD rfl rfl rfl rfl rfl rfl (zg rfl rfl rfl rfl (fun _=>zi rfl rfl zP) (bnK hm16 fun x17 h18 hm19=>OKS.makeSliceZ (sz:=3) (enc:=wAB) (z:=(⟨0,0,0⟩:wAC)) (v:=jV 0) rfl rfl rfl rfl rfl (wEN ZH) wLG rfl rfl rfl rfl (by decide) (by decide) rfl rfl h18 hS14 ?_)))))
  intro W20 b21 hS22
  have hS24:sW w U U5 [.row (some ⟨b21,0,none⟩) x17.length 132 3 (hH wAB x17),B0] W20:=hS22
  refine oA Z Z (eN (zF (sR fL1 Z (oA Z Z (eN (zK (bnK hm19 fun y36 hf33 hm32=>?_)))))))
  have q:=wBh hf33
  obtain ⟨hle34,hf35⟩:=q
  replace hle34:=zE hle34
  refine CK.forN' (fun k31 l30 σ_ w_=>∃ (U_:PHeap),σ_ 11=jV (↑k31:Int)/\σ_ 0=.slice pA0 p0.length pc0/\σ_ 8=.slice A11 x1.length c12/\σ_ 10=.slice (some ⟨b21,0,none⟩) l30.length x17.length/\PHeap.Le U5 U_/\sW w U U_ [B0,.row (some ⟨b21,0,none⟩) x17.length 132 3 (hH wAB l30)] w_/\l30.length=x17.length) hf35 ?_ ?_ ?_
  ·exact ⟨U5,rfl,rfl,rfl,rfl,(zJ _),(hS24.pick [1,0] _ (by decide) rfl),rfl⟩
  ·rintro k31 l30 xx39 σ37 W38 hk42 ⟨U44,fi43,f47,f48,f49,le45,hS46,h50⟩ hx40
   have c51:Hid ((↑k31:Int) < (↑p0.length:Int)):=zE (wBe hk42)
   replace hk42:=zE hk42
   have hi52:Hid (w64 ((↑k31:Int) + 1)=(↑(k31 + 1):Int)):=zE (by have h1:=hle34.out;have h2:=c51.out;rw [wAy] <;> omega)
   refine zF (sR fL4 Z (oM Z fi43 (oM Z f47 (oR Z (zi Z Z zP) (oR Z (zG Z Z Z) (eN (cT Z c51 (kN (zF (zK (sR fL1 Z (oA Z Z (eN (zF (sR fL1 Z (oA Z Z (eN (zK (bnK hx40 fun y64 hf61 hm60=>?_)))))))))))))))))))
   have q:=wBh hf61
   obtain ⟨hle62,hf63⟩:=q
   replace hle62:=zE hle62
   let B1:Res:=.row (some ⟨b21,0,none⟩) x17.length 132 3 (hH wAB l30)
   refine CK.forN' (fun k59 x58 σ_ w_=>∃ (U_:PHeap),σ_ 13=jV (↑k59:Int)/\σ_ 0=.slice pA0 p0.length pc0/\σ_ 8=.slice A11 x1.length c12/\σ_ 10=.slice (some ⟨b21,0,none⟩) l30.length x17.length/\σ_ 11=jV (↑k31:Int)/\σ_ 12=jV x58/\PHeap.Le U44 U_/\sW w U U_ [B0,B1] w_) hf63 ?_ ?_ ?_
   ·exact ⟨U44,Z,f47,f48,f49,fi43,Z,(zJ _),hS46⟩
   ·rintro k59 x58 xx67 σ65 W66 hk70 ⟨U72,fi71,f75,f76,f77,f78,f79,le73,hS74⟩ hx68
    have c80:Hid ((↑k59:Int) < (↑p0.length:Int)):=zE (wBe hk70)
    replace hk70:=zE hk70
    have hi81:Hid (w64 ((↑k59:Int) + 1)=(↑(k59 + 1):Int)):=zE (by have h1:=hle62.out;have h2:=c80.out;rw [wAy] <;> omega)
    refine zF (sR fL4 Z (oM Z fi71 (oM Z f75 (oR Z (zi Z Z zP) (oR Z (zG Z Z Z) (eN (cT Z c80 (kN (bnK hx68 fun x82 hx84 hm85=>CK.cut (fun σ_ w_=>∃ (U_:PHeap),σ_ 0=.slice pA0 p0.length pc0/\σ_ 8=.slice A11 x1.length c12/\σ_ 10=.slice (some ⟨b21,0,none⟩) l30.length x17.length/\σ_ 11=jV (↑k31:Int)/\σ_ 12=jV x82/\σ_ 13=jV (↑k59:Int)/\PHeap.Le U72 U_/\sW w U U_ [B0,B1] w_) ?_ ?_)))))))))
    ·refine zK (zF (ZD ZA [3,3,3,1,3,3,3,1,3,3,3,3,3,1,3,3,3,1,3,3,3,3,3,3,1,3,3,3,3,1,3,3,3,3,3,3,1,3,3,3,3,1,3,3,3,3,3,3,3,3,3] fL51 (by kernel_rfl) ?_))
     have hS86:=hS74.drew
     generalize hw_W87:({ W66 with drawn:=W66.drawn + 1 }:World)=W87 at hS86 ⊢
     refine oM Z f76 (oM Z fi71 (bnK hx84 fun _ h88 hm89=>?_))
     obtain ⟨b90,hA91⟩:=hS86.rowSome (j:=0) rfl (by rw [wAG (f:=KL.encI) (sz:=1) (fun _=>rfl) x1];have hz:=wAS h88;omega)
     refine oR Z (zk Z Z hA91 Z zB zC (wAS h88)) ?_
     have hg92:=wAq (xs:=x1) (wAS h88)
     refine ZC rfl rfl rfl rfl (hS86.ldR (j:=0) rfl hA91 rfl rfl zI (wAL (sz:=1) (fun _=>rfl) _ _ 0 _ hg92 (by first | omega | rfl | simp) rfl)) rfl (zD rfl rfl rfl rfl rfl f76 (zD rfl rfl rfl rfl rfl f78 (bnK hm89 fun _ h93 hm94=>zg rfl rfl rfl rfl (fun _=>zk rfl rfl hA91 rfl zB zC (wAS h93)) ?_)))
     have hg95:=wAq (xs:=x1) (wAS h93)
     refine ZC rfl rfl rfl rfl (hS86.ldR (j:=0) rfl hA91 rfl rfl zI (wAL (sz:=1) (fun _=>rfl) _ _ 0 _ hg95 (by first | omega | rfl | simp) rfl)) rfl (zg rfl rfl rfl rfl (fun _=>zG rfl rfl rfl) (zD rfl rfl rfl rfl rfl rfl (ifc hm94 ?_ ?_)))
     ·intro c96 hm97
      refine oT Z c96 (oT Z c96 (oT Z c96 (oT Z c96 (oT Z c96 (oT Z c96 (oT Z c96 (oT Z c96 (oT Z c96 (oT Z c96 (ze Z Z Z (wAO Z Z Z) (ze Z Z Z (wAO Z Z Z) (ze Z Z Z (wAO Z Z Z) (ze Z Z Z (wAO Z Z Z) (ze Z Z Z (wAO Z Z Z) (ze Z Z Z (wAO Z Z Z) (ze Z Z Z (wAO Z Z Z) (ze Z Z Z (wAO Z Z Z) (ze Z Z Z (wAO Z Z Z) (ze Z Z Z (wAO Z Z Z) (ze Z Z Z (wAO Z Z Z) (ze Z Z Z (wAO Z Z Z) (ze Z Z Z (wAO Z Z Z) (ze Z Z Z (wAO Z Z Z) (ze Z Z Z (wAO Z Z Z) (ze Z Z Z (wAO Z Z Z) (ze Z Z Z (wAO Z Z Z) (ze Z Z Z (wAO Z Z Z) (ze Z Z Z (wAO Z Z Z) (ze Z Z Z (wAO Z Z Z) (ze Z Z Z (wAO Z Z Z) (ze Z Z Z (wAO Z Z Z) (ze Z Z Z (wAO Z Z Z) (ze Z Z Z (wAO Z Z Z) (ze Z Z Z (wAO Z Z Z) (ze Z Z Z (wAO Z Z Z) (ze Z Z Z (wAO Z Z Z) (ze Z Z Z (wAO Z Z Z) (ze Z Z Z (wAO Z Z Z) (oT Z c96 (oR Z (zY Z (ZJ c96.out) Z) (eN (ZE Z (CK.fresh fun σ98 hσ99=>?_)))))))))))))))))))))))))))))))))))))))))))
      have f100:σ98 0=.slice pA0 p0.length pc0:=(hσ99 0).trans f75
      have f101:σ98 8=.slice A11 x1.length c12:=(hσ99 8).trans f76
      have f102:σ98 10=.slice (some ⟨b21,0,none⟩) l30.length x17.length:=(hσ99 10).trans f77
      have f103:σ98 11=jV (↑k31:Int):=(hσ99 11).trans f78
      have f104:σ98 12=jV x58:=(hσ99 12).trans f79
      have f105:σ98 13=jV (↑k59:Int):=(hσ99 13).trans fi71
      clear hσ99
      refine rR fL3 Z (oM Z f104 (oR Z (zO Z Z Z) (oA Z Z (zV (zW ?_)))))
      cases hm97
      exact zH ⟨Z,⟨U72,f100,f101,f102,f103,Z,f105,(zJ _),hS86⟩⟩
     ·intro c96 hm107
      refine zD Z Z Z (wF Z c96) Z f76 (zD Z Z Z (wF Z c96) Z fi71 (rU Z (wF Z c96) (zk Z Z hA91 Z zB zC (wAS h88)) ?_))
      have hg108:=wAq (xs:=x1) (wAS h88)
      refine ZC rfl rfl rfl (zh rfl rfl (zp c96.out)) (hS86.ldR (j:=0) rfl hA91 rfl rfl zI (wAL (sz:=1) (fun _=>rfl) _ _ 0 _ hg108 (by first | omega | rfl | simp) rfl)) rfl (zD rfl rfl rfl (zh rfl rfl (zp c96.out)) rfl f76 (zD rfl rfl rfl (zh rfl rfl (zp c96.out)) rfl f78 (zg rfl rfl rfl (zh rfl rfl (zp c96.out)) (fun _=>zk rfl rfl hA91 rfl zB zC (wAS h93)) ?_)))
      have hg109:=wAq (xs:=x1) (wAS h93)
      refine ZC rfl rfl rfl (zh rfl rfl (zp c96.out)) (hS86.ldR (j:=0) rfl hA91 rfl rfl zI (wAL (sz:=1) (fun _=>rfl) _ _ 0 _ hg109 (by first | omega | rfl | simp) rfl)) rfl (zg rfl rfl rfl (zh rfl rfl (zp c96.out)) (fun _=>Runs.eql rfl rfl rfl) (zD rfl rfl rfl (zh rfl rfl (zp c96.out)) rfl rfl (ifc hm107 ?_ ?_)))
      ·intro c110 hm111
       refine zD Z Z Z (wT Z c110) Z f75 (zD Z Z Z (wT Z c110) Z fi71 (bnK hm111 fun x112 h113 hm114=>?_))
       have h115:=ha0.le le9
       have h116:=h115.le le45
       have h117:=h116.le le73
       have q:=h117.el (fun _=>rfl) (wAc h113)
       obtain ⟨b118,off119,hA120,hC121⟩:=q
       refine rU Z (wT Z c110) (zk Z Z hA120 Z zP ZI (wBG h113)) (rU Z (wT Z c110) (zy Z Z zq Z zC) (ZC Z Z Z (wT Z c110) (hS86.ldC (f:=1) hC121 (v:=jV x112.Time) Z Z zI Z) Z (zD Z Z Z (wT Z c110) Z f75 (zD Z Z Z (wT Z c110) Z f78 (bnK hm114 fun x122 h123 hm124=>?_)))))
       have q:=h117.el (fun _=>rfl) (wAc h123)
       obtain ⟨b125,off126,hA127,hC128⟩:=q
       refine rU Z (wT Z c110) (zk Z Z hA127 Z zP ZI (wBG h123)) (rU Z (wT Z c110) (zy Z Z zq Z zC) (ZC Z Z Z (wT Z c110) (hS86.ldC (f:=1) hC128 (v:=jV x122.Time) Z Z zI Z) Z (rU Z (wT Z c110) (zG Z Z Z) (zD Z Z Z (wT Z c110) Z Z (ifc hm124 ?_ ?_)))))
       ·intro c129 hm130
        refine oT Z c129 (oT Z c129 (oT Z c129 (oT Z c129 (oT Z c129 (oT Z c129 (oT Z c129 (oT Z c129 (oT Z c129 (oT Z c129 (oT Z c129 (oT Z c129 (ze Z Z Z (wAO Z Z Z) (ze Z Z Z (wAO Z Z Z) (ze Z Z Z (wAO Z Z Z) (oT Z c129 (rU Z (wT Z c110) (zY Z (ZJ c129.out) Z) (rU Z (wF Z c96) (zY Z (ZJ c110.out) Z) (oR Z (zR Z (zp c96.out) Z) (eN (ZE Z (CK.fresh fun σ131 hσ132=>?_)))))))))))))))))))))
        have f133:σ131 0=.slice pA0 p0.length pc0:=(hσ132 0).trans f75
        have f134:σ131 8=.slice A11 x1.length c12:=(hσ132 8).trans f76
        have f135:σ131 10=.slice (some ⟨b21,0,none⟩) l30.length x17.length:=(hσ132 10).trans f77
        have f136:σ131 11=jV (↑k31:Int):=(hσ132 11).trans f78
        have f137:σ131 12=jV x58:=(hσ132 12).trans f79
        have f138:σ131 13=jV (↑k59:Int):=(hσ132 13).trans fi71
        clear hσ132
        refine rR fL3 Z (oM Z f137 (oR Z (zO Z Z Z) (oA Z Z (zV (zW ?_)))))
        cases hm130
        exact zH ⟨Z,⟨U72,f133,f134,f135,f136,Z,f138,(zJ _),hS86⟩⟩
       ·intro c129 hm140
        refine zD Z Z Z (wF Z c129) Z f75 (zD Z Z Z (wF Z c129) Z fi71 ?_)
        have q:=h117.el (fun _=>rfl) (wAc h113)
        obtain ⟨b141,off142,hA143,hC144⟩:=q
        refine rU Z (wF Z c129) (zk Z Z hA143 Z zP ZI (wBG h113)) (rU Z (wF Z c129) (zy Z Z zq Z zC) (ZC Z Z Z (wF Z c129) (hS86.ldC (f:=1) hC144 (v:=jV x112.Time) Z Z zI Z) Z (zD Z Z Z (wF Z c129) Z f75 (zD Z Z Z (wF Z c129) Z f78 ?_))))
        have q:=h117.el (fun _=>rfl) (wAc h123)
        obtain ⟨b145,off146,hA147,hC148⟩:=q
        refine rU Z (wF Z c129) (zk Z Z hA147 Z zP ZI (wBG h123)) (rU Z (wF Z c129) (zy Z Z zq Z zC) (ZC Z Z Z (wF Z c129) (hS86.ldC (f:=1) hC148 (v:=jV x122.Time) Z Z zI Z) Z (rU Z (wF Z c129) (Runs.eql Z Z Z) (zD Z Z Z (wF Z c129) Z Z (ifc hm140 ?_ ?_)))))
        ·intro c149 hm150
         refine zD Z Z Z (wT Z c149) Z fi71 (zD Z Z Z (wT Z c149) Z f78 (rU Z (wT Z c149) (zG Z Z Z) (rU Z (wF Z c129) (zY Z (ZJ c149.out) Z) (rU Z (wT Z c110) (zR Z (zp c129.out) Z) (rU Z (wF Z c96) (zY Z (ZJ c110.out) Z) (oR Z (zR Z (zp c96.out) Z) (eN (ifc hm150 ?_ ?_))))))))
         ·intro c151 hm152
          refine cT Z c151 (CK.fresh fun σ153 hσ154=>?_)
          have f155:σ153 0=.slice pA0 p0.length pc0:=(hσ154 0).trans f75
          have f156:σ153 8=.slice A11 x1.length c12:=(hσ154 8).trans f76
          have f157:σ153 10=.slice (some ⟨b21,0,none⟩) l30.length x17.length:=(hσ154 10).trans f77
          have f158:σ153 11=jV (↑k31:Int):=(hσ154 11).trans f78
          have f159:σ153 12=jV x58:=(hσ154 12).trans f79
          have f160:σ153 13=jV (↑k59:Int):=(hσ154 13).trans fi71
          clear hσ154
          refine rR fL3 Z (oM Z f159 (oR Z (zO Z Z Z) (oA Z Z (zV (zW ?_)))))
          cases hm152
          exact zH ⟨Z,⟨U72,f155,f156,f157,f158,Z,f160,(zJ _),hS86⟩⟩
         ·intro c151 hm162
          refine cF Z c151 (zn (zW ?_))
          cases hm162
          exact zH ⟨Z,⟨U72,f75,f76,f77,f78,f79,fi71,(zJ _),hS86⟩⟩
        ·intro c149 hm164
         refine oF Z c149 (oF Z c149 (oF Z c149 (rU Z (wF Z c129) (zR Z (zp c149.out) Z) (rU Z (wT Z c110) (zR Z (zp c129.out) Z) (rU Z (wF Z c96) (zY Z (ZJ c110.out) Z) (oR Z (zR Z (zp c96.out) Z) (eN (zZ Z (zn (zW ?_))))))))))
         cases hm164
         exact zH ⟨Z,⟨U72,f75,f76,f77,f78,f79,fi71,(zJ _),hS86⟩⟩
      ·intro c110 hm166
       refine oF Z c110 (oF Z c110 (oF Z c110 (oF Z c110 (oF Z c110 (oF Z c110 (oF Z c110 (oF Z c110 (oF Z c110 (oF Z c110 (oF Z c110 (oF Z c110 (ze Z Z Z (wAO Z Z Z) (ze Z Z Z (wAO Z Z Z) (ze Z Z Z (wAO Z Z Z) (ze Z Z Z (wAO Z Z Z) (ze Z Z Z (wAO Z Z Z) (ze Z Z Z (wAO Z Z Z) (ze Z Z Z (wAO Z Z Z) (ze Z Z Z (wAO Z Z Z) (ze Z Z Z (wAO Z Z Z) (ze Z Z Z (wAO Z Z Z) (ze Z Z Z (wAO Z Z Z) (ze Z Z Z (wAO Z Z Z) (ze Z Z Z (wAO Z Z Z) (ze Z Z Z (wAO Z Z Z) (ze Z Z Z (wAO Z Z Z) (ze Z Z Z (wAO Z Z Z) (oF Z c110 (rU Z (wF Z c96) (zR Z (zp c110.out) Z) (oR Z (zR Z (zp c96.out) Z) (eN (zZ Z (zn (zW ?_))))))))))))))))))))))))))))))))))
       cases hm166
       exact zH ⟨Z,⟨U72,f75,f76,f77,f78,f79,fi71,(zJ _),hS86⟩⟩
    ·rintro σ168 W169 ⟨U170,f173,f174,f175,f176,f177,f178,le171,hS172⟩
     refine rR fL3 Z (oM Z f178 (oR Z (ZB (zO Z Z Z) (congrArg (jV) hi81.out)) (oA Z Z (zV ?_))))
     cases hm85
     exact zH ⟨Z,⟨U170,Z,f173,f174,f175,f176,f177,(le73.trans le171),hS172⟩⟩
   ·rintro σ180 W181 ⟨U185,fi183,f188,f189,f190,f191,f192,le186,hS187⟩
    have c193:Hid (¬ ((↑(((↑p0.length:Int):Int) - 0).toNat:Int) < (↑p0.length:Int))):=zE (wBJ)
    refine zF (sR fL4 rfl (zD rfl rfl rfl rfl rfl fi183 (zD rfl rfl rfl rfl rfl f188 (zg rfl rfl rfl rfl (fun _=>zi rfl rfl zP) (zg rfl rfl rfl rfl (fun _=>zG rfl rfl rfl) (eN (cF Z c193 (zo (zN (zN (zj (zH (ZD ZA [3,3,3,3,3,3,1,3,3,3,1,3,3,0] (wPH (.fx 13 (.nil) .stop)) (by kernel_rfl) ?_)))))))))))))
    have hS194:=hS187.drew
    generalize hw_W195:({ W181 with drawn:=W181.drawn + 1 }:World)=W195 at hS194 ⊢
    refine oM Z f190 (oM Z f192 (oM Z f188 (oM Z f191 (bnK hm60 fun x196 h197 hm198=>?_))))
    have h199:=ha0.le le9
    have h200:=h199.le le45
    have h201:=h200.le le186
    have q:=h201.el (fun _=>rfl) (wAc h197)
    obtain ⟨b202,off203,hA204,hC205⟩:=q
    refine oR Z (zk Z Z hA204 Z zP ZI (wBG h197)) (oR Z (zy Z Z zq Z zC) (oL Z (hS194.ldC (f:=0) hC205 (v:=jV x196.Bib) Z Z zI Z) (oM Z f189 (oM Z f191 (bnK hm198 fun _ h206 hm207=>?_)))))
    obtain ⟨b208,hA209⟩:=hS194.rowSome (j:=0) rfl (by rw [wAG (f:=KL.encI) (sz:=1) (fun _=>rfl) x1];have hz:=wAS h206;omega)
    refine oR Z (zk Z Z hA209 Z zB zC (wAS h206)) ?_
    have hg210:=wAq (xs:=x1) (wAS h206)
    refine ZC rfl rfl rfl rfl (hS194.ldR (j:=0) rfl hA209 rfl rfl zI (wAL (sz:=1) (fun _=>rfl) _ _ 0 _ hg210 (by first | omega | rfl | simp) rfl)) rfl ?_
    let B2:List Value:=[jV x196.Bib,jV (gd x1 k31),jV 0]
    refine oR Z (Runs.build (pv:=[(0,jV x196.Bib),(1,jV (gd x1 k31)),(2,jV 0)]) (z:=[jV 0,jV 0,jV 0]) (cs:=B2) Z (wBH Z (wBH Z (wBH Z wCA))) Tryz.zeroValue132 wLF Z Z) (bnK hm207 fun _ h211 hm212=>oR Z (zl Z Z Z Z ZH ZP (wBE h211) (wBF h211)) ?_)
    have hg213:=wAq (xs:=l30) (wAS h211)
    refine OKS.stR (j:=1) (vs:=B2) (cs':=hH wAB (nE l30 y64.toNat (⟨x196.Bib,(gd x1 k31),0⟩:wAC))) rfl rfl rfl rfl hS194 rfl rfl rfl rfl rfl ZP (by rw [wAG (f:=wAB) (sz:=3) (fun _=>rfl)];have hz:=wAS h211;show _ + 3 <= _;first | omega | (simp only [nK];omega) | (simp only [nI,nG,nH];omega)) rfl (wCd (sz:=3) (fo:=0) (fun _=>rfl) _ _ _ _ hg213 (by first | omega | (simp only [nK];omega) | (simp only [nI,nG,nH];omega)) (zd rfl) rfl) rfl ?_
    intro W214 hS215
    have hS216:sW w U U185 [B0,.row (some ⟨b21,0,none⟩) x17.length 132 3 (hH wAB (nE l30 y64.toNat (⟨x196.Bib,(gd x1 k31),0⟩:wAC)))] W214:=hS215
    refine zV (zW (zH (rR fL3 Z (oM Z f191 (oR Z (ZB (zO Z Z Z) (congrArg (jV) hi52.out)) (oA Z Z (zV ?_)))))))
    cases hm212
    exact zH ⟨rfl,⟨U185,rfl,f188,f189,(nL (b:=(.slice (some ⟨b21,0,none⟩) l30.length x17.length:Value)) (c:=(.slice (some ⟨b21,0,none⟩) ((nE l30 y64.toNat (⟨x196.Bib,(gd x1 k31),0⟩:wAC)).length) x17.length:Value)) f190 (by simp only [nJ])),(le45.trans le186),hS216,(nJ.trans h50)⟩⟩
  ·rintro σ218 W219 ⟨U223,fi221,f226,f227,f228,le224,hS225,h229⟩
   have c230:Hid (¬ ((↑(((↑p0.length:Int):Int) - 0).toNat:Int) < (↑p0.length:Int))):=zE (wBJ)
   refine zF (sR fL4 Z (oM Z fi221 (oM Z f226 (oR Z (zi Z Z zP) (oR Z (zG Z Z Z) (eN (cF Z c230 (zo (zN (zN (zj (zH (sR fL3 Z (oM Z f228 (oA Z Z (oA Z Z (eN (zX ?_))))))))))))))))))
   cases hm32
   exact ⟨rfl,_,(wIr rfl rfl),U223,_,(hS225.pick [1] _ (by decide) rfl),(some ⟨b21,0,none⟩),x17.length,rfl,rfl⟩
 ·intro c15 hm231
  refine cT Z c15 (sR fL3 Z (oM Z Z (oA Z Z (oA Z Z (eN (zX (zS ?_)))))))
  have hS232:=hS14.nilrow 132 3
  cases hm231
  exact ⟨rfl,_,(wIr rfl rfl),U5,_,(hS232.pick [0] _ (by decide) rfl),none,0,rfl,rfl⟩
end Go.Proofs.YtghaibkggdecnaaGreat
namespace Go.Proofs.YtghaibkggdecnaaGreat
open Go.KL
set_option maxHeartbeats 4000000
theorem wDd (p0:List wAY) (pA0:Option Addr) (pc0:Nat) (w:World) (U:PHeap) (hS:St0 w U []) (ha0:Sl U 3 pA0 pc0 p0.length (hH wAa p0)) {r:(List wAC)} (hm:wBM p0=some r):Gv Tryz.prog 66 [.slice pA0 p0.length pc0] w (wDR w [] U (fun U_ L_ v=>∃ (A0:Option Addr) (c0:Nat),v=.slice A0 r.length c0/\L_=[.row A0 c0 132 3 (hH wAB r)])):=by
 unfold wBM at hm
 refine Gv.of Tryz.func66 Z Tryz.ntmps66 Tryz.results66 Z (sR fL1 Z (oA Z Z (eN (sR fL1 Z (oA Z Z (eN (zF (sR fL3 Z (oM Z Z (oR Z (zi Z Z Tryz.runUnderlying37) (oM Z Z (eN (zK (bnK hm fun y23 hf20 hm19=>?_))))))))))))))
 have q:=wBh hf20
 obtain ⟨hle21,hf22⟩:=q
 replace hle21:=zE hle21
 refine CK.forN' (fun k18 l14 σ_ w_=>∃ (U_:PHeap) (A15:Option Addr) (c16:Nat),σ_ 8=jV (↑k18:Int)/\σ_ 3=.slice A15 l14.length c16/\σ_ 6=.slice pA0 p0.length pc0/\σ_ 7=jV (↑p0.length:Int)/\PHeap.Le U U_/\sW w U U_ [.row A15 c16 132 3 (hH wAB l14)] w_) hf22 ?_ ?_ ?_
 ·have hS24:=hS.nilrow 132 3
  exact ⟨U,none,0,Z,Z,Z,Z,(zJ _),hS24⟩
 ·rintro k18 l14 xx28 σ26 W27 hk31 ⟨U33,A15,c16,fi32,f36,f37,f38,le34,hS35⟩ hx29
  have c39:Hid ((↑k18:Int) < (↑p0.length:Int)):=zE (wBe hk31)
  replace hk31:=zE hk31
  have hi40:Hid (w64 ((↑k18:Int) + 1)=(↑(k18 + 1):Int)):=zE (by have h1:=hle21.out;have h2:=c39.out;rw [wAy] <;> omega)
  refine sR fL1 Z (oR Z (zG Z fi32 f38) (eN (zF (cT Z c39 (kN (zF (zK (sR (.fl 0 (.fl 1 (.fx 2 (.fx 3 (.nil) .stop) .stop))) Z (bnK hx29 fun x41 h42 hm43=>?_)))))))))
  have h44:=ha0.le le34
  have q:=h44.el (fun _=>rfl) (wAc h42)
  obtain ⟨b45,off46,hA47,hC48⟩:=q
  refine oR Z (zk Z f37 hA47 fi32 Tryz.runUnderlying37 Tryz.sizeOf54 (wBG h42)) (oL Z (hS35.ldCA (f:=0) hC48 Z Z Tryz.isAgg54 Tryz.sizeOf54 (us:=[jV x41.Bib,jV x41.Time,jV x41.Gate]) Z Z) ?_)
  let B0:List Value:=[jV 0,jV 0,jV 0]
  refine OKS.alloc (cs:=B0) Z Z Z Z Z Tryz.zeroValue54 Z hS35 ?_
  intro W49 b50 hS51
  let B1:List Value:=[jV x41.Bib,jV x41.Time,jV x41.Gate]
  refine OKS.st (j:=0) (vs:=B1) Z Z Z Z hS51 Z Z Z Z Tryz.sizeOf54 (zd Z) Z Z Z ?_
  intro W53 hS54
  let B2:Res:=.row A15 c16 132 3 (hH wAB l14)
  have hS55:sW w U U33 [.blk b50 54 B1,B2] W53:=hS54
  refine eN (rR (.fl 0 (.fl 1 (.fx 2 (.fx 3 (.fl 4 (.nil)) .stop) .stop))) Z (oM Z f36 (oL Z (hS55.ldBA (j:=0) Z Z Z Tryz.isAgg54 Tryz.sizeOf54 (vs:=B1) Z Z) (ZK (pv:=[(0,.agg B1.toArray)]) (zs:=B0) (cs:=B1) Z Z Z Z Z (wBH Z wCA) ZH ZP Tryz.zeroValue132 Z Z Z Z Z hS55 ?_))))
  intro W56 b57 hS58
  let B3:Res:=.row (some ⟨b57,0,none⟩) 1 132 3 (hH wAB [(⟨x41.Bib,x41.Time,x41.Gate⟩:wAC)])
  have hS60:sW w U U33 [B3,.blk b50 54 B1,B2] W56:=hS58
  refine bnK hm43 fun x61 h62 hm63=>ZO (j:=2) (enc:=wAB) (xs:=l14) (ys:=[(⟨x41.Bib,x41.Time,x41.Gate⟩:wAC)]) (zs:=x61) rfl rfl rfl rfl rfl Tryz.underlying40 wLG rfl rfl rfl rfl rfl rfl hS60 rfl rfl rfl (hS60.srcR (j:=0) rfl (by decide) (wAG (f:=wAB) (sz:=3) (fun _=>rfl) [(⟨x41.Bib,x41.Time,x41.Gate⟩:wAC)])) (fun _=>rfl) (fun _=>rfl) h62 rfl ?_
  intro A64 c65 W66 hS67
  have hS68:sW w U U33 [B3,.blk b50 54 B1,.row A64 c65 132 3 (hH wAB x61)] W66:=hS67
  refine oA Z Z (zV (zW (zH (rR fL2 Z (oR Z (ZB (zO Z fi32 Z) (congrArg (jV) hi40.out)) (oM Z Z (zV ?_)))))))
  cases hm63
  exact zH ⟨rfl,⟨U33,A64,c65,rfl,rfl,f37,f38,le34,(hS68.pick [2] _ (by decide) rfl)⟩⟩
 ·rintro σ72 W73 ⟨U81,A79,c80,fi75,f84,f85,f86,le82,hS83⟩
  have c87:Hid (¬ ((↑(((↑p0.length:Int):Int) - 0).toNat:Int) < (↑p0.length:Int))):=zE (wBJ)
  refine sR fL1 Z (oR Z (zG Z fi75 f86) (eN (zF (cF Z c87 (zo (zN (zN (zj (zH (sR fL2 Z (oM Z f84 (oA Z Z (eN (zX ?_))))))))))))))
  have hE:=nA hm19;first | subst r | cases hE
  exact ⟨Z,_,(zz Z),U81,_,hS83,A79,c80,Z,Z⟩
theorem wBY (p0:List wAC) (pA0:Option Addr) (pc0:Nat) (p1:List wAC) (pA1:Option Addr) (pc1:Nat) (w:World) (U:PHeap) (hS:St0 w U []) (ha0:Sl U 3 pA0 pc0 p0.length (hH wAB p0)) (ha1:Sl U 3 pA1 pc1 p1.length (hH wAB p1)) {r:Bool} (hm:wAM p0 p1=some r):Gv Tryz.prog 83 [.slice pA0 p0.length pc0,.slice pA1 p1.length pc1] w (wDR w [] U (fun U_ L_ v=>v=.bool r/\L_=[])):=by
 unfold wAM at hm
 refine Gv.of Tryz.func83 Z Tryz.ntmps83 Tryz.results83 Z (sR fL1 Z (oA Z Z (eN (zF (sR fL5 Z (oM Z Z (oR Z (zi Z Z ZH) (oM Z Z (oR Z (zi Z Z ZH) (oR Z (Runs.neq Z Z Z) (eN ?_)))))))))))
 by_cases c1:(↑p0.length:Int)=(↑p1.length:Int)
 ·have hm2:=hm;rw [if_pos c1] at hm2;replace c1:=zE c1
  refine zZ (zp (fun h=>h c1.out)) (kN (zF (sR fL3 Z (oM Z Z (oR Z (zi Z Z ZH) (oM Z Z (eN (zK ?_))))))))
  have q:=wCc hm2
  obtain ⟨r5,hX6⟩:=q
  have q:=wCb hX6
  obtain ⟨hle7,hf8⟩:=q
  replace hle7:=zE hle7
  refine CK.forN (fun k4 _ σ_ w_=>∃ (U_:PHeap),σ_ 13=jV (↑k4:Int)/\σ_ 0=.slice pA0 p0.length pc0/\σ_ 1=.slice pA1 p1.length pc1/\σ_ 12=jV (↑p0.length:Int)/\PHeap.Le U U_/\sW w U U_ [] w_) hf8 ?_ ?_ ?_
  ·exact ⟨U,Z,Z,Z,Z,(zJ _),hS⟩
  ·rintro k4 ⟨⟩ xx11 σ9 W10 hk14 ⟨U16,fi15,f19,f20,f21,le17,hS18⟩ hx12 hb13
   try dsimp only at hx12
   have c22:Hid ((↑k4:Int) < (↑p0.length:Int)):=zE (wBe hk14)
   replace hk14:=zE hk14
   have hi23:Hid (w64 ((↑k4:Int) + 1)=(↑(k4 + 1):Int)):=zE (by have h1:=hle7.out;have h2:=c22.out;rw [wAy] <;> omega)
   refine sR fL1 rfl (zg rfl rfl rfl rfl (fun _=>zG rfl fi15 f21) (eN (zF (cT Z c22 (kN (zF (zK (sR fL2 rfl (zD rfl rfl rfl rfl rfl fi15 (OKS.ra rfl rfl rfl rfl rfl rfl (eN (zF (ZD ZA [3,3,3,1,3,3,3,1,3] fL9 (by kernel_rfl) ?_)))))))))))))
   have hS24:=hS18.drew
   generalize hw_W25:({ W10 with drawn:=W10.drawn + 1 }:World)=W25 at hS24 ⊢
   refine oM Z f19 (oM Z Z (bnK hx12 fun x26 h27 hm28=>?_))
   have h29:=ha0.le le17
   have q:=h29.el (fun _=>rfl) (wAc h27)
   obtain ⟨b30,off31,hA32,hC33⟩:=q
   refine oR Z (zk Z Z hA32 Z ZH ZP (wBG h27)) (oL Z (hS24.ldCA (f:=0) hC33 Z Z Tryz.isAgg132 ZP (us:=[jV x26.Bib,jV x26.Time,jV x26.Gate]) Z Z) (oM Z f20 (oM Z Z (bnK hm28 fun x34 h35 hm36=>?_))))
   have h37:=ha1.le le17
   have q:=h37.el (fun _=>rfl) (wAc h35)
   obtain ⟨b38,off39,hA40,hC41⟩:=q
   refine oR Z (zk Z Z hA40 Z ZH ZP (wBG h35)) (oL Z (hS24.ldCA (f:=0) hC41 Z Z Tryz.isAgg132 ZP (us:=[jV x34.Bib,jV x34.Time,jV x34.Gate]) Z Z) (oR Z (ZB (Runs.neS (enc:=wAB) (a:=x26) (b:=x34) Z Z Z wOu wOt) (congrArg nB (decide_not).symm)) (eN (ifc hm36 ?_ ?_))))
   ·intro c42 hm43
    refine zZ (zp (fun h=>h c42.out)) (zn (zW (zH (rR fL2 Z (oR Z (ZB (zO Z fi15 Z) (congrArg (jV) hi23.out)) (oM Z Z (zV ?_)))))))
    obtain rfl:=nA hm43
    exact zH ⟨Z,_,Z,⟨U16,Z,f19,f20,f21,le17,hS24⟩⟩
   ·intro c42 hm44
    refine cT Z c42 (sR fL1 Z (oA Z Z (eN (zX (zw (zS ?_))))))
    have q:=wAl hm44
    obtain ⟨v45,hm46,e47⟩:=q
    obtain rfl:=wDJ hm2 hX6 (hb13 v45 e47)
    refine zS (zw (zS ?_))
    have hE:=nA hm46;first | subst r | cases hE
    exact ⟨Z,_,(zz Z),U16,_,hS24,Z,Z⟩
  ·rintro ⟨⟩ σ48 W49 ⟨U52,fi51,f55,f56,f57,le53,hS54⟩ hb50
   have hm58:=wDm hm2 hX6 hb50
   try dsimp only at hm58
   have c59:Hid (¬ ((↑(((↑p0.length:Int):Int) - 0).toNat:Int) < (↑p0.length:Int))):=zE (wBJ)
   refine sR fL1 Z (oR Z (zG Z fi51 f57) (eN (zF (cF Z c59 (zo (zN (zN (zj (zH (sR fL1 Z (oA Z Z (eN (zX ?_)))))))))))))
   have hE:=nA hm58;first | subst r | cases hE
   exact ⟨Z,_,(zz Z),U52,_,hS54,Z,Z⟩
 ·have hm60:=hm;rw [if_neg c1] at hm60;replace c1:=zE c1
  refine cT Z c1 (sR fL1 Z (oA Z Z (eN (zX (zS ?_)))))
  have hE:=nA hm60;first | subst r | cases hE
  exact ⟨Z,_,(zz Z),U,_,hS,Z,Z⟩
theorem wDH (p0:List wAY) (pA0:Option Addr) (pc0:Nat) (p1:List wAC) (pA1:Option Addr) (pc1:Nat) (w:World) (U:PHeap) (hS:St0 w U []) (ha0:Sl U 3 pA0 pc0 p0.length (hH wAa p0)) (ha1:Sl U 3 pA1 pc1 p1.length (hH wAB p1)) {r:Bool} (hm:wBI p0 p1=some r):Gv Tryz.prog 18 [.slice pA0 p0.length pc0,.slice pA1 p1.length pc1] w (wDR w [] U (fun U_ L_ v=>v=.bool r/\L_=[])):=by
 unfold wBI at hm
 refine Gv.of Tryz.func18 Z Tryz.ntmps18 Tryz.results18 Z (sR fL1 Z (oA Z Z (eN (sR (.fl 0 (.fx 1 (.fl 2 (.fx 3 (.fl 4 (.nil)) .stop)) .stop)) Z (oM Z Z (bnK hm fun x1 h2 hm3=>zL 0 Z Z Z Z (zM Z Z Tryz.call66 (zA Z zU) Z) hS (fun hs=>wDd p0 pA0 pc0 w U hs ha0 h2) (.inr Z) ?_))))))
 rintro U4 L5 v6 W7 le8 hS9 ⟨A10,c11,rfl,rfl⟩
 have hS13:sW w U U4 [.row A10 c11 132 3 (hH wAB x1)] W7:=hS9
 refine oM Z Z ?_
 have q:=hS13.freezeR (k:=0) (n:=x1.length) rfl (wAG (f:=wAB) (sz:=3) (fun _=>rfl) x1) (by decide)
 obtain ⟨U14,le15,hs16,hS17⟩:=q
 have hS18:sW w U U14 [] W7:=hS17
 have h19:=ha1.le le8
 have h20:=h19.le le15
 refine bnK hm3 fun x21 h22 hm23=>zL 0 Z Z Z Z (zM Z Z Tryz.call83 (zA Z (zA Z zU)) Z) hS18 (fun hs=>wBY x1 A10 c11 p1 pA1 pc1 W7 U14 hs hs16 h20 h22) (.inr Z) ?_
 rintro U24 L25 v26 W27 le28 hS29 ⟨rfl,rfl⟩
 have hS30:sW w U U24 [] W27:=hS29
 refine oA Z Z (eN (zX ?_))
 have hE:=nA hm23;first | subst r | cases hE
 exact ⟨Z,_,(zz Z),U24,_,hS30,Z,Z⟩
theorem wBt (p0:List wAA) (pA0:Option Addr) (pc0:Nat) (p1:List wAA) (pA1:Option Addr) (pc1:Nat) (w:World) (U:PHeap) (hS:St0 w U []) (ha0:Sl U 2 pA0 pc0 p0.length (hH wAI p0)) (ha1:Sl U 2 pA1 pc1 p1.length (hH wAI p1)) {r:Bool} (hm:wAV p0 p1=some r):Gv Tryz.prog 19 [.slice pA0 p0.length pc0,.slice pA1 p1.length pc1] w (wDR w [] U (fun U_ L_ v=>v=.bool r/\L_=[])):=by
 unfold wAV at hm
 refine Gv.of Tryz.func19 Z Tryz.ntmps19 Tryz.results19 Z (sR fL1 Z (oA Z Z (eN (zF (sR fL5 Z (oM Z Z (oR Z (zi Z Z zQ) (oM Z Z (oR Z (zi Z Z zQ) (oR Z (Runs.neq Z Z Z) (eN ?_)))))))))))
 by_cases c1:(↑p0.length:Int)=(↑p1.length:Int)
 ·have hm2:=hm;rw [if_pos c1] at hm2;replace c1:=zE c1
  refine zZ (zp (fun h=>h c1.out)) (kN (zF (sR fL3 Z (oM Z Z (oR Z (zi Z Z zQ) (oM Z Z (eN (zK ?_))))))))
  have q:=wCc hm2
  obtain ⟨r5,hX6⟩:=q
  have q:=wCb hX6
  obtain ⟨hle7,hf8⟩:=q
  replace hle7:=zE hle7
  refine CK.forN (fun k4 _ σ_ w_=>∃ (U_:PHeap),σ_ 13=jV (↑k4:Int)/\σ_ 0=.slice pA0 p0.length pc0/\σ_ 1=.slice pA1 p1.length pc1/\σ_ 12=jV (↑p0.length:Int)/\PHeap.Le U U_/\sW w U U_ [] w_) hf8 ?_ ?_ ?_
  ·exact ⟨U,Z,Z,Z,Z,(zJ _),hS⟩
  ·rintro k4 ⟨⟩ xx11 σ9 W10 hk14 ⟨U16,fi15,f19,f20,f21,le17,hS18⟩ hx12 hb13
   try dsimp only at hx12
   have c22:Hid ((↑k4:Int) < (↑p0.length:Int)):=zE (wBe hk14)
   replace hk14:=zE hk14
   have hi23:Hid (w64 ((↑k4:Int) + 1)=(↑(k4 + 1):Int)):=zE (by have h1:=hle7.out;have h2:=c22.out;rw [wAy] <;> omega)
   refine sR fL1 rfl (zg rfl rfl rfl rfl (fun _=>zG rfl fi15 f21) (eN (zF (cT Z c22 (kN (zF (zK (sR fL2 rfl (zD rfl rfl rfl rfl rfl fi15 (OKS.ra rfl rfl rfl rfl rfl rfl (eN (zF (ZD ZA [3,3,3,1,3,3,3,1,3] fL9 (by kernel_rfl) ?_)))))))))))))
   have hS24:=hS18.drew
   generalize hw_W25:({ W10 with drawn:=W10.drawn + 1 }:World)=W25 at hS24 ⊢
   refine oM Z f19 (oM Z Z (bnK hx12 fun x26 h27 hm28=>?_))
   have h29:=ha0.le le17
   have q:=h29.el (fun _=>rfl) (wAc h27)
   obtain ⟨b30,off31,hA32,hC33⟩:=q
   refine oR Z (zk Z Z hA32 Z zQ zf (wBG h27)) (oL Z (hS24.ldCA (f:=0) hC33 Z Z ZL zf (us:=[jV x26.Bib,jV x26.Time]) Z Z) (oM Z f20 (oM Z Z (bnK hm28 fun x34 h35 hm36=>?_))))
   have h37:=ha1.le le17
   have q:=h37.el (fun _=>rfl) (wAc h35)
   obtain ⟨b38,off39,hA40,hC41⟩:=q
   refine oR Z (zk Z Z hA40 Z zQ zf (wBG h35)) (oL Z (hS24.ldCA (f:=0) hC41 Z Z ZL zf (us:=[jV x34.Bib,jV x34.Time]) Z Z) (oR Z (ZB (Runs.neS (enc:=wAI) (a:=x26) (b:=x34) Z Z Z eqT28 eqG28) (congrArg nB (decide_not).symm)) (eN (ifc hm36 ?_ ?_))))
   ·intro c42 hm43
    refine zZ (zp (fun h=>h c42.out)) (zn (zW (zH (rR fL2 Z (oR Z (ZB (zO Z fi15 Z) (congrArg (jV) hi23.out)) (oM Z Z (zV ?_)))))))
    obtain rfl:=nA hm43
    exact zH ⟨Z,_,Z,⟨U16,Z,f19,f20,f21,le17,hS24⟩⟩
   ·intro c42 hm44
    refine cT Z c42 (sR fL1 Z (oA Z Z (eN (zX (zw (zS ?_))))))
    have q:=wAl hm44
    obtain ⟨v45,hm46,e47⟩:=q
    obtain rfl:=wDJ hm2 hX6 (hb13 v45 e47)
    refine zS (zw (zS ?_))
    have hE:=nA hm46;first | subst r | cases hE
    exact ⟨Z,_,(zz Z),U16,_,hS24,Z,Z⟩
  ·rintro ⟨⟩ σ48 W49 ⟨U52,fi51,f55,f56,f57,le53,hS54⟩ hb50
   have hm58:=wDm hm2 hX6 hb50
   try dsimp only at hm58
   have c59:Hid (¬ ((↑(((↑p0.length:Int):Int) - 0).toNat:Int) < (↑p0.length:Int))):=zE (wBJ)
   refine sR fL1 Z (oR Z (zG Z fi51 f57) (eN (zF (cF Z c59 (zo (zN (zN (zj (zH (sR fL1 Z (oA Z Z (eN (zX ?_)))))))))))))
   have hE:=nA hm58;first | subst r | cases hE
   exact ⟨Z,_,(zz Z),U52,_,hS54,Z,Z⟩
 ·have hm60:=hm;rw [if_neg c1] at hm60;replace c1:=zE c1
  refine cT Z c1 (sR fL1 Z (oA Z Z (eN (zX (zS ?_)))))
  have hE:=nA hm60;first | subst r | cases hE
  exact ⟨Z,_,(zz Z),U,_,hS,Z,Z⟩
theorem wCC (p0:List wAA) (pA0:Option Addr) (pc0:Nat) (p1:wAJ) (w:World) (U:PHeap) (hS:St0 w U []) (ha0:Sl U 2 pA0 pc0 p0.length (hH wAI p0)) {r:Bool} (hm:wAm p0 p1=some r):Gv Tryz.prog 3 [.slice pA0 p0.length pc0,.agg #[jV p1.Unit,jV p1.Limit]] w (wDR w [] U (fun U_ L_ v=>v=.bool r/\L_=[])):=by
 unfold wAm at hm
 refine Gv.of Tryz.func3 Z Tryz.ntmps3 Tryz.results3 Z (sR (.fx 0 (.fl 1 (.nil)) .stop) Z ?_)
 let B0:List Value:=[jV p1.Unit,jV p1.Limit]
 refine OKS.box (cs:=B0) rfl rfl rfl rfl rfl rfl (by rfl) hS ?_
 intro W1 b2 hS3
 refine oA Z Z (eN (zF (sR fL3 Z (oM Z Z (oR Z (zi Z Z zQ) (oR Z (Runs.gtr Z Z Z) (eN ?_)))))))
 by_cases c5:64 < (↑p0.length:Int)
 ·have hm6:=hm;rw [if_pos c5] at hm6;replace c5:=zE c5
  refine cT Z c5 (sR (.fx 0 (.fl 1 (.nil)) .stop) Z (bnK hm6 fun x7 h8 hm9=>zL 0 Z Z Z Z (zM Z Z Tryz.call11 zU Z) hS3 (fun hs=>wCB W1 U hs h8) (.inr Z) ?_))
  rintro U10 L11 v12 W13 le14 hS15 ⟨rfl,rfl⟩
  have hS16:sW w U U10 [.blk b2 24 B0] W13:=hS15
  refine oA Z Z (eN (zX (zS ?_)))
  have hE:=nA hm9;first | subst r | cases hE
  exact ⟨rfl,_,(zz rfl),U10,_,(hS16.pick [] _ (by decide) rfl),rfl,rfl⟩
 ·have hm17:=hm;rw [if_neg c5] at hm17;replace c5:=zE c5
  refine cF Z c5 (kN (sR (.fl 0 (.fx 1 (.fl 2 (.nil)) .stop)) Z (oM Z Z (bnK hm17 fun x18 h19 hm20=>zL 0 Z Z Z Z (zM Z Z Tryz.call12 (zA Z zU) Z) hS3 (fun hs=>wBr p0 pA0 pc0 W1 U hs ha0 h19) (.inr Z) ?_))))
  rintro U21 L22 v23 W24 le25 hS26 ⟨A27,c28,rfl,rfl⟩
  let B1:Res:=.row A27 c28 28 2 (hH wAI x18)
  have hS30:sW w U U21 [B1,.blk b2 24 B0] W24:=hS26
  refine oA Z Z (eN (sR fL1 Z (oA Z Z (eN (zF (sR fL3 Z (oM Z Z (oR Z (zi Z Z zQ) (oM Z Z (eN (zK (bnK hm20 fun y53 hf50 hm49=>?_))))))))))))
  have q:=wBh hf50
  obtain ⟨hle51,hf52⟩:=q
  replace hle51:=zE hle51
  refine CK.forN' (fun k48 l44 σ_ w_=>∃ (U_:PHeap) (A45:Option Addr) (c46:Nat),σ_ 23=jV (↑k48:Int)/\σ_ 0=.slice pA0 p0.length pc0/\σ_ 3=.pointer (some ⟨b2,0,none⟩)/\σ_ 5=.slice A27 x18.length c28/\σ_ 6=.slice A45 l44.length c46/\σ_ 21=.slice pA0 p0.length pc0/\σ_ 22=jV (↑p0.length:Int)/\PHeap.Le U21 U_/\sW w U U_ [.blk b2 24 B0,B1,.row A45 c46 30 2 (hH wAK l44)] w_) hf52 ?_ ?_ ?_
  ·have hS54:=hS30.nilrow 30 2
   exact ⟨U21,none,0,rfl,rfl,rfl,rfl,rfl,rfl,rfl,(zJ _),(hS54.pick [2,1,0] _ (by decide) rfl)⟩
  ·rintro k48 l44 xx58 σ56 W57 hk61 ⟨U63,A45,c46,fi62,f66,f67,f68,f69,f70,f71,le64,hS65⟩ hx59
   have c72:Hid ((↑k48:Int) < (↑p0.length:Int)):=zE (wBe hk61)
   replace hk61:=zE hk61
   have hi73:Hid (w64 ((↑k48:Int) + 1)=(↑(k48 + 1):Int)):=zE (by have h1:=hle51.out;have h2:=c72.out;rw [wAy] <;> omega)
   refine sR fL1 Z (oR Z (zG Z fi62 f71) (eN (zF (cT Z c72 (kN (zF (zK (sR (.fl 0 (.fl 1 (.fx 2 (.fx 3 (.nil) .stop) .stop))) Z (bnK hx59 fun x74 h75 hm76=>?_)))))))))
   have h77:=ha0.le le25
   have h78:=h77.le le64
   have q:=h78.el (fun _=>rfl) (wAc h75)
   obtain ⟨b79,off80,hA81,hC82⟩:=q
   refine oR Z (zk Z f70 hA81 fi62 zQ zf (wBG h75)) (oL Z (hS65.ldCA (f:=0) hC82 Z Z ZL zf (us:=[jV x74.Bib,jV x74.Time]) Z Z) (OKS.alloc (cs:=[jV 0,jV 0]) Z Z Z Z Z Tryz.zeroValue28 Z hS65 ?_))
   intro W83 b84 hS85
   let B2:List Value:=[jV x74.Bib,jV x74.Time]
   refine OKS.st (j:=0) (vs:=B2) Z Z Z Z hS85 Z Z Z Z zf (zd Z) Z Z Z ?_
   intro W87 hS88
   let B3:Res:=.row A45 c46 30 2 (hH wAK l44)
   have hS89:sW w U U63 [.blk b84 28 B2,.blk b2 24 B0,B1,B3] W87:=hS88
   refine eN (rR (.fl 0 (.fl 1 (.fx 2 (.fx 3 (.fl 4 (.nil)) .stop) .stop))) Z (oM Z f69 (oL Z (hS89.ldBA (j:=0) Z Z Z ZL zf (vs:=B2) Z Z) (ZK (pv:=[(0,.agg B2.toArray)]) (zs:=[jV 0,jV 0]) (cs:=B2) Z Z Z Z Z (wBH Z wCA) zP ZI Tryz.zeroValue30 Z Z Z Z Z hS89 ?_))))
   intro W90 b91 hS92
   let B4:Res:=.row (some ⟨b91,0,none⟩) 1 30 2 (hH wAK [(⟨x74.Bib,x74.Time⟩:wAN)])
   have hS94:sW w U U63 [B4,.blk b84 28 B2,.blk b2 24 B0,B1,B3] W90:=hS92
   refine bnK hm76 fun x95 h96 hm97=>ZO (j:=4) (enc:=wAK) (xs:=l44) (ys:=[(⟨x74.Bib,x74.Time⟩:wAN)]) (zs:=x95) rfl rfl rfl rfl rfl Tryz.underlying29 wOq rfl rfl rfl rfl rfl rfl hS94 rfl rfl rfl (hS94.srcR (j:=0) rfl (by decide) (wAG (f:=wAK) (sz:=2) (fun _=>rfl) [(⟨x74.Bib,x74.Time⟩:wAN)])) (fun _=>rfl) (fun _=>rfl) h96 rfl ?_
   intro A98 c99 W100 hS101
   have hS102:sW w U U63 [B4,.blk b84 28 B2,.blk b2 24 B0,B1,.row A98 c99 30 2 (hH wAK x95)] W100:=hS101
   refine oA Z Z (zV (zW (zH (rR fL2 Z (oR Z (ZB (zO Z fi62 Z) (congrArg (jV) hi73.out)) (oM Z Z (zV ?_)))))))
   cases hm97
   exact zH ⟨rfl,⟨U63,A98,c99,rfl,f66,f67,f68,rfl,f70,f71,le64,(hS102.pick [2,3,4] _ (by decide) rfl)⟩⟩
  ·rintro σ106 W107 ⟨U115,A113,c114,fi109,f118,f119,f120,f121,f122,f123,le116,hS117⟩
   have c124:Hid (¬ ((↑(((↑p0.length:Int):Int) - 0).toNat:Int) < (↑p0.length:Int))):=zE (wBJ)
   refine sR fL1 Z (oR Z (zG Z fi109 f123) (eN (zF (cF Z c124 (zo (zN (zN (zj (zH (sR (.fl 0 (.fl 1 (.fx 2 (wPL (.nil)) .stop))) Z (oM Z f120 (oL Z (hS117.ldBA (j:=0) Z Z f119 Tryz.isAgg24 Tryz.sizeOf24 (vs:=B0) Z Z) ?_))))))))))))
   have q:=hS117.freezeR (k:=1) (n:=x18.length) rfl (wAG (f:=wAI) (sz:=2) (fun _=>rfl) x18) (by decide)
   obtain ⟨U125,le126,hs127,hS128⟩:=q
   let B5:Res:=.row A113 c114 30 2 (hH wAK y53)
   have hS129:sW w U U125 [.blk b2 24 B0,B5] W107:=hS128
   have q:=bnd hm49
   obtain ⟨⟨x130,x131⟩,h132,hm133⟩:=q
   try dsimp only at hm133
   refine zL 0 Z Z Z Z (zM Z Z Tryz.call13 (zA Z (zA Z zU)) Z) hS129 (fun hs=>wCo x18 A27 c28 p1 W107 U125 hs hs127 h132) (.inr Z) ?_
   rintro U134 L135 v136 W137 le138 hS139 ⟨A140,c141,rfl,rfl⟩
   let B6:Res:=.row A140 c141 3 1 (hH KL.encI x130)
   have hS143:sW w U U134 [B6,.blk b2 24 B0,B5] W137:=hS139
   refine oM Z Z (oR Z (ZQ Z Z (v:=.slice A140 x130.length c141) Z) (oR Z (ZQ Z Z (v:=jV x131) Z) (oA Z Z (oA Z Z (eN (sR (wCK (.fx 5 (wMe (.nil)) .stop)) Z (oM Z f121 (oR Z (zy Z f119 ZG Z zC) (oL Z (hS143.ldB (j:=1) Z Z Z zI (v:=jV p1.Unit) Z) (oR Z (zy Z f119 ZG Z zC) (oL Z (hS143.ldB (j:=1) Z Z Z zI (v:=jV p1.Limit) Z) ?_)))))))))))
   have q:=hS143.freezeR (k:=2) (n:=y53.length) rfl (wAG (f:=wAK) (sz:=2) (fun _=>rfl) y53) (by decide)
   obtain ⟨U144,le145,hs146,hS147⟩:=q
   have hS148:sW w U U144 [B6,.blk b2 24 B0] W137:=hS147
   have q:=bnd hm133
   obtain ⟨⟨x149,x150⟩,h151,hm152⟩:=q
   try dsimp only at hm152
   refine zL 0 Z Z Z Z (zM Z Z Tryz.call14 (zA Z (zA Z (zA Z zU))) Z) hS148 (fun hs=>wBk y53 A113 c114 p1.Unit p1.Limit W137 U144 hs hs146 h151) (.inr Z) ?_
   rintro U153 L154 v155 W156 le157 hS158 ⟨A159,c160,rfl,rfl⟩
   let B7:Res:=.row A159 c160 3 1 (hH KL.encI x149)
   have hS162:sW w U U153 [B7,B6,.blk b2 24 B0] W156:=hS158
   refine oM Z Z (oR Z (ZQ Z Z (v:=.slice A159 x149.length c160) Z) (oR Z (ZQ Z Z (v:=jV x150) Z) (oA Z Z (oA Z Z (eN (zF (sR (wNm (.fx 6 (.fl 7 (.fl 8 (.nil))) .stop)) Z (oM Z Z (oM Z Z (oR Z (Runs.neq Z Z Z) (oM Z Z (ifc hm152 ?_ ?_))))))))))))
   ·intro c163 hm164
    refine zD Z Z Z (zh Z Z (zp (fun h=>h c163.out))) Z Z (zD Z Z Z (zh Z Z (zp (fun h=>h c163.out))) Z Z ?_)
    have q:=hS162.freezeR (k:=1) (n:=x130.length) rfl (wAG (f:=KL.encI) (sz:=1) (fun _=>rfl) x130) (by decide)
    obtain ⟨U165,le166,hs167,hS168⟩:=q
    have hS169:sW w U U165 [B7,.blk b2 24 B0] W156:=hS168
    have q:=hS169.freezeR (k:=0) (n:=x149.length) rfl (wAG (f:=KL.encI) (sz:=1) (fun _=>rfl) x149) (by decide)
    obtain ⟨U170,le171,hs172,hS173⟩:=q
    have hS174:sW w U U170 [.blk b2 24 B0] W156:=hS173
    have h175:=hs167.le le171
    refine bnK hm164 fun x176 h177 hm178=>zL 0 Z Z Z (zh Z Z (zp (fun h=>h c163.out))) (zM Z Z Tryz.call15 (zA Z (zA Z zU)) Z) hS174 (fun hs=>wCq x130 A140 c141 x149 A159 c160 W156 U170 hs h175 hs172 h177) (.inr Z) ?_
    rintro U179 L180 v181 W182 le183 hS184 ⟨rfl,rfl⟩
    have hS185:sW w U U179 [.blk b2 24 B0] W182:=hS184
    refine zg Z Z Z (zh Z Z (zp (fun h=>h c163.out))) (fun _=>Runs.notT Z Z) (oR Z (zR Z (zp (fun h=>h c163.out)) Z) (eN (ifc hm178 ?_ ?_)))
    ·intro c186 hm187
     refine zZ (nC c186.out) (kN (sR (.fl 0 (.fl 1 (.fx 2 (wPL (.nil)) .stop))) Z (oM Z f120 (oL Z (hS185.ldBA (j:=0) Z Z f119 Tryz.isAgg24 Tryz.sizeOf24 (vs:=B0) Z Z) ?_))))
     have h188:=hs127.le le138
     have h189:=h188.le le145
     have h190:=h189.le le157
     have h191:=h190.le le166
     have h192:=h191.le le171
     have h193:=h192.le le183
     have q:=bnd hm187
     obtain ⟨⟨x194,x195⟩,h196,hm197⟩:=q
     try dsimp only at hm197
     refine zL 0 Z Z Z Z (zM Z Z Tryz.call16 (zA Z (zA Z zU)) Z) hS185 (fun hs=>wFS x18 A27 c28 p1 W182 U179 hs h193 h196) (.inr Z) ?_
     rintro U198 L199 v200 W201 le202 hS203 ⟨A204,c205,rfl,rfl⟩
     let B8:Res:=.row A204 c205 54 3 (hH wAa x194)
     have hS207:sW w U U198 [B8,.blk b2 24 B0] W201:=hS203
     refine oM Z Z (oR Z (ZQ Z Z (v:=.slice A204 x194.length c205) Z) (oR Z (ZQ Z Z (v:=jV x195) Z) (oA Z Z (oA Z Z (eN (zF (CK.fresh fun σ208 hσ209=>?_)))))))
     have f210:σ208 0=.slice pA0 p0.length pc0:=(hσ209 0).trans f118
     have f211:σ208 3=.pointer (some ⟨b2,0,none⟩):=(hσ209 3).trans f119
     have f212:σ208 5=.slice A27 x18.length c28:=(hσ209 5).trans f120
     have f213:σ208 6=.slice A113 y53.length c114:=(hσ209 6).trans f121
     have f214:σ208 10=jV x195:=(hσ209 10).trans rfl
     have f215:σ208 12=jV x150:=(hσ209 12).trans rfl
     have f216:σ208 13=.slice A204 x194.length c205:=(hσ209 13).trans rfl
     clear hσ209
     refine rR (wCK (.fx 5 (wMe (.nil)) .stop)) Z (oM Z f213 (oR Z (zy Z f211 ZG Z zC) (oL Z (hS207.ldB (j:=1) Z Z Z zI (v:=jV p1.Unit) Z) (oR Z (zy Z f211 ZG Z zC) (oL Z (hS207.ldB (j:=1) Z Z Z zI (v:=jV p1.Limit) Z) ?_)))))
     have h217:=hs146.le le157
     have h218:=h217.le le166
     have h219:=h218.le le171
     have h220:=h219.le le183
     have h221:=h220.le le202
     have q:=bnd hm197
     obtain ⟨⟨x222,x223⟩,h224,hm225⟩:=q
     try dsimp only at hm225
     refine zL 0 Z Z Z Z (zM Z Z Tryz.call17 (zA Z (zA Z (zA Z zU))) Z) hS207 (fun hs=>wCr y53 A113 c114 p1.Unit p1.Limit W201 U198 hs h221 h224) (.inr Z) ?_
     rintro U226 L227 v228 W229 le230 hS231 ⟨A232,c233,rfl,rfl⟩
     let B9:Res:=.row A232 c233 132 3 (hH wAB x222)
     have hS235:sW w U U226 [B9,B8,.blk b2 24 B0] W229:=hS231
     refine oM Z Z (oR Z (ZQ Z Z (v:=.slice A232 x222.length c233) Z) (oR Z (ZQ Z Z (v:=jV x223) Z) (oA Z Z (oA Z Z (eN (sR (wNm (.fx 6 (wPN (.fx 11 (.fl 12 (.fl 13 (.fx 14 (.fl 15 (.fl 16 (.nil))) .stop))) .stop)) .stop)) Z (oM Z f214 (oM Z Z (oR Z (Runs.eql Z Z Z) (oM Z Z (ifc hm225 ?_ ?_)))))))))))
     ·intro c236 hm237
      refine zD Z Z Z (wT Z c236) Z f216 (zD Z Z Z (wT Z c236) Z Z ?_)
      have q:=hS235.freezeR (k:=1) (n:=x194.length) rfl (wAG (f:=wAa) (sz:=3) (fun _=>rfl) x194) (by decide)
      obtain ⟨U238,le239,hs240,hS241⟩:=q
      have hS242:sW w U U238 [B9,.blk b2 24 B0] W229:=hS241
      have q:=hS242.freezeR (k:=0) (n:=x222.length) rfl (wAG (f:=wAB) (sz:=3) (fun _=>rfl) x222) (by decide)
      obtain ⟨U243,le244,hs245,hS246⟩:=q
      have hS247:sW w U U243 [.blk b2 24 B0] W229:=hS246
      have h248:=hs240.le le244
      refine bnK hm237 fun x249 h250 hm251=>zL 0 Z Z Z (wT Z c236) (zM Z Z Tryz.call18 (zA Z (zA Z zU)) Z) hS247 (fun hs=>wDH x194 A204 c205 x222 A232 c233 W229 U243 hs h248 hs245 h250) (.inr Z) ?_
      rintro U252 L253 v254 W255 le256 hS257 ⟨rfl,rfl⟩
      have hS258:sW w U U252 [.blk b2 24 B0] W255:=hS257
      refine oR Z (zY Z (ZJ c236.out) Z) (oM Z Z (ifc hm251 ?_ ?_))
      ·intro c259 hm260
       refine zD Z Z Z (zh Z Z (congrArg nB c259.out)) Z f212 (zD Z Z Z (zh Z Z (congrArg nB c259.out)) Z f210 ?_)
       have h261:=h193.le le202
       have h262:=h261.le le230
       have h263:=h262.le le239
       have h264:=h263.le le244
       have h265:=h264.le le256
       have h266:=ha0.le le25
       have h267:=h266.le le116
       have h268:=h267.le le126
       have h269:=h268.le le138
       have h270:=h269.le le145
       have h271:=h270.le le157
       have h272:=h271.le le166
       have h273:=h272.le le171
       have h274:=h273.le le183
       have h275:=h274.le le202
       have h276:=h275.le le230
       have h277:=h276.le le239
       have h278:=h277.le le244
       have h279:=h278.le le256
       refine bnK hm260 fun x280 h281 hm282=>zL 0 Z Z Z (zh Z Z (congrArg nB c259.out)) (zM Z Z Tryz.call19 (zA Z (zA Z zU)) Z) hS258 (fun hs=>wBt x18 A27 c28 p0 pA0 pc0 W255 U252 hs h265 h279 h281) (.inr Z) ?_
       rintro U283 L284 v285 W286 le287 hS288 ⟨rfl,rfl⟩
       have hS289:sW w U U283 [.blk b2 24 B0] W286:=hS288
       refine oR Z (zY Z (congrArg nB c259.out) Z) (oM Z Z (ifc hm282 ?_ ?_))
       ·intro c290 hm291
        refine bnK hm291 fun x292 h293 hm294=>zL 0 Z Z Z (zh Z Z (congrArg nB c290.out)) (zM Z Z Tryz.call11 zU Z) hS289 (fun hs=>wCB W286 U283 hs h293) (.inr Z) ?_
        rintro U295 L296 v297 W298 le299 hS300 ⟨rfl,rfl⟩
        have hS301:sW w U U295 [.blk b2 24 B0] W298:=hS300
        refine oR Z (zY Z (congrArg nB c290.out) Z) (oA Z Z (eN (zX ?_)))
        have hE:=nA hm294;first | subst r | cases hE
        exact ⟨rfl,_,(zz rfl),U295,_,(hS301.pick [] _ (by decide) rfl),rfl,rfl⟩
       ·intro c290 hm302
        refine OKS.px Z Z Z (zt Z Z (congrArg nB (nD.2 c290.out)) Z) (oR Z (zR Z (congrArg nB (nD.2 c290.out)) Z) (oA Z Z (eN (zX ?_))))
        have hE:=nA hm302;first | subst r | cases hE
        exact ⟨rfl,_,(zz rfl),U283,_,(hS289.pick [] _ (by decide) rfl),rfl,rfl⟩
      ·intro c259 hm303
       refine ze Z Z Z (zt Z Z (congrArg nB (nD.2 c259.out)) Z) (ze Z Z Z (zt Z Z (congrArg nB (nD.2 c259.out)) Z) (OKS.px Z Z Z (zt Z Z (congrArg nB (nD.2 c259.out)) Z) (oR Z (zR Z (congrArg nB (nD.2 c259.out)) Z) (oM Z Z (OKS.px Z Z Z (zt Z Z Z Z) (oR Z (zR Z Z Z) (oA Z Z (eN (zX ?_)))))))))
       have hE:=nA hm303;first | subst r | cases hE
       exact ⟨rfl,_,(zz rfl),U252,_,(hS258.pick [] _ (by decide) rfl),rfl,rfl⟩
     ·intro c236 hm304
      refine oF Z c236 (oF Z c236 (OKS.px Z Z Z (zt Z Z (zp c236.out) Z) (oR Z (zR Z (zp c236.out) Z) (oM Z Z (oN Z (oN Z (OKS.px Z Z Z (zt Z Z Z Z) (oR Z (zR Z Z Z) (oM Z Z (OKS.px Z Z Z (zt Z Z Z Z) (oR Z (zR Z Z Z) (oA Z Z (eN (zX ?_))))))))))))))
      have hE:=nA hm304;first | subst r | cases hE
      exact ⟨rfl,_,(zz rfl),U226,_,(hS235.pick [] _ (by decide) rfl),rfl,rfl⟩
    ·intro c186 hm305
     refine ZE (nF (c186.out)) (sR fL1 Z (oA Z Z (eN (zX (zS ?_)))))
     have hE:=nA hm305;first | subst r | cases hE
     exact ⟨rfl,_,(zz rfl),U179,_,(hS185.pick [] _ (by decide) rfl),rfl,rfl⟩
   ·intro c163 hm306
    refine oT Z c163 (oT Z c163 (OKS.px Z Z Z (zt Z Z (ZJ c163.out) Z) (oT Z c163 (oR Z (zY Z (ZJ c163.out) Z) (eN (ZE Z (sR fL1 Z (oA Z Z (eN (zX (zS ?_)))))))))))
    have hE:=nA hm306;first | subst r | cases hE
    exact ⟨rfl,_,(zz rfl),U153,_,(hS162.pick [] _ (by decide) rfl),rfl,rfl⟩
end Go.Proofs.YtghaibkggdecnaaGreat
