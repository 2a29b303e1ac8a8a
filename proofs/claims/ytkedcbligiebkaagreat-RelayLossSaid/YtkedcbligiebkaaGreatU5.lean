import Derived.Test.YtkedcbligiebkaaGreatU4
set_option linter.all false
open List renaming flatMap->hH,length_append->nG
open Option.some renaming inj->nA
open Go.Value renaming bool->nB
open Bool renaming eq_false_iff->nD
open Prod.mk renaming injEq->nE
open Nat renaming blt->nH,le_of_ble_eq_true->nI
namespace Go.Proofs.YtkedcbligiebkaaGreat
open Go.KL
def gAa:Sch:=.fl 1 (.fl 2 .nil)
def gAb:Sch:=.fl 2 (.fl 3 .nil)
def gAc:Sch:=.fl 3 (.fl 4 .nil)
def gAd:Sch:=.fl 4 (.fl 5 .nil)
def gAe:Sch:=.fl 7 (.fl 8 .nil)
def gAf:Sch:=.fx 2 (.fx 3 .nil .stop) .stop
def gAg:Sch:=.fx 5 (.fl 6 .nil) .stop
def gAh:Sch:=.fl 13 (.fx 14 .nil .stop)
def gAi:Sch:=.fx 0 (.fl 1 .nil) .stop
def gAj:Sch:=.fx 1 (.fl 2 .nil) .stop
def gAk:Sch:=.fx 8 (.fl 9 .nil) .stop
def gAl:Sch:=.fx 5 (.fx 6 .nil .stop) .stop
def gAm:Sch:=.fx 0 (.fx 6 .nil .stop) .stop
def gAn:Sch:=.fl 1 (.fx 2 (.fl 3 .nil) .stop)
def gAo:Sch:=.fx 12 gAh .stop
def gAp:Sch:=.fl 0 gAj
def gAq:Sch:=.fx 4 gAl .stop
def gAr:Sch:=.fx 2 gAl .stop
def gAs:Sch:=.fx 10 gAo .stop
def gAt:Sch:=.fx 0 gAl (.fx 5 gAm .stop)
def gAu:Sch:=.fl 0 (.fl 1 (.fx 2 gAc .stop))
def gAv:Sch:=.fl 0 (.fx 1 (.fl 2 (.fx 3 (.fx 4 .nil .stop) .stop)) .stop)
def gAw:Sch:=.fl 11 (.fx 9 gAs .stop)
def gAx:Sch:=.fx 7 (.fl 11 gAs) .stop
def gAy:Sch:=.fx 5 (.fl 11 gAs) .stop
def gAz:Sch:=.fx 4 gAy .stop
def gBa:Sch:=.fx 5 gAw (.fx 9 gAy .stop)
def gBb:Sch:=.fx 5 gAx (.fx 7 gAy .stop)
def gBc:Sch:=.fx 3 gAz .stop
def gBd:Sch:=.fx 4 gBa (.fx 9 gAz .stop)
def gBe:Sch:=.fx 4 gBb (.fx 7 gAz .stop)
set_option maxHeartbeats 4000000
theorem Z {α:Type} {a:α}:a=a:=rfl
section
variable {r:Option Nat} {N:Nat} {P:Program} {l:List Oper} {Q:wCF} {D:List Deferred} {ks:List Nat} {σ:Env} {w:World} {i d j e:Nat} {s:Sch} {o:Oper} {b:Bool} {x:Operand} {v:Value} {p:Prop} {inst:Decidable p} {K:List Deferred->Env->World->Prop} {c1 c2:Code}
abbrev jV (n:Int):Value:=.int .i64 n
abbrev SW (w:World) (X:List Res) (U U':PHeap) (L:List Res) (w':World):Prop:=St ⟨w,X,U⟩ U' L w'
abbrev sW (w:World) (U U':PHeap) (L:List Res) (w':World):Prop:=St ⟨w,[],U⟩ U' L w'
abbrev St0 (w:World) (U:PHeap) (L:List Res):Prop:=St ⟨w,L,U⟩ U L w
theorem ifc {α:Type} {G p:Prop} {inst:Decidable p} {a b r:α} (h:@ite α p inst a b=r) (h1:Hid p->a=r->G) (h2:Hid (¬ p)->b=r->G):G:=by
 by_cases c:p
 rw [if_pos c] at h;exact h1 ⟨c⟩ h
 rw [if_neg c] at h;exact h2 ⟨c⟩ h
theorem bnK {α β:Type} {G:Prop} {o:Option α} {f:α->Option β} {r:β} (h:o.bind f=some r) (k:∀ x,o=some x->f x=some r->G):G:=by
 obtain ⟨x,h1,h2⟩:=bnd h
 exact k x h1 h2
theorem oR (h:(l[i]?,o.dst,nH d N,wanted l σ o)=(some o,some d,true,true)) (hr:∀ {w'},Runs P σ w' o v w') (k:OKS N P l Q D ks s (upd σ d v) w):OKS N P l Q D ks (.fl i s) σ w:=by
 simp only [nE] at h;exact OKS.r h.1 h.2.1 h.2.2.1 h.2.2.2 (fun _=>hr) k
theorem oL (h:(l[i]?,o.dst,nH d N,wanted l σ o,wOk (kOf ks i))=(some o,some d,true,true,false)) (hr:wEk P σ w o v) (k:OKS N P l Q D ks s (upd σ d v) w):OKS N P l Q D ks (.fl i s) σ w:=by
 simp only [nE] at h;exact OKS.m h.1 h.2.1 h.2.2.1 h.2.2.2.1 hr h.2.2.2.2 k
theorem oM (h:(l[i]?,o.dst,nH d N,wanted l σ o,o.op)=(some o,some d,true,true,.move x)) (hx:ev σ x=v) (k:OKS N P l Q D ks s (upd σ d v) w):OKS N P l Q D ks (.fl i s) σ w:=by
 simp only [nE] at h;exact OKS.rm h.1 h.2.1 h.2.2.1 h.2.2.2.1 h.2.2.2.2 hx k
theorem oA (h:(l[i]?,o.dst,nH d N,wanted l σ o,o.op)=(some o,some d,true,true,.assign x)) (hx:ev σ x=v) (k:OKS N P l Q D ks s (upd σ d v) w):OKS N P l Q D ks (.fl i s) σ w:=by
 simp only [nE] at h;exact OKS.ra h.1 h.2.1 h.2.2.1 h.2.2.2.1 h.2.2.2.2 hx k
theorem oF (h:(l[i]?,o.dst,nH d N,o.guard,(l[j]?).bind (·.dst),σ e,false == b)=(some o,some d,true,some (j,b),some e,.bool (decide p),false)) (c:Hid (¬ p)) (k:OKS N P l Q D ks s (upd σ d undef) w):OKS N P l Q D ks (.fl i s) σ w:=by
 simp only [nE] at h;exact OKS.p h.1 h.2.1 h.2.2.1 (wFJ h.2.2.2.1 h.2.2.2.2.1 (h.2.2.2.2.2.1.trans (wOj c.out)) h.2.2.2.2.2.2) k
theorem oT (h:(l[i]?,o.dst,nH d N,o.guard,(l[j]?).bind (·.dst),σ e,true == b)=(some o,some d,true,some (j,b),some e,.bool (decide p),false)) (c:Hid p) (k:OKS N P l Q D ks s (upd σ d undef) w):OKS N P l Q D ks (.fl i s) σ w:=by
 simp only [nE] at h;exact OKS.p h.1 h.2.1 h.2.2.1 (wFJ h.2.2.2.1 h.2.2.2.2.1 (h.2.2.2.2.2.1.trans (wDu c.out)) h.2.2.2.2.2.2) k
theorem oN {b2:Bool} (h:(l[i]?,o.dst,nH d N,o.guard,(l[j]?).bind (·.dst),σ e,b2 == b)=(some o,some d,true,some (j,b),some e,.bool b2,false)) (k:OKS N P l Q D ks s (upd σ d undef) w):OKS N P l Q D ks (.fl i s) σ w:=by
 simp only [nE] at h;exact OKS.p h.1 h.2.1 h.2.2.1 (wFJ h.2.2.2.1 h.2.2.2.2.1 h.2.2.2.2.2.1 h.2.2.2.2.2.2) k
theorem nC {a b:Bool} (h:a=b):nB (!a)=nB (!b):=h ▸ rfl
theorem nF {a:Bool} (h:¬ a=true):nB (!a)=nB (!false):=nC (nD.2 h)
theorem wT (h:(o.guard,(l[j]?).bind (·.dst),σ e)=(some (j,true),some e,.bool (decide p))) (c:Hid p):wanted l σ o=true:=by
 simp only [nE] at h;exact wGa h.1 h.2.1 (h.2.2.trans (wDu c.out))
theorem wF (h:(o.guard,(l[j]?).bind (·.dst),σ e)=(some (j,false),some e,.bool (decide p))) (c:Hid (¬ p)):wanted l σ o=true:=by
 simp only [nE] at h;exact wGa h.1 h.2.1 (h.2.2.trans (wOj c.out))
theorem rU (h:(l[i]?,o.dst,nH d N)=(some o,some d,true)) (hw:wanted l σ o=true) (hr:∀ {w'},Runs P σ w' o v w') (k:OKS N P l Q D ks s (upd σ d v) w):OKS N P l Q D ks (.fl i s) σ w:=by
 simp only [nE] at h;exact OKS.r h.1 h.2.1 h.2.2 hw (fun _=>hr) k
theorem sR {id:Nat} (s:Sch) (hs:inOrder 0 s l.length=true) (h:OKS N P l (wEM (fun D σ w=>CK r N P c2 Q D σ w) Q) D [] s σ w):CK r N P (.seq (.region id l.toArray false) c2) Q D σ w:=CK.seq (CK.reg s hs h)
theorem rR {id:Nat} (s:Sch) (hs:inOrder 0 s l.length=true) (h:OKS N P l Q D [] s σ w):CK r N P (.region id l.toArray false) Q D σ w:=CK.reg s hs h
theorem eN (h:K D σ w):OKS N P l (wEM K Q) D ks .nil σ w:=OKS.e (wGW h)
theorem cT (hz:ev σ x=.bool (decide p)) (c:Hid p) (h:CK r N P c1 Q D σ w):CK r N P (.cond x c1 c2) Q D σ w:=CK.condT (hz.trans (wDu c.out)) h
theorem cF (hz:ev σ x=.bool (decide p)) (c:Hid (¬ p)) (h:CK r N P c2 Q D σ w):CK r N P (.cond x c1 c2) Q D σ w:=CK.condF (hz.trans (wOj c.out)) h
theorem kN (h:K D σ w):CK r N P .skip (wEM K Q) D σ w:=CK.skip (wGW h)
end
def fL1:Sch:=.fl 0 .nil
def fL2:Sch:=.fl 0 (.fl 1 .nil)
def fL3:Sch:=.fl 0 gAa
def fL4:Sch:=.fl 0 (.fl 1 gAb)
def fL5:Sch:=.fl 0 (.fl 1 (.fl 2 gAc))
def fL6:Sch:=.fl 0 (.fl 1 (.fl 2 (.fl 3 gAd)))
def fL7:Sch:=.fl 0 (.fl 1 (.fl 2 (.fl 3 (.fl 4 (.fl 5 (.fl 6 .nil))))))
def fL8:Sch:=.fl 0 (.fl 1 (.fl 2 (.fl 3 (.fl 4 (.fl 5 (.fl 6 (.fl 7 .nil)))))))
def fL9:Sch:=.fl 0 (.fl 1 (.fl 2 (.fl 3 (.fl 4 (.fl 5 (.fl 6 gAe))))))
def fL10:Sch:=.fl 0 (.fl 1 (.fl 2 (.fl 3 (.fl 4 (.fl 5 (.fl 6 (.fl 7 (.fl 8 (.fl 9 .nil)))))))))
def fL11:Sch:=.fl 0 (.fl 1 (.fl 2 (.fl 3 (.fl 4 (.fl 5 (.fl 6 (.fl 7 (.fl 8 (.fl 9 (.fl 10 .nil))))))))))
def fL14:Sch:=.fl 0 (.fl 1 (.fl 2 (.fl 3 (.fl 4 (.fl 5 (.fl 6 (.fl 7 (.fl 8 (.fl 9 (.fl 10 (.fl 11 (.fl 12 (.fl 13 .nil)))))))))))))
def fL30:Sch:=.fl 0 (.fl 1 (.fl 2 (.fl 3 (.fl 4 (.fl 5 (.fl 6 (.fl 7 (.fl 8 (.fl 9 (.fl 10 (.fl 11 (.fl 12 (.fl 13 (.fl 14 (.fl 15 (.fl 16 (.fl 17 (.fl 18 (.fl 19 (.fl 20 (.fl 21 (.fl 22 (.fl 23 (.fl 24 (.fl 25 (.fl 26 (.fl 27 (.fl 28 (.fl 29 .nil)))))))))))))))))))))))))))))
def wFx (s:Sch):Sch:=.fl 0 (.fl 1 (.fl 2 (s)))
def wPj (s:Sch):Sch:=.fl 0 (.fl 1 (.fl 2 (.fl 3 (s))))
def wIb (s:Sch):Sch:=.fl 0 (.fl 1 (.fl 2 (.fl 3 (.fl 4 (s)))))
def fC0_5 (s:Sch):Sch:=.fl 0 (.fl 1 (.fl 2 (.fl 3 (.fl 4 (.fl 5 (s))))))
def fC0_6 (s:Sch):Sch:=.fl 0 (.fl 1 (.fl 2 (.fl 3 (.fl 4 (.fl 5 (.fl 6 (s)))))))
def fC0_7 (s:Sch):Sch:=.fl 0 (.fl 1 (.fl 2 (.fl 3 (.fl 4 (.fl 5 (.fl 6 (.fl 7 (s))))))))
def fC0_8 (s:Sch):Sch:=.fl 0 (.fl 1 (.fl 2 (.fl 3 (.fl 4 (.fl 5 (.fl 6 (.fl 7 (.fl 8 (s)))))))))
def fC0_9 (s:Sch):Sch:=.fl 0 (.fl 1 (.fl 2 (.fl 3 (.fl 4 (.fl 5 (.fl 6 (.fl 7 (.fl 8 (.fl 9 (s))))))))))
def wPk (s:Sch):Sch:=.fl 0 (.fl 1 (.fl 2 (.fl 3 (.fl 4 (.fl 5 (.fl 6 (.fl 7 (.fl 8 (.fl 9 (.fl 10 (.fl 11 (.fl 12 (.fl 13 (.fl 14 (s)))))))))))))))
def wPl (s:Sch):Sch:=.fl 0 (.fl 1 (.fl 2 (.fl 3 (.fl 4 (.fl 5 (.fl 6 (.fl 7 (.fl 8 (.fl 9 (.fl 10 (.fl 11 (.fl 12 (.fl 13 (.fl 14 (.fl 15 (.fl 16 (.fl 17 (s))))))))))))))))))
def wPm (s:Sch):Sch:=.fl 0 (.fl 1 (.fl 2 (.fl 3 (.fl 4 (.fl 5 (.fl 6 (.fl 7 (.fl 8 (.fl 9 (.fl 10 (.fl 11 (.fl 12 (.fl 13 (.fl 14 (.fl 15 (.fl 16 (.fl 17 (.fl 18 (.fl 19 (.fl 20 (.fl 21 (.fl 22 (.fl 23 (.fl 24 (.fl 25 (.fl 26 (.fl 27 (.fl 28 (.fl 29 (.fl 30 (.fl 31 (.fl 32 (.fl 33 (.fl 34 (.fl 35 (.fl 36 (s)))))))))))))))))))))))))))))))))))))
def fC2_4 (s:Sch):Sch:=.fl 2 (.fl 3 (.fl 4 (s)))
def fC2_6 (s:Sch):Sch:=.fl 2 (.fl 3 (.fl 4 (.fl 5 (.fl 6 (s)))))
def fC3_5 (s:Sch):Sch:=.fl 3 (.fl 4 (.fl 5 (s)))
def fC3_6 (s:Sch):Sch:=.fl 3 (.fl 4 (.fl 5 (.fl 6 (s))))
def wPn (s:Sch):Sch:=.fl 3 (.fl 4 (.fl 5 (.fl 6 (.fl 7 (s)))))
def wMk (s:Sch):Sch:=.fl 3 (.fl 4 (.fl 5 (.fl 6 (.fl 7 (.fl 8 (.fl 9 (s)))))))
def fC4_7 (s:Sch):Sch:=.fl 4 (.fl 5 (.fl 6 (.fl 7 (s))))
def wPo (s:Sch):Sch:=.fl 4 (.fl 5 (.fl 6 (.fl 7 (.fl 8 (s)))))
def wPp (s:Sch):Sch:=.fl 4 (.fl 5 (.fl 6 (.fl 7 (.fl 8 (.fl 9 (.fl 10 (.fl 11 (.fl 12 (.fl 13 (s))))))))))
def wPq (s:Sch):Sch:=.fl 4 (.fl 5 (.fl 6 (.fl 7 (.fl 8 (.fl 9 (.fl 10 (.fl 11 (.fl 12 (.fl 13 (.fl 14 (.fl 15 (.fl 16 (.fl 17 (s))))))))))))))
def wPr (s:Sch):Sch:=.fl 6 (.fl 7 (.fl 8 (.fl 9 (.fl 10 (s)))))
def wNJ (s:Sch):Sch:=.fl 8 (.fl 9 (.fl 10 (s)))
def wOY (s:Sch):Sch:=.fl 19 (.fl 20 (.fl 21 (s)))
def wOZ (s:Sch):Sch:=.fl 19 (.fl 20 (.fl 21 (.fl 22 (.fl 23 (.fl 24 (.fl 25 (.fl 26 (.fl 27 (.fl 28 (.fl 29 (s)))))))))))
def wOa (s:Sch):Sch:=.fl 31 (.fl 32 (.fl 33 (s)))
theorem zA:type_of% @wJs:=@wJs
theorem zB:type_of% @Tryz.runUnderlying23:=@Tryz.runUnderlying23
theorem zC:type_of% @Enters.mk:=@Enters.mk
theorem zD:type_of% @Tryz.sizeOf23:=@Tryz.sizeOf23
theorem zE:type_of% @nI:=@nI
theorem zF:type_of% @OKS.callH:=@OKS.callH
theorem zG:type_of% @Runs.pickF:=@Runs.pickF
theorem zH:type_of% @wMl:=@wMl
theorem zI:type_of% @Tryz.sizeOf3:=@Tryz.sizeOf3
theorem zJ:type_of% @CK.ret:=@CK.ret
theorem zK:type_of% @Tryz.runUnderlying63:=@Tryz.runUnderlying63
theorem zL:type_of% @Tryz.runUnderlying29:=@Tryz.runUnderlying29
theorem zM:type_of% @OKS.buildSlice:=@OKS.buildSlice
theorem zN:type_of% @Runs.fa:=@Runs.fa
theorem zO:type_of% @Hid.mk:=@Hid.mk
theorem zP:type_of% @CK.seq:=@CK.seq
theorem zQ:type_of% @Tryz.runUnderlying61:=@Tryz.runUnderlying61
theorem zR:type_of% @wGa:=@wGa
theorem zS:type_of% @Tryz.sizeOf61:=@Tryz.sizeOf61
theorem zU:type_of% @wGW:=@wGW
theorem zV:type_of% @wFJ:=@wFJ
theorem zW:type_of% @Runs.pickT:=@Runs.pickT
theorem zX:type_of% @PHeap.Le.refl:=@PHeap.Le.refl
theorem zY:type_of% @OKS.p:=@OKS.p
theorem zZ:type_of% @Tryz.sizeOf63:=@Tryz.sizeOf63
theorem zd:type_of% @Tryz.isAgg23:=@Tryz.isAgg23
theorem ze:type_of% @wJr:=@wJr
theorem zf:type_of% @OKS.rm:=@OKS.rm
theorem zg:type_of% @Tryz.zeroValue23:=@Tryz.zeroValue23
theorem zh:type_of% @res1:=@res1
theorem zi:type_of% @OKS.cutD:=@OKS.cutD
theorem zj:type_of% @Tryz.isAgg3:=@Tryz.isAgg3
theorem zk:type_of% @Tryz.underlying23:=@Tryz.underlying23
theorem zl:type_of% @Tryz.isAgg29:=@Tryz.isAgg29
theorem zm:type_of% @OKS.both:=@OKS.both
theorem zn:type_of% @Tryz.zeroValue3:=@Tryz.zeroValue3
theorem zo:type_of% @Tryz.runUnderlying81:=@Tryz.runUnderlying81
theorem zp:type_of% @Tryz.isAgg61:=@Tryz.isAgg61
theorem zq:type_of% @Runs.addw:=@Runs.addw
theorem zr:type_of% @OKS.r:=@OKS.r
theorem zt:type_of% @CK.block:=@CK.block
theorem zu:type_of% @OKS.append:=@OKS.append
theorem zw:type_of% @Runs.len:=@Runs.len
theorem zx:type_of% @Runs.lss:=@Runs.lss
theorem zy:type_of% @Runs.ext:=@Runs.ext
theorem zz:type_of% @wOj:=@wOj
theorem ZA:type_of% @Tryz.isAgg63:=@Tryz.isAgg63
theorem ZB:type_of% @Tryz.call23:=@Tryz.call23
theorem ZC:type_of% @OKS.st:=@OKS.st
theorem ZD:type_of% @wId:=@wId
theorem ZE:type_of% @Runs.notT:=@Runs.notT
theorem ZF:type_of% @OKS.e:=@OKS.e
theorem ZG:type_of% @OKS.box:=@OKS.box
theorem ZH:type_of% @wJq:=@wJq
theorem ZI:type_of% @OKS.alloc:=@OKS.alloc
theorem ZJ:type_of% @OKS.mx2:=@OKS.mx2
theorem ZK:type_of% @Tryz.sizeOf29:=@Tryz.sizeOf29
theorem ZL:type_of% @CK.condT:=@CK.condT
theorem ZM:type_of% @CK.condF:=@CK.condF
theorem ZN:type_of% @OKS.px:=@OKS.px
theorem ZO:type_of% @Runs.eql:=@Runs.eql
theorem ZP:type_of% @wIc:=@wIc
theorem ZQ:type_of% @Tryz.mixed:=@Tryz.mixed
theorem ZR:type_of% @Tryz.zeroValue61:=@Tryz.zeroValue61
theorem ZS:type_of% @Tryz.runUnderlying110:=@Tryz.runUnderlying110
theorem ZT:type_of% @CK.anyOrd:=@CK.anyOrd
theorem ZU:type_of% @Tryz.zeroValue63:=@Tryz.zeroValue63
theorem ZV:type_of% @OKS.callHT:=@OKS.callHT
theorem ZW:type_of% @Runs.nilp:=@Runs.nilp
theorem ZX:type_of% @Tryz.zeroValue224:=@Tryz.zeroValue224
theorem ZY:type_of% @Runs.build:=@Runs.build
theorem Za:type_of% @Runs.to:=@Runs.to
theorem Zb:type_of% @wGX:=@wGX
end Go.Proofs.YtkedcbligiebkaaGreat
namespace Go.Proofs.YtkedcbligiebkaaGreat
open Go.KL
set_option maxHeartbeats 4000000
theorem wDN (p0:List Int) (ab:Option Addr) (ae:Nat) (w:World) (U:PHeap) (hS:St0 w U []) (am:Sl U 1 ab ae p0.length (hH KL.encB8 p0)) {r:wAA} (hm:wBg p0=some r):Gv Tryz.prog 6 [.slice ab p0.length ae] w (wCE w [] U (fun U_ L_ v=>∃ (b0:Nat) (A0p0:Option Addr) (c0p0:Nat),v=.pointer (some ⟨b0,0,none⟩)/\L_=[.blk b0 81 [.slice A0p0 r.bytes.length c0p0,jV r.next,.int .u32 r.state]]/\Sl U_ 1 A0p0 c0p0 r.bytes.length (hH KL.encB8 r.bytes))):=by
 unfold wBg at hm
 refine Gv.of Tryz.func6 Z Tryz.ntmps6 Tryz.results6 Z (sR fL1 Z (oA Z Z (eN (sR (.fl 0 gAn) Z (oM Z Z ?_)))))
 let B0:List Value:=[.slice ab p0.length ae,jV 0,.int .u32 17]
 refine zr rfl rfl rfl rfl (fun _=>ZY (pv:=[(0,.slice ab p0.length ae),(2,.int .u32 17)]) (z:=[.slice none 0 0,jV 0,.int .u32 0]) (cs:=B0) rfl (wAH rfl (wAH rfl wAR)) Tryz.zeroValue81 wMP rfl rfl) (ZG (cs:=B0) rfl rfl rfl rfl rfl rfl (by rfl) hS ?_)
 intro W1 b2 ak
 refine oA Z Z (eN (zJ ?_))
 cases hm
 exact ⟨Z,_,(zh Z),U,_,ak,b2,ab,ae,Z,Z,am⟩
theorem wAG (p0:wAA) (aj:Nat) (ae:Option Addr) (ah:Nat) (p1:Int) (w:World) (U:PHeap) (hS:St0 w U [.blk aj 81 [.slice ae p0.bytes.length ah,jV p0.next,.int .u32 p0.state]]) (am:Sl U 1 ae ah p0.bytes.length (hH KL.encB8 p0.bytes)) {r:Int × wAA} (hm:wAD p0 p1=some r):Gv Tryz.prog 23 [.pointer (some ⟨aj,0,none⟩),jV p1] w (wCE w [.blk aj 81 [.slice ae p0.bytes.length ah,jV p0.next,.int .u32 p0.state]] U (fun U_ L_ v=>∃ (aW:Option Addr) (aY:Nat),v=jV r.1/\L_=[.blk aj 81 [.slice aW r.2.bytes.length aY,jV r.2.next,.int .u32 r.2.state]]/\Sl U_ 1 aW aY r.2.bytes.length (hH KL.encB8 r.2.bytes))):=by
 unfold wAD at hm
 refine Gv.of Tryz.func23 Z Tryz.ntmps23 Tryz.results23 Z (sR fL1 Z (oA Z Z (eN (zP (sR fL10 Z (oM Z Z (oR Z (Runs.leq Z Z Z) (oM Z Z ?_))))))))
 by_cases c2:p1 <= 1
 have ba:=hm;rw [if_pos c2] at ba;replace c2:=zO c2
 refine oT Z c2 (oT Z c2 (oT Z c2 (oT Z c2 (oT Z c2 (oT Z c2 (oR Z (zW Z (wDu c2.out) Z) (eN (ZL Z (sR fL1 Z (oA Z Z (eN (zJ (ze ?_)))))))))))))
 cases ba
 exact ⟨Z,_,(zh Z),U,_,hS,ae,ah,Z,Z,am⟩
 have bb:=hm;rw [if_neg c2] at bb;replace c2:=zO c2
 refine zf Z Z Z (wF Z c2) Z Z (rU Z (wF Z c2) (ZW Z Z) (rU Z (wF Z c2) (zN Z Z zo Z Tryz.sizeOf22) (OKS.m Z Z Z (wF Z c2) (hS.ldB (j:=0) Z Z Z Tryz.isAgg22 (v:=.slice ae p0.bytes.length ah) Z) Z (rU Z (wF Z c2) (zw Z Z Tryz.runUnderlying22) (rU Z (wF Z c2) (ZO Z Z Z) (oR Z (zG Z (zz c2.out) Z) (eN (ifc bb ?_ ?_))))))))
 intro c5 bH
 refine cT Z c5 (sR fL1 Z (oA Z Z (eN (zJ (ze ?_)))))
 cases bH
 exact ⟨Z,_,(zh Z),U,_,hS,ae,ah,Z,Z,am⟩
 intro c5 bI
 refine cF Z c5 (kN (zP (ZT ZQ [3,3,3,1,3,3,3,1,3,3,3,1,3,3,3,1,3,3,3,3,1,3,3,3,1,3,3,3,3,3] fL30 (by kernel_rfl) ?_)))
 have ai:=hS.drew
 generalize hw_W9:({ w with drawn:=w.drawn + 1 }:World)=W9 at ai ⊢
 refine oM Z Z (oR Z (ZW Z Z) (oR Z (zN Z Z zo Z Tryz.sizeOf22) (oL Z (ai.ldB (j:=0) Z Z Z Tryz.isAgg22 (v:=.slice ae p0.bytes.length ah) Z) (oM Z Z (oR Z (ZW Z Z) (oR Z (zN Z Z zo Z zI) (oL Z (ai.ldB (j:=0) Z Z Z zj (v:=jV p0.next) Z) (oM Z Z (oR Z (ZW Z Z) (oR Z (zN Z Z zo Z Tryz.sizeOf22) (oL Z (ai.ldB (j:=0) Z Z Z Tryz.isAgg22 (v:=.slice ae p0.bytes.length ah) Z) (oR Z (zw Z Z Tryz.runUnderlying22) (bnK bI fun bN bh bu=>oR Z (Runs.rem Z Z Z bh) (bnK bu fun be aV bv=>?_))))))))))))))
 have q:=am.el (fun _=>rfl) (wBs aV)
 obtain ⟨bL,bM,bo,bp⟩:=q
 refine oR Z (Runs.iaI Z Z bo Z Tryz.runUnderlying22 Tryz.sizeOf5 (wGx aV) (wIg aV)) (oL Z (ai.ldC (f:=0) bp (v:=.int .u8 be) Z Z Tryz.isAgg5 Z) (oR Z (Runs.cvu Z Z Tryz.runUnderlying5 Tryz.runUnderlying79 Z Z) (oM Z Z (oR Z (ZW Z Z) (oR Z (zN Z Z zo Z zI) (oL Z (ai.ldB (j:=0) Z Z Z zj (v:=jV p0.next) Z) (oM Z Z (oR Z (ZW Z Z) (oR Z (zN Z Z zo Z Tryz.sizeOf22) (oL Z (ai.ldB (j:=0) Z Z Z Tryz.isAgg22 (v:=.slice ae p0.bytes.length ah) Z) (oR Z (zw Z Z Tryz.runUnderlying22) (bnK bv fun bJ bi bw=>oR Z (Runs.quo Z Z Z bi) (oR Z (Runs.cvu Z Z Tryz.runUnderlying3 Tryz.runUnderlying79 Z Z) (oA Z Z (oA Z Z (eN (zP (CK.fresh fun aS ar=>?_))))))))))))))))))
 have ap:aS 0=.pointer (some ⟨aj,0,none⟩):=(ar 0).trans rfl
 have au:aS 1=jV p1:=(ar 1).trans rfl
 have av:aS 5=.int .u32 (wDC be):=(ar 5).trans rfl
 have aZ:aS 6=.int .u32 (wDC bJ):=(ar 6).trans rfl
 clear ar
 refine rR (fC0_6 (.fx 7 .nil .stop)) Z (oM Z ap (oR Z (ZW Z Z) (oR Z (zN Z Z zo Z zI) (oL Z (ai.ldB (j:=0) Z Z Z zj (v:=jV p0.next) Z) (oR Z (zq Z Z Z) (oR Z (ZW Z Z) (oR Z (zN Z Z zo Z zI) (ZC (j:=0) (vs:=[jV (w64 (p0.next + 1))]) Z Z Z Z ai Z Z Z Z zI (zE Z) Z Z Z ?_))))))))
 intro bf bq
 let B0:Res:=.blk aj 81 [.slice ae p0.bytes.length ah,jV p0.next,.int .u32 p0.state]
 have a0:SW w [B0] U U [.blk aj 81 [.slice ae p0.bytes.length ah,jV (w64 (p0.next + 1)),.int .u32 p0.state]] bf:=bq
 refine eN (sR (wPk (.fx 15 .nil .stop)) Z (oM Z ap (oM Z ap (oR Z (ZW Z Z) (oR Z (zN Z Z zo Z Tryz.sizeOf79) (oL Z (a0.ldB (j:=0) Z Z Z Tryz.isAgg79 (v:=.int .u32 p0.state) Z) (oR Z (Runs.mulu Z Z Z) (oM Z av (oR Z (Runs.addu Z Z Z) (oM Z aZ (oR Z (Runs.mulu Z Z Z) (oR Z (Runs.addu Z Z Z) (oR Z (Runs.addu Z Z Z) (bnK bw fun aR bj bz=>oR Z (Runs.rem Z Z Z bj) (oR Z (ZW Z Z) (oR Z (zN Z Z zo Z Tryz.sizeOf79) (ZC (j:=0) (vs:=[.int .u32 aR]) Z Z Z Z a0 Z Z Z Z Tryz.sizeOf79 (zE Z) Z Z Z ?_)))))))))))))))))
 intro bg br
 have aq:SW w [B0] U U [.blk aj 81 [.slice ae p0.bytes.length ah,jV (w64 (p0.next + 1)),.int .u32 aR]] bg:=br
 refine eN (zP (sR fL6 Z (oM Z aZ (oR Z (ZO Z Z Z) (oM Z Z (ifc bz ?_ ?_))))))
 intro ak bA
 refine zf Z Z Z (wT Z ak) Z au (rU Z (wT Z ak) (Runs.leq Z Z Z) (oR Z (zW Z (wDu ak.out) Z) (eN (ifc bA ?_ ?_))))
 intro aT bB
 refine cT Z aT (sR fL5 Z (oM Z av (oR Z (Runs.cvw Z Z Tryz.runUnderlying79 Tryz.runUnderlying3 Z Z) (oM Z au (bnK bB fun x42 bk bC=>oR Z (Runs.rem Z Z Z bk) (oA Z Z (eN (zJ (ze ?_)))))))))
 cases bC
 exact ⟨Z,_,(zh Z),U,_,aq,ae,ah,Z,Z,am⟩
 intro aT bD
 refine cF Z aT (kN (sR fL11 Z (oM Z ap (oR Z (ZW Z Z) (oR Z (zN Z Z zo Z Tryz.sizeOf79) (oL Z (aq.ldB (j:=0) Z Z Z Tryz.isAgg79 (v:=.int .u32 aR) Z) (oR Z (Runs.mulu Z Z Z) (oM Z av (oR Z (Runs.addu Z Z Z) (oR Z (Runs.cvw Z Z Tryz.runUnderlying79 Tryz.runUnderlying3 Z Z) (oM Z au (bnK bD fun x46 bm bE=>oR Z (Runs.rem Z Z Z bm) (oA Z Z (eN (zJ ?_)))))))))))))))
 cases bE
 exact ⟨Z,_,(zh Z),U,_,aq,ae,ah,Z,Z,am⟩
 intro ak bF
 refine oF Z ak (oF Z ak (oR Z (zG Z (zz ak.out) Z) (eN (ZM Z (kN (sR fL11 Z (oM Z ap (oR Z (ZW Z Z) (oR Z (zN Z Z zo Z Tryz.sizeOf79) (oL Z (aq.ldB (j:=0) Z Z Z Tryz.isAgg79 (v:=.int .u32 aR) Z) (oR Z (Runs.mulu Z Z Z) (oM Z av (oR Z (Runs.addu Z Z Z) (oR Z (Runs.cvw Z Z Tryz.runUnderlying79 Tryz.runUnderlying3 Z Z) (oM Z au (bnK bF fun x50 bn bG=>oR Z (Runs.rem Z Z Z bn) (oA Z Z (eN (zJ ?_)))))))))))))))))))
 cases bG
 exact ⟨Z,_,(zh Z),U,_,aq,ae,ah,Z,Z,am⟩
theorem wBA (p0:wAA) (ab:Nat) (ae:Option Addr) (ah:Nat) (p1:Int) (p2:Int) (w:World) (U:PHeap) (hS:St0 w U [.blk ab 81 [.slice ae p0.bytes.length ah,jV p0.next,.int .u32 p0.state]]) (aV:Sl U 1 ae ah p0.bytes.length (hH KL.encB8 p0.bytes)) {r:Int × wAA} (hm:wAK p0 p1 p2=some r):Gv Tryz.prog 24 [.pointer (some ⟨ab,0,none⟩),jV p1,jV p2] w (wCE w [.blk ab 81 [.slice ae p0.bytes.length ah,jV p0.next,.int .u32 p0.state]] U (fun U_ L_ v=>∃ (ap:Option Addr) (au:Nat),v=jV r.1/\L_=[.blk ab 81 [.slice ap r.2.bytes.length au,jV r.2.next,.int .u32 r.2.state]]/\Sl U_ 1 ap au r.2.bytes.length (hH KL.encB8 r.2.bytes))):=by
 unfold wAK at hm
 refine Gv.of Tryz.func24 Z Tryz.ntmps24 Tryz.results24 Z (sR fL1 Z (oA Z Z (eN (sR (fC0_5 (.fx 6 gAe .stop)) Z (oM Z Z (oM Z Z (oM Z Z (oM Z Z (oR Z (Runs.subw Z Z Z) (oR Z (zq Z Z Z) ?_))))))))))
 have q:=bnd hm
 obtain ⟨⟨x2,x3⟩,h4,av⟩:=q
 try dsimp only at av
 refine zF 1 Z Z Z Z (zC Z Z ZB (zA Z (zA Z zH)) Z) hS (fun hs=>wAG p0 ab ae ah (w64 ((w64 (p2 - p1)) + 1)) w U hs aV h4) (.inl Z) ?_
 rintro U6 L7 v8 W9 aX aT ⟨am,ar,rfl,rfl,aR⟩
 have aU:SW w [.blk ab 81 [.slice ae p0.bytes.length ah,jV p0.next,.int .u32 p0.state]] U U6 [.blk ab 81 [.slice am x3.bytes.length ar,jV x3.next,.int .u32 x3.state]] W9:=aT
 refine oR Z (zq Z Z Z) (oA Z Z (eN (zJ ?_)))
 cases av
 exact ⟨Z,_,(zh Z),U6,_,aU,am,ar,Z,Z,aR⟩
theorem wDY (p0:wAA) (aa:Nat) (aV:Option Addr) (aW:Nat) (p1:Int) (w:World) (U:PHeap) (hS:St0 w U [.blk aa 81 [.slice aV p0.bytes.length aW,jV p0.next,.int .u32 p0.state]]) (d7:Sl U 1 aV aW p0.bytes.length (hH KL.encB8 p0.bytes)) {r:wAB × wAA} (hm:wBK p0 p1=some r):Gv Tryz.prog 38 [.pointer (some ⟨aa,0,none⟩),jV p1] w (wCE w [.blk aa 81 [.slice aV p0.bytes.length aW,jV p0.next,.int .u32 p0.state]] U (fun U_ L_ v=>∃ (bD:Option Addr) (bZ:Nat) (bM:Option Addr) (cn:Nat),v=.agg #[.slice bD r.1.Classes.length bZ,jV r.1.Each,jV r.1.Laps,jV r.1.Spare,jV r.1.Loop,jV r.1.Unused]/\L_=[.row bD bZ 3 1 (hH KL.encI r.1.Classes),.blk aa 81 [.slice bM r.2.bytes.length cn,jV r.2.next,.int .u32 r.2.state]]/\Sl U_ 1 bM cn r.2.bytes.length (hH KL.encB8 r.2.bytes))):=by
 unfold wBK at hm
 refine Gv.of Tryz.func38 Z Tryz.ntmps38 Tryz.results38 Z (sR (.fx 0 .nil .stop) Z ?_)
 let B0:List Value:=[.slice none 0 0,jV 0,jV 0,jV 0,jV 0,jV 0]
 refine ZI (cs:=B0) Z Z Z Z Z ZR Z hS ?_
 intro W2 b3 dM
 refine eN (sR (.fl 0 (.fx 1 (.fl 2 (.fx 3 (.fl 4 (.fx 5 (.fl 6 (.fx 7 (.fl 8 (.fl 9 (.fx 10 (.fl 11 (.fl 12 (.fx 13 (.fx 14 .nil .stop) .stop))) .stop))) .stop)) .stop)) .stop)) .stop)) Z (oM Z Z ?_))
 have q:=bnd hm
 obtain ⟨⟨x6,x7⟩,h8,cG⟩:=q
 try dsimp only at cG
 let B1:Res:=.blk aa 81 [.slice aV p0.bytes.length aW,jV p0.next,.int .u32 p0.state]
 have dx:SW w [B1] U U [B1,.blk b3 61 B0] W2:=dM.pick [1,0] _ (by decide) rfl
 refine zF 1 Z Z Z Z (zC Z Z Tryz.call24 (zA Z (zA Z (zA Z zH))) Z) dx (fun hs=>wBA p0 aa aV aW 1 2 W2 U hs d7 h8) (.inl Z) ?_
 rintro bO en eP bT eH dA ⟨bE,b8,rfl,rfl,da⟩
 have dB:SW w [B1] U bO [.blk aa 81 [.slice bE x7.bytes.length b8,jV x7.next,.int .u32 x7.state],.blk b3 61 B0] bT:=dA
 refine oM Z Z ?_
 have q:=bnd cG
 obtain ⟨⟨ar,bh⟩,dg,cA⟩:=q
 try dsimp only at cA
 refine zF 1 Z Z Z Z (zC Z Z Tryz.call24 (zA Z (zA Z (zA Z zH))) Z) dB (fun hs=>wBA x7 aa bE b8 1 3 bT bO hs da dg) (.inl Z) ?_
 rintro bP ey eR bW eJ dK ⟨bH,cf,rfl,rfl,dk⟩
 have dL:SW w [B1] U bP [.blk aa 81 [.slice bH bh.bytes.length cf,jV bh.next,.int .u32 bh.state],.blk b3 61 B0] bW:=dK
 refine oM Z Z ?_
 have q:=bnd cA
 obtain ⟨⟨au,bi⟩,dl,cB⟩:=q
 try dsimp only at cB
 refine zF 1 Z Z Z Z (zC Z Z ZB (zA Z (zA Z zH)) Z) dL (fun hs=>wAG bh aa bH cf 100 bW bP hs dk dl) (.inl Z) ?_
 rintro bR ez eS bX eK dN ⟨bI,cg,rfl,rfl,dm⟩
 have dO:SW w [B1] U bR [.blk aa 81 [.slice bI bi.bytes.length cg,jV bi.next,.int .u32 bi.state],.blk b3 61 B0] bX:=dN
 refine oM Z Z ?_
 have q:=bnd cB
 obtain ⟨⟨x49,x50⟩,dp,cC⟩:=q
 try dsimp only at cC
 refine zF 1 Z Z Z Z (zC Z Z ZB (zA Z (zA Z zH)) Z) dO (fun hs=>wAG bi aa bI cg 100 bX bR hs dm dp) (.inl Z) ?_
 rintro bS eA eT bY eL dP ⟨bJ,ci,rfl,rfl,dq⟩
 have dQ:SW w [B1] U bS [.blk aa 81 [.slice bJ x50.bytes.length ci,jV x50.next,.int .u32 x50.state],.blk b3 61 B0] bY:=dP
 refine oR Z (zq Z Z Z) (oM Z Z ?_)
 have q:=bnd cC
 obtain ⟨⟨az,bj⟩,dr,cD⟩:=q
 try dsimp only at cD
 refine zF 1 Z Z Z Z (zC Z Z ZB (zA Z (zA Z zH)) Z) dQ (fun hs=>wAG x50 aa bJ ci 13 bY bS hs dq dr) (.inl Z) ?_
 rintro bb eC eU cQ eM dR ⟨bK,cj,rfl,rfl,dt⟩
 let B2:Res:=.blk aa 81 [.slice bK bj.bytes.length cj,jV bj.next,.int .u32 bj.state]
 have dS:SW w [B1] U bb [B2,.blk b3 61 B0] cQ:=dR
 refine oR Z (Runs.mulw Z Z Z) ?_
 let B3:List Value:=[.slice none 0 0,jV x6,jV ar,jV au,jV (w64 (200 + x49)),jV (w64 (100 * az))]
 refine oR Z (ZY (pv:=[(1,jV x6),(2,jV ar),(3,jV au),(4,jV (w64 (200 + x49))),(5,jV (w64 (100 * az)))]) (z:=B0) (cs:=B3) Z (wAH Z (wAH Z (wAH Z (wAH Z (wAH Z wAR))))) ZR wMN Z Z) (ZI (cs:=B0) Z Z Z Z Z ZR Z dS ?_)
 intro eF aj dT
 refine ZC (j:=0) (vs:=B3) Z Z Z Z dT Z Z Z Z zS (zE Z) Z Z Z ?_
 intro br dU
 have dV:SW w [B1] U bb [.blk aj 61 B3,B2,.blk b3 61 B0] br:=dU
 refine eN (zP (sR (.fl 0 gAn) Z (oM Z Z (oM Z Z ?_))))
 have q:=bnd cD
 obtain ⟨⟨x84,x85⟩,dv,cE⟩:=q
 try dsimp only at cE
 have dW:SW w [B1] U bb [B2,.blk aj 61 B3,.blk b3 61 B0] br:=dV.pick [1,0,2] _ (by decide) rfl
 refine zF 1 Z Z Z Z (zC Z Z Tryz.call24 (zA Z (zA Z (zA Z zH))) Z) dW (fun hs=>wBA bj aa bK cj 1 p1 br bb hs dt dv) (.inl Z) ?_
 rintro bq eD eV cR eO dX ⟨bL,cm,rfl,rfl,dw⟩
 have dY:SW w [B1] U bq [.blk aa 81 [.slice bL x85.bytes.length cm,jV x85.next,.int .u32 x85.state],.blk aj 61 B3,.blk b3 61 B0] cR:=dX
 refine oM Z Z (eN (zt ?_))
 have q:=bnd cE
 obtain ⟨⟨eh,ei,ej,cI⟩,d8,cy⟩:=q
 try dsimp only at cy
 have q:=wCm d8
 obtain ⟨bA,d9⟩:=q
 replace bA:=zO bA
 refine CK.forN' (fun aT (aU,x130,x131,ak) σ_ w_=>∃ (U_:PHeap) (aY:Option Addr) (be:Nat) (am:Option Addr) (aq:Nat),σ_ 22=jV (↑aT:Int)/\σ_ 0=.pointer (some ⟨aa,0,none⟩)/\σ_ 4=.pointer (some ⟨b3,0,none⟩)/\σ_ 5=.pointer (some ⟨aj,0,none⟩)/\σ_ 21=jV x84/\PHeap.Le bq U_/\SW w [B1] U U_ [.blk aa 81 [.slice aY aU.length be,jV x130,.int .u32 x131],.row am aq 3 1 (hH KL.encI ak),.blk aj 61 [.slice am ak.length aq,jV x6,jV ar,jV au,jV (w64 (200 + x49)),jV (w64 (100 * az))],.blk b3 61 B0] w_/\Sl U_ 1 aY be aU.length (hH KL.encB8 aU)) d9 ?_ ?_ ?_
 have dy:=dY.nilrow 3 1
 exact ⟨bq,bL,cm,none,0,rfl,rfl,rfl,rfl,rfl,(zX _),(dy.pick [1,0,2,3] _ (by decide) rfl),dw⟩
 rintro aT ⟨aU,x130,x131,ak⟩ eW eX bU bz ⟨cJ,aY,be,am,aq,ct,cp,cV,bv,cq,ed,dz,cZ⟩ cH
 try dsimp only at cH
 have b5:Hid ((↑aT:Int) < x84):=zO (wCt bz)
 replace bz:=zO bz
 have eb:Hid (w64 ((↑aT:Int) + 1)=(↑(aT + 1):Int)):=zO (by have h1:=bA.out;have h2:=b5.out;rw [wBR] <;> omega)
 refine sR fL1 rfl (zr rfl rfl rfl rfl (fun _=>zx rfl ct cq) (eN (zP (cT Z b5 (kN (zP (zt (ZT ZQ [3,1004,3,1005,2,0,3,0,aa] (wFx (.fx 3 (.fx 4 (.fx 5 (.fl 6 (.fx 7 .nil .stop)) .stop) .stop) .stop)) (by kernel_rfl) ?_))))))))
 have bw:=dz.drew
 generalize hw_W196:({ bU with drawn:=bU.drawn + 1 }:World)=cK at bw ⊢
 refine oR Z (zN Z bv zQ Z zD) ?_
 let B4:Res:=.blk aj 61 [.slice am ak.length aq,jV x6,jV ar,jV au,jV (w64 (200 + x49)),jV (w64 (100 * az))]
 let B5:Res:=.row am aq 3 1 (hH KL.encI ak)
 refine OKS.mt (T:=[aa]) [0] [1,2,3] [B5,B4,.blk b3 61 B0] rfl rfl rfl rfl bw rfl ⟨⟨0,by decide,_,rfl,rfl⟩,trivial⟩ (by decide) rfl (by decide) (fun _ dZ=>(dZ.ldB (j:=1) rfl rfl rfl zd (v:=.slice am ak.length aq) rfl)) rfl (zf rfl rfl rfl rfl rfl cp ?_)
 have q:=bnd cH
 obtain ⟨⟨aX,bC⟩,db,cz⟩:=q
 try dsimp only at cz
 refine ZV 1 rfl rfl rfl rfl (zC rfl rfl ZB (zA rfl (zA rfl zH)) rfl) bw (fun hs=>wAG (⟨aU,x130,x131⟩:wAA) aa aY be 2 cK cJ hs cZ db) rfl (T:=[aa]) rfl ⟨fun b h=>(by cases h;exact .head _),trivial⟩ ?_
 rintro aS eu eQ cL ef dC ⟨bF,b9,rfl,rfl,de⟩
 let B6:Res:=.blk aa 81 [.slice bF bC.bytes.length b9,jV bC.next,.int .u32 bC.state]
 have dD:SW w [B1] U aS [B6,B5,B4,.blk b3 61 B0] cL:=dC
 refine zM (pv:=[(0,jV aX)]) (zs:=[jV 0]) (cs:=[jV aX]) Z Z Z Z Z (wAH Z wAR) zB zI zn Z Z Z Z Z dD ?_
 intro cM cS dE
 let B7:Res:=.row (some ⟨cS,0,none⟩) 1 3 1 (hH KL.encI [aX])
 have cu:SW w [B1] U aS [B7,B6,B5,B4,.blk b3 61 B0] cM:=dE
 refine bnK cz fun bg df ec=>zu (j:=2) (enc:=KL.encI) (xs:=ak) (ys:=[aX]) (zs:=bg) rfl rfl rfl rfl rfl zk wDX rfl rfl rfl rfl rfl rfl cu rfl rfl rfl (cu.srcR (j:=0) rfl (by decide) (wAJ (f:=KL.encI) (sz:=1) (fun _=>rfl) [aX])) (fun _=>rfl) (fun _=>rfl) df rfl ?_
 intro aZ bf cN dF
 let B8:Res:=.row aZ bf 3 1 (hH KL.encI bg)
 have dG:SW w [B1] U aS [B7,B6,B8,B4,.blk b3 61 B0] cN:=dF
 refine oR Z (zN Z bv zQ Z zD) (ZC (j:=3) (vs:=[.slice aZ bg.length bf]) Z Z Z Z dG Z Z Z Z zD (zE Z) Z Z Z ?_)
 intro cO dH
 have dI:SW w [B1] U aS [B7,B6,B8,.blk aj 61 [.slice aZ bg.length bf,jV x6,jV ar,jV au,jV (w64 (200 + x49)),jV (w64 (100 * az))],.blk b3 61 B0] cO:=dH
 refine ZF (ZP (zU (rR fL2 Z (oR Z (Za (zq Z ct Z) (congrArg (jV) eb.out)) (oM Z Z (ZF ?_))))))
 cases ec
 exact zU ⟨rfl,⟨aS,bF,b9,aZ,bf,rfl,cp,cV,bv,cq,(ed.trans ef),(dI.pick [1,2,3,4] _ (by decide) rfl),de⟩⟩
 rintro eY eE ⟨bQ,bG,cd,bm,bu,cY,eG,cr,cW,cX,eI,cw,dh⟩
 have cU:Hid (¬ ((↑((x84:Int) - 0).toNat:Int) < x84)):=zO (wCG)
 refine sR fL1 Z (oR Z (zx Z cY cX) (eN (zP (cF Z cU (CK.exit (ZH (ZH (Zb (zU (sR (.fl 0 (.fx 1 .nil .stop)) Z ?_))))))))))
 let B9:List Value:=[.slice bm cI.length bu,jV x6,jV ar,jV au,jV (w64 (200 + x49)),jV (w64 (100 * az))]
 refine oL Z (cw.ldBA (j:=2) Z Z cW zp zS (vs:=B9) Z Z) (ZC (j:=3) (vs:=B9) Z Z Z Z cw Z cr Z Z zS (zE Z) Z Z Z ?_)
 intro cP dJ
 have cx:SW w [B1] U bQ [.blk aa 81 [.slice bG eh.length cd,jV ei,.int .u32 ej],.row bm bu 3 1 (hH KL.encI cI),.blk aj 61 B9,.blk b3 61 B9] cP:=dJ
 refine eN (zJ ?_)
 cases cy
 exact ⟨rfl,_,(wLw (v:=.agg B9.toArray) ⟨⟨_,cr,(wHD zp zS (cx.blkAt (k:=3) rfl) (vs:=B9) rfl rfl)⟩,trivial⟩),bQ,_,(cx.pick [1,0] _ (by decide) rfl),bm,bu,bG,cd,rfl,rfl,dh⟩
theorem wDO (p0:wAA) (ap:Nat) (dG:Option Addr) (dH:Nat) (p1:Int) (w:World) (U:PHeap) (hS:St0 w U [.blk ap 81 [.slice dG p0.bytes.length dH,jV p0.next,.int .u32 p0.state]]) (ui:Sl U 1 dG dH p0.bytes.length (hH KL.encB8 p0.bytes)) {r:wAB × wAC × wAA} (hm:wBC p0 p1=some r):Gv Tryz.prog 15 [.pointer (some ⟨ap,0,none⟩),jV p1] w (wCE w [.blk ap 81 [.slice dG p0.bytes.length dH,jV p0.next,.int .u32 p0.state]] U (fun U_ L_ v=>∃ (gx:Option Addr) (iG:Nat) (gy:Option Addr) (iH:Nat) (gA:Option Addr) (iJ:Nat) (lN:List Hd) (gN:Option Addr) (iZ:Nat),v=.tuple #[.agg #[.slice gx r.1.Classes.length iG,jV r.1.Each,jV r.1.Laps,jV r.1.Spare,jV r.1.Loop,jV r.1.Unused],.agg #[.slice gy r.2.1.Classes.length iH,.slice gA r.2.1.Times.length iJ]]/\L_=[.row gx iG 3 1 (hH KL.encI r.1.Classes),.row gy iH 3 1 (hH KL.encI r.2.1.Classes),.row gA iJ 23 1 (hH wAO lN),inn 3 1 KL.encI lN r.2.1.Times,.blk ap 81 [.slice gN r.2.2.bytes.length iZ,jV r.2.2.next,.int .u32 r.2.2.state]]/\Sl U_ 1 gN iZ r.2.2.bytes.length (hH KL.encB8 r.2.2.bytes))):=by
 unfold wBC at hm
 refine Gv.of Tryz.func15 Z Tryz.ntmps15 Tryz.results15 Z (sR (.fx 0 (.fx 1 .nil .stop) .stop) Z ?_)
 let B0:List Value:=[.slice none 0 0,jV 0,jV 0,jV 0,jV 0,jV 0]
 refine ZI (cs:=B0) Z Z Z Z Z ZR Z hS ?_
 intro W2 b3 tL
 let B1:List Value:=[.slice none 0 0,.slice none 0 0]
 refine ZI (cs:=B1) Z Z Z Z Z ZU Z tL ?_
 intro W6 b7 tR
 refine eN (sR (.fl 0 (.fx 1 gAf .stop)) Z (oM Z Z ?_))
 have q:=bnd hm
 obtain ⟨⟨bm,eU⟩,qZ,lH⟩:=q
 try dsimp only at lH
 let B2:Res:=.blk ap 81 [.slice dG p0.bytes.length dH,jV p0.next,.int .u32 p0.state]
 have sv:SW w [B2] U U [B2,.blk b7 63 B1,.blk b3 61 B0] W6:=tR.pick [2,0,1] _ (by decide) rfl
 refine zF 1 Z Z Z Z (zC Z Z Tryz.call38 (zA Z (zA Z zH)) Z) sv (fun hs=>wDY p0 ap dG dH 4 W6 U hs ui qZ) (.inl Z) ?_
 rintro ef u0 vQ mE vK tw ⟨cu,de,gI,iU,rfl,rfl,rx⟩
 let B3:Res:=.row cu de 3 1 (hH KL.encI bm.Classes)
 let B4:Res:=.blk ap 81 [.slice gI eU.bytes.length iU,jV eU.next,.int .u32 eU.state]
 have tF:SW w [B2] U ef [B3,B4,.blk b7 63 B1,.blk b3 61 B0] mE:=tw
 refine ZI (cs:=B0) Z Z Z Z Z ZR Z tF ?_
 intro vp ak tH
 let B5:List Value:=[.slice cu bm.Classes.length de,jV bm.Each,jV bm.Laps,jV bm.Spare,jV bm.Loop,jV bm.Unused]
 refine ZC (j:=0) (vs:=B5) Z Z Z Z tH Z Z Z Z zS (zE Z) Z Z Z ?_
 intro mJ tI
 have tJ:SW w [B2] U ef [.blk ak 61 B5,B3,B4,.blk b7 63 B1,.blk b3 61 B0] mJ:=tI
 refine eN (sR (.fx 0 .nil .stop) Z (ZI (cs:=B1) Z Z Z Z Z ZU Z tJ ?_))
 intro iz aS tK
 refine eN (zP (sR (.fl 0 gAn) Z (oM Z Z (oM Z Z ?_))))
 have q:=bnd lH
 obtain ⟨⟨x39,x40⟩,ry,lM⟩:=q
 try dsimp only at lM
 have tM:SW w [B2] U ef [B4,.blk aS 63 B1,.blk ak 61 B5,B3,.blk b7 63 B1,.blk b3 61 B0] iz:=tK.pick [3,0,1,2,4,5] _ (by decide) rfl
 refine zF 1 Z Z Z Z (zC Z Z Tryz.call24 (zA Z (zA Z (zA Z zH))) Z) tM (fun hs=>wBA eU ap gI iU 1 p1 iz ef hs rx ry) (.inl Z) ?_
 rintro ei u9 vS iB vL tO ⟨gK,iW,rfl,rfl,rA⟩
 let B6:Res:=.blk ap 81 [.slice gK x40.bytes.length iW,jV x40.next,.int .u32 x40.state]
 have tP:SW w [B2] U ei [B6,.blk aS 63 B1,.blk ak 61 B5,B3,.blk b7 63 B1,.blk b3 61 B0] iB:=tO
 refine oM Z Z (eN (zt ?_))
 have q:=bnd lM
 obtain ⟨⟨uT,uU,uV,mc,ci⟩,ul,lG⟩:=q
 try dsimp only at lG
 have q:=wCm ul
 obtain ⟨gp,um⟩:=q
 replace gp:=zO gp
 refine CK.forN' (fun bb (eT,ma,mb,bf,au) σ_ w_=>∃ (U_:PHeap) (dV:Option Addr) (eI:Nat) (bi:Option Addr) (bj:Nat) (a0:Option Addr) (ba:Nat) (aq:List Hd),σ_ 14=jV (↑bb:Int)/\σ_ 0=.pointer (some ⟨ap,0,none⟩)/\σ_ 4=.pointer (some ⟨b3,0,none⟩)/\σ_ 5=.pointer (some ⟨b7,0,none⟩)/\σ_ 6=.pointer (some ⟨ak,0,none⟩)/\σ_ 7=.pointer (some ⟨aS,0,none⟩)/\σ_ 13=jV x39/\PHeap.Le ei U_/\SW w [B2] U U_ [.blk ap 81 [.slice dV eT.length eI,jV ma,.int .u32 mb],.row bi bj 3 1 (hH KL.encI bf),.row a0 ba 23 1 (hH wAO aq),inn 3 1 KL.encI aq au,.blk aS 63 [.slice bi bf.length bj,.slice a0 au.length ba],.row cu de 3 1 (hH KL.encI bm.Classes),.blk ak 61 B5,.blk b7 63 B1,.blk b3 61 B0] w_/\Sl U_ 1 dV eI eT.length (hH KL.encB8 eT)) um ?_ ?_ ?_
 have rV:=tP.nilrow 3 1
 have rW:=rV.nilrow 23 1
 have rZ:=rW.innNil 3 1 KL.encI
 have sd:SW w [B2] U ei [inn 3 1 KL.encI ([]:List Hd) ([]:List (List Int)),.row none 0 23 1 [],.row none 0 3 1 [],B6,.blk aS 63 B1,.blk ak 61 B5,B3,.blk b7 63 B1,.blk b3 61 B0] iB:=rZ
 exact ⟨ei,gK,iW,none,0,none,0,[],rfl,rfl,rfl,rfl,rfl,rfl,rfl,(zX _),(sd.pick [3,2,1,0,4,6,5,7,8] _ (by decide) rfl),rA⟩
 rintro bb ⟨eT,ma,mb,bf,au⟩ vU wc vi gk ⟨iq,dV,eI,bi,bj,a0,ba,aq,ln,pp,pq,pt,j7,pu,j8,uH,lA,ri⟩ lO
 try dsimp only at lO
 have iN:Hid ((↑bb:Int) < x39):=zO (wCt gk)
 replace gk:=zO gk
 have ur:Hid (w64 ((↑bb:Int) + 1)=(↑(bb + 1):Int)):=zO (by have h1:=gp.out;have h2:=iN.out;rw [wBR] <;> omega)
 refine sR fL1 Z (oR Z (zx Z ln j8) (eN (zP (cT Z iN (kN (zP (zt (sR fL1 Z (oA Z Z (eN (zP (sR fL4 Z (oR Z (zN Z j7 zQ Z zD) (oL Z (lA.ldB (j:=6) Z Z Z zd (v:=.slice cu bm.Classes.length de) Z) (oR Z (zw Z Z zB) (oM Z Z (eN (zt ?_))))))))))))))))))
 have q:=bnd lO
 obtain ⟨⟨dJ,dK,dL,aa⟩,uo,lJ⟩:=q
 try dsimp only at lJ
 have q:=wCm uo
 obtain ⟨gq,uq⟩:=q
 replace gq:=zO gq
 let B7:Res:=.blk aS 63 [.slice bi bf.length bj,.slice a0 au.length ba]
 let B8:Res:=.row a0 ba 23 1 (hH wAO aq)
 let B9:Res:=.row bi bj 3 1 (hH KL.encI bf)
 refine CK.forN' (fun dD (dE,x179,x180,dF) σ_ w_=>∃ (U_:PHeap) (dQ:Option Addr) (eD:Nat) (dR:Option Addr) (eE:Nat),σ_ 19=jV (↑dD:Int)/\σ_ 0=.pointer (some ⟨ap,0,none⟩)/\σ_ 4=.pointer (some ⟨b3,0,none⟩)/\σ_ 5=.pointer (some ⟨b7,0,none⟩)/\σ_ 6=.pointer (some ⟨ak,0,none⟩)/\σ_ 7=.pointer (some ⟨aS,0,none⟩)/\σ_ 8=.slice dR dF.length eE/\σ_ 13=jV x39/\σ_ 14=jV (↑bb:Int)/\σ_ 18=jV (↑bm.Classes.length:Int)/\PHeap.Le iq U_/\SW w [B2] U U_ [.blk ap 81 [.slice dQ dE.length eD,jV x179,.int .u32 x180],B9,B8,inn 3 1 KL.encI aq au,B7,B3,.blk ak 61 B5,.blk b7 63 B1,.blk b3 61 B0,.row dR eE 3 1 (hH KL.encI dF)] w_/\Sl U_ 1 dQ eD dE.length (hH KL.encB8 dE)) uq ?_ ?_ ?_
 have tv:=lA.nilrow 3 1
 exact ⟨iq,dV,eI,none,0,rfl,pp,pq,pt,j7,pu,rfl,j8,ln,rfl,(zX _),(tv.pick [1,2,3,4,5,6,7,8,9,0] _ (by decide) rfl),ri⟩
 rintro dD ⟨dE,x179,x180,dF⟩ vV wj mF gm ⟨mg,dQ,eD,dR,eE,lp,k9,pD,pE,pF,pG,pH,pI,pJ,lc,uL,tz,rp⟩ lQ
 try dsimp only at lQ
 have iR:Hid ((↑dD:Int) < (↑bm.Classes.length:Int)):=zO (wCt gm)
 replace gm:=zO gm
 have ut:Hid (w64 ((↑dD:Int) + 1)=(↑(dD + 1):Int)):=zO (by have h1:=gq.out;have h2:=iR.out;rw [wBR] <;> omega)
 refine sR fL1 Z (oR Z (zx Z lp lc) (eN (zP (cT Z iR (kN (zP (zt (rR (.fl 0 (.fl 1 (.fx 2 (.fl 3 (.fx 4 gAg .stop)) .stop))) Z (oM Z pH (oM Z k9 ?_))))))))))
 have q:=bnd lQ
 obtain ⟨⟨dI,gw⟩,rq,lK⟩:=q
 try dsimp only at lK
 refine zF 1 Z Z Z Z (zC Z Z ZB (zA Z (zA Z zH)) Z) tz (fun hs=>wAG (⟨dE,x179,x180⟩:wAA) ap dQ eD 60 mF mg hs rp rq) (.inl Z) ?_
 rintro eh u7 vR mG uM tA ⟨gH,iT,rfl,rfl,rt⟩
 let eZ:Res:=.blk ap 81 [.slice gH gw.bytes.length iT,jV gw.next,.int .u32 gw.state]
 let gO:Res:=.row dR eE 3 1 (hH KL.encI dF)
 have tB:SW w [B2] U eh [eZ,B9,B8,inn 3 1 KL.encI aq au,B7,B3,.blk ak 61 B5,.blk b7 63 B1,.blk b3 61 B0,gO] mG:=tA
 refine oR Z (zq Z Z Z) (zM (pv:=[(0,jV (w64 (2000 + dI)))]) (zs:=[jV 0]) (cs:=[jV (w64 (2000 + dI))]) Z Z Z Z Z (wAH Z wAR) zB zI zn Z Z Z Z Z tB ?_)
 intro mH mM tC
 let gP:Res:=.row (some ⟨mM,0,none⟩) 1 3 1 (hH KL.encI [w64 (2000 + dI)])
 have lD:SW w [B2] U eh [gP,eZ,B9,B8,inn 3 1 KL.encI aq au,B7,B3,.blk ak 61 B5,.blk b7 63 B1,.blk b3 61 B0,gO] mH:=tC
 refine bnK lK fun x237 ru uw=>zu (j:=10) (enc:=KL.encI) (xs:=dF) (ys:=[w64 (2000 + dI)]) (zs:=x237) rfl rfl rfl rfl rfl zk wDX rfl rfl rfl rfl rfl rfl lD rfl rfl rfl (lD.srcR (j:=0) rfl (by decide) (wAJ (f:=KL.encI) (sz:=1) (fun _=>rfl) [w64 (2000 + dI)])) (fun _=>rfl) (fun _=>rfl) ru rfl ?_
 intro gJ iV mI tD
 have tE:SW w [B2] U eh [gP,eZ,B9,B8,inn 3 1 KL.encI aq au,B7,B3,.blk ak 61 B5,.blk b7 63 B1,.blk b3 61 B0,.row gJ iV 3 1 (hH KL.encI x237)] mI:=tD
 refine oA Z Z (ZF (ZP (zU (rR fL2 Z (oR Z (Za (zq Z lp Z) (congrArg (jV) ut.out)) (oM Z Z (ZF ?_)))))))
 cases uw
 exact zU ⟨rfl,⟨eh,gH,iT,gJ,iV,rfl,k9,pD,pE,pF,pG,rfl,pI,pJ,lc,(uL.trans uM),(tE.pick [1,2,3,4,5,6,7,8,9,10] _ (by decide) rfl),rt⟩⟩
 rintro wk iy ⟨aZ,cw,df,ae,ah,qU,bp,bq,br,bu,bo,dA,bv,bw,pK,uN,tG,eL⟩
 have mO:Hid (¬ ((↑(((↑bm.Classes.length:Int):Int) - 0).toNat:Int) < (↑bm.Classes.length:Int))):=zO (wCG)
 refine sR fL1 Z (oR Z (zx Z qU pK) (eN (zP (cF Z mO (CK.exit (ZH (ZH (Zb (zU ?_)))))))))
 have q:=bnd lJ
 obtain ⟨⟨aU,ab⟩,eM,lL⟩:=q
 try dsimp only at lL
 refine bnK lL fun aX eO ux=>bnK ux fun bg lw uy=>ZT ZQ [3,1004,3,1005,2,0,3,2,3,2,0,3,0,3,0,ap] (wFx (.fl 6 (.fl 8 (.fx 3 (.fx 4 (.fx 5 (.fx 7 gAw (.fx 9 gAx .stop)) (.fx 7 gBa (.fx 9 gBb .stop))) (.fx 7 gBd (.fx 9 gBe .stop))) (.fx 7 (.fx 3 gBd (.fx 9 gBc .stop)) (.fx 9 (.fx 3 gBe (.fx 7 gBc .stop)) .stop)))))) (by kernel_rfl) ?_
 have bR:=tG.drew
 generalize hw_W415:({ iy with drawn:=iy.drawn + 1 }:World)=iA at bR ⊢
 refine zi (s:=.nil) (M:=fun σ_ w_=>∃ (U_:PHeap) (dS:Option Addr) (eF:Nat) (cx:Option Addr) (dg:Nat) (cy:Option Addr) (dh:Nat) (eY:Option Addr) (fP:Nat),σ_ 0=.pointer (some ⟨ap,0,none⟩)/\σ_ 4=.pointer (some ⟨b3,0,none⟩)/\σ_ 5=.pointer (some ⟨b7,0,none⟩)/\σ_ 6=.pointer (some ⟨ak,0,none⟩)/\σ_ 7=.pointer (some ⟨aS,0,none⟩)/\σ_ 13=jV x39/\σ_ 14=jV (↑bb:Int)/\σ_ 28=.pointer (some ⟨aS,0,none⟩)/\σ_ 30=.pointer (some ⟨ap,0,none⟩)/\σ_ 31=jV aU/\σ_ 32=.slice eY ([aU].length) fP/\σ_ 33=.slice cx aX.length dg/\σ_ 34=.pointer (some ⟨aS,1,none⟩)/\σ_ 38=.slice cy bg.length dh/\σ_ 39=.pointer (some ⟨aS,0,none⟩)/\σ_ 40=.pointer (some ⟨aS,1,none⟩)/\PHeap.Le aZ U_/\SW w [B2] U U_ [.blk ap 81 [.slice dS ab.bytes.length eF,jV ab.next,.int .u32 ab.state],.row cx dg 3 1 (hH KL.encI aX),.row cy dh 23 1 (hH wAO (aq ++ [(⟨ae,aa.length,ah⟩:Hd)]:List Hd)),inn 3 1 KL.encI (aq ++ [(⟨ae,aa.length,ah⟩:Hd)]:List Hd) bg,.blk aS 63 [.slice cx aX.length dg,.slice cy bg.length dh],B3,.blk ak 61 B5,.blk b7 63 B1,.blk b3 61 B0,.row eY fP 3 1 (hH KL.encI [aU])] w_/\Sl U_ 1 dS eF ab.bytes.length (hH KL.encB8 ab.bytes)) ?_ fun uz=>?_
 rintro wl vq ⟨mh,dS,eF,cx,dg,cy,dh,eY,fP,pL,pM,pN,pO,pP,pQ,pR,vy,vz,vA,vB,vC,vD,vE,vG,vH,uO,tQ,rB⟩
 refine ZF (ZP (zU (rR fL2 Z (oR Z (Za (zq Z pR Z) (congrArg (jV) ur.out)) (oM Z Z (ZF ?_))))))
 cases uy
 exact zU ⟨rfl,⟨mh,dS,eF,cx,dg,cy,dh,(aq ++ [(⟨ae,aa.length,ah⟩:Hd)]:List Hd),rfl,pL,pM,pN,pO,pP,pQ,((uH.trans uN).trans uO),(tQ.pick [0,1,2,3,4,5,6,7,8] _ (by decide) rfl),rB⟩⟩
 refine zi (s:=gAh) (M:=fun σ_ w_=>∃ (U_:PHeap) (cz:Option Addr) (dk:Nat) (bF:Option Addr) (bN:Nat) (cA:Option Addr) (dl:Nat) (bG:Option Addr) (bO:Nat),σ_ 0=.pointer (some ⟨ap,0,none⟩)/\σ_ 4=.pointer (some ⟨b3,0,none⟩)/\σ_ 5=.pointer (some ⟨b7,0,none⟩)/\σ_ 6=.pointer (some ⟨ak,0,none⟩)/\σ_ 7=.pointer (some ⟨aS,0,none⟩)/\σ_ 13=jV x39/\σ_ 14=jV (↑bb:Int)/\σ_ 28=.pointer (some ⟨aS,0,none⟩)/\σ_ 30=.pointer (some ⟨ap,0,none⟩)/\σ_ 31=jV aU/\σ_ 32=.slice cA ([aU].length) dl/\σ_ 33=.slice bF aX.length bN/\σ_ 34=.pointer (some ⟨aS,1,none⟩)/\σ_ 38=.slice bG bg.length bO/\σ_ 39=.pointer (some ⟨aS,0,none⟩)/\PHeap.Le aZ U_/\SW w [B2] U U_ [.blk ap 81 [.slice cz ab.bytes.length dk,jV ab.next,.int .u32 ab.state],.row bF bN 3 1 (hH KL.encI aX),.blk aS 63 [.slice bF aX.length bN,.slice a0 au.length ba],B3,.blk ak 61 B5,.blk b7 63 B1,.blk b3 61 B0,.row cA dl 3 1 (hH KL.encI [aU]),.row bG bO 23 1 (hH wAO (aq ++ [(⟨ae,aa.length,ah⟩:Hd)]:List Hd)),inn 3 1 KL.encI (aq ++ [(⟨ae,aa.length,ah⟩:Hd)]:List Hd) bg] w_/\Sl U_ 1 cz dk ab.bytes.length (hH KL.encB8 ab.bytes)) ?_ fun uA=>?_
 rintro wn vr ⟨iu,cz,dk,bF,bN,cA,dl,bG,bO,pS,pT,pU,pV,lg,pW,pX,pY,pZ,p6,p7,p8,p9,lh,qa,uP,tS,rC⟩
 refine oR Z (zN Z lg zK Z ZK) (ZC (j:=2) (vs:=[.slice bG bg.length bO]) Z Z Z Z tS Z Z lh Z ZK (zE Z) Z Z Z ?_)
 intro mK tT
 have tU:SW w [B2] U iu [.blk ap 81 [.slice cz ab.bytes.length dk,jV ab.next,.int .u32 ab.state],.row bF bN 3 1 (hH KL.encI aX),.blk aS 63 [.slice bF aX.length bN,.slice bG bg.length bO],B3,.blk ak 61 B5,.blk b7 63 B1,.blk b3 61 B0,.row cA dl 3 1 (hH KL.encI [aU]),.row bG bO 23 1 (hH wAO (aq ++ [(⟨ae,aa.length,ah⟩:Hd)]:List Hd)),inn 3 1 KL.encI (aq ++ [(⟨ae,aa.length,ah⟩:Hd)]:List Hd) bg] mK:=tT
 exact uz _ _ ⟨iu,cz,dk,bF,bN,bG,bO,cA,dl,pS,pT,pU,pV,lg,pW,pX,pY,pZ,p6,p7,p8,p9,lh,qa,rfl,uP,(tU.pick [0,1,8,9,2,3,4,5,6,7] _ (by decide) rfl),rC⟩
 refine zi (s:=gAo) (M:=fun σ_ w_=>∃ (U_:PHeap) (cB:Option Addr) (dm:Nat) (cC:Option Addr) (dp:Nat) (bH:Option Addr) (bP:Nat) (cD:Option Addr) (dq:Nat),σ_ 0=.pointer (some ⟨ap,0,none⟩)/\σ_ 4=.pointer (some ⟨b3,0,none⟩)/\σ_ 5=.pointer (some ⟨b7,0,none⟩)/\σ_ 6=.pointer (some ⟨ak,0,none⟩)/\σ_ 7=.pointer (some ⟨aS,0,none⟩)/\σ_ 13=jV x39/\σ_ 14=jV (↑bb:Int)/\σ_ 28=.pointer (some ⟨aS,0,none⟩)/\σ_ 30=.pointer (some ⟨ap,0,none⟩)/\σ_ 31=jV aU/\σ_ 32=.slice cC ([aU].length) dp/\σ_ 33=.slice bH aX.length bP/\σ_ 34=.pointer (some ⟨aS,1,none⟩)/\σ_ 38=.slice cD bg.length dq/\σ_ 39=.pointer (some ⟨aS,0,none⟩)/\PHeap.Le aZ U_/\SW w [B2] U U_ [.blk ap 81 [.slice cB ab.bytes.length dm,jV ab.next,.int .u32 ab.state],B7,B3,.blk ak 61 B5,.blk b7 63 B1,.blk b3 61 B0,.row cC dp 3 1 (hH KL.encI [aU]),.row bH bP 3 1 (hH KL.encI aX),.row cD dq 23 1 (hH wAO (aq ++ [(⟨ae,aa.length,ah⟩:Hd)]:List Hd)),inn 3 1 KL.encI (aq ++ [(⟨ae,aa.length,ah⟩:Hd)]:List Hd) bg] w_/\Sl U_ 1 cB dm ab.bytes.length (hH KL.encB8 ab.bytes)) ?_ fun l3=>?_
 rintro wo vt ⟨iv,cB,dm,cC,dp,bH,bP,cD,dq,qb,qc,qd,qe,qf,qg,qh,qi,qj,qk,ql,li,qm,qn,lj,uQ,tV,rD⟩
 refine ZC (j:=1) (vs:=[.slice bH aX.length bP]) Z Z Z Z tV Z lj li Z zD (zE Z) Z Z Z ?_
 intro mL tW
 have tX:SW w [B2] U iv [.blk ap 81 [.slice cB ab.bytes.length dm,jV ab.next,.int .u32 ab.state],.blk aS 63 [.slice bH aX.length bP,.slice a0 au.length ba],B3,.blk ak 61 B5,.blk b7 63 B1,.blk b3 61 B0,.row cC dp 3 1 (hH KL.encI [aU]),.row bH bP 3 1 (hH KL.encI aX),.row cD dq 23 1 (hH wAO (aq ++ [(⟨ae,aa.length,ah⟩:Hd)]:List Hd)),inn 3 1 KL.encI (aq ++ [(⟨ae,aa.length,ah⟩:Hd)]:List Hd) bg] mL:=tW
 exact uA _ _ ⟨iv,cB,dm,bH,bP,cC,dp,cD,dq,qb,qc,qd,qe,qf,qg,qh,qi,qj,qk,ql,li,qm,qn,lj,uQ,(tX.pick [0,7,1,2,3,4,5,6,8,9] _ (by decide) rfl),rD⟩
 refine zi (s:=gAs) (M:=fun σ_ w_=>∃ (U_:PHeap) (cE:Option Addr) (dr:Nat) (cG:Option Addr) (dt:Nat) (cH:Option Addr) (du:Nat) (dT:Option Addr) (eG:Nat),σ_ 0=.pointer (some ⟨ap,0,none⟩)/\σ_ 4=.pointer (some ⟨b3,0,none⟩)/\σ_ 5=.pointer (some ⟨b7,0,none⟩)/\σ_ 6=.pointer (some ⟨ak,0,none⟩)/\σ_ 7=.pointer (some ⟨aS,0,none⟩)/\σ_ 13=jV x39/\σ_ 14=jV (↑bb:Int)/\σ_ 28=.pointer (some ⟨aS,0,none⟩)/\σ_ 30=.pointer (some ⟨ap,0,none⟩)/\σ_ 31=jV aU/\σ_ 32=.slice cG ([aU].length) dt/\σ_ 33=.slice cH aX.length du/\σ_ 34=.pointer (some ⟨aS,1,none⟩)/\σ_ 35=.slice a0 au.length ba/\σ_ 37=.slice dT ([aa].length) eG/\σ_ 39=.pointer (some ⟨aS,0,none⟩)/\PHeap.Le aZ U_/\SW w [B2] U U_ [.blk ap 81 [.slice cE ab.bytes.length dr,jV ab.next,.int .u32 ab.state],B8,inn 3 1 KL.encI aq au,B7,B3,.blk ak 61 B5,.blk b7 63 B1,.blk b3 61 B0,.row cG dt 3 1 (hH KL.encI [aU]),.row cH du 3 1 (hH KL.encI aX),.row dT eG 23 1 (hH wAO [(⟨ae,aa.length,ah⟩:Hd)]),inn 3 1 KL.encI [(⟨ae,aa.length,ah⟩:Hd)] [aa]] w_/\Sl U_ 1 cE dr ab.bytes.length (hH KL.encB8 ab.bytes)) ?_ fun uB=>?_
 rintro wp vu ⟨cQ,cE,dr,cG,dt,cH,du,dT,eG,qo,qp,qq,qr,qt,qu,qv,qw,qx,qy,qz,qA,qB,qC,qD,qE,uR,eR,rE⟩
 have ge:=eR.innFit (j:=2) rfl
 have gf:=eR.innFit (j:=11) rfl
 have q:=wHF lw ge gf
 obtain ⟨uj,lR⟩:=q
 refine zu (j:=1) (enc:=wAO) (xs:=aq) (ys:=[(⟨ae,aa.length,ah⟩:Hd)]) rfl rfl rfl rfl rfl Tryz.underlying29 wHX rfl rfl rfl rfl rfl rfl eR rfl (wLm qC ge) (wLm qD gf) (eR.srcR (j:=10) rfl (by decide) (wAJ (f:=wAO) (sz:=1) (fun _=>rfl) [(⟨ae,aa.length,ah⟩:Hd)])) (fun _=>rfl) (fun _=>rfl) uj rfl ?_
 intro gL iX ej tY
 have uu:(aq ++ [(⟨ae,aa.length,ah⟩:Hd)]:List Hd).length=bg.length:=by rw [lR,nG,nG,ge.len,gf.len]
 rw [uu]
 let dW:Res:=.row gL iX 23 1 (hH wAO (aq ++ [(⟨ae,aa.length,ah⟩:Hd)]:List Hd))
 let dX:Res:=.blk ap 81 [.slice cE ab.bytes.length dr,jV ab.next,.int .u32 ab.state]
 let e9:Res:=.row dT eG 23 1 (hH wAO [(⟨ae,aa.length,ah⟩:Hd)])
 let dY:Res:=.row cG dt 3 1 (hH KL.encI [aU])
 let dZ:Res:=.row cH du 3 1 (hH KL.encI aX)
 have tZ:SW w [B2] U cQ [dX,dW,inn 3 1 KL.encI aq au,B7,B3,.blk ak 61 B5,.blk b7 63 B1,.blk b3 61 B0,dY,dZ,e9,inn 3 1 KL.encI [(⟨ae,aa.length,ah⟩:Hd)] [aa]] ej:=tY
 have t7:SW w [B2] U cQ [inn 3 1 KL.encI aq au,inn 3 1 KL.encI [(⟨ae,aa.length,ah⟩:Hd)] [aa],dX,dW,B7,B3,.blk ak 61 B5,.blk b7 63 B1,.blk b3 61 B0,dY,dZ,e9] ej:=tZ.pick [2,11,0,1,3,4,5,6,7,8,9,10] _ (by decide) rfl
 have lE:=t7.innApp
 rw [<- lR] at lE
 have t8:SW w [B2] U cQ [inn 3 1 KL.encI (aq ++ [(⟨ae,aa.length,ah⟩:Hd)]:List Hd) bg,dX,dW,B7,B3,.blk ak 61 B5,.blk b7 63 B1,.blk b3 61 B0,dY,dZ,e9] ej:=lE
 have t9:=t8.drop 10
 have ua:SW w [B2] U cQ [inn 3 1 KL.encI (aq ++ [(⟨ae,aa.length,ah⟩:Hd)]:List Hd) bg,dX,dW,B7,B3,.blk ak 61 B5,.blk b7 63 B1,.blk b3 61 B0,dY,dZ] ej:=t9
 exact l3 _ _ ⟨cQ,cE,dr,cG,dt,cH,du,gL,iX,qo,qp,qq,qr,qt,qu,qv,qw,qx,qy,qz,qA,qB,rfl,qE,uR,(ua.pick [1,3,4,5,6,7,8,9,2,0] _ (by decide) rfl),rE⟩
 refine zi (s:=.fl 11 gAs) (M:=fun σ_ w_=>∃ (U_:PHeap) (cI:Option Addr) (dv:Nat) (cJ:Option Addr) (dw:Nat) (cK:Option Addr) (dx:Nat) (dU:Option Addr) (eH:Nat),σ_ 0=.pointer (some ⟨ap,0,none⟩)/\σ_ 4=.pointer (some ⟨b3,0,none⟩)/\σ_ 5=.pointer (some ⟨b7,0,none⟩)/\σ_ 6=.pointer (some ⟨ak,0,none⟩)/\σ_ 7=.pointer (some ⟨aS,0,none⟩)/\σ_ 13=jV x39/\σ_ 14=jV (↑bb:Int)/\σ_ 28=.pointer (some ⟨aS,0,none⟩)/\σ_ 30=.pointer (some ⟨ap,0,none⟩)/\σ_ 31=jV aU/\σ_ 32=.slice cJ ([aU].length) dw/\σ_ 33=.slice cK aX.length dx/\σ_ 34=.pointer (some ⟨aS,1,none⟩)/\σ_ 35=.slice a0 au.length ba/\σ_ 37=.slice dU ([aa].length) eH/\PHeap.Le aZ U_/\SW w [B2] U U_ [.blk ap 81 [.slice cI ab.bytes.length dv,jV ab.next,.int .u32 ab.state],B8,inn 3 1 KL.encI aq au,B7,B3,.blk ak 61 B5,.blk b7 63 B1,.blk b3 61 B0,.row cJ dw 3 1 (hH KL.encI [aU]),.row cK dx 3 1 (hH KL.encI aX),.row dU eH 23 1 (hH wAO [(⟨ae,aa.length,ah⟩:Hd)]),inn 3 1 KL.encI [(⟨ae,aa.length,ah⟩:Hd)] [aa]] w_/\Sl U_ 1 cI dv ab.bytes.length (hH KL.encB8 ab.bytes)) ?_ fun l4=>?_
 rintro wq vv ⟨cR,cI,dv,cJ,dw,cK,dx,dU,eH,qF,qG,qH,qI,lm,qJ,qK,qL,qM,qN,qO,qP,qQ,qR,qS,uS,eS,rF⟩
 refine oR Z (zN Z lm zK Z zD) ?_
 have gg:=eS.innFit (j:=2) rfl
 have gh:=eS.innFit (j:=11) rfl
 have q:=wHF lw gg gh
 obtain ⟨uk,lS⟩:=q
 refine zu (j:=1) (enc:=wAO) (xs:=aq) (ys:=[(⟨ae,aa.length,ah⟩:Hd)]) rfl rfl rfl rfl rfl Tryz.underlying29 wHX rfl rfl rfl rfl rfl rfl eS rfl (wLm qR gg) (wLm qS gh) (eS.srcR (j:=10) rfl (by decide) (wAJ (f:=wAO) (sz:=1) (fun _=>rfl) [(⟨ae,aa.length,ah⟩:Hd)])) (fun _=>rfl) (fun _=>rfl) uk rfl ?_
 intro gM iY en ub
 have uv:(aq ++ [(⟨ae,aa.length,ah⟩:Hd)]:List Hd).length=bg.length:=by rw [lS,nG,nG,gg.len,gh.len]
 rw [uv]
 let d7:Res:=.row gM iY 23 1 (hH wAO (aq ++ [(⟨ae,aa.length,ah⟩:Hd)]:List Hd))
 let d8:Res:=.blk ap 81 [.slice cI ab.bytes.length dv,jV ab.next,.int .u32 ab.state]
 let fb:Res:=.row dU eH 23 1 (hH wAO [(⟨ae,aa.length,ah⟩:Hd)])
 let d9:Res:=.row cJ dw 3 1 (hH KL.encI [aU])
 let eb:Res:=.row cK dx 3 1 (hH KL.encI aX)
 have uc:SW w [B2] U cR [d8,d7,inn 3 1 KL.encI aq au,B7,B3,.blk ak 61 B5,.blk b7 63 B1,.blk b3 61 B0,d9,eb,fb,inn 3 1 KL.encI [(⟨ae,aa.length,ah⟩:Hd)] [aa]] en:=ub
 have ud:SW w [B2] U cR [inn 3 1 KL.encI aq au,inn 3 1 KL.encI [(⟨ae,aa.length,ah⟩:Hd)] [aa],d8,d7,B7,B3,.blk ak 61 B5,.blk b7 63 B1,.blk b3 61 B0,d9,eb,fb] en:=uc.pick [2,11,0,1,3,4,5,6,7,8,9,10] _ (by decide) rfl
 have lF:=ud.innApp
 rw [<- lS] at lF
 have ue:SW w [B2] U cR [inn 3 1 KL.encI (aq ++ [(⟨ae,aa.length,ah⟩:Hd)]:List Hd) bg,d8,d7,B7,B3,.blk ak 61 B5,.blk b7 63 B1,.blk b3 61 B0,d9,eb,fb] en:=lF
 have uf:=ue.drop 10
 have ug:SW w [B2] U cR [inn 3 1 KL.encI (aq ++ [(⟨ae,aa.length,ah⟩:Hd)]:List Hd) bg,d8,d7,B7,B3,.blk ak 61 B5,.blk b7 63 B1,.blk b3 61 B0,d9,eb] en:=uf
 exact l3 _ _ ⟨cR,cI,dv,cJ,dw,cK,dx,gM,iY,qF,qG,qH,qI,lm,qJ,qK,qL,qM,qN,qO,qP,qQ,rfl,rfl,uS,(ug.pick [1,3,4,5,6,7,8,9,2,0] _ (by decide) rfl),rF⟩
 refine zi (s:=gAy) (M:=fun σ_ w_=>∃ (U_:PHeap) (cL:Option Addr) (dy:Nat) (cM:Option Addr) (dz:Nat) (cj:Option Addr) (cV:Nat),σ_ 0=.pointer (some ⟨ap,0,none⟩)/\σ_ 4=.pointer (some ⟨b3,0,none⟩)/\σ_ 5=.pointer (some ⟨b7,0,none⟩)/\σ_ 6=.pointer (some ⟨ak,0,none⟩)/\σ_ 7=.pointer (some ⟨aS,0,none⟩)/\σ_ 13=jV x39/\σ_ 14=jV (↑bb:Int)/\σ_ 28=.pointer (some ⟨aS,0,none⟩)/\σ_ 29=.slice bi bf.length bj/\σ_ 30=.pointer (some ⟨ap,0,none⟩)/\σ_ 31=jV aU/\σ_ 32=.slice cM ([aU].length) dz/\σ_ 34=.pointer (some ⟨aS,1,none⟩)/\σ_ 35=.slice a0 au.length ba/\σ_ 37=.slice cj ([aa].length) cV/\PHeap.Le aZ U_/\SW w [B2] U U_ [.blk ap 81 [.slice cL ab.bytes.length dy,jV ab.next,.int .u32 ab.state],B9,B8,inn 3 1 KL.encI aq au,B7,B3,.blk ak 61 B5,.blk b7 63 B1,.blk b3 61 B0,.row cM dz 3 1 (hH KL.encI [aU]),.row cj cV 23 1 (hH wAO [(⟨ae,aa.length,ah⟩:Hd)]),inn 3 1 KL.encI [(⟨ae,aa.length,ah⟩:Hd)] [aa]] w_/\Sl U_ 1 cL dy ab.bytes.length (hH KL.encB8 ab.bytes)) ?_ fun gt=>?_
 rintro vW va ⟨im,cL,dy,cM,dz,cj,cV,mP,mQ,mR,mS,mT,mU,mV,mW,mX,mY,mZ,i0,m0,m4,m5,uC,lx,qV⟩
 refine zu (j:=1) (enc:=KL.encI) (xs:=bf) (ys:=[aU]) (zs:=aX) rfl rfl rfl rfl rfl zk wDX rfl rfl rfl rfl rfl rfl lx rfl mX i0 (lx.srcR (j:=9) rfl (by decide) (wAJ (f:=KL.encI) (sz:=1) (fun _=>rfl) [aU])) (fun _=>rfl) (fun _=>rfl) eO rfl ?_
 intro gz iI mi rG
 have rH:SW w [B2] U im [.blk ap 81 [.slice cL ab.bytes.length dy,jV ab.next,.int .u32 ab.state],.row gz iI 3 1 (hH KL.encI aX),B8,inn 3 1 KL.encI aq au,B7,B3,.blk ak 61 B5,.blk b7 63 B1,.blk b3 61 B0,.row cM dz 3 1 (hH KL.encI [aU]),.row cj cV 23 1 (hH wAO [(⟨ae,aa.length,ah⟩:Hd)]),inn 3 1 KL.encI [(⟨ae,aa.length,ah⟩:Hd)] [aa]] mi:=rG
 exact l4 _ _ ⟨im,cL,dy,cM,dz,gz,iI,cj,cV,mP,mQ,mR,mS,mT,mU,mV,mW,mY,mZ,i0,rfl,m0,m4,m5,uC,(rH.pick [0,2,3,4,5,6,7,8,9,1,10,11] _ (by decide) rfl),qV⟩
 refine zi (s:=gAx) (M:=fun σ_ w_=>∃ (U_:PHeap) (dM:Option Addr) (ey:Nat) (dN:Option Addr) (ez:Nat) (dO:Option Addr) (eA:Nat) (dP:Option Addr) (eC:Nat),σ_ 0=.pointer (some ⟨ap,0,none⟩)/\σ_ 4=.pointer (some ⟨b3,0,none⟩)/\σ_ 5=.pointer (some ⟨b7,0,none⟩)/\σ_ 6=.pointer (some ⟨ak,0,none⟩)/\σ_ 7=.pointer (some ⟨aS,0,none⟩)/\σ_ 13=jV x39/\σ_ 14=jV (↑bb:Int)/\σ_ 28=.pointer (some ⟨aS,0,none⟩)/\σ_ 30=.pointer (some ⟨ap,0,none⟩)/\σ_ 31=jV aU/\σ_ 32=.slice dN ([aU].length) ez/\σ_ 33=.slice dO aX.length eA/\σ_ 34=.pointer (some ⟨aS,1,none⟩)/\σ_ 37=.slice dP ([aa].length) eC/\PHeap.Le aZ U_/\SW w [B2] U U_ [.blk ap 81 [.slice dM ab.bytes.length ey,jV ab.next,.int .u32 ab.state],B8,inn 3 1 KL.encI aq au,B7,B3,.blk ak 61 B5,.blk b7 63 B1,.blk b3 61 B0,.row dN ez 3 1 (hH KL.encI [aU]),.row dO eA 3 1 (hH KL.encI aX),.row dP eC 23 1 (hH wAO [(⟨ae,aa.length,ah⟩:Hd)]),inn 3 1 KL.encI [(⟨ae,aa.length,ah⟩:Hd)] [aa]] w_/\Sl U_ 1 dM ey ab.bytes.length (hH KL.encB8 ab.bytes)) ?_ fun lT=>?_
 rintro vX vc ⟨md,dM,ey,dN,ez,dO,eA,dP,eC,m6,m7,m8,m9,n8,n9,oa,od,oe,og,oh,oi,i6,oj,uD,ly,qW⟩
 exact ZJ Z Z Z Z (ly.ldB (j:=3) Z Z i6 zl (v:=.slice a0 au.length ba) Z) (l4 _ _ ⟨md,dM,ey,dN,ez,dO,eA,dP,eC,m6,m7,m8,m9,n8,n9,oa,od,oe,og,oh,oi,i6,Z,oj,uD,ly,qW⟩)
 let aY:Res:=.row ae ah 3 1 (hH KL.encI aa)
 refine zi (s:=gAw) (M:=fun σ_ w_=>∃ (U_:PHeap) (cm:Option Addr) (cW:Nat) (cn:Option Addr) (cX:Nat) (cp:Option Addr) (cY:Nat),σ_ 0=.pointer (some ⟨ap,0,none⟩)/\σ_ 4=.pointer (some ⟨b3,0,none⟩)/\σ_ 5=.pointer (some ⟨b7,0,none⟩)/\σ_ 6=.pointer (some ⟨ak,0,none⟩)/\σ_ 7=.pointer (some ⟨aS,0,none⟩)/\σ_ 8=.slice ae aa.length ah/\σ_ 13=jV x39/\σ_ 14=jV (↑bb:Int)/\σ_ 28=.pointer (some ⟨aS,0,none⟩)/\σ_ 30=.pointer (some ⟨ap,0,none⟩)/\σ_ 31=jV aU/\σ_ 32=.slice cn ([aU].length) cX/\σ_ 33=.slice cp aX.length cY/\σ_ 34=.pointer (some ⟨aS,1,none⟩)/\σ_ 35=.slice a0 au.length ba/\σ_ 36=.slice ae aa.length ah/\PHeap.Le aZ U_/\SW w [B2] U U_ [.blk ap 81 [.slice cm ab.bytes.length cW,jV ab.next,.int .u32 ab.state],B8,inn 3 1 KL.encI aq au,B7,B3,.blk ak 61 B5,.blk b7 63 B1,.blk b3 61 B0,aY,.row cn cX 3 1 (hH KL.encI [aU]),.row cp cY 3 1 (hH KL.encI aX)] w_/\Sl U_ 1 cm cW ab.bytes.length (hH KL.encB8 ab.bytes)) ?_ fun lU=>?_
 rintro vY vd ⟨ed,cm,cW,cn,cX,cp,cY,ol,om,oq,ot,i7,vw,ou,ow,ox,oy,oz,oB,oG,oH,oI,oK,uE,rI,qX⟩
 refine oR Z (zN Z i7 zK Z zD) ?_
 let gQ:List Value:=[.slice ae aa.length ah]
 refine zM (pv:=[(0,.slice ae aa.length ah)]) (zs:=[.slice none 0 0]) (cs:=gQ) Z Z Z Z Z (wAH oK wAR) zL zD zg Z Z Z Z Z rI ?_
 intro fu fD rJ
 let fc:Res:=.blk ap 81 [.slice cm ab.bytes.length cW,jV ab.next,.int .u32 ab.state]
 let fd:Res:=.row cn cX 3 1 (hH KL.encI [aU])
 let fe:Res:=.row cp cY 3 1 (hH KL.encI aX)
 let gR:Res:=.row (some ⟨fD,0,none⟩) 1 23 1 gQ
 have rK:SW w [B2] U ed [gR,fc,B8,inn 3 1 KL.encI aq au,B7,B3,.blk ak 61 B5,.blk b7 63 B1,.blk b3 61 B0,aY,fd,fe] fu:=rJ
 have rL:SW w [B2] U ed [aY,gR,fc,B8,inn 3 1 KL.encI aq au,B7,B3,.blk ak 61 B5,.blk b7 63 B1,.blk b3 61 B0,fd,fe] fu:=rK.pick [9,0,1,2,3,4,5,6,7,8,10,11] _ (by decide) rfl
 have rM:=rL.innOne
 have rN:SW w [B2] U ed [inn 3 1 KL.encI [(⟨ae,aa.length,ah⟩:Hd)] [aa],.row (some ⟨fD,0,none⟩) 1 23 1 (hH wAO [(⟨ae,aa.length,ah⟩:Hd)]),fc,B8,inn 3 1 KL.encI aq au,B7,B3,.blk ak 61 B5,.blk b7 63 B1,.blk b3 61 B0,fd,fe] fu:=rM
 exact uB _ _ ⟨ed,cm,cW,cn,cX,cp,cY,(some ⟨fD,0,none⟩),1,ol,om,oq,ot,i7,ou,ow,ox,oy,oz,oB,oG,oH,oI,rfl,rfl,uE,(rN.pick [2,3,4,5,6,7,8,9,10,11,1,0] _ (by decide) rfl),qX⟩
 refine zi (s:=gAz) (M:=fun σ_ w_=>∃ (U_:PHeap) (cq:Option Addr) (cZ:Nat) (cr:Option Addr) (da:Nat),σ_ 0=.pointer (some ⟨ap,0,none⟩)/\σ_ 4=.pointer (some ⟨b3,0,none⟩)/\σ_ 5=.pointer (some ⟨b7,0,none⟩)/\σ_ 6=.pointer (some ⟨ak,0,none⟩)/\σ_ 7=.pointer (some ⟨aS,0,none⟩)/\σ_ 13=jV x39/\σ_ 14=jV (↑bb:Int)/\σ_ 28=.pointer (some ⟨aS,0,none⟩)/\σ_ 29=.slice bi bf.length bj/\σ_ 30=.pointer (some ⟨ap,0,none⟩)/\σ_ 31=jV aU/\σ_ 34=.pointer (some ⟨aS,1,none⟩)/\σ_ 35=.slice a0 au.length ba/\σ_ 37=.slice cr ([aa].length) da/\PHeap.Le aZ U_/\SW w [B2] U U_ [.blk ap 81 [.slice cq ab.bytes.length cZ,jV ab.next,.int .u32 ab.state],B9,B8,inn 3 1 KL.encI aq au,B7,B3,.blk ak 61 B5,.blk b7 63 B1,.blk b3 61 B0,.row cr da 23 1 (hH wAO [(⟨ae,aa.length,ah⟩:Hd)]),inn 3 1 KL.encI [(⟨ae,aa.length,ah⟩:Hd)] [aa]] w_/\Sl U_ 1 cq cZ ab.bytes.length (hH KL.encB8 ab.bytes)) ?_ fun gu=>?_
 rintro vZ ve ⟨io,cq,cZ,cr,da,oO,oP,oU,oW,oX,oY,o0,o2,o3,o4,i8,o5,o6,o7,uF,rO,qY⟩
 refine zM (pv:=[(0,jV aU)]) (zs:=[jV 0]) (cs:=[jV aU]) Z Z Z Z Z (wAH i8 wAR) zB zI zn Z Z Z Z Z rO ?_
 intro mj iD rP
 have rQ:SW w [B2] U io [.row (some ⟨iD,0,none⟩) 1 3 1 (hH KL.encI [aU]),.blk ap 81 [.slice cq ab.bytes.length cZ,jV ab.next,.int .u32 ab.state],B9,B8,inn 3 1 KL.encI aq au,B7,B3,.blk ak 61 B5,.blk b7 63 B1,.blk b3 61 B0,.row cr da 23 1 (hH wAO [(⟨ae,aa.length,ah⟩:Hd)]),inn 3 1 KL.encI [(⟨ae,aa.length,ah⟩:Hd)] [aa]] mj:=rP
 exact gt _ _ ⟨io,cq,cZ,(some ⟨iD,0,none⟩),1,cr,da,oO,oP,oU,oW,oX,oY,o0,o2,o3,o4,i8,rfl,o5,o6,o7,uF,(rQ.pick [1,2,3,4,5,6,7,8,9,0,10,11] _ (by decide) rfl),qY⟩
 refine zi (s:=gBb) (M:=fun σ_ w_=>∃ (U_:PHeap) (bS:Option Addr) (bZ:Nat) (bT:Option Addr) (b5:Nat) (bU:Option Addr) (b8:Nat),σ_ 0=.pointer (some ⟨ap,0,none⟩)/\σ_ 4=.pointer (some ⟨b3,0,none⟩)/\σ_ 5=.pointer (some ⟨b7,0,none⟩)/\σ_ 6=.pointer (some ⟨ak,0,none⟩)/\σ_ 7=.pointer (some ⟨aS,0,none⟩)/\σ_ 13=jV x39/\σ_ 14=jV (↑bb:Int)/\σ_ 28=.pointer (some ⟨aS,0,none⟩)/\σ_ 29=.slice bi bf.length bj/\σ_ 30=.pointer (some ⟨ap,0,none⟩)/\σ_ 31=jV aU/\σ_ 32=.slice bT ([aU].length) b5/\σ_ 34=.pointer (some ⟨aS,1,none⟩)/\σ_ 37=.slice bU ([aa].length) b8/\PHeap.Le aZ U_/\SW w [B2] U U_ [.blk ap 81 [.slice bS ab.bytes.length bZ,jV ab.next,.int .u32 ab.state],B9,B8,inn 3 1 KL.encI aq au,B7,B3,.blk ak 61 B5,.blk b7 63 B1,.blk b3 61 B0,.row bT b5 3 1 (hH KL.encI [aU]),.row bU b8 23 1 (hH wAO [(⟨ae,aa.length,ah⟩:Hd)]),inn 3 1 KL.encI [(⟨ae,aa.length,ah⟩:Hd)] [aa]] w_/\Sl U_ 1 bS bZ ab.bytes.length (hH KL.encB8 ab.bytes)) ?_ fun lV=>?_
 rintro v9 vg ⟨fq,bS,bZ,bT,b5,bU,b8,i9,ja,jb,jc,jd,je,jf,jg,jh,ji,jj,fQ,fR,jk,l5,eP,lq⟩
 refine zm ?_ ?_
 refine zu (j:=1) (enc:=KL.encI) (xs:=bf) (ys:=[aU]) (zs:=aX) rfl rfl rfl rfl rfl zk wDX rfl rfl rfl rfl rfl rfl eP rfl jh fQ (eP.srcR (j:=9) rfl (by decide) (wAJ (f:=KL.encI) (sz:=1) (fun _=>rfl) [aU])) (fun _=>rfl) (fun _=>rfl) eO rfl ?_
 intro gB iK ml rS
 have rT:SW w [B2] U fq [.blk ap 81 [.slice bS ab.bytes.length bZ,jV ab.next,.int .u32 ab.state],.row gB iK 3 1 (hH KL.encI aX),B8,inn 3 1 KL.encI aq au,B7,B3,.blk ak 61 B5,.blk b7 63 B1,.blk b3 61 B0,.row bT b5 3 1 (hH KL.encI [aU]),.row bU b8 23 1 (hH wAO [(⟨ae,aa.length,ah⟩:Hd)]),inn 3 1 KL.encI [(⟨ae,aa.length,ah⟩:Hd)] [aa]] ml:=rS
 exact lT _ _ ⟨fq,bS,bZ,bT,b5,gB,iK,bU,b8,i9,ja,jb,jc,jd,je,jf,jg,ji,jj,fQ,rfl,fR,jk,l5,(rT.pick [0,2,3,4,5,6,7,8,9,1,10,11] _ (by decide) rfl),lq⟩
 exact ZJ Z Z Z Z (eP.ldB (j:=4) Z Z fR zl (v:=.slice a0 au.length ba) Z) (gt _ _ ⟨fq,bS,bZ,bT,b5,bU,b8,i9,ja,jb,jc,jd,je,jf,jg,jh,ji,jj,fQ,fR,Z,jk,l5,eP,lq⟩)
 refine zi (s:=gBa) (M:=fun σ_ w_=>∃ (U_:PHeap) (bB:Option Addr) (bJ:Nat) (bC:Option Addr) (bK:Nat),σ_ 0=.pointer (some ⟨ap,0,none⟩)/\σ_ 4=.pointer (some ⟨b3,0,none⟩)/\σ_ 5=.pointer (some ⟨b7,0,none⟩)/\σ_ 6=.pointer (some ⟨ak,0,none⟩)/\σ_ 7=.pointer (some ⟨aS,0,none⟩)/\σ_ 8=.slice ae aa.length ah/\σ_ 13=jV x39/\σ_ 14=jV (↑bb:Int)/\σ_ 28=.pointer (some ⟨aS,0,none⟩)/\σ_ 29=.slice bi bf.length bj/\σ_ 30=.pointer (some ⟨ap,0,none⟩)/\σ_ 31=jV aU/\σ_ 32=.slice bC ([aU].length) bK/\σ_ 34=.pointer (some ⟨aS,1,none⟩)/\σ_ 35=.slice a0 au.length ba/\σ_ 36=.slice ae aa.length ah/\PHeap.Le aZ U_/\SW w [B2] U U_ [.blk ap 81 [.slice bB ab.bytes.length bJ,jV ab.next,.int .u32 ab.state],B9,B8,inn 3 1 KL.encI aq au,B7,B3,.blk ak 61 B5,.blk b7 63 B1,.blk b3 61 B0,aY,.row bC bK 3 1 (hH KL.encI [aU])] w_/\Sl U_ 1 bB bJ ab.bytes.length (hH KL.encB8 ab.bytes)) ?_ fun lW=>?_
 rintro wa vh ⟨bX,bB,bJ,bC,bK,jl,jm,jo,jp,jq,o8,jr,jt,ju,jv,jw,jx,fS,jy,jz,jA,l6,fW,ls⟩
 refine zm ?_ ?_
 refine zu (j:=1) (enc:=KL.encI) (xs:=bf) (ys:=[aU]) (zs:=aX) rfl rfl rfl rfl rfl zk wDX rfl rfl rfl rfl rfl rfl fW rfl jv fS (fW.srcR (j:=10) rfl (by decide) (wAJ (f:=KL.encI) (sz:=1) (fun _=>rfl) [aU])) (fun _=>rfl) (fun _=>rfl) eO rfl ?_
 intro gC iL mn rX
 have rY:SW w [B2] U bX [.blk ap 81 [.slice bB ab.bytes.length bJ,jV ab.next,.int .u32 ab.state],.row gC iL 3 1 (hH KL.encI aX),B8,inn 3 1 KL.encI aq au,B7,B3,.blk ak 61 B5,.blk b7 63 B1,.blk b3 61 B0,aY,.row bC bK 3 1 (hH KL.encI [aU])] mn:=rX
 exact lU _ _ ⟨bX,bB,bJ,bC,bK,gC,iL,jl,jm,jo,jp,jq,o8,jr,jt,ju,jw,jx,fS,rfl,jy,jz,jA,l6,(rY.pick [0,2,3,4,5,6,7,8,9,10,1] _ (by decide) rfl),ls⟩
 let gS:List Value:=[.slice ae aa.length ah]
 refine zM (pv:=[(0,.slice ae aa.length ah)]) (zs:=[.slice none 0 0]) (cs:=gS) Z Z Z Z Z (wAH jA wAR) zL zD zg Z Z Z Z Z fW ?_
 intro fw fE r6
 let ff:Res:=.blk ap 81 [.slice bB ab.bytes.length bJ,jV ab.next,.int .u32 ab.state]
 let fg:Res:=.row bC bK 3 1 (hH KL.encI [aU])
 let gT:Res:=.row (some ⟨fE,0,none⟩) 1 23 1 gS
 have r7:SW w [B2] U bX [gT,ff,B9,B8,inn 3 1 KL.encI aq au,B7,B3,.blk ak 61 B5,.blk b7 63 B1,.blk b3 61 B0,aY,fg] fw:=r6
 have r8:SW w [B2] U bX [aY,gT,ff,B9,B8,inn 3 1 KL.encI aq au,B7,B3,.blk ak 61 B5,.blk b7 63 B1,.blk b3 61 B0,fg] fw:=r7.pick [10,0,1,2,3,4,5,6,7,8,9,11] _ (by decide) rfl
 have r9:=r8.innOne
 have sc:SW w [B2] U bX [inn 3 1 KL.encI [(⟨ae,aa.length,ah⟩:Hd)] [aa],.row (some ⟨fE,0,none⟩) 1 23 1 (hH wAO [(⟨ae,aa.length,ah⟩:Hd)]),ff,B9,B8,inn 3 1 KL.encI aq au,B7,B3,.blk ak 61 B5,.blk b7 63 B1,.blk b3 61 B0,fg] fw:=r9
 exact gt _ _ ⟨bX,bB,bJ,bC,bK,(some ⟨fE,0,none⟩),1,jl,jm,jo,jp,jq,jr,jt,ju,jv,jw,jx,fS,jy,jz,rfl,l6,(sc.pick [2,3,4,5,6,7,8,9,10,11,1,0] _ (by decide) rfl),ls⟩
 let bz:Res:=.blk ap 81 [.slice cw dJ.length df,jV dK,.int .u32 dL]
 refine zi (s:=gBc) (M:=fun σ_ w_=>∃ (U_:PHeap) (ct:Option Addr) (db:Nat),σ_ 0=.pointer (some ⟨ap,0,none⟩)/\σ_ 4=.pointer (some ⟨b3,0,none⟩)/\σ_ 5=.pointer (some ⟨b7,0,none⟩)/\σ_ 6=.pointer (some ⟨ak,0,none⟩)/\σ_ 7=.pointer (some ⟨aS,0,none⟩)/\σ_ 13=jV x39/\σ_ 14=jV (↑bb:Int)/\σ_ 28=.pointer (some ⟨aS,0,none⟩)/\σ_ 29=.slice bi bf.length bj/\σ_ 30=.pointer (some ⟨ap,0,none⟩)/\σ_ 34=.pointer (some ⟨aS,1,none⟩)/\σ_ 35=.slice a0 au.length ba/\σ_ 37=.slice ct ([aa].length) db/\PHeap.Le aZ U_/\SW w [B2] U U_ [bz,B9,B8,inn 3 1 KL.encI aq au,B7,B3,.blk ak 61 B5,.blk b7 63 B1,.blk b3 61 B0,.row ct db 23 1 (hH wAO [(⟨ae,aa.length,ah⟩:Hd)]),inn 3 1 KL.encI [(⟨ae,aa.length,ah⟩:Hd)] [aa]] w_) ?_ fun lX=>?_
 rintro wb mo ⟨me,ct,db,o9,pa,pb,pe,pf,pg,ph,pi,pj,jB,pk,pm,pn,l7,se⟩
 have rc:=eL.le l7
 refine ZV 1 rfl rfl rfl rfl (zC rfl rfl ZB (zA jB (zA rfl zH)) rfl) se (fun hs=>wAG (⟨dJ,dK,dL⟩:wAA) ap cw df 2 mo me hs rc eM) rfl (T:=[ap]) rfl ⟨fun b h=>(by cases h;exact .head _),trivial⟩ ?_
 rintro ip uW vM mp uG sf ⟨gD,iM,rfl,rfl,re⟩
 have sg:SW w [B2] U ip [.blk ap 81 [.slice gD ab.bytes.length iM,jV ab.next,.int .u32 ab.state],B9,B8,inn 3 1 KL.encI aq au,B7,B3,.blk ak 61 B5,.blk b7 63 B1,.blk b3 61 B0,.row ct db 23 1 (hH wAO [(⟨ae,aa.length,ah⟩:Hd)]),inn 3 1 KL.encI [(⟨ae,aa.length,ah⟩:Hd)] [aa]] mp:=sf
 exact gu _ _ ⟨ip,gD,iM,ct,db,o9,pa,pb,pe,pf,pg,ph,pi,pj,jB,Z,pk,pm,pn,(l7.trans uG),sg,re⟩
 refine zi (s:=gBe) (M:=fun σ_ w_=>∃ (U_:PHeap) (bV:Option Addr) (b9:Nat) (bW:Option Addr) (cd:Nat),σ_ 0=.pointer (some ⟨ap,0,none⟩)/\σ_ 4=.pointer (some ⟨b3,0,none⟩)/\σ_ 5=.pointer (some ⟨b7,0,none⟩)/\σ_ 6=.pointer (some ⟨ak,0,none⟩)/\σ_ 7=.pointer (some ⟨aS,0,none⟩)/\σ_ 13=jV x39/\σ_ 14=jV (↑bb:Int)/\σ_ 28=.pointer (some ⟨aS,0,none⟩)/\σ_ 29=.slice bi bf.length bj/\σ_ 30=.pointer (some ⟨ap,0,none⟩)/\σ_ 31=jV aU/\σ_ 34=.pointer (some ⟨aS,1,none⟩)/\σ_ 37=.slice bW ([aa].length) cd/\PHeap.Le aZ U_/\SW w [B2] U U_ [.blk ap 81 [.slice bV ab.bytes.length b9,jV ab.next,.int .u32 ab.state],B9,B8,inn 3 1 KL.encI aq au,B7,B3,.blk ak 61 B5,.blk b7 63 B1,.blk b3 61 B0,.row bW cd 23 1 (hH wAO [(⟨ae,aa.length,ah⟩:Hd)]),inn 3 1 KL.encI [(⟨ae,aa.length,ah⟩:Hd)] [aa]] w_/\Sl U_ 1 bV b9 ab.bytes.length (hH KL.encB8 ab.bytes)) ?_ fun lY=>?_
 rintro wd vj ⟨ft,bV,b9,bW,cd,jC,jD,jE,jG,jH,jJ,jK,jL,jM,jN,fT,fU,jO,l8,fY,lu⟩
 refine zm ?_ ?_
 refine zM (pv:=[(0,jV aU)]) (zs:=[jV 0]) (cs:=[jV aU]) Z Z Z Z Z (wAH fT wAR) zB zI zn Z Z Z Z Z fY ?_
 intro mq iE sh
 have sj:SW w [B2] U ft [.row (some ⟨iE,0,none⟩) 1 3 1 (hH KL.encI [aU]),.blk ap 81 [.slice bV ab.bytes.length b9,jV ab.next,.int .u32 ab.state],B9,B8,inn 3 1 KL.encI aq au,B7,B3,.blk ak 61 B5,.blk b7 63 B1,.blk b3 61 B0,.row bW cd 23 1 (hH wAO [(⟨ae,aa.length,ah⟩:Hd)]),inn 3 1 KL.encI [(⟨ae,aa.length,ah⟩:Hd)] [aa]] mq:=sh
 exact lV _ _ ⟨ft,bV,b9,(some ⟨iE,0,none⟩),1,bW,cd,jC,jD,jE,jG,jH,jJ,jK,jL,jM,jN,fT,rfl,fU,jO,l8,(sj.pick [1,2,3,4,5,6,7,8,9,0,10,11] _ (by decide) rfl),lu⟩
 exact ZJ Z Z Z Z (fY.ldB (j:=4) Z Z fU zl (v:=.slice a0 au.length ba) Z) (gu _ _ ⟨ft,bV,b9,bW,cd,jC,jD,jE,jG,jH,jJ,jK,jL,jM,jN,fT,fU,Z,jO,l8,fY,lu⟩)
 refine zi (s:=gBd) (M:=fun σ_ w_=>∃ (U_:PHeap) (bD:Option Addr) (bL:Nat),σ_ 0=.pointer (some ⟨ap,0,none⟩)/\σ_ 4=.pointer (some ⟨b3,0,none⟩)/\σ_ 5=.pointer (some ⟨b7,0,none⟩)/\σ_ 6=.pointer (some ⟨ak,0,none⟩)/\σ_ 7=.pointer (some ⟨aS,0,none⟩)/\σ_ 8=.slice ae aa.length ah/\σ_ 13=jV x39/\σ_ 14=jV (↑bb:Int)/\σ_ 28=.pointer (some ⟨aS,0,none⟩)/\σ_ 29=.slice bi bf.length bj/\σ_ 30=.pointer (some ⟨ap,0,none⟩)/\σ_ 31=jV aU/\σ_ 34=.pointer (some ⟨aS,1,none⟩)/\σ_ 35=.slice a0 au.length ba/\σ_ 36=.slice ae aa.length ah/\PHeap.Le aZ U_/\SW w [B2] U U_ [.blk ap 81 [.slice bD ab.bytes.length bL,jV ab.next,.int .u32 ab.state],B9,B8,inn 3 1 KL.encI aq au,B7,B3,.blk ak 61 B5,.blk b7 63 B1,.blk b3 61 B0,aY] w_/\Sl U_ 1 bD bL ab.bytes.length (hH KL.encB8 ab.bytes)) ?_ fun lZ=>?_
 rintro wg vk ⟨bY,bD,bL,jP,jQ,jR,jS,jU,po,jW,jX,jY,jZ,j0,fV,j4,j5,j6,l9,lz,lv⟩
 refine zm ?_ ?_
 refine zM (pv:=[(0,jV aU)]) (zs:=[jV 0]) (cs:=[jV aU]) Z Z Z Z Z (wAH fV wAR) zB zI zn Z Z Z Z Z lz ?_
 intro mr iF sk
 have sm:SW w [B2] U bY [.row (some ⟨iF,0,none⟩) 1 3 1 (hH KL.encI [aU]),.blk ap 81 [.slice bD ab.bytes.length bL,jV ab.next,.int .u32 ab.state],B9,B8,inn 3 1 KL.encI aq au,B7,B3,.blk ak 61 B5,.blk b7 63 B1,.blk b3 61 B0,aY] mr:=sk
 exact lW _ _ ⟨bY,bD,bL,(some ⟨iF,0,none⟩),1,jP,jQ,jR,jS,jU,po,jW,jX,jY,jZ,j0,fV,rfl,j4,j5,j6,l9,(sm.pick [1,2,3,4,5,6,7,8,9,10,0] _ (by decide) rfl),lv⟩
 let gU:List Value:=[.slice ae aa.length ah]
 refine zM (pv:=[(0,.slice ae aa.length ah)]) (zs:=[.slice none 0 0]) (cs:=gU) Z Z Z Z Z (wAH j6 wAR) zL zD zg Z Z Z Z Z lz ?_
 intro fy fG sn
 let fh:Res:=.blk ap 81 [.slice bD ab.bytes.length bL,jV ab.next,.int .u32 ab.state]
 let gW:Res:=.row (some ⟨fG,0,none⟩) 1 23 1 gU
 have so:SW w [B2] U bY [gW,fh,B9,B8,inn 3 1 KL.encI aq au,B7,B3,.blk ak 61 B5,.blk b7 63 B1,.blk b3 61 B0,aY] fy:=sn
 have sq:SW w [B2] U bY [aY,gW,fh,B9,B8,inn 3 1 KL.encI aq au,B7,B3,.blk ak 61 B5,.blk b7 63 B1,.blk b3 61 B0] fy:=so.pick [10,0,1,2,3,4,5,6,7,8,9] _ (by decide) rfl
 have su:=sq.innOne
 have sw:SW w [B2] U bY [inn 3 1 KL.encI [(⟨ae,aa.length,ah⟩:Hd)] [aa],.row (some ⟨fG,0,none⟩) 1 23 1 (hH wAO [(⟨ae,aa.length,ah⟩:Hd)]),fh,B9,B8,inn 3 1 KL.encI aq au,B7,B3,.blk ak 61 B5,.blk b7 63 B1,.blk b3 61 B0] fy:=su
 exact gu _ _ ⟨bY,bD,bL,(some ⟨fG,0,none⟩),1,jP,jQ,jR,jS,jU,jW,jX,jY,jZ,j0,fV,j4,j5,rfl,l9,(sw.pick [2,3,4,5,6,7,8,9,10,1,0] _ (by decide) rfl),lv⟩
 refine zr rfl rfl rfl rfl (fun _=>zN rfl bo zK rfl zD) (OKS.mt (T:=[ap]) [0] [1,2,3,4,5,6,7,8,9] [B9,B8,inn 3 1 KL.encI aq au,B7,B3,.blk ak 61 B5,.blk b7 63 B1,.blk b3 61 B0,aY] rfl rfl rfl rfl bR rfl ⟨⟨0,by decide,_,rfl,rfl⟩,trivial⟩ (by decide) rfl (by decide) (fun _ uh=>(uh.ldB (j:=3) rfl rfl rfl zd (v:=.slice bi bf.length bj) rfl)) rfl (zf rfl rfl rfl rfl rfl bp (zr rfl rfl rfl rfl (fun _=>zN rfl bo zK rfl ZK) (zf rfl rfl rfl rfl rfl dA (zm ?_ ?_)))))
 refine ZV 1 rfl rfl rfl rfl (zC rfl rfl ZB (zA rfl (zA rfl zH)) rfl) bR (fun hs=>wAG (⟨dJ,dK,dL⟩:wAA) ap cw df 2 iA aZ hs eL eM) rfl (T:=[ap]) rfl ⟨fun b h=>(by cases h;exact .head _),trivial⟩ ?_
 rintro be uX vN ms cg sA ⟨bE,bM,rfl,rfl,cf⟩
 let bn:Res:=.blk ap 81 [.slice bE ab.bytes.length bM,jV ab.next,.int .u32 ab.state]
 have eQ:SW w [B2] U be [bn,B9,B8,inn 3 1 KL.encI aq au,B7,B3,.blk ak 61 B5,.blk b7 63 B1,.blk b3 61 B0,aY] ms:=sA
 refine zm ?_ ?_
 refine zM (pv:=[(0,jV aU)]) (zs:=[jV 0]) (cs:=[jV aU]) Z Z Z Z Z (wAH Z wAR) zB zI zn Z Z Z Z Z eQ ?_
 intro mu cU sC
 let bA:Res:=.row (some ⟨cU,0,none⟩) 1 3 1 (hH KL.encI [aU])
 have dB:SW w [B2] U be [bA,bn,B9,B8,inn 3 1 KL.encI aq au,B7,B3,.blk ak 61 B5,.blk b7 63 B1,.blk b3 61 B0,aY] mu:=sC
 refine zm ?_ ?_
 refine zu (j:=2) (enc:=KL.encI) (xs:=bf) (ys:=[aU]) (zs:=aX) rfl rfl rfl rfl rfl zk wDX rfl rfl rfl rfl rfl rfl dB rfl rfl rfl (dB.srcR (j:=0) rfl (by decide) (wAJ (f:=KL.encI) (sz:=1) (fun _=>rfl) [aU])) (fun _=>rfl) (fun _=>rfl) eO rfl ?_
 intro eV fM mw sD
 let ec:Res:=.row eV fM 3 1 (hH KL.encI aX)
 have fZ:SW w [B2] U be [bA,bn,ec,B8,inn 3 1 KL.encI aq au,B7,B3,.blk ak 61 B5,.blk b7 63 B1,.blk b3 61 B0,aY] mw:=sD
 refine zm ?_ ?_
 exact ZJ rfl rfl rfl rfl (fZ.ldB (j:=5) rfl rfl rfl zl (v:=.slice a0 au.length ba) rfl) (lU _ _ ⟨be,bE,bM,(some ⟨cU,0,none⟩),1,eV,fM,bp,bq,br,bu,bo,dA,bv,bw,rfl,rfl,rfl,rfl,rfl,rfl,rfl,rfl,cg,(fZ.pick [1,3,4,5,6,7,8,9,10,0,2] _ (by decide) rfl),cf⟩)
 let gX:List Value:=[.slice ae aa.length ah]
 refine zM (pv:=[(0,.slice ae aa.length ah)]) (zs:=[.slice none 0 0]) (cs:=gX) Z Z Z Z Z (wAH Z wAR) zL zD zg Z Z Z Z Z fZ ?_
 intro fz fH sE
 let gZ:Res:=.row (some ⟨fH,0,none⟩) 1 23 1 gX
 have sF:SW w [B2] U be [gZ,bA,bn,ec,B8,inn 3 1 KL.encI aq au,B7,B3,.blk ak 61 B5,.blk b7 63 B1,.blk b3 61 B0,aY] fz:=sE
 have sG:SW w [B2] U be [aY,gZ,bA,bn,ec,B8,inn 3 1 KL.encI aq au,B7,B3,.blk ak 61 B5,.blk b7 63 B1,.blk b3 61 B0] fz:=sF.pick [11,0,1,2,3,4,5,6,7,8,9,10] _ (by decide) rfl
 have sH:=sG.innOne
 have sI:SW w [B2] U be [inn 3 1 KL.encI [(⟨ae,aa.length,ah⟩:Hd)] [aa],.row (some ⟨fH,0,none⟩) 1 23 1 (hH wAO [(⟨ae,aa.length,ah⟩:Hd)]),bA,bn,ec,B8,inn 3 1 KL.encI aq au,B7,B3,.blk ak 61 B5,.blk b7 63 B1,.blk b3 61 B0] fz:=sH
 exact lT _ _ ⟨be,bE,bM,(some ⟨cU,0,none⟩),1,eV,fM,(some ⟨fH,0,none⟩),1,bp,bq,br,bu,bo,bv,bw,rfl,rfl,rfl,rfl,rfl,rfl,rfl,cg,(sI.pick [3,5,6,7,8,9,10,11,2,4,1,0] _ (by decide) rfl),cf⟩
 refine zm ?_ ?_
 exact ZJ rfl rfl rfl rfl (dB.ldB (j:=5) rfl rfl rfl zl (v:=.slice a0 au.length ba) rfl) (lW _ _ ⟨be,bE,bM,(some ⟨cU,0,none⟩),1,bp,bq,br,bu,bo,dA,bv,bw,rfl,rfl,rfl,rfl,rfl,rfl,rfl,rfl,cg,(dB.pick [1,2,3,4,5,6,7,8,9,10,0] _ (by decide) rfl),cf⟩)
 let g9:List Value:=[.slice ae aa.length ah]
 refine zM (pv:=[(0,.slice ae aa.length ah)]) (zs:=[.slice none 0 0]) (cs:=g9) Z Z Z Z Z (wAH Z wAR) zL zD zg Z Z Z Z Z dB ?_
 intro fA fJ sJ
 let ib:Res:=.row (some ⟨fJ,0,none⟩) 1 23 1 g9
 have sK:SW w [B2] U be [ib,bA,bn,B9,B8,inn 3 1 KL.encI aq au,B7,B3,.blk ak 61 B5,.blk b7 63 B1,.blk b3 61 B0,aY] fA:=sJ
 have sL:SW w [B2] U be [aY,ib,bA,bn,B9,B8,inn 3 1 KL.encI aq au,B7,B3,.blk ak 61 B5,.blk b7 63 B1,.blk b3 61 B0] fA:=sK.pick [11,0,1,2,3,4,5,6,7,8,9,10] _ (by decide) rfl
 have sM:=sL.innOne
 have sN:SW w [B2] U be [inn 3 1 KL.encI [(⟨ae,aa.length,ah⟩:Hd)] [aa],.row (some ⟨fJ,0,none⟩) 1 23 1 (hH wAO [(⟨ae,aa.length,ah⟩:Hd)]),bA,bn,B9,B8,inn 3 1 KL.encI aq au,B7,B3,.blk ak 61 B5,.blk b7 63 B1,.blk b3 61 B0] fA:=sM
 exact lV _ _ ⟨be,bE,bM,(some ⟨cU,0,none⟩),1,(some ⟨fJ,0,none⟩),1,bp,bq,br,bu,bo,bv,bw,rfl,rfl,rfl,rfl,rfl,rfl,rfl,cg,(sN.pick [3,4,5,6,7,8,9,10,11,2,1,0] _ (by decide) rfl),cf⟩
 refine zm ?_ ?_
 exact ZJ Z Z Z Z (eQ.ldB (j:=4) Z Z Z zl (v:=.slice a0 au.length ba) Z) (lZ _ _ ⟨be,bE,bM,bp,bq,br,bu,bo,dA,bv,bw,Z,Z,Z,Z,Z,Z,Z,cg,eQ,cf⟩)
 let ic:List Value:=[.slice ae aa.length ah]
 refine zM (pv:=[(0,.slice ae aa.length ah)]) (zs:=[.slice none 0 0]) (cs:=ic) Z Z Z Z Z (wAH Z wAR) zL zD zg Z Z Z Z Z eQ ?_
 intro fB fK sO
 let ie:Res:=.row (some ⟨fK,0,none⟩) 1 23 1 ic
 have sP:SW w [B2] U be [ie,bn,B9,B8,inn 3 1 KL.encI aq au,B7,B3,.blk ak 61 B5,.blk b7 63 B1,.blk b3 61 B0,aY] fB:=sO
 have sQ:SW w [B2] U be [aY,ie,bn,B9,B8,inn 3 1 KL.encI aq au,B7,B3,.blk ak 61 B5,.blk b7 63 B1,.blk b3 61 B0] fB:=sP.pick [10,0,1,2,3,4,5,6,7,8,9] _ (by decide) rfl
 have sS:=sQ.innOne
 have sT:SW w [B2] U be [inn 3 1 KL.encI [(⟨ae,aa.length,ah⟩:Hd)] [aa],.row (some ⟨fK,0,none⟩) 1 23 1 (hH wAO [(⟨ae,aa.length,ah⟩:Hd)]),bn,B9,B8,inn 3 1 KL.encI aq au,B7,B3,.blk ak 61 B5,.blk b7 63 B1,.blk b3 61 B0] fB:=sS
 exact lY _ _ ⟨be,bE,bM,(some ⟨fK,0,none⟩),1,bp,bq,br,bu,bo,bv,bw,rfl,rfl,rfl,rfl,rfl,rfl,cg,(sT.pick [2,3,4,5,6,7,8,9,10,1,0] _ (by decide) rfl),cf⟩
 refine zm ?_ ?_
 refine ZJ Z Z Z Z (bR.ldB (j:=4) Z Z Z zl (v:=.slice a0 au.length ba) Z) (zm ?_ ?_)
 refine ZV 1 rfl rfl rfl rfl (zC rfl rfl ZB (zA rfl (zA rfl zH)) rfl) bR (fun hs=>wAG (⟨dJ,dK,dL⟩:wAA) ap cw df 2 iA aZ hs eL eM) rfl (T:=[ap]) rfl ⟨fun b h=>(by cases h;exact .head _),trivial⟩ ?_
 rintro ir uY vO my uI sU ⟨gE,iO,rfl,rfl,rj⟩
 have sV:SW w [B2] U ir [.blk ap 81 [.slice gE ab.bytes.length iO,jV ab.next,.int .u32 ab.state],B9,B8,inn 3 1 KL.encI aq au,B7,B3,.blk ak 61 B5,.blk b7 63 B1,.blk b3 61 B0,aY] my:=sU
 exact lZ _ _ ⟨ir,gE,iO,bp,bq,br,bu,bo,dA,bv,bw,Z,Z,Z,Z,Z,Z,Z,uI,sV,rj⟩
 let ig:List Value:=[.slice ae aa.length ah]
 refine zM (pv:=[(0,.slice ae aa.length ah)]) (zs:=[.slice none 0 0]) (cs:=ig) Z Z Z Z Z (wAH Z wAR) zL zD zg Z Z Z Z Z bR ?_
 intro fC fL sX
 let ii:Res:=.row (some ⟨fL,0,none⟩) 1 23 1 ig
 have sY:SW w [B2] U aZ [ii,bz,B9,B8,inn 3 1 KL.encI aq au,B7,B3,.blk ak 61 B5,.blk b7 63 B1,.blk b3 61 B0,aY] fC:=sX
 have sZ:SW w [B2] U aZ [aY,ii,bz,B9,B8,inn 3 1 KL.encI aq au,B7,B3,.blk ak 61 B5,.blk b7 63 B1,.blk b3 61 B0] fC:=sY.pick [10,0,1,2,3,4,5,6,7,8,9] _ (by decide) rfl
 have s5:=sZ.innOne
 have s6:SW w [B2] U aZ [inn 3 1 KL.encI [(⟨ae,aa.length,ah⟩:Hd)] [aa],.row (some ⟨fL,0,none⟩) 1 23 1 (hH wAO [(⟨ae,aa.length,ah⟩:Hd)]),bz,B9,B8,inn 3 1 KL.encI aq au,B7,B3,.blk ak 61 B5,.blk b7 63 B1,.blk b3 61 B0] fC:=s5
 exact lX _ _ ⟨aZ,(some ⟨fL,0,none⟩),1,bp,bq,br,bu,bo,bv,bw,rfl,rfl,rfl,rfl,rfl,rfl,(zX _),(s6.pick [2,3,4,5,6,7,8,9,10,1,0] _ (by decide) rfl)⟩
 let ij:List Value:=[.slice ae aa.length ah]
 refine zM (pv:=[(0,.slice ae aa.length ah)]) (zs:=[.slice none 0 0]) (cs:=ij) Z Z Z Z Z (wAH Z wAR) zL zD zg Z Z Z Z Z bR ?_
 intro cS eu s7
 let ik:Res:=.row (some ⟨eu,0,none⟩) 1 23 1 ij
 have s8:SW w [B2] U aZ [ik,bz,B9,B8,inn 3 1 KL.encI aq au,B7,B3,.blk ak 61 B5,.blk b7 63 B1,.blk b3 61 B0,aY] cS:=s7
 have s9:SW w [B2] U aZ [aY,ik,bz,B9,B8,inn 3 1 KL.encI aq au,B7,B3,.blk ak 61 B5,.blk b7 63 B1,.blk b3 61 B0] cS:=s8.pick [10,0,1,2,3,4,5,6,7,8,9] _ (by decide) rfl
 have te:=s9.innOne
 let fm:Res:=.row (some ⟨eu,0,none⟩) 1 23 1 (hH wAO [(⟨ae,aa.length,ah⟩:Hd)])
 have gb:SW w [B2] U aZ [inn 3 1 KL.encI [(⟨ae,aa.length,ah⟩:Hd)] [aa],fm,bz,B9,B8,inn 3 1 KL.encI aq au,B7,B3,.blk ak 61 B5,.blk b7 63 B1,.blk b3 61 B0] cS:=te
 refine zm ?_ ?_
 have tf:SW w [B2] U aZ [bz,inn 3 1 KL.encI [(⟨ae,aa.length,ah⟩:Hd)] [aa],fm,B9,B8,inn 3 1 KL.encI aq au,B7,B3,.blk ak 61 B5,.blk b7 63 B1,.blk b3 61 B0] cS:=gb.pick [2,0,1,3,4,5,6,7,8,9,10] _ (by decide) rfl
 refine ZV 1 rfl rfl rfl rfl (zC rfl rfl ZB (zA rfl (zA rfl zH)) rfl) tf (fun hs=>wAG (⟨dJ,dK,dL⟩:wAA) ap cw df 2 cS aZ hs eL eM) rfl (T:=[ap]) rfl ⟨fun b h=>(by cases h;exact .head _),trivial⟩ ?_
 rintro it uZ vP mz uJ tg ⟨gF,iP,rfl,rfl,rk⟩
 have th:SW w [B2] U it [.blk ap 81 [.slice gF ab.bytes.length iP,jV ab.next,.int .u32 ab.state],inn 3 1 KL.encI [(⟨ae,aa.length,ah⟩:Hd)] [aa],fm,B9,B8,inn 3 1 KL.encI aq au,B7,B3,.blk ak 61 B5,.blk b7 63 B1,.blk b3 61 B0] mz:=tg
 exact lY _ _ ⟨it,gF,iP,(some ⟨eu,0,none⟩),1,bp,bq,br,bu,bo,bv,bw,rfl,rfl,rfl,rfl,rfl,rfl,uJ,(th.pick [0,3,4,5,6,7,8,9,10,2,1] _ (by decide) rfl),rk⟩
 exact ZJ rfl rfl rfl rfl (gb.ldB (j:=6) rfl rfl rfl zl (v:=.slice a0 au.length ba) rfl) (lX _ _ ⟨aZ,(some ⟨eu,0,none⟩),1,bp,bq,br,bu,bo,bv,bw,rfl,rfl,rfl,rfl,rfl,rfl,(zX _),(gb.pick [2,3,4,5,6,7,8,9,10,1,0] _ (by decide) rfl)⟩)
 rintro wh iw ⟨bI,gG,iQ,eW,fN,eX,fO,bQ,qT,vx,eJ,eK,py,j9,pz,vJ,tj,rn⟩
 have mN:Hid (¬ ((↑((x39:Int) - 0).toNat:Int) < x39)):=zO (wCG)
 refine sR fL1 Z (oR Z (zx Z qT pz) (eN (zP (cF Z mN (CK.exit (ZH (ZH (Zb (zU ?_)))))))))
 have q:=bnd lG
 obtain ⟨⟨⟩,lP,lI⟩:=q
 try dsimp only at lI
 let bh:List Value:=[.slice eW mc.length fN,.slice eX ci.length fO]
 let cN:Res:=.blk ap 81 [.slice gG uT.length iQ,jV uU,.int .u32 uV]
 let cO:Res:=.row eW fN 3 1 (hH KL.encI mc)
 let cP:Res:=.row eX fO 23 1 (hH wAO bQ)
 refine CK.cut (fun σ_ w_=>∃ (U_:PHeap),σ_ 4=.pointer (some ⟨b3,0,none⟩)/\σ_ 5=.pointer (some ⟨b7,0,none⟩)/\PHeap.Le bI U_/\SW w [B2] U U_ [cN,cO,cP,inn 3 1 KL.encI bQ ci,.blk aS 63 bh,B3,.blk ak 61 B5,.blk b7 63 bh,.blk b3 61 B5] w_) ?_ ?_
 refine ZT ZQ [1,2,0,0] (.fl 0 (.fx 1 gAf (.fx 2 (.fx 1 (.fx 3 .nil .stop) .stop) .stop))) (by kernel_rfl) ?_
 have dC:=tj.drew
 generalize hw_W1607:({ iw with drawn:=iw.drawn + 1 }:World)=vm at dC ⊢
 refine oL Z (dC.ldBA (j:=6) Z Z py zp zS (vs:=B5) Z Z) (zm ?_ ?_)
 refine ZJ Z Z Z Z (dC.ldBA (j:=4) Z Z j9 ZA zZ (vs:=bh) Z Z) (ZC (j:=8) (vs:=B5) Z Z Z Z dC Z eJ Z Z zS (zE Z) Z Z Z ?_)
 intro mA tl
 have tm:SW w [B2] U bI [cN,cO,cP,inn 3 1 KL.encI bQ ci,.blk aS 63 bh,B3,.blk ak 61 B5,.blk b7 63 B1,.blk b3 61 B5] mA:=tl
 refine ZC (j:=7) (vs:=bh) Z Z Z Z tm Z eK Z Z zZ (zE Z) Z Z Z ?_
 intro mB tn
 have tp:SW w [B2] U bI [cN,cO,cP,inn 3 1 KL.encI bQ ci,.blk aS 63 bh,B3,.blk ak 61 B5,.blk b7 63 bh,.blk b3 61 B5] mB:=tn
 refine ZF ?_
 cases lP
 exact zU ⟨Z,⟨bI,eJ,eK,(zX _),tp⟩⟩
 refine ZC (j:=8) (vs:=B5) Z Z Z Z dC Z eJ Z Z zS (zE Z) Z Z Z ?_
 intro mC tq
 have lB:SW w [B2] U bI [cN,cO,cP,inn 3 1 KL.encI bQ ci,.blk aS 63 bh,B3,.blk ak 61 B5,.blk b7 63 B1,.blk b3 61 B5] mC:=tq
 refine ZJ Z Z Z Z (lB.ldBA (j:=4) Z Z j9 ZA zZ (vs:=bh) Z Z) (ZC (j:=7) (vs:=bh) Z Z Z Z lB Z eK Z Z zZ (zE Z) Z Z Z ?_)
 intro mD tr
 have tu:SW w [B2] U bI [cN,cO,cP,inn 3 1 KL.encI bQ ci,.blk aS 63 bh,B3,.blk ak 61 B5,.blk b7 63 bh,.blk b3 61 B5] mD:=tr
 refine ZF ?_
 cases lP
 exact zU ⟨Z,⟨bI,eJ,eK,(zX _),tu⟩⟩
 rintro wi vn ⟨mf,pB,pC,uK,gc⟩
 refine zJ ?_
 have ro:=rn.le uK
 cases lI
 exact ⟨rfl,_,(wOo (rs:=[.cell 4 61,.cell 5 63]) (vs:=[.agg B5.toArray,.agg bh.toArray]) ⟨⟨_,pB,(wHD zp zS (gc.blkAt (k:=8) rfl) (vs:=B5) rfl rfl)⟩,⟨⟨_,pC,(wHD ZA zZ (gc.blkAt (k:=7) rfl) (vs:=bh) rfl rfl)⟩,trivial⟩⟩ rfl),mf,_,(gc.pick [5,1,2,3,0] _ (by decide) rfl),cu,de,eW,fN,eX,fO,bQ,gG,iQ,rfl,rfl,ro⟩
end Go.Proofs.YtkedcbligiebkaaGreat
namespace Go.Proofs.YtkedcbligiebkaaGreat
open Go.KL
set_option maxHeartbeats 4000000
theorem wCL (p0:Int) (p1:Int) (p2:Int) (w:World) (U:PHeap) (hS:St0 w U [])  {r:Bool} (hm:wBc p0 p1 p2=some r):Gv Tryz.prog 54 [jV p0,jV p1,jV p2] w (wCE w [] U (fun U_ L_ v=>v=.bool r/\L_=[])):=by
 unfold wBc at hm
 refine Gv.of Tryz.func54 Z Tryz.ntmps54 Tryz.results54 Z (sR fL1 Z (oA Z Z (eN (sR fL9 Z (oM Z Z (oM Z Z (oR Z (Runs.geq Z Z Z) (oM Z Z ?_))))))))
 by_cases c1:p1 <= p0
 have ab:=hm;rw [if_pos c1] at ab;replace c1:=zO c1
 refine zf Z Z Z (wT Z c1) Z Z (zf Z Z Z (wT Z c1) Z Z (rU Z (wT Z c1) (Runs.leq Z Z Z) (oR Z (zW Z (wDu c1.out) Z) (oA Z Z (eN (zJ ?_))))))
 first | (obtain rfl:=nA ab) | cases ab
 exact ⟨Z,_,(zh Z),U,_,hS,Z,Z⟩
 have ai:=hm;rw [if_neg c1] at ai;replace c1:=zO c1
 refine oF Z c1 (oF Z c1 (oF Z c1 (oR Z (zG Z (zz c1.out) Z) (oA Z Z (eN (zJ ?_))))))
 have hE:=nA ai;first | subst r | cases hE
 exact ⟨Z,_,(zh Z),U,_,hS,Z,Z⟩
theorem wEG (p0:Int) (p1:(Int->Option Bool)) (ai:Nat) (ab:Value) (w:World) (U:PHeap) (hS:St0 w U []) (aq:Cl U ai 0 [ab]) (ar:FnOK Tryz.prog U ab wIP wIQ p1) {r:Bool} (hm:wBE p0 p1=some r):Gv Tryz.prog 120 [jV p0,.pointer (some ⟨ai,0,none⟩)] w (wCE w [] U (fun U_ L_ v=>v=.bool r/\L_=[])):=by
 unfold wBE at hm
 refine Gv.of Tryz.func120 Z Tryz.ntmps120 Tryz.results120 Z (sR fL1 Z (oA Z Z (eN (sR gAu Z (oL Z (hS.ldC (f:=0) aq (v:=ab) Z Z Tryz.isAgg142 Z) (oM Z Z (bnK hm fun x1 h2 au=>OKS.callV (a:=p0) Z Z Z Z Z Z (zA Z zH) hS ar Z h2 ?_)))))))
 rintro U4 L5 v6 W7 az ap ⟨rfl,rfl⟩
 have am:sW w U U4 [] W7:=ap
 refine oR Z (ZE Z Z) (oA Z Z (eN (zJ ?_)))
 cases au
 exact ⟨Z,_,(zh Z),U4,_,am,Z,Z⟩
theorem wCS (p0:List Int) (aq:Option Addr) (ar:Nat) (p1:(Int->Option Bool)) (au:Value) (w:World) (U:PHeap) (hS:St0 w U []) (bp:Sl U 1 aq ar p0.length (hH KL.encI p0)) (bq:FnOK Tryz.prog U au wIP wIQ p1) {r:Int} (hm:wAx p0 p1=some r):Gv Tryz.prog 166 [.slice aq p0.length ar,au] w (wCE w [] U (fun U_ L_ v=>v=jV r/\L_=[])):=by
 unfold wAx at hm
 refine Gv.of Tryz.func166 Z Tryz.ntmps166 Tryz.results166 Z (sR fL1 Z (oA Z Z (eN (zP (sR fL3 Z (oM Z Z (oR Z (zw Z Z zB) (oM Z Z (eN (zt ?_))))))))))
 have q:=wFG hm
 obtain ⟨r3,aj⟩:=q
 have q:=wFF aj
 obtain ⟨am,bv⟩:=q
 replace am:=zO am
 refine CK.forN (fun k2 _ σ_ w_=>∃ (U_:PHeap),σ_ 8=jV (↑k2:Int)/\σ_ 0=.slice aq p0.length ar/\σ_ 1=au/\σ_ 7=jV (↑p0.length:Int)/\PHeap.Le U U_/\sW w U U_ [] w_) bv ?_ ?_ ?_
 exact ⟨U,Z,Z,Z,Z,(zX _),hS⟩
 rintro k2 ⟨⟩ bS bU W8 ak ⟨bH,ai,az,aR,aS,ap,aU⟩ aX br
 try dsimp only at aX
 have av:Hid ((↑k2:Int) < (↑p0.length:Int)):=zO (wCt ak)
 replace ak:=zO ak
 have bw:Hid (w64 ((↑k2:Int) + 1)=(↑(k2 + 1):Int)):=zO (by have h1:=am.out;have h2:=av.out;rw [wBR] <;> omega)
 refine sR fL1 Z (oR Z (zx Z ai aS) (eN (zP (cT Z av (kN (zP (zt (sR fL2 Z (oM Z ai (oA Z Z (eN (sR (wIb (.fx 5 .nil .stop)) Z (oM Z aR (oM Z az (oM Z Z (bnK aX fun aZ aT bz=>?_))))))))))))))))
 have bh:=bp.le ap
 have q:=bh.el (fun _=>rfl) (wBs aT)
 obtain ⟨bK,bO,bk,bm⟩:=q
 refine oR Z (Runs.iaN Z Z bk Z zB zI (wDy aT)) (oL Z (aU.ldC (f:=0) bm (v:=jV aZ) Z Z zj Z) (bnK bz fun bR bi bA=>?_))
 have bj:=bq.le ap
 refine OKS.callV (a:=aZ) Z Z Z Z Z Z (zA Z zH) aU bj Z bi ?_
 rintro ae bG bQ ba bE bn ⟨rfl,rfl⟩
 have aV:sW w U ae [] ba:=bn
 refine eN (ifc bA ?_ ?_)
 intro ah bB
 refine ZL (congrArg nB ah.out) (sR fL2 Z (oM Z Z (oA Z Z (eN (zJ (ZD (ze ?_)))))))
 have q:=wDS bB
 obtain ⟨bF,bC,be⟩:=q
 have q:=wGG hm aj (br bF be)
 obtain rfl:=q
 refine ze (ZD (ze ?_))
 cases bC
 exact ⟨Z,_,(zh Z),ae,_,aV,Z,Z⟩
 intro ah bD
 refine ZM (congrArg nB (nD.2 ah.out)) (CK.skip (ZP (zU (rR fL2 Z (oR Z (Za (zq Z ai Z) (congrArg (jV) bw.out)) (oM Z Z (ZF ?_)))))))
 have q:=nA bD
 obtain rfl:=q
 exact zU ⟨Z,_,Z,⟨ae,Z,az,aR,aS,(ap.trans bE),aV⟩⟩
 rintro ⟨⟩ bT bI ⟨a0,bg,bL,bM,bf,bN,bo⟩ bu
 have aW:=wGy hm aj bu
 try dsimp only at aW
 have bb:Hid (¬ ((↑(((↑p0.length:Int):Int) - 0).toNat:Int) < (↑p0.length:Int))):=zO (wCG)
 refine sR fL1 Z (oR Z (zx Z bg bf) (eN (zP (cF Z bb (CK.exit (ZH (ZH (Zb (zU (sR fL1 Z (oA Z Z (eN (zJ ?_)))))))))))))
 cases aW
 exact ⟨Z,_,(zh Z),a0,_,bo,Z,Z⟩
theorem wCH (p0:List Int) (ae:Option Addr) (ah:Nat) (p1:(Int->Option Bool)) (ai:Value) (w:World) (U:PHeap) (hS:St0 w U []) (au:Sl U 1 ae ah p0.length (hH KL.encI p0)) (av:FnOK Tryz.prog U ai wIP wIQ p1) {r:Bool} (hm:wAl p0 p1=some r):Gv Tryz.prog 119 [.slice ae p0.length ah,ai] w (wCE w [] U (fun U_ L_ v=>v=.bool r/\L_=[])):=by
 unfold wAl at hm
 refine Gv.of Tryz.func119 Z Tryz.ntmps119 Tryz.results119 Z (sR fL1 Z (oA Z Z (eN (sR gAu Z (oM Z Z (oM Z Z (bnK hm fun x1 h2 ak=>zF 0 Z Z Z Z (zC Z Z Tryz.call166 (zA Z (zA Z zH)) Z) hS (fun hs=>wCS p0 ae ah p1 ai w U hs au av h2) (.inr Z) ?_)))))))
 rintro U4 L5 v6 W7 aR ar ⟨rfl,rfl⟩
 have aq:sW w U U4 [] W7:=ar
 refine oR Z (Runs.geq Z Z Z) (oA Z Z (eN (zJ ?_)))
 first | (obtain rfl:=nA ak) | cases ak
 exact ⟨Z,_,(zh Z),U4,_,aq,Z,Z⟩
theorem wCw (p0:List Int) (ak:Option Addr) (am:Nat) (p1:(Int->Option Bool)) (ai:Value) (w:World) (U:PHeap) (hS:St0 w U []) (a0:Sl U 1 ak am p0.length (hH KL.encI p0)) (ar:FnOK Tryz.prog U ai wIP wIQ p1) {r:Bool} (hm:wBQ p0 p1=some r):Gv Tryz.prog 75 [.slice ak p0.length am,ai] w (wCE w [] U (fun U_ L_ v=>v=.bool r/\L_=[])):=by
 unfold wBQ at hm
 refine Gv.of Tryz.func75 Z Tryz.ntmps75 Tryz.results75 Z (sR gAi Z (ZG (cs:=[ai]) Z Z Z Z Z Z (FnOK.cells ar) hS ?_))
 intro W1 b2 aX
 have q:=aX.freeze (k:=0) rfl
 obtain ⟨U5,au,ab,aY⟩:=q
 replace ab:=Cl.of ab
 have aZ:sW w U U5 [] W1:=aY
 replace ab:Cl U5 b2 0 [ai]:=ab
 refine oA Z Z (eN (sR gAu Z (oM Z Z (oR Z (Runs.mkf Z zH (zA Z zH)) ?_))))
 have aR:=a0.le au
 have aS:=ar.le au
 have aU:FnOK Tryz.prog U5 (.func (.func 120) #[] #[.pointer (some ⟨b2,0,none⟩)]) wIP wIQ (fun x=>wBE x p1):=⟨120,[],[.pointer (some ⟨b2,0,none⟩)],rfl,Tryz.call120,fun U1 w1 x y vs le hs ha hm=>by obtain rfl:=ha;exact wEG x p1 b2 ai w1 U1 hs (ab.le le) (aS.le le) hm⟩
 refine bnK hm fun bh aT ba=>zF 0 Z Z Z Z (zC Z Z Tryz.call119 (zA Z (zA Z zH)) Z) aZ (fun hs=>wCH p0 ak am (fun x=>wBE x p1) (.func (.func 120) #[] #[.pointer (some ⟨b2,0,none⟩)]) W1 U5 hs aR aU aT) (.inr Z) ?_
 rintro ap be bg az bf aV ⟨rfl,rfl⟩
 have aW:sW w U ap [] az:=aV
 refine oR Z (ZE Z Z) (oA Z Z (eN (zJ ?_)))
 cases ba
 exact ⟨Z,_,(zh Z),ap,_,aW,Z,Z⟩
theorem wEX (p0:Int) (w:World) (U:PHeap) (hS:St0 w U [])  {r:Bool} (hm:wAd p0=some r):Gv Tryz.prog 118 [jV p0] w (wCE w [] U (fun U_ L_ v=>v=.bool r/\L_=[])):=by
 unfold wAd at hm
 refine Gv.of Tryz.func118 Z Tryz.ntmps118 Tryz.results118 Z (sR fL1 Z (oA Z Z (eN (sR gAp Z (oM Z Z (bnK hm fun x1 h2 ak=>zF 0 Z Z Z Z (zC Z Z Tryz.call54 (zA Z (zA Z (zA Z zH))) Z) hS (fun hs=>wCL p0 0 3 w U hs h2) (.inr Z) ?_))))))
 rintro U4 L5 v6 W7 ap aj ⟨rfl,rfl⟩
 have ai:sW w U U4 [] W7:=aj
 refine oA Z Z (eN (zJ ?_))
 have hE:=nA ak;first | subst r | cases hE
 exact ⟨Z,_,(zh Z),U4,_,ai,Z,Z⟩
theorem wDP (p0:List Int) (ab:Option Addr) (ae:Nat) (w:World) (U:PHeap) (hS:St0 w U []) (ar:Sl U 1 ab ae p0.length (hH KL.encI p0)) {r:Bool} (hm:wBD p0=some r):Gv Tryz.prog 73 [.slice ab p0.length ae] w (wCE w [] U (fun U_ L_ v=>v=.bool r/\L_=[])):=by
 unfold wBD at hm
 refine Gv.of Tryz.func73 Z Tryz.ntmps73 Tryz.results73 Z (sR fL1 Z (oA Z Z (eN (sR gAp Z (oM Z Z ?_)))))
 have am:FnOK Tryz.prog U (.func (.func 118) #[] #[]) wIP wIQ wAd:=⟨118,[],[],rfl,Tryz.call118,fun U1 w1 x y vs le hs ha hm=>by obtain rfl:=ha;exact wEX x w1 U1 hs  hm⟩
 refine bnK hm fun x2 h3 au=>zF 0 Z Z Z Z (zC Z Z Tryz.call75 (zA Z (zA Z zH)) Z) hS (fun hs=>wCw p0 ab ae wAd (.func (.func 118) #[] #[]) w U hs ar am h3) (.inr Z) ?_
 rintro U5 L6 v7 W8 aR ap ⟨rfl,rfl⟩
 have aq:sW w U U5 [] W8:=ap
 refine oA Z Z (eN (zJ ?_))
 have hE:=nA au;first | subst r | cases hE
 exact ⟨Z,_,(zh Z),U5,_,aq,Z,Z⟩
theorem wEn (p0:wAB) (ab:Option Addr) (ae:Nat) (w:World) (U:PHeap) (hS:St0 w U []) (ak:Sl U 1 ab ae p0.Classes.length (hH KL.encI p0.Classes)) {r:Int} (hm:wAs p0=some r):Gv Tryz.prog 160 [.agg #[.slice ab p0.Classes.length ae,jV p0.Each,jV p0.Laps,jV p0.Spare,jV p0.Loop,jV p0.Unused]] w (wCE w [] U (fun U_ L_ v=>v=jV r/\L_=[])):=by
 unfold wAs at hm
 refine Gv.of Tryz.func160 rfl Tryz.ntmps160 Tryz.results160 rfl (sR gAi rfl (ZG (cs:=[.slice ab p0.Classes.length ae,jV p0.Each,jV p0.Laps,jV p0.Spare,jV p0.Loop,jV p0.Unused]) rfl rfl rfl rfl rfl rfl (by rfl) hS ?_))
 intro W1 b2 ah
 refine oA Z Z (eN (sR fL3 Z (oR Z (zN Z Z zQ Z zI) (oL Z (ah.ldB (j:=0) Z Z Z zj (v:=jV p0.Each) Z) (oA Z Z (eN (zJ ?_)))))))
 cases hm
 exact ⟨rfl,_,(zh rfl),U,_,(ah.pick [] _ (by decide) rfl),rfl,rfl⟩
theorem wEo (p0:wAB) (ab:Option Addr) (ae:Nat) (w:World) (U:PHeap) (hS:St0 w U []) (ak:Sl U 1 ab ae p0.Classes.length (hH KL.encI p0.Classes)) {r:Int} (hm:wAt p0=some r):Gv Tryz.prog 161 [.agg #[.slice ab p0.Classes.length ae,jV p0.Each,jV p0.Laps,jV p0.Spare,jV p0.Loop,jV p0.Unused]] w (wCE w [] U (fun U_ L_ v=>v=jV r/\L_=[])):=by
 unfold wAt at hm
 refine Gv.of Tryz.func161 rfl Tryz.ntmps161 Tryz.results161 rfl (sR gAi rfl (ZG (cs:=[.slice ab p0.Classes.length ae,jV p0.Each,jV p0.Laps,jV p0.Spare,jV p0.Loop,jV p0.Unused]) rfl rfl rfl rfl rfl rfl (by rfl) hS ?_))
 intro W1 b2 ah
 refine oA Z Z (eN (sR fL3 Z (oR Z (zN Z Z zQ Z zI) (oL Z (ah.ldB (j:=0) Z Z Z zj (v:=jV p0.Laps) Z) (oA Z Z (eN (zJ ?_)))))))
 cases hm
 exact ⟨rfl,_,(zh rfl),U,_,(ah.pick [] _ (by decide) rfl),rfl,rfl⟩
theorem wEp (p0:wAB) (ab:Option Addr) (ae:Nat) (w:World) (U:PHeap) (hS:St0 w U []) (ak:Sl U 1 ab ae p0.Classes.length (hH KL.encI p0.Classes)) {r:Int} (hm:wAu p0=some r):Gv Tryz.prog 162 [.agg #[.slice ab p0.Classes.length ae,jV p0.Each,jV p0.Laps,jV p0.Spare,jV p0.Loop,jV p0.Unused]] w (wCE w [] U (fun U_ L_ v=>v=jV r/\L_=[])):=by
 unfold wAu at hm
 refine Gv.of Tryz.func162 rfl Tryz.ntmps162 Tryz.results162 rfl (sR gAi rfl (ZG (cs:=[.slice ab p0.Classes.length ae,jV p0.Each,jV p0.Laps,jV p0.Spare,jV p0.Loop,jV p0.Unused]) rfl rfl rfl rfl rfl rfl (by rfl) hS ?_))
 intro W1 b2 ah
 refine oA Z Z (eN (sR fL3 Z (oR Z (zN Z Z zQ Z zI) (oL Z (ah.ldB (j:=0) Z Z Z zj (v:=jV p0.Spare) Z) (oA Z Z (eN (zJ ?_)))))))
 cases hm
 exact ⟨rfl,_,(zh rfl),U,_,(ah.pick [] _ (by decide) rfl),rfl,rfl⟩
theorem wEq (p0:wAB) (ab:Option Addr) (ae:Nat) (w:World) (U:PHeap) (hS:St0 w U []) (ak:Sl U 1 ab ae p0.Classes.length (hH KL.encI p0.Classes)) {r:Int} (hm:wAv p0=some r):Gv Tryz.prog 163 [.agg #[.slice ab p0.Classes.length ae,jV p0.Each,jV p0.Laps,jV p0.Spare,jV p0.Loop,jV p0.Unused]] w (wCE w [] U (fun U_ L_ v=>v=jV r/\L_=[])):=by
 unfold wAv at hm
 refine Gv.of Tryz.func163 rfl Tryz.ntmps163 Tryz.results163 rfl (sR gAi rfl (ZG (cs:=[.slice ab p0.Classes.length ae,jV p0.Each,jV p0.Laps,jV p0.Spare,jV p0.Loop,jV p0.Unused]) rfl rfl rfl rfl rfl rfl (by rfl) hS ?_))
 intro W1 b2 ah
 refine oA Z Z (eN (sR fL3 Z (oR Z (zN Z Z zQ Z zI) (oL Z (ah.ldB (j:=0) Z Z Z zj (v:=jV p0.Loop) Z) (oA Z Z (eN (zJ ?_)))))))
 cases hm
 exact ⟨rfl,_,(zh rfl),U,_,(ah.pick [] _ (by decide) rfl),rfl,rfl⟩
theorem wEr (p0:wAB) (ab:Option Addr) (ae:Nat) (w:World) (U:PHeap) (hS:St0 w U []) (ak:Sl U 1 ab ae p0.Classes.length (hH KL.encI p0.Classes)) {r:Int} (hm:wAw p0=some r):Gv Tryz.prog 164 [.agg #[.slice ab p0.Classes.length ae,jV p0.Each,jV p0.Laps,jV p0.Spare,jV p0.Loop,jV p0.Unused]] w (wCE w [] U (fun U_ L_ v=>v=jV r/\L_=[])):=by
 unfold wAw at hm
 refine Gv.of Tryz.func164 rfl Tryz.ntmps164 Tryz.results164 rfl (sR gAi rfl (ZG (cs:=[.slice ab p0.Classes.length ae,jV p0.Each,jV p0.Laps,jV p0.Spare,jV p0.Loop,jV p0.Unused]) rfl rfl rfl rfl rfl rfl (by rfl) hS ?_))
 intro W1 b2 ah
 refine oA Z Z (eN (sR fL3 Z (oR Z (zN Z Z zQ Z zI) (oL Z (ah.ldB (j:=0) Z Z Z zj (v:=jV p0.Unused) Z) (oA Z Z (eN (zJ ?_)))))))
 cases hm
 exact ⟨rfl,_,(zh rfl),U,_,(ah.pick [] _ (by decide) rfl),rfl,rfl⟩
theorem wGC  (w:World) (U:PHeap) (hS:St0 w U [])  {r:(List wAE)} (hm:wBz =some r):Gv Tryz.prog 114 [] w (wCE w [] U (fun U_ L_ v=>∃ (A0:Option Addr) (c0:Nat) (av:List Value),v=.slice A0 r.length c0/\L_=[.row A0 c0 224 3 av]/\RlL U_ wFp r av)):=by
 unfold wBz at hm
 refine Gv.of Tryz.func114 Z Tryz.ntmps114 Tryz.results114 Z (sR fL1 Z (oA Z Z (eN (sR (wIb gAg) Z ?_))))
 let B0:List Value:=[.nilFunc,jV 0,jV 0]
 let B1:List Value:=[.func (.func 160) #[] #[],jV 1,jV 4]
 refine oR Z (ZY (pv:=[(0,.func (.func 160) #[] #[]),(1,jV 1),(2,jV 4)]) (z:=B0) (cs:=B1) Z (wAH Z (wAH Z (wAH Z wAR))) ZX wDM Z Z) ?_
 let B2:List Value:=[.func (.func 161) #[] #[],jV 1,jV 5]
 refine oR Z (ZY (pv:=[(0,.func (.func 161) #[] #[]),(1,jV 1),(2,jV 5)]) (z:=B0) (cs:=B2) Z (wAH Z (wAH Z (wAH Z wAR))) ZX wDM Z Z) ?_
 let B3:List Value:=[.func (.func 162) #[] #[],jV 0,jV 600]
 refine oR Z (ZY (pv:=[(0,.func (.func 162) #[] #[]),(1,jV 0),(2,jV 600)]) (z:=B0) (cs:=B3) Z (wAH Z (wAH Z (wAH Z wAR))) ZX wDM Z Z) ?_
 let B4:List Value:=[.func (.func 163) #[] #[],jV 0,jV 600]
 refine oR Z (ZY (pv:=[(0,.func (.func 163) #[] #[]),(1,jV 0),(2,jV 600)]) (z:=B0) (cs:=B4) Z (wAH Z (wAH Z (wAH Z wAR))) ZX wDM Z Z) ?_
 let B5:List Value:=[.func (.func 164) #[] #[],jV 0,jV 6000]
 refine oR Z (ZY (pv:=[(0,.func (.func 164) #[] #[]),(1,jV 0),(2,jV 6000)]) (z:=B0) (cs:=B5) Z (wAH Z (wAH Z (wAH Z wAR))) ZX wDM Z Z) ?_
 let B6:List Value:=[.func (.func 160) #[] #[],jV 1,jV 4,.func (.func 161) #[] #[],jV 1,jV 5,.func (.func 162) #[] #[],jV 0,jV 600,.func (.func 163) #[] #[],jV 0,jV 600,.func (.func 164) #[] #[],jV 0,jV 6000]
 refine zM (pv:=[(0,.agg B1.toArray),(1,.agg B2.toArray),(2,.agg B3.toArray),(3,.agg B4.toArray),(4,.agg B5.toArray)]) (zs:=[.nilFunc,jV 0,jV 0,.nilFunc,jV 0,jV 0,.nilFunc,jV 0,jV 0,.nilFunc,jV 0,jV 0,.nilFunc,jV 0,jV 0]) (cs:=B6) Z Z Z Z Z (wAH Z (wAH Z (wAH Z (wAH Z (wAH Z wAR))))) Tryz.runUnderlying225 Tryz.sizeOf224 ZX Z Z Z Z Z hS ?_
 intro W1 b2 aX
 have aR:FnOK Tryz.prog U (.func (.func 164) #[] #[]) wGp wGq wAw:=⟨164,[],[],rfl,Tryz.call164,fun U1 w1 x y vs le hs ha hm=>by obtain ⟨pA_0_0,pc_0_0,rfl,hq0_0⟩:=ha;exact wEr x pA_0_0 pc_0_0 w1 U1 hs hq0_0 hm⟩
 have aS:FnOK Tryz.prog U (.func (.func 163) #[] #[]) wGp wGq wAv:=⟨163,[],[],rfl,Tryz.call163,fun U1 w1 x y vs le hs ha hm=>by obtain ⟨pA_0_0,pc_0_0,rfl,hq0_0⟩:=ha;exact wEq x pA_0_0 pc_0_0 w1 U1 hs hq0_0 hm⟩
 have aT:FnOK Tryz.prog U (.func (.func 162) #[] #[]) wGp wGq wAu:=⟨162,[],[],rfl,Tryz.call162,fun U1 w1 x y vs le hs ha hm=>by obtain ⟨pA_0_0,pc_0_0,rfl,hq0_0⟩:=ha;exact wEp x pA_0_0 pc_0_0 w1 U1 hs hq0_0 hm⟩
 have aU:FnOK Tryz.prog U (.func (.func 161) #[] #[]) wGp wGq wAt:=⟨161,[],[],rfl,Tryz.call161,fun U1 w1 x y vs le hs ha hm=>by obtain ⟨pA_0_0,pc_0_0,rfl,hq0_0⟩:=ha;exact wEo x pA_0_0 pc_0_0 w1 U1 hs hq0_0 hm⟩
 have aV:FnOK Tryz.prog U (.func (.func 160) #[] #[]) wGp wGq wAs:=⟨160,[],[],rfl,Tryz.call160,fun U1 w1 x y vs le hs ha hm=>by obtain ⟨pA_0_0,pc_0_0,rfl,hq0_0⟩:=ha;exact wEn x pA_0_0 pc_0_0 w1 U1 hs hq0_0 hm⟩
 have aY:RlL U wFp [(⟨wAs,1,4⟩:wAE),(⟨wAt,1,5⟩:wAE),(⟨wAu,0,600⟩:wAE),(⟨wAv,0,600⟩:wAE),(⟨wAw,0,6000⟩:wAE)] B6:=(RlL.cons (R:=wFp) (x:=(⟨wAs,1,4⟩:wAE)) (vs:=B1) ⟨(.func (.func 160) #[] #[]),rfl,aV⟩ (RlL.cons (R:=wFp) (x:=(⟨wAt,1,5⟩:wAE)) (vs:=B2) ⟨(.func (.func 161) #[] #[]),rfl,aU⟩ (RlL.cons (R:=wFp) (x:=(⟨wAu,0,600⟩:wAE)) (vs:=B3) ⟨(.func (.func 162) #[] #[]),rfl,aT⟩ (RlL.cons (R:=wFp) (x:=(⟨wAv,0,600⟩:wAE)) (vs:=B4) ⟨(.func (.func 163) #[] #[]),rfl,aS⟩ (RlL.cons (R:=wFp) (x:=(⟨wAw,0,6000⟩:wAE)) (vs:=B5) ⟨(.func (.func 164) #[] #[]),rfl,aR⟩ RlL.nil)))))
 have aW:sW w U U [.row (some ⟨b2,0,none⟩) 5 224 3 B6] W1:=aX
 refine oA Z Z (eN (zJ ?_))
 cases hm
 exact ⟨Z,_,(zh Z),U,_,aW,(some ⟨b2,0,none⟩),5,B6,Z,Z,aY⟩
theorem wDZ (p0:wAE) (aj:Value) (p1:wAB) (av:Nat) (ah:Option Addr) (ai:Nat) (w:World) (U:PHeap) (hS:St0 w U []) (aY:FnOK Tryz.prog U aj wGp wGq p0.of) (aZ:Cl U av 0 [.slice ah p1.Classes.length ai,jV p1.Each,jV p1.Laps,jV p1.Spare,jV p1.Loop,jV p1.Unused]) (a0:Sl U 1 ah ai p1.Classes.length (hH KL.encI p1.Classes)) {r:Bool} (hm:wAp p0 p1=some r):Gv Tryz.prog 115 [.agg #[aj,jV p0.lo,jV p0.hi],.pointer (some ⟨av,0,none⟩)] w (wCE w [] U (fun U_ L_ v=>v=.bool r/\L_=[])):=by
 unfold wAp at hm
 refine Gv.of Tryz.func115 Z Tryz.ntmps115 Tryz.results115 Z (sR gAi Z ?_)
 let B0:List Value:=[aj,jV p0.lo,jV p0.hi]
 refine ZG (cs:=B0) rfl rfl rfl rfl rfl rfl (by rfl) hS ?_
 intro W1 b2 aX
 refine OKS.ra rfl rfl rfl rfl rfl rfl (eN (zP (ZT ZQ [3,1,1,2,3,1,3,1,2,3] (wFx (fC4_7 (.fx 3 gAk .stop))) (by kernel_rfl) ?_)))
 have ae:=aX.drew
 generalize hw_W6:({ W1 with drawn:=W1.drawn + 1 }:World)=W6 at ae ⊢
 refine oR Z (zN Z Z Tryz.runUnderlying224 Z Tryz.sizeOf222) (oL Z (ae.ldB (j:=0) Z Z Z Tryz.isAgg222 (v:=aj) Z) (oL Z (ae.ldCA (f:=0) aZ Z Z zp zS (us:=[.slice ah p1.Classes.length ai,jV p1.Each,jV p1.Laps,jV p1.Spare,jV p1.Loop,jV p1.Unused]) Z Z) (oR Z (zN Z Z Tryz.runUnderlying224 Z zI) (oL Z (ae.ldB (j:=0) Z Z Z zj (v:=jV p0.lo) Z) (oR Z (zN Z Z Tryz.runUnderlying224 Z zI) (oL Z (ae.ldB (j:=0) Z Z Z zj (v:=jV p0.hi) Z) (bnK hm fun x7 h8 bb=>OKS.callV (a:=p1) Z Z Z Z Z Z (zA Z zH) ae aY ⟨ah,ai,Z,a0⟩ h8 ?_)))))))
 rintro am bf bk ar bi aT ⟨rfl,rfl⟩
 have aU:sW w U am [.blk b2 224 B0] ar:=aT
 refine bnK bb fun x17 aR ba=>zF 0 Z Z Z Z (zC Z Z Tryz.call54 (zA Z (zA Z (zA Z zH))) Z) aU (fun hs=>wCL x7 p0.lo p0.hi ar am hs aR) (.inr Z) ?_
 rintro ap bg bm az bj aV ⟨rfl,rfl⟩
 have aW:sW w U ap [.blk b2 224 B0] az:=aV
 refine oA Z Z (eN (zJ ?_))
 have hE:=nA ba;first | subst r | cases hE
 exact ⟨rfl,_,(zh rfl),ap,_,(aW.pick [] _ (by decide) rfl),rfl,rfl⟩
theorem wCT (p0:wAE) (ab:Value) (p1:(wAE->Option Bool)) (am:Nat) (ai:Value) (w:World) (U:PHeap) (hS:St0 w U []) (az:FnOK Tryz.prog U ab wGp wGq p0.of) (aR:Cl U am 0 [ai]) (aS:FnOK Tryz.prog U ai wJl wJm p1) {r:Bool} (hm:wAT p0 p1=some r):Gv Tryz.prog 159 [.agg #[ab,jV p0.lo,jV p0.hi],.pointer (some ⟨am,0,none⟩)] w (wCE w [] U (fun U_ L_ v=>v=.bool r/\L_=[])):=by
 unfold wAT at hm
 refine Gv.of Tryz.func159 Z Tryz.ntmps159 Tryz.results159 Z (sR gAi Z ?_)
 let B0:List Value:=[ab,jV p0.lo,jV p0.hi]
 refine ZG (cs:=B0) rfl rfl rfl rfl rfl rfl (by rfl) hS ?_
 intro W1 b2 ah
 refine oA Z Z (eN (sR gAu Z (oL Z (ah.ldC (f:=0) aR (v:=ai) Z Z Tryz.isAgg227 Z) (oL Z (ah.ldBA (j:=0) Z Z Z Tryz.isAgg224 Tryz.sizeOf224 (vs:=B0) Z Z) (bnK hm fun x5 h6 aT=>OKS.callV (a:=p0) Z Z Z Z Z Z (zA Z zH) ah aS ⟨ab,Z,az⟩ h6 ?_)))))
 rintro U8 L9 aX ap aW au ⟨rfl,rfl⟩
 have av:sW w U U8 [.blk b2 224 B0] ap:=au
 refine oR Z (ZE Z Z) (oA Z Z (eN (zJ ?_)))
 cases aT
 exact ⟨rfl,_,(zh rfl),U8,_,(av.pick [] _ (by decide) rfl),rfl,rfl⟩
theorem wBb (p0:List wAE) (au:Option Addr) (av:Nat) (p1:(wAE->Option Bool)) (az:Value) (w:World) (U:PHeap) (hS:St0 w U []) (bv:SlR U wFp au av p0) (bw:FnOK Tryz.prog U az wJl wJm p1) {r:Int} (hm:wAP p0 p1=some r):Gv Tryz.prog 203 [.slice au p0.length av,az] w (wCE w [] U (fun U_ L_ v=>v=jV r/\L_=[])):=by
 unfold wAP at hm
 refine Gv.of Tryz.func203 Z Tryz.ntmps203 Tryz.results203 Z (sR fL1 Z (oA Z Z (eN (zP (sR fL3 Z (oM Z Z (oR Z (zw Z Z Tryz.runUnderlying225) (oM Z Z (eN (zt ?_))))))))))
 have q:=wFG hm
 obtain ⟨r3,am⟩:=q
 have q:=wFF am
 obtain ⟨aq,bB⟩:=q
 replace aq:=zO aq
 refine CK.forN (fun k2 _ σ_ w_=>∃ (U_:PHeap),σ_ 8=jV (↑k2:Int)/\σ_ 0=.slice au p0.length av/\σ_ 1=az/\σ_ 7=jV (↑p0.length:Int)/\PHeap.Le U U_/\sW w U U_ [] w_) bB ?_ ?_ ?_
 exact ⟨U,Z,Z,Z,Z,(zX _),hS⟩
 rintro k2 ⟨⟩ bW bY W8 ap ⟨bb,aj,aT,aU,aV,ar,aX⟩ a0 bz
 try dsimp only at a0
 have aS:Hid ((↑k2:Int) < (↑p0.length:Int)):=zO (wCt ap)
 replace ap:=zO ap
 have bC:Hid (w64 ((↑k2:Int) + 1)=(↑(k2 + 1):Int)):=zO (by have h1:=aq.out;have h2:=aS.out;rw [wBR] <;> omega)
 refine sR fL1 Z (oR Z (zx Z aj aV) (eN (zP (cT Z aS (kN (zP (zt (sR fL2 Z (oM Z aj (oA Z Z (eN (sR (wIb (.fx 5 .nil .stop)) Z (oM Z aU (oM Z aT (oM Z Z (bnK a0 fun ae aW bD=>?_))))))))))))))))
 have bm:=bv.le ar
 have q:=bm.el (wBs aW)
 obtain ⟨bg,bK,bU,bq,ak,bI⟩:=q
 obtain ⟨aR,rfl,bn⟩:=bI
 replace ak:Cl bb bg (bK + k2 * 3) [aR,jV ae.lo,jV ae.hi]:=ak
 refine oR Z (Runs.iaN Z Z bq Z Tryz.runUnderlying225 Tryz.sizeOf224 (wDy aW)) (oL Z (aX.ldCA (f:=0) ak Z Z Tryz.isAgg224 Tryz.sizeOf224 (us:=[aR,jV ae.lo,jV ae.hi]) Z Z) (bnK bD fun bV bo bE=>?_))
 have bp:=bw.le ar
 refine OKS.callV (a:=ae) Z Z Z Z Z Z (zA Z zH) aX bp ⟨aR,Z,bn⟩ bo ?_
 rintro ah bM bT bf bJ br ⟨rfl,rfl⟩
 have aY:sW w U ah [] bf:=br
 refine eN (ifc bE ?_ ?_)
 intro ai bF
 refine ZL (congrArg nB ai.out) (sR fL2 Z (oM Z Z (oA Z Z (eN (zJ (ZD (ze ?_)))))))
 have q:=wDS bF
 obtain ⟨bL,bG,bi⟩:=q
 have q:=wGG hm am (bz bL bi)
 obtain rfl:=q
 refine ze (ZD (ze ?_))
 cases bG
 exact ⟨Z,_,(zh Z),ah,_,aY,Z,Z⟩
 intro ai bH
 refine ZM (congrArg nB (nD.2 ai.out)) (CK.skip (ZP (zU (rR fL2 Z (oR Z (Za (zq Z aj Z) (congrArg (jV) bC.out)) (oM Z Z (ZF ?_)))))))
 have q:=nA bH
 obtain rfl:=q
 exact zU ⟨Z,_,Z,⟨ah,Z,aT,aU,aV,(ar.trans bJ),aY⟩⟩
 rintro ⟨⟩ bX bN ⟨be,bk,bP,bQ,bj,bR,bu⟩ bA
 have aZ:=wGy hm am bA
 try dsimp only at aZ
 have bh:Hid (¬ ((↑(((↑p0.length:Int):Int) - 0).toNat:Int) < (↑p0.length:Int))):=zO (wCG)
 refine sR fL1 Z (oR Z (zx Z bk bj) (eN (zP (cF Z bh (CK.exit (ZH (ZH (Zb (zU (sR fL1 Z (oA Z Z (eN (zJ ?_)))))))))))))
 cases aZ
 exact ⟨Z,_,(zh Z),be,_,bu,Z,Z⟩
theorem wBW (p0:List wAE) (ae:Option Addr) (ah:Nat) (p1:(wAE->Option Bool)) (ai:Value) (w:World) (U:PHeap) (hS:St0 w U []) (au:SlR U wFp ae ah p0) (av:FnOK Tryz.prog U ai wJl wJm p1) {r:Bool} (hm:wAL p0 p1=some r):Gv Tryz.prog 158 [.slice ae p0.length ah,ai] w (wCE w [] U (fun U_ L_ v=>v=.bool r/\L_=[])):=by
 unfold wAL at hm
 refine Gv.of Tryz.func158 Z Tryz.ntmps158 Tryz.results158 Z (sR fL1 Z (oA Z Z (eN (sR gAu Z (oM Z Z (oM Z Z (bnK hm fun x1 h2 ak=>zF 0 Z Z Z Z (zC Z Z Tryz.call203 (zA Z (zA Z zH)) Z) hS (fun hs=>wBb p0 ae ah p1 ai w U hs au av h2) (.inr Z) ?_)))))))
 rintro U4 L5 v6 W7 aR ar ⟨rfl,rfl⟩
 have aq:sW w U U4 [] W7:=ar
 refine oR Z (Runs.geq Z Z Z) (oA Z Z (eN (zJ ?_)))
 first | (obtain rfl:=nA ak) | cases ak
 exact ⟨Z,_,(zh Z),U4,_,aq,Z,Z⟩
theorem wCi (p0:List wAE) (ak:Option Addr) (am:Nat) (p1:(wAE->Option Bool)) (ah:Value) (w:World) (U:PHeap) (hS:St0 w U []) (a0:SlR U wFp ak am p0) (ar:FnOK Tryz.prog U ah wJl wJm p1) {r:Bool} (hm:wAn p0 p1=some r):Gv Tryz.prog 113 [.slice ak p0.length am,ah] w (wCE w [] U (fun U_ L_ v=>v=.bool r/\L_=[])):=by
 unfold wAn at hm
 refine Gv.of Tryz.func113 Z Tryz.ntmps113 Tryz.results113 Z (sR gAi Z (ZG (cs:=[ah]) Z Z Z Z Z Z (FnOK.cells ar) hS ?_))
 intro W1 b2 aX
 have q:=aX.freeze (k:=0) rfl
 obtain ⟨U5,au,ab,aY⟩:=q
 replace ab:=Cl.of ab
 have aZ:sW w U U5 [] W1:=aY
 replace ab:Cl U5 b2 0 [ah]:=ab
 refine oA Z Z (eN (sR gAu Z (oM Z Z (oR Z (Runs.mkf Z zH (zA Z zH)) ?_))))
 have aR:=a0.le au
 have aS:=ar.le au
 have aU:FnOK Tryz.prog U5 (.func (.func 159) #[] #[.pointer (some ⟨b2,0,none⟩)]) wJl wJm (fun x=>wAT x p1):=⟨159,[],[.pointer (some ⟨b2,0,none⟩)],rfl,Tryz.call159,fun U1 w1 x y vs le hs ha hm=>by obtain ⟨pv_0_0,rfl,hq0_0⟩:=ha;exact wCT x pv_0_0 p1 b2 ah w1 U1 hs hq0_0 (ab.le le) (aS.le le) hm⟩
 refine bnK hm fun bh aT ba=>zF 0 Z Z Z Z (zC Z Z Tryz.call158 (zA Z (zA Z zH)) Z) aZ (fun hs=>wBW p0 ak am (fun x=>wAT x p1) (.func (.func 159) #[] #[.pointer (some ⟨b2,0,none⟩)]) W1 U5 hs aR aU aT) (.inr Z) ?_
 rintro ap be bg az bf aV ⟨rfl,rfl⟩
 have aW:sW w U ap [] az:=aV
 refine oR Z (ZE Z Z) (oA Z Z (eN (zJ ?_)))
 cases ba
 exact ⟨Z,_,(zh Z),ap,_,aW,Z,Z⟩
theorem wEH (p0:wAB) (ae:Option Addr) (ah:Nat) (w:World) (U:PHeap) (hS:St0 w U []) (bN:Sl U 1 ae ah p0.Classes.length (hH KL.encI p0.Classes)) {r:Int} (hm:wBS p0=some r):Gv Tryz.prog 70 [.agg #[.slice ae p0.Classes.length ah,jV p0.Each,jV p0.Laps,jV p0.Spare,jV p0.Loop,jV p0.Unused]] w (wCE w [] U (fun U_ L_ v=>v=jV r/\L_=[])):=by
 unfold wBS at hm
 refine Gv.of Tryz.func70 Z Tryz.ntmps70 Tryz.results70 Z (sR gAi Z ?_)
 let B0:List Value:=[.slice ae p0.Classes.length ah,jV p0.Each,jV p0.Laps,jV p0.Spare,jV p0.Loop,jV p0.Unused]
 refine ZG (cs:=B0) rfl rfl rfl rfl rfl rfl (by rfl) hS ?_
 intro W1 b2 bF
 have q:=bF.freeze (k:=0) rfl
 obtain ⟨U5,bZ,ai,bM⟩:=q
 replace ai:=Cl.of ai
 have bb:sW w U U5 [] W1:=bM
 replace ai:Cl U5 b2 0 B0:=ai
 refine oA Z Z (eN (zP (zt (sR (wFx (.fx 3 gAd .stop)) Z (oR Z (zN Z Z zQ Z zD) (oL Z (bb.ldC (f:=0) ai (v:=.slice ae p0.Classes.length ah) Z Z zd Z) (oR Z (zw Z Z zB) (bnK hm fun cq bn bO=>zF 0 Z Z Z Z (zC Z Z Tryz.call54 (zA Z (zA Z (zA Z zH))) Z) bb (fun hs=>wCL (↑p0.Classes.length:Int) 1 4 W1 U5 hs bn) (.inr Z) ?_))))))))
 rintro ak b9 cj aV be bE ⟨rfl,rfl⟩
 have aR:sW w U ak [] aV:=bE
 refine oR Z (ZE Z Z) (oA Z Z (eN (ifc bO ?_ ?_)))
 intro av bP
 refine ZM (nC av.out) (sR (.fl 0 (.fl 1 (.fx 2 (.fl 3 (.fl 4 (.fx 5 (.fl 6 (.fx 7 (wNJ (.nil)) .stop)) .stop))) .stop))) Z (oR Z (zN Z Z zQ Z zD) ?_))
 have aY:=ai.le be
 refine oL Z (aR.ldC (f:=0) aY (v:=.slice ae p0.Classes.length ah) Z Z zd Z) ?_
 have bo:=bN.le bZ
 have aZ:=bo.le be
 refine bnK bP fun cr bp bQ=>zF 0 Z Z Z Z (zC Z Z Tryz.call73 (zA Z zH) Z) aR (fun hs=>wDP p0.Classes ae ah aV ak hs aZ bp) (.inr Z) ?_
 rintro am cd cm aW bf bG ⟨rfl,rfl⟩
 have a0:sW w U am [] aW:=bG
 refine oR Z (ZE Z Z) (oM Z Z (ifc bQ ?_ ?_))
 intro ab bR
 refine bnK bR fun b8 bq bS=>zF 0 Z Z Z (zR Z Z (nC ab.out)) (zC Z Z Tryz.call114 zH Z) a0 (fun hs=>wGC aW am hs bq) (.inr Z) ?_
 rintro bj cf cn au bg bH ⟨aS,aX,bm,rfl,rfl,br⟩
 have bI:sW w U bj [.row aS aX 224 3 bm] au:=bH
 refine zr Z Z Z (zR Z Z (nC ab.out)) (fun _=>Runs.mkf Z zH (zA Z zH)) ?_
 have q:=bI.freezeRR (R:=wFp) (k:=0) rfl br rfl (by decide)
 obtain ⟨aq,bh,bY,bJ⟩:=q
 have bK:sW w U aq [] au:=bJ
 have bu:=aY.le bf
 have bv:=bu.le bg
 have bw:=bv.le bh
 have bz:=aZ.le bf
 have bA:=bz.le bg
 have bB:=bA.le bh
 have bD:FnOK Tryz.prog aq (.func (.func 115) #[] #[.pointer (some ⟨b2,0,none⟩)]) wJl wJm (fun x=>wAp x p0):=⟨115,[],[.pointer (some ⟨b2,0,none⟩)],rfl,Tryz.call115,fun U1 w1 x y vs le hs ha hm=>by obtain ⟨pv_0_0,rfl,hq0_0⟩:=ha;exact wDZ x pv_0_0 p0 b2 ae ah w1 U1 hs hq0_0 (bw.le le) (bB.le le) hm⟩
 refine bnK bS fun ct bC bT=>zF 0 Z Z Z (zR Z Z (nC ab.out)) (zC Z Z Tryz.call113 (zA Z (zA Z zH)) Z) bK (fun hs=>wCi b8 aS aX (fun x=>wAp x p0) (.func (.func 115) #[] #[.pointer (some ⟨b2,0,none⟩)]) au aq hs bY bD bC) (.inr Z) ?_
 rintro ar cg cp bk ci bL ⟨rfl,rfl⟩
 have ba:sW w U ar [] bk:=bL
 refine zr Z Z Z (zR Z Z (nC ab.out)) (fun _=>ZE Z Z) (oR Z (zG Z (nC ab.out) Z) (oA Z Z (eN (ifc bT ?_ ?_))))
 intro az bU
 refine ZM (nC az.out) (CK.skip (ZP (zU (sR fL1 Z (oA Z Z (eN (zJ ?_)))))))
 cases bU
 exact ⟨Z,_,(zh Z),ar,_,ba,Z,Z⟩
 intro az bV
 refine ZL (nF (az.out)) (sR fL1 Z (oA Z Z (eN (zJ (ZD (ze ?_))))))
 cases bV
 exact ⟨Z,_,(zh Z),ar,_,ba,Z,Z⟩
 intro ab bW
 refine ZN Z Z Z (zV Z Z (nF (ab.out)) Z) (zY Z Z Z (zV Z Z (nF (ab.out)) Z) (ZN Z Z Z (zV Z Z (nF (ab.out)) Z) (zY Z Z Z (zV Z Z (nF (ab.out)) Z) (oR Z (zW Z (nF (ab.out)) Z) (oA Z Z (eN (ZL Z (sR fL1 Z (oA Z Z (eN (zJ (ZD (ze ?_)))))))))))))
 cases bW
 exact ⟨Z,_,(zh Z),am,_,a0,Z,Z⟩
 intro av bX
 refine ZL (nF (av.out)) (sR fL1 Z (oA Z Z (eN (zJ (ZD (ze ?_))))))
 cases bX
 exact ⟨Z,_,(zh Z),ak,_,aR,Z,Z⟩
theorem wDa (p0:List Int) (ai:Option Addr) (ak:Nat) (p1:wAB) (aj:Nat) (ae:Option Addr) (ah:Nat) (w:World) (U:PHeap) (hS:St0 w U []) (ap:Sl U 1 ai ak p0.length (hH KL.encI p0)) (am:Cl U aj 0 [.slice ae p1.Classes.length ah,jV p1.Each,jV p1.Laps,jV p1.Spare,jV p1.Loop,jV p1.Unused]) (aq:Sl U 1 ae ah p1.Classes.length (hH KL.encI p1.Classes)) {r:Bool} (hm:wAq p0 p1=some r):Gv Tryz.prog 72 [.slice ai p0.length ak,.pointer (some ⟨aj,0,none⟩)] w (wCE w [] U (fun U_ L_ v=>v=.bool r/\L_=[])):=by
 unfold wAq at hm
 refine Gv.of Tryz.func72 Z Tryz.ntmps72 Tryz.results72 Z (sR fL1 Z (oA Z Z (eN (sR fL7 Z (oM Z Z (oR Z (zw Z Z zB) (oR Z (zN Z Z zQ Z zD) (oL Z (hS.ldC (f:=0) am (v:=.slice ae p1.Classes.length ah) Z Z zd Z) (oR Z (zw Z Z zB) (oR Z (ZO Z Z Z) (oA Z Z (eN (zJ ?_)))))))))))))
 first | (obtain rfl:=nA hm) | cases hm
 exact ⟨Z,_,(zh Z),U,_,hS,Z,Z⟩
theorem wCz (p0:List Int) (ab:Option Addr) (ae:Nat) (p1:((List Int)->Option Bool)) (ak:Nat) (ah:Value) (w:World) (U:PHeap) (hS:St0 w U []) (au:Sl U 1 ab ae p0.length (hH KL.encI p0)) (av:Cl U ak 0 [ah]) (az:FnOK Tryz.prog U ah wIR wIS p1) {r:Bool} (hm:wAh p0 p1=some r):Gv Tryz.prog 117 [.slice ab p0.length ae,.pointer (some ⟨ak,0,none⟩)] w (wCE w [] U (fun U_ L_ v=>v=.bool r/\L_=[])):=by
 unfold wAh at hm
 refine Gv.of Tryz.func117 Z Tryz.ntmps117 Tryz.results117 Z (sR fL1 Z (oA Z Z (eN (sR gAu Z (oL Z (hS.ldC (f:=0) av (v:=ah) Z Z Tryz.isAgg169 Z) (oM Z Z (bnK hm fun x1 h2 aR=>OKS.callV (a:=p0) Z Z Z Z Z Z (zA Z zH) hS az ⟨ab,ae,Z,au⟩ h2 ?_)))))))
 rintro U4 L5 v6 W7 aT ar ⟨rfl,rfl⟩
 have aq:sW w U U4 [] W7:=ar
 refine oR Z (ZE Z Z) (oA Z Z (eN (zJ ?_)))
 cases aR
 exact ⟨Z,_,(zh Z),U4,_,aq,Z,Z⟩
theorem wCD (p0:List (List Int)) (ar:Option Addr) (av:Nat) (p1:((List Int)->Option Bool)) (aR:Value) (w:World) (U:PHeap) (hS:St0 w U []) (bw:SlR U wIT ar av p0) (bz:FnOK Tryz.prog U aR wIR wIS p1) {r:Int} (hm:wAg p0 p1=some r):Gv Tryz.prog 165 [.slice ar p0.length av,aR] w (wCE w [] U (fun U_ L_ v=>v=jV r/\L_=[])):=by
 unfold wAg at hm
 refine Gv.of Tryz.func165 Z Tryz.ntmps165 Tryz.results165 Z (sR fL1 Z (oA Z Z (eN (zP (sR fL3 Z (oM Z Z (oR Z (zw Z Z zL) (oM Z Z (eN (zt ?_))))))))))
 have q:=wFG hm
 obtain ⟨r3,ak⟩:=q
 have q:=wFF ak
 obtain ⟨ap,bC⟩:=q
 replace ap:=zO ap
 refine CK.forN (fun k2 _ σ_ w_=>∃ (U_:PHeap),σ_ 8=jV (↑k2:Int)/\σ_ 0=.slice ar p0.length av/\σ_ 1=aR/\σ_ 7=jV (↑p0.length:Int)/\PHeap.Le U U_/\sW w U U_ [] w_) bC ?_ ?_ ?_
 exact ⟨U,Z,Z,Z,Z,(zX _),hS⟩
 rintro k2 ⟨⟩ bX bZ W8 am ⟨be,ai,aU,aV,aW,aq,aY⟩ ba bA
 try dsimp only at ba
 have aT:Hid ((↑k2:Int) < (↑p0.length:Int)):=zO (wCt am)
 replace am:=zO am
 have bD:Hid (w64 ((↑k2:Int) + 1)=(↑(k2 + 1):Int)):=zO (by have h1:=ap.out;have h2:=aT.out;rw [wBR] <;> omega)
 refine sR fL1 Z (oR Z (zx Z ai aW) (eN (zP (cT Z aT (kN (zP (zt (sR fL2 Z (oM Z ai (oA Z Z (eN (sR (wIb (.fx 5 .nil .stop)) Z (oM Z aV (oM Z aU (oM Z Z (bnK ba fun aS aX bE=>?_))))))))))))))))
 have bn:=bw.le aq
 have q:=bn.el (wBs aX)
 obtain ⟨bh,bL,bV,br,aj,bJ⟩:=q
 obtain ⟨au,az,rfl,bo⟩:=bJ
 replace aj:Cl be bh (bL + k2 * 1) [.slice au aS.length az]:=aj
 refine oR Z (Runs.iaN Z Z br Z zL zD (wDy aX)) (oL Z (aY.ldC (f:=0) aj (v:=.slice au aS.length az) Z Z zd Z) (bnK bE fun bW bp bF=>?_))
 have bq:=bz.le aq
 refine OKS.callV (a:=aS) Z Z Z Z Z Z (zA Z zH) aY bq ⟨au,az,Z,bo⟩ bp ?_
 rintro ae bN bU bg bK bu ⟨rfl,rfl⟩
 have aZ:sW w U ae [] bg:=bu
 refine eN (ifc bF ?_ ?_)
 intro ah bG
 refine ZL (congrArg nB ah.out) (sR fL2 Z (oM Z Z (oA Z Z (eN (zJ (ZD (ze ?_)))))))
 have q:=wDS bG
 obtain ⟨bM,bH,bj⟩:=q
 have q:=wGG hm ak (bA bM bj)
 obtain rfl:=q
 refine ze (ZD (ze ?_))
 cases bH
 exact ⟨Z,_,(zh Z),ae,_,aZ,Z,Z⟩
 intro ah bI
 refine ZM (congrArg nB (nD.2 ah.out)) (CK.skip (ZP (zU (rR fL2 Z (oR Z (Za (zq Z ai Z) (congrArg (jV) bD.out)) (oM Z Z (ZF ?_)))))))
 have q:=nA bI
 obtain rfl:=q
 exact zU ⟨Z,_,Z,⟨ae,Z,aU,aV,aW,(aq.trans bK),aZ⟩⟩
 rintro ⟨⟩ bY bO ⟨bf,bm,bQ,bR,bk,bS,bv⟩ bB
 have a0:=wGy hm ak bB
 try dsimp only at a0
 have bi:Hid (¬ ((↑(((↑p0.length:Int):Int) - 0).toNat:Int) < (↑p0.length:Int))):=zO (wCG)
 refine sR fL1 Z (oR Z (zx Z bm bk) (eN (zP (cF Z bi (CK.exit (ZH (ZH (Zb (zU (sR fL1 Z (oA Z Z (eN (zJ ?_)))))))))))))
 cases a0
 exact ⟨Z,_,(zh Z),bf,_,bv,Z,Z⟩
end Go.Proofs.YtkedcbligiebkaaGreat
namespace Go.Proofs.YtkedcbligiebkaaGreat
open Go.KL
set_option maxHeartbeats 4000000
theorem wBq (p0:List (List Int)) (ae:Option Addr) (ah:Nat) (p1:((List Int)->Option Bool)) (ai:Value) (w:World) (U:PHeap) (hS:St0 w U []) (au:SlR U wIT ae ah p0) (av:FnOK Tryz.prog U ai wIR wIS p1) {r:Bool} (hm:wAa p0 p1=some r):Gv Tryz.prog 116 [.slice ae p0.length ah,ai] w (wCE w [] U (fun U_ L_ v=>v=.bool r/\L_=[])):=by
 unfold wAa at hm
 refine Gv.of Tryz.func116 Z Tryz.ntmps116 Tryz.results116 Z (sR fL1 Z (oA Z Z (eN (sR gAu Z (oM Z Z (oM Z Z (bnK hm fun x1 h2 ak=>zF 0 Z Z Z Z (zC Z Z Tryz.call165 (zA Z (zA Z zH)) Z) hS (fun hs=>wCD p0 ae ah p1 ai w U hs au av h2) (.inr Z) ?_)))))))
 rintro U4 L5 v6 W7 aR ar ⟨rfl,rfl⟩
 have aq:sW w U U4 [] W7:=ar
 refine oR Z (Runs.geq Z Z Z) (oA Z Z (eN (zJ ?_)))
 first | (obtain rfl:=nA ak) | cases ak
 exact ⟨Z,_,(zh Z),U4,_,aq,Z,Z⟩
theorem wCQ (p0:List (List Int)) (ak:Option Addr) (am:Nat) (p1:((List Int)->Option Bool)) (ah:Value) (w:World) (U:PHeap) (hS:St0 w U []) (a0:SlR U wIT ak am p0) (ar:FnOK Tryz.prog U ah wIR wIS p1) {r:Bool} (hm:wAz p0 p1=some r):Gv Tryz.prog 71 [.slice ak p0.length am,ah] w (wCE w [] U (fun U_ L_ v=>v=.bool r/\L_=[])):=by
 unfold wAz at hm
 refine Gv.of Tryz.func71 Z Tryz.ntmps71 Tryz.results71 Z (sR gAi Z (ZG (cs:=[ah]) Z Z Z Z Z Z (FnOK.cells ar) hS ?_))
 intro W1 b2 aX
 have q:=aX.freeze (k:=0) rfl
 obtain ⟨U5,au,ab,aY⟩:=q
 replace ab:=Cl.of ab
 have aZ:sW w U U5 [] W1:=aY
 replace ab:Cl U5 b2 0 [ah]:=ab
 refine oA Z Z (eN (sR gAu Z (oM Z Z (oR Z (Runs.mkf Z zH (zA Z zH)) ?_))))
 have aR:=a0.le au
 have aS:=ar.le au
 have aU:FnOK Tryz.prog U5 (.func (.func 117) #[] #[.pointer (some ⟨b2,0,none⟩)]) wIR wIS (fun x=>wAh x p1):=⟨117,[],[.pointer (some ⟨b2,0,none⟩)],rfl,Tryz.call117,fun U1 w1 x y vs le hs ha hm=>by obtain ⟨pA_0,pc_0,rfl,hq0_0⟩:=ha;exact wCz x pA_0 pc_0 p1 b2 ah w1 U1 hs hq0_0 (ab.le le) (aS.le le) hm⟩
 refine bnK hm fun bh aT ba=>zF 0 Z Z Z Z (zC Z Z Tryz.call116 (zA Z (zA Z zH)) Z) aZ (fun hs=>wBq p0 ak am (fun x=>wAh x p1) (.func (.func 117) #[] #[.pointer (some ⟨b2,0,none⟩)]) W1 U5 hs aR aU aT) (.inr Z) ?_
 rintro ap be bg az bf aV ⟨rfl,rfl⟩
 have aW:sW w U ap [] az:=aV
 refine oR Z (ZE Z Z) (oA Z Z (eN (zJ ?_)))
 cases ba
 exact ⟨Z,_,(zh Z),ap,_,aW,Z,Z⟩
theorem wDA (p0:Int) (w:World) (U:PHeap) (hS:St0 w U [])  {r:Bool} (hm:wAY p0=some r):Gv Tryz.prog 76 [jV p0] w (wCE w [] U (fun U_ L_ v=>v=.bool r/\L_=[])):=by
 unfold wAY at hm
 refine Gv.of Tryz.func76 Z Tryz.ntmps76 Tryz.results76 Z (sR fL1 Z (oA Z Z (eN (sR gAp Z (oM Z Z (bnK hm fun x1 h2 ak=>zF 0 Z Z Z Z (zC Z Z Tryz.call54 (zA Z (zA Z (zA Z zH))) Z) hS (fun hs=>wCL p0 0 100000 w U hs h2) (.inr Z) ?_))))))
 rintro U4 L5 v6 W7 ap aj ⟨rfl,rfl⟩
 have ai:sW w U U4 [] W7:=aj
 refine oA Z Z (eN (zJ ?_))
 have hE:=nA ak;first | subst r | cases hE
 exact ⟨Z,_,(zh Z),U4,_,ai,Z,Z⟩
theorem wDb (p0:List Int) (ab:Option Addr) (ae:Nat) (w:World) (U:PHeap) (hS:St0 w U []) (ar:Sl U 1 ab ae p0.length (hH KL.encI p0)) {r:Bool} (hm:wAr p0=some r):Gv Tryz.prog 74 [.slice ab p0.length ae] w (wCE w [] U (fun U_ L_ v=>v=.bool r/\L_=[])):=by
 unfold wAr at hm
 refine Gv.of Tryz.func74 Z Tryz.ntmps74 Tryz.results74 Z (sR fL1 Z (oA Z Z (eN (sR gAp Z (oM Z Z ?_)))))
 have am:FnOK Tryz.prog U (.func (.func 76) #[] #[]) wIP wIQ wAY:=⟨76,[],[],rfl,Tryz.call76,fun U1 w1 x y vs le hs ha hm=>by obtain rfl:=ha;exact wDA x w1 U1 hs  hm⟩
 refine bnK hm fun x2 h3 au=>zF 0 Z Z Z Z (zC Z Z Tryz.call75 (zA Z (zA Z zH)) Z) hS (fun hs=>wCw p0 ab ae wAY (.func (.func 76) #[] #[]) w U hs ar am h3) (.inr Z) ?_
 rintro U5 L6 v7 W8 aR ap ⟨rfl,rfl⟩
 have aq:sW w U U5 [] W8:=ap
 refine oA Z Z (eN (zJ ?_))
 have hE:=nA au;first | subst r | cases hE
 exact ⟨Z,_,(zh Z),U5,_,aq,Z,Z⟩
theorem wCY (p0:wAB) (aS:Option Addr) (aT:Nat) (p1:wAC) (am:Option Addr) (ap:Nat) (aj:Option Addr) (ak:Nat) (w:World) (U:PHeap) (hS:St0 w U []) (cf:Sl U 1 aS aT p0.Classes.length (hH KL.encI p0.Classes)) (cg:Sl U 1 am ap p1.Classes.length (hH KL.encI p1.Classes)) (ci:SlR U wIT aj ak p1.Times) {r:Int} (hm:wBF p0 p1=some r):Gv Tryz.prog 39 [.agg #[.slice aS p0.Classes.length aT,jV p0.Each,jV p0.Laps,jV p0.Spare,jV p0.Loop,jV p0.Unused],.agg #[.slice am p1.Classes.length ap,.slice aj p1.Times.length ak]] w (wCE w [] U (fun U_ L_ v=>v=jV r/\L_=[])):=by
 unfold wBF at hm
 refine Gv.of Tryz.func39 Z Tryz.ntmps39 Tryz.results39 Z (sR (.fx 0 gAj .stop) Z ?_)
 let B0:List Value:=[.slice aS p0.Classes.length aT,jV p0.Each,jV p0.Laps,jV p0.Spare,jV p0.Loop,jV p0.Unused]
 refine ZG (cs:=B0) rfl rfl rfl rfl rfl rfl (by rfl) hS ?_
 intro W1 b2 bX
 have q:=bX.freeze (k:=0) rfl
 obtain ⟨U5,bk,ar,b8⟩:=q
 replace ar:=Cl.of ar
 have cd:sW w U U5 [] W1:=b8
 replace ar:Cl U5 b2 0 B0:=ar
 let B1:List Value:=[.slice am p1.Classes.length ap,.slice aj p1.Times.length ak]
 refine ZG (cs:=B1) rfl rfl rfl rfl rfl rfl (by rfl) cd ?_
 intro bB az bv
 refine oA Z Z (eN (sR gAp Z (oL Z (bv.ldCA (f:=0) ar Z Z zp zS (us:=B0) Z Z) ?_)))
 have br:=cf.le bk
 refine bnK hm fun cS bD cj=>zF 0 Z Z Z Z (zC Z Z Tryz.call70 (zA Z zH) Z) bv (fun hs=>wEH p0 aS aT bB U5 hs br bD) (.inr Z) ?_
 rintro aZ cH cN bn aV bW ⟨rfl,rfl⟩
 have bh:sW w U aZ [.blk az 63 B1] bn:=bW
 refine oA Z Z (eN (zP (zt (sR fL3 Z (oM Z Z (oR Z (Runs.neq Z Z Z) (oA Z Z (eN (ifc cj ?_ ?_)))))))))
 intro be cm
 refine ZM (zz (fun h=>h be.out)) (sR (wFx (.fx 3 (wPq (.fx 18 (wOY (.nil)) .stop)) .stop)) Z (oR Z (zN Z Z zK Z zD) (oL Z (bh.ldB (j:=0) Z Z Z zd (v:=.slice am p1.Classes.length ap) Z) (oR Z (zw Z Z zB) (bnK cm fun cU bE cn=>zF 0 Z Z Z Z (zC Z Z Tryz.call54 (zA Z (zA Z (zA Z zH))) Z) bh (fun hs=>wCL (↑p1.Classes.length:Int) 1 8 bn aZ hs bE) (.inr Z) ?_)))))
 rintro av cI cO bo aW bY ⟨rfl,rfl⟩
 have au:sW w U av [.blk az 63 B1] bo:=bY
 refine oR Z (ZE Z Z) (oM Z Z (ifc cn ?_ ?_))
 intro ae cp
 refine zr Z Z Z (zR Z Z (nC ae.out)) (fun _=>zN Z Z zK Z ZK) (OKS.m Z Z Z (zR Z Z (nC ae.out)) (au.ldB (j:=0) Z Z Z zl (v:=.slice aj p1.Times.length ak) Z) Z (zr Z Z Z (zR Z Z (nC ae.out)) (fun _=>zw Z Z zL) (zr Z Z Z (zR Z Z (nC ae.out)) (fun _=>zN Z Z zK Z zD) (OKS.m Z Z Z (zR Z Z (nC ae.out)) (au.ldB (j:=0) Z Z Z zd (v:=.slice am p1.Classes.length ap) Z) Z (zr Z Z Z (zR Z Z (nC ae.out)) (fun _=>zw Z Z zB) (zr Z Z Z (zR Z Z (nC ae.out)) (fun _=>Runs.neq Z Z Z) (oR Z (zG Z (nC ae.out) Z) (oM Z Z (ifc cp ?_ ?_)))))))))
 intro ah cq
 refine zr Z Z Z (zR Z Z (zz (fun h=>h ah.out))) (fun _=>zN Z Z zK Z ZK) (OKS.m Z Z Z (zR Z Z (zz (fun h=>h ah.out))) (au.ldB (j:=0) Z Z Z zl (v:=.slice aj p1.Times.length ak) Z) Z (zr Z Z Z (zR Z Z (zz (fun h=>h ah.out))) (fun _=>Runs.mkf Z zH (zA Z zH)) ?_))
 have bF:=ci.le bk
 have bG:=bF.le aV
 have bu:=bG.le aW
 have bH:=ar.le aV
 have bI:=bH.le aW
 have bJ:=br.le aV
 have bK:=bJ.le aW
 have bU:FnOK Tryz.prog av (.func (.func 72) #[] #[.pointer (some ⟨b2,0,none⟩)]) wIR wIS (fun x=>wAq x p0):=⟨72,[],[.pointer (some ⟨b2,0,none⟩)],rfl,Tryz.call72,fun U1 w1 x y vs le hs ha hm=>by obtain ⟨pA_0,pc_0,rfl,hq0_0⟩:=ha;exact wDa x pA_0 pc_0 p0 b2 aS aT w1 U1 hs hq0_0 (bI.le le) (bK.le le) hm⟩
 refine bnK cq fun x49 bL cr=>zF 0 Z Z Z (zR Z Z (zz (fun h=>h ah.out))) (zC Z Z Tryz.call71 (zA Z (zA Z zH)) Z) au (fun hs=>wCQ p1.Times aj ak (fun x=>wAq x p0) (.func (.func 72) #[] #[.pointer (some ⟨b2,0,none⟩)]) bo av hs bu bU bL) (.inr Z) ?_
 rintro ba cJ cP bp bz bZ ⟨rfl,rfl⟩
 have bi:sW w U ba [.blk az 63 B1] bp:=bZ
 refine zr Z Z Z (zR Z Z (zz (fun h=>h ah.out))) (fun _=>ZE Z Z) (oR Z (zG Z (zz (fun h=>h ah.out)) Z) (oA Z Z (eN (ifc cr ?_ ?_))))
 intro bf ct
 refine ZM (nC bf.out) (sR (.fl 0 (.fl 1 (.fx 2 (fC3_6 (.fx 7 (wNJ (.nil)) .stop)) .stop))) Z (oR Z (zN Z Z zK Z zD) (oL Z (bi.ldB (j:=0) Z Z Z zd (v:=.slice am p1.Classes.length ap) Z) ?_)))
 have bM:=cg.le bk
 have bN:=bM.le aV
 have bO:=bN.le aW
 have bP:=bO.le bz
 refine bnK ct fun cV bQ cu=>zF 0 Z Z Z Z (zC Z Z Tryz.call73 (zA Z zH) Z) bi (fun hs=>wDP p1.Classes am ap bp ba hs bP bQ) (.inr Z) ?_
 rintro aU cK cQ bq cG b5 ⟨rfl,rfl⟩
 have bj:sW w U aU [.blk az 63 B1] bq:=b5
 refine oR Z (ZE Z Z) (oM Z Z (ifc cu ?_ ?_))
 intro ai cw
 refine zr Z Z Z (zR Z Z (nC ai.out)) (fun _=>zN Z Z zK Z ZK) (OKS.m Z Z Z (zR Z Z (nC ai.out)) (bj.ldB (j:=0) Z Z Z zl (v:=.slice aj p1.Times.length ak) Z) Z ?_)
 have bR:=bu.le bz
 have bS:=bR.le cG
 have bV:FnOK Tryz.prog aU (.func (.func 74) #[] #[]) wIR wIS wAr:=⟨74,[],[],rfl,Tryz.call74,fun U1 w1 x y vs le hs ha hm=>by obtain ⟨pA_0,pc_0,rfl,hq0_0⟩:=ha;exact wDb x pA_0 pc_0 w1 U1 hs hq0_0 hm⟩
 refine bnK cw fun x80 bT cx=>zF 0 Z Z Z (zR Z Z (nC ai.out)) (zC Z Z Tryz.call71 (zA Z (zA Z zH)) Z) bj (fun hs=>wCQ p1.Times aj ak wAr (.func (.func 74) #[] #[]) bq aU hs bS bV bT) (.inr Z) ?_
 rintro bb cL cR bC cM b9 ⟨rfl,rfl⟩
 have bw:sW w U bb [.blk az 63 B1] bC:=b9
 refine zr Z Z Z (zR Z Z (nC ai.out)) (fun _=>ZE Z Z) (oR Z (zG Z (nC ai.out) Z) (oA Z Z (eN (ifc cx ?_ ?_))))
 intro bg cy
 refine ZM (nC bg.out) (CK.skip (ZP (zU (sR fL1 Z (oA Z Z (eN (zJ ?_)))))))
 cases cy
 exact ⟨rfl,_,(zh rfl),bb,_,(bw.pick [] _ (by decide) rfl),rfl,rfl⟩
 intro bg cz
 refine ZL (nF (bg.out)) (sR fL1 Z (oA Z Z (eN (zJ (ZD (ze ?_))))))
 cases cz
 exact ⟨rfl,_,(zh rfl),bb,_,(bw.pick [] _ (by decide) rfl),rfl,rfl⟩
 intro ai cA
 refine zY Z Z Z (zV Z Z (nF (ai.out)) Z) (zY Z Z Z (zV Z Z (nF (ai.out)) Z) (ZN Z Z Z (zV Z Z (nF (ai.out)) Z) (zY Z Z Z (zV Z Z (nF (ai.out)) Z) (oR Z (zW Z (nF (ai.out)) Z) (oA Z Z (eN (ZL Z (sR fL1 Z (oA Z Z (eN (zJ (ZD (ze ?_)))))))))))))
 cases cA
 exact ⟨rfl,_,(zh rfl),aU,_,(bj.pick [] _ (by decide) rfl),rfl,rfl⟩
 intro bf cB
 refine ZL (nF (bf.out)) (sR fL1 Z (oA Z Z (eN (zJ (ZD (ze ?_))))))
 cases cB
 exact ⟨rfl,_,(zh rfl),ba,_,(bi.pick [] _ (by decide) rfl),rfl,rfl⟩
 intro ah cC
 refine oT Z ah (oT Z ah (oT Z ah (ZN Z Z Z (zV Z Z (wDu ah.out) Z) (oT Z ah (oR Z (zW Z (wDu ah.out) Z) (oA Z Z (eN (ZL Z (sR fL1 Z (oA Z Z (eN (zJ (ZD (ze ?_))))))))))))))
 cases cC
 exact ⟨rfl,_,(zh rfl),av,_,(au.pick [] _ (by decide) rfl),rfl,rfl⟩
 intro ae cD
 refine zY Z Z Z (zV Z Z (nF (ae.out)) Z) (zY Z Z Z (zV Z Z (nF (ae.out)) Z) (zY Z Z Z (zV Z Z (nF (ae.out)) Z) (zY Z Z Z (zV Z Z (nF (ae.out)) Z) (zY Z Z Z (zV Z Z (nF (ae.out)) Z) (zY Z Z Z (zV Z Z (nF (ae.out)) Z) (zY Z Z Z (zV Z Z (nF (ae.out)) Z) (oR Z (zW Z (nF (ae.out)) Z) (oM Z Z (oN Z (oN Z (oN Z (ZN Z Z Z (zV Z Z Z Z) (oN Z (oR Z (zW Z Z Z) (oA Z Z (eN (ZL Z (sR fL1 Z (oA Z Z (eN (zJ (ZD (ze ?_)))))))))))))))))))))))
 cases cD
 exact ⟨rfl,_,(zh rfl),av,_,(au.pick [] _ (by decide) rfl),rfl,rfl⟩
 intro be cE
 refine cT Z be (sR fL2 Z (oM Z Z (oA Z Z (eN (zJ (ZD (ze ?_)))))))
 have hE:=nA cE;first | subst r | cases hE
 exact ⟨rfl,_,(zh rfl),aZ,_,(bh.pick [] _ (by decide) rfl),rfl,rfl⟩
theorem wCZ (p0:wAM) (ae:Option Addr) (ai:Nat) (ap:Option Addr) (aq:Nat) (ah:Option Addr) (aj:Nat) (p1:Int) (p2:Int) (w:World) (U:PHeap) (hS:St0 w U []) (aW:Sl U 1 ae ai p0.Squad.Classes.length (hH KL.encI p0.Squad.Classes)) (bg:SlR U wIT ap aq p0.Squad.Times) (aX:Sl U 1 ah aj p0.rules.Classes.length (hH KL.encI p0.rules.Classes)) {r:Bool} (hm:wAo p0 p1 p2=some r):Gv Tryz.prog 80 [.agg #[.slice ae p0.Squad.Classes.length ai,.slice ap p0.Squad.Times.length aq,.slice ah p0.rules.Classes.length aj,jV p0.rules.Each,jV p0.rules.Laps,jV p0.rules.Spare,jV p0.rules.Loop,jV p0.rules.Unused],jV p1,jV p2] w (wCE w [] U (fun U_ L_ v=>v=.bool r/\L_=[])):=by
 unfold wAo at hm
 refine Gv.of Tryz.func80 rfl Tryz.ntmps80 Tryz.results80 rfl (sR gAi rfl (ZG (cs:=[.slice ae p0.Squad.Classes.length ai,.slice ap p0.Squad.Times.length aq,.slice ah p0.rules.Classes.length aj,jV p0.rules.Each,jV p0.rules.Laps,jV p0.rules.Spare,jV p0.rules.Loop,jV p0.rules.Unused]) rfl rfl rfl rfl rfl rfl (by rfl) hS ?_))
 intro W1 b2 aV
 refine OKS.ra rfl rfl rfl rfl rfl rfl (eN (zP (ZT ZQ [3,3,1,3,3,1,3,3,1,3,3,1,3,3] fL14 (by kernel_rfl) ?_)))
 have ab:=aV.drew
 generalize hw_W6:({ W1 with drawn:=W1.drawn + 1 }:World)=W6 at ab ⊢
 refine oR Z (zN Z Z ZS Z zZ) (oR Z (zN Z Z zK Z zD) (oL Z (ab.ldB (j:=0) Z Z Z zd (v:=.slice ae p0.Squad.Classes.length ai) Z) (oM Z Z (bnK hm fun x7 h8 aY=>?_))))
 have q:=aW.el (fun _=>rfl) (wBs h8)
 obtain ⟨bb,bh,aR,aT⟩:=q
 refine oR Z (Runs.iaI Z Z aR Z zB zI (wGx h8) (wIg h8)) (oL Z (ab.ldC (f:=0) aT (v:=jV x7) Z Z zj Z) (oR Z (zN Z Z ZS Z zS) (oR Z (zN Z Z zQ Z zD) (oL Z (ab.ldB (j:=0) Z Z Z zd (v:=.slice ah p0.rules.Classes.length aj) Z) (oM Z Z (bnK aY fun aZ ak au=>?_))))))
 have q:=aX.el (fun _=>rfl) (wBs ak)
 obtain ⟨be,bi,aS,aU⟩:=q
 refine oR Z (Runs.iaI Z Z aS Z zB zI (wGx ak) (wIg ak)) (oL Z (ab.ldC (f:=0) aU (v:=jV aZ) Z Z zj Z) (oR Z (ZO Z Z Z) (oA Z Z (eN (zJ ?_)))))
 first | (obtain rfl:=nA au) | cases au
 exact ⟨rfl,_,(zh rfl),U,_,(ab.pick [] _ (by decide) rfl),rfl,rfl⟩
theorem wIU (p0:List Int) (aj:Option Addr) (ak:Nat) (w:World) (U:PHeap) (hS:St0 w U []) (bb:Sl U 1 aj ak p0.length (hH KL.encI p0)) {r:Int} (hm:wCN p0=some r):Gv Tryz.prog 93 [.slice aj p0.length ak] w (wCE w [] U (fun U_ L_ v=>v=jV r/\L_=[])):=by
 unfold wCN at hm
 refine Gv.of Tryz.func93 Z Tryz.ntmps93 Tryz.results93 Z (sR fL1 Z (oA Z Z (eN (sR fL1 Z (oA Z Z (eN (zP (sR fL3 Z (oM Z Z (oR Z (zw Z Z zB) (oM Z Z (eN (zt (bnK hm fun bu bf bi=>?_))))))))))))))
 have q:=wCm bf
 obtain ⟨ai,be⟩:=q
 replace ai:=zO ai
 refine CK.forN' (fun k7 x6 σ_ w_=>∃ (U_:PHeap),σ_ 8=jV (↑k7:Int)/\σ_ 3=jV x6/\σ_ 6=.slice aj p0.length ak/\σ_ 7=jV (↑p0.length:Int)/\PHeap.Le U U_/\sW w U U_ [] w_) be ?_ ?_ ?_
 exact ⟨U,Z,Z,Z,Z,(zX _),hS⟩
 rintro k7 x6 br bv bk ah ⟨aR,ae,aU,ap,aq,av,au⟩ bj
 have am:Hid ((↑k7:Int) < (↑p0.length:Int)):=zO (wCt ah)
 replace ah:=zO ah
 have bg:Hid (w64 ((↑k7:Int) + 1)=(↑(k7 + 1):Int)):=zO (by have h1:=ai.out;have h2:=am.out;rw [wBR] <;> omega)
 refine sR fL1 Z (oR Z (zx Z ae aq) (eN (zP (cT Z am (kN (zP (zt (sR fL3 Z (bnK bj fun x28 ar bh=>?_)))))))))
 have aY:=bb.le av
 have q:=aY.el (fun _=>rfl) (wBs ar)
 obtain ⟨bn,bq,aZ,a0⟩:=q
 refine oR Z (Runs.iaN Z ap aZ ae zB zI (wDy ar)) (oL Z (au.ldC (f:=0) a0 (v:=jV x28) Z Z zj Z) (oA Z Z (eN (rR fL4 Z (oM Z aU (oM Z Z (oR Z (zq Z Z Z) (oA Z Z (ZF (ZP (zU (rR fL2 Z (oR Z (Za (zq Z ae Z) (congrArg (jV) bg.out)) (oM Z Z (ZF ?_)))))))))))))))
 cases bh
 exact zU ⟨Z,⟨aR,Z,Z,ap,aq,av,au⟩⟩
 rintro bw bm ⟨aS,aX,aV,bo,aW,bp,ba⟩
 have aT:Hid (¬ ((↑(((↑p0.length:Int):Int) - 0).toNat:Int) < (↑p0.length:Int))):=zO (wCG)
 refine sR fL1 Z (oR Z (zx Z aX aW) (eN (zP (cF Z aT (CK.exit (ZH (ZH (Zb (zU (sR fL2 Z (oM Z aV (oA Z Z (eN (zJ ?_))))))))))))))
 have hE:=nA bi;first | subst r | cases hE
 exact ⟨Z,_,(zh Z),aS,_,ba,Z,Z⟩
theorem wDc (p0:wAM) (aZ:Option Addr) (ba:Nat) (aS:Option Addr) (aT:Nat) (a0:Option Addr) (bb:Nat) (p1:List Int) (bo:Option Addr) (bp:Nat) (w:World) (U:PHeap) (hS:St0 w U []) (cU:Sl U 1 aZ ba p0.Squad.Classes.length (hH KL.encI p0.Squad.Classes)) (cV:SlR U wIT aS aT p0.Squad.Times) (cW:Sl U 1 a0 bb p0.rules.Classes.length (hH KL.encI p0.rules.Classes)) (cX:Sl U 1 bo bp p1.length (hH KL.encI p1)) {r:Int × Bool} (hm:wBL p0 p1=some r):Gv Tryz.prog 78 [.agg #[.slice aZ p0.Squad.Classes.length ba,.slice aS p0.Squad.Times.length aT,.slice a0 p0.rules.Classes.length bb,jV p0.rules.Each,jV p0.rules.Laps,jV p0.rules.Spare,jV p0.rules.Loop,jV p0.rules.Unused],.slice bo p1.length bp] w (wCE w [] U (fun U_ L_ v=>v=.tuple #[jV r.1,.bool r.2]/\L_=[])):=by
 unfold wBL at hm
 refine Gv.of Tryz.func78 Z Tryz.ntmps78 Tryz.results78 Z (sR (.fx 0 gAa .stop) Z ?_)
 let B0:List Value:=[.slice aZ p0.Squad.Classes.length ba,.slice aS p0.Squad.Times.length aT,.slice a0 p0.rules.Classes.length bb,jV p0.rules.Each,jV p0.rules.Laps,jV p0.rules.Spare,jV p0.rules.Loop,jV p0.rules.Unused]
 refine ZG (cs:=B0) rfl rfl rfl rfl rfl rfl (by rfl) hS ?_
 intro W1 b2 bK
 refine oA Z Z (oA Z Z (eN (sR fL3 Z (oL Z (bK.ldBA (j:=0) Z Z Z Tryz.isAgg110 Tryz.sizeOf110 (vs:=B0) Z Z) (oR Z (Runs.mkf Z (zA Z zH) zH) (oA Z Z (eN (sR fL1 Z (oA Z Z (eN (sR (.fx 0 .nil .stop) Z (ZI (cs:=hH KL.encI (Arr.fill 8 0).l) Z Z Z Z Z Tryz.zeroValue228 Z bK ?_))))))))))))
 intro W5 b6 cP
 have cS:sW w U U [.blk b6 228 (hH KL.encI (Arr.fill 8 0).l),.blk b2 110 B0] W5:=cP
 refine eN (zP (sR fL3 Z (oM Z Z (oR Z (zw Z Z zB) (oM Z Z (eN (zt ?_)))))))
 have q:=wFG hm
 obtain ⟨dT,aY⟩:=q
 have q:=wFF aY
 obtain ⟨bn,cZ⟩:=q
 replace bn:=zO bn
 refine CK.forN (fun au (ae,az) σ_ w_=>∃ (U_:PHeap) (aU:Option Addr) (aV:Nat),σ_ 15=jV (↑au:Int)/\σ_ 2=.pointer (some ⟨b2,0,none⟩)/\σ_ 6=.func (.func 80) #[.agg B0.toArray] #[]/\σ_ 7=.slice aU az.length aV/\σ_ 8=.pointer (some ⟨b6,0,none⟩)/\σ_ 13=.slice bo p1.length bp/\σ_ 14=jV (↑p1.length:Int)/\PHeap.Le U U_/\sW w U U_ [.blk b6 228 (hH KL.encI ae.l),.blk b2 110 B0,.row aU aV 3 1 (hH KL.encI az)] w_) cZ ?_ ?_ ?_
 have cN:=cS.nilrow 3 1
 exact ⟨U,none,0,rfl,rfl,rfl,rfl,rfl,rfl,rfl,(zX _),(cN.pick [1,2,0] _ (by decide) rfl)⟩
 rintro au ⟨ae,az⟩ dX dZ dH bm ⟨bz,aU,aV,aX,bh,bD,cm,aW,bE,bF,aR,bk⟩ bO bM
 try dsimp only at bO
 have bC:Hid ((↑au:Int) < (↑p1.length:Int)):=zO (wCt bm)
 replace bm:=zO bm
 have df:Hid (w64 ((↑au:Int) + 1)=(↑(au + 1):Int)):=zO (by have h1:=bn.out;have h2:=bC.out;rw [wBR] <;> omega)
 refine sR fL1 Z (oR Z (zx Z aX bF) (eN (zP (cT Z bC (kN (zP (zt (sR fL5 Z (oM Z aX (bnK bO fun ab bH dp=>?_))))))))))
 have ct:=cX.le aR
 have q:=ct.el (fun _=>rfl) (wBs bH)
 obtain ⟨dJ,dS,cB,cD⟩:=q
 refine oR Z (Runs.iaN Z bE cB aX zB zI (wDy bH)) (oL Z (bk.ldC (f:=0) cD (v:=jV ab) Z Z zj Z) (oA Z Z (oA Z Z (eN (sR (wIb (.fx 5 .nil .stop)) Z (oM Z Z (bnK dp fun _ aj dq=>oR Z (Runs.iaA Z aW Z Tryz.runUnderlying228 zI (wFD aj) (wFE aj)) ?_)))))))
 have da:=Arr.at_ ae (k:=ab.toNat) (by have hz0:=wDF aj;omega)
 refine OKS.m rfl rfl rfl rfl (bk.ldB (j:=0) rfl rfl rfl zj (wCU (sz:=1) (fun _=>rfl) _ _ 0 _ da (by first | omega | rfl | simp) rfl)) rfl (zr rfl rfl rfl rfl (fun _=>zq rfl rfl rfl) (zr rfl rfl rfl rfl (fun _=>Runs.iaA rfl aW rfl Tryz.runUnderlying228 zI (wFD aj) (wFE aj)) ?_))
 have db:=Arr.at_ ae (k:=ab.toNat) (by have hz0:=wDF aj;omega)
 refine ZC (j:=0) (vs:=[jV (w64 ((ae.get ab.toNat) + 1))]) (cs':=hH KL.encI (ae.set ab.toNat (w64 ((ae.get ab.toNat) + 1))).l) rfl rfl rfl rfl bk rfl rfl rfl rfl zI (by have hz0:=wDF aj;simp only [nG,List.length_cons,List.length_nil,wKB (f:=KL.encI) (sz:=1) (N:=8) ae (fun _=>rfl) rfl];omega) rfl (wKA (sz:=1) (fo:=0) (fun _=>rfl) _ _ _ _ db (by first | omega | rfl | simp) (zE rfl) rfl) rfl ?_
 intro bf cO
 let B1:Res:=.row aU aV 3 1 (hH KL.encI az)
 have cQ:sW w U bz [.blk b6 228 (hH KL.encI (ae.set ab.toNat (w64 ((ae.get ab.toNat) + 1))).l),.blk b2 110 B0,B1] bf:=cO
 refine eN (zP (zP (ZT ZQ [3,3,3,2,3,3,3,3,1,3,3,1,3,3] (wFx (.fx 3 (wPp (.nil)) .stop)) (by kernel_rfl) ?_)))
 have bL:=cQ.drew
 generalize hw_W72:({ bf with drawn:=bf.drawn + 1 }:World)=bY at bL ⊢
 refine oM Z bD (oM Z Z (oM Z Z ?_))
 have cu:=cU.le aR
 have bI:=cV.le aR
 have cw:=cW.le aR
 refine bnK dq fun x76 cx dr=>zF 0 Z Z Z Z (zC Z Z Tryz.call80 (zA Z (zA Z zH)) Z) bL (fun hs=>wCZ p0 aZ ba aS aT a0 bb ab (↑au:Int) bY bz hs cu bI cw cx) (.inr Z) ?_
 rintro ar dE dV bZ bP cR ⟨rfl,rfl⟩
 have aq:sW w U ar [.blk b6 228 (hH KL.encI (ae.set ab.toNat (w64 ((ae.get ab.toNat) + 1))).l),.blk b2 110 B0,B1] bZ:=cR
 refine oR Z (ZE Z Z) (oM Z Z (ifc dr ?_ ?_))
 intro ah dt
 refine zf Z Z Z (zR Z Z (nC ah.out)) Z Z (zr Z Z Z (zR Z Z (nC ah.out)) (fun _=>Runs.iaA Z aW Z Tryz.runUnderlying228 zI (wFD aj) (wFE aj)) ?_)
 have de:=Arr.at_ (ae.set ab.toNat (w64 ((ae.get ab.toNat) + 1))) (k:=ab.toNat) (by have hz0:=wDF aj;omega)
 refine OKS.m rfl rfl rfl (zR rfl rfl (nC ah.out)) (aq.ldB (j:=0) rfl rfl rfl zj (wCU (sz:=1) (fun _=>rfl) _ _ 0 _ de (by first | omega | rfl | simp) rfl)) rfl (zr rfl rfl rfl (zR rfl rfl (nC ah.out)) (fun _=>zN rfl bh ZS rfl zS) (zr rfl rfl rfl (zR rfl rfl (nC ah.out)) (fun _=>zN rfl rfl zQ rfl zI) (OKS.m rfl rfl rfl (zR rfl rfl (nC ah.out)) (aq.ldB (j:=1) rfl rfl rfl zj (v:=jV p0.rules.Each) rfl) rfl (zr rfl rfl rfl (zR rfl rfl (nC ah.out)) (fun _=>Runs.gtr rfl rfl rfl) (zr rfl rfl rfl rfl (fun _=>zG rfl (nC ah.out) rfl) (eN (ifc dt ?_ ?_)))))))
 intro bg du
 refine cT Z bg (sR fL2 Z (oA Z Z (oA Z Z (eN (zJ (ze (ZD (ze ?_))))))))
 have q:=wDS du
 obtain ⟨dC,dv,cg⟩:=q
 have q:=wGG hm aY (bM dC cg)
 obtain rfl:=q
 refine ze (ZD (ze ?_))
 cases dv
 exact ⟨rfl,_,(wMn rfl rfl),ar,_,(aq.pick [] _ (by decide) rfl),rfl,rfl⟩
 intro bg dw
 refine cF Z bg (kN (rR (fC0_9 (.fx 10 (.fx 11 (.fl 12 .nil) .stop) .stop)) Z (oM Z cm (oR Z (zN Z bh ZS Z zZ) (oR Z (zN Z Z zK Z ZK) (oL Z (aq.ldB (j:=1) Z Z Z zl (v:=.slice aS p0.Squad.Times.length aT) Z) (oM Z Z (bnK dw fun x95 bi dx=>?_))))))))
 have cy:=bI.le bP
 have q:=cy.el (wBs bi)
 obtain ⟨b8,dA,dW,cz,bj,dy⟩:=q
 obtain ⟨bQ,bR,rfl,cp⟩:=dy
 replace bj:Cl ar b8 (dA + ab.toNat * 1) [.slice bQ x95.length bR]:=bj
 refine oR Z (Runs.iaI Z Z cz Z zL zD (wGx bi) (wIg bi)) (oL Z (aq.ldC (f:=0) bj (v:=.slice bQ x95.length bR) Z Z zd Z) (oM Z Z (bnK dx fun av bG dg=>?_)))
 have q:=cp.el (fun _=>rfl) (wBs bG)
 obtain ⟨dI,dR,cA,cC⟩:=q
 refine oR Z (Runs.iaN Z Z cA Z zB zI (wDy bG)) (oL Z (aq.ldC (f:=0) cC (v:=jV av) Z Z zj Z) (zM (pv:=[(0,jV av)]) (zs:=[jV 0]) (cs:=[jV av]) Z Z Z Z Z (wAH Z wAR) zB zI zn Z Z Z Z Z aq ?_))
 intro bU b5 cE
 let B2:Res:=.row (some ⟨b5,0,none⟩) 1 3 1 (hH KL.encI [av])
 have bJ:sW w U ar [B2,.blk b6 228 (hH KL.encI (ae.set ab.toNat (w64 ((ae.get ab.toNat) + 1))).l),.blk b2 110 B0,B1] bU:=cE
 refine bnK dg fun x120 cq dh=>zu (j:=3) (enc:=KL.encI) (xs:=az) (ys:=[av]) (zs:=x120) rfl rfl rfl rfl rfl zk wDX rfl rfl rfl rfl rfl rfl bJ rfl rfl rfl (bJ.srcR (j:=0) rfl (by decide) (wAJ (f:=KL.encI) (sz:=1) (fun _=>rfl) [av])) (fun _=>rfl) (fun _=>rfl) cq rfl ?_
 intro br bB bV cG
 have cH:sW w U ar [B2,.blk b6 228 (hH KL.encI (ae.set ab.toNat (w64 ((ae.get ab.toNat) + 1))).l),.blk b2 110 B0,.row br bB 3 1 (hH KL.encI x120)] bV:=cG
 refine oA Z Z (ZF (ZP (zU (rR fL2 Z (oR Z (Za (zq Z aX Z) (congrArg (jV) df.out)) (oM Z Z (ZF ?_)))))))
 have q:=nA dh
 obtain rfl:=q
 exact zU ⟨rfl,_,rfl,⟨ar,br,bB,rfl,bh,bD,rfl,aW,bE,bF,(aR.trans bP),(cH.pick [1,2,3] _ (by decide) rfl)⟩⟩
 intro ah dk
 refine zY Z Z Z (zV Z Z (nF (ah.out)) Z) (zY Z Z Z (zV Z Z (nF (ah.out)) Z) (zY Z Z Z (zV Z Z (nF (ah.out)) Z) (zY Z Z Z (zV Z Z (nF (ah.out)) Z) (zY Z Z Z (zV Z Z (nF (ah.out)) Z) (zY Z Z Z (zV Z Z (nF (ah.out)) Z) (zY Z Z Z (zV Z Z (nF (ah.out)) Z) (oR Z (zW Z (nF (ah.out)) Z) (eN (ZL Z (sR fL2 Z (oA Z Z (oA Z Z (eN (zJ (ze (ZD (ze ?_)))))))))))))))))
 have q:=wDS dk
 obtain ⟨dB,dl,cf⟩:=q
 have q:=wGG hm aY (bM dB cf)
 obtain rfl:=q
 refine ze (ZD (ze ?_))
 cases dl
 exact ⟨rfl,_,(wMn rfl rfl),ar,_,(aq.pick [] _ (by decide) rfl),rfl,rfl⟩
 rintro ⟨bS,bq⟩ dY bA ⟨dF,bT,b9,cn,dK,dL,ci,dM,dN,cj,dO,cI⟩ cY
 have bN:=wGy hm aY cY
 try dsimp only at bN
 have cd:Hid (¬ ((↑(((↑p1.length:Int):Int) - 0).toNat:Int) < (↑p1.length:Int))):=zO (wCG)
 refine sR fL1 Z (oR Z (zx Z cn cj) (eN (zP (cF Z cd (CK.exit (ZH (ZH (Zb (zU (sR (.fl 0 (.fx 1 gAb .stop)) Z (oM Z ci ?_)))))))))))
 have q:=cI.freezeR (k:=2) (n:=bq.length) rfl (wAJ (f:=KL.encI) (sz:=1) (fun _=>rfl) bq) (by decide)
 obtain ⟨bv,dP,dz,cJ⟩:=q
 have cK:sW w U bv [.blk b6 228 (hH KL.encI bS.l),.blk b2 110 B0] bA:=cJ
 refine bnK bN fun x160 cr dm=>zF 0 Z Z Z Z (zC Z Z Tryz.call93 (zA Z zH) Z) cK (fun hs=>wIU bq bT b9 bA bv hs dz cr) (.inr Z) ?_
 rintro bw dD dU bW dQ cL ⟨rfl,rfl⟩
 have cM:sW w U bw [.blk b6 228 (hH KL.encI bS.l),.blk b2 110 B0] bW:=cL
 refine oA Z Z (oA Z Z (eN (zJ ?_)))
 cases dm
 exact ⟨rfl,_,(wMn rfl rfl),bw,_,(cM.pick [] _ (by decide) rfl),rfl,rfl⟩
theorem wAi (p0:List Int) (ae:Option Addr) (aq:Nat) (w:World) (U:PHeap) (hS:St0 w U []) (ap:Sl U 1 ae aq p0.length (hH KL.encI p0)) {r:(List Int)} (hm:wAQ p0=some r):Gv Tryz.prog 79 [.slice ae p0.length aq] w (wCE w [] U (fun U_ L_ v=>∃ (A0:Option Addr) (c0:Nat),v=.slice A0 r.length c0/\L_=[.row A0 c0 3 1 (hH KL.encI r)])):=by
 unfold wAQ at hm
 refine Gv.of Tryz.func79 Z Tryz.ntmps79 Tryz.results79 Z (sR fL1 Z (oA Z Z (eN (zP (sR fL2 Z (oM Z Z (oR Z (Runs.eqNil Z Z Z zB) (eN ?_))))))))
 by_cases c1:ae.isNone=true
 replace c1:=zO c1
 have aY:p0=[]:=List.eq_nil_of_length_eq_zero (Sl.nilA (Option.isNone_iff_eq_none.1 c1.out ▸ ap))
 have aX:(some [])=some r:=by simpa [aY,app] using hm
 refine ZL (congrArg nB c1.out) (sR fL1 Z (oA Z Z (eN (zJ (ze ?_)))))
 have aU:=hS.nilrow 3 1
 cases aX
 exact ⟨Z,_,(zh Z),U,_,aU,none,0,Z,Z⟩
 replace c1:=zO c1
 refine ZM (congrArg nB (nD.2 c1.out)) (kN (sR (.fx 0 gAn .stop) Z (OKS.buildSlice0 1 Z Z Z Z Z zB zI hS ?_)))
 intro W6 b7 aV
 have am:sW w U U [.row (some ⟨b7,0,none⟩) 0 3 1 (hH KL.encI ([]:List Int))] W6:=aV
 refine oM Z Z (bnK hm fun ar aR aW=>zu (j:=0) (enc:=KL.encI) (xs:=([]:List Int)) (ys:=p0) (zs:=ar) Z Z Z Z Z zk wDX Z Z Z Z Z Z am Z Z Z (am.srcS ap) (fun _=>Z) (fun _=>Z) aR Z ?_)
 intro ai ak au aS
 have aT:sW w U U [.row ai ak 3 1 (hH KL.encI ar)] au:=aS
 refine oA Z Z (eN (zJ ?_))
 have hE:=nA aW;first | subst r | cases hE
 exact ⟨Z,_,(zh Z),U,_,aT,ai,ak,Z,Z⟩
theorem wDQ (n_:Nat):∀ (p0:List Int) (ai:Option Addr) (ak:Nat) (p1:wAM) (am:Nat) (bp:Option Addr) (br:Nat) (bB:Option Addr) (bC:Nat) (bq:Option Addr) (bu:Nat) (p2:List Int) (ah:Nat) (aX:Option Addr) (ba:Nat) (p3:Int) (aj:Nat) (p4:Int) (ap:Nat) (p5:Unit) (aq:Nat) (w:World) (U:PHeap) (hS:St0 w U [.blk ah 23 [.slice aX p2.length ba],.row aX ba 3 1 (hH KL.encI p2),.blk aj 3 [jV p3]]) (bz:Sl U 1 ai ak p0.length (hH KL.encI p0)) (bY:Cl U am 0 [.slice bp p1.Squad.Classes.length br,.slice bB p1.Squad.Times.length bC,.slice bq p1.rules.Classes.length bu,jV p1.rules.Each,jV p1.rules.Laps,jV p1.rules.Spare,jV p1.rules.Loop,jV p1.rules.Unused]) (dh:Sl U 1 bp br p1.Squad.Classes.length (hH KL.encI p1.Squad.Classes)) (dk:SlR U wIT bB bC p1.Squad.Times) (dl:Sl U 1 bq bu p1.rules.Classes.length (hH KL.encI p1.rules.Classes)) (bZ:p2=[]->aX=none) (eI:Cl U ap 0 [jV p4]) (bE:Cl U aq 0 [.func (.func 77) #[] #[.pointer (some ⟨am,0,none⟩),.pointer (some ⟨ah,0,none⟩),.pointer (some ⟨aj,0,none⟩),.pointer (some ⟨ap,0,none⟩),.pointer (some ⟨aq,0,none⟩)]]) {r:(List Int) × Int} (hm:wAc n_ p0 p1 p2 p3 p4 p5=some r),Gv Tryz.prog 77 [.slice ai p0.length ak,.pointer (some ⟨am,0,none⟩),.pointer (some ⟨ah,0,none⟩),.pointer (some ⟨aj,0,none⟩),.pointer (some ⟨ap,0,none⟩),.pointer (some ⟨aq,0,none⟩)] w (wCE w [.blk ah 23 [.slice aX p2.length ba],.row aX ba 3 1 (hH KL.encI p2),.blk aj 3 [jV p3]] U (fun U_ L_ v=>∃ (cD:Option Addr) (dW:Nat),v=.tuple #[]/\L_=[.row cD dW 3 1 (hH KL.encI r.1),.blk ah 23 [.slice cD r.1.length dW],.blk aj 3 [jV r.2]]/\(r.1=[]->cD=none))):=by
 induction n_ with
 | zero =>
  intros
  rename_i hm
  have lg:(none:Option ((List Int) × Int))=some _:=hm
  cases lg
 | succ n_ ih =>
  intro p0 ai ak p1 am bp br bB bC bq bu p2 ah aX ba p3 aj p4 ap p5 aq w U hS bz bY dh dk dl bZ eI bE r hm
  have hm:wAV (wAc n_) p0 p1 p2 p3 p4 p5=some r:=hm
  unfold wAV at hm
  refine Gv.of Tryz.func77 Z Tryz.ntmps77 Tryz.results77 Z (zP (sR fL7 Z (oM Z Z (oR Z (zw Z Z zB) (oR Z (zN Z Z ZS Z zS) (oR Z (zN Z Z zQ Z zD) (oL Z (hS.ldC (f:=2) bY (v:=.slice bq p1.rules.Classes.length bu) Z Z zd Z) (oR Z (zw Z Z zB) (oR Z (ZO Z Z Z) (eN ?_))))))))))
  by_cases c4:(↑p0.length:Int)=(↑p1.rules.Classes.length:Int)
  ·have eM:=hm;rw [if_pos c4] at eM;replace c4:=zO c4
   refine cT Z c4 (zP (sR (.fl 0 (.fl 1 (.fx 2 (wPn (.nil)) .stop))) Z (oL Z (hS.ldCA (f:=0) bY Z Z Tryz.isAgg110 Tryz.sizeOf110 (us:=[.slice bp p1.Squad.Classes.length br,.slice bB p1.Squad.Times.length bC,.slice bq p1.rules.Classes.length bu,jV p1.rules.Each,jV p1.rules.Laps,jV p1.rules.Spare,jV p1.rules.Loop,jV p1.rules.Unused]) Z Z) (oM Z Z ?_))))
   have q:=bnd eM
   obtain ⟨⟨x6,x7⟩,h8,eP⟩:=q
   try dsimp only at eP
   refine zF 0 Z Z Z Z (zC Z Z Tryz.call78 (zA Z (zA Z zH)) Z) hS (fun hs=>wDc p1 bp br bB bC bq bu p0 ai ak w U hs dh dk dl bz h8) (.inr Z) ?_
   rintro bS lL mj cM eW jm ⟨rfl,rfl⟩
   let B0:Res:=.row aX ba 3 1 (hH KL.encI p2)
   let B1:Res:=.blk ah 23 [.slice aX p2.length ba]
   let B2:Res:=.blk aj 3 [jV p3]
   have bD:SW w [B1,B0,B2] U bS [B1,B0,B2] cM:=jm
   refine oM Z Z (oR Z (zy Z Z (v:=jV x6) Z) (oR Z (zy Z Z (v:=.bool x7) Z) (oA Z Z (oA Z Z (eN (sR fL10 Z (oM Z Z (oM Z Z (ifc eP ?_ ?_)))))))))
   ·intro a0 lj
    refine OKS.m Z Z Z (zR Z Z (congrArg nB a0.out)) (bD.ldB (j:=0) Z Z Z zd (v:=.slice aX p2.length ba) Z) Z ?_
    have ik:aX.isNone=decide (p2=[]):=wHl (j:=1) bD rfl (fun _=>rfl) (by decide) bZ
    refine zr Z Z Z (zR Z Z (congrArg nB a0.out)) (fun _=>Runs.eqNilR Z Z Z zB ik) (zf Z Z Z (zR Z Z (congrArg nB a0.out)) Z Z (ifc lj ?_ ?_))
    ·intro bk ln
     refine oT Z bk (oT Z bk (oT Z bk (zr Z Z Z (zR Z Z (congrArg nB a0.out)) (fun _=>zW Z (wDu bk.out) Z) (oR Z (zW Z (congrArg nB a0.out) Z) (eN (ZL Z (rR gAv Z (oM Z Z ?_))))))))
     have im:=bz.le eW
     refine bnK ln fun fb io lq=>zF 0 Z Z Z Z (zC Z Z Tryz.call79 (zA Z zH) Z) bD (fun hs=>wAi p0 ai ak cM bS hs im io) (.inr Z) ?_
     rintro cg lN mn fj mg jo ⟨cw,cR,rfl,rfl⟩
     let B3:Res:=.row cw cR 3 1 (hH KL.encI fb)
     have jp:SW w [B1,B0,B2] U cg [B3,B1,B0,B2] fj:=jo
     refine oM Z Z (bnK lq fun mw ip ls=>?_)
     let B4:List Value:=[.slice cw fb.length cR]
     refine ZC (j:=1) (vs:=B4) Z Z Z Z jp Z Z Z Z zD (zE Z) Z Z Z ?_
     intro fm jq
     have jr:SW w [B1,B0,B2] U cg [B3,.blk ah 23 B4,B0,B2] fm:=jq
     refine ZC (j:=3) (vs:=[jV x6]) Z Z Z Z jr Z Z Z Z zI (zE Z) Z Z Z ?_
     intro fq ju
     have jv:SW w [B1,B0,B2] U cg [B3,.blk ah 23 B4,B0,.blk aj 3 [jV x6]] fq:=ju
     refine eN (zJ (ze ?_))
     cases ls
     exact ⟨rfl,_,(wOi),cg,_,(jv.pick [0,1,3] _ (by decide) rfl),cw,cR,rfl,rfl,(fun h=>absurd h (wIh ip))⟩
    ·intro bk lu
     refine zf Z Z Z (wF Z bk) Z Z (OKS.m Z Z Z (wF Z bk) (bD.ldB (j:=2) Z Z Z zj (v:=jV p3) Z) Z (rU Z (wF Z bk) (zx Z Z Z) (zr Z Z Z (zR Z Z (congrArg nB a0.out)) (fun _=>zG Z (zz bk.out) Z) (oR Z (zW Z (congrArg nB a0.out) Z) (eN (ifc lu ?_ ?_))))))
     ·intro cV lv
      refine cT Z cV (rR gAv Z (oM Z Z ?_))
      have iA:=bz.le eW
      refine bnK lv fun x49 iN lw=>zF 0 Z Z Z Z (zC Z Z Tryz.call79 (zA Z zH) Z) bD (fun hs=>wAi p0 ai ak cM bS hs iA iN) (.inr Z) ?_
      rintro ci lP mp fu mh jE ⟨cB,cY,rfl,rfl⟩
      let B5:Res:=.row cB cY 3 1 (hH KL.encI x49)
      have jJ:SW w [B1,B0,B2] U ci [B5,B1,B0,B2] fu:=jE
      refine oM Z Z (bnK lw fun my iY lx=>?_)
      let B6:List Value:=[.slice cB x49.length cY]
      refine ZC (j:=1) (vs:=B6) Z Z Z Z jJ Z Z Z Z zD (zE Z) Z Z Z ?_
      intro fB jO
      have jQ:SW w [B1,B0,B2] U ci [B5,.blk ah 23 B6,B0,B2] fB:=jO
      refine ZC (j:=3) (vs:=[jV x6]) Z Z Z Z jQ Z Z Z Z zI (zE Z) Z Z Z ?_
      intro fD jW
      have jZ:SW w [B1,B0,B2] U ci [B5,.blk ah 23 B6,B0,.blk aj 3 [jV x6]] fD:=jW
      refine eN (zJ (ze ?_))
      cases lx
      exact ⟨rfl,_,(wOi),ci,_,(jZ.pick [0,1,3] _ (by decide) rfl),cB,cY,rfl,rfl,(fun h=>absurd h (wIh iY))⟩
     ·intro cV ly
      refine cF Z cV (kN (zJ (ze ?_)))
      cases ly
      exact ⟨rfl,_,(wOi),bS,_,(bD.pick [1,0,2] _ (by decide) rfl),aX,ba,rfl,rfl,bZ⟩
   ·intro a0 lz
    refine zY Z Z Z (zV Z Z (congrArg nB (nD.2 a0.out)) Z) (zY Z Z Z (zV Z Z (congrArg nB (nD.2 a0.out)) Z) (zY Z Z Z (zV Z Z (congrArg nB (nD.2 a0.out)) Z) (zY Z Z Z (wAU Z Z Z) (zY Z Z Z (wAU Z Z Z) (zY Z Z Z (wAU Z Z Z) (zY Z Z Z (zV Z Z (congrArg nB (nD.2 a0.out)) Z) (oR Z (zG Z (congrArg nB (nD.2 a0.out)) Z) (eN (ZM Z (kN (zJ (ze ?_))))))))))))
    cases lz
    exact ⟨rfl,_,(wOi),bS,_,(bD.pick [1,0,2] _ (by decide) rfl),aX,ba,rfl,rfl,bZ⟩
  ·have eO:=hm;rw [if_neg c4] at eO;replace c4:=zO c4
   refine cF Z c4 (kN (sR fL5 Z (oR Z (zN Z Z ZS Z zZ) (oR Z (zN Z Z zK Z zD) (oL Z (hS.ldC (f:=0) bY (v:=.slice bp p1.Squad.Classes.length br) Z Z zd Z) (oR Z (zw Z Z zB) (oM Z Z (eN (zt ?_)))))))))
   have q:=bnd eO
   obtain ⟨⟨mA,mB⟩,k9,eQ⟩:=q
   try dsimp only at eQ
   have q:=wCm k9
   obtain ⟨dq,lc⟩:=q
   replace dq:=zO dq
   let B7:Res:=.row aX ba 3 1 (hH KL.encI p2)
   let B8:Res:=.blk ah 23 [.slice aX p2.length ba]
   let B9:Res:=.blk aj 3 [jV p3]
   refine CK.forN' (fun aa (bF,x91) σ_ w_=>∃ (U_:PHeap) (bj:Option Addr) (bw:Nat),σ_ 40=jV (↑aa:Int)/\σ_ 0=.slice ai p0.length ak/\σ_ 1=.pointer (some ⟨am,0,none⟩)/\σ_ 4=.pointer (some ⟨ap,0,none⟩)/\σ_ 5=.pointer (some ⟨aq,0,none⟩)/\σ_ 39=jV (↑p1.Squad.Classes.length:Int)/\PHeap.Le U U_/\SW w [B8,B7,B9] U U_ [.row bj bw 3 1 (hH KL.encI bF),.blk ah 23 [.slice bj bF.length bw],.blk aj 3 [jV x91]] w_/\(bF=[]->bj=none)) lc ?_ ?_ ?_
   ·exact ⟨U,aX,ba,rfl,rfl,rfl,rfl,rfl,rfl,(zX _),(hS.pick [1,0,2] _ (by decide) rfl),bZ⟩
   ·rintro aa ⟨bF,x91⟩ mz mK fh dp ⟨dE,bj,bw,bi,bh,bm,bn,bf,bo,aU,ct,de⟩ dr
    try dsimp only at dr
    have dQ:Hid ((↑aa:Int) < (↑p1.Squad.Classes.length:Int)):=zO (wCt dp)
    replace dp:=zO dp
    have dm:Hid (w64 ((↑aa:Int) + 1)=(↑(aa + 1):Int)):=zO (by have h1:=dq.out;have h2:=dQ.out;rw [wBR] <;> omega)
    refine sR fL1 Z (oR Z (zx Z bi bo) (eN (zP (cT Z dQ (kN (zP (zt (sR fL2 Z (oM Z bi (oA Z Z (eN (sR (fC0_7 gAk) Z (oM Z Z ?_)))))))))))))
    have ey:=eI.le aU
    refine oL Z (ct.ldC (f:=0) ey (v:=jV p4) Z bn zj Z) (oR Z (Runs.neq Z Z Z) (oM Z Z ?_))
    by_cases aT:(↑aa:Int)=p4
    ·have eJ:=dr;rw [if_pos aT] at eJ;replace aT:=zO aT
     refine zY Z Z Z (zV Z Z (zz (fun h=>h aT.out)) Z) (zY Z Z Z (zV Z Z (zz (fun h=>h aT.out)) Z) (zY Z Z Z (zV Z Z (zz (fun h=>h aT.out)) Z) (zY Z Z Z (zV Z Z (zz (fun h=>h aT.out)) Z) (ZN Z Z Z (zV Z Z (zz (fun h=>h aT.out)) Z) (oR Z (zG Z (zz (fun h=>h aT.out)) Z) (eN (ZM Z (CK.skip (ZP (zU (rR fL2 Z (oR Z (Za (zq Z bi Z) (congrArg (jV) dm.out)) (oM Z Z (ZF ?_))))))))))))))
     cases eJ
     exact zU ⟨Z,⟨dE,bj,bw,Z,bh,bm,bn,bf,bo,aU,ct,de⟩⟩
    ·have eK:=dr;rw [if_neg aT] at eK;replace aT:=zO aT
     have ez:=bY.le aU
     refine OKS.m Z Z Z (wT Z aT) (ct.ldCA (f:=0) ez Z bm Tryz.isAgg110 Tryz.sizeOf110 (us:=[.slice bp p1.Squad.Classes.length br,.slice bB p1.Squad.Times.length bC,.slice bq p1.rules.Classes.length bu,jV p1.rules.Each,jV p1.rules.Laps,jV p1.rules.Spare,jV p1.rules.Loop,jV p1.rules.Unused]) Z Z) Z (zf Z Z Z (wT Z aT) Z Z (zf Z Z Z (wT Z aT) Z bh (rU Z (wT Z aT) (zw Z Z zB) ?_)))
     have eA:=dh.le aU
     have eC:=dk.le aU
     have eD:=dl.le aU
     refine bnK eK fun x129 ij lh=>zF 0 Z Z Z (wT Z aT) (zC Z Z Tryz.call80 (zA Z (zA Z (zA Z zH))) Z) ct (fun hs=>wCZ p1 bp br bB bC bq bu (↑aa:Int) (↑p0.length:Int) fh dE hs eA eC eD ij) (.inr Z) ?_
     rintro aW lM ml cN aV jl ⟨rfl,rfl⟩
     let az:Res:=.row bj bw 3 1 (hH KL.encI bF)
     let aR:Res:=.blk ah 23 [.slice bj bF.length bw]
     let aS:Res:=.blk aj 3 [jV x91]
     have eF:SW w [B8,B7,B9] U aW [az,aR,aS] cN:=jl
     refine oR Z (zW Z (wDu aT.out) Z) (eN (ifc lh ?_ ?_))
     ·intro cQ li
      refine ZL (congrArg nB cQ.out) (bnK li fun bb cr lm=>bnK lm fun x163 eE lp=>?_)
      have q:=bnd lp
      obtain ⟨⟨b5,e9⟩,il,eL⟩:=q
      try dsimp only at eL
      refine ZT ZQ [2,3,2,3,2,0,0] (.fl 1 (.fl 3 (.fx 0 (.fx 2 gAq (.fx 4 gAr .stop)) (.fx 2 (.fx 0 gAq (.fx 4 gAt .stop)) (.fx 4 (.fx 0 gAr (.fx 2 gAt .stop)) .stop))))) (by kernel_rfl) ?_
      have bL:=eF.drew
      generalize hw_W213:({ cN with drawn:=cN.drawn + 1 }:World)=dL at bL ⊢
      refine zi (s:=.nil) (M:=fun σ_ w_=>∃ (U_:PHeap) (bM:Option Addr) (cm:Nat) (cx:Option Addr) (cS:Nat) (cy:Option Addr) (cU:Nat),σ_ 0=.slice ai p0.length ak/\σ_ 1=.pointer (some ⟨am,0,none⟩)/\σ_ 4=.pointer (some ⟨ap,0,none⟩)/\σ_ 5=.pointer (some ⟨aq,0,none⟩)/\σ_ 9=jV (↑aa:Int)/\σ_ 39=jV (↑p1.Squad.Classes.length:Int)/\σ_ 40=jV (↑aa:Int)/\σ_ 53=.func (.func 77) #[] #[.pointer (some ⟨am,0,none⟩),.pointer (some ⟨ah,0,none⟩),.pointer (some ⟨aj,0,none⟩),.pointer (some ⟨ap,0,none⟩),.pointer (some ⟨aq,0,none⟩)]/\σ_ 54=.slice ai p0.length ak/\σ_ 56=jV (↑aa:Int)/\σ_ 57=.slice cx ([(↑aa:Int)].length) cS/\σ_ 58=.slice cy x163.length cU/\σ_ 59=.tuple #[]/\PHeap.Le aW U_/\SW w [B8,B7,B9] U U_ [.row bM cm 3 1 (hH KL.encI b5),.blk ah 23 [.slice bM b5.length cm],.blk aj 3 [jV e9],.row cx cS 3 1 (hH KL.encI [(↑aa:Int)])] w_/\(b5=[]->bM=none)/\Sl U_ 1 cy cU x163.length (hH KL.encI x163)) ?_ fun lB=>?_
      ·rintro mC lV ⟨fd,bM,cm,cx,cS,cy,cU,fN,fO,fP,fQ,l4,fR,fS,l5,l6,l7,l8,l9,ma,lE,jt,iq,mf⟩
       refine ZF (ZP (zU (rR fL2 Z (oR Z (Za (zq Z fS Z) (congrArg (jV) dm.out)) (oM Z Z (ZF ?_))))))
       cases eL
       exact zU ⟨rfl,⟨fd,bM,cm,rfl,fN,fO,fP,fQ,fR,((aU.trans aV).trans lE),(jt.pick [0,1,2] _ (by decide) rfl),iq⟩⟩
      refine zi (s:=.fx 6 .nil .stop) (M:=fun σ_ w_=>∃ (U_:PHeap) (bN:Option Addr) (bT:Nat) (bO:Option Addr) (bU:Nat),σ_ 0=.slice ai p0.length ak/\σ_ 1=.pointer (some ⟨am,0,none⟩)/\σ_ 4=.pointer (some ⟨ap,0,none⟩)/\σ_ 5=.pointer (some ⟨aq,0,none⟩)/\σ_ 9=jV (↑aa:Int)/\σ_ 39=jV (↑p1.Squad.Classes.length:Int)/\σ_ 40=jV (↑aa:Int)/\σ_ 53=.func (.func 77) #[] #[.pointer (some ⟨am,0,none⟩),.pointer (some ⟨ah,0,none⟩),.pointer (some ⟨aj,0,none⟩),.pointer (some ⟨ap,0,none⟩),.pointer (some ⟨aq,0,none⟩)]/\σ_ 54=.slice ai p0.length ak/\σ_ 56=jV (↑aa:Int)/\σ_ 57=.slice bN ([(↑aa:Int)].length) bT/\σ_ 58=.slice bO x163.length bU/\PHeap.Le aW U_/\SW w [B8,B7,B9] U U_ [az,aR,aS,.row bN bT 3 1 (hH KL.encI [(↑aa:Int)]),.row bO bU 3 1 (hH KL.encI x163)] w_) ?_ fun eS=>?_
      ·rintro mD cO ⟨lU,bN,bT,bO,bU,fT,fU,fV,fW,fY,fZ,gb,dX,gc,ge,gf,dY,bG,jw⟩
       have q:=jw.freezeR (k:=4) (n:=x163.length) rfl (wAJ (f:=KL.encI) (sz:=1) (fun _=>rfl) x163) (by decide)
       obtain ⟨cK,bH,eR,jx⟩:=q
       let cE:Res:=.row bN bT 3 1 (hH KL.encI [(↑aa:Int)])
       have jy:SW w [B8,B7,B9] U cK [az,aR,aS,cE] cO:=jx
       have ir:=ez.le aV
       have it:=ir.le bG
       have iu:=it.le bH
       have iv:=eA.le aV
       have iw:=iv.le bG
       have iy:=iw.le bH
       have iz:=eC.le aV
       have iB:=iz.le bG
       have iC:=iB.le bH
       have iD:=eD.le aV
       have iE:=iD.le bG
       have iF:=iE.le bH
       have iG:=ey.le aV
       have iH:=iG.le bG
       have iI:=iH.le bH
       have iJ:=bE.le aU
       have iK:=iJ.le aV
       have iL:=iK.le bG
       have iM:=iL.le bH
       have jz:SW w [B8,B7,B9] U cK [aR,az,aS,cE] cO:=jy.pick [1,0,2,3] _ (by decide) rfl
       refine zF 3 Z Z Z Z (zC Z dX Tryz.call77 (zA dY zH) Z) jz (fun hs=>ih x163 bO bU p1 am bp br bB bC bq bu bF ah bj bw x91 aj p4 ap () aq cO cK hs eR iu iy iC iF de iI iM il) (.inl Z) ?_
       rintro dF lO mo ft eX jA ⟨cz,cW,rfl,rfl,iO⟩
       have jB:SW w [B8,B7,B9] U dF [.row cz cW 3 1 (hH KL.encI b5),.blk ah 23 [.slice cz b5.length cW],.blk aj 3 [jV e9],cE] ft:=jA
       have iP:=eR.le eX
       exact lB _ _ ⟨dF,cz,cW,bN,bT,bO,bU,fT,fU,fV,fW,fY,fZ,gb,dX,gc,ge,gf,dY,Z,((bG.trans bH).trans eX),jB,iO,iP⟩
      refine zi (s:=gAm) (M:=fun σ_ w_=>∃ (U_:PHeap) (b9:Option Addr) (cn:Nat) (cd:Option Addr) (cp:Nat),σ_ 0=.slice ai p0.length ak/\σ_ 1=.pointer (some ⟨am,0,none⟩)/\σ_ 4=.pointer (some ⟨ap,0,none⟩)/\σ_ 5=.pointer (some ⟨aq,0,none⟩)/\σ_ 9=jV (↑aa:Int)/\σ_ 39=jV (↑p1.Squad.Classes.length:Int)/\σ_ 40=jV (↑aa:Int)/\σ_ 54=.slice ai p0.length ak/\σ_ 56=jV (↑aa:Int)/\σ_ 57=.slice b9 ([(↑aa:Int)].length) cn/\σ_ 58=.slice cd x163.length cp/\PHeap.Le aW U_/\SW w [B8,B7,B9] U U_ [az,aR,aS,.row b9 cn 3 1 (hH KL.encI [(↑aa:Int)]),.row cd cp 3 1 (hH KL.encI x163)] w_) ?_ fun lD=>?_
      ·rintro mE lW ⟨fe,b9,cn,cd,cp,gg,gh,gk,dZ,gm,gp,gq,gt,gu,gv,gw,eY,eG⟩
       have iQ:=bE.le aU
       have iR:=iQ.le aV
       have iT:=iR.le eY
       exact ZJ Z Z Z Z (eG.ldC (f:=0) iT (v:=.func (.func 77) #[] #[.pointer (some ⟨am,0,none⟩),.pointer (some ⟨ah,0,none⟩),.pointer (some ⟨aj,0,none⟩),.pointer (some ⟨ap,0,none⟩),.pointer (some ⟨aq,0,none⟩)]) Z dZ Tryz.isAgg171 Z) (eS _ _ ⟨fe,b9,cn,cd,cp,gg,gh,gk,dZ,gm,gp,gq,Z,gt,gu,gv,gw,eY,eG⟩)
      refine zi (s:=gAl) (M:=fun σ_ w_=>∃ (U_:PHeap) (cA:Option Addr) (cX:Nat) (bP:Option Addr) (bV:Nat),σ_ 0=.slice ai p0.length ak/\σ_ 1=.pointer (some ⟨am,0,none⟩)/\σ_ 4=.pointer (some ⟨ap,0,none⟩)/\σ_ 5=.pointer (some ⟨aq,0,none⟩)/\σ_ 9=jV (↑aa:Int)/\σ_ 39=jV (↑p1.Squad.Classes.length:Int)/\σ_ 40=jV (↑aa:Int)/\σ_ 53=.func (.func 77) #[] #[.pointer (some ⟨am,0,none⟩),.pointer (some ⟨ah,0,none⟩),.pointer (some ⟨aj,0,none⟩),.pointer (some ⟨ap,0,none⟩),.pointer (some ⟨aq,0,none⟩)]/\σ_ 54=.slice ai p0.length ak/\σ_ 55=.slice cA bb.length cX/\σ_ 56=jV (↑aa:Int)/\σ_ 57=.slice bP ([(↑aa:Int)].length) bV/\PHeap.Le aW U_/\SW w [B8,B7,B9] U U_ [az,aR,aS,.row cA cX 3 1 (hH KL.encI bb),.row bP bV 3 1 (hH KL.encI [(↑aa:Int)])] w_) ?_ fun dt=>?_
      ·rintro mF lX ⟨dG,cA,cX,bP,bV,gx,gy,gz,gA,gB,gC,gD,gE,gF,gG,gH,d7,lF,eH⟩
       refine zu (j:=3) (enc:=KL.encI) (xs:=bb) (ys:=[(↑aa:Int)]) (zs:=x163) rfl rfl rfl rfl rfl zk wDX rfl rfl rfl rfl rfl rfl eH rfl gG d7 (eH.srcR (j:=4) rfl (by decide) (wAJ (f:=KL.encI) (sz:=1) (fun _=>rfl) [(↑aa:Int)])) (fun _=>rfl) (fun _=>rfl) eE rfl ?_
       intro dx dR fw jC
       have jD:SW w [B8,B7,B9] U dG [az,aR,aS,.row dx dR 3 1 (hH KL.encI x163),.row bP bV 3 1 (hH KL.encI [(↑aa:Int)])] fw:=jC
       exact eS _ _ ⟨dG,bP,bV,dx,dR,gx,gy,gz,gA,gB,gC,gD,gE,gF,gH,d7,rfl,lF,(jD.pick [0,1,2,4,3] _ (by decide) rfl)⟩
      refine zi (s:=gAt) (M:=fun σ_ w_=>∃ (U_:PHeap) (cf:Option Addr) (cq:Nat) (bJ:Option Addr) (bK:Nat),σ_ 0=.slice ai p0.length ak/\σ_ 1=.pointer (some ⟨am,0,none⟩)/\σ_ 4=.pointer (some ⟨ap,0,none⟩)/\σ_ 5=.pointer (some ⟨aq,0,none⟩)/\σ_ 9=jV (↑aa:Int)/\σ_ 39=jV (↑p1.Squad.Classes.length:Int)/\σ_ 40=jV (↑aa:Int)/\σ_ 54=.slice ai p0.length ak/\σ_ 55=.slice cf bb.length cq/\σ_ 56=jV (↑aa:Int)/\σ_ 57=.slice bJ ([(↑aa:Int)].length) bK/\PHeap.Le aW U_/\SW w [B8,B7,B9] U U_ [az,aR,aS,.row cf cq 3 1 (hH KL.encI bb),.row bJ bK 3 1 (hH KL.encI [(↑aa:Int)])] w_) ?_ fun eT=>?_
      ·rintro mG lY ⟨cL,cf,cq,bJ,bK,d8,d9,eb,da,ec,ed,ef,eh,ei,ej,db,du,cu⟩
       refine zm ?_ ?_
       ·have iU:=bE.le aU
        have iV:=iU.le aV
        have iW:=iV.le du
        exact ZJ Z Z Z Z (cu.ldC (f:=0) iW (v:=.func (.func 77) #[] #[.pointer (some ⟨am,0,none⟩),.pointer (some ⟨ah,0,none⟩),.pointer (some ⟨aj,0,none⟩),.pointer (some ⟨ap,0,none⟩),.pointer (some ⟨aq,0,none⟩)]) Z da Tryz.isAgg171 Z) (dt _ _ ⟨cL,cf,cq,bJ,bK,d8,d9,eb,da,ec,ed,ef,Z,eh,ei,ej,db,du,cu⟩)
       ·refine zu (j:=3) (enc:=KL.encI) (xs:=bb) (ys:=[(↑aa:Int)]) (zs:=x163) rfl rfl rfl rfl rfl zk wDX rfl rfl rfl rfl rfl rfl cu rfl ei db (cu.srcR (j:=4) rfl (by decide) (wAJ (f:=KL.encI) (sz:=1) (fun _=>rfl) [(↑aa:Int)])) (fun _=>rfl) (fun _=>rfl) eE rfl ?_
        intro dy dS fy jG
        have jH:SW w [B8,B7,B9] U cL [az,aR,aS,.row dy dS 3 1 (hH KL.encI x163),.row bJ bK 3 1 (hH KL.encI [(↑aa:Int)])] fy:=jG
        exact lD _ _ ⟨cL,bJ,bK,dy,dS,d8,d9,eb,da,ec,ed,ef,eh,ej,db,rfl,du,(jH.pick [0,1,2,4,3] _ (by decide) rfl)⟩
      refine zi (s:=gAr) (M:=fun σ_ w_=>∃ (U_:PHeap) (bQ:Option Addr) (bW:Nat),σ_ 0=.slice ai p0.length ak/\σ_ 1=.pointer (some ⟨am,0,none⟩)/\σ_ 4=.pointer (some ⟨ap,0,none⟩)/\σ_ 5=.pointer (some ⟨aq,0,none⟩)/\σ_ 9=jV (↑aa:Int)/\σ_ 39=jV (↑p1.Squad.Classes.length:Int)/\σ_ 40=jV (↑aa:Int)/\σ_ 53=.func (.func 77) #[] #[.pointer (some ⟨am,0,none⟩),.pointer (some ⟨ah,0,none⟩),.pointer (some ⟨aj,0,none⟩),.pointer (some ⟨ap,0,none⟩),.pointer (some ⟨aq,0,none⟩)]/\σ_ 54=.slice ai p0.length ak/\σ_ 56=jV (↑aa:Int)/\σ_ 57=.slice bQ ([(↑aa:Int)].length) bW/\PHeap.Le aW U_/\SW w [B8,B7,B9] U U_ [az,aR,aS,.row bQ bW 3 1 (hH KL.encI [(↑aa:Int)])] w_) ?_ fun eU=>?_
      ·rintro mH fz ⟨ff,bQ,bW,gI,gJ,gK,gL,gM,gN,gO,gP,en,gQ,gR,eZ,jK⟩
       have iX:=bz.le aU
       have iZ:=iX.le aV
       have i0:=iZ.le eZ
       refine zF 0 Z Z Z Z (zC Z Z Tryz.call79 (zA en zH) Z) jK (fun hs=>wAi p0 ai ak fz ff hs i0 cr) (.inr Z) ?_
       rintro dH lQ mq fA lG jL ⟨dz,dT,rfl,rfl⟩
       have jM:SW w [B8,B7,B9] U dH [.row dz dT 3 1 (hH KL.encI bb),az,aR,aS,.row bQ bW 3 1 (hH KL.encI [(↑aa:Int)])] fA:=jL
       exact dt _ _ ⟨dH,dz,dT,bQ,bW,gI,gJ,gK,gL,gM,gN,gO,gP,en,rfl,gQ,gR,(eZ.trans lG),(jM.pick [1,2,3,0,4] _ (by decide) rfl)⟩
      refine zi (s:=gAq) (M:=fun σ_ w_=>∃ (U_:PHeap) (bR:Option Addr) (bX:Nat),σ_ 0=.slice ai p0.length ak/\σ_ 1=.pointer (some ⟨am,0,none⟩)/\σ_ 4=.pointer (some ⟨ap,0,none⟩)/\σ_ 5=.pointer (some ⟨aq,0,none⟩)/\σ_ 9=jV (↑aa:Int)/\σ_ 39=jV (↑p1.Squad.Classes.length:Int)/\σ_ 40=jV (↑aa:Int)/\σ_ 53=.func (.func 77) #[] #[.pointer (some ⟨am,0,none⟩),.pointer (some ⟨ah,0,none⟩),.pointer (some ⟨aj,0,none⟩),.pointer (some ⟨ap,0,none⟩),.pointer (some ⟨aq,0,none⟩)]/\σ_ 54=.slice ai p0.length ak/\σ_ 55=.slice bR bb.length bX/\σ_ 56=jV (↑aa:Int)/\PHeap.Le aW U_/\SW w [B8,B7,B9] U U_ [az,aR,aS,.row bR bX 3 1 (hH KL.encI bb)] w_) ?_ fun eV=>?_
      ·rintro mI lZ ⟨dI,bR,bX,gS,gT,gU,gW,gX,gZ,g9,ib,ic,ie,eu,lH,jN⟩
       refine zM (pv:=[(0,jV (↑aa:Int))]) (zs:=[jV 0]) (cs:=[jV (↑aa:Int)]) Z Z Z Z Z (wAH eu wAR) zB zI zn Z Z Z Z Z jN ?_
       intro fC dN jP
       have jR:SW w [B8,B7,B9] U dI [.row (some ⟨dN,0,none⟩) 1 3 1 (hH KL.encI [(↑aa:Int)]),az,aR,aS,.row bR bX 3 1 (hH KL.encI bb)] fC:=jP
       exact dt _ _ ⟨dI,bR,bX,(some ⟨dN,0,none⟩),1,gS,gT,gU,gW,gX,gZ,g9,ib,ic,ie,eu,rfl,lH,(jR.pick [1,2,3,4,0] _ (by decide) rfl)⟩
      refine oM Z bh (oM Z Z (zm ?_ ?_))
      ·have i6:=bE.le aU
       have i7:=i6.le aV
       refine ZJ Z Z Z Z (bL.ldC (f:=0) i7 (v:=.func (.func 77) #[] #[.pointer (some ⟨am,0,none⟩),.pointer (some ⟨ah,0,none⟩),.pointer (some ⟨aj,0,none⟩),.pointer (some ⟨ap,0,none⟩),.pointer (some ⟨aq,0,none⟩)]) Z bf Tryz.isAgg171 Z) (zm ?_ ?_)
       ·have i8:=bz.le aU
        have i9:=i8.le aV
        refine zF 0 Z Z Z Z (zC Z Z Tryz.call79 (zA Z zH) Z) bL (fun hs=>wAi p0 ai ak dL aW hs i9 cr) (.inr Z) ?_
        rintro dJ lR mr fE lI jS ⟨dA,dU,rfl,rfl⟩
        have jU:SW w [B8,B7,B9] U dJ [.row dA dU 3 1 (hH KL.encI bb),az,aR,aS] fE:=jS
        exact eV _ _ ⟨dJ,dA,dU,bh,bm,bn,bf,rfl,bo,bi,rfl,rfl,rfl,rfl,lI,(jU.pick [1,2,3,0] _ (by decide) rfl)⟩
       ·refine zM (pv:=[(0,jV (↑aa:Int))]) (zs:=[jV 0]) (cs:=[jV (↑aa:Int)]) Z Z Z Z Z (wAH Z wAR) zB zI zn Z Z Z Z Z bL ?_
        intro fG dO jX
        have jY:SW w [B8,B7,B9] U aW [.row (some ⟨dO,0,none⟩) 1 3 1 (hH KL.encI [(↑aa:Int)]),az,aR,aS] fG:=jX
        exact eU _ _ ⟨aW,(some ⟨dO,0,none⟩),1,bh,bm,bn,bf,rfl,bo,bi,rfl,rfl,rfl,rfl,(zX _),(jY.pick [1,2,3,0] _ (by decide) rfl)⟩
      refine zm ?_ ?_
      ·have ja:=bz.le aU
       have jb:=ja.le aV
       refine zF 0 Z Z Z Z (zC Z Z Tryz.call79 (zA Z zH) Z) bL (fun hs=>wAi p0 ai ak dL aW hs jb cr) (.inr Z) ?_
       rintro cj lS ms fH dv j0 ⟨cC,cZ,rfl,rfl⟩
       let dC:Res:=.row cC cZ 3 1 (hH KL.encI bb)
       have df:SW w [B8,B7,B9] U cj [dC,az,aR,aS] fH:=j0
       refine zm ?_ ?_
       ·have jc:=bE.le aU
        have jd:=jc.le aV
        have je:=jd.le dv
        exact ZJ rfl rfl rfl rfl (df.ldC (f:=0) je (v:=.func (.func 77) #[] #[.pointer (some ⟨am,0,none⟩),.pointer (some ⟨ah,0,none⟩),.pointer (some ⟨aj,0,none⟩),.pointer (some ⟨ap,0,none⟩),.pointer (some ⟨aq,0,none⟩)]) rfl bf Tryz.isAgg171 rfl) (eV _ _ ⟨cj,cC,cZ,bh,bm,bn,bf,rfl,bo,bi,rfl,rfl,rfl,rfl,dv,(df.pick [1,2,3,0] _ (by decide) rfl)⟩)
       ·refine zM (pv:=[(0,jV (↑aa:Int))]) (zs:=[jV 0]) (cs:=[jV (↑aa:Int)]) Z Z Z Z Z (wAH Z wAR) zB zI zn Z Z Z Z Z df ?_
        intro fJ dP j4
        have j5:SW w [B8,B7,B9] U cj [.row (some ⟨dP,0,none⟩) 1 3 1 (hH KL.encI [(↑aa:Int)]),dC,az,aR,aS] fJ:=j4
        exact eT _ _ ⟨cj,cC,cZ,(some ⟨dP,0,none⟩),1,bh,bm,bn,bf,rfl,bo,bi,rfl,rfl,rfl,rfl,dv,(j5.pick [2,3,4,1,0] _ (by decide) rfl)⟩
      ·refine zM (pv:=[(0,jV (↑aa:Int))]) (zs:=[jV 0]) (cs:=[jV (↑aa:Int)]) Z Z Z Z Z (wAH Z wAR) zB zI zn Z Z Z Z Z bL ?_
       intro dM cP j6
       let dD:Res:=.row (some ⟨cP,0,none⟩) 1 3 1 (hH KL.encI [(↑aa:Int)])
       have dg:SW w [B8,B7,B9] U aW [dD,az,aR,aS] dM:=j6
       refine zm ?_ ?_
       ·have jf:=bE.le aU
        have jg:=jf.le aV
        exact ZJ rfl rfl rfl rfl (dg.ldC (f:=0) jg (v:=.func (.func 77) #[] #[.pointer (some ⟨am,0,none⟩),.pointer (some ⟨ah,0,none⟩),.pointer (some ⟨aj,0,none⟩),.pointer (some ⟨ap,0,none⟩),.pointer (some ⟨aq,0,none⟩)]) rfl bf Tryz.isAgg171 rfl) (eU _ _ ⟨aW,(some ⟨cP,0,none⟩),1,bh,bm,bn,bf,rfl,bo,bi,rfl,rfl,rfl,rfl,(zX _),(dg.pick [1,2,3,0] _ (by decide) rfl)⟩)
       ·have jh:=bz.le aU
        have ji:=jh.le aV
        refine zF 0 Z Z Z Z (zC Z Z Tryz.call79 (zA Z zH) Z) dg (fun hs=>wAi p0 ai ak dM aW hs ji cr) (.inr Z) ?_
        rintro dK lT mu fK lJ j7 ⟨dB,dV,rfl,rfl⟩
        have j8:SW w [B8,B7,B9] U dK [.row dB dV 3 1 (hH KL.encI bb),dD,az,aR,aS] fK:=j7
        exact eT _ _ ⟨dK,dB,dV,(some ⟨cP,0,none⟩),1,bh,bm,bn,bf,rfl,bo,bi,rfl,rfl,rfl,rfl,lJ,(j8.pick [2,3,4,0,1] _ (by decide) rfl)⟩
     ·intro cQ lA
      refine ZM (congrArg nB (nD.2 cQ.out)) (CK.skip (ZP (zU (rR fL2 Z (oR Z (Za (zq Z bi Z) (congrArg (jV) dm.out)) (oM Z Z (ZF ?_)))))))
      cases lA
      exact zU ⟨Z,⟨aW,bj,bw,Z,bh,bm,bn,bf,bo,(aU.trans aV),eF,de⟩⟩
   ·rintro mJ l3 ⟨fg,fc,fL,ii,mb,mc,md,me,ig,mi,j9,jj⟩
    have fM:Hid (¬ ((↑(((↑p1.Squad.Classes.length:Int):Int) - 0).toNat:Int) < (↑p1.Squad.Classes.length:Int))):=zO (wCG)
    refine sR fL1 Z (oR Z (zx Z ii ig) (eN (zP (cF Z fM (CK.exit (ZH (ZH (Zb ?_))))))))
    cases eQ
    exact ⟨Z,_,(wOi),fg,_,j9,fc,fL,Z,Z,jj⟩
end Go.Proofs.YtkedcbligiebkaaGreat
