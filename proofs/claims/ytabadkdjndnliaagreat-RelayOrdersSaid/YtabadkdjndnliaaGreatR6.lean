import Derived.Test.YtabadkdjndnliaaGreatR5
set_option linter.all false
open List renaming flatMap->hH,length_set->nG,length_append->nI,set->nK,getElem_cons_succ->nL,getElem_cons_zero->nM,getElem_toArray->nO
open Go.Value renaming bool->nA
open Bool renaming eq_false_iff->nB
open Option.some renaming inj->nD
open Prod.mk renaming injEq->nE
open Nat renaming blt->nH,le_of_ble_eq_true->nN
open Int renaming toNat_natCast->nJ
namespace Go.Proofs.YtabadkdjndnliaaGreat
open Go.KL
def gAa:Sch:=.fl 1 (.fl 2 .nil)
def gAb:Sch:=.fl 2 (.fl 3 .nil)
def gAc:Sch:=.fl 3 (.fl 4 .nil)
def gAd:Sch:=.fl 4 (.fl 5 .nil)
def gAe:Sch:=.fl 6 (.fl 7 .nil)
def gAf:Sch:=.fx 1 (.fl 2 .nil) .stop
def gAg:Sch:=.fx 0 (.fx 1 .nil .stop) .stop
def gAh:Sch:=.fl 0 (.fx 1 .nil .stop)
def gAi:Sch:=.fx 0 (.fl 1 .nil) .stop
def gAj:Sch:=.fx 5 (.fl 6 .nil) .stop
def gAk:Sch:=.fx 8 (.fl 9 .nil) .stop
def gAl:Sch:=.fx 3 (.fl 4 .nil) .stop
def gAm:Sch:=.fx 3 (.fx 4 .nil .stop) .stop
def gAn:Sch:=.fx 5 (.fx 6 .nil .stop) .stop
def gAo:Sch:=.fx 0 (.fx 6 .nil .stop) .stop
def gAp:Sch:=.fx 0 gAf .stop
def gAq:Sch:=.fl 0 gAf
def gAr:Sch:=.fx 1 gAb .stop
def gAs:Sch:=.fl 1 (.fx 2 (.fl 3 .nil) .stop)
def gAt:Sch:=.fx 4 gAn .stop
def gAu:Sch:=.fx 2 gAn .stop
def gAv:Sch:=.fx 0 gAr .stop
def gAw:Sch:=.fl 0 gAs
def gAx:Sch:=.fx 0 gAn (.fx 5 gAo .stop)
def gAy:Sch:=.fl 0 (.fl 1 (.fx 2 gAc .stop))
def gAz:Sch:=.fl 0 (.fx 1 (.fl 2 gAm) .stop)
set_option maxHeartbeats 4000000
theorem Z {α:Type} {a:α}:a=a:=rfl
section
variable {r:Option Nat} {N:Nat} {P:Program} {l:List Oper} {Q:wCp} {D:List Deferred} {ks:List Nat} {σ:Env} {w:World} {i d j e:Nat} {s:Sch} {o:Oper} {b:Bool} {x:Operand} {v:Value} {p:Prop} {inst:Decidable p} {K:List Deferred->Env->World->Prop} {c1 c2:Code}
abbrev jV (n:Int):Value:=.int .i64 n
abbrev SW (w:World) (X:List Res) (U U':PHeap) (L:List Res) (w':World):Prop:=St ⟨w,X,U⟩ U' L w'
abbrev sW (w:World) (U U':PHeap) (L:List Res) (w':World):Prop:=St ⟨w,[],U⟩ U' L w'
abbrev St0 (w:World) (U:PHeap) (L:List Res):Prop:=St ⟨w,L,U⟩ U L w
theorem ifc {α:Type} {G p:Prop} {inst:Decidable p} {a b r:α} (h:@ite α p inst a b=r) (h1:Hid p->a=r->G) (h2:Hid (¬ p)->b=r->G):G:=by
 by_cases c:p
 rw [if_pos c] at h;exact h1 ⟨c⟩ h
 rw [if_neg c] at h;exact h2 ⟨c⟩ h
theorem bnK {α β:Type} {G:Prop} {o:Option α} {f:α->Option β} {r:β} (h:o.bind f=some r) (k:∀ x,o=some x->f x=some r->G):G:=by
 obtain ⟨x,h1,h2⟩:=bnd h
 exact k x h1 h2
theorem oR (h:(l[i]?,o.dst,nH d N,wanted l σ o)=(some o,some d,true,true)) (hr:∀ {w'},Runs P σ w' o v w') (k:OKS N P l Q D ks s (upd σ d v) w):OKS N P l Q D ks (.fl i s) σ w:=by
 simp only [nE] at h;exact OKS.r h.1 h.2.1 h.2.2.1 h.2.2.2 (fun _=>hr) k
theorem oL (h:(l[i]?,o.dst,nH d N,wanted l σ o,wRQ (kOf ks i))=(some o,some d,true,true,false)) (hr:wFu P σ w o v) (k:OKS N P l Q D ks s (upd σ d v) w):OKS N P l Q D ks (.fl i s) σ w:=by
 simp only [nE] at h;exact OKS.m h.1 h.2.1 h.2.2.1 h.2.2.2.1 hr h.2.2.2.2 k
theorem oM (h:(l[i]?,o.dst,nH d N,wanted l σ o,o.op)=(some o,some d,true,true,.move x)) (hx:ev σ x=v) (k:OKS N P l Q D ks s (upd σ d v) w):OKS N P l Q D ks (.fl i s) σ w:=by
 simp only [nE] at h;exact OKS.rm h.1 h.2.1 h.2.2.1 h.2.2.2.1 h.2.2.2.2 hx k
theorem oA (h:(l[i]?,o.dst,nH d N,wanted l σ o,o.op)=(some o,some d,true,true,.assign x)) (hx:ev σ x=v) (k:OKS N P l Q D ks s (upd σ d v) w):OKS N P l Q D ks (.fl i s) σ w:=by
 simp only [nE] at h;exact OKS.ra h.1 h.2.1 h.2.2.1 h.2.2.2.1 h.2.2.2.2 hx k
theorem oF (h:(l[i]?,o.dst,nH d N,o.guard,(l[j]?).bind (·.dst),σ e,false == b)=(some o,some d,true,some (j,b),some e,.bool (decide p),false)) (c:Hid (¬ p)) (k:OKS N P l Q D ks s (upd σ d undef) w):OKS N P l Q D ks (.fl i s) σ w:=by
 simp only [nE] at h;exact OKS.p h.1 h.2.1 h.2.2.1 (wGV h.2.2.2.1 h.2.2.2.2.1 (h.2.2.2.2.2.1.trans (wRP c.out)) h.2.2.2.2.2.2) k
theorem oT (h:(l[i]?,o.dst,nH d N,o.guard,(l[j]?).bind (·.dst),σ e,true == b)=(some o,some d,true,some (j,b),some e,.bool (decide p),false)) (c:Hid p) (k:OKS N P l Q D ks s (upd σ d undef) w):OKS N P l Q D ks (.fl i s) σ w:=by
 simp only [nE] at h;exact OKS.p h.1 h.2.1 h.2.2.1 (wGV h.2.2.2.1 h.2.2.2.2.1 (h.2.2.2.2.2.1.trans (wRO c.out)) h.2.2.2.2.2.2) k
theorem oN {b2:Bool} (h:(l[i]?,o.dst,nH d N,o.guard,(l[j]?).bind (·.dst),σ e,b2 == b)=(some o,some d,true,some (j,b),some e,.bool b2,false)) (k:OKS N P l Q D ks s (upd σ d undef) w):OKS N P l Q D ks (.fl i s) σ w:=by
 simp only [nE] at h;exact OKS.p h.1 h.2.1 h.2.2.1 (wGV h.2.2.2.1 h.2.2.2.2.1 h.2.2.2.2.2.1 h.2.2.2.2.2.2) k
theorem nC {a b:Bool} (h:a=b):nA (!a)=nA (!b):=h ▸ rfl
theorem nF {a:Bool} (h:¬ a=true):nA (!a)=nA (!false):=nC (nB.2 h)
theorem wT (h:(o.guard,(l[j]?).bind (·.dst),σ e)=(some (j,true),some e,.bool (decide p))) (c:Hid p):wanted l σ o=true:=by
 simp only [nE] at h;exact wIH h.1 h.2.1 (h.2.2.trans (wRO c.out))
theorem wF (h:(o.guard,(l[j]?).bind (·.dst),σ e)=(some (j,false),some e,.bool (decide p))) (c:Hid (¬ p)):wanted l σ o=true:=by
 simp only [nE] at h;exact wIH h.1 h.2.1 (h.2.2.trans (wRP c.out))
theorem rU (h:(l[i]?,o.dst,nH d N)=(some o,some d,true)) (hw:wanted l σ o=true) (hr:∀ {w'},Runs P σ w' o v w') (k:OKS N P l Q D ks s (upd σ d v) w):OKS N P l Q D ks (.fl i s) σ w:=by
 simp only [nE] at h;exact OKS.r h.1 h.2.1 h.2.2 hw (fun _=>hr) k
theorem sR {id:Nat} (s:Sch) (hs:inOrder 0 s l.length=true) (h:OKS N P l (wEz (fun D σ w=>CK r N P c2 Q D σ w) Q) D [] s σ w):CK r N P (.seq (.region id l.toArray false) c2) Q D σ w:=CK.seq (CK.reg s hs h)
theorem rR {id:Nat} (s:Sch) (hs:inOrder 0 s l.length=true) (h:OKS N P l Q D [] s σ w):CK r N P (.region id l.toArray false) Q D σ w:=CK.reg s hs h
theorem eN (h:K D σ w):OKS N P l (wEz K Q) D ks .nil σ w:=OKS.e (wIC h)
theorem cT (hz:ev σ x=.bool (decide p)) (c:Hid p) (h:CK r N P c1 Q D σ w):CK r N P (.cond x c1 c2) Q D σ w:=CK.condT (hz.trans (wRO c.out)) h
theorem cF (hz:ev σ x=.bool (decide p)) (c:Hid (¬ p)) (h:CK r N P c2 Q D σ w):CK r N P (.cond x c1 c2) Q D σ w:=CK.condF (hz.trans (wRP c.out)) h
theorem kN (h:K D σ w):CK r N P .skip (wEz K Q) D σ w:=CK.skip (wIC h)
end
def fL1:Sch:=.fl 0 .nil
def fL2:Sch:=.fl 0 (.fl 1 .nil)
def fL3:Sch:=.fl 0 gAa
def fL4:Sch:=.fl 0 (.fl 1 gAb)
def fL5:Sch:=.fl 0 (.fl 1 (.fl 2 gAc))
def fL6:Sch:=.fl 0 (.fl 1 (.fl 2 (.fl 3 gAd)))
def fL7:Sch:=.fl 0 (.fl 1 (.fl 2 (.fl 3 (.fl 4 (.fl 5 (.fl 6 .nil))))))
def fL8:Sch:=.fl 0 (.fl 1 (.fl 2 (.fl 3 (.fl 4 (.fl 5 gAe)))))
def fL9:Sch:=.fl 0 (.fl 1 (.fl 2 (.fl 3 (.fl 4 (.fl 5 (.fl 6 (.fl 7 (.fl 8 .nil))))))))
def fL10:Sch:=.fl 0 (.fl 1 (.fl 2 (.fl 3 (.fl 4 (.fl 5 (.fl 6 (.fl 7 (.fl 8 (.fl 9 .nil)))))))))
def fL14:Sch:=.fl 0 (.fl 1 (.fl 2 (.fl 3 (.fl 4 (.fl 5 (.fl 6 (.fl 7 (.fl 8 (.fl 9 (.fl 10 (.fl 11 (.fl 12 (.fl 13 .nil)))))))))))))
def fL15:Sch:=.fl 0 (.fl 1 (.fl 2 (.fl 3 (.fl 4 (.fl 5 (.fl 6 (.fl 7 (.fl 8 (.fl 9 (.fl 10 (.fl 11 (.fl 12 (.fl 13 (.fl 14 .nil))))))))))))))
def fL16:Sch:=.fl 0 (.fl 1 (.fl 2 (.fl 3 (.fl 4 (.fl 5 (.fl 6 (.fl 7 (.fl 8 (.fl 9 (.fl 10 (.fl 11 (.fl 12 (.fl 13 (.fl 14 (.fl 15 .nil)))))))))))))))
def fL20:Sch:=.fl 0 (.fl 1 (.fl 2 (.fl 3 (.fl 4 (.fl 5 (.fl 6 (.fl 7 (.fl 8 (.fl 9 (.fl 10 (.fl 11 (.fl 12 (.fl 13 (.fl 14 (.fl 15 (.fl 16 (.fl 17 (.fl 18 (.fl 19 .nil)))))))))))))))))))
def fL31:Sch:=.fl 0 (.fl 1 (.fl 2 (.fl 3 (.fl 4 (.fl 5 (.fl 6 (.fl 7 (.fl 8 (.fl 9 (.fl 10 (.fl 11 (.fl 12 (.fl 13 (.fl 14 (.fl 15 (.fl 16 (.fl 17 (.fl 18 (.fl 19 (.fl 20 (.fl 21 (.fl 22 (.fl 23 (.fl 24 (.fl 25 (.fl 26 (.fl 27 (.fl 28 (.fl 29 (.fl 30 .nil))))))))))))))))))))))))))))))
def wDT (s:Sch):Sch:=.fl 0 (.fl 1 (.fl 2 (s)))
def wHf (s:Sch):Sch:=.fl 0 (.fl 1 (.fl 2 (.fl 3 (s))))
def wFk (s:Sch):Sch:=.fl 0 (.fl 1 (.fl 2 (.fl 3 (.fl 4 (s)))))
def wOL (s:Sch):Sch:=.fl 0 (.fl 1 (.fl 2 (.fl 3 (.fl 4 (.fl 5 (.fl 6 (.fl 7 (s))))))))
def fC0_9 (s:Sch):Sch:=.fl 0 (.fl 1 (.fl 2 (.fl 3 (.fl 4 (.fl 5 (.fl 6 (.fl 7 (.fl 8 (.fl 9 (s))))))))))
def wSX (s:Sch):Sch:=.fl 0 (.fl 1 (.fl 2 (.fl 3 (.fl 4 (.fl 5 (.fl 6 (.fl 7 (.fl 8 (.fl 9 (.fl 10 (.fl 11 (.fl 12 (.fl 13 (.fl 14 (.fl 15 (s))))))))))))))))
def wOM (s:Sch):Sch:=.fl 0 (.fl 1 (.fl 2 (.fl 3 (.fl 4 (.fl 5 (.fl 6 (.fl 7 (.fl 8 (.fl 9 (.fl 10 (.fl 11 (.fl 12 (.fl 13 (.fl 14 (.fl 15 (.fl 16 (s)))))))))))))))))
def wPC (s:Sch):Sch:=.fl 2 (.fl 3 (.fl 4 (s)))
def fC2_6 (s:Sch):Sch:=.fl 2 (.fl 3 (.fl 4 (.fl 5 (.fl 6 (s)))))
def wRB (s:Sch):Sch:=.fl 3 (.fl 4 (.fl 5 (s)))
def wSY (s:Sch):Sch:=.fl 3 (.fl 4 (.fl 5 (.fl 6 (s))))
def wPD (s:Sch):Sch:=.fl 3 (.fl 4 (.fl 5 (.fl 6 (.fl 7 (s)))))
def wPE (s:Sch):Sch:=.fl 3 (.fl 4 (.fl 5 (.fl 6 (.fl 7 (.fl 8 (.fl 9 (s)))))))
def wSZ (s:Sch):Sch:=.fl 3 (.fl 4 (.fl 5 (.fl 6 (.fl 7 (.fl 8 (.fl 9 (.fl 10 (.fl 11 (.fl 12 (.fl 13 (.fl 14 (.fl 15 (.fl 16 (.fl 17 (s)))))))))))))))
def fC4_6 (s:Sch):Sch:=.fl 4 (.fl 5 (.fl 6 (s)))
def fC4_7 (s:Sch):Sch:=.fl 4 (.fl 5 (.fl 6 (.fl 7 (s))))
def wME (s:Sch):Sch:=.fl 4 (.fl 5 (.fl 6 (.fl 7 (.fl 8 (s)))))
def wSa (s:Sch):Sch:=.fl 4 (.fl 5 (.fl 6 (.fl 7 (.fl 8 (.fl 9 (.fl 10 (.fl 11 (.fl 12 (s)))))))))
def wSb (s:Sch):Sch:=.fl 4 (.fl 5 (.fl 6 (.fl 7 (.fl 8 (.fl 9 (.fl 10 (.fl 11 (.fl 12 (.fl 13 (s))))))))))
def wPj (s:Sch):Sch:=.fl 4 (.fl 5 (.fl 6 (.fl 7 (.fl 8 (.fl 9 (.fl 10 (.fl 11 (.fl 12 (.fl 13 (.fl 14 (.fl 15 (.fl 16 (.fl 17 (s))))))))))))))
def wON (s:Sch):Sch:=.fl 5 (.fl 6 (.fl 7 (.fl 8 (.fl 9 (s)))))
def wSc (s:Sch):Sch:=.fl 5 (.fl 6 (.fl 7 (.fl 8 (.fl 9 (.fl 10 (.fl 11 (.fl 12 (.fl 13 (.fl 14 (.fl 15 (.fl 16 (.fl 17 (.fl 18 (.fl 19 (.fl 20 (.fl 21 (.fl 22 (.fl 23 (.fl 24 (.fl 25 (.fl 26 (.fl 27 (.fl 28 (.fl 29 (.fl 30 (.fl 31 (.fl 32 (.fl 33 (.fl 34 (.fl 35 (.fl 36 (.fl 37 (.fl 38 (.fl 39 (.fl 40 (s))))))))))))))))))))))))))))))))))))
def fC6_9 (s:Sch):Sch:=.fl 6 (.fl 7 (.fl 8 (.fl 9 (s))))
def wOO (s:Sch):Sch:=.fl 7 (.fl 8 (.fl 9 (.fl 10 (s))))
def wOP (s:Sch):Sch:=.fl 8 (.fl 9 (.fl 10 (s)))
def wKX (s:Sch):Sch:=.fl 12 (.fl 13 (.fl 14 (.fl 15 (s))))
def wRC (s:Sch):Sch:=.fl 14 (.fl 15 (.fl 16 (s)))
def wKY (s:Sch):Sch:=.fl 17 (.fl 18 (.fl 19 (.fl 20 (s))))
def wRD (s:Sch):Sch:=.fl 17 (.fl 18 (.fl 19 (.fl 20 (.fl 21 (.fl 22 (.fl 23 (.fl 24 (.fl 25 (.fl 26 (.fl 27 (.fl 28 (.fl 29 (.fl 30 (s))))))))))))))
def wRE (s:Sch):Sch:=.fl 19 (.fl 20 (.fl 21 (s)))
def wRF (s:Sch):Sch:=.fl 22 (.fl 23 (.fl 24 (.fl 25 (s))))
theorem zA:type_of% @Tryz.runUnderlying22:=@Tryz.runUnderlying22
theorem zB:type_of% @wMJ:=@wMJ
theorem zC:type_of% @Tryz.sizeOf3:=@Tryz.sizeOf3
theorem zD:type_of% @OKS.callH:=@OKS.callH
theorem zE:type_of% @Enters.mk:=@Enters.mk
theorem zF:type_of% @wGV:=@wGV
theorem zG:type_of% @wIH:=@wIH
theorem zH:type_of% @CK.seq:=@CK.seq
theorem zI:type_of% @CK.ret:=@CK.ret
theorem zJ:type_of% @wMI:=@wMI
theorem zK:type_of% @wIC:=@wIC
theorem zL:type_of% @wPF:=@wPF
theorem zM:type_of% @Hid.mk:=@Hid.mk
theorem zN:type_of% @Tryz.isAgg3:=@Tryz.isAgg3
theorem zO:type_of% @Runs.pickF:=@Runs.pickF
theorem zP:type_of% @Tryz.sizeOf22:=@Tryz.sizeOf22
theorem zQ:type_of% @Runs.pickT:=@Runs.pickT
theorem zR:type_of% @Tryz.isAgg22:=@Tryz.isAgg22
theorem zS:type_of% @Runs.fa:=@Runs.fa
theorem zU:type_of% @Runs.len:=@Runs.len
theorem zV:type_of% @OKS.p:=@OKS.p
theorem zW:type_of% @Tryz.runUnderlying24:=@Tryz.runUnderlying24
theorem zX:type_of% @PHeap.Le.refl:=@PHeap.Le.refl
theorem zY:type_of% @nN:=@nN
theorem zZ:type_of% @CK.block:=@CK.block
theorem zd:type_of% @Tryz.runUnderlying46:=@Tryz.runUnderlying46
theorem ze:type_of% @Runs.lss:=@Runs.lss
theorem zf:type_of% @OKS.rm:=@OKS.rm
theorem zg:type_of% @Tryz.runUnderlying93:=@Tryz.runUnderlying93
theorem zh:type_of% @wKb:=@wKb
theorem zi:type_of% @OKS.r:=@OKS.r
theorem zj:type_of% @CK.condF:=@CK.condF
theorem zk:type_of% @res1:=@res1
theorem zm:type_of% @Runs.addw:=@Runs.addw
theorem zn:type_of% @wMH:=@wMH
theorem zo:type_of% @Runs.iaN:=@Runs.iaN
theorem zp:type_of% @CK.condT:=@CK.condT
theorem zq:type_of% @wKZ:=@wKZ
theorem zr:type_of% @Tryz.sizeOf24:=@Tryz.sizeOf24
theorem zt:type_of% @wRP:=@wRP
theorem zu:type_of% @OKS.e:=@OKS.e
theorem zw:type_of% @Tryz.sizeOf93:=@Tryz.sizeOf93
theorem zx:type_of% @Tryz.runUnderlying98:=@Tryz.runUnderlying98
theorem zy:type_of% @OKS.box:=@OKS.box
theorem zz:type_of% @OKS.m:=@OKS.m
theorem ZA:type_of% @OKS.px:=@OKS.px
theorem ZB:type_of% @Runs.ext:=@Runs.ext
theorem ZC:type_of% @Tryz.isAgg24:=@Tryz.isAgg24
theorem ZD:type_of% @Tryz.runUnderlying31:=@Tryz.runUnderlying31
theorem ZE:type_of% @Runs.neq:=@Runs.neq
theorem ZF:type_of% @Tryz.isAgg93:=@Tryz.isAgg93
theorem ZG:type_of% @OKS.alloc:=@OKS.alloc
theorem ZH:type_of% @Tryz.sizeOf46:=@Tryz.sizeOf46
theorem ZI:type_of% @Tryz.mixed:=@Tryz.mixed
theorem ZJ:type_of% @Runs.to:=@Runs.to
theorem ZK:type_of% @wID:=@wID
theorem ZL:type_of% @Tryz.isAgg46:=@Tryz.isAgg46
theorem ZM:type_of% @CK.anyOrd:=@CK.anyOrd
theorem ZN:type_of% @Tryz.sizeOf98:=@Tryz.sizeOf98
theorem ZO:type_of% @CK.exit:=@CK.exit
theorem ZP:type_of% @Tryz.sizeOf31:=@Tryz.sizeOf31
theorem ZQ:type_of% @CK.skip:=@CK.skip
theorem ZR:type_of% @Runs.notT:=@Runs.notT
theorem ZS:type_of% @Tryz.zeroValue3:=@Tryz.zeroValue3
theorem ZT:type_of% @Tryz.isAgg98:=@Tryz.isAgg98
theorem ZU:type_of% @Tryz.isAgg31:=@Tryz.isAgg31
theorem ZV:type_of% @Tryz.runUnderlying256:=@Tryz.runUnderlying256
theorem ZW:type_of% @OKS.st:=@OKS.st
theorem ZX:type_of% @OKS.both:=@OKS.both
theorem ZY:type_of% @Tryz.call117:=@Tryz.call117
theorem Za:type_of% @Runs.subw:=@Runs.subw
theorem Zb:type_of% @OKS.makeSlice:=@OKS.makeSlice
theorem Zc:type_of% @Tryz.sizeOf249:=@Tryz.sizeOf249
theorem Zd:type_of% @Tryz.zeroValue249:=@Tryz.zeroValue249
theorem Ze:type_of% @OKS.cutD:=@OKS.cutD
theorem Zf:type_of% @OKS.buildSlice:=@OKS.buildSlice
theorem Zg:type_of% @Tryz.runUnderlying249:=@Tryz.runUnderlying249
theorem Zh:type_of% @Runs.gtr:=@Runs.gtr
theorem Zi:type_of% @wRO:=@wRO
theorem Zj:type_of% @Tryz.underlying22:=@Tryz.underlying22
theorem Zk:type_of% @CK.forN:=@CK.forN
theorem Zl:type_of% @Tryz.zeroValue98:=@Tryz.zeroValue98
theorem Zm:type_of% @Runs.build:=@Runs.build
theorem Zn:type_of% @Tryz.call51:=@Tryz.call51
theorem Zo:type_of% @Runs.eql:=@Runs.eql
theorem Zp:type_of% @Tryz.zeroValue342:=@Tryz.zeroValue342
theorem Zq:type_of% @Tryz.call104:=@Tryz.call104
theorem Zr:type_of% @Tryz.zeroValue31:=@Tryz.zeroValue31
theorem Zs:type_of% @Tryz.isAgg249:=@Tryz.isAgg249
end Go.Proofs.YtabadkdjndnliaaGreat
namespace Go.Proofs.YtabadkdjndnliaaGreat
open Go.KL
set_option maxHeartbeats 4000000
theorem wEs (p0:wAA) (ap:Option Addr) (au:Nat) (p1:wAB) (aq:Option Addr) (av:Nat) (ak:Option Addr) (am:Nat) (w:World) (U:PHeap) (hS:St0 w U []) (b9:Sl U 1 ap au p0.Classes.length (hH KL.encI p0.Classes)) (cb:Sl U 1 aq av p1.Classes.length (hH KL.encI p1.Classes)) (bH:SlR U wDX ak am p1.Times) {r:Bool} (hm:wBZ p0 p1=some r):Gv Tryz.prog 35 [.agg #[.slice ap p0.Classes.length au,jV p0.Each,jV p0.Laps,jV p0.Spare,jV p0.Loop,jV p0.Unused],.agg #[.slice aq p1.Classes.length av,.slice ak p1.Times.length am]] w (wCQ w [] U (fun U_ L_ v=>v=.bool r/\L_=[])):=by
 unfold wBZ at hm
 refine Gv.of Tryz.func35 Z Tryz.ntmps35 Tryz.results35 Z (sR gAp Z ?_)
 let B0:List Value:=[.slice ap p0.Classes.length au,jV p0.Each,jV p0.Laps,jV p0.Spare,jV p0.Loop,jV p0.Unused]
 refine zy (cs:=B0) rfl rfl rfl rfl rfl rfl (by rfl) hS ?_
 intro W1 b2 bF
 let B1:List Value:=[.slice aq p1.Classes.length av,.slice ak p1.Times.length am]
 refine zy (cs:=B1) rfl rfl rfl rfl rfl rfl (by rfl) bF ?_
 intro W5 b6 ai
 refine oA Z Z (eN (zH (sR fL16 Z (oR Z (zS Z Z zW Z zP) (oL Z (ai.ldB (j:=1) Z Z Z zR (v:=.slice ap p0.Classes.length au) Z) (oR Z (zU Z Z zA) (oR Z (Zh Z Z Z) (oM Z Z ?_))))))))
 by_cases c9:6 < (↑p0.Classes.length:Int)
 have bg:=hm;rw [if_pos c9] at bg;replace c9:=zM c9
 refine oT Z c9 (oT Z c9 (oT Z c9 (oT Z c9 (oR Z (zQ Z (Zi c9.out) Z) (oM Z Z (oN Z (oN Z (oN Z (oN Z (oR Z (zQ Z Z Z) (eN (zp Z (sR fL1 Z (oA Z Z (eN (zI (zJ ?_)))))))))))))))))
 have hE:=nD bg;first | subst r | cases hE
 exact ⟨rfl,_,(zk rfl),U,_,(ai.pick [] _ (by decide) rfl),rfl,rfl⟩
 have bh:=hm;rw [if_neg c9] at bh;replace c9:=zM c9
 refine rU Z (wF Z c9) (zS Z Z zg Z zP) (zz Z Z Z (wF Z c9) (ai.ldB (j:=0) Z Z Z zR (v:=.slice aq p1.Classes.length av) Z) Z (rU Z (wF Z c9) (zU Z Z zA) (rU Z (wF Z c9) (Zh Z Z Z) (oR Z (zO Z (zt c9.out) Z) (oM Z Z (ifc bh ?_ ?_))))))
 intro ah bM
 refine oT Z ah (oT Z ah (oT Z ah (oT Z ah (oR Z (zQ Z (Zi ah.out) Z) (eN (zp Z (sR fL1 Z (oA Z Z (eN (zI (zJ ?_)))))))))))
 have hE:=nD bM;first | subst r | cases hE
 exact ⟨rfl,_,(zk rfl),U,_,(ai.pick [] _ (by decide) rfl),rfl,rfl⟩
 intro ah bN
 refine rU Z (wF Z ah) (zS Z Z zg Z ZH) (zz Z Z Z (wF Z ah) (ai.ldB (j:=0) Z Z Z ZL (v:=.slice ak p1.Times.length am) Z) Z (rU Z (wF Z ah) (zU Z Z zd) (rU Z (wF Z ah) (Zh Z Z Z) (oR Z (zO Z (zt ah.out) Z) (eN (ifc bN ?_ ?_))))))
 intro aP bO
 refine cT Z aP (sR fL1 Z (oA Z Z (eN (zI (zJ ?_)))))
 have hE:=nD bO;first | subst r | cases hE
 exact ⟨rfl,_,(zk rfl),U,_,(ai.pick [] _ (by decide) rfl),rfl,rfl⟩
 intro aP aX
 refine cF Z aP (kN (zH (sR fL4 Z (oR Z (zS Z Z zg Z ZH) (oL Z (ai.ldB (j:=0) Z Z Z ZL (v:=.slice ak p1.Times.length am) Z) (oR Z (zU Z Z zd) (oM Z Z (eN (zZ ?_)))))))))
 have q:=wCP aX
 obtain ⟨cf,aU⟩:=q
 have q:=wCO aU
 obtain ⟨aW,bK⟩:=q
 replace aW:=zM aW
 refine Zk (fun aj _ σ_ w_=>∃ (U_:PHeap),σ_ 26=jV (↑aj:Int)/\σ_ 24=.slice ak p1.Times.length am/\σ_ 25=jV (↑p1.Times.length:Int)/\PHeap.Le U U_/\sW w U U_ [.blk b6 93 B1,.blk b2 24 B0] w_) bK ?_ ?_ ?_
 exact ⟨U,Z,Z,Z,(zX _),ai⟩
 rintro aj ⟨⟩ cj cm bX aV ⟨az,aR,ba,bb,bm,aT⟩ bj bI
 try dsimp only at bj
 have a0:Hid ((↑aj:Int) < (↑p1.Times.length:Int)):=zM (wCE aV)
 replace aV:=zM aV
 have bL:Hid (w64 ((↑aj:Int) + 1)=(↑(aj + 1):Int)):=zM (by have h1:=aW.out;have h2:=a0.out;rw [wAa] <;> omega)
 refine sR fL1 Z (oR Z (ze Z aR bb) (eN (zH (cT Z a0 (kN (zH (zZ (sR fL3 Z (bnK bj fun bq be bP=>?_)))))))))
 have bD:=bH.le bm
 have q:=bD.el (wAQ be)
 obtain ⟨bt,bU,cg,bE,aS,bT⟩:=q
 obtain ⟨bo,bp,rfl,b8⟩:=bT
 replace aS:Cl az bt (bU + aj * 1) [.slice bo bq.length bp]:=aS
 refine oR Z (zo Z ba bE aR zd zP (wBJ be)) (oL Z (aT.ldC (f:=0) aS (v:=.slice bo bq.length bp) Z Z zR Z) (oA Z Z (eN (sR fL3 Z (oM Z Z (oR Z (zU Z Z zA) (oR Z (Zh Z Z Z) (eN (ifc bP ?_ ?_)))))))))
 intro aQ bQ
 refine cT Z aQ (sR fL1 Z (oA Z Z (eN (zI (zh (zJ ?_))))))
 have q:=wAp bQ
 obtain ⟨bV,bR,bA⟩:=q
 have q:=wCd aX aU (bI bV bA)
 obtain rfl:=q
 refine zJ (zh (zJ ?_))
 have hE:=nD bR;first | subst r | cases hE
 exact ⟨rfl,_,(zk rfl),az,_,(aT.pick [] _ (by decide) rfl),rfl,rfl⟩
 intro aQ bS
 refine cF Z aQ (ZQ (zq (zK (rR fL2 Z (oR Z (ZJ (zm Z aR Z) (congrArg (jV) bL.out)) (oM Z Z (zu ?_)))))))
 have q:=nD bS
 obtain rfl:=q
 exact zK ⟨Z,_,Z,⟨az,Z,ba,bb,bm,aT⟩⟩
 rintro ⟨⟩ cn bZ ⟨br,bC,b5,bB,cd,bG⟩ bJ
 have bi:=wDA aX aU bJ
 try dsimp only at bi
 have bz:Hid (¬ ((↑(((↑p1.Times.length:Int):Int) - 0).toNat:Int) < (↑p1.Times.length:Int))):=zM (wBb)
 refine sR fL1 Z (oR Z (ze Z bC bB) (eN (zH (cF Z bz (ZO (zn (zn (ZK (zK (sR fL1 Z (oA Z Z (eN (zI ?_)))))))))))))
 have hE:=nD bi;first | subst r | cases hE
 exact ⟨rfl,_,(zk rfl),br,_,(bG.pick [] _ (by decide) rfl),rfl,rfl⟩
theorem wBR (w:World) (U:PHeap) (hS:St0 w U []) {r:Bool} (hm:wAi=some r):Gv Tryz.prog 13 [] w (wCQ w [] U (fun U_ L_ v=>v=.bool r/\L_=[])):=by
 cases hm
 refine (xr13 w).mono ?_
 rintro v w' ⟨rfl,k⟩
 exact ⟨U,[],hS.grow k,Z,Z⟩
theorem wBA (p0:List Int) (ak:Option Addr) (am:Nat) (w:World) (U:PHeap) (hS:St0 w U []) (aQ:Sl U 1 ak am p0.length (hH KL.encI p0)) {r:(List Int)} (hm:wAO p0=some r):Gv Tryz.prog 38 [.slice ak p0.length am] w (wCQ w [] U (fun U_ L_ v=>∃ (A0:Option Addr) (c0:Nat),v=.slice A0 r.length c0/\L_=[.row A0 c0 3 1 (hH KL.encI r)])):=by
 unfold wAO at hm
 refine Gv.of Tryz.func38 Z Tryz.ntmps38 Tryz.results38 Z (sR fL1 Z (oA Z Z (eN (sR gAq Z (oM Z Z ?_)))))
 have av:=hS.nilrow 3 1
 have aj:sW w U U [.row none 0 3 1 (hH KL.encI ([]:List Int))] w:=av
 refine bnK hm fun x4 h5 aR=>OKS.append (j:=0) (enc:=KL.encI) (xs:=([]:List Int)) (ys:=p0) (zs:=x4) Z Z Z Z Z Zj wDz Z Z Z Z Z Z aj Z Z Z (aj.srcS aQ) (fun _=>Z) (fun _=>Z) h5 Z ?_
 intro A7 c8 W9 az
 have aP:sW w U U [.row A7 c8 3 1 (hH KL.encI x4)] W9:=az
 refine oA Z Z (eN (zI ?_))
 have hE:=nD aR;first | subst r | cases hE
 exact ⟨Z,_,(zk Z),U,_,aP,A7,c8,Z,Z⟩
theorem wBF (p0:wAA) (ae:Option Addr) (ah:Nat) (w:World) (U:PHeap) (hS:St0 w U []) (bg:Sl U 1 ae ah p0.Classes.length (hH KL.encI p0.Classes)) {r:wAA} (hm:wAf p0=some r):Gv Tryz.prog 36 [.agg #[.slice ae p0.Classes.length ah,jV p0.Each,jV p0.Laps,jV p0.Spare,jV p0.Loop,jV p0.Unused]] w (wCQ w [] U (fun U_ L_ v=>∃ (az:Option Addr) (aQ:Nat),v=.agg #[.slice az r.Classes.length aQ,jV r.Each,jV r.Laps,jV r.Spare,jV r.Loop,jV r.Unused]/\L_=[.row az aQ 3 1 (hH KL.encI r.Classes)])):=by
 unfold wAf at hm
 refine Gv.of Tryz.func36 Z Tryz.ntmps36 Tryz.results36 Z (sR gAg Z ?_)
 let B0:List Value:=[.slice ae p0.Classes.length ah,jV p0.Each,jV p0.Laps,jV p0.Spare,jV p0.Loop,jV p0.Unused]
 refine zy (cs:=B0) rfl rfl rfl rfl rfl rfl (by rfl) hS ?_
 intro W1 b2 be
 let B1:List Value:=[.slice none 0 0,jV 0,jV 0,jV 0,jV 0,jV 0]
 refine ZG (cs:=B1) Z Z Z Z Z Tryz.zeroValue24 Z be ?_
 intro W5 b6 aT
 refine eN (sR (.fl 0 (.fl 1 (.fx 2 (.fl 3 (.fx 4 .nil .stop)) .stop))) Z (oR Z (zS Z Z zW Z zP) (oL Z (aT.ldB (j:=1) Z Z Z zR (v:=.slice ae p0.Classes.length ah) Z) (bnK hm fun x9 aY bh=>zD 0 Z Z Z Z (zE Z Z Tryz.call38 (zB Z zL) Z) aT (fun hs=>wBA p0.Classes ae ah W5 U hs bg aY) (.inr Z) ?_))))
 rintro aj bi bo aU bm aZ ⟨ai,ak,rfl,rfl⟩
 let B2:Res:=.row ai ak 3 1 (hH KL.encI x9)
 have a0:sW w U aj [B2,.blk b6 24 B1,.blk b2 24 B0] aU:=aZ
 refine oR Z (zS Z Z zW Z zP) (ZW (j:=2) (vs:=[.slice ai x9.length ak]) Z Z Z Z a0 Z Z Z Z zP (zY Z) Z Z Z ?_)
 intro aV ba
 let B3:List Value:=[.slice ai x9.length ak,jV p0.Each,jV p0.Laps,jV p0.Spare,jV p0.Loop,jV p0.Unused]
 have aR:sW w U aj [B2,.blk b6 24 B1,.blk b2 24 B3] aV:=ba
 refine eN (sR gAh Z (oL Z (aR.ldBA (j:=2) Z Z Z ZC zr (vs:=B3) Z Z) (ZW (j:=1) (vs:=B3) Z Z Z Z aR Z Z Z Z zr (zY Z) Z Z Z ?_)))
 intro aW bb
 have aS:sW w U aj [B2,.blk b6 24 B3,.blk b2 24 B3] aW:=bb
 refine eN (zI ?_)
 cases bh
 exact ⟨rfl,_,(wOa (v:=.agg B3.toArray) ⟨⟨_,rfl,(wMQ ZC zr (aS.blkAt (k:=1) rfl) (vs:=B3) rfl rfl)⟩,trivial⟩),aj,_,(aS.pick [0] _ (by decide) rfl),ai,ak,rfl,rfl⟩
theorem wDd (p0:List (List Int)) (aZ:Option Addr) (ba:Nat) (w:World) (U:PHeap) (hS:St0 w U []) (cr:SlR U wDX aZ ba p0) {r:(List (List Int))} (hm:wBC p0=some r):Gv Tryz.prog 108 [.slice aZ p0.length ba] w (wCQ w [] U (fun U_ L_ v=>∃ (A0:Option Addr) (c0:Nat) (bC:List Hd),v=.slice A0 r.length c0/\L_=[.row A0 c0 22 1 (hH wEi bC),inn 3 1 KL.encI bC r])):=by
 unfold wBC at hm
 refine Gv.of Tryz.func108 Z Tryz.ntmps108 Tryz.results108 Z (sR fL1 Z (oA Z Z (eN (sR fL1 Z (oA Z Z (eN (zH (sR fL3 Z (oM Z Z (oR Z (zU Z Z zd) (oM Z Z (eN (zZ (bnK hm fun cP cu cz=>?_))))))))))))))
 have q:=wCq cu
 obtain ⟨aY,cw⟩:=q
 replace aY:=zM aY
 refine CK.forN' (fun am aj σ_ w_=>∃ (U_:PHeap) (ap:Option Addr) (aP:Nat) (ab:List Hd),σ_ 8=jV (↑am:Int)/\σ_ 3=.slice ap aj.length aP/\σ_ 6=.slice aZ p0.length ba/\σ_ 7=jV (↑p0.length:Int)/\PHeap.Le U U_/\sW w U U_ [.row ap aP 22 1 (hH wEi ab),inn 3 1 KL.encI ab aj] w_) cw ?_ ?_ ?_
 have b9:=hS.nilrow 22 1
 have cb:=b9.innNil 3 1 KL.encI
 have cd:sW w U U [inn 3 1 KL.encI ([]:List Hd) ([]:List (List Int)),.row none 0 22 1 []] w:=cb
 exact ⟨U,none,0,[],rfl,rfl,rfl,rfl,(zX _),(cd.pick [1,0] _ (by decide) rfl)⟩
 rintro am aj cO cR bH aX ⟨bo,ap,aP,ab,aT,bO,bt,bw,bE,bB⟩ cE
 have br:Hid ((↑am:Int) < (↑p0.length:Int)):=zM (wCE aX)
 replace aX:=zM aX
 have cx:Hid (w64 ((↑am:Int) + 1)=(↑(am + 1):Int)):=zM (by have h1:=aY.out;have h2:=br.out;rw [wAa] <;> omega)
 refine sR fL1 Z (oR Z (ze Z aT bw) (eN (zH (cT Z br (kN (zH (zZ (sR fL3 Z (bnK cE fun be bz cA=>?_)))))))))
 have bR:=cr.le bE
 have q:=bR.el (wAQ bz)
 obtain ⟨bJ,cH,cN,bV,aU,cD⟩:=q
 obtain ⟨a0,bb,rfl,bS⟩:=cD
 replace aU:Cl bo bJ (cH + am * 1) [.slice a0 be.length bb]:=aU
 refine oR Z (zo Z bt bV aT zd zP (wBJ bz)) (oL Z (bB.ldC (f:=0) aU (v:=.slice a0 be.length bb) Z Z zR Z) (oA Z Z (eN (rR (.fl 0 (.fl 1 (.fx 2 (.fx 3 (.fx 4 (.fl 5 .nil) .stop) .stop) .stop))) Z (oM Z bO (oM Z Z (bnK cA fun aa bT cB=>zD 0 Z Z Z Z (zE Z Z Tryz.call38 (zB Z zL) Z) bB (fun hs=>wBA be a0 bb bH bo hs bS bT) (.inr Z) ?_)))))))
 rintro ai cI cM bI cG cf ⟨ae,ah,rfl,rfl⟩
 let B0:Res:=.row ap aP 22 1 (hH wEi ab)
 let B1:Res:=.row ae ah 3 1 (hH KL.encI aa)
 have cg:sW w U ai [B1,B0,inn 3 1 KL.encI ab aj] bI:=cf
 let B2:List Value:=[.slice ae aa.length ah]
 refine Zf (pv:=[(0,.slice ae aa.length ah)]) (zs:=[.slice none 0 0]) (cs:=B2) Z Z Z Z Z (wAR Z wBz) zd zP Tryz.zeroValue22 Z Z Z Z Z cg ?_
 intro aS bp cj
 let B3:Res:=.row (some ⟨bp,0,none⟩) 1 22 1 B2
 have cm:sW w U ai [B3,B1,B0,inn 3 1 KL.encI ab aj] aS:=cj
 have cn:sW w U ai [B1,B3,B0,inn 3 1 KL.encI ab aj] aS:=cm.pick [1,0,2,3] _ (by decide) rfl
 have cp:=cn.innOne
 let B4:Res:=.row (some ⟨bp,0,none⟩) 1 22 1 (hH wEi [(⟨ae,aa.length,ah⟩:Hd)])
 have aQ:sW w U ai [inn 3 1 KL.encI [(⟨ae,aa.length,ah⟩:Hd)] [aa],B4,B0,inn 3 1 KL.encI ab aj] aS:=cp
 refine bnK cB fun bg bU cC=>?_
 have aV:=aQ.innFit (j:=3) rfl
 have aW:=aQ.innFit (j:=0) rfl
 have q:=wRU bU aV aW
 obtain ⟨ct,bD⟩:=q
 refine OKS.append (j:=2) (enc:=wEi) (xs:=ab) (ys:=[(⟨ae,aa.length,ah⟩:Hd)]) rfl rfl rfl rfl rfl Tryz.underlying46 wSJ rfl rfl rfl rfl rfl rfl aQ rfl (slen rfl aV) (slen rfl aW) (aQ.srcR (j:=1) rfl (by decide) (wAH (f:=wEi) (sz:=1) (fun _=>rfl) [(⟨ae,aa.length,ah⟩:Hd)])) (fun _=>rfl) (fun _=>rfl) ct rfl ?_
 intro bi bs az cq
 have cy:(ab ++ [(⟨ae,aa.length,ah⟩:Hd)]:List Hd).length=bg.length:=by rw [bD,nI,nI,aV.len,aW.len]
 rw [cy]
 let B5:Res:=.row bi bs 22 1 (hH wEi (ab ++ [(⟨ae,aa.length,ah⟩:Hd)]:List Hd))
 have bW:sW w U ai [inn 3 1 KL.encI [(⟨ae,aa.length,ah⟩:Hd)] [aa],B4,B5,inn 3 1 KL.encI ab aj] az:=cq
 have bX:sW w U ai [inn 3 1 KL.encI ab aj,inn 3 1 KL.encI [(⟨ae,aa.length,ah⟩:Hd)] [aa],B4,B5] az:=bW.pick [3,0,1,2] _ (by decide) rfl
 have bA:=bX.innApp
 rw [<- bD] at bA
 have bY:sW w U ai [inn 3 1 KL.encI (ab ++ [(⟨ae,aa.length,ah⟩:Hd)]:List Hd) bg,B4,B5] az:=bA
 have bZ:=bY.drop 1
 have b5:sW w U ai [inn 3 1 KL.encI (ab ++ [(⟨ae,aa.length,ah⟩:Hd)]:List Hd) bg,B5] az:=bZ
 refine oA Z Z (zu (zq (zK (rR fL2 Z (oR Z (ZJ (zm Z aT Z) (congrArg (jV) cx.out)) (oM Z Z (zu ?_)))))))
 cases cC
 exact zK ⟨rfl,⟨ai,bi,bs,(ab ++ [(⟨ae,aa.length,ah⟩:Hd)]:List Hd),rfl,rfl,bt,bw,(bE.trans cG),(b5.pick [1,0] _ (by decide) rfl)⟩⟩
 rintro cQ cJ ⟨bG,bF,bK,bQ,bP,bM,cK,bN,cL,b8⟩
 have bL:Hid (¬ ((↑(((↑p0.length:Int):Int) - 0).toNat:Int) < (↑p0.length:Int))):=zM (wBb)
 refine sR fL1 Z (oR Z (ze Z bP bN) (eN (zH (cF Z bL (ZO (zn (zn (ZK (zK (sR fL2 Z (oM Z bM (oA Z Z (eN (zI ?_))))))))))))))
 have hE:=nD cz;first | subst r | cases hE
 exact ⟨Z,_,(zk Z),bG,_,b8,bF,bK,bQ,Z,Z⟩
theorem wCT (p0:wAB) (ae:Option Addr) (ai:Nat) (ah:Option Addr) (aj:Nat) (w:World) (U:PHeap) (hS:St0 w U []) (bC:Sl U 1 ae ai p0.Classes.length (hH KL.encI p0.Classes)) (bD:SlR U wDX ah aj p0.Times) {r:wAB} (hm:wAg p0=some r):Gv Tryz.prog 37 [.agg #[.slice ae p0.Classes.length ai,.slice ah p0.Times.length aj]] w (wCQ w [] U (fun U_ L_ v=>∃ (aW:Option Addr) (bb:Nat) (aX:Option Addr) (be:Nat) (bh:List Hd),v=.agg #[.slice aW r.Classes.length bb,.slice aX r.Times.length be]/\L_=[.row aW bb 3 1 (hH KL.encI r.Classes),.row aX be 22 1 (hH wEi bh),inn 3 1 KL.encI bh r.Times])):=by
 unfold wAg at hm
 refine Gv.of Tryz.func37 Z Tryz.ntmps37 Tryz.results37 Z (sR gAg Z ?_)
 let B0:List Value:=[.slice ae p0.Classes.length ai,.slice ah p0.Times.length aj]
 refine zy (cs:=B0) rfl rfl rfl rfl rfl rfl (by rfl) hS ?_
 intro W1 b2 bt
 let B1:List Value:=[.slice none 0 0,.slice none 0 0]
 refine ZG (cs:=B1) Z Z Z Z Z Tryz.zeroValue93 Z bt ?_
 intro W5 b6 bB
 refine eN (zH (ZM ZI [3,1,2,3,1,2,3,0] (.fl 0 (.fl 1 (.fl 3 (.fl 4 (.fx 2 (.fx 5 (.fl 6 (.fx 7 .nil .stop)) .stop) .stop))))) (by kernel_rfl) ?_))
 have aP:=bB.drew
 generalize hw_W10:({ W5 with drawn:=W5.drawn + 1 }:World)=bi at aP ⊢
 refine oR Z (zS Z Z zg Z zP) (oL Z (aP.ldB (j:=1) Z Z Z zR (v:=.slice ae p0.Classes.length ai) Z) (oR Z (zS Z Z zg Z ZH) (oL Z (aP.ldB (j:=1) Z Z Z ZL (v:=.slice ah p0.Times.length aj) Z) (bnK hm fun aV bo bE=>zD 0 Z Z Z Z (zE Z Z Tryz.call38 (zB Z zL) Z) aP (fun hs=>wBA p0.Classes ae ai bi U hs bC bo) (.inr Z) ?_))))
 rintro aZ bH bL a0 bG br ⟨ak,au,rfl,rfl⟩
 let B2:Res:=.row ak au 3 1 (hH KL.encI aV)
 have bs:sW w U aZ [B2,.blk b6 93 B1,.blk b2 93 B0] a0:=br
 have bp:=bD.le bG
 refine bnK bE fun aQ bq bF=>zD 0 Z Z Z Z (zE Z Z Tryz.call108 (zB Z zL) Z) bs (fun hs=>wDd p0.Times ah aj a0 aZ hs bp bq) (.inr Z) ?_
 rintro aS bI bM bj bK bw ⟨am,av,az,rfl,rfl⟩
 let B3:Res:=.row am av 22 1 (hH wEi az)
 have bz:sW w U aS [B3,inn 3 1 KL.encI az aQ,B2,.blk b6 93 B1,.blk b2 93 B0] bj:=bw
 let B4:List Value:=[.slice ak aV.length au,.slice am aQ.length av]
 refine oR Z (Zm (pv:=[(0,.slice ak aV.length au),(1,.slice am aQ.length av)]) (z:=B1) (cs:=B4) Z (wAR Z (wAR Z wBz)) Tryz.zeroValue93 wOr Z Z) (ZW (j:=3) (vs:=B4) Z Z Z Z bz Z Z Z Z zw (zY Z) Z Z Z ?_)
 intro bm bA
 have bg:sW w U aS [B3,inn 3 1 KL.encI az aQ,B2,.blk b6 93 B4,.blk b2 93 B0] bm:=bA
 refine eN (zI ?_)
 cases bF
 exact ⟨rfl,_,(wOa (v:=.agg B4.toArray) ⟨⟨_,rfl,(wMQ ZF zw (bg.blkAt (k:=3) rfl) (vs:=B4) rfl rfl)⟩,trivial⟩),aS,_,(bg.pick [2,0,1] _ (by decide) rfl),ak,au,am,av,az,rfl,rfl⟩
theorem wBy (p0:wAB) (ap:Option Addr) (au:Nat) (aq:Option Addr) (av:Nat) (w:World) (U:PHeap) (hS:St0 w U []) (bs:Sl U 1 ap au p0.Classes.length (hH KL.encI p0.Classes)) (bt:SlR U wDX aq av p0.Times) {r:wAC} (hm:wBi p0=some r):Gv Tryz.prog 39 [.agg #[.slice ap p0.Classes.length au,.slice aq p0.Times.length av]] w (wCQ w [] U (fun U_ L_ v=>∃ (aV:Option Addr) (aZ:Nat) (aW:Option Addr) (a0:Nat),v=.agg #[.slice aV r.Classes.length aZ,.slice aW r.Times.length a0]/\L_=[.row aV aZ 3 1 (hH KL.encI r.Classes)]/\SlR U_ wDX aW a0 r.Times)):=by
 unfold wBi at hm
 refine Gv.of Tryz.func39 Z Tryz.ntmps39 Tryz.results39 Z (sR gAg Z ?_)
 let B0:List Value:=[.slice ap p0.Classes.length au,.slice aq p0.Times.length av]
 refine zy (cs:=B0) rfl rfl rfl rfl rfl rfl (by rfl) hS ?_
 intro W1 b2 bo
 let B1:List Value:=[.slice none 0 0,.slice none 0 0]
 refine ZG (cs:=B1) Z Z Z Z Z Zl Z bo ?_
 intro W5 b6 bb
 refine eN (sR (.fl 0 (.fx 1 (.fx 2 .nil .stop) .stop)) Z (oL Z (bb.ldBA (j:=1) Z Z Z ZF zw (vs:=B0) Z Z) (bnK hm fun x9 bh bw=>zD 0 Z Z Z Z (zE Z Z Tryz.call37 (zB Z zL) Z) bb (fun hs=>wCT p0 ap au aq av W5 U hs bs bt bh) (.inr Z) ?_)))
 rintro aY bA bE aR bC bi ⟨az,aS,aP,aT,aU,rfl,rfl⟩
 let B2:Res:=.row az aS 3 1 (hH KL.encI x9.Classes)
 let B3:Res:=.row aP aT 22 1 (hH wEi aU)
 have bj:sW w U aY [B2,B3,inn 3 1 KL.encI aU x9.Times,.blk b6 98 B1,.blk b2 93 B0] aR:=bi
 have bm:sW w U aY [B3,inn 3 1 KL.encI aU x9.Times,B2,.blk b6 98 B1,.blk b2 93 B0] aR:=bj.pick [1,2,0,3,4] _ (by decide) rfl
 have q:=St.freezeN (R:=wDX) bm (fun _ _ _ _ h=>⟨_,_,rfl,h⟩) (fun _=>rfl) (by decide) rfl
 obtain ⟨aQ,bD,bz,bp⟩:=q
 have bq:sW w U aQ [B2,.blk b6 98 B1,.blk b2 93 B0] aR:=bp
 let B4:List Value:=[.slice az x9.Classes.length aS,.slice aP x9.Times.length aT]
 refine ZW (j:=1) (vs:=B4) Z Z Z Z bq Z Z Z Z ZN (zY Z) Z Z Z ?_
 intro be br
 have ba:sW w U aQ [B2,.blk b6 98 B4,.blk b2 93 B0] be:=br
 refine eN (zI ?_)
 cases bw
 exact ⟨rfl,_,(wOa (v:=.agg B4.toArray) ⟨⟨_,rfl,(wMQ ZT ZN (ba.blkAt (k:=1) rfl) (vs:=B4) rfl rfl)⟩,trivial⟩),aQ,_,(ba.pick [0] _ (by decide) rfl),az,aS,aP,aT,rfl,rfl,bz⟩
theorem wCa (p0:Int) (p1:Int) (p2:Int) (w:World) (U:PHeap) (hS:St0 w U [])  {r:Bool} (hm:wBr p0 p1 p2=some r):Gv Tryz.prog 104 [jV p0,jV p1,jV p2] w (wCQ w [] U (fun U_ L_ v=>v=.bool r/\L_=[])):=by
 unfold wBr at hm
 refine Gv.of Tryz.func104 Z Tryz.ntmps104 Tryz.results104 Z (sR fL1 Z (oA Z Z (eN (sR fL9 Z (oM Z Z (oM Z Z (oR Z (Runs.geq Z Z Z) (oM Z Z ?_))))))))
 by_cases c1:p1 <= p0
 have ab:=hm;rw [if_pos c1] at ab;replace c1:=zM c1
 refine zf Z Z Z (wT Z c1) Z Z (zf Z Z Z (wT Z c1) Z Z (rU Z (wT Z c1) (Runs.leq Z Z Z) (oR Z (zQ Z (Zi c1.out) Z) (oA Z Z (eN (zI ?_))))))
 first | (obtain rfl:=nD ab) | cases ab
 exact ⟨Z,_,(zk Z),U,_,hS,Z,Z⟩
 have ai:=hm;rw [if_neg c1] at ai;replace c1:=zM c1
 refine oF Z c1 (oF Z c1 (oF Z c1 (oR Z (zO Z (zt c1.out) Z) (oA Z Z (eN (zI ?_))))))
 have hE:=nD ai;first | subst r | cases hE
 exact ⟨Z,_,(zk Z),U,_,hS,Z,Z⟩
theorem wFP (p0:Int) (p1:(Int->Option Bool)) (ai:Nat) (ab:Value) (w:World) (U:PHeap) (hS:St0 w U []) (aq:Cl U ai 0 [ab]) (au:FnOK Tryz.prog U ab wHF wHG p1) {r:Bool} (hm:wBc p0 p1=some r):Gv Tryz.prog 200 [jV p0,.pointer (some ⟨ai,0,none⟩)] w (wCQ w [] U (fun U_ L_ v=>v=.bool r/\L_=[])):=by
 unfold wBc at hm
 refine Gv.of Tryz.func200 Z Tryz.ntmps200 Tryz.results200 Z (sR fL1 Z (oA Z Z (eN (sR gAy Z (oL Z (hS.ldC (f:=0) aq (v:=ab) Z Z Tryz.isAgg131 Z) (oM Z Z (bnK hm fun x1 h2 av=>OKS.callV (a:=p0) Z Z Z Z Z Z (zB Z zL) hS au Z h2 ?_)))))))
 rintro U4 L5 v6 W7 aP ap ⟨rfl,rfl⟩
 have am:sW w U U4 [] W7:=ap
 refine oR Z (ZR Z Z) (oA Z Z (eN (zI ?_)))
 cases av
 exact ⟨Z,_,(zk Z),U4,_,am,Z,Z⟩
theorem wDQ (p0:List Int) (aq:Option Addr) (au:Nat) (p1:(Int->Option Bool)) (av:Value) (w:World) (U:PHeap) (hS:St0 w U []) (br:Sl U 1 aq au p0.length (hH KL.encI p0)) (bs:FnOK Tryz.prog U av wHF wHG p1) {r:Int} (hm:wBX p0 p1=some r):Gv Tryz.prog 276 [.slice aq p0.length au,av] w (wCQ w [] U (fun U_ L_ v=>v=jV r/\L_=[])):=by
 unfold wBX at hm
 refine Gv.of Tryz.func276 Z Tryz.ntmps276 Tryz.results276 Z (sR fL1 Z (oA Z Z (eN (zH (sR fL3 Z (oM Z Z (oR Z (zU Z Z zA) (oM Z Z (eN (zZ ?_))))))))))
 have q:=wCP hm
 obtain ⟨r3,aj⟩:=q
 have q:=wCO aj
 obtain ⟨am,bz⟩:=q
 replace am:=zM am
 refine Zk (fun k2 _ σ_ w_=>∃ (U_:PHeap),σ_ 8=jV (↑k2:Int)/\σ_ 0=.slice aq p0.length au/\σ_ 1=av/\σ_ 7=jV (↑p0.length:Int)/\PHeap.Le U U_/\sW w U U_ [] w_) bz ?_ ?_ ?_
 exact ⟨U,Z,Z,Z,Z,(zX _),hS⟩
 rintro k2 ⟨⟩ bU bW W8 ak ⟨bJ,ai,aP,aQ,aR,ap,aT⟩ aW bt
 try dsimp only at aW
 have az:Hid ((↑k2:Int) < (↑p0.length:Int)):=zM (wCE ak)
 replace ak:=zM ak
 have bA:Hid (w64 ((↑k2:Int) + 1)=(↑(k2 + 1):Int)):=zM (by have h1:=am.out;have h2:=az.out;rw [wAa] <;> omega)
 refine sR fL1 Z (oR Z (ze Z ai aR) (eN (zH (cT Z az (kN (zH (zZ (sR fL2 Z (oM Z ai (oA Z Z (eN (sR (wFk (.fx 5 .nil .stop)) Z (oM Z aQ (oM Z aP (oM Z Z (bnK aW fun aY aS bB=>?_))))))))))))))))
 have bh:=br.le ap
 have q:=bh.el (fun _=>rfl) (wAQ aS)
 obtain ⟨bM,bQ,bm,bo⟩:=q
 refine oR Z (zo Z Z bm Z zA zC (wBJ aS)) (oL Z (aT.ldC (f:=0) bo (v:=jV aY) Z Z zN Z) (bnK bB fun bT bi bC=>?_))
 have bj:=bs.le ap
 refine OKS.callV (a:=aY) Z Z Z Z Z Z (zB Z zL) aT bj Z bi ?_
 rintro ae bI bS a0 bG bp ⟨rfl,rfl⟩
 have aU:sW w U ae [] a0:=bp
 refine eN (ifc bC ?_ ?_)
 intro ah bD
 refine zp (congrArg nA ah.out) (sR fL2 Z (oM Z Z (oA Z Z (eN (zI (zh (zJ ?_)))))))
 have q:=wAp bD
 obtain ⟨bH,bE,bb⟩:=q
 have q:=wCd hm aj (bt bH bb)
 obtain rfl:=q
 refine zJ (zh (zJ ?_))
 cases bE
 exact ⟨Z,_,(zk Z),ae,_,aU,Z,Z⟩
 intro ah bF
 refine zj (congrArg nA (nB.2 ah.out)) (ZQ (zq (zK (rR fL2 Z (oR Z (ZJ (zm Z ai Z) (congrArg (jV) bA.out)) (oM Z Z (zu ?_)))))))
 have q:=nD bF
 obtain rfl:=q
 exact zK ⟨Z,_,Z,⟨ae,Z,aP,aQ,aR,(ap.trans bG),aU⟩⟩
 rintro ⟨⟩ bV bK ⟨aZ,bg,bN,bO,be,bP,bq⟩ bw
 have aV:=wDA hm aj bw
 try dsimp only at aV
 have ba:Hid (¬ ((↑(((↑p0.length:Int):Int) - 0).toNat:Int) < (↑p0.length:Int))):=zM (wBb)
 refine sR fL1 Z (oR Z (ze Z bg be) (eN (zH (cF Z ba (ZO (zn (zn (ZK (zK (sR fL1 Z (oA Z Z (eN (zI ?_)))))))))))))
 cases aV
 exact ⟨Z,_,(zk Z),aZ,_,bq,Z,Z⟩
theorem wCz (p0:List Int) (ae:Option Addr) (ah:Nat) (p1:(Int->Option Bool)) (ai:Value) (w:World) (U:PHeap) (hS:St0 w U []) (av:Sl U 1 ae ah p0.length (hH KL.encI p0)) (az:FnOK Tryz.prog U ai wHF wHG p1) {r:Bool} (hm:wBI p0 p1=some r):Gv Tryz.prog 199 [.slice ae p0.length ah,ai] w (wCQ w [] U (fun U_ L_ v=>v=.bool r/\L_=[])):=by
 unfold wBI at hm
 refine Gv.of Tryz.func199 Z Tryz.ntmps199 Tryz.results199 Z (sR fL1 Z (oA Z Z (eN (sR gAy Z (oM Z Z (oM Z Z (bnK hm fun x1 h2 ak=>zD 0 Z Z Z Z (zE Z Z Tryz.call276 (zB Z (zB Z zL)) Z) hS (fun hs=>wDQ p0 ae ah p1 ai w U hs av az h2) (.inr Z) ?_)))))))
 rintro U4 L5 v6 W7 aQ au ⟨rfl,rfl⟩
 have aq:sW w U U4 [] W7:=au
 refine oR Z (Runs.geq Z Z Z) (oA Z Z (eN (zI ?_)))
 first | (obtain rfl:=nD ak) | cases ak
 exact ⟨Z,_,(zk Z),U4,_,aq,Z,Z⟩
theorem wBt (p0:List Int) (ak:Option Addr) (am:Nat) (p1:(Int->Option Bool)) (ai:Value) (w:World) (U:PHeap) (hS:St0 w U []) (aZ:Sl U 1 ak am p0.length (hH KL.encI p0)) (au:FnOK Tryz.prog U ai wHF wHG p1) {r:Bool} (hm:wAs p0 p1=some r):Gv Tryz.prog 114 [.slice ak p0.length am,ai] w (wCQ w [] U (fun U_ L_ v=>v=.bool r/\L_=[])):=by
 unfold wAs at hm
 refine Gv.of Tryz.func114 Z Tryz.ntmps114 Tryz.results114 Z (sR gAi Z (zy (cs:=[ai]) Z Z Z Z Z Z (FnOK.cells au) hS ?_))
 intro W1 b2 aW
 have q:=aW.freeze (k:=0) rfl
 obtain ⟨U5,av,ab,aX⟩:=q
 replace ab:=Cl.of ab
 have aY:sW w U U5 [] W1:=aX
 replace ab:Cl U5 b2 0 [ai]:=ab
 refine oA Z Z (eN (sR gAy Z (oM Z Z (oR Z (Runs.mkf Z zL (zB Z zL)) ?_))))
 have aQ:=aZ.le av
 have aR:=au.le av
 have aT:FnOK Tryz.prog U5 (.func (.func 200) #[] #[.pointer (some ⟨b2,0,none⟩)]) wHF wHG (fun x=>wBc x p1):=⟨200,[],[.pointer (some ⟨b2,0,none⟩)],rfl,Tryz.call200,fun U1 w1 x y vs le hs ha hm=>by obtain rfl:=ha;exact wFP x p1 b2 ai w1 U1 hs (ab.le le) (aR.le le) hm⟩
 refine bnK hm fun x13 aS a0=>zD 0 Z Z Z Z (zE Z Z Tryz.call199 (zB Z (zB Z zL)) Z) aY (fun hs=>wCz p0 ak am (fun x=>wBc x p1) (.func (.func 200) #[] #[.pointer (some ⟨b2,0,none⟩)]) W1 U5 hs aQ aT aS) (.inr Z) ?_
 rintro ap bb bg aP be aU ⟨rfl,rfl⟩
 have aV:sW w U ap [] aP:=aU
 refine oR Z (ZR Z Z) (oA Z Z (eN (zI ?_)))
 cases a0
 exact ⟨Z,_,(zk Z),ap,_,aV,Z,Z⟩
theorem wFh (p0:Int) (w:World) (U:PHeap) (hS:St0 w U [])  {r:Bool} (hm:wBa p0=some r):Gv Tryz.prog 198 [jV p0] w (wCQ w [] U (fun U_ L_ v=>v=.bool r/\L_=[])):=by
 unfold wBa at hm
 refine Gv.of Tryz.func198 Z Tryz.ntmps198 Tryz.results198 Z (sR fL1 Z (oA Z Z (eN (sR gAq Z (oM Z Z (bnK hm fun x1 h2 ak=>zD 0 Z Z Z Z (zE Z Z Zq (zB Z (zB Z (zB Z zL))) Z) hS (fun hs=>wCa p0 0 3 w U hs h2) (.inr Z) ?_))))))
 rintro U4 L5 v6 W7 ap aj ⟨rfl,rfl⟩
 have ai:sW w U U4 [] W7:=aj
 refine oA Z Z (eN (zI ?_))
 have hE:=nD ak;first | subst r | cases hE
 exact ⟨Z,_,(zk Z),U4,_,ai,Z,Z⟩
theorem wEO (p0:List Int) (ab:Option Addr) (ae:Nat) (w:World) (U:PHeap) (hS:St0 w U []) (au:Sl U 1 ab ae p0.length (hH KL.encI p0)) {r:Bool} (hm:wCA p0=some r):Gv Tryz.prog 112 [.slice ab p0.length ae] w (wCQ w [] U (fun U_ L_ v=>v=.bool r/\L_=[])):=by
 unfold wCA at hm
 refine Gv.of Tryz.func112 Z Tryz.ntmps112 Tryz.results112 Z (sR fL1 Z (oA Z Z (eN (sR gAq Z (oM Z Z ?_)))))
 have am:FnOK Tryz.prog U (.func (.func 198) #[] #[]) wHF wHG wBa:=⟨198,[],[],rfl,Tryz.call198,fun U1 w1 x y vs le hs ha hm=>by obtain rfl:=ha;exact wFh x w1 U1 hs  hm⟩
 refine bnK hm fun x2 h3 av=>zD 0 Z Z Z Z (zE Z Z Tryz.call114 (zB Z (zB Z zL)) Z) hS (fun hs=>wBt p0 ab ae wBa (.func (.func 198) #[] #[]) w U hs au am h3) (.inr Z) ?_
 rintro U5 L6 v7 W8 aQ ap ⟨rfl,rfl⟩
 have aq:sW w U U5 [] W8:=ap
 refine oA Z Z (eN (zI ?_))
 have hE:=nD av;first | subst r | cases hE
 exact ⟨Z,_,(zk Z),U5,_,aq,Z,Z⟩
theorem wFx (p0:wAA) (ab:Option Addr) (ae:Nat) (w:World) (U:PHeap) (hS:St0 w U []) (ak:Sl U 1 ab ae p0.Classes.length (hH KL.encI p0.Classes)) {r:Int} (hm:wBS p0=some r):Gv Tryz.prog 270 [.agg #[.slice ab p0.Classes.length ae,jV p0.Each,jV p0.Laps,jV p0.Spare,jV p0.Loop,jV p0.Unused]] w (wCQ w [] U (fun U_ L_ v=>v=jV r/\L_=[])):=by
 unfold wBS at hm
 refine Gv.of Tryz.func270 rfl Tryz.ntmps270 Tryz.results270 rfl (sR gAi rfl (zy (cs:=[.slice ab p0.Classes.length ae,jV p0.Each,jV p0.Laps,jV p0.Spare,jV p0.Loop,jV p0.Unused]) rfl rfl rfl rfl rfl rfl (by rfl) hS ?_))
 intro W1 b2 ah
 refine oA Z Z (eN (sR fL3 Z (oR Z (zS Z Z zW Z zC) (oL Z (ah.ldB (j:=0) Z Z Z zN (v:=jV p0.Each) Z) (oA Z Z (eN (zI ?_)))))))
 cases hm
 exact ⟨rfl,_,(zk rfl),U,_,(ah.pick [] _ (by decide) rfl),rfl,rfl⟩
theorem wFy (p0:wAA) (ab:Option Addr) (ae:Nat) (w:World) (U:PHeap) (hS:St0 w U []) (ak:Sl U 1 ab ae p0.Classes.length (hH KL.encI p0.Classes)) {r:Int} (hm:wBT p0=some r):Gv Tryz.prog 271 [.agg #[.slice ab p0.Classes.length ae,jV p0.Each,jV p0.Laps,jV p0.Spare,jV p0.Loop,jV p0.Unused]] w (wCQ w [] U (fun U_ L_ v=>v=jV r/\L_=[])):=by
 unfold wBT at hm
 refine Gv.of Tryz.func271 rfl Tryz.ntmps271 Tryz.results271 rfl (sR gAi rfl (zy (cs:=[.slice ab p0.Classes.length ae,jV p0.Each,jV p0.Laps,jV p0.Spare,jV p0.Loop,jV p0.Unused]) rfl rfl rfl rfl rfl rfl (by rfl) hS ?_))
 intro W1 b2 ah
 refine oA Z Z (eN (sR fL3 Z (oR Z (zS Z Z zW Z zC) (oL Z (ah.ldB (j:=0) Z Z Z zN (v:=jV p0.Laps) Z) (oA Z Z (eN (zI ?_)))))))
 cases hm
 exact ⟨rfl,_,(zk rfl),U,_,(ah.pick [] _ (by decide) rfl),rfl,rfl⟩
theorem wFz (p0:wAA) (ab:Option Addr) (ae:Nat) (w:World) (U:PHeap) (hS:St0 w U []) (ak:Sl U 1 ab ae p0.Classes.length (hH KL.encI p0.Classes)) {r:Int} (hm:wBU p0=some r):Gv Tryz.prog 272 [.agg #[.slice ab p0.Classes.length ae,jV p0.Each,jV p0.Laps,jV p0.Spare,jV p0.Loop,jV p0.Unused]] w (wCQ w [] U (fun U_ L_ v=>v=jV r/\L_=[])):=by
 unfold wBU at hm
 refine Gv.of Tryz.func272 rfl Tryz.ntmps272 Tryz.results272 rfl (sR gAi rfl (zy (cs:=[.slice ab p0.Classes.length ae,jV p0.Each,jV p0.Laps,jV p0.Spare,jV p0.Loop,jV p0.Unused]) rfl rfl rfl rfl rfl rfl (by rfl) hS ?_))
 intro W1 b2 ah
 refine oA Z Z (eN (sR fL3 Z (oR Z (zS Z Z zW Z zC) (oL Z (ah.ldB (j:=0) Z Z Z zN (v:=jV p0.Spare) Z) (oA Z Z (eN (zI ?_)))))))
 cases hm
 exact ⟨rfl,_,(zk rfl),U,_,(ah.pick [] _ (by decide) rfl),rfl,rfl⟩
theorem wGA (p0:wAA) (ab:Option Addr) (ae:Nat) (w:World) (U:PHeap) (hS:St0 w U []) (ak:Sl U 1 ab ae p0.Classes.length (hH KL.encI p0.Classes)) {r:Int} (hm:wBV p0=some r):Gv Tryz.prog 273 [.agg #[.slice ab p0.Classes.length ae,jV p0.Each,jV p0.Laps,jV p0.Spare,jV p0.Loop,jV p0.Unused]] w (wCQ w [] U (fun U_ L_ v=>v=jV r/\L_=[])):=by
 unfold wBV at hm
 refine Gv.of Tryz.func273 rfl Tryz.ntmps273 Tryz.results273 rfl (sR gAi rfl (zy (cs:=[.slice ab p0.Classes.length ae,jV p0.Each,jV p0.Laps,jV p0.Spare,jV p0.Loop,jV p0.Unused]) rfl rfl rfl rfl rfl rfl (by rfl) hS ?_))
 intro W1 b2 ah
 refine oA Z Z (eN (sR fL3 Z (oR Z (zS Z Z zW Z zC) (oL Z (ah.ldB (j:=0) Z Z Z zN (v:=jV p0.Loop) Z) (oA Z Z (eN (zI ?_)))))))
 cases hm
 exact ⟨rfl,_,(zk rfl),U,_,(ah.pick [] _ (by decide) rfl),rfl,rfl⟩
theorem wGB (p0:wAA) (ab:Option Addr) (ae:Nat) (w:World) (U:PHeap) (hS:St0 w U []) (ak:Sl U 1 ab ae p0.Classes.length (hH KL.encI p0.Classes)) {r:Int} (hm:wBW p0=some r):Gv Tryz.prog 274 [.agg #[.slice ab p0.Classes.length ae,jV p0.Each,jV p0.Laps,jV p0.Spare,jV p0.Loop,jV p0.Unused]] w (wCQ w [] U (fun U_ L_ v=>v=jV r/\L_=[])):=by
 unfold wBW at hm
 refine Gv.of Tryz.func274 rfl Tryz.ntmps274 Tryz.results274 rfl (sR gAi rfl (zy (cs:=[.slice ab p0.Classes.length ae,jV p0.Each,jV p0.Laps,jV p0.Spare,jV p0.Loop,jV p0.Unused]) rfl rfl rfl rfl rfl rfl (by rfl) hS ?_))
 intro W1 b2 ah
 refine oA Z Z (eN (sR fL3 Z (oR Z (zS Z Z zW Z zC) (oL Z (ah.ldB (j:=0) Z Z Z zN (v:=jV p0.Unused) Z) (oA Z Z (eN (zI ?_)))))))
 cases hm
 exact ⟨rfl,_,(zk rfl),U,_,(ah.pick [] _ (by decide) rfl),rfl,rfl⟩
theorem wHY  (w:World) (U:PHeap) (hS:St0 w U [])  {r:(List wAE)} (hm:wCr =some r):Gv Tryz.prog 194 [] w (wCQ w [] U (fun U_ L_ v=>∃ (A0:Option Addr) (c0:Nat) (az:List Value),v=.slice A0 r.length c0/\L_=[.row A0 c0 342 3 az]/\RlL U_ wHH r az)):=by
 unfold wCr at hm
 refine Gv.of Tryz.func194 Z Tryz.ntmps194 Tryz.results194 Z (sR fL1 Z (oA Z Z (eN (sR (wFk gAj) Z ?_))))
 let B0:List Value:=[.nilFunc,jV 0,jV 0]
 let B1:List Value:=[.func (.func 270) #[] #[],jV 1,jV 4]
 refine oR Z (Zm (pv:=[(0,.func (.func 270) #[] #[]),(1,jV 1),(2,jV 4)]) (z:=B0) (cs:=B1) Z (wAR Z (wAR Z (wAR Z wBz))) Zp wEN Z Z) ?_
 let B2:List Value:=[.func (.func 271) #[] #[],jV 1,jV 5]
 refine oR Z (Zm (pv:=[(0,.func (.func 271) #[] #[]),(1,jV 1),(2,jV 5)]) (z:=B0) (cs:=B2) Z (wAR Z (wAR Z (wAR Z wBz))) Zp wEN Z Z) ?_
 let B3:List Value:=[.func (.func 272) #[] #[],jV 0,jV 600]
 refine oR Z (Zm (pv:=[(0,.func (.func 272) #[] #[]),(1,jV 0),(2,jV 600)]) (z:=B0) (cs:=B3) Z (wAR Z (wAR Z (wAR Z wBz))) Zp wEN Z Z) ?_
 let B4:List Value:=[.func (.func 273) #[] #[],jV 0,jV 600]
 refine oR Z (Zm (pv:=[(0,.func (.func 273) #[] #[]),(1,jV 0),(2,jV 600)]) (z:=B0) (cs:=B4) Z (wAR Z (wAR Z (wAR Z wBz))) Zp wEN Z Z) ?_
 let B5:List Value:=[.func (.func 274) #[] #[],jV 0,jV 6000]
 refine oR Z (Zm (pv:=[(0,.func (.func 274) #[] #[]),(1,jV 0),(2,jV 6000)]) (z:=B0) (cs:=B5) Z (wAR Z (wAR Z (wAR Z wBz))) Zp wEN Z Z) ?_
 let B6:List Value:=[.func (.func 270) #[] #[],jV 1,jV 4,.func (.func 271) #[] #[],jV 1,jV 5,.func (.func 272) #[] #[],jV 0,jV 600,.func (.func 273) #[] #[],jV 0,jV 600,.func (.func 274) #[] #[],jV 0,jV 6000]
 refine Zf (pv:=[(0,.agg B1.toArray),(1,.agg B2.toArray),(2,.agg B3.toArray),(3,.agg B4.toArray),(4,.agg B5.toArray)]) (zs:=[.nilFunc,jV 0,jV 0,.nilFunc,jV 0,jV 0,.nilFunc,jV 0,jV 0,.nilFunc,jV 0,jV 0,.nilFunc,jV 0,jV 0]) (cs:=B6) Z Z Z Z Z (wAR Z (wAR Z (wAR Z (wAR Z (wAR Z wBz))))) Tryz.runUnderlying343 Tryz.sizeOf342 Zp Z Z Z Z Z hS ?_
 intro W1 b2 aW
 have aQ:FnOK Tryz.prog U (.func (.func 274) #[] #[]) wIY wIZ wBW:=⟨274,[],[],rfl,Tryz.call274,fun U1 w1 x y vs le hs ha hm=>by obtain ⟨pA_0_0,pc_0_0,rfl,hq0_0⟩:=ha;exact wGB x pA_0_0 pc_0_0 w1 U1 hs hq0_0 hm⟩
 have aR:FnOK Tryz.prog U (.func (.func 273) #[] #[]) wIY wIZ wBV:=⟨273,[],[],rfl,Tryz.call273,fun U1 w1 x y vs le hs ha hm=>by obtain ⟨pA_0_0,pc_0_0,rfl,hq0_0⟩:=ha;exact wGA x pA_0_0 pc_0_0 w1 U1 hs hq0_0 hm⟩
 have aS:FnOK Tryz.prog U (.func (.func 272) #[] #[]) wIY wIZ wBU:=⟨272,[],[],rfl,Tryz.call272,fun U1 w1 x y vs le hs ha hm=>by obtain ⟨pA_0_0,pc_0_0,rfl,hq0_0⟩:=ha;exact wFz x pA_0_0 pc_0_0 w1 U1 hs hq0_0 hm⟩
 have aT:FnOK Tryz.prog U (.func (.func 271) #[] #[]) wIY wIZ wBT:=⟨271,[],[],rfl,Tryz.call271,fun U1 w1 x y vs le hs ha hm=>by obtain ⟨pA_0_0,pc_0_0,rfl,hq0_0⟩:=ha;exact wFy x pA_0_0 pc_0_0 w1 U1 hs hq0_0 hm⟩
 have aU:FnOK Tryz.prog U (.func (.func 270) #[] #[]) wIY wIZ wBS:=⟨270,[],[],rfl,Tryz.call270,fun U1 w1 x y vs le hs ha hm=>by obtain ⟨pA_0_0,pc_0_0,rfl,hq0_0⟩:=ha;exact wFx x pA_0_0 pc_0_0 w1 U1 hs hq0_0 hm⟩
 have aX:RlL U wHH [(⟨wBS,1,4⟩:wAE),(⟨wBT,1,5⟩:wAE),(⟨wBU,0,600⟩:wAE),(⟨wBV,0,600⟩:wAE),(⟨wBW,0,6000⟩:wAE)] B6:=(RlL.cons (R:=wHH) (x:=(⟨wBS,1,4⟩:wAE)) (vs:=B1) ⟨(.func (.func 270) #[] #[]),rfl,aU⟩ (RlL.cons (R:=wHH) (x:=(⟨wBT,1,5⟩:wAE)) (vs:=B2) ⟨(.func (.func 271) #[] #[]),rfl,aT⟩ (RlL.cons (R:=wHH) (x:=(⟨wBU,0,600⟩:wAE)) (vs:=B3) ⟨(.func (.func 272) #[] #[]),rfl,aS⟩ (RlL.cons (R:=wHH) (x:=(⟨wBV,0,600⟩:wAE)) (vs:=B4) ⟨(.func (.func 273) #[] #[]),rfl,aR⟩ (RlL.cons (R:=wHH) (x:=(⟨wBW,0,6000⟩:wAE)) (vs:=B5) ⟨(.func (.func 274) #[] #[]),rfl,aQ⟩ RlL.nil)))))
 have aV:sW w U U [.row (some ⟨b2,0,none⟩) 5 342 3 B6] W1:=aW
 refine oA Z Z (eN (zI ?_))
 cases hm
 exact ⟨Z,_,(zk Z),U,_,aV,(some ⟨b2,0,none⟩),5,B6,Z,Z,aX⟩
end Go.Proofs.YtabadkdjndnliaaGreat
namespace Go.Proofs.YtabadkdjndnliaaGreat
open Go.KL
set_option maxHeartbeats 4000000
theorem wEY (p0:wAE) (aj:Value) (p1:wAA) (az:Nat) (ah:Option Addr) (ai:Nat) (w:World) (U:PHeap) (hS:St0 w U []) (aX:FnOK Tryz.prog U aj wIY wIZ p0.of) (aY:Cl U az 0 [.slice ah p1.Classes.length ai,jV p1.Each,jV p1.Laps,jV p1.Spare,jV p1.Loop,jV p1.Unused]) (aZ:Sl U 1 ah ai p1.Classes.length (hH KL.encI p1.Classes)) {r:Bool} (hm:wBM p0 p1=some r):Gv Tryz.prog 195 [.agg #[aj,jV p0.lo,jV p0.hi],.pointer (some ⟨az,0,none⟩)] w (wCQ w [] U (fun U_ L_ v=>v=.bool r/\L_=[])):=by
 unfold wBM at hm
 refine Gv.of Tryz.func195 Z Tryz.ntmps195 Tryz.results195 Z (sR gAi Z ?_)
 let B0:List Value:=[aj,jV p0.lo,jV p0.hi]
 refine zy (cs:=B0) rfl rfl rfl rfl rfl rfl (by rfl) hS ?_
 intro W1 b2 aW
 refine OKS.ra rfl rfl rfl rfl rfl rfl (eN (zH (ZM ZI [3,1,1,2,3,1,3,1,2,3] (wDT (fC4_7 (.fx 3 gAk .stop))) (by kernel_rfl) ?_)))
 have ae:=aW.drew
 generalize hw_W6:({ W1 with drawn:=W1.drawn + 1 }:World)=W6 at ae ⊢
 refine oR Z (zS Z Z Tryz.runUnderlying342 Z Tryz.sizeOf340) (oL Z (ae.ldB (j:=0) Z Z Z Tryz.isAgg340 (v:=aj) Z) (oL Z (ae.ldCA (f:=0) aY Z Z ZC zr (us:=[.slice ah p1.Classes.length ai,jV p1.Each,jV p1.Laps,jV p1.Spare,jV p1.Loop,jV p1.Unused]) Z Z) (oR Z (zS Z Z Tryz.runUnderlying342 Z zC) (oL Z (ae.ldB (j:=0) Z Z Z zN (v:=jV p0.lo) Z) (oR Z (zS Z Z Tryz.runUnderlying342 Z zC) (oL Z (ae.ldB (j:=0) Z Z Z zN (v:=jV p0.hi) Z) (bnK hm fun x7 h8 ba=>OKS.callV (a:=p1) Z Z Z Z Z Z (zB Z zL) ae aX ⟨ah,ai,Z,aZ⟩ h8 ?_)))))))
 rintro am be bm au bi aS ⟨rfl,rfl⟩
 have aT:sW w U am [.blk b2 342 B0] au:=aS
 refine bnK ba fun bp aQ a0=>zD 0 Z Z Z Z (zE Z Z Zq (zB Z (zB Z (zB Z zL))) Z) aT (fun hs=>wCa x7 p0.lo p0.hi au am hs aQ) (.inr Z) ?_
 rintro ap bg bo aP bj aU ⟨rfl,rfl⟩
 have aV:sW w U ap [.blk b2 342 B0] aP:=aU
 refine oA Z Z (eN (zI ?_))
 have hE:=nD a0;first | subst r | cases hE
 exact ⟨rfl,_,(zk rfl),ap,_,(aV.pick [] _ (by decide) rfl),rfl,rfl⟩
theorem wDR (p0:wAE) (ab:Value) (p1:(wAE->Option Bool)) (am:Nat) (ai:Value) (w:World) (U:PHeap) (hS:St0 w U []) (aP:FnOK Tryz.prog U ab wIY wIZ p0.of) (aQ:Cl U am 0 [ai]) (aR:FnOK Tryz.prog U ai wLm wLn p1) {r:Bool} (hm:wAb p0 p1=some r):Gv Tryz.prog 269 [.agg #[ab,jV p0.lo,jV p0.hi],.pointer (some ⟨am,0,none⟩)] w (wCQ w [] U (fun U_ L_ v=>v=.bool r/\L_=[])):=by
 unfold wAb at hm
 refine Gv.of Tryz.func269 Z Tryz.ntmps269 Tryz.results269 Z (sR gAi Z ?_)
 let B0:List Value:=[ab,jV p0.lo,jV p0.hi]
 refine zy (cs:=B0) rfl rfl rfl rfl rfl rfl (by rfl) hS ?_
 intro W1 b2 ah
 refine oA Z Z (eN (sR gAy Z (oL Z (ah.ldC (f:=0) aQ (v:=ai) Z Z Tryz.isAgg345 Z) (oL Z (ah.ldBA (j:=0) Z Z Z Tryz.isAgg342 Tryz.sizeOf342 (vs:=B0) Z Z) (bnK hm fun x5 h6 aS=>OKS.callV (a:=p0) Z Z Z Z Z Z (zB Z zL) ah aR ⟨ab,Z,aP⟩ h6 ?_)))))
 rintro U8 L9 aW ap aV av ⟨rfl,rfl⟩
 have az:sW w U U8 [.blk b2 342 B0] ap:=av
 refine oR Z (ZR Z Z) (oA Z Z (eN (zI ?_)))
 cases aS
 exact ⟨rfl,_,(zk rfl),U8,_,(az.pick [] _ (by decide) rfl),rfl,rfl⟩
theorem wCI (p0:List wAE) (av:Option Addr) (az:Nat) (p1:(wAE->Option Bool)) (aP:Value) (w:World) (U:PHeap) (hS:St0 w U []) (bz:SlR U wHH av az p0) (bA:FnOK Tryz.prog U aP wLm wLn p1) {r:Int} (hm:wAS p0 p1=some r):Gv Tryz.prog 334 [.slice av p0.length az,aP] w (wCQ w [] U (fun U_ L_ v=>v=jV r/\L_=[])):=by
 unfold wAS at hm
 refine Gv.of Tryz.func334 Z Tryz.ntmps334 Tryz.results334 Z (sR fL1 Z (oA Z Z (eN (zH (sR fL3 Z (oM Z Z (oR Z (zU Z Z Tryz.runUnderlying343) (oM Z Z (eN (zZ ?_))))))))))
 have q:=wCP hm
 obtain ⟨r3,am⟩:=q
 have q:=wCO am
 obtain ⟨aq,bD⟩:=q
 replace aq:=zM aq
 refine Zk (fun k2 _ σ_ w_=>∃ (U_:PHeap),σ_ 8=jV (↑k2:Int)/\σ_ 0=.slice av p0.length az/\σ_ 1=aP/\σ_ 7=jV (↑p0.length:Int)/\PHeap.Le U U_/\sW w U U_ [] w_) bD ?_ ?_ ?_
 exact ⟨U,Z,Z,Z,Z,(zX _),hS⟩
 rintro k2 ⟨⟩ bY b5 W8 ap ⟨ba,aj,aS,aT,aU,au,aW⟩ aZ bB
 try dsimp only at aZ
 have aR:Hid ((↑k2:Int) < (↑p0.length:Int)):=zM (wCE ap)
 replace ap:=zM ap
 have bE:Hid (w64 ((↑k2:Int) + 1)=(↑(k2 + 1):Int)):=zM (by have h1:=aq.out;have h2:=aR.out;rw [wAa] <;> omega)
 refine sR fL1 Z (oR Z (ze Z aj aU) (eN (zH (cT Z aR (kN (zH (zZ (sR fL2 Z (oM Z aj (oA Z Z (eN (sR (wFk (.fx 5 .nil .stop)) Z (oM Z aT (oM Z aS (oM Z Z (bnK aZ fun ae aV bF=>?_))))))))))))))))
 have bo:=bz.le au
 have q:=bo.el (wAQ aV)
 obtain ⟨bg,bM,bW,bs,ak,bK⟩:=q
 obtain ⟨aQ,rfl,bp⟩:=bK
 replace ak:Cl ba bg (bM + k2 * 3) [aQ,jV ae.lo,jV ae.hi]:=ak
 refine oR Z (zo Z Z bs Z Tryz.runUnderlying343 Tryz.sizeOf342 (wBJ aV)) (oL Z (aW.ldCA (f:=0) ak Z Z Tryz.isAgg342 Tryz.sizeOf342 (us:=[aQ,jV ae.lo,jV ae.hi]) Z Z) (bnK bF fun bX bq bG=>?_))
 have br:=bA.le au
 refine OKS.callV (a:=ae) Z Z Z Z Z Z (zB Z zL) aW br ⟨aQ,Z,bp⟩ bq ?_
 rintro ah bO bV be bL bt ⟨rfl,rfl⟩
 have aX:sW w U ah [] be:=bt
 refine eN (ifc bG ?_ ?_)
 intro ai bH
 refine zp (congrArg nA ai.out) (sR fL2 Z (oM Z Z (oA Z Z (eN (zI (zh (zJ ?_)))))))
 have q:=wAp bH
 obtain ⟨bN,bI,bi⟩:=q
 have q:=wCd hm am (bB bN bi)
 obtain rfl:=q
 refine zJ (zh (zJ ?_))
 cases bI
 exact ⟨Z,_,(zk Z),ah,_,aX,Z,Z⟩
 intro ai bJ
 refine zj (congrArg nA (nB.2 ai.out)) (ZQ (zq (zK (rR fL2 Z (oR Z (ZJ (zm Z aj Z) (congrArg (jV) bE.out)) (oM Z Z (zu ?_)))))))
 have q:=nD bJ
 obtain rfl:=q
 exact zK ⟨Z,_,Z,⟨ah,Z,aS,aT,aU,(au.trans bL),aX⟩⟩
 rintro ⟨⟩ bZ bP ⟨bb,bm,bR,bS,bj,bT,bw⟩ bC
 have aY:=wDA hm am bC
 try dsimp only at aY
 have bh:Hid (¬ ((↑(((↑p0.length:Int):Int) - 0).toNat:Int) < (↑p0.length:Int))):=zM (wBb)
 refine sR fL1 Z (oR Z (ze Z bm bj) (eN (zH (cF Z bh (ZO (zn (zn (ZK (zK (sR fL1 Z (oA Z Z (eN (zI ?_)))))))))))))
 cases aY
 exact ⟨Z,_,(zk Z),bb,_,bw,Z,Z⟩
theorem wCC (p0:List wAE) (ae:Option Addr) (ah:Nat) (p1:(wAE->Option Bool)) (ai:Value) (w:World) (U:PHeap) (hS:St0 w U []) (av:SlR U wHH ae ah p0) (az:FnOK Tryz.prog U ai wLm wLn p1) {r:Bool} (hm:wAM p0 p1=some r):Gv Tryz.prog 268 [.slice ae p0.length ah,ai] w (wCQ w [] U (fun U_ L_ v=>v=.bool r/\L_=[])):=by
 unfold wAM at hm
 refine Gv.of Tryz.func268 Z Tryz.ntmps268 Tryz.results268 Z (sR fL1 Z (oA Z Z (eN (sR gAy Z (oM Z Z (oM Z Z (bnK hm fun x1 h2 ak=>zD 0 Z Z Z Z (zE Z Z Tryz.call334 (zB Z (zB Z zL)) Z) hS (fun hs=>wCI p0 ae ah p1 ai w U hs av az h2) (.inr Z) ?_)))))))
 rintro U4 L5 v6 W7 aQ au ⟨rfl,rfl⟩
 have aq:sW w U U4 [] W7:=au
 refine oR Z (Runs.geq Z Z Z) (oA Z Z (eN (zI ?_)))
 first | (obtain rfl:=nD ak) | cases ak
 exact ⟨Z,_,(zk Z),U4,_,aq,Z,Z⟩
theorem wDi (p0:List wAE) (ak:Option Addr) (am:Nat) (p1:(wAE->Option Bool)) (ah:Value) (w:World) (U:PHeap) (hS:St0 w U []) (aZ:SlR U wHH ak am p0) (au:FnOK Tryz.prog U ah wLm wLn p1) {r:Bool} (hm:wBK p0 p1=some r):Gv Tryz.prog 193 [.slice ak p0.length am,ah] w (wCQ w [] U (fun U_ L_ v=>v=.bool r/\L_=[])):=by
 unfold wBK at hm
 refine Gv.of Tryz.func193 Z Tryz.ntmps193 Tryz.results193 Z (sR gAi Z (zy (cs:=[ah]) Z Z Z Z Z Z (FnOK.cells au) hS ?_))
 intro W1 b2 aW
 have q:=aW.freeze (k:=0) rfl
 obtain ⟨U5,av,ab,aX⟩:=q
 replace ab:=Cl.of ab
 have aY:sW w U U5 [] W1:=aX
 replace ab:Cl U5 b2 0 [ah]:=ab
 refine oA Z Z (eN (sR gAy Z (oM Z Z (oR Z (Runs.mkf Z zL (zB Z zL)) ?_))))
 have aQ:=aZ.le av
 have aR:=au.le av
 have aT:FnOK Tryz.prog U5 (.func (.func 269) #[] #[.pointer (some ⟨b2,0,none⟩)]) wLm wLn (fun x=>wAb x p1):=⟨269,[],[.pointer (some ⟨b2,0,none⟩)],rfl,Tryz.call269,fun U1 w1 x y vs le hs ha hm=>by obtain ⟨pv_0_0,rfl,hq0_0⟩:=ha;exact wDR x pv_0_0 p1 b2 ah w1 U1 hs hq0_0 (ab.le le) (aR.le le) hm⟩
 refine bnK hm fun x13 aS a0=>zD 0 Z Z Z Z (zE Z Z Tryz.call268 (zB Z (zB Z zL)) Z) aY (fun hs=>wCC p0 ak am (fun x=>wAb x p1) (.func (.func 269) #[] #[.pointer (some ⟨b2,0,none⟩)]) W1 U5 hs aQ aT aS) (.inr Z) ?_
 rintro ap bb bg aP be aU ⟨rfl,rfl⟩
 have aV:sW w U ap [] aP:=aU
 refine oR Z (ZR Z Z) (oA Z Z (eN (zI ?_)))
 cases a0
 exact ⟨Z,_,(zk Z),ap,_,aV,Z,Z⟩
theorem wFQ (p0:wAA) (ae:Option Addr) (ah:Nat) (w:World) (U:PHeap) (hS:St0 w U []) (bP:Sl U 1 ae ah p0.Classes.length (hH KL.encI p0.Classes)) {r:Int} (hm:wBv p0=some r):Gv Tryz.prog 109 [.agg #[.slice ae p0.Classes.length ah,jV p0.Each,jV p0.Laps,jV p0.Spare,jV p0.Loop,jV p0.Unused]] w (wCQ w [] U (fun U_ L_ v=>v=jV r/\L_=[])):=by
 unfold wBv at hm
 refine Gv.of Tryz.func109 Z Tryz.ntmps109 Tryz.results109 Z (sR gAi Z ?_)
 let B0:List Value:=[.slice ae p0.Classes.length ah,jV p0.Each,jV p0.Laps,jV p0.Spare,jV p0.Loop,jV p0.Unused]
 refine zy (cs:=B0) rfl rfl rfl rfl rfl rfl (by rfl) hS ?_
 intro W1 b2 bH
 have q:=bH.freeze (k:=0) rfl
 obtain ⟨U5,b8,ai,bO⟩:=q
 replace ai:=Cl.of ai
 have ba:sW w U U5 [] W1:=bO
 replace ai:Cl U5 b2 0 B0:=ai
 refine oA Z Z (eN (zH (zZ (sR (wDT (.fx 3 gAd .stop)) Z (oR Z (zS Z Z zW Z zP) (oL Z (ba.ldC (f:=0) ai (v:=.slice ae p0.Classes.length ah) Z Z zR Z) (oR Z (zU Z Z zA) (bnK hm fun ct bp bQ=>zD 0 Z Z Z Z (zE Z Z Zq (zB Z (zB Z (zB Z zL))) Z) ba (fun hs=>wCa (↑p0.Classes.length:Int) 1 4 W1 U5 hs bp) (.inr Z) ?_))))))))
 rintro ak cd cn aU bb bG ⟨rfl,rfl⟩
 have aQ:sW w U ak [] aU:=bG
 refine oR Z (ZR Z Z) (oA Z Z (eN (ifc bQ ?_ ?_)))
 intro az bR
 refine zj (nC az.out) (sR (.fl 0 (.fl 1 (.fx 2 (.fl 3 (.fl 4 (.fx 5 (.fl 6 (.fx 7 (wOP (.nil)) .stop)) .stop))) .stop))) Z (oR Z (zS Z Z zW Z zP) ?_))
 have aX:=ai.le bb
 refine oL Z (aQ.ldC (f:=0) aX (v:=.slice ae p0.Classes.length ah) Z Z zR Z) ?_
 have bq:=bP.le b8
 have aY:=bq.le bb
 refine bnK bR fun cu br bS=>zD 0 Z Z Z Z (zE Z Z Tryz.call112 (zB Z zL) Z) aQ (fun hs=>wEO p0.Classes ae ah aU ak hs aY br) (.inr Z) ?_
 rintro am cf cp aV be bI ⟨rfl,rfl⟩
 have aZ:sW w U am [] aV:=bI
 refine oR Z (ZR Z Z) (oM Z Z (ifc bS ?_ ?_))
 intro ab bT
 refine bnK bT fun cb bs bU=>zD 0 Z Z Z (zG Z Z (nC ab.out)) (zE Z Z Tryz.call194 zL Z) aZ (fun hs=>wHY aV am hs bs) (.inr Z) ?_
 rintro bj cg cq av bg bJ ⟨aR,aW,bo,rfl,rfl,bt⟩
 have bK:sW w U bj [.row aR aW 342 3 bo] av:=bJ
 refine zi Z Z Z (zG Z Z (nC ab.out)) (fun _=>Runs.mkf Z zL (zB Z zL)) ?_
 have q:=bK.freezeRR (R:=wHH) (k:=0) rfl bt rfl (by decide)
 obtain ⟨aq,bh,b5,bL⟩:=q
 have bM:sW w U aq [] av:=bL
 have bw:=aX.le be
 have bz:=bw.le bg
 have bA:=bz.le bh
 have bB:=aY.le be
 have bC:=bB.le bg
 have bD:=bC.le bh
 have bF:FnOK Tryz.prog aq (.func (.func 195) #[] #[.pointer (some ⟨b2,0,none⟩)]) wLm wLn (fun x=>wBM x p0):=⟨195,[],[.pointer (some ⟨b2,0,none⟩)],rfl,Tryz.call195,fun U1 w1 x y vs le hs ha hm=>by obtain ⟨pv_0_0,rfl,hq0_0⟩:=ha;exact wEY x pv_0_0 p0 b2 ae ah w1 U1 hs hq0_0 (bA.le le) (bD.le le) hm⟩
 refine bnK bU fun cw bE bV=>zD 0 Z Z Z (zG Z Z (nC ab.out)) (zE Z Z Tryz.call193 (zB Z (zB Z zL)) Z) bM (fun hs=>wDi cb aR aW (fun x=>wBM x p0) (.func (.func 195) #[] #[.pointer (some ⟨b2,0,none⟩)]) av aq hs b5 bF bE) (.inr Z) ?_
 rintro au cj cr bm cm bN ⟨rfl,rfl⟩
 have a0:sW w U au [] bm:=bN
 refine zi Z Z Z (zG Z Z (nC ab.out)) (fun _=>ZR Z Z) (oR Z (zO Z (nC ab.out) Z) (oA Z Z (eN (ifc bV ?_ ?_))))
 intro aP bW
 refine zj (nC aP.out) (ZQ (zq (zK (sR fL1 Z (oA Z Z (eN (zI ?_)))))))
 cases bW
 exact ⟨Z,_,(zk Z),au,_,a0,Z,Z⟩
 intro aP bX
 refine zp (nF (aP.out)) (sR fL1 Z (oA Z Z (eN (zI (zh (zJ ?_))))))
 cases bX
 exact ⟨Z,_,(zk Z),au,_,a0,Z,Z⟩
 intro ab bY
 refine ZA Z Z Z (zF Z Z (nF (ab.out)) Z) (zV Z Z Z (zF Z Z (nF (ab.out)) Z) (ZA Z Z Z (zF Z Z (nF (ab.out)) Z) (zV Z Z Z (zF Z Z (nF (ab.out)) Z) (oR Z (zQ Z (nF (ab.out)) Z) (oA Z Z (eN (zp Z (sR fL1 Z (oA Z Z (eN (zI (zh (zJ ?_)))))))))))))
 cases bY
 exact ⟨Z,_,(zk Z),am,_,aZ,Z,Z⟩
 intro az bZ
 refine zp (nF (az.out)) (sR fL1 Z (oA Z Z (eN (zI (zh (zJ ?_))))))
 cases bZ
 exact ⟨Z,_,(zk Z),ak,_,aQ,Z,Z⟩
theorem wEZ (p0:List Int) (ai:Option Addr) (ak:Nat) (p1:wAA) (aj:Nat) (ae:Option Addr) (ah:Nat) (w:World) (U:PHeap) (hS:St0 w U []) (ap:Sl U 1 ai ak p0.length (hH KL.encI p0)) (am:Cl U aj 0 [.slice ae p1.Classes.length ah,jV p1.Each,jV p1.Laps,jV p1.Spare,jV p1.Loop,jV p1.Unused]) (aq:Sl U 1 ae ah p1.Classes.length (hH KL.encI p1.Classes)) {r:Bool} (hm:wBN p0 p1=some r):Gv Tryz.prog 111 [.slice ai p0.length ak,.pointer (some ⟨aj,0,none⟩)] w (wCQ w [] U (fun U_ L_ v=>v=.bool r/\L_=[])):=by
 unfold wBN at hm
 refine Gv.of Tryz.func111 Z Tryz.ntmps111 Tryz.results111 Z (sR fL1 Z (oA Z Z (eN (sR fL7 Z (oM Z Z (oR Z (zU Z Z zA) (oR Z (zS Z Z zW Z zP) (oL Z (hS.ldC (f:=0) am (v:=.slice ae p1.Classes.length ah) Z Z zR Z) (oR Z (zU Z Z zA) (oR Z (Zo Z Z Z) (oA Z Z (eN (zI ?_)))))))))))))
 first | (obtain rfl:=nD hm) | cases hm
 exact ⟨Z,_,(zk Z),U,_,hS,Z,Z⟩
theorem wEA (p0:List Int) (ab:Option Addr) (ae:Nat) (p1:((List Int)->Option Bool)) (ak:Nat) (ah:Value) (w:World) (U:PHeap) (hS:St0 w U []) (av:Sl U 1 ab ae p0.length (hH KL.encI p0)) (az:Cl U ak 0 [ah]) (aP:FnOK Tryz.prog U ah wKK wKL p1) {r:Bool} (hm:wAz p0 p1=some r):Gv Tryz.prog 197 [.slice ab p0.length ae,.pointer (some ⟨ak,0,none⟩)] w (wCQ w [] U (fun U_ L_ v=>v=.bool r/\L_=[])):=by
 unfold wAz at hm
 refine Gv.of Tryz.func197 Z Tryz.ntmps197 Tryz.results197 Z (sR fL1 Z (oA Z Z (eN (sR gAy Z (oL Z (hS.ldC (f:=0) az (v:=ah) Z Z Tryz.isAgg244 Z) (oM Z Z (bnK hm fun x1 h2 aQ=>OKS.callV (a:=p0) Z Z Z Z Z Z (zB Z zL) hS aP ⟨ab,ae,Z,av⟩ h2 ?_)))))))
 rintro U4 L5 v6 W7 aS au ⟨rfl,rfl⟩
 have aq:sW w U U4 [] W7:=au
 refine oR Z (ZR Z Z) (oA Z Z (eN (zI ?_)))
 cases aQ
 exact ⟨Z,_,(zk Z),U4,_,aq,Z,Z⟩
theorem wCw (p0:List (List Int)) (au:Option Addr) (az:Nat) (p1:((List Int)->Option Bool)) (aQ:Value) (w:World) (U:PHeap) (hS:St0 w U []) (bA:SlR U wDX au az p0) (bB:FnOK Tryz.prog U aQ wKK wKL p1) {r:Int} (hm:wAx p0 p1=some r):Gv Tryz.prog 275 [.slice au p0.length az,aQ] w (wCQ w [] U (fun U_ L_ v=>v=jV r/\L_=[])):=by
 unfold wAx at hm
 refine Gv.of Tryz.func275 Z Tryz.ntmps275 Tryz.results275 Z (sR fL1 Z (oA Z Z (eN (zH (sR fL3 Z (oM Z Z (oR Z (zU Z Z zd) (oM Z Z (eN (zZ ?_))))))))))
 have q:=wCP hm
 obtain ⟨r3,ak⟩:=q
 have q:=wCO ak
 obtain ⟨ap,bE⟩:=q
 replace ap:=zM ap
 refine Zk (fun k2 _ σ_ w_=>∃ (U_:PHeap),σ_ 8=jV (↑k2:Int)/\σ_ 0=.slice au p0.length az/\σ_ 1=aQ/\σ_ 7=jV (↑p0.length:Int)/\PHeap.Le U U_/\sW w U U_ [] w_) bE ?_ ?_ ?_
 exact ⟨U,Z,Z,Z,Z,(zX _),hS⟩
 rintro k2 ⟨⟩ bZ b8 W8 am ⟨bb,ai,aT,aU,aV,aq,aX⟩ a0 bC
 try dsimp only at a0
 have aS:Hid ((↑k2:Int) < (↑p0.length:Int)):=zM (wCE am)
 replace am:=zM am
 have bF:Hid (w64 ((↑k2:Int) + 1)=(↑(k2 + 1):Int)):=zM (by have h1:=ap.out;have h2:=aS.out;rw [wAa] <;> omega)
 refine sR fL1 Z (oR Z (ze Z ai aV) (eN (zH (cT Z aS (kN (zH (zZ (sR fL2 Z (oM Z ai (oA Z Z (eN (sR (wFk (.fx 5 .nil .stop)) Z (oM Z aU (oM Z aT (oM Z Z (bnK a0 fun aR aW bG=>?_))))))))))))))))
 have bp:=bA.le aq
 have q:=bp.el (wAQ aW)
 obtain ⟨bh,bN,bX,bt,aj,bL⟩:=q
 obtain ⟨av,aP,rfl,bq⟩:=bL
 replace aj:Cl bb bh (bN + k2 * 1) [.slice av aR.length aP]:=aj
 refine oR Z (zo Z Z bt Z zd zP (wBJ aW)) (oL Z (aX.ldC (f:=0) aj (v:=.slice av aR.length aP) Z Z zR Z) (bnK bG fun bY br bH=>?_))
 have bs:=bB.le aq
 refine OKS.callV (a:=aR) Z Z Z Z Z Z (zB Z zL) aX bs ⟨av,aP,Z,bq⟩ br ?_
 rintro ae bP bW bg bM bw ⟨rfl,rfl⟩
 have aY:sW w U ae [] bg:=bw
 refine eN (ifc bH ?_ ?_)
 intro ah bI
 refine zp (congrArg nA ah.out) (sR fL2 Z (oM Z Z (oA Z Z (eN (zI (zh (zJ ?_)))))))
 have q:=wAp bI
 obtain ⟨bO,bJ,bj⟩:=q
 have q:=wCd hm ak (bC bO bj)
 obtain rfl:=q
 refine zJ (zh (zJ ?_))
 cases bJ
 exact ⟨Z,_,(zk Z),ae,_,aY,Z,Z⟩
 intro ah bK
 refine zj (congrArg nA (nB.2 ah.out)) (ZQ (zq (zK (rR fL2 Z (oR Z (ZJ (zm Z ai Z) (congrArg (jV) bF.out)) (oM Z Z (zu ?_)))))))
 have q:=nD bK
 obtain rfl:=q
 exact zK ⟨Z,_,Z,⟨ae,Z,aT,aU,aV,(aq.trans bM),aY⟩⟩
 rintro ⟨⟩ b5 bQ ⟨be,bo,bS,bT,bm,bU,bz⟩ bD
 have aZ:=wDA hm ak bD
 try dsimp only at aZ
 have bi:Hid (¬ ((↑(((↑p0.length:Int):Int) - 0).toNat:Int) < (↑p0.length:Int))):=zM (wBb)
 refine sR fL1 Z (oR Z (ze Z bo bm) (eN (zH (cF Z bi (ZO (zn (zn (ZK (zK (sR fL1 Z (oA Z Z (eN (zI ?_)))))))))))))
 cases aZ
 exact ⟨Z,_,(zk Z),be,_,bz,Z,Z⟩
theorem wCg (p0:List (List Int)) (ae:Option Addr) (ah:Nat) (p1:((List Int)->Option Bool)) (ai:Value) (w:World) (U:PHeap) (hS:St0 w U []) (av:SlR U wDX ae ah p0) (az:FnOK Tryz.prog U ai wKK wKL p1) {r:Bool} (hm:wAk p0 p1=some r):Gv Tryz.prog 196 [.slice ae p0.length ah,ai] w (wCQ w [] U (fun U_ L_ v=>v=.bool r/\L_=[])):=by
 unfold wAk at hm
 refine Gv.of Tryz.func196 Z Tryz.ntmps196 Tryz.results196 Z (sR fL1 Z (oA Z Z (eN (sR gAy Z (oM Z Z (oM Z Z (bnK hm fun x1 h2 ak=>zD 0 Z Z Z Z (zE Z Z Tryz.call275 (zB Z (zB Z zL)) Z) hS (fun hs=>wCw p0 ae ah p1 ai w U hs av az h2) (.inr Z) ?_)))))))
 rintro U4 L5 v6 W7 aQ au ⟨rfl,rfl⟩
 have aq:sW w U U4 [] W7:=au
 refine oR Z (Runs.geq Z Z Z) (oA Z Z (eN (zI ?_)))
 first | (obtain rfl:=nD ak) | cases ak
 exact ⟨Z,_,(zk Z),U4,_,aq,Z,Z⟩
theorem wDC (p0:List (List Int)) (ak:Option Addr) (am:Nat) (p1:((List Int)->Option Bool)) (ah:Value) (w:World) (U:PHeap) (hS:St0 w U []) (aZ:SlR U wDX ak am p0) (au:FnOK Tryz.prog U ah wKK wKL p1) {r:Bool} (hm:wBO p0 p1=some r):Gv Tryz.prog 110 [.slice ak p0.length am,ah] w (wCQ w [] U (fun U_ L_ v=>v=.bool r/\L_=[])):=by
 unfold wBO at hm
 refine Gv.of Tryz.func110 Z Tryz.ntmps110 Tryz.results110 Z (sR gAi Z (zy (cs:=[ah]) Z Z Z Z Z Z (FnOK.cells au) hS ?_))
 intro W1 b2 aW
 have q:=aW.freeze (k:=0) rfl
 obtain ⟨U5,av,ab,aX⟩:=q
 replace ab:=Cl.of ab
 have aY:sW w U U5 [] W1:=aX
 replace ab:Cl U5 b2 0 [ah]:=ab
 refine oA Z Z (eN (sR gAy Z (oM Z Z (oR Z (Runs.mkf Z zL (zB Z zL)) ?_))))
 have aQ:=aZ.le av
 have aR:=au.le av
 have aT:FnOK Tryz.prog U5 (.func (.func 197) #[] #[.pointer (some ⟨b2,0,none⟩)]) wKK wKL (fun x=>wAz x p1):=⟨197,[],[.pointer (some ⟨b2,0,none⟩)],rfl,Tryz.call197,fun U1 w1 x y vs le hs ha hm=>by obtain ⟨pA_0,pc_0,rfl,hq0_0⟩:=ha;exact wEA x pA_0 pc_0 p1 b2 ah w1 U1 hs hq0_0 (ab.le le) (aR.le le) hm⟩
 refine bnK hm fun x13 aS a0=>zD 0 Z Z Z Z (zE Z Z Tryz.call196 (zB Z (zB Z zL)) Z) aY (fun hs=>wCg p0 ak am (fun x=>wAz x p1) (.func (.func 197) #[] #[.pointer (some ⟨b2,0,none⟩)]) W1 U5 hs aQ aT aS) (.inr Z) ?_
 rintro ap bb bg aP be aU ⟨rfl,rfl⟩
 have aV:sW w U ap [] aP:=aU
 refine oR Z (ZR Z Z) (oA Z Z (eN (zI ?_)))
 cases a0
 exact ⟨Z,_,(zk Z),ap,_,aV,Z,Z⟩
theorem wEB (p0:Int) (w:World) (U:PHeap) (hS:St0 w U [])  {r:Bool} (hm:wAj p0=some r):Gv Tryz.prog 115 [jV p0] w (wCQ w [] U (fun U_ L_ v=>v=.bool r/\L_=[])):=by
 unfold wAj at hm
 refine Gv.of Tryz.func115 Z Tryz.ntmps115 Tryz.results115 Z (sR fL1 Z (oA Z Z (eN (sR gAq Z (oM Z Z (bnK hm fun x1 h2 ak=>zD 0 Z Z Z Z (zE Z Z Zq (zB Z (zB Z (zB Z zL))) Z) hS (fun hs=>wCa p0 0 100000 w U hs h2) (.inr Z) ?_))))))
 rintro U4 L5 v6 W7 ap aj ⟨rfl,rfl⟩
 have ai:sW w U U4 [] W7:=aj
 refine oA Z Z (eN (zI ?_))
 have hE:=nD ak;first | subst r | cases hE
 exact ⟨Z,_,(zk Z),U4,_,ai,Z,Z⟩
theorem wEa (p0:List Int) (ab:Option Addr) (ae:Nat) (w:World) (U:PHeap) (hS:St0 w U []) (au:Sl U 1 ab ae p0.length (hH KL.encI p0)) {r:Bool} (hm:wBP p0=some r):Gv Tryz.prog 113 [.slice ab p0.length ae] w (wCQ w [] U (fun U_ L_ v=>v=.bool r/\L_=[])):=by
 unfold wBP at hm
 refine Gv.of Tryz.func113 Z Tryz.ntmps113 Tryz.results113 Z (sR fL1 Z (oA Z Z (eN (sR gAq Z (oM Z Z ?_)))))
 have am:FnOK Tryz.prog U (.func (.func 115) #[] #[]) wHF wHG wAj:=⟨115,[],[],rfl,Tryz.call115,fun U1 w1 x y vs le hs ha hm=>by obtain rfl:=ha;exact wEB x w1 U1 hs  hm⟩
 refine bnK hm fun x2 h3 av=>zD 0 Z Z Z Z (zE Z Z Tryz.call114 (zB Z (zB Z zL)) Z) hS (fun hs=>wBt p0 ab ae wAj (.func (.func 115) #[] #[]) w U hs au am h3) (.inr Z) ?_
 rintro U5 L6 v7 W8 aQ ap ⟨rfl,rfl⟩
 have aq:sW w U U5 [] W8:=ap
 refine oA Z Z (eN (zI ?_))
 have hE:=nD av;first | subst r | cases hE
 exact ⟨Z,_,(zk Z),U5,_,aq,Z,Z⟩
theorem wBx (p0:wAA) (aR:Option Addr) (aS:Nat) (p1:wAB) (am:Option Addr) (ap:Nat) (aj:Option Addr) (ak:Nat) (w:World) (U:PHeap) (hS:St0 w U []) (cg:Sl U 1 aR aS p0.Classes.length (hH KL.encI p0.Classes)) (cj:Sl U 1 am ap p1.Classes.length (hH KL.encI p1.Classes)) (cm:SlR U wDX aj ak p1.Times) {r:Int} (hm:wAl p0 p1=some r):Gv Tryz.prog 40 [.agg #[.slice aR p0.Classes.length aS,jV p0.Each,jV p0.Laps,jV p0.Spare,jV p0.Loop,jV p0.Unused],.agg #[.slice am p1.Classes.length ap,.slice aj p1.Times.length ak]] w (wCQ w [] U (fun U_ L_ v=>v=jV r/\L_=[])):=by
 unfold wAl at hm
 refine Gv.of Tryz.func40 Z Tryz.ntmps40 Tryz.results40 Z (sR gAp Z ?_)
 let B0:List Value:=[.slice aR p0.Classes.length aS,jV p0.Each,jV p0.Laps,jV p0.Spare,jV p0.Loop,jV p0.Unused]
 refine zy (cs:=B0) rfl rfl rfl rfl rfl rfl (by rfl) hS ?_
 intro W1 b2 bZ
 have q:=bZ.freeze (k:=0) rfl
 obtain ⟨U5,bm,au,cb⟩:=q
 replace au:=Cl.of au
 have cf:sW w U U5 [] W1:=cb
 replace au:Cl U5 b2 0 B0:=au
 let B1:List Value:=[.slice am p1.Classes.length ap,.slice aj p1.Times.length ak]
 refine zy (cs:=B1) rfl rfl rfl rfl rfl rfl (by rfl) cf ?_
 intro bD aP bz
 refine oA Z Z (eN (sR gAq Z (oL Z (bz.ldCA (f:=0) au Z Z ZC zr (us:=B0) Z Z) ?_)))
 have bt:=cg.le bm
 refine bnK hm fun cV bF cn=>zD 0 Z Z Z Z (zE Z Z Tryz.call109 (zB Z zL) Z) bz (fun hs=>wFQ p0 aR aS bD U5 hs bt bF) (.inr Z) ?_
 rintro aY cJ cP bp aU bY ⟨rfl,rfl⟩
 have bh:sW w U aY [.blk aP 93 B1] bp:=bY
 refine oA Z Z (eN (zH (zZ (sR fL3 Z (oM Z Z (oR Z (ZE Z Z Z) (oA Z Z (eN (ifc cn ?_ ?_)))))))))
 intro bb cp
 refine zj (zt (fun h=>h bb.out)) (sR (wDT (.fx 3 (wPj (.fx 18 (wRE (.nil)) .stop)) .stop)) Z (oR Z (zS Z Z zg Z zP) (oL Z (bh.ldB (j:=0) Z Z Z zR (v:=.slice am p1.Classes.length ap) Z) (oR Z (zU Z Z zA) (bnK cp fun cW bG cq=>zD 0 Z Z Z Z (zE Z Z Zq (zB Z (zB Z (zB Z zL))) Z) bh (fun hs=>wCa (↑p1.Classes.length:Int) 1 8 bp aY hs bG) (.inr Z) ?_)))))
 rintro az cK cQ bq aV b5 ⟨rfl,rfl⟩
 have av:sW w U az [.blk aP 93 B1] bq:=b5
 refine oR Z (ZR Z Z) (oM Z Z (ifc cq ?_ ?_))
 intro ae cr
 refine zi Z Z Z (zG Z Z (nC ae.out)) (fun _=>zS Z Z zg Z ZH) (zz Z Z Z (zG Z Z (nC ae.out)) (av.ldB (j:=0) Z Z Z ZL (v:=.slice aj p1.Times.length ak) Z) Z (zi Z Z Z (zG Z Z (nC ae.out)) (fun _=>zU Z Z zd) (zi Z Z Z (zG Z Z (nC ae.out)) (fun _=>zS Z Z zg Z zP) (zz Z Z Z (zG Z Z (nC ae.out)) (av.ldB (j:=0) Z Z Z zR (v:=.slice am p1.Classes.length ap) Z) Z (zi Z Z Z (zG Z Z (nC ae.out)) (fun _=>zU Z Z zA) (zi Z Z Z (zG Z Z (nC ae.out)) (fun _=>ZE Z Z Z) (oR Z (zO Z (nC ae.out) Z) (oM Z Z (ifc cr ?_ ?_)))))))))
 intro ah ct
 refine zi Z Z Z (zG Z Z (zt (fun h=>h ah.out))) (fun _=>zS Z Z zg Z ZH) (zz Z Z Z (zG Z Z (zt (fun h=>h ah.out))) (av.ldB (j:=0) Z Z Z ZL (v:=.slice aj p1.Times.length ak) Z) Z (zi Z Z Z (zG Z Z (zt (fun h=>h ah.out))) (fun _=>Runs.mkf Z zL (zB Z zL)) ?_))
 have bH:=cm.le bm
 have bI:=bH.le aU
 have bw:=bI.le aV
 have bJ:=au.le aU
 have bK:=bJ.le aV
 have bL:=bt.le aU
 have bM:=bL.le aV
 have bW:FnOK Tryz.prog az (.func (.func 111) #[] #[.pointer (some ⟨b2,0,none⟩)]) wKK wKL (fun x=>wBN x p0):=⟨111,[],[.pointer (some ⟨b2,0,none⟩)],rfl,Tryz.call111,fun U1 w1 x y vs le hs ha hm=>by obtain ⟨pA_0,pc_0,rfl,hq0_0⟩:=ha;exact wEZ x pA_0 pc_0 p0 b2 aR aS w1 U1 hs hq0_0 (bK.le le) (bM.le le) hm⟩
 refine bnK ct fun cX bN cu=>zD 0 Z Z Z (zG Z Z (zt (fun h=>h ah.out))) (zE Z Z Tryz.call110 (zB Z (zB Z zL)) Z) av (fun hs=>wDC p1.Times aj ak (fun x=>wBN x p0) (.func (.func 111) #[] #[.pointer (some ⟨b2,0,none⟩)]) bq az hs bw bW bN) (.inr Z) ?_
 rintro a0 cL cR br bB b8 ⟨rfl,rfl⟩
 have bi:sW w U a0 [.blk aP 93 B1] br:=b8
 refine zi Z Z Z (zG Z Z (zt (fun h=>h ah.out))) (fun _=>ZR Z Z) (oR Z (zO Z (zt (fun h=>h ah.out)) Z) (oA Z Z (eN (ifc cu ?_ ?_))))
 intro be cw
 refine zj (nC be.out) (sR (.fl 0 (.fl 1 (.fx 2 (wSY (.fx 7 (wOP (.nil)) .stop)) .stop))) Z (oR Z (zS Z Z zg Z zP) (oL Z (bi.ldB (j:=0) Z Z Z zR (v:=.slice am p1.Classes.length ap) Z) ?_)))
 have bO:=cj.le bm
 have bP:=bO.le aU
 have bQ:=bP.le aV
 have bR:=bQ.le bB
 refine bnK cw fun cY bS cx=>zD 0 Z Z Z Z (zE Z Z Tryz.call112 (zB Z zL) Z) bi (fun hs=>wEO p1.Classes am ap br a0 hs bR bS) (.inr Z) ?_
 rintro aT cM cS bs cI b9 ⟨rfl,rfl⟩
 have bj:sW w U aT [.blk aP 93 B1] bs:=b9
 refine oR Z (ZR Z Z) (oM Z Z (ifc cx ?_ ?_))
 intro ai cy
 refine zi Z Z Z (zG Z Z (nC ai.out)) (fun _=>zS Z Z zg Z ZH) (zz Z Z Z (zG Z Z (nC ai.out)) (bj.ldB (j:=0) Z Z Z ZL (v:=.slice aj p1.Times.length ak) Z) Z ?_)
 have bT:=bw.le bB
 have bU:=bT.le cI
 have bX:FnOK Tryz.prog aT (.func (.func 113) #[] #[]) wKK wKL wBP:=⟨113,[],[],rfl,Tryz.call113,fun U1 w1 x y vs le hs ha hm=>by obtain ⟨pA_0,pc_0,rfl,hq0_0⟩:=ha;exact wEa x pA_0 pc_0 w1 U1 hs hq0_0 hm⟩
 refine bnK cy fun x80 bV cz=>zD 0 Z Z Z (zG Z Z (nC ai.out)) (zE Z Z Tryz.call110 (zB Z (zB Z zL)) Z) bj (fun hs=>wDC p1.Times aj ak wBP (.func (.func 113) #[] #[]) bs aT hs bU bX bV) (.inr Z) ?_
 rintro ba cN cU bE cO cd ⟨rfl,rfl⟩
 have bA:sW w U ba [.blk aP 93 B1] bE:=cd
 refine zi Z Z Z (zG Z Z (nC ai.out)) (fun _=>ZR Z Z) (oR Z (zO Z (nC ai.out) Z) (oA Z Z (eN (ifc cz ?_ ?_))))
 intro bg cA
 refine zj (nC bg.out) (ZQ (zq (zK (sR fL1 Z (oA Z Z (eN (zI ?_)))))))
 cases cA
 exact ⟨rfl,_,(zk rfl),ba,_,(bA.pick [] _ (by decide) rfl),rfl,rfl⟩
 intro bg cB
 refine zp (nF (bg.out)) (sR fL1 Z (oA Z Z (eN (zI (zh (zJ ?_))))))
 cases cB
 exact ⟨rfl,_,(zk rfl),ba,_,(bA.pick [] _ (by decide) rfl),rfl,rfl⟩
 intro ai cC
 refine zV Z Z Z (zF Z Z (nF (ai.out)) Z) (zV Z Z Z (zF Z Z (nF (ai.out)) Z) (ZA Z Z Z (zF Z Z (nF (ai.out)) Z) (zV Z Z Z (zF Z Z (nF (ai.out)) Z) (oR Z (zQ Z (nF (ai.out)) Z) (oA Z Z (eN (zp Z (sR fL1 Z (oA Z Z (eN (zI (zh (zJ ?_)))))))))))))
 cases cC
 exact ⟨rfl,_,(zk rfl),aT,_,(bj.pick [] _ (by decide) rfl),rfl,rfl⟩
 intro be cD
 refine zp (nF (be.out)) (sR fL1 Z (oA Z Z (eN (zI (zh (zJ ?_))))))
 cases cD
 exact ⟨rfl,_,(zk rfl),a0,_,(bi.pick [] _ (by decide) rfl),rfl,rfl⟩
 intro ah cE
 refine oT Z ah (oT Z ah (oT Z ah (ZA Z Z Z (zF Z Z (Zi ah.out) Z) (oT Z ah (oR Z (zQ Z (Zi ah.out) Z) (oA Z Z (eN (zp Z (sR fL1 Z (oA Z Z (eN (zI (zh (zJ ?_))))))))))))))
 cases cE
 exact ⟨rfl,_,(zk rfl),az,_,(av.pick [] _ (by decide) rfl),rfl,rfl⟩
 intro ae cG
 refine zV Z Z Z (zF Z Z (nF (ae.out)) Z) (zV Z Z Z (zF Z Z (nF (ae.out)) Z) (zV Z Z Z (zF Z Z (nF (ae.out)) Z) (zV Z Z Z (zF Z Z (nF (ae.out)) Z) (zV Z Z Z (zF Z Z (nF (ae.out)) Z) (zV Z Z Z (zF Z Z (nF (ae.out)) Z) (zV Z Z Z (zF Z Z (nF (ae.out)) Z) (oR Z (zQ Z (nF (ae.out)) Z) (oM Z Z (oN Z (oN Z (oN Z (ZA Z Z Z (zF Z Z Z Z) (oN Z (oR Z (zQ Z Z Z) (oA Z Z (eN (zp Z (sR fL1 Z (oA Z Z (eN (zI (zh (zJ ?_)))))))))))))))))))))))
 cases cG
 exact ⟨rfl,_,(zk rfl),az,_,(av.pick [] _ (by decide) rfl),rfl,rfl⟩
 intro bb cH
 refine cT Z bb (sR fL2 Z (oM Z Z (oA Z Z (eN (zI (zh (zJ ?_)))))))
 have hE:=nD cH;first | subst r | cases hE
 exact ⟨rfl,_,(zk rfl),aY,_,(bh.pick [] _ (by decide) rfl),rfl,rfl⟩
theorem wAN (p0:Int) (p1:Int) (p2:Int) (w:World) (U:PHeap) (hS:St0 w U [])  {r:Bool} (hm:wAG p0 p1 p2=some r):Gv Tryz.prog 117 [jV p0,jV p1,jV p2] w (wCQ w [] U (fun U_ L_ v=>v=.bool r/\L_=[])):=by
 unfold wAG at hm
 refine Gv.of Tryz.func117 Z Tryz.ntmps117 Tryz.results117 Z (sR fL1 Z (oA Z Z (eN (sR fL9 Z (oM Z Z (oM Z Z (oR Z (ze Z Z Z) (oM Z Z ?_))))))))
 by_cases c1:p0 < p1
 have ai:=hm;rw [if_pos c1] at ai;replace c1:=zM c1
 refine oT Z c1 (oT Z c1 (oT Z c1 (oR Z (zQ Z (Zi c1.out) Z) (oA Z Z (eN (zI ?_))))))
 have hE:=nD ai;first | subst r | cases hE
 exact ⟨Z,_,(zk Z),U,_,hS,Z,Z⟩
 have ab:=hm;rw [if_neg c1] at ab;replace c1:=zM c1
 refine zf Z Z Z (wF Z c1) Z Z (zf Z Z Z (wF Z c1) Z Z (rU Z (wF Z c1) (Zh Z Z Z) (oR Z (zO Z (zt c1.out) Z) (oA Z Z (eN (zI ?_))))))
 first | (obtain rfl:=nD ab) | cases ab
 exact ⟨Z,_,(zk Z),U,_,hS,Z,Z⟩
theorem wDY (p0:List Int) (aq:Option Addr) (au:Nat) (w:World) (U:PHeap) (hS:St0 w U []) (bm:Sl U 1 aq au p0.length (hH KL.encI p0)) {r:Bool} (hm:wBd p0=some r):Gv Tryz.prog 118 [.slice aq p0.length au] w (wCQ w [] U (fun U_ L_ v=>v=.bool r/\L_=[])):=by
 unfold wBd at hm
 refine Gv.of Tryz.func118 Z Tryz.ntmps118 Tryz.results118 Z (sR fL1 Z (oA Z Z (eN (zH (sR fL1 Z (oA Z Z (eN (zZ ?_))))))))
 have q:=wCP hm
 obtain ⟨r3,ak⟩:=q
 have q:=wCO ak
 obtain ⟨ap,bq⟩:=q
 replace ap:=zM ap
 refine Zk (fun k2 _ σ_ w_=>∃ (U_:PHeap),σ_ 3=jV (↑k2:Int)/\σ_ 0=.slice aq p0.length au/\PHeap.Le U U_/\sW w U U_ [] w_) bq ?_ ?_ ?_
 exact ⟨U,Z,Z,(zX _),hS⟩
 rintro k2 ⟨⟩ bK bM W8 am ⟨aU,aj,ai,aT,aP⟩ aS bo
 try dsimp only at aS
 have av:Hid ((↑k2:Int) < (↑p0.length:Int)):=zM (wCE am)
 replace am:=zM am
 have br:Hid (w64 ((↑k2:Int) + 1)=(↑(k2 + 1):Int)):=zM (by have h1:=ap.out;have h2:=av.out;rw [wAa] <;> omega)
 refine zH (sR fL4 Z (oM Z aj (oM Z ai (oR Z (zU Z Z zA) (oR Z (ze Z Z Z) (eN (cT Z av (kN (zH (zZ (sR (wHf (.fx 4 .nil .stop)) Z (oM Z ai (oM Z aj (bnK aS fun x20 az bs=>?_))))))))))))))
 have bb:=bm.le aT
 have q:=bb.el (fun _=>rfl) (wAQ az)
 obtain ⟨bF,bH,bg,bh⟩:=q
 refine oR Z (zo Z Z bg Z zA zC (wBJ az)) (oL Z (aP.ldC (f:=0) bh (v:=jV x20) Z Z zN Z) (bnK bs fun x28 be bt=>zD 0 Z Z Z Z (zE Z Z ZY (zB Z (zB Z (zB Z zL))) Z) aP (fun hs=>wAN x20 0 3 W8 aU hs be) (.inr Z) ?_))
 rintro ae bD bJ aW bB bi ⟨rfl,rfl⟩
 have aQ:sW w U ae [] aW:=bi
 refine eN (ifc bt ?_ ?_)
 intro ah bw
 refine zp (congrArg nA ah.out) (sR fL1 Z (oA Z Z (eN (zI (zh (zJ ?_))))))
 have q:=wAp bw
 obtain ⟨bC,bz,aZ⟩:=q
 have q:=wCd hm ak (bo bC aZ)
 obtain rfl:=q
 refine zJ (zh (zJ ?_))
 have hE:=nD bz;first | subst r | cases hE
 exact ⟨Z,_,(zk Z),ae,_,aQ,Z,Z⟩
 intro ah bA
 refine zj (congrArg nA (nB.2 ah.out)) (ZQ (zq (zK (rR fL3 Z (oM Z aj (oR Z (ZJ (zm Z Z Z) (congrArg (jV) br.out)) (oA Z Z (zu ?_))))))))
 have q:=nD bA
 obtain rfl:=q
 exact zK ⟨Z,_,Z,⟨ae,Z,ai,(aT.trans bB),aQ⟩⟩
 rintro ⟨⟩ bL bE ⟨aV,ba,a0,bG,bj⟩ bp
 have aR:=wDA hm ak bp
 try dsimp only at aR
 have aY:Hid (¬ ((↑(((↑p0.length:Int):Int) - 0).toNat:Int) < (↑p0.length:Int))):=zM (wBb)
 refine zH (sR fL4 Z (oM Z ba (oM Z a0 (oR Z (zU Z Z zA) (oR Z (ze Z Z Z) (eN (cF Z aY (ZO (zn (zn (ZK (zK (sR fL1 Z (oA Z Z (eN (zI ?_))))))))))))))))
 have hE:=nD aR;first | subst r | cases hE
 exact ⟨Z,_,(zk Z),aV,_,bj,Z,Z⟩
end Go.Proofs.YtabadkdjndnliaaGreat
namespace Go.Proofs.YtabadkdjndnliaaGreat
open Go.KL
set_option maxHeartbeats 4000000
theorem wDe (p0:wAD) (ap:Option Addr) (aq:Nat) (w:World) (U:PHeap) (hS:St0 w U []) (bJ:Sl U 1 ap aq p0.Classes.length (hH KL.encI p0.Classes)) {r:Int} (hm:wBD p0=some r):Gv Tryz.prog 116 [.agg #[.slice ap p0.Classes.length aq,jV p0.Each,jV p0.Laps,jV p0.Spare,jV p0.Loop,jV p0.Unused]] w (wCQ w [] U (fun U_ L_ v=>v=jV r/\L_=[])):=by
 unfold wBD at hm
 refine Gv.of Tryz.func116 Z Tryz.ntmps116 Tryz.results116 Z (sR gAi Z ?_)
 let B0:List Value:=[.slice ap p0.Classes.length aq,jV p0.Each,jV p0.Laps,jV p0.Spare,jV p0.Loop,jV p0.Unused]
 refine zy (cs:=B0) rfl rfl rfl rfl rfl rfl (by rfl) hS ?_
 intro W1 b2 bj
 refine oA Z Z (eN (zH (sR (wDT (.fx 3 .nil .stop)) Z (oR Z (zS Z Z ZD Z zP) (oL Z (bj.ldB (j:=0) Z Z Z zR (v:=.slice ap p0.Classes.length aq) Z) (oR Z (zU Z Z zA) (bnK hm fun x5 h6 bX=>zD 0 Z Z Z Z (zE Z Z ZY (zB Z (zB Z (zB Z zL))) Z) bj (fun hs=>wAN (↑p0.Classes.length:Int) 1 4 W1 U hs h6) (.inr Z) ?_)))))))
 rintro U8 L9 cA ba cf bC ⟨rfl,rfl⟩
 have aV:sW w U U8 [.blk b2 31 B0] ba:=bC
 refine eN (ifc bX ?_ ?_)
 intro aT bK
 refine zp (congrArg nA aT.out) (sR fL1 Z (oA Z Z (eN (zI (zJ ?_)))))
 cases bK
 exact ⟨rfl,_,(zk rfl),U8,_,(aV.pick [] _ (by decide) rfl),rfl,rfl⟩
 intro aT bL
 refine zj (congrArg nA (nB.2 aT.out)) (kN (zH (sR (.fl 0 (.fl 1 (.fx 2 (wRB (.fx 6 (wOO (.fx 11 (wKX (.fx 16 (wKY (.fx 21 (wRF (.fx 26 (.fl 27 .nil) .stop)) .stop)) .stop)) .stop)) .stop)) .stop))) Z (oR Z (zS Z Z ZD Z zP) (oL Z (aV.ldB (j:=0) Z Z Z zR (v:=.slice ap p0.Classes.length aq) Z) ?_)))))
 have bq:=bJ.le cf
 refine bnK bL fun cI br bM=>zD 0 Z Z Z Z (zE Z Z Tryz.call118 (zB Z zL) Z) aV (fun hs=>wDY p0.Classes ap aq ba U8 hs bq br) (.inr Z) ?_
 rintro au cg cB bb ct bD ⟨rfl,rfl⟩
 have aW:sW w U au [.blk b2 31 B0] bb:=bD
 refine oM Z Z (ifc bM ?_ ?_)
 intro ab bN
 refine zV Z Z Z (zF Z Z (congrArg nA ab.out) Z) (zV Z Z Z (zF Z Z (congrArg nA ab.out) Z) (ZA Z Z Z (zF Z Z (congrArg nA ab.out) Z) (oR Z (zQ Z (congrArg nA ab.out) Z) (oM Z Z (oN Z (oN Z (ZA Z Z Z (zF Z Z Z Z) (oR Z (zQ Z Z Z) (oM Z Z (oN Z (oN Z (ZA Z Z Z (zF Z Z Z Z) (oR Z (zQ Z Z Z) (oM Z Z (oN Z (oN Z (ZA Z Z Z (zF Z Z Z Z) (oR Z (zQ Z Z Z) (oM Z Z (oN Z (oN Z (ZA Z Z Z (zF Z Z Z Z) (oR Z (zQ Z Z Z) (eN (zp Z (sR fL1 Z (oA Z Z (eN (zI (zJ ?_))))))))))))))))))))))))))))))
 cases bN
 exact ⟨rfl,_,(zk rfl),au,_,(aW.pick [] _ (by decide) rfl),rfl,rfl⟩
 intro ab bO
 refine zi Z Z Z (zG Z Z (congrArg nA (nB.2 ab.out))) (fun _=>zS Z Z ZD Z zC) (zz Z Z Z (zG Z Z (congrArg nA (nB.2 ab.out))) (aW.ldB (j:=0) Z Z Z zN (v:=jV p0.Each) Z) Z (bnK bO fun cJ bs bP=>zD 0 Z Z Z (zG Z Z (congrArg nA (nB.2 ab.out))) (zE Z Z ZY (zB Z (zB Z (zB Z zL))) Z) aW (fun hs=>wAN p0.Each 1 4 bb au hs bs) (.inr Z) ?_))
 rintro av cj cC be cu bE ⟨rfl,rfl⟩
 have aX:sW w U av [.blk b2 31 B0] be:=bE
 refine oR Z (zO Z (congrArg nA (nB.2 ab.out)) Z) (oM Z Z (ifc bP ?_ ?_))
 intro ae bQ
 refine zV Z Z Z (zF Z Z (congrArg nA ae.out) Z) (zV Z Z Z (zF Z Z (congrArg nA ae.out) Z) (ZA Z Z Z (zF Z Z (congrArg nA ae.out) Z) (oR Z (zQ Z (congrArg nA ae.out) Z) (oM Z Z (oN Z (oN Z (ZA Z Z Z (zF Z Z Z Z) (oR Z (zQ Z Z Z) (oM Z Z (oN Z (oN Z (ZA Z Z Z (zF Z Z Z Z) (oR Z (zQ Z Z Z) (oM Z Z (oN Z (oN Z (ZA Z Z Z (zF Z Z Z Z) (oR Z (zQ Z Z Z) (eN (zp Z (sR fL1 Z (oA Z Z (eN (zI (zJ ?_)))))))))))))))))))))))))
 cases bQ
 exact ⟨rfl,_,(zk rfl),av,_,(aX.pick [] _ (by decide) rfl),rfl,rfl⟩
 intro ae bR
 refine zi Z Z Z (zG Z Z (congrArg nA (nB.2 ae.out))) (fun _=>zS Z Z ZD Z zC) (zz Z Z Z (zG Z Z (congrArg nA (nB.2 ae.out))) (aX.ldB (j:=0) Z Z Z zN (v:=jV p0.Laps) Z) Z (bnK bR fun cK bt bS=>zD 0 Z Z Z (zG Z Z (congrArg nA (nB.2 ae.out))) (zE Z Z ZY (zB Z (zB Z (zB Z zL))) Z) aX (fun hs=>wAN p0.Laps 1 5 be av hs bt) (.inr Z) ?_))
 rintro az cm cD bg cw bF ⟨rfl,rfl⟩
 have aY:sW w U az [.blk b2 31 B0] bg:=bF
 refine oR Z (zO Z (congrArg nA (nB.2 ae.out)) Z) (oM Z Z (ifc bS ?_ ?_))
 intro ah bT
 refine zV Z Z Z (zF Z Z (congrArg nA ah.out) Z) (zV Z Z Z (zF Z Z (congrArg nA ah.out) Z) (ZA Z Z Z (zF Z Z (congrArg nA ah.out) Z) (oR Z (zQ Z (congrArg nA ah.out) Z) (oM Z Z (oN Z (oN Z (ZA Z Z Z (zF Z Z Z Z) (oR Z (zQ Z Z Z) (oM Z Z (oN Z (oN Z (ZA Z Z Z (zF Z Z Z Z) (oR Z (zQ Z Z Z) (eN (zp Z (sR fL1 Z (oA Z Z (eN (zI (zJ ?_))))))))))))))))))))
 cases bT
 exact ⟨rfl,_,(zk rfl),az,_,(aY.pick [] _ (by decide) rfl),rfl,rfl⟩
 intro ah bU
 refine zi Z Z Z (zG Z Z (congrArg nA (nB.2 ah.out))) (fun _=>zS Z Z ZD Z zC) (zz Z Z Z (zG Z Z (congrArg nA (nB.2 ah.out))) (aY.ldB (j:=0) Z Z Z zN (v:=jV p0.Spare) Z) Z (bnK bU fun cM bw bV=>zD 0 Z Z Z (zG Z Z (congrArg nA (nB.2 ah.out))) (zE Z Z ZY (zB Z (zB Z (zB Z zL))) Z) aY (fun hs=>wAN p0.Spare 0 600 bg az hs bw) (.inr Z) ?_))
 rintro aP cn cE bh cx bG ⟨rfl,rfl⟩
 have aZ:sW w U aP [.blk b2 31 B0] bh:=bG
 refine oR Z (zO Z (congrArg nA (nB.2 ah.out)) Z) (oM Z Z (ifc bV ?_ ?_))
 intro ai bW
 refine zV Z Z Z (zF Z Z (congrArg nA ai.out) Z) (zV Z Z Z (zF Z Z (congrArg nA ai.out) Z) (ZA Z Z Z (zF Z Z (congrArg nA ai.out) Z) (oR Z (zQ Z (congrArg nA ai.out) Z) (oM Z Z (oN Z (oN Z (ZA Z Z Z (zF Z Z Z Z) (oR Z (zQ Z Z Z) (eN (zp Z (sR fL1 Z (oA Z Z (eN (zI (zJ ?_)))))))))))))))
 cases bW
 exact ⟨rfl,_,(zk rfl),aP,_,(aZ.pick [] _ (by decide) rfl),rfl,rfl⟩
 intro ai bY
 refine zi Z Z Z (zG Z Z (congrArg nA (nB.2 ai.out))) (fun _=>zS Z Z ZD Z zC) (zz Z Z Z (zG Z Z (congrArg nA (nB.2 ai.out))) (aZ.ldB (j:=0) Z Z Z zN (v:=jV p0.Loop) Z) Z (bnK bY fun cN bA bZ=>zD 0 Z Z Z (zG Z Z (congrArg nA (nB.2 ai.out))) (zE Z Z ZY (zB Z (zB Z (zB Z zL))) Z) aZ (fun hs=>wAN p0.Loop 0 600 bh aP hs bA) (.inr Z) ?_))
 rintro aQ cp cG bi cy bH ⟨rfl,rfl⟩
 have a0:sW w U aQ [.blk b2 31 B0] bi:=bH
 refine oR Z (zO Z (congrArg nA (nB.2 ai.out)) Z) (oM Z Z (ifc bZ ?_ ?_))
 intro aj b5
 refine zV Z Z Z (zF Z Z (congrArg nA aj.out) Z) (zV Z Z Z (zF Z Z (congrArg nA aj.out) Z) (ZA Z Z Z (zF Z Z (congrArg nA aj.out) Z) (oR Z (zQ Z (congrArg nA aj.out) Z) (eN (zp Z (sR fL1 Z (oA Z Z (eN (zI (zJ ?_))))))))))
 cases b5
 exact ⟨rfl,_,(zk rfl),aQ,_,(a0.pick [] _ (by decide) rfl),rfl,rfl⟩
 intro aj b8
 refine zi Z Z Z (zG Z Z (congrArg nA (nB.2 aj.out))) (fun _=>zS Z Z ZD Z zC) (zz Z Z Z (zG Z Z (congrArg nA (nB.2 aj.out))) (a0.ldB (j:=0) Z Z Z zN (v:=jV p0.Unused) Z) Z (bnK b8 fun x84 bB b9=>zD 0 Z Z Z (zG Z Z (congrArg nA (nB.2 aj.out))) (zE Z Z ZY (zB Z (zB Z (zB Z zL))) Z) a0 (fun hs=>wAN p0.Unused 0 6000 bi aQ hs bB) (.inr Z) ?_))
 rintro aS cq cH bp cz bI ⟨rfl,rfl⟩
 have bm:sW w U aS [.blk b2 31 B0] bp:=bI
 refine oR Z (zO Z (congrArg nA (nB.2 aj.out)) Z) (eN (ifc b9 ?_ ?_))
 intro aU cb
 refine zp (congrArg nA aU.out) (sR fL1 Z (oA Z Z (eN (zI (zJ ?_)))))
 cases cb
 exact ⟨rfl,_,(zk rfl),aS,_,(bm.pick [] _ (by decide) rfl),rfl,rfl⟩
 intro aU cd
 refine zj (congrArg nA (nB.2 aU.out)) (kN (sR fL1 Z (oA Z Z (eN (zI ?_)))))
 cases cd
 exact ⟨rfl,_,(zk rfl),aS,_,(bm.pick [] _ (by decide) rfl),rfl,rfl⟩
theorem wBG (p0:wAD) (aW:Option Addr) (aX:Nat) (p1:wAC) (az:Option Addr) (aP:Nat) (aj:Option Addr) (ak:Nat) (w:World) (U:PHeap) (hS:St0 w U []) (dr:Sl U 1 aW aX p0.Classes.length (hH KL.encI p0.Classes)) (dt:Sl U 1 az aP p1.Classes.length (hH KL.encI p1.Classes)) (bU:SlR U wDX aj ak p1.Times) {r:Int} (hm:wAL p0 p1=some r):Gv Tryz.prog 41 [.agg #[.slice aW p0.Classes.length aX,jV p0.Each,jV p0.Laps,jV p0.Spare,jV p0.Loop,jV p0.Unused],.agg #[.slice az p1.Classes.length aP,.slice aj p1.Times.length ak]] w (wCQ w [] U (fun U_ L_ v=>v=jV r/\L_=[])):=by
 unfold wAL at hm
 refine Gv.of Tryz.func41 Z Tryz.ntmps41 Tryz.results41 Z (sR gAp Z ?_)
 let B0:List Value:=[.slice aW p0.Classes.length aX,jV p0.Each,jV p0.Laps,jV p0.Spare,jV p0.Loop,jV p0.Unused]
 refine zy (cs:=B0) rfl rfl rfl rfl rfl rfl (by rfl) hS ?_
 intro W1 b2 dp
 let B1:List Value:=[.slice az p1.Classes.length aP,.slice aj p1.Times.length ak]
 refine zy (cs:=B1) rfl rfl rfl rfl rfl rfl (by rfl) dp ?_
 intro W5 b6 bS
 refine oA Z Z (eN (zH (sR gAq Z (oL Z (bS.ldBA (j:=1) Z Z Z ZU ZP (vs:=B0) Z Z) (bnK hm fun x9 cI du=>zD 0 Z Z Z Z (zE Z Z Tryz.call116 (zB Z zL) Z) bS (fun hs=>wDe p0 aW aX W5 U hs dr cI) (.inr Z) ?_)))))
 rintro bm eC eO bM bK dk ⟨rfl,rfl⟩
 have bI:sW w U bm [.blk b6 98 B1,.blk b2 31 B0] bM:=dk
 refine oA Z Z (eN (sR fL2 Z (oM Z Z (oR Z (ZE Z Z Z) (eN (ifc du ?_ ?_))))))
 intro bs dH
 refine zj (zt (fun h=>h bs.out)) (kN (zH (sR (wDT (.fx 3 (wSa (.nil)) .stop)) Z (oR Z (zS Z Z zx Z zP) (oL Z (bI.ldB (j:=0) Z Z Z zR (v:=.slice az p1.Classes.length aP) Z) (oR Z (zU Z Z zA) (bnK dH fun x21 cQ dJ=>zD 0 Z Z Z Z (zE Z Z ZY (zB Z (zB Z (zB Z zL))) Z) bI (fun hs=>wAN (↑p1.Classes.length:Int) 1 8 bM bm hs cQ) (.inr Z) ?_)))))))
 rintro aT eE eQ cu bL dm ⟨rfl,rfl⟩
 have aV:sW w U aT [.blk b6 98 B1,.blk b2 31 B0] cu:=dm
 refine oM Z Z (ifc dJ ?_ ?_)
 intro ab dK
 refine zV Z Z Z (zF Z Z (congrArg nA ab.out) Z) (zV Z Z Z (zF Z Z (congrArg nA ab.out) Z) (zV Z Z Z (zF Z Z (congrArg nA ab.out) Z) (zV Z Z Z (zF Z Z (congrArg nA ab.out) Z) (zV Z Z Z (zF Z Z (congrArg nA ab.out) Z) (zV Z Z Z (zF Z Z (congrArg nA ab.out) Z) (zV Z Z Z (zF Z Z (congrArg nA ab.out) Z) (oR Z (zQ Z (congrArg nA ab.out) Z) (eN (zp Z (sR fL1 Z (oA Z Z (eN (zI (zJ ?_))))))))))))))
 cases dK
 exact ⟨rfl,_,(zk rfl),aT,_,(aV.pick [] _ (by decide) rfl),rfl,rfl⟩
 intro ab dL
 refine zi Z Z Z (zG Z Z (congrArg nA (nB.2 ab.out))) (fun _=>zS Z Z zx Z ZH) (zz Z Z Z (zG Z Z (congrArg nA (nB.2 ab.out))) (aV.ldB (j:=0) Z Z Z ZL (v:=.slice aj p1.Times.length ak) Z) Z (zi Z Z Z (zG Z Z (congrArg nA (nB.2 ab.out))) (fun _=>zU Z Z zd) (zi Z Z Z (zG Z Z (congrArg nA (nB.2 ab.out))) (fun _=>zS Z Z zx Z zP) (zz Z Z Z (zG Z Z (congrArg nA (nB.2 ab.out))) (aV.ldB (j:=0) Z Z Z zR (v:=.slice az p1.Classes.length aP) Z) Z (zi Z Z Z (zG Z Z (congrArg nA (nB.2 ab.out))) (fun _=>zU Z Z zA) (zi Z Z Z (zG Z Z (congrArg nA (nB.2 ab.out))) (fun _=>ZE Z Z Z) (oR Z (zO Z (congrArg nA (nB.2 ab.out)) Z) (eN (ifc dL ?_ ?_)))))))))
 intro bt dM
 refine zj (zt (fun h=>h bt.out)) (kN (zH (sR fL1 Z (oA Z Z (eN (zZ (CK.iter (fun bi σ_ w_=>∃ (U_:PHeap),σ_ 2=.pointer (some ⟨b2,0,none⟩)/\σ_ 3=.pointer (some ⟨b6,0,none⟩)/\σ_ 6=jV bi/\PHeap.Le aT U_/\sW w U U_ [.blk b6 98 B1,.blk b2 31 B0] w_) dM ?_ ?_)))))))
 exact ⟨aT,Z,Z,Z,(zX _),aV⟩
 rintro bi eY fb bp ⟨aZ,bP,aU,bB,bg,be⟩ cb bX
 refine zH (sR fL5 Z (oM Z bB (oR Z (zS Z aU zx Z ZH) (oL Z (be.ldB (j:=0) Z Z Z ZL (v:=.slice aj p1.Times.length ak) Z) (oR Z (zU Z Z zd) (oR Z (ze Z Z Z) (eN ?_)))))))
 by_cases au:bi < (↑p1.Times.length:Int)
 have b5:=cb;rw [if_pos au] at b5;replace au:=zM au
 refine cT Z au (kN (zH (zZ (zH (ZM ZI [3,1,3,3,1,3,3,1,3,3] fL10 (by kernel_rfl) ?_)))))
 have aR:=be.drew
 generalize hw_W56:({ bp with drawn:=bp.drawn + 1 }:World)=eI at aR ⊢
 refine oR Z (zS Z aU zx Z ZH) (oL Z (aR.ldB (j:=0) Z Z Z ZL (v:=.slice aj p1.Times.length ak) Z) (oM Z bB (bnK b5 fun cq bD dN=>?_)))
 have cR:=bU.le bK
 have cS:=cR.le bL
 have cU:=cS.le bg
 have q:=cU.el (wAQ bD)
 obtain ⟨cA,d9,eU,dg,bG,dX⟩:=q
 obtain ⟨cj,cp,rfl,eL⟩:=dX
 replace bG:Cl aZ cA (d9 + bi.toNat * 1) [.slice cj cq.length cp]:=bG
 refine oR Z (Runs.iaI Z Z dg Z zd zP (wEc bD) (wFF bD)) (oL Z (aR.ldC (f:=0) bG (v:=.slice cj cq.length cp) Z Z zR Z) (oR Z (zU Z Z zA) (oR Z (zS Z bP ZD Z zP) (oL Z (aR.ldB (j:=1) Z Z Z zR (v:=.slice aW p0.Classes.length aX) Z) (oR Z (zU Z Z zA) (oR Z (ZE Z Z Z) (eN (ifc dN ?_ ?_))))))))
 intro bw dO
 refine zj (zt (fun h=>h bw.out)) (ZQ (zq (zK (rR fL3 Z (oM Z bB (oR Z (zm Z Z Z) (oA Z Z (zu ?_))))))))
 have q:=nD dO
 obtain rfl:=q
 exact zK ⟨Z,_,Z,⟨aZ,bP,aU,Z,bg,aR⟩⟩
 intro bw dP
 refine cT Z bw (sR fL1 Z (oA Z Z (eN (zI (zh (zJ ?_))))))
 have q:=wAp dP
 obtain ⟨ez,dQ,cG⟩:=q
 have q:=bX ez cG
 obtain rfl:=q
 refine zJ (zh (zJ ?_))
 cases dQ
 exact ⟨rfl,_,(zk rfl),aZ,_,(aR.pick [] _ (by decide) rfl),rfl,rfl⟩
 have b8:=cb;rw [if_neg au] at b8;replace au:=zM au
 refine cF Z au (ZO (zn ?_))
 have q:=wAp b8
 obtain ⟨eA,dR,cH⟩:=q
 have q:=bX eA cH
 obtain rfl:=q
 refine zn (ZK (zK (zH (sR (.fl 0 (.fl 1 (.fx 2 .nil .stop))) Z (oR Z (zS Z aU zx Z zP) (oL Z (be.ldB (j:=0) Z Z Z zR (v:=.slice az p1.Classes.length aP) Z) ?_))))))
 have cV:=dt.le bK
 have cW:=cV.le bL
 have cX:=cW.le bg
 refine bnK dR fun x86 cY dS=>zD 0 Z Z Z Z (zE Z Z Tryz.call118 (zB Z zL) Z) be (fun hs=>wDY p1.Classes az aP bp aZ hs cX cY) (.inr Z) ?_
 rintro a0 eF eR cx d6 dq ⟨rfl,rfl⟩
 have bT:sW w U a0 [.blk b6 98 B1,.blk b2 31 B0] cx:=dq
 refine eN (ifc dS ?_ ?_)
 intro bz dT
 refine zp (congrArg nA bz.out) (sR fL1 Z (oA Z Z (eN (zI (zJ ?_)))))
 cases dT
 exact ⟨rfl,_,(zk rfl),a0,_,(bT.pick [] _ (by decide) rfl),rfl,rfl⟩
 intro bz dU
 refine zj (congrArg nA (nB.2 bz.out)) (kN (zH (sR fL1 Z (oA Z Z (eN (zZ (CK.iter (fun aS σ_ w_=>∃ (U_:PHeap),σ_ 3=.pointer (some ⟨b6,0,none⟩)/\σ_ 7=jV aS/\PHeap.Le a0 U_/\sW w U U_ [.blk b6 98 B1,.blk b2 31 B0] w_) dU ?_ ?_)))))))
 exact ⟨a0,aU,Z,(zX _),bT⟩
 rintro aS eW eZ eH ⟨bj,bN,bO,cd,bH⟩ b9 bV
 refine zH (sR fL5 Z (oM Z bO (oR Z (zS Z bN zx Z ZH) (oL Z (bH.ldB (j:=0) Z Z Z ZL (v:=.slice aj p1.Times.length ak) Z) (oR Z (zU Z Z zd) (oR Z (ze Z Z Z) (eN ?_)))))))
 by_cases aq:aS < (↑p1.Times.length:Int)
 have bY:=b9;rw [if_pos aq] at bY;replace aq:=zM aq
 refine cT Z aq (kN (zH (zZ (sR fL1 Z (oA Z Z (eN (zZ (CK.iter (fun x120 σ_ w_=>∃ (U_:PHeap),σ_ 3=.pointer (some ⟨b6,0,none⟩)/\σ_ 7=jV aS/\σ_ 8=jV x120/\PHeap.Le bj U_/\sW w U U_ [.blk b6 98 B1,.blk b2 31 B0] w_) bY ?_ ?_))))))))
 exact ⟨bj,bN,bO,Z,(zX _),bH⟩
 rintro x120 eX e9 cr ⟨aY,ba,bb,bA,bJ,av⟩ dY bW
 refine zH (sR fL8 Z (oM Z bA (oR Z (zS Z ba zx Z ZH) (oL Z (av.ldB (j:=0) Z Z Z ZL (v:=.slice aj p1.Times.length ak) Z) (oM Z bb (bnK dY fun bh aQ dv=>?_))))))
 have cJ:=bU.le bK
 have cK:=cJ.le bL
 have cL:=cK.le bg
 have cM:=cL.le d6
 have cN:=cM.le cd
 have bQ:=cN.le bJ
 have q:=bQ.el (wAQ aQ)
 obtain ⟨cy,d7,eS,cZ,bE,dV⟩:=q
 obtain ⟨cf,cm,rfl,eK⟩:=dV
 replace bE:Cl aY cy (d7 + aS.toNat * 1) [.slice cf bh.length cm]:=bE
 refine oR Z (Runs.iaI Z Z cZ Z zd zP (wEc aQ) (wFF aQ)) (oL Z (av.ldC (f:=0) bE (v:=.slice cf bh.length cm) Z Z zR Z) (oR Z (zU Z Z zA) (oR Z (ze Z Z Z) (eN (ifc dv ?_ ?_)))))
 intro bq dw
 refine cT Z bq (kN (zH (zZ (sR (wOL (.fx 8 .nil .stop)) Z (oR Z (zS Z ba zx Z ZH) (oL Z (av.ldB (j:=0) Z Z Z ZL (v:=.slice aj p1.Times.length ak) Z) (oM Z bb ?_)))))))
 have q:=bQ.el (wAQ aQ)
 obtain ⟨cz,d8,eT,de,bF,dW⟩:=q
 obtain ⟨cg,cn,rfl,cO⟩:=dW
 replace bF:Cl aY cz (d8 + aS.toNat * 1) [.slice cg bh.length cn]:=bF
 refine oR Z (Runs.iaI Z Z de Z zd zP (wEc aQ) (wFF aQ)) (oL Z (av.ldC (f:=0) bF (v:=.slice cg bh.length cn) Z Z zR Z) (oM Z bA (bnK dw fun x163 bC dx=>?_)))
 have q:=cO.el (fun _=>rfl) (wAQ bC)
 obtain ⟨eJ,eM,df,dh⟩:=q
 refine oR Z (Runs.iaI Z Z df Z zA zC (wEc bC) (wFF bC)) (oL Z (av.ldC (f:=0) dh (v:=jV x163) Z Z zN Z) (bnK dx fun x170 cP dy=>zD 0 Z Z Z Z (zE Z Z ZY (zB Z (zB Z (zB Z zL))) Z) av (fun hs=>wAN x163 0 100000 cr aY hs cP) (.inr Z) ?_))
 rintro bo eD eP ct dZ dl ⟨rfl,rfl⟩
 have bR:sW w U bo [.blk b6 98 B1,.blk b2 31 B0] ct:=dl
 refine eN (ifc dy ?_ ?_)
 intro br dz
 refine zp (congrArg nA br.out) (sR fL1 Z (oA Z Z (eN (zI (zh (zJ ?_))))))
 have q:=wAp dz
 obtain ⟨ed,dA,cB⟩:=q
 have q:=bW ed cB
 obtain rfl:=q
 refine zJ (zh (zh (zJ ?_)))
 have q:=wAp dA
 obtain ⟨ef,dB,cC⟩:=q
 have q:=bV ef cC
 obtain rfl:=q
 refine zJ (zh (zJ ?_))
 cases dB
 exact ⟨rfl,_,(zk rfl),bo,_,(bR.pick [] _ (by decide) rfl),rfl,rfl⟩
 intro br dC
 refine zj (congrArg nA (nB.2 br.out)) (ZQ (zq (zK (rR fL3 Z (oM Z bA (oR Z (zm Z Z Z) (oA Z Z (zu ?_))))))))
 have q:=nD dC
 obtain rfl:=q
 exact zK ⟨Z,_,Z,⟨bo,ba,bb,Z,(bJ.trans dZ),bR⟩⟩
 intro bq dD
 refine cF Z bq (ZO (zn ?_))
 have q:=wAp dD
 obtain ⟨eh,dE,cD⟩:=q
 have q:=bW eh cD
 obtain rfl:=q
 refine zn (ZK (zq (zK (rR fL3 Z (oM Z bb (oR Z (zm Z Z Z) (oA Z Z (zu ?_))))))))
 have q:=nD dE
 obtain rfl:=q
 exact zK ⟨Z,_,Z,⟨aY,ba,Z,(cd.trans bJ),av⟩⟩
 have bZ:=b9;rw [if_neg aq] at bZ;replace aq:=zM aq
 refine cF Z aq (ZO (zn ?_))
 have q:=wAp bZ
 obtain ⟨ey,dF,cE⟩:=q
 have q:=bV ey cE
 obtain rfl:=q
 refine zn (ZK (zK (sR fL1 Z (oA Z Z (eN (zI ?_))))))
 cases dF
 exact ⟨rfl,_,(zk rfl),bj,_,(bH.pick [] _ (by decide) rfl),rfl,rfl⟩
 intro bt dG
 refine cT Z bt (sR fL1 Z (oA Z Z (eN (zI (zJ ?_)))))
 cases dG
 exact ⟨rfl,_,(zk rfl),aT,_,(aV.pick [] _ (by decide) rfl),rfl,rfl⟩
 intro bs dI
 refine cT Z bs (sR fL2 Z (oM Z Z (oA Z Z (eN (zI (zJ ?_))))))
 have hE:=nD dI;first | subst r | cases hE
 exact ⟨rfl,_,(zk rfl),bm,_,(bI.pick [] _ (by decide) rfl),rfl,rfl⟩
theorem wHI (p0:Int) (p1:wAB) (ak:Nat) (ae:Option Addr) (ah:Nat) (aj:Option Addr) (am:Nat) (w:World) (U:PHeap) (hS:St0 w U []) (az:Cl U ak 0 [.slice ae p1.Classes.length ah,.slice aj p1.Times.length am]) (aR:Sl U 1 ae ah p1.Classes.length (hH KL.encI p1.Classes)) (aS:SlR U wDX aj am p1.Times) {r:Bool} (hm:wBo p0 p1=some r):Gv Tryz.prog 119 [jV p0,.pointer (some ⟨ak,0,none⟩)] w (wCQ w [] U (fun U_ L_ v=>v=.bool r/\L_=[])):=by
 unfold wBo at hm
 refine Gv.of Tryz.func119 Z Tryz.ntmps119 Tryz.results119 Z (sR fL1 Z (oA Z Z (eN (sR (wFk gAj) Z (oM Z Z (oR Z (zS Z Z zg Z zP) (oL Z (hS.ldC (f:=0) az (v:=.slice ae p1.Classes.length ah) Z Z zR Z) (oR Z (zU Z Z zA) (oR Z (Za Z Z Z) (bnK hm fun x1 h2 aP=>zD 0 Z Z Z Z (zE Z Z Zq (zB Z (zB Z (zB Z zL))) Z) hS (fun hs=>wCa p0 0 (w64 ((↑p1.Classes.length:Int) - 1)) w U hs h2) (.inr Z) ?_))))))))))
 rintro U4 L5 v6 W7 aT av ⟨rfl,rfl⟩
 have au:sW w U U4 [] W7:=av
 refine oA Z Z (eN (zI ?_))
 have hE:=nD aP;first | subst r | cases hE
 exact ⟨Z,_,(zk Z),U4,_,au,Z,Z⟩
theorem wCM (p0:wAI) (ae:Option Addr) (ai:Nat) (ap:Option Addr) (aq:Nat) (ah:Option Addr) (aj:Nat) (p1:Int) (p2:Int) (w:World) (U:PHeap) (hS:St0 w U []) (aV:Sl U 1 ae ai p0.Squad.Classes.length (hH KL.encI p0.Squad.Classes)) (bg:SlR U wDX ap aq p0.Squad.Times) (aW:Sl U 1 ah aj p0.rules.Classes.length (hH KL.encI p0.rules.Classes)) {r:Bool} (hm:wAT p0 p1 p2=some r):Gv Tryz.prog 124 [.agg #[.slice ae p0.Squad.Classes.length ai,.slice ap p0.Squad.Times.length aq,.slice ah p0.rules.Classes.length aj,jV p0.rules.Each,jV p0.rules.Laps,jV p0.rules.Spare,jV p0.rules.Loop,jV p0.rules.Unused],jV p1,jV p2] w (wCQ w [] U (fun U_ L_ v=>v=.bool r/\L_=[])):=by
 unfold wAT at hm
 refine Gv.of Tryz.func124 rfl Tryz.ntmps124 Tryz.results124 rfl (sR gAi rfl (zy (cs:=[.slice ae p0.Squad.Classes.length ai,.slice ap p0.Squad.Times.length aq,.slice ah p0.rules.Classes.length aj,jV p0.rules.Each,jV p0.rules.Laps,jV p0.rules.Spare,jV p0.rules.Loop,jV p0.rules.Unused]) rfl rfl rfl rfl rfl rfl (by rfl) hS ?_))
 intro W1 b2 aU
 refine OKS.ra rfl rfl rfl rfl rfl rfl (eN (zH (ZM ZI [3,3,1,3,3,1,3,3,1,3,3,1,3,3] fL14 (by kernel_rfl) ?_)))
 have ab:=aU.drew
 generalize hw_W6:({ W1 with drawn:=W1.drawn + 1 }:World)=W6 at ab ⊢
 refine oR Z (zS Z Z Zg Z zw) (oR Z (zS Z Z zg Z zP) (oL Z (ab.ldB (j:=0) Z Z Z zR (v:=.slice ae p0.Squad.Classes.length ai) Z) (oM Z Z (bnK hm fun x7 h8 aX=>?_))))
 have q:=aV.el (fun _=>rfl) (wAQ h8)
 obtain ⟨ba,bh,aQ,aS⟩:=q
 refine oR Z (Runs.iaI Z Z aQ Z zA zC (wEc h8) (wFF h8)) (oL Z (ab.ldC (f:=0) aS (v:=jV x7) Z Z zN Z) (oR Z (zS Z Z Zg Z zr) (oR Z (zS Z Z zW Z zP) (oL Z (ab.ldB (j:=0) Z Z Z zR (v:=.slice ah p0.rules.Classes.length aj) Z) (oM Z Z (bnK aX fun aY ak av=>?_))))))
 have q:=aW.el (fun _=>rfl) (wAQ ak)
 obtain ⟨bb,bi,aR,aT⟩:=q
 refine oR Z (Runs.iaI Z Z aR Z zA zC (wEc ak) (wFF ak)) (oL Z (ab.ldC (f:=0) aT (v:=jV aY) Z Z zN Z) (oR Z (Zo Z Z Z) (oA Z Z (eN (zI ?_)))))
 first | (obtain rfl:=nD av) | cases av
 exact ⟨rfl,_,(zk rfl),U,_,(ab.pick [] _ (by decide) rfl),rfl,rfl⟩
theorem wEt (p0:List Int) (aj:Option Addr) (ak:Nat) (w:World) (U:PHeap) (hS:St0 w U []) (ba:Sl U 1 aj ak p0.length (hH KL.encI p0)) {r:Int} (hm:wCG p0=some r):Gv Tryz.prog 125 [.slice aj p0.length ak] w (wCQ w [] U (fun U_ L_ v=>v=jV r/\L_=[])):=by
 unfold wCG at hm
 refine Gv.of Tryz.func125 Z Tryz.ntmps125 Tryz.results125 Z (sR fL1 Z (oA Z Z (eN (sR fL1 Z (oA Z Z (eN (zH (sR fL3 Z (oM Z Z (oR Z (zU Z Z zA) (oM Z Z (eN (zZ (bnK hm fun bw be bi=>?_))))))))))))))
 have q:=wCq be
 obtain ⟨ai,bb⟩:=q
 replace ai:=zM ai
 refine CK.forN' (fun k7 x6 σ_ w_=>∃ (U_:PHeap),σ_ 8=jV (↑k7:Int)/\σ_ 3=jV x6/\σ_ 6=.slice aj p0.length ak/\σ_ 7=jV (↑p0.length:Int)/\PHeap.Le U U_/\sW w U U_ [] w_) bb ?_ ?_ ?_
 exact ⟨U,Z,Z,Z,Z,(zX _),hS⟩
 rintro k7 x6 bt bz bm ah ⟨aQ,ae,aT,ap,aq,az,av⟩ bj
 have am:Hid ((↑k7:Int) < (↑p0.length:Int)):=zM (wCE ah)
 replace ah:=zM ah
 have bg:Hid (w64 ((↑k7:Int) + 1)=(↑(k7 + 1):Int)):=zM (by have h1:=ai.out;have h2:=am.out;rw [wAa] <;> omega)
 refine sR fL1 Z (oR Z (ze Z ae aq) (eN (zH (cT Z am (kN (zH (zZ (sR fL3 Z (bnK bj fun x28 au bh=>?_)))))))))
 have aX:=ba.le az
 have q:=aX.el (fun _=>rfl) (wAQ au)
 obtain ⟨bp,bs,aY,aZ⟩:=q
 refine oR Z (zo Z ap aY ae zA zC (wBJ au)) (oL Z (av.ldC (f:=0) aZ (v:=jV x28) Z Z zN Z) (oA Z Z (eN (rR fL4 Z (oM Z aT (oM Z Z (oR Z (zm Z Z Z) (oA Z Z (zu (zq (zK (rR fL2 Z (oR Z (ZJ (zm Z ae Z) (congrArg (jV) bg.out)) (oM Z Z (zu ?_)))))))))))))))
 cases bh
 exact zK ⟨Z,⟨aQ,Z,Z,ap,aq,az,av⟩⟩
 rintro bA bo ⟨aR,aW,aU,bq,aV,br,a0⟩
 have aS:Hid (¬ ((↑(((↑p0.length:Int):Int) - 0).toNat:Int) < (↑p0.length:Int))):=zM (wBb)
 refine sR fL1 Z (oR Z (ze Z aW aV) (eN (zH (cF Z aS (ZO (zn (zn (ZK (zK (sR fL2 Z (oM Z aU (oA Z Z (eN (zI ?_))))))))))))))
 have hE:=nD bi;first | subst r | cases hE
 exact ⟨Z,_,(zk Z),aR,_,a0,Z,Z⟩
theorem wDD (p0:wAI) (aY:Option Addr) (a0:Nat) (aR:Option Addr) (aS:Nat) (aZ:Option Addr) (ba:Nat) (p1:List Int) (bq:Option Addr) (br:Nat) (w:World) (U:PHeap) (hS:St0 w U []) (cW:Sl U 1 aY a0 p0.Squad.Classes.length (hH KL.encI p0.Squad.Classes)) (cX:SlR U wDX aR aS p0.Squad.Times) (cY:Sl U 1 aZ ba p0.rules.Classes.length (hH KL.encI p0.rules.Classes)) (cZ:Sl U 1 bq br p1.length (hH KL.encI p1)) {r:Int × Bool} (hm:wBQ p0 p1=some r):Gv Tryz.prog 120 [.agg #[.slice aY p0.Squad.Classes.length a0,.slice aR p0.Squad.Times.length aS,.slice aZ p0.rules.Classes.length ba,jV p0.rules.Each,jV p0.rules.Laps,jV p0.rules.Spare,jV p0.rules.Loop,jV p0.rules.Unused],.slice bq p1.length br] w (wCQ w [] U (fun U_ L_ v=>v=.tuple #[jV r.1,.bool r.2]/\L_=[])):=by
 unfold wBQ at hm
 refine Gv.of Tryz.func120 Z Tryz.ntmps120 Tryz.results120 Z (sR (.fx 0 gAa .stop) Z ?_)
 let B0:List Value:=[.slice aY p0.Squad.Classes.length a0,.slice aR p0.Squad.Times.length aS,.slice aZ p0.rules.Classes.length ba,jV p0.rules.Each,jV p0.rules.Laps,jV p0.rules.Spare,jV p0.rules.Loop,jV p0.rules.Unused]
 refine zy (cs:=B0) rfl rfl rfl rfl rfl rfl (by rfl) hS ?_
 intro W1 b2 bM
 refine oA Z Z (oA Z Z (eN (sR fL3 Z (oL Z (bM.ldBA (j:=0) Z Z Z Zs Zc (vs:=B0) Z Z) (oR Z (Runs.mkf Z (zB Z zL) zL) (oA Z Z (eN (sR fL1 Z (oA Z Z (eN (sR (.fx 0 .nil .stop) Z (ZG (cs:=hH KL.encI (Arr.fill 8 0).l) Z Z Z Z Z Tryz.zeroValue256 Z bM ?_))))))))))))
 intro W5 b6 cR
 have cV:sW w U U [.blk b6 256 (hH KL.encI (Arr.fill 8 0).l),.blk b2 249 B0] W5:=cR
 refine eN (zH (sR fL3 Z (oM Z Z (oR Z (zU Z Z zA) (oM Z Z (eN (zZ ?_)))))))
 have q:=wCP hm
 obtain ⟨dX,aX⟩:=q
 have q:=wCO aX
 obtain ⟨bp,df⟩:=q
 replace bp:=zM bp
 refine Zk (fun av (ae,aP) σ_ w_=>∃ (U_:PHeap) (aT:Option Addr) (aU:Nat),σ_ 15=jV (↑av:Int)/\σ_ 2=.pointer (some ⟨b2,0,none⟩)/\σ_ 6=.func (.func 124) #[.agg B0.toArray] #[]/\σ_ 7=.slice aT aP.length aU/\σ_ 8=.pointer (some ⟨b6,0,none⟩)/\σ_ 13=.slice bq p1.length br/\σ_ 14=jV (↑p1.length:Int)/\PHeap.Le U U_/\sW w U U_ [.blk b6 256 (hH KL.encI ae.l),.blk b2 249 B0,.row aT aU 3 1 (hH KL.encI aP)] w_) df ?_ ?_ ?_
 have cP:=cV.nilrow 3 1
 exact ⟨U,none,0,rfl,rfl,rfl,rfl,rfl,rfl,rfl,(zX _),(cP.pick [1,2,0] _ (by decide) rfl)⟩
 rintro av ⟨ae,aP⟩ d8 ed dL bo ⟨bB,aT,aU,aW,bh,bF,cp,aV,bG,bH,aQ,bm⟩ bQ bO
 try dsimp only at bQ
 have bE:Hid ((↑av:Int) < (↑p1.length:Int)):=zM (wCE bo)
 replace bo:=zM bo
 have dl:Hid (w64 ((↑av:Int) + 1)=(↑(av + 1):Int)):=zM (by have h1:=bp.out;have h2:=bE.out;rw [wAa] <;> omega)
 refine sR fL1 Z (oR Z (ze Z aW bH) (eN (zH (cT Z bE (kN (zH (zZ (sR fL5 Z (oM Z aW (bnK bQ fun ab bJ du=>?_))))))))))
 have cw:=cZ.le aQ
 have q:=cw.el (fun _=>rfl) (wAQ bJ)
 obtain ⟨dN,dW,cD,cG⟩:=q
 refine oR Z (zo Z bG cD aW zA zC (wBJ bJ)) (oL Z (bm.ldC (f:=0) cG (v:=jV ab) Z Z zN Z) (oA Z Z (oA Z Z (eN (sR (wFk (.fx 5 .nil .stop)) Z (oM Z Z (bnK du fun _ aj dv=>oR Z (Runs.iaA Z aV Z ZV zC (wEE aj) (wEF aj)) ?_)))))))
 have dg:=Arr.at_ ae (k:=ab.toNat) (by have hz0:=wAW aj;omega)
 refine zz rfl rfl rfl rfl (bm.ldB (j:=0) rfl rfl rfl zN (wAh (sz:=1) (fun _=>rfl) _ _ 0 _ dg (by first | omega | rfl | simp) rfl)) rfl (zi rfl rfl rfl rfl (fun _=>zm rfl rfl rfl) (zi rfl rfl rfl rfl (fun _=>Runs.iaA rfl aV rfl ZV zC (wEE aj) (wEF aj)) ?_))
 have dh:=Arr.at_ ae (k:=ab.toNat) (by have hz0:=wAW aj;omega)
 refine ZW (j:=0) (vs:=[jV (w64 ((ae.get ab.toNat) + 1))]) (cs':=hH KL.encI (ae.set ab.toNat (w64 ((ae.get ab.toNat) + 1))).l) rfl rfl rfl rfl bm rfl rfl rfl rfl zC (by have hz0:=wAW aj;simp only [nI,List.length_cons,List.length_nil,nJ,wIp (f:=KL.encI) (sz:=1) (N:=8) ae (fun _=>rfl) rfl];omega) rfl (wJd (sz:=1) (fo:=0) (fun _=>rfl) _ _ _ _ dh (by first | omega | rfl | simp) (zY rfl) rfl) rfl ?_
 intro be cQ
 let B1:Res:=.row aT aU 3 1 (hH KL.encI aP)
 have cS:sW w U bB [.blk b6 256 (hH KL.encI (ae.set ab.toNat (w64 ((ae.get ab.toNat) + 1))).l),.blk b2 249 B0,B1] be:=cQ
 refine eN (zH (zH (ZM ZI [3,3,3,2,3,3,3,3,1,3,3,1,3,3] (wDT (.fx 3 (wSb (.nil)) .stop)) (by kernel_rfl) ?_)))
 have bN:=cS.drew
 generalize hw_W72:({ be with drawn:=be.drawn + 1 }:World)=b5 at bN ⊢
 refine oM Z bF (oM Z Z (oM Z Z ?_))
 have cx:=cW.le aQ
 have bK:=cX.le aQ
 have cy:=cY.le aQ
 refine bnK dv fun d7 cz dw=>zD 0 Z Z Z Z (zE Z Z Tryz.call124 (zB Z (zB Z zL)) Z) bN (fun hs=>wCM p0 aY a0 aR aS aZ ba ab (↑av:Int) b5 bB hs cx bK cy cz) (.inr Z) ?_
 rintro au dI dZ b8 bR cU ⟨rfl,rfl⟩
 have aq:sW w U au [.blk b6 256 (hH KL.encI (ae.set ab.toNat (w64 ((ae.get ab.toNat) + 1))).l),.blk b2 249 B0,B1] b8:=cU
 refine oR Z (ZR Z Z) (oM Z Z (ifc dw ?_ ?_))
 intro ah dx
 refine zf Z Z Z (zG Z Z (nC ah.out)) Z Z (zi Z Z Z (zG Z Z (nC ah.out)) (fun _=>Runs.iaA Z aV Z ZV zC (wEE aj) (wEF aj)) ?_)
 have dk:=Arr.at_ (ae.set ab.toNat (w64 ((ae.get ab.toNat) + 1))) (k:=ab.toNat) (by have hz0:=wAW aj;omega)
 refine zz rfl rfl rfl (zG rfl rfl (nC ah.out)) (aq.ldB (j:=0) rfl rfl rfl zN (wAh (sz:=1) (fun _=>rfl) _ _ 0 _ dk (by first | omega | rfl | simp) rfl)) rfl (zi rfl rfl rfl (zG rfl rfl (nC ah.out)) (fun _=>zS rfl bh Zg rfl zr) (zi rfl rfl rfl (zG rfl rfl (nC ah.out)) (fun _=>zS rfl rfl zW rfl zC) (zz rfl rfl rfl (zG rfl rfl (nC ah.out)) (aq.ldB (j:=1) rfl rfl rfl zN (v:=jV p0.rules.Each) rfl) rfl (zi rfl rfl rfl (zG rfl rfl (nC ah.out)) (fun _=>Zh rfl rfl rfl) (zi rfl rfl rfl rfl (fun _=>zO rfl (nC ah.out) rfl) (eN (ifc dx ?_ ?_)))))))
 intro bg dy
 refine cT Z bg (sR fL2 Z (oA Z Z (oA Z Z (eN (zI (zJ (zh (zJ ?_))))))))
 have q:=wAp dy
 obtain ⟨dG,dz,cj⟩:=q
 have q:=wCd hm aX (bO dG cj)
 obtain rfl:=q
 refine zJ (zh (zJ ?_))
 cases dz
 exact ⟨rfl,_,(wDk rfl rfl),au,_,(aq.pick [] _ (by decide) rfl),rfl,rfl⟩
 intro bg dA
 refine cF Z bg (kN (rR (fC0_9 (.fx 10 (.fx 11 (.fl 12 .nil) .stop) .stop)) Z (oM Z cp (oR Z (zS Z bh Zg Z zw) (oR Z (zS Z Z zg Z ZH) (oL Z (aq.ldB (j:=1) Z Z Z ZL (v:=.slice aR p0.Squad.Times.length aS) Z) (oM Z Z (bnK dA fun x95 bi dB=>?_))))))))
 have cA:=bK.le bR
 have q:=cA.el (wAQ bi)
 obtain ⟨cb,dE,d6,cB,bj,dC⟩:=q
 obtain ⟨bS,bT,rfl,cr⟩:=dC
 replace bj:Cl au cb (dE + ab.toNat * 1) [.slice bS x95.length bT]:=bj
 refine oR Z (Runs.iaI Z Z cB Z zd zP (wEc bi) (wFF bi)) (oL Z (aq.ldC (f:=0) bj (v:=.slice bS x95.length bT) Z Z zR Z) (oM Z Z (bnK dB fun az bI dm=>?_)))
 have q:=cr.el (fun _=>rfl) (wAQ bI)
 obtain ⟨dM,dV,cC,cE⟩:=q
 refine oR Z (zo Z Z cC Z zA zC (wBJ bI)) (oL Z (aq.ldC (f:=0) cE (v:=jV az) Z Z zN Z) (Zf (pv:=[(0,jV az)]) (zs:=[jV 0]) (cs:=[jV az]) Z Z Z Z Z (wAR Z wBz) zA zC ZS Z Z Z Z Z aq ?_))
 intro bW b9 cH
 let B2:Res:=.row (some ⟨b9,0,none⟩) 1 3 1 (hH KL.encI [az])
 have bL:sW w U au [B2,.blk b6 256 (hH KL.encI (ae.set ab.toNat (w64 ((ae.get ab.toNat) + 1))).l),.blk b2 249 B0,B1] bW:=cH
 refine bnK dm fun x120 ct dp=>OKS.append (j:=3) (enc:=KL.encI) (xs:=aP) (ys:=[az]) (zs:=x120) rfl rfl rfl rfl rfl Zj wDz rfl rfl rfl rfl rfl rfl bL rfl rfl rfl (bL.srcR (j:=0) rfl (by decide) (wAH (f:=KL.encI) (sz:=1) (fun _=>rfl) [az])) (fun _=>rfl) (fun _=>rfl) ct rfl ?_
 intro bt bD bX cI
 have cJ:sW w U au [B2,.blk b6 256 (hH KL.encI (ae.set ab.toNat (w64 ((ae.get ab.toNat) + 1))).l),.blk b2 249 B0,.row bt bD 3 1 (hH KL.encI x120)] bX:=cI
 refine oA Z Z (zu (zq (zK (rR fL2 Z (oR Z (ZJ (zm Z aW Z) (congrArg (jV) dl.out)) (oM Z Z (zu ?_)))))))
 have q:=nD dp
 obtain rfl:=q
 exact zK ⟨rfl,_,rfl,⟨au,bt,bD,rfl,bh,bF,rfl,aV,bG,bH,(aQ.trans bR),(cJ.pick [1,2,3] _ (by decide) rfl)⟩⟩
 intro ah dq
 refine zV Z Z Z (zF Z Z (nF (ah.out)) Z) (zV Z Z Z (zF Z Z (nF (ah.out)) Z) (zV Z Z Z (zF Z Z (nF (ah.out)) Z) (zV Z Z Z (zF Z Z (nF (ah.out)) Z) (zV Z Z Z (zF Z Z (nF (ah.out)) Z) (zV Z Z Z (zF Z Z (nF (ah.out)) Z) (zV Z Z Z (zF Z Z (nF (ah.out)) Z) (oR Z (zQ Z (nF (ah.out)) Z) (eN (zp Z (sR fL2 Z (oA Z Z (oA Z Z (eN (zI (zJ (zh (zJ ?_)))))))))))))))))
 have q:=wAp dq
 obtain ⟨dF,dr,cg⟩:=q
 have q:=wCd hm aX (bO dF cg)
 obtain rfl:=q
 refine zJ (zh (zJ ?_))
 cases dr
 exact ⟨rfl,_,(wDk rfl rfl),au,_,(aq.pick [] _ (by decide) rfl),rfl,rfl⟩
 rintro ⟨bU,bs⟩ d9 bC ⟨dJ,bV,cd,cq,dO,dP,cm,dQ,dR,cn,dS,cK⟩ de
 have bP:=wDA hm aX de
 try dsimp only at bP
 have cf:Hid (¬ ((↑(((↑p1.length:Int):Int) - 0).toNat:Int) < (↑p1.length:Int))):=zM (wBb)
 refine sR fL1 Z (oR Z (ze Z cq cn) (eN (zH (cF Z cf (ZO (zn (zn (ZK (zK (sR (.fl 0 gAr) Z (oM Z cm ?_)))))))))))
 have q:=cK.freezeR (k:=2) (n:=bs.length) rfl (wAH (f:=KL.encI) (sz:=1) (fun _=>rfl) bs) (by decide)
 obtain ⟨bz,dT,dD,cL⟩:=q
 have cM:sW w U bz [.blk b6 256 (hH KL.encI bU.l),.blk b2 249 B0] bC:=cL
 refine bnK bP fun x160 cu dt=>zD 0 Z Z Z Z (zE Z Z Tryz.call125 (zB Z zL) Z) cM (fun hs=>wEt bs bV cd bC bz hs dD cu) (.inr Z) ?_
 rintro bA dH dY bY dU cN ⟨rfl,rfl⟩
 have cO:sW w U bA [.blk b6 256 (hH KL.encI bU.l),.blk b2 249 B0] bY:=cN
 refine oA Z Z (oA Z Z (eN (zI ?_)))
 cases dt
 exact ⟨rfl,_,(wDk rfl rfl),bA,_,(cO.pick [] _ (by decide) rfl),rfl,rfl⟩
end Go.Proofs.YtabadkdjndnliaaGreat
namespace Go.Proofs.YtabadkdjndnliaaGreat
open Go.KL
set_option maxHeartbeats 4000000
theorem wIa (p0:wAA) (ah:Option Addr) (ak:Nat) (p1:wAB) (ai:Option Addr) (am:Nat) (aj:Option Addr) (ap:Nat) (p2:List Int) (aW:Option Addr) (aX:Nat) (w:World) (U:PHeap) (hS:St0 w U []) (bU:Sl U 1 ah ak p0.Classes.length (hH KL.encI p0.Classes)) (bV:Sl U 1 ai am p1.Classes.length (hH KL.encI p1.Classes)) (bW:SlR U wDX aj ap p1.Times) (bX:Sl U 1 aW aX p2.length (hH KL.encI p2)) {r:Int × Int} (hm:wCe p0 p1 p2=some r):Gv Tryz.prog 42 [.agg #[.slice ah p0.Classes.length ak,jV p0.Each,jV p0.Laps,jV p0.Spare,jV p0.Loop,jV p0.Unused],.agg #[.slice ai p1.Classes.length am,.slice aj p1.Times.length ap],.slice aW p2.length aX] w (wCQ w [] U (fun U_ L_ v=>v=.tuple #[jV r.1,jV r.2]/\L_=[])):=by
 unfold wCe at hm
 refine Gv.of Tryz.func42 Z Tryz.ntmps42 Tryz.results42 Z (sR gAv Z ?_)
 let B0:List Value:=[.slice ah p0.Classes.length ak,jV p0.Each,jV p0.Laps,jV p0.Spare,jV p0.Loop,jV p0.Unused]
 refine zy (cs:=B0) rfl rfl rfl rfl rfl rfl (by rfl) hS ?_
 intro W1 b2 bQ
 let B1:List Value:=[.slice ai p1.Classes.length am,.slice aj p1.Times.length ap]
 refine zy (cs:=B1) rfl rfl rfl rfl rfl rfl (by rfl) bQ ?_
 intro W5 b6 bT
 have q:=bT.freeze (k:=0) rfl
 obtain ⟨U9,aV,aq,bO⟩:=q
 replace aq:=Cl.of aq
 have bh:sW w U U9 [.blk b2 24 B0] W5:=bO
 replace aq:Cl U9 b6 0 B1:=aq
 refine oA Z Z (oA Z Z (eN (sR gAw Z (oL Z (bh.ldBA (j:=0) Z Z Z ZC zr (vs:=B0) Z Z) (oL Z (bh.ldCA (f:=0) aq Z Z ZF zw (us:=B1) Z Z) ?_)))))
 have bo:=bU.le aV
 have bp:=bV.le aV
 have bq:=bW.le aV
 refine bnK hm fun cA bD bY=>zD 0 Z Z Z Z (zE Z Z Tryz.call40 (zB Z (zB Z zL)) Z) bh (fun hs=>wBx p0 ah ak p1 ai am aj ap W5 U9 hs bo bp bq bD) (.inr Z) ?_
 rintro az cq cx bi aQ bP ⟨rfl,rfl⟩
 have aT:sW w U az [.blk b2 24 B0] bi:=bP
 refine oA Z Z (eN (zH (zZ (sR fL3 Z (oM Z Z (oR Z (ZE Z Z Z) (oA Z Z (eN (ifc bY ?_ ?_)))))))))
 intro ba bZ
 refine zj (zt (fun h=>h ba.out)) (sR fL7 Z (oM Z Z (oR Z (zU Z Z zA) (oR Z (zS Z Z zW Z zP) (oL Z (aT.ldB (j:=0) Z Z Z zR (v:=.slice ah p0.Classes.length ak) Z) (oR Z (zU Z Z zA) (oR Z (ZE Z Z Z) (oA Z Z (eN (ifc bZ ?_ ?_))))))))))
 intro bb b5
 refine zj (zt (fun h=>h bb.out)) (sR gAy Z (oM Z Z (oR Z (Runs.mkf Z zL (zB Z zL)) ?_)))
 have bE:=bX.le aV
 have br:=bE.le aQ
 have bs:=aq.le aQ
 have bt:=bp.le aQ
 have bw:=bq.le aQ
 have bN:FnOK Tryz.prog az (.func (.func 119) #[] #[.pointer (some ⟨b6,0,none⟩)]) wHF wHG (fun x=>wBo x p1):=⟨119,[],[.pointer (some ⟨b6,0,none⟩)],rfl,Tryz.call119,fun U1 w1 x y vs le hs ha hm=>by obtain rfl:=ha;exact wHI x p1 b6 ai am aj ap w1 U1 hs (bs.le le) (bt.le le) (bw.le le) hm⟩
 refine bnK b5 fun cB bF b8=>zD 0 Z Z Z Z (zE Z Z Tryz.call114 (zB Z (zB Z zL)) Z) aT (fun hs=>wBt p2 aW aX (fun x=>wBo x p1) (.func (.func 119) #[] #[.pointer (some ⟨b6,0,none⟩)]) bi az hs br bN bF) (.inr Z) ?_
 rintro aY cr cy bj aR bR ⟨rfl,rfl⟩
 have aU:sW w U aY [.blk b2 24 B0] bj:=bR
 refine oR Z (ZR Z Z) (oA Z Z (eN (ifc b8 ?_ ?_)))
 intro be b9
 refine zj (nC be.out) (ZQ (zq (zK (sR (wHf (.fx 4 (wON (.nil)) .stop)) Z ?_))))
 have bG:=bs.le aR
 refine oL Z (aU.ldCA (f:=0) bG Z Z ZF zw (us:=B1) Z Z) (oL Z (aU.ldBA (j:=0) Z Z Z ZC zr (vs:=B0) Z Z) (oR Z (Zm (pv:=[(0,.agg B1.toArray),(1,.agg B0.toArray)]) (z:=[.slice none 0 0,.slice none 0 0,.slice none 0 0,jV 0,jV 0,jV 0,jV 0,jV 0]) (cs:=[.slice ai p1.Classes.length am,.slice aj p1.Times.length ap,.slice ah p0.Classes.length ak,jV p0.Each,jV p0.Laps,jV p0.Spare,jV p0.Loop,jV p0.Unused]) Z (wAR Z (wAR Z wBz)) Zd wEM Z Z) (oM Z Z ?_)))
 have bH:=bt.le aR
 have bI:=bw.le aR
 have bJ:=bo.le aQ
 have bK:=bJ.le aR
 have bL:=br.le aR
 have q:=bnd b9
 obtain ⟨⟨cn,cp⟩,bM,bA⟩:=q
 try dsimp only at bA
 refine zD 0 Z Z Z Z (zE Z Z Tryz.call120 (zB Z (zB Z zL)) Z) aU (fun hs=>wDD (⟨p1,p0⟩:wAI) ai am aj ap ah ak p2 aW aX bj aY hs bH bI bK bL bM) (.inr Z) ?_
 rintro aZ ct cz bC cw bS ⟨rfl,rfl⟩
 have bz:sW w U aZ [.blk b2 24 B0] bC:=bS
 refine oM Z Z (oR Z (ZB Z Z (v:=jV cn) Z) (oR Z (ZB Z Z (v:=.bool cp) Z) (oA Z Z (oA Z Z (eN (zH (sR fL2 Z (oM Z Z (oR Z (ZR Z Z) (eN (ifc bA ?_ ?_)))))))))))
 intro bg cb
 refine zj (nC bg.out) (kN (sR fL3 Z (oM Z Z (oA Z Z (oA Z Z (eN (zI ?_)))))))
 cases cb
 exact ⟨rfl,_,(wDk rfl rfl),aZ,_,(bz.pick [] _ (by decide) rfl),rfl,rfl⟩
 intro bg cd
 refine zp (nF (bg.out)) (sR fL2 Z (oA Z Z (oA Z Z (eN (zI (zJ ?_))))))
 cases cd
 exact ⟨rfl,_,(wDk rfl rfl),aZ,_,(bz.pick [] _ (by decide) rfl),rfl,rfl⟩
 intro be cf
 refine zp (nF (be.out)) (sR fL2 Z (oA Z Z (oA Z Z (eN (zI (zh (zJ ?_)))))))
 cases cf
 exact ⟨rfl,_,(wDk rfl rfl),aY,_,(aU.pick [] _ (by decide) rfl),rfl,rfl⟩
 intro bb cg
 refine cT Z bb (sR fL2 Z (oA Z Z (oA Z Z (eN (zI (zh (zJ ?_)))))))
 cases cg
 exact ⟨rfl,_,(wDk rfl rfl),az,_,(aT.pick [] _ (by decide) rfl),rfl,rfl⟩
 intro ba cj
 refine cT Z ba (sR fL3 Z (oM Z Z (oA Z Z (oA Z Z (eN (zI (zh (zJ ?_))))))))
 cases cj
 exact ⟨rfl,_,(wDk rfl rfl),az,_,(aT.pick [] _ (by decide) rfl),rfl,rfl⟩
theorem wDE (p0:wAD) (aW:Option Addr) (a0:Nat) (p1:wAC) (aX:Option Addr) (ba:Nat) (aY:Option Addr) (bb:Nat) (p2:List Int) (aZ:Option Addr) (be:Nat) (w:World) (U:PHeap) (hS:St0 w U []) (dl:Sl U 1 aW a0 p0.Classes.length (hH KL.encI p0.Classes)) (dm:Sl U 1 aX ba p1.Classes.length (hH KL.encI p1.Classes)) (dp:SlR U wDX aY bb p1.Times) (bW:Sl U 1 aZ be p2.length (hH KL.encI p2)) {r:Int} (hm:wAv p0 p1 p2=some r):Gv Tryz.prog 121 [.agg #[.slice aW p0.Classes.length a0,jV p0.Each,jV p0.Laps,jV p0.Spare,jV p0.Loop,jV p0.Unused],.agg #[.slice aX p1.Classes.length ba,.slice aY p1.Times.length bb],.slice aZ p2.length be] w (wCQ w [] U (fun U_ L_ v=>v=jV r/\L_=[])):=by
 unfold wAv at hm
 refine Gv.of Tryz.func121 Z Tryz.ntmps121 Tryz.results121 Z (sR gAp Z ?_)
 let B0:List Value:=[.slice aW p0.Classes.length a0,jV p0.Each,jV p0.Laps,jV p0.Spare,jV p0.Loop,jV p0.Unused]
 refine zy (cs:=B0) rfl rfl rfl rfl rfl rfl (by rfl) hS ?_
 intro W1 b2 df
 let B1:List Value:=[.slice aX p1.Classes.length ba,.slice aY p1.Times.length bb]
 refine zy (cs:=B1) rfl rfl rfl rfl rfl rfl (by rfl) df ?_
 intro W5 b6 dh
 refine oA Z Z (eN (sR fL1 Z (oA Z Z (eN (zH (sR fL1 Z (oA Z Z (eN (zZ ?_)))))))))
 have q:=wCP hm
 obtain ⟨eO,aV⟩:=q
 have q:=wCO aV
 obtain ⟨bz,dr⟩:=q
 replace bz:=zM bz
 refine Zk (fun ak bC σ_ w_=>∃ (U_:PHeap),σ_ 8=jV (↑ak:Int)/\σ_ 2=.slice aZ p2.length be/\σ_ 3=.pointer (some ⟨b2,0,none⟩)/\σ_ 4=.pointer (some ⟨b6,0,none⟩)/\σ_ 7=jV bC/\PHeap.Le U U_/\sW w U U_ [.blk b6 98 B1,.blk b2 31 B0] w_) dr ?_ ?_ ?_
 exact ⟨U,Z,Z,Z,Z,Z,(zX _),dh⟩
 rintro ak bC eQ eV d7 bt ⟨bD,bP,bK,ct,cu,cw,am,de⟩ dO bX
 have bI:Hid ((↑ak:Int) < (↑p2.length:Int)):=zM (wCE bt)
 replace bt:=zM bt
 have dv:Hid (w64 ((↑ak:Int) + 1)=(↑(ak + 1):Int)):=zM (by have h1:=bz.out;have h2:=bI.out;rw [wAa] <;> omega)
 refine zH (sR fL4 Z (oM Z bP (oM Z bK (oR Z (zU Z Z zA) (oR Z (ze Z Z Z) (eN (cT Z bI (kN (zH (zZ (sR fL1 Z (oA Z Z (eN (zH (sR fL1 Z (oA Z Z (eN (zZ (bnK dO fun eT dt dI=>?_)))))))))))))))))))
 have q:=wCq dt
 obtain ⟨bA,du⟩:=q
 replace bA:=zM bA
 refine CK.forN' (fun av b9 σ_ w_=>∃ (U_:PHeap),σ_ 10=jV (↑av:Int)/\σ_ 2=.slice aZ p2.length be/\σ_ 3=.pointer (some ⟨b2,0,none⟩)/\σ_ 4=.pointer (some ⟨b6,0,none⟩)/\σ_ 7=jV bC/\σ_ 8=jV (↑ak:Int)/\σ_ 9=jV b9/\PHeap.Le bD U_/\sW w U U_ [.blk b6 98 B1,.blk b2 31 B0] w_) du ?_ ?_ ?_
 exact ⟨bD,Z,bK,ct,cu,cw,bP,Z,(zX _),de⟩
 rintro av b9 eR eW bG bw ⟨bE,aT,aq,bL,bM,bN,bm,bO,bB,dg⟩ dP
 have bJ:Hid ((↑av:Int) < (↑p2.length:Int)):=zM (wCE bw)
 replace bw:=zM bw
 have bY:Hid (w64 ((↑av:Int) + 1)=(↑(av + 1):Int)):=zM (by have h1:=bA.out;have h2:=bJ.out;rw [wAa] <;> omega)
 refine zH (sR fL4 rfl (zf rfl rfl rfl rfl rfl aT (zf rfl rfl rfl rfl rfl aq (zi rfl rfl rfl rfl (fun _=>zU rfl rfl zA) (zi rfl rfl rfl rfl (fun _=>ze rfl rfl rfl) (eN (cT Z bJ (kN (zH (zZ (zH (ZM ZI [3,3,3,1,3,3,3,1,3] fL9 (by kernel_rfl) ?_))))))))))))
 have au:=dg.drew
 generalize hw_W67:({ bG with drawn:=bG.drawn + 1 }:World)=d9 at au ⊢
 refine oM Z aq (oM Z aT (bnK dP fun dW bT dJ=>?_))
 have cI:=bW.le am
 have bU:=cI.le bB
 have q:=bU.el (fun _=>rfl) (wAQ bT)
 obtain ⟨eA,eL,cP,cX⟩:=q
 refine oR Z (zo Z Z cP Z zA zC (wBJ bT)) (oL Z (au.ldC (f:=0) cX (v:=jV dW) Z Z zN Z) (oM Z aq (oM Z bm (bnK dJ fun dX bV dK=>?_))))
 have q:=bU.el (fun _=>rfl) (wAQ bV)
 obtain ⟨eC,eM,cQ,cY⟩:=q
 refine oR Z (zo Z Z cQ Z zA zC (wBJ bV)) (oL Z (au.ldC (f:=0) cY (v:=jV dX) Z Z zN Z) (oR Z (Zo Z Z Z) (eN (ifc dK ?_ ?_))))
 intro bj dL
 refine cT Z bj (rR fL3 Z (oM Z bO (oR Z (zm Z Z Z) (oA Z Z (zu (zq (zK (rR fL3 Z (oM Z aT (oR Z (ZJ (zm Z Z Z) (congrArg (jV) bY.out)) (oA Z Z (zu ?_))))))))))))
 cases dL
 exact zK ⟨Z,⟨bE,Z,aq,bL,bM,bN,bm,Z,bB,au⟩⟩
 intro bj dM
 refine cF Z bj (ZQ (zq (zK (rR fL3 Z (oM Z aT (oR Z (ZJ (zm Z Z Z) (congrArg (jV) bY.out)) (oA Z Z (zu ?_))))))))
 cases dM
 exact zK ⟨Z,⟨bE,Z,aq,bL,bM,bN,bm,bO,bB,au⟩⟩
 rintro eX bH ⟨aP,cy,aS,bo,bp,cn,ap,cp,az,dk⟩
 have cf:Hid (¬ ((↑(((↑p2.length:Int):Int) - 0).toNat:Int) < (↑p2.length:Int))):=zM (wBb)
 refine zH (sR fL4 rfl (zf rfl rfl rfl rfl rfl cy (zf rfl rfl rfl rfl rfl aS (zi rfl rfl rfl rfl (fun _=>zU rfl rfl zA) (zi rfl rfl rfl rfl (fun _=>ze rfl rfl rfl) (eN (cF Z cf (ZO (zn (zn (ZK (zK (zH (zH (ZM ZI [3,3,1,3,3,3,1,3,3,3,1,3,1,3,1,3,3,1,3,3] fL20 (by kernel_rfl) ?_)))))))))))))))
 have ah:=dk.drew
 generalize hw_W105:({ bH with drawn:=bH.drawn + 1 }:World)=bF at ah ⊢
 refine oM Z cp (oR Z (zS Z bo ZD Z zC) (oL Z (ah.ldB (j:=1) Z Z Z zN (v:=jV p0.Each) Z) (oR Z (Zh Z Z Z) (oM Z Z (ifc dI ?_ ?_)))))
 intro aa dw
 refine oT Z aa (oT Z aa (oT Z aa (oT Z aa (oT Z aa (oT Z aa (oT Z aa (oT Z aa (oT Z aa (oT Z aa (oT Z aa (oT Z aa (oT Z aa (oT Z aa (oR Z (zQ Z (Zi aa.out) Z) (eN (zp Z (sR fL1 Z (oA Z Z (eN (zI (zJ (zh (zJ ?_)))))))))))))))))))))))
 have q:=wAp dw
 obtain ⟨dR,dx,cj⟩:=q
 have q:=wCd hm aV (bX dR cj)
 obtain rfl:=q
 refine zJ (zh (zJ ?_))
 cases dx
 exact ⟨rfl,_,(zk rfl),aP,_,(ah.pick [] _ (by decide) rfl),rfl,rfl⟩
 intro aa dy
 refine rU Z (wF Z aa) (zS Z bp zx Z zP) (zz Z Z Z (wF Z aa) (ah.ldB (j:=0) Z Z Z zR (v:=.slice aX p1.Classes.length ba) Z) Z (zf Z Z Z (wF Z aa) Z aS (zf Z Z Z (wF Z aa) Z ap (bnK dy fun x112 aU dz=>?_))))
 have cz:=bW.le am
 have bQ:=cz.le az
 have q:=bQ.el (fun _=>rfl) (wAQ aU)
 obtain ⟨ed,eG,cJ,cR⟩:=q
 refine rU Z (wF Z aa) (zo Z Z cJ Z zA zC (wBJ aU)) (zz Z Z Z (wF Z aa) (ah.ldC (f:=0) cR (v:=jV x112) Z Z zN Z) Z (bnK dz fun dT bq dA=>?_))
 have cA:=dm.le am
 have cB:=cA.le az
 have q:=cB.el (fun _=>rfl) (wAQ bq)
 obtain ⟨ef,eH,cK,cS⟩:=q
 refine rU Z (wF Z aa) (Runs.iaI Z Z cK Z zA zC (wEc bq) (wFF bq)) (zz Z Z Z (wF Z aa) (ah.ldC (f:=0) cS (v:=jV dT) Z Z zN Z) Z (rU Z (wF Z aa) (zS Z bo ZD Z zP) (zz Z Z Z (wF Z aa) (ah.ldB (j:=1) Z Z Z zR (v:=.slice aW p0.Classes.length a0) Z) Z (zf Z Z Z (wF Z aa) Z ap (bnK dA fun dU bR dB=>?_)))))
 have cC:=dl.le am
 have cD:=cC.le az
 have q:=cD.el (fun _=>rfl) (wAQ bR)
 obtain ⟨eh,eI,cL,cU⟩:=q
 refine rU Z (wF Z aa) (zo Z Z cL Z zA zC (wBJ bR)) (zz Z Z Z (wF Z aa) (ah.ldC (f:=0) cU (v:=jV dU) Z Z zN Z) Z (rU Z (wF Z aa) (ZE Z Z Z) (oR Z (zO Z (zt aa.out) Z) (eN (ifc dB ?_ ?_)))))
 intro bi dC
 refine zj (zt (fun h=>h bi.out)) (kN (ZM ZI [3,3,1,3,3,3,1,3,1,3,3,1,3,3] fL14 (by kernel_rfl) ?_))
 have aj:=ah.drew
 generalize hw_W142:({ bF with drawn:=bF.drawn + 1 }:World)=dZ at aj ⊢
 refine oM Z cn (oR Z (zS Z bp zx Z ZH) (oL Z (aj.ldB (j:=0) Z Z Z ZL (v:=.slice aY p1.Times.length bb) Z) (oM Z aS (oM Z ap ?_))))
 have q:=bQ.el (fun _=>rfl) (wAQ aU)
 obtain ⟨ey,eJ,cM,cV⟩:=q
 refine oR Z (zo Z Z cM Z zA zC (wBJ aU)) (oL Z (aj.ldC (f:=0) cV (v:=jV x112) Z Z zN Z) (bnK dC fun b8 br dD=>?_))
 have cE:=dp.le am
 have cG:=cE.le az
 have q:=cG.el (wAQ br)
 obtain ⟨cd,dQ,eP,cN,bs,dN⟩:=q
 obtain ⟨bZ,b5,rfl,cH⟩:=dN
 replace bs:Cl aP cd (dQ + x112.toNat * 1) [.slice bZ b8.length b5]:=bs
 refine oR Z (Runs.iaI Z Z cN Z zd zP (wEc br) (wFF br)) (oL Z (aj.ldC (f:=0) bs (v:=.slice bZ b8.length b5) Z Z zR Z) (oM Z ap (bnK dD fun dV bS dE=>?_)))
 have q:=cH.el (fun _=>rfl) (wAQ bS)
 obtain ⟨ez,eK,cO,cW⟩:=q
 refine oR Z (zo Z Z cO Z zA zC (wBJ bS)) (oL Z (aj.ldC (f:=0) cW (v:=jV dV) Z Z zN Z) (oR Z (zm Z Z Z) (oA Z Z (zu (zq (zK (rR fL3 Z (oM Z ap (oR Z (ZJ (zm Z Z Z) (congrArg (jV) dv.out)) (oA Z Z (zu ?_)))))))))))
 have q:=nD dE
 obtain rfl:=q
 exact zK ⟨Z,_,Z,⟨aP,Z,aS,bo,bp,Z,(am.trans az),aj⟩⟩
 intro bi dF
 refine cT Z bi (sR fL1 Z (oA Z Z (eN (zI (zJ (zh (zJ ?_)))))))
 have q:=wAp dF
 obtain ⟨dS,dG,cm⟩:=q
 have q:=wCd hm aV (bX dS cm)
 obtain rfl:=q
 refine zJ (zh (zJ ?_))
 cases dG
 exact ⟨rfl,_,(zk rfl),aP,_,(ah.pick [] _ (by decide) rfl),rfl,rfl⟩
 rintro eS eU d6 ⟨cb,cx,cq,eD,eE,cr,eF,cZ⟩ dq
 have dH:=wDA hm aV dq
 have cg:Hid (¬ ((↑(((↑p2.length:Int):Int) - 0).toNat:Int) < (↑p2.length:Int))):=zM (wBb)
 refine zH (sR fL4 Z (oM Z cx (oM Z cq (oR Z (zU Z Z zA) (oR Z (ze Z Z Z) (eN (cF Z cg (ZO (zn (zn (ZK (zK (sR fL2 Z (oM Z cr (oA Z Z (eN (zI ?_)))))))))))))))))
 have hE:=nD dH;first | subst r | cases hE
 exact ⟨rfl,_,(zk rfl),cb,_,(cZ.pick [] _ (by decide) rfl),rfl,rfl⟩
theorem wEb (p0:wAD) (aj:Option Addr) (am:Nat) (p1:wAC) (ak:Option Addr) (ap:Nat) (aQ:Option Addr) (aR:Nat) (p2:List Int) (aV:Option Addr) (aW:Nat) (w:World) (U:PHeap) (hS:St0 w U []) (bB:Sl U 1 aj am p0.Classes.length (hH KL.encI p0.Classes)) (bC:Sl U 1 ak ap p1.Classes.length (hH KL.encI p1.Classes)) (bD:SlR U wDX aQ aR p1.Times) (bE:Sl U 1 aV aW p2.length (hH KL.encI p2)) {r:Int × Int} (hm:wBj p0 p1 p2=some r):Gv Tryz.prog 43 [.agg #[.slice aj p0.Classes.length am,jV p0.Each,jV p0.Laps,jV p0.Spare,jV p0.Loop,jV p0.Unused],.agg #[.slice ak p1.Classes.length ap,.slice aQ p1.Times.length aR],.slice aV p2.length aW] w (wCQ w [] U (fun U_ L_ v=>v=.tuple #[jV r.1,jV r.2]/\L_=[])):=by
 unfold wBj at hm
 refine Gv.of Tryz.func43 Z Tryz.ntmps43 Tryz.results43 Z (sR gAv Z ?_)
 let B0:List Value:=[.slice aj p0.Classes.length am,jV p0.Each,jV p0.Laps,jV p0.Spare,jV p0.Loop,jV p0.Unused]
 refine zy (cs:=B0) rfl rfl rfl rfl rfl rfl (by rfl) hS ?_
 intro W1 b2 cr
 let B1:List Value:=[.slice ak p1.Classes.length ap,.slice aQ p1.Times.length aR]
 refine zy (cs:=B1) rfl rfl rfl rfl rfl rfl (by rfl) cr ?_
 intro W5 b6 bh
 refine oA Z Z (oA Z Z (eN (zH (sR gAw Z (oL Z (bh.ldBA (j:=1) Z Z Z ZU ZP (vs:=B0) Z Z) (oL Z (bh.ldBA (j:=0) Z Z Z ZT ZN (vs:=B1) Z Z) (bnK hm fun x9 bW cG=>zD 0 Z Z Z Z (zE Z Z Tryz.call41 (zB Z (zB Z zL)) Z) bh (fun hs=>wBG p0 aj am p1 ak ap aQ aR W5 U hs bB bC bD bW) (.inr Z) ?_)))))))
 rintro aq cQ cZ bK aP cq ⟨rfl,rfl⟩
 have aS:sW w U aq [.blk b6 98 B1,.blk b2 31 B0] bK:=cq
 refine oA Z Z (eN (sR fL2 Z (oM Z Z (oR Z (ZE Z Z Z) (eN (ifc cG ?_ ?_))))))
 intro a0 cH
 refine zj (zt (fun h=>h a0.out)) (kN (zH (sR fL6 Z (oM Z Z (oR Z (zU Z Z zA) (oR Z (zS Z Z ZD Z zP) (oL Z (aS.ldB (j:=1) Z Z Z zR (v:=.slice aj p0.Classes.length am) Z) (oR Z (zU Z Z zA) (oR Z (ZE Z Z Z) (eN (ifc cH ?_ ?_)))))))))))
 intro ba bp
 refine zj (zt (fun h=>h ba.out)) (kN (zH (sR fL1 Z (oA Z Z (eN (zZ ?_))))))
 have q:=wCP bp
 obtain ⟨cY,bj⟩:=q
 have q:=wCO bj
 obtain ⟨bo,cz⟩:=q
 replace bo:=zM bo
 refine Zk (fun az _ σ_ w_=>∃ (U_:PHeap),σ_ 9=jV (↑az:Int)/\σ_ 2=.slice aV p2.length aW/\σ_ 3=.pointer (some ⟨b2,0,none⟩)/\σ_ 4=.pointer (some ⟨b6,0,none⟩)/\PHeap.Le aq U_/\sW w U U_ [.blk b6 98 B1,.blk b2 31 B0] w_) cz ?_ ?_ ?_
 exact ⟨aq,Z,Z,Z,Z,(zX _),aS⟩
 rintro az ⟨⟩ dl dm bq bm ⟨bI,bg,be,bS,bs,bH,ct⟩ bG cx
 try dsimp only at bG
 have br:Hid ((↑az:Int) < (↑p2.length:Int)):=zM (wCE bm)
 replace bm:=zM bm
 have cA:Hid (w64 ((↑az:Int) + 1)=(↑(az + 1):Int)):=zM (by have h1:=bo.out;have h2:=br.out;rw [wAa] <;> omega)
 refine zH (sR fL4 rfl (zf rfl rfl rfl rfl rfl bg (zf rfl rfl rfl rfl rfl be (zi rfl rfl rfl rfl (fun _=>zU rfl rfl zA) (zi rfl rfl rfl rfl (fun _=>ze rfl rfl rfl) (eN (cT Z br (kN (zH (zZ (zH (ZM ZI [3,3,3,1,3,1,3,3,2] (wOL (.fx 8 .nil .stop)) (by kernel_rfl) ?_))))))))))))
 have aT:=ct.drew
 generalize hw_W45:({ bq with drawn:=bq.drawn + 1 }:World)=bL at aT ⊢
 refine oM Z be (oM Z bg (bnK bG fun x46 bw cI=>?_))
 have bX:=bE.le aP
 have bY:=bX.le bH
 have q:=bY.el (fun _=>rfl) (wAQ bw)
 obtain ⟨cV,cX,cn,cp⟩:=q
 refine oR Z (zo Z Z cn Z zA zC (wBJ bw)) (oL Z (aT.ldC (f:=0) cp (v:=jV x46) Z Z zN Z) (oR Z (zS Z bs zx Z zP) (oL Z (aT.ldB (j:=0) Z Z Z zR (v:=.slice ak p1.Classes.length ap) Z) (oR Z (zU Z Z zA) (oR Z (Za Z Z Z) (bnK cI fun dg bZ cJ=>zD 0 Z Z Z Z (zE Z Z ZY (zB Z (zB Z (zB Z zL))) Z) aT (fun hs=>wAN x46 0 (w64 ((↑p1.Classes.length:Int) - 1)) bL bI hs bZ) (.inr Z) ?_))))))
 rintro aX cR de bN cO cu ⟨rfl,rfl⟩
 have bA:sW w U aX [.blk b6 98 B1,.blk b2 31 B0] bN:=cu
 refine eN (ifc cJ ?_ ?_)
 intro bb cK
 refine zp (congrArg nA bb.out) (sR fL2 Z (oA Z Z (oA Z Z (eN (zI (zh (zJ ?_)))))))
 have q:=wAp cK
 obtain ⟨cP,cL,bR⟩:=q
 have q:=wCd bp bj (cx cP bR)
 obtain rfl:=q
 refine zJ (zh (zJ ?_))
 cases cL
 exact ⟨rfl,_,(wDk rfl rfl),aX,_,(bA.pick [] _ (by decide) rfl),rfl,rfl⟩
 intro bb cM
 refine zj (congrArg nA (nB.2 bb.out)) (ZQ (zq (zK (rR fL3 Z (oM Z bg (oR Z (ZJ (zm Z Z Z) (congrArg (jV) cA.out)) (oA Z Z (zu ?_))))))))
 have q:=nD cM
 obtain rfl:=q
 exact zK ⟨Z,_,Z,⟨aX,Z,be,bS,bs,(bH.trans cO),bA⟩⟩
 rintro ⟨⟩ dp bO ⟨bJ,bV,bt,bT,bU,aU,bi⟩ cy
 have bF:=wDA bp bj cy
 try dsimp only at bF
 have bQ:Hid (¬ ((↑(((↑p2.length:Int):Int) - 0).toNat:Int) < (↑p2.length:Int))):=zM (wBb)
 refine zH (sR fL4 Z (oM Z bV (oM Z bt (oR Z (zU Z Z zA) (oR Z (ze Z Z Z) (eN (cF Z bQ (ZO (zn (zn (ZK (zK (sR (wDT gAl) Z (oL Z (bi.ldBA (j:=1) Z Z bT ZU ZP (vs:=B0) Z Z) (oL Z (bi.ldBA (j:=0) Z Z bU ZT ZN (vs:=B1) Z Z) (oM Z bt ?_))))))))))))))))
 have b5:=bB.le aP
 have b8:=b5.le aU
 have b9:=bC.le aP
 have cb:=b9.le aU
 have cd:=bD.le aP
 have cf:=cd.le aU
 have cg:=bE.le aP
 have cj:=cg.le aU
 refine bnK bF fun dk cm cN=>zD 0 Z Z Z Z (zE Z Z Tryz.call121 (zB Z (zB Z (zB Z zL))) Z) bi (fun hs=>wDE p0 aj am p1 ak ap aQ aR p2 aV aW bO bJ hs b8 cb cf cj cm) (.inr Z) ?_
 rintro aY cS df bP cW cw ⟨rfl,rfl⟩
 have bz:sW w U aY [.blk b6 98 B1,.blk b2 31 B0] bP:=cw
 refine oA Z Z (eN (zH (sR fL2 Z (oM Z Z (oR Z (ze Z Z Z) (eN (ifc cN ?_ ?_)))))))
 intro aZ cB
 refine cT Z aZ (sR fL2 Z (oA Z Z (oA Z Z (eN (zI (zJ ?_))))))
 cases cB
 exact ⟨rfl,_,(wDk rfl rfl),aY,_,(bz.pick [] _ (by decide) rfl),rfl,rfl⟩
 intro aZ cC
 refine cF Z aZ (kN (sR fL3 Z (oM Z Z (oA Z Z (oA Z Z (eN (zI ?_)))))))
 cases cC
 exact ⟨rfl,_,(wDk rfl rfl),aY,_,(bz.pick [] _ (by decide) rfl),rfl,rfl⟩
 intro ba cD
 refine cT Z ba (sR fL2 Z (oA Z Z (oA Z Z (eN (zI (zJ ?_))))))
 cases cD
 exact ⟨rfl,_,(wDk rfl rfl),aq,_,(aS.pick [] _ (by decide) rfl),rfl,rfl⟩
 intro a0 cE
 refine cT Z a0 (sR fL3 Z (oM Z Z (oA Z Z (oA Z Z (eN (zI (zJ ?_)))))))
 cases cE
 exact ⟨rfl,_,(wDk rfl rfl),aq,_,(aS.pick [] _ (by decide) rfl),rfl,rfl⟩
theorem wDx (p0:Int) (w:World) (U:PHeap) (hS:St0 w U [])  {r:Bool} (hm:wAZ p0=some r):Gv Tryz.prog 122 [jV p0] w (wCQ w [] U (fun U_ L_ v=>v=.bool r/\L_=[])):=by
 unfold wAZ at hm
 refine Gv.of Tryz.func122 Z Tryz.ntmps122 Tryz.results122 Z (sR fL1 Z (oA Z Z (eN (sR gAq Z (oM Z Z (bnK hm fun x1 h2 ak=>zD 0 Z Z Z Z (zE Z Z Zq (zB Z (zB Z (zB Z zL))) Z) hS (fun hs=>wCa p0 (-1000000) 1000000 w U hs h2) (.inr Z) ?_))))))
 rintro U4 L5 v6 W7 ap aj ⟨rfl,rfl⟩
 have ai:sW w U U4 [] W7:=aj
 refine oA Z Z (eN (zI ?_))
 have hE:=nD ak;first | subst r | cases hE
 exact ⟨Z,_,(zk Z),U4,_,ai,Z,Z⟩
theorem wGC (p0:Int) (w:World) (U:PHeap) (hS:St0 w U [])  {r:Bool} (hm:wBs p0=some r):Gv Tryz.prog 123 [jV p0] w (wCQ w [] U (fun U_ L_ v=>v=.bool r/\L_=[])):=by
 unfold wBs at hm
 refine Gv.of Tryz.func123 Z Tryz.ntmps123 Tryz.results123 Z (sR fL1 Z (oA Z Z (eN (sR fL3 Z (oM Z Z (oR Z (Runs.geq Z Z Z) (oA Z Z (eN (zI ?_)))))))))
 first | (obtain rfl:=nD hm) | cases hm
 exact ⟨Z,_,(zk Z),U,_,hS,Z,Z⟩
theorem wHZ (p0:wAA) (aV:Option Addr) (aY:Nat) (p1:wAB) (aW:Option Addr) (aZ:Nat) (aX:Option Addr) (a0:Nat) (p2:List Int) (aS:Option Addr) (aT:Nat) (p3:List Int) (av:Option Addr) (az:Nat) (w:World) (U:PHeap) (hS:St0 w U []) (cS:Sl U 1 aV aY p0.Classes.length (hH KL.encI p0.Classes)) (cU:Sl U 1 aW aZ p1.Classes.length (hH KL.encI p1.Classes)) (cV:SlR U wDX aX a0 p1.Times) (fP:Sl U 1 aS aT p2.length (hH KL.encI p2)) (fQ:Sl U 1 av az p3.length (hH KL.encI p3)) {r:Int × Int} (hm:wCS p0 p1 p2 p3=some r):Gv Tryz.prog 44 [.agg #[.slice aV p0.Classes.length aY,jV p0.Each,jV p0.Laps,jV p0.Spare,jV p0.Loop,jV p0.Unused],.agg #[.slice aW p1.Classes.length aZ,.slice aX p1.Times.length a0],.slice aS p2.length aT,.slice av p3.length az] w (wCQ w [] U (fun U_ L_ v=>v=.tuple #[jV r.1,jV r.2]/\L_=[])):=by
 unfold wCS at hm
 refine Gv.of Tryz.func44 Z Tryz.ntmps44 Tryz.results44 Z (sR gAv Z ?_)
 let B0:List Value:=[.slice aV p0.Classes.length aY,jV p0.Each,jV p0.Laps,jV p0.Spare,jV p0.Loop,jV p0.Unused]
 refine zy (cs:=B0) rfl rfl rfl rfl rfl rfl (by rfl) hS ?_
 intro W1 b2 fH
 let B1:List Value:=[.slice aW p1.Classes.length aZ,.slice aX p1.Times.length a0]
 refine zy (cs:=B1) rfl rfl rfl rfl rfl rfl (by rfl) fH ?_
 intro W5 b6 bU
 refine oA Z Z (oA Z Z (eN (sR gAw Z (oL Z (bU.ldBA (j:=1) Z Z Z ZC zr (vs:=B0) Z Z) (oL Z (bU.ldBA (j:=0) Z Z Z ZF zw (vs:=B1) Z Z) (bnK hm fun x9 dW fZ=>zD 0 Z Z Z Z (zE Z Z Tryz.call40 (zB Z (zB Z zL)) Z) bU (fun hs=>wBx p0 aV aY p1 aW aZ aX a0 W5 U hs cS cU cV dW) (.inr Z) ?_))))))
 rintro ba gS iy cm bt fy ⟨rfl,rfl⟩
 have bb:sW w U ba [.blk b6 93 B1,.blk b2 24 B0] cm:=fy
 refine oA Z Z (eN (sR fL1 Z (oA Z Z (eN (zH (zZ (sR fL3 Z (oM Z Z (oR Z (ZE Z Z Z) (oA Z Z (eN (ifc fZ ?_ ?_))))))))))))
 intro bF gg
 refine zj (zt (fun h=>h bF.out)) (sR fL15 Z (oM Z Z (oR Z (zU Z Z zA) (oR Z (zS Z Z zW Z zP) (oL Z (bb.ldB (j:=1) Z Z Z zR (v:=.slice aV p0.Classes.length aY) Z) (oR Z (zU Z Z zA) (oR Z (ZE Z Z Z) (oM Z Z (ifc gg ?_ ?_)))))))))
 intro ah gt
 refine zf Z Z Z (zG Z Z (zt (fun h=>h ah.out))) Z Z (zi Z Z Z (zG Z Z (zt (fun h=>h ah.out))) (fun _=>zU Z Z zA) (zi Z Z Z (zG Z Z (zt (fun h=>h ah.out))) (fun _=>zS Z Z zg Z zP) (zz Z Z Z (zG Z Z (zt (fun h=>h ah.out))) (bb.ldB (j:=0) Z Z Z zR (v:=.slice aW p1.Classes.length aZ) Z) Z (zi Z Z Z (zG Z Z (zt (fun h=>h ah.out))) (fun _=>zU Z Z zA) (zi Z Z Z (zG Z Z (zt (fun h=>h ah.out))) (fun _=>ZE Z Z Z) (oR Z (zO Z (zt (fun h=>h ah.out)) Z) (oA Z Z (eN (ifc gt ?_ ?_)))))))))
 intro bH gw
 refine zj (zt (fun h=>h bH.out)) (sR (.fl 0 (.fl 1 (.fx 2 (wSY (.fx 7 (wOP (.nil)) .stop)) .stop))) Z (oM Z Z (oM Z Z ?_)))
 have bP:=fP.le bt
 have ft:FnOK Tryz.prog ba (.func (.func 122) #[] #[]) wHF wHG wAZ:=⟨122,[],[],rfl,Tryz.call122,fun U1 w1 x y vs le hs ha hm=>by obtain rfl:=ha;exact wDx x w1 U1 hs  hm⟩
 refine bnK gw fun iG e9 gG=>zD 0 Z Z Z Z (zE Z Z Tryz.call114 (zB Z (zB Z zL)) Z) bb (fun hs=>wBt p2 aS aT wAZ (.func (.func 122) #[] #[]) cm ba hs bP ft e9) (.inr Z) ?_
 rintro bz gX iC cq bi fJ ⟨rfl,rfl⟩
 have cP:sW w U bz [.blk b6 93 B1,.blk b2 24 B0] cq:=fJ
 refine oR Z (ZR Z Z) (oM Z Z (ifc gG ?_ ?_))
 intro au gH
 refine zf Z Z Z (zG Z Z (nC au.out)) Z Z (zf Z Z Z (zG Z Z (nC au.out)) Z Z ?_)
 have fb:=fQ.le bt
 have cO:=fb.le bi
 have fu:FnOK Tryz.prog bz (.func (.func 122) #[] #[]) wHF wHG wAZ:=⟨122,[],[],rfl,Tryz.call122,fun U1 w1 x y vs le hs ha hm=>by obtain rfl:=ha;exact wDx x w1 U1 hs  hm⟩
 refine bnK gH fun iH fc gI=>zD 0 Z Z Z (zG Z Z (nC au.out)) (zE Z Z Tryz.call114 (zB Z (zB Z zL)) Z) cP (fun hs=>wBt p3 av az wAZ (.func (.func 122) #[] #[]) cq bz hs cO fu fc) (.inr Z) ?_
 rintro bA gZ iD cr bj fK ⟨rfl,rfl⟩
 have cQ:sW w U bA [.blk b6 93 B1,.blk b2 24 B0] cr:=fK
 refine zi Z Z Z (zG Z Z (nC au.out)) (fun _=>ZR Z Z) (oR Z (zO Z (nC au.out) Z) (oA Z Z (eN (ifc gI ?_ ?_))))
 intro bI gJ
 refine zj (nC bI.out) (sR (.fl 0 gAr) Z (oM Z Z ?_))
 have bQ:=cO.le bj
 have fw:FnOK Tryz.prog bA (.func (.func 123) #[] #[]) wHF wHG wBs:=⟨123,[],[],rfl,Tryz.call123,fun U1 w1 x y vs le hs ha hm=>by obtain rfl:=ha;exact wGC x w1 U1 hs  hm⟩
 refine bnK gJ fun iI fd gK=>zD 0 Z Z Z Z (zE Z Z Tryz.call114 (zB Z (zB Z zL)) Z) cQ (fun hs=>wBt p3 av az wBs (.func (.func 123) #[] #[]) cr bA hs bQ fw fd) (.inr Z) ?_
 rintro bq g7 iE dv aU fL ⟨rfl,rfl⟩
 have bD:sW w U bq [.blk b6 93 B1,.blk b2 24 B0] dv:=fL
 refine oR Z (ZR Z Z) (oA Z Z (eN (ifc gK ?_ ?_)))
 intro bJ b9
 refine zj (nC bJ.out) (ZQ (zq (zK (zH (CK.fresh fun bE bs=>?_)))))
 have dR:bE 2=.slice aS p2.length aT:=(bs 2).trans rfl
 have cE:bE 3=.slice av p3.length az:=(bs 3).trans rfl
 have cG:bE 4=.pointer (some ⟨b2,0,none⟩):=(bs 4).trans rfl
 have cH:bE 5=.pointer (some ⟨b6,0,none⟩):=(bs 5).trans rfl
 clear bs
 refine rR (wDT gAm) Z (oL Z (bD.ldBA (j:=0) Z Z cH ZF zw (vs:=B1) Z Z) (oL Z (bD.ldBA (j:=1) Z Z cG ZC zr (vs:=B0) Z Z) ?_))
 let B2:List Value:=[.slice aW p1.Classes.length aZ,.slice aX p1.Times.length a0,.slice aV p0.Classes.length aY,jV p0.Each,jV p0.Laps,jV p0.Spare,jV p0.Loop,jV p0.Unused]
 let B3:List Value:=[.slice none 0 0,.slice none 0 0,.slice none 0 0,jV 0,jV 0,jV 0,jV 0,jV 0]
 refine oR Z (Zm (pv:=[(0,.agg B1.toArray),(1,.agg B0.toArray)]) (z:=B3) (cs:=B2) Z (wAR Z (wAR Z wBz)) Zd wEM Z Z) (ZG (cs:=B3) Z Z Z Z Z Zd Z bD ?_)
 intro ib aR fM
 refine ZW (j:=0) (vs:=B2) Z Z Z Z fM Z Z Z Z Zc (zY Z) Z Z Z ?_
 intro dw fN
 have fO:sW w U bq [.blk aR 249 B2,.blk b6 93 B1,.blk b2 24 B0] dw:=fN
 refine eN (zH (sR fL3 Z (oM Z cE (oR Z (zU Z Z zA) (oM Z Z (eN (zZ ?_)))))))
 have q:=wCP b9
 obtain ⟨iw,bW⟩:=q
 have q:=wCO bW
 obtain ⟨b5,fW⟩:=q
 replace b5:=zM b5
 refine Zk (fun aQ _ σ_ w_=>∃ (U_:PHeap),σ_ 59=jV (↑aQ:Int)/\σ_ 2=.slice aS p2.length aT/\σ_ 3=.slice av p3.length az/\σ_ 4=.pointer (some ⟨b2,0,none⟩)/\σ_ 5=.pointer (some ⟨b6,0,none⟩)/\σ_ 12=.pointer (some ⟨aR,0,none⟩)/\σ_ 57=.slice av p3.length az/\σ_ 58=jV (↑p3.length:Int)/\PHeap.Le bq U_/\sW w U U_ [.blk aR 249 B2,.blk b6 93 B1,.blk b2 24 B0] w_) fW ?_ ?_ ?_
 exact ⟨bq,Z,dR,cE,cG,cH,Z,Z,Z,(zX _),fO⟩
 rintro aQ ⟨⟩ iL iP ic bY ⟨cj,bC,cI,dS,dT,dC,dD,cw,cx,bm,cR⟩ de fU
 try dsimp only at de
 have ct:Hid ((↑aQ:Int) < (↑p3.length:Int)):=zM (wCE bY)
 replace bY:=zM bY
 have fY:Hid (w64 ((↑aQ:Int) + 1)=(↑(aQ + 1):Int)):=zM (by have h1:=b5.out;have h2:=ct.out;rw [wAa] <;> omega)
 refine sR fL1 Z (oR Z (ze Z bC cx) (eN (zH (cT Z ct (kN (zH (zZ (sR fL5 Z (oM Z bC (bnK de fun x106 cJ b8=>?_))))))))))
 have dX:=bQ.le aU
 have dY:=dX.le bm
 have q:=dY.el (fun _=>rfl) (wAQ cJ)
 obtain ⟨ie,ir,fe,fj⟩:=q
 refine oR Z (zo Z cw fe bC zA zC (wBJ cJ)) (oL Z (cR.ldC (f:=0) fj (v:=jV x106) Z Z zN Z) (oA Z Z (oA Z Z (eN (sR fL3 Z (oM Z cI (oR Z (zU Z Z zA) (oM Z Z (eN (zZ ?_))))))))))
 have q:=wCP b8
 obtain ⟨iv,bV⟩:=q
 have q:=wCO bV
 obtain ⟨bZ,fV⟩:=q
 replace bZ:=zM bZ
 refine Zk (fun bg _ σ_ w_=>∃ (U_:PHeap),σ_ 66=jV (↑bg:Int)/\σ_ 2=.slice aS p2.length aT/\σ_ 3=.slice av p3.length az/\σ_ 4=.pointer (some ⟨b2,0,none⟩)/\σ_ 5=.pointer (some ⟨b6,0,none⟩)/\σ_ 12=.pointer (some ⟨aR,0,none⟩)/\σ_ 13=jV (↑aQ:Int)/\σ_ 14=jV x106/\σ_ 57=.slice av p3.length az/\σ_ 58=jV (↑p3.length:Int)/\σ_ 59=jV (↑aQ:Int)/\σ_ 64=.slice aS p2.length aT/\σ_ 65=jV (↑p2.length:Int)/\PHeap.Le cj U_/\sW w U U_ [.blk aR 249 B2,.blk b6 93 B1,.blk b2 24 B0] w_) fV ?_ ?_ ?_
 exact ⟨cj,Z,cI,dS,dT,dC,dD,Z,Z,cw,cx,bC,Z,Z,(zX _),cR⟩
 rintro bg ⟨⟩ iK iM dp bX ⟨dk,br,cy,cz,cA,bK,bL,bB,bM,cB,cC,cD,bN,bO,bh,bS⟩ cZ fR
 try dsimp only at cZ
 have cu:Hid ((↑bg:Int) < (↑p2.length:Int)):=zM (wCE bX)
 replace bX:=zM bX
 have cW:Hid (w64 ((↑bg:Int) + 1)=(↑(bg + 1):Int)):=zM (by have h1:=bZ.out;have h2:=cu.out;rw [wAa] <;> omega)
 refine sR fL1 Z (oR Z (ze Z br bO) (eN (zH (cT Z cu (kN (zH (zZ (sR fL5 Z (oM Z br (bnK cZ fun gR cK gb=>?_))))))))))
 have dZ:=bP.le bi
 have d6:=dZ.le bj
 have d7:=d6.le aU
 have d8:=d7.le bm
 have d9:=d8.le bh
 have q:=d9.el (fun _=>rfl) (wAQ cK)
 obtain ⟨ig,it,ff,fm⟩:=q
 refine oR Z (zo Z bN ff br zA zC (wBJ cK)) (oL Z (bS.ldC (f:=0) fm (v:=jV gR) Z Z zN Z) (oA Z Z (oA Z Z (eN (sR (wDT (.fx 3 (wPj (.nil)) .stop)) Z (oL Z (bS.ldBA (j:=0) Z Z bL Zs Zc (vs:=B2) Z Z) (oM Z bB (oM Z Z ?_))))))))
 have ed:=cU.le bt
 have ef:=ed.le bi
 have eh:=ef.le bj
 have ey:=eh.le aU
 have ez:=ey.le bm
 have eA:=ez.le bh
 have eC:=cV.le bt
 have eD:=eC.le bi
 have eE:=eD.le bj
 have eF:=eE.le aU
 have eG:=eF.le bm
 have cL:=eG.le bh
 have eH:=cS.le bt
 have eI:=eH.le bi
 have eJ:=eI.le bj
 have eK:=eJ.le aU
 have eL:=eK.le bm
 have eM:=eL.le bh
 refine bnK gb fun x175 eO gc=>zD 0 Z Z Z Z (zE Z Z Tryz.call124 (zB Z (zB Z (zB Z zL))) Z) bS (fun hs=>wCM (⟨p1,p0⟩:wAI) aW aZ aX a0 aV aY (↑aQ:Int) (↑bg:Int) dp dk hs eA cL eM eO) (.inr Z) ?_
 rintro bp gT iz dq cb fz ⟨rfl,rfl⟩
 have be:sW w U bp [.blk aR 249 B2,.blk b6 93 B1,.blk b2 24 B0] dq:=fz
 refine oM Z Z (ifc gc ?_ ?_)
 intro aa ge
 refine zf Z Z Z (zG Z Z (congrArg nA aa.out)) Z Z (zf Z Z Z (zG Z Z (congrArg nA aa.out)) Z bM (zi Z Z Z (zG Z Z (congrArg nA aa.out)) (fun _=>Za Z Z Z) (zi Z Z Z (zG Z Z (congrArg nA aa.out)) (fun _=>zS Z bK zg Z ZH) (zz Z Z Z (zG Z Z (congrArg nA aa.out)) (be.ldB (j:=1) Z Z Z ZL (v:=.slice aX p1.Times.length a0) Z) Z (zf Z Z Z (zG Z Z (congrArg nA aa.out)) Z bB (bnK ge fun x187 cM gf=>?_))))))
 have eP:=cL.le cb
 have q:=eP.el (wAQ cM)
 obtain ⟨dx,gO,iF,fg,bR,gL⟩:=q
 obtain ⟨dg,dh,rfl,eQ⟩:=gL
 replace bR:Cl bp dx (gO + aQ * 1) [.slice dg x187.length dh]:=bR
 refine zi Z Z Z (zG Z Z (congrArg nA aa.out)) (fun _=>zo Z Z fg Z zd zP (wBJ cM)) (zz Z Z Z (zG Z Z (congrArg nA aa.out)) (be.ldC (f:=0) bR (v:=.slice dg x187.length dh) Z Z zR Z) Z (zf Z Z Z (zG Z Z (congrArg nA aa.out)) Z Z (bnK gf fun x200 cN gh=>?_)))
 have q:=eQ.el (fun _=>rfl) (wAQ cN)
 obtain ⟨ii,iu,fh,fq⟩:=q
 refine zi Z Z Z (zG Z Z (congrArg nA aa.out)) (fun _=>zo Z Z fh Z zA zC (wBJ cN)) (zz Z Z Z (zG Z Z (congrArg nA aa.out)) (be.ldC (f:=0) fq (v:=jV x200) Z Z zN Z) Z (zi Z Z Z (zG Z Z (congrArg nA aa.out)) (fun _=>Zh Z Z Z) (oR Z (zQ Z (congrArg nA aa.out) Z) (eN (ifc gh ?_ ?_)))))
 intro bG gi
 refine cT Z bG (sR fL2 Z (oA Z Z (oA Z Z (eN (zI (zh (zJ ?_)))))))
 have q:=wAp gi
 obtain ⟨gP,gj,dA⟩:=q
 have q:=wCd b8 bV (fR gP dA)
 obtain rfl:=q
 refine zJ (zh (zh (zJ ?_)))
 have q:=wAp gj
 obtain ⟨gQ,gm,dB⟩:=q
 have q:=wCd b9 bW (fU gQ dB)
 obtain rfl:=q
 refine zJ (zh (zJ ?_))
 cases gm
 exact ⟨rfl,_,(wDk rfl rfl),bp,_,(be.pick [] _ (by decide) rfl),rfl,rfl⟩
 intro bG gp
 refine cF Z bG (ZQ (zq (zK (rR fL2 Z (oR Z (ZJ (zm Z br Z) (congrArg (jV) cW.out)) (oM Z Z (zu ?_)))))))
 have q:=nD gp
 obtain rfl:=q
 exact zK ⟨Z,_,Z,⟨bp,Z,cy,cz,cA,bK,bL,bB,bM,cB,cC,cD,bN,bO,(bh.trans cb),be⟩⟩
 intro aa gq
 refine zV Z Z Z (zF Z Z (congrArg nA (nB.2 aa.out)) Z) (zV Z Z Z (zF Z Z (congrArg nA (nB.2 aa.out)) Z) (zV Z Z Z (zF Z Z (congrArg nA (nB.2 aa.out)) Z) (zV Z Z Z (zF Z Z (congrArg nA (nB.2 aa.out)) Z) (zV Z Z Z (zF Z Z (congrArg nA (nB.2 aa.out)) Z) (zV Z Z Z (zF Z Z (congrArg nA (nB.2 aa.out)) Z) (zV Z Z Z (zF Z Z (congrArg nA (nB.2 aa.out)) Z) (zV Z Z Z (zF Z Z (congrArg nA (nB.2 aa.out)) Z) (zV Z Z Z (zF Z Z (congrArg nA (nB.2 aa.out)) Z) (zV Z Z Z (zF Z Z (congrArg nA (nB.2 aa.out)) Z) (zV Z Z Z (zF Z Z (congrArg nA (nB.2 aa.out)) Z) (zV Z Z Z (zF Z Z (congrArg nA (nB.2 aa.out)) Z) (oR Z (zO Z (congrArg nA (nB.2 aa.out)) Z) (eN (zj Z (ZQ (zq (zK (rR fL2 Z (oR Z (ZJ (zm Z br Z) (congrArg (jV) cW.out)) (oM Z Z (zu ?_)))))))))))))))))))))
 have q:=nD gq
 obtain rfl:=q
 exact zK ⟨Z,_,Z,⟨bp,Z,cy,cz,cA,bK,bL,bB,bM,cB,cC,cD,bN,bO,(bh.trans cb),be⟩⟩
 rintro ⟨⟩ iN g9 ⟨dl,dU,dE,dF,dG,dH,dI,ij,ik,dJ,dK,dL,il,dM,gM,fA⟩ fS
 have cX:=wDA b8 bV fS
 try dsimp only at cX
 have dy:Hid (¬ ((↑(((↑p2.length:Int):Int) - 0).toNat:Int) < (↑p2.length:Int))):=zM (wBb)
 refine sR fL1 Z (oR Z (ze Z dU dM) (eN (zH (cF Z dy (ZO (zn (zn (ZK (zq (zK (rR fL2 Z (oR Z (ZJ (zm Z dL Z) (congrArg (jV) fY.out)) (oM Z Z (zu ?_))))))))))))))
 have q:=nD cX
 obtain rfl:=q
 exact zK ⟨Z,_,Z,⟨dl,Z,dE,dF,dG,dH,dI,dJ,dK,(bm.trans gM),fA⟩⟩
 rintro ⟨⟩ iO cn ⟨dm,dV,dN,dO,dP,im,io,ip,dQ,df,fB⟩ fT
 have cY:=wDA b9 bW fT
 try dsimp only at cY
 have dz:Hid (¬ ((↑(((↑p3.length:Int):Int) - 0).toNat:Int) < (↑p3.length:Int))):=zM (wBb)
 refine sR fL1 rfl (zi rfl rfl rfl rfl (fun _=>ze rfl dV dQ) (eN (zH (cF Z dz (ZO (zn (zn (ZK (zK (zH (ZM ZI [3,2,3,1,3,2,3,3,3,3] (.fl 0 (wPC (.fx 1 (.fx 5 (fC6_9 (.nil)) .stop) .stop))) (by kernel_rfl) ?_)))))))))))
 have bT:=fB.drew
 generalize hw_W255:({ cn with drawn:=cn.drawn + 1 }:World)=dr at bT ⊢
 refine oM Z dN (oR Z (zS Z dP zW Z zC) (oL Z (bT.ldB (j:=2) Z Z Z zN (v:=jV p0.Each) Z) (oM Z dO ?_)))
 have eR:=bP.le bi
 have eS:=eR.le bj
 have eT:=eS.le aU
 have eU:=eT.le df
 refine bnK cY fun x260 eV gx=>zD 0 Z Z Z Z (zE Z Z Tryz.call125 (zB Z zL) Z) bT (fun hs=>wEt p2 aS aT dr dm hs eU eV) (.inr Z) ?_
 rintro cf gU iA cp gN fC ⟨rfl,rfl⟩
 have fD:sW w U cf [.blk aR 249 B2,.blk b6 93 B1,.blk b2 24 B0] cp:=fC
 have eW:=bQ.le aU
 have eX:=eW.le df
 have eY:=eX.le gN
 refine bnK gx fun x273 eZ gy=>zD 0 Z Z Z Z (zE Z Z Tryz.call125 (zB Z zL) Z) fD (fun hs=>wEt p3 av az cp cf hs eY eZ) (.inr Z) ?_
 rintro cg gW iB dt iq fE ⟨rfl,rfl⟩
 have fG:sW w U cg [.blk aR 249 B2,.blk b6 93 B1,.blk b2 24 B0] dt:=fE
 refine oR Z (Runs.mulw Z Z Z) (oR Z (Za Z Z Z) (oA Z Z (oA Z Z (eN (zI ?_)))))
 cases gy
 exact ⟨rfl,_,(wDk rfl rfl),cg,_,(fG.pick [] _ (by decide) rfl),rfl,rfl⟩
 intro bJ gA
 refine zp (nF (bJ.out)) (sR fL2 Z (oA Z Z (oA Z Z (eN (zI (zh (zJ ?_)))))))
 cases gA
 exact ⟨rfl,_,(wDk rfl rfl),bq,_,(bD.pick [] _ (by decide) rfl),rfl,rfl⟩
 intro bI gB
 refine zp (nF (bI.out)) (sR fL2 Z (oA Z Z (oA Z Z (eN (zI (zh (zJ ?_)))))))
 cases gB
 exact ⟨rfl,_,(wDk rfl rfl),bA,_,(cQ.pick [] _ (by decide) rfl),rfl,rfl⟩
 intro au gC
 refine zV Z Z Z (zF Z Z (nF (au.out)) Z) (zV Z Z Z (zF Z Z (nF (au.out)) Z) (ZA Z Z Z (zF Z Z (nF (au.out)) Z) (zV Z Z Z (zF Z Z (nF (au.out)) Z) (oR Z (zQ Z (nF (au.out)) Z) (oA Z Z (eN (zp Z (sR fL2 Z (oA Z Z (oA Z Z (eN (zI (zh (zJ ?_))))))))))))))
 cases gC
 exact ⟨rfl,_,(wDk rfl rfl),bz,_,(cP.pick [] _ (by decide) rfl),rfl,rfl⟩
 intro bH gD
 refine cT Z bH (sR fL2 Z (oA Z Z (oA Z Z (eN (zI (zh (zJ ?_)))))))
 cases gD
 exact ⟨rfl,_,(wDk rfl rfl),ba,_,(bb.pick [] _ (by decide) rfl),rfl,rfl⟩
 intro ah gE
 refine oT Z ah (oT Z ah (oT Z ah (oT Z ah (oT Z ah (oT Z ah (oR Z (zQ Z (Zi ah.out) Z) (oA Z Z (eN (zp Z (sR fL2 Z (oA Z Z (oA Z Z (eN (zI (zh (zJ ?_))))))))))))))))
 cases gE
 exact ⟨rfl,_,(wDk rfl rfl),ba,_,(bb.pick [] _ (by decide) rfl),rfl,rfl⟩
 intro bF gF
 refine cT Z bF (sR fL3 Z (oM Z Z (oA Z Z (oA Z Z (eN (zI (zh (zJ ?_))))))))
 cases gF
 exact ⟨rfl,_,(wDk rfl rfl),ba,_,(bb.pick [] _ (by decide) rfl),rfl,rfl⟩
end Go.Proofs.YtabadkdjndnliaaGreat
namespace Go.Proofs.YtabadkdjndnliaaGreat
open Go.KL
set_option maxHeartbeats 4000000
theorem wCx (p0:wAD) (aV:Option Addr) (aZ:Nat) (p1:wAC) (aW:Option Addr) (a0:Nat) (bm:Option Addr) (bo:Nat) (p2:List Int) (aX:Option Addr) (ba:Nat) (p3:List Int) (aY:Option Addr) (bb:Nat) (w:World) (U:PHeap) (hS:St0 w U []) (cU:Sl U 1 aV aZ p0.Classes.length (hH KL.encI p0.Classes)) (cV:Sl U 1 aW a0 p1.Classes.length (hH KL.encI p1.Classes)) (cW:SlR U wDX bm bo p1.Times) (cX:Sl U 1 aX ba p2.length (hH KL.encI p2)) (cY:Sl U 1 aY bb p3.length (hH KL.encI p3)) {r:Int × Int} (hm:wBL p0 p1 p2 p3=some r):Gv Tryz.prog 45 [.agg #[.slice aV p0.Classes.length aZ,jV p0.Each,jV p0.Laps,jV p0.Spare,jV p0.Loop,jV p0.Unused],.agg #[.slice aW p1.Classes.length a0,.slice bm p1.Times.length bo],.slice aX p2.length ba,.slice aY p3.length bb] w (wCQ w [] U (fun U_ L_ v=>v=.tuple #[jV r.1,jV r.2]/\L_=[])):=by
 unfold wBL at hm
 refine Gv.of Tryz.func45 Z Tryz.ntmps45 Tryz.results45 Z (sR gAv Z ?_)
 let B0:List Value:=[.slice aV p0.Classes.length aZ,jV p0.Each,jV p0.Laps,jV p0.Spare,jV p0.Loop,jV p0.Unused]
 refine zy (cs:=B0) rfl rfl rfl rfl rfl rfl (by rfl) hS ?_
 intro W1 b2 gi
 let B1:List Value:=[.slice aW p1.Classes.length a0,.slice bm p1.Times.length bo]
 refine zy (cs:=B1) rfl rfl rfl rfl rfl rfl (by rfl) gi ?_
 intro W5 b6 bW
 refine oA Z Z (oA Z Z (eN (zH (sR gAw Z (oL Z (bW.ldBA (j:=1) Z Z Z ZU ZP (vs:=B0) Z Z) (oL Z (bW.ldBA (j:=0) Z Z Z ZT ZN (vs:=B1) Z Z) (bnK hm fun x9 eM gK=>zD 0 Z Z Z Z (zE Z Z Tryz.call41 (zB Z (zB Z zL)) Z) bW (fun hs=>wBG p0 aV aZ p1 aW a0 bm bo W5 U hs cU cV cW eM) (.inr Z) ?_)))))))
 rintro aQ iG jo dC az gg ⟨rfl,rfl⟩
 have aS:sW w U aQ [.blk b6 98 B1,.blk b2 31 B0] dC:=gg
 refine oA Z Z (eN (sR fL2 Z (oM Z Z (oR Z (ZE Z Z Z) (eN (ifc gK ?_ ?_))))))
 intro bL gQ
 refine zj (zt (fun h=>h bL.out)) (kN (zH (sR fL14 Z (oM Z Z (oR Z (zU Z Z zA) (oR Z (zS Z Z ZD Z zP) (oL Z (aS.ldB (j:=1) Z Z Z zR (v:=.slice aV p0.Classes.length aZ) Z) (oR Z (zU Z Z zA) (oR Z (ZE Z Z Z) (oM Z Z (ifc gQ ?_ ?_)))))))))))
 intro ae gU
 refine zf Z Z Z (zG Z Z (zt (fun h=>h ae.out))) Z Z (zi Z Z Z (zG Z Z (zt (fun h=>h ae.out))) (fun _=>zU Z Z zA) (zi Z Z Z (zG Z Z (zt (fun h=>h ae.out))) (fun _=>zS Z Z zx Z zP) (zz Z Z Z (zG Z Z (zt (fun h=>h ae.out))) (aS.ldB (j:=0) Z Z Z zR (v:=.slice aW p1.Classes.length a0) Z) Z (zi Z Z Z (zG Z Z (zt (fun h=>h ae.out))) (fun _=>zU Z Z zA) (zi Z Z Z (zG Z Z (zt (fun h=>h ae.out))) (fun _=>ZE Z Z Z) (oR Z (zO Z (zt (fun h=>h ae.out)) Z) (eN (ifc gU ?_ ?_))))))))
 intro bN cp
 refine zj (zt (fun h=>h bN.out)) (kN (sR fL1 Z (oA Z Z (eN (zH (sR fL1 Z (oA Z Z (eN (zZ ?_)))))))))
 have q:=wCP cp
 obtain ⟨jm,b5⟩:=q
 have q:=wCO b5
 obtain ⟨cm,gG⟩:=q
 replace cm:=zM cm
 refine Zk (fun bi dv σ_ w_=>∃ (U_:PHeap),σ_ 12=jV (↑bi:Int)/\σ_ 2=.slice aX p2.length ba/\σ_ 3=.slice aY p3.length bb/\σ_ 4=.pointer (some ⟨b2,0,none⟩)/\σ_ 5=.pointer (some ⟨b6,0,none⟩)/\σ_ 11=jV dv/\PHeap.Le aQ U_/\sW w U U_ [.blk b6 98 B1,.blk b2 31 B0] w_) gG ?_ ?_ ?_
 exact ⟨aQ,Z,Z,Z,Z,Z,Z,(zX _),aS⟩
 rintro bi dv jz jJ dD cd ⟨dA,bz,bt,ez,eA,eC,eD,dp,cS⟩ iv gB
 have cB:Hid ((↑bi:Int) < (↑p2.length:Int)):=zM (wCE cd)
 replace cd:=zM cd
 have gJ:Hid (w64 ((↑bi:Int) + 1)=(↑(bi + 1):Int)):=zM (by have h1:=cm.out;have h2:=cB.out;rw [wAa] <;> omega)
 refine zH (sR fL4 Z (oM Z bz (oM Z bt (oR Z (zU Z Z zA) (oR Z (ze Z Z Z) (eN (cT Z cB (kN (zH (zZ (zH (sR (wHf (.fx 4 .nil .stop)) Z (oM Z bt (oM Z bz (bnK iv fun ct bC im=>?_)))))))))))))))
 have fB:=cX.le az
 have cP:=fB.le dp
 have q:=cP.el (fun _=>rfl) (wAQ bC)
 obtain ⟨i0,jh,fP,gb⟩:=q
 refine oR Z (zo Z Z fP Z zA zC (wBJ bC)) (oL Z (cS.ldC (f:=0) gb (v:=jV ct) Z Z zN Z) (bnK im fun ju fC io=>zD 0 Z Z Z Z (zE Z Z ZY (zB Z (zB Z (zB Z zL))) Z) cS (fun hs=>wAN ct (-1000000) 1000000 dD dA hs fC) (.inr Z) ?_))
 rintro bI iI jq dF dq gp ⟨rfl,rfl⟩
 have bX:sW w U bI [.blk b6 98 B1,.blk b2 31 B0] dF:=gp
 refine eN (ifc io ?_ ?_)
 intro bP ip
 refine zp (congrArg nA bP.out) (sR fL2 Z (oA Z Z (oA Z Z (eN (zI (zJ (zh (zJ ?_))))))))
 have q:=wAp ip
 obtain ⟨iD,iq,dP⟩:=q
 have q:=wCd cp b5 (gB iD dP)
 obtain rfl:=q
 refine zJ (zh (zJ ?_))
 cases iq
 exact ⟨rfl,_,(wDk rfl rfl),bI,_,(bX.pick [] _ (by decide) rfl),rfl,rfl⟩
 intro bP ir
 refine zj (congrArg nA (nB.2 bP.out)) (kN (rR fL7 Z (oM Z eD (oM Z bt (oM Z bz ?_)))))
 have fD:=cP.le dq
 have q:=fD.el (fun _=>rfl) (wAQ bC)
 obtain ⟨i4,ji,fQ,gc⟩:=q
 refine oR Z (zo Z Z fQ Z zA zC (wBJ bC)) (oL Z (bX.ldC (f:=0) gc (v:=jV ct) Z Z zN Z) (oR Z (zm Z Z Z) (oA Z Z (zu (zq (zK (rR fL3 Z (oM Z bz (oR Z (ZJ (zm Z Z Z) (congrArg (jV) gJ.out)) (oA Z Z (zu ?_)))))))))))
 have q:=nD ir
 obtain rfl:=q
 exact zK ⟨Z,_,Z,⟨bI,Z,bt,ez,eA,eC,Z,(dp.trans dq),bX⟩⟩
 rintro jA jK iQ ⟨cw,eL,cH,eE,eF,eG,eH,aU,gq⟩ gC
 have cq:=wDA cp b5 gC
 have dK:Hid (¬ ((↑(((↑p2.length:Int):Int) - 0).toNat:Int) < (↑p2.length:Int))):=zM (wBb)
 refine zH (sR fL4 Z (oM Z eL (oM Z cH (oR Z (zU Z Z zA) (oR Z (ze Z Z Z) (eN (cF Z dK (ZO (zn (zn (ZK (zK (zH (sR fL1 Z (oA Z Z (eN (zZ ?_)))))))))))))))))
 have q:=wCP cq
 obtain ⟨jj,bY⟩:=q
 have q:=wCO bY
 obtain ⟨cf,gD⟩:=q
 replace cf:=zM cf
 refine Zk (fun bg x104 σ_ w_=>∃ (U_:PHeap),σ_ 13=jV (↑bg:Int)/\σ_ 2=.slice aX p2.length ba/\σ_ 3=.slice aY p3.length bb/\σ_ 4=.pointer (some ⟨b2,0,none⟩)/\σ_ 5=.pointer (some ⟨b6,0,none⟩)/\σ_ 11=jV x104/\PHeap.Le cw U_/\sW w U U_ [.blk b6 98 B1,.blk b2 31 B0] w_) gD ?_ ?_ ?_
 exact ⟨cw,Z,cH,eE,eF,eG,eH,(zX _),gq⟩
 rintro bg x104 jw jB dB b8 ⟨dx,bw,dQ,bq,cC,dR,dS,dl,cQ⟩ iu gt
 have cy:Hid ((↑bg:Int) < (↑p3.length:Int)):=zM (wCE b8)
 replace b8:=zM b8
 have gH:Hid (w64 ((↑bg:Int) + 1)=(↑(bg + 1):Int)):=zM (by have h1:=cf.out;have h2:=cy.out;rw [wAa] <;> omega)
 refine zH (sR fL4 Z (oM Z bw (oM Z bq (oR Z (zU Z Z zA) (oR Z (ze Z Z Z) (eN (cT Z cy (kN (zH (zZ (zH (sR (wHf (.fx 4 .nil .stop)) Z (oM Z bq (oM Z bw (bnK iu fun cr bA gL=>?_)))))))))))))))
 have eO:=cY.le az
 have eP:=eO.le aU
 have cI:=eP.le dl
 have q:=cI.el (fun _=>rfl) (wAQ bA)
 obtain ⟨iR,i9,fE,fR⟩:=q
 refine oR Z (zo Z Z fE Z zA zC (wBJ bA)) (oL Z (cQ.ldC (f:=0) fR (v:=jV cr) Z Z zN Z) (bnK gL fun jt eQ gM=>zD 0 Z Z Z Z (zE Z Z ZY (zB Z (zB Z (zB Z zL))) Z) cQ (fun hs=>wAN cr (-1000000) 1000000 dB dx hs eQ) (.inr Z) ?_))
 rintro bG iH jp bJ dm ge ⟨rfl,rfl⟩
 have cR:sW w U bG [.blk b6 98 B1,.blk b2 31 B0] bJ:=ge
 refine eN (ifc gM ?_ ?_)
 intro bK gN
 refine zp (congrArg nA bK.out) (sR fL2 Z (oA Z Z (oA Z Z (eN (zI (zJ (zh (zJ ?_))))))))
 have q:=wAp gN
 obtain ⟨iz,gO,dL⟩:=q
 have q:=wCd cq bY (gt iz dL)
 obtain rfl:=q
 refine zJ (zh (zJ ?_))
 cases gO
 exact ⟨rfl,_,(wDk rfl rfl),bG,_,(cR.pick [] _ (by decide) rfl),rfl,rfl⟩
 intro bK gP
 refine zj (congrArg nA (nB.2 bK.out)) (kN (ZM ZI [3,3,1,3,3,3,1,3,3,3] fL10 (by kernel_rfl) ?_))
 have bD:=cR.drew
 generalize hw_W154:({ bJ with drawn:=bJ.drawn + 1 }:World)=iK at bD ⊢
 refine oM Z dS (oR Z (zS Z cC ZD Z zC) (oL Z (bD.ldB (j:=1) Z Z Z zN (v:=jV p0.Each) Z) (oM Z bq (oM Z bw ?_))))
 have eR:=cI.le dm
 have q:=eR.el (fun _=>rfl) (wAQ bA)
 obtain ⟨iT,ja,fG,fS⟩:=q
 refine oR Z (zo Z Z fG Z zA zC (wBJ bA)) (oL Z (bD.ldC (f:=0) fS (v:=jV cr) Z Z zN Z) (oR Z (Runs.mulw Z Z Z) (oR Z (Za Z Z Z) (oA Z Z (zu (zq (zK (rR fL3 Z (oM Z bw (oR Z (ZJ (zm Z Z Z) (congrArg (jV) gH.out)) (oA Z Z (zu ?_))))))))))))
 have q:=nD gP
 obtain rfl:=q
 exact zK ⟨Z,_,Z,⟨bG,Z,dQ,bq,cC,dR,Z,(dl.trans dm),bD⟩⟩
 rintro dw jC iL ⟨cu,eI,dT,cD,dU,dV,dW,bj,gf⟩ gw
 have bF:=wDA cq bY gw
 have dH:Hid (¬ ((↑(((↑p3.length:Int):Int) - 0).toNat:Int) < (↑p3.length:Int))):=zM (wBb)
 refine zH (sR fL4 Z (oM Z eI (oM Z cD (oR Z (zU Z Z zA) (oR Z (ze Z Z Z) (eN (cF Z dH (ZO (zn (zn (ZK (zK (zH (sR fL1 Z (oA Z Z (eN (zZ ?_)))))))))))))))))
 have q:=wCP bF
 obtain ⟨jk,bE⟩:=q
 have q:=wCO bE
 obtain ⟨cg,gE⟩:=q
 replace cg:=zM cg
 refine Zk (fun av _ σ_ w_=>∃ (U_:PHeap),σ_ 14=jV (↑av:Int)/\σ_ 2=.slice aX p2.length ba/\σ_ 3=.slice aY p3.length bb/\σ_ 4=.pointer (some ⟨b2,0,none⟩)/\σ_ 5=.pointer (some ⟨b6,0,none⟩)/\σ_ 11=jV dw/\PHeap.Le cu U_/\sW w U U_ [.blk b6 98 B1,.blk b2 31 B0] w_) gE ?_ ?_ ?_
 exact ⟨cu,Z,dT,cD,dU,dV,dW,(zX _),gf⟩
 rintro av ⟨⟩ jx jD iM b9 ⟨bH,bT,dX,bQ,dY,dZ,d6,aT,bV⟩ dh cZ
 try dsimp only at dh
 have cz:Hid ((↑av:Int) < (↑p3.length:Int)):=zM (wCE b9)
 replace b9:=zM b9
 have gI:Hid (w64 ((↑av:Int) + 1)=(↑(av + 1):Int)):=zM (by have h1:=cg.out;have h2:=cz.out;rw [wAa] <;> omega)
 refine zH (sR fL4 Z (oM Z bT (oM Z bQ (oR Z (zU Z Z zA) (oR Z (ze Z Z Z) (eN (cT Z cz (kN (zH (zZ (zH (sR fL5 Z (oM Z bQ (oM Z bT (bnK dh fun x199 bB gR=>?_)))))))))))))))
 have eS:=cY.le az
 have eT:=eS.le aU
 have eU:=eT.le bj
 have cJ:=eU.le aT
 have q:=cJ.el (fun _=>rfl) (wAQ bB)
 obtain ⟨iU,jb,fH,fT⟩:=q
 refine oR Z (zo Z Z fH Z zA zC (wBJ bB)) (oL Z (bV.ldC (f:=0) fT (v:=jV x199) Z Z zN Z) (oR Z (ze Z Z Z) (eN (ifc gR ?_ ?_))))
 intro bM gS
 refine cT Z bM (sR fL2 Z (oA Z Z (oA Z Z (eN (zI (zJ (zh (zJ ?_))))))))
 have q:=wAp gS
 obtain ⟨iA,gT,dM⟩:=q
 have q:=wCd bF bE (cZ iA dM)
 obtain rfl:=q
 refine zJ (zh (zJ ?_))
 cases gT
 exact ⟨rfl,_,(wDk rfl rfl),bH,_,(bV.pick [] _ (by decide) rfl),rfl,rfl⟩
 intro bM cn
 refine cF Z bM (kN (sR fL1 Z (oA Z Z (eN (zZ ?_)))))
 have q:=wCP cn
 obtain ⟨jl,bZ⟩:=q
 have q:=wCO bZ
 obtain ⟨cj,gF⟩:=q
 replace cj:=zM cj
 refine Zk (fun bh _ σ_ w_=>∃ (U_:PHeap),σ_ 15=jV (↑bh:Int)/\σ_ 2=.slice aX p2.length ba/\σ_ 3=.slice aY p3.length bb/\σ_ 4=.pointer (some ⟨b2,0,none⟩)/\σ_ 5=.pointer (some ⟨b6,0,none⟩)/\σ_ 11=jV dw/\σ_ 14=jV (↑av:Int)/\PHeap.Le bH U_/\sW w U U_ [.blk b6 98 B1,.blk b2 31 B0] w_) gF ?_ ?_ ?_
 exact ⟨bH,Z,dX,bQ,dY,dZ,d6,bT,(zX _),bV⟩
 rintro bh ⟨⟩ jy jE cx cb ⟨bp,aR,br,bR,bS,bs,cE,be,aP,gh⟩ dk gx
 try dsimp only at dk
 have cA:Hid ((↑bh:Int) < (↑p2.length:Int)):=zM (wCE cb)
 replace cb:=zM cb
 have de:Hid (w64 ((↑bh:Int) + 1)=(↑(bh + 1):Int)):=zM (by have h1:=cj.out;have h2:=cA.out;rw [wAa] <;> omega)
 refine zH (sR fL4 rfl (zf rfl rfl rfl rfl rfl aR (zf rfl rfl rfl rfl rfl br (zi rfl rfl rfl rfl (fun _=>zU rfl rfl zA) (zi rfl rfl rfl rfl (fun _=>ze rfl rfl rfl) (eN (cT Z cA (kN (zH (zZ (zH (ZM ZI [3,1,3,3,1,3,1,3,3,1,3,3,3,3,3,1,3,1,3,3,1,3,3,1,3,3,3,1,3,3,3] fL31 (by kernel_rfl) ?_))))))))))))
 have aj:=gh.drew
 generalize hw_W241:({ cx with drawn:=cx.drawn + 1 }:World)=iN at aj ⊢
 refine oR Z (zS Z bs zx Z zP) (oL Z (aj.ldB (j:=0) Z Z Z zR (v:=.slice aW p1.Classes.length a0) Z) (oM Z be (bnK dk fun iE cK gW=>?_)))
 have eV:=cV.le az
 have eW:=eV.le aU
 have eX:=eW.le bj
 have eY:=eX.le aT
 have eZ:=eY.le aP
 have q:=eZ.el (fun _=>rfl) (wAQ cK)
 obtain ⟨iV,jc,fJ,fU⟩:=q
 refine oR Z (zo Z Z fJ Z zA zC (wBJ cK)) (oL Z (aj.ldC (f:=0) fU (v:=jV iE) Z Z zN Z) (oR Z (zS Z bS ZD Z zP) (oL Z (aj.ldB (j:=1) Z Z Z zR (v:=.slice aV p0.Classes.length aZ) Z) (oM Z aR (bnK gW fun x254 cL gX=>?_)))))
 have e9:=cU.le az
 have fb:=e9.le aU
 have fc:=fb.le bj
 have fd:=fc.le aT
 have fe:=fd.le aP
 have q:=fe.el (fun _=>rfl) (wAQ cL)
 obtain ⟨iW,jd,fK,fV⟩:=q
 refine oR Z (zo Z Z fK Z zA zC (wBJ cL)) (oL Z (aj.ldC (f:=0) fV (v:=jV x254) Z Z zN Z) (oR Z (Zo Z Z Z) (oM Z Z (ifc gX ?_ ?_))))
 intro aa gZ
 refine zf Z Z Z (wT Z aa) Z br (zf Z Z Z (wT Z aa) Z aR (bnK gZ fun x268 cM g7=>?_))
 have ff:=cX.le az
 have fg:=ff.le aU
 have fh:=fg.le bj
 have fj:=fh.le aT
 have fm:=fj.le aP
 have q:=fm.el (fun _=>rfl) (wAQ cM)
 obtain ⟨iX,je,fL,fW⟩:=q
 refine rU Z (wT Z aa) (zo Z Z fL Z zA zC (wBJ cM)) (zz Z Z Z (wT Z aa) (aj.ldC (f:=0) fW (v:=jV x268) Z Z zN Z) Z (rU Z (wT Z aa) (zS Z bs zx Z ZH) (zz Z Z Z (wT Z aa) (aj.ldB (j:=0) Z Z Z ZL (v:=.slice bm p1.Times.length bo) Z) Z (zf Z Z Z (wT Z aa) Z be (bnK g7 fun du cN g8=>?_)))))
 have fq:=cW.le az
 have ft:=fq.le aU
 have fu:=ft.le bj
 have fw:=fu.le aT
 have fy:=fw.le aP
 have q:=fy.el (wAQ cN)
 obtain ⟨dG,iy,jr,fM,bU,it⟩:=q
 obtain ⟨dr,dt,rfl,fz⟩:=it
 replace bU:Cl bp dG (iy + av * 1) [.slice dr du.length dt]:=bU
 refine rU Z (wT Z aa) (zo Z Z fM Z zd zP (wBJ cN)) (zz Z Z Z (wT Z aa) (aj.ldC (f:=0) bU (v:=.slice dr du.length dt) Z Z zR Z) Z (zf Z Z Z (wT Z aa) Z aR (bnK g8 fun iF cO g9=>?_)))
 have q:=fz.el (fun _=>rfl) (wAQ cO)
 obtain ⟨iY,jf,fN,fY⟩:=q
 refine rU Z (wT Z aa) (zo Z Z fN Z zA zC (wBJ cO)) (zz Z Z Z (wT Z aa) (aj.ldC (f:=0) fY (v:=jV iF) Z Z zN Z) Z (zf Z Z Z (wT Z aa) Z bR (zf Z Z Z (wT Z aa) Z be ?_)))
 have fA:=cJ.le aP
 have q:=fA.el (fun _=>rfl) (wAQ bB)
 obtain ⟨iZ,jg,fO,fZ⟩:=q
 refine rU Z (wT Z aa) (zo Z Z fO Z zA zC (wBJ bB)) (zz Z Z Z (wT Z aa) (aj.ldC (f:=0) fZ (v:=jV x199) Z Z zN Z) Z (rU Z (wT Z aa) (zm Z Z Z) (rU Z (wT Z aa) (Zh Z Z Z) (oR Z (zQ Z (Zi aa.out) Z) (eN (ifc g9 ?_ ?_))))))
 intro bO ib
 refine cT Z bO (sR fL2 Z (oA Z Z (oA Z Z (eN (zI (zh (zJ ?_)))))))
 have q:=wAp ib
 obtain ⟨iB,ic,dN⟩:=q
 have q:=wCd cn bZ (gx iB dN)
 obtain rfl:=q
 refine zJ (zh (zh (zJ ?_)))
 have q:=wAp ic
 obtain ⟨iC,ie,dO⟩:=q
 have q:=wCd bF bE (cZ iC dO)
 obtain rfl:=q
 refine zJ (zh (zJ ?_))
 cases ie
 exact ⟨rfl,_,(wDk rfl rfl),bp,_,(aj.pick [] _ (by decide) rfl),rfl,rfl⟩
 intro bO ig
 refine cF Z bO (ZQ (zq (zK (rR fL3 Z (oM Z aR (oR Z (ZJ (zm Z Z Z) (congrArg (jV) de.out)) (oA Z Z (zu ?_))))))))
 have q:=nD ig
 obtain rfl:=q
 exact zK ⟨Z,_,Z,⟨bp,Z,br,bR,bS,bs,cE,be,aP,aj⟩⟩
 intro aa ii
 refine oF Z aa (oF Z aa (oF Z aa (oF Z aa (oF Z aa (oF Z aa (oF Z aa (oF Z aa (oF Z aa (oF Z aa (oF Z aa (oF Z aa (oF Z aa (oF Z aa (oF Z aa (oF Z aa (oF Z aa (oF Z aa (oR Z (zO Z (zt aa.out) Z) (eN (zj Z (ZQ (zq (zK (rR fL3 Z (oM Z aR (oR Z (ZJ (zm Z Z Z) (congrArg (jV) de.out)) (oA Z Z (zu ?_))))))))))))))))))))))))))))
 have q:=nD ii
 obtain rfl:=q
 exact zK ⟨Z,_,Z,⟨bp,Z,br,bR,bS,bs,cE,be,aP,aj⟩⟩
 rintro ⟨⟩ jG iO ⟨dy,eJ,cG,d7,d8,d9,ed,ef,iw,gj⟩ gy
 have df:=wDA cn bZ gy
 try dsimp only at df
 have dI:Hid (¬ ((↑(((↑p2.length:Int):Int) - 0).toNat:Int) < (↑p2.length:Int))):=zM (wBb)
 refine zH (sR fL4 Z (oM Z eJ (oM Z cG (oR Z (zU Z Z zA) (oR Z (ze Z Z Z) (eN (cF Z dI (ZO (zn (zn (ZK (zq (zK (rR fL3 Z (oM Z ef (oR Z (ZJ (zm Z Z Z) (congrArg (jV) gI.out)) (oA Z Z (zu ?_))))))))))))))))))
 have q:=nD df
 obtain rfl:=q
 exact zK ⟨Z,_,Z,⟨dy,Z,cG,d7,d8,d9,ed,(aT.trans iw),gj⟩⟩
 rintro ⟨⟩ jH iP ⟨dz,eK,i5,eh,i6,i7,ey,i8,gm⟩ gA
 have dg:=wDA bF bE gA
 try dsimp only at dg
 have dJ:Hid (¬ ((↑(((↑p3.length:Int):Int) - 0).toNat:Int) < (↑p3.length:Int))):=zM (wBb)
 refine zH (sR fL4 Z (oM Z eK (oM Z eh (oR Z (zU Z Z zA) (oR Z (ze Z Z Z) (eN (cF Z dJ (ZO (zn (zn (ZK (zK (sR fL3 Z (oM Z ey (oA Z Z (oA Z Z (eN (zI ?_))))))))))))))))))
 cases dg
 exact ⟨rfl,_,(wDk rfl rfl),dz,_,(gm.pick [] _ (by decide) rfl),rfl,rfl⟩
 intro bN ij
 refine cT Z bN (sR fL2 Z (oA Z Z (oA Z Z (eN (zI (zJ ?_))))))
 cases ij
 exact ⟨rfl,_,(wDk rfl rfl),aQ,_,(aS.pick [] _ (by decide) rfl),rfl,rfl⟩
 intro ae ik
 refine oT Z ae (oT Z ae (oT Z ae (oT Z ae (oT Z ae (oT Z ae (oR Z (zQ Z (Zi ae.out) Z) (eN (zp Z (sR fL2 Z (oA Z Z (oA Z Z (eN (zI (zJ ?_))))))))))))))
 cases ik
 exact ⟨rfl,_,(wDk rfl rfl),aQ,_,(aS.pick [] _ (by decide) rfl),rfl,rfl⟩
 intro bL il
 refine cT Z bL (sR fL3 Z (oM Z Z (oA Z Z (oA Z Z (eN (zI (zJ ?_)))))))
 cases il
 exact ⟨rfl,_,(wDk rfl rfl),aQ,_,(aS.pick [] _ (by decide) rfl),rfl,rfl⟩
theorem wBB (p0:List Int) (ae:Option Addr) (aq:Nat) (w:World) (U:PHeap) (hS:St0 w U []) (ap:Sl U 1 ae aq p0.length (hH KL.encI p0)) {r:(List Int)} (hm:wAU p0=some r):Gv Tryz.prog 165 [.slice ae p0.length aq] w (wCQ w [] U (fun U_ L_ v=>∃ (A0:Option Addr) (c0:Nat),v=.slice A0 r.length c0/\L_=[.row A0 c0 3 1 (hH KL.encI r)])):=by
 unfold wAU at hm
 refine Gv.of Tryz.func165 Z Tryz.ntmps165 Tryz.results165 Z (sR fL1 Z (oA Z Z (eN (zH (sR fL2 Z (oM Z Z (oR Z (Runs.eqNil Z Z Z zA) (eN ?_))))))))
 by_cases c1:ae.isNone=true
 replace c1:=zM c1
 have aX:p0=[]:=List.eq_nil_of_length_eq_zero (Sl.nilA (Option.isNone_iff_eq_none.1 c1.out ▸ ap))
 have aW:(some [])=some r:=by simpa [aX,app] using hm
 refine zp (congrArg nA c1.out) (sR fL1 Z (oA Z Z (eN (zI (zJ ?_)))))
 have aT:=hS.nilrow 3 1
 cases aW
 exact ⟨Z,_,(zk Z),U,_,aT,none,0,Z,Z⟩
 replace c1:=zM c1
 refine zj (congrArg nA (nB.2 c1.out)) (kN (sR (.fx 0 gAs .stop) Z (OKS.buildSlice0 1 Z Z Z Z Z zA zC hS ?_)))
 intro W6 b7 aU
 have am:sW w U U [.row (some ⟨b7,0,none⟩) 0 3 1 (hH KL.encI ([]:List Int))] W6:=aU
 refine oM Z Z (bnK hm fun au aQ aV=>OKS.append0 (j:=0) (enc:=KL.encI) (ys:=p0) (zs:=au) Z Z Z Z Z Zj wDz Z Z Z Z Z Z am Z Z Z (am.srcS ap) (fun _=>Z) aQ ?_)
 intro ai ak av aR
 have aS:sW w U U [.row ai ak 3 1 (hH KL.encI au)] av:=aR
 refine oA Z Z (eN (zI ?_))
 have hE:=nD aV;first | subst r | cases hE
 exact ⟨Z,_,(zk Z),U,_,aS,ai,ak,Z,Z⟩
theorem wEP (n_:Nat):∀ (p0:List Int) (ai:Option Addr) (ak:Nat) (p1:wAI) (am:Nat) (br:Option Addr) (bt:Nat) (bD:Option Addr) (bE:Nat) (bs:Option Addr) (bw:Nat) (p2:List Int) (ah:Nat) (aW:Option Addr) (a0:Nat) (p3:Int) (aj:Nat) (p4:Int) (ap:Nat) (p5:Unit) (aq:Nat) (w:World) (U:PHeap) (hS:St0 w U [.blk ah 22 [.slice aW p2.length a0],.row aW a0 3 1 (hH KL.encI p2),.blk aj 3 [jV p3]]) (bB:Sl U 1 ai ak p0.length (hH KL.encI p0)) (b5:Cl U am 0 [.slice br p1.Squad.Classes.length bt,.slice bD p1.Squad.Times.length bE,.slice bs p1.rules.Classes.length bw,jV p1.rules.Each,jV p1.rules.Laps,jV p1.rules.Spare,jV p1.rules.Loop,jV p1.rules.Unused]) (dp:Sl U 1 br bt p1.Squad.Classes.length (hH KL.encI p1.Squad.Classes)) (dq:SlR U wDX bD bE p1.Squad.Times) (dr:Sl U 1 bs bw p1.rules.Classes.length (hH KL.encI p1.rules.Classes)) (b8:p2=[]->aW=none) (eS:Cl U ap 0 [jV p4]) (bG:Cl U aq 0 [.func (.func 201) #[] #[.pointer (some ⟨am,0,none⟩),.pointer (some ⟨ah,0,none⟩),.pointer (some ⟨aj,0,none⟩),.pointer (some ⟨ap,0,none⟩),.pointer (some ⟨aq,0,none⟩)]]) {r:(List Int) × Int} (hm:wAq n_ p0 p1 p2 p3 p4 p5=some r),Gv Tryz.prog 201 [.slice ai p0.length ak,.pointer (some ⟨am,0,none⟩),.pointer (some ⟨ah,0,none⟩),.pointer (some ⟨aj,0,none⟩),.pointer (some ⟨ap,0,none⟩),.pointer (some ⟨aq,0,none⟩)] w (wCQ w [.blk ah 22 [.slice aW p2.length a0],.row aW a0 3 1 (hH KL.encI p2),.blk aj 3 [jV p3]] U (fun U_ L_ v=>∃ (cG:Option Addr) (d6:Nat),v=.tuple #[]/\L_=[.row cG d6 3 1 (hH KL.encI r.1),.blk ah 22 [.slice cG r.1.length d6],.blk aj 3 [jV r.2]]/\(r.1=[]->cG=none))):=by
 induction n_ with
 | zero =>
  intros
  rename_i hm
  have ln:(none:Option ((List Int) × Int))=some _:=hm
  cases ln
 | succ n_ ih =>
  intro p0 ai ak p1 am br bt bD bE bs bw p2 ah aW a0 p3 aj p4 ap p5 aq w U hS bB b5 dp dq dr b8 eS bG r hm
  have hm:wAc (wAq n_) p0 p1 p2 p3 p4 p5=some r:=hm
  unfold wAc at hm
  refine Gv.of Tryz.func201 Z Tryz.ntmps201 Tryz.results201 Z (zH (sR fL7 Z (oM Z Z (oR Z (zU Z Z zA) (oR Z (zS Z Z Zg Z zr) (oR Z (zS Z Z zW Z zP) (oL Z (hS.ldC (f:=2) b5 (v:=.slice bs p1.rules.Classes.length bw) Z Z zR Z) (oR Z (zU Z Z zA) (oR Z (Zo Z Z Z) (eN ?_))))))))))
  by_cases c4:(↑p0.length:Int)=(↑p1.rules.Classes.length:Int)
  ·have eW:=hm;rw [if_pos c4] at eW;replace c4:=zM c4
   refine cT Z c4 (zH (sR (.fl 0 (.fl 1 (.fx 2 (wPD (.nil)) .stop))) Z (oL Z (hS.ldCA (f:=0) b5 Z Z Zs Zc (us:=[.slice br p1.Squad.Classes.length bt,.slice bD p1.Squad.Times.length bE,.slice bs p1.rules.Classes.length bw,jV p1.rules.Each,jV p1.rules.Laps,jV p1.rules.Spare,jV p1.rules.Loop,jV p1.rules.Unused]) Z Z) (oM Z Z ?_))))
   have q:=bnd eW
   obtain ⟨⟨x6,x7⟩,h8,eY⟩:=q
   try dsimp only at eY
   refine zD 0 Z Z Z Z (zE Z Z Tryz.call120 (zB Z (zB Z zL)) Z) hS (fun hs=>wDD p1 br bt bD bE bs bw p0 ai ak w U hs dp dq dr bB h8) (.inr Z) ?_
   rintro bU lR mA cO ff jv ⟨rfl,rfl⟩
   let B0:Res:=.row aW a0 3 1 (hH KL.encI p2)
   let B1:Res:=.blk ah 22 [.slice aW p2.length a0]
   let B2:Res:=.blk aj 3 [jV p3]
   have bF:SW w [B1,B0,B2] U bU [B1,B0,B2] cO:=jv
   refine oM Z Z (oR Z (ZB Z Z (v:=jV x6) Z) (oR Z (ZB Z Z (v:=.bool x7) Z) (oA Z Z (oA Z Z (eN (sR fL10 Z (oM Z Z (oM Z Z (ifc eY ?_ ?_)))))))))
   ·intro aZ lu
    refine zz Z Z Z (zG Z Z (congrArg nA aZ.out)) (bF.ldB (j:=0) Z Z Z zR (v:=.slice aW p2.length a0) Z) Z ?_
    have iv:aW.isNone=decide (p2=[]):=wJg (j:=1) bF rfl (fun _=>rfl) (by decide) b8
    refine zi Z Z Z (zG Z Z (congrArg nA aZ.out)) (fun _=>Runs.eqNilR Z Z Z zA iv) (zf Z Z Z (zG Z Z (congrArg nA aZ.out)) Z Z (ifc lu ?_ ?_))
    ·intro bm lw
     refine oT Z bm (oT Z bm (oT Z bm (zi Z Z Z (zG Z Z (congrArg nA aZ.out)) (fun _=>zQ Z (Zi bm.out) Z) (oR Z (zQ Z (congrArg nA aZ.out) Z) (eN (zp Z (rR gAz Z (oM Z Z ?_))))))))
     have iy:=bB.le ff
     refine bnK lw fun fm iz ly=>zD 0 Z Z Z Z (zE Z Z Tryz.call165 (zB Z zL) Z) bF (fun hs=>wBB p0 ai ak cO bU hs iy iz) (.inr Z) ?_
     rintro cg lT mC fB mw jw ⟨cy,cU,rfl,rfl⟩
     let B3:Res:=.row cy cU 3 1 (hH KL.encI fm)
     have jx:SW w [B1,B0,B2] U cg [B3,B1,B0,B2] fB:=jw
     refine oM Z Z (bnK ly fun mK iA lz=>?_)
     let B4:List Value:=[.slice cy fm.length cU]
     refine ZW (j:=1) (vs:=B4) Z Z Z Z jx Z Z Z Z zP (zY Z) Z Z Z ?_
     intro fC jy
     have jz:SW w [B1,B0,B2] U cg [B3,.blk ah 22 B4,B0,B2] fC:=jy
     refine ZW (j:=3) (vs:=[jV x6]) Z Z Z Z jz Z Z Z Z zC (zY Z) Z Z Z ?_
     intro fD jB
     have jC:SW w [B1,B0,B2] U cg [B3,.blk ah 22 B4,B0,.blk aj 3 [jV x6]] fD:=jB
     refine eN (zI (zJ ?_))
     cases lz
     exact ⟨rfl,_,(wPk),cg,_,(jC.pick [0,1,3] _ (by decide) rfl),cy,cU,rfl,rfl,(fun h=>absurd h (wKf iA))⟩
    ·intro bm lA
     refine zf Z Z Z (wF Z bm) Z Z (zz Z Z Z (wF Z bm) (bF.ldB (j:=2) Z Z Z zN (v:=jV p3) Z) Z (rU Z (wF Z bm) (ze Z Z Z) (zi Z Z Z (zG Z Z (congrArg nA aZ.out)) (fun _=>zO Z (zt bm.out) Z) (oR Z (zQ Z (congrArg nA aZ.out) Z) (eN (ifc lA ?_ ?_))))))
     ·intro cX lB
      refine cT Z cX (rR gAz Z (oM Z Z ?_))
      have iJ:=bB.le ff
      refine bnK lB fun fq iX lD=>zD 0 Z Z Z Z (zE Z Z Tryz.call165 (zB Z zL) Z) bF (fun hs=>wBB p0 ai ak cO bU hs iJ iX) (.inr Z) ?_
      rintro cj lV mE fG my jN ⟨cD,de,rfl,rfl⟩
      let B5:Res:=.row cD de 3 1 (hH KL.encI fq)
      have jQ:SW w [B1,B0,B2] U cj [B5,B1,B0,B2] fG:=jN
      refine oM Z Z (bnK lD fun mL ja lE=>?_)
      let B6:List Value:=[.slice cD fq.length de]
      refine ZW (j:=1) (vs:=B6) Z Z Z Z jQ Z Z Z Z zP (zY Z) Z Z Z ?_
      intro fM jX
      have jZ:SW w [B1,B0,B2] U cj [B5,.blk ah 22 B6,B0,B2] fM:=jX
      refine ZW (j:=3) (vs:=[jV x6]) Z Z Z Z jZ Z Z Z Z zC (zY Z) Z Z Z ?_
      intro fO j5
      have j8:SW w [B1,B0,B2] U cj [B5,.blk ah 22 B6,B0,.blk aj 3 [jV x6]] fO:=j5
      refine eN (zI (zJ ?_))
      cases lE
      exact ⟨rfl,_,(wPk),cj,_,(j8.pick [0,1,3] _ (by decide) rfl),cD,de,rfl,rfl,(fun h=>absurd h (wKf ja))⟩
     ·intro cX lF
      refine cF Z cX (kN (zI (zJ ?_)))
      cases lF
      exact ⟨rfl,_,(wPk),bU,_,(bF.pick [1,0,2] _ (by decide) rfl),aW,a0,rfl,rfl,b8⟩
   ·intro aZ lG
    refine zV Z Z Z (zF Z Z (congrArg nA (nB.2 aZ.out)) Z) (zV Z Z Z (zF Z Z (congrArg nA (nB.2 aZ.out)) Z) (zV Z Z Z (zF Z Z (congrArg nA (nB.2 aZ.out)) Z) (zV Z Z Z (wAu Z Z Z) (zV Z Z Z (wAu Z Z Z) (zV Z Z Z (wAu Z Z Z) (zV Z Z Z (zF Z Z (congrArg nA (nB.2 aZ.out)) Z) (oR Z (zO Z (congrArg nA (nB.2 aZ.out)) Z) (eN (zj Z (kN (zI (zJ ?_))))))))))))
    cases lG
    exact ⟨rfl,_,(wPk),bU,_,(bF.pick [1,0,2] _ (by decide) rfl),aW,a0,rfl,rfl,b8⟩
  ·have eX:=hm;rw [if_neg c4] at eX;replace c4:=zM c4
   refine cF Z c4 (kN (sR fL5 Z (oR Z (zS Z Z Zg Z zw) (oR Z (zS Z Z zg Z zP) (oL Z (hS.ldC (f:=0) b5 (v:=.slice br p1.Squad.Classes.length bt) Z Z zR Z) (oR Z (zU Z Z zA) (oM Z Z (eN (zZ ?_)))))))))
   have q:=bnd eX
   obtain ⟨⟨mN,mO⟩,lj,eZ⟩:=q
   try dsimp only at eZ
   have q:=wCq lj
   obtain ⟨dv,lm⟩:=q
   replace dv:=zM dv
   let B7:Res:=.row aW a0 3 1 (hH KL.encI p2)
   let B8:Res:=.blk ah 22 [.slice aW p2.length a0]
   let B9:Res:=.blk aj 3 [jV p3]
   refine CK.forN' (fun aa (bH,cx) σ_ w_=>∃ (U_:PHeap) (bj:Option Addr) (bA:Nat),σ_ 40=jV (↑aa:Int)/\σ_ 0=.slice ai p0.length ak/\σ_ 1=.pointer (some ⟨am,0,none⟩)/\σ_ 4=.pointer (some ⟨ap,0,none⟩)/\σ_ 5=.pointer (some ⟨aq,0,none⟩)/\σ_ 39=jV (↑p1.Squad.Classes.length:Int)/\PHeap.Le U U_/\SW w [B8,B7,B9] U U_ [.row bj bA 3 1 (hH KL.encI bH),.blk ah 22 [.slice bj bH.length bA],.blk aj 3 [jV cx]] w_/\(bH=[]->bj=none)) lm ?_ ?_ ?_
   ·exact ⟨U,aW,a0,rfl,rfl,rfl,rfl,rfl,rfl,(zX _),(hS.pick [1,0,2] _ (by decide) rfl),b8⟩
   ·rintro aa ⟨bH,cx⟩ mM mX fA du ⟨dI,bj,bA,bi,bh,bo,bp,be,bq,aT,cu,dk⟩ dw
    try dsimp only at dw
    have dU:Hid ((↑aa:Int) < (↑p1.Squad.Classes.length:Int)):=zM (wCE du)
    replace du:=zM du
    have dt:Hid (w64 ((↑aa:Int) + 1)=(↑(aa + 1):Int)):=zM (by have h1:=dv.out;have h2:=dU.out;rw [wAa] <;> omega)
    refine sR fL1 Z (oR Z (ze Z bi bq) (eN (zH (cT Z dU (kN (zH (zZ (sR fL2 Z (oM Z bi (oA Z Z (eN (sR (wOL gAk) Z (oM Z Z ?_)))))))))))))
    have eI:=eS.le aT
    refine oL Z (cu.ldC (f:=0) eI (v:=jV p4) Z bp zN Z) (oR Z (ZE Z Z Z) (oM Z Z ?_))
    by_cases aS:(↑aa:Int)=p4
    ·have eT:=dw;rw [if_pos aS] at eT;replace aS:=zM aS
     refine zV Z Z Z (zF Z Z (zt (fun h=>h aS.out)) Z) (zV Z Z Z (zF Z Z (zt (fun h=>h aS.out)) Z) (zV Z Z Z (zF Z Z (zt (fun h=>h aS.out)) Z) (zV Z Z Z (zF Z Z (zt (fun h=>h aS.out)) Z) (ZA Z Z Z (zF Z Z (zt (fun h=>h aS.out)) Z) (oR Z (zO Z (zt (fun h=>h aS.out)) Z) (eN (zj Z (ZQ (zq (zK (rR fL2 Z (oR Z (ZJ (zm Z bi Z) (congrArg (jV) dt.out)) (oM Z Z (zu ?_))))))))))))))
     cases eT
     exact zK ⟨Z,⟨dI,bj,bA,Z,bh,bo,bp,be,bq,aT,cu,dk⟩⟩
    ·have eU:=dw;rw [if_neg aS] at eU;replace aS:=zM aS
     have eJ:=b5.le aT
     refine zz Z Z Z (wT Z aS) (cu.ldCA (f:=0) eJ Z bo Zs Zc (us:=[.slice br p1.Squad.Classes.length bt,.slice bD p1.Squad.Times.length bE,.slice bs p1.rules.Classes.length bw,jV p1.rules.Each,jV p1.rules.Laps,jV p1.rules.Spare,jV p1.rules.Loop,jV p1.rules.Unused]) Z Z) Z (zf Z Z Z (wT Z aS) Z Z (zf Z Z Z (wT Z aS) Z bh (rU Z (wT Z aS) (zU Z Z zA) ?_)))
     have eK:=dp.le aT
     have eL:=dq.le aT
     have eM:=dr.le aT
     refine bnK eU fun mJ iu lp=>zD 0 Z Z Z (wT Z aS) (zE Z Z Tryz.call124 (zB Z (zB Z (zB Z zL))) Z) cu (fun hs=>wCM p1 br bt bD bE bs bw (↑aa:Int) (↑p0.length:Int) fA dI hs eK eL eM iu) (.inr Z) ?_
     rintro aV lS mB cP aU ju ⟨rfl,rfl⟩
     let aP:Res:=.row bj bA 3 1 (hH KL.encI bH)
     let aQ:Res:=.blk ah 22 [.slice bj bH.length bA]
     let aR:Res:=.blk aj 3 [jV cx]
     have eP:SW w [B8,B7,B9] U aV [aP,aQ,aR] cP:=ju
     refine oR Z (zQ Z (Zi aS.out) Z) (eN (ifc lp ?_ ?_))
     ·intro cS lq
      refine zp (congrArg nA cS.out) (bnK lq fun ba ct lv=>bnK lv fun x163 eO lx=>?_)
      have q:=bnd lx
      obtain ⟨⟨x193,x194⟩,iw,eV⟩:=q
      try dsimp only at eV
      refine ZM ZI [2,3,2,3,2,0,0] (.fl 1 (.fl 3 (.fx 0 (.fx 2 gAt (.fx 4 gAu .stop)) (.fx 2 (.fx 0 gAt (.fx 4 gAx .stop)) (.fx 4 (.fx 0 gAu (.fx 2 gAx .stop)) .stop))))) (by kernel_rfl) ?_
      have bN:=eP.drew
      generalize hw_W213:({ cP with drawn:=cP.drawn + 1 }:World)=dP at bN ⊢
      refine Ze (s:=.nil) (M:=fun σ_ w_=>∃ (U_:PHeap) (bO:Option Addr) (cn:Nat) (cz:Option Addr) (cV:Nat) (cA:Option Addr) (cW:Nat),σ_ 0=.slice ai p0.length ak/\σ_ 1=.pointer (some ⟨am,0,none⟩)/\σ_ 4=.pointer (some ⟨ap,0,none⟩)/\σ_ 5=.pointer (some ⟨aq,0,none⟩)/\σ_ 9=jV (↑aa:Int)/\σ_ 39=jV (↑p1.Squad.Classes.length:Int)/\σ_ 40=jV (↑aa:Int)/\σ_ 53=.func (.func 201) #[] #[.pointer (some ⟨am,0,none⟩),.pointer (some ⟨ah,0,none⟩),.pointer (some ⟨aj,0,none⟩),.pointer (some ⟨ap,0,none⟩),.pointer (some ⟨aq,0,none⟩)]/\σ_ 54=.slice ai p0.length ak/\σ_ 56=jV (↑aa:Int)/\σ_ 57=.slice cz ([(↑aa:Int)].length) cV/\σ_ 58=.slice cA x163.length cW/\σ_ 59=.tuple #[]/\PHeap.Le aV U_/\SW w [B8,B7,B9] U U_ [.row bO cn 3 1 (hH KL.encI x193),.blk ah 22 [.slice bO x193.length cn],.blk aj 3 [jV x194],.row cz cV 3 1 (hH KL.encI [(↑aa:Int)])] w_/\(x193=[]->bO=none)/\Sl U_ 1 cA cW x163.length (hH KL.encI x163)) ?_ fun lI=>?_
      ·rintro mP l7 ⟨fu,bO,cn,cz,cV,cA,cW,fW,fY,fZ,gb,mg,gc,ge,mh,mi,mj,ml,mn,mo,lK,jA,iB,mu⟩
       refine zu (zq (zK (rR fL2 Z (oR Z (ZJ (zm Z ge Z) (congrArg (jV) dt.out)) (oM Z Z (zu ?_))))))
       cases eV
       exact zK ⟨rfl,⟨fu,bO,cn,rfl,fW,fY,fZ,gb,gc,((aT.trans aU).trans lK),(jA.pick [0,1,2] _ (by decide) rfl),iB⟩⟩
      refine Ze (s:=.fx 6 .nil .stop) (M:=fun σ_ w_=>∃ (U_:PHeap) (bP:Option Addr) (bV:Nat) (bQ:Option Addr) (bW:Nat),σ_ 0=.slice ai p0.length ak/\σ_ 1=.pointer (some ⟨am,0,none⟩)/\σ_ 4=.pointer (some ⟨ap,0,none⟩)/\σ_ 5=.pointer (some ⟨aq,0,none⟩)/\σ_ 9=jV (↑aa:Int)/\σ_ 39=jV (↑p1.Squad.Classes.length:Int)/\σ_ 40=jV (↑aa:Int)/\σ_ 53=.func (.func 201) #[] #[.pointer (some ⟨am,0,none⟩),.pointer (some ⟨ah,0,none⟩),.pointer (some ⟨aj,0,none⟩),.pointer (some ⟨ap,0,none⟩),.pointer (some ⟨aq,0,none⟩)]/\σ_ 54=.slice ai p0.length ak/\σ_ 56=jV (↑aa:Int)/\σ_ 57=.slice bP ([(↑aa:Int)].length) bV/\σ_ 58=.slice bQ x163.length bW/\PHeap.Le aV U_/\SW w [B8,B7,B9] U U_ [aP,aQ,aR,.row bP bV 3 1 (hH KL.encI [(↑aa:Int)]),.row bQ bW 3 1 (hH KL.encI x163)] w_) ?_ fun fb=>?_
      ·rintro mQ cQ ⟨l6,bP,bV,bQ,bW,gf,gg,gh,gi,gj,gm,gp,d7,gq,gt,gw,d8,bI,jD⟩
       have q:=jD.freezeR (k:=4) (n:=x163.length) rfl (wAH (f:=KL.encI) (sz:=1) (fun _=>rfl) x163) (by decide)
       obtain ⟨cM,bJ,e9,jE⟩:=q
       let cH:Res:=.row bP bV 3 1 (hH KL.encI [(↑aa:Int)])
       have jG:SW w [B8,B7,B9] U cM [aP,aQ,aR,cH] cQ:=jE
       have iC:=eJ.le aU
       have iD:=iC.le bI
       have iE:=iD.le bJ
       have iF:=eK.le aU
       have iG:=iF.le bI
       have iH:=iG.le bJ
       have iI:=eL.le aU
       have iK:=iI.le bI
       have iL:=iK.le bJ
       have iM:=eM.le aU
       have iN:=iM.le bI
       have iO:=iN.le bJ
       have iP:=eI.le aU
       have iQ:=iP.le bI
       have iR:=iQ.le bJ
       have iT:=bG.le aT
       have iU:=iT.le aU
       have iV:=iU.le bI
       have iW:=iV.le bJ
       have jH:SW w [B8,B7,B9] U cM [aQ,aP,aR,cH] cQ:=jG.pick [1,0,2,3] _ (by decide) rfl
       refine zD 3 Z Z Z Z (zE Z d7 Tryz.call201 (zB d8 zL) Z) jH (fun hs=>ih x163 bQ bW p1 am br bt bD bE bs bw bH ah bj bA cx aj p4 ap () aq cQ cM hs e9 iE iH iL iO dk iR iW iw) (.inl Z) ?_
       rintro dJ lU mD fE fg jJ ⟨cB,cY,rfl,rfl,iY⟩
       have jK:SW w [B8,B7,B9] U dJ [.row cB cY 3 1 (hH KL.encI x193),.blk ah 22 [.slice cB x193.length cY],.blk aj 3 [jV x194],cH] fE:=jJ
       have iZ:=e9.le fg
       exact lI _ _ ⟨dJ,cB,cY,bP,bV,bQ,bW,gf,gg,gh,gi,gj,gm,gp,d7,gq,gt,gw,d8,Z,((bI.trans bJ).trans fg),jK,iY,iZ⟩
      refine Ze (s:=gAo) (M:=fun σ_ w_=>∃ (U_:PHeap) (cb:Option Addr) (cp:Nat) (cd:Option Addr) (cq:Nat),σ_ 0=.slice ai p0.length ak/\σ_ 1=.pointer (some ⟨am,0,none⟩)/\σ_ 4=.pointer (some ⟨ap,0,none⟩)/\σ_ 5=.pointer (some ⟨aq,0,none⟩)/\σ_ 9=jV (↑aa:Int)/\σ_ 39=jV (↑p1.Squad.Classes.length:Int)/\σ_ 40=jV (↑aa:Int)/\σ_ 54=.slice ai p0.length ak/\σ_ 56=jV (↑aa:Int)/\σ_ 57=.slice cb ([(↑aa:Int)].length) cp/\σ_ 58=.slice cd x163.length cq/\PHeap.Le aV U_/\SW w [B8,B7,B9] U U_ [aP,aQ,aR,.row cb cp 3 1 (hH KL.encI [(↑aa:Int)]),.row cd cq 3 1 (hH KL.encI x163)] w_) ?_ fun lJ=>?_
      ·rintro mR l8 ⟨fw,cb,cp,cd,cq,gx,gy,gA,d9,gB,gC,gD,gE,gF,gG,gH,fh,eQ⟩
       have i0:=bG.le aT
       have i4:=i0.le aU
       have i5:=i4.le fh
       exact OKS.mx2 Z Z Z Z (eQ.ldC (f:=0) i5 (v:=.func (.func 201) #[] #[.pointer (some ⟨am,0,none⟩),.pointer (some ⟨ah,0,none⟩),.pointer (some ⟨aj,0,none⟩),.pointer (some ⟨ap,0,none⟩),.pointer (some ⟨aq,0,none⟩)]) Z d9 Tryz.isAgg346 Z) (fb _ _ ⟨fw,cb,cp,cd,cq,gx,gy,gA,d9,gB,gC,gD,Z,gE,gF,gG,gH,fh,eQ⟩)
      refine Ze (s:=gAn) (M:=fun σ_ w_=>∃ (U_:PHeap) (cC:Option Addr) (cZ:Nat) (bR:Option Addr) (bX:Nat),σ_ 0=.slice ai p0.length ak/\σ_ 1=.pointer (some ⟨am,0,none⟩)/\σ_ 4=.pointer (some ⟨ap,0,none⟩)/\σ_ 5=.pointer (some ⟨aq,0,none⟩)/\σ_ 9=jV (↑aa:Int)/\σ_ 39=jV (↑p1.Squad.Classes.length:Int)/\σ_ 40=jV (↑aa:Int)/\σ_ 53=.func (.func 201) #[] #[.pointer (some ⟨am,0,none⟩),.pointer (some ⟨ah,0,none⟩),.pointer (some ⟨aj,0,none⟩),.pointer (some ⟨ap,0,none⟩),.pointer (some ⟨aq,0,none⟩)]/\σ_ 54=.slice ai p0.length ak/\σ_ 55=.slice cC ba.length cZ/\σ_ 56=jV (↑aa:Int)/\σ_ 57=.slice bR ([(↑aa:Int)].length) bX/\PHeap.Le aV U_/\SW w [B8,B7,B9] U U_ [aP,aQ,aR,.row cC cZ 3 1 (hH KL.encI ba),.row bR bX 3 1 (hH KL.encI [(↑aa:Int)])] w_) ?_ fun dx=>?_
      ·rintro mS l9 ⟨dK,cC,cZ,bR,bX,gI,gJ,gK,gL,gM,gN,gO,gP,gQ,gR,gS,ed,lL,eR⟩
       refine OKS.append (j:=3) (enc:=KL.encI) (xs:=ba) (ys:=[(↑aa:Int)]) (zs:=x163) rfl rfl rfl rfl rfl Zj wDz rfl rfl rfl rfl rfl rfl eR rfl gR ed (eR.srcR (j:=4) rfl (by decide) (wAH (f:=KL.encI) (sz:=1) (fun _=>rfl) [(↑aa:Int)])) (fun _=>rfl) (fun _=>rfl) eO rfl ?_
       intro dB dV fH jL
       have jM:SW w [B8,B7,B9] U dK [aP,aQ,aR,.row dB dV 3 1 (hH KL.encI x163),.row bR bX 3 1 (hH KL.encI [(↑aa:Int)])] fH:=jL
       exact fb _ _ ⟨dK,bR,bX,dB,dV,gI,gJ,gK,gL,gM,gN,gO,gP,gQ,gS,ed,rfl,lL,(jM.pick [0,1,2,4,3] _ (by decide) rfl)⟩
      refine Ze (s:=gAx) (M:=fun σ_ w_=>∃ (U_:PHeap) (cf:Option Addr) (cr:Nat) (bL:Option Addr) (bM:Nat),σ_ 0=.slice ai p0.length ak/\σ_ 1=.pointer (some ⟨am,0,none⟩)/\σ_ 4=.pointer (some ⟨ap,0,none⟩)/\σ_ 5=.pointer (some ⟨aq,0,none⟩)/\σ_ 9=jV (↑aa:Int)/\σ_ 39=jV (↑p1.Squad.Classes.length:Int)/\σ_ 40=jV (↑aa:Int)/\σ_ 54=.slice ai p0.length ak/\σ_ 55=.slice cf ba.length cr/\σ_ 56=jV (↑aa:Int)/\σ_ 57=.slice bL ([(↑aa:Int)].length) bM/\PHeap.Le aV U_/\SW w [B8,B7,B9] U U_ [aP,aQ,aR,.row cf cr 3 1 (hH KL.encI ba),.row bL bM 3 1 (hH KL.encI [(↑aa:Int)])] w_) ?_ fun fc=>?_
      ·rintro mT mc ⟨cN,cf,cr,bL,bM,ef,eh,ey,dg,ez,eA,eC,eD,eE,eF,dh,dy,cw⟩
       refine ZX ?_ ?_
       ·have i6:=bG.le aT
        have i7:=i6.le aU
        have i8:=i7.le dy
        exact OKS.mx2 Z Z Z Z (cw.ldC (f:=0) i8 (v:=.func (.func 201) #[] #[.pointer (some ⟨am,0,none⟩),.pointer (some ⟨ah,0,none⟩),.pointer (some ⟨aj,0,none⟩),.pointer (some ⟨ap,0,none⟩),.pointer (some ⟨aq,0,none⟩)]) Z dg Tryz.isAgg346 Z) (dx _ _ ⟨cN,cf,cr,bL,bM,ef,eh,ey,dg,ez,eA,eC,Z,eD,eE,eF,dh,dy,cw⟩)
       ·refine OKS.append (j:=3) (enc:=KL.encI) (xs:=ba) (ys:=[(↑aa:Int)]) (zs:=x163) rfl rfl rfl rfl rfl Zj wDz rfl rfl rfl rfl rfl rfl cw rfl eE dh (cw.srcR (j:=4) rfl (by decide) (wAH (f:=KL.encI) (sz:=1) (fun _=>rfl) [(↑aa:Int)])) (fun _=>rfl) (fun _=>rfl) eO rfl ?_
        intro dC dW fJ jO
        have jP:SW w [B8,B7,B9] U cN [aP,aQ,aR,.row dC dW 3 1 (hH KL.encI x163),.row bL bM 3 1 (hH KL.encI [(↑aa:Int)])] fJ:=jO
        exact lJ _ _ ⟨cN,bL,bM,dC,dW,ef,eh,ey,dg,ez,eA,eC,eD,eF,dh,rfl,dy,(jP.pick [0,1,2,4,3] _ (by decide) rfl)⟩
      refine Ze (s:=gAu) (M:=fun σ_ w_=>∃ (U_:PHeap) (bS:Option Addr) (bY:Nat),σ_ 0=.slice ai p0.length ak/\σ_ 1=.pointer (some ⟨am,0,none⟩)/\σ_ 4=.pointer (some ⟨ap,0,none⟩)/\σ_ 5=.pointer (some ⟨aq,0,none⟩)/\σ_ 9=jV (↑aa:Int)/\σ_ 39=jV (↑p1.Squad.Classes.length:Int)/\σ_ 40=jV (↑aa:Int)/\σ_ 53=.func (.func 201) #[] #[.pointer (some ⟨am,0,none⟩),.pointer (some ⟨ah,0,none⟩),.pointer (some ⟨aj,0,none⟩),.pointer (some ⟨ap,0,none⟩),.pointer (some ⟨aq,0,none⟩)]/\σ_ 54=.slice ai p0.length ak/\σ_ 56=jV (↑aa:Int)/\σ_ 57=.slice bS ([(↑aa:Int)].length) bY/\PHeap.Le aV U_/\SW w [B8,B7,B9] U U_ [aP,aQ,aR,.row bS bY 3 1 (hH KL.encI [(↑aa:Int)])] w_) ?_ fun fd=>?_
      ·rintro mU fK ⟨fy,bS,bY,gT,gU,gW,gX,gZ,g7,g8,g9,eG,ib,ic,fj,jR⟩
       have i9:=bB.le aT
       have jb:=i9.le aU
       have jc:=jb.le fj
       refine zD 0 Z Z Z Z (zE Z Z Tryz.call165 (zB eG zL) Z) jR (fun hs=>wBB p0 ai ak fK fy hs jc ct) (.inr Z) ?_
       rintro dL lW mF fL lM jS ⟨dD,dX,rfl,rfl⟩
       have jU:SW w [B8,B7,B9] U dL [.row dD dX 3 1 (hH KL.encI ba),aP,aQ,aR,.row bS bY 3 1 (hH KL.encI [(↑aa:Int)])] fL:=jS
       exact dx _ _ ⟨dL,dD,dX,bS,bY,gT,gU,gW,gX,gZ,g7,g8,g9,eG,rfl,ib,ic,(fj.trans lM),(jU.pick [1,2,3,0,4] _ (by decide) rfl)⟩
      refine Ze (s:=gAt) (M:=fun σ_ w_=>∃ (U_:PHeap) (bT:Option Addr) (bZ:Nat),σ_ 0=.slice ai p0.length ak/\σ_ 1=.pointer (some ⟨am,0,none⟩)/\σ_ 4=.pointer (some ⟨ap,0,none⟩)/\σ_ 5=.pointer (some ⟨aq,0,none⟩)/\σ_ 9=jV (↑aa:Int)/\σ_ 39=jV (↑p1.Squad.Classes.length:Int)/\σ_ 40=jV (↑aa:Int)/\σ_ 53=.func (.func 201) #[] #[.pointer (some ⟨am,0,none⟩),.pointer (some ⟨ah,0,none⟩),.pointer (some ⟨aj,0,none⟩),.pointer (some ⟨ap,0,none⟩),.pointer (some ⟨aq,0,none⟩)]/\σ_ 54=.slice ai p0.length ak/\σ_ 55=.slice bT ba.length bZ/\σ_ 56=jV (↑aa:Int)/\PHeap.Le aV U_/\SW w [B8,B7,B9] U U_ [aP,aQ,aR,.row bT bZ 3 1 (hH KL.encI ba)] w_) ?_ fun fe=>?_
      ·rintro mV md ⟨dM,bT,bZ,ie,ig,ii,ij,ik,il,im,io,ip,iq,eH,lN,jW⟩
       refine Zf (pv:=[(0,jV (↑aa:Int))]) (zs:=[jV 0]) (cs:=[jV (↑aa:Int)]) Z Z Z Z Z (wAR eH wBz) zA zC ZS Z Z Z Z Z jW ?_
       intro fN dR jY
       have j0:SW w [B8,B7,B9] U dM [.row (some ⟨dR,0,none⟩) 1 3 1 (hH KL.encI [(↑aa:Int)]),aP,aQ,aR,.row bT bZ 3 1 (hH KL.encI ba)] fN:=jY
       exact dx _ _ ⟨dM,bT,bZ,(some ⟨dR,0,none⟩),1,ie,ig,ii,ij,ik,il,im,io,ip,iq,eH,rfl,lN,(j0.pick [1,2,3,4,0] _ (by decide) rfl)⟩
      refine oM Z bh (oM Z Z (ZX ?_ ?_))
      ·have jd:=bG.le aT
       have je:=jd.le aU
       refine OKS.mx2 Z Z Z Z (bN.ldC (f:=0) je (v:=.func (.func 201) #[] #[.pointer (some ⟨am,0,none⟩),.pointer (some ⟨ah,0,none⟩),.pointer (some ⟨aj,0,none⟩),.pointer (some ⟨ap,0,none⟩),.pointer (some ⟨aq,0,none⟩)]) Z be Tryz.isAgg346 Z) (ZX ?_ ?_)
       ·have jf:=bB.le aT
        have jg:=jf.le aU
        refine zD 0 Z Z Z Z (zE Z Z Tryz.call165 (zB Z zL) Z) bN (fun hs=>wBB p0 ai ak dP aV hs jg ct) (.inr Z) ?_
        rintro dN lX mG fP lO j3 ⟨dE,dY,rfl,rfl⟩
        have j4:SW w [B8,B7,B9] U dN [.row dE dY 3 1 (hH KL.encI ba),aP,aQ,aR] fP:=j3
        exact fe _ _ ⟨dN,dE,dY,bh,bo,bp,be,rfl,bq,bi,rfl,rfl,rfl,rfl,lO,(j4.pick [1,2,3,0] _ (by decide) rfl)⟩
       ·refine Zf (pv:=[(0,jV (↑aa:Int))]) (zs:=[jV 0]) (cs:=[jV (↑aa:Int)]) Z Z Z Z Z (wAR Z wBz) zA zC ZS Z Z Z Z Z bN ?_
        intro fQ dS j6
        have j7:SW w [B8,B7,B9] U aV [.row (some ⟨dS,0,none⟩) 1 3 1 (hH KL.encI [(↑aa:Int)]),aP,aQ,aR] fQ:=j6
        exact fd _ _ ⟨aV,(some ⟨dS,0,none⟩),1,bh,bo,bp,be,rfl,bq,bi,rfl,rfl,rfl,rfl,(zX _),(j7.pick [1,2,3,0] _ (by decide) rfl)⟩
      refine ZX ?_ ?_
      ·have jh:=bB.le aT
       have ji:=jh.le aU
       refine zD 0 Z Z Z Z (zE Z Z Tryz.call165 (zB Z zL) Z) bN (fun hs=>wBB p0 ai ak dP aV hs ji ct) (.inr Z) ?_
       rintro cm lY mH fR dz j9 ⟨cE,df,rfl,rfl⟩
       let dG:Res:=.row cE df 3 1 (hH KL.encI ba)
       have dl:SW w [B8,B7,B9] U cm [dG,aP,aQ,aR] fR:=j9
       refine ZX ?_ ?_
       ·have jj:=bG.le aT
        have jk:=jj.le aU
        have jl:=jk.le dz
        exact OKS.mx2 rfl rfl rfl rfl (dl.ldC (f:=0) jl (v:=.func (.func 201) #[] #[.pointer (some ⟨am,0,none⟩),.pointer (some ⟨ah,0,none⟩),.pointer (some ⟨aj,0,none⟩),.pointer (some ⟨ap,0,none⟩),.pointer (some ⟨aq,0,none⟩)]) rfl be Tryz.isAgg346 rfl) (fe _ _ ⟨cm,cE,df,bh,bo,bp,be,rfl,bq,bi,rfl,rfl,rfl,rfl,dz,(dl.pick [1,2,3,0] _ (by decide) rfl)⟩)
       ·refine Zf (pv:=[(0,jV (↑aa:Int))]) (zs:=[jV 0]) (cs:=[jV (↑aa:Int)]) Z Z Z Z Z (wAR Z wBz) zA zC ZS Z Z Z Z Z dl ?_
        intro fS dT k9
        have lc:SW w [B8,B7,B9] U cm [.row (some ⟨dT,0,none⟩) 1 3 1 (hH KL.encI [(↑aa:Int)]),dG,aP,aQ,aR] fS:=k9
        exact fc _ _ ⟨cm,cE,df,(some ⟨dT,0,none⟩),1,bh,bo,bp,be,rfl,bq,bi,rfl,rfl,rfl,rfl,dz,(lc.pick [2,3,4,1,0] _ (by decide) rfl)⟩
      ·refine Zf (pv:=[(0,jV (↑aa:Int))]) (zs:=[jV 0]) (cs:=[jV (↑aa:Int)]) Z Z Z Z Z (wAR Z wBz) zA zC ZS Z Z Z Z Z bN ?_
       intro dQ cR lf
       let dH:Res:=.row (some ⟨cR,0,none⟩) 1 3 1 (hH KL.encI [(↑aa:Int)])
       have dm:SW w [B8,B7,B9] U aV [dH,aP,aQ,aR] dQ:=lf
       refine ZX ?_ ?_
       ·have jm:=bG.le aT
        have jo:=jm.le aU
        exact OKS.mx2 rfl rfl rfl rfl (dm.ldC (f:=0) jo (v:=.func (.func 201) #[] #[.pointer (some ⟨am,0,none⟩),.pointer (some ⟨ah,0,none⟩),.pointer (some ⟨aj,0,none⟩),.pointer (some ⟨ap,0,none⟩),.pointer (some ⟨aq,0,none⟩)]) rfl be Tryz.isAgg346 rfl) (fd _ _ ⟨aV,(some ⟨cR,0,none⟩),1,bh,bo,bp,be,rfl,bq,bi,rfl,rfl,rfl,rfl,(zX _),(dm.pick [1,2,3,0] _ (by decide) rfl)⟩)
       ·have jp:=bB.le aT
        have jq:=jp.le aU
        refine zD 0 Z Z Z Z (zE Z Z Tryz.call165 (zB Z zL) Z) dm (fun hs=>wBB p0 ai ak dQ aV hs jq ct) (.inr Z) ?_
        rintro dO lZ mI fT lP lg ⟨dF,dZ,rfl,rfl⟩
        have lh:SW w [B8,B7,B9] U dO [.row dF dZ 3 1 (hH KL.encI ba),dH,aP,aQ,aR] fT:=lg
        exact fc _ _ ⟨dO,dF,dZ,(some ⟨cR,0,none⟩),1,bh,bo,bp,be,rfl,bq,bi,rfl,rfl,rfl,rfl,lP,(lh.pick [2,3,4,0,1] _ (by decide) rfl)⟩
     ·intro cS lH
      refine zj (congrArg nA (nB.2 cS.out)) (ZQ (zq (zK (rR fL2 Z (oR Z (ZJ (zm Z bi Z) (congrArg (jV) dt.out)) (oM Z Z (zu ?_)))))))
      cases lH
      exact zK ⟨Z,⟨aV,bj,bA,Z,bh,bo,bp,be,bq,(aT.trans aU),eP,dk⟩⟩
   ·rintro mW mf ⟨fz,ft,fU,it,mp,mq,mr,ms,ir,mz,li,jr⟩
    have fV:Hid (¬ ((↑(((↑p1.Squad.Classes.length:Int):Int) - 0).toNat:Int) < (↑p1.Squad.Classes.length:Int))):=zM (wBb)
    refine sR fL1 Z (oR Z (ze Z it ir) (eN (zH (cF Z fV (ZO (zn (zn (ZK ?_))))))))
    cases eZ
    exact ⟨Z,_,(wPk),fz,_,li,ft,fU,Z,Z,jr⟩
end Go.Proofs.YtabadkdjndnliaaGreat
namespace Go.Proofs.YtabadkdjndnliaaGreat
open Go.KL
set_option maxHeartbeats 4000000
theorem wCW (p0:wAI) (aV:Option Addr) (aY:Nat) (aW:Option Addr) (aZ:Nat) (aX:Option Addr) (a0:Nat) (p1:Int) (w:World) (U:PHeap) (hS:St0 w U []) (cn:Sl U 1 aV aY p0.Squad.Classes.length (hH KL.encI p0.Squad.Classes)) (cp:SlR U wDX aW aZ p0.Squad.Times) (cq:Sl U 1 aX a0 p0.rules.Classes.length (hH KL.encI p0.rules.Classes)) {r:(List Int) × Int} (hm:wAd p0 p1=some r):Gv Tryz.prog 126 [.agg #[.slice aV p0.Squad.Classes.length aY,.slice aW p0.Squad.Times.length aZ,.slice aX p0.rules.Classes.length a0,jV p0.rules.Each,jV p0.rules.Laps,jV p0.rules.Spare,jV p0.rules.Loop,jV p0.rules.Unused],jV p1] w (wCQ w [] U (fun U_ L_ v=>∃ (A0:Option Addr) (c0:Nat),v=.tuple #[.slice A0 r.1.length c0,jV r.2]/\L_=[.row A0 c0 3 1 (hH KL.encI r.1)]/\(r.1=[]->A0=none))):=by
 unfold wAd at hm
 refine Gv.of Tryz.func126 Z Tryz.ntmps126 Tryz.results126 Z (sR gAv Z ?_)
 let B0:List Value:=[.slice aV p0.Squad.Classes.length aY,.slice aW p0.Squad.Times.length aZ,.slice aX p0.rules.Classes.length a0,jV p0.rules.Each,jV p0.rules.Laps,jV p0.rules.Spare,jV p0.rules.Loop,jV p0.rules.Unused]
 refine zy (cs:=B0) rfl rfl rfl rfl rfl rfl (by rfl) hS ?_
 intro W1 b2 bX
 have q:=bX.freeze (k:=0) rfl
 obtain ⟨U5,bh,aq,cj⟩:=q
 replace aq:=Cl.of aq
 have cm:sW w U U5 [] W1:=cj
 replace aq:Cl U5 b2 0 B0:=aq
 refine zy (cs:=[jV p1]) rfl rfl rfl rfl rfl rfl (by rfl) cm ?_
 intro bA aQ bQ
 have q:=bQ.freeze (k:=0) rfl
 obtain ⟨aP,aU,am,bR⟩:=q
 replace am:=Cl.of am
 have bS:sW w U aP [] bA:=bR
 replace am:Cl aP aQ 0 [jV p1]:=am
 refine oA Z Z (oA Z Z (eN (sR (.fx 0 .nil .stop) Z (ZG (cs:=[.slice none 0 0]) Z Z Z Z Z Tryz.zeroValue22 Z bS ?_))))
 intro ct ab bT
 refine eN (sR gAg Z (ZG (cs:=[jV 0]) Z Z Z Z Z ZS Z bT ?_))
 intro cu aj bU
 refine ZW (j:=0) (vs:=[jV 0]) Z Z Z Z bU Z Z Z Z zC (zY Z) Z Z Z ?_
 intro bB bV
 let B1:Res:=.blk aj 3 [jV 0]
 let B2:Res:=.blk ab 22 [.slice none 0 0]
 have bW:sW w U aP [B1,B2] bB:=bV
 refine eN (sR (.fx 0 .nil .stop) Z (ZG (cs:=[.nilFunc]) Z Z Z Z Z Tryz.zeroValue346 Z bW ?_))
 intro cw ak bY
 refine eN (sR gAh Z (oR Z (Runs.mkf Z zL (zB Z (zB Z (zB Z (zB Z (zB Z zL)))))) ?_))
 let B3:List Value:=[.func (.func 201) #[] #[.pointer (some ⟨b2,0,none⟩),.pointer (some ⟨ab,0,none⟩),.pointer (some ⟨aj,0,none⟩),.pointer (some ⟨aQ,0,none⟩),.pointer (some ⟨ak,0,none⟩)]]
 refine ZW (j:=0) (vs:=B3) Z Z Z Z bY Z Z Z Z Tryz.sizeOf346 (zY Z) Z Z Z ?_
 intro ai bZ
 have bs:sW w U aP [.blk ak 346 B3,B1,B2] ai:=bZ
 refine eN (sR gAh Z (oL Z (bs.ldB (j:=0) Z Z Z Tryz.isAgg346 (v:=.func (.func 201) #[] #[.pointer (some ⟨b2,0,none⟩),.pointer (some ⟨ab,0,none⟩),.pointer (some ⟨aj,0,none⟩),.pointer (some ⟨aQ,0,none⟩),.pointer (some ⟨ak,0,none⟩)]) Z) ?_))
 have q:=bs.freeze (k:=0) rfl
 obtain ⟨ah,au,ap,b5⟩:=q
 replace ap:=Cl.of ap
 have b8:sW w U ah [B1,B2] ai:=b5
 replace ap:Cl ah ak 0 B3:=ap
 have b9:=b8.nilrow 3 1
 let B4:Res:=.row none 0 3 1 (hH KL.encI ([]:List Int))
 let B5:Res:=.blk ab 22 [.slice none (([]:List Int).length) 0]
 have cb:sW w U ah [B4,B1,B5] ai:=b9
 have bC:=aq.le aU
 have bD:=bC.le au
 have bE:=cn.le bh
 have bF:=bE.le aU
 have bG:=bF.le au
 have bH:=cp.le bh
 have bI:=bH.le aU
 have bJ:=bI.le au
 have bK:=cq.le bh
 have bL:=bK.le aU
 have bM:=bL.le au
 have bN:=am.le au
 have q:=bnd hm
 obtain ⟨⟨bi,bw⟩,bO,bt⟩:=q
 try dsimp only at bt
 have cd:sW w U ah [B5,B4,B1] ai:=cb.pick [2,0,1] _ (by decide) rfl
 refine zD 3 rfl rfl rfl rfl (zE rfl rfl Tryz.call201 (zB rfl zL) rfl) cd (fun hs=>wEP 1000 [] none 0 p0 b2 aV aY aW aZ aX a0 ([]:List Int) ab none 0 0 aj p1 aQ () ak ai ah hs (by first | exact Sl.nil _ _ _ _ | exact SlR.nil) bD bG bJ bM (fun _=>rfl) bN ap bO) (.inl rfl) ?_
 rintro bq cr cz bg cy cf ⟨az,aS,rfl,rfl,bP⟩
 have cg:sW w U bq [.row az aS 3 1 (hH KL.encI bi),.blk ab 22 [.slice az bi.length aS],.blk aj 3 [jV bw]] bg:=cf
 refine eN (zH (ZM ZI [1,1,3,3] fL4 (by kernel_rfl) ?_))
 have aT:=cg.drew
 generalize hw_W74:({ bg with drawn:=bg.drawn + 1 }:World)=cx at aT ⊢
 refine oL Z (aT.ldB (j:=1) Z Z Z zR (v:=.slice az bi.length aS) Z) (oL Z (aT.ldB (j:=2) Z Z Z zN (v:=jV bw) Z) (oA Z Z (oA Z Z (eN (zI ?_)))))
 cases bt
 exact ⟨rfl,_,(wDk rfl rfl),bq,_,(aT.pick [0] _ (by decide) rfl),az,aS,rfl,rfl,bP⟩
theorem wJJ (p0:wAA) (am:Option Addr) (aq:Nat) (p1:wAB) (ai:Option Addr) (aj:Nat) (ap:Option Addr) (au:Nat) (p2:Int) (w:World) (U:PHeap) (hS:St0 w U []) (bF:Sl U 1 am aq p0.Classes.length (hH KL.encI p0.Classes)) (bG:Sl U 1 ai aj p1.Classes.length (hH KL.encI p1.Classes)) (bH:SlR U wDX ap au p1.Times) {r:Int × Int} (hm:wCv p0 p1 p2=some r):Gv Tryz.prog 46 [.agg #[.slice am p0.Classes.length aq,jV p0.Each,jV p0.Laps,jV p0.Spare,jV p0.Loop,jV p0.Unused],.agg #[.slice ai p1.Classes.length aj,.slice ap p1.Times.length au],jV p2] w (wCQ w [] U (fun U_ L_ v=>v=.tuple #[jV r.1,jV r.2]/\L_=[])):=by
 unfold wCv at hm
 refine Gv.of Tryz.func46 Z Tryz.ntmps46 Tryz.results46 Z (sR gAv Z ?_)
 let B0:List Value:=[.slice am p0.Classes.length aq,jV p0.Each,jV p0.Laps,jV p0.Spare,jV p0.Loop,jV p0.Unused]
 refine zy (cs:=B0) rfl rfl rfl rfl rfl rfl (by rfl) hS ?_
 intro W1 b2 cf
 let B1:List Value:=[.slice ai p1.Classes.length aj,.slice ap p1.Times.length au]
 refine zy (cs:=B1) rfl rfl rfl rfl rfl rfl (by rfl) cf ?_
 intro W5 b6 bb
 refine oA Z Z (oA Z Z (eN (sR gAw Z (oL Z (bb.ldBA (j:=1) Z Z Z ZC zr (vs:=B0) Z Z) (oL Z (bb.ldBA (j:=0) Z Z Z ZF zw (vs:=B1) Z Z) (bnK hm fun x9 bR cp=>zD 0 Z Z Z Z (zE Z Z Tryz.call40 (zB Z (zB Z zL)) Z) bb (fun hs=>wBx p0 am aq p1 ai aj ap au W5 U hs bF bG bH bR) (.inr Z) ?_))))))
 rintro aV cz cK br bg cb ⟨rfl,rfl⟩
 have ba:sW w U aV [.blk b6 93 B1,.blk b2 24 B0] br:=cb
 refine oA Z Z (eN (zH (zZ (sR fL3 Z (oM Z Z (oR Z (ZE Z Z Z) (oA Z Z (eN (ifc cp ?_ ?_)))))))))
 intro aY cq
 refine zj (zt (fun h=>h aY.out)) (sR (wFk (.fx 5 gAe .stop)) Z (oM Z Z (oR Z (zS Z Z zg Z zP) (oL Z (ba.ldB (j:=0) Z Z Z zR (v:=.slice ai p1.Classes.length aj) Z) (oR Z (zU Z Z zA) (oR Z (Za Z Z Z) (bnK cq fun x21 bS cr=>zD 0 Z Z Z Z (zE Z Z Zq (zB Z (zB Z (zB Z zL))) Z) ba (fun hs=>wCa p2 0 (w64 ((↑p1.Classes.length:Int) - 1)) br aV hs bS) (.inr Z) ?_)))))))
 rintro aQ cA cL bM bh cd ⟨rfl,rfl⟩
 have aR:sW w U aQ [.blk b6 93 B1,.blk b2 24 B0] bM:=cd
 refine oR Z (ZR Z Z) (oA Z Z (eN (ifc cr ?_ ?_)))
 intro aZ ct
 refine zj (nC aZ.out) (ZQ (zq (zK (sR (wDT gAm) Z (oL Z (aR.ldBA (j:=0) Z Z Z ZF zw (vs:=B1) Z Z) (oL Z (aR.ldBA (j:=1) Z Z Z ZC zr (vs:=B0) Z Z) ?_))))))
 let B2:List Value:=[.slice ai p1.Classes.length aj,.slice ap p1.Times.length au,.slice am p0.Classes.length aq,jV p0.Each,jV p0.Laps,jV p0.Spare,jV p0.Loop,jV p0.Unused]
 let B3:List Value:=[.slice none 0 0,.slice none 0 0,.slice none 0 0,jV 0,jV 0,jV 0,jV 0,jV 0]
 refine oR Z (Zm (pv:=[(0,.agg B1.toArray),(1,.agg B0.toArray)]) (z:=B3) (cs:=B2) Z (wAR Z (wAR Z wBz)) Zd wEM Z Z) (ZG (cs:=B3) Z Z Z Z Z Zd Z aR ?_)
 intro cE aX cg
 refine ZW (j:=0) (vs:=B2) Z Z Z Z cg Z Z Z Z Zc (zY Z) Z Z Z ?_
 intro bs cj
 have bD:sW w U aQ [.blk aX 249 B2,.blk b6 93 B1,.blk b2 24 B0] bs:=cj
 refine eN (sR (.fl 0 (.fx 1 (fC2_6 (.nil)) .stop)) Z (oL Z (bD.ldBA (j:=0) Z Z Z Zs Zc (vs:=B2) Z Z) ?_))
 have bT:=bG.le bg
 have bA:=bT.le bh
 have bU:=bH.le bg
 have bB:=bU.le bh
 have bV:=bF.le bg
 have bC:=bV.le bh
 have q:=bnd ct
 obtain ⟨⟨x46,bK⟩,bW,bI⟩:=q
 try dsimp only at bI
 refine zD 0 Z Z Z Z (zE Z Z Tryz.call126 (zB Z (zB Z zL)) Z) bD (fun hs=>wCW (⟨p1,p0⟩:wAI) ai aj ap au am aq (-1) bs aQ hs bA bB bC bW) (.inr Z) ?_
 rintro bq cB cM bt bi cm ⟨bm,bw,rfl,rfl,cI⟩
 let B4:Res:=.row bm bw 3 1 (hH KL.encI x46)
 have bE:sW w U bq [B4,.blk aX 249 B2,.blk b6 93 B1,.blk b2 24 B0] bt:=cm
 refine oM Z Z (oR Z (ZB Z Z (v:=.slice bm x46.length bw) Z) (oR Z (ZB Z Z (v:=jV bK) Z) (oA Z Z (oA Z Z (eN (sR (.fl 0 (.fl 1 (.fx 2 (wPD (.nil)) .stop))) Z (oL Z (bE.ldBA (j:=1) Z Z Z Zs Zc (vs:=B2) Z Z) (oM Z Z ?_))))))))
 have bX:=bA.le bi
 have bY:=bB.le bi
 have bZ:=bC.le bi
 have q:=bnd bI
 obtain ⟨⟨bj,bL⟩,b5,bJ⟩:=q
 try dsimp only at bJ
 refine zD 0 Z Z Z Z (zE Z Z Tryz.call126 (zB Z (zB Z zL)) Z) bE (fun hs=>wCW (⟨p1,p0⟩:wAI) ai aj ap au am aq p2 bt bq hs bX bY bZ b5) (.inr Z) ?_
 rintro aW cC cN bO cJ cn ⟨aU,bz,rfl,rfl,b8⟩
 have be:sW w U aW [.row aU bz 3 1 (hH KL.encI bj),B4,.blk aX 249 B2,.blk b6 93 B1,.blk b2 24 B0] bO:=cn
 refine oM Z Z (oR Z (ZB Z Z (v:=.slice aU bj.length bz) Z) (oR Z (ZB Z Z (v:=jV bL) Z) (oA Z Z (oA Z Z (eN (zH (sR fL2 Z (oM Z Z ?_))))))))
 have b9:aU.isNone=decide (bj=[]):=wJg (j:=0) be rfl (fun _=>rfl) (by decide) b8
 refine oR Z (Runs.eqNilR Z Z Z zA b9) (eN (ifc bJ ?_ ?_))
 intro a0 cu
 refine cT Z a0 (sR fL2 Z (oA Z Z (oA Z Z (eN (zI (zJ ?_))))))
 cases cu
 exact ⟨rfl,_,(wDk rfl rfl),aW,_,(be.pick [] _ (by decide) rfl),rfl,rfl⟩
 intro a0 cw
 refine cF Z a0 (kN (zH (CK.fresh fun aT aP=>?_)))
 have cG:aT 6=jV 0:=(aP 6).trans rfl
 have cH:aT 7=jV 0:=(aP 7).trans rfl
 have bP:aT 11=jV bK:=(aP 11).trans rfl
 have bQ:aT 13=jV bL:=(aP 13).trans rfl
 clear aP
 refine rR fL5 Z (oM Z bQ (oM Z bP (oR Z (Za Z Z Z) (oA Z Z (oA Z Z (eN (zI ?_)))))))
 cases cw
 exact ⟨rfl,_,(wDk rfl rfl),aW,_,(be.pick [] _ (by decide) rfl),rfl,rfl⟩
 intro aZ cx
 refine zp (nF (aZ.out)) (sR fL2 Z (oA Z Z (oA Z Z (eN (zI (zh (zJ ?_)))))))
 cases cx
 exact ⟨rfl,_,(wDk rfl rfl),aQ,_,(aR.pick [] _ (by decide) rfl),rfl,rfl⟩
 intro aY cy
 refine cT Z aY (sR fL3 Z (oM Z Z (oA Z Z (oA Z Z (eN (zI (zh (zJ ?_))))))))
 cases cy
 exact ⟨rfl,_,(wDk rfl rfl),aV,_,(ba.pick [] _ (by decide) rfl),rfl,rfl⟩
theorem wCX (p0:wAD) (bp:Option Addr) (bq:Nat) (p1:wAC) (bh:Option Addr) (bi:Nat) (bJ:Option Addr) (bK:Nat) (p2:Int) (w:World) (U:PHeap) (hS:St0 w U []) (d6:Sl U 1 bp bq p0.Classes.length (hH KL.encI p0.Classes)) (d7:Sl U 1 bh bi p1.Classes.length (hH KL.encI p1.Classes)) (d8:SlR U wDX bJ bK p1.Times) {r:(List Int) × Int} (hm:wAr p0 p1 p2=some r):Gv Tryz.prog 127 [.agg #[.slice bp p0.Classes.length bq,jV p0.Each,jV p0.Laps,jV p0.Spare,jV p0.Loop,jV p0.Unused],.agg #[.slice bh p1.Classes.length bi,.slice bJ p1.Times.length bK],jV p2] w (wCQ w [] U (fun U_ L_ v=>∃ (A0:Option Addr) (c0:Nat),v=.tuple #[.slice A0 r.1.length c0,jV r.2]/\L_=[]/\Sl U_ 1 A0 c0 r.1.length (hH KL.encI r.1))):=by
 unfold wAr at hm
 refine Gv.of Tryz.func127 Z Tryz.ntmps127 Tryz.results127 Z (sR gAv Z ?_)
 let B0:List Value:=[.slice bp p0.Classes.length bq,jV p0.Each,jV p0.Laps,jV p0.Spare,jV p0.Loop,jV p0.Unused]
 refine zy (cs:=B0) rfl rfl rfl rfl rfl rfl (by rfl) hS ?_
 intro W1 b2 dW
 let B1:List Value:=[.slice bh p1.Classes.length bi,.slice bJ p1.Times.length bK]
 refine zy (cs:=B1) rfl rfl rfl rfl rfl rfl (by rfl) dW ?_
 intro W5 b6 dX
 refine oA Z Z (oA Z Z (eN (sR fL1 Z (oA Z Z (eN (zH (sR fL1 Z (oA Z Z (eN (zZ (CK.iter (fun (aW,bY) σ_ w_=>∃ (U_:PHeap),σ_ 2=jV p2/\σ_ 3=.pointer (some ⟨b2,0,none⟩)/\σ_ 4=.pointer (some ⟨b6,0,none⟩)/\σ_ 8=jV aW/\σ_ 9=jV bY/\PHeap.Le U U_/\sW w U U_ [.blk b6 98 B1,.blk b2 31 B0] w_) hm ?_ ?_)))))))))))
 exact ⟨U,Z,Z,Z,Z,Z,(zX _),dX⟩
 rintro ⟨aW,bY⟩ fw fC fb ⟨bM,cm,bO,bP,cn,cp,bH,bG⟩ bW ed
 try dsimp only at bW
 refine zH (sR fL5 Z (oM Z cp (oR Z (zS Z bO ZD Z zP) (oL Z (bG.ldB (j:=1) Z Z Z zR (v:=.slice bp p0.Classes.length bq) Z) (oR Z (zU Z Z zA) (oR Z (ze Z Z Z) (eN ?_)))))))
 by_cases aT:bY < (↑p0.Classes.length:Int)
 have cy:=bW;rw [if_pos aT] at cy;replace aT:=zM aT
 refine cT Z aT (kN (zH (zZ (rR fL6 Z (oM Z cn (oR Z (zS Z bP zx Z zP) (oL Z (bG.ldB (j:=0) Z Z Z zR (v:=.slice bh p1.Classes.length bi) Z) (oR Z (zU Z Z zA) (oR Z (Runs.mulw Z Z Z) (oA Z Z (zu (zq (zK (rR fL3 Z (oM Z cp (oR Z (zm Z Z Z) (oA Z Z (zu ?_))))))))))))))))))
 have q:=nD cy
 obtain rfl:=q
 exact zK ⟨Z,_,Z,⟨bM,cm,bO,bP,Z,Z,bH,bG⟩⟩
 have cz:=bW;rw [if_neg aT] at cz;replace aT:=zM aT
 refine cF Z aT (ZO (zn ?_))
 have q:=wAp cz
 obtain ⟨eY,eT,cN⟩:=q
 have q:=ed eY cN
 obtain rfl:=q
 refine zn (ZK (zK (sR fL1 Z (oA Z Z (eN (sR fL1 Z (oA Z Z (eN (zH (sR fL1 Z (oA Z Z (eN (zZ ?_)))))))))))))
 have q:=bnd eT
 obtain ⟨⟨fz,fA⟩,ef,cA⟩:=q
 try dsimp only at cA
 have q:=wCq ef
 obtain ⟨bT,eh⟩:=q
 replace bT:=zM bT
 refine CK.forN' (fun bg (bz,bZ) σ_ w_=>∃ (U_:PHeap) (aX:Option Addr) (aZ:Nat),σ_ 12=jV (↑bg:Int)/\σ_ 2=jV p2/\σ_ 3=.pointer (some ⟨b2,0,none⟩)/\σ_ 4=.pointer (some ⟨b6,0,none⟩)/\σ_ 8=jV aW/\σ_ 10=.slice aX bz.length aZ/\σ_ 11=jV bZ/\PHeap.Le bM U_/\sW w U U_ [.blk b6 98 B1,.blk b2 31 B0] w_/\Sl U_ 1 aX aZ bz.length (hH KL.encI bz)) eh ?_ ?_ ?_
 exact ⟨bM,none,0,rfl,cm,bO,bP,cn,rfl,rfl,(zX _),bG,(by first | exact Sl.nil _ _ _ _ | exact SlR.nil)⟩
 rintro bg ⟨bz,bZ⟩ fy fG ff bS ⟨bB,aX,aZ,bQ,cZ,cq,de,cr,df,dg,bI,cu,bR⟩ cC
 try dsimp only at cC
 have cf:Hid ((↑bg:Int) < aW):=zM (wCE bS)
 replace bS:=zM bS
 have eA:Hid (w64 ((↑bg:Int) + 1)=(↑(bg + 1):Int)):=zM (by have h1:=bT.out;have h2:=cf.out;rw [wAa] <;> omega)
 refine zH (sR fL3 Z (oM Z bQ (oM Z cr (oR Z (ze Z Z Z) (eN (cT Z cf (kN ?_)))))))
 have q:=bnd cC
 obtain ⟨⟨bX,x87⟩,eV,cB⟩:=q
 try dsimp only at cB
 refine CK.cut (fun σ_ w_=>∃ (U_:PHeap) (bA:Option Addr) (bC:Nat),σ_ 2=jV p2/\σ_ 3=.pointer (some ⟨b2,0,none⟩)/\σ_ 4=.pointer (some ⟨b6,0,none⟩)/\σ_ 8=jV aW/\σ_ 10=.slice bA bX.length bC/\σ_ 11=jV x87/\σ_ 12=jV (↑bg:Int)/\PHeap.Le bB U_/\sW w U U_ [.blk b6 98 B1,.blk b2 31 B0] w_/\Sl U_ 1 bA bC bX.length (hH KL.encI bX)) ?_ ?_
 refine zZ (sR (wDT gAl) Z (oR Z (zS Z cq ZD Z zP) (oL Z (cu.ldB (j:=1) Z Z Z zR (v:=.slice bp p0.Classes.length bq) Z) (oR Z (zU Z Z zA) (bnK eV fun ah dP eU=>Zb (enc:=KL.encI) (z:=(0:Int)) (v:=jV 0) Z Z Z Z Z (wEG zA) wDz Z Z Z Z Z Z dP cu ?_)))))
 intro cJ ai dY
 have dZ:sW w U bB [.row (some ⟨ai,0,none⟩) ah.length 3 1 (hH KL.encI ah),.blk b6 98 B1,.blk b2 31 B0] cJ:=dY
 refine oA Z Z (eN (sR fL2 Z (oM Z bQ (oA Z Z (eN (sR fL1 Z (oA Z Z (eN (zH (sR fL4 Z (oM Z Z (oR Z (zU Z Z zA) (oR Z (Za Z Z Z) (oA Z Z (eN (zZ (CK.iter (fun (ab,x112,cb,x114) σ_ w_=>∃ (U_:PHeap),σ_ 2=jV p2/\σ_ 3=.pointer (some ⟨b2,0,none⟩)/\σ_ 4=.pointer (some ⟨b6,0,none⟩)/\σ_ 8=jV aW/\σ_ 10=.slice aX bz.length aZ/\σ_ 11=jV bZ/\σ_ 12=jV (↑bg:Int)/\σ_ 13=.slice (some ⟨ai,0,none⟩) ab.length ah.length/\σ_ 14=jV x112/\σ_ 15=.bool cb/\σ_ 16=jV x114/\PHeap.Le bB U_/\sW w U U_ [.blk b6 98 B1,.blk b2 31 B0,.row (some ⟨ai,0,none⟩) ah.length 3 1 (hH KL.encI ab)] w_/\ab.length=ah.length) eU ?_ ?_)))))))))))))))))
 exact ⟨bB,cZ,cq,de,cr,df,dg,bQ,rfl,rfl,rfl,rfl,(zX _),(dZ.pick [1,2,0] _ (by decide) rfl),rfl⟩
 rintro ⟨ab,x112,cb,x114⟩ fu fB b9 ⟨bL,aU,aV,aP,a0,br,ba,bb,be,cg,cj,bs,ak,bt,ct⟩ bV d9
 try dsimp only at bV
 refine zH (sR fL2 Z (oM Z bs (oR Z (Runs.geq Z Z Z) (eN ?_))))
 by_cases aS:0 <= x114
 have cw:=bV;rw [if_pos aS] at cw;replace aS:=zM aS
 refine cT Z aS (kN (zH (zZ (sR (wOL (.fx 8 .nil .stop)) Z (oM Z be (oM Z bs (oM Z cg (oR Z (zS Z aP zx Z zP) (oL Z (bt.ldB (j:=0) Z Z Z zR (v:=.slice bh p1.Classes.length bi) Z) (oR Z (zU Z Z zA) (bnK cw fun bj dk eC=>oR Z (Runs.rem Z Z Z dk) (bnK eC fun _ bD eD=>oR Z (Runs.iaI Z Z Z Z zA zC (wEE bD) (wEF bD)) ?_))))))))))))
 have ey:=wCi (xs:=ab) (wAW bD)
 refine OKS.stR (j:=2) (vs:=[jV bj]) (cs':=hH KL.encI (nK ab x114.toNat bj)) rfl rfl rfl rfl bt rfl rfl rfl rfl rfl zC (by rw [wAH (f:=KL.encI) (sz:=1) (fun _=>rfl)];have hz:=wAW bD;show _ + 1 <= _;first | omega | (simp only [nJ];omega) | (simp only [nO,nL,nM];omega)) rfl (wJd (sz:=1) (fo:=0) (fun _=>rfl) _ _ _ _ ey (by first | omega | (simp only [nJ];omega) | (simp only [nO,nL,nM];omega)) (zY rfl) rfl) rfl ?_
 intro cH dQ
 have bF:sW w U bL [.blk b6 98 B1,.blk b2 31 B0,.row (some ⟨ai,0,none⟩) ah.length 3 1 (hH KL.encI (nK ab x114.toNat bj))] cH:=dQ
 refine eN (sR fL6 Z (oM Z cg (oR Z (zS Z aP zx Z zP) (oL Z (bF.ldB (j:=0) Z Z Z zR (v:=.slice bh p1.Classes.length bi) Z) (oR Z (zU Z Z zA) (bnK eD fun ft dl eE=>oR Z (Runs.quo Z Z Z dl) (oA Z Z (eN (rR fL10 Z (oM Z cj (oM Z Z (ifc eE ?_ ?_))))))))))))
 intro ae eF
 refine zf rfl rfl rfl (zG rfl rfl (congrArg nA ae.out)) rfl (Eq.trans (b:=(.slice (some ⟨ai,0,none⟩) ab.length ah.length:Value)) (c:=(.slice (some ⟨ai,0,none⟩) ((nK ab x114.toNat bj).length) ah.length:Value)) be (by simp only [nG])) (zf rfl rfl rfl (zG rfl rfl (congrArg nA ae.out)) rfl bs (bnK eF fun _ bE eG=>zi rfl rfl rfl (zG rfl rfl (congrArg nA ae.out)) (fun _=>Runs.iaI rfl rfl rfl rfl zA zC (wEE bE) (wEF bE)) ?_))
 have ez:=wCi (xs:=(nK ab x114.toNat bj)) (by first | exact wAW bE | (have hz:=wAW bE;simpa only [nG] using hz))
 refine zz rfl rfl rfl (zG rfl rfl (congrArg nA ae.out)) (bF.ldR (j:=2) rfl rfl rfl rfl zN (wAh (sz:=1) (fun _=>rfl) _ _ 0 _ ez (by first | omega | rfl | simp) rfl)) rfl (zf rfl rfl rfl (zG rfl rfl (congrArg nA ae.out)) rfl aU (zi rfl rfl rfl (zG rfl rfl (congrArg nA ae.out)) (fun _=>ZE rfl rfl rfl) (zi rfl rfl rfl rfl (fun _=>zQ rfl (congrArg nA ae.out) rfl) (OKS.ra rfl rfl rfl rfl rfl rfl (zu (zq (zK (rR fL3 rfl (zf rfl rfl rfl rfl rfl bs (zi rfl rfl rfl rfl (fun _=>Za rfl rfl rfl) (OKS.ra rfl rfl rfl rfl rfl rfl (zu ?_))))))))))))
 have q:=nD eG
 obtain rfl:=q
 exact zK ⟨rfl,_,rfl,⟨bL,aU,aV,aP,a0,br,ba,bb,(Eq.trans (b:=(.slice (some ⟨ai,0,none⟩) ab.length ah.length:Value)) (c:=(.slice (some ⟨ai,0,none⟩) ((nK ab x114.toNat bj).length) ah.length:Value)) be (by simp only [nG])),rfl,rfl,rfl,ak,bF,(nG.trans ct)⟩⟩
 intro ae eH
 refine zV Z Z Z (zF Z Z (congrArg nA (nB.2 ae.out)) Z) (zV Z Z Z (zF Z Z (congrArg nA (nB.2 ae.out)) Z) (zV Z Z Z (zF Z Z (congrArg nA (nB.2 ae.out)) Z) (zV Z Z Z (zF Z Z (congrArg nA (nB.2 ae.out)) Z) (zV Z Z Z (zF Z Z (congrArg nA (nB.2 ae.out)) Z) (zV Z Z Z (zF Z Z (congrArg nA (nB.2 ae.out)) Z) (oR Z (zO Z (congrArg nA (nB.2 ae.out)) Z) (oA Z Z (zu (zq (zK (rR fL3 Z (oM Z bs (oR Z (Za Z Z Z) (oA Z Z (zu ?_)))))))))))))))
 have q:=nD eH
 obtain rfl:=q
 exact zK ⟨rfl,_,rfl,⟨bL,aU,aV,aP,a0,br,ba,bb,(Eq.trans (b:=(.slice (some ⟨ai,0,none⟩) ab.length ah.length:Value)) (c:=(.slice (some ⟨ai,0,none⟩) ((nK ab x114.toNat bj).length) ah.length:Value)) be (by simp only [nG])),rfl,rfl,rfl,ak,bF,(nG.trans ct)⟩⟩
 have cx:=bV;rw [if_neg aS] at cx;replace aS:=zM aS
 refine cF Z aS (ZO (zn ?_))
 have q:=wAp cx
 obtain ⟨eX,eI,cM⟩:=q
 have q:=d9 eX cM
 obtain rfl:=q
 refine zn (ZK (zK (sR (wDT gAl) Z (oL Z (bt.ldBA (j:=1) Z Z aV ZU ZP (vs:=B0) Z Z) (oL Z (bt.ldBA (j:=0) Z Z aP ZT ZN (vs:=B1) Z Z) (oM Z be ?_))))))
 have q:=bt.freezeR (k:=2) (n:=ab.length) rfl (wAH (f:=KL.encI) (sz:=1) (fun _=>rfl) ab) (by decide)
 obtain ⟨b8,au,bU,dR⟩:=q
 have dS:sW w U b8 [.blk b6 98 B1,.blk b2 31 B0] b9:=dR
 have dm:=d6.le bH
 have dp:=dm.le bI
 have dq:=dp.le ak
 have dr:=dq.le au
 have dt:=d7.le bH
 have du:=dt.le bI
 have dv:=du.le ak
 have dw:=dv.le au
 have dx:=d8.le bH
 have dy:=dx.le bI
 have dz:=dy.le ak
 have dA:=dz.le au
 refine bnK eI fun x186 dB eJ=>zD 0 Z Z Z Z (zE Z Z Tryz.call121 (zB Z (zB Z (zB Z zL))) Z) dS (fun hs=>wDE p0 bp bq p1 bh bi bJ bK ab (some ⟨ai,0,none⟩) ah.length b9 b8 hs dr dw dA bU dB) (.inr Z) ?_
 rintro bm eZ fq cI aQ dT ⟨rfl,rfl⟩
 have bw:sW w U bm [.blk b6 98 B1,.blk b2 31 B0] cI:=dT
 refine oA Z Z (eN (sR fL14 Z (oM Z cj (oM Z Z (ifc eJ ?_ ?_)))))
 intro aY eK
 refine zf Z Z Z (zG Z Z (congrArg nA aY.out)) Z Z (zi Z Z Z (zG Z Z (congrArg nA aY.out)) (fun _=>Runs.geq Z Z Z) (oR Z (zQ Z (congrArg nA aY.out) Z) (oM Z Z (ifc eK ?_ ?_))))
 intro aj eL
 refine zf Z Z Z (wT Z aj) Z ba (rU Z (wT Z aj) (ze Z Z Z) (zf Z Z Z (wT Z aj) Z Z (ifc eL ?_ ?_)))
 intro aR eM
 refine oT Z aR (oT Z aR (oT Z aR (rU Z (wT Z aj) (zQ Z (Zi aR.out) Z) (oR Z (zQ Z (Zi aj.out) Z) (eN (zp Z (rR fL4 Z (oM Z be (oM Z Z (oA Z Z (oA Z Z (zu (zq ?_)))))))))))))
 cases eM
 have dC:=bU.le aQ
 exact zK ⟨Z,⟨bm,(some ⟨ai,0,none⟩),ah.length,aU,aV,aP,a0,Z,Z,bb,((ak.trans au).trans aQ),bw,dC⟩⟩
 intro aR eO
 refine zf Z Z Z (wF Z aR) Z Z (zf Z Z Z (wF Z aR) Z ba (rU Z (wF Z aR) (ze Z Z Z) (rU Z (wT Z aj) (zO Z (zt aR.out) Z) (oR Z (zQ Z (Zi aj.out) Z) (eN (ifc eO ?_ ?_))))))
 intro bN eP
 refine cT Z bN (rR fL4 Z (oM Z be (oM Z Z (oA Z Z (oA Z Z (zu (zq ?_)))))))
 cases eP
 have dD:=bU.le aQ
 exact zK ⟨Z,⟨bm,(some ⟨ai,0,none⟩),ah.length,aU,aV,aP,a0,Z,Z,bb,((ak.trans au).trans aQ),bw,dD⟩⟩
 intro bN eQ
 refine cF Z bN (ZQ (zq ?_))
 cases eQ
 have dE:=bR.le ak
 have dF:=dE.le au
 have dG:=dF.le aQ
 exact zK ⟨Z,⟨bm,aX,aZ,aU,aV,aP,a0,br,ba,bb,((ak.trans au).trans aQ),bw,dG⟩⟩
 intro aj eR
 refine oF Z aj (oF Z aj (oF Z aj (zV Z Z Z (wAu Z Z Z) (zV Z Z Z (wAu Z Z Z) (zV Z Z Z (wAu Z Z Z) (oF Z aj (oR Z (zO Z (zt aj.out) Z) (eN (zj Z (ZQ (zq ?_)))))))))))
 cases eR
 have dH:=bR.le ak
 have dI:=dH.le au
 have dJ:=dI.le aQ
 exact zK ⟨Z,⟨bm,aX,aZ,aU,aV,aP,a0,br,ba,bb,((ak.trans au).trans aQ),bw,dJ⟩⟩
 intro aY eS
 refine zV Z Z Z (zF Z Z (congrArg nA (nB.2 aY.out)) Z) (zV Z Z Z (zF Z Z (congrArg nA (nB.2 aY.out)) Z) (oR Z (zO Z (congrArg nA (nB.2 aY.out)) Z) (oM Z Z (oN Z (oN Z (oN Z (zV Z Z Z (wAu Z Z Z) (zV Z Z Z (wAu Z Z Z) (zV Z Z Z (wAu Z Z Z) (oN Z (oR Z (zO Z Z Z) (eN (zj Z (ZQ (zq ?_)))))))))))))))
 cases eS
 have dK:=bR.le ak
 have dL:=dK.le au
 have dM:=dL.le aQ
 exact zK ⟨Z,⟨bm,aX,aZ,aU,aV,aP,a0,br,ba,bb,((ak.trans au).trans aQ),bw,dM⟩⟩
 rintro fD fc ⟨cE,bA,bC,cO,cP,cQ,cR,cS,cU,cV,eW,dU,dN⟩
 refine rR fL3 Z (oM Z cV (oR Z (ZJ (zm Z Z Z) (congrArg (jV) eA.out)) (oA Z Z (zu ?_))))
 cases cB
 exact zK ⟨Z,⟨cE,bA,bC,Z,cO,cP,cQ,cR,cS,cU,(bI.trans eW),dU,dN⟩⟩
 rintro fE fd ⟨cG,cD,cK,dh,fg,fh,fj,cW,cX,cY,fm,dV,dO⟩
 have cL:Hid (¬ ((↑((aW:Int) - 0).toNat:Int) < aW)):=zM (wBb)
 refine zH (sR fL3 Z (oM Z dh (oM Z cW (oR Z (ze Z Z Z) (eN (cF Z cL (ZO (zn (zn (ZK (zK (sR fL4 Z (oM Z cX (oM Z cY (oA Z Z (oA Z Z (eN (zI ?_))))))))))))))))))
 cases cA
 exact ⟨rfl,_,(wDk rfl rfl),cG,_,(dV.pick [] _ (by decide) rfl),cD,cK,rfl,rfl,dO⟩
theorem wEu (p0:wAD) (ak:Option Addr) (ap:Nat) (p1:wAC) (ai:Option Addr) (aj:Nat) (am:Option Addr) (aq:Nat) (p2:Int) (w:World) (U:PHeap) (hS:St0 w U []) (bp:Sl U 1 ak ap p0.Classes.length (hH KL.encI p0.Classes)) (bq:Sl U 1 ai aj p1.Classes.length (hH KL.encI p1.Classes)) (br:SlR U wDX am aq p1.Times) {r:Int × Int} (hm:wBp p0 p1 p2=some r):Gv Tryz.prog 47 [.agg #[.slice ak p0.Classes.length ap,jV p0.Each,jV p0.Laps,jV p0.Spare,jV p0.Loop,jV p0.Unused],.agg #[.slice ai p1.Classes.length aj,.slice am p1.Times.length aq],jV p2] w (wCQ w [] U (fun U_ L_ v=>v=.tuple #[jV r.1,jV r.2]/\L_=[])):=by
 unfold wBp at hm
 refine Gv.of Tryz.func47 Z Tryz.ntmps47 Tryz.results47 Z (sR gAv Z ?_)
 let B0:List Value:=[.slice ak p0.Classes.length ap,jV p0.Each,jV p0.Laps,jV p0.Spare,jV p0.Loop,jV p0.Unused]
 refine zy (cs:=B0) rfl rfl rfl rfl rfl rfl (by rfl) hS ?_
 intro W1 b2 bQ
 let B1:List Value:=[.slice ai p1.Classes.length aj,.slice am p1.Times.length aq]
 refine zy (cs:=B1) rfl rfl rfl rfl rfl rfl (by rfl) bQ ?_
 intro W5 b6 aY
 refine oA Z Z (oA Z Z (eN (zH (sR gAw Z (oL Z (aY.ldBA (j:=1) Z Z Z ZU ZP (vs:=B0) Z Z) (oL Z (aY.ldBA (j:=0) Z Z Z ZT ZN (vs:=B1) Z Z) (bnK hm fun x9 bE bT=>zD 0 Z Z Z Z (zE Z Z Tryz.call41 (zB Z (zB Z zL)) Z) aY (fun hs=>wBG p0 ak ap p1 ai aj am aq W5 U hs bp bq br bE) (.inr Z) ?_)))))))
 rintro aQ cd cr be aZ bO ⟨rfl,rfl⟩
 have aW:sW w U aQ [.blk b6 98 B1,.blk b2 31 B0] be:=bO
 refine oA Z Z (eN (sR fL2 Z (oM Z Z (oR Z (ZE Z Z Z) (eN (ifc bT ?_ ?_))))))
 intro aT bU
 refine zj (zt (fun h=>h aT.out)) (kN (zH (sR (wFk (.fx 5 .nil .stop)) Z (oM Z Z (oR Z (zS Z Z zx Z zP) (oL Z (aW.ldB (j:=0) Z Z Z zR (v:=.slice ai p1.Classes.length aj) Z) (oR Z (zU Z Z zA) (oR Z (Za Z Z Z) (bnK bU fun x21 bF bV=>zD 0 Z Z Z Z (zE Z Z ZY (zB Z (zB Z (zB Z zL))) Z) aW (fun hs=>wAN p2 0 (w64 ((↑p1.Classes.length:Int) - 1)) be aQ hs bF) (.inr Z) ?_)))))))))
 rintro aR cf ct bg a0 bP ⟨rfl,rfl⟩
 have az:sW w U aR [.blk b6 98 B1,.blk b2 31 B0] bg:=bP
 refine eN (ifc bV ?_ ?_)
 intro aU bW
 refine zp (congrArg nA aU.out) (sR fL2 Z (oA Z Z (oA Z Z (eN (zI (zJ ?_))))))
 cases bW
 exact ⟨rfl,_,(wDk rfl rfl),aR,_,(az.pick [] _ (by decide) rfl),rfl,rfl⟩
 intro aU bX
 refine zj (congrArg nA (nB.2 aU.out)) (kN (sR (.fl 0 (.fl 1 (.fx 2 (wPD (.nil)) .stop))) Z (oL Z (az.ldBA (j:=1) Z Z Z ZU ZP (vs:=B0) Z Z) (oL Z (az.ldBA (j:=0) Z Z Z ZT ZN (vs:=B1) Z Z) ?_))))
 have bG:=bp.le aZ
 have bi:=bG.le a0
 have bH:=bq.le aZ
 have bj:=bH.le a0
 have bI:=br.le aZ
 have bm:=bI.le a0
 have q:=bnd bX
 obtain ⟨⟨x40,b8⟩,bJ,bs⟩:=q
 try dsimp only at bs
 refine zD 0 Z Z Z Z (zE Z Z Tryz.call127 (zB Z (zB Z (zB Z zL))) Z) az (fun hs=>wCX p0 ak ap p1 ai aj am aq (-1) bg aR hs bi bj bm bJ) (.inr Z) ?_
 rintro bb cg cu bh ba bR ⟨bw,bC,rfl,rfl,cn⟩
 have aX:sW w U bb [.blk b6 98 B1,.blk b2 31 B0] bh:=bR
 refine oM Z Z (oR Z (ZB Z Z (v:=.slice bw x40.length bC) Z) (oR Z (ZB Z Z (v:=jV b8) Z) (oA Z Z (oA Z Z (eN (sR (wDT (.fx 3 (wME (.nil)) .stop)) Z (oL Z (aX.ldBA (j:=1) Z Z Z ZU ZP (vs:=B0) Z Z) (oL Z (aX.ldBA (j:=0) Z Z Z ZT ZN (vs:=B1) Z Z) (oM Z Z ?_)))))))))
 have bK:=bi.le ba
 have bL:=bj.le ba
 have bM:=bm.le ba
 have q:=bnd bs
 obtain ⟨⟨b9,cb⟩,bN,bt⟩:=q
 try dsimp only at bt
 refine zD 0 Z Z Z Z (zE Z Z Tryz.call127 (zB Z (zB Z (zB Z zL))) Z) aX (fun hs=>wCX p0 ak ap p1 ai aj am aq p2 bh bb hs bK bL bM bN) (.inr Z) ?_
 rintro aS cj cw bB cq bS ⟨bz,bD,rfl,rfl,cp⟩
 have bo:sW w U aS [.blk b6 98 B1,.blk b2 31 B0] bB:=bS
 refine oM Z Z (oR Z (ZB Z Z (v:=.slice bz b9.length bD) Z) (oR Z (ZB Z Z (v:=jV cb) Z) (oA Z Z (oA Z Z (eN (zH (sR fL2 Z (oM Z Z (oR Z (ze Z Z Z) (eN (ifc bt ?_ ?_)))))))))))
 intro aV bY
 refine cT Z aV (sR fL2 Z (oA Z Z (oA Z Z (eN (zI (zJ ?_))))))
 cases bY
 exact ⟨rfl,_,(wDk rfl rfl),aS,_,(bo.pick [] _ (by decide) rfl),rfl,rfl⟩
 intro aV bZ
 refine cF Z aV (kN (sR fL5 Z (oM Z Z (oM Z Z (oR Z (Za Z Z Z) (oA Z Z (oA Z Z (eN (zI ?_)))))))))
 cases bZ
 exact ⟨rfl,_,(wDk rfl rfl),aS,_,(bo.pick [] _ (by decide) rfl),rfl,rfl⟩
 intro aT b5
 refine cT Z aT (sR fL3 Z (oM Z Z (oA Z Z (oA Z Z (eN (zI (zJ ?_)))))))
 cases b5
 exact ⟨rfl,_,(wDk rfl rfl),aQ,_,(aW.pick [] _ (by decide) rfl),rfl,rfl⟩
end Go.Proofs.YtabadkdjndnliaaGreat
