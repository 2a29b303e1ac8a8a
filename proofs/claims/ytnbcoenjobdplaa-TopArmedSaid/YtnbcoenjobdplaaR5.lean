import Derived.Test.YtnbcoenjobdplaaR4
set_option linter.all false
open List renaming flatMap->hD,length_append->nH,length_cons->nI,length_nil->nJ,getElem_cons_succ->nK,getElem_cons_zero->nL,getElem_toArray->nN
open Option.some renaming inj->hM
open Go.Value renaming bool->nA
open Bool renaming eq_false_iff->nB
open Prod.mk renaming injEq->nD
open Int renaming toNat_natCast->nE
open Nat renaming blt->nG,le_of_ble_eq_true->nM
namespace Go.Proofs.Ytnbcoenjobdplaa
open Go.KL
def gAa:Sch:=.fl 1 (.fl 2 .nil)
def gAb:Sch:=.fl 2 (.fl 3 .nil)
def gAc:Sch:=.fl 3 (.fl 4 .nil)
def gAd:Sch:=.fl 7 (.fl 8 .nil)
def gAe:Sch:=.fl 10 (.fl 11 .nil)
def gAf:Sch:=.fl 12 (.fl 13 .nil)
def gAg:Sch:=.fx 0 (.fl 1 .nil) .stop
def gAh:Sch:=.fx 2 (.fx 3 .nil .stop) .stop
def gAi:Sch:=.fx 1 (.fx 2 .nil .stop) .stop
def gAj:Sch:=.fx 4 (.fl 5 .nil) .stop
def gAk:Sch:=.fl 0 (.fx 1 .nil .stop)
def gAl:Sch:=.fx 0 (.fx 1 .nil .stop) .stop
def gAm:Sch:=.fx 1 (.fl 2 .nil) .stop
def gAn:Sch:=.fl 13 (.fl 14 .nil)
def gAo:Sch:=.fx 6 gAd .stop
def gAp:Sch:=.fx 5 (.fx 6 (.fl 7 .nil) .stop) .stop
def gAq:Sch:=.fl 0 (.fl 1 (.fx 2 .nil .stop))
def gAr:Sch:=.fx 0 gAi .stop
def gAs:Sch:=.fx 0 gAa .stop
def gAt:Sch:=.fl 0 gAm
def gAu:Sch:=.fx 0 gAm .stop
def gAv:Sch:=.fx 7 gAn .stop
def gAw:Sch:=.fx 9 gAe .stop
def gAx:Sch:=.fl 0 (.fl 1 (.fx 2 (.fl 3 .nil) .stop))
def gAy:Sch:=.fl 0 (.fl 1 gAh)
def gAz:Sch:=.fx 6 gAv .stop
def gBa:Sch:=.fx 5 gAo .stop
def gBb:Sch:=.fx 8 gAw .stop
def gBc:Sch:=.fx 4 gAw .stop
def gBd:Sch:=.fl 0 (.fx 1 gAb .stop)
def gBe:Sch:=.fl 0 (.fl 1 (.fx 2 (.fx 3 (.fl 4 .nil) .stop) .stop))
def gBf:Sch:=.fl 0 (.fl 1 (.fx 2 gAc .stop))
def gBg:Sch:=.fl 0 (.fl 1 (.fx 2 (.fl 3 gAj) .stop))
def gBh:Sch:=.fx 4 gBb (.fx 8 gBc .stop)
set_option maxHeartbeats 4000000
theorem Z {α:Type} {a:α}:a=a:=rfl
section
variable {r:Option Nat} {N:Nat} {P:Program} {l:List Oper} {Q:wCk} {D:List Deferred} {ks:List Nat} {J:Env} {w:World} {i d j e:Nat} {s:Sch} {o:Oper} {b:Bool} {x:Operand} {v:Value} {p:Prop} {inst:Decidable p} {K:List Deferred->Env->World->Prop} {c1 c2:Code}
abbrev jV (n:Int):Value:=.int .i64 n
abbrev SW (w:World) (X:List Res) (U U':PHeap) (L:List Res) (w':World):Prop:=St ⟨w,X,U⟩ U' L w'
abbrev sW (w:World) (U U':PHeap) (L:List Res) (w':World):Prop:=St ⟨w,[],U⟩ U' L w'
abbrev St0 (w:World) (U:PHeap) (L:List Res):Prop:=St ⟨w,L,U⟩ U L w
theorem ifc {α:Type} {G p:Prop} {inst:Decidable p} {a b r:α} (h:@ite α p inst a b=r) (h1:Hid p->a=r->G) (h2:Hid (¬ p)->b=r->G):G:=by
 by_cases c:p
 rw [if_pos c] at h;exact h1 ⟨c⟩ h
 rw [if_neg c] at h;exact h2 ⟨c⟩ h
theorem bnK {α β:Type} {G:Prop} {o:Option α} {f:α->Option β} {r:β} (h:o.bind f=some r) (k:∀ x,o=some x->f x=some r->G):G:=by
 obtain ⟨x,h1,h2⟩:=bnd h
 exact k x h1 h2
theorem oR (h:(l[i]?,o.dst,nG d N,wanted l J o)=(some o,some d,true,true)) (hr:∀ {w'},Runs P J w' o v w') (k:OKS N P l Q D ks s (upd J d v) w):OKS N P l Q D ks (.fl i s) J w:=by
 simp only [nD] at h;exact OKS.r h.1 h.2.1 h.2.2.1 h.2.2.2 (fun _=>hr) k
theorem oL (h:(l[i]?,o.dst,nG d N,wanted l J o,wKo (kOf ks i))=(some o,some d,true,true,false)) (hr:RunsK P J w o v) (k:OKS N P l Q D ks s (upd J d v) w):OKS N P l Q D ks (.fl i s) J w:=by
 simp only [nD] at h;exact OKS.m h.1 h.2.1 h.2.2.1 h.2.2.2.1 hr h.2.2.2.2 k
theorem oM (h:(l[i]?,o.dst,nG d N,wanted l J o,o.op)=(some o,some d,true,true,.move x)) (hx:ev J x=v) (k:OKS N P l Q D ks s (upd J d v) w):OKS N P l Q D ks (.fl i s) J w:=by
 simp only [nD] at h;exact OKS.rm h.1 h.2.1 h.2.2.1 h.2.2.2.1 h.2.2.2.2 hx k
theorem oA (h:(l[i]?,o.dst,nG d N,wanted l J o,o.op)=(some o,some d,true,true,.assign x)) (hx:ev J x=v) (k:OKS N P l Q D ks s (upd J d v) w):OKS N P l Q D ks (.fl i s) J w:=by
 simp only [nD] at h;exact OKS.ra h.1 h.2.1 h.2.2.1 h.2.2.2.1 h.2.2.2.2 hx k
theorem oF (h:(l[i]?,o.dst,nG d N,o.guard,(l[j]?).bind (·.dst),J e,false == b)=(some o,some d,true,some (j,b),some e,.bool (decide p),false)) (c:Hid (¬ p)) (k:OKS N P l Q D ks s (upd J d undef) w):OKS N P l Q D ks (.fl i s) J w:=by
 simp only [nD] at h;exact OKS.p h.1 h.2.1 h.2.2.1 (wEz h.2.2.2.1 h.2.2.2.2.1 (h.2.2.2.2.2.1.trans (wKm c.out)) h.2.2.2.2.2.2) k
theorem oT (h:(l[i]?,o.dst,nG d N,o.guard,(l[j]?).bind (·.dst),J e,true == b)=(some o,some d,true,some (j,b),some e,.bool (decide p),false)) (c:Hid p) (k:OKS N P l Q D ks s (upd J d undef) w):OKS N P l Q D ks (.fl i s) J w:=by
 simp only [nD] at h;exact OKS.p h.1 h.2.1 h.2.2.1 (wEz h.2.2.2.1 h.2.2.2.2.1 (h.2.2.2.2.2.1.trans (wKl c.out)) h.2.2.2.2.2.2) k
theorem oN {b2:Bool} (h:(l[i]?,o.dst,nG d N,o.guard,(l[j]?).bind (·.dst),J e,b2 == b)=(some o,some d,true,some (j,b),some e,.bool b2,false)) (k:OKS N P l Q D ks s (upd J d undef) w):OKS N P l Q D ks (.fl i s) J w:=by
 simp only [nD] at h;exact OKS.p h.1 h.2.1 h.2.2.1 (wEz h.2.2.2.1 h.2.2.2.2.1 h.2.2.2.2.2.1 h.2.2.2.2.2.2) k
theorem nC {a b:Bool} (h:a=b):nA (!a)=nA (!b):=h ▸ rfl
theorem nF {a:Bool} (h:¬ a=true):nA (!a)=nA (!false):=nC (nB.2 h)
theorem wT (h:(o.guard,(l[j]?).bind (·.dst),J e)=(some (j,true),some e,.bool (decide p))) (c:Hid p):wanted l J o=true:=by
 simp only [nD] at h;exact wFj h.1 h.2.1 (h.2.2.trans (wKl c.out))
theorem wF (h:(o.guard,(l[j]?).bind (·.dst),J e)=(some (j,false),some e,.bool (decide p))) (c:Hid (¬ p)):wanted l J o=true:=by
 simp only [nD] at h;exact wFj h.1 h.2.1 (h.2.2.trans (wKm c.out))
theorem rU (h:(l[i]?,o.dst,nG d N)=(some o,some d,true)) (hw:wanted l J o=true) (hr:∀ {w'},Runs P J w' o v w') (k:OKS N P l Q D ks s (upd J d v) w):OKS N P l Q D ks (.fl i s) J w:=by
 simp only [nD] at h;exact OKS.r h.1 h.2.1 h.2.2 hw (fun _=>hr) k
theorem sR {id:Nat} (s:Sch) (hs:inOrder 0 s l.length=true) (h:OKS N P l (wDj (fun D J w=>CK r N P c2 Q D J w) Q) D [] s J w):CK r N P (.seq (.region id l.toArray false) c2) Q D J w:=CK.seq (CK.reg s hs h)
theorem rR {id:Nat} (s:Sch) (hs:inOrder 0 s l.length=true) (h:OKS N P l Q D [] s J w):CK r N P (.region id l.toArray false) Q D J w:=CK.reg s hs h
theorem eN (h:K D J w):OKS N P l (wDj K Q) D ks .nil J w:=OKS.e (wFb h)
theorem cT (hz:ev J x=.bool (decide p)) (c:Hid p) (h:CK r N P c1 Q D J w):CK r N P (.cond x c1 c2) Q D J w:=CK.condT (hz.trans (wKl c.out)) h
theorem cF (hz:ev J x=.bool (decide p)) (c:Hid (¬ p)) (h:CK r N P c2 Q D J w):CK r N P (.cond x c1 c2) Q D J w:=CK.condF (hz.trans (wKm c.out)) h
theorem kN (h:K D J w):CK r N P .skip (wDj K Q) D J w:=CK.skip (wFb h)
end
def fL1:Sch:=.fl 0 .nil
def fL2:Sch:=.fl 0 (.fl 1 .nil)
def fL3:Sch:=.fl 0 gAa
def fL4:Sch:=.fl 0 (.fl 1 gAb)
def fL5:Sch:=.fl 0 (.fl 1 (.fl 2 gAc))
def fL6:Sch:=.fl 0 (.fl 1 (.fl 2 (.fl 3 (.fl 4 (.fl 5 .nil)))))
def fL7:Sch:=.fl 0 (.fl 1 (.fl 2 (.fl 3 (.fl 4 (.fl 5 (.fl 6 .nil))))))
def fL8:Sch:=.fl 0 (.fl 1 (.fl 2 (.fl 3 (.fl 4 (.fl 5 (.fl 6 (.fl 7 .nil)))))))
def fL9:Sch:=.fl 0 (.fl 1 (.fl 2 (.fl 3 (.fl 4 (.fl 5 (.fl 6 gAd))))))
def fL10:Sch:=.fl 0 (.fl 1 (.fl 2 (.fl 3 (.fl 4 (.fl 5 (.fl 6 (.fl 7 (.fl 8 (.fl 9 .nil)))))))))
def fL11:Sch:=.fl 0 (.fl 1 (.fl 2 (.fl 3 (.fl 4 (.fl 5 (.fl 6 (.fl 7 (.fl 8 (.fl 9 (.fl 10 .nil))))))))))
def fL12:Sch:=.fl 0 (.fl 1 (.fl 2 (.fl 3 (.fl 4 (.fl 5 (.fl 6 (.fl 7 (.fl 8 (.fl 9 gAe)))))))))
def fL13:Sch:=.fl 0 (.fl 1 (.fl 2 (.fl 3 (.fl 4 (.fl 5 (.fl 6 (.fl 7 (.fl 8 (.fl 9 (.fl 10 (.fl 11 (.fl 12 .nil))))))))))))
def fL14:Sch:=.fl 0 (.fl 1 (.fl 2 (.fl 3 (.fl 4 (.fl 5 (.fl 6 (.fl 7 (.fl 8 (.fl 9 (.fl 10 (.fl 11 gAf)))))))))))
def fL17:Sch:=.fl 0 (.fl 1 (.fl 2 (.fl 3 (.fl 4 (.fl 5 (.fl 6 (.fl 7 (.fl 8 (.fl 9 (.fl 10 (.fl 11 (.fl 12 (.fl 13 (.fl 14 (.fl 15 (.fl 16 .nil))))))))))))))))
def fL21:Sch:=.fl 0 (.fl 1 (.fl 2 (.fl 3 (.fl 4 (.fl 5 (.fl 6 (.fl 7 (.fl 8 (.fl 9 (.fl 10 (.fl 11 (.fl 12 (.fl 13 (.fl 14 (.fl 15 (.fl 16 (.fl 17 (.fl 18 (.fl 19 (.fl 20 .nil))))))))))))))))))))
def fL24:Sch:=.fl 0 (.fl 1 (.fl 2 (.fl 3 (.fl 4 (.fl 5 (.fl 6 (.fl 7 (.fl 8 (.fl 9 (.fl 10 (.fl 11 (.fl 12 (.fl 13 (.fl 14 (.fl 15 (.fl 16 (.fl 17 (.fl 18 (.fl 19 (.fl 20 (.fl 21 (.fl 22 (.fl 23 .nil)))))))))))))))))))))))
def fL30:Sch:=.fl 0 (.fl 1 (.fl 2 (.fl 3 (.fl 4 (.fl 5 (.fl 6 (.fl 7 (.fl 8 (.fl 9 (.fl 10 (.fl 11 (.fl 12 (.fl 13 (.fl 14 (.fl 15 (.fl 16 (.fl 17 (.fl 18 (.fl 19 (.fl 20 (.fl 21 (.fl 22 (.fl 23 (.fl 24 (.fl 25 (.fl 26 (.fl 27 (.fl 28 (.fl 29 .nil)))))))))))))))))))))))))))))
def wGZ (s:Sch):Sch:=.fl 0 (.fl 1 (.fl 2 (s)))
def wGF (s:Sch):Sch:=.fl 0 (.fl 1 (.fl 2 (.fl 3 (s))))
def wEp (s:Sch):Sch:=.fl 0 (.fl 1 (.fl 2 (.fl 3 (.fl 4 (s)))))
def wHv (s:Sch):Sch:=.fl 0 (.fl 1 (.fl 2 (.fl 3 (.fl 4 (.fl 5 (s))))))
def fC0_6 (s:Sch):Sch:=.fl 0 (.fl 1 (.fl 2 (.fl 3 (.fl 4 (.fl 5 (.fl 6 (s)))))))
def wLc (s:Sch):Sch:=.fl 0 (.fl 1 (.fl 2 (.fl 3 (.fl 4 (.fl 5 (.fl 6 (.fl 7 (s))))))))
def fC0_8 (s:Sch):Sch:=.fl 0 (.fl 1 (.fl 2 (.fl 3 (.fl 4 (.fl 5 (.fl 6 (.fl 7 (.fl 8 (s)))))))))
def wLd (s:Sch):Sch:=.fl 0 (.fl 1 (.fl 2 (.fl 3 (.fl 4 (.fl 5 (.fl 6 (.fl 7 (.fl 8 (.fl 9 (s))))))))))
def wLe (s:Sch):Sch:=.fl 0 (.fl 1 (.fl 2 (.fl 3 (.fl 4 (.fl 5 (.fl 6 (.fl 7 (.fl 8 (.fl 9 (.fl 10 (s)))))))))))
def wLf (s:Sch):Sch:=.fl 0 (.fl 1 (.fl 2 (.fl 3 (.fl 4 (.fl 5 (.fl 6 (.fl 7 (.fl 8 (.fl 9 (.fl 10 (.fl 11 (s))))))))))))
def wLg (s:Sch):Sch:=.fl 0 (.fl 1 (.fl 2 (.fl 3 (.fl 4 (.fl 5 (.fl 6 (.fl 7 (.fl 8 (.fl 9 (.fl 10 (.fl 11 (.fl 12 (.fl 13 (.fl 14 (s)))))))))))))))
def wLh (s:Sch):Sch:=.fl 0 (.fl 1 (.fl 2 (.fl 3 (.fl 4 (.fl 5 (.fl 6 (.fl 7 (.fl 8 (.fl 9 (.fl 10 (.fl 11 (.fl 12 (.fl 13 (.fl 14 (.fl 15 (s))))))))))))))))
def wKH (s:Sch):Sch:=.fl 0 (.fl 1 (.fl 2 (.fl 3 (.fl 4 (.fl 5 (.fl 6 (.fl 7 (.fl 8 (.fl 9 (.fl 10 (.fl 11 (.fl 12 (.fl 13 (.fl 14 (.fl 15 (.fl 16 (.fl 17 (.fl 18 (.fl 19 (.fl 20 (s)))))))))))))))))))))
def fC1_3 (s:Sch):Sch:=.fl 1 (.fl 2 (.fl 3 (s)))
def fC2_4 (s:Sch):Sch:=.fl 2 (.fl 3 (.fl 4 (s)))
def wJP (s:Sch):Sch:=.fl 2 (.fl 3 (.fl 4 (.fl 5 (.fl 6 (s)))))
def fC2_8 (s:Sch):Sch:=.fl 2 (.fl 3 (.fl 4 (.fl 5 (.fl 6 (.fl 7 (.fl 8 (s)))))))
def wLi (s:Sch):Sch:=.fl 2 (.fl 3 (.fl 4 (.fl 5 (.fl 6 (.fl 7 (.fl 8 (.fl 9 (.fl 10 (.fl 11 (s))))))))))
def wKf (s:Sch):Sch:=.fl 3 (.fl 4 (.fl 5 (s)))
def fC3_6 (s:Sch):Sch:=.fl 3 (.fl 4 (.fl 5 (.fl 6 (s))))
def wLj (s:Sch):Sch:=.fl 3 (.fl 4 (.fl 5 (.fl 6 (.fl 7 (s)))))
def fC4_8 (s:Sch):Sch:=.fl 4 (.fl 5 (.fl 6 (.fl 7 (.fl 8 (s)))))
def fC5_7 (s:Sch):Sch:=.fl 5 (.fl 6 (.fl 7 (s)))
def wLk (s:Sch):Sch:=.fl 5 (.fl 6 (.fl 7 (.fl 8 (.fl 9 (.fl 10 (.fl 11 (.fl 12 (s))))))))
def wKI (s:Sch):Sch:=.fl 6 (.fl 7 (.fl 8 (.fl 9 (.fl 10 (s)))))
def wLl (s:Sch):Sch:=.fl 7 (.fl 8 (.fl 9 (.fl 10 (s))))
def wLm (s:Sch):Sch:=.fl 8 (.fl 9 (.fl 10 (s)))
def wLn (s:Sch):Sch:=.fl 8 (.fl 9 (.fl 10 (.fl 11 (s))))
def wLo (s:Sch):Sch:=.fl 8 (.fl 9 (.fl 10 (.fl 11 (.fl 12 (s)))))
def wKJ (s:Sch):Sch:=.fl 9 (.fl 10 (.fl 11 (s)))
def wKg (s:Sch):Sch:=.fl 10 (.fl 11 (.fl 12 (s)))
def wKh (s:Sch):Sch:=.fl 18 (.fl 19 (.fl 20 (.fl 21 (.fl 22 (.fl 23 (s))))))
def wKi (s:Sch):Sch:=.fl 26 (.fl 27 (.fl 28 (.fl 29 (s))))
theorem zA:type_of% @wHz:=@wHz
theorem zB:type_of% @Try.sizeOf3:=@Try.sizeOf3
theorem zC:type_of% @CK.seq:=@CK.seq
theorem zD:type_of% @Try.isAgg3:=@Try.isAgg3
theorem zE:type_of% @nM:=@nM
theorem zF:type_of% @Try.runUnderlying28:=@Try.runUnderlying28
theorem zG:type_of% @wFb:=@wFb
theorem zH:type_of% @Hid.mk:=@Hid.mk
theorem zI:type_of% @Enters.mk:=@Enters.mk
theorem zJ:type_of% @CK.ret:=@CK.ret
theorem zK:type_of% @OKS.callH:=@OKS.callH
theorem zL:type_of% @wJt:=@wJt
theorem zM:type_of% @wHy:=@wHy
theorem zN:type_of% @Runs.fa:=@Runs.fa
theorem zO:type_of% @PHeap.Le.refl:=@PHeap.Le.refl
theorem zP:type_of% @wFj:=@wFj
theorem zQ:type_of% @OKS.rm:=@OKS.rm
theorem zR:type_of% @Runs.lss:=@Runs.lss
theorem zS:type_of% @Runs.addw:=@Runs.addw
theorem zT:type_of% @CK.block:=@CK.block
theorem zU:type_of% @OKS.r:=@OKS.r
theorem zV:type_of% @wGy:=@wGy
theorem zW:type_of% @Runs.pickT:=@Runs.pickT
theorem zX:type_of% @Try.runUnderlying25:=@Try.runUnderlying25
theorem zY:type_of% @res1:=@res1
theorem zZ:type_of% @Runs.pickF:=@Runs.pickF
theorem za:type_of% @Try.runUnderlying30:=@Try.runUnderlying30
theorem zb:type_of% @CK.condF:=@CK.condF
theorem zc:type_of% @wHA:=@wHA
theorem zd:type_of% @wEz:=@wEz
theorem ze:type_of% @wHx:=@wHx
theorem zf:type_of% @CK.condT:=@CK.condT
theorem zg:type_of% @Try.runUnderlying39:=@Try.runUnderlying39
theorem zh:type_of% @Runs.len:=@Runs.len
theorem zi:type_of% @OKS.p:=@OKS.p
theorem zj:type_of% @Runs.to:=@Runs.to
theorem zk:type_of% @OKS.e:=@OKS.e
theorem zm:type_of% @Try.runUnderlying77:=@Try.runUnderlying77
theorem zn:type_of% @Try.underlying28:=@Try.underlying28
theorem zo:type_of% @Try.zeroValue3:=@Try.zeroValue3
theorem zp:type_of% @Try.sizeOf47:=@Try.sizeOf47
theorem zq:type_of% @OKS.buildSlice:=@OKS.buildSlice
theorem zr:type_of% @OKS.box:=@OKS.box
theorem zt:type_of% @OKS.st:=@OKS.st
theorem zu:type_of% @Try.runUnderlying56:=@Try.runUnderlying56
theorem zw:type_of% @Try.sizeOf96:=@Try.sizeOf96
theorem zx:type_of% @Runs.nilp:=@Runs.nilp
theorem zy:type_of% @Runs.notT:=@Runs.notT
theorem zz:type_of% @OKS.m:=@OKS.m
theorem ZA:type_of% @OKS.alloc:=@OKS.alloc
theorem ZB:type_of% @wGz:=@wGz
theorem ZC:type_of% @CK.skip:=@CK.skip
theorem ZD:type_of% @wKm:=@wKm
theorem ZE:type_of% @Try.sizeOf72:=@Try.sizeOf72
theorem ZF:type_of% @Runs.ext:=@Runs.ext
theorem ZG:type_of% @Try.runUnderlying53:=@Try.runUnderlying53
theorem ZH:type_of% @Try.runUnderlying33:=@Try.runUnderlying33
theorem ZI:type_of% @Try.runUnderlying72:=@Try.runUnderlying72
theorem ZJ:type_of% @OKS.append:=@OKS.append
theorem ZK:type_of% @CK.exit:=@CK.exit
theorem ZL:type_of% @Try.sizeOf30:=@Try.sizeOf30
theorem ZM:type_of% @Try.runUnderlying47:=@Try.runUnderlying47
theorem ZN:type_of% @Runs.subw:=@Runs.subw
theorem ZO:type_of% @Try.sizeOf33:=@Try.sizeOf33
theorem ZP:type_of% @Try.isAgg25:=@Try.isAgg25
theorem ZQ:type_of% @Try.runUnderlying75:=@Try.runUnderlying75
theorem ZR:type_of% @Runs.iaN:=@Runs.iaN
theorem ZS:type_of% @Runs.build:=@Runs.build
theorem ZT:type_of% @CK.anyOrd:=@CK.anyOrd
theorem ZU:type_of% @Try.mixed:=@Try.mixed
theorem ZV:type_of% @Runs.neq:=@Runs.neq
theorem ZW:type_of% @OKS.ra:=@OKS.ra
theorem ZX:type_of% @wKl:=@wKl
theorem ZY:type_of% @Try.zeroValue72:=@Try.zeroValue72
theorem ZZ:type_of% @OKS.px:=@OKS.px
theorem Za:type_of% @Try.sizeOf75:=@Try.sizeOf75
theorem Zb:type_of% @Runs.iaI:=@Runs.iaI
theorem Zc:type_of% @Try.zeroValue96:=@Try.zeroValue96
theorem Zd:type_of% @Try.sizeOf28:=@Try.sizeOf28
theorem Ze:type_of% @OKS.callV:=@OKS.callV
theorem Zf:type_of% @Try.runUnderlying44:=@Try.runUnderlying44
theorem Zg:type_of% @Try.runUnderlying27:=@Try.runUnderlying27
theorem Zh:type_of% @Runs.gtr:=@Runs.gtr
theorem Zi:type_of% @Try.isAgg96:=@Try.isAgg96
theorem Zj:type_of% @Try.isAgg47:=@Try.isAgg47
theorem Zk:type_of% @Runs.geq:=@Runs.geq
theorem Zl:type_of% @Runs.mkf:=@Runs.mkf
theorem Zm:type_of% @Try.isAgg28:=@Try.isAgg28
theorem Zn:type_of% @Runs.iaA:=@Runs.iaA
theorem Zo:type_of% @Try.sizeOf56:=@Try.sizeOf56
theorem Zp:type_of% @Try.sizeOf35:=@Try.sizeOf35
end Go.Proofs.Ytnbcoenjobdplaa
namespace Go.Proofs.Ytnbcoenjobdplaa
open Go.KL
set_option maxHeartbeats 4000000
theorem wFC (p0:List Int) (ab:Option Addr) (ac:Nat) (w:World) (U:PHeap) (hS:St0 w U []) (ai:Sl U 1 ab ac p0.length (hD KL.encB8 p0)) {r:wAE} (hm:wCA p0=some r):Gv Try.prog 4 [.slice ab p0.length ac] w (wBm w [] U (fun U_ L_ v=>∃ (b0:Nat) (A0p0:Option Addr) (c0p0:Nat),v=.pointer (some ⟨b0,0,none⟩)/\L_=[.blk b0 53 [.slice A0p0 r.bytes.length c0p0,jV r.next,.int .u32 r.state]]/\Sl U_ 1 A0p0 c0p0 r.bytes.length (hD KL.encB8 r.bytes))):=by
 unfold wCA at hm
 refine Gv.of Try.func4 Z Try.ntmps4 Try.results4 Z (sR fL1 Z (oA Z Z (eN (sR gAx Z (oM Z Z ?_)))))
 let B0:List Value:=[.slice ab p0.length ac,jV 0,.int .u32 17]
 refine zU rfl rfl rfl rfl (fun _=>ZS (pv:=[(0,.slice ab p0.length ac),(2,.int .u32 17)]) (z:=[.slice none 0 0,jV 0,.int .u32 0]) (cs:=B0) rfl (wAL rfl (wAL rfl wAg)) Try.zeroValue53 wJd rfl rfl) (zr (cs:=B0) rfl rfl rfl rfl rfl rfl (by rfl) hS ?_)
 intro W1 b2 ah
 refine oA Z Z (eN (zJ ?_))
 cases hm
 exact ⟨Z,_,(zY Z),U,_,ah,b2,ab,ac,Z,Z,ai⟩
theorem wAm (p0:wAE) (ag:Nat) (ac:Option Addr) (ae:Nat) (p1:Int) (w:World) (U:PHeap) (hS:St0 w U [.blk ag 53 [.slice ac p0.bytes.length ae,jV p0.next,.int .u32 p0.state]]) (ai:Sl U 1 ac ae p0.bytes.length (hD KL.encB8 p0.bytes)) {r:Int × wAE} (hm:wAJ p0 p1=some r):Gv Try.prog 5 [.pointer (some ⟨ag,0,none⟩),jV p1] w (wBm w [.blk ag 53 [.slice ac p0.bytes.length ae,jV p0.next,.int .u32 p0.state]] U (fun U_ L_ v=>∃ (ay:Option Addr) (aG:Nat),v=jV r.1/\L_=[.blk ag 53 [.slice ay r.2.bytes.length aG,jV r.2.next,.int .u32 r.2.state]]/\Sl U_ 1 ay aG r.2.bytes.length (hD KL.encB8 r.2.bytes))):=by
 unfold wAJ at hm
 refine Gv.of Try.func5 Z Try.ntmps5 Try.results5 Z (sR fL1 Z (oA Z Z (eN (zC (sR fL10 Z (oM Z Z (oR Z (Runs.leq Z Z Z) (oM Z Z ?_))))))))
 by_cases c2:p1 <= 1
 have aJ:=hm;rw [if_pos c2] at aJ;replace c2:=zH c2
 refine oT Z c2 (oT Z c2 (oT Z c2 (oT Z c2 (oT Z c2 (oT Z c2 (oR Z (zW Z (ZX c2.out) Z) (eN (zf Z (sR fL1 Z (oA Z Z (eN (zJ (zM ?_)))))))))))))
 cases aJ
 exact ⟨Z,_,(zY Z),U,_,hS,ac,ae,Z,Z,ai⟩
 have aK:=hm;rw [if_neg c2] at aK;replace c2:=zH c2
 refine zQ Z Z Z (wF Z c2) Z Z (rU Z (wF Z c2) (zx Z Z) (rU Z (wF Z c2) (zN Z Z ZG Z Try.sizeOf22) (zz Z Z Z (wF Z c2) (hS.ldB (j:=0) Z Z Z Try.isAgg22 (v:=.slice ac p0.bytes.length ae) Z) Z (rU Z (wF Z c2) (zh Z Z Try.runUnderlying22) (rU Z (wF Z c2) (Runs.eql Z Z Z) (oR Z (zZ Z (ZD c2.out) Z) (eN (ifc aK ?_ ?_))))))))
 intro c5 bg
 refine cT Z c5 (sR fL1 Z (oA Z Z (eN (zJ (zM ?_)))))
 cases bg
 exact ⟨Z,_,(zY Z),U,_,hS,ac,ae,Z,Z,ai⟩
 intro c5 bh
 refine cF Z c5 (kN (zC (ZT ZU [3,3,3,1,3,3,3,1,3,3,3,1,3,3,3,1,3,3,3,3,1,3,3,3,1,3,3,3,3,3] fL30 (by kernel_rfl) ?_)))
 have af:=hS.drew
 generalize hw_W9:({ w with drawn:=w.drawn + 1 }:World)=W9 at af ⊢
 refine oM Z Z (oR Z (zx Z Z) (oR Z (zN Z Z ZG Z Try.sizeOf22) (oL Z (af.ldB (j:=0) Z Z Z Try.isAgg22 (v:=.slice ac p0.bytes.length ae) Z) (oM Z Z (oR Z (zx Z Z) (oR Z (zN Z Z ZG Z zB) (oL Z (af.ldB (j:=0) Z Z Z zD (v:=jV p0.next) Z) (oM Z Z (oR Z (zx Z Z) (oR Z (zN Z Z ZG Z Try.sizeOf22) (oL Z (af.ldB (j:=0) Z Z Z Try.isAgg22 (v:=.slice ac p0.bytes.length ae) Z) (oR Z (zh Z Z Try.runUnderlying22) (bnK bh fun bm aO aY=>oR Z (Runs.rem Z Z Z aO) (bnK aY fun aL ax aZ=>?_))))))))))))))
 have q:=ai.el (fun _=>rfl) (wAl ax)
 obtain ⟨bk,bl,aU,aV⟩:=q
 refine oR Z (Zb Z Z aU Z Try.runUnderlying22 Try.sizeOf5 (wCZ ax) (wCf ax)) (oL Z (af.ldC (f:=0) aV (v:=.int .u8 aL) Z Z Try.isAgg5 Z) (oR Z (Runs.cvu Z Z Try.runUnderlying5 Try.runUnderlying51 Z Z) (oM Z Z (oR Z (zx Z Z) (oR Z (zN Z Z ZG Z zB) (oL Z (af.ldB (j:=0) Z Z Z zD (v:=jV p0.next) Z) (oM Z Z (oR Z (zx Z Z) (oR Z (zN Z Z ZG Z Try.sizeOf22) (oL Z (af.ldB (j:=0) Z Z Z Try.isAgg22 (v:=.slice ac p0.bytes.length ae) Z) (oR Z (zh Z Z Try.runUnderlying22) (bnK aZ fun bi aP a6=>oR Z (Runs.quo Z Z Z aP) (oR Z (Runs.cvu Z Z Try.runUnderlying3 Try.runUnderlying51 Z Z) (oA Z Z (oA Z Z (eN (zC (CK.fresh fun an ak=>?_))))))))))))))))))
 have aj:an 0=.pointer (some ⟨ag,0,none⟩):=(ak 0).trans rfl
 have ao:an 1=jV p1:=(ak 1).trans rfl
 have ap:an 5=.int .u32 (wDT aL):=(ak 5).trans rfl
 have aH:an 6=.int .u32 (wDT bi):=(ak 6).trans rfl
 clear ak
 refine rR (fC0_6 (.fx 7 .nil .stop)) Z (oM Z aj (oR Z (zx Z Z) (oR Z (zN Z Z ZG Z zB) (oL Z (af.ldB (j:=0) Z Z Z zD (v:=jV p0.next) Z) (oR Z (zS Z Z Z) (oR Z (zx Z Z) (oR Z (zN Z Z ZG Z zB) (zt (j:=0) (vs:=[jV (w64 (p0.next + 1))]) Z Z Z Z af Z Z Z Z zB (zE Z) Z Z Z ?_))))))))
 intro aM aW
 let B0:Res:=.blk ag 53 [.slice ac p0.bytes.length ae,jV p0.next,.int .u32 p0.state]
 have aI:SW w [B0] U U [.blk ag 53 [.slice ac p0.bytes.length ae,jV (w64 (p0.next + 1)),.int .u32 p0.state]] aM:=aW
 refine eN (sR (wLg (.fx 15 .nil .stop)) Z (oM Z aj (oM Z aj (oR Z (zx Z Z) (oR Z (zN Z Z ZG Z Try.sizeOf51) (oL Z (aI.ldB (j:=0) Z Z Z Try.isAgg51 (v:=.int .u32 p0.state) Z) (oR Z (Runs.mulu Z Z Z) (oM Z ap (oR Z (Runs.addu Z Z Z) (oM Z aH (oR Z (Runs.mulu Z Z Z) (oR Z (Runs.addu Z Z Z) (oR Z (Runs.addu Z Z Z) (bnK a6 fun au aQ a7=>oR Z (Runs.rem Z Z Z aQ) (oR Z (zx Z Z) (oR Z (zN Z Z ZG Z Try.sizeOf51) (zt (j:=0) (vs:=[.int .u32 au]) Z Z Z Z aI Z Z Z Z Try.sizeOf51 (zE Z) Z Z Z ?_)))))))))))))))))
 intro aN aX
 have am:SW w [B0] U U [.blk ag 53 [.slice ac p0.bytes.length ae,jV (w64 (p0.next + 1)),.int .u32 au]] aN:=aX
 refine eN (zC (sR fL6 Z (oM Z aH (oR Z (Runs.eql Z Z Z) (oM Z Z (ifc a7 ?_ ?_))))))
 intro ah a8
 refine zQ Z Z Z (wT Z ah) Z ao (rU Z (wT Z ah) (Runs.leq Z Z Z) (oR Z (zW Z (ZX ah.out) Z) (eN (ifc a8 ?_ ?_))))
 intro av ba
 refine cT Z av (sR fL5 Z (oM Z ap (oR Z (Runs.cvw Z Z Try.runUnderlying51 Try.runUnderlying3 Z Z) (oM Z ao (bnK ba fun bn aR bb=>oR Z (Runs.rem Z Z Z aR) (oA Z Z (eN (zJ (zM ?_)))))))))
 cases bb
 exact ⟨Z,_,(zY Z),U,_,am,ac,ae,Z,Z,ai⟩
 intro av bc
 refine cF Z av (kN (sR fL11 Z (oM Z aj (oR Z (zx Z Z) (oR Z (zN Z Z ZG Z Try.sizeOf51) (oL Z (am.ldB (j:=0) Z Z Z Try.isAgg51 (v:=.int .u32 au) Z) (oR Z (Runs.mulu Z Z Z) (oM Z ap (oR Z (Runs.addu Z Z Z) (oR Z (Runs.cvw Z Z Try.runUnderlying51 Try.runUnderlying3 Z Z) (oM Z ao (bnK bc fun bo aS bd=>oR Z (Runs.rem Z Z Z aS) (oA Z Z (eN (zJ ?_)))))))))))))))
 cases bd
 exact ⟨Z,_,(zY Z),U,_,am,ac,ae,Z,Z,ai⟩
 intro ah be
 refine oF Z ah (oF Z ah (oR Z (zZ Z (ZD ah.out) Z) (eN (zb Z (kN (sR fL11 Z (oM Z aj (oR Z (zx Z Z) (oR Z (zN Z Z ZG Z Try.sizeOf51) (oL Z (am.ldB (j:=0) Z Z Z Try.isAgg51 (v:=.int .u32 au) Z) (oR Z (Runs.mulu Z Z Z) (oM Z ap (oR Z (Runs.addu Z Z Z) (oR Z (Runs.cvw Z Z Try.runUnderlying51 Try.runUnderlying3 Z Z) (oM Z ao (bnK be fun bp aT bf=>oR Z (Runs.rem Z Z Z aT) (oA Z Z (eN (zJ ?_)))))))))))))))))))
 cases bf
 exact ⟨Z,_,(zY Z),U,_,am,ac,ae,Z,Z,ai⟩
theorem wBE (p0:wAE) (ab:Nat) (ac:Option Addr) (ae:Nat) (p1:Int) (p2:Int) (w:World) (U:PHeap) (hS:St0 w U [.blk ab 53 [.slice ac p0.bytes.length ae,jV p0.next,.int .u32 p0.state]]) (ax:Sl U 1 ac ae p0.bytes.length (hD KL.encB8 p0.bytes)) {r:Int × wAE} (hm:wAK p0 p1 p2=some r):Gv Try.prog 6 [.pointer (some ⟨ab,0,none⟩),jV p1,jV p2] w (wBm w [.blk ab 53 [.slice ac p0.bytes.length ae,jV p0.next,.int .u32 p0.state]] U (fun U_ L_ v=>∃ (aj:Option Addr) (an:Nat),v=jV r.1/\L_=[.blk ab 53 [.slice aj r.2.bytes.length an,jV r.2.next,.int .u32 r.2.state]]/\Sl U_ 1 aj an r.2.bytes.length (hD KL.encB8 r.2.bytes))):=by
 unfold wAK at hm
 refine Gv.of Try.func6 Z Try.ntmps6 Try.results6 Z (sR fL1 Z (oA Z Z (eN (sR (wHv gAo) Z (oM Z Z (oM Z Z (oM Z Z (oM Z Z (oR Z (ZN Z Z Z) (oR Z (zS Z Z Z) ?_))))))))))
 have q:=bnd hm
 obtain ⟨⟨x2,x3⟩,h4,ao⟩:=q
 try dsimp only at ao
 refine zK 1 Z Z Z Z (zI Z Z Try.call5 (zA Z (zA Z zL)) Z) hS (fun hs=>wAm p0 ab ac ae (w64 ((w64 (p2 - p1)) + 1)) w U hs ax h4) (.inl Z) ?_
 rintro U6 L7 v8 W9 az av ⟨ai,am,rfl,rfl,aq⟩
 have aw:SW w [.blk ab 53 [.slice ac p0.bytes.length ae,jV p0.next,.int .u32 p0.state]] U U6 [.blk ab 53 [.slice ai x3.bytes.length am,jV x3.next,.int .u32 x3.state]] W9:=av
 refine oR Z (zS Z Z Z) (oA Z Z (eN (zJ ?_)))
 cases ao
 exact ⟨Z,_,(zY Z),U6,_,aw,ai,am,Z,Z,aq⟩
theorem wCK (p0:Int) (p1:Int) (p2:Int) (w:World) (U:PHeap) (hS:St0 w U [])  {r:Bool} (hm:wBU p0 p1 p2=some r):Gv Try.prog 22 [jV p0,jV p1,jV p2] w (wBm w [] U (fun U_ L_ v=>v=.bool r/\L_=[])):=by
 unfold wBU at hm
 refine Gv.of Try.func22 Z Try.ntmps22 Try.results22 Z (sR fL1 Z (oA Z Z (eN (sR fL9 Z (oM Z Z (oM Z Z (oR Z (Zk Z Z Z) (oM Z Z ?_))))))))
 by_cases c1:p1 <= p0
 have ab:=hm;rw [if_pos c1] at ab;replace c1:=zH c1
 refine zQ Z Z Z (wT Z c1) Z Z (zQ Z Z Z (wT Z c1) Z Z (rU Z (wT Z c1) (Runs.leq Z Z Z) (oR Z (zW Z (ZX c1.out) Z) (oA Z Z (eN (zJ ?_))))))
 first | (obtain rfl:=hM ab) | cases ab
 exact ⟨Z,_,(zY Z),U,_,hS,Z,Z⟩
 have af:=hm;rw [if_neg c1] at af;replace c1:=zH c1
 refine oF Z c1 (oF Z c1 (oF Z c1 (oR Z (zZ Z (ZD c1.out) Z) (oA Z Z (eN (zJ ?_))))))
 have hE:=hM af;first | subst r | cases hE
 exact ⟨Z,_,(zY Z),U,_,hS,Z,Z⟩
theorem wCV (p0:wAB) (w:World) (U:PHeap) (hS:St0 w U [])  {r:Int} (hm:wAS p0=some r):Gv Try.prog 59 [.agg #[jV p0.Bib,jV p0.Nation,jV p0.Rank]] w (wBm w [] U (fun U_ L_ v=>v=jV r/\L_=[])):=by
 unfold wAS at hm
 refine Gv.of Try.func59 rfl Try.ntmps59 Try.results59 rfl (sR gAg rfl (zr (cs:=[jV p0.Bib,jV p0.Nation,jV p0.Rank]) rfl rfl rfl rfl rfl rfl (by rfl) hS ?_))
 intro W1 b2 ab
 refine oA Z Z (eN (sR fL3 Z (oR Z (zN Z Z ZH Z zB) (oL Z (ab.ldB (j:=0) Z Z Z zD (v:=jV p0.Bib) Z) (oA Z Z (eN (zJ ?_)))))))
 cases hm
 exact ⟨rfl,_,(zY rfl),U,_,(ab.pick [] _ (by decide) rfl),rfl,rfl⟩
theorem wCW (p0:wAB) (w:World) (U:PHeap) (hS:St0 w U [])  {r:Int} (hm:wAT p0=some r):Gv Try.prog 60 [.agg #[jV p0.Bib,jV p0.Nation,jV p0.Rank]] w (wBm w [] U (fun U_ L_ v=>v=jV r/\L_=[])):=by
 unfold wAT at hm
 refine Gv.of Try.func60 rfl Try.ntmps60 Try.results60 rfl (sR gAg rfl (zr (cs:=[jV p0.Bib,jV p0.Nation,jV p0.Rank]) rfl rfl rfl rfl rfl rfl (by rfl) hS ?_))
 intro W1 b2 ab
 refine oA Z Z (eN (sR fL3 Z (oR Z (zN Z Z ZH Z zB) (oL Z (ab.ldB (j:=0) Z Z Z zD (v:=jV p0.Rank) Z) (oA Z Z (eN (zJ ?_)))))))
 cases hm
 exact ⟨rfl,_,(zY rfl),U,_,(ab.pick [] _ (by decide) rfl),rfl,rfl⟩
theorem wDG (p0:wAB) (w:World) (U:PHeap) (hS:St0 w U [])  {r:Int} (hm:wAY p0=some r):Gv Try.prog 61 [.agg #[jV p0.Bib,jV p0.Nation,jV p0.Rank]] w (wBm w [] U (fun U_ L_ v=>v=jV r/\L_=[])):=by
 unfold wAY at hm
 refine Gv.of Try.func61 rfl Try.ntmps61 Try.results61 rfl (sR gAg rfl (zr (cs:=[jV p0.Bib,jV p0.Nation,jV p0.Rank]) rfl rfl rfl rfl rfl rfl (by rfl) hS ?_))
 intro W1 b2 ab
 refine oA Z Z (eN (sR fL3 Z (oR Z (zN Z Z ZH Z zB) (oL Z (ab.ldB (j:=0) Z Z Z zD (v:=jV p0.Nation) Z) (oA Z Z (eN (zJ ?_)))))))
 cases hm
 exact ⟨rfl,_,(zY rfl),U,_,(ab.pick [] _ (by decide) rfl),rfl,rfl⟩
theorem wFD  (w:World) (U:PHeap) (hS:St0 w U [])  {r:Unit} (hm:wCN =some r):Gv Try.prog 36 [] w (wBm w [] U (fun U_ L_ v=>v=.agg #[.func (.func 59) #[] #[],jV 1,jV 999,.func (.func 60) #[] #[],jV 1,jV 9999,.func (.func 61) #[] #[],jV 0,jV 30]/\L_=[])):=by
 unfold wCN at hm
 refine Gv.of Try.func36 Z Try.ntmps36 Try.results36 Z (sR (.fx 0 .nil .stop) Z ?_)
 let B0:List Value:=[.nilFunc,jV 0,jV 0,.nilFunc,jV 0,jV 0,.nilFunc,jV 0,jV 0]
 refine ZA (cs:=B0) Z Z Z Z Z Try.zeroValue97 Z hS ?_
 intro W1 b2 ak
 refine eN (sR (wGF (.fx 4 .nil .stop)) Z ?_)
 let B1:List Value:=[.nilFunc,jV 0,jV 0]
 let B2:List Value:=[.func (.func 59) #[] #[],jV 1,jV 999]
 refine oR Z (ZS (pv:=[(0,.func (.func 59) #[] #[]),(1,jV 1),(2,jV 999)]) (z:=B1) (cs:=B2) Z (wAL Z (wAL Z (wAL Z wAg))) Zc wFm Z Z) ?_
 let B3:List Value:=[.func (.func 60) #[] #[],jV 1,jV 9999]
 refine oR Z (ZS (pv:=[(0,.func (.func 60) #[] #[]),(1,jV 1),(2,jV 9999)]) (z:=B1) (cs:=B3) Z (wAL Z (wAL Z (wAL Z wAg))) Zc wFm Z Z) ?_
 let B4:List Value:=[.func (.func 61) #[] #[],jV 0,jV 30]
 refine oR Z (ZS (pv:=[(0,.func (.func 61) #[] #[]),(1,jV 0),(2,jV 30)]) (z:=B1) (cs:=B4) Z (wAL Z (wAL Z (wAL Z wAg))) Zc wFm Z Z) ?_
 let B5:List Value:=[.func (.func 59) #[] #[],jV 1,jV 999,.func (.func 60) #[] #[],jV 1,jV 9999,.func (.func 61) #[] #[],jV 0,jV 30]
 refine oR Z (Runs.buildA (pv:=[(0,.agg B2.toArray),(1,.agg B3.toArray),(2,.agg B4.toArray)]) (z:=B0) (cs:=B5) Z (wAL Z (wAL Z (wAL Z wAg))) Try.zeroValue97 Try.runUnderlying97 zw Z Z) (zt (j:=0) (vs:=B5) Z Z Z Z ak Z Z Z Z Try.sizeOf97 (zE Z) Z Z Z ?_)
 intro W5 am
 have ah:sW w U U [.blk b2 97 B5] W5:=am
 refine eN (zJ ?_)
 cases hm
 exact ⟨rfl,_,(wGN (v:=.agg B5.toArray) ⟨⟨_,rfl,(wEc Try.isAgg97 Try.sizeOf97 (ah.blkAt (k:=0) rfl) (vs:=B5) rfl rfl)⟩,trivial⟩),U,_,(ah.pick [] _ (by decide) rfl),rfl,rfl⟩
theorem wBR (p0:wAG) (ap:Value) (p1:List wAB) (az:Option Addr) (aG:Nat) (w:World) (U:PHeap) (hS:St0 w U []) (bv:FnOK Try.prog U ap wJS wJT p0.of) (bw:Sl U 3 az aG p1.length (hD wAO p1)) {r:(List Int)} (hm:wAa p0 p1=some r):Gv Try.prog 38 [.agg #[ap,jV p0.lo,jV p0.hi],.slice az p1.length aG] w (wBm w [] U (fun U_ L_ v=>∃ (A0:Option Addr) (c0:Nat),v=.slice A0 r.length c0/\L_=[.row A0 c0 3 1 (hD KL.encI r)])):=by
 unfold wAa at hm
 refine Gv.of Try.func38 Z Try.ntmps38 Try.results38 Z (sR gAg Z ?_)
 let B0:List Value:=[ap,jV p0.lo,jV p0.hi]
 refine zr (cs:=B0) rfl rfl rfl rfl rfl rfl (by rfl) hS ?_
 intro W1 b2 bm
 refine oA Z Z (eN (sR fL1 Z (oA Z Z (eN (zC (sR fL3 Z (oM Z Z (oR Z (zh Z Z zX) (oM Z Z (eN (zT (bnK hm fun bV bx bB=>?_))))))))))))
 have q:=wBY bx
 obtain ⟨ax,bz⟩:=q
 replace ax:=zH ax
 refine CK.forN' (fun ah ai J_ w_=>∃ (U_:PHeap) (ak:Option Addr) (ao:Nat),J_ 10=jV (↑ah:Int)/\J_ 2=.pointer (some ⟨b2,0,none⟩)/\J_ 5=.slice ak ai.length ao/\J_ 8=.slice az p1.length aG/\J_ 9=jV (↑p1.length:Int)/\PHeap.Le U U_/\sW w U U_ [.blk b2 96 B0,.row ak ao 3 1 (hD KL.encI ai)] w_) bz ?_ ?_ ?_
 have bl:=bm.nilrow 3 1
 exact ⟨U,none,0,rfl,rfl,rfl,rfl,rfl,(zO _),(bl.pick [1,0] _ (by decide) rfl)⟩
 rintro ah ai bU bH bL aw ⟨aV,ak,ao,au,aN,bd,aO,aP,ay,aR⟩ bF
 have aL:Hid ((↑ah:Int) < (↑p1.length:Int)):=zH (wBg aw)
 replace aw:=zH aw
 have bA:Hid (w64 ((↑ah:Int) + 1)=(↑(ah + 1):Int)):=zH (by have h1:=ax.out;have h2:=aL.out;rw [wAR] <;> omega)
 refine sR fL1 Z (oR Z (zR Z au aP) (eN (zC (cT Z aL (kN (zC (zT (sR gAy Z (bnK bF fun ab aQ bC=>?_)))))))))
 have bf:=bw.le ay
 have q:=bf.el (fun _=>rfl) (wAl aQ)
 obtain ⟨bO,bS,bj,bk⟩:=q
 refine oR Z (ZR Z aO bj au zX ZO (wCa aQ)) (oL Z (aR.ldCA (f:=0) bk Z Z Try.isAgg33 ZO (us:=[jV ab.Bib,jV ab.Nation,jV ab.Rank]) Z Z) (ZA (cs:=[jV 0,jV 0,jV 0]) Z Z Z Z Z Try.zeroValue33 Z aR ?_))
 intro bM an bn
 let B1:List Value:=[jV ab.Bib,jV ab.Nation,jV ab.Rank]
 refine zt (j:=0) (vs:=B1) Z Z Z Z bn Z Z Z Z ZO (zE Z) Z Z Z ?_
 intro aX bo
 let B2:Res:=.row ak ao 3 1 (hD KL.encI ai)
 have av:sW w U aV [.blk an 33 B1,.blk b2 96 B0,B2] aX:=bo
 refine eN (rR (wGF (.fx 4 gAp .stop)) Z (oM Z bd (oR Z (zN Z aN Try.runUnderlying96 Z Try.sizeOf94) (oL Z (av.ldB (j:=1) Z Z Z Try.isAgg94 (v:=ap) Z) (oL Z (av.ldBA (j:=0) Z Z Z Try.isAgg33 ZO (vs:=B1) Z Z) (bnK bC fun aj bg bD=>?_))))))
 have bh:=bv.le ay
 refine Ze (a:=ab) Z Z Z Z Z Z (zA Z zL) av bh Z bg ?_
 rintro am bJ bT aY bG bp ⟨rfl,rfl⟩
 have bq:sW w U am [.blk an 33 B1,.blk b2 96 B0,B2] aY:=bp
 refine zq (pv:=[(0,jV aj)]) (zs:=[jV 0]) (cs:=[jV aj]) Z Z Z Z Z (wAL Z wAg) zF zB zo Z Z Z Z Z bq ?_
 intro aZ a7 br
 let B3:Res:=.row (some ⟨a7,0,none⟩) 1 3 1 (hD KL.encI [aj])
 have aS:sW w U am [B3,.blk an 33 B1,.blk b2 96 B0,B2] aZ:=br
 refine bnK bD fun aT bi bE=>ZJ (j:=3) (enc:=KL.encI) (xs:=ai) (ys:=[aj]) (zs:=aT) rfl rfl rfl rfl rfl zn wDF rfl rfl rfl rfl rfl rfl aS rfl rfl rfl (aS.srcR (j:=0) rfl (by decide) (wAD (f:=KL.encI) (sz:=1) (fun _=>rfl) [aj])) (fun _=>rfl) (fun _=>rfl) bi rfl ?_
 intro aI aM a6 bs
 have bt:sW w U am [B3,.blk an 33 B1,.blk b2 96 B0,.row aI aM 3 1 (hD KL.encI aT)] a6:=bs
 refine oA Z Z (zk (zV (zG (rR fL2 Z (oR Z (zj (zS Z au Z) (congrArg (jV) bA.out)) (oM Z Z (zk ?_)))))))
 cases bE
 exact zG ⟨rfl,⟨am,aI,aM,rfl,aN,rfl,aO,aP,(ay.trans bG),(bt.pick [2,3] _ (by decide) rfl)⟩⟩
 rintro bI bN ⟨aW,aU,ba,be,bP,bb,bQ,bc,bR,bu⟩
 have a8:Hid (¬ ((↑(((↑p1.length:Int):Int) - 0).toNat:Int) < (↑p1.length:Int))):=zH (wBB)
 refine sR fL1 Z (oR Z (zR Z be bc) (eN (zC (cF Z a8 (ZK (ze (ze (ZB (zG (sR fL2 Z (oM Z bb (oA Z Z (eN (zJ ?_))))))))))))))
 have hE:=hM bB;first | subst r | cases hE
 exact ⟨rfl,_,(zY rfl),aW,_,(bu.pick [1] _ (by decide) rfl),aU,ba,rfl,rfl⟩
theorem wCq (p0:Int) (p1:wAG) (af:Nat) (ag:Value) (w:World) (U:PHeap) (hS:St0 w U []) (ae:Cl U af 0 [ag,jV p1.lo,jV p1.hi]) (ao:FnOK Try.prog U ag wJS wJT p1.of) {r:Bool} (hm:wAZ p0 p1=some r):Gv Try.prog 39 [jV p0,.pointer (some ⟨af,0,none⟩)] w (wBm w [] U (fun U_ L_ v=>v=.bool r/\L_=[])):=by
 unfold wAZ at hm
 refine Gv.of Try.func39 Z Try.ntmps39 Try.results39 Z (sR fL1 Z (oA Z Z (eN (sR (wEp (.fx 5 (.fl 6 .nil) .stop)) Z (oM Z Z (oR Z (zN Z Z Try.runUnderlying96 Z zB) (oL Z (hS.ldC (f:=1) ae (v:=jV p1.lo) Z Z zD Z) (oR Z (zN Z Z Try.runUnderlying96 Z zB) (oL Z (hS.ldC (f:=2) ae (v:=jV p1.hi) Z Z zD Z) (bnK hm fun x1 h2 am=>zK 0 Z Z Z Z (zI Z Z Try.call22 (zA Z (zA Z (zA Z zL))) Z) hS (fun hs=>wCK p0 p1.lo p1.hi w U hs h2) (.inr Z) ?_))))))))))
 rintro U4 L5 v6 W7 ap ak ⟨rfl,rfl⟩
 have aj:sW w U U4 [] W7:=ak
 refine oA Z Z (eN (zJ ?_))
 have hE:=hM am;first | subst r | cases hE
 exact ⟨Z,_,(zY Z),U4,_,aj,Z,Z⟩
theorem wCR (p0:List Int) (ak:Option Addr) (am:Nat) (p1:(Int->Option Bool)) (an:Value) (w:World) (U:PHeap) (hS:St0 w U []) (aV:Sl U 1 ak am p0.length (hD KL.encI p0)) (aW:FnOK Try.prog U an wGk wHg p1) {r:Bool} (hm:wAn p0 p1=some r):Gv Try.prog 37 [.slice ak p0.length am,an] w (wBm w [] U (fun U_ L_ v=>v=.bool r/\L_=[])):=by
 unfold wAn at hm
 refine Gv.of Try.func37 Z Try.ntmps37 Try.results37 Z (sR fL1 Z (oA Z Z (eN (zC (sR fL3 Z (oM Z Z (oR Z (zh Z Z zF) (oM Z Z (eN (zT ?_))))))))))
 have q:=wCo hm
 obtain ⟨r3,ag⟩:=q
 have q:=wCn ag
 obtain ⟨ai,aZ⟩:=q
 replace ai:=zH ai
 refine CK.forN (fun k2 _ J_ w_=>∃ (U_:PHeap),J_ 9=jV (↑k2:Int)/\J_ 1=an/\J_ 7=.slice ak p0.length am/\J_ 8=jV (↑p0.length:Int)/\PHeap.Le U U_/\sW w U U_ [] w_) aZ ?_ ?_ ?_
 exact ⟨U,Z,Z,Z,Z,(zO _),hS⟩
 rintro k2 ⟨⟩ bt J7 W8 ah ⟨bi,af,ap,aq,au,aj,aw⟩ az aX
 try dsimp only at az
 have ao:Hid ((↑k2:Int) < (↑p0.length:Int)):=zH (wBg ah)
 replace ah:=zH ah
 have a6:Hid (w64 ((↑k2:Int) + 1)=(↑(k2 + 1):Int)):=zH (by have h1:=ai.out;have h2:=ao.out;rw [wAR] <;> omega)
 refine sR fL1 Z (oR Z (zR Z af au) (eN (zC (cT Z ao (kN (zC (zT (sR fL3 Z (bnK az fun aH av a7=>?_)))))))))
 have aO:=aV.le aj
 have q:=aO.el (fun _=>rfl) (wAl av)
 obtain ⟨bl,bp,aR,aS⟩:=q
 refine oR Z (ZR Z aq aR af zF zB (wCa av)) (oL Z (aw.ldC (f:=0) aS (v:=jV aH) Z Z zD Z) (oA Z Z (eN (sR gAx Z (oM Z ap (oM Z Z (bnK a7 fun bs aP a8=>?_)))))))
 have aQ:=aW.le aj
 refine Ze (a:=aH) Z Z Z Z Z Z (zA Z zL) aw aQ Z aP ?_
 rintro ac bh br aJ bd aT ⟨rfl,rfl⟩
 have ax:sW w U ac [] aJ:=aT
 refine oR Z (zy Z Z) (eN (ifc a8 ?_ ?_))
 intro ae ba
 refine zb (nC ae.out) (ZC (zV (zG (rR fL2 Z (oR Z (zj (zS Z af Z) (congrArg (jV) a6.out)) (oM Z Z (zk ?_)))))))
 have q:=hM ba
 obtain rfl:=q
 exact zG ⟨Z,_,Z,⟨ac,Z,ap,aq,au,(aj.trans bd),ax⟩⟩
 intro ae bb
 refine zf (nF (ae.out)) (sR fL1 Z (oA Z Z (eN (zJ (zc (zM ?_))))))
 have q:=wBZ bb
 obtain ⟨be,bc,aL⟩:=q
 have q:=wCp hm ag (aX be aL)
 obtain rfl:=q
 refine zM (zc (zM ?_))
 have hE:=hM bc;first | subst r | cases hE
 exact ⟨Z,_,(zY Z),ac,_,ax,Z,Z⟩
 rintro ⟨⟩ bf bj ⟨aI,aN,bm,bn,aM,bo,aU⟩ aY
 have ay:=wDU hm ag aY
 try dsimp only at ay
 have aK:Hid (¬ ((↑(((↑p0.length:Int):Int) - 0).toNat:Int) < (↑p0.length:Int))):=zH (wBB)
 refine sR fL1 Z (oR Z (zR Z aN aM) (eN (zC (cF Z aK (ZK (ze (ze (ZB (zG (sR fL1 Z (oA Z Z (eN (zJ ?_)))))))))))))
 have hE:=hM ay;first | subst r | cases hE
 exact ⟨Z,_,(zY Z),aI,_,aU,Z,Z⟩
theorem wCi (p0:List Int) (ao:Option Addr) (ap:Nat) (w:World) (U:PHeap) (hS:St0 w U []) (aX:Sl U 1 ao ap p0.length (hD KL.encI p0)) {r:Bool} (hm:wBa p0=some r):Gv Try.prog 40 [.slice ao p0.length ap] w (wBm w [] U (fun U_ L_ v=>v=.bool r/\L_=[])):=by
 unfold wBa at hm
 refine Gv.of Try.func40 Z Try.ntmps40 Try.results40 Z (sR fL1 Z (oA Z Z (eN (sR gAg Z (OKS.makeMap Z Z Z Z Z hS ?_)))))
 intro W1 b2 aT
 have be:=MpR.nil wIX wJU
 refine oA Z Z (eN (zC (sR fL3 Z (oM Z Z (oR Z (zh Z Z zF) (oM Z Z (eN (zT ?_))))))))
 have q:=wCo hm
 obtain ⟨bv,ak⟩:=q
 have q:=wCn ak
 obtain ⟨an,a6⟩:=q
 replace an:=zH an
 refine CK.forN (fun ab aI J_ w_=>∃ (U_:PHeap) (ah:Array MapEntry) (av:Nat),J_ 9=jV (↑ab:Int)/\J_ 3=.map (some b2)/\J_ 7=.slice ao p0.length ap/\J_ 8=jV (↑p0.length:Int)/\PHeap.Le U U_/\sW w U U_ [.obj b2 (.map ah av)] w_/\MpR ah wIX wJU aI) a6 ?_ ?_ ?_
 exact ⟨U,#[],0,Z,Z,Z,Z,(zO _),aT,be⟩
 rintro ab aI bw bi bl am ⟨ae,ah,av,aj,ai,ay,az,aJ,ac,aG⟩ bg aY
 have au:Hid ((↑ab:Int) < (↑p0.length:Int)):=zH (wBg am)
 replace am:=zH am
 have a7:Hid (w64 ((↑ab:Int) + 1)=(↑(ab + 1):Int)):=zH (by have h1:=an.out;have h2:=au.out;rw [wAR] <;> omega)
 refine sR fL1 Z (oR Z (zR Z aj az) (eN (zC (cT Z au (kN (zC (zT (sR fL3 Z (bnK bg fun aq aH a8=>?_)))))))))
 have aQ:=aX.le aJ
 have q:=aQ.el (fun _=>rfl) (wAl aH)
 obtain ⟨bn,bu,aR,aS⟩:=q
 refine oR Z (ZR Z ay aR aj zF zB (wCa aH)) (oL Z (ac.ldC (f:=0) aS (v:=jV aq) Z Z zD Z) (oA Z Z (eN (zC (sR fL3 Z (oM Z ai (oM Z Z (oL Z (ac.lookup1 (j:=0) (mk:=wIX) (mv:=wJU) (a:=aq) (z:=false) Z Z Z Z (wCg Zf) wFY Try.zeroValue4 aG) (eN (ifc a8 ?_ ?_))))))))))
 intro ag ba
 refine zf (congrArg nA ag.out) (sR fL1 Z (oA Z Z (eN (zJ (zM (zc (zM ?_)))))))
 have q:=wBZ ba
 obtain ⟨bh,bb,aN⟩:=q
 have q:=wCp hm ak (aY bh aN)
 obtain rfl:=q
 refine zM (zc (zM ?_))
 have hE:=hM bb;first | subst r | cases hE
 exact ⟨rfl,_,(zY rfl),ae,_,(ac.pick [] _ (by decide) rfl),rfl,rfl⟩
 intro ag bc
 refine zb (congrArg nA (nB.2 ag.out)) (kN (rR gAq rfl (zQ rfl rfl rfl rfl rfl ai (zQ rfl rfl rfl rfl rfl rfl (OKS.mapPut (x:=.tmp 16) (y:=.tmp 17) (j:=0) (mk:=wIX) (mv:=wJU) (a:=aq) (v:=true) rfl rfl rfl (by first | exact .inl rfl | exact .inr rfl) ac rfl rfl rfl rfl (wCg Zf) wFY aG rfl ?_)))))
 intro ax aw aL bf aU
 have aV:sW w U ae [.obj b2 (.map ax aw)] aL:=aU
 refine zk (zV (zG (rR fL2 Z (oR Z (zj (zS Z aj Z) (congrArg (jV) a7.out)) (oM Z Z (zk ?_))))))
 have q:=hM bc
 obtain rfl:=q
 exact zG ⟨Z,_,Z,⟨ae,ax,aw,Z,ai,ay,az,aJ,aV,bf⟩⟩
 rintro bx bj bm ⟨aK,bp,bo,aP,bq,br,aO,bt,aW,bs⟩ aZ
 have bd:=wDU hm ak aZ
 have aM:Hid (¬ ((↑(((↑p0.length:Int):Int) - 0).toNat:Int) < (↑p0.length:Int))):=zH (wBB)
 refine sR fL1 Z (oR Z (zR Z aP aO) (eN (zC (cF Z aM (ZK (ze (ze (ZB (zG (sR fL1 Z (oA Z Z (eN (zJ ?_)))))))))))))
 have hE:=hM bd;first | subst r | cases hE
 exact ⟨rfl,_,(zY rfl),aK,_,(aW.pick [] _ (by decide) rfl),rfl,rfl⟩
theorem wDz (p0:List wAB) (aj:Option Addr) (ak:Nat) (w:World) (U:PHeap) (hS:St0 w U []) (dZ:Sl U 3 aj ak p0.length (hD wAO p0)) {r:Int} (hm:wBb p0=some r):Gv Try.prog 14 [.slice aj p0.length ak] w (wBm w [] U (fun U_ L_ v=>v=jV r/\L_=[])):=by
 unfold wBb at hm
 refine Gv.of Try.func14 Z Try.ntmps14 Try.results14 Z (sR fL1 Z (oA Z Z (eN (zC (sR gAx Z (oM Z Z (oR Z (zh Z Z zX) (bnK hm fun x1 h2 eE=>zK 0 Z Z Z Z (zI Z Z Try.call22 (zA Z (zA Z (zA Z zL))) Z) hS (fun hs=>wCK (↑p0.length:Int) 1 60 w U hs h2) (.inr Z) ?_))))))))
 rintro U4 L5 v6 W7 fd dX ⟨rfl,rfl⟩
 have bJ:sW w U U4 [] W7:=dX
 refine oR Z (zy Z Z) (eN (ifc eE ?_ ?_))
 intro a6 d7
 refine zb (nC a6.out) (kN (sR gAr Z ?_))
 have q:=bnd d7
 obtain ⟨⟨⟩,cp,bT⟩:=q
 try dsimp only at bT
 refine zK 0 Z Z Z Z (zI Z Z Try.call36 zL Z) bJ (fun hs=>wFD W7 U4 hs cp) (.inr Z) ?_
 rintro av fh fN cc eV dw ⟨rfl,rfl⟩
 have dz:sW w U av [] cc:=dw
 refine ZA (cs:=[.nilFunc,jV 0,jV 0,.nilFunc,jV 0,jV 0,.nilFunc,jV 0,jV 0]) Z Z Z Z Z Try.zeroValue97 Z dz ?_
 intro fC ab dF
 let B0:List Value:=[.func (.func 59) #[] #[],jV 1,jV 999,.func (.func 60) #[] #[],jV 1,jV 9999,.func (.func 61) #[] #[],jV 0,jV 30]
 refine zt (j:=0) (vs:=B0) Z Z Z Z dF Z Z Z Z Try.sizeOf97 (zE Z) Z Z Z ?_
 intro cg dL
 have bP:sW w U av [.blk ab 97 B0] cg:=dL
 refine eN (zC (sR fL2 rfl (zz rfl rfl rfl rfl (bP.ldBA (j:=0) rfl rfl rfl Try.isAgg97 Try.sizeOf97 (vs:=B0) rfl rfl) rfl (zQ rfl rfl rfl rfl rfl rfl (eN (zT (CK.unroll 4 (CKR.succ (sR fL1 rfl (zU rfl rfl rfl rfl (fun _=>zR rfl rfl rfl) (eN (zC (zf (ZX (by decide)) (kN (zC (zT (sR (.fl 0 gAi) rfl (zU rfl rfl rfl rfl (fun _=>(Runs.ixA (i:=0) rfl rfl rfl Try.runUnderlying97 zw (by decide) (by decide) (wFe Zi zw rfl))) ?_))))))))))))))))))
 let B1:List Value:=[.nilFunc,jV 0,jV 0]
 refine ZA (cs:=B1) Z Z Z Z Z Zc Z bP ?_
 intro fE an dM
 let B2:List Value:=[.func (.func 59) #[] #[],jV 1,jV 999]
 refine zt (j:=0) (vs:=B2) Z Z Z Z dM Z Z Z Z zw (zE Z) Z Z Z ?_
 intro bv dN
 have bQ:sW w U av [.blk an 96 B2,.blk ab 97 B0] bv:=dN
 refine eN (sR gBg Z (oL Z (bQ.ldBA (j:=0) Z Z Z Zi zw (vs:=B2) Z Z) (oM Z Z ?_)))
 have c3:FnOK Try.prog av (.func (.func 59) #[] #[]) wJS wJT wAS:=⟨59,[],[],rfl,Try.call59,fun U1 w1 x y vs le hs ha hm=>by obtain rfl:=ha;exact wCV x w1 U1 hs  hm⟩
 have cK:=dZ.le fd
 have bH:=cK.le eV
 refine bnK bT fun aU cL eF=>zK 0 Z Z Z Z (zI Z Z Try.call38 (zA Z (zA Z zL)) Z) bQ (fun hs=>wBR (⟨wAS,1,999⟩:wAG) (.func (.func 59) #[] #[]) p0 aj ak bv av hs c3 bH cL) (.inr Z) ?_
 rintro b5 fu fT aO eZ dO ⟨bi,bC,rfl,rfl⟩
 let B3:Res:=.row bi bC 3 1 (hD KL.encI aU)
 have dP:sW w U b5 [B3,.blk an 96 B2,.blk ab 97 B0] aO:=dO
 have q:=dP.freeze (k:=1) rfl
 obtain ⟨br,fb,aH,dQ⟩:=q
 replace aH:=Cl.of aH
 have dR:sW w U br [B3,.blk ab 97 B0] aO:=dQ
 replace aH:Cl br an 0 B2:=aH
 refine oR Z (Zl Z zL (zA Z zL)) ?_
 have q:=dR.freezeR (k:=0) (n:=aU.length) rfl (wAD (f:=KL.encI) (sz:=1) (fun _=>rfl) aU) (by decide)
 obtain ⟨aM,bW,eP,dS⟩:=q
 have dT:sW w U aM [.blk ab 97 B0] aO:=dS
 have cM:=aH.le bW
 have c4:FnOK Try.prog aM (.func (.func 59) #[] #[]) wJS wJT wAS:=⟨59,[],[],rfl,Try.call59,fun U1 w1 x y vs le hs ha hm=>by obtain rfl:=ha;exact wCV x w1 U1 hs  hm⟩
 have c6:FnOK Try.prog aM (.func (.func 39) #[] #[.pointer (some ⟨an,0,none⟩)]) wGk wHg (fun x=>wAZ x (⟨wAS,1,999⟩:wAG)):=⟨39,[],[.pointer (some ⟨an,0,none⟩)],rfl,Try.call39,fun U1 w1 x y vs le hs ha hm=>by obtain rfl:=ha;exact wCq x (⟨wAS,1,999⟩:wAG) an (.func (.func 59) #[] #[]) w1 U1 hs (cM.le le) (c4.le le) hm⟩
 refine bnK eF fun f4 cN eG=>zK 0 Z Z Z Z (zI Z Z Try.call37 (zA Z (zA Z zL)) Z) dT (fun hs=>wCR aU bi bC (fun x=>wAZ x (⟨wAS,1,999⟩:wAG)) (.func (.func 39) #[] #[.pointer (some ⟨an,0,none⟩)]) aO aM hs eP c6 cN) (.inr Z) ?_
 rintro ay fy fV ci fc dU ⟨rfl,rfl⟩
 have bR:sW w U ay [.blk ab 97 B0] ci:=dU
 refine oR Z (zy Z Z) (eN (ifc eG ?_ ?_))
 intro bc eH
 refine zb (nC bc.out) (ZC (zV (zG (rR fL2 rfl (zU rfl rfl rfl rfl (fun _=>zj (zS rfl rfl rfl) (congrArg (jV) (show w64 (0 + 1)=1 by decide))) (zQ rfl rfl rfl rfl rfl rfl (eN (CKR.succ (sR fL1 rfl (zU rfl rfl rfl rfl (fun _=>zR rfl rfl rfl) (eN (zC (zf (ZX (by decide)) (kN (zC (zT (sR (.fl 0 gAi) rfl (zU rfl rfl rfl rfl (fun _=>(Runs.ixA (i:=1) rfl rfl rfl Try.runUnderlying97 zw (by decide) (by decide) (wFe Zi zw rfl))) (ZA (cs:=B1) rfl rfl rfl rfl rfl Zc rfl bR ?_)))))))))))))))))))
 intro fG ao dV
 let B4:List Value:=[.func (.func 60) #[] #[],jV 1,jV 9999]
 refine zt (j:=0) (vs:=B4) Z Z Z Z dV Z Z Z Z zw (zE Z) Z Z Z ?_
 intro bx dW
 have bS:sW w U ay [.blk ao 96 B4,.blk ab 97 B0] bx:=dW
 refine eN (sR gBg Z (oL Z (bS.ldBA (j:=0) Z Z Z Zi zw (vs:=B4) Z Z) (oM Z Z ?_)))
 have c7:FnOK Try.prog ay (.func (.func 60) #[] #[]) wJS wJT wAT:=⟨60,[],[],rfl,Try.call60,fun U1 w1 x y vs le hs ha hm=>by obtain rfl:=ha;exact wCW x w1 U1 hs  hm⟩
 have cO:=bH.le eZ
 have cP:=cO.le fb
 have cQ:=cP.le bW
 have bI:=cQ.le fc
 refine bnK eH fun aV cR eJ=>zK 0 Z Z Z Z (zI Z Z Try.call38 (zA Z (zA Z zL)) Z) bS (fun hs=>wBR (⟨wAT,1,9999⟩:wAG) (.func (.func 60) #[] #[]) p0 aj ak bx ay hs c7 bI cR) (.inr Z) ?_
 rintro b8 fz fW aP fe dY ⟨bj,bD,rfl,rfl⟩
 let B5:Res:=.row bj bD 3 1 (hD KL.encI aV)
 have c8:sW w U b8 [B5,.blk ao 96 B4,.blk ab 97 B0] aP:=dY
 have q:=c8.freeze (k:=1) rfl
 obtain ⟨bn,eQ,az,c9⟩:=q
 replace az:=Cl.of az
 have da:sW w U bn [B5,.blk ab 97 B0] aP:=c9
 replace az:Cl bn ao 0 B4:=az
 refine oR Z (Zl Z zL (zA Z zL)) ?_
 have q:=da.freezeR (k:=0) (n:=aV.length) rfl (wAD (f:=KL.encI) (sz:=1) (fun _=>rfl) aV) (by decide)
 obtain ⟨aK,bU,eK,db⟩:=q
 have de:sW w U aK [.blk ab 97 B0] aP:=db
 have cn:=az.le bU
 have cS:FnOK Try.prog aK (.func (.func 60) #[] #[]) wJS wJT wAT:=⟨60,[],[],rfl,Try.call60,fun U1 w1 x y vs le hs ha hm=>by obtain rfl:=ha;exact wCW x w1 U1 hs  hm⟩
 have cU:FnOK Try.prog aK (.func (.func 39) #[] #[.pointer (some ⟨ao,0,none⟩)]) wGk wHg (fun x=>wAZ x (⟨wAT,1,9999⟩:wAG)):=⟨39,[],[.pointer (some ⟨ao,0,none⟩)],rfl,Try.call39,fun U1 w1 x y vs le hs ha hm=>by obtain rfl:=ha;exact wCq x (⟨wAT,1,9999⟩:wAG) ao (.func (.func 60) #[] #[]) w1 U1 hs (cn.le le) (cS.le le) hm⟩
 refine bnK eJ fun fZ co d6=>zK 0 Z Z Z Z (zI Z Z Try.call37 (zA Z (zA Z zL)) Z) de (fun hs=>wCR aV bj bD (fun x=>wAZ x (⟨wAT,1,9999⟩:wAG)) (.func (.func 39) #[] #[.pointer (some ⟨ao,0,none⟩)]) aP aK hs eK cU co) (.inr Z) ?_
 rintro au ff fL b9 eR df ⟨rfl,rfl⟩
 have bK:sW w U au [.blk ab 97 B0] b9:=df
 refine oR Z (zy Z Z) (eN (ifc d6 ?_ ?_))
 intro a7 d8
 refine zb (nC a7.out) (ZC (zV (zG (rR fL2 rfl (zU rfl rfl rfl rfl (fun _=>zj (zS rfl rfl rfl) (congrArg (jV) (show w64 (1 + 1)=2 by decide))) (zQ rfl rfl rfl rfl rfl rfl (eN (CKR.succ (sR fL1 rfl (zU rfl rfl rfl rfl (fun _=>zR rfl rfl rfl) (eN (zC (zf (ZX (by decide)) (kN (zC (zT (sR (.fl 0 gAi) rfl (zU rfl rfl rfl rfl (fun _=>(Runs.ixA (i:=2) rfl rfl rfl Try.runUnderlying97 zw (by decide) (by decide) (wFe Zi zw rfl))) (ZA (cs:=B1) rfl rfl rfl rfl rfl Zc rfl bK ?_)))))))))))))))))))
 intro fA am dg
 let B6:List Value:=[.func (.func 61) #[] #[],jV 0,jV 30]
 refine zt (j:=0) (vs:=B6) Z Z Z Z dg Z Z Z Z zw (zE Z) Z Z Z ?_
 intro bs dh
 have bL:sW w U au [.blk am 96 B6,.blk ab 97 B0] bs:=dh
 refine eN (sR gBg Z (oL Z (bL.ldBA (j:=0) Z Z Z Zi zw (vs:=B6) Z Z) (oM Z Z ?_)))
 have cV:FnOK Try.prog au (.func (.func 61) #[] #[]) wJS wJT wAY:=⟨61,[],[],rfl,Try.call61,fun U1 w1 x y vs le hs ha hm=>by obtain rfl:=ha;exact wDG x w1 U1 hs  hm⟩
 have cq:=bI.le fe
 have cr:=cq.le eQ
 have ct:=cr.le bU
 have bF:=ct.le eR
 refine bnK d8 fun aR cu d9=>zK 0 Z Z Z Z (zI Z Z Try.call38 (zA Z (zA Z zL)) Z) bL (fun hs=>wBR (⟨wAY,0,30⟩:wAG) (.func (.func 61) #[] #[]) p0 aj ak bs au hs cV bF cu) (.inr Z) ?_
 rintro bX fg fM aN eS di ⟨bf,bz,rfl,rfl⟩
 let B7:Res:=.row bf bz 3 1 (hD KL.encI aR)
 have dl:sW w U bX [B7,.blk am 96 B6,.blk ab 97 B0] aN:=di
 have q:=dl.freeze (k:=1) rfl
 obtain ⟨bo,eT,aG,dm⟩:=q
 replace aG:=Cl.of aG
 have dp:sW w U bo [B7,.blk ab 97 B0] aN:=dm
 replace aG:Cl bo am 0 B6:=aG
 refine oR Z (Zl Z zL (zA Z zL)) ?_
 have q:=dp.freezeR (k:=0) (n:=aR.length) rfl (wAD (f:=KL.encI) (sz:=1) (fun _=>rfl) aR) (by decide)
 obtain ⟨aL,bV,eL,dq⟩:=q
 have dr:sW w U aL [.blk ab 97 B0] aN:=dq
 have cw:=aG.le bV
 have cW:FnOK Try.prog aL (.func (.func 61) #[] #[]) wJS wJT wAY:=⟨61,[],[],rfl,Try.call61,fun U1 w1 x y vs le hs ha hm=>by obtain rfl:=ha;exact wDG x w1 U1 hs  hm⟩
 have cX:FnOK Try.prog aL (.func (.func 39) #[] #[.pointer (some ⟨am,0,none⟩)]) wGk wHg (fun x=>wAZ x (⟨wAY,0,30⟩:wAG)):=⟨39,[],[.pointer (some ⟨am,0,none⟩)],rfl,Try.call39,fun U1 w1 x y vs le hs ha hm=>by obtain rfl:=ha;exact wCq x (⟨wAY,0,30⟩:wAG) am (.func (.func 61) #[] #[]) w1 U1 hs (cw.le le) (cW.le le) hm⟩
 refine bnK d9 fun f0 cx eb=>zK 0 Z Z Z Z (zI Z Z Try.call37 (zA Z (zA Z zL)) Z) dr (fun hs=>wCR aR bf bz (fun x=>wAZ x (⟨wAY,0,30⟩:wAG)) (.func (.func 39) #[] #[.pointer (some ⟨am,0,none⟩)]) aN aL hs eL cX cx) (.inr Z) ?_
 rintro aw fj fO ca eU dt ⟨rfl,rfl⟩
 have bd:sW w U aw [.blk ab 97 B0] ca:=dt
 refine oR Z (zy Z Z) (eN (ifc eb ?_ ?_))
 intro a8 ee
 refine zb (nC a8.out) (ZC (zV (zG (CK.fresh fun aJ aI=>?_))))
 have bE:aJ 0=.slice aj p0.length ak:=(aI 0).trans rfl
 have cj:aJ 3=.pointer (some ⟨ab,0,none⟩):=(aI 3).trans rfl
 have fH:aJ 13=.agg B0.toArray:=(aI 13).trans rfl
 have cm:aJ 14=jV 2:=(aI 14).trans rfl
 clear aI
 refine rR fL2 rfl (zU rfl rfl rfl rfl (fun _=>zj (zS rfl cm rfl) (congrArg (jV) (show w64 (2 + 1)=3 by decide))) (zQ rfl rfl rfl rfl rfl rfl (eN (CKR.succ (sR fL1 rfl (zU rfl rfl rfl rfl (fun _=>zR rfl rfl rfl) (eN (zC (zb (ZD (by decide)) (ZK (ze (ze (ZB (zG (zC (sR fL3 rfl (zU rfl rfl rfl rfl (fun _=>Runs.slAh (k:=2) rfl cj rfl Try.runUnderlying97 zw (by decide)) (zU rfl rfl rfl rfl (fun _=>zh rfl rfl Try.runUnderlying100) (zQ rfl rfl rfl rfl rfl rfl (eN (zT (CK.unroll 3 (CKR.succ (sR fL1 rfl (zU rfl rfl rfl rfl (fun _=>zR rfl rfl rfl) (eN (zC (zf (ZX (by decide)) (kN (zC (zT (sR gAy rfl (zU rfl rfl rfl rfl (fun _=>zj (ZR (k:=0) rfl rfl rfl rfl Try.runUnderlying100 zw (by decide)) rfl) (zz rfl rfl rfl rfl (bd.ldBA (j:=0) rfl rfl rfl Zi zw (vs:=B2) rfl rfl) rfl (ZA (cs:=B1) rfl rfl rfl rfl rfl Zc rfl bd ?_)))))))))))))))))))))))))))))))))))
 intro fB ai du
 refine zt (j:=0) (vs:=B2) Z Z Z Z du Z Z Z Z zw (zE Z) Z Z Z ?_
 intro bt dv
 have bM:sW w U aw [.blk ai 96 B2,.blk ab 97 B0] bt:=dv
 refine eN (sR gAy Z (oL Z (bM.ldBA (j:=0) Z Z Z Zi zw (vs:=B2) Z Z) (oM Z bE ?_)))
 have cY:FnOK Try.prog aw (.func (.func 59) #[] #[]) wJS wJT wAS:=⟨59,[],[],rfl,Try.call59,fun U1 w1 x y vs le hs ha hm=>by obtain rfl:=ha;exact wCV x w1 U1 hs  hm⟩
 have cy:=bF.le eS
 have cz:=cy.le eT
 have cA:=cz.le bV
 have bG:=cA.le eU
 refine bnK ee fun aS cB ef=>zK 0 Z Z Z Z (zI Z Z Try.call38 (zA Z (zA Z zL)) Z) bM (fun hs=>wBR (⟨wAS,1,999⟩:wAG) (.func (.func 59) #[] #[]) p0 aj ak bt aw hs cY bG cB) (.inr Z) ?_
 rintro bY fk fP aY eW dx ⟨bg,bA,rfl,rfl⟩
 have dy:sW w U bY [.row bg bA 3 1 (hD KL.encI aS),.blk ai 96 B2,.blk ab 97 B0] aY:=dx
 have q:=dy.freezeR (k:=0) (n:=aS.length) rfl (wAD (f:=KL.encI) (sz:=1) (fun _=>rfl) aS) (by decide)
 obtain ⟨bp,eX,eM,dA⟩:=q
 have dB:sW w U bp [.blk ai 96 B2,.blk ab 97 B0] aY:=dA
 refine bnK ef fun f1 cD eh=>zK 0 Z Z Z Z (zI Z Z Try.call40 (zA Z zL) Z) dB (fun hs=>wCi aS bg bA aY bp hs eM cD) (.inr Z) ?_
 rintro ax fm fQ cd eY dC ⟨rfl,rfl⟩
 have be:sW w U ax [.blk ai 96 B2,.blk ab 97 B0] cd:=dC
 refine eN (ifc eh ?_ ?_)
 intro ba ej
 refine zf (congrArg nA ba.out) (sR fL1 Z (oA Z Z (eN (zJ (zc (zM (zM (zc (zM ?_)))))))))
 cases ej
 exact ⟨rfl,_,(zY rfl),ax,_,(be.pick [] _ (by decide) rfl),rfl,rfl⟩
 intro ba ek
 refine zb (congrArg nA (nB.2 ba.out)) (ZC (zV (zG (rR fL2 rfl (zU rfl rfl rfl rfl (fun _=>zj (zS rfl rfl rfl) (congrArg (jV) (show w64 (0 + 1)=1 by decide))) (zQ rfl rfl rfl rfl rfl rfl (eN (CKR.succ (sR fL1 rfl (zU rfl rfl rfl rfl (fun _=>zR rfl rfl rfl) (eN (zC (zf (ZX (by decide)) (kN (zC (zT (sR gAy rfl (zU rfl rfl rfl rfl (fun _=>zj (ZR (k:=1) rfl rfl rfl rfl Try.runUnderlying100 zw (by decide)) rfl) (zz rfl rfl rfl rfl (be.ldBA (j:=1) rfl rfl rfl Zi zw (vs:=B4) rfl rfl) rfl (ZA (cs:=B1) rfl rfl rfl rfl rfl Zc rfl be ?_))))))))))))))))))))
 intro fD aQ dD
 refine zt (j:=0) (vs:=B4) Z Z Z Z dD Z Z Z Z zw (zE Z) Z Z Z ?_
 intro bu dE
 have bN:sW w U ax [.blk aQ 96 B4,.blk ai 96 B2,.blk ab 97 B0] bu:=dE
 refine eN (sR gAy Z (oL Z (bN.ldBA (j:=0) Z Z Z Zi zw (vs:=B4) Z Z) (oM Z bE ?_)))
 have cZ:FnOK Try.prog ax (.func (.func 60) #[] #[]) wJS wJT wAT:=⟨60,[],[],rfl,Try.call60,fun U1 w1 x y vs le hs ha hm=>by obtain rfl:=ha;exact wCW x w1 U1 hs  hm⟩
 have cE:=bG.le eW
 have cG:=cE.le eX
 have cH:=cG.le eY
 refine bnK ek fun aT cI en=>zK 0 Z Z Z Z (zI Z Z Try.call38 (zA Z (zA Z zL)) Z) bN (fun hs=>wBR (⟨wAT,1,9999⟩:wAG) (.func (.func 60) #[] #[]) p0 aj ak bu ax hs cZ cH cI) (.inr Z) ?_
 rintro bZ fq fR aZ fI dG ⟨bh,bB,rfl,rfl⟩
 have dH:sW w U bZ [.row bh bB 3 1 (hD KL.encI aT),.blk aQ 96 B4,.blk ai 96 B2,.blk ab 97 B0] aZ:=dG
 have q:=dH.freezeR (k:=0) (n:=aT.length) rfl (wAD (f:=KL.encI) (sz:=1) (fun _=>rfl) aT) (by decide)
 obtain ⟨bq,fJ,eO,dI⟩:=q
 have dJ:sW w U bq [.blk aQ 96 B4,.blk ai 96 B2,.blk ab 97 B0] aZ:=dI
 refine bnK en fun f2 cJ eo=>zK 0 Z Z Z Z (zI Z Z Try.call40 (zA Z zL) Z) dJ (fun hs=>wCi aT bh bB aZ bq hs eO cJ) (.inr Z) ?_
 rintro aW ft fS ch fK dK ⟨rfl,rfl⟩
 have bO:sW w U aW [.blk aQ 96 B4,.blk ai 96 B2,.blk ab 97 B0] ch:=dK
 refine eN (ifc eo ?_ ?_)
 intro bb ep
 refine zf (congrArg nA bb.out) (sR fL1 Z (oA Z Z (eN (zJ (zc (zM (zM (zc (zM ?_)))))))))
 cases ep
 exact ⟨rfl,_,(zY rfl),aW,_,(bO.pick [] _ (by decide) rfl),rfl,rfl⟩
 intro bb ew
 refine zb (congrArg nA (nB.2 bb.out)) (ZC (zV (zG (rR fL2 rfl (zU rfl rfl rfl rfl (fun _=>zj (zS rfl rfl rfl) (congrArg (jV) (show w64 (1 + 1)=2 by decide))) (zQ rfl rfl rfl rfl rfl rfl (eN (CKR.succ (sR fL1 rfl (zU rfl rfl rfl rfl (fun _=>zR rfl rfl rfl) (eN (zC (zb (ZD (by decide)) (ZK (ze (ze (ZB (zG (sR fL1 rfl (ZW rfl rfl rfl rfl rfl rfl (eN (zJ ?_))))))))))))))))))))))
 cases ew
 exact ⟨rfl,_,(zY rfl),aW,_,(bO.pick [] _ (by decide) rfl),rfl,rfl⟩
 intro a8 eA
 refine zf (nF (a8.out)) (sR fL1 Z (oA Z Z (eN (zJ (zc (zM (zM (zc (zM ?_)))))))))
 cases eA
 exact ⟨rfl,_,(zY rfl),aw,_,(bd.pick [] _ (by decide) rfl),rfl,rfl⟩
 intro a7 eB
 refine zf (nF (a7.out)) (sR fL1 Z (oA Z Z (eN (zJ (zc (zM (zM (zc (zM ?_)))))))))
 cases eB
 exact ⟨rfl,_,(zY rfl),au,_,(bK.pick [] _ (by decide) rfl),rfl,rfl⟩
 intro bc eC
 refine zf (nF (bc.out)) (sR fL1 Z (oA Z Z (eN (zJ (zc (zM (zM (zc (zM ?_)))))))))
 cases eC
 exact ⟨rfl,_,(zY rfl),ay,_,(bR.pick [] _ (by decide) rfl),rfl,rfl⟩
 intro a6 eD
 refine zf (nF (a6.out)) (sR fL1 Z (oA Z Z (eN (zJ (zM ?_)))))
 cases eD
 exact ⟨Z,_,(zY Z),U4,_,bJ,Z,Z⟩
end Go.Proofs.Ytnbcoenjobdplaa
namespace Go.Proofs.Ytnbcoenjobdplaa
open Go.KL
set_option maxHeartbeats 4000000
theorem wFE (p0:List wAB) (au:Option Addr) (av:Nat) (w:World) (U:PHeap) (hS:St0 w U []) (bg:Sl U 3 au av p0.length (hD wAO p0)) {r:(Arr Int 31)} (hm:wBO p0=some r):Gv Try.prog 15 [.slice au p0.length av] w (wBm w [] U (fun U_ L_ v=>v=.agg (hD KL.encI r.l).toArray/\L_=[])):=by
 unfold wBO at hm
 refine Gv.of Try.func15 Z Try.ntmps15 Try.results15 Z (sR (.fx 0 .nil .stop) Z (ZA (cs:=hD KL.encI (Arr.fill 31 0).l) Z Z Z Z Z Try.zeroValue56 Z hS ?_))
 intro W1 b2 a7
 have ba:sW w U U [.blk b2 56 (hD KL.encI (Arr.fill 31 0).l)] W1:=a7
 refine eN (sR (.fx 0 .nil .stop) Z (ZA (cs:=hD KL.encI (Arr.fill 31 0).l) Z Z Z Z Z Try.zeroValue56 Z ba ?_))
 intro W6 b7 bf
 have a6:sW w U U [.blk b7 56 (hD KL.encI (Arr.fill 31 0).l),.blk b2 56 (hD KL.encI (Arr.fill 31 0).l)] W6:=bf
 refine eN (zC (sR fL3 Z (oM Z Z (oR Z (zh Z Z zX) (oM Z Z (eN (zT (bnK hm fun ab bh bm=>?_))))))))
 have q:=wBY bh
 obtain ⟨aq,bi⟩:=q
 replace aq:=zH aq
 refine CK.forN' (fun ai ac J_ w_=>∃ (U_:PHeap),J_ 8=jV (↑ai:Int)/\J_ 2=.pointer (some ⟨b2,0,none⟩)/\J_ 3=.pointer (some ⟨b7,0,none⟩)/\J_ 6=.slice au p0.length av/\J_ 7=jV (↑p0.length:Int)/\PHeap.Le U U_/\sW w U U_ [.blk b7 56 (hD KL.encI ac.l),.blk b2 56 (hD KL.encI (Arr.fill 31 0).l)] w_) bi ?_ ?_ ?_
 exact ⟨U,Z,Z,Z,Z,Z,(zO _),a6⟩
 rintro ai ac bA bq bs ap ⟨ak,an,aT,am,az,aG,aM,aJ⟩ bp
 have ay:Hid ((↑ai:Int) < (↑p0.length:Int)):=zH (wBg ap)
 replace ap:=zH ap
 have bl:Hid (w64 ((↑ai:Int) + 1)=(↑(ai + 1):Int)):=zH (by have h1:=aq.out;have h2:=ay.out;rw [wAR] <;> omega)
 refine sR fL1 Z (oR Z (zR Z an aG) (eN (zC (cT Z ay (kN (zC (zT (sR gAy Z (bnK bp fun aa aI bn=>?_)))))))))
 have aX:=bg.le aM
 have q:=aX.el (fun _=>rfl) (wAl aI)
 obtain ⟨bv,bz,aY,aZ⟩:=q
 refine oR Z (ZR Z az aY an zX ZO (wCa aI)) (oL Z (aJ.ldCA (f:=0) aZ Z Z Try.isAgg33 ZO (us:=[jV aa.Bib,jV aa.Nation,jV aa.Rank]) Z Z) (ZA (cs:=[jV 0,jV 0,jV 0]) Z Z Z Z Z Try.zeroValue33 Z aJ ?_))
 intro bt ax a8
 let B0:List Value:=[jV aa.Bib,jV aa.Nation,jV aa.Rank]
 refine zt (j:=0) (vs:=B0) Z Z Z Z a8 Z Z Z Z ZO (zE Z) Z Z Z ?_
 intro aO bb
 have ao:sW w U ak [.blk ax 33 B0,.blk b7 56 (hD KL.encI ac.l),.blk b2 56 (hD KL.encI (Arr.fill 31 0).l)] aO:=bb
 refine eN (rR (wHv (.fx 6 .nil .stop)) Z (oR Z (zN Z Z ZH Z zB) (oL Z (ao.ldB (j:=0) Z Z Z zD (v:=jV aa.Nation) Z) (bnK bn fun _ ag bo=>oR Z (Zn Z am Z zu zB (wCl ag) (wCm ag)) ?_))))
 have bj:=Arr.at_ ac (k:=aa.Nation.toNat) (by have hz0:=wBe ag;omega)
 refine zz rfl rfl rfl rfl (ao.ldB (j:=1) rfl rfl rfl zD (wBF (sz:=1) (fun _=>rfl) _ _ 0 _ bj (by first | omega | rfl | simp) rfl)) rfl (zU rfl rfl rfl rfl (fun _=>zS rfl rfl rfl) (zU rfl rfl rfl rfl (fun _=>Zn rfl am rfl zu zB (wCl ag) (wCm ag)) ?_))
 have bk:=Arr.at_ ac (k:=aa.Nation.toNat) (by have hz0:=wBe ag;omega)
 refine zt (j:=1) (vs:=[jV (w64 ((ac.get aa.Nation.toNat) + 1))]) (cs':=hD KL.encI (ac.set aa.Nation.toNat (w64 ((ac.get aa.Nation.toNat) + 1))).l) rfl rfl rfl rfl ao rfl rfl rfl rfl zB (by have hz0:=wBe ag;simp only [nH,nI,nJ,nE,wAt (f:=KL.encI) (sz:=1) (N:=31) ac (fun _=>rfl) rfl];omega) rfl (wFk (sz:=1) (fo:=0) (fun _=>rfl) _ _ _ _ bk (by first | omega | rfl | simp) (zE rfl) rfl) rfl ?_
 intro aP bc
 have bd:sW w U ak [.blk ax 33 B0,.blk b7 56 (hD KL.encI (ac.set aa.Nation.toNat (w64 ((ac.get aa.Nation.toNat) + 1))).l),.blk b2 56 (hD KL.encI (Arr.fill 31 0).l)] aP:=bc
 refine zk (zV (zG (rR fL2 Z (oR Z (zj (zS Z an Z) (congrArg (jV) bl.out)) (oM Z Z (zk ?_))))))
 cases bo
 exact zG ⟨rfl,⟨ak,rfl,aT,am,az,aG,aM,(bd.pick [1,2] _ (by decide) rfl)⟩⟩
 rintro br bu ⟨aw,aW,aH,aU,bw,aV,bx,aK⟩
 have aS:Hid (¬ ((↑(((↑p0.length:Int):Int) - 0).toNat:Int) < (↑p0.length:Int))):=zH (wBB)
 refine sR fL1 rfl (zU rfl rfl rfl rfl (fun _=>zR rfl aW aV) (eN (zC (cF Z aS (ZK (ze (ze (ZB (zG (sR gAk rfl (zz rfl rfl rfl rfl (aK.ldBA (j:=0) rfl rfl aU Try.isAgg56 Zo (vs:=hD KL.encI ab.l) (wHa ab (fun _=>rfl) rfl) (wAt ab (fun _=>rfl) rfl)) rfl (zt (j:=1) (vs:=hD KL.encI ab.l) rfl rfl rfl rfl aK rfl aH rfl rfl (fun w=>by rw [wAt (f:=KL.encI) (sz:=1) (N:=31) ab (fun _=>rfl) rfl];exact Zo w) (by rw [wAt (f:=KL.encI) (sz:=1) (N:=31) ab (fun _=>rfl) rfl,wAt (f:=KL.encI) (sz:=1) (N:=31) (Arr.fill 31 0) (fun _=>rfl) rfl];exact zE rfl) (wEd (fun _=>rfl) _) (wHD _ _ (by rw [wAt (f:=KL.encI) (sz:=1) (N:=31) ab (fun _=>rfl) rfl,wAt (f:=KL.encI) (sz:=1) (N:=31) (Arr.fill 31 0) (fun _=>rfl) rfl])) rfl ?_))))))))))))
 intro aR be
 have aL:sW w U aw [.blk b7 56 (hD KL.encI ab.l),.blk b2 56 (hD KL.encI ab.l)] aR:=be
 refine eN (zJ ?_)
 have hE:=hM bm;first | subst r | cases hE
 exact ⟨rfl,_,(wGN (v:=.agg (hD KL.encI ab.l).toArray) ⟨⟨_,aH,(wEc Try.isAgg56 Zo (aL.blkAt (k:=1) rfl) (wHa ab (fun _=>rfl) rfl) (wAt ab (fun _=>rfl) rfl))⟩,trivial⟩),aw,_,(aL.pick [] _ (by decide) rfl),rfl,rfl⟩
theorem wDe (p0:List Int) (aj:Option Addr) (ak:Nat) (w:World) (U:PHeap) (hS:St0 w U []) (ap:Sl U 1 aj ak p0.length (hD KL.encI p0)) {r:Int} (hm:wBI p0=some r):Gv Try.prog 41 [.slice aj p0.length ak] w (wBm w [] U (fun U_ L_ v=>v=jV r/\L_=[])):=by
 unfold wBI at hm
 refine Gv.of Try.func41 Z Try.ntmps41 Try.results41 Z (sR fL1 Z (oA Z Z (eN (zC (sR fL3 Z (oM Z Z (oR Z (zh Z Z zF) (oR Z (zR Z Z Z) (eN ?_)))))))))
 by_cases c1:(↑p0.length:Int) < 1
 have aq:=hm;rw [if_pos c1] at aq;replace c1:=zH c1
 refine cT Z c1 (rR gAl Z ?_)
 cases aq
 have au:=hm;rw [if_neg c1] at au;replace c1:=zH c1
 refine cF Z c1 (kN (sR fL4 Z (oM Z Z (bnK au fun x4 h5 aV=>?_))))
 have q:=ap.el (fun _=>rfl) (wAl h5)
 obtain ⟨b7,be,aM,aN⟩:=q
 refine oR Z (ZR Z Z aM Z zF zB (wCa h5)) (oL Z (hS.ldC (f:=0) aN (v:=jV x4) Z Z zD Z) (oA Z Z (eN (zC (sR fL1 Z (oA Z Z (eN (zT (bnK aV fun bg aQ aT=>?_)))))))))
 have q:=wBY aQ
 obtain ⟨ai,aR⟩:=q
 replace ai:=zH ai
 refine CK.forN' (fun ac aw J_ w_=>∃ (U_:PHeap),J_ 4=jV (1 + ↑ac:Int)/\J_ 0=.slice aj p0.length ak/\J_ 3=jV aw/\PHeap.Le U U_/\sW w U U_ [] w_) aR ?_ ?_ ?_
 exact ⟨U,Z,Z,Z,(zO _),hS⟩
 rintro ac aw bf aZ a7 ah ⟨ax,af,ae,aG,av,ao⟩ aW
 have am:Hid ((1 + ↑ac:Int) < (↑p0.length:Int)):=zH (lp_lt ah)
 replace ah:=zH ah
 have aS:Hid (w64 ((1 + ↑ac:Int) + 1)=(1 + ↑(ac + 1):Int)):=zH (by have h1:=ai.out;have h2:=am.out;rw [wAR] <;> omega)
 refine zC (sR fL4 Z (oM Z af (oM Z ae (oR Z (zh Z Z zF) (oR Z (zR Z Z Z) (eN (cT Z am (kN (zC (zT (rR fL7 Z (oM Z aG (oM Z ae (oM Z af (bnK aW fun aX ag aU=>?_)))))))))))))))
 have aK:=ap.le av
 have q:=aK.el (fun _=>rfl) (wAl ag)
 obtain ⟨ba,bd,aL,aO⟩:=q
 refine oR Z (Zb Z Z aL Z zF zB (wCZ ag) (wCf ag)) (oL Z (ao.ldC (f:=0) aO (v:=jV aX) Z Z zD Z) (oR Z (Runs.max Z Z Z) (oA Z Z (zk (zV (zG (rR fL3 Z (oM Z af (oR Z (zj (zS Z Z Z) (congrArg (jV) aS.out)) (oA Z Z (zk ?_)))))))))))
 cases aU
 exact zG ⟨Z,⟨ax,Z,ae,Z,av,ao⟩⟩
 rintro a6 a8 ⟨ay,aJ,aH,aI,bc,aP⟩
 have az:Hid (¬ ((1 + ↑(((↑p0.length:Int):Int) - 1).toNat:Int) < (↑p0.length:Int))):=zH (wKt)
 refine zC (sR fL4 Z (oM Z aJ (oM Z aH (oR Z (zh Z Z zF) (oR Z (zR Z Z Z) (eN (cF Z az (ZK (ze (ze (ZB (zG (sR fL2 Z (oM Z aI (oA Z Z (eN (zJ ?_)))))))))))))))))
 have hE:=hM aT;first | subst r | cases hE
 exact ⟨Z,_,(zY Z),ay,_,aP,Z,Z⟩
theorem wDO (p0:Arr Int 31) (w:World) (U:PHeap) (hS:St0 w U [])  {r:(List Int) × Int} (hm:wAb p0=some r):Gv Try.prog 16 [.agg (hD KL.encI p0.l).toArray] w (wBm w [] U (fun U_ L_ v=>∃ (A0:Option Addr) (c0:Nat),v=.tuple #[.slice A0 r.1.length c0,jV r.2]/\L_=[.row A0 c0 3 1 (hD KL.encI r.1)])):=by
 unfold wAb at hm
 refine Gv.of Try.func16 rfl Try.ntmps16 Try.results16 rfl (sR gAs rfl (zr (cs:=hD KL.encI p0.l) rfl rfl rfl rfl rfl rfl (by rfl) hS ?_))
 intro W1 b2 bg
 have bi:sW w U U [.blk b2 56 (hD KL.encI p0.l)] W1:=bg
 refine oA Z Z (oA Z Z (eN (sR gAt Z (oR Z (Runs.slA Z Z zu zB) ?_))))
 have q:=St.freezeTA (a:=p0) (f:=KL.encI) (sz:=1) bi (k:=0) rfl (fun _=>rfl)
 obtain ⟨U7,bI,bu,ba,bx⟩:=q
 have bc:sW w U U7 [] W1:=ba
 refine bnK hm fun bz a7 bo=>zK 0 Z Z Z Z (zI Z Z Try.call41 (zA (slenA p0 Z) zL) Z) bc (fun hs=>wDe p0.l (some ⟨b2,0,none⟩) 31 W1 U7 hs bu a7) (.inr Z) ?_
 rintro aS bC bJ az bw bd ⟨rfl,rfl⟩
 have be:sW w U aS [] az:=bd
 have q:=bx _ _ _ bw be
 obtain ⟨aj,bH,bf⟩:=q
 have aK:sW w U aj [.blk b2 56 (hD KL.encI p0.l)] az:=bf
 refine oA Z Z (eN (sR fL1 Z (oA Z Z (eN (zC (sR fL2 Z (oL Z (aK.ldBA (j:=0) Z Z Z Try.isAgg56 Zo (vs:=hD KL.encI p0.l) (wHa p0 (fun _=>Z) Z) (wAt p0 (fun _=>Z) Z)) (oM Z Z (eN (zT (bnK bo fun bM bm bp=>?_)))))))))))
 have q:=wBY bm
 obtain ⟨au,bn⟩:=q
 replace au:=zH au
 refine CK.forN' (fun ab ah J_ w_=>∃ (U_:PHeap) (ae:Option Addr) (af:Nat),J_ 11=jV (↑ab:Int)/\J_ 4=jV bz/\J_ 5=.slice ae ah.length af/\J_ 10=.agg (hD KL.encI p0.l).toArray/\PHeap.Le aj U_/\sW w U U_ [.blk b2 56 (hD KL.encI p0.l),.row ae af 3 1 (hD KL.encI ah)] w_) bn ?_ ?_ ?_
 have bh:=aK.nilrow 3 1
 exact ⟨aj,none,0,rfl,rfl,rfl,rfl,(zO _),(bh.pick [1,0] _ (by decide) rfl)⟩
 rintro ab ah bL bA bD aq ⟨ai,ae,af,ag,an,aJ,ao,aO,aL⟩ bv
 have aH:Hid ((↑ab:Int) < 31):=zH (wBg aq)
 replace aq:=zH aq
 have aN:Hid (w64 ((↑ab:Int) + 1)=(↑(ab + 1):Int)):=zH (by have h1:=au.out;have h2:=aH.out;rw [wAR] <;> omega)
 refine sR fL1 rfl (zU rfl rfl rfl rfl (fun _=>zR rfl ag rfl) (eN (zC (cT Z aH (kN (zC (zT (sR fL4 rfl (zQ rfl rfl rfl rfl rfl ag (bnK bv fun bK ap bq=>zU rfl rfl rfl rfl (fun _=>Runs.ixA (cs:=hD KL.encI (p0.l:List Int)) rfl ao ag zu zB (wCZ ap) (by have q_:=wCf ap;rw [(p0).h] at q_;exact q_) (wEu zD (wCj (sz:=1) (fun _=>rfl) _ _ 0 _ _ (wAl ap) rfl))) (ZW rfl rfl rfl rfl rfl rfl (ZW rfl rfl rfl rfl rfl rfl (eN (sR fL3 rfl (zQ rfl rfl rfl rfl rfl rfl (zQ rfl rfl rfl rfl rfl an (zU rfl rfl rfl rfl (fun _=>Runs.eql rfl rfl rfl) (eN (ifc bq ?_ ?_)))))))))))))))))))
 intro am br
 refine cT Z am (rR gBe Z (oM Z aJ (oM Z Z (zq (pv:=[(0,jV (↑ab:Int))]) (zs:=[jV 0]) (cs:=[jV (↑ab:Int)]) Z Z Z Z Z (wAL Z wAg) zF zB zo Z Z Z Z Z aL ?_))))
 intro aT aV bj
 let B0:Res:=.row (some ⟨aV,0,none⟩) 1 3 1 (hD KL.encI [(↑ab:Int)])
 have aM:sW w U ai [B0,.blk b2 56 (hD KL.encI p0.l),.row ae af 3 1 (hD KL.encI ah)] aT:=bj
 refine bnK br fun aP a8 bs=>ZJ (j:=2) (enc:=KL.encI) (xs:=ah) (ys:=[(↑ab:Int)]) (zs:=aP) rfl rfl rfl rfl rfl zn wDF rfl rfl rfl rfl rfl rfl aM rfl rfl rfl (aM.srcR (j:=0) rfl (by decide) (wAD (f:=KL.encI) (sz:=1) (fun _=>rfl) [(↑ab:Int)])) (fun _=>rfl) (fun _=>rfl) a8 rfl ?_
 intro aw aI aU bk
 have bl:sW w U ai [B0,.blk b2 56 (hD KL.encI p0.l),.row aw aI 3 1 (hD KL.encI aP)] aU:=bk
 refine oA Z Z (zk (zV (zG (rR fL2 Z (oR Z (zj (zS Z ag Z) (congrArg (jV) aN.out)) (oM Z Z (zk ?_)))))))
 cases bs
 exact zG ⟨rfl,⟨ai,aw,aI,rfl,an,rfl,ao,aO,(bl.pick [1,2] _ (by decide) rfl)⟩⟩
 intro am bt
 refine cF Z am (ZC (zV (zG (rR fL2 Z (oR Z (zj (zS Z ag Z) (congrArg (jV) aN.out)) (oM Z Z (zk ?_)))))))
 cases bt
 exact zG ⟨Z,⟨ai,ae,af,Z,an,aJ,ao,aO,aL⟩⟩
 rintro bB bE ⟨aR,aQ,aX,a6,aY,aZ,bF,bG,bb⟩
 have aW:Hid (¬ ((↑((31:Int) - 0).toNat:Int) < 31)):=zH (wBB)
 refine sR fL1 Z (oR Z (zR Z a6 Z) (eN (zC (cF Z aW (ZK (ze (ze (ZB (zG (sR fL4 Z (oM Z aZ (oM Z aY (oA Z Z (oA Z Z (eN (zJ ?_))))))))))))))))
 cases bp
 exact ⟨rfl,_,(wFd rfl rfl),aR,_,(bb.pick [1] _ (by decide) rfl),aQ,aX,rfl,rfl⟩
theorem wCS (p0:Int) (w:World) (U:PHeap) (hS:St0 w U [])  {r:Bool} (hm:wBG p0=some r):Gv Try.prog 64 [jV p0] w (wBm w [] U (fun U_ L_ v=>v=.bool r/\L_=[])):=by
 unfold wBG at hm
 refine Gv.of Try.func64 Z Try.ntmps64 Try.results64 Z (sR fL1 Z (oA Z Z (eN (sR fL4 Z (oM Z Z (oM Z Z (oR Z (ZV Z Z Z) (oA Z Z (eN (zJ ?_))))))))))
 first | (obtain rfl:=hM hm) | cases hm
 exact ⟨Z,_,(zY Z),U,_,hS,Z,Z⟩
theorem wEM (p0:Int) (p1:Int) (w:World) (U:PHeap) (hS:St0 w U [])  {r:Int} (hm:wBh p0 p1=some r):Gv Try.prog 44 [jV p0,jV p1] w (wBm w [] U (fun U_ L_ v=>v=jV r/\L_=[])):=by
 unfold wBh at hm
 refine Gv.of Try.func44 Z Try.ntmps44 Try.results44 Z (sR fL1 Z (oA Z Z (eN (sR gAt Z (oM Z Z (bnK hm fun x1 h2 aJ=>zK 0 Z Z Z Z (zI Z Z Try.call64 (zA Z zL) Z) hS (fun hs=>wCS p0 w U hs h2) (.inr Z) ?_))))))
 rintro U4 L5 v6 W7 aR av ⟨rfl,rfl⟩
 have aq:sW w U U4 [] W7:=av
 refine oA Z Z (eN (sR gAt Z (oM Z Z (bnK aJ fun aV ao aw=>zK 0 Z Z Z Z (zI Z Z Try.call64 (zA Z zL) Z) aq (fun hs=>wCS p1 W7 U4 hs ao) (.inr Z) ?_))))
 rintro aa aO aS an aQ au ⟨rfl,rfl⟩
 have ab:sW w U aa [] an:=au
 refine oA Z Z (eN (zC (sR fL1 Z (oM Z Z (eN (ifc aw ?_ ?_))))))
 intro ac ax
 refine zf (congrArg nA ac.out) (zC (sR fL1 Z (oM Z Z (eN (ifc ax ?_ ?_)))))
 intro ae ay
 refine zf (congrArg nA ae.out) (sR fL1 Z (oA Z Z (eN (zJ (zM (zM ?_))))))
 cases ay
 exact ⟨Z,_,(zY Z),aa,_,ab,Z,Z⟩
 intro ae az
 refine zb (congrArg nA (nB.2 ae.out)) (kN (sR fL1 Z (oA Z Z (eN (zJ (zM ?_))))))
 cases az
 exact ⟨Z,_,(zY Z),aa,_,ab,Z,Z⟩
 intro ac aG
 refine zb (congrArg nA (nB.2 ac.out)) (kN (zC (sR fL1 Z (oM Z Z (eN (ifc aG ?_ ?_))))))
 intro af aH
 refine zf (congrArg nA af.out) (sR fL1 Z (oA Z Z (eN (zJ (zM ?_)))))
 cases aH
 exact ⟨Z,_,(zY Z),aa,_,ab,Z,Z⟩
 intro af aI
 refine zb (congrArg nA (nB.2 af.out)) (kN (zC (sR fL3 Z (oM Z Z (oM Z Z (oR Z (zR Z Z Z) (eN (ifc aI ?_ ?_))))))))
 intro ag aK
 refine cT Z ag (sR fL1 Z (oA Z Z (eN (zJ (zM ?_)))))
 cases aK
 exact ⟨Z,_,(zY Z),aa,_,ab,Z,Z⟩
 intro ag aL
 refine cF Z ag (kN (zC (sR fL3 Z (oM Z Z (oM Z Z (oR Z (Zh Z Z Z) (eN (ifc aL ?_ ?_))))))))
 intro ah aM
 refine cT Z ah (sR fL1 Z (oA Z Z (eN (zJ (zM ?_)))))
 cases aM
 exact ⟨Z,_,(zY Z),aa,_,ab,Z,Z⟩
 intro ah aN
 refine cF Z ah (kN (sR fL1 Z (oA Z Z (eN (zJ ?_)))))
 cases aN
 exact ⟨Z,_,(zY Z),aa,_,ab,Z,Z⟩
theorem wEj (p0:Int) (p1:Int) (p2:List wAB) (an:Nat) (ac:Option Addr) (ae:Nat) (w:World) (U:PHeap) (hS:St0 w U []) (ai:Cl U an 0 [.slice ac p2.length ae]) (aj:Sl U 3 ac ae p2.length (hD wAO p2)) {r:Int} (hm:wAc p0 p1 p2=some r):Gv Try.prog 43 [jV p0,jV p1,.pointer (some ⟨an,0,none⟩)] w (wBm w [] U (fun U_ L_ v=>v=jV r/\L_=[])):=by
 unfold wAc at hm
 refine Gv.of Try.func43 rfl Try.ntmps43 Try.results43 rfl (sR fL1 rfl (ZW rfl rfl rfl rfl rfl rfl (eN (zC (ZT ZU [1,3,3,3,1,1,3,3,3,1,2,3] (wLd (.fx 10 (.fl 11 .nil) .stop)) (by kernel_rfl) ?_)))))
 have aa:=hS.drew
 generalize hw_W2:({ w with drawn:=w.drawn + 1 }:World)=W2 at aa ⊢
 refine oL Z (aa.ldC (f:=0) ai (v:=.slice ac p2.length ae) Z Z ZP Z) (oM Z Z (bnK hm fun x3 h4 aK=>?_))
 have q:=aj.el (fun _=>rfl) (wAl h4)
 obtain ⟨b6,aQ,ax,az⟩:=q
 refine oR Z (Zb Z Z ax Z zX ZO (wCZ h4) (wCf h4)) (oR Z (zN Z Z ZH Z zB) (oL Z (aa.ldC (f:=2) az (v:=jV x3.Rank) Z Z zD Z) (oL Z (aa.ldC (f:=0) ai (v:=.slice ac p2.length ae) Z Z ZP Z) (oM Z Z (bnK aK fun ao af aI=>?_)))))
 have q:=aj.el (fun _=>rfl) (wAl af)
 obtain ⟨aM,aP,aw,ay⟩:=q
 refine oR Z (Zb Z Z aw Z zX ZO (wCZ af) (wCf af)) (oR Z (zN Z Z ZH Z zB) (oL Z (aa.ldC (f:=2) ay (v:=jV ao.Rank) Z Z zD Z) (bnK aI fun aS av aJ=>zK 0 Z Z Z Z (zI Z Z Try.call44 (zA Z (zA Z zL)) Z) aa (fun hs=>wEM x3.Rank ao.Rank W2 U hs av) (.inr Z) ?_)))
 rintro ah aL aR au aO aG ⟨rfl,rfl⟩
 have aH:sW w U ah [] au:=aG
 refine oA Z Z (eN (zJ ?_))
 have hE:=hM aJ;first | subst r | cases hE
 exact ⟨Z,_,(zY Z),ah,_,aH,Z,Z⟩
theorem wCz (p0:List Int) (ab:Option Addr) (ac:Nat) (p1:((Int × Int)->Option Int)) (ae:Value) (w:World) (U:PHeap) (hS:St ⟨w,[.row ab ac 3 1 (hD KL.encI p0)],U⟩ U [.row ab ac 3 1 (hD KL.encI p0)] w) (ag:FnOK Try.prog U ae ar31 rr31 p1) (ah:∃ g cb,ae=.func (.func g) #[] cb) {r:List Int} (hm:wBd p0 p1=some r):Gv Try.prog 42 [.slice ab p0.length ac,ae] w (wBm w [.row ab ac 3 1 (hD KL.encI p0)] U (fun U_ L_ v=>v=.tuple #[]/\L_=[.row ab ac 3 1 (hD KL.encI r)]/\r.length=p0.length)) :=
 wIW (enc1:=(fun x=>.int .i64 x)) (fun _=>rfl) (fun _=>rfl) (fun _ _ _=>rfl) (fun _ _ _ _ h=>h.1) (fun enc a cf b g cb k1 k2 k3 d w h1 h2 h3 h4 h5 h6=>Go.Proofs.Try.slices_SortFunc_total enc a cf b g cb k1 k2 k3 d w h1 h2 h3 h4 h5 h6) (fun p c v w=>Go.Proofs.Try.slices_SortFunc_none (α:=Int) p c v w) hS ag ah hm
theorem wDi (p0:List wAB) (ah:Option Addr) (ai:Nat) (w:World) (U:PHeap) (hS:St0 w U []) (bm:Sl U 3 ah ai p0.length (hD wAO p0)) {r:(List Int)} (hm:wBK p0=some r):Gv Try.prog 17 [.slice ah p0.length ai] w (wBm w [] U (fun U_ L_ v=>∃ (A0:Option Addr) (c0:Nat),v=.slice A0 r.length c0/\L_=[.row A0 c0 3 1 (hD KL.encI r)])):=by
 unfold wBK at hm
 refine Gv.of Try.func17 rfl Try.ntmps17 Try.results17 rfl (sR gAg rfl (zr (cs:=[.slice ah p0.length ai]) rfl rfl rfl rfl rfl rfl (by rfl) hS ?_))
 intro W1 b2 be
 have q:=be.freeze (k:=0) rfl
 obtain ⟨U5,bx,ag,bk⟩:=q
 replace ag:=Cl.of ag
 have aJ:sW w U U5 [] W1:=bk
 replace ag:Cl U5 b2 0 [.slice ah p0.length ai]:=ag
 refine oA Z Z (eN (sR gAx Z (oL Z (aJ.ldC (f:=0) ag (v:=.slice ah p0.length ai) Z Z ZP Z) (oR Z (zh Z Z zX) (bnK hm fun ab aY br=>OKS.makeSlice (enc:=KL.encI) (z:=(0:Int)) (v:=jV 0) Z Z Z Z Z (wCg zF) wDF Z Z Z Z Z Z aY aJ ?_)))))
 intro aP ae bd
 have aI:sW w U U5 [.row (some ⟨ae,0,none⟩) ab.length 3 1 (hD KL.encI ab)] aP:=bd
 refine oA Z Z (eN (zC (sR fL3 Z (oL Z (aI.ldC (f:=0) ag (v:=.slice ah p0.length ai) Z Z ZP Z) (oR Z (zh Z Z zX) (oM Z Z (eN (zT (bnK br fun aM bn bs=>?_)))))))))
 have q:=wBY bn
 obtain ⟨ap,bo⟩:=q
 replace ap:=zH ap
 refine CK.forN' (fun ac af J_ w_=>∃ (U_:PHeap),J_ 10=jV (↑ac:Int)/\J_ 1=.pointer (some ⟨b2,0,none⟩)/\J_ 3=.slice (some ⟨ae,0,none⟩) af.length ab.length/\J_ 9=jV (↑p0.length:Int)/\PHeap.Le U5 U_/\sW w U U_ [.row (some ⟨ae,0,none⟩) ab.length 3 1 (hD KL.encI af)] w_/\af.length=ab.length) bo ?_ ?_ ?_
 exact ⟨U5,Z,Z,Z,Z,(zO _),aI,Z⟩
 rintro ac af bH bA bD ao ⟨au,am,aU,az,aG,bw,bf,aZ⟩ bv
 have ay:Hid ((↑ac:Int) < (↑p0.length:Int)):=zH (wBg ao)
 replace ao:=zH ao
 have bq:Hid (w64 ((↑ac:Int) + 1)=(↑(ac + 1):Int)):=zH (by have h1:=ap.out;have h2:=ay.out;rw [wAR] <;> omega)
 refine sR fL1 Z (oR Z (zR Z am aG) (eN (zC (cT Z ay (kN (zC (zT (sR fL2 Z (oM Z am (oA Z Z (eN (rR (wGF (.fx 4 .nil .stop)) Z (oM Z az (oM Z Z (oM Z Z (bnK bv fun _ an bt=>oR Z (ZR Z Z Z Z zF zB (wBe an)) ?_))))))))))))))))
 have bp:=wCu (xs:=af) (wBe an)
 refine OKS.stR (j:=0) (vs:=[jV (↑ac:Int)]) (cs':=hD KL.encI (List.set af ac (↑ac:Int))) rfl rfl rfl rfl bf rfl rfl rfl rfl rfl zB (by rw [wAD (f:=KL.encI) (sz:=1) (fun _=>rfl)];have hz:=wBe an;show _ + 1 <= _;first | omega | (simp only [nE];omega) | (simp only [nN,nK,nL];omega)) rfl (wFk (sz:=1) (fo:=0) (fun _=>rfl) _ _ _ _ bp (by first | omega | (simp only [nE];omega) | (simp only [nN,nK,nL];omega)) (zE rfl) rfl) rfl ?_
 intro aQ bg
 have bh:sW w U au [.row (some ⟨ae,0,none⟩) ab.length 3 1 (hD KL.encI (List.set af ac (↑ac:Int)))] aQ:=bg
 refine zk (zV (zG (rR fL2 Z (oR Z (zj (zS Z am Z) (congrArg (jV) bq.out)) (oM Z Z (zk ?_))))))
 cases bt
 exact zG ⟨rfl,⟨au,rfl,aU,(Eq.trans (b:=(.slice (some ⟨ae,0,none⟩) af.length ab.length:Value)) (c:=(.slice (some ⟨ae,0,none⟩) ((List.set af ac (↑ac:Int)).length) ab.length:Value)) az (by simp only [List.length_set])),aG,bw,bh,(List.length_set.trans aZ)⟩⟩
 rintro bB aR ⟨av,aX,aV,aH,aW,aK,bi,bE⟩
 have aT:Hid (¬ ((↑(((↑p0.length:Int):Int) - 0).toNat:Int) < (↑p0.length:Int))):=zH (wBB)
 refine sR fL1 Z (oR Z (zR Z aX aW) (eN (zC (cF Z aT (ZK (ze (ze (ZB (zG (sR gAq Z (oM Z aH (oR Z (Zl Z zL (zA aV zL)) ?_))))))))))))
 have a6:=ag.le aK
 have a7:=bm.le bx
 have a8:=a7.le aK
 have bc:FnOK Try.prog av (.func (.func 43) #[] #[.pointer (some ⟨b2,0,none⟩)]) ar31 rr31 (fun x=>wAc x.1 x.2 p0):=⟨43,[],[.pointer (some ⟨b2,0,none⟩)],rfl,Try.call43,fun U1 w1 x y vs le hs ha hm=>by obtain rfl:=ha;exact wEj x.1 x.2 p0 b2 ah ai w1 U1 hs (a6.le le) (a8.le le) hm⟩
 refine bnK bs fun aL ba bu=>zK 1 Z Z Z Z (zI Z Z Try.call42 (zA Z (zA Z zL)) Z) bi (fun hs=>wCz aM (some ⟨ae,0,none⟩) ab.length (fun x=>wAc x.1 x.2 p0) (.func (.func 43) #[] #[.pointer (some ⟨b2,0,none⟩)]) aR av hs bc ⟨_,_,Z⟩ ba) (.inl Z) ?_
 rintro aw bC bG aS bF bj ⟨rfl,rfl,bb⟩
 have bl:sW w U aw [.row (some ⟨ae,0,none⟩) ab.length 3 1 (hD KL.encI aL)] aS:=bj
 refine eN (sR fL2 rfl (zQ rfl rfl rfl rfl rfl (Eq.trans (b:=(.slice (some ⟨ae,0,none⟩) aM.length ab.length:Value)) (c:=(.slice (some ⟨ae,0,none⟩) aL.length ab.length:Value)) aH (by rw [bb])) (ZW rfl rfl rfl rfl rfl rfl (eN (zJ ?_)))))
 have hE:=hM bu;first | subst r | cases hE
 exact ⟨Z,_,(zY Z),aw,_,bl,(some ⟨ae,0,none⟩),ab.length,Z,Z⟩
theorem wDQ (p0:Int) (p1:List wAB) (aj:Nat) (af:Option Addr) (ag:Nat) (p2:Int) (ak:Nat) (w:World) (U:PHeap) (hS:St0 w U []) (ao:Cl U aj 0 [.slice af p1.length ag]) (ap:Sl U 3 af ag p1.length (hD wAO p1)) (aq:Cl U ak 0 [jV p2]) {r:Bool} (hm:wAd p0 p1 p2=some r):Gv Try.prog 19 [jV p0,.pointer (some ⟨aj,0,none⟩),.pointer (some ⟨ak,0,none⟩)] w (wBm w [] U (fun U_ L_ v=>v=.bool r/\L_=[])):=by
 unfold wAd at hm
 refine Gv.of Try.func19 rfl Try.ntmps19 Try.results19 rfl (sR fL1 rfl (ZW rfl rfl rfl rfl rfl rfl (eN (zC (ZT ZU [1,3,3,3,1,1,3,3] fL8 (by kernel_rfl) ?_)))))
 have aa:=hS.drew
 generalize hw_W2:({ w with drawn:=w.drawn + 1 }:World)=W2 at aa ⊢
 refine oL Z (aa.ldC (f:=0) ao (v:=.slice af p1.length ag) Z Z ZP Z) (oM Z Z (bnK hm fun x3 h4 ah=>?_))
 have q:=ap.el (fun _=>rfl) (wAl h4)
 obtain ⟨b6,ax,am,an⟩:=q
 refine oR Z (Zb Z Z am Z zX ZO (wCZ h4) (wCf h4)) (oR Z (zN Z Z ZH Z zB) (oL Z (aa.ldC (f:=1) an (v:=jV x3.Nation) Z Z zD Z) (oL Z (aa.ldC (f:=0) aq (v:=jV p2) Z Z zD Z) (oR Z (Runs.eql Z Z Z) (oA Z Z (eN (zJ ?_)))))))
 first | (obtain rfl:=hM ah) | cases ah
 exact ⟨Z,_,(zY Z),U,_,aa,Z,Z⟩
theorem wBT (p0:List Int) (ak:Option Addr) (am:Nat) (p1:(Int->Option Bool)) (an:Value) (w:World) (U:PHeap) (hS:St0 w U []) (aV:Sl U 1 ak am p0.length (hD KL.encI p0)) (aW:FnOK Try.prog U an wGk wHg p1) {r:Int} (hm:wAN p0 p1=some r):Gv Try.prog 18 [.slice ak p0.length am,an] w (wBm w [] U (fun U_ L_ v=>v=jV r/\L_=[])):=by
 unfold wAN at hm
 refine Gv.of Try.func18 Z Try.ntmps18 Try.results18 Z (sR fL1 Z (oA Z Z (eN (zC (sR fL3 Z (oM Z Z (oR Z (zh Z Z zF) (oM Z Z (eN (zT ?_))))))))))
 have q:=wCo hm
 obtain ⟨r3,ag⟩:=q
 have q:=wCn ag
 obtain ⟨ai,aZ⟩:=q
 replace ai:=zH ai
 refine CK.forN (fun k2 _ J_ w_=>∃ (U_:PHeap),J_ 8=jV (↑k2:Int)/\J_ 0=.slice ak p0.length am/\J_ 1=an/\J_ 7=jV (↑p0.length:Int)/\PHeap.Le U U_/\sW w U U_ [] w_) aZ ?_ ?_ ?_
 exact ⟨U,Z,Z,Z,Z,(zO _),hS⟩
 rintro k2 ⟨⟩ bt J7 W8 ah ⟨bi,af,ap,aq,au,aj,aw⟩ az aX
 try dsimp only at az
 have ao:Hid ((↑k2:Int) < (↑p0.length:Int)):=zH (wBg ah)
 replace ah:=zH ah
 have a6:Hid (w64 ((↑k2:Int) + 1)=(↑(k2 + 1):Int)):=zH (by have h1:=ai.out;have h2:=ao.out;rw [wAR] <;> omega)
 refine sR fL1 Z (oR Z (zR Z af au) (eN (zC (cT Z ao (kN (zC (zT (sR fL2 Z (oM Z af (oA Z Z (eN (sR (wEp (.fx 5 .nil .stop)) Z (oM Z aq (oM Z ap (oM Z Z (bnK az fun aH av a7=>?_))))))))))))))))
 have aO:=aV.le aj
 have q:=aO.el (fun _=>rfl) (wAl av)
 obtain ⟨bl,bp,aR,aS⟩:=q
 refine oR Z (ZR Z Z aR Z zF zB (wCa av)) (oL Z (aw.ldC (f:=0) aS (v:=jV aH) Z Z zD Z) (bnK a7 fun bs aP a8=>?_))
 have aQ:=aW.le aj
 refine Ze (a:=aH) Z Z Z Z Z Z (zA Z zL) aw aQ Z aP ?_
 rintro ac bh br aJ bd aT ⟨rfl,rfl⟩
 have ax:sW w U ac [] aJ:=aT
 refine eN (ifc a8 ?_ ?_)
 intro ae ba
 refine zf (congrArg nA ae.out) (sR fL2 Z (oM Z Z (oA Z Z (eN (zJ (zc (zM ?_)))))))
 have q:=wBZ ba
 obtain ⟨be,bb,aL⟩:=q
 have q:=wCp hm ag (aX be aL)
 obtain rfl:=q
 refine zM (zc (zM ?_))
 cases bb
 exact ⟨Z,_,(zY Z),ac,_,ax,Z,Z⟩
 intro ae bc
 refine zb (congrArg nA (nB.2 ae.out)) (ZC (zV (zG (rR fL2 Z (oR Z (zj (zS Z af Z) (congrArg (jV) a6.out)) (oM Z Z (zk ?_)))))))
 have q:=hM bc
 obtain rfl:=q
 exact zG ⟨Z,_,Z,⟨ac,Z,ap,aq,au,(aj.trans bd),ax⟩⟩
 rintro ⟨⟩ bf bj ⟨aI,aN,bm,bn,aM,bo,aU⟩ aY
 have ay:=wDU hm ag aY
 try dsimp only at ay
 have aK:Hid (¬ ((↑(((↑p0.length:Int):Int) - 0).toNat:Int) < (↑p0.length:Int))):=zH (wBB)
 refine sR fL1 Z (oR Z (zR Z aN aM) (eN (zC (cF Z aK (ZK (ze (ze (ZB (zG (sR fL1 Z (oA Z Z (eN (zJ ?_)))))))))))))
 cases ay
 exact ⟨Z,_,(zY Z),aI,_,aU,Z,Z⟩
theorem wCT (p0:List Int) (ab:Option Addr) (ac:Nat) (p1:Int) (p2:Int) (w:World) (U:PHeap) (hS:St ⟨w,[.row ab ac 3 1 (hD KL.encI p0)],U⟩ U [.row ab ac 3 1 (hD KL.encI p0)] w) {r:List Int} (hm:wAu p0 p1 p2=some r):Gv Try.prog 20 [.slice ab p0.length ac,.int .i64 p1,.int .i64 p2] w (wBm w [.row ab ac 3 1 (hD KL.encI p0)] U (fun U_ L_ v=>∃ (A0:Option Addr) (c0:Nat),v=.slice A0 r.length c0/\L_=[.row A0 c0 3 1 (hD KL.encI r)])) :=
 wFW (z:=.int .i64 0) (fun _=>rfl) (by omega) (fun _=>rfl) rfl (fun b c n i j cs w h1 h2 h3 h4 h5 h6 h7 h8=>Go.Proofs.delCalls20 b c n i j cs w h1 h2 h3 h4 h5 h6 h7 h8) hS hm
theorem wFR (p0:List wAB) (am:Option Addr) (an:Nat) (w:World) (U:PHeap) (hS:St0 w U []) (lw:Sl U 3 am an p0.length (hD wAO p0)) {r:(List Int) × Int × Int} (hm:wBs p0=some r):Gv Try.prog 7 [.slice am p0.length an] w (wBm w [] U (fun U_ L_ v=>∃ (A0:Option Addr) (c0:Nat),v=.tuple #[.slice A0 r.1.length c0,jV r.2.1,jV r.2.2]/\L_=[.row A0 c0 3 1 (hD KL.encI r.1)])):=by
 unfold wBs at hm
 refine Gv.of Try.func7 rfl Try.ntmps7 Try.results7 rfl (sR (.fx 0 (fC1_3 (.nil)) .stop) rfl (zr (cs:=[.slice am p0.length an]) rfl rfl rfl rfl rfl rfl (by rfl) hS ?_))
 intro W1 b2 ju
 have q:=ju.freeze (k:=0) rfl
 obtain ⟨U5,n5,bS,lu⟩:=q
 replace bS:=Cl.of bS
 have eU:sW w U U5 [] W1:=lu
 replace bS:Cl U5 b2 0 [.slice am p0.length an]:=bS
 refine oA Z Z (oA Z Z (oA Z Z (eN (zC (sR gAt Z (oL Z (eU.ldC (f:=0) bS (v:=.slice am p0.length an) Z Z ZP Z) ?_))))))
 have eo:=lw.le n5
 refine bnK hm fun pP ik lT=>zK 0 Z Z Z Z (zI Z Z Try.call14 (zA Z zL) Z) eU (fun hs=>wDz p0 am an W1 U5 hs eo ik) (.inr Z) ?_
 rintro cj oE pE dJ fb jd ⟨rfl,rfl⟩
 have cY:sW w U cj [] dJ:=jd
 refine oA Z Z (eN (sR fL2 Z (oM Z Z (oR Z (ZV Z Z Z) (eN (ifc lT ?_ ?_))))))
 intro cB l3
 refine zb (ZD (fun h=>h cB.out)) (kN (sR (.fl 0 (.fx 1 gAh .stop)) Z ?_))
 have ew:=bS.le fb
 refine oL Z (cY.ldC (f:=0) ew (v:=.slice am p0.length an) Z Z ZP Z) ?_
 have cS:=eo.le fb
 refine bnK l3 fun a6 im mg=>zK 0 Z Z Z Z (zI Z Z Try.call15 (zA Z zL) Z) cY (fun hs=>wFE p0 am an dJ cj hs cS im) (.inr Z) ?_
 rintro bY oG pF fI dp jA ⟨rfl,rfl⟩
 have jC:sW w U bY [] fI:=jA
 refine ZA (cs:=hD KL.encI (Arr.fill 31 0).l) Z Z Z Z Z Try.zeroValue56 Z jC ?_
 intro fK aa jH
 have jL:sW w U bY [.blk aa 56 (hD KL.encI (Arr.fill 31 0).l)] fK:=jH
 refine zt (j:=0) (vs:=hD KL.encI a6.l) rfl rfl rfl rfl jL rfl rfl rfl rfl (fun w=>by rw [wAt (f:=KL.encI) (sz:=1) (N:=31) a6 (fun _=>rfl) rfl];exact Zo w) (by rw [wAt (f:=KL.encI) (sz:=1) (N:=31) a6 (fun _=>rfl) rfl,wAt (f:=KL.encI) (sz:=1) (N:=31) (Arr.fill 31 0) (fun _=>rfl) rfl];exact zE rfl) (wEd (fun _=>rfl) _) (wHD _ _ (by rw [wAt (f:=KL.encI) (sz:=1) (N:=31) a6 (fun _=>rfl) rfl,wAt (f:=KL.encI) (sz:=1) (N:=31) (Arr.fill 31 0) (fun _=>rfl) rfl])) rfl ?_
 intro dL jM
 have eO:sW w U bY [.blk aa 56 (hD KL.encI a6.l)] dL:=jM
 refine eN (sR (.fl 0 (.fx 1 (wJP (.nil)) .stop)) Z (oL Z (eO.ldBA (j:=0) Z Z Z Try.isAgg56 Zo (vs:=hD KL.encI a6.l) (wHa a6 (fun _=>Z) Z) (wAt a6 (fun _=>Z) Z)) ?_))
 have q:=bnd mg
 obtain ⟨⟨fk,oi⟩,iJ,eW⟩:=q
 try dsimp only at eW
 refine zK 0 Z Z Z Z (zI Z Z Try.call16 (zA Z zL) Z) eO (fun hs=>wDO a6 dL bY hs iJ) (.inr Z) ?_
 rintro cp oK pK cy dr jS ⟨dC,dU,rfl,rfl⟩
 let B0:Res:=.row dC dU 3 1 (hD KL.encI fk)
 have bT:sW w U cp [B0,.blk aa 56 (hD KL.encI a6.l)] cy:=jS
 refine oM Z Z (oR Z (ZF Z Z (v:=.slice dC fk.length dU) Z) (oR Z (ZF Z Z (v:=jV oi) Z) (oA Z Z (oA Z Z (eN (sR fL3 Z ?_))))))
 have iK:=ew.le dp
 have bP:=iK.le dr
 refine oL Z (bT.ldC (f:=0) bP (v:=.slice am p0.length an) Z Z ZP Z) (oR Z (zh Z Z zX) (oA Z Z (eN (zC (sR fL2 Z (oM Z Z (oR Z (Zh Z Z Z) (eN (ifc eW ?_ ?_)))))))))
 intro cG mH
 refine cT Z cG (rR fL9 Z (oL Z (bT.ldC (f:=0) bP (v:=.slice am p0.length an) Z Z ZP Z) (oR Z (zh Z Z zX) (oM Z Z (oR Z (zh Z Z zF) (oR Z (ZN Z Z Z) (oM Z Z (oR Z (ZN Z Z Z) (bnK mH fun dx iL mO=>oR Z (Runs.quo Z Z Z iL) (oA Z Z (eN (sR gAt Z (oL Z (bT.ldC (f:=0) bP (v:=.slice am p0.length an) Z Z ZP Z) ?_)))))))))))))
 have iM:=cS.le dp
 have eE:=iM.le dr
 refine bnK mO fun ol iU mQ=>zK 0 Z Z Z Z (zI Z Z Try.call17 (zA Z zL) Z) bT (fun hs=>wDi p0 am an cy cp hs eE iU) (.inr Z) ?_
 rintro cu oP pN fW fh ln ⟨dF,dY,rfl,rfl⟩
 have ls:sW w U cu [.row dF dY 3 1 (hD KL.encI ol),B0,.blk aa 56 (hD KL.encI a6.l)] fW:=ln
 refine oA Z Z (eN (sR gAg Z (OKS.makeMap Z Z Z Z Z ls ?_)))
 intro pa ag eT
 have m0:=MpR.nil wJY wKB
 refine oA Z Z (eN (sR fL1 Z (oA Z Z (eN (zC (sR fL3 Z ?_))))))
 have eG:=bP.le fh
 refine oL Z (eT.ldC (f:=0) eG (v:=.slice am p0.length an) Z Z ZP Z) (oR Z (zh Z Z zX) (oM Z Z (eN (zT ?_))))
 have q:=bnd mQ
 obtain ⟨⟨pW,pX,pY,pZ⟩,lx,eV⟩:=q
 try dsimp only at eV
 have q:=wBY lx
 obtain ⟨db,ly⟩:=q
 replace db:=zH db
 refine CK.forN' (fun bc (ca,ac,aq,bF) J_ w_=>∃ (U_:PHeap) (ah:Array MapEntry) (aj:Nat) (bm:Option Addr) (bo:Nat) (bJ:Option Addr) (bN:Nat),J_ 49=jV (↑bc:Int)/\J_ 1=.pointer (some ⟨b2,0,none⟩)/\J_ 6=.pointer (some ⟨aa,0,none⟩)/\J_ 9=jV dx/\J_ 10=.slice bm aq.length bo/\J_ 11=.map (some ag)/\J_ 12=.slice bJ bF.length bN/\J_ 48=jV (↑p0.length:Int)/\PHeap.Le cu U_/\sW w U U_ [.obj ag (.map ah aj),.blk aa 56 (hD KL.encI ac.l),.row bm bo 3 1 (hD KL.encI aq),.row bJ bN 3 1 (hD KL.encI bF)] w_/\MpR ah wJY wKB ca) ly ?_ ?_ ?_
 have i9:=eT.nilrow 3 1
 exact ⟨cu,#[],0,dF,dY,none,0,rfl,rfl,rfl,rfl,rfl,rfl,rfl,rfl,(zO _),(i9.pick [1,4,2,0] _ (by decide) rfl),m0⟩
 rintro bc ⟨ca,ac,aq,bF⟩ pS ot oV c7 ⟨cm,ah,aj,bm,bo,bJ,bN,cO,gc,d9,ge,gf,gg,gh,eb,dh,ja,ep⟩ eY
 try dsimp only at eY
 have dO:Hid ((↑bc:Int) < (↑p0.length:Int)):=zH (wBg c7)
 replace c7:=zH c7
 have lP:Hid (w64 ((↑bc:Int) + 1)=(↑(bc + 1):Int)):=zH (by have h1:=db.out;have h2:=dO.out;rw [wAR] <;> omega)
 refine sR fL1 Z (oR Z (zR Z cO eb) (eN (zC (cT Z dO (kN (zC (zT (sR fL2 Z (oM Z cO (oA Z Z (eN (sR gAl Z (ZA (cs:=[jV 0]) Z Z Z Z Z zo Z ja ?_)))))))))))))
 intro oW aI jb
 refine zt (j:=0) (vs:=[jV (-1)]) Z Z Z Z jb Z Z Z Z zB (zE Z) Z Z Z ?_
 intro fC jc
 let B1:Res:=.row bm bo 3 1 (hD KL.encI aq)
 let B2:Res:=.row bJ bN 3 1 (hD KL.encI bF)
 have eK:sW w U cm [.blk aI 3 [jV (-1)],.obj ag (.map ah aj),.blk aa 56 (hD KL.encI ac.l),B1,B2] fC:=jc
 refine eN (zC (sR fL2 Z (oL Z (eK.ldBA (j:=2) Z Z d9 Try.isAgg56 Zo (vs:=hD KL.encI ac.l) (wHa ac (fun _=>Z) Z) (wAt ac (fun _=>Z) Z)) (oM Z Z (eN (zT (bnK eY fun ax lz lU=>?_)))))))
 have q:=wBY lz
 obtain ⟨de,lA⟩:=q
 replace de:=zH de
 refine CK.forN' (fun ao bB J_ w_=>∃ (U_:PHeap),J_ 53=jV (↑ao:Int)/\J_ 1=.pointer (some ⟨b2,0,none⟩)/\J_ 6=.pointer (some ⟨aa,0,none⟩)/\J_ 9=jV dx/\J_ 10=.slice bm aq.length bo/\J_ 11=.map (some ag)/\J_ 12=.slice bJ bF.length bN/\J_ 13=jV (↑bc:Int)/\J_ 14=.pointer (some ⟨aI,0,none⟩)/\J_ 48=jV (↑p0.length:Int)/\J_ 49=jV (↑bc:Int)/\J_ 52=.agg (hD KL.encI ac.l).toArray/\PHeap.Le cm U_/\sW w U U_ [.blk aI 3 [jV bB],.obj ag (.map ah aj),.blk aa 56 (hD KL.encI ac.l),B1,B2] w_) lA ?_ ?_ ?_
 exact ⟨cm,Z,gc,d9,ge,gf,gg,gh,Z,Z,eb,cO,Z,(zO _),eK⟩
 rintro ao bB pT ou oX c8 ⟨aK,a7,bq,ba,be,br,bf,bs,bg,av,bt,bu,bh,m9,aG⟩ m5
 have dP:Hid ((↑ao:Int) < 31):=zH (wBg c8)
 replace c8:=zH c8
 have lQ:Hid (w64 ((↑ao:Int) + 1)=(↑(ao + 1):Int)):=zH (by have h1:=de.out;have h2:=dP.out;rw [wAR] <;> omega)
 refine sR fL1 Z (oR Z (zR Z a7 Z) (eN (zC (cT Z dP (kN (bnK m5 fun oe m6 lV=>CK.cut (fun J_ w_=>∃ (U_:PHeap),J_ 1=.pointer (some ⟨b2,0,none⟩)/\J_ 6=.pointer (some ⟨aa,0,none⟩)/\J_ 9=jV dx/\J_ 10=.slice bm aq.length bo/\J_ 11=.map (some ag)/\J_ 12=.slice bJ bF.length bN/\J_ 13=jV (↑bc:Int)/\J_ 14=.pointer (some ⟨aI,0,none⟩)/\J_ 48=jV (↑p0.length:Int)/\J_ 49=jV (↑bc:Int)/\J_ 52=.agg (hD KL.encI ac.l).toArray/\J_ 53=jV (↑ao:Int)/\PHeap.Le aK U_/\sW w U U_ [.blk aI 3 [jV oe],.obj ag (.map ah aj),.blk aa 56 (hD KL.encI ac.l),B1,B2] w_) ?_ ?_))))))
 refine zT (sR fL4 rfl (zQ rfl rfl rfl rfl rfl a7 (bnK m6 fun pQ cQ lW=>zU rfl rfl rfl rfl (fun _=>Runs.ixA (cs:=hD KL.encI (ac.l:List Int)) rfl bh a7 zu zB (wCZ cQ) (by have q_:=wCf cQ;rw [(ac).h] at q_;exact q_) (wEu zD (wCj (sz:=1) (fun _=>rfl) _ _ 0 _ _ (wAl cQ) rfl))) (ZW rfl rfl rfl rfl rfl rfl (ZW rfl rfl rfl rfl rfl rfl (eN (sR fL8 rfl (zQ rfl rfl rfl rfl rfl bf (zQ rfl rfl rfl rfl rfl rfl (zz rfl rfl rfl rfl (aG.lookup2 (j:=1) (mk:=wJY) (mv:=wKB) (a:=(↑ao:Int)) (z:=0) rfl rfl rfl rfl (wCg Try.runUnderlying61) wHH zo ep) rfl (zQ rfl rfl rfl rfl rfl rfl (zU rfl rfl rfl rfl (fun _=>ZF rfl rfl (v:=jV (wCL ca (↑ao:Int) 0)) rfl) (zU rfl rfl rfl rfl (fun _=>ZF rfl rfl (v:=.bool (wID ca (↑ao:Int))) rfl) (ZW rfl rfl rfl rfl rfl rfl (ZW rfl rfl rfl rfl rfl rfl (eN (sR fL24 rfl (zQ rfl rfl rfl rfl rfl rfl (zU rfl rfl rfl rfl (fun _=>Zh rfl rfl rfl) (zQ rfl rfl rfl rfl rfl rfl (ifc lW ?_ ?_)))))))))))))))))))))
 intro aM lX
 refine zQ Z Z Z (wT Z aM) Z Z (rU Z (wT Z aM) (zy Z Z) (zQ Z Z Z (wT Z aM) Z Z (ifc lX ?_ ?_)))
 intro aN lY
 refine zQ Z Z Z (zP Z Z (nC aN.out)) Z bg (zQ Z Z Z (zP Z Z (nC aN.out)) Z Z (zU Z Z Z (zP Z Z (nC aN.out)) (fun _=>ZN Z Z Z) (zQ Z Z Z (zP Z Z (nC aN.out)) Z be (zU Z Z Z (zP Z Z (nC aN.out)) (fun _=>Zk Z Z Z) (rU Z (wT Z aM) (zZ Z (nC aN.out) Z) (oR Z (zW Z (ZX aM.out) Z) (oM Z Z (ifc lY ?_ ?_))))))))
 intro aO lZ
 refine zz Z Z Z (wT Z aO) (aG.ldB (j:=0) Z Z av zD (v:=jV bB) Z) Z (rU Z (wT Z aO) (zR Z Z Z) (zQ Z Z Z (wT Z aO) Z Z (ifc lZ ?_ ?_)))
 intro aP l0
 refine oT Z aP (oT Z aP (oT Z aP (oT Z aP (oT Z aP (rU Z (wT Z aO) (zW Z (ZX aP.out) Z) (oR Z (zW Z (ZX aO.out) Z) (eN (zf Z (rR gAk Z (oM Z Z (zt (j:=0) (vs:=[jV (↑ao:Int)]) Z Z Z Z aG Z av Z Z zB (zE Z) Z Z Z ?_)))))))))))
 intro fD je
 have jg:sW w U aK [.blk aI 3 [jV (↑ao:Int)],.obj ag (.map ah aj),.blk aa 56 (hD KL.encI ac.l),B1,B2] fD:=je
 refine zk (zV ?_)
 cases l0
 exact zG ⟨Z,⟨aK,bq,ba,be,br,bf,bs,bg,av,bt,bu,bh,a7,(zO _),jg⟩⟩
 intro aP l4
 refine zQ Z Z Z (wF Z aP) Z Z (zz Z Z Z (wF Z aP) (aG.ldB (j:=0) Z Z av zD (v:=jV bB) Z) Z (bnK l4 fun _ cR l5=>rU Z (wF Z aP) (Zn Z ba Z zu zB (wCl cR) (wCm cR)) ?_))
 have lF:=Arr.at_ ac (k:=bB.toNat) (by have hz0:=wBe cR;omega)
 refine zz rfl rfl rfl (zP rfl rfl (ZD aP.out)) (aG.ldB (j:=2) rfl rfl rfl zD (wBF (sz:=1) (fun _=>rfl) _ _ 0 _ lF (by first | omega | rfl | simp) rfl)) rfl (zU rfl rfl rfl (zP rfl rfl (ZD aP.out)) (fun _=>Zh rfl rfl rfl) (zU rfl rfl rfl (zP rfl rfl (ZX aO.out)) (fun _=>zZ rfl (ZD aP.out) rfl) (zU rfl rfl rfl rfl (fun _=>zW rfl (ZX aO.out) rfl) (eN (ifc l5 ?_ ?_)))))
 intro cC l6
 refine cT Z cC (rR gAk Z (oM Z Z (zt (j:=0) (vs:=[jV (↑ao:Int)]) Z Z Z Z aG Z av Z Z zB (zE Z) Z Z Z ?_)))
 intro fE jh
 have ji:sW w U aK [.blk aI 3 [jV (↑ao:Int)],.obj ag (.map ah aj),.blk aa 56 (hD KL.encI ac.l),B1,B2] fE:=jh
 refine zk (zV ?_)
 cases l6
 exact zG ⟨Z,⟨aK,bq,ba,be,br,bf,bs,bg,av,bt,bu,bh,a7,(zO _),ji⟩⟩
 intro cC l7
 refine cF Z cC (ZC (zV ?_))
 cases l7
 exact zG ⟨Z,⟨aK,bq,ba,be,br,bf,bs,bg,av,bt,bu,bh,a7,(zO _),aG⟩⟩
 intro aO l8
 refine oF Z aO (oF Z aO (oF Z aO (zi Z Z Z (wAr Z Z Z) (zi Z Z Z (wAr Z Z Z) (zi Z Z Z (wAr Z Z Z) (zi Z Z Z (wAr Z Z Z) (zi Z Z Z (wAr Z Z Z) (oF Z aO (oR Z (zZ Z (ZD aO.out) Z) (eN (zb Z (ZC (zV ?_)))))))))))))
 cases l8
 exact zG ⟨Z,⟨aK,bq,ba,be,br,bf,bs,bg,av,bt,bu,bh,a7,(zO _),aG⟩⟩
 intro aN l9
 refine zi Z Z Z (zd Z Z (nF (aN.out)) Z) (zi Z Z Z (zd Z Z (nF (aN.out)) Z) (zi Z Z Z (zd Z Z (nF (aN.out)) Z) (zi Z Z Z (zd Z Z (nF (aN.out)) Z) (zi Z Z Z (zd Z Z (nF (aN.out)) Z) (rU Z (wT Z aM) (zW Z (nF (aN.out)) Z) (oR Z (zW Z (ZX aM.out) Z) (oM Z Z (zz Z Z Z (zP Z Z Z) (aG.ldB (j:=0) Z Z av zD (v:=jV bB) Z) Z (zU Z Z Z (zP Z Z Z) (fun _=>zR Z Z Z) (zQ Z Z Z (zP Z Z Z) Z Z (ifc l9 ?_ ?_)))))))))))
 intro aQ ma
 refine oT Z aQ (oT Z aQ (oT Z aQ (oT Z aQ (oT Z aQ (zU Z Z Z (zP Z Z Z) (fun _=>zW Z (ZX aQ.out) Z) (oR Z (zW Z Z Z) (eN (zf Z (rR gAk Z (oM Z Z (zt (j:=0) (vs:=[jV (↑ao:Int)]) Z Z Z Z aG Z av Z Z zB (zE Z) Z Z Z ?_)))))))))))
 intro fG jj
 have jk:sW w U aK [.blk aI 3 [jV (↑ao:Int)],.obj ag (.map ah aj),.blk aa 56 (hD KL.encI ac.l),B1,B2] fG:=jj
 refine zk (zV ?_)
 cases ma
 exact zG ⟨Z,⟨aK,bq,ba,be,br,bf,bs,bg,av,bt,bu,bh,a7,(zO _),jk⟩⟩
 intro aQ mb
 refine zQ Z Z Z (wF Z aQ) Z Z (zz Z Z Z (wF Z aQ) (aG.ldB (j:=0) Z Z av zD (v:=jV bB) Z) Z (bnK mb fun _ cU mc=>rU Z (wF Z aQ) (Zn Z ba Z zu zB (wCl cU) (wCm cU)) ?_))
 have lG:=Arr.at_ ac (k:=bB.toNat) (by have hz0:=wBe cU;omega)
 refine zz rfl rfl rfl (zP rfl rfl (ZD aQ.out)) (aG.ldB (j:=2) rfl rfl rfl zD (wBF (sz:=1) (fun _=>rfl) _ _ 0 _ lG (by first | omega | rfl | simp) rfl)) rfl (zU rfl rfl rfl (zP rfl rfl (ZD aQ.out)) (fun _=>Zh rfl rfl rfl) (zU rfl rfl rfl (zP rfl rfl rfl) (fun _=>zZ rfl (ZD aQ.out) rfl) (zU rfl rfl rfl rfl (fun _=>zW rfl rfl rfl) (eN (ifc mc ?_ ?_)))))
 intro cD md
 refine cT Z cD (rR gAk Z (oM Z Z (zt (j:=0) (vs:=[jV (↑ao:Int)]) Z Z Z Z aG Z av Z Z zB (zE Z) Z Z Z ?_)))
 intro fH jm
 have jo:sW w U aK [.blk aI 3 [jV (↑ao:Int)],.obj ag (.map ah aj),.blk aa 56 (hD KL.encI ac.l),B1,B2] fH:=jm
 refine zk (zV ?_)
 cases md
 exact zG ⟨Z,⟨aK,bq,ba,be,br,bf,bs,bg,av,bt,bu,bh,a7,(zO _),jo⟩⟩
 intro cD me
 refine cF Z cD (ZC (zV ?_))
 cases me
 exact zG ⟨Z,⟨aK,bq,ba,be,br,bf,bs,bg,av,bt,bu,bh,a7,(zO _),aG⟩⟩
 intro aM mf
 refine oF Z aM (oF Z aM (oF Z aM (zi Z Z Z (wAr Z Z Z) (zi Z Z Z (wAr Z Z Z) (zi Z Z Z (wAr Z Z Z) (zi Z Z Z (wAr Z Z Z) (zi Z Z Z (wAr Z Z Z) (oF Z aM (oR Z (zZ Z (ZD aM.out) Z) (oM Z Z (oN Z (oN Z (oN Z (zi Z Z Z (wAr Z Z Z) (zi Z Z Z (wAr Z Z Z) (zi Z Z Z (wAr Z Z Z) (zi Z Z Z (wAr Z Z Z) (zi Z Z Z (wAr Z Z Z) (oN Z (oR Z (zZ Z Z Z) (eN (zb Z (ZC (zV ?_))))))))))))))))))))))))
 cases mf
 exact zG ⟨Z,⟨aK,bq,ba,be,br,bf,bs,bg,av,bt,bu,bh,a7,(zO _),aG⟩⟩
 rintro ov oY ⟨fu,gi,gj,gk,gm,gp,gq,gt,gu,gv,gw,gx,gy,n2,jp⟩
 refine rR fL2 Z (oR Z (zj (zS Z gy Z) (congrArg (jV) lQ.out)) (oM Z Z (zk ?_)))
 cases lV
 exact zG ⟨Z,⟨fu,Z,gi,gj,gk,gm,gp,gq,gt,gu,gv,gw,gx,(m9.trans n2),jp⟩⟩
 rintro ow cw ⟨oS,ie,ee,cI,gz,cJ,ef,gA,gB,cK,gC,gD,pj,di,jq⟩
 have f2:Hid (¬ ((↑((31:Int) - 0).toNat:Int) < 31)):=zH (wBB)
 refine sR fL1 Z (oR Z (zR Z ie Z) (eN (zC (cF Z f2 (ZK (ze (ze (ZB (zG (sR gAx Z (oM Z cJ ?_)))))))))))
 have q:=jq.freeze (k:=0) rfl
 obtain ⟨dG,dl,bQ,jr⟩:=q
 replace bQ:=Cl.of bQ
 have jt:sW w U dG [.obj ag (.map ah aj),.blk aa 56 (hD KL.encI ac.l),B1,B2] cw:=jr
 replace bQ:Cl dG aI 0 [jV ax]:=bQ
 refine oR Z (Zl Z zL (zA ee (zA cK zL))) ?_
 have q:=jt.freezeT (k:=2) (n:=aq.length) rfl (wAD (f:=KL.encI) (sz:=1) (fun _=>rfl) aq) (by decide)
 obtain ⟨cn,dm,m3,jv,oa⟩:=q
 have jw:sW w U cn [.obj ag (.map ah aj),.blk aa 56 (hD KL.encI ac.l),B2] cw:=jv
 have io:=eG.le dh
 have ip:=io.le di
 have iq:=ip.le dl
 have iu:=iq.le dm
 have iw:=eE.le fh
 have iy:=iw.le dh
 have iz:=iy.le di
 have iA:=iz.le dl
 have iB:=iA.le dm
 have iC:=bQ.le dm
 have i7:FnOK Try.prog cn (.func (.func 19) #[] #[.pointer (some ⟨b2,0,none⟩),.pointer (some ⟨aI,0,none⟩)]) wGk wHg (fun x=>wAd x p0 ax):=⟨19,[],[.pointer (some ⟨b2,0,none⟩),.pointer (some ⟨aI,0,none⟩)],rfl,Try.call19,fun U1 w1 x y vs le hs ha hm=>by obtain rfl:=ha;exact wDQ x p0 b2 am an ax aI w1 U1 hs (iu.le le) (iB.le le) (iC.le le) hm⟩
 refine bnK lU fun bH iD mh=>zK 0 Z Z Z Z (zI Z Z Try.call18 (zA Z (zA Z zL)) Z) jw (fun hs=>wBT aq bm bo (fun x=>wAd x p0 ax) (.func (.func 19) #[] #[.pointer (some ⟨b2,0,none⟩),.pointer (some ⟨aI,0,none⟩)]) cw cn hs m3 i7 iD) (.inr Z) ?_
 rintro fw oH pG dK n3 jx ⟨rfl,rfl⟩
 have jy:sW w U fw [.obj ag (.map ah aj),.blk aa 56 (hD KL.encI ac.l),B2] dK:=jx
 have q:=oa _ _ _ n3 jy
 obtain ⟨bW,fc,jz⟩:=q
 have cZ:sW w U bW [B1,.obj ag (.map ah aj),.blk aa 56 (hD KL.encI ac.l),B2] dK:=jz
 refine oA Z Z (eN (sR (wEp gAp) Z (oM Z gA (oM Z cJ (oM Z Z (bnK mh fun _ b8 mi=>?_))))))
 obtain ⟨pb,eH⟩:=cZ.rowSome (j:=0) rfl (by rw [wAD (f:=KL.encI) (sz:=1) (fun _=>rfl) aq];have hz:=wBe b8;omega)
 refine oR Z (Zb Z Z eH Z zF zB (wCl b8) (wCm b8)) ?_
 have lH:=wCu (xs:=aq) (wBe b8)
 refine zz rfl rfl rfl rfl (cZ.ldR (j:=0) rfl eH rfl rfl zD (wBF (sz:=1) (fun _=>rfl) _ _ 0 _ lH (by first | omega | rfl | simp) rfl)) rfl (zq (pv:=[(0,jV (gd aq bH.toNat))]) (zs:=[jV 0]) (cs:=[jV (gd aq bH.toNat)]) rfl rfl rfl rfl rfl (wAL rfl wAg) zF zB zo rfl rfl rfl rfl rfl cZ ?_)
 intro fJ f0 jB
 let B3:Res:=.row (some ⟨f0,0,none⟩) 1 3 1 (hD KL.encI [(gd aq bH.toNat)])
 have eL:sW w U bW [B3,B1,.obj ag (.map ah aj),.blk aa 56 (hD KL.encI ac.l),B2] fJ:=jB
 refine bnK mi fun fj iE mj=>ZJ (j:=4) (enc:=KL.encI) (xs:=bF) (ys:=[(gd aq bH.toNat)]) (zs:=fj) rfl rfl rfl rfl rfl zn wDF rfl rfl rfl rfl rfl rfl eL rfl rfl rfl (eL.srcR (j:=0) rfl (by decide) (wAD (f:=KL.encI) (sz:=1) (fun _=>rfl) [(gd aq bH.toNat)])) (fun _=>rfl) (fun _=>rfl) iE rfl ?_
 intro dz dQ cx jD
 let B4:Res:=.row dz dQ 3 1 (hD KL.encI fj)
 have jE:sW w U bW [B3,B1,.obj ag (.map ah aj),.blk aa 56 (hD KL.encI ac.l),B4] cx:=jD
 refine oA Z Z (eN (sR (wGF gAj) Z (oM Z cJ (oM Z Z (oM Z Z (oR Z (zS Z Z Z) (bnK mj fun og iF ml=>?_)))))))
 have jF:sW w U bW [B1,B3,.obj ag (.map ah aj),.blk aa 56 (hD KL.encI ac.l),B4] cx:=jE.pick [1,0,2,3,4] _ (by decide) rfl
 refine zK 1 Z Z Z Z (zI Z Z Try.call20 (zA Z (zA Z (zA Z zL))) Z) jF (fun hs=>wCT aq bm bo bH (w64 (bH + 1)) cx bW hs iF) (.inl Z) ?_
 rintro bZ oI pI fL fd jG ⟨dA,dR,rfl,rfl⟩
 let B5:Res:=.row dA dR 3 1 (hD KL.encI og)
 have c3:sW w U bZ [B5,B3,.obj ag (.map ah aj),.blk aa 56 (hD KL.encI ac.l),B4] fL:=jG
 refine oA Z Z (eN (sR (wEp (.fx 5 .nil .stop)) Z ?_))
 have iG:=bQ.le fc
 have eA:=iG.le fd
 refine oL Z (c3.ldC (f:=0) eA (v:=jV ax) Z cK zD Z) (bnK ml fun _ bD mm=>oR Z (Zn Z cI Z zu zB (wCl bD) (wCm bD)) ?_)
 have lI:=Arr.at_ ac (k:=ax.toNat) (by have hz0:=wBe bD;omega)
 refine zz rfl rfl rfl rfl (c3.ldB (j:=3) rfl rfl rfl zD (wBF (sz:=1) (fun _=>rfl) _ _ 0 _ lI (by first | omega | rfl | simp) rfl)) rfl (zU rfl rfl rfl rfl (fun _=>ZN rfl rfl rfl) (zU rfl rfl rfl rfl (fun _=>Zn rfl cI rfl zu zB (wCl bD) (wCm bD)) ?_))
 have lJ:=Arr.at_ ac (k:=ax.toNat) (by have hz0:=wBe bD;omega)
 refine zt (j:=3) (vs:=[jV (w64 ((ac.get ax.toNat) - 1))]) (cs':=hD KL.encI (ac.set ax.toNat (w64 ((ac.get ax.toNat) - 1))).l) rfl rfl rfl rfl c3 rfl rfl rfl rfl zB (by have hz0:=wBe bD;simp only [nH,nI,nJ,nE,wAt (f:=KL.encI) (sz:=1) (N:=31) ac (fun _=>rfl) rfl];omega) rfl (wFk (sz:=1) (fo:=0) (fun _=>rfl) _ _ _ _ lJ (by first | omega | rfl | simp) (zE rfl) rfl) rfl ?_
 intro fM jI
 have eM:sW w U bZ [B5,B3,.obj ag (.map ah aj),.blk aa 56 (hD KL.encI (ac.set ax.toNat (w64 ((ac.get ax.toNat) - 1))).l),B4] fM:=jI
 refine eN (rR (wGZ (.fx 3 .nil .stop)) rfl (zQ rfl rfl rfl rfl rfl ef (zz rfl rfl rfl rfl (eM.ldC (f:=0) eA (v:=jV ax) rfl cK zD rfl) rfl (zQ rfl rfl rfl rfl rfl gB (OKS.mapPut (x:=.tmp 109) (y:=.tmp 110) (z:=.tmp 111) (j:=2) (mk:=wJY) (mv:=wKB) (a:=ax) (v:=(↑bc:Int)) rfl rfl rfl (by first | exact .inl rfl | exact .inr rfl) eM rfl rfl rfl rfl (wCg Try.runUnderlying61) wHH ep rfl ?_)))))
 intro d7 dZ fN mX jJ
 have jK:sW w U bZ [B5,B3,.obj ag (.map d7 dZ),.blk aa 56 (hD KL.encI (ac.set ax.toNat (w64 ((ac.get ax.toNat) - 1))).l),B4] fN:=jJ
 refine zk (zV (zG (rR fL2 Z (oR Z (zj (zS Z gD Z) (congrArg (jV) lP.out)) (oM Z Z (zk ?_))))))
 cases mm
 exact zG ⟨rfl,⟨bZ,d7,dZ,dA,dR,dz,dQ,rfl,ee,cI,gz,rfl,ef,rfl,gC,((((dh.trans di).trans dl).trans fc).trans fd),(jK.pick [2,3,0,4] _ (by decide) rfl),mX⟩⟩
 rintro ox oZ ⟨fy,ph,pd,oo,pe,fq,f4,ig,pk,pm,gE,po,pp,gF,gG,pC,jN,pA⟩
 have f5:Hid (¬ ((↑(((↑p0.length:Int):Int) - 0).toNat:Int) < (↑p0.length:Int))):=zH (wBB)
 refine sR fL1 Z (oR Z (zR Z ig gG) (eN (zC (cF Z f5 (ZK (ze (ze (ZB (zG (sR fL5 Z (oM Z gF (oM Z gE (oA Z Z (oA Z Z (oA Z Z (eN (zJ ?_)))))))))))))))))
 cases eV
 exact ⟨rfl,_,(res3 rfl rfl rfl),fy,_,(jN.pick [3] _ (by decide) rfl),fq,f4,rfl,rfl⟩
 intro cG mn
 refine cF Z cG (kN (sR gAt Z (oL Z (bT.ldC (f:=0) bP (v:=.slice am p0.length an) Z Z ZP Z) ?_)))
 have iH:=cS.le dp
 have eB:=iH.le dr
 refine bnK mn fun oh iI mo=>zK 0 Z Z Z Z (zI Z Z Try.call17 (zA Z zL) Z) bT (fun hs=>wDi p0 am an cy cp hs eB iI) (.inr Z) ?_
 rintro co oJ pJ fO fe jO ⟨dB,dS,rfl,rfl⟩
 have jP:sW w U co [.row dB dS 3 1 (hD KL.encI oh),B0,.blk aa 56 (hD KL.encI a6.l)] fO:=jO
 refine oA Z Z (eN (sR gAg Z (OKS.makeMap Z Z Z Z Z jP ?_)))
 intro o3 af eP
 have mY:=MpR.nil wJY wKB
 refine oA Z Z (eN (sR fL1 Z (oA Z Z (eN (zC (sR fL3 Z ?_))))))
 have eC:=bP.le fe
 refine oL Z (eP.ldC (f:=0) eC (v:=.slice am p0.length an) Z Z ZP Z) (oR Z (zh Z Z zX) (oM Z Z (eN (zT ?_))))
 have q:=bnd mo
 obtain ⟨⟨p4,p5,p6,p7⟩,lB,eX⟩:=q
 try dsimp only at eX
 have q:=wBY lB
 obtain ⟨df,lC⟩:=q
 replace df:=zH df
 refine CK.forN' (fun bd (cc,ae,au,bG) J_ w_=>∃ (U_:PHeap) (ai:Array MapEntry) (ak:Nat) (bn:Option Addr) (bp:Nat) (bK:Option Addr) (bO:Nat),J_ 49=jV (↑bd:Int)/\J_ 1=.pointer (some ⟨b2,0,none⟩)/\J_ 6=.pointer (some ⟨aa,0,none⟩)/\J_ 9=jV (↑p0.length:Int)/\J_ 10=.slice bn au.length bp/\J_ 11=.map (some af)/\J_ 12=.slice bK bG.length bO/\J_ 48=jV (↑p0.length:Int)/\PHeap.Le co U_/\sW w U U_ [.obj af (.map ai ak),.blk aa 56 (hD KL.encI ae.l),.row bn bp 3 1 (hD KL.encI au),.row bK bO 3 1 (hD KL.encI bG)] w_/\MpR ai wJY wKB cc) lC ?_ ?_ ?_
 have jQ:=eP.nilrow 3 1
 exact ⟨co,#[],0,dB,dS,none,0,rfl,rfl,rfl,rfl,rfl,rfl,rfl,rfl,(zO _),(jQ.pick [1,4,2,0] _ (by decide) rfl),mY⟩
 rintro bd ⟨cc,ae,au,bG⟩ pU oy o5 c9 ⟨cr,ai,ak,bn,bp,bK,bO,cP,gH,eh,gI,gJ,gK,gL,ej,dq,jR,eD⟩ eZ
 try dsimp only at eZ
 have dT:Hid ((↑bd:Int) < (↑p0.length:Int)):=zH (wBg c9)
 replace c9:=zH c9
 have lR:Hid (w64 ((↑bd:Int) + 1)=(↑(bd + 1):Int)):=zH (by have h1:=df.out;have h2:=dT.out;rw [wAR] <;> omega)
 refine sR fL1 Z (oR Z (zR Z cP ej) (eN (zC (cT Z dT (kN (zC (zT (sR fL2 Z (oM Z cP (oA Z Z (eN (sR gAl Z (ZA (cs:=[jV 0]) Z Z Z Z Z zo Z jR ?_)))))))))))))
 intro o6 aJ jT
 refine zt (j:=0) (vs:=[jV (-1)]) Z Z Z Z jT Z Z Z Z zB (zE Z) Z Z Z ?_
 intro fP jU
 let B6:Res:=.row bn bp 3 1 (hD KL.encI au)
 let B7:Res:=.row bK bO 3 1 (hD KL.encI bG)
 have eQ:sW w U cr [.blk aJ 3 [jV (-1)],.obj af (.map ai ak),.blk aa 56 (hD KL.encI ae.l),B6,B7] fP:=jU
 refine eN (zC (sR fL2 Z (oL Z (eQ.ldBA (j:=2) Z Z eh Try.isAgg56 Zo (vs:=hD KL.encI ae.l) (wHa ae (fun _=>Z) Z) (wAt ae (fun _=>Z) Z)) (oM Z Z (eN (zT (bnK eZ fun ay lD mp=>?_)))))))
 have q:=wBY lD
 obtain ⟨dg,lE⟩:=q
 replace dg:=zH dg
 refine CK.forN' (fun ap bC J_ w_=>∃ (U_:PHeap),J_ 53=jV (↑ap:Int)/\J_ 1=.pointer (some ⟨b2,0,none⟩)/\J_ 6=.pointer (some ⟨aa,0,none⟩)/\J_ 9=jV (↑p0.length:Int)/\J_ 10=.slice bn au.length bp/\J_ 11=.map (some af)/\J_ 12=.slice bK bG.length bO/\J_ 13=jV (↑bd:Int)/\J_ 14=.pointer (some ⟨aJ,0,none⟩)/\J_ 48=jV (↑p0.length:Int)/\J_ 49=jV (↑bd:Int)/\J_ 52=.agg (hD KL.encI ae.l).toArray/\PHeap.Le cr U_/\sW w U U_ [.blk aJ 3 [jV bC],.obj af (.map ai ak),.blk aa 56 (hD KL.encI ae.l),B6,B7] w_) lE ?_ ?_ ?_
 exact ⟨cr,Z,gH,eh,gI,gJ,gK,gL,Z,Z,ej,cP,Z,(zO _),eQ⟩
 rintro ap bC pV oz o7 da ⟨aL,a8,bv,bb,bi,bw,bj,bx,bk,aw,bz,bA,bl,n4,aH⟩ m7
 have dV:Hid ((↑ap:Int) < 31):=zH (wBg da)
 replace da:=zH da
 have lS:Hid (w64 ((↑ap:Int) + 1)=(↑(ap + 1):Int)):=zH (by have h1:=dg.out;have h2:=dV.out;rw [wAR] <;> omega)
 refine sR fL1 Z (oR Z (zR Z a8 Z) (eN (zC (cT Z dV (kN (bnK m7 fun oj m8 mq=>CK.cut (fun J_ w_=>∃ (U_:PHeap),J_ 1=.pointer (some ⟨b2,0,none⟩)/\J_ 6=.pointer (some ⟨aa,0,none⟩)/\J_ 9=jV (↑p0.length:Int)/\J_ 10=.slice bn au.length bp/\J_ 11=.map (some af)/\J_ 12=.slice bK bG.length bO/\J_ 13=jV (↑bd:Int)/\J_ 14=.pointer (some ⟨aJ,0,none⟩)/\J_ 48=jV (↑p0.length:Int)/\J_ 49=jV (↑bd:Int)/\J_ 52=.agg (hD KL.encI ae.l).toArray/\J_ 53=jV (↑ap:Int)/\PHeap.Le aL U_/\sW w U U_ [.blk aJ 3 [jV oj],.obj af (.map ai ak),.blk aa 56 (hD KL.encI ae.l),B6,B7] w_) ?_ ?_))))))
 refine zT (sR fL4 rfl (zQ rfl rfl rfl rfl rfl a8 (bnK m8 fun pR cV mr=>zU rfl rfl rfl rfl (fun _=>Runs.ixA (cs:=hD KL.encI (ae.l:List Int)) rfl bl a8 zu zB (wCZ cV) (by have q_:=wCf cV;rw [(ae).h] at q_;exact q_) (wEu zD (wCj (sz:=1) (fun _=>rfl) _ _ 0 _ _ (wAl cV) rfl))) (ZW rfl rfl rfl rfl rfl rfl (ZW rfl rfl rfl rfl rfl rfl (eN (sR fL8 rfl (zQ rfl rfl rfl rfl rfl bj (zQ rfl rfl rfl rfl rfl rfl (zz rfl rfl rfl rfl (aH.lookup2 (j:=1) (mk:=wJY) (mv:=wKB) (a:=(↑ap:Int)) (z:=0) rfl rfl rfl rfl (wCg Try.runUnderlying61) wHH zo eD) rfl (zQ rfl rfl rfl rfl rfl rfl (zU rfl rfl rfl rfl (fun _=>ZF rfl rfl (v:=jV (wCL cc (↑ap:Int) 0)) rfl) (zU rfl rfl rfl rfl (fun _=>ZF rfl rfl (v:=.bool (wID cc (↑ap:Int))) rfl) (ZW rfl rfl rfl rfl rfl rfl (ZW rfl rfl rfl rfl rfl rfl (eN (sR fL24 rfl (zQ rfl rfl rfl rfl rfl rfl (zU rfl rfl rfl rfl (fun _=>Zh rfl rfl rfl) (zQ rfl rfl rfl rfl rfl rfl (ifc mr ?_ ?_)))))))))))))))))))))
 intro aR ms
 refine zQ Z Z Z (wT Z aR) Z Z (rU Z (wT Z aR) (zy Z Z) (zQ Z Z Z (wT Z aR) Z Z (ifc ms ?_ ?_)))
 intro aS mu
 refine zQ Z Z Z (zP Z Z (nC aS.out)) Z bk (zQ Z Z Z (zP Z Z (nC aS.out)) Z Z (zU Z Z Z (zP Z Z (nC aS.out)) (fun _=>ZN Z Z Z) (zQ Z Z Z (zP Z Z (nC aS.out)) Z bi (zU Z Z Z (zP Z Z (nC aS.out)) (fun _=>Zk Z Z Z) (rU Z (wT Z aR) (zZ Z (nC aS.out) Z) (oR Z (zW Z (ZX aR.out) Z) (oM Z Z (ifc mu ?_ ?_))))))))
 intro aT mw
 refine zz Z Z Z (wT Z aT) (aH.ldB (j:=0) Z Z aw zD (v:=jV bC) Z) Z (rU Z (wT Z aT) (zR Z Z Z) (zQ Z Z Z (wT Z aT) Z Z (ifc mw ?_ ?_)))
 intro aU my
 refine oT Z aU (oT Z aU (oT Z aU (oT Z aU (oT Z aU (rU Z (wT Z aT) (zW Z (ZX aU.out) Z) (oR Z (zW Z (ZX aT.out) Z) (eN (zf Z (rR gAk Z (oM Z Z (zt (j:=0) (vs:=[jV (↑ap:Int)]) Z Z Z Z aH Z aw Z Z zB (zE Z) Z Z Z ?_)))))))))))
 intro fQ jW
 have jX:sW w U aL [.blk aJ 3 [jV (↑ap:Int)],.obj af (.map ai ak),.blk aa 56 (hD KL.encI ae.l),B6,B7] fQ:=jW
 refine zk (zV ?_)
 cases my
 exact zG ⟨Z,⟨aL,bv,bb,bi,bw,bj,bx,bk,aw,bz,bA,bl,a8,(zO _),jX⟩⟩
 intro aU mz
 refine zQ Z Z Z (wF Z aU) Z Z (zz Z Z Z (wF Z aU) (aH.ldB (j:=0) Z Z aw zD (v:=jV bC) Z) Z (bnK mz fun _ cW mA=>rU Z (wF Z aU) (Zn Z bb Z zu zB (wCl cW) (wCm cW)) ?_))
 have lK:=Arr.at_ ae (k:=bC.toNat) (by have hz0:=wBe cW;omega)
 refine zz rfl rfl rfl (zP rfl rfl (ZD aU.out)) (aH.ldB (j:=2) rfl rfl rfl zD (wBF (sz:=1) (fun _=>rfl) _ _ 0 _ lK (by first | omega | rfl | simp) rfl)) rfl (zU rfl rfl rfl (zP rfl rfl (ZD aU.out)) (fun _=>Zh rfl rfl rfl) (zU rfl rfl rfl (zP rfl rfl (ZX aT.out)) (fun _=>zZ rfl (ZD aU.out) rfl) (zU rfl rfl rfl rfl (fun _=>zW rfl (ZX aT.out) rfl) (eN (ifc mA ?_ ?_)))))
 intro cE mC
 refine cT Z cE (rR gAk Z (oM Z Z (zt (j:=0) (vs:=[jV (↑ap:Int)]) Z Z Z Z aH Z aw Z Z zB (zE Z) Z Z Z ?_)))
 intro fR jY
 have jZ:sW w U aL [.blk aJ 3 [jV (↑ap:Int)],.obj af (.map ai ak),.blk aa 56 (hD KL.encI ae.l),B6,B7] fR:=jY
 refine zk (zV ?_)
 cases mC
 exact zG ⟨Z,⟨aL,bv,bb,bi,bw,bj,bx,bk,aw,bz,bA,bl,a8,(zO _),jZ⟩⟩
 intro cE mD
 refine cF Z cE (ZC (zV ?_))
 cases mD
 exact zG ⟨Z,⟨aL,bv,bb,bi,bw,bj,bx,bk,aw,bz,bA,bl,a8,(zO _),aH⟩⟩
 intro aT mE
 refine oF Z aT (oF Z aT (oF Z aT (zi Z Z Z (wAr Z Z Z) (zi Z Z Z (wAr Z Z Z) (zi Z Z Z (wAr Z Z Z) (zi Z Z Z (wAr Z Z Z) (zi Z Z Z (wAr Z Z Z) (oF Z aT (oR Z (zZ Z (ZD aT.out) Z) (eN (zb Z (ZC (zV ?_)))))))))))))
 cases mE
 exact zG ⟨Z,⟨aL,bv,bb,bi,bw,bj,bx,bk,aw,bz,bA,bl,a8,(zO _),aH⟩⟩
 intro aS mF
 refine zi Z Z Z (zd Z Z (nF (aS.out)) Z) (zi Z Z Z (zd Z Z (nF (aS.out)) Z) (zi Z Z Z (zd Z Z (nF (aS.out)) Z) (zi Z Z Z (zd Z Z (nF (aS.out)) Z) (zi Z Z Z (zd Z Z (nF (aS.out)) Z) (rU Z (wT Z aR) (zW Z (nF (aS.out)) Z) (oR Z (zW Z (ZX aR.out) Z) (oM Z Z (zz Z Z Z (zP Z Z Z) (aH.ldB (j:=0) Z Z aw zD (v:=jV bC) Z) Z (zU Z Z Z (zP Z Z Z) (fun _=>zR Z Z Z) (zQ Z Z Z (zP Z Z Z) Z Z (ifc mF ?_ ?_)))))))))))
 intro aV mG
 refine oT Z aV (oT Z aV (oT Z aV (oT Z aV (oT Z aV (zU Z Z Z (zP Z Z Z) (fun _=>zW Z (ZX aV.out) Z) (oR Z (zW Z Z Z) (eN (zf Z (rR gAk Z (oM Z Z (zt (j:=0) (vs:=[jV (↑ap:Int)]) Z Z Z Z aH Z aw Z Z zB (zE Z) Z Z Z ?_)))))))))))
 intro fS j0
 have j4:sW w U aL [.blk aJ 3 [jV (↑ap:Int)],.obj af (.map ai ak),.blk aa 56 (hD KL.encI ae.l),B6,B7] fS:=j0
 refine zk (zV ?_)
 cases mG
 exact zG ⟨Z,⟨aL,bv,bb,bi,bw,bj,bx,bk,aw,bz,bA,bl,a8,(zO _),j4⟩⟩
 intro aV mI
 refine zQ Z Z Z (wF Z aV) Z Z (zz Z Z Z (wF Z aV) (aH.ldB (j:=0) Z Z aw zD (v:=jV bC) Z) Z (bnK mI fun _ cX mJ=>rU Z (wF Z aV) (Zn Z bb Z zu zB (wCl cX) (wCm cX)) ?_))
 have lL:=Arr.at_ ae (k:=bC.toNat) (by have hz0:=wBe cX;omega)
 refine zz rfl rfl rfl (zP rfl rfl (ZD aV.out)) (aH.ldB (j:=2) rfl rfl rfl zD (wBF (sz:=1) (fun _=>rfl) _ _ 0 _ lL (by first | omega | rfl | simp) rfl)) rfl (zU rfl rfl rfl (zP rfl rfl (ZD aV.out)) (fun _=>Zh rfl rfl rfl) (zU rfl rfl rfl (zP rfl rfl rfl) (fun _=>zZ rfl (ZD aV.out) rfl) (zU rfl rfl rfl rfl (fun _=>zW rfl rfl rfl) (eN (ifc mJ ?_ ?_)))))
 intro cH mK
 refine cT Z cH (rR gAk Z (oM Z Z (zt (j:=0) (vs:=[jV (↑ap:Int)]) Z Z Z Z aH Z aw Z Z zB (zE Z) Z Z Z ?_)))
 intro fT j5
 have j6:sW w U aL [.blk aJ 3 [jV (↑ap:Int)],.obj af (.map ai ak),.blk aa 56 (hD KL.encI ae.l),B6,B7] fT:=j5
 refine zk (zV ?_)
 cases mK
 exact zG ⟨Z,⟨aL,bv,bb,bi,bw,bj,bx,bk,aw,bz,bA,bl,a8,(zO _),j6⟩⟩
 intro cH mL
 refine cF Z cH (ZC (zV ?_))
 cases mL
 exact zG ⟨Z,⟨aL,bv,bb,bi,bw,bj,bx,bk,aw,bz,bA,bl,a8,(zO _),aH⟩⟩
 intro aR mM
 refine oF Z aR (oF Z aR (oF Z aR (zi Z Z Z (wAr Z Z Z) (zi Z Z Z (wAr Z Z Z) (zi Z Z Z (wAr Z Z Z) (zi Z Z Z (wAr Z Z Z) (zi Z Z Z (wAr Z Z Z) (oF Z aR (oR Z (zZ Z (ZD aR.out) Z) (oM Z Z (oN Z (oN Z (oN Z (zi Z Z Z (wAr Z Z Z) (zi Z Z Z (wAr Z Z Z) (zi Z Z Z (wAr Z Z Z) (zi Z Z Z (wAr Z Z Z) (zi Z Z Z (wAr Z Z Z) (oN Z (oR Z (zZ Z Z Z) (eN (zb Z (ZC (zV ?_))))))))))))))))))))))))
 cases mM
 exact zG ⟨Z,⟨aL,bv,bb,bi,bw,bj,bx,bk,aw,bz,bA,bl,a8,(zO _),aH⟩⟩
 rintro oB o8 ⟨fz,gM,gN,gO,gP,gQ,gR,gS,gT,gU,gV,gW,gX,n7,j7⟩
 refine rR fL2 Z (oR Z (zj (zS Z gX Z) (congrArg (jV) lS.out)) (oM Z Z (zk ?_)))
 cases mq
 exact zG ⟨Z,⟨fz,Z,gM,gN,gO,gP,gQ,gR,gS,gT,gU,gV,gW,(n4.trans n7),j7⟩⟩
 rintro oC cz ⟨oU,ii,ek,cL,gY,cM,en,gZ,g6,cN,g7,g8,pq,dt,j8⟩
 have f9:Hid (¬ ((↑((31:Int) - 0).toNat:Int) < 31)):=zH (wBB)
 refine sR fL1 Z (oR Z (zR Z ii Z) (eN (zC (cF Z f9 (ZK (ze (ze (ZB (zG (sR gAx Z (oM Z cM ?_)))))))))))
 have q:=j8.freeze (k:=0) rfl
 obtain ⟨dH,du,bR,j9⟩:=q
 replace bR:=Cl.of bR
 have k4:sW w U dH [.obj af (.map ai ak),.blk aa 56 (hD KL.encI ae.l),B6,B7] cz:=j9
 replace bR:Cl dH aJ 0 [jV ay]:=bR
 refine oR Z (Zl Z zL (zA ek (zA cN zL))) ?_
 have q:=k4.freezeT (k:=2) (n:=au.length) rfl (wAD (f:=KL.encI) (sz:=1) (fun _=>rfl) au) (by decide)
 obtain ⟨ct,dv,m4,k5,od⟩:=q
 have k6:sW w U ct [.obj af (.map ai ak),.blk aa 56 (hD KL.encI ae.l),B7] cz:=k5
 have iN:=eC.le dq
 have iO:=iN.le dt
 have iP:=iO.le du
 have iQ:=iP.le dv
 have iR:=eB.le fe
 have iS:=iR.le dq
 have iT:=iS.le dt
 have iV:=iT.le du
 have iW:=iV.le dv
 have iX:=bR.le dv
 have i8:FnOK Try.prog ct (.func (.func 19) #[] #[.pointer (some ⟨b2,0,none⟩),.pointer (some ⟨aJ,0,none⟩)]) wGk wHg (fun x=>wAd x p0 ay):=⟨19,[],[.pointer (some ⟨b2,0,none⟩),.pointer (some ⟨aJ,0,none⟩)],rfl,Try.call19,fun U1 w1 x y vs le hs ha hm=>by obtain rfl:=ha;exact wDQ x p0 b2 am an ay aJ w1 U1 hs (iQ.le le) (iW.le le) (iX.le le) hm⟩
 refine bnK mp fun bI iY mP=>zK 0 Z Z Z Z (zI Z Z Try.call18 (zA Z (zA Z zL)) Z) k6 (fun hs=>wBT au bn bp (fun x=>wAd x p0 ay) (.func (.func 19) #[] #[.pointer (some ⟨b2,0,none⟩),.pointer (some ⟨aJ,0,none⟩)]) cz ct hs m4 i8 iY) (.inr Z) ?_
 rintro fA oO pM dM n9 k8 ⟨rfl,rfl⟩
 have k9:sW w U fA [.obj af (.map ai ak),.blk aa 56 (hD KL.encI ae.l),B7] dM:=k8
 have q:=od _ _ _ n9 k9
 obtain ⟨bX,ff,la⟩:=q
 have c4:sW w U bX [B6,.obj af (.map ai ak),.blk aa 56 (hD KL.encI ae.l),B7] dM:=la
 refine oA Z Z (eN (sR (wEp gAp) Z (oM Z gZ (oM Z cM (oM Z Z (bnK mP fun _ b9 mS=>?_))))))
 obtain ⟨pc,eJ⟩:=c4.rowSome (j:=0) rfl (by rw [wAD (f:=KL.encI) (sz:=1) (fun _=>rfl) au];have hz:=wBe b9;omega)
 refine oR Z (Zb Z Z eJ Z zF zB (wCl b9) (wCm b9)) ?_
 have lM:=wCu (xs:=au) (wBe b9)
 refine zz rfl rfl rfl rfl (c4.ldR (j:=0) rfl eJ rfl rfl zD (wBF (sz:=1) (fun _=>rfl) _ _ 0 _ lM (by first | omega | rfl | simp) rfl)) rfl (zq (pv:=[(0,jV (gd au bI.toNat))]) (zs:=[jV 0]) (cs:=[jV (gd au bI.toNat)]) rfl rfl rfl rfl rfl (wAL rfl wAg) zF zB zo rfl rfl rfl rfl rfl c4 ?_)
 intro fU f1 lb
 let B8:Res:=.row (some ⟨f1,0,none⟩) 1 3 1 (hD KL.encI [(gd au bI.toNat)])
 have eR:sW w U bX [B8,B6,.obj af (.map ai ak),.blk aa 56 (hD KL.encI ae.l),B7] fU:=lb
 refine bnK mS fun fm iZ mT=>ZJ (j:=4) (enc:=KL.encI) (xs:=bG) (ys:=[(gd au bI.toNat)]) (zs:=fm) rfl rfl rfl rfl rfl zn wDF rfl rfl rfl rfl rfl rfl eR rfl rfl rfl (eR.srcR (j:=0) rfl (by decide) (wAD (f:=KL.encI) (sz:=1) (fun _=>rfl) [(gd au bI.toNat)])) (fun _=>rfl) (fun _=>rfl) iZ rfl ?_
 intro dD dW cA lc
 let B9:Res:=.row dD dW 3 1 (hD KL.encI fm)
 have lg:sW w U bX [B8,B6,.obj af (.map ai ak),.blk aa 56 (hD KL.encI ae.l),B9] cA:=lc
 refine oA Z Z (eN (sR (wGF gAj) Z (oM Z cM (oM Z Z (oM Z Z (oR Z (zS Z Z Z) (bnK mT fun om i5 mU=>?_)))))))
 have lh:sW w U bX [B6,B8,.obj af (.map ai ak),.blk aa 56 (hD KL.encI ae.l),B9] cA:=lg.pick [1,0,2,3,4] _ (by decide) rfl
 refine zK 1 Z Z Z Z (zI Z Z Try.call20 (zA Z (zA Z (zA Z zL))) Z) lh (fun hs=>wCT au bn bp bI (w64 (bI + 1)) cA bX hs i5) (.inl Z) ?_
 rintro b5 oQ pO fV fg lj ⟨dE,dX,rfl,rfl⟩
 let cg:Res:=.row dE dX 3 1 (hD KL.encI om)
 have c6:sW w U b5 [cg,B8,.obj af (.map ai ak),.blk aa 56 (hD KL.encI ae.l),B9] fV:=lj
 refine oA Z Z (eN (sR (wEp (.fx 5 .nil .stop)) Z ?_))
 have i6:=bR.le ff
 have eF:=i6.le fg
 refine oL Z (c6.ldC (f:=0) eF (v:=jV ay) Z cN zD Z) (bnK mU fun _ bE mV=>oR Z (Zn Z cL Z zu zB (wCl bE) (wCm bE)) ?_)
 have lN:=Arr.at_ ae (k:=ay.toNat) (by have hz0:=wBe bE;omega)
 refine zz rfl rfl rfl rfl (c6.ldB (j:=3) rfl rfl rfl zD (wBF (sz:=1) (fun _=>rfl) _ _ 0 _ lN (by first | omega | rfl | simp) rfl)) rfl (zU rfl rfl rfl rfl (fun _=>ZN rfl rfl rfl) (zU rfl rfl rfl rfl (fun _=>Zn rfl cL rfl zu zB (wCl bE) (wCm bE)) ?_))
 have lO:=Arr.at_ ae (k:=ay.toNat) (by have hz0:=wBe bE;omega)
 refine zt (j:=3) (vs:=[jV (w64 ((ae.get ay.toNat) - 1))]) (cs':=hD KL.encI (ae.set ay.toNat (w64 ((ae.get ay.toNat) - 1))).l) rfl rfl rfl rfl c6 rfl rfl rfl rfl zB (by have hz0:=wBe bE;simp only [nH,nI,nJ,nE,wAt (f:=KL.encI) (sz:=1) (N:=31) ae (fun _=>rfl) rfl];omega) rfl (wFk (sz:=1) (fo:=0) (fun _=>rfl) _ _ _ _ lO (by first | omega | rfl | simp) (zE rfl) rfl) rfl ?_
 intro fY lk
 have eS:sW w U b5 [cg,B8,.obj af (.map ai ak),.blk aa 56 (hD KL.encI (ae.set ay.toNat (w64 ((ae.get ay.toNat) - 1))).l),B9] fY:=lk
 refine eN (rR (wGZ (.fx 3 .nil .stop)) rfl (zQ rfl rfl rfl rfl rfl en (zz rfl rfl rfl rfl (eS.ldC (f:=0) eF (v:=jV ay) rfl cN zD rfl) rfl (zQ rfl rfl rfl rfl rfl g6 (OKS.mapPut (x:=.tmp 109) (y:=.tmp 110) (z:=.tmp 111) (j:=2) (mk:=wJY) (mv:=wKB) (a:=ay) (v:=(↑bd:Int)) rfl rfl rfl (by first | exact .inl rfl | exact .inr rfl) eS rfl rfl rfl rfl (wCg Try.runUnderlying61) wHH eD rfl ?_)))))
 intro d8 d6 fZ mZ ll
 have lm:sW w U b5 [cg,B8,.obj af (.map d8 d6),.blk aa 56 (hD KL.encI (ae.set ay.toNat (w64 ((ae.get ay.toNat) - 1))).l),B9] fZ:=ll
 refine zk (zV (zG (rR fL2 Z (oR Z (zj (zS Z g8 Z) (congrArg (jV) lR.out)) (oM Z Z (zk ?_))))))
 cases mV
 exact zG ⟨rfl,⟨b5,d8,d6,dE,dX,dD,dW,rfl,ek,cL,gY,rfl,en,rfl,g7,((((dq.trans dt).trans du).trans ff).trans fg),(lm.pick [2,3,0,4] _ (by decide) rfl),mZ⟩⟩
 rintro oD o9 ⟨fB,pi,pf,oq,pg,ft,ga,ij,pt,pu,g9,py,pz,ib,ic,pD,lp,pB⟩
 have gb:Hid (¬ ((↑(((↑p0.length:Int):Int) - 0).toNat:Int) < (↑p0.length:Int))):=zH (wBB)
 refine sR fL1 Z (oR Z (zR Z ij ic) (eN (zC (cF Z gb (ZK (ze (ze (ZB (zG (sR fL5 Z (oM Z ib (oM Z g9 (oA Z Z (oA Z Z (oA Z Z (eN (zJ ?_)))))))))))))))))
 cases eX
 exact ⟨rfl,_,(res3 rfl rfl rfl),fB,_,(lp.pick [3] _ (by decide) rfl),ft,ga,rfl,rfl⟩
 intro cB mW
 refine cT Z cB (sR fL4 Z (oM Z Z (oA Z Z (oA Z Z (oA Z Z (eN (zJ (zM ?_))))))))
 have lq:=cY.nilrow 3 1
 cases mW
 exact ⟨Z,_,(res3 Z Z Z),cj,_,lq,none,0,Z,Z⟩
end Go.Proofs.Ytnbcoenjobdplaa
namespace Go.Proofs.Ytnbcoenjobdplaa
open Go.KL
set_option maxHeartbeats 4000000
theorem wEN (p0:Int) (p1:Int) (w:World) (U:PHeap) (hS:St0 w U [])  {r:Int} (hm:wBi p0 p1=some r):Gv Try.prog 23 [jV p0,jV p1] w (wBm w [] U (fun U_ L_ v=>v=jV r/\L_=[])):=by
 unfold wBi at hm
 refine Gv.of Try.func23 Z Try.ntmps23 Try.results23 Z (sR fL1 Z (oA Z Z (eN (zC (sR fL2 Z (oM Z Z (oR Z (Runs.leq Z Z Z) (eN ?_))))))))
 by_cases c1:p1 <= 0
 have ac:=hm;rw [if_pos c1] at ac;replace c1:=zH c1
 refine cT Z c1 (sR fL1 Z (oA Z Z (eN (zJ (zM ?_)))))
 cases ac
 exact ⟨Z,_,(zY Z),U,_,hS,Z,Z⟩
 have ae:=hm;rw [if_neg c1] at ae;replace c1:=zH c1
 refine cF Z c1 (kN (sR fL8 Z (oM Z Z (oM Z Z (bnK ae fun x4 h5 ai=>oR Z (Runs.rem Z Z Z h5) (oM Z Z (oR Z (zS Z Z Z) (oM Z Z (bnK ai fun x7 h8 aj=>oR Z (Runs.rem Z Z Z h8) (oA Z Z (eN (zJ ?_))))))))))))
 have hE:=hM aj;first | subst r | cases hE
 exact ⟨Z,_,(zY Z),U,_,hS,Z,Z⟩
theorem wDH (p0:Int) (p1:Int) (w:World) (U:PHeap) (hS:St0 w U [])  {r:Int} (hm:wAe p0 p1=some r):Gv Try.prog 9 [jV p0,jV p1] w (wBm w [] U (fun U_ L_ v=>v=jV r/\L_=[])):=by
 unfold wAe at hm
 refine Gv.of Try.func9 Z Try.ntmps9 Try.results9 Z (sR fL1 Z (oA Z Z (eN (sR gAx Z (oM Z Z (oM Z Z (bnK hm fun x1 h2 ai=>zK 0 Z Z Z Z (zI Z Z Try.call23 (zA Z (zA Z zL)) Z) hS (fun hs=>wEN p0 p1 w U hs h2) (.inr Z) ?_)))))))
 rintro U4 L5 v6 W7 ak ah ⟨rfl,rfl⟩
 have ag:sW w U U4 [] W7:=ah
 refine oA Z Z (eN (zJ ?_))
 have hE:=hM ai;first | subst r | cases hE
 exact ⟨Z,_,(zY Z),U4,_,ag,Z,Z⟩
theorem wEO (p0:Int) (p1:List wAB) (ag:Nat) (ac:Option Addr) (ae:Nat) (w:World) (U:PHeap) (hS:St0 w U []) (am:Cl U ag 0 [.slice ac p1.length ae]) (ap:Sl U 3 ac ae p1.length (hD wAO p1)) {r:Bool} (hm:wBC p0 p1=some r):Gv Try.prog 45 [jV p0,.pointer (some ⟨ag,0,none⟩)] w (wBm w [] U (fun U_ L_ v=>v=.bool r/\L_=[])):=by
 unfold wBC at hm
 refine Gv.of Try.func45 Z Try.ntmps45 Try.results45 Z (sR fL1 Z (oA Z Z (eN (sR (wGF gAj) Z (oM Z Z (oL Z (hS.ldC (f:=0) am (v:=.slice ac p1.length ae) Z Z ZP Z) (oR Z (zh Z Z zX) (oR Z (ZN Z Z Z) (bnK hm fun x1 h2 an=>zK 0 Z Z Z Z (zI Z Z Try.call22 (zA Z (zA Z (zA Z zL))) Z) hS (fun hs=>wCK p0 0 (w64 ((↑p1.length:Int) - 1)) w U hs h2) (.inr Z) ?_)))))))))
 rintro U4 L5 v6 W7 aq ak ⟨rfl,rfl⟩
 have aj:sW w U U4 [] W7:=ak
 refine oA Z Z (eN (zJ ?_))
 have hE:=hM an;first | subst r | cases hE
 exact ⟨Z,_,(zY Z),U4,_,aj,Z,Z⟩
theorem wFF (p0:List wAB) (ab:Option Addr) (ac:Nat) (p1:List Int) (aj:Option Addr) (ak:Nat) (w:World) (U:PHeap) (hS:St0 w U []) (a7:Sl U 3 ab ac p0.length (hD wAO p0)) (a8:Sl U 1 aj ak p1.length (hD KL.encI p1)) {r:Int} (hm:wCB p0 p1=some r):Gv Try.prog 21 [.slice ab p0.length ac,.slice aj p1.length ak] w (wBm w [] U (fun U_ L_ v=>v=jV r/\L_=[])):=by
 unfold wCB at hm
 refine Gv.of Try.func21 rfl Try.ntmps21 Try.results21 rfl (sR gAg rfl (zr (cs:=[.slice ab p0.length ac]) rfl rfl rfl rfl rfl rfl (by rfl) hS ?_))
 intro W1 b2 aX
 have q:=aX.freeze (k:=0) rfl
 obtain ⟨U5,aM,ae,a6⟩:=q
 replace ae:=Cl.of ae
 have aL:sW w U U5 [] W1:=a6
 replace ae:Cl U5 b2 0 [.slice ab p0.length ac]:=ae
 refine oA Z Z (eN (sR gAt Z (oL Z (aL.ldC (f:=0) ae (v:=.slice ab p0.length ac) Z Z ZP Z) ?_)))
 have aG:=a7.le aM
 refine bnK hm fun bu aP ba=>zK 0 Z Z Z Z (zI Z Z Try.call14 (zA Z zL) Z) aL (fun hs=>wDz p0 ab ac W1 U5 hs aG aP) (.inr Z) ?_
 rintro ag bn br ay aw aW ⟨rfl,rfl⟩
 have ai:sW w U ag [] ay:=aW
 refine oA Z Z (eN (zC (zT (sR fL3 Z (oM Z Z (oR Z (ZV Z Z Z) (oA Z Z (eN (ifc ba ?_ ?_)))))))))
 intro ap bb
 refine zb (ZD (fun h=>h ap.out)) (sR fL6 Z (oM Z Z (oR Z (zh Z Z zF) ?_)))
 have aH:=ae.le aw
 refine oL Z (ai.ldC (f:=0) aH (v:=.slice ab p0.length ac) Z Z ZP Z) (oR Z (zh Z Z zX) (oR Z (ZV Z Z Z) (oA Z Z (eN (ifc bb ?_ ?_)))))
 intro aq bc
 refine zb (ZD (fun h=>h aq.out)) (sR gBf Z (oM Z Z (oR Z (Zl Z zL (zA Z zL)) ?_)))
 have aQ:=a8.le aM
 have aI:=aQ.le aw
 have aR:=aG.le aw
 have aV:FnOK Try.prog ag (.func (.func 45) #[] #[.pointer (some ⟨b2,0,none⟩)]) wGk wHg (fun x=>wBC x p0):=⟨45,[],[.pointer (some ⟨b2,0,none⟩)],rfl,Try.call45,fun U1 w1 x y vs le hs ha hm=>by obtain rfl:=ha;exact wEO x p0 b2 ab ac w1 U1 hs (aH.le le) (aR.le le) hm⟩
 refine bnK bc fun bv aS bd=>zK 0 Z Z Z Z (zI Z Z Try.call37 (zA Z (zA Z zL)) Z) ai (fun hs=>wCR p1 aj ak (fun x=>wBC x p0) (.func (.func 45) #[] #[.pointer (some ⟨b2,0,none⟩)]) ay ag hs aI aV aS) (.inr Z) ?_
 rintro am bo bs az bl aY ⟨rfl,rfl⟩
 have aJ:sW w U am [] az:=aY
 refine oR Z (zy Z Z) (oA Z Z (eN (ifc bd ?_ ?_)))
 intro au be
 refine zb (nC au.out) (sR gAt Z (oM Z Z ?_))
 have aT:=aI.le bl
 refine bnK be fun bw aU bf=>zK 0 Z Z Z Z (zI Z Z Try.call40 (zA Z zL) Z) aJ (fun hs=>wCi p1 aj ak az am hs aT aU) (.inr Z) ?_
 rintro an bp bt aO bq aZ ⟨rfl,rfl⟩
 have aK:sW w U an [] aO:=aZ
 refine oA Z Z (eN (ifc bf ?_ ?_))
 intro av bg
 refine zf (congrArg nA av.out) (sR fL1 Z (oA Z Z (eN (zJ (zc (zM ?_))))))
 cases bg
 exact ⟨Z,_,(zY Z),an,_,aK,Z,Z⟩
 intro av bh
 refine zb (congrArg nA (nB.2 av.out)) (ZC (zV (zG (sR fL1 Z (oA Z Z (eN (zJ ?_)))))))
 cases bh
 exact ⟨Z,_,(zY Z),an,_,aK,Z,Z⟩
 intro au bi
 refine zf (nF (au.out)) (sR fL1 Z (oA Z Z (eN (zJ (zc (zM ?_))))))
 cases bi
 exact ⟨Z,_,(zY Z),am,_,aJ,Z,Z⟩
 intro aq bj
 refine cT Z aq (sR fL1 Z (oA Z Z (eN (zJ (zc (zM ?_))))))
 cases bj
 exact ⟨Z,_,(zY Z),ag,_,ai,Z,Z⟩
 intro ap bk
 refine cT Z ap (sR fL2 Z (oM Z Z (oA Z Z (eN (zJ (zc (zM ?_)))))))
 have hE:=hM bk;first | subst r | cases hE
 exact ⟨Z,_,(zY Z),ag,_,ai,Z,Z⟩
theorem wEk (p0:List wAB) (an:Option Addr) (ap:Nat) (p1:List Int) (ao:Option Addr) (aq:Nat) (p2:Int) (w:World) (U:PHeap) (hS:St0 w U []) (a7:Sl U 3 an ap p0.length (hD wAO p0)) (a8:Sl U 1 ao aq p1.length (hD KL.encI p1)) {r:(List wAA) × Int} (hm:wBV p0 p1 p2=some r):Gv Try.prog 8 [.slice an p0.length ap,.slice ao p1.length aq,jV p2] w (wBm w [] U (fun U_ L_ v=>∃ (A0:Option Addr) (c0:Nat),v=.tuple #[.slice A0 r.1.length c0,jV r.2]/\L_=[.row A0 c0 47 3 (hD wAC r.1)])):=by
 unfold wBV at hm
 refine Gv.of Try.func8 Z Try.ntmps8 Try.results8 Z (sR fL2 Z (oA Z Z (oA Z Z (eN (sR gAx Z (oM Z Z (oM Z Z (bnK hm fun x1 h2 bW=>zK 0 Z Z Z Z (zI Z Z Try.call21 (zA Z (zA Z zL)) Z) hS (fun hs=>wFF p0 an ap p1 ao aq w U hs a7 a8 h2) (.inr Z) ?_))))))))
 rintro U4 L5 v6 W7 bb bK ⟨rfl,rfl⟩
 have aZ:sW w U U4 [] W7:=bK
 refine oA Z Z (eN (zC (zT (sR fL3 Z (oM Z Z (oR Z (ZV Z Z Z) (oA Z Z (eN (ifc bW ?_ ?_)))))))))
 intro ax bP
 refine zb (ZD (fun h=>h ax.out)) (sR (.fl 0 (.fx 1 (wLi (.nil)) .stop)) Z (oM Z Z (bnK bP fun cy bp bS=>zK 0 Z Z Z Z (zI Z Z Try.call22 (zA Z (zA Z (zA Z zL))) Z) aZ (fun hs=>wCK p2 1 360000 W7 U4 hs bp) (.inr Z) ?_)))
 rintro ah cd cu bg ba bH ⟨rfl,rfl⟩
 have aG:sW w U ah [] bg:=bH
 refine oR Z (zy Z Z) (oM Z Z (ifc bS ?_ ?_))
 intro aa bT
 refine zQ Z Z Z (zP Z Z (nC aa.out)) Z Z (zQ Z Z Z (zP Z Z (nC aa.out)) Z Z (zU Z Z Z (zP Z Z (nC aa.out)) (fun _=>zh Z Z zX) (zU Z Z Z (zP Z Z (nC aa.out)) (fun _=>ZN Z Z Z) (zU Z Z Z (zP Z Z (nC aa.out)) (fun _=>Runs.mulw Z Z Z) (zU Z Z Z (zP Z Z (nC aa.out)) (fun _=>Zh Z Z Z) (oR Z (zZ Z (nC aa.out) Z) (oA Z Z (eN (ifc bT ?_ ?_)))))))))
 intro ay bU
 refine cT Z ay (sR fL2 Z (oA Z Z (oA Z Z (eN (zJ (zc (zM ?_)))))))
 have bI:=aG.nilrow 47 3
 cases bU
 exact ⟨Z,_,(wFd Z Z),ah,_,bI,none,0,Z,Z⟩
 intro ay bV
 refine cF Z ay (ZC (zV (zG (sR fL1 Z (oA Z Z (eN (zC (sR fL3 Z (oM Z Z (oR Z (zh Z Z zF) (oM Z Z (eN (zT (bnK bV fun cA bM bX=>?_))))))))))))))
 have q:=wBY bM
 obtain ⟨aJ,bN⟩:=q
 replace aJ:=zH aJ
 refine CK.forN' (fun ab ai J_ w_=>∃ (U_:PHeap) (aj:Option Addr) (ak:Nat),J_ 33=jV (↑ab:Int)/\J_ 0=.slice an p0.length ap/\J_ 2=jV p2/\J_ 9=.slice aj ai.length ak/\J_ 31=.slice ao p1.length aq/\J_ 32=jV (↑p1.length:Int)/\PHeap.Le ah U_/\sW w U U_ [.row aj ak 47 3 (hD wAC ai)] w_) bN ?_ ?_ ?_
 have bJ:=aG.nilrow 47 3
 exact ⟨ah,none,0,Z,Z,Z,Z,Z,Z,(zO _),bJ⟩
 rintro ab ai cz cc ci aI ⟨aw,aj,ak,am,aT,aU,bn,aV,aW,aK,aH⟩ b8
 have aS:Hid ((↑ab:Int) < (↑p1.length:Int)):=zH (wBg aI)
 replace aI:=zH aI
 have bO:Hid (w64 ((↑ab:Int) + 1)=(↑(ab + 1):Int)):=zH (by have h1:=aJ.out;have h2:=aS.out;rw [wAR] <;> omega)
 refine sR fL1 Z (oR Z (zR Z am aW) (eN (zC (cT Z aS (kN (zC (zT (sR fL5 Z (oM Z am (bnK b8 fun b9 aY bY=>?_))))))))))
 have bq:=a8.le bb
 have br:=bq.le ba
 have bs:=br.le aK
 have q:=bs.el (fun _=>rfl) (wAl aY)
 obtain ⟨cj,cr,bx,bA⟩:=q
 refine oR Z (ZR Z aV bx am zF zB (wCa aY)) (oL Z (aH.ldC (f:=0) bA (v:=jV b9) Z Z zD Z) (oA Z Z (oA Z Z (eN (rR (wLd (.fx 10 (.fx 11 (.fl 12 .nil) .stop) .stop)) Z (oM Z bn (oM Z aT (oM Z Z (bnK bY fun ag az bZ=>?_)))))))))
 have bt:=a7.le bb
 have bu:=bt.le ba
 have bv:=bu.le aK
 have q:=bv.el (fun _=>rfl) (wAl az)
 obtain ⟨cm,ct,bz,bB⟩:=q
 refine oR Z (Zb Z Z bz Z zX ZO (wCZ az) (wCf az)) (oR Z (zN Z Z ZH Z zB) (oL Z (aH.ldC (f:=0) bB (v:=jV ag.Bib) Z Z zD Z) (oM Z Z (oM Z aU (oR Z (Runs.mulw Z Z Z) ?_)))))
 let B0:List Value:=[jV ag.Bib,jV (w64 ((↑ab:Int) * p2)),jV 0]
 let B1:List Value:=[jV 0,jV 0,jV 0]
 refine oR Z (ZS (pv:=[(0,jV ag.Bib),(1,jV (w64 ((↑ab:Int) * p2)))]) (z:=B1) (cs:=B0) Z (wAL Z (wAL Z wAg)) Try.zeroValue47 wJc Z Z) (zq (pv:=[(0,.agg B0.toArray)]) (zs:=B1) (cs:=B0) Z Z Z Z Z (wAL Z wAg) zg zp Try.zeroValue47 Z Z Z Z Z aH ?_)
 intro bh bi bL
 let B2:Res:=.row (some ⟨bi,0,none⟩) 1 47 3 (hD wAC [(⟨ag.Bib,w64 ((↑ab:Int) * p2),0⟩:wAA)])
 have a6:sW w U aw [B2,.row aj ak 47 3 (hD wAC ai)] bh:=bL
 refine bnK bZ fun bc bw b5=>ZJ (j:=1) (enc:=wAC) (xs:=ai) (ys:=[(⟨ag.Bib,w64 ((↑ab:Int) * p2),0⟩:wAA)]) (zs:=bc) rfl rfl rfl rfl rfl Try.underlying39 wKC rfl rfl rfl rfl rfl rfl a6 rfl rfl rfl (a6.srcR (j:=0) rfl (by decide) (wAD (f:=wAC) (sz:=3) (fun _=>rfl) [(⟨ag.Bib,w64 ((↑ab:Int) * p2),0⟩:wAA)])) (fun _=>rfl) (fun _=>rfl) bw rfl ?_
 intro aM aR bf bC
 have bD:sW w U aw [B2,.row aM aR 47 3 (hD wAC bc)] bf:=bC
 refine oA Z Z (zk (zV (zG (rR fL2 Z (oR Z (zj (zS Z am Z) (congrArg (jV) bO.out)) (oM Z Z (zk ?_)))))))
 cases b5
 exact zG ⟨rfl,⟨aw,aM,aR,rfl,aT,aU,rfl,aV,aW,aK,(bD.pick [1] _ (by decide) rfl)⟩⟩
 rintro ca ch ⟨be,bd,bj,bo,cn,co,bl,cp,bm,cq,bE⟩
 have bk:Hid (¬ ((↑(((↑p1.length:Int):Int) - 0).toNat:Int) < (↑p1.length:Int))):=zH (wBB)
 refine sR fL1 Z (oR Z (zR Z bo bm) (eN (zC (cF Z bk (ZK (ze (ze (ZB (zG (sR fL3 Z (oM Z bl (oA Z Z (oA Z Z (eN (zJ ?_)))))))))))))))
 cases bX
 exact ⟨Z,_,(wFd Z Z),be,_,bE,bd,bj,Z,Z⟩
 intro aa bQ
 refine zi Z Z Z (zd Z Z (nF (aa.out)) Z) (zi Z Z Z (zd Z Z (nF (aa.out)) Z) (zi Z Z Z (zd Z Z (nF (aa.out)) Z) (zi Z Z Z (zd Z Z (nF (aa.out)) Z) (zi Z Z Z (zd Z Z (nF (aa.out)) Z) (zi Z Z Z (zd Z Z (nF (aa.out)) Z) (oR Z (zW Z (nF (aa.out)) Z) (oA Z Z (eN (zf Z (sR fL2 Z (oA Z Z (oA Z Z (eN (zJ (zc (zM ?_))))))))))))))))
 have bF:=aG.nilrow 47 3
 cases bQ
 exact ⟨Z,_,(wFd Z Z),ah,_,bF,none,0,Z,Z⟩
 intro ax bR
 refine cT Z ax (sR fL3 Z (oM Z Z (oA Z Z (oA Z Z (eN (zJ (zc (zM ?_))))))))
 have bG:=aZ.nilrow 47 3
 cases bR
 exact ⟨Z,_,(wFd Z Z),U4,_,bG,none,0,Z,Z⟩
theorem wBv (p0:Int) (p1:Int) (p2:Int) (w:World) (U:PHeap) (hS:St0 w U [])  {r:Bool} (hm:wAs p0 p1 p2=some r):Gv Try.prog 65 [jV p0,jV p1,jV p2] w (wBm w [] U (fun U_ L_ v=>v=.bool r/\L_=[])):=by
 unfold wAs at hm
 refine Gv.of Try.func65 Z Try.ntmps65 Try.results65 Z (sR fL1 Z (oA Z Z (eN (sR fL9 Z (oM Z Z (oM Z Z (oR Z (Zk Z Z Z) (oM Z Z ?_))))))))
 by_cases c1:p1 <= p0
 have ab:=hm;rw [if_pos c1] at ab;replace c1:=zH c1
 refine zQ Z Z Z (wT Z c1) Z Z (zQ Z Z Z (wT Z c1) Z Z (rU Z (wT Z c1) (Runs.leq Z Z Z) (oR Z (zW Z (ZX c1.out) Z) (oA Z Z (eN (zJ ?_))))))
 first | (obtain rfl:=hM ab) | cases ab
 exact ⟨Z,_,(zY Z),U,_,hS,Z,Z⟩
 have af:=hm;rw [if_neg c1] at af;replace c1:=zH c1
 refine oF Z c1 (oF Z c1 (oF Z c1 (oR Z (zZ Z (ZD c1.out) Z) (oA Z Z (eN (zJ ?_))))))
 have hE:=hM af;first | subst r | cases hE
 exact ⟨Z,_,(zY Z),U,_,hS,Z,Z⟩
theorem wDI (p0:wAF) (p1:(wAF->Option Bool)) (ah:Nat) (ae:Value) (w:World) (U:PHeap) (hS:St0 w U []) (ao:Cl U ah 0 [ae]) (ap:FnOK Try.prog U ae wHh wHi p1) {r:Bool} (hm:wAi p0 p1=some r):Gv Try.prog 84 [.agg #[jV p0.Mass,jV p0.Reading],.pointer (some ⟨ah,0,none⟩)] w (wBm w [] U (fun U_ L_ v=>v=.bool r/\L_=[])):=by
 unfold wAi at hm
 refine Gv.of Try.func84 Z Try.ntmps84 Try.results84 Z (sR gAg Z ?_)
 let B0:List Value:=[jV p0.Mass,jV p0.Reading]
 refine zr (cs:=B0) rfl rfl rfl rfl rfl rfl (by rfl) hS ?_
 intro W1 b2 ac
 refine oA Z Z (eN (sR gBf Z (oL Z (ac.ldC (f:=0) ao (v:=ae) Z Z Try.isAgg116 Z) (oL Z (ac.ldBA (j:=0) Z Z Z Try.isAgg35 Zp (vs:=B0) Z Z) (bnK hm fun x5 h6 aq=>Ze (a:=p0) Z Z Z Z Z Z (zA Z zL) ac ap Z h6 ?_)))))
 rintro U8 L9 ax ai aw am ⟨rfl,rfl⟩
 have an:sW w U U8 [.blk b2 35 B0] ai:=am
 refine oR Z (zy Z Z) (oA Z Z (eN (zJ ?_)))
 cases aq
 exact ⟨rfl,_,(zY rfl),U8,_,(an.pick [] _ (by decide) rfl),rfl,rfl⟩
theorem wBy (p0:List wAF) (ak:Option Addr) (am:Nat) (p1:(wAF->Option Bool)) (an:Value) (w:World) (U:PHeap) (hS:St0 w U []) (aV:Sl U 2 ak am p0.length (hD wAI p0)) (aW:FnOK Try.prog U an wHh wHi p1) {r:Int} (hm:wAQ p0 p1=some r):Gv Try.prog 92 [.slice ak p0.length am,an] w (wBm w [] U (fun U_ L_ v=>v=jV r/\L_=[])):=by
 unfold wAQ at hm
 refine Gv.of Try.func92 Z Try.ntmps92 Try.results92 Z (sR fL1 Z (oA Z Z (eN (zC (sR fL3 Z (oM Z Z (oR Z (zh Z Z Zg) (oM Z Z (eN (zT ?_))))))))))
 have q:=wCo hm
 obtain ⟨r3,ag⟩:=q
 have q:=wCn ag
 obtain ⟨ai,aZ⟩:=q
 replace ai:=zH ai
 refine CK.forN (fun k2 _ J_ w_=>∃ (U_:PHeap),J_ 8=jV (↑k2:Int)/\J_ 0=.slice ak p0.length am/\J_ 1=an/\J_ 7=jV (↑p0.length:Int)/\PHeap.Le U U_/\sW w U U_ [] w_) aZ ?_ ?_ ?_
 exact ⟨U,Z,Z,Z,Z,(zO _),hS⟩
 rintro k2 ⟨⟩ bt J7 W8 ah ⟨bi,af,aq,au,av,aj,ax⟩ aG aX
 try dsimp only at aG
 have ap:Hid ((↑k2:Int) < (↑p0.length:Int)):=zH (wBg ah)
 replace ah:=zH ah
 have a6:Hid (w64 ((↑k2:Int) + 1)=(↑(k2 + 1):Int)):=zH (by have h1:=ai.out;have h2:=ap.out;rw [wAR] <;> omega)
 refine sR fL1 Z (oR Z (zR Z af av) (eN (zC (cT Z ap (kN (zC (zT (sR fL2 Z (oM Z af (oA Z Z (eN (sR (wEp (.fx 5 .nil .stop)) Z (oM Z au (oM Z aq (oM Z Z (bnK aG fun ao aw a7=>?_))))))))))))))))
 have aO:=aV.le aj
 have q:=aO.el (fun _=>rfl) (wAl aw)
 obtain ⟨bl,bp,aR,aS⟩:=q
 refine oR Z (ZR Z Z aR Z Zg Zp (wCa aw)) (oL Z (ax.ldCA (f:=0) aS Z Z Try.isAgg35 Zp (us:=[jV ao.Mass,jV ao.Reading]) Z Z) (bnK a7 fun bs aP a8=>?_))
 have aQ:=aW.le aj
 refine Ze (a:=ao) Z Z Z Z Z Z (zA Z zL) ax aQ Z aP ?_
 rintro ac bh br aJ bd aT ⟨rfl,rfl⟩
 have ay:sW w U ac [] aJ:=aT
 refine eN (ifc a8 ?_ ?_)
 intro ae ba
 refine zf (congrArg nA ae.out) (sR fL2 Z (oM Z Z (oA Z Z (eN (zJ (zc (zM ?_)))))))
 have q:=wBZ ba
 obtain ⟨be,bb,aL⟩:=q
 have q:=wCp hm ag (aX be aL)
 obtain rfl:=q
 refine zM (zc (zM ?_))
 cases bb
 exact ⟨Z,_,(zY Z),ac,_,ay,Z,Z⟩
 intro ae bc
 refine zb (congrArg nA (nB.2 ae.out)) (ZC (zV (zG (rR fL2 Z (oR Z (zj (zS Z af Z) (congrArg (jV) a6.out)) (oM Z Z (zk ?_)))))))
 have q:=hM bc
 obtain rfl:=q
 exact zG ⟨Z,_,Z,⟨ac,Z,aq,au,av,(aj.trans bd),ay⟩⟩
 rintro ⟨⟩ bf bj ⟨aI,aN,bm,bn,aM,bo,aU⟩ aY
 have az:=wDU hm ag aY
 try dsimp only at az
 have aK:Hid (¬ ((↑(((↑p0.length:Int):Int) - 0).toNat:Int) < (↑p0.length:Int))):=zH (wBB)
 refine sR fL1 Z (oR Z (zR Z aN aM) (eN (zC (cF Z aK (ZK (ze (ze (ZB (zG (sR fL1 Z (oA Z Z (eN (zJ ?_)))))))))))))
 cases az
 exact ⟨Z,_,(zY Z),aI,_,aU,Z,Z⟩
theorem wBp (p0:List wAF) (ac:Option Addr) (ae:Nat) (p1:(wAF->Option Bool)) (af:Value) (w:World) (U:PHeap) (hS:St0 w U []) (an:Sl U 2 ac ae p0.length (hD wAI p0)) (ao:FnOK Try.prog U af wHh wHi p1) {r:Bool} (hm:wAV p0 p1=some r):Gv Try.prog 83 [.slice ac p0.length ae,af] w (wBm w [] U (fun U_ L_ v=>v=.bool r/\L_=[])):=by
 unfold wAV at hm
 refine Gv.of Try.func83 Z Try.ntmps83 Try.results83 Z (sR fL1 Z (oA Z Z (eN (sR gBf Z (oM Z Z (oM Z Z (bnK hm fun x1 h2 ah=>zK 0 Z Z Z Z (zI Z Z Try.call92 (zA Z (zA Z zL)) Z) hS (fun hs=>wBy p0 ac ae p1 af w U hs an ao h2) (.inr Z) ?_)))))))
 rintro U4 L5 v6 W7 aq am ⟨rfl,rfl⟩
 have ak:sW w U U4 [] W7:=am
 refine oR Z (Zk Z Z Z) (oA Z Z (eN (zJ ?_)))
 first | (obtain rfl:=hM ah) | cases ah
 exact ⟨Z,_,(zY Z),U4,_,ak,Z,Z⟩
theorem wDR (p0:List wAF) (ah:Option Addr) (ai:Nat) (p1:(wAF->Option Bool)) (af:Value) (w:World) (U:PHeap) (hS:St0 w U []) (aI:Sl U 2 ah ai p0.length (hD wAI p0)) (am:FnOK Try.prog U af wHh wHi p1) {r:Bool} (hm:wAy p0 p1=some r):Gv Try.prog 66 [.slice ah p0.length ai,af] w (wBm w [] U (fun U_ L_ v=>v=.bool r/\L_=[])):=by
 unfold wAy at hm
 refine Gv.of Try.func66 Z Try.ntmps66 Try.results66 Z (sR gAg Z (zr (cs:=[af]) Z Z Z Z Z Z (FnOK.cells am) hS ?_))
 intro W1 b2 az
 have q:=az.freeze (k:=0) rfl
 obtain ⟨U5,an,ab,aG⟩:=q
 replace ab:=Cl.of ab
 have aH:sW w U U5 [] W1:=aG
 replace ab:Cl U5 b2 0 [af]:=ab
 refine oA Z Z (eN (sR gBf Z (oM Z Z (oR Z (Zl Z zL (zA Z zL)) ?_))))
 have aq:=aI.le an
 have au:=am.le an
 have aw:FnOK Try.prog U5 (.func (.func 84) #[] #[.pointer (some ⟨b2,0,none⟩)]) wHh wHi (fun x=>wAi x p1):=⟨84,[],[.pointer (some ⟨b2,0,none⟩)],rfl,Try.call84,fun U1 w1 x y vs le hs ha hm=>by obtain rfl:=ha;exact wDI x p1 b2 af w1 U1 hs (ab.le le) (au.le le) hm⟩
 refine bnK hm fun aO av aJ=>zK 0 Z Z Z Z (zI Z Z Try.call83 (zA Z (zA Z zL)) Z) aH (fun hs=>wBp p0 ah ai (fun x=>wAi x p1) (.func (.func 84) #[] #[.pointer (some ⟨b2,0,none⟩)]) W1 U5 hs aq aw av) (.inr Z) ?_
 rintro aj aL aN ap aM ax ⟨rfl,rfl⟩
 have ay:sW w U aj [] ap:=ax
 refine oR Z (zy Z Z) (oA Z Z (eN (zJ ?_)))
 cases aJ
 exact ⟨Z,_,(zY Z),aj,_,ay,Z,Z⟩
theorem wFG (p0:wAF) (w:World) (U:PHeap) (hS:St0 w U [])  {r:Bool} (hm:wBj p0=some r):Gv Try.prog 67 [.agg #[jV p0.Mass,jV p0.Reading]] w (wBm w [] U (fun U_ L_ v=>v=.bool r/\L_=[])):=by
 unfold wBj at hm
 refine Gv.of Try.func67 Z Try.ntmps67 Try.results67 Z (sR gAg Z ?_)
 let B0:List Value:=[jV p0.Mass,jV p0.Reading]
 refine zr (cs:=B0) rfl rfl rfl rfl rfl rfl (by rfl) hS ?_
 intro W1 b2 aj
 refine oA Z Z (eN (sR (.fl 0 (.fl 1 (.fx 2 (wKf gAo) .stop))) Z (oR Z (zN Z Z Try.runUnderlying35 Z zB) (oL Z (aj.ldB (j:=0) Z Z Z zD (v:=jV p0.Mass) Z) (bnK hm fun x5 h6 ay=>zK 0 Z Z Z Z (zI Z Z Try.call65 (zA Z (zA Z (zA Z zL))) Z) aj (fun hs=>wBv p0.Mass 1 10000 W1 U hs h6) (.inr Z) ?_)))))
 rintro U8 L9 aJ ah aH ap ⟨rfl,rfl⟩
 have af:sW w U U8 [.blk b2 35 B0] ah:=ap
 refine oM Z Z (ifc ay ?_ ?_)
 intro aa av
 refine zU Z Z Z (zP Z Z (congrArg nA aa.out)) (fun _=>zN Z Z Try.runUnderlying35 Z zB) (zz Z Z Z (zP Z Z (congrArg nA aa.out)) (af.ldB (j:=0) Z Z Z zD (v:=jV p0.Reading) Z) Z (bnK av fun aL an aw=>zK 0 Z Z Z (zP Z Z (congrArg nA aa.out)) (zI Z Z Try.call65 (zA Z (zA Z (zA Z zL))) Z) af (fun hs=>wBv p0.Reading 0 20000 ah U8 hs an) (.inr Z) ?_))
 rintro ag az aK am aI aq ⟨rfl,rfl⟩
 have au:sW w U ag [.blk b2 35 B0] am:=aq
 refine oR Z (zW Z (congrArg nA aa.out) Z) (oA Z Z (eN (zJ ?_)))
 have hE:=hM aw;first | subst r | cases hE
 exact ⟨rfl,_,(zY rfl),ag,_,(au.pick [] _ (by decide) rfl),rfl,rfl⟩
 intro aa ax
 refine zi Z Z Z (zd Z Z (congrArg nA (nB.2 aa.out)) Z) (zi Z Z Z (zd Z Z (congrArg nA (nB.2 aa.out)) Z) (ZZ Z Z Z (zd Z Z (congrArg nA (nB.2 aa.out)) Z) (oR Z (zZ Z (congrArg nA (nB.2 aa.out)) Z) (oA Z Z (eN (zJ ?_))))))
 have hE:=hM ax;first | subst r | cases hE
 exact ⟨rfl,_,(zY rfl),U8,_,(af.pick [] _ (by decide) rfl),rfl,rfl⟩
theorem wEP (p0:Int) (p1:(Int->Option Bool)) (af:Nat) (ab:Value) (w:World) (U:PHeap) (hS:St0 w U []) (ak:Cl U af 0 [ab]) (am:FnOK Try.prog U ab wGk wHg p1) {r:Bool} (hm:wBL p0 p1=some r):Gv Try.prog 86 [jV p0,.pointer (some ⟨af,0,none⟩)] w (wBm w [] U (fun U_ L_ v=>v=.bool r/\L_=[])):=by
 unfold wBL at hm
 refine Gv.of Try.func86 Z Try.ntmps86 Try.results86 Z (sR fL1 Z (oA Z Z (eN (sR gBf Z (oL Z (hS.ldC (f:=0) ak (v:=ab) Z Z Try.isAgg64 Z) (oM Z Z (bnK hm fun x1 h2 an=>Ze (a:=p0) Z Z Z Z Z Z (zA Z zL) hS am Z h2 ?_)))))))
 rintro U4 L5 v6 W7 ap aj ⟨rfl,rfl⟩
 have ai:sW w U U4 [] W7:=aj
 refine oR Z (zy Z Z) (oA Z Z (eN (zJ ?_)))
 cases an
 exact ⟨Z,_,(zY Z),U4,_,ai,Z,Z⟩
theorem wCd (p0:List Int) (ac:Option Addr) (ae:Nat) (p1:(Int->Option Bool)) (af:Value) (w:World) (U:PHeap) (hS:St0 w U []) (an:Sl U 1 ac ae p0.length (hD KL.encI p0)) (ao:FnOK Try.prog U af wGk wHg p1) {r:Bool} (hm:wAp p0 p1=some r):Gv Try.prog 85 [.slice ac p0.length ae,af] w (wBm w [] U (fun U_ L_ v=>v=.bool r/\L_=[])):=by
 unfold wAp at hm
 refine Gv.of Try.func85 Z Try.ntmps85 Try.results85 Z (sR fL1 Z (oA Z Z (eN (sR gBf Z (oM Z Z (oM Z Z (bnK hm fun x1 h2 ah=>zK 0 Z Z Z Z (zI Z Z Try.call18 (zA Z (zA Z zL)) Z) hS (fun hs=>wBT p0 ac ae p1 af w U hs an ao h2) (.inr Z) ?_)))))))
 rintro U4 L5 v6 W7 aq am ⟨rfl,rfl⟩
 have ak:sW w U U4 [] W7:=am
 refine oR Z (Zk Z Z Z) (oA Z Z (eN (zJ ?_)))
 first | (obtain rfl:=hM ah) | cases ah
 exact ⟨Z,_,(zY Z),U4,_,ak,Z,Z⟩
theorem wFH (p0:List Int) (ah:Option Addr) (ai:Nat) (p1:(Int->Option Bool)) (af:Value) (w:World) (U:PHeap) (hS:St0 w U []) (aI:Sl U 1 ah ai p0.length (hD KL.encI p0)) (am:FnOK Try.prog U af wGk wHg p1) {r:Bool} (hm:wCC p0 p1=some r):Gv Try.prog 68 [.slice ah p0.length ai,af] w (wBm w [] U (fun U_ L_ v=>v=.bool r/\L_=[])):=by
 unfold wCC at hm
 refine Gv.of Try.func68 Z Try.ntmps68 Try.results68 Z (sR gAg Z (zr (cs:=[af]) Z Z Z Z Z Z (FnOK.cells am) hS ?_))
 intro W1 b2 az
 have q:=az.freeze (k:=0) rfl
 obtain ⟨U5,an,ab,aG⟩:=q
 replace ab:=Cl.of ab
 have aH:sW w U U5 [] W1:=aG
 replace ab:Cl U5 b2 0 [af]:=ab
 refine oA Z Z (eN (sR gBf Z (oM Z Z (oR Z (Zl Z zL (zA Z zL)) ?_))))
 have aq:=aI.le an
 have au:=am.le an
 have aw:FnOK Try.prog U5 (.func (.func 86) #[] #[.pointer (some ⟨b2,0,none⟩)]) wGk wHg (fun x=>wBL x p1):=⟨86,[],[.pointer (some ⟨b2,0,none⟩)],rfl,Try.call86,fun U1 w1 x y vs le hs ha hm=>by obtain rfl:=ha;exact wEP x p1 b2 af w1 U1 hs (ab.le le) (au.le le) hm⟩
 refine bnK hm fun aO av aJ=>zK 0 Z Z Z Z (zI Z Z Try.call85 (zA Z (zA Z zL)) Z) aH (fun hs=>wCd p0 ah ai (fun x=>wBL x p1) (.func (.func 86) #[] #[.pointer (some ⟨b2,0,none⟩)]) W1 U5 hs aq aw av) (.inr Z) ?_
 rintro aj aL aN ap aM ax ⟨rfl,rfl⟩
 have ay:sW w U aj [] ap:=ax
 refine oR Z (zy Z Z) (oA Z Z (eN (zJ ?_)))
 cases aJ
 exact ⟨Z,_,(zY Z),aj,_,ay,Z,Z⟩
theorem wFI (p0:Int) (w:World) (U:PHeap) (hS:St0 w U [])  {r:Bool} (hm:wBk p0=some r):Gv Try.prog 69 [jV p0] w (wBm w [] U (fun U_ L_ v=>v=.bool r/\L_=[])):=by
 unfold wBk at hm
 refine Gv.of Try.func69 Z Try.ntmps69 Try.results69 Z (sR fL1 Z (oA Z Z (eN (sR gAt Z (oM Z Z (bnK hm fun x1 h2 ah=>zK 0 Z Z Z Z (zI Z Z Try.call65 (zA Z (zA Z (zA Z zL))) Z) hS (fun hs=>wBv p0 0 20000 w U hs h2) (.inr Z) ?_))))))
 rintro U4 L5 v6 W7 aj ag ⟨rfl,rfl⟩
 have af:sW w U U4 [] W7:=ag
 refine oA Z Z (eN (zJ ?_))
 have hE:=hM ah;first | subst r | cases hE
 exact ⟨Z,_,(zY Z),U4,_,af,Z,Z⟩
theorem wFn (p0:wAM) (af:Option Addr) (ah:Nat) (ag:Option Addr) (ai:Nat) (w:World) (U:PHeap) (hS:St0 w U []) (bm:Sl U 2 af ah p0.Tests.length (hD wAI p0.Tests)) (bn:Sl U 1 ag ai p0.Rifles.length (hD KL.encI p0.Rifles)) {r:Int} (hm:wCO p0=some r):Gv Try.prog 46 [.agg #[jV p0.Error,jV p0.Least,.slice af p0.Tests.length ah,.slice ag p0.Rifles.length ai]] w (wBm w [] U (fun U_ L_ v=>v=jV r/\L_=[])):=by
 unfold wCO at hm
 refine Gv.of Try.func46 Z Try.ntmps46 Try.results46 Z (sR gAg Z ?_)
 let B0:List Value:=[jV p0.Error,jV p0.Least,.slice af p0.Tests.length ah,.slice ag p0.Rifles.length ai]
 refine zr (cs:=B0) rfl rfl rfl rfl rfl rfl (by rfl) hS ?_
 intro W1 b2 an
 refine oA Z Z (eN (zC (zT (sR (wLc (.fx 8 (wKJ (.nil)) .stop)) Z (oR Z (zN Z Z za Z Try.sizeOf27) (oL Z (an.ldB (j:=0) Z Z Z Try.isAgg27 (v:=.slice af p0.Tests.length ah) Z) (oR Z (zh Z Z Zg) (oR Z (Zh Z Z Z) (oM Z Z ?_)))))))))
 by_cases c5:10 < (↑p0.Tests.length:Int)
 have aP:=hm;rw [if_pos c5] at aP;replace c5:=zH c5
 refine oT Z c5 (oT Z c5 (oT Z c5 (ZZ Z Z Z (zd Z Z (ZX c5.out) Z) (oT Z c5 (oR Z (zW Z (ZX c5.out) Z) (oA Z Z (eN (zf Z (sR fL1 Z (oA Z Z (eN (zJ (zc (zM ?_))))))))))))))
 cases aP
 exact ⟨rfl,_,(zY rfl),U,_,(an.pick [] _ (by decide) rfl),rfl,rfl⟩
 have aQ:=hm;rw [if_neg c5] at aQ;replace c5:=zH c5
 refine rU Z (wF Z c5) (zN Z Z za Z Zd) (zz Z Z Z (wF Z c5) (an.ldB (j:=0) Z Z Z Zm (v:=.slice ag p0.Rifles.length ai) Z) Z (rU Z (wF Z c5) (zh Z Z zF) (bnK aQ fun x8 h9 bo=>zK 0 Z Z Z (wF Z c5) (zI Z Z Try.call65 (zA Z (zA Z (zA Z zL))) Z) an (fun hs=>wBv (↑p0.Rifles.length:Int) 1 8 W1 U hs h9) (.inr Z) ?_)))
 rintro ap bF bL aK aR bh ⟨rfl,rfl⟩
 have az:sW w U ap [.blk b2 30 B0] aK:=bh
 refine rU Z (wF Z c5) (zy Z Z) (oR Z (zZ Z (ZD c5.out) Z) (oA Z Z (eN (ifc bo ?_ ?_))))
 intro av bp
 refine zb (nC av.out) (sR (.fl 0 (.fl 1 (.fx 2 (fC3_6 (.fx 7 (wLm (.nil)) .stop)) .stop))) Z (oR Z (zN Z Z za Z zB) (oL Z (az.ldB (j:=0) Z Z Z zD (v:=jV p0.Error) Z) (bnK bp fun bQ aW bq=>zK 0 Z Z Z Z (zI Z Z Try.call65 (zA Z (zA Z (zA Z zL))) Z) az (fun hs=>wBv p0.Error 0 100 aK ap hs aW) (.inr Z) ?_))))
 rintro aq bG bM aL aS bi ⟨rfl,rfl⟩
 have aG:sW w U aq [.blk b2 30 B0] aL:=bi
 refine oR Z (zy Z Z) (oM Z Z (ifc bq ?_ ?_))
 intro ac br
 refine zU Z Z Z (zP Z Z (nC ac.out)) (fun _=>zN Z Z za Z zB) (zz Z Z Z (zP Z Z (nC ac.out)) (aG.ldB (j:=0) Z Z Z zD (v:=jV p0.Least) Z) Z (bnK br fun bR aX bs=>zK 0 Z Z Z (zP Z Z (nC ac.out)) (zI Z Z Try.call65 (zA Z (zA Z (zA Z zL))) Z) aG (fun hs=>wBv p0.Least 1 10000 aL aq hs aX) (.inr Z) ?_))
 rintro ak bH bN aM aT bj ⟨rfl,rfl⟩
 have aH:sW w U ak [.blk b2 30 B0] aM:=bj
 refine zU Z Z Z (zP Z Z (nC ac.out)) (fun _=>zy Z Z) (oR Z (zZ Z (nC ac.out) Z) (oA Z Z (eN (ifc bs ?_ ?_))))
 intro aw bt
 refine zb (nC aw.out) (sR gBf Z (oR Z (zN Z Z za Z Try.sizeOf27) (oL Z (aH.ldB (j:=0) Z Z Z Try.isAgg27 (v:=.slice af p0.Tests.length ah) Z) ?_)))
 have aY:=bm.le aR
 have aZ:=aY.le aS
 have a6:=aZ.le aT
 have bf:FnOK Try.prog ak (.func (.func 67) #[] #[]) wHh wHi wBj:=⟨67,[],[],rfl,Try.call67,fun U1 w1 x y vs le hs ha hm=>by obtain rfl:=ha;exact wFG x w1 U1 hs  hm⟩
 refine bnK bt fun bS a7 bu=>zK 0 Z Z Z Z (zI Z Z Try.call66 (zA Z (zA Z zL)) Z) aH (fun hs=>wDR p0.Tests af ah wBj (.func (.func 67) #[] #[]) aM ak hs a6 bf a7) (.inr Z) ?_
 rintro am bI bO aN bE bk ⟨rfl,rfl⟩
 have aI:sW w U am [.blk b2 30 B0] aN:=bk
 refine oR Z (zy Z Z) (oA Z Z (eN (ifc bu ?_ ?_)))
 intro ax bv
 refine zb (nC ax.out) (sR gBf Z (oR Z (zN Z Z za Z Zd) (oL Z (aI.ldB (j:=0) Z Z Z Zm (v:=.slice ag p0.Rifles.length ai) Z) ?_)))
 have a8:=bn.le aR
 have ba:=a8.le aS
 have bb:=ba.le aT
 have bc:=bb.le bE
 have bg:FnOK Try.prog am (.func (.func 69) #[] #[]) wGk wHg wBk:=⟨69,[],[],rfl,Try.call69,fun U1 w1 x y vs le hs ha hm=>by obtain rfl:=ha;exact wFI x w1 U1 hs  hm⟩
 refine bnK bv fun bT bd bw=>zK 0 Z Z Z Z (zI Z Z Try.call68 (zA Z (zA Z zL)) Z) aI (fun hs=>wFH p0.Rifles ag ai wBk (.func (.func 69) #[] #[]) aN am hs bc bg bd) (.inr Z) ?_
 rintro au bJ bP aV bK bl ⟨rfl,rfl⟩
 have aO:sW w U au [.blk b2 30 B0] aV:=bl
 refine oR Z (zy Z Z) (oA Z Z (eN (ifc bw ?_ ?_)))
 intro ay bx
 refine zb (nC ay.out) (ZC (zV (zG (sR fL1 Z (oA Z Z (eN (zJ ?_)))))))
 cases bx
 exact ⟨rfl,_,(zY rfl),au,_,(aO.pick [] _ (by decide) rfl),rfl,rfl⟩
 intro ay bz
 refine zf (nF (ay.out)) (sR fL1 Z (oA Z Z (eN (zJ (zc (zM ?_))))))
 cases bz
 exact ⟨rfl,_,(zY rfl),au,_,(aO.pick [] _ (by decide) rfl),rfl,rfl⟩
 intro ax bA
 refine zf (nF (ax.out)) (sR fL1 Z (oA Z Z (eN (zJ (zc (zM ?_))))))
 cases bA
 exact ⟨rfl,_,(zY rfl),am,_,(aI.pick [] _ (by decide) rfl),rfl,rfl⟩
 intro aw bB
 refine zf (nF (aw.out)) (sR fL1 Z (oA Z Z (eN (zJ (zc (zM ?_))))))
 cases bB
 exact ⟨rfl,_,(zY rfl),ak,_,(aH.pick [] _ (by decide) rfl),rfl,rfl⟩
 intro ac bC
 refine zi Z Z Z (zd Z Z (nF (ac.out)) Z) (zi Z Z Z (zd Z Z (nF (ac.out)) Z) (ZZ Z Z Z (zd Z Z (nF (ac.out)) Z) (zi Z Z Z (zd Z Z (nF (ac.out)) Z) (oR Z (zW Z (nF (ac.out)) Z) (oA Z Z (eN (zf Z (sR fL1 Z (oA Z Z (eN (zJ (zc (zM ?_)))))))))))))
 cases bC
 exact ⟨rfl,_,(zY rfl),aq,_,(aG.pick [] _ (by decide) rfl),rfl,rfl⟩
 intro av bD
 refine zf (nF (av.out)) (sR fL1 Z (oA Z Z (eN (zJ (zc (zM ?_))))))
 cases bD
 exact ⟨rfl,_,(zY rfl),ap,_,(az.pick [] _ (by decide) rfl),rfl,rfl⟩
end Go.Proofs.Ytnbcoenjobdplaa
namespace Go.Proofs.Ytnbcoenjobdplaa
open Go.KL
set_option maxHeartbeats 4000000
theorem wDf (p0:wAM) (af:Option Addr) (ah:Nat) (ag:Option Addr) (ai:Nat) (p1:wAF) (w:World) (U:PHeap) (hS:St0 w U []) (aG:Sl U 2 af ah p0.Tests.length (hD wAI p0.Tests)) (aH:Sl U 1 ag ai p0.Rifles.length (hD KL.encI p0.Rifles)) {r:wAP} (hm:wBJ p0 p1=some r):Gv Try.prog 48 [.agg #[jV p0.Error,jV p0.Least,.slice af p0.Tests.length ah,.slice ag p0.Rifles.length ai],.agg #[jV p1.Mass,jV p1.Reading]] w (wBm w [] U (fun U_ L_ v=>v=.agg #[jV r.Lo,jV r.Hi]/\L_=[])):=by
 unfold wBJ at hm
 refine Gv.of Try.func48 Z Try.ntmps48 Try.results48 Z (sR gAr Z ?_)
 let B0:List Value:=[jV p0.Error,jV p0.Least,.slice af p0.Tests.length ah,.slice ag p0.Rifles.length ai]
 refine zr (cs:=B0) rfl rfl rfl rfl rfl rfl (by rfl) hS ?_
 intro W1 b2 av
 let B1:List Value:=[jV p1.Mass,jV p1.Reading]
 refine zr (cs:=B1) rfl rfl rfl rfl rfl rfl (by rfl) av ?_
 intro W5 b6 aw
 refine ZA (cs:=[jV 0,jV 0]) Z Z Z Z Z ZY Z aw ?_
 intro W9 ao ae
 refine eN (sR fL6 Z (oR Z (zN Z Z Try.runUnderlying35 Z zB) (oL Z (ae.ldB (j:=1) Z Z Z zD (v:=jV p1.Reading) Z) (oR Z (zN Z Z Try.runUnderlying35 Z zB) (oL Z (ae.ldB (j:=1) Z Z Z zD (v:=jV p1.Mass) Z) (oR Z (ZN Z Z Z) (oA Z Z (eN (sR (wLe (.fx 11 .nil .stop)) Z (oM Z Z (oR Z (zN Z Z za Z zB) (oL Z (ae.ldB (j:=2) Z Z Z zD (v:=jV p0.Error) Z) (oR Z (ZN Z Z Z) (oR Z (Runs.max Z Z Z) (oM Z Z (oR Z (zN Z Z za Z zB) (oL Z (ae.ldB (j:=2) Z Z Z zD (v:=jV p0.Error) Z) (oR Z (zS Z Z Z) (oR Z (Runs.min Z Z Z) ?_)))))))))))))))))))
 let B2:List Value:=[jV (max (-1000) (w64 ((w64 (p1.Reading - p1.Mass)) - p0.Error))),jV (min 1000 (w64 ((w64 (p1.Reading - p1.Mass)) + p0.Error)))]
 refine oR Z (ZS (pv:=[(0,jV (max (-1000) (w64 ((w64 (p1.Reading - p1.Mass)) - p0.Error)))),(1,jV (min 1000 (w64 ((w64 (p1.Reading - p1.Mass)) + p0.Error))))]) (z:=[jV 0,jV 0]) (cs:=B2) Z (wAL Z (wAL Z wAg)) ZY wDy Z Z) (zt (j:=0) (vs:=B2) Z Z Z Z ae Z Z Z Z ZE (zE Z) Z Z Z ?_)
 intro an au
 have am:sW w U U [.blk ao 72 B2,.blk b6 35 B1,.blk b2 30 B0] an:=au
 refine eN (zJ ?_)
 cases hm
 exact ⟨rfl,_,(wGN (v:=.agg B2.toArray) ⟨⟨_,rfl,(wEc Try.isAgg72 ZE (am.blkAt (k:=0) rfl) (vs:=B2) rfl rfl)⟩,trivial⟩),U,_,(am.pick [] _ (by decide) rfl),rfl,rfl⟩
theorem wEl (p0:Int) (p1:List Int) (ag:Option Addr) (ah:Nat) (w:World) (U:PHeap) (hS:St0 w U []) (aL:Sl U 1 ag ah p1.length (hD KL.encI p1)) {r:Int} (hm:wBr p0 p1=some r):Gv Try.prog 70 [jV p0,.slice ag p1.length ah] w (wBm w [] U (fun U_ L_ v=>v=jV r/\L_=[])):=by
 unfold wBr at hm
 refine Gv.of Try.func70 Z Try.ntmps70 Try.results70 Z (sR fL1 Z (oA Z Z (eN (zC (sR fL3 Z (oM Z Z (oR Z (zh Z Z zF) (oM Z Z (eN (zT (bnK hm fun a8 aN aQ=>?_)))))))))))
 have q:=wBY aN
 obtain ⟨af,aM⟩:=q
 replace af:=zH af
 refine CK.forN' (fun k7 x6 J_ w_=>∃ (U_:PHeap),J_ 9=jV (↑k7:Int)/\J_ 0=jV x6/\J_ 7=.slice ag p1.length ah/\J_ 8=jV (↑p1.length:Int)/\PHeap.Le U U_/\sW w U U_ [] w_) aM ?_ ?_ ?_
 exact ⟨U,Z,Z,Z,Z,(zO _),hS⟩
 rintro k7 x6 a7 aT aV ae ⟨au,ac,ax,aj,ak,ao,an⟩ aR
 have ai:Hid ((↑k7:Int) < (↑p1.length:Int)):=zH (wBg ae)
 replace ae:=zH ae
 have aO:Hid (w64 ((↑k7:Int) + 1)=(↑(k7 + 1):Int)):=zH (by have h1:=af.out;have h2:=ai.out;rw [wAR] <;> omega)
 refine sR fL1 Z (oR Z (zR Z ac ak) (eN (zC (cT Z ai (kN (zC (zT (sR fL3 Z (bnK aR fun aS am aP=>?_)))))))))
 have aH:=aL.le ao
 have q:=aH.el (fun _=>rfl) (wAl am)
 obtain ⟨aX,a6,aI,aJ⟩:=q
 refine oR Z (ZR Z aj aI ac zF zB (wCa am)) (oL Z (an.ldC (f:=0) aJ (v:=jV aS) Z Z zD Z) (oA Z Z (eN (rR fL4 Z (oM Z ax (oM Z Z (oR Z (Runs.max Z Z Z) (oA Z Z (zk (zV (zG (rR fL2 Z (oR Z (zj (zS Z ac Z) (congrArg (jV) aO.out)) (oM Z Z (zk ?_)))))))))))))))
 cases aP
 exact zG ⟨Z,⟨au,Z,Z,aj,ak,ao,an⟩⟩
 rintro aU aW ⟨av,aG,ay,aY,az,aZ,aK⟩
 have aw:Hid (¬ ((↑(((↑p1.length:Int):Int) - 0).toNat:Int) < (↑p1.length:Int))):=zH (wBB)
 refine sR fL1 Z (oR Z (zR Z aG az) (eN (zC (cF Z aw (ZK (ze (ze (ZB (zG (sR fL2 Z (oM Z ay (oA Z Z (eN (zJ ?_))))))))))))))
 have hE:=hM aQ;first | subst r | cases hE
 exact ⟨Z,_,(zY Z),av,_,aK,Z,Z⟩
theorem wFS (p0:wAP) (p1:wAP) (w:World) (U:PHeap) (hS:St0 w U [])  {r:wAP} (hm:wCH p0 p1=some r):Gv Try.prog 47 [.agg #[jV p0.Lo,jV p0.Hi],.agg #[jV p1.Lo,jV p1.Hi]] w (wBm w [] U (fun U_ L_ v=>v=.agg #[jV r.Lo,jV r.Hi]/\L_=[])):=by
 unfold wCH at hm
 refine Gv.of Try.func47 Z Try.ntmps47 Try.results47 Z (sR gAr Z ?_)
 let B0:List Value:=[jV p0.Lo,jV p0.Hi]
 refine zr (cs:=B0) rfl rfl rfl rfl rfl rfl (by rfl) hS ?_
 intro W1 b2 aK
 let B1:List Value:=[jV p1.Lo,jV p1.Hi]
 refine zr (cs:=B1) rfl rfl rfl rfl rfl rfl (by rfl) aK ?_
 intro W5 b6 aO
 let B2:List Value:=[jV 0,jV 0]
 refine ZA (cs:=B2) Z Z Z Z Z ZY Z aO ?_
 intro W9 ai az
 refine eN (zC (ZT ZU [3,1,3,1,2,2,3,1,3,1,3,3,0] (wGF (wKI (.fx 4 (.fx 5 (.fl 11 (.fx 12 .nil .stop)) .stop) .stop))) (by kernel_rfl) ?_))
 have ac:=az.drew
 generalize hw_W14:({ W9 with drawn:=W9.drawn + 1 }:World)=aT at ac ⊢
 refine oR Z (zN Z Z ZI Z zB) (oL Z (ac.ldB (j:=2) Z Z Z zD (v:=jV p0.Lo) Z) (oR Z (zN Z Z ZI Z zB) (oL Z (ac.ldB (j:=1) Z Z Z zD (v:=jV p1.Lo) Z) (oR Z (zN Z Z ZI Z zB) (oL Z (ac.ldB (j:=2) Z Z Z zD (v:=jV p0.Hi) Z) (oR Z (zN Z Z ZI Z zB) (oL Z (ac.ldB (j:=1) Z Z Z zD (v:=jV p1.Hi) Z) (oR Z (Runs.min Z Z Z) (zq (pv:=[(0,jV p1.Lo)]) (zs:=[jV 0]) (cs:=[jV p1.Lo]) Z Z Z Z Z (wAL Z wAg) zF zB zo Z Z Z Z Z ac ?_)))))))))
 intro an aq aG
 have aH:sW w U U [.row (some ⟨aq,0,none⟩) 1 3 1 (hD KL.encI [p1.Lo]),.blk ai 72 B2,.blk b6 72 B1,.blk b2 72 B0] an:=aG
 have q:=aH.freezeR (k:=0) (n:=[p1.Lo].length) rfl (wAD (f:=KL.encI) (sz:=1) (fun _=>rfl) [p1.Lo]) (by decide)
 obtain ⟨ao,aV,aQ,aI⟩:=q
 have aJ:sW w U ao [.blk ai 72 B2,.blk b6 72 B1,.blk b2 72 B0] an:=aI
 refine bnK hm fun av ay aP=>zK 0 Z Z Z Z (zI Z Z Try.call70 (zA Z (zA Z zL)) Z) aJ (fun hs=>wEl p0.Lo [p1.Lo] (some ⟨aq,0,none⟩) 1 an ao hs aQ ay) (.inr Z) ?_
 rintro am aR aX aw aW aL ⟨rfl,rfl⟩
 have aM:sW w U am [.blk ai 72 B2,.blk b6 72 B1,.blk b2 72 B0] aw:=aL
 let B3:List Value:=[jV av,jV (min p0.Hi p1.Hi)]
 refine oR Z (ZS (pv:=[(0,jV av),(1,jV (min p0.Hi p1.Hi))]) (z:=B2) (cs:=B3) Z (wAL Z (wAL Z wAg)) ZY wDy Z Z) (zt (j:=0) (vs:=B3) Z Z Z Z aM Z Z Z Z ZE (zE Z) Z Z Z ?_)
 intro ax aN
 have au:sW w U am [.blk ai 72 B3,.blk b6 72 B1,.blk b2 72 B0] ax:=aN
 refine eN (zJ ?_)
 cases aP
 exact ⟨rfl,_,(wGN (v:=.agg B3.toArray) ⟨⟨_,rfl,(wEc Try.isAgg72 ZE (au.blkAt (k:=0) rfl) (vs:=B3) rfl rfl)⟩,trivial⟩),am,_,(au.pick [] _ (by decide) rfl),rfl,rfl⟩
theorem wEA (p0:wAM) (ab:Option Addr) (ac:Nat) (af:Option Addr) (ag:Nat) (w:World) (U:PHeap) (hS:St0 w U []) (aN:Sl U 2 ab ac p0.Tests.length (hD wAI p0.Tests)) (aO:Sl U 1 af ag p0.Rifles.length (hD KL.encI p0.Rifles)) {r:(Option wAW) × Int} (hm:wCE p0=some r):Gv Try.prog 24 [.agg #[jV p0.Error,jV p0.Least,.slice ab p0.Tests.length ac,.slice af p0.Rifles.length ag]] w (wBm w [] U (fun U_ L_ v=>match r.1 with | none=>v=.tuple #[.pointer none,jV r.2]/\L_=[] | some d=>∃ (b0:Nat) (A0p02:Option Addr) (c0p02:Nat) (A0p03:Option Addr) (c0p03:Nat),v=.tuple #[.pointer (some ⟨b0,0,none⟩),jV r.2]/\L_=[.blk b0 77 [jV d.Scale.Error,jV d.Scale.Least,.slice A0p02 d.Scale.Tests.length c0p02,.slice A0p03 d.Scale.Rifles.length c0p03,jV d.first.offset.Lo,jV d.first.offset.Hi,.bool (d.first.pass.get 0),.bool (d.first.pass.get 1),.bool (d.first.pass.get 2),.bool (d.first.pass.get 3),.bool (d.first.pass.get 4),.bool (d.first.pass.get 5),.bool (d.first.pass.get 6),.bool (d.first.pass.get 7),.bool (d.first.fail.get 0),.bool (d.first.fail.get 1),.bool (d.first.fail.get 2),.bool (d.first.fail.get 3),.bool (d.first.fail.get 4),.bool (d.first.fail.get 5),.bool (d.first.fail.get 6),.bool (d.first.fail.get 7)]]/\Sl U_ 2 A0p02 c0p02 d.Scale.Tests.length (hD wAI d.Scale.Tests)/\Sl U_ 1 A0p03 c0p03 d.Scale.Rifles.length (hD KL.encI d.Scale.Rifles))):=by
 unfold wCE at hm
 refine Gv.of Try.func24 Z Try.ntmps24 Try.results24 Z (sR gAs Z ?_)
 let B0:List Value:=[jV p0.Error,jV p0.Least,.slice ab p0.Tests.length ac,.slice af p0.Rifles.length ag]
 refine zr (cs:=B0) rfl rfl rfl rfl rfl rfl (by rfl) hS ?_
 intro W1 b2 be
 refine oA Z Z (oA Z Z (eN (zC (sR gAt Z (oL Z (be.ldBA (j:=0) Z Z Z Try.isAgg30 ZL (vs:=B0) Z Z) (bnK hm fun x5 h6 b5=>zK 0 Z Z Z Z (zI Z Z Try.call46 (zA Z zL) Z) be (fun hs=>wFn p0 ab ac af ag W1 U hs aN aO h6) (.inr Z) ?_))))))
 rintro U8 L9 cz bk aw bG ⟨rfl,rfl⟩
 have aM:sW w U U8 [.blk b2 30 B0] bk:=bG
 refine oA Z Z (eN (sR fL2 Z (oM Z Z (oR Z (ZV Z Z Z) (eN (ifc b5 ?_ ?_))))))
 intro aI bY
 refine zb (ZD (fun h=>h aI.out)) (kN (sR gAx Z (oL Z (aM.ldBA (j:=0) Z Z Z Try.isAgg30 ZL (vs:=B0) Z Z) ?_)))
 let B1:List Value:=[jV p0.Error,jV p0.Least,.slice ab p0.Tests.length ac,.slice af p0.Rifles.length ag,jV 0,jV 0,.bool false,.bool false,.bool false,.bool false,.bool false,.bool false,.bool false,.bool false,.bool false,.bool false,.bool false,.bool false,.bool false,.bool false,.bool false,.bool false]
 refine zU rfl rfl rfl rfl (fun _=>ZS (pv:=[(0,.agg B0.toArray)]) (z:=[jV 0,jV 0,.slice none 0 0,.slice none 0 0,jV 0,jV 0,.bool false,.bool false,.bool false,.bool false,.bool false,.bool false,.bool false,.bool false,.bool false,.bool false,.bool false,.bool false,.bool false,.bool false,.bool false,.bool false]) (cs:=B1) rfl (wAL rfl wAg) Try.zeroValue77 wJe rfl rfl) (zr (cs:=B1) rfl rfl rfl rfl rfl rfl (by rfl) aM ?_)
 intro cq aj bH
 refine oA Z Z (eN (sR (wEp (.fx 5 .nil .stop)) Z (oM Z Z ?_)))
 let B2:List Value:=[jV (-1000),jV 1000]
 refine oR Z (ZS (pv:=[(0,jV (-1000)),(1,jV 1000)]) (z:=[jV 0,jV 0]) (cs:=B2) Z (wAL Z (wAL Z wAg)) ZY wDy Z Z) (oR Z (zx Z Z) (oR Z (zN Z Z zm Z Za) (oR Z (zN Z Z ZQ Z ZE) (zt (j:=0) (vs:=B2) Z Z Z Z bH Z Z Z Z ZE (zE Z) Z Z Z ?_))))
 intro bl bI
 have bd:sW w U U8 [.blk aj 77 [jV p0.Error,jV p0.Least,.slice ab p0.Tests.length ac,.slice af p0.Rifles.length ag,jV (-1000),jV 1000,.bool false,.bool false,.bool false,.bool false,.bool false,.bool false,.bool false,.bool false,.bool false,.bool false,.bool false,.bool false,.bool false,.bool false,.bool false,.bool false],.blk b2 30 B0] bl:=bI
 refine eN (zC (sR fL4 Z (oR Z (zN Z Z za Z Try.sizeOf27) (oL Z (bd.ldB (j:=1) Z Z Z Try.isAgg27 (v:=.slice ab p0.Tests.length ac) Z) (oR Z (zh Z Z Zg) (oM Z Z (eN (zT ?_))))))))
 have q:=bnd bY
 obtain ⟨⟨cg,ch⟩,bS,bg⟩:=q
 try dsimp only at bg
 have q:=wBY bS
 obtain ⟨aQ,bT⟩:=q
 replace aQ:=zH aQ
 refine CK.forN' (fun ao (ap,aq) J_ w_=>∃ (U_:PHeap),J_ 24=jV (↑ao:Int)/\J_ 1=.pointer (some ⟨b2,0,none⟩)/\J_ 5=.pointer (some ⟨aj,0,none⟩)/\J_ 22=.slice ab p0.Tests.length ac/\J_ 23=jV (↑p0.Tests.length:Int)/\PHeap.Le U8 U_/\sW w U U_ [.blk aj 77 [jV p0.Error,jV p0.Least,.slice ab p0.Tests.length ac,.slice af p0.Rifles.length ag,jV ap,jV aq,.bool false,.bool false,.bool false,.bool false,.bool false,.bool false,.bool false,.bool false,.bool false,.bool false,.bool false,.bool false,.bool false,.bool false,.bool false,.bool false],.blk b2 30 B0] w_) bT ?_ ?_ ?_
 exact ⟨U8,Z,Z,Z,Z,Z,(zO _),bd⟩
 rintro ao ⟨ap,aq⟩ cD cj cr aP ⟨aV,aL,a7,aK,a8,ba,aR,bf⟩ bh
 try dsimp only at bh
 have a6:Hid ((↑ao:Int) < (↑p0.Tests.length:Int)):=zH (wBg aP)
 replace aP:=zH aP
 have bU:Hid (w64 ((↑ao:Int) + 1)=(↑(ao + 1):Int)):=zH (by have h1:=aQ.out;have h2:=a6.out;rw [wAR] <;> omega)
 refine sR fL1 Z (oR Z (zR Z aL ba) (eN (zC (cT Z a6 (kN (zC (zT (sR gAy Z (bnK bh fun au bb bZ=>?_)))))))))
 have bx:=aN.le aw
 have bc:=bx.le aR
 have q:=bc.el (fun _=>rfl) (wAl bb)
 obtain ⟨cu,cy,bD,bE⟩:=q
 refine oR Z (ZR Z a8 bD aL Zg Zp (wCa bb)) (oL Z (bf.ldCA (f:=0) bE Z Z Try.isAgg35 Zp (us:=[jV au.Mass,jV au.Reading]) Z Z) (ZA (cs:=[jV 0,jV 0]) Z Z Z Z Z Try.zeroValue35 Z bf ?_))
 intro ct av bJ
 let B3:List Value:=[jV au.Mass,jV au.Reading]
 refine zt (j:=0) (vs:=B3) Z Z Z Z bJ Z Z Z Z Zp (zE Z) Z Z Z ?_
 intro aG bK
 let B4:Res:=.blk aj 77 [jV p0.Error,jV p0.Least,.slice ab p0.Tests.length ac,.slice af p0.Rifles.length ag,jV ap,jV aq,.bool false,.bool false,.bool false,.bool false,.bool false,.bool false,.bool false,.bool false,.bool false,.bool false,.bool false,.bool false,.bool false,.bool false,.bool false,.bool false]
 have bL:sW w U aV [.blk av 35 B3,B4,.blk b2 30 B0] aG:=bK
 refine eN (ZT ZU [3,3,3,3,3,1,1,1,2,2,3,3,3,0] (wLc (.fx 8 (.fx 9 (wKg (.fx 13 .nil .stop)) .stop) .stop)) (by kernel_rfl) ?_)
 have an:=bL.drew
 generalize hw_W74:({ aG with drawn:=aG.drawn + 1 }:World)=bm at an ⊢
 refine oM Z aK (oM Z aK (oR Z (zx Z Z) (oR Z (zN Z Z zm Z Za) (oR Z (zN Z Z ZQ Z ZE) (oL Z (an.ldBA (j:=1) Z Z Z Try.isAgg72 ZE (vs:=[jV ap,jV aq]) Z Z) (oL Z (an.ldBA (j:=2) Z Z a7 Try.isAgg30 ZL (vs:=B0) Z Z) (oL Z (an.ldBA (j:=0) Z Z Z Try.isAgg35 Zp (vs:=B3) Z Z) ?_)))))))
 have bz:=aO.le aw
 have bA:=bz.le aR
 refine bnK bZ fun cd bB b8=>zK 0 Z Z Z Z (zI Z Z Try.call48 (zA Z (zA Z zL)) Z) an (fun hs=>wDf p0 ab ac af ag au bm aV hs bc bA bB) (.inr Z) ?_
 rintro aW cm cA aY ca bM ⟨rfl,rfl⟩
 have bN:sW w U aW [.blk av 35 B3,B4,.blk b2 30 B0] aY:=bM
 refine bnK b8 fun ax bC b9=>zK 0 Z Z Z Z (zI Z Z Try.call47 (zA Z (zA Z zL)) Z) bN (fun hs=>wFS (⟨ap,aq⟩:wAP) cd aY aW hs bC) (.inr Z) ?_
 rintro az co cB bn cc bO ⟨rfl,rfl⟩
 have bP:sW w U az [.blk av 35 B3,B4,.blk b2 30 B0] bn:=bO
 refine oR Z (zx Z Z) (oR Z (zN Z Z zm Z Za) (oR Z (zN Z Z ZQ Z ZE) (zt (j:=1) (vs:=[jV ax.Lo,jV ax.Hi]) Z Z Z Z bP Z Z Z Z ZE (zE Z) Z Z Z ?_)))
 intro bo bQ
 have bR:sW w U az [.blk av 35 B3,.blk aj 77 [jV p0.Error,jV p0.Least,.slice ab p0.Tests.length ac,.slice af p0.Rifles.length ag,jV ax.Lo,jV ax.Hi,.bool false,.bool false,.bool false,.bool false,.bool false,.bool false,.bool false,.bool false,.bool false,.bool false,.bool false,.bool false,.bool false,.bool false,.bool false,.bool false],.blk b2 30 B0] bo:=bQ
 refine zk (zV (zG (rR fL2 Z (oR Z (zj (zS Z aL Z) (congrArg (jV) bU.out)) (oM Z Z (zk ?_))))))
 cases b9
 exact zG ⟨rfl,⟨az,rfl,a7,aK,a8,ba,((aR.trans ca).trans cc),(bR.pick [1,2] _ (by decide) rfl)⟩⟩
 rintro ci aX ⟨aU,br,cw,aJ,cx,bq,bi,bF⟩
 have bp:Hid (¬ ((↑(((↑p0.Tests.length:Int):Int) - 0).toNat:Int) < (↑p0.Tests.length:Int))):=zH (wBB)
 refine sR fL1 rfl (zU rfl rfl rfl rfl (fun _=>zR rfl br bq) (eN (zC (cF Z bp (ZK (ze (ze (ZB (zG (zC (zC (ZT ZU [3,3,3,3,3,1,3,3,3,3,3,1,3] fL13 (by kernel_rfl) ?_))))))))))))
 have am:=bF.drew
 generalize hw_W117:({ aX with drawn:=aX.drawn + 1 }:World)=cp at am ⊢
 refine oM Z aJ (oR Z (zx Z Z) (oR Z (zN Z Z zm Z Za) (oR Z (zN Z Z ZQ Z ZE) (oR Z (zN Z Z ZI Z zB) (oL Z (am.ldB (j:=0) Z Z Z zD (v:=jV cg) Z) (oM Z aJ (oR Z (zx Z Z) (oR Z (zN Z Z zm Z Za) (oR Z (zN Z Z ZQ Z ZE) (oR Z (zN Z Z ZI Z zB) (oL Z (am.ldB (j:=0) Z Z Z zD (v:=jV ch) Z) (oR Z (Zh Z Z Z) (eN (ifc bg ?_ ?_))))))))))))))
 intro aH bV
 refine cT Z aH (sR fL2 Z (oA Z Z (oA Z Z (eN (zJ (zM ?_))))))
 cases bV
 exact ⟨rfl,_,(wFd rfl rfl),aU,_,(am.pick [] _ (by decide) rfl),rfl,rfl⟩
 intro aH bW
 refine cF Z aH (kN (sR fL3 Z (oM Z aJ (oA Z Z (oA Z Z (eN (zJ ?_)))))))
 have bs:=aN.le aw
 have bt:=bs.le bi
 have bu:=aO.le aw
 have bv:=bu.le bi
 cases bW
 exact ⟨rfl,_,(wFd rfl rfl),aU,_,(am.pick [0] _ (by decide) rfl),aj,ab,ac,af,ag,rfl,rfl,bt,bv⟩
 intro aI bX
 refine cT Z aI (sR fL3 Z (oM Z Z (oA Z Z (oA Z Z (eN (zJ (zM ?_)))))))
 cases bX
 exact ⟨rfl,_,(wFd rfl rfl),U8,_,(aM.pick [] _ (by decide) rfl),rfl,rfl⟩
theorem wDV (p0:wAP) (w:World) (U:PHeap) (hS:St0 w U [])  {r:Int} (hm:wAj p0=some r):Gv Try.prog 50 [.agg #[jV p0.Lo,jV p0.Hi]] w (wBm w [] U (fun U_ L_ v=>v=jV r/\L_=[])):=by
 unfold wAj at hm
 refine Gv.of Try.func50 rfl Try.ntmps50 Try.results50 rfl (sR gAg rfl (zr (cs:=[jV p0.Lo,jV p0.Hi]) rfl rfl rfl rfl rfl rfl (by rfl) hS ?_))
 intro W1 b2 ab
 refine oA Z Z (eN (sR fL3 Z (oR Z (zN Z Z ZI Z zB) (oL Z (ab.ldB (j:=0) Z Z Z zD (v:=jV p0.Lo) Z) (oA Z Z (eN (zJ ?_)))))))
 cases hm
 exact ⟨rfl,_,(zY rfl),U,_,(ab.pick [] _ (by decide) rfl),rfl,rfl⟩
theorem wEB  (w:World) (U:PHeap) (hS:St0 w U [])  {r:Unit} (hm:wBn =some r):Gv Try.prog 26 [] w (wBm w [] U (fun U_ L_ v=>v=.agg #[.func (.func 50) #[] #[]]/\L_=[])):=by
 unfold wBn at hm
 refine Gv.of Try.func26 Z Try.ntmps26 Try.results26 Z (sR (.fx 0 .nil .stop) Z (ZA (cs:=[.nilFunc]) Z Z Z Z Z Try.zeroValue81 Z hS ?_))
 intro W1 b2 af
 refine eN (sR gAk Z ?_)
 let B0:List Value:=[.func (.func 50) #[] #[]]
 refine oR Z (ZS (pv:=[(0,.func (.func 50) #[] #[])]) (z:=[.nilFunc]) (cs:=B0) Z (wAL Z wAg) Try.zeroValue81 wHG Z Z) (zt (j:=0) (vs:=B0) Z Z Z Z af Z Z Z Z Try.sizeOf81 (zE Z) Z Z Z ?_)
 intro W5 ag
 have ab:sW w U U [.blk b2 81 B0] W5:=ag
 refine eN (zJ ?_)
 cases hm
 exact ⟨rfl,_,(wGN (v:=.agg B0.toArray) ⟨⟨_,rfl,(wEc Try.isAgg81 Try.sizeOf81 (ab.blkAt (k:=0) rfl) (vs:=B0) rfl rfl)⟩,trivial⟩),U,_,(ab.pick [] _ (by decide) rfl),rfl,rfl⟩
theorem wCr (p0:wAW) (ai:Nat) (ah:Option Addr) (aj:Nat) (ae:Option Addr) (af:Nat) (p1:Int) (p2:wAP) (w:World) (U:PHeap) (hS:St0 w U [.blk ai 77 [jV p0.Scale.Error,jV p0.Scale.Least,.slice ah p0.Scale.Tests.length aj,.slice ae p0.Scale.Rifles.length af,jV p0.first.offset.Lo,jV p0.first.offset.Hi,.bool (p0.first.pass.get 0),.bool (p0.first.pass.get 1),.bool (p0.first.pass.get 2),.bool (p0.first.pass.get 3),.bool (p0.first.pass.get 4),.bool (p0.first.pass.get 5),.bool (p0.first.pass.get 6),.bool (p0.first.pass.get 7),.bool (p0.first.fail.get 0),.bool (p0.first.fail.get 1),.bool (p0.first.fail.get 2),.bool (p0.first.fail.get 3),.bool (p0.first.fail.get 4),.bool (p0.first.fail.get 5),.bool (p0.first.fail.get 6),.bool (p0.first.fail.get 7)]]) (aO:Sl U 2 ah aj p0.Scale.Tests.length (hD wAI p0.Scale.Tests)) (aJ:Sl U 1 ae af p0.Scale.Rifles.length (hD KL.encI p0.Scale.Rifles)) {r:wAP} (hm:wBP p0 p1 p2=some r):Gv Try.prog 49 [.pointer (some ⟨ai,0,none⟩),jV p1,.agg #[jV p2.Lo,jV p2.Hi]] w (wBm w [.blk ai 77 [jV p0.Scale.Error,jV p0.Scale.Least,.slice ah p0.Scale.Tests.length aj,.slice ae p0.Scale.Rifles.length af,jV p0.first.offset.Lo,jV p0.first.offset.Hi,.bool (p0.first.pass.get 0),.bool (p0.first.pass.get 1),.bool (p0.first.pass.get 2),.bool (p0.first.pass.get 3),.bool (p0.first.pass.get 4),.bool (p0.first.pass.get 5),.bool (p0.first.pass.get 6),.bool (p0.first.pass.get 7),.bool (p0.first.fail.get 0),.bool (p0.first.fail.get 1),.bool (p0.first.fail.get 2),.bool (p0.first.fail.get 3),.bool (p0.first.fail.get 4),.bool (p0.first.fail.get 5),.bool (p0.first.fail.get 6),.bool (p0.first.fail.get 7)]] U (fun U_ L_ v=>v=.agg #[jV r.Lo,jV r.Hi]/\L_=[.blk ai 77 [jV p0.Scale.Error,jV p0.Scale.Least,.slice ah p0.Scale.Tests.length aj,.slice ae p0.Scale.Rifles.length af,jV p0.first.offset.Lo,jV p0.first.offset.Hi,.bool (p0.first.pass.get 0),.bool (p0.first.pass.get 1),.bool (p0.first.pass.get 2),.bool (p0.first.pass.get 3),.bool (p0.first.pass.get 4),.bool (p0.first.pass.get 5),.bool (p0.first.pass.get 6),.bool (p0.first.pass.get 7),.bool (p0.first.fail.get 0),.bool (p0.first.fail.get 1),.bool (p0.first.fail.get 2),.bool (p0.first.fail.get 3),.bool (p0.first.fail.get 4),.bool (p0.first.fail.get 5),.bool (p0.first.fail.get 6),.bool (p0.first.fail.get 7)]])):=by
 unfold wBP at hm
 refine Gv.of Try.func49 Z Try.ntmps49 Try.results49 Z (sR gAl Z ?_)
 let B0:List Value:=[jV p2.Lo,jV p2.Hi]
 refine zr (cs:=B0) rfl rfl rfl rfl rfl rfl (by rfl) hS ?_
 intro W2 b3 aI
 refine ZA (cs:=[jV 0,jV 0]) Z Z Z Z Z ZY Z aI ?_
 intro W6 b7 an
 refine eN (sR fL9 Z (oM Z Z (oR Z (zx Z Z) (oR Z (zN Z Z zm Z ZL) (oR Z (zN Z Z za Z Zd) (oL Z (an.ldB (j:=2) Z Z Z Zm (v:=.slice ae p0.Scale.Rifles.length af) Z) (oM Z Z (bnK hm fun ak am aK=>?_))))))))
 have q:=aJ.el (fun _=>rfl) (wAl am)
 obtain ⟨aN,aP,az,aG⟩:=q
 refine zU rfl rfl rfl rfl (fun _=>Zb rfl rfl az rfl zF zB (wCZ am) (wCf am)) (zz rfl rfl rfl rfl (an.ldC (f:=0) aG (v:=jV ak) rfl rfl zD rfl) rfl (ZW rfl rfl rfl rfl rfl rfl (eN (zC (ZT ZU [3,3,1,3,3,3,3,3,1,3,3,3,1,3,3,3,3,3,1,3,3,0] (wKH (.fx 21 .nil .stop)) (by kernel_rfl) ?_)))))
 have ac:=an.drew
 generalize hw_W18:({ W6 with drawn:=W6.drawn + 1 }:World)=aL at ac ⊢
 refine oM Z Z (oR Z (zN Z Z ZI Z zB) (oL Z (ac.ldB (j:=1) Z Z Z zD (v:=jV p2.Hi) Z) (oR Z (ZN Z Z Z) (oM Z Z (oR Z (zx Z Z) (oR Z (zN Z Z zm Z ZL) (oR Z (zN Z Z za Z zB) (oL Z (ac.ldB (j:=2) Z Z Z zD (v:=jV p0.Scale.Error) Z) (oR Z (ZN Z Z Z) (oM Z Z (oR Z (zN Z Z ZI Z zB) (oL Z (ac.ldB (j:=1) Z Z Z zD (v:=jV p2.Lo) Z) (oR Z (ZN Z Z Z) (oM Z Z (oR Z (zx Z Z) (oR Z (zN Z Z zm Z ZL) (oR Z (zN Z Z za Z zB) (oL Z (ac.ldB (j:=2) Z Z Z zD (v:=jV p0.Scale.Error) Z) (oR Z (zS Z Z Z) ?_)))))))))))))))))))
 let B1:List Value:=[jV (w64 ((w64 (ak - p2.Hi)) - p0.Scale.Error)),jV (w64 ((w64 (ak - p2.Lo)) + p0.Scale.Error))]
 refine oR Z (ZS (pv:=[(0,jV (w64 ((w64 (ak - p2.Hi)) - p0.Scale.Error))),(1,jV (w64 ((w64 (ak - p2.Lo)) + p0.Scale.Error)))]) (z:=[jV 0,jV 0]) (cs:=B1) Z (wAL Z (wAL Z wAg)) ZY wDy Z Z) (zt (j:=0) (vs:=B1) Z Z Z Z ac Z Z Z Z ZE (zE Z) Z Z Z ?_)
 intro aw aH
 let B2:Res:=.blk ai 77 [jV p0.Scale.Error,jV p0.Scale.Least,.slice ah p0.Scale.Tests.length aj,.slice ae p0.Scale.Rifles.length af,jV p0.first.offset.Lo,jV p0.first.offset.Hi,.bool (p0.first.pass.get 0),.bool (p0.first.pass.get 1),.bool (p0.first.pass.get 2),.bool (p0.first.pass.get 3),.bool (p0.first.pass.get 4),.bool (p0.first.pass.get 5),.bool (p0.first.pass.get 6),.bool (p0.first.pass.get 7),.bool (p0.first.fail.get 0),.bool (p0.first.fail.get 1),.bool (p0.first.fail.get 2),.bool (p0.first.fail.get 3),.bool (p0.first.fail.get 4),.bool (p0.first.fail.get 5),.bool (p0.first.fail.get 6),.bool (p0.first.fail.get 7)]
 have au:SW w [B2] U U [.blk b7 72 B1,.blk b3 72 B0,B2] aw:=aH
 refine eN (zJ ?_)
 cases aK
 exact ⟨rfl,_,(wGN (v:=.agg B1.toArray) ⟨⟨_,rfl,(wEc Try.isAgg72 ZE (au.blkAt (k:=0) rfl) (vs:=B1) rfl rfl)⟩,trivial⟩),U,_,(au.pick [2] _ (by decide) rfl),rfl,rfl⟩
theorem wDS (p0:wAW) (au:Nat) (aq:Option Addr) (av:Nat) (aj:Option Addr) (ak:Nat) (p1:Int) (p2:wAP) (w:World) (U:PHeap) (hS:St0 w U []) (ai:Cl U au 0 [jV p0.Scale.Error,jV p0.Scale.Least,.slice aq p0.Scale.Tests.length av,.slice aj p0.Scale.Rifles.length ak,jV p0.first.offset.Lo,jV p0.first.offset.Hi,.bool (p0.first.pass.get 0),.bool (p0.first.pass.get 1),.bool (p0.first.pass.get 2),.bool (p0.first.pass.get 3),.bool (p0.first.pass.get 4),.bool (p0.first.pass.get 5),.bool (p0.first.pass.get 6),.bool (p0.first.pass.get 7),.bool (p0.first.fail.get 0),.bool (p0.first.fail.get 1),.bool (p0.first.fail.get 2),.bool (p0.first.fail.get 3),.bool (p0.first.fail.get 4),.bool (p0.first.fail.get 5),.bool (p0.first.fail.get 6),.bool (p0.first.fail.get 7)]) (aO:Sl U 2 aq av p0.Scale.Tests.length (hD wAI p0.Scale.Tests)) (aJ:Sl U 1 aj ak p0.Scale.Rifles.length (hD KL.encI p0.Scale.Rifles)) {r:wAP} (hm:wBS p0 p1 p2=some r):Gv Try.prog 49 [.pointer (some ⟨au,0,none⟩),jV p1,.agg #[jV p2.Lo,jV p2.Hi]] w (wBm w [] U (fun U_ L_ v=>v=.agg #[jV r.Lo,jV r.Hi]/\L_=[])):=by
 unfold wBS at hm
 refine Gv.of Try.func49 Z Try.ntmps49 Try.results49 Z (sR gAl Z ?_)
 let B0:List Value:=[jV p2.Lo,jV p2.Hi]
 refine zr (cs:=B0) rfl rfl rfl rfl rfl rfl (by rfl) hS ?_
 intro W1 b2 aI
 refine ZA (cs:=[jV 0,jV 0]) Z Z Z Z Z ZY Z aI ?_
 intro W5 b6 ah
 refine eN (sR fL9 Z (oM Z Z (oR Z (zx Z Z) (oR Z (zN Z Z zm Z ZL) (oR Z (zN Z Z za Z Zd) (oL Z (ah.ldC (f:=3) ai (v:=.slice aj p0.Scale.Rifles.length ak) Z Z Zm Z) (oM Z Z (bnK hm fun x9 ag aK=>?_))))))))
 have q:=aJ.el (fun _=>rfl) (wAl ag)
 obtain ⟨aN,aP,az,aG⟩:=q
 refine zU rfl rfl rfl rfl (fun _=>Zb rfl rfl az rfl zF zB (wCZ ag) (wCf ag)) (zz rfl rfl rfl rfl (ah.ldC (f:=0) aG (v:=jV x9) rfl rfl zD rfl) rfl (ZW rfl rfl rfl rfl rfl rfl (eN (zC (ZT ZU [3,3,1,3,3,3,3,3,1,3,3,3,1,3,3,3,3,3,1,3,3,0] (wKH (.fx 21 .nil .stop)) (by kernel_rfl) ?_)))))
 have ac:=ah.drew
 generalize hw_W17:({ W5 with drawn:=W5.drawn + 1 }:World)=aM at ac ⊢
 refine oM Z Z (oR Z (zN Z Z ZI Z zB) (oL Z (ac.ldB (j:=1) Z Z Z zD (v:=jV p2.Hi) Z) (oR Z (ZN Z Z Z) (oM Z Z (oR Z (zx Z Z) (oR Z (zN Z Z zm Z ZL) (oR Z (zN Z Z za Z zB) (oL Z (ac.ldC (f:=0) ai (v:=jV p0.Scale.Error) Z Z zD Z) (oR Z (ZN Z Z Z) (oM Z Z (oR Z (zN Z Z ZI Z zB) (oL Z (ac.ldB (j:=1) Z Z Z zD (v:=jV p2.Lo) Z) (oR Z (ZN Z Z Z) (oM Z Z (oR Z (zx Z Z) (oR Z (zN Z Z zm Z ZL) (oR Z (zN Z Z za Z zB) (oL Z (ac.ldC (f:=0) ai (v:=jV p0.Scale.Error) Z Z zD Z) (oR Z (zS Z Z Z) ?_)))))))))))))))))))
 let B1:List Value:=[jV (w64 ((w64 (x9 - p2.Hi)) - p0.Scale.Error)),jV (w64 ((w64 (x9 - p2.Lo)) + p0.Scale.Error))]
 refine oR Z (ZS (pv:=[(0,jV (w64 ((w64 (x9 - p2.Hi)) - p0.Scale.Error))),(1,jV (w64 ((w64 (x9 - p2.Lo)) + p0.Scale.Error)))]) (z:=[jV 0,jV 0]) (cs:=B1) Z (wAL Z (wAL Z wAg)) ZY wDy Z Z) (zt (j:=0) (vs:=B1) Z Z Z Z ac Z Z Z Z ZE (zE Z) Z Z Z ?_)
 intro aw aH
 have ao:sW w U U [.blk b6 72 B1,.blk b2 72 B0] aw:=aH
 refine eN (zJ ?_)
 cases aK
 exact ⟨rfl,_,(wGN (v:=.agg B1.toArray) ⟨⟨_,rfl,(wEc Try.isAgg72 ZE (ao.blkAt (k:=0) rfl) (vs:=B1) rfl rfl)⟩,trivial⟩),U,_,(ao.pick [] _ (by decide) rfl),rfl,rfl⟩
theorem wEm (p0:wAW) (ac:Nat) (ai:Option Addr) (ak:Nat) (aj:Option Addr) (am:Nat) (p1:Int) (p2:wAh) (p3:wBN) (aq:Value) (w:World) (U:PHeap) (hS:St0 w U [.blk ac 77 [jV p0.Scale.Error,jV p0.Scale.Least,.slice ai p0.Scale.Tests.length ak,.slice aj p0.Scale.Rifles.length am,jV p0.first.offset.Lo,jV p0.first.offset.Hi,.bool (p0.first.pass.get 0),.bool (p0.first.pass.get 1),.bool (p0.first.pass.get 2),.bool (p0.first.pass.get 3),.bool (p0.first.pass.get 4),.bool (p0.first.pass.get 5),.bool (p0.first.pass.get 6),.bool (p0.first.pass.get 7),.bool (p0.first.fail.get 0),.bool (p0.first.fail.get 1),.bool (p0.first.fail.get 2),.bool (p0.first.fail.get 3),.bool (p0.first.fail.get 4),.bool (p0.first.fail.get 5),.bool (p0.first.fail.get 6),.bool (p0.first.fail.get 7)]]) (aM:Sl U 2 ai ak p0.Scale.Tests.length (hD wAI p0.Scale.Tests)) (aN:Sl U 1 aj am p0.Scale.Rifles.length (hD KL.encI p0.Scale.Rifles)) (ay:FnOK Try.prog U aq wKw wKx p3.of) {r:Bool} (hm:wBW p0 p1 p2 p3=some r):Gv Try.prog 25 [.pointer (some ⟨ac,0,none⟩),jV p1,.agg #[jV p2.offset.Lo,jV p2.offset.Hi,.bool (p2.pass.get 0),.bool (p2.pass.get 1),.bool (p2.pass.get 2),.bool (p2.pass.get 3),.bool (p2.pass.get 4),.bool (p2.pass.get 5),.bool (p2.pass.get 6),.bool (p2.pass.get 7),.bool (p2.fail.get 0),.bool (p2.fail.get 1),.bool (p2.fail.get 2),.bool (p2.fail.get 3),.bool (p2.fail.get 4),.bool (p2.fail.get 5),.bool (p2.fail.get 6),.bool (p2.fail.get 7)],.agg #[aq]] w (wBm w [.blk ac 77 [jV p0.Scale.Error,jV p0.Scale.Least,.slice ai p0.Scale.Tests.length ak,.slice aj p0.Scale.Rifles.length am,jV p0.first.offset.Lo,jV p0.first.offset.Hi,.bool (p0.first.pass.get 0),.bool (p0.first.pass.get 1),.bool (p0.first.pass.get 2),.bool (p0.first.pass.get 3),.bool (p0.first.pass.get 4),.bool (p0.first.pass.get 5),.bool (p0.first.pass.get 6),.bool (p0.first.pass.get 7),.bool (p0.first.fail.get 0),.bool (p0.first.fail.get 1),.bool (p0.first.fail.get 2),.bool (p0.first.fail.get 3),.bool (p0.first.fail.get 4),.bool (p0.first.fail.get 5),.bool (p0.first.fail.get 6),.bool (p0.first.fail.get 7)]] U (fun U_ L_ v=>v=.bool r/\L_=[.blk ac 77 [jV p0.Scale.Error,jV p0.Scale.Least,.slice ai p0.Scale.Tests.length ak,.slice aj p0.Scale.Rifles.length am,jV p0.first.offset.Lo,jV p0.first.offset.Hi,.bool (p0.first.pass.get 0),.bool (p0.first.pass.get 1),.bool (p0.first.pass.get 2),.bool (p0.first.pass.get 3),.bool (p0.first.pass.get 4),.bool (p0.first.pass.get 5),.bool (p0.first.pass.get 6),.bool (p0.first.pass.get 7),.bool (p0.first.fail.get 0),.bool (p0.first.fail.get 1),.bool (p0.first.fail.get 2),.bool (p0.first.fail.get 3),.bool (p0.first.fail.get 4),.bool (p0.first.fail.get 5),.bool (p0.first.fail.get 6),.bool (p0.first.fail.get 7)]])):=by
 unfold wBW at hm
 refine Gv.of Try.func25 Z Try.ntmps25 Try.results25 Z (sR gAu Z ?_)
 let B0:List Value:=[jV p2.offset.Lo,jV p2.offset.Hi,.bool (p2.pass.get 0),.bool (p2.pass.get 1),.bool (p2.pass.get 2),.bool (p2.pass.get 3),.bool (p2.pass.get 4),.bool (p2.pass.get 5),.bool (p2.pass.get 6),.bool (p2.pass.get 7),.bool (p2.fail.get 0),.bool (p2.fail.get 1),.bool (p2.fail.get 2),.bool (p2.fail.get 3),.bool (p2.fail.get 4),.bool (p2.fail.get 5),.bool (p2.fail.get 6),.bool (p2.fail.get 7)]
 refine zr (cs:=B0) rfl rfl rfl rfl rfl rfl (by rfl) hS ?_
 intro W2 b3 bg
 refine zr (cs:=[aq]) rfl rfl rfl rfl rfl rfl (by rfl) bg ?_
 intro W6 b7 bh
 refine ZW rfl rfl rfl rfl rfl rfl (eN (zC (bnK hm fun az aK bl=>bnK bl fun bC aw ap=>ZT ZU [3,1004,3,3,3,1,1005,2,3,3,3,3,2,3,3,ac] (wHv (wLn (.fx 6 (.fx 7 (.fx 12 gAn .stop) (.fx 12 gAv .stop)) (.fx 12 gAz .stop)))) (by kernel_rfl) ?_)))
 have ao:=bh.drew
 generalize hw_W87:({ W6 with drawn:=W6.drawn + 1 }:World)=au at ao ⊢
 refine oR Z (zN Z Z Try.runUnderlying81 Z Try.sizeOf79) ?_
 let B1:Res:=.blk b7 81 [aq]
 refine OKS.mt (T:=[ac]) [2] [0,1] [B1,.blk b3 75 B0] rfl rfl rfl rfl ao rfl ⟨⟨2,by decide,_,rfl,rfl⟩,trivial⟩ (by decide) rfl (by decide) (fun _ bk=>(bk.ldB (j:=0) rfl rfl rfl Try.isAgg79 (v:=aq) rfl)) rfl (zQ rfl rfl rfl rfl rfl rfl (zQ rfl rfl rfl rfl rfl rfl (zU rfl rfl rfl rfl (fun _=>zN rfl rfl ZQ rfl ZE) (zz rfl rfl rfl rfl (ao.ldBA (j:=1) rfl rfl rfl Try.isAgg72 ZE (vs:=[jV p2.offset.Lo,jV p2.offset.Hi]) rfl rfl) rfl (zQ rfl rfl rfl rfl rfl rfl (zU rfl rfl rfl rfl (fun _=>zx rfl rfl) (zU rfl rfl rfl rfl (fun _=>zN rfl rfl zm rfl ZL) (zU rfl rfl rfl rfl (fun _=>zN rfl rfl za rfl zB) (OKS.both ?_ ?_)))))))))
 let B2:Res:=.blk ac 77 [jV p0.Scale.Error,jV p0.Scale.Least,.slice ai p0.Scale.Tests.length ak,.slice aj p0.Scale.Rifles.length am,jV p0.first.offset.Lo,jV p0.first.offset.Hi,.bool (p0.first.pass.get 0),.bool (p0.first.pass.get 1),.bool (p0.first.pass.get 2),.bool (p0.first.pass.get 3),.bool (p0.first.pass.get 4),.bool (p0.first.pass.get 5),.bool (p0.first.pass.get 6),.bool (p0.first.pass.get 7),.bool (p0.first.fail.get 0),.bool (p0.first.fail.get 1),.bool (p0.first.fail.get 2),.bool (p0.first.fail.get 3),.bool (p0.first.fail.get 4),.bool (p0.first.fail.get 5),.bool (p0.first.fail.get 6),.bool (p0.first.fail.get 7)]
 have bi:SW w [B2] U U [B2,B1,.blk b3 75 B0] au:=ao.pick [2,0,1] _ (by decide) rfl
 refine OKS.callHT 1 rfl rfl rfl rfl (zI rfl rfl Try.call49 (zA rfl (zA rfl (zA rfl zL))) rfl) bi (fun hs=>wCr p0 ac ai ak aj am p1 p2.offset au U hs aM aN aK) rfl (T:=[ac]) rfl ⟨fun b h=>(by cases h;exact .head _),trivial⟩ ?_
 rintro aR br bB aW aO bj ⟨rfl,rfl⟩
 have ax:SW w [B2] U aR [B2,B1,.blk b3 75 B0] aW:=bj
 refine OKS.both ?_ ?_
 have aY:=ay.le aO
 refine Ze (a:=az) Z Z Z Z Z Z (zA Z zL) ax aY Z aw ?_
 rintro aI bn bw aS bt a7 ⟨rfl,rfl⟩
 have aL:SW w [B2] U aI [B2,B1,.blk b3 75 B0] aS:=a7
 refine OKS.mx2 Z Z Z Z (aL.ldB (j:=0) Z Z Z zD (v:=jV p0.Scale.Least) Z) (oR Z (Zk Z Z Z) (oA Z Z (eN (zJ ?_))))
 first | (obtain rfl:=hM ap) | cases ap
 exact ⟨rfl,_,(zY rfl),aI,_,(aL.pick [0] _ (by decide) rfl),rfl,rfl⟩
 refine OKS.mx2 Z Z Z Z (ax.ldB (j:=0) Z Z Z zD (v:=jV p0.Scale.Least) Z) ?_
 have aZ:=ay.le aO
 refine Ze (a:=az) Z Z Z Z Z Z (zA Z zL) ax aZ Z aw ?_
 rintro aG bo bx aT bu a8 ⟨rfl,rfl⟩
 have ba:SW w [B2] U aG [B2,B1,.blk b3 75 B0] aT:=a8
 refine oR Z (Zk Z Z Z) (oA Z Z (eN (zJ ?_)))
 first | (obtain rfl:=hM ap) | cases ap
 exact ⟨rfl,_,(zY rfl),aG,_,(ba.pick [0] _ (by decide) rfl),rfl,rfl⟩
 refine OKS.mx2 Z Z Z Z (ao.ldB (j:=2) Z Z Z zD (v:=jV p0.Scale.Least) Z) ?_
 let B3:Res:=.blk ac 77 [jV p0.Scale.Error,jV p0.Scale.Least,.slice ai p0.Scale.Tests.length ak,.slice aj p0.Scale.Rifles.length am,jV p0.first.offset.Lo,jV p0.first.offset.Hi,.bool (p0.first.pass.get 0),.bool (p0.first.pass.get 1),.bool (p0.first.pass.get 2),.bool (p0.first.pass.get 3),.bool (p0.first.pass.get 4),.bool (p0.first.pass.get 5),.bool (p0.first.pass.get 6),.bool (p0.first.pass.get 7),.bool (p0.first.fail.get 0),.bool (p0.first.fail.get 1),.bool (p0.first.fail.get 2),.bool (p0.first.fail.get 3),.bool (p0.first.fail.get 4),.bool (p0.first.fail.get 5),.bool (p0.first.fail.get 6),.bool (p0.first.fail.get 7)]
 have bb:SW w [B3] U U [B3,B1,.blk b3 75 B0] au:=ao.pick [2,0,1] _ (by decide) rfl
 refine OKS.callHT 1 rfl rfl rfl rfl (zI rfl rfl Try.call49 (zA rfl (zA rfl (zA rfl zL))) rfl) bb (fun hs=>wCr p0 ac ai ak aj am p1 p2.offset au U hs aM aN aK) rfl (T:=[ac]) rfl ⟨fun b h=>(by cases h;exact .head _),trivial⟩ ?_
 rintro aQ bp bz aU bm bc ⟨rfl,rfl⟩
 have bd:SW w [B3] U aQ [B3,B1,.blk b3 75 B0] aU:=bc
 have a6:=ay.le bm
 refine Ze (a:=az) Z Z Z Z Z Z (zA Z zL) bd a6 Z aw ?_
 rintro aH bq bA aV bv be ⟨rfl,rfl⟩
 have bf:SW w [B3] U aH [B3,B1,.blk b3 75 B0] aV:=be
 refine oR Z (Zk Z Z Z) (oA Z Z (eN (zJ ?_)))
 first | (obtain rfl:=hM ap) | cases ap
 exact ⟨rfl,_,(zY rfl),aH,_,(bf.pick [0] _ (by decide) rfl),rfl,rfl⟩
end Go.Proofs.Ytnbcoenjobdplaa
namespace Go.Proofs.Ytnbcoenjobdplaa
open Go.KL
set_option maxHeartbeats 4000000
theorem wCs (p0:wAW) (am:Nat) (aj:Option Addr) (an:Nat) (ak:Option Addr) (ao:Nat) (p1:Int) (p2:wAh) (p3:wBN) (af:Value) (w:World) (U:PHeap) (hS:St0 w U []) (au:Cl U am 0 [jV p0.Scale.Error,jV p0.Scale.Least,.slice aj p0.Scale.Tests.length an,.slice ak p0.Scale.Rifles.length ao,jV p0.first.offset.Lo,jV p0.first.offset.Hi,.bool (p0.first.pass.get 0),.bool (p0.first.pass.get 1),.bool (p0.first.pass.get 2),.bool (p0.first.pass.get 3),.bool (p0.first.pass.get 4),.bool (p0.first.pass.get 5),.bool (p0.first.pass.get 6),.bool (p0.first.pass.get 7),.bool (p0.first.fail.get 0),.bool (p0.first.fail.get 1),.bool (p0.first.fail.get 2),.bool (p0.first.fail.get 3),.bool (p0.first.fail.get 4),.bool (p0.first.fail.get 5),.bool (p0.first.fail.get 6),.bool (p0.first.fail.get 7)]) (aT:Sl U 2 aj an p0.Scale.Tests.length (hD wAI p0.Scale.Tests)) (aU:Sl U 1 ak ao p0.Scale.Rifles.length (hD KL.encI p0.Scale.Rifles)) (aV:FnOK Try.prog U af wKw wKx p3.of) {r:Bool} (hm:wAk p0 p1 p2 p3=some r):Gv Try.prog 25 [.pointer (some ⟨am,0,none⟩),jV p1,.agg #[jV p2.offset.Lo,jV p2.offset.Hi,.bool (p2.pass.get 0),.bool (p2.pass.get 1),.bool (p2.pass.get 2),.bool (p2.pass.get 3),.bool (p2.pass.get 4),.bool (p2.pass.get 5),.bool (p2.pass.get 6),.bool (p2.pass.get 7),.bool (p2.fail.get 0),.bool (p2.fail.get 1),.bool (p2.fail.get 2),.bool (p2.fail.get 3),.bool (p2.fail.get 4),.bool (p2.fail.get 5),.bool (p2.fail.get 6),.bool (p2.fail.get 7)],.agg #[af]] w (wBm w [] U (fun U_ L_ v=>v=.bool r/\L_=[])):=by
 unfold wAk at hm
 refine Gv.of Try.func25 Z Try.ntmps25 Try.results25 Z (sR gAu Z ?_)
 let B0:List Value:=[jV p2.offset.Lo,jV p2.offset.Hi,.bool (p2.pass.get 0),.bool (p2.pass.get 1),.bool (p2.pass.get 2),.bool (p2.pass.get 3),.bool (p2.pass.get 4),.bool (p2.pass.get 5),.bool (p2.pass.get 6),.bool (p2.pass.get 7),.bool (p2.fail.get 0),.bool (p2.fail.get 1),.bool (p2.fail.get 2),.bool (p2.fail.get 3),.bool (p2.fail.get 4),.bool (p2.fail.get 5),.bool (p2.fail.get 6),.bool (p2.fail.get 7)]
 refine zr (cs:=B0) rfl rfl rfl rfl rfl rfl (by rfl) hS ?_
 intro W1 b2 aL
 refine zr (cs:=[af]) rfl rfl rfl rfl rfl rfl (by rfl) aL ?_
 intro W5 b6 aQ
 refine ZW rfl rfl rfl rfl rfl rfl (eN (zC (ZT ZU [3,1004,3,3,3,1,1005,2,3,3,3,3,1004,3,3] (wHv (wLo gAz)) (by kernel_rfl) ?_)))
 have ae:=aQ.drew
 generalize hw_W33:({ W5 with drawn:=W5.drawn + 1 }:World)=ay at ae ⊢
 refine oR Z (zN Z Z Try.runUnderlying81 Z Try.sizeOf79) ?_
 let B1:Res:=.blk b6 81 [af]
 refine OKS.mt (T:=[]) [] [0,1] [B1,.blk b2 75 B0] rfl rfl rfl rfl ae rfl trivial (by decide) rfl (by decide) (fun _ aR=>(aR.ldB (j:=0) rfl rfl rfl Try.isAgg79 (v:=af) rfl)) rfl (zQ rfl rfl rfl rfl rfl rfl (zQ rfl rfl rfl rfl rfl rfl (zU rfl rfl rfl rfl (fun _=>zN rfl rfl ZQ rfl ZE) (zz rfl rfl rfl rfl (ae.ldBA (j:=1) rfl rfl rfl Try.isAgg72 ZE (vs:=[jV p2.offset.Lo,jV p2.offset.Hi]) rfl rfl) rfl (zQ rfl rfl rfl rfl rfl rfl (zU rfl rfl rfl rfl (fun _=>zx rfl rfl) (zU rfl rfl rfl rfl (fun _=>zN rfl rfl zm rfl ZL) (zU rfl rfl rfl rfl (fun _=>zN rfl rfl za rfl zB) (OKS.mt (T:=[]) [] [0,1] [B1,.blk b2 75 B0] rfl rfl rfl rfl ae rfl trivial (by decide) rfl (by decide) (fun _ aS=>(aS.ldC (f:=1) au (v:=jV p0.Scale.Least) rfl rfl zD rfl)) rfl (bnK hm fun aY aI aW=>OKS.callHT 0 rfl rfl rfl rfl (zI rfl rfl Try.call49 (zA rfl (zA rfl (zA rfl zL))) rfl) ae (fun hs=>wDS p0 am aj an ak ao p1 p2.offset ay U hs au aT aU aI) rfl (T:=[]) rfl trivial ?_))))))))))
 rintro ax aZ ba az aX aM ⟨rfl,rfl⟩
 have aN:sW w U ax [B1,.blk b2 75 B0] az:=aM
 refine bnK aW fun bc aJ av=>?_
 have aK:=aV.le aX
 refine Ze (a:=aY) Z Z Z Z Z Z (zA Z zL) aN aK Z aJ ?_
 rintro ap a6 bb aG a8 aO ⟨rfl,rfl⟩
 have aP:sW w U ap [B1,.blk b2 75 B0] aG:=aO
 refine oR Z (Zk Z Z Z) (oA Z Z (eN (zJ ?_)))
 first | (obtain rfl:=hM av) | cases av
 exact ⟨rfl,_,(zY rfl),ap,_,(aP.pick [] _ (by decide) rfl),rfl,rfl⟩
theorem wFT (p0:wAM) (aw:Option Addr) (ay:Nat) (ax:Option Addr) (az:Nat) (w:World) (U:PHeap) (hS:St0 w U []) (bY:Sl U 2 aw ay p0.Tests.length (hD wAI p0.Tests)) (bZ:Sl U 1 ax az p0.Rifles.length (hD KL.encI p0.Rifles)) {r:(List Int) × Int} (hm:wBt p0=some r):Gv Try.prog 10 [.agg #[jV p0.Error,jV p0.Least,.slice aw p0.Tests.length ay,.slice ax p0.Rifles.length az]] w (wBm w [] U (fun U_ L_ v=>∃ (A0:Option Addr) (c0:Nat),v=.tuple #[.slice A0 r.1.length c0,jV r.2]/\L_=[.row A0 c0 3 1 (hD KL.encI r.1)])):=by
 unfold wBt at hm
 refine Gv.of Try.func10 Z Try.ntmps10 Try.results10 Z (sR gAs Z ?_)
 let B0:List Value:=[jV p0.Error,jV p0.Least,.slice aw p0.Tests.length ay,.slice ax p0.Rifles.length az]
 refine zr (cs:=B0) rfl rfl rfl rfl rfl rfl (by rfl) hS ?_
 intro W1 b2 be
 refine oA Z Z (oA Z Z (eN (sR (.fl 0 (.fx 1 (wJP (.nil)) .stop)) Z (oL Z (be.ldBA (j:=0) Z Z Z Try.isAgg30 ZL (vs:=B0) Z Z) ?_))))
 have q:=bnd hm
 obtain ⟨⟨x5,x6⟩,h7,am⟩:=q
 try dsimp only at am
 refine zK 0 Z Z Z Z (zI Z Z Try.call24 (zA Z zL) Z) be (fun hs=>wEA p0 aw ay ax az W1 U hs bY bZ h7) (.inr Z) ?_
 rintro U9 ct cB aW cz bd bb
 rcases x5 with _ | aa
 try dsimp only at am
 obtain ⟨rfl,rfl⟩:=bb
 have bR:sW w U U9 [.blk b2 30 B0] aW:=bd
 refine oM Z Z (oR Z (ZF Z Z (v:=.pointer none) Z) (oR Z (ZF Z Z (v:=jV x6) Z) (oA Z Z (oA Z Z (eN (zC (sR fL2 Z (oM Z Z (oR Z (ZV Z Z Z) (eN (ifc am ?_ ?_)))))))))))
 intro aL cg
 refine zb (ZD (fun h=>h aL.out)) (kN (sR fL1 Z (oA Z Z (eN (zC (sR fL7 Z (oM Z Z ?_)))))))
 cases cg
 intro aL ch
 refine cT Z aL (sR fL3 Z (oM Z Z (oA Z Z (oA Z Z (eN (zJ (zM ?_)))))))
 have bS:=bR.nilrow 3 1
 cases ch
 exact ⟨rfl,_,(wFd rfl rfl),U9,_,(bS.pick [0] _ (by decide) rfl),none,0,rfl,rfl⟩
 try dsimp only at am
 obtain ⟨ao,aU,a7,aG,aK,rfl,rfl,bC,bD⟩:=bb
 let B1:Res:=.blk ao 77 [jV aa.Scale.Error,jV aa.Scale.Least,.slice aU aa.Scale.Tests.length a7,.slice aG aa.Scale.Rifles.length aK,jV aa.first.offset.Lo,jV aa.first.offset.Hi,.bool (aa.first.pass.get 0),.bool (aa.first.pass.get 1),.bool (aa.first.pass.get 2),.bool (aa.first.pass.get 3),.bool (aa.first.pass.get 4),.bool (aa.first.pass.get 5),.bool (aa.first.pass.get 6),.bool (aa.first.pass.get 7),.bool (aa.first.fail.get 0),.bool (aa.first.fail.get 1),.bool (aa.first.fail.get 2),.bool (aa.first.fail.get 3),.bool (aa.first.fail.get 4),.bool (aa.first.fail.get 5),.bool (aa.first.fail.get 6),.bool (aa.first.fail.get 7)]
 have aO:sW w U U9 [B1,.blk b2 30 B0] aW:=bd
 refine oM Z Z (oR Z (ZF Z Z (v:=.pointer (some ⟨ao,0,none⟩)) Z) (oR Z (ZF Z Z (v:=jV x6) Z) (oA Z Z (oA Z Z (eN (zC (sR fL2 Z (oM Z Z (oR Z (ZV Z Z Z) (eN (ifc am ?_ ?_)))))))))))
 intro aM ci
 refine zb (ZD (fun h=>h aM.out)) (kN (sR fL1 Z (oA Z Z (eN (zC (sR fL7 Z (oM Z Z (oR Z (zx Z Z) (oR Z (zN Z Z zm Z ZL) (oR Z (zN Z Z za Z Zd) (oL Z (aO.ldB (j:=0) Z Z Z Zm (v:=.slice aG aa.Scale.Rifles.length aK) Z) (oR Z (zh Z Z zF) (oM Z Z (eN (zT (bnK ci fun cH b5 cj=>?_))))))))))))))))
 have q:=wBY b5
 obtain ⟨aR,b8⟩:=q
 replace aR:=zH aR
 refine CK.forN' (fun ac an J_ w_=>∃ (U_:PHeap) (ai:Option Addr) (ak:Nat),J_ 22=jV (↑ac:Int)/\J_ 4=.pointer (some ⟨ao,0,none⟩)/\J_ 6=.slice ai an.length ak/\J_ 21=jV (↑aa.Scale.Rifles.length:Int)/\PHeap.Le U9 U_/\sW w U U_ [B1,.blk b2 30 B0,.row ai ak 3 1 (hD KL.encI an)] w_) b8 ?_ ?_ ?_
 have bT:=aO.nilrow 3 1
 exact ⟨U9,none,0,rfl,rfl,rfl,rfl,(zO _),(bT.pick [1,2,0] _ (by decide) rfl)⟩
 rintro ac an cG cr aX aQ ⟨bo,ai,ak,aq,ap,ba,aN,au,bU⟩ cn
 have a8:Hid ((↑ac:Int) < (↑aa.Scale.Rifles.length:Int)):=zH (wBg aQ)
 replace aQ:=zH aQ
 have bg:Hid (w64 ((↑ac:Int) + 1)=(↑(ac + 1):Int)):=zH (by have h1:=aR.out;have h2:=a8.out;rw [wAR] <;> omega)
 refine sR fL1 rfl (zU rfl rfl rfl rfl (fun _=>zR rfl aq aN) (eN (zC (cT Z a8 (kN (zC (zT (sR fL2 rfl (zQ rfl rfl rfl rfl rfl aq (ZW rfl rfl rfl rfl rfl rfl (eN (zC (ZT ZU [3,3,3,3,3,1,2,0] (wHv (.fx 6 (.fx 7 .nil .stop) .stop)) (by kernel_rfl) ?_)))))))))))))
 have aP:=bU.drew
 generalize hw_W75:({ aX with drawn:=aX.drawn + 1 }:World)=bs at aP ⊢
 refine oM Z ap (oM Z Z (oM Z ap (oR Z (zx Z Z) (oR Z (zN Z Z zm Z Za) (oL Z (aP.ldBA (j:=0) Z Z Z Try.isAgg75 Za (vs:=[jV aa.first.offset.Lo,jV aa.first.offset.Hi,.bool (aa.first.pass.get 0),.bool (aa.first.pass.get 1),.bool (aa.first.pass.get 2),.bool (aa.first.pass.get 3),.bool (aa.first.pass.get 4),.bool (aa.first.pass.get 5),.bool (aa.first.pass.get 6),.bool (aa.first.pass.get 7),.bool (aa.first.fail.get 0),.bool (aa.first.fail.get 1),.bool (aa.first.fail.get 2),.bool (aa.first.fail.get 3),.bool (aa.first.fail.get 4),.bool (aa.first.fail.get 5),.bool (aa.first.fail.get 6),.bool (aa.first.fail.get 7)]) Z Z) ?_)))))
 have q:=bnd cn
 obtain ⟨⟨⟩,bF,bh⟩:=q
 try dsimp only at bh
 refine zK 0 Z Z Z Z (zI Z Z Try.call26 zL Z) aP (fun hs=>wEB bs bo hs bF) (.inr Z) ?_
 rintro aI cu cC aY av bV ⟨rfl,rfl⟩
 let B2:Res:=.row ai ak 3 1 (hD KL.encI an)
 have bW:sW w U aI [B1,.blk b2 30 B0,B2] aY:=bV
 have bG:=bC.le au
 have bH:=bG.le av
 have bI:=bD.le au
 have bJ:=bI.le av
 have bL:FnOK Try.prog aI (.func (.func 50) #[] #[]) wKw wKx wAj:=⟨50,[],[],rfl,Try.call50,fun U1 w1 x y vs le hs ha hm=>by obtain rfl:=ha;exact wDV x w1 U1 hs  hm⟩
 refine bnK bh fun cE bK cm=>zK 1 Z Z Z Z (zI Z Z Try.call25 (zA Z (zA Z (zA Z (zA Z zL)))) Z) bW (fun hs=>wEm aa ao aU a7 aG aK (↑ac:Int) aa.first (⟨wAj⟩:wBN) (.func (.func 50) #[] #[]) aY aI hs bH bJ bL bK) (.inl Z) ?_
 rintro aj cw cD bt bi bX ⟨rfl,rfl⟩
 have bf:sW w U aj [B1,.blk b2 30 B0,B2] bt:=bX
 refine eN (ifc cm ?_ ?_)
 intro aJ b9
 refine zf (congrArg nA aJ.out) (rR gBe Z (oM Z ba (oM Z Z (zq (pv:=[(0,jV (↑ac:Int))]) (zs:=[jV 0]) (cs:=[jV (↑ac:Int)]) Z Z Z Z Z (wAL Z wAg) zF zB zo Z Z Z Z Z bf ?_))))
 intro bq bu bM
 let B3:Res:=.row (some ⟨bu,0,none⟩) 1 3 1 (hD KL.encI [(↑ac:Int)])
 have bc:sW w U aj [B3,B1,.blk b2 30 B0,B2] bq:=bM
 refine bnK b9 fun bj bB ca=>ZJ (j:=3) (enc:=KL.encI) (xs:=an) (ys:=[(↑ac:Int)]) (zs:=bj) rfl rfl rfl rfl rfl zn wDF rfl rfl rfl rfl rfl rfl bc rfl rfl rfl (bc.srcR (j:=0) rfl (by decide) (wAD (f:=KL.encI) (sz:=1) (fun _=>rfl) [(↑ac:Int)])) (fun _=>rfl) (fun _=>rfl) bB rfl ?_
 intro aT a6 br bN
 have bO:sW w U aj [B3,B1,.blk b2 30 B0,.row aT a6 3 1 (hD KL.encI bj)] br:=bN
 refine oA Z Z (zk (zV (zG (rR fL2 Z (oR Z (zj (zS Z aq Z) (congrArg (jV) bg.out)) (oM Z Z (zk ?_)))))))
 cases ca
 exact zG ⟨rfl,⟨aj,aT,a6,rfl,ap,rfl,aN,((au.trans av).trans bi),(bO.pick [1,2,3] _ (by decide) rfl)⟩⟩
 intro aJ cc
 refine zb (congrArg nA (nB.2 aJ.out)) (ZC (zV (zG (rR fL2 Z (oR Z (zj (zS Z aq Z) (congrArg (jV) bg.out)) (oM Z Z (zk ?_)))))))
 cases cc
 exact zG ⟨Z,⟨aj,ai,ak,Z,ap,ba,aN,((au.trans av).trans bi),bf⟩⟩
 rintro cq cx ⟨bn,bl,bv,bA,cy,bx,bz,cA,bP⟩
 have bw:Hid (¬ ((↑(((↑aa.Scale.Rifles.length:Int):Int) - 0).toNat:Int) < (↑aa.Scale.Rifles.length:Int))):=zH (wBB)
 refine sR fL1 Z (oR Z (zR Z bA bz) (eN (zC (cF Z bw (ZK (ze (ze (ZB (zG (sR fL3 Z (oM Z bx (oA Z Z (oA Z Z (eN (zJ ?_)))))))))))))))
 cases cj
 exact ⟨rfl,_,(wFd rfl rfl),bn,_,(bP.pick [2] _ (by decide) rfl),bl,bv,rfl,rfl⟩
 intro aM cd
 refine cT Z aM (sR fL3 Z (oM Z Z (oA Z Z (oA Z Z (eN (zJ (zM ?_)))))))
 have bQ:=aO.nilrow 3 1
 cases cd
 exact ⟨rfl,_,(wFd rfl rfl),U9,_,(bQ.pick [0] _ (by decide) rfl),none,0,rfl,rfl⟩
theorem wFJ (p0:wAP) (w:World) (U:PHeap) (hS:St0 w U [])  {r:Int} (hm:wBl p0=some r):Gv Try.prog 71 [.agg #[jV p0.Lo,jV p0.Hi]] w (wBm w [] U (fun U_ L_ v=>v=jV r/\L_=[])):=by
 unfold wBl at hm
 refine Gv.of Try.func71 rfl Try.ntmps71 Try.results71 rfl (sR gAg rfl (zr (cs:=[jV p0.Lo,jV p0.Hi]) rfl rfl rfl rfl rfl rfl (by rfl) hS ?_))
 intro W1 b2 ab
 refine oA Z Z (eN (sR fL3 Z (oR Z (zN Z Z ZI Z zB) (oL Z (ab.ldB (j:=0) Z Z Z zD (v:=jV p0.Hi) Z) (oA Z Z (eN (zJ ?_)))))))
 cases hm
 exact ⟨rfl,_,(zY rfl),U,_,(ab.pick [] _ (by decide) rfl),rfl,rfl⟩
theorem wFo  (w:World) (U:PHeap) (hS:St0 w U [])  {r:Unit} (hm:wCh =some r):Gv Try.prog 53 [] w (wBm w [] U (fun U_ L_ v=>v=.agg #[.func (.func 71) #[] #[]]/\L_=[])):=by
 unfold wCh at hm
 refine Gv.of Try.func53 Z Try.ntmps53 Try.results53 Z (sR (.fx 0 .nil .stop) Z (ZA (cs:=[.nilFunc]) Z Z Z Z Z Try.zeroValue81 Z hS ?_))
 intro W1 b2 af
 refine eN (sR gAk Z ?_)
 let B0:List Value:=[.func (.func 71) #[] #[]]
 refine oR Z (ZS (pv:=[(0,.func (.func 71) #[] #[])]) (z:=[.nilFunc]) (cs:=B0) Z (wAL Z wAg) Try.zeroValue81 wHG Z Z) (zt (j:=0) (vs:=B0) Z Z Z Z af Z Z Z Z Try.sizeOf81 (zE Z) Z Z Z ?_)
 intro W5 ag
 have ab:sW w U U [.blk b2 81 B0] W5:=ag
 refine eN (zJ ?_)
 cases hm
 exact ⟨rfl,_,(wGN (v:=.agg B0.toArray) ⟨⟨_,rfl,(wEc Try.isAgg81 Try.sizeOf81 (ab.blkAt (k:=0) rfl) (vs:=B0) rfl rfl)⟩,trivial⟩),U,_,(ab.pick [] _ (by decide) rfl),rfl,rfl⟩
theorem wDo {S E:Type} (PY:S->PHeap->List Res->Prop) (PE:E->PHeap->List Res->Prop) (f:S->Int->Option (S ⊕ E)) (y:Nat) (s0:S) (p1:wAW) (aX:Nat) (aq:Nat) (aN:Option Addr) (aO:Nat) (az:Option Addr) (aH:Nat) (p2:wAh) (aG:Nat) (w:World) (L:List Res) (U:PHeap) (hS:St ⟨w,L,U⟩ U L w) (hP:PY s0 U L) (hY:YOK Try.prog y wGk PY PE f U) (bg:Cl U aX 0 [.pointer (some ⟨aq,0,none⟩)]) (bh:Cl U aq 0 [jV p1.Scale.Error,jV p1.Scale.Least,.slice aN p1.Scale.Tests.length aO,.slice az p1.Scale.Rifles.length aH,jV p1.first.offset.Lo,jV p1.first.offset.Hi,.bool (p1.first.pass.get 0),.bool (p1.first.pass.get 1),.bool (p1.first.pass.get 2),.bool (p1.first.pass.get 3),.bool (p1.first.pass.get 4),.bool (p1.first.pass.get 5),.bool (p1.first.pass.get 6),.bool (p1.first.pass.get 7),.bool (p1.first.fail.get 0),.bool (p1.first.fail.get 1),.bool (p1.first.fail.get 2),.bool (p1.first.fail.get 3),.bool (p1.first.fail.get 4),.bool (p1.first.fail.get 5),.bool (p1.first.fail.get 6),.bool (p1.first.fail.get 7)]) (bX:Sl U 2 aN aO p1.Scale.Tests.length (hD wAI p1.Scale.Tests)) (bY:Sl U 1 az aH p1.Scale.Rifles.length (hD KL.encI p1.Scale.Rifles)) (bZ:Cl U aG 0 [jV p2.offset.Lo,jV p2.offset.Hi,.bool (p2.pass.get 0),.bool (p2.pass.get 1),.bool (p2.pass.get 2),.bool (p2.pass.get 3),.bool (p2.pass.get 4),.bool (p2.pass.get 5),.bool (p2.pass.get 6),.bool (p2.pass.get 7),.bool (p2.fail.get 0),.bool (p2.fail.get 1),.bool (p2.fail.get 2),.bool (p2.fail.get 3),.bool (p2.fail.get 4),.bool (p2.fail.get 5),.bool (p2.fail.get 6),.bool (p2.fail.get 7)]) {r:S ⊕ E} (hm:wBo f s0 p1 p2=some r):Gv Try.prog 52 [.func (.yield y) #[] #[],.pointer (some ⟨aX,0,none⟩),.pointer (some ⟨aG,0,none⟩)] w (ItS w L U PY PE r):=by
 unfold wBo at hm
 refine Gv.of Try.func52 Z Try.ntmps52 Try.results52 Z (sR fL7 Z (oL Z (hS.ldC (f:=0) bg (v:=.pointer (some ⟨aq,0,none⟩)) Z Z Try.isAgg68 Z) (oR Z (zx Z Z) (oR Z (zN Z Z zm Z ZL) (oR Z (zN Z Z za Z Zd) (oL Z (hS.ldC (f:=3) bh (v:=.slice az p1.Scale.Rifles.length aH) Z Z Zm Z) (oR Z (zh Z Z zF) (oM Z Z (eN (zT ?_))))))))))
 have q:=wCo hm
 obtain ⟨cU,aU⟩:=q
 have q:=wCn aU
 obtain ⟨aW,b9⟩:=q
 replace aW:=zH aW
 refine CK.forN (fun ah bl J_ w_=>∃ (U_:PHeap) (ac:List Res),J_ 11=jV (↑ah:Int)/\J_ 0=.func (.yield y) #[] #[]/\J_ 1=.pointer (some ⟨aX,0,none⟩)/\J_ 2=.pointer (some ⟨aG,0,none⟩)/\J_ 10=jV (↑p1.Scale.Rifles.length:Int)/\PHeap.Le U U_/\St ⟨w,L,U⟩ U_ ac w_/\PY bl U_ ac) b9 ?_ ?_ ?_
 exact ⟨U,L,Z,Z,Z,Z,Z,(zO _),hS,hP⟩
 rintro ah bl c4 cH a7 aV ⟨ag,ac,ap,au,ao,am,av,af,bL,ax⟩ cw b8
 have a8:Hid ((↑ah:Int) < (↑p1.Scale.Rifles.length:Int)):=zH (wBg aV)
 replace aV:=zH aV
 have ay:Hid (w64 ((↑ah:Int) + 1)=(↑(ah + 1):Int)):=zH (by have h1:=aW.out;have h2:=a8.out;rw [wAR] <;> omega)
 refine sR fL1 rfl (zU rfl rfl rfl rfl (fun _=>zR rfl ap av) (eN (zC (cT Z a8 (kN (zC (zT (sR fL2 rfl (zQ rfl rfl rfl rfl rfl ap (ZW rfl rfl rfl rfl rfl rfl (eN (zC (ZT ZU [3,3,3,1,3,3,3,3,3,1,3,3,3,1,3,1,2,0,3,3,3,1,3,1,2,0,3,3,3,3,0,3,3] (wLh (.fx 16 (.fx 17 (wKh (.fx 24 (.fx 25 (wKi (.fx 30 (.fl 31 (.fl 32 .nil)) .stop)) .stop) .stop)) .stop) .stop)) (by kernel_rfl) ?_)))))))))))))
 have an:=bL.drew
 generalize hw_W36:({ a7 with drawn:=a7.drawn + 1 }:World)=br at an ⊢
 refine oM Z Z (oR Z (zN Z am ZQ Z Try.sizeOf73) (bnK cw fun _ aw ch=>oR Z (Zn Z Z Z Try.runUnderlying73 Try.sizeOf4 (wCl aw) (wCm aw)) ?_))
 have aJ:=bZ.le af
 refine zz rfl rfl rfl rfl (RunsK.too (an.ldC (f:=2 + ah) aJ rfl ((rfl:ev _ _=.pointer (some ⟨aG,2 + ah * 1,none⟩)).trans (wJy (by omega))) Try.isAgg4 (wKA (enc:=nA) (l:=[(p2.pass.get 0),(p2.pass.get 1),(p2.pass.get 2),(p2.pass.get 3),(p2.pass.get 4),(p2.pass.get 5),(p2.pass.get 6),(p2.pass.get 7)]) rfl (by have hz:=wBe aw;show _ < 8;omega))) (congrArg (nA) (wHF p2.pass ah))) rfl (zU rfl rfl rfl rfl (fun _=>zy rfl rfl) (zQ rfl rfl rfl rfl rfl rfl (ifc ch ?_ ?_)))
 intro aj ci
 refine zi Z Z Z (zd Z Z (nC aj.out) Z) (zi Z Z Z (zd Z Z (nC aj.out) Z) (zi Z Z Z (zd Z Z (nC aj.out) Z) (zi Z Z Z (zd Z Z (nC aj.out) Z) (zi Z Z Z (zd Z Z (nC aj.out) Z) (oR Z (zZ Z (nC aj.out) Z) (oM Z Z (oN Z (oN Z (oN Z (ZZ Z Z Z (zd Z Z Z Z) (ZZ Z Z Z (zd Z Z Z Z) (oN Z (oR Z (zZ Z Z Z) (oM Z Z (oN Z (oN Z (oN Z (ZZ Z Z Z (zd Z Z Z Z) (ZZ Z Z Z (zd Z Z Z Z) (oR Z (zZ Z Z Z) (oM Z Z (oN Z (oN Z (ZZ Z Z Z (zd Z Z Z Z) (oN Z (oR Z (zZ Z Z Z) (eN (zb Z (ZC (zV (zG (rR fL2 Z (oR Z (zj (zS Z ap Z) (congrArg (jV) ay.out)) (oM Z Z (zk ?_)))))))))))))))))))))))))))))))))))
 have q:=hM ci
 obtain rfl:=q
 exact zG ⟨Z,_,Z,⟨ag,ac,Z,au,ao,am,av,af,an,ax⟩⟩
 intro aj cj
 refine zQ rfl rfl rfl (zP rfl rfl (nF (aj.out))) rfl rfl (zU rfl rfl rfl (zP rfl rfl (nF (aj.out))) (fun _=>zN rfl am ZQ rfl Try.sizeOf73) (zU rfl rfl rfl (zP rfl rfl (nF (aj.out))) (fun _=>Zn rfl rfl rfl Try.runUnderlying73 Try.sizeOf4 (wCl aw) (wCm aw)) (zz rfl rfl rfl (zP rfl rfl (nF (aj.out))) (RunsK.too (an.ldC (f:=10 + ah) aJ rfl ((rfl:ev _ _=.pointer (some ⟨aG,10 + ah * 1,none⟩)).trans (wJy (by omega))) Try.isAgg4 (wKA (enc:=nA) (l:=[(p2.fail.get 0),(p2.fail.get 1),(p2.fail.get 2),(p2.fail.get 3),(p2.fail.get 4),(p2.fail.get 5),(p2.fail.get 6),(p2.fail.get 7)]) rfl (by have hz:=wBe aw;show _ < 8;omega))) (congrArg (nA) (wHF p2.fail ah))) rfl (zU rfl rfl rfl (zP rfl rfl (nF (aj.out))) (fun _=>zy rfl rfl) (zU rfl rfl rfl rfl (fun _=>zW rfl (nF (aj.out)) rfl) (zQ rfl rfl rfl rfl rfl rfl (ifc cj ?_ ?_)))))))
 intro ae cm
 refine zi Z Z Z (zd Z Z (nC ae.out) Z) (zi Z Z Z (zd Z Z (nC ae.out) Z) (zi Z Z Z (zd Z Z (nC ae.out) Z) (ZZ Z Z Z (zd Z Z (nC ae.out) Z) (ZZ Z Z Z (zd Z Z (nC ae.out) Z) (zi Z Z Z (zd Z Z (nC ae.out) Z) (oR Z (zZ Z (nC ae.out) Z) (oM Z Z (oN Z (oN Z (oN Z (ZZ Z Z Z (zd Z Z Z Z) (ZZ Z Z Z (zd Z Z Z Z) (oR Z (zZ Z Z Z) (oM Z Z (oN Z (oN Z (ZZ Z Z Z (zd Z Z Z Z) (oN Z (oR Z (zZ Z Z Z) (eN (zb Z (ZC (zV (zG (rR fL2 Z (oR Z (zj (zS Z ap Z) (congrArg (jV) ay.out)) (oM Z Z (zk ?_))))))))))))))))))))))))))))
 have q:=hM cm
 obtain rfl:=q
 exact zG ⟨Z,_,Z,⟨ag,ac,Z,au,ao,am,av,af,an,ax⟩⟩
 intro ae cn
 have ba:=bg.le af
 refine zz Z Z Z (zP Z Z (nF (ae.out))) (an.ldC (f:=0) ba (v:=.pointer (some ⟨aq,0,none⟩)) Z ao Try.isAgg68 Z) Z (zQ Z Z Z (zP Z Z (nF (ae.out))) Z Z (zz Z Z Z (zP Z Z (nF (ae.out))) (an.ldCA (f:=0) aJ Z am Try.isAgg75 Za (us:=[jV p2.offset.Lo,jV p2.offset.Hi,.bool (p2.pass.get 0),.bool (p2.pass.get 1),.bool (p2.pass.get 2),.bool (p2.pass.get 3),.bool (p2.pass.get 4),.bool (p2.pass.get 5),.bool (p2.pass.get 6),.bool (p2.pass.get 7),.bool (p2.fail.get 0),.bool (p2.fail.get 1),.bool (p2.fail.get 2),.bool (p2.fail.get 3),.bool (p2.fail.get 4),.bool (p2.fail.get 5),.bool (p2.fail.get 6),.bool (p2.fail.get 7)]) Z Z) Z ?_))
 have q:=bnd cn
 obtain ⟨⟨⟩,bz,bi⟩:=q
 try dsimp only at bi
 refine zK 0 Z Z Z (zP Z Z (nF (ae.out))) (zI Z Z Try.call26 zL Z) an (fun hs=>wEB br ag hs bz) (.inr Z) ?_
 rintro bn cJ cW aR cz bM ⟨rfl,rfl⟩
 have bN:St ⟨w,L,U⟩ bn ac aR:=bM
 have bO:=St.sink bN cz af
 have bP:St ⟨w,L,U⟩ ag ac aR:=bO
 have bb:=bh.le af
 have bc:=bX.le af
 have bd:=bY.le af
 have bD:FnOK Try.prog ag (.func (.func 50) #[] #[]) wKw wKx wAj:=⟨50,[],[],rfl,Try.call50,fun U1 w1 x y vs le hs ha hm=>by obtain rfl:=ha;exact wDV x w1 U1 hs  hm⟩
 refine bnK bi fun cZ bA co=>zK 0 Z Z Z (zP Z Z (nF (ae.out))) (zI Z Z Try.call25 (zA Z (zA Z (zA Z (zA Z zL)))) Z) bP (fun hs=>wCs p1 aq aN aO az aH (↑ah:Int) p2 (⟨wAj⟩:wBN) (.func (.func 50) #[] #[]) aR ag hs bb bc bd bD bA) (.inr Z) ?_
 rintro bo cK cX aS cA bQ ⟨rfl,rfl⟩
 have bR:St ⟨w,L,U⟩ bo ac aS:=bQ
 have bS:=St.sink bR cA af
 have aL:St ⟨w,L,U⟩ ag ac aS:=bS
 refine zU Z Z Z (zP Z Z (nF (ae.out))) (fun _=>zy Z Z) (oR Z (zW Z (nF (ae.out)) Z) (oM Z Z (ifc co ?_ ?_)))
 intro ak cp
 refine zi Z Z Z (zd Z Z (nC ak.out) Z) (zi Z Z Z (zd Z Z (nC ak.out) Z) (zi Z Z Z (zd Z Z (nC ak.out) Z) (ZZ Z Z Z (zd Z Z (nC ak.out) Z) (ZZ Z Z Z (zd Z Z (nC ak.out) Z) (oR Z (zZ Z (nC ak.out) Z) (oM Z Z (oN Z (oN Z (ZZ Z Z Z (zd Z Z Z Z) (oN Z (oR Z (zZ Z Z Z) (eN (zb Z (ZC (zV (zG (rR fL2 Z (oR Z (zj (zS Z ap Z) (congrArg (jV) ay.out)) (oM Z Z (zk ?_))))))))))))))))))))
 have q:=hM cp
 obtain rfl:=q
 exact zG ⟨Z,_,Z,⟨ag,ac,Z,au,ao,am,av,af,aL,ax⟩⟩
 intro ak cq
 refine zz Z Z Z (zP Z Z (nF (ak.out))) (aL.ldC (f:=0) ba (v:=.pointer (some ⟨aq,0,none⟩)) Z ao Try.isAgg68 Z) Z (zQ Z Z Z (zP Z Z (nF (ak.out))) Z Z (zz Z Z Z (zP Z Z (nF (ak.out))) (aL.ldCA (f:=0) aJ Z am Try.isAgg75 Za (us:=[jV p2.offset.Lo,jV p2.offset.Hi,.bool (p2.pass.get 0),.bool (p2.pass.get 1),.bool (p2.pass.get 2),.bool (p2.pass.get 3),.bool (p2.pass.get 4),.bool (p2.pass.get 5),.bool (p2.pass.get 6),.bool (p2.pass.get 7),.bool (p2.fail.get 0),.bool (p2.fail.get 1),.bool (p2.fail.get 2),.bool (p2.fail.get 3),.bool (p2.fail.get 4),.bool (p2.fail.get 5),.bool (p2.fail.get 6),.bool (p2.fail.get 7)]) Z Z) Z ?_))
 have q:=bnd cq
 obtain ⟨⟨⟩,bB,bj⟩:=q
 try dsimp only at bj
 refine zK 0 Z Z Z (zP Z Z (nF (ak.out))) (zI Z Z Try.call53 zL Z) aL (fun hs=>wFo aS ag hs bB) (.inr Z) ?_
 rintro bp cL cY aT cB bT ⟨rfl,rfl⟩
 have bU:St ⟨w,L,U⟩ bp ac aT:=bT
 have bV:=St.sink bU cB af
 have bW:St ⟨w,L,U⟩ ag ac aT:=bV
 have bE:FnOK Try.prog ag (.func (.func 71) #[] #[]) wKw wKx wBl:=⟨71,[],[],rfl,Try.call71,fun U1 w1 x y vs le hs ha hm=>by obtain rfl:=ha;exact wFJ x w1 U1 hs  hm⟩
 refine bnK bj fun c3 bC cr=>zK 0 Z Z Z (zP Z Z (nF (ak.out))) (zI Z Z Try.call25 (zA Z (zA Z (zA Z (zA Z zL)))) Z) bW (fun hs=>wCs p1 aq aN aO az aH (↑ah:Int) p2 (⟨wBl⟩:wBN) (.func (.func 71) #[] #[]) aT ag hs bb bc bd bE bC) (.inr Z) ?_
 rintro bq cM cV aZ cx bF ⟨rfl,rfl⟩
 have bG:St ⟨w,L,U⟩ bq ac aZ:=bF
 have bH:=St.sink bG cx af
 have be:St ⟨w,L,U⟩ ag ac aZ:=bH
 refine oR Z (zW Z (nF (ak.out)) Z) (oM Z Z (ifc cr ?_ ?_))
 intro ai ca
 refine zQ Z Z Z (zP Z Z (congrArg nA ai.out)) Z au (zQ Z Z Z (zP Z Z (congrArg nA ai.out)) Z Z (bnK ca fun cE bw aM=>OKS.yieldT 0 (a:=(↑ah:Int)) Z Z Z (zP Z Z (congrArg nA ai.out)) Z Z (zA Z zL) be hY af ax Z bw Z ?_))
 rintro aI aP cO a6 cy bf aK
 rcases cE with cC | cC
 try dsimp only at aM aK
 obtain ⟨rfl,ct⟩:=aK
 have bI:St ⟨w,L,U⟩ aI aP a6:=bf
 refine zU Z Z Z (zP Z Z (congrArg nA ai.out)) (fun _=>zy Z Z) (oR Z (zW Z (congrArg nA ai.out) Z) (eN (zb Z (ZC (zV (zG (rR fL2 Z (oR Z (zj (zS Z ap Z) (congrArg (jV) ay.out)) (oM Z Z (zk ?_))))))))))
 have q:=hM aM
 obtain rfl:=q
 exact zG ⟨Z,_,Z,⟨aI,aP,Z,au,ao,am,av,(af.trans cy),bI,ct⟩⟩
 try dsimp only at aM aK
 obtain ⟨rfl,cu⟩:=aK
 have bJ:St ⟨w,L,U⟩ aI aP a6:=bf
 refine zU Z Z Z (zP Z Z (congrArg nA ai.out)) (fun _=>zy Z Z) (oR Z (zW Z (congrArg nA ai.out) Z) (eN (zf Z (zJ (zc (zM ?_))))))
 have q:=wBZ aM
 obtain ⟨cD,cc,bt⟩:=q
 have q:=wCp hm aU (b8 cD bt)
 obtain rfl:=q
 refine zM (zc ?_)
 cases cc
 exact ⟨Z,_,(res0),aI,_,bJ,cu⟩
 intro ai cd
 refine zi Z Z Z (zd Z Z (congrArg nA (nB.2 ai.out)) Z) (zi Z Z Z (zd Z Z (congrArg nA (nB.2 ai.out)) Z) (ZZ Z Z Z (zd Z Z (congrArg nA (nB.2 ai.out)) Z) (zi Z Z Z (zd Z Z (congrArg nA (nB.2 ai.out)) Z) (oR Z (zZ Z (congrArg nA (nB.2 ai.out)) Z) (eN (zb Z (ZC (zV (zG (rR fL2 Z (oR Z (zj (zS Z ap Z) (congrArg (jV) ay.out)) (oM Z Z (zk ?_)))))))))))))
 have q:=hM cd
 obtain rfl:=q
 exact zG ⟨Z,_,Z,⟨ag,ac,Z,au,ao,am,av,af,be,ax⟩⟩
 rintro c6 cG cN ⟨bm,cI,bv,cP,cQ,cR,bu,cS,bK,bx⟩ b5
 have cg:=wDU hm aU b5
 have bs:Hid (¬ ((↑(((↑p1.Scale.Rifles.length:Int):Int) - 0).toNat:Int) < (↑p1.Scale.Rifles.length:Int))):=zH (wBB)
 refine sR fL1 Z (oR Z (zR Z bv bu) (eN (zC (cF Z bs (ZK (ze (ze (ZB ?_))))))))
 cases cg
 exact ⟨Z,_,(res0),bm,_,bK,bx⟩
theorem wEQ (p0:wAW) (af:Nat) (ap:Option Addr) (au:Nat) (aq:Option Addr) (av:Nat) (p1:wAh) (w:World) (U:PHeap) (hS:St0 w U []) (aM:Cl U af 0 [jV p0.Scale.Error,jV p0.Scale.Least,.slice ap p0.Scale.Tests.length au,.slice aq p0.Scale.Rifles.length av,jV p0.first.offset.Lo,jV p0.first.offset.Hi,.bool (p0.first.pass.get 0),.bool (p0.first.pass.get 1),.bool (p0.first.pass.get 2),.bool (p0.first.pass.get 3),.bool (p0.first.pass.get 4),.bool (p0.first.pass.get 5),.bool (p0.first.pass.get 6),.bool (p0.first.pass.get 7),.bool (p0.first.fail.get 0),.bool (p0.first.fail.get 1),.bool (p0.first.fail.get 2),.bool (p0.first.fail.get 3),.bool (p0.first.fail.get 4),.bool (p0.first.fail.get 5),.bool (p0.first.fail.get 6),.bool (p0.first.fail.get 7)]) (aN:Sl U 2 ap au p0.Scale.Tests.length (hD wAI p0.Scale.Tests)) (aO:Sl U 1 aq av p0.Scale.Rifles.length (hD KL.encI p0.Scale.Rifles)) {r:Unit} (hm:wCF p0 p1=some r):Gv Try.prog 28 [.pointer (some ⟨af,0,none⟩),.agg #[jV p1.offset.Lo,jV p1.offset.Hi,.bool (p1.pass.get 0),.bool (p1.pass.get 1),.bool (p1.pass.get 2),.bool (p1.pass.get 3),.bool (p1.pass.get 4),.bool (p1.pass.get 5),.bool (p1.pass.get 6),.bool (p1.pass.get 7),.bool (p1.fail.get 0),.bool (p1.fail.get 1),.bool (p1.fail.get 2),.bool (p1.fail.get 3),.bool (p1.fail.get 4),.bool (p1.fail.get 5),.bool (p1.fail.get 6),.bool (p1.fail.get 7)]] w (wBm w [] U (fun U_ L_ v=>∃ (b0:Nat) (b1:Nat),v=.func (.func 52) #[] #[.pointer (some ⟨b0,0,none⟩),.pointer (some ⟨b1,0,none⟩)]/\L_=[]/\Cl U_ b0 0 [.pointer (some ⟨af,0,none⟩)]/\Cl U_ b1 0 [jV p1.offset.Lo,jV p1.offset.Hi,.bool (p1.pass.get 0),.bool (p1.pass.get 1),.bool (p1.pass.get 2),.bool (p1.pass.get 3),.bool (p1.pass.get 4),.bool (p1.pass.get 5),.bool (p1.pass.get 6),.bool (p1.pass.get 7),.bool (p1.fail.get 0),.bool (p1.fail.get 1),.bool (p1.fail.get 2),.bool (p1.fail.get 3),.bool (p1.fail.get 4),.bool (p1.fail.get 5),.bool (p1.fail.get 6),.bool (p1.fail.get 7)])):=by
 unfold wCF at hm
 refine Gv.of Try.func28 Z Try.ntmps28 Try.results28 Z (sR gAu Z ?_)
 let B0:List Value:=[.pointer (some ⟨af,0,none⟩)]
 refine zr (cs:=B0) rfl rfl rfl rfl rfl rfl (by rfl) hS ?_
 intro W1 b2 aI
 have q:=aI.freeze (k:=0) rfl
 obtain ⟨U5,aP,ae,aJ⟩:=q
 replace ae:=Cl.of ae
 have aK:sW w U U5 [] W1:=aJ
 replace ae:Cl U5 b2 0 B0:=ae
 let B1:List Value:=[jV p1.offset.Lo,jV p1.offset.Hi,.bool (p1.pass.get 0),.bool (p1.pass.get 1),.bool (p1.pass.get 2),.bool (p1.pass.get 3),.bool (p1.pass.get 4),.bool (p1.pass.get 5),.bool (p1.pass.get 6),.bool (p1.pass.get 7),.bool (p1.fail.get 0),.bool (p1.fail.get 1),.bool (p1.fail.get 2),.bool (p1.fail.get 3),.bool (p1.fail.get 4),.bool (p1.fail.get 5),.bool (p1.fail.get 6),.bool (p1.fail.get 7)]
 refine zr (cs:=B1) rfl rfl rfl rfl rfl rfl (by rfl) aK ?_
 intro ax an az
 have q:=az.freeze (k:=0) rfl
 obtain ⟨ag,aL,ac,aG⟩:=q
 replace ac:=Cl.of ac
 have aH:sW w U ag [] ax:=aG
 replace ac:Cl ag an 0 B1:=ac
 refine oA Z Z (eN (sR fL2 Z (oR Z (Zl Z zL (zA Z (zA Z zL))) (oA Z Z (eN (zJ ?_))))))
 have ay:=ae.le aL
 cases hm
 exact ⟨Z,_,(zY Z),ag,_,aH,b2,an,Z,Z,ay,ac⟩
theorem wCv (p0:List Int) (p1:(wAW × wAh)) (pb1c0:Nat) (pq1c0:Nat) (pA1c0_0_2:Option Addr) (pc1c0_0_2:Nat) (pA1c0_0_3:Option Addr) (pc1c0_0_3:Nat) (pb1c1:Nat) (w:World) (U:PHeap) (hS:St0 w U []) (bx:Cl U pb1c0 0 [.pointer (some ⟨pq1c0,0,none⟩)]) (bz:Cl U pq1c0 0 [jV p1.1.Scale.Error,jV p1.1.Scale.Least,.slice pA1c0_0_2 p1.1.Scale.Tests.length pc1c0_0_2,.slice pA1c0_0_3 p1.1.Scale.Rifles.length pc1c0_0_3,jV p1.1.first.offset.Lo,jV p1.1.first.offset.Hi,.bool (p1.1.first.pass.get 0),.bool (p1.1.first.pass.get 1),.bool (p1.1.first.pass.get 2),.bool (p1.1.first.pass.get 3),.bool (p1.1.first.pass.get 4),.bool (p1.1.first.pass.get 5),.bool (p1.1.first.pass.get 6),.bool (p1.1.first.pass.get 7),.bool (p1.1.first.fail.get 0),.bool (p1.1.first.fail.get 1),.bool (p1.1.first.fail.get 2),.bool (p1.1.first.fail.get 3),.bool (p1.1.first.fail.get 4),.bool (p1.1.first.fail.get 5),.bool (p1.1.first.fail.get 6),.bool (p1.1.first.fail.get 7)]) (bA:Sl U 2 pA1c0_0_2 pc1c0_0_2 p1.1.Scale.Tests.length (hD wAI p1.1.Scale.Tests)) (bB:Sl U 1 pA1c0_0_3 pc1c0_0_3 p1.1.Scale.Rifles.length (hD KL.encI p1.1.Scale.Rifles)) (bC:Cl U pb1c1 0 [jV p1.2.offset.Lo,jV p1.2.offset.Hi,.bool (p1.2.pass.get 0),.bool (p1.2.pass.get 1),.bool (p1.2.pass.get 2),.bool (p1.2.pass.get 3),.bool (p1.2.pass.get 4),.bool (p1.2.pass.get 5),.bool (p1.2.pass.get 6),.bool (p1.2.pass.get 7),.bool (p1.2.fail.get 0),.bool (p1.2.fail.get 1),.bool (p1.2.fail.get 2),.bool (p1.2.fail.get 3),.bool (p1.2.fail.get 4),.bool (p1.2.fail.get 5),.bool (p1.2.fail.get 6),.bool (p1.2.fail.get 7)]) {r:(List Int)} (hm:wAx p0 p1=some r):Gv Try.prog 51 [.slice none 0 0,.func (.func 52) #[] #[.pointer (some ⟨pb1c0,0,none⟩),.pointer (some ⟨pb1c1,0,none⟩)]] w (wBm w [] U (fun U_ L_ v=>∃ (A0:Option Addr) (c0:Nat),v=.slice A0 r.length c0/\L_=[.row A0 c0 3 1 (hD KL.encI r)])):=by
 unfold wAx at hm
 refine Go.KX.Gv.ofM Try.func51 rfl Try.ntmps51 Try.results51 (zE rfl) (sR gAg rfl (zr (cs:=[.slice none 0 0]) rfl rfl rfl rfl rfl rfl (by rfl) hS ?_))
 intro W1 b2 bq
 refine oA Z Z (eN (zC (sR fL1 Z (oM Z Z (eN (zT (CK.fresh fun J5 aI=>?_)))))))
 have f7:J5 2=.pointer (some ⟨b2,0,none⟩):=(aI 2).trans rfl
 have f8:J5 6=.func (.func 52) #[] #[.pointer (some ⟨pb1c0,0,none⟩),.pointer (some ⟨pb1c1,0,none⟩)]:=(aI 6).trans rfl
 clear aI
 have br:=bq.nilrow 3 1
 refine bnK hm fun aW bE aU=>CK.rangeY (S:=(List Int)) (E:=Empty) (ar:=wGk) (PY:=(fun (ab:(List Int)) (U_:PHeap) (L_:List Res)=>∃ (ae:Option Addr) (ag:Nat),L_=[.row ae ag 3 1 (hD KL.encI ab),.blk b2 28 [.slice ae ab.length ag]])) (PE:=(fun (_:Empty) _ _=>False)) (exO:=Empty.elim) (s0:=[]) (rr:=aW) f8 Try.call52 br (by decide) (fun _ _ _ h=>by obtain rfl:=h;rfl) (fun e=>nomatch e) ⟨none,0,rfl⟩ (fun l w1 L1 PY' PE' bi bg bw=>wDo PY' PE' _ l _ p1.1 pb1c0 pq1c0 pA1c0_0_2 pc1c0_0_2 pA1c0_0_3 pc1c0_0_3 p1.2 pb1c1 w1 L1 U bi bg bw bx bz bA bB bC bE) ?_ ?_
 rintro aj bR bN ab ac bS bQ ak bL bJ bG ah bP bs bh bD aT aJ ai
 obtain ⟨ae,ag,rfl⟩:=bh
 obtain rfl:=bD
 replace ai:∀ t,aJ t=upd J5 7 (jV ac) t:=ai
 have be:aJ 7=jV ac:=(ai 7).trans (wDa _ _ _)
 have aP:aJ 2=.pointer (some ⟨b2,0,none⟩):=(ai 2).trans ((wEZ _ _ (by decide)).trans f7)
 clear ai
 let B0:Res:=.blk b2 28 [.slice ae ab.length ag]
 let B1:Res:=.row ae ag 3 1 (hD KL.encI ab)
 have bt:St ah ak [.obj aj bG,B1,B0] bJ:=bs
 try dsimp only at aT
 refine rR fL1 Z (oA Z be (zk ⟨Z,Z,_,_,bt,fun a8 au bu=>?_⟩))
 have aS:St ah ak [.obj aj au,B1,B0] a8:=bu
 refine zT (rR (.fl 0 (.fl 1 (.fx 2 (.fx 3 (.fx 4 .nil .stop) .stop) .stop))) Z (oL Z (aS.ldB (j:=2) Z Z aP Zm (v:=.slice ae ab.length ag) Z) (oM Z Z (zq (pv:=[(0,jV ac)]) (zs:=[jV 0]) (cs:=[jV ac]) Z Z Z Z Z (wAL Z wAg) zF zB zo Z Z Z Z Z aS ?_))))
 intro ba bb bv
 let B2:Res:=.row (some ⟨bb,0,none⟩) 1 3 1 (hD KL.encI [ac])
 have aQ:St ah ak [B2,.obj aj au,B1,B0] ba:=bv
 refine bnK aT fun av bf bF=>ZJ (j:=2) (enc:=KL.encI) (xs:=ab) (ys:=[ac]) (zs:=av) rfl rfl rfl rfl rfl zn wDF rfl rfl rfl rfl rfl rfl aQ rfl rfl rfl (aQ.srcR (j:=0) rfl (by decide) (wAD (f:=KL.encI) (sz:=1) (fun _=>rfl) [ac])) (fun _=>rfl) (fun _=>rfl) bf rfl ?_
 intro am ap aY bj
 let B3:Res:=.row am ap 3 1 (hD KL.encI av)
 have bk:St ah ak [B2,.obj aj au,B3,B0] aY:=bj
 refine zt (j:=3) (vs:=[.slice am av.length ap]) Z Z Z Z bk Z aP Z Z Zd (zE Z) Z Z Z ?_
 intro aZ bl
 have bm:St ah ak [B2,.obj aj au,B3,.blk b2 28 [.slice am av.length ap]] aZ:=bl
 refine zk (zV ?_)
 have q:=hM bF
 obtain rfl:=q
 exact ⟨_,_,(bm.pick [1,2,3] _ (by decide) rfl),rfl,⟨am,ap,rfl⟩⟩
 rintro aV aH bK a6 bO bn
 rcases aW with aK | bc
 try dsimp only at aU
 rintro ⟨an,aq,rfl⟩
 let B4:Res:=.row an aq 3 1 (hD KL.encI aK)
 let B5:Res:=.blk b2 28 [.slice an aK.length aq]
 have aR:sW w U aH [B4,B5,.obj aV (.deferred (some []))] a6:=bn
 refine zV (zG (sR fL2 rfl (zz rfl rfl rfl rfl (aR.ldB (j:=1) rfl rfl f7 Zm (v:=.slice an aK.length aq) rfl) rfl (ZW rfl rfl rfl rfl rfl rfl (eN (zJ (wKN (by first | exact .inl rfl | exact .inr rfl) (rbs:=[aV]) (L:=[B4,B5]) aR fun a7 bo=>?_)))))))
 have bp:sW w U aH [B4,B5] a7:=bo
 have hE:=hM aU;first | subst r | cases hE
 exact ⟨_,(zY rfl),aH,_,(bp.pick [0] _ (by decide) rfl),an,aq,rfl,rfl⟩
 exact bc.elim
end Go.Proofs.Ytnbcoenjobdplaa
namespace Go.Proofs.Ytnbcoenjobdplaa
open Go.KL
set_option maxHeartbeats 4000000
theorem wDg (p0:(wAW × wAh)) (pb0c0:Nat) (pq0c0:Nat) (pA0c0_0_2:Option Addr) (pc0c0_0_2:Nat) (pA0c0_0_3:Option Addr) (pc0c0_0_3:Nat) (pb0c1:Nat) (w:World) (U:PHeap) (hS:St0 w U []) (am:Cl U pb0c0 0 [.pointer (some ⟨pq0c0,0,none⟩)]) (an:Cl U pq0c0 0 [jV p0.1.Scale.Error,jV p0.1.Scale.Least,.slice pA0c0_0_2 p0.1.Scale.Tests.length pc0c0_0_2,.slice pA0c0_0_3 p0.1.Scale.Rifles.length pc0c0_0_3,jV p0.1.first.offset.Lo,jV p0.1.first.offset.Hi,.bool (p0.1.first.pass.get 0),.bool (p0.1.first.pass.get 1),.bool (p0.1.first.pass.get 2),.bool (p0.1.first.pass.get 3),.bool (p0.1.first.pass.get 4),.bool (p0.1.first.pass.get 5),.bool (p0.1.first.pass.get 6),.bool (p0.1.first.pass.get 7),.bool (p0.1.first.fail.get 0),.bool (p0.1.first.fail.get 1),.bool (p0.1.first.fail.get 2),.bool (p0.1.first.fail.get 3),.bool (p0.1.first.fail.get 4),.bool (p0.1.first.fail.get 5),.bool (p0.1.first.fail.get 6),.bool (p0.1.first.fail.get 7)]) (ao:Sl U 2 pA0c0_0_2 pc0c0_0_2 p0.1.Scale.Tests.length (hD wAI p0.1.Scale.Tests)) (ap:Sl U 1 pA0c0_0_3 pc0c0_0_3 p0.1.Scale.Rifles.length (hD KL.encI p0.1.Scale.Rifles)) (aq:Cl U pb0c1 0 [jV p0.2.offset.Lo,jV p0.2.offset.Hi,.bool (p0.2.pass.get 0),.bool (p0.2.pass.get 1),.bool (p0.2.pass.get 2),.bool (p0.2.pass.get 3),.bool (p0.2.pass.get 4),.bool (p0.2.pass.get 5),.bool (p0.2.pass.get 6),.bool (p0.2.pass.get 7),.bool (p0.2.fail.get 0),.bool (p0.2.fail.get 1),.bool (p0.2.fail.get 2),.bool (p0.2.fail.get 3),.bool (p0.2.fail.get 4),.bool (p0.2.fail.get 5),.bool (p0.2.fail.get 6),.bool (p0.2.fail.get 7)]) {r:(List Int)} (hm:wBf p0=some r):Gv Try.prog 27 [.func (.func 52) #[] #[.pointer (some ⟨pb0c0,0,none⟩),.pointer (some ⟨pb0c1,0,none⟩)]] w (wBm w [] U (fun U_ L_ v=>∃ (A0:Option Addr) (c0:Nat),v=.slice A0 r.length c0/\L_=[.row A0 c0 3 1 (hD KL.encI r)])):=by
 unfold wBf at hm
 refine Gv.of Try.func27 Z Try.ntmps27 Try.results27 Z (sR fL1 Z (oA Z Z (eN (sR gAt Z (oM Z Z (bnK hm fun x1 h2 au=>zK 0 Z Z Z Z (zI Z Z Try.call51 (zA Z (zA Z zL)) Z) hS (fun hs=>wCv [] (p0.1,p0.2) pb0c0 pq0c0 pA0c0_0_2 pc0c0_0_2 pA0c0_0_3 pc0c0_0_3 pb0c1 w U hs am an ao ap aq h2) (.inr Z) ?_))))))
 rintro U4 L5 v6 W7 ax ak ⟨ac,ag,rfl,rfl⟩
 have aj:sW w U U4 [.row ac ag 3 1 (hD KL.encI x1)] W7:=ak
 refine oA Z Z (eN (zJ ?_))
 have hE:=hM au;first | subst r | cases hE
 exact ⟨Z,_,(zY Z),U4,_,aj,ac,ag,Z,Z⟩
theorem wGP (p0:wAM) (ak:Option Addr) (an:Nat) (am:Option Addr) (ao:Nat) (w:World) (U:PHeap) (hS:St0 w U []) (br:Sl U 2 ak an p0.Tests.length (hD wAI p0.Tests)) (bs:Sl U 1 am ao p0.Rifles.length (hD KL.encI p0.Rifles)) {r:(List Int) × Int} (hm:wCJ p0=some r):Gv Try.prog 11 [.agg #[jV p0.Error,jV p0.Least,.slice ak p0.Tests.length an,.slice am p0.Rifles.length ao]] w (wBm w [] U (fun U_ L_ v=>∃ (A0:Option Addr) (c0:Nat),v=.tuple #[.slice A0 r.1.length c0,jV r.2]/\L_=[.row A0 c0 3 1 (hD KL.encI r.1)])):=by
 unfold wCJ at hm
 refine Gv.of Try.func11 Z Try.ntmps11 Try.results11 Z (sR gAs Z ?_)
 let B0:List Value:=[jV p0.Error,jV p0.Least,.slice ak p0.Tests.length an,.slice am p0.Rifles.length ao]
 refine zr (cs:=B0) rfl rfl rfl rfl rfl rfl (by rfl) hS ?_
 intro W1 b2 aT
 refine oA Z Z (oA Z Z (eN (sR (.fl 0 (.fx 1 (wJP (.nil)) .stop)) Z (oL Z (aT.ldBA (j:=0) Z Z Z Try.isAgg30 ZL (vs:=B0) Z Z) ?_))))
 have q:=bnd hm
 obtain ⟨⟨x5,x6⟩,h7,ah⟩:=q
 try dsimp only at ah
 refine zK 0 Z Z Z Z (zI Z Z Try.call24 (zA Z zL) Z) aT (fun hs=>wEA p0 ak an am ao W1 U hs br bs h7) (.inr Z) ?_
 rintro U9 bB bG aj bE aS aR
 rcases x5 with _ | aa
 try dsimp only at ah
 obtain ⟨rfl,rfl⟩:=aR
 have bi:sW w U U9 [.blk b2 30 B0] aj:=aS
 refine oM Z Z (oR Z (ZF Z Z (v:=.pointer none) Z) (oR Z (ZF Z Z (v:=jV x6) Z) (oA Z Z (oA Z Z (eN (zC (sR fL2 Z (oM Z Z (oR Z (ZV Z Z Z) (eN (ifc ah ?_ ?_)))))))))))
 intro ax bt
 refine zb (ZD (fun h=>h ax.out)) (kN (sR (wEp gBa) Z (oM Z Z (oM Z Z ?_))))
 cases bt
 intro ax bu
 refine cT Z ax (sR fL3 Z (oM Z Z (oA Z Z (oA Z Z (eN (zJ (zM ?_)))))))
 have bj:=bi.nilrow 3 1
 cases bu
 exact ⟨rfl,_,(wFd rfl rfl),U9,_,(bj.pick [0] _ (by decide) rfl),none,0,rfl,rfl⟩
 try dsimp only at ah
 obtain ⟨af,ap,av,aq,aw,rfl,rfl,a7,a8⟩:=aR
 let B1:List Value:=[jV aa.Scale.Error,jV aa.Scale.Least,.slice ap aa.Scale.Tests.length av,.slice aq aa.Scale.Rifles.length aw,jV aa.first.offset.Lo,jV aa.first.offset.Hi,.bool (aa.first.pass.get 0),.bool (aa.first.pass.get 1),.bool (aa.first.pass.get 2),.bool (aa.first.pass.get 3),.bool (aa.first.pass.get 4),.bool (aa.first.pass.get 5),.bool (aa.first.pass.get 6),.bool (aa.first.pass.get 7),.bool (aa.first.fail.get 0),.bool (aa.first.fail.get 1),.bool (aa.first.fail.get 2),.bool (aa.first.fail.get 3),.bool (aa.first.fail.get 4),.bool (aa.first.fail.get 5),.bool (aa.first.fail.get 6),.bool (aa.first.fail.get 7)]
 have az:sW w U U9 [.blk af 77 B1,.blk b2 30 B0] aj:=aS
 refine oM Z Z (oR Z (ZF Z Z (v:=.pointer (some ⟨af,0,none⟩)) Z) (oR Z (ZF Z Z (v:=jV x6) Z) (oA Z Z (oA Z Z (eN (zC (sR fL2 Z (oM Z Z (oR Z (ZV Z Z Z) (eN (ifc ah ?_ ?_)))))))))))
 intro ay bv
 refine zb (ZD (fun h=>h ay.out)) (kN (sR (wEp gBa) Z (oM Z Z (oM Z Z (oR Z (zx Z Z) (oR Z (zN Z Z zm Z Za) (oL Z (az.ldBA (j:=0) Z Z Z Try.isAgg75 Za (vs:=[jV aa.first.offset.Lo,jV aa.first.offset.Hi,.bool (aa.first.pass.get 0),.bool (aa.first.pass.get 1),.bool (aa.first.pass.get 2),.bool (aa.first.pass.get 3),.bool (aa.first.pass.get 4),.bool (aa.first.pass.get 5),.bool (aa.first.pass.get 6),.bool (aa.first.pass.get 7),.bool (aa.first.fail.get 0),.bool (aa.first.fail.get 1),.bool (aa.first.fail.get 2),.bool (aa.first.fail.get 3),.bool (aa.first.fail.get 4),.bool (aa.first.fail.get 5),.bool (aa.first.fail.get 6),.bool (aa.first.fail.get 7)]) Z Z) ?_)))))))
 have q:=az.freeze (k:=0) rfl
 obtain ⟨au,aV,ae,bk⟩:=q
 replace ae:=Cl.of ae
 have bl:sW w U au [.blk b2 30 B0] aj:=bk
 replace ae:Cl au af 0 B1:=ae
 have aP:=a7.le aV
 have aQ:=a8.le aV
 have q:=bnd bv
 obtain ⟨⟨⟩,ba,aU⟩:=q
 try dsimp only at aU
 refine zK 0 Z Z Z Z (zI Z Z Try.call28 (zA Z (zA Z zL)) Z) bl (fun hs=>wEQ aa af ap av aq aw aa.first aj au hs ae aP aQ ba) (.inr Z) ?_
 rintro aK bC bH aM aG bm ⟨aZ,a6,rfl,rfl,bb,bc⟩
 have bn:sW w U aK [.blk b2 30 B0] aM:=bm
 have bd:=ae.le aG
 have be:=aP.le aG
 have bf:=aQ.le aG
 refine bnK aU fun bA bg bw=>zK 0 Z Z Z Z (zI Z Z Try.call27 (zA Z zL) Z) bn (fun hs=>wDg (aa,aa.first) aZ af ap av aq aw a6 aM aK hs bb bd be bf bc bg) (.inr Z) ?_
 rintro aL bD bI aY bF bo ⟨aI,aO,rfl,rfl⟩
 have bp:sW w U aL [.row aI aO 3 1 (hD KL.encI bA),.blk b2 30 B0] aY:=bo
 refine oA Z Z (oA Z Z (eN (zJ ?_)))
 cases bw
 exact ⟨rfl,_,(wFd rfl rfl),aL,_,(bp.pick [0] _ (by decide) rfl),aI,aO,rfl,rfl⟩
 intro ay bx
 refine cT Z ay (sR fL3 Z (oM Z Z (oA Z Z (oA Z Z (eN (zJ (zM ?_)))))))
 have bq:=az.nilrow 3 1
 cases bx
 exact ⟨rfl,_,(wFd rfl rfl),U9,_,(bq.pick [0] _ (by decide) rfl),none,0,rfl,rfl⟩
theorem wDP (p0:List wAA) (an:Option Addr) (ao:Nat) (p1:(wAA->Option Bool)) (ap:Value) (w:World) (U:PHeap) (hS:St0 w U []) (a8:Sl U 3 an ao p0.length (hD wAC p0)) (ba:FnOK Try.prog U ap wKy wKz p1) {r:Bool} (hm:wAv p0 p1=some r):Gv Try.prog 54 [.slice an p0.length ao,ap] w (wBm w [] U (fun U_ L_ v=>v=.bool r/\L_=[])):=by
 unfold wAv at hm
 refine Gv.of Try.func54 Z Try.ntmps54 Try.results54 Z (sR fL1 Z (oA Z Z (eN (zC (sR fL3 Z (oM Z Z (oR Z (zh Z Z zg) (oM Z Z (eN (zT ?_))))))))))
 have q:=wCo hm
 obtain ⟨r3,ai⟩:=q
 have q:=wCn ai
 obtain ⟨ak,bd⟩:=q
 replace ak:=zH ak
 refine CK.forN (fun k2 _ J_ w_=>∃ (U_:PHeap),J_ 9=jV (↑k2:Int)/\J_ 1=ap/\J_ 7=.slice an p0.length ao/\J_ 8=jV (↑p0.length:Int)/\PHeap.Le U U_/\sW w U U_ [] w_) bd ?_ ?_ ?_
 exact ⟨U,Z,Z,Z,Z,(zO _),hS⟩
 rintro k2 ⟨⟩ bB J7 W8 aj ⟨aL,ah,av,aw,ax,am,az⟩ aJ bb
 try dsimp only at aJ
 have au:Hid ((↑k2:Int) < (↑p0.length:Int)):=zH (wBg aj)
 replace aj:=zH aj
 have be:Hid (w64 ((↑k2:Int) + 1)=(↑(k2 + 1):Int)):=zH (by have h1:=ak.out;have h2:=au.out;rw [wAR] <;> omega)
 refine sR fL1 Z (oR Z (zR Z ah ax) (eN (zC (cT Z au (kN (zC (zT (sR gAy Z (bnK aJ fun ab ay bf=>?_)))))))))
 have aT:=a8.le am
 have q:=aT.el (fun _=>rfl) (wAl ay)
 obtain ⟨bs,bw,aW,aX⟩:=q
 refine oR Z (ZR Z aw aW ah zg zp (wCa ay)) (oL Z (az.ldCA (f:=0) aX Z Z Zj zp (us:=[jV ab.Bib,jV ab.Time,jV ab.Gate]) Z Z) (ZA (cs:=[jV 0,jV 0,jV 0]) Z Z Z Z Z Try.zeroValue47 Z az ?_))
 intro bp aq aY
 let B0:List Value:=[jV ab.Bib,jV ab.Time,jV ab.Gate]
 refine zt (j:=0) (vs:=B0) Z Z Z Z aY Z Z Z Z zp (zE Z) Z Z Z ?_
 intro aN aZ
 have aG:sW w U aL [.blk aq 47 B0] aN:=aZ
 refine eN (sR gAx Z (oM Z av (oL Z (aG.ldBA (j:=0) Z Z Z Zj zp (vs:=B0) Z Z) (bnK bf fun bA aU bg=>?_))))
 have aV:=ba.le am
 refine Ze (a:=ab) Z Z Z Z Z Z (zA Z zL) aG aV Z aU ?_
 rintro af bo bz aO bk a6 ⟨rfl,rfl⟩
 have aH:sW w U af [.blk aq 47 B0] aO:=a6
 refine oR Z (zy Z Z) (eN (ifc bg ?_ ?_))
 intro ag bh
 refine zb (nC ag.out) (ZC (zV (zG (rR fL2 Z (oR Z (zj (zS Z ah Z) (congrArg (jV) be.out)) (oM Z Z (zk ?_)))))))
 have q:=hM bh
 obtain rfl:=q
 exact zG ⟨rfl,_,rfl,⟨af,rfl,av,aw,ax,(am.trans bk),(aH.pick [] _ (by decide) rfl)⟩⟩
 intro ag bi
 refine zf (nF (ag.out)) (sR fL1 Z (oA Z Z (eN (zJ (zc (zM ?_))))))
 have q:=wBZ bi
 obtain ⟨bl,bj,aQ⟩:=q
 have q:=wCp hm ai (bb bl aQ)
 obtain rfl:=q
 refine zM (zc (zM ?_))
 have hE:=hM bj;first | subst r | cases hE
 exact ⟨rfl,_,(zY rfl),af,_,(aH.pick [] _ (by decide) rfl),rfl,rfl⟩
 rintro ⟨⟩ bm bq ⟨aM,aS,bt,bu,aR,bv,a7⟩ bc
 have aI:=wDU hm ai bc
 try dsimp only at aI
 have aP:Hid (¬ ((↑(((↑p0.length:Int):Int) - 0).toNat:Int) < (↑p0.length:Int))):=zH (wBB)
 refine sR fL1 Z (oR Z (zR Z aS aR) (eN (zC (cF Z aP (ZK (ze (ze (ZB (zG (sR fL1 Z (oA Z Z (eN (zJ ?_)))))))))))))
 have hE:=hM aI;first | subst r | cases hE
 exact ⟨Z,_,(zY Z),aM,_,a7,Z,Z⟩
theorem wDp (p0:wAA) (w:World) (U:PHeap) (hS:St0 w U [])  {r:Bool} (hm:wAq p0=some r):Gv Try.prog 55 [.agg #[jV p0.Bib,jV p0.Time,jV p0.Gate]] w (wBm w [] U (fun U_ L_ v=>v=.bool r/\L_=[])):=by
 unfold wAq at hm
 refine Gv.of Try.func55 Z Try.ntmps55 Try.results55 Z (sR gAg Z ?_)
 let B0:List Value:=[jV p0.Bib,jV p0.Time,jV p0.Gate]
 refine zr (cs:=B0) rfl rfl rfl rfl rfl rfl (by rfl) hS ?_
 intro W1 b2 ao
 refine oA Z Z (eN (sR (.fl 0 (.fl 1 (.fx 2 (wKf (.fx 6 (wLl (.fx 11 gAf .stop)) .stop)) .stop))) Z (oR Z (zN Z Z ZM Z zB) (oL Z (ao.ldB (j:=0) Z Z Z zD (v:=jV p0.Bib) Z) (bnK hm fun x5 h6 aN=>zK 0 Z Z Z Z (zI Z Z Try.call22 (zA Z (zA Z (zA Z zL))) Z) ao (fun hs=>wCK p0.Bib 1 999 W1 U hs h6) (.inr Z) ?_)))))
 rintro U8 L9 aU am aR ax ⟨rfl,rfl⟩
 have ai:sW w U U8 [.blk b2 47 B0] am:=ax
 refine oM Z Z (ifc aN ?_ ?_)
 intro ab aH
 refine zU Z Z Z (zP Z Z (congrArg nA ab.out)) (fun _=>zN Z Z ZM Z zB) (zz Z Z Z (zP Z Z (congrArg nA ab.out)) (ai.ldB (j:=0) Z Z Z zD (v:=jV p0.Time) Z) Z (bnK aH fun aX au aI=>zK 0 Z Z Z (zP Z Z (congrArg nA ab.out)) (zI Z Z Try.call22 (zA Z (zA Z (zA Z zL))) Z) ai (fun hs=>wCK p0.Time 0 360000 am U8 hs au) (.inr Z) ?_))
 rintro af aO aV an aS ay ⟨rfl,rfl⟩
 have aj:sW w U af [.blk b2 47 B0] an:=ay
 refine oR Z (zW Z (congrArg nA ab.out) Z) (oM Z Z (ifc aI ?_ ?_))
 intro ac aJ
 refine zU Z Z Z (zP Z Z (congrArg nA ac.out)) (fun _=>zN Z Z ZM Z zB) (zz Z Z Z (zP Z Z (congrArg nA ac.out)) (aj.ldB (j:=0) Z Z Z zD (v:=jV p0.Gate) Z) Z (bnK aJ fun aY av aK=>zK 0 Z Z Z (zP Z Z (congrArg nA ac.out)) (zI Z Z Try.call22 (zA Z (zA Z (zA Z zL))) Z) aj (fun hs=>wCK p0.Gate 0 60 an af hs av) (.inr Z) ?_))
 rintro ak aP aW aq aT az ⟨rfl,rfl⟩
 have aG:sW w U ak [.blk b2 47 B0] aq:=az
 refine oR Z (zW Z (congrArg nA ac.out) Z) (oA Z Z (eN (zJ ?_)))
 have hE:=hM aK;first | subst r | cases hE
 exact ⟨rfl,_,(zY rfl),ak,_,(aG.pick [] _ (by decide) rfl),rfl,rfl⟩
 intro ac aL
 refine zi Z Z Z (zd Z Z (congrArg nA (nB.2 ac.out)) Z) (zi Z Z Z (zd Z Z (congrArg nA (nB.2 ac.out)) Z) (ZZ Z Z Z (zd Z Z (congrArg nA (nB.2 ac.out)) Z) (oR Z (zZ Z (congrArg nA (nB.2 ac.out)) Z) (oA Z Z (eN (zJ ?_))))))
 have hE:=hM aL;first | subst r | cases hE
 exact ⟨rfl,_,(zY rfl),af,_,(aj.pick [] _ (by decide) rfl),rfl,rfl⟩
 intro ab aM
 refine zi Z Z Z (zd Z Z (congrArg nA (nB.2 ab.out)) Z) (zi Z Z Z (zd Z Z (congrArg nA (nB.2 ab.out)) Z) (ZZ Z Z Z (zd Z Z (congrArg nA (nB.2 ab.out)) Z) (oR Z (zZ Z (congrArg nA (nB.2 ab.out)) Z) (oM Z Z (oN Z (oN Z (ZZ Z Z Z (zd Z Z Z Z) (oR Z (zZ Z Z Z) (oA Z Z (eN (zJ ?_)))))))))))
 have hE:=hM aM;first | subst r | cases hE
 exact ⟨rfl,_,(zY rfl),U8,_,(ai.pick [] _ (by decide) rfl),rfl,rfl⟩
theorem wFU (p0:Int) (p1:Int) (w:World) (U:PHeap) (hS:St0 w U [])  {r:Bool} (hm:wBu p0 p1=some r):Gv Try.prog 72 [jV p0,jV p1] w (wBm w [] U (fun U_ L_ v=>v=.bool r/\L_=[])):=by
 unfold wBu at hm
 refine Gv.of Try.func72 Z Try.ntmps72 Try.results72 Z (sR fL1 Z (oA Z Z (eN (sR (.fl 0 (.fx 1 (.fl 2 (.fl 3 (.fx 4 (wLk (.nil)) .stop))) .stop)) Z (oM Z Z (bnK hm fun x1 h2 ay=>zK 0 Z Z Z Z (zI Z Z Try.call64 (zA Z zL) Z) hS (fun hs=>wCS p0 w U hs h2) (.inr Z) ?_))))))
 rintro U4 L5 v6 W7 aI au ⟨rfl,rfl⟩
 have ai:sW w U U4 [] W7:=au
 refine oM Z Z (ifc ay ?_ ?_)
 intro aa av
 refine zQ Z Z Z (zP Z Z (congrArg nA aa.out)) Z Z (bnK av fun aM ao aw=>zK 0 Z Z Z (zP Z Z (congrArg nA aa.out)) (zI Z Z Try.call64 (zA Z zL) Z) ai (fun hs=>wCS p1 W7 U4 hs ao) (.inr Z) ?_)
 rintro ac az aJ an aH aq ⟨rfl,rfl⟩
 have aj:sW w U ac [] an:=aq
 refine zU Z Z Z (zP Z Z (congrArg nA aa.out)) (fun _=>zy Z Z) (oR Z (zW Z (congrArg nA aa.out) Z) (oM Z Z (ifc aw ?_ ?_)))
 intro ab ak
 refine zQ Z Z Z (zP Z Z (nC ab.out)) Z Z (zQ Z Z Z (zP Z Z (nC ab.out)) Z Z (zU Z Z Z (zP Z Z (nC ab.out)) (fun _=>zR Z Z Z) (oR Z (zZ Z (nC ab.out) Z) (oA Z Z (eN (zJ ?_))))))
 first | (obtain rfl:=hM ak) | cases ak
 exact ⟨Z,_,(zY Z),ac,_,aj,Z,Z⟩
 intro ab ax
 refine zi Z Z Z (zd Z Z (nF (ab.out)) Z) (zi Z Z Z (zd Z Z (nF (ab.out)) Z) (zi Z Z Z (zd Z Z (nF (ab.out)) Z) (oR Z (zW Z (nF (ab.out)) Z) (oA Z Z (eN (zJ ?_))))))
 have hE:=hM ax;first | subst r | cases hE
 exact ⟨Z,_,(zY Z),ac,_,aj,Z,Z⟩
 intro aa am
 refine zi Z Z Z (zd Z Z (congrArg nA (nB.2 aa.out)) Z) (ZZ Z Z Z (zd Z Z (congrArg nA (nB.2 aa.out)) Z) (zi Z Z Z (zd Z Z (congrArg nA (nB.2 aa.out)) Z) (oR Z (zZ Z (congrArg nA (nB.2 aa.out)) Z) (oM Z Z (zQ Z Z Z (zP Z Z Z) Z Z (zQ Z Z Z (zP Z Z Z) Z Z (zU Z Z Z (zP Z Z Z) (fun _=>zR Z Z Z) (oR Z (zZ Z Z Z) (oA Z Z (eN (zJ ?_)))))))))))
 first | (obtain rfl:=hM am) | cases am
 exact ⟨Z,_,(zY Z),U4,_,ai,Z,Z⟩
theorem wDA (p0:List Int) (ak:Option Addr) (am:Nat) (w:World) (U:PHeap) (hS:St0 w U []) (aT:Sl U 1 ak am p0.length (hD KL.encI p0)) {r:Bool} (hm:wAo p0=some r):Gv Try.prog 56 [.slice ak p0.length am] w (wBm w [] U (fun U_ L_ v=>v=.bool r/\L_=[])):=by
 unfold wAo at hm
 refine Gv.of Try.func56 Z Try.ntmps56 Try.results56 Z (sR fL1 Z (oA Z Z (eN (zC (sR fL4 Z (oM Z Z (oR Z (zh Z Z zF) (oR Z (ZN Z Z Z) (oA Z Z (eN (zT (CK.iter (fun x4 J_ w_=>∃ (U_:PHeap),J_ 0=.slice ak p0.length am/\J_ 3=jV x4/\PHeap.Le U U_/\sW w U U_ [] w_) hm ?_ ?_))))))))))))
 exact ⟨U,Z,Z,(zO _),hS⟩
 rintro x4 bj J5 W6 ⟨ao,ah,ac,aG,au⟩ az aw
 refine zC (sR fL2 Z (oM Z ac (oR Z (Zh Z Z Z) (eN ?_))))
 by_cases aa:0 < x4
 have ax:=az;rw [if_pos aa] at ax;replace aa:=zH aa
 refine cT Z aa (kN (zC (zT (zC (ZT ZU [3,3,3,1,3,3,3,3,1,2] (fC0_8 (.fx 9 .nil .stop)) (by kernel_rfl) ?_)))))
 have ae:=au.drew
 generalize hw_W20:({ W6 with drawn:=W6.drawn + 1 }:World)=aJ at ae ⊢
 refine oM Z ah (oM Z ac (bnK ax fun aH ai aU=>?_))
 have aq:=aT.le aG
 have q:=aq.el (fun _=>rfl) (wAl ai)
 obtain ⟨bd,bf,aO,aQ⟩:=q
 refine oR Z (Zb Z Z aO Z zF zB (wCZ ai) (wCf ai)) (oL Z (ae.ldC (f:=0) aQ (v:=jV aH) Z Z zD Z) (oM Z ah (oM Z ac (oR Z (ZN Z Z Z) (bnK aU fun aI aj aV=>?_)))))
 have q:=aq.el (fun _=>rfl) (wAl aj)
 obtain ⟨be,bg,aP,aR⟩:=q
 refine oR Z (Zb Z Z aP Z zF zB (wCZ aj) (wCf aj)) (oL Z (ae.ldC (f:=0) aR (v:=jV aI) Z Z zD Z) (bnK aV fun bi aN aW=>zK 0 Z Z Z Z (zI Z Z Try.call72 (zA Z (zA Z zL)) Z) ae (fun hs=>wFU aH aI aJ ao hs aN) (.inr Z) ?_))
 rintro af bc bh aK a7 aS ⟨rfl,rfl⟩
 have av:sW w U af [] aK:=aS
 refine eN (ifc aW ?_ ?_)
 intro ag aX
 refine zf (congrArg nA ag.out) (sR fL1 Z (oA Z Z (eN (zJ (zc (zM ?_))))))
 have q:=wBZ aX
 obtain ⟨a8,aY,aL⟩:=q
 have q:=aw a8 aL
 obtain rfl:=q
 refine zM (zc (zM ?_))
 have hE:=hM aY;first | subst r | cases hE
 exact ⟨Z,_,(zY Z),af,_,av,Z,Z⟩
 intro ag aZ
 refine zb (congrArg nA (nB.2 ag.out)) (ZC (zV (zG (rR fL3 Z (oM Z ac (oR Z (ZN Z Z Z) (oA Z Z (zk ?_))))))))
 have q:=hM aZ
 obtain rfl:=q
 exact zG ⟨Z,_,Z,⟨af,ah,Z,(aG.trans a7),av⟩⟩
 have ay:=az;rw [if_neg aa] at ay;replace aa:=zH aa
 refine cF Z aa (ZK (ze ?_))
 have q:=wBZ ay
 obtain ⟨ba,a6,aM⟩:=q
 have q:=aw ba aM
 obtain rfl:=q
 refine ze (ZB (zG (sR fL1 Z (oA Z Z (eN (zJ ?_))))))
 have hE:=hM a6;first | subst r | cases hE
 exact ⟨Z,_,(zY Z),ao,_,au,Z,Z⟩
theorem wDJ (p0:List wAA) (av:Option Addr) (aw:Nat) (w:World) (U:PHeap) (hS:St0 w U []) (ct:Sl U 3 av aw p0.length (hD wAC p0)) {r:Int} (hm:wBM p0=some r):Gv Try.prog 29 [.slice av p0.length aw] w (wBm w [] U (fun U_ L_ v=>v=jV r/\L_=[])):=by
 unfold wBM at hm
 refine Gv.of Try.func29 Z Try.ntmps29 Try.results29 Z (sR fL1 Z (oA Z Z (eN (sR fL2 Z (oA Z Z (oA Z Z (eN (zC (sR fL3 Z (oM Z Z (oR Z (zh Z Z zg) (oM Z Z (eN (zT ?_))))))))))))))
 have q:=bnd hm
 obtain ⟨⟨aT,aU⟩,eL,cu⟩:=q
 try dsimp only at cu
 have q:=wBY eL
 obtain ⟨bk,eM⟩:=q
 replace bk:=zH bk
 refine CK.forN' (fun aJ (ak,am) J_ w_=>∃ (U_:PHeap) (aK:Option Addr) (aP:Nat) (aL:Option Addr) (aQ:Nat),J_ 9=jV (↑aJ:Int)/\J_ 0=.slice av p0.length aw/\J_ 3=.slice aK ak.length aP/\J_ 4=.slice aL am.length aQ/\J_ 7=.slice av p0.length aw/\J_ 8=jV (↑p0.length:Int)/\PHeap.Le U U_/\sW w U U_ [.row aK aP 3 1 (hD KL.encI ak),.row aL aQ 3 1 (hD KL.encI am)] w_) eM ?_ ?_ ?_
 have eF:=hS.nilrow 3 1
 have eG:=eF.nilrow 3 1
 exact ⟨U,none,0,none,0,rfl,rfl,rfl,rfl,rfl,rfl,(zO _),(eG.pick [1,0] _ (by decide) rfl)⟩
 rintro aJ ⟨ak,am⟩ fR fq fA bj ⟨ab,aK,aP,aL,aQ,an,ax,dw,dx,aq,au,cA,cr⟩ cx
 try dsimp only at cx
 have bY:Hid ((↑aJ:Int) < (↑p0.length:Int)):=zH (wBg bj)
 replace bj:=zH bj
 have eO:Hid (w64 ((↑aJ:Int) + 1)=(↑(aJ + 1):Int)):=zH (by have h1:=bk.out;have h2:=bY.out;rw [wAR] <;> omega)
 refine sR fL1 Z (oR Z (zR Z an au) (eN (zC (cT Z bY (kN ?_)))))
 have q:=bnd cx
 obtain ⟨⟨cy,cz⟩,ff,cw⟩:=q
 try dsimp only at cw
 refine CK.cut (fun J_ w_=>∃ (U_:PHeap) (aM:Option Addr) (aR:Nat) (aN:Option Addr) (aS:Nat),J_ 0=.slice av p0.length aw/\J_ 3=.slice aM cy.length aR/\J_ 4=.slice aN cz.length aS/\J_ 7=.slice av p0.length aw/\J_ 8=jV (↑p0.length:Int)/\J_ 9=jV (↑aJ:Int)/\PHeap.Le ab U_/\sW w U U_ [.row aM aR 3 1 (hD KL.encI cy),.row aN aS 3 1 (hD KL.encI cz)] w_) ?_ ?_
 refine zT (sR gAy Z (bnK ff fun aa b5 fc=>?_))
 have dD:=ct.le cA
 have q:=dD.el (fun _=>rfl) (wAl b5)
 obtain ⟨fC,fK,dE,dF⟩:=q
 refine oR Z (ZR Z aq dE an zg zp (wCa b5)) (oL Z (cr.ldCA (f:=0) dF Z Z Zj zp (us:=[jV aa.Bib,jV aa.Time,jV aa.Gate]) Z Z) (ZA (cs:=[jV 0,jV 0,jV 0]) Z Z Z Z Z Try.zeroValue47 Z cr ?_))
 intro fB ae eH
 let B0:List Value:=[jV aa.Bib,jV aa.Time,jV aa.Gate]
 refine zt (j:=0) (vs:=B0) Z Z Z Z eH Z Z Z Z zp (zE Z) Z Z Z ?_
 intro bd eJ
 let B1:Res:=.row aL aQ 3 1 (hD KL.encI am)
 let B2:Res:=.row aK aP 3 1 (hD KL.encI ak)
 have eK:sW w U ab [.blk ae 47 B0,B2,B1] bd:=eJ
 refine eN (bnK fc fun ai az eP=>bnK eP fun ah ay aI=>ZT ZU [3,3,1,2,0,3,3,2,2,0,3,3] (wGZ (.fl 5 (.fl 6 (.fx 3 (.fx 4 (.fx 7 gBb .stop) (.fx 7 gBh .stop)) (.fx 7 (.fx 3 gBh (.fx 8 (.fx 3 gBc .stop) .stop)) .stop))))) (by kernel_rfl) ?_)
 have aG:=eK.drew
 generalize hw_W114:({ bd with drawn:=bd.drawn + 1 }:World)=fy at aG ⊢
 refine oM Z dw (oR Z (zN Z Z ZM Z zB) (oL Z (aG.ldB (j:=0) Z Z Z zD (v:=jV aa.Bib) Z) (oM Z dx (oR Z (zN Z Z ZM Z zB) (OKS.both ?_ ?_)))))
 refine zq (pv:=[(0,jV aa.Bib)]) (zs:=[jV 0]) (cs:=[jV aa.Bib]) Z Z Z Z Z (wAL Z wAg) zF zB zo Z Z Z Z Z aG ?_
 intro cD c6 dH
 let B3:Res:=.row (some ⟨c6,0,none⟩) 1 3 1 (hD KL.encI [aa.Bib])
 have aH:sW w U ab [B3,.blk ae 47 B0,B2,B1] cD:=dH
 refine OKS.both ?_ ?_
 refine ZJ (j:=2) (enc:=KL.encI) (xs:=ak) (ys:=[aa.Bib]) (zs:=ai) rfl rfl rfl rfl rfl zn wDF rfl rfl rfl rfl rfl rfl aH rfl rfl rfl (aH.srcR (j:=0) rfl (by decide) (wAD (f:=KL.encI) (sz:=1) (fun _=>rfl) [aa.Bib])) (fun _=>rfl) (fun _=>rfl) az rfl ?_
 intro bl bK cE dI
 let B4:Res:=.row bl bK 3 1 (hD KL.encI ai)
 have b8:sW w U ab [B3,.blk ae 47 B0,B4,B1] cE:=dI
 refine OKS.mx2 Z Z Z Z (b8.ldB (j:=1) Z Z Z zD (v:=jV aa.Time) Z) (zq (pv:=[(0,jV aa.Time)]) (zs:=[jV 0]) (cs:=[jV aa.Time]) Z Z Z Z Z (wAL Z wAg) zF zB zo Z Z Z Z Z b8 ?_)
 intro cG c7 dJ
 let B5:Res:=.row (some ⟨c7,0,none⟩) 1 3 1 (hD KL.encI [aa.Time])
 have b9:sW w U ab [B5,B3,.blk ae 47 B0,B4,B1] cG:=dJ
 refine ZJ (j:=4) (enc:=KL.encI) (xs:=am) (ys:=[aa.Time]) (zs:=ah) rfl rfl rfl rfl rfl zn wDF rfl rfl rfl rfl rfl rfl b9 rfl rfl rfl (b9.srcR (j:=0) rfl (by decide) (wAD (f:=KL.encI) (sz:=1) (fun _=>rfl) [aa.Time])) (fun _=>rfl) (fun _=>rfl) ay rfl ?_
 intro bm bL cH dK
 have dL:sW w U ab [B5,B3,.blk ae 47 B0,B4,.row bm bL 3 1 (hD KL.encI ah)] cH:=dK
 refine oA Z Z (oA Z Z (zk (zV ?_)))
 cases aI
 exact zG ⟨rfl,⟨ab,bl,bK,bm,bL,ax,rfl,rfl,aq,au,an,(zO _),(dL.pick [3,4] _ (by decide) rfl)⟩⟩
 refine OKS.mx2 Z Z Z Z (aH.ldB (j:=1) Z Z Z zD (v:=jV aa.Time) Z) (OKS.both ?_ ?_)
 refine ZJ (j:=2) (enc:=KL.encI) (xs:=ak) (ys:=[aa.Bib]) (zs:=ai) rfl rfl rfl rfl rfl zn wDF rfl rfl rfl rfl rfl rfl aH rfl rfl rfl (aH.srcR (j:=0) rfl (by decide) (wAD (f:=KL.encI) (sz:=1) (fun _=>rfl) [aa.Bib])) (fun _=>rfl) (fun _=>rfl) az rfl ?_
 intro bn bM cI dM
 let B6:Res:=.row bn bM 3 1 (hD KL.encI ai)
 have dN:sW w U ab [B3,.blk ae 47 B0,B6,B1] cI:=dM
 refine zq (pv:=[(0,jV aa.Time)]) (zs:=[jV 0]) (cs:=[jV aa.Time]) Z Z Z Z Z (wAL Z wAg) zF zB zo Z Z Z Z Z dN ?_
 intro cJ c8 dO
 let B7:Res:=.row (some ⟨c8,0,none⟩) 1 3 1 (hD KL.encI [aa.Time])
 have ca:sW w U ab [B7,B3,.blk ae 47 B0,B6,B1] cJ:=dO
 refine ZJ (j:=4) (enc:=KL.encI) (xs:=am) (ys:=[aa.Time]) (zs:=ah) rfl rfl rfl rfl rfl zn wDF rfl rfl rfl rfl rfl rfl ca rfl rfl rfl (ca.srcR (j:=0) rfl (by decide) (wAD (f:=KL.encI) (sz:=1) (fun _=>rfl) [aa.Time])) (fun _=>rfl) (fun _=>rfl) ay rfl ?_
 intro bo bN cK dP
 have dQ:sW w U ab [B7,B3,.blk ae 47 B0,B6,.row bo bN 3 1 (hD KL.encI ah)] cK:=dP
 refine oA Z Z (oA Z Z (zk (zV ?_)))
 cases aI
 exact zG ⟨rfl,⟨ab,bn,bM,bo,bN,ax,rfl,rfl,aq,au,an,(zO _),(dQ.pick [3,4] _ (by decide) rfl)⟩⟩
 refine zq (pv:=[(0,jV aa.Time)]) (zs:=[jV 0]) (cs:=[jV aa.Time]) Z Z Z Z Z (wAL Z wAg) zF zB zo Z Z Z Z Z aH ?_
 intro cL c9 dR
 let B8:Res:=.row (some ⟨c9,0,none⟩) 1 3 1 (hD KL.encI [aa.Time])
 have cc:sW w U ab [B8,B3,.blk ae 47 B0,B2,B1] cL:=dR
 refine ZJ (j:=3) (enc:=KL.encI) (xs:=ak) (ys:=[aa.Bib]) (zs:=ai) rfl rfl rfl rfl rfl zn wDF rfl rfl rfl rfl rfl rfl cc rfl rfl rfl (cc.srcR (j:=1) rfl (by decide) (wAD (f:=KL.encI) (sz:=1) (fun _=>rfl) [aa.Bib])) (fun _=>rfl) (fun _=>rfl) az rfl ?_
 intro bp bO cM dS
 let B9:Res:=.row bp bO 3 1 (hD KL.encI ai)
 have cd:sW w U ab [B8,B3,.blk ae 47 B0,B9,B1] cM:=dS
 refine ZJ (j:=4) (enc:=KL.encI) (xs:=am) (ys:=[aa.Time]) (zs:=ah) rfl rfl rfl rfl rfl zn wDF rfl rfl rfl rfl rfl rfl cd rfl rfl rfl (cd.srcR (j:=0) rfl (by decide) (wAD (f:=KL.encI) (sz:=1) (fun _=>rfl) [aa.Time])) (fun _=>rfl) (fun _=>rfl) ay rfl ?_
 intro bq bP cN dT
 have dU:sW w U ab [B8,B3,.blk ae 47 B0,B9,.row bq bP 3 1 (hD KL.encI ah)] cN:=dT
 refine oA Z Z (oA Z Z (zk (zV ?_)))
 cases aI
 exact zG ⟨rfl,⟨ab,bp,bO,bq,bP,ax,rfl,rfl,aq,au,an,(zO _),(dU.pick [3,4] _ (by decide) rfl)⟩⟩
 refine OKS.mx2 Z Z Z Z (aG.ldB (j:=0) Z Z Z zD (v:=jV aa.Time) Z) (OKS.both ?_ ?_)
 refine zq (pv:=[(0,jV aa.Bib)]) (zs:=[jV 0]) (cs:=[jV aa.Bib]) Z Z Z Z Z (wAL Z wAg) zF zB zo Z Z Z Z Z aG ?_
 intro cO da dV
 let ao:Res:=.row (some ⟨da,0,none⟩) 1 3 1 (hD KL.encI [aa.Bib])
 have bi:sW w U ab [ao,.blk ae 47 B0,B2,B1] cO:=dV
 refine OKS.both ?_ ?_
 refine ZJ (j:=2) (enc:=KL.encI) (xs:=ak) (ys:=[aa.Bib]) (zs:=ai) rfl rfl rfl rfl rfl zn wDF rfl rfl rfl rfl rfl rfl bi rfl rfl rfl (bi.srcR (j:=0) rfl (by decide) (wAD (f:=KL.encI) (sz:=1) (fun _=>rfl) [aa.Bib])) (fun _=>rfl) (fun _=>rfl) az rfl ?_
 intro br bQ cP dW
 let aV:Res:=.row br bQ 3 1 (hD KL.encI ai)
 have dX:sW w U ab [ao,.blk ae 47 B0,aV,B1] cP:=dW
 refine zq (pv:=[(0,jV aa.Time)]) (zs:=[jV 0]) (cs:=[jV aa.Time]) Z Z Z Z Z (wAL Z wAg) zF zB zo Z Z Z Z Z dX ?_
 intro cQ db dY
 let bA:Res:=.row (some ⟨db,0,none⟩) 1 3 1 (hD KL.encI [aa.Time])
 have cg:sW w U ab [bA,ao,.blk ae 47 B0,aV,B1] cQ:=dY
 refine ZJ (j:=4) (enc:=KL.encI) (xs:=am) (ys:=[aa.Time]) (zs:=ah) rfl rfl rfl rfl rfl zn wDF rfl rfl rfl rfl rfl rfl cg rfl rfl rfl (cg.srcR (j:=0) rfl (by decide) (wAD (f:=KL.encI) (sz:=1) (fun _=>rfl) [aa.Time])) (fun _=>rfl) (fun _=>rfl) ay rfl ?_
 intro bs bR cR dZ
 have d6:sW w U ab [bA,ao,.blk ae 47 B0,aV,.row bs bR 3 1 (hD KL.encI ah)] cR:=dZ
 refine oA Z Z (oA Z Z (zk (zV ?_)))
 cases aI
 exact zG ⟨rfl,⟨ab,br,bQ,bs,bR,ax,rfl,rfl,aq,au,an,(zO _),(d6.pick [3,4] _ (by decide) rfl)⟩⟩
 refine zq (pv:=[(0,jV aa.Time)]) (zs:=[jV 0]) (cs:=[jV aa.Time]) Z Z Z Z Z (wAL Z wAg) zF zB zo Z Z Z Z Z bi ?_
 intro cS de d7
 let aW:Res:=.row (some ⟨de,0,none⟩) 1 3 1 (hD KL.encI [aa.Time])
 have ch:sW w U ab [aW,ao,.blk ae 47 B0,B2,B1] cS:=d7
 refine ZJ (j:=3) (enc:=KL.encI) (xs:=ak) (ys:=[aa.Bib]) (zs:=ai) rfl rfl rfl rfl rfl zn wDF rfl rfl rfl rfl rfl rfl ch rfl rfl rfl (ch.srcR (j:=1) rfl (by decide) (wAD (f:=KL.encI) (sz:=1) (fun _=>rfl) [aa.Bib])) (fun _=>rfl) (fun _=>rfl) az rfl ?_
 intro bt bS cU d8
 let bB:Res:=.row bt bS 3 1 (hD KL.encI ai)
 have ci:sW w U ab [aW,ao,.blk ae 47 B0,bB,B1] cU:=d8
 refine ZJ (j:=4) (enc:=KL.encI) (xs:=am) (ys:=[aa.Time]) (zs:=ah) rfl rfl rfl rfl rfl zn wDF rfl rfl rfl rfl rfl rfl ci rfl rfl rfl (ci.srcR (j:=0) rfl (by decide) (wAD (f:=KL.encI) (sz:=1) (fun _=>rfl) [aa.Time])) (fun _=>rfl) (fun _=>rfl) ay rfl ?_
 intro bu bT cV d9
 have eb:sW w U ab [aW,ao,.blk ae 47 B0,bB,.row bu bT 3 1 (hD KL.encI ah)] cV:=d9
 refine oA Z Z (oA Z Z (zk (zV ?_)))
 cases aI
 exact zG ⟨rfl,⟨ab,bt,bS,bu,bT,ax,rfl,rfl,aq,au,an,(zO _),(eb.pick [3,4] _ (by decide) rfl)⟩⟩
 refine zq (pv:=[(0,jV aa.Time)]) (zs:=[jV 0]) (cs:=[jV aa.Time]) Z Z Z Z Z (wAL Z wAg) zF zB zo Z Z Z Z Z aG ?_
 intro cW df ee
 let aO:Res:=.row (some ⟨df,0,none⟩) 1 3 1 (hD KL.encI [aa.Time])
 have ef:sW w U ab [aO,.blk ae 47 B0,B2,B1] cW:=ee
 refine zq (pv:=[(0,jV aa.Bib)]) (zs:=[jV 0]) (cs:=[jV aa.Bib]) Z Z Z Z Z (wAL Z wAg) zF zB zo Z Z Z Z Z ef ?_
 intro cX dg eh
 let aX:Res:=.row (some ⟨dg,0,none⟩) 1 3 1 (hD KL.encI [aa.Bib])
 have cj:sW w U ab [aX,aO,.blk ae 47 B0,B2,B1] cX:=eh
 refine ZJ (j:=3) (enc:=KL.encI) (xs:=ak) (ys:=[aa.Bib]) (zs:=ai) rfl rfl rfl rfl rfl zn wDF rfl rfl rfl rfl rfl rfl cj rfl rfl rfl (cj.srcR (j:=0) rfl (by decide) (wAD (f:=KL.encI) (sz:=1) (fun _=>rfl) [aa.Bib])) (fun _=>rfl) (fun _=>rfl) az rfl ?_
 intro bv bU cY ej
 let bC:Res:=.row bv bU 3 1 (hD KL.encI ai)
 have cm:sW w U ab [aX,aO,.blk ae 47 B0,bC,B1] cY:=ej
 refine ZJ (j:=4) (enc:=KL.encI) (xs:=am) (ys:=[aa.Time]) (zs:=ah) rfl rfl rfl rfl rfl zn wDF rfl rfl rfl rfl rfl rfl cm rfl rfl rfl (cm.srcR (j:=1) rfl (by decide) (wAD (f:=KL.encI) (sz:=1) (fun _=>rfl) [aa.Time])) (fun _=>rfl) (fun _=>rfl) ay rfl ?_
 intro bw bV cZ ek
 have en:sW w U ab [aX,aO,.blk ae 47 B0,bC,.row bw bV 3 1 (hD KL.encI ah)] cZ:=ek
 refine oA Z Z (oA Z Z (zk (zV ?_)))
 cases aI
 exact zG ⟨rfl,⟨ab,bv,bU,bw,bV,ax,rfl,rfl,aq,au,an,(zO _),(en.pick [3,4] _ (by decide) rfl)⟩⟩
 rintro fk fz ⟨cC,aM,aR,aN,aS,di,dl,dm,dp,dq,dr,fg,eo⟩
 refine rR fL2 Z (oR Z (zj (zS Z dr Z) (congrArg (jV) eO.out)) (oM Z Z (zk ?_)))
 cases cw
 exact zG ⟨Z,⟨cC,aM,aR,aN,aS,Z,di,dl,dm,dp,dq,(cA.trans fg),eo⟩⟩
 rintro fm c3 ⟨a8,bx,bW,bz,bX,dy,bZ,dt,du,fD,dv,fh,cn⟩
 have dh:Hid (¬ ((↑(((↑p0.length:Int):Int) - 0).toNat:Int) < (↑p0.length:Int))):=zH (wBB)
 refine sR fL1 Z (oR Z (zR Z dy dv) (eN (zC (cF Z dh (ZK (ze (ze (ZB (zG (zC (zT (sR fL4 Z (oM Z bZ (oR Z (zh Z Z zg) (oR Z (Zh Z Z Z) (oA Z Z (eN (ifc cu ?_ ?_))))))))))))))))))
 intro be eQ
 refine cT Z be (sR fL1 Z (oA Z Z (eN (zJ (zc (zM ?_))))))
 cases eQ
 exact ⟨rfl,_,(zY rfl),a8,_,(cn.pick [] _ (by decide) rfl),rfl,rfl⟩
 intro be eR
 refine cF Z be (sR gBd Z (oM Z bZ ?_))
 have dz:=ct.le fh
 have dG:FnOK Try.prog a8 (.func (.func 55) #[] #[]) wKy wKz wAq:=⟨55,[],[],rfl,Try.call55,fun U1 w1 x y vs le hs ha hm=>by obtain rfl:=ha;exact wDp x w1 U1 hs  hm⟩
 refine bnK eR fun fO dA eS=>zK 0 Z Z Z Z (zI Z Z Try.call54 (zA Z (zA Z zL)) Z) cn (fun hs=>wDP p0 av aw wAq (.func (.func 55) #[] #[]) c3 a8 hs dz dG dA) (.inr Z) ?_
 rintro bG ft fL bb fE ep ⟨rfl,rfl⟩
 let aY:Res:=.row bz bX 3 1 (hD KL.encI aU)
 have co:sW w U bG [.row bx bW 3 1 (hD KL.encI aT),aY] bb:=ep
 refine oR Z (zy Z Z) (oA Z Z (eN (ifc eS ?_ ?_)))
 intro bf eT
 refine zb (nC bf.out) (sR gAt Z (oM Z dt ?_))
 have q:=co.freezeR (k:=0) (n:=aT.length) rfl (wAD (f:=KL.encI) (sz:=1) (fun _=>rfl) aT) (by decide)
 obtain ⟨bH,fG,fd,ew⟩:=q
 have eA:sW w U bH [aY] bb:=ew
 refine bnK eT fun fP dB eU=>zK 0 Z Z Z Z (zI Z Z Try.call40 (zA Z zL) Z) eA (fun hs=>wCi aT bx bW bb bH hs fd dB) (.inr Z) ?_
 rintro bI fu fM bc fH eB ⟨rfl,rfl⟩
 have cp:sW w U bI [aY] bc:=eB
 refine oA Z Z (eN (ifc eU ?_ ?_))
 intro bg eV
 refine zf (congrArg nA bg.out) (sR fL1 Z (oA Z Z (eN (zJ (zc (zM ?_))))))
 cases eV
 exact ⟨rfl,_,(zY rfl),bI,_,(cp.pick [] _ (by decide) rfl),rfl,rfl⟩
 intro bg eW
 refine zb (congrArg nA (nB.2 bg.out)) (sR gBd Z (oM Z du ?_))
 have q:=cp.freezeR (k:=0) (n:=aU.length) rfl (wAD (f:=KL.encI) (sz:=1) (fun _=>rfl) aU) (by decide)
 obtain ⟨bJ,fI,fe,eC⟩:=q
 have eD:sW w U bJ [] bc:=eC
 refine bnK eW fun fQ dC eX=>zK 0 Z Z Z Z (zI Z Z Try.call56 (zA Z zL) Z) eD (fun hs=>wDA aU bz bX bc bJ hs fe dC) (.inr Z) ?_
 rintro ba fw fN c4 fJ eE ⟨rfl,rfl⟩
 have cq:sW w U ba [] c4:=eE
 refine oR Z (zy Z Z) (oA Z Z (eN (ifc eX ?_ ?_)))
 intro bh eY
 refine zb (nC bh.out) (ZC (zV (zG (sR fL1 Z (oA Z Z (eN (zJ ?_)))))))
 cases eY
 exact ⟨Z,_,(zY Z),ba,_,cq,Z,Z⟩
 intro bh eZ
 refine zf (nF (bh.out)) (sR fL1 Z (oA Z Z (eN (zJ (zc (zM ?_))))))
 cases eZ
 exact ⟨Z,_,(zY Z),ba,_,cq,Z,Z⟩
 intro bf fb
 refine zf (nF (bf.out)) (sR fL1 Z (oA Z Z (eN (zJ (zc (zM ?_))))))
 cases fb
 exact ⟨rfl,_,(zY rfl),bG,_,(co.pick [] _ (by decide) rfl),rfl,rfl⟩
end Go.Proofs.Ytnbcoenjobdplaa
