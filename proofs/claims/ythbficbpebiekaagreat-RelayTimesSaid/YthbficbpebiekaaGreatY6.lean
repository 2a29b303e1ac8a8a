import Derived.Test.YthbficbpebiekaaGreatY5
set_option linter.all false
open Option.some renaming inj->nA
open Go.Value renaming bool->nB
open Bool renaming eq_false_iff->nD
open List renaming flatMap->nE
open Prod.mk renaming injEq->nG
open Nat renaming blt->nH,le_of_ble_eq_true->nI
namespace Go.Proofs.YthbficbpebiekaaGreat
open Go.KL
set_option maxHeartbeats 4000000
theorem Z {α:Type} {a:α}:a=a:=rfl
section
variable {r:Option Nat} {N:Nat} {P:Program} {l:List Oper} {Q:wDf} {D:List Deferred} {ks:List Nat} {σ:Env} {w:World} {i d j e:Nat} {s:Sch} {o:Oper} {b:Bool} {x:Operand} {v:Value} {p:Prop} {inst:Decidable p} {K:List Deferred->Env->World->Prop} {c1 c2:Code}
abbrev jV (n:Int):Value:=.int .i64 n
abbrev SW (w:World) (X:List Res) (U U':PHeap) (L:List Res) (w':World):Prop:=St ⟨w,X,U⟩ U' L w'
abbrev sW (w:World) (U U':PHeap) (L:List Res) (w':World):Prop:=St ⟨w,[],U⟩ U' L w'
abbrev St0 (w:World) (U:PHeap) (L:List Res):Prop:=St ⟨w,L,U⟩ U L w
theorem ifc {α:Type} {G p:Prop} {inst:Decidable p} {a b r:α} (h:@ite α p inst a b=r) (h1:Hid p->a=r->G) (h2:Hid (¬ p)->b=r->G):G:=by
 by_cases c:p
 · rw [if_pos c] at h;exact h1 ⟨c⟩ h
 · rw [if_neg c] at h;exact h2 ⟨c⟩ h
theorem bnK {α β:Type} {G:Prop} {o:Option α} {f:α->Option β} {r:β} (h:o.bind f=some r) (k:∀ x,o=some x->f x=some r->G):G:=by
 obtain ⟨x,h1,h2⟩:=bnd h
 exact k x h1 h2
theorem oR (h:(l[i]?,o.dst,nH d N,wanted l σ o)=(some o,some d,true,true)) (hr:∀ {w'},Runs P σ w' o v w') (k:OKS N P l Q D ks s (upd σ d v) w):OKS N P l Q D ks (.fl i s) σ w:=by
 simp only [nG] at h;exact OKS.r h.1 h.2.1 h.2.2.1 h.2.2.2 (fun _=>hr) k
theorem oL (h:(l[i]?,o.dst,nH d N,wanted l σ o,wSj (kOf ks i))=(some o,some d,true,true,false)) (hr:wHD P σ w o v) (k:OKS N P l Q D ks s (upd σ d v) w):OKS N P l Q D ks (.fl i s) σ w:=by
 simp only [nG] at h;exact OKS.m h.1 h.2.1 h.2.2.1 h.2.2.2.1 hr h.2.2.2.2 k
theorem oM (h:(l[i]?,o.dst,nH d N,wanted l σ o,o.op)=(some o,some d,true,true,.move x)) (hx:ev σ x=v) (k:OKS N P l Q D ks s (upd σ d v) w):OKS N P l Q D ks (.fl i s) σ w:=by
 simp only [nG] at h;exact OKS.rm h.1 h.2.1 h.2.2.1 h.2.2.2.1 h.2.2.2.2 hx k
theorem oA (h:(l[i]?,o.dst,nH d N,wanted l σ o,o.op)=(some o,some d,true,true,.assign x)) (hx:ev σ x=v) (k:OKS N P l Q D ks s (upd σ d v) w):OKS N P l Q D ks (.fl i s) σ w:=by
 simp only [nG] at h;exact OKS.ra h.1 h.2.1 h.2.2.1 h.2.2.2.1 h.2.2.2.2 hx k
theorem oF (h:(l[i]?,o.dst,nH d N,o.guard,(l[j]?).bind (·.dst),σ e,false == b)=(some o,some d,true,some (j,b),some e,.bool (decide p),false)) (c:Hid (¬ p)) (k:OKS N P l Q D ks s (upd σ d undef) w):OKS N P l Q D ks (.fl i s) σ w:=by
 simp only [nG] at h;exact OKS.p h.1 h.2.1 h.2.2.1 (wHL h.2.2.2.1 h.2.2.2.2.1 (h.2.2.2.2.2.1.trans (wSi c.out)) h.2.2.2.2.2.2) k
theorem oT (h:(l[i]?,o.dst,nH d N,o.guard,(l[j]?).bind (·.dst),σ e,true == b)=(some o,some d,true,some (j,b),some e,.bool (decide p),false)) (c:Hid p) (k:OKS N P l Q D ks s (upd σ d undef) w):OKS N P l Q D ks (.fl i s) σ w:=by
 simp only [nG] at h;exact OKS.p h.1 h.2.1 h.2.2.1 (wHL h.2.2.2.1 h.2.2.2.2.1 (h.2.2.2.2.2.1.trans (wSh c.out)) h.2.2.2.2.2.2) k
theorem oN {b2:Bool} (h:(l[i]?,o.dst,nH d N,o.guard,(l[j]?).bind (·.dst),σ e,b2 == b)=(some o,some d,true,some (j,b),some e,.bool b2,false)) (k:OKS N P l Q D ks s (upd σ d undef) w):OKS N P l Q D ks (.fl i s) σ w:=by
 simp only [nG] at h;exact OKS.p h.1 h.2.1 h.2.2.1 (wHL h.2.2.2.1 h.2.2.2.2.1 h.2.2.2.2.2.1 h.2.2.2.2.2.2) k
theorem nC {a b:Bool} (h:a=b):nB (!a)=nB (!b):=h ▸ rfl
theorem nF {a:Bool} (h:¬ a=true):nB (!a)=nB (!false):=nC (nD.2 h)
theorem wT (h:(o.guard,(l[j]?).bind (·.dst),σ e)=(some (j,true),some e,.bool (decide p))) (c:Hid p):wanted l σ o=true:=by
 simp only [nG] at h;exact wJB h.1 h.2.1 (h.2.2.trans (wSh c.out))
theorem wF (h:(o.guard,(l[j]?).bind (·.dst),σ e)=(some (j,false),some e,.bool (decide p))) (c:Hid (¬ p)):wanted l σ o=true:=by
 simp only [nG] at h;exact wJB h.1 h.2.1 (h.2.2.trans (wSi c.out))
theorem rU (h:(l[i]?,o.dst,nH d N)=(some o,some d,true)) (hw:wanted l σ o=true) (hr:∀ {w'},Runs P σ w' o v w') (k:OKS N P l Q D ks s (upd σ d v) w):OKS N P l Q D ks (.fl i s) σ w:=by
 simp only [nG] at h;exact OKS.r h.1 h.2.1 h.2.2 hw (fun _=>hr) k
theorem sR {id:Nat} (s:Sch) (hs:inOrder 0 s l.length=true) (h:OKS N P l (wFc (fun D σ w=>CK r N P c2 Q D σ w) Q) D [] s σ w):CK r N P (.seq (.region id l.toArray false) c2) Q D σ w:=CK.seq (CK.reg s hs h)
theorem rR {id:Nat} (s:Sch) (hs:inOrder 0 s l.length=true) (h:OKS N P l Q D [] s σ w):CK r N P (.region id l.toArray false) Q D σ w:=CK.reg s hs h
theorem eN (h:K D σ w):OKS N P l (wFc K Q) D ks .nil σ w:=OKS.e (wIx h)
theorem cT (hz:ev σ x=.bool (decide p)) (c:Hid p) (h:CK r N P c1 Q D σ w):CK r N P (.cond x c1 c2) Q D σ w:=CK.condT (hz.trans (wSh c.out)) h
theorem cF (hz:ev σ x=.bool (decide p)) (c:Hid (¬ p)) (h:CK r N P c2 Q D σ w):CK r N P (.cond x c1 c2) Q D σ w:=CK.condF (hz.trans (wSi c.out)) h
theorem kN (h:K D σ w):CK r N P .skip (wFc K Q) D σ w:=CK.skip (wIx h)
end
def fL1:Sch:=.fl 0 (.nil)
def fL2:Sch:=.fl 0 (.fl 1 (.nil))
def fL3:Sch:=.fl 0 (.fl 1 (.fl 2 (.nil)))
def fL4:Sch:=.fl 0 (.fl 1 (.fl 2 (.fl 3 (.nil))))
def fL5:Sch:=.fl 0 (.fl 1 (.fl 2 (.fl 3 (.fl 4 (.nil)))))
def fL6:Sch:=.fl 0 (.fl 1 (.fl 2 (.fl 3 (.fl 4 (.fl 5 (.nil))))))
def fL7:Sch:=.fl 0 (.fl 1 (.fl 2 (.fl 3 (.fl 4 (.fl 5 (.fl 6 (.nil)))))))
def fL8:Sch:=.fl 0 (.fl 1 (.fl 2 (.fl 3 (.fl 4 (.fl 5 (.fl 6 (.fl 7 (.nil))))))))
def fL9:Sch:=.fl 0 (.fl 1 (.fl 2 (.fl 3 (.fl 4 (.fl 5 (.fl 6 (.fl 7 (.fl 8 (.nil)))))))))
def fL10:Sch:=.fl 0 (.fl 1 (.fl 2 (.fl 3 (.fl 4 (.fl 5 (.fl 6 (.fl 7 (.fl 8 (.fl 9 (.nil))))))))))
def fL11:Sch:=.fl 0 (.fl 1 (.fl 2 (.fl 3 (.fl 4 (.fl 5 (.fl 6 (.fl 7 (.fl 8 (.fl 9 (.fl 10 (.nil)))))))))))
def fL12:Sch:=.fl 0 (.fl 1 (.fl 2 (.fl 3 (.fl 4 (.fl 5 (.fl 6 (.fl 7 (.fl 8 (.fl 9 (.fl 10 (.fl 11 (.nil))))))))))))
def fL13:Sch:=.fl 0 (.fl 1 (.fl 2 (.fl 3 (.fl 4 (.fl 5 (.fl 6 (.fl 7 (.fl 8 (.fl 9 (.fl 10 (.fl 11 (.fl 12 (.nil)))))))))))))
def fL15:Sch:=.fl 0 (.fl 1 (.fl 2 (.fl 3 (.fl 4 (.fl 5 (.fl 6 (.fl 7 (.fl 8 (.fl 9 (.fl 10 (.fl 11 (.fl 12 (.fl 13 (.fl 14 (.nil)))))))))))))))
def fL16:Sch:=.fl 0 (.fl 1 (.fl 2 (.fl 3 (.fl 4 (.fl 5 (.fl 6 (.fl 7 (.fl 8 (.fl 9 (.fl 10 (.fl 11 (.fl 12 (.fl 13 (.fl 14 (.fl 15 (.nil))))))))))))))))
def fL22:Sch:=.fl 0 (.fl 1 (.fl 2 (.fl 3 (.fl 4 (.fl 5 (.fl 6 (.fl 7 (.fl 8 (.fl 9 (.fl 10 (.fl 11 (.fl 12 (.fl 13 (.fl 14 (.fl 15 (.fl 16 (.fl 17 (.fl 18 (.fl 19 (.fl 20 (.fl 21 (.nil))))))))))))))))))))))
def fL24:Sch:=.fl 0 (.fl 1 (.fl 2 (.fl 3 (.fl 4 (.fl 5 (.fl 6 (.fl 7 (.fl 8 (.fl 9 (.fl 10 (.fl 11 (.fl 12 (.fl 13 (.fl 14 (.fl 15 (.fl 16 (.fl 17 (.fl 18 (.fl 19 (.fl 20 (.fl 21 (.fl 22 (.fl 23 (.nil))))))))))))))))))))))))
def fL28:Sch:=.fl 0 (.fl 1 (.fl 2 (.fl 3 (.fl 4 (.fl 5 (.fl 6 (.fl 7 (.fl 8 (.fl 9 (.fl 10 (.fl 11 (.fl 12 (.fl 13 (.fl 14 (.fl 15 (.fl 16 (.fl 17 (.fl 18 (.fl 19 (.fl 20 (.fl 21 (.fl 22 (.fl 23 (.fl 24 (.fl 25 (.fl 26 (.fl 27 (.nil))))))))))))))))))))))))))))
def fL31:Sch:=.fl 0 (.fl 1 (.fl 2 (.fl 3 (.fl 4 (.fl 5 (.fl 6 (.fl 7 (.fl 8 (.fl 9 (.fl 10 (.fl 11 (.fl 12 (.fl 13 (.fl 14 (.fl 15 (.fl 16 (.fl 17 (.fl 18 (.fl 19 (.fl 20 (.fl 21 (.fl 22 (.fl 23 (.fl 24 (.fl 25 (.fl 26 (.fl 27 (.fl 28 (.fl 29 (.fl 30 (.nil)))))))))))))))))))))))))))))))
def fL33:Sch:=.fl 0 (.fl 1 (.fl 2 (.fl 3 (.fl 4 (.fl 5 (.fl 6 (.fl 7 (.fl 8 (.fl 9 (.fl 10 (.fl 11 (.fl 12 (.fl 13 (.fl 14 (.fl 15 (.fl 16 (.fl 17 (.fl 18 (.fl 19 (.fl 20 (.fl 21 (.fl 22 (.fl 23 (.fl 24 (.fl 25 (.fl 26 (.fl 27 (.fl 28 (.fl 29 (.fl 30 (.fl 31 (.fl 32 (.nil)))))))))))))))))))))))))))))))))
def wEK (s:Sch):Sch:=.fl 0 (.fl 1 (.fl 2 (s)))
def wLY (s:Sch):Sch:=.fl 0 (.fl 1 (.fl 2 (.fl 3 (s))))
def wIQ (s:Sch):Sch:=.fl 0 (.fl 1 (.fl 2 (.fl 3 (.fl 4 (s)))))
def wGH (s:Sch):Sch:=.fl 0 (.fl 1 (.fl 2 (.fl 3 (.fl 4 (.fl 5 (s))))))
def wQT (s:Sch):Sch:=.fl 0 (.fl 1 (.fl 2 (.fl 3 (.fl 4 (.fl 5 (.fl 6 (s)))))))
def wSO (s:Sch):Sch:=.fl 0 (.fl 1 (.fl 2 (.fl 3 (.fl 4 (.fl 5 (.fl 6 (.fl 7 (s))))))))
def wQU (s:Sch):Sch:=.fl 0 (.fl 1 (.fl 2 (.fl 3 (.fl 4 (.fl 5 (.fl 6 (.fl 7 (.fl 8 (s)))))))))
def wTf (s:Sch):Sch:=.fl 0 (.fl 1 (.fl 2 (.fl 3 (.fl 4 (.fl 5 (.fl 6 (.fl 7 (.fl 8 (.fl 9 (s))))))))))
def wQv (s:Sch):Sch:=.fl 0 (.fl 1 (.fl 2 (.fl 3 (.fl 4 (.fl 5 (.fl 6 (.fl 7 (.fl 8 (.fl 9 (.fl 10 (s)))))))))))
def wTg (s:Sch):Sch:=.fl 0 (.fl 1 (.fl 2 (.fl 3 (.fl 4 (.fl 5 (.fl 6 (.fl 7 (.fl 8 (.fl 9 (.fl 10 (.fl 11 (.fl 12 (s)))))))))))))
def wQw (s:Sch):Sch:=.fl 0 (.fl 1 (.fl 2 (.fl 3 (.fl 4 (.fl 5 (.fl 6 (.fl 7 (.fl 8 (.fl 9 (.fl 10 (.fl 11 (.fl 12 (.fl 13 (.fl 14 (s)))))))))))))))
def wTh (s:Sch):Sch:=.fl 0 (.fl 1 (.fl 2 (.fl 3 (.fl 4 (.fl 5 (.fl 6 (.fl 7 (.fl 8 (.fl 9 (.fl 10 (.fl 11 (.fl 12 (.fl 13 (.fl 14 (.fl 15 (.fl 16 (s)))))))))))))))))
def wTi (s:Sch):Sch:=.fl 0 (.fl 1 (.fl 2 (.fl 3 (.fl 4 (.fl 5 (.fl 6 (.fl 7 (.fl 8 (.fl 9 (.fl 10 (.fl 11 (.fl 12 (.fl 13 (.fl 14 (.fl 15 (.fl 16 (.fl 17 (s))))))))))))))))))
def wTj (s:Sch):Sch:=.fl 1 (.fl 2 (.fl 3 (s)))
def wQV (s:Sch):Sch:=.fl 2 (.fl 3 (.fl 4 (s)))
def wGo (s:Sch):Sch:=.fl 2 (.fl 3 (.fl 4 (.fl 5 (.fl 6 (s)))))
def wSP (s:Sch):Sch:=.fl 3 (.fl 4 (.fl 5 (s)))
def fC3_6 (s:Sch):Sch:=.fl 3 (.fl 4 (.fl 5 (.fl 6 (s))))
def wTk (s:Sch):Sch:=.fl 3 (.fl 4 (.fl 5 (.fl 6 (.fl 7 (s)))))
def wTl (s:Sch):Sch:=.fl 3 (.fl 4 (.fl 5 (.fl 6 (.fl 7 (.fl 8 (.fl 9 (s)))))))
def fC4_7 (s:Sch):Sch:=.fl 4 (.fl 5 (.fl 6 (.fl 7 (s))))
def wTm (s:Sch):Sch:=.fl 4 (.fl 5 (.fl 6 (.fl 7 (.fl 8 (.fl 9 (.fl 10 (s)))))))
def wQx (s:Sch):Sch:=.fl 4 (.fl 5 (.fl 6 (.fl 7 (.fl 8 (.fl 9 (.fl 10 (.fl 11 (.fl 12 (.fl 13 (s))))))))))
def wTn (s:Sch):Sch:=.fl 5 (.fl 6 (.fl 7 (.fl 8 (.fl 9 (.fl 10 (.fl 11 (.fl 12 (.fl 13 (.fl 14 (.fl 15 (.fl 16 (.fl 17 (.fl 18 (.fl 19 (.fl 20 (.fl 21 (s)))))))))))))))))
def wTo (s:Sch):Sch:=.fl 5 (.fl 6 (.fl 7 (.fl 8 (.fl 9 (.fl 10 (.fl 11 (.fl 12 (.fl 13 (.fl 14 (.fl 15 (.fl 16 (.fl 17 (.fl 18 (.fl 19 (.fl 20 (.fl 21 (.fl 22 (.fl 23 (.fl 24 (.fl 25 (.fl 26 (.fl 27 (.fl 28 (.fl 29 (.fl 30 (.fl 31 (.fl 32 (.fl 33 (.fl 34 (.fl 35 (.fl 36 (.fl 37 (.fl 38 (.fl 39 (.fl 40 (s))))))))))))))))))))))))))))))))))))
def wSQ (s:Sch):Sch:=.fl 7 (.fl 8 (.fl 9 (s)))
def wTp (s:Sch):Sch:=.fl 7 (.fl 8 (.fl 9 (.fl 10 (s))))
def wQy (s:Sch):Sch:=.fl 8 (.fl 9 (.fl 10 (s)))
def wSR (s:Sch):Sch:=.fl 11 (.fl 12 (.fl 13 (.fl 14 (.fl 15 (.fl 16 (.fl 17 (s)))))))
def wSS (s:Sch):Sch:=.fl 11 (.fl 12 (.fl 13 (.fl 14 (.fl 15 (.fl 16 (.fl 17 (.fl 18 (.fl 19 (.fl 20 (.fl 21 (s)))))))))))
def wST (s:Sch):Sch:=.fl 12 (.fl 13 (.fl 14 (s)))
def wPZ (s:Sch):Sch:=.fl 12 (.fl 13 (.fl 14 (.fl 15 (s))))
def wSU (s:Sch):Sch:=.fl 14 (.fl 15 (.fl 16 (s)))
def wSV (s:Sch):Sch:=.fl 16 (.fl 17 (.fl 18 (.fl 19 (.fl 20 (.fl 21 (.fl 22 (s)))))))
def wSW (s:Sch):Sch:=.fl 17 (.fl 18 (.fl 19 (.fl 20 (s))))
def wSX (s:Sch):Sch:=.fl 22 (.fl 23 (.fl 24 (.fl 25 (s))))
theorem zA:type_of% @Runs.fa:=@Runs.fa
theorem zB:type_of% @CK.seq:=@CK.seq
theorem zC:type_of% @wNL:=@wNL
theorem zD:type_of% @nI:=@nI
theorem zE:type_of% @Tryz.runUnderlying22:=@Tryz.runUnderlying22
theorem zF:type_of% @wIx:=@wIx
theorem zG:type_of% @Hid.mk:=@Hid.mk
theorem zH:type_of% @wNM:=@wNM
theorem zI:type_of% @Tryz.sizeOf3:=@Tryz.sizeOf3
theorem zJ:type_of% @wJB:=@wJB
theorem zK:type_of% @wLa:=@wLa
theorem zL:type_of% @CK.block:=@CK.block
theorem zM:type_of% @CK.ret:=@CK.ret
theorem zN:type_of% @Runs.len:=@Runs.len
theorem zO:type_of% @Tryz.sizeOf22:=@Tryz.sizeOf22
theorem zP:type_of% @Tryz.isAgg3:=@Tryz.isAgg3
theorem zQ:type_of% @OKS.callH:=@OKS.callH
theorem zR:type_of% @Enters.mk:=@Enters.mk
theorem zS:type_of% @Runs.lss:=@Runs.lss
theorem zU:type_of% @Runs.addw:=@Runs.addw
theorem zV:type_of% @Tryz.runUnderlying39:=@Tryz.runUnderlying39
theorem zW:type_of% @wNK:=@wNK
theorem zX:type_of% @Tryz.runUnderlying34:=@Tryz.runUnderlying34
theorem zY:type_of% @Tryz.runUnderlying27:=@Tryz.runUnderlying27
theorem zZ:type_of% @PHeap.Le.refl:=@PHeap.Le.refl
theorem zd:type_of% @Tryz.isAgg22:=@Tryz.isAgg22
theorem ze:type_of% @wQW:=@wQW
theorem zf:type_of% @wHL:=@wHL
theorem zg:type_of% @wLZ:=@wLZ
theorem zh:type_of% @Runs.pickF:=@Runs.pickF
theorem zi:type_of% @Runs.pickT:=@Runs.pickT
theorem zj:type_of% @OKS.e:=@OKS.e
theorem zk:type_of% @Tryz.runUnderlying160:=@Tryz.runUnderlying160
theorem zl:type_of% @Tryz.runUnderlying127:=@Tryz.runUnderlying127
theorem zm:type_of% @Tryz.runUnderlying24:=@Tryz.runUnderlying24
theorem zn:type_of% @Tryz.runUnderlying25:=@Tryz.runUnderlying25
theorem zo:type_of% @CK.condF:=@CK.condF
theorem zp:type_of% @CK.condT:=@CK.condT
theorem zq:type_of% @OKS.alloc:=@OKS.alloc
theorem zr:type_of% @wIy:=@wIy
theorem zt:type_of% @res1:=@res1
theorem zu:type_of% @OKS.r:=@OKS.r
theorem zw:type_of% @wSi:=@wSi
theorem zx:type_of% @Runs.iaN:=@Runs.iaN
theorem zy:type_of% @Tryz.runUnderlying32:=@Tryz.runUnderlying32
theorem zz:type_of% @Tryz.sizeOf127:=@Tryz.sizeOf127
theorem ZA:type_of% @OKS.p:=@OKS.p
theorem ZB:type_of% @Tryz.runUnderlying130:=@Tryz.runUnderlying130
theorem ZC:type_of% @Tryz.runUnderlying128:=@Tryz.runUnderlying128
theorem ZD:type_of% @Runs.to:=@Runs.to
theorem ZE:type_of% @OKS.st:=@OKS.st
theorem ZF:type_of% @Tryz.runUnderlying158:=@Tryz.runUnderlying158
theorem ZG:type_of% @CK.exit:=@CK.exit
theorem ZH:type_of% @Tryz.sizeOf27:=@Tryz.sizeOf27
theorem ZI:type_of% @Tryz.runUnderlying125:=@Tryz.runUnderlying125
theorem ZJ:type_of% @Tryz.runUnderlying31:=@Tryz.runUnderlying31
theorem ZK:type_of% @Runs.ext:=@Runs.ext
theorem ZL:type_of% @Tryz.sizeOf130:=@Tryz.sizeOf130
theorem ZM:type_of% @OKS.rm:=@OKS.rm
theorem ZN:type_of% @OKS.m:=@OKS.m
theorem ZO:type_of% @Tryz.runUnderlying131:=@Tryz.runUnderlying131
theorem ZP:type_of% @OKS.buildSlice:=@OKS.buildSlice
theorem ZQ:type_of% @Runs.iaI:=@Runs.iaI
theorem ZR:type_of% @Tryz.sizeOf32:=@Tryz.sizeOf32
theorem ZS:type_of% @Tryz.runUnderlying161:=@Tryz.runUnderlying161
theorem ZT:type_of% @Tryz.sizeOf158:=@Tryz.sizeOf158
theorem ZU:type_of% @Tryz.sizeOf160:=@Tryz.sizeOf160
theorem ZV:type_of% @Runs.neq:=@Runs.neq
theorem ZW:type_of% @CK.skip:=@CK.skip
theorem ZX:type_of% @Tryz.sizeOf24:=@Tryz.sizeOf24
theorem ZY:type_of% @Tryz.isAgg32:=@Tryz.isAgg32
theorem Za:type_of% @Runs.notT:=@Runs.notT
theorem Zb:type_of% @Tryz.sizeOf25:=@Tryz.sizeOf25
theorem Zc:type_of% @Tryz.isAgg158:=@Tryz.isAgg158
theorem Zd:type_of% @Tryz.isAgg27:=@Tryz.isAgg27
theorem Ze:type_of% @OKS.box:=@OKS.box
theorem Zf:type_of% @Tryz.underlying22:=@Tryz.underlying22
theorem Zg:type_of% @Tryz.isAgg25:=@Tryz.isAgg25
theorem Zh:type_of% @Runs.build:=@Runs.build
theorem Zi:type_of% @Tryz.zeroValue127:=@Tryz.zeroValue127
theorem Zj:type_of% @OKS.px:=@OKS.px
theorem Zk:type_of% @Tryz.runUnderlying246:=@Tryz.runUnderlying246
theorem Zl:type_of% @Tryz.sizeOf34:=@Tryz.sizeOf34
theorem Zm:type_of% @Tryz.sizeOf128:=@Tryz.sizeOf128
theorem Zn:type_of% @Runs.subw:=@Runs.subw
theorem Zo:type_of% @Tryz.sizeOf125:=@Tryz.sizeOf125
theorem Zp:type_of% @Tryz.sizeOf161:=@Tryz.sizeOf161
theorem Zq:type_of% @Tryz.zeroValue130:=@Tryz.zeroValue130
theorem Zr:type_of% @Tryz.isAgg128:=@Tryz.isAgg128
theorem Zs:type_of% @Tryz.sizeOf31:=@Tryz.sizeOf31
theorem Zt:type_of% @Tryz.mixed:=@Tryz.mixed
theorem Zu:type_of% @Tryz.zeroValue3:=@Tryz.zeroValue3
theorem Zv:type_of% @CK.anyOrd:=@CK.anyOrd
theorem Zw:type_of% @Tryz.isAgg125:=@Tryz.isAgg125
theorem Zx:type_of% @Tryz.sizeOf133:=@Tryz.sizeOf133
theorem Zy:type_of% @Tryz.isAgg34:=@Tryz.isAgg34
theorem Zz:type_of% @Tryz.zeroValue27:=@Tryz.zeroValue27
theorem yA:type_of% @Tryz.zeroValue34:=@Tryz.zeroValue34
theorem yB:type_of% @Tryz.call95:=@Tryz.call95
theorem yC:type_of% @OKS.append:=@OKS.append
theorem yD:type_of% @Tryz.isAgg127:=@Tryz.isAgg127
theorem yE:type_of% @Tryz.sizeOf39:=@Tryz.sizeOf39
theorem yF:type_of% @Runs.gtr:=@Runs.gtr
theorem yG:type_of% @wSh:=@wSh
theorem yH:type_of% @Tryz.sizeOf172:=@Tryz.sizeOf172
theorem yI:type_of% @Runs.eql:=@Runs.eql
theorem yJ:type_of% @Tryz.sizeOf45:=@Tryz.sizeOf45
theorem yK:type_of% @CK.forN:=@CK.forN
theorem yL:type_of% @Tryz.sizeOf131:=@Tryz.sizeOf131
theorem yM:type_of% @Tryz.runUnderlying45:=@Tryz.runUnderlying45
theorem yN:type_of% @Tryz.runUnderlying48:=@Tryz.runUnderlying48
theorem yO:type_of% @Tryz.zeroValue172:=@Tryz.zeroValue172
theorem yP:type_of% @OKS.appendR:=@OKS.appendR
theorem yQ:type_of% @Tryz.call86:=@Tryz.call86
theorem yR:type_of% @Tryz.isAgg130:=@Tryz.isAgg130
theorem yS:type_of% @Tryz.sizeOf36:=@Tryz.sizeOf36
theorem yT:type_of% @Tryz.isAgg36:=@Tryz.isAgg36
theorem yU:type_of% @Tryz.zeroValue133:=@Tryz.zeroValue133
theorem yV:type_of% @CK.iter:=@CK.iter
theorem yW:type_of% @Tryz.underlying39:=@Tryz.underlying39
theorem yX:type_of% @Tryz.isAgg131:=@Tryz.isAgg131
theorem yY:type_of% @Tryz.zeroValue22:=@Tryz.zeroValue22
theorem yZ:type_of% @Tryz.zeroValue45:=@Tryz.zeroValue45
theorem ya:type_of% @Tryz.isAgg24:=@Tryz.isAgg24
theorem yb:type_of% @Runs.nilp:=@Runs.nilp
theorem yc:type_of% @Tryz.zeroValue264:=@Tryz.zeroValue264
theorem yd:type_of% @OKS.both:=@OKS.both
theorem ye:type_of% @Tryz.sizeOf48:=@Tryz.sizeOf48
end Go.Proofs.YthbficbpebiekaaGreat
namespace Go.Proofs.YthbficbpebiekaaGreat
open Go.KL
set_option maxHeartbeats 4000000
theorem wFV (p0:wAA) (pA0_0_0:Option Addr) (pc0_0_0:Nat) (pA0_2:Option Addr) (pc0_2:Nat) (w:World) (U:PHeap) (hS:St0 w U []) (ha0:Sl U 1 pA0_0_0 pc0_0_0 p0.Rules.Classes.length (nE KL.encI p0.Rules.Classes)) (ha1:SlR U wCS pA0_2 pc0_2 p0.Teams) {r:Bool} (hm:wBu p0=some r):Gv Tryz.prog 9 [.agg #[.slice pA0_0_0 p0.Rules.Classes.length pc0_0_0,jV p0.Rules.Each,jV p0.Rules.Laps,jV p0.Rules.Spare,jV p0.Rules.Loop,jV p0.Rules.Unused,jV p0.Start,.slice pA0_2 p0.Teams.length pc0_2]] w (wCj w [] U (fun U_ L_ v=>v=.bool r/\L_=[])):=by
 unfold wBu at hm
 refine Gv.of Tryz.func9 Z Tryz.ntmps9 Tryz.results9 Z (sR (.fx 0 (.fl 1 (.nil)) .stop) Z ?_)
 let B0:List Value:=[.slice pA0_0_0 p0.Rules.Classes.length pc0_0_0,jV p0.Rules.Each,jV p0.Rules.Laps,jV p0.Rules.Spare,jV p0.Rules.Loop,jV p0.Rules.Unused,jV p0.Start,.slice pA0_2 p0.Teams.length pc0_2]
 refine Ze (cs:=B0) rfl rfl rfl rfl rfl rfl (by rfl) hS ?_
 intro W1 b2 hS3
 refine oA Z Z (eN (zB (sR fL11 Z (oR Z (zA Z Z zY Z ZX) (oR Z (zA Z Z zm Z zO) (oL Z (hS3.ldB (j:=0) Z Z Z zd (v:=.slice pA0_0_0 p0.Rules.Classes.length pc0_0_0) Z) (oR Z (zN Z Z zE) (oR Z (yF Z Z Z) (oM Z Z ?_)))))))))
 by_cases c5:6 < (↑p0.Rules.Classes.length:Int)
 ·have hm6:=hm;rw [if_pos c5] at hm6;replace c5:=zG c5
  refine oT Z c5 (oT Z c5 (oT Z c5 (oT Z c5 (oR Z (zi Z (yG c5.out) Z) (eN (zp Z (sR fL1 Z (oA Z Z (eN (zM (zC ?_)))))))))))
  have hE:=nA hm6;first | subst r | cases hE
  exact ⟨rfl,_,(zt rfl),U,_,(hS3.pick [] _ (by decide) rfl),rfl,rfl⟩
 ·have hm7:=hm;rw [if_neg c5] at hm7;replace c5:=zG c5
  refine rU Z (wF Z c5) (zA Z Z zY Z Zb) (ZN Z Z Z (wF Z c5) (hS3.ldB (j:=0) Z Z Z Zg (v:=.slice pA0_2 p0.Teams.length pc0_2) Z) Z (rU Z (wF Z c5) (zN Z Z zn) (rU Z (wF Z c5) (yF Z Z Z) (oR Z (zh Z (zw c5.out) Z) (eN (ifc hm7 ?_ ?_))))))
  ·intro c8 hm9
   refine cT Z c8 (sR fL1 Z (oA Z Z (eN (zM (zC ?_)))))
   have hE:=nA hm9;first | subst r | cases hE
   exact ⟨rfl,_,(zt rfl),U,_,(hS3.pick [] _ (by decide) rfl),rfl,rfl⟩
  ·intro c8 hm10
   refine cF Z c8 (kN (zB (sR fL4 Z (oR Z (zA Z Z zY Z Zb) (oL Z (hS3.ldB (j:=0) Z Z Z Zg (v:=.slice pA0_2 p0.Teams.length pc0_2) Z) (oR Z (zN Z Z zn) (oM Z Z (eN (zL ?_)))))))))
   have q:=wCM hm10
   obtain ⟨r13,hX14⟩:=q
   have q:=wCL hX14
   obtain ⟨hle15,hf16⟩:=q
   replace hle15:=zG hle15
   refine yK (fun k12 _ σ_ w_=>∃ (U_:PHeap),σ_ 23=jV (↑k12:Int)/\σ_ 21=.slice pA0_2 p0.Teams.length pc0_2/\σ_ 22=jV (↑p0.Teams.length:Int)/\PHeap.Le U U_/\sW w U U_ [.blk b2 27 B0] w_) hf16 ?_ ?_ ?_
   ·exact ⟨U,Z,Z,Z,(zZ _),hS3⟩
   ·rintro k12 ⟨⟩ xx19 σ17 W18 hk22 ⟨U24,fi23,f27,f28,le25,hS26⟩ hx20 hb21
    try dsimp only at hx20
    have c29:Hid ((↑k12:Int) < (↑p0.Teams.length:Int)):=zG (wAy hk22)
    replace hk22:=zG hk22
    have hi30:Hid (w64 ((↑k12:Int) + 1)=(↑(k12 + 1):Int)):=zG (by have h1:=hle15.out;have h2:=c29.out;rw [wAK] <;> omega)
    refine sR fL1 Z (oR Z (zS Z fi23 f28) (eN (zB (cT Z c29 (kN (zB (zL (sR (.fl 0 (.fl 1 (.fx 2 (.fx 3 (.nil) .stop) .stop))) Z (bnK hx20 fun x31 h32 hm33=>?_)))))))))
    have h34:=ha1.le le25
    have q:=h34.el (wAE h32)
    obtain ⟨b35,off36,vs39,hA37,hC38,hr40⟩:=q
    obtain ⟨pA41,pc42,pA43,pc44,rfl,h45,h46⟩:=hr40
    replace hC38:Cl U24 b35 (off36 + k12 * 3) [jV x31.Bib,.slice pA41 x31.Classes.length pc42,.slice pA43 x31.Legs.length pc44]:=hC38
    refine oR Z (zx Z f27 hA37 fi23 zn zz (wAc h32)) (oL Z (hS26.ldCA (f:=0) hC38 Z Z yD zz (us:=[jV x31.Bib,.slice pA41 x31.Classes.length pc42,.slice pA43 x31.Legs.length pc44]) Z Z) ?_)
    let B1:List Value:=[jV 0,.slice none 0 0,.slice none 0 0]
    refine zq (cs:=B1) Z Z Z Z Z Zi Z hS26 ?_
    intro W47 b48 hS49
    let B2:List Value:=[jV x31.Bib,.slice pA41 x31.Classes.length pc42,.slice pA43 x31.Legs.length pc44]
    refine ZE (j:=0) (vs:=B2) Z Z Z Z hS49 Z Z Z Z zz (zD Z) Z Z Z ?_
    intro W51 hS52
    have hS53:sW w U U24 [.blk b48 127 B2,.blk b2 27 B0] W51:=hS52
    refine eN (zB (sR fL10 Z (oR Z (zA Z Z zl Z zO) (oL Z (hS53.ldB (j:=0) Z Z Z zd (v:=.slice pA41 x31.Classes.length pc42) Z) (oR Z (zN Z Z zE) (oR Z (yF Z Z Z) (oM Z Z (ifc hm33 ?_ ?_))))))))
    ·intro c54 hm55
     refine oT Z c54 (oT Z c54 (oT Z c54 (oT Z c54 (oR Z (zi Z (yG c54.out) Z) (eN (zp Z (sR fL1 Z (oA Z Z (eN (zM (zC (zK (zC ?_)))))))))))))
     have q:=wAF hm55
     obtain ⟨v56,hm57,e58⟩:=q
     obtain rfl:=wBd hm10 hX14 (hb21 v56 e58)
     refine zC (zK (zC ?_))
     have hE:=nA hm57;first | subst r | cases hE
     exact ⟨rfl,_,(zt rfl),U24,_,(hS53.pick [] _ (by decide) rfl),rfl,rfl⟩
    ·intro c54 hm59
     refine rU Z (wF Z c54) (zA Z Z zl Z Zo) (ZN Z Z Z (wF Z c54) (hS53.ldB (j:=0) Z Z Z Zw (v:=.slice pA43 x31.Legs.length pc44) Z) Z (rU Z (wF Z c54) (zN Z Z ZI) (rU Z (wF Z c54) (yF Z Z Z) (oR Z (zh Z (zw c54.out) Z) (eN (ifc hm59 ?_ ?_))))))
     ·intro c60 hm61
      refine cT Z c60 (sR fL1 Z (oA Z Z (eN (zM (zC (zK (zC ?_)))))))
      have q:=wAF hm61
      obtain ⟨v62,hm63,e64⟩:=q
      obtain rfl:=wBd hm10 hX14 (hb21 v62 e64)
      refine zC (zK (zC ?_))
      have hE:=nA hm63;first | subst r | cases hE
      exact ⟨rfl,_,(zt rfl),U24,_,(hS53.pick [] _ (by decide) rfl),rfl,rfl⟩
     ·intro c60 hm65
      refine cF Z c60 (kN (sR fL4 Z (oR Z (zA Z Z zl Z Zo) (oL Z (hS53.ldB (j:=0) Z Z Z Zw (v:=.slice pA43 x31.Legs.length pc44) Z) (oR Z (zN Z Z ZI) (oM Z Z (eN (zL ?_))))))))
      have q:=wCM hm65
      obtain ⟨r68,hX69⟩:=q
      have q:=wCL hX69
      obtain ⟨hle70,hf71⟩:=q
      replace hle70:=zG hle70
      refine yK (fun k67 _ σ_ w_=>∃ (U_:PHeap),σ_ 40=jV (↑k67:Int)/\σ_ 21=.slice pA0_2 p0.Teams.length pc0_2/\σ_ 22=jV (↑p0.Teams.length:Int)/\σ_ 23=jV (↑k12:Int)/\σ_ 38=.slice pA43 x31.Legs.length pc44/\σ_ 39=jV (↑x31.Legs.length:Int)/\PHeap.Le U24 U_/\sW w U U_ [.blk b48 127 B2,.blk b2 27 B0] w_) hf71 ?_ ?_ ?_
      ·exact ⟨U24,Z,f27,f28,fi23,Z,Z,(zZ _),hS53⟩
      ·rintro k67 ⟨⟩ xx74 σ72 W73 hk77 ⟨U79,fi78,f82,f83,f84,f85,f86,le80,hS81⟩ hx75 hb76
       try dsimp only at hx75
       have c87:Hid ((↑k67:Int) < (↑x31.Legs.length:Int)):=zG (wAy hk77)
       replace hk77:=zG hk77
       have hi88:Hid (w64 ((↑k67:Int) + 1)=(↑(k67 + 1):Int)):=zG (by have h1:=hle70.out;have h2:=c87.out;rw [wAK] <;> omega)
       refine sR fL1 Z (oR Z (zS Z fi78 f86) (eN (zB (cT Z c87 (kN (zB (zL (sR (.fl 0 (.fl 1 (.fx 2 (.fx 3 (.nil) .stop) .stop))) Z (bnK hx75 fun x89 h90 hm91=>?_)))))))))
       have h92:=h46.le le80
       have q:=h92.el (wAE h90)
       obtain ⟨b93,off94,vs97,hA95,hC96,hr98⟩:=q
       obtain ⟨pA99,pc100,pA101,pc102,rfl,h103,h104⟩:=hr98
       replace hC96:Cl U79 b93 (off94 + k67 * 3) [jV x89.Skier,.slice pA99 x89.Loops.length pc100,.slice pA101 x89.Bouts.length pc102]:=hC96
       refine oR Z (zx Z f85 hA95 fi78 ZI ZL (wAc h90)) (oL Z (hS81.ldCA (f:=0) hC96 Z Z yR ZL (us:=[jV x89.Skier,.slice pA99 x89.Loops.length pc100,.slice pA101 x89.Bouts.length pc102]) Z Z) (zq (cs:=B1) Z Z Z Z Z Zq Z hS81 ?_))
       intro W105 b106 hS107
       let B3:List Value:=[jV x89.Skier,.slice pA99 x89.Loops.length pc100,.slice pA101 x89.Bouts.length pc102]
       refine ZE (j:=0) (vs:=B3) Z Z Z Z hS107 Z Z Z Z ZL (zD Z) Z Z Z ?_
       intro W109 hS110
       have hS111:sW w U U79 [.blk b106 130 B3,.blk b48 127 B2,.blk b2 27 B0] W109:=hS110
       refine eN (zB (sR fL10 Z (oR Z (zA Z Z ZB Z zO) (oL Z (hS111.ldB (j:=0) Z Z Z zd (v:=.slice pA99 x89.Loops.length pc100) Z) (oR Z (zN Z Z zE) (oR Z (yF Z Z Z) (oM Z Z (ifc hm91 ?_ ?_))))))))
       ·intro c112 hm113
        refine oT Z c112 (oT Z c112 (oT Z c112 (oT Z c112 (oR Z (zi Z (yG c112.out) Z) (eN (zp Z (sR fL1 Z (oA Z Z (eN (zM (zC (zK (zC ?_)))))))))))))
        have q:=wAF hm113
        obtain ⟨v114,hm115,e116⟩:=q
        obtain rfl:=wBd hm65 hX69 (hb76 v114 e116)
        refine zC (zK (zK (zC ?_)))
        have q:=wAF hm115
        obtain ⟨v117,hm118,e119⟩:=q
        obtain rfl:=wBd hm10 hX14 (hb21 v117 e119)
        refine zC (zK (zC ?_))
        have hE:=nA hm118;first | subst r | cases hE
        exact ⟨rfl,_,(zt rfl),U79,_,(hS111.pick [] _ (by decide) rfl),rfl,rfl⟩
       ·intro c112 hm120
        refine rU Z (wF Z c112) (zA Z Z ZB Z Zm) (ZN Z Z Z (wF Z c112) (hS111.ldB (j:=0) Z Z Z Zr (v:=.slice pA101 x89.Bouts.length pc102) Z) Z (rU Z (wF Z c112) (zN Z Z ZC) (rU Z (wF Z c112) (yF Z Z Z) (oR Z (zh Z (zw c112.out) Z) (eN (ifc hm120 ?_ ?_))))))
        ·intro c121 hm122
         refine cT Z c121 (sR fL1 Z (oA Z Z (eN (zM (zC (zK (zC ?_)))))))
         have q:=wAF hm122
         obtain ⟨v123,hm124,e125⟩:=q
         obtain rfl:=wBd hm65 hX69 (hb76 v123 e125)
         refine zC (zK (zK (zC ?_)))
         have q:=wAF hm124
         obtain ⟨v126,hm127,e128⟩:=q
         obtain rfl:=wBd hm10 hX14 (hb21 v126 e128)
         refine zC (zK (zC ?_))
         have hE:=nA hm127;first | subst r | cases hE
         exact ⟨rfl,_,(zt rfl),U79,_,(hS111.pick [] _ (by decide) rfl),rfl,rfl⟩
        ·intro c121 hm129
         refine cF Z c121 (kN (sR fL4 Z (oR Z (zA Z Z ZB Z Zm) (oL Z (hS111.ldB (j:=0) Z Z Z Zr (v:=.slice pA101 x89.Bouts.length pc102) Z) (oR Z (zN Z Z ZC) (oM Z Z (eN (zL ?_))))))))
         have q:=wCM hm129
         obtain ⟨r132,hX133⟩:=q
         have q:=wCL hX133
         obtain ⟨hle134,hf135⟩:=q
         replace hle134:=zG hle134
         refine yK (fun k131 _ σ_ w_=>∃ (U_:PHeap),σ_ 57=jV (↑k131:Int)/\σ_ 21=.slice pA0_2 p0.Teams.length pc0_2/\σ_ 22=jV (↑p0.Teams.length:Int)/\σ_ 23=jV (↑k12:Int)/\σ_ 38=.slice pA43 x31.Legs.length pc44/\σ_ 39=jV (↑x31.Legs.length:Int)/\σ_ 40=jV (↑k67:Int)/\σ_ 55=.slice pA101 x89.Bouts.length pc102/\σ_ 56=jV (↑x89.Bouts.length:Int)/\PHeap.Le U79 U_/\sW w U U_ [.blk b106 130 B3,.blk b48 127 B2,.blk b2 27 B0] w_) hf135 ?_ ?_ ?_
         ·exact ⟨U79,Z,f82,f83,f84,f85,f86,fi78,Z,Z,(zZ _),hS111⟩
         ·rintro k131 ⟨⟩ xx138 σ136 W137 hk141 ⟨U143,fi142,f146,f147,f148,f149,f150,f151,f152,f153,le144,hS145⟩ hx139 hb140
          try dsimp only at hx139
          have c154:Hid ((↑k131:Int) < (↑x89.Bouts.length:Int)):=zG (wAy hk141)
          replace hk141:=zG hk141
          have hi155:Hid (w64 ((↑k131:Int) + 1)=(↑(k131 + 1):Int)):=zG (by have h1:=hle134.out;have h2:=c154.out;rw [wAK] <;> omega)
          refine sR fL1 Z (oR Z (zS Z fi142 f153) (eN (zB (cT Z c154 (kN (zB (zL (sR fL3 Z (bnK hx139 fun x156 h157 hm158=>?_)))))))))
          have h159:=h104.le le144
          have q:=h159.el (wAE h157)
          obtain ⟨b160,off161,vs164,hA162,hC163,hr165⟩:=q
          obtain ⟨pA166,pc167,rfl,h168⟩:=hr165
          replace hC163:Cl U143 b160 (off161 + k131 * 1) [.slice pA166 x156.length pc167]:=hC163
          refine oR Z (zx Z f152 hA162 fi142 ZC yL (wAc h157)) (oL Z (hS145.ldC (f:=0) hC163 (v:=.slice pA166 x156.length pc167) Z Z yX Z) (oA Z Z (eN (sR fL3 Z (oM Z Z (oR Z (zN Z Z ZO) (oR Z (yF Z Z Z) (eN (ifc hm158 ?_ ?_)))))))))
          ·intro c169 hm170
           refine cT Z c169 (sR fL1 Z (oA Z Z (eN (zM (zK (zC ?_))))))
           have q:=wAF hm170
           obtain ⟨v171,hm172,e173⟩:=q
           obtain rfl:=wBd hm129 hX133 (hb140 v171 e173)
           refine zC (zK (zK (zC ?_)))
           have q:=wAF hm172
           obtain ⟨v174,hm175,e176⟩:=q
           obtain rfl:=wBd hm65 hX69 (hb76 v174 e176)
           refine zC (zK (zK (zC ?_)))
           have q:=wAF hm175
           obtain ⟨v177,hm178,e179⟩:=q
           obtain rfl:=wBd hm10 hX14 (hb21 v177 e179)
           refine zC (zK (zC ?_))
           have hE:=nA hm178;first | subst r | cases hE
           exact ⟨rfl,_,(zt rfl),U143,_,(hS145.pick [] _ (by decide) rfl),rfl,rfl⟩
          ·intro c169 hm180
           refine cF Z c169 (ZW (zg (zF (rR fL2 Z (oR Z (ZD (zU Z fi142 Z) (congrArg (jV) hi155.out)) (oM Z Z (zj ?_)))))))
           obtain rfl:=nA hm180
           exact zF ⟨Z,_,Z,⟨U143,Z,f146,f147,f148,f149,f150,f151,f152,f153,le144,hS145⟩⟩
         ·rintro ⟨⟩ σ181 W182 ⟨U185,fi184,f188,f189,f190,f191,f192,f193,f194,f195,le186,hS187⟩ hb183
          have hm196:=wCv hm129 hX133 hb183
          try dsimp only at hm196
          have c197:Hid (¬ ((↑(((↑x89.Bouts.length:Int):Int) - 0).toNat:Int) < (↑x89.Bouts.length:Int))):=zG (wAa)
          refine sR fL1 Z (oR Z (zS Z fi184 f195) (eN (zB (cF Z c197 (ZG (zW (zW (zr (zg (zF (rR fL2 Z (oR Z (ZD (zU Z f193 Z) (congrArg (jV) hi88.out)) (oM Z Z (zj ?_))))))))))))))
          obtain rfl:=nA hm196
          exact zF ⟨rfl,_,rfl,⟨U185,rfl,f188,f189,f190,f191,f192,(le80.trans le186),(hS187.pick [1,2] _ (by decide) rfl)⟩⟩
      ·rintro ⟨⟩ σ198 W199 ⟨U202,fi201,f205,f206,f207,f208,f209,le203,hS204⟩ hb200
       have hm210:=wCv hm65 hX69 hb200
       try dsimp only at hm210
       have c211:Hid (¬ ((↑(((↑x31.Legs.length:Int):Int) - 0).toNat:Int) < (↑x31.Legs.length:Int))):=zG (wAa)
       refine sR fL1 Z (oR Z (zS Z fi201 f209) (eN (zB (cF Z c211 (ZG (zW (zW (zr (zg (zF (rR fL2 Z (oR Z (ZD (zU Z f207 Z) (congrArg (jV) hi30.out)) (oM Z Z (zj ?_))))))))))))))
       obtain rfl:=nA hm210
       exact zF ⟨rfl,_,rfl,⟨U202,rfl,f205,f206,(le25.trans le203),(hS204.pick [1] _ (by decide) rfl)⟩⟩
   ·rintro ⟨⟩ σ212 W213 ⟨U216,fi215,f219,f220,le217,hS218⟩ hb214
    have hm221:=wCv hm10 hX14 hb214
    try dsimp only at hm221
    have c222:Hid (¬ ((↑(((↑p0.Teams.length:Int):Int) - 0).toNat:Int) < (↑p0.Teams.length:Int))):=zG (wAa)
    refine sR fL1 Z (oR Z (zS Z fi215 f220) (eN (zB (cF Z c222 (ZG (zW (zW (zr (zF (sR fL1 Z (oA Z Z (eN (zM ?_)))))))))))))
    have hE:=nA hm221;first | subst r | cases hE
    exact ⟨rfl,_,(zt rfl),U216,_,(hS218.pick [] _ (by decide) rfl),rfl,rfl⟩
theorem wDT (w:World) (U:PHeap) (hS:St0 w U []) {r:Bool} (hm:wCm=some r):Gv Tryz.prog 10 [] w (wCj w [] U (fun U_ L_ v=>v=.bool r/\L_=[])):=by
 cases hm
 refine (xr10 w).mono ?_
 rintro v w' ⟨rfl,k⟩
 exact ⟨U,[],hS.grow k,Z,Z⟩
theorem wBz (p0:List Int) (pA0:Option Addr) (pc0:Nat) (w:World) (U:PHeap) (hS:St0 w U []) (ha0:Sl U 1 pA0 pc0 p0.length (nE KL.encI p0)) {r:(List Int)} (hm:wAs p0=some r):Gv Tryz.prog 34 [.slice pA0 p0.length pc0] w (wCj w [] U (fun U_ L_ v=>∃ (A0:Option Addr) (c0:Nat),v=.slice A0 r.length c0/\L_=[.row A0 c0 3 1 (nE KL.encI r)])):=by
 unfold wAs at hm
 refine Gv.of Tryz.func34 Z Tryz.ntmps34 Tryz.results34 Z (sR fL1 Z (oA Z Z (eN (sR (.fl 0 (.fx 1 (.fl 2 (.nil)) .stop)) Z (oM Z Z ?_)))))
 have hS1:=hS.nilrow 3 1
 have hS3:sW w U U [.row none 0 3 1 (nE KL.encI ([]:List Int))] w:=hS1
 refine bnK hm fun x4 h5 hm6=>yC (j:=0) (enc:=KL.encI) (xs:=([]:List Int)) (ys:=p0) (zs:=x4) Z Z Z Z Z Zf wEm Z Z Z Z Z Z hS3 Z Z Z (hS3.srcS ha0) (fun _=>Z) (fun _=>Z) h5 Z ?_
 intro A7 c8 W9 hS10
 have hS11:sW w U U [.row A7 c8 3 1 (nE KL.encI x4)] W9:=hS10
 refine oA Z Z (eN (zM ?_))
 have hE:=nA hm6;first | subst r | cases hE
 exact ⟨Z,_,(zt Z),U,_,hS11,A7,c8,Z,Z⟩
theorem wBg (p0:wAB) (pA0_0:Option Addr) (pc0_0:Nat) (w:World) (U:PHeap) (hS:St0 w U []) (ha0:Sl U 1 pA0_0 pc0_0 p0.Classes.length (nE KL.encI p0.Classes)) {r:wAB} (hm:wAr p0=some r):Gv Tryz.prog 83 [.agg #[.slice pA0_0 p0.Classes.length pc0_0,jV p0.Each,jV p0.Laps,jV p0.Spare,jV p0.Loop,jV p0.Unused]] w (wCj w [] U (fun U_ L_ v=>∃ (A00:Option Addr) (c00:Nat),v=.agg #[.slice A00 r.Classes.length c00,jV r.Each,jV r.Laps,jV r.Spare,jV r.Loop,jV r.Unused]/\L_=[.row A00 c00 3 1 (nE KL.encI r.Classes)])):=by
 unfold wAr at hm
 refine Gv.of Tryz.func83 Z Tryz.ntmps83 Tryz.results83 Z (sR (.fx 0 (.fx 1 (.nil) .stop) .stop) Z ?_)
 let B0:List Value:=[.slice pA0_0 p0.Classes.length pc0_0,jV p0.Each,jV p0.Laps,jV p0.Spare,jV p0.Loop,jV p0.Unused]
 refine Ze (cs:=B0) rfl rfl rfl rfl rfl rfl (by rfl) hS ?_
 intro W1 b2 hS3
 let B1:List Value:=[.slice none 0 0,jV 0,jV 0,jV 0,jV 0,jV 0]
 refine zq (cs:=B1) Z Z Z Z Z Tryz.zeroValue24 Z hS3 ?_
 intro W5 b6 hS7
 refine eN (sR (.fl 0 (.fl 1 (.fx 2 (.fl 3 (.fx 4 (.nil) .stop)) .stop))) Z (oR Z (zA Z Z zm Z zO) (oL Z (hS7.ldB (j:=1) Z Z Z zd (v:=.slice pA0_0 p0.Classes.length pc0_0) Z) (bnK hm fun x9 h10 hm11=>zQ 0 Z Z Z Z (zR Z Z Tryz.call34 (zH Z ze) Z) hS7 (fun hs=>wBz p0.Classes pA0_0 pc0_0 W5 U hs ha0 h10) (.inr Z) ?_))))
 rintro U12 L13 v14 W15 le16 hS17 ⟨A18,c19,rfl,rfl⟩
 let B2:Res:=.row A18 c19 3 1 (nE KL.encI x9)
 have hS21:sW w U U12 [B2,.blk b6 24 B1,.blk b2 24 B0] W15:=hS17
 refine oR Z (zA Z Z zm Z zO) (ZE (j:=2) (vs:=[.slice A18 x9.length c19]) Z Z Z Z hS21 Z Z Z Z zO (zD Z) Z Z Z ?_)
 intro W22 hS23
 let B3:List Value:=[.slice A18 x9.length c19,jV p0.Each,jV p0.Laps,jV p0.Spare,jV p0.Loop,jV p0.Unused]
 have hS24:sW w U U12 [B2,.blk b6 24 B1,.blk b2 24 B3] W22:=hS23
 refine eN (sR (.fl 0 (.fx 1 (.nil) .stop)) Z (oL Z (hS24.ldBA (j:=2) Z Z Z ya ZX (vs:=B3) Z Z) (ZE (j:=1) (vs:=B3) Z Z Z Z hS24 Z Z Z Z ZX (zD Z) Z Z Z ?_)))
 intro W25 hS26
 have hS27:sW w U U12 [B2,.blk b6 24 B3,.blk b2 24 B3] W25:=hS26
 refine eN (zM ?_)
 cases hm11
 exact ⟨rfl,_,(wFI (v:=.agg B3.toArray) ⟨⟨_,rfl,(wDO ya ZX (hS27.blkAt (k:=1) rfl) (vs:=B3) rfl rfl)⟩,trivial⟩),U12,_,(hS27.pick [0] _ (by decide) rfl),A18,c19,rfl,rfl⟩
theorem wEU (p0:List Bool) (pA0:Option Addr) (pc0:Nat) (w:World) (U:PHeap) (hS:St0 w U []) (ha0:Sl U 1 pA0 pc0 p0.length (nE KL.encT p0)) {r:(List Bool)} (hm:wBS p0=some r):Gv Tryz.prog 168 [.slice pA0 p0.length pc0] w (wCj w [] U (fun U_ L_ v=>∃ (A0:Option Addr) (c0:Nat),v=.slice A0 r.length c0/\L_=[.row A0 c0 4 1 (nE KL.encT r)])):=by
 unfold wBS at hm
 refine Gv.of Tryz.func168 Z Tryz.ntmps168 Tryz.results168 Z (sR fL1 Z (oA Z Z (eN (sR (.fl 0 (.fx 1 (.fl 2 (.nil)) .stop)) Z (oM Z Z ?_)))))
 have hS1:=hS.nilrow 4 1
 have hS3:sW w U U [.row none 0 4 1 (nE KL.encT ([]:List Bool))] w:=hS1
 refine bnK hm fun x4 h5 hm6=>yC (j:=0) (enc:=KL.encT) (xs:=([]:List Bool)) (ys:=p0) (zs:=x4) Z Z Z Z Z Tryz.underlying131 info4 Z Z Z Z Z Z hS3 Z Z Z (hS3.srcS ha0) (fun _=>Z) (fun _=>Z) h5 Z ?_
 intro A7 c8 W9 hS10
 have hS11:sW w U U [.row A7 c8 4 1 (nE KL.encT x4)] W9:=hS10
 refine oA Z Z (eN (zM ?_))
 have hE:=nA hm6;first | subst r | cases hE
 exact ⟨Z,_,(zt Z),U,_,hS11,A7,c8,Z,Z⟩
theorem wDg (p0:List (List Bool)) (pA0:Option Addr) (pc0:Nat) (w:World) (U:PHeap) (hS:St0 w U []) (ha0:SlR U wFU pA0 pc0 p0) {r:(List (List Bool))} (hm:wBH p0=some r):Gv Tryz.prog 84 [.slice pA0 p0.length pc0] w (wCj w [] U (fun U_ L_ v=>∃ (A0:Option Addr) (c0:Nat) (cs0:List Value),v=.slice A0 r.length c0/\L_=[.row A0 c0 131 1 cs0]/\RlL U_ wFU r cs0)):=by
 unfold wBH at hm
 refine Gv.of Tryz.func84 Z Tryz.ntmps84 Tryz.results84 Z (sR fL1 Z (oA Z Z (eN (sR fL1 Z (oA Z Z (eN (zB (sR fL3 Z (oM Z Z (oR Z (zN Z Z ZC) (oM Z Z (eN (zL (bnK hm fun y27 hf24 hm23=>?_))))))))))))))
 have q:=wAu hf24
 obtain ⟨hle25,hf26⟩:=q
 replace hle25:=zG hle25
 refine CK.forN' (fun k22 l17 σ_ w_=>∃ (U_:PHeap) (A18:Option Addr) (c19:Nat) (cs21:List Value),σ_ 8=jV (↑k22:Int)/\σ_ 3=.slice A18 l17.length c19/\σ_ 6=.slice pA0 p0.length pc0/\σ_ 7=jV (↑p0.length:Int)/\PHeap.Le U U_/\sW w U U_ [.row A18 c19 131 1 cs21] w_/\RlL U_ wFU l17 cs21) hf26 ?_ ?_ ?_
 ·have hS28:=hS.nilrow 131 1
  exact ⟨U,none,0,[],Z,Z,Z,Z,(zZ _),hS28,RlL.nil⟩
 ·rintro k22 l17 xx32 σ30 W31 hk35 ⟨U37,A18,c19,cs21,fi36,f40,f41,f42,le38,hS39,h43⟩ hx33
  have c44:Hid ((↑k22:Int) < (↑p0.length:Int)):=zG (wAy hk35)
  replace hk35:=zG hk35
  have hi45:Hid (w64 ((↑k22:Int) + 1)=(↑(k22 + 1):Int)):=zG (by have h1:=hle25.out;have h2:=c44.out;rw [wAK] <;> omega)
  refine sR fL1 Z (oR Z (zS Z fi36 f42) (eN (zB (cT Z c44 (kN (zB (zL (sR fL3 Z (bnK hx33 fun x46 h47 hm48=>?_)))))))))
  have h49:=ha0.le le38
  have q:=h49.el (wAE h47)
  obtain ⟨b50,off51,vs54,hA52,hC53,hr55⟩:=q
  obtain ⟨pA56,pc57,rfl,h58⟩:=hr55
  replace hC53:Cl U37 b50 (off51 + k22 * 1) [.slice pA56 x46.length pc57]:=hC53
  refine oR Z (zx Z f41 hA52 fi36 ZC yL (wAc h47)) (oL Z (hS39.ldC (f:=0) hC53 (v:=.slice pA56 x46.length pc57) Z Z yX Z) (oA Z Z (eN (rR (.fl 0 (.fl 1 (.fx 2 (.fx 3 (.fx 4 (.fl 5 (.nil)) .stop) .stop) .stop))) Z (oM Z f40 (oM Z Z (bnK hm48 fun x59 h60 hm61=>zQ 0 Z Z Z Z (zR Z Z Tryz.call168 (zH Z ze) Z) hS39 (fun hs=>wEU x46 pA56 pc57 W31 U37 hs h58 h60) (.inr Z) ?_)))))))
  rintro U62 L63 v64 W65 le66 hS67 ⟨A68,c69,rfl,rfl⟩
  let B0:Res:=.row A18 c19 131 1 cs21
  have hS71:sW w U U62 [.row A68 c69 4 1 (nE KL.encT x59),B0] W65:=hS67
  have q:=hS71.freezeR (k:=0) (n:=x59.length) rfl (wAN (f:=KL.encT) (sz:=1) (fun _=>rfl) x59) (by decide)
  obtain ⟨U75,le76,hs77,hS78⟩:=q
  have hS79:sW w U U75 [B0] W65:=hS78
  let B1:List Value:=[.slice A68 x59.length c69]
  refine ZP (pv:=[(0,.slice A68 x59.length c69)]) (zs:=[.slice none 0 0]) (cs:=B1) Z Z Z Z Z (wAI Z wAU) ZC yL Tryz.zeroValue131 Z Z Z Z Z hS79 ?_
  intro W72 b73 hS74
  have hr81:RlL U75 wFU [x59] B1:=(RlL.cons (R:=wFU) (x:=x59) (vs:=B1) ⟨A68,c69,rfl,hs77⟩ RlL.nil)
  let B2:Res:=.row (some ⟨b73,0,none⟩) 1 131 1 B1
  have hS82:sW w U U75 [B2,B0] W72:=hS74
  refine bnK hm61 fun x83 h84 hm85=>?_
  have h92:=h43.le le66
  have h93:=h92.le le76
  refine yP (R:=wFU) (j:=1) (xs:=l17) (ys:=[x59]) (zs:=x83) rfl rfl rfl rfl rfl Tryz.underlying128 wSA rfl rfl rfl rfl rfl rfl rfl hS82 rfl rfl rfl h93 hr81 (hS82.srcR (j:=0) rfl (by decide) (RlL.len hr81)) h84 rfl ?_
  intro A86 c87 cs88 W89 hS90 hr91
  have hS94:sW w U U75 [B2,.row A86 c87 131 1 cs88] W89:=hS90
  refine oA Z Z (zj (zg (zF (rR fL2 Z (oR Z (ZD (zU Z fi36 Z) (congrArg (jV) hi45.out)) (oM Z Z (zj ?_)))))))
  cases hm85
  exact zF ⟨rfl,⟨U75,A86,c87,cs88,rfl,rfl,f41,f42,((le38.trans le66).trans le76),(hS94.pick [1] _ (by decide) rfl),hr91⟩⟩
 ·rintro σ99 W100 ⟨U110,A107,c108,c109,fi102,f113,f114,f115,le111,hS112,h116⟩
  have c117:Hid (¬ ((↑(((↑p0.length:Int):Int) - 0).toNat:Int) < (↑p0.length:Int))):=zG (wAa)
  refine sR fL1 Z (oR Z (zS Z fi102 f115) (eN (zB (cF Z c117 (ZG (zW (zW (zr (zF (sR fL2 Z (oM Z f113 (oA Z Z (eN (zM ?_))))))))))))))
  have hE:=nA hm23;first | subst r | cases hE
  exact ⟨Z,_,(zt Z),U110,_,hS112,A107,c108,c109,Z,Z,h116⟩
theorem wBq (p0:wAA) (pA0_0_0:Option Addr) (pc0_0_0:Nat) (pA0_2:Option Addr) (pc0_2:Nat) (w:World) (U:PHeap) (hS:St0 w U []) (ha0:Sl U 1 pA0_0_0 pc0_0_0 p0.Rules.Classes.length (nE KL.encI p0.Rules.Classes)) (ha1:SlR U wCS pA0_2 pc0_2 p0.Teams) {r:wAA} (hm:wBY p0=some r):Gv Tryz.prog 11 [.agg #[.slice pA0_0_0 p0.Rules.Classes.length pc0_0_0,jV p0.Rules.Each,jV p0.Rules.Laps,jV p0.Rules.Spare,jV p0.Rules.Loop,jV p0.Rules.Unused,jV p0.Start,.slice pA0_2 p0.Teams.length pc0_2]] w (wCj w [] U (fun U_ L_ v=>∃ (A000:Option Addr) (c000:Nat) (A02:Option Addr) (c02:Nat) (cs02:List Value),v=.agg #[.slice A000 r.Rules.Classes.length c000,jV r.Rules.Each,jV r.Rules.Laps,jV r.Rules.Spare,jV r.Rules.Loop,jV r.Rules.Unused,jV r.Start,.slice A02 r.Teams.length c02]/\L_=[.row A000 c000 3 1 (nE KL.encI r.Rules.Classes),.row A02 c02 127 3 cs02]/\RlL U_ wCS r.Teams cs02)):=by
 unfold wBY at hm
 refine Gv.of Tryz.func11 Z Tryz.ntmps11 Tryz.results11 Z (sR (.fx 0 (.fx 1 (.nil) .stop) .stop) Z ?_)
 let B0:List Value:=[.slice pA0_0_0 p0.Rules.Classes.length pc0_0_0,jV p0.Rules.Each,jV p0.Rules.Laps,jV p0.Rules.Spare,jV p0.Rules.Loop,jV p0.Rules.Unused,jV p0.Start,.slice pA0_2 p0.Teams.length pc0_2]
 refine Ze (cs:=B0) rfl rfl rfl rfl rfl rfl (by rfl) hS ?_
 intro W1 b2 hS3
 let B1:List Value:=[.slice none 0 0,jV 0,jV 0,jV 0,jV 0,jV 0,jV 0,.slice none 0 0]
 refine zq (cs:=B1) Z Z Z Z Z Zz Z hS3 ?_
 intro W5 b6 hS7
 refine eN ?_
 have q:=bnd hm
 obtain ⟨⟨l11,x14,x15,x16,x17,x18⟩,hx20,hm21⟩:=q
 try dsimp only at hm21
 refine CK.cut (fun σ_ w_=>∃ (U_:PHeap) (b10:Nat) (A12:Option Addr) (c13:Nat),σ_ 1=.pointer (some ⟨b2,0,none⟩)/\σ_ 2=.pointer (some ⟨b6,0,none⟩)/\σ_ 3=.pointer (some ⟨b10,0,none⟩)/\PHeap.Le U U_/\sW w U U_ [.blk b6 27 B1,.blk b2 27 B0,.blk b10 27 [.slice A12 l11.length c13,jV x14,jV x15,jV x16,jV x17,jV x18,jV p0.Start,.slice none 0 0],.row A12 c13 3 1 (nE KL.encI l11)] w_) ?_ ?_
 ·refine bnK hx20 fun x22 h23 hm42=>Zv Zt [3,1,2,3,1,3,2,0] (.fl 0 (.fl 1 (.fl 3 (.fl 4 (.fx 2 (.fl 5 (.fx 6 (.fx 7 (.nil) (.stop)) (.stop))) (.fx 6 (.fx 2 (.fl 5 (.fx 7 (.nil) (.stop))) (.stop)) (.stop))))))) (by kernel_rfl) ?_
  have hS43:=hS7.drew
  generalize hw_W44:({ W5 with drawn:=W5.drawn + 1 }:World)=W44 at hS43 ⊢
  refine oR Z (zA Z Z zY Z ZX) (oL Z (hS43.ldBA (j:=1) Z Z Z ya ZX (vs:=[.slice pA0_0_0 p0.Rules.Classes.length pc0_0_0,jV p0.Rules.Each,jV p0.Rules.Laps,jV p0.Rules.Spare,jV p0.Rules.Loop,jV p0.Rules.Unused]) Z Z) (oR Z (zA Z Z zY Z zI) (oL Z (hS43.ldB (j:=1) Z Z Z zP (v:=jV p0.Start) Z) (yd ?_ ?_))))
  ·refine zQ 0 Z Z Z Z (zR Z Z Tryz.call83 (zH Z ze) Z) hS43 (fun hs=>wBg p0.Rules pA0_0_0 pc0_0_0 W44 U hs ha0 h23) (.inr Z) ?_
   rintro U46 L47 v48 W49 le50 hS51 ⟨A52,c53,rfl,rfl⟩
   let B2:Res:=.row A52 c53 3 1 (nE KL.encI x22.Classes)
   have hS55:sW w U U46 [B2,.blk b6 27 B1,.blk b2 27 B0] W49:=hS51
   let B3:List Value:=[.slice A52 x22.Classes.length c53,jV x22.Each,jV x22.Laps,jV x22.Spare,jV x22.Loop,jV x22.Unused,jV p0.Start,.slice none 0 0]
   refine oR Z (Zh (pv:=[(0,.agg #[.slice A52 x22.Classes.length c53,jV x22.Each,jV x22.Laps,jV x22.Spare,jV x22.Loop,jV x22.Unused]),(1,jV p0.Start)]) (z:=B1) (cs:=B3) Z (wAI Z (wAI Z wAU)) Zz wMA Z Z) (zq (cs:=B1) Z Z Z Z Z Zz Z hS55 ?_)
   intro W56 b57 hS58
   refine ZE (j:=0) (vs:=B3) Z Z Z Z hS58 Z Z Z Z ZH (zD Z) Z Z Z ?_
   intro W60 hS61
   have hS62:sW w U U46 [.blk b57 27 B3,B2,.blk b6 27 B1,.blk b2 27 B0] W60:=hS61
   refine zj ?_
   cases hm42
   exact zF ⟨rfl,⟨U46,b57,A52,c53,rfl,rfl,rfl,le50,(hS62.pick [2,3,0,1] _ (by decide) rfl)⟩⟩
  ·refine zq (cs:=B1) Z Z Z Z Z Zz Z hS43 ?_
   intro W73 b74 hS75
   refine zQ 0 Z Z Z Z (zR Z Z Tryz.call83 (zH Z ze) Z) hS75 (fun hs=>wBg p0.Rules pA0_0_0 pc0_0_0 W73 U hs ha0 h23) (.inr Z) ?_
   rintro U78 L79 v80 W81 le82 hS83 ⟨A84,c85,rfl,rfl⟩
   let B4:Res:=.row A84 c85 3 1 (nE KL.encI x22.Classes)
   have hS87:sW w U U78 [B4,.blk b74 27 B1,.blk b6 27 B1,.blk b2 27 B0] W81:=hS83
   let B5:List Value:=[.slice A84 x22.Classes.length c85,jV x22.Each,jV x22.Laps,jV x22.Spare,jV x22.Loop,jV x22.Unused,jV p0.Start,.slice none 0 0]
   refine oR Z (Zh (pv:=[(0,.agg #[.slice A84 x22.Classes.length c85,jV x22.Each,jV x22.Laps,jV x22.Spare,jV x22.Loop,jV x22.Unused]),(1,jV p0.Start)]) (z:=B1) (cs:=B5) Z (wAI Z (wAI Z wAU)) Zz wMA Z Z) (ZE (j:=1) (vs:=B5) Z Z Z Z hS87 Z Z Z Z ZH (zD Z) Z Z Z ?_)
   intro W88 hS89
   have hS90:sW w U U78 [B4,.blk b74 27 B5,.blk b6 27 B1,.blk b2 27 B0] W88:=hS89
   refine zj ?_
   cases hm42
   exact zF ⟨rfl,⟨U78,b74,A84,c85,rfl,rfl,rfl,le82,(hS90.pick [2,3,1,0] _ (by decide) rfl)⟩⟩
 ·rintro σ101 W102 ⟨U103,b10,A12,c13,f106,f107,f108,le104,hS105⟩
  refine zB (sR fL4 Z (oR Z (zA Z f106 zY Z Zb) (oL Z (hS105.ldB (j:=1) Z Z Z Zg (v:=.slice pA0_2 p0.Teams.length pc0_2) Z) (oR Z (zN Z Z zn) (oM Z Z (eN (zL (bnK hm21 fun y135 hf132 hm131=>?_))))))))
  have q:=wAu hf132
  obtain ⟨hle133,hf134⟩:=q
  replace hle133:=zG hle133
  refine CK.forN' (fun k130 l125 σ_ w_=>∃ (U_:PHeap) (A126:Option Addr) (c127:Nat) (cs129:List Value),σ_ 18=jV (↑k130:Int)/\σ_ 2=.pointer (some ⟨b6,0,none⟩)/\σ_ 3=.pointer (some ⟨b10,0,none⟩)/\σ_ 16=.slice pA0_2 p0.Teams.length pc0_2/\σ_ 17=jV (↑p0.Teams.length:Int)/\PHeap.Le U103 U_/\sW w U U_ [.blk b6 27 B1,.blk b2 27 B0,.row A12 c13 3 1 (nE KL.encI l11),.row A126 c127 127 3 cs129,.blk b10 27 [.slice A12 l11.length c13,jV x14,jV x15,jV x16,jV x17,jV x18,jV p0.Start,.slice A126 l125.length c127]] w_/\RlL U_ wCS l125 cs129) hf134 ?_ ?_ ?_
  ·have hS136:=hS105.nilrow 127 3
   exact ⟨U103,none,0,[],rfl,f107,f108,rfl,rfl,(zZ _),(hS136.pick [1,2,4,0,3] _ (by decide) rfl),RlL.nil⟩
  ·rintro k130 l125 xx140 σ138 W139 hk143 ⟨U145,A126,c127,cs129,fi144,f148,f149,f150,f151,le146,hS147,h152⟩ hx141
   have c153:Hid ((↑k130:Int) < (↑p0.Teams.length:Int)):=zG (wAy hk143)
   replace hk143:=zG hk143
   have hi154:Hid (w64 ((↑k130:Int) + 1)=(↑(k130 + 1):Int)):=zG (by have h1:=hle133.out;have h2:=c153.out;rw [wAK] <;> omega)
   refine sR fL1 Z (oR Z (zS Z fi144 f151) (eN (zB (cT Z c153 (kN (zB (zL (sR (.fl 0 (.fl 1 (.fx 2 (.fx 3 (.nil) .stop) .stop))) Z (bnK hx141 fun x155 h156 hm157=>?_)))))))))
   have h158:=ha1.le le104
   have h159:=h158.le le146
   have q:=h159.el (wAE h156)
   obtain ⟨b160,off161,vs164,hA162,hC163,hr165⟩:=q
   obtain ⟨pA166,pc167,pA168,pc169,rfl,h170,h171⟩:=hr165
   replace hC163:Cl U145 b160 (off161 + k130 * 3) [jV x155.Bib,.slice pA166 x155.Classes.length pc167,.slice pA168 x155.Legs.length pc169]:=hC163
   refine oR Z (zx Z f150 hA162 fi144 zn zz (wAc h156)) (oL Z (hS147.ldCA (f:=0) hC163 Z Z yD zz (us:=[jV x155.Bib,.slice pA166 x155.Classes.length pc167,.slice pA168 x155.Legs.length pc169]) Z Z) ?_)
   let B6:List Value:=[jV 0,.slice none 0 0,.slice none 0 0]
   refine zq (cs:=B6) Z Z Z Z Z Zi Z hS147 ?_
   intro W172 b173 hS174
   let B7:List Value:=[jV x155.Bib,.slice pA166 x155.Classes.length pc167,.slice pA168 x155.Legs.length pc169]
   refine ZE (j:=0) (vs:=B7) Z Z Z Z hS174 Z Z Z Z zz (zD Z) Z Z Z ?_
   intro W176 hS177
   let B8:Res:=.blk b10 27 [.slice A12 l11.length c13,jV x14,jV x15,jV x16,jV x17,jV x18,jV p0.Start,.slice A126 l125.length c127]
   let B9:Res:=.row A12 c13 3 1 (nE KL.encI l11)
   let B10:Res:=.row A126 c127 127 3 cs129
   have hS178:sW w U U145 [.blk b173 127 B7,.blk b6 27 B1,.blk b2 27 B0,B9,B10,B8] W176:=hS177
   refine eN (bnK hm157 fun l181 hx185 hm186=>CK.cut (fun σ_ w_=>∃ (U_:PHeap) (b180:Nat) (A182:Option Addr) (c183:Nat),σ_ 2=.pointer (some ⟨b6,0,none⟩)/\σ_ 3=.pointer (some ⟨b10,0,none⟩)/\σ_ 5=.pointer (some ⟨b173,0,none⟩)/\σ_ 6=.pointer (some ⟨b180,0,none⟩)/\σ_ 16=.slice pA0_2 p0.Teams.length pc0_2/\σ_ 17=jV (↑p0.Teams.length:Int)/\σ_ 18=jV (↑k130:Int)/\PHeap.Le U145 U_/\sW w U U_ [.blk b173 127 B7,.blk b6 27 B1,.blk b2 27 B0,B9,B10,B8,.blk b180 127 [jV x155.Bib,.slice A182 l181.length c183,.slice none 0 0],.row A182 c183 3 1 (nE KL.encI l181)] w_) ?_ ?_)
   ·refine bnK hx185 fun x187 h188 hm207=>Zv Zt [3,1,3,1,2,3,2,0] (wLY (.fx 4 (.fl 5 (.fx 6 (.fx 7 (.nil) (.stop)) (.stop))) (.fx 6 (.fx 4 (.fl 5 (.fx 7 (.nil) (.stop))) (.stop)) (.stop)))) (by kernel_rfl) ?_
    have hS208:=hS178.drew
    generalize hw_W209:({ W176 with drawn:=W176.drawn + 1 }:World)=W209 at hS208 ⊢
    refine oR Z (zA Z Z zl Z zI) (oL Z (hS208.ldB (j:=0) Z Z Z zP (v:=jV x155.Bib) Z) (oR Z (zA Z Z zl Z zO) (oL Z (hS208.ldB (j:=0) Z Z Z zd (v:=.slice pA166 x155.Classes.length pc167) Z) (yd ?_ ?_))))
    ·refine zQ 0 Z Z Z Z (zR Z Z Tryz.call34 (zH Z ze) Z) hS208 (fun hs=>wBz x155.Classes pA166 pc167 W209 U145 hs h170 h188) (.inr Z) ?_
     rintro U211 L212 v213 W214 le215 hS216 ⟨A217,c218,rfl,rfl⟩
     let B11:Res:=.row A217 c218 3 1 (nE KL.encI x187)
     have hS220:sW w U U211 [B11,.blk b173 127 B7,.blk b6 27 B1,.blk b2 27 B0,B9,B10,B8] W214:=hS216
     let B12:List Value:=[jV x155.Bib,.slice A217 x187.length c218,.slice none 0 0]
     refine oR Z (Zh (pv:=[(0,jV x155.Bib),(1,.slice A217 x187.length c218)]) (z:=B6) (cs:=B12) Z (wAI Z (wAI Z wAU)) Zi wKJ Z Z) (zq (cs:=B6) Z Z Z Z Z Zi Z hS220 ?_)
     intro W221 b222 hS223
     refine ZE (j:=0) (vs:=B12) Z Z Z Z hS223 Z Z Z Z zz (zD Z) Z Z Z ?_
     intro W225 hS226
     have hS227:sW w U U211 [.blk b222 127 B12,B11,.blk b173 127 B7,.blk b6 27 B1,.blk b2 27 B0,B9,B10,B8] W225:=hS226
     refine zj ?_
     cases hm207
     exact zF ⟨rfl,⟨U211,b222,A217,c218,f148,f149,rfl,rfl,f150,f151,fi144,le215,(hS227.pick [2,3,4,5,6,7,0,1] _ (by decide) rfl)⟩⟩
    ·refine zq (cs:=B6) Z Z Z Z Z Zi Z hS208 ?_
     intro W233 b234 hS235
     refine zQ 0 Z Z Z Z (zR Z Z Tryz.call34 (zH Z ze) Z) hS235 (fun hs=>wBz x155.Classes pA166 pc167 W233 U145 hs h170 h188) (.inr Z) ?_
     rintro U238 L239 v240 W241 le242 hS243 ⟨A244,c245,rfl,rfl⟩
     let B13:Res:=.row A244 c245 3 1 (nE KL.encI x187)
     have hS247:sW w U U238 [B13,.blk b234 127 B6,.blk b173 127 B7,.blk b6 27 B1,.blk b2 27 B0,B9,B10,B8] W241:=hS243
     let B14:List Value:=[jV x155.Bib,.slice A244 x187.length c245,.slice none 0 0]
     refine oR Z (Zh (pv:=[(0,jV x155.Bib),(1,.slice A244 x187.length c245)]) (z:=B6) (cs:=B14) Z (wAI Z (wAI Z wAU)) Zi wKJ Z Z) (ZE (j:=1) (vs:=B14) Z Z Z Z hS247 Z Z Z Z zz (zD Z) Z Z Z ?_)
     intro W248 hS249
     have hS250:sW w U U238 [B13,.blk b234 127 B14,.blk b173 127 B7,.blk b6 27 B1,.blk b2 27 B0,B9,B10,B8] W248:=hS249
     refine zj ?_
     cases hm207
     exact zF ⟨rfl,⟨U238,b234,A244,c245,f148,f149,rfl,rfl,f150,f151,fi144,le242,(hS250.pick [2,3,4,5,6,7,1,0] _ (by decide) rfl)⟩⟩
   ·rintro σ256 W257 ⟨U258,b180,A182,c183,f261,f262,f263,f264,f265,f266,f267,le259,hS260⟩
    refine zB (sR fL4 Z (oR Z (zA Z f263 zl Z Zo) (oL Z (hS260.ldB (j:=0) Z Z Z Zw (v:=.slice pA168 x155.Legs.length pc169) Z) (oR Z (zN Z Z ZI) (oM Z Z (eN (zL (bnK hm186 fun y294 hf291 hm290=>?_))))))))
    have q:=wAu hf291
    obtain ⟨hle292,hf293⟩:=q
    replace hle292:=zG hle292
    refine CK.forN' (fun k289 l284 σ_ w_=>∃ (U_:PHeap) (A285:Option Addr) (c286:Nat) (cs288:List Value),σ_ 31=jV (↑k289:Int)/\σ_ 2=.pointer (some ⟨b6,0,none⟩)/\σ_ 3=.pointer (some ⟨b10,0,none⟩)/\σ_ 6=.pointer (some ⟨b180,0,none⟩)/\σ_ 16=.slice pA0_2 p0.Teams.length pc0_2/\σ_ 17=jV (↑p0.Teams.length:Int)/\σ_ 18=jV (↑k130:Int)/\σ_ 29=.slice pA168 x155.Legs.length pc169/\σ_ 30=jV (↑x155.Legs.length:Int)/\PHeap.Le U258 U_/\sW w U U_ [.blk b173 127 B7,.blk b6 27 B1,.blk b2 27 B0,.row A12 c13 3 1 (nE KL.encI l11),B10,B8,.row A182 c183 3 1 (nE KL.encI l181),.row A285 c286 130 3 cs288,.blk b180 127 [jV x155.Bib,.slice A182 l181.length c183,.slice A285 l284.length c286]] w_/\RlL U_ wFs l284 cs288) hf293 ?_ ?_ ?_
    ·have hS295:=hS260.nilrow 130 3
     exact ⟨U258,none,0,[],rfl,f261,f262,f264,f265,f266,f267,rfl,rfl,(zZ _),(hS295.pick [1,2,3,4,5,6,8,0,7] _ (by decide) rfl),RlL.nil⟩
    ·rintro k289 l284 xx299 σ297 W298 hk302 ⟨U304,A285,c286,cs288,fi303,f307,f308,f309,f310,f311,f312,f313,f314,le305,hS306,h315⟩ hx300
     have c316:Hid ((↑k289:Int) < (↑x155.Legs.length:Int)):=zG (wAy hk302)
     replace hk302:=zG hk302
     have hi317:Hid (w64 ((↑k289:Int) + 1)=(↑(k289 + 1):Int)):=zG (by have h1:=hle292.out;have h2:=c316.out;rw [wAK] <;> omega)
     refine sR fL1 Z (oR Z (zS Z fi303 f314) (eN (zB (cT Z c316 (kN (zB (zL (sR (.fl 0 (.fl 1 (.fx 2 (.fx 3 (.nil) .stop) .stop))) Z (bnK hx300 fun x318 h319 hm320=>?_)))))))))
     have h321:=h171.le le259
     have h322:=h321.le le305
     have q:=h322.el (wAE h319)
     obtain ⟨b323,off324,vs327,hA325,hC326,hr328⟩:=q
     obtain ⟨pA329,pc330,pA331,pc332,rfl,h333,h334⟩:=hr328
     replace hC326:Cl U304 b323 (off324 + k289 * 3) [jV x318.Skier,.slice pA329 x318.Loops.length pc330,.slice pA331 x318.Bouts.length pc332]:=hC326
     refine oR Z (zx Z f313 hA325 fi303 ZI ZL (wAc h319)) (oL Z (hS306.ldCA (f:=0) hC326 Z Z yR ZL (us:=[jV x318.Skier,.slice pA329 x318.Loops.length pc330,.slice pA331 x318.Bouts.length pc332]) Z Z) (zq (cs:=B6) Z Z Z Z Z Zq Z hS306 ?_))
     intro W335 b336 hS337
     let B15:List Value:=[jV x318.Skier,.slice pA329 x318.Loops.length pc330,.slice pA331 x318.Bouts.length pc332]
     refine ZE (j:=0) (vs:=B15) Z Z Z Z hS337 Z Z Z Z ZL (zD Z) Z Z Z ?_
     intro W339 hS340
     let B16:Res:=.blk b180 127 [jV x155.Bib,.slice A182 l181.length c183,.slice A285 l284.length c286]
     let B17:Res:=.row A182 c183 3 1 (nE KL.encI l181)
     let B18:Res:=.row A285 c286 130 3 cs288
     have hS341:sW w U U304 [.blk b336 130 B15,.blk b173 127 B7,.blk b6 27 B1,.blk b2 27 B0,B9,B10,B8,B17,B18,B16] W339:=hS340
     refine eN (Zv Zt [3,1,3,1,3,1,2,3,1,2,3,2,0,3,0] (wGH (.fl 7 (.fl 8 (.fx 6 (.fx 9 (.fl 10 (.fx 11 (.fx 12 (.fl 13 (.fx 14 (.nil) .stop)) .stop) .stop)) .stop) .stop)))) (by kernel_rfl) ?_)
     have hS342:=hS341.drew
     generalize hw_W343:({ W339 with drawn:=W339.drawn + 1 }:World)=W343 at hS342 ⊢
     refine oR Z (zA Z f309 zl Z Zo) (oL Z (hS342.ldB (j:=9) Z Z Z Zw (v:=.slice A285 l284.length c286) Z) (oR Z (zA Z Z ZB Z zI) (oL Z (hS342.ldB (j:=0) Z Z Z zP (v:=jV x318.Skier) Z) (oR Z (zA Z Z ZB Z zO) (oL Z (hS342.ldB (j:=0) Z Z Z zd (v:=.slice pA329 x318.Loops.length pc330) Z) (oR Z (zA Z Z ZB Z Zm) (oL Z (hS342.ldB (j:=0) Z Z Z Zr (v:=.slice pA331 x318.Bouts.length pc332) Z) (bnK hm320 fun x344 h345 hm346=>zQ 0 Z Z Z Z (zR Z Z Tryz.call34 (zH Z ze) Z) hS342 (fun hs=>wBz x318.Loops pA329 pc330 W343 U304 hs h333 h345) (.inr Z) ?_))))))))
     rintro U347 L348 v349 W350 le351 hS352 ⟨A353,c354,rfl,rfl⟩
     let B19:Res:=.row A353 c354 3 1 (nE KL.encI x344)
     have hS356:sW w U U347 [B19,.blk b336 130 B15,.blk b173 127 B7,.blk b6 27 B1,.blk b2 27 B0,B9,B10,B8,B17,B18,B16] W350:=hS352
     have h357:=h334.le le351
     refine bnK hm346 fun x358 h359 hm360=>zQ 0 Z Z Z Z (zR Z Z Tryz.call84 (zH Z ze) Z) hS356 (fun hs=>wDg x318.Bouts pA331 pc332 W350 U347 hs h357 h359) (.inr Z) ?_
     rintro U361 L362 v363 W364 le365 hS366 ⟨A367,c368,c369,rfl,rfl,h371⟩
     have hS372:sW w U U361 [.row A367 c368 131 1 c369,B19,.blk b336 130 B15,.blk b173 127 B7,.blk b6 27 B1,.blk b2 27 B0,B9,B10,B8,B17,B18,B16] W364:=hS366
     let B20:List Value:=[jV x318.Skier,.slice A353 x344.length c354,.slice A367 x358.length c368]
     refine oR Z (Zh (pv:=[(0,jV x318.Skier),(1,.slice A353 x344.length c354),(2,.slice A367 x358.length c368)]) (z:=B6) (cs:=B20) Z (wAI Z (wAI Z (wAI Z wAU))) Zq wOs Z Z) ?_
     have q:=hS372.freezeR (k:=1) (n:=x344.length) rfl (wAN (f:=KL.encI) (sz:=1) (fun _=>rfl) x344) (by decide)
     obtain ⟨U376,le377,hs378,hS379⟩:=q
     have hS380:sW w U U376 [.row A367 c368 131 1 c369,.blk b336 130 B15,.blk b173 127 B7,.blk b6 27 B1,.blk b2 27 B0,B9,B10,B8,B17,B18,B16] W364:=hS379
     have h385:=h371.le le377
     have q:=hS380.freezeRR (R:=wFU) (k:=0) rfl h385 rfl (by decide)
     obtain ⟨U381,le382,hs383,hS384⟩:=q
     have hS386:sW w U U381 [.blk b336 130 B15,.blk b173 127 B7,.blk b6 27 B1,.blk b2 27 B0,B9,B10,B8,B17,B18,B16] W364:=hS384
     refine ZP (pv:=[(0,.agg B20.toArray)]) (zs:=B6) (cs:=B20) Z Z Z Z Z (wAI Z wAU) ZI ZL Zq Z Z Z Z Z hS386 ?_
     intro W373 b374 hS375
     have h388:=hs378.le le382
     have hr389:RlL U381 wFs [(⟨x318.Skier,x344,x358⟩:wAH)] B20:=(RlL.cons (R:=wFs) (x:=(⟨x318.Skier,x344,x358⟩:wAH)) (vs:=B20) ⟨A353,c354,A367,c368,rfl,h388,hs383⟩ RlL.nil)
     let B21:Res:=.row (some ⟨b374,0,none⟩) 1 130 3 B20
     have hS390:sW w U U381 [B21,.blk b336 130 B15,.blk b173 127 B7,.blk b6 27 B1,.blk b2 27 B0,B9,B10,B8,B17,B18,B16] W373:=hS375
     refine bnK hm360 fun x391 h392 hm393=>?_
     have h400:=h315.le le351
     have h401:=h400.le le365
     have h402:=h401.le le377
     have h403:=h402.le le382
     refine yP (R:=wFs) (j:=9) (xs:=l284) (ys:=[(⟨x318.Skier,x344,x358⟩:wAH)]) (zs:=x391) rfl rfl rfl rfl rfl Tryz.underlying125 wRz rfl rfl rfl rfl rfl rfl rfl hS390 rfl rfl rfl h403 hr389 (hS390.srcR (j:=0) rfl (by decide) (RlL.len hr389)) h392 rfl ?_
     intro A394 c395 cs396 W397 hS398 hr399
     have hS404:sW w U U381 [B21,.blk b336 130 B15,.blk b173 127 B7,.blk b6 27 B1,.blk b2 27 B0,B9,B10,B8,B17,.row A394 c395 130 3 cs396,B16] W397:=hS398
     refine oR Z (zA Z f309 zl Z Zo) (ZE (j:=10) (vs:=[.slice A394 x391.length c395]) Z Z Z Z hS404 Z Z Z Z Zo (zD Z) Z Z Z ?_)
     intro W405 hS406
     have hS407:sW w U U381 [B21,.blk b336 130 B15,.blk b173 127 B7,.blk b6 27 B1,.blk b2 27 B0,B9,B10,B8,B17,.row A394 c395 130 3 cs396,.blk b180 127 [jV x155.Bib,.slice A182 l181.length c183,.slice A394 x391.length c395]] W405:=hS406
     refine zj (zg (zF (rR fL2 Z (oR Z (ZD (zU Z fi303 Z) (congrArg (jV) hi317.out)) (oM Z Z (zj ?_))))))
     cases hm393
     exact zF ⟨rfl,⟨U381,A394,c395,cs396,rfl,f307,f308,f309,f310,f311,f312,f313,f314,((((le305.trans le351).trans le365).trans le377).trans le382),(hS407.pick [2,3,4,5,6,7,8,9,10] _ (by decide) rfl),hr399⟩⟩
    ·rintro σ412 W413 ⟨U423,A420,c421,c422,fi415,f426,f427,f428,f429,f430,f431,f432,f433,le424,hS425,h434⟩
     have c435:Hid (¬ ((↑(((↑x155.Legs.length:Int):Int) - 0).toNat:Int) < (↑x155.Legs.length:Int))):=zG (wAa)
     refine sR fL1 Z (oR Z (zS Z fi415 f433) (eN (zB (cF Z c435 (ZG (zW (zW (zr (zF (rR (wEK (.fx 3 (.fx 4 (.fl 5 (.fx 6 (.nil) .stop)) .stop) .stop)) Z (oR Z (zA Z f427 zY Z Zb) (oL Z (hS425.ldB (j:=5) Z Z Z Zg (v:=.slice A126 l125.length c127) Z) ?_))))))))))))
     let B22:List Value:=[jV x155.Bib,.slice A182 l181.length c183,.slice A420 y294.length c421]
     refine oL Z (hS425.ldBA (j:=8) Z Z f428 yD zz (vs:=B22) Z Z) ?_
     have q:=hS425.freezeR (k:=6) (n:=l181.length) rfl (wAN (f:=KL.encI) (sz:=1) (fun _=>rfl) l181) (by decide)
     obtain ⟨U439,le440,hs441,hS442⟩:=q
     have hS443:sW w U U439 [.blk b173 127 B7,.blk b6 27 B1,.blk b2 27 B0,B9,B10,B8,.row A420 c421 130 3 c422,.blk b180 127 B22] W413:=hS442
     have h448:=h434.le le440
     have q:=hS443.freezeRR (R:=wFs) (k:=6) rfl h448 rfl (by decide)
     obtain ⟨U444,le445,hs446,hS447⟩:=q
     have hS449:sW w U U444 [.blk b173 127 B7,.blk b6 27 B1,.blk b2 27 B0,B9,B10,B8,.blk b180 127 B22] W413:=hS447
     refine ZP (pv:=[(0,.agg B22.toArray)]) (zs:=B6) (cs:=B22) Z Z Z Z Z (wAI Z wAU) zn zz Zi Z Z Z Z Z hS449 ?_
     intro W436 b437 hS438
     have h451:=hs441.le le445
     have hr452:RlL U444 wCS [(⟨x155.Bib,l181,y294⟩:wAC)] B22:=(RlL.cons (R:=wCS) (x:=(⟨x155.Bib,l181,y294⟩:wAC)) (vs:=B22) ⟨A182,c183,A420,c421,rfl,h451,hs446⟩ RlL.nil)
     let B23:Res:=.row (some ⟨b437,0,none⟩) 1 127 3 B22
     have hS453:sW w U U444 [B23,.blk b173 127 B7,.blk b6 27 B1,.blk b2 27 B0,B9,B10,B8,.blk b180 127 B22] W436:=hS438
     refine bnK hm290 fun x454 h455 hm456=>?_
     have h463:=h152.le le259
     have h464:=h463.le le424
     have h465:=h464.le le440
     have h466:=h465.le le445
     refine yP (R:=wCS) (j:=5) (xs:=l125) (ys:=[(⟨x155.Bib,l181,y294⟩:wAC)]) (zs:=x454) rfl rfl rfl rfl rfl Tryz.underlying25 wRy rfl rfl rfl rfl rfl rfl rfl hS453 rfl rfl rfl h466 hr452 (hS453.srcR (j:=0) rfl (by decide) (RlL.len hr452)) h455 rfl ?_
     intro A457 c458 cs459 W460 hS461 hr462
     have hS467:sW w U U444 [B23,.blk b173 127 B7,.blk b6 27 B1,.blk b2 27 B0,B9,.row A457 c458 127 3 cs459,B8,.blk b180 127 B22] W460:=hS461
     refine oR Z (zA Z f427 zY Z Zb) (ZE (j:=6) (vs:=[.slice A457 x454.length c458]) Z Z Z Z hS467 Z Z Z Z Zb (zD Z) Z Z Z ?_)
     intro W468 hS469
     have hS470:sW w U U444 [B23,.blk b173 127 B7,.blk b6 27 B1,.blk b2 27 B0,B9,.row A457 c458 127 3 cs459,.blk b10 27 [.slice A12 l11.length c13,jV x14,jV x15,jV x16,jV x17,jV x18,jV p0.Start,.slice A457 x454.length c458],.blk b180 127 B22] W468:=hS469
     refine zj (zg (zF (rR fL2 Z (oR Z (ZD (zU Z f431 Z) (congrArg (jV) hi154.out)) (oM Z Z (zj ?_))))))
     cases hm456
     exact zF ⟨rfl,⟨U444,A457,c458,cs459,rfl,f426,f427,f429,f430,((((le146.trans le259).trans le424).trans le440).trans le445),(hS470.pick [2,3,4,5,6] _ (by decide) rfl),hr462⟩⟩
  ·rintro σ475 W476 ⟨U486,A483,c484,c485,fi478,f489,f490,f491,f492,le487,hS488,h493⟩
   have c494:Hid (¬ ((↑(((↑p0.Teams.length:Int):Int) - 0).toNat:Int) < (↑p0.Teams.length:Int))):=zG (wAa)
   refine sR fL1 Z (oR Z (zS Z fi478 f492) (eN (zB (cF Z c494 (ZG (zW (zW (zr (zF (sR (.fl 0 (.fx 1 (.nil) .stop)) Z ?_))))))))))
   let B24:List Value:=[.slice A12 l11.length c13,jV x14,jV x15,jV x16,jV x17,jV x18,jV p0.Start,.slice A483 y135.length c484]
   refine oL Z (hS488.ldBA (j:=4) Z Z f490 Zd ZH (vs:=B24) Z Z) (ZE (j:=0) (vs:=B24) Z Z Z Z hS488 Z f489 Z Z ZH (zD Z) Z Z Z ?_)
   intro W495 hS496
   have hS497:sW w U U486 [.blk b6 27 B24,.blk b2 27 B0,.row A12 c13 3 1 (nE KL.encI l11),.row A483 c484 127 3 c485,.blk b10 27 B24] W495:=hS496
   refine eN (zM ?_)
   cases hm131
   exact ⟨rfl,_,(wFI (v:=.agg B24.toArray) ⟨⟨_,f489,(wDO Zd ZH (hS497.blkAt (k:=0) rfl) (vs:=B24) rfl rfl)⟩,trivial⟩),U486,_,(hS497.pick [2,3] _ (by decide) rfl),A12,c13,A483,c484,c485,rfl,rfl,h493⟩
end Go.Proofs.YthbficbpebiekaaGreat
namespace Go.Proofs.YthbficbpebiekaaGreat
open Go.KL
set_option maxHeartbeats 4000000
theorem wCY (p0:wAA) (pA0_0_0:Option Addr) (pc0_0_0:Nat) (pA0_2:Option Addr) (pc0_2:Nat) (w:World) (U:PHeap) (hS:St0 w U []) (ha0:Sl U 1 pA0_0_0 pc0_0_0 p0.Rules.Classes.length (nE KL.encI p0.Rules.Classes)) (ha1:SlR U wCS pA0_2 pc0_2 p0.Teams) {r:wAD} (hm:wBv p0=some r):Gv Tryz.prog 12 [.agg #[.slice pA0_0_0 p0.Rules.Classes.length pc0_0_0,jV p0.Rules.Each,jV p0.Rules.Laps,jV p0.Rules.Spare,jV p0.Rules.Loop,jV p0.Rules.Unused,jV p0.Start,.slice pA0_2 p0.Teams.length pc0_2]] w (wCj w [] U (fun U_ L_ v=>∃ (A000:Option Addr) (c000:Nat) (A02:Option Addr) (c02:Nat) (cs02:List Value),v=.agg #[.slice A000 r.Rules.Classes.length c000,jV r.Rules.Each,jV r.Rules.Laps,jV r.Rules.Spare,jV r.Rules.Loop,jV r.Rules.Unused,jV r.Start,.slice A02 r.Teams.length c02]/\L_=[.row A000 c000 3 1 (nE KL.encI r.Rules.Classes),.row A02 c02 160 3 cs02]/\RlL U_ wET r.Teams cs02)):=by
 unfold wBv at hm
 refine Gv.of Tryz.func12 Z Tryz.ntmps12 Tryz.results12 Z (sR (.fx 0 (.fx 1 (.nil) .stop) .stop) Z ?_)
 let B0:List Value:=[.slice pA0_0_0 p0.Rules.Classes.length pc0_0_0,jV p0.Rules.Each,jV p0.Rules.Laps,jV p0.Rules.Spare,jV p0.Rules.Loop,jV p0.Rules.Unused,jV p0.Start,.slice pA0_2 p0.Teams.length pc0_2]
 refine Ze (cs:=B0) rfl rfl rfl rfl rfl rfl (by rfl) hS ?_
 intro W1 b2 hS3
 let B1:List Value:=[.slice none 0 0,jV 0,jV 0,jV 0,jV 0,jV 0,jV 0,.slice none 0 0]
 refine zq (cs:=B1) Z Z Z Z Z yA Z hS3 ?_
 intro W5 b6 hS7
 refine eN ?_
 have q:=bnd hm
 obtain ⟨⟨l11,x14,x15,x16,x17,x18⟩,hx20,hm21⟩:=q
 try dsimp only at hm21
 refine CK.cut (fun σ_ w_=>∃ (U_:PHeap) (b10:Nat) (A12:Option Addr) (c13:Nat),σ_ 1=.pointer (some ⟨b2,0,none⟩)/\σ_ 2=.pointer (some ⟨b6,0,none⟩)/\σ_ 3=.pointer (some ⟨b10,0,none⟩)/\PHeap.Le U U_/\sW w U U_ [.blk b6 34 B1,.blk b2 27 B0,.blk b10 34 [.slice A12 l11.length c13,jV x14,jV x15,jV x16,jV x17,jV x18,jV p0.Start,.slice none 0 0],.row A12 c13 3 1 (nE KL.encI l11)] w_) ?_ ?_
 ·refine bnK hx20 fun x22 h23 hm42=>Zv Zt [3,1,2,3,1,3,2,0] (.fl 0 (.fl 1 (.fl 3 (.fl 4 (.fx 2 (.fl 5 (.fx 6 (.fx 7 (.nil) (.stop)) (.stop))) (.fx 6 (.fx 2 (.fl 5 (.fx 7 (.nil) (.stop))) (.stop)) (.stop))))))) (by kernel_rfl) ?_
  have hS43:=hS7.drew
  generalize hw_W44:({ W5 with drawn:=W5.drawn + 1 }:World)=W44 at hS43 ⊢
  refine oR Z (zA Z Z zY Z ZX) (oL Z (hS43.ldBA (j:=1) Z Z Z ya ZX (vs:=[.slice pA0_0_0 p0.Rules.Classes.length pc0_0_0,jV p0.Rules.Each,jV p0.Rules.Laps,jV p0.Rules.Spare,jV p0.Rules.Loop,jV p0.Rules.Unused]) Z Z) (oR Z (zA Z Z zY Z zI) (oL Z (hS43.ldB (j:=1) Z Z Z zP (v:=jV p0.Start) Z) (yd ?_ ?_))))
  ·refine zQ 0 Z Z Z Z (zR Z Z Tryz.call83 (zH Z ze) Z) hS43 (fun hs=>wBg p0.Rules pA0_0_0 pc0_0_0 W44 U hs ha0 h23) (.inr Z) ?_
   rintro U46 L47 v48 W49 le50 hS51 ⟨A52,c53,rfl,rfl⟩
   let B2:Res:=.row A52 c53 3 1 (nE KL.encI x22.Classes)
   have hS55:sW w U U46 [B2,.blk b6 34 B1,.blk b2 27 B0] W49:=hS51
   let B3:List Value:=[.slice A52 x22.Classes.length c53,jV x22.Each,jV x22.Laps,jV x22.Spare,jV x22.Loop,jV x22.Unused,jV p0.Start,.slice none 0 0]
   refine oR Z (Zh (pv:=[(0,.agg #[.slice A52 x22.Classes.length c53,jV x22.Each,jV x22.Laps,jV x22.Spare,jV x22.Loop,jV x22.Unused]),(1,jV p0.Start)]) (z:=B1) (cs:=B3) Z (wAI Z (wAI Z wAU)) yA wMB Z Z) (zq (cs:=B1) Z Z Z Z Z yA Z hS55 ?_)
   intro W56 b57 hS58
   refine ZE (j:=0) (vs:=B3) Z Z Z Z hS58 Z Z Z Z Zl (zD Z) Z Z Z ?_
   intro W60 hS61
   have hS62:sW w U U46 [.blk b57 34 B3,B2,.blk b6 34 B1,.blk b2 27 B0] W60:=hS61
   refine zj ?_
   cases hm42
   exact zF ⟨rfl,⟨U46,b57,A52,c53,rfl,rfl,rfl,le50,(hS62.pick [2,3,0,1] _ (by decide) rfl)⟩⟩
  ·refine zq (cs:=B1) Z Z Z Z Z yA Z hS43 ?_
   intro W73 b74 hS75
   refine zQ 0 Z Z Z Z (zR Z Z Tryz.call83 (zH Z ze) Z) hS75 (fun hs=>wBg p0.Rules pA0_0_0 pc0_0_0 W73 U hs ha0 h23) (.inr Z) ?_
   rintro U78 L79 v80 W81 le82 hS83 ⟨A84,c85,rfl,rfl⟩
   let B4:Res:=.row A84 c85 3 1 (nE KL.encI x22.Classes)
   have hS87:sW w U U78 [B4,.blk b74 34 B1,.blk b6 34 B1,.blk b2 27 B0] W81:=hS83
   let B5:List Value:=[.slice A84 x22.Classes.length c85,jV x22.Each,jV x22.Laps,jV x22.Spare,jV x22.Loop,jV x22.Unused,jV p0.Start,.slice none 0 0]
   refine oR Z (Zh (pv:=[(0,.agg #[.slice A84 x22.Classes.length c85,jV x22.Each,jV x22.Laps,jV x22.Spare,jV x22.Loop,jV x22.Unused]),(1,jV p0.Start)]) (z:=B1) (cs:=B5) Z (wAI Z (wAI Z wAU)) yA wMB Z Z) (ZE (j:=1) (vs:=B5) Z Z Z Z hS87 Z Z Z Z Zl (zD Z) Z Z Z ?_)
   intro W88 hS89
   have hS90:sW w U U78 [B4,.blk b74 34 B5,.blk b6 34 B1,.blk b2 27 B0] W88:=hS89
   refine zj ?_
   cases hm42
   exact zF ⟨rfl,⟨U78,b74,A84,c85,rfl,rfl,rfl,le82,(hS90.pick [2,3,1,0] _ (by decide) rfl)⟩⟩
 ·rintro σ101 W102 ⟨U103,b10,A12,c13,f106,f107,f108,le104,hS105⟩
  refine zB (sR (.fl 0 (.fx 1 (wQV (.nil)) .stop)) Z (oL Z (hS105.ldBA (j:=1) Z Z f106 Zd ZH (vs:=B0) Z Z) ?_))
  have h109:=ha0.le le104
  have h110:=ha1.le le104
  refine bnK hm21 fun x111 h112 hm113=>zQ 0 Z Z Z Z (zR Z Z Tryz.call11 (zH Z ze) Z) hS105 (fun hs=>wBq p0 pA0_0_0 pc0_0_0 pA0_2 pc0_2 W102 U103 hs h109 h110 h112) (.inr Z) ?_
  rintro U114 L115 v116 W117 le118 hS119 ⟨A120,c121,A122,c123,c124,rfl,rfl,h127⟩
  let B6:Res:=.row A12 c13 3 1 (nE KL.encI l11)
  let B7:Res:=.blk b10 34 [.slice A12 l11.length c13,jV x14,jV x15,jV x16,jV x17,jV x18,jV p0.Start,.slice none 0 0]
  let B8:Res:=.row A120 c121 3 1 (nE KL.encI x111.Rules.Classes)
  have hS128:sW w U U114 [B8,.row A122 c123 127 3 c124,.blk b6 34 B1,.blk b2 27 B0,B7,B6] W117:=hS119
  refine oR Z (Runs.fld Z Z zY Z (wFg Zg (v:=.slice A122 x111.Teams.length c123) Z)) (oR Z (zN Z Z zn) (oM Z Z (eN (zL ?_))))
  have q:=hS128.freezeRR (R:=wCS) (k:=1) rfl h127 rfl (by decide)
  obtain ⟨U135,le136,hs137,hS138⟩:=q
  have hS139:sW w U U135 [B8,.blk b6 34 B1,.blk b2 27 B0,B7,B6] W117:=hS138
  refine bnK hm113 fun y166 hf163 hm162=>?_
  have q:=wAu hf163
  obtain ⟨hle164,hf165⟩:=q
  replace hle164:=zG hle164
  refine CK.forN' (fun k161 l156 σ_ w_=>∃ (U_:PHeap) (A157:Option Addr) (c158:Nat) (cs160:List Value),σ_ 19=jV (↑k161:Int)/\σ_ 2=.pointer (some ⟨b6,0,none⟩)/\σ_ 3=.pointer (some ⟨b10,0,none⟩)/\σ_ 17=.slice A122 x111.Teams.length c123/\σ_ 18=jV (↑x111.Teams.length:Int)/\PHeap.Le U135 U_/\sW w U U_ [.blk b6 34 B1,.blk b2 27 B0,.row A12 c13 3 1 (nE KL.encI l11),.row A157 c158 160 3 cs160,.blk b10 34 [.slice A12 l11.length c13,jV x14,jV x15,jV x16,jV x17,jV x18,jV p0.Start,.slice A157 l156.length c158]] w_/\RlL U_ wET l156 cs160) hf165 ?_ ?_ ?_
  ·have hS167:=hS139.nilrow 160 3
   exact ⟨U135,none,0,[],rfl,f107,f108,rfl,rfl,(zZ _),(hS167.pick [2,3,5,0,4] _ (by decide) rfl),RlL.nil⟩
  ·rintro k161 l156 xx171 σ169 W170 hk174 ⟨U176,A157,c158,cs160,fi175,f179,f180,f181,f182,le177,hS178,h183⟩ hx172
   have c184:Hid ((↑k161:Int) < (↑x111.Teams.length:Int)):=zG (wAy hk174)
   replace hk174:=zG hk174
   have hi185:Hid (w64 ((↑k161:Int) + 1)=(↑(k161 + 1):Int)):=zG (by have h1:=hle164.out;have h2:=c184.out;rw [wAK] <;> omega)
   refine sR fL1 Z (oR Z (zS Z fi175 f182) (eN (zB (cT Z c184 (kN (zB (zL (sR (.fl 0 (.fl 1 (.fx 2 (.fx 3 (.nil) .stop) .stop))) Z (bnK hx172 fun x186 h187 hm188=>?_)))))))))
   have h189:=hs137.le le177
   have q:=h189.el (wAE h187)
   obtain ⟨b190,off191,vs194,hA192,hC193,hr195⟩:=q
   obtain ⟨pA196,pc197,pA198,pc199,rfl,h200,h201⟩:=hr195
   replace hC193:Cl U176 b190 (off191 + k161 * 3) [jV x186.Bib,.slice pA196 x186.Classes.length pc197,.slice pA198 x186.Legs.length pc199]:=hC193
   refine oR Z (zx Z f181 hA192 fi175 zn zz (wAc h187)) (oL Z (hS178.ldCA (f:=0) hC193 Z Z yD zz (us:=[jV x186.Bib,.slice pA196 x186.Classes.length pc197,.slice pA198 x186.Legs.length pc199]) Z Z) ?_)
   let B9:List Value:=[jV 0,.slice none 0 0,.slice none 0 0]
   refine zq (cs:=B9) Z Z Z Z Z Zi Z hS178 ?_
   intro W202 b203 hS204
   let B10:List Value:=[jV x186.Bib,.slice pA196 x186.Classes.length pc197,.slice pA198 x186.Legs.length pc199]
   refine ZE (j:=0) (vs:=B10) Z Z Z Z hS204 Z Z Z Z zz (zD Z) Z Z Z ?_
   intro W206 hS207
   let B11:Res:=.blk b10 34 [.slice A12 l11.length c13,jV x14,jV x15,jV x16,jV x17,jV x18,jV p0.Start,.slice A157 l156.length c158]
   let B12:Res:=.row A157 c158 160 3 cs160
   have hS208:sW w U U176 [.blk b203 127 B10,.blk b6 34 B1,.blk b2 27 B0,B6,B12,B11] W206:=hS207
   refine eN (sR (wIQ (.fx 5 (.fx 6 (.nil) .stop) .stop)) Z (oR Z (zA Z Z zl Z zI) (oL Z (hS208.ldB (j:=0) Z Z Z zP (v:=jV x186.Bib) Z) (oR Z (zA Z Z zl Z zO) (oL Z (hS208.ldB (j:=0) Z Z Z zd (v:=.slice pA196 x186.Classes.length pc197) Z) ?_)))))
   let B13:List Value:=[jV x186.Bib,.slice pA196 x186.Classes.length pc197,.slice none 0 0]
   refine oR Z (Zh (pv:=[(0,jV x186.Bib),(1,.slice pA196 x186.Classes.length pc197)]) (z:=B9) (cs:=B13) Z (wAI Z (wAI Z wAU)) Tryz.zeroValue160 wOt Z Z) (zq (cs:=B9) Z Z Z Z Z Tryz.zeroValue160 Z hS208 ?_)
   intro W209 b210 hS211
   refine ZE (j:=0) (vs:=B13) Z Z Z Z hS211 Z Z Z Z ZU (zD Z) Z Z Z ?_
   intro W213 hS214
   have hS215:sW w U U176 [.blk b210 160 B13,.blk b203 127 B10,.blk b6 34 B1,.blk b2 27 B0,B6,B12,B11] W213:=hS214
   refine eN (zB (sR fL4 Z (oR Z (zA Z Z zl Z Zo) (oL Z (hS215.ldB (j:=1) Z Z Z Zw (v:=.slice pA198 x186.Legs.length pc199) Z) (oR Z (zN Z Z ZI) (oM Z Z (eN (zL (bnK hm188 fun y242 hf239 hm238=>?_)))))))))
   have q:=wAu hf239
   obtain ⟨hle240,hf241⟩:=q
   replace hle240:=zG hle240
   refine CK.forN' (fun k237 l232 σ_ w_=>∃ (U_:PHeap) (A233:Option Addr) (c234:Nat) (cs236:List Value),σ_ 31=jV (↑k237:Int)/\σ_ 2=.pointer (some ⟨b6,0,none⟩)/\σ_ 3=.pointer (some ⟨b10,0,none⟩)/\σ_ 6=.pointer (some ⟨b210,0,none⟩)/\σ_ 17=.slice A122 x111.Teams.length c123/\σ_ 18=jV (↑x111.Teams.length:Int)/\σ_ 19=jV (↑k161:Int)/\σ_ 29=.slice pA198 x186.Legs.length pc199/\σ_ 30=jV (↑x186.Legs.length:Int)/\PHeap.Le U176 U_/\sW w U U_ [.row A233 c234 161 3 cs236,.blk b210 160 [jV x186.Bib,.slice pA196 x186.Classes.length pc197,.slice A233 l232.length c234],.blk b203 127 B10,.blk b6 34 B1,.blk b2 27 B0,.row A12 c13 3 1 (nE KL.encI l11),B12,B11] w_/\RlL U_ wMu l232 cs236) hf241 ?_ ?_ ?_
   ·have hS243:=hS215.nilrow 161 3
    exact ⟨U176,none,0,[],Z,f179,f180,Z,f181,f182,fi175,Z,Z,(zZ _),hS243,RlL.nil⟩
   ·rintro k237 l232 xx247 σ245 W246 hk250 ⟨U252,A233,c234,cs236,fi251,f255,f256,f257,f258,f259,f260,f261,f262,le253,hS254,h263⟩ hx248
    have c264:Hid ((↑k237:Int) < (↑x186.Legs.length:Int)):=zG (wAy hk250)
    replace hk250:=zG hk250
    have hi265:Hid (w64 ((↑k237:Int) + 1)=(↑(k237 + 1):Int)):=zG (by have h1:=hle240.out;have h2:=c264.out;rw [wAK] <;> omega)
    refine sR fL1 Z (oR Z (zS Z fi251 f262) (eN (zB (cT Z c264 (kN (zB (zL (sR (.fl 0 (.fl 1 (.fx 2 (.fx 3 (.nil) .stop) .stop))) Z (bnK hx248 fun x266 h267 hm268=>?_)))))))))
    have h269:=h201.le le253
    have q:=h269.el (wAE h267)
    obtain ⟨b270,off271,vs274,hA272,hC273,hr275⟩:=q
    obtain ⟨pA276,pc277,pA278,pc279,rfl,h280,h281⟩:=hr275
    replace hC273:Cl U252 b270 (off271 + k237 * 3) [jV x266.Skier,.slice pA276 x266.Loops.length pc277,.slice pA278 x266.Bouts.length pc279]:=hC273
    refine oR Z (zx Z f261 hA272 fi251 ZI ZL (wAc h267)) (oL Z (hS254.ldCA (f:=0) hC273 Z Z yR ZL (us:=[jV x266.Skier,.slice pA276 x266.Loops.length pc277,.slice pA278 x266.Bouts.length pc279]) Z Z) (zq (cs:=B9) Z Z Z Z Z Zq Z hS254 ?_))
    intro W282 b283 hS284
    let B14:List Value:=[jV x266.Skier,.slice pA276 x266.Loops.length pc277,.slice pA278 x266.Bouts.length pc279]
    refine ZE (j:=0) (vs:=B14) Z Z Z Z hS284 Z Z Z Z ZL (zD Z) Z Z Z ?_
    intro W286 hS287
    let B15:Res:=.blk b210 160 [jV x186.Bib,.slice pA196 x186.Classes.length pc197,.slice A233 l232.length c234]
    have hS288:sW w U U252 [.blk b283 130 B14,.row A233 c234 161 3 cs236,B15,.blk b203 127 B10,.blk b6 34 B1,.blk b2 27 B0,B6,B12,B11] W286:=hS287
    refine eN (rR (wEK (.fx 3 (.fx 4 (.fl 5 (.fx 6 (.nil) .stop)) .stop) .stop)) Z (oR Z (zA Z f257 zk Z ZT) (oL Z (hS288.ldB (j:=2) Z Z Z Zc (v:=.slice A233 l232.length c234) Z) (oL Z (hS288.ldBA (j:=0) Z Z Z yR ZL (vs:=B14) Z Z) (ZP (pv:=[(0,.agg B14.toArray)]) (zs:=B9) (cs:=B14) Z Z Z Z Z (wAI Z wAU) ZF Zp Tryz.zeroValue161 Z Z Z Z Z hS288 ?_)))))
    intro W289 b290 hS291
    have hr293:RlL U252 wMu [(⟨x266.Skier,x266.Loops,x266.Bouts⟩:wBR)] B14:=(RlL.cons (R:=wMu) (x:=(⟨x266.Skier,x266.Loops,x266.Bouts⟩:wBR)) (vs:=B14) ⟨pA276,pc277,pA278,pc279,rfl,h280,h281⟩ RlL.nil)
    let B16:Res:=.row (some ⟨b290,0,none⟩) 1 161 3 B14
    have hS294:sW w U U252 [B16,.blk b283 130 B14,.row A233 c234 161 3 cs236,B15,.blk b203 127 B10,.blk b6 34 B1,.blk b2 27 B0,B6,B12,B11] W289:=hS291
    refine bnK hm268 fun x295 h296 hm297=>yP (R:=wMu) (j:=2) (xs:=l232) (ys:=[(⟨x266.Skier,x266.Loops,x266.Bouts⟩:wBR)]) (zs:=x295) rfl rfl rfl rfl rfl Tryz.underlying158 wSC rfl rfl rfl rfl rfl rfl rfl hS294 rfl rfl rfl h263 hr293 (hS294.srcR (j:=0) rfl (by decide) (RlL.len hr293)) h296 rfl ?_
    intro A298 c299 cs300 W301 hS302 hr303
    have hS304:sW w U U252 [B16,.blk b283 130 B14,.row A298 c299 161 3 cs300,B15,.blk b203 127 B10,.blk b6 34 B1,.blk b2 27 B0,B6,B12,B11] W301:=hS302
    refine oR Z (zA Z f257 zk Z ZT) (ZE (j:=3) (vs:=[.slice A298 x295.length c299]) Z Z Z Z hS304 Z Z Z Z ZT (zD Z) Z Z Z ?_)
    intro W305 hS306
    have hS307:sW w U U252 [B16,.blk b283 130 B14,.row A298 c299 161 3 cs300,.blk b210 160 [jV x186.Bib,.slice pA196 x186.Classes.length pc197,.slice A298 x295.length c299],.blk b203 127 B10,.blk b6 34 B1,.blk b2 27 B0,B6,B12,B11] W305:=hS306
    refine zj (zg (zF (rR fL2 Z (oR Z (ZD (zU Z fi251 Z) (congrArg (jV) hi265.out)) (oM Z Z (zj ?_))))))
    cases hm297
    exact zF ⟨rfl,⟨U252,A298,c299,cs300,rfl,f255,f256,f257,f258,f259,f260,f261,f262,le253,(hS307.pick [2,3,4,5,6,7,8,9] _ (by decide) rfl),hr303⟩⟩
   ·rintro σ312 W313 ⟨U323,A320,c321,c322,fi315,f326,f327,f328,f329,f330,f331,f332,f333,le324,hS325,h334⟩
    have c335:Hid (¬ ((↑(((↑x186.Legs.length:Int):Int) - 0).toNat:Int) < (↑x186.Legs.length:Int))):=zG (wAa)
    refine sR fL1 Z (oR Z (zS Z fi315 f333) (eN (zB (cF Z c335 (ZG (zW (zW (zr (zF (rR (wEK (.fx 3 (.fx 4 (.fl 5 (.fx 6 (.nil) .stop)) .stop) .stop)) Z (oR Z (zA Z f327 zX Z ZR) (oL Z (hS325.ldB (j:=7) Z Z Z ZY (v:=.slice A157 l156.length c158) Z) ?_))))))))))))
    let B17:List Value:=[jV x186.Bib,.slice pA196 x186.Classes.length pc197,.slice A320 y242.length c321]
    refine oL Z (hS325.ldBA (j:=1) Z Z f328 Tryz.isAgg160 ZU (vs:=B17) Z Z) ?_
    have q:=hS325.freezeRR (R:=wMu) (k:=0) rfl h334 rfl (by decide)
    obtain ⟨U339,le340,hs341,hS342⟩:=q
    have hS343:sW w U U339 [.blk b210 160 B17,.blk b203 127 B10,.blk b6 34 B1,.blk b2 27 B0,B6,B12,B11] W313:=hS342
    refine ZP (pv:=[(0,.agg B17.toArray)]) (zs:=B9) (cs:=B17) Z Z Z Z Z (wAI Z wAU) zy ZU Tryz.zeroValue160 Z Z Z Z Z hS343 ?_
    intro W336 b337 hS338
    have h345:=h200.le le324
    have h346:=h345.le le340
    have hr347:RlL U339 wET [(⟨x186.Bib,x186.Classes,y242⟩:wBO)] B17:=(RlL.cons (R:=wET) (x:=(⟨x186.Bib,x186.Classes,y242⟩:wBO)) (vs:=B17) ⟨pA196,pc197,A320,c321,rfl,h346,hs341⟩ RlL.nil)
    let B18:Res:=.row (some ⟨b337,0,none⟩) 1 160 3 B17
    have hS348:sW w U U339 [B18,.blk b210 160 B17,.blk b203 127 B10,.blk b6 34 B1,.blk b2 27 B0,B6,B12,B11] W336:=hS338
    refine bnK hm238 fun x349 h350 hm351=>?_
    have h358:=h183.le le324
    have h359:=h358.le le340
    refine yP (R:=wET) (j:=6) (xs:=l156) (ys:=[(⟨x186.Bib,x186.Classes,y242⟩:wBO)]) (zs:=x349) rfl rfl rfl rfl rfl Tryz.underlying32 wSB rfl rfl rfl rfl rfl rfl rfl hS348 rfl rfl rfl h359 hr347 (hS348.srcR (j:=0) rfl (by decide) (RlL.len hr347)) h350 rfl ?_
    intro A352 c353 cs354 W355 hS356 hr357
    have hS360:sW w U U339 [B18,.blk b210 160 B17,.blk b203 127 B10,.blk b6 34 B1,.blk b2 27 B0,B6,.row A352 c353 160 3 cs354,B11] W355:=hS356
    refine oR Z (zA Z f327 zX Z ZR) (ZE (j:=7) (vs:=[.slice A352 x349.length c353]) Z Z Z Z hS360 Z Z Z Z ZR (zD Z) Z Z Z ?_)
    intro W361 hS362
    have hS363:sW w U U339 [B18,.blk b210 160 B17,.blk b203 127 B10,.blk b6 34 B1,.blk b2 27 B0,B6,.row A352 c353 160 3 cs354,.blk b10 34 [.slice A12 l11.length c13,jV x14,jV x15,jV x16,jV x17,jV x18,jV p0.Start,.slice A352 x349.length c353]] W361:=hS362
    refine zj (zg (zF (rR fL2 Z (oR Z (ZD (zU Z f331 Z) (congrArg (jV) hi185.out)) (oM Z Z (zj ?_))))))
    cases hm351
    exact zF ⟨rfl,⟨U339,A352,c353,cs354,rfl,f326,f327,f329,f330,((le177.trans le324).trans le340),(hS363.pick [3,4,5,6,7] _ (by decide) rfl),hr357⟩⟩
  ·rintro σ368 W369 ⟨U379,A376,c377,c378,fi371,f382,f383,f384,f385,le380,hS381,h386⟩
   have c387:Hid (¬ ((↑(((↑x111.Teams.length:Int):Int) - 0).toNat:Int) < (↑x111.Teams.length:Int))):=zG (wAa)
   refine sR fL1 Z (oR Z (zS Z fi371 f385) (eN (zB (cF Z c387 (ZG (zW (zW (zr (zF (sR (.fl 0 (.fx 1 (.nil) .stop)) Z ?_))))))))))
   let B19:List Value:=[.slice A12 l11.length c13,jV x14,jV x15,jV x16,jV x17,jV x18,jV p0.Start,.slice A376 y166.length c377]
   refine oL Z (hS381.ldBA (j:=4) Z Z f383 Zy Zl (vs:=B19) Z Z) (ZE (j:=0) (vs:=B19) Z Z Z Z hS381 Z f382 Z Z Zl (zD Z) Z Z Z ?_)
   intro W388 hS389
   have hS390:sW w U U379 [.blk b6 34 B19,.blk b2 27 B0,B6,.row A376 c377 160 3 c378,.blk b10 34 B19] W388:=hS389
   refine eN (zM ?_)
   cases hm162
   exact ⟨rfl,_,(wFI (v:=.agg B19.toArray) ⟨⟨_,f382,(wDO Zy Zl (hS390.blkAt (k:=0) rfl) (vs:=B19) rfl rfl)⟩,trivial⟩),U379,_,(hS390.pick [2,3] _ (by decide) rfl),A12,c13,A376,c377,c378,rfl,rfl,h386⟩
theorem wCB (p0:Int) (p1:Int) (p2:Int) (w:World) (U:PHeap) (hS:St0 w U [])  {r:Bool} (hm:wBZ p0 p1 p2=some r):Gv Tryz.prog 86 [jV p0,jV p1,jV p2] w (wCj w [] U (fun U_ L_ v=>v=.bool r/\L_=[])):=by
 unfold wBZ at hm
 refine Gv.of Tryz.func86 Z Tryz.ntmps86 Tryz.results86 Z (sR fL1 Z (oA Z Z (eN (sR fL9 Z (oM Z Z (oM Z Z (oR Z (Runs.geq Z Z Z) (oM Z Z ?_))))))))
 by_cases c1:p1 <= p0
 ·have hm2:=hm;rw [if_pos c1] at hm2;replace c1:=zG c1
  refine ZM Z Z Z (wT Z c1) Z Z (ZM Z Z Z (wT Z c1) Z Z (rU Z (wT Z c1) (Runs.leq Z Z Z) (oR Z (zi Z (yG c1.out) Z) (oA Z Z (eN (zM ?_))))))
  cases hm2
  exact ⟨Z,_,(zt Z),U,_,hS,Z,Z⟩
 ·have hm3:=hm;rw [if_neg c1] at hm3;replace c1:=zG c1
  refine oF Z c1 (oF Z c1 (oF Z c1 (oR Z (zh Z (zw c1.out) Z) (oA Z Z (eN (zM ?_))))))
  have hE:=nA hm3;first | subst r | cases hE
  exact ⟨Z,_,(zt Z),U,_,hS,Z,Z⟩
theorem wFu (p0:Int) (p1:(Int->Option Bool)) (pb1:Nat) (pv1:Value) (w:World) (U:PHeap) (hS:St0 w U []) (ha0:Cl U pb1 0 [pv1]) (ha1:FnOK Tryz.prog U pv1 wLF wLG p1) {r:Bool} (hm:wBh p0 p1=some r):Gv Tryz.prog 177 [jV p0,.pointer (some ⟨pb1,0,none⟩)] w (wCj w [] U (fun U_ L_ v=>v=.bool r/\L_=[])):=by
 unfold wBh at hm
 refine Gv.of Tryz.func177 Z Tryz.ntmps177 Tryz.results177 Z (sR fL1 Z (oA Z Z (eN (sR (.fl 0 (.fl 1 (.fx 2 (.fl 3 (.fl 4 (.nil))) .stop))) Z (oL Z (hS.ldC (f:=0) ha0 (v:=pv1) Z Z Tryz.isAgg107 Z) (oM Z Z (bnK hm fun x1 h2 hm3=>OKS.callV (a:=p0) Z Z Z Z Z Z (zH Z ze) hS ha1 Z h2 ?_)))))))
 rintro U4 L5 v6 W7 le8 hS9 ⟨rfl,rfl⟩
 have hS10:sW w U U4 [] W7:=hS9
 refine oR Z (Za Z Z) (oA Z Z (eN (zM ?_)))
 cases hm3
 exact ⟨Z,_,(zt Z),U4,_,hS10,Z,Z⟩
theorem wDh (p0:List Int) (pA0:Option Addr) (pc0:Nat) (p1:(Int->Option Bool)) (pv1:Value) (w:World) (U:PHeap) (hS:St0 w U []) (ha0:Sl U 1 pA0 pc0 p0.length (nE KL.encI p0)) (ha1:FnOK Tryz.prog U pv1 wLF wLG p1) {r:Int} (hm:wBb p0 p1=some r):Gv Tryz.prog 224 [.slice pA0 p0.length pc0,pv1] w (wCj w [] U (fun U_ L_ v=>v=jV r/\L_=[])):=by
 unfold wBb at hm
 refine Gv.of Tryz.func224 Z Tryz.ntmps224 Tryz.results224 Z (sR fL1 Z (oA Z Z (eN (zB (sR fL3 Z (oM Z Z (oR Z (zN Z Z zE) (oM Z Z (eN (zL ?_))))))))))
 have q:=wCM hm
 obtain ⟨r3,hX4⟩:=q
 have q:=wCL hX4
 obtain ⟨hle5,hf6⟩:=q
 replace hle5:=zG hle5
 refine yK (fun k2 _ σ_ w_=>∃ (U_:PHeap),σ_ 8=jV (↑k2:Int)/\σ_ 0=.slice pA0 p0.length pc0/\σ_ 1=pv1/\σ_ 7=jV (↑p0.length:Int)/\PHeap.Le U U_/\sW w U U_ [] w_) hf6 ?_ ?_ ?_
 ·exact ⟨U,Z,Z,Z,Z,(zZ _),hS⟩
 ·rintro k2 ⟨⟩ xx9 σ7 W8 hk12 ⟨U14,fi13,f17,f18,f19,le15,hS16⟩ hx10 hb11
  try dsimp only at hx10
  have c20:Hid ((↑k2:Int) < (↑p0.length:Int)):=zG (wAy hk12)
  replace hk12:=zG hk12
  have hi21:Hid (w64 ((↑k2:Int) + 1)=(↑(k2 + 1):Int)):=zG (by have h1:=hle5.out;have h2:=c20.out;rw [wAK] <;> omega)
  refine sR fL1 Z (oR Z (zS Z fi13 f19) (eN (zB (cT Z c20 (kN (zB (zL (sR fL2 Z (oM Z fi13 (oA Z Z (eN (sR (wIQ (.fx 5 (.nil) .stop)) Z (oM Z f18 (oM Z f17 (oM Z Z (bnK hx10 fun x22 h23 hm24=>?_))))))))))))))))
  have h25:=ha0.le le15
  have q:=h25.el (fun _=>rfl) (wAE h23)
  obtain ⟨b26,off27,hA28,hC29⟩:=q
  refine oR Z (zx Z Z hA28 Z zE zI (wAc h23)) (oL Z (hS16.ldC (f:=0) hC29 (v:=jV x22) Z Z zP Z) (bnK hm24 fun x30 h31 hm32=>?_))
  have h39:=ha1.le le15
  refine OKS.callV (a:=x22) Z Z Z Z Z Z (zH Z ze) hS16 h39 Z h31 ?_
  rintro U33 L34 v35 W36 le37 hS38 ⟨rfl,rfl⟩
  have hS40:sW w U U33 [] W36:=hS38
  refine eN (ifc hm32 ?_ ?_)
  ·intro c41 hm42
   refine zp (congrArg nB c41.out) (sR fL2 Z (oM Z Z (oA Z Z (eN (zM (zK (zC ?_)))))))
   have q:=wAF hm42
   obtain ⟨v43,hm44,e45⟩:=q
   obtain rfl:=wBd hm hX4 (hb11 v43 e45)
   refine zC (zK (zC ?_))
   cases hm44
   exact ⟨Z,_,(zt Z),U33,_,hS40,Z,Z⟩
  ·intro c41 hm46
   refine zo (congrArg nB (nD.2 c41.out)) (ZW (zg (zF (rR fL2 Z (oR Z (ZD (zU Z fi13 Z) (congrArg (jV) hi21.out)) (oM Z Z (zj ?_)))))))
   obtain rfl:=nA hm46
   exact zF ⟨Z,_,Z,⟨U33,Z,f17,f18,f19,(le15.trans le37),hS40⟩⟩
 ·rintro ⟨⟩ σ47 W48 ⟨U51,fi50,f54,f55,f56,le52,hS53⟩ hb49
  have hm57:=wCv hm hX4 hb49
  try dsimp only at hm57
  have c58:Hid (¬ ((↑(((↑p0.length:Int):Int) - 0).toNat:Int) < (↑p0.length:Int))):=zG (wAa)
  refine sR fL1 Z (oR Z (zS Z fi50 f56) (eN (zB (cF Z c58 (ZG (zW (zW (zr (zF (sR fL1 Z (oA Z Z (eN (zM ?_)))))))))))))
  cases hm57
  exact ⟨Z,_,(zt Z),U51,_,hS53,Z,Z⟩
theorem wDR (p0:List Int) (pA0:Option Addr) (pc0:Nat) (p1:(Int->Option Bool)) (pv1:Value) (w:World) (U:PHeap) (hS:St0 w U []) (ha0:Sl U 1 pA0 pc0 p0.length (nE KL.encI p0)) (ha1:FnOK Tryz.prog U pv1 wLF wLG p1) {r:Bool} (hm:wBN p0 p1=some r):Gv Tryz.prog 176 [.slice pA0 p0.length pc0,pv1] w (wCj w [] U (fun U_ L_ v=>v=.bool r/\L_=[])):=by
 unfold wBN at hm
 refine Gv.of Tryz.func176 Z Tryz.ntmps176 Tryz.results176 Z (sR fL1 Z (oA Z Z (eN (sR (.fl 0 (.fl 1 (.fx 2 (.fl 3 (.fl 4 (.nil))) .stop))) Z (oM Z Z (oM Z Z (bnK hm fun x1 h2 hm3=>zQ 0 Z Z Z Z (zR Z Z Tryz.call224 (zH Z (zH Z ze)) Z) hS (fun hs=>wDh p0 pA0 pc0 p1 pv1 w U hs ha0 ha1 h2) (.inr Z) ?_)))))))
 rintro U4 L5 v6 W7 le8 hS9 ⟨rfl,rfl⟩
 have hS10:sW w U U4 [] W7:=hS9
 refine oR Z (Runs.geq Z Z Z) (oA Z Z (eN (zM ?_)))
 cases hm3
 exact ⟨Z,_,(zt Z),U4,_,hS10,Z,Z⟩
theorem wEa (p0:List Int) (pA0:Option Addr) (pc0:Nat) (p1:(Int->Option Bool)) (pv1:Value) (w:World) (U:PHeap) (hS:St0 w U []) (ha0:Sl U 1 pA0 pc0 p0.length (nE KL.encI p0)) (ha1:FnOK Tryz.prog U pv1 wLF wLG p1) {r:Bool} (hm:wCA p0 p1=some r):Gv Tryz.prog 92 [.slice pA0 p0.length pc0,pv1] w (wCj w [] U (fun U_ L_ v=>v=.bool r/\L_=[])):=by
 unfold wCA at hm
 refine Gv.of Tryz.func92 Z Tryz.ntmps92 Tryz.results92 Z (sR (.fx 0 (.fl 1 (.nil)) .stop) Z (Ze (cs:=[pv1]) Z Z Z Z Z Z (FnOK.cells ha1) hS ?_))
 intro W1 b2 hS3
 have q:=hS3.freeze (k:=0) rfl
 obtain ⟨U5,le6,hC7,hS8⟩:=q
 replace hC7:=Cl.of hC7
 have hS9:sW w U U5 [] W1:=hS8
 replace hC7:Cl U5 b2 0 [pv1]:=hC7
 refine oA Z Z (eN (sR (.fl 0 (.fl 1 (.fx 2 (.fl 3 (.fl 4 (.nil))) .stop))) Z (oM Z Z (oR Z (Runs.mkf Z ze (zH Z ze)) ?_))))
 have h10:=ha0.le le6
 have h11:=ha1.le le6
 have hF12:FnOK Tryz.prog U5 (.func (.func 177) #[] #[.pointer (some ⟨b2,0,none⟩)]) wLF wLG (fun x=>wBh x p1):=⟨177,[],[.pointer (some ⟨b2,0,none⟩)],rfl,Tryz.call177,fun U1 w1 x y vs le hs ha hm=>by obtain rfl:=ha;exact wFu x p1 b2 pv1 w1 U1 hs (hC7.le le) (h11.le le) hm⟩
 refine bnK hm fun x13 h14 hm15=>zQ 0 Z Z Z Z (zR Z Z Tryz.call176 (zH Z (zH Z ze)) Z) hS9 (fun hs=>wDR p0 pA0 pc0 (fun x=>wBh x p1) (.func (.func 177) #[] #[.pointer (some ⟨b2,0,none⟩)]) W1 U5 hs h10 hF12 h14) (.inr Z) ?_
 rintro U16 L17 v18 W19 le20 hS21 ⟨rfl,rfl⟩
 have hS22:sW w U U16 [] W19:=hS21
 refine oR Z (Za Z Z) (oA Z Z (eN (zM ?_)))
 cases hm15
 exact ⟨Z,_,(zt Z),U16,_,hS22,Z,Z⟩
theorem wGP (p0:Int) (w:World) (U:PHeap) (hS:St0 w U [])  {r:Bool} (hm:wAk p0=some r):Gv Tryz.prog 174 [jV p0] w (wCj w [] U (fun U_ L_ v=>v=.bool r/\L_=[])):=by
 unfold wAk at hm
 refine Gv.of Tryz.func174 Z Tryz.ntmps174 Tryz.results174 Z (sR fL1 Z (oA Z Z (eN (sR (.fl 0 (.fx 1 (.fl 2 (.nil)) .stop)) Z (oM Z Z (bnK hm fun x1 h2 hm3=>zQ 0 Z Z Z Z (zR Z Z yQ (zH Z (zH Z (zH Z ze))) Z) hS (fun hs=>wCB p0 0 3 w U hs h2) (.inr Z) ?_))))))
 rintro U4 L5 v6 W7 le8 hS9 ⟨rfl,rfl⟩
 have hS10:sW w U U4 [] W7:=hS9
 refine oA Z Z (eN (zM ?_))
 have hE:=nA hm3;first | subst r | cases hE
 exact ⟨Z,_,(zt Z),U4,_,hS10,Z,Z⟩
theorem wEn (p0:List Int) (pA0:Option Addr) (pc0:Nat) (w:World) (U:PHeap) (hS:St0 w U []) (ha0:Sl U 1 pA0 pc0 p0.length (nE KL.encI p0)) {r:Bool} (hm:wBT p0=some r):Gv Tryz.prog 90 [.slice pA0 p0.length pc0] w (wCj w [] U (fun U_ L_ v=>v=.bool r/\L_=[])):=by
 unfold wBT at hm
 refine Gv.of Tryz.func90 Z Tryz.ntmps90 Tryz.results90 Z (sR fL1 Z (oA Z Z (eN (sR (.fl 0 (.fx 1 (.fl 2 (.nil)) .stop)) Z (oM Z Z ?_)))))
 have hF1:FnOK Tryz.prog U (.func (.func 174) #[] #[]) wLF wLG wAk:=⟨174,[],[],rfl,Tryz.call174,fun U1 w1 x y vs le hs ha hm=>by obtain rfl:=ha;exact wGP x w1 U1 hs  hm⟩
 refine bnK hm fun x2 h3 hm4=>zQ 0 Z Z Z Z (zR Z Z Tryz.call92 (zH Z (zH Z ze)) Z) hS (fun hs=>wEa p0 pA0 pc0 wAk (.func (.func 174) #[] #[]) w U hs ha0 hF1 h3) (.inr Z) ?_
 rintro U5 L6 v7 W8 le9 hS10 ⟨rfl,rfl⟩
 have hS11:sW w U U5 [] W8:=hS10
 refine oA Z Z (eN (zM ?_))
 have hE:=nA hm4;first | subst r | cases hE
 exact ⟨Z,_,(zt Z),U5,_,hS11,Z,Z⟩
theorem wGj (p0:wAB) (pA0_0:Option Addr) (pc0_0:Nat) (w:World) (U:PHeap) (hS:St0 w U []) (ha0:Sl U 1 pA0_0 pc0_0 p0.Classes.length (nE KL.encI p0.Classes)) {r:Int} (hm:wAz p0=some r):Gv Tryz.prog 247 [.agg #[.slice pA0_0 p0.Classes.length pc0_0,jV p0.Each,jV p0.Laps,jV p0.Spare,jV p0.Loop,jV p0.Unused]] w (wCj w [] U (fun U_ L_ v=>v=jV r/\L_=[])):=by
 unfold wAz at hm
 refine Gv.of Tryz.func247 rfl Tryz.ntmps247 Tryz.results247 rfl (sR (.fx 0 (.fl 1 (.nil)) .stop) rfl (Ze (cs:=[.slice pA0_0 p0.Classes.length pc0_0,jV p0.Each,jV p0.Laps,jV p0.Spare,jV p0.Loop,jV p0.Unused]) rfl rfl rfl rfl rfl rfl (by rfl) hS ?_))
 intro W1 b2 hS3
 refine oA Z Z (eN (sR fL3 Z (oR Z (zA Z Z zm Z zI) (oL Z (hS3.ldB (j:=0) Z Z Z zP (v:=jV p0.Each) Z) (oA Z Z (eN (zM ?_)))))))
 cases hm
 exact ⟨rfl,_,(zt rfl),U,_,(hS3.pick [] _ (by decide) rfl),rfl,rfl⟩
theorem wGk (p0:wAB) (pA0_0:Option Addr) (pc0_0:Nat) (w:World) (U:PHeap) (hS:St0 w U []) (ha0:Sl U 1 pA0_0 pc0_0 p0.Classes.length (nE KL.encI p0.Classes)) {r:Int} (hm:wBA p0=some r):Gv Tryz.prog 248 [.agg #[.slice pA0_0 p0.Classes.length pc0_0,jV p0.Each,jV p0.Laps,jV p0.Spare,jV p0.Loop,jV p0.Unused]] w (wCj w [] U (fun U_ L_ v=>v=jV r/\L_=[])):=by
 unfold wBA at hm
 refine Gv.of Tryz.func248 rfl Tryz.ntmps248 Tryz.results248 rfl (sR (.fx 0 (.fl 1 (.nil)) .stop) rfl (Ze (cs:=[.slice pA0_0 p0.Classes.length pc0_0,jV p0.Each,jV p0.Laps,jV p0.Spare,jV p0.Loop,jV p0.Unused]) rfl rfl rfl rfl rfl rfl (by rfl) hS ?_))
 intro W1 b2 hS3
 refine oA Z Z (eN (sR fL3 Z (oR Z (zA Z Z zm Z zI) (oL Z (hS3.ldB (j:=0) Z Z Z zP (v:=jV p0.Laps) Z) (oA Z Z (eN (zM ?_)))))))
 cases hm
 exact ⟨rfl,_,(zt rfl),U,_,(hS3.pick [] _ (by decide) rfl),rfl,rfl⟩
theorem wGl (p0:wAB) (pA0_0:Option Addr) (pc0_0:Nat) (w:World) (U:PHeap) (hS:St0 w U []) (ha0:Sl U 1 pA0_0 pc0_0 p0.Classes.length (nE KL.encI p0.Classes)) {r:Int} (hm:wBB p0=some r):Gv Tryz.prog 249 [.agg #[.slice pA0_0 p0.Classes.length pc0_0,jV p0.Each,jV p0.Laps,jV p0.Spare,jV p0.Loop,jV p0.Unused]] w (wCj w [] U (fun U_ L_ v=>v=jV r/\L_=[])):=by
 unfold wBB at hm
 refine Gv.of Tryz.func249 rfl Tryz.ntmps249 Tryz.results249 rfl (sR (.fx 0 (.fl 1 (.nil)) .stop) rfl (Ze (cs:=[.slice pA0_0 p0.Classes.length pc0_0,jV p0.Each,jV p0.Laps,jV p0.Spare,jV p0.Loop,jV p0.Unused]) rfl rfl rfl rfl rfl rfl (by rfl) hS ?_))
 intro W1 b2 hS3
 refine oA Z Z (eN (sR fL3 Z (oR Z (zA Z Z zm Z zI) (oL Z (hS3.ldB (j:=0) Z Z Z zP (v:=jV p0.Spare) Z) (oA Z Z (eN (zM ?_)))))))
 cases hm
 exact ⟨rfl,_,(zt rfl),U,_,(hS3.pick [] _ (by decide) rfl),rfl,rfl⟩
theorem wGm (p0:wAB) (pA0_0:Option Addr) (pc0_0:Nat) (w:World) (U:PHeap) (hS:St0 w U []) (ha0:Sl U 1 pA0_0 pc0_0 p0.Classes.length (nE KL.encI p0.Classes)) {r:Int} (hm:wBC p0=some r):Gv Tryz.prog 250 [.agg #[.slice pA0_0 p0.Classes.length pc0_0,jV p0.Each,jV p0.Laps,jV p0.Spare,jV p0.Loop,jV p0.Unused]] w (wCj w [] U (fun U_ L_ v=>v=jV r/\L_=[])):=by
 unfold wBC at hm
 refine Gv.of Tryz.func250 rfl Tryz.ntmps250 Tryz.results250 rfl (sR (.fx 0 (.fl 1 (.nil)) .stop) rfl (Ze (cs:=[.slice pA0_0 p0.Classes.length pc0_0,jV p0.Each,jV p0.Laps,jV p0.Spare,jV p0.Loop,jV p0.Unused]) rfl rfl rfl rfl rfl rfl (by rfl) hS ?_))
 intro W1 b2 hS3
 refine oA Z Z (eN (sR fL3 Z (oR Z (zA Z Z zm Z zI) (oL Z (hS3.ldB (j:=0) Z Z Z zP (v:=jV p0.Loop) Z) (oA Z Z (eN (zM ?_)))))))
 cases hm
 exact ⟨rfl,_,(zt rfl),U,_,(hS3.pick [] _ (by decide) rfl),rfl,rfl⟩
end Go.Proofs.YthbficbpebiekaaGreat
namespace Go.Proofs.YthbficbpebiekaaGreat
open Go.KL
set_option maxHeartbeats 4000000
theorem wGn (p0:wAB) (pA0_0:Option Addr) (pc0_0:Nat) (w:World) (U:PHeap) (hS:St0 w U []) (ha0:Sl U 1 pA0_0 pc0_0 p0.Classes.length (nE KL.encI p0.Classes)) {r:Int} (hm:wBD p0=some r):Gv Tryz.prog 251 [.agg #[.slice pA0_0 p0.Classes.length pc0_0,jV p0.Each,jV p0.Laps,jV p0.Spare,jV p0.Loop,jV p0.Unused]] w (wCj w [] U (fun U_ L_ v=>v=jV r/\L_=[])):=by
 unfold wBD at hm
 refine Gv.of Tryz.func251 rfl Tryz.ntmps251 Tryz.results251 rfl (sR (.fx 0 (.fl 1 (.nil)) .stop) rfl (Ze (cs:=[.slice pA0_0 p0.Classes.length pc0_0,jV p0.Each,jV p0.Laps,jV p0.Spare,jV p0.Loop,jV p0.Unused]) rfl rfl rfl rfl rfl rfl (by rfl) hS ?_))
 intro W1 b2 hS3
 refine oA Z Z (eN (sR fL3 Z (oR Z (zA Z Z zm Z zI) (oL Z (hS3.ldB (j:=0) Z Z Z zP (v:=jV p0.Unused) Z) (oA Z Z (eN (zM ?_)))))))
 cases hm
 exact ⟨rfl,_,(zt rfl),U,_,(hS3.pick [] _ (by decide) rfl),rfl,rfl⟩
theorem wIW  (w:World) (U:PHeap) (hS:St0 w U [])  {r:(List wAG)} (hm:wCp =some r):Gv Tryz.prog 170 [] w (wCj w [] U (fun U_ L_ v=>∃ (A0:Option Addr) (c0:Nat) (cs0:List Value),v=.slice A0 r.length c0/\L_=[.row A0 c0 264 3 cs0]/\RlL U_ wHs r cs0)):=by
 unfold wCp at hm
 refine Gv.of Tryz.func170 Z Tryz.ntmps170 Tryz.results170 Z (sR fL1 Z (oA Z Z (eN (sR (wIQ (.fx 5 (.fl 6 (.nil)) .stop)) Z ?_))))
 let B0:List Value:=[.nilFunc,jV 0,jV 0]
 let B1:List Value:=[.func (.func 247) #[] #[],jV 1,jV 4]
 refine oR Z (Zh (pv:=[(0,.func (.func 247) #[] #[]),(1,jV 1),(2,jV 4)]) (z:=B0) (cs:=B1) Z (wAI Z (wAI Z (wAI Z wAU))) yc wEl Z Z) ?_
 let B2:List Value:=[.func (.func 248) #[] #[],jV 1,jV 5]
 refine oR Z (Zh (pv:=[(0,.func (.func 248) #[] #[]),(1,jV 1),(2,jV 5)]) (z:=B0) (cs:=B2) Z (wAI Z (wAI Z (wAI Z wAU))) yc wEl Z Z) ?_
 let B3:List Value:=[.func (.func 249) #[] #[],jV 0,jV 600]
 refine oR Z (Zh (pv:=[(0,.func (.func 249) #[] #[]),(1,jV 0),(2,jV 600)]) (z:=B0) (cs:=B3) Z (wAI Z (wAI Z (wAI Z wAU))) yc wEl Z Z) ?_
 let B4:List Value:=[.func (.func 250) #[] #[],jV 0,jV 600]
 refine oR Z (Zh (pv:=[(0,.func (.func 250) #[] #[]),(1,jV 0),(2,jV 600)]) (z:=B0) (cs:=B4) Z (wAI Z (wAI Z (wAI Z wAU))) yc wEl Z Z) ?_
 let B5:List Value:=[.func (.func 251) #[] #[],jV 0,jV 6000]
 refine oR Z (Zh (pv:=[(0,.func (.func 251) #[] #[]),(1,jV 0),(2,jV 6000)]) (z:=B0) (cs:=B5) Z (wAI Z (wAI Z (wAI Z wAU))) yc wEl Z Z) ?_
 let B6:List Value:=[.func (.func 247) #[] #[],jV 1,jV 4,.func (.func 248) #[] #[],jV 1,jV 5,.func (.func 249) #[] #[],jV 0,jV 600,.func (.func 250) #[] #[],jV 0,jV 600,.func (.func 251) #[] #[],jV 0,jV 6000]
 refine ZP (pv:=[(0,.agg B1.toArray),(1,.agg B2.toArray),(2,.agg B3.toArray),(3,.agg B4.toArray),(4,.agg B5.toArray)]) (zs:=[.nilFunc,jV 0,jV 0,.nilFunc,jV 0,jV 0,.nilFunc,jV 0,jV 0,.nilFunc,jV 0,jV 0,.nilFunc,jV 0,jV 0]) (cs:=B6) Z Z Z Z Z (wAI Z (wAI Z (wAI Z (wAI Z (wAI Z wAU))))) Tryz.runUnderlying265 Tryz.sizeOf264 yc Z Z Z Z Z hS ?_
 intro W1 b2 hS3
 have hF5:FnOK Tryz.prog U (.func (.func 251) #[] #[]) wJR wJS wBD:=⟨251,[],[],rfl,Tryz.call251,fun U1 w1 x y vs le hs ha hm=>by obtain ⟨pA_0_0,pc_0_0,rfl,hq0_0⟩:=ha;exact wGn x pA_0_0 pc_0_0 w1 U1 hs hq0_0 hm⟩
 have hF6:FnOK Tryz.prog U (.func (.func 250) #[] #[]) wJR wJS wBC:=⟨250,[],[],rfl,Tryz.call250,fun U1 w1 x y vs le hs ha hm=>by obtain ⟨pA_0_0,pc_0_0,rfl,hq0_0⟩:=ha;exact wGm x pA_0_0 pc_0_0 w1 U1 hs hq0_0 hm⟩
 have hF7:FnOK Tryz.prog U (.func (.func 249) #[] #[]) wJR wJS wBB:=⟨249,[],[],rfl,Tryz.call249,fun U1 w1 x y vs le hs ha hm=>by obtain ⟨pA_0_0,pc_0_0,rfl,hq0_0⟩:=ha;exact wGl x pA_0_0 pc_0_0 w1 U1 hs hq0_0 hm⟩
 have hF8:FnOK Tryz.prog U (.func (.func 248) #[] #[]) wJR wJS wBA:=⟨248,[],[],rfl,Tryz.call248,fun U1 w1 x y vs le hs ha hm=>by obtain ⟨pA_0_0,pc_0_0,rfl,hq0_0⟩:=ha;exact wGk x pA_0_0 pc_0_0 w1 U1 hs hq0_0 hm⟩
 have hF9:FnOK Tryz.prog U (.func (.func 247) #[] #[]) wJR wJS wAz:=⟨247,[],[],rfl,Tryz.call247,fun U1 w1 x y vs le hs ha hm=>by obtain ⟨pA_0_0,pc_0_0,rfl,hq0_0⟩:=ha;exact wGj x pA_0_0 pc_0_0 w1 U1 hs hq0_0 hm⟩
 have hr10:RlL U wHs [(⟨wAz,1,4⟩:wAG),(⟨wBA,1,5⟩:wAG),(⟨wBB,0,600⟩:wAG),(⟨wBC,0,600⟩:wAG),(⟨wBD,0,6000⟩:wAG)] B6:=(RlL.cons (R:=wHs) (x:=(⟨wAz,1,4⟩:wAG)) (vs:=B1) ⟨(.func (.func 247) #[] #[]),rfl,hF9⟩ (RlL.cons (R:=wHs) (x:=(⟨wBA,1,5⟩:wAG)) (vs:=B2) ⟨(.func (.func 248) #[] #[]),rfl,hF8⟩ (RlL.cons (R:=wHs) (x:=(⟨wBB,0,600⟩:wAG)) (vs:=B3) ⟨(.func (.func 249) #[] #[]),rfl,hF7⟩ (RlL.cons (R:=wHs) (x:=(⟨wBC,0,600⟩:wAG)) (vs:=B4) ⟨(.func (.func 250) #[] #[]),rfl,hF6⟩ (RlL.cons (R:=wHs) (x:=(⟨wBD,0,6000⟩:wAG)) (vs:=B5) ⟨(.func (.func 251) #[] #[]),rfl,hF5⟩ RlL.nil)))))
 have hS11:sW w U U [.row (some ⟨b2,0,none⟩) 5 264 3 B6] W1:=hS3
 refine oA Z Z (eN (zM ?_))
 cases hm
 exact ⟨Z,_,(zt Z),U,_,hS11,(some ⟨b2,0,none⟩),5,B6,Z,Z,hr10⟩
theorem wFB (p0:wAG) (pv0_0:Value) (p1:wAB) (pb1:Nat) (pA1_0:Option Addr) (pc1_0:Nat) (w:World) (U:PHeap) (hS:St0 w U []) (ha0:FnOK Tryz.prog U pv0_0 wJR wJS p0.of) (ha1:Cl U pb1 0 [.slice pA1_0 p1.Classes.length pc1_0,jV p1.Each,jV p1.Laps,jV p1.Spare,jV p1.Loop,jV p1.Unused]) (ha2:Sl U 1 pA1_0 pc1_0 p1.Classes.length (nE KL.encI p1.Classes)) {r:Bool} (hm:wBK p0 p1=some r):Gv Tryz.prog 171 [.agg #[pv0_0,jV p0.lo,jV p0.hi],.pointer (some ⟨pb1,0,none⟩)] w (wCj w [] U (fun U_ L_ v=>v=.bool r/\L_=[])):=by
 unfold wBK at hm
 refine Gv.of Tryz.func171 Z Tryz.ntmps171 Tryz.results171 Z (sR (.fx 0 (.fl 1 (.nil)) .stop) Z ?_)
 let B0:List Value:=[pv0_0,jV p0.lo,jV p0.hi]
 refine Ze (cs:=B0) rfl rfl rfl rfl rfl rfl (by rfl) hS ?_
 intro W1 b2 hS3
 refine OKS.ra rfl rfl rfl rfl rfl rfl (eN (zB (Zv Zt [3,1,1,2,3,1,3,1,2,3] (wEK (fC4_7 (.fx 3 (.fx 8 (.fl 9 (.nil)) .stop) .stop))) (by kernel_rfl) ?_)))
 have hS5:=hS3.drew
 generalize hw_W6:({ W1 with drawn:=W1.drawn + 1 }:World)=W6 at hS5 ⊢
 refine oR Z (zA Z Z Tryz.runUnderlying264 Z Tryz.sizeOf262) (oL Z (hS5.ldB (j:=0) Z Z Z Tryz.isAgg262 (v:=pv0_0) Z) (oL Z (hS5.ldCA (f:=0) ha1 Z Z ya ZX (us:=[.slice pA1_0 p1.Classes.length pc1_0,jV p1.Each,jV p1.Laps,jV p1.Spare,jV p1.Loop,jV p1.Unused]) Z Z) (oR Z (zA Z Z Tryz.runUnderlying264 Z zI) (oL Z (hS5.ldB (j:=0) Z Z Z zP (v:=jV p0.lo) Z) (oR Z (zA Z Z Tryz.runUnderlying264 Z zI) (oL Z (hS5.ldB (j:=0) Z Z Z zP (v:=jV p0.hi) Z) (bnK hm fun x7 h8 hm9=>OKS.callV (a:=p1) Z Z Z Z Z Z (zH Z ze) hS5 ha0 ⟨pA1_0,pc1_0,Z,ha2⟩ h8 ?_)))))))
 rintro U10 L11 v12 W13 le14 hS15 ⟨rfl,rfl⟩
 have hS16:sW w U U10 [.blk b2 264 B0] W13:=hS15
 refine bnK hm9 fun x17 h18 hm19=>zQ 0 Z Z Z Z (zR Z Z yQ (zH Z (zH Z (zH Z ze))) Z) hS16 (fun hs=>wCB x7 p0.lo p0.hi W13 U10 hs h18) (.inr Z) ?_
 rintro U20 L21 v22 W23 le24 hS25 ⟨rfl,rfl⟩
 have hS26:sW w U U20 [.blk b2 264 B0] W23:=hS25
 refine oA Z Z (eN (zM ?_))
 have hE:=nA hm19;first | subst r | cases hE
 exact ⟨rfl,_,(zt rfl),U20,_,(hS26.pick [] _ (by decide) rfl),rfl,rfl⟩
theorem wDi (p0:wAG) (pv0_0:Value) (p1:(wAG->Option Bool)) (pb1:Nat) (pv1:Value) (w:World) (U:PHeap) (hS:St0 w U []) (ha0:FnOK Tryz.prog U pv0_0 wJR wJS p0.of) (ha1:Cl U pb1 0 [pv1]) (ha2:FnOK Tryz.prog U pv1 wMv wMw p1) {r:Bool} (hm:wAl p0 p1=some r):Gv Tryz.prog 246 [.agg #[pv0_0,jV p0.lo,jV p0.hi],.pointer (some ⟨pb1,0,none⟩)] w (wCj w [] U (fun U_ L_ v=>v=.bool r/\L_=[])):=by
 unfold wAl at hm
 refine Gv.of Tryz.func246 Z Tryz.ntmps246 Tryz.results246 Z (sR (.fx 0 (.fl 1 (.nil)) .stop) Z ?_)
 let B0:List Value:=[pv0_0,jV p0.lo,jV p0.hi]
 refine Ze (cs:=B0) rfl rfl rfl rfl rfl rfl (by rfl) hS ?_
 intro W1 b2 hS3
 refine oA Z Z (eN (sR (.fl 0 (.fl 1 (.fx 2 (.fl 3 (.fl 4 (.nil))) .stop))) Z (oL Z (hS3.ldC (f:=0) ha1 (v:=pv1) Z Z Tryz.isAgg267 Z) (oL Z (hS3.ldBA (j:=0) Z Z Z Tryz.isAgg264 Tryz.sizeOf264 (vs:=B0) Z Z) (bnK hm fun x5 h6 hm7=>OKS.callV (a:=p0) Z Z Z Z Z Z (zH Z ze) hS3 ha2 ⟨pv0_0,Z,ha0⟩ h6 ?_)))))
 rintro U8 L9 v10 W11 le12 hS13 ⟨rfl,rfl⟩
 have hS14:sW w U U8 [.blk b2 264 B0] W11:=hS13
 refine oR Z (Za Z Z) (oA Z Z (eN (zM ?_)))
 cases hm7
 exact ⟨rfl,_,(zt rfl),U8,_,(hS14.pick [] _ (by decide) rfl),rfl,rfl⟩
theorem wCb (p0:List wAG) (pA0:Option Addr) (pc0:Nat) (p1:(wAG->Option Bool)) (pv1:Value) (w:World) (U:PHeap) (hS:St0 w U []) (ha0:SlR U wHs pA0 pc0 p0) (ha1:FnOK Tryz.prog U pv1 wMv wMw p1) {r:Int} (hm:wAZ p0 p1=some r):Gv Tryz.prog 305 [.slice pA0 p0.length pc0,pv1] w (wCj w [] U (fun U_ L_ v=>v=jV r/\L_=[])):=by
 unfold wAZ at hm
 refine Gv.of Tryz.func305 Z Tryz.ntmps305 Tryz.results305 Z (sR fL1 Z (oA Z Z (eN (zB (sR fL3 Z (oM Z Z (oR Z (zN Z Z Tryz.runUnderlying265) (oM Z Z (eN (zL ?_))))))))))
 have q:=wCM hm
 obtain ⟨r3,hX4⟩:=q
 have q:=wCL hX4
 obtain ⟨hle5,hf6⟩:=q
 replace hle5:=zG hle5
 refine yK (fun k2 _ σ_ w_=>∃ (U_:PHeap),σ_ 8=jV (↑k2:Int)/\σ_ 0=.slice pA0 p0.length pc0/\σ_ 1=pv1/\σ_ 7=jV (↑p0.length:Int)/\PHeap.Le U U_/\sW w U U_ [] w_) hf6 ?_ ?_ ?_
 ·exact ⟨U,Z,Z,Z,Z,(zZ _),hS⟩
 ·rintro k2 ⟨⟩ xx9 σ7 W8 hk12 ⟨U14,fi13,f17,f18,f19,le15,hS16⟩ hx10 hb11
  try dsimp only at hx10
  have c20:Hid ((↑k2:Int) < (↑p0.length:Int)):=zG (wAy hk12)
  replace hk12:=zG hk12
  have hi21:Hid (w64 ((↑k2:Int) + 1)=(↑(k2 + 1):Int)):=zG (by have h1:=hle5.out;have h2:=c20.out;rw [wAK] <;> omega)
  refine sR fL1 Z (oR Z (zS Z fi13 f19) (eN (zB (cT Z c20 (kN (zB (zL (sR fL2 Z (oM Z fi13 (oA Z Z (eN (sR (wIQ (.fx 5 (.nil) .stop)) Z (oM Z f18 (oM Z f17 (oM Z Z (bnK hx10 fun x22 h23 hm24=>?_))))))))))))))))
  have h25:=ha0.le le15
  have q:=h25.el (wAE h23)
  obtain ⟨b26,off27,vs30,hA28,hC29,hr31⟩:=q
  obtain ⟨pv32,rfl,h33⟩:=hr31
  replace hC29:Cl U14 b26 (off27 + k2 * 3) [pv32,jV x22.lo,jV x22.hi]:=hC29
  refine oR Z (zx Z Z hA28 Z Tryz.runUnderlying265 Tryz.sizeOf264 (wAc h23)) (oL Z (hS16.ldCA (f:=0) hC29 Z Z Tryz.isAgg264 Tryz.sizeOf264 (us:=[pv32,jV x22.lo,jV x22.hi]) Z Z) (bnK hm24 fun x34 h35 hm36=>?_))
  have h43:=ha1.le le15
  refine OKS.callV (a:=x22) Z Z Z Z Z Z (zH Z ze) hS16 h43 ⟨pv32,Z,h33⟩ h35 ?_
  rintro U37 L38 v39 W40 le41 hS42 ⟨rfl,rfl⟩
  have hS44:sW w U U37 [] W40:=hS42
  refine eN (ifc hm36 ?_ ?_)
  ·intro c45 hm46
   refine zp (congrArg nB c45.out) (sR fL2 Z (oM Z Z (oA Z Z (eN (zM (zK (zC ?_)))))))
   have q:=wAF hm46
   obtain ⟨v47,hm48,e49⟩:=q
   obtain rfl:=wBd hm hX4 (hb11 v47 e49)
   refine zC (zK (zC ?_))
   cases hm48
   exact ⟨Z,_,(zt Z),U37,_,hS44,Z,Z⟩
  ·intro c45 hm50
   refine zo (congrArg nB (nD.2 c45.out)) (ZW (zg (zF (rR fL2 Z (oR Z (ZD (zU Z fi13 Z) (congrArg (jV) hi21.out)) (oM Z Z (zj ?_)))))))
   obtain rfl:=nA hm50
   exact zF ⟨Z,_,Z,⟨U37,Z,f17,f18,f19,(le15.trans le41),hS44⟩⟩
 ·rintro ⟨⟩ σ51 W52 ⟨U55,fi54,f58,f59,f60,le56,hS57⟩ hb53
  have hm61:=wCv hm hX4 hb53
  try dsimp only at hm61
  have c62:Hid (¬ ((↑(((↑p0.length:Int):Int) - 0).toNat:Int) < (↑p0.length:Int))):=zG (wAa)
  refine sR fL1 Z (oR Z (zS Z fi54 f60) (eN (zB (cF Z c62 (ZG (zW (zW (zr (zF (sR fL1 Z (oA Z Z (eN (zM ?_)))))))))))))
  cases hm61
  exact ⟨Z,_,(zt Z),U55,_,hS57,Z,Z⟩
theorem wCO (p0:List wAG) (pA0:Option Addr) (pc0:Nat) (p1:(wAG->Option Bool)) (pv1:Value) (w:World) (U:PHeap) (hS:St0 w U []) (ha0:SlR U wHs pA0 pc0 p0) (ha1:FnOK Tryz.prog U pv1 wMv wMw p1) {r:Bool} (hm:wAV p0 p1=some r):Gv Tryz.prog 245 [.slice pA0 p0.length pc0,pv1] w (wCj w [] U (fun U_ L_ v=>v=.bool r/\L_=[])):=by
 unfold wAV at hm
 refine Gv.of Tryz.func245 Z Tryz.ntmps245 Tryz.results245 Z (sR fL1 Z (oA Z Z (eN (sR (.fl 0 (.fl 1 (.fx 2 (.fl 3 (.fl 4 (.nil))) .stop))) Z (oM Z Z (oM Z Z (bnK hm fun x1 h2 hm3=>zQ 0 Z Z Z Z (zR Z Z Tryz.call305 (zH Z (zH Z ze)) Z) hS (fun hs=>wCb p0 pA0 pc0 p1 pv1 w U hs ha0 ha1 h2) (.inr Z) ?_)))))))
 rintro U4 L5 v6 W7 le8 hS9 ⟨rfl,rfl⟩
 have hS10:sW w U U4 [] W7:=hS9
 refine oR Z (Runs.geq Z Z Z) (oA Z Z (eN (zM ?_)))
 cases hm3
 exact ⟨Z,_,(zt Z),U4,_,hS10,Z,Z⟩
theorem wED (p0:List wAG) (pA0:Option Addr) (pc0:Nat) (p1:(wAG->Option Bool)) (pv1:Value) (w:World) (U:PHeap) (hS:St0 w U []) (ha0:SlR U wHs pA0 pc0 p0) (ha1:FnOK Tryz.prog U pv1 wMv wMw p1) {r:Bool} (hm:wBQ p0 p1=some r):Gv Tryz.prog 169 [.slice pA0 p0.length pc0,pv1] w (wCj w [] U (fun U_ L_ v=>v=.bool r/\L_=[])):=by
 unfold wBQ at hm
 refine Gv.of Tryz.func169 Z Tryz.ntmps169 Tryz.results169 Z (sR (.fx 0 (.fl 1 (.nil)) .stop) Z (Ze (cs:=[pv1]) Z Z Z Z Z Z (FnOK.cells ha1) hS ?_))
 intro W1 b2 hS3
 have q:=hS3.freeze (k:=0) rfl
 obtain ⟨U5,le6,hC7,hS8⟩:=q
 replace hC7:=Cl.of hC7
 have hS9:sW w U U5 [] W1:=hS8
 replace hC7:Cl U5 b2 0 [pv1]:=hC7
 refine oA Z Z (eN (sR (.fl 0 (.fl 1 (.fx 2 (.fl 3 (.fl 4 (.nil))) .stop))) Z (oM Z Z (oR Z (Runs.mkf Z ze (zH Z ze)) ?_))))
 have h10:=ha0.le le6
 have h11:=ha1.le le6
 have hF12:FnOK Tryz.prog U5 (.func (.func 246) #[] #[.pointer (some ⟨b2,0,none⟩)]) wMv wMw (fun x=>wAl x p1):=⟨246,[],[.pointer (some ⟨b2,0,none⟩)],rfl,Tryz.call246,fun U1 w1 x y vs le hs ha hm=>by obtain ⟨pv_0_0,rfl,hq0_0⟩:=ha;exact wDi x pv_0_0 p1 b2 pv1 w1 U1 hs hq0_0 (hC7.le le) (h11.le le) hm⟩
 refine bnK hm fun x13 h14 hm15=>zQ 0 Z Z Z Z (zR Z Z Tryz.call245 (zH Z (zH Z ze)) Z) hS9 (fun hs=>wCO p0 pA0 pc0 (fun x=>wAl x p1) (.func (.func 246) #[] #[.pointer (some ⟨b2,0,none⟩)]) W1 U5 hs h10 hF12 h14) (.inr Z) ?_
 rintro U16 L17 v18 W19 le20 hS21 ⟨rfl,rfl⟩
 have hS22:sW w U U16 [] W19:=hS21
 refine oR Z (Za Z Z) (oA Z Z (eN (zM ?_)))
 cases hm15
 exact ⟨Z,_,(zt Z),U16,_,hS22,Z,Z⟩
theorem wFv (p0:wAB) (pA0_0:Option Addr) (pc0_0:Nat) (w:World) (U:PHeap) (hS:St0 w U []) (ha0:Sl U 1 pA0_0 pc0_0 p0.Classes.length (nE KL.encI p0.Classes)) {r:Int} (hm:wBU p0=some r):Gv Tryz.prog 85 [.agg #[.slice pA0_0 p0.Classes.length pc0_0,jV p0.Each,jV p0.Laps,jV p0.Spare,jV p0.Loop,jV p0.Unused]] w (wCj w [] U (fun U_ L_ v=>v=jV r/\L_=[])):=by
 unfold wBU at hm
 refine Gv.of Tryz.func85 Z Tryz.ntmps85 Tryz.results85 Z (sR (.fx 0 (.fl 1 (.nil)) .stop) Z ?_)
 let B0:List Value:=[.slice pA0_0 p0.Classes.length pc0_0,jV p0.Each,jV p0.Laps,jV p0.Spare,jV p0.Loop,jV p0.Unused]
 refine Ze (cs:=B0) rfl rfl rfl rfl rfl rfl (by rfl) hS ?_
 intro W1 b2 hS3
 have q:=hS3.freeze (k:=0) rfl
 obtain ⟨U5,le6,hC7,hS8⟩:=q
 replace hC7:=Cl.of hC7
 have hS9:sW w U U5 [] W1:=hS8
 replace hC7:Cl U5 b2 0 B0:=hC7
 refine oA Z Z (eN (zB (zL (sR (wEK (.fx 3 (.fl 4 (.fl 5 (.nil))) .stop)) Z (oR Z (zA Z Z zm Z zO) (oL Z (hS9.ldC (f:=0) hC7 (v:=.slice pA0_0 p0.Classes.length pc0_0) Z Z zd Z) (oR Z (zN Z Z zE) (bnK hm fun x10 h11 hm12=>zQ 0 Z Z Z Z (zR Z Z yQ (zH Z (zH Z (zH Z ze))) Z) hS9 (fun hs=>wCB (↑p0.Classes.length:Int) 1 4 W1 U5 hs h11) (.inr Z) ?_))))))))
 rintro U13 L14 v15 W16 le17 hS18 ⟨rfl,rfl⟩
 have hS19:sW w U U13 [] W16:=hS18
 refine oR Z (Za Z Z) (oA Z Z (eN (ifc hm12 ?_ ?_)))
 ·intro c20 hm21
  refine zo (nC c20.out) (sR (.fl 0 (.fl 1 (.fx 2 (.fl 3 (.fl 4 (.fx 5 (.fl 6 (.fx 7 (wQy (.nil)) .stop)) .stop))) .stop))) Z (oR Z (zA Z Z zm Z zO) ?_))
  have h22:=hC7.le le17
  refine oL Z (hS19.ldC (f:=0) h22 (v:=.slice pA0_0 p0.Classes.length pc0_0) Z Z zd Z) ?_
  have h23:=ha0.le le6
  have h24:=h23.le le17
  refine bnK hm21 fun x25 h26 hm27=>zQ 0 Z Z Z Z (zR Z Z Tryz.call90 (zH Z ze) Z) hS19 (fun hs=>wEn p0.Classes pA0_0 pc0_0 W16 U13 hs h24 h26) (.inr Z) ?_
  rintro U28 L29 v30 W31 le32 hS33 ⟨rfl,rfl⟩
  have hS34:sW w U U28 [] W31:=hS33
  refine oR Z (Za Z Z) (oM Z Z (ifc hm27 ?_ ?_))
  ·intro c35 hm36
   refine bnK hm36 fun x37 h38 hm39=>zQ 0 Z Z Z (zJ Z Z (nC c35.out)) (zR Z Z Tryz.call170 ze Z) hS34 (fun hs=>wIW W31 U28 hs h38) (.inr Z) ?_
   rintro U40 L41 v42 W43 le44 hS45 ⟨A46,c47,c48,rfl,rfl,h50⟩
   have hS51:sW w U U40 [.row A46 c47 264 3 c48] W43:=hS45
   refine zu Z Z Z (zJ Z Z (nC c35.out)) (fun _=>Runs.mkf Z ze (zH Z ze)) ?_
   have q:=hS51.freezeRR (R:=wHs) (k:=0) rfl h50 rfl (by decide)
   obtain ⟨U52,le53,hs54,hS55⟩:=q
   have hS56:sW w U U52 [] W43:=hS55
   have h57:=h22.le le32
   have h58:=h57.le le44
   have h59:=h58.le le53
   have h60:=h24.le le32
   have h61:=h60.le le44
   have h62:=h61.le le53
   have hF63:FnOK Tryz.prog U52 (.func (.func 171) #[] #[.pointer (some ⟨b2,0,none⟩)]) wMv wMw (fun x=>wBK x p0):=⟨171,[],[.pointer (some ⟨b2,0,none⟩)],rfl,Tryz.call171,fun U1 w1 x y vs le hs ha hm=>by obtain ⟨pv_0_0,rfl,hq0_0⟩:=ha;exact wFB x pv_0_0 p0 b2 pA0_0 pc0_0 w1 U1 hs hq0_0 (h59.le le) (h62.le le) hm⟩
   refine bnK hm39 fun x64 h65 hm66=>zQ 0 Z Z Z (zJ Z Z (nC c35.out)) (zR Z Z Tryz.call169 (zH Z (zH Z ze)) Z) hS56 (fun hs=>wED x37 A46 c47 (fun x=>wBK x p0) (.func (.func 171) #[] #[.pointer (some ⟨b2,0,none⟩)]) W43 U52 hs hs54 hF63 h65) (.inr Z) ?_
   rintro U67 L68 v69 W70 le71 hS72 ⟨rfl,rfl⟩
   have hS73:sW w U U67 [] W70:=hS72
   refine zu Z Z Z (zJ Z Z (nC c35.out)) (fun _=>Za Z Z) (oR Z (zh Z (nC c35.out) Z) (oA Z Z (eN (ifc hm66 ?_ ?_))))
   ·intro c74 hm75
    refine zo (nC c74.out) (ZW (zg (zF (sR fL1 Z (oA Z Z (eN (zM ?_)))))))
    cases hm75
    exact ⟨Z,_,(zt Z),U67,_,hS73,Z,Z⟩
   ·intro c74 hm76
    refine zp (nF (c74.out)) (sR fL1 Z (oA Z Z (eN (zM (zK (zC ?_))))))
    cases hm76
    exact ⟨Z,_,(zt Z),U67,_,hS73,Z,Z⟩
  ·intro c35 hm77
   refine Zj Z Z Z (zf Z Z (nF (c35.out)) Z) (ZA Z Z Z (zf Z Z (nF (c35.out)) Z) (Zj Z Z Z (zf Z Z (nF (c35.out)) Z) (ZA Z Z Z (zf Z Z (nF (c35.out)) Z) (oR Z (zi Z (nF (c35.out)) Z) (oA Z Z (eN (zp Z (sR fL1 Z (oA Z Z (eN (zM (zK (zC ?_)))))))))))))
   cases hm77
   exact ⟨Z,_,(zt Z),U28,_,hS34,Z,Z⟩
 ·intro c20 hm78
  refine zp (nF (c20.out)) (sR fL1 Z (oA Z Z (eN (zM (zK (zC ?_))))))
  cases hm78
  exact ⟨Z,_,(zt Z),U13,_,hS19,Z,Z⟩
theorem wFW (p0:wAB) (pA0_0:Option Addr) (pc0_0:Nat) (p1:wAC) (pA1_1:Option Addr) (pc1_1:Nat) (pA1_2:Option Addr) (pc1_2:Nat) (w:World) (U:PHeap) (hS:St0 w U []) (ha0:Sl U 1 pA0_0 pc0_0 p0.Classes.length (nE KL.encI p0.Classes)) (ha1:Sl U 1 pA1_1 pc1_1 p1.Classes.length (nE KL.encI p1.Classes)) (ha2:SlR U wFs pA1_2 pc1_2 p1.Legs) {r:Bool} (hm:wAm p0 p1=some r):Gv Tryz.prog 88 [.agg #[.slice pA0_0 p0.Classes.length pc0_0,jV p0.Each,jV p0.Laps,jV p0.Spare,jV p0.Loop,jV p0.Unused],.agg #[jV p1.Bib,.slice pA1_1 p1.Classes.length pc1_1,.slice pA1_2 p1.Legs.length pc1_2]] w (wCj w [] U (fun U_ L_ v=>v=.bool r/\L_=[])):=by
 unfold wAm at hm
 refine Gv.of Tryz.func88 Z Tryz.ntmps88 Tryz.results88 Z (sR (.fx 0 (.fx 1 (.fl 2 (.nil)) .stop) .stop) Z ?_)
 let B0:List Value:=[.slice pA0_0 p0.Classes.length pc0_0,jV p0.Each,jV p0.Laps,jV p0.Spare,jV p0.Loop,jV p0.Unused]
 refine Ze (cs:=B0) rfl rfl rfl rfl rfl rfl (by rfl) hS ?_
 intro W1 b2 hS3
 let B1:List Value:=[jV p1.Bib,.slice pA1_1 p1.Classes.length pc1_1,.slice pA1_2 p1.Legs.length pc1_2]
 refine Ze (cs:=B1) rfl rfl rfl rfl rfl rfl (by rfl) hS3 ?_
 intro W5 b6 hS7
 refine oA Z Z (eN (zB (sR (wEK (.fx 3 (wQx (.nil)) .stop)) Z (oR Z (zA Z Z zl Z zO) (oL Z (hS7.ldB (j:=0) Z Z Z zd (v:=.slice pA1_1 p1.Classes.length pc1_1) Z) (oR Z (zN Z Z zE) (bnK hm fun x9 h10 hm11=>zQ 0 Z Z Z Z (zR Z Z yQ (zH Z (zH Z (zH Z ze))) Z) hS7 (fun hs=>wCB (↑p1.Classes.length:Int) 1 8 W5 U hs h10) (.inr Z) ?_)))))))
 rintro U12 L13 v14 W15 le16 hS17 ⟨rfl,rfl⟩
 have hS18:sW w U U12 [.blk b6 127 B1,.blk b2 24 B0] W15:=hS17
 refine oR Z (Za Z Z) (oM Z Z (ifc hm11 ?_ ?_))
 ·intro c19 hm20
  refine zu Z Z Z (zJ Z Z (nC c19.out)) (fun _=>zA Z Z zl Z Zo) (ZN Z Z Z (zJ Z Z (nC c19.out)) (hS18.ldB (j:=0) Z Z Z Zw (v:=.slice pA1_2 p1.Legs.length pc1_2) Z) Z (zu Z Z Z (zJ Z Z (nC c19.out)) (fun _=>zN Z Z ZI) (zu Z Z Z (zJ Z Z (nC c19.out)) (fun _=>zA Z Z zm Z zO) (ZN Z Z Z (zJ Z Z (nC c19.out)) (hS18.ldB (j:=1) Z Z Z zd (v:=.slice pA0_0 p0.Classes.length pc0_0) Z) Z (zu Z Z Z (zJ Z Z (nC c19.out)) (fun _=>zN Z Z zE) (zu Z Z Z (zJ Z Z (nC c19.out)) (fun _=>yF Z Z Z) (oR Z (zh Z (nC c19.out) Z) (eN (ifc hm20 ?_ ?_)))))))))
  ·intro c21 hm22
   refine cT Z c21 (sR fL1 Z (oA Z Z (eN (zM (zC ?_)))))
   have hE:=nA hm22;first | subst r | cases hE
   exact ⟨rfl,_,(zt rfl),U12,_,(hS18.pick [] _ (by decide) rfl),rfl,rfl⟩
  ·intro c21 hm23
   refine cF Z c21 (kN (zB (sR fL4 Z (oR Z (zA Z Z zl Z Zo) (oL Z (hS18.ldB (j:=0) Z Z Z Zw (v:=.slice pA1_2 p1.Legs.length pc1_2) Z) (oR Z (zN Z Z ZI) (oM Z Z (eN (zL ?_)))))))))
   have q:=wCM hm23
   obtain ⟨r26,hX27⟩:=q
   have q:=wCL hX27
   obtain ⟨hle28,hf29⟩:=q
   replace hle28:=zG hle28
   refine yK (fun k25 _ σ_ w_=>∃ (U_:PHeap),σ_ 24=jV (↑k25:Int)/\σ_ 2=.pointer (some ⟨b2,0,none⟩)/\σ_ 3=.pointer (some ⟨b6,0,none⟩)/\σ_ 22=.slice pA1_2 p1.Legs.length pc1_2/\σ_ 23=jV (↑p1.Legs.length:Int)/\PHeap.Le U12 U_/\sW w U U_ [.blk b6 127 B1,.blk b2 24 B0] w_) hf29 ?_ ?_ ?_
   ·exact ⟨U12,Z,Z,Z,Z,Z,(zZ _),hS18⟩
   ·rintro k25 ⟨⟩ xx32 σ30 W31 hk35 ⟨U37,fi36,f40,f41,f42,f43,le38,hS39⟩ hx33 hb34
    try dsimp only at hx33
    have c44:Hid ((↑k25:Int) < (↑p1.Legs.length:Int)):=zG (wAy hk35)
    replace hk35:=zG hk35
    have hi45:Hid (w64 ((↑k25:Int) + 1)=(↑(k25 + 1):Int)):=zG (by have h1:=hle28.out;have h2:=c44.out;rw [wAK] <;> omega)
    refine sR fL1 Z (oR Z (zS Z fi36 f43) (eN (zB (cT Z c44 (kN (zB (zL (sR (wEK (.fx 3 (.fl 4 (.fx 5 (.nil) .stop)) .stop)) Z (oM Z fi36 (bnK hx33 fun x46 h47 hm48=>?_))))))))))
    have h49:=ha2.le le16
    have h50:=h49.le le38
    have q:=h50.el (wAE h47)
    obtain ⟨b51,off52,vs55,hA53,hC54,hr56⟩:=q
    obtain ⟨pA57,pc58,pA59,pc60,rfl,h61,h62⟩:=hr56
    replace hC54:Cl U37 b51 (off52 + k25 * 3) [jV x46.Skier,.slice pA57 x46.Loops.length pc58,.slice pA59 x46.Bouts.length pc60]:=hC54
    refine oR Z (zx Z f42 hA53 fi36 ZI ZL (wAc h47)) (oL Z (hS39.ldCA (f:=0) hC54 Z Z yR ZL (us:=[jV x46.Skier,.slice pA57 x46.Loops.length pc58,.slice pA59 x46.Bouts.length pc60]) Z Z) (zq (cs:=[jV 0,.slice none 0 0,.slice none 0 0]) Z Z Z Z Z Zq Z hS39 ?_))
    intro W63 b64 hS65
    refine oA Z Z ?_
    let B2:List Value:=[jV x46.Skier,.slice pA57 x46.Loops.length pc58,.slice pA59 x46.Bouts.length pc60]
    refine ZE (j:=0) (vs:=B2) Z Z Z Z hS65 Z Z Z Z ZL (zD Z) Z Z Z ?_
    intro W67 hS68
    have hS69:sW w U U37 [.blk b64 130 B2,.blk b6 127 B1,.blk b2 24 B0] W67:=hS68
    refine eN (sR fL33 Z (oR Z (zA Z Z ZB Z zO) (oL Z (hS69.ldB (j:=0) Z Z Z zd (v:=.slice pA57 x46.Loops.length pc58) Z) (oR Z (zN Z Z zE) (oR Z (zA Z f40 zm Z zI) (oL Z (hS69.ldB (j:=2) Z Z Z zP (v:=jV p0.Laps) Z) (oR Z (yF Z Z Z) (oM Z Z (ifc hm48 ?_ ?_)))))))))
    ·intro c70 hm71
     refine oT Z c70 (oT Z c70 (oT Z c70 (oT Z c70 (oT Z c70 (oT Z c70 (oT Z c70 (ZA Z Z Z (wBn Z Z Z) (ZA Z Z Z (wBn Z Z Z) (ZA Z Z Z (wBn Z Z Z) (ZA Z Z Z (wBn Z Z Z) (ZA Z Z Z (wBn Z Z Z) (ZA Z Z Z (wBn Z Z Z) (oT Z c70 (oR Z (zi Z (yG c70.out) Z) (oM Z Z (oN Z (oN Z (oN Z (oN Z (oN Z (oN Z (oN Z (oN Z (oN Z (oR Z (zi Z Z Z) (eN (zp Z (sR fL1 Z (oA Z Z (eN (zM (zK (zC ?_)))))))))))))))))))))))))))))))))
     have q:=wAF hm71
     obtain ⟨v72,hm73,e74⟩:=q
     obtain rfl:=wBd hm23 hX27 (hb34 v72 e74)
     refine zC (zK (zC ?_))
     have hE:=nA hm73;first | subst r | cases hE
     exact ⟨rfl,_,(zt rfl),U37,_,(hS69.pick [] _ (by decide) rfl),rfl,rfl⟩
    ·intro c70 hm75
     refine ZM Z Z Z (wF Z c70) Z Z (rU Z (wF Z c70) (zA Z f41 zl Z Zo) (ZN Z Z Z (wF Z c70) (hS69.ldB (j:=1) Z Z Z Zw (v:=.slice pA1_2 p1.Legs.length pc1_2) Z) Z (rU Z (wF Z c70) (zN Z Z ZI) (rU Z (wF Z c70) (Zn Z Z Z) (rU Z (wF Z c70) (zS Z Z Z) (ZM Z Z Z (wF Z c70) Z Z (ifc hm75 ?_ ?_)))))))
     ·intro c76 hm77
      refine rU Z (wT Z c76) (zA Z Z ZB Z zO) (ZN Z Z Z (wT Z c76) (hS69.ldB (j:=0) Z Z Z zd (v:=.slice pA57 x46.Loops.length pc58) Z) Z (rU Z (wT Z c76) (zN Z Z zE) (rU Z (wT Z c76) (zA Z f40 zm Z zI) (ZN Z Z Z (wT Z c76) (hS69.ldB (j:=2) Z Z Z zP (v:=jV p0.Laps) Z) Z (rU Z (wT Z c76) (zS Z Z Z) (rU Z (wF Z c70) (zi Z (yG c76.out) Z) (oR Z (zh Z (zw c70.out) Z) (oM Z Z (ifc hm77 ?_ ?_)))))))))
      ·intro c78 hm79
       refine oT Z c78 (oT Z c78 (oT Z c78 (oT Z c78 (oT Z c78 (oT Z c78 (oT Z c78 (oT Z c78 (oT Z c78 (oR Z (zi Z (yG c78.out) Z) (eN (zp Z (sR fL1 Z (oA Z Z (eN (zM (zK (zC ?_)))))))))))))))))
       have q:=wAF hm79
       obtain ⟨v80,hm81,e82⟩:=q
       obtain rfl:=wBd hm23 hX27 (hb34 v80 e82)
       refine zC (zK (zC ?_))
       have hE:=nA hm81;first | subst r | cases hE
       exact ⟨rfl,_,(zt rfl),U37,_,(hS69.pick [] _ (by decide) rfl),rfl,rfl⟩
      ·intro c78 hm83
       refine rU Z (wF Z c78) (zA Z Z ZB Z Zm) (ZN Z Z Z (wF Z c78) (hS69.ldB (j:=0) Z Z Z Zr (v:=.slice pA59 x46.Bouts.length pc60) Z) Z (rU Z (wF Z c78) (zN Z Z ZC) (rU Z (wF Z c78) (zA Z Z ZB Z zO) (ZN Z Z Z (wF Z c78) (hS69.ldB (j:=0) Z Z Z zd (v:=.slice pA57 x46.Loops.length pc58) Z) Z (rU Z (wF Z c78) (zN Z Z zE) (rU Z (wF Z c78) (Zn Z Z Z) (rU Z (wF Z c78) (Runs.max Z Z Z) (rU Z (wF Z c78) (ZV Z Z Z) (oR Z (zh Z (zw c78.out) Z) (eN (ifc hm83 ?_ ?_)))))))))))
       ·intro c84 hm85
        refine zo (zw (fun h=>h c84.out)) (ZW (zg (zF (rR fL2 Z (oR Z (ZD (zU Z fi36 Z) (congrArg (jV) hi45.out)) (oM Z Z (zj ?_)))))))
        obtain rfl:=nA hm85
        exact zF ⟨rfl,_,rfl,⟨U37,rfl,f40,f41,f42,f43,le38,(hS69.pick [1,2] _ (by decide) rfl)⟩⟩
       ·intro c84 hm86
        refine cT Z c84 (sR fL1 Z (oA Z Z (eN (zM (zK (zC ?_))))))
        have q:=wAF hm86
        obtain ⟨v87,hm88,e89⟩:=q
        obtain rfl:=wBd hm23 hX27 (hb34 v87 e89)
        refine zC (zK (zC ?_))
        have hE:=nA hm88;first | subst r | cases hE
        exact ⟨rfl,_,(zt rfl),U37,_,(hS69.pick [] _ (by decide) rfl),rfl,rfl⟩
     ·intro c76 hm90
      refine oF Z c76 (oF Z c76 (oF Z c76 (oF Z c76 (oF Z c76 (oF Z c76 (rU Z (wF Z c70) (zh Z (zw c76.out) Z) (oR Z (zh Z (zw c70.out) Z) (oM Z Z (zu Z Z Z (zJ Z Z Z) (fun _=>zA Z Z ZB Z Zm) (ZN Z Z Z (zJ Z Z Z) (hS69.ldB (j:=0) Z Z Z Zr (v:=.slice pA59 x46.Bouts.length pc60) Z) Z (zu Z Z Z (zJ Z Z Z) (fun _=>zN Z Z ZC) (zu Z Z Z (zJ Z Z Z) (fun _=>zA Z Z ZB Z zO) (ZN Z Z Z (zJ Z Z Z) (hS69.ldB (j:=0) Z Z Z zd (v:=.slice pA57 x46.Loops.length pc58) Z) Z (zu Z Z Z (zJ Z Z Z) (fun _=>zN Z Z zE) (zu Z Z Z (zJ Z Z Z) (fun _=>Zn Z Z Z) (zu Z Z Z (zJ Z Z Z) (fun _=>Runs.max Z Z Z) (zu Z Z Z (zJ Z Z Z) (fun _=>ZV Z Z Z) (oR Z (zh Z Z Z) (eN (ifc hm90 ?_ ?_))))))))))))))))))))
      ·intro c91 hm92
       refine zo (zw (fun h=>h c91.out)) (ZW (zg (zF (rR fL2 Z (oR Z (ZD (zU Z fi36 Z) (congrArg (jV) hi45.out)) (oM Z Z (zj ?_)))))))
       obtain rfl:=nA hm92
       exact zF ⟨rfl,_,rfl,⟨U37,rfl,f40,f41,f42,f43,le38,(hS69.pick [1,2] _ (by decide) rfl)⟩⟩
      ·intro c91 hm93
       refine cT Z c91 (sR fL1 Z (oA Z Z (eN (zM (zK (zC ?_))))))
       have q:=wAF hm93
       obtain ⟨v94,hm95,e96⟩:=q
       obtain rfl:=wBd hm23 hX27 (hb34 v94 e96)
       refine zC (zK (zC ?_))
       have hE:=nA hm95;first | subst r | cases hE
       exact ⟨rfl,_,(zt rfl),U37,_,(hS69.pick [] _ (by decide) rfl),rfl,rfl⟩
   ·rintro ⟨⟩ σ97 W98 ⟨U101,fi100,f104,f105,f106,f107,le102,hS103⟩ hb99
    have hm108:=wCv hm23 hX27 hb99
    try dsimp only at hm108
    have c109:Hid (¬ ((↑(((↑p1.Legs.length:Int):Int) - 0).toNat:Int) < (↑p1.Legs.length:Int))):=zG (wAa)
    refine sR fL1 Z (oR Z (zS Z fi100 f107) (eN (zB (cF Z c109 (ZG (zW (zW (zr (zF (sR fL1 Z (oA Z Z (eN (zM ?_)))))))))))))
    have hE:=nA hm108;first | subst r | cases hE
    exact ⟨rfl,_,(zt rfl),U101,_,(hS103.pick [] _ (by decide) rfl),rfl,rfl⟩
 ·intro c19 hm110
  refine ZA Z Z Z (zf Z Z (nF (c19.out)) Z) (ZA Z Z Z (zf Z Z (nF (c19.out)) Z) (ZA Z Z Z (zf Z Z (nF (c19.out)) Z) (ZA Z Z Z (zf Z Z (nF (c19.out)) Z) (ZA Z Z Z (zf Z Z (nF (c19.out)) Z) (ZA Z Z Z (zf Z Z (nF (c19.out)) Z) (ZA Z Z Z (zf Z Z (nF (c19.out)) Z) (oR Z (zi Z (nF (c19.out)) Z) (eN (zp Z (sR fL1 Z (oA Z Z (eN (zM (zC ?_))))))))))))))
  have hE:=nA hm110;first | subst r | cases hE
  exact ⟨rfl,_,(zt rfl),U12,_,(hS18.pick [] _ (by decide) rfl),rfl,rfl⟩
theorem wDu (p0:wAC) (pA0_1:Option Addr) (pc0_1:Nat) (pA0_2:Option Addr) (pc0_2:Nat) (p1:(wAC->Option Bool)) (pb1:Nat) (pv1:Value) (w:World) (U:PHeap) (hS:St0 w U []) (ha0:Sl U 1 pA0_1 pc0_1 p0.Classes.length (nE KL.encI p0.Classes)) (ha1:SlR U wFs pA0_2 pc0_2 p0.Legs) (ha2:Cl U pb1 0 [pv1]) (ha3:FnOK Tryz.prog U pv1 wLH wLI p1) {r:Bool} (hm:wAg p0 p1=some r):Gv Tryz.prog 173 [.agg #[jV p0.Bib,.slice pA0_1 p0.Classes.length pc0_1,.slice pA0_2 p0.Legs.length pc0_2],.pointer (some ⟨pb1,0,none⟩)] w (wCj w [] U (fun U_ L_ v=>v=.bool r/\L_=[])):=by
 unfold wAg at hm
 refine Gv.of Tryz.func173 Z Tryz.ntmps173 Tryz.results173 Z (sR (.fx 0 (.fl 1 (.nil)) .stop) Z ?_)
 let B0:List Value:=[jV p0.Bib,.slice pA0_1 p0.Classes.length pc0_1,.slice pA0_2 p0.Legs.length pc0_2]
 refine Ze (cs:=B0) rfl rfl rfl rfl rfl rfl (by rfl) hS ?_
 intro W1 b2 hS3
 refine oA Z Z (eN (sR (.fl 0 (.fl 1 (.fx 2 (.fl 3 (.fl 4 (.nil))) .stop))) Z (oL Z (hS3.ldC (f:=0) ha2 (v:=pv1) Z Z Tryz.isAgg165 Z) (oL Z (hS3.ldBA (j:=0) Z Z Z yD zz (vs:=B0) Z Z) (bnK hm fun x5 h6 hm7=>OKS.callV (a:=p0) Z Z Z Z Z Z (zH Z ze) hS3 ha3 ⟨pA0_1,pc0_1,pA0_2,pc0_2,Z,ha0,ha1⟩ h6 ?_)))))
 rintro U8 L9 v10 W11 le12 hS13 ⟨rfl,rfl⟩
 have hS14:sW w U U8 [.blk b2 127 B0] W11:=hS13
 refine oR Z (Za Z Z) (oA Z Z (eN (zM ?_)))
 cases hm7
 exact ⟨rfl,_,(zt rfl),U8,_,(hS14.pick [] _ (by decide) rfl),rfl,rfl⟩
theorem wCf (p0:List wAC) (pA0:Option Addr) (pc0:Nat) (p1:(wAC->Option Bool)) (pv1:Value) (w:World) (U:PHeap) (hS:St0 w U []) (ha0:SlR U wCS pA0 pc0 p0) (ha1:FnOK Tryz.prog U pv1 wLH wLI p1) {r:Int} (hm:wAS p0 p1=some r):Gv Tryz.prog 252 [.slice pA0 p0.length pc0,pv1] w (wCj w [] U (fun U_ L_ v=>v=jV r/\L_=[])):=by
 unfold wAS at hm
 refine Gv.of Tryz.func252 Z Tryz.ntmps252 Tryz.results252 Z (sR fL1 Z (oA Z Z (eN (zB (sR fL3 Z (oM Z Z (oR Z (zN Z Z zn) (oM Z Z (eN (zL ?_))))))))))
 have q:=wCM hm
 obtain ⟨r3,hX4⟩:=q
 have q:=wCL hX4
 obtain ⟨hle5,hf6⟩:=q
 replace hle5:=zG hle5
 refine yK (fun k2 _ σ_ w_=>∃ (U_:PHeap),σ_ 8=jV (↑k2:Int)/\σ_ 0=.slice pA0 p0.length pc0/\σ_ 1=pv1/\σ_ 7=jV (↑p0.length:Int)/\PHeap.Le U U_/\sW w U U_ [] w_) hf6 ?_ ?_ ?_
 ·exact ⟨U,Z,Z,Z,Z,(zZ _),hS⟩
 ·rintro k2 ⟨⟩ xx9 σ7 W8 hk12 ⟨U14,fi13,f17,f18,f19,le15,hS16⟩ hx10 hb11
  try dsimp only at hx10
  have c20:Hid ((↑k2:Int) < (↑p0.length:Int)):=zG (wAy hk12)
  replace hk12:=zG hk12
  have hi21:Hid (w64 ((↑k2:Int) + 1)=(↑(k2 + 1):Int)):=zG (by have h1:=hle5.out;have h2:=c20.out;rw [wAK] <;> omega)
  refine sR fL1 Z (oR Z (zS Z fi13 f19) (eN (zB (cT Z c20 (kN (zB (zL (sR fL2 Z (oM Z fi13 (oA Z Z (eN (sR (wIQ (.fx 5 (.nil) .stop)) Z (oM Z f18 (oM Z f17 (oM Z Z (bnK hx10 fun x22 h23 hm24=>?_))))))))))))))))
  have h25:=ha0.le le15
  have q:=h25.el (wAE h23)
  obtain ⟨b26,off27,vs30,hA28,hC29,hr31⟩:=q
  obtain ⟨pA32,pc33,pA34,pc35,rfl,h36,h37⟩:=hr31
  replace hC29:Cl U14 b26 (off27 + k2 * 3) [jV x22.Bib,.slice pA32 x22.Classes.length pc33,.slice pA34 x22.Legs.length pc35]:=hC29
  refine oR Z (zx Z Z hA28 Z zn zz (wAc h23)) (oL Z (hS16.ldCA (f:=0) hC29 Z Z yD zz (us:=[jV x22.Bib,.slice pA32 x22.Classes.length pc33,.slice pA34 x22.Legs.length pc35]) Z Z) (bnK hm24 fun x38 h39 hm40=>?_))
  have h47:=ha1.le le15
  refine OKS.callV (a:=x22) Z Z Z Z Z Z (zH Z ze) hS16 h47 ⟨pA32,pc33,pA34,pc35,Z,h36,h37⟩ h39 ?_
  rintro U41 L42 v43 W44 le45 hS46 ⟨rfl,rfl⟩
  have hS48:sW w U U41 [] W44:=hS46
  refine eN (ifc hm40 ?_ ?_)
  ·intro c49 hm50
   refine zp (congrArg nB c49.out) (sR fL2 Z (oM Z Z (oA Z Z (eN (zM (zK (zC ?_)))))))
   have q:=wAF hm50
   obtain ⟨v51,hm52,e53⟩:=q
   obtain rfl:=wBd hm hX4 (hb11 v51 e53)
   refine zC (zK (zC ?_))
   cases hm52
   exact ⟨Z,_,(zt Z),U41,_,hS48,Z,Z⟩
  ·intro c49 hm54
   refine zo (congrArg nB (nD.2 c49.out)) (ZW (zg (zF (rR fL2 Z (oR Z (ZD (zU Z fi13 Z) (congrArg (jV) hi21.out)) (oM Z Z (zj ?_)))))))
   obtain rfl:=nA hm54
   exact zF ⟨Z,_,Z,⟨U41,Z,f17,f18,f19,(le15.trans le45),hS48⟩⟩
 ·rintro ⟨⟩ σ55 W56 ⟨U59,fi58,f62,f63,f64,le60,hS61⟩ hb57
  have hm65:=wCv hm hX4 hb57
  try dsimp only at hm65
  have c66:Hid (¬ ((↑(((↑p0.length:Int):Int) - 0).toNat:Int) < (↑p0.length:Int))):=zG (wAa)
  refine sR fL1 Z (oR Z (zS Z fi58 f64) (eN (zB (cF Z c66 (ZG (zW (zW (zr (zF (sR fL1 Z (oA Z Z (eN (zM ?_)))))))))))))
  cases hm65
  exact ⟨Z,_,(zt Z),U59,_,hS61,Z,Z⟩
end Go.Proofs.YthbficbpebiekaaGreat
namespace Go.Proofs.YthbficbpebiekaaGreat
open Go.KL
set_option maxHeartbeats 4000000
theorem wCZ (p0:List wAC) (pA0:Option Addr) (pc0:Nat) (p1:(wAC->Option Bool)) (pv1:Value) (w:World) (U:PHeap) (hS:St0 w U []) (ha0:SlR U wCS pA0 pc0 p0) (ha1:FnOK Tryz.prog U pv1 wLH wLI p1) {r:Bool} (hm:wAQ p0 p1=some r):Gv Tryz.prog 172 [.slice pA0 p0.length pc0,pv1] w (wCj w [] U (fun U_ L_ v=>v=.bool r/\L_=[])):=by
 unfold wAQ at hm
 refine Gv.of Tryz.func172 Z Tryz.ntmps172 Tryz.results172 Z (sR fL1 Z (oA Z Z (eN (sR (.fl 0 (.fl 1 (.fx 2 (.fl 3 (.fl 4 (.nil))) .stop))) Z (oM Z Z (oM Z Z (bnK hm fun x1 h2 hm3=>zQ 0 Z Z Z Z (zR Z Z Tryz.call252 (zH Z (zH Z ze)) Z) hS (fun hs=>wCf p0 pA0 pc0 p1 pv1 w U hs ha0 ha1 h2) (.inr Z) ?_)))))))
 rintro U4 L5 v6 W7 le8 hS9 ⟨rfl,rfl⟩
 have hS10:sW w U U4 [] W7:=hS9
 refine oR Z (Runs.geq Z Z Z) (oA Z Z (eN (zM ?_)))
 cases hm3
 exact ⟨Z,_,(zt Z),U4,_,hS10,Z,Z⟩
theorem wCy (p0:List wAC) (pA0:Option Addr) (pc0:Nat) (p1:(wAC->Option Bool)) (pv1:Value) (w:World) (U:PHeap) (hS:St0 w U []) (ha0:SlR U wCS pA0 pc0 p0) (ha1:FnOK Tryz.prog U pv1 wLH wLI p1) {r:Bool} (hm:wAd p0 p1=some r):Gv Tryz.prog 87 [.slice pA0 p0.length pc0,pv1] w (wCj w [] U (fun U_ L_ v=>v=.bool r/\L_=[])):=by
 unfold wAd at hm
 refine Gv.of Tryz.func87 Z Tryz.ntmps87 Tryz.results87 Z (sR (.fx 0 (.fl 1 (.nil)) .stop) Z (Ze (cs:=[pv1]) Z Z Z Z Z Z (FnOK.cells ha1) hS ?_))
 intro W1 b2 hS3
 have q:=hS3.freeze (k:=0) rfl
 obtain ⟨U5,le6,hC7,hS8⟩:=q
 replace hC7:=Cl.of hC7
 have hS9:sW w U U5 [] W1:=hS8
 replace hC7:Cl U5 b2 0 [pv1]:=hC7
 refine oA Z Z (eN (sR (.fl 0 (.fl 1 (.fx 2 (.fl 3 (.fl 4 (.nil))) .stop))) Z (oM Z Z (oR Z (Runs.mkf Z ze (zH Z ze)) ?_))))
 have h10:=ha0.le le6
 have h11:=ha1.le le6
 have hF12:FnOK Tryz.prog U5 (.func (.func 173) #[] #[.pointer (some ⟨b2,0,none⟩)]) wLH wLI (fun x=>wAg x p1):=⟨173,[],[.pointer (some ⟨b2,0,none⟩)],rfl,Tryz.call173,fun U1 w1 x y vs le hs ha hm=>by obtain ⟨pA_0_1,pc_0_1,pA_0_2,pc_0_2,rfl,hq0_0,hq0_1⟩:=ha;exact wDu x pA_0_1 pc_0_1 pA_0_2 pc_0_2 p1 b2 pv1 w1 U1 hs hq0_0 hq0_1 (hC7.le le) (h11.le le) hm⟩
 refine bnK hm fun x13 h14 hm15=>zQ 0 Z Z Z Z (zR Z Z Tryz.call172 (zH Z (zH Z ze)) Z) hS9 (fun hs=>wCZ p0 pA0 pc0 (fun x=>wAg x p1) (.func (.func 173) #[] #[.pointer (some ⟨b2,0,none⟩)]) W1 U5 hs h10 hF12 h14) (.inr Z) ?_
 rintro U16 L17 v18 W19 le20 hS21 ⟨rfl,rfl⟩
 have hS22:sW w U U16 [] W19:=hS21
 refine oR Z (Za Z Z) (oA Z Z (eN (zM ?_)))
 cases hm15
 exact ⟨Z,_,(zt Z),U16,_,hS22,Z,Z⟩
theorem wHv (p0:wAC) (pA0_1:Option Addr) (pc0_1:Nat) (pA0_2:Option Addr) (pc0_2:Nat) (w:World) (U:PHeap) (hS:St0 w U []) (ha0:Sl U 1 pA0_1 pc0_1 p0.Classes.length (nE KL.encI p0.Classes)) (ha1:SlR U wFs pA0_2 pc0_2 p0.Legs) {r:Bool} (hm:wBw p0=some r):Gv Tryz.prog 89 [.agg #[jV p0.Bib,.slice pA0_1 p0.Classes.length pc0_1,.slice pA0_2 p0.Legs.length pc0_2]] w (wCj w [] U (fun U_ L_ v=>v=.bool r/\L_=[])):=by
 unfold wBw at hm
 refine Gv.of Tryz.func89 Z Tryz.ntmps89 Tryz.results89 Z (sR (.fx 0 (.fl 1 (.nil)) .stop) Z ?_)
 let B0:List Value:=[jV p0.Bib,.slice pA0_1 p0.Classes.length pc0_1,.slice pA0_2 p0.Legs.length pc0_2]
 refine Ze (cs:=B0) rfl rfl rfl rfl rfl rfl (by rfl) hS ?_
 intro W1 b2 hS3
 refine oA Z Z (eN (sR (.fl 0 (.fl 1 (.fx 2 (wSP (.fx 6 (.fl 7 (.fl 8 (.nil))) .stop)) .stop))) Z (oR Z (zA Z Z zl Z zI) (oL Z (hS3.ldB (j:=0) Z Z Z zP (v:=jV p0.Bib) Z) (bnK hm fun x5 h6 hm7=>zQ 0 Z Z Z Z (zR Z Z yQ (zH Z (zH Z (zH Z ze))) Z) hS3 (fun hs=>wCB p0.Bib 1 999 W1 U hs h6) (.inr Z) ?_)))))
 rintro U8 L9 v10 W11 le12 hS13 ⟨rfl,rfl⟩
 have hS14:sW w U U8 [.blk b2 127 B0] W11:=hS13
 refine oM Z Z (ifc hm7 ?_ ?_)
 ·intro c15 hm16
  refine zu Z Z Z (zJ Z Z (congrArg nB c15.out)) (fun _=>zA Z Z zl Z zO) (ZN Z Z Z (zJ Z Z (congrArg nB c15.out)) (hS14.ldB (j:=0) Z Z Z zd (v:=.slice pA0_1 p0.Classes.length pc0_1) Z) Z ?_)
  have h17:=ha0.le le12
  refine bnK hm16 fun x18 h19 hm20=>zQ 0 Z Z Z (zJ Z Z (congrArg nB c15.out)) (zR Z Z Tryz.call90 (zH Z ze) Z) hS14 (fun hs=>wEn p0.Classes pA0_1 pc0_1 W11 U8 hs h17 h19) (.inr Z) ?_
  rintro U21 L22 v23 W24 le25 hS26 ⟨rfl,rfl⟩
  have hS27:sW w U U21 [.blk b2 127 B0] W24:=hS26
  refine oR Z (zi Z (congrArg nB c15.out) Z) (oA Z Z (eN (zM ?_)))
  have hE:=nA hm20;first | subst r | cases hE
  exact ⟨rfl,_,(zt rfl),U21,_,(hS27.pick [] _ (by decide) rfl),rfl,rfl⟩
 ·intro c15 hm28
  refine ZA Z Z Z (zf Z Z (congrArg nB (nD.2 c15.out)) Z) (ZA Z Z Z (zf Z Z (congrArg nB (nD.2 c15.out)) Z) (Zj Z Z Z (zf Z Z (congrArg nB (nD.2 c15.out)) Z) (oR Z (zh Z (congrArg nB (nD.2 c15.out)) Z) (oA Z Z (eN (zM ?_))))))
  have hE:=nA hm28;first | subst r | cases hE
  exact ⟨rfl,_,(zt rfl),U8,_,(hS14.pick [] _ (by decide) rfl),rfl,rfl⟩
theorem wCt {S E:Type} (PY:S->PHeap->List Res->Prop) (PE:E->PHeap->List Res->Prop) (f:S->(wAC × wAH)->Option (S ⊕ E)) (y:Nat) (s0:S) (p1:wAA) (pb1:Nat) (pA1_0_0:Option Addr) (pc1_0_0:Nat) (pA1_2:Option Addr) (pc1_2:Nat) (w:World) (L:List Res) (U:PHeap) (hS:St ⟨w,L,U⟩ U L w) (hP:PY s0 U L) (hY:YOK Tryz.prog y wQB PY PE f U) (ha0:Cl U pb1 0 [.slice pA1_0_0 p1.Rules.Classes.length pc1_0_0,jV p1.Rules.Each,jV p1.Rules.Laps,jV p1.Rules.Spare,jV p1.Rules.Loop,jV p1.Rules.Unused,jV p1.Start,.slice pA1_2 p1.Teams.length pc1_2]) (ha1:Sl U 1 pA1_0_0 pc1_0_0 p1.Rules.Classes.length (nE KL.encI p1.Rules.Classes)) (ha2:SlR U wCS pA1_2 pc1_2 p1.Teams) {r:S ⊕ E} (hm:wAn f s0 p1=some r):Gv Tryz.prog 175 [.func (.yield y) #[] #[],.pointer (some ⟨pb1,0,none⟩)] w (ItS w L U PY PE r):=by
 unfold wAn at hm
 refine Gv.of Tryz.func175 Z Tryz.ntmps175 Tryz.results175 Z (sR fL4 Z (oR Z (zA Z Z zY Z Zb) (oL Z (hS.ldC (f:=7) ha0 (v:=.slice pA1_2 p1.Teams.length pc1_2) Z Z Zg Z) (oR Z (zN Z Z zn) (oM Z Z (eN (zL ?_)))))))
 have q:=wCM hm
 obtain ⟨r13,hX14⟩:=q
 have q:=wCL hX14
 obtain ⟨hle15,hf16⟩:=q
 replace hle15:=zG hle15
 refine yK (fun k12 s10 σ_ w_=>∃ (U_:PHeap) (LY11:List Res),σ_ 10=jV (↑k12:Int)/\σ_ 0=.func (.yield y) #[] #[]/\σ_ 8=.slice pA1_2 p1.Teams.length pc1_2/\σ_ 9=jV (↑p1.Teams.length:Int)/\PHeap.Le U U_/\St ⟨w,L,U⟩ U_ LY11 w_/\PY s10 U_ LY11) hf16 ?_ ?_ ?_
 ·exact ⟨U,L,Z,Z,Z,Z,(zZ _),hS,hP⟩
 ·rintro k12 s10 xx19 σ17 W18 hk22 ⟨U24,LY11,fi23,f27,f28,f29,le25,hS26,h30⟩ hx20 hb21
  have c31:Hid ((↑k12:Int) < (↑p1.Teams.length:Int)):=zG (wAy hk22)
  replace hk22:=zG hk22
  have hi32:Hid (w64 ((↑k12:Int) + 1)=(↑(k12 + 1):Int)):=zG (by have h1:=hle15.out;have h2:=c31.out;rw [wAK] <;> omega)
  refine sR fL1 Z (oR Z (zS Z fi23 f29) (eN (zB (cT Z c31 (kN (zB (zL (sR (.fl 0 (.fl 1 (.fx 2 (.fx 3 (.nil) .stop) .stop))) Z (bnK hx20 fun x33 h34 hm35=>?_)))))))))
  have h36:=ha2.le le25
  have q:=h36.el (wAE h34)
  obtain ⟨b37,off38,vs41,hA39,hC40,hr42⟩:=q
  obtain ⟨pA43,pc44,pA45,pc46,rfl,h47,h48⟩:=hr42
  replace hC40:Cl U24 b37 (off38 + k12 * 3) [jV x33.Bib,.slice pA43 x33.Classes.length pc44,.slice pA45 x33.Legs.length pc46]:=hC40
  refine oR Z (zx Z f28 hA39 fi23 zn zz (wAc h34)) (oL Z (hS26.ldCA (f:=0) hC40 Z Z yD zz (us:=[jV x33.Bib,.slice pA43 x33.Classes.length pc44,.slice pA45 x33.Legs.length pc46]) Z Z) ?_)
  let B0:List Value:=[jV 0,.slice none 0 0,.slice none 0 0]
  refine zq (cs:=B0) Z Z Z Z Z Zi Z hS26 ?_
  intro W49 b50 hS51
  let B1:List Value:=[jV x33.Bib,.slice pA43 x33.Classes.length pc44,.slice pA45 x33.Legs.length pc46]
  refine ZE (j:=0) (vs:=B1) Z Z Z Z hS51 Z Z Z Z zz (zD Z) Z Z Z ?_
  intro W53 hS54
  have hS55:St ⟨w,L,U⟩ U24 (.blk b50 127 B1 :: LY11) W53:=hS54
  refine eN (sR fL4 Z (oR Z (zA Z Z zl Z Zo) (oL Z (hS55.ldB (j:=0) Z Z Z Zw (v:=.slice pA45 x33.Legs.length pc46) Z) (oR Z (zN Z Z ZI) (oM Z Z (eN (zL ?_)))))))
  have q:=wCM hm35
  obtain ⟨r67,hX68⟩:=q
  have q:=wCL hX68
  obtain ⟨hle69,hf70⟩:=q
  replace hle69:=zG hle69
  refine yK (fun k66 s64 σ_ w_=>∃ (U_:PHeap) (LY65:List Res),σ_ 17=jV (↑k66:Int)/\σ_ 0=.func (.yield y) #[] #[]/\σ_ 4=.pointer (some ⟨b50,0,none⟩)/\σ_ 8=.slice pA1_2 p1.Teams.length pc1_2/\σ_ 9=jV (↑p1.Teams.length:Int)/\σ_ 10=jV (↑k12:Int)/\σ_ 15=.slice pA45 x33.Legs.length pc46/\σ_ 16=jV (↑x33.Legs.length:Int)/\PHeap.Le U24 U_/\St ⟨w,L,U⟩ U_ (.blk b50 127 B1 :: LY65) w_/\PY s64 U_ LY65) hf70 ?_ ?_ ?_
  ·exact ⟨U24,LY11,Z,f27,Z,f28,f29,fi23,Z,Z,(zZ _),hS55,h30⟩
  ·rintro k66 s64 xx73 σ71 W72 hk76 ⟨U78,LY65,fi77,f81,f82,f83,f84,f85,f86,f87,le79,hS80,h88⟩ hx74 hb75
   have c89:Hid ((↑k66:Int) < (↑x33.Legs.length:Int)):=zG (wAy hk76)
   replace hk76:=zG hk76
   have hi90:Hid (w64 ((↑k66:Int) + 1)=(↑(k66 + 1):Int)):=zG (by have h1:=hle69.out;have h2:=c89.out;rw [wAK] <;> omega)
   refine sR fL1 Z (oR Z (zS Z fi77 f87) (eN (zB (cT Z c89 (kN (zB (zL (sR (.fl 0 (.fl 1 (.fx 2 (.fx 3 (.nil) .stop) .stop))) Z (bnK hx74 fun x91 h92 hm93=>?_)))))))))
   have h94:=h48.le le79
   have q:=h94.el (wAE h92)
   obtain ⟨b95,off96,vs99,hA97,hC98,hr100⟩:=q
   obtain ⟨pA101,pc102,pA103,pc104,rfl,h105,h106⟩:=hr100
   replace hC98:Cl U78 b95 (off96 + k66 * 3) [jV x91.Skier,.slice pA101 x91.Loops.length pc102,.slice pA103 x91.Bouts.length pc104]:=hC98
   refine oR Z (zx Z f86 hA97 fi77 ZI ZL (wAc h92)) (oL Z (hS80.ldCA (f:=0) hC98 Z Z yR ZL (us:=[jV x91.Skier,.slice pA101 x91.Loops.length pc102,.slice pA103 x91.Bouts.length pc104]) Z Z) (zq (cs:=B0) Z Z Z Z Z Zq Z hS80 ?_))
   intro W107 b108 hS109
   let B2:List Value:=[jV x91.Skier,.slice pA101 x91.Loops.length pc102,.slice pA103 x91.Bouts.length pc104]
   refine ZE (j:=0) (vs:=B2) Z Z Z Z hS109 Z Z Z Z ZL (zD Z) Z Z Z ?_
   intro W111 hS112
   have hS113:St ⟨w,L,U⟩ U78 (.blk b108 130 B2 :: .blk b50 127 B1 :: LY65) W111:=hS112
   refine eN (sR (wEK (.fx 3 (.fl 4 (.nil)) .stop)) Z (oM Z f81 (oL Z (hS113.ldBA (j:=1) Z Z f82 yD zz (vs:=B1) Z Z) (oL Z (hS113.ldBA (j:=0) Z Z Z yR ZL (vs:=B2) Z Z) ?_))))
   have h114:=h47.le le79
   refine bnK hm93 fun yr115 h116 hm117=>OKS.yieldT 2 (a:=(x33,x91)) Z Z Z Z Z Z (zH Z (zH Z ze)) hS113 hY (le25.trans le79) h88 ⟨pA43,pc44,pA45,pc46,pA101,pc102,pA103,pc104,Z,h114,h94,h105,h106⟩ h116 Z ?_
   rintro U118 LY119 b120 W121 le122 hS123 hM124
   rcases yr115 with s125 | s125
   ·try dsimp only at hm117 hM124
    obtain ⟨rfl,hp126⟩:=hM124
    have hS127:St ⟨w,L,U⟩ U118 (.blk b108 130 B2 :: .blk b50 127 B1 :: LY119) W121:=hS123
    refine oR Z (Za Z Z) (eN (zo Z (ZW (zg (zF (rR fL2 Z (oR Z (ZD (zU Z fi77 Z) (congrArg (jV) hi90.out)) (oM Z Z (zj ?_)))))))))
    obtain rfl:=nA hm117
    exact zF ⟨Z,_,Z,⟨U118,LY119,Z,f81,f82,f83,f84,f85,f86,f87,(le79.trans le122),(hS127.drop 0),hp126⟩⟩
   ·try dsimp only at hm117 hM124
    obtain ⟨rfl,hp130⟩:=hM124
    have hS131:St ⟨w,L,U⟩ U118 (.blk b108 130 B2 :: .blk b50 127 B1 :: LY119) W121:=hS123
    refine oR Z (Za Z Z) (eN (zp Z (zM (zK (zC ?_)))))
    have q:=wAF hm117
    obtain ⟨v132,hm133,e134⟩:=q
    obtain rfl:=wBd hm35 hX68 (hb75 v132 e134)
    refine zC (zK (zK (zC ?_)))
    have q:=wAF hm133
    obtain ⟨v135,hm136,e137⟩:=q
    obtain rfl:=wBd hm hX14 (hb21 v135 e137)
    refine zC (zK ?_)
    cases hm136
    exact ⟨Z,_,(res0),U118,_,((hS131.drop 1).drop 0),hp130⟩
  ·rintro y142 σ138 W139 ⟨U144,L143,fi141,f147,f148,f149,f150,f151,f152,f153,le145,hS146,h154⟩ hb140
   have hm155:=wCv hm35 hX68 hb140
   have c156:Hid (¬ ((↑(((↑x33.Legs.length:Int):Int) - 0).toNat:Int) < (↑x33.Legs.length:Int))):=zG (wAa)
   refine sR fL1 Z (oR Z (zS Z fi141 f153) (eN (zB (cF Z c156 (ZG (zW (zW (zr (zg (zF (rR fL2 Z (oR Z (ZD (zU Z f151 Z) (congrArg (jV) hi32.out)) (oM Z Z (zj ?_))))))))))))))
   obtain rfl:=nA hm155
   exact zF ⟨Z,_,Z,⟨U144,L143,Z,f147,f149,f150,(le25.trans le145),(hS146.drop 0),h154⟩⟩
 ·rintro y163 σ159 W160 ⟨U165,L164,fi162,f168,f169,f170,le166,hS167,h171⟩ hb161
  have hm172:=wCv hm hX14 hb161
  have c173:Hid (¬ ((↑(((↑p1.Teams.length:Int):Int) - 0).toNat:Int) < (↑p1.Teams.length:Int))):=zG (wAa)
  refine sR fL1 Z (oR Z (zS Z fi162 f170) (eN (zB (cF Z c173 (ZG (zW (zW (zr ?_))))))))
  cases hm172
  exact ⟨Z,_,(res0),U165,_,hS167,h171⟩
theorem wDG (p0:wAA) (pA0_0_0:Option Addr) (pc0_0_0:Nat) (pA0_2:Option Addr) (pc0_2:Nat) (w:World) (U:PHeap) (hS:St0 w U []) (ha0:Sl U 1 pA0_0_0 pc0_0_0 p0.Rules.Classes.length (nE KL.encI p0.Rules.Classes)) (ha1:SlR U wCS pA0_2 pc0_2 p0.Teams) {r:Unit} (hm:wBc p0=some r):Gv Tryz.prog 91 [.agg #[.slice pA0_0_0 p0.Rules.Classes.length pc0_0_0,jV p0.Rules.Each,jV p0.Rules.Laps,jV p0.Rules.Spare,jV p0.Rules.Loop,jV p0.Rules.Unused,jV p0.Start,.slice pA0_2 p0.Teams.length pc0_2]] w (wCj w [] U (fun U_ L_ v=>∃ (b0:Nat),v=.func (.func 175) #[] #[.pointer (some ⟨b0,0,none⟩)]/\L_=[]/\Cl U_ b0 0 [.slice pA0_0_0 p0.Rules.Classes.length pc0_0_0,jV p0.Rules.Each,jV p0.Rules.Laps,jV p0.Rules.Spare,jV p0.Rules.Loop,jV p0.Rules.Unused,jV p0.Start,.slice pA0_2 p0.Teams.length pc0_2])):=by
 unfold wBc at hm
 refine Gv.of Tryz.func91 Z Tryz.ntmps91 Tryz.results91 Z (sR (.fx 0 (.fl 1 (.nil)) .stop) Z ?_)
 let B0:List Value:=[.slice pA0_0_0 p0.Rules.Classes.length pc0_0_0,jV p0.Rules.Each,jV p0.Rules.Laps,jV p0.Rules.Spare,jV p0.Rules.Loop,jV p0.Rules.Unused,jV p0.Start,.slice pA0_2 p0.Teams.length pc0_2]
 refine Ze (cs:=B0) rfl rfl rfl rfl rfl rfl (by rfl) hS ?_
 intro W1 b2 hS3
 have q:=hS3.freeze (k:=0) rfl
 obtain ⟨U5,le6,hC7,hS8⟩:=q
 replace hC7:=Cl.of hC7
 have hS9:sW w U U5 [] W1:=hS8
 replace hC7:Cl U5 b2 0 B0:=hC7
 refine oA Z Z (eN (sR fL2 Z (oR Z (Runs.mkf Z ze (zH Z ze)) (oA Z Z (eN (zM ?_))))))
 cases hm
 exact ⟨Z,_,(zt Z),U5,_,hS9,b2,Z,Z,hC7⟩
theorem wHw (p0:Int) (w:World) (U:PHeap) (hS:St0 w U [])  {r:Bool} (hm:wBV p0=some r):Gv Tryz.prog 93 [jV p0] w (wCj w [] U (fun U_ L_ v=>v=.bool r/\L_=[])):=by
 unfold wBV at hm
 refine Gv.of Tryz.func93 Z Tryz.ntmps93 Tryz.results93 Z (sR fL1 Z (oA Z Z (eN (sR (.fl 0 (.fx 1 (.fl 2 (.nil)) .stop)) Z (oM Z Z (bnK hm fun x1 h2 hm3=>zQ 0 Z Z Z Z (zR Z Z yQ (zH Z (zH Z (zH Z ze))) Z) hS (fun hs=>wCB p0 1 9000 w U hs h2) (.inr Z) ?_))))))
 rintro U4 L5 v6 W7 le8 hS9 ⟨rfl,rfl⟩
 have hS10:sW w U U4 [] W7:=hS9
 refine oA Z Z (eN (zM ?_))
 have hE:=nA hm3;first | subst r | cases hE
 exact ⟨Z,_,(zt Z),U4,_,hS10,Z,Z⟩
theorem wGd (p0:List Bool) (pA0:Option Addr) (pc0:Nat) (w:World) (U:PHeap) (hS:St0 w U []) (ha0:Sl U 1 pA0 pc0 p0.length (nE KL.encT p0)) {r:wAY × Int} (hm:wCU p0=some r):Gv Tryz.prog 71 [.slice pA0 p0.length pc0] w (wCj w [] U (fun U_ L_ v=>v=.tuple #[.agg #[jV r.1.Spares,jV r.1.Loops,jV r.1.Unused],jV r.2]/\L_=[])):=by
 unfold wCU at hm
 refine Gv.of Tryz.func71 Z Tryz.ntmps71 Tryz.results71 Z (sR (.fx 0 (.fl 1 (.nil)) .stop) Z ?_)
 let B0:List Value:=[jV 0,jV 0,jV 0]
 refine zq (cs:=B0) Z Z Z Z Z yU Z hS ?_
 intro W1 b2 hS3
 refine oA Z Z (eN (zB (sR (.fl 0 (.fl 1 (.fx 2 (.fl 3 (.nil)) .stop))) Z (oM Z Z (oR Z (zN Z Z ZO) (bnK hm fun x5 h6 hm7=>zQ 0 Z Z Z Z (zR Z Z yQ (zH Z (zH Z (zH Z ze))) Z) hS3 (fun hs=>wCB (↑p0.length:Int) 5 8 W1 U hs h6) (.inr Z) ?_))))))
 rintro U8 L9 v10 W11 le12 hS13 ⟨rfl,rfl⟩
 have hS14:sW w U U8 [.blk b2 133 B0] W11:=hS13
 refine oR Z (Za Z Z) (eN (ifc hm7 ?_ ?_))
 ·intro c15 hm16
  refine zo (nC c15.out) (kN (sR fL1 Z (oA Z Z (eN (zB (sR fL3 Z (oM Z Z (oR Z (zN Z Z ZO) (oM Z Z (eN (zL ?_)))))))))))
  have q:=wCM hm16
  obtain ⟨r24,hX25⟩:=q
  have q:=wCL hX25
  obtain ⟨hle26,hf27⟩:=q
  replace hle26:=zG hle26
  refine yK (fun k23 x22 σ_ w_=>∃ (U_:PHeap),σ_ 15=jV (↑k23:Int)/\σ_ 0=.slice pA0 p0.length pc0/\σ_ 2=.pointer (some ⟨b2,0,none⟩)/\σ_ 4=jV x22/\σ_ 13=.slice pA0 p0.length pc0/\σ_ 14=jV (↑p0.length:Int)/\PHeap.Le U8 U_/\sW w U U_ [.blk b2 133 B0] w_) hf27 ?_ ?_ ?_
  ·exact ⟨U8,Z,Z,Z,Z,Z,Z,(zZ _),hS14⟩
  ·rintro k23 x22 xx30 σ28 W29 hk33 ⟨U35,fi34,f38,f39,f40,f41,f42,le36,hS37⟩ hx31 hb32
   have c43:Hid ((↑k23:Int) < (↑p0.length:Int)):=zG (wAy hk33)
   replace hk33:=zG hk33
   have hi44:Hid (w64 ((↑k23:Int) + 1)=(↑(k23 + 1):Int)):=zG (by have h1:=hle26.out;have h2:=c43.out;rw [wAK] <;> omega)
   refine sR fL1 Z (oR Z (zS Z fi34 f42) (eN (zB (cT Z c43 (kN (zB (zL (sR fL3 Z (bnK hx31 fun x45 h46 hm47=>?_)))))))))
   have h48:=ha0.le le12
   have h49:=h48.le le36
   have q:=h49.el (fun _=>rfl) (wAE h46)
   obtain ⟨b50,off51,hA52,hC53⟩:=q
   refine oR Z (zx Z f41 hA52 fi34 ZO Tryz.sizeOf4 (wAc h46)) (oL Z (hS37.ldC (f:=0) hC53 (v:=.bool x45) Z Z Tryz.isAgg4 Z) (oA Z Z (eN (zB (sR fL2 Z (oM Z f40 (oR Z (yI Z Z Z) (eN (ifc hm47 ?_ ?_)))))))))
   ·intro c54 hm55
    refine cT Z c54 (sR (.fl 0 (.fx 1 (.fl 2 (.nil)) .stop)) Z (oR Z (Zh (pv:=[]) (z:=B0) (cs:=B0) Z wAU yU wHt Z Z) (ZE (j:=0) (vs:=B0) Z Z Z Z hS37 Z f39 Z Z Zx (zD Z) Z Z Z ?_)))
    intro W56 hS57
    have hS58:sW w U U35 [.blk b2 133 B0] W56:=hS57
    refine oA Z Z (eN (zM (zC (zK (zC ?_)))))
    have q:=wAF hm55
    obtain ⟨v59,hm60,e61⟩:=q
    obtain rfl:=wBd hm16 hX25 (hb32 v59 e61)
    refine zC (zK (zC ?_))
    cases hm60
    exact ⟨rfl,_,(wFk (rs:=[.cell 2 133,.tmp 3]) (vs:=[.agg B0.toArray,jV 8]) ⟨⟨_,f39,(wDO Tryz.isAgg133 Zx (hS58.blkAt (k:=0) rfl) (vs:=B0) rfl rfl)⟩,⟨rfl,trivial⟩⟩ rfl),U35,_,(hS58.pick [] _ (by decide) rfl),rfl,rfl⟩
   ·intro c54 hm62
    refine cF Z c54 (kN (sR fL1 Z (oM Z Z (eN (ifc hm62 ?_ ?_)))))
    ·intro c63 hm64
     refine zp (congrArg nB c63.out) (rR fL3 Z (oM Z f40 (oR Z (Zn Z Z Z) (oA Z Z (zj (zg (zF (rR fL2 Z (oR Z (ZD (zU Z fi34 Z) (congrArg (jV) hi44.out)) (oM Z Z (zj ?_)))))))))))
     obtain rfl:=nA hm64
     exact zF ⟨Z,_,Z,⟨U35,Z,f38,f39,Z,f41,f42,le36,hS37⟩⟩
    ·intro c63 hm66
     refine zo (congrArg nB (nD.2 c63.out)) (ZW (zg (zF (rR fL2 Z (oR Z (ZD (zU Z fi34 Z) (congrArg (jV) hi44.out)) (oM Z Z (zj ?_)))))))
     obtain rfl:=nA hm66
     exact zF ⟨Z,_,Z,⟨U35,Z,f38,f39,f40,f41,f42,le36,hS37⟩⟩
  ·rintro y72 σ68 W69 ⟨U73,fi71,f76,f77,f78,f79,f80,le74,hS75⟩ hb70
   have hm81:=wCv hm16 hX25 hb70
   have c82:Hid (¬ ((↑(((↑p0.length:Int):Int) - 0).toNat:Int) < (↑p0.length:Int))):=zG (wAa)
   refine sR fL1 Z (oR Z (zS Z fi71 f80) (eN (zB (cF Z c82 (ZG (zW (zW (zr (zF (sR (wIQ (.fx 5 (.fx 6 (.nil) .stop) .stop)) Z (oM Z f76 (oR Z (zN Z Z ZO) (oR Z (Zn Z Z Z) (oM Z f78 ?_))))))))))))))
   let B1:List Value:=[jV (w64 ((↑p0.length:Int) - 5)),jV y72,jV 0]
   refine oR Z (Zh (pv:=[(0,jV (w64 ((↑p0.length:Int) - 5))),(1,jV y72)]) (z:=B0) (cs:=B1) Z (wAI Z (wAI Z wAU)) yU wHt Z Z) (zq (cs:=B0) Z Z Z Z Z yU Z hS75 ?_)
   intro W83 b84 hS85
   refine ZE (j:=0) (vs:=B1) Z Z Z Z hS85 Z Z Z Z Zx (zD Z) Z Z Z ?_
   intro W87 hS88
   have hS89:sW w U U73 [.blk b84 133 B1,.blk b2 133 B0] W87:=hS88
   refine eN (zB (sR fL2 Z (oM Z f78 (oR Z (yF Z Z Z) (eN (ifc hm81 ?_ ?_))))))
   ·intro c90 hm91
    refine cT Z c90 (rR (wLY (.fx 4 (.nil) .stop)) Z (oM Z f76 (oR Z (zN Z Z ZO) (oR Z (Zn Z Z Z) (oR Z (zA Z Z Tryz.runUnderlying133 Z zI) (ZE (j:=0) (vs:=[jV (w64 (8 - (↑p0.length:Int)))]) Z Z Z Z hS89 Z Z Z Z zI (zD Z) Z Z Z ?_))))))
    intro W92 hS93
    let B2:List Value:=[jV (w64 ((↑p0.length:Int) - 5)),jV y72,jV (w64 (8 - (↑p0.length:Int)))]
    have hS94:sW w U U73 [.blk b84 133 B2,.blk b2 133 B0] W92:=hS93
    refine eN (sR (.fl 0 (.fx 1 (.fl 2 (.nil)) .stop)) Z (oL Z (hS94.ldBA (j:=0) Z Z Z Tryz.isAgg133 Zx (vs:=B2) Z Z) (ZE (j:=1) (vs:=B2) Z Z Z Z hS94 Z f77 Z Z Zx (zD Z) Z Z Z ?_)))
    intro W95 hS96
    have hS97:sW w U U73 [.blk b84 133 B2,.blk b2 133 B2] W95:=hS96
    refine oA Z Z (eN (zM ?_))
    cases hm91
    exact ⟨rfl,_,(wFk (rs:=[.cell 2 133,.tmp 3]) (vs:=[.agg B2.toArray,jV 0]) ⟨⟨_,f77,(wDO Tryz.isAgg133 Zx (hS97.blkAt (k:=1) rfl) (vs:=B2) rfl rfl)⟩,⟨rfl,trivial⟩⟩ rfl),U73,_,(hS97.pick [] _ (by decide) rfl),rfl,rfl⟩
   ·intro c90 hm98
    refine cF Z c90 (kN (sR (.fl 0 (.fx 1 (.fl 2 (.nil)) .stop)) Z (oL Z (hS89.ldBA (j:=0) Z Z Z Tryz.isAgg133 Zx (vs:=B1) Z Z) (ZE (j:=1) (vs:=B1) Z Z Z Z hS89 Z f77 Z Z Zx (zD Z) Z Z Z ?_))))
    intro W99 hS100
    have hS101:sW w U U73 [.blk b84 133 B1,.blk b2 133 B1] W99:=hS100
    refine oA Z Z (eN (zM ?_))
    cases hm98
    exact ⟨rfl,_,(wFk (rs:=[.cell 2 133,.tmp 3]) (vs:=[.agg B1.toArray,jV 0]) ⟨⟨_,f77,(wDO Tryz.isAgg133 Zx (hS101.blkAt (k:=1) rfl) (vs:=B1) rfl rfl)⟩,⟨rfl,trivial⟩⟩ rfl),U73,_,(hS101.pick [] _ (by decide) rfl),rfl,rfl⟩
 ·intro c15 hm102
  refine zp (nF (c15.out)) (sR (.fl 0 (.fx 1 (.fl 2 (.nil)) .stop)) Z (oR Z (Zh (pv:=[]) (z:=B0) (cs:=B0) Z wAU yU wHt Z Z) (ZE (j:=0) (vs:=B0) Z Z Z Z hS14 Z Z Z Z Zx (zD Z) Z Z Z ?_)))
  intro W103 hS104
  have hS105:sW w U U8 [.blk b2 133 B0] W103:=hS104
  refine oA Z Z (eN (zM (zC ?_)))
  cases hm102
  exact ⟨rfl,_,(wFk (rs:=[.cell 2 133,.tmp 3]) (vs:=[.agg B0.toArray,jV 2]) ⟨⟨_,rfl,(wDO Tryz.isAgg133 Zx (hS105.blkAt (k:=0) rfl) (vs:=B0) rfl rfl)⟩,⟨rfl,trivial⟩⟩ rfl),U8,_,(hS105.pick [] _ (by decide) rfl),rfl,rfl⟩
theorem wFw (p0:wAA) (pA0_0_0:Option Addr) (pc0_0_0:Nat) (pA0_2:Option Addr) (pc0_2:Nat) (w:World) (U:PHeap) (hS:St0 w U []) (ha0:Sl U 1 pA0_0_0 pc0_0_0 p0.Rules.Classes.length (nE KL.encI p0.Rules.Classes)) (ha1:SlR U wCS pA0_2 pc0_2 p0.Teams) {r:Int} (hm:wCC p0=some r):Gv Tryz.prog 13 [.agg #[.slice pA0_0_0 p0.Rules.Classes.length pc0_0_0,jV p0.Rules.Each,jV p0.Rules.Laps,jV p0.Rules.Spare,jV p0.Rules.Loop,jV p0.Rules.Unused,jV p0.Start,.slice pA0_2 p0.Teams.length pc0_2]] w (wCj w [] U (fun U_ L_ v=>v=jV r/\L_=[])):=by
 unfold wCC at hm
 refine Go.KX.Gv.ofM Tryz.func13 Z Tryz.ntmps13 Tryz.results13 (zD Z) (sR (.fx 0 (.fx 1 (.nil) .stop) .stop) Z ?_)
 let B0:List Value:=[.slice pA0_0_0 p0.Rules.Classes.length pc0_0_0,jV p0.Rules.Each,jV p0.Rules.Laps,jV p0.Rules.Spare,jV p0.Rules.Loop,jV p0.Rules.Unused,jV p0.Start,.slice pA0_2 p0.Teams.length pc0_2]
 refine Ze (cs:=B0) rfl rfl rfl rfl rfl rfl (by rfl) hS ?_
 intro W1 b2 hS3
 refine zq (cs:=[jV 0]) Z Z Z Z Z Tryz.zeroValue36 Z hS3 ?_
 intro W5 b6 hS7
 refine eN (sR (.fl 0 (.fl 1 (.fx 2 (.fl 3 (.nil)) .stop))) Z (oR Z (zA Z Z zY Z ZX) ?_))
 let B1:List Value:=[.slice pA0_0_0 p0.Rules.Classes.length pc0_0_0,jV p0.Rules.Each,jV p0.Rules.Laps,jV p0.Rules.Spare,jV p0.Rules.Loop,jV p0.Rules.Unused]
 refine oL Z (hS7.ldBA (j:=1) Z Z Z ya ZX (vs:=B1) Z Z) (bnK hm fun x9 h10 hm11=>zQ 0 Z Z Z Z (zR Z Z Tryz.call85 (zH Z ze) Z) hS7 (fun hs=>wFv p0.Rules pA0_0_0 pc0_0_0 W5 U hs ha0 h10) (.inr Z) ?_)
 rintro U12 L13 v14 W15 le16 hS17 ⟨rfl,rfl⟩
 let B2:Res:=.blk b6 36 [jV 0]
 have hS18:sW w U U12 [B2,.blk b2 27 B0] W15:=hS17
 refine oA Z Z (eN (zB (zL (sR fL3 Z (oM Z Z (oR Z (ZV Z Z Z) (oA Z Z (eN (ifc hm11 ?_ ?_)))))))))
 ·intro c19 hm20
  refine zo (zw (fun h=>h c19.out)) (sR (wEK (.fx 3 (wTm (.fx 11 (wST (.nil)) .stop)) .stop)) Z (oR Z (zA Z Z zY Z Zb) (oL Z (hS18.ldB (j:=1) Z Z Z Zg (v:=.slice pA0_2 p0.Teams.length pc0_2) Z) (oR Z (zN Z Z zn) (bnK hm20 fun x21 h22 hm23=>zQ 0 Z Z Z Z (zR Z Z yQ (zH Z (zH Z (zH Z ze))) Z) hS18 (fun hs=>wCB (↑p0.Teams.length:Int) 1 12 W15 U12 hs h22) (.inr Z) ?_)))))
  rintro U24 L25 v26 W27 le28 hS29 ⟨rfl,rfl⟩
  have hS30:sW w U U24 [B2,.blk b2 27 B0] W27:=hS29
  refine oR Z (Za Z Z) (oM Z Z (ifc hm23 ?_ ?_))
  ·intro c31 hm32
   refine zu Z Z Z (zJ Z Z (nC c31.out)) (fun _=>zA Z Z zY Z Zb) (ZN Z Z Z (zJ Z Z (nC c31.out)) (hS30.ldB (j:=1) Z Z Z Zg (v:=.slice pA0_2 p0.Teams.length pc0_2) Z) Z (zu Z Z Z (zJ Z Z (nC c31.out)) (fun _=>zA Z Z zY Z ZX) (ZN Z Z Z (zJ Z Z (nC c31.out)) (hS30.ldBA (j:=1) Z Z Z ya ZX (vs:=B1) Z Z) Z (zu Z Z Z (zJ Z Z (nC c31.out)) (fun _=>Runs.mkf Z (zH Z ze) ze) ?_))))
   have h33:=ha1.le le16
   have h34:=h33.le le28
   have h35:=ha0.le le16
   have h36:=h35.le le28
   have hF37:FnOK Tryz.prog U24 (.func (.func 88) #[.agg B1.toArray] #[]) wLH wLI (fun x=>wAm p0.Rules x):=⟨88,[.agg B1.toArray],[],rfl,Tryz.call88,fun U1 w1 x y vs le hs ha hm=>by obtain ⟨pA_0_1,pc_0_1,pA_0_2,pc_0_2,rfl,hq0_0,hq0_1⟩:=ha;exact wFW p0.Rules pA0_0_0 pc0_0_0 x pA_0_1 pc_0_1 pA_0_2 pc_0_2 w1 U1 hs (h36.le le) hq0_0 hq0_1 hm⟩
   refine bnK hm32 fun x38 h39 hm40=>zQ 0 Z Z Z (zJ Z Z (nC c31.out)) (zR Z Z Tryz.call87 (zH Z (zH Z ze)) Z) hS30 (fun hs=>wCy p0.Teams pA0_2 pc0_2 (fun x=>wAm p0.Rules x) (.func (.func 88) #[.agg B1.toArray] #[]) W27 U24 hs h34 hF37 h39) (.inr Z) ?_
   rintro U41 L42 v43 W44 le45 hS46 ⟨rfl,rfl⟩
   have hS47:sW w U U41 [B2,.blk b2 27 B0] W44:=hS46
   refine zu Z Z Z (zJ Z Z (nC c31.out)) (fun _=>Za Z Z) (oR Z (zh Z (nC c31.out) Z) (oA Z Z (eN (ifc hm40 ?_ ?_))))
   ·intro c48 hm49
    refine zo (nC c48.out) (sR (.fl 0 (.fl 1 (.fx 2 (fC3_6 (.fx 7 (wQy (.nil)) .stop)) .stop))) Z (oR Z (zA Z Z zY Z zI) (oL Z (hS47.ldB (j:=1) Z Z Z zP (v:=jV p0.Start) Z) (bnK hm49 fun x50 h51 hm52=>zQ 0 Z Z Z Z (zR Z Z yQ (zH Z (zH Z (zH Z ze))) Z) hS47 (fun hs=>wCB p0.Start 0 36000 W44 U41 hs h51) (.inr Z) ?_))))
    rintro U53 L54 v55 W56 le57 hS58 ⟨rfl,rfl⟩
    have hS59:sW w U U53 [B2,.blk b2 27 B0] W56:=hS58
    refine oR Z (Za Z Z) (oM Z Z (ifc hm52 ?_ ?_))
    ·intro c60 hm61
     refine zu Z Z Z (zJ Z Z (nC c60.out)) (fun _=>zA Z Z zY Z Zb) (ZN Z Z Z (zJ Z Z (nC c60.out)) (hS59.ldB (j:=1) Z Z Z Zg (v:=.slice pA0_2 p0.Teams.length pc0_2) Z) Z ?_)
     have h62:=h34.le le45
     have h63:=h62.le le57
     have hF64:FnOK Tryz.prog U53 (.func (.func 89) #[] #[]) wLH wLI wBw:=⟨89,[],[],rfl,Tryz.call89,fun U1 w1 x y vs le hs ha hm=>by obtain ⟨pA_0_1,pc_0_1,pA_0_2,pc_0_2,rfl,hq0_0,hq0_1⟩:=ha;exact wHv x pA_0_1 pc_0_1 pA_0_2 pc_0_2 w1 U1 hs hq0_0 hq0_1 hm⟩
     refine bnK hm61 fun x65 h66 hm67=>zQ 0 Z Z Z (zJ Z Z (nC c60.out)) (zR Z Z Tryz.call87 (zH Z (zH Z ze)) Z) hS59 (fun hs=>wCy p0.Teams pA0_2 pc0_2 wBw (.func (.func 89) #[] #[]) W56 U53 hs h63 hF64 h66) (.inr Z) ?_
     rintro U68 L69 v70 W71 le72 hS73 ⟨rfl,rfl⟩
     have hS74:sW w U U68 [B2,.blk b2 27 B0] W71:=hS73
     refine zu Z Z Z (zJ Z Z (nC c60.out)) (fun _=>Za Z Z) (oR Z (zh Z (nC c60.out) Z) (oA Z Z (eN (ifc hm67 ?_ ?_))))
     ·intro c75 hm76
      refine zo (nC c75.out) (ZW (zg (zF (zB (sR (.fl 0 (.fx 1 (.nil) .stop)) Z (oL Z (hS74.ldBA (j:=1) Z Z Z Zd ZH (vs:=B0) Z Z) ?_))))))
      have h77:=h36.le le45
      have h78:=h77.le le57
      have h79:=h78.le le72
      have h80:=h63.le le72
      have q:=bnd hm76
      obtain ⟨⟨⟩,h81,hm82⟩:=q
      try dsimp only at hm82
      refine zQ 0 Z Z Z Z (zR Z Z Tryz.call91 (zH Z ze) Z) hS74 (fun hs=>wDG p0 pA0_0_0 pc0_0_0 pA0_2 pc0_2 W71 U68 hs h79 h80 h81) (.inr Z) ?_
      rintro U83 L84 v85 W86 le87 hS88 ⟨b89,rfl,rfl,h90⟩
      have hS91:sW w U U83 [B2,.blk b2 27 B0] W86:=hS88
      refine eN (zL (CK.fresh fun σ92 hσ93=>?_))
      have f94:σ92 1=.pointer (some ⟨b2,0,none⟩):=(hσ93 1).trans rfl
      have f95:σ92 2=.pointer (some ⟨b6,0,none⟩):=(hσ93 2).trans rfl
      have f96:σ92 51=.func (.func 175) #[] #[.pointer (some ⟨b89,0,none⟩)]:=(hσ93 51).trans rfl
      clear hσ93
      refine bnK hm82 fun rr138 hit139 hm140=>?_
      have h141:=h79.le le87
      have h142:=h80.le le87
      refine CK.rangeY (S:=Unit) (E:=Int) (ar:=wQB) (PY:=(fun (_:Unit) (U_:PHeap) (L_:List Res)=>L_=[B2,.blk b2 27 B0])) (PE:=(fun (x137:Int) (U_:PHeap) (L_:List Res)=>L_=[.blk b6 36 [jV x137],.blk b2 27 B0])) (exO:=(fun _=>.ret)) (s0:=()) (rr:=rr138) f96 Tryz.call175 hS91 (by decide) (fun _ _ _ h=>by obtain ⟨_,_,_,_,_,_,_,_,rfl,_,_,_,_⟩:=h;rfl) (fun _=>.inl rfl) rfl (fun l w1 L1 PY' PE' hS1 hP1 hY1=>wCt PY' PE' _ l _ p0 b89 pA0_0_0 pc0_0_0 pA0_2 pc0_2 w1 L1 U83 hS1 hP1 hY1 h90 h141 h142 hit139) ?_ ?_
      ·rintro l143 rb144 fn145 ⟨⟩ x146 vs147 r148 ph149 L150 w151 o152 B153 le154 hS155 hP156 ha157 hf158 sg159 hs160
       obtain rfl:=hP156
       obtain ⟨pA161,pc162,pA163,pc164,pA167,pc168,pA169,pc170,rfl,hq165,hq166,hq171,hq172⟩:=ha157
       replace hs160:∀ t,sg159 t=upd (upd σ92 52 (.agg #[jV x146.1.Bib,.slice pA161 x146.1.Classes.length pc162,.slice pA163 x146.1.Legs.length pc164])) 53 (.agg #[jV x146.2.Skier,.slice pA167 x146.2.Loops.length pc168,.slice pA169 x146.2.Bouts.length pc170]) t:=hs160
       have f173:sg159 52=.agg #[jV x146.1.Bib,.slice pA161 x146.1.Classes.length pc162,.slice pA163 x146.1.Legs.length pc164]:=(hs160 52).trans ((wCH _ _ (by decide)).trans (wCJ _ _ _))
       have f174:sg159 53=.agg #[jV x146.2.Skier,.slice pA167 x146.2.Loops.length pc168,.slice pA169 x146.2.Bouts.length pc170]:=(hs160 53).trans (wCJ _ _ _)
       have f175:sg159 1=.pointer (some ⟨b2,0,none⟩):=(hs160 1).trans ((wCH _ _ (by decide)).trans ((wCH _ _ (by decide)).trans f94))
       have f176:sg159 2=.pointer (some ⟨b6,0,none⟩):=(hs160 2).trans ((wCH _ _ (by decide)).trans ((wCH _ _ (by decide)).trans f95))
       clear hs160
       have hS178:St B153 ph149 [.obj l143 o152,B2,.blk b2 27 B0] w151:=hS155
       try dsimp only at hf158
       refine rR (.fx 0 (.fx 1 (.nil) .stop) .stop) Z (zq (cs:=[jV 0,.slice none 0 0,.slice none 0 0]) Z Z Z Z Z Zq Z hS178 ?_)
       intro W179 b180 hS181
       let B3:List Value:=[jV x146.2.Skier,.slice pA167 x146.2.Loops.length pc168,.slice pA169 x146.2.Bouts.length pc170]
       refine ZE (j:=0) (vs:=B3) Z Z Z Z hS181 Z Z f174 Z ZL (zD Z) Z Z Z ?_
       intro W183 hS184
       have hS185:St B153 ph149 [.blk b180 130 B3,.obj l143 o152,B2,.blk b2 27 B0] W183:=hS184
       refine zj ⟨rfl,rfl,_,_,(hS185.pick [1,0,2,3] [.obj l143 o152,.blk b180 130 B3,B2,.blk b2 27 B0] (by decide) rfl),fun W186 o187 hS188=>?_⟩
       have hS189:St B153 ph149 [.obj l143 o187,.blk b180 130 B3,B2,.blk b2 27 B0] W186:=hS188
       refine zL (sR (.fl 0 (.fl 1 (.fx 2 (.fl 3 (.nil)) .stop))) Z (oR Z (zA Z Z ZB Z zO) (oL Z (hS189.ldB (j:=1) Z Z Z zd (v:=.slice pA167 x146.2.Loops.length pc168) Z) ?_)))
       have hF190:FnOK Tryz.prog ph149 (.func (.func 93) #[] #[]) wLF wLG wBV:=⟨93,[],[],rfl,Tryz.call93,fun U1 w1 x y vs le hs ha hm=>by obtain rfl:=ha;exact wHw x w1 U1 hs  hm⟩
       refine bnK hf158 fun x191 h192 hm193=>zQ 0 Z Z Z Z (zR Z Z Tryz.call92 (zH Z (zH Z ze)) Z) hS189 (fun hs=>wEa x146.2.Loops pA167 pc168 wBV (.func (.func 93) #[] #[]) W186 ph149 hs hq171 hF190 h192) (.inr Z) ?_
       rintro U194 L195 v196 W197 le198 hS199 ⟨rfl,rfl⟩
       have hS200:St B153 U194 [.obj l143 o187,.blk b180 130 B3,B2,.blk b2 27 B0] W197:=hS199
       refine oR Z (Za Z Z) (eN (ifc hm193 ?_ ?_))
       ·intro c201 hm202
        refine zo (nC c201.out) (ZW (zg ?_))
        obtain rfl:=nA hm202
        exact ⟨_,_,(hS200.pick [0,2,3] _ (by decide) rfl),rfl,rfl⟩
       ·intro c201 hm203
        refine zp (nF (c201.out)) (sR (.fx 0 (.nil) .stop) Z (ZE (j:=2) (vs:=[jV 3]) Z Z Z Z hS200 Z f176 Z Z yS (zD Z) Z Z Z ?_))
        intro W204 hS205
        have hS206:St B153 U194 [.obj l143 o187,.blk b180 130 B3,.blk b6 36 [jV 3],.blk b2 27 B0] W204:=hS205
        refine eN (zM (zK ?_))
        obtain rfl:=nA hm203
        exact ⟨_,_,(hS206.pick [0,2,3] _ (by decide) rfl),rfl,rfl⟩
      ·rintro rb208 U209 L210 W211 le212 hS213
       rcases rr138 with ⟨⟩ | y214
       ·try dsimp only at hm140
        rintro rfl
        have hS216:sW w U U209 [B2,.blk b2 27 B0,.obj rb208 (.deferred (some []))] W211:=hS213
        refine zg (zF (zB (sR (.fl 0 (.fx 1 (.nil) .stop)) Z (oL Z (hS216.ldBA (j:=1) Z Z f94 Zd ZH (vs:=B0) Z Z) ?_))))
        have h217:=h141.le le212
        have h218:=h142.le le212
        have q:=bnd hm140
        obtain ⟨⟨⟩,h219,hm220⟩:=q
        try dsimp only at hm220
        refine zQ 0 Z Z Z Z (zR Z Z Tryz.call91 (zH Z ze) Z) hS216 (fun hs=>wDG p0 pA0_0_0 pc0_0_0 pA0_2 pc0_2 W211 U209 hs h217 h218 h219) (.inr Z) ?_
        rintro U221 L222 v223 W224 le225 hS226 ⟨b227,rfl,rfl,h228⟩
        have hS229:sW w U U221 [B2,.blk b2 27 B0,.obj rb208 (.deferred (some []))] W224:=hS226
        refine eN (zL (CK.fresh fun σ230 hσ231=>?_))
        have f232:σ230 1=.pointer (some ⟨b2,0,none⟩):=(hσ231 1).trans f94
        have f233:σ230 2=.pointer (some ⟨b6,0,none⟩):=(hσ231 2).trans f95
        have f234:σ230 59=.func (.func 175) #[] #[.pointer (some ⟨b227,0,none⟩)]:=(hσ231 59).trans rfl
        clear hσ231
        refine bnK hm220 fun rr282 hit283 hm284=>?_
        have h285:=h217.le le225
        have h286:=h218.le le225
        refine CK.rangeY (S:=Unit) (E:=Int) (ar:=wQB) (PY:=(fun (_:Unit) (U_:PHeap) (L_:List Res)=>L_=[B2,.blk b2 27 B0,.obj rb208 (.deferred (some []))])) (PE:=(fun (x281:Int) (U_:PHeap) (L_:List Res)=>L_=[.blk b6 36 [jV x281],.blk b2 27 B0,.obj rb208 (.deferred (some []))])) (exO:=(fun _=>.ret)) (s0:=()) (rr:=rr282) f234 Tryz.call175 hS229 (by decide) (fun _ _ _ h=>by obtain ⟨_,_,_,_,_,_,_,_,rfl,_,_,_,_⟩:=h;rfl) (fun _=>.inl rfl) rfl (fun l w1 L1 PY' PE' hS1 hP1 hY1=>wCt PY' PE' _ l _ p0 b227 pA0_0_0 pc0_0_0 pA0_2 pc0_2 w1 L1 U221 hS1 hP1 hY1 h228 h285 h286 hit283) ?_ ?_
        ·rintro l287 rb288 fn289 ⟨⟩ x290 vs291 r292 ph293 L294 w295 o296 B297 le298 hS299 hP300 ha301 hf302 sg303 hs304
         obtain rfl:=hP300
         obtain ⟨pA305,pc306,pA307,pc308,pA311,pc312,pA313,pc314,rfl,hq309,hq310,hq315,hq316⟩:=ha301
         replace hs304:∀ t,sg303 t=upd (upd σ230 60 (.agg #[jV x290.1.Bib,.slice pA305 x290.1.Classes.length pc306,.slice pA307 x290.1.Legs.length pc308])) 61 (.agg #[jV x290.2.Skier,.slice pA311 x290.2.Loops.length pc312,.slice pA313 x290.2.Bouts.length pc314]) t:=hs304
         have f317:sg303 60=.agg #[jV x290.1.Bib,.slice pA305 x290.1.Classes.length pc306,.slice pA307 x290.1.Legs.length pc308]:=(hs304 60).trans ((wCH _ _ (by decide)).trans (wCJ _ _ _))
         have f318:sg303 61=.agg #[jV x290.2.Skier,.slice pA311 x290.2.Loops.length pc312,.slice pA313 x290.2.Bouts.length pc314]:=(hs304 61).trans (wCJ _ _ _)
         have f319:sg303 1=.pointer (some ⟨b2,0,none⟩):=(hs304 1).trans ((wCH _ _ (by decide)).trans ((wCH _ _ (by decide)).trans f232))
         have f320:sg303 2=.pointer (some ⟨b6,0,none⟩):=(hs304 2).trans ((wCH _ _ (by decide)).trans ((wCH _ _ (by decide)).trans f233))
         clear hs304
         have hS322:St B297 ph293 [.obj l287 o296,B2,.blk b2 27 B0,.obj rb208 (.deferred (some []))] w295:=hS299
         try dsimp only at hf302
         refine sR (.fx 0 (.fx 1 (.nil) .stop) .stop) Z ?_
         let B4:List Value:=[jV 0,.slice none 0 0,.slice none 0 0]
         refine zq (cs:=B4) Z Z Z Z Z Zi Z hS322 ?_
         intro W323 b324 hS325
         let B5:List Value:=[jV x290.1.Bib,.slice pA305 x290.1.Classes.length pc306,.slice pA307 x290.1.Legs.length pc308]
         refine ZE (j:=0) (vs:=B5) Z Z Z Z hS325 Z Z f317 Z zz (zD Z) Z Z Z ?_
         intro W327 hS328
         have hS329:St B297 ph293 [.blk b324 127 B5,.obj l287 o296,B2,.blk b2 27 B0,.obj rb208 (.deferred (some []))] W327:=hS328
         refine eN (rR (.fx 0 (.fx 1 (.nil) .stop) .stop) Z (zq (cs:=B4) Z Z Z Z Z Zq Z hS329 ?_))
         intro W330 b331 hS332
         let B6:List Value:=[jV x290.2.Skier,.slice pA311 x290.2.Loops.length pc312,.slice pA313 x290.2.Bouts.length pc314]
         refine ZE (j:=0) (vs:=B6) Z Z Z Z hS332 Z Z f318 Z ZL (zD Z) Z Z Z ?_
         intro W334 hS335
         have hS336:St B297 ph293 [.blk b331 130 B6,.blk b324 127 B5,.obj l287 o296,B2,.blk b2 27 B0,.obj rb208 (.deferred (some []))] W334:=hS335
         refine zj ⟨rfl,rfl,_,_,(hS336.pick [2,0,1,3,4,5] [.obj l287 o296,.blk b331 130 B6,.blk b324 127 B5,B2,.blk b2 27 B0,.obj rb208 (.deferred (some []))] (by decide) rfl),fun W337 o338 hS339=>?_⟩
         have hS340:St B297 ph293 [.obj l287 o338,.blk b331 130 B6,.blk b324 127 B5,B2,.blk b2 27 B0,.obj rb208 (.deferred (some []))] W337:=hS339
         refine zL (sR (wGH (.fx 6 (.fl 7 (.nil)) .stop)) Z (oR Z (zA Z Z ZB Z zI) (oL Z (hS340.ldB (j:=1) Z Z Z zP (v:=jV x290.2.Skier) Z) (oR Z (zA Z Z zl Z zO) (oL Z (hS340.ldB (j:=2) Z Z Z zd (v:=.slice pA305 x290.1.Classes.length pc306) Z) (oR Z (zN Z Z zE) (oR Z (Zn Z Z Z) (bnK hf302 fun x341 h342 hm343=>zQ 0 Z Z Z Z (zR Z Z yQ (zH Z (zH Z (zH Z ze))) Z) hS340 (fun hs=>wCB x290.2.Skier 0 (w64 ((↑x290.1.Classes.length:Int) - 1)) W337 ph293 hs h342) (.inr Z) ?_))))))))
         rintro U344 L345 v346 W347 le348 hS349 ⟨rfl,rfl⟩
         have hS350:St B297 U344 [.obj l287 o338,.blk b331 130 B6,.blk b324 127 B5,B2,.blk b2 27 B0,.obj rb208 (.deferred (some []))] W347:=hS349
         refine oR Z (Za Z Z) (eN (ifc hm343 ?_ ?_))
         ·intro c351 hm352
          refine zo (nC c351.out) (ZW (zg ?_))
          obtain rfl:=nA hm352
          exact ⟨_,_,(hS350.pick [0,3,4,5] _ (by decide) rfl),rfl,rfl⟩
         ·intro c351 hm353
          refine zp (nF (c351.out)) (sR (.fx 0 (.nil) .stop) Z (ZE (j:=3) (vs:=[jV 1]) Z Z Z Z hS350 Z f320 Z Z yS (zD Z) Z Z Z ?_))
          intro W354 hS355
          have hS356:St B297 U344 [.obj l287 o338,.blk b331 130 B6,.blk b324 127 B5,.blk b6 36 [jV 1],.blk b2 27 B0,.obj rb208 (.deferred (some []))] W354:=hS355
          refine eN (zM (zK ?_))
          obtain rfl:=nA hm353
          exact ⟨_,_,(hS356.pick [0,3,4,5] _ (by decide) rfl),rfl,rfl⟩
        ·rintro rb358 U359 L360 W361 le362 hS363
         rcases rr282 with ⟨⟩ | y364
         ·try dsimp only at hm284
          rintro rfl
          have hS366:sW w U U359 [B2,.blk b2 27 B0,.obj rb208 (.deferred (some [])),.obj rb358 (.deferred (some []))] W361:=hS363
          refine zg (zF (zB (sR (.fl 0 (.fx 1 (.nil) .stop)) Z (oL Z (hS366.ldBA (j:=1) Z Z f232 Zd ZH (vs:=B0) Z Z) ?_))))
          have h367:=h285.le le362
          have h368:=h286.le le362
          have q:=bnd hm284
          obtain ⟨⟨⟩,h369,hm370⟩:=q
          try dsimp only at hm370
          refine zQ 0 Z Z Z Z (zR Z Z Tryz.call91 (zH Z ze) Z) hS366 (fun hs=>wDG p0 pA0_0_0 pc0_0_0 pA0_2 pc0_2 W361 U359 hs h367 h368 h369) (.inr Z) ?_
          rintro U371 L372 v373 W374 le375 hS376 ⟨b377,rfl,rfl,h378⟩
          have hS379:sW w U U371 [B2,.blk b2 27 B0,.obj rb208 (.deferred (some [])),.obj rb358 (.deferred (some []))] W374:=hS376
          refine eN (zL (CK.fresh fun σ380 hσ381=>?_))
          have f382:σ380 1=.pointer (some ⟨b2,0,none⟩):=(hσ381 1).trans f232
          have f383:σ380 2=.pointer (some ⟨b6,0,none⟩):=(hσ381 2).trans f233
          have f384:σ380 71=.func (.func 175) #[] #[.pointer (some ⟨b377,0,none⟩)]:=(hσ381 71).trans rfl
          clear hσ381
          refine bnK hm370 fun rr484 hit485 hm486=>?_
          have h487:=h367.le le375
          have h488:=h368.le le375
          refine CK.rangeY (S:=Unit) (E:=Int) (ar:=wQB) (PY:=(fun (_:Unit) (U_:PHeap) (L_:List Res)=>L_=[B2,.blk b2 27 B0,.obj rb208 (.deferred (some [])),.obj rb358 (.deferred (some []))])) (PE:=(fun (x483:Int) (U_:PHeap) (L_:List Res)=>L_=[.blk b6 36 [jV x483],.blk b2 27 B0,.obj rb208 (.deferred (some [])),.obj rb358 (.deferred (some []))])) (exO:=(fun _=>.ret)) (s0:=()) (rr:=rr484) f384 Tryz.call175 hS379 (by decide) (fun _ _ _ h=>by obtain ⟨_,_,_,_,_,_,_,_,rfl,_,_,_,_⟩:=h;rfl) (fun _=>.inl rfl) rfl (fun l w1 L1 PY' PE' hS1 hP1 hY1=>wCt PY' PE' _ l _ p0 b377 pA0_0_0 pc0_0_0 pA0_2 pc0_2 w1 L1 U371 hS1 hP1 hY1 h378 h487 h488 hit485) ?_ ?_
          ·rintro l489 rb490 fn491 ⟨⟩ x492 vs493 r494 ph495 L496 w497 o498 B499 le500 hS501 hP502 ha503 hf504 sg505 hs506
           obtain rfl:=hP502
           obtain ⟨pA507,pc508,pA509,pc510,pA513,pc514,pA515,pc516,rfl,hq511,hq512,hq517,hq518⟩:=ha503
           replace hs506:∀ t,sg505 t=upd (upd σ380 72 (.agg #[jV x492.1.Bib,.slice pA507 x492.1.Classes.length pc508,.slice pA509 x492.1.Legs.length pc510])) 73 (.agg #[jV x492.2.Skier,.slice pA513 x492.2.Loops.length pc514,.slice pA515 x492.2.Bouts.length pc516]) t:=hs506
           have f519:sg505 72=.agg #[jV x492.1.Bib,.slice pA507 x492.1.Classes.length pc508,.slice pA509 x492.1.Legs.length pc510]:=(hs506 72).trans ((wCH _ _ (by decide)).trans (wCJ _ _ _))
           have f520:sg505 73=.agg #[jV x492.2.Skier,.slice pA513 x492.2.Loops.length pc514,.slice pA515 x492.2.Bouts.length pc516]:=(hs506 73).trans (wCJ _ _ _)
           have f521:sg505 1=.pointer (some ⟨b2,0,none⟩):=(hs506 1).trans ((wCH _ _ (by decide)).trans ((wCH _ _ (by decide)).trans f382))
           have f522:sg505 2=.pointer (some ⟨b6,0,none⟩):=(hs506 2).trans ((wCH _ _ (by decide)).trans ((wCH _ _ (by decide)).trans f383))
           clear hs506
           have hS524:St B499 ph495 [.obj l489 o498,B2,.blk b2 27 B0,.obj rb208 (.deferred (some [])),.obj rb358 (.deferred (some []))] w497:=hS501
           try dsimp only at hf504
           refine rR (.fx 0 (.fx 1 (.nil) .stop) .stop) Z (zq (cs:=[jV 0,.slice none 0 0,.slice none 0 0]) Z Z Z Z Z Zq Z hS524 ?_)
           intro W525 b526 hS527
           let B7:List Value:=[jV x492.2.Skier,.slice pA513 x492.2.Loops.length pc514,.slice pA515 x492.2.Bouts.length pc516]
           refine ZE (j:=0) (vs:=B7) Z Z Z Z hS527 Z Z f520 Z ZL (zD Z) Z Z Z ?_
           intro W529 hS530
           have hS531:St B499 ph495 [.blk b526 130 B7,.obj l489 o498,B2,.blk b2 27 B0,.obj rb208 (.deferred (some [])),.obj rb358 (.deferred (some []))] W529:=hS530
           refine zj ⟨rfl,rfl,_,_,(hS531.pick [1,0,2,3,4,5] [.obj l489 o498,.blk b526 130 B7,B2,.blk b2 27 B0,.obj rb208 (.deferred (some [])),.obj rb358 (.deferred (some []))] (by decide) rfl),fun W532 o533 hS534=>?_⟩
           have hS535:St B499 ph495 [.obj l489 o533,.blk b526 130 B7,B2,.blk b2 27 B0,.obj rb208 (.deferred (some [])),.obj rb358 (.deferred (some []))] W532:=hS534
           refine zL (sR fL4 Z (oR Z (zA Z Z ZB Z Zm) (oL Z (hS535.ldB (j:=1) Z Z Z Zr (v:=.slice pA515 x492.2.Bouts.length pc516) Z) (oR Z (zN Z Z ZC) (oM Z Z (eN (zL ?_)))))))
           have q:=wCM hf504
           obtain ⟨r538,hX539⟩:=q
           have q:=wCL hX539
           obtain ⟨hle540,hf541⟩:=q
           replace hle540:=zG hle540
           refine yK (fun k537 _ σ_ w_=>∃ (U_:PHeap),σ_ 77=jV (↑k537:Int)/\σ_ 1=.pointer (some ⟨b2,0,none⟩)/\σ_ 2=.pointer (some ⟨b6,0,none⟩)/\σ_ 75=.slice pA515 x492.2.Bouts.length pc516/\σ_ 76=jV (↑x492.2.Bouts.length:Int)/\PHeap.Le ph495 U_/\St B499 U_ [.obj l489 o533,.blk b526 130 B7,B2,.blk b2 27 B0,.obj rb208 (.deferred (some [])),.obj rb358 (.deferred (some []))] w_) hf541 ?_ ?_ ?_
           ·exact ⟨ph495,Z,f521,f522,Z,Z,(zZ _),hS535⟩
           ·rintro k537 ⟨⟩ xx544 σ542 W543 hk547 ⟨U549,fi548,f552,f553,f554,f555,le550,hS551⟩ hx545 hb546
            try dsimp only at hx545
            have c556:Hid ((↑k537:Int) < (↑x492.2.Bouts.length:Int)):=zG (wAy hk547)
            replace hk547:=zG hk547
            have hi557:Hid (w64 ((↑k537:Int) + 1)=(↑(k537 + 1):Int)):=zG (by have h1:=hle540.out;have h2:=c556.out;rw [wAK] <;> omega)
            refine sR fL1 Z (oR Z (zS Z fi548 f555) (eN (zB (cT Z c556 (kN (zB (zL (sR fL3 Z (bnK hx545 fun x558 h559 hm560=>?_)))))))))
            have h561:=hq518.le le550
            have q:=h561.el (wAE h559)
            obtain ⟨b562,off563,vs566,hA564,hC565,hr567⟩:=q
            obtain ⟨pA568,pc569,rfl,h570⟩:=hr567
            replace hC565:Cl U549 b562 (off563 + k537 * 1) [.slice pA568 x558.length pc569]:=hC565
            refine oR Z (zx Z f554 hA564 fi548 ZC yL (wAc h559)) (oL Z (hS551.ldC (f:=0) hC565 (v:=.slice pA568 x558.length pc569) Z Z yX Z) (oA Z Z (eN (sR (.fl 0 (.fx 1 (wQV (.fx 5 (.fx 6 (.fl 7 (.nil)) .stop) .stop)) .stop)) Z (oM Z Z ?_)))))
            have q:=bnd hm560
            obtain ⟨⟨x571,x572⟩,h573,hm574⟩:=q
            try dsimp only at hm574
            refine zQ 0 Z Z Z Z (zR Z Z Tryz.call71 (zH Z ze) Z) hS551 (fun hs=>wGd x558 pA568 pc569 W543 U549 hs h570 h573) (.inr Z) ?_
            rintro U575 L576 v577 W578 le579 hS580 ⟨rfl,rfl⟩
            have hS581:St B499 U575 [.obj l489 o533,.blk b526 130 B7,B2,.blk b2 27 B0,.obj rb208 (.deferred (some [])),.obj rb358 (.deferred (some []))] W578:=hS580
            refine oM Z Z (oR Z (ZK Z Z (v:=.agg #[jV x571.Spares,jV x571.Loops,jV x571.Unused]) Z) (oR Z (ZK Z Z (v:=jV x572) Z) (zq (cs:=[jV 0,jV 0,jV 0]) Z Z Z Z Z yU Z hS581 ?_)))
            intro W582 b583 hS584
            let B8:List Value:=[jV x571.Spares,jV x571.Loops,jV x571.Unused]
            refine ZE (j:=0) (vs:=B8) Z Z Z Z hS584 Z Z Z Z Zx (zD Z) Z Z Z ?_
            intro W586 hS587
            have hS588:St B499 U575 [.blk b583 133 B8,.obj l489 o533,.blk b526 130 B7,B2,.blk b2 27 B0,.obj rb208 (.deferred (some [])),.obj rb358 (.deferred (some []))] W586:=hS587
            refine oA Z Z (eN (sR fL2 Z (oM Z Z (oR Z (ZV Z Z Z) (eN (ifc hm574 ?_ ?_))))))
            ·intro c589 hm590
             refine zo (zw (fun h=>h c589.out)) (ZW (zg (zF (rR fL2 Z (oR Z (ZD (zU Z fi548 Z) (congrArg (jV) hi557.out)) (oM Z Z (zj ?_)))))))
             obtain rfl:=nA hm590
             exact zF ⟨rfl,_,rfl,⟨U575,rfl,f552,f553,f554,f555,(le550.trans le579),(hS588.pick [1,2,3,4,5,6] _ (by decide) rfl)⟩⟩
            ·intro c589 hm591
             refine cT Z c589 (sR (.fl 0 (.fx 1 (.nil) .stop)) Z (oM Z Z (ZE (j:=3) (vs:=[jV x572]) Z Z Z Z hS588 Z f553 Z Z yS (zD Z) Z Z Z ?_)))
             intro W592 hS593
             have hS594:St B499 U575 [.blk b583 133 B8,.obj l489 o533,.blk b526 130 B7,.blk b6 36 [jV x572],.blk b2 27 B0,.obj rb208 (.deferred (some [])),.obj rb358 (.deferred (some []))] W592:=hS593
             refine eN (zM (zK (zC ?_)))
             have q:=wAF hm591
             obtain ⟨v595,hm596,e597⟩:=q
             obtain rfl:=wBd hf504 hX539 (hb546 v595 e597)
             refine zC (zK (zK ?_))
             obtain rfl:=nA hm596
             exact ⟨_,_,(hS594.pick [1,3,4,5,6] _ (by decide) rfl),rfl,rfl⟩
           ·rintro ⟨⟩ σ599 W600 ⟨U603,fi602,f606,f607,f608,f609,le604,hS605⟩ hb601
            have hm610:=wCv hf504 hX539 hb601
            try dsimp only at hm610
            have c611:Hid (¬ ((↑(((↑x492.2.Bouts.length:Int):Int) - 0).toNat:Int) < (↑x492.2.Bouts.length:Int))):=zG (wAa)
            refine sR fL1 Z (oR Z (zS Z fi602 f609) (eN (zB (cF Z c611 (ZG (zW (zW (zr (zg ?_)))))))))
            obtain rfl:=nA hm610
            exact ⟨_,_,(hS605.pick [0,2,3,4,5] _ (by decide) rfl),rfl,rfl⟩
          ·rintro rb612 U613 L614 W615 le616 hS617
           rcases rr484 with ⟨⟩ | y618
           ·try dsimp only at hm486
            rintro rfl
            have hS620:sW w U U613 [B2,.blk b2 27 B0,.obj rb208 (.deferred (some [])),.obj rb358 (.deferred (some [])),.obj rb612 (.deferred (some []))] W615:=hS617
            refine zg (zF (sR (.fx 0 (.fl 1 (.nil)) .stop) Z (OKS.makeMap Z Z Z Z Z hS620 ?_)))
            intro W621 b622 hS623
            have hr624:=MpR.nil wTZ mv74
            refine oA Z Z (eN (zB (sR fL4 Z (oR Z (zA Z f382 zY Z Zb) (oL Z (hS623.ldB (j:=2) Z Z Z Zg (v:=.slice pA0_2 p0.Teams.length pc0_2) Z) (oR Z (zN Z Z zn) (oM Z Z (eN (zL (bnK hm486 fun y645 hf642 hm641=>?_))))))))))
            have q:=wAu hf642
            obtain ⟨hle643,hf644⟩:=q
            replace hle643:=zG hle643
            refine CK.forN' (fun k640 l637 σ_ w_=>∃ (U_:PHeap) (es638:Array MapEntry) (ck639:Nat),σ_ 94=jV (↑k640:Int)/\σ_ 1=.pointer (some ⟨b2,0,none⟩)/\σ_ 2=.pointer (some ⟨b6,0,none⟩)/\σ_ 14=.map (some b622)/\σ_ 92=.slice pA0_2 p0.Teams.length pc0_2/\σ_ 93=jV (↑p0.Teams.length:Int)/\PHeap.Le U613 U_/\sW w U U_ [.obj b622 (.map es638 ck639),B2,.blk b2 27 B0,.obj rb208 (.deferred (some [])),.obj rb358 (.deferred (some [])),.obj rb612 (.deferred (some []))] w_/\MpR es638 wTZ mv74 l637) hf644 ?_ ?_ ?_
            ·exact ⟨U613,#[],0,Z,f382,f383,Z,Z,Z,(zZ _),hS623,hr624⟩
            ·rintro k640 l637 xx648 σ646 W647 hk651 ⟨U653,es638,ck639,fi652,f656,f657,f658,f659,f660,le654,hS655,h661⟩ hx649
             have c662:Hid ((↑k640:Int) < (↑p0.Teams.length:Int)):=zG (wAy hk651)
             replace hk651:=zG hk651
             have hi663:Hid (w64 ((↑k640:Int) + 1)=(↑(k640 + 1):Int)):=zG (by have h1:=hle643.out;have h2:=c662.out;rw [wAK] <;> omega)
             refine sR fL1 Z (oR Z (zS Z fi652 f660) (eN (zB (cT Z c662 (kN (zB (zL (sR (.fl 0 (.fl 1 (.fx 2 (.fx 3 (.nil) .stop) .stop))) Z (bnK hx649 fun x664 h665 hm666=>?_)))))))))
             have h667:=h488.le le616
             have h668:=h667.le le654
             have q:=h668.el (wAE h665)
             obtain ⟨b669,off670,vs673,hA671,hC672,hr674⟩:=q
             obtain ⟨pA675,pc676,pA677,pc678,rfl,h679,h680⟩:=hr674
             replace hC672:Cl U653 b669 (off670 + k640 * 3) [jV x664.Bib,.slice pA675 x664.Classes.length pc676,.slice pA677 x664.Legs.length pc678]:=hC672
             refine oR Z (zx Z f659 hA671 fi652 zn zz (wAc h665)) (oL Z (hS655.ldCA (f:=0) hC672 Z Z yD zz (us:=[jV x664.Bib,.slice pA675 x664.Classes.length pc676,.slice pA677 x664.Legs.length pc678]) Z Z) (zq (cs:=[jV 0,.slice none 0 0,.slice none 0 0]) Z Z Z Z Z Zi Z hS655 ?_))
             intro W681 b682 hS683
             let B9:List Value:=[jV x664.Bib,.slice pA675 x664.Classes.length pc676,.slice pA677 x664.Legs.length pc678]
             refine ZE (j:=0) (vs:=B9) Z Z Z Z hS683 Z Z Z Z zz (zD Z) Z Z Z ?_
             intro W685 hS686
             have hS687:sW w U U653 [.blk b682 127 B9,.obj b622 (.map es638 ck639),B2,.blk b2 27 B0,.obj rb208 (.deferred (some [])),.obj rb358 (.deferred (some [])),.obj rb612 (.deferred (some []))] W685:=hS686
             refine eN (rR (wEK (.fx 3 (.nil) .stop)) rfl (ZM rfl rfl rfl rfl rfl f658 (zu rfl rfl rfl rfl (fun _=>zA rfl rfl zl rfl zI) (ZN rfl rfl rfl rfl (hS687.ldB (j:=0) rfl rfl rfl zP (v:=jV x664.Bib) rfl) rfl (OKS.mapPut (x:=.tmp 98) (y:=.tmp 100) (j:=1) (mk:=wTZ) (mv:=mv74) (a:=x664.Bib) (v:=true) rfl rfl rfl (by first | exact .inl rfl | exact .inr rfl) hS687 rfl rfl rfl rfl (wLe Tryz.runUnderlying74) wTa h661 rfl ?_)))))
             intro es688 ck689 W690 hr691 hS692
             have hS693:sW w U U653 [.blk b682 127 B9,.obj b622 (.map es688 ck689),B2,.blk b2 27 B0,.obj rb208 (.deferred (some [])),.obj rb358 (.deferred (some [])),.obj rb612 (.deferred (some []))] W690:=hS692
             refine zj (zg (zF (rR fL2 Z (oR Z (ZD (zU Z fi652 Z) (congrArg (jV) hi663.out)) (oM Z Z (zj ?_))))))
             cases hm666
             exact zF ⟨rfl,⟨U653,es688,ck689,rfl,f656,f657,f658,f659,f660,le654,(hS693.pick [1,2,3,4,5,6] _ (by decide) rfl),hr691⟩⟩
            ·rintro σ697 W698 ⟨U706,e704,c705,fi700,f709,f710,f711,f712,f713,le707,hS708,h714⟩
             have c715:Hid (¬ ((↑(((↑p0.Teams.length:Int):Int) - 0).toNat:Int) < (↑p0.Teams.length:Int))):=zG (wAa)
             refine sR fL1 Z (oR Z (zS Z fi700 f713) (eN (zB (cF Z c715 (ZG (zW (zW (zr (zF (zB (sR fL6 Z (oM Z f711 (oL Z (hS708.lenM (j:=0) (mk:=wTZ) (mv:=mv74) Z Z Z (wLe Tryz.runUnderlying74) h714) (oR Z (zA Z f709 zY Z Zb) (oL Z (hS708.ldB (j:=2) Z Z Z Zg (v:=.slice pA0_2 p0.Teams.length pc0_2) Z) (oR Z (zN Z Z zn) (oR Z (zS Z Z Z) (eN (ifc hm641 ?_ ?_)))))))))))))))))))
             ·intro c716 hm717
              refine cT Z c716 (sR (.fx 0 (.nil) .stop) Z (ZE (j:=1) (vs:=[jV 5]) Z Z Z Z hS708 Z f710 Z Z yS (zD Z) Z Z Z ?_))
              intro W718 hS719
              let B10:Res:=.blk b6 36 [jV 5]
              have hS720:sW w U U706 [.obj b622 (.map e704 c705),B10,.blk b2 27 B0,.obj rb208 (.deferred (some [])),.obj rb358 (.deferred (some [])),.obj rb612 (.deferred (some []))] W718:=hS719
              refine eN (zM (zC (wDr (by first | exact .inl rfl | exact .inr rfl) (rbs:=[rb612,rb358,rb208]) (L:=[.obj b622 (.map e704 c705),B10,.blk b2 27 B0]) (hS720.pick [0,1,2,5,4,3] _ (by decide) rfl) fun W721 hS722=>?_)))
              have hS723:sW w U U706 [.obj b622 (.map e704 c705),B10,.blk b2 27 B0] W721:=hS722
              cases hm717
              exact ⟨_,(wFI (v:=jV 5) ⟨⟨_,f710,(wIS yT (hS723.blkAt (k:=1) rfl) rfl)⟩,trivial⟩),U706,_,(hS723.pick [] _ (by decide) rfl),rfl,rfl⟩
             ·intro c716 hm724
              refine cF Z c716 (kN (sR (.fx 0 (.nil) .stop) Z (ZE (j:=1) (vs:=[jV 0]) Z Z Z Z hS708 Z f710 Z Z yS (zD Z) Z Z Z ?_)))
              intro W725 hS726
              have hS727:sW w U U706 [.obj b622 (.map e704 c705),B2,.blk b2 27 B0,.obj rb208 (.deferred (some [])),.obj rb358 (.deferred (some [])),.obj rb612 (.deferred (some []))] W725:=hS726
              refine eN (zM (wDr (by first | exact .inl rfl | exact .inr rfl) (rbs:=[rb612,rb358,rb208]) (L:=[.obj b622 (.map e704 c705),B2,.blk b2 27 B0]) (hS727.pick [0,1,2,5,4,3] _ (by decide) rfl) fun W728 hS729=>?_))
              have hS730:sW w U U706 [.obj b622 (.map e704 c705),B2,.blk b2 27 B0] W728:=hS729
              cases hm724
              exact ⟨_,(wFI (v:=jV 0) ⟨⟨_,f710,(wIS yT (hS730.blkAt (k:=1) rfl) rfl)⟩,trivial⟩),U706,_,(hS730.pick [] _ (by decide) rfl),rfl,rfl⟩
           ·try dsimp only at hm486
            rintro rfl
            let B11:Res:=.blk b6 36 [jV y618]
            have hS732:sW w U U613 [B11,.blk b2 27 B0,.obj rb208 (.deferred (some [])),.obj rb358 (.deferred (some [])),.obj rb612 (.deferred (some []))] W615:=hS617
            refine zK (zC (wDr (by first | exact .inl rfl | exact .inr rfl) (rbs:=[rb612,rb358,rb208]) (L:=[B11,.blk b2 27 B0]) (hS732.pick [0,1,4,3,2] _ (by decide) rfl) fun W733 hS734=>?_))
            have hS735:sW w U U613 [B11,.blk b2 27 B0] W733:=hS734
            have hE:=nA hm486;first | subst r | cases hE
            exact ⟨_,(wFI (v:=jV y618) ⟨⟨_,f383,(wIS yT (hS735.blkAt (k:=0) rfl) rfl)⟩,trivial⟩),U613,_,(hS735.pick [] _ (by decide) rfl),rfl,rfl⟩
         ·try dsimp only at hm284
          rintro rfl
          let B12:Res:=.blk b6 36 [jV y364]
          have hS737:sW w U U359 [B12,.blk b2 27 B0,.obj rb208 (.deferred (some [])),.obj rb358 (.deferred (some []))] W361:=hS363
          refine zK (zC (wDr (by first | exact .inl rfl | exact .inr rfl) (rbs:=[rb358,rb208]) (L:=[B12,.blk b2 27 B0]) (hS737.pick [0,1,3,2] _ (by decide) rfl) fun W738 hS739=>?_))
          have hS740:sW w U U359 [B12,.blk b2 27 B0] W738:=hS739
          have hE:=nA hm284;first | subst r | cases hE
          exact ⟨_,(wFI (v:=jV y364) ⟨⟨_,f233,(wIS yT (hS740.blkAt (k:=0) rfl) rfl)⟩,trivial⟩),U359,_,(hS740.pick [] _ (by decide) rfl),rfl,rfl⟩
       ·try dsimp only at hm140
        rintro rfl
        let B13:Res:=.blk b6 36 [jV y214]
        have hS742:sW w U U209 [B13,.blk b2 27 B0,.obj rb208 (.deferred (some []))] W211:=hS213
        refine zK (zC (wDr (by first | exact .inl rfl | exact .inr rfl) (rbs:=[rb208]) (L:=[B13,.blk b2 27 B0]) hS742 fun W743 hS744=>?_))
        have hS745:sW w U U209 [B13,.blk b2 27 B0] W743:=hS744
        have hE:=nA hm140;first | subst r | cases hE
        exact ⟨_,(wFI (v:=jV y214) ⟨⟨_,f95,(wIS yT (hS745.blkAt (k:=0) rfl) rfl)⟩,trivial⟩),U209,_,(hS745.pick [] _ (by decide) rfl),rfl,rfl⟩
     ·intro c75 hm746
      refine zp (nF (c75.out)) (sR (.fx 0 (.nil) .stop) Z (ZE (j:=0) (vs:=[jV 3]) Z Z Z Z hS74 Z Z Z Z yS (zD Z) Z Z Z ?_))
      intro W747 hS748
      let B14:Res:=.blk b6 36 [jV 3]
      have hS749:sW w U U68 [B14,.blk b2 27 B0] W747:=hS748
      refine eN (zM (zK (zC (wDr (by first | exact .inl rfl | exact .inr rfl) (rbs:=[]) (L:=[B14,.blk b2 27 B0]) hS749 fun W750 hS751=>?_))))
      have hS752:sW w U U68 [B14,.blk b2 27 B0] W750:=hS751
      cases hm746
      exact ⟨_,(wFI (v:=jV 3) ⟨⟨_,rfl,(wIS yT (hS752.blkAt (k:=0) rfl) rfl)⟩,trivial⟩),U68,_,(hS752.pick [] _ (by decide) rfl),rfl,rfl⟩
    ·intro c60 hm753
     refine ZA Z Z Z (zf Z Z (nF (c60.out)) Z) (ZA Z Z Z (zf Z Z (nF (c60.out)) Z) (Zj Z Z Z (zf Z Z (nF (c60.out)) Z) (ZA Z Z Z (zf Z Z (nF (c60.out)) Z) (oR Z (zi Z (nF (c60.out)) Z) (oA Z Z (eN (zp Z (sR (.fx 0 (.nil) .stop) Z (ZE (j:=0) (vs:=[jV 3]) Z Z Z Z hS59 Z Z Z Z yS (zD Z) Z Z Z ?_)))))))))
     intro W754 hS755
     let B15:Res:=.blk b6 36 [jV 3]
     have hS756:sW w U U53 [B15,.blk b2 27 B0] W754:=hS755
     refine eN (zM (zK (zC (wDr (by first | exact .inl rfl | exact .inr rfl) (rbs:=[]) (L:=[B15,.blk b2 27 B0]) hS756 fun W757 hS758=>?_))))
     have hS759:sW w U U53 [B15,.blk b2 27 B0] W757:=hS758
     cases hm753
     exact ⟨_,(wFI (v:=jV 3) ⟨⟨_,rfl,(wIS yT (hS759.blkAt (k:=0) rfl) rfl)⟩,trivial⟩),U53,_,(hS759.pick [] _ (by decide) rfl),rfl,rfl⟩
   ·intro c48 hm760
    refine zp (nF (c48.out)) (sR (.fx 0 (.nil) .stop) Z (ZE (j:=0) (vs:=[jV 2]) Z Z Z Z hS47 Z Z Z Z yS (zD Z) Z Z Z ?_))
    intro W761 hS762
    let B16:Res:=.blk b6 36 [jV 2]
    have hS763:sW w U U41 [B16,.blk b2 27 B0] W761:=hS762
    refine eN (zM (zK (zC (wDr (by first | exact .inl rfl | exact .inr rfl) (rbs:=[]) (L:=[B16,.blk b2 27 B0]) hS763 fun W764 hS765=>?_))))
    have hS766:sW w U U41 [B16,.blk b2 27 B0] W764:=hS765
    cases hm760
    exact ⟨_,(wFI (v:=jV 2) ⟨⟨_,rfl,(wIS yT (hS766.blkAt (k:=0) rfl) rfl)⟩,trivial⟩),U41,_,(hS766.pick [] _ (by decide) rfl),rfl,rfl⟩
  ·intro c31 hm767
   refine ZA Z Z Z (zf Z Z (nF (c31.out)) Z) (ZA Z Z Z (zf Z Z (nF (c31.out)) Z) (ZA Z Z Z (zf Z Z (nF (c31.out)) Z) (ZA Z Z Z (zf Z Z (nF (c31.out)) Z) (ZA Z Z Z (zf Z Z (nF (c31.out)) Z) (Zj Z Z Z (zf Z Z (nF (c31.out)) Z) (ZA Z Z Z (zf Z Z (nF (c31.out)) Z) (oR Z (zi Z (nF (c31.out)) Z) (oA Z Z (eN (zp Z (sR (.fx 0 (.nil) .stop) Z (ZE (j:=0) (vs:=[jV 2]) Z Z Z Z hS30 Z Z Z Z yS (zD Z) Z Z Z ?_))))))))))))
   intro W768 hS769
   let B17:Res:=.blk b6 36 [jV 2]
   have hS770:sW w U U24 [B17,.blk b2 27 B0] W768:=hS769
   refine eN (zM (zK (zC (wDr (by first | exact .inl rfl | exact .inr rfl) (rbs:=[]) (L:=[B17,.blk b2 27 B0]) hS770 fun W771 hS772=>?_))))
   have hS773:sW w U U24 [B17,.blk b2 27 B0] W771:=hS772
   cases hm767
   exact ⟨_,(wFI (v:=jV 2) ⟨⟨_,rfl,(wIS yT (hS773.blkAt (k:=0) rfl) rfl)⟩,trivial⟩),U24,_,(hS773.pick [] _ (by decide) rfl),rfl,rfl⟩
 ·intro c19 hm774
  refine cT Z c19 (sR (.fl 0 (.fx 1 (.nil) .stop)) Z (oM Z Z (ZE (j:=0) (vs:=[jV x9]) Z Z Z Z hS18 Z Z Z Z yS (zD Z) Z Z Z ?_)))
  intro W775 hS776
  let B18:Res:=.blk b6 36 [jV x9]
  have hS777:sW w U U12 [B18,.blk b2 27 B0] W775:=hS776
  refine eN (zM (zK (zC (wDr (by first | exact .inl rfl | exact .inr rfl) (rbs:=[]) (L:=[B18,.blk b2 27 B0]) hS777 fun W778 hS779=>?_))))
  have hS780:sW w U U12 [B18,.blk b2 27 B0] W778:=hS779
  have hE:=nA hm774;first | subst r | cases hE
  exact ⟨_,(wFI (v:=jV x9) ⟨⟨_,rfl,(wIS yT (hS780.blkAt (k:=0) rfl) rfl)⟩,trivial⟩),U12,_,(hS780.pick [] _ (by decide) rfl),rfl,rfl⟩
end Go.Proofs.YthbficbpebiekaaGreat
namespace Go.Proofs.YthbficbpebiekaaGreat
open Go.KL
set_option maxHeartbeats 4000000
theorem wAO (p0:Int) (p1:Int) (p2:Int) (w:World) (U:PHeap) (hS:St0 w U [])  {r:Bool} (hm:wAL p0 p1 p2=some r):Gv Tryz.prog 95 [jV p0,jV p1,jV p2] w (wCj w [] U (fun U_ L_ v=>v=.bool r/\L_=[])):=by
 unfold wAL at hm
 refine Gv.of Tryz.func95 Z Tryz.ntmps95 Tryz.results95 Z (sR fL1 Z (oA Z Z (eN (sR fL9 Z (oM Z Z (oM Z Z (oR Z (zS Z Z Z) (oM Z Z ?_))))))))
 by_cases c1:p0 < p1
 ·have hm2:=hm;rw [if_pos c1] at hm2;replace c1:=zG c1
  refine oT Z c1 (oT Z c1 (oT Z c1 (oR Z (zi Z (yG c1.out) Z) (oA Z Z (eN (zM ?_))))))
  have hE:=nA hm2;first | subst r | cases hE
  exact ⟨Z,_,(zt Z),U,_,hS,Z,Z⟩
 ·have hm3:=hm;rw [if_neg c1] at hm3;replace c1:=zG c1
  refine ZM Z Z Z (wF Z c1) Z Z (ZM Z Z Z (wF Z c1) Z Z (rU Z (wF Z c1) (yF Z Z Z) (oR Z (zh Z (zw c1.out) Z) (oA Z Z (eN (zM ?_))))))
  cases hm3
  exact ⟨Z,_,(zt Z),U,_,hS,Z,Z⟩
theorem wDn (p0:List Int) (pA0:Option Addr) (pc0:Nat) (w:World) (U:PHeap) (hS:St0 w U []) (ha0:Sl U 1 pA0 pc0 p0.length (nE KL.encI p0)) {r:Bool} (hm:wBi p0=some r):Gv Tryz.prog 96 [.slice pA0 p0.length pc0] w (wCj w [] U (fun U_ L_ v=>v=.bool r/\L_=[])):=by
 unfold wBi at hm
 refine Gv.of Tryz.func96 Z Tryz.ntmps96 Tryz.results96 Z (sR fL1 Z (oA Z Z (eN (zB (sR fL1 Z (oA Z Z (eN (zL ?_))))))))
 have q:=wCM hm
 obtain ⟨r3,hX4⟩:=q
 have q:=wCL hX4
 obtain ⟨hle5,hf6⟩:=q
 replace hle5:=zG hle5
 refine yK (fun k2 _ σ_ w_=>∃ (U_:PHeap),σ_ 3=jV (↑k2:Int)/\σ_ 0=.slice pA0 p0.length pc0/\PHeap.Le U U_/\sW w U U_ [] w_) hf6 ?_ ?_ ?_
 ·exact ⟨U,Z,Z,(zZ _),hS⟩
 ·rintro k2 ⟨⟩ xx9 σ7 W8 hk12 ⟨U14,fi13,f17,le15,hS16⟩ hx10 hb11
  try dsimp only at hx10
  have c18:Hid ((↑k2:Int) < (↑p0.length:Int)):=zG (wAy hk12)
  replace hk12:=zG hk12
  have hi19:Hid (w64 ((↑k2:Int) + 1)=(↑(k2 + 1):Int)):=zG (by have h1:=hle5.out;have h2:=c18.out;rw [wAK] <;> omega)
  refine zB (sR fL4 Z (oM Z fi13 (oM Z f17 (oR Z (zN Z Z zE) (oR Z (zS Z Z Z) (eN (cT Z c18 (kN (zB (zL (sR (wLY (.fx 4 (.nil) .stop)) Z (oM Z f17 (oM Z fi13 (bnK hx10 fun x20 h21 hm22=>?_))))))))))))))
  have h23:=ha0.le le15
  have q:=h23.el (fun _=>rfl) (wAE h21)
  obtain ⟨b24,off25,hA26,hC27⟩:=q
  refine oR Z (zx Z Z hA26 Z zE zI (wAc h21)) (oL Z (hS16.ldC (f:=0) hC27 (v:=jV x20) Z Z zP Z) (bnK hm22 fun x28 h29 hm30=>zQ 0 Z Z Z Z (zR Z Z yB (zH Z (zH Z (zH Z ze))) Z) hS16 (fun hs=>wAO x20 0 3 W8 U14 hs h29) (.inr Z) ?_))
  rintro U31 L32 v33 W34 le35 hS36 ⟨rfl,rfl⟩
  have hS37:sW w U U31 [] W34:=hS36
  refine eN (ifc hm30 ?_ ?_)
  ·intro c38 hm39
   refine zp (congrArg nB c38.out) (sR fL1 Z (oA Z Z (eN (zM (zK (zC ?_))))))
   have q:=wAF hm39
   obtain ⟨v40,hm41,e42⟩:=q
   obtain rfl:=wBd hm hX4 (hb11 v40 e42)
   refine zC (zK (zC ?_))
   have hE:=nA hm41;first | subst r | cases hE
   exact ⟨Z,_,(zt Z),U31,_,hS37,Z,Z⟩
  ·intro c38 hm43
   refine zo (congrArg nB (nD.2 c38.out)) (ZW (zg (zF (rR fL3 Z (oM Z fi13 (oR Z (ZD (zU Z Z Z) (congrArg (jV) hi19.out)) (oA Z Z (zj ?_))))))))
   obtain rfl:=nA hm43
   exact zF ⟨Z,_,Z,⟨U31,Z,f17,(le15.trans le35),hS37⟩⟩
 ·rintro ⟨⟩ σ44 W45 ⟨U48,fi47,f51,le49,hS50⟩ hb46
  have hm52:=wCv hm hX4 hb46
  try dsimp only at hm52
  have c53:Hid (¬ ((↑(((↑p0.length:Int):Int) - 0).toNat:Int) < (↑p0.length:Int))):=zG (wAa)
  refine zB (sR fL4 Z (oM Z fi47 (oM Z f51 (oR Z (zN Z Z zE) (oR Z (zS Z Z Z) (eN (cF Z c53 (ZG (zW (zW (zr (zF (sR fL1 Z (oA Z Z (eN (zM ?_))))))))))))))))
  have hE:=nA hm52;first | subst r | cases hE
  exact ⟨Z,_,(zt Z),U48,_,hS50,Z,Z⟩
theorem wDv (p0:wAM) (pA0_0:Option Addr) (pc0_0:Nat) (w:World) (U:PHeap) (hS:St0 w U []) (ha0:Sl U 1 pA0_0 pc0_0 p0.Classes.length (nE KL.encI p0.Classes)) {r:Int} (hm:wBL p0=some r):Gv Tryz.prog 94 [.agg #[.slice pA0_0 p0.Classes.length pc0_0,jV p0.Each,jV p0.Laps,jV p0.Spare,jV p0.Loop,jV p0.Unused]] w (wCj w [] U (fun U_ L_ v=>v=jV r/\L_=[])):=by
 unfold wBL at hm
 refine Gv.of Tryz.func94 Z Tryz.ntmps94 Tryz.results94 Z (sR (.fx 0 (.fl 1 (.nil)) .stop) Z ?_)
 let B0:List Value:=[.slice pA0_0 p0.Classes.length pc0_0,jV p0.Each,jV p0.Laps,jV p0.Spare,jV p0.Loop,jV p0.Unused]
 refine Ze (cs:=B0) rfl rfl rfl rfl rfl rfl (by rfl) hS ?_
 intro W1 b2 hS3
 refine oA Z Z (eN (zB (sR (wEK (.fx 3 (.nil) .stop)) Z (oR Z (zA Z Z ZJ Z zO) (oL Z (hS3.ldB (j:=0) Z Z Z zd (v:=.slice pA0_0 p0.Classes.length pc0_0) Z) (oR Z (zN Z Z zE) (bnK hm fun x5 h6 hm7=>zQ 0 Z Z Z Z (zR Z Z yB (zH Z (zH Z (zH Z ze))) Z) hS3 (fun hs=>wAO (↑p0.Classes.length:Int) 1 4 W1 U hs h6) (.inr Z) ?_)))))))
 rintro U8 L9 v10 W11 le12 hS13 ⟨rfl,rfl⟩
 have hS14:sW w U U8 [.blk b2 31 B0] W11:=hS13
 refine eN (ifc hm7 ?_ ?_)
 ·intro c15 hm16
  refine zp (congrArg nB c15.out) (sR fL1 Z (oA Z Z (eN (zM (zC ?_)))))
  cases hm16
  exact ⟨rfl,_,(zt rfl),U8,_,(hS14.pick [] _ (by decide) rfl),rfl,rfl⟩
 ·intro c15 hm17
  refine zo (congrArg nB (nD.2 c15.out)) (kN (zB (sR (.fl 0 (.fl 1 (.fx 2 (wSP (.fx 6 (wTp (.fx 11 (wPZ (.fx 16 (wSW (.fx 21 (wSX (.fx 26 (.fl 27 (.nil)) .stop)) .stop)) .stop)) .stop)) .stop)) .stop))) Z (oR Z (zA Z Z ZJ Z zO) (oL Z (hS14.ldB (j:=0) Z Z Z zd (v:=.slice pA0_0 p0.Classes.length pc0_0) Z) ?_)))))
  have h18:=ha0.le le12
  refine bnK hm17 fun x19 h20 hm21=>zQ 0 Z Z Z Z (zR Z Z Tryz.call96 (zH Z ze) Z) hS14 (fun hs=>wDn p0.Classes pA0_0 pc0_0 W11 U8 hs h18 h20) (.inr Z) ?_
  rintro U22 L23 v24 W25 le26 hS27 ⟨rfl,rfl⟩
  have hS28:sW w U U22 [.blk b2 31 B0] W25:=hS27
  refine oM Z Z (ifc hm21 ?_ ?_)
  ·intro c29 hm30
   refine ZA Z Z Z (zf Z Z (congrArg nB c29.out) Z) (ZA Z Z Z (zf Z Z (congrArg nB c29.out) Z) (Zj Z Z Z (zf Z Z (congrArg nB c29.out) Z) (oR Z (zi Z (congrArg nB c29.out) Z) (oM Z Z (oN Z (oN Z (Zj Z Z Z (zf Z Z Z Z) (oR Z (zi Z Z Z) (oM Z Z (oN Z (oN Z (Zj Z Z Z (zf Z Z Z Z) (oR Z (zi Z Z Z) (oM Z Z (oN Z (oN Z (Zj Z Z Z (zf Z Z Z Z) (oR Z (zi Z Z Z) (oM Z Z (oN Z (oN Z (Zj Z Z Z (zf Z Z Z Z) (oR Z (zi Z Z Z) (eN (zp Z (sR fL1 Z (oA Z Z (eN (zM (zC ?_))))))))))))))))))))))))))))))
   cases hm30
   exact ⟨rfl,_,(zt rfl),U22,_,(hS28.pick [] _ (by decide) rfl),rfl,rfl⟩
  ·intro c29 hm31
   refine zu Z Z Z (zJ Z Z (congrArg nB (nD.2 c29.out))) (fun _=>zA Z Z ZJ Z zI) (ZN Z Z Z (zJ Z Z (congrArg nB (nD.2 c29.out))) (hS28.ldB (j:=0) Z Z Z zP (v:=jV p0.Each) Z) Z (bnK hm31 fun x32 h33 hm34=>zQ 0 Z Z Z (zJ Z Z (congrArg nB (nD.2 c29.out))) (zR Z Z yB (zH Z (zH Z (zH Z ze))) Z) hS28 (fun hs=>wAO p0.Each 1 4 W25 U22 hs h33) (.inr Z) ?_))
   rintro U35 L36 v37 W38 le39 hS40 ⟨rfl,rfl⟩
   have hS41:sW w U U35 [.blk b2 31 B0] W38:=hS40
   refine oR Z (zh Z (congrArg nB (nD.2 c29.out)) Z) (oM Z Z (ifc hm34 ?_ ?_))
   ·intro c42 hm43
    refine ZA Z Z Z (zf Z Z (congrArg nB c42.out) Z) (ZA Z Z Z (zf Z Z (congrArg nB c42.out) Z) (Zj Z Z Z (zf Z Z (congrArg nB c42.out) Z) (oR Z (zi Z (congrArg nB c42.out) Z) (oM Z Z (oN Z (oN Z (Zj Z Z Z (zf Z Z Z Z) (oR Z (zi Z Z Z) (oM Z Z (oN Z (oN Z (Zj Z Z Z (zf Z Z Z Z) (oR Z (zi Z Z Z) (oM Z Z (oN Z (oN Z (Zj Z Z Z (zf Z Z Z Z) (oR Z (zi Z Z Z) (eN (zp Z (sR fL1 Z (oA Z Z (eN (zM (zC ?_)))))))))))))))))))))))))
    cases hm43
    exact ⟨rfl,_,(zt rfl),U35,_,(hS41.pick [] _ (by decide) rfl),rfl,rfl⟩
   ·intro c42 hm44
    refine zu Z Z Z (zJ Z Z (congrArg nB (nD.2 c42.out))) (fun _=>zA Z Z ZJ Z zI) (ZN Z Z Z (zJ Z Z (congrArg nB (nD.2 c42.out))) (hS41.ldB (j:=0) Z Z Z zP (v:=jV p0.Laps) Z) Z (bnK hm44 fun x45 h46 hm47=>zQ 0 Z Z Z (zJ Z Z (congrArg nB (nD.2 c42.out))) (zR Z Z yB (zH Z (zH Z (zH Z ze))) Z) hS41 (fun hs=>wAO p0.Laps 1 5 W38 U35 hs h46) (.inr Z) ?_))
    rintro U48 L49 v50 W51 le52 hS53 ⟨rfl,rfl⟩
    have hS54:sW w U U48 [.blk b2 31 B0] W51:=hS53
    refine oR Z (zh Z (congrArg nB (nD.2 c42.out)) Z) (oM Z Z (ifc hm47 ?_ ?_))
    ·intro c55 hm56
     refine ZA Z Z Z (zf Z Z (congrArg nB c55.out) Z) (ZA Z Z Z (zf Z Z (congrArg nB c55.out) Z) (Zj Z Z Z (zf Z Z (congrArg nB c55.out) Z) (oR Z (zi Z (congrArg nB c55.out) Z) (oM Z Z (oN Z (oN Z (Zj Z Z Z (zf Z Z Z Z) (oR Z (zi Z Z Z) (oM Z Z (oN Z (oN Z (Zj Z Z Z (zf Z Z Z Z) (oR Z (zi Z Z Z) (eN (zp Z (sR fL1 Z (oA Z Z (eN (zM (zC ?_))))))))))))))))))))
     cases hm56
     exact ⟨rfl,_,(zt rfl),U48,_,(hS54.pick [] _ (by decide) rfl),rfl,rfl⟩
    ·intro c55 hm57
     refine zu Z Z Z (zJ Z Z (congrArg nB (nD.2 c55.out))) (fun _=>zA Z Z ZJ Z zI) (ZN Z Z Z (zJ Z Z (congrArg nB (nD.2 c55.out))) (hS54.ldB (j:=0) Z Z Z zP (v:=jV p0.Spare) Z) Z (bnK hm57 fun x58 h59 hm60=>zQ 0 Z Z Z (zJ Z Z (congrArg nB (nD.2 c55.out))) (zR Z Z yB (zH Z (zH Z (zH Z ze))) Z) hS54 (fun hs=>wAO p0.Spare 0 600 W51 U48 hs h59) (.inr Z) ?_))
     rintro U61 L62 v63 W64 le65 hS66 ⟨rfl,rfl⟩
     have hS67:sW w U U61 [.blk b2 31 B0] W64:=hS66
     refine oR Z (zh Z (congrArg nB (nD.2 c55.out)) Z) (oM Z Z (ifc hm60 ?_ ?_))
     ·intro c68 hm69
      refine ZA Z Z Z (zf Z Z (congrArg nB c68.out) Z) (ZA Z Z Z (zf Z Z (congrArg nB c68.out) Z) (Zj Z Z Z (zf Z Z (congrArg nB c68.out) Z) (oR Z (zi Z (congrArg nB c68.out) Z) (oM Z Z (oN Z (oN Z (Zj Z Z Z (zf Z Z Z Z) (oR Z (zi Z Z Z) (eN (zp Z (sR fL1 Z (oA Z Z (eN (zM (zC ?_)))))))))))))))
      cases hm69
      exact ⟨rfl,_,(zt rfl),U61,_,(hS67.pick [] _ (by decide) rfl),rfl,rfl⟩
     ·intro c68 hm70
      refine zu Z Z Z (zJ Z Z (congrArg nB (nD.2 c68.out))) (fun _=>zA Z Z ZJ Z zI) (ZN Z Z Z (zJ Z Z (congrArg nB (nD.2 c68.out))) (hS67.ldB (j:=0) Z Z Z zP (v:=jV p0.Loop) Z) Z (bnK hm70 fun x71 h72 hm73=>zQ 0 Z Z Z (zJ Z Z (congrArg nB (nD.2 c68.out))) (zR Z Z yB (zH Z (zH Z (zH Z ze))) Z) hS67 (fun hs=>wAO p0.Loop 0 600 W64 U61 hs h72) (.inr Z) ?_))
      rintro U74 L75 v76 W77 le78 hS79 ⟨rfl,rfl⟩
      have hS80:sW w U U74 [.blk b2 31 B0] W77:=hS79
      refine oR Z (zh Z (congrArg nB (nD.2 c68.out)) Z) (oM Z Z (ifc hm73 ?_ ?_))
      ·intro c81 hm82
       refine ZA Z Z Z (zf Z Z (congrArg nB c81.out) Z) (ZA Z Z Z (zf Z Z (congrArg nB c81.out) Z) (Zj Z Z Z (zf Z Z (congrArg nB c81.out) Z) (oR Z (zi Z (congrArg nB c81.out) Z) (eN (zp Z (sR fL1 Z (oA Z Z (eN (zM (zC ?_))))))))))
       cases hm82
       exact ⟨rfl,_,(zt rfl),U74,_,(hS80.pick [] _ (by decide) rfl),rfl,rfl⟩
      ·intro c81 hm83
       refine zu Z Z Z (zJ Z Z (congrArg nB (nD.2 c81.out))) (fun _=>zA Z Z ZJ Z zI) (ZN Z Z Z (zJ Z Z (congrArg nB (nD.2 c81.out))) (hS80.ldB (j:=0) Z Z Z zP (v:=jV p0.Unused) Z) Z (bnK hm83 fun x84 h85 hm86=>zQ 0 Z Z Z (zJ Z Z (congrArg nB (nD.2 c81.out))) (zR Z Z yB (zH Z (zH Z (zH Z ze))) Z) hS80 (fun hs=>wAO p0.Unused 0 6000 W77 U74 hs h85) (.inr Z) ?_))
       rintro U87 L88 v89 W90 le91 hS92 ⟨rfl,rfl⟩
       have hS93:sW w U U87 [.blk b2 31 B0] W90:=hS92
       refine oR Z (zh Z (congrArg nB (nD.2 c81.out)) Z) (eN (ifc hm86 ?_ ?_))
       ·intro c94 hm95
        refine zp (congrArg nB c94.out) (sR fL1 Z (oA Z Z (eN (zM (zC ?_)))))
        cases hm95
        exact ⟨rfl,_,(zt rfl),U87,_,(hS93.pick [] _ (by decide) rfl),rfl,rfl⟩
       ·intro c94 hm96
        refine zo (congrArg nB (nD.2 c94.out)) (kN (sR fL1 Z (oA Z Z (eN (zM ?_)))))
        cases hm96
        exact ⟨rfl,_,(zt rfl),U87,_,(hS93.pick [] _ (by decide) rfl),rfl,rfl⟩
theorem wCu (p0:List Bool) (pA0:Option Addr) (pc0:Nat) (w:World) (U:PHeap) (hS:St0 w U []) (ha0:Sl U 1 pA0 pc0 p0.length (nE KL.encT p0)) {r:wAT × Int} (hm:wAo p0=some r):Gv Tryz.prog 97 [.slice pA0 p0.length pc0] w (wCj w [] U (fun U_ L_ v=>v=.tuple #[.agg #[jV r.1.Spares,jV r.1.Loops,jV r.1.Unused],jV r.2]/\L_=[])):=by
 unfold wAo at hm
 refine Gv.of Tryz.func97 Z Tryz.ntmps97 Tryz.results97 Z (sR (.fx 0 (.fl 1 (.nil)) .stop) Z ?_)
 let B0:List Value:=[jV 0,jV 0,jV 0]
 refine zq (cs:=B0) Z Z Z Z Z yO Z hS ?_
 intro W1 b2 hS3
 refine oA Z Z (eN (zB (sR (.fl 0 (.fl 1 (.fx 2 (.nil) .stop))) Z (oM Z Z (oR Z (zN Z Z ZO) (bnK hm fun x5 h6 hm7=>zQ 0 Z Z Z Z (zR Z Z yB (zH Z (zH Z (zH Z ze))) Z) hS3 (fun hs=>wAO (↑p0.length:Int) 5 8 W1 U hs h6) (.inr Z) ?_))))))
 rintro U8 L9 v10 W11 le12 hS13 ⟨rfl,rfl⟩
 have hS14:sW w U U8 [.blk b2 172 B0] W11:=hS13
 refine eN (ifc hm7 ?_ ?_)
 ·intro c15 hm16
  refine zp (congrArg nB c15.out) (sR (.fl 0 (.fx 1 (.fl 2 (.nil)) .stop)) Z (oR Z (Zh (pv:=[]) (z:=B0) (cs:=B0) Z wAU yO wFt Z Z) (ZE (j:=0) (vs:=B0) Z Z Z Z hS14 Z Z Z Z yH (zD Z) Z Z Z ?_)))
  intro W17 hS18
  have hS19:sW w U U8 [.blk b2 172 B0] W17:=hS18
  refine oA Z Z (eN (zM (zC ?_)))
  cases hm16
  exact ⟨rfl,_,(wFk (rs:=[.cell 2 172,.tmp 3]) (vs:=[.agg B0.toArray,jV 2]) ⟨⟨_,rfl,(wDO Tryz.isAgg172 yH (hS19.blkAt (k:=0) rfl) (vs:=B0) rfl rfl)⟩,⟨rfl,trivial⟩⟩ rfl),U8,_,(hS19.pick [] _ (by decide) rfl),rfl,rfl⟩
 ·intro c15 hm20
  refine zo (congrArg nB (nD.2 c15.out)) (kN (sR fL1 Z (oA Z Z (eN (zB (sR fL1 Z (oA Z Z (eN (zL ?_)))))))))
  have q:=wCM hm20
  obtain ⟨r28,hX29⟩:=q
  have q:=wCL hX29
  obtain ⟨hle30,hf31⟩:=q
  replace hle30:=zG hle30
  refine yK (fun k27 x26 σ_ w_=>∃ (U_:PHeap),σ_ 5=jV (↑k27:Int)/\σ_ 0=.slice pA0 p0.length pc0/\σ_ 2=.pointer (some ⟨b2,0,none⟩)/\σ_ 4=jV x26/\PHeap.Le U8 U_/\sW w U U_ [.blk b2 172 B0] w_) hf31 ?_ ?_ ?_
  ·exact ⟨U8,Z,Z,Z,Z,(zZ _),hS14⟩
  ·rintro k27 x26 xx34 σ32 W33 hk37 ⟨U39,fi38,f42,f43,f44,le40,hS41⟩ hx35 hb36
   have c45:Hid ((↑k27:Int) < (↑p0.length:Int)):=zG (wAy hk37)
   replace hk37:=zG hk37
   have hi46:Hid (w64 ((↑k27:Int) + 1)=(↑(k27 + 1):Int)):=zG (by have h1:=hle30.out;have h2:=c45.out;rw [wAK] <;> omega)
   refine zB (sR fL4 Z (oM Z fi38 (oM Z f42 (oR Z (zN Z Z ZO) (oR Z (zS Z Z Z) (eN (cT Z c45 (kN (zB (zL (zB (sR fL2 Z (oM Z f44 (oR Z (yI Z Z Z) (eN ?_)))))))))))))))
   by_cases c47:x26=5
   ·have hm48:=hx35;rw [if_pos c47] at hm48;replace c47:=zG c47
    refine cT Z c47 (sR (.fl 0 (.fx 1 (.fl 2 (.nil)) .stop)) Z (oR Z (Zh (pv:=[]) (z:=B0) (cs:=B0) Z wAU yO wFt Z Z) (ZE (j:=0) (vs:=B0) Z Z Z Z hS41 Z f43 Z Z yH (zD Z) Z Z Z ?_)))
    intro W49 hS50
    have hS51:sW w U U39 [.blk b2 172 B0] W49:=hS50
    refine oA Z Z (eN (zM (zC (zK (zC ?_)))))
    have q:=wAF hm48
    obtain ⟨v52,hm53,e54⟩:=q
    obtain rfl:=wBd hm20 hX29 (hb36 v52 e54)
    refine zC (zK (zC ?_))
    cases hm53
    exact ⟨rfl,_,(wFk (rs:=[.cell 2 172,.tmp 3]) (vs:=[.agg B0.toArray,jV 8]) ⟨⟨_,f43,(wDO Tryz.isAgg172 yH (hS51.blkAt (k:=0) rfl) (vs:=B0) rfl rfl)⟩,⟨rfl,trivial⟩⟩ rfl),U39,_,(hS51.pick [] _ (by decide) rfl),rfl,rfl⟩
   ·have hm55:=hx35;rw [if_neg c47] at hm55;replace c47:=zG c47
    refine cF Z c47 (kN (sR fL4 Z (oM Z f42 (oM Z fi38 (bnK hm55 fun x56 h57 hm58=>?_)))))
    have h59:=ha0.le le12
    have h60:=h59.le le40
    have q:=h60.el (fun _=>rfl) (wAE h57)
    obtain ⟨b61,off62,hA63,hC64⟩:=q
    refine oR Z (zx Z Z hA63 Z ZO Tryz.sizeOf4 (wAc h57)) (oL Z (hS41.ldC (f:=0) hC64 (v:=.bool x56) Z Z Tryz.isAgg4 Z) (eN (ifc hm58 ?_ ?_)))
    ·intro c65 hm66
     refine zp (congrArg nB c65.out) (rR fL3 Z (oM Z f44 (oR Z (zU Z Z Z) (oA Z Z (zj (zg (zF (rR fL3 Z (oM Z fi38 (oR Z (ZD (zU Z Z Z) (congrArg (jV) hi46.out)) (oA Z Z (zj ?_))))))))))))
     obtain rfl:=nA hm66
     exact zF ⟨Z,_,Z,⟨U39,Z,f42,f43,Z,le40,hS41⟩⟩
    ·intro c65 hm68
     refine zo (congrArg nB (nD.2 c65.out)) (ZW (zg (zF (rR fL3 Z (oM Z fi38 (oR Z (ZD (zU Z Z Z) (congrArg (jV) hi46.out)) (oA Z Z (zj ?_))))))))
     obtain rfl:=nA hm68
     exact zF ⟨Z,_,Z,⟨U39,Z,f42,f43,f44,le40,hS41⟩⟩
  ·rintro y74 σ70 W71 ⟨U75,fi73,f78,f79,f80,le76,hS77⟩ hb72
   have hm81:=wCv hm20 hX29 hb72
   have c82:Hid (¬ ((↑(((↑p0.length:Int):Int) - 0).toNat:Int) < (↑p0.length:Int))):=zG (wAa)
   refine zB (sR fL4 Z (oM Z fi73 (oM Z f78 (oR Z (zN Z Z ZO) (oR Z (zS Z Z Z) (eN (cF Z c82 (ZG (zW (zW (zr (zF (sR fL1 Z (oA Z Z (eN (zB (sR fL2 Z (oM Z f80 (oR Z (zS Z Z Z) (eN (ifc hm81 ?_ ?_)))))))))))))))))))))
   ·intro c83 hm84
    refine cT Z c83 (rR fL4 Z (oM Z f78 (oR Z (zN Z Z ZO) (oR Z (Zn Z Z Z) (oA Z Z (eN (sR (wQT (.fx 7 (.fl 8 (.nil)) .stop)) Z (oM Z f78 (oR Z (zN Z Z ZO) (oR Z (Zn Z Z Z) (oM Z f80 (oR Z (Zn Z Z Z) (oM Z Z ?_)))))))))))))
    let B1:List Value:=[jV (w64 ((↑p0.length:Int) - 5)),jV (w64 (5 - y74)),jV (w64 (8 - (↑p0.length:Int)))]
    refine oR Z (Zh (pv:=[(0,jV (w64 ((↑p0.length:Int) - 5))),(1,jV (w64 (5 - y74))),(2,jV (w64 (8 - (↑p0.length:Int))))]) (z:=B0) (cs:=B1) Z (wAI Z (wAI Z (wAI Z wAU))) yO wFt Z Z) (ZE (j:=0) (vs:=B1) Z Z Z Z hS77 Z f79 Z Z yH (zD Z) Z Z Z ?_)
    intro W85 hS86
    have hS87:sW w U U75 [.blk b2 172 B1] W85:=hS86
    refine oA Z Z (eN (zM ?_))
    cases hm84
    exact ⟨rfl,_,(wFk (rs:=[.cell 2 172,.tmp 3]) (vs:=[.agg B1.toArray,jV 0]) ⟨⟨_,f79,(wDO Tryz.isAgg172 yH (hS87.blkAt (k:=0) rfl) (vs:=B1) rfl rfl)⟩,⟨rfl,trivial⟩⟩ rfl),U75,_,(hS87.pick [] _ (by decide) rfl),rfl,rfl⟩
   ·intro c83 hm88
    refine cF Z c83 (kN (sR (wQT (.fx 7 (.fl 8 (.nil)) .stop)) Z (oM Z f78 (oR Z (zN Z Z ZO) (oR Z (Zn Z Z Z) (oM Z f80 (oR Z (Zn Z Z Z) (oM Z Z ?_))))))))
    let B2:List Value:=[jV (w64 ((↑p0.length:Int) - 5)),jV (w64 (5 - y74)),jV 0]
    refine oR Z (Zh (pv:=[(0,jV (w64 ((↑p0.length:Int) - 5))),(1,jV (w64 (5 - y74))),(2,jV 0)]) (z:=B0) (cs:=B2) Z (wAI Z (wAI Z (wAI Z wAU))) yO wFt Z Z) (ZE (j:=0) (vs:=B2) Z Z Z Z hS77 Z f79 Z Z yH (zD Z) Z Z Z ?_)
    intro W89 hS90
    have hS91:sW w U U75 [.blk b2 172 B2] W89:=hS90
    refine oA Z Z (eN (zM ?_))
    cases hm88
    exact ⟨rfl,_,(wFk (rs:=[.cell 2 172,.tmp 3]) (vs:=[.agg B2.toArray,jV 0]) ⟨⟨_,f79,(wDO Tryz.isAgg172 yH (hS91.blkAt (k:=0) rfl) (vs:=B2) rfl rfl)⟩,⟨rfl,trivial⟩⟩ rfl),U75,_,(hS91.pick [] _ (by decide) rfl),rfl,rfl⟩
theorem wCn (p0:wAD) (pA0_0_0:Option Addr) (pc0_0_0:Nat) (pA0_2:Option Addr) (pc0_2:Nat) (w:World) (U:PHeap) (hS:St0 w U []) (ha0:Sl U 1 pA0_0_0 pc0_0_0 p0.Rules.Classes.length (nE KL.encI p0.Rules.Classes)) (ha1:SlR U wET pA0_2 pc0_2 p0.Teams) {r:Int} (hm:wAj p0=some r):Gv Tryz.prog 14 [.agg #[.slice pA0_0_0 p0.Rules.Classes.length pc0_0_0,jV p0.Rules.Each,jV p0.Rules.Laps,jV p0.Rules.Spare,jV p0.Rules.Loop,jV p0.Rules.Unused,jV p0.Start,.slice pA0_2 p0.Teams.length pc0_2]] w (wCj w [] U (fun U_ L_ v=>v=jV r/\L_=[])):=by
 unfold wAj at hm
 refine Gv.of Tryz.func14 Z Tryz.ntmps14 Tryz.results14 Z (sR (.fx 0 (.fl 1 (.nil)) .stop) Z ?_)
 let B0:List Value:=[.slice pA0_0_0 p0.Rules.Classes.length pc0_0_0,jV p0.Rules.Each,jV p0.Rules.Laps,jV p0.Rules.Spare,jV p0.Rules.Loop,jV p0.Rules.Unused,jV p0.Start,.slice pA0_2 p0.Teams.length pc0_2]
 refine Ze (cs:=B0) rfl rfl rfl rfl rfl rfl (by rfl) hS ?_
 intro W1 b2 hS3
 refine oA Z Z (eN (zB (sR (.fl 0 (.fl 1 (.fx 2 (.fl 3 (.nil)) .stop))) Z (oR Z (zA Z Z zX Z Zs) (oL Z (hS3.ldBA (j:=0) Z Z Z Tryz.isAgg31 Zs (vs:=[.slice pA0_0_0 p0.Rules.Classes.length pc0_0_0,jV p0.Rules.Each,jV p0.Rules.Laps,jV p0.Rules.Spare,jV p0.Rules.Loop,jV p0.Rules.Unused]) Z Z) (bnK hm fun x5 h6 hm7=>zQ 0 Z Z Z Z (zR Z Z Tryz.call94 (zH Z ze) Z) hS3 (fun hs=>wDv p0.Rules pA0_0_0 pc0_0_0 W1 U hs ha0 h6) (.inr Z) ?_))))))
 rintro U8 L9 v10 W11 le12 hS13 ⟨rfl,rfl⟩
 have hS14:sW w U U8 [.blk b2 34 B0] W11:=hS13
 refine oA Z Z (eN (sR fL2 Z (oM Z Z (oR Z (ZV Z Z Z) (eN (ifc hm7 ?_ ?_))))))
 ·intro c15 hm16
  refine zo (zw (fun h=>h c15.out)) (kN (zB (sR (wEK (.fx 3 (.nil) .stop)) Z (oR Z (zA Z Z zX Z ZR) (oL Z (hS14.ldB (j:=0) Z Z Z ZY (v:=.slice pA0_2 p0.Teams.length pc0_2) Z) (oR Z (zN Z Z zy) (bnK hm16 fun x17 h18 hm19=>zQ 0 Z Z Z Z (zR Z Z yB (zH Z (zH Z (zH Z ze))) Z) hS14 (fun hs=>wAO (↑p0.Teams.length:Int) 1 12 W11 U8 hs h18) (.inr Z) ?_)))))))
  rintro U20 L21 v22 W23 le24 hS25 ⟨rfl,rfl⟩
  have hS26:sW w U U20 [.blk b2 34 B0] W23:=hS25
  refine eN (ifc hm19 ?_ ?_)
  ·intro c27 hm28
   refine zp (congrArg nB c27.out) (sR fL1 Z (oA Z Z (eN (zM (zC ?_)))))
   cases hm28
   exact ⟨rfl,_,(zt rfl),U20,_,(hS26.pick [] _ (by decide) rfl),rfl,rfl⟩
  ·intro c27 hm29
   refine zo (congrArg nB (nD.2 c27.out)) (kN (zB (sR fL1 Z (oA Z Z (eN (zL (yV (fun x33 σ_ w_=>∃ (U_:PHeap),σ_ 1=.pointer (some ⟨b2,0,none⟩)/\σ_ 4=jV x33/\PHeap.Le U20 U_/\sW w U U_ [.blk b2 34 B0] w_) hm29 ?_ ?_)))))))
   ·exact ⟨U20,Z,Z,(zZ _),hS26⟩
   ·rintro x33 xx36 σ34 W35 ⟨U41,f44,f45,le42,hS43⟩ hx37 hb38
    refine zB (sR fL5 Z (oM Z f45 (oR Z (zA Z f44 zX Z ZR) (oL Z (hS43.ldB (j:=0) Z Z Z ZY (v:=.slice pA0_2 p0.Teams.length pc0_2) Z) (oR Z (zN Z Z zy) (oR Z (zS Z Z Z) (eN ?_)))))))
    by_cases c46:x33 < (↑p0.Teams.length:Int)
    ·have hm47:=hx37;rw [if_pos c46] at hm47;replace c46:=zG c46
     refine cT Z c46 (kN (zB (zL (sR (wIQ (.fx 5 (.fx 6 (.nil) .stop) .stop)) Z (oR Z (zA Z f44 zX Z ZR) (oL Z (hS43.ldB (j:=0) Z Z Z ZY (v:=.slice pA0_2 p0.Teams.length pc0_2) Z) (oM Z f45 (bnK hm47 fun x48 h49 hm50=>?_))))))))
     have h51:=ha1.le le12
     have h52:=h51.le le24
     have h53:=h52.le le42
     have q:=h53.el (wAE h49)
     obtain ⟨b54,off55,vs58,hA56,hC57,hr59⟩:=q
     obtain ⟨pA60,pc61,pA62,pc63,rfl,h64,h65⟩:=hr59
     replace hC57:Cl U41 b54 (off55 + x33.toNat * 3) [jV x48.Bib,.slice pA60 x48.Classes.length pc61,.slice pA62 x48.Legs.length pc63]:=hC57
     refine oR Z (ZQ Z Z hA56 Z zy ZU (wAx h49) (wBE h49)) (oL Z (hS43.ldCA (f:=0) hC57 Z Z Tryz.isAgg160 ZU (us:=[jV x48.Bib,.slice pA60 x48.Classes.length pc61,.slice pA62 x48.Legs.length pc63]) Z Z) (zq (cs:=[jV 0,.slice none 0 0,.slice none 0 0]) Z Z Z Z Z Tryz.zeroValue160 Z hS43 ?_))
     intro W66 b67 hS68
     let B1:List Value:=[jV x48.Bib,.slice pA60 x48.Classes.length pc61,.slice pA62 x48.Legs.length pc63]
     refine ZE (j:=0) (vs:=B1) Z Z Z Z hS68 Z Z Z Z ZU (zD Z) Z Z Z ?_
     intro W70 hS71
     have hS72:sW w U U41 [.blk b67 160 B1,.blk b2 34 B0] W70:=hS71
     refine eN (zB (sR (wEK (.fx 3 (wQx (.nil)) .stop)) Z (oR Z (zA Z Z zk Z zO) (oL Z (hS72.ldB (j:=0) Z Z Z zd (v:=.slice pA60 x48.Classes.length pc61) Z) (oR Z (zN Z Z zE) (bnK hm50 fun x73 h74 hm75=>zQ 0 Z Z Z Z (zR Z Z yB (zH Z (zH Z (zH Z ze))) Z) hS72 (fun hs=>wAO (↑x48.Classes.length:Int) 1 8 W70 U41 hs h74) (.inr Z) ?_))))))
     rintro U76 L77 v78 W79 le80 hS81 ⟨rfl,rfl⟩
     have hS82:sW w U U76 [.blk b67 160 B1,.blk b2 34 B0] W79:=hS81
     refine oM Z Z (ifc hm75 ?_ ?_)
     ·intro c83 hm84
      refine ZA Z Z Z (zf Z Z (congrArg nB c83.out) Z) (ZA Z Z Z (zf Z Z (congrArg nB c83.out) Z) (ZA Z Z Z (zf Z Z (congrArg nB c83.out) Z) (ZA Z Z Z (zf Z Z (congrArg nB c83.out) Z) (ZA Z Z Z (zf Z Z (congrArg nB c83.out) Z) (ZA Z Z Z (zf Z Z (congrArg nB c83.out) Z) (ZA Z Z Z (zf Z Z (congrArg nB c83.out) Z) (ZA Z Z Z (zf Z Z (congrArg nB c83.out) Z) (oR Z (zi Z (congrArg nB c83.out) Z) (eN (zp Z (sR fL1 Z (oA Z Z (eN (zM (zC (zK (zC ?_)))))))))))))))))
      have q:=wAF hm84
      obtain ⟨v85,hm86,e87⟩:=q
      obtain rfl:=hb38 v85 e87
      refine zC (zK (zC ?_))
      cases hm86
      exact ⟨rfl,_,(zt rfl),U76,_,(hS82.pick [] _ (by decide) rfl),rfl,rfl⟩
     ·intro c83 hm88
      refine zu Z Z Z (zJ Z Z (congrArg nB (nD.2 c83.out))) (fun _=>zA Z Z zk Z ZT) (ZN Z Z Z (zJ Z Z (congrArg nB (nD.2 c83.out))) (hS82.ldB (j:=0) Z Z Z Zc (v:=.slice pA62 x48.Legs.length pc63) Z) Z (zu Z Z Z (zJ Z Z (congrArg nB (nD.2 c83.out))) (fun _=>zN Z Z ZF) (zu Z Z Z (zJ Z Z (congrArg nB (nD.2 c83.out))) (fun _=>zA Z f44 zX Z Zs) (zu Z Z Z (zJ Z Z (congrArg nB (nD.2 c83.out))) (fun _=>zA Z Z ZJ Z zO) (ZN Z Z Z (zJ Z Z (congrArg nB (nD.2 c83.out))) (hS82.ldB (j:=1) Z Z Z zd (v:=.slice pA0_0_0 p0.Rules.Classes.length pc0_0_0) Z) Z (zu Z Z Z (zJ Z Z (congrArg nB (nD.2 c83.out))) (fun _=>zN Z Z zE) (zu Z Z Z (zJ Z Z (congrArg nB (nD.2 c83.out))) (fun _=>yF Z Z Z) (oR Z (zh Z (congrArg nB (nD.2 c83.out)) Z) (eN (ifc hm88 ?_ ?_))))))))))
      ·intro c89 hm90
       refine cT Z c89 (sR fL1 Z (oA Z Z (eN (zM (zC (zK (zC ?_)))))))
       have q:=wAF hm90
       obtain ⟨v91,hm92,e93⟩:=q
       obtain rfl:=hb38 v91 e93
       refine zC (zK (zC ?_))
       cases hm92
       exact ⟨rfl,_,(zt rfl),U76,_,(hS82.pick [] _ (by decide) rfl),rfl,rfl⟩
      ·intro c89 hm94
       refine cF Z c89 (kN (sR fL1 Z (oA Z Z (eN (zL (yV (fun x98 σ_ w_=>∃ (U_:PHeap),σ_ 1=.pointer (some ⟨b2,0,none⟩)/\σ_ 4=jV x33/\σ_ 5=.pointer (some ⟨b67,0,none⟩)/\σ_ 6=jV x98/\PHeap.Le U76 U_/\sW w U U_ [.blk b67 160 B1,.blk b2 34 B0] w_) hm94 ?_ ?_))))))
       ·exact ⟨U76,f44,f45,Z,Z,(zZ _),hS82⟩
       ·rintro x98 xx101 σ99 W100 ⟨U106,f109,f110,f111,f112,le107,hS108⟩ hx102 hb103
        refine zB (sR fL5 Z (oM Z f112 (oR Z (zA Z f111 zk Z ZT) (oL Z (hS108.ldB (j:=0) Z Z Z Zc (v:=.slice pA62 x48.Legs.length pc63) Z) (oR Z (zN Z Z ZF) (oR Z (zS Z Z Z) (eN ?_)))))))
        by_cases c113:x98 < (↑x48.Legs.length:Int)
        ·have hm114:=hx102;rw [if_pos c113] at hm114;replace c113:=zG c113
         refine cT Z c113 (kN (zB (zL (sR fL8 Z (oR Z (zA Z f111 zk Z ZT) (oL Z (hS108.ldB (j:=0) Z Z Z Zc (v:=.slice pA62 x48.Legs.length pc63) Z) (oM Z f112 (bnK hm114 fun x115 h116 hm117=>?_))))))))
         have h118:=h65.le le80
         have h119:=h118.le le107
         have q:=h119.el (wAE h116)
         obtain ⟨b120,off121,vs124,hA122,hC123,hr125⟩:=q
         obtain ⟨pA126,pc127,pA128,pc129,rfl,h130,h131⟩:=hr125
         replace hC123:Cl U106 b120 (off121 + x98.toNat * 3) [jV x115.Skier,.slice pA126 x115.Loops.length pc127,.slice pA128 x115.Bouts.length pc129]:=hC123
         refine oR Z (ZQ Z Z hA122 Z ZF Zp (wAx h116) (wBE h116)) (oR Z (zA Z Z ZS Z zO) (oL Z (hS108.ldC (f:=1) hC123 (v:=.slice pA126 x115.Loops.length pc127) Z Z zd Z) (oR Z (zN Z Z zE) (oA Z Z (eN (sR fL3 Z (oM Z Z (oR Z (Zn Z Z Z) (oA Z Z (eN (zB (sR fL2 Z (oM Z Z (oR Z (yI Z Z Z) (eN (ifc hm117 ?_ ?_))))))))))))))))
         ·intro c132 hm133
          refine cT Z c132 (rR fL1 Z (oA Z Z (eN (zB (CK.fresh fun σ134 hσ135=>?_)))))
          have f136:σ134 1=.pointer (some ⟨b2,0,none⟩):=(hσ135 1).trans f109
          have f137:σ134 4=jV x33:=(hσ135 4).trans f110
          have f138:σ134 5=.pointer (some ⟨b67,0,none⟩):=(hσ135 5).trans f111
          have f139:σ134 6=jV x98:=(hσ135 6).trans f112
          have f140:σ134 7=jV (↑x115.Loops.length:Int):=(hσ135 7).trans rfl
          have f141:σ134 8=jV 0:=(hσ135 8).trans rfl
          clear hσ135
          refine rR fL31 Z (oM Z f140 (oR Z (zA Z f136 zX Z Zs) (oR Z (zA Z Z ZJ Z zI) (oL Z (hS108.ldB (j:=1) Z Z Z zP (v:=jV p0.Rules.Laps) Z) (oR Z (yF Z Z Z) (oM Z Z (ifc hm133 ?_ ?_)))))))
          ·intro c142 hm143
           refine oT Z c142 (oT Z c142 (oT Z c142 (oT Z c142 (oT Z c142 (oT Z c142 (oT Z c142 (ZA Z Z Z (wBn Z Z Z) (ZA Z Z Z (wBn Z Z Z) (ZA Z Z Z (wBn Z Z Z) (ZA Z Z Z (wBn Z Z Z) (ZA Z Z Z (wBn Z Z Z) (oT Z c142 (oR Z (zi Z (yG c142.out) Z) (oM Z Z (oN Z (oN Z (oN Z (oN Z (oN Z (oN Z (oN Z (oN Z (oN Z (oR Z (zi Z Z Z) (eN (zp Z (sR fL1 Z (oA Z Z (eN (zM (zK (zC ?_))))))))))))))))))))))))))))))))
           have q:=wAF hm143
           obtain ⟨v144,hm145,e146⟩:=q
           obtain rfl:=hb103 v144 e146
           refine zC (zK (zK (zC ?_)))
           have q:=wAF hm145
           obtain ⟨v147,hm148,e149⟩:=q
           obtain rfl:=hb38 v147 e149
           refine zC (zK (zC ?_))
           cases hm148
           exact ⟨rfl,_,(zt rfl),U106,_,(hS108.pick [] _ (by decide) rfl),rfl,rfl⟩
          ·intro c142 hm150
           refine ZM Z Z Z (wF Z c142) Z f139 (rU Z (wF Z c142) (zU Z Z Z) (rU Z (wF Z c142) (zA Z f138 zk Z ZT) (ZN Z Z Z (wF Z c142) (hS108.ldB (j:=0) Z Z Z Zc (v:=.slice pA62 x48.Legs.length pc63) Z) Z (rU Z (wF Z c142) (zN Z Z ZF) (rU Z (wF Z c142) (zS Z Z Z) (ZM Z Z Z (wF Z c142) Z Z (ifc hm150 ?_ ?_)))))))
           ·intro c151 hm152
            refine ZM Z Z Z (wT Z c151) Z f140 (rU Z (wT Z c151) (zA Z f136 zX Z Zs) (rU Z (wT Z c151) (zA Z Z ZJ Z zI) (ZN Z Z Z (wT Z c151) (hS108.ldB (j:=1) Z Z Z zP (v:=jV p0.Rules.Laps) Z) Z (rU Z (wT Z c151) (ZV Z Z Z) (rU Z (wF Z c142) (zi Z (yG c151.out) Z) (oR Z (zh Z (zw c142.out) Z) (oM Z Z (ifc hm152 ?_ ?_))))))))
            ·intro c153 hm154
             refine zu Z Z Z (zJ Z Z (zw (fun h=>h c153.out))) (fun _=>zA Z f138 zk Z ZT) (ZN Z Z Z (zJ Z Z (zw (fun h=>h c153.out))) (hS108.ldB (j:=0) Z Z Z Zc (v:=.slice pA62 x48.Legs.length pc63) Z) Z (ZM Z Z Z (zJ Z Z (zw (fun h=>h c153.out))) Z f139 ?_))
             have q:=h119.el (wAE h116)
             obtain ⟨b155,off156,vs159,hA157,hC158,hr160⟩:=q
             obtain ⟨pA161,pc162,pA163,pc164,rfl,h165,h166⟩:=hr160
             replace hC158:Cl U106 b155 (off156 + x98.toNat * 3) [jV x115.Skier,.slice pA161 x115.Loops.length pc162,.slice pA163 x115.Bouts.length pc164]:=hC158
             refine zu Z Z Z (zJ Z Z (zw (fun h=>h c153.out))) (fun _=>ZQ Z Z hA157 Z ZF Zp (wAx h116) (wBE h116)) (zu Z Z Z (zJ Z Z (zw (fun h=>h c153.out))) (fun _=>zA Z Z ZS Z Zm) (ZN Z Z Z (zJ Z Z (zw (fun h=>h c153.out))) (hS108.ldC (f:=2) hC158 (v:=.slice pA163 x115.Bouts.length pc164) Z Z Zr Z) Z (zu Z Z Z (zJ Z Z (zw (fun h=>h c153.out))) (fun _=>zN Z Z ZC) (ZM Z Z Z (zJ Z Z (zw (fun h=>h c153.out))) Z f141 (zu Z Z Z (zJ Z Z (zw (fun h=>h c153.out))) (fun _=>ZV Z Z Z) (oR Z (zh Z (zw (fun h=>h c153.out)) Z) (eN (ifc hm154 ?_ ?_))))))))
             ·intro c167 hm168
              refine zo (zw (fun h=>h c167.out)) (ZW (zg (zF (rR fL3 Z (oM Z f139 (oR Z (zU Z Z Z) (oA Z Z (zj ?_))))))))
              obtain rfl:=nA hm168
              exact zF ⟨Z,_,Z,⟨U106,f136,f137,f138,Z,le107,hS108⟩⟩
             ·intro c167 hm170
              refine cT Z c167 (sR fL1 Z (oA Z Z (eN (zM (zK (zC ?_))))))
              have q:=wAF hm170
              obtain ⟨v171,hm172,e173⟩:=q
              obtain rfl:=hb103 v171 e173
              refine zC (zK (zK (zC ?_)))
              have q:=wAF hm172
              obtain ⟨v174,hm175,e176⟩:=q
              obtain rfl:=hb38 v174 e176
              refine zC (zK (zC ?_))
              cases hm175
              exact ⟨rfl,_,(zt rfl),U106,_,(hS108.pick [] _ (by decide) rfl),rfl,rfl⟩
            ·intro c153 hm177
             refine oT Z c153 (oT Z c153 (oT Z c153 (oT Z c153 (oT Z c153 (oT Z c153 (oT Z c153 (oT Z c153 (oT Z c153 (oR Z (zi Z (yG c153.out) Z) (eN (zp Z (sR fL1 Z (oA Z Z (eN (zM (zK (zC ?_)))))))))))))))))
             have q:=wAF hm177
             obtain ⟨v178,hm179,e180⟩:=q
             obtain rfl:=hb103 v178 e180
             refine zC (zK (zK (zC ?_)))
             have q:=wAF hm179
             obtain ⟨v181,hm182,e183⟩:=q
             obtain rfl:=hb38 v181 e183
             refine zC (zK (zC ?_))
             cases hm182
             exact ⟨rfl,_,(zt rfl),U106,_,(hS108.pick [] _ (by decide) rfl),rfl,rfl⟩
           ·intro c151 hm184
            refine oF Z c151 (oF Z c151 (oF Z c151 (oF Z c151 (oF Z c151 (rU Z (wF Z c142) (zh Z (zw c151.out) Z) (oR Z (zh Z (zw c142.out) Z) (oM Z Z (zu Z Z Z (zJ Z Z Z) (fun _=>zA Z f138 zk Z ZT) (ZN Z Z Z (zJ Z Z Z) (hS108.ldB (j:=0) Z Z Z Zc (v:=.slice pA62 x48.Legs.length pc63) Z) Z (ZM Z Z Z (zJ Z Z Z) Z f139 ?_))))))))))
            have q:=h119.el (wAE h116)
            obtain ⟨b185,off186,vs189,hA187,hC188,hr190⟩:=q
            obtain ⟨pA191,pc192,pA193,pc194,rfl,h195,h196⟩:=hr190
            replace hC188:Cl U106 b185 (off186 + x98.toNat * 3) [jV x115.Skier,.slice pA191 x115.Loops.length pc192,.slice pA193 x115.Bouts.length pc194]:=hC188
            refine zu Z Z Z (zJ Z Z Z) (fun _=>ZQ Z Z hA187 Z ZF Zp (wAx h116) (wBE h116)) (zu Z Z Z (zJ Z Z Z) (fun _=>zA Z Z ZS Z Zm) (ZN Z Z Z (zJ Z Z Z) (hS108.ldC (f:=2) hC188 (v:=.slice pA193 x115.Bouts.length pc194) Z Z Zr Z) Z (zu Z Z Z (zJ Z Z Z) (fun _=>zN Z Z ZC) (ZM Z Z Z (zJ Z Z Z) Z f141 (zu Z Z Z (zJ Z Z Z) (fun _=>ZV Z Z Z) (oR Z (zh Z Z Z) (eN (ifc hm184 ?_ ?_))))))))
            ·intro c197 hm198
             refine zo (zw (fun h=>h c197.out)) (ZW (zg (zF (rR fL3 Z (oM Z f139 (oR Z (zU Z Z Z) (oA Z Z (zj ?_))))))))
             obtain rfl:=nA hm198
             exact zF ⟨Z,_,Z,⟨U106,f136,f137,f138,Z,le107,hS108⟩⟩
            ·intro c197 hm200
             refine cT Z c197 (sR fL1 Z (oA Z Z (eN (zM (zK (zC ?_))))))
             have q:=wAF hm200
             obtain ⟨v201,hm202,e203⟩:=q
             obtain rfl:=hb103 v201 e203
             refine zC (zK (zK (zC ?_)))
             have q:=wAF hm202
             obtain ⟨v204,hm205,e206⟩:=q
             obtain rfl:=hb38 v204 e206
             refine zC (zK (zC ?_))
             cases hm205
             exact ⟨rfl,_,(zt rfl),U106,_,(hS108.pick [] _ (by decide) rfl),rfl,rfl⟩
         ·intro c132 hm207
          refine cF Z c132 (kN (zB (CK.fresh fun σ208 hσ209=>?_)))
          have f210:σ208 1=.pointer (some ⟨b2,0,none⟩):=(hσ209 1).trans f109
          have f211:σ208 4=jV x33:=(hσ209 4).trans f110
          have f212:σ208 5=.pointer (some ⟨b67,0,none⟩):=(hσ209 5).trans f111
          have f213:σ208 6=jV x98:=(hσ209 6).trans f112
          have f214:σ208 7=jV (↑x115.Loops.length:Int):=(hσ209 7).trans rfl
          have f215:σ208 8=jV (w64 ((↑x115.Loops.length:Int) - 1)):=(hσ209 8).trans rfl
          clear hσ209
          refine rR fL31 Z (oM Z f214 (oR Z (zA Z f210 zX Z Zs) (oR Z (zA Z Z ZJ Z zI) (oL Z (hS108.ldB (j:=1) Z Z Z zP (v:=jV p0.Rules.Laps) Z) (oR Z (yF Z Z Z) (oM Z Z (ifc hm207 ?_ ?_)))))))
          ·intro c216 hm217
           refine oT Z c216 (oT Z c216 (oT Z c216 (oT Z c216 (oT Z c216 (oT Z c216 (oT Z c216 (ZA Z Z Z (wBn Z Z Z) (ZA Z Z Z (wBn Z Z Z) (ZA Z Z Z (wBn Z Z Z) (ZA Z Z Z (wBn Z Z Z) (ZA Z Z Z (wBn Z Z Z) (oT Z c216 (oR Z (zi Z (yG c216.out) Z) (oM Z Z (oN Z (oN Z (oN Z (oN Z (oN Z (oN Z (oN Z (oN Z (oN Z (oR Z (zi Z Z Z) (eN (zp Z (sR fL1 Z (oA Z Z (eN (zM (zK (zC ?_))))))))))))))))))))))))))))))))
           have q:=wAF hm217
           obtain ⟨v218,hm219,e220⟩:=q
           obtain rfl:=hb103 v218 e220
           refine zC (zK (zK (zC ?_)))
           have q:=wAF hm219
           obtain ⟨v221,hm222,e223⟩:=q
           obtain rfl:=hb38 v221 e223
           refine zC (zK (zC ?_))
           cases hm222
           exact ⟨rfl,_,(zt rfl),U106,_,(hS108.pick [] _ (by decide) rfl),rfl,rfl⟩
          ·intro c216 hm224
           refine ZM Z Z Z (wF Z c216) Z f213 (rU Z (wF Z c216) (zU Z Z Z) (rU Z (wF Z c216) (zA Z f212 zk Z ZT) (ZN Z Z Z (wF Z c216) (hS108.ldB (j:=0) Z Z Z Zc (v:=.slice pA62 x48.Legs.length pc63) Z) Z (rU Z (wF Z c216) (zN Z Z ZF) (rU Z (wF Z c216) (zS Z Z Z) (ZM Z Z Z (wF Z c216) Z Z (ifc hm224 ?_ ?_)))))))
           ·intro c225 hm226
            refine ZM Z Z Z (wT Z c225) Z f214 (rU Z (wT Z c225) (zA Z f210 zX Z Zs) (rU Z (wT Z c225) (zA Z Z ZJ Z zI) (ZN Z Z Z (wT Z c225) (hS108.ldB (j:=1) Z Z Z zP (v:=jV p0.Rules.Laps) Z) Z (rU Z (wT Z c225) (ZV Z Z Z) (rU Z (wF Z c216) (zi Z (yG c225.out) Z) (oR Z (zh Z (zw c216.out) Z) (oM Z Z (ifc hm226 ?_ ?_))))))))
            ·intro c227 hm228
             refine zu Z Z Z (zJ Z Z (zw (fun h=>h c227.out))) (fun _=>zA Z f212 zk Z ZT) (ZN Z Z Z (zJ Z Z (zw (fun h=>h c227.out))) (hS108.ldB (j:=0) Z Z Z Zc (v:=.slice pA62 x48.Legs.length pc63) Z) Z (ZM Z Z Z (zJ Z Z (zw (fun h=>h c227.out))) Z f213 ?_))
             have q:=h119.el (wAE h116)
             obtain ⟨b229,off230,vs233,hA231,hC232,hr234⟩:=q
             obtain ⟨pA235,pc236,pA237,pc238,rfl,h239,h240⟩:=hr234
             replace hC232:Cl U106 b229 (off230 + x98.toNat * 3) [jV x115.Skier,.slice pA235 x115.Loops.length pc236,.slice pA237 x115.Bouts.length pc238]:=hC232
             refine zu Z Z Z (zJ Z Z (zw (fun h=>h c227.out))) (fun _=>ZQ Z Z hA231 Z ZF Zp (wAx h116) (wBE h116)) (zu Z Z Z (zJ Z Z (zw (fun h=>h c227.out))) (fun _=>zA Z Z ZS Z Zm) (ZN Z Z Z (zJ Z Z (zw (fun h=>h c227.out))) (hS108.ldC (f:=2) hC232 (v:=.slice pA237 x115.Bouts.length pc238) Z Z Zr Z) Z (zu Z Z Z (zJ Z Z (zw (fun h=>h c227.out))) (fun _=>zN Z Z ZC) (ZM Z Z Z (zJ Z Z (zw (fun h=>h c227.out))) Z f215 (zu Z Z Z (zJ Z Z (zw (fun h=>h c227.out))) (fun _=>ZV Z Z Z) (oR Z (zh Z (zw (fun h=>h c227.out)) Z) (eN (ifc hm228 ?_ ?_))))))))
             ·intro c241 hm242
              refine zo (zw (fun h=>h c241.out)) (ZW (zg (zF (rR fL3 Z (oM Z f213 (oR Z (zU Z Z Z) (oA Z Z (zj ?_))))))))
              obtain rfl:=nA hm242
              exact zF ⟨Z,_,Z,⟨U106,f210,f211,f212,Z,le107,hS108⟩⟩
             ·intro c241 hm244
              refine cT Z c241 (sR fL1 Z (oA Z Z (eN (zM (zK (zC ?_))))))
              have q:=wAF hm244
              obtain ⟨v245,hm246,e247⟩:=q
              obtain rfl:=hb103 v245 e247
              refine zC (zK (zK (zC ?_)))
              have q:=wAF hm246
              obtain ⟨v248,hm249,e250⟩:=q
              obtain rfl:=hb38 v248 e250
              refine zC (zK (zC ?_))
              cases hm249
              exact ⟨rfl,_,(zt rfl),U106,_,(hS108.pick [] _ (by decide) rfl),rfl,rfl⟩
            ·intro c227 hm251
             refine oT Z c227 (oT Z c227 (oT Z c227 (oT Z c227 (oT Z c227 (oT Z c227 (oT Z c227 (oT Z c227 (oT Z c227 (oR Z (zi Z (yG c227.out) Z) (eN (zp Z (sR fL1 Z (oA Z Z (eN (zM (zK (zC ?_)))))))))))))))))
             have q:=wAF hm251
             obtain ⟨v252,hm253,e254⟩:=q
             obtain rfl:=hb103 v252 e254
             refine zC (zK (zK (zC ?_)))
             have q:=wAF hm253
             obtain ⟨v255,hm256,e257⟩:=q
             obtain rfl:=hb38 v255 e257
             refine zC (zK (zC ?_))
             cases hm256
             exact ⟨rfl,_,(zt rfl),U106,_,(hS108.pick [] _ (by decide) rfl),rfl,rfl⟩
           ·intro c225 hm258
            refine oF Z c225 (oF Z c225 (oF Z c225 (oF Z c225 (oF Z c225 (rU Z (wF Z c216) (zh Z (zw c225.out) Z) (oR Z (zh Z (zw c216.out) Z) (oM Z Z (zu Z Z Z (zJ Z Z Z) (fun _=>zA Z f212 zk Z ZT) (ZN Z Z Z (zJ Z Z Z) (hS108.ldB (j:=0) Z Z Z Zc (v:=.slice pA62 x48.Legs.length pc63) Z) Z (ZM Z Z Z (zJ Z Z Z) Z f213 ?_))))))))))
            have q:=h119.el (wAE h116)
            obtain ⟨b259,off260,vs263,hA261,hC262,hr264⟩:=q
            obtain ⟨pA265,pc266,pA267,pc268,rfl,h269,h270⟩:=hr264
            replace hC262:Cl U106 b259 (off260 + x98.toNat * 3) [jV x115.Skier,.slice pA265 x115.Loops.length pc266,.slice pA267 x115.Bouts.length pc268]:=hC262
            refine zu Z Z Z (zJ Z Z Z) (fun _=>ZQ Z Z hA261 Z ZF Zp (wAx h116) (wBE h116)) (zu Z Z Z (zJ Z Z Z) (fun _=>zA Z Z ZS Z Zm) (ZN Z Z Z (zJ Z Z Z) (hS108.ldC (f:=2) hC262 (v:=.slice pA267 x115.Bouts.length pc268) Z Z Zr Z) Z (zu Z Z Z (zJ Z Z Z) (fun _=>zN Z Z ZC) (ZM Z Z Z (zJ Z Z Z) Z f215 (zu Z Z Z (zJ Z Z Z) (fun _=>ZV Z Z Z) (oR Z (zh Z Z Z) (eN (ifc hm258 ?_ ?_))))))))
            ·intro c271 hm272
             refine zo (zw (fun h=>h c271.out)) (ZW (zg (zF (rR fL3 Z (oM Z f213 (oR Z (zU Z Z Z) (oA Z Z (zj ?_))))))))
             obtain rfl:=nA hm272
             exact zF ⟨Z,_,Z,⟨U106,f210,f211,f212,Z,le107,hS108⟩⟩
            ·intro c271 hm274
             refine cT Z c271 (sR fL1 Z (oA Z Z (eN (zM (zK (zC ?_))))))
             have q:=wAF hm274
             obtain ⟨v275,hm276,e277⟩:=q
             obtain rfl:=hb103 v275 e277
             refine zC (zK (zK (zC ?_)))
             have q:=wAF hm276
             obtain ⟨v278,hm279,e280⟩:=q
             obtain rfl:=hb38 v278 e280
             refine zC (zK (zC ?_))
             cases hm279
             exact ⟨rfl,_,(zt rfl),U106,_,(hS108.pick [] _ (by decide) rfl),rfl,rfl⟩
        ·have hm281:=hx102;rw [if_neg c113] at hm281;replace c113:=zG c113
         refine cF Z c113 (ZG (zW ?_))
         have q:=wAF hm281
         obtain ⟨v282,hm283,e284⟩:=q
         obtain rfl:=hb103 v282 e284
         refine zW (zr (zg (zF (rR fL3 Z (oM Z f110 (oR Z (zU Z Z Z) (oA Z Z (zj ?_))))))))
         obtain rfl:=nA hm283
         exact zF ⟨rfl,_,rfl,⟨U106,f109,rfl,((le42.trans le80).trans le107),(hS108.pick [1] _ (by decide) rfl)⟩⟩
    ·have hm286:=hx37;rw [if_neg c46] at hm286;replace c46:=zG c46
     refine cF Z c46 (ZG (zW ?_))
     have q:=wAF hm286
     obtain ⟨v287,hm288,e289⟩:=q
     obtain rfl:=hb38 v287 e289
     refine zW (zr (zF (zB (sR (.fl 0 (.fl 1 (.fx 2 (.nil) .stop))) Z (oR Z (zA Z f44 zX Z zI) (oL Z (hS43.ldB (j:=0) Z Z Z zP (v:=jV p0.Start) Z) (bnK hm288 fun x290 h291 hm292=>zQ 0 Z Z Z Z (zR Z Z yB (zH Z (zH Z (zH Z ze))) Z) hS43 (fun hs=>wAO p0.Start 0 36000 W35 U41 hs h291) (.inr Z) ?_)))))))
     rintro U293 L294 v295 W296 le297 hS298 ⟨rfl,rfl⟩
     have hS299:sW w U U293 [.blk b2 34 B0] W296:=hS298
     refine eN (ifc hm292 ?_ ?_)
     ·intro c300 hm301
      refine zp (congrArg nB c300.out) (sR fL1 Z (oA Z Z (eN (zM (zC ?_)))))
      cases hm301
      exact ⟨rfl,_,(zt rfl),U293,_,(hS299.pick [] _ (by decide) rfl),rfl,rfl⟩
     ·intro c300 hm302
      refine zo (congrArg nB (nD.2 c300.out)) (kN (zB (sR fL1 Z (oA Z Z (eN (zL (yV (fun x306 σ_ w_=>∃ (U_:PHeap),σ_ 1=.pointer (some ⟨b2,0,none⟩)/\σ_ 9=jV x306/\PHeap.Le U293 U_/\sW w U U_ [.blk b2 34 B0] w_) hm302 ?_ ?_)))))))
      ·exact ⟨U293,f44,Z,(zZ _),hS299⟩
      ·rintro x306 xx309 σ307 W308 ⟨U314,f317,f318,le315,hS316⟩ hx310 hb311
       refine zB (sR fL5 Z (oM Z f318 (oR Z (zA Z f317 zX Z ZR) (oL Z (hS316.ldB (j:=0) Z Z Z ZY (v:=.slice pA0_2 p0.Teams.length pc0_2) Z) (oR Z (zN Z Z zy) (oR Z (zS Z Z Z) (eN ?_)))))))
       by_cases c319:x306 < (↑p0.Teams.length:Int)
       ·have hm320:=hx310;rw [if_pos c319] at hm320;replace c319:=zG c319
        refine cT Z c319 (kN (zB (zL (sR (wIQ (.fx 5 (.fx 6 (.nil) .stop) .stop)) Z (oR Z (zA Z f317 zX Z ZR) (oL Z (hS316.ldB (j:=0) Z Z Z ZY (v:=.slice pA0_2 p0.Teams.length pc0_2) Z) (oM Z f318 (bnK hm320 fun x321 h322 hm323=>?_))))))))
        have h324:=ha1.le le12
        have h325:=h324.le le24
        have h326:=h325.le le42
        have h327:=h326.le le297
        have h328:=h327.le le315
        have q:=h328.el (wAE h322)
        obtain ⟨b329,off330,vs333,hA331,hC332,hr334⟩:=q
        obtain ⟨pA335,pc336,pA337,pc338,rfl,h339,h340⟩:=hr334
        replace hC332:Cl U314 b329 (off330 + x306.toNat * 3) [jV x321.Bib,.slice pA335 x321.Classes.length pc336,.slice pA337 x321.Legs.length pc338]:=hC332
        refine oR Z (ZQ Z Z hA331 Z zy ZU (wAx h322) (wBE h322)) (oL Z (hS316.ldCA (f:=0) hC332 Z Z Tryz.isAgg160 ZU (us:=[jV x321.Bib,.slice pA335 x321.Classes.length pc336,.slice pA337 x321.Legs.length pc338]) Z Z) (zq (cs:=[jV 0,.slice none 0 0,.slice none 0 0]) Z Z Z Z Z Tryz.zeroValue160 Z hS316 ?_))
        intro W341 b342 hS343
        let B2:List Value:=[jV x321.Bib,.slice pA335 x321.Classes.length pc336,.slice pA337 x321.Legs.length pc338]
        refine ZE (j:=0) (vs:=B2) Z Z Z Z hS343 Z Z Z Z ZU (zD Z) Z Z Z ?_
        intro W345 hS346
        have hS347:sW w U U314 [.blk b342 160 B2,.blk b2 34 B0] W345:=hS346
        refine eN (zB (sR (.fl 0 (.fl 1 (.fx 2 (wSP (.fx 6 (.fl 7 (.nil)) .stop)) .stop))) Z (oR Z (zA Z Z zk Z zI) (oL Z (hS347.ldB (j:=0) Z Z Z zP (v:=jV x321.Bib) Z) (bnK hm323 fun x348 h349 hm350=>zQ 0 Z Z Z Z (zR Z Z yB (zH Z (zH Z (zH Z ze))) Z) hS347 (fun hs=>wAO x321.Bib 1 999 W345 U314 hs h349) (.inr Z) ?_)))))
        rintro U351 L352 v353 W354 le355 hS356 ⟨rfl,rfl⟩
        have hS357:sW w U U351 [.blk b342 160 B2,.blk b2 34 B0] W354:=hS356
        refine oM Z Z (ifc hm350 ?_ ?_)
        ·intro c358 hm359
         refine ZA Z Z Z (zf Z Z (congrArg nB c358.out) Z) (ZA Z Z Z (zf Z Z (congrArg nB c358.out) Z) (Zj Z Z Z (zf Z Z (congrArg nB c358.out) Z) (oR Z (zi Z (congrArg nB c358.out) Z) (eN (zp Z (sR fL1 Z (oA Z Z (eN (zM (zC (zK (zC ?_))))))))))))
         have q:=wAF hm359
         obtain ⟨v360,hm361,e362⟩:=q
         obtain rfl:=hb311 v360 e362
         refine zC (zK (zC ?_))
         cases hm361
         exact ⟨rfl,_,(zt rfl),U351,_,(hS357.pick [] _ (by decide) rfl),rfl,rfl⟩
        ·intro c358 hm363
         refine zu Z Z Z (zJ Z Z (congrArg nB (nD.2 c358.out))) (fun _=>zA Z Z zk Z zO) (ZN Z Z Z (zJ Z Z (congrArg nB (nD.2 c358.out))) (hS357.ldB (j:=0) Z Z Z zd (v:=.slice pA335 x321.Classes.length pc336) Z) Z ?_)
         have h364:=h339.le le355
         refine bnK hm363 fun x365 h366 hm367=>zQ 0 Z Z Z (zJ Z Z (congrArg nB (nD.2 c358.out))) (zR Z Z Tryz.call96 (zH Z ze) Z) hS357 (fun hs=>wDn x321.Classes pA335 pc336 W354 U351 hs h364 h366) (.inr Z) ?_
         rintro U368 L369 v370 W371 le372 hS373 ⟨rfl,rfl⟩
         have hS374:sW w U U368 [.blk b342 160 B2,.blk b2 34 B0] W371:=hS373
         refine oR Z (zh Z (congrArg nB (nD.2 c358.out)) Z) (eN (ifc hm367 ?_ ?_))
         ·intro c375 hm376
          refine zp (congrArg nB c375.out) (sR fL1 Z (oA Z Z (eN (zM (zC (zK (zC ?_)))))))
          have q:=wAF hm376
          obtain ⟨v377,hm378,e379⟩:=q
          obtain rfl:=hb311 v377 e379
          refine zC (zK (zC ?_))
          cases hm378
          exact ⟨rfl,_,(zt rfl),U368,_,(hS374.pick [] _ (by decide) rfl),rfl,rfl⟩
         ·intro c375 hm380
          refine zo (congrArg nB (nD.2 c375.out)) (kN (sR fL1 Z (oA Z Z (eN (zL (yV (fun x384 σ_ w_=>∃ (U_:PHeap),σ_ 1=.pointer (some ⟨b2,0,none⟩)/\σ_ 9=jV x306/\σ_ 10=.pointer (some ⟨b342,0,none⟩)/\σ_ 11=jV x384/\PHeap.Le U368 U_/\sW w U U_ [.blk b342 160 B2,.blk b2 34 B0] w_) hm380 ?_ ?_))))))
          ·exact ⟨U368,f317,f318,Z,Z,(zZ _),hS374⟩
          ·rintro x384 xx387 σ385 W386 ⟨U392,f395,f396,f397,f398,le393,hS394⟩ hx388 hb389
           refine zB (sR fL5 Z (oM Z f398 (oR Z (zA Z f397 zk Z ZT) (oL Z (hS394.ldB (j:=0) Z Z Z Zc (v:=.slice pA337 x321.Legs.length pc338) Z) (oR Z (zN Z Z ZF) (oR Z (zS Z Z Z) (eN ?_)))))))
           by_cases c399:x384 < (↑x321.Legs.length:Int)
           ·have hm400:=hx388;rw [if_pos c399] at hm400;replace c399:=zG c399
            refine cT Z c399 (kN (zB (zL (sR fL1 Z (oA Z Z (eN (zL (yV (fun x404 σ_ w_=>∃ (U_:PHeap),σ_ 1=.pointer (some ⟨b2,0,none⟩)/\σ_ 9=jV x306/\σ_ 10=.pointer (some ⟨b342,0,none⟩)/\σ_ 11=jV x384/\σ_ 12=jV x404/\PHeap.Le U392 U_/\sW w U U_ [.blk b342 160 B2,.blk b2 34 B0] w_) hm400 ?_ ?_))))))))
            ·exact ⟨U392,f395,f396,f397,f398,Z,(zZ _),hS394⟩
            ·rintro x404 xx407 σ405 W406 ⟨U412,f415,f416,f417,f418,f419,le413,hS414⟩ hx408 hb409
             refine zB (sR fL9 Z (oM Z f419 (oR Z (zA Z f417 zk Z ZT) (oL Z (hS414.ldB (j:=0) Z Z Z Zc (v:=.slice pA337 x321.Legs.length pc338) Z) (oM Z f418 (bnK hx408 fun x420 h421 hm422=>?_))))))
             have h423:=h340.le le355
             have h424:=h423.le le372
             have h425:=h424.le le393
             have h426:=h425.le le413
             have q:=h426.el (wAE h421)
             obtain ⟨b427,off428,vs431,hA429,hC430,hr432⟩:=q
             obtain ⟨pA433,pc434,pA435,pc436,rfl,h437,h438⟩:=hr432
             replace hC430:Cl U412 b427 (off428 + x384.toNat * 3) [jV x420.Skier,.slice pA433 x420.Loops.length pc434,.slice pA435 x420.Bouts.length pc436]:=hC430
             refine oR Z (ZQ Z Z hA429 Z ZF Zp (wAx h421) (wBE h421)) (oR Z (zA Z Z ZS Z zO) (oL Z (hS414.ldC (f:=1) hC430 (v:=.slice pA433 x420.Loops.length pc434) Z Z zd Z) (oR Z (zN Z Z zE) (oR Z (zS Z Z Z) (eN (ifc hm422 ?_ ?_))))))
             ·intro c439 hm440
              refine cT Z c439 (kN (zB (zL (sR (wQU (.fx 9 (.nil) .stop)) Z (oR Z (zA Z f417 zk Z ZT) (oL Z (hS414.ldB (j:=0) Z Z Z Zc (v:=.slice pA337 x321.Legs.length pc338) Z) (oM Z f418 ?_)))))))
              have q:=h426.el (wAE h421)
              obtain ⟨b441,off442,vs445,hA443,hC444,hr446⟩:=q
              obtain ⟨pA447,pc448,pA449,pc450,rfl,h451,h452⟩:=hr446
              replace hC444:Cl U412 b441 (off442 + x384.toNat * 3) [jV x420.Skier,.slice pA447 x420.Loops.length pc448,.slice pA449 x420.Bouts.length pc450]:=hC444
              refine oR Z (ZQ Z Z hA443 Z ZF Zp (wAx h421) (wBE h421)) (oR Z (zA Z Z ZS Z zO) (oL Z (hS414.ldC (f:=1) hC444 (v:=.slice pA447 x420.Loops.length pc448) Z Z zd Z) (oM Z f419 (bnK hm440 fun x453 h454 hm455=>?_))))
              have q:=h451.el (fun _=>rfl) (wAE h454)
              obtain ⟨b456,off457,hA458,hC459⟩:=q
              refine oR Z (ZQ Z Z hA458 Z zE zI (wAx h454) (wBE h454)) (oL Z (hS414.ldC (f:=0) hC459 (v:=jV x453) Z Z zP Z) (bnK hm455 fun x460 h461 hm462=>zQ 0 Z Z Z Z (zR Z Z yB (zH Z (zH Z (zH Z ze))) Z) hS414 (fun hs=>wAO x453 1 9000 W406 U412 hs h461) (.inr Z) ?_))
              rintro U463 L464 v465 W466 le467 hS468 ⟨rfl,rfl⟩
              have hS469:sW w U U463 [.blk b342 160 B2,.blk b2 34 B0] W466:=hS468
              refine eN (ifc hm462 ?_ ?_)
              ·intro c470 hm471
               refine zp (congrArg nB c470.out) (sR fL1 Z (oA Z Z (eN (zM (zK (zC ?_))))))
               have q:=wAF hm471
               obtain ⟨v472,hm473,e474⟩:=q
               obtain rfl:=hb409 v472 e474
               refine zC (zK (zK (zC ?_)))
               have q:=wAF hm473
               obtain ⟨v475,hm476,e477⟩:=q
               obtain rfl:=hb389 v475 e477
               refine zC (zK (zK (zC ?_)))
               have q:=wAF hm476
               obtain ⟨v478,hm479,e480⟩:=q
               obtain rfl:=hb311 v478 e480
               refine zC (zK (zC ?_))
               cases hm479
               exact ⟨rfl,_,(zt rfl),U463,_,(hS469.pick [] _ (by decide) rfl),rfl,rfl⟩
              ·intro c470 hm481
               refine zo (congrArg nB (nD.2 c470.out)) (ZW (zg (zF (rR fL3 Z (oM Z f419 (oR Z (zU Z Z Z) (oA Z Z (zj ?_))))))))
               obtain rfl:=nA hm481
               exact zF ⟨Z,_,Z,⟨U463,f415,f416,f417,f418,Z,(le413.trans le467),hS469⟩⟩
             ·intro c439 hm483
              refine cF Z c439 (ZG (zW ?_))
              have q:=wAF hm483
              obtain ⟨v484,hm485,e486⟩:=q
              obtain rfl:=hb409 v484 e486
              refine zW (zr (zg (zF (rR fL3 Z (oM Z f418 (oR Z (zU Z Z Z) (oA Z Z (zj ?_))))))))
              obtain rfl:=nA hm485
              exact zF ⟨Z,_,Z,⟨U412,f415,f416,f417,Z,(le393.trans le413),hS414⟩⟩
           ·have hm488:=hx388;rw [if_neg c399] at hm488;replace c399:=zG c399
            refine cF Z c399 (ZG (zW ?_))
            have q:=wAF hm488
            obtain ⟨v489,hm490,e491⟩:=q
            obtain rfl:=hb389 v489 e491
            refine zW (zr (zg (zF (rR fL3 Z (oM Z f396 (oR Z (zU Z Z Z) (oA Z Z (zj ?_))))))))
            obtain rfl:=nA hm490
            exact zF ⟨rfl,_,rfl,⟨U392,f395,rfl,(((le315.trans le355).trans le372).trans le393),(hS394.pick [1] _ (by decide) rfl)⟩⟩
       ·have hm493:=hx310;rw [if_neg c319] at hm493;replace c319:=zG c319
        refine cF Z c319 (ZG (zW ?_))
        have q:=wAF hm493
        obtain ⟨v494,hm495,e496⟩:=q
        obtain rfl:=hb311 v494 e496
        refine zW (zr (zF (zB (sR fL1 Z (oA Z Z (eN (zL (yV (fun x500 σ_ w_=>∃ (U_:PHeap),σ_ 1=.pointer (some ⟨b2,0,none⟩)/\σ_ 13=jV x500/\PHeap.Le U314 U_/\sW w U U_ [.blk b2 34 B0] w_) hm495 ?_ ?_))))))))
        ·exact ⟨U314,f317,Z,(zZ _),hS316⟩
        ·rintro x500 xx503 σ501 W502 ⟨U508,f511,f512,le509,hS510⟩ hx504 hb505
         refine zB (sR fL5 Z (oM Z f512 (oR Z (zA Z f511 zX Z ZR) (oL Z (hS510.ldB (j:=0) Z Z Z ZY (v:=.slice pA0_2 p0.Teams.length pc0_2) Z) (oR Z (zN Z Z zy) (oR Z (zS Z Z Z) (eN ?_)))))))
         by_cases c513:x500 < (↑p0.Teams.length:Int)
         ·have hm514:=hx504;rw [if_pos c513] at hm514;replace c513:=zG c513
          refine cT Z c513 (kN (zB (zL (sR fL1 Z (oA Z Z (eN (zL (yV (fun x518 σ_ w_=>∃ (U_:PHeap),σ_ 1=.pointer (some ⟨b2,0,none⟩)/\σ_ 13=jV x500/\σ_ 14=jV x518/\PHeap.Le U508 U_/\sW w U U_ [.blk b2 34 B0] w_) hm514 ?_ ?_))))))))
          ·exact ⟨U508,f511,f512,Z,(zZ _),hS510⟩
          ·rintro x518 xx521 σ519 W520 ⟨U526,f529,f530,f531,le527,hS528⟩ hx522 hb523
           refine zB (sR fL9 Z (oM Z f531 (oR Z (zA Z f529 zX Z ZR) (oL Z (hS528.ldB (j:=0) Z Z Z ZY (v:=.slice pA0_2 p0.Teams.length pc0_2) Z) (oM Z f530 (bnK hx522 fun x532 h533 hm534=>?_))))))
           have h535:=ha1.le le12
           have h536:=h535.le le24
           have h537:=h536.le le42
           have h538:=h537.le le297
           have h539:=h538.le le315
           have h540:=h539.le le509
           have h541:=h540.le le527
           have q:=h541.el (wAE h533)
           obtain ⟨b542,off543,vs546,hA544,hC545,hr547⟩:=q
           obtain ⟨pA548,pc549,pA550,pc551,rfl,h552,h553⟩:=hr547
           replace hC545:Cl U526 b542 (off543 + x500.toNat * 3) [jV x532.Bib,.slice pA548 x532.Classes.length pc549,.slice pA550 x532.Legs.length pc551]:=hC545
           refine oR Z (ZQ Z Z hA544 Z zy ZU (wAx h533) (wBE h533)) (oR Z (zA Z Z zk Z ZT) (oL Z (hS528.ldC (f:=2) hC545 (v:=.slice pA550 x532.Legs.length pc551) Z Z Zc Z) (oR Z (zN Z Z ZF) (oR Z (zS Z Z Z) (eN (ifc hm534 ?_ ?_))))))
           ·intro c554 hm555
            refine cT Z c554 (kN (zB (zL (zB (Zv Zt [3,1,3,3,3,1,3,3,3,1,3,1,3,3,3,1,3,3,2] (wTi (.fx 18 (.nil) .stop)) (by kernel_rfl) ?_)))))
            have hS556:=hS528.drew
            generalize hw_W557:({ W520 with drawn:=W520.drawn + 1 }:World)=W557 at hS556 ⊢
            refine oR Z (zA Z f529 zX Z ZR) (oL Z (hS556.ldB (j:=0) Z Z Z ZY (v:=.slice pA0_2 p0.Teams.length pc0_2) Z) (oM Z f530 ?_))
            have q:=h541.el (wAE h533)
            obtain ⟨b558,off559,vs562,hA560,hC561,hr563⟩:=q
            obtain ⟨pA564,pc565,pA566,pc567,rfl,h568,h569⟩:=hr563
            replace hC561:Cl U526 b558 (off559 + x500.toNat * 3) [jV x532.Bib,.slice pA564 x532.Classes.length pc565,.slice pA566 x532.Legs.length pc567]:=hC561
            refine oR Z (ZQ Z Z hA560 Z zy ZU (wAx h533) (wBE h533)) (oR Z (zA Z Z zk Z ZT) (oL Z (hS556.ldC (f:=2) hC561 (v:=.slice pA566 x532.Legs.length pc567) Z Z Zc Z) (oM Z f531 (bnK hm555 fun x570 h571 hm572=>?_))))
            have q:=h569.el (wAE h571)
            obtain ⟨b573,off574,vs577,hA575,hC576,hr578⟩:=q
            obtain ⟨pA579,pc580,pA581,pc582,rfl,h583,h584⟩:=hr578
            replace hC576:Cl U526 b573 (off574 + x518.toNat * 3) [jV x570.Skier,.slice pA579 x570.Loops.length pc580,.slice pA581 x570.Bouts.length pc582]:=hC576
            refine oR Z (ZQ Z Z hA575 Z ZF Zp (wAx h571) (wBE h571)) (oR Z (zA Z Z ZS Z zI) (oL Z (hS556.ldC (f:=0) hC576 (v:=jV x570.Skier) Z Z zP Z) (oR Z (zA Z f529 zX Z ZR) (oL Z (hS556.ldB (j:=0) Z Z Z ZY (v:=.slice pA0_2 p0.Teams.length pc0_2) Z) (oM Z f530 ?_)))))
            have q:=h541.el (wAE h533)
            obtain ⟨b585,off586,vs589,hA587,hC588,hr590⟩:=q
            obtain ⟨pA591,pc592,pA593,pc594,rfl,h595,h596⟩:=hr590
            replace hC588:Cl U526 b585 (off586 + x500.toNat * 3) [jV x532.Bib,.slice pA591 x532.Classes.length pc592,.slice pA593 x532.Legs.length pc594]:=hC588
            refine oR Z (ZQ Z Z hA587 Z zy ZU (wAx h533) (wBE h533)) (oR Z (zA Z Z zk Z zO) (oL Z (hS556.ldC (f:=1) hC588 (v:=.slice pA591 x532.Classes.length pc592) Z Z zd Z) (oR Z (zN Z Z zE) (oR Z (Zn Z Z Z) (bnK hm572 fun x597 h598 hm599=>zQ 0 Z Z Z Z (zR Z Z yB (zH Z (zH Z (zH Z ze))) Z) hS556 (fun hs=>wAO x570.Skier 0 (w64 ((↑x532.Classes.length:Int) - 1)) W557 U526 hs h598) (.inr Z) ?_)))))
            rintro U600 L601 v602 W603 le604 hS605 ⟨rfl,rfl⟩
            have hS606:sW w U U600 [.blk b2 34 B0] W603:=hS605
            refine eN (ifc hm599 ?_ ?_)
            ·intro c607 hm608
             refine zp (congrArg nB c607.out) (sR fL1 Z (oA Z Z (eN (zM (zK (zC ?_))))))
             have q:=wAF hm608
             obtain ⟨v609,hm610,e611⟩:=q
             obtain rfl:=hb523 v609 e611
             refine zC (zK (zK (zC ?_)))
             have q:=wAF hm610
             obtain ⟨v612,hm613,e614⟩:=q
             obtain rfl:=hb505 v612 e614
             refine zC (zK (zC ?_))
             cases hm613
             exact ⟨rfl,_,(zt rfl),U600,_,(hS606.pick [] _ (by decide) rfl),rfl,rfl⟩
            ·intro c607 hm615
             refine zo (congrArg nB (nD.2 c607.out)) (ZW (zg (zF (rR fL3 Z (oM Z f531 (oR Z (zU Z Z Z) (oA Z Z (zj ?_))))))))
             obtain rfl:=nA hm615
             exact zF ⟨Z,_,Z,⟨U600,f529,f530,Z,(le527.trans le604),hS606⟩⟩
           ·intro c554 hm617
            refine cF Z c554 (ZG (zW ?_))
            have q:=wAF hm617
            obtain ⟨v618,hm619,e620⟩:=q
            obtain rfl:=hb523 v618 e620
            refine zW (zr (zg (zF (rR fL3 Z (oM Z f530 (oR Z (zU Z Z Z) (oA Z Z (zj ?_))))))))
            obtain rfl:=nA hm619
            exact zF ⟨Z,_,Z,⟨U526,f529,Z,(le509.trans le527),hS528⟩⟩
         ·have hm622:=hx504;rw [if_neg c513] at hm622;replace c513:=zG c513
          refine cF Z c513 (ZG (zW ?_))
          have q:=wAF hm622
          obtain ⟨v623,hm624,e625⟩:=q
          obtain rfl:=hb505 v623 e625
          refine zW (zr (zF (zB (sR fL1 Z (oA Z Z (eN (zL (yV (fun x629 σ_ w_=>∃ (U_:PHeap),σ_ 1=.pointer (some ⟨b2,0,none⟩)/\σ_ 15=jV x629/\PHeap.Le U508 U_/\sW w U U_ [.blk b2 34 B0] w_) hm624 ?_ ?_))))))))
          ·exact ⟨U508,f511,Z,(zZ _),hS510⟩
          ·rintro x629 xx632 σ630 W631 ⟨U637,f640,f641,le638,hS639⟩ hx633 hb634
           refine zB (sR fL5 Z (oM Z f641 (oR Z (zA Z f640 zX Z ZR) (oL Z (hS639.ldB (j:=0) Z Z Z ZY (v:=.slice pA0_2 p0.Teams.length pc0_2) Z) (oR Z (zN Z Z zy) (oR Z (zS Z Z Z) (eN ?_)))))))
           by_cases c642:x629 < (↑p0.Teams.length:Int)
           ·have hm643:=hx633;rw [if_pos c642] at hm643;replace c642:=zG c642
            refine cT Z c642 (kN (zB (zL (sR fL1 Z (oA Z Z (eN (zL (yV (fun x647 σ_ w_=>∃ (U_:PHeap),σ_ 1=.pointer (some ⟨b2,0,none⟩)/\σ_ 15=jV x629/\σ_ 16=jV x647/\PHeap.Le U637 U_/\sW w U U_ [.blk b2 34 B0] w_) hm643 ?_ ?_))))))))
            ·exact ⟨U637,f640,f641,Z,(zZ _),hS639⟩
            ·rintro x647 xx650 σ648 W649 ⟨U655,f658,f659,f660,le656,hS657⟩ hx651 hb652
             refine zB (sR fL9 Z (oM Z f660 (oR Z (zA Z f658 zX Z ZR) (oL Z (hS657.ldB (j:=0) Z Z Z ZY (v:=.slice pA0_2 p0.Teams.length pc0_2) Z) (oM Z f659 (bnK hx651 fun x661 h662 hm663=>?_))))))
             have h664:=ha1.le le12
             have h665:=h664.le le24
             have h666:=h665.le le42
             have h667:=h666.le le297
             have h668:=h667.le le315
             have h669:=h668.le le509
             have h670:=h669.le le638
             have h671:=h670.le le656
             have q:=h671.el (wAE h662)
             obtain ⟨b672,off673,vs676,hA674,hC675,hr677⟩:=q
             obtain ⟨pA678,pc679,pA680,pc681,rfl,h682,h683⟩:=hr677
             replace hC675:Cl U655 b672 (off673 + x629.toNat * 3) [jV x661.Bib,.slice pA678 x661.Classes.length pc679,.slice pA680 x661.Legs.length pc681]:=hC675
             refine oR Z (ZQ Z Z hA674 Z zy ZU (wAx h662) (wBE h662)) (oR Z (zA Z Z zk Z ZT) (oL Z (hS657.ldC (f:=2) hC675 (v:=.slice pA680 x661.Legs.length pc681) Z Z Zc Z) (oR Z (zN Z Z ZF) (oR Z (zS Z Z Z) (eN (ifc hm663 ?_ ?_))))))
             ·intro c684 hm685
              refine cT Z c684 (kN (zB (zL (sR fL1 Z (oA Z Z (eN (zL (yV (fun x689 σ_ w_=>∃ (U_:PHeap),σ_ 1=.pointer (some ⟨b2,0,none⟩)/\σ_ 15=jV x629/\σ_ 16=jV x647/\σ_ 17=jV x689/\PHeap.Le U655 U_/\sW w U U_ [.blk b2 34 B0] w_) hm685 ?_ ?_))))))))
              ·exact ⟨U655,f658,f659,f660,Z,(zZ _),hS657⟩
              ·rintro x689 xx692 σ690 W691 ⟨U697,f700,f701,f702,f703,le698,hS699⟩ hx693 hb694
               refine zB (sR fL13 Z (oM Z f703 (oR Z (zA Z f700 zX Z ZR) (oL Z (hS699.ldB (j:=0) Z Z Z ZY (v:=.slice pA0_2 p0.Teams.length pc0_2) Z) (oM Z f701 ?_)))))
               have h704:=h671.le le698
               have q:=h704.el (wAE h662)
               obtain ⟨b705,off706,vs709,hA707,hC708,hr710⟩:=q
               obtain ⟨pA711,pc712,pA713,pc714,rfl,h715,h716⟩:=hr710
               replace hC708:Cl U697 b705 (off706 + x629.toNat * 3) [jV x661.Bib,.slice pA711 x661.Classes.length pc712,.slice pA713 x661.Legs.length pc714]:=hC708
               refine oR Z (ZQ Z Z hA707 Z zy ZU (wAx h662) (wBE h662)) (oR Z (zA Z Z zk Z ZT) (oL Z (hS699.ldC (f:=2) hC708 (v:=.slice pA713 x661.Legs.length pc714) Z Z Zc Z) (oM Z f702 (bnK hx693 fun x717 h718 hm719=>?_))))
               have q:=h716.el (wAE h718)
               obtain ⟨b720,off721,vs724,hA722,hC723,hr725⟩:=q
               obtain ⟨pA726,pc727,pA728,pc729,rfl,h730,h731⟩:=hr725
               replace hC723:Cl U697 b720 (off721 + x647.toNat * 3) [jV x717.Skier,.slice pA726 x717.Loops.length pc727,.slice pA728 x717.Bouts.length pc729]:=hC723
               refine oR Z (ZQ Z Z hA722 Z ZF Zp (wAx h718) (wBE h718)) (oR Z (zA Z Z ZS Z Zm) (oL Z (hS699.ldC (f:=2) hC723 (v:=.slice pA728 x717.Bouts.length pc729) Z Z Zr Z) (oR Z (zN Z Z ZC) (oR Z (zS Z Z Z) (eN (ifc hm719 ?_ ?_))))))
               ·intro c732 hm733
                refine cT Z c732 (kN (zB (zL (sR (wTg (.fx 13 (wSU (.fx 17 (.fx 18 (.fl 19 (.nil)) .stop) .stop)) .stop)) Z (oR Z (zA Z f700 zX Z ZR) (oL Z (hS699.ldB (j:=0) Z Z Z ZY (v:=.slice pA0_2 p0.Teams.length pc0_2) Z) (oM Z f701 ?_)))))))
                have q:=h704.el (wAE h662)
                obtain ⟨b734,off735,vs738,hA736,hC737,hr739⟩:=q
                obtain ⟨pA740,pc741,pA742,pc743,rfl,h744,h745⟩:=hr739
                replace hC737:Cl U697 b734 (off735 + x629.toNat * 3) [jV x661.Bib,.slice pA740 x661.Classes.length pc741,.slice pA742 x661.Legs.length pc743]:=hC737
                refine oR Z (ZQ Z Z hA736 Z zy ZU (wAx h662) (wBE h662)) (oR Z (zA Z Z zk Z ZT) (oL Z (hS699.ldC (f:=2) hC737 (v:=.slice pA742 x661.Legs.length pc743) Z Z Zc Z) (oM Z f702 ?_)))
                have q:=h745.el (wAE h718)
                obtain ⟨b746,off747,vs750,hA748,hC749,hr751⟩:=q
                obtain ⟨pA752,pc753,pA754,pc755,rfl,h756,h757⟩:=hr751
                replace hC749:Cl U697 b746 (off747 + x647.toNat * 3) [jV x717.Skier,.slice pA752 x717.Loops.length pc753,.slice pA754 x717.Bouts.length pc755]:=hC749
                refine oR Z (ZQ Z Z hA748 Z ZF Zp (wAx h718) (wBE h718)) (oR Z (zA Z Z ZS Z Zm) (oL Z (hS699.ldC (f:=2) hC749 (v:=.slice pA754 x717.Bouts.length pc755) Z Z Zr Z) (oM Z f703 (bnK hm733 fun x758 h759 hm760=>?_))))
                have q:=h757.el (wAE h759)
                obtain ⟨b761,off762,vs765,hA763,hC764,hr766⟩:=q
                obtain ⟨pA767,pc768,rfl,h769⟩:=hr766
                replace hC764:Cl U697 b761 (off762 + x689.toNat * 1) [.slice pA767 x758.length pc768]:=hC764
                refine oR Z (ZQ Z Z hA763 Z ZC yL (wAx h759) (wBE h759)) (oL Z (hS699.ldC (f:=0) hC764 (v:=.slice pA767 x758.length pc768) Z Z yX Z) ?_)
                have q:=bnd hm760
                obtain ⟨⟨x770,x771⟩,h772,hm773⟩:=q
                try dsimp only at hm773
                refine zQ 0 Z Z Z Z (zR Z Z Tryz.call97 (zH Z ze) Z) hS699 (fun hs=>wCu x758 pA767 pc768 W691 U697 hs h769 h772) (.inr Z) ?_
                rintro U774 L775 v776 W777 le778 hS779 ⟨rfl,rfl⟩
                have hS780:sW w U U774 [.blk b2 34 B0] W777:=hS779
                refine oM Z Z (oR Z (ZK Z Z (v:=.agg #[jV x770.Spares,jV x770.Loops,jV x770.Unused]) Z) (oR Z (ZK Z Z (v:=jV x771) Z) (zq (cs:=[jV 0,jV 0,jV 0]) Z Z Z Z Z yO Z hS780 ?_)))
                intro W781 b782 hS783
                let B3:List Value:=[jV x770.Spares,jV x770.Loops,jV x770.Unused]
                refine ZE (j:=0) (vs:=B3) Z Z Z Z hS783 Z Z Z Z yH (zD Z) Z Z Z ?_
                intro W785 hS786
                have hS787:sW w U U774 [.blk b782 172 B3,.blk b2 34 B0] W785:=hS786
                refine oA Z Z (eN (sR fL2 Z (oM Z Z (oR Z (ZV Z Z Z) (eN (ifc hm773 ?_ ?_))))))
                ·intro c788 hm789
                 refine zo (zw (fun h=>h c788.out)) (ZW (zg (zF (rR fL3 Z (oM Z f703 (oR Z (zU Z Z Z) (oA Z Z (zj ?_))))))))
                 obtain rfl:=nA hm789
                 exact zF ⟨rfl,_,rfl,⟨U774,f700,f701,f702,rfl,(le698.trans le778),(hS787.pick [1] _ (by decide) rfl)⟩⟩
                ·intro c788 hm791
                 refine cT Z c788 (sR fL2 Z (oM Z Z (oA Z Z (eN (zM (zK (zC ?_)))))))
                 have q:=wAF hm791
                 obtain ⟨v792,hm793,e794⟩:=q
                 obtain rfl:=hb694 v792 e794
                 refine zC (zK (zK (zC ?_)))
                 have q:=wAF hm793
                 obtain ⟨v795,hm796,e797⟩:=q
                 obtain rfl:=hb652 v795 e797
                 refine zC (zK (zK (zC ?_)))
                 have q:=wAF hm796
                 obtain ⟨v798,hm799,e800⟩:=q
                 obtain rfl:=hb634 v798 e800
                 refine zC (zK (zC ?_))
                 have hE:=nA hm799;first | subst r | cases hE
                 exact ⟨rfl,_,(zt rfl),U774,_,(hS787.pick [] _ (by decide) rfl),rfl,rfl⟩
               ·intro c732 hm801
                refine cF Z c732 (ZG (zW ?_))
                have q:=wAF hm801
                obtain ⟨v802,hm803,e804⟩:=q
                obtain rfl:=hb694 v802 e804
                refine zW (zr (zg (zF (rR fL3 Z (oM Z f702 (oR Z (zU Z Z Z) (oA Z Z (zj ?_))))))))
                obtain rfl:=nA hm803
                exact zF ⟨Z,_,Z,⟨U697,f700,f701,Z,(le656.trans le698),hS699⟩⟩
             ·intro c684 hm806
              refine cF Z c684 (ZG (zW ?_))
              have q:=wAF hm806
              obtain ⟨v807,hm808,e809⟩:=q
              obtain rfl:=hb652 v807 e809
              refine zW (zr (zg (zF (rR fL3 Z (oM Z f659 (oR Z (zU Z Z Z) (oA Z Z (zj ?_))))))))
              obtain rfl:=nA hm808
              exact zF ⟨Z,_,Z,⟨U655,f658,Z,(le638.trans le656),hS657⟩⟩
           ·have hm811:=hx633;rw [if_neg c642] at hm811;replace c642:=zG c642
            refine cF Z c642 (ZG (zW ?_))
            have q:=wAF hm811
            obtain ⟨v812,hm813,e814⟩:=q
            obtain rfl:=hb634 v812 e814
            refine zW (zr (zF (zB (sR fL1 Z (oA Z Z (eN (zL (yV (fun x818 σ_ w_=>∃ (U_:PHeap),σ_ 1=.pointer (some ⟨b2,0,none⟩)/\σ_ 20=jV x818/\PHeap.Le U637 U_/\sW w U U_ [.blk b2 34 B0] w_) hm813 ?_ ?_))))))))
            ·exact ⟨U637,f640,Z,(zZ _),hS639⟩
            ·rintro x818 xx821 σ819 W820 ⟨U826,f829,f830,le827,hS828⟩ hx822 hb823
             refine zB (sR fL5 Z (oM Z f830 (oR Z (zA Z f829 zX Z ZR) (oL Z (hS828.ldB (j:=0) Z Z Z ZY (v:=.slice pA0_2 p0.Teams.length pc0_2) Z) (oR Z (zN Z Z zy) (oR Z (zS Z Z Z) (eN ?_)))))))
             by_cases c831:x818 < (↑p0.Teams.length:Int)
             ·have hm832:=hx822;rw [if_pos c831] at hm832;replace c831:=zG c831
              refine cT Z c831 (kN (zB (zL (sR fL1 Z (oA Z Z (eN (zL ?_)))))))
              have q:=wCM hm832
              obtain ⟨r835,hX836⟩:=q
              have q:=wCL hX836
              obtain ⟨hle837,hf838⟩:=q
              replace hle837:=zG hle837
              refine yK (fun k834 _ σ_ w_=>∃ (U_:PHeap),σ_ 21=jV (↑k834:Int)/\σ_ 1=.pointer (some ⟨b2,0,none⟩)/\σ_ 20=jV x818/\PHeap.Le U826 U_/\sW w U U_ [.blk b2 34 B0] w_) hf838 ?_ ?_ ?_
              ·exact ⟨U826,Z,f829,f830,(zZ _),hS828⟩
              ·rintro k834 ⟨⟩ xx841 σ839 W840 hk844 ⟨U846,fi845,f849,f850,le847,hS848⟩ hx842 hb843
               try dsimp only at hx842
               have c851:Hid ((↑k834:Int) < x818):=zG (wAy hk844)
               replace hk844:=zG hk844
               have hi852:Hid (w64 ((↑k834:Int) + 1)=(↑(k834 + 1):Int)):=zG (by have h1:=hle837.out;have h2:=c851.out;rw [wAK] <;> omega)
               refine zB (sR fL3 rfl (ZM rfl rfl rfl rfl rfl fi845 (ZM rfl rfl rfl rfl rfl f850 (zu rfl rfl rfl rfl (fun _=>zS rfl rfl rfl) (eN (cT Z c851 (kN (zB (zL (zB (Zv Zt [3,1,3,3,3,1,3,1,3,3,3,1,3] fL13 (by kernel_rfl) ?_)))))))))))
               have hS853:=hS848.drew
               generalize hw_W854:({ W840 with drawn:=W840.drawn + 1 }:World)=W854 at hS853 ⊢
               refine oR Z (zA Z f849 zX Z ZR) (oL Z (hS853.ldB (j:=0) Z Z Z ZY (v:=.slice pA0_2 p0.Teams.length pc0_2) Z) (oM Z f850 (bnK hx842 fun x855 h856 hm857=>?_)))
               have h858:=ha1.le le12
               have h859:=h858.le le24
               have h860:=h859.le le42
               have h861:=h860.le le297
               have h862:=h861.le le315
               have h863:=h862.le le509
               have h864:=h863.le le638
               have h865:=h864.le le827
               have h866:=h865.le le847
               have q:=h866.el (wAE h856)
               obtain ⟨b867,off868,vs871,hA869,hC870,hr872⟩:=q
               obtain ⟨pA873,pc874,pA875,pc876,rfl,h877,h878⟩:=hr872
               replace hC870:Cl U846 b867 (off868 + x818.toNat * 3) [jV x855.Bib,.slice pA873 x855.Classes.length pc874,.slice pA875 x855.Legs.length pc876]:=hC870
               refine oR Z (ZQ Z Z hA869 Z zy ZU (wAx h856) (wBE h856)) (oR Z (zA Z Z zk Z zI) (oL Z (hS853.ldC (f:=0) hC870 (v:=jV x855.Bib) Z Z zP Z) (oR Z (zA Z f849 zX Z ZR) (oL Z (hS853.ldB (j:=0) Z Z Z ZY (v:=.slice pA0_2 p0.Teams.length pc0_2) Z) (oM Z fi845 (bnK hm857 fun x879 h880 hm881=>?_))))))
               have q:=h866.el (wAE h880)
               obtain ⟨b882,off883,vs886,hA884,hC885,hr887⟩:=q
               obtain ⟨pA888,pc889,pA890,pc891,rfl,h892,h893⟩:=hr887
               replace hC885:Cl U846 b882 (off883 + k834 * 3) [jV x879.Bib,.slice pA888 x879.Classes.length pc889,.slice pA890 x879.Legs.length pc891]:=hC885
               refine oR Z (zx Z Z hA884 Z zy ZU (wAc h880)) (oR Z (zA Z Z zk Z zI) (oL Z (hS853.ldC (f:=0) hC885 (v:=jV x879.Bib) Z Z zP Z) (oR Z (yI Z Z Z) (eN (ifc hm881 ?_ ?_)))))
               ·intro c894 hm895
                refine cT Z c894 (sR fL1 Z (oA Z Z (eN (zM (zK (zC ?_))))))
                have q:=wAF hm895
                obtain ⟨v896,hm897,e898⟩:=q
                obtain rfl:=wBd hm832 hX836 (hb843 v896 e898)
                refine zC (zK (zK (zC ?_)))
                have q:=wAF hm897
                obtain ⟨v899,hm900,e901⟩:=q
                obtain rfl:=hb823 v899 e901
                refine zC (zK (zC ?_))
                cases hm900
                exact ⟨rfl,_,(zt rfl),U846,_,(hS853.pick [] _ (by decide) rfl),rfl,rfl⟩
               ·intro c894 hm902
                refine cF Z c894 (ZW (zg (zF (rR fL3 Z (oM Z fi845 (oR Z (ZD (zU Z Z Z) (congrArg (jV) hi852.out)) (oA Z Z (zj ?_))))))))
                obtain rfl:=nA hm902
                exact zF ⟨Z,_,Z,⟨U846,Z,f849,f850,le847,hS853⟩⟩
              ·rintro ⟨⟩ σ903 W904 ⟨U907,fi906,f910,f911,le908,hS909⟩ hb905
               have hm912:=wCv hm832 hX836 hb905
               try dsimp only at hm912
               have c913:Hid (¬ ((↑((x818:Int) - 0).toNat:Int) < x818)):=zG (wAa)
               refine zB (sR fL3 Z (oM Z fi906 (oM Z f911 (oR Z (zS Z Z Z) (eN (cF Z c913 (ZG (zW (zW (zr (zg (zF (rR fL3 Z (oM Z f911 (oR Z (zU Z Z Z) (oA Z Z (zj ?_)))))))))))))))))
               obtain rfl:=nA hm912
               exact zF ⟨Z,_,Z,⟨U907,f910,Z,(le827.trans le908),hS909⟩⟩
             ·have hm915:=hx822;rw [if_neg c831] at hm915;replace c831:=zG c831
              refine cF Z c831 (ZG (zW ?_))
              have q:=wAF hm915
              obtain ⟨v916,hm917,e918⟩:=q
              obtain rfl:=hb823 v916 e918
              refine zW (zr (zF (sR fL1 Z (oA Z Z (eN (zM ?_))))))
              cases hm917
              exact ⟨rfl,_,(zt rfl),U826,_,(hS828.pick [] _ (by decide) rfl),rfl,rfl⟩
 ·intro c15 hm919
  refine cT Z c15 (sR fL2 Z (oM Z Z (oA Z Z (eN (zM (zC ?_))))))
  have hE:=nA hm919;first | subst r | cases hE
  exact ⟨rfl,_,(zt rfl),U8,_,(hS14.pick [] _ (by decide) rfl),rfl,rfl⟩
end Go.Proofs.YthbficbpebiekaaGreat
