import Derived.Test.YtlkkhhcfemmmdaaGreatA6
set_option linter.all false
open List renaming flatMap->nA,length_set->nH,getElem_cons_succ->nI,getElem_cons_zero->nJ,getElem_toArray->nK,set->nL
open Go.Value renaming bool->nB
open Bool renaming eq_false_iff->nD
open Option.some renaming inj->nE
open Prod.mk renaming injEq->nG
open Int renaming toNat_natCast->nM
open Nat renaming blt->nN,le_of_ble_eq_true->nO
namespace Go.Proofs.YtlkkhhcfemmmdaaGreat
open Go.KL
def gAa:Sch:=.fl 1 (.fl 2 .nil)
def gAb:Sch:=.fl 3 (.fl 4 .nil)
def gAc:Sch:=.fl 4 (.fl 5 .nil)
def gAd:Sch:=.fl 7 (.fl 8 .nil)
def gAe:Sch:=.fx 1 (.fx 2 .nil .stop) .stop
def gAf:Sch:=.fl 0 (.fx 1 .nil .stop)
def gAg:Sch:=.fx 3 (.fl 4 .nil) .stop
def gAh:Sch:=.fx 1 (.fl 2 .nil) .stop
def gAi:Sch:=.fx 0 (.fx 1 .nil .stop) .stop
def gAj:Sch:=.fx 0 (.fl 1 .nil) .stop
def gAk:Sch:=.fx 4 (.fl 5 .nil) .stop
def gAl:Sch:=.fx 5 (.fl 6 .nil) .stop
def gAm:Sch:=.fx 6 (.fl 7 .nil) .stop
def gAn:Sch:=.fx 8 (.fl 9 .nil) .stop
def gAo:Sch:=.fx 6 gAd .stop
def gAp:Sch:=.fl 0 gAh
def gAq:Sch:=.fx 17 (.fl 18 (.fl 19 .nil)) .stop
def gAr:Sch:=.fx 3 gAk .stop
def gAs:Sch:=.fl 0 (.fl 1 (.fx 2 .nil .stop))
def gAt:Sch:=.fx 0 gAh .stop
def gAu:Sch:=.fx 7 gAn .stop
def gAv:Sch:=.fx 0 gAe .stop
def gAw:Sch:=.fl 0 (.fl 1 (.fx 2 (.fl 3 .nil) .stop))
def gAx:Sch:=.fx 3 (.fx 4 (.fl 5 (.fx 6 .nil .stop)) .stop) .stop
def gAy:Sch:=.fl 0 (.fx 1 (.fl 2 (.fx 3 .nil .stop)) .stop)
def gAz:Sch:=.fl 0 (.fl 1 (.fx 2 (.fx 3 .nil .stop) .stop))
def gBa:Sch:=.fl 0 (.fl 1 (.fx 2 gAb .stop))
def gBb:Sch:=.fl 0 (.fx 1 (.fl 2 (.fl 3 (.fx 4 .nil .stop))) .stop)
def gBc:Sch:=.fl 0 (.fl 1 (.fx 2 (.fl 3 (.fl 4 gAl)) .stop))
set_option maxHeartbeats 4000000
theorem Z {α:Type} {a:α}:a=a:=rfl
section
variable {r:Option Nat} {N:Nat} {P:Program} {l:List Oper} {Q:wDr} {D:List Deferred} {ks:List Nat} {σ:Env} {w:World} {i d j e:Nat} {s:Sch} {o:Oper} {b:Bool} {x:Operand} {v:Value} {p:Prop} {inst:Decidable p} {K:List Deferred->Env->World->Prop} {c1 c2:Code}
abbrev jV (n:Int):Value:=.int .i64 n
abbrev SW (w:World) (X:List Res) (U U':PHeap) (L:List Res) (w':World):Prop:=St ⟨w,X,U⟩ U' L w'
abbrev sW (w:World) (U U':PHeap) (L:List Res) (w':World):Prop:=St ⟨w,[],U⟩ U' L w'
abbrev St0 (w:World) (U:PHeap) (L:List Res):Prop:=St ⟨w,L,U⟩ U L w
theorem ifc {α:Type} {G p:Prop} {inst:Decidable p} {a b r:α} (h:@ite α p inst a b=r) (h1:Hid p->a=r->G) (h2:Hid (¬ p)->b=r->G):G:=by
 by_cases c:p
 rw [if_pos c] at h;exact h1 ⟨c⟩ h
 rw [if_neg c] at h;exact h2 ⟨c⟩ h
theorem bnK {α β:Type} {G:Prop} {o:Option α} {f:α->Option β} {r:β} (h:o.bind f=some r) (k:∀ x,o=some x->f x=some r->G):G:=by
 obtain ⟨x,h1,h2⟩:=bnd h
 exact k x h1 h2
theorem oR (h:(l[i]?,o.dst,nN d N,wanted l σ o)=(some o,some d,true,true)) (hr:∀ {w'},Runs P σ w' o v w') (k:OKS N P l Q D ks s (upd σ d v) w):OKS N P l Q D ks (.fl i s) σ w:=by
 simp only [nG] at h;exact OKS.r h.1 h.2.1 h.2.2.1 h.2.2.2 (fun _=>hr) k
theorem oL (h:(l[i]?,o.dst,nN d N,wanted l σ o,wTv (kOf ks i))=(some o,some d,true,true,false)) (hr:wFb P σ w o v) (k:OKS N P l Q D ks s (upd σ d v) w):OKS N P l Q D ks (.fl i s) σ w:=by
 simp only [nG] at h;exact OKS.m h.1 h.2.1 h.2.2.1 h.2.2.2.1 hr h.2.2.2.2 k
theorem oM (h:(l[i]?,o.dst,nN d N,wanted l σ o,o.op)=(some o,some d,true,true,.move x)) (hx:ev σ x=v) (k:OKS N P l Q D ks s (upd σ d v) w):OKS N P l Q D ks (.fl i s) σ w:=by
 simp only [nG] at h;exact OKS.rm h.1 h.2.1 h.2.2.1 h.2.2.2.1 h.2.2.2.2 hx k
theorem oA (h:(l[i]?,o.dst,nN d N,wanted l σ o,o.op)=(some o,some d,true,true,.assign x)) (hx:ev σ x=v) (k:OKS N P l Q D ks s (upd σ d v) w):OKS N P l Q D ks (.fl i s) σ w:=by
 simp only [nG] at h;exact OKS.ra h.1 h.2.1 h.2.2.1 h.2.2.2.1 h.2.2.2.2 hx k
theorem oF (h:(l[i]?,o.dst,nN d N,o.guard,(l[j]?).bind (·.dst),σ e,false == b)=(some o,some d,true,some (j,b),some e,.bool (decide p),false)) (c:Hid (¬ p)) (k:OKS N P l Q D ks s (upd σ d undef) w):OKS N P l Q D ks (.fl i s) σ w:=by
 simp only [nG] at h;exact OKS.p h.1 h.2.1 h.2.2.1 (wIO h.2.2.2.1 h.2.2.2.2.1 (h.2.2.2.2.2.1.trans (wTt c.out)) h.2.2.2.2.2.2) k
theorem oT (h:(l[i]?,o.dst,nN d N,o.guard,(l[j]?).bind (·.dst),σ e,true == b)=(some o,some d,true,some (j,b),some e,.bool (decide p),false)) (c:Hid p) (k:OKS N P l Q D ks s (upd σ d undef) w):OKS N P l Q D ks (.fl i s) σ w:=by
 simp only [nG] at h;exact OKS.p h.1 h.2.1 h.2.2.1 (wIO h.2.2.2.1 h.2.2.2.2.1 (h.2.2.2.2.2.1.trans (wTs c.out)) h.2.2.2.2.2.2) k
theorem oN {b2:Bool} (h:(l[i]?,o.dst,nN d N,o.guard,(l[j]?).bind (·.dst),σ e,b2 == b)=(some o,some d,true,some (j,b),some e,.bool b2,false)) (k:OKS N P l Q D ks s (upd σ d undef) w):OKS N P l Q D ks (.fl i s) σ w:=by
 simp only [nG] at h;exact OKS.p h.1 h.2.1 h.2.2.1 (wIO h.2.2.2.1 h.2.2.2.2.1 h.2.2.2.2.2.1 h.2.2.2.2.2.2) k
theorem nC {a b:Bool} (h:a=b):nB (!a)=nB (!b):=h ▸ rfl
theorem nF {a:Bool} (h:¬ a=true):nB (!a)=nB (!false):=nC (nD.2 h)
theorem wT (h:(o.guard,(l[j]?).bind (·.dst),σ e)=(some (j,true),some e,.bool (decide p))) (c:Hid p):wanted l σ o=true:=by
 simp only [nG] at h;exact wJf h.1 h.2.1 (h.2.2.trans (wTs c.out))
theorem wF (h:(o.guard,(l[j]?).bind (·.dst),σ e)=(some (j,false),some e,.bool (decide p))) (c:Hid (¬ p)):wanted l σ o=true:=by
 simp only [nG] at h;exact wJf h.1 h.2.1 (h.2.2.trans (wTt c.out))
theorem rU (h:(l[i]?,o.dst,nN d N)=(some o,some d,true)) (hw:wanted l σ o=true) (hr:∀ {w'},Runs P σ w' o v w') (k:OKS N P l Q D ks s (upd σ d v) w):OKS N P l Q D ks (.fl i s) σ w:=by
 simp only [nG] at h;exact OKS.r h.1 h.2.1 h.2.2 hw (fun _=>hr) k
theorem sR {id:Nat} (s:Sch) (hs:inOrder 0 s l.length=true) (h:OKS N P l (wGC (fun D σ w=>CK r N P c2 Q D σ w) Q) D [] s σ w):CK r N P (.seq (.region id l.toArray false) c2) Q D σ w:=CK.seq (CK.reg s hs h)
theorem rR {id:Nat} (s:Sch) (hs:inOrder 0 s l.length=true) (h:OKS N P l Q D [] s σ w):CK r N P (.region id l.toArray false) Q D σ w:=CK.reg s hs h
theorem eN (h:K D σ w):OKS N P l (wGC K Q) D ks .nil σ w:=OKS.e (wJb h)
theorem cT (hz:ev σ x=.bool (decide p)) (c:Hid p) (h:CK r N P c1 Q D σ w):CK r N P (.cond x c1 c2) Q D σ w:=CK.condT (hz.trans (wTs c.out)) h
theorem cF (hz:ev σ x=.bool (decide p)) (c:Hid (¬ p)) (h:CK r N P c2 Q D σ w):CK r N P (.cond x c1 c2) Q D σ w:=CK.condF (hz.trans (wTt c.out)) h
theorem kN (h:K D σ w):CK r N P .skip (wGC K Q) D σ w:=CK.skip (wJb h)
end
def fL1:Sch:=.fl 0 .nil
def fL2:Sch:=.fl 0 (.fl 1 .nil)
def fL3:Sch:=.fl 0 gAa
def fL4:Sch:=.fl 0 (.fl 1 (.fl 2 (.fl 3 .nil)))
def fL5:Sch:=.fl 0 (.fl 1 (.fl 2 gAb))
def fL6:Sch:=.fl 0 (.fl 1 (.fl 2 (.fl 3 gAc)))
def fL7:Sch:=.fl 0 (.fl 1 (.fl 2 (.fl 3 (.fl 4 (.fl 5 (.fl 6 .nil))))))
def fL8:Sch:=.fl 0 (.fl 1 (.fl 2 (.fl 3 (.fl 4 (.fl 5 (.fl 6 (.fl 7 .nil)))))))
def fL9:Sch:=.fl 0 (.fl 1 (.fl 2 (.fl 3 (.fl 4 (.fl 5 (.fl 6 gAd))))))
def fL10:Sch:=.fl 0 (.fl 1 (.fl 2 (.fl 3 (.fl 4 (.fl 5 (.fl 6 (.fl 7 (.fl 8 (.fl 9 .nil)))))))))
def fL11:Sch:=.fl 0 (.fl 1 (.fl 2 (.fl 3 (.fl 4 (.fl 5 (.fl 6 (.fl 7 (.fl 8 (.fl 9 (.fl 10 .nil))))))))))
def fL16:Sch:=.fl 0 (.fl 1 (.fl 2 (.fl 3 (.fl 4 (.fl 5 (.fl 6 (.fl 7 (.fl 8 (.fl 9 (.fl 10 (.fl 11 (.fl 12 (.fl 13 (.fl 14 (.fl 15 .nil)))))))))))))))
def fL30:Sch:=.fl 0 (.fl 1 (.fl 2 (.fl 3 (.fl 4 (.fl 5 (.fl 6 (.fl 7 (.fl 8 (.fl 9 (.fl 10 (.fl 11 (.fl 12 (.fl 13 (.fl 14 (.fl 15 (.fl 16 (.fl 17 (.fl 18 (.fl 19 (.fl 20 (.fl 21 (.fl 22 (.fl 23 (.fl 24 (.fl 25 (.fl 26 (.fl 27 (.fl 28 (.fl 29 .nil)))))))))))))))))))))))))))))
def wDq (s:Sch):Sch:=.fl 0 (.fl 1 (.fl 2 (s)))
def wET (s:Sch):Sch:=.fl 0 (.fl 1 (.fl 2 (.fl 3 (s))))
def wID (s:Sch):Sch:=.fl 0 (.fl 1 (.fl 2 (.fl 3 (.fl 4 (s)))))
def wLT (s:Sch):Sch:=.fl 0 (.fl 1 (.fl 2 (.fl 3 (.fl 4 (.fl 5 (s))))))
def wML (s:Sch):Sch:=.fl 0 (.fl 1 (.fl 2 (.fl 3 (.fl 4 (.fl 5 (.fl 6 (s)))))))
def wPj (s:Sch):Sch:=.fl 0 (.fl 1 (.fl 2 (.fl 3 (.fl 4 (.fl 5 (.fl 6 (.fl 7 (s))))))))
def wQt (s:Sch):Sch:=.fl 0 (.fl 1 (.fl 2 (.fl 3 (.fl 4 (.fl 5 (.fl 6 (.fl 7 (.fl 8 (s)))))))))
def wQu (s:Sch):Sch:=.fl 0 (.fl 1 (.fl 2 (.fl 3 (.fl 4 (.fl 5 (.fl 6 (.fl 7 (.fl 8 (.fl 9 (s))))))))))
def wRj (s:Sch):Sch:=.fl 0 (.fl 1 (.fl 2 (.fl 3 (.fl 4 (.fl 5 (.fl 6 (.fl 7 (.fl 8 (.fl 9 (.fl 10 (s)))))))))))
def wVU (s:Sch):Sch:=.fl 0 (.fl 1 (.fl 2 (.fl 3 (.fl 4 (.fl 5 (.fl 6 (.fl 7 (.fl 8 (.fl 9 (.fl 10 (.fl 11 (.fl 12 (s)))))))))))))
def wPk (s:Sch):Sch:=.fl 0 (.fl 1 (.fl 2 (.fl 3 (.fl 4 (.fl 5 (.fl 6 (.fl 7 (.fl 8 (.fl 9 (.fl 10 (.fl 11 (.fl 12 (.fl 13 (s))))))))))))))
def wND (s:Sch):Sch:=.fl 0 (.fl 1 (.fl 2 (.fl 3 (.fl 4 (.fl 5 (.fl 6 (.fl 7 (.fl 8 (.fl 9 (.fl 10 (.fl 11 (.fl 12 (.fl 13 (.fl 14 (s)))))))))))))))
def wVV (s:Sch):Sch:=.fl 0 (.fl 1 (.fl 2 (.fl 3 (.fl 4 (.fl 5 (.fl 6 (.fl 7 (.fl 8 (.fl 9 (.fl 10 (.fl 11 (.fl 12 (.fl 13 (.fl 14 (.fl 15 (.fl 16 (.fl 17 (.fl 18 (.fl 19 (.fl 20 (.fl 21 (.fl 22 (.fl 23 (.fl 24 (.fl 25 (.fl 26 (.fl 27 (.fl 28 (.fl 29 (.fl 30 (.fl 31 (.fl 32 (.fl 33 (.fl 34 (.fl 35 (.fl 36 (.fl 37 (.fl 38 (.fl 39 (.fl 40 (.fl 41 (.fl 42 (s)))))))))))))))))))))))))))))))))))))))))))
def fC1_3 (s:Sch):Sch:=.fl 1 (.fl 2 (.fl 3 (s)))
def wTW (s:Sch):Sch:=.fl 1 (.fl 2 (.fl 3 (.fl 4 (s))))
def wPl (s:Sch):Sch:=.fl 2 (.fl 3 (.fl 4 (s)))
def wLU (s:Sch):Sch:=.fl 2 (.fl 3 (.fl 4 (.fl 5 (.fl 6 (s)))))
def wVW (s:Sch):Sch:=.fl 2 (.fl 3 (.fl 4 (.fl 5 (.fl 6 (.fl 7 (.fl 8 (s)))))))
def wTX (s:Sch):Sch:=.fl 3 (.fl 4 (.fl 5 (s)))
def wTY (s:Sch):Sch:=.fl 3 (.fl 4 (.fl 5 (.fl 6 (s))))
def wQv (s:Sch):Sch:=.fl 3 (.fl 4 (.fl 5 (.fl 6 (.fl 7 (s)))))
def wVX (s:Sch):Sch:=.fl 3 (.fl 4 (.fl 5 (.fl 6 (.fl 7 (.fl 8 (.fl 9 (.fl 10 (.fl 11 (.fl 12 (s))))))))))
def wVY (s:Sch):Sch:=.fl 3 (.fl 4 (.fl 5 (.fl 6 (.fl 7 (.fl 8 (.fl 9 (.fl 10 (.fl 11 (.fl 12 (.fl 13 (s)))))))))))
def wTZ (s:Sch):Sch:=.fl 4 (.fl 5 (.fl 6 (s)))
def fC4_7 (s:Sch):Sch:=.fl 4 (.fl 5 (.fl 6 (.fl 7 (s))))
def fC4_8 (s:Sch):Sch:=.fl 4 (.fl 5 (.fl 6 (.fl 7 (.fl 8 (s)))))
def wVZ (s:Sch):Sch:=.fl 4 (.fl 5 (.fl 6 (.fl 7 (.fl 8 (.fl 9 (.fl 10 (.fl 11 (s))))))))
def wVa (s:Sch):Sch:=.fl 4 (.fl 5 (.fl 6 (.fl 7 (.fl 8 (.fl 9 (.fl 10 (.fl 11 (.fl 12 (.fl 13 (.fl 14 (.fl 15 (.fl 16 (s)))))))))))))
def fC5_7 (s:Sch):Sch:=.fl 5 (.fl 6 (.fl 7 (s)))
def wPm (s:Sch):Sch:=.fl 5 (.fl 6 (.fl 7 (.fl 8 (s))))
def fC5_9 (s:Sch):Sch:=.fl 5 (.fl 6 (.fl 7 (.fl 8 (.fl 9 (s)))))
def wTa (s:Sch):Sch:=.fl 6 (.fl 7 (.fl 8 (s)))
def wPn (s:Sch):Sch:=.fl 7 (.fl 8 (.fl 9 (.fl 10 (s))))
def wVb (s:Sch):Sch:=.fl 7 (.fl 8 (.fl 9 (.fl 10 (.fl 11 (.fl 12 (.fl 13 (s)))))))
def wVc (s:Sch):Sch:=.fl 8 (.fl 9 (.fl 10 (s)))
def wVd (s:Sch):Sch:=.fl 8 (.fl 9 (.fl 10 (.fl 11 (.fl 12 (s)))))
def wVe (s:Sch):Sch:=.fl 8 (.fl 9 (.fl 10 (.fl 11 (.fl 12 (.fl 13 (.fl 14 (s)))))))
def wVf (s:Sch):Sch:=.fl 9 (.fl 10 (.fl 11 (s)))
def wVg (s:Sch):Sch:=.fl 9 (.fl 10 (.fl 11 (.fl 12 (.fl 13 (.fl 14 (.fl 15 (.fl 16 (.fl 17 (s)))))))))
def wTb (s:Sch):Sch:=.fl 10 (.fl 11 (.fl 12 (.fl 13 (.fl 14 (.fl 15 (.fl 16 (.fl 17 (.fl 18 (s)))))))))
def wTc (s:Sch):Sch:=.fl 11 (.fl 12 (.fl 13 (.fl 14 (s))))
def wPo (s:Sch):Sch:=.fl 12 (.fl 13 (.fl 14 (.fl 15 (.fl 16 (s)))))
def wTd (s:Sch):Sch:=.fl 14 (.fl 15 (.fl 16 (s)))
def wTe (s:Sch):Sch:=.fl 14 (.fl 15 (.fl 16 (.fl 17 (.fl 18 (.fl 19 (.fl 20 (.fl 21 (.fl 22 (s)))))))))
def wTf (s:Sch):Sch:=.fl 16 (.fl 17 (.fl 18 (s)))
def wTg (s:Sch):Sch:=.fl 18 (.fl 19 (.fl 20 (s)))
def wTh (s:Sch):Sch:=.fl 24 (.fl 25 (.fl 26 (s)))
theorem zA:type_of% @wNp:=@wNp
theorem zB:type_of% @nO:=@nO
theorem zC:type_of% @Tryz.sizeOf3:=@Tryz.sizeOf3
theorem zD:type_of% @Runs.fa:=@Runs.fa
theorem zF:type_of% @Enters.mk:=@Enters.mk
theorem zG:type_of% @OKS.callH:=@OKS.callH
theorem zH:type_of% @CK.seq:=@CK.seq
theorem zI:type_of% @Hid.mk:=@Hid.mk
theorem zJ:type_of% @wJb:=@wJb
theorem zK:type_of% @wQw:=@wQw
theorem zL:type_of% @Tryz.runUnderlying26:=@Tryz.runUnderlying26
theorem zM:type_of% @CK.ret:=@CK.ret
theorem zN:type_of% @wNo:=@wNo
theorem zO:type_of% @Tryz.isAgg3:=@Tryz.isAgg3
theorem zP:type_of% @Tryz.runUnderlying42:=@Tryz.runUnderlying42
theorem zQ:type_of% @OKS.rm:=@OKS.rm
theorem zR:type_of% @Runs.pickF:=@Runs.pickF
theorem zS:type_of% @wJf:=@wJf
theorem zU:type_of% @PHeap.Le.refl:=@PHeap.Le.refl
theorem zV:type_of% @CK.block:=@CK.block
theorem zW:type_of% @wIO:=@wIO
theorem zX:type_of% @Tryz.sizeOf29:=@Tryz.sizeOf29
theorem zY:type_of% @Tryz.runUnderlying29:=@Tryz.runUnderlying29
theorem zZ:type_of% @Runs.addw:=@Runs.addw
theorem za:type_of% @OKS.r:=@OKS.r
theorem zb:type_of% @wNn:=@wNn
theorem zd:type_of% @Tryz.runUnderlying33:=@Tryz.runUnderlying33
theorem ze:type_of% @Runs.lss:=@Runs.lss
theorem zf:type_of% @wMO:=@wMO
theorem zg:type_of% @Tryz.sizeOf42:=@Tryz.sizeOf42
theorem zh:type_of% @wMM:=@wMM
theorem zi:type_of% @res1:=@res1
theorem zj:type_of% @Runs.pickT:=@Runs.pickT
theorem zk:type_of% @OKS.e:=@OKS.e
theorem zm:type_of% @Tryz.sizeOf33:=@Tryz.sizeOf33
theorem zn:type_of% @CK.condF:=@CK.condF
theorem zo:type_of% @OKS.st:=@OKS.st
theorem zp:type_of% @OKS.p:=@OKS.p
theorem zq:type_of% @OKS.alloc:=@OKS.alloc
theorem zr:type_of% @OKS.m:=@OKS.m
theorem zt:type_of% @Tryz.runUnderlying87:=@Tryz.runUnderlying87
theorem zu:type_of% @CK.condT:=@CK.condT
theorem zw:type_of% @Runs.to:=@Runs.to
theorem zx:type_of% @Tryz.runUnderlying27:=@Tryz.runUnderlying27
theorem zy:type_of% @Runs.len:=@Runs.len
theorem zz:type_of% @wJc:=@wJc
theorem ZA:type_of% @OKS.box:=@OKS.box
theorem ZB:type_of% @Runs.ext:=@Runs.ext
theorem ZC:type_of% @Tryz.runUnderlying31:=@Tryz.runUnderlying31
theorem ZD:type_of% @CK.exit:=@CK.exit
theorem ZE:type_of% @Tryz.sizeOf40:=@Tryz.sizeOf40
theorem ZF:type_of% @Tryz.isAgg42:=@Tryz.isAgg42
theorem ZG:type_of% @Tryz.isAgg29:=@Tryz.isAgg29
theorem ZH:type_of% @Tryz.mixed:=@Tryz.mixed
theorem ZI:type_of% @wTt:=@wTt
theorem ZJ:type_of% @Tryz.runUnderlying30:=@Tryz.runUnderlying30
theorem ZK:type_of% @Tryz.runUnderlying44:=@Tryz.runUnderlying44
theorem ZL:type_of% @Tryz.runUnderlying94:=@Tryz.runUnderlying94
theorem ZM:type_of% @OKS.buildSlice:=@OKS.buildSlice
theorem ZN:type_of% @Tryz.runUnderlying80:=@Tryz.runUnderlying80
theorem ZO:type_of% @OKS.px:=@OKS.px
theorem ZP:type_of% @Tryz.sizeOf87:=@Tryz.sizeOf87
theorem ZQ:type_of% @Runs.iaI:=@Runs.iaI
theorem ZR:type_of% @Runs.eql:=@Runs.eql
theorem ZS:type_of% @Tryz.isAgg40:=@Tryz.isAgg40
theorem ZT:type_of% @CK.anyOrd:=@CK.anyOrd
theorem ZU:type_of% @wTs:=@wTs
theorem ZV:type_of% @Tryz.sizeOf27:=@Tryz.sizeOf27
theorem ZW:type_of% @Tryz.isAgg33:=@Tryz.isAgg33
theorem ZX:type_of% @Runs.notT:=@Runs.notT
theorem ZY:type_of% @Tryz.sizeOf30:=@Tryz.sizeOf30
theorem ZZ:type_of% @Runs.iaN:=@Runs.iaN
theorem Za:type_of% @Tryz.sizeOf37:=@Tryz.sizeOf37
theorem Zb:type_of% @Tryz.sizeOf84:=@Tryz.sizeOf84
theorem Zc:type_of% @Tryz.sizeOf26:=@Tryz.sizeOf26
theorem Zd:type_of% @CK.skip:=@CK.skip
theorem Ze:type_of% @OKS.ra:=@OKS.ra
theorem Zf:type_of% @Tryz.sizeOf31:=@Tryz.sizeOf31
theorem Zg:type_of% @Tryz.zeroValue33:=@Tryz.zeroValue33
theorem Zh:type_of% @Tryz.zeroValue42:=@Tryz.zeroValue42
theorem Zi:type_of% @Runs.build:=@Runs.build
theorem Zj:type_of% @Runs.subw:=@Runs.subw
theorem Zk:type_of% @Tryz.runUnderlying37:=@Tryz.runUnderlying37
theorem Zl:type_of% @Tryz.runUnderlying54:=@Tryz.runUnderlying54
theorem Zm:type_of% @Runs.nilp:=@Runs.nilp
theorem Zn:type_of% @Tryz.runUnderlying68:=@Tryz.runUnderlying68
theorem Zo:type_of% @Tryz.isAgg87:=@Tryz.isAgg87
theorem Zp:type_of% @Tryz.isAgg31:=@Tryz.isAgg31
theorem Zq:type_of% @Tryz.isAgg27:=@Tryz.isAgg27
theorem Zr:type_of% @Tryz.sizeOf59:=@Tryz.sizeOf59
theorem Zs:type_of% @Runs.neq:=@Runs.neq
theorem Zt:type_of% @Tryz.zeroValue29:=@Tryz.zeroValue29
theorem Zu:type_of% @Tryz.isAgg30:=@Tryz.isAgg30
theorem Zv:type_of% @OKS.append:=@OKS.append
theorem Zw:type_of% @Tryz.runUnderlying114:=@Tryz.runUnderlying114
theorem Zx:type_of% @Tryz.zeroValue3:=@Tryz.zeroValue3
theorem Zy:type_of% @Tryz.runUnderlying84:=@Tryz.runUnderlying84
theorem Zz:type_of% @Runs.gtr:=@Runs.gtr
theorem yA:type_of% @Tryz.call110:=@Tryz.call110
theorem yB:type_of% @Tryz.isAgg26:=@Tryz.isAgg26
theorem yC:type_of% @Tryz.sizeOf152:=@Tryz.sizeOf152
theorem yD:type_of% @Runs.mkf:=@Runs.mkf
theorem yE:type_of% @Tryz.zeroValue37:=@Tryz.zeroValue37
theorem yF:type_of% @OKS.callV:=@OKS.callV
theorem yG:type_of% @Tryz.zeroValue87:=@Tryz.zeroValue87
theorem yH:type_of% @Tryz.sizeOf92:=@Tryz.sizeOf92
theorem yI:type_of% @CK.iter:=@CK.iter
theorem yJ:type_of% @Tryz.runUnderlying92:=@Tryz.runUnderlying92
theorem yK:type_of% @Tryz.underlying26:=@Tryz.underlying26
theorem yL:type_of% @Tryz.call7:=@Tryz.call7
theorem yM:type_of% @Tryz.sizeOf76:=@Tryz.sizeOf76
theorem yN:type_of% @Tryz.sizeOf94:=@Tryz.sizeOf94
theorem yO:type_of% @Tryz.runUnderlying153:=@Tryz.runUnderlying153
theorem yP:type_of% @Runs.leq:=@Runs.leq
theorem yQ:type_of% @Tryz.runUnderlying51:=@Tryz.runUnderlying51
theorem yR:type_of% @Tryz.runUnderlying3:=@Tryz.runUnderlying3
theorem yS:type_of% @CK.forN:=@CK.forN
theorem yT:type_of% @Tryz.isAgg37:=@Tryz.isAgg37
theorem yU:type_of% @Tryz.runUnderlying152:=@Tryz.runUnderlying152
theorem yV:type_of% @Tryz.sizeOf78:=@Tryz.sizeOf78
theorem yW:type_of% @Runs.mulw:=@Runs.mulw
theorem yX:type_of% @OKS.stR:=@OKS.stR
theorem yY:type_of% @Tryz.isAgg72:=@Tryz.isAgg72
set_option maxHeartbeats 4000000
theorem wGO (p0:List Int) (ae:Option Addr) (ag:Nat) (w:World) (U:PHeap) (hS:St0 w U []) (am:Sl U 1 ae ag p0.length (nA KL.encB8 p0)) {r:wAE} (hm:wDS p0=some r):Gv Tryz.prog 4 [.slice ae p0.length ag] w (wBW w [] U (fun U_ L_ v=>∃ (b0:Nat) (A0p0:Option Addr) (c0p0:Nat),v=.pointer (some ⟨b0,0,none⟩)/\L_=[.blk b0 68 [.slice A0p0 r.bytes.length c0p0,jV r.next,.int .u32 r.state]]/\Sl U_ 1 A0p0 c0p0 r.bytes.length (nA KL.encB8 r.bytes))):=by
 unfold wDS at hm
 refine Gv.of Tryz.func4 Z Tryz.ntmps4 Tryz.results4 Z (sR fL1 Z (oA Z Z (eN (sR gAw Z (oM Z Z ?_)))))
 let B0:List Value:=[.slice ae p0.length ag,jV 0,.int .u32 17]
 refine za rfl rfl rfl rfl (fun _=>Zi (pv:=[(0,.slice ae p0.length ag),(2,.int .u32 17)]) (z:=[.slice none 0 0,jV 0,.int .u32 0]) (cs:=B0) rfl (wAK rfl (wAK rfl wAb)) Tryz.zeroValue68 wQb rfl rfl) (ZA (cs:=B0) rfl rfl rfl rfl rfl rfl (by rfl) hS ?_)
 intro W1 b2 ak
 refine oA Z Z (eN (zM ?_))
 cases hm
 exact ⟨Z,_,(zi Z),U,_,ak,b2,ae,ag,Z,Z,am⟩
theorem wAV (p0:wAE) (aj:Nat) (ag:Option Addr) (ah:Nat) (p1:Int) (w:World) (U:PHeap) (hS:St0 w U [.blk aj 68 [.slice ag p0.bytes.length ah,jV p0.next,.int .u32 p0.state]]) (am:Sl U 1 ag ah p0.bytes.length (nA KL.encB8 p0.bytes)) {r:Int × wAE} (hm:wAM p0 p1=some r):Gv Tryz.prog 7 [.pointer (some ⟨aj,0,none⟩),jV p1] w (wBW w [.blk aj 68 [.slice ag p0.bytes.length ah,jV p0.next,.int .u32 p0.state]] U (fun U_ L_ v=>∃ (ba:Option Addr) (be:Nat),v=jV r.1/\L_=[.blk aj 68 [.slice ba r.2.bytes.length be,jV r.2.next,.int .u32 r.2.state]]/\Sl U_ 1 ba be r.2.bytes.length (nA KL.encB8 r.2.bytes))):=by
 unfold wAM at hm
 refine Gv.of Tryz.func7 Z Tryz.ntmps7 Tryz.results7 Z (sR fL1 Z (oA Z Z (eN (zH (sR fL10 Z (oM Z Z (oR Z (yP Z Z Z) (oM Z Z ?_))))))))
 by_cases c2:p1 <= 1
 have bi:=hm;rw [if_pos c2] at bi;replace c2:=zI c2
 refine oT Z c2 (oT Z c2 (oT Z c2 (oT Z c2 (oT Z c2 (oT Z c2 (oR Z (zj Z (ZU c2.out) Z) (eN (zu Z (sR fL1 Z (oA Z Z (eN (zM (zN ?_)))))))))))))
 cases bi
 exact ⟨Z,_,(zi Z),U,_,hS,ag,ah,Z,Z,am⟩
 have bj:=hm;rw [if_neg c2] at bj;replace c2:=zI c2
 refine zQ Z Z Z (wF Z c2) Z Z (rU Z (wF Z c2) (Zm Z Z) (rU Z (wF Z c2) (zD Z Z Zn Z Tryz.sizeOf22) (zr Z Z Z (wF Z c2) (hS.ldB (j:=0) Z Z Z Tryz.isAgg22 (v:=.slice ag p0.bytes.length ah) Z) Z (rU Z (wF Z c2) (zy Z Z Tryz.runUnderlying22) (rU Z (wF Z c2) (ZR Z Z Z) (oR Z (zR Z (ZI c2.out) Z) (eN (ifc bj ?_ ?_))))))))
 intro c5 bP
 refine cT Z c5 (sR fL1 Z (oA Z Z (eN (zM (zN ?_)))))
 cases bP
 exact ⟨Z,_,(zi Z),U,_,hS,ag,ah,Z,Z,am⟩
 intro c5 bQ
 refine cF Z c5 (kN (zH (ZT ZH [3,3,3,1,3,3,3,1,3,3,3,1,3,3,3,1,3,3,3,3,1,3,3,3,1,3,3,3,3,3] fL30 (by kernel_rfl) ?_)))
 have ai:=hS.drew
 generalize hw_W9:({ w with drawn:=w.drawn + 1 }:World)=W9 at ai ⊢
 refine oM Z Z (oR Z (Zm Z Z) (oR Z (zD Z Z Zn Z Tryz.sizeOf22) (oL Z (ai.ldB (j:=0) Z Z Z Tryz.isAgg22 (v:=.slice ag p0.bytes.length ah) Z) (oM Z Z (oR Z (Zm Z Z) (oR Z (zD Z Z Zn Z zC) (oL Z (ai.ldB (j:=0) Z Z Z zO (v:=jV p0.next) Z) (oM Z Z (oR Z (Zm Z Z) (oR Z (zD Z Z Zn Z Tryz.sizeOf22) (oL Z (ai.ldB (j:=0) Z Z Z Tryz.isAgg22 (v:=.slice ag p0.bytes.length ah) Z) (oR Z (zy Z Z Tryz.runUnderlying22) (bnK bQ fun bV bq bE=>oR Z (Runs.rem Z Z Z bq) (bnK bE fun bk aZ bF=>?_))))))))))))))
 have q:=am.el (fun _=>rfl) (wBD aZ)
 obtain ⟨bT,bU,bA,bB⟩:=q
 refine oR Z (ZQ Z Z bA Z Tryz.runUnderlying22 Tryz.sizeOf5 (wFJ aZ) (wFT aZ)) (oL Z (ai.ldC (f:=0) bB (v:=.int .u8 bk) Z Z Tryz.isAgg5 Z) (oR Z (Runs.cvu Z Z Tryz.runUnderlying5 Tryz.runUnderlying66 Z Z) (oM Z Z (oR Z (Zm Z Z) (oR Z (zD Z Z Zn Z zC) (oL Z (ai.ldB (j:=0) Z Z Z zO (v:=jV p0.next) Z) (oM Z Z (oR Z (Zm Z Z) (oR Z (zD Z Z Zn Z Tryz.sizeOf22) (oL Z (ai.ldB (j:=0) Z Z Z Tryz.isAgg22 (v:=.slice ag p0.bytes.length ah) Z) (oR Z (zy Z Z Tryz.runUnderlying22) (bnK bF fun bR br bG=>oR Z (Runs.quo Z Z Z br) (oR Z (Runs.cvu Z Z yR Tryz.runUnderlying66 Z Z) (oA Z Z (oA Z Z (eN (zH (CK.fresh fun az ap=>?_))))))))))))))))))
 have an:az 0=.pointer (some ⟨aj,0,none⟩):=(ap 0).trans rfl
 have aq:az 1=jV p1:=(ap 1).trans rfl
 have au:az 5=.int .u32 (wGB bk):=(ap 5).trans rfl
 have bg:az 6=.int .u32 (wGB bR):=(ap 6).trans rfl
 clear ap
 refine rR (wML (.fx 7 .nil .stop)) Z (oM Z an (oR Z (Zm Z Z) (oR Z (zD Z Z Zn Z zC) (oL Z (ai.ldB (j:=0) Z Z Z zO (v:=jV p0.next) Z) (oR Z (zZ Z Z Z) (oR Z (Zm Z Z) (oR Z (zD Z Z Zn Z zC) (zo (j:=0) (vs:=[jV (w64 (p0.next + 1))]) Z Z Z Z ai Z Z Z Z zC (zB Z) Z Z Z ?_))))))))
 intro bm bC
 let B0:Res:=.blk aj 68 [.slice ag p0.bytes.length ah,jV p0.next,.int .u32 p0.state]
 have bh:SW w [B0] U U [.blk aj 68 [.slice ag p0.bytes.length ah,jV (w64 (p0.next + 1)),.int .u32 p0.state]] bm:=bC
 refine eN (sR (wND (.fx 15 .nil .stop)) Z (oM Z an (oM Z an (oR Z (Zm Z Z) (oR Z (zD Z Z Zn Z Tryz.sizeOf66) (oL Z (bh.ldB (j:=0) Z Z Z Tryz.isAgg66 (v:=.int .u32 p0.state) Z) (oR Z (Runs.mulu Z Z Z) (oM Z au (oR Z (Runs.addu Z Z Z) (oM Z bg (oR Z (Runs.mulu Z Z Z) (oR Z (Runs.addu Z Z Z) (oR Z (Runs.addu Z Z Z) (bnK bG fun aw bs bH=>oR Z (Runs.rem Z Z Z bs) (oR Z (Zm Z Z) (oR Z (zD Z Z Zn Z Tryz.sizeOf66) (zo (j:=0) (vs:=[.int .u32 aw]) Z Z Z Z bh Z Z Z Z Tryz.sizeOf66 (zB Z) Z Z Z ?_)))))))))))))))))
 intro bp bD
 have ao:SW w [B0] U U [.blk aj 68 [.slice ag p0.bytes.length ah,jV (w64 (p0.next + 1)),.int .u32 aw]] bp:=bD
 refine eN (zH (sR fL6 Z (oM Z bg (oR Z (ZR Z Z Z) (oM Z Z (ifc bH ?_ ?_))))))
 intro ak bI
 refine zQ Z Z Z (wT Z ak) Z aq (rU Z (wT Z ak) (yP Z Z Z) (oR Z (zj Z (ZU ak.out) Z) (eN (ifc bI ?_ ?_))))
 intro aX bJ
 refine cT Z aX (sR fL5 Z (oM Z au (oR Z (Runs.cvw Z Z Tryz.runUnderlying66 yR Z Z) (oM Z aq (bnK bJ fun x42 bu bK=>oR Z (Runs.rem Z Z Z bu) (oA Z Z (eN (zM (zN ?_)))))))))
 cases bK
 exact ⟨Z,_,(zi Z),U,_,ao,ag,ah,Z,Z,am⟩
 intro aX bL
 refine cF Z aX (kN (sR fL11 Z (oM Z an (oR Z (Zm Z Z) (oR Z (zD Z Z Zn Z Tryz.sizeOf66) (oL Z (ao.ldB (j:=0) Z Z Z Tryz.isAgg66 (v:=.int .u32 aw) Z) (oR Z (Runs.mulu Z Z Z) (oM Z au (oR Z (Runs.addu Z Z Z) (oR Z (Runs.cvw Z Z Tryz.runUnderlying66 yR Z Z) (oM Z aq (bnK bL fun bW bw bM=>oR Z (Runs.rem Z Z Z bw) (oA Z Z (eN (zM ?_)))))))))))))))
 cases bM
 exact ⟨Z,_,(zi Z),U,_,ao,ag,ah,Z,Z,am⟩
 intro ak bN
 refine oF Z ak (oF Z ak (oR Z (zR Z (ZI ak.out) Z) (eN (zn Z (kN (sR fL11 Z (oM Z an (oR Z (Zm Z Z) (oR Z (zD Z Z Zn Z Tryz.sizeOf66) (oL Z (ao.ldB (j:=0) Z Z Z Tryz.isAgg66 (v:=.int .u32 aw) Z) (oR Z (Runs.mulu Z Z Z) (oM Z au (oR Z (Runs.addu Z Z Z) (oR Z (Runs.cvw Z Z Tryz.runUnderlying66 yR Z Z) (oM Z aq (bnK bN fun x50 bz bO=>oR Z (Runs.rem Z Z Z bz) (oA Z Z (eN (zM ?_)))))))))))))))))))
 cases bO
 exact ⟨Z,_,(zi Z),U,_,ao,ag,ah,Z,Z,am⟩
theorem wBZ (p0:wAE) (ae:Nat) (ag:Option Addr) (ah:Nat) (p1:Int) (p2:Int) (w:World) (U:PHeap) (hS:St0 w U [.blk ae 68 [.slice ag p0.bytes.length ah,jV p0.next,.int .u32 p0.state]]) (aZ:Sl U 1 ag ah p0.bytes.length (nA KL.encB8 p0.bytes)) {r:Int × wAE} (hm:wAX p0 p1 p2=some r):Gv Tryz.prog 5 [.pointer (some ⟨ae,0,none⟩),jV p1,jV p2] w (wBW w [.blk ae 68 [.slice ag p0.bytes.length ah,jV p0.next,.int .u32 p0.state]] U (fun U_ L_ v=>∃ (an:Option Addr) (aq:Nat),v=jV r.1/\L_=[.blk ae 68 [.slice an r.2.bytes.length aq,jV r.2.next,.int .u32 r.2.state]]/\Sl U_ 1 an aq r.2.bytes.length (nA KL.encB8 r.2.bytes))):=by
 unfold wAX at hm
 refine Gv.of Tryz.func5 Z Tryz.ntmps5 Tryz.results5 Z (sR fL1 Z (oA Z Z (eN (sR (wLT gAo) Z (oM Z Z (oM Z Z (oM Z Z (oM Z Z (oR Z (Zj Z Z Z) (oR Z (zZ Z Z Z) ?_))))))))))
 have q:=bnd hm
 obtain ⟨⟨x2,x3⟩,h4,au⟩:=q
 try dsimp only at au
 refine zG 1 Z Z Z Z (zF Z Z yL (zA Z (zA Z zK)) Z) hS (fun hs=>wAV p0 ae ag ah (w64 ((w64 (p2 - p1)) + 1)) w U hs aZ h4) (.inl Z) ?_
 rintro U6 L7 v8 W9 bb aX ⟨am,ap,rfl,rfl,aw⟩
 have aY:SW w [.blk ae 68 [.slice ag p0.bytes.length ah,jV p0.next,.int .u32 p0.state]] U U6 [.blk ae 68 [.slice am x3.bytes.length ap,jV x3.next,.int .u32 x3.state]] W9:=aX
 refine oR Z (zZ Z Z Z) (oA Z Z (eN (zM ?_)))
 cases au
 exact ⟨Z,_,(zi Z),U6,_,aY,am,ap,Z,Z,aw⟩
theorem wEV (p0:wAE) (ae:Nat) (ag:Option Addr) (ah:Nat) (p1:Int) (w:World) (U:PHeap) (hS:St0 w U [.blk ae 68 [.slice ag p0.bytes.length ah,jV p0.next,.int .u32 p0.state]]) (aY:Sl U 1 ag ah p0.bytes.length (nA KL.encB8 p0.bytes)) {r:Bool × wAE} (hm:wBV p0 p1=some r):Gv Tryz.prog 18 [.pointer (some ⟨ae,0,none⟩),jV p1] w (wBW w [.blk ae 68 [.slice ag p0.bytes.length ah,jV p0.next,.int .u32 p0.state]] U (fun U_ L_ v=>∃ (am:Option Addr) (ap:Nat),v=.bool r.1/\L_=[.blk ae 68 [.slice am r.2.bytes.length ap,jV r.2.next,.int .u32 r.2.state]]/\Sl U_ 1 am ap r.2.bytes.length (nA KL.encB8 r.2.bytes))):=by
 unfold wBV at hm
 refine Gv.of Tryz.func18 Z Tryz.ntmps18 Tryz.results18 Z (sR fL1 Z (oA Z Z (eN (sR gBa Z (oM Z Z (oM Z Z ?_))))))
 have q:=bnd hm
 obtain ⟨⟨x2,x3⟩,h4,aq⟩:=q
 try dsimp only at aq
 refine zG 1 Z Z Z Z (zF Z Z yL (zA Z (zA Z zK)) Z) hS (fun hs=>wAV p0 ae ag ah p1 w U hs aY h4) (.inl Z) ?_
 rintro U6 L7 v8 W9 ba az ⟨ak,ao,rfl,rfl,av⟩
 have aX:SW w [.blk ae 68 [.slice ag p0.bytes.length ah,jV p0.next,.int .u32 p0.state]] U U6 [.blk ae 68 [.slice ak x3.bytes.length ao,jV x3.next,.int .u32 x3.state]] W9:=az
 refine oR Z (ZR Z Z Z) (oA Z Z (eN (zM ?_)))
 cases aq
 exact ⟨Z,_,(zi Z),U6,_,aX,ak,ao,Z,Z,av⟩
theorem wGs (p0:wAE) (ae:Nat) (cm:Option Addr) (cn:Nat) (p1:Int) (p2:Int) (w:World) (U:PHeap) (hS:St0 w U [.blk ae 68 [.slice cm p0.bytes.length cn,jV p0.next,.int .u32 p0.state]]) (oW:Sl U 1 cm cn p0.bytes.length (nA KL.encB8 p0.bytes)) {r:wAI × wAE} (hm:wCT p0 p1 p2=some r):Gv Tryz.prog 6 [.pointer (some ⟨ae,0,none⟩),jV p1,jV p2] w (wBW w [.blk ae 68 [.slice cm p0.bytes.length cn,jV p0.next,.int .u32 p0.state]] U (fun U_ L_ v=>∃ (fA:Option Addr) (gj:Nat) (fB:Option Addr) (gk:Nat) (fO:Option Addr) (gD:Nat),v=.agg #[jV r.1.Deadline,.slice fA r.1.Skiers.length gj,.slice fB r.1.Decisions.length gk]/\L_=[.row fA gj 37 2 (nA wAD r.1.Skiers),.row fB gk 42 6 (nA wAB r.1.Decisions),.blk ae 68 [.slice fO r.2.bytes.length gD,jV r.2.next,.int .u32 r.2.state]]/\Sl U_ 1 fO gD r.2.bytes.length (nA KL.encB8 r.2.bytes))):=by
 unfold wCT at hm
 refine Gv.of Tryz.func6 Z Tryz.ntmps6 Tryz.results6 Z (sR (.fx 0 .nil .stop) Z ?_)
 let B0:List Value:=[jV 0,.slice none 0 0,.slice none 0 0]
 refine zq (cs:=B0) Z Z Z Z Z Zg Z hS ?_
 intro W2 b3 mV
 refine eN (sR (.fl 0 gAe) Z ?_)
 let B1:List Value:=[jV 30,.slice none 0 0,.slice none 0 0]
 refine oR Z (Zi (pv:=[(0,jV 30)]) (z:=B0) (cs:=B1) Z (wAK Z wAb) Zg wIJ Z Z) (zq (cs:=B0) Z Z Z Z Z Zg Z mV ?_)
 intro W6 b7 oO
 refine zo (j:=0) (vs:=B1) Z Z Z Z oO Z Z Z Z zm (zB Z) Z Z Z ?_
 intro dU mb
 let B2:Res:=.blk ae 68 [.slice cm p0.bytes.length cn,jV p0.next,.int .u32 p0.state]
 have mh:SW w [B2] U U [.blk b7 33 B1,.blk b3 33 B0,B2] dU:=mb
 refine eN (zH (sR gAw Z (oM Z Z (oM Z Z ?_))))
 have q:=bnd hm
 obtain ⟨⟨de,eZ⟩,ly,ij⟩:=q
 try dsimp only at ij
 have my:SW w [B2] U U [B2,.blk b7 33 B1,.blk b3 33 B0] dU:=mh.pick [2,0,1] _ (by decide) rfl
 refine zG 1 Z Z Z Z (zF Z Z Tryz.call5 (zA Z (zA Z (zA Z zK))) Z) my (fun hs=>wBZ p0 ae cm cn 1 p1 dU U hs oW ly) (.inl Z) ?_
 rintro dN pZ qz jp qv mG ⟨fE,gq,rfl,rfl,lD⟩
 have mH:SW w [B2] U dN [.blk ae 68 [.slice fE eZ.bytes.length gq,jV eZ.next,.int .u32 eZ.state],.blk b7 33 B1,.blk b3 33 B0] jp:=mG
 refine oM Z Z (eN (zV ?_))
 have q:=bnd ij
 obtain ⟨⟨pT,pU,pV,aw⟩,o3,iL⟩:=q
 try dsimp only at iL
 have q:=wBr o3
 obtain ⟨eW,o5⟩:=q
 replace eW:=zI eW
 refine CK.forN' (fun aX (cj,x59,x60,bk) σ_ w_=>∃ (U_:PHeap) (cw:Option Addr) (cM:Nat) (bz:Option Addr) (bF:Nat),σ_ 16=jV (↑aX:Int)/\σ_ 0=.pointer (some ⟨ae,0,none⟩)/\σ_ 2=jV p2/\σ_ 6=.pointer (some ⟨b3,0,none⟩)/\σ_ 7=.pointer (some ⟨b7,0,none⟩)/\σ_ 15=jV de/\PHeap.Le dN U_/\SW w [B2] U U_ [.blk ae 68 [.slice cw cj.length cM,jV x59,.int .u32 x60],.row bz bF 37 2 (nA wAD bk),.blk b7 33 [jV 30,.slice bz bk.length bF,.slice none 0 0],.blk b3 33 B0] w_/\Sl U_ 1 cw cM cj.length (nA KL.encB8 cj)) o5 ?_ ?_ ?_
 have oI:=mH.nilrow 37 2
 exact ⟨dN,fE,gq,none,0,rfl,rfl,rfl,rfl,rfl,rfl,(zU _),(oI.pick [1,0,2,3] _ (by decide) rfl),lD⟩
 rintro aX ⟨cj,x59,x60,bk⟩ qN qW jP eU ⟨jd,cw,cM,bz,bF,cS,cQ,gR,gS,bS,eI,iY,oP,l6⟩ iT
 try dsimp only at iT
 have gC:Hid ((↑aX:Int) < de):=zI (wBq eU)
 replace eU:=zI eU
 have ig:Hid (w64 ((↑aX:Int) + 1)=(↑(aX + 1):Int)):=zI (by have h1:=eW.out;have h2:=gC.out;rw [wAT] <;> omega)
 refine sR fL1 Z (oR Z (ze Z cS eI) (eN (zH (cT Z gC (kN (zH (zV (sR fL2 Z (oM Z cS (oA Z Z (eN (sR (wET (.fx 4 (fC5_7 (.fx 8 (.fx 9 .nil .stop) .stop)) .stop)) Z (oM Z Z (oR Z (yW Z Z Z) (oR Z (zZ Z Z Z) (oM Z cQ ?_))))))))))))))))
 have q:=bnd iT
 obtain ⟨⟨x94,x95⟩,l7,iM⟩:=q
 try dsimp only at iM
 refine zG 1 Z Z Z Z (zF Z Z yL (zA Z (zA Z zK)) Z) oP (fun hs=>wAV (⟨cj,x59,x60⟩:wAE) ae cw cM 20 jP jd hs l6 l7) (.inl Z) ?_
 rintro cE qh qx je iU l9 ⟨fC,gm,rfl,rfl,lu⟩
 let B3:Res:=.blk b7 33 [jV 30,.slice bz bk.length bF,.slice none 0 0]
 let B4:Res:=.row bz bF 37 2 (nA wAD bk)
 let B5:Res:=.blk ae 68 [.slice fC x95.bytes.length gm,jV x95.next,.int .u32 x95.state]
 have ma:SW w [B2] U cE [B5,B4,B3,.blk b3 33 B0] je:=l9
 refine oR Z (yW Z Z Z) (oR Z (zZ Z Z Z) ?_)
 let B6:List Value:=[jV (w64 ((w64 (3 * (↑aX:Int))) + 1)),jV (w64 (15000 + (w64 (50 * x94))))]
 let B7:List Value:=[jV 0,jV 0]
 refine oR Z (Zi (pv:=[(0,jV (w64 ((w64 (3 * (↑aX:Int))) + 1))),(1,jV (w64 (15000 + (w64 (50 * x94)))))]) (z:=B7) (cs:=B6) Z (wAK Z (wAK Z wAb)) yE wMm Z Z) (zq (cs:=B7) Z Z Z Z Z yE Z ma ?_)
 intro qi be md
 refine zo (j:=0) (vs:=B6) Z Z Z Z md Z Z Z Z Za (zB Z) Z Z Z ?_
 intro dV me
 have mf:SW w [B2] U cE [.blk be 37 B6,B5,B4,B3,.blk b3 33 B0] dV:=me
 refine eN (zH (sR gAf Z (oM Z cQ ?_)))
 have q:=bnd iM
 obtain ⟨⟨x115,x116⟩,lv,ii⟩:=q
 try dsimp only at ii
 have mg:SW w [B2] U cE [B5,.blk be 37 B6,B4,B3,.blk b3 33 B0] dV:=mf.pick [1,0,2,3,4] _ (by decide) rfl
 refine zG 1 Z Z Z Z (zF Z Z Tryz.call18 (zA Z (zA Z zK)) Z) mg (fun hs=>wEV x95 ae fC gm 12 dV cE hs lu lv) (.inl Z) ?_
 rintro bb pY qy jf iV mi ⟨dA,dY,rfl,rfl,gT⟩
 let B8:Res:=.blk ae 68 [.slice dA x116.bytes.length dY,jV x116.next,.int .u32 x116.state]
 have cV:SW w [B2] U bb [B8,.blk be 37 B6,B4,B3,.blk b3 33 B0] jf:=mi
 refine eN (ifc ii ?_ ?_)
 intro dZ o8
 refine zu (congrArg nB dZ.out) (rR gAf Z (oR Z (zD Z Z Zk Z zC) (zo (j:=1) (vs:=[jV (-1)]) Z Z Z Z cV Z Z Z Z zC (zB Z) Z Z Z ?_)))
 intro jg mj
 let B9:List Value:=[jV (w64 ((w64 (3 * (↑aX:Int))) + 1)),jV (-1)]
 have eM:SW w [B2] U bb [B8,.blk be 37 B9,B4,B3,.blk b3 33 B0] jg:=mj
 refine eN (rR (wDq gAx) Z (oR Z (zD Z bS zd Z ZY) (oL Z (eM.ldB (j:=3) Z Z Z Zu (v:=.slice bz bk.length bF) Z) (oL Z (eM.ldBA (j:=1) Z Z Z yT Za (vs:=B9) Z Z) (ZM (pv:=[(0,.agg B9.toArray)]) (zs:=B7) (cs:=B9) Z Z Z Z Z (wAK Z wAb) ZJ Za yE Z Z Z Z Z eM ?_)))))
 intro jh jQ mo
 let dE:Res:=.row (some ⟨jQ,0,none⟩) 1 37 2 (nA wAD [(⟨w64 ((w64 (3 * (↑aX:Int))) + 1),-1⟩:wAH)])
 have g6:SW w [B2] U bb [dE,B8,.blk be 37 B9,B4,B3,.blk b3 33 B0] jh:=mo
 refine bnK o8 fun df lx o9=>Zv (j:=3) (enc:=wAD) (xs:=bk) (ys:=[(⟨w64 ((w64 (3 * (↑aX:Int))) + 1),-1⟩:wAH)]) (zs:=df) rfl rfl rfl rfl rfl Tryz.underlying30 wKz rfl rfl rfl rfl rfl rfl g6 rfl rfl rfl (g6.srcR (j:=0) rfl (by decide) (wAF (f:=wAD) (sz:=2) (fun _=>rfl) [(⟨w64 ((w64 (3 * (↑aX:Int))) + 1),-1⟩:wAH)])) (fun _=>rfl) (fun _=>rfl) lx rfl ?_
 intro cp cG ji mp
 let fP:Res:=.row cp cG 37 2 (nA wAD df)
 have mq:SW w [B2] U bb [dE,B8,.blk be 37 B9,fP,B3,.blk b3 33 B0] ji:=mp
 refine oR Z (zD Z bS zd Z ZY) (zo (j:=4) (vs:=[.slice cp df.length cG]) Z Z Z Z mq Z Z Z Z ZY (zB Z) Z Z Z ?_)
 intro jj mr
 have ms:SW w [B2] U bb [dE,B8,.blk be 37 B9,fP,.blk b7 33 [jV 30,.slice cp df.length cG,.slice none 0 0],.blk b3 33 B0] jj:=mr
 refine zk (zh (zJ (rR fL2 Z (oR Z (zw (zZ Z cS Z) (congrArg (jV) ig.out)) (oM Z Z (zk ?_))))))
 cases o9
 exact zJ ⟨rfl,⟨bb,dA,dY,cp,cG,rfl,cQ,gR,gS,bS,eI,((iY.trans iU).trans iV),(ms.pick [1,3,4,5] _ (by decide) rfl),gT⟩⟩
 intro dZ pb
 refine zn (congrArg nB (nD.2 dZ.out)) (kN (rR (wDq gAx) Z (oR Z (zD Z bS zd Z ZY) (oL Z (cV.ldB (j:=3) Z Z Z Zu (v:=.slice bz bk.length bF) Z) (oL Z (cV.ldBA (j:=1) Z Z Z yT Za (vs:=B6) Z Z) (ZM (pv:=[(0,.agg B6.toArray)]) (zs:=B7) (cs:=B6) Z Z Z Z Z (wAK Z wAb) ZJ Za yE Z Z Z Z Z cV ?_))))))
 intro jk jR mw
 let dF:Res:=.row (some ⟨jR,0,none⟩) 1 37 2 (nA wAD [(⟨w64 ((w64 (3 * (↑aX:Int))) + 1),w64 (15000 + (w64 (50 * x94)))⟩:wAH)])
 have g7:SW w [B2] U bb [dF,B8,.blk be 37 B6,B4,B3,.blk b3 33 B0] jk:=mw
 refine bnK pb fun dg lz pd=>Zv (j:=3) (enc:=wAD) (xs:=bk) (ys:=[(⟨w64 ((w64 (3 * (↑aX:Int))) + 1),w64 (15000 + (w64 (50 * x94)))⟩:wAH)]) (zs:=dg) rfl rfl rfl rfl rfl Tryz.underlying30 wKz rfl rfl rfl rfl rfl rfl g7 rfl rfl rfl (g7.srcR (j:=0) rfl (by decide) (wAF (f:=wAD) (sz:=2) (fun _=>rfl) [(⟨w64 ((w64 (3 * (↑aX:Int))) + 1),w64 (15000 + (w64 (50 * x94)))⟩:wAH)])) (fun _=>rfl) (fun _=>rfl) lz rfl ?_
 intro cq cH jl mz
 let fQ:Res:=.row cq cH 37 2 (nA wAD dg)
 have mA:SW w [B2] U bb [dF,B8,.blk be 37 B6,fQ,B3,.blk b3 33 B0] jl:=mz
 refine oR Z (zD Z bS zd Z ZY) (zo (j:=4) (vs:=[.slice cq dg.length cH]) Z Z Z Z mA Z Z Z Z ZY (zB Z) Z Z Z ?_)
 intro jm mB
 have mC:SW w [B2] U bb [dF,B8,.blk be 37 B6,fQ,.blk b7 33 [jV 30,.slice cq dg.length cH,.slice none 0 0],.blk b3 33 B0] jm:=mB
 refine zk (zh (zJ (rR fL2 Z (oR Z (zw (zZ Z cS Z) (congrArg (jV) ig.out)) (oM Z Z (zk ?_))))))
 cases pd
 exact zJ ⟨rfl,⟨bb,dA,dY,cq,cH,rfl,cQ,gR,gS,bS,eI,((iY.trans iU).trans iV),(mC.pick [1,3,4,5] _ (by decide) rfl),gT⟩⟩
 rintro qP jo ⟨jb,ja,jU,bg,bi,lq,gE,jY,jZ,j3,j4,qt,mD,lA⟩
 have jW:Hid (¬ ((↑((de:Int) - 0).toNat:Int) < de)):=zI (wBH)
 refine sR fL1 Z (oR Z (ze Z lq j4) (eN (zH (cF Z jW (ZD (zb (zb (zz (zJ (sR fL1 Z (oA Z Z (eN (zH (sR (wDq gAg) Z (oM Z gE (oM Z jY (oR Z (zZ Z Z Z) ?_)))))))))))))))))
 have q:=bnd iL
 obtain ⟨⟨bw,fb⟩,lB,il⟩:=q
 try dsimp only at il
 refine zG 1 Z Z Z Z (zF Z Z yL (zA Z (zA Z zK)) Z) mD (fun hs=>wAV (⟨pT,pU,pV⟩:wAE) ae ja jU (w64 (p2 + 1)) jo jb hs lA lB) (.inl Z) ?_
 rintro dO p6 qA jq qu mE ⟨fD,gp,rfl,rfl,lC⟩
 let ai:Res:=.row bg bi 37 2 (nA wAD aw)
 have mF:SW w [B2] U dO [.blk ae 68 [.slice fD fb.bytes.length gp,jV fb.next,.int .u32 fb.state],ai,.blk b7 33 [jV 30,.slice bg aw.length bi,.slice none 0 0],.blk b3 33 B0] jq:=mE
 refine oM Z Z (eN (zV ?_))
 have q:=bnd il
 obtain ⟨⟨pQ,pR,pS,i9,qO⟩,oX,im⟩:=q
 try dsimp only at im
 have q:=wBr oX
 obtain ⟨eV,oY⟩:=q
 replace eV:=zI eV
 refine CK.forN' (fun bj (cd,fc,fd,bH,am) σ_ w_=>∃ (U_:PHeap) (cr:Option Addr) (cJ:Nat) (bI:Option Addr) (bN:Nat),σ_ 41=jV (↑bj:Int)/\σ_ 0=.pointer (some ⟨ae,0,none⟩)/\σ_ 6=.pointer (some ⟨b3,0,none⟩)/\σ_ 7=.pointer (some ⟨b7,0,none⟩)/\σ_ 10=jV am/\σ_ 40=jV bw/\PHeap.Le dO U_/\SW w [B2] U U_ [.blk ae 68 [.slice cr cd.length cJ,jV fc,.int .u32 fd],ai,.row bI bN 42 6 (nA wAB bH),.blk b7 33 [jV 30,.slice bg aw.length bi,.slice bI bH.length bN],.blk b3 33 B0] w_/\Sl U_ 1 cr cJ cd.length (nA KL.encB8 cd)) oY ?_ ?_ ?_
 have mI:=mF.nilrow 42 6
 exact ⟨dO,fD,gp,none,0,rfl,gE,jZ,j3,rfl,rfl,(zU _),(mI.pick [1,2,0,3,4] _ (by decide) rfl),lC⟩
 rintro bj ⟨cd,fc,fd,bH,am⟩ qM qQ jr eT ⟨jc,cr,cJ,bI,bN,cR,bG,eB,eC,j5,cP,pF,mJ,lE⟩ iN
 try dsimp only at iN
 have gt:Hid ((↑bj:Int) < bw):=zI (wBq eT)
 replace eT:=zI eT
 have o7:Hid (w64 ((↑bj:Int) + 1)=(↑(bj + 1):Int)):=zI (by have h1:=eV.out;have h2:=gt.out;rw [wAT] <;> omega)
 refine sR fL1 Z (oR Z (ze Z cR cP) (eN (zH (cT Z gt (kN (zH (zV (sR gBa Z (oM Z j5 (oM Z bG ?_))))))))))
 have q:=bnd iN
 obtain ⟨⟨an,dh⟩,lF,io⟩:=q
 try dsimp only at io
 refine zG 1 Z Z Z Z (zF Z Z Tryz.call5 (zA Z (zA Z (zA Z zK))) Z) mJ (fun hs=>wBZ (⟨cd,fc,fd⟩:wAE) ae cr cJ 1 2 jr jc hs lE lF) (.inl Z) ?_
 rintro f5 p7 qB gc pG mK ⟨fG,gu,rfl,rfl,lG⟩
 let aj:Res:=.blk b7 33 [jV 30,.slice bg aw.length bi,.slice bI bH.length bN]
 let ak:Res:=.row bI bN 42 6 (nA wAB bH)
 have mL:SW w [B2] U f5 [.blk ae 68 [.slice fG dh.bytes.length gu,jV dh.next,.int .u32 dh.state],ai,ak,aj,.blk b3 33 B0] gc:=mK
 refine oR Z (zZ Z Z Z) (oA Z Z (eN (sR (.fl 0 (.fl 1 (.fx 2 (.fl 3 (.fx 4 (.fl 5 (.fx 6 (.fx 7 .nil .stop) .stop)) .stop)) .stop))) Z (oM Z Z (oM Z bG ?_)))))
 have q:=bnd io
 obtain ⟨⟨ff,dm⟩,lH,ip⟩:=q
 try dsimp only at ip
 refine zG 1 Z Z Z Z (zF Z Z yL (zA Z (zA Z zK)) Z) mL (fun hs=>wAV dh ae fG gu 10 gc f5 hs lG lH) (.inl Z) ?_
 rintro f7 p8 qC ge pH mM ⟨fH,gv,rfl,rfl,lI⟩
 have mN:SW w [B2] U f7 [.blk ae 68 [.slice fH dm.bytes.length gv,jV dm.next,.int .u32 dm.state],ai,ak,aj,.blk b3 33 B0] ge:=mM
 refine oM Z bG ?_
 have q:=bnd ip
 obtain ⟨⟨av,dp⟩,lJ,iq⟩:=q
 try dsimp only at iq
 refine zG 1 Z Z Z Z (zF Z Z yL (zA Z (zA Z zK)) Z) mN (fun hs=>wAV dm ae fH gv 36 ge f7 hs lI lJ) (.inl Z) ?_
 rintro bD p9 qD jt pI mO ⟨ct,cK,rfl,rfl,eJ⟩
 let dG:Res:=.blk ae 68 [.slice ct dp.bytes.length cK,jV dp.next,.int .u32 dp.state]
 have mP:SW w [B2] U bD [dG,ai,ak,aj,.blk b3 33 B0] jt:=mO
 let bK:List Value:=[jV (w64 (am + an)),jV ff,jV av,jV 0,jV 0,jV 0]
 let dH:List Value:=[jV 0,jV 0,jV 0,jV 0,jV 0,jV 0]
 refine oR Z (Zi (pv:=[(0,jV (w64 (am + an))),(1,jV ff),(2,jV av)]) (z:=dH) (cs:=bK) Z (wAK Z (wAK Z (wAK Z wAb))) Zh wJy Z Z) (zq (cs:=dH) Z Z Z Z Z Zh Z mP ?_)
 intro qk ao mQ
 refine zo (j:=0) (vs:=bK) Z Z Z Z mQ Z Z Z Z zg (zB Z) Z Z Z ?_
 intro dW mR
 have cW:SW w [B2] U bD [.blk ao 42 bK,dG,ai,ak,aj,.blk b3 33 B0] dW:=mR
 refine eN (zH ?_)
 have q:=bnd iq
 obtain ⟨⟨cg,fg,fh,gi⟩,iO,ir⟩:=q
 try dsimp only at ir
 refine CK.cut (fun σ_ w_=>∃ (U_:PHeap) (bJ:Option Addr) (bO:Nat),σ_ 0=.pointer (some ⟨ae,0,none⟩)/\σ_ 6=.pointer (some ⟨b3,0,none⟩)/\σ_ 7=.pointer (some ⟨b7,0,none⟩)/\σ_ 10=jV (w64 (am + an))/\σ_ 11=.pointer (some ⟨ao,0,none⟩)/\σ_ 40=jV bw/\σ_ 41=jV (↑bj:Int)/\σ_ 63=.bool gi/\PHeap.Le bD U_/\SW w [B2] U U_ [.blk ae 68 [.slice bJ cg.length bO,jV fg,.int .u32 fh],.blk ao 42 bK,ai,ak,aj,.blk b3 33 B0] w_/\Sl U_ 1 bJ bO cg.length (nA KL.encB8 cg)) ?_ ?_
 refine rR (wQt (.fx 9 (.fl 10 .nil) .stop)) Z (oM Z Z (oR Z (Zz Z Z Z) (oM Z Z ?_)))
 by_cases az:1 < (w64 (am + an))
 have it:=iO;rw [if_pos az] at it;replace az:=zI az
 refine rU Z (wT Z az) (zD Z Z zP Z ZE) (zr Z Z Z (wT Z az) (cW.ldB (j:=0) Z Z Z ZS (v:=jV ff) Z) Z (rU Z (wT Z az) (ze Z Z Z) (oR Z (zj Z (ZU az.out) Z) (oM Z Z (ifc it ?_ ?_)))))
 intro bE pg
 refine zQ Z Z Z (wT Z bE) Z bG ?_
 have q:=bnd pg
 obtain ⟨⟨qL,fj⟩,lK,iu⟩:=q
 try dsimp only at iu
 have mS:SW w [B2] U bD [dG,.blk ao 42 bK,ai,ak,aj,.blk b3 33 B0] dW:=cW.pick [1,0,2,3,4,5] _ (by decide) rfl
 refine zG 1 Z Z Z (wT Z bE) (zF Z Z Tryz.call18 (zA Z (zA Z zK)) Z) mS (fun hs=>wEV dp ae ct cK 3 dW bD hs eJ lK) (.inl Z) ?_
 rintro f9 qa qE ju pJ mT ⟨fJ,gw,rfl,rfl,lL⟩
 have mU:SW w [B2] U f9 [.blk ae 68 [.slice fJ fj.bytes.length gw,jV fj.next,.int .u32 fj.state],.blk ao 42 bK,ai,ak,aj,.blk b3 33 B0] ju:=mT
 refine oR Z (zj Z (ZU bE.out) Z) (zk ?_)
 cases iu
 exact zJ ⟨Z,⟨f9,fJ,gw,bG,eB,eC,Z,Z,cP,cR,Z,pJ,mU,lL⟩⟩
 intro bE ph
 refine oF Z bE (ZO Z Z Z (zW Z Z (ZI bE.out) Z) (oR Z (zR Z (ZI bE.out) Z) (zk ?_)))
 cases ph
 exact zJ ⟨rfl,⟨bD,ct,cK,bG,eB,eC,rfl,rfl,cP,cR,rfl,(zU _),(cW.pick [1,0,2,3,4,5] _ (by decide) rfl),eJ⟩⟩
 have iv:=iO;rw [if_neg az] at iv;replace az:=zI az
 refine oF Z az (oF Z az (oF Z az (oR Z (zR Z (ZI az.out) Z) (oM Z Z (oN Z (ZO Z Z Z (zW Z Z Z Z) (oR Z (zR Z Z Z) (zk ?_))))))))
 cases iv
 exact zJ ⟨rfl,⟨bD,ct,cK,bG,eB,eC,rfl,rfl,cP,cR,rfl,(zU _),(cW.pick [1,0,2,3,4,5] _ (by decide) rfl),eJ⟩⟩
 rintro qR ql ⟨cB,bJ,bO,gF,gG,gH,gI,eD,gJ,gK,gL,pK,g8,gU⟩
 refine bnK ir fun pP iP pj=>?_
 let fR:Res:=.blk ao 42 [jV (w64 (am + an)),jV pP,jV av,jV 0,jV 0,jV 0]
 let fS:Res:=.blk ae 68 [.slice bJ cg.length bO,jV fg,.int .u32 fh]
 refine CK.cutT (fun σ_ w_=>∃ (U_:PHeap),σ_ 0=.pointer (some ⟨ae,0,none⟩)/\σ_ 6=.pointer (some ⟨b3,0,none⟩)/\σ_ 7=.pointer (some ⟨b7,0,none⟩)/\σ_ 10=jV (w64 (am + an))/\σ_ 11=.pointer (some ⟨ao,0,none⟩)/\σ_ 40=jV bw/\σ_ 41=jV (↑bj:Int)/\PHeap.Le cB U_/\SW w [B2] U U_ [fS,fR,ai,ak,aj,.blk b3 33 B0] w_) ?_ ?_
 by_cases bp:gi=true
 have iw:=iP;rw [if_pos bp] at iw;replace bp:=zI bp
 refine zu (gL.trans (congrArg nB bp.out)) (rR gAf Z (oR Z (zD Z eD zP Z ZE) (zo (j:=1) (vs:=[jV 7]) Z Z Z Z g8 Z Z Z Z ZE (zB Z) Z Z Z ?_)))
 intro jv mW
 have mX:SW w [B2] U cB [fS,.blk ao 42 [jV (w64 (am + an)),jV 7,jV av,jV 0,jV 0,jV 0],ai,ak,aj,.blk b3 33 B0] jv:=mW
 refine zk ?_
 cases iw
 exact zJ ⟨Z,⟨cB,gF,gG,gH,gI,eD,gJ,gK,(zU _),mX⟩⟩
 have iy:=iP;rw [if_neg bp] at iy;replace bp:=zI bp
 refine zn (gL.trans (congrArg nB (nD.2 bp.out))) (Zd ?_)
 cases iy
 exact zJ ⟨Z,⟨cB,gF,gG,gH,gI,eD,gJ,gK,(zU _),g8⟩⟩
 rintro qS jw ⟨dP,eE,gM,gN,eF,eG,gO,gP,eX,g9⟩
 refine zH (sR fL2 Z (oM Z eF (oR Z (ZR Z Z Z) (eN ?_))))
 have q:=bnd pj
 obtain ⟨⟨ci,fk,fm,au⟩,iQ,iz⟩:=q
 try dsimp only at iz
 let cy:Res:=.blk ao 42 [jV (w64 (am + an)),jV au,jV av,jV 0,jV 0,jV 0]
 refine CK.cutT (fun σ_ w_=>∃ (U_:PHeap) (bT:Option Addr) (bX:Nat),σ_ 0=.pointer (some ⟨ae,0,none⟩)/\σ_ 6=.pointer (some ⟨b3,0,none⟩)/\σ_ 7=.pointer (some ⟨b7,0,none⟩)/\σ_ 10=jV (w64 (am + an))/\σ_ 11=.pointer (some ⟨ao,0,none⟩)/\σ_ 40=jV bw/\σ_ 41=jV (↑bj:Int)/\PHeap.Le dP U_/\SW w [B2] U U_ [.blk ae 68 [.slice bT ci.length bX,jV fk,.int .u32 fm],cy,ai,ak,aj,.blk b3 33 B0] w_/\Sl U_ 1 bT bX ci.length (nA KL.encB8 ci)) ?_ ?_
 by_cases bq:(w64 (am + an))=1
 have iA:=iQ;rw [if_pos bq] at iA;replace bq:=zI bq
 refine cT Z bq (rR gAy Z (oM Z eE ?_))
 have lM:=gU.le eX
 have q:=bnd iA
 obtain ⟨⟨iZ,ft⟩,lN,iB⟩:=q
 try dsimp only at iB
 refine zG 1 Z Z Z Z (zF Z Z yL (zA Z (zA Z zK)) Z) g9 (fun hs=>wAV (⟨cg,fg,fh⟩:wAE) ae bJ bO 5 jw dP hs lM lN) (.inl Z) ?_
 rintro dQ qb qF jx pL mY ⟨fK,gy,rfl,rfl,lO⟩
 let fT:Res:=.blk ae 68 [.slice fK ft.bytes.length gy,jV ft.next,.int .u32 ft.state]
 have mZ:SW w [B2] U dQ [fT,fR,ai,ak,aj,.blk b3 33 B0] jx:=mY
 refine oR Z (zD Z eG zP Z ZE) (zo (j:=1) (vs:=[jV iZ]) Z Z Z Z mZ Z Z Z Z ZE (zB Z) Z Z Z ?_)
 intro jy m4
 have m5:SW w [B2] U dQ [fT,.blk ao 42 [jV (w64 (am + an)),jV iZ,jV av,jV 0,jV 0,jV 0],ai,ak,aj,.blk b3 33 B0] jy:=m4
 refine zk ?_
 cases iB
 exact zJ ⟨Z,⟨dQ,fK,gy,eE,gM,gN,eF,eG,gO,gP,pL,m5,lO⟩⟩
 have iC:=iQ;rw [if_neg bq] at iC;replace bq:=zI bq
 refine cF Z bq (Zd ?_)
 cases iC
 have lP:=gU.le eX
 exact zJ ⟨Z,⟨dP,bJ,bO,eE,gM,gN,eF,eG,gO,gP,(zU _),g9,lP⟩⟩
 rintro qT dX ⟨dR,bT,bX,ba,bP,bs,bu,aq,bQ,bR,pM,eO,gW⟩
 refine zH (sR fL3 Z (oR Z (zD Z aq zP Z ZE) (oL Z (eO.ldB (j:=1) Z Z Z ZS (v:=jV au) Z) (oR Z (yP Z Z Z) (eN ?_)))))
 have q:=bnd iz
 obtain ⟨⟨cY,i4,i5,dr,dt,du⟩,iR,iD⟩:=q
 try dsimp only at iD
 let bA:List Value:=[jV (w64 (am + an)),jV au,jV av,jV dr,jV dt,jV du]
 refine CK.cutT (fun σ_ w_=>∃ (U_:PHeap) (bU:Option Addr) (bY:Nat),σ_ 0=.pointer (some ⟨ae,0,none⟩)/\σ_ 6=.pointer (some ⟨b3,0,none⟩)/\σ_ 7=.pointer (some ⟨b7,0,none⟩)/\σ_ 10=jV (w64 (am + an))/\σ_ 11=.pointer (some ⟨ao,0,none⟩)/\σ_ 40=jV bw/\σ_ 41=jV (↑bj:Int)/\PHeap.Le dR U_/\SW w [B2] U U_ [.blk ae 68 [.slice bU cY.length bY,jV i4,.int .u32 i5],.blk ao 42 bA,ai,ak,aj,.blk b3 33 B0] w_/\Sl U_ 1 bU bY cY.length (nA KL.encB8 cY)) ?_ ?_
 by_cases br:au <= 4
 have iE:=iR;rw [if_pos br] at iE;replace br:=zI br
 refine cT Z br (zH (ZT ZH [3,1004,3,3,1,3,1005,3,3,1,3,0,ae] (wLT (.fx 6 (wPn (.fx 11 .nil .stop)) .stop)) (by kernel_rfl) ?_))
 have cX:=eO.drew
 generalize hw_W523:({ dX with drawn:=dX.drawn + 1 }:World)=jz at cX ⊢
 refine za rfl rfl rfl rfl (fun _=>zD rfl bs zd rfl ZY) (OKS.mt (T:=[ae]) [0] [1,2,3,4,5] [cy,ai,ak,aj,.blk b3 33 B0] rfl rfl rfl rfl cX rfl ⟨⟨0,by decide,_,rfl,rfl⟩,trivial⟩ (by decide) rfl (by decide) (fun _ oU=>(oU.ldB (j:=3) rfl rfl rfl Zu (v:=.slice bg aw.length bi) rfl)) rfl (zQ rfl rfl rfl rfl rfl ba (za rfl rfl rfl rfl (fun _=>zD rfl bs zd rfl ZY) (zr rfl rfl rfl rfl (cX.ldB (j:=4) rfl rfl rfl Zu (v:=.slice bg aw.length bi) rfl) rfl (za rfl rfl rfl rfl (fun _=>zy rfl rfl ZJ) ?_)))))
 have q:=bnd iE
 obtain ⟨⟨dv,dw⟩,lQ,iF⟩:=q
 try dsimp only at iF
 refine OKS.callHT 1 rfl rfl rfl rfl (zF rfl rfl yL (zA rfl (zA rfl zK)) rfl) cX (fun hs=>wAV (⟨ci,fk,fm⟩:wAE) ae bT bX (↑aw.length:Int) jz dR hs gW lQ) rfl (T:=[ae]) rfl ⟨fun b h=>(by cases h;exact .head _),trivial⟩ ?_
 rintro dS qc qG jA cZ m6 ⟨fL,gz,rfl,rfl,lR⟩
 let fU:Res:=.blk ae 68 [.slice fL dw.bytes.length gz,jV dw.next,.int .u32 dw.state]
 have eP:SW w [B2] U dS [fU,cy,ai,ak,aj,.blk b3 33 B0] jA:=m6
 refine bnK iF fun _ cU pk=>?_
 have q:=eP.rowSome (j:=2) rfl (by rw [wAF (f:=wAD) (sz:=2) (fun _=>rfl) aw];have hz:=wAR cU;omega)
 obtain ⟨qp,gZ⟩:=q
 refine oR Z (ZQ Z Z gZ Z ZJ Za (wBk cU) (wBl cU)) (oR Z (zD Z Z Zk Z zC) ?_)
 have o6:=wBt (xs:=aw) (wAR cU)
 refine zr rfl rfl rfl rfl (eP.ldR (j:=2) rfl gZ rfl rfl zO (wAs (sz:=2) (fun _=>rfl) _ _ 0 _ o6 (by first | omega | rfl | simp) rfl)) rfl (za rfl rfl rfl rfl (fun _=>zD rfl aq zP rfl zC) (zo (j:=1) (vs:=[jV ((gd aw dv.toNat).Bib)]) rfl rfl rfl rfl eP rfl rfl rfl rfl zC (zB rfl) rfl rfl rfl ?_))
 intro gf m7
 let cz:Res:=.blk ao 42 [jV (w64 (am + an)),jV au,jV av,jV ((gd aw dv.toNat).Bib),jV 0,jV 0]
 have m8:SW w [B2] U dS [fU,cz,ai,ak,aj,.blk b3 33 B0] gf:=m7
 refine eN (zH (sR gBb Z (oM Z ba ?_)))
 have q:=bnd pk
 obtain ⟨⟨i6,dx⟩,lS,iG⟩:=q
 try dsimp only at iG
 refine zG 1 Z Z Z Z (zF Z Z yL (zA Z (zA Z zK)) Z) m8 (fun hs=>wAV dw ae fL gz 8 gf dS hs lR lS) (.inl Z) ?_
 rintro bM qd qH jB da m9 ⟨cu,cL,rfl,rfl,eK⟩
 let dI:Res:=.blk ae 68 [.slice cu dx.bytes.length cL,jV dx.next,.int .u32 dx.state]
 have n5:SW w [B2] U bM [dI,cz,ai,ak,aj,.blk b3 33 B0] jB:=m9
 refine oR Z (yW Z Z Z) (oR Z (zD Z aq zP Z zC) (zo (j:=1) (vs:=[jV (w64 (50 * i6))]) Z Z Z Z n5 Z Z Z Z zC (zB Z) Z Z Z ?_))
 intro gg n7
 let fV:Res:=.blk ao 42 [jV (w64 (am + an)),jV au,jV av,jV ((gd aw dv.toNat).Bib),jV (w64 (50 * i6)),jV 0]
 have bZ:SW w [B2] U bM [dI,fV,ai,ak,aj,.blk b3 33 B0] gg:=n7
 refine eN (sR fL3 Z (oR Z (zD Z aq zP Z ZE) (oL Z (bZ.ldB (j:=1) Z Z Z ZS (v:=jV au) Z) (oR Z (ZR Z Z Z) (eN (ifc iG ?_ ?_))))))
 intro eh pn
 refine cT Z eh (rR gAy Z (oM Z ba ?_))
 have q:=bnd pn
 obtain ⟨⟨i7,fw⟩,lT,iH⟩:=q
 try dsimp only at iH
 refine zG 1 Z Z Z Z (zF Z Z yL (zA Z (zA Z zK)) Z) bZ (fun hs=>wAV dx ae cu cL 3 gg bM hs eK lT) (.inl Z) ?_
 rintro bW qe qI jC iW n8 ⟨dB,ep,rfl,rfl,gX⟩
 let dJ:Res:=.blk ae 68 [.slice dB fw.bytes.length ep,jV fw.next,.int .u32 fw.state]
 have n9:SW w [B2] U bW [dJ,fV,ai,ak,aj,.blk b3 33 B0] jC:=n8
 refine oR Z (zD Z aq zP Z zC) (zo (j:=1) (vs:=[jV i7]) Z Z Z Z n9 Z Z Z Z zC (zB Z) Z Z Z ?_)
 intro jD oa
 have eQ:SW w [B2] U bW [dJ,.blk ao 42 [jV (w64 (am + an)),jV au,jV av,jV ((gd aw dv.toNat).Bib),jV i7,jV 0],ai,ak,aj,.blk b3 33 B0] jD:=oa
 refine eN (sR fL3 Z (oR Z (zD Z aq zP Z ZE) (oL Z (eQ.ldB (j:=1) Z Z Z ZS (v:=jV au) Z) (oR Z (ZR Z Z Z) (eN (ifc iH ?_ ?_))))))
 intro er po
 refine cT Z er (rR gAf Z (oR Z (zD Z aq zP Z zC) (zo (j:=1) (vs:=[jV 0]) Z Z Z Z eQ Z Z Z Z zC (zB Z) Z Z Z ?_)))
 intro jE oc
 have od:SW w [B2] U bW [dJ,cz,ai,ak,aj,.blk b3 33 B0] jE:=oc
 refine zk ?_
 cases po
 exact zJ ⟨Z,⟨bW,dB,ep,ba,bP,bs,bu,aq,bQ,bR,((cZ.trans da).trans iW),od,gX⟩⟩
 intro er pp
 refine cF Z er (Zd ?_)
 cases pp
 exact zJ ⟨Z,⟨bW,dB,ep,ba,bP,bs,bu,aq,bQ,bR,((cZ.trans da).trans iW),eQ,gX⟩⟩
 intro eh pq
 refine cF Z eh (kN (sR fL3 Z (oR Z (zD Z aq zP Z ZE) (oL Z (bZ.ldB (j:=1) Z Z Z ZS (v:=jV au) Z) (oR Z (ZR Z Z Z) (eN (ifc pq ?_ ?_)))))))
 intro eu pu
 refine cT Z eu (rR gAf Z (oR Z (zD Z aq zP Z zC) (zo (j:=1) (vs:=[jV 0]) Z Z Z Z bZ Z Z Z Z zC (zB Z) Z Z Z ?_)))
 intro jG oe
 have oh:SW w [B2] U bM [dI,cz,ai,ak,aj,.blk b3 33 B0] jG:=oe
 refine zk ?_
 cases pu
 exact zJ ⟨Z,⟨bM,cu,cL,ba,bP,bs,bu,aq,bQ,bR,(cZ.trans da),oh,eK⟩⟩
 intro eu pB
 refine cF Z eu (Zd ?_)
 cases pB
 exact zJ ⟨Z,⟨bM,cu,cL,ba,bP,bs,bu,aq,bQ,bR,(cZ.trans da),bZ,eK⟩⟩
 have iI:=iR;rw [if_neg br] at iI;replace br:=zI br
 refine cF Z br (sR (wLT (.fx 6 (.fl 7 (.fx 8 .nil .stop)) .stop)) Z (oM Z ba (oM Z bu (oR Z (Zj Z Z Z) (oR Z (Runs.max Z Z Z) (oM Z bu (oR Z (Zj Z Z Z) ?_)))))))
 have q:=bnd iI
 obtain ⟨⟨fy,dy⟩,lU,iJ⟩:=q
 try dsimp only at iJ
 refine zG 1 Z Z Z Z (zF Z Z Tryz.call5 (zA Z (zA Z (zA Z zK))) Z) eO (fun hs=>wBZ (⟨ci,fk,fm⟩:wAE) ae bT bX (max 1 (w64 ((w64 (am + an)) - 6))) (w64 ((w64 (am + an)) - 1)) dX dR hs gW lU) (.inl Z) ?_
 rintro cC qf qJ jH iX oi ⟨dC,ew,rfl,rfl,gY⟩
 let fW:Res:=.blk ae 68 [.slice dC dy.bytes.length ew,jV dy.next,.int .u32 dy.state]
 have ol:SW w [B2] U cC [fW,cy,ai,ak,aj,.blk b3 33 B0] jH:=oi
 refine oR Z (zD Z aq zP Z zC) (zo (j:=1) (vs:=[jV fy]) Z Z Z Z ol Z Z Z Z zC (zB Z) Z Z Z ?_)
 intro gh om
 let fY:Res:=.blk ao 42 [jV (w64 (am + an)),jV au,jV av,jV 0,jV 0,jV fy]
 have eR:SW w [B2] U cC [fW,fY,ai,ak,aj,.blk b3 33 B0] gh:=om
 refine eN (sR fL3 Z (oR Z (zD Z aq zP Z ZE) (oL Z (eR.ldB (j:=1) Z Z Z ZS (v:=jV au) Z) (oR Z (ZR Z Z Z) (eN (ifc iJ ?_ ?_))))))
 intro ey pC
 refine cT Z ey (rR gBb Z (oM Z ba ?_))
 have q:=bnd pC
 obtain ⟨⟨i8,fz⟩,lV,iK⟩:=q
 try dsimp only at iK
 refine zG 1 Z Z Z Z (zF Z Z yL (zA Z (zA Z zK)) Z) eR (fun hs=>wAV dy ae dC ew 8 gh cC hs gY lV) (.inl Z) ?_
 rintro dT qg qK jJ pN oq ⟨fM,gA,rfl,rfl,lW⟩
 let fZ:Res:=.blk ae 68 [.slice fM fz.bytes.length gA,jV fz.next,.int .u32 fz.state]
 have ot:SW w [B2] U dT [fZ,fY,ai,ak,aj,.blk b3 33 B0] jJ:=oq
 refine oR Z (yW Z Z Z) (oR Z (zD Z aq zP Z zC) (zo (j:=1) (vs:=[jV (w64 (50 * i8))]) Z Z Z Z ot Z Z Z Z zC (zB Z) Z Z Z ?_))
 intro jK ou
 have ow:SW w [B2] U dT [fZ,.blk ao 42 [jV (w64 (am + an)),jV au,jV av,jV 0,jV (w64 (50 * i8)),jV fy],ai,ak,aj,.blk b3 33 B0] jK:=ou
 refine zk ?_
 cases iK
 exact zJ ⟨Z,⟨dT,fM,gA,ba,bP,bs,bu,aq,bQ,bR,(iX.trans pN),ow,lW⟩⟩
 intro ey pD
 refine cF Z ey (Zd ?_)
 cases pD
 exact zJ ⟨Z,⟨cC,dC,ew,ba,bP,bs,bu,aq,bQ,bR,iX,eR,gY⟩⟩
 rintro qU qn ⟨cD,bU,bY,j6,j7,eH,j8,j9,lg,lh,pO,eS,lX⟩
 refine rR (wDq gAx) Z (oR Z (zD Z eH zd Z Zf) (oL Z (eS.ldB (j:=4) Z Z Z Zp (v:=.slice bI bH.length bN) Z) (oL Z (eS.ldBA (j:=1) Z Z j9 ZF zg (vs:=bA) Z Z) (ZM (pv:=[(0,.agg bA.toArray)]) (zs:=dH) (cs:=bA) Z Z Z Z Z (wAK Z wAb) ZC zg Zh Z Z Z Z Z eS ?_))))
 intro jL jS oy
 let dK:Res:=.row (some ⟨jS,0,none⟩) 1 42 6 (nA wAB [(⟨w64 (am + an),au,av,dr,dt,du⟩:wAA)])
 let dL:Res:=.blk ae 68 [.slice bU cY.length bY,jV i4,.int .u32 i5]
 have ib:SW w [B2] U cD [dK,dL,.blk ao 42 bA,ai,ak,aj,.blk b3 33 B0] jL:=oy
 refine bnK iD fun dz lY pE=>Zv (j:=4) (enc:=wAB) (xs:=bH) (ys:=[(⟨w64 (am + an),au,av,dr,dt,du⟩:wAA)]) (zs:=dz) rfl rfl rfl rfl rfl Tryz.underlying31 wLA rfl rfl rfl rfl rfl rfl ib rfl rfl rfl (ib.srcR (j:=0) rfl (by decide) (wAF (f:=wAB) (sz:=6) (fun _=>rfl) [(⟨w64 (am + an),au,av,dr,dt,du⟩:wAA)])) (fun _=>rfl) (fun _=>rfl) lY rfl ?_
 intro cx cN jM oz
 let f4:Res:=.row cx cN 42 6 (nA wAB dz)
 have oB:SW w [B2] U cD [dK,dL,.blk ao 42 bA,ai,f4,aj,.blk b3 33 B0] jM:=oz
 refine oR Z (zD Z eH zd Z Zf) (zo (j:=5) (vs:=[.slice cx dz.length cN]) Z Z Z Z oB Z Z Z Z Zf (zB Z) Z Z Z ?_)
 intro jN oG
 have oH:SW w [B2] U cD [dK,dL,.blk ao 42 bA,ai,f4,.blk b7 33 [jV 30,.slice bg aw.length bi,.slice cx dz.length cN],.blk b3 33 B0] jN:=oG
 refine zk (zh (zJ (rR fL2 Z (oR Z (zw (zZ Z lh Z) (congrArg (jV) o7.out)) (oM Z Z (zk ?_))))))
 cases pE
 exact zJ ⟨rfl,⟨cD,bU,bY,cx,cN,rfl,j6,j7,eH,j8,lg,(((((((pF.trans pG).trans pH).trans pI).trans pK).trans eX).trans pM).trans pO),(oH.pick [1,3,4,5,6] _ (by decide) rfl),lX⟩⟩
 rintro qV qo ⟨ga,fN,gB,dD,eA,ls,qq,gQ,lj,qr,ln,qw,ic,lZ⟩
 have jX:Hid (¬ ((↑((bw:Int) - 0).toNat:Int) < bw)):=zI (wBH)
 refine sR fL1 Z (oR Z (ze Z ls ln) (eN (zH (cF Z jX (ZD (zb (zb (zz (zJ (sR gAf Z ?_))))))))))
 let bL:List Value:=[jV 30,.slice bg aw.length bi,.slice dD i9.length eA]
 refine oL Z (ic.ldBA (j:=3) Z Z lj ZW zm (vs:=bL) Z Z) (zo (j:=4) (vs:=bL) Z Z Z Z ic Z gQ Z Z zm (zB Z) Z Z Z ?_)
 intro jO oK
 have ie:SW w [B2] U ga [.blk ae 68 [.slice fN pQ.length gB,jV pR,.int .u32 pS],ai,.row dD eA 42 6 (nA wAB i9),.blk b7 33 bL,.blk b3 33 bL] jO:=oK
 refine eN (zM ?_)
 cases im
 exact ⟨rfl,_,(wJg (v:=.agg bL.toArray) ⟨⟨_,gQ,(wEL ZW zm (ie.blkAt (k:=4) rfl) (vs:=bL) rfl rfl)⟩,trivial⟩),ga,_,(ie.pick [1,2,0] _ (by decide) rfl),bg,bi,dD,eA,fN,gB,rfl,rfl,lZ⟩
set_option maxHeartbeats 4000000
theorem wEq (p0:List wAH) (ak:Option Addr) (am:Nat) (w:World) (U:PHeap) (hS:St0 w U []) (aw:Sl U 2 ak am p0.length (nA wAD p0)) {r:(List wAH)} (hm:wBa p0=some r):Gv Tryz.prog 19 [.slice ak p0.length am] w (wBW w [] U (fun U_ L_ v=>∃ (A0:Option Addr) (c0:Nat),v=.slice A0 r.length c0/\L_=[.row A0 c0 37 2 (nA wAD r)])):=by
 unfold wBa at hm
 refine Gv.of Tryz.func19 Z Tryz.ntmps19 Tryz.results19 Z (sR fL1 Z (oA Z Z (eN (sR gAp Z (oM Z Z ?_)))))
 have aq:=hS.nilrow 37 2
 have aj:sW w U U [.row none 0 37 2 (nA wAD ([]:List wAH))] w:=aq
 refine bnK hm fun x4 h5 az=>Zv (j:=0) (enc:=wAD) (xs:=([]:List wAH)) (ys:=p0) (zs:=x4) Z Z Z Z Z Tryz.underlying30 wKz Z Z Z Z Z Z aj Z Z Z (aj.srcS aw) (fun _=>Z) (fun _=>Z) h5 Z ?_
 intro A7 c8 W9 au
 have av:sW w U U [.row A7 c8 37 2 (nA wAD x4)] W9:=au
 refine oA Z Z (eN (zM ?_))
 have hE:=nE az;first | subst r | cases hE
 exact ⟨Z,_,(zi Z),U,_,av,A7,c8,Z,Z⟩
theorem wEQ (p0:List wAA) (ak:Option Addr) (am:Nat) (w:World) (U:PHeap) (hS:St0 w U []) (aw:Sl U 6 ak am p0.length (nA wAB p0)) {r:(List wAA)} (hm:wBI p0=some r):Gv Tryz.prog 20 [.slice ak p0.length am] w (wBW w [] U (fun U_ L_ v=>∃ (A0:Option Addr) (c0:Nat),v=.slice A0 r.length c0/\L_=[.row A0 c0 42 6 (nA wAB r)])):=by
 unfold wBI at hm
 refine Gv.of Tryz.func20 Z Tryz.ntmps20 Tryz.results20 Z (sR fL1 Z (oA Z Z (eN (sR gAp Z (oM Z Z ?_)))))
 have aq:=hS.nilrow 42 6
 have aj:sW w U U [.row none 0 42 6 (nA wAB ([]:List wAA))] w:=aq
 refine bnK hm fun x4 h5 az=>Zv (j:=0) (enc:=wAB) (xs:=([]:List wAA)) (ys:=p0) (zs:=x4) Z Z Z Z Z Tryz.underlying31 wLA Z Z Z Z Z Z aj Z Z Z (aj.srcS aw) (fun _=>Z) (fun _=>Z) h5 Z ?_
 intro A7 c8 W9 au
 have av:sW w U U [.row A7 c8 42 6 (nA wAB x4)] W9:=au
 refine oA Z Z (eN (zM ?_))
 have hE:=nE az;first | subst r | cases hE
 exact ⟨Z,_,(zi Z),U,_,av,A7,c8,Z,Z⟩
theorem wEv (p0:wAI) (ah:Option Addr) (aj:Nat) (ai:Option Addr) (ak:Nat) (w:World) (U:PHeap) (hS:St0 w U []) (bG:Sl U 2 ah aj p0.Skiers.length (nA wAD p0.Skiers)) (bH:Sl U 6 ai ak p0.Decisions.length (nA wAB p0.Decisions)) {r:wAI} (hm:wBj p0=some r):Gv Tryz.prog 8 [.agg #[jV p0.Deadline,.slice ah p0.Skiers.length aj,.slice ai p0.Decisions.length ak]] w (wBW w [] U (fun U_ L_ v=>∃ (ba:Option Addr) (bj:Nat) (bb:Option Addr) (bk:Nat),v=.agg #[jV r.Deadline,.slice ba r.Skiers.length bj,.slice bb r.Decisions.length bk]/\L_=[.row ba bj 37 2 (nA wAD r.Skiers),.row bb bk 42 6 (nA wAB r.Decisions)])):=by
 unfold wBj at hm
 refine Gv.of Tryz.func8 Z Tryz.ntmps8 Tryz.results8 Z (sR gAi Z ?_)
 let B0:List Value:=[jV p0.Deadline,.slice ah p0.Skiers.length aj,.slice ai p0.Decisions.length ak]
 refine ZA (cs:=B0) rfl rfl rfl rfl rfl rfl (by rfl) hS ?_
 intro W1 b2 bB
 let B1:List Value:=[jV 0,.slice none 0 0,.slice none 0 0]
 refine zq (cs:=B1) Z Z Z Z Z Zg Z bB ?_
 intro W5 b6 bF
 refine eN (zH (ZT ZH [3,1,3,1,2,3,1,2,3,0] (wET (.fl 5 (.fl 6 (.fx 4 (.fx 7 (.fl 8 (.fx 9 .nil .stop)) .stop) .stop)))) (by kernel_rfl) ?_))
 have ag:=bF.drew
 generalize hw_W10:({ W5 with drawn:=W5.drawn + 1 }:World)=bp at ag ⊢
 refine oR Z (zD Z Z zd Z zC) (oL Z (ag.ldB (j:=1) Z Z Z zO (v:=jV p0.Deadline) Z) (oR Z (zD Z Z zd Z ZY) (oL Z (ag.ldB (j:=1) Z Z Z Zu (v:=.slice ah p0.Skiers.length aj) Z) (oR Z (zD Z Z zd Z Zf) (oL Z (ag.ldB (j:=1) Z Z Z Zp (v:=.slice ai p0.Decisions.length ak) Z) (bnK hm fun aY bs bI=>zG 0 Z Z Z Z (zF Z Z Tryz.call19 (zA Z zK) Z) ag (fun hs=>wEq p0.Skiers ah aj bp U hs bG bs) (.inr Z) ?_))))))
 rintro bg bL bP bh bK bz ⟨am,aq,rfl,rfl⟩
 let B2:Res:=.row am aq 37 2 (nA wAD aY)
 have bA:sW w U bg [B2,.blk b6 33 B1,.blk b2 33 B0] bh:=bz
 have bu:=bH.le bK
 refine bnK bI fun aZ bw bJ=>zG 0 Z Z Z Z (zF Z Z Tryz.call20 (zA Z zK) Z) bA (fun hs=>wEQ p0.Decisions ai ak bh bg hs bu bw) (.inr Z) ?_
 rintro aw bM bQ bq bO bC ⟨an,au,rfl,rfl⟩
 let B3:Res:=.row an au 42 6 (nA wAB aZ)
 have bD:sW w U aw [B3,B2,.blk b6 33 B1,.blk b2 33 B0] bq:=bC
 let B4:List Value:=[jV p0.Deadline,.slice am aY.length aq,.slice an aZ.length au]
 refine oR Z (Zi (pv:=[(0,jV p0.Deadline),(1,.slice am aY.length aq),(2,.slice an aZ.length au)]) (z:=B1) (cs:=B4) Z (wAK Z (wAK Z (wAK Z wAb))) Zg wIJ Z Z) (zo (j:=2) (vs:=B4) Z Z Z Z bD Z Z Z Z zm (zB Z) Z Z Z ?_)
 intro br bE
 have bm:sW w U aw [B3,B2,.blk b6 33 B4,.blk b2 33 B0] br:=bE
 refine eN (zM ?_)
 cases bJ
 exact ⟨rfl,_,(wJg (v:=.agg B4.toArray) ⟨⟨_,rfl,(wEL ZW zm (bm.blkAt (k:=2) rfl) (vs:=B4) rfl rfl)⟩,trivial⟩),aw,_,(bm.pick [1,0] _ (by decide) rfl),am,aq,an,au,rfl,rfl⟩
theorem wFQ (p0:wAE) (ak:Nat) (ba:Option Addr) (bb:Nat) (p1:Int) (w:World) (U:PHeap) (hS:St0 w U [.blk ak 68 [.slice ba p0.bytes.length bb,jV p0.next,.int .u32 p0.state]]) (cJ:Sl U 1 ba bb p0.bytes.length (nA KL.encB8 p0.bytes)) {r:(List Int) × wAE} (hm:wBX p0 p1=some r):Gv Tryz.prog 9 [.pointer (some ⟨ak,0,none⟩),jV p1] w (wBW w [.blk ak 68 [.slice ba p0.bytes.length bb,jV p0.next,.int .u32 p0.state]] U (fun U_ L_ v=>∃ (A0:Option Addr) (c0:Nat) (bA:Option Addr) (bI:Nat),v=.slice A0 r.1.length c0/\L_=[.row A0 c0 3 1 (nA KL.encI r.1),.blk ak 68 [.slice bA r.2.bytes.length bI,jV r.2.next,.int .u32 r.2.state]]/\Sl U_ 1 bA bI r.2.bytes.length (nA KL.encB8 r.2.bytes))):=by
 unfold wBX at hm
 refine Gv.of Tryz.func9 Z Tryz.ntmps9 Tryz.results9 Z (sR fL1 Z (oA Z Z (eN (sR fL1 Z (oA Z Z (eN (zH (sR fL3 Z (oM Z Z (oR Z (Runs.max Z Z Z) (oM Z Z (eN (zV (bnK hm fun dm cL cY=>?_))))))))))))))
 have q:=wBr cL
 obtain ⟨br,cM⟩:=q
 replace br:=zI br
 let B0:Res:=.blk ak 68 [.slice ba p0.bytes.length bb,jV p0.next,.int .u32 p0.state]
 refine CK.forN' (fun aj aY σ_ w_=>∃ (U_:PHeap) (be:Option Addr) (bh:Nat),σ_ 11=jV (↑aj:Int)/\σ_ 0=.pointer (some ⟨ak,0,none⟩)/\σ_ 5=.slice be aY.length bh/\σ_ 10=jV (max 0 p1)/\PHeap.Le U U_/\SW w [B0] U U_ [B0,.row be bh 3 1 (nA KL.encI aY)] w_) cM ?_ ?_ ?_
 have cB:=hS.nilrow 3 1
 exact ⟨U,none,0,rfl,rfl,rfl,rfl,(zU _),(cB.pick [1,0] _ (by decide) rfl)⟩
 rintro aj aY dy dA dt bq ⟨bk,be,bh,bp,cd,cg,bK,df,cC⟩ da
 have bG:Hid ((↑aj:Int) < (max 0 p1)):=zI (wBq bq)
 replace bq:=zI bq
 have cS:Hid (w64 ((↑aj:Int) + 1)=(↑(aj + 1):Int)):=zI (by have h1:=br.out;have h2:=bG.out;rw [wAT] <;> omega)
 refine sR fL1 Z (oR Z (ze Z bp bK) (eN (zH (cT Z bG (kN (zH (zV (sR fL2 Z (oM Z bp (oA Z Z (eN (rR (.fl 0 (.fl 1 (.fx 2 gAg .stop))) Z (oM Z cg (oM Z Z (ZM (pv:=[(0,jV (↑aj:Int))]) (zs:=[jV 0]) (cs:=[jV (↑aj:Int)]) Z Z Z Z Z (wAK Z wAb) zL zC Zx Z Z Z Z Z cC ?_)))))))))))))))
 intro bV bX cD
 let B1:Res:=.row (some ⟨bX,0,none⟩) 1 3 1 (nA KL.encI [(↑aj:Int)])
 have bO:SW w [B0] U bk [B1,B0,.row be bh 3 1 (nA KL.encI aY)] bV:=cD
 refine bnK da fun x47 ct cZ=>Zv (j:=2) (enc:=KL.encI) (xs:=aY) (ys:=[(↑aj:Int)]) (zs:=x47) rfl rfl rfl rfl rfl yK wJz rfl rfl rfl rfl rfl rfl bO rfl rfl rfl (bO.srcR (j:=0) rfl (by decide) (wAF (f:=KL.encI) (sz:=1) (fun _=>rfl) [(↑aj:Int)])) (fun _=>rfl) (fun _=>rfl) ct rfl ?_
 intro bz bH bW cE
 have cG:SW w [B0] U bk [B1,B0,.row bz bH 3 1 (nA KL.encI x47)] bW:=cE
 refine oA Z Z (zk (zh (zJ (rR fL2 Z (oR Z (zw (zZ Z bp Z) (congrArg (jV) cS.out)) (oM Z Z (zk ?_)))))))
 cases cZ
 exact zJ ⟨rfl,⟨bk,bz,bH,rfl,cd,rfl,bK,df,(cG.pick [1,2] _ (by decide) rfl)⟩⟩
 rintro dB du ⟨bD,ae,ag,cm,ci,bL,cj,dg,cH⟩
 have bY:Hid (¬ ((↑((max 0 p1:Int) - 0).toNat:Int) < (max 0 p1))):=zI (wBH)
 refine sR fL1 Z (oR Z (ze Z cm cj) (eN (zH (cF Z bY (ZD (zb (zb (zz (zJ (zH (sR fL4 Z (oM Z bL (oR Z (zy Z Z zL) (oR Z (Zj Z Z Z) (oA Z Z (eN (zV (yI (fun (aZ,x98,x99,aa,x101) σ_ w_=>∃ (U_:PHeap) (au:Option Addr) (av:Nat),σ_ 0=.pointer (some ⟨ak,0,none⟩)/\σ_ 5=.slice ae aa.length ag/\σ_ 7=jV x101/\PHeap.Le bD U_/\SW w [B0] U U_ [.blk ak 68 [.slice au aZ.length av,jV x98,.int .u32 x99],.row ae ag 3 1 (nA KL.encI aa)] w_/\Sl U_ 1 au av aZ.length (nA KL.encB8 aZ)/\aa.length=dm.length) cY ?_ ?_))))))))))))))))))
 have cn:=cJ.le dg
 exact ⟨bD,ba,bb,ci,bL,Z,(zU _),cH,cn,Z⟩
 rintro ⟨aZ,x98,x99,aa,x101⟩ dx dz bS ⟨bC,au,av,bJ,ap,aw,db,bN,bM,cp⟩ bs cK
 try dsimp only at bs
 refine zH (sR fL2 Z (oM Z aw (oR Z (Zz Z Z Z) (eN ?_))))
 by_cases am:0 < x101
 have bP:=bs;rw [if_pos am] at bP;replace am:=zI am
 refine cT Z am (kN (zH (zV (sR (wDq gAg) Z (oM Z bJ (oM Z aw (oR Z (zZ Z Z Z) ?_)))))))
 have q:=bnd bP
 obtain ⟨⟨x120,x121⟩,cq,bQ⟩:=q
 try dsimp only at bQ
 refine zG 1 Z Z Z Z (zF Z Z yL (zA Z (zA Z zK)) Z) bN (fun hs=>wAV (⟨aZ,x98,x99⟩:wAE) ak au av (w64 (x101 + 1)) bS bC hs bM cq) (.inl Z) ?_
 rintro bg dp dw bm de cu ⟨bw,bF,rfl,rfl,cr⟩
 let B2:Res:=.blk ak 68 [.slice bw x121.bytes.length bF,jV x121.next,.int .u32 x121.state]
 have cw:SW w [B0] U bg [B2,.row ae ag 3 1 (nA KL.encI aa)] bm:=cu
 refine Ze rfl rfl rfl rfl rfl rfl (eN (ZT ZH [3,3,3,3,3,3,3,1,3,3,3,1,3,0,3,0] (wVU (.fx 13 (.fl 14 (.fx 15 .nil .stop)) .stop)) (by kernel_rfl) ?_))
 have aX:=cw.drew
 generalize hw_W135:({ bm with drawn:=bm.drawn + 1 }:World)=dr at aX ⊢
 refine oM Z ap (oM Z aw (oM Z ap (oM Z Z (oM Z ap (oM Z Z (bnK bQ fun _ bi cU=>?_))))))
 have q:=aX.rowSome (j:=1) rfl (by rw [wAF (f:=KL.encI) (sz:=1) (fun _=>rfl) aa];have hz:=wAR bi;omega)
 obtain ⟨dv,an⟩:=q
 refine oR Z (ZQ Z Z an Z zL zC (wBk bi) (wBl bi)) ?_
 have cN:=wBt (xs:=aa) (wAR bi)
 refine zr rfl rfl rfl rfl (aX.ldR (j:=1) rfl an rfl rfl zO (wAs (sz:=1) (fun _=>rfl) _ _ 0 _ cN (by first | omega | rfl | simp) rfl)) rfl (zQ rfl rfl rfl rfl rfl ap (zQ rfl rfl rfl rfl rfl aw (bnK cU fun _ ao cV=>za rfl rfl rfl rfl (fun _=>ZQ rfl rfl an rfl zL zC (wBk ao) (wBl ao)) ?_)))
 have cP:=wBt (xs:=aa) (wAR ao)
 refine zr rfl rfl rfl rfl (aX.ldR (j:=1) rfl an rfl rfl zO (wAs (sz:=1) (fun _=>rfl) _ _ 0 _ cP (by first | omega | rfl | simp) rfl)) rfl (za rfl rfl rfl rfl (fun _=>ZQ rfl rfl an rfl zL zC (wBk ao) (wBl ao)) ?_)
 have cQ:=wBt (xs:=aa) (wAR ao)
 refine yX (j:=1) (vs:=[jV (gd aa x120.toNat)]) (cs':=nA KL.encI (nL aa x101.toNat (gd aa x120.toNat))) rfl rfl rfl rfl aX rfl an rfl rfl rfl zC (by rw [wAF (f:=KL.encI) (sz:=1) (fun _=>rfl)];have hz:=wAR ao;show _ + 1 <= _;first | omega | (simp only [nM];omega) | (simp only [nK,nI,nJ];omega)) rfl (wEW (sz:=1) (fo:=0) (fun _=>rfl) _ _ _ _ cQ (by first | omega | (simp only [nM];omega) | (simp only [nK,nI,nJ];omega)) (zB rfl) rfl) rfl ?_
 intro bT cx
 have cy:SW w [B0] U bg [B2,.row ae ag 3 1 (nA KL.encI (nL aa x101.toNat (gd aa x120.toNat)))] bT:=cx
 refine bnK cV fun _ az cW=>za rfl rfl rfl rfl (fun _=>ZQ rfl (Eq.trans (b:=(.slice ae aa.length ag:Value)) (c:=(.slice ae ((nL aa x101.toNat (gd aa x120.toNat)).length) ag:Value)) rfl (by simp only [nH])) an rfl zL zC (wBk az) (wBl az)) ?_
 have cR:=wBt (xs:=(nL aa x101.toNat (gd aa x120.toNat))) (by first | exact wAR az | (have hz:=wAR az;simpa only [nH] using hz))
 refine yX (j:=1) (vs:=[jV (gd aa x101.toNat)]) (cs':=nA KL.encI (nL (nL aa x101.toNat (gd aa x120.toNat)) x120.toNat (gd aa x101.toNat))) rfl rfl rfl rfl cy rfl an rfl rfl rfl zC (by rw [wAF (f:=KL.encI) (sz:=1) (fun _=>rfl)];have hz:=wAR az;show _ + 1 <= _;first | omega | (simp only [nH];omega) | (simp only [nK,nI,nJ,nH];omega) | (simp only [nM];omega) | (simp only [nK,nI,nJ];omega)) rfl (wEW (sz:=1) (fo:=0) (fun _=>rfl) _ _ _ _ cR (by first | omega | (simp only [nM];omega) | (simp only [nK,nI,nJ];omega)) (zB rfl) rfl) rfl ?_
 intro bU cz
 have cA:SW w [B0] U bg [B2,.row ae ag 3 1 (nA KL.encI (nL (nL aa x101.toNat (gd aa x120.toNat)) x120.toNat (gd aa x101.toNat)))] bU:=cz
 refine zk (zh (zJ (rR fL3 Z (oM Z aw (oR Z (Zj Z Z Z) (oA Z Z (zk ?_)))))))
 have q:=nE cW
 obtain rfl:=q
 exact zJ ⟨rfl,_,rfl,⟨bg,bw,bF,bJ,(Eq.trans (b:=(.slice ae ((nL aa x101.toNat (gd aa x120.toNat)).length) ag:Value)) (c:=(.slice ae ((nL (nL aa x101.toNat (gd aa x120.toNat)) x120.toNat (gd aa x101.toNat)).length) ag:Value)) (Eq.trans (b:=(.slice ae aa.length ag:Value)) (c:=(.slice ae ((nL aa x101.toNat (gd aa x120.toNat)).length) ag:Value)) ap (by simp only [nH])) (by simp only [nH])),rfl,(db.trans de),cA,cr,((nH.trans nH).trans cp)⟩⟩
 have bR:=bs;rw [if_neg am] at bR;replace am:=zI am
 refine cF Z am (ZD (zb ?_))
 have q:=wAS bR
 obtain ⟨dh,cX,bZ⟩:=q
 have q:=cK dh bZ
 obtain rfl:=q
 refine zb (zz (zJ (sR fL2 Z (oM Z ap (oA Z Z (eN (zM ?_)))))))
 cases cX
 exact ⟨rfl,_,(zi rfl),bC,_,(bN.pick [1,0] _ (by decide) rfl),ae,ag,au,av,rfl,rfl,bM⟩
theorem wBQ (p0:Int) (p1:Int) (p2:Int) (w:World) (U:PHeap) (hS:St0 w U [])  {r:Bool} (hm:wAd p0 p1 p2=some r):Gv Tryz.prog 110 [jV p0,jV p1,jV p2] w (wBW w [] U (fun U_ L_ v=>v=.bool r/\L_=[])):=by
 unfold wAd at hm
 refine Gv.of Tryz.func110 Z Tryz.ntmps110 Tryz.results110 Z (sR fL1 Z (oA Z Z (eN (sR fL9 Z (oM Z Z (oM Z Z (oR Z (Runs.geq Z Z Z) (oM Z Z ?_))))))))
 by_cases c1:p1 <= p0
 have ae:=hm;rw [if_pos c1] at ae;replace c1:=zI c1
 refine zQ Z Z Z (wT Z c1) Z Z (zQ Z Z Z (wT Z c1) Z Z (rU Z (wT Z c1) (yP Z Z Z) (oR Z (zj Z (ZU c1.out) Z) (oA Z Z (eN (zM ?_))))))
 first | (obtain rfl:=nE ae) | cases ae
 exact ⟨Z,_,(zi Z),U,_,hS,Z,Z⟩
 have ai:=hm;rw [if_neg c1] at ai;replace c1:=zI c1
 refine oF Z c1 (oF Z c1 (oF Z c1 (oR Z (zR Z (ZI c1.out) Z) (oA Z Z (eN (zM ?_))))))
 have hE:=nE ai;first | subst r | cases hE
 exact ⟨Z,_,(zi Z),U,_,hS,Z,Z⟩
theorem wFl (p0:wAH) (p1:(wAH->Option Bool)) (ak:Nat) (ah:Value) (w:World) (U:PHeap) (hS:St0 w U []) (au:Cl U ak 0 [ah]) (av:FnOK Tryz.prog U ah wNc wNd p1) {r:Bool} (hm:wAx p0 p1=some r):Gv Tryz.prog 135 [.agg #[jV p0.Bib,jV p0.Time],.pointer (some ⟨ak,0,none⟩)] w (wBW w [] U (fun U_ L_ v=>v=.bool r/\L_=[])):=by
 unfold wAx at hm
 refine Gv.of Tryz.func135 Z Tryz.ntmps135 Tryz.results135 Z (sR gAj Z ?_)
 let B0:List Value:=[jV p0.Bib,jV p0.Time]
 refine ZA (cs:=B0) rfl rfl rfl rfl rfl rfl (by rfl) hS ?_
 intro W1 b2 ag
 refine oA Z Z (eN (sR gBa Z (oL Z (ag.ldC (f:=0) au (v:=ah) Z Z Tryz.isAgg169 Z) (oL Z (ag.ldBA (j:=0) Z Z Z yT Za (vs:=B0) Z Z) (bnK hm fun x5 h6 aw=>yF (a:=p0) Z Z Z Z Z Z (zA Z zK) ag av Z h6 ?_)))))
 rintro U8 L9 aZ am aY ap ⟨rfl,rfl⟩
 have aq:sW w U U8 [.blk b2 37 B0] am:=ap
 refine oR Z (ZX Z Z) (oA Z Z (eN (zM ?_)))
 cases aw
 exact ⟨rfl,_,(zi rfl),U8,_,(aq.pick [] _ (by decide) rfl),rfl,rfl⟩
theorem wDQ (p0:List wAH) (ao:Option Addr) (ap:Nat) (p1:(wAH->Option Bool)) (aq:Value) (w:World) (U:PHeap) (hS:St0 w U []) (bB:Sl U 2 ao ap p0.length (nA wAD p0)) (bC:FnOK Tryz.prog U aq wNc wNd p1) {r:Int} (hm:wAc p0 p1=some r):Gv Tryz.prog 169 [.slice ao p0.length ap,aq] w (wBW w [] U (fun U_ L_ v=>v=jV r/\L_=[])):=by
 unfold wAc at hm
 refine Gv.of Tryz.func169 Z Tryz.ntmps169 Tryz.results169 Z (sR fL1 Z (oA Z Z (eN (zH (sR fL3 Z (oM Z Z (oR Z (zy Z Z ZJ) (oM Z Z (eN (zV ?_))))))))))
 have q:=wDo hm
 obtain ⟨r3,aj⟩:=q
 have q:=wDn aj
 obtain ⟨am,bF⟩:=q
 replace am:=zI am
 refine yS (fun k2 _ σ_ w_=>∃ (U_:PHeap),σ_ 8=jV (↑k2:Int)/\σ_ 0=.slice ao p0.length ap/\σ_ 1=aq/\σ_ 7=jV (↑p0.length:Int)/\PHeap.Le U U_/\sW w U U_ [] w_) bF ?_ ?_ ?_
 exact ⟨U,Z,Z,Z,Z,(zU _),hS⟩
 rintro k2 ⟨⟩ cd ci W8 ak ⟨bP,ai,aw,az,aX,an,aZ⟩ be bD
 try dsimp only at be
 have av:Hid ((↑k2:Int) < (↑p0.length:Int)):=zI (wBq ak)
 replace ak:=zI ak
 have bG:Hid (w64 ((↑k2:Int) + 1)=(↑(k2 + 1):Int)):=zI (by have h1:=am.out;have h2:=av.out;rw [wAT] <;> omega)
 refine sR fL1 Z (oR Z (ze Z ai aX) (eN (zH (cT Z av (kN (zH (zV (sR fL2 Z (oM Z ai (oA Z Z (eN (sR (wID (.fx 5 .nil .stop)) Z (oM Z az (oM Z aw (oM Z Z (bnK be fun au aY bH=>?_))))))))))))))))
 have bq:=bB.le an
 have q:=bq.el (fun _=>rfl) (wBD aY)
 obtain ⟨bS,bW,bu,bw⟩:=q
 refine oR Z (ZZ Z Z bu Z ZJ Za (wDB aY)) (oL Z (aZ.ldCA (f:=0) bw Z Z yT Za (us:=[jV au.Bib,jV au.Time]) Z Z) (bnK bH fun bZ br bI=>?_))
 have bs:=bC.le an
 refine yF (a:=au) Z Z Z Z Z Z (zA Z zK) aZ bs Z br ?_
 rintro ag bO bY bi bM bz ⟨rfl,rfl⟩
 have ba:sW w U ag [] bi:=bz
 refine eN (ifc bI ?_ ?_)
 intro ah bJ
 refine zu (congrArg nB ah.out) (sR fL2 Z (oM Z Z (oA Z Z (eN (zM (zf (zN ?_)))))))
 have q:=wAS bJ
 obtain ⟨bN,bK,bk⟩:=q
 have q:=wCa hm aj (bD bN bk)
 obtain rfl:=q
 refine zN (zf (zN ?_))
 cases bK
 exact ⟨Z,_,(zi Z),ag,_,ba,Z,Z⟩
 intro ah bL
 refine zn (congrArg nB (nD.2 ah.out)) (Zd (zh (zJ (rR fL2 Z (oR Z (zw (zZ Z ai Z) (congrArg (jV) bG.out)) (oM Z Z (zk ?_)))))))
 have q:=nE bL
 obtain rfl:=q
 exact zJ ⟨Z,_,Z,⟨ag,Z,aw,az,aX,(an.trans bM),ba⟩⟩
 rintro ⟨⟩ cg bQ ⟨bh,bp,bT,bU,bm,bV,bA⟩ bE
 have bb:=wEt hm aj bE
 try dsimp only at bb
 have bj:Hid (¬ ((↑(((↑p0.length:Int):Int) - 0).toNat:Int) < (↑p0.length:Int))):=zI (wBH)
 refine sR fL1 Z (oR Z (ze Z bp bm) (eN (zH (cF Z bj (ZD (zb (zb (zz (zJ (sR fL1 Z (oA Z Z (eN (zM ?_)))))))))))))
 cases bb
 exact ⟨Z,_,(zi Z),bh,_,bA,Z,Z⟩
theorem wCy (p0:List wAH) (ag:Option Addr) (ah:Nat) (p1:(wAH->Option Bool)) (ai:Value) (w:World) (U:PHeap) (hS:St0 w U []) (aq:Sl U 2 ag ah p0.length (nA wAD p0)) (au:FnOK Tryz.prog U ai wNc wNd p1) {r:Bool} (hm:wAj p0 p1=some r):Gv Tryz.prog 134 [.slice ag p0.length ah,ai] w (wBW w [] U (fun U_ L_ v=>v=.bool r/\L_=[])):=by
 unfold wAj at hm
 refine Gv.of Tryz.func134 Z Tryz.ntmps134 Tryz.results134 Z (sR fL1 Z (oA Z Z (eN (sR gBa Z (oM Z Z (oM Z Z (bnK hm fun x1 h2 ak=>zG 0 Z Z Z Z (zF Z Z Tryz.call169 (zA Z (zA Z zK)) Z) hS (fun hs=>wDQ p0 ag ah p1 ai w U hs aq au h2) (.inr Z) ?_)))))))
 rintro U4 L5 v6 W7 aw ap ⟨rfl,rfl⟩
 have ao:sW w U U4 [] W7:=ap
 refine oR Z (Runs.geq Z Z Z) (oA Z Z (eN (zM ?_)))
 first | (obtain rfl:=nE ak) | cases ak
 exact ⟨Z,_,(zi Z),U4,_,ao,Z,Z⟩
theorem wGP (p0:List wAH) (ak:Option Addr) (am:Nat) (p1:(wAH->Option Bool)) (ai:Value) (w:World) (U:PHeap) (hS:St0 w U []) (bh:Sl U 2 ak am p0.length (nA wAD p0)) (ap:FnOK Tryz.prog U ai wNc wNd p1) {r:Bool} (hm:wBv p0 p1=some r):Gv Tryz.prog 111 [.slice ak p0.length am,ai] w (wBW w [] U (fun U_ L_ v=>v=.bool r/\L_=[])):=by
 unfold wBv at hm
 refine Gv.of Tryz.func111 Z Tryz.ntmps111 Tryz.results111 Z (sR gAj Z (ZA (cs:=[ai]) Z Z Z Z Z Z (FnOK.cells ap) hS ?_))
 intro W1 b2 bb
 have q:=bb.freeze (k:=0) rfl
 obtain ⟨U5,aq,ae,be⟩:=q
 replace ae:=Cl.of ae
 have bg:sW w U U5 [] W1:=be
 replace ae:Cl U5 b2 0 [ai]:=ae
 refine oA Z Z (eN (sR gBa Z (oM Z Z (oR Z (yD Z zK (zA Z zK)) ?_))))
 have aw:=bh.le aq
 have az:=ap.le aq
 have aY:FnOK Tryz.prog U5 (.func (.func 135) #[] #[.pointer (some ⟨b2,0,none⟩)]) wNc wNd (fun x=>wAx x p1):=⟨135,[],[.pointer (some ⟨b2,0,none⟩)],rfl,Tryz.call135,fun U1 w1 x y vs le hs ha hm=>by obtain rfl:=ha;exact wFl x p1 b2 ai w1 U1 hs (ae.le le) (az.le le) hm⟩
 refine bnK hm fun bq aX bi=>zG 0 Z Z Z Z (zF Z Z Tryz.call134 (zA Z (zA Z zK)) Z) bg (fun hs=>wCy p0 ak am (fun x=>wAx x p1) (.func (.func 135) #[] #[.pointer (some ⟨b2,0,none⟩)]) W1 U5 hs aw aY aX) (.inr Z) ?_
 rintro an bk bp av bm aZ ⟨rfl,rfl⟩
 have ba:sW w U an [] av:=aZ
 refine oR Z (ZX Z Z) (oA Z Z (eN (zM ?_)))
 cases bi
 exact ⟨Z,_,(zi Z),an,_,ba,Z,Z⟩
theorem wJF (p0:wAH) (w:World) (U:PHeap) (hS:St0 w U [])  {r:Bool} (hm:wDI p0=some r):Gv Tryz.prog 112 [.agg #[jV p0.Bib,jV p0.Time]] w (wBW w [] U (fun U_ L_ v=>v=.bool r/\L_=[])):=by
 unfold wDI at hm
 refine Gv.of Tryz.func112 Z Tryz.ntmps112 Tryz.results112 Z (sR gAj Z ?_)
 let B0:List Value:=[jV p0.Bib,jV p0.Time]
 refine ZA (cs:=B0) rfl rfl rfl rfl rfl rfl (by rfl) hS ?_
 intro W1 b2 an
 refine oA Z Z (eN (sR (.fl 0 (.fl 1 (.fx 2 (wTX gAo) .stop))) Z (oR Z (zD Z Z Zk Z zC) (oL Z (an.ldB (j:=0) Z Z Z zO (v:=jV p0.Bib) Z) (bnK hm fun x5 h6 ba=>zG 0 Z Z Z Z (zF Z Z yA (zA Z (zA Z (zA Z zK))) Z) an (fun hs=>wBQ p0.Bib 1 999 W1 U hs h6) (.inr Z) ?_)))))
 rintro U8 L9 bi ak bg av ⟨rfl,rfl⟩
 have ai:sW w U U8 [.blk b2 37 B0] ak:=av
 refine oM Z Z (ifc ba ?_ ?_)
 intro aa aX
 refine za Z Z Z (zS Z Z (congrArg nB aa.out)) (fun _=>zD Z Z Zk Z zC) (zr Z Z Z (zS Z Z (congrArg nB aa.out)) (ai.ldB (j:=0) Z Z Z zO (v:=jV p0.Time) Z) Z (bnK aX fun x17 aq aY=>zG 0 Z Z Z (zS Z Z (congrArg nB aa.out)) (zF Z Z yA (zA Z (zA Z (zA Z zK))) Z) ai (fun hs=>wBQ p0.Time (-1) 360000 ak U8 hs aq) (.inr Z) ?_))
 rintro aj bb bj ap bh aw ⟨rfl,rfl⟩
 have az:sW w U aj [.blk b2 37 B0] ap:=aw
 refine oR Z (zj Z (congrArg nB aa.out) Z) (oA Z Z (eN (zM ?_)))
 have hE:=nE aY;first | subst r | cases hE
 exact ⟨rfl,_,(zi rfl),aj,_,(az.pick [] _ (by decide) rfl),rfl,rfl⟩
 intro aa aZ
 refine zp Z Z Z (zW Z Z (congrArg nB (nD.2 aa.out)) Z) (zp Z Z Z (zW Z Z (congrArg nB (nD.2 aa.out)) Z) (ZO Z Z Z (zW Z Z (congrArg nB (nD.2 aa.out)) Z) (oR Z (zR Z (congrArg nB (nD.2 aa.out)) Z) (oA Z Z (eN (zM ?_))))))
 have hE:=nE aZ;first | subst r | cases hE
 exact ⟨rfl,_,(zi rfl),U8,_,(ai.pick [] _ (by decide) rfl),rfl,rfl⟩
theorem wFG (p0:wAA) (p1:(wAA->Option Bool)) (ak:Nat) (ah:Value) (w:World) (U:PHeap) (hS:St0 w U []) (au:Cl U ak 0 [ah]) (av:FnOK Tryz.prog U ah wRV wRW p1) {r:Bool} (hm:wAn p0 p1=some r):Gv Tryz.prog 137 [.agg #[jV p0.Number,jV p0.Kind,jV p0.Minute,jV p0.Bib,jV p0.Much,jV p0.About],.pointer (some ⟨ak,0,none⟩)] w (wBW w [] U (fun U_ L_ v=>v=.bool r/\L_=[])):=by
 unfold wAn at hm
 refine Gv.of Tryz.func137 Z Tryz.ntmps137 Tryz.results137 Z (sR gAj Z ?_)
 let B0:List Value:=[jV p0.Number,jV p0.Kind,jV p0.Minute,jV p0.Bib,jV p0.Much,jV p0.About]
 refine ZA (cs:=B0) rfl rfl rfl rfl rfl rfl (by rfl) hS ?_
 intro W1 b2 ag
 refine oA Z Z (eN (sR gBa Z (oL Z (ag.ldC (f:=0) au (v:=ah) Z Z Tryz.isAgg76 Z) (oL Z (ag.ldBA (j:=0) Z Z Z ZF zg (vs:=B0) Z Z) (bnK hm fun x5 h6 aw=>yF (a:=p0) Z Z Z Z Z Z (zA Z zK) ag av Z h6 ?_)))))
 rintro U8 L9 aZ am aY ap ⟨rfl,rfl⟩
 have aq:sW w U U8 [.blk b2 42 B0] am:=ap
 refine oR Z (ZX Z Z) (oA Z Z (eN (zM ?_)))
 cases aw
 exact ⟨rfl,_,(zi rfl),U8,_,(aq.pick [] _ (by decide) rfl),rfl,rfl⟩
theorem wCj (p0:List wAA) (ap:Option Addr) (aq:Nat) (p1:(wAA->Option Bool)) (au:Value) (w:World) (U:PHeap) (hS:St0 w U []) (bB:Sl U 6 ap aq p0.length (nA wAB p0)) (bC:FnOK Tryz.prog U au wRV wRW p1) {r:Int} (hm:wAW p0 p1=some r):Gv Tryz.prog 170 [.slice ap p0.length aq,au] w (wBW w [] U (fun U_ L_ v=>v=jV r/\L_=[])):=by
 unfold wAW at hm
 refine Gv.of Tryz.func170 Z Tryz.ntmps170 Tryz.results170 Z (sR fL1 Z (oA Z Z (eN (zH (sR fL3 Z (oM Z Z (oR Z (zy Z Z ZC) (oM Z Z (eN (zV ?_))))))))))
 have q:=wDo hm
 obtain ⟨r3,ak⟩:=q
 have q:=wDn ak
 obtain ⟨an,bF⟩:=q
 replace an:=zI an
 refine yS (fun k2 _ σ_ w_=>∃ (U_:PHeap),σ_ 8=jV (↑k2:Int)/\σ_ 0=.slice ap p0.length aq/\σ_ 1=au/\σ_ 7=jV (↑p0.length:Int)/\PHeap.Le U U_/\sW w U U_ [] w_) bF ?_ ?_ ?_
 exact ⟨U,Z,Z,Z,Z,(zU _),hS⟩
 rintro k2 ⟨⟩ cd ci W8 am ⟨bP,aj,aw,az,aX,ao,aZ⟩ be bD
 try dsimp only at be
 have av:Hid ((↑k2:Int) < (↑p0.length:Int)):=zI (wBq am)
 replace am:=zI am
 have bG:Hid (w64 ((↑k2:Int) + 1)=(↑(k2 + 1):Int)):=zI (by have h1:=an.out;have h2:=av.out;rw [wAT] <;> omega)
 refine sR fL1 Z (oR Z (ze Z aj aX) (eN (zH (cT Z av (kN (zH (zV (sR fL2 Z (oM Z aj (oA Z Z (eN (sR (wID (.fx 5 .nil .stop)) Z (oM Z az (oM Z aw (oM Z Z (bnK be fun ae aY bH=>?_))))))))))))))))
 have bq:=bB.le ao
 have q:=bq.el (fun _=>rfl) (wBD aY)
 obtain ⟨bS,bW,bu,bw⟩:=q
 refine oR Z (ZZ Z Z bu Z ZC zg (wDB aY)) (oL Z (aZ.ldCA (f:=0) bw Z Z ZF zg (us:=[jV ae.Number,jV ae.Kind,jV ae.Minute,jV ae.Bib,jV ae.Much,jV ae.About]) Z Z) (bnK bH fun bZ br bI=>?_))
 have bs:=bC.le ao
 refine yF (a:=ae) Z Z Z Z Z Z (zA Z zK) aZ bs Z br ?_
 rintro ah bO bY bi bM bz ⟨rfl,rfl⟩
 have ba:sW w U ah [] bi:=bz
 refine eN (ifc bI ?_ ?_)
 intro ai bJ
 refine zu (congrArg nB ai.out) (sR fL2 Z (oM Z Z (oA Z Z (eN (zM (zf (zN ?_)))))))
 have q:=wAS bJ
 obtain ⟨bN,bK,bk⟩:=q
 have q:=wCa hm ak (bD bN bk)
 obtain rfl:=q
 refine zN (zf (zN ?_))
 cases bK
 exact ⟨Z,_,(zi Z),ah,_,ba,Z,Z⟩
 intro ai bL
 refine zn (congrArg nB (nD.2 ai.out)) (Zd (zh (zJ (rR fL2 Z (oR Z (zw (zZ Z aj Z) (congrArg (jV) bG.out)) (oM Z Z (zk ?_)))))))
 have q:=nE bL
 obtain rfl:=q
 exact zJ ⟨Z,_,Z,⟨ah,Z,aw,az,aX,(ao.trans bM),ba⟩⟩
 rintro ⟨⟩ cg bQ ⟨bh,bp,bT,bU,bm,bV,bA⟩ bE
 have bb:=wEt hm ak bE
 try dsimp only at bb
 have bj:Hid (¬ ((↑(((↑p0.length:Int):Int) - 0).toNat:Int) < (↑p0.length:Int))):=zI (wBH)
 refine sR fL1 Z (oR Z (ze Z bp bm) (eN (zH (cF Z bj (ZD (zb (zb (zz (zJ (sR fL1 Z (oA Z Z (eN (zM ?_)))))))))))))
 cases bb
 exact ⟨Z,_,(zi Z),bh,_,bA,Z,Z⟩
theorem wCX (p0:List wAA) (ag:Option Addr) (ah:Nat) (p1:(wAA->Option Bool)) (ai:Value) (w:World) (U:PHeap) (hS:St0 w U []) (aq:Sl U 6 ag ah p0.length (nA wAB p0)) (au:FnOK Tryz.prog U ai wRV wRW p1) {r:Bool} (hm:wAZ p0 p1=some r):Gv Tryz.prog 136 [.slice ag p0.length ah,ai] w (wBW w [] U (fun U_ L_ v=>v=.bool r/\L_=[])):=by
 unfold wAZ at hm
 refine Gv.of Tryz.func136 Z Tryz.ntmps136 Tryz.results136 Z (sR fL1 Z (oA Z Z (eN (sR gBa Z (oM Z Z (oM Z Z (bnK hm fun x1 h2 ak=>zG 0 Z Z Z Z (zF Z Z Tryz.call170 (zA Z (zA Z zK)) Z) hS (fun hs=>wCj p0 ag ah p1 ai w U hs aq au h2) (.inr Z) ?_)))))))
 rintro U4 L5 v6 W7 aw ap ⟨rfl,rfl⟩
 have ao:sW w U U4 [] W7:=ap
 refine oR Z (Runs.geq Z Z Z) (oA Z Z (eN (zM ?_)))
 first | (obtain rfl:=nE ak) | cases ak
 exact ⟨Z,_,(zi Z),U4,_,ao,Z,Z⟩
theorem wCp (p0:List wAA) (ak:Option Addr) (am:Nat) (p1:(wAA->Option Bool)) (ai:Value) (w:World) (U:PHeap) (hS:St0 w U []) (bh:Sl U 6 ak am p0.length (nA wAB p0)) (ap:FnOK Tryz.prog U ai wRV wRW p1) {r:Bool} (hm:wAu p0 p1=some r):Gv Tryz.prog 113 [.slice ak p0.length am,ai] w (wBW w [] U (fun U_ L_ v=>v=.bool r/\L_=[])):=by
 unfold wAu at hm
 refine Gv.of Tryz.func113 Z Tryz.ntmps113 Tryz.results113 Z (sR gAj Z (ZA (cs:=[ai]) Z Z Z Z Z Z (FnOK.cells ap) hS ?_))
 intro W1 b2 bb
 have q:=bb.freeze (k:=0) rfl
 obtain ⟨U5,aq,ae,be⟩:=q
 replace ae:=Cl.of ae
 have bg:sW w U U5 [] W1:=be
 replace ae:Cl U5 b2 0 [ai]:=ae
 refine oA Z Z (eN (sR gBa Z (oM Z Z (oR Z (yD Z zK (zA Z zK)) ?_))))
 have aw:=bh.le aq
 have az:=ap.le aq
 have aY:FnOK Tryz.prog U5 (.func (.func 137) #[] #[.pointer (some ⟨b2,0,none⟩)]) wRV wRW (fun x=>wAn x p1):=⟨137,[],[.pointer (some ⟨b2,0,none⟩)],rfl,Tryz.call137,fun U1 w1 x y vs le hs ha hm=>by obtain rfl:=ha;exact wFG x p1 b2 ai w1 U1 hs (ae.le le) (az.le le) hm⟩
 refine bnK hm fun bq aX bi=>zG 0 Z Z Z Z (zF Z Z Tryz.call136 (zA Z (zA Z zK)) Z) bg (fun hs=>wCX p0 ak am (fun x=>wAn x p1) (.func (.func 137) #[] #[.pointer (some ⟨b2,0,none⟩)]) W1 U5 hs aw aY aX) (.inr Z) ?_
 rintro an bk bp av bm aZ ⟨rfl,rfl⟩
 have ba:sW w U an [] av:=aZ
 refine oR Z (ZX Z Z) (oA Z Z (eN (zM ?_)))
 cases bi
 exact ⟨Z,_,(zi Z),an,_,ba,Z,Z⟩
theorem wCk (p0:Int) (w:World) (U:PHeap) (hS:St0 w U [])  {r:Bool} (hm:wAh p0=some r):Gv Tryz.prog 118 [jV p0] w (wBW w [] U (fun U_ L_ v=>v=.bool r/\L_=[])):=by
 unfold wAh at hm
 refine Gv.of Tryz.func118 Z Tryz.ntmps118 Tryz.results118 Z (sR fL1 Z (oA Z Z (eN (sR fL3 Z (oM Z Z (oR Z (yP Z Z Z) (oA Z Z (eN (zM ?_)))))))))
 first | (obtain rfl:=nE hm) | cases hm
 exact ⟨Z,_,(zi Z),U,_,hS,Z,Z⟩
theorem wFz (p0:wAA) (w:World) (U:PHeap) (hS:St0 w U [])  {r:Bool} (hm:wBE p0=some r):Gv Tryz.prog 114 [.agg #[jV p0.Number,jV p0.Kind,jV p0.Minute,jV p0.Bib,jV p0.Much,jV p0.About]] w (wBW w [] U (fun U_ L_ v=>v=.bool r/\L_=[])):=by
 unfold wBE at hm
 refine Gv.of Tryz.func114 Z Tryz.ntmps114 Tryz.results114 Z (sR gAj Z ?_)
 let B0:List Value:=[jV p0.Number,jV p0.Kind,jV p0.Minute,jV p0.Bib,jV p0.Much,jV p0.About]
 refine ZA (cs:=B0) rfl rfl rfl rfl rfl rfl (by rfl) hS ?_
 intro W1 b2 au
 refine oA Z Z (eN (sR fL1 Z (oA Z Z (eN (zH (bnK hm fun b5 bH cQ=>CK.cut (fun σ_ w_=>∃ (U_:PHeap),σ_ 1=.pointer (some ⟨b2,0,none⟩)/\σ_ 3=jV 36000/\σ_ 17=.bool b5/\PHeap.Le U U_/\sW w U U_ [.blk b2 42 B0] w_) ?_ ?_))))))
 refine rR (wLT (.fx 6 (wVb (.nil)) .stop)) Z (oR Z (zD Z Z zP Z ZE) (oL Z (au.ldB (j:=0) Z Z Z ZS (v:=jV p0.Kind) Z) (oR Z (ZR Z Z Z) (oM Z Z ?_))))
 by_cases c9:p0.Kind=3
 have bF:=bH;rw [if_pos c9] at bF;replace c9:=zI c9
 refine oT Z c9 (oT Z c9 (ZO Z Z Z (zW Z Z (ZU c9.out) Z) (oT Z c9 (oT Z c9 (zp Z Z Z (wBb Z Z Z) (zp Z Z Z (wBb Z Z Z) (zp Z Z Z (wBb Z Z Z) (oT Z c9 (oR Z (zj Z (ZU c9.out) Z) (zk ?_))))))))))
 cases bF
 exact zJ ⟨Z,⟨U,Z,Z,Z,(zU _),au⟩⟩
 have bG:=bH;rw [if_neg c9] at bG;replace c9:=zI c9
 refine rU Z (wF Z c9) (zD Z Z zP Z ZE) (zr Z Z Z (wF Z c9) (au.ldB (j:=0) Z Z Z ZS (v:=jV p0.Kind) Z) Z (bnK bG fun dK bS cC=>zG 0 Z Z Z (wF Z c9) (zF Z Z Tryz.call118 (zA Z zK) Z) au (fun hs=>wCk p0.Kind W1 U hs bS) (.inr Z) ?_))
 rintro aX db dD bL bI ci ⟨rfl,rfl⟩
 have bi:sW w U aX [.blk b2 42 B0] bL:=ci
 refine rU Z (wF Z c9) (ZX Z Z) (zQ Z Z Z (wF Z c9) Z Z (ifc cC ?_ ?_))
 intro am cD
 refine zp Z Z Z (zW Z Z (nC am.out) Z) (zp Z Z Z (zW Z Z (nC am.out) Z) (zp Z Z Z (zW Z Z (nC am.out) Z) (rU Z (wF Z c9) (zR Z (nC am.out) Z) (oR Z (zR Z (ZI c9.out) Z) (zk ?_)))))
 cases cD
 exact zJ ⟨Z,⟨aX,Z,Z,Z,bI,bi⟩⟩
 intro am cE
 refine za Z Z Z (zS Z Z (nF (am.out))) (fun _=>zD Z Z zP Z ZE) (zr Z Z Z (zS Z Z (nF (am.out))) (bi.ldB (j:=0) Z Z Z ZS (v:=jV p0.Kind) Z) Z (za Z Z Z (zS Z Z (nF (am.out))) (fun _=>Zs Z Z Z) (rU Z (wF Z c9) (zj Z (nF (am.out)) Z) (oR Z (zR Z (ZI c9.out) Z) (zk ?_)))))
 have q:=nE cE
 obtain rfl:=q
 exact zJ ⟨Z,⟨aX,Z,Z,Z,bI,bi⟩⟩
 rintro dL bz ⟨br,aq,bO,bE,du,av⟩
 refine ifc cQ ?_ ?_
 intro be cG
 refine zu (bE.trans (congrArg nB be.out)) (rR fL1 Z (oA Z Z (eN (sR (.fl 0 (.fl 1 (.fx 2 (wTX (.fx 6 (wPn (.fx 11 (wPo gAq) .stop)) .stop)) .stop))) Z (oR Z (zD Z aq zP Z zC) (oL Z (av.ldB (j:=0) Z Z Z zO (v:=jV p0.Number) Z) (bnK cG fun x38 bT cH=>zG 0 Z Z Z Z (zF Z Z yA (zA Z (zA Z (zA Z zK))) Z) av (fun hs=>wBQ p0.Number 1 9999 bz br hs bT) (.inr Z) ?_)))))))
 rintro aY de dE bA dv cj ⟨rfl,rfl⟩
 have bj:sW w U aY [.blk b2 42 B0] bA:=cj
 refine oM Z Z (ifc cH ?_ ?_)
 intro an cJ
 refine za Z Z Z (zS Z Z (congrArg nB an.out)) (fun _=>zD Z aq zP Z ZE) (zr Z Z Z (zS Z Z (congrArg nB an.out)) (bj.ldB (j:=0) Z Z Z ZS (v:=jV p0.Kind) Z) Z (bnK cJ fun x50 bU cK=>zG 0 Z Z Z (zS Z Z (congrArg nB an.out)) (zF Z Z yA (zA Z (zA Z (zA Z zK))) Z) bj (fun hs=>wBQ p0.Kind 0 9 bA aY hs bU) (.inr Z) ?_))
 rintro aZ df dF bB dw cm ⟨rfl,rfl⟩
 have bk:sW w U aZ [.blk b2 42 B0] bB:=cm
 refine oR Z (zj Z (congrArg nB an.out) Z) (oM Z Z (ifc cK ?_ ?_))
 intro ao cL
 refine za Z Z Z (zS Z Z (congrArg nB ao.out)) (fun _=>zD Z aq zP Z zC) (zr Z Z Z (zS Z Z (congrArg nB ao.out)) (bk.ldB (j:=0) Z Z Z zO (v:=jV p0.Minute) Z) Z (bnK cL fun x62 bV cM=>zG 0 Z Z Z (zS Z Z (congrArg nB ao.out)) (zF Z Z yA (zA Z (zA Z (zA Z zK))) Z) bk (fun hs=>wBQ p0.Minute 0 10000 bB aZ hs bV) (.inr Z) ?_))
 rintro ba dg dG bC dx cn ⟨rfl,rfl⟩
 have bm:sW w U ba [.blk b2 42 B0] bC:=cn
 refine oR Z (zj Z (congrArg nB ao.out) Z) (oM Z Z (ifc cM ?_ ?_))
 intro aj cN
 refine za Z Z Z (zS Z Z (congrArg nB aj.out)) (fun _=>zD Z aq zP Z zC) (zr Z Z Z (zS Z Z (congrArg nB aj.out)) (bm.ldB (j:=0) Z Z Z zO (v:=jV p0.Much) Z) Z (zQ Z Z Z (zS Z Z (congrArg nB aj.out)) Z Z (bnK cN fun x74 bW cP=>zG 0 Z Z Z (zS Z Z (congrArg nB aj.out)) (zF Z Z yA (zA Z (zA Z (zA Z zK))) Z) bm (fun hs=>wBQ p0.Much 0 0 bC ba hs bW) (.inr Z) ?_)))
 rintro bs dh dH bM dy cp ⟨rfl,rfl⟩
 have cq:sW w U bs [.blk b2 42 B0] bM:=cp
 refine oR Z (zj Z (congrArg nB aj.out) Z) (oA Z Z (eN (zM ?_)))
 have hE:=nE cP;first | subst r | cases hE
 exact ⟨rfl,_,(zi rfl),bs,_,(cq.pick [] _ (by decide) rfl),rfl,rfl⟩
 intro aj cR
 refine zp Z Z Z (zW Z Z (congrArg nB (nD.2 aj.out)) Z) (zp Z Z Z (zW Z Z (congrArg nB (nD.2 aj.out)) Z) (zp Z Z Z (zW Z Z (congrArg nB (nD.2 aj.out)) Z) (ZO Z Z Z (zW Z Z (congrArg nB (nD.2 aj.out)) Z) (oR Z (zR Z (congrArg nB (nD.2 aj.out)) Z) (oA Z Z (eN (zM ?_)))))))
 have hE:=nE cR;first | subst r | cases hE
 exact ⟨rfl,_,(zi rfl),ba,_,(bm.pick [] _ (by decide) rfl),rfl,rfl⟩
 intro ao cS
 refine zp Z Z Z (zW Z Z (congrArg nB (nD.2 ao.out)) Z) (zp Z Z Z (zW Z Z (congrArg nB (nD.2 ao.out)) Z) (ZO Z Z Z (zW Z Z (congrArg nB (nD.2 ao.out)) Z) (oR Z (zR Z (congrArg nB (nD.2 ao.out)) Z) (oM Z Z (oN Z (oN Z (oN Z (ZO Z Z Z (zW Z Z Z Z) (oR Z (zR Z Z Z) (oA Z Z (eN (zM ?_))))))))))))
 have hE:=nE cS;first | subst r | cases hE
 exact ⟨rfl,_,(zi rfl),aZ,_,(bk.pick [] _ (by decide) rfl),rfl,rfl⟩
 intro an cU
 refine zp Z Z Z (zW Z Z (congrArg nB (nD.2 an.out)) Z) (zp Z Z Z (zW Z Z (congrArg nB (nD.2 an.out)) Z) (ZO Z Z Z (zW Z Z (congrArg nB (nD.2 an.out)) Z) (oR Z (zR Z (congrArg nB (nD.2 an.out)) Z) (oM Z Z (oN Z (oN Z (ZO Z Z Z (zW Z Z Z Z) (oR Z (zR Z Z Z) (oM Z Z (oN Z (oN Z (oN Z (ZO Z Z Z (zW Z Z Z Z) (oR Z (zR Z Z Z) (oA Z Z (eN (zM ?_)))))))))))))))))
 have hE:=nE cU;first | subst r | cases hE
 exact ⟨rfl,_,(zi rfl),aY,_,(bj.pick [] _ (by decide) rfl),rfl,rfl⟩
 intro be cV
 refine zn (bE.trans (congrArg nB (nD.2 be.out))) (kN (sR (.fl 0 (.fl 1 (.fx 2 (wTX (.fx 6 (wPn (.fx 11 (wPo gAq) .stop)) .stop)) .stop))) Z (oR Z (zD Z aq zP Z zC) (oL Z (av.ldB (j:=0) Z Z Z zO (v:=jV p0.Number) Z) (bnK cV fun x88 bX cW=>zG 0 Z Z Z Z (zF Z Z yA (zA Z (zA Z (zA Z zK))) Z) av (fun hs=>wBQ p0.Number 1 9999 bz br hs bX) (.inr Z) ?_)))))
 rintro bb dm dI bD dz cr ⟨rfl,rfl⟩
 have bp:sW w U bb [.blk b2 42 B0] bD:=cr
 refine oM Z Z (ifc cW ?_ ?_)
 intro ap cX
 refine za Z Z Z (zS Z Z (congrArg nB ap.out)) (fun _=>zD Z aq zP Z ZE) (zr Z Z Z (zS Z Z (congrArg nB ap.out)) (bp.ldB (j:=0) Z Z Z ZS (v:=jV p0.Kind) Z) Z (bnK cX fun x100 bP ct=>zG 0 Z Z Z (zS Z Z (congrArg nB ap.out)) (zF Z Z yA (zA Z (zA Z (zA Z zK))) Z) bp (fun hs=>wBQ p0.Kind 0 9 bD bb hs bP) (.inr Z) ?_))
 rintro aw cY dA bu dp bY ⟨rfl,rfl⟩
 have bg:sW w U aw [.blk b2 42 B0] bu:=bY
 refine oR Z (zj Z (congrArg nB ap.out) Z) (oM Z Z (ifc ct ?_ ?_))
 intro ak cu
 refine za Z Z Z (zS Z Z (congrArg nB ak.out)) (fun _=>zD Z aq zP Z zC) (zr Z Z Z (zS Z Z (congrArg nB ak.out)) (bg.ldB (j:=0) Z Z Z zO (v:=jV p0.Minute) Z) Z (bnK cu fun x112 bQ cw=>zG 0 Z Z Z (zS Z Z (congrArg nB ak.out)) (zF Z Z yA (zA Z (zA Z (zA Z zK))) Z) bg (fun hs=>wBQ p0.Minute 0 10000 bu aw hs bQ) (.inr Z) ?_))
 rintro az cZ dB bw dr bZ ⟨rfl,rfl⟩
 have bh:sW w U az [.blk b2 42 B0] bw:=bZ
 refine oR Z (zj Z (congrArg nB ak.out) Z) (oM Z Z (ifc cw ?_ ?_))
 intro ai cx
 refine za Z Z Z (zS Z Z (congrArg nB ai.out)) (fun _=>zD Z aq zP Z zC) (zr Z Z Z (zS Z Z (congrArg nB ai.out)) (bh.ldB (j:=0) Z Z Z zO (v:=jV p0.Much) Z) Z (zQ Z Z Z (zS Z Z (congrArg nB ai.out)) Z bO (bnK cx fun dJ bR cy=>zG 0 Z Z Z (zS Z Z (congrArg nB ai.out)) (zF Z Z yA (zA Z (zA Z (zA Z zK))) Z) bh (fun hs=>wBQ p0.Much 0 36000 bw az hs bR) (.inr Z) ?_)))
 rintro bq da dC bK dt cd ⟨rfl,rfl⟩
 have cg:sW w U bq [.blk b2 42 B0] bK:=cd
 refine oR Z (zj Z (congrArg nB ai.out) Z) (oA Z Z (eN (zM ?_)))
 have hE:=nE cy;first | subst r | cases hE
 exact ⟨rfl,_,(zi rfl),bq,_,(cg.pick [] _ (by decide) rfl),rfl,rfl⟩
 intro ai cz
 refine zp Z Z Z (zW Z Z (congrArg nB (nD.2 ai.out)) Z) (zp Z Z Z (zW Z Z (congrArg nB (nD.2 ai.out)) Z) (zp Z Z Z (zW Z Z (congrArg nB (nD.2 ai.out)) Z) (ZO Z Z Z (zW Z Z (congrArg nB (nD.2 ai.out)) Z) (oR Z (zR Z (congrArg nB (nD.2 ai.out)) Z) (oA Z Z (eN (zM ?_)))))))
 have hE:=nE cz;first | subst r | cases hE
 exact ⟨rfl,_,(zi rfl),az,_,(bh.pick [] _ (by decide) rfl),rfl,rfl⟩
 intro ak cA
 refine zp Z Z Z (zW Z Z (congrArg nB (nD.2 ak.out)) Z) (zp Z Z Z (zW Z Z (congrArg nB (nD.2 ak.out)) Z) (ZO Z Z Z (zW Z Z (congrArg nB (nD.2 ak.out)) Z) (oR Z (zR Z (congrArg nB (nD.2 ak.out)) Z) (oM Z Z (oN Z (oN Z (oN Z (ZO Z Z Z (zW Z Z Z Z) (oR Z (zR Z Z Z) (oA Z Z (eN (zM ?_))))))))))))
 have hE:=nE cA;first | subst r | cases hE
 exact ⟨rfl,_,(zi rfl),aw,_,(bg.pick [] _ (by decide) rfl),rfl,rfl⟩
 intro ap cB
 refine zp Z Z Z (zW Z Z (congrArg nB (nD.2 ap.out)) Z) (zp Z Z Z (zW Z Z (congrArg nB (nD.2 ap.out)) Z) (ZO Z Z Z (zW Z Z (congrArg nB (nD.2 ap.out)) Z) (oR Z (zR Z (congrArg nB (nD.2 ap.out)) Z) (oM Z Z (oN Z (oN Z (ZO Z Z Z (zW Z Z Z Z) (oR Z (zR Z Z Z) (oM Z Z (oN Z (oN Z (oN Z (ZO Z Z Z (zW Z Z Z Z) (oR Z (zR Z Z Z) (oA Z Z (eN (zM ?_)))))))))))))))))
 have hE:=nE cB;first | subst r | cases hE
 exact ⟨rfl,_,(zi rfl),bb,_,(bp.pick [] _ (by decide) rfl),rfl,rfl⟩
set_option maxHeartbeats 4000000
theorem wFM (p0:wAI) (aj:Option Addr) (ak:Nat) (aX:Option Addr) (aY:Nat) (w:World) (U:PHeap) (hS:St0 w U []) (bV:Sl U 2 aj ak p0.Skiers.length (nA wAD p0.Skiers)) (ct:Sl U 6 aX aY p0.Decisions.length (nA wAB p0.Decisions)) {r:(List Int)} (hm:wCC p0=some r):Gv Tryz.prog 109 [.agg #[jV p0.Deadline,.slice aj p0.Skiers.length ak,.slice aX p0.Decisions.length aY]] w (wBW w [] U (fun U_ L_ v=>∃ (A0:Option Addr) (c0:Nat),v=.slice A0 r.length c0/\L_=[.row A0 c0 3 1 (nA KL.encI r)])):=by
 unfold wCC at hm
 refine Gv.of Tryz.func109 Z Tryz.ntmps109 Tryz.results109 Z (sR gAj Z ?_)
 let B0:List Value:=[jV p0.Deadline,.slice aj p0.Skiers.length ak,.slice aX p0.Decisions.length aY]
 refine ZA (cs:=B0) rfl rfl rfl rfl rfl rfl (by rfl) hS ?_
 intro W1 b2 bp
 refine oA Z Z (eN (sR fL1 Z (oA Z Z (eN (zH (sR fL4 Z (oR Z (zD Z Z zd Z ZY) (oL Z (bp.ldB (j:=0) Z Z Z Zu (v:=.slice aj p0.Skiers.length ak) Z) (oR Z (zy Z Z ZJ) (oM Z Z (eN (zV (bnK hm fun cy bW bZ=>?_)))))))))))))
 have q:=wBr bW
 obtain ⟨az,bX⟩:=q
 replace az:=zI az
 refine CK.forN' (fun ah ai σ_ w_=>∃ (U_:PHeap) (am:Option Addr) (aq:Nat),σ_ 9=jV (↑ah:Int)/\σ_ 3=.slice am ai.length aq/\σ_ 7=.slice aj p0.Skiers.length ak/\σ_ 8=jV (↑p0.Skiers.length:Int)/\PHeap.Le U U_/\sW w U U_ [.blk b2 33 B0,.row am aq 3 1 (nA KL.encI ai)] w_) bX ?_ ?_ ?_
 have bO:=bp.nilrow 3 1
 exact ⟨U,none,0,rfl,rfl,rfl,rfl,(zU _),(bO.pick [1,0] _ (by decide) rfl)⟩
 rintro ah ai cx cz cm aw ⟨ao,am,aq,av,bG,bj,bk,bu,bq⟩ ci
 have bh:Hid ((↑ah:Int) < (↑p0.Skiers.length:Int)):=zI (wBq aw)
 replace aw:=zI aw
 have bY:Hid (w64 ((↑ah:Int) + 1)=(↑(ah + 1):Int)):=zI (by have h1:=az.out;have h2:=bh.out;rw [wAT] <;> omega)
 refine sR fL1 Z (oR Z (ze Z av bk) (eN (zH (cT Z bh (kN (zH (zV (sR gAz Z (bnK ci fun ae bm cd=>?_)))))))))
 have bK:=bV.le bu
 have q:=bK.el (fun _=>rfl) (wBD bm)
 obtain ⟨cq,cw,bM,bN⟩:=q
 refine oR Z (ZZ Z bj bM av ZJ Za (wDB bm)) (oL Z (bq.ldCA (f:=0) bN Z Z yT Za (us:=[jV ae.Bib,jV ae.Time]) Z Z) (zq (cs:=[jV 0,jV 0]) Z Z Z Z Z yE Z bq ?_))
 intro cn au bP
 let B1:List Value:=[jV ae.Bib,jV ae.Time]
 refine zo (j:=0) (vs:=B1) Z Z Z Z bP Z Z Z Z Za (zB Z) Z Z Z ?_
 intro bA bQ
 let B2:Res:=.row am aq 3 1 (nA KL.encI ai)
 have br:sW w U ao [.blk au 37 B1,.blk b2 33 B0,B2] bA:=bQ
 refine eN (rR (wDq gAr) Z (oM Z bG (oR Z (zD Z Z Zk Z zC) (oL Z (br.ldB (j:=0) Z Z Z zO (v:=jV ae.Bib) Z) (ZM (pv:=[(0,jV ae.Bib)]) (zs:=[jV 0]) (cs:=[jV ae.Bib]) Z Z Z Z Z (wAK Z wAb) zL zC Zx Z Z Z Z Z br ?_)))))
 intro bB bD bR
 let B3:Res:=.row (some ⟨bD,0,none⟩) 1 3 1 (nA KL.encI [ae.Bib])
 have bs:sW w U ao [B3,.blk au 37 B1,.blk b2 33 B0,B2] bB:=bR
 refine bnK cd fun x65 bL cg=>Zv (j:=3) (enc:=KL.encI) (xs:=ai) (ys:=[ae.Bib]) (zs:=x65) rfl rfl rfl rfl rfl yK wJz rfl rfl rfl rfl rfl rfl bs rfl rfl rfl (bs.srcR (j:=0) rfl (by decide) (wAF (f:=KL.encI) (sz:=1) (fun _=>rfl) [ae.Bib])) (fun _=>rfl) (fun _=>rfl) bL rfl ?_
 intro ba bi bC bS
 have bT:sW w U ao [B3,.blk au 37 B1,.blk b2 33 B0,.row ba bi 3 1 (nA KL.encI x65)] bC:=bS
 refine oA Z Z (zk (zh (zJ (rR fL2 Z (oR Z (zw (zZ Z av Z) (congrArg (jV) bY.out)) (oM Z Z (zk ?_)))))))
 cases cg
 exact zJ ⟨rfl,⟨ao,ba,bi,rfl,rfl,bj,bk,bu,(bT.pick [2,3] _ (by decide) rfl)⟩⟩
 rintro cA cp ⟨bz,bw,bE,bJ,bH,cr,bI,cu,bU⟩
 have bF:Hid (¬ ((↑(((↑p0.Skiers.length:Int):Int) - 0).toNat:Int) < (↑p0.Skiers.length:Int))):=zI (wBH)
 refine sR fL1 Z (oR Z (ze Z bJ bI) (eN (zH (cF Z bF (ZD (zb (zb (zz (zJ (sR fL2 Z (oM Z bH (oA Z Z (eN (zM ?_))))))))))))))
 have hE:=nE bZ;first | subst r | cases hE
 exact ⟨rfl,_,(zi rfl),bz,_,(bU.pick [1] _ (by decide) rfl),bw,bE,rfl,rfl⟩
theorem wHo (p0:List Int) (au:Option Addr) (av:Nat) (w:World) (U:PHeap) (hS:St0 w U []) (bC:Sl U 1 au av p0.length (nA KL.encI p0)) {r:Bool} (hm:wEC p0=some r):Gv Tryz.prog 115 [.slice au p0.length av] w (wBW w [] U (fun U_ L_ v=>v=.bool r/\L_=[])):=by
 unfold wEC at hm
 refine Gv.of Tryz.func115 Z Tryz.ntmps115 Tryz.results115 Z (sR fL1 Z (oA Z Z (eN (sR gAj Z (OKS.makeMap Z Z Z Z Z hS ?_)))))
 intro W1 b2 bw
 have bM:=MpR.nil wDX wDj
 refine oA Z Z (eN (zH (sR fL3 Z (oM Z Z (oR Z (zy Z Z zL) (oM Z Z (eN (zV ?_))))))))
 have q:=wDo hm
 obtain ⟨cg,ao⟩:=q
 have q:=wDn ao
 obtain ⟨aq,bF⟩:=q
 replace aq:=zI aq
 refine yS (fun ae bg σ_ w_=>∃ (U_:PHeap) (ak:Array MapEntry) (az:Nat),σ_ 9=jV (↑ae:Int)/\σ_ 3=.map (some b2)/\σ_ 7=.slice au p0.length av/\σ_ 8=jV (↑p0.length:Int)/\PHeap.Le U U_/\sW w U U_ [.obj b2 (.map ak az)] w_/\MpR ak wDX wDj bg) bF ?_ ?_ ?_
 exact ⟨U,#[],0,Z,Z,Z,Z,(zU _),bw,bM⟩
 rintro ae bg ci cm bR ap ⟨ah,ak,az,an,am,aZ,ba,bh,ag,bb⟩ bO bD
 have aw:Hid ((↑ae:Int) < (↑p0.length:Int)):=zI (wBq ap)
 replace ap:=zI ap
 have bG:Hid (w64 ((↑ae:Int) + 1)=(↑(ae + 1):Int)):=zI (by have h1:=aq.out;have h2:=aw.out;rw [wAT] <;> omega)
 refine sR fL1 Z (oR Z (ze Z an ba) (eN (zH (cT Z aw (kN (zH (zV (sR fL3 Z (bnK bO fun x41 be bH=>?_)))))))))
 have br:=bC.le bh
 have q:=br.el (fun _=>rfl) (wBD be)
 obtain ⟨bT,cd,bs,bu⟩:=q
 refine oR Z (ZZ Z aZ bs an zL zC (wDB be)) (oL Z (ag.ldC (f:=0) bu (v:=jV x41) Z Z zO Z) (oA Z Z (eN (zH (sR fL3 Z (oM Z am (oM Z Z (oL Z (ag.lookup1 (j:=0) (mk:=wDX) (mv:=wDj) (a:=x41) (z:=false) Z Z Z Z (wDO Tryz.runUnderlying122) wKB Tryz.zeroValue4 bb) (eN (ifc bH ?_ ?_))))))))))
 intro aj bI
 refine zu (congrArg nB aj.out) (sR fL1 Z (oA Z Z (eN (zM (zN (zf (zN ?_)))))))
 have q:=wAS bI
 obtain ⟨bP,bJ,bm⟩:=q
 have q:=wCa hm ao (bD bP bm)
 obtain rfl:=q
 refine zN (zf (zN ?_))
 have hE:=nE bJ;first | subst r | cases hE
 exact ⟨rfl,_,(zi rfl),ah,_,(ag.pick [] _ (by decide) rfl),rfl,rfl⟩
 intro aj bK
 refine zn (congrArg nB (nD.2 aj.out)) (kN (rR gAs rfl (zQ rfl rfl rfl rfl rfl am (zQ rfl rfl rfl rfl rfl rfl (OKS.mapPut (x:=.tmp 16) (y:=.tmp 17) (j:=0) (mk:=wDX) (mv:=wDj) (a:=x41) (v:=true) rfl rfl rfl (by first | exact .inl rfl | exact .inr rfl) ag rfl rfl rfl rfl (wDO Tryz.runUnderlying122) wKB bb rfl ?_)))))
 intro aY aX bj bN bz
 have bA:sW w U ah [.obj b2 (.map aY aX)] bj:=bz
 refine zk (zh (zJ (rR fL2 Z (oR Z (zw (zZ Z an Z) (congrArg (jV) bG.out)) (oM Z Z (zk ?_))))))
 have q:=nE bK
 obtain rfl:=q
 exact zJ ⟨Z,_,Z,⟨ah,aY,aX,Z,am,aZ,ba,bh,bA,bN⟩⟩
 rintro cj cn bS ⟨bi,bV,bU,bq,bW,bX,bp,bZ,bB,bY⟩ bE
 have bL:=wEt hm ao bE
 have bk:Hid (¬ ((↑(((↑p0.length:Int):Int) - 0).toNat:Int) < (↑p0.length:Int))):=zI (wBH)
 refine sR fL1 Z (oR Z (ze Z bq bp) (eN (zH (cF Z bk (ZD (zb (zb (zz (zJ (sR fL1 Z (oA Z Z (eN (zM ?_)))))))))))))
 have hE:=nE bL;first | subst r | cases hE
 exact ⟨rfl,_,(zi rfl),bi,_,(bB.pick [] _ (by decide) rfl),rfl,rfl⟩
theorem wGQ (p0:wAI) (aX:Option Addr) (aY:Nat) (aj:Option Addr) (ak:Nat) (w:World) (U:PHeap) (hS:St0 w U []) (ct:Sl U 2 aX aY p0.Skiers.length (nA wAD p0.Skiers)) (bV:Sl U 6 aj ak p0.Decisions.length (nA wAB p0.Decisions)) {r:(List Int)} (hm:wBw p0=some r):Gv Tryz.prog 116 [.agg #[jV p0.Deadline,.slice aX p0.Skiers.length aY,.slice aj p0.Decisions.length ak]] w (wBW w [] U (fun U_ L_ v=>∃ (A0:Option Addr) (c0:Nat),v=.slice A0 r.length c0/\L_=[.row A0 c0 3 1 (nA KL.encI r)])):=by
 unfold wBw at hm
 refine Gv.of Tryz.func116 Z Tryz.ntmps116 Tryz.results116 Z (sR gAj Z ?_)
 let B0:List Value:=[jV p0.Deadline,.slice aX p0.Skiers.length aY,.slice aj p0.Decisions.length ak]
 refine ZA (cs:=B0) rfl rfl rfl rfl rfl rfl (by rfl) hS ?_
 intro W1 b2 bp
 refine oA Z Z (eN (sR fL1 Z (oA Z Z (eN (zH (sR fL4 Z (oR Z (zD Z Z zd Z Zf) (oL Z (bp.ldB (j:=0) Z Z Z Zp (v:=.slice aj p0.Decisions.length ak) Z) (oR Z (zy Z Z ZC) (oM Z Z (eN (zV (bnK hm fun cy bW bZ=>?_)))))))))))))
 have q:=wBr bW
 obtain ⟨az,bX⟩:=q
 replace az:=zI az
 refine CK.forN' (fun ah ai σ_ w_=>∃ (U_:PHeap) (am:Option Addr) (aq:Nat),σ_ 9=jV (↑ah:Int)/\σ_ 3=.slice am ai.length aq/\σ_ 7=.slice aj p0.Decisions.length ak/\σ_ 8=jV (↑p0.Decisions.length:Int)/\PHeap.Le U U_/\sW w U U_ [.blk b2 33 B0,.row am aq 3 1 (nA KL.encI ai)] w_) bX ?_ ?_ ?_
 have bO:=bp.nilrow 3 1
 exact ⟨U,none,0,rfl,rfl,rfl,rfl,(zU _),(bO.pick [1,0] _ (by decide) rfl)⟩
 rintro ah ai cx cz cm aw ⟨ao,am,aq,av,bG,bj,bk,bu,bq⟩ ci
 have bh:Hid ((↑ah:Int) < (↑p0.Decisions.length:Int)):=zI (wBq aw)
 replace aw:=zI aw
 have bY:Hid (w64 ((↑ah:Int) + 1)=(↑(ah + 1):Int)):=zI (by have h1:=az.out;have h2:=bh.out;rw [wAT] <;> omega)
 refine sR fL1 Z (oR Z (ze Z av bk) (eN (zH (cT Z bh (kN (zH (zV (sR gAz Z (bnK ci fun aa bm cd=>?_)))))))))
 have bK:=bV.le bu
 have q:=bK.el (fun _=>rfl) (wBD bm)
 obtain ⟨cq,cw,bM,bN⟩:=q
 refine oR Z (ZZ Z bj bM av ZC zg (wDB bm)) (oL Z (bq.ldCA (f:=0) bN Z Z ZF zg (us:=[jV aa.Number,jV aa.Kind,jV aa.Minute,jV aa.Bib,jV aa.Much,jV aa.About]) Z Z) (zq (cs:=[jV 0,jV 0,jV 0,jV 0,jV 0,jV 0]) Z Z Z Z Z Zh Z bq ?_))
 intro cn au bP
 let B1:List Value:=[jV aa.Number,jV aa.Kind,jV aa.Minute,jV aa.Bib,jV aa.Much,jV aa.About]
 refine zo (j:=0) (vs:=B1) Z Z Z Z bP Z Z Z Z zg (zB Z) Z Z Z ?_
 intro bA bQ
 let B2:Res:=.row am aq 3 1 (nA KL.encI ai)
 have br:sW w U ao [.blk au 42 B1,.blk b2 33 B0,B2] bA:=bQ
 refine eN (rR (wDq gAr) Z (oM Z bG (oR Z (zD Z Z zP Z zC) (oL Z (br.ldB (j:=0) Z Z Z zO (v:=jV aa.Number) Z) (ZM (pv:=[(0,jV aa.Number)]) (zs:=[jV 0]) (cs:=[jV aa.Number]) Z Z Z Z Z (wAK Z wAb) zL zC Zx Z Z Z Z Z br ?_)))))
 intro bB bD bR
 let B3:Res:=.row (some ⟨bD,0,none⟩) 1 3 1 (nA KL.encI [aa.Number])
 have bs:sW w U ao [B3,.blk au 42 B1,.blk b2 33 B0,B2] bB:=bR
 refine bnK cd fun x65 bL cg=>Zv (j:=3) (enc:=KL.encI) (xs:=ai) (ys:=[aa.Number]) (zs:=x65) rfl rfl rfl rfl rfl yK wJz rfl rfl rfl rfl rfl rfl bs rfl rfl rfl (bs.srcR (j:=0) rfl (by decide) (wAF (f:=KL.encI) (sz:=1) (fun _=>rfl) [aa.Number])) (fun _=>rfl) (fun _=>rfl) bL rfl ?_
 intro ba bi bC bS
 have bT:sW w U ao [B3,.blk au 42 B1,.blk b2 33 B0,.row ba bi 3 1 (nA KL.encI x65)] bC:=bS
 refine oA Z Z (zk (zh (zJ (rR fL2 Z (oR Z (zw (zZ Z av Z) (congrArg (jV) bY.out)) (oM Z Z (zk ?_)))))))
 cases cg
 exact zJ ⟨rfl,⟨ao,ba,bi,rfl,rfl,bj,bk,bu,(bT.pick [2,3] _ (by decide) rfl)⟩⟩
 rintro cA cp ⟨bz,bw,bE,bJ,bH,cr,bI,cu,bU⟩
 have bF:Hid (¬ ((↑(((↑p0.Decisions.length:Int):Int) - 0).toNat:Int) < (↑p0.Decisions.length:Int))):=zI (wBH)
 refine sR fL1 Z (oR Z (ze Z bJ bI) (eN (zH (cF Z bF (ZD (zb (zb (zz (zJ (sR fL2 Z (oM Z bH (oA Z Z (eN (zM ?_))))))))))))))
 have hE:=nE bZ;first | subst r | cases hE
 exact ⟨rfl,_,(zi rfl),bz,_,(bU.pick [1] _ (by decide) rfl),bw,bE,rfl,rfl⟩
theorem wGA (p0:List Int) (ao:Option Addr) (ap:Nat) (p1:Int) (w:World) (U:PHeap) (hS:St0 w U []) (bq:Sl U 1 ao ap p0.length (nA KL.encI p0)) {r:Int} (hm:wCV p0 p1=some r):Gv Tryz.prog 91 [.slice ao p0.length ap,jV p1] w (wBW w [] U (fun U_ L_ v=>v=jV r/\L_=[])):=by
 unfold wCV at hm
 refine Gv.of Tryz.func91 Z Tryz.ntmps91 Tryz.results91 Z (sR fL1 Z (oA Z Z (eN (zH (sR fL3 Z (oM Z Z (oR Z (zy Z Z zL) (oM Z Z (eN (zV ?_))))))))))
 have q:=wDo hm
 obtain ⟨r3,aj⟩:=q
 have q:=wDn aj
 obtain ⟨am,bu⟩:=q
 replace am:=zI am
 refine yS (fun k2 _ σ_ w_=>∃ (U_:PHeap),σ_ 8=jV (↑k2:Int)/\σ_ 0=.slice ao p0.length ap/\σ_ 1=jV p1/\σ_ 7=jV (↑p0.length:Int)/\PHeap.Le U U_/\sW w U U_ [] w_) bu ?_ ?_ ?_
 exact ⟨U,Z,Z,Z,Z,(zU _),hS⟩
 rintro k2 ⟨⟩ bN bP W8 ak ⟨aq,ah,av,aw,az,ba,ai⟩ aZ br
 try dsimp only at aZ
 have au:Hid ((↑k2:Int) < (↑p0.length:Int)):=zI (wBq ak)
 replace ak:=zI ak
 have bw:Hid (w64 ((↑k2:Int) + 1)=(↑(k2 + 1):Int)):=zI (by have h1:=am.out;have h2:=au.out;rw [wAT] <;> omega)
 refine sR fL1 Z (oR Z (ze Z ah az) (eN (zH (cT Z au (kN (zH (zV (sR fL2 Z (oM Z ah (oA Z Z (eN (sR fL6 Z (oM Z aw (oM Z av (oM Z Z (bnK aZ fun bE aX bz=>?_))))))))))))))))
 have bj:=bq.le ba
 have q:=bj.el (fun _=>rfl) (wBD aX)
 obtain ⟨bH,bL,bk,bm⟩:=q
 refine oR Z (ZZ Z Z bk Z zL zC (wDB aX)) (oL Z (ai.ldC (f:=0) bm (v:=jV bE) Z Z zO Z) (oR Z (ZR Z Z Z) (eN (ifc bz ?_ ?_))))
 intro ag bA
 refine cT Z ag (sR fL2 Z (oM Z Z (oA Z Z (eN (zM (zf (zN ?_)))))))
 have q:=wAS bA
 obtain ⟨bD,bB,bg⟩:=q
 have q:=wCa hm aj (br bD bg)
 obtain rfl:=q
 refine zN (zf (zN ?_))
 cases bB
 exact ⟨Z,_,(zi Z),aq,_,ai,Z,Z⟩
 intro ag bC
 refine cF Z ag (Zd (zh (zJ (rR fL2 Z (oR Z (zw (zZ Z ah Z) (congrArg (jV) bw.out)) (oM Z Z (zk ?_)))))))
 have q:=nE bC
 obtain rfl:=q
 exact zJ ⟨Z,_,Z,⟨aq,Z,av,aw,az,ba,ai⟩⟩
 rintro ⟨⟩ bO bF ⟨bb,bi,bI,bJ,bh,bK,bp⟩ bs
 have aY:=wEt hm aj bs
 try dsimp only at aY
 have be:Hid (¬ ((↑(((↑p0.length:Int):Int) - 0).toNat:Int) < (↑p0.length:Int))):=zI (wBH)
 refine sR fL1 Z (oR Z (ze Z bi bh) (eN (zH (cF Z be (ZD (zb (zb (zz (zJ (sR fL1 Z (oA Z Z (eN (zM ?_)))))))))))))
 cases aY
 exact ⟨Z,_,(zi Z),bb,_,bp,Z,Z⟩
theorem wDs (p0:List Int) (ag:Option Addr) (ah:Nat) (p1:Int) (w:World) (U:PHeap) (hS:St0 w U []) (ap:Sl U 1 ag ah p0.length (nA KL.encI p0)) {r:Bool} (hm:wAy p0 p1=some r):Gv Tryz.prog 53 [.slice ag p0.length ah,jV p1] w (wBW w [] U (fun U_ L_ v=>v=.bool r/\L_=[])):=by
 unfold wAy at hm
 refine Gv.of Tryz.func53 Z Tryz.ntmps53 Tryz.results53 Z (sR fL1 Z (oA Z Z (eN (sR gBa Z (oM Z Z (oM Z Z (bnK hm fun x1 h2 aj=>zG 0 Z Z Z Z (zF Z Z Tryz.call91 (zA Z (zA Z zK)) Z) hS (fun hs=>wGA p0 ag ah p1 w U hs ap h2) (.inr Z) ?_)))))))
 rintro U4 L5 v6 W7 au ao ⟨rfl,rfl⟩
 have an:sW w U U4 [] W7:=ao
 refine oR Z (Runs.geq Z Z Z) (oA Z Z (eN (zM ?_)))
 first | (obtain rfl:=nE aj) | cases aj
 exact ⟨Z,_,(zi Z),U4,_,an,Z,Z⟩
theorem wJG (p0:wAA) (p1:wAI) (bg:Nat) (aj:Option Addr) (am:Nat) (ak:Option Addr) (an:Nat) (w:World) (U:PHeap) (hS:St0 w U []) (bF:Cl U bg 0 [jV p1.Deadline,.slice aj p1.Skiers.length am,.slice ak p1.Decisions.length an]) (bG:Sl U 2 aj am p1.Skiers.length (nA wAD p1.Skiers)) (bH:Sl U 6 ak an p1.Decisions.length (nA wAB p1.Decisions)) {r:Bool} (hm:wDJ p0 p1=some r):Gv Tryz.prog 117 [.agg #[jV p0.Number,jV p0.Kind,jV p0.Minute,jV p0.Bib,jV p0.Much,jV p0.About],.pointer (some ⟨bg,0,none⟩)] w (wBW w [] U (fun U_ L_ v=>v=.bool r/\L_=[])):=by
 unfold wDJ at hm
 refine Gv.of Tryz.func117 Z Tryz.ntmps117 Tryz.results117 Z (sR gAj Z ?_)
 let B0:List Value:=[jV p0.Number,jV p0.Kind,jV p0.Minute,jV p0.Bib,jV p0.Much,jV p0.About]
 refine ZA (cs:=B0) rfl rfl rfl rfl rfl rfl (by rfl) hS ?_
 intro W1 b2 bb
 refine oA Z Z (eN (zH (sR gAs Z (oR Z (zD Z Z zP Z ZE) (oL Z (bb.ldB (j:=0) Z Z Z ZS (v:=jV p0.Kind) Z) (bnK hm fun x5 h6 bL=>zG 0 Z Z Z Z (zF Z Z Tryz.call118 (zA Z zK) Z) bb (fun hs=>wCk p0.Kind W1 U hs h6) (.inr Z) ?_))))))
 rintro U8 L9 bT aq az bw ⟨rfl,rfl⟩
 have aw:sW w U U8 [.blk b2 42 B0] aq:=bw
 refine eN (ifc bL ?_ ?_)
 intro av bI
 refine zu (congrArg nB av.out) (zH (ZT ZH [1,2,3,1,2,3] (.fl 0 (.fl 2 (.fl 3 (.fx 1 gAk .stop)))) (by kernel_rfl) ?_))
 have ai:=aw.drew
 generalize hw_W18:({ aq with drawn:=aq.drawn + 1 }:World)=bj at ai ⊢
 have bm:=bF.le az
 refine oL Z (ai.ldCA (f:=0) bm Z Z ZW zm (us:=[jV p1.Deadline,.slice aj p1.Skiers.length am,.slice ak p1.Decisions.length an]) Z Z) (oR Z (zD Z Z zP Z zC) (oL Z (ai.ldB (j:=0) Z Z Z zO (v:=jV p0.Bib) Z) ?_))
 have bp:=bG.le az
 have bq:=bH.le az
 refine bnK bI fun ao br bJ=>zG 0 Z Z Z Z (zF Z Z Tryz.call109 (zA Z zK) Z) ai (fun hs=>wFM p1 aj am ak an bj U8 hs bp bq br) (.inr Z) ?_
 rintro bh bN bU au bQ bz ⟨aX,ba,rfl,rfl⟩
 have bA:sW w U bh [.row aX ba 3 1 (nA KL.encI ao),.blk b2 42 B0] au:=bz
 have q:=bA.freezeR (k:=0) (n:=ao.length) rfl (wAF (f:=KL.encI) (sz:=1) (fun _=>rfl) ao) (by decide)
 obtain ⟨aY,bR,bM,bB⟩:=q
 have bC:sW w U aY [.blk b2 42 B0] au:=bB
 refine bnK bJ fun x40 bs bK=>zG 0 Z Z Z Z (zF Z Z Tryz.call53 (zA Z (zA Z zK)) Z) bC (fun hs=>wDs ao aX ba p0.Bib au aY hs bM bs) (.inr Z) ?_
 rintro aZ bO bV bk bS bD ⟨rfl,rfl⟩
 have bE:sW w U aZ [.blk b2 42 B0] bk:=bD
 refine oA Z Z (eN (zM (zN ?_)))
 have hE:=nE bK;first | subst r | cases hE
 exact ⟨rfl,_,(zi rfl),aZ,_,(bE.pick [] _ (by decide) rfl),rfl,rfl⟩
 intro av be
 refine zn (congrArg nB (nD.2 av.out)) (kN (sR fL4 Z (oR Z (zD Z Z zP Z zC) (oL Z (aw.ldB (j:=0) Z Z Z zO (v:=jV p0.Bib) Z) (oR Z (ZR Z Z Z) (oA Z Z (eN (zM ?_))))))))
 first | (obtain rfl:=nE be) | cases be
 exact ⟨rfl,_,(zi rfl),U8,_,(aw.pick [] _ (by decide) rfl),rfl,rfl⟩
theorem wJH (p0:wAA) (w:World) (U:PHeap) (hS:St0 w U [])  {r:Bool} (hm:wDK p0=some r):Gv Tryz.prog 119 [.agg #[jV p0.Number,jV p0.Kind,jV p0.Minute,jV p0.Bib,jV p0.Much,jV p0.About]] w (wBW w [] U (fun U_ L_ v=>v=.bool r/\L_=[])):=by
 unfold wDK at hm
 refine Gv.of Tryz.func119 Z Tryz.ntmps119 Tryz.results119 Z (sR gAj Z ?_)
 let B0:List Value:=[jV p0.Number,jV p0.Kind,jV p0.Minute,jV p0.Bib,jV p0.Much,jV p0.About]
 refine ZA (cs:=B0) rfl rfl rfl rfl rfl rfl (by rfl) hS ?_
 intro W1 b2 an
 refine oA Z Z (eN (zH (sR gAs Z (oR Z (zD Z Z zP Z ZE) (oL Z (an.ldB (j:=0) Z Z Z ZS (v:=jV p0.Kind) Z) (bnK hm fun x5 h6 ba=>zG 0 Z Z Z Z (zF Z Z Tryz.call118 (zA Z zK) Z) an (fun hs=>wCk p0.Kind W1 U hs h6) (.inr Z) ?_))))))
 rintro U8 L9 bi ak bg aw ⟨rfl,rfl⟩
 have ae:sW w U U8 [.blk b2 42 B0] ak:=aw
 refine eN (ifc ba ?_ ?_)
 intro ai ao
 refine zu (congrArg nB ai.out) (sR fL4 Z (oR Z (zD Z Z zP Z zC) (oL Z (ae.ldB (j:=0) Z Z Z zO (v:=jV p0.About) Z) (oR Z (ZR Z Z Z) (oA Z Z (eN (zM (zN ?_))))))))
 first | (obtain rfl:=nE ao) | cases ao
 exact ⟨rfl,_,(zi rfl),U8,_,(ae.pick [] _ (by decide) rfl),rfl,rfl⟩
 intro ai aY
 refine zn (congrArg nB (nD.2 ai.out)) (kN (sR (wID gAl) Z (oR Z (zD Z Z zP Z zC) (oL Z (ae.ldB (j:=0) Z Z Z zO (v:=jV p0.About) Z) (oR Z (zD Z Z zP Z zC) (oL Z (ae.ldB (j:=0) Z Z Z zO (v:=jV p0.Number) Z) (oR Z (Zj Z Z Z) (bnK aY fun bk au aZ=>zG 0 Z Z Z Z (zF Z Z yA (zA Z (zA Z (zA Z zK))) Z) ae (fun hs=>wBQ p0.About 1 (w64 (p0.Number - 1)) ak U8 hs au) (.inr Z) ?_))))))))
 rintro aj bb bj aq bh az ⟨rfl,rfl⟩
 have aX:sW w U aj [.blk b2 42 B0] aq:=az
 refine oA Z Z (eN (zM ?_))
 have hE:=nE aZ;first | subst r | cases hE
 exact ⟨rfl,_,(zi rfl),aj,_,(aX.pick [] _ (by decide) rfl),rfl,rfl⟩
theorem wLB (p0:wAI) (am:Option Addr) (an:Nat) (ae:Option Addr) (ag:Nat) (w:World) (U:PHeap) (hS:St0 w U []) (dW:Sl U 2 am an p0.Skiers.length (nA wAD p0.Skiers)) (dX:Sl U 6 ae ag p0.Decisions.length (nA wAB p0.Decisions)) {r:Int} (hm:wEi p0=some r):Gv Tryz.prog 80 [.agg #[jV p0.Deadline,.slice am p0.Skiers.length an,.slice ae p0.Decisions.length ag]] w (wBW w [] U (fun U_ L_ v=>v=jV r/\L_=[])):=by
 unfold wEi at hm
 refine Gv.of Tryz.func80 Z Tryz.ntmps80 Tryz.results80 Z (sR gAj Z ?_)
 let B0:List Value:=[jV p0.Deadline,.slice am p0.Skiers.length an,.slice ae p0.Decisions.length ag]
 refine ZA (cs:=B0) rfl rfl rfl rfl rfl rfl (by rfl) hS ?_
 intro W1 b2 dN
 have q:=dN.freeze (k:=0) rfl
 obtain ⟨U5,cD,au,dR⟩:=q
 replace au:=Cl.of au
 have cA:sW w U U5 [] W1:=dR
 replace au:Cl U5 b2 0 B0:=au
 refine oA Z Z (eN (zH (zV (sR (wDq (.fx 3 (wVZ (.nil)) .stop)) Z (oR Z (zD Z Z zd Z ZY) (oL Z (cA.ldC (f:=1) au (v:=.slice am p0.Skiers.length an) Z Z Zu Z) (oR Z (zy Z Z ZJ) (bnK hm fun fJ cL ep=>zG 0 Z Z Z Z (zF Z Z yA (zA Z (zA Z (zA Z zK))) Z) cA (fun hs=>wBQ (↑p0.Skiers.length:Int) 1 30 W1 U5 hs cL) (.inr Z) ?_))))))))
 rintro az fc fA bX bK dL ⟨rfl,rfl⟩
 have av:sW w U az [] bX:=dL
 refine oR Z (ZX Z Z) (oM Z Z (ifc ep ?_ ?_))
 intro ah eJ
 refine za Z Z Z (zS Z Z (nC ah.out)) (fun _=>zD Z Z zd Z Zf) ?_
 have bz:=au.le bK
 refine zr Z Z Z (zS Z Z (nC ah.out)) (av.ldC (f:=2) bz (v:=.slice ae p0.Decisions.length ag) Z Z Zp Z) Z (za Z Z Z (zS Z Z (nC ah.out)) (fun _=>zy Z Z ZC) (za Z Z Z (zS Z Z (nC ah.out)) (fun _=>Zz Z Z Z) (oR Z (zR Z (nC ah.out) Z) (oA Z Z (eN (ifc eJ ?_ ?_))))))
 intro bq eK
 refine cT Z bq (sR fL1 Z (oA Z Z (eN (zM (zf (zN ?_))))))
 cases eK
 exact ⟨Z,_,(zi Z),az,_,av,Z,Z⟩
 intro bq eM
 refine cF Z bq (sR (.fl 0 (.fl 1 (.fx 2 (wTY (.fx 7 (wVd (.fx 13 (wTd (.nil)) .stop)) .stop)) .stop))) Z (oR Z (zD Z Z zd Z zC) (oL Z (av.ldC (f:=0) bz (v:=jV p0.Deadline) Z Z zO Z) (bnK eM fun x26 dh eO=>zG 0 Z Z Z Z (zF Z Z yA (zA Z (zA Z (zA Z zK))) Z) av (fun hs=>wBQ p0.Deadline 0 10000 bX az hs dh) (.inr Z) ?_))))
 rintro aZ fg fD bZ bL dO ⟨rfl,rfl⟩
 have bD:sW w U aZ [] bZ:=dO
 refine oR Z (ZX Z Z) (oM Z Z (ifc eO ?_ ?_))
 intro ai eP
 refine za Z Z Z (zS Z Z (nC ai.out)) (fun _=>zD Z Z zd Z ZY) ?_
 have cq:=bz.le bL
 refine zr Z Z Z (zS Z Z (nC ai.out)) (bD.ldC (f:=1) cq (v:=.slice am p0.Skiers.length an) Z Z Zu Z) Z ?_
 have dm:=dW.le cD
 have dp:=dm.le bK
 have cr:=dp.le bL
 have dC:FnOK Tryz.prog aZ (.func (.func 112) #[] #[]) wNc wNd wDI:=⟨112,[],[],rfl,Tryz.call112,fun U1 w1 x y vs le hs ha hm=>by obtain rfl:=ha;exact wJF x w1 U1 hs  hm⟩
 refine bnK eP fun x43 dr eQ=>zG 0 Z Z Z (zS Z Z (nC ai.out)) (zF Z Z Tryz.call111 (zA Z (zA Z zK)) Z) bD (fun hs=>wGP p0.Skiers am an wDI (.func (.func 112) #[] #[]) bZ aZ hs cr dC dr) (.inr Z) ?_
 rintro ba fh fE cd bM dP ⟨rfl,rfl⟩
 have bE:sW w U ba [] cd:=dP
 refine za Z Z Z (zS Z Z (nC ai.out)) (fun _=>ZX Z Z) (oR Z (zR Z (nC ai.out) Z) (oM Z Z (ifc eQ ?_ ?_)))
 intro aj eR
 refine za Z Z Z (zS Z Z (nC aj.out)) (fun _=>zD Z Z zd Z Zf) ?_
 have ct:=cq.le bM
 refine zr Z Z Z (zS Z Z (nC aj.out)) (bE.ldC (f:=2) ct (v:=.slice ae p0.Decisions.length ag) Z Z Zp Z) Z ?_
 have dt:=dX.le cD
 have du:=dt.le bK
 have dv:=du.le bL
 have cu:=dv.le bM
 have dD:FnOK Tryz.prog ba (.func (.func 114) #[] #[]) wRV wRW wBE:=⟨114,[],[],rfl,Tryz.call114,fun U1 w1 x y vs le hs ha hm=>by obtain rfl:=ha;exact wFz x w1 U1 hs  hm⟩
 refine bnK eR fun x61 dw eS=>zG 0 Z Z Z (zS Z Z (nC aj.out)) (zF Z Z Tryz.call113 (zA Z (zA Z zK)) Z) bE (fun hs=>wCp p0.Decisions ae ag wBE (.func (.func 114) #[] #[]) cd ba hs cu dD dw) (.inr Z) ?_
 rintro bg fj fG cg bN dQ ⟨rfl,rfl⟩
 have bF:sW w U bg [] cg:=dQ
 refine za Z Z Z (zS Z Z (nC aj.out)) (fun _=>ZX Z Z) (oR Z (zR Z (nC aj.out) Z) (oA Z Z (eN (ifc eS ?_ ?_))))
 intro br eT
 refine zn (nC br.out) (sR (.fl 0 (.fx 1 (.fx 2 (.fl 3 (.fl 4 (.fx 5 gAo .stop))) .stop) .stop)) Z ?_)
 have cw:=ct.le bN
 refine oL Z (bF.ldCA (f:=0) cw Z Z ZW zm (us:=B0) Z Z) ?_
 have dx:=cr.le bM
 have cx:=dx.le bN
 have cy:=cu.le bN
 refine bnK eT fun x77 dy eU=>zG 0 Z Z Z Z (zF Z Z Tryz.call109 (zA Z zK) Z) bF (fun hs=>wFM p0 am an ae ag cg bg hs cx cy dy) (.inr Z) ?_
 rintro cG fk fH bj bO dS ⟨bR,cj,rfl,rfl⟩
 have dT:sW w U cG [.row bR cj 3 1 (nA KL.encI x77)] bj:=dS
 have q:=dT.freezeR (k:=0) (n:=x77.length) rfl (wAF (f:=KL.encI) (sz:=1) (fun _=>rfl) x77) (by decide)
 obtain ⟨bT,bP,eX,dU⟩:=q
 have dV:sW w U bT [] bj:=dU
 refine bnK eU fun x95 dz eV=>zG 0 Z Z Z Z (zF Z Z Tryz.call115 (zA Z zK) Z) dV (fun hs=>wHo x77 bR cj bj bT hs eX dz) (.inr Z) ?_
 rintro bh fm fw bV bG dE ⟨rfl,rfl⟩
 have bA:sW w U bh [] bV:=dE
 refine oM Z Z (ifc eV ?_ ?_)
 intro ak dY
 refine zp Z Z Z (zW Z Z (congrArg nB ak.out) Z) (ZO Z Z Z (zW Z Z (congrArg nB ak.out) Z) (ZO Z Z Z (zW Z Z (congrArg nB ak.out) Z) (oR Z (zj Z (congrArg nB ak.out) Z) (oA Z Z (eN (zu Z (sR fL1 Z (oA Z Z (eN (zM (zf (zN ?_))))))))))))
 cases dY
 exact ⟨Z,_,(zi Z),bh,_,bA,Z,Z⟩
 intro ak dZ
 have cJ:=cw.le bO
 have cK:=cJ.le bP
 have cm:=cK.le bG
 refine zr Z Z Z (zS Z Z (congrArg nB (nD.2 ak.out))) (bA.ldCA (f:=0) cm Z Z ZW zm (us:=B0) Z Z) Z ?_
 have cM:=cx.le bO
 have cN:=cM.le bP
 have cn:=cN.le bG
 have cP:=cy.le bO
 have cQ:=cP.le bP
 have cp:=cQ.le bG
 refine bnK dZ fun x117 cR eh=>zG 0 Z Z Z (zS Z Z (congrArg nB (nD.2 ak.out))) (zF Z Z Tryz.call116 (zA Z zK) Z) bA (fun hs=>wGQ p0 am an ae ag bV bh hs cn cp cR) (.inr Z) ?_
 rintro cE eZ fy bi bH dF ⟨bQ,ci,rfl,rfl⟩
 have dG:sW w U cE [.row bQ ci 3 1 (nA KL.encI x117)] bi:=dF
 have q:=dG.freezeR (k:=0) (n:=x117.length) rfl (wAF (f:=KL.encI) (sz:=1) (fun _=>rfl) x117) (by decide)
 obtain ⟨bS,bI,eW,dH⟩:=q
 have dI:sW w U bS [] bi:=dH
 refine bnK eh fun x135 cS er=>zG 0 Z Z Z (zS Z Z (congrArg nB (nD.2 ak.out))) (zF Z Z Tryz.call115 (zA Z zK) Z) dI (fun hs=>wHo x117 bQ ci bi bS hs eW cS) (.inr Z) ?_
 rintro aX fb fz bW bJ dJ ⟨rfl,rfl⟩
 have bB:sW w U aX [] bW:=dJ
 refine oR Z (zR Z (congrArg nB (nD.2 ak.out)) Z) (oA Z Z (eN (ifc er ?_ ?_)))
 intro bk eu
 refine zu (congrArg nB bk.out) (sR fL1 Z (oA Z Z (eN (zM (zf (zN ?_))))))
 cases eu
 exact ⟨Z,_,(zi Z),aX,_,bB,Z,Z⟩
 intro bk ew
 refine zn (congrArg nB (nD.2 bk.out)) (zH (CK.fresh fun eY cB=>?_))
 have bs:eY 1=.pointer (some ⟨b2,0,none⟩):=(cB 1).trans rfl
 clear cB
 refine rR (wDq (.fx 3 gAc .stop)) Z (oR Z (zD Z bs zd Z Zf) ?_)
 have cU:=cm.le bH
 have cV:=cU.le bI
 have bu:=cV.le bJ
 refine oL Z (bB.ldC (f:=2) bu (v:=.slice ae p0.Decisions.length ag) Z Z Zp Z) (oR Z (yD Z zK (zA bs zK)) ?_)
 have cW:=cp.le bH
 have cX:=cW.le bI
 have bw:=cX.le bJ
 have cY:=cn.le bH
 have cZ:=cY.le bI
 have da:=cZ.le bJ
 have dA:FnOK Tryz.prog aX (.func (.func 117) #[] #[.pointer (some ⟨b2,0,none⟩)]) wRV wRW (fun x=>wDJ x p0):=⟨117,[],[.pointer (some ⟨b2,0,none⟩)],rfl,Tryz.call117,fun U1 w1 x y vs le hs ha hm=>by obtain rfl:=ha;exact wJG x p0 b2 am an ae ag w1 U1 hs (bu.le le) (da.le le) (bw.le le) hm⟩
 refine bnK ew fun fK db ey=>zG 0 Z Z Z Z (zF Z Z Tryz.call113 (zA Z (zA Z zK)) Z) bB (fun hs=>wCp p0.Decisions ae ag (fun x=>wDJ x p0) (.func (.func 117) #[] #[.pointer (some ⟨b2,0,none⟩)]) bW aX hs bw dA db) (.inr Z) ?_
 rintro aY fd fB bY cC dK ⟨rfl,rfl⟩
 have bC:sW w U aY [] bY:=dK
 refine oR Z (ZX Z Z) (oA Z Z (eN (ifc ey ?_ ?_)))
 intro bm eA
 refine zn (nC bm.out) (sR gBa Z (oR Z (zD Z bs zd Z Zf) ?_))
 have de:=bu.le cC
 refine oL Z (bC.ldC (f:=2) de (v:=.slice ae p0.Decisions.length ag) Z Z Zp Z) ?_
 have df:=bw.le cC
 have dB:FnOK Tryz.prog aY (.func (.func 119) #[] #[]) wRV wRW wDK:=⟨119,[],[],rfl,Tryz.call119,fun U1 w1 x y vs le hs ha hm=>by obtain rfl:=ha;exact wJH x w1 U1 hs  hm⟩
 refine bnK eA fun fL dg eB=>zG 0 Z Z Z Z (zF Z Z Tryz.call113 (zA Z (zA Z zK)) Z) bC (fun hs=>wCp p0.Decisions ae ag wDK (.func (.func 119) #[] #[]) bY aY hs df dB dg) (.inr Z) ?_
 rintro bb ff fC cH ft dM ⟨rfl,rfl⟩
 have cz:sW w U bb [] cH:=dM
 refine oR Z (ZX Z Z) (oA Z Z (eN (ifc eB ?_ ?_)))
 intro bp eC
 refine zn (nC bp.out) (Zd (zh (zJ (sR fL1 Z (oA Z Z (eN (zM ?_)))))))
 cases eC
 exact ⟨Z,_,(zi Z),bb,_,cz,Z,Z⟩
 intro bp eD
 refine zu (nF (bp.out)) (sR fL1 Z (oA Z Z (eN (zM (zf (zN ?_))))))
 cases eD
 exact ⟨Z,_,(zi Z),bb,_,cz,Z,Z⟩
 intro bm eE
 refine zu (nF (bm.out)) (sR fL1 Z (oA Z Z (eN (zM (zf (zN ?_))))))
 cases eE
 exact ⟨Z,_,(zi Z),aY,_,bC,Z,Z⟩
 intro br eF
 refine zu (nF (br.out)) (sR fL1 Z (oA Z Z (eN (zM (zf (zN ?_))))))
 cases eF
 exact ⟨Z,_,(zi Z),bg,_,bF,Z,Z⟩
 intro aj eG
 refine zp Z Z Z (zW Z Z (nF (aj.out)) Z) (zp Z Z Z (zW Z Z (nF (aj.out)) Z) (ZO Z Z Z (zW Z Z (nF (aj.out)) Z) (zp Z Z Z (zW Z Z (nF (aj.out)) Z) (oR Z (zj Z (nF (aj.out)) Z) (oA Z Z (eN (zu Z (sR fL1 Z (oA Z Z (eN (zM (zf (zN ?_)))))))))))))
 cases eG
 exact ⟨Z,_,(zi Z),ba,_,bE,Z,Z⟩
 intro ai eH
 refine zp Z Z Z (zW Z Z (nF (ai.out)) Z) (zp Z Z Z (zW Z Z (nF (ai.out)) Z) (ZO Z Z Z (zW Z Z (nF (ai.out)) Z) (zp Z Z Z (zW Z Z (nF (ai.out)) Z) (oR Z (zj Z (nF (ai.out)) Z) (oM Z Z (oN Z (oN Z (ZO Z Z Z (zW Z Z Z Z) (oN Z (oR Z (zj Z Z Z) (oA Z Z (eN (zu Z (sR fL1 Z (oA Z Z (eN (zM (zf (zN ?_)))))))))))))))))))
 cases eH
 exact ⟨Z,_,(zi Z),aZ,_,bD,Z,Z⟩
 intro ah eI
 refine zp Z Z Z (zW Z Z (nF (ah.out)) Z) (zp Z Z Z (zW Z Z (nF (ah.out)) Z) (zp Z Z Z (zW Z Z (nF (ah.out)) Z) (zp Z Z Z (zW Z Z (nF (ah.out)) Z) (oR Z (zj Z (nF (ah.out)) Z) (oA Z Z (eN (zu Z (sR fL1 Z (oA Z Z (eN (zM (zf (zN ?_)))))))))))))
 cases eI
 exact ⟨Z,_,(zi Z),az,_,av,Z,Z⟩
theorem wDY (p0:List wAH) (ae:Option Addr) (ag:Nat) (p1:((wAH × wAH)->Option Int)) (ah:Value) (w:World) (U:PHeap) (hS:St ⟨w,[.row ae ag 37 2 (nA wAD p0)],U⟩ U [.row ae ag 37 2 (nA wAD p0)] w) (aj:FnOK Tryz.prog U ah wUq wUr p1) (ak:∃ g cb,ah=.func (.func g) #[] cb) {r:List wAH} (hm:wBK p0 p1=some r):Gv Tryz.prog 81 [.slice ae p0.length ag,ah] w (wBW w [.row ae ag 37 2 (nA wAD p0)] U (fun U_ L_ v=>v=.tuple #[]/\L_=[.row ae ag 37 2 (nA wAD r)]/\r.length=p0.length)) :=
 wKh (sz:=2) (fun _=>rfl) (fun x v h=>List.all_eq_true.1 (show (wAD x).all (·.oneCell')=true from rfl) v h) (fun _ _ _=>rfl) (fun _ _ _ _ h=>h.1) (fun enc a1 a2 cf b g cb k1 k2 k3 d w h1 h2 h3 h4 h5 h6=>Go.Proofs.Tryz.slices_SortFunc_total_f81 2 Tryz.isAgg37 Tryz.sizeOf37 enc a1 a2 cf b g cb k1 k2 k3 d w h1 h2 h3 h4 h5 h6) (fun p c v w=>Go.Proofs.Tryz.slices_SortFunc_none_f81 (α:=Int) p c v w) hS aj (by decide) ak hm
set_option maxHeartbeats 4000000
theorem wGR (p0:Int) (w:World) (U:PHeap) (hS:St0 w U [])  {r:Bool} (hm:wDT p0=some r):Gv Tryz.prog 74 [jV p0] w (wBW w [] U (fun U_ L_ v=>v=.bool r/\L_=[])):=by
 unfold wDT at hm
 refine Gv.of Tryz.func74 Z Tryz.ntmps74 Tryz.results74 Z (sR fL1 Z (oA Z Z (eN (sR fL4 Z (oM Z Z (oM Z Z (oR Z (Zs Z Z Z) (oA Z Z (eN (zM ?_))))))))))
 first | (obtain rfl:=nE hm) | cases hm
 exact ⟨Z,_,(zi Z),U,_,hS,Z,Z⟩
theorem wCR (p0:Int) (p1:Int) (w:World) (U:PHeap) (hS:St0 w U [])  {r:Int} (hm:wAz p0 p1=some r):Gv Tryz.prog 33 [jV p0,jV p1] w (wBW w [] U (fun U_ L_ v=>v=jV r/\L_=[])):=by
 unfold wAz at hm
 refine Gv.of Tryz.func33 Z Tryz.ntmps33 Tryz.results33 Z (sR fL1 Z (oA Z Z (eN (sR gAp Z (oM Z Z (bnK hm fun x1 h2 bi=>zG 0 Z Z Z Z (zF Z Z Tryz.call74 (zA Z zK) Z) hS (fun hs=>wGR p0 w U hs h2) (.inr Z) ?_))))))
 rintro U4 L5 v6 W7 bu aX ⟨rfl,rfl⟩
 have aw:sW w U U4 [] W7:=aX
 refine oA Z Z (eN (sR gAp Z (oM Z Z (bnK bi fun bB au aY=>zG 0 Z Z Z Z (zF Z Z Tryz.call74 (zA Z zK) Z) aw (fun hs=>wGR p1 W7 U4 hs au) (.inr Z) ?_))))
 rintro aa bq bw aq bs az ⟨rfl,rfl⟩
 have ae:sW w U aa [] aq:=az
 refine oA Z Z (eN (zH (sR fL1 Z (oM Z Z (eN (ifc aY ?_ ?_))))))
 intro ag aZ
 refine zu (congrArg nB ag.out) (zH (sR fL1 Z (oM Z Z (eN (ifc aZ ?_ ?_)))))
 intro ah ba
 refine zu (congrArg nB ah.out) (sR fL1 Z (oA Z Z (eN (zM (zN (zN ?_))))))
 cases ba
 exact ⟨Z,_,(zi Z),aa,_,ae,Z,Z⟩
 intro ah bb
 refine zn (congrArg nB (nD.2 ah.out)) (kN (sR fL1 Z (oA Z Z (eN (zM (zN ?_))))))
 cases bb
 exact ⟨Z,_,(zi Z),aa,_,ae,Z,Z⟩
 intro ag be
 refine zn (congrArg nB (nD.2 ag.out)) (kN (zH (sR fL1 Z (oM Z Z (eN (ifc be ?_ ?_))))))
 intro ai bg
 refine zu (congrArg nB ai.out) (sR fL1 Z (oA Z Z (eN (zM (zN ?_)))))
 cases bg
 exact ⟨Z,_,(zi Z),aa,_,ae,Z,Z⟩
 intro ai bh
 refine zn (congrArg nB (nD.2 ai.out)) (kN (zH (sR fL3 Z (oM Z Z (oM Z Z (oR Z (ze Z Z Z) (eN (ifc bh ?_ ?_))))))))
 intro aj bj
 refine cT Z aj (sR fL1 Z (oA Z Z (eN (zM (zN ?_)))))
 cases bj
 exact ⟨Z,_,(zi Z),aa,_,ae,Z,Z⟩
 intro aj bk
 refine cF Z aj (kN (zH (sR fL3 Z (oM Z Z (oM Z Z (oR Z (Zz Z Z Z) (eN (ifc bk ?_ ?_))))))))
 intro ak bm
 refine cT Z ak (sR fL1 Z (oA Z Z (eN (zM (zN ?_)))))
 cases bm
 exact ⟨Z,_,(zi Z),aa,_,ae,Z,Z⟩
 intro ak bp
 refine cF Z ak (kN (sR fL1 Z (oA Z Z (eN (zM ?_)))))
 cases bp
 exact ⟨Z,_,(zi Z),aa,_,ae,Z,Z⟩
theorem wIm (p0:wAH) (p1:wAH) (w:World) (U:PHeap) (hS:St0 w U [])  {r:Int} (hm:wCl p0 p1=some r):Gv Tryz.prog 82 [.agg #[jV p0.Bib,jV p0.Time],.agg #[jV p1.Bib,jV p1.Time]] w (wBW w [] U (fun U_ L_ v=>v=jV r/\L_=[])):=by
 unfold wCl at hm
 refine Gv.of Tryz.func82 Z Tryz.ntmps82 Tryz.results82 Z (sR gAt Z ?_)
 let B0:List Value:=[jV p0.Bib,jV p0.Time]
 refine ZA (cs:=B0) rfl rfl rfl rfl rfl rfl (by rfl) hS ?_
 intro W1 b2 av
 let B1:List Value:=[jV p1.Bib,jV p1.Time]
 refine ZA (cs:=B1) rfl rfl rfl rfl rfl rfl (by rfl) av ?_
 intro W5 b6 ag
 refine oA Z Z (eN (sR (wET gAk) Z (oR Z (zD Z Z Zk Z zC) (oL Z (ag.ldB (j:=1) Z Z Z zO (v:=jV p0.Bib) Z) (oR Z (zD Z Z Zk Z zC) (oL Z (ag.ldB (j:=0) Z Z Z zO (v:=jV p1.Bib) Z) (bnK hm fun x9 ap aw=>zG 0 Z Z Z Z (zF Z Z Tryz.call33 (zA Z (zA Z zK)) Z) ag (fun hs=>wCR p0.Bib p1.Bib W5 U hs ap) (.inr Z) ?_)))))))
 rintro aj az aZ ak aY aq ⟨rfl,rfl⟩
 have au:sW w U aj [.blk b6 37 B1,.blk b2 37 B0] ak:=aq
 refine oA Z Z (eN (zM ?_))
 have hE:=nE aw;first | subst r | cases hE
 exact ⟨rfl,_,(zi rfl),aj,_,(au.pick [] _ (by decide) rfl),rfl,rfl⟩
theorem wCq (p0:List wAA) (ae:Option Addr) (ag:Nat) (p1:((wAA × wAA)->Option Int)) (ah:Value) (w:World) (U:PHeap) (hS:St ⟨w,[.row ae ag 42 6 (nA wAB p0)],U⟩ U [.row ae ag 42 6 (nA wAB p0)] w) (aj:FnOK Tryz.prog U ah wUs wUt p1) (ak:∃ g cb,ah=.func (.func g) #[] cb) {r:List wAA} (hm:wAv p0 p1=some r):Gv Tryz.prog 83 [.slice ae p0.length ag,ah] w (wBW w [.row ae ag 42 6 (nA wAB p0)] U (fun U_ L_ v=>v=.tuple #[]/\L_=[.row ae ag 42 6 (nA wAB r)]/\r.length=p0.length)) :=
 wKh (sz:=6) (fun _=>rfl) (fun x v h=>List.all_eq_true.1 (show (wAB x).all (·.oneCell')=true from rfl) v h) (fun _ _ _=>rfl) (fun _ _ _ _ h=>h.1) (fun enc a1 a2 cf b g cb k1 k2 k3 d w h1 h2 h3 h4 h5 h6=>Go.Proofs.Tryz.slices_SortFunc_total_f83 6 Tryz.isAgg42 Tryz.sizeOf42 enc a1 a2 cf b g cb k1 k2 k3 d w h1 h2 h3 h4 h5 h6) (fun p c v w=>Go.Proofs.Tryz.slices_SortFunc_none_f83 (α:=Int) p c v w) hS aj (by decide) ak hm
theorem wIn (p0:wAA) (p1:wAA) (w:World) (U:PHeap) (hS:St0 w U [])  {r:Int} (hm:wCm p0 p1=some r):Gv Tryz.prog 84 [.agg #[jV p0.Number,jV p0.Kind,jV p0.Minute,jV p0.Bib,jV p0.Much,jV p0.About],.agg #[jV p1.Number,jV p1.Kind,jV p1.Minute,jV p1.Bib,jV p1.Much,jV p1.About]] w (wBW w [] U (fun U_ L_ v=>v=jV r/\L_=[])):=by
 unfold wCm at hm
 refine Gv.of Tryz.func84 Z Tryz.ntmps84 Tryz.results84 Z (sR gAt Z ?_)
 let B0:List Value:=[jV p0.Number,jV p0.Kind,jV p0.Minute,jV p0.Bib,jV p0.Much,jV p0.About]
 refine ZA (cs:=B0) rfl rfl rfl rfl rfl rfl (by rfl) hS ?_
 intro W1 b2 av
 let B1:List Value:=[jV p1.Number,jV p1.Kind,jV p1.Minute,jV p1.Bib,jV p1.Much,jV p1.About]
 refine ZA (cs:=B1) rfl rfl rfl rfl rfl rfl (by rfl) av ?_
 intro W5 b6 ag
 refine oA Z Z (eN (sR (wET gAk) Z (oR Z (zD Z Z zP Z zC) (oL Z (ag.ldB (j:=1) Z Z Z zO (v:=jV p0.Number) Z) (oR Z (zD Z Z zP Z zC) (oL Z (ag.ldB (j:=0) Z Z Z zO (v:=jV p1.Number) Z) (bnK hm fun x9 ap aw=>zG 0 Z Z Z Z (zF Z Z Tryz.call33 (zA Z (zA Z zK)) Z) ag (fun hs=>wCR p0.Number p1.Number W5 U hs ap) (.inr Z) ?_)))))))
 rintro aj az aZ ak aY aq ⟨rfl,rfl⟩
 have au:sW w U aj [.blk b6 42 B1,.blk b2 42 B0] ak:=aq
 refine oA Z Z (eN (zM ?_))
 have hE:=nE aw;first | subst r | cases hE
 exact ⟨rfl,_,(zi rfl),aj,_,(au.pick [] _ (by decide) rfl),rfl,rfl⟩
theorem wKC (p0:wAI) (aX:Option Addr) (aZ:Nat) (aY:Option Addr) (ba:Nat) (w:World) (U:PHeap) (hS:St0 w U []) (ct:Sl U 2 aX aZ p0.Skiers.length (nA wAD p0.Skiers)) (cu:Sl U 6 aY ba p0.Decisions.length (nA wAB p0.Decisions)) {r:wAI × Int} (hm:wEM p0=some r):Gv Tryz.prog 42 [.agg #[jV p0.Deadline,.slice aX p0.Skiers.length aZ,.slice aY p0.Decisions.length ba]] w (wBW w [] U (fun U_ L_ v=>∃ (bJ:Option Addr) (bU:Nat) (bK:Option Addr) (bV:Nat),v=.tuple #[.agg #[jV r.1.Deadline,.slice bJ r.1.Skiers.length bU,.slice bK r.1.Decisions.length bV],jV r.2]/\L_=[.row bJ bU 37 2 (nA wAD r.1.Skiers),.row bK bV 42 6 (nA wAB r.1.Decisions)])):=by
 unfold wEM at hm
 refine Gv.of Tryz.func42 Z Tryz.ntmps42 Tryz.results42 Z (sR gAt Z ?_)
 let B0:List Value:=[jV p0.Deadline,.slice aX p0.Skiers.length aZ,.slice aY p0.Decisions.length ba]
 refine ZA (cs:=B0) rfl rfl rfl rfl rfl rfl (by rfl) hS ?_
 intro W1 b2 eh
 let B1:List Value:=[jV 0,.slice none 0 0,.slice none 0 0]
 refine zq (cs:=B1) Z Z Z Z Z Zg Z eh ?_
 intro W5 b6 cr
 refine oA Z Z (eN (zH (sR gAp Z (oL Z (cr.ldBA (j:=1) Z Z Z ZW zm (vs:=B0) Z Z) (bnK hm fun x9 dg eH=>zG 0 Z Z Z Z (zF Z Z Tryz.call80 (zA Z zK) Z) cr (fun hs=>wLB p0 aX aZ aY ba W5 U hs ct cu dg) (.inr Z) ?_)))))
 rintro bm fm fN cE cx dK ⟨rfl,rfl⟩
 have ci:sW w U bm [.blk b6 33 B1,.blk b2 33 B0] cE:=dK
 refine oA Z Z (eN (sR fL2 Z (oM Z Z (oR Z (Zs Z Z Z) (eN (ifc eH ?_ ?_))))))
 intro bG eI
 refine zn (ZI (fun h=>h bG.out)) (kN ?_)
 have q:=bnd eI
 obtain ⟨⟨bh,aw⟩,eS,cw⟩:=q
 try dsimp only at cw
 refine CK.cut (fun σ_ w_=>∃ (U_:PHeap) (au:Nat) (an:Nat) (ao:Nat) (ak:Nat) (am:Nat),σ_ 1=.pointer (some ⟨b2,0,none⟩)/\σ_ 2=.pointer (some ⟨b6,0,none⟩)/\σ_ 5=.pointer (some ⟨au,0,none⟩)/\PHeap.Le bm U_/\sW w U U_ [.blk b6 33 B1,.blk b2 33 B0,.blk au 33 [jV p0.Deadline,.slice (some ⟨an,0,none⟩) bh.length ao,.slice (some ⟨ak,0,none⟩) aw.length am],.row (some ⟨an,0,none⟩) ao 37 2 (nA wAD bh),.row (some ⟨ak,0,none⟩) am 42 6 (nA wAB aw)] w_) ?_ ?_
 refine bnK eS fun aj dz eQ=>bnK eQ fun x40 dA eR=>CK.webp (U0:=bm) (L0:=[.blk b6 33 B1,.blk b2 33 B0]) ZH [pW 12 [] (.pointer (some ⟨b2,0,none⟩)),pW 13 [0] (jV p0.Deadline),pW 14 [] (.pointer (some ⟨b2,1,none⟩)),pW 15 [2] (.slice aX p0.Skiers.length aZ),pW 16 [3] (jV (↑p0.Skiers.length:Int)),⟨some 17,[17],[4],false,[],true,[],fun σ R=>∃ ap,σ 17=.slice (some ⟨ap,0,none⟩) aj.length aj.length/\R=[.row (some ⟨ap,0,none⟩) aj.length 37 2 (nA wAD aj)]⟩,pW 18 [] (.pointer (some ⟨b2,2,none⟩)),pW 19 [6] (.slice aY p0.Decisions.length ba),pW 20 [7] (jV (↑p0.Decisions.length:Int)),⟨some 21,[21],[8],false,[],true,[],fun σ R=>∃ aq,σ 21=.slice (some ⟨aq,0,none⟩) x40.length x40.length/\R=[.row (some ⟨aq,0,none⟩) x40.length 42 6 (nA wAB x40)]⟩,⟨some 22,[22],[1],true,[5,9],false,[],fun σ R=>∃ ap aq,σ 22=.agg #[jV p0.Deadline,.slice (some ⟨ap,0,none⟩) aj.length aj.length,.slice (some ⟨aq,0,none⟩) x40.length x40.length]/\R=[.row (some ⟨ap,0,none⟩) aj.length 37 2 (nA wAD aj),.row (some ⟨aq,0,none⟩) x40.length 42 6 (nA wAB x40)]⟩,⟨some 5,[5],[],false,[],false,[],fun σ R=>∃ bg,σ 5=.pointer (some ⟨bg,0,none⟩)/\R=[.blk bg 33 B1]⟩] [false] [(1,.pointer (some ⟨b2,0,none⟩)),(2,.pointer (some ⟨b6,0,none⟩))] (by kernel_rfl) ⟨rfl,rfl,trivial⟩ ci ⟨?_,?_,?_,?_,?_,?_,?_,?_,?_,?_,?_,?_,trivial⟩ ?_
 refine wpW ?_
 rintro _ _ _ _ _ ⟨cU,_⟩ _ _ _ fg
 exact oR Z (zD Z cU zd Z zC) fg
 refine wpW ?_
 rintro _ _ _ _ _ _ _ ⟨⟨_,⟨cV,_⟩⟩,_⟩ dF eT
 exact oL Z (dF.ldB (j:=1) Z Z cV zO (v:=jV p0.Deadline) Z) eT
 refine wpW ?_
 rintro _ _ _ _ _ ⟨cP,_⟩ _ _ _ eU
 exact oR Z (zD Z cP zd Z ZY) eU
 refine wpW ?_
 rintro _ _ _ _ _ _ _ ⟨⟨_,⟨cW,_⟩⟩,_⟩ dG eV
 exact oL Z (dG.ldB (j:=1) Z Z cW Zu (v:=.slice aX p0.Skiers.length aZ) Z) eV
 refine wpW ?_
 rintro _ _ _ _ _ _ _ ⟨⟨_,⟨cX,_⟩⟩,_⟩ _ eW
 exact oR Z (zy Z cX ZJ) eW
 rintro _ _ _ cC cA _ _ _ ⟨⟨_,⟨bY,_⟩⟩,_⟩ rfl dH eX
 refine OKS.makeSliceZ (sz:=2) (enc:=wAD) (z:=(⟨0,0⟩:wAH)) (v:=jV 0) rfl rfl rfl rfl rfl (wDO ZJ) wKz rfl rfl rfl rfl (by decide) (by decide) bY bY dz dH ?_
 intro cG bS dI
 have dJ:sW w U cC (.row (some ⟨bS,0,none⟩) aj.length 37 2 (nA wAD aj) :: .blk b6 33 B1 :: .blk b2 33 B0 :: cA) cG:=dI
 exact eX _ _ _ _ (zU _) dJ ⟨bS,Z,Z⟩
 refine wpW ?_
 rintro _ _ _ _ _ ⟨cQ,_⟩ _ _ _ eY
 exact oR Z (zD Z cQ zd Z Zf) eY
 refine wpW ?_
 rintro _ _ _ _ _ _ _ ⟨⟨_,⟨cY,_⟩⟩,_⟩ dL eZ
 exact oL Z (dL.ldB (j:=1) Z Z cY Zp (v:=.slice aY p0.Decisions.length ba) Z) eZ
 refine wpW ?_
 rintro _ _ _ _ _ _ _ ⟨⟨_,⟨cZ,_⟩⟩,_⟩ _ fb
 exact oR Z (zy Z cZ ZC) fb
 rintro _ _ _ cD cB _ _ _ ⟨⟨_,⟨bZ,_⟩⟩,_⟩ rfl dM fc
 refine OKS.makeSliceZ (sz:=6) (enc:=wAB) (z:=(⟨0,0,0,0,0,0⟩:wAA)) (v:=jV 0) rfl rfl rfl rfl rfl (wDO ZC) wLA rfl rfl rfl rfl (by decide) (by decide) bZ bZ dA dM ?_
 intro cH bT dN
 have dO:sW w U cD (.row (some ⟨bT,0,none⟩) x40.length 42 6 (nA wAB x40) :: .blk b6 33 B1 :: .blk b2 33 B0 :: cB) cH:=dN
 exact fc _ _ _ _ (zU _) dO ⟨bT,Z,Z⟩
 rintro _ _ _ _ _ _ _ _ ⟨⟨_,⟨de,_⟩⟩,_⟩ ⟨_,_,⟨ap,db,rfl⟩,⟨_,_,⟨aq,da,rfl⟩,rfl,rfl⟩,rfl⟩ dP fd
 exact oR Z (Zi (pv:=[(0,jV p0.Deadline),(1,.slice (some ⟨ap,0,none⟩) aj.length aj.length),(2,.slice (some ⟨aq,0,none⟩) x40.length x40.length)]) (z:=B1) (cs:=[jV p0.Deadline,.slice (some ⟨ap,0,none⟩) aj.length aj.length,.slice (some ⟨aq,0,none⟩) x40.length x40.length]) Z (wAK de (wAK db (wAK da wAb))) Zg wIJ Z Z) (fd _ _ _ _ (zU _) dP ⟨ap,aq,Z,Z⟩)
 rintro _ _ _ _ _ _ _ _ _ rfl dQ ff
 refine zq (cs:=B1) Z Z Z Z Z Zg Z dQ ?_
 intro fz cN dR
 exact ff _ _ _ _ (zU _) dR ⟨cN,Z,Z⟩
 rintro fk bP bF ⟨cR,cS,_⟩ fh _ ⟨fB,rfl⟩ _ ⟨fC,rfl⟩ _ ⟨fD,rfl⟩ _ ⟨fE,rfl⟩ _ ⟨fG,rfl⟩ _ _ _ ⟨fH,rfl⟩ _ ⟨fJ,rfl⟩ _ ⟨fK,rfl⟩ _ _ _ ⟨ap,aq,df,rfl⟩ _ ⟨bg,cd,rfl⟩ dS
 let B2:Res:=.row (some ⟨aq,0,none⟩) x40.length 42 6 (nA wAB x40)
 let B3:Res:=.row (some ⟨ap,0,none⟩) aj.length 37 2 (nA wAD aj)
 have dT:sW w U bF [.blk bg 33 B1,B3,B2,.blk b6 33 B1,.blk b2 33 B0] bP:=dS
 show OKS _ _ _ _ _ _ (.fx 12 .nil .stop) fk bP
 let B4:List Value:=[jV p0.Deadline,.slice (some ⟨ap,0,none⟩) aj.length aj.length,.slice (some ⟨aq,0,none⟩) x40.length x40.length]
 refine zo (j:=0) (vs:=B4) Z Z Z Z dT Z cd df Z zm (zB Z) Z Z Z ?_
 intro cJ dU
 have dV:sW w U bF [.blk bg 33 B4,B3,B2,.blk b6 33 B1,.blk b2 33 B0] cJ:=dU
 refine zk ?_
 have cg:=nE eR
 simp only [nG] at cg
 obtain ⟨dB,dC⟩:=cg
 subst dB
 subst dC
 exact zJ ⟨rfl,⟨bF,bg,ap,aj.length,aq,x40.length,cR,cS,cd,fh,(dV.pick [3,4,0,1,2] _ (by decide) rfl)⟩⟩
 rintro fQ fA ⟨az,au,an,ao,ak,am,bW,bX,bq,cy,bA⟩
 refine sR (wET (.fx 4 .nil .stop)) Z (oR Z (zD Z bq zd Z ZY) (oL Z (bA.ldB (j:=2) Z Z Z Zu (v:=.slice (some ⟨an,0,none⟩) bh.length ao) Z) (oR Z (zD Z bW zd Z ZY) (oL Z (bA.ldB (j:=1) Z Z Z Zu (v:=.slice aX p0.Skiers.length aZ) Z) ?_))))
 have dh:=ct.le cx
 have dm:=dh.le cy
 refine bnK cw fun bi dp eJ=>OKS.copyM (j:=3) (f:=wAD) (m:=bh) (ys:=p0.Skiers) (z:=bi) (a:=0) (n:=bh.length) rfl rfl rfl rfl rfl rfl ZJ Za bA rfl (fun _=>rfl) (fun _=>rfl) rfl dp rfl (by simp) (.inr (by simp)) rfl (bA.srcS dm) rfl ?_
 intro bQ dW eF
 let B5:Res:=.row (some ⟨an,0,none⟩) ao 37 2 (nA wAD bi)
 let B6:Res:=.row (some ⟨ak,0,none⟩) am 42 6 (nA wAB aw)
 have dX:sW w U az [.blk b6 33 B1,.blk b2 33 B0,.blk au 33 [jV p0.Deadline,.slice (some ⟨an,0,none⟩) bh.length ao,.slice (some ⟨ak,0,none⟩) aw.length am],B5,B6] bQ:=dW
 let B7:Res:=.blk au 33 [jV p0.Deadline,.slice (some ⟨an,0,none⟩) bi.length ao,.slice (some ⟨ak,0,none⟩) aw.length am]
 have bB:sW w U az [.blk b6 33 B1,.blk b2 33 B0,B7,B5,B6] bQ:=by simp only [B7,eF];exact dX
 refine eN (sR (wET (.fx 4 .nil .stop)) Z (oR Z (zD Z bq zd Z Zf) (oL Z (bB.ldB (j:=2) Z Z Z Zp (v:=.slice (some ⟨ak,0,none⟩) aw.length am) Z) (oR Z (zD Z bW zd Z Zf) (oL Z (bB.ldB (j:=1) Z Z Z Zp (v:=.slice aY p0.Decisions.length ba) Z) ?_)))))
 have dr:=cu.le cx
 have dt:=dr.le cy
 refine bnK eJ fun bj du eK=>OKS.copyM (j:=4) (f:=wAB) (m:=aw) (ys:=p0.Decisions) (z:=bj) (a:=0) (n:=aw.length) rfl rfl rfl rfl rfl rfl ZC zg bB rfl (fun _=>rfl) (fun _=>rfl) rfl du rfl (by simp) (.inr (by simp)) rfl (bB.srcS dt) rfl ?_
 intro bw dY eG
 let B8:Res:=.row (some ⟨ak,0,none⟩) am 42 6 (nA wAB bj)
 have dZ:sW w U az [.blk b6 33 B1,.blk b2 33 B0,B7,B5,B8] bw:=dY
 let B9:Res:=.blk au 33 [jV p0.Deadline,.slice (some ⟨an,0,none⟩) bi.length ao,.slice (some ⟨ak,0,none⟩) bj.length am]
 have cj:sW w U az [.blk b6 33 B1,.blk b2 33 B0,B9,B5,B8] bw:=by simp only [B9,eG];exact dZ
 refine eN (sR gAs Z (oR Z (zD Z bq zd Z ZY) (oL Z (cj.ldB (j:=2) Z Z Z Zu (v:=.slice (some ⟨an,0,none⟩) bi.length ao) Z) ?_)))
 have dD:FnOK Tryz.prog az (.func (.func 82) #[] #[]) wUq wUr (fun x=>wCl x.1 x.2):=⟨82,[],[],rfl,Tryz.call82,fun U1 w1 x y vs le hs ha hm=>by obtain rfl:=ha;exact wIm x.1 x.2 w1 U1 hs  hm⟩
 refine bnK eK fun bI dv eM=>?_
 have ep:sW w U az [B5,.blk b6 33 B1,.blk b2 33 B0,B9,B8] bw:=cj.pick [3,0,1,2,4] _ (by decide) rfl
 refine zG 1 Z Z Z Z (zF Z Z Tryz.call81 (zA Z (zA Z zK)) Z) ep (fun hs=>wDY bi (some ⟨an,0,none⟩) ao (fun x=>wCl x.1 x.2) (.func (.func 82) #[] #[]) bw az hs dD ⟨_,_,Z⟩ dv) (.inl Z) ?_
 rintro bp ft fO bz fL er ⟨rfl,rfl,dw⟩
 let bb:Res:=.row (some ⟨an,0,none⟩) ao 37 2 (nA wAD bI)
 have eu:sW w U bp [bb,.blk b6 33 B1,.blk b2 33 B0,B9,B8] bz:=er
 let br:Res:=.blk au 33 [jV p0.Deadline,.slice (some ⟨an,0,none⟩) bI.length ao,.slice (some ⟨ak,0,none⟩) bj.length am]
 have cm:sW w U bp [bb,.blk b6 33 B1,.blk b2 33 B0,br,B8] bz:=by simp only [br,dw];exact eu
 refine eN (sR gAs Z (oR Z (zD Z bq zd Z Zf) (oL Z (cm.ldB (j:=3) Z Z Z Zp (v:=.slice (some ⟨ak,0,none⟩) bj.length am) Z) ?_)))
 have dE:FnOK Tryz.prog bp (.func (.func 84) #[] #[]) wUs wUt (fun x=>wCm x.1 x.2):=⟨84,[],[],rfl,Tryz.call84,fun U1 w1 x y vs le hs ha hm=>by obtain rfl:=ha;exact wIn x.1 x.2 w1 U1 hs  hm⟩
 refine bnK eM fun cz dx eO=>?_
 have ew:sW w U bp [B8,bb,.blk b6 33 B1,.blk b2 33 B0,br] bz:=cm.pick [4,0,1,2,3] _ (by decide) rfl
 refine zG 1 Z Z Z Z (zF Z Z Tryz.call83 (zA Z (zA Z zK)) Z) ew (fun hs=>wCq bj (some ⟨ak,0,none⟩) am (fun x=>wCm x.1 x.2) (.func (.func 84) #[] #[]) bz bp hs dE ⟨_,_,Z⟩ dx) (.inl Z) ?_
 rintro bu fw fP bR fM ey ⟨rfl,rfl,dy⟩
 let bC:Res:=.row (some ⟨ak,0,none⟩) am 42 6 (nA wAB cz)
 have eA:sW w U bu [bC,bb,.blk b6 33 B1,.blk b2 33 B0,br] bR:=ey
 let av:List Value:=[jV p0.Deadline,.slice (some ⟨an,0,none⟩) bI.length ao,.slice (some ⟨ak,0,none⟩) cz.length am]
 have cn:sW w U bu [bC,bb,.blk b6 33 B1,.blk b2 33 B0,.blk au 33 av] bR:=by simp only [av,dy];exact eA
 refine eN (sR gAp Z (oL Z (cn.ldBA (j:=4) Z Z bq ZW zm (vs:=av) Z Z) (zo (j:=2) (vs:=av) Z Z Z Z cn Z bX Z Z zm (zB Z) Z Z Z ?_)))
 intro cK eB
 have cp:sW w U bu [bC,bb,.blk b6 33 av,.blk b2 33 B0,.blk au 33 av] cK:=eB
 refine oA Z Z (eN (zM ?_))
 cases eO
 exact ⟨rfl,_,(wHs (rs:=[.cell 2 33,.tmp 3]) (vs:=[.agg av.toArray,jV 0]) ⟨⟨_,bX,(wEL ZW zm (cp.blkAt (k:=2) rfl) (vs:=av) rfl rfl)⟩,⟨rfl,trivial⟩⟩ rfl),bu,_,(cp.pick [1,0] _ (by decide) rfl),(some ⟨an,0,none⟩),ao,(some ⟨ak,0,none⟩),am,rfl,rfl⟩
 intro bG eP
 refine cT Z bG (sR gAw Z (oR Z (Zi (pv:=[]) (z:=B1) (cs:=B1) Z wAb Zg wIJ Z Z) (oM Z Z (zo (j:=0) (vs:=B1) Z Z Z Z ci Z Z Z Z zm (zB Z) Z Z Z ?_))))
 intro cL eC
 have eD:sW w U bm [.blk b6 33 B1,.blk b2 33 B0] cL:=eC
 refine oA Z Z (eN (zM (zN ?_)))
 have eE:=eD.nilrow 37 2
 have cq:=eE.nilrow 42 6
 cases eP
 exact ⟨rfl,_,(wHs (rs:=[.cell 2 33,.tmp 3]) (vs:=[.agg B1.toArray,jV x9]) ⟨⟨_,rfl,(wEL ZW zm (cq.blkAt (k:=2) rfl) (vs:=B1) rfl rfl)⟩,⟨rfl,trivial⟩⟩ rfl),bm,_,(cq.pick [1,0] _ (by decide) rfl),none,0,none,0,rfl,rfl⟩
theorem wCh {S E:Type} (PY:S->PHeap->List Res->Prop) (PE:E->PHeap->List Res->Prop) (f:S->(Int × wAA)->Option (S ⊕ E)) (y:Nat) (s0:S) (p1:List wAA) (aX:Nat) (ao:Option Addr) (ap:Nat) (w:World) (L:List Res) (U:PHeap) (hS:St ⟨w,L,U⟩ U L w) (hP:PY s0 U L) (hY:YOK Tryz.prog y wUu PY PE f U) (bg:Cl U aX 0 [.slice ao p1.length ap]) (bD:Sl U 6 ao ap p1.length (nA wAB p1)) {r:S ⊕ E} (hm:wAe f s0 p1=some r):Gv Tryz.prog 85 [.func (.yield y) #[] #[],.pointer (some ⟨aX,0,none⟩)] w (ItS w L U PY PE r):=by
 unfold wAe at hm
 refine Gv.of Tryz.func85 Z Tryz.ntmps85 Tryz.results85 Z (sR fL4 Z (oL Z (hS.ldC (f:=0) bg (v:=.slice ao p1.length ap) Z Z Zp Z) (oR Z (zy Z Z ZC) (oR Z (Zj Z Z Z) (oA Z Z (eN (zV (yI (fun (aq,bm) σ_ w_=>∃ (U_:PHeap) (au:List Res),σ_ 0=.func (.yield y) #[] #[]/\σ_ 1=.pointer (some ⟨aX,0,none⟩)/\σ_ 3=jV aq/\PHeap.Le U U_/\St ⟨w,L,U⟩ U_ au w_/\PY bm U_ au) hm ?_ ?_))))))))
 exact ⟨U,L,Z,Z,Z,(zU _),hS,hP⟩
 rintro ⟨aq,bm⟩ bS bT bO ⟨bp,au,aZ,ba,ai,an,ak,bb⟩ az bh
 try dsimp only at az
 refine zH (sR fL2 Z (oM Z ai (oR Z (Runs.geq Z Z Z) (eN ?_))))
 by_cases aa:0 <= aq
 have bi:=az;rw [if_pos aa] at bi;replace aa:=zI aa
 refine cT Z aa (kN (zH (zV (sR (wLT gAm) Z (oM Z aZ (oM Z ai ?_))))))
 have bs:=bg.le an
 refine oL Z (ak.ldC (f:=0) bs (v:=.slice ao p1.length ap) Z ba Zp Z) (oM Z ai (bnK bi fun ae aw bE=>?_))
 have bu:=bD.le an
 have q:=bu.el (fun _=>rfl) (wBD aw)
 obtain ⟨bP,bR,bz,bA⟩:=q
 refine oR Z (ZQ Z Z bz Z ZC zg (wFJ aw) (wFT aw)) (oL Z (ak.ldCA (f:=0) bA Z Z ZF zg (us:=[jV ae.Number,jV ae.Kind,jV ae.Minute,jV ae.Bib,jV ae.Much,jV ae.About]) Z Z) (bnK bE fun bN bw am=>OKS.yieldT 0 (a:=(aq,ae)) Z Z Z Z Z Z (zA Z (zA Z zK)) ak hY an bb Z bw Z ?_))
 rintro ah av bQ aY bJ be aj
 rcases bN with bK | bK
 try dsimp only at am aj
 obtain ⟨rfl,bH⟩:=aj
 have bB:St ⟨w,L,U⟩ ah av aY:=be
 refine oR Z (ZX Z Z) (eN (zn Z (Zd (zh (zJ (rR fL3 Z (oM Z ai (oR Z (Zj Z Z Z) (oA Z Z (zk ?_))))))))))
 have q:=nE am
 obtain rfl:=q
 exact zJ ⟨Z,_,Z,⟨ah,av,aZ,ba,Z,(an.trans bJ),bB,bH⟩⟩
 try dsimp only at am aj
 obtain ⟨rfl,bI⟩:=aj
 have bC:St ⟨w,L,U⟩ ah av aY:=be
 refine oR Z (ZX Z Z) (eN (zu Z (zM (zf (zN ?_)))))
 have q:=wAS am
 obtain ⟨bL,bF,bq⟩:=q
 have q:=bh bL bq
 obtain rfl:=q
 refine zN (zf ?_)
 cases bF
 exact ⟨Z,_,(wNE),ah,_,bC,bI⟩
 have bj:=az;rw [if_neg aa] at bj;replace aa:=zI aa
 refine cF Z aa (ZD (zb ?_))
 have q:=wAS bj
 obtain ⟨bM,bG,br⟩:=q
 have q:=bh bM br
 obtain rfl:=q
 refine zb (zz ?_)
 cases bG
 exact ⟨Z,_,(wNE),bp,_,ak,bb⟩
theorem wCr (p0:List wAA) (ag:Option Addr) (ah:Nat) (w:World) (U:PHeap) (hS:St0 w U []) (aq:Sl U 6 ag ah p0.length (nA wAB p0)) {r:Unit} (hm:wAf p0=some r):Gv Tryz.prog 43 [.slice ag p0.length ah] w (wBW w [] U (fun U_ L_ v=>∃ (b0:Nat),v=.func (.func 85) #[] #[.pointer (some ⟨b0,0,none⟩)]/\L_=[]/\Cl U_ b0 0 [.slice ag p0.length ah])):=by
 unfold wAf at hm
 refine Gv.of Tryz.func43 rfl Tryz.ntmps43 Tryz.results43 rfl (sR gAj rfl (ZA (cs:=[.slice ag p0.length ah]) rfl rfl rfl rfl rfl rfl (by rfl) hS ?_))
 intro W1 b2 an
 have q:=an.freeze (k:=0) rfl
 obtain ⟨U5,au,ae,ao⟩:=q
 replace ae:=Cl.of ae
 have ap:sW w U U5 [] W1:=ao
 replace ae:Cl U5 b2 0 [.slice ag p0.length ah]:=ae
 refine oA Z Z (eN (sR fL2 Z (oR Z (yD Z zK (zA Z zK)) (oA Z Z (eN (zM ?_))))))
 cases hm
 exact ⟨Z,_,(zi Z),U5,_,ap,b2,Z,Z,ae⟩
theorem wLC (p0:wAI) (bK:Option Addr) (bM:Nat) (bL:Option Addr) (bN:Nat) (w:World) (U:PHeap) (hS:St0 w U []) (fK:Sl U 2 bK bM p0.Skiers.length (nA wAD p0.Skiers)) (fL:Sl U 6 bL bN p0.Decisions.length (nA wAB p0.Decisions)) {r:(Option wAL) × Int} (hm:wED p0=some r):Gv Tryz.prog 21 [.agg #[jV p0.Deadline,.slice bK p0.Skiers.length bM,.slice bL p0.Decisions.length bN]] w (wBW w [] U (fun U_ L_ v=>match r.1 with | none=>v=.tuple #[.pointer none,jV r.2]/\L_=[] | some d=>∃ (b0:Nat) (A0p01:Option Addr) (c0p01:Nat) (A0p02:Option Addr) (c0p02:Nat) (m0p1:Nat) (es0p1:Array MapEntry) (ck0p1:Nat) (m0p2:Nat) (es0p2:Array MapEntry) (ck0p2:Nat) (hs0p2:List (Int × Hd)),v=.tuple #[.pointer (some ⟨b0,0,none⟩),jV r.2]/\L_=[.blk b0 114 [jV d.Record.Deadline,.slice A0p01 d.Record.Skiers.length c0p01,.slice A0p02 d.Record.Decisions.length c0p02,.map (some m0p1),.map (some m0p2)],.row A0p01 c0p01 37 2 (nA wAD d.Record.Skiers),.obj m0p1 (.map es0p1 ck0p1),wEa m0p2 es0p2 ck0p2 42 6 wAB wCu hs0p2 d.about]/\Sl U_ 6 A0p02 c0p02 d.Record.Decisions.length (nA wAB d.Record.Decisions)/\MpR es0p1 wFk wFy d.at_)):=by
 unfold wED at hm
 refine Go.KX.Gv.ofM Tryz.func21 Z Tryz.ntmps21 Tryz.results21 (zB Z) (sR (.fx 0 gAa .stop) Z ?_)
 let B0:List Value:=[jV p0.Deadline,.slice bK p0.Skiers.length bM,.slice bL p0.Decisions.length bN]
 refine ZA (cs:=B0) rfl rfl rfl rfl rfl rfl (by rfl) hS ?_
 intro W1 b2 cJ
 refine oA Z Z (oA Z Z (eN (sR (.fl 0 (.fx 1 (wPl (.fx 5 gAm .stop)) .stop)) Z (oL Z (cJ.ldBA (j:=0) Z Z Z ZW zm (vs:=B0) Z Z) ?_))))
 have q:=bnd hm
 obtain ⟨⟨x5,x6⟩,h7,cN⟩:=q
 try dsimp only at cN
 refine zG 0 Z Z Z Z (zF Z Z Tryz.call42 (zA Z zK) Z) cJ (fun hs=>wKC p0 bK bM bL bN W1 U hs fK fL h7) (.inr Z) ?_
 rintro U9 gq gZ dm gT eT ⟨br,bz,bi,bj,rfl,rfl⟩
 let B1:Res:=.row br bz 37 2 (nA wAD x5.Skiers)
 let B2:Res:=.row bi bj 42 6 (nA wAB x5.Decisions)
 have eU:sW w U U9 [B1,B2,.blk b2 33 B0] dm:=eT
 refine oM Z Z (oR Z (ZB Z Z (v:=.agg #[jV x5.Deadline,.slice br x5.Skiers.length bz,.slice bi x5.Decisions.length bj]) Z) (oR Z (ZB Z Z (v:=jV x6) Z) (zq (cs:=[jV 0,.slice none 0 0,.slice none 0 0]) Z Z Z Z Z Zg Z eU ?_)))
 intro gw an eV
 let B3:List Value:=[jV x5.Deadline,.slice br x5.Skiers.length bz,.slice bi x5.Decisions.length bj]
 refine zo (j:=0) (vs:=B3) Z Z Z Z eV Z Z Z Z zm (zB Z) Z Z Z ?_
 intro dp eW
 have bT:sW w U U9 [.blk an 33 B3,B1,B2,.blk b2 33 B0] dp:=eW
 refine oA Z Z (eN (zH (sR fL2 Z (oM Z Z (oR Z (Zs Z Z Z) (eN (ifc cN ?_ ?_)))))))
 intro bS fP
 refine zn (ZI (fun h=>h bS.out)) (kN (sR (.fl 0 (.fx 1 (.fx 2 (.fl 3 (.fx 4 (.fx 5 (.fx 6 .nil .stop) .stop) .stop)) .stop) .stop)) Z (oL Z (bT.ldBA (j:=0) Z Z Z ZW zm (vs:=B3) Z Z) (OKS.makeMap Z Z Z Z Z bT ?_))))
 intro gy ak eX
 have fR:=MpR.nil wFk wFy
 refine OKS.makeMap Z Z Z Z Z eX ?_
 intro dr ag eY
 have eZ:=eY.mrows0 42 6 wAB wCu
 have fb:sW w U U9 [wEa ag #[] 0 42 6 wAB wCu [] ([]:List (Int × List wAA)),.obj ak (.map #[] 0),.blk an 33 B3,B1,B2,.blk b2 33 B0] dr:=eZ
 let B4:List Value:=[jV x5.Deadline,.slice br x5.Skiers.length bz,.slice bi x5.Decisions.length bj,.map (some ak),.map (some ag)]
 refine za rfl rfl rfl rfl (fun _=>Zi (pv:=[(0,.agg B3.toArray),(1,.map (some ak)),(2,.map (some ag))]) (z:=[jV 0,.slice none 0 0,.slice none 0 0,.map none,.map none]) (cs:=B4) rfl (wAK rfl (wAK rfl (wAK rfl wAb))) Tryz.zeroValue114 wPP rfl rfl) (ZA (cs:=B4) rfl rfl rfl rfl rfl rfl (by rfl) fb ?_)
 intro gz ae fc
 refine zq (cs:=[.pointer none]) Z Z Z Z Z Tryz.zeroValue72 Z fc ?_
 intro gA ao fd
 let B5:List Value:=[.pointer (some ⟨ae,0,none⟩)]
 refine zo (j:=0) (vs:=B5) Z Z Z Z fd Z Z Z Z Tryz.sizeOf72 (zB Z) Z Z Z ?_
 intro bQ ff
 have bU:sW w U U9 [.blk ao 72 B5,.blk ae 114 B4,wEa ag #[] 0 42 6 wAB wCu [] ([]:List (Int × List wAA)),.obj ak (.map #[] 0),.blk an 33 B3,B1,B2,.blk b2 33 B0] bQ:=ff
 refine eN (zH (sR (wID (.fx 5 .nil .stop)) Z (oL Z (bU.ldB (j:=0) Z Z Z yY (v:=.pointer (some ⟨ae,0,none⟩)) Z) (oR Z (Zm Z Z) (oR Z (zD Z Z Zw Z zm) (oR Z (zD Z Z zd Z Zf) (oL Z (bU.ldB (j:=1) Z Z Z Zp (v:=.slice bi x5.Decisions.length bj) Z) ?_)))))))
 have q:=bU.freezeR (k:=6) (n:=x5.Decisions.length) rfl (wAF (f:=wAB) (sz:=6) (fun _=>rfl) x5.Decisions) (by decide)
 obtain ⟨cq,gU,cR,fg⟩:=q
 have fh:sW w U cq [.blk ao 72 B5,.blk ae 114 B4,wEa ag #[] 0 42 6 wAB wCu [] ([]:List (Int × List wAA)),.obj ak (.map #[] 0),.blk an 33 B3,B1,.blk b2 33 B0] bQ:=fg
 have q:=bnd fP
 obtain ⟨⟨⟩,dW,cL⟩:=q
 try dsimp only at cL
 refine zG 0 Z Z Z Z (zF Z Z Tryz.call43 (zA Z zK) Z) fh (fun hs=>wCr x5.Decisions bi bj bQ cq hs cR dW) (.inr Z) ?_
 rintro cr gu g6 dt gi fj ⟨cx,rfl,rfl,dX⟩
 have fk:sW w U cr [.blk ao 72 B5,.blk ae 114 B4,wEa ag #[] 0 42 6 wAB wCu [] ([]:List (Int × List wAA)),.obj ak (.map #[] 0),.blk an 33 B3,B1,.blk b2 33 B0] dt:=fj
 refine eN (zV (CK.fresh fun cd bX=>?_))
 have cB:cd 6=.pointer (some ⟨ao,0,none⟩):=(bX 6).trans rfl
 have dz:cd 27=.func (.func 85) #[] #[.pointer (some ⟨cx,0,none⟩)]:=(bX 27).trans rfl
 clear bX
 refine bnK cL fun cU fN cM=>?_
 have cD:=cR.le gi
 refine CK.rangeY (S:=(List (Int × List wAA)) × (List (Int × wAA))) (E:=Empty) (ar:=wUu) (PY:=(fun (s_:(List (Int × List wAA)) × (List (Int × wAA))) (U_:PHeap) (L_:List Res)=>match s_ with | (l769,l770)=>∃ (aX:Array MapEntry) (az:Nat) (aq:List (Int × Hd)) (bq:Array MapEntry) (bB:Nat),L_=[.blk ao 72 B5,.row br bz 37 2 (nA wAD x5.Skiers),.blk ae 114 B4,wEa ag aX az 42 6 wAB wCu aq l769,.obj ak (.map bq bB),.blk an 33 B3,.blk b2 33 B0]/\MpR bq wFk wFy l770)) (PE:=(fun (_:Empty) _ _=>False)) (exO:=Empty.elim) (s0:=(([]:List (Int × List wAA)),([]:List (Int × wAA)))) (rr:=cU) dz Tryz.call85 (fk.pick [0,5,1,2,3,4,6] _ (by decide) rfl) (by decide) (fun _ _ _ h=>by obtain rfl:=h;rfl) (fun e=>nomatch e) ⟨#[],0,[],#[],0,rfl,fR⟩ (fun l w1 L1 PY' PE' eu ep fJ=>wCh PY' PE' _ l _ x5.Decisions cx bi bj w1 L1 cr eu ep fJ dX cD fN) ?_ ?_
 rintro ba gY gG ⟨l769,l770⟩ aa g7 gX bE gv gk bY be gW fm er fM bW bO bD
 obtain ⟨aX,az,aq,bq,bB,rfl,dZ⟩:=er
 obtain rfl:=fM
 replace bD:∀ t,bO t=upd (upd cd 28 (jV aa.1)) 29 (.agg #[jV aa.2.Number,jV aa.2.Kind,jV aa.2.Minute,jV aa.2.Bib,jV aa.2.Much,jV aa.2.About]) t:=bD
 have gF:bO 28=jV aa.1:=(bD 28).trans ((wEU _ _ (by decide)).trans (wEI _ _ _))
 have dA:bO 29=.agg #[jV aa.2.Number,jV aa.2.Kind,jV aa.2.Minute,jV aa.2.Bib,jV aa.2.Much,jV aa.2.About]:=(bD 29).trans (wEI _ _ _)
 have cC:bO 6=.pointer (some ⟨ao,0,none⟩):=(bD 6).trans ((wEU _ _ (by decide)).trans ((wEU _ _ (by decide)).trans cB))
 clear bD
 have ft:St be bE [.obj ba bY,.blk ao 72 B5,B1,.blk ae 114 B4,wEa ag aX az 42 6 wAB wCu aq l769,.obj ak (.map bq bB),.blk an 33 B3,.blk b2 33 B0] gk:=fm
 try dsimp only at bW
 refine rR gAi Z ?_
 let B6:List Value:=[jV 0,jV 0,jV 0,jV 0,jV 0,jV 0]
 refine zq (cs:=B6) Z Z Z Z Z Zh Z ft ?_
 intro gB aY fw
 let B7:List Value:=[jV aa.2.Number,jV aa.2.Kind,jV aa.2.Minute,jV aa.2.Bib,jV aa.2.Much,jV aa.2.About]
 refine zo (j:=0) (vs:=B7) Z Z Z Z fw Z Z dA Z zg (zB Z) Z Z Z ?_
 intro du fy
 have fz:St be bE [.blk aY 42 B7,.obj ba bY,.blk ao 72 B5,B1,.blk ae 114 B4,wEa ag aX az 42 6 wAB wCu aq l769,.obj ak (.map bq bB),.blk an 33 B3,.blk b2 33 B0] du:=fy
 refine zk ⟨rfl,rfl,_,_,(fz.pick [1,0,2,3,4,5,6,7,8] [.obj ba bY,.blk aY 42 B7,.blk ao 72 B5,B1,.blk ae 114 B4,wEa ag aX az 42 6 wAB wCu aq l769,.obj ak (.map bq bB),.blk an 33 B3,.blk b2 33 B0] (by decide) rfl),fun bR bm fA=>?_⟩
 have fB:St be bE [.obj ba bm,.blk aY 42 B7,.blk ao 72 B5,B1,.blk ae 114 B4,wEa ag aX az 42 6 wAB wCu aq l769,.obj ak (.map bq bB),.blk an 33 B3,.blk b2 33 B0] bR:=fA
 refine zV (zH (ZT ZH [1,3,3,1,3,1,1,0] (wML (.fx 7 .nil .stop)) (by kernel_rfl) ?_))
 have bC:=fB.drew
 generalize hw_W820:({ bR with drawn:=bR.drawn + 1 }:World)=gC at bC ⊢
 refine zr rfl rfl rfl rfl (bC.ldB (j:=2) rfl rfl cC yY (v:=.pointer (some ⟨ae,0,none⟩)) rfl) rfl (za rfl rfl rfl rfl (fun _=>Zm rfl rfl) (za rfl rfl rfl rfl (fun _=>zD rfl rfl Zw rfl Tryz.sizeOf111) (zr rfl rfl rfl rfl (bC.ldB (j:=4) rfl rfl rfl Tryz.isAgg111 (v:=.map (some ak)) rfl) rfl (za rfl rfl rfl rfl (fun _=>zD rfl rfl zP rfl zC) (zr rfl rfl rfl rfl (bC.ldB (j:=1) rfl rfl rfl zO (v:=jV aa.2.Number) rfl) rfl (zr rfl rfl rfl rfl (bC.ldBA (j:=1) rfl rfl rfl ZF zg (vs:=B7) rfl rfl) rfl (OKS.mapPut (x:=.tmp 33) (y:=.tmp 35) (z:=.tmp 36) (j:=6) (mk:=wFk) (mv:=wFy) (a:=aa.2.Number) (v:=aa.2) rfl rfl rfl (by first | exact .inl rfl | exact .inr rfl) bC rfl rfl rfl rfl (wDO Tryz.runUnderlying111) wTD dZ rfl ?_)))))))
 intro bh bg dv cQ fC
 have bV:St be bE [.obj ba bm,.blk aY 42 B7,.blk ao 72 B5,B1,.blk ae 114 B4,wEa ag aX az 42 6 wAB wCu aq l769,.obj ak (.map bh bg),.blk an 33 B3,.blk b2 33 B0] dv:=fC
 refine eN (sR fL3 Z (oR Z (zD Z Z zP Z zC) (oL Z (bV.ldB (j:=1) Z Z Z zO (v:=jV aa.2.About) Z) (oR Z (Zz Z Z Z) (eN ?_)))))
 by_cases bk:0 < aa.2.About
 have cP:=bW;rw [if_pos bk] at cP;replace bk:=zI bk
 refine cT Z bk (bnK cP fun bp eh fQ=>CK.webp (U0:=bE) (L0:=[.obj ba bm,.blk aY 42 B7,.blk ao 72 B5,B1,.blk ae 114 B4,.obj ak (.map bh bg),.blk an 33 B3,.blk b2 33 B0]) ZH [pX 40 [] (.pointer (some ⟨ae,0,none⟩)),pW 41 [0] (.pointer (some ⟨ae,0,none⟩)),pW 42 [1] (.pointer (some ⟨ae,4,none⟩)),pX 43 [2] (.map (some ag)),pW 44 [] (.pointer (some ⟨aY,5,none⟩)),pX 45 [4] (jV aa.2.About),pW 46 [] (.pointer (some ⟨ae,0,none⟩)),pW 47 [6] (.pointer (some ⟨ae,0,none⟩)),pW 48 [7] (.pointer (some ⟨ae,4,none⟩)),pW 49 [8] (.map (some ag)),pW 50 [] (.pointer (some ⟨aY,5,none⟩)),pW 51 [10] (jV aa.2.About),⟨some 52,[52],[9,11],true,[],true,[wEa ag aX az 42 6 wAB wCu aq l769],fun σ R=>σ 52=.slice ((hdO aq aa.2.About).A) ((wAk l769 aa.2.About ([]:List wAA)).length) ((hdO aq aa.2.About).c)/\R=[wEa ag aX az 42 6 wAB wCu aq l769]⟩,pW 53 [] (.agg B7.toArray),⟨some 54,[54],[13],false,[],true,[],fun σ R=>∃ bb,σ 54=.slice (some ⟨bb,0,none⟩) 1 1/\R=[.row (some ⟨bb,0,none⟩) 1 42 6 (nA wAB [aa.2])]⟩,⟨some 55,[55],[],false,[12,14],false,[],fun σ R=>∃ bs bA bb,σ 55=.slice bs bp.length bA/\R=[.row bs bA 42 6 (nA wAB bp),wJR ag aX az 42 6 wAB wCu aq l769 aa.2.About,.row (some ⟨bb,0,none⟩) 1 42 6 (nA wAB [aa.2])]⟩] [false] [(6,.pointer (some ⟨ao,0,none⟩)),(8,.pointer (some ⟨aY,0,none⟩))] (by kernel_rfl) ⟨cC,rfl,trivial⟩ (bV.pick [5,0,1,2,3,4,6,7,8] _ (by decide) rfl) ⟨?_,?_,?_,?_,?_,?_,?_,?_,?_,?_,?_,?_,?_,?_,?_,?_,trivial⟩ ?_)
 refine wpX ?_
 rintro _ _ _ _ _ ⟨dB,_⟩ _ _ fD f7
 exact OKS.mx2 Z Z Z Z (fD.ldB (j:=2) Z Z dB yY (v:=.pointer (some ⟨ae,0,none⟩)) Z) f7
 refine wpW ?_
 rintro _ _ _ _ _ _ _ ⟨⟨_,⟨dQ,_⟩⟩,_⟩ _ f9
 exact oR Z (Zm Z dQ) f9
 refine wpW ?_
 rintro _ _ _ _ _ _ _ ⟨⟨_,⟨dR,_⟩⟩,_⟩ _ ga
 exact oR Z (zD Z dR Zw Z Tryz.sizeOf112) ga
 refine wpX ?_
 rintro _ _ _ _ _ _ _ ⟨⟨_,⟨dS,_⟩⟩,_⟩ fE gc
 exact OKS.mx2 Z Z Z Z (fE.ldB (j:=4) Z Z dS Tryz.isAgg112 (v:=.map (some ag)) Z) gc
 refine wpW ?_
 rintro _ _ _ _ _ ⟨_,dC,_⟩ _ _ _ ge
 exact oR Z (zD Z dC zP Z zC) ge
 refine wpX ?_
 rintro _ _ _ _ _ _ _ ⟨⟨_,⟨dT,_⟩⟩,_⟩ fG gf
 exact OKS.mx2 Z Z Z Z (fG.ldB (j:=1) Z Z dT zO (v:=jV aa.2.About) Z) gf
 refine wpW ?_
 rintro _ _ _ _ _ ⟨dD,_⟩ _ _ fH gg
 exact oL Z (fH.ldB (j:=2) Z Z dD yY (v:=.pointer (some ⟨ae,0,none⟩)) Z) gg
 refine wpW ?_
 rintro _ _ _ _ _ _ _ ⟨⟨_,⟨dE,_⟩⟩,_⟩ _ fS
 exact oR Z (Zm Z dE) fS
 refine wpW ?_
 rintro _ _ _ _ _ _ _ ⟨⟨_,⟨dF,_⟩⟩,_⟩ _ fT
 exact oR Z (zD Z dF Zw Z Tryz.sizeOf112) fT
 refine wpW ?_
 rintro _ _ _ _ _ _ _ ⟨⟨_,⟨dG,_⟩⟩,_⟩ ew fU
 exact oL Z (ew.ldB (j:=4) Z Z dG Tryz.isAgg112 (v:=.map (some ag)) Z) fU
 refine wpW ?_
 rintro _ _ _ _ _ ⟨_,dx,_⟩ _ _ _ fV
 exact oR Z (zD Z dx zP Z zC) fV
 refine wpW ?_
 rintro _ _ _ _ _ _ _ ⟨⟨_,⟨dH,_⟩⟩,_⟩ ey fW
 exact oL Z (ey.ldB (j:=1) Z Z dH zO (v:=jV aa.2.About) Z) fW
 rintro _ _ _ _ _ _ _ _ ⟨⟨_,⟨dI,_⟩⟩,⟨_,⟨dJ,_⟩⟩,_⟩ rfl cE fY
 exact oL Z (cE.lookupMR (j:=0) (a:=aa.2.About) Z Z dI dJ (wDO Tryz.runUnderlying112) wKA Tryz.zeroValue31) (fY _ _ _ _ (zU _) cE ⟨Z,Z⟩)
 refine wpW ?_
 rintro _ _ _ _ _ ⟨_,dy,_⟩ _ _ eA fZ
 exact oL Z (eA.ldBA (j:=1) Z Z dy ZF zg (vs:=B7) Z Z) fZ
 rintro _ _ _ cX cW _ _ _ ⟨⟨_,⟨dK,_⟩⟩,_⟩ rfl eB f4
 refine ZM (pv:=[(0,.agg B7.toArray)]) (zs:=B6) (cs:=B7) Z Z Z Z Z (wAK dK wAb) ZC zg Zh Z Z Z Z Z eB ?_
 intro cZ cw eC
 have eD:St be cX (.row (some ⟨cw,0,none⟩) 1 42 6 (nA wAB [aa.2]) :: .obj ba bm :: .blk aY 42 B7 :: .blk ao 72 B5 :: B1 :: .blk ae 114 B4 :: .obj ak (.map bh bg) :: .blk an 33 B3 :: .blk b2 33 B0 :: cW) cZ:=eC
 exact f4 _ _ _ _ (zU _) eD ⟨cw,Z,Z⟩
 rintro _ _ da cn cm _ _ _ _ ⟨_,_,⟨dM,rfl⟩,⟨_,_,⟨bb,dL,rfl⟩,rfl,rfl⟩,rfl⟩ eE f5
 have eF:=eE.mrowsTake aa.2.About
 have cG:St be cn (.row ((hdO aq aa.2.About).A) ((hdO aq aa.2.About).c) 42 6 (nA wAB (wAk l769 aa.2.About ([]:List wAA))) :: wJR ag aX az 42 6 wAB wCu aq l769 aa.2.About :: .row (some ⟨bb,0,none⟩) 1 42 6 (nA wAB [aa.2]) :: .obj ba bm :: .blk aY 42 B7 :: .blk ao 72 B5 :: B1 :: .blk ae 114 B4 :: .obj ak (.map bh bg) :: .blk an 33 B3 :: .blk b2 33 B0 :: cm) da:=eF
 refine Zv (j:=0) (enc:=wAB) (xs:=(wAk l769 aa.2.About ([]:List wAA))) (ys:=[aa.2]) (zs:=bp) rfl rfl rfl rfl rfl Tryz.underlying31 wLA rfl rfl rfl rfl rfl rfl cG rfl dM dL (cG.srcR (j:=2) rfl (by decide) (wAF (f:=wAB) (sz:=6) (fun _=>rfl) [aa.2])) (fun _=>rfl) (fun _=>rfl) eh rfl ?_
 intro cg cy db eG
 have eH:St be cn (.row cg cy 42 6 (nA wAB bp) :: wJR ag aX az 42 6 wAB wCu aq l769 aa.2.About :: .row (some ⟨bb,0,none⟩) 1 42 6 (nA wAB [aa.2]) :: .obj ba bm :: .blk aY 42 B7 :: .blk ao 72 B5 :: B1 :: .blk ae 114 B4 :: .obj ak (.map bh bg) :: .blk an 33 B3 :: .blk b2 33 B0 :: cm) db:=eG
 exact f5 _ _ _ _ (zU _) eH ⟨cg,cy,bb,Z,Z⟩
 rintro gp ct cp ⟨gD,gE,_⟩ gS _ ⟨gH,rfl⟩ _ ⟨gI,rfl⟩ _ ⟨gJ,rfl⟩ _ ⟨dN,rfl⟩ _ ⟨gK,rfl⟩ _ ⟨dO,rfl⟩ _ ⟨gL,rfl⟩ _ ⟨gM,rfl⟩ _ ⟨gN,rfl⟩ _ ⟨gO,rfl⟩ _ ⟨gP,rfl⟩ _ ⟨gQ,rfl⟩ _ _ _ ⟨gR,rfl⟩ _ _ _ ⟨bs,bA,bb,dP,rfl⟩ eI
 let B8:Res:=.row (some ⟨bb,0,none⟩) 1 42 6 (nA wAB [aa.2])
 have eJ:St be cp [.row bs bA 42 6 (nA wAB bp),wJR ag aX az 42 6 wAB wCu aq l769 aa.2.About,B8,.obj ba bm,.blk aY 42 B7,.blk ao 72 B5,B1,.blk ae 114 B4,.obj ak (.map bh bg),.blk an 33 B3,.blk b2 33 B0] ct:=eI
 show OKS _ _ _ _ _ _ (.fx 16 .nil .stop) gp ct
 refine OKS.putMR (x:=.tmp 43) (y:=.tmp 45) (z:=.tmp 55) (a:=aa.2.About) rfl rfl rfl (by first | exact .inl rfl | exact .inr rfl) eJ dN dO dP (wDO Tryz.runUnderlying112) wKA rfl ?_
 intro cA cz de eK
 have eM:St be cp [wEa ag cA cz 42 6 wAB wCu (mput aq aa.2.About ⟨bs,bp.length,bA⟩) (mput l769 aa.2.About bp),B8,.obj ba bm,.blk aY 42 B7,.blk ao 72 B5,B1,.blk ae 114 B4,.obj ak (.map bh bg),.blk an 33 B3,.blk b2 33 B0] de:=eK
 refine zk (zh ?_)
 have q:=nE fQ
 obtain rfl:=q
 exact ⟨_,_,(eM.pick [2,4,5,6,0,7,8,9] _ (by decide) rfl),rfl,⟨cA,cz,(mput aq aa.2.About ⟨bs,bp.length,bA⟩),bh,bg,rfl,cQ⟩⟩
 have cK:=bW;rw [if_neg bk] at cK;replace bk:=zI bk
 refine cF Z bk (Zd (zh ?_))
 have q:=nE cK
 obtain rfl:=q
 exact ⟨_,_,(bV.pick [0,2,3,4,5,6,7,8] _ (by decide) rfl),rfl,⟨aX,az,aq,bh,bg,rfl,cQ⟩⟩
 rintro cS bP gt df gh eO
 rcases cU with ⟨bZ,g8⟩ | dw
 try dsimp only at cM
 rintro ⟨bH,bF,bJ,bI,bG,rfl,dU⟩
 have cH:sW w U bP [.blk ao 72 B5,B1,.blk ae 114 B4,wEa ag bH bF 42 6 wAB wCu bJ bZ,.obj ak (.map bI bG),.blk an 33 B3,.blk b2 33 B0,.obj cS (.deferred (some []))] df:=eO
 refine zh (zJ (sR fL3 Z (oL Z (cH.ldB (j:=0) Z Z cB yY (v:=.pointer (some ⟨ae,0,none⟩)) Z) (oA Z Z (oA Z Z (eN (zM ?_)))))))
 have dV:=cD.le gh
 refine wLd (by first | exact .inl rfl | exact .inr rfl) (rbs:=[cS]) (L:=[.blk ao 72 B5,B1,.blk ae 114 B4,wEa ag bH bF 42 6 wAB wCu bJ bZ,.obj ak (.map bI bG),.blk an 33 B3,.blk b2 33 B0]) cH fun dg eP=>?_
 have eQ:sW w U bP [.blk ao 72 B5,B1,.blk ae 114 B4,wEa ag bH bF 42 6 wAB wCu bJ bZ,.obj ak (.map bI bG),.blk an 33 B3,.blk b2 33 B0] dg:=eP
 cases cM
 exact ⟨_,(wLV rfl rfl),bP,_,(eQ.pick [2,1,4,3] _ (by decide) rfl),ae,br,bz,bi,bj,ak,bI,bG,ag,bH,bF,bJ,rfl,rfl,dV,dU⟩
 exact dw.elim
 intro bS fO
 refine cT Z bS (sR fL3 rfl (zQ rfl rfl rfl rfl rfl rfl (Ze rfl rfl rfl rfl rfl rfl (Ze rfl rfl rfl rfl rfl rfl (eN (zM (zN (wLd (by first | exact .inl rfl | exact .inr rfl) (rbs:=[]) (L:=[.blk an 33 B3,B1,B2,.blk b2 33 B0]) bT fun dh eR=>?_))))))))
 have eS:sW w U U9 [.blk an 33 B3,B1,B2,.blk b2 33 B0] dh:=eR
 cases fO
 exact ⟨_,(wLV rfl rfl),U9,_,(eS.pick [] _ (by decide) rfl),rfl,rfl⟩
set_option maxHeartbeats 4000000
theorem wHu (p0:Int) (w:World) (U:PHeap) (hS:St0 w U [])  {r:Bool} (hm:wDu p0=some r):Gv Tryz.prog 90 [jV p0] w (wBW w [] U (fun U_ L_ v=>v=.bool r/\L_=[])):=by
 unfold wDu at hm
 refine Gv.of Tryz.func90 Z Tryz.ntmps90 Tryz.results90 Z (sR fL1 Z (oA Z Z (eN (sR fL7 Z (oM Z Z (oR Z (ZR Z Z Z) (oM Z Z ?_)))))))
 by_cases c1:p0=4
 have ah:=hm;rw [if_pos c1] at ah;replace c1:=zI c1
 refine oT Z c1 (oT Z c1 (oR Z (zj Z (ZU c1.out) Z) (oA Z Z (eN (zM ?_)))))
 have hE:=nE ah;first | subst r | cases hE
 exact ⟨Z,_,(zi Z),U,_,hS,Z,Z⟩
 have ae:=hm;rw [if_neg c1] at ae;replace c1:=zI c1
 refine zQ Z Z Z (wF Z c1) Z Z (rU Z (wF Z c1) (ZR Z Z Z) (oR Z (zR Z (ZI c1.out) Z) (oA Z Z (eN (zM ?_)))))
 first | (obtain rfl:=nE ae) | cases ae
 exact ⟨Z,_,(zi Z),U,_,hS,Z,Z⟩
theorem wHv (p0:wAL) (aq:Nat) (ao:Option Addr) (au:Nat) (ap:Option Addr) (av:Nat) (aw:Nat) (bm:Array MapEntry) (br:Nat) (az:Nat) (bp:Array MapEntry) (bs:Nat) (bq:List (Int × Hd)) (p1:wAA) (w:World) (U:PHeap) (hS:St0 w U []) (bh:Cl U aq 0 [jV p0.Record.Deadline,.slice ao p0.Record.Skiers.length au,.slice ap p0.Record.Decisions.length av,.map (some aw),.map (some az)]) (bw:Sl U 2 ao au p0.Record.Skiers.length (nA wAD p0.Record.Skiers)) (bz:Sl U 6 ap av p0.Record.Decisions.length (nA wAB p0.Record.Decisions)) (bA:MpF U aw bm br wFk wFy p0.at_) (bB:MrF U az bp bs 6 wAB wCu bq p0.about) {r:Bool} (hm:wCI p0 p1=some r):Gv Tryz.prog 47 [.pointer (some ⟨aq,0,none⟩),.agg #[jV p1.Number,jV p1.Kind,jV p1.Minute,jV p1.Bib,jV p1.Much,jV p1.About]] w (wBW w [] U (fun U_ L_ v=>v=.bool r/\L_=[])):=by
 unfold wCI at hm
 refine Gv.of Tryz.func47 Z Tryz.ntmps47 Tryz.results47 Z (sR gAj Z ?_)
 let B0:List Value:=[jV p1.Number,jV p1.Kind,jV p1.Minute,jV p1.Bib,jV p1.Much,jV p1.About]
 refine ZA (cs:=B0) rfl rfl rfl rfl rfl rfl (by rfl) hS ?_
 intro W1 b2 bg
 refine Ze rfl rfl rfl rfl rfl rfl (eN (zH (ZT ZH [3,1,2,3,3,1,3,3,3,3,1,3,3,3] (.fl 0 (.fl 1 (.fx 2 (wVY (.nil)) .stop))) (by kernel_rfl) ?_)))
 have aj:=bg.drew
 generalize hw_W6:({ W1 with drawn:=W1.drawn + 1 }:World)=W6 at aj ⊢
 refine oR Z (zD Z Z zP Z ZE) (oL Z (aj.ldB (j:=0) Z Z Z ZS (v:=jV p1.Kind) Z) (bnK hm fun x7 h8 bj=>zG 0 Z Z Z Z (zF Z Z Tryz.call90 (zA Z zK) Z) aj (fun hs=>wHu p1.Kind W6 U hs h8) (.inr Z) ?_))
 rintro ai bu bC aX bk be ⟨rfl,rfl⟩
 have ah:sW w U ai [.blk b2 42 B0] aX:=be
 refine oM Z Z (ifc bj ?_ ?_)
 intro aa an
 refine za Z Z Z (zS Z Z (congrArg nB aa.out)) (fun _=>zD Z Z zP Z zC) (zr Z Z Z (zS Z Z (congrArg nB aa.out)) (ah.ldB (j:=0) Z Z Z zO (v:=jV p1.Minute) Z) Z (zQ Z Z Z (zS Z Z (congrArg nB aa.out)) Z Z (za Z Z Z (zS Z Z (congrArg nB aa.out)) (fun _=>Zm Z Z) (za Z Z Z (zS Z Z (congrArg nB aa.out)) (fun _=>zD Z Z Zw Z zm) (za Z Z Z (zS Z Z (congrArg nB aa.out)) (fun _=>zD Z Z zd Z zC) ?_)))))
 have ba:=bh.le bk
 refine zr Z Z Z (zS Z Z (congrArg nB aa.out)) (ah.ldC (f:=0) ba (v:=jV p0.Record.Deadline) Z Z zO Z) Z (za Z Z Z (zS Z Z (congrArg nB aa.out)) (fun _=>Zz Z Z Z) (oR Z (zj Z (congrArg nB aa.out) Z) (oA Z Z (eN (zM ?_)))))
 first | (obtain rfl:=nE an) | cases an
 exact ⟨rfl,_,(zi rfl),ai,_,(ah.pick [] _ (by decide) rfl),rfl,rfl⟩
 intro aa bi
 refine zp Z Z Z (zW Z Z (congrArg nB (nD.2 aa.out)) Z) (zp Z Z Z (zW Z Z (congrArg nB (nD.2 aa.out)) Z) (zp Z Z Z (zW Z Z (congrArg nB (nD.2 aa.out)) Z) (zp Z Z Z (zW Z Z (congrArg nB (nD.2 aa.out)) Z) (zp Z Z Z (zW Z Z (congrArg nB (nD.2 aa.out)) Z) (zp Z Z Z (zW Z Z (congrArg nB (nD.2 aa.out)) Z) (zp Z Z Z (zW Z Z (congrArg nB (nD.2 aa.out)) Z) (zp Z Z Z (zW Z Z (congrArg nB (nD.2 aa.out)) Z) (oR Z (zR Z (congrArg nB (nD.2 aa.out)) Z) (oA Z Z (eN (zM ?_)))))))))))
 have hE:=nE bi;first | subst r | cases hE
 exact ⟨rfl,_,(zi rfl),ai,_,(ah.pick [] _ (by decide) rfl),rfl,rfl⟩
theorem wFW (p0:Int) (w:World) (U:PHeap) (hS:St0 w U [])  {r:Bool} (hm:wBN p0=some r):Gv Tryz.prog 50 [jV p0] w (wBW w [] U (fun U_ L_ v=>v=.bool r/\L_=[])):=by
 unfold wBN at hm
 refine Gv.of Tryz.func50 Z Tryz.ntmps50 Tryz.results50 Z (sR fL1 Z (oA Z Z (eN (sR fL7 Z (oM Z Z (oR Z (ZR Z Z Z) (oM Z Z ?_)))))))
 by_cases c1:p0=8
 have ah:=hm;rw [if_pos c1] at ah;replace c1:=zI c1
 refine oT Z c1 (oT Z c1 (oR Z (zj Z (ZU c1.out) Z) (oA Z Z (eN (zM ?_)))))
 have hE:=nE ah;first | subst r | cases hE
 exact ⟨Z,_,(zi Z),U,_,hS,Z,Z⟩
 have ae:=hm;rw [if_neg c1] at ae;replace c1:=zI c1
 refine zQ Z Z Z (wF Z c1) Z Z (rU Z (wF Z c1) (ZR Z Z Z) (oR Z (zR Z (ZI c1.out) Z) (oA Z Z (eN (zM ?_)))))
 first | (obtain rfl:=nE ae) | cases ae
 exact ⟨Z,_,(zi Z),U,_,hS,Z,Z⟩
theorem wGb (p0:Int) (w:World) (U:PHeap) (hS:St0 w U [])  {r:Bool} (hm:wCL p0=some r):Gv Tryz.prog 55 [jV p0] w (wBW w [] U (fun U_ L_ v=>v=.bool r/\L_=[])):=by
 unfold wCL at hm
 refine Gv.of Tryz.func55 Z Tryz.ntmps55 Tryz.results55 Z (sR fL1 Z (oA Z Z (eN (sR fL3 Z (oM Z Z (oR Z (ZR Z Z Z) (oA Z Z (eN (zM ?_)))))))))
 first | (obtain rfl:=nE hm) | cases hm
 exact ⟨Z,_,(zi Z),U,_,hS,Z,Z⟩
  abbrev wDz (rec_:(wAA->Unit->Unit->Unit->(wAL × List Int × List (Int × Bool))->Option (Bool × (List (Int × Bool))))):Prop:=∀ (p0:wAA) (p1:Unit) (p2:Unit) (p3:Unit) (p4:(wAL × List Int × List (Int × Bool))) (pb4a:Nat) (pb4b:Nat) (pb4c:Nat) (pb4v:Nat) (pb4f:Nat) (pb4g:Nat) (pq4d:Nat) (pA4d_0_1:Option Addr) (pc4d_0_1:Nat) (pA4d_0_2:Option Addr) (pc4d_0_2:Nat) (pm4d_1:Nat) (pe4d_1:Array MapEntry) (pk4d_1:Nat) (pm4d_2:Nat) (pe4d_2:Array MapEntry) (pk4d_2:Nat) (ph4d_2:List (Int × Hd)) (pm4t:Nat) (pe4t:Array MapEntry) (pk4t:Nat) (pA4o:Option Addr) (pc4o:Nat) (w:World) (U:PHeap) (hS:St ⟨w,[.obj pm4t (.map pe4t pk4t)],U⟩ U [.obj pm4t (.map pe4t pk4t)] w) (ha0:Cl U pb4a 0 [.map (some pm4t)]) (ha1:Cl U pb4b 0 [.func (.func 47) #[.pointer (some ⟨pq4d,0,none⟩)] #[]]) (ha2:Cl U pb4c 0 [.pointer (some ⟨pq4d,0,none⟩)]) (ha3:Cl U pb4v 0 [.func (.func 49) #[] #[.pointer (some ⟨pb4a,0,none⟩),.pointer (some ⟨pb4b,0,none⟩),.pointer (some ⟨pb4c,0,none⟩),.pointer (some ⟨pb4v,0,none⟩)],.func (.func 51) #[] #[.pointer (some ⟨pb4f,0,none⟩)],.func (.func 52) #[] #[.pointer (some ⟨pb4v,0,none⟩),.pointer (some ⟨pb4g,0,none⟩)],.func (.func 56) #[] #[.pointer (some ⟨pb4v,0,none⟩)],.func (.func 54) #[] #[.pointer (some ⟨pb4f,0,none⟩)]]) (ha4:Cl U pb4f 0 [.func (.func 48) #[] #[.pointer (some ⟨pb4c,0,none⟩),.pointer (some ⟨pb4v,0,none⟩)]]) (ha5:Cl U pb4g 0 [.slice pA4o p4.2.1.length pc4o]) (ha6:Cl U pq4d 0 [.int .i64 p4.1.Record.Deadline,.slice pA4d_0_1 p4.1.Record.Skiers.length pc4d_0_1,.slice pA4d_0_2 p4.1.Record.Decisions.length pc4d_0_2,.map (some pm4d_1),.map (some pm4d_2)]) (ha7:Sl U 2 pA4d_0_1 pc4d_0_1 p4.1.Record.Skiers.length (nA wAD p4.1.Record.Skiers)) (ha8:Sl U 6 pA4d_0_2 pc4d_0_2 p4.1.Record.Decisions.length (nA wAB p4.1.Record.Decisions)) (ha9:MpF U pm4d_1 pe4d_1 pk4d_1 wFk wFy p4.1.at_) (ha10:MrF U pm4d_2 pe4d_2 pk4d_2 6 wAB wCu ph4d_2 p4.1.about) (ha11:MpR pe4t wDX wDj p4.2.2) (ha12:Sl U 1 pA4o pc4o p4.2.1.length (nA KL.encI p4.2.1)) {r:Bool × (List (Int × Bool))} (hm:rec_ p0 p1 p2 p3 p4=some r),Gv Tryz.prog 49 [.agg #[.int .i64 p0.Number,.int .i64 p0.Kind,.int .i64 p0.Minute,.int .i64 p0.Bib,.int .i64 p0.Much,.int .i64 p0.About],.pointer (some ⟨pb4a,0,none⟩),.pointer (some ⟨pb4b,0,none⟩),.pointer (some ⟨pb4c,0,none⟩),.pointer (some ⟨pb4v,0,none⟩)] w (wBW w [.obj pm4t (.map pe4t pk4t)] U (fun U_ L_ v=>∃ (es_0:Array MapEntry) (ck_0:Nat),v=.bool r.1/\L_=[.obj pm4t (.map es_0 ck_0)]/\MpR es_0 wDX wDj r.2))
theorem wFN (rec_:(wAA->Unit->Unit->Unit->(wAL × List Int × List (Int × Bool))->Option (Bool × (List (Int × Bool))))) (ih:wDz rec_) (p0:wAA) (p1:(Int->Option Bool)) (bz:Value) (p2:Unit) (p3:(wAL × List Int × List (Int × Bool))) (pb3a:Nat) (pb3b:Nat) (pb3c:Nat) (pb3v:Nat) (pb3f:Nat) (pb3g:Nat) (pq3d:Nat) (pA3d_0_1:Option Addr) (pc3d_0_1:Nat) (pA3d_0_2:Option Addr) (pc3d_0_2:Nat) (pm3d_1:Nat) (pe3d_1:Array MapEntry) (pk3d_1:Nat) (pm3d_2:Nat) (pe3d_2:Array MapEntry) (pk3d_2:Nat) (ph3d_2:List (Int × Hd)) (pm3t:Nat) (pe3t:Array MapEntry) (pk3t:Nat) (pA3o:Option Addr) (pc3o:Nat) (w:World) (U:PHeap) (hS:St0 w U [.obj pm3t (.map pe3t pk3t)]) (dh:FnOK Tryz.prog U bz wTB wTC p1) (dm:Cl U pb3a 0 [.map (some pm3t)]) (du:Cl U pb3b 0 [.func (.func 47) #[.pointer (some ⟨pq3d,0,none⟩)] #[]]) (bO:Cl U pb3c 0 [.pointer (some ⟨pq3d,0,none⟩)]) (dv:Cl U pb3v 0 [.func (.func 49) #[] #[.pointer (some ⟨pb3a,0,none⟩),.pointer (some ⟨pb3b,0,none⟩),.pointer (some ⟨pb3c,0,none⟩),.pointer (some ⟨pb3v,0,none⟩)],.func (.func 51) #[] #[.pointer (some ⟨pb3f,0,none⟩)],.func (.func 52) #[] #[.pointer (some ⟨pb3v,0,none⟩),.pointer (some ⟨pb3g,0,none⟩)],.func (.func 56) #[] #[.pointer (some ⟨pb3v,0,none⟩)],.func (.func 54) #[] #[.pointer (some ⟨pb3f,0,none⟩)]]) (dw:Cl U pb3f 0 [.func (.func 48) #[] #[.pointer (some ⟨pb3c,0,none⟩),.pointer (some ⟨pb3v,0,none⟩)]]) (dx:Cl U pb3g 0 [.slice pA3o p3.2.1.length pc3o]) (bP:Cl U pq3d 0 [jV p3.1.Record.Deadline,.slice pA3d_0_1 p3.1.Record.Skiers.length pc3d_0_1,.slice pA3d_0_2 p3.1.Record.Decisions.length pc3d_0_2,.map (some pm3d_1),.map (some pm3d_2)]) (dy:Sl U 2 pA3d_0_1 pc3d_0_1 p3.1.Record.Skiers.length (nA wAD p3.1.Record.Skiers)) (dz:Sl U 6 pA3d_0_2 pc3d_0_2 p3.1.Record.Decisions.length (nA wAB p3.1.Record.Decisions)) (dp:MpF U pm3d_1 pe3d_1 pk3d_1 wFk wFy p3.1.at_) (br:MrF U pm3d_2 pe3d_2 pk3d_2 6 wAB wCu ph3d_2 p3.1.about) (dr:MpR pe3t wDX wDj p3.2.2) (dt:Sl U 1 pA3o pc3o p3.2.1.length (nA KL.encI p3.2.1)) {r:wAA × Bool × (List (Int × Bool))} (hm:wBT rec_ p0 p1 p2 p3=some r):Gv Tryz.prog 48 [.agg #[jV p0.Number,jV p0.Kind,jV p0.Minute,jV p0.Bib,jV p0.Much,jV p0.About],bz,.pointer (some ⟨pb3c,0,none⟩),.pointer (some ⟨pb3v,0,none⟩)] w (wBW w [.obj pm3t (.map pe3t pk3t)] U (fun U_ L_ v=>∃ (es_0:Array MapEntry) (ck_0:Nat),v=.tuple #[.agg #[jV r.1.Number,jV r.1.Kind,jV r.1.Minute,jV r.1.Bib,jV r.1.Much,jV r.1.About],.bool r.2.1]/\L_=[.obj pm3t (.map es_0 ck_0)]/\MpR es_0 wDX wDj r.2.2)):=by
 unfold wBT at hm
 refine Gv.of Tryz.func48 Z Tryz.ntmps48 Tryz.results48 Z (sR gAt Z ?_)
 let B0:List Value:=[jV p0.Number,jV p0.Kind,jV p0.Minute,jV p0.Bib,jV p0.Much,jV p0.About]
 refine ZA (cs:=B0) rfl rfl rfl rfl rfl rfl (by rfl) hS ?_
 intro W2 b3 da
 let B1:List Value:=[jV 0,jV 0,jV 0,jV 0,jV 0,jV 0]
 refine zq (cs:=B1) Z Z Z Z Z Zh Z da ?_
 intro W6 b7 dg
 refine Ze rfl rfl rfl rfl rfl rfl (eN (zH (zH (ZT ZH [1,3,3,1,3,1,1,3,3] fL9 (by kernel_rfl) ?_))))
 have au:=dg.drew
 generalize hw_W11:({ W6 with drawn:=W6.drawn + 1 }:World)=dR at au ⊢
 refine oL Z (au.ldC (f:=0) bO (v:=.pointer (some ⟨pq3d,0,none⟩)) Z Z yY Z) (oR Z (Zm Z Z) (oR Z (zD Z Z Zw Z Tryz.sizeOf112) (oL Z (au.ldC (f:=4) bP (v:=.map (some pm3d_2)) Z Z Tryz.isAgg112 Z) (oR Z (zD Z Z zP Z zC) (oL Z (au.ldB (j:=1) Z Z Z zO (v:=jV p0.Number) Z) (oL Z (au.lookupMrF br Z Z Z (wDO Tryz.runUnderlying112) wKA Tryz.zeroValue31) (oR Z (zy Z Z ZC) (oM Z Z (eN (zV ?_))))))))))
 have q:=wDo hm
 obtain ⟨er,bq⟩:=q
 have q:=wDn bq
 obtain ⟨bu,dC⟩:=q
 replace bu:=zI bu
 refine yS (fun aw bw σ_ w_=>∃ (U_:PHeap) (ao:Array MapEntry) (aq:Nat),σ_ 18=jV (↑aw:Int)/\σ_ 1=bz/\σ_ 3=.pointer (some ⟨pb3v,0,none⟩)/\σ_ 6=.pointer (some ⟨b7,0,none⟩)/\σ_ 16=.slice ((hdO ph3d_2 p0.Number).A) ((wAk p3.1.about p0.Number ([]:List wAA)).length) ((hdO ph3d_2 p0.Number).c)/\σ_ 17=jV (↑((wAk p3.1.about p0.Number ([]:List wAA)).length):Int)/\PHeap.Le U U_/\SW w [.obj pm3t (.map pe3t pk3t)] U U_ [.blk b7 42 B1,.blk b3 42 B0,.obj pm3t (.map ao aq)] w_/\MpR ao wDX wDj bw) dC ?_ ?_ ?_
 exact ⟨U,pe3t,pk3t,Z,Z,Z,Z,Z,Z,(zU _),au,dr⟩
 rintro aw bw ey eC dU bs ⟨bT,ao,aq,bb,bi,bj,ba,bk,bm,ag,bM,bH⟩ dL dB
 have bD:Hid ((↑aw:Int) < (↑((wAk p3.1.about p0.Number ([]:List wAA)).length):Int)):=zI (wBq bs)
 replace bs:=zI bs
 have bQ:Hid (w64 ((↑aw:Int) + 1)=(↑(aw + 1):Int)):=zI (by have h1:=bu.out;have h2:=bD.out;rw [wAT] <;> omega)
 refine sR fL1 Z (oR Z (ze Z bb bm) (eN (zH (cT Z bD (kN (zH (zV (sR gAz Z (bnK dL fun x49 bI dI=>?_)))))))))
 have cn:=((br).2 p0.Number).2.le ag
 have q:=cn.el (fun _=>rfl) (wBD bI)
 obtain ⟨dW,ep,cS,cU⟩:=q
 refine oR Z (ZZ Z bk cS bb ZC zg (wDB bI)) (oL Z (bM.ldCA (f:=0) cU Z Z ZF zg (us:=[jV x49.Number,jV x49.Kind,jV x49.Minute,jV x49.Bib,jV x49.Much,jV x49.About]) Z Z) (zq (cs:=B1) Z Z Z Z Z Zh Z bM ?_))
 intro dV av db
 let B2:List Value:=[jV x49.Number,jV x49.Kind,jV x49.Minute,jV x49.Bib,jV x49.Much,jV x49.About]
 refine zo (j:=0) (vs:=B2) Z Z Z Z db Z Z Z Z zg (zB Z) Z Z Z ?_
 intro bX de
 have bN:SW w [.obj pm3t (.map pe3t pk3t)] U bT [.blk av 42 B2,.blk b7 42 B1,.blk b3 42 B0,.obj pm3t (.map ao aq)] bX:=de
 refine eN (sR (wDq (.fx 3 (fC4_7 gAn) .stop)) Z (oM Z bi (oR Z (zD Z Z zP Z ZE) (oL Z (bN.ldB (j:=0) Z Z Z ZS (v:=jV x49.Kind) Z) (bnK dI fun x64 cp dJ=>?_)))))
 have cq:=dh.le ag
 refine yF (a:=x49.Kind) Z Z Z Z Z Z (zA Z zK) bN cq Z cp ?_
 rintro aX dQ ew bg ah df ⟨rfl,rfl⟩
 have be:SW w [.obj pm3t (.map pe3t pk3t)] U aX [.blk av 42 B2,.blk b7 42 B1,.blk b3 42 B0,.obj pm3t (.map ao aq)] bg:=df
 refine oM Z Z (ifc dJ ?_ ?_)
 intro ak dK
 refine za Z Z Z (zS Z Z (congrArg nB ak.out)) (fun _=>zD Z bj ZN Z yM) ?_
 have cr:=dv.le ag
 have bJ:=cr.le ah
 refine zr Z Z Z (zS Z Z (congrArg nB ak.out)) (be.ldC (f:=0) bJ (v:=.func (.func 49) #[] #[.pointer (some ⟨pb3a,0,none⟩),.pointer (some ⟨pb3b,0,none⟩),.pointer (some ⟨pb3c,0,none⟩),.pointer (some ⟨pb3v,0,none⟩)]) Z Z Tryz.isAgg76 Z) Z (zr Z Z Z (zS Z Z (congrArg nB ak.out)) (be.ldBA (j:=0) Z Z Z ZF zg (vs:=B2) Z Z) Z ?_)
 have ct:=dm.le ag
 have cu:=ct.le ah
 have cw:=du.le ag
 have cx:=cw.le ah
 have cy:=bO.le ag
 have cz:=cy.le ah
 have cA:=dw.le ag
 have cB:=cA.le ah
 have cC:=dx.le ag
 have cD:=cC.le ah
 have cE:=bP.le ag
 have cG:=cE.le ah
 have cH:=dy.le ag
 have cJ:=cH.le ah
 have cK:=dz.le ag
 have cL:=cK.le ah
 have cM:=dp.le ag
 have cN:=cM.le ah
 have cP:=br.le ag
 have cQ:=cP.le ah
 have cR:=dt.le ag
 have ci:=cR.le ah
 have q:=bnd dK
 obtain ⟨⟨x101,x102⟩,cj,bR⟩:=q
 try dsimp only at bR
 have cV:SW w [.obj pm3t (.map pe3t pk3t)] U aX [.obj pm3t (.map ao aq),.blk av 42 B2,.blk b7 42 B1,.blk b3 42 B0] bg:=be.pick [3,0,1,2] _ (by decide) rfl
 refine zG 1 Z Z Z (zS Z Z (congrArg nB ak.out)) (zF Z Z Tryz.call49 (zA Z zK) Z) cV (fun hs=>ih x49 () () () (p3.1,p3.2.1,bw) pb3a pb3b pb3c pb3v pb3f pb3g pq3d pA3d_0_1 pc3d_0_1 pA3d_0_2 pc3d_0_2 pm3d_1 pe3d_1 pk3d_1 pm3d_2 pe3d_2 pk3d_2 ph3d_2 pm3t ao aq pA3o pc3o bg aX hs cu cx cz bJ cB cD cG cJ cL cN cQ bH ci cj) (.inl Z) ?_
 rintro az dP eu bU dM cW ⟨aZ,aY,rfl,rfl,bG⟩
 have bp:SW w [.obj pm3t (.map pe3t pk3t)] U az [.obj pm3t (.map aZ aY),.blk av 42 B2,.blk b7 42 B1,.blk b3 42 B0] bU:=cW
 refine oR Z (zj Z (congrArg nB ak.out) Z) (eN (ifc bR ?_ ?_))
 intro bh dD
 refine zu (congrArg nB bh.out) (sR gAp Z (oL Z (bp.ldBA (j:=1) Z Z Z ZF zg (vs:=B2) Z Z) (zo (j:=2) (vs:=B2) Z Z Z Z bp Z ba Z Z zg (zB Z) Z Z Z ?_)))
 intro bV cX
 have bK:SW w [.obj pm3t (.map pe3t pk3t)] U az [.obj pm3t (.map aZ aY),.blk av 42 B2,.blk b7 42 B2,.blk b3 42 B0] bV:=cX
 refine oA Z Z (eN (zM (zf (zN ?_))))
 have q:=wAS dD
 obtain ⟨dO,dE,bZ⟩:=q
 have q:=wCa hm bq (dB dO bZ)
 obtain rfl:=q
 refine zN (zf (zN ?_))
 cases dE
 exact ⟨rfl,_,(wHs (rs:=[.cell 6 42,.tmp 7]) (vs:=[.agg B2.toArray,.bool true]) ⟨⟨_,ba,(wEL ZF zg (bK.blkAt (k:=2) rfl) (vs:=B2) rfl rfl)⟩,⟨rfl,trivial⟩⟩ rfl),az,_,(bK.pick [0] _ (by decide) rfl),aZ,aY,rfl,rfl,bG⟩
 intro bh dF
 refine zn (congrArg nB (nD.2 bh.out)) (Zd (zh (zJ (rR fL2 Z (oR Z (zw (zZ Z bb Z) (congrArg (jV) bQ.out)) (oM Z Z (zk ?_)))))))
 have q:=nE dF
 obtain rfl:=q
 exact zJ ⟨rfl,_,rfl,⟨az,aZ,aY,rfl,bi,bj,ba,bk,bm,((ag.trans ah).trans dM),(bp.pick [2,3,0] _ (by decide) rfl),bG⟩⟩
 intro ak dG
 refine zp Z Z Z (zW Z Z (congrArg nB (nD.2 ak.out)) Z) (zp Z Z Z (zW Z Z (congrArg nB (nD.2 ak.out)) Z) (zp Z Z Z (zW Z Z (congrArg nB (nD.2 ak.out)) Z) (ZO Z Z Z (zW Z Z (congrArg nB (nD.2 ak.out)) Z) (oR Z (zR Z (congrArg nB (nD.2 ak.out)) Z) (eN (zn Z (Zd (zh (zJ (rR fL2 Z (oR Z (zw (zZ Z bb Z) (congrArg (jV) bQ.out)) (oM Z Z (zk ?_)))))))))))))
 have q:=nE dG
 obtain rfl:=q
 exact zJ ⟨rfl,_,rfl,⟨aX,ao,aq,rfl,bi,bj,ba,bk,bm,(ag.trans ah),(be.pick [1,2,3] _ (by decide) rfl),bH⟩⟩
 rintro eA eB dS ⟨bA,bE,bC,cg,dX,dY,bF,dZ,cd,eh,cY,cm⟩ dA
 have dH:=wEt hm bq dA
 have bY:Hid (¬ ((↑(((↑((wAk p3.1.about p0.Number ([]:List wAA)).length):Int):Int) - 0).toNat:Int) < (↑((wAk p3.1.about p0.Number ([]:List wAA)).length):Int))):=zI (wBH)
 refine sR fL1 Z (oR Z (ze Z cg cd) (eN (zH (cF Z bY (ZD (zb (zb (zz (zJ (sR gAp Z (oR Z (Zi (pv:=[]) (z:=B1) (cs:=B1) Z wAb Zh wJy Z Z) (zo (j:=0) (vs:=B1) Z Z Z Z cY Z bF Z Z zg (zB Z) Z Z Z ?_))))))))))))
 intro bW cZ
 have bL:SW w [.obj pm3t (.map pe3t pk3t)] U bA [.blk b7 42 B1,.blk b3 42 B0,.obj pm3t (.map bE bC)] bW:=cZ
 refine oA Z Z (eN (zM ?_))
 cases dH
 exact ⟨rfl,_,(wHs (rs:=[.cell 6 42,.tmp 7]) (vs:=[.agg B1.toArray,.bool false]) ⟨⟨_,bF,(wEL ZF zg (bL.blkAt (k:=0) rfl) (vs:=B1) rfl rfl)⟩,⟨rfl,trivial⟩⟩ rfl),bA,_,(bL.pick [2] _ (by decide) rfl),bE,bC,rfl,rfl,cm⟩
theorem wHL (rec_:(wAA->Unit->Unit->Unit->(wAL × List Int × List (Int × Bool))->Option (Bool × (List (Int × Bool))))) (ih:wDz rec_) (p0:wAA) (p1:(wAL × List Int × List (Int × Bool))) (pb1a:Nat) (pb1b:Nat) (pb1c:Nat) (pb1v:Nat) (pb1f:Nat) (pb1g:Nat) (pq1d:Nat) (pA1d_0_1:Option Addr) (pc1d_0_1:Nat) (pA1d_0_2:Option Addr) (pc1d_0_2:Nat) (pm1d_1:Nat) (pe1d_1:Array MapEntry) (pk1d_1:Nat) (pm1d_2:Nat) (pe1d_2:Array MapEntry) (pk1d_2:Nat) (ph1d_2:List (Int × Hd)) (pm1t:Nat) (pe1t:Array MapEntry) (pk1t:Nat) (pA1o:Option Addr) (pc1o:Nat) (w:World) (U:PHeap) (hS:St0 w U [.obj pm1t (.map pe1t pk1t)]) (bp:Cl U pb1a 0 [.map (some pm1t)]) (bq:Cl U pb1b 0 [.func (.func 47) #[.pointer (some ⟨pq1d,0,none⟩)] #[]]) (bw:Cl U pb1c 0 [.pointer (some ⟨pq1d,0,none⟩)]) (bz:Cl U pb1v 0 [.func (.func 49) #[] #[.pointer (some ⟨pb1a,0,none⟩),.pointer (some ⟨pb1b,0,none⟩),.pointer (some ⟨pb1c,0,none⟩),.pointer (some ⟨pb1v,0,none⟩)],.func (.func 51) #[] #[.pointer (some ⟨pb1f,0,none⟩)],.func (.func 52) #[] #[.pointer (some ⟨pb1v,0,none⟩),.pointer (some ⟨pb1g,0,none⟩)],.func (.func 56) #[] #[.pointer (some ⟨pb1v,0,none⟩)],.func (.func 54) #[] #[.pointer (some ⟨pb1f,0,none⟩)]]) (aw:Cl U pb1f 0 [.func (.func 48) #[] #[.pointer (some ⟨pb1c,0,none⟩),.pointer (some ⟨pb1v,0,none⟩)]]) (bA:Cl U pb1g 0 [.slice pA1o p1.2.1.length pc1o]) (bB:Cl U pq1d 0 [jV p1.1.Record.Deadline,.slice pA1d_0_1 p1.1.Record.Skiers.length pc1d_0_1,.slice pA1d_0_2 p1.1.Record.Decisions.length pc1d_0_2,.map (some pm1d_1),.map (some pm1d_2)]) (bC:Sl U 2 pA1d_0_1 pc1d_0_1 p1.1.Record.Skiers.length (nA wAD p1.1.Record.Skiers)) (bD:Sl U 6 pA1d_0_2 pc1d_0_2 p1.1.Record.Decisions.length (nA wAB p1.1.Record.Decisions)) (bE:MpF U pm1d_1 pe1d_1 pk1d_1 wFk wFy p1.1.at_) (br:MrF U pm1d_2 pe1d_2 pk1d_2 6 wAB wCu ph1d_2 p1.1.about) (bs:MpR pe1t wDX wDj p1.2.2) (bu:Sl U 1 pA1o pc1o p1.2.1.length (nA KL.encI p1.2.1)) {r:wAA × Bool × (List (Int × Bool))} (hm:wDP rec_ p0 p1=some r):Gv Tryz.prog 51 [.agg #[jV p0.Number,jV p0.Kind,jV p0.Minute,jV p0.Bib,jV p0.Much,jV p0.About],.pointer (some ⟨pb1f,0,none⟩)] w (wBW w [.obj pm1t (.map pe1t pk1t)] U (fun U_ L_ v=>∃ (es_0:Array MapEntry) (ck_0:Nat),v=.tuple #[.agg #[jV r.1.Number,jV r.1.Kind,jV r.1.Minute,jV r.1.Bib,jV r.1.Much,jV r.1.About],.bool r.2.1]/\L_=[.obj pm1t (.map es_0 ck_0)]/\MpR es_0 wDX wDj r.2.2)):=by
 unfold wDP at hm
 refine Gv.of Tryz.func51 Z Tryz.ntmps51 Tryz.results51 Z (sR gAt Z ?_)
 let B0:List Value:=[jV p0.Number,jV p0.Kind,jV p0.Minute,jV p0.Bib,jV p0.Much,jV p0.About]
 refine ZA (cs:=B0) rfl rfl rfl rfl rfl rfl (by rfl) hS ?_
 intro W2 b3 bm
 let B1:List Value:=[jV 0,jV 0,jV 0,jV 0,jV 0,jV 0]
 refine zq (cs:=B1) Z Z Z Z Z Zh Z bm ?_
 intro W6 b7 aq
 refine oA Z Z (eN (sR gBc Z (oL Z (aq.ldC (f:=0) aw (v:=.func (.func 48) #[] #[.pointer (some ⟨pb1c,0,none⟩),.pointer (some ⟨pb1v,0,none⟩)]) Z Z Tryz.isAgg124 Z) (oL Z (aq.ldBA (j:=1) Z Z Z ZF zg (vs:=B0) Z Z) ?_))))
 have bg:FnOK Tryz.prog U (.func (.func 50) #[] #[]) wTB wTC wBN:=⟨50,[],[],rfl,Tryz.call50,fun U1 w1 x y vs le hs ha hm=>by obtain rfl:=ha;exact wFW x w1 U1 hs  hm⟩
 have q:=bnd hm
 obtain ⟨⟨ag,aX,bK⟩,bb,az⟩:=q
 try dsimp only at az
 have bh:SW w [.obj pm1t (.map pe1t pk1t)] U U [.obj pm1t (.map pe1t pk1t),.blk b7 42 B1,.blk b3 42 B0] W6:=aq.pick [2,0,1] _ (by decide) rfl
 refine zG 1 Z Z Z Z (zF Z Z Tryz.call48 (zA Z (zA Z zK)) Z) bh (fun hs=>wFN rec_ ih p0 wBN (.func (.func 50) #[] #[]) () (p1.1,p1.2.1,p1.2.2) pb1a pb1b pb1c pb1v pb1f pb1g pq1d pA1d_0_1 pc1d_0_1 pA1d_0_2 pc1d_0_2 pm1d_1 pe1d_1 pk1d_1 pm1d_2 pe1d_2 pk1d_2 ph1d_2 pm1t pe1t pk1t pA1o pc1o W6 U hs bg bp bq bw bz aw bA bB bC bD bE br bs bu bb) (.inl Z) ?_
 rintro ak bG bJ aZ bI bi ⟨ap,ao,rfl,rfl,be⟩
 have bj:SW w [.obj pm1t (.map pe1t pk1t)] U ak [.obj pm1t (.map ap ao),.blk b7 42 B1,.blk b3 42 B0] aZ:=bi
 refine oR Z (ZB Z Z (v:=.agg #[jV ag.Number,jV ag.Kind,jV ag.Minute,jV ag.Bib,jV ag.Much,jV ag.About]) Z) (oR Z (ZB Z Z (v:=.bool aX) Z) ?_)
 let B2:List Value:=[jV ag.Number,jV ag.Kind,jV ag.Minute,jV ag.Bib,jV ag.Much,jV ag.About]
 refine zo (j:=1) (vs:=B2) Z Z Z Z bj Z Z Z Z zg (zB Z) Z Z Z ?_
 intro ba bk
 have av:SW w [.obj pm1t (.map pe1t pk1t)] U ak [.obj pm1t (.map ap ao),.blk b7 42 B2,.blk b3 42 B0] ba:=bk
 refine oA Z Z (eN (zM ?_))
 cases az
 exact ⟨rfl,_,(wHs (rs:=[.cell 3 42,.tmp 4]) (vs:=[.agg B2.toArray,.bool aX]) ⟨⟨_,rfl,(wEL ZF zg (av.blkAt (k:=1) rfl) (vs:=B2) rfl rfl)⟩,⟨rfl,trivial⟩⟩ rfl),ak,_,(av.pick [0] _ (by decide) rfl),ap,ao,rfl,rfl,be⟩
theorem wFO (rec_:(wAA->Unit->Unit->Unit->(wAL × List Int × List (Int × Bool))->Option (Bool × (List (Int × Bool))))) (ih:wDz rec_) (p0:wAA) (p1:(wAL × List Int × List (Int × Bool))) (pb1a:Nat) (pb1b:Nat) (pb1c:Nat) (pb1v:Nat) (pb1f:Nat) (pb1g:Nat) (pq1d:Nat) (pA1d_0_1:Option Addr) (pc1d_0_1:Nat) (pA1d_0_2:Option Addr) (pc1d_0_2:Nat) (pm1d_1:Nat) (pe1d_1:Array MapEntry) (pk1d_1:Nat) (pm1d_2:Nat) (pe1d_2:Array MapEntry) (pk1d_2:Nat) (ph1d_2:List (Int × Hd)) (pm1t:Nat) (pe1t:Array MapEntry) (pk1t:Nat) (pA1o:Option Addr) (pc1o:Nat) (p2:Unit) (w:World) (U:PHeap) (hS:St0 w U [.obj pm1t (.map pe1t pk1t)]) (bA:Cl U pb1a 0 [.map (some pm1t)]) (bB:Cl U pb1b 0 [.func (.func 47) #[.pointer (some ⟨pq1d,0,none⟩)] #[]]) (bE:Cl U pb1c 0 [.pointer (some ⟨pq1d,0,none⟩)]) (aZ:Cl U pb1v 0 [.func (.func 49) #[] #[.pointer (some ⟨pb1a,0,none⟩),.pointer (some ⟨pb1b,0,none⟩),.pointer (some ⟨pb1c,0,none⟩),.pointer (some ⟨pb1v,0,none⟩)],.func (.func 51) #[] #[.pointer (some ⟨pb1f,0,none⟩)],.func (.func 52) #[] #[.pointer (some ⟨pb1v,0,none⟩),.pointer (some ⟨pb1g,0,none⟩)],.func (.func 56) #[] #[.pointer (some ⟨pb1v,0,none⟩)],.func (.func 54) #[] #[.pointer (some ⟨pb1f,0,none⟩)]]) (bF:Cl U pb1f 0 [.func (.func 48) #[] #[.pointer (some ⟨pb1c,0,none⟩),.pointer (some ⟨pb1v,0,none⟩)]]) (ba:Cl U pb1g 0 [.slice pA1o p1.2.1.length pc1o]) (bG:Cl U pq1d 0 [jV p1.1.Record.Deadline,.slice pA1d_0_1 p1.1.Record.Skiers.length pc1d_0_1,.slice pA1d_0_2 p1.1.Record.Decisions.length pc1d_0_2,.map (some pm1d_1),.map (some pm1d_2)]) (bH:Sl U 2 pA1d_0_1 pc1d_0_1 p1.1.Record.Skiers.length (nA wAD p1.1.Record.Skiers)) (bI:Sl U 6 pA1d_0_2 pc1d_0_2 p1.1.Record.Decisions.length (nA wAB p1.1.Record.Decisions)) (bJ:MpF U pm1d_1 pe1d_1 pk1d_1 wFk wFy p1.1.at_) (bC:MrF U pm1d_2 pe1d_2 pk1d_2 6 wAB wCu ph1d_2 p1.1.about) (bD:MpR pe1t wDX wDj p1.2.2) (aY:Sl U 1 pA1o pc1o p1.2.1.length (nA KL.encI p1.2.1)) {r:Bool × (List (Int × Bool))} (hm:wBf rec_ p0 p1 p2=some r):Gv Tryz.prog 52 [.agg #[jV p0.Number,jV p0.Kind,jV p0.Minute,jV p0.Bib,jV p0.Much,jV p0.About],.pointer (some ⟨pb1v,0,none⟩),.pointer (some ⟨pb1g,0,none⟩)] w (wBW w [.obj pm1t (.map pe1t pk1t)] U (fun U_ L_ v=>∃ (es_0:Array MapEntry) (ck_0:Nat),v=.bool r.1/\L_=[.obj pm1t (.map es_0 ck_0)]/\MpR es_0 wDX wDj r.2)):=by
 unfold wBf at hm
 refine Gv.of Tryz.func52 Z Tryz.ntmps52 Tryz.results52 Z (sR gAj Z ?_)
 let B0:List Value:=[jV p0.Number,jV p0.Kind,jV p0.Minute,jV p0.Bib,jV p0.Much,jV p0.About]
 refine ZA (cs:=B0) rfl rfl rfl rfl rfl rfl (by rfl) hS ?_
 intro W2 b3 aq
 refine oA Z Z (eN (zH (sR (wDq (.fx 3 (wTZ gAu) .stop)) Z (oR Z (zD Z Z ZN Z Tryz.sizeOf77) (oL Z (aq.ldC (f:=1) aZ (v:=.func (.func 51) #[] #[.pointer (some ⟨pb1f,0,none⟩)]) Z Z Tryz.isAgg77 Z) (oL Z (aq.ldBA (j:=0) Z Z Z ZF zg (vs:=B0) Z Z) ?_))))))
 have q:=bnd hm
 obtain ⟨⟨x6,x7,x8⟩,h9,bb⟩:=q
 try dsimp only at bb
 have bp:SW w [.obj pm1t (.map pe1t pk1t)] U U [.obj pm1t (.map pe1t pk1t),.blk b3 42 B0] W2:=aq.pick [1,0] _ (by decide) rfl
 refine zG 1 Z Z Z Z (zF Z Z Tryz.call51 (zA Z zK) Z) bp (fun hs=>wHL rec_ ih p0 (p1.1,p1.2.1,p1.2.2) pb1a pb1b pb1c pb1v pb1f pb1g pq1d pA1d_0_1 pc1d_0_1 pA1d_0_2 pc1d_0_2 pm1d_1 pe1d_1 pk1d_1 pm1d_2 pe1d_2 pk1d_2 ph1d_2 pm1t pe1t pk1t pA1o pc1o W2 U hs bA bB bE aZ bF ba bG bH bI bJ bC bD aY h9) (.inl Z) ?_
 rintro am bP bT bg be bq ⟨aj,ai,rfl,rfl,aX⟩
 have br:SW w [.obj pm1t (.map pe1t pk1t)] U am [.obj pm1t (.map aj ai),.blk b3 42 B0] bg:=bq
 refine oM Z Z (oR Z (ZB Z Z (v:=.agg #[jV x6.Number,jV x6.Kind,jV x6.Minute,jV x6.Bib,jV x6.Much,jV x6.About]) Z) (oR Z (ZB Z Z (v:=.bool x7) Z) (zq (cs:=[jV 0,jV 0,jV 0,jV 0,jV 0,jV 0]) Z Z Z Z Z Zh Z br ?_)))
 intro bR az bs
 let B1:List Value:=[jV x6.Number,jV x6.Kind,jV x6.Minute,jV x6.Bib,jV x6.Much,jV x6.About]
 refine zo (j:=0) (vs:=B1) Z Z Z Z bs Z Z Z Z zg (zB Z) Z Z Z ?_
 intro aw bu
 have ak:SW w [.obj pm1t (.map pe1t pk1t)] U am [.blk az 42 B1,.obj pm1t (.map aj ai),.blk b3 42 B0] aw:=bu
 refine oA Z Z (eN (sR fL1 Z (oM Z Z (eN (ifc bb ?_ ?_)))))
 intro ap bK
 refine zu (congrArg nB ap.out) (sR fL4 Z (oR Z (zD Z Z zP Z ZE) (oL Z (ak.ldB (j:=0) Z Z Z ZS (v:=jV x6.Kind) Z) (oR Z (ZR Z Z Z) (oA Z Z (eN (zM (zN ?_))))))))
 cases bK
 exact ⟨rfl,_,(zi rfl),am,_,(ak.pick [1] _ (by decide) rfl),aj,ai,rfl,rfl,aX⟩
 intro ap bL
 refine zn (congrArg nB (nD.2 ap.out)) (kN (sR (wDq gAg) Z ?_))
 have bi:=ba.le be
 refine oL Z (ak.ldC (f:=0) bi (v:=.slice pA1o p1.2.1.length pc1o) Z Z yB Z) (oR Z (zD Z Z zP Z zC) (oL Z (ak.ldB (j:=2) Z Z Z zO (v:=jV p0.Number) Z) ?_))
 have bj:=aY.le be
 refine bnK bL fun bV bk bM=>zG 0 Z Z Z Z (zF Z Z Tryz.call53 (zA Z (zA Z zK)) Z) ak (fun hs=>wDs p1.2.1 pA1o pc1o p0.Number aw am hs bj bk) (.inr Z) ?_
 rintro au bQ bU bh bS bw ⟨rfl,rfl⟩
 have bz:SW w [.obj pm1t (.map pe1t pk1t)] U au [.blk az 42 B1,.obj pm1t (.map aj ai),.blk b3 42 B0] bh:=bw
 refine oA Z Z (eN (zM ?_))
 cases bM
 exact ⟨rfl,_,(zi rfl),au,_,(bz.pick [1] _ (by decide) rfl),aj,ai,rfl,rfl,aX⟩
theorem wEO (n_:Nat):∀ (p0:wAA) (p1:Unit) (p2:Unit) (p3:Unit) (p4:(wAL × List Int × List (Int × Bool))) (pb4a:Nat) (pb4b:Nat) (pb4c:Nat) (pb4v:Nat) (pb4f:Nat) (pb4g:Nat) (pq4d:Nat) (pA4d_0_1:Option Addr) (pc4d_0_1:Nat) (pA4d_0_2:Option Addr) (pc4d_0_2:Nat) (pm4d_1:Nat) (pe4d_1:Array MapEntry) (pk4d_1:Nat) (pm4d_2:Nat) (pe4d_2:Array MapEntry) (pk4d_2:Nat) (ph4d_2:List (Int × Hd)) (pm4t:Nat) (pe4t:Array MapEntry) (pk4t:Nat) (pA4o:Option Addr) (pc4o:Nat) (w:World) (U:PHeap) (hS:St0 w U [.obj pm4t (.map pe4t pk4t)]) (bI:Cl U pb4a 0 [.map (some pm4t)]) (cg:Cl U pb4b 0 [.func (.func 47) #[.pointer (some ⟨pq4d,0,none⟩)] #[]]) (dg:Cl U pb4c 0 [.pointer (some ⟨pq4d,0,none⟩)]) (dh:Cl U pb4v 0 [.func (.func 49) #[] #[.pointer (some ⟨pb4a,0,none⟩),.pointer (some ⟨pb4b,0,none⟩),.pointer (some ⟨pb4c,0,none⟩),.pointer (some ⟨pb4v,0,none⟩)],.func (.func 51) #[] #[.pointer (some ⟨pb4f,0,none⟩)],.func (.func 52) #[] #[.pointer (some ⟨pb4v,0,none⟩),.pointer (some ⟨pb4g,0,none⟩)],.func (.func 56) #[] #[.pointer (some ⟨pb4v,0,none⟩)],.func (.func 54) #[] #[.pointer (some ⟨pb4f,0,none⟩)]]) (dm:Cl U pb4f 0 [.func (.func 48) #[] #[.pointer (some ⟨pb4c,0,none⟩),.pointer (some ⟨pb4v,0,none⟩)]]) (dp:Cl U pb4g 0 [.slice pA4o p4.2.1.length pc4o]) (cj:Cl U pq4d 0 [jV p4.1.Record.Deadline,.slice pA4d_0_1 p4.1.Record.Skiers.length pc4d_0_1,.slice pA4d_0_2 p4.1.Record.Decisions.length pc4d_0_2,.map (some pm4d_1),.map (some pm4d_2)]) (cm:Sl U 2 pA4d_0_1 pc4d_0_1 p4.1.Record.Skiers.length (nA wAD p4.1.Record.Skiers)) (cn:Sl U 6 pA4d_0_2 pc4d_0_2 p4.1.Record.Decisions.length (nA wAB p4.1.Record.Decisions)) (cp:MpF U pm4d_1 pe4d_1 pk4d_1 wFk wFy p4.1.at_) (ci:MrF U pm4d_2 pe4d_2 pk4d_2 6 wAB wCu ph4d_2 p4.1.about) (bJ:MpR pe4t wDX wDj p4.2.2) (df:Sl U 1 pA4o pc4o p4.2.1.length (nA KL.encI p4.2.1)) {r:Bool × (List (Int × Bool))} (hm:wAa n_ p0 p1 p2 p3 p4=some r),Gv Tryz.prog 49 [.agg #[jV p0.Number,jV p0.Kind,jV p0.Minute,jV p0.Bib,jV p0.Much,jV p0.About],.pointer (some ⟨pb4a,0,none⟩),.pointer (some ⟨pb4b,0,none⟩),.pointer (some ⟨pb4c,0,none⟩),.pointer (some ⟨pb4v,0,none⟩)] w (wBW w [.obj pm4t (.map pe4t pk4t)] U (fun U_ L_ v=>∃ (es_0:Array MapEntry) (ck_0:Nat),v=.bool r.1/\L_=[.obj pm4t (.map es_0 ck_0)]/\MpR es_0 wDX wDj r.2)):=by
 induction n_ with
 | zero =>
  intros
  rename_i hm
  have fO:(none:Option (Bool × (List (Int × Bool))))=some _:=hm
  cases fO
 | succ n_ ih =>
  intro p0 p1 p2 p3 p4 pb4a pb4b pb4c pb4v pb4f pb4g pq4d pA4d_0_1 pc4d_0_1 pA4d_0_2 pc4d_0_2 pm4d_1 pe4d_1 pk4d_1 pm4d_2 pe4d_2 pk4d_2 ph4d_2 pm4t pe4t pk4t pA4o pc4o w U hS bI cg dg dh dm dp cj cm cn cp ci bJ df r hm
  have hm:wBA (wAa n_) p0 p1 p2 p3 p4=some r:=hm
  unfold wBA at hm
  refine Gv.of Tryz.func49 Z Tryz.ntmps49 Tryz.results49 Z (sR gAj Z ?_)
  let B0:List Value:=[jV p0.Number,jV p0.Kind,jV p0.Minute,jV p0.Bib,jV p0.Much,jV p0.About]
  refine ZA (cs:=B0) rfl rfl rfl rfl rfl rfl (by rfl) hS ?_
  intro W2 b3 bb
  refine oA Z Z (eN (zH (sR fL9 Z (oL Z (bb.ldC (f:=0) bI (v:=.map (some pm4t)) Z Z Tryz.isAgg122 Z) (oR Z (zD Z Z zP Z zC) (oL Z (bb.ldB (j:=0) Z Z Z zO (v:=jV p0.Number) Z) (oL Z (bb.lookup2 (j:=1) (mk:=wDX) (mv:=wDj) (a:=p0.Number) (z:=false) Z Z Z Z (wDO Tryz.runUnderlying122) wKB Tryz.zeroValue4 bJ) (oM Z Z (oR Z (ZB Z Z (v:=.bool (wAk p4.2.2 p0.Number false)) Z) (oR Z (ZB Z Z (v:=.bool (wKT p4.2.2 p0.Number)) Z) (oA Z Z (oA Z Z (eN (sR fL1 Z (oM Z Z (eN ?_))))))))))))))))
  by_cases c6:(wKT p4.2.2 p0.Number)=true
  ·have dv:=hm;rw [if_pos c6] at dv;replace c6:=zI c6
   refine zu (congrArg nB c6.out) (sR fL2 Z (oM Z Z (oA Z Z (eN (zM (zN ?_))))))
   cases dv
   exact ⟨rfl,_,(zi rfl),U,_,(bb.pick [1] _ (by decide) rfl),pe4t,pk4t,rfl,rfl,bJ⟩
  ·have dx:=hm;rw [if_neg c6] at dx;replace c6:=zI c6
   refine zn (congrArg nB (nD.2 c6.out)) (kN (sR gBa Z (oL Z (bb.ldC (f:=0) cg (v:=.func (.func 47) #[.pointer (some ⟨pq4d,0,none⟩)] #[]) Z Z Tryz.isAgg76 Z) (oL Z (bb.ldBA (j:=0) Z Z Z ZF zg (vs:=B0) Z Z) (bnK dx fun x9 dX fQ=>zG 0 Z Z Z Z (zF Z Z Tryz.call47 (zA Z zK) Z) bb (fun hs=>wHv p4.1 pq4d pA4d_0_1 pc4d_0_1 pA4d_0_2 pc4d_0_2 pm4d_1 pe4d_1 pk4d_1 pm4d_2 pe4d_2 pk4d_2 ph4d_2 p0 W2 U hs cj cm cn cp ci dX) (.inr Z) ?_)))))
   rintro bK gq gI bM ao fA ⟨rfl,rfl⟩
   have fC:SW w [.obj pm4t (.map pe4t pk4t)] U bK [.blk b3 42 B0,.obj pm4t (.map pe4t pk4t)] bM:=fA
   refine za rfl rfl rfl rfl (fun _=>ZX rfl rfl) (Ze rfl rfl rfl rfl rfl rfl (eN (zH (zH (ZT ZH [1,3,3,1,3,1,1,3,3] fL9 (by kernel_rfl) ?_)))))
   have bq:=fC.drew
   generalize hw_W20:({ bM with drawn:=bM.drawn + 1 }:World)=gv at bq ⊢
   have cX:=dg.le ao
   refine oL Z (bq.ldC (f:=0) cX (v:=.pointer (some ⟨pq4d,0,none⟩)) Z Z yY Z) (oR Z (Zm Z Z) (oR Z (zD Z Z Zw Z Tryz.sizeOf112) ?_))
   have cZ:=cj.le ao
   refine oL Z (bq.ldC (f:=4) cZ (v:=.map (some pm4d_2)) Z Z Tryz.isAgg112 Z) (oR Z (zD Z Z zP Z zC) (oL Z (bq.ldB (j:=0) Z Z Z zO (v:=jV p0.Number) Z) ?_))
   have bY:=ci.le ao
   refine oL Z (bq.lookupMrF bY Z Z Z (wDO Tryz.runUnderlying112) wKA Tryz.zeroValue31) (oR Z (zy Z Z ZC) (oM Z Z (eN (zV ?_))))
   have q:=bnd fQ
   obtain ⟨⟨gQ,gm⟩,fL,du⟩:=q
   try dsimp only at du
   have q:=wBr fL
   obtain ⟨cr,fM⟩:=q
   replace cr:=zI cr
   refine CK.forN' (fun be (ct,bN) σ_ w_=>∃ (U_:PHeap) (aw:Array MapEntry) (aX:Nat),σ_ 34=jV (↑be:Int)/\σ_ 1=.pointer (some ⟨pb4a,0,none⟩)/\σ_ 4=.pointer (some ⟨pb4v,0,none⟩)/\σ_ 5=.pointer (some ⟨b3,0,none⟩)/\σ_ 9=.bool bN/\σ_ 32=.slice ((hdO ph4d_2 p0.Number).A) ((wAk p4.1.about p0.Number ([]:List wAA)).length) ((hdO ph4d_2 p0.Number).c)/\σ_ 33=jV (↑((wAk p4.1.about p0.Number ([]:List wAA)).length):Int)/\PHeap.Le bK U_/\SW w [.obj pm4t (.map pe4t pk4t)] U U_ [.blk b3 42 B0,.obj pm4t (.map aw aX)] w_/\MpR aw wDX wDj ct) fM ?_ ?_ ?_
   ·exact ⟨bK,pe4t,pk4t,Z,Z,Z,Z,Z,Z,Z,(zU _),bq,bJ⟩
   ·rintro be ⟨ct,bN⟩ gP gU gz cq ⟨bg,aw,aX,bw,bT,bU,bF,bV,bG,bH,am,de,bZ⟩ dA
    try dsimp only at dA
    have cD:Hid ((↑be:Int) < (↑((wAk p4.1.about p0.Number ([]:List wAA)).length):Int)):=zI (wBq cq)
    replace cq:=zI cq
    have fN:Hid (w64 ((↑be:Int) + 1)=(↑(be + 1):Int)):=zI (by have h1:=cr.out;have h2:=cD.out;rw [wAT] <;> omega)
    refine sR fL1 Z (oR Z (ze Z bw bH) (eN (zH (cT Z cD (kN ?_)))))
    have q:=bnd dA
    obtain ⟨⟨gg,dI⟩,gf,dw⟩:=q
    try dsimp only at dw
    refine CK.cut (fun σ_ w_=>∃ (U_:PHeap) (bE:Array MapEntry) (bQ:Nat),σ_ 1=.pointer (some ⟨pb4a,0,none⟩)/\σ_ 4=.pointer (some ⟨pb4v,0,none⟩)/\σ_ 5=.pointer (some ⟨b3,0,none⟩)/\σ_ 9=.bool dI/\σ_ 32=.slice ((hdO ph4d_2 p0.Number).A) ((wAk p4.1.about p0.Number ([]:List wAA)).length) ((hdO ph4d_2 p0.Number).c)/\σ_ 33=jV (↑((wAk p4.1.about p0.Number ([]:List wAA)).length):Int)/\σ_ 34=jV (↑be:Int)/\PHeap.Le bg U_/\SW w [.obj pm4t (.map pe4t pk4t)] U U_ [.obj pm4t (.map bE bQ),.blk b3 42 B0] w_/\MpR bE wDX wDj gg) ?_ ?_
    ·refine zV (sR gAz Z (bnK gf fun ai da f9=>?_))
     have fk:=((bY).2 p0.Number).2.le am
     have q:=fk.el (fun _=>rfl) (wBD da)
     obtain ⟨gB,gG,fm,ft⟩:=q
     refine oR Z (ZZ Z bG fm bw ZC zg (wDB da)) (oL Z (de.ldCA (f:=0) ft Z Z ZF zg (us:=[jV ai.Number,jV ai.Kind,jV ai.Minute,jV ai.Bib,jV ai.Much,jV ai.About]) Z Z) (zq (cs:=[jV 0,jV 0,jV 0,jV 0,jV 0,jV 0]) Z Z Z Z Z Zh Z de ?_))
     intro gA ba fJ
     let B1:List Value:=[jV ai.Number,jV ai.Kind,jV ai.Minute,jV ai.Bib,jV ai.Much,jV ai.About]
     refine zo (j:=0) (vs:=B1) Z Z Z Z fJ Z Z Z Z zg (zB Z) Z Z Z ?_
     intro cC fK
     have br:SW w [.obj pm4t (.map pe4t pk4t)] U bg [.blk ba 42 B1,.blk b3 42 B0,.obj pm4t (.map aw aX)] cC:=fK
     refine eN (bnK f9 fun dJ dB ga=>CK.cut (fun σ_ w_=>∃ (U_:PHeap),σ_ 1=.pointer (some ⟨pb4a,0,none⟩)/\σ_ 4=.pointer (some ⟨pb4v,0,none⟩)/\σ_ 5=.pointer (some ⟨b3,0,none⟩)/\σ_ 9=.bool bN/\σ_ 11=.pointer (some ⟨ba,0,none⟩)/\σ_ 12=.bool dJ/\σ_ 32=.slice ((hdO ph4d_2 p0.Number).A) ((wAk p4.1.about p0.Number ([]:List wAA)).length) ((hdO ph4d_2 p0.Number).c)/\σ_ 33=jV (↑((wAk p4.1.about p0.Number ([]:List wAA)).length):Int)/\σ_ 34=jV (↑be:Int)/\PHeap.Le bg U_/\SW w [.obj pm4t (.map pe4t pk4t)] U U_ [.blk ba 42 B1,.blk b3 42 B0,.obj pm4t (.map aw aX)] w_) ?_ ?_)
     ·refine rR (wQu (.fx 10 (wTc (.nil)) .stop)) Z (oR Z (zD Z Z zP Z ZE) (oL Z (br.ldB (j:=0) Z Z Z ZS (v:=jV ai.Kind) Z) (oR Z (ZR Z Z Z) (oM Z Z ?_))))
      by_cases ag:ai.Kind=5
      ·have dy:=dB;rw [if_pos ag] at dy;replace ag:=zI ag
       refine oT Z ag (oT Z ag (oT Z ag (oT Z ag (zp Z Z Z (wBb Z Z Z) (zp Z Z Z (wBb Z Z Z) (ZO Z Z Z (wBb Z Z Z) (zp Z Z Z (wBb Z Z Z) (oT Z ag (oR Z (zj Z (ZU ag.out) Z) (oA Z Z (zk ?_)))))))))))
       cases dy
       exact zJ ⟨Z,⟨bg,bT,bU,bF,bV,Z,Z,bG,bH,bw,(zU _),br⟩⟩
      ·have dz:=dB;rw [if_neg ag] at dz;replace ag:=zI ag
       refine rU Z (wF Z ag) (zD Z Z zP Z ZE) (zr Z Z Z (wF Z ag) (br.ldB (j:=0) Z Z Z ZS (v:=jV ai.Kind) Z) Z (rU Z (wF Z ag) (ZR Z Z Z) (zQ Z Z Z (wF Z ag) Z Z (ifc dz ?_ ?_))))
       ·intro av gc
        refine rU Z (wT Z av) (zD Z bF zP Z ZE) (zr Z Z Z (wT Z av) (br.ldB (j:=1) Z Z Z ZS (v:=jV p0.Kind) Z) Z (bnK gc fun x100 dY fP=>zG 0 Z Z Z (wT Z av) (zF Z Z Tryz.call50 (zA Z zK) Z) br (fun hs=>wFW p0.Kind cC bg hs dY) (.inr Z) ?_))
        rintro cy gp gH dE gh fw ⟨rfl,rfl⟩
        have fy:SW w [.obj pm4t (.map pe4t pk4t)] U cy [.blk ba 42 B1,.blk b3 42 B0,.obj pm4t (.map aw aX)] dE:=fw
        refine rU Z (wT Z av) (ZX Z Z) (rU Z (wF Z ag) (zj Z (ZU av.out) Z) (oR Z (zR Z (ZI ag.out) Z) (oA Z Z (zk ?_))))
        cases fP
        exact zJ ⟨Z,⟨cy,bT,bU,bF,bV,Z,Z,bG,bH,bw,gh,fy⟩⟩
       ·intro av fR
        refine oF Z av (oF Z av (ZO Z Z Z (zW Z Z (ZI av.out) Z) (oF Z av (rU Z (wF Z ag) (zR Z (ZI av.out) Z) (oR Z (zR Z (ZI ag.out) Z) (oA Z Z (zk ?_)))))))
        cases fR
        exact zJ ⟨Z,⟨bg,bT,bU,bF,bV,Z,Z,bG,bH,bw,(zU _),br⟩⟩
     ·rintro gR cA ⟨bA,bh,aZ,bi,bu,bS,dL,bj,bk,bm,ah,bz⟩
      refine sR (wPj (.fx 8 (wVg (.fx 18 (.fl 19 (.fl 20 .nil)) .stop)) .stop)) Z (oM Z bu (oM Z Z (ifc ga ?_ ?_)))
      ·intro bs fS
       refine zQ Z Z Z (zS Z Z (congrArg nB bs.out)) Z dL (oR Z (zj Z (congrArg nB bs.out) Z) (oM Z Z (ifc fS ?_ ?_)))
       ·intro aq fT
        refine za Z Z Z (zS Z Z (congrArg nB aq.out)) (fun _=>zD Z aZ ZN Z yM) ?_
        have dZ:=dh.le ao
        have eh:=dZ.le am
        have bW:=eh.le ah
        refine zr Z Z Z (zS Z Z (congrArg nB aq.out)) (bz.ldC (f:=0) bW (v:=.func (.func 49) #[] #[.pointer (some ⟨pb4a,0,none⟩),.pointer (some ⟨pb4b,0,none⟩),.pointer (some ⟨pb4c,0,none⟩),.pointer (some ⟨pb4v,0,none⟩)]) Z Z Tryz.isAgg76 Z) Z (zr Z Z Z (zS Z Z (congrArg nB aq.out)) (bz.ldBA (j:=0) Z Z bS ZF zg (vs:=B1) Z Z) Z ?_)
        have ep:=bI.le ao
        have er:=ep.le am
        have cJ:=er.le ah
        have eu:=cg.le ao
        have ew:=eu.le am
        have cK:=ew.le ah
        have ey:=cX.le am
        have cL:=ey.le ah
        have eA:=dm.le ao
        have eB:=eA.le am
        have cM:=eB.le ah
        have eC:=dp.le ao
        have eD:=eC.le am
        have cN:=eD.le ah
        have eE:=cZ.le am
        have cP:=eE.le ah
        have eF:=cm.le ao
        have eG:=eF.le am
        have cQ:=eG.le ah
        have eH:=cn.le ao
        have eI:=eH.le am
        have cR:=eI.le ah
        have eJ:=cp.le ao
        have eK:=eJ.le am
        have cS:=eK.le ah
        have eM:=bY.le am
        have cU:=eM.le ah
        have eO:=df.le ao
        have eP:=eO.le am
        have cV:=eP.le ah
        have q:=bnd fT
        obtain ⟨⟨gL,gk⟩,eQ,dr⟩:=q
        try dsimp only at dr
        have fz:SW w [.obj pm4t (.map pe4t pk4t)] U bA [.obj pm4t (.map aw aX),.blk ba 42 B1,.blk b3 42 B0] cA:=bz.pick [2,0,1] _ (by decide) rfl
        refine zG 1 Z Z Z (zS Z Z (congrArg nB aq.out)) (zF Z Z Tryz.call49 (zA Z zK) Z) fz (fun hs=>ih ai () () () (p4.1,p4.2.1,ct) pb4a pb4b pb4c pb4v pb4f pb4g pq4d pA4d_0_1 pc4d_0_1 pA4d_0_2 pc4d_0_2 pm4d_1 pe4d_1 pk4d_1 pm4d_2 pe4d_2 pk4d_2 ph4d_2 pm4t aw aX pA4o pc4o cA bA hs cJ cK cL bW cM cN cP cQ cR cS cU bZ cV eQ) (.inl Z) ?_
        rintro bB gt gJ cB aj fB ⟨bD,bC,rfl,rfl,bX⟩
        have bp:SW w [.obj pm4t (.map pe4t pk4t)] U bB [.obj pm4t (.map bD bC),.blk ba 42 B1,.blk b3 42 B0] cB:=fB
        refine oR Z (zj Z (congrArg nB aq.out) Z) (oM Z Z (ifc dr ?_ ?_))
        ·intro ak fU
         refine za Z Z Z (zS Z Z (congrArg nB ak.out)) (fun _=>zD Z bS zP Z ZE) (zr Z Z Z (zS Z Z (congrArg nB ak.out)) (bp.ldB (j:=1) Z Z Z ZS (v:=jV ai.Kind) Z) Z (za Z Z Z (zS Z Z (congrArg nB ak.out)) (fun _=>ZR Z Z Z) (zQ Z Z Z (zS Z Z (congrArg nB ak.out)) Z Z (ifc fU ?_ ?_))))
         ·intro au fV
          refine oT Z au (oT Z au (oT Z au (ZO Z Z Z (zW Z Z (ZU au.out) Z) (za Z Z Z (zS Z Z (congrArg nB ak.out)) (fun _=>zj Z (ZU au.out) Z) (oR Z (zj Z (congrArg nB ak.out) Z) (eN (zu Z (rR fL1 Z (oA Z Z (zk (zh ?_)))))))))))
          cases fV
          exact zJ ⟨rfl,⟨bB,bD,bC,bh,aZ,bi,rfl,bj,bk,bm,(ah.trans aj),(bp.pick [0,2] _ (by decide) rfl),bX⟩⟩
         ·intro au fW
          refine rU Z (wF Z au) (zD Z aZ ZN Z yM) ?_
          have cW:=bW.le aj
          refine zr Z Z Z (wF Z au) (bp.ldC (f:=2) cW (v:=.func (.func 52) #[] #[.pointer (some ⟨pb4v,0,none⟩),.pointer (some ⟨pb4g,0,none⟩)]) Z Z Tryz.isAgg76 Z) Z (zr Z Z Z (wF Z au) (bp.ldBA (j:=1) Z Z bS ZF zg (vs:=B1) Z Z) Z ?_)
          have eR:=cJ.le aj
          have eS:=cK.le aj
          have eT:=cL.le aj
          have eU:=cM.le aj
          have eV:=cN.le aj
          have eW:=cP.le aj
          have eX:=cQ.le aj
          have eY:=cR.le aj
          have eZ:=cS.le aj
          have fb:=cU.le aj
          have fc:=cV.le aj
          have q:=bnd fW
          obtain ⟨⟨gM,gN⟩,fd,dt⟩:=q
          try dsimp only at dt
          refine zG 1 Z Z Z (wF Z au) (zF Z Z Tryz.call52 (zA Z zK) Z) bp (fun hs=>wFO (wAa n_) ih ai (p4.1,p4.2.1,gk) pb4a pb4b pb4c pb4v pb4f pb4g pq4d pA4d_0_1 pc4d_0_1 pA4d_0_2 pc4d_0_2 pm4d_1 pe4d_1 pk4d_1 pm4d_2 pe4d_2 pk4d_2 ph4d_2 pm4t bD bC pA4o pc4o () cB bB hs eR eS eT cW eU eV eW eX eY eZ fb bX fc fd) (.inl Z) ?_
          rintro bL gu gK dG dC fD ⟨bR,bO,rfl,rfl,cY⟩
          have db:SW w [.obj pm4t (.map pe4t pk4t)] U bL [.obj pm4t (.map bR bO),.blk ba 42 B1,.blk b3 42 B0] dG:=fD
          refine za Z Z Z (zS Z Z (congrArg nB ak.out)) (fun _=>zR Z (ZI au.out) Z) (oR Z (zj Z (congrArg nB ak.out) Z) (eN (ifc dt ?_ ?_)))
          ·intro bP fY
           refine zu (congrArg nB bP.out) (rR fL1 Z (oA Z Z (zk (zh ?_))))
           cases fY
           exact zJ ⟨rfl,⟨bL,bR,bO,bh,aZ,bi,rfl,bj,bk,bm,((ah.trans aj).trans dC),(db.pick [0,2] _ (by decide) rfl),cY⟩⟩
          ·intro bP fZ
           refine zn (congrArg nB (nD.2 bP.out)) (Zd (zh ?_))
           cases fZ
           exact zJ ⟨rfl,⟨bL,bR,bO,bh,aZ,bi,bu,bj,bk,bm,((ah.trans aj).trans dC),(db.pick [0,2] _ (by decide) rfl),cY⟩⟩
        ·intro ak f4
         refine zp Z Z Z (zW Z Z (congrArg nB (nD.2 ak.out)) Z) (zp Z Z Z (zW Z Z (congrArg nB (nD.2 ak.out)) Z) (zp Z Z Z (zW Z Z (congrArg nB (nD.2 ak.out)) Z) (zp Z Z Z (zW Z Z (congrArg nB (nD.2 ak.out)) Z) (zp Z Z Z (wBb Z Z Z) (zp Z Z Z (wBb Z Z Z) (zp Z Z Z (wBb Z Z Z) (ZO Z Z Z (wBb Z Z Z) (zp Z Z Z (zW Z Z (congrArg nB (nD.2 ak.out)) Z) (oR Z (zR Z (congrArg nB (nD.2 ak.out)) Z) (eN (zn Z (Zd (zh ?_)))))))))))))
         cases f4
         exact zJ ⟨rfl,⟨bB,bD,bC,bh,aZ,bi,bu,bj,bk,bm,(ah.trans aj),(bp.pick [0,2] _ (by decide) rfl),bX⟩⟩
       ·intro aq f5
        refine zp Z Z Z (zW Z Z (congrArg nB (nD.2 aq.out)) Z) (zp Z Z Z (zW Z Z (congrArg nB (nD.2 aq.out)) Z) (zp Z Z Z (zW Z Z (congrArg nB (nD.2 aq.out)) Z) (ZO Z Z Z (zW Z Z (congrArg nB (nD.2 aq.out)) Z) (oR Z (zR Z (congrArg nB (nD.2 aq.out)) Z) (oM Z Z (oN Z (oN Z (oN Z (oN Z (zp Z Z Z (wBb Z Z Z) (zp Z Z Z (wBb Z Z Z) (zp Z Z Z (wBb Z Z Z) (ZO Z Z Z (wBb Z Z Z) (oN Z (oR Z (zR Z Z Z) (eN (zn Z (Zd (zh ?_)))))))))))))))))))
        cases f5
        exact zJ ⟨rfl,⟨bA,aw,aX,bh,aZ,bi,bu,bj,bk,bm,ah,(bz.pick [2,1] _ (by decide) rfl),bZ⟩⟩
      ·intro bs f7
       refine zp Z Z Z (zW Z Z (congrArg nB (nD.2 bs.out)) Z) (oR Z (zR Z (congrArg nB (nD.2 bs.out)) Z) (oM Z Z (oN Z (oN Z (oN Z (ZO Z Z Z (zW Z Z Z Z) (oR Z (zR Z Z Z) (oM Z Z (oN Z (oN Z (oN Z (oN Z (zp Z Z Z (wBb Z Z Z) (zp Z Z Z (wBb Z Z Z) (zp Z Z Z (wBb Z Z Z) (ZO Z Z Z (wBb Z Z Z) (oN Z (oR Z (zR Z Z Z) (eN (zn Z (Zd (zh ?_))))))))))))))))))))))
       cases f7
       exact zJ ⟨rfl,⟨bA,aw,aX,bh,aZ,bi,bu,bj,bk,bm,ah,(bz.pick [2,1] _ (by decide) rfl),bZ⟩⟩
    ·rintro gS gw ⟨dD,bE,bQ,dM,dN,dO,dP,dQ,dR,dS,gi,fE,ff⟩
     refine rR fL2 Z (oR Z (zw (zZ Z dS Z) (congrArg (jV) fN.out)) (oM Z Z (zk ?_)))
     cases dw
     exact zJ ⟨rfl,⟨dD,bE,bQ,rfl,dM,dN,dO,dP,dQ,dR,(am.trans gi),(fE.pick [1,0] _ (by decide) rfl),ff⟩⟩
   ·rintro gT gy ⟨cz,gD,gC,dW,dT,gE,dU,cH,gF,dV,gj,cd,fg⟩
    have dK:Hid (¬ ((↑(((↑((wAk p4.1.about p0.Number ([]:List wAA)).length):Int):Int) - 0).toNat:Int) < (↑((wAk p4.1.about p0.Number ([]:List wAA)).length):Int))):=zI (wBH)
    refine sR fL1 Z (oR Z (ze Z dW dV) (eN (zH (cF Z dK (ZD (zb (zb (zz (zJ (sR (wET (.fx 4 .nil .stop)) Z ?_))))))))))
    have fh:=bI.le ao
    have fj:=fh.le gj
    refine zr rfl rfl rfl rfl (cd.ldC (f:=0) fj (v:=.map (some pm4t)) rfl dT Tryz.isAgg122 rfl) rfl (za rfl rfl rfl rfl (fun _=>zD rfl dU zP rfl zC) (zr rfl rfl rfl rfl (cd.ldB (j:=0) rfl rfl rfl zO (v:=jV p0.Number) rfl) rfl (zQ rfl rfl rfl rfl rfl cH (OKS.mapPut (x:=.tmp 74) (y:=.tmp 76) (z:=.tmp 77) (j:=1) (mk:=wDX) (mv:=wDj) (a:=p0.Number) (v:=gm) rfl rfl rfl (by first | exact .inl rfl | exact .inr rfl) cd rfl rfl rfl rfl (wDO Tryz.runUnderlying122) wKB fg rfl ?_))))
    intro cG cE dH ge fG
    have fH:SW w [.obj pm4t (.map pe4t pk4t)] U cz [.blk b3 42 B0,.obj pm4t (.map cG cE)] dH:=fG
    refine eN (sR fL2 Z (oM Z cH (oA Z Z (eN (zM ?_)))))
    cases du
    exact ⟨rfl,_,(zi rfl),cz,_,(fH.pick [1] _ (by decide) rfl),cG,cE,rfl,rfl,ge⟩
set_option maxHeartbeats 4000000
theorem wHM (p0:wAA) (p1:(wAL × List Int × List (Int × Bool))) (pb1a:Nat) (pb1b:Nat) (pb1c:Nat) (pb1v:Nat) (pb1f:Nat) (pb1g:Nat) (pq1d:Nat) (pA1d_0_1:Option Addr) (pc1d_0_1:Nat) (pA1d_0_2:Option Addr) (pc1d_0_2:Nat) (pm1d_1:Nat) (pe1d_1:Array MapEntry) (pk1d_1:Nat) (pm1d_2:Nat) (pe1d_2:Array MapEntry) (pk1d_2:Nat) (ph1d_2:List (Int × Hd)) (pm1t:Nat) (pe1t:Array MapEntry) (pk1t:Nat) (pA1o:Option Addr) (pc1o:Nat) (w:World) (U:PHeap) (hS:St0 w U [.obj pm1t (.map pe1t pk1t)]) (bp:Cl U pb1a 0 [.map (some pm1t)]) (bq:Cl U pb1b 0 [.func (.func 47) #[.pointer (some ⟨pq1d,0,none⟩)] #[]]) (bw:Cl U pb1c 0 [.pointer (some ⟨pq1d,0,none⟩)]) (bz:Cl U pb1v 0 [.func (.func 49) #[] #[.pointer (some ⟨pb1a,0,none⟩),.pointer (some ⟨pb1b,0,none⟩),.pointer (some ⟨pb1c,0,none⟩),.pointer (some ⟨pb1v,0,none⟩)],.func (.func 51) #[] #[.pointer (some ⟨pb1f,0,none⟩)],.func (.func 52) #[] #[.pointer (some ⟨pb1v,0,none⟩),.pointer (some ⟨pb1g,0,none⟩)],.func (.func 56) #[] #[.pointer (some ⟨pb1v,0,none⟩)],.func (.func 54) #[] #[.pointer (some ⟨pb1f,0,none⟩)]]) (aw:Cl U pb1f 0 [.func (.func 48) #[] #[.pointer (some ⟨pb1c,0,none⟩),.pointer (some ⟨pb1v,0,none⟩)]]) (bA:Cl U pb1g 0 [.slice pA1o p1.2.1.length pc1o]) (bB:Cl U pq1d 0 [jV p1.1.Record.Deadline,.slice pA1d_0_1 p1.1.Record.Skiers.length pc1d_0_1,.slice pA1d_0_2 p1.1.Record.Decisions.length pc1d_0_2,.map (some pm1d_1),.map (some pm1d_2)]) (bC:Sl U 2 pA1d_0_1 pc1d_0_1 p1.1.Record.Skiers.length (nA wAD p1.1.Record.Skiers)) (bD:Sl U 6 pA1d_0_2 pc1d_0_2 p1.1.Record.Decisions.length (nA wAB p1.1.Record.Decisions)) (bE:MpF U pm1d_1 pe1d_1 pk1d_1 wFk wFy p1.1.at_) (br:MrF U pm1d_2 pe1d_2 pk1d_2 6 wAB wCu ph1d_2 p1.1.about) (bs:MpR pe1t wDX wDj p1.2.2) (bu:Sl U 1 pA1o pc1o p1.2.1.length (nA KL.encI p1.2.1)) {r:wAA × Bool × (List (Int × Bool))} (hm:wBg p0 p1=some r):Gv Tryz.prog 54 [.agg #[jV p0.Number,jV p0.Kind,jV p0.Minute,jV p0.Bib,jV p0.Much,jV p0.About],.pointer (some ⟨pb1f,0,none⟩)] w (wBW w [.obj pm1t (.map pe1t pk1t)] U (fun U_ L_ v=>∃ (es_0:Array MapEntry) (ck_0:Nat),v=.tuple #[.agg #[jV r.1.Number,jV r.1.Kind,jV r.1.Minute,jV r.1.Bib,jV r.1.Much,jV r.1.About],.bool r.2.1]/\L_=[.obj pm1t (.map es_0 ck_0)]/\MpR es_0 wDX wDj r.2.2)):=by
 unfold wBg at hm
 refine Gv.of Tryz.func54 Z Tryz.ntmps54 Tryz.results54 Z (sR gAt Z ?_)
 let B0:List Value:=[jV p0.Number,jV p0.Kind,jV p0.Minute,jV p0.Bib,jV p0.Much,jV p0.About]
 refine ZA (cs:=B0) rfl rfl rfl rfl rfl rfl (by rfl) hS ?_
 intro W2 b3 bm
 let B1:List Value:=[jV 0,jV 0,jV 0,jV 0,jV 0,jV 0]
 refine zq (cs:=B1) Z Z Z Z Z Zh Z bm ?_
 intro W6 b7 aq
 refine oA Z Z (eN (sR gBc Z (oL Z (aq.ldC (f:=0) aw (v:=.func (.func 48) #[] #[.pointer (some ⟨pb1c,0,none⟩),.pointer (some ⟨pb1v,0,none⟩)]) Z Z Tryz.isAgg124 Z) (oL Z (aq.ldBA (j:=1) Z Z Z ZF zg (vs:=B0) Z Z) ?_))))
 have bg:FnOK Tryz.prog U (.func (.func 55) #[] #[]) wTB wTC wCL:=⟨55,[],[],rfl,Tryz.call55,fun U1 w1 x y vs le hs ha hm=>by obtain rfl:=ha;exact wGb x w1 U1 hs  hm⟩
 have q:=bnd hm
 obtain ⟨⟨ag,aX,bK⟩,bb,az⟩:=q
 try dsimp only at az
 have bh:SW w [.obj pm1t (.map pe1t pk1t)] U U [.obj pm1t (.map pe1t pk1t),.blk b7 42 B1,.blk b3 42 B0] W6:=aq.pick [2,0,1] _ (by decide) rfl
 refine zG 1 Z Z Z Z (zF Z Z Tryz.call48 (zA Z (zA Z zK)) Z) bh (fun hs=>wFN (wAa 1000) (wEO 1000) p0 wCL (.func (.func 55) #[] #[]) () (p1.1,p1.2.1,p1.2.2) pb1a pb1b pb1c pb1v pb1f pb1g pq1d pA1d_0_1 pc1d_0_1 pA1d_0_2 pc1d_0_2 pm1d_1 pe1d_1 pk1d_1 pm1d_2 pe1d_2 pk1d_2 ph1d_2 pm1t pe1t pk1t pA1o pc1o W6 U hs bg bp bq bw bz aw bA bB bC bD bE br bs bu bb) (.inl Z) ?_
 rintro ak bG bJ aZ bI bi ⟨ap,ao,rfl,rfl,be⟩
 have bj:SW w [.obj pm1t (.map pe1t pk1t)] U ak [.obj pm1t (.map ap ao),.blk b7 42 B1,.blk b3 42 B0] aZ:=bi
 refine oR Z (ZB Z Z (v:=.agg #[jV ag.Number,jV ag.Kind,jV ag.Minute,jV ag.Bib,jV ag.Much,jV ag.About]) Z) (oR Z (ZB Z Z (v:=.bool aX) Z) ?_)
 let B2:List Value:=[jV ag.Number,jV ag.Kind,jV ag.Minute,jV ag.Bib,jV ag.Much,jV ag.About]
 refine zo (j:=1) (vs:=B2) Z Z Z Z bj Z Z Z Z zg (zB Z) Z Z Z ?_
 intro ba bk
 have av:SW w [.obj pm1t (.map pe1t pk1t)] U ak [.obj pm1t (.map ap ao),.blk b7 42 B2,.blk b3 42 B0] ba:=bk
 refine oA Z Z (eN (zM ?_))
 cases az
 exact ⟨rfl,_,(wHs (rs:=[.cell 3 42,.tmp 4]) (vs:=[.agg B2.toArray,.bool aX]) ⟨⟨_,rfl,(wEL ZF zg (av.blkAt (k:=1) rfl) (vs:=B2) rfl rfl)⟩,⟨rfl,trivial⟩⟩ rfl),ak,_,(av.pick [0] _ (by decide) rfl),ap,ao,rfl,rfl,be⟩
theorem wCd (n_:Nat):∀ (p0:wAA) (p1:(wAL × List Int × List (Int × Bool))) (pb1a:Nat) (pb1b:Nat) (pb1c:Nat) (pb1v:Nat) (pb1f:Nat) (pb1g:Nat) (pq1d:Nat) (pA1d_0_1:Option Addr) (pc1d_0_1:Nat) (pA1d_0_2:Option Addr) (pc1d_0_2:Nat) (pm1d_1:Nat) (pe1d_1:Array MapEntry) (pk1d_1:Nat) (pm1d_2:Nat) (pe1d_2:Array MapEntry) (pk1d_2:Nat) (ph1d_2:List (Int × Hd)) (pm1t:Nat) (pe1t:Array MapEntry) (pk1t:Nat) (pA1o:Option Addr) (pc1o:Nat) (w:World) (U:PHeap) (hS:St0 w U [.obj pm1t (.map pe1t pk1t)]) (aX:Cl U pb1a 0 [.map (some pm1t)]) (aY:Cl U pb1b 0 [.func (.func 47) #[.pointer (some ⟨pq1d,0,none⟩)] #[]]) (bb:Cl U pb1c 0 [.pointer (some ⟨pq1d,0,none⟩)]) (aq:Cl U pb1v 0 [.func (.func 49) #[] #[.pointer (some ⟨pb1a,0,none⟩),.pointer (some ⟨pb1b,0,none⟩),.pointer (some ⟨pb1c,0,none⟩),.pointer (some ⟨pb1v,0,none⟩)],.func (.func 51) #[] #[.pointer (some ⟨pb1f,0,none⟩)],.func (.func 52) #[] #[.pointer (some ⟨pb1v,0,none⟩),.pointer (some ⟨pb1g,0,none⟩)],.func (.func 56) #[] #[.pointer (some ⟨pb1v,0,none⟩)],.func (.func 54) #[] #[.pointer (some ⟨pb1f,0,none⟩)]]) (be:Cl U pb1f 0 [.func (.func 48) #[] #[.pointer (some ⟨pb1c,0,none⟩),.pointer (some ⟨pb1v,0,none⟩)]]) (bg:Cl U pb1g 0 [.slice pA1o p1.2.1.length pc1o]) (bh:Cl U pq1d 0 [jV p1.1.Record.Deadline,.slice pA1d_0_1 p1.1.Record.Skiers.length pc1d_0_1,.slice pA1d_0_2 p1.1.Record.Decisions.length pc1d_0_2,.map (some pm1d_1),.map (some pm1d_2)]) (bi:Sl U 2 pA1d_0_1 pc1d_0_1 p1.1.Record.Skiers.length (nA wAD p1.1.Record.Skiers)) (bj:Sl U 6 pA1d_0_2 pc1d_0_2 p1.1.Record.Decisions.length (nA wAB p1.1.Record.Decisions)) (bk:MpF U pm1d_1 pe1d_1 pk1d_1 wFk wFy p1.1.at_) (aZ:MrF U pm1d_2 pe1d_2 pk1d_2 6 wAB wCu ph1d_2 p1.1.about) (bw:MpR pe1t wDX wDj p1.2.2) (ba:Sl U 1 pA1o pc1o p1.2.1.length (nA KL.encI p1.2.1)) {r:Int × (List (Int × Bool))} (hm:wAP n_ p0 p1=some r),Gv Tryz.prog 56 [.agg #[jV p0.Number,jV p0.Kind,jV p0.Minute,jV p0.Bib,jV p0.Much,jV p0.About],.pointer (some ⟨pb1v,0,none⟩)] w (wBW w [.obj pm1t (.map pe1t pk1t)] U (fun U_ L_ v=>∃ (es_0:Array MapEntry) (ck_0:Nat),v=jV r.1/\L_=[.obj pm1t (.map es_0 ck_0)]/\MpR es_0 wDX wDj r.2)):=by
 induction n_ with
 | zero =>
  intros
  rename_i hm
  have bZ:(none:Option (Int × (List (Int × Bool))))=some _:=hm
  cases bZ
 | succ n_ ih =>
  intro p0 p1 pb1a pb1b pb1c pb1v pb1f pb1g pq1d pA1d_0_1 pc1d_0_1 pA1d_0_2 pc1d_0_2 pm1d_1 pe1d_1 pk1d_1 pm1d_2 pe1d_2 pk1d_2 ph1d_2 pm1t pe1t pk1t pA1o pc1o w U hS aX aY bb aq be bg bh bi bj bk aZ bw ba r hm
  have hm:wBB (wAP n_) p0 p1=some r:=hm
  unfold wBB at hm
  refine Gv.of Tryz.func56 Z Tryz.ntmps56 Tryz.results56 Z (sR gAj Z ?_)
  let B0:List Value:=[jV p0.Number,jV p0.Kind,jV p0.Minute,jV p0.Bib,jV p0.Much,jV p0.About]
  refine ZA (cs:=B0) rfl rfl rfl rfl rfl rfl (by rfl) hS ?_
  intro W2 b3 az
  refine oA Z Z (eN (zH (sR (wDq (.fx 3 (wTZ gAu) .stop)) Z (oR Z (zD Z Z ZN Z Tryz.sizeOf77) (oL Z (az.ldC (f:=4) aq (v:=.func (.func 54) #[] #[.pointer (some ⟨pb1f,0,none⟩)]) Z Z Tryz.isAgg77 Z) (oL Z (az.ldBA (j:=0) Z Z Z ZF zg (vs:=B0) Z Z) ?_))))))
  have q:=bnd hm
  obtain ⟨⟨x6,x7,x8⟩,h9,bz⟩:=q
  try dsimp only at bz
  have bR:SW w [.obj pm1t (.map pe1t pk1t)] U U [.obj pm1t (.map pe1t pk1t),.blk b3 42 B0] W2:=az.pick [1,0] _ (by decide) rfl
  refine zG 1 Z Z Z Z (zF Z Z Tryz.call54 (zA Z zK) Z) bR (fun hs=>wHM p0 (p1.1,p1.2.1,p1.2.2) pb1a pb1b pb1c pb1v pb1f pb1g pq1d pA1d_0_1 pc1d_0_1 pA1d_0_2 pc1d_0_2 pm1d_1 pe1d_1 pk1d_1 pm1d_2 pe1d_2 pk1d_2 ph1d_2 pm1t pe1t pk1t pA1o pc1o W2 U hs aX aY bb aq be bg bh bi bj bk aZ bw ba h9) (.inl Z) ?_
  rintro ak cm cr bB ah bS ⟨ao,an,rfl,rfl,bs⟩
  have bT:SW w [.obj pm1t (.map pe1t pk1t)] U ak [.obj pm1t (.map ao an),.blk b3 42 B0] bB:=bS
  refine oM Z Z (oR Z (ZB Z Z (v:=.agg #[jV x6.Number,jV x6.Kind,jV x6.Minute,jV x6.Bib,jV x6.Much,jV x6.About]) Z) (oR Z (ZB Z Z (v:=.bool x7) Z) (zq (cs:=[jV 0,jV 0,jV 0,jV 0,jV 0,jV 0]) Z Z Z Z Z Zh Z bT ?_)))
  intro cp av bU
  let B1:List Value:=[jV x6.Number,jV x6.Kind,jV x6.Minute,jV x6.Bib,jV x6.Much,jV x6.About]
  refine zo (j:=0) (vs:=B1) Z Z Z Z bU Z Z Z Z zg (zB Z) Z Z Z ?_
  intro au bV
  have ap:SW w [.obj pm1t (.map pe1t pk1t)] U ak [.blk av 42 B1,.obj pm1t (.map ao an),.blk b3 42 B0] au:=bV
  refine oA Z Z (eN (sR fL1 Z (oM Z Z (eN (ifc bz ?_ ?_)))))
  ·intro aw cd
   refine zu (congrArg nB aw.out) (sR (wDq gAg) Z (oR Z (zD Z Z ZN Z yV) ?_))
   have bu:=aq.le ah
   refine oL Z (ap.ldC (f:=3) bu (v:=.func (.func 56) #[] #[.pointer (some ⟨pb1v,0,none⟩)]) Z Z Tryz.isAgg78 Z) (oL Z (ap.ldBA (j:=0) Z Z Z ZF zg (vs:=B1) Z Z) ?_)
   have bD:=aX.le ah
   have bE:=aY.le ah
   have bF:=bb.le ah
   have bG:=be.le ah
   have bH:=bg.le ah
   have bI:=bh.le ah
   have bJ:=bi.le ah
   have bK:=bj.le ah
   have bL:=bk.le ah
   have bM:=aZ.le ah
   have bN:=ba.le ah
   have q:=bnd cd
   obtain ⟨⟨x43,x44⟩,bO,bA⟩:=q
   try dsimp only at bA
   have bW:SW w [.obj pm1t (.map pe1t pk1t)] U ak [.obj pm1t (.map ao an),.blk av 42 B1,.blk b3 42 B0] au:=ap.pick [1,0,2] _ (by decide) rfl
   refine zG 1 Z Z Z Z (zF Z Z Tryz.call56 (zA Z zK) Z) bW (fun hs=>ih x6 (p1.1,p1.2.1,x8) pb1a pb1b pb1c pb1v pb1f pb1g pq1d pA1d_0_1 pc1d_0_1 pA1d_0_2 pc1d_0_2 pm1d_1 pe1d_1 pk1d_1 pm1d_2 pe1d_2 pk1d_2 ph1d_2 pm1t ao an pA1o pc1o au ak hs bD bE bF bu bG bH bI bJ bK bL bM bs bN bO) (.inl Z) ?_
   rintro bm cn ct bC cq bX ⟨br,bq,rfl,rfl,bP⟩
   have bY:SW w [.obj pm1t (.map pe1t pk1t)] U bm [.obj pm1t (.map br bq),.blk av 42 B1,.blk b3 42 B0] bC:=bX
   refine oA Z Z (eN (zM (zN ?_)))
   cases bA
   exact ⟨rfl,_,(zi rfl),bm,_,(bY.pick [0] _ (by decide) rfl),br,bq,rfl,rfl,bP⟩
  ·intro aw cg
   refine zn (congrArg nB (nD.2 aw.out)) (kN (sR fL3 Z (oR Z (zD Z Z zP Z zC) (oL Z (ap.ldB (j:=2) Z Z Z zO (v:=jV p0.Much) Z) (oA Z Z (eN (zM ?_)))))))
   cases cg
   exact ⟨rfl,_,(zi rfl),ak,_,(ap.pick [1] _ (by decide) rfl),ao,an,rfl,rfl,bs⟩
theorem wHw (p0:wAL) (aw:Nat) (bI:Option Addr) (bK:Nat) (bJ:Option Addr) (bL:Nat) (bM:Nat) (du:Array MapEntry) (dx:Nat) (bN:Nat) (dv:Array MapEntry) (dy:Nat) (dw:List (Int × Hd)) (p1:List Int) (bi:Option Addr) (bj:Nat) (w:World) (U:PHeap) (hS:St0 w U []) (dF:Cl U aw 0 [jV p0.Record.Deadline,.slice bI p0.Record.Skiers.length bK,.slice bJ p0.Record.Decisions.length bL,.map (some bM),.map (some bN)]) (dG:Sl U 2 bI bK p0.Record.Skiers.length (nA wAD p0.Record.Skiers)) (dH:Sl U 6 bJ bL p0.Record.Decisions.length (nA wAB p0.Record.Decisions)) (dI:MpF U bM du dx wFk wFy p0.at_) (dJ:MrF U bN dv dy 6 wAB wCu dw p0.about) (dK:Sl U 1 bi bj p1.length (nA KL.encI p1)) {r:(List (Int × Bool))} (hm:wDv p0 p1=some r):Gv Tryz.prog 23 [.pointer (some ⟨aw,0,none⟩),.slice bi p1.length bj] w (wBW w [] U (fun U_ L_ v=>∃ (bt:Nat) (bl:Nat) (bd:Nat) (bv:Nat) (bf:Nat) (bo:Nat) (m:Nat) (es:Array MapEntry) (ck:Nat),v=.agg #[.func (.func 49) #[] #[.pointer (some ⟨bt,0,none⟩),.pointer (some ⟨bl,0,none⟩),.pointer (some ⟨bd,0,none⟩),.pointer (some ⟨bv,0,none⟩)],.func (.func 51) #[] #[.pointer (some ⟨bf,0,none⟩)],.func (.func 52) #[] #[.pointer (some ⟨bv,0,none⟩),.pointer (some ⟨bo,0,none⟩)],.func (.func 56) #[] #[.pointer (some ⟨bv,0,none⟩)],.func (.func 54) #[] #[.pointer (some ⟨bf,0,none⟩)]]/\L_=[.obj m (.map es ck)]/\Cl U_ bt 0 [.map (some m)]/\Cl U_ bl 0 [.func (.func 47) #[.pointer (some ⟨aw,0,none⟩)] #[]]/\Cl U_ bd 0 [.pointer (some ⟨aw,0,none⟩)]/\Cl U_ bv 0 [.func (.func 49) #[] #[.pointer (some ⟨bt,0,none⟩),.pointer (some ⟨bl,0,none⟩),.pointer (some ⟨bd,0,none⟩),.pointer (some ⟨bv,0,none⟩)],.func (.func 51) #[] #[.pointer (some ⟨bf,0,none⟩)],.func (.func 52) #[] #[.pointer (some ⟨bv,0,none⟩),.pointer (some ⟨bo,0,none⟩)],.func (.func 56) #[] #[.pointer (some ⟨bv,0,none⟩)],.func (.func 54) #[] #[.pointer (some ⟨bf,0,none⟩)]]/\Cl U_ bf 0 [.func (.func 48) #[] #[.pointer (some ⟨bd,0,none⟩),.pointer (some ⟨bv,0,none⟩)]]/\Cl U_ bo 0 [.slice bi p1.length bj]/\MpR es wDX wDj r)):=by
 unfold wDv at hm
 refine Gv.of Tryz.func23 Z Tryz.ntmps23 Tryz.results23 Z (sR gAv Z ?_)
 let B0:List Value:=[.pointer (some ⟨aw,0,none⟩)]
 refine ZA (cs:=B0) rfl rfl rfl rfl rfl rfl (by rfl) hS ?_
 intro W1 b2 cB
 have q:=cB.freeze (k:=0) rfl
 obtain ⟨U5,dL,be,db⟩:=q
 replace be:=Cl.of be
 have dm:sW w U U5 [] W1:=db
 replace be:Cl U5 b2 0 B0:=be
 refine ZA (cs:=[.slice bi p1.length bj]) rfl rfl rfl rfl rfl rfl (by rfl) dm ?_
 intro bP av cu
 have q:=cu.freeze (k:=0) rfl
 obtain ⟨aX,dt,aY,cw⟩:=q
 replace aY:=Cl.of aY
 have cx:sW w U aX [] bP:=cw
 replace aY:Cl aX av 0 [.slice bi p1.length bj]:=aY
 let B1:List Value:=[.nilFunc,.nilFunc,.nilFunc,.nilFunc,.nilFunc]
 refine zq (cs:=B1) Z Z Z Z Z Tryz.zeroValue80 Z cx ?_
 intro dz ai cy
 refine eN (sR (.fx 0 .nil .stop) Z (zq (cs:=B1) Z Z Z Z Z Tryz.zeroValue80 Z cy ?_))
 intro dA aa cz
 refine eN (sR gAv Z (OKS.makeMap Z Z Z Z Z cz ?_))
 intro dB ag cA
 have dr:=MpR.nil wDX wDj
 refine zq (cs:=[.map none]) Z Z Z Z Z Tryz.zeroValue122 Z cA ?_
 intro dC ao cC
 refine zo (j:=0) (vs:=[.map (some ag)]) Z Z Z Z cC Z Z Z Z Tryz.sizeOf122 (zB Z) Z Z Z ?_
 intro bQ cD
 let B2:Res:=.blk ao 122 [.map (some ag)]
 have bE:sW w U aX [B2,.obj ag (.map #[] 0),.blk aa 80 B1,.blk ai 80 B1] bQ:=cD
 refine eN (sR gAz Z ?_)
 have bD:=be.le dt
 refine oL Z (bE.ldC (f:=0) bD (v:=.pointer (some ⟨aw,0,none⟩)) Z Z yY Z) (oR Z (yD Z (zA Z zK) zK) (zq (cs:=[.nilFunc]) Z Z Z Z Z Tryz.zeroValue76 Z bE ?_))
 intro dD aj cE
 let B3:List Value:=[.func (.func 47) B0.toArray #[]]
 refine zo (j:=0) (vs:=B3) Z Z Z Z cE Z Z Z Z yM (zB Z) Z Z Z ?_
 intro bR cG
 have cH:sW w U aX [.blk aj 76 B3,B2,.obj ag (.map #[] 0),.blk aa 80 B1,.blk ai 80 B1] bR:=cG
 refine eN (sR (.fl 0 gAe) Z (oR Z (yD Z zK (zA Z (zA Z zK))) (zq (cs:=[.nilFunc]) Z Z Z Z Z Tryz.zeroValue124 Z cH ?_)))
 intro dE ah cJ
 let B4:List Value:=[.func (.func 48) #[] #[.pointer (some ⟨b2,0,none⟩),.pointer (some ⟨aa,0,none⟩)]]
 refine zo (j:=0) (vs:=B4) Z Z Z Z cJ Z Z Z Z Tryz.sizeOf124 (zB Z) Z Z Z ?_
 intro bs cK
 have cL:sW w U aX [.blk ah 124 B4,.blk aj 76 B3,B2,.obj ag (.map #[] 0),.blk aa 80 B1,.blk ai 80 B1] bs:=cK
 refine eN (sR gAs Z ?_)
 have q:=cL.freeze (k:=2) rfl
 obtain ⟨bA,bH,aZ,cM⟩:=q
 replace aZ:=Cl.of aZ
 have cN:sW w U bA [.blk ah 124 B4,.blk aj 76 B3,.obj ag (.map #[] 0),.blk aa 80 B1,.blk ai 80 B1] bs:=cM
 replace aZ:Cl bA ao 0 [.map (some ag)]:=aZ
 have q:=cN.freeze (k:=1) rfl
 obtain ⟨bq,bu,ba,cP⟩:=q
 replace ba:=Cl.of ba
 have cQ:sW w U bq [.blk ah 124 B4,.obj ag (.map #[] 0),.blk aa 80 B1,.blk ai 80 B1] bs:=cP
 replace ba:Cl bq aj 0 B3:=ba
 refine oR Z (yD Z zK (zA Z (zA Z (zA Z (zA Z zK))))) (oR Z (zD Z Z ZN Z yM) (zo (j:=2) (vs:=[.func (.func 49) #[] #[.pointer (some ⟨ao,0,none⟩),.pointer (some ⟨aj,0,none⟩),.pointer (some ⟨b2,0,none⟩),.pointer (some ⟨aa,0,none⟩)]]) Z Z Z Z cQ Z Z Z Z yM (zB Z) Z Z Z ?_))
 intro bB cR
 let B5:Res:=.blk aa 80 [.func (.func 49) #[] #[.pointer (some ⟨ao,0,none⟩),.pointer (some ⟨aj,0,none⟩),.pointer (some ⟨b2,0,none⟩),.pointer (some ⟨aa,0,none⟩)],.nilFunc,.nilFunc,.nilFunc,.nilFunc]
 have cS:sW w U bq [.blk ah 124 B4,.obj ag (.map #[] 0),B5,.blk ai 80 B1] bB:=cR
 refine eN (sR gAs Z ?_)
 have q:=cS.freeze (k:=0) rfl
 obtain ⟨ap,bk,bb,cU⟩:=q
 replace bb:=Cl.of bb
 have cV:sW w U ap [.obj ag (.map #[] 0),B5,.blk ai 80 B1] bB:=cU
 replace bb:Cl ap ah 0 B4:=bb
 refine oR Z (yD Z zK (zA Z zK)) (oR Z (zD Z Z ZN Z Tryz.sizeOf77) (zo (j:=1) (vs:=[.func (.func 51) #[] #[.pointer (some ⟨ah,0,none⟩)]]) Z Z Z Z cV Z Z Z Z Tryz.sizeOf77 (zB Z) Z Z Z ?_))
 intro bS cW
 have cX:sW w U ap [.obj ag (.map #[] 0),.blk aa 80 [.func (.func 49) #[] #[.pointer (some ⟨ao,0,none⟩),.pointer (some ⟨aj,0,none⟩),.pointer (some ⟨b2,0,none⟩),.pointer (some ⟨aa,0,none⟩)],.func (.func 51) #[] #[.pointer (some ⟨ah,0,none⟩)],.nilFunc,.nilFunc,.nilFunc],.blk ai 80 B1] bS:=cW
 refine eN (sR gAs Z (oR Z (yD Z zK (zA Z (zA Z zK))) (oR Z (zD Z Z ZN Z yM) (zo (j:=1) (vs:=[.func (.func 52) #[] #[.pointer (some ⟨aa,0,none⟩),.pointer (some ⟨av,0,none⟩)]]) Z Z Z Z cX Z Z Z Z yM (zB Z) Z Z Z ?_))))
 intro bT cY
 have cZ:sW w U ap [.obj ag (.map #[] 0),.blk aa 80 [.func (.func 49) #[] #[.pointer (some ⟨ao,0,none⟩),.pointer (some ⟨aj,0,none⟩),.pointer (some ⟨b2,0,none⟩),.pointer (some ⟨aa,0,none⟩)],.func (.func 51) #[] #[.pointer (some ⟨ah,0,none⟩)],.func (.func 52) #[] #[.pointer (some ⟨aa,0,none⟩),.pointer (some ⟨av,0,none⟩)],.nilFunc,.nilFunc],.blk ai 80 B1] bT:=cY
 refine eN (sR gAs Z (oR Z (yD Z zK (zA Z zK)) (oR Z (zD Z Z ZN Z Tryz.sizeOf77) (zo (j:=1) (vs:=[.func (.func 54) #[] #[.pointer (some ⟨ah,0,none⟩)]]) Z Z Z Z cZ Z Z Z Z Tryz.sizeOf77 (zB Z) Z Z Z ?_))))
 intro bU da
 have de:sW w U ap [.obj ag (.map #[] 0),.blk aa 80 [.func (.func 49) #[] #[.pointer (some ⟨ao,0,none⟩),.pointer (some ⟨aj,0,none⟩),.pointer (some ⟨b2,0,none⟩),.pointer (some ⟨aa,0,none⟩)],.func (.func 51) #[] #[.pointer (some ⟨ah,0,none⟩)],.func (.func 52) #[] #[.pointer (some ⟨aa,0,none⟩),.pointer (some ⟨av,0,none⟩)],.nilFunc,.func (.func 54) #[] #[.pointer (some ⟨ah,0,none⟩)]],.blk ai 80 B1] bU:=da
 refine eN (sR gAs Z (oR Z (yD Z zK (zA Z zK)) (oR Z (zD Z Z ZN Z yV) (zo (j:=1) (vs:=[.func (.func 56) #[] #[.pointer (some ⟨aa,0,none⟩)]]) Z Z Z Z de Z Z Z Z yV (zB Z) Z Z Z ?_))))
 intro bV df
 let B6:List Value:=[.func (.func 49) #[] #[.pointer (some ⟨ao,0,none⟩),.pointer (some ⟨aj,0,none⟩),.pointer (some ⟨b2,0,none⟩),.pointer (some ⟨aa,0,none⟩)],.func (.func 51) #[] #[.pointer (some ⟨ah,0,none⟩)],.func (.func 52) #[] #[.pointer (some ⟨aa,0,none⟩),.pointer (some ⟨av,0,none⟩)],.func (.func 56) #[] #[.pointer (some ⟨aa,0,none⟩)],.func (.func 54) #[] #[.pointer (some ⟨ah,0,none⟩)]]
 have bF:sW w U ap [.obj ag (.map #[] 0),.blk aa 80 B6,.blk ai 80 B1] bV:=df
 refine eN (sR gAf Z (oL Z (bF.ldBA (j:=1) Z Z Z Tryz.isAgg80 Tryz.sizeOf80 (vs:=B6) Z Z) (zo (j:=2) (vs:=B6) Z Z Z Z bF Z Z Z Z Tryz.sizeOf80 (zB Z) Z Z Z ?_)))
 intro bC dg
 have dh:sW w U ap [.obj ag (.map #[] 0),.blk aa 80 B6,.blk ai 80 B6] bC:=dg
 refine eN (zM ?_)
 have q:=dh.freeze (k:=1) rfl
 obtain ⟨br,bh,bg,dp⟩:=q
 replace bg:=Cl.of bg
 have bG:sW w U br [.obj ag (.map #[] 0),.blk ai 80 B6] bC:=dp
 replace bg:Cl br aa 0 B6:=bg
 have ci:=aZ.le bu
 have cj:=ci.le bk
 have cm:=cj.le bh
 have cn:=ba.le bk
 have cp:=cn.le bh
 have cq:=bD.le bH
 have cr:=cq.le bu
 have ct:=cr.le bk
 have bW:=ct.le bh
 have bX:=bb.le bh
 have bY:=aY.le bH
 have bZ:=bY.le bu
 have cd:=bZ.le bk
 have cg:=cd.le bh
 cases hm
 exact ⟨rfl,_,(wJg (v:=.agg B6.toArray) ⟨⟨_,rfl,(wEL Tryz.isAgg80 Tryz.sizeOf80 (bG.blkAt (k:=1) rfl) (vs:=B6) rfl rfl)⟩,trivial⟩),br,_,(bG.pick [0] _ (by decide) rfl),ao,aj,b2,aa,ah,av,ag,#[],0,rfl,rfl,cm,cp,bW,bg,bX,cg,dr⟩
theorem wIo (p0:(wAL × List Int × List (Int × Bool))) (pb0a:Nat) (pb0b:Nat) (pb0c:Nat) (pb0v:Nat) (pb0f:Nat) (pb0g:Nat) (pq0d:Nat) (pA0d_0_1:Option Addr) (pc0d_0_1:Nat) (pA0d_0_2:Option Addr) (pc0d_0_2:Nat) (pm0d_1:Nat) (pe0d_1:Array MapEntry) (pk0d_1:Nat) (pm0d_2:Nat) (pe0d_2:Array MapEntry) (pk0d_2:Nat) (ph0d_2:List (Int × Hd)) (pm0t:Nat) (pe0t:Array MapEntry) (pk0t:Nat) (pA0o:Option Addr) (pc0o:Nat) (p1:wAA) (p2:Int) (w:World) (U:PHeap) (hS:St0 w U [.obj pm0t (.map pe0t pk0t)]) (cm:Cl U pb0a 0 [.map (some pm0t)]) (cn:Cl U pb0b 0 [.func (.func 47) #[.pointer (some ⟨pq0d,0,none⟩)] #[]]) (cr:Cl U pb0c 0 [.pointer (some ⟨pq0d,0,none⟩)]) (ct:Cl U pb0v 0 [.func (.func 49) #[] #[.pointer (some ⟨pb0a,0,none⟩),.pointer (some ⟨pb0b,0,none⟩),.pointer (some ⟨pb0c,0,none⟩),.pointer (some ⟨pb0v,0,none⟩)],.func (.func 51) #[] #[.pointer (some ⟨pb0f,0,none⟩)],.func (.func 52) #[] #[.pointer (some ⟨pb0v,0,none⟩),.pointer (some ⟨pb0g,0,none⟩)],.func (.func 56) #[] #[.pointer (some ⟨pb0v,0,none⟩)],.func (.func 54) #[] #[.pointer (some ⟨pb0f,0,none⟩)]]) (cu:Cl U pb0f 0 [.func (.func 48) #[] #[.pointer (some ⟨pb0c,0,none⟩),.pointer (some ⟨pb0v,0,none⟩)]]) (cw:Cl U pb0g 0 [.slice pA0o p0.2.1.length pc0o]) (cx:Cl U pq0d 0 [jV p0.1.Record.Deadline,.slice pA0d_0_1 p0.1.Record.Skiers.length pc0d_0_1,.slice pA0d_0_2 p0.1.Record.Decisions.length pc0d_0_2,.map (some pm0d_1),.map (some pm0d_2)]) (cy:Sl U 2 pA0d_0_1 pc0d_0_1 p0.1.Record.Skiers.length (nA wAD p0.1.Record.Skiers)) (cz:Sl U 6 pA0d_0_2 pc0d_0_2 p0.1.Record.Decisions.length (nA wAB p0.1.Record.Decisions)) (cA:MpF U pm0d_1 pe0d_1 pk0d_1 wFk wFy p0.1.at_) (cp:MrF U pm0d_2 pe0d_2 pk0d_2 6 wAB wCu ph0d_2 p0.1.about) (bb:MpR pe0t wDX wDj p0.2.2) (cq:Sl U 1 pA0o pc0o p0.2.1.length (nA KL.encI p0.2.1)) {r:Bool × (List (Int × Bool))} (hm:wBh p0 p1 p2=some r):Gv Tryz.prog 86 [.agg #[.func (.func 49) #[] #[.pointer (some ⟨pb0a,0,none⟩),.pointer (some ⟨pb0b,0,none⟩),.pointer (some ⟨pb0c,0,none⟩),.pointer (some ⟨pb0v,0,none⟩)],.func (.func 51) #[] #[.pointer (some ⟨pb0f,0,none⟩)],.func (.func 52) #[] #[.pointer (some ⟨pb0v,0,none⟩),.pointer (some ⟨pb0g,0,none⟩)],.func (.func 56) #[] #[.pointer (some ⟨pb0v,0,none⟩)],.func (.func 54) #[] #[.pointer (some ⟨pb0f,0,none⟩)]],.agg #[jV p1.Number,jV p1.Kind,jV p1.Minute,jV p1.Bib,jV p1.Much,jV p1.About],jV p2] w (wBW w [.obj pm0t (.map pe0t pk0t)] U (fun U_ L_ v=>∃ (es_0:Array MapEntry) (ck_0:Nat),v=.bool r.1/\L_=[.obj pm0t (.map es_0 ck_0)]/\MpR es_0 wDX wDj r.2)):=by
 unfold wBh at hm
 refine Gv.of Tryz.func86 Z Tryz.ntmps86 Tryz.results86 Z (sR gAt Z ?_)
 let B0:List Value:=[.func (.func 49) #[] #[.pointer (some ⟨pb0a,0,none⟩),.pointer (some ⟨pb0b,0,none⟩),.pointer (some ⟨pb0c,0,none⟩),.pointer (some ⟨pb0v,0,none⟩)],.func (.func 51) #[] #[.pointer (some ⟨pb0f,0,none⟩)],.func (.func 52) #[] #[.pointer (some ⟨pb0v,0,none⟩),.pointer (some ⟨pb0g,0,none⟩)],.func (.func 56) #[] #[.pointer (some ⟨pb0v,0,none⟩)],.func (.func 54) #[] #[.pointer (some ⟨pb0f,0,none⟩)]]
 refine ZA (cs:=B0) rfl rfl rfl rfl rfl rfl (by rfl) hS ?_
 intro W2 b3 bZ
 let B1:List Value:=[jV p1.Number,jV p1.Kind,jV p1.Minute,jV p1.Bib,jV p1.Much,jV p1.About]
 refine ZA (cs:=B1) rfl rfl rfl rfl rfl rfl (by rfl) bZ ?_
 intro W6 b7 bC
 refine oA Z Z (eN (sR (.fl 0 (.fl 1 (.fx 2 (wVX (.fx 13 (wTe (.fx 23 (wTh (.nil)) .stop)) .stop)) .stop))) Z (oR Z (zD Z Z zP Z ZE) (oL Z (bC.ldB (j:=0) Z Z Z ZS (v:=jV p1.Kind) Z) (bnK hm fun cW bI cB=>zG 0 Z Z Z Z (zF Z Z Tryz.call118 (zA Z zK) Z) bC (fun hs=>wCk p1.Kind W6 U hs bI) (.inr Z) ?_)))))
 rintro au cM cS aZ ah bY ⟨rfl,rfl⟩
 have ao:SW w [.obj pm0t (.map pe0t pk0t)] U au [.blk b7 42 B1,.blk b3 80 B0,.obj pm0t (.map pe0t pk0t)] aZ:=bY
 refine oM Z Z (ifc cB ?_ ?_)
 intro aj cC
 refine za Z Z Z (zS Z Z (congrArg nB aj.out)) (fun _=>zD Z Z zP Z zC) (zr Z Z Z (zS Z Z (congrArg nB aj.out)) (ao.ldB (j:=0) Z Z Z zO (v:=jV p1.Bib) Z) Z (zQ Z Z Z (zS Z Z (congrArg nB aj.out)) Z Z (za Z Z Z (zS Z Z (congrArg nB aj.out)) (fun _=>ZR Z Z Z) (oR Z (zj Z (congrArg nB aj.out) Z) (oM Z Z (ifc cC ?_ ?_))))))
 intro ak cD
 refine rU Z (wT Z ak) (zD Z Z ZN Z yM) (zr Z Z Z (wT Z ak) (ao.ldB (j:=1) Z Z Z Tryz.isAgg76 (v:=.func (.func 49) #[] #[.pointer (some ⟨pb0a,0,none⟩),.pointer (some ⟨pb0b,0,none⟩),.pointer (some ⟨pb0c,0,none⟩),.pointer (some ⟨pb0v,0,none⟩)]) Z) Z (zr Z Z Z (wT Z ak) (ao.ldBA (j:=0) Z Z Z ZF zg (vs:=B1) Z Z) Z ?_))
 have bj:=cm.le ah
 have bk:=cn.le ah
 have bm:=cr.le ah
 have bp:=ct.le ah
 have bq:=cu.le ah
 have br:=cw.le ah
 have bs:=cx.le ah
 have bu:=cy.le ah
 have bw:=cz.le ah
 have bz:=cA.le ah
 have bA:=cp.le ah
 have bB:=cq.le ah
 have q:=bnd cD
 obtain ⟨⟨cX,x37⟩,bJ,bD⟩:=q
 try dsimp only at bD
 have cd:SW w [.obj pm0t (.map pe0t pk0t)] U au [.obj pm0t (.map pe0t pk0t),.blk b7 42 B1,.blk b3 80 B0] aZ:=ao.pick [2,0,1] _ (by decide) rfl
 refine zG 1 Z Z Z (wT Z ak) (zF Z Z Tryz.call49 (zA Z zK) Z) cd (fun hs=>wEO 1000 p1 () () () (p0.1,p0.2.1,p0.2.2) pb0a pb0b pb0c pb0v pb0f pb0g pq0d pA0d_0_1 pc0d_0_1 pA0d_0_2 pc0d_0_2 pm0d_1 pe0d_1 pk0d_1 pm0d_2 pe0d_2 pk0d_2 ph0d_2 pm0t pe0t pk0t pA0o pc0o aZ au hs bj bk bm bp bq br bs bu bw bz bA bb bB bJ) (.inl Z) ?_
 rintro av cN cU bg ai cg ⟨aY,aX,rfl,rfl,ba⟩
 have ap:SW w [.obj pm0t (.map pe0t pk0t)] U av [.obj pm0t (.map aY aX),.blk b7 42 B1,.blk b3 80 B0] bg:=cg
 refine oR Z (zj Z (ZU ak.out) Z) (oM Z Z (ifc bD ?_ ?_))
 intro ag cE
 refine za Z Z Z (zS Z Z (congrArg nB ag.out)) (fun _=>zD Z Z zP Z ZE) (zr Z Z Z (zS Z Z (congrArg nB ag.out)) (ap.ldB (j:=1) Z Z Z ZS (v:=jV p1.Kind) Z) Z (za Z Z Z (zS Z Z (congrArg nB ag.out)) (fun _=>Zs Z Z Z) (zQ Z Z Z (zS Z Z (congrArg nB ag.out)) Z Z (ifc cE ?_ ?_))))
 intro am cG
 refine za Z Z Z (zS Z Z (ZI (fun h=>h am.out))) (fun _=>zD Z Z ZN Z yM) (zr Z Z Z (zS Z Z (ZI (fun h=>h am.out))) (ap.ldB (j:=2) Z Z Z Tryz.isAgg76 (v:=.func (.func 52) #[] #[.pointer (some ⟨pb0v,0,none⟩),.pointer (some ⟨pb0g,0,none⟩)]) Z) Z (zr Z Z Z (zS Z Z (ZI (fun h=>h am.out))) (ap.ldBA (j:=1) Z Z Z ZF zg (vs:=B1) Z Z) Z ?_))
 have bK:=bj.le ai
 have bL:=bk.le ai
 have bM:=bm.le ai
 have bN:=bp.le ai
 have bO:=bq.le ai
 have bP:=br.le ai
 have bQ:=bs.le ai
 have bR:=bu.le ai
 have bS:=bw.le ai
 have bT:=bz.le ai
 have bU:=bA.le ai
 have bV:=bB.le ai
 have q:=bnd cG
 obtain ⟨⟨x67,x68⟩,bW,bE⟩:=q
 try dsimp only at bE
 refine zG 1 Z Z Z (zS Z Z (ZI (fun h=>h am.out))) (zF Z Z Tryz.call52 (zA Z zK) Z) ap (fun hs=>wFO (wAa 1000) (wEO 1000) p1 (p0.1,p0.2.1,x37) pb0a pb0b pb0c pb0v pb0f pb0g pq0d pA0d_0_1 pc0d_0_1 pA0d_0_2 pc0d_0_2 pm0d_1 pe0d_1 pk0d_1 pm0d_2 pe0d_2 pk0d_2 ph0d_2 pm0t aY aX pA0o pc0o () bg av hs bK bL bM bN bO bP bQ bR bS bT bU ba bV bW) (.inl Z) ?_
 rintro be cP cV bH cR ci ⟨bi,bh,rfl,rfl,bX⟩
 have cj:SW w [.obj pm0t (.map pe0t pk0t)] U be [.obj pm0t (.map bi bh),.blk b7 42 B1,.blk b3 80 B0] bH:=ci
 refine za Z Z Z (zS Z Z (congrArg nB ag.out)) (fun _=>zR Z (ZI (fun h=>h am.out)) Z) (oR Z (zj Z (congrArg nB ag.out) Z) (oA Z Z (eN (zM ?_))))
 cases bE
 exact ⟨rfl,_,(zi rfl),be,_,(cj.pick [0] _ (by decide) rfl),bi,bh,rfl,rfl,bX⟩
 intro am cH
 refine oT Z am (oT Z am (oT Z am (ZO Z Z Z (zW Z Z (ZU am.out) Z) (za Z Z Z (zS Z Z (congrArg nB ag.out)) (fun _=>zj Z (ZU am.out) Z) (oR Z (zj Z (congrArg nB ag.out) Z) (oA Z Z (eN (zM ?_))))))))
 cases cH
 exact ⟨rfl,_,(zi rfl),av,_,(ap.pick [0] _ (by decide) rfl),aY,aX,rfl,rfl,ba⟩
 intro ag cJ
 refine zp Z Z Z (zW Z Z (congrArg nB (nD.2 ag.out)) Z) (zp Z Z Z (zW Z Z (congrArg nB (nD.2 ag.out)) Z) (zp Z Z Z (zW Z Z (congrArg nB (nD.2 ag.out)) Z) (zp Z Z Z (zW Z Z (congrArg nB (nD.2 ag.out)) Z) (zp Z Z Z (wBb Z Z Z) (zp Z Z Z (wBb Z Z Z) (zp Z Z Z (wBb Z Z Z) (ZO Z Z Z (wBb Z Z Z) (zp Z Z Z (zW Z Z (congrArg nB (nD.2 ag.out)) Z) (oR Z (zR Z (congrArg nB (nD.2 ag.out)) Z) (oA Z Z (eN (zM ?_))))))))))))
 cases cJ
 exact ⟨rfl,_,(zi rfl),av,_,(ap.pick [0] _ (by decide) rfl),aY,aX,rfl,rfl,ba⟩
 intro ak cK
 refine oF Z ak (oF Z ak (oF Z ak (ZO Z Z Z (zW Z Z (ZI ak.out) Z) (oR Z (zR Z (ZI ak.out) Z) (oM Z Z (oN Z (oN Z (oN Z (oN Z (zp Z Z Z (wBb Z Z Z) (zp Z Z Z (wBb Z Z Z) (zp Z Z Z (wBb Z Z Z) (ZO Z Z Z (wBb Z Z Z) (oN Z (oR Z (zR Z Z Z) (oA Z Z (eN (zM ?_))))))))))))))))))
 cases cK
 exact ⟨rfl,_,(zi rfl),au,_,(ao.pick [2] _ (by decide) rfl),pe0t,pk0t,rfl,rfl,bb⟩
 intro aj cL
 refine zp Z Z Z (zW Z Z (congrArg nB (nD.2 aj.out)) Z) (zp Z Z Z (zW Z Z (congrArg nB (nD.2 aj.out)) Z) (zp Z Z Z (zW Z Z (congrArg nB (nD.2 aj.out)) Z) (zp Z Z Z (zW Z Z (congrArg nB (nD.2 aj.out)) Z) (oR Z (zR Z (congrArg nB (nD.2 aj.out)) Z) (oM Z Z (oN Z (oN Z (oN Z (ZO Z Z Z (zW Z Z Z Z) (oR Z (zR Z Z Z) (oM Z Z (oN Z (oN Z (oN Z (oN Z (zp Z Z Z (wBb Z Z Z) (zp Z Z Z (wBb Z Z Z) (zp Z Z Z (wBb Z Z Z) (ZO Z Z Z (wBb Z Z Z) (oN Z (oR Z (zR Z Z Z) (oA Z Z (eN (zM ?_))))))))))))))))))))))))
 cases cL
 exact ⟨rfl,_,(zi rfl),au,_,(ao.pick [2] _ (by decide) rfl),pe0t,pk0t,rfl,rfl,bb⟩
theorem wFt (p0:Int) (p1:Int) (w:World) (U:PHeap) (hS:St0 w U [])  {r:Int} (hm:wBm p0 p1=some r):Gv Tryz.prog 123 [jV p0,jV p1] w (wBW w [] U (fun U_ L_ v=>v=jV r/\L_=[])):=by
 unfold wBm at hm
 refine Gv.of Tryz.func123 Z Tryz.ntmps123 Tryz.results123 Z (sR fL1 Z (oA Z Z (eN (sR fL4 Z (oM Z Z (oM Z Z (oR Z (zZ Z Z Z) (oA Z Z (eN (zM ?_))))))))))
 cases hm
 exact ⟨Z,_,(zi Z),U,_,hS,Z,Z⟩
theorem wHx (p0:Int) (p1:Int) (w:World) (U:PHeap) (hS:St0 w U [])  {r:Int} (hm:wDC p0 p1=some r):Gv Tryz.prog 124 [jV p0,jV p1] w (wBW w [] U (fun U_ L_ v=>v=jV r/\L_=[])):=by
 unfold wDC at hm
 refine Gv.of Tryz.func124 Z Tryz.ntmps124 Tryz.results124 Z (sR fL1 Z (oA Z Z (eN (sR fL4 Z (oM Z Z (oM Z Z (oR Z (Zj Z Z Z) (oA Z Z (eN (zM ?_))))))))))
 cases hm
 exact ⟨Z,_,(zi Z),U,_,hS,Z,Z⟩
theorem wHy (p0:Int) (p1:Int) (w:World) (U:PHeap) (hS:St0 w U [])  {r:Int} (hm:wDD p0 p1=some r):Gv Tryz.prog 125 [jV p0,jV p1] w (wBW w [] U (fun U_ L_ v=>v=jV r/\L_=[])):=by
 unfold wDD at hm
 refine Gv.of Tryz.func125 Z Tryz.ntmps125 Tryz.results125 Z (sR fL1 Z (oA Z Z (eN (sR fL5 Z (oM Z Z (oM Z Z (oR Z (yW Z Z Z) (oR Z (zZ Z Z Z) (oA Z Z (eN (zM ?_)))))))))))
 cases hm
 exact ⟨Z,_,(zi Z),U,_,hS,Z,Z⟩
theorem wHz (p0:Int) (p1:Int) (w:World) (U:PHeap) (hS:St0 w U [])  {r:Int} (hm:wDE p0 p1=some r):Gv Tryz.prog 126 [jV p0,jV p1] w (wBW w [] U (fun U_ L_ v=>v=jV r/\L_=[])):=by
 unfold wDE at hm
 refine Gv.of Tryz.func126 Z Tryz.ntmps126 Tryz.results126 Z (sR fL1 Z (oA Z Z (eN (sR fL2 Z (oM Z Z (oA Z Z (eN (zM ?_))))))))
 have hE:=nE hm;first | subst r | cases hE
 exact ⟨Z,_,(zi Z),U,_,hS,Z,Z⟩
theorem wDt  (w:World) (U:PHeap) (hS:St0 w U [])  {r:Unit} (hm:wAw =some r):Gv Tryz.prog 87 [] w (wBW w [] U (fun U_ L_ v=>v=.agg #[.func (.func 123) #[] #[],.func (.func 124) #[] #[],.func (.func 125) #[] #[],.func (.func 126) #[] #[],.func (.func 123) #[] #[]]/\L_=[])):=by
 unfold wAw at hm
 refine Gv.of Tryz.func87 Z Tryz.ntmps87 Tryz.results87 Z (sR (.fx 0 .nil .stop) Z ?_)
 let B0:List Value:=[.nilFunc,.nilFunc,.nilFunc,.nilFunc,.nilFunc]
 refine zq (cs:=B0) Z Z Z Z Z Tryz.zeroValue153 Z hS ?_
 intro W1 b2 ak
 refine eN (sR fL1 Z (oA Z Z (eN (sR (wPj (.fx 8 .nil .stop)) Z (oM Z Z ?_)))))
 let B1:List Value:=[.func (.func 123) #[] #[]]
 refine oR Z (Zi (pv:=[(0,.func (.func 123) #[] #[])]) (z:=[.nilFunc]) (cs:=B1) Z (wAK Z wAb) Tryz.zeroValue152 wGN Z Z) (oR Z (Zi (pv:=[(0,.func (.func 124) #[] #[])]) (z:=[.nilFunc]) (cs:=[.func (.func 124) #[] #[]]) Z (wAK Z wAb) Tryz.zeroValue152 wGN Z Z) (oR Z (Zi (pv:=[(0,.func (.func 125) #[] #[])]) (z:=[.nilFunc]) (cs:=[.func (.func 125) #[] #[]]) Z (wAK Z wAb) Tryz.zeroValue152 wGN Z Z) (oR Z (Zi (pv:=[(0,.func (.func 126) #[] #[])]) (z:=[.nilFunc]) (cs:=[.func (.func 126) #[] #[]]) Z (wAK Z wAb) Tryz.zeroValue152 wGN Z Z) (oM Z Z (oR Z (Zi (pv:=[(0,.func (.func 123) #[] #[])]) (z:=[.nilFunc]) (cs:=B1) Z (wAK Z wAb) Tryz.zeroValue152 wGN Z Z) ?_)))))
 let B2:List Value:=[.func (.func 123) #[] #[],.func (.func 124) #[] #[],.func (.func 125) #[] #[],.func (.func 126) #[] #[],.func (.func 123) #[] #[]]
 refine oR Z (Runs.buildA (pv:=[(0,.agg B1.toArray),(1,.agg #[.func (.func 124) #[] #[]]),(2,.agg #[.func (.func 125) #[] #[]]),(3,.agg #[.func (.func 126) #[] #[]]),(4,.agg B1.toArray)]) (z:=B0) (cs:=B2) Z (wAK Z (wAK Z (wAK Z (wAK Z (wAK Z wAb))))) Tryz.zeroValue153 yO yC Z Z) (zo (j:=0) (vs:=B2) Z Z Z Z ak Z Z Z Z Tryz.sizeOf153 (zB Z) Z Z Z ?_)
 intro W5 am
 have ah:sW w U U [.blk b2 153 B2] W5:=am
 refine eN (zM ?_)
 cases hm
 exact ⟨rfl,_,(wJg (v:=.agg B2.toArray) ⟨⟨_,rfl,(wEL Tryz.isAgg153 Tryz.sizeOf153 (ah.blkAt (k:=0) rfl) (vs:=B2) rfl rfl)⟩,trivial⟩),U,_,(ah.pick [] _ (by decide) rfl),rfl,rfl⟩
theorem wIp (p0:Int) (p1:List Int) (aj:Option Addr) (ak:Nat) (w:World) (U:PHeap) (hS:St0 w U []) (bk:Sl U 1 aj ak p1.length (nA KL.encI p1)) {r:Int} (hm:wDU p0 p1=some r):Gv Tryz.prog 88 [jV p0,.slice aj p1.length ak] w (wBW w [] U (fun U_ L_ v=>v=jV r/\L_=[])):=by
 unfold wDU at hm
 refine Gv.of Tryz.func88 Z Tryz.ntmps88 Tryz.results88 Z (sR fL1 Z (oA Z Z (eN (zH (sR fL3 Z (oM Z Z (oR Z (zy Z Z zL) (oM Z Z (eN (zV (bnK hm fun bF bp bs=>?_)))))))))))
 have q:=wBr bp
 obtain ⟨ai,bm⟩:=q
 replace ai:=zI ai
 refine CK.forN' (fun k7 x6 σ_ w_=>∃ (U_:PHeap),σ_ 9=jV (↑k7:Int)/\σ_ 0=jV x6/\σ_ 7=.slice aj p1.length ak/\σ_ 8=jV (↑p1.length:Int)/\PHeap.Le U U_/\sW w U U_ [] w_) bm ?_ ?_ ?_
 exact ⟨U,Z,Z,Z,Z,(zU _),hS⟩
 rintro k7 x6 bE bG bw ah ⟨az,ag,aZ,an,ao,au,aq⟩ bu
 have am:Hid ((↑k7:Int) < (↑p1.length:Int)):=zI (wBq ah)
 replace ah:=zI ah
 have bq:Hid (w64 ((↑k7:Int) + 1)=(↑(k7 + 1):Int)):=zI (by have h1:=ai.out;have h2:=am.out;rw [wAT] <;> omega)
 refine sR fL1 Z (oR Z (ze Z ag ao) (eN (zH (cT Z am (kN (zH (zV (sR fL3 Z (bnK bu fun x28 ap br=>?_)))))))))
 have bg:=bk.le au
 have q:=bg.el (fun _=>rfl) (wBD ap)
 obtain ⟨bA,bD,bh,bi⟩:=q
 refine oR Z (ZZ Z an bh ag zL zC (wDB ap)) (oL Z (aq.ldC (f:=0) bi (v:=jV x28) Z Z zO Z) (oA Z Z (eN (rR fL4 Z (oM Z aZ (oM Z Z (oR Z (Runs.max Z Z Z) (oA Z Z (zk (zh (zJ (rR fL2 Z (oR Z (zw (zZ Z ag Z) (congrArg (jV) bq.out)) (oM Z Z (zk ?_)))))))))))))))
 cases br
 exact zJ ⟨Z,⟨az,Z,Z,an,ao,au,aq⟩⟩
 rintro bH bz ⟨aX,be,ba,bB,bb,bC,bj⟩
 have aY:Hid (¬ ((↑(((↑p1.length:Int):Int) - 0).toNat:Int) < (↑p1.length:Int))):=zI (wBH)
 refine sR fL1 Z (oR Z (ze Z be bb) (eN (zH (cF Z aY (ZD (zb (zb (zz (zJ (sR fL2 Z (oM Z ba (oA Z Z (eN (zM ?_))))))))))))))
 have hE:=nE bs;first | subst r | cases hE
 exact ⟨Z,_,(zi Z),aX,_,bj,Z,Z⟩
end Go.Proofs.YtlkkhhcfemmmdaaGreat
