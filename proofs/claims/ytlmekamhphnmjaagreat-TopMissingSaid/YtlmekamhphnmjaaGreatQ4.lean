import Derived.Test.YtlmekamhphnmjaaGreatQ3
set_option linter.all false
open List renaming flatMap->hD,toArray->nB,length_append->nG,length_cons->nI,length_nil->nJ
open Go.Value renaming bool->hJ
open Bool renaming eq_false_iff->hM
open Option.some renaming inj->nA
open Prod.mk renaming injEq->nD
open Nat renaming blt->nE,le_of_ble_eq_true->nK
open Int renaming toNat_natCast->nH
namespace Go.Proofs.YtlmekamhphnmjaaGreat
open Go.KL
def gAa:Sch:=.fl 1 (.fl 2 .nil)
def gAb:Sch:=.fl 2 (.fl 3 .nil)
def gAc:Sch:=.fl 3 (.fl 4 .nil)
def gAd:Sch:=.fl 4 (.fl 5 .nil)
def gAe:Sch:=.fl 7 (.fl 8 .nil)
def gAf:Sch:=.fx 0 (.fl 1 .nil) .stop
def gAg:Sch:=.fx 1 (.fl 2 .nil) .stop
def gAh:Sch:=.fx 3 (.fl 4 .nil) .stop
def gAi:Sch:=.fx 4 (.fl 5 .nil) .stop
def gAj:Sch:=.fx 5 (.fl 6 .nil) .stop
def gAk:Sch:=.fl 10 (.fx 12 .nil .stop)
def gAl:Sch:=.fx 6 (.fl 7 .nil) .stop
def gAm:Sch:=.fx 1 (.fx 2 .nil .stop) .stop
def gAn:Sch:=.fx 6 gAe .stop
def gAo:Sch:=.fl 0 gAg
def gAp:Sch:=.fx 11 (.fx 12 (.fl 13 .nil) .stop) .stop
def gAq:Sch:=.fx 17 (.fl 18 (.fl 19 .nil)) .stop
def gAr:Sch:=.fx 3 gAi .stop
def gAs:Sch:=.fl 0 (.fl 1 (.fx 2 .nil .stop))
def gAt:Sch:=.fx 0 gAg .stop
def gAu:Sch:=.fl 10 (.fx 11 (.fx 12 .nil .stop) .stop)
def gAv:Sch:=.fx 9 gAk .stop
def gAw:Sch:=.fx 5 gAk .stop
def gAx:Sch:=.fx 7 (.fx 8 (.fl 9 .nil) .stop) .stop
def gAy:Sch:=.fx 0 gAm .stop
def gAz:Sch:=.fl 0 (.fl 1 (.fx 2 (.fl 3 .nil) .stop))
def gBa:Sch:=.fl 0 (.fx 1 gAb .stop)
def gBb:Sch:=.fl 0 (.fl 1 (.fx 2 (.fx 3 .nil .stop) .stop))
def gBc:Sch:=.fl 0 (.fl 1 (.fx 2 gAc .stop))
def gBd:Sch:=.fl 0 (.fl 1 (.fx 2 (.fl 3 (.fl 4 gAj)) .stop))
set_option maxHeartbeats 4000000
theorem Z {α:Type} {a:α}:a=a:=rfl
section
variable {r:Option Nat} {N:Nat} {P:Program} {l:List Oper} {Q:wEJ} {D:List Deferred} {ks:List Nat} {σ:Env} {w:World} {i d j e:Nat} {s:Sch} {o:Oper} {b:Bool} {x:Operand} {v:Value} {p:Prop} {inst:Decidable p} {K:List Deferred->Env->World->Prop} {c1 c2:Code}
abbrev jV (n:Int):Value:=.int .i64 n
abbrev SW (w:World) (X:List Res) (U U':PHeap) (L:List Res) (w':World):Prop:=St ⟨w,X,U⟩ U' L w'
abbrev sW (w:World) (U U':PHeap) (L:List Res) (w':World):Prop:=St ⟨w,[],U⟩ U' L w'
abbrev St0 (w:World) (U:PHeap) (L:List Res):Prop:=St ⟨w,L,U⟩ U L w
theorem ifc {α:Type} {G p:Prop} {inst:Decidable p} {a b r:α} (h:@ite α p inst a b=r) (J:Hid p->a=r->G) (h2:Hid (¬ p)->b=r->G):G:=by
 by_cases c:p
 rw [if_pos c] at h;exact J ⟨c⟩ h
 rw [if_neg c] at h;exact h2 ⟨c⟩ h
theorem bnK {α β:Type} {G:Prop} {o:Option α} {f:α->Option β} {r:β} (h:o.bind f=some r) (k:∀ x,o=some x->f x=some r->G):G:=by
 obtain ⟨x,J,h2⟩:=bnd h
 exact k x J h2
theorem oR (h:(l[i]?,o.dst,nE d N,wanted l σ o)=(some o,some d,true,true)) (hr:∀ {w'},Runs P σ w' o v w') (k:OKS N P l Q D ks s (upd σ d v) w):OKS N P l Q D ks (.fl i s) σ w:=by
 simp only [nD] at h;exact OKS.r h.1 h.2.1 h.2.2.1 h.2.2.2 (fun _=>hr) k
theorem oL (h:(l[i]?,o.dst,nE d N,wanted l σ o,wMY (kOf ks i))=(some o,some d,true,true,false)) (hr:wFk P σ w o v) (k:OKS N P l Q D ks s (upd σ d v) w):OKS N P l Q D ks (.fl i s) σ w:=by
 simp only [nD] at h;exact OKS.m h.1 h.2.1 h.2.2.1 h.2.2.2.1 hr h.2.2.2.2 k
theorem oM (h:(l[i]?,o.dst,nE d N,wanted l σ o,o.op)=(some o,some d,true,true,.move x)) (hx:ev σ x=v) (k:OKS N P l Q D ks s (upd σ d v) w):OKS N P l Q D ks (.fl i s) σ w:=by
 simp only [nD] at h;exact OKS.rm h.1 h.2.1 h.2.2.1 h.2.2.2.1 h.2.2.2.2 hx k
theorem oA (h:(l[i]?,o.dst,nE d N,wanted l σ o,o.op)=(some o,some d,true,true,.assign x)) (hx:ev σ x=v) (k:OKS N P l Q D ks s (upd σ d v) w):OKS N P l Q D ks (.fl i s) σ w:=by
 simp only [nD] at h;exact OKS.ra h.1 h.2.1 h.2.2.1 h.2.2.2.1 h.2.2.2.2 hx k
theorem oF (h:(l[i]?,o.dst,nE d N,o.guard,(l[j]?).bind (·.dst),σ e,false == b)=(some o,some d,true,some (j,b),some e,.bool (decide p),false)) (c:Hid (¬ p)) (k:OKS N P l Q D ks s (upd σ d undef) w):OKS N P l Q D ks (.fl i s) σ w:=by
 simp only [nD] at h;exact OKS.p h.1 h.2.1 h.2.2.1 (wGR h.2.2.2.1 h.2.2.2.2.1 (h.2.2.2.2.2.1.trans (wMW c.out)) h.2.2.2.2.2.2) k
theorem oT (h:(l[i]?,o.dst,nE d N,o.guard,(l[j]?).bind (·.dst),σ e,true == b)=(some o,some d,true,some (j,b),some e,.bool (decide p),false)) (c:Hid p) (k:OKS N P l Q D ks s (upd σ d undef) w):OKS N P l Q D ks (.fl i s) σ w:=by
 simp only [nD] at h;exact OKS.p h.1 h.2.1 h.2.2.1 (wGR h.2.2.2.1 h.2.2.2.2.1 (h.2.2.2.2.2.1.trans (wMV c.out)) h.2.2.2.2.2.2) k
theorem oN {J:Bool} (h:(l[i]?,o.dst,nE d N,o.guard,(l[j]?).bind (·.dst),σ e,J == b)=(some o,some d,true,some (j,b),some e,.bool J,false)) (k:OKS N P l Q D ks s (upd σ d undef) w):OKS N P l Q D ks (.fl i s) σ w:=by
 simp only [nD] at h;exact OKS.p h.1 h.2.1 h.2.2.1 (wGR h.2.2.2.1 h.2.2.2.2.1 h.2.2.2.2.2.1 h.2.2.2.2.2.2) k
theorem nC {a b:Bool} (h:a=b):hJ (!a)=hJ (!b):=h ▸ rfl
theorem nF {a:Bool} (h:¬ a=true):hJ (!a)=hJ (!false):=nC (hM.2 h)
theorem wT (h:(o.guard,(l[j]?).bind (·.dst),σ e)=(some (j,true),some e,.bool (decide p))) (c:Hid p):wanted l σ o=true:=by
 simp only [nD] at h;exact wHG h.1 h.2.1 (h.2.2.trans (wMV c.out))
theorem wF (h:(o.guard,(l[j]?).bind (·.dst),σ e)=(some (j,false),some e,.bool (decide p))) (c:Hid (¬ p)):wanted l σ o=true:=by
 simp only [nD] at h;exact wHG h.1 h.2.1 (h.2.2.trans (wMW c.out))
theorem rU (h:(l[i]?,o.dst,nE d N)=(some o,some d,true)) (hw:wanted l σ o=true) (hr:∀ {w'},Runs P σ w' o v w') (k:OKS N P l Q D ks s (upd σ d v) w):OKS N P l Q D ks (.fl i s) σ w:=by
 simp only [nD] at h;exact OKS.r h.1 h.2.1 h.2.2 hw (fun _=>hr) k
theorem sR {id:Nat} (s:Sch) (hs:inOrder 0 s l.length=true) (h:OKS N P l (wFP (fun D σ w=>CK r N P c2 Q D σ w) Q) D [] s σ w):CK r N P (.seq (.region id l.toArray false) c2) Q D σ w:=CK.seq (CK.reg s hs h)
theorem rR {id:Nat} (s:Sch) (hs:inOrder 0 s l.length=true) (h:OKS N P l Q D [] s σ w):CK r N P (.region id l.toArray false) Q D σ w:=CK.reg s hs h
theorem eN (h:K D σ w):OKS N P l (wFP K Q) D ks .nil σ w:=OKS.e (wHD h)
theorem cT (hz:ev σ x=.bool (decide p)) (c:Hid p) (h:CK r N P c1 Q D σ w):CK r N P (.cond x c1 c2) Q D σ w:=CK.condT (hz.trans (wMV c.out)) h
theorem cF (hz:ev σ x=.bool (decide p)) (c:Hid (¬ p)) (h:CK r N P c2 Q D σ w):CK r N P (.cond x c1 c2) Q D σ w:=CK.condF (hz.trans (wMW c.out)) h
theorem kN (h:K D σ w):CK r N P .skip (wFP K Q) D σ w:=CK.skip (wHD h)
end
def fL1:Sch:=.fl 0 .nil
def fL2:Sch:=.fl 0 (.fl 1 .nil)
def fL3:Sch:=.fl 0 gAa
def fL4:Sch:=.fl 0 (.fl 1 gAb)
def fL5:Sch:=.fl 0 (.fl 1 (.fl 2 gAc))
def fL6:Sch:=.fl 0 (.fl 1 (.fl 2 (.fl 3 gAd)))
def fL7:Sch:=.fl 0 (.fl 1 (.fl 2 (.fl 3 (.fl 4 (.fl 5 (.fl 6 .nil))))))
def fL8:Sch:=.fl 0 (.fl 1 (.fl 2 (.fl 3 (.fl 4 (.fl 5 (.fl 6 (.fl 7 .nil)))))))
def fL9:Sch:=.fl 0 (.fl 1 (.fl 2 (.fl 3 (.fl 4 (.fl 5 (.fl 6 gAe))))))
def fL10:Sch:=.fl 0 (.fl 1 (.fl 2 (.fl 3 (.fl 4 (.fl 5 (.fl 6 (.fl 7 (.fl 8 (.fl 9 .nil)))))))))
def fL11:Sch:=.fl 0 (.fl 1 (.fl 2 (.fl 3 (.fl 4 (.fl 5 (.fl 6 (.fl 7 (.fl 8 (.fl 9 (.fl 10 .nil))))))))))
def fL12:Sch:=.fl 0 (.fl 1 (.fl 2 (.fl 3 (.fl 4 (.fl 5 (.fl 6 (.fl 7 (.fl 8 (.fl 9 (.fl 10 (.fl 11 .nil)))))))))))
def fL16:Sch:=.fl 0 (.fl 1 (.fl 2 (.fl 3 (.fl 4 (.fl 5 (.fl 6 (.fl 7 (.fl 8 (.fl 9 (.fl 10 (.fl 11 (.fl 12 (.fl 13 (.fl 14 (.fl 15 .nil)))))))))))))))
def fL17:Sch:=.fl 0 (.fl 1 (.fl 2 (.fl 3 (.fl 4 (.fl 5 (.fl 6 (.fl 7 (.fl 8 (.fl 9 (.fl 10 (.fl 11 (.fl 12 (.fl 13 (.fl 14 (.fl 15 (.fl 16 .nil))))))))))))))))
def fL30:Sch:=.fl 0 (.fl 1 (.fl 2 (.fl 3 (.fl 4 (.fl 5 (.fl 6 (.fl 7 (.fl 8 (.fl 9 (.fl 10 (.fl 11 (.fl 12 (.fl 13 (.fl 14 (.fl 15 (.fl 16 (.fl 17 (.fl 18 (.fl 19 (.fl 20 (.fl 21 (.fl 22 (.fl 23 (.fl 24 (.fl 25 (.fl 26 (.fl 27 (.fl 28 (.fl 29 .nil)))))))))))))))))))))))))))))
def fL31:Sch:=.fl 0 (.fl 1 (.fl 2 (.fl 3 (.fl 4 (.fl 5 (.fl 6 (.fl 7 (.fl 8 (.fl 9 (.fl 10 (.fl 11 (.fl 12 (.fl 13 (.fl 14 (.fl 15 (.fl 16 (.fl 17 (.fl 18 (.fl 19 (.fl 20 (.fl 21 (.fl 22 (.fl 23 (.fl 24 (.fl 25 (.fl 26 (.fl 27 (.fl 28 (.fl 29 (.fl 30 .nil))))))))))))))))))))))))))))))
def wFi (s:Sch):Sch:=.fl 0 (.fl 1 (.fl 2 (s)))
def wEu (s:Sch):Sch:=.fl 0 (.fl 1 (.fl 2 (.fl 3 (s))))
def wCA (s:Sch):Sch:=.fl 0 (.fl 1 (.fl 2 (.fl 3 (.fl 4 (s)))))
def wIM (s:Sch):Sch:=.fl 0 (.fl 1 (.fl 2 (.fl 3 (.fl 4 (.fl 5 (s))))))
def wHc (s:Sch):Sch:=.fl 0 (.fl 1 (.fl 2 (.fl 3 (.fl 4 (.fl 5 (.fl 6 (s)))))))
def wLS (s:Sch):Sch:=.fl 0 (.fl 1 (.fl 2 (.fl 3 (.fl 4 (.fl 5 (.fl 6 (.fl 7 (s))))))))
def wKc (s:Sch):Sch:=.fl 0 (.fl 1 (.fl 2 (.fl 3 (.fl 4 (.fl 5 (.fl 6 (.fl 7 (.fl 8 (s)))))))))
def wNL (s:Sch):Sch:=.fl 0 (.fl 1 (.fl 2 (.fl 3 (.fl 4 (.fl 5 (.fl 6 (.fl 7 (.fl 8 (.fl 9 (s))))))))))
def wGk (s:Sch):Sch:=.fl 0 (.fl 1 (.fl 2 (.fl 3 (.fl 4 (.fl 5 (.fl 6 (.fl 7 (.fl 8 (.fl 9 (.fl 10 (s)))))))))))
def wNM (s:Sch):Sch:=.fl 0 (.fl 1 (.fl 2 (.fl 3 (.fl 4 (.fl 5 (.fl 6 (.fl 7 (.fl 8 (.fl 9 (.fl 10 (.fl 11 (s))))))))))))
def wNN (s:Sch):Sch:=.fl 0 (.fl 1 (.fl 2 (.fl 3 (.fl 4 (.fl 5 (.fl 6 (.fl 7 (.fl 8 (.fl 9 (.fl 10 (.fl 11 (.fl 12 (s)))))))))))))
def wLi (s:Sch):Sch:=.fl 0 (.fl 1 (.fl 2 (.fl 3 (.fl 4 (.fl 5 (.fl 6 (.fl 7 (.fl 8 (.fl 9 (.fl 10 (.fl 11 (.fl 12 (.fl 13 (s))))))))))))))
def wGl (s:Sch):Sch:=.fl 0 (.fl 1 (.fl 2 (.fl 3 (.fl 4 (.fl 5 (.fl 6 (.fl 7 (.fl 8 (.fl 9 (.fl 10 (.fl 11 (.fl 12 (.fl 13 (.fl 14 (s)))))))))))))))
def wKd (s:Sch):Sch:=.fl 0 (.fl 1 (.fl 2 (.fl 3 (.fl 4 (.fl 5 (.fl 6 (.fl 7 (.fl 8 (.fl 9 (.fl 10 (.fl 11 (.fl 12 (.fl 13 (.fl 14 (.fl 15 (.fl 16 (.fl 17 (.fl 18 (.fl 19 (.fl 20 (s)))))))))))))))))))))
def fC2_4 (s:Sch):Sch:=.fl 2 (.fl 3 (.fl 4 (s)))
def fC2_5 (s:Sch):Sch:=.fl 2 (.fl 3 (.fl 4 (.fl 5 (s))))
def wNO (s:Sch):Sch:=.fl 2 (.fl 3 (.fl 4 (.fl 5 (.fl 6 (s)))))
def fC2_8 (s:Sch):Sch:=.fl 2 (.fl 3 (.fl 4 (.fl 5 (.fl 6 (.fl 7 (.fl 8 (s)))))))
def wKe (s:Sch):Sch:=.fl 3 (.fl 4 (.fl 5 (s)))
def fC3_6 (s:Sch):Sch:=.fl 3 (.fl 4 (.fl 5 (.fl 6 (s))))
def wNP (s:Sch):Sch:=.fl 3 (.fl 4 (.fl 5 (.fl 6 (.fl 7 (s)))))
def wNQ (s:Sch):Sch:=.fl 3 (.fl 4 (.fl 5 (.fl 6 (.fl 7 (.fl 8 (.fl 9 (.fl 10 (.fl 11 (.fl 12 (s))))))))))
def wNR (s:Sch):Sch:=.fl 3 (.fl 4 (.fl 5 (.fl 6 (.fl 7 (.fl 8 (.fl 9 (.fl 10 (.fl 11 (.fl 12 (.fl 13 (s)))))))))))
def wNS (s:Sch):Sch:=.fl 4 (.fl 5 (.fl 6 (s)))
def fC4_8 (s:Sch):Sch:=.fl 4 (.fl 5 (.fl 6 (.fl 7 (.fl 8 (s)))))
def wNT (s:Sch):Sch:=.fl 4 (.fl 5 (.fl 6 (.fl 7 (.fl 8 (.fl 9 (.fl 10 (.fl 11 (s))))))))
def wGv (s:Sch):Sch:=.fl 5 (.fl 6 (.fl 7 (.fl 8 (s))))
def wNU (s:Sch):Sch:=.fl 5 (.fl 6 (.fl 7 (.fl 8 (.fl 9 (.fl 10 (.fl 11 (s)))))))
def fC6_8 (s:Sch):Sch:=.fl 6 (.fl 7 (.fl 8 (s)))
def wKf (s:Sch):Sch:=.fl 7 (.fl 8 (.fl 9 (.fl 10 (s))))
def wNV (s:Sch):Sch:=.fl 7 (.fl 8 (.fl 9 (.fl 10 (.fl 11 (s)))))
def wLj (s:Sch):Sch:=.fl 7 (.fl 8 (.fl 9 (.fl 10 (.fl 11 (.fl 12 (.fl 13 (s)))))))
def wNW (s:Sch):Sch:=.fl 8 (.fl 9 (.fl 10 (s)))
def wNX (s:Sch):Sch:=.fl 8 (.fl 9 (.fl 10 (.fl 11 (.fl 12 (s)))))
def wNY (s:Sch):Sch:=.fl 8 (.fl 9 (.fl 10 (.fl 11 (.fl 12 (.fl 13 (.fl 14 (s)))))))
def wNZ (s:Sch):Sch:=.fl 9 (.fl 10 (.fl 11 (.fl 12 (.fl 13 (s)))))
def wNa (s:Sch):Sch:=.fl 9 (.fl 10 (.fl 11 (.fl 12 (.fl 13 (.fl 14 (.fl 15 (.fl 16 (.fl 17 (.fl 18 (s))))))))))
def wKg (s:Sch):Sch:=.fl 12 (.fl 13 (.fl 14 (.fl 15 (.fl 16 (s)))))
def wML (s:Sch):Sch:=.fl 13 (.fl 14 (.fl 15 (s)))
def wMM (s:Sch):Sch:=.fl 14 (.fl 15 (.fl 16 (s)))
def wMN (s:Sch):Sch:=.fl 14 (.fl 15 (.fl 16 (.fl 17 (.fl 18 (.fl 19 (.fl 20 (.fl 21 (.fl 22 (s)))))))))
def wMO (s:Sch):Sch:=.fl 14 (.fl 15 (.fl 16 (.fl 17 (.fl 18 (.fl 19 (.fl 20 (.fl 21 (.fl 22 (.fl 23 (.fl 24 (.fl 25 (s))))))))))))
def wMP (s:Sch):Sch:=.fl 24 (.fl 25 (.fl 26 (s)))
theorem zA:type_of% @wJk:=@wJk
theorem zB:type_of% @Tryz.sizeOf3:=@Tryz.sizeOf3
theorem zC:type_of% @OKS.rm:=@OKS.rm
theorem zD:type_of% @Hid.mk:=@Hid.mk
theorem zF:type_of% @Enters.mk:=@Enters.mk
theorem zG:type_of% @OKS.callH:=@OKS.callH
theorem zH:type_of% @CK.seq:=@CK.seq
theorem zI:type_of% @wHD:=@wHD
theorem zJ:type_of% @nK:=@nK
theorem zK:type_of% @Runs.lss:=@Runs.lss
theorem zL:type_of% @wLT:=@wLT
theorem zM:type_of% @Tryz.isAgg3:=@Tryz.isAgg3
theorem zN:type_of% @Tryz.runUnderlying31:=@Tryz.runUnderlying31
theorem zO:type_of% @Runs.fa:=@Runs.fa
theorem zP:type_of% @CK.block:=@CK.block
theorem zQ:type_of% @Runs.addw:=@Runs.addw
theorem zR:type_of% @CK.ret:=@CK.ret
theorem zS:type_of% @PHeap.Le.refl:=@PHeap.Le.refl
theorem zT:type_of% @OKS.r:=@OKS.r
theorem zU:type_of% @wHG:=@wHG
theorem zV:type_of% @wJi:=@wJi
theorem zW:type_of% @Tryz.runUnderlying46:=@Tryz.runUnderlying46
theorem zX:type_of% @Runs.pickF:=@Runs.pickF
theorem zY:type_of% @OKS.e:=@OKS.e
theorem zZ:type_of% @Tryz.sizeOf52:=@Tryz.sizeOf52
theorem za:type_of% @Tryz.runUnderlying47:=@Tryz.runUnderlying47
theorem zb:type_of% @Runs.pickT:=@Runs.pickT
theorem zc:type_of% @wJj:=@wJj
theorem zd:type_of% @wJC:=@wJC
theorem ze:type_of% @CK.condF:=@CK.condF
theorem zf:type_of% @wGR:=@wGR
theorem zg:type_of% @Runs.subw:=@Runs.subw
theorem zh:type_of% @res1:=@res1
theorem zi:type_of% @Tryz.sizeOf46:=@Tryz.sizeOf46
theorem zj:type_of% @Tryz.runUnderlying28:=@Tryz.runUnderlying28
theorem zk:type_of% @wJD:=@wJD
theorem zm:type_of% @Runs.iaI:=@Runs.iaI
theorem zn:type_of% @OKS.m:=@OKS.m
theorem zo:type_of% @CK.skip:=@CK.skip
theorem zp:type_of% @Tryz.mixed:=@Tryz.mixed
theorem zq:type_of% @wJE:=@wJE
theorem zr:type_of% @CK.exit:=@CK.exit
theorem zt:type_of% @wMW:=@wMW
theorem zu:type_of% @Tryz.runUnderlying3:=@Tryz.runUnderlying3
theorem zw:type_of% @Runs.len:=@Runs.len
theorem zx:type_of% @CK.anyOrd:=@CK.anyOrd
theorem zy:type_of% @Tryz.runUnderlying137:=@Tryz.runUnderlying137
theorem zz:type_of% @Tryz.runUnderlying246:=@Tryz.runUnderlying246
theorem ZA:type_of% @OKS.p:=@OKS.p
theorem ZB:type_of% @CK.condT:=@CK.condT
theorem ZC:type_of% @Tryz.runUnderlying26:=@Tryz.runUnderlying26
theorem ZD:type_of% @Runs.build:=@Runs.build
theorem ZE:type_of% @Runs.to:=@Runs.to
theorem ZF:type_of% @Tryz.isAgg46:=@Tryz.isAgg46
theorem ZG:type_of% @OKS.box:=@OKS.box
theorem ZH:type_of% @Tryz.runUnderlying52:=@Tryz.runUnderlying52
theorem ZI:type_of% @OKS.alloc:=@OKS.alloc
theorem ZJ:type_of% @wMV:=@wMV
theorem ZK:type_of% @Tryz.sizeOf28:=@Tryz.sizeOf28
theorem ZL:type_of% @Tryz.runUnderlying25:=@Tryz.runUnderlying25
theorem ZM:type_of% @OKS.buildSlice:=@OKS.buildSlice
theorem ZN:type_of% @OKS.st:=@OKS.st
theorem ZO:type_of% @Tryz.sizeOf275:=@Tryz.sizeOf275
theorem ZP:type_of% @Tryz.sizeOf44:=@Tryz.sizeOf44
theorem ZQ:type_of% @Tryz.runUnderlying50:=@Tryz.runUnderlying50
theorem ZR:type_of% @Tryz.isAgg44:=@Tryz.isAgg44
theorem ZS:type_of% @Runs.iaN:=@Runs.iaN
theorem ZT:type_of% @Tryz.zeroValue28:=@Tryz.zeroValue28
theorem ZU:type_of% @Tryz.runUnderlying126:=@Tryz.runUnderlying126
theorem ZV:type_of% @Runs.notT:=@Runs.notT
theorem ZW:type_of% @Tryz.runUnderlying37:=@Tryz.runUnderlying37
theorem ZX:type_of% @Runs.ext:=@Runs.ext
theorem ZY:type_of% @Tryz.runUnderlying276:=@Tryz.runUnderlying276
theorem ZZ:type_of% @Tryz.isAgg52:=@Tryz.isAgg52
theorem Za:type_of% @Tryz.sizeOf53:=@Tryz.sizeOf53
theorem Zb:type_of% @Tryz.runUnderlying40:=@Tryz.runUnderlying40
theorem Zc:type_of% @Tryz.call219:=@Tryz.call219
theorem Zd:type_of% @Tryz.call146:=@Tryz.call146
theorem Ze:type_of% @Tryz.runUnderlying275:=@Tryz.runUnderlying275
theorem Zf:type_of% @Runs.neq:=@Runs.neq
theorem Zg:type_of% @OKS.px:=@OKS.px
theorem Zh:type_of% @Tryz.sizeOf40:=@Tryz.sizeOf40
theorem Zi:type_of% @Tryz.sizeOf26:=@Tryz.sizeOf26
theorem Zj:type_of% @Tryz.sizeOf135:=@Tryz.sizeOf135
theorem Zk:type_of% @OKS.callV:=@OKS.callV
theorem Zl:type_of% @Tryz.zeroValue46:=@Tryz.zeroValue46
theorem Zm:type_of% @CK.iter:=@CK.iter
theorem Zn:type_of% @Runs.nilp:=@Runs.nilp
theorem Zo:type_of% @Tryz.runUnderlying200:=@Tryz.runUnderlying200
theorem Zp:type_of% @Tryz.runUnderlying199:=@Tryz.runUnderlying199
theorem Zq:type_of% @Tryz.isAgg26:=@Tryz.isAgg26
theorem Zr:type_of% @Runs.eql:=@Runs.eql
theorem Zs:type_of% @Tryz.runUnderlying53:=@Tryz.runUnderlying53
theorem Zt:type_of% @Tryz.call202:=@Tryz.call202
theorem Zu:type_of% @Tryz.sizeOf25:=@Tryz.sizeOf25
theorem Zv:type_of% @Tryz.zeroValue265:=@Tryz.zeroValue265
theorem Zw:type_of% @Tryz.zeroValue3:=@Tryz.zeroValue3
theorem Zx:type_of% @Tryz.runUnderlying210:=@Tryz.runUnderlying210
theorem Zy:type_of% @Runs.gtr:=@Runs.gtr
theorem Zz:type_of% @OKS.ra:=@OKS.ra
theorem yA:type_of% @Tryz.isAgg135:=@Tryz.isAgg135
theorem yB:type_of% @OKS.append:=@OKS.append
theorem yC:type_of% @OKS.makeSliceZ:=@OKS.makeSliceZ
theorem yD:type_of% @Tryz.isAgg28:=@Tryz.isAgg28
theorem yE:type_of% @Tryz.isAgg275:=@Tryz.isAgg275
theorem yF:type_of% @Runs.mkf:=@Runs.mkf
theorem yG:type_of% @Runs.iaA:=@Runs.iaA
theorem yH:type_of% @CK.cut:=@CK.cut
theorem yI:type_of% @Tryz.runUnderlying178:=@Tryz.runUnderlying178
theorem yJ:type_of% @OKS.stR:=@OKS.stR
theorem yK:type_of% @Tryz.runUnderlying38:=@Tryz.runUnderlying38
theorem yL:type_of% @Tryz.isAgg25:=@Tryz.isAgg25
theorem yM:type_of% @Tryz.call137:=@Tryz.call137
theorem yN:type_of% @Tryz.isAgg32:=@Tryz.isAgg32
theorem yO:type_of% @Tryz.underlying31:=@Tryz.underlying31
theorem yP:type_of% @Tryz.sizeOf199:=@Tryz.sizeOf199
theorem yQ:type_of% @Tryz.call91:=@Tryz.call91
theorem yR:type_of% @Tryz.runUnderlying124:=@Tryz.runUnderlying124
theorem yS:type_of% @Tryz.runUnderlying203:=@Tryz.runUnderlying203
theorem yT:type_of% @Tryz.runUnderlying265:=@Tryz.runUnderlying265
theorem yU:type_of% @Runs.cvw:=@Runs.cvw
theorem yV:type_of% @Runs.mulw:=@Runs.mulw
theorem yW:type_of% @CK.forN:=@CK.forN
theorem yX:type_of% @Tryz.sizeOf200:=@Tryz.sizeOf200
theorem yY:type_of% @Tryz.sizeOf133:=@Tryz.sizeOf133
theorem yZ:type_of% @Tryz.zeroValue53:=@Tryz.zeroValue53
theorem ya:type_of% @Tryz.sizeOf37:=@Tryz.sizeOf37
theorem yb:type_of% @Runs.cv64:=@Runs.cv64
theorem yc:type_of% @Runs.shr1:=@Runs.shr1
end Go.Proofs.YtlmekamhphnmjaaGreat
namespace Go.Proofs.YtlmekamhphnmjaaGreat
open Go.KL
set_option maxHeartbeats 4000000
theorem wGT (J:List Int) (aa:Option Addr) (ab:Nat) (w:World) (U:PHeap) (hS:St0 w U []) (ah:Sl U 1 aa ab J.length (hD KL.encB8 J)) {r:wAW} (hm:wCy J=some r):Gv Tryz.prog 7 [.slice aa J.length ab] w (wBu w [] U (fun U_ L_ v=>∃ (b0:Nat) (A0p0:Option Addr) (c0p0:Nat),v=.pointer (some ⟨b0,0,none⟩)/\L_=[.blk b0 126 [.slice A0p0 r.bytes.length c0p0,jV r.next,.int .u32 r.state]]/\Sl U_ 1 A0p0 c0p0 r.bytes.length (hD KL.encB8 r.bytes))):=by
 unfold wCy at hm
 refine Gv.of Tryz.func7 Z Tryz.ntmps7 Tryz.results7 Z (sR fL1 Z (oA Z Z (eN (sR gAz Z (oM Z Z ?_)))))
 let B0:List Value:=[.slice aa J.length ab,jV 0,.int .u32 17]
 refine zT rfl rfl rfl rfl (fun _=>ZD (pv:=[(0,.slice aa J.length ab),(2,.int .u32 17)]) (z:=[.slice none 0 0,jV 0,.int .u32 0]) (cs:=B0) rfl (wAI rfl (wAI rfl wAd)) Tryz.zeroValue126 wKB rfl rfl) (ZG (cs:=B0) rfl rfl rfl rfl rfl rfl (by rfl) hS ?_)
 intro W1 b2 ag
 refine oA Z Z (eN (zR ?_))
 cases hm
 exact ⟨Z,_,(zh Z),U,_,ag,b2,aa,ab,Z,Z,ah⟩
theorem wBV (J:wAW) (af:Nat) (ab:Option Addr) (ac:Nat) (p1:Int) (w:World) (U:PHeap) (hS:St0 w U [.blk af 126 [.slice ab J.bytes.length ac,jV J.next,.int .u32 J.state]]) (ah:Sl U 1 ab ac J.bytes.length (hD KL.encB8 J.bytes)) {r:Int × wAW} (hm:wAU J p1=some r):Gv Tryz.prog 9 [.pointer (some ⟨af,0,none⟩),jV p1] w (wBu w [.blk af 126 [.slice ab J.bytes.length ac,jV J.next,.int .u32 J.state]] U (fun U_ L_ v=>∃ (ax:Option Addr) (az:Nat),v=jV r.1/\L_=[.blk af 126 [.slice ax r.2.bytes.length az,jV r.2.next,.int .u32 r.2.state]]/\Sl U_ 1 ax az r.2.bytes.length (hD KL.encB8 r.2.bytes))):=by
 unfold wAU at hm
 refine Gv.of Tryz.func9 Z Tryz.ntmps9 Tryz.results9 Z (sR fL1 Z (oA Z Z (eN (zH (sR fL10 Z (oM Z Z (oR Z (Runs.leq Z Z Z) (oM Z Z ?_))))))))
 by_cases c2:p1 <= 1
 have aC:=hm;rw [if_pos c2] at aC;replace c2:=zD c2
 refine oT Z c2 (oT Z c2 (oT Z c2 (oT Z c2 (oT Z c2 (oT Z c2 (oR Z (zb Z (ZJ c2.out) Z) (eN (ZB Z (sR fL1 Z (oA Z Z (eN (zR (zc ?_)))))))))))))
 cases aC
 exact ⟨Z,_,(zh Z),U,_,hS,ab,ac,Z,Z,ah⟩
 have aD:=hm;rw [if_neg c2] at aD;replace c2:=zD c2
 refine zC Z Z Z (wF Z c2) Z Z (rU Z (wF Z c2) (Zn Z Z) (rU Z (wF Z c2) (zO Z Z ZU Z Tryz.sizeOf22) (zn Z Z Z (wF Z c2) (hS.ldB (j:=0) Z Z Z Tryz.isAgg22 (v:=.slice ab J.bytes.length ac) Z) Z (rU Z (wF Z c2) (zw Z Z Tryz.runUnderlying22) (rU Z (wF Z c2) (Zr Z Z Z) (oR Z (zX Z (zt c2.out) Z) (eN (ifc aD ?_ ?_))))))))
 intro c5 bb
 refine cT Z c5 (sR fL1 Z (oA Z Z (eN (zR (zc ?_)))))
 cases bb
 exact ⟨Z,_,(zh Z),U,_,hS,ab,ac,Z,Z,ah⟩
 intro c5 bc
 refine cF Z c5 (kN (zH (zx zp [3,3,3,1,3,3,3,1,3,3,3,1,3,3,3,1,3,3,3,3,1,3,3,3,1,3,3,3,3,3] fL30 (by kernel_rfl) ?_)))
 have ae:=hS.drew
 generalize hw_W9:({ w with drawn:=w.drawn + 1 }:World)=W9 at ae ⊢
 refine oM Z Z (oR Z (Zn Z Z) (oR Z (zO Z Z ZU Z Tryz.sizeOf22) (oL Z (ae.ldB (j:=0) Z Z Z Tryz.isAgg22 (v:=.slice ab J.bytes.length ac) Z) (oM Z Z (oR Z (Zn Z Z) (oR Z (zO Z Z ZU Z zB) (oL Z (ae.ldB (j:=0) Z Z Z zM (v:=jV J.next) Z) (oM Z Z (oR Z (Zn Z Z) (oR Z (zO Z Z ZU Z Tryz.sizeOf22) (oL Z (ae.ldB (j:=0) Z Z Z Tryz.isAgg22 (v:=.slice ab J.bytes.length ac) Z) (oR Z (zw Z Z Tryz.runUnderlying22) (bnK bc fun bj aI aS=>oR Z (Runs.rem Z Z Z aI) (bnK aS fun aF aw aT=>?_))))))))))))))
 have q:=ah.el (fun _=>rfl) (wBW aw)
 obtain ⟨bh,bi,aO,aP⟩:=q
 refine oR Z (zm Z Z aO Z Tryz.runUnderlying22 Tryz.sizeOf5 (wFE aw) (wFV aw)) (oL Z (ae.ldC (f:=0) aP (v:=.int .u8 aF) Z Z Tryz.isAgg5 Z) (oR Z (Runs.cvu Z Z Tryz.runUnderlying5 yR Z Z) (oM Z Z (oR Z (Zn Z Z) (oR Z (zO Z Z ZU Z zB) (oL Z (ae.ldB (j:=0) Z Z Z zM (v:=jV J.next) Z) (oM Z Z (oR Z (Zn Z Z) (oR Z (zO Z Z ZU Z Tryz.sizeOf22) (oL Z (ae.ldB (j:=0) Z Z Z Tryz.isAgg22 (v:=.slice ab J.bytes.length ac) Z) (oR Z (zw Z Z Tryz.runUnderlying22) (bnK aT fun be aJ aU=>oR Z (Runs.quo Z Z Z aJ) (oR Z (Runs.cvu Z Z zu yR Z Z) (oA Z Z (oA Z Z (eN (zH (CK.fresh fun aq ak=>?_))))))))))))))))))
 have ai:aq 0=.pointer (some ⟨af,0,none⟩):=(ak 0).trans rfl
 have am:aq 1=jV p1:=(ak 1).trans rfl
 have an:aq 5=.int .u32 (wEf aF):=(ak 5).trans rfl
 have aA:aq 6=.int .u32 (wEf be):=(ak 6).trans rfl
 clear ak
 refine rR (wHc (.fx 7 .nil .stop)) Z (oM Z ai (oR Z (Zn Z Z) (oR Z (zO Z Z ZU Z zB) (oL Z (ae.ldB (j:=0) Z Z Z zM (v:=jV J.next) Z) (oR Z (zQ Z Z Z) (oR Z (Zn Z Z) (oR Z (zO Z Z ZU Z zB) (ZN (j:=0) (vs:=[jV (w64 (J.next + 1))]) Z Z Z Z ae Z Z Z Z zB (zJ Z) Z Z Z ?_))))))))
 intro aG aQ
 let B0:Res:=.blk af 126 [.slice ab J.bytes.length ac,jV J.next,.int .u32 J.state]
 have aB:SW w [B0] U U [.blk af 126 [.slice ab J.bytes.length ac,jV (w64 (J.next + 1)),.int .u32 J.state]] aG:=aQ
 refine eN (sR (wGl (.fx 15 .nil .stop)) Z (oM Z ai (oM Z ai (oR Z (Zn Z Z) (oR Z (zO Z Z ZU Z Tryz.sizeOf124) (oL Z (aB.ldB (j:=0) Z Z Z Tryz.isAgg124 (v:=.int .u32 J.state) Z) (oR Z (Runs.mulu Z Z Z) (oM Z an (oR Z (Runs.addu Z Z Z) (oM Z aA (oR Z (Runs.mulu Z Z Z) (oR Z (Runs.addu Z Z Z) (oR Z (Runs.addu Z Z Z) (bnK aU fun ap aK aV=>oR Z (Runs.rem Z Z Z aK) (oR Z (Zn Z Z) (oR Z (zO Z Z ZU Z Tryz.sizeOf124) (ZN (j:=0) (vs:=[.int .u32 ap]) Z Z Z Z aB Z Z Z Z Tryz.sizeOf124 (zJ Z) Z Z Z ?_)))))))))))))))))
 intro aH aR
 have aj:SW w [B0] U U [.blk af 126 [.slice ab J.bytes.length ac,jV (w64 (J.next + 1)),.int .u32 ap]] aH:=aR
 refine eN (zH (sR fL6 Z (oM Z aA (oR Z (Zr Z Z Z) (oM Z Z (ifc aV ?_ ?_))))))
 intro ag aW
 refine zC Z Z Z (wT Z ag) Z am (rU Z (wT Z ag) (Runs.leq Z Z Z) (oR Z (zb Z (ZJ ag.out) Z) (eN (ifc aW ?_ ?_))))
 intro au aX
 refine cT Z au (sR fL5 Z (oM Z an (oR Z (yU Z Z yR zu Z Z) (oM Z am (bnK aX fun bk aL aY=>oR Z (Runs.rem Z Z Z aL) (oA Z Z (eN (zR (zc ?_)))))))))
 cases aY
 exact ⟨Z,_,(zh Z),U,_,aj,ab,ac,Z,Z,ah⟩
 intro au aZ
 refine cF Z au (kN (sR fL11 Z (oM Z ai (oR Z (Zn Z Z) (oR Z (zO Z Z ZU Z Tryz.sizeOf124) (oL Z (aj.ldB (j:=0) Z Z Z Tryz.isAgg124 (v:=.int .u32 ap) Z) (oR Z (Runs.mulu Z Z Z) (oM Z an (oR Z (Runs.addu Z Z Z) (oR Z (yU Z Z yR zu Z Z) (oM Z am (bnK aZ fun bm aM a7=>oR Z (Runs.rem Z Z Z aM) (oA Z Z (eN (zR ?_)))))))))))))))
 cases a7
 exact ⟨Z,_,(zh Z),U,_,aj,ab,ac,Z,Z,ah⟩
 intro ag a8
 refine oF Z ag (oF Z ag (oR Z (zX Z (zt ag.out) Z) (eN (ze Z (kN (sR fL11 Z (oM Z ai (oR Z (Zn Z Z) (oR Z (zO Z Z ZU Z Tryz.sizeOf124) (oL Z (aj.ldB (j:=0) Z Z Z Tryz.isAgg124 (v:=.int .u32 ap) Z) (oR Z (Runs.mulu Z Z Z) (oM Z an (oR Z (Runs.addu Z Z Z) (oR Z (yU Z Z yR zu Z Z) (oM Z am (bnK a8 fun bn aN ba=>oR Z (Runs.rem Z Z Z aN) (oA Z Z (eN (zR ?_)))))))))))))))))))
 cases ba
 exact ⟨Z,_,(zh Z),U,_,aj,ab,ac,Z,Z,ah⟩
theorem wEI (J:wAW) (aa:Nat) (ab:Option Addr) (ac:Nat) (p1:Int) (p2:Int) (w:World) (U:PHeap) (hS:St0 w U [.blk aa 126 [.slice ab J.bytes.length ac,jV J.next,.int .u32 J.state]]) (aw:Sl U 1 ab ac J.bytes.length (hD KL.encB8 J.bytes)) {r:Int × wAW} (hm:wBI J p1 p2=some r):Gv Tryz.prog 8 [.pointer (some ⟨aa,0,none⟩),jV p1,jV p2] w (wBu w [.blk aa 126 [.slice ab J.bytes.length ac,jV J.next,.int .u32 J.state]] U (fun U_ L_ v=>∃ (ai:Option Addr) (am:Nat),v=jV r.1/\L_=[.blk aa 126 [.slice ai r.2.bytes.length am,jV r.2.next,.int .u32 r.2.state]]/\Sl U_ 1 ai am r.2.bytes.length (hD KL.encB8 r.2.bytes))):=by
 unfold wBI at hm
 refine Gv.of Tryz.func8 Z Tryz.ntmps8 Tryz.results8 Z (sR fL1 Z (oA Z Z (eN (sR (wIM gAn) Z (oM Z Z (oM Z Z (oM Z Z (oM Z Z (oR Z (zg Z Z Z) (oR Z (zQ Z Z Z) ?_))))))))))
 have q:=bnd hm
 obtain ⟨⟨x2,x3⟩,h4,an⟩:=q
 try dsimp only at an
 refine zG 1 Z Z Z Z (zF Z Z Tryz.call9 (zA Z (zA Z zL)) Z) hS (fun hs=>wBV J aa ab ac (w64 ((w64 (p2 - p1)) + 1)) w U hs aw h4) (.inl Z) ?_
 rintro U6 L7 v8 W9 ay au ⟨ah,ak,rfl,rfl,ap⟩
 have av:SW w [.blk aa 126 [.slice ab J.bytes.length ac,jV J.next,.int .u32 J.state]] U U6 [.blk aa 126 [.slice ah x3.bytes.length ak,jV x3.next,.int .u32 x3.state]] W9:=au
 refine oR Z (zQ Z Z Z) (oA Z Z (eN (zR ?_)))
 cases an
 exact ⟨Z,_,(zh Z),U6,_,av,ah,ak,Z,Z,ap⟩
theorem wDB (p0:Int) (p1:Int) (p2:Int) (w:World) (U:PHeap) (hS:St0 w U [])  {r:Bool} (hm:wBi p0 p1 p2=some r):Gv Tryz.prog 124 [jV p0,jV p1,jV p2] w (wBu w [] U (fun U_ L_ v=>v=.bool r/\L_=[])):=by
 unfold wBi at hm
 refine Gv.of Tryz.func124 Z Tryz.ntmps124 Tryz.results124 Z (sR fL1 Z (oA Z Z (eN (sR fL9 Z (oM Z Z (oM Z Z (oR Z (Runs.geq Z Z Z) (oM Z Z ?_))))))))
 by_cases J:p1 <= p0
 have aa:=hm;rw [if_pos J] at aa;replace J:=zD J
 refine zC Z Z Z (wT Z J) Z Z (zC Z Z Z (wT Z J) Z Z (rU Z (wT Z J) (Runs.leq Z Z Z) (oR Z (zb Z (ZJ J.out) Z) (oA Z Z (eN (zR ?_))))))
 first | (obtain rfl:=nA aa) | cases aa
 exact ⟨Z,_,(zh Z),U,_,hS,Z,Z⟩
 have ae:=hm;rw [if_neg J] at ae;replace J:=zD J
 refine oF Z J (oF Z J (oF Z J (oR Z (zX Z (zt J.out) Z) (oA Z Z (eN (zR ?_))))))
 have hE:=nA ae;first | subst r | cases hE
 exact ⟨Z,_,(zh Z),U,_,hS,Z,Z⟩
theorem wFZ (J:Int) (p1:(Int->Option Bool)) (ae:Nat) (aa:Value) (w:World) (U:PHeap) (hS:St0 w U []) (aj:Cl U ae 0 [aa]) (ak:FnOK Tryz.prog U aa wMR wMS p1) {r:Bool} (hm:wBr J p1=some r):Gv Tryz.prog 198 [jV J,.pointer (some ⟨ae,0,none⟩)] w (wBu w [] U (fun U_ L_ v=>v=.bool r/\L_=[])):=by
 unfold wBr at hm
 refine Gv.of Tryz.func198 Z Tryz.ntmps198 Tryz.results198 Z (sR fL1 Z (oA Z Z (eN (sR gBc Z (oL Z (hS.ldC (f:=0) aj (v:=aa) Z Z Tryz.isAgg91 Z) (oM Z Z (bnK hm fun x1 h2 am=>Zk (a:=J) Z Z Z Z Z Z (zA Z zL) hS ak Z h2 ?_)))))))
 rintro U4 L5 v6 W7 ao ai ⟨rfl,rfl⟩
 have ah:sW w U U4 [] W7:=ai
 refine oR Z (ZV Z Z) (oA Z Z (eN (zR ?_)))
 cases am
 exact ⟨Z,_,(zh Z),U4,_,ah,Z,Z⟩
theorem wDy (J:List Int) (aj:Option Addr) (ak:Nat) (p1:(Int->Option Bool)) (am:Value) (w:World) (U:PHeap) (hS:St0 w U []) (aP:Sl U 1 aj ak J.length (hD KL.encI J)) (aQ:FnOK Tryz.prog U am wMR wMS p1) {r:Int} (hm:wBk J p1=some r):Gv Tryz.prog 221 [.slice aj J.length ak,am] w (wBu w [] U (fun U_ L_ v=>v=jV r/\L_=[])):=by
 unfold wBk at hm
 refine Gv.of Tryz.func221 Z Tryz.ntmps221 Tryz.results221 Z (sR fL1 Z (oA Z Z (eN (zH (sR fL3 Z (oM Z Z (oR Z (zw Z Z zN) (oM Z Z (eN (zP ?_))))))))))
 have q:=wDW hm
 obtain ⟨r3,af⟩:=q
 have q:=wDV af
 obtain ⟨ah,aT⟩:=q
 replace ah:=zD ah
 refine yW (fun k2 _ σ_ w_=>∃ (U_:PHeap),σ_ 8=jV (↑k2:Int)/\σ_ 0=.slice aj J.length ak/\σ_ 1=am/\σ_ 7=jV (↑J.length:Int)/\PHeap.Le U U_/\sW w U U_ [] w_) aT ?_ ?_ ?_
 exact ⟨U,Z,Z,Z,Z,(zS _),hS⟩
 rintro k2 ⟨⟩ bq bu W8 ag ⟨bb,ae,ao,ap,aq,ai,av⟩ ay aR
 try dsimp only at ay
 have an:Hid ((↑k2:Int) < (↑J.length:Int)):=zD (wBh ag)
 replace ag:=zD ag
 have aU:Hid (w64 ((↑k2:Int) + 1)=(↑(k2 + 1):Int)):=zD (by have h1:=ah.out;have h2:=an.out;rw [wAf] <;> omega)
 refine sR fL1 Z (oR Z (zK Z ae aq) (eN (zH (cT Z an (kN (zH (zP (sR fL2 Z (oM Z ae (oA Z Z (eN (sR (wCA (.fx 5 .nil .stop)) Z (oM Z ap (oM Z ao (oM Z Z (bnK ay fun aA au aV=>?_))))))))))))))))
 have aI:=aP.le ai
 have q:=aI.el (fun _=>rfl) (wBW au)
 obtain ⟨bg,bk,aL,aM⟩:=q
 refine oR Z (ZS Z Z aL Z zN zB (wCw au)) (oL Z (av.ldC (f:=0) aM (v:=jV aA) Z Z zM Z) (bnK aV fun bp aJ aW=>?_))
 have aK:=aQ.le ai
 refine Zk (a:=aA) Z Z Z Z Z Z (zA Z zL) av aK Z aJ ?_
 rintro ab ba bn aC a7 aN ⟨rfl,rfl⟩
 have aw:sW w U ab [] aC:=aN
 refine eN (ifc aW ?_ ?_)
 intro ac aX
 refine ZB (congrArg hJ ac.out) (sR fL2 Z (oM Z Z (oA Z Z (eN (zR (zq (zc ?_)))))))
 have q:=wAe aX
 obtain ⟨a8,aY,aF⟩:=q
 have q:=wDf hm af (aR a8 aF)
 obtain rfl:=q
 refine zc (zq (zc ?_))
 cases aY
 exact ⟨Z,_,(zh Z),ab,_,aw,Z,Z⟩
 intro ac aZ
 refine ze (congrArg hJ (hM.2 ac.out)) (zo (zd (zI (rR fL2 Z (oR Z (ZE (zQ Z ae Z) (congrArg (jV) aU.out)) (oM Z Z (zY ?_)))))))
 have q:=nA aZ
 obtain rfl:=q
 exact zI ⟨Z,_,Z,⟨ab,Z,ao,ap,aq,(ai.trans a7),aw⟩⟩
 rintro ⟨⟩ br bc ⟨aB,aH,bh,bi,aG,bj,aO⟩ aS
 have ax:=wEB hm af aS
 try dsimp only at ax
 have aD:Hid (¬ ((↑(((↑J.length:Int):Int) - 0).toNat:Int) < (↑J.length:Int))):=zD (wBG)
 refine sR fL1 Z (oR Z (zK Z aH aG) (eN (zH (cF Z aD (zr (zV (zV (zk (zI (sR fL1 Z (oA Z Z (eN (zR ?_)))))))))))))
 cases ax
 exact ⟨Z,_,(zh Z),aB,_,aO,Z,Z⟩
theorem wDu (J:List Int) (ab:Option Addr) (ac:Nat) (p1:(Int->Option Bool)) (ae:Value) (w:World) (U:PHeap) (hS:St0 w U []) (am:Sl U 1 ab ac J.length (hD KL.encI J)) (an:FnOK Tryz.prog U ae wMR wMS p1) {r:Bool} (hm:wBZ J p1=some r):Gv Tryz.prog 148 [.slice ab J.length ac,ae] w (wBu w [] U (fun U_ L_ v=>v=.bool r/\L_=[])):=by
 unfold wBZ at hm
 refine Gv.of Tryz.func148 Z Tryz.ntmps148 Tryz.results148 Z (sR fL1 Z (oA Z Z (eN (sR gBc Z (oM Z Z (oM Z Z (bnK hm fun x1 h2 ag=>zG 0 Z Z Z Z (zF Z Z Tryz.call221 (zA Z (zA Z zL)) Z) hS (fun hs=>wDy J ab ac p1 ae w U hs am an h2) (.inr Z) ?_)))))))
 rintro U4 L5 v6 W7 ap ak ⟨rfl,rfl⟩
 have aj:sW w U U4 [] W7:=ak
 refine oR Z (Runs.geq Z Z Z) (oA Z Z (eN (zR ?_)))
 first | (obtain rfl:=nA ag) | cases ag
 exact ⟨Z,_,(zh Z),U4,_,aj,Z,Z⟩
theorem wGF (p0:List Int) (ag:Option Addr) (ah:Nat) (p1:(Int->Option Bool)) (ae:Value) (w:World) (U:PHeap) (hS:St0 w U []) (aB:Sl U 1 ag ah p0.length (hD KL.encI p0)) (ak:FnOK Tryz.prog U ae wMR wMS p1) {r:Bool} (hm:wCh p0 p1=some r):Gv Tryz.prog 125 [.slice ag p0.length ah,ae] w (wBu w [] U (fun U_ L_ v=>v=.bool r/\L_=[])):=by
 unfold wCh at hm
 refine Gv.of Tryz.func125 Z Tryz.ntmps125 Tryz.results125 Z (sR gAf Z (ZG (cs:=[ae]) Z Z Z Z Z Z (FnOK.cells ak) hS ?_))
 intro W1 J ay
 have q:=ay.freeze (k:=0) rfl
 obtain ⟨U5,am,aa,az⟩:=q
 replace aa:=Cl.of aa
 have aA:sW w U U5 [] W1:=az
 replace aa:Cl U5 J 0 [ae]:=aa
 refine oA Z Z (eN (sR gBc Z (oM Z Z (oR Z (yF Z zL (zA Z zL)) ?_))))
 have ap:=aB.le am
 have aq:=ak.le am
 have av:FnOK Tryz.prog U5 (.func (.func 198) #[] #[.pointer (some ⟨J,0,none⟩)]) wMR wMS (fun x=>wBr x p1):=⟨198,[],[.pointer (some ⟨J,0,none⟩)],rfl,Tryz.call198,fun U1 w1 x y vs le hs ha hm=>by obtain rfl:=ha;exact wFZ x p1 J ae w1 U1 hs (aa.le le) (aq.le le) hm⟩
 refine bnK hm fun aI au aC=>zG 0 Z Z Z Z (zF Z Z Tryz.call148 (zA Z (zA Z zL)) Z) aA (fun hs=>wDu p0 ag ah (fun x=>wBr x p1) (.func (.func 198) #[] #[.pointer (some ⟨J,0,none⟩)]) W1 U5 hs ap av au) (.inr Z) ?_
 rintro ai aF aH ao aG aw ⟨rfl,rfl⟩
 have ax:sW w U ai [] ao:=aw
 refine oR Z (ZV Z Z) (oA Z Z (eN (zR ?_)))
 cases aC
 exact ⟨Z,_,(zh Z),ai,_,ax,Z,Z⟩
theorem wGp (J:Int) (w:World) (U:PHeap) (hS:St0 w U [])  {r:Bool} (hm:wCm J=some r):Gv Tryz.prog 126 [jV J] w (wBu w [] U (fun U_ L_ v=>v=.bool r/\L_=[])):=by
 unfold wCm at hm
 refine Gv.of Tryz.func126 Z Tryz.ntmps126 Tryz.results126 Z (sR fL1 Z (oA Z Z (eN (sR gAo Z (oM Z Z (bnK hm fun x1 h2 ag=>zG 0 Z Z Z Z (zF Z Z Tryz.call124 (zA Z (zA Z (zA Z zL))) Z) hS (fun hs=>wDB J 0 5 w U hs h2) (.inr Z) ?_))))))
 rintro U4 L5 v6 W7 ai af ⟨rfl,rfl⟩
 have ae:sW w U U4 [] W7:=af
 refine oA Z Z (eN (zR ?_))
 have hE:=nA ag;first | subst r | cases hE
 exact ⟨Z,_,(zh Z),U4,_,ae,Z,Z⟩
theorem wEb (J:wAE) (p1:Int) (ai:Nat) (w:World) (U:PHeap) (hS:St0 w U []) (aq:Cl U ai 0 [jV p1]) {r:Bool} (hm:wBN J p1=some r):Gv Tryz.prog 200 [.agg #[jV J.From,jV J.To,jV J.Loops.Lo,jV J.Loops.Hi],.pointer (some ⟨ai,0,none⟩)] w (wBu w [] U (fun U_ L_ v=>v=.bool r/\L_=[])):=by
 unfold wBN at hm
 refine Gv.of Tryz.func200 Z Tryz.ntmps200 Tryz.results200 Z (sR gAf Z ?_)
 let B0:List Value:=[jV J.From,jV J.To,jV J.Loops.Lo,jV J.Loops.Hi]
 refine ZG (cs:=B0) rfl rfl rfl rfl rfl rfl (by rfl) hS ?_
 intro W1 b2 ae
 refine oA Z Z (eN (sR (wEu (.fx 4 (wNU (.nil)) .stop)) Z (oR Z (zO Z Z ZW Z zB) (oL Z (ae.ldB (j:=0) Z Z Z zM (v:=jV J.From) Z) (oR Z (zO Z Z ZW Z zB) (oL Z (ae.ldB (j:=0) Z Z Z zM (v:=jV J.To) Z) (bnK hm fun x5 h6 av=>zG 0 Z Z Z Z (zF Z Z Tryz.call124 (zA Z (zA Z (zA Z zL))) Z) ae (fun hs=>wDB J.From 0 J.To W1 U hs h6) (.inr Z) ?_)))))))
 rintro U8 L9 ay ak aw ap ⟨rfl,rfl⟩
 have ab:sW w U U8 [.blk b2 37 B0] ak:=ap
 refine oM Z Z (ifc av ?_ ?_)
 intro aa ah
 refine zT Z Z Z (zU Z Z (congrArg hJ aa.out)) (fun _=>zO Z Z ZW Z zB) (zn Z Z Z (zU Z Z (congrArg hJ aa.out)) (ab.ldB (j:=0) Z Z Z zM (v:=jV J.To) Z) Z ?_)
 have an:=aq.le aw
 refine zn Z Z Z (zU Z Z (congrArg hJ aa.out)) (ab.ldC (f:=0) an (v:=jV p1) Z Z zM Z) Z (zT Z Z Z (zU Z Z (congrArg hJ aa.out)) (fun _=>zK Z Z Z) (oR Z (zb Z (congrArg hJ aa.out) Z) (oA Z Z (eN (zR ?_)))))
 first | (obtain rfl:=nA ah) | cases ah
 exact ⟨rfl,_,(zh rfl),U8,_,(ab.pick [] _ (by decide) rfl),rfl,rfl⟩
 intro aa au
 refine ZA Z Z Z (zf Z Z (congrArg hJ (hM.2 aa.out)) Z) (ZA Z Z Z (zf Z Z (congrArg hJ (hM.2 aa.out)) Z) (ZA Z Z Z (zf Z Z (congrArg hJ (hM.2 aa.out)) Z) (ZA Z Z Z (zf Z Z (congrArg hJ (hM.2 aa.out)) Z) (oR Z (zX Z (congrArg hJ (hM.2 aa.out)) Z) (oA Z Z (eN (zR ?_)))))))
 have hE:=nA au;first | subst r | cases hE
 exact ⟨rfl,_,(zh rfl),U8,_,(ab.pick [] _ (by decide) rfl),rfl,rfl⟩
theorem wDx (J:wAE) (p1:(wAE->Option Bool)) (ag:Nat) (ac:Value) (w:World) (U:PHeap) (hS:St0 w U []) (an:Cl U ag 0 [ac]) (ao:FnOK Tryz.prog U ac wIX wIY p1) {r:Bool} (hm:wAz J p1=some r):Gv Tryz.prog 247 [.agg #[jV J.From,jV J.To,jV J.Loops.Lo,jV J.Loops.Hi],.pointer (some ⟨ag,0,none⟩)] w (wBu w [] U (fun U_ L_ v=>v=.bool r/\L_=[])):=by
 unfold wAz at hm
 refine Gv.of Tryz.func247 Z Tryz.ntmps247 Tryz.results247 Z (sR gAf Z ?_)
 let B0:List Value:=[jV J.From,jV J.To,jV J.Loops.Lo,jV J.Loops.Hi]
 refine ZG (cs:=B0) rfl rfl rfl rfl rfl rfl (by rfl) hS ?_
 intro W1 b2 ab
 refine oA Z Z (eN (sR gBc Z (oL Z (ab.ldC (f:=0) an (v:=ac) Z Z Tryz.isAgg327 Z) (oL Z (ab.ldBA (j:=0) Z Z Z Tryz.isAgg37 ya (vs:=B0) Z Z) (bnK hm fun x5 h6 ap=>Zk (a:=J) Z Z Z Z Z Z (zA Z zL) ab ao Z h6 ?_)))))
 rintro U8 L9 aw ah av ak ⟨rfl,rfl⟩
 have am:sW w U U8 [.blk b2 37 B0] ah:=ak
 refine oR Z (ZV Z Z) (oA Z Z (eN (zR ?_)))
 cases ap
 exact ⟨rfl,_,(zh rfl),U8,_,(am.pick [] _ (by decide) rfl),rfl,rfl⟩
theorem wCd (J:List wAE) (ak:Option Addr) (am:Nat) (p1:(wAE->Option Bool)) (an:Value) (w:World) (U:PHeap) (hS:St0 w U []) (aP:Sl U 4 ak am J.length (hD wBL J)) (aQ:FnOK Tryz.prog U an wIX wIY p1) {r:Int} (hm:wAm J p1=some r):Gv Tryz.prog 314 [.slice ak J.length am,an] w (wBu w [] U (fun U_ L_ v=>v=jV r/\L_=[])):=by
 unfold wAm at hm
 refine Gv.of Tryz.func314 Z Tryz.ntmps314 Tryz.results314 Z (sR fL1 Z (oA Z Z (eN (zH (sR fL3 Z (oM Z Z (oR Z (zw Z Z yK) (oM Z Z (eN (zP ?_))))))))))
 have q:=wDW hm
 obtain ⟨r3,ag⟩:=q
 have q:=wDV ag
 obtain ⟨ai,aT⟩:=q
 replace ai:=zD ai
 refine yW (fun k2 _ σ_ w_=>∃ (U_:PHeap),σ_ 8=jV (↑k2:Int)/\σ_ 0=.slice ak J.length am/\σ_ 1=an/\σ_ 7=jV (↑J.length:Int)/\PHeap.Le U U_/\sW w U U_ [] w_) aT ?_ ?_ ?_
 exact ⟨U,Z,Z,Z,Z,(zS _),hS⟩
 rintro k2 ⟨⟩ bq bu W8 ah ⟨bb,af,ap,aq,au,aj,aw⟩ az aR
 try dsimp only at az
 have ao:Hid ((↑k2:Int) < (↑J.length:Int)):=zD (wBh ah)
 replace ah:=zD ah
 have aU:Hid (w64 ((↑k2:Int) + 1)=(↑(k2 + 1):Int)):=zD (by have h1:=ai.out;have h2:=ao.out;rw [wAf] <;> omega)
 refine sR fL1 Z (oR Z (zK Z af au) (eN (zH (cT Z ao (kN (zH (zP (sR fL2 Z (oM Z af (oA Z Z (eN (sR (wCA (.fx 5 .nil .stop)) Z (oM Z aq (oM Z ap (oM Z Z (bnK az fun ab av aV=>?_))))))))))))))))
 have aI:=aP.le aj
 have q:=aI.el (fun _=>rfl) (wBW av)
 obtain ⟨bg,bk,aL,aM⟩:=q
 refine oR Z (ZS Z Z aL Z yK ya (wCw av)) (oL Z (aw.ldCA (f:=0) aM Z Z Tryz.isAgg37 ya (us:=[jV ab.From,jV ab.To,jV ab.Loops.Lo,jV ab.Loops.Hi]) Z Z) (bnK aV fun bp aJ aW=>?_))
 have aK:=aQ.le aj
 refine Zk (a:=ab) Z Z Z Z Z Z (zA Z zL) aw aK Z aJ ?_
 rintro ac ba bn aC a7 aN ⟨rfl,rfl⟩
 have ax:sW w U ac [] aC:=aN
 refine eN (ifc aW ?_ ?_)
 intro ae aX
 refine ZB (congrArg hJ ae.out) (sR fL2 Z (oM Z Z (oA Z Z (eN (zR (zq (zc ?_)))))))
 have q:=wAe aX
 obtain ⟨a8,aY,aF⟩:=q
 have q:=wDf hm ag (aR a8 aF)
 obtain rfl:=q
 refine zc (zq (zc ?_))
 cases aY
 exact ⟨Z,_,(zh Z),ac,_,ax,Z,Z⟩
 intro ae aZ
 refine ze (congrArg hJ (hM.2 ae.out)) (zo (zd (zI (rR fL2 Z (oR Z (ZE (zQ Z af Z) (congrArg (jV) aU.out)) (oM Z Z (zY ?_)))))))
 have q:=nA aZ
 obtain rfl:=q
 exact zI ⟨Z,_,Z,⟨ac,Z,ap,aq,au,(aj.trans a7),ax⟩⟩
 rintro ⟨⟩ br bc ⟨aB,aH,bh,bi,aG,bj,aO⟩ aS
 have ay:=wEB hm ag aS
 try dsimp only at ay
 have aD:Hid (¬ ((↑(((↑J.length:Int):Int) - 0).toNat:Int) < (↑J.length:Int))):=zD (wBG)
 refine sR fL1 Z (oR Z (zK Z aH aG) (eN (zH (cF Z aD (zr (zV (zV (zk (zI (sR fL1 Z (oA Z Z (eN (zR ?_)))))))))))))
 cases ay
 exact ⟨Z,_,(zh Z),aB,_,aO,Z,Z⟩
theorem wCO (J:List wAE) (ab:Option Addr) (ac:Nat) (p1:(wAE->Option Bool)) (ae:Value) (w:World) (U:PHeap) (hS:St0 w U []) (am:Sl U 4 ab ac J.length (hD wBL J)) (an:FnOK Tryz.prog U ae wIX wIY p1) {r:Bool} (hm:wAk J p1=some r):Gv Tryz.prog 246 [.slice ab J.length ac,ae] w (wBu w [] U (fun U_ L_ v=>v=.bool r/\L_=[])):=by
 unfold wAk at hm
 refine Gv.of Tryz.func246 Z Tryz.ntmps246 Tryz.results246 Z (sR fL1 Z (oA Z Z (eN (sR gBc Z (oM Z Z (oM Z Z (bnK hm fun x1 h2 ag=>zG 0 Z Z Z Z (zF Z Z Tryz.call314 (zA Z (zA Z zL)) Z) hS (fun hs=>wCd J ab ac p1 ae w U hs am an h2) (.inr Z) ?_)))))))
 rintro U4 L5 v6 W7 ap ak ⟨rfl,rfl⟩
 have aj:sW w U U4 [] W7:=ak
 refine oR Z (Runs.geq Z Z Z) (oA Z Z (eN (zR ?_)))
 first | (obtain rfl:=nA ag) | cases ag
 exact ⟨Z,_,(zh Z),U4,_,aj,Z,Z⟩
theorem wDI (p0:List wAE) (ag:Option Addr) (ah:Nat) (p1:(wAE->Option Bool)) (ae:Value) (w:World) (U:PHeap) (hS:St0 w U []) (aB:Sl U 4 ag ah p0.length (hD wBL p0)) (ak:FnOK Tryz.prog U ae wIX wIY p1) {r:Bool} (hm:wBJ p0 p1=some r):Gv Tryz.prog 199 [.slice ag p0.length ah,ae] w (wBu w [] U (fun U_ L_ v=>v=.bool r/\L_=[])):=by
 unfold wBJ at hm
 refine Gv.of Tryz.func199 Z Tryz.ntmps199 Tryz.results199 Z (sR gAf Z (ZG (cs:=[ae]) Z Z Z Z Z Z (FnOK.cells ak) hS ?_))
 intro W1 J ay
 have q:=ay.freeze (k:=0) rfl
 obtain ⟨U5,am,aa,az⟩:=q
 replace aa:=Cl.of aa
 have aA:sW w U U5 [] W1:=az
 replace aa:Cl U5 J 0 [ae]:=aa
 refine oA Z Z (eN (sR gBc Z (oM Z Z (oR Z (yF Z zL (zA Z zL)) ?_))))
 have ap:=aB.le am
 have aq:=ak.le am
 have av:FnOK Tryz.prog U5 (.func (.func 247) #[] #[.pointer (some ⟨J,0,none⟩)]) wIX wIY (fun x=>wAz x p1):=⟨247,[],[.pointer (some ⟨J,0,none⟩)],rfl,Tryz.call247,fun U1 w1 x y vs le hs ha hm=>by obtain rfl:=ha;exact wDx x p1 J ae w1 U1 hs (aa.le le) (aq.le le) hm⟩
 refine bnK hm fun aI au aC=>zG 0 Z Z Z Z (zF Z Z Tryz.call246 (zA Z (zA Z zL)) Z) aA (fun hs=>wCO p0 ag ah (fun x=>wAz x p1) (.func (.func 247) #[] #[.pointer (some ⟨J,0,none⟩)]) W1 U5 hs ap av au) (.inr Z) ?_
 rintro ai aF aH ao aG aw ⟨rfl,rfl⟩
 have ax:sW w U ai [] ao:=aw
 refine oR Z (ZV Z Z) (oA Z Z (eN (zR ?_)))
 cases aC
 exact ⟨Z,_,(zh Z),ai,_,ax,Z,Z⟩
theorem wEc (J:wAE) (w:World) (U:PHeap) (hS:St0 w U [])  {r:Bool} (hm:wBO J=some r):Gv Tryz.prog 201 [.agg #[jV J.From,jV J.To,jV J.Loops.Lo,jV J.Loops.Hi]] w (wBu w [] U (fun U_ L_ v=>v=.bool r/\L_=[])):=by
 unfold wBO at hm
 refine Gv.of Tryz.func201 Z Tryz.ntmps201 Tryz.results201 Z (sR gAf Z ?_)
 let B0:List Value:=[jV J.From,jV J.To,jV J.Loops.Lo,jV J.Loops.Hi]
 refine ZG (cs:=B0) rfl rfl rfl rfl rfl rfl (by rfl) hS ?_
 intro W1 b2 ae
 refine oA Z Z (eN (sR (wIM (.fx 6 (wLj (.nil)) .stop)) Z (oR Z (zO Z Z ZW Z Tryz.sizeOf35) (oR Z (zO Z Z Tryz.runUnderlying35 Z zB) (oL Z (ae.ldB (j:=0) Z Z Z zM (v:=jV J.Loops.Lo) Z) (oR Z (zO Z Z ZW Z Tryz.sizeOf35) (oR Z (zO Z Z Tryz.runUnderlying35 Z zB) (oL Z (ae.ldB (j:=0) Z Z Z zM (v:=jV J.Loops.Hi) Z) (bnK hm fun x5 h6 ao=>zG 0 Z Z Z Z (zF Z Z Tryz.call124 (zA Z (zA Z (zA Z zL))) Z) ae (fun hs=>wDB J.Loops.Lo 0 J.Loops.Hi W1 U hs h6) (.inr Z) ?_)))))))))
 rintro U8 L9 au ai aq am ⟨rfl,rfl⟩
 have ac:sW w U U8 [.blk b2 37 B0] ai:=am
 refine oM Z Z (ifc ao ?_ ?_)
 intro aa ag
 refine zT Z Z Z (zU Z Z (congrArg hJ aa.out)) (fun _=>zO Z Z ZW Z Tryz.sizeOf35) (zT Z Z Z (zU Z Z (congrArg hJ aa.out)) (fun _=>zO Z Z Tryz.runUnderlying35 Z zB) (zn Z Z Z (zU Z Z (congrArg hJ aa.out)) (ac.ldB (j:=0) Z Z Z zM (v:=jV J.Loops.Hi) Z) Z (zT Z Z Z (zU Z Z (congrArg hJ aa.out)) (fun _=>Runs.leq Z Z Z) (oR Z (zb Z (congrArg hJ aa.out) Z) (oA Z Z (eN (zR ?_)))))))
 first | (obtain rfl:=nA ag) | cases ag
 exact ⟨rfl,_,(zh rfl),U8,_,(ac.pick [] _ (by decide) rfl),rfl,rfl⟩
 intro aa an
 refine ZA Z Z Z (zf Z Z (congrArg hJ (hM.2 aa.out)) Z) (ZA Z Z Z (zf Z Z (congrArg hJ (hM.2 aa.out)) Z) (ZA Z Z Z (zf Z Z (congrArg hJ (hM.2 aa.out)) Z) (ZA Z Z Z (zf Z Z (congrArg hJ (hM.2 aa.out)) Z) (oR Z (zX Z (congrArg hJ (hM.2 aa.out)) Z) (oA Z Z (eN (zR ?_)))))))
 have hE:=nA an;first | subst r | cases hE
 exact ⟨rfl,_,(zh rfl),U8,_,(ac.pick [] _ (by decide) rfl),rfl,rfl⟩
theorem wFA (p0:Int) (p1:List wAE) (ah:Option Addr) (ai:Nat) (w:World) (U:PHeap) (hS:St0 w U []) (aS:Sl U 4 ah ai p1.length (hD wBL p1)) {r:Int} (hm:wBv p0 p1=some r):Gv Tryz.prog 127 [jV p0,.slice ah p1.length ai] w (wBu w [] U (fun U_ L_ v=>v=jV r/\L_=[])):=by
 unfold wBv at hm
 refine Gv.of Tryz.func127 rfl Tryz.ntmps127 Tryz.results127 rfl (sR gAf rfl (ZG (cs:=[jV p0]) rfl rfl rfl rfl rfl rfl (by rfl) hS ?_))
 intro W1 b2 aO
 have q:=aO.freeze (k:=0) rfl
 obtain ⟨U5,be,ab,aR⟩:=q
 replace ab:=Cl.of ab
 have aB:sW w U U5 [] W1:=aR
 replace ab:Cl U5 b2 0 [jV p0]:=ab
 refine oA Z Z (eN (zH (zP (sR (.fl 0 (.fx 1 (fC2_8 (.nil)) .stop)) Z (oL Z (aB.ldC (f:=0) ab (v:=jV p0) Z Z zM Z) (bnK hm fun bp aF aT=>zG 0 Z Z Z Z (zF Z Z Tryz.call124 (zA Z (zA Z (zA Z zL))) Z) aB (fun hs=>wDB p0 1 8 W1 U5 hs aF) (.inr Z) ?_))))))
 rintro ae bg bk aw aC aN ⟨rfl,rfl⟩
 have aq:sW w U ae [] aw:=aN
 refine oR Z (ZV Z Z) (oM Z Z (ifc aT ?_ ?_))
 intro J aU
 refine zC Z Z Z (zU Z Z (nC J.out)) Z Z (zT Z Z Z (zU Z Z (nC J.out)) (fun _=>zw Z Z yK) (zT Z Z Z (zU Z Z (nC J.out)) (fun _=>Zy Z Z Z) (oR Z (zX Z (nC J.out) Z) (oA Z Z (eN (ifc aU ?_ ?_))))))
 intro an aV
 refine cT Z an (sR fL1 Z (oA Z Z (eN (zR (zq (zc ?_))))))
 cases aV
 exact ⟨Z,_,(zh Z),ae,_,aq,Z,Z⟩
 intro an aW
 refine cF Z an (sR gBc Z (oM Z Z (oR Z (yF Z zL (zA Z zL)) ?_)))
 have aG:=aS.le be
 have ay:=aG.le aC
 have aH:=ab.le aC
 have aL:FnOK Tryz.prog ae (.func (.func 200) #[] #[.pointer (some ⟨b2,0,none⟩)]) wIX wIY (fun x=>wBN x p0):=⟨200,[],[.pointer (some ⟨b2,0,none⟩)],rfl,Tryz.call200,fun U1 w1 x y vs le hs ha hm=>by obtain rfl:=ha;exact wEb x p0 b2 w1 U1 hs (aH.le le) hm⟩
 refine bnK aW fun bq aI aX=>zG 0 Z Z Z Z (zF Z Z Tryz.call199 (zA Z (zA Z zL)) Z) aq (fun hs=>wDI p1 ah ai (fun x=>wBN x p0) (.func (.func 200) #[] #[.pointer (some ⟨b2,0,none⟩)]) aw ae hs ay aL aI) (.inr Z) ?_
 rintro ag bh bm ax bc aP ⟨rfl,rfl⟩
 have az:sW w U ag [] ax:=aP
 refine oR Z (ZV Z Z) (oA Z Z (eN (ifc aX ?_ ?_)))
 intro ao aY
 refine ze (nC ao.out) (sR gBa Z (oM Z Z ?_))
 have aJ:=ay.le bc
 have aM:FnOK Tryz.prog ag (.func (.func 201) #[] #[]) wIX wIY wBO:=⟨201,[],[],rfl,Tryz.call201,fun U1 w1 x y vs le hs ha hm=>by obtain rfl:=ha;exact wEc x w1 U1 hs  hm⟩
 refine bnK aY fun br aK aZ=>zG 0 Z Z Z Z (zF Z Z Tryz.call199 (zA Z (zA Z zL)) Z) az (fun hs=>wDI p1 ah ai wBO (.func (.func 201) #[] #[]) ax ag hs aJ aM aK) (.inr Z) ?_
 rintro ak bi bn aD bj aQ ⟨rfl,rfl⟩
 have aA:sW w U ak [] aD:=aQ
 refine oR Z (ZV Z Z) (oA Z Z (eN (ifc aZ ?_ ?_)))
 intro ap a7
 refine ze (nC ap.out) (zo (zd (zI (sR fL1 Z (oA Z Z (eN (zR ?_)))))))
 cases a7
 exact ⟨Z,_,(zh Z),ak,_,aA,Z,Z⟩
 intro ap a8
 refine ZB (nF (ap.out)) (sR fL1 Z (oA Z Z (eN (zR (zq (zc ?_))))))
 cases a8
 exact ⟨Z,_,(zh Z),ak,_,aA,Z,Z⟩
 intro ao ba
 refine ZB (nF (ao.out)) (sR fL1 Z (oA Z Z (eN (zR (zq (zc ?_))))))
 cases ba
 exact ⟨Z,_,(zh Z),ag,_,az,Z,Z⟩
 intro J bb
 refine ZA Z Z Z (zf Z Z (nF (J.out)) Z) (ZA Z Z Z (zf Z Z (nF (J.out)) Z) (ZA Z Z Z (zf Z Z (nF (J.out)) Z) (oR Z (zb Z (nF (J.out)) Z) (oA Z Z (eN (ZB Z (sR fL1 Z (oA Z Z (eN (zR (zq (zc ?_))))))))))))
 cases bb
 exact ⟨Z,_,(zh Z),ae,_,aq,Z,Z⟩
theorem wHu (J:List Int) (ag:Option Addr) (ai:Nat) (p1:List wAE) (ah:Option Addr) (aj:Nat) (w:World) (U:PHeap) (hS:St0 w U []) (aI:Sl U 1 ag ai J.length (hD KL.encI J)) (aJ:Sl U 4 ah aj p1.length (hD wBL p1)) {r:Int} (hm:wDo J p1=some r):Gv Tryz.prog 75 [.slice ag J.length ai,.slice ah p1.length aj] w (wBu w [] U (fun U_ L_ v=>v=jV r/\L_=[])):=by
 unfold wDo at hm
 refine Gv.of Tryz.func75 Z Tryz.ntmps75 Tryz.results75 Z (sR fL1 Z (oA Z Z (eN (zH (zP (sR gBc Z (oM Z Z (oR Z (zw Z Z zN) (bnK hm fun x1 h2 aN=>zG 0 Z Z Z Z (zF Z Z Tryz.call124 (zA Z (zA Z (zA Z zL))) Z) hS (fun hs=>wDB (↑J.length:Int) 1 8 w U hs h2) (.inr Z) ?_)))))))))
 rintro U4 L5 v6 W7 aq aH ⟨rfl,rfl⟩
 have ao:sW w U U4 [] W7:=aH
 refine oR Z (ZV Z Z) (oA Z Z (eN (ifc aN ?_ ?_)))
 intro ae aK
 refine ze (nC ae.out) (sR gBa Z (oM Z Z ?_))
 have aw:=aI.le aq
 have aC:FnOK Tryz.prog U4 (.func (.func 126) #[] #[]) wMR wMS wCm:=⟨126,[],[],rfl,Tryz.call126,fun U1 w1 x y vs le hs ha hm=>by obtain rfl:=ha;exact wGp x w1 U1 hs  hm⟩
 refine bnK aK fun a8 ax aL=>zG 0 Z Z Z Z (zF Z Z Tryz.call125 (zA Z (zA Z zL)) Z) ao (fun hs=>wGF J ag ai wCm (.func (.func 126) #[] #[]) W7 U4 hs aw aC ax) (.inr Z) ?_
 rintro ac aT aX am aR aD ⟨rfl,rfl⟩
 have ap:sW w U ac [] am:=aD
 refine oR Z (ZV Z Z) (oA Z Z (eN (ifc aL ?_ ?_)))
 intro af aM
 refine ze (nC af.out) (zo (zd (zI (sR (wFi gAh) Z (oM Z Z (oR Z (zw Z Z zN) (oM Z Z ?_)))))))
 have az:=aJ.le aq
 have aA:=az.le aR
 refine bnK aM fun ba aB aO=>zG 0 Z Z Z Z (zF Z Z Tryz.call127 (zA Z (zA Z zL)) Z) ap (fun hs=>wFA (↑J.length:Int) p1 ah aj am ac hs aA aB) (.inr Z) ?_
 rintro ak aU aY av aW aF ⟨rfl,rfl⟩
 have aG:sW w U ak [] av:=aF
 refine oA Z Z (eN (zR ?_))
 have hE:=nA aO;first | subst r | cases hE
 exact ⟨Z,_,(zh Z),ak,_,aG,Z,Z⟩
 intro af aP
 refine ZB (nF (af.out)) (sR fL1 Z (oA Z Z (eN (zR (zq (zc ?_))))))
 cases aP
 exact ⟨Z,_,(zh Z),ac,_,ap,Z,Z⟩
 intro ae aQ
 refine ZB (nF (ae.out)) (sR fL1 Z (oA Z Z (eN (zR (zq (zc ?_))))))
 cases aQ
 exact ⟨Z,_,(zh Z),U4,_,ao,Z,Z⟩
end Go.Proofs.YtlmekamhphnmjaaGreat
namespace Go.Proofs.YtlmekamhphnmjaaGreat
open Go.KL
set_option maxHeartbeats 4000000
theorem wFa (J:Int) (aa:Nat) (w:World) (U:PHeap) (hS:St0 w U []) (ab:Cl U aa 0 [jV J]) {r:Int} (hm:wCr J=some r):Gv Tryz.prog 129 [.pointer (some ⟨aa,0,none⟩)] w (wBu w [] U (fun U_ L_ v=>v=jV r/\L_=[])):=by
 unfold wCr at hm
 refine Gv.of Tryz.func129 Z Tryz.ntmps129 Tryz.results129 Z (sR fL1 Z (oA Z Z (eN (sR fL2 Z (oL Z (hS.ldC (f:=0) ab (v:=jV J) Z Z zM Z) (oA Z Z (eN (zR ?_))))))))
 have hE:=nA hm;first | subst r | cases hE
 exact ⟨Z,_,(zh Z),U,_,hS,Z,Z⟩
theorem wCk (J:Int) (w:World) (U:PHeap) (hS:St0 w U [])  {r:(Unit->Option Int)} (hm:wAw J=some r):Gv Tryz.prog 128 [jV J] w (wBu w [] U (fun U_ L_ v=>True/\L_=[]/\FnOK Tryz.prog U_ v wLo wLp r)):=by
 unfold wAw at hm
 refine Gv.of Tryz.func128 rfl Tryz.ntmps128 Tryz.results128 rfl (sR gAf rfl (ZG (cs:=[jV J]) rfl rfl rfl rfl rfl rfl (by rfl) hS ?_))
 intro W1 b2 ah
 have q:=ah.freeze (k:=0) rfl
 obtain ⟨U5,am,aa,ai⟩:=q
 replace aa:=Cl.of aa
 have aj:sW w U U5 [] W1:=ai
 replace aa:Cl U5 b2 0 [jV J]:=aa
 refine oA Z Z (eN (sR fL2 Z (oR Z (yF Z zL (zA Z zL)) (oA Z Z (eN (zR ?_))))))
 have ag:FnOK Tryz.prog U5 (.func (.func 129) #[] #[.pointer (some ⟨b2,0,none⟩)]) wLo wLp (fun _=>wCr J):=⟨129,[],[.pointer (some ⟨b2,0,none⟩)],rfl,Tryz.call129,fun U1 w1 x y vs le hs ha hm=>by obtain rfl:=ha;exact wFa J b2 w1 U1 hs (aa.le le) hm⟩
 cases hm
 exact ⟨Z,_,(zh Z),U5,_,aj,trivial,Z,ag⟩
theorem wGq (p0:Int) (p1:List wAE) (bz:Option Addr) (bA:Nat) (p2:List Int) (av:Option Addr) (aw:Nat) (w:World) (U:PHeap) (hS:St0 w U []) (fz:Sl U 4 bz bA p1.length (hD wBL p1)) (fA:Sl U 1 av aw p2.length (hD KL.encI p2)) {r:(List wAL)} (hm:wDH p0 p1 p2=some r):Gv Tryz.prog 77 [jV p0,.slice bz p1.length bA,.slice av p2.length aw] w (wBu w [] U (fun U_ L_ v=>∃ (A0:Option Addr) (c0:Nat) (cj:List Value),v=.slice A0 r.length c0/\L_=[.row A0 c0 265 5 cj]/\RlL U_ wEj r cj)):=by
 unfold wDH at hm
 refine Gv.of Tryz.func77 Z Tryz.ntmps77 Tryz.results77 Z (sR fL1 Z (oA Z Z (eN (sR fL1 Z (oA Z Z (eN (sR fL1 Z (oA Z Z (eN (zH (sR fL3 Z (oM Z Z (oR Z (zw Z Z yK) (oM Z Z (eN (zP (bnK hm fun gS fJ fT=>?_)))))))))))))))))
 have q:=wBY fJ
 obtain ⟨br,fK⟩:=q
 replace br:=zD br
 refine CK.forN' (fun ac aU σ_ w_=>∃ (U_:PHeap) (ay:Option Addr) (aB:Nat) (aI:List Value),σ_ 16=jV (↑ac:Int)/\σ_ 0=jV p0/\σ_ 2=.slice av p2.length aw/\σ_ 7=.func (.func 128) #[] #[]/\σ_ 8=.slice ay aU.length aB/\σ_ 14=.slice bz p1.length bA/\σ_ 15=jV (↑p1.length:Int)/\PHeap.Le U U_/\sW w U U_ [.row ay aB 265 5 aI] w_/\RlL U_ wEj aU aI) fK ?_ ?_ ?_
 have e9:=hS.nilrow 265 5
 exact ⟨U,none,0,[],Z,Z,Z,Z,Z,Z,Z,(zS _),e9,RlL.nil⟩
 rintro ac aU gP gY gv bp ⟨bY,ay,aB,aI,aK,dU,dV,bg,dW,cu,cw,cR,cJ,eH⟩ gc
 have ci:Hid ((↑ac:Int) < (↑p1.length:Int)):=zD (wBh bp)
 replace bp:=zD bp
 have fN:Hid (w64 ((↑ac:Int) + 1)=(↑(ac + 1):Int)):=zD (by have h1:=br.out;have h2:=ci.out;rw [wAf] <;> omega)
 refine sR fL1 Z (oR Z (zK Z aK cw) (eN (zH (cT Z ci (kN (zH (zP (sR (wFi (.fx 3 (.fl 4 (.fx 5 .nil .stop)) .stop)) Z (oM Z aK (bnK gc fun aa cB fZ=>?_))))))))))
 have eI:=fz.le cR
 have q:=eI.el (fun _=>rfl) (wBW cB)
 obtain ⟨gB,gH,eM,eP⟩:=q
 refine oR Z (ZS Z cu eM aK yK ya (wCw cB)) (oL Z (cJ.ldCA (f:=0) eP Z Z Tryz.isAgg37 ya (us:=[jV aa.From,jV aa.To,jV aa.Loops.Lo,jV aa.Loops.Hi]) Z Z) (ZI (cs:=[jV 0,jV 0,jV 0,jV 0]) Z Z Z Z Z Tryz.zeroValue37 Z cJ ?_))
 intro gz ap fj
 refine oA Z Z ?_
 let B0:List Value:=[jV aa.From,jV aa.To,jV aa.Loops.Lo,jV aa.Loops.Hi]
 refine ZN (j:=0) (vs:=B0) Z Z Z Z fj Z Z Z Z ya (zJ Z) Z Z Z ?_
 intro bb fk
 let B1:Res:=.row ay aB 265 5 aI
 have fm:sW w U bY [.blk ap 37 B0,B1] bb:=fk
 refine eN (zx zp [3,3,3,3,1,3,1,3,3,3,3,1,2,3,3,3,3,1,3,3,1,3,3,3,1,3,2,3,2,0,3] (wNM (wMO (.fx 12 (.fl 13 (.fx 26 (.fl 27 (.fx 28 (.fx 29 (.fl 30 .nil) .stop) .stop)) .stop)) .stop))) (by kernel_rfl) ?_)
 have ag:=fm.drew
 generalize hw_W65:({ bb with drawn:=bb.drawn + 1 }:World)=dq at ag ⊢
 refine oM Z dW (oM Z Z ?_)
 let B2:List Value:=[jV 0,jV (↑ac:Int)]
 refine oR Z (ZD (pv:=[(0,jV 0),(1,jV (↑ac:Int))]) (z:=[jV 0,jV 0]) (cs:=B2) Z (wAI Z (wAI Z wAd)) Tryz.zeroValue263 wEk Z Z) (oR Z (zO Z Z ZW Z zB) (oL Z (ag.ldB (j:=0) Z Z Z zM (v:=jV aa.From) Z) (oR Z (zO Z Z ZW Z zB) (oL Z (ag.ldB (j:=0) Z Z Z zM (v:=jV aa.To) Z) (oR Z (zQ Z Z Z) (oM Z bg (oR Z (zO Z Z ZW Z Tryz.sizeOf35) (oR Z (zO Z Z Tryz.runUnderlying35 Z zB) (oL Z (ag.ldB (j:=0) Z Z Z zM (v:=jV aa.Loops.Hi) Z) (oM Z Z ?_))))))))))
 let B3:List Value:=[jV 1,jV (↑ac:Int)]
 refine oR Z (ZD (pv:=[(0,jV 1),(1,jV (↑ac:Int))]) (z:=[jV 0,jV 0]) (cs:=B3) Z (wAI Z (wAI Z wAd)) Tryz.zeroValue263 wEk Z Z) (oR Z (zO Z Z ZW Z zB) (oL Z (ag.ldB (j:=0) Z Z Z zM (v:=jV aa.To) Z) (oR Z (zQ Z Z Z) (oR Z (zO Z Z ZW Z zB) (oL Z (ag.ldB (j:=0) Z Z Z zM (v:=jV aa.From) Z) (oM Z bg (oR Z (zO Z Z ZW Z Tryz.sizeOf35) (oR Z (zO Z Z Tryz.runUnderlying35 Z zB) (oL Z (ag.ldB (j:=0) Z Z Z zM (v:=jV aa.Loops.Lo) Z) (oR Z (Runs.negw Z Z) (bnK fZ fun bE eJ f4=>zG 0 Z Z Z Z (zF Z Z Tryz.call128 (zA Z zL) Z) ag (fun hs=>wCk aa.Loops.Hi dq bY hs eJ) (.inr Z) ?_)))))))))))
 rintro bZ gq gL b8 cS fq ⟨_,rfl,cC⟩
 have ft:sW w U bZ [.blk ap 37 B0,B1] b8:=fq
 have q:=id cC
 obtain ⟨aN,aR,aF,fE,_⟩:=q
 subst fE
 let B4:List Value:=[jV 0,jV (↑ac:Int),jV aa.From,jV (w64 (aa.To + 1)),(.func (.func aN) (nB aR) (nB aF))]
 let B5:List Value:=[jV 0,jV 0,jV 0,jV 0,.nilFunc]
 refine oR Z (ZD (pv:=[(0,.agg B2.toArray),(1,jV aa.From),(2,jV (w64 (aa.To + 1))),(3,(.func (.func aN) (nB aR) (nB aF)))]) (z:=B5) (cs:=B4) Z (wAI Z (wAI Z (wAI Z (wAI Z wAd)))) Zv wEl Z Z) (bnK f4 fun bF eK f5=>zG 0 Z Z Z Z (zF Z Z Tryz.call128 (zA Z zL) Z) ft (fun hs=>wCk (w64 (-aa.Loops.Lo)) b8 bZ hs eK) (.inr Z) ?_)
 rintro ao gr gM dr bx fu ⟨_,rfl,cD⟩
 have fw:sW w U ao [.blk ap 37 B0,B1] dr:=fu
 have q:=id cD
 obtain ⟨aO,aS,aG,fG,_⟩:=q
 subst fG
 let B6:List Value:=[jV 1,jV (↑ac:Int),jV (w64 (aa.To + 1)),jV aa.From,(.func (.func aO) (nB aS) (nB aG))]
 refine oR Z (ZD (pv:=[(0,.agg B3.toArray),(1,jV (w64 (aa.To + 1))),(2,jV aa.From),(3,(.func (.func aO) (nB aS) (nB aG)))]) (z:=B5) (cs:=B6) Z (wAI Z (wAI Z (wAI Z (wAI Z wAd)))) Zv wEl Z Z) ?_
 let B7:List Value:=[jV 0,jV (↑ac:Int),jV aa.From,jV (w64 (aa.To + 1)),(.func (.func aN) (nB aR) (nB aF)),jV 1,jV (↑ac:Int),jV (w64 (aa.To + 1)),jV aa.From,(.func (.func aO) (nB aS) (nB aG))]
 refine ZM (pv:=[(0,.agg B4.toArray),(1,.agg B6.toArray)]) (zs:=[jV 0,jV 0,jV 0,jV 0,.nilFunc,jV 0,jV 0,jV 0,jV 0,.nilFunc]) (cs:=B7) Z Z Z Z Z (wAI Z (wAI Z wAd)) yS Tryz.sizeOf265 Zv Z Z Z Z Z fw ?_
 intro dt dw fy
 have d7:=cC.le bx
 have cL:RlL ao wEj [(⟨(⟨0,(↑ac:Int)⟩:wAZ),aa.From,w64 (aa.To + 1),bE⟩:wAL),(⟨(⟨1,(↑ac:Int)⟩:wAZ),w64 (aa.To + 1),aa.From,bF⟩:wAL)] B7:=(RlL.cons (R:=wEj) (x:=(⟨(⟨0,(↑ac:Int)⟩:wAZ),aa.From,w64 (aa.To + 1),bE⟩:wAL)) (vs:=B4) ⟨(.func (.func aN) (nB aR) (nB aF)),rfl,d7⟩ (RlL.cons (R:=wEj) (x:=(⟨(⟨1,(↑ac:Int)⟩:wAZ),w64 (aa.To + 1),aa.From,bF⟩:wAL)) (vs:=B6) ⟨(.func (.func aO) (nB aS) (nB aG)),rfl,cD⟩ RlL.nil))
 let B8:Res:=.row (some ⟨dw,0,none⟩) 2 265 5 B7
 have cE:sW w U ao [B8,.blk ap 37 B0,B1] dt:=fy
 refine bnK f5 fun gh d8 fO=>?_
 have d9:=eH.le cS
 have ec:=d9.le bx
 refine OKS.appendR (R:=wEj) (j:=2) (xs:=aU) (ys:=[(⟨(⟨0,(↑ac:Int)⟩:wAZ),aa.From,w64 (aa.To + 1),bE⟩:wAL),(⟨(⟨1,(↑ac:Int)⟩:wAZ),w64 (aa.To + 1),aa.From,bF⟩:wAL)]) (zs:=gh) rfl rfl rfl rfl rfl Tryz.underlying203 wIc rfl rfl rfl rfl rfl rfl rfl cE rfl rfl rfl ec cL (cE.srcR (j:=0) rfl (by decide) (RlL.len cL)) d8 rfl ?_
 intro bH ca cm c8 eQ f7
 have eR:sW w U ao [B8,.blk ap 37 B0,.row bH ca 265 5 cm] c8:=eQ
 refine oA Z Z (zY (zd (zI (rR fL2 Z (oR Z (ZE (zQ Z aK Z) (congrArg (jV) fN.out)) (oM Z Z (zY ?_)))))))
 cases fO
 exact zI ⟨rfl,⟨ao,bH,ca,cm,rfl,dU,dV,bg,rfl,cu,cw,((cR.trans cS).trans bx),(eR.pick [2] _ (by decide) rfl),f7⟩⟩
 rintro gU gt ⟨bV,cV,dx,dy,dX,dG,dH,dI,dJ,gC,dK,ge,eS,ed⟩
 have dz:Hid (¬ ((↑(((↑p1.length:Int):Int) - 0).toNat:Int) < (↑p1.length:Int))):=zD (wBG)
 refine sR fL1 Z (oR Z (zK Z dX dK) (eN (zH (cF Z dz (zr (zV (zV (zk (zI (zH (sR fL2 Z (oM Z dG (oM Z Z (eN (zP (bnK fT fun gR fH fP=>?_))))))))))))))))
 have q:=wBY fH
 obtain ⟨bq,fI⟩:=q
 replace bq:=zD bq
 refine CK.forN' (fun J aT σ_ w_=>∃ (U_:PHeap) (ax:Option Addr) (aA:Nat) (aH:List Value),σ_ 53=jV (↑J:Int)/\σ_ 2=.slice av p2.length aw/\σ_ 7=.func (.func 128) #[] #[]/\σ_ 8=.slice ax aT.length aA/\σ_ 52=jV p0/\PHeap.Le bV U_/\sW w U U_ [.row ax aA 265 5 aH] w_/\RlL U_ wEj aT aH) fI ?_ ?_ ?_
 exact ⟨bV,cV,dx,dy,Z,dH,dI,dJ,Z,(zS _),eS,ed⟩
 rintro J aT gN gV dd bm ⟨cY,ax,aA,aH,bh,dL,be,dM,cp,gf,eT,ee⟩ ga
 have cc:Hid ((↑J:Int) < p0):=zD (wBh bm)
 replace bm:=zD bm
 have bk:Hid (w64 ((↑J:Int) + 1)=(↑(J + 1):Int)):=zD (by have h1:=bq.out;have h2:=cc.out;rw [wAf] <;> omega)
 refine sR fL1 Z (oR Z (zK Z bh cp) (eN (zH (cT Z cc (kN (zH (zP (sR fL2 Z (oM Z bh (oA Z Z (eN (rR (wHc (.fx 7 (wNY (.fx 15 (.fl 16 (.fx 17 (.fx 18 (.fl 19 .nil) .stop) .stop)) .stop)) .stop)) Z (oM Z dM (oM Z Z ?_))))))))))))))
 let B9:List Value:=[jV 2,jV (↑J:Int)]
 refine oR Z (ZD (pv:=[(0,jV 2),(1,jV (↑J:Int))]) (z:=[jV 0,jV 0]) (cs:=B9) Z (wAI Z (wAI Z wAd)) Tryz.zeroValue263 wEk Z Z) (oM Z Z (oM Z Z (oR Z (ZE (zQ Z Z Z) (congrArg (jV) bk.out)) (oM Z be (bnK ga fun bB eh fQ=>zG 0 Z Z Z Z (zF Z Z Tryz.call128 (zA Z zL) Z) eT (fun hs=>wCk 9 dd cY hs eh) (.inr Z) ?_)))))
 rintro bW gk gI b4 cO eU ⟨_,rfl,cx⟩
 let aW:Res:=.row ax aA 265 5 aH
 have eV:sW w U bW [aW] b4:=eU
 have q:=id cx
 obtain ⟨aL,aP,aC,fB,_⟩:=q
 subst fB
 let aX:List Value:=[jV 2,jV (↑J:Int),jV (↑J:Int),jV (↑(J + 1):Int),(.func (.func aL) (nB aP) (nB aC))]
 let bK:List Value:=[jV 0,jV 0,jV 0,jV 0,.nilFunc]
 refine oR Z (ZD (pv:=[(0,.agg B9.toArray),(1,jV (↑J:Int)),(2,jV (↑(J + 1):Int)),(3,(.func (.func aL) (nB aP) (nB aC)))]) (z:=bK) (cs:=aX) Z (wAI Z (wAI Z (wAI Z (wAI Z wAd)))) Zv wEl Z Z) (oM Z Z ?_)
 let bL:List Value:=[jV 3,jV (↑J:Int)]
 refine oR Z (ZD (pv:=[(0,jV 3),(1,jV (↑J:Int))]) (z:=[jV 0,jV 0]) (cs:=bL) Z (wAI Z (wAI Z wAd)) Tryz.zeroValue263 wEk Z Z) (oM Z Z (oR Z (ZE (zQ Z Z Z) (congrArg (jV) bk.out)) (oM Z Z (oM Z be (bnK fQ fun bC ei fR=>zG 0 Z Z Z Z (zF Z Z Tryz.call128 (zA Z zL) Z) eV (fun hs=>wCk 0 b4 bW hs ei) (.inr Z) ?_)))))
 rintro am gl gJ de bw eW ⟨_,rfl,cy⟩
 have eX:sW w U am [aW] de:=eW
 have q:=id cy
 obtain ⟨aM,aQ,aD,fC,_⟩:=q
 subst fC
 let aY:List Value:=[jV 3,jV (↑J:Int),jV (↑(J + 1):Int),jV (↑J:Int),(.func (.func aM) (nB aQ) (nB aD))]
 refine oR Z (ZD (pv:=[(0,.agg bL.toArray),(1,jV (↑(J + 1):Int)),(2,jV (↑J:Int)),(3,(.func (.func aM) (nB aQ) (nB aD)))]) (z:=bK) (cs:=aY) Z (wAI Z (wAI Z (wAI Z (wAI Z wAd)))) Zv wEl Z Z) ?_
 let aZ:List Value:=[jV 2,jV (↑J:Int),jV (↑J:Int),jV (↑(J + 1):Int),(.func (.func aL) (nB aP) (nB aC)),jV 3,jV (↑J:Int),jV (↑(J + 1):Int),jV (↑J:Int),(.func (.func aM) (nB aQ) (nB aD))]
 refine ZM (pv:=[(0,.agg aX.toArray),(1,.agg aY.toArray)]) (zs:=[jV 0,jV 0,jV 0,jV 0,.nilFunc,jV 0,jV 0,jV 0,jV 0,.nilFunc]) (cs:=aZ) Z Z Z Z Z (wAI Z (wAI Z wAd)) yS Tryz.sizeOf265 Zv Z Z Z Z Z eX ?_
 intro df du eY
 have ej:=cx.le bw
 have cM:RlL am wEj [(⟨(⟨2,(↑J:Int)⟩:wAZ),(↑J:Int),(↑(J + 1):Int),bB⟩:wAL),(⟨(⟨3,(↑J:Int)⟩:wAZ),(↑(J + 1):Int),(↑J:Int),bC⟩:wAL)] aZ:=(RlL.cons (R:=wEj) (x:=(⟨(⟨2,(↑J:Int)⟩:wAZ),(↑J:Int),(↑(J + 1):Int),bB⟩:wAL)) (vs:=aX) ⟨(.func (.func aL) (nB aP) (nB aC)),rfl,ej⟩ (RlL.cons (R:=wEj) (x:=(⟨(⟨3,(↑J:Int)⟩:wAZ),(↑(J + 1):Int),(↑J:Int),bC⟩:wAL)) (vs:=aY) ⟨(.func (.func aM) (nB aQ) (nB aD)),rfl,cy⟩ RlL.nil))
 let bM:Res:=.row (some ⟨du,0,none⟩) 2 265 5 aZ
 have cG:sW w U am [bM,aW] df:=eY
 refine bnK fR fun gi ek fS=>?_
 have en:=ee.le cO
 have eo:=en.le bw
 refine OKS.appendR (R:=wEj) (j:=1) (xs:=aT) (ys:=[(⟨(⟨2,(↑J:Int)⟩:wAZ),(↑J:Int),(↑(J + 1):Int),bB⟩:wAL),(⟨(⟨3,(↑J:Int)⟩:wAZ),(↑(J + 1):Int),(↑J:Int),bC⟩:wAL)]) (zs:=gi) rfl rfl rfl rfl rfl Tryz.underlying203 wIc rfl rfl rfl rfl rfl rfl rfl cG rfl rfl rfl eo cM (cG.srcR (j:=0) rfl (by decide) (RlL.len cM)) ek rfl ?_
 intro bI cd cn dh eZ f8
 have e7:sW w U am [bM,.row bI cd 265 5 cn] dh:=eZ
 refine oA Z Z (zY (zd (zI (rR fL2 Z (oR Z (ZE (zQ Z bh Z) (congrArg (jV) bk.out)) (oM Z Z (zY ?_)))))))
 cases fS
 exact zI ⟨rfl,⟨am,bI,cd,cn,rfl,dL,be,rfl,cp,((gf.trans cO).trans bw),(e7.pick [1] _ (by decide) rfl),f8⟩⟩
 rintro gW gu ⟨bX,cW,dA,dB,dY,dN,dO,dP,dQ,gg,e8,eu⟩
 have dC:Hid (¬ ((↑((p0:Int) - 0).toNat:Int) < p0)):=zD (wBG)
 refine sR fL1 Z (oR Z (zK Z dY dQ) (eN (zH (cF Z dC (zr (zV (zV (zk (zI (zH (sR fL3 Z (oM Z dN (oR Z (zw Z Z zN) (oM Z Z (eN (zP (bnK fP fun gT fL fU=>?_)))))))))))))))))
 have q:=wBY fL
 obtain ⟨bu,fM⟩:=q
 replace bu:=zD bu
 refine CK.forN' (fun ab aV σ_ w_=>∃ (U_:PHeap) (ak:Option Addr) (aq:Nat) (au:List Value),σ_ 78=jV (↑ab:Int)/\σ_ 7=.func (.func 128) #[] #[]/\σ_ 8=.slice ak aV.length aq/\σ_ 76=.slice av p2.length aw/\σ_ 77=jV (↑p2.length:Int)/\PHeap.Le bX U_/\sW w U U_ [.row ak aq 265 5 au] w_/\RlL U_ wEj aV au) fM ?_ ?_ ?_
 exact ⟨bX,cW,dA,dB,Z,dO,dP,Z,Z,(zS _),e8,eu⟩
 rintro ab aV gO gX di bn ⟨cZ,ak,aq,au,aJ,cq,dR,cr,ct,cP,cH,ez⟩ gb
 have cg:Hid ((↑ab:Int) < (↑p2.length:Int)):=zD (wBh bn)
 replace bn:=zD bn
 have cK:Hid (w64 ((↑ab:Int) + 1)=(↑(ab + 1):Int)):=zD (by have h1:=bu.out;have h2:=cg.out;rw [wAf] <;> omega)
 refine sR fL1 Z (oR Z (zK Z aJ ct) (eN (zH (cT Z cg (kN (zH (zP (sR fL5 Z (oM Z aJ (bnK gb fun cU cz fV=>?_))))))))))
 have eA:=fA.le ge
 have eB:=eA.le gg
 have eC:=eB.le cP
 have q:=eC.el (fun _=>rfl) (wBW cz)
 obtain ⟨gA,gG,eL,eO⟩:=q
 refine oR Z (ZS Z cr eL aJ zN zB (wCw cz)) (oL Z (cH.ldC (f:=0) eO (v:=jV cU) Z Z zM Z) (oA Z Z (oA Z Z (eN (rR (wKc (.fx 9 (.fl 10 gAp) .stop)) Z (oM Z dR (oM Z Z ?_)))))))
 let bN:List Value:=[jV 4,jV (↑ab:Int)]
 refine oR Z (ZD (pv:=[(0,jV 4),(1,jV (↑ab:Int))]) (z:=[jV 0,jV 0]) (cs:=bN) Z (wAI Z (wAI Z wAd)) Tryz.zeroValue263 wEk Z Z) (oM Z Z (oR Z (ZE (zQ Z Z Z) (congrArg (jV) cK.out)) (oM Z Z (oM Z cq (oM Z Z (oR Z (Runs.negw Z Z) (bnK fV fun bD eD fW=>zG 0 Z Z Z Z (zF Z Z Tryz.call128 (zA Z zL) Z) cH (fun hs=>wCk (w64 (-cU)) di cZ hs eD) (.inr Z) ?_)))))))
 rintro an gm gK dm cQ fb ⟨_,rfl,cA⟩
 have fc:sW w U an [.row ak aq 265 5 au] dm:=fb
 have q:=id cA
 obtain ⟨bi,bj,bc,fD,_⟩:=q
 subst fD
 let aj:List Value:=[jV 4,jV (↑ab:Int),jV (↑(ab + 1):Int),jV (↑ab:Int),(.func (.func bi) (nB bj) (nB bc))]
 let bO:List Value:=[jV 0,jV 0,jV 0,jV 0,.nilFunc]
 refine oR Z (ZD (pv:=[(0,.agg bN.toArray),(1,jV (↑(ab + 1):Int)),(2,jV (↑ab:Int)),(3,(.func (.func bi) (nB bj) (nB bc)))]) (z:=bO) (cs:=aj) Z (wAI Z (wAI Z (wAI Z (wAI Z wAd)))) Zv wEl Z Z) (ZM (pv:=[(0,.agg aj.toArray)]) (zs:=bO) (cs:=aj) Z Z Z Z Z (wAI Z wAd) yS Tryz.sizeOf265 Zv Z Z Z Z Z fc ?_)
 intro dn dv fd
 have cN:RlL an wEj [(⟨(⟨4,(↑ab:Int)⟩:wAZ),(↑(ab + 1):Int),(↑ab:Int),bD⟩:wAL)] aj:=(RlL.cons (R:=wEj) (x:=(⟨(⟨4,(↑ab:Int)⟩:wAZ),(↑(ab + 1):Int),(↑ab:Int),bD⟩:wAL)) (vs:=aj) ⟨(.func (.func bi) (nB bj) (nB bc)),rfl,cA⟩ RlL.nil)
 let bQ:Res:=.row (some ⟨dv,0,none⟩) 1 265 5 aj
 have cI:sW w U an [bQ,.row ak aq 265 5 au] dn:=fd
 refine bnK fW fun gj eE fY=>?_
 have eF:=ez.le cQ
 refine OKS.appendR (R:=wEj) (j:=1) (xs:=aV) (ys:=[(⟨(⟨4,(↑ab:Int)⟩:wAZ),(↑(ab + 1):Int),(↑ab:Int),bD⟩:wAL)]) (zs:=gj) rfl rfl rfl rfl rfl Tryz.underlying203 wIc rfl rfl rfl rfl rfl rfl rfl cI rfl rfl rfl eF cN (cI.srcR (j:=0) rfl (by decide) (RlL.len cN)) eE rfl ?_
 intro bJ ch co dp ff f9
 have fg:sW w U an [bQ,.row bJ ch 265 5 co] dp:=ff
 refine oA Z Z (zY (zd (zI (rR fL2 Z (oR Z (ZE (zQ Z aJ Z) (congrArg (jV) cK.out)) (oM Z Z (zY ?_)))))))
 cases fY
 exact zI ⟨rfl,⟨an,bJ,ch,co,rfl,cq,rfl,cr,ct,(cP.trans cQ),(fg.pick [1] _ (by decide) rfl),f9⟩⟩
 rintro gZ gw ⟨c7,cX,dD,dE,dZ,gD,dS,gE,dT,gF,fh,eG⟩
 have dF:Hid (¬ ((↑(((↑p2.length:Int):Int) - 0).toNat:Int) < (↑p2.length:Int))):=zD (wBG)
 refine sR fL1 Z (oR Z (zK Z dZ dT) (eN (zH (cF Z dF (zr (zV (zV (zk (zI (sR fL2 Z (oM Z dS (oA Z Z (eN (zR ?_))))))))))))))
 have hE:=nA fU;first | subst r | cases hE
 exact ⟨Z,_,(zh Z),c7,_,fh,cX,dD,dE,Z,Z,eG⟩
theorem wFb (p0:Int) (p1:List wAL) (aF:Option Addr) (aG:Nat) (w:World) (U:PHeap) (hS:St0 w U []) (fk:SlR U wEj aF aG p1) {r:(Arr Int 81) × Bool} (hm:wCJ p0 p1=some r):Gv Tryz.prog 76 [jV p0,.slice aF p1.length aG] w (wBu w [] U (fun U_ L_ v=>v=.tuple #[.agg (hD KL.encI r.1.l).toArray,.bool r.2]/\L_=[])):=by
 unfold wCJ at hm
 refine Gv.of Tryz.func76 Z Tryz.ntmps76 Tryz.results76 Z (sR gAf Z (ZI (cs:=hD KL.encI (Arr.fill 81 0).l) Z Z Z Z Z Tryz.zeroValue200 Z hS ?_))
 intro W1 b2 eW
 have fd:sW w U U [.blk b2 200 (hD KL.encI (Arr.fill 81 0).l)] W1:=eW
 refine oA Z Z (eN (sR (.fx 0 .nil .stop) Z (ZI (cs:=hD KL.encI (Arr.fill 81 0).l) Z Z Z Z Z Tryz.zeroValue200 Z fd ?_)))
 intro W6 b7 fg
 have eI:sW w U U [.blk b7 200 (hD KL.encI (Arr.fill 81 0).l),.blk b2 200 (hD KL.encI (Arr.fill 81 0).l)] W6:=fg
 refine eN (zH (sR fL1 Z (oM Z Z (eN (zP (bnK hm fun iD fy f9=>?_))))))
 have q:=wBY fy
 obtain ⟨br,fA⟩:=q
 replace br:=zD br
 refine CK.forN' (fun ak bN σ_ w_=>∃ (U_:PHeap),σ_ 15=jV (↑ak:Int)/\σ_ 0=jV p0/\σ_ 1=.slice aF p1.length aG/\σ_ 4=.pointer (some ⟨b2,0,none⟩)/\σ_ 6=.pointer (some ⟨b7,0,none⟩)/\PHeap.Le U U_/\sW w U U_ [.blk b7 200 (hD KL.encI bN.l),.blk b2 200 (hD KL.encI (Arr.fill 81 0).l)] w_) fA ?_ ?_ ?_
 exact ⟨U,Z,Z,Z,Z,Z,(zS _),eI⟩
 rintro ak bN iw iK gS bm ⟨bJ,bb,dQ,dU,dY,ec,gE,e7⟩ gv
 have bU:Hid ((↑ak:Int) < 9):=zD (wBh bm)
 replace bm:=zD bm
 have fY:Hid (w64 ((↑ak:Int) + 1)=(↑(ak + 1):Int)):=zD (by have h1:=br.out;have h2:=bU.out;rw [wAf] <;> omega)
 refine sR fL1 Z (oR Z (zK Z bb Z) (eN (zH (cT Z bU (kN (zH (zP (sR fL2 Z (oM Z bb (oA Z Z (eN (sR fL1 Z (oM Z Z (eN (zP (bnK gv fun iG fI gk=>?_))))))))))))))))
 have q:=wBY fI
 obtain ⟨bA,fJ⟩:=q
 replace bA:=zD bA
 refine CK.forN' (fun ap ay σ_ w_=>∃ (U_:PHeap),σ_ 18=jV (↑ap:Int)/\σ_ 0=jV p0/\σ_ 1=.slice aF p1.length aG/\σ_ 4=.pointer (some ⟨b2,0,none⟩)/\σ_ 6=.pointer (some ⟨b7,0,none⟩)/\σ_ 7=jV (↑ak:Int)/\σ_ 15=jV (↑ak:Int)/\PHeap.Le bJ U_/\sW w U U_ [.blk b7 200 (hD KL.encI ay.l),.blk b2 200 (hD KL.encI (Arr.fill 81 0).l)] w_) fJ ?_ ?_ ?_
 exact ⟨bJ,Z,dQ,dU,dY,ec,Z,bb,(zS _),e7⟩
 rintro ap ay iB iS ib bp ⟨aQ,aK,ci,cj,cm,aY,aJ,cn,cH,cy⟩ cE
 have bW:Hid ((↑ap:Int) < 9):=zD (wBh bp)
 replace bp:=zD bp
 have cz:Hid (w64 ((↑ap:Int) + 1)=(↑(ap + 1):Int)):=zD (by have h1:=bA.out;have h2:=bW.out;rw [wAf] <;> omega)
 refine sR fL1 Z (oR Z (zK Z aK Z) (eN (zH (cT Z bW (kN (zH (zP (sR fL2 Z (oM Z aK (oA Z Z (eN (sR fL3 Z (oM Z aJ (oM Z Z (oR Z (Zf Z Z Z) (eN ?_))))))))))))))))
 by_cases aq:(↑ak:Int)=(↑ap:Int)
 have cB:=cE;rw [if_pos aq] at cB;replace aq:=zD aq
 refine ze (zt (fun h=>h aq.out)) (zo (zd (zI (rR fL2 Z (oR Z (ZE (zQ Z aK Z) (congrArg (jV) cz.out)) (oM Z Z (zY ?_)))))))
 cases cB
 exact zI ⟨Z,⟨aQ,Z,ci,cj,cm,aY,aJ,cn,cH,cy⟩⟩
 have cC:=cE;rw [if_neg aq] at cC;replace aq:=zD aq
 refine cT Z aq (rR (wEu (.fx 4 .nil .stop)) Z (oM Z aJ (oM Z Z (bnK cC fun _ aL gl=>oR Z (yG Z aY Z Zo yP (wAh aL) (wAi aL)) (bnK gl fun _ aM gm=>oR Z (yG Z Z Z Zp zB (wAh aM) (wAi aM)) ?_)))))
 have fR:=Arr.at_ ay (k:=(ak * 9 + ap)) (by have hz0:=wAK aL;have hz1:=wAK aM;omega)
 refine ZN (j:=0) (vs:=[jV 1048576]) (cs':=hD KL.encI (ay.set (ak * 9 + ap) 1048576).l) rfl rfl rfl rfl cy rfl rfl rfl rfl zB (by have hz0:=wAK aL;have hz1:=wAK aM;simp only [nG,nI,nJ,nH,wBU (f:=KL.encI) (sz:=1) (N:=81) ay (fun _=>rfl) rfl];omega) rfl (wCN (sz:=1) (fo:=0) (fun _=>rfl) _ _ _ _ fR (by first | omega | rfl | simp) (zJ rfl) rfl) rfl ?_
 intro cU ff
 have fh:sW w U aQ [.blk b7 200 (hD KL.encI (ay.set (ak * 9 + ap) 1048576).l),.blk b2 200 (hD KL.encI (Arr.fill 81 0).l)] cU:=ff
 refine zY (zd (zI (rR fL2 Z (oR Z (ZE (zQ Z aK Z) (congrArg (jV) cz.out)) (oM Z Z (zY ?_))))))
 cases gm
 exact zI ⟨Z,⟨aQ,Z,ci,cj,cm,aY,aJ,cn,cH,fh⟩⟩
 rintro iT ic ⟨cL,eD,eh,ei,ej,ek,ik,en,gI,fj⟩
 have dd:Hid (¬ ((↑((9:Int) - 0).toNat:Int) < 9)):=zD (wBG)
 refine sR fL1 Z (oR Z (zK Z eD Z) (eN (zH (cF Z dd (zr (zV (zV (zk (zd (zI (rR fL2 Z (oR Z (ZE (zQ Z en Z) (congrArg (jV) fY.out)) (oM Z Z (zY ?_))))))))))))))
 cases gk
 exact zI ⟨Z,⟨cL,Z,eh,ei,ej,ek,(gE.trans gI),fj⟩⟩
 rintro iU ie ⟨bD,eo,df,dh,di,dm,gz,eJ⟩
 have cW:Hid (¬ ((↑((9:Int) - 0).toNat:Int) < 9)):=zD (wBG)
 refine sR fL1 Z (oR Z (zK Z eo Z) (eN (zH (cF Z cW (zr (zV (zV (zk (zI (zH (sR fL3 Z (oM Z dh (oR Z (zw Z Z yS) (oM Z Z (eN (zP (bnK f9 fun iC fu fZ=>?_)))))))))))))))))
 have q:=wBY fu
 obtain ⟨bq,fw⟩:=q
 replace bq:=zD bq
 refine CK.forN' (fun aB aj σ_ w_=>∃ (U_:PHeap),σ_ 32=jV (↑aB:Int)/\σ_ 0=jV p0/\σ_ 4=.pointer (some ⟨b2,0,none⟩)/\σ_ 6=.pointer (some ⟨b7,0,none⟩)/\σ_ 30=.slice aF p1.length aG/\σ_ 31=jV (↑p1.length:Int)/\PHeap.Le bD U_/\sW w U U_ [.blk b7 200 (hD KL.encI aj.l),.blk b2 200 (hD KL.encI (Arr.fill 81 0).l)] w_) fw ?_ ?_ ?_
 exact ⟨bD,Z,df,di,dm,Z,Z,(zS _),eJ⟩
 rintro aB aj it iH gM bh ⟨bE,aZ,dn,dp,aU,bY,bZ,cG,ct⟩ gr
 have bQ:Hid ((↑aB:Int) < (↑p1.length:Int)):=zD (wBh bh)
 replace bh:=zD bh
 have fS:Hid (w64 ((↑aB:Int) + 1)=(↑(aB + 1):Int)):=zD (by have h1:=bq.out;have h2:=bQ.out;rw [wAf] <;> omega)
 refine sR fL1 Z (oR Z (zK Z aZ bZ) (eN (zH (cT Z bQ (kN (zH (zP (sR gBb Z (bnK gr fun J cq f4=>?_)))))))))
 have eE:=fk.le gz
 have eF:=eE.le cG
 have q:=eF.el (wBW cq)
 obtain ⟨cV,gJ,ir,eH,be,gq⟩:=q
 obtain ⟨cI,rfl,cr⟩:=gq
 replace be:Cl bE cV (gJ + aB * 5) [jV J.Step.Kind,jV J.Step.Index,jV J.from_,jV J.to_,cI]:=be
 refine oR Z (ZS Z bY eH aZ yS Tryz.sizeOf265 (wCw cq)) (oL Z (ct.ldCA (f:=0) be Z Z Tryz.isAgg265 Tryz.sizeOf265 (us:=[jV J.Step.Kind,jV J.Step.Index,jV J.from_,jV J.to_,cI]) Z Z) (ZI (cs:=[jV 0,jV 0,jV 0,jV 0,.nilFunc]) Z Z Z Z Z Zv Z ct ?_))
 intro gN aS eK
 have q:=id cr
 obtain ⟨co,cp,bX,ft,_⟩:=q
 subst ft
 let B0:List Value:=[jV J.Step.Kind,jV J.Step.Index,jV J.from_,jV J.to_,(.func (.func co) (nB cp) (nB bX))]
 refine ZN (j:=0) (vs:=B0) Z Z Z Z eK Z Z Z Z Tryz.sizeOf265 (zJ Z) Z Z Z ?_
 intro aR eL
 have eM:sW w U bE [.blk aS 265 B0,.blk b7 200 (hD KL.encI aj.l),.blk b2 200 (hD KL.encI (Arr.fill 81 0).l)] aR:=eL
 refine eN (zx zp [3,1,3,1,3,1,3,1,3,3,1,3,1,2,3,3,3,0] (wNN (.fl 15 (.fx 13 (.fl 14 (.fl 16 (.fx 17 .nil .stop))) .stop))) (by kernel_rfl) ?_)
 have au:=eM.drew
 generalize hw_W165:({ aR with drawn:=aR.drawn + 1 }:World)=gO at au ⊢
 refine oR Z (zO Z Z yT Z zB) (oL Z (au.ldB (j:=0) Z Z Z zM (v:=jV J.from_) Z) (oR Z (zO Z Z yT Z zB) (oL Z (au.ldB (j:=0) Z Z Z zM (v:=jV J.to_) Z) (oR Z (zO Z Z yT Z zB) (oL Z (au.ldB (j:=0) Z Z Z zM (v:=jV J.from_) Z) (oR Z (zO Z Z yT Z zB) (oL Z (au.ldB (j:=0) Z Z Z zM (v:=jV J.to_) Z) (bnK f4 fun _ av f5=>oR Z (yG Z aU Z Zo yP (wAh av) (wAi av)) (bnK f5 fun _ aw f7=>oR Z (yG Z Z Z Zp zB (wAh aw) (wAi aw)) ?_)))))))))
 have fK:=Arr.at_ aj (k:=(J.from_.toNat * 9 + J.to_.toNat)) (by have hz0:=wAK av;have hz1:=wAK aw;omega)
 refine zn rfl rfl rfl rfl (au.ldB (j:=1) rfl rfl rfl zM (wAT (sz:=1) (fun _=>rfl) _ _ 0 _ fK (by first | omega | rfl | simp) rfl)) rfl (zT rfl rfl rfl rfl (fun _=>zO rfl rfl yT rfl Tryz.sizeOf184) (zn rfl rfl rfl rfl (au.ldB (j:=0) rfl rfl rfl Tryz.isAgg184 (v:=(.func (.func co) (nB cp) (nB bX))) rfl) rfl (zT rfl rfl rfl rfl (fun _=>yG rfl aU rfl Zo yP (wAh av) (wAi av)) (bnK f7 fun bC eG f8=>Zk (a:=()) rfl rfl rfl rfl rfl rfl zL au cr rfl eG ?_))))
 rintro aO gL iq cN gA eO ⟨rfl,rfl⟩
 have eP:sW w U aO [.blk aS 265 B0,.blk b7 200 (hD KL.encI aj.l),.blk b2 200 (hD KL.encI (Arr.fill 81 0).l)] cN:=eO
 refine oR Z (Runs.min Z Z Z) (oR Z (yG Z Z Z Zp zB (wAh aw) (wAi aw)) ?_)
 have fL:=Arr.at_ aj (k:=(J.from_.toNat * 9 + J.to_.toNat)) (by have hz0:=wAK av;have hz1:=wAK aw;omega)
 refine ZN (j:=1) (vs:=[jV (min (aj.get (J.from_.toNat * 9 + J.to_.toNat)) bC)]) (cs':=hD KL.encI (aj.set (J.from_.toNat * 9 + J.to_.toNat) (min (aj.get (J.from_.toNat * 9 + J.to_.toNat)) bC)).l) rfl rfl rfl rfl eP rfl rfl rfl rfl zB (by have hz0:=wAK av;have hz1:=wAK aw;simp only [nG,nI,nJ,nH,wBU (f:=KL.encI) (sz:=1) (N:=81) aj (fun _=>rfl) rfl];omega) rfl (wCN (sz:=1) (fo:=0) (fun _=>rfl) _ _ _ _ fL (by first | omega | rfl | simp) (zJ rfl) rfl) rfl ?_
 intro cO eQ
 have eR:sW w U aO [.blk aS 265 B0,.blk b7 200 (hD KL.encI (aj.set (J.from_.toNat * 9 + J.to_.toNat) (min (aj.get (J.from_.toNat * 9 + J.to_.toNat)) bC)).l),.blk b2 200 (hD KL.encI (Arr.fill 81 0).l)] cO:=eQ
 refine zY (zd (zI (rR fL2 Z (oR Z (ZE (zQ Z aZ Z) (congrArg (jV) fS.out)) (oM Z Z (zY ?_))))))
 cases f8
 exact zI ⟨rfl,⟨aO,rfl,dn,dp,aU,bY,bZ,(cG.trans gA),(eR.pick [1,2] _ (by decide) rfl)⟩⟩
 rintro iI gP ⟨bF,eu,b4,dq,dr,ig,dt,il,eS⟩
 have cX:Hid (¬ ((↑(((↑p1.length:Int):Int) - 0).toNat:Int) < (↑p1.length:Int))):=zD (wBG)
 refine sR fL1 Z (oR Z (zK Z eu dt) (eN (zH (cF Z cX (zr (zV (zV (zk (zI (zH (sR fL3 Z (oM Z b4 (oR Z (zQ Z Z Z) (oM Z Z (eN (zP (bnK fZ fun ab fz bB=>?_)))))))))))))))))
 have q:=wBY fz
 obtain ⟨bu,fB⟩:=q
 replace bu:=zD bu
 refine CK.forN' (fun ah bO σ_ w_=>∃ (U_:PHeap),σ_ 56=jV (↑ah:Int)/\σ_ 0=jV p0/\σ_ 4=.pointer (some ⟨b2,0,none⟩)/\σ_ 6=.pointer (some ⟨b7,0,none⟩)/\σ_ 55=jV (w64 (p0 + 1))/\PHeap.Le bF U_/\sW w U U_ [.blk b7 200 (hD KL.encI bO.l),.blk b2 200 (hD KL.encI (Arr.fill 81 0).l)] w_) fB ?_ ?_ ?_
 exact ⟨bF,Z,b4,dq,dr,Z,(zS _),eS⟩
 rintro ah bO iu iJ gR bi ⟨bG,a7,b8,du,dv,b9,gB,eT⟩ gt
 have bR:Hid ((↑ah:Int) < (w64 (p0 + 1))):=zD (wBh bi)
 replace bi:=zD bi
 have fT:Hid (w64 ((↑ah:Int) + 1)=(↑(ah + 1):Int)):=zD (by have h1:=bu.out;have h2:=bR.out;rw [wAf] <;> omega)
 refine sR fL1 Z (oR Z (zK Z a7 b9) (eN (zH (cT Z bR (kN (zH (zP (sR fL2 Z (oM Z a7 (oA Z Z (eN (sR fL3 Z (oM Z b8 (oR Z (zQ Z Z Z) (oM Z Z (eN (zP (bnK gt fun iE fC ga=>?_))))))))))))))))))
 have q:=wBY fC
 obtain ⟨bw,fD⟩:=q
 replace bw:=zD bw
 refine CK.forN' (fun ag bP σ_ w_=>∃ (U_:PHeap),σ_ 61=jV (↑ag:Int)/\σ_ 0=jV p0/\σ_ 4=.pointer (some ⟨b2,0,none⟩)/\σ_ 6=.pointer (some ⟨b7,0,none⟩)/\σ_ 11=jV (↑ah:Int)/\σ_ 55=jV (w64 (p0 + 1))/\σ_ 56=jV (↑ah:Int)/\σ_ 60=jV (w64 (p0 + 1))/\PHeap.Le bG U_/\sW w U U_ [.blk b7 200 (hD KL.encI bP.l),.blk b2 200 (hD KL.encI (Arr.fill 81 0).l)] w_) fD ?_ ?_ ?_
 exact ⟨bG,Z,b8,du,dv,Z,b9,a7,Z,(zS _),eT⟩
 rintro ag bP iv iL gT bj ⟨bH,a8,ca,dw,dx,dy,dz,dA,cc,gC,eU⟩ gu
 have bS:Hid ((↑ag:Int) < (w64 (p0 + 1))):=zD (wBh bj)
 replace bj:=zD bj
 have fU:Hid (w64 ((↑ag:Int) + 1)=(↑(ag + 1):Int)):=zD (by have h1:=bw.out;have h2:=bS.out;rw [wAf] <;> omega)
 refine sR fL1 Z (oR Z (zK Z a8 cc) (eN (zH (cT Z bS (kN (zH (zP (sR fL2 Z (oM Z a8 (oA Z Z (eN (sR fL3 Z (oM Z ca (oR Z (zQ Z Z Z) (oM Z Z (eN (zP (bnK gu fun iF fE gb=>?_))))))))))))))))))
 have q:=wBY fE
 obtain ⟨bx,fG⟩:=q
 replace bx:=zD bx
 refine CK.forN' (fun ai af σ_ w_=>∃ (U_:PHeap),σ_ 66=jV (↑ai:Int)/\σ_ 0=jV p0/\σ_ 4=.pointer (some ⟨b2,0,none⟩)/\σ_ 6=.pointer (some ⟨b7,0,none⟩)/\σ_ 11=jV (↑ah:Int)/\σ_ 12=jV (↑ag:Int)/\σ_ 55=jV (w64 (p0 + 1))/\σ_ 56=jV (↑ah:Int)/\σ_ 60=jV (w64 (p0 + 1))/\σ_ 61=jV (↑ag:Int)/\σ_ 65=jV (w64 (p0 + 1))/\PHeap.Le bH U_/\sW w U U_ [.blk b7 200 (hD KL.encI af.l),.blk b2 200 (hD KL.encI (Arr.fill 81 0).l)] w_) fG ?_ ?_ ?_
 exact ⟨bH,Z,ca,dw,dx,dy,Z,dz,dA,cc,a8,Z,(zS _),eU⟩
 rintro ai af iz iM bM bk ⟨bI,ba,dB,dC,aC,aV,aI,dD,dE,dF,dG,cd,gD,eV⟩ gw
 have bT:Hid ((↑ai:Int) < (w64 (p0 + 1))):=zD (wBh bk)
 replace bk:=zD bk
 have fV:Hid (w64 ((↑ai:Int) + 1)=(↑(ai + 1):Int)):=zD (by have h1:=bx.out;have h2:=bT.out;rw [wAf] <;> omega)
 refine sR fL1 rfl (zT rfl rfl rfl rfl (fun _=>zK rfl ba cd) (eN (zH (cT Z bT (kN (zH (zP (sR fL2 rfl (zC rfl rfl rfl rfl rfl ba (Zz rfl rfl rfl rfl rfl rfl (eN (zx zp [3,3,3,3,3,3,1,3,3,3,3,1,3,3,3,3,1,3,3,3,3,0] (wKd (.fx 21 .nil .stop)) (by kernel_rfl) ?_))))))))))))
 have aD:=eV.drew
 generalize hw_W294:({ bM with drawn:=bM.drawn + 1 }:World)=gU at aD ⊢
 refine oM Z aI (oM Z Z (oM Z aI (oM Z Z (bnK gw fun _ am gc=>oR Z (yG Z aC Z Zo yP (wAh am) (wAi am)) (bnK gc fun _ an ge=>oR Z (yG Z Z Z Zp zB (wAh an) (wAi an)) ?_)))))
 have fM:=Arr.at_ af (k:=(ag * 9 + ai)) (by have hz0:=wAK am;have hz1:=wAK an;omega)
 refine zn rfl rfl rfl rfl (aD.ldB (j:=0) rfl rfl rfl zM (wAT (sz:=1) (fun _=>rfl) _ _ 0 _ fM (by first | omega | rfl | simp) rfl)) rfl (zC rfl rfl rfl rfl rfl aI (zC rfl rfl rfl rfl rfl aV (zT rfl rfl rfl rfl (fun _=>yG rfl aC rfl Zo yP (wAh am) (wAi am)) (bnK ge fun _ az gf=>zT rfl rfl rfl rfl (fun _=>yG rfl rfl rfl Zp zB (wAh az) (wAi az)) ?_))))
 have fN:=Arr.at_ af (k:=(ag * 9 + ah)) (by have hz0:=wAK am;have hz1:=wAK az;omega)
 refine zn rfl rfl rfl rfl (aD.ldB (j:=0) rfl rfl rfl zM (wAT (sz:=1) (fun _=>rfl) _ _ 0 _ fN (by first | omega | rfl | simp) rfl)) rfl (zC rfl rfl rfl rfl rfl aV (zC rfl rfl rfl rfl rfl rfl (zT rfl rfl rfl rfl (fun _=>yG rfl aC rfl Zo yP (wAh az) (wAi az)) (zT rfl rfl rfl rfl (fun _=>yG rfl rfl rfl Zp zB (wAh an) (wAi an)) ?_))))
 have fO:=Arr.at_ af (k:=(ah * 9 + ai)) (by have hz0:=wAK az;have hz1:=wAK an;omega)
 refine zn rfl rfl rfl rfl (aD.ldB (j:=0) rfl rfl rfl zM (wAT (sz:=1) (fun _=>rfl) _ _ 0 _ fO (by first | omega | rfl | simp) rfl)) rfl (zT rfl rfl rfl rfl (fun _=>zQ rfl rfl rfl) (zT rfl rfl rfl rfl (fun _=>Runs.min rfl rfl rfl) (zT rfl rfl rfl rfl (fun _=>yG rfl aC rfl Zo yP (wAh am) (wAi am)) (zT rfl rfl rfl rfl (fun _=>yG rfl rfl rfl Zp zB (wAh an) (wAi an)) ?_))))
 have fP:=Arr.at_ af (k:=(ag * 9 + ai)) (by have hz0:=wAK am;have hz1:=wAK an;omega)
 refine ZN (j:=0) (vs:=[jV (min (af.get (ag * 9 + ai)) (w64 ((af.get (ag * 9 + ah)) + (af.get (ah * 9 + ai)))))]) (cs':=hD KL.encI (af.set (ag * 9 + ai) (min (af.get (ag * 9 + ai)) (w64 ((af.get (ag * 9 + ah)) + (af.get (ah * 9 + ai)))))).l) rfl rfl rfl rfl aD rfl rfl rfl rfl zB (by have hz0:=wAK am;have hz1:=wAK an;simp only [nG,nI,nJ,nH,wBU (f:=KL.encI) (sz:=1) (N:=81) af (fun _=>rfl) rfl];omega) rfl (wCN (sz:=1) (fo:=0) (fun _=>rfl) _ _ _ _ fP (by first | omega | rfl | simp) (zJ rfl) rfl) rfl ?_
 intro cP eX
 have eY:sW w U bI [.blk b7 200 (hD KL.encI (af.set (ag * 9 + ai) (min (af.get (ag * 9 + ai)) (w64 ((af.get (ag * 9 + ah)) + (af.get (ah * 9 + ai)))))).l),.blk b2 200 (hD KL.encI (Arr.fill 81 0).l)] cP:=eX
 refine zY (zd (zI (rR fL2 Z (oR Z (ZE (zQ Z ba Z) (congrArg (jV) fV.out)) (oM Z Z (zY ?_))))))
 cases gf
 exact zI ⟨Z,⟨bI,Z,dB,dC,aC,aV,aI,dD,dE,dF,dG,cd,gD,eY⟩⟩
 rintro iN gV ⟨cJ,ez,dH,dI,dJ,dK,ii,dL,dM,dN,dO,dP,gF,eZ⟩
 have cY:Hid (¬ ((↑((w64 (p0 + 1):Int) - 0).toNat:Int) < (w64 (p0 + 1)))):=zD (wBG)
 refine sR fL1 Z (oR Z (zK Z ez dP) (eN (zH (cF Z cY (zr (zV (zV (zk (zd (zI (rR fL2 Z (oR Z (ZE (zQ Z dO Z) (congrArg (jV) fU.out)) (oM Z Z (zY ?_))))))))))))))
 cases gb
 exact zI ⟨Z,⟨cJ,Z,dH,dI,dJ,dK,dL,dM,dN,(gC.trans gF),eZ⟩⟩
 rintro iO gW ⟨cK,eA,dR,dS,dT,ij,dV,dW,dX,gG,e8⟩
 have cZ:Hid (¬ ((↑((w64 (p0 + 1):Int) - 0).toNat:Int) < (w64 (p0 + 1)))):=zD (wBG)
 refine sR fL1 Z (oR Z (zK Z eA dX) (eN (zH (cF Z cZ (zr (zV (zV (zk (zd (zI (rR fL2 Z (oR Z (ZE (zQ Z dW Z) (congrArg (jV) fT.out)) (oM Z Z (zY ?_))))))))))))))
 cases ga
 exact zI ⟨Z,⟨cK,Z,dR,dS,dT,dV,(gB.trans gG),e8⟩⟩
 rintro iP gX ⟨bK,eB,dZ,d7,d8,d9,im,e9⟩
 have c7:Hid (¬ ((↑((w64 (p0 + 1):Int) - 0).toNat:Int) < (w64 (p0 + 1)))):=zD (wBG)
 refine sR fL1 Z (oR Z (zK Z eB d9) (eN (zH (cF Z c7 (zr (zV (zV (zk (zI (zH (sR fL3 Z (oM Z dZ (oR Z (zQ Z Z Z) (oM Z Z (eN (zP ?_))))))))))))))))
 have q:=wDW bB
 obtain ⟨ip,bg⟩:=q
 have q:=wDV bg
 obtain ⟨bz,fH⟩:=q
 replace bz:=zD bz
 refine yW (fun ax _ σ_ w_=>∃ (U_:PHeap),σ_ 95=jV (↑ax:Int)/\σ_ 4=.pointer (some ⟨b2,0,none⟩)/\σ_ 6=.pointer (some ⟨b7,0,none⟩)/\σ_ 94=jV (w64 (p0 + 1))/\PHeap.Le bK U_/\sW w U U_ [.blk b7 200 (hD KL.encI ab.l),.blk b2 200 (hD KL.encI (Arr.fill 81 0).l)] w_) fH ?_ ?_ ?_
 exact ⟨bK,Z,d7,d8,Z,(zS _),e9⟩
 rintro ax ⟨⟩ iA iQ gY bn ⟨aP,bc,aW,aX,cg,gH,aN⟩ cD fm
 try dsimp only at cD
 have bV:Hid ((↑ax:Int) < (w64 (p0 + 1))):=zD (wBh bn)
 replace bn:=zD bn
 have fW:Hid (w64 ((↑ax:Int) + 1)=(↑(ax + 1):Int)):=zD (by have h1:=bz.out;have h2:=bV.out;rw [wAf] <;> omega)
 refine sR fL1 Z (oR Z (zK Z bc cg) (eN (zH (cT Z bV (kN (zH (zP (sR fL2 Z (oM Z bc (oA Z Z (eN (sR fL6 Z (oM Z Z (oM Z Z (bnK cD fun _ aA gg=>oR Z (yG Z aX Z Zo yP (wAh aA) (wAi aA)) (oR Z (yG Z Z Z Zp zB (wAh aA) (wAi aA)) ?_))))))))))))))))
 have fQ:=Arr.at_ ab (k:=(ax * 9 + ax)) (by have hz0:=wAK aA;have hz1:=wAK aA;omega)
 refine zn rfl rfl rfl rfl (aN.ldB (j:=0) rfl rfl rfl zM (wAT (sz:=1) (fun _=>rfl) _ _ 0 _ fQ (by first | omega | rfl | simp) rfl)) rfl (zT rfl rfl rfl rfl (fun _=>zK rfl rfl rfl) (eN (ifc gg ?_ ?_)))
 intro aT gh
 refine cT Z aT (sR gAo rfl (zn rfl rfl rfl rfl (aN.ldBA (j:=0) rfl rfl aX Tryz.isAgg200 yX (vs:=hD KL.encI ab.l) (wKj ab (fun _=>rfl) rfl) (wBU ab (fun _=>rfl) rfl)) rfl (ZN (j:=1) (vs:=hD KL.encI ab.l) rfl rfl rfl rfl aN rfl aW rfl rfl (fun w=>by rw [wBU (f:=KL.encI) (sz:=1) (N:=81) ab (fun _=>rfl) rfl];exact yX w) (by rw [wBU (f:=KL.encI) (sz:=1) (N:=81) ab (fun _=>rfl) rfl,wBU (f:=KL.encI) (sz:=1) (N:=81) (Arr.fill 81 0) (fun _=>rfl) rfl];exact zJ rfl) (wEh (fun _=>rfl) _) (wHH _ _ (by rw [wBU (f:=KL.encI) (sz:=1) (N:=81) ab (fun _=>rfl) rfl,wBU (f:=KL.encI) (sz:=1) (N:=81) (Arr.fill 81 0) (fun _=>rfl) rfl])) rfl ?_)))
 intro cQ fb
 have cu:sW w U aP [.blk b7 200 (hD KL.encI ab.l),.blk b2 200 (hD KL.encI ab.l)] cQ:=fb
 refine oA Z Z (eN (zR (zq (zc ?_))))
 have q:=wAe gh
 obtain ⟨gK,gi,de⟩:=q
 have q:=wDf bB bg (fm gK de)
 obtain rfl:=q
 refine zc (zq (zc ?_))
 cases gi
 exact ⟨rfl,_,(wIS (rs:=[.cell 4 200,.tmp 5]) (vs:=[.agg (hD KL.encI ab.l).toArray,.bool false]) ⟨⟨_,aW,(wFW Tryz.isAgg200 yX (cu.blkAt (k:=1) rfl) (wKj ab (fun _=>rfl) rfl) (wBU ab (fun _=>rfl) rfl))⟩,⟨rfl,trivial⟩⟩ rfl),aP,_,(cu.pick [] _ (by decide) rfl),rfl,rfl⟩
 intro aT gj
 refine cF Z aT (zo (zd (zI (rR fL2 Z (oR Z (ZE (zQ Z bc Z) (congrArg (jV) fW.out)) (oM Z Z (zY ?_)))))))
 have q:=nA gj
 obtain rfl:=q
 exact zI ⟨Z,_,Z,⟨aP,Z,aW,aX,cg,gH,aN⟩⟩
 rintro ⟨⟩ iR gZ ⟨bL,eC,ch,ed,ee,io,cw⟩ fq
 have cA:=wEB bB bg fq
 try dsimp only at cA
 have c8:Hid (¬ ((↑((w64 (p0 + 1):Int) - 0).toNat:Int) < (w64 (p0 + 1)))):=zD (wBG)
 refine sR fL1 rfl (zT rfl rfl rfl rfl (fun _=>zK rfl eC ee) (eN (zH (cF Z c8 (zr (zV (zV (zk (zI (sR gAo rfl (zn rfl rfl rfl rfl (cw.ldBA (j:=0) rfl rfl ed Tryz.isAgg200 yX (vs:=hD KL.encI ab.l) (wKj ab (fun _=>rfl) rfl) (wBU ab (fun _=>rfl) rfl)) rfl (ZN (j:=1) (vs:=hD KL.encI ab.l) rfl rfl rfl rfl cw rfl ch rfl rfl (fun w=>by rw [wBU (f:=KL.encI) (sz:=1) (N:=81) ab (fun _=>rfl) rfl];exact yX w) (by rw [wBU (f:=KL.encI) (sz:=1) (N:=81) ab (fun _=>rfl) rfl,wBU (f:=KL.encI) (sz:=1) (N:=81) (Arr.fill 81 0) (fun _=>rfl) rfl];exact zJ rfl) (wEh (fun _=>rfl) _) (wHH _ _ (by rw [wBU (f:=KL.encI) (sz:=1) (N:=81) ab (fun _=>rfl) rfl,wBU (f:=KL.encI) (sz:=1) (N:=81) (Arr.fill 81 0) (fun _=>rfl) rfl])) rfl ?_))))))))))))
 intro cR fc
 have cx:sW w U bL [.blk b7 200 (hD KL.encI ab.l),.blk b2 200 (hD KL.encI ab.l)] cR:=fc
 refine oA Z Z (eN (zR ?_))
 cases cA
 exact ⟨rfl,_,(wIS (rs:=[.cell 4 200,.tmp 5]) (vs:=[.agg (hD KL.encI ab.l).toArray,.bool true]) ⟨⟨_,ch,(wFW Tryz.isAgg200 yX (cx.blkAt (k:=1) rfl) (wKj ab (fun _=>rfl) rfl) (wBU ab (fun _=>rfl) rfl))⟩,⟨rfl,trivial⟩⟩ rfl),bL,_,(cx.pick [] _ (by decide) rfl),rfl,rfl⟩
end Go.Proofs.YtlmekamhphnmjaaGreat
namespace Go.Proofs.YtlmekamhphnmjaaGreat
open Go.KL
set_option maxHeartbeats 4000000
theorem wHv (J:List Int) (ae:Option Addr) (ag:Nat) (p1:List wAE) (af:Option Addr) (ah:Nat) (w:World) (U:PHeap) (hS:St0 w U []) (av:Sl U 1 ae ag J.length (hD KL.encI J)) (aw:Sl U 4 af ah p1.length (hD wBL p1)) {r:Bool × Int} (hm:wDQ J p1=some r):Gv Tryz.prog 33 [.slice ae J.length ag,.slice af p1.length ah] w (wBu w [] U (fun U_ L_ v=>v=.tuple #[.bool r.1,jV r.2]/\L_=[])):=by
 unfold wDQ at hm
 refine Gv.of Tryz.func33 Z Tryz.ntmps33 Tryz.results33 Z (sR fL2 Z (oA Z Z (oA Z Z (eN (zH (sR gAz Z (oM Z Z (oM Z Z (bnK hm fun x1 h2 aY=>zG 0 Z Z Z Z (zF Z Z Tryz.call75 (zA Z (zA Z zL)) Z) hS (fun hs=>wHu J ae ag p1 af ah w U hs av aw h2) (.inr Z) ?_)))))))))
 rintro U4 L5 v6 W7 ay aV ⟨rfl,rfl⟩
 have au:sW w U U4 [] W7:=aV
 refine oA Z Z (eN (sR fL2 Z (oM Z Z (oR Z (Zf Z Z Z) (eN (ifc aY ?_ ?_))))))
 intro ak aW
 refine ze (zt (fun h=>h ak.out)) (kN (sR (wIM (.fx 6 (.fx 7 (wNW gAp) .stop) .stop)) Z (oM Z Z (oR Z (zw Z Z zN) (oM Z Z (oR Z (zw Z Z zN) (oM Z Z (oM Z Z ?_))))))))
 have aF:=aw.le ay
 have aG:=av.le ay
 refine bnK aW fun a8 aH aX=>zG 0 Z Z Z Z (zF Z Z Tryz.call77 (zA Z (zA Z (zA Z zL))) Z) au (fun hs=>wGq (↑J.length:Int) p1 af ah J ae ag W7 U4 hs aF aG aH) (.inr Z) ?_
 rintro az bb bj aj bg aL ⟨am,aq,aD,rfl,rfl,aJ⟩
 have aM:sW w U az [.row am aq 265 5 aD] aj:=aL
 have q:=aM.freezeRR (R:=wEj) (k:=0) rfl aJ rfl (by decide)
 obtain ⟨an,bh,a7,aN⟩:=q
 have aO:sW w U an [] aj:=aN
 have q:=bnd aX
 obtain ⟨⟨ab,ba⟩,aK,ax⟩:=q
 try dsimp only at ax
 refine zG 0 Z Z Z Z (zF Z Z Tryz.call76 (zA Z (zA Z zL)) Z) aO (fun hs=>wFb (↑J.length:Int) a8 am aq aj an hs a7 aK) (.inr Z) ?_
 rintro ac bc bk aA bi aP ⟨rfl,rfl⟩
 have aQ:sW w U ac [] aA:=aP
 refine oM Z Z (oR Z (ZX Z Z (v:=.agg (hD KL.encI ab.l).toArray) Z) (oR Z (ZX Z Z (v:=.bool ba) Z) (ZI (cs:=hD KL.encI (Arr.fill 81 0).l) Z Z Z Z Z Tryz.zeroValue200 Z aQ ?_)))
 intro aB ap aR
 have aS:sW w U ac [.blk ap 200 (hD KL.encI (Arr.fill 81 0).l)] aB:=aR
 refine ZN (j:=0) (vs:=hD KL.encI ab.l) rfl rfl rfl rfl aS rfl rfl rfl rfl (fun w=>by rw [wBU (f:=KL.encI) (sz:=1) (N:=81) ab (fun _=>rfl) rfl];exact yX w) (by rw [wBU (f:=KL.encI) (sz:=1) (N:=81) ab (fun _=>rfl) rfl,wBU (f:=KL.encI) (sz:=1) (N:=81) (Arr.fill 81 0) (fun _=>rfl) rfl];exact zJ rfl) (wEh (fun _=>rfl) _) (wHH _ _ (by rw [wBU (f:=KL.encI) (sz:=1) (N:=81) ab (fun _=>rfl) rfl,wBU (f:=KL.encI) (sz:=1) (N:=81) (Arr.fill 81 0) (fun _=>rfl) rfl])) rfl ?_
 intro aC aT
 have aU:sW w U ac [.blk ap 200 (hD KL.encI ab.l)] aC:=aT
 refine oA Z Z (eN (sR fL4 Z (oM Z Z (oR Z (ZV Z Z) (oA Z Z (oA Z Z (eN (zR ?_))))))))
 cases ax
 exact ⟨rfl,_,(wHg rfl rfl),ac,_,(aU.pick [] _ (by decide) rfl),rfl,rfl⟩
 intro ak aZ
 refine cT Z ak (sR fL3 Z (oM Z Z (oA Z Z (oA Z Z (eN (zR (zc ?_)))))))
 cases aZ
 exact ⟨Z,_,(wHg Z Z),U4,_,au,Z,Z⟩
theorem wHw (p0:List (List Int)) (aD:Option Addr) (aI:Nat) (p1:List (List wAE)) (aF:Option Addr) (aJ:Nat) (w:World) (U:PHeap) (hS:St0 w U []) (bT:SlR U wMT aD aI p0) (bU:SlR U wMU aF aJ p1) {r:(List Int) × Int} (hm:wDR p0 p1=some r):Gv Tryz.prog 10 [.slice aD p0.length aI,.slice aF p1.length aJ] w (wBu w [] U (fun U_ L_ v=>∃ (A0:Option Addr) (c0:Nat),v=.tuple #[.slice A0 r.1.length c0,jV r.2]/\L_=[.row A0 c0 3 1 (hD KL.encI r.1)])):=by
 unfold wDR at hm
 refine Gv.of Tryz.func10 Z Tryz.ntmps10 Tryz.results10 Z (sR fL2 Z (oA Z Z (oA Z Z (eN (zH (sR fL10 Z (oM Z Z (oR Z (zw Z Z Tryz.runUnderlying29) (oR Z (Zy Z Z Z) (oM Z Z ?_))))))))))
 by_cases J:8 < (↑p0.length:Int)
 have a8:=hm;rw [if_pos J] at a8;replace J:=zD J
 refine oT Z J (oT Z J (oT Z J (oT Z J (oT Z J (oR Z (zb Z (ZJ J.out) Z) (eN (ZB Z (sR fL2 Z (oA Z Z (oA Z Z (eN (zR (zc ?_)))))))))))))
 have bO:=hS.nilrow 3 1
 cases a8
 exact ⟨Z,_,(wHg Z Z),U,_,bO,none,0,Z,Z⟩
 have ba:=hm;rw [if_neg J] at ba;replace J:=zD J
 refine zC Z Z Z (wF Z J) Z Z (rU Z (wF Z J) (zw Z Z Tryz.runUnderlying30) (zC Z Z Z (wF Z J) Z Z (rU Z (wF Z J) (zw Z Z Tryz.runUnderlying29) (rU Z (wF Z J) (Zf Z Z Z) (oR Z (zX Z (zt J.out) Z) (eN (ifc ba ?_ ?_)))))))
 intro c6 aC
 refine ze (zt (fun h=>h c6.out)) (kN (sR fL1 Z (oA Z Z (eN (zH (sR fL3 Z (oM Z Z (oR Z (zw Z Z Tryz.runUnderlying29) (oM Z Z (eN (zP ?_)))))))))))
 have q:=wDW aC
 obtain ⟨cz,az⟩:=q
 have q:=wDV az
 obtain ⟨aB,bX⟩:=q
 replace aB:=zD aB
 refine yW (fun aa ag σ_ w_=>∃ (U_:PHeap) (ae:Option Addr) (af:Nat),σ_ 22=jV (↑aa:Int)/\σ_ 0=.slice aD p0.length aI/\σ_ 1=.slice aF p1.length aJ/\σ_ 6=.slice ae ag.length af/\σ_ 21=jV (↑p0.length:Int)/\PHeap.Le U U_/\sW w U U_ [.row ae af 3 1 (hD KL.encI ag)] w_) bX ?_ ?_ ?_
 have bP:=hS.nilrow 3 1
 exact ⟨U,none,0,Z,Z,Z,Z,Z,(zS _),bP⟩
 rintro aa ag cD cH aS aA ⟨am,ae,af,ah,aq,au,aW,av,aj,bQ⟩ cm bW
 have aV:Hid ((↑aa:Int) < (↑p0.length:Int)):=zD (wBh aA)
 replace aA:=zD aA
 have a7:Hid (w64 ((↑aa:Int) + 1)=(↑(aa + 1):Int)):=zD (by have h1:=aB.out;have h2:=aV.out;rw [wAf] <;> omega)
 refine sR fL1 rfl (zT rfl rfl rfl rfl (fun _=>zK rfl ah av) (eN (zH (cT Z aV (kN (zH (zP (sR fL2 rfl (zC rfl rfl rfl rfl rfl ah (Zz rfl rfl rfl rfl rfl rfl (eN (zH (zx zp [3,3,3,1,3,3,3,1,2,3,3,3,3,3] (wLS (.fx 8 (wNZ (.nil)) .stop)) (by kernel_rfl) ?_)))))))))))))
 have ai:=bQ.drew
 generalize hw_W49:({ aS with drawn:=aS.drawn + 1 }:World)=bj at ai ⊢
 refine oM Z aq (oM Z Z (bnK cm fun aM aX ca=>?_))
 have bB:=bT.le aj
 have q:=bB.el (wBW aX)
 obtain ⟨bn,cn,cB,bH,aw,ci⟩:=q
 obtain ⟨aG,aK,rfl,bC⟩:=ci
 replace aw:Cl am bn (cn + aa * 1) [.slice aG aM.length aK]:=aw
 refine oR Z (ZS Z Z bH Z Tryz.runUnderlying29 Tryz.sizeOf31 (wCw aX)) (oL Z (ai.ldC (f:=0) aw (v:=.slice aG aM.length aK) Z Z Tryz.isAgg31 Z) (oM Z au (oM Z Z (bnK ca fun aN aY cc=>?_))))
 have bD:=bU.le aj
 have q:=bD.el (wBW aY)
 obtain ⟨bp,co,cC,bI,ax,cj⟩:=q
 obtain ⟨aH,aL,rfl,bE⟩:=cj
 replace ax:Cl am bp (co + aa * 1) [.slice aH aN.length aL]:=ax
 refine oR Z (ZS Z Z bI Z Tryz.runUnderlying30 Tryz.sizeOf38 (wCw aY)) (oL Z (ai.ldC (f:=0) ax (v:=.slice aH aN.length aL) Z Z Tryz.isAgg38 Z) ?_)
 have q:=bnd cc
 obtain ⟨⟨cq,cr⟩,bF,bb⟩:=q
 try dsimp only at bb
 refine zG 0 Z Z Z Z (zF Z Z Tryz.call33 (zA Z (zA Z zL)) Z) ai (fun hs=>wHv aM aG aK aN aH aL bj am hs bC bE bF) (.inr Z) ?_
 rintro ac ct cA bk bc bR ⟨rfl,rfl⟩
 let B0:Res:=.row ae af 3 1 (hD KL.encI ag)
 have ay:sW w U ac [B0] bk:=bR
 refine oM Z Z (oR Z (ZX Z Z (v:=.bool cq) Z) (oR Z (ZX Z Z (v:=jV cr) Z) (oA Z Z (oA Z Z (eN (zH (sR fL2 Z (oM Z Z (oR Z (Zf Z Z Z) (eN (ifc bb ?_ ?_)))))))))))
 intro ao cd
 refine ze (zt (fun h=>h ao.out)) (kN (sR fL1 Z (oM Z Z (eN (ifc cd ?_ ?_)))))
 intro ap cg
 refine ZB (congrArg hJ ap.out) (rR (.fl 0 (.fl 1 (.fx 2 gAh .stop))) Z (oM Z aW (oM Z Z (ZM (pv:=[(0,jV (↑aa:Int))]) (zs:=[jV 0]) (cs:=[jV (↑aa:Int)]) Z Z Z Z Z (wAI Z wAd) zN zB Zw Z Z Z Z Z ay ?_))))
 intro bm bq bS
 let B1:Res:=.row (some ⟨bq,0,none⟩) 1 3 1 (hD KL.encI [(↑aa:Int)])
 have aZ:sW w U ac [B1,B0] bm:=bS
 refine bnK cg fun be bG ch=>yB (j:=1) (enc:=KL.encI) (xs:=ag) (ys:=[(↑aa:Int)]) (zs:=be) rfl rfl rfl rfl rfl yO wIb rfl rfl rfl rfl rfl rfl aZ rfl rfl rfl (aZ.srcR (j:=0) rfl (by decide) (wAG (f:=KL.encI) (sz:=1) (fun _=>rfl) [(↑aa:Int)])) (fun _=>rfl) (fun _=>rfl) bG rfl ?_
 intro aP aU bi bJ
 have bK:sW w U ac [B1,.row aP aU 3 1 (hD KL.encI be)] bi:=bJ
 refine oA Z Z (zY (zd (zI (rR fL2 Z (oR Z (ZE (zQ Z ah Z) (congrArg (jV) a7.out)) (oM Z Z (zY ?_)))))))
 have q:=nA ch
 obtain rfl:=q
 exact zI ⟨rfl,_,rfl,⟨ac,aP,aU,rfl,aq,au,rfl,av,(aj.trans bc),(bK.pick [1] _ (by decide) rfl)⟩⟩
 intro ap bY
 refine ze (congrArg hJ (hM.2 ap.out)) (zo (zd (zI (rR fL2 Z (oR Z (ZE (zQ Z ah Z) (congrArg (jV) a7.out)) (oM Z Z (zY ?_)))))))
 have q:=nA bY
 obtain rfl:=q
 exact zI ⟨Z,_,Z,⟨ac,ae,af,Z,aq,au,aW,av,(aj.trans bc),ay⟩⟩
 intro ao bZ
 refine cT Z ao (sR fL3 Z (oM Z Z (oA Z Z (oA Z Z (eN (zR (zc (zq (zc ?_)))))))))
 have q:=wAe bZ
 obtain ⟨cp,b4,bw⟩:=q
 have q:=wDf aC az (bW cp bw)
 obtain rfl:=q
 refine zc (zq (zc ?_))
 have bL:=ay.nilrow 3 1
 cases b4
 exact ⟨rfl,_,(wHg rfl rfl),ac,_,(bL.pick [0] _ (by decide) rfl),none,0,rfl,rfl⟩
 rintro cE cG cu ⟨bh,bg,br,bA,cw,cx,bx,bz,cy,bM⟩ bV
 have b8:=wEB aC az bV
 have bu:Hid (¬ ((↑(((↑p0.length:Int):Int) - 0).toNat:Int) < (↑p0.length:Int))):=zD (wBG)
 refine sR fL1 Z (oR Z (zK Z bA bz) (eN (zH (cF Z bu (zr (zV (zV (zk (zI (sR fL3 Z (oM Z bx (oA Z Z (oA Z Z (eN (zR ?_)))))))))))))))
 cases b8
 exact ⟨Z,_,(wHg Z Z),bh,_,bM,bg,br,Z,Z⟩
 intro c6 b9
 refine cT Z c6 (sR fL2 Z (oA Z Z (oA Z Z (eN (zR (zc ?_))))))
 have bN:=hS.nilrow 3 1
 cases b9
 exact ⟨Z,_,(wHg Z Z),U,_,bN,none,0,Z,Z⟩
theorem wBT (p0:Int) (p1:Int) (p2:Int) (w:World) (U:PHeap) (hS:St0 w U [])  {r:Bool} (hm:wAu p0 p1 p2=some r):Gv Tryz.prog 202 [jV p0,jV p1,jV p2] w (wBu w [] U (fun U_ L_ v=>v=.bool r/\L_=[])):=by
 unfold wAu at hm
 refine Gv.of Tryz.func202 Z Tryz.ntmps202 Tryz.results202 Z (sR fL1 Z (oA Z Z (eN (sR fL9 Z (oM Z Z (oM Z Z (oR Z (Runs.geq Z Z Z) (oM Z Z ?_))))))))
 by_cases J:p1 <= p0
 have aa:=hm;rw [if_pos J] at aa;replace J:=zD J
 refine zC Z Z Z (wT Z J) Z Z (zC Z Z Z (wT Z J) Z Z (rU Z (wT Z J) (Runs.leq Z Z Z) (oR Z (zb Z (ZJ J.out) Z) (oA Z Z (eN (zR ?_))))))
 first | (obtain rfl:=nA aa) | cases aa
 exact ⟨Z,_,(zh Z),U,_,hS,Z,Z⟩
 have ae:=hm;rw [if_neg J] at ae;replace J:=zD J
 refine oF Z J (oF Z J (oF Z J (oR Z (zX Z (zt J.out) Z) (oA Z Z (eN (zR ?_))))))
 have hE:=nA ae;first | subst r | cases hE
 exact ⟨Z,_,(zh Z),U,_,hS,Z,Z⟩
theorem wES (J:wAH) (p1:(wAH->Option Bool)) (ag:Nat) (ac:Value) (w:World) (U:PHeap) (hS:St0 w U []) (an:Cl U ag 0 [ac]) (ao:FnOK Tryz.prog U ac wJX wJY p1) {r:Bool} (hm:wBH J p1=some r):Gv Tryz.prog 249 [.agg #[jV J.Bib,jV J.Time],.pointer (some ⟨ag,0,none⟩)] w (wBu w [] U (fun U_ L_ v=>v=.bool r/\L_=[])):=by
 unfold wBH at hm
 refine Gv.of Tryz.func249 Z Tryz.ntmps249 Tryz.results249 Z (sR gAf Z ?_)
 let B0:List Value:=[jV J.Bib,jV J.Time]
 refine ZG (cs:=B0) rfl rfl rfl rfl rfl rfl (by rfl) hS ?_
 intro W1 b2 ab
 refine oA Z Z (eN (sR gBc Z (oL Z (ab.ldC (f:=0) an (v:=ac) Z Z Tryz.isAgg329 Z) (oL Z (ab.ldBA (j:=0) Z Z Z Tryz.isAgg40 Zh (vs:=B0) Z Z) (bnK hm fun x5 h6 ap=>Zk (a:=J) Z Z Z Z Z Z (zA Z zL) ab ao Z h6 ?_)))))
 rintro U8 L9 aw ah av ak ⟨rfl,rfl⟩
 have am:sW w U U8 [.blk b2 40 B0] ah:=ak
 refine oR Z (ZV Z Z) (oA Z Z (eN (zR ?_)))
 cases ap
 exact ⟨rfl,_,(zh rfl),U8,_,(am.pick [] _ (by decide) rfl),rfl,rfl⟩
theorem wCv (J:List wAH) (aj:Option Addr) (ak:Nat) (p1:(wAH->Option Bool)) (am:Value) (w:World) (U:PHeap) (hS:St0 w U []) (aP:Sl U 2 aj ak J.length (hD wAF J)) (aQ:FnOK Tryz.prog U am wJX wJY p1) {r:Int} (hm:wAj J p1=some r):Gv Tryz.prog 315 [.slice aj J.length ak,am] w (wBu w [] U (fun U_ L_ v=>v=jV r/\L_=[])):=by
 unfold wAj at hm
 refine Gv.of Tryz.func315 Z Tryz.ntmps315 Tryz.results315 Z (sR fL1 Z (oA Z Z (eN (zH (sR fL3 Z (oM Z Z (oR Z (zw Z Z ZL) (oM Z Z (eN (zP ?_))))))))))
 have q:=wDW hm
 obtain ⟨r3,af⟩:=q
 have q:=wDV af
 obtain ⟨ah,aT⟩:=q
 replace ah:=zD ah
 refine yW (fun k2 _ σ_ w_=>∃ (U_:PHeap),σ_ 8=jV (↑k2:Int)/\σ_ 0=.slice aj J.length ak/\σ_ 1=am/\σ_ 7=jV (↑J.length:Int)/\PHeap.Le U U_/\sW w U U_ [] w_) aT ?_ ?_ ?_
 exact ⟨U,Z,Z,Z,Z,(zS _),hS⟩
 rintro k2 ⟨⟩ bq bu W8 ag ⟨bb,ae,ap,aq,au,ai,aw⟩ az aR
 try dsimp only at az
 have ao:Hid ((↑k2:Int) < (↑J.length:Int)):=zD (wBh ag)
 replace ag:=zD ag
 have aU:Hid (w64 ((↑k2:Int) + 1)=(↑(k2 + 1):Int)):=zD (by have h1:=ah.out;have h2:=ao.out;rw [wAf] <;> omega)
 refine sR fL1 Z (oR Z (zK Z ae au) (eN (zH (cT Z ao (kN (zH (zP (sR fL2 Z (oM Z ae (oA Z Z (eN (sR (wCA (.fx 5 .nil .stop)) Z (oM Z aq (oM Z ap (oM Z Z (bnK az fun an av aV=>?_))))))))))))))))
 have aI:=aP.le ai
 have q:=aI.el (fun _=>rfl) (wBW av)
 obtain ⟨bg,bk,aL,aM⟩:=q
 refine oR Z (ZS Z Z aL Z ZL Zh (wCw av)) (oL Z (aw.ldCA (f:=0) aM Z Z Tryz.isAgg40 Zh (us:=[jV an.Bib,jV an.Time]) Z Z) (bnK aV fun bp aJ aW=>?_))
 have aK:=aQ.le ai
 refine Zk (a:=an) Z Z Z Z Z Z (zA Z zL) aw aK Z aJ ?_
 rintro ab ba bn aC a7 aN ⟨rfl,rfl⟩
 have ax:sW w U ab [] aC:=aN
 refine eN (ifc aW ?_ ?_)
 intro ac aX
 refine ZB (congrArg hJ ac.out) (sR fL2 Z (oM Z Z (oA Z Z (eN (zR (zq (zc ?_)))))))
 have q:=wAe aX
 obtain ⟨a8,aY,aF⟩:=q
 have q:=wDf hm af (aR a8 aF)
 obtain rfl:=q
 refine zc (zq (zc ?_))
 cases aY
 exact ⟨Z,_,(zh Z),ab,_,ax,Z,Z⟩
 intro ac aZ
 refine ze (congrArg hJ (hM.2 ac.out)) (zo (zd (zI (rR fL2 Z (oR Z (ZE (zQ Z ae Z) (congrArg (jV) aU.out)) (oM Z Z (zY ?_)))))))
 have q:=nA aZ
 obtain rfl:=q
 exact zI ⟨Z,_,Z,⟨ab,Z,ap,aq,au,(ai.trans a7),ax⟩⟩
 rintro ⟨⟩ br bc ⟨aB,aH,bh,bi,aG,bj,aO⟩ aS
 have ay:=wEB hm af aS
 try dsimp only at ay
 have aD:Hid (¬ ((↑(((↑J.length:Int):Int) - 0).toNat:Int) < (↑J.length:Int))):=zD (wBG)
 refine sR fL1 Z (oR Z (zK Z aH aG) (eN (zH (cF Z aD (zr (zV (zV (zk (zI (sR fL1 Z (oA Z Z (eN (zR ?_)))))))))))))
 cases ay
 exact ⟨Z,_,(zh Z),aB,_,aO,Z,Z⟩
theorem wCf (J:List wAH) (ab:Option Addr) (ac:Nat) (p1:(wAH->Option Bool)) (ae:Value) (w:World) (U:PHeap) (hS:St0 w U []) (am:Sl U 2 ab ac J.length (hD wAF J)) (an:FnOK Tryz.prog U ae wJX wJY p1) {r:Bool} (hm:wAn J p1=some r):Gv Tryz.prog 248 [.slice ab J.length ac,ae] w (wBu w [] U (fun U_ L_ v=>v=.bool r/\L_=[])):=by
 unfold wAn at hm
 refine Gv.of Tryz.func248 Z Tryz.ntmps248 Tryz.results248 Z (sR fL1 Z (oA Z Z (eN (sR gBc Z (oM Z Z (oM Z Z (bnK hm fun x1 h2 ag=>zG 0 Z Z Z Z (zF Z Z Tryz.call315 (zA Z (zA Z zL)) Z) hS (fun hs=>wCv J ab ac p1 ae w U hs am an h2) (.inr Z) ?_)))))))
 rintro U4 L5 v6 W7 ap ak ⟨rfl,rfl⟩
 have aj:sW w U U4 [] W7:=ak
 refine oR Z (Runs.geq Z Z Z) (oA Z Z (eN (zR ?_)))
 first | (obtain rfl:=nA ag) | cases ag
 exact ⟨Z,_,(zh Z),U4,_,aj,Z,Z⟩
theorem wEn (p0:List wAH) (ag:Option Addr) (ah:Nat) (p1:(wAH->Option Bool)) (ae:Value) (w:World) (U:PHeap) (hS:St0 w U []) (aB:Sl U 2 ag ah p0.length (hD wAF p0)) (ak:FnOK Tryz.prog U ae wJX wJY p1) {r:Bool} (hm:wBo p0 p1=some r):Gv Tryz.prog 203 [.slice ag p0.length ah,ae] w (wBu w [] U (fun U_ L_ v=>v=.bool r/\L_=[])):=by
 unfold wBo at hm
 refine Gv.of Tryz.func203 Z Tryz.ntmps203 Tryz.results203 Z (sR gAf Z (ZG (cs:=[ae]) Z Z Z Z Z Z (FnOK.cells ak) hS ?_))
 intro W1 J ay
 have q:=ay.freeze (k:=0) rfl
 obtain ⟨U5,am,aa,az⟩:=q
 replace aa:=Cl.of aa
 have aA:sW w U U5 [] W1:=az
 replace aa:Cl U5 J 0 [ae]:=aa
 refine oA Z Z (eN (sR gBc Z (oM Z Z (oR Z (yF Z zL (zA Z zL)) ?_))))
 have ap:=aB.le am
 have aq:=ak.le am
 have av:FnOK Tryz.prog U5 (.func (.func 249) #[] #[.pointer (some ⟨J,0,none⟩)]) wJX wJY (fun x=>wBH x p1):=⟨249,[],[.pointer (some ⟨J,0,none⟩)],rfl,Tryz.call249,fun U1 w1 x y vs le hs ha hm=>by obtain rfl:=ha;exact wES x p1 J ae w1 U1 hs (aa.le le) (aq.le le) hm⟩
 refine bnK hm fun aI au aC=>zG 0 Z Z Z Z (zF Z Z Tryz.call248 (zA Z (zA Z zL)) Z) aA (fun hs=>wCf p0 ag ah (fun x=>wBH x p1) (.func (.func 249) #[] #[.pointer (some ⟨J,0,none⟩)]) W1 U5 hs ap av au) (.inr Z) ?_
 rintro ai aF aH ao aG aw ⟨rfl,rfl⟩
 have ax:sW w U ai [] ao:=aw
 refine oR Z (ZV Z Z) (oA Z Z (eN (zR ?_)))
 cases aC
 exact ⟨Z,_,(zh Z),ai,_,ax,Z,Z⟩
theorem wGr (p0:wAH) (w:World) (U:PHeap) (hS:St0 w U [])  {r:Bool} (hm:wCn p0=some r):Gv Tryz.prog 204 [.agg #[jV p0.Bib,jV p0.Time]] w (wBu w [] U (fun U_ L_ v=>v=.bool r/\L_=[])):=by
 unfold wCn at hm
 refine Gv.of Tryz.func204 Z Tryz.ntmps204 Tryz.results204 Z (sR gAf Z ?_)
 let B0:List Value:=[jV p0.Bib,jV p0.Time]
 refine ZG (cs:=B0) rfl rfl rfl rfl rfl rfl (by rfl) hS ?_
 intro W1 b2 ai
 refine oA Z Z (eN (sR (.fl 0 (.fl 1 (.fx 2 (wKe gAn) .stop))) Z (oR Z (zO Z Z Zb Z zB) (oL Z (ai.ldB (j:=0) Z Z Z zM (v:=jV p0.Bib) Z) (bnK hm fun x5 h6 ax=>zG 0 Z Z Z Z (zF Z Z Zt (zA Z (zA Z (zA Z zL))) Z) ai (fun hs=>wBT p0.Bib 1 999 W1 U hs h6) (.inr Z) ?_)))))
 rintro U8 L9 aC ag aA ao ⟨rfl,rfl⟩
 have ae:sW w U U8 [.blk b2 40 B0] ag:=ao
 refine oM Z Z (ifc ax ?_ ?_)
 intro J au
 refine zT Z Z Z (zU Z Z (congrArg hJ J.out)) (fun _=>zO Z Z Zb Z zB) (zn Z Z Z (zU Z Z (congrArg hJ J.out)) (ae.ldB (j:=0) Z Z Z zM (v:=jV p0.Time) Z) Z (bnK au fun aF am av=>zG 0 Z Z Z (zU Z Z (congrArg hJ J.out)) (zF Z Z Zt (zA Z (zA Z (zA Z zL))) Z) ae (fun hs=>wBT p0.Time (-1) 360000 ag U8 hs am) (.inr Z) ?_))
 rintro af ay aD ak aB ap ⟨rfl,rfl⟩
 have aq:sW w U af [.blk b2 40 B0] ak:=ap
 refine oR Z (zb Z (congrArg hJ J.out) Z) (oA Z Z (eN (zR ?_)))
 have hE:=nA av;first | subst r | cases hE
 exact ⟨rfl,_,(zh rfl),af,_,(aq.pick [] _ (by decide) rfl),rfl,rfl⟩
 intro J aw
 refine ZA Z Z Z (zf Z Z (congrArg hJ (hM.2 J.out)) Z) (ZA Z Z Z (zf Z Z (congrArg hJ (hM.2 J.out)) Z) (Zg Z Z Z (zf Z Z (congrArg hJ (hM.2 J.out)) Z) (oR Z (zX Z (congrArg hJ (hM.2 J.out)) Z) (oA Z Z (eN (zR ?_))))))
 have hE:=nA aw;first | subst r | cases hE
 exact ⟨rfl,_,(zh rfl),U8,_,(ae.pick [] _ (by decide) rfl),rfl,rfl⟩
theorem wDz (J:wAC) (p1:(wAC->Option Bool)) (ag:Nat) (ac:Value) (w:World) (U:PHeap) (hS:St0 w U []) (an:Cl U ag 0 [ac]) (ao:FnOK Tryz.prog U ac wHs wHt p1) {r:Bool} (hm:wAr J p1=some r):Gv Tryz.prog 251 [.agg #[jV J.Number,jV J.Kind,jV J.Minute,jV J.Bib,jV J.Much,jV J.About],.pointer (some ⟨ag,0,none⟩)] w (wBu w [] U (fun U_ L_ v=>v=.bool r/\L_=[])):=by
 unfold wAr at hm
 refine Gv.of Tryz.func251 Z Tryz.ntmps251 Tryz.results251 Z (sR gAf Z ?_)
 let B0:List Value:=[jV J.Number,jV J.Kind,jV J.Minute,jV J.Bib,jV J.Much,jV J.About]
 refine ZG (cs:=B0) rfl rfl rfl rfl rfl rfl (by rfl) hS ?_
 intro W1 b2 ab
 refine oA Z Z (eN (sR gBc Z (oL Z (ab.ldC (f:=0) an (v:=ac) Z Z Tryz.isAgg133 Z) (oL Z (ab.ldBA (j:=0) Z Z Z ZF zi (vs:=B0) Z Z) (bnK hm fun x5 h6 ap=>Zk (a:=J) Z Z Z Z Z Z (zA Z zL) ab ao Z h6 ?_)))))
 rintro U8 L9 aw ah av ak ⟨rfl,rfl⟩
 have am:sW w U U8 [.blk b2 46 B0] ah:=ak
 refine oR Z (ZV Z Z) (oA Z Z (eN (zR ?_)))
 cases ap
 exact ⟨rfl,_,(zh rfl),U8,_,(am.pick [] _ (by decide) rfl),rfl,rfl⟩
theorem wCR (J:List wAC) (ak:Option Addr) (am:Nat) (p1:(wAC->Option Bool)) (an:Value) (w:World) (U:PHeap) (hS:St0 w U []) (aP:Sl U 6 ak am J.length (hD wAD J)) (aQ:FnOK Tryz.prog U an wHs wHt p1) {r:Int} (hm:wAb J p1=some r):Gv Tryz.prog 316 [.slice ak J.length am,an] w (wBu w [] U (fun U_ L_ v=>v=jV r/\L_=[])):=by
 unfold wAb at hm
 refine Gv.of Tryz.func316 Z Tryz.ntmps316 Tryz.results316 Z (sR fL1 Z (oA Z Z (eN (zH (sR fL3 Z (oM Z Z (oR Z (zw Z Z ZC) (oM Z Z (eN (zP ?_))))))))))
 have q:=wDW hm
 obtain ⟨r3,ag⟩:=q
 have q:=wDV ag
 obtain ⟨ai,aT⟩:=q
 replace ai:=zD ai
 refine yW (fun k2 _ σ_ w_=>∃ (U_:PHeap),σ_ 8=jV (↑k2:Int)/\σ_ 0=.slice ak J.length am/\σ_ 1=an/\σ_ 7=jV (↑J.length:Int)/\PHeap.Le U U_/\sW w U U_ [] w_) aT ?_ ?_ ?_
 exact ⟨U,Z,Z,Z,Z,(zS _),hS⟩
 rintro k2 ⟨⟩ bq bu W8 ah ⟨bb,af,ap,aq,au,aj,aw⟩ az aR
 try dsimp only at az
 have ao:Hid ((↑k2:Int) < (↑J.length:Int)):=zD (wBh ah)
 replace ah:=zD ah
 have aU:Hid (w64 ((↑k2:Int) + 1)=(↑(k2 + 1):Int)):=zD (by have h1:=ai.out;have h2:=ao.out;rw [wAf] <;> omega)
 refine sR fL1 Z (oR Z (zK Z af au) (eN (zH (cT Z ao (kN (zH (zP (sR fL2 Z (oM Z af (oA Z Z (eN (sR (wCA (.fx 5 .nil .stop)) Z (oM Z aq (oM Z ap (oM Z Z (bnK az fun aa av aV=>?_))))))))))))))))
 have aI:=aP.le aj
 have q:=aI.el (fun _=>rfl) (wBW av)
 obtain ⟨bg,bk,aL,aM⟩:=q
 refine oR Z (ZS Z Z aL Z ZC zi (wCw av)) (oL Z (aw.ldCA (f:=0) aM Z Z ZF zi (us:=[jV aa.Number,jV aa.Kind,jV aa.Minute,jV aa.Bib,jV aa.Much,jV aa.About]) Z Z) (bnK aV fun bp aJ aW=>?_))
 have aK:=aQ.le aj
 refine Zk (a:=aa) Z Z Z Z Z Z (zA Z zL) aw aK Z aJ ?_
 rintro ac ba bn aC a7 aN ⟨rfl,rfl⟩
 have ax:sW w U ac [] aC:=aN
 refine eN (ifc aW ?_ ?_)
 intro ae aX
 refine ZB (congrArg hJ ae.out) (sR fL2 Z (oM Z Z (oA Z Z (eN (zR (zq (zc ?_)))))))
 have q:=wAe aX
 obtain ⟨a8,aY,aF⟩:=q
 have q:=wDf hm ag (aR a8 aF)
 obtain rfl:=q
 refine zc (zq (zc ?_))
 cases aY
 exact ⟨Z,_,(zh Z),ac,_,ax,Z,Z⟩
 intro ae aZ
 refine ze (congrArg hJ (hM.2 ae.out)) (zo (zd (zI (rR fL2 Z (oR Z (ZE (zQ Z af Z) (congrArg (jV) aU.out)) (oM Z Z (zY ?_)))))))
 have q:=nA aZ
 obtain rfl:=q
 exact zI ⟨Z,_,Z,⟨ac,Z,ap,aq,au,(aj.trans a7),ax⟩⟩
 rintro ⟨⟩ br bc ⟨aB,aH,bh,bi,aG,bj,aO⟩ aS
 have ay:=wEB hm ag aS
 try dsimp only at ay
 have aD:Hid (¬ ((↑(((↑J.length:Int):Int) - 0).toNat:Int) < (↑J.length:Int))):=zD (wBG)
 refine sR fL1 Z (oR Z (zK Z aH aG) (eN (zH (cF Z aD (zr (zV (zV (zk (zI (sR fL1 Z (oA Z Z (eN (zR ?_)))))))))))))
 cases ay
 exact ⟨Z,_,(zh Z),aB,_,aO,Z,Z⟩
theorem wCE (J:List wAC) (ab:Option Addr) (ac:Nat) (p1:(wAC->Option Bool)) (ae:Value) (w:World) (U:PHeap) (hS:St0 w U []) (am:Sl U 6 ab ac J.length (hD wAD J)) (an:FnOK Tryz.prog U ae wHs wHt p1) {r:Bool} (hm:wAg J p1=some r):Gv Tryz.prog 250 [.slice ab J.length ac,ae] w (wBu w [] U (fun U_ L_ v=>v=.bool r/\L_=[])):=by
 unfold wAg at hm
 refine Gv.of Tryz.func250 Z Tryz.ntmps250 Tryz.results250 Z (sR fL1 Z (oA Z Z (eN (sR gBc Z (oM Z Z (oM Z Z (bnK hm fun x1 h2 ag=>zG 0 Z Z Z Z (zF Z Z Tryz.call316 (zA Z (zA Z zL)) Z) hS (fun hs=>wCR J ab ac p1 ae w U hs am an h2) (.inr Z) ?_)))))))
 rintro U4 L5 v6 W7 ap ak ⟨rfl,rfl⟩
 have aj:sW w U U4 [] W7:=ak
 refine oR Z (Runs.geq Z Z Z) (oA Z Z (eN (zR ?_)))
 first | (obtain rfl:=nA ag) | cases ag
 exact ⟨Z,_,(zh Z),U4,_,aj,Z,Z⟩
theorem wCY (p0:List wAC) (ag:Option Addr) (ah:Nat) (p1:(wAC->Option Bool)) (ae:Value) (w:World) (U:PHeap) (hS:St0 w U []) (aB:Sl U 6 ag ah p0.length (hD wAD p0)) (ak:FnOK Tryz.prog U ae wHs wHt p1) {r:Bool} (hm:wBA p0 p1=some r):Gv Tryz.prog 205 [.slice ag p0.length ah,ae] w (wBu w [] U (fun U_ L_ v=>v=.bool r/\L_=[])):=by
 unfold wBA at hm
 refine Gv.of Tryz.func205 Z Tryz.ntmps205 Tryz.results205 Z (sR gAf Z (ZG (cs:=[ae]) Z Z Z Z Z Z (FnOK.cells ak) hS ?_))
 intro W1 J ay
 have q:=ay.freeze (k:=0) rfl
 obtain ⟨U5,am,aa,az⟩:=q
 replace aa:=Cl.of aa
 have aA:sW w U U5 [] W1:=az
 replace aa:Cl U5 J 0 [ae]:=aa
 refine oA Z Z (eN (sR gBc Z (oM Z Z (oR Z (yF Z zL (zA Z zL)) ?_))))
 have ap:=aB.le am
 have aq:=ak.le am
 have av:FnOK Tryz.prog U5 (.func (.func 251) #[] #[.pointer (some ⟨J,0,none⟩)]) wHs wHt (fun x=>wAr x p1):=⟨251,[],[.pointer (some ⟨J,0,none⟩)],rfl,Tryz.call251,fun U1 w1 x y vs le hs ha hm=>by obtain rfl:=ha;exact wDz x p1 J ae w1 U1 hs (aa.le le) (aq.le le) hm⟩
 refine bnK hm fun aI au aC=>zG 0 Z Z Z Z (zF Z Z Tryz.call250 (zA Z (zA Z zL)) Z) aA (fun hs=>wCE p0 ag ah (fun x=>wAr x p1) (.func (.func 251) #[] #[.pointer (some ⟨J,0,none⟩)]) W1 U5 hs ap av au) (.inr Z) ?_
 rintro ai aF aH ao aG aw ⟨rfl,rfl⟩
 have ax:sW w U ai [] ao:=aw
 refine oR Z (ZV Z Z) (oA Z Z (eN (zR ?_)))
 cases aC
 exact ⟨Z,_,(zh Z),ai,_,ax,Z,Z⟩
theorem wCS (J:Int) (w:World) (U:PHeap) (hS:St0 w U [])  {r:Bool} (hm:wAp J=some r):Gv Tryz.prog 210 [jV J] w (wBu w [] U (fun U_ L_ v=>v=.bool r/\L_=[])):=by
 unfold wAp at hm
 refine Gv.of Tryz.func210 Z Tryz.ntmps210 Tryz.results210 Z (sR fL1 Z (oA Z Z (eN (sR fL3 Z (oM Z Z (oR Z (Runs.leq Z Z Z) (oA Z Z (eN (zR ?_)))))))))
 first | (obtain rfl:=nA hm) | cases hm
 exact ⟨Z,_,(zh Z),U,_,hS,Z,Z⟩
theorem wEd (J:wAC) (w:World) (U:PHeap) (hS:St0 w U [])  {r:Bool} (hm:wBP J=some r):Gv Tryz.prog 206 [.agg #[jV J.Number,jV J.Kind,jV J.Minute,jV J.Bib,jV J.Much,jV J.About]] w (wBu w [] U (fun U_ L_ v=>v=.bool r/\L_=[])):=by
 unfold wBP at hm
 refine Gv.of Tryz.func206 Z Tryz.ntmps206 Tryz.results206 Z (sR gAf Z ?_)
 let B0:List Value:=[jV J.Number,jV J.Kind,jV J.Minute,jV J.Bib,jV J.Much,jV J.About]
 refine ZG (cs:=B0) rfl rfl rfl rfl rfl rfl (by rfl) hS ?_
 intro W1 b2 an
 refine oA Z Z (eN (sR fL1 Z (oA Z Z (eN (zH (bnK hm fun b5 aV bW=>yH (fun σ_ w_=>∃ (U_:PHeap),σ_ 1=.pointer (some ⟨b2,0,none⟩)/\σ_ 3=jV 36000/\σ_ 17=.bool b5/\PHeap.Le U U_/\sW w U U_ [.blk b2 46 B0] w_) ?_ ?_))))))
 refine rR (wIM (.fx 6 (wLj (.nil)) .stop)) Z (oR Z (zO Z Z zW Z ZP) (oL Z (an.ldB (j:=0) Z Z Z ZR (v:=jV J.Kind) Z) (oR Z (Zr Z Z Z) (oM Z Z ?_))))
 by_cases c9:J.Kind=3
 have aT:=aV;rw [if_pos c9] at aT;replace c9:=zD c9
 refine oT Z c9 (oT Z c9 (Zg Z Z Z (zf Z Z (ZJ c9.out) Z) (oT Z c9 (oT Z c9 (ZA Z Z Z (wDO Z Z Z) (ZA Z Z Z (wDO Z Z Z) (ZA Z Z Z (wDO Z Z Z) (oT Z c9 (oR Z (zb Z (ZJ c9.out) Z) (zY ?_))))))))))
 cases aT
 exact zI ⟨Z,⟨U,Z,Z,Z,(zS _),an⟩⟩
 have aU:=aV;rw [if_neg c9] at aU;replace c9:=zD c9
 refine rU Z (wF Z c9) (zO Z Z zW Z ZP) (zn Z Z Z (wF Z c9) (an.ldB (j:=0) Z Z Z ZR (v:=jV J.Kind) Z) Z (bnK aU fun cM bg bL=>zG 0 Z Z Z (wF Z c9) (zF Z Z Tryz.call210 (zA Z zL) Z) an (fun hs=>wCS J.Kind W1 U hs bg) (.inr Z) ?_))
 rintro au cg cC aZ aW bu ⟨rfl,rfl⟩
 have aC:sW w U au [.blk b2 46 B0] aZ:=bu
 refine rU Z (wF Z c9) (ZV Z Z) (zC Z Z Z (wF Z c9) Z Z (ifc bL ?_ ?_))
 intro ah bM
 refine ZA Z Z Z (zf Z Z (nC ah.out) Z) (ZA Z Z Z (zf Z Z (nC ah.out) Z) (ZA Z Z Z (zf Z Z (nC ah.out) Z) (rU Z (wF Z c9) (zX Z (nC ah.out) Z) (oR Z (zX Z (zt c9.out) Z) (zY ?_)))))
 cases bM
 exact zI ⟨Z,⟨au,Z,Z,Z,aW,aC⟩⟩
 intro ah bN
 refine zT Z Z Z (zU Z Z (nF (ah.out))) (fun _=>zO Z Z zW Z ZP) (zn Z Z Z (zU Z Z (nF (ah.out))) (aC.ldB (j:=0) Z Z Z ZR (v:=jV J.Kind) Z) Z (zT Z Z Z (zU Z Z (nF (ah.out))) (fun _=>Zf Z Z Z) (rU Z (wF Z c9) (zb Z (nF (ah.out)) Z) (oR Z (zX Z (zt c9.out) Z) (zY ?_)))))
 have q:=nA bN
 obtain rfl:=q
 exact zI ⟨Z,⟨au,Z,Z,Z,aW,aC⟩⟩
 rintro cS aN ⟨aJ,am,ba,aS,cr,ao⟩
 refine ifc bW ?_ ?_
 intro az bO
 refine ZB (aS.trans (congrArg hJ az.out)) (rR fL1 Z (oA Z Z (eN (sR (.fl 0 (.fl 1 (.fx 2 (wKe (.fx 6 (wKf (.fx 11 (wKg gAq) .stop)) .stop)) .stop))) Z (oR Z (zO Z am zW Z zB) (oL Z (ao.ldB (j:=0) Z Z Z zM (v:=jV J.Number) Z) (bnK bO fun cN bh bP=>zG 0 Z Z Z Z (zF Z Z Zt (zA Z (zA Z (zA Z zL))) Z) ao (fun hs=>wBT J.Number 1 9999 aN aJ hs bh) (.inr Z) ?_)))))))
 rintro av ch cD aO ct bw ⟨rfl,rfl⟩
 have aD:sW w U av [.blk b2 46 B0] aO:=bw
 refine oM Z Z (ifc bP ?_ ?_)
 intro ai bQ
 refine zT Z Z Z (zU Z Z (congrArg hJ ai.out)) (fun _=>zO Z am zW Z ZP) (zn Z Z Z (zU Z Z (congrArg hJ ai.out)) (aD.ldB (j:=0) Z Z Z ZR (v:=jV J.Kind) Z) Z (bnK bQ fun cO bi bR=>zG 0 Z Z Z (zU Z Z (congrArg hJ ai.out)) (zF Z Z Zt (zA Z (zA Z (zA Z zL))) Z) aD (fun hs=>wBT J.Kind 0 9 aO av hs bi) (.inr Z) ?_))
 rintro aw ci cE aP cu bx ⟨rfl,rfl⟩
 have aF:sW w U aw [.blk b2 46 B0] aP:=bx
 refine oR Z (zb Z (congrArg hJ ai.out) Z) (oM Z Z (ifc bR ?_ ?_))
 intro aj bS
 refine zT Z Z Z (zU Z Z (congrArg hJ aj.out)) (fun _=>zO Z am zW Z zB) (zn Z Z Z (zU Z Z (congrArg hJ aj.out)) (aF.ldB (j:=0) Z Z Z zM (v:=jV J.Minute) Z) Z (bnK bS fun cP bj bT=>zG 0 Z Z Z (zU Z Z (congrArg hJ aj.out)) (zF Z Z Zt (zA Z (zA Z (zA Z zL))) Z) aF (fun hs=>wBT J.Minute 0 10000 aP aw hs bj) (.inr Z) ?_))
 rintro ax cj cG aQ cw bz ⟨rfl,rfl⟩
 have aG:sW w U ax [.blk b2 46 B0] aQ:=bz
 refine oR Z (zb Z (congrArg hJ aj.out) Z) (oM Z Z (ifc bT ?_ ?_))
 intro af bU
 refine zT Z Z Z (zU Z Z (congrArg hJ af.out)) (fun _=>zO Z am zW Z zB) (zn Z Z Z (zU Z Z (congrArg hJ af.out)) (aG.ldB (j:=0) Z Z Z zM (v:=jV J.Much) Z) Z (zC Z Z Z (zU Z Z (congrArg hJ af.out)) Z Z (bnK bU fun cQ bk bV=>zG 0 Z Z Z (zU Z Z (congrArg hJ af.out)) (zF Z Z Zt (zA Z (zA Z (zA Z zL))) Z) aG (fun hs=>wBT J.Much 0 0 aQ ax hs bk) (.inr Z) ?_)))
 rintro aK cm cH a7 cx bA ⟨rfl,rfl⟩
 have bB:sW w U aK [.blk b2 46 B0] a7:=bA
 refine oR Z (zb Z (congrArg hJ af.out) Z) (oA Z Z (eN (zR ?_)))
 have hE:=nA bV;first | subst r | cases hE
 exact ⟨rfl,_,(zh rfl),aK,_,(bB.pick [] _ (by decide) rfl),rfl,rfl⟩
 intro af bX
 refine ZA Z Z Z (zf Z Z (congrArg hJ (hM.2 af.out)) Z) (ZA Z Z Z (zf Z Z (congrArg hJ (hM.2 af.out)) Z) (ZA Z Z Z (zf Z Z (congrArg hJ (hM.2 af.out)) Z) (Zg Z Z Z (zf Z Z (congrArg hJ (hM.2 af.out)) Z) (oR Z (zX Z (congrArg hJ (hM.2 af.out)) Z) (oA Z Z (eN (zR ?_)))))))
 have hE:=nA bX;first | subst r | cases hE
 exact ⟨rfl,_,(zh rfl),ax,_,(aG.pick [] _ (by decide) rfl),rfl,rfl⟩
 intro aj bY
 refine ZA Z Z Z (zf Z Z (congrArg hJ (hM.2 aj.out)) Z) (ZA Z Z Z (zf Z Z (congrArg hJ (hM.2 aj.out)) Z) (Zg Z Z Z (zf Z Z (congrArg hJ (hM.2 aj.out)) Z) (oR Z (zX Z (congrArg hJ (hM.2 aj.out)) Z) (oM Z Z (oN Z (oN Z (oN Z (Zg Z Z Z (zf Z Z Z Z) (oR Z (zX Z Z Z) (oA Z Z (eN (zR ?_))))))))))))
 have hE:=nA bY;first | subst r | cases hE
 exact ⟨rfl,_,(zh rfl),aw,_,(aF.pick [] _ (by decide) rfl),rfl,rfl⟩
 intro ai bZ
 refine ZA Z Z Z (zf Z Z (congrArg hJ (hM.2 ai.out)) Z) (ZA Z Z Z (zf Z Z (congrArg hJ (hM.2 ai.out)) Z) (Zg Z Z Z (zf Z Z (congrArg hJ (hM.2 ai.out)) Z) (oR Z (zX Z (congrArg hJ (hM.2 ai.out)) Z) (oM Z Z (oN Z (oN Z (Zg Z Z Z (zf Z Z Z Z) (oR Z (zX Z Z Z) (oM Z Z (oN Z (oN Z (oN Z (Zg Z Z Z (zf Z Z Z Z) (oR Z (zX Z Z Z) (oA Z Z (eN (zR ?_)))))))))))))))))
 have hE:=nA bZ;first | subst r | cases hE
 exact ⟨rfl,_,(zh rfl),av,_,(aD.pick [] _ (by decide) rfl),rfl,rfl⟩
 intro az b4
 refine ze (aS.trans (congrArg hJ (hM.2 az.out))) (kN (sR (.fl 0 (.fl 1 (.fx 2 (wKe (.fx 6 (wKf (.fx 11 (wKg gAq) .stop)) .stop)) .stop))) Z (oR Z (zO Z am zW Z zB) (oL Z (ao.ldB (j:=0) Z Z Z zM (v:=jV J.Number) Z) (bnK b4 fun cR bm b8=>zG 0 Z Z Z Z (zF Z Z Zt (zA Z (zA Z (zA Z zL))) Z) ao (fun hs=>wBT J.Number 1 9999 aN aJ hs bm) (.inr Z) ?_)))))
 rintro ay cn cI aR cy bC ⟨rfl,rfl⟩
 have aH:sW w U ay [.blk b2 46 B0] aR:=bC
 refine oM Z Z (ifc b8 ?_ ?_)
 intro ak b9
 refine zT Z Z Z (zU Z Z (congrArg hJ ak.out)) (fun _=>zO Z am zW Z ZP) (zn Z Z Z (zU Z Z (congrArg hJ ak.out)) (aH.ldB (j:=0) Z Z Z ZR (v:=jV J.Kind) Z) Z (bnK b9 fun cJ bb bD=>zG 0 Z Z Z (zU Z Z (congrArg hJ ak.out)) (zF Z Z Zt (zA Z (zA Z (zA Z zL))) Z) aH (fun hs=>wBT J.Kind 0 9 aR ay hs bb) (.inr Z) ?_))
 rintro ap ca cz aL co bn ⟨rfl,rfl⟩
 have aA:sW w U ap [.blk b2 46 B0] aL:=bn
 refine oR Z (zb Z (congrArg hJ ak.out) Z) (oM Z Z (ifc bD ?_ ?_))
 intro ag bE
 refine zT Z Z Z (zU Z Z (congrArg hJ ag.out)) (fun _=>zO Z am zW Z zB) (zn Z Z Z (zU Z Z (congrArg hJ ag.out)) (aA.ldB (j:=0) Z Z Z zM (v:=jV J.Minute) Z) Z (bnK bE fun cK bc bF=>zG 0 Z Z Z (zU Z Z (congrArg hJ ag.out)) (zF Z Z Zt (zA Z (zA Z (zA Z zL))) Z) aA (fun hs=>wBT J.Minute 0 10000 aL ap hs bc) (.inr Z) ?_))
 rintro aq cc cA aM cp bp ⟨rfl,rfl⟩
 have aB:sW w U aq [.blk b2 46 B0] aM:=bp
 refine oR Z (zb Z (congrArg hJ ag.out) Z) (oM Z Z (ifc bF ?_ ?_))
 intro ae bG
 refine zT Z Z Z (zU Z Z (congrArg hJ ae.out)) (fun _=>zO Z am zW Z zB) (zn Z Z Z (zU Z Z (congrArg hJ ae.out)) (aB.ldB (j:=0) Z Z Z zM (v:=jV J.Much) Z) Z (zC Z Z Z (zU Z Z (congrArg hJ ae.out)) Z ba (bnK bG fun cL be bH=>zG 0 Z Z Z (zU Z Z (congrArg hJ ae.out)) (zF Z Z Zt (zA Z (zA Z (zA Z zL))) Z) aB (fun hs=>wBT J.Much 0 36000 aM aq hs be) (.inr Z) ?_)))
 rintro aI cd cB aY cq bq ⟨rfl,rfl⟩
 have br:sW w U aI [.blk b2 46 B0] aY:=bq
 refine oR Z (zb Z (congrArg hJ ae.out) Z) (oA Z Z (eN (zR ?_)))
 have hE:=nA bH;first | subst r | cases hE
 exact ⟨rfl,_,(zh rfl),aI,_,(br.pick [] _ (by decide) rfl),rfl,rfl⟩
 intro ae bI
 refine ZA Z Z Z (zf Z Z (congrArg hJ (hM.2 ae.out)) Z) (ZA Z Z Z (zf Z Z (congrArg hJ (hM.2 ae.out)) Z) (ZA Z Z Z (zf Z Z (congrArg hJ (hM.2 ae.out)) Z) (Zg Z Z Z (zf Z Z (congrArg hJ (hM.2 ae.out)) Z) (oR Z (zX Z (congrArg hJ (hM.2 ae.out)) Z) (oA Z Z (eN (zR ?_)))))))
 have hE:=nA bI;first | subst r | cases hE
 exact ⟨rfl,_,(zh rfl),aq,_,(aB.pick [] _ (by decide) rfl),rfl,rfl⟩
 intro ag bJ
 refine ZA Z Z Z (zf Z Z (congrArg hJ (hM.2 ag.out)) Z) (ZA Z Z Z (zf Z Z (congrArg hJ (hM.2 ag.out)) Z) (Zg Z Z Z (zf Z Z (congrArg hJ (hM.2 ag.out)) Z) (oR Z (zX Z (congrArg hJ (hM.2 ag.out)) Z) (oM Z Z (oN Z (oN Z (oN Z (Zg Z Z Z (zf Z Z Z Z) (oR Z (zX Z Z Z) (oA Z Z (eN (zR ?_))))))))))))
 have hE:=nA bJ;first | subst r | cases hE
 exact ⟨rfl,_,(zh rfl),ap,_,(aA.pick [] _ (by decide) rfl),rfl,rfl⟩
 intro ak bK
 refine ZA Z Z Z (zf Z Z (congrArg hJ (hM.2 ak.out)) Z) (ZA Z Z Z (zf Z Z (congrArg hJ (hM.2 ak.out)) Z) (Zg Z Z Z (zf Z Z (congrArg hJ (hM.2 ak.out)) Z) (oR Z (zX Z (congrArg hJ (hM.2 ak.out)) Z) (oM Z Z (oN Z (oN Z (Zg Z Z Z (zf Z Z Z Z) (oR Z (zX Z Z Z) (oM Z Z (oN Z (oN Z (oN Z (Zg Z Z Z (zf Z Z Z Z) (oR Z (zX Z Z Z) (oA Z Z (eN (zR ?_)))))))))))))))))
 have hE:=nA bK;first | subst r | cases hE
 exact ⟨rfl,_,(zh rfl),ay,_,(aH.pick [] _ (by decide) rfl),rfl,rfl⟩
end Go.Proofs.YtlmekamhphnmjaaGreat
namespace Go.Proofs.YtlmekamhphnmjaaGreat
open Go.KL
set_option maxHeartbeats 4000000
theorem wEE (J:wAO) (af:Option Addr) (ag:Nat) (au:Option Addr) (av:Nat) (w:World) (U:PHeap) (hS:St0 w U []) (bk:Sl U 2 af ag J.Skiers.length (hD wAF J.Skiers)) (bE:Sl U 6 au av J.Decisions.length (hD wAD J.Decisions)) {r:(List Int)} (hm:wBs J=some r):Gv Tryz.prog 163 [.agg #[jV J.Deadline,.slice af J.Skiers.length ag,.slice au J.Decisions.length av]] w (wBu w [] U (fun U_ L_ v=>∃ (A0:Option Addr) (c0:Nat),v=.slice A0 r.length c0/\L_=[.row A0 c0 3 1 (hD KL.encI r)])):=by
 unfold wBs at hm
 refine Gv.of Tryz.func163 Z Tryz.ntmps163 Tryz.results163 Z (sR gAf Z ?_)
 let B0:List Value:=[jV J.Deadline,.slice af J.Skiers.length ag,.slice au J.Decisions.length av]
 refine ZG (cs:=B0) rfl rfl rfl rfl rfl rfl (by rfl) hS ?_
 intro W1 b2 aH
 refine oA Z Z (eN (sR fL1 Z (oA Z Z (eN (zH (sR fL4 Z (oR Z (zO Z Z zj Z Zu) (oL Z (aH.ldB (j:=0) Z Z Z yL (v:=.slice af J.Skiers.length ag) Z) (oR Z (zw Z Z ZL) (oM Z Z (eN (zP (bnK hm fun bI bm bq=>?_)))))))))))))
 have q:=wBY bm
 obtain ⟨aq,bn⟩:=q
 replace aq:=zD aq
 refine CK.forN' (fun ac ae σ_ w_=>∃ (U_:PHeap) (ah:Option Addr) (am:Nat),σ_ 9=jV (↑ac:Int)/\σ_ 3=.slice ah ae.length am/\σ_ 7=.slice af J.Skiers.length ag/\σ_ 8=jV (↑J.Skiers.length:Int)/\PHeap.Le U U_/\sW w U U_ [.blk b2 28 B0,.row ah am 3 1 (hD KL.encI ae)] w_) bn ?_ ?_ ?_
 have bb:=aH.nilrow 3 1
 exact ⟨U,none,0,rfl,rfl,rfl,rfl,(zS _),(bb.pick [1,0] _ (by decide) rfl)⟩
 rintro ac ae bH bJ bz ap ⟨aj,ah,am,ao,aV,aD,aF,aL,aI⟩ bw
 have aB:Hid ((↑ac:Int) < (↑J.Skiers.length:Int)):=zD (wBh ap)
 replace ap:=zD ap
 have bp:Hid (w64 ((↑ac:Int) + 1)=(↑(ac + 1):Int)):=zD (by have h1:=aq.out;have h2:=aB.out;rw [wAf] <;> omega)
 refine sR fL1 Z (oR Z (zK Z ao aF) (eN (zH (cT Z aB (kN (zH (zP (sR gBb Z (bnK bw fun aa aG br=>?_)))))))))
 have aZ:=bk.le aL
 have q:=aZ.el (fun _=>rfl) (wBW aG)
 obtain ⟨bC,bG,a8,ba⟩:=q
 refine oR Z (ZS Z aD a8 ao ZL Zh (wCw aG)) (oL Z (aI.ldCA (f:=0) ba Z Z Tryz.isAgg40 Zh (us:=[jV aa.Bib,jV aa.Time]) Z Z) (ZI (cs:=[jV 0,jV 0]) Z Z Z Z Z Tryz.zeroValue40 Z aI ?_))
 intro bA an bc
 let B1:List Value:=[jV aa.Bib,jV aa.Time]
 refine ZN (j:=0) (vs:=B1) Z Z Z Z bc Z Z Z Z Zh (zJ Z) Z Z Z ?_
 intro aP be
 let B2:Res:=.row ah am 3 1 (hD KL.encI ae)
 have aJ:sW w U aj [.blk an 40 B1,.blk b2 28 B0,B2] aP:=be
 refine eN (rR (wFi gAr) Z (oM Z aV (oR Z (zO Z Z Zb Z zB) (oL Z (aJ.ldB (j:=0) Z Z Z zM (v:=jV aa.Bib) Z) (ZM (pv:=[(0,jV aa.Bib)]) (zs:=[jV 0]) (cs:=[jV aa.Bib]) Z Z Z Z Z (wAI Z wAd) zN zB Zw Z Z Z Z Z aJ ?_)))))
 intro aQ aS bg
 let B3:Res:=.row (some ⟨aS,0,none⟩) 1 3 1 (hD KL.encI [aa.Bib])
 have aK:sW w U aj [B3,.blk an 40 B1,.blk b2 28 B0,B2] aQ:=bg
 refine bnK br fun aM a7 bu=>yB (j:=3) (enc:=KL.encI) (xs:=ae) (ys:=[aa.Bib]) (zs:=aM) rfl rfl rfl rfl rfl yO wIb rfl rfl rfl rfl rfl rfl aK rfl rfl rfl (aK.srcR (j:=0) rfl (by decide) (wAG (f:=KL.encI) (sz:=1) (fun _=>rfl) [aa.Bib])) (fun _=>rfl) (fun _=>rfl) a7 rfl ?_
 intro ax aC aR bh
 have bi:sW w U aj [B3,.blk an 40 B1,.blk b2 28 B0,.row ax aC 3 1 (hD KL.encI aM)] aR:=bh
 refine oA Z Z (zY (zd (zI (rR fL2 Z (oR Z (ZE (zQ Z ao Z) (congrArg (jV) bp.out)) (oM Z Z (zY ?_)))))))
 cases bu
 exact zI ⟨rfl,⟨aj,ax,aC,rfl,rfl,aD,aF,aL,(bi.pick [2,3] _ (by decide) rfl)⟩⟩
 rintro bK bB ⟨aO,aN,aT,aY,aW,bD,aX,bF,bj⟩
 have aU:Hid (¬ ((↑(((↑J.Skiers.length:Int):Int) - 0).toNat:Int) < (↑J.Skiers.length:Int))):=zD (wBG)
 refine sR fL1 Z (oR Z (zK Z aY aX) (eN (zH (cF Z aU (zr (zV (zV (zk (zI (sR fL2 Z (oM Z aW (oA Z Z (eN (zR ?_))))))))))))))
 have hE:=nA bq;first | subst r | cases hE
 exact ⟨rfl,_,(zh rfl),aO,_,(bj.pick [1] _ (by decide) rfl),aN,aT,rfl,rfl⟩
theorem wGD (J:List Int) (an:Option Addr) (ao:Nat) (w:World) (U:PHeap) (hS:St0 w U []) (aR:Sl U 1 an ao J.length (hD KL.encI J)) {r:Bool} (hm:wDS J=some r):Gv Tryz.prog 207 [.slice an J.length ao] w (wBu w [] U (fun U_ L_ v=>v=.bool r/\L_=[])):=by
 unfold wDS at hm
 refine Gv.of Tryz.func207 Z Tryz.ntmps207 Tryz.results207 Z (sR fL1 Z (oA Z Z (eN (sR gAf Z (OKS.makeMap Z Z Z Z Z hS ?_)))))
 intro W1 b2 aN
 have a8:=MpR.nil wDv wDw
 refine oA Z Z (eN (zH (sR fL3 Z (oM Z Z (oR Z (zw Z Z zN) (oM Z Z (eN (zP ?_))))))))
 have q:=wDW hm
 obtain ⟨bu,aj⟩:=q
 have q:=wDV aj
 obtain ⟨am,aU⟩:=q
 replace am:=zD am
 refine yW (fun aa aB σ_ w_=>∃ (U_:PHeap) (ag:Array MapEntry) (au:Nat),σ_ 9=jV (↑aa:Int)/\σ_ 3=.map (some b2)/\σ_ 7=.slice an J.length ao/\σ_ 8=jV (↑J.length:Int)/\PHeap.Le U U_/\sW w U U_ [.obj b2 (.map ag au)] w_/\MpR ag wDv wDw aB) aU ?_ ?_ ?_
 exact ⟨U,#[],0,Z,Z,Z,Z,(zS _),aN,a8⟩
 rintro aa aB bw bz bg ak ⟨ac,ag,au,ai,ah,ax,ay,aC,ab,az⟩ bb aS
 have aq:Hid ((↑aa:Int) < (↑J.length:Int)):=zD (wBh ak)
 replace ak:=zD ak
 have aV:Hid (w64 ((↑aa:Int) + 1)=(↑(aa + 1):Int)):=zD (by have h1:=am.out;have h2:=aq.out;rw [wAf] <;> omega)
 refine sR fL1 Z (oR Z (zK Z ai ay) (eN (zH (cT Z aq (kN (zH (zP (sR fL3 Z (bnK bb fun ap aA aW=>?_)))))))))
 have aK:=aR.le aC
 have q:=aK.el (fun _=>rfl) (wBW aA)
 obtain ⟨bi,br,aL,aM⟩:=q
 refine oR Z (ZS Z ax aL ai zN zB (wCw aA)) (oL Z (ab.ldC (f:=0) aM (v:=jV ap) Z Z zM Z) (oA Z Z (eN (zH (sR fL3 Z (oM Z ah (oM Z Z (oL Z (ab.lookup1 (j:=0) (mk:=wDv) (mv:=wDw) (a:=ap) (z:=false) Z Z Z Z (wDE yI) wFr Tryz.zeroValue4 az) (eN (ifc aW ?_ ?_))))))))))
 intro af aX
 refine ZB (congrArg hJ af.out) (sR fL1 Z (oA Z Z (eN (zR (zc (zq (zc ?_)))))))
 have q:=wAe aX
 obtain ⟨bc,aY,aH⟩:=q
 have q:=wDf hm aj (aS bc aH)
 obtain rfl:=q
 refine zc (zq (zc ?_))
 have hE:=nA aY;first | subst r | cases hE
 exact ⟨rfl,_,(zh rfl),ac,_,(ab.pick [] _ (by decide) rfl),rfl,rfl⟩
 intro af aZ
 refine ze (congrArg hJ (hM.2 af.out)) (kN (rR gAs rfl (zC rfl rfl rfl rfl rfl ah (zC rfl rfl rfl rfl rfl rfl (OKS.mapPut (x:=.tmp 16) (y:=.tmp 17) (j:=0) (mk:=wDv) (mv:=wDw) (a:=ap) (v:=true) rfl rfl rfl (by first | exact .inl rfl | exact .inr rfl) ab rfl rfl rfl rfl (wDE yI) wFr az rfl ?_)))))
 intro aw av aF ba aO
 have aP:sW w U ac [.obj b2 (.map aw av)] aF:=aO
 refine zY (zd (zI (rR fL2 Z (oR Z (ZE (zQ Z ai Z) (congrArg (jV) aV.out)) (oM Z Z (zY ?_))))))
 have q:=nA aZ
 obtain rfl:=q
 exact zI ⟨Z,_,Z,⟨ac,aw,av,Z,ah,ax,ay,aC,aP,ba⟩⟩
 rintro bx bA bh ⟨aD,bk,bj,aJ,bm,bn,aI,bq,aQ,bp⟩ aT
 have a7:=wEB hm aj aT
 have aG:Hid (¬ ((↑(((↑J.length:Int):Int) - 0).toNat:Int) < (↑J.length:Int))):=zD (wBG)
 refine sR fL1 Z (oR Z (zK Z aJ aI) (eN (zH (cF Z aG (zr (zV (zV (zk (zI (sR fL1 Z (oA Z Z (eN (zR ?_)))))))))))))
 have hE:=nA a7;first | subst r | cases hE
 exact ⟨rfl,_,(zh rfl),aD,_,(aQ.pick [] _ (by decide) rfl),rfl,rfl⟩
theorem wEo (p0:wAO) (au:Option Addr) (av:Nat) (af:Option Addr) (ag:Nat) (w:World) (U:PHeap) (hS:St0 w U []) (bE:Sl U 2 au av p0.Skiers.length (hD wAF p0.Skiers)) (bk:Sl U 6 af ag p0.Decisions.length (hD wAD p0.Decisions)) {r:(List Int)} (hm:wBp p0=some r):Gv Tryz.prog 208 [.agg #[jV p0.Deadline,.slice au p0.Skiers.length av,.slice af p0.Decisions.length ag]] w (wBu w [] U (fun U_ L_ v=>∃ (A0:Option Addr) (c0:Nat),v=.slice A0 r.length c0/\L_=[.row A0 c0 3 1 (hD KL.encI r)])):=by
 unfold wBp at hm
 refine Gv.of Tryz.func208 Z Tryz.ntmps208 Tryz.results208 Z (sR gAf Z ?_)
 let B0:List Value:=[jV p0.Deadline,.slice au p0.Skiers.length av,.slice af p0.Decisions.length ag]
 refine ZG (cs:=B0) rfl rfl rfl rfl rfl rfl (by rfl) hS ?_
 intro W1 b2 aH
 refine oA Z Z (eN (sR fL1 Z (oA Z Z (eN (zH (sR fL4 Z (oR Z (zO Z Z zj Z Zi) (oL Z (aH.ldB (j:=0) Z Z Z Zq (v:=.slice af p0.Decisions.length ag) Z) (oR Z (zw Z Z ZC) (oM Z Z (eN (zP (bnK hm fun bI bm bq=>?_)))))))))))))
 have q:=wBY bm
 obtain ⟨aq,bn⟩:=q
 replace aq:=zD aq
 refine CK.forN' (fun ac ae σ_ w_=>∃ (U_:PHeap) (ah:Option Addr) (am:Nat),σ_ 9=jV (↑ac:Int)/\σ_ 3=.slice ah ae.length am/\σ_ 7=.slice af p0.Decisions.length ag/\σ_ 8=jV (↑p0.Decisions.length:Int)/\PHeap.Le U U_/\sW w U U_ [.blk b2 28 B0,.row ah am 3 1 (hD KL.encI ae)] w_) bn ?_ ?_ ?_
 have bb:=aH.nilrow 3 1
 exact ⟨U,none,0,rfl,rfl,rfl,rfl,(zS _),(bb.pick [1,0] _ (by decide) rfl)⟩
 rintro ac ae bH bJ bz ap ⟨aj,ah,am,ao,aV,aD,aF,aL,aI⟩ bw
 have aB:Hid ((↑ac:Int) < (↑p0.Decisions.length:Int)):=zD (wBh ap)
 replace ap:=zD ap
 have bp:Hid (w64 ((↑ac:Int) + 1)=(↑(ac + 1):Int)):=zD (by have h1:=aq.out;have h2:=aB.out;rw [wAf] <;> omega)
 refine sR fL1 Z (oR Z (zK Z ao aF) (eN (zH (cT Z aB (kN (zH (zP (sR gBb Z (bnK bw fun J aG br=>?_)))))))))
 have aZ:=bk.le aL
 have q:=aZ.el (fun _=>rfl) (wBW aG)
 obtain ⟨bC,bG,a8,ba⟩:=q
 refine oR Z (ZS Z aD a8 ao ZC zi (wCw aG)) (oL Z (aI.ldCA (f:=0) ba Z Z ZF zi (us:=[jV J.Number,jV J.Kind,jV J.Minute,jV J.Bib,jV J.Much,jV J.About]) Z Z) (ZI (cs:=[jV 0,jV 0,jV 0,jV 0,jV 0,jV 0]) Z Z Z Z Z Zl Z aI ?_))
 intro bA an bc
 let B1:List Value:=[jV J.Number,jV J.Kind,jV J.Minute,jV J.Bib,jV J.Much,jV J.About]
 refine ZN (j:=0) (vs:=B1) Z Z Z Z bc Z Z Z Z zi (zJ Z) Z Z Z ?_
 intro aP be
 let B2:Res:=.row ah am 3 1 (hD KL.encI ae)
 have aJ:sW w U aj [.blk an 46 B1,.blk b2 28 B0,B2] aP:=be
 refine eN (rR (wFi gAr) Z (oM Z aV (oR Z (zO Z Z zW Z zB) (oL Z (aJ.ldB (j:=0) Z Z Z zM (v:=jV J.Number) Z) (ZM (pv:=[(0,jV J.Number)]) (zs:=[jV 0]) (cs:=[jV J.Number]) Z Z Z Z Z (wAI Z wAd) zN zB Zw Z Z Z Z Z aJ ?_)))))
 intro aQ aS bg
 let B3:Res:=.row (some ⟨aS,0,none⟩) 1 3 1 (hD KL.encI [J.Number])
 have aK:sW w U aj [B3,.blk an 46 B1,.blk b2 28 B0,B2] aQ:=bg
 refine bnK br fun aM a7 bu=>yB (j:=3) (enc:=KL.encI) (xs:=ae) (ys:=[J.Number]) (zs:=aM) rfl rfl rfl rfl rfl yO wIb rfl rfl rfl rfl rfl rfl aK rfl rfl rfl (aK.srcR (j:=0) rfl (by decide) (wAG (f:=KL.encI) (sz:=1) (fun _=>rfl) [J.Number])) (fun _=>rfl) (fun _=>rfl) a7 rfl ?_
 intro ax aC aR bh
 have bi:sW w U aj [B3,.blk an 46 B1,.blk b2 28 B0,.row ax aC 3 1 (hD KL.encI aM)] aR:=bh
 refine oA Z Z (zY (zd (zI (rR fL2 Z (oR Z (ZE (zQ Z ao Z) (congrArg (jV) bp.out)) (oM Z Z (zY ?_)))))))
 cases bu
 exact zI ⟨rfl,⟨aj,ax,aC,rfl,rfl,aD,aF,aL,(bi.pick [2,3] _ (by decide) rfl)⟩⟩
 rintro bK bB ⟨aO,aN,aT,aY,aW,bD,aX,bF,bj⟩
 have aU:Hid (¬ ((↑(((↑p0.Decisions.length:Int):Int) - 0).toNat:Int) < (↑p0.Decisions.length:Int))):=zD (wBG)
 refine sR fL1 Z (oR Z (zK Z aY aX) (eN (zH (cF Z aU (zr (zV (zV (zk (zI (sR fL2 Z (oM Z aW (oA Z Z (eN (zR ?_))))))))))))))
 have hE:=nA bq;first | subst r | cases hE
 exact ⟨rfl,_,(zh rfl),aO,_,(bj.pick [1] _ (by decide) rfl),aN,aT,rfl,rfl⟩
theorem wEe (J:List Int) (aj:Option Addr) (ak:Nat) (p1:Int) (w:World) (U:PHeap) (hS:St0 w U []) (aI:Sl U 1 aj ak J.length (hD KL.encI J)) {r:Int} (hm:wCC J p1=some r):Gv Tryz.prog 74 [.slice aj J.length ak,jV p1] w (wBu w [] U (fun U_ L_ v=>v=jV r/\L_=[])):=by
 unfold wCC at hm
 refine Gv.of Tryz.func74 Z Tryz.ntmps74 Tryz.results74 Z (sR fL1 Z (oA Z Z (eN (zH (sR fL3 Z (oM Z Z (oR Z (zw Z Z zN) (oM Z Z (eN (zP ?_))))))))))
 have q:=wDW hm
 obtain ⟨r3,af⟩:=q
 have q:=wDV af
 obtain ⟨ah,aL⟩:=q
 replace ah:=zD ah
 refine yW (fun k2 _ σ_ w_=>∃ (U_:PHeap),σ_ 8=jV (↑k2:Int)/\σ_ 0=.slice aj J.length ak/\σ_ 1=jV p1/\σ_ 7=jV (↑J.length:Int)/\PHeap.Le U U_/\sW w U U_ [] w_) aL ?_ ?_ ?_
 exact ⟨U,Z,Z,Z,Z,(zS _),hS⟩
 rintro k2 ⟨⟩ a8 bb W8 ag ⟨am,ac,ao,ap,aq,ax,ae⟩ aw aJ
 try dsimp only at aw
 have an:Hid ((↑k2:Int) < (↑J.length:Int)):=zD (wBh ag)
 replace ag:=zD ag
 have aM:Hid (w64 ((↑k2:Int) + 1)=(↑(k2 + 1):Int)):=zD (by have h1:=ah.out;have h2:=an.out;rw [wAf] <;> omega)
 refine sR fL1 Z (oR Z (zK Z ac aq) (eN (zH (cT Z an (kN (zH (zP (sR fL2 Z (oM Z ac (oA Z Z (eN (sR fL6 Z (oM Z ap (oM Z ao (oM Z Z (bnK aw fun aS au aN=>?_))))))))))))))))
 have aD:=aI.le ax
 have q:=aD.el (fun _=>rfl) (wBW au)
 obtain ⟨aV,aZ,aF,aG⟩:=q
 refine oR Z (ZS Z Z aF Z zN zB (wCw au)) (oL Z (ae.ldC (f:=0) aG (v:=jV aS) Z Z zM Z) (oR Z (Zr Z Z Z) (eN (ifc aN ?_ ?_))))
 intro ab aO
 refine cT Z ab (sR fL2 Z (oM Z Z (oA Z Z (eN (zR (zq (zc ?_)))))))
 have q:=wAe aO
 obtain ⟨aR,aP,aA⟩:=q
 have q:=wDf hm af (aJ aR aA)
 obtain rfl:=q
 refine zc (zq (zc ?_))
 cases aP
 exact ⟨Z,_,(zh Z),am,_,ae,Z,Z⟩
 intro ab aQ
 refine cF Z ab (zo (zd (zI (rR fL2 Z (oR Z (ZE (zQ Z ac Z) (congrArg (jV) aM.out)) (oM Z Z (zY ?_)))))))
 have q:=nA aQ
 obtain rfl:=q
 exact zI ⟨Z,_,Z,⟨am,Z,ao,ap,aq,ax,ae⟩⟩
 rintro ⟨⟩ ba aT ⟨ay,aC,aW,aX,aB,aY,aH⟩ aK
 have av:=wEB hm af aK
 try dsimp only at av
 have az:Hid (¬ ((↑(((↑J.length:Int):Int) - 0).toNat:Int) < (↑J.length:Int))):=zD (wBG)
 refine sR fL1 Z (oR Z (zK Z aC aB) (eN (zH (cF Z az (zr (zV (zV (zk (zI (sR fL1 Z (oA Z Z (eN (zR ?_)))))))))))))
 cases av
 exact ⟨Z,_,(zh Z),ay,_,aH,Z,Z⟩
theorem wDJ (J:List Int) (ab:Option Addr) (ac:Nat) (p1:Int) (w:World) (U:PHeap) (hS:St0 w U []) (ak:Sl U 1 ab ac J.length (hD KL.encI J)) {r:Bool} (hm:wBK J p1=some r):Gv Tryz.prog 32 [.slice ab J.length ac,jV p1] w (wBu w [] U (fun U_ L_ v=>v=.bool r/\L_=[])):=by
 unfold wBK at hm
 refine Gv.of Tryz.func32 Z Tryz.ntmps32 Tryz.results32 Z (sR fL1 Z (oA Z Z (eN (sR gBc Z (oM Z Z (oM Z Z (bnK hm fun x1 h2 af=>zG 0 Z Z Z Z (zF Z Z Tryz.call74 (zA Z (zA Z zL)) Z) hS (fun hs=>wEe J ab ac p1 w U hs ak h2) (.inr Z) ?_)))))))
 rintro U4 L5 v6 W7 an aj ⟨rfl,rfl⟩
 have ai:sW w U U4 [] W7:=aj
 refine oR Z (Runs.geq Z Z Z) (oA Z Z (eN (zR ?_)))
 first | (obtain rfl:=nA af) | cases af
 exact ⟨Z,_,(zh Z),U4,_,ai,Z,Z⟩
theorem wGs (J:wAC) (p1:wAO) (aA:Nat) (af:Option Addr) (ah:Nat) (ag:Option Addr) (ai:Nat) (w:World) (U:PHeap) (hS:St0 w U []) (aT:Cl U aA 0 [jV p1.Deadline,.slice af p1.Skiers.length ah,.slice ag p1.Decisions.length ai]) (aU:Sl U 2 af ah p1.Skiers.length (hD wAF p1.Skiers)) (aV:Sl U 6 ag ai p1.Decisions.length (hD wAD p1.Decisions)) {r:Bool} (hm:wCo J p1=some r):Gv Tryz.prog 209 [.agg #[jV J.Number,jV J.Kind,jV J.Minute,jV J.Bib,jV J.Much,jV J.About],.pointer (some ⟨aA,0,none⟩)] w (wBu w [] U (fun U_ L_ v=>v=.bool r/\L_=[])):=by
 unfold wCo at hm
 refine Gv.of Tryz.func209 Z Tryz.ntmps209 Tryz.results209 Z (sR gAf Z ?_)
 let B0:List Value:=[jV J.Number,jV J.Kind,jV J.Minute,jV J.Bib,jV J.Much,jV J.About]
 refine ZG (cs:=B0) rfl rfl rfl rfl rfl rfl (by rfl) hS ?_
 intro W1 b2 ay
 refine oA Z Z (eN (zH (sR gAs Z (oR Z (zO Z Z zW Z ZP) (oL Z (ay.ldB (j:=0) Z Z Z ZR (v:=jV J.Kind) Z) (bnK hm fun x5 h6 aZ=>zG 0 Z Z Z Z (zF Z Z Tryz.call210 (zA Z zL) Z) ay (fun hs=>wCS J.Kind W1 U hs h6) (.inr Z) ?_))))))
 rintro U8 L9 bh am aq aM ⟨rfl,rfl⟩
 have ap:sW w U U8 [.blk b2 46 B0] am:=aM
 refine eN (ifc aZ ?_ ?_)
 intro ao aW
 refine ZB (congrArg hJ ao.out) (zH (zx zp [1,2,3,1,2,3] (.fl 0 (.fl 2 (.fl 3 (.fx 1 gAi .stop)))) (by kernel_rfl) ?_))
 have ae:=ap.drew
 generalize hw_W18:({ am with drawn:=am.drawn + 1 }:World)=aD at ae ⊢
 have aG:=aT.le aq
 refine oL Z (ae.ldCA (f:=0) aG Z Z yD ZK (us:=[jV p1.Deadline,.slice af p1.Skiers.length ah,.slice ag p1.Decisions.length ai]) Z Z) (oR Z (zO Z Z zW Z zB) (oL Z (ae.ldB (j:=0) Z Z Z zM (v:=jV J.Bib) Z) ?_))
 have aH:=aU.le aq
 have aI:=aV.le aq
 refine bnK aW fun aj aJ aX=>zG 0 Z Z Z Z (zF Z Z Tryz.call163 (zA Z zL) Z) ae (fun hs=>wEE p1 af ah ag ai aD U8 hs aH aI aJ) (.inr Z) ?_
 rintro aB a8 bi an bc aN ⟨au,ax,rfl,rfl⟩
 have aO:sW w U aB [.row au ax 3 1 (hD KL.encI aj),.blk b2 46 B0] an:=aN
 have q:=aO.freezeR (k:=0) (n:=aj.length) rfl (wAG (f:=KL.encI) (sz:=1) (fun _=>rfl) aj) (by decide)
 obtain ⟨av,be,a7,aP⟩:=q
 have aQ:sW w U av [.blk b2 46 B0] an:=aP
 refine bnK aX fun bk aK aY=>zG 0 Z Z Z Z (zF Z Z Tryz.call32 (zA Z (zA Z zL)) Z) aQ (fun hs=>wDJ aj au ax J.Bib an av hs a7 aK) (.inr Z) ?_
 rintro aw ba bj aF bg aR ⟨rfl,rfl⟩
 have aS:sW w U aw [.blk b2 46 B0] aF:=aR
 refine oA Z Z (eN (zR (zc ?_)))
 have hE:=nA aY;first | subst r | cases hE
 exact ⟨rfl,_,(zh rfl),aw,_,(aS.pick [] _ (by decide) rfl),rfl,rfl⟩
 intro ao az
 refine ze (congrArg hJ (hM.2 ao.out)) (kN (sR fL4 Z (oR Z (zO Z Z zW Z zB) (oL Z (ap.ldB (j:=0) Z Z Z zM (v:=jV J.Bib) Z) (oR Z (Zr Z Z Z) (oA Z Z (eN (zR ?_))))))))
 first | (obtain rfl:=nA az) | cases az
 exact ⟨rfl,_,(zh rfl),U8,_,(ap.pick [] _ (by decide) rfl),rfl,rfl⟩
theorem wGt (J:wAC) (w:World) (U:PHeap) (hS:St0 w U [])  {r:Bool} (hm:wCp J=some r):Gv Tryz.prog 211 [.agg #[jV J.Number,jV J.Kind,jV J.Minute,jV J.Bib,jV J.Much,jV J.About]] w (wBu w [] U (fun U_ L_ v=>v=.bool r/\L_=[])):=by
 unfold wCp at hm
 refine Gv.of Tryz.func211 Z Tryz.ntmps211 Tryz.results211 Z (sR gAf Z ?_)
 let B0:List Value:=[jV J.Number,jV J.Kind,jV J.Minute,jV J.Bib,jV J.Much,jV J.About]
 refine ZG (cs:=B0) rfl rfl rfl rfl rfl rfl (by rfl) hS ?_
 intro W1 b2 ai
 refine oA Z Z (eN (zH (sR gAs Z (oR Z (zO Z Z zW Z ZP) (oL Z (ai.ldB (j:=0) Z Z Z ZR (v:=jV J.Kind) Z) (bnK hm fun x5 h6 ax=>zG 0 Z Z Z Z (zF Z Z Tryz.call210 (zA Z zL) Z) ai (fun hs=>wCS J.Kind W1 U hs h6) (.inr Z) ?_))))))
 rintro U8 L9 aC ag aA ap ⟨rfl,rfl⟩
 have aa:sW w U U8 [.blk b2 46 B0] ag:=ap
 refine eN (ifc ax ?_ ?_)
 intro ae aj
 refine ZB (congrArg hJ ae.out) (sR fL4 Z (oR Z (zO Z Z zW Z zB) (oL Z (aa.ldB (j:=0) Z Z Z zM (v:=jV J.About) Z) (oR Z (Zr Z Z Z) (oA Z Z (eN (zR (zc ?_))))))))
 first | (obtain rfl:=nA aj) | cases aj
 exact ⟨rfl,_,(zh rfl),U8,_,(aa.pick [] _ (by decide) rfl),rfl,rfl⟩
 intro ae av
 refine ze (congrArg hJ (hM.2 ae.out)) (kN (sR (wCA gAj) Z (oR Z (zO Z Z zW Z zB) (oL Z (aa.ldB (j:=0) Z Z Z zM (v:=jV J.About) Z) (oR Z (zO Z Z zW Z zB) (oL Z (aa.ldB (j:=0) Z Z Z zM (v:=jV J.Number) Z) (oR Z (zg Z Z Z) (bnK av fun aF an aw=>zG 0 Z Z Z Z (zF Z Z Zt (zA Z (zA Z (zA Z zL))) Z) aa (fun hs=>wBT J.About 1 (w64 (J.Number - 1)) ag U8 hs an) (.inr Z) ?_))))))))
 rintro af ay aD am aB aq ⟨rfl,rfl⟩
 have au:sW w U af [.blk b2 46 B0] am:=aq
 refine oA Z Z (eN (zR ?_))
 have hE:=nA aw;first | subst r | cases hE
 exact ⟨rfl,_,(zh rfl),af,_,(au.pick [] _ (by decide) rfl),rfl,rfl⟩
theorem wHx (J:wAO) (ah:Option Addr) (ai:Nat) (aa:Option Addr) (ab:Nat) (w:World) (U:PHeap) (hS:St0 w U []) (cZ:Sl U 2 ah ai J.Skiers.length (hD wAF J.Skiers)) (c7:Sl U 6 aa ab J.Decisions.length (hD wAD J.Decisions)) {r:Int} (hm:wDp J=some r):Gv Tryz.prog 130 [.agg #[jV J.Deadline,.slice ah J.Skiers.length ai,.slice aa J.Decisions.length ab]] w (wBu w [] U (fun U_ L_ v=>v=jV r/\L_=[])):=by
 unfold wDp at hm
 refine Gv.of Tryz.func130 Z Tryz.ntmps130 Tryz.results130 Z (sR gAf Z ?_)
 let B0:List Value:=[jV J.Deadline,.slice ah J.Skiers.length ai,.slice aa J.Decisions.length ab]
 refine ZG (cs:=B0) rfl rfl rfl rfl rfl rfl (by rfl) hS ?_
 intro W1 b2 cP
 have q:=cP.freeze (k:=0) rfl
 obtain ⟨U5,bO,an,cU⟩:=q
 replace an:=Cl.of an
 have bL:sW w U U5 [] W1:=cU
 replace an:Cl U5 b2 0 B0:=an
 refine oA Z Z (eN (zH (zP (sR (wFi (.fx 3 (wNT (.nil)) .stop)) Z (oR Z (zO Z Z zj Z Zu) (oL Z (bL.ldC (f:=1) an (v:=.slice ah J.Skiers.length ai) Z Z yL Z) (oR Z (zw Z Z ZL) (bnK hm fun ej bU df=>zG 0 Z Z Z Z (zF Z Z Zt (zA Z (zA Z (zA Z zL))) Z) bL (fun hs=>wBT (↑J.Skiers.length:Int) 1 30 W1 U5 hs bU) (.inr Z) ?_))))))))
 rintro aq dP d8 bp a7 cN ⟨rfl,rfl⟩
 have ao:sW w U aq [] bp:=cN
 refine oR Z (ZV Z Z) (oM Z Z (ifc df ?_ ?_))
 intro ac dz
 refine zT Z Z Z (zU Z Z (nC ac.out)) (fun _=>zO Z Z zj Z Zi) ?_
 have aP:=an.le a7
 refine zn Z Z Z (zU Z Z (nC ac.out)) (ao.ldC (f:=2) aP (v:=.slice aa J.Decisions.length ab) Z Z Zq Z) Z (zT Z Z Z (zU Z Z (nC ac.out)) (fun _=>zw Z Z ZC) (zT Z Z Z (zU Z Z (nC ac.out)) (fun _=>Zy Z Z Z) (oR Z (zX Z (nC ac.out) Z) (oA Z Z (eN (ifc dz ?_ ?_))))))
 intro aK dA
 refine cT Z aK (sR fL1 Z (oA Z Z (eN (zR (zq (zc ?_))))))
 cases dA
 exact ⟨Z,_,(zh Z),aq,_,ao,Z,Z⟩
 intro aK dB
 refine cF Z aK (sR (.fl 0 (.fl 1 (.fx 2 (fC3_6 (.fx 7 (wNX (.fx 13 (wMM (.nil)) .stop)) .stop)) .stop))) Z (oR Z (zO Z Z zj Z zB) (oL Z (ao.ldC (f:=0) aP (v:=jV J.Deadline) Z Z zM Z) (bnK dB fun eu co dC=>zG 0 Z Z Z Z (zF Z Z Zt (zA Z (zA Z (zA Z zL))) Z) ao (fun hs=>wBT J.Deadline 0 10000 bp aq hs co) (.inr Z) ?_))))
 rintro aw dS ed br a8 cQ ⟨rfl,rfl⟩
 have aT:sW w U aw [] br:=cQ
 refine oR Z (ZV Z Z) (oM Z Z (ifc dC ?_ ?_))
 intro ae dD
 refine zT Z Z Z (zU Z Z (nC ae.out)) (fun _=>zO Z Z zj Z Zu) ?_
 have bD:=aP.le a8
 refine zn Z Z Z (zU Z Z (nC ae.out)) (aT.ldC (f:=1) bD (v:=.slice ah J.Skiers.length ai) Z Z yL Z) Z ?_
 have cp:=cZ.le bO
 have cq:=cp.le a7
 have bE:=cq.le a8
 have cD:FnOK Tryz.prog aw (.func (.func 204) #[] #[]) wJX wJY wCn:=⟨204,[],[],rfl,Tryz.call204,fun U1 w1 x y vs le hs ha hm=>by obtain rfl:=ha;exact wGr x w1 U1 hs  hm⟩
 refine bnK dD fun ez cr dE=>zG 0 Z Z Z (zU Z Z (nC ae.out)) (zF Z Z Tryz.call203 (zA Z (zA Z zL)) Z) aT (fun hs=>wEn J.Skiers ah ai wCn (.func (.func 204) #[] #[]) br aw hs bE cD cr) (.inr Z) ?_
 rintro ax dT ee bu ba cR ⟨rfl,rfl⟩
 have aU:sW w U ax [] bu:=cR
 refine zT Z Z Z (zU Z Z (nC ae.out)) (fun _=>ZV Z Z) (oR Z (zX Z (nC ae.out) Z) (oM Z Z (ifc dE ?_ ?_)))
 intro af dF
 refine zT Z Z Z (zU Z Z (nC af.out)) (fun _=>zO Z Z zj Z Zi) ?_
 have bF:=bD.le ba
 refine zn Z Z Z (zU Z Z (nC af.out)) (aU.ldC (f:=2) bF (v:=.slice aa J.Decisions.length ab) Z Z Zq Z) Z ?_
 have ct:=c7.le bO
 have cu:=ct.le a7
 have cw:=cu.le a8
 have bG:=cw.le ba
 have cE:FnOK Tryz.prog ax (.func (.func 206) #[] #[]) wHs wHt wBP:=⟨206,[],[],rfl,Tryz.call206,fun U1 w1 x y vs le hs ha hm=>by obtain rfl:=ha;exact wEd x w1 U1 hs  hm⟩
 refine bnK dF fun eA cx dG=>zG 0 Z Z Z (zU Z Z (nC af.out)) (zF Z Z Tryz.call205 (zA Z (zA Z zL)) Z) aU (fun hs=>wCY J.Decisions aa ab wBP (.func (.func 206) #[] #[]) bu ax hs bG cE cx) (.inr Z) ?_
 rintro aC dU eh bw bb cS ⟨rfl,rfl⟩
 have aV:sW w U aC [] bw:=cS
 refine zT Z Z Z (zU Z Z (nC af.out)) (fun _=>ZV Z Z) (oR Z (zX Z (nC af.out) Z) (oA Z Z (eN (ifc dG ?_ ?_))))
 intro aL dH
 refine ze (nC aL.out) (sR (.fl 0 (.fx 1 (.fx 2 (.fl 3 (.fl 4 (.fx 5 gAn .stop))) .stop) .stop)) Z ?_)
 have bH:=bF.le bb
 refine oL Z (aV.ldCA (f:=0) bH Z Z yD ZK (us:=B0) Z Z) ?_
 have cy:=bE.le ba
 have bI:=cy.le bb
 have bJ:=bG.le bb
 refine bnK dH fun az cz dI=>zG 0 Z Z Z Z (zF Z Z Tryz.call163 (zA Z zL) Z) aV (fun hs=>wEE J ah ai aa ab bw aC hs bI bJ cz) (.inr Z) ?_
 rintro bQ dV ei aG bc cV ⟨bh,bz,rfl,rfl⟩
 have cW:sW w U bQ [.row bh bz 3 1 (hD KL.encI az)] aG:=cV
 have q:=cW.freezeR (k:=0) (n:=az.length) rfl (wAG (f:=KL.encI) (sz:=1) (fun _=>rfl) az) (by decide)
 obtain ⟨bj,be,dL,cX⟩:=q
 have cY:sW w U bj [] aG:=cX
 refine bnK dI fun eB cA dJ=>zG 0 Z Z Z Z (zF Z Z Tryz.call207 (zA Z zL) Z) cY (fun hs=>wGD az bh bz aG bj hs dL cA) (.inr Z) ?_
 rintro aD dW dY bm aW cG ⟨rfl,rfl⟩
 have aQ:sW w U aD [] bm:=cG
 refine oM Z Z (ifc dJ ?_ ?_)
 intro ag c8
 refine ZA Z Z Z (zf Z Z (congrArg hJ ag.out) Z) (Zg Z Z Z (zf Z Z (congrArg hJ ag.out) Z) (Zg Z Z Z (zf Z Z (congrArg hJ ag.out) Z) (oR Z (zb Z (congrArg hJ ag.out) Z) (oA Z Z (eN (ZB Z (sR fL1 Z (oA Z Z (eN (zR (zq (zc ?_))))))))))))
 cases c8
 exact ⟨Z,_,(zh Z),aD,_,aQ,Z,Z⟩
 intro ag dd
 have bS:=bH.le bc
 have bT:=bS.le be
 have bA:=bT.le aW
 refine zn Z Z Z (zU Z Z (congrArg hJ (hM.2 ag.out))) (aQ.ldCA (f:=0) bA Z Z yD ZK (us:=B0) Z Z) Z ?_
 have bV:=bI.le bc
 have bW:=bV.le be
 have bB:=bW.le aW
 have bX:=bJ.le bc
 have bY:=bX.le be
 have bC:=bY.le aW
 refine bnK dd fun ay bZ de=>zG 0 Z Z Z (zU Z Z (congrArg hJ (hM.2 ag.out))) (zF Z Z Tryz.call208 (zA Z zL) Z) aQ (fun hs=>wEo J ah ai aa ab bm aD hs bB bC bZ) (.inr Z) ?_
 rintro bP dN dZ aF aX cH ⟨bg,bx,rfl,rfl⟩
 have cI:sW w U bP [.row bg bx 3 1 (hD KL.encI ay)] aF:=cH
 have q:=cI.freezeR (k:=0) (n:=ay.length) rfl (wAG (f:=KL.encI) (sz:=1) (fun _=>rfl) ay) (by decide)
 obtain ⟨bi,aY,dK,cJ⟩:=q
 have cK:sW w U bi [] aF:=cJ
 refine bnK de fun ek b4 dh=>zG 0 Z Z Z (zU Z Z (congrArg hJ (hM.2 ag.out))) (zF Z Z Tryz.call207 (zA Z zL) Z) cK (fun hs=>wGD ay bg bx aF bi hs dK b4) (.inr Z) ?_
 rintro au dO d7 bn aZ cL ⟨rfl,rfl⟩
 have aR:sW w U au [] bn:=cL
 refine oR Z (zX Z (congrArg hJ (hM.2 ag.out)) Z) (oA Z Z (eN (ifc dh ?_ ?_)))
 intro aH di
 refine ZB (congrArg hJ aH.out) (sR fL1 Z (oA Z Z (eN (zR (zq (zc ?_))))))
 cases di
 exact ⟨Z,_,(zh Z),au,_,aR,Z,Z⟩
 intro aH dm
 refine ze (congrArg hJ (hM.2 aH.out)) (zH (CK.fresh fun dM bM=>?_))
 have aM:dM 1=.pointer (some ⟨b2,0,none⟩):=(bM 1).trans rfl
 clear bM
 refine rR (wFi (.fx 3 gAd .stop)) Z (oR Z (zO Z aM zj Z Zi) ?_)
 have b8:=bA.le aX
 have b9:=b8.le aY
 have aN:=b9.le aZ
 refine oL Z (aR.ldC (f:=2) aN (v:=.slice aa J.Decisions.length ab) Z Z Zq Z) (oR Z (yF Z zL (zA aM zL)) ?_)
 have ca:=bC.le aX
 have cc:=ca.le aY
 have aO:=cc.le aZ
 have cd:=bB.le aX
 have cg:=cd.le aY
 have ch:=cg.le aZ
 have cB:FnOK Tryz.prog au (.func (.func 209) #[] #[.pointer (some ⟨b2,0,none⟩)]) wHs wHt (fun x=>wCo x J):=⟨209,[],[.pointer (some ⟨b2,0,none⟩)],rfl,Tryz.call209,fun U1 w1 x y vs le hs ha hm=>by obtain rfl:=ha;exact wGs x J b2 ah ai aa ab w1 U1 hs (aN.le le) (ch.le le) (aO.le le) hm⟩
 refine bnK dm fun en ci dn=>zG 0 Z Z Z Z (zF Z Z Tryz.call205 (zA Z (zA Z zL)) Z) aR (fun hs=>wCY J.Decisions aa ab (fun x=>wCo x J) (.func (.func 209) #[] #[.pointer (some ⟨b2,0,none⟩)]) bn au hs aO cB ci) (.inr Z) ?_
 rintro av dQ d9 bq bN cM ⟨rfl,rfl⟩
 have aS:sW w U av [] bq:=cM
 refine oR Z (ZV Z Z) (oA Z Z (eN (ifc dn ?_ ?_)))
 intro aI dp
 refine ze (nC aI.out) (sR gBc Z (oR Z (zO Z aM zj Z Zi) ?_))
 have cj:=aN.le bN
 refine oL Z (aS.ldC (f:=2) cj (v:=.slice aa J.Decisions.length ab) Z Z Zq Z) ?_
 have cm:=aO.le bN
 have cC:FnOK Tryz.prog av (.func (.func 211) #[] #[]) wHs wHt wCp:=⟨211,[],[],rfl,Tryz.call211,fun U1 w1 x y vs le hs ha hm=>by obtain rfl:=ha;exact wGt x w1 U1 hs  hm⟩
 refine bnK dp fun eo cn dq=>zG 0 Z Z Z Z (zF Z Z Tryz.call205 (zA Z (zA Z zL)) Z) aS (fun hs=>wCY J.Decisions aa ab wCp (.func (.func 211) #[] #[]) bq av hs cm cC cn) (.inr Z) ?_
 rintro aA dR ec bR dX cO ⟨rfl,rfl⟩
 have bK:sW w U aA [] bR:=cO
 refine oR Z (ZV Z Z) (oA Z Z (eN (ifc dq ?_ ?_)))
 intro aJ dr
 refine ze (nC aJ.out) (zo (zd (zI (sR fL1 Z (oA Z Z (eN (zR ?_)))))))
 cases dr
 exact ⟨Z,_,(zh Z),aA,_,bK,Z,Z⟩
 intro aJ dt
 refine ZB (nF (aJ.out)) (sR fL1 Z (oA Z Z (eN (zR (zq (zc ?_))))))
 cases dt
 exact ⟨Z,_,(zh Z),aA,_,bK,Z,Z⟩
 intro aI du
 refine ZB (nF (aI.out)) (sR fL1 Z (oA Z Z (eN (zR (zq (zc ?_))))))
 cases du
 exact ⟨Z,_,(zh Z),av,_,aS,Z,Z⟩
 intro aL dv
 refine ZB (nF (aL.out)) (sR fL1 Z (oA Z Z (eN (zR (zq (zc ?_))))))
 cases dv
 exact ⟨Z,_,(zh Z),aC,_,aV,Z,Z⟩
 intro af dw
 refine ZA Z Z Z (zf Z Z (nF (af.out)) Z) (ZA Z Z Z (zf Z Z (nF (af.out)) Z) (Zg Z Z Z (zf Z Z (nF (af.out)) Z) (ZA Z Z Z (zf Z Z (nF (af.out)) Z) (oR Z (zb Z (nF (af.out)) Z) (oA Z Z (eN (ZB Z (sR fL1 Z (oA Z Z (eN (zR (zq (zc ?_)))))))))))))
 cases dw
 exact ⟨Z,_,(zh Z),ax,_,aU,Z,Z⟩
 intro ae dx
 refine ZA Z Z Z (zf Z Z (nF (ae.out)) Z) (ZA Z Z Z (zf Z Z (nF (ae.out)) Z) (Zg Z Z Z (zf Z Z (nF (ae.out)) Z) (ZA Z Z Z (zf Z Z (nF (ae.out)) Z) (oR Z (zb Z (nF (ae.out)) Z) (oM Z Z (oN Z (oN Z (Zg Z Z Z (zf Z Z Z Z) (oN Z (oR Z (zb Z Z Z) (oA Z Z (eN (ZB Z (sR fL1 Z (oA Z Z (eN (zR (zq (zc ?_)))))))))))))))))))
 cases dx
 exact ⟨Z,_,(zh Z),aw,_,aT,Z,Z⟩
 intro ac dy
 refine ZA Z Z Z (zf Z Z (nF (ac.out)) Z) (ZA Z Z Z (zf Z Z (nF (ac.out)) Z) (ZA Z Z Z (zf Z Z (nF (ac.out)) Z) (ZA Z Z Z (zf Z Z (nF (ac.out)) Z) (oR Z (zb Z (nF (ac.out)) Z) (oA Z Z (eN (ZB Z (sR fL1 Z (oA Z Z (eN (zR (zq (zc ?_)))))))))))))
 cases dy
 exact ⟨Z,_,(zh Z),aq,_,ao,Z,Z⟩
theorem wDC (J:List wAH) (aa:Option Addr) (ab:Nat) (p1:((wAH × wAH)->Option Int)) (ac:Value) (w:World) (U:PHeap) (hS:St ⟨w,[.row aa ab 40 2 (hD wAF J)],U⟩ U [.row aa ab 40 2 (hD wAF J)] w) (af:FnOK Tryz.prog U ac wMg wMh p1) (ag:∃ g cb,ac=.func (.func g) #[] cb) {r:List wAH} (hm:wBS J p1=some r):Gv Tryz.prog 131 [.slice aa J.length ab,ac] w (wBu w [.row aa ab 40 2 (hD wAF J)] U (fun U_ L_ v=>v=.tuple #[]/\L_=[.row aa ab 40 2 (hD wAF r)]/\r.length=J.length)) :=
 wHr (sz:=2) (fun _=>rfl) (fun x v h=>List.all_eq_true.1 (show (wAF x).all (·.oneCell')=true from rfl) v h) (fun _ _ _=>rfl) (fun _ _ _ _ h=>h.1) (fun enc a1 a2 cf b g cb k1 k2 k3 d w h1 h2 h3 h4 h5 h6=>Go.Proofs.Tryz.slices_SortFunc_total_f131 2 Tryz.isAgg40 Tryz.sizeOf40 enc a1 a2 cf b g cb k1 k2 k3 d w h1 h2 h3 h4 h5 h6) (fun p c v w=>Go.Proofs.Tryz.slices_SortFunc_none_f131 (α:=Int) p c v w) hS af (by decide) ag hm
end Go.Proofs.YtlmekamhphnmjaaGreat
namespace Go.Proofs.YtlmekamhphnmjaaGreat
open Go.KL
set_option maxHeartbeats 4000000
theorem wEp (J:Int) (w:World) (U:PHeap) (hS:St0 w U [])  {r:Bool} (hm:wCT J=some r):Gv Tryz.prog 94 [jV J] w (wBu w [] U (fun U_ L_ v=>v=.bool r/\L_=[])):=by
 unfold wCT at hm
 refine Gv.of Tryz.func94 Z Tryz.ntmps94 Tryz.results94 Z (sR fL1 Z (oA Z Z (eN (sR fL4 Z (oM Z Z (oM Z Z (oR Z (Zf Z Z Z) (oA Z Z (eN (zR ?_))))))))))
 first | (obtain rfl:=nA hm) | cases hm
 exact ⟨Z,_,(zh Z),U,_,hS,Z,Z⟩
theorem wCZ (p0:Int) (p1:Int) (w:World) (U:PHeap) (hS:St0 w U [])  {r:Int} (hm:wBB p0 p1=some r):Gv Tryz.prog 41 [jV p0,jV p1] w (wBu w [] U (fun U_ L_ v=>v=jV r/\L_=[])):=by
 unfold wBB at hm
 refine Gv.of Tryz.func41 Z Tryz.ntmps41 Tryz.results41 Z (sR fL1 Z (oA Z Z (eN (sR gAo Z (oM Z Z (bnK hm fun x1 h2 aC=>zG 0 Z Z Z Z (zF Z Z Tryz.call94 (zA Z zL) Z) hS (fun hs=>wEp p0 w U hs h2) (.inr Z) ?_))))))
 rintro U4 L5 v6 W7 aL au ⟨rfl,rfl⟩
 have ap:sW w U U4 [] W7:=au
 refine oA Z Z (eN (sR gAo Z (oM Z Z (bnK aC fun aP an av=>zG 0 Z Z Z Z (zF Z Z Tryz.call94 (zA Z zL) Z) ap (fun hs=>wEp p1 W7 U4 hs an) (.inr Z) ?_))))
 rintro J aI aM am aK aq ⟨rfl,rfl⟩
 have aa:sW w U J [] am:=aq
 refine oA Z Z (eN (zH (sR fL1 Z (oM Z Z (eN (ifc av ?_ ?_))))))
 intro ab aw
 refine ZB (congrArg hJ ab.out) (zH (sR fL1 Z (oM Z Z (eN (ifc aw ?_ ?_)))))
 intro ac ax
 refine ZB (congrArg hJ ac.out) (sR fL1 Z (oA Z Z (eN (zR (zc (zc ?_))))))
 cases ax
 exact ⟨Z,_,(zh Z),J,_,aa,Z,Z⟩
 intro ac ay
 refine ze (congrArg hJ (hM.2 ac.out)) (kN (sR fL1 Z (oA Z Z (eN (zR (zc ?_))))))
 cases ay
 exact ⟨Z,_,(zh Z),J,_,aa,Z,Z⟩
 intro ab az
 refine ze (congrArg hJ (hM.2 ab.out)) (kN (zH (sR fL1 Z (oM Z Z (eN (ifc az ?_ ?_))))))
 intro ae aA
 refine ZB (congrArg hJ ae.out) (sR fL1 Z (oA Z Z (eN (zR (zc ?_)))))
 cases aA
 exact ⟨Z,_,(zh Z),J,_,aa,Z,Z⟩
 intro ae aB
 refine ze (congrArg hJ (hM.2 ae.out)) (kN (zH (sR fL3 Z (oM Z Z (oM Z Z (oR Z (zK Z Z Z) (eN (ifc aB ?_ ?_))))))))
 intro af aD
 refine cT Z af (sR fL1 Z (oA Z Z (eN (zR (zc ?_)))))
 cases aD
 exact ⟨Z,_,(zh Z),J,_,aa,Z,Z⟩
 intro af aF
 refine cF Z af (kN (zH (sR fL3 Z (oM Z Z (oM Z Z (oR Z (Zy Z Z Z) (eN (ifc aF ?_ ?_))))))))
 intro ag aG
 refine cT Z ag (sR fL1 Z (oA Z Z (eN (zR (zc ?_)))))
 cases aG
 exact ⟨Z,_,(zh Z),J,_,aa,Z,Z⟩
 intro ag aH
 refine cF Z ag (kN (sR fL1 Z (oA Z Z (eN (zR ?_)))))
 cases aH
 exact ⟨Z,_,(zh Z),J,_,aa,Z,Z⟩
theorem wGU (J:wAH) (p1:wAH) (w:World) (U:PHeap) (hS:St0 w U [])  {r:Int} (hm:wCU J p1=some r):Gv Tryz.prog 132 [.agg #[jV J.Bib,jV J.Time],.agg #[jV p1.Bib,jV p1.Time]] w (wBu w [] U (fun U_ L_ v=>v=jV r/\L_=[])):=by
 unfold wCU at hm
 refine Gv.of Tryz.func132 Z Tryz.ntmps132 Tryz.results132 Z (sR gAt Z ?_)
 let B0:List Value:=[jV J.Bib,jV J.Time]
 refine ZG (cs:=B0) rfl rfl rfl rfl rfl rfl (by rfl) hS ?_
 intro W1 b2 ao
 let B1:List Value:=[jV p1.Bib,jV p1.Time]
 refine ZG (cs:=B1) rfl rfl rfl rfl rfl rfl (by rfl) ao ?_
 intro W5 b6 ab
 refine oA Z Z (eN (sR (wEu gAi) Z (oR Z (zO Z Z Zb Z zB) (oL Z (ab.ldB (j:=1) Z Z Z zM (v:=jV J.Bib) Z) (oR Z (zO Z Z Zb Z zB) (oL Z (ab.ldB (j:=0) Z Z Z zM (v:=jV p1.Bib) Z) (bnK hm fun x9 ak ap=>zG 0 Z Z Z Z (zF Z Z Tryz.call41 (zA Z (zA Z zL)) Z) ab (fun hs=>wCZ J.Bib p1.Bib W5 U hs ak) (.inr Z) ?_)))))))
 rintro af aq aw ag av am ⟨rfl,rfl⟩
 have an:sW w U af [.blk b6 40 B1,.blk b2 40 B0] ag:=am
 refine oA Z Z (eN (zR ?_))
 have hE:=nA ap;first | subst r | cases hE
 exact ⟨rfl,_,(zh rfl),af,_,(an.pick [] _ (by decide) rfl),rfl,rfl⟩
theorem wCa (J:List wAC) (aa:Option Addr) (ab:Nat) (p1:((wAC × wAC)->Option Int)) (ac:Value) (w:World) (U:PHeap) (hS:St ⟨w,[.row aa ab 46 6 (hD wAD J)],U⟩ U [.row aa ab 46 6 (hD wAD J)] w) (af:FnOK Tryz.prog U ac wMi wMj p1) (ag:∃ g cb,ac=.func (.func g) #[] cb) {r:List wAC} (hm:wBC J p1=some r):Gv Tryz.prog 133 [.slice aa J.length ab,ac] w (wBu w [.row aa ab 46 6 (hD wAD J)] U (fun U_ L_ v=>v=.tuple #[]/\L_=[.row aa ab 46 6 (hD wAD r)]/\r.length=J.length)) :=
 wHr (sz:=6) (fun _=>rfl) (fun x v h=>List.all_eq_true.1 (show (wAD x).all (·.oneCell')=true from rfl) v h) (fun _ _ _=>rfl) (fun _ _ _ _ h=>h.1) (fun enc a1 a2 cf b g cb k1 k2 k3 d w h1 h2 h3 h4 h5 h6=>Go.Proofs.Tryz.slices_SortFunc_total_f133 6 Tryz.isAgg46 Tryz.sizeOf46 enc a1 a2 cf b g cb k1 k2 k3 d w h1 h2 h3 h4 h5 h6) (fun p c v w=>Go.Proofs.Tryz.slices_SortFunc_none_f133 (α:=Int) p c v w) hS af (by decide) ag hm
theorem wGV (J:wAC) (p1:wAC) (w:World) (U:PHeap) (hS:St0 w U [])  {r:Int} (hm:wCV J p1=some r):Gv Tryz.prog 134 [.agg #[jV J.Number,jV J.Kind,jV J.Minute,jV J.Bib,jV J.Much,jV J.About],.agg #[jV p1.Number,jV p1.Kind,jV p1.Minute,jV p1.Bib,jV p1.Much,jV p1.About]] w (wBu w [] U (fun U_ L_ v=>v=jV r/\L_=[])):=by
 unfold wCV at hm
 refine Gv.of Tryz.func134 Z Tryz.ntmps134 Tryz.results134 Z (sR gAt Z ?_)
 let B0:List Value:=[jV J.Number,jV J.Kind,jV J.Minute,jV J.Bib,jV J.Much,jV J.About]
 refine ZG (cs:=B0) rfl rfl rfl rfl rfl rfl (by rfl) hS ?_
 intro W1 b2 ao
 let B1:List Value:=[jV p1.Number,jV p1.Kind,jV p1.Minute,jV p1.Bib,jV p1.Much,jV p1.About]
 refine ZG (cs:=B1) rfl rfl rfl rfl rfl rfl (by rfl) ao ?_
 intro W5 b6 ab
 refine oA Z Z (eN (sR (wEu gAi) Z (oR Z (zO Z Z zW Z zB) (oL Z (ab.ldB (j:=1) Z Z Z zM (v:=jV J.Number) Z) (oR Z (zO Z Z zW Z zB) (oL Z (ab.ldB (j:=0) Z Z Z zM (v:=jV p1.Number) Z) (bnK hm fun x9 ak ap=>zG 0 Z Z Z Z (zF Z Z Tryz.call41 (zA Z (zA Z zL)) Z) ab (fun hs=>wCZ J.Number p1.Number W5 U hs ak) (.inr Z) ?_)))))))
 rintro af aq aw ag av am ⟨rfl,rfl⟩
 have an:sW w U af [.blk b6 46 B1,.blk b2 46 B0] ag:=am
 refine oA Z Z (eN (zR ?_))
 have hE:=nA ap;first | subst r | cases hE
 exact ⟨rfl,_,(zh rfl),af,_,(an.pick [] _ (by decide) rfl),rfl,rfl⟩
theorem wHI (p0:wAO) (aC:Option Addr) (aF:Nat) (aD:Option Addr) (aG:Nat) (w:World) (U:PHeap) (hS:St0 w U []) (cj:Sl U 2 aC aF p0.Skiers.length (hD wAF p0.Skiers)) (cm:Sl U 6 aD aG p0.Decisions.length (hD wAD p0.Decisions)) {r:wAO × Int} (hm:wDY p0=some r):Gv Tryz.prog 78 [.agg #[jV p0.Deadline,.slice aC p0.Skiers.length aF,.slice aD p0.Decisions.length aG]] w (wBu w [] U (fun U_ L_ v=>∃ (bB:Option Addr) (bP:Nat) (bC:Option Addr) (bQ:Nat),v=.tuple #[.agg #[jV r.1.Deadline,.slice bB r.1.Skiers.length bP,.slice bC r.1.Decisions.length bQ],jV r.2]/\L_=[.row bB bP 40 2 (hD wAF r.1.Skiers),.row bC bQ 46 6 (hD wAD r.1.Decisions)])):=by
 unfold wDY at hm
 refine Gv.of Tryz.func78 Z Tryz.ntmps78 Tryz.results78 Z (sR gAt Z ?_)
 let B0:List Value:=[jV p0.Deadline,.slice aC p0.Skiers.length aF,.slice aD p0.Decisions.length aG]
 refine ZG (cs:=B0) rfl rfl rfl rfl rfl rfl (by rfl) hS ?_
 intro W1 b2 eh
 let J:List Value:=[jV 0,.slice none 0 0,.slice none 0 0]
 refine ZI (cs:=J) Z Z Z Z Z ZT Z eh ?_
 intro W5 b6 ci
 refine oA Z Z (eN (zH (sR gAo Z (oL Z (ci.ldBA (j:=1) Z Z Z yD ZK (vs:=B0) Z Z) (bnK hm fun x9 cN eG=>zG 0 Z Z Z Z (zF Z Z Tryz.call130 (zA Z zL) Z) ci (fun hs=>wHx p0 aC aF aD aG W5 U hs cj cm cN) (.inr Z) ?_)))))
 rintro ah eR fc br co dH ⟨rfl,rfl⟩
 have b8:sW w U ah [.blk b6 28 J,.blk b2 28 B0] br:=dH
 refine oA Z Z (eN (sR fL2 Z (oM Z Z (oR Z (Zf Z Z Z) (eN (ifc eG ?_ ?_))))))
 intro bx eH
 refine ze (zt (fun h=>h bx.out)) (kN ?_)
 have q:=bnd eH
 obtain ⟨⟨aB,ap⟩,eP,cn⟩:=q
 try dsimp only at cn
 refine yH (fun σ_ w_=>∃ (U_:PHeap) (an:Nat) (ak:Nat) (am:Nat) (ai:Nat) (aj:Nat),σ_ 1=.pointer (some ⟨b2,0,none⟩)/\σ_ 2=.pointer (some ⟨b6,0,none⟩)/\σ_ 5=.pointer (some ⟨an,0,none⟩)/\PHeap.Le ah U_/\sW w U U_ [.blk b6 28 J,.blk b2 28 B0,.blk an 28 [jV p0.Deadline,.slice (some ⟨ak,0,none⟩) aB.length am,.slice (some ⟨ai,0,none⟩) ap.length aj],.row (some ⟨ak,0,none⟩) am 40 2 (hD wAF aB),.row (some ⟨ai,0,none⟩) aj 46 6 (hD wAD ap)] w_) ?_ ?_
 refine bnK eP fun aa aO eO=>bnK eO fun ab aP aA=>zx zp [3,1,3,1,3,2,3,1,3,2,3,2,0] (wCA (fC6_8 (.fx 5 (.fx 9 gAu (.fx 11 gAv .stop)) (.fx 9 (.fx 5 gAu (.fx 11 gAw .stop)) (.fx 11 (.fx 5 gAv (.fx 9 gAw .stop)) .stop))))) (by kernel_rfl) ?_
 have ax:=b8.drew
 generalize hw_W58:({ br with drawn:=br.drawn + 1 }:World)=eZ at ax ⊢
 refine oR Z (zO Z Z zj Z zB) (oL Z (ax.ldB (j:=1) Z Z Z zM (v:=jV p0.Deadline) Z) (oR Z (zO Z Z zj Z Zu) (oL Z (ax.ldB (j:=1) Z Z Z yL (v:=.slice aC p0.Skiers.length aF) Z) (oR Z (zw Z Z ZL) (oR Z (zO Z Z zj Z Zi) (oL Z (ax.ldB (j:=1) Z Z Z Zq (v:=.slice aD p0.Decisions.length aG) Z) (oR Z (zw Z Z ZC) (OKS.both ?_ ?_))))))))
 refine yC (sz:=2) (enc:=wAF) (z:=(⟨0,0⟩:wAH)) (v:=jV 0) rfl rfl rfl rfl rfl (wDE ZL) wGy rfl rfl rfl rfl (by decide) (by decide) rfl rfl aO ax ?_
 intro cI aw ei
 let B2:Res:=.row (some ⟨aw,0,none⟩) aa.length 40 2 (hD wAF aa)
 have ch:sW w U ah [B2,.blk b6 28 J,.blk b2 28 B0] cI:=ei
 refine OKS.both ?_ ?_
 refine yC (sz:=6) (enc:=wAD) (z:=(⟨0,0,0,0,0,0⟩:wAC)) (v:=jV 0) rfl rfl rfl rfl rfl (wDE ZC) wGz rfl rfl rfl rfl (by decide) (by decide) rfl rfl aP ch ?_
 intro cJ a7 ej
 let B3:Res:=.row (some ⟨a7,0,none⟩) ab.length 46 6 (hD wAD ab)
 have ek:sW w U ah [B3,B2,.blk b6 28 J,.blk b2 28 B0] cJ:=ej
 let B4:List Value:=[jV p0.Deadline,.slice (some ⟨aw,0,none⟩) aa.length aa.length,.slice (some ⟨a7,0,none⟩) ab.length ab.length]
 refine oR Z (ZD (pv:=[(0,jV p0.Deadline),(1,.slice (some ⟨aw,0,none⟩) aa.length aa.length),(2,.slice (some ⟨a7,0,none⟩) ab.length ab.length)]) (z:=J) (cs:=B4) Z (wAI Z (wAI Z (wAI Z wAd))) ZT wED Z Z) (ZI (cs:=J) Z Z Z Z Z ZT Z ek ?_)
 intro e7 bO en
 refine ZN (j:=0) (vs:=B4) Z Z Z Z en Z Z Z Z ZK (zJ Z) Z Z Z ?_
 intro cK eo
 have eu:sW w U ah [.blk bO 28 B4,B3,B2,.blk b6 28 J,.blk b2 28 B0] cK:=eo
 refine zY ?_
 have bY:=nA aA
 simp only [nD] at bY
 obtain ⟨dp,dq⟩:=bY
 subst dp
 subst dq
 exact zI ⟨rfl,⟨ah,bO,aw,aa.length,a7,ab.length,rfl,rfl,rfl,(zS _),(eu.pick [3,4,0,2,1] _ (by decide) rfl)⟩⟩
 refine ZI (cs:=J) Z Z Z Z Z ZT Z ch ?_
 intro e8 bw ez
 refine yC (sz:=6) (enc:=wAD) (z:=(⟨0,0,0,0,0,0⟩:wAC)) (v:=jV 0) rfl rfl rfl rfl rfl (wDE ZC) wGz rfl rfl rfl rfl (by decide) (by decide) rfl rfl aP ez ?_
 intro cL a8 eA
 let B5:Res:=.row (some ⟨a8,0,none⟩) ab.length 46 6 (hD wAD ab)
 have eB:sW w U ah [B5,.blk bw 28 J,B2,.blk b6 28 J,.blk b2 28 B0] cL:=eA
 let B6:List Value:=[jV p0.Deadline,.slice (some ⟨aw,0,none⟩) aa.length aa.length,.slice (some ⟨a8,0,none⟩) ab.length ab.length]
 refine oR Z (ZD (pv:=[(0,jV p0.Deadline),(1,.slice (some ⟨aw,0,none⟩) aa.length aa.length),(2,.slice (some ⟨a8,0,none⟩) ab.length ab.length)]) (z:=J) (cs:=B6) Z (wAI Z (wAI Z (wAI Z wAd))) ZT wED Z Z) (ZN (j:=1) (vs:=B6) Z Z Z Z eB Z Z Z Z ZK (zJ Z) Z Z Z ?_)
 intro cM eC
 have eD:sW w U ah [B5,.blk bw 28 B6,B2,.blk b6 28 J,.blk b2 28 B0] cM:=eC
 refine zY ?_
 have bT:=nA aA
 simp only [nD] at bT
 obtain ⟨cZ,c7⟩:=bT
 subst cZ
 subst c7
 exact zI ⟨rfl,⟨ah,bw,aw,aa.length,a8,ab.length,rfl,rfl,rfl,(zS _),(eD.pick [3,4,1,2,0] _ (by decide) rfl)⟩⟩
 refine OKS.both ?_ ?_
 refine yC (sz:=6) (enc:=wAD) (z:=(⟨0,0,0,0,0,0⟩:wAC)) (v:=jV 0) rfl rfl rfl rfl rfl (wDE ZC) wGz rfl rfl rfl rfl (by decide) (by decide) rfl rfl aP ax ?_
 intro cr av du
 let B7:Res:=.row (some ⟨av,0,none⟩) ab.length 46 6 (hD wAD ab)
 have bZ:sW w U ah [B7,.blk b6 28 J,.blk b2 28 B0] cr:=du
 refine OKS.both ?_ ?_
 refine yC (sz:=2) (enc:=wAF) (z:=(⟨0,0⟩:wAH)) (v:=jV 0) rfl rfl rfl rfl rfl (wDE ZL) wGy rfl rfl rfl rfl (by decide) (by decide) rfl rfl aO bZ ?_
 intro ct aU dv
 let B8:Res:=.row (some ⟨aU,0,none⟩) aa.length 40 2 (hD wAF aa)
 have dw:sW w U ah [B8,B7,.blk b6 28 J,.blk b2 28 B0] ct:=dv
 let B9:List Value:=[jV p0.Deadline,.slice (some ⟨aU,0,none⟩) aa.length aa.length,.slice (some ⟨av,0,none⟩) ab.length ab.length]
 refine oR Z (ZD (pv:=[(0,jV p0.Deadline),(1,.slice (some ⟨aU,0,none⟩) aa.length aa.length),(2,.slice (some ⟨av,0,none⟩) ab.length ab.length)]) (z:=J) (cs:=B9) Z (wAI Z (wAI Z (wAI Z wAd))) ZT wED Z Z) (ZI (cs:=J) Z Z Z Z Z ZT Z dw ?_)
 intro eV bN dx
 refine ZN (j:=0) (vs:=B9) Z Z Z Z dx Z Z Z Z ZK (zJ Z) Z Z Z ?_
 intro cu dy
 have dz:sW w U ah [.blk bN 28 B9,B8,B7,.blk b6 28 J,.blk b2 28 B0] cu:=dy
 refine zY ?_
 have bU:=nA aA
 simp only [nD] at bU
 obtain ⟨c8,dd⟩:=bU
 subst c8
 subst dd
 exact zI ⟨rfl,⟨ah,bN,aU,aa.length,av,ab.length,rfl,rfl,rfl,(zS _),(dz.pick [3,4,0,1,2] _ (by decide) rfl)⟩⟩
 refine ZI (cs:=J) Z Z Z Z Z ZT Z bZ ?_
 intro eW bu dA
 refine yC (sz:=2) (enc:=wAF) (z:=(⟨0,0⟩:wAH)) (v:=jV 0) rfl rfl rfl rfl rfl (wDE ZL) wGy rfl rfl rfl rfl (by decide) (by decide) rfl rfl aO dA ?_
 intro cw aV dB
 let bD:Res:=.row (some ⟨aV,0,none⟩) aa.length 40 2 (hD wAF aa)
 have dC:sW w U ah [bD,.blk bu 28 J,B7,.blk b6 28 J,.blk b2 28 B0] cw:=dB
 let bc:List Value:=[jV p0.Deadline,.slice (some ⟨aV,0,none⟩) aa.length aa.length,.slice (some ⟨av,0,none⟩) ab.length ab.length]
 refine oR Z (ZD (pv:=[(0,jV p0.Deadline),(1,.slice (some ⟨aV,0,none⟩) aa.length aa.length),(2,.slice (some ⟨av,0,none⟩) ab.length ab.length)]) (z:=J) (cs:=bc) Z (wAI Z (wAI Z (wAI Z wAd))) ZT wED Z Z) (ZN (j:=1) (vs:=bc) Z Z Z Z dC Z Z Z Z ZK (zJ Z) Z Z Z ?_)
 intro cx dD
 have dE:sW w U ah [bD,.blk bu 28 bc,B7,.blk b6 28 J,.blk b2 28 B0] cx:=dD
 refine zY ?_
 have bV:=nA aA
 simp only [nD] at bV
 obtain ⟨de,df⟩:=bV
 subst de
 subst df
 exact zI ⟨rfl,⟨ah,bu,aV,aa.length,av,ab.length,rfl,rfl,rfl,(zS _),(dE.pick [3,4,1,0,2] _ (by decide) rfl)⟩⟩
 refine ZI (cs:=J) Z Z Z Z Z ZT Z ax ?_
 intro eX ao b4
 refine OKS.both ?_ ?_
 refine yC (sz:=2) (enc:=wAF) (z:=(⟨0,0⟩:wAH)) (v:=jV 0) rfl rfl rfl rfl rfl (wDE ZL) wGy rfl rfl rfl rfl (by decide) (by decide) rfl rfl aO b4 ?_
 intro cy aW dF
 let be:Res:=.row (some ⟨aW,0,none⟩) aa.length 40 2 (hD wAF aa)
 have dG:sW w U ah [be,.blk ao 28 J,.blk b6 28 J,.blk b2 28 B0] cy:=dF
 refine yC (sz:=6) (enc:=wAD) (z:=(⟨0,0,0,0,0,0⟩:wAC)) (v:=jV 0) rfl rfl rfl rfl rfl (wDE ZC) wGz rfl rfl rfl rfl (by decide) (by decide) rfl rfl aP dG ?_
 intro cz aX dI
 let bE:Res:=.row (some ⟨aX,0,none⟩) ab.length 46 6 (hD wAD ab)
 have dJ:sW w U ah [bE,be,.blk ao 28 J,.blk b6 28 J,.blk b2 28 B0] cz:=dI
 let bg:List Value:=[jV p0.Deadline,.slice (some ⟨aW,0,none⟩) aa.length aa.length,.slice (some ⟨aX,0,none⟩) ab.length ab.length]
 refine oR Z (ZD (pv:=[(0,jV p0.Deadline),(1,.slice (some ⟨aW,0,none⟩) aa.length aa.length),(2,.slice (some ⟨aX,0,none⟩) ab.length ab.length)]) (z:=J) (cs:=bg) Z (wAI Z (wAI Z (wAI Z wAd))) ZT wED Z Z) (ZN (j:=2) (vs:=bg) Z Z Z Z dJ Z Z Z Z ZK (zJ Z) Z Z Z ?_)
 intro cA dK
 have dL:sW w U ah [bE,be,.blk ao 28 bg,.blk b6 28 J,.blk b2 28 B0] cA:=dK
 refine zY ?_
 have bW:=nA aA
 simp only [nD] at bW
 obtain ⟨dh,di⟩:=bW
 subst dh
 subst di
 exact zI ⟨rfl,⟨ah,ao,aW,aa.length,aX,ab.length,rfl,rfl,rfl,(zS _),(dL.pick [3,4,2,1,0] _ (by decide) rfl)⟩⟩
 refine yC (sz:=6) (enc:=wAD) (z:=(⟨0,0,0,0,0,0⟩:wAC)) (v:=jV 0) rfl rfl rfl rfl rfl (wDE ZC) wGz rfl rfl rfl rfl (by decide) (by decide) rfl rfl aP b4 ?_
 intro cB aY dM
 let bh:Res:=.row (some ⟨aY,0,none⟩) ab.length 46 6 (hD wAD ab)
 have dN:sW w U ah [bh,.blk ao 28 J,.blk b6 28 J,.blk b2 28 B0] cB:=dM
 refine yC (sz:=2) (enc:=wAF) (z:=(⟨0,0⟩:wAH)) (v:=jV 0) rfl rfl rfl rfl rfl (wDE ZL) wGy rfl rfl rfl rfl (by decide) (by decide) rfl rfl aO dN ?_
 intro cC aZ dO
 let bF:Res:=.row (some ⟨aZ,0,none⟩) aa.length 40 2 (hD wAF aa)
 have dP:sW w U ah [bF,bh,.blk ao 28 J,.blk b6 28 J,.blk b2 28 B0] cC:=dO
 let bi:List Value:=[jV p0.Deadline,.slice (some ⟨aZ,0,none⟩) aa.length aa.length,.slice (some ⟨aY,0,none⟩) ab.length ab.length]
 refine oR Z (ZD (pv:=[(0,jV p0.Deadline),(1,.slice (some ⟨aZ,0,none⟩) aa.length aa.length),(2,.slice (some ⟨aY,0,none⟩) ab.length ab.length)]) (z:=J) (cs:=bi) Z (wAI Z (wAI Z (wAI Z wAd))) ZT wED Z Z) (ZN (j:=2) (vs:=bi) Z Z Z Z dP Z Z Z Z ZK (zJ Z) Z Z Z ?_)
 intro cD dQ
 have dR:sW w U ah [bF,bh,.blk ao 28 bi,.blk b6 28 J,.blk b2 28 B0] cD:=dQ
 refine zY ?_
 have bX:=nA aA
 simp only [nD] at bX
 obtain ⟨dm,dn⟩:=bX
 subst dm
 subst dn
 exact zI ⟨rfl,⟨ah,ao,aZ,aa.length,aY,ab.length,rfl,rfl,rfl,(zS _),(dR.pick [3,4,2,0,1] _ (by decide) rfl)⟩⟩
 rintro fg eY ⟨au,an,ak,am,ai,aj,bR,bS,aN,cp,ba⟩
 refine sR (wEu (.fx 4 .nil .stop)) Z (oR Z (zO Z aN zj Z Zu) (oL Z (ba.ldB (j:=2) Z Z Z yL (v:=.slice (some ⟨ak,0,none⟩) aB.length am) Z) (oR Z (zO Z bR zj Z Zu) (oL Z (ba.ldB (j:=1) Z Z Z yL (v:=.slice aC p0.Skiers.length aF) Z) ?_))))
 have cO:=cj.le co
 have cP:=cO.le cp
 refine bnK cn fun aH cQ eI=>OKS.copyM (j:=3) (f:=wAF) (m:=aB) (ys:=p0.Skiers) (z:=aH) (a:=0) (n:=aB.length) rfl rfl rfl rfl rfl rfl ZL Zh ba rfl (fun _=>rfl) (fun _=>rfl) rfl cQ rfl (by simp) (.inr (by simp)) rfl (ba.srcS cP) rfl ?_
 intro bL dS eE
 let aJ:Res:=.row (some ⟨ak,0,none⟩) am 40 2 (hD wAF aH)
 let bG:Res:=.row (some ⟨ai,0,none⟩) aj 46 6 (hD wAD ap)
 have dT:sW w U au [.blk b6 28 J,.blk b2 28 B0,.blk an 28 [jV p0.Deadline,.slice (some ⟨ak,0,none⟩) aB.length am,.slice (some ⟨ai,0,none⟩) ap.length aj],aJ,bG] bL:=dS
 let bH:Res:=.blk an 28 [jV p0.Deadline,.slice (some ⟨ak,0,none⟩) aH.length am,.slice (some ⟨ai,0,none⟩) ap.length aj]
 have bb:sW w U au [.blk b6 28 J,.blk b2 28 B0,bH,aJ,bG] bL:=by simp only [bH,eE];exact dT
 refine eN (sR (wEu (.fx 4 .nil .stop)) Z (oR Z (zO Z aN zj Z Zi) (oL Z (bb.ldB (j:=2) Z Z Z Zq (v:=.slice (some ⟨ai,0,none⟩) ap.length aj) Z) (oR Z (zO Z bR zj Z Zi) (oL Z (bb.ldB (j:=1) Z Z Z Zq (v:=.slice aD p0.Decisions.length aG) Z) ?_)))))
 have cR:=cm.le co
 have cS:=cR.le cp
 refine bnK eI fun aI cU eJ=>OKS.copyM (j:=4) (f:=wAD) (m:=ap) (ys:=p0.Decisions) (z:=aI) (a:=0) (n:=ap.length) rfl rfl rfl rfl rfl rfl ZC zi bb rfl (fun _=>rfl) (fun _=>rfl) rfl cU rfl (by simp) (.inr (by simp)) rfl (bb.srcS cS) rfl ?_
 intro aS dU eF
 let ay:Res:=.row (some ⟨ai,0,none⟩) aj 46 6 (hD wAD aI)
 have dV:sW w U au [.blk b6 28 J,.blk b2 28 B0,bH,aJ,ay] aS:=dU
 let bj:Res:=.blk an 28 [jV p0.Deadline,.slice (some ⟨ak,0,none⟩) aH.length am,.slice (some ⟨ai,0,none⟩) aI.length aj]
 have b9:sW w U au [.blk b6 28 J,.blk b2 28 B0,bj,aJ,ay] aS:=by simp only [bj,eF];exact dV
 refine eN (sR gAs Z (oR Z (zO Z aN zj Z Zu) (oL Z (b9.ldB (j:=2) Z Z Z yL (v:=.slice (some ⟨ak,0,none⟩) aH.length am) Z) ?_)))
 have dr:FnOK Tryz.prog au (.func (.func 132) #[] #[]) wMg wMh (fun x=>wCU x.1 x.2):=⟨132,[],[],rfl,Tryz.call132,fun U1 w1 x y vs le hs ha hm=>by obtain rfl:=ha;exact wGU x.1 x.2 w1 U1 hs  hm⟩
 refine bnK eJ fun bA cV eK=>?_
 have dW:sW w U au [aJ,.blk b6 28 J,.blk b2 28 B0,bj,ay] aS:=b9.pick [3,0,1,2,4] _ (by decide) rfl
 refine zG 1 Z Z Z Z (zF Z Z Tryz.call131 (zA Z (zA Z zL)) Z) dW (fun hs=>wDC aH (some ⟨ak,0,none⟩) am (fun x=>wCU x.1 x.2) (.func (.func 132) #[] #[]) aS au hs dr ⟨_,_,Z⟩ cV) (.inl Z) ?_
 rintro aM eS fd aT e9 dX ⟨rfl,rfl,cW⟩
 let az:Res:=.row (some ⟨ak,0,none⟩) am 40 2 (hD wAF bA)
 have dY:sW w U aM [az,.blk b6 28 J,.blk b2 28 B0,bj,ay] aT:=dX
 let aQ:Res:=.blk an 28 [jV p0.Deadline,.slice (some ⟨ak,0,none⟩) bA.length am,.slice (some ⟨ai,0,none⟩) aI.length aj]
 have ca:sW w U aM [az,.blk b6 28 J,.blk b2 28 B0,aQ,ay] aT:=by simp only [aQ,cW];exact dY
 refine eN (sR gAs Z (oR Z (zO Z aN zj Z Zi) (oL Z (ca.ldB (j:=3) Z Z Z Zq (v:=.slice (some ⟨ai,0,none⟩) aI.length aj) Z) ?_)))
 have dt:FnOK Tryz.prog aM (.func (.func 134) #[] #[]) wMi wMj (fun x=>wCV x.1 x.2):=⟨134,[],[],rfl,Tryz.call134,fun U1 w1 x y vs le hs ha hm=>by obtain rfl:=ha;exact wGV x.1 x.2 w1 U1 hs  hm⟩
 refine bnK eK fun cq cX eL=>?_
 have dZ:sW w U aM [ay,az,.blk b6 28 J,.blk b2 28 B0,aQ] aT:=ca.pick [4,0,1,2,3] _ (by decide) rfl
 refine zG 1 Z Z Z Z (zF Z Z Tryz.call133 (zA Z (zA Z zL)) Z) dZ (fun hs=>wCa aI (some ⟨ai,0,none⟩) aj (fun x=>wCV x.1 x.2) (.func (.func 134) #[] #[]) aT aM hs dt ⟨_,_,Z⟩ cX) (.inl Z) ?_
 rintro aR eT ff bM fb d7 ⟨rfl,rfl,cY⟩
 let bk:Res:=.row (some ⟨ai,0,none⟩) aj 46 6 (hD wAD cq)
 have d8:sW w U aR [bk,az,.blk b6 28 J,.blk b2 28 B0,aQ] bM:=d7
 let aq:List Value:=[jV p0.Deadline,.slice (some ⟨ak,0,none⟩) bA.length am,.slice (some ⟨ai,0,none⟩) cq.length aj]
 have cc:sW w U aR [bk,az,.blk b6 28 J,.blk b2 28 B0,.blk an 28 aq] bM:=by simp only [aq,cY];exact d8
 refine eN (sR gAo Z (oL Z (cc.ldBA (j:=4) Z Z aN yD ZK (vs:=aq) Z Z) (ZN (j:=2) (vs:=aq) Z Z Z Z cc Z bS Z Z ZK (zJ Z) Z Z Z ?_)))
 intro cE d9
 have cd:sW w U aR [bk,az,.blk b6 28 aq,.blk b2 28 B0,.blk an 28 aq] cE:=d9
 refine oA Z Z (eN (zR ?_))
 cases eL
 exact ⟨rfl,_,(wIS (rs:=[.cell 2 28,.tmp 3]) (vs:=[.agg aq.toArray,jV 0]) ⟨⟨_,bS,(wFW yD ZK (cd.blkAt (k:=2) rfl) (vs:=aq) rfl rfl)⟩,⟨rfl,trivial⟩⟩ rfl),aR,_,(cd.pick [1,0] _ (by decide) rfl),(some ⟨ak,0,none⟩),am,(some ⟨ai,0,none⟩),aj,rfl,rfl⟩
 intro bx eM
 refine cT Z bx (sR gAz Z (oR Z (ZD (pv:=[]) (z:=J) (cs:=J) Z wAd ZT wED Z Z) (oM Z Z (ZN (j:=0) (vs:=J) Z Z Z Z b8 Z Z Z Z ZK (zJ Z) Z Z Z ?_))))
 intro cG ec
 have ed:sW w U ah [.blk b6 28 J,.blk b2 28 B0] cG:=ec
 refine oA Z Z (eN (zR (zc ?_)))
 have ee:=ed.nilrow 40 2
 have cg:=ee.nilrow 46 6
 cases eM
 exact ⟨rfl,_,(wIS (rs:=[.cell 2 28,.tmp 3]) (vs:=[.agg J.toArray,jV x9]) ⟨⟨_,rfl,(wFW yD ZK (cg.blkAt (k:=2) rfl) (vs:=J) rfl rfl)⟩,⟨rfl,trivial⟩⟩ rfl),ah,_,(cg.pick [1,0] _ (by decide) rfl),none,0,none,0,rfl,rfl⟩
theorem wCP {S E:Type} (PY:S->PHeap->List Res->Prop) (PE:E->PHeap->List Res->Prop) (f:S->(Int × wAC)->Option (S ⊕ E)) (y:Nat) (s0:S) (p1:List wAC) (au:Nat) (aj:Option Addr) (ak:Nat) (w:World) (L:List Res) (U:PHeap) (hS:St ⟨w,L,U⟩ U L w) (hP:PY s0 U L) (hY:YOK Tryz.prog y wMk PY PE f U) (aA:Cl U au 0 [.slice aj p1.length ak]) (aR:Sl U 6 aj ak p1.length (hD wAD p1)) {r:S ⊕ E} (hm:wAa f s0 p1=some r):Gv Tryz.prog 135 [.func (.yield y) #[] #[],.pointer (some ⟨au,0,none⟩)] w (ItS w L U PY PE r):=by
 unfold wAa at hm
 refine Gv.of Tryz.func135 Z Tryz.ntmps135 Tryz.results135 Z (sR fL4 Z (oL Z (hS.ldC (f:=0) aA (v:=.slice aj p1.length ak) Z Z Zq Z) (oR Z (zw Z Z ZC) (oR Z (zg Z Z Z) (oA Z Z (eN (zP (Zm (fun (am,aG) σ_ w_=>∃ (U_:PHeap) (an:List Res),σ_ 0=.func (.yield y) #[] #[]/\σ_ 1=.pointer (some ⟨au,0,none⟩)/\σ_ 3=jV am/\PHeap.Le U U_/\St ⟨w,L,U⟩ U_ an w_/\PY aG U_ an) hm ?_ ?_))))))))
 exact ⟨U,L,Z,Z,Z,(zS _),hS,hP⟩
 rintro ⟨am,aG⟩ bg bh ba ⟨aH,an,aw,ax,ae,ai,ag,ay⟩ aq aB
 try dsimp only at aq
 refine zH (sR fL2 Z (oM Z ae (oR Z (Runs.geq Z Z Z) (eN ?_))))
 by_cases J:0 <= am
 have aC:=aq;rw [if_pos J] at aC;replace J:=zD J
 refine cT Z J (kN (zH (zP (sR (wIM gAl) Z (oM Z aw (oM Z ae ?_))))))
 have aK:=aA.le ai
 refine oL Z (ag.ldC (f:=0) aK (v:=.slice aj p1.length ak) Z ax Zq Z) (oM Z ae (bnK aC fun aa ap aS=>?_))
 have aL:=aR.le ai
 have q:=aL.el (fun _=>rfl) (wBW ap)
 obtain ⟨bb,be,aN,aO⟩:=q
 refine oR Z (zm Z Z aN Z ZC zi (wFE ap) (wFV ap)) (oL Z (ag.ldCA (f:=0) aO Z Z ZF zi (us:=[jV aa.Number,jV aa.Kind,jV aa.Minute,jV aa.Bib,jV aa.Much,jV aa.About]) Z Z) (bnK aS fun a8 aM ah=>OKS.yieldT 0 (a:=(am,aa)) Z Z Z Z Z Z (zA Z (zA Z zL)) ag hY ai ay Z aM Z ?_))
 rintro ac ao bc av aX az af
 rcases a8 with aY | aY
 try dsimp only at ah af
 obtain ⟨rfl,aV⟩:=af
 have aP:St ⟨w,L,U⟩ ac ao av:=az
 refine oR Z (ZV Z Z) (eN (ze Z (zo (zd (zI (rR fL3 Z (oM Z ae (oR Z (zg Z Z Z) (oA Z Z (zY ?_))))))))))
 have q:=nA ah
 obtain rfl:=q
 exact zI ⟨Z,_,Z,⟨ac,ao,aw,ax,Z,(ai.trans aX),aP,aV⟩⟩
 try dsimp only at ah af
 obtain ⟨rfl,aW⟩:=af
 have aQ:St ⟨w,L,U⟩ ac ao av:=az
 refine oR Z (ZV Z Z) (eN (ZB Z (zR (zq (zc ?_)))))
 have q:=wAe ah
 obtain ⟨aZ,aT,aI⟩:=q
 have q:=aB aZ aI
 obtain rfl:=q
 refine zc (zq ?_)
 cases aT
 exact ⟨Z,_,(wCM),ac,_,aQ,aW⟩
 have aD:=aq;rw [if_neg J] at aD;replace J:=zD J
 refine cF Z J (zr (zV ?_))
 have q:=wAe aD
 obtain ⟨a7,aU,aJ⟩:=q
 have q:=aB a7 aJ
 obtain rfl:=q
 refine zV (zk ?_)
 cases aU
 exact ⟨Z,_,(wCM),aH,_,ag,ay⟩
theorem wCb (J:List wAC) (ab:Option Addr) (ac:Nat) (w:World) (U:PHeap) (hS:St0 w U []) (am:Sl U 6 ab ac J.length (hD wAD J)) {r:Unit} (hm:wAl J=some r):Gv Tryz.prog 79 [.slice ab J.length ac] w (wBu w [] U (fun U_ L_ v=>∃ (b0:Nat),v=.func (.func 135) #[] #[.pointer (some ⟨b0,0,none⟩)]/\L_=[]/\Cl U_ b0 0 [.slice ab J.length ac])):=by
 unfold wAl at hm
 refine Gv.of Tryz.func79 rfl Tryz.ntmps79 Tryz.results79 rfl (sR gAf rfl (ZG (cs:=[.slice ab J.length ac]) rfl rfl rfl rfl rfl rfl (by rfl) hS ?_))
 intro W1 b2 ai
 have q:=ai.freeze (k:=0) rfl
 obtain ⟨U5,an,aa,aj⟩:=q
 replace aa:=Cl.of aa
 have ak:sW w U U5 [] W1:=aj
 replace aa:Cl U5 b2 0 [.slice ab J.length ac]:=aa
 refine oA Z Z (eN (sR fL2 Z (oR Z (yF Z zL (zA Z zL)) (oA Z Z (eN (zR ?_))))))
 cases hm
 exact ⟨Z,_,(zh Z),U5,_,ak,b2,Z,Z,aa⟩
theorem wHy (p0:wAO) (aK:Option Addr) (aM:Nat) (aL:Option Addr) (aN:Nat) (w:World) (U:PHeap) (hS:St0 w U []) (cD:Sl U 2 aK aM p0.Skiers.length (hD wAF p0.Skiers)) (cE:Sl U 6 aL aN p0.Decisions.length (hD wAD p0.Decisions)) {r:(Option wAR) × Int} (hm:wDq p0=some r):Gv Tryz.prog 34 [.agg #[jV p0.Deadline,.slice aK p0.Skiers.length aM,.slice aL p0.Decisions.length aN]] w (wBu w [] U (fun U_ L_ v=>match r.1 with | none=>v=.tuple #[.pointer none,jV r.2]/\L_=[] | some d=>∃ (b0:Nat) (A0p01:Option Addr) (c0p01:Nat) (A0p02:Option Addr) (c0p02:Nat) (m0p1:Nat) (es0p1:Array MapEntry) (ck0p1:Nat) (m0p2:Nat) (es0p2:Array MapEntry) (ck0p2:Nat),v=.tuple #[.pointer (some ⟨b0,0,none⟩),jV r.2]/\L_=[.blk b0 210 [jV d.Record.Deadline,.slice A0p01 d.Record.Skiers.length c0p01,.slice A0p02 d.Record.Decisions.length c0p02,.map (some m0p1),.map (some m0p2)],.row A0p01 c0p01 40 2 (hD wAF d.Record.Skiers),.obj m0p1 (.map es0p1 ck0p1),.obj m0p2 (.map es0p2 ck0p2)]/\Sl U_ 6 A0p02 c0p02 d.Record.Decisions.length (hD wAD d.Record.Decisions)/\MpR es0p1 wEQ wEZ d.at_/\MpR es0p2 wER wEa d.about)):=by
 unfold wDq at hm
 refine Go.KX.Gv.ofM Tryz.func34 Z Tryz.ntmps34 Tryz.results34 (zJ Z) (sR (.fx 0 gAa .stop) Z ?_)
 let B0:List Value:=[jV p0.Deadline,.slice aK p0.Skiers.length aM,.slice aL p0.Decisions.length aN]
 refine ZG (cs:=B0) rfl rfl rfl rfl rfl rfl (by rfl) hS ?_
 intro W1 b2 bk
 refine oA Z Z (oA Z Z (eN (sR (.fl 0 (.fx 1 (fC2_4 (.fx 5 gAl .stop)) .stop)) Z (oL Z (bk.ldBA (j:=0) Z Z Z yD ZK (vs:=B0) Z Z) ?_))))
 have q:=bnd hm
 obtain ⟨⟨x5,x6⟩,h7,br⟩:=q
 try dsimp only at br
 refine zG 0 Z Z Z Z (zF Z Z Tryz.call78 (zA Z zL) Z) bk (fun hs=>wHI p0 aK aM aL aN W1 U hs cD cE h7) (.inr Z) ?_
 rintro U9 cS dr bD di bY ⟨aw,ay,ap,au,rfl,rfl⟩
 let B1:Res:=.row aw ay 40 2 (hD wAF x5.Skiers)
 let B2:Res:=.row ap au 46 6 (hD wAD x5.Decisions)
 have co:sW w U U9 [B1,B2,.blk b2 28 B0] bD:=bY
 refine oM Z Z (oR Z (ZX Z Z (v:=.agg #[jV x5.Deadline,.slice aw x5.Skiers.length ay,.slice ap x5.Decisions.length au]) Z) (oR Z (ZX Z Z (v:=jV x6) Z) (ZI (cs:=[jV 0,.slice none 0 0,.slice none 0 0]) Z Z Z Z Z ZT Z co ?_)))
 intro cZ ai cp
 let B3:List Value:=[jV x5.Deadline,.slice aw x5.Skiers.length ay,.slice ap x5.Decisions.length au]
 refine ZN (j:=0) (vs:=B3) Z Z Z Z cp Z Z Z Z ZK (zJ Z) Z Z Z ?_
 intro bJ cq
 have aU:sW w U U9 [.blk ai 28 B3,B1,B2,.blk b2 28 B0] bJ:=cq
 refine oA Z Z (eN (zH (sR fL2 Z (oM Z Z (oR Z (Zf Z Z Z) (eN (ifc br ?_ ?_)))))))
 intro aT cJ
 refine ze (zt (fun h=>h aT.out)) (kN (sR (.fl 0 (.fx 1 (.fx 2 (.fl 3 (.fx 4 (.fx 5 (.fx 6 .nil .stop) .stop) .stop)) .stop) .stop)) Z (oL Z (aU.ldBA (j:=0) Z Z Z yD ZK (vs:=B3) Z Z) (OKS.makeMap Z Z Z Z Z aU ?_))))
 intro c7 ag cr
 have cL:=MpR.nil wEQ wEZ
 refine OKS.makeMap Z Z Z Z Z cr ?_
 intro c8 aj ct
 have cM:=MpR.nil wER wEa
 let B4:List Value:=[jV x5.Deadline,.slice aw x5.Skiers.length ay,.slice ap x5.Decisions.length au,.map (some ag),.map (some aj)]
 refine zT rfl rfl rfl rfl (fun _=>ZD (pv:=[(0,.agg B3.toArray),(1,.map (some ag)),(2,.map (some aj))]) (z:=[jV 0,.slice none 0 0,.slice none 0 0,.map none,.map none]) (cs:=B4) rfl (wAI rfl (wAI rfl (wAI rfl wAd))) Tryz.zeroValue210 wKC rfl rfl) (ZG (cs:=B4) rfl rfl rfl rfl rfl rfl (by rfl) ct ?_)
 intro dd ac cu
 refine ZI (cs:=[.pointer none]) Z Z Z Z Z Tryz.zeroValue129 Z cu ?_
 intro de am cw
 let B5:List Value:=[.pointer (some ⟨ac,0,none⟩)]
 refine ZN (j:=0) (vs:=B5) Z Z Z Z cw Z Z Z Z Tryz.sizeOf129 (zJ Z) Z Z Z ?_
 intro aS cx
 have aV:sW w U U9 [.blk am 129 B5,.blk ac 210 B4,.obj aj (.map #[] 0),.obj ag (.map #[] 0),.blk ai 28 B3,B1,B2,.blk b2 28 B0] aS:=cx
 refine eN (zH (sR (wCA (.fx 5 .nil .stop)) Z (oL Z (aV.ldB (j:=0) Z Z Z Tryz.isAgg129 (v:=.pointer (some ⟨ac,0,none⟩)) Z) (oR Z (Zn Z Z) (oR Z (zO Z Z Zx Z ZK) (oR Z (zO Z Z zj Z Zi) (oL Z (aV.ldB (j:=1) Z Z Z Zq (v:=.slice ap x5.Decisions.length au) Z) ?_)))))))
 have q:=aV.freezeR (k:=6) (n:=x5.Decisions.length) rfl (wAG (f:=wAD) (sz:=6) (fun _=>rfl) x5.Decisions) (by decide)
 obtain ⟨a7,dn,bu,cy⟩:=q
 have cz:sW w U a7 [.blk am 129 B5,.blk ac 210 B4,.obj aj (.map #[] 0),.obj ag (.map #[] 0),.blk ai 28 B3,B1,.blk b2 28 B0] aS:=cy
 have q:=bnd cJ
 obtain ⟨⟨⟩,bS,bq⟩:=q
 try dsimp only at bq
 refine zG 0 Z Z Z Z (zF Z Z Tryz.call79 (zA Z zL) Z) cz (fun hs=>wCb x5.Decisions ap au aS a7 hs bu bS) (.inr Z) ?_
 rintro a8 cW dt bK cO cA ⟨bb,rfl,rfl,bT⟩
 have cB:sW w U a8 [.blk am 129 B5,.blk ac 210 B4,.obj aj (.map #[] 0),.obj ag (.map #[] 0),.blk ai 28 B3,B1,.blk b2 28 B0] bK:=cA
 refine eN (zP (CK.fresh fun aZ aX=>?_))
 have bg:aZ 6=.pointer (some ⟨am,0,none⟩):=(aX 6).trans rfl
 have bO:aZ 27=.func (.func 135) #[] #[.pointer (some ⟨bb,0,none⟩)]:=(aX 27).trans rfl
 clear aX
 refine bnK bq fun bA cH bm=>?_
 have bh:=bu.le cO
 refine CK.rangeY (S:=(List (Int × wAC))) (E:=Empty) (ar:=wMk) (PY:=(fun (bw:(List (Int × wAC))) (U_:PHeap) (L_:List Res)=>∃ (av:Array MapEntry) (az:Nat),L_=[.blk am 129 B5,.row aw ay 40 2 (hD wAF x5.Skiers),.blk ac 210 B4,.obj aj (.map #[] 0),.obj ag (.map av az),.blk ai 28 B3,.blk b2 28 B0]/\MpR av wEQ wEZ bw)) (PE:=(fun (_:Empty) _ _=>False)) (exO:=Empty.elim) (s0:=([]:List (Int × wAC))) (rr:=bA) bO Tryz.call135 (cB.pick [0,5,1,2,3,4,6] _ (by decide) rfl) (by decide) (fun _ _ _ h=>by obtain rfl:=h;rfl) (fun e=>nomatch e) ⟨#[],0,rfl,cL⟩ (fun l w1 L1 PY' PE' bX bV cC=>wCP PY' PE' _ l _ x5.Decisions bb ap au w1 L1 a8 bX bV cC bT bh cH) ?_ ?_
 rintro aF dq dh bw J du dp aO cU cQ aY aG dm bZ bW cG aW aP aB
 obtain ⟨av,az,rfl,bP⟩:=bW
 obtain rfl:=cG
 replace aB:∀ t,aP t=upd (upd aZ 28 (jV J.1)) 29 (.agg #[jV J.2.Number,jV J.2.Kind,jV J.2.Minute,jV J.2.Bib,jV J.2.Much,jV J.2.About]) t:=aB
 have df:aP 28=jV J.1:=(aB 28).trans ((wFD _ _ (by decide)).trans (wEO _ _ _))
 have bM:aP 29=.agg #[jV J.2.Number,jV J.2.Kind,jV J.2.Minute,jV J.2.Bib,jV J.2.Much,jV J.2.About]:=(aB 29).trans (wEO _ _ _)
 have bN:aP 6=.pointer (some ⟨am,0,none⟩):=(aB 6).trans ((wFD _ _ (by decide)).trans ((wFD _ _ (by decide)).trans bg))
 clear aB
 have b4:St aG aO [.obj aF aY,.blk am 129 B5,B1,.blk ac 210 B4,.obj aj (.map #[] 0),.obj ag (.map av az),.blk ai 28 B3,.blk b2 28 B0] cQ:=bZ
 try dsimp only at aW
 refine rR (.fx 0 (.fx 1 .nil .stop) .stop) Z (ZI (cs:=[jV 0,jV 0,jV 0,jV 0,jV 0,jV 0]) Z Z Z Z Z Zl Z b4 ?_)
 intro cX aH b8
 let B6:List Value:=[jV J.2.Number,jV J.2.Kind,jV J.2.Minute,jV J.2.Bib,jV J.2.Much,jV J.2.About]
 refine ZN (j:=0) (vs:=B6) Z Z Z Z b8 Z Z bM Z zi (zJ Z) Z Z Z ?_
 intro bE b9
 have ca:St aG aO [.blk aH 46 B6,.obj aF aY,.blk am 129 B5,B1,.blk ac 210 B4,.obj aj (.map #[] 0),.obj ag (.map av az),.blk ai 28 B3,.blk b2 28 B0] bE:=b9
 refine zY ⟨rfl,rfl,_,_,(ca.pick [1,0,2,3,4,5,6,7,8] [.obj aF aY,.blk aH 46 B6,.blk am 129 B5,B1,.blk ac 210 B4,.obj aj (.map #[] 0),.obj ag (.map av az),.blk ai 28 B3,.blk b2 28 B0] (by decide) rfl),fun aR bx cc=>?_⟩
 have cd:St aG aO [.obj aF bx,.blk aH 46 B6,.blk am 129 B5,B1,.blk ac 210 B4,.obj aj (.map #[] 0),.obj ag (.map av az),.blk ai 28 B3,.blk b2 28 B0] aR:=cc
 refine zP (zH (zx zp [1,3,3,1,3,1,1,0] (wHc (.fx 7 .nil .stop)) (by kernel_rfl) ?_))
 have aA:=cd.drew
 generalize hw_W167:({ aR with drawn:=aR.drawn + 1 }:World)=cY at aA ⊢
 refine zn rfl rfl rfl rfl (aA.ldB (j:=2) rfl rfl bN Tryz.isAgg129 (v:=.pointer (some ⟨ac,0,none⟩)) rfl) rfl (zT rfl rfl rfl rfl (fun _=>Zn rfl rfl) (zT rfl rfl rfl rfl (fun _=>zO rfl rfl Zx rfl Tryz.sizeOf207) (zn rfl rfl rfl rfl (aA.ldB (j:=4) rfl rfl rfl Tryz.isAgg207 (v:=.map (some ag)) rfl) rfl (zT rfl rfl rfl rfl (fun _=>zO rfl rfl zW rfl zB) (zn rfl rfl rfl rfl (aA.ldB (j:=1) rfl rfl rfl zM (v:=jV J.2.Number) rfl) rfl (zn rfl rfl rfl rfl (aA.ldBA (j:=1) rfl rfl rfl ZF zi (vs:=B6) rfl rfl) rfl (OKS.mapPut (x:=.tmp 33) (y:=.tmp 35) (z:=.tmp 36) (j:=6) (mk:=wEQ) (mv:=wEZ) (a:=J.2.Number) (v:=J.2) rfl rfl rfl (by first | exact .inl rfl | exact .inr rfl) aA rfl rfl rfl rfl (wDE Tryz.runUnderlying207) wLu bP rfl ?_)))))))
 intro be bc bF cK cg
 have bi:St aG aO [.obj aF bx,.blk aH 46 B6,.blk am 129 B5,B1,.blk ac 210 B4,.obj aj (.map #[] 0),.obj ag (.map be bc),.blk ai 28 B3,.blk b2 28 B0] bF:=cg
 refine eN (sR fL3 Z (oR Z (zO Z Z zW Z zB) (oL Z (bi.ldB (j:=1) Z Z Z zM (v:=jV J.2.About) Z) (oR Z (Zy Z Z Z) (eN ?_)))))
 by_cases aq:0 < J.2.About
 have bn:=aW;rw [if_pos aq] at bn;replace aq:=zD aq
 refine cT Z aq ?_
 cases bn
 have bp:=aW;rw [if_neg aq] at bp;replace aq:=zD aq
 refine cF Z aq (zo (zd ?_))
 have q:=nA bp
 obtain rfl:=q
 exact ⟨_,_,(bi.pick [0,2,3,4,5,6,7,8] _ (by decide) rfl),rfl,⟨be,bc,rfl,cK⟩⟩
 rintro bz aQ cV bG cN ch
 rcases bA with dv | bL
 try dsimp only at bm
 rintro ⟨aJ,aI,rfl,bQ⟩
 have bj:sW w U aQ [.blk am 129 B5,B1,.blk ac 210 B4,.obj aj (.map #[] 0),.obj ag (.map aJ aI),.blk ai 28 B3,.blk b2 28 B0,.obj bz (.deferred (some []))] bG:=ch
 refine zd (zI (sR fL3 Z (oL Z (bj.ldB (j:=0) Z Z bg Tryz.isAgg129 (v:=.pointer (some ⟨ac,0,none⟩)) Z) (oA Z Z (oA Z Z (eN (zR ?_)))))))
 have bR:=bh.le cN
 refine wJw (by first | exact .inl rfl | exact .inr rfl) (rbs:=[bz]) (L:=[.blk am 129 B5,B1,.blk ac 210 B4,.obj aj (.map #[] 0),.obj ag (.map aJ aI),.blk ai 28 B3,.blk b2 28 B0]) bj fun bH ci=>?_
 have cj:sW w U aQ [.blk am 129 B5,B1,.blk ac 210 B4,.obj aj (.map #[] 0),.obj ag (.map aJ aI),.blk ai 28 B3,.blk b2 28 B0] bH:=ci
 cases bm
 exact ⟨_,(wHg rfl rfl),aQ,_,(cj.pick [2,1,4,3] _ (by decide) rfl),ac,aw,ay,ap,au,ag,aJ,aI,aj,#[],0,rfl,rfl,bR,bQ,cM⟩
 exact bL.elim
 intro aT cI
 refine cT Z aT (sR fL3 rfl (zC rfl rfl rfl rfl rfl rfl (Zz rfl rfl rfl rfl rfl rfl (Zz rfl rfl rfl rfl rfl rfl (eN (zR (zc (wJw (by first | exact .inl rfl | exact .inr rfl) (rbs:=[]) (L:=[.blk ai 28 B3,B1,B2,.blk b2 28 B0]) aU fun bI cm=>?_))))))))
 have cn:sW w U U9 [.blk ai 28 B3,B1,B2,.blk b2 28 B0] bI:=cm
 cases cI
 exact ⟨_,(wHg rfl rfl),U9,_,(cn.pick [] _ (by decide) rfl),rfl,rfl⟩
end Go.Proofs.YtlmekamhphnmjaaGreat
namespace Go.Proofs.YtlmekamhphnmjaaGreat
open Go.KL
set_option maxHeartbeats 4000000
theorem wGG (p0:Int) (w:World) (U:PHeap) (hS:St0 w U [])  {r:Bool} (hm:wDK p0=some r):Gv Tryz.prog 140 [jV p0] w (wBu w [] U (fun U_ L_ v=>v=.bool r/\L_=[])):=by
 unfold wDK at hm
 refine Gv.of Tryz.func140 Z Tryz.ntmps140 Tryz.results140 Z (sR fL1 Z (oA Z Z (eN (sR fL7 Z (oM Z Z (oR Z (Zr Z Z Z) (oM Z Z ?_)))))))
 by_cases J:p0=4
 have ac:=hm;rw [if_pos J] at ac;replace J:=zD J
 refine oT Z J (oT Z J (oR Z (zb Z (ZJ J.out) Z) (oA Z Z (eN (zR ?_)))))
 have hE:=nA ac;first | subst r | cases hE
 exact ⟨Z,_,(zh Z),U,_,hS,Z,Z⟩
 have aa:=hm;rw [if_neg J] at aa;replace J:=zD J
 refine zC Z Z Z (wF Z J) Z Z (rU Z (wF Z J) (Zr Z Z Z) (oR Z (zX Z (zt J.out) Z) (oA Z Z (eN (zR ?_)))))
 first | (obtain rfl:=nA aa) | cases aa
 exact ⟨Z,_,(zh Z),U,_,hS,Z,Z⟩
theorem wGH (p0:wAR) (am:Nat) (aj:Option Addr) (an:Nat) (ak:Option Addr) (ao:Nat) (ap:Nat) (aG:Array MapEntry) (aI:Nat) (aq:Nat) (aH:Array MapEntry) (aJ:Nat) (p1:wAC) (w:World) (U:PHeap) (hS:St0 w U []) (aB:Cl U am 0 [jV p0.Record.Deadline,.slice aj p0.Record.Skiers.length an,.slice ak p0.Record.Decisions.length ao,.map (some ap),.map (some aq)]) (aL:Sl U 2 aj an p0.Record.Skiers.length (hD wAF p0.Record.Skiers)) (aM:Sl U 6 ak ao p0.Record.Decisions.length (hD wAD p0.Record.Decisions)) (aN:MpF U ap aG aI wEQ wEZ p0.at_) (aO:MpF U aq aH aJ wER wEa p0.about) {r:Bool} (hm:wCi p0 p1=some r):Gv Tryz.prog 83 [.pointer (some ⟨am,0,none⟩),.agg #[jV p1.Number,jV p1.Kind,jV p1.Minute,jV p1.Bib,jV p1.Much,jV p1.About]] w (wBu w [] U (fun U_ L_ v=>v=.bool r/\L_=[])):=by
 unfold wCi at hm
 refine Gv.of Tryz.func83 Z Tryz.ntmps83 Tryz.results83 Z (sR gAf Z ?_)
 let B0:List Value:=[jV p1.Number,jV p1.Kind,jV p1.Minute,jV p1.Bib,jV p1.Much,jV p1.About]
 refine ZG (cs:=B0) rfl rfl rfl rfl rfl rfl (by rfl) hS ?_
 intro W1 b2 aA
 refine Zz rfl rfl rfl rfl rfl rfl (eN (zH (zx zp [3,1,2,3,3,1,3,3,3,3,1,3,3,3] (.fl 0 (.fl 1 (.fx 2 (wNR (.nil)) .stop))) (by kernel_rfl) ?_)))
 have af:=aA.drew
 generalize hw_W6:({ W1 with drawn:=W1.drawn + 1 }:World)=W6 at af ⊢
 refine oR Z (zO Z Z zW Z ZP) (oL Z (af.ldB (j:=0) Z Z Z ZR (v:=jV p1.Kind) Z) (bnK hm fun x7 h8 aD=>zG 0 Z Z Z Z (zF Z Z Tryz.call140 (zA Z zL) Z) af (fun hs=>wGG p1.Kind W6 U hs h8) (.inr Z) ?_))
 rintro ae aK aP au aF az ⟨rfl,rfl⟩
 have ac:sW w U ae [.blk b2 46 B0] au:=az
 refine oM Z Z (ifc aD ?_ ?_)
 intro J ai
 refine zT Z Z Z (zU Z Z (congrArg hJ J.out)) (fun _=>zO Z Z zW Z zB) (zn Z Z Z (zU Z Z (congrArg hJ J.out)) (ac.ldB (j:=0) Z Z Z zM (v:=jV p1.Minute) Z) Z (zC Z Z Z (zU Z Z (congrArg hJ J.out)) Z Z (zT Z Z Z (zU Z Z (congrArg hJ J.out)) (fun _=>Zn Z Z) (zT Z Z Z (zU Z Z (congrArg hJ J.out)) (fun _=>zO Z Z Zx Z ZK) (zT Z Z Z (zU Z Z (congrArg hJ J.out)) (fun _=>zO Z Z zj Z zB) ?_)))))
 have ax:=aB.le aF
 refine zn Z Z Z (zU Z Z (congrArg hJ J.out)) (ac.ldC (f:=0) ax (v:=jV p0.Record.Deadline) Z Z zM Z) Z (zT Z Z Z (zU Z Z (congrArg hJ J.out)) (fun _=>Zy Z Z Z) (oR Z (zb Z (congrArg hJ J.out) Z) (oA Z Z (eN (zR ?_)))))
 first | (obtain rfl:=nA ai) | cases ai
 exact ⟨rfl,_,(zh rfl),ae,_,(ac.pick [] _ (by decide) rfl),rfl,rfl⟩
 intro J aC
 refine ZA Z Z Z (zf Z Z (congrArg hJ (hM.2 J.out)) Z) (ZA Z Z Z (zf Z Z (congrArg hJ (hM.2 J.out)) Z) (ZA Z Z Z (zf Z Z (congrArg hJ (hM.2 J.out)) Z) (ZA Z Z Z (zf Z Z (congrArg hJ (hM.2 J.out)) Z) (ZA Z Z Z (zf Z Z (congrArg hJ (hM.2 J.out)) Z) (ZA Z Z Z (zf Z Z (congrArg hJ (hM.2 J.out)) Z) (ZA Z Z Z (zf Z Z (congrArg hJ (hM.2 J.out)) Z) (ZA Z Z Z (zf Z Z (congrArg hJ (hM.2 J.out)) Z) (oR Z (zX Z (congrArg hJ (hM.2 J.out)) Z) (oA Z Z (eN (zR ?_)))))))))))
 have hE:=nA aC;first | subst r | cases hE
 exact ⟨rfl,_,(zh rfl),ae,_,(ac.pick [] _ (by decide) rfl),rfl,rfl⟩
theorem wEF (J:wAC) (p1:(Int->Option Bool)) (am:Value) (p2:wAR) (aB:Nat) (ak:Nat) (az:Option Addr) (aD:Nat) (aA:Option Addr) (aF:Nat) (aG:Nat) (aX:Array MapEntry) (aZ:Nat) (aj:Nat) (aY:Array MapEntry) (a7:Nat) (p3:Unit) (aC:Nat) (w:World) (U:PHeap) (hS:St0 w U []) (bq:FnOK Tryz.prog U am wLq wLr p1) (aR:Cl U aB 0 [.pointer (some ⟨ak,0,none⟩)]) (aS:Cl U ak 0 [jV p2.Record.Deadline,.slice az p2.Record.Skiers.length aD,.slice aA p2.Record.Decisions.length aF,.map (some aG),.map (some aj)]) (br:Sl U 2 az aD p2.Record.Skiers.length (hD wAF p2.Record.Skiers)) (bu:Sl U 6 aA aF p2.Record.Decisions.length (hD wAD p2.Record.Decisions)) (bw:MpF U aG aX aZ wEQ wEZ p2.at_) (aT:MpF U aj aY a7 wER wEa p2.about) {r:wAC × Bool} (hm:wCs J p1 p2 p3=some r):Gv Tryz.prog 84 [.agg #[jV J.Number,jV J.Kind,jV J.Minute,jV J.Bib,jV J.Much,jV J.About],am,.pointer (some ⟨aB,0,none⟩),.pointer (some ⟨aC,0,none⟩)] w (wBu w [] U (fun U_ L_ v=>v=.tuple #[.agg #[jV r.1.Number,jV r.1.Kind,jV r.1.Minute,jV r.1.Bib,jV r.1.Much,jV r.1.About],.bool r.2]/\L_=[])):=by
 unfold wCs at hm
 refine Gv.of Tryz.func84 Z Tryz.ntmps84 Tryz.results84 Z (sR gAt Z ?_)
 let B0:List Value:=[jV J.Number,jV J.Kind,jV J.Minute,jV J.Bib,jV J.Much,jV J.About]
 refine ZG (cs:=B0) rfl rfl rfl rfl rfl rfl (by rfl) hS ?_
 intro W1 b2 aN
 let B1:List Value:=[jV 0,jV 0,jV 0,jV 0,jV 0,jV 0]
 refine ZI (cs:=B1) Z Z Z Z Z Zl Z aN ?_
 intro W5 b6 aQ
 refine Zz rfl rfl rfl rfl rfl rfl (eN (zH (zH (zx zp [1,3,3,1,3,1,1,3,3] fL9 (by kernel_rfl) ?_))))
 have ac:=aQ.drew
 generalize hw_W10:({ W5 with drawn:=W5.drawn + 1 }:World)=bb at ac ⊢
 refine oL Z (ac.ldC (f:=0) aR (v:=.pointer (some ⟨ak,0,none⟩)) Z Z Tryz.isAgg129 Z) (oR Z (Zn Z Z) (oR Z (zO Z Z Zx Z Tryz.sizeOf208) (oL Z (ac.ldC (f:=4) aS (v:=.map (some aj)) Z Z Tryz.isAgg208 Z) (oR Z (zO Z Z zW Z zB) (oL Z (ac.ldB (j:=1) Z Z Z zM (v:=jV J.Number) Z) (oL Z (ac.lookupF1 (mk:=wER) (mv:=wEa) (a:=J.Number) (z:=()) aT Z Z Z (wDE Tryz.runUnderlying208) wKE Tryz.zeroValue26) (oR Z (zw Z Z ZC) (oM Z Z (eN (zP ?_))))))))))
 have q:=bnd hm
 obtain ⟨⟨⟩,aU,aw⟩:=q
 try dsimp only at aw
 have q:=wBY aU
 obtain ⟨ai,aV⟩:=q
 replace ai:=zD ai
 refine CK.forN' (fun ae _ σ_ w_=>∃ (U_:PHeap),σ_ 18=jV (↑ae:Int)/\σ_ 1=am/\σ_ 3=.pointer (some ⟨aC,0,none⟩)/\σ_ 6=.pointer (some ⟨b6,0,none⟩)/\σ_ 16=.slice none 0 0/\σ_ 17=jV 0/\PHeap.Le U U_/\sW w U U_ [.blk b6 46 B1,.blk b2 46 B0] w_) aV ?_ ?_ ?_
 exact ⟨U,Z,Z,Z,Z,Z,Z,(zS _),ac⟩
 rintro ae ⟨⟩ bB bC bc ah ⟨a8,aL,bg,bh,bi,bj,aJ,bz,bp⟩ ax
 try dsimp only at ax
 have aq:Hid ((↑ae:Int) < 0):=zD (wBh ah)
 replace ah:=zD ah
 have bx:Hid (w64 ((↑ae:Int) + 1)=(↑(ae + 1):Int)):=zD (by have h1:=ai.out;have h2:=aq.out;rw [wAf] <;> omega)
 refine sR fL1 Z (oR Z (zK Z aL aJ) (eN (zH (cT Z aq (kN (zH (zP (sR gBb Z ?_))))))))
 cases ax
 rintro bD be ⟨an,aM,bk,bm,au,bn,aK,bA,aO⟩
 have aI:Hid (¬ ((↑((0:Int) - 0).toNat:Int) < 0)):=zD (wBG)
 refine sR fL1 Z (oR Z (zK Z aM aK) (eN (zH (cF Z aI (zr (zV (zV (zk (zI (sR gAo Z (oR Z (ZD (pv:=[]) (z:=B1) (cs:=B1) Z wAd Zl wJI Z Z) (ZN (j:=0) (vs:=B1) Z Z Z Z aO Z au Z Z zi (zJ Z) Z Z Z ?_))))))))))))
 intro aH aP
 have av:sW w U an [.blk b6 46 B1,.blk b2 46 B0] aH:=aP
 refine oA Z Z (eN (zR ?_))
 cases aw
 exact ⟨rfl,_,(wIS (rs:=[.cell 6 46,.tmp 7]) (vs:=[.agg B1.toArray,.bool false]) ⟨⟨_,au,(wFW ZF zi (av.blkAt (k:=0) rfl) (vs:=B1) rfl rfl)⟩,⟨rfl,trivial⟩⟩ rfl),an,_,(av.pick [] _ (by decide) rfl),rfl,rfl⟩
theorem wFs (p0:Int) (w:World) (U:PHeap) (hS:St0 w U [])  {r:Bool} (hm:wCW p0=some r):Gv Tryz.prog 86 [jV p0] w (wBu w [] U (fun U_ L_ v=>v=.bool r/\L_=[])):=by
 unfold wCW at hm
 refine Gv.of Tryz.func86 Z Tryz.ntmps86 Tryz.results86 Z (sR fL1 Z (oA Z Z (eN (sR fL7 Z (oM Z Z (oR Z (Zr Z Z Z) (oM Z Z ?_)))))))
 by_cases J:p0=8
 have ac:=hm;rw [if_pos J] at ac;replace J:=zD J
 refine oT Z J (oT Z J (oR Z (zb Z (ZJ J.out) Z) (oA Z Z (eN (zR ?_)))))
 have hE:=nA ac;first | subst r | cases hE
 exact ⟨Z,_,(zh Z),U,_,hS,Z,Z⟩
 have aa:=hm;rw [if_neg J] at aa;replace J:=zD J
 refine zC Z Z Z (wF Z J) Z Z (rU Z (wF Z J) (Zr Z Z Z) (oR Z (zX Z (zt J.out) Z) (oA Z Z (eN (zR ?_)))))
 first | (obtain rfl:=nA aa) | cases aa
 exact ⟨Z,_,(zh Z),U,_,hS,Z,Z⟩
theorem wFc (J:wAC) (p1:List (Int × Bool)) (ay:Nat) (aa:Nat) (ae:Array MapEntry) (ag:Nat) (p2:wAR) (aO:Nat) (pq2d:Nat) (pA2d_0_1:Option Addr) (pc2d_0_1:Nat) (pA2d_0_2:Option Addr) (pc2d_0_2:Nat) (pm2d_1:Nat) (pe2d_1:Array MapEntry) (pk2d_1:Nat) (pm2d_2:Nat) (pe2d_2:Array MapEntry) (pk2d_2:Nat) (p3:wAR) (aP:Nat) (aA:Nat) (aM:Option Addr) (aR:Nat) (aN:Option Addr) (aS:Nat) (aT:Nat) (bJ:Array MapEntry) (bL:Nat) (az:Nat) (bK:Array MapEntry) (bM:Nat) (p4:Unit) (aQ:Nat) (w:World) (U:PHeap) (hS:St0 w U [.obj aa (.map ae ag)]) (aH:Cl U ay 0 [.map (some aa)]) (av:MpR ae wDv wDw p1) (br:Cl U aO 0 [.func (.func 83) #[.pointer (some ⟨pq2d,0,none⟩)] #[]]) (bu:Cl U pq2d 0 [jV p2.Record.Deadline,.slice pA2d_0_1 p2.Record.Skiers.length pc2d_0_1,.slice pA2d_0_2 p2.Record.Decisions.length pc2d_0_2,.map (some pm2d_1),.map (some pm2d_2)]) (bw:Sl U 2 pA2d_0_1 pc2d_0_1 p2.Record.Skiers.length (hD wAF p2.Record.Skiers)) (bx:Sl U 6 pA2d_0_2 pc2d_0_2 p2.Record.Decisions.length (hD wAD p2.Record.Decisions)) (bz:MpF U pm2d_1 pe2d_1 pk2d_1 wEQ wEZ p2.at_) (bA:MpF U pm2d_2 pe2d_2 pk2d_2 wER wEa p2.about) (bB:Cl U aP 0 [.pointer (some ⟨aA,0,none⟩)]) (bC:Cl U aA 0 [jV p3.Record.Deadline,.slice aM p3.Record.Skiers.length aR,.slice aN p3.Record.Decisions.length aS,.map (some aT),.map (some az)]) (b4:Sl U 2 aM aR p3.Record.Skiers.length (hD wAF p3.Record.Skiers)) (b8:Sl U 6 aN aS p3.Record.Decisions.length (hD wAD p3.Record.Decisions)) (b9:MpF U aT bJ bL wEQ wEZ p3.at_) (bq:MpF U az bK bM wER wEa p3.about) {r:Bool × (List (Int × Bool))} (hm:wCK J p1 p2 p3 p4=some r):Gv Tryz.prog 85 [.agg #[jV J.Number,jV J.Kind,jV J.Minute,jV J.Bib,jV J.Much,jV J.About],.pointer (some ⟨ay,0,none⟩),.pointer (some ⟨aO,0,none⟩),.pointer (some ⟨aP,0,none⟩),.pointer (some ⟨aQ,0,none⟩)] w (wBu w [.obj aa (.map ae ag)] U (fun U_ L_ v=>∃ (es_0:Array MapEntry) (ck_0:Nat),v=.bool r.1/\L_=[.obj aa (.map es_0 ck_0)]/\MpR es_0 wDv wDw r.2)):=by
 unfold wCK at hm
 refine Gv.of Tryz.func85 Z Tryz.ntmps85 Tryz.results85 Z (sR gAf Z ?_)
 let B0:List Value:=[jV J.Number,jV J.Kind,jV J.Minute,jV J.Bib,jV J.Much,jV J.About]
 refine ZG (cs:=B0) rfl rfl rfl rfl rfl rfl (by rfl) hS ?_
 intro W2 b3 ah
 refine oA Z Z (eN (zH (sR fL9 Z (oL Z (ah.ldC (f:=0) aH (v:=.map (some aa)) Z Z Tryz.isAgg178 Z) (oR Z (zO Z Z zW Z zB) (oL Z (ah.ldB (j:=0) Z Z Z zM (v:=jV J.Number) Z) (oL Z (ah.lookup2 (j:=1) (mk:=wDv) (mv:=wDw) (a:=J.Number) (z:=false) Z Z Z Z (wDE yI) wFr Tryz.zeroValue4 av) (oM Z Z (oR Z (ZX Z Z (v:=.bool (wEH p1 J.Number false)) Z) (oR Z (ZX Z Z (v:=.bool (wKi p1 J.Number)) Z) (oA Z Z (oA Z Z (eN (sR fL1 Z (oM Z Z (eN ?_))))))))))))))))
 by_cases c6:(wKi p1 J.Number)=true
 have aJ:=hm;rw [if_pos c6] at aJ;replace c6:=zD c6
 refine ZB (congrArg hJ c6.out) (sR fL2 Z (oM Z Z (oA Z Z (eN (zR (zc ?_))))))
 cases aJ
 exact ⟨rfl,_,(zh rfl),U,_,(ah.pick [1] _ (by decide) rfl),ae,ag,rfl,rfl,av⟩
 have aK:=hm;rw [if_neg c6] at aK;replace c6:=zD c6
 refine ze (congrArg hJ (hM.2 c6.out)) (kN (sR gBc Z (oL Z (ah.ldC (f:=0) br (v:=.func (.func 83) #[.pointer (some ⟨pq2d,0,none⟩)] #[]) Z Z Tryz.isAgg133 Z) (oL Z (ah.ldBA (j:=0) Z Z Z ZF zi (vs:=B0) Z Z) (bnK aK fun x9 bc bF=>zG 0 Z Z Z Z (zF Z Z Tryz.call83 (zA Z zL) Z) ah (fun hs=>wGH p2 pq2d pA2d_0_1 pc2d_0_1 pA2d_0_2 pc2d_0_2 pm2d_1 pe2d_1 pk2d_1 pm2d_2 pe2d_2 pk2d_2 J W2 U hs bu bw bx bz bA bc) (.inr Z) ?_)))))
 rintro ap bN cd aq ao bk ⟨rfl,rfl⟩
 have bm:SW w [.obj aa (.map ae ag)] U ap [.blk b3 46 B0,.obj aa (.map ae ag)] aq:=bk
 refine zT rfl rfl rfl rfl (fun _=>ZV rfl rfl) (Zz rfl rfl rfl rfl rfl rfl (eN (zH (zH (zx zp [1,3,3,1,3,1,1,3,3] fL9 (by kernel_rfl) ?_)))))
 have ai:=bm.drew
 generalize hw_W20:({ aq with drawn:=aq.drawn + 1 }:World)=bP at ai ⊢
 have be:=bB.le ao
 refine oL Z (ai.ldC (f:=0) be (v:=.pointer (some ⟨aA,0,none⟩)) Z Z Tryz.isAgg129 Z) (oR Z (Zn Z Z) (oR Z (zO Z Z Zx Z Tryz.sizeOf208) ?_))
 have bg:=bC.le ao
 refine oL Z (ai.ldC (f:=4) bg (v:=.map (some az)) Z Z Tryz.isAgg208 Z) (oR Z (zO Z Z zW Z zB) (oL Z (ai.ldB (j:=0) Z Z Z zM (v:=jV J.Number) Z) ?_))
 have bh:=bq.le ao
 refine oL Z (ai.lookupF1 (mk:=wER) (mv:=wEa) (a:=J.Number) (z:=()) bh Z Z Z (wDE Tryz.runUnderlying208) wKE Tryz.zeroValue26) (oR Z (zw Z Z ZC) (oM Z Z (eN (zP ?_))))
 have q:=bnd bF
 obtain ⟨⟨⟩,bD,aI⟩:=q
 try dsimp only at aI
 have q:=wBY bD
 obtain ⟨ax,bE⟩:=q
 replace ax:=zD ax
 refine CK.forN' (fun ak _ σ_ w_=>∃ (U_:PHeap),σ_ 34=jV (↑ak:Int)/\σ_ 1=.pointer (some ⟨ay,0,none⟩)/\σ_ 4=.pointer (some ⟨aQ,0,none⟩)/\σ_ 5=.pointer (some ⟨b3,0,none⟩)/\σ_ 9=.bool (!x9)/\σ_ 32=.slice none 0 0/\σ_ 33=jV 0/\PHeap.Le ap U_/\SW w [.obj aa (.map ae ag)] U U_ [.blk b3 46 B0,.obj aa (.map ae ag)] w_) bE ?_ ?_ ?_
 exact ⟨ap,Z,Z,Z,Z,Z,Z,Z,(zS _),ai⟩
 rintro ak ⟨⟩ cg ch bQ aw ⟨bO,ba,bS,bT,bU,bV,bW,aY,cc,bZ⟩ aL
 try dsimp only at aL
 have aC:Hid ((↑ak:Int) < 0):=zD (wBh aw)
 replace aw:=zD aw
 have ca:Hid (w64 ((↑ak:Int) + 1)=(↑(ak + 1):Int)):=zD (by have h1:=ax.out;have h2:=aC.out;rw [wAf] <;> omega)
 refine sR fL1 Z (oR Z (zK Z ba aY) (eN (zH (cT Z aC (kN (zH (zP (sR gBb Z ?_))))))))
 cases aL
 rintro ci bR ⟨aB,bb,aZ,bX,a7,aG,bY,a8,bH,au⟩
 have aX:Hid (¬ ((↑((0:Int) - 0).toNat:Int) < 0)):=zD (wBG)
 refine sR fL1 Z (oR Z (zK Z bb a8) (eN (zH (cF Z aX (zr (zV (zV (zk (zI (sR (wEu (.fx 4 .nil .stop)) Z ?_))))))))))
 have bi:=aH.le ao
 have bj:=bi.le bH
 refine zn rfl rfl rfl rfl (au.ldC (f:=0) bj (v:=.map (some aa)) rfl aZ Tryz.isAgg178 rfl) rfl (zT rfl rfl rfl rfl (fun _=>zO rfl a7 zW rfl zB) (zn rfl rfl rfl rfl (au.ldB (j:=0) rfl rfl rfl zM (v:=jV J.Number) rfl) rfl (zC rfl rfl rfl rfl rfl aG (OKS.mapPut (x:=.tmp 74) (y:=.tmp 76) (z:=.tmp 77) (j:=1) (mk:=wDv) (mv:=wDw) (a:=J.Number) (v:=!x9) rfl rfl rfl (by first | exact .inl rfl | exact .inr rfl) au rfl rfl rfl rfl (wDE yI) wFr av rfl ?_))))
 intro aF aD aW bG bn
 have bp:SW w [.obj aa (.map ae ag)] U aB [.blk b3 46 B0,.obj aa (.map aF aD)] aW:=bn
 refine eN (sR fL2 Z (oM Z aG (oA Z Z (eN (zR ?_)))))
 cases aI
 exact ⟨rfl,_,(zh rfl),aB,_,(bp.pick [1] _ (by decide) rfl),aF,aD,rfl,rfl,bG⟩
theorem wFd (J:wAC) (p1:wAR) (an:Nat) (pb1e:Nat) (pq1d:Nat) (pA1d_0_1:Option Addr) (pc1d_0_1:Nat) (pA1d_0_2:Option Addr) (pc1d_0_2:Nat) (pm1d_1:Nat) (pe1d_1:Array MapEntry) (pk1d_1:Nat) (pm1d_2:Nat) (pe1d_2:Array MapEntry) (pk1d_2:Nat) (pb1v:Nat) (w:World) (U:PHeap) (hS:St0 w U []) (aC:Cl U an 0 [.func (.func 84) #[] #[.pointer (some ⟨pb1e,0,none⟩),.pointer (some ⟨pb1v,0,none⟩)]]) (aD:Cl U pb1e 0 [.pointer (some ⟨pq1d,0,none⟩)]) (aF:Cl U pq1d 0 [jV p1.Record.Deadline,.slice pA1d_0_1 p1.Record.Skiers.length pc1d_0_1,.slice pA1d_0_2 p1.Record.Decisions.length pc1d_0_2,.map (some pm1d_1),.map (some pm1d_2)]) (aG:Sl U 2 pA1d_0_1 pc1d_0_1 p1.Record.Skiers.length (hD wAF p1.Record.Skiers)) (aH:Sl U 6 pA1d_0_2 pc1d_0_2 p1.Record.Decisions.length (hD wAD p1.Record.Decisions)) (aI:MpF U pm1d_1 pe1d_1 pk1d_1 wEQ wEZ p1.at_) (aJ:MpF U pm1d_2 pe1d_2 pk1d_2 wER wEa p1.about) {r:wAC × Bool} (hm:wDZ J p1=some r):Gv Tryz.prog 87 [.agg #[jV J.Number,jV J.Kind,jV J.Minute,jV J.Bib,jV J.Much,jV J.About],.pointer (some ⟨an,0,none⟩)] w (wBu w [] U (fun U_ L_ v=>v=.tuple #[.agg #[jV r.1.Number,jV r.1.Kind,jV r.1.Minute,jV r.1.Bib,jV r.1.Much,jV r.1.About],.bool r.2]/\L_=[])):=by
 unfold wDZ at hm
 refine Gv.of Tryz.func87 Z Tryz.ntmps87 Tryz.results87 Z (sR gAt Z ?_)
 let B0:List Value:=[jV J.Number,jV J.Kind,jV J.Minute,jV J.Bib,jV J.Much,jV J.About]
 refine ZG (cs:=B0) rfl rfl rfl rfl rfl rfl (by rfl) hS ?_
 intro W1 b2 aB
 let B1:List Value:=[jV 0,jV 0,jV 0,jV 0,jV 0,jV 0]
 refine ZI (cs:=B1) Z Z Z Z Z Zl Z aB ?_
 intro W5 b6 ag
 refine oA Z Z (eN (sR gBd Z (oL Z (ag.ldC (f:=0) aC (v:=.func (.func 84) #[] #[.pointer (some ⟨pb1e,0,none⟩),.pointer (some ⟨pb1v,0,none⟩)]) Z Z Tryz.isAgg219 Z) (oL Z (ag.ldBA (j:=1) Z Z Z ZF zi (vs:=B0) Z Z) ?_))))
 have ax:FnOK Tryz.prog U (.func (.func 86) #[] #[]) wLq wLr wCW:=⟨86,[],[],rfl,Tryz.call86,fun U1 w1 x y vs le hs ha hm=>by obtain rfl:=ha;exact wFs x w1 U1 hs  hm⟩
 have q:=bnd hm
 obtain ⟨⟨aa,ao⟩,aw,am⟩:=q
 try dsimp only at am
 refine zG 0 Z Z Z Z (zF Z Z Tryz.call84 (zA Z (zA Z zL)) Z) ag (fun hs=>wEF J wCW (.func (.func 86) #[] #[]) p1 pb1e pq1d pA1d_0_1 pc1d_0_1 pA1d_0_2 pc1d_0_2 pm1d_1 pe1d_1 pk1d_1 pm1d_2 pe1d_2 pk1d_2 () pb1v W5 U hs ax aD aF aG aH aI aJ aw) (.inr Z) ?_
 rintro af aL aO aq aN ay ⟨rfl,rfl⟩
 have az:sW w U af [.blk b6 46 B1,.blk b2 46 B0] aq:=ay
 refine oR Z (ZX Z Z (v:=.agg #[jV aa.Number,jV aa.Kind,jV aa.Minute,jV aa.Bib,jV aa.Much,jV aa.About]) Z) (oR Z (ZX Z Z (v:=.bool ao) Z) ?_)
 let B2:List Value:=[jV aa.Number,jV aa.Kind,jV aa.Minute,jV aa.Bib,jV aa.Much,jV aa.About]
 refine ZN (j:=0) (vs:=B2) Z Z Z Z az Z Z Z Z zi (zJ Z) Z Z Z ?_
 intro au aA
 have ak:sW w U af [.blk b6 46 B2,.blk b2 46 B0] au:=aA
 refine oA Z Z (eN (zR ?_))
 cases am
 exact ⟨rfl,_,(wIS (rs:=[.cell 3 46,.tmp 4]) (vs:=[.agg B2.toArray,.bool ao]) ⟨⟨_,rfl,(wFW ZF zi (ak.blkAt (k:=0) rfl) (vs:=B2) rfl rfl)⟩,⟨rfl,trivial⟩⟩ rfl),af,_,(ak.pick [] _ (by decide) rfl),rfl,rfl⟩
theorem wFe (J:wAC) (p1:wAR) (ax:Nat) (aZ:Value) (pb1f:Nat) (pb1fe:Nat) (pq1fd:Nat) (pA1fd_0_1:Option Addr) (pc1fd_0_1:Nat) (pA1fd_0_2:Option Addr) (pc1fd_0_2:Nat) (pm1fd_1:Nat) (pe1fd_1:Array MapEntry) (pk1fd_1:Nat) (pm1fd_2:Nat) (pe1fd_2:Array MapEntry) (pk1fd_2:Nat) (pb1fv:Nat) (a7:Value) (a8:Value) (ba:Value) (p2:List Int) (ay:Nat) (ah:Option Addr) (ai:Nat) (w:World) (U:PHeap) (hS:St0 w U []) (aN:Cl U ax 0 [aZ,.func (.func 87) #[] #[.pointer (some ⟨pb1f,0,none⟩)],a7,a8,ba]) (aO:Cl U pb1f 0 [.func (.func 84) #[] #[.pointer (some ⟨pb1fe,0,none⟩),.pointer (some ⟨pb1fv,0,none⟩)]]) (aP:Cl U pb1fe 0 [.pointer (some ⟨pq1fd,0,none⟩)]) (aQ:Cl U pq1fd 0 [jV p1.Record.Deadline,.slice pA1fd_0_1 p1.Record.Skiers.length pc1fd_0_1,.slice pA1fd_0_2 p1.Record.Decisions.length pc1fd_0_2,.map (some pm1fd_1),.map (some pm1fd_2)]) (aR:Sl U 2 pA1fd_0_1 pc1fd_0_1 p1.Record.Skiers.length (hD wAF p1.Record.Skiers)) (aS:Sl U 6 pA1fd_0_2 pc1fd_0_2 p1.Record.Decisions.length (hD wAD p1.Record.Decisions)) (aT:MpF U pm1fd_1 pe1fd_1 pk1fd_1 wEQ wEZ p1.at_) (aU:MpF U pm1fd_2 pe1fd_2 pk1fd_2 wER wEa p1.about) (aV:Cl U ay 0 [.slice ah p2.length ai]) (aW:Sl U 1 ah ai p2.length (hD KL.encI p2)) {r:Bool} (hm:wDa J p1 p2=some r):Gv Tryz.prog 88 [.agg #[jV J.Number,jV J.Kind,jV J.Minute,jV J.Bib,jV J.Much,jV J.About],.pointer (some ⟨ax,0,none⟩),.pointer (some ⟨ay,0,none⟩)] w (wBu w [] U (fun U_ L_ v=>v=.bool r/\L_=[])):=by
 unfold wDa at hm
 refine Gv.of Tryz.func88 Z Tryz.ntmps88 Tryz.results88 Z (sR gAf Z ?_)
 let B0:List Value:=[jV J.Number,jV J.Kind,jV J.Minute,jV J.Bib,jV J.Much,jV J.About]
 refine ZG (cs:=B0) rfl rfl rfl rfl rfl rfl (by rfl) hS ?_
 intro W1 b2 an
 refine oA Z Z (eN (zH (sR (wFi (.fx 3 (wNS gAx) .stop)) Z (oR Z (zO Z Z zy Z Tryz.sizeOf134) (oL Z (an.ldC (f:=1) aN (v:=.func (.func 87) #[] #[.pointer (some ⟨pb1f,0,none⟩)]) Z Z Tryz.isAgg134 Z) (oL Z (an.ldBA (j:=0) Z Z Z ZF zi (vs:=B0) Z Z) ?_))))))
 have q:=bnd hm
 obtain ⟨⟨x5,x6⟩,h7,av⟩:=q
 try dsimp only at av
 refine zG 0 Z Z Z Z (zF Z Z Tryz.call87 (zA Z zL) Z) an (fun hs=>wFd J p1 pb1f pb1fe pq1fd pA1fd_0_1 pc1fd_0_1 pA1fd_0_2 pc1fd_0_2 pm1fd_1 pe1fd_1 pk1fd_1 pm1fd_2 pe1fd_2 pk1fd_2 pb1fv W1 U hs aO aP aQ aR aS aT aU h7) (.inr Z) ?_
 rintro U9 bc bi aA aw aH ⟨rfl,rfl⟩
 have aI:sW w U U9 [.blk b2 46 B0] aA:=aH
 refine oM Z Z (oR Z (ZX Z Z (v:=.agg #[jV x5.Number,jV x5.Kind,jV x5.Minute,jV x5.Bib,jV x5.Much,jV x5.About]) Z) (oR Z (ZX Z Z (v:=.bool x6) Z) (ZI (cs:=[jV 0,jV 0,jV 0,jV 0,jV 0,jV 0]) Z Z Z Z Z Zl Z aI ?_)))
 intro bg aq aJ
 let B1:List Value:=[jV x5.Number,jV x5.Kind,jV x5.Minute,jV x5.Bib,jV x5.Much,jV x5.About]
 refine ZN (j:=0) (vs:=B1) Z Z Z Z aJ Z Z Z Z zi (zJ Z) Z Z Z ?_
 intro ap aK
 have af:sW w U U9 [.blk aq 46 B1,.blk b2 46 B0] ap:=aK
 refine oA Z Z (eN (sR fL1 Z (oM Z Z (eN (ifc av ?_ ?_)))))
 intro am au
 refine ZB (congrArg hJ am.out) (sR fL4 Z (oR Z (zO Z Z zW Z ZP) (oL Z (af.ldB (j:=0) Z Z Z ZR (v:=jV x5.Kind) Z) (oR Z (Zr Z Z Z) (oA Z Z (eN (zR (zc ?_))))))))
 first | (obtain rfl:=nA au) | cases au
 exact ⟨rfl,_,(zh rfl),U9,_,(af.pick [] _ (by decide) rfl),rfl,rfl⟩
 intro am aX
 refine ze (congrArg hJ (hM.2 am.out)) (kN (sR (wFi gAh) Z ?_))
 have aC:=aV.le aw
 refine oL Z (af.ldC (f:=0) aC (v:=.slice ah p2.length ai) Z Z Tryz.isAgg31 Z) (oR Z (zO Z Z zW Z zB) (oL Z (af.ldB (j:=1) Z Z Z zM (v:=jV J.Number) Z) ?_))
 have aD:=aW.le aw
 refine bnK aX fun bk aF aY=>zG 0 Z Z Z Z (zF Z Z Tryz.call32 (zA Z (zA Z zL)) Z) af (fun hs=>wDJ p2 ah ai J.Number ap U9 hs aD aF) (.inr Z) ?_
 rintro ao be bj aB bh aL ⟨rfl,rfl⟩
 have aM:sW w U ao [.blk aq 46 B1,.blk b2 46 B0] aB:=aL
 refine oA Z Z (eN (zR ?_))
 have hE:=nA aY;first | subst r | cases hE
 exact ⟨rfl,_,(zh rfl),ao,_,(aM.pick [] _ (by decide) rfl),rfl,rfl⟩
theorem wFB (J:Int) (w:World) (U:PHeap) (hS:St0 w U [])  {r:Bool} (hm:wBw J=some r):Gv Tryz.prog 90 [jV J] w (wBu w [] U (fun U_ L_ v=>v=.bool r/\L_=[])):=by
 unfold wBw at hm
 refine Gv.of Tryz.func90 Z Tryz.ntmps90 Tryz.results90 Z (sR fL1 Z (oA Z Z (eN (sR fL3 Z (oM Z Z (oR Z (Zr Z Z Z) (oA Z Z (eN (zR ?_)))))))))
 first | (obtain rfl:=nA hm) | cases hm
 exact ⟨Z,_,(zh Z),U,_,hS,Z,Z⟩
theorem wFf (J:wAC) (p1:wAR) (an:Nat) (pb1e:Nat) (pq1d:Nat) (pA1d_0_1:Option Addr) (pc1d_0_1:Nat) (pA1d_0_2:Option Addr) (pc1d_0_2:Nat) (pm1d_1:Nat) (pe1d_1:Array MapEntry) (pk1d_1:Nat) (pm1d_2:Nat) (pe1d_2:Array MapEntry) (pk1d_2:Nat) (pb1v:Nat) (w:World) (U:PHeap) (hS:St0 w U []) (aC:Cl U an 0 [.func (.func 84) #[] #[.pointer (some ⟨pb1e,0,none⟩),.pointer (some ⟨pb1v,0,none⟩)]]) (aD:Cl U pb1e 0 [.pointer (some ⟨pq1d,0,none⟩)]) (aF:Cl U pq1d 0 [jV p1.Record.Deadline,.slice pA1d_0_1 p1.Record.Skiers.length pc1d_0_1,.slice pA1d_0_2 p1.Record.Decisions.length pc1d_0_2,.map (some pm1d_1),.map (some pm1d_2)]) (aG:Sl U 2 pA1d_0_1 pc1d_0_1 p1.Record.Skiers.length (hD wAF p1.Record.Skiers)) (aH:Sl U 6 pA1d_0_2 pc1d_0_2 p1.Record.Decisions.length (hD wAD p1.Record.Decisions)) (aI:MpF U pm1d_1 pe1d_1 pk1d_1 wEQ wEZ p1.at_) (aJ:MpF U pm1d_2 pe1d_2 pk1d_2 wER wEa p1.about) {r:wAC × Bool} (hm:wDb J p1=some r):Gv Tryz.prog 89 [.agg #[jV J.Number,jV J.Kind,jV J.Minute,jV J.Bib,jV J.Much,jV J.About],.pointer (some ⟨an,0,none⟩)] w (wBu w [] U (fun U_ L_ v=>v=.tuple #[.agg #[jV r.1.Number,jV r.1.Kind,jV r.1.Minute,jV r.1.Bib,jV r.1.Much,jV r.1.About],.bool r.2]/\L_=[])):=by
 unfold wDb at hm
 refine Gv.of Tryz.func89 Z Tryz.ntmps89 Tryz.results89 Z (sR gAt Z ?_)
 let B0:List Value:=[jV J.Number,jV J.Kind,jV J.Minute,jV J.Bib,jV J.Much,jV J.About]
 refine ZG (cs:=B0) rfl rfl rfl rfl rfl rfl (by rfl) hS ?_
 intro W1 b2 aB
 let B1:List Value:=[jV 0,jV 0,jV 0,jV 0,jV 0,jV 0]
 refine ZI (cs:=B1) Z Z Z Z Z Zl Z aB ?_
 intro W5 b6 ag
 refine oA Z Z (eN (sR gBd Z (oL Z (ag.ldC (f:=0) aC (v:=.func (.func 84) #[] #[.pointer (some ⟨pb1e,0,none⟩),.pointer (some ⟨pb1v,0,none⟩)]) Z Z Tryz.isAgg219 Z) (oL Z (ag.ldBA (j:=1) Z Z Z ZF zi (vs:=B0) Z Z) ?_))))
 have ax:FnOK Tryz.prog U (.func (.func 90) #[] #[]) wLq wLr wBw:=⟨90,[],[],rfl,Tryz.call90,fun U1 w1 x y vs le hs ha hm=>by obtain rfl:=ha;exact wFB x w1 U1 hs  hm⟩
 have q:=bnd hm
 obtain ⟨⟨aa,ao⟩,aw,am⟩:=q
 try dsimp only at am
 refine zG 0 Z Z Z Z (zF Z Z Tryz.call84 (zA Z (zA Z zL)) Z) ag (fun hs=>wEF J wBw (.func (.func 90) #[] #[]) p1 pb1e pq1d pA1d_0_1 pc1d_0_1 pA1d_0_2 pc1d_0_2 pm1d_1 pe1d_1 pk1d_1 pm1d_2 pe1d_2 pk1d_2 () pb1v W5 U hs ax aD aF aG aH aI aJ aw) (.inr Z) ?_
 rintro af aL aO aq aN ay ⟨rfl,rfl⟩
 have az:sW w U af [.blk b6 46 B1,.blk b2 46 B0] aq:=ay
 refine oR Z (ZX Z Z (v:=.agg #[jV aa.Number,jV aa.Kind,jV aa.Minute,jV aa.Bib,jV aa.Much,jV aa.About]) Z) (oR Z (ZX Z Z (v:=.bool ao) Z) ?_)
 let B2:List Value:=[jV aa.Number,jV aa.Kind,jV aa.Minute,jV aa.Bib,jV aa.Much,jV aa.About]
 refine ZN (j:=0) (vs:=B2) Z Z Z Z az Z Z Z Z zi (zJ Z) Z Z Z ?_
 intro au aA
 have ak:sW w U af [.blk b6 46 B2,.blk b2 46 B0] au:=aA
 refine oA Z Z (eN (zR ?_))
 cases am
 exact ⟨rfl,_,(wIS (rs:=[.cell 3 46,.tmp 4]) (vs:=[.agg B2.toArray,.bool ao]) ⟨⟨_,rfl,(wFW ZF zi (ak.blkAt (k:=0) rfl) (vs:=B2) rfl rfl)⟩,⟨rfl,trivial⟩⟩ rfl),af,_,(ak.pick [] _ (by decide) rfl),rfl,rfl⟩
theorem wBE (J:wAC) (p1:wAR) (af:Nat) (aM:Value) (aN:Value) (aO:Value) (pb1f:Nat) (pb1fe:Nat) (pq1fd:Nat) (pA1fd_0_1:Option Addr) (pc1fd_0_1:Nat) (pA1fd_0_2:Option Addr) (pc1fd_0_2:Nat) (pm1fd_1:Nat) (pe1fd_1:Array MapEntry) (pk1fd_1:Nat) (pm1fd_2:Nat) (pe1fd_2:Array MapEntry) (pk1fd_2:Nat) (pb1fv:Nat) (w:World) (U:PHeap) (hS:St0 w U []) (am:Cl U af 0 [aM,aN,aO,.func (.func 91) #[] #[.pointer (some ⟨af,0,none⟩)],.func (.func 89) #[] #[.pointer (some ⟨pb1f,0,none⟩)]]) (aB:Cl U pb1f 0 [.func (.func 84) #[] #[.pointer (some ⟨pb1fe,0,none⟩),.pointer (some ⟨pb1fv,0,none⟩)]]) (aC:Cl U pb1fe 0 [.pointer (some ⟨pq1fd,0,none⟩)]) (aD:Cl U pq1fd 0 [jV p1.Record.Deadline,.slice pA1fd_0_1 p1.Record.Skiers.length pc1fd_0_1,.slice pA1fd_0_2 p1.Record.Decisions.length pc1fd_0_2,.map (some pm1fd_1),.map (some pm1fd_2)]) (aF:Sl U 2 pA1fd_0_1 pc1fd_0_1 p1.Record.Skiers.length (hD wAF p1.Record.Skiers)) (aG:Sl U 6 pA1fd_0_2 pc1fd_0_2 p1.Record.Decisions.length (hD wAD p1.Record.Decisions)) (aH:MpF U pm1fd_1 pe1fd_1 pk1fd_1 wEQ wEZ p1.at_) (aI:MpF U pm1fd_2 pe1fd_2 pk1fd_2 wER wEa p1.about) {r:Int} (hm:wAQ J p1=some r):Gv Tryz.prog 91 [.agg #[jV J.Number,jV J.Kind,jV J.Minute,jV J.Bib,jV J.Much,jV J.About],.pointer (some ⟨af,0,none⟩)] w (wBu w [] U (fun U_ L_ v=>v=jV r/\L_=[])):=by
 unfold wAQ at hm
 refine Gv.of Tryz.func91 Z Tryz.ntmps91 Tryz.results91 Z (sR gAf Z ?_)
 let B0:List Value:=[jV J.Number,jV J.Kind,jV J.Minute,jV J.Bib,jV J.Much,jV J.About]
 refine ZG (cs:=B0) rfl rfl rfl rfl rfl rfl (by rfl) hS ?_
 intro W1 b2 aj
 refine oA Z Z (eN (zH (sR (wFi (.fx 3 (wNS gAx) .stop)) Z (oR Z (zO Z Z zy Z Tryz.sizeOf134) (oL Z (aj.ldC (f:=4) am (v:=.func (.func 89) #[] #[.pointer (some ⟨pb1f,0,none⟩)]) Z Z Tryz.isAgg134 Z) (oL Z (aj.ldBA (j:=0) Z Z Z ZF zi (vs:=B0) Z Z) ?_))))))
 have q:=bnd hm
 obtain ⟨⟨x5,x6⟩,h7,an⟩:=q
 try dsimp only at an
 refine zG 0 Z Z Z Z (zF Z Z Tryz.call89 (zA Z zL) Z) aj (fun hs=>wFf J p1 pb1f pb1fe pq1fd pA1fd_0_1 pc1fd_0_1 pA1fd_0_2 pc1fd_0_2 pm1fd_1 pe1fd_1 pk1fd_1 pm1fd_2 pe1fd_2 pk1fd_2 pb1fv W1 U hs aB aC aD aF aG aH aI h7) (.inr Z) ?_
 rintro U9 aQ aS ap aL ax ⟨rfl,rfl⟩
 have ay:sW w U U9 [.blk b2 46 B0] ap:=ax
 refine oM Z Z (oR Z (ZX Z Z (v:=.agg #[jV x5.Number,jV x5.Kind,jV x5.Minute,jV x5.Bib,jV x5.Much,jV x5.About]) Z) (oR Z (ZX Z Z (v:=.bool x6) Z) (ZI (cs:=[jV 0,jV 0,jV 0,jV 0,jV 0,jV 0]) Z Z Z Z Z Zl Z ay ?_)))
 intro aR au az
 let B1:List Value:=[jV x5.Number,jV x5.Kind,jV x5.Minute,jV x5.Bib,jV x5.Much,jV x5.About]
 refine ZN (j:=0) (vs:=B1) Z Z Z Z az Z Z Z Z zi (zJ Z) Z Z Z ?_
 intro aq aA
 have ae:sW w U U9 [.blk au 46 B1,.blk b2 46 B0] aq:=aA
 refine oA Z Z (eN (sR fL1 Z (oM Z Z (eN (ifc an ?_ ?_)))))
 intro ai aJ
 refine ZB (congrArg hJ ai.out) (sR (wFi gAh) Z (oR Z (zO Z Z zy Z Zj) ?_))
 have av:=am.le aL
 refine oL Z (ae.ldC (f:=3) av (v:=.func (.func 91) #[] #[.pointer (some ⟨af,0,none⟩)]) Z Z yA Z) (oL Z (ae.ldBA (j:=0) Z Z Z ZF zi (vs:=B1) Z Z) ?_)
 cases aJ
 intro ai aK
 refine ze (congrArg hJ (hM.2 ai.out)) (kN (sR fL3 Z (oR Z (zO Z Z zW Z zB) (oL Z (ae.ldB (j:=1) Z Z Z zM (v:=jV J.Much) Z) (oA Z Z (eN (zR ?_)))))))
 cases aK
 exact ⟨rfl,_,(zh rfl),U9,_,(ae.pick [] _ (by decide) rfl),rfl,rfl⟩
theorem wGI (p0:wAR) (ap:Nat) (aW:Option Addr) (aY:Nat) (aX:Option Addr) (aZ:Nat) (a7:Nat) (cr:Array MapEntry) (cu:Nat) (a8:Nat) (ct:Array MapEntry) (cw:Nat) (p1:List Int) (aC:Option Addr) (aD:Nat) (w:World) (U:PHeap) (hS:St0 w U []) (cD:Cl U ap 0 [jV p0.Record.Deadline,.slice aW p0.Record.Skiers.length aY,.slice aX p0.Record.Decisions.length aZ,.map (some a7),.map (some a8)]) (cE:Sl U 2 aW aY p0.Record.Skiers.length (hD wAF p0.Record.Skiers)) (cG:Sl U 6 aX aZ p0.Record.Decisions.length (hD wAD p0.Record.Decisions)) (cH:MpF U a7 cr cu wEQ wEZ p0.at_) (cI:MpF U a8 ct cw wER wEa p0.about) (cJ:Sl U 1 aC aD p1.length (hD KL.encI p1)) {r:(List (Int × Bool))} (hm:wDL p0 p1=some r):Gv Tryz.prog 36 [.pointer (some ⟨ap,0,none⟩),.slice aC p1.length aD] w (wBu w [] U (fun U_ L_ v=>∃ (bt:Nat) (bl:Nat) (bd:Nat) (bv:Nat) (bf:Nat) (bo:Nat) (m:Nat) (es:Array MapEntry) (ck:Nat),v=.agg #[.func (.func 85) #[] #[.pointer (some ⟨bt,0,none⟩),.pointer (some ⟨bl,0,none⟩),.pointer (some ⟨bd,0,none⟩),.pointer (some ⟨bv,0,none⟩)],.func (.func 87) #[] #[.pointer (some ⟨bf,0,none⟩)],.func (.func 88) #[] #[.pointer (some ⟨bv,0,none⟩),.pointer (some ⟨bo,0,none⟩)],.func (.func 91) #[] #[.pointer (some ⟨bv,0,none⟩)],.func (.func 89) #[] #[.pointer (some ⟨bf,0,none⟩)]]/\L_=[.obj m (.map es ck)]/\Cl U_ bt 0 [.map (some m)]/\Cl U_ bl 0 [.func (.func 83) #[.pointer (some ⟨ap,0,none⟩)] #[]]/\Cl U_ bd 0 [.pointer (some ⟨ap,0,none⟩)]/\Cl U_ bv 0 [.func (.func 85) #[] #[.pointer (some ⟨bt,0,none⟩),.pointer (some ⟨bl,0,none⟩),.pointer (some ⟨bd,0,none⟩),.pointer (some ⟨bv,0,none⟩)],.func (.func 87) #[] #[.pointer (some ⟨bf,0,none⟩)],.func (.func 88) #[] #[.pointer (some ⟨bv,0,none⟩),.pointer (some ⟨bo,0,none⟩)],.func (.func 91) #[] #[.pointer (some ⟨bv,0,none⟩)],.func (.func 89) #[] #[.pointer (some ⟨bf,0,none⟩)]]/\Cl U_ bf 0 [.func (.func 84) #[] #[.pointer (some ⟨bd,0,none⟩),.pointer (some ⟨bv,0,none⟩)]]/\Cl U_ bo 0 [.slice aC p1.length aD]/\MpR es wDv wDw r)):=by
 unfold wDL at hm
 refine Gv.of Tryz.func36 Z Tryz.ntmps36 Tryz.results36 Z (sR gAy Z ?_)
 let B0:List Value:=[.pointer (some ⟨ap,0,none⟩)]
 refine ZG (cs:=B0) rfl rfl rfl rfl rfl rfl (by rfl) hS ?_
 intro W1 b2 bK
 have q:=bK.freeze (k:=0) rfl
 obtain ⟨U5,cK,az,cg⟩:=q
 replace az:=Cl.of az
 have cn:sW w U U5 [] W1:=cg
 replace az:Cl U5 b2 0 B0:=az
 refine ZG (cs:=[.slice aC p1.length aD]) rfl rfl rfl rfl rfl rfl (by rfl) cn ?_
 intro bb ao bE
 have q:=bE.freeze (k:=0) rfl
 obtain ⟨au,cq,av,bF⟩:=q
 replace av:=Cl.of av
 have bG:sW w U au [] bb:=bF
 replace av:Cl au ao 0 [.slice aC p1.length aD]:=av
 let B1:List Value:=[.nilFunc,.nilFunc,.nilFunc,.nilFunc,.nilFunc]
 refine ZI (cs:=B1) Z Z Z Z Z Tryz.zeroValue137 Z bG ?_
 intro cx ae bH
 refine eN (sR (.fx 0 .nil .stop) Z (ZI (cs:=B1) Z Z Z Z Z Tryz.zeroValue137 Z bH ?_))
 intro cy J bI
 refine eN (sR gAy Z (OKS.makeMap Z Z Z Z Z bI ?_))
 intro cz ab bJ
 have cp:=MpR.nil wDv wDw
 refine ZI (cs:=[.map none]) Z Z Z Z Z Tryz.zeroValue178 Z bJ ?_
 intro cA aj bL
 refine ZN (j:=0) (vs:=[.map (some ab)]) Z Z Z Z bL Z Z Z Z Tryz.sizeOf178 (zJ Z) Z Z Z ?_
 intro bc bM
 let B2:Res:=.blk aj 178 [.map (some ab)]
 have aS:sW w U au [B2,.obj ab (.map #[] 0),.blk J 137 B1,.blk ae 137 B1] bc:=bM
 refine eN (sR gBb Z ?_)
 have aR:=az.le cq
 refine oL Z (aS.ldC (f:=0) aR (v:=.pointer (some ⟨ap,0,none⟩)) Z Z Tryz.isAgg129 Z) (oR Z (yF Z (zA Z zL) zL) (ZI (cs:=[.nilFunc]) Z Z Z Z Z Tryz.zeroValue133 Z aS ?_))
 intro cB af bN
 let B3:List Value:=[.func (.func 83) B0.toArray #[]]
 refine ZN (j:=0) (vs:=B3) Z Z Z Z bN Z Z Z Z yY (zJ Z) Z Z Z ?_
 intro be bO
 have bP:sW w U au [.blk af 133 B3,B2,.obj ab (.map #[] 0),.blk J 137 B1,.blk ae 137 B1] be:=bO
 refine eN (sR (.fl 0 gAm) Z (oR Z (yF Z zL (zA Z (zA Z zL))) (ZI (cs:=[.nilFunc]) Z Z Z Z Z Tryz.zeroValue219 Z bP ?_)))
 intro cC ac bQ
 let B4:List Value:=[.func (.func 84) #[] #[.pointer (some ⟨b2,0,none⟩),.pointer (some ⟨J,0,none⟩)]]
 refine ZN (j:=0) (vs:=B4) Z Z Z Z bQ Z Z Z Z Tryz.sizeOf219 (zJ Z) Z Z Z ?_
 intro aK bR
 have bS:sW w U au [.blk ac 219 B4,.blk af 133 B3,B2,.obj ab (.map #[] 0),.blk J 137 B1,.blk ae 137 B1] aK:=bR
 refine eN (sR gAs Z ?_)
 have q:=bS.freeze (k:=2) rfl
 obtain ⟨aO,aV,aw,bT⟩:=q
 replace aw:=Cl.of aw
 have bU:sW w U aO [.blk ac 219 B4,.blk af 133 B3,.obj ab (.map #[] 0),.blk J 137 B1,.blk ae 137 B1] aK:=bT
 replace aw:Cl aO aj 0 [.map (some ab)]:=aw
 have q:=bU.freeze (k:=1) rfl
 obtain ⟨aI,aL,ax,bV⟩:=q
 replace ax:=Cl.of ax
 have bW:sW w U aI [.blk ac 219 B4,.obj ab (.map #[] 0),.blk J 137 B1,.blk ae 137 B1] aK:=bV
 replace ax:Cl aI af 0 B3:=ax
 refine oR Z (yF Z zL (zA Z (zA Z (zA Z (zA Z zL))))) (oR Z (zO Z Z zy Z yY) (ZN (j:=2) (vs:=[.func (.func 85) #[] #[.pointer (some ⟨aj,0,none⟩),.pointer (some ⟨af,0,none⟩),.pointer (some ⟨b2,0,none⟩),.pointer (some ⟨J,0,none⟩)]]) Z Z Z Z bW Z Z Z Z yY (zJ Z) Z Z Z ?_))
 intro aP bX
 let B5:Res:=.blk J 137 [.func (.func 85) #[] #[.pointer (some ⟨aj,0,none⟩),.pointer (some ⟨af,0,none⟩),.pointer (some ⟨b2,0,none⟩),.pointer (some ⟨J,0,none⟩)],.nilFunc,.nilFunc,.nilFunc,.nilFunc]
 have bY:sW w U aI [.blk ac 219 B4,.obj ab (.map #[] 0),B5,.blk ae 137 B1] aP:=bX
 refine eN (sR gAs Z ?_)
 have q:=bY.freeze (k:=0) rfl
 obtain ⟨ak,aF,ay,bZ⟩:=q
 replace ay:=Cl.of ay
 have b4:sW w U ak [.obj ab (.map #[] 0),B5,.blk ae 137 B1] aP:=bZ
 replace ay:Cl ak ac 0 B4:=ay
 refine oR Z (yF Z zL (zA Z zL)) (oR Z (zO Z Z zy Z Tryz.sizeOf134) (ZN (j:=1) (vs:=[.func (.func 87) #[] #[.pointer (some ⟨ac,0,none⟩)]]) Z Z Z Z b4 Z Z Z Z Tryz.sizeOf134 (zJ Z) Z Z Z ?_))
 intro bg b8
 have b9:sW w U ak [.obj ab (.map #[] 0),.blk J 137 [.func (.func 85) #[] #[.pointer (some ⟨aj,0,none⟩),.pointer (some ⟨af,0,none⟩),.pointer (some ⟨b2,0,none⟩),.pointer (some ⟨J,0,none⟩)],.func (.func 87) #[] #[.pointer (some ⟨ac,0,none⟩)],.nilFunc,.nilFunc,.nilFunc],.blk ae 137 B1] bg:=b8
 refine eN (sR gAs Z (oR Z (yF Z zL (zA Z (zA Z zL))) (oR Z (zO Z Z zy Z yY) (ZN (j:=1) (vs:=[.func (.func 88) #[] #[.pointer (some ⟨J,0,none⟩),.pointer (some ⟨ao,0,none⟩)]]) Z Z Z Z b9 Z Z Z Z yY (zJ Z) Z Z Z ?_))))
 intro bh ca
 have cc:sW w U ak [.obj ab (.map #[] 0),.blk J 137 [.func (.func 85) #[] #[.pointer (some ⟨aj,0,none⟩),.pointer (some ⟨af,0,none⟩),.pointer (some ⟨b2,0,none⟩),.pointer (some ⟨J,0,none⟩)],.func (.func 87) #[] #[.pointer (some ⟨ac,0,none⟩)],.func (.func 88) #[] #[.pointer (some ⟨J,0,none⟩),.pointer (some ⟨ao,0,none⟩)],.nilFunc,.nilFunc],.blk ae 137 B1] bh:=ca
 refine eN (sR gAs Z (oR Z (yF Z zL (zA Z zL)) (oR Z (zO Z Z zy Z Tryz.sizeOf134) (ZN (j:=1) (vs:=[.func (.func 89) #[] #[.pointer (some ⟨ac,0,none⟩)]]) Z Z Z Z cc Z Z Z Z Tryz.sizeOf134 (zJ Z) Z Z Z ?_))))
 intro bi cd
 have ch:sW w U ak [.obj ab (.map #[] 0),.blk J 137 [.func (.func 85) #[] #[.pointer (some ⟨aj,0,none⟩),.pointer (some ⟨af,0,none⟩),.pointer (some ⟨b2,0,none⟩),.pointer (some ⟨J,0,none⟩)],.func (.func 87) #[] #[.pointer (some ⟨ac,0,none⟩)],.func (.func 88) #[] #[.pointer (some ⟨J,0,none⟩),.pointer (some ⟨ao,0,none⟩)],.nilFunc,.func (.func 89) #[] #[.pointer (some ⟨ac,0,none⟩)]],.blk ae 137 B1] bi:=cd
 refine eN (sR gAs Z (oR Z (yF Z zL (zA Z zL)) (oR Z (zO Z Z zy Z Zj) (ZN (j:=1) (vs:=[.func (.func 91) #[] #[.pointer (some ⟨J,0,none⟩)]]) Z Z Z Z ch Z Z Z Z Zj (zJ Z) Z Z Z ?_))))
 intro bj ci
 let B6:List Value:=[.func (.func 85) #[] #[.pointer (some ⟨aj,0,none⟩),.pointer (some ⟨af,0,none⟩),.pointer (some ⟨b2,0,none⟩),.pointer (some ⟨J,0,none⟩)],.func (.func 87) #[] #[.pointer (some ⟨ac,0,none⟩)],.func (.func 88) #[] #[.pointer (some ⟨J,0,none⟩),.pointer (some ⟨ao,0,none⟩)],.func (.func 91) #[] #[.pointer (some ⟨J,0,none⟩)],.func (.func 89) #[] #[.pointer (some ⟨ac,0,none⟩)]]
 have aT:sW w U ak [.obj ab (.map #[] 0),.blk J 137 B6,.blk ae 137 B1] bj:=ci
 refine eN (sR (.fl 0 (.fx 1 .nil .stop)) Z (oL Z (aT.ldBA (j:=1) Z Z Z Tryz.isAgg137 Tryz.sizeOf137 (vs:=B6) Z Z) (ZN (j:=2) (vs:=B6) Z Z Z Z aT Z Z Z Z Tryz.sizeOf137 (zJ Z) Z Z Z ?_)))
 intro aQ cj
 have cm:sW w U ak [.obj ab (.map #[] 0),.blk J 137 B6,.blk ae 137 B6] aQ:=cj
 refine eN (zR ?_)
 have q:=cm.freeze (k:=1) rfl
 obtain ⟨aJ,aB,aA,co⟩:=q
 replace aA:=Cl.of aA
 have aU:sW w U aJ [.obj ab (.map #[] 0),.blk ae 137 B6] aQ:=co
 replace aA:Cl aJ J 0 B6:=aA
 have bu:=aw.le aL
 have bw:=bu.le aF
 have bx:=bw.le aB
 have bz:=ax.le aF
 have bA:=bz.le aB
 have bB:=aR.le aV
 have bC:=bB.le aL
 have bD:=bC.le aF
 have bk:=bD.le aB
 have bm:=ay.le aB
 have bn:=av.le aV
 have bp:=bn.le aL
 have bq:=bp.le aF
 have br:=bq.le aB
 cases hm
 exact ⟨rfl,_,(wMf (v:=.agg B6.toArray) ⟨⟨_,rfl,(wFW Tryz.isAgg137 Tryz.sizeOf137 (aU.blkAt (k:=1) rfl) (vs:=B6) rfl rfl)⟩,trivial⟩),aJ,_,(aU.pick [0] _ (by decide) rfl),aj,af,b2,J,ac,ao,ab,#[],0,rfl,rfl,bx,bA,bk,aA,bm,br,cp⟩
end Go.Proofs.YtlmekamhphnmjaaGreat
