import Derived.Test.YtkedcbligiebkaaGreatY6
set_option linter.all false
open List renaming flatMap->hH,length_set->nB,getElem_cons_succ->nD,getElem_cons_zero->nE,getElem_toArray->nG,set->nH
open Option.some renaming inj->nA
open Int renaming toNat_natCast->nI
open Go.Value renaming bool->nJ
open Eq renaming trans->nK
open Bool renaming eq_false_iff->nL
open Prod.mk renaming injEq->nM
open Nat renaming blt->nN,le_of_ble_eq_true->nO
namespace Go.Proofs.YtkedcbligiebkaaGreat
open Go.KL
def gAa:Sch:=.fl 1 (.fl 2 .nil)
def gAb:Sch:=.fl 2 (.fl 3 .nil)
def gAc:Sch:=.fl 4 (.fl 5 .nil)
def gAd:Sch:=.fl 7 (.fl 8 .nil)
def gAe:Sch:=.fl 15 (.fl 16 .nil)
def gAf:Sch:=.fx 3 (.fl 4 .nil) .stop
def gAg:Sch:=.fx 17 (.fl 18 .nil) .stop
def gAh:Sch:=.fx 0 (.fl 1 .nil) .stop
def gAi:Sch:=.fx 6 gAd .stop
def gAj:Sch:=.fx 0 gAa .stop
def gAk:Sch:=.fx 1 gAb .stop
def gAl:Sch:=.fl 0 (.fx 1 (.fl 2 .nil) .stop)
def gAm:Sch:=.fx 15 gAg .stop
def gAn:Sch:=.fx 15 (.fl 16 (.fx 18 .nil .stop)) .stop
def gAo:Sch:=.fl 0 (.fl 1 (.fx 2 .nil .stop))
def gAp:Sch:=.fx 15 (.fl 16 (.fx 17 .nil .stop)) .stop
def gAq:Sch:=.fx 11 (.fl 12 (.fl 13 .nil)) .stop
def gAr:Sch:=.fl 0 (.fl 1 (.fx 2 (.fl 3 .nil) .stop))
def gAs:Sch:=.fl 0 (.fl 1 (.fx 2 (.fx 3 .nil .stop) .stop))
def gAt:Sch:=.fx 14 gAm .stop
def gAu:Sch:=.fx 10 gAn .stop
def gAv:Sch:=.fl 0 (.fl 1 (.fx 2 gAf .stop))
def gAw:Sch:=.fx 13 gAt .stop
def gAx:Sch:=.fx 12 gAw .stop
def gAy:Sch:=.fx 9 gAw .stop
def gAz:Sch:=.fx 4 (.fl 16 gAw) .stop
def gBa:Sch:=.fx 3 gAz .stop
def gBb:Sch:=.fx 4 (.fl 16 gAx) (.fx 12 gAz .stop)
def gBc:Sch:=.fx 4 (.fl 16 gAy) (.fx 9 gAz .stop)
set_option maxHeartbeats 4000000
theorem Z {α:Type} {a:α}:a=a:=rfl
section
variable {r:Option Nat} {N:Nat} {P:Program} {l:List Oper} {Q:wDi} {D:List Deferred} {ks:List Nat} {σ:Env} {w:World} {i d j e:Nat} {s:Sch} {o:Oper} {b:Bool} {x:Operand} {v:Value} {p:Prop} {inst:Decidable p} {K:List Deferred->Env->World->Prop} {c1 c2:Code}
abbrev jV (n:Int):Value:=.int .i64 n
abbrev SW (w:World) (X:List Res) (U U':PHeap) (L:List Res) (w':World):Prop:=St ⟨w,X,U⟩ U' L w'
abbrev sW (w:World) (U U':PHeap) (L:List Res) (w':World):Prop:=St ⟨w,[],U⟩ U' L w'
abbrev St0 (w:World) (U:PHeap) (L:List Res):Prop:=St ⟨w,L,U⟩ U L w
theorem ifc {α:Type} {G p:Prop} {inst:Decidable p} {a b r:α} (h:@ite α p inst a b=r) (h1:Hid p->a=r->G) (h2:Hid (¬ p)->b=r->G):G:=by
 by_cases c:p
 rw [if_pos c] at h;exact h1 ⟨c⟩ h
 rw [if_neg c] at h;exact h2 ⟨c⟩ h
theorem bnK {α β:Type} {G:Prop} {o:Option α} {f:α->Option β} {r:β} (h:o.bind f=some r) (k:∀ x,o=some x->f x=some r->G):G:=by
 obtain ⟨x,h1,h2⟩:=bnd h
 exact k x h1 h2
theorem oR (h:(l[i]?,o.dst,nN d N,wanted l σ o)=(some o,some d,true,true)) (hr:∀ {w'},Runs P σ w' o v w') (k:OKS N P l Q D ks s (upd σ d v) w):OKS N P l Q D ks (.fl i s) σ w:=by
 simp only [nM] at h;exact OKS.r h.1 h.2.1 h.2.2.1 h.2.2.2 (fun _=>hr) k
theorem oL (h:(l[i]?,o.dst,nN d N,wanted l σ o,wSm (kOf ks i))=(some o,some d,true,true,false)) (hr:RunsK P σ w o v) (k:OKS N P l Q D ks s (upd σ d v) w):OKS N P l Q D ks (.fl i s) σ w:=by
 simp only [nM] at h;exact OKS.m h.1 h.2.1 h.2.2.1 h.2.2.2.1 hr h.2.2.2.2 k
theorem oM (h:(l[i]?,o.dst,nN d N,wanted l σ o,o.op)=(some o,some d,true,true,.move x)) (hx:ev σ x=v) (k:OKS N P l Q D ks s (upd σ d v) w):OKS N P l Q D ks (.fl i s) σ w:=by
 simp only [nM] at h;exact OKS.rm h.1 h.2.1 h.2.2.1 h.2.2.2.1 h.2.2.2.2 hx k
theorem oA (h:(l[i]?,o.dst,nN d N,wanted l σ o,o.op)=(some o,some d,true,true,.assign x)) (hx:ev σ x=v) (k:OKS N P l Q D ks s (upd σ d v) w):OKS N P l Q D ks (.fl i s) σ w:=by
 simp only [nM] at h;exact OKS.ra h.1 h.2.1 h.2.2.1 h.2.2.2.1 h.2.2.2.2 hx k
theorem oF (h:(l[i]?,o.dst,nN d N,o.guard,(l[j]?).bind (·.dst),σ e,false == b)=(some o,some d,true,some (j,b),some e,.bool (decide p),false)) (c:Hid (¬ p)) (k:OKS N P l Q D ks s (upd σ d undef) w):OKS N P l Q D ks (.fl i s) σ w:=by
 simp only [nM] at h;exact OKS.p h.1 h.2.1 h.2.2.1 (wGx h.2.2.2.1 h.2.2.2.2.1 (h.2.2.2.2.2.1.trans (wSl c.out)) h.2.2.2.2.2.2) k
theorem oT (h:(l[i]?,o.dst,nN d N,o.guard,(l[j]?).bind (·.dst),σ e,true == b)=(some o,some d,true,some (j,b),some e,.bool (decide p),false)) (c:Hid p) (k:OKS N P l Q D ks s (upd σ d undef) w):OKS N P l Q D ks (.fl i s) σ w:=by
 simp only [nM] at h;exact OKS.p h.1 h.2.1 h.2.2.1 (wGx h.2.2.2.1 h.2.2.2.2.1 (h.2.2.2.2.2.1.trans (wSk c.out)) h.2.2.2.2.2.2) k
theorem oN {b2:Bool} (h:(l[i]?,o.dst,nN d N,o.guard,(l[j]?).bind (·.dst),σ e,b2 == b)=(some o,some d,true,some (j,b),some e,.bool b2,false)) (k:OKS N P l Q D ks s (upd σ d undef) w):OKS N P l Q D ks (.fl i s) σ w:=by
 simp only [nM] at h;exact OKS.p h.1 h.2.1 h.2.2.1 (wGx h.2.2.2.1 h.2.2.2.2.1 h.2.2.2.2.2.1 h.2.2.2.2.2.2) k
theorem nC {a b:Bool} (h:a=b):nJ (!a)=nJ (!b):=h ▸ rfl
theorem nF {a:Bool} (h:¬ a=true):nJ (!a)=nJ (!false):=nC (nL.2 h)
theorem wT (h:(o.guard,(l[j]?).bind (·.dst),σ e)=(some (j,true),some e,.bool (decide p))) (c:Hid p):wanted l σ o=true:=by
 simp only [nM] at h;exact wIh h.1 h.2.1 (h.2.2.trans (wSk c.out))
theorem wF (h:(o.guard,(l[j]?).bind (·.dst),σ e)=(some (j,false),some e,.bool (decide p))) (c:Hid (¬ p)):wanted l σ o=true:=by
 simp only [nM] at h;exact wIh h.1 h.2.1 (h.2.2.trans (wSl c.out))
theorem rU (h:(l[i]?,o.dst,nN d N)=(some o,some d,true)) (hw:wanted l σ o=true) (hr:∀ {w'},Runs P σ w' o v w') (k:OKS N P l Q D ks s (upd σ d v) w):OKS N P l Q D ks (.fl i s) σ w:=by
 simp only [nM] at h;exact OKS.r h.1 h.2.1 h.2.2 hw (fun _=>hr) k
theorem sR {id:Nat} (s:Sch) (hs:inOrder 0 s l.length=true) (h:OKS N P l (wFf (fun D σ w=>CK r N P c2 Q D σ w) Q) D [] s σ w):CK r N P (.seq (.region id l.toArray false) c2) Q D σ w:=CK.seq (CK.reg s hs h)
theorem rR {id:Nat} (s:Sch) (hs:inOrder 0 s l.length=true) (h:OKS N P l Q D [] s σ w):CK r N P (.region id l.toArray false) Q D σ w:=CK.reg s hs h
theorem eN (h:K D σ w):OKS N P l (wFf K Q) D ks .nil σ w:=OKS.e (wIc h)
theorem cT (hz:ev σ x=.bool (decide p)) (c:Hid p) (h:CK r N P c1 Q D σ w):CK r N P (.cond x c1 c2) Q D σ w:=CK.condT (hz.trans (wSk c.out)) h
theorem cF (hz:ev σ x=.bool (decide p)) (c:Hid (¬ p)) (h:CK r N P c2 Q D σ w):CK r N P (.cond x c1 c2) Q D σ w:=CK.condF (hz.trans (wSl c.out)) h
theorem kN (h:K D σ w):CK r N P .skip (wFf K Q) D σ w:=CK.skip (wIc h)
end
def fL1:Sch:=.fl 0 .nil
def fL2:Sch:=.fl 0 (.fl 1 .nil)
def fL3:Sch:=.fl 0 gAa
def fL4:Sch:=.fl 0 (.fl 1 gAb)
def fL5:Sch:=.fl 0 (.fl 1 (.fl 2 (.fl 3 (.fl 4 .nil))))
def fL6:Sch:=.fl 0 (.fl 1 (.fl 2 (.fl 3 gAc)))
def fL7:Sch:=.fl 0 (.fl 1 (.fl 2 (.fl 3 (.fl 4 (.fl 5 (.fl 6 .nil))))))
def fL8:Sch:=.fl 0 (.fl 1 (.fl 2 (.fl 3 (.fl 4 (.fl 5 (.fl 6 (.fl 7 .nil)))))))
def fL9:Sch:=.fl 0 (.fl 1 (.fl 2 (.fl 3 (.fl 4 (.fl 5 (.fl 6 gAd))))))
def fL10:Sch:=.fl 0 (.fl 1 (.fl 2 (.fl 3 (.fl 4 (.fl 5 (.fl 6 (.fl 7 (.fl 8 (.fl 9 .nil)))))))))
def fL11:Sch:=.fl 0 (.fl 1 (.fl 2 (.fl 3 (.fl 4 (.fl 5 (.fl 6 (.fl 7 (.fl 8 (.fl 9 (.fl 10 .nil))))))))))
def fL15:Sch:=.fl 0 (.fl 1 (.fl 2 (.fl 3 (.fl 4 (.fl 5 (.fl 6 (.fl 7 (.fl 8 (.fl 9 (.fl 10 (.fl 11 (.fl 12 (.fl 13 (.fl 14 .nil))))))))))))))
def fL16:Sch:=.fl 0 (.fl 1 (.fl 2 (.fl 3 (.fl 4 (.fl 5 (.fl 6 (.fl 7 (.fl 8 (.fl 9 (.fl 10 (.fl 11 (.fl 12 (.fl 13 (.fl 14 (.fl 15 .nil)))))))))))))))
def fL17:Sch:=.fl 0 (.fl 1 (.fl 2 (.fl 3 (.fl 4 (.fl 5 (.fl 6 (.fl 7 (.fl 8 (.fl 9 (.fl 10 (.fl 11 (.fl 12 (.fl 13 (.fl 14 gAe))))))))))))))
def fL18:Sch:=.fl 0 (.fl 1 (.fl 2 (.fl 3 (.fl 4 (.fl 5 (.fl 6 (.fl 7 (.fl 8 (.fl 9 (.fl 10 (.fl 11 (.fl 12 (.fl 13 (.fl 14 (.fl 15 (.fl 16 (.fl 17 .nil)))))))))))))))))
def fL19:Sch:=.fl 0 (.fl 1 (.fl 2 (.fl 3 (.fl 4 (.fl 5 (.fl 6 (.fl 7 (.fl 8 (.fl 9 (.fl 10 (.fl 11 (.fl 12 (.fl 13 (.fl 14 (.fl 15 (.fl 16 (.fl 17 (.fl 18 .nil))))))))))))))))))
def fL20:Sch:=.fl 0 (.fl 1 (.fl 2 (.fl 3 (.fl 4 (.fl 5 (.fl 6 (.fl 7 (.fl 8 (.fl 9 (.fl 10 (.fl 11 (.fl 12 (.fl 13 (.fl 14 (.fl 15 (.fl 16 (.fl 17 (.fl 18 (.fl 19 .nil)))))))))))))))))))
def fL22:Sch:=.fl 0 (.fl 1 (.fl 2 (.fl 3 (.fl 4 (.fl 5 (.fl 6 (.fl 7 (.fl 8 (.fl 9 (.fl 10 (.fl 11 (.fl 12 (.fl 13 (.fl 14 (.fl 15 (.fl 16 (.fl 17 (.fl 18 (.fl 19 (.fl 20 (.fl 21 .nil)))))))))))))))))))))
def fL30:Sch:=.fl 0 (.fl 1 (.fl 2 (.fl 3 (.fl 4 (.fl 5 (.fl 6 (.fl 7 (.fl 8 (.fl 9 (.fl 10 (.fl 11 (.fl 12 (.fl 13 (.fl 14 (.fl 15 (.fl 16 (.fl 17 (.fl 18 (.fl 19 (.fl 20 (.fl 21 (.fl 22 (.fl 23 (.fl 24 (.fl 25 (.fl 26 (.fl 27 (.fl 28 (.fl 29 .nil)))))))))))))))))))))))))))))
def fL31:Sch:=.fl 0 (.fl 1 (.fl 2 (.fl 3 (.fl 4 (.fl 5 (.fl 6 (.fl 7 (.fl 8 (.fl 9 (.fl 10 (.fl 11 (.fl 12 (.fl 13 (.fl 14 (.fl 15 (.fl 16 (.fl 17 (.fl 18 (.fl 19 (.fl 20 (.fl 21 (.fl 22 (.fl 23 (.fl 24 (.fl 25 (.fl 26 (.fl 27 (.fl 28 (.fl 29 (.fl 30 .nil))))))))))))))))))))))))))))))
def wEU (s:Sch):Sch:=.fl 0 (.fl 1 (.fl 2 (s)))
def wEc (s:Sch):Sch:=.fl 0 (.fl 1 (.fl 2 (.fl 3 (s))))
def wDh (s:Sch):Sch:=.fl 0 (.fl 1 (.fl 2 (.fl 3 (.fl 4 (s)))))
def wLJ (s:Sch):Sch:=.fl 0 (.fl 1 (.fl 2 (.fl 3 (.fl 4 (.fl 5 (s))))))
def wJK (s:Sch):Sch:=.fl 0 (.fl 1 (.fl 2 (.fl 3 (.fl 4 (.fl 5 (.fl 6 (s)))))))
def wUH (s:Sch):Sch:=.fl 0 (.fl 1 (.fl 2 (.fl 3 (.fl 4 (.fl 5 (.fl 6 (.fl 7 (s))))))))
def wSX (s:Sch):Sch:=.fl 0 (.fl 1 (.fl 2 (.fl 3 (.fl 4 (.fl 5 (.fl 6 (.fl 7 (.fl 8 (s)))))))))
def wUI (s:Sch):Sch:=.fl 0 (.fl 1 (.fl 2 (.fl 3 (.fl 4 (.fl 5 (.fl 6 (.fl 7 (.fl 8 (.fl 9 (s))))))))))
def wMA (s:Sch):Sch:=.fl 0 (.fl 1 (.fl 2 (.fl 3 (.fl 4 (.fl 5 (.fl 6 (.fl 7 (.fl 8 (.fl 9 (.fl 10 (s)))))))))))
def wUJ (s:Sch):Sch:=.fl 0 (.fl 1 (.fl 2 (.fl 3 (.fl 4 (.fl 5 (.fl 6 (.fl 7 (.fl 8 (.fl 9 (.fl 10 (.fl 11 (.fl 12 (.fl 13 (s))))))))))))))
def wMB (s:Sch):Sch:=.fl 0 (.fl 1 (.fl 2 (.fl 3 (.fl 4 (.fl 5 (.fl 6 (.fl 7 (.fl 8 (.fl 9 (.fl 10 (.fl 11 (.fl 12 (.fl 13 (.fl 14 (s)))))))))))))))
def wUK (s:Sch):Sch:=.fl 0 (.fl 1 (.fl 2 (.fl 3 (.fl 4 (.fl 5 (.fl 6 (.fl 7 (.fl 8 (.fl 9 (.fl 10 (.fl 11 (.fl 12 (.fl 13 (.fl 14 (.fl 15 (s))))))))))))))))
def wUL (s:Sch):Sch:=.fl 0 (.fl 1 (.fl 2 (.fl 3 (.fl 4 (.fl 5 (.fl 6 (.fl 7 (.fl 8 (.fl 9 (.fl 10 (.fl 11 (.fl 12 (.fl 13 (.fl 14 (.fl 15 (.fl 16 (.fl 17 (.fl 18 (s)))))))))))))))))))
def wUM (s:Sch):Sch:=.fl 0 (.fl 1 (.fl 2 (.fl 3 (.fl 4 (.fl 5 (.fl 6 (.fl 7 (.fl 8 (.fl 9 (.fl 10 (.fl 11 (.fl 12 (.fl 13 (.fl 14 (.fl 15 (.fl 16 (.fl 17 (.fl 18 (.fl 19 (.fl 20 (s)))))))))))))))))))))
def wUN (s:Sch):Sch:=.fl 0 (.fl 1 (.fl 2 (.fl 3 (.fl 4 (.fl 5 (.fl 6 (.fl 7 (.fl 8 (.fl 9 (.fl 10 (.fl 11 (.fl 12 (.fl 13 (.fl 14 (.fl 15 (.fl 16 (.fl 17 (.fl 18 (.fl 19 (.fl 20 (.fl 21 (s))))))))))))))))))))))
def fC1_5 (s:Sch):Sch:=.fl 1 (.fl 2 (.fl 3 (.fl 4 (.fl 5 (s)))))
def wUO (s:Sch):Sch:=.fl 1 (.fl 2 (.fl 3 (.fl 4 (.fl 5 (.fl 6 (.fl 7 (.fl 8 (.fl 9 (.fl 10 (.fl 11 (.fl 12 (.fl 13 (.fl 14 (.fl 15 (.fl 16 (.fl 17 (.fl 18 (.fl 19 (s)))))))))))))))))))
def wUP (s:Sch):Sch:=.fl 2 (.fl 3 (.fl 4 (.fl 5 (s))))
def fC2_6 (s:Sch):Sch:=.fl 2 (.fl 3 (.fl 4 (.fl 5 (.fl 6 (s)))))
def wQG (s:Sch):Sch:=.fl 3 (.fl 4 (.fl 5 (s)))
def wSY (s:Sch):Sch:=.fl 3 (.fl 4 (.fl 5 (.fl 6 (s))))
def wQH (s:Sch):Sch:=.fl 3 (.fl 4 (.fl 5 (.fl 6 (.fl 7 (s)))))
def fC4_6 (s:Sch):Sch:=.fl 4 (.fl 5 (.fl 6 (s)))
def wUQ (s:Sch):Sch:=.fl 4 (.fl 5 (.fl 6 (.fl 7 (.fl 8 (.fl 9 (.fl 10 (.fl 11 (.fl 12 (.fl 13 (.fl 14 (.fl 15 (.fl 16 (.fl 17 (.fl 18 (.fl 19 (.fl 20 (.fl 21 (.fl 22 (.fl 23 (s))))))))))))))))))))
def wQI (s:Sch):Sch:=.fl 5 (.fl 6 (.fl 7 (s)))
def wUR (s:Sch):Sch:=.fl 5 (.fl 6 (.fl 7 (.fl 8 (s))))
def wMw (s:Sch):Sch:=.fl 5 (.fl 6 (.fl 7 (.fl 8 (.fl 9 (s)))))
def wQq (s:Sch):Sch:=.fl 5 (.fl 6 (.fl 7 (.fl 8 (.fl 9 (.fl 10 (.fl 11 (.fl 12 (.fl 13 (.fl 14 (.fl 15 (s)))))))))))
def fC6_8 (s:Sch):Sch:=.fl 6 (.fl 7 (.fl 8 (s)))
def wUS (s:Sch):Sch:=.fl 6 (.fl 7 (.fl 8 (.fl 9 (.fl 10 (s)))))
def wQr (s:Sch):Sch:=.fl 6 (.fl 7 (.fl 8 (.fl 9 (.fl 10 (.fl 11 (.fl 12 (s)))))))
def wUT (s:Sch):Sch:=.fl 7 (.fl 8 (.fl 9 (.fl 10 (.fl 11 (s)))))
def wUU (s:Sch):Sch:=.fl 7 (.fl 8 (.fl 9 (.fl 10 (.fl 11 (.fl 12 (s))))))
def wUV (s:Sch):Sch:=.fl 7 (.fl 8 (.fl 9 (.fl 10 (.fl 11 (.fl 12 (.fl 13 (s)))))))
def wQs (s:Sch):Sch:=.fl 8 (.fl 9 (.fl 10 (s)))
def wKF (s:Sch):Sch:=.fl 8 (.fl 9 (.fl 10 (.fl 11 (s))))
def wUW (s:Sch):Sch:=.fl 9 (.fl 10 (.fl 11 (.fl 12 (.fl 13 (.fl 14 (.fl 15 (.fl 16 (.fl 17 (.fl 18 (s))))))))))
def wSZ (s:Sch):Sch:=.fl 10 (.fl 11 (.fl 12 (.fl 13 (s))))
def wSa (s:Sch):Sch:=.fl 11 (.fl 12 (.fl 13 (.fl 14 (s))))
def wSb (s:Sch):Sch:=.fl 13 (.fl 14 (.fl 15 (s)))
def wSc (s:Sch):Sch:=.fl 20 (.fl 21 (.fl 22 (s)))
theorem zA:type_of% @nO:=@nO
theorem zB:type_of% @wNA:=@wNA
theorem zC:type_of% @Tryz.sizeOf3:=@Tryz.sizeOf3
theorem zD:type_of% @Tryz.runUnderlying23:=@Tryz.runUnderlying23
theorem zE:type_of% @Tryz.isAgg3:=@Tryz.isAgg3
theorem zF:type_of% @Tryz.sizeOf95:=@Tryz.sizeOf95
theorem zG:type_of% @wIc:=@wIc
theorem zH:type_of% @Runs.fa:=@Runs.fa
theorem zI:type_of% @CK.seq:=@CK.seq
theorem zJ:type_of% @Hid.mk:=@Hid.mk
theorem zK:type_of% @Enters.mk:=@Enters.mk
theorem zL:type_of% @PHeap.Le.refl:=@PHeap.Le.refl
theorem zM:type_of% @OKS.callH:=@OKS.callH
theorem zN:type_of% @OKS.rm:=@OKS.rm
theorem zO:type_of% @Runs.lss:=@Runs.lss
theorem zP:type_of% @wQJ:=@wQJ
theorem zQ:type_of% @Tryz.runUnderlying28:=@Tryz.runUnderlying28
theorem zR:type_of% @wMz:=@wMz
theorem zS:type_of% @Runs.addw:=@Runs.addw
theorem zU:type_of% @CK.block:=@CK.block
theorem zV:type_of% @CK.ret:=@CK.ret
theorem zW:type_of% @OKS.alloc:=@OKS.alloc
theorem zX:type_of% @OKS.e:=@OKS.e
theorem zY:type_of% @OKS.st:=@OKS.st
theorem zZ:type_of% @OKS.r:=@OKS.r
theorem zd:type_of% @wMy:=@wMy
theorem ze:type_of% @wIh:=@wIh
theorem zf:type_of% @Runs.pickT:=@Runs.pickT
theorem zg:type_of% @Tryz.isAgg95:=@Tryz.isAgg95
theorem zh:type_of% @Tryz.zeroValue95:=@Tryz.zeroValue95
theorem zi:type_of% @wLL:=@wLL
theorem zj:type_of% @wLK:=@wLK
theorem zk:type_of% @OKS.both:=@OKS.both
theorem zl:type_of% @Runs.ext:=@Runs.ext
theorem zm:type_of% @Runs.iaI:=@Runs.iaI
theorem zn:type_of% @Runs.pickF:=@Runs.pickF
theorem zo:type_of% @CK.condF:=@CK.condF
theorem zq:type_of% @Tryz.sizeOf23:=@Tryz.sizeOf23
theorem zr:type_of% @Tryz.mixed:=@Tryz.mixed
theorem zt:type_of% @Runs.build:=@Runs.build
theorem zu:type_of% @Tryz.sizeOf28:=@Tryz.sizeOf28
theorem zw:type_of% @Tryz.isAgg23:=@Tryz.isAgg23
theorem zx:type_of% @CK.anyOrd:=@CK.anyOrd
theorem zy:type_of% @Tryz.runUnderlying210:=@Tryz.runUnderlying210
theorem zz:type_of% @OKS.buildSlice:=@OKS.buildSlice
theorem ZA:type_of% @Runs.len:=@Runs.len
theorem ZB:type_of% @OKS.mx2:=@OKS.mx2
theorem ZC:type_of% @OKS.cutD:=@OKS.cutD
theorem ZD:type_of% @Tryz.runUnderlying143:=@Tryz.runUnderlying143
theorem ZE:type_of% @Tryz.runUnderlying146:=@Tryz.runUnderlying146
theorem ZF:type_of% @OKS.m:=@OKS.m
theorem ZG:type_of% @Tryz.zeroValue3:=@Tryz.zeroValue3
theorem ZH:type_of% @Tryz.isAgg28:=@Tryz.isAgg28
theorem ZI:type_of% @CK.condT:=@CK.condT
theorem ZJ:type_of% @wId:=@wId
theorem ZK:type_of% @OKS.box:=@OKS.box
theorem ZL:type_of% @Tryz.runUnderlying53:=@Tryz.runUnderlying53
theorem ZM:type_of% @Tryz.runUnderlying78:=@Tryz.runUnderlying78
theorem ZN:type_of% @Tryz.sizeOf53:=@Tryz.sizeOf53
theorem ZO:type_of% @Tryz.runUnderlying148:=@Tryz.runUnderlying148
theorem ZP:type_of% @CK.exit:=@CK.exit
theorem ZQ:type_of% @wSl:=@wSl
theorem ZR:type_of% @Runs.to:=@Runs.to
theorem ZS:type_of% @res1:=@res1
theorem ZT:type_of% @CK.skip:=@CK.skip
theorem ZU:type_of% @Tryz.sizeOf299:=@Tryz.sizeOf299
theorem ZV:type_of% @Tryz.runUnderlying29:=@Tryz.runUnderlying29
theorem ZW:type_of% @Tryz.runUnderlying3:=@Tryz.runUnderlying3
theorem ZX:type_of% @Runs.subw:=@Runs.subw
theorem ZY:type_of% @Tryz.runUnderlying24:=@Tryz.runUnderlying24
theorem Za:type_of% @Tryz.runUnderlying25:=@Tryz.runUnderlying25
theorem Zb:type_of% @Runs.nilp:=@Runs.nilp
theorem Zc:type_of% @Tryz.zeroValue148:=@Tryz.zeroValue148
theorem Zd:type_of% @wSk:=@wSk
theorem Ze:type_of% @Tryz.runUnderlying34:=@Tryz.runUnderlying34
theorem Zf:type_of% @Runs.notT:=@Runs.notT
theorem Zg:type_of% @wGx:=@wGx
theorem Zh:type_of% @Tryz.runUnderlying237:=@Tryz.runUnderlying237
theorem Zi:type_of% @Tryz.runUnderlying81:=@Tryz.runUnderlying81
theorem Zj:type_of% @Tryz.zeroValue53:=@Tryz.zeroValue53
theorem Zk:type_of% @Tryz.sizeOf36:=@Tryz.sizeOf36
theorem Zl:type_of% @Tryz.zeroValue299:=@Tryz.zeroValue299
theorem Zm:type_of% @Tryz.call101:=@Tryz.call101
theorem Zn:type_of% @Tryz.sizeOf25:=@Tryz.sizeOf25
theorem Zo:type_of% @Tryz.sizeOf78:=@Tryz.sizeOf78
theorem Zp:type_of% @Runs.iaN:=@Runs.iaN
theorem Zq:type_of% @Tryz.sizeOf143:=@Tryz.sizeOf143
theorem Zr:type_of% @Tryz.sizeOf148:=@Tryz.sizeOf148
theorem Zs:type_of% @Tryz.sizeOf76:=@Tryz.sizeOf76
theorem Zt:type_of% @Tryz.zeroValue78:=@Tryz.zeroValue78
theorem Zu:type_of% @Tryz.zeroValue86:=@Tryz.zeroValue86
theorem Zv:type_of% @OKS.append:=@OKS.append
theorem Zw:type_of% @Tryz.runUnderlying300:=@Tryz.runUnderlying300
theorem Zx:type_of% @Tryz.call23:=@Tryz.call23
theorem Zy:type_of% @Tryz.isAgg143:=@Tryz.isAgg143
theorem Zz:type_of% @Tryz.runUnderlying76:=@Tryz.runUnderlying76
theorem yA:type_of% @CK.cut:=@CK.cut
theorem yB:type_of% @Tryz.runUnderlying37:=@Tryz.runUnderlying37
theorem yC:type_of% @Runs.neq:=@Runs.neq
theorem yD:type_of% @Tryz.runUnderlying299:=@Tryz.runUnderlying299
theorem yE:type_of% @Tryz.runUnderlying36:=@Tryz.runUnderlying36
theorem yF:type_of% @Tryz.sizeOf24:=@Tryz.sizeOf24
theorem yG:type_of% @Tryz.sizeOf57:=@Tryz.sizeOf57
theorem yH:type_of% @Tryz.sizeOf210:=@Tryz.sizeOf210
theorem yI:type_of% @Tryz.runUnderlying26:=@Tryz.runUnderlying26
theorem yJ:type_of% @OKS.p:=@OKS.p
theorem yK:type_of% @OKS.ra:=@OKS.ra
theorem yL:type_of% @OKS.stR:=@OKS.stR
theorem yM:type_of% @Tryz.isAgg25:=@Tryz.isAgg25
theorem yN:type_of% @Tryz.call144:=@Tryz.call144
theorem yO:type_of% @Tryz.isAgg210:=@Tryz.isAgg210
theorem yP:type_of% @Tryz.runUnderlying212:=@Tryz.runUnderlying212
theorem yQ:type_of% @Tryz.isAgg24:=@Tryz.isAgg24
theorem yR:type_of% @Tryz.isAgg53:=@Tryz.isAgg53
theorem yS:type_of% @Tryz.call196:=@Tryz.call196
theorem yU:type_of% @Tryz.isAgg86:=@Tryz.isAgg86
theorem yV:type_of% @Tryz.runUnderlying49:=@Tryz.runUnderlying49
theorem yW:type_of% @Tryz.underlying23:=@Tryz.underlying23
theorem yX:type_of% @CK.forN:=@CK.forN
theorem yY:type_of% @Tryz.sizeOf26:=@Tryz.sizeOf26
theorem yZ:type_of% @Tryz.zeroValue76:=@Tryz.zeroValue76
theorem ya:type_of% @Runs.gtr:=@Runs.gtr
theorem yb:type_of% @Tryz.zeroValue57:=@Tryz.zeroValue57
theorem yc:type_of% @Tryz.sizeOf144:=@Tryz.sizeOf144
theorem yd:type_of% @OKS.callV:=@OKS.callV
theorem ye:type_of% @Tryz.sizeOf49:=@Tryz.sizeOf49
theorem yf:type_of% @Tryz.isAgg299:=@Tryz.isAgg299
theorem yg:type_of% @OKS.makeMap:=@OKS.makeMap
theorem yh:type_of% @CK.fresh:=@CK.fresh
theorem yi:type_of% @Tryz.zeroValue36:=@Tryz.zeroValue36
theorem yj:type_of% @Tryz.isAgg57:=@Tryz.isAgg57
theorem yl:type_of% @Tryz.call102:=@Tryz.call102
theorem ym:type_of% @CK.iter:=@CK.iter
theorem yn:type_of% @OKS.callHT:=@OKS.callHT
end Go.Proofs.YtkedcbligiebkaaGreat
namespace Go.Proofs.YtkedcbligiebkaaGreat
open Go.KL
set_option maxHeartbeats 4000000
theorem wHa (p0:List Int) (ab:Option Addr) (ae:Nat) (w:World) (U:PHeap) (hS:St0 w U []) (ap:Sl U 1 ab ae p0.length (hH KL.encB8 p0)) {r:wAE} (hm:wDA p0=some r):Gv Tryz.prog 6 [.slice ab p0.length ae] w (wCW w [] U (fun U_ L_ v=>∃ (b0:Nat) (A0p0:Option Addr) (c0p0:Nat),v=.pointer (some ⟨b0,0,none⟩)/\L_=[.blk b0 81 [.slice A0p0 r.bytes.length c0p0,jV r.next,.int .u32 r.state]]/\Sl U_ 1 A0p0 c0p0 r.bytes.length (hH KL.encB8 r.bytes))):=by
 unfold wDA at hm
 refine Gv.of Tryz.func6 Z Tryz.ntmps6 Tryz.results6 Z (sR fL1 Z (oA Z Z (eN (sR gAr Z (oM Z Z ?_)))))
 let B0:List Value:=[.slice ab p0.length ae,jV 0,.int .u32 17]
 refine zZ rfl rfl rfl rfl (fun _=>zt (pv:=[(0,.slice ab p0.length ae),(2,.int .u32 17)]) (z:=[.slice none 0 0,jV 0,.int .u32 0]) (cs:=B0) rfl (wAB rfl (wAB rfl wAT)) Tryz.zeroValue81 wPm rfl rfl) (ZK (cs:=B0) rfl rfl rfl rfl rfl rfl (by rfl) hS ?_)
 intro W1 b2 am
 refine oA Z Z (eN (zV ?_))
 cases hm
 exact ⟨Z,_,(ZS Z),U,_,am,b2,ab,ae,Z,Z,ap⟩
theorem wAU (p0:wAE) (ak:Nat) (ae:Option Addr) (ai:Nat) (p1:Int) (w:World) (U:PHeap) (hS:St0 w U [.blk ak 81 [.slice ae p0.bytes.length ai,jV p0.next,.int .u32 p0.state]]) (ap:Sl U 1 ae ai p0.bytes.length (hH KL.encB8 p0.bytes)) {r:Int × wAE} (hm:wAM p0 p1=some r):Gv Tryz.prog 23 [.pointer (some ⟨ak,0,none⟩),jV p1] w (wCW w [.blk ak 81 [.slice ae p0.bytes.length ai,jV p0.next,.int .u32 p0.state]] U (fun U_ L_ v=>∃ (bb:Option Addr) (be:Nat),v=jV r.1/\L_=[.blk ak 81 [.slice bb r.2.bytes.length be,jV r.2.next,.int .u32 r.2.state]]/\Sl U_ 1 bb be r.2.bytes.length (hH KL.encB8 r.2.bytes))):=by
 unfold wAM at hm
 refine Gv.of Tryz.func23 Z Tryz.ntmps23 Tryz.results23 Z (sR fL1 Z (oA Z Z (eN (zI (sR fL10 Z (oM Z Z (oR Z (Runs.leq Z Z Z) (oM Z Z ?_))))))))
 by_cases c2:p1 <= 1
 have bi:=hm;rw [if_pos c2] at bi;replace c2:=zJ c2
 refine oT Z c2 (oT Z c2 (oT Z c2 (oT Z c2 (oT Z c2 (oT Z c2 (oR Z (zf Z (Zd c2.out) Z) (eN (ZI Z (sR fL1 Z (oA Z Z (eN (zV (zR ?_)))))))))))))
 cases bi
 exact ⟨Z,_,(ZS Z),U,_,hS,ae,ai,Z,Z,ap⟩
 have bj:=hm;rw [if_neg c2] at bj;replace c2:=zJ c2
 refine zN Z Z Z (wF Z c2) Z Z (rU Z (wF Z c2) (Zb Z Z) (rU Z (wF Z c2) (zH Z Z Zi Z Tryz.sizeOf22) (ZF Z Z Z (wF Z c2) (hS.ldB (j:=0) Z Z Z Tryz.isAgg22 (v:=.slice ae p0.bytes.length ai) Z) Z (rU Z (wF Z c2) (ZA Z Z Tryz.runUnderlying22) (rU Z (wF Z c2) (Runs.eql Z Z Z) (oR Z (zn Z (ZQ c2.out) Z) (eN (ifc bj ?_ ?_))))))))
 intro c5 bM
 refine cT Z c5 (sR fL1 Z (oA Z Z (eN (zV (zR ?_)))))
 cases bM
 exact ⟨Z,_,(ZS Z),U,_,hS,ae,ai,Z,Z,ap⟩
 intro c5 bN
 refine cF Z c5 (kN (zI (zx zr [3,3,3,1,3,3,3,1,3,3,3,1,3,3,3,1,3,3,3,3,1,3,3,3,1,3,3,3,3,3] fL30 (by kernel_rfl) ?_)))
 have aj:=hS.drew
 generalize hw_W9:({ w with drawn:=w.drawn + 1 }:World)=W9 at aj ⊢
 refine oM Z Z (oR Z (Zb Z Z) (oR Z (zH Z Z Zi Z Tryz.sizeOf22) (oL Z (aj.ldB (j:=0) Z Z Z Tryz.isAgg22 (v:=.slice ae p0.bytes.length ai) Z) (oM Z Z (oR Z (Zb Z Z) (oR Z (zH Z Z Zi Z zC) (oL Z (aj.ldB (j:=0) Z Z Z zE (v:=jV p0.next) Z) (oM Z Z (oR Z (Zb Z Z) (oR Z (zH Z Z Zi Z Tryz.sizeOf22) (oL Z (aj.ldB (j:=0) Z Z Z Tryz.isAgg22 (v:=.slice ae p0.bytes.length ai) Z) (oR Z (ZA Z Z Tryz.runUnderlying22) (bnK bN fun bS bo bB=>oR Z (Runs.rem Z Z Z bo) (bnK bB fun bk ba bC=>?_))))))))))))))
 have q:=ap.el (fun _=>rfl) (wAi ba)
 obtain ⟨bQ,bR,bv,bw⟩:=q
 refine oR Z (zm Z Z bv Z Tryz.runUnderlying22 Tryz.sizeOf5 (wBt ba) (wBv ba)) (oL Z (aj.ldC (f:=0) bw (v:=.int .u8 bk) Z Z Tryz.isAgg5 Z) (oR Z (Runs.cvu Z Z Tryz.runUnderlying5 Tryz.runUnderlying79 Z Z) (oM Z Z (oR Z (Zb Z Z) (oR Z (zH Z Z Zi Z zC) (oL Z (aj.ldB (j:=0) Z Z Z zE (v:=jV p0.next) Z) (oM Z Z (oR Z (Zb Z Z) (oR Z (zH Z Z Zi Z Tryz.sizeOf22) (oL Z (aj.ldB (j:=0) Z Z Z Tryz.isAgg22 (v:=.slice ae p0.bytes.length ai) Z) (oR Z (ZA Z Z Tryz.runUnderlying22) (bnK bC fun bO bp bD=>oR Z (Runs.quo Z Z Z bp) (oR Z (Runs.cvu Z Z ZW Tryz.runUnderlying79 Z Z) (oA Z Z (oA Z Z (eN (zI (yh fun aX av=>?_))))))))))))))))))
 have aq:aX 0=.pointer (some ⟨ak,0,none⟩):=(av 0).trans rfl
 have az:aX 1=jV p1:=(av 1).trans rfl
 have aU:aX 5=.int .u32 (wEj bk):=(av 5).trans rfl
 have bg:aX 6=.int .u32 (wEj bO):=(av 6).trans rfl
 clear av
 refine rR (wJK (.fx 7 .nil .stop)) Z (oM Z aq (oR Z (Zb Z Z) (oR Z (zH Z Z Zi Z zC) (oL Z (aj.ldB (j:=0) Z Z Z zE (v:=jV p0.next) Z) (oR Z (zS Z Z Z) (oR Z (Zb Z Z) (oR Z (zH Z Z Zi Z zC) (zY (j:=0) (vs:=[jV (w64 (p0.next + 1))]) Z Z Z Z aj Z Z Z Z zC (zA Z) Z Z Z ?_))))))))
 intro bm bz
 let B0:Res:=.blk ak 81 [.slice ae p0.bytes.length ai,jV p0.next,.int .u32 p0.state]
 have bh:SW w [B0] U U [.blk ak 81 [.slice ae p0.bytes.length ai,jV (w64 (p0.next + 1)),.int .u32 p0.state]] bm:=bz
 refine eN (sR (wMB (.fx 15 .nil .stop)) Z (oM Z aq (oM Z aq (oR Z (Zb Z Z) (oR Z (zH Z Z Zi Z Tryz.sizeOf79) (oL Z (bh.ldB (j:=0) Z Z Z Tryz.isAgg79 (v:=.int .u32 p0.state) Z) (oR Z (Runs.mulu Z Z Z) (oM Z aU (oR Z (Runs.addu Z Z Z) (oM Z bg (oR Z (Runs.mulu Z Z Z) (oR Z (Runs.addu Z Z Z) (oR Z (Runs.addu Z Z Z) (bnK bD fun aW bq bE=>oR Z (Runs.rem Z Z Z bq) (oR Z (Zb Z Z) (oR Z (zH Z Z Zi Z Tryz.sizeOf79) (zY (j:=0) (vs:=[.int .u32 aW]) Z Z Z Z bh Z Z Z Z Tryz.sizeOf79 (zA Z) Z Z Z ?_)))))))))))))))))
 intro bn bA
 have au:SW w [B0] U U [.blk ak 81 [.slice ae p0.bytes.length ai,jV (w64 (p0.next + 1)),.int .u32 aW]] bn:=bA
 refine eN (zI (sR fL6 Z (oM Z bg (oR Z (Runs.eql Z Z Z) (oM Z Z (ifc bE ?_ ?_))))))
 intro am bF
 refine zN Z Z Z (wT Z am) Z az (rU Z (wT Z am) (Runs.leq Z Z Z) (oR Z (zf Z (Zd am.out) Z) (eN (ifc bF ?_ ?_))))
 intro aY bG
 refine cT Z aY (sR fL5 Z (oM Z aU (oR Z (Runs.cvw Z Z Tryz.runUnderlying79 ZW Z Z) (oM Z az (bnK bG fun bT br bH=>oR Z (Runs.rem Z Z Z br) (oA Z Z (eN (zV (zR ?_)))))))))
 cases bH
 exact ⟨Z,_,(ZS Z),U,_,au,ae,ai,Z,Z,ap⟩
 intro aY bI
 refine cF Z aY (kN (sR fL11 Z (oM Z aq (oR Z (Zb Z Z) (oR Z (zH Z Z Zi Z Tryz.sizeOf79) (oL Z (au.ldB (j:=0) Z Z Z Tryz.isAgg79 (v:=.int .u32 aW) Z) (oR Z (Runs.mulu Z Z Z) (oM Z aU (oR Z (Runs.addu Z Z Z) (oR Z (Runs.cvw Z Z Tryz.runUnderlying79 ZW Z Z) (oM Z az (bnK bI fun bU bt bJ=>oR Z (Runs.rem Z Z Z bt) (oA Z Z (eN (zV ?_)))))))))))))))
 cases bJ
 exact ⟨Z,_,(ZS Z),U,_,au,ae,ai,Z,Z,ap⟩
 intro am bK
 refine oF Z am (oF Z am (oR Z (zn Z (ZQ am.out) Z) (eN (zo Z (kN (sR fL11 Z (oM Z aq (oR Z (Zb Z Z) (oR Z (zH Z Z Zi Z Tryz.sizeOf79) (oL Z (au.ldB (j:=0) Z Z Z Tryz.isAgg79 (v:=.int .u32 aW) Z) (oR Z (Runs.mulu Z Z Z) (oM Z aU (oR Z (Runs.addu Z Z Z) (oR Z (Runs.cvw Z Z Tryz.runUnderlying79 ZW Z Z) (oM Z az (bnK bK fun bV bu bL=>oR Z (Runs.rem Z Z Z bu) (oA Z Z (eN (zV ?_)))))))))))))))))))
 cases bL
 exact ⟨Z,_,(ZS Z),U,_,au,ae,ai,Z,Z,ap⟩
theorem wAe (p0:wAE) (ab:Nat) (ae:Option Addr) (ai:Nat) (p1:Int) (p2:Int) (w:World) (U:PHeap) (hS:St0 w U [.blk ab 81 [.slice ae p0.bytes.length ai,jV p0.next,.int .u32 p0.state]]) (ba:Sl U 1 ae ai p0.bytes.length (hH KL.encB8 p0.bytes)) {r:Int × wAE} (hm:wAN p0 p1 p2=some r):Gv Tryz.prog 24 [.pointer (some ⟨ab,0,none⟩),jV p1,jV p2] w (wCW w [.blk ab 81 [.slice ae p0.bytes.length ai,jV p0.next,.int .u32 p0.state]] U (fun U_ L_ v=>∃ (aq:Option Addr) (az:Nat),v=jV r.1/\L_=[.blk ab 81 [.slice aq r.2.bytes.length az,jV r.2.next,.int .u32 r.2.state]]/\Sl U_ 1 aq az r.2.bytes.length (hH KL.encB8 r.2.bytes))):=by
 unfold wAN at hm
 refine Gv.of Tryz.func24 Z Tryz.ntmps24 Tryz.results24 Z (sR fL1 Z (oA Z Z (eN (sR (wLJ gAi) Z (oM Z Z (oM Z Z (oM Z Z (oM Z Z (oR Z (ZX Z Z Z) (oR Z (zS Z Z Z) ?_))))))))))
 have q:=bnd hm
 obtain ⟨⟨x2,x3⟩,h4,aU⟩:=q
 try dsimp only at aU
 refine zM 1 Z Z Z Z (zK Z Z Zx (zB Z (zB Z zP)) Z) hS (fun hs=>wAU p0 ab ae ai (w64 ((w64 (p2 - p1)) + 1)) w U hs ba h4) (.inl Z) ?_
 rintro U6 L7 v8 W9 bd aY ⟨ap,av,rfl,rfl,aW⟩
 have aZ:SW w [.blk ab 81 [.slice ae p0.bytes.length ai,jV p0.next,.int .u32 p0.state]] U U6 [.blk ab 81 [.slice ap x3.bytes.length av,jV x3.next,.int .u32 x3.state]] W9:=aY
 refine oR Z (zS Z Z Z) (oA Z Z (eN (zV ?_)))
 cases aU
 exact ⟨Z,_,(ZS Z),U6,_,aZ,ap,av,Z,Z,aW⟩
theorem wFY (p0:wAE) (ab:Nat) (ft:Option Addr) (fu:Nat) (p1:Int) (p2:Int) (p3:Int) (w:World) (U:PHeap) (hS:St0 w U [.blk ab 81 [.slice ft p0.bytes.length fu,jV p0.next,.int .u32 p0.state]]) (Fj:Sl U 1 ft fu p0.bytes.length (hH KL.encB8 p0.bytes)) {r:wAD × (List (List Int)) × (List Int) × wAE} (hm:wBW p0 p1 p2 p3=some r):Gv Tryz.prog 5 [.pointer (some ⟨ab,0,none⟩),jV p1,jV p2,jV p3] w (wCW w [.blk ab 81 [.slice ft p0.bytes.length fu,jV p0.next,.int .u32 p0.state]] U (fun U_ L_ v=>∃ (lq:Option Addr) (oj:Nat) (lu:Option Addr) (ol:Nat) (lv:Option Addr) (om:Nat) (lw:Option Addr) (oq:Nat) (A1:Option Addr) (c1:Nat) (A2:Option Addr) (c2:Nat) (l6:Option Addr) (pB:Nat),v=.tuple #[.agg #[.slice lq r.1.Starts.length oj,.slice lu r.1.Splits.length ol,.slice lv r.1.Clocks.length om,.slice lw r.1.Readings.length oq],.slice A1 r.2.1.length c1,.slice A2 r.2.2.1.length c2]/\L_=[.row lq oj 3 1 (hH KL.encI r.1.Starts),.row lu ol 53 2 (hH wAL r.1.Splits),.row lv om 76 3 (hH wAA r.1.Clocks),.row lw oq 78 4 (hH wAJ r.1.Readings),.row A2 c2 3 1 (hH KL.encI r.2.2.1),.blk ab 81 [.slice l6 r.2.2.2.bytes.length pB,jV r.2.2.2.next,.int .u32 r.2.2.2.state]]/\SlR U_ wRt A1 c1 r.2.1/\Sl U_ 1 l6 pB r.2.2.2.bytes.length (hH KL.encB8 r.2.2.2.bytes))):=by
 unfold wBW at hm
 refine Gv.of Tryz.func5 Z Tryz.ntmps5 Tryz.results5 Z (sR gAj Z ?_)
 let B0:List Value:=[.slice none 0 0,.slice none 0 0,.slice none 0 0,.slice none 0 0]
 refine zW (cs:=B0) Z Z Z Z Z Tryz.zeroValue28 Z hS ?_
 intro W2 b3 Ez
 refine oA Z Z (oA Z Z (eN (sR (.fx 0 .nil .stop) Z (zW (cs:=B0) Z Z Z Z Z Tryz.zeroValue28 Z Ez ?_))))
 intro W6 b7 EU
 refine eN (sR fL1 Z (oA Z Z (eN (sR fL1 Z (oA Z Z (eN (zI (sR gAr Z (oM Z Z (oM Z Z ?_))))))))))
 have q:=bnd hm
 obtain ⟨⟨g7,j4⟩,Bj,rL⟩:=q
 try dsimp only at rL
 let B1:Res:=.blk ab 81 [.slice ft p0.bytes.length fu,jV p0.next,.int .u32 p0.state]
 have C1:SW w [B1] U U [B1,.blk b7 28 B0,.blk b3 28 B0] W6:=EU.pick [2,0,1] _ (by decide) rfl
 refine zM 1 Z Z Z Z (zK Z Z Tryz.call24 (zB Z (zB Z (zB Z zP))) Z) C1 (fun hs=>wAe p0 ab ft fu 1 p1 W6 U hs Fj Bj) (.inl Z) ?_
 rintro iJ Hn IN tC IA DP ⟨lQ,o7,rfl,rfl,BU⟩
 have El:SW w [B1] U iJ [.blk ab 81 [.slice lQ j4.bytes.length o7,jV j4.next,.int .u32 j4.state],.blk b7 28 B0,.blk b3 28 B0] tC:=DP
 refine oM Z Z (eN (zU ?_))
 have q:=bnd rL
 obtain ⟨⟨Hb,Hc,He,aZ⟩,Fv,r9⟩:=q
 try dsimp only at r9
 have q:=wBS Fv
 obtain ⟨jW,Fw⟩:=q
 replace jW:=zJ jW
 refine CK.forN' (fun fd (fj,lh,li,cO) σ_ w_=>∃ (U_:PHeap) (fS:Option Addr) (gF:Nat) (cZ:Option Addr) (dp:Nat),σ_ 28=jV (↑fd:Int)/\σ_ 0=.pointer (some ⟨ab,0,none⟩)/\σ_ 2=jV p2/\σ_ 3=jV p3/\σ_ 8=.pointer (some ⟨b3,0,none⟩)/\σ_ 11=.pointer (some ⟨b7,0,none⟩)/\σ_ 12=.slice none 0 0/\σ_ 13=.slice none 0 0/\σ_ 27=jV g7/\PHeap.Le iJ U_/\SW w [B1] U U_ [.blk ab 81 [.slice fS fj.length gF,jV lh,.int .u32 li],.row cZ dp 3 1 (hH KL.encI cO),.blk b7 28 [.slice cZ cO.length dp,.slice none 0 0,.slice none 0 0,.slice none 0 0],.blk b3 28 B0] w_/\Sl U_ 1 fS gF fj.length (hH KL.encB8 fj)) Fw ?_ ?_ ?_
 have EQ:=El.nilrow 3 1
 exact ⟨iJ,lQ,o7,none,0,rfl,rfl,rfl,rfl,rfl,rfl,rfl,rfl,rfl,(zL _),(EQ.pick [1,0,2,3] _ (by decide) rfl),BU⟩
 rintro fd ⟨fj,lh,li,cO⟩ Jf JI n8 jO ⟨s9,fS,gF,cZ,dp,qW,jr,A6,A7,A8,jt,A9,Ba,qU,GL,EY,CA⟩ ss
 try dsimp only at ss
 have pz:Hid ((↑fd:Int) < g7):=zJ (wBP jO)
 replace jO:=zJ jO
 have FJ:Hid (w64 ((↑fd:Int) + 1)=(↑(fd + 1):Int)):=zJ (by have h1:=jW.out;have h2:=pz.out;rw [wAa] <;> omega)
 refine sR fL1 rfl (zZ rfl rfl rfl rfl (fun _=>zO rfl qW qU) (eN (zI (cT Z pz (kN (zI (zU (zx zr [3,1004,3,1005,3,3,1005,3,2,0,3,0,ab] (wEU (.fl 5 (.fx 3 (.fl 4 (.fx 6 (.fl 7 (.fx 8 (.fx 9 (.fl 10 (.fx 11 .nil .stop)) .stop) .stop)) .stop)) .stop))) (by kernel_rfl) ?_))))))))
 have jC:=EY.drew
 generalize hw_W140:({ n8 with drawn:=n8.drawn + 1 }:World)=tj at jC ⊢
 refine oR Z (zH Z jt zQ Z zq) ?_
 let B2:Res:=.blk b7 28 [.slice cZ cO.length dp,.slice none 0 0,.slice none 0 0,.slice none 0 0]
 let B3:Res:=.row cZ dp 3 1 (hH KL.encI cO)
 refine OKS.mt (T:=[ab]) [0] [1,2,3] [B3,B2,.blk b3 28 B0] rfl rfl rfl rfl jC rfl ⟨⟨0,by decide,_,rfl,rfl⟩,trivial⟩ (by decide) rfl (by decide) (fun _ E9=>(E9.ldB (j:=1) rfl rfl rfl zw (v:=.slice cZ cO.length dp) rfl)) rfl (zN rfl rfl rfl rfl rfl jr (zN rfl rfl rfl rfl rfl jr ?_))
 have q:=bnd ss
 obtain ⟨⟨fw,g8⟩,Bq,rM⟩:=q
 try dsimp only at rM
 refine yn 1 rfl rfl rfl rfl (zK rfl rfl Zx (zB rfl (zB rfl zP)) rfl) jC (fun hs=>wAU (⟨fj,lh,li⟩:wAE) ab fS gF 4 tj s9 hs CA Bq) rfl (T:=[ab]) rfl ⟨fun b h=>(by cases h;exact .head _),trivial⟩ ?_
 rintro mJ Hm IK mW Gq C5 ⟨lD,oz,rfl,rfl,Br⟩
 have C8:SW w [B1] U mJ [.blk ab 81 [.slice lD g8.bytes.length oz,jV g8.next,.int .u32 g8.state],B3,B2,.blk b3 28 B0] mW:=C5
 refine oR Z (Runs.mulw Z Z Z) ?_
 have q:=bnd rM
 obtain ⟨⟨x156,x157⟩,Bs,rN⟩:=q
 try dsimp only at rN
 refine yn 1 rfl rfl rfl rfl (zK rfl rfl Zx (zB rfl (zB rfl zP)) rfl) C8 (fun hs=>wAU g8 ab lD oz 3 mW mJ hs Br Bs) rfl (T:=[ab]) rfl ⟨fun b h=>(by cases h;exact .head _),trivial⟩ ?_
 rintro dY Ho IL tz Gr Dj ⟨lG,oH,rfl,rfl,Bw⟩
 let B4:Res:=.blk ab 81 [.slice lG x157.bytes.length oH,jV x157.next,.int .u32 x157.state]
 have Dn:SW w [B1] U dY [B4,B3,B2,.blk b3 28 B0] tz:=Dj
 refine oR Z (zS Z Z Z) (zz (pv:=[(0,jV (w64 ((w64 (300 * fw)) + x156)))]) (zs:=[jV 0]) (cs:=[jV (w64 ((w64 (300 * fw)) + x156))]) Z Z Z Z Z (wAB Z wAT) zD zC ZG Z Z Z Z Z Dn ?_)
 intro tB ul Dq
 let B5:Res:=.row (some ⟨ul,0,none⟩) 1 3 1 (hH KL.encI [w64 ((w64 (300 * fw)) + x156)])
 have rA:SW w [B1] U dY [B5,B4,B3,B2,.blk b3 28 B0] tB:=Dq
 refine bnK rN fun g9 BB FK=>Zv (j:=2) (enc:=KL.encI) (xs:=cO) (ys:=[w64 ((w64 (300 * fw)) + x156)]) (zs:=g9) rfl rfl rfl rfl rfl yW wJk rfl rfl rfl rfl rfl rfl rA rfl rfl rfl (rA.srcR (j:=0) rfl (by decide) (wAF (f:=KL.encI) (sz:=1) (fun _=>rfl) [w64 ((w64 (300 * fw)) + x156)])) (fun _=>rfl) (fun _=>rfl) BB rfl ?_
 intro fM gz tD Dt
 let B6:Res:=.row fM gz 3 1 (hH KL.encI g9)
 have Du:SW w [B1] U dY [B5,B4,B6,B2,.blk b3 28 B0] tD:=Dt
 refine oR Z (zH Z jt zQ Z zq) (zY (j:=3) (vs:=[.slice fM g9.length gz]) Z Z Z Z Du Z Z Z Z zq (zA Z) Z Z Z ?_)
 intro tE Dv
 have Dw:SW w [B1] U dY [B5,B4,B6,.blk b7 28 [.slice fM g9.length gz,.slice none 0 0,.slice none 0 0,.slice none 0 0],.blk b3 28 B0] tE:=Dv
 refine zX (zj (zG (rR fL2 Z (oR Z (ZR (zS Z qW Z) (congrArg (jV) FJ.out)) (oM Z Z (zX ?_))))))
 cases FK
 exact zG ⟨rfl,⟨dY,lG,oH,fM,gz,rfl,jr,A6,A7,A8,jt,A9,Ba,qU,((GL.trans Gq).trans Gr),(Dw.pick [1,2,3,4] _ (by decide) rfl),Bw⟩⟩
 rintro Jz tI ⟨s6,sS,ux,bm,bn,Bc,qI,y9,z4,z5,z6,z7,z8,z9,IB,D7,BO⟩
 have uy:Hid (¬ ((↑((g7:Int) - 0).toNat:Int) < g7)):=zJ (wAv)
 refine sR fL1 Z (oR Z (zO Z Bc z9) (eN (zI (cF Z uy (ZP (zd (zd (ZJ (zG (zI (sR gAr Z (oM Z qI (oM Z y9 ?_)))))))))))))
 have q:=bnd r9
 obtain ⟨⟨ie,j7⟩,BR,rW⟩:=q
 try dsimp only at rW
 refine zM 1 Z Z Z Z (zK Z Z Zx (zB Z (zB Z zP)) Z) D7 (fun hs=>wAU (⟨Hb,Hc,He⟩:wAE) ab sS ux p2 tI s6 hs BO BR) (.inl Z) ?_
 rintro iR HA IZ tW IC Ej ⟨lS,o9,rfl,rfl,BV⟩
 let B7:Res:=.row bm bn 3 1 (hH KL.encI aZ)
 have Ek:SW w [B1] U iR [.blk ab 81 [.slice lS j7.bytes.length o9,jV j7.next,.int .u32 j7.state],B7,.blk b7 28 [.slice bm aZ.length bn,.slice none 0 0,.slice none 0 0,.slice none 0 0],.blk b3 28 B0] tW:=Ej
 refine oM Z Z (eN (zU ?_))
 have q:=bnd rW
 obtain ⟨⟨Jh,Ji,Jj,ba⟩,Fo,rX⟩:=q
 try dsimp only at rX
 have q:=wBS Fo
 obtain ⟨jR,Fp⟩:=q
 replace jR:=zJ jR
 refine CK.forN' (fun fc (ff,j8,j9,cN) σ_ w_=>∃ (U_:PHeap) (fP:Option Addr) (gC:Nat) (cY:Option Addr) (dm:Nat),σ_ 45=jV (↑fc:Int)/\σ_ 0=.pointer (some ⟨ab,0,none⟩)/\σ_ 3=jV p3/\σ_ 8=.pointer (some ⟨b3,0,none⟩)/\σ_ 11=.pointer (some ⟨b7,0,none⟩)/\σ_ 12=.slice none 0 0/\σ_ 13=.slice none 0 0/\σ_ 44=jV ie/\PHeap.Le iR U_/\SW w [B1] U U_ [.blk ab 81 [.slice fP ff.length gC,jV j8,.int .u32 j9],B7,.row cY dm 53 2 (hH wAL cN),.blk b7 28 [.slice bm aZ.length bn,.slice cY cN.length dm,.slice none 0 0,.slice none 0 0],.blk b3 28 B0] w_/\Sl U_ 1 fP gC ff.length (hH KL.encB8 ff)) Fp ?_ ?_ ?_
 have Em:=Ek.nilrow 53 2
 exact ⟨iR,lS,o9,none,0,rfl,qI,z4,z5,z6,z7,z8,rfl,(zL _),(Em.pick [1,2,0,3,4] _ (by decide) rfl),BV⟩
 rintro fc ⟨ff,j8,j9,cN⟩ Jc JC tX jL ⟨s7,fP,gC,cY,dm,qV,jp,Ae,Af,jq,Ag,Ah,qL,GE,En,BW⟩ sn
 try dsimp only at sn
 have pe:Hid ((↑fc:Int) < ie):=zJ (wBP jL)
 replace jL:=zJ jL
 have FF:Hid (w64 ((↑fc:Int) + 1)=(↑(fc + 1):Int)):=zJ (by have h1:=jR.out;have h2:=pe.out;rw [wAa] <;> omega)
 refine sR fL1 Z (oR Z (zO Z qV qL) (eN (zI (cT Z pe (kN (zI (zU (sR (.fl 0 gAk) Z (oM Z jp ?_)))))))))
 have q:=bnd sn
 obtain ⟨⟨bU,ig⟩,BX,rY⟩:=q
 try dsimp only at rY
 refine zM 1 Z Z Z Z (zK Z Z Tryz.call24 (zB Z (zB Z (zB Z zP))) Z) En (fun hs=>wAe (⟨ff,j8,j9⟩:wAE) ab fP gC 3 9 tX s7 hs BW BX) (.inl Z) ?_
 rintro mQ HB I0 iX GF Eo ⟨lT,pf,rfl,rfl,BY⟩
 let B8:Res:=.blk b7 28 [.slice bm aZ.length bn,.slice cY cN.length dm,.slice none 0 0,.slice none 0 0]
 let B9:Res:=.row cY dm 53 2 (hH wAL cN)
 have Ep:SW w [B1] U mQ [.blk ab 81 [.slice lT ig.bytes.length pf,jV ig.next,.int .u32 ig.state],B7,B9,B8,.blk b3 28 B0] iX:=Eo
 refine zZ rfl rfl rfl rfl (fun _=>Runs.mulw rfl rfl rfl) (yK rfl rfl rfl rfl rfl rfl (eN (zx zr [3,1004,3,3,3,1005,3,3,3,2,0,3,0,ab] (wDh (.fx 5 (fC6_8 (.fx 9 (.fx 10 (.fl 11 (.fx 12 .nil .stop)) .stop) .stop)) .stop)) (by kernel_rfl) ?_)))
 have jD:=Ep.drew
 generalize hw_W351:({ iX with drawn:=iX.drawn + 1 }:World)=tY at jD ⊢
 refine zZ rfl rfl rfl rfl (fun _=>zH rfl jq zQ rfl yF) (OKS.mt (T:=[ab]) [0] [1,2,3,4] [B7,B9,B8,.blk b3 28 B0] rfl rfl rfl rfl jD rfl ⟨⟨0,by decide,_,rfl,rfl⟩,trivial⟩ (by decide) rfl (by decide) (fun _ Fi=>(Fi.ldB (j:=2) rfl rfl rfl yQ (v:=.slice cY cN.length dm) rfl)) rfl (zN rfl rfl rfl rfl rfl rfl (zN rfl rfl rfl rfl rfl rfl (zN rfl rfl rfl rfl rfl jp ?_))))
 have q:=bnd rY
 obtain ⟨⟨fA,k9⟩,BZ,rZ⟩:=q
 try dsimp only at rZ
 refine yn 1 rfl rfl rfl rfl (zK rfl rfl Zx (zB rfl (zB rfl zP)) rfl) jD (fun hs=>wAU ig ab lT pf 30 tY mQ hs BY BZ) rfl (T:=[ab]) rfl ⟨fun b h=>(by cases h;exact .head _),trivial⟩ ?_
 rintro dZ HD I3 tZ GG Er ⟨lU,pg,rfl,rfl,Ca⟩
 let fU:Res:=.blk ab 81 [.slice lU k9.bytes.length pg,jV k9.next,.int .u32 k9.state]
 have Es:SW w [B1] U dZ [fU,B7,B9,B8,.blk b3 28 B0] tZ:=Er
 refine oR Z (Runs.mulw Z Z Z) (oR Z (zS Z Z Z) ?_)
 let iz:List Value:=[jV (w64 (100 * bU)),jV (w64 ((w64 (100 * bU)) + (w64 (10 * fA))))]
 refine oR Z (zt (pv:=[(0,jV (w64 (100 * bU))),(1,jV (w64 ((w64 (100 * bU)) + (w64 (10 * fA)))))]) (z:=[jV 0,jV 0]) (cs:=iz) Z (wAB Z (wAB Z wAT)) Zj wEz Z Z) (zz (pv:=[(0,.agg iz.toArray)]) (zs:=[jV 0,jV 0]) (cs:=iz) Z Z Z Z Z (wAB Z wAT) ZY ZN Zj Z Z Z Z Z Es ?_)
 intro t7 ur Et
 let iA:Res:=.row (some ⟨ur,0,none⟩) 1 53 2 (hH wAL [(⟨w64 (100 * bU),w64 ((w64 (100 * bU)) + (w64 (10 * fA)))⟩:wAG)])
 have rG:SW w [B1] U dZ [iA,fU,B7,B9,B8,.blk b3 28 B0] t7:=Et
 refine bnK rZ fun ii Cb FU=>Zv (j:=3) (enc:=wAL) (xs:=cN) (ys:=[(⟨w64 (100 * bU),w64 ((w64 (100 * bU)) + (w64 (10 * fA)))⟩:wAG)]) (zs:=ii) rfl rfl rfl rfl rfl Tryz.underlying24 wQi rfl rfl rfl rfl rfl rfl rG rfl rfl rfl (rG.srcR (j:=0) rfl (by decide) (wAF (f:=wAL) (sz:=2) (fun _=>rfl) [(⟨w64 (100 * bU),w64 ((w64 (100 * bU)) + (w64 (10 * fA)))⟩:wAG)])) (fun _=>rfl) (fun _=>rfl) Cb rfl ?_
 intro fQ gD t8 Eu
 let ma:Res:=.row fQ gD 53 2 (hH wAL ii)
 have Ev:SW w [B1] U dZ [iA,fU,B7,ma,B8,.blk b3 28 B0] t8:=Eu
 refine oR Z (zH Z jq zQ Z yF) (zY (j:=4) (vs:=[.slice fQ ii.length gD]) Z Z Z Z Ev Z Z Z Z yF (zA Z) Z Z Z ?_)
 intro t9 Ew
 have Ey:SW w [B1] U dZ [iA,fU,B7,ma,.blk b7 28 [.slice bm aZ.length bn,.slice fQ ii.length gD,.slice none 0 0,.slice none 0 0],.blk b3 28 B0] t9:=Ew
 refine zX (zj (zG (rR fL2 Z (oR Z (ZR (zS Z qV Z) (congrArg (jV) FF.out)) (oM Z Z (zX ?_))))))
 cases FU
 exact zG ⟨rfl,⟨dZ,lU,pg,fQ,gD,rfl,jp,Ae,Af,jq,Ag,Ah,qL,((GE.trans GF).trans GG),(Ey.pick [1,2,3,4,5] _ (by decide) rfl),Ca⟩⟩
 rintro JD H2 ⟨mR,sT,uA,bt,bu,Be,Ai,Aj,Ak,qM,Al,Am,An,ID,rH,Cc⟩
 have uB:Hid (¬ ((↑((ie:Int) - 0).toNat:Int) < ie)):=zJ (wAv)
 refine sR fL1 Z (oR Z (zO Z Be An) (eN (zI (cF Z uB (ZP (zd (zd (ZJ (zG (zI (sR fL4 Z (oR Z (zH Z qM zQ Z zq) (oL Z (rH.ldB (j:=3) Z Z Z zw (v:=.slice bm aZ.length bn) Z) (oR Z (ZA Z Z zD) (oM Z Z (eN (zU ?_)))))))))))))))))
 have q:=bnd rX
 obtain ⟨⟨GW,GX,GY,bA⟩,Fq,r6⟩:=q
 try dsimp only at r6
 have q:=wBS Fq
 obtain ⟨jS,Fs⟩:=q
 replace jS:=zJ jS
 let bJ:Res:=.blk b7 28 [.slice bm aZ.length bn,.slice bt ba.length bu,.slice none 0 0,.slice none 0 0]
 refine CK.forN' (fun cj (fg,lc,lf,fh) σ_ w_=>∃ (U_:PHeap) (dR:Option Addr) (eO:Nat) (dS:Option Addr) (eQ:Nat) (gH:List Value),σ_ 66=jV (↑cj:Int)/\σ_ 0=.pointer (some ⟨ab,0,none⟩)/\σ_ 3=jV p3/\σ_ 8=.pointer (some ⟨b3,0,none⟩)/\σ_ 11=.pointer (some ⟨b7,0,none⟩)/\σ_ 12=.slice dS fh.length eQ/\σ_ 13=.slice none 0 0/\σ_ 64=.slice bm aZ.length bn/\σ_ 65=jV (↑aZ.length:Int)/\PHeap.Le mR U_/\SW w [B1] U U_ [.blk ab 81 [.slice dR fg.length eO,jV lc,.int .u32 lf],.row bm bn 3 1 (hH KL.encI aZ),.row bt bu 53 2 (hH wAL ba),bJ,.blk b3 28 B0,.row dS eQ 23 1 gH] w_/\Sl U_ 1 dR eO fg.length (hH KL.encB8 fg)/\RlL U_ wRt fh gH) Fs ?_ ?_ ?_
 have EA:=rH.nilrow 23 1
 exact ⟨mR,sT,uA,none,0,[],rfl,Ai,Aj,Ak,qM,Al,Am,rfl,rfl,(zL _),(EA.pick [1,2,3,4,5,0] _ (by decide) rfl),Cc,RlL.nil⟩
 rintro cj ⟨fg,lc,lf,fh⟩ Jd JE H3 jM ⟨iT,dR,eO,dS,eQ,gH,ju,Ao,Ap,Aq,qN,Ar,As,qO,qP,GH,jE,Cd,Ce⟩ so
 try dsimp only at so
 have ph:Hid ((↑cj:Int) < (↑aZ.length:Int)):=zJ (wBP jM)
 replace jM:=zJ jM
 have FG:Hid (w64 ((↑cj:Int) + 1)=(↑(cj + 1):Int)):=zJ (by have h1:=jS.out;have h2:=ph.out;rw [wAa] <;> omega)
 refine sR fL1 Z (oR Z (zO Z ju qP) (eN (zI (cT Z ph (kN (zI (zU (sR fL3 Z (bnK so fun _ jy FV=>?_)))))))))
 obtain ⟨Ic,rn⟩:=jE.rowSome (j:=1) rfl (by rw [wAF (f:=KL.encI) (sz:=1) (fun _=>rfl) aZ];have hz:=wAP jy;omega)
 refine oR Z (Zp Z qO rn ju zD zC (wAP jy)) ?_
 have FC:=wAy (xs:=aZ) (wAP jy)
 refine ZF rfl rfl rfl rfl (jE.ldR (j:=1) rfl rn rfl rfl zE (wAR (sz:=1) (fun _=>rfl) _ _ 0 _ FC (by first | omega | rfl | simp) rfl)) rfl (yK rfl rfl rfl rfl rfl rfl (eN (sR gAl rfl (zN rfl rfl rfl rfl rfl rfl (zz (pv:=[(0,jV (gd aZ cj))]) (zs:=[jV 0]) (cs:=[jV (gd aZ cj)]) rfl rfl rfl rfl rfl (wAB rfl wAT) zD zC ZG rfl rfl rfl rfl rfl jE ?_)))))
 intro ua oi EB
 let bQ:Res:=.row bt bu 53 2 (hH wAL ba)
 let bW:Res:=.row dS eQ 23 1 gH
 have rI:SW w [B1] U iT [.row (some ⟨oi,0,none⟩) 1 3 1 (hH KL.encI [(gd aZ cj)]),.blk ab 81 [.slice dR fg.length eO,jV lc,.int .u32 lf],B7,bQ,bJ,.blk b3 28 B0,bW] ua:=EB
 refine oA Z Z (eN (zI (sR fL4 Z (oR Z (zH Z qN zQ Z yF) (oL Z (rI.ldB (j:=4) Z Z Z yQ (v:=.slice bt ba.length bu) Z) (oR Z (ZA Z Z ZY) (oM Z Z (eN (zU ?_)))))))))
 have q:=bnd FV
 obtain ⟨⟨GZ,G0,Ha,Jk,cS⟩,Ft,r7⟩:=q
 try dsimp only at r7
 have q:=wBS Ft
 obtain ⟨jU,Fu⟩:=q
 replace jU:=zJ jU
 refine CK.forN' (fun bO (dx,ij,ik,cQ,fm) σ_ w_=>∃ (U_:PHeap) (dT:Option Addr) (eU:Nat) (fR:Option Addr) (gE:Nat),σ_ 75=jV (↑bO:Int)/\σ_ 0=.pointer (some ⟨ab,0,none⟩)/\σ_ 3=jV p3/\σ_ 8=.pointer (some ⟨b3,0,none⟩)/\σ_ 11=.pointer (some ⟨b7,0,none⟩)/\σ_ 12=.slice dS fh.length eQ/\σ_ 13=.slice none 0 0/\σ_ 16=jV cQ/\σ_ 17=.slice fR fm.length gE/\σ_ 64=.slice bm aZ.length bn/\σ_ 65=jV (↑aZ.length:Int)/\σ_ 66=jV (↑cj:Int)/\σ_ 73=.slice bt ba.length bu/\σ_ 74=jV (↑ba.length:Int)/\PHeap.Le iT U_/\SW w [B1] U U_ [.blk ab 81 [.slice dT dx.length eU,jV ij,.int .u32 ik],B7,bQ,bJ,.blk b3 28 B0,bW,.row fR gE 3 1 (hH KL.encI fm)] w_/\Sl U_ 1 dT eU dx.length (hH KL.encB8 dx)) Fu ?_ ?_ ?_
 exact ⟨iT,dR,eO,(some ⟨oi,0,none⟩),1,rfl,Ao,Ap,Aq,qN,Ar,As,rfl,rfl,qO,qP,ju,rfl,rfl,(zL _),(rI.pick [1,2,3,4,5,6,0] _ (by decide) rfl),Cd⟩
 rintro bO ⟨dx,ij,ik,cQ,fm⟩ Je JF H4 jN ⟨iU,dT,eU,fR,gE,jv,qQ,Au,Av,Aw,Ax,Ay,Az,AA,AD,AE,AG,qR,qS,GI,jG,Cf⟩ sq
 try dsimp only at sq
 have pj:Hid ((↑bO:Int) < (↑ba.length:Int)):=zJ (wBP jN)
 replace jN:=zJ jN
 have FH:Hid (w64 ((↑bO:Int) + 1)=(↑(bO + 1):Int)):=zJ (by have h1:=jU.out;have h2:=pj.out;rw [wAa] <;> omega)
 refine sR fL1 Z (oR Z (zO Z jv qS) (eN (zI (cT Z pj (kN (zI (zU (sR gAs Z (bnK sq fun _ jz FW=>?_)))))))))
 obtain ⟨Ie,ro⟩:=jG.rowSome (j:=2) rfl (by rw [wAF (f:=wAL) (sz:=2) (fun _=>rfl) ba];have hz:=wAP jz;omega)
 refine oR Z (Zp Z qR ro jv ZY ZN (wAP jz)) ?_
 have FD:=wAy (xs:=ba) (wAP jz)
 let cD:List Value:=[jV ((gd ba bO).Lo),jV ((gd ba bO).Hi)]
 refine ZF rfl rfl rfl rfl (jG.ldRA (j:=2) rfl ro rfl rfl yR ZN (vs:=cD) (wKM (sz:=2) (fun _=>rfl) _ _ _ FD (by first | omega | rfl | simp) rfl) rfl) rfl (zW (cs:=[jV 0,jV 0]) rfl rfl rfl rfl rfl Zj rfl jG ?_)
 intro H5 ec EC
 refine zY (j:=0) (vs:=cD) Z Z Z Z EC Z Z Z Z ZN (zA Z) Z Z Z ?_
 intro iY ED
 let fV:Res:=.row fR gE 3 1 (hH KL.encI fm)
 let mb:Res:=.blk ab 81 [.slice dT dx.length eU,jV ij,.int .u32 ik]
 have jH:SW w [B1] U iU [.blk ec 53 cD,mb,B7,bQ,bJ,.blk b3 28 B0,bW,fV] iY:=ED
 refine eN (sR (wLJ gAi) Z (oM Z Az (oM Z qQ (oR Z (zH Z Z ZL Z zC) (oL Z (jH.ldB (j:=0) Z Z Z zE (v:=jV ((gd ba bO).Lo)) Z) (oR Z (zH Z Z ZL Z zC) (oL Z (jH.ldB (j:=0) Z Z Z zE (v:=jV ((gd ba bO).Hi)) Z) ?_)))))))
 have q:=bnd FW
 obtain ⟨⟨fB,lj⟩,Cg,r8⟩:=q
 try dsimp only at r8
 have EE:SW w [B1] U iU [mb,.blk ec 53 cD,B7,bQ,bJ,.blk b3 28 B0,bW,fV] iY:=jH.pick [1,0,2,3,4,5,6,7] _ (by decide) rfl
 refine zM 1 Z Z Z Z (zK Z Z Tryz.call24 (zB Z (zB Z (zB Z zP))) Z) EE (fun hs=>wAe (⟨dx,ij,ik⟩:wAE) ab dT eU ((gd ba bO).Lo) ((gd ba bO).Hi) iY iU hs Cf Cg) (.inl Z) ?_
 rintro gh HF I4 ub GJ EF ⟨lV,pk,rfl,rfl,Ch⟩
 let iB:Res:=.blk ab 81 [.slice lV lj.bytes.length pk,jV lj.next,.int .u32 lj.state]
 have EG:SW w [B1] U gh [iB,.blk ec 53 cD,B7,bQ,bJ,.blk b3 28 B0,bW,fV] ub:=EF
 refine oR Z (zS Z Z Z) (oA Z Z (eN (rR gAv Z (oM Z AA (oM Z Z (zz (pv:=[(0,jV (w64 (cQ + fB)))]) (zs:=[jV 0]) (cs:=[jV (w64 (cQ + fB))]) Z Z Z Z Z (wAB Z wAT) zD zC ZG Z Z Z Z Z EG ?_))))))
 intro uc ut EH
 let mc:Res:=.row (some ⟨ut,0,none⟩) 1 3 1 (hH KL.encI [w64 (cQ + fB)])
 have rJ:SW w [B1] U gh [mc,iB,.blk ec 53 cD,B7,bQ,bJ,.blk b3 28 B0,bW,fV] uc:=EH
 refine bnK r8 fun sO Ci FX=>Zv (j:=8) (enc:=KL.encI) (xs:=fm) (ys:=[w64 (cQ + fB)]) (zs:=sO) rfl rfl rfl rfl rfl yW wJk rfl rfl rfl rfl rfl rfl rJ rfl rfl rfl (rJ.srcR (j:=0) rfl (by decide) (wAF (f:=KL.encI) (sz:=1) (fun _=>rfl) [w64 (cQ + fB)])) (fun _=>rfl) (fun _=>rfl) Ci rfl ?_
 intro lW pm ud EI
 have EJ:SW w [B1] U gh [mc,iB,.blk ec 53 cD,B7,bQ,bJ,.blk b3 28 B0,bW,.row lW pm 3 1 (hH KL.encI sO)] ud:=EI
 refine oA Z Z (zX (zj (zG (rR fL2 Z (oR Z (ZR (zS Z jv Z) (congrArg (jV) FH.out)) (oM Z Z (zX ?_)))))))
 cases FX
 exact zG ⟨rfl,⟨gh,lV,pk,lW,pm,rfl,qQ,Au,Av,Aw,Ax,Ay,rfl,rfl,AD,AE,AG,qR,qS,(GI.trans GJ),(EJ.pick [1,3,4,5,6,7,8] _ (by decide) rfl),Ch⟩⟩
 rintro JG ue ⟨HK,lX,pn,iv,je,Bf,AI,AJ,AL,AM,AN,AP,Ix,AQ,AS,AT,AU,Iy,AW,sH,EK,Cj⟩
 have uC:Hid (¬ ((↑(((↑ba.length:Int):Int) - 0).toNat:Int) < (↑ba.length:Int))):=zJ (wAv)
 refine sR fL1 Z (oR Z (zO Z Bf AW) (eN (zI (cF Z uC (ZP (zd (zd (ZJ (zG (rR gAv Z (oM Z AN (oM Z AQ ?_))))))))))))
 have q:=EK.freezeR (k:=6) (n:=cS.length) rfl (wAF (f:=KL.encI) (sz:=1) (fun _=>rfl) cS) (by decide)
 obtain ⟨d5,j0,F6,EM⟩:=q
 let iC:Res:=.blk ab 81 [.slice lX GZ.length pn,jV G0,.int .u32 Ha]
 have EN:SW w [B1] U d5 [iC,B7,bQ,bJ,.blk b3 28 B0,bW] ue:=EM
 let fW:List Value:=[.slice iv cS.length je]
 refine zz (pv:=[(0,.slice iv cS.length je)]) (zs:=[.slice none 0 0]) (cs:=fW) Z Z Z Z Z (wAB Z wAT) ZV zq Tryz.zeroValue23 Z Z Z Z Z EN ?_
 intro uf uu EL
 have sj:RlL d5 wRt [cS] fW:=(RlL.cons (R:=wRt) (x:=cS) (vs:=fW) ⟨iv,je,rfl,F6⟩ RlL.nil)
 let md:Res:=.row (some ⟨uu,0,none⟩) 1 23 1 fW
 have rK:SW w [B1] U d5 [md,iC,B7,bQ,bJ,.blk b3 28 B0,bW] uf:=EL
 refine bnK r7 fun GS Ck FZ=>?_
 have Cm:=Ce.le sH
 have Cn:=Cm.le j0
 refine OKS.appendR (R:=wRt) (j:=6) (xs:=fh) (ys:=[cS]) (zs:=GS) rfl rfl rfl rfl rfl Tryz.underlying29 wQh rfl rfl rfl rfl rfl rfl rfl rK rfl rfl rfl Cn sj (rK.srcR (j:=0) rfl (by decide) (RlL.len sj)) Ck rfl ?_
 intro lY po pC ug EO F5
 have EP:SW w [B1] U d5 [md,iC,B7,bQ,bJ,.blk b3 28 B0,.row lY po 23 1 pC] ug:=EO
 refine oA Z Z (zX (zj (zG (rR fL2 Z (oR Z (ZR (zS Z AU Z) (congrArg (jV) FG.out)) (oM Z Z (zX ?_)))))))
 cases FZ
 have Co:=Cj.le j0
 exact zG ⟨rfl,⟨d5,lX,pn,lY,po,pC,rfl,AI,AJ,AL,AM,rfl,AP,AS,AT,((GH.trans sH).trans j0),(EP.pick [1,2,3,4,5,6] _ (by decide) rfl),Co,F5⟩⟩
 rintro JH uh ⟨s8,sU,uD,bq,br,uE,Bg,qT,AX,AY,AZ,A3,A4,Iz,A5,IE,ER,Cp,Cq⟩
 have uF:Hid (¬ ((↑(((↑aZ.length:Int):Int) - 0).toNat:Int) < (↑aZ.length:Int))):=zJ (wAv)
 refine sR fL1 Z (oR Z (zO Z Bg A5) (eN (zI (cF Z uF (ZP (zd (zd (ZJ (zG (zI (sR gAl Z (oM Z qT ?_))))))))))))
 have q:=bnd r6
 obtain ⟨⟨bC,lm⟩,Cr,sb⟩:=q
 try dsimp only at sb
 refine zM 1 Z Z Z Z (zK Z Z Tryz.call24 (zB Z (zB Z (zB Z zP))) Z) ER (fun hs=>wAe (⟨GW,GX,GY⟩:wAE) ab sU uD 1 3 uh s8 hs Cp Cr) (.inl Z) ?_
 rintro iV HG I5 ui GK ES ⟨lZ,pp,rfl,rfl,Cs⟩
 let ap:Res:=.row bt bu 53 2 (hH wAL ba)
 let aV:Res:=.row bq br 23 1 uE
 have ET:SW w [B1] U iV [.blk ab 81 [.slice lZ lm.bytes.length pp,jV lm.next,.int .u32 lm.state],B7,ap,bJ,.blk b3 28 B0,aV] ui:=ES
 refine oM Z Z (eN (zU ?_))
 have q:=bnd sb
 obtain ⟨⟨Hf,Hh,Hj,bB,bF⟩,Fx,sc⟩:=q
 try dsimp only at sc
 have q:=wBS Fx
 obtain ⟨jX,Fy⟩:=q
 replace jX:=zJ jX
 refine CK.forN' (fun bv (fq,ln,lp,bE,bi) σ_ w_=>∃ (U_:PHeap) (fT:Option Addr) (gG:Nat) (bP:Option Addr) (bR:Nat) (bj:Option Addr) (bk:Nat),σ_ 99=jV (↑bv:Int)/\σ_ 0=.pointer (some ⟨ab,0,none⟩)/\σ_ 3=jV p3/\σ_ 8=.pointer (some ⟨b3,0,none⟩)/\σ_ 11=.pointer (some ⟨b7,0,none⟩)/\σ_ 12=.slice bq bA.length br/\σ_ 13=.slice bj bi.length bk/\σ_ 98=jV bC/\PHeap.Le iV U_/\SW w [B1] U U_ [.blk ab 81 [.slice fT fq.length gG,jV ln,.int .u32 lp],B7,ap,.row bP bR 76 3 (hH wAA bE),.blk b7 28 [.slice bm aZ.length bn,.slice bt ba.length bu,.slice bP bE.length bR,.slice none 0 0],.blk b3 28 B0,aV,.row bj bk 3 1 (hH KL.encI bi)] w_/\Sl U_ 1 fT gG fq.length (hH KL.encB8 fq)) Fy ?_ ?_ ?_
 have EV:=ET.nilrow 76 3
 have EW:=EV.nilrow 3 1
 exact ⟨iV,lZ,pp,none,0,none,0,rfl,qT,AX,AY,AZ,A3,A4,rfl,(zL _),(EW.pick [2,3,4,1,5,6,7,0] _ (by decide) rfl),Cs⟩
 rintro bv ⟨fq,ln,lp,bE,bi⟩ Jg JJ uj jP ⟨tc,fT,gG,bP,bR,bj,bk,cf,bL,cu,cw,bS,cx,cb,cd,GM,EX,Ct⟩ su
 try dsimp only at su
 have pq:Hid ((↑bv:Int) < bC):=zJ (wBP jP)
 replace jP:=zJ jP
 have FI:Hid (w64 ((↑bv:Int) + 1)=(↑(bv + 1):Int)):=zJ (by have h1:=jX.out;have h2:=pq.out;rw [wAa] <;> omega)
 refine sR fL1 Z (oR Z (zO Z cf cd) (eN (zI (cT Z pq (kN (zI (zU (sR gAl Z (oM Z bL ?_)))))))))
 have q:=bnd su
 obtain ⟨⟨aa,il⟩,Cu,sd⟩:=q
 try dsimp only at sd
 refine zM 1 Z Z Z Z (zK Z Z Tryz.call24 (zB Z (zB Z (zB Z zP))) Z) EX (fun hs=>wAe (⟨fq,ln,lp⟩:wAE) ab fT gG (-60) 20 uj tc hs Ct Cu) (.inl Z) ?_
 rintro mS HH I6 n9 GN EZ ⟨l4,pu,rfl,rfl,Cv⟩
 let bb:Res:=.blk b7 28 [.slice bm aZ.length bn,.slice bt ba.length bu,.slice bP bE.length bR,.slice none 0 0]
 let bg:Res:=.row bj bk 3 1 (hH KL.encI bi)
 let bK:Res:=.row bP bR 76 3 (hH wAA bE)
 have E1:SW w [B1] U mS [.blk ab 81 [.slice l4 il.bytes.length pu,jV il.next,.int .u32 il.state],B7,ap,bK,bb,.blk b3 28 B0,aV,bg] n9:=EZ
 refine oA Z Z (eN (sR (wEU (.fx 3 (fC4_6 (.fx 7 (.fl 8 (.fx 9 (.fx 10 .nil .stop) .stop)) .stop)) .stop)) Z (oM Z Z (oM Z Z (oM Z bL ?_)))))
 have q:=bnd sd
 obtain ⟨⟨aq,im⟩,Cw,sf⟩:=q
 try dsimp only at sf
 refine zM 1 Z Z Z Z (zK Z Z Zx (zB Z (zB Z zP)) Z) E1 (fun hs=>wAU il ab l4 pu 50 n9 mS hs Cv Cw) (.inl Z) ?_
 rintro mT HI I7 oa GO E2 ⟨l5,py,rfl,rfl,Cx⟩
 have E3:SW w [B1] U mT [.blk ab 81 [.slice l5 im.bytes.length py,jV im.next,.int .u32 im.state],B7,ap,bK,bb,.blk b3 28 B0,aV,bg] oa:=E2
 refine oR Z (zS Z Z Z) ?_
 let me:List Value:=[jV aa,jV (w64 (aa + aq))]
 refine oR Z (zt (pv:=[(0,jV aa),(1,jV (w64 (aa + aq)))]) (z:=[jV 0,jV 0]) (cs:=me) Z (wAB Z (wAB Z wAT)) Zj wEz Z Z) (oM Z bL ?_)
 have q:=bnd sf
 obtain ⟨⟨az,fC⟩,Cy,sg⟩:=q
 try dsimp only at sg
 refine zM 1 Z Z Z Z (zK Z Z Zx (zB Z (zB Z zP)) Z) E3 (fun hs=>wAU im ab l5 py 6 oa mT hs Cx Cy) (.inl Z) ?_
 rintro bh HJ I8 uk GP E4 ⟨iw,jf,rfl,rfl,ri⟩
 let bo:Res:=.blk ab 81 [.slice iw fC.bytes.length jf,jV fC.next,.int .u32 fC.state]
 have E5:SW w [B1] U bh [bo,B7,ap,bK,bb,.blk b3 28 B0,aV,bg] uk:=E4
 let av:List Value:=[jV aa,jV (w64 (aa + aq)),jV az]
 let da:List Value:=[jV 0,jV 0,jV 0]
 refine oR Z (zt (pv:=[(0,.agg me.toArray),(1,jV az)]) (z:=da) (cs:=av) Z (wAB Z (wAB Z wAT)) yZ wPl Z Z) (zW (cs:=da) Z Z Z Z Z yZ Z E5 ?_)
 intro H6 aj E6
 refine zY (j:=0) (vs:=av) Z Z Z Z E6 Z Z Z Z Zs (zA Z) Z Z Z ?_
 intro iZ E7
 have E8:SW w [B1] U bh [.blk aj 76 av,bo,B7,ap,bK,bb,.blk b3 28 B0,aV,bg] iZ:=E7
 refine eN (bnK sg fun aY gP F0=>?_)
 have q:=bnd F0
 obtain ⟨⟨bz,aU⟩,rj,sh⟩:=q
 try dsimp only at sh
 refine bnK sh fun cR Cz F1=>zx zr [3,1,1,2,0,3,3,3,3,2,3,3,2,0,2,0,3,0,3] (wEU (wUR (.fl 10 (.fl 11 (.fx 3 (.fx 4 (.fl 16 (.fx 9 gAx (.fx 12 gAy .stop))) (.fx 9 gBb (.fx 12 gBc .stop))) (.fx 9 (.fx 3 gBb (.fx 12 gBa .stop)) (.fx 12 (.fx 3 gBc (.fx 9 gBa .stop)) .stop))))))) (by kernel_rfl) ?_
 have bM:=E8.drew
 generalize hw_W923:({ iZ with drawn:=iZ.drawn + 1 }:World)=H7 at bM ⊢
 refine ZC (s:=.fl 18 .nil) (M:=fun σ_ w_=>∃ (U_:PHeap) (fD:Option Addr) (gj:Nat) (dA:Option Addr) (ef:Nat) (io:Option Addr) (i7:Nat) (ip:Option Addr) (i8:Nat) (fE:Option Addr) (gm:Nat),σ_ 0=.pointer (some ⟨ab,0,none⟩)/\σ_ 3=jV p3/\σ_ 8=.pointer (some ⟨b3,0,none⟩)/\σ_ 11=.pointer (some ⟨b7,0,none⟩)/\σ_ 12=.slice bq bA.length br/\σ_ 21=.pointer (some ⟨aj,0,none⟩)/\σ_ 98=jV bC/\σ_ 99=jV (↑bv:Int)/\σ_ 112=.pointer (some ⟨b7,2,none⟩)/\σ_ 114=.agg av.toArray/\σ_ 115=.slice io ([(⟨(⟨aa,w64 (aa + aq)⟩:wAG),az⟩:wAH)].length) i7/\σ_ 116=.slice dA aY.length ef/\σ_ 118=.pointer (some ⟨ab,0,none⟩)/\σ_ 119=.pointer (some ⟨aj,0,none⟩)/\σ_ 120=.pointer (some ⟨aj,0,none⟩)/\σ_ 121=jV aa/\σ_ 122=.pointer (some ⟨aj,0,none⟩)/\σ_ 123=.pointer (some ⟨aj,1,none⟩)/\σ_ 124=jV (w64 (aa + aq))/\σ_ 125=jV bz/\σ_ 126=.slice ip ([bz].length) i8/\σ_ 127=.slice fE cR.length gm/\σ_ 128=.pointer (some ⟨b7,2,none⟩)/\PHeap.Le bh U_/\SW w [B1] U U_ [.blk ab 81 [.slice fD aU.bytes.length gj,jV aU.next,.int .u32 aU.state],.blk aj 76 av,B7,ap,.row dA ef 76 3 (hH wAA aY),.blk b7 28 [.slice bm aZ.length bn,.slice bt ba.length bu,.slice dA aY.length ef,.slice none 0 0],.blk b3 28 B0,aV,.row io i7 76 3 (hH wAA [(⟨(⟨aa,w64 (aa + aq)⟩:wAG),az⟩:wAH)]),.row ip i8 3 1 (hH KL.encI [bz]),.row fE gm 3 1 (hH KL.encI cR)] w_/\Sl U_ 1 fD gj aU.bytes.length (hH KL.encB8 aU.bytes)) ?_ fun F8=>?_
 rintro Jl HM ⟨sV,fD,gj,dA,ef,io,i7,ip,i8,fE,gm,uG,uH,uI,uJ,uK,If,uL,uM,Ig,Ih,Ii,Ij,Ik,Il,Im,Io,Ip,Iq,Ir,Is,It,uN,Iu,Ge,CI,Bh⟩
 refine oA Z uN (zX (zj (zG (rR fL2 Z (oR Z (ZR (zS Z uM Z) (congrArg (jV) FI.out)) (oM Z Z (zX ?_)))))))
 cases F1
 exact zG ⟨rfl,⟨sV,fD,gj,dA,ef,fE,gm,rfl,uG,uH,uI,uJ,uK,rfl,uL,((((GM.trans GN).trans GO).trans GP).trans Ge),(CI.pick [0,2,3,4,5,6,7,10] _ (by decide) rfl),Bh⟩⟩
 refine ZC (s:=gAg) (M:=fun σ_ w_=>∃ (U_:PHeap) (dB:Option Addr) (eg:Nat) (dC:Option Addr) (eh:Nat) (cC:Option Addr) (cG:Nat) (dD:Option Addr) (en:Nat) (dE:Option Addr) (eu:Nat),σ_ 0=.pointer (some ⟨ab,0,none⟩)/\σ_ 3=jV p3/\σ_ 8=.pointer (some ⟨b3,0,none⟩)/\σ_ 11=.pointer (some ⟨b7,0,none⟩)/\σ_ 12=.slice bq bA.length br/\σ_ 21=.pointer (some ⟨aj,0,none⟩)/\σ_ 98=jV bC/\σ_ 99=jV (↑bv:Int)/\σ_ 112=.pointer (some ⟨b7,2,none⟩)/\σ_ 114=.agg av.toArray/\σ_ 115=.slice dC ([(⟨(⟨aa,w64 (aa + aq)⟩:wAG),az⟩:wAH)].length) eh/\σ_ 116=.slice cC aY.length cG/\σ_ 118=.pointer (some ⟨ab,0,none⟩)/\σ_ 119=.pointer (some ⟨aj,0,none⟩)/\σ_ 120=.pointer (some ⟨aj,0,none⟩)/\σ_ 121=jV aa/\σ_ 122=.pointer (some ⟨aj,0,none⟩)/\σ_ 123=.pointer (some ⟨aj,1,none⟩)/\σ_ 124=jV (w64 (aa + aq))/\σ_ 125=jV bz/\σ_ 126=.slice dD ([bz].length) en/\σ_ 127=.slice dE cR.length eu/\σ_ 128=.pointer (some ⟨b7,2,none⟩)/\PHeap.Le bh U_/\SW w [B1] U U_ [.blk ab 81 [.slice dB aU.bytes.length eg,jV aU.next,.int .u32 aU.state],.blk aj 76 av,B7,ap,bb,.blk b3 28 B0,aV,.row dC eh 76 3 (hH wAA [(⟨(⟨aa,w64 (aa + aq)⟩:wAG),az⟩:wAH)]),.row cC cG 76 3 (hH wAA aY),.row dD en 3 1 (hH KL.encI [bz]),.row dE eu 3 1 (hH KL.encI cR)] w_/\Sl U_ 1 dB eg aU.bytes.length (hH KL.encB8 aU.bytes)) ?_ fun F9=>?_
 rintro Jm HN ⟨mB,dB,eg,dC,eh,cC,cG,dD,en,dE,eu,uO,uP,uQ,uR,uS,uT,uU,uV,uW,uX,uY,pD,uZ,u0,u3,u4,u5,u6,u7,u9,va,vb,pE,Gf,CJ,Bi⟩
 refine zY (j:=4) (vs:=[.slice cC aY.length cG]) Z Z Z Z CJ Z pE pD Z Zn (zA Z) Z Z Z ?_
 intro td CL
 have CM:SW w [B1] U mB [.blk ab 81 [.slice dB aU.bytes.length eg,jV aU.next,.int .u32 aU.state],.blk aj 76 av,B7,ap,.blk b7 28 [.slice bm aZ.length bn,.slice bt ba.length bu,.slice cC aY.length cG,.slice none 0 0],.blk b3 28 B0,aV,.row dC eh 76 3 (hH wAA [(⟨(⟨aa,w64 (aa + aq)⟩:wAG),az⟩:wAH)]),.row cC cG 76 3 (hH wAA aY),.row dD en 3 1 (hH KL.encI [bz]),.row dE eu 3 1 (hH KL.encI cR)] td:=CL
 exact F8 _ _ ⟨mB,dB,eg,cC,cG,dC,eh,dD,en,dE,eu,uO,uP,uQ,uR,uS,uT,uU,uV,uW,uX,uY,pD,uZ,u0,u3,u4,u5,u6,u7,u9,va,vb,pE,Gf,(CM.pick [0,1,2,3,8,4,5,6,7,9,10] _ (by decide) rfl),Bi⟩
 refine ZC (s:=gAm) (M:=fun σ_ w_=>∃ (U_:PHeap) (dF:Option Addr) (ez:Nat) (dG:Option Addr) (eA:Nat) (dH:Option Addr) (eD:Nat) (dI:Option Addr) (eE:Nat),σ_ 0=.pointer (some ⟨ab,0,none⟩)/\σ_ 3=jV p3/\σ_ 8=.pointer (some ⟨b3,0,none⟩)/\σ_ 11=.pointer (some ⟨b7,0,none⟩)/\σ_ 12=.slice bq bA.length br/\σ_ 13=.slice bj bi.length bk/\σ_ 21=.pointer (some ⟨aj,0,none⟩)/\σ_ 98=jV bC/\σ_ 99=jV (↑bv:Int)/\σ_ 112=.pointer (some ⟨b7,2,none⟩)/\σ_ 114=.agg av.toArray/\σ_ 115=.slice dG ([(⟨(⟨aa,w64 (aa + aq)⟩:wAG),az⟩:wAH)].length) eA/\σ_ 116=.slice dH aY.length eD/\σ_ 117=.slice bj bi.length bk/\σ_ 118=.pointer (some ⟨ab,0,none⟩)/\σ_ 119=.pointer (some ⟨aj,0,none⟩)/\σ_ 120=.pointer (some ⟨aj,0,none⟩)/\σ_ 121=jV aa/\σ_ 122=.pointer (some ⟨aj,0,none⟩)/\σ_ 123=.pointer (some ⟨aj,1,none⟩)/\σ_ 124=jV (w64 (aa + aq))/\σ_ 125=jV bz/\σ_ 126=.slice dI ([bz].length) eE/\σ_ 128=.pointer (some ⟨b7,2,none⟩)/\PHeap.Le bh U_/\SW w [B1] U U_ [.blk ab 81 [.slice dF aU.bytes.length ez,jV aU.next,.int .u32 aU.state],.blk aj 76 av,B7,ap,bb,.blk b3 28 B0,aV,bg,.row dG eA 76 3 (hH wAA [(⟨(⟨aa,w64 (aa + aq)⟩:wAG),az⟩:wAH)]),.row dH eD 76 3 (hH wAA aY),.row dI eE 3 1 (hH KL.encI [bz])] w_/\Sl U_ 1 dF ez aU.bytes.length (hH KL.encB8 aU.bytes)) ?_ fun Ga=>?_
 rintro Jn HO ⟨mC,dF,ez,dG,eA,dH,eD,dI,eE,vc,vd,ve,vg,vh,Iv,vi,vj,vk,vl,vm,vn,vo,vp,vq,vr,vt,vu,vv,vw,vx,vy,pF,vz,Gg,rp,Bk⟩
 refine Zv (j:=7) (enc:=KL.encI) (xs:=bi) (ys:=[bz]) (zs:=cR) rfl rfl rfl rfl rfl yW wJk rfl rfl rfl rfl rfl rfl rp rfl vp pF (rp.srcR (j:=10) rfl (by decide) (wAF (f:=KL.encI) (sz:=1) (fun _=>rfl) [bz])) (fun _=>rfl) (fun _=>rfl) Cz rfl ?_
 intro ly ou te CN
 have CO:SW w [B1] U mC [.blk ab 81 [.slice dF aU.bytes.length ez,jV aU.next,.int .u32 aU.state],.blk aj 76 av,B7,ap,bb,.blk b3 28 B0,aV,.row ly ou 3 1 (hH KL.encI cR),.row dG eA 76 3 (hH wAA [(⟨(⟨aa,w64 (aa + aq)⟩:wAG),az⟩:wAH)]),.row dH eD 76 3 (hH wAA aY),.row dI eE 3 1 (hH KL.encI [bz])] te:=CN
 exact F9 _ _ ⟨mC,dF,ez,dG,eA,dH,eD,dI,eE,ly,ou,vc,vd,ve,vg,vh,vi,vj,vk,vl,vm,vn,vo,vq,vr,vt,vu,vv,vw,vx,vy,pF,rfl,vz,Gg,(CO.pick [0,1,2,3,4,5,6,8,9,10,7] _ (by decide) rfl),Bk⟩
 refine ZC (s:=gAt) (M:=fun σ_ w_=>∃ (U_:PHeap) (dJ:Option Addr) (eF:Nat) (dK:Option Addr) (eG:Nat) (dL:Option Addr) (eH:Nat),σ_ 0=.pointer (some ⟨ab,0,none⟩)/\σ_ 3=jV p3/\σ_ 8=.pointer (some ⟨b3,0,none⟩)/\σ_ 11=.pointer (some ⟨b7,0,none⟩)/\σ_ 12=.slice bq bA.length br/\σ_ 13=.slice bj bi.length bk/\σ_ 21=.pointer (some ⟨aj,0,none⟩)/\σ_ 98=jV bC/\σ_ 99=jV (↑bv:Int)/\σ_ 112=.pointer (some ⟨b7,2,none⟩)/\σ_ 114=.agg av.toArray/\σ_ 115=.slice dK ([(⟨(⟨aa,w64 (aa + aq)⟩:wAG),az⟩:wAH)].length) eG/\σ_ 116=.slice dL aY.length eH/\σ_ 117=.slice bj bi.length bk/\σ_ 118=.pointer (some ⟨ab,0,none⟩)/\σ_ 119=.pointer (some ⟨aj,0,none⟩)/\σ_ 120=.pointer (some ⟨aj,0,none⟩)/\σ_ 121=jV aa/\σ_ 122=.pointer (some ⟨aj,0,none⟩)/\σ_ 123=.pointer (some ⟨aj,1,none⟩)/\σ_ 124=jV (w64 (aa + aq))/\σ_ 125=jV bz/\σ_ 128=.pointer (some ⟨b7,2,none⟩)/\PHeap.Le bh U_/\SW w [B1] U U_ [.blk ab 81 [.slice dJ aU.bytes.length eF,jV aU.next,.int .u32 aU.state],.blk aj 76 av,B7,ap,bb,.blk b3 28 B0,aV,bg,.row dK eG 76 3 (hH wAA [(⟨(⟨aa,w64 (aa + aq)⟩:wAG),az⟩:wAH)]),.row dL eH 76 3 (hH wAA aY)] w_/\Sl U_ 1 dJ eF aU.bytes.length (hH KL.encB8 aU.bytes)) ?_ fun sv=>?_
 rintro Jo HP ⟨mD,dJ,eF,dK,eG,dL,eH,vA,vB,vC,vD,vE,vF,vG,vH,vJ,vK,vL,vM,vN,vO,vP,vQ,vR,vS,vT,vU,vV,pG,vW,Gi,CP,Bl⟩
 refine zz (pv:=[(0,jV bz)]) (zs:=[jV 0]) (cs:=[jV bz]) Z Z Z Z Z (wAB pG wAT) zD zC ZG Z Z Z Z Z CP ?_
 intro tf oc CQ
 have CR:SW w [B1] U mD [.row (some ⟨oc,0,none⟩) 1 3 1 (hH KL.encI [bz]),.blk ab 81 [.slice dJ aU.bytes.length eF,jV aU.next,.int .u32 aU.state],.blk aj 76 av,B7,ap,bb,.blk b3 28 B0,aV,bg,.row dK eG 76 3 (hH wAA [(⟨(⟨aa,w64 (aa + aq)⟩:wAG),az⟩:wAH)]),.row dL eH 76 3 (hH wAA aY)] tf:=CQ
 exact Ga _ _ ⟨mD,dJ,eF,dK,eG,dL,eH,(some ⟨oc,0,none⟩),1,vA,vB,vC,vD,vE,vF,vG,vH,vJ,vK,vL,vM,vN,vO,vP,vQ,vR,vS,vT,vU,vV,pG,rfl,vW,Gi,(CR.pick [1,2,3,4,5,6,7,8,9,10,0] _ (by decide) rfl),Bl⟩
 refine ZC (s:=gAw) (M:=fun σ_ w_=>∃ (U_:PHeap) (dM:Option Addr) (eI:Nat) (dN:Option Addr) (eJ:Nat),σ_ 0=.pointer (some ⟨ab,0,none⟩)/\σ_ 3=jV p3/\σ_ 8=.pointer (some ⟨b3,0,none⟩)/\σ_ 11=.pointer (some ⟨b7,0,none⟩)/\σ_ 12=.slice bq bA.length br/\σ_ 13=.slice bj bi.length bk/\σ_ 21=.pointer (some ⟨aj,0,none⟩)/\σ_ 98=jV bC/\σ_ 99=jV (↑bv:Int)/\σ_ 112=.pointer (some ⟨b7,2,none⟩)/\σ_ 114=.agg av.toArray/\σ_ 115=.slice dM ([(⟨(⟨aa,w64 (aa + aq)⟩:wAG),az⟩:wAH)].length) eI/\σ_ 116=.slice dN aY.length eJ/\σ_ 117=.slice bj bi.length bk/\σ_ 118=.pointer (some ⟨ab,0,none⟩)/\σ_ 119=.pointer (some ⟨aj,0,none⟩)/\σ_ 120=.pointer (some ⟨aj,0,none⟩)/\σ_ 121=jV aa/\σ_ 122=.pointer (some ⟨aj,0,none⟩)/\σ_ 123=.pointer (some ⟨aj,1,none⟩)/\σ_ 124=jV (w64 (aa + aq))/\σ_ 128=.pointer (some ⟨b7,2,none⟩)/\PHeap.Le bh U_/\SW w [B1] U U_ [.blk aj 76 av,bo,B7,ap,bb,.blk b3 28 B0,aV,bg,.row dM eI 76 3 (hH wAA [(⟨(⟨aa,w64 (aa + aq)⟩:wAG),az⟩:wAH)]),.row dN eJ 76 3 (hH wAA aY)] w_) ?_ fun gT=>?_
 rintro Jp mU ⟨mE,dM,eI,dN,eJ,vX,vY,vZ,v4,v5,v9,wb,wc,wd,we,wg,wh,wi,wj,pH,wk,wl,pI,wn,wo,pJ,wp,sC,CT⟩
 have Bm:=ri.le sC
 let mf:Res:=.row dM eI 76 3 (hH wAA [(⟨(⟨aa,w64 (aa + aq)⟩:wAG),az⟩:wAH)])
 let mg:Res:=.row dN eJ 76 3 (hH wAA aY)
 have CU:SW w [B1] U mE [bo,.blk aj 76 av,B7,ap,bb,.blk b3 28 B0,aV,bg,mf,mg] mU:=CT.pick [1,0,2,3,4,5,6,7,8,9] _ (by decide) rfl
 refine zM 1 Z Z Z Z (zK Z Z Tryz.call24 (zB pH (zB pI (zB pJ zP))) Z) CU (fun hs=>wAe fC ab iw jf aa (w64 (aa + aq)) mU mE hs Bm rj) (.inl Z) ?_
 rintro mF Hk II tg Gj CV ⟨lA,ow,rfl,rfl,Bn⟩
 have CW:SW w [B1] U mF [.blk ab 81 [.slice lA aU.bytes.length ow,jV aU.next,.int .u32 aU.state],.blk aj 76 av,B7,ap,bb,.blk b3 28 B0,aV,bg,mf,mg] tg:=CV
 exact sv _ _ ⟨mF,lA,ow,dM,eI,dN,eJ,vX,vY,vZ,v4,v5,v9,wb,wc,wd,we,wg,wh,wi,wj,pH,wk,wl,pI,wn,wo,pJ,Z,wp,(sC.trans Gj),CW,Bn⟩
 refine ZC (s:=.fl 16 gAw) (M:=fun σ_ w_=>∃ (U_:PHeap) (dO:Option Addr) (eK:Nat) (dP:Option Addr) (eL:Nat),σ_ 0=.pointer (some ⟨ab,0,none⟩)/\σ_ 3=jV p3/\σ_ 8=.pointer (some ⟨b3,0,none⟩)/\σ_ 11=.pointer (some ⟨b7,0,none⟩)/\σ_ 12=.slice bq bA.length br/\σ_ 13=.slice bj bi.length bk/\σ_ 21=.pointer (some ⟨aj,0,none⟩)/\σ_ 98=jV bC/\σ_ 99=jV (↑bv:Int)/\σ_ 112=.pointer (some ⟨b7,2,none⟩)/\σ_ 114=.agg av.toArray/\σ_ 115=.slice dO ([(⟨(⟨aa,w64 (aa + aq)⟩:wAG),az⟩:wAH)].length) eK/\σ_ 116=.slice dP aY.length eL/\σ_ 117=.slice bj bi.length bk/\σ_ 118=.pointer (some ⟨ab,0,none⟩)/\σ_ 119=.pointer (some ⟨aj,0,none⟩)/\σ_ 120=.pointer (some ⟨aj,0,none⟩)/\σ_ 121=jV aa/\σ_ 122=.pointer (some ⟨aj,0,none⟩)/\σ_ 123=.pointer (some ⟨aj,1,none⟩)/\σ_ 124=jV (w64 (aa + aq))/\PHeap.Le bh U_/\SW w [B1] U U_ [.blk aj 76 av,bo,B7,ap,bb,.blk b3 28 B0,aV,bg,.row dO eK 76 3 (hH wAA [(⟨(⟨aa,w64 (aa + aq)⟩:wAG),az⟩:wAH)]),.row dP eL 76 3 (hH wAA aY)] w_) ?_ fun Gb=>?_
 rintro Jq mV ⟨mG,dO,eK,dP,eL,wq,wt,wu,pK,wv,ww,wx,wy,wz,wA,wB,wC,wD,wE,pL,wG,wH,pM,wI,wJ,pN,sD,CX⟩
 refine oR Z (zH Z pK zQ Z Zn) ?_
 have Bo:=ri.le sD
 let mh:Res:=.row dO eK 76 3 (hH wAA [(⟨(⟨aa,w64 (aa + aq)⟩:wAG),az⟩:wAH)])
 let mi:Res:=.row dP eL 76 3 (hH wAA aY)
 have CY:SW w [B1] U mG [bo,.blk aj 76 av,B7,ap,bb,.blk b3 28 B0,aV,bg,mh,mi] mV:=CX.pick [1,0,2,3,4,5,6,7,8,9] _ (by decide) rfl
 refine zM 1 Z Z Z Z (zK Z Z Tryz.call24 (zB pL (zB pM (zB pN zP))) Z) CY (fun hs=>wAe fC ab iw jf aa (w64 (aa + aq)) mV mG hs Bo rj) (.inl Z) ?_
 rintro mH Hl IJ th Gk CZ ⟨lB,ox,rfl,rfl,Bp⟩
 have C0:SW w [B1] U mH [.blk ab 81 [.slice lB aU.bytes.length ox,jV aU.next,.int .u32 aU.state],.blk aj 76 av,B7,ap,bb,.blk b3 28 B0,aV,bg,mh,mi] th:=CZ
 exact sv _ _ ⟨mH,lB,ox,dO,eK,dP,eL,wq,wt,wu,pK,wv,ww,wx,wy,wz,wA,wB,wC,wD,wE,pL,wG,wH,pM,wI,wJ,pN,Z,Z,(sD.trans Gk),C0,Bp⟩
 refine ZC (s:=.fl 16 gAy) (M:=fun σ_ w_=>∃ (U_:PHeap) (fG:Option Addr) (gq:Nat) (fH:Option Addr) (gt:Nat),σ_ 0=.pointer (some ⟨ab,0,none⟩)/\σ_ 3=jV p3/\σ_ 8=.pointer (some ⟨b3,0,none⟩)/\σ_ 11=.pointer (some ⟨b7,0,none⟩)/\σ_ 12=.slice bq bA.length br/\σ_ 13=.slice bj bi.length bk/\σ_ 21=.pointer (some ⟨aj,0,none⟩)/\σ_ 98=jV bC/\σ_ 99=jV (↑bv:Int)/\σ_ 112=.pointer (some ⟨b7,2,none⟩)/\σ_ 114=.agg av.toArray/\σ_ 115=.slice fG ([(⟨(⟨aa,w64 (aa + aq)⟩:wAG),az⟩:wAH)].length) gq/\σ_ 116=.slice fH aY.length gt/\σ_ 117=.slice bj bi.length bk/\σ_ 118=.pointer (some ⟨ab,0,none⟩)/\σ_ 119=.pointer (some ⟨aj,0,none⟩)/\σ_ 120=.pointer (some ⟨aj,0,none⟩)/\σ_ 122=.pointer (some ⟨aj,0,none⟩)/\σ_ 123=.pointer (some ⟨aj,1,none⟩)/\σ_ 124=jV (w64 (aa + aq))/\PHeap.Le bh U_/\SW w [B1] U U_ [.blk aj 76 av,bo,B7,ap,bb,.blk b3 28 B0,aV,bg,.row fG gq 76 3 (hH wAA [(⟨(⟨aa,w64 (aa + aq)⟩:wAG),az⟩:wAH)]),.row fH gt 76 3 (hH wAA aY)] w_) ?_ fun Gc=>?_
 rintro Jr HQ ⟨sX,fG,gq,fH,gt,wK,wL,wM,pO,wN,wO,wP,wQ,wR,wS,wU,wV,wW,wX,wY,wZ,pP,w5,w6,w7,Gl,rq⟩
 exact oR Z (zH Z pO zQ Z Zn) (ZB Z Z Z Z (rq.ldB (j:=0) Z Z pP zE (v:=jV aa) Z) (gT _ _ ⟨sX,fG,gq,fH,gt,wK,wL,wM,pO,wN,wO,wP,wQ,wR,wS,wU,wV,wW,wX,wY,wZ,pP,Z,w5,w6,w7,Z,Gl,rq⟩))
 refine ZC (s:=gAz) (M:=fun σ_ w_=>∃ (U_:PHeap) (dQ:Option Addr) (eM:Nat),σ_ 0=.pointer (some ⟨ab,0,none⟩)/\σ_ 3=jV p3/\σ_ 8=.pointer (some ⟨b3,0,none⟩)/\σ_ 11=.pointer (some ⟨b7,0,none⟩)/\σ_ 12=.slice bq bA.length br/\σ_ 13=.slice bj bi.length bk/\σ_ 21=.pointer (some ⟨aj,0,none⟩)/\σ_ 98=jV bC/\σ_ 99=jV (↑bv:Int)/\σ_ 112=.pointer (some ⟨b7,2,none⟩)/\σ_ 113=.slice bP bE.length bR/\σ_ 114=.agg av.toArray/\σ_ 115=.slice dQ ([(⟨(⟨aa,w64 (aa + aq)⟩:wAG),az⟩:wAH)].length) eM/\σ_ 117=.slice bj bi.length bk/\σ_ 118=.pointer (some ⟨ab,0,none⟩)/\σ_ 119=.pointer (some ⟨aj,0,none⟩)/\σ_ 120=.pointer (some ⟨aj,0,none⟩)/\σ_ 121=jV aa/\σ_ 122=.pointer (some ⟨aj,0,none⟩)/\σ_ 123=.pointer (some ⟨aj,1,none⟩)/\σ_ 124=jV (w64 (aa + aq))/\PHeap.Le bh U_/\SW w [B1] U U_ [.blk aj 76 av,bo,B7,ap,bK,bb,.blk b3 28 B0,aV,bg,.row dQ eM 76 3 (hH wAA [(⟨(⟨aa,w64 (aa + aq)⟩:wAG),az⟩:wAH)])] w_) ?_ fun jY=>?_
 rintro Js HS ⟨mI,dQ,eM,w8,w9,xa,xb,xc,xd,xe,xf,xg,xh,xi,xj,pQ,xk,xl,xm,xn,xo,xp,xq,xr,Gm,rx⟩
 refine Zv (j:=4) (enc:=wAA) (xs:=bE) (ys:=[(⟨(⟨aa,w64 (aa + aq)⟩:wAG),az⟩:wAH)]) (zs:=aY) rfl rfl rfl rfl rfl Tryz.underlying25 wLg rfl rfl rfl rfl rfl rfl rx rfl xi pQ (rx.srcR (j:=9) rfl (by decide) (wAF (f:=wAA) (sz:=3) (fun _=>rfl) [(⟨(⟨aa,w64 (aa + aq)⟩:wAG),az⟩:wAH)])) (fun _=>rfl) (fun _=>rfl) gP rfl ?_
 intro lC oy tl C2
 have C3:SW w [B1] U mI [.blk aj 76 av,bo,B7,ap,.row lC oy 76 3 (hH wAA aY),bb,.blk b3 28 B0,aV,bg,.row dQ eM 76 3 (hH wAA [(⟨(⟨aa,w64 (aa + aq)⟩:wAG),az⟩:wAH)])] tl:=C2
 exact Gb _ _ ⟨mI,dQ,eM,lC,oy,w8,w9,xa,xb,xc,xd,xe,xf,xg,xh,xj,pQ,rfl,xk,xl,xm,xn,xo,xp,xq,xr,Gm,(C3.pick [0,1,2,3,5,6,7,8,9,4] _ (by decide) rfl)⟩
 refine ZC (s:=.fl 16 gAx) (M:=fun σ_ w_=>∃ (U_:PHeap) (fJ:Option Addr) (gu:Nat) (fK:Option Addr) (gv:Nat),σ_ 0=.pointer (some ⟨ab,0,none⟩)/\σ_ 3=jV p3/\σ_ 8=.pointer (some ⟨b3,0,none⟩)/\σ_ 11=.pointer (some ⟨b7,0,none⟩)/\σ_ 12=.slice bq bA.length br/\σ_ 13=.slice bj bi.length bk/\σ_ 21=.pointer (some ⟨aj,0,none⟩)/\σ_ 98=jV bC/\σ_ 99=jV (↑bv:Int)/\σ_ 112=.pointer (some ⟨b7,2,none⟩)/\σ_ 114=.agg av.toArray/\σ_ 115=.slice fJ ([(⟨(⟨aa,w64 (aa + aq)⟩:wAG),az⟩:wAH)].length) gu/\σ_ 116=.slice fK aY.length gv/\σ_ 117=.slice bj bi.length bk/\σ_ 118=.pointer (some ⟨ab,0,none⟩)/\σ_ 119=.pointer (some ⟨aj,0,none⟩)/\σ_ 120=.pointer (some ⟨aj,0,none⟩)/\σ_ 121=jV aa/\σ_ 122=.pointer (some ⟨aj,0,none⟩)/\σ_ 123=.pointer (some ⟨aj,1,none⟩)/\PHeap.Le bh U_/\SW w [B1] U U_ [.blk aj 76 av,bo,B7,ap,bb,.blk b3 28 B0,aV,bg,.row fJ gu 76 3 (hH wAA [(⟨(⟨aa,w64 (aa + aq)⟩:wAG),az⟩:wAH)]),.row fK gv 76 3 (hH wAA aY)] w_) ?_ fun Gd=>?_
 rintro Jt HT ⟨sY,fJ,gu,fK,gv,xt,xu,xw,pR,xx,xz,xA,xB,xC,xD,xE,xF,xG,xH,xI,xJ,xK,xL,xM,pS,Gn,ry⟩
 exact oR Z (zH Z pR zQ Z Zn) (ZB Z Z Z Z (ry.ldB (j:=0) Z Z pS zE (v:=jV (w64 (aa + aq))) Z) (gT _ _ ⟨sY,fJ,gu,fK,gv,xt,xu,xw,pR,xx,xz,xA,xB,xC,xD,xE,xF,xG,xH,xI,xJ,xK,xL,xM,pS,Z,Z,Gn,ry⟩))
 refine ZC (s:=gBa) (M:=fun σ_ w_=>∃ (U_:PHeap),σ_ 0=.pointer (some ⟨ab,0,none⟩)/\σ_ 3=jV p3/\σ_ 8=.pointer (some ⟨b3,0,none⟩)/\σ_ 11=.pointer (some ⟨b7,0,none⟩)/\σ_ 12=.slice bq bA.length br/\σ_ 13=.slice bj bi.length bk/\σ_ 21=.pointer (some ⟨aj,0,none⟩)/\σ_ 98=jV bC/\σ_ 99=jV (↑bv:Int)/\σ_ 112=.pointer (some ⟨b7,2,none⟩)/\σ_ 113=.slice bP bE.length bR/\σ_ 114=.agg av.toArray/\σ_ 117=.slice bj bi.length bk/\σ_ 118=.pointer (some ⟨ab,0,none⟩)/\σ_ 119=.pointer (some ⟨aj,0,none⟩)/\σ_ 120=.pointer (some ⟨aj,0,none⟩)/\σ_ 121=jV aa/\σ_ 122=.pointer (some ⟨aj,0,none⟩)/\σ_ 123=.pointer (some ⟨aj,1,none⟩)/\σ_ 124=jV (w64 (aa + aq))/\PHeap.Le bh U_/\SW w [B1] U U_ [.blk aj 76 av,bo,B7,ap,bK,bb,.blk b3 28 B0,aV,bg] w_) ?_ fun sw=>?_
 rintro Ju HU ⟨mK,xN,xO,xP,xR,xS,xT,xU,xV,xW,xX,xY,pT,xZ,x7,x8,yo,yp,yq,yr,yt,Gp,C4⟩
 refine zz (pv:=[(0,.agg av.toArray)]) (zs:=da) (cs:=av) Z Z Z Z Z (wAB pT wAT) Za Zs yZ Z Z Z Z Z C4 ?_
 intro tn od C6
 have C7:SW w [B1] U mK [.row (some ⟨od,0,none⟩) 1 76 3 (hH wAA [(⟨(⟨aa,w64 (aa + aq)⟩:wAG),az⟩:wAH)]),.blk aj 76 av,bo,B7,ap,bK,bb,.blk b3 28 B0,aV,bg] tn:=C6
 exact jY _ _ ⟨mK,(some ⟨od,0,none⟩),1,xN,xO,xP,xR,xS,xT,xU,xV,xW,xX,xY,pT,rfl,xZ,x7,x8,yo,yp,yq,yr,yt,Gp,(C7.pick [1,2,3,4,5,6,7,8,9,0] _ (by decide) rfl)⟩
 refine ZC (s:=gBc) (M:=fun σ_ w_=>∃ (U_:PHeap) (cU:Option Addr) (dg:Nat),σ_ 0=.pointer (some ⟨ab,0,none⟩)/\σ_ 3=jV p3/\σ_ 8=.pointer (some ⟨b3,0,none⟩)/\σ_ 11=.pointer (some ⟨b7,0,none⟩)/\σ_ 12=.slice bq bA.length br/\σ_ 13=.slice bj bi.length bk/\σ_ 21=.pointer (some ⟨aj,0,none⟩)/\σ_ 98=jV bC/\σ_ 99=jV (↑bv:Int)/\σ_ 112=.pointer (some ⟨b7,2,none⟩)/\σ_ 113=.slice bP bE.length bR/\σ_ 114=.agg av.toArray/\σ_ 115=.slice cU ([(⟨(⟨aa,w64 (aa + aq)⟩:wAG),az⟩:wAH)].length) dg/\σ_ 117=.slice bj bi.length bk/\σ_ 118=.pointer (some ⟨ab,0,none⟩)/\σ_ 119=.pointer (some ⟨aj,0,none⟩)/\σ_ 120=.pointer (some ⟨aj,0,none⟩)/\σ_ 122=.pointer (some ⟨aj,0,none⟩)/\σ_ 123=.pointer (some ⟨aj,1,none⟩)/\σ_ 124=jV (w64 (aa + aq))/\PHeap.Le bh U_/\SW w [B1] U U_ [.blk aj 76 av,bo,B7,ap,bK,bb,.blk b3 28 B0,aV,bg,.row cU dg 76 3 (hH wAA [(⟨(⟨aa,w64 (aa + aq)⟩:wAG),az⟩:wAH)])] w_) ?_ fun sA=>?_
 rintro Jv HV ⟨iK,cU,dg,pU,pV,pW,pX,pY,pZ,p6,p7,p8,p9,qa,qb,jg,qc,qd,qe,jh,qf,qh,qi,sE,gR⟩
 refine zk ?_ ?_
 refine Zv (j:=4) (enc:=wAA) (xs:=bE) (ys:=[(⟨(⟨aa,w64 (aa + aq)⟩:wAG),az⟩:wAH)]) (zs:=aY) rfl rfl rfl rfl rfl Tryz.underlying25 wLg rfl rfl rfl rfl rfl rfl gR rfl qa jg (gR.srcR (j:=9) rfl (by decide) (wAF (f:=wAA) (sz:=3) (fun _=>rfl) [(⟨(⟨aa,w64 (aa + aq)⟩:wAG),az⟩:wAH)])) (fun _=>rfl) (fun _=>rfl) gP rfl ?_
 intro lE oB tp C9
 have Da:SW w [B1] U iK [.blk aj 76 av,bo,B7,ap,.row lE oB 76 3 (hH wAA aY),bb,.blk b3 28 B0,aV,bg,.row cU dg 76 3 (hH wAA [(⟨(⟨aa,w64 (aa + aq)⟩:wAG),az⟩:wAH)])] tp:=C9
 exact Gc _ _ ⟨iK,cU,dg,lE,oB,pU,pV,pW,pX,pY,pZ,p6,p7,p8,p9,qb,jg,rfl,qc,qd,qe,jh,qf,qh,qi,sE,(Da.pick [0,1,2,3,5,6,7,8,9,4] _ (by decide) rfl)⟩
 exact ZB Z Z Z Z (gR.ldB (j:=0) Z Z jh zE (v:=jV aa) Z) (jY _ _ ⟨iK,cU,dg,pU,pV,pW,pX,pY,pZ,p6,p7,p8,p9,qa,qb,jg,qc,qd,qe,jh,Z,qf,qh,qi,sE,gR⟩)
 refine ZC (s:=gBb) (M:=fun σ_ w_=>∃ (U_:PHeap) (cV:Option Addr) (dh:Nat),σ_ 0=.pointer (some ⟨ab,0,none⟩)/\σ_ 3=jV p3/\σ_ 8=.pointer (some ⟨b3,0,none⟩)/\σ_ 11=.pointer (some ⟨b7,0,none⟩)/\σ_ 12=.slice bq bA.length br/\σ_ 13=.slice bj bi.length bk/\σ_ 21=.pointer (some ⟨aj,0,none⟩)/\σ_ 98=jV bC/\σ_ 99=jV (↑bv:Int)/\σ_ 112=.pointer (some ⟨b7,2,none⟩)/\σ_ 113=.slice bP bE.length bR/\σ_ 114=.agg av.toArray/\σ_ 115=.slice cV ([(⟨(⟨aa,w64 (aa + aq)⟩:wAG),az⟩:wAH)].length) dh/\σ_ 117=.slice bj bi.length bk/\σ_ 118=.pointer (some ⟨ab,0,none⟩)/\σ_ 119=.pointer (some ⟨aj,0,none⟩)/\σ_ 120=.pointer (some ⟨aj,0,none⟩)/\σ_ 121=jV aa/\σ_ 122=.pointer (some ⟨aj,0,none⟩)/\σ_ 123=.pointer (some ⟨aj,1,none⟩)/\PHeap.Le bh U_/\SW w [B1] U U_ [.blk aj 76 av,bo,B7,ap,bK,bb,.blk b3 28 B0,aV,bg,.row cV dh 76 3 (hH wAA [(⟨(⟨aa,w64 (aa + aq)⟩:wAG),az⟩:wAH)])] w_) ?_ fun sB=>?_
 rintro Jw HW ⟨iL,cV,dh,qj,qk,qm,qn,qo,qp,qq,qr,qt,qu,qv,qw,ji,qx,qy,qz,qA,qB,qC,jj,sF,gS⟩
 refine zk ?_ ?_
 refine Zv (j:=4) (enc:=wAA) (xs:=bE) (ys:=[(⟨(⟨aa,w64 (aa + aq)⟩:wAG),az⟩:wAH)]) (zs:=aY) rfl rfl rfl rfl rfl Tryz.underlying25 wLg rfl rfl rfl rfl rfl rfl gS rfl qv ji (gS.srcR (j:=9) rfl (by decide) (wAF (f:=wAA) (sz:=3) (fun _=>rfl) [(⟨(⟨aa,w64 (aa + aq)⟩:wAG),az⟩:wAH)])) (fun _=>rfl) (fun _=>rfl) gP rfl ?_
 intro lF oG tq Db
 have Dc:SW w [B1] U iL [.blk aj 76 av,bo,B7,ap,.row lF oG 76 3 (hH wAA aY),bb,.blk b3 28 B0,aV,bg,.row cV dh 76 3 (hH wAA [(⟨(⟨aa,w64 (aa + aq)⟩:wAG),az⟩:wAH)])] tq:=Db
 exact Gd _ _ ⟨iL,cV,dh,lF,oG,qj,qk,qm,qn,qo,qp,qq,qr,qt,qu,qw,ji,rfl,qx,qy,qz,qA,qB,qC,jj,sF,(Dc.pick [0,1,2,3,5,6,7,8,9,4] _ (by decide) rfl)⟩
 exact ZB Z Z Z Z (gS.ldB (j:=0) Z Z jj zE (v:=jV (w64 (aa + aq))) Z) (jY _ _ ⟨iL,cV,dh,qj,qk,qm,qn,qo,qp,qq,qr,qt,qu,qv,qw,ji,qx,qy,qz,qA,qB,qC,jj,Z,sF,gS⟩)
 refine oR Z (zH Z bS zQ Z Zn) (oL Z (bM.ldB (j:=5) Z Z Z yM (v:=.slice bP bE.length bR) Z) (oL Z (bM.ldBA (j:=0) Z Z Z Tryz.isAgg76 Zs (vs:=av) Z Z) (oM Z cb (oM Z bL (oR Z (zH Z Z Zz Z ZN) (oR Z (zH Z Z ZL Z zC) (oR Z (zH Z Z Zz Z ZN) (oR Z (zH Z Z ZL Z zC) (zk ?_ ?_)))))))))
 refine zz (pv:=[(0,.agg av.toArray)]) (zs:=da) (cs:=av) Z Z Z Z Z (wAB Z wAT) Za Zs yZ Z Z Z Z Z bM ?_
 intro tr d7 Dd
 let mj:Res:=.row (some ⟨d7,0,none⟩) 1 76 3 (hH wAA [(⟨(⟨aa,w64 (aa + aq)⟩:wAG),az⟩:wAH)])
 have du:SW w [B1] U bh [mj,.blk aj 76 av,bo,B7,ap,bK,bb,.blk b3 28 B0,aV,bg] tr:=Dd
 refine zk ?_ ?_
 refine Zv (j:=5) (enc:=wAA) (xs:=bE) (ys:=[(⟨(⟨aa,w64 (aa + aq)⟩:wAG),az⟩:wAH)]) (zs:=aY) rfl rfl rfl rfl rfl Tryz.underlying25 wLg rfl rfl rfl rfl rfl rfl du rfl rfl rfl (du.srcR (j:=0) rfl (by decide) (wAF (f:=wAA) (sz:=3) (fun _=>rfl) [(⟨(⟨aa,w64 (aa + aq)⟩:wAG),az⟩:wAH)])) (fun _=>rfl) (fun _=>rfl) gP rfl ?_
 intro iq i9 tu De
 have dv:SW w [B1] U bh [mj,.blk aj 76 av,bo,B7,ap,.row iq i9 76 3 (hH wAA aY),bb,.blk b3 28 B0,aV,bg] tu:=De
 refine oR Z (zH Z bS zQ Z Zn) (zk ?_ ?_)
 exact ZB rfl rfl rfl rfl (dv.ldB (j:=1) rfl rfl rfl zE (v:=jV aa) rfl) (ZB rfl rfl rfl rfl (dv.ldB (j:=1) rfl rfl rfl zE (v:=jV (w64 (aa + aq))) rfl) (gT _ _ ⟨bh,(some ⟨d7,0,none⟩),1,iq,i9,bL,cu,cw,bS,cx,cb,rfl,cd,cf,rfl,rfl,rfl,rfl,rfl,rfl,rfl,rfl,rfl,rfl,rfl,rfl,rfl,(zL _),(dv.pick [1,2,3,4,6,7,8,9,0,5] _ (by decide) rfl)⟩))
 exact ZB rfl rfl rfl rfl (dv.ldB (j:=1) rfl rfl rfl zE (v:=jV (w64 (aa + aq))) rfl) (ZB rfl rfl rfl rfl (dv.ldB (j:=1) rfl rfl rfl zE (v:=jV aa) rfl) (gT _ _ ⟨bh,(some ⟨d7,0,none⟩),1,iq,i9,bL,cu,cw,bS,cx,cb,rfl,cd,cf,rfl,rfl,rfl,rfl,rfl,rfl,rfl,rfl,rfl,rfl,rfl,rfl,rfl,(zL _),(dv.pick [1,2,3,4,6,7,8,9,0,5] _ (by decide) rfl)⟩))
 refine zk ?_ ?_
 exact ZB rfl rfl rfl rfl (du.ldB (j:=1) rfl rfl rfl zE (v:=jV aa) rfl) (sB _ _ ⟨bh,(some ⟨d7,0,none⟩),1,bL,cu,cw,bS,cx,cb,rfl,cd,cf,rfl,rfl,rfl,rfl,rfl,rfl,rfl,rfl,rfl,rfl,rfl,(zL _),(du.pick [1,2,3,4,5,6,7,8,9,0] _ (by decide) rfl)⟩)
 exact ZB rfl rfl rfl rfl (du.ldB (j:=1) rfl rfl rfl zE (v:=jV (w64 (aa + aq))) rfl) (sA _ _ ⟨bh,(some ⟨d7,0,none⟩),1,bL,cu,cw,bS,cx,cb,rfl,cd,cf,rfl,rfl,rfl,rfl,rfl,rfl,rfl,rfl,rfl,rfl,rfl,(zL _),(du.pick [1,2,3,4,5,6,7,8,9,0] _ (by decide) rfl)⟩)
 refine zk ?_ ?_
 refine ZB Z Z Z Z (bM.ldB (j:=0) Z Z Z zE (v:=jV aa) Z) (zk ?_ ?_)
 refine zz (pv:=[(0,.agg av.toArray)]) (zs:=da) (cs:=av) Z Z Z Z Z (wAB Z wAT) Za Zs yZ Z Z Z Z Z bM ?_
 intro tv oe Df
 have Dg:SW w [B1] U bh [.row (some ⟨oe,0,none⟩) 1 76 3 (hH wAA [(⟨(⟨aa,w64 (aa + aq)⟩:wAG),az⟩:wAH)]),.blk aj 76 av,bo,B7,ap,bK,bb,.blk b3 28 B0,aV,bg] tv:=Df
 exact sB _ _ ⟨bh,(some ⟨oe,0,none⟩),1,bL,cu,cw,bS,cx,cb,rfl,cd,cf,rfl,rfl,rfl,rfl,rfl,rfl,rfl,rfl,rfl,rfl,rfl,(zL _),(Dg.pick [1,2,3,4,5,6,7,8,9,0] _ (by decide) rfl)⟩
 exact ZB Z Z Z Z (bM.ldB (j:=0) Z Z Z zE (v:=jV (w64 (aa + aq))) Z) (sw _ _ ⟨bh,bL,cu,cw,bS,cx,cb,Z,cd,cf,Z,Z,Z,Z,Z,Z,Z,Z,Z,Z,Z,(zL _),bM⟩)
 refine ZB Z Z Z Z (bM.ldB (j:=0) Z Z Z zE (v:=jV (w64 (aa + aq))) Z) (zk ?_ ?_)
 refine zz (pv:=[(0,.agg av.toArray)]) (zs:=da) (cs:=av) Z Z Z Z Z (wAB Z wAT) Za Zs yZ Z Z Z Z Z bM ?_
 intro tw og Dh
 have Di:SW w [B1] U bh [.row (some ⟨og,0,none⟩) 1 76 3 (hH wAA [(⟨(⟨aa,w64 (aa + aq)⟩:wAG),az⟩:wAH)]),.blk aj 76 av,bo,B7,ap,bK,bb,.blk b3 28 B0,aV,bg] tw:=Dh
 exact sA _ _ ⟨bh,(some ⟨og,0,none⟩),1,bL,cu,cw,bS,cx,cb,rfl,cd,cf,rfl,rfl,rfl,rfl,rfl,rfl,rfl,rfl,rfl,rfl,rfl,(zL _),(Di.pick [1,2,3,4,5,6,7,8,9,0] _ (by decide) rfl)⟩
 exact ZB Z Z Z Z (bM.ldB (j:=0) Z Z Z zE (v:=jV aa) Z) (sw _ _ ⟨bh,bL,cu,cw,bS,cx,cb,Z,cd,cf,Z,Z,Z,Z,Z,Z,Z,Z,Z,Z,Z,(zL _),bM⟩)
 rintro Jx tA ⟨sZ,sQ,uv,bV,bY,cW,dk,Bb,qD,yu,yv,yw,yy,y4,y5,Gs,Dk,Bt⟩
 have uw:Hid (¬ ((↑((bC:Int) - 0).toNat:Int) < bC)):=zJ (wAv)
 refine sR fL1 Z (oR Z (zO Z Bb y5) (eN (zI (cF Z uw (ZP (zd (zd (ZJ (zG (zI (sR (wEU gAf) Z (oM Z qD (oM Z yu (oR Z (zS Z Z Z) ?_))))))))))))))
 have q:=bnd sc
 obtain ⟨⟨dy,j5⟩,Bu,rO⟩:=q
 try dsimp only at rO
 refine zM 1 Z Z Z Z (zK Z Z Zx (zB Z (zB Z zP)) Z) Dk (fun hs=>wAU (⟨Hf,Hh,Hj⟩:wAE) ab sQ uv (w64 (p3 + 1)) tA sZ hs Bt Bu) (.inl Z) ?_
 rintro s5 Hp IM mX Gt Dl ⟨lH,oI,rfl,rfl,Bv⟩
 let aW:Res:=.row bV bY 76 3 (hH wAA bB)
 let aX:Res:=.row cW dk 3 1 (hH KL.encI bF)
 let ml:Res:=.blk b7 28 [.slice bm aZ.length bn,.slice bt ba.length bu,.slice bV bB.length bY,.slice none 0 0]
 let mo:Res:=.blk ab 81 [.slice lH j5.bytes.length oI,jV j5.next,.int .u32 j5.state]
 have Dm:SW w [B1] U s5 [mo,B7,ap,aW,ml,.blk b3 28 B0,aV,aX] mX:=Dl
 refine oM Z Z (eN (zU ?_))
 have Bx:=Cq.le GK
 have By:=Bx.le Gs
 have Bz:=By.le Gt
 have q:=Dm.freezeRR (R:=wRt) (k:=6) rfl Bz rfl (by decide)
 obtain ⟨iM,Gu,sk,Do⟩:=q
 have Dp:SW w [B1] U iM [mo,B7,ap,aW,ml,.blk b3 28 B0,aX] mX:=Do
 have q:=bnd rO
 obtain ⟨⟨GT,GU,GV,sP⟩,Fk,rP⟩:=q
 try dsimp only at rP
 have q:=wBS Fk
 obtain ⟨jQ,Fm⟩:=q
 replace jQ:=zJ jQ
 refine CK.forN' (fun cK (cL,fy,fz,cM) σ_ w_=>∃ (U_:PHeap) (cX:Option Addr) (dl:Nat) (cq:Option Addr) (ct:Nat),σ_ 134=jV (↑cK:Int)/\σ_ 0=.pointer (some ⟨ab,0,none⟩)/\σ_ 8=.pointer (some ⟨b3,0,none⟩)/\σ_ 11=.pointer (some ⟨b7,0,none⟩)/\σ_ 12=.slice bq bA.length br/\σ_ 13=.slice cW bF.length dk/\σ_ 133=jV dy/\PHeap.Le iM U_/\SW w [B1] U U_ [.blk ab 81 [.slice cX cL.length dl,jV fy,.int .u32 fz],B7,ap,aW,.row cq ct 78 4 (hH wAJ cM),.blk b7 28 [.slice bm aZ.length bn,.slice bt ba.length bu,.slice bV bB.length bY,.slice cq cM.length ct],.blk b3 28 B0,aX] w_/\Sl U_ 1 cX dl cL.length (hH KL.encB8 cL)) Fm ?_ ?_ ?_
 have Dr:=Dp.nilrow 78 4
 have BA:=Bv.le Gu
 exact ⟨iM,lH,oI,none,0,rfl,qD,yv,yw,yy,y4,rfl,(zL _),(Dr.pick [1,2,3,4,0,5,6,7] _ (by decide) rfl),BA⟩
 rintro cK ⟨cL,fy,fz,cM⟩ Jb Jy mY jK ⟨ge,cX,dl,cq,ct,eY,cH,gI,cI,gJ,gK,eV,gW,Ds,qX⟩ sm
 try dsimp only at sm
 have oK:Hid ((↑cK:Int) < dy):=zJ (wBP jK)
 replace jK:=zJ jK
 have jJ:Hid (w64 ((↑cK:Int) + 1)=(↑(cK + 1):Int)):=zJ (by have h1:=jQ.out;have h2:=oK.out;rw [wAa] <;> omega)
 refine sR fL1 Z (oR Z (zO Z eY eV) (eN (zI (cT Z oK (kN (zI (zU ?_)))))))
 have q:=bnd sm
 obtain ⟨⟨gU,sM,sN,cm,cP,bw⟩,F7,rQ⟩:=q
 try dsimp only at rQ
 let bd:Res:=.blk b7 28 [.slice bm aZ.length bn,.slice bt ba.length bu,.slice bV bB.length bY,.slice cq cM.length ct]
 let be:Res:=.row cq ct 78 4 (hH wAJ cM)
 let cr:List Value:=[jV cm,jV cP,jV bw,jV 0]
 refine yA (fun σ_ w_=>∃ (U_:PHeap) (fL:Option Addr) (gw:Nat) (bD:Nat),σ_ 0=.pointer (some ⟨ab,0,none⟩)/\σ_ 8=.pointer (some ⟨b3,0,none⟩)/\σ_ 11=.pointer (some ⟨b7,0,none⟩)/\σ_ 12=.slice bq bA.length br/\σ_ 13=.slice cW bF.length dk/\σ_ 22=.pointer (some ⟨bD,0,none⟩)/\σ_ 133=jV dy/\σ_ 134=jV (↑cK:Int)/\PHeap.Le ge U_/\SW w [B1] U U_ [.blk ab 81 [.slice fL gU.length gw,jV sM,.int .u32 sN],B7,ap,aW,be,bd,.blk b3 28 B0,aX,.blk bD 78 cr] w_/\Sl U_ 1 fL gw gU.length (hH KL.encB8 gU)) ?_ ?_
 have q:=bnd F7
 obtain ⟨⟨cy,cn⟩,qY,rS⟩:=q
 try dsimp only at rS
 have q:=bnd rS
 obtain ⟨⟨cz,bI⟩,jw,rT⟩:=q
 try dsimp only at rT
 have q:=bnd rT
 obtain ⟨⟨cA,bN⟩,gN,fb⟩:=q
 try dsimp only at fb
 refine zx zr [3,3,1,3,1005,3,3,1004,3,3,1005,3,3,1004,3,0,3,2,0,ab] (wEc (wMw (wSa (.fx 4 (.fx 10 (.fx 15 (.fl 16 (.fx 17 (.fx 18 .nil .stop) .stop)) (.fx 17 gAn .stop)) (.fx 17 gAu .stop)) (.fx 17 (.fx 4 gAu .stop) .stop))))) (by kernel_rfl) ?_
 have dw:=Ds.drew
 generalize hw_W1886:({ mY with drawn:=mY.drawn + 1 }:World)=tF at dw ⊢
 refine zN rfl rfl rfl rfl rfl cH (zZ rfl rfl rfl rfl (fun _=>zH rfl cI zQ rfl zq) (ZF rfl rfl rfl rfl (dw.ldB (j:=5) rfl rfl rfl zw (v:=.slice bm aZ.length bn) rfl) rfl (zZ rfl rfl rfl rfl (fun _=>ZA rfl rfl zD) (zN rfl rfl rfl rfl rfl cH (zZ rfl rfl rfl rfl (fun _=>zH rfl cI zQ rfl yF) (OKS.mt (T:=[ab]) [0] [1,2,3,4,5,6,7] [B7,ap,aW,be,bd,.blk b3 28 B0,aX] rfl rfl rfl rfl dw rfl ⟨⟨0,by decide,_,rfl,rfl⟩,trivial⟩ (by decide) rfl (by decide) (fun _ Fa=>(Fa.ldB (j:=4) rfl rfl rfl yQ (v:=.slice bt ba.length bu) rfl)) rfl (zZ rfl rfl rfl rfl (fun _=>ZA rfl rfl ZY) (zZ rfl rfl rfl rfl (fun _=>zS rfl rfl rfl) (zN rfl rfl rfl rfl rfl cH (zZ rfl rfl rfl rfl (fun _=>zH rfl cI zQ rfl Zn) (OKS.mt (T:=[ab]) [0] [1,2,3,4,5,6,7] [B7,ap,aW,be,bd,.blk b3 28 B0,aX] rfl rfl rfl rfl dw rfl ⟨⟨0,by decide,_,rfl,rfl⟩,trivial⟩ (by decide) rfl (by decide) (fun _ Fb=>(Fb.ldB (j:=4) rfl rfl rfl yM (v:=.slice bV bB.length bY) rfl)) rfl (zZ rfl rfl rfl rfl (fun _=>ZA rfl rfl Za) (zk ?_ ?_)))))))))))))
 refine yn 1 rfl rfl rfl rfl (zK rfl rfl Zx (zB rfl (zB rfl zP)) rfl) dw (fun hs=>wAU (⟨cL,fy,fz⟩:wAE) ab cX dl (↑aZ.length:Int) tF ge hs qX qY) rfl (T:=[ab]) rfl ⟨fun b h=>(by cases h;exact .head _),trivial⟩ ?_
 rintro gf Hq IP mZ jZ Dx ⟨ir,ja,rfl,rfl,qZ⟩
 let mp:Res:=.blk ab 81 [.slice ir cn.bytes.length ja,jV cn.next,.int .u32 cn.state]
 have rB:SW w [B1] U gf [mp,B7,ap,aW,be,bd,.blk b3 28 B0,aX] mZ:=Dx
 refine zk ?_ ?_
 refine yn 1 rfl rfl rfl rfl (zK rfl rfl Zx (zB rfl (zB rfl zP)) rfl) rB (fun hs=>wAU cn ab ir ja (w64 ((↑ba.length:Int) + 1)) mZ gf hs qZ jw) rfl (T:=[ab]) rfl ⟨fun b h=>(by cases h;exact .head _),trivial⟩ ?_
 rintro gg Hr IQ m4 sG Dy ⟨it,jb,rfl,rfl,rc⟩
 let mq:Res:=.blk ab 81 [.slice it bI.bytes.length jb,jV bI.next,.int .u32 bI.state]
 have rC:SW w [B1] U gg [mq,B7,ap,aW,be,bd,.blk b3 28 B0,aX] m4:=Dy
 refine zk ?_ ?_
 refine zM 1 Z Z Z Z (zK Z Z Zx (zB Z (zB Z zP)) Z) rC (fun hs=>wAU bI ab it jb (↑bB.length:Int) m4 gg hs rc gN) (.inl Z) ?_
 rintro iN Hs IR tG Gw Dz ⟨lI,oO,rfl,rfl,BC⟩
 let mr:Res:=.blk ab 81 [.slice lI bN.bytes.length oO,jV bN.next,.int .u32 bN.state]
 have DA:SW w [B1] U iN [mr,B7,ap,aW,be,bd,.blk b3 28 B0,aX] tG:=Dz
 let iD:List Value:=[jV cy,jV cz,jV cA,jV 0]
 let ms:List Value:=[jV 0,jV 0,jV 0,jV 0]
 refine oR Z (zt (pv:=[(0,jV cy),(1,jV cz),(2,jV cA)]) (z:=ms) (cs:=iD) Z (wAB Z (wAB Z (wAB Z wAT))) Zt wGp Z Z) (zW (cs:=ms) Z Z Z Z Z Zt Z DA ?_)
 intro HX oh DB
 refine zY (j:=0) (vs:=iD) Z Z Z Z DB Z Z Z Z Zo (zA Z) Z Z Z ?_
 intro tH DC
 have DD:SW w [B1] U iN [.blk oh 78 iD,mr,B7,ap,aW,be,bd,.blk b3 28 B0,aX] tH:=DC
 refine zX ?_
 cases fb
 exact zG ⟨rfl,⟨iN,lI,oO,oh,cH,gI,cI,gJ,gK,rfl,eV,eY,((jZ.trans sG).trans Gw),(DD.pick [1,2,3,4,5,6,7,8,0] _ (by decide) rfl),BC⟩⟩
 let ga:List Value:=[jV 0,jV 0,jV 0,jV 0]
 refine zW (cs:=ga) Z Z Z Z Z Zt Z rC ?_
 intro m5 gi DE
 have DF:SW w [B1] U gg [mq,.blk gi 78 ga,B7,ap,aW,be,bd,.blk b3 28 B0,aX] m5:=DE.pick [1,0,2,3,4,5,6,7,8] _ (by decide) rfl
 refine zM 1 Z Z Z Z (zK Z Z Zx (zB Z (zB Z zP)) Z) DF (fun hs=>wAU bI ab it jb (↑bB.length:Int) m5 gg hs rc gN) (.inl Z) ?_
 rintro iO Ht IS tJ Gx DG ⟨lJ,oP,rfl,rfl,BD⟩
 let mu:Res:=.blk ab 81 [.slice lJ bN.bytes.length oP,jV bN.next,.int .u32 bN.state]
 have DH:SW w [B1] U iO [mu,.blk gi 78 ga,B7,ap,aW,be,bd,.blk b3 28 B0,aX] tJ:=DG
 let iF:List Value:=[jV cy,jV cz,jV cA,jV 0]
 refine oR Z (zt (pv:=[(0,jV cy),(1,jV cz),(2,jV cA)]) (z:=ga) (cs:=iF) Z (wAB Z (wAB Z (wAB Z wAT))) Zt wGp Z Z) (zY (j:=1) (vs:=iF) Z Z Z Z DH Z Z Z Z Zo (zA Z) Z Z Z ?_)
 intro tK DI
 have DJ:SW w [B1] U iO [mu,.blk gi 78 iF,B7,ap,aW,be,bd,.blk b3 28 B0,aX] tK:=DI
 refine zX ?_
 cases fb
 exact zG ⟨rfl,⟨iO,lJ,oP,gi,cH,gI,cI,gJ,gK,rfl,eV,eY,((jZ.trans sG).trans Gx),(DJ.pick [0,2,3,4,5,6,7,8,1] _ (by decide) rfl),BD⟩⟩
 let dV:List Value:=[jV 0,jV 0,jV 0,jV 0]
 refine zW (cs:=dV) Z Z Z Z Z Zt Z rB ?_
 intro m6 d9 DK
 have DL:SW w [B1] U gf [mp,.blk d9 78 dV,B7,ap,aW,be,bd,.blk b3 28 B0,aX] m6:=DK.pick [1,0,2,3,4,5,6,7,8] _ (by decide) rfl
 refine yn 1 rfl rfl rfl rfl (zK rfl rfl Zx (zB rfl (zB rfl zP)) rfl) DL (fun hs=>wAU cn ab ir ja (w64 ((↑ba.length:Int) + 1)) m6 gf hs qZ jw) rfl (T:=[ab]) rfl ⟨fun b h=>(by cases h;exact .head _),trivial⟩ ?_
 rintro mL Hu IT m7 Gy DM ⟨lK,oU,rfl,rfl,BE⟩
 have DN:SW w [B1] U mL [.blk ab 81 [.slice lK bI.bytes.length oU,jV bI.next,.int .u32 bI.state],.blk d9 78 dV,B7,ap,aW,be,bd,.blk b3 28 B0,aX] m7:=DM
 refine zM 1 Z Z Z Z (zK Z Z Zx (zB Z (zB Z zP)) Z) DN (fun hs=>wAU bI ab lK oU (↑bB.length:Int) m7 mL hs BE gN) (.inl Z) ?_
 rintro iP Hv IU tL Gz DO ⟨lL,oW,rfl,rfl,BF⟩
 let mw:Res:=.blk ab 81 [.slice lL bN.bytes.length oW,jV bN.next,.int .u32 bN.state]
 have DQ:SW w [B1] U iP [mw,.blk d9 78 dV,B7,ap,aW,be,bd,.blk b3 28 B0,aX] tL:=DO
 let iG:List Value:=[jV cy,jV cz,jV cA,jV 0]
 refine oR Z (zt (pv:=[(0,jV cy),(1,jV cz),(2,jV cA)]) (z:=dV) (cs:=iG) Z (wAB Z (wAB Z (wAB Z wAT))) Zt wGp Z Z) (zY (j:=1) (vs:=iG) Z Z Z Z DQ Z Z Z Z Zo (zA Z) Z Z Z ?_)
 intro tM DR
 have DS:SW w [B1] U iP [mw,.blk d9 78 iG,B7,ap,aW,be,bd,.blk b3 28 B0,aX] tM:=DR
 refine zX ?_
 cases fb
 exact zG ⟨rfl,⟨iP,lL,oW,d9,cH,gI,cI,gJ,gK,rfl,eV,eY,((jZ.trans Gy).trans Gz),(DS.pick [0,2,3,4,5,6,7,8,1] _ (by decide) rfl),BF⟩⟩
 let db:List Value:=[jV 0,jV 0,jV 0,jV 0]
 refine zW (cs:=db) Z Z Z Z Z Zt Z dw ?_
 intro m8 df DT
 have DU:SW w [B1] U ge [.blk ab 81 [.slice cX cL.length dl,jV fy,.int .u32 fz],.blk df 78 db,B7,ap,aW,be,bd,.blk b3 28 B0,aX] m8:=DT.pick [1,0,2,3,4,5,6,7,8] _ (by decide) rfl
 refine yn 1 rfl rfl rfl rfl (zK rfl rfl Zx (zB rfl (zB rfl zP)) rfl) DU (fun hs=>wAU (⟨cL,fy,fz⟩:wAE) ab cX dl (↑aZ.length:Int) m8 ge hs qX qY) rfl (T:=[ab]) rfl ⟨fun b h=>(by cases h;exact .head _),trivial⟩ ?_
 rintro mM Hw IV m9 GA DV ⟨lN,o3,rfl,rfl,BG⟩
 have DW:SW w [B1] U mM [.blk ab 81 [.slice lN cn.bytes.length o3,jV cn.next,.int .u32 cn.state],.blk df 78 db,B7,ap,aW,be,bd,.blk b3 28 B0,aX] m9:=DV
 refine yn 1 rfl rfl rfl rfl (zK rfl rfl Zx (zB rfl (zB rfl zP)) rfl) DW (fun hs=>wAU cn ab lN o3 (w64 ((↑ba.length:Int) + 1)) m9 mM hs BG jw) rfl (T:=[ab]) rfl ⟨fun b h=>(by cases h;exact .head _),trivial⟩ ?_
 rintro mN Hx IW n5 GB DX ⟨lO,o5,rfl,rfl,BH⟩
 have DY:SW w [B1] U mN [.blk ab 81 [.slice lO bI.bytes.length o5,jV bI.next,.int .u32 bI.state],.blk df 78 db,B7,ap,aW,be,bd,.blk b3 28 B0,aX] n5:=DX
 refine zM 1 Z Z Z Z (zK Z Z Zx (zB Z (zB Z zP)) Z) DY (fun hs=>wAU bI ab lO o5 (↑bB.length:Int) n5 mN hs BH gN) (.inl Z) ?_
 rintro iQ Hy IX tO GC DZ ⟨lP,o6,rfl,rfl,BI⟩
 let my:Res:=.blk ab 81 [.slice lP bN.bytes.length o6,jV bN.next,.int .u32 bN.state]
 have D0:SW w [B1] U iQ [my,.blk df 78 db,B7,ap,aW,be,bd,.blk b3 28 B0,aX] tO:=DZ
 let iH:List Value:=[jV cy,jV cz,jV cA,jV 0]
 refine oR Z (zt (pv:=[(0,jV cy),(1,jV cz),(2,jV cA)]) (z:=db) (cs:=iH) Z (wAB Z (wAB Z (wAB Z wAT))) Zt wGp Z Z) (zY (j:=1) (vs:=iH) Z Z Z Z D0 Z Z Z Z Zo (zA Z) Z Z Z ?_)
 intro tP D5
 have D6:SW w [B1] U iQ [my,.blk df 78 iH,B7,ap,aW,be,bd,.blk b3 28 B0,aX] tP:=D5
 refine zX ?_
 cases fb
 exact zG ⟨rfl,⟨iQ,lP,o6,df,cH,gI,cI,gJ,gK,rfl,eV,eY,((GA.trans GB).trans GC),(D6.pick [0,2,3,4,5,6,7,8,1] _ (by decide) rfl),BI⟩⟩
 rintro JA n6 ⟨mO,fL,gw,bD,qE,y6,qF,qG,qH,dq,y7,y8,gX,eZ,BJ⟩
 refine sR fL8 Z (oR Z (zH Z qF zQ Z Zn) (oL Z (eZ.ldB (j:=5) Z Z Z yM (v:=.slice bV bB.length bY) Z) (oR Z (zH Z dq ZM Z zC) (oL Z (eZ.ldB (j:=8) Z Z Z zE (v:=jV bw) Z) (bnK rQ fun _ gO FL=>?_)))))
 obtain ⟨H8,rk⟩:=eZ.rowSome (j:=3) rfl (by rw [wAF (f:=wAA) (sz:=3) (fun _=>rfl) bB];have hz:=wAP gO;omega)
 refine oR Z (zm Z Z rk Z Za Zs (wAp gO) (wAq gO)) (oR Z (zH Z Z Zz Z zC) ?_)
 have Fz:=wAy (xs:=bB) (wAP gO)
 refine ZF rfl rfl rfl rfl (eZ.ldR (j:=3) rfl rk rfl rfl zE (wAR (sz:=3) (fun _=>rfl) _ _ 2 _ Fz (by first | omega | rfl | simp) rfl)) rfl (yK rfl rfl rfl rfl rfl rfl (eN (zI (zx zr [3,3,1004,3,1004,3,1004,3,1004,3,3,1004,3,1004,3,3,3,3,3,1005,3,3,3,0,ab] (wUL (.fx 19 (wSc (.fx 23 .nil .stop)) .stop)) (by kernel_rfl) ?_))))
 have ci:=eZ.drew
 generalize hw_W2138:({ n6 with drawn:=n6.drawn + 1 }:World)=tQ at ci ⊢
 refine zN rfl rfl rfl rfl rfl qG (zZ rfl rfl rfl rfl (fun _=>zH rfl dq ZM rfl zC) (OKS.mt (T:=[ab]) [0] [1,2,3,4,5,6,7,8] [B7,ap,aW,be,bd,.blk b3 28 B0,aX,.blk bD 78 cr] rfl rfl rfl rfl ci rfl ⟨⟨0,by decide,_,rfl,rfl⟩,trivial⟩ (by decide) rfl (by decide) (fun _ Fc=>(Fc.ldB (j:=7) rfl rfl rfl zE (v:=jV cm) rfl)) rfl (bnK FL fun ib dr FM=>?_)))
 have BK:=sk.le gW
 have re:=BK.le gX
 have q:=re.el (wAi dr)
 obtain ⟨um,GQ,I9,CB,jA,F2⟩:=q
 obtain ⟨sI,sK,rfl,BL⟩:=F2
 replace jA:Cl mO um (GQ + cm.toNat * 1) [.slice sI ib.length sK]:=jA
 refine zZ rfl rfl rfl rfl (fun _=>zm rfl rfl CB rfl ZV zq (wBt dr) (wBv dr)) (OKS.mt (T:=[ab]) [0] [1,2,3,4,5,6,7,8] [B7,ap,aW,be,bd,.blk b3 28 B0,aX,.blk bD 78 cr] rfl rfl rfl rfl ci rfl ⟨⟨0,by decide,_,rfl,rfl⟩,trivial⟩ (by decide) rfl (by decide) (fun _ Fd=>(Fd.ldC (f:=0) jA (v:=.slice sI ib.length sK) rfl rfl zw rfl)) rfl (zZ rfl rfl rfl rfl (fun _=>zH rfl dq ZM rfl zC) (OKS.mt (T:=[ab]) [0] [1,2,3,4,5,6,7,8] [B7,ap,aW,be,bd,.blk b3 28 B0,aX,.blk bD 78 cr] rfl rfl rfl rfl ci rfl ⟨⟨0,by decide,_,rfl,rfl⟩,trivial⟩ (by decide) rfl (by decide) (fun _ Fe=>(Fe.ldB (j:=7) rfl rfl rfl zE (v:=jV cP) rfl)) rfl (bnK FM fun cB dt FN=>?_))))
 have q:=BL.el (fun _=>rfl) (wAi dt)
 obtain ⟨H9,IF,CD,CG⟩:=q
 refine zZ rfl rfl rfl rfl (fun _=>zm rfl rfl CD rfl zD zC (wBt dt) (wBv dt)) (OKS.mt (T:=[ab]) [0] [1,2,3,4,5,6,7,8] [B7,ap,aW,be,bd,.blk b3 28 B0,aX,.blk bD 78 cr] rfl rfl rfl rfl ci rfl ⟨⟨0,by decide,_,rfl,rfl⟩,trivial⟩ (by decide) rfl (by decide) (fun _ Ff=>(Ff.ldC (f:=0) CG (v:=jV cB) rfl rfl zE rfl)) rfl (zN rfl rfl rfl rfl rfl qH (zZ rfl rfl rfl rfl (fun _=>zH rfl dq ZM rfl zC) (OKS.mt (T:=[ab]) [0] [1,2,3,4,5,6,7,8] [B7,ap,aW,be,bd,.blk b3 28 B0,aX,.blk bD 78 cr] rfl rfl rfl rfl ci rfl ⟨⟨0,by decide,_,rfl,rfl⟩,trivial⟩ (by decide) rfl (by decide) (fun _ Fg=>(Fg.ldB (j:=7) rfl rfl rfl zE (v:=jV bw) rfl)) rfl (bnK FN fun _ cJ FO=>?_)))))
 obtain ⟨Ia,gQ⟩:=ci.rowSome (j:=7) rfl (by rw [wAF (f:=KL.encI) (sz:=1) (fun _=>rfl) bF];have hz:=wAP cJ;omega)
 refine oR Z (zm Z Z gQ Z zD zC (wAp cJ) (wAq cJ)) ?_
 have FA:=wAy (xs:=bF) (wAP cJ)
 refine OKS.mt (T:=[ab]) [0] [1,2,3,4,5,6,7,8] [B7,ap,aW,be,bd,.blk b3 28 B0,aX,.blk bD 78 cr] rfl rfl rfl rfl ci rfl ⟨⟨0,by decide,_,rfl,rfl⟩,trivial⟩ (by decide) rfl (by decide) (fun _ Fh=>(Fh.ldR (j:=6) rfl gQ rfl rfl zE (wAR (sz:=1) (fun _=>rfl) _ _ 0 _ FA (by first | omega | rfl | simp) rfl))) rfl (zZ rfl rfl rfl rfl (fun _=>zS rfl rfl rfl) (zN rfl rfl rfl rfl rfl qE (zN rfl rfl rfl rfl rfl rfl (zZ rfl rfl rfl rfl (fun _=>Runs.negw rfl rfl) (zN rfl rfl rfl rfl rfl rfl ?_)))))
 have q:=bnd FO
 obtain ⟨⟨dz,j6⟩,BM,rV⟩:=q
 try dsimp only at rV
 refine yn 1 rfl rfl rfl rfl (zK rfl rfl Tryz.call24 (zB rfl (zB rfl (zB rfl zP))) rfl) ci (fun hs=>wAe (⟨gU,sM,sN⟩:wAE) ab fL gw (w64 (-((gd bB bw.toNat).Error))) ((gd bB bw.toNat).Error) tQ mO hs BJ BM) rfl (T:=[ab]) rfl ⟨fun b h=>(by cases h;exact .head _),trivial⟩ ?_
 rintro bX Hz IY tR gZ D8 ⟨fN,gA,rfl,rfl,jx⟩
 let dW:Res:=.blk ab 81 [.slice fN j6.bytes.length gA,jV j6.next,.int .u32 j6.state]
 have D9:SW w [B1] U bX [dW,B7,ap,aW,be,bd,.blk b3 28 B0,aX,.blk bD 78 cr] tR:=D8
 refine oR Z (zS Z Z Z) (oR Z (Runs.max Z Z Z) (oR Z (zH Z dq ZM Z zC) (zY (j:=8) (vs:=[jV (max 0 (w64 ((w64 (cB + (gd bF bw.toNat))) + dz)))]) Z Z Z Z D9 Z Z Z Z zC (zA Z) Z Z Z ?_)))
 intro iW Ea
 let cE:List Value:=[jV cm,jV cP,jV bw,jV (max 0 (w64 ((w64 (cB + (gd bF bw.toNat))) + dz)))]
 have Eb:SW w [B1] U bX [dW,B7,ap,aW,be,bd,.blk b3 28 B0,aX,.blk bD 78 cE] iW:=Ea
 refine eN (zI (yh fun cp bT=>?_))
 have jk:cp 0=.pointer (some ⟨ab,0,none⟩):=(bT 0).trans qE
 have jl:cp 8=.pointer (some ⟨b3,0,none⟩):=(bT 8).trans y6
 have eW:cp 11=.pointer (some ⟨b7,0,none⟩):=(bT 11).trans qF
 have gL:cp 12=.slice bq bA.length br:=(bT 12).trans qG
 have gM:cp 13=.slice cW bF.length dk:=(bT 13).trans qH
 have eX:cp 22=.pointer (some ⟨bD,0,none⟩):=(bT 22).trans dq
 have qJ:cp 23=jV ((gd bB bw.toNat).Error):=(bT 23).trans rfl
 have jm:cp 133=jV dy:=(bT 133).trans y7
 have jo:cp 134=jV (↑cK:Int):=(bT 134).trans y8
 clear bT
 refine zx zr [3,1,3,3,1,3,1,3,1,3,1,3,3,3,1,3,1,3,3] fL19 (by kernel_rfl) ?_
 have bG:=Eb.drew
 generalize hw_W2200:({ iW with drawn:=iW.drawn + 1 }:World)=H0 at bG ⊢
 refine oR Z (zH Z eX ZM Z zC) (oL Z (bG.ldB (j:=8) Z Z Z zE (v:=jV (max 0 (w64 ((w64 (cB + (gd bF bw.toNat))) + dz)))) Z) (oM Z gL (oR Z (zH Z eX ZM Z zC) (oL Z (bG.ldB (j:=8) Z Z Z zE (v:=jV cm) Z) ?_))))
 have BN:=re.le gZ
 have q:=BN.el (wAi dr)
 obtain ⟨uo,GR,Ja,CE,jB,F3⟩:=q
 obtain ⟨sJ,sL,rfl,BP⟩:=F3
 replace jB:Cl bX uo (GR + cm.toNat * 1) [.slice sJ ib.length sL]:=jB
 refine oR Z (zm Z Z CE Z ZV zq (wBt dr) (wBv dr)) (oL Z (bG.ldC (f:=0) jB (v:=.slice sJ ib.length sL) Z Z zw Z) (oR Z (zH Z eX ZM Z zC) (oL Z (bG.ldB (j:=8) Z Z Z zE (v:=jV cP) Z) ?_)))
 have q:=BP.el (fun _=>rfl) (wAi dt)
 obtain ⟨Ib,IG,CF,CH⟩:=q
 refine oR Z (zm Z Z CF Z zD zC (wBt dt) (wBv dt)) (oL Z (bG.ldC (f:=0) CH (v:=jV cB) Z Z zE Z) (oR Z (ZX Z Z Z) (oM Z gM (oR Z (zH Z eX ZM Z zC) (oL Z (bG.ldB (j:=8) Z Z Z zE (v:=jV bw) Z) (oR Z (zm Z Z gQ Z zD zC (wAp cJ) (wAq cJ)) ?_))))))
 have FB:=wAy (xs:=bF) (wAP cJ)
 refine ZF rfl rfl rfl rfl (bG.ldR (j:=7) rfl gQ rfl rfl zE (wAR (sz:=1) (fun _=>rfl) _ _ 0 _ FB (by first | omega | rfl | simp) rfl)) rfl (zZ rfl rfl rfl rfl (fun _=>ZX rfl rfl rfl) (yK rfl rfl rfl rfl rfl rfl (eN (sR fL9 rfl (zN rfl rfl rfl rfl rfl rfl (zN rfl rfl rfl rfl rfl qJ (zZ rfl rfl rfl rfl (fun _=>Runs.negw rfl rfl) (zZ rfl rfl rfl rfl (fun _=>Runs.geq rfl rfl rfl) (zN rfl rfl rfl rfl rfl rfl (ifc rV ?_ ?_))))))))))
 intro bZ FP
 refine zN Z Z Z (wT Z bZ) Z Z (zN Z Z Z (wT Z bZ) Z qJ (rU Z (wT Z bZ) (Runs.leq Z Z Z) (oR Z (zf Z (Zd bZ.out) Z) (eN (ifc FP ?_ ?_)))))
 intro jc FQ
 refine cT Z jc (rR (wEU (.fx 3 (.fx 4 (.fl 5 (.fx 6 .nil .stop)) .stop) .stop)) Z (oR Z (zH Z eW zQ Z yY) (oL Z (bG.ldB (j:=5) Z Z Z Tryz.isAgg26 (v:=.slice cq cM.length ct) Z) (oL Z (bG.ldBA (j:=8) Z Z eX Tryz.isAgg78 Zo (vs:=cE) Z Z) (zz (pv:=[(0,.agg cE.toArray)]) (zs:=[jV 0,jV 0,jV 0,jV 0]) (cs:=cE) Z Z Z Z Z (wAB Z wAT) yI Zo Zt Z Z Z Z Z bG ?_)))))
 intro tS uq Ec
 let iI:Res:=.row (some ⟨uq,0,none⟩) 1 78 4 (hH wAJ [(⟨cm,cP,bw,max 0 (w64 ((w64 (cB + (gd bF bw.toNat))) + dz))⟩:wAX)])
 have rD:SW w [B1] U bX [iI,dW,B7,ap,aW,be,bd,.blk b3 28 B0,aX,.blk bD 78 cE] tS:=Ec
 refine bnK FQ fun ic BQ FR=>Zv (j:=5) (enc:=wAJ) (xs:=cM) (ys:=[(⟨cm,cP,bw,max 0 (w64 ((w64 (cB + (gd bF bw.toNat))) + dz))⟩:wAX)]) (zs:=ic) rfl rfl rfl rfl rfl Tryz.underlying26 wTp rfl rfl rfl rfl rfl rfl rD rfl rfl rfl (rD.srcR (j:=0) rfl (by decide) (wAF (f:=wAJ) (sz:=4) (fun _=>rfl) [(⟨cm,cP,bw,max 0 (w64 ((w64 (cB + (gd bF bw.toNat))) + dz))⟩:wAX)])) (fun _=>rfl) (fun _=>rfl) BQ rfl ?_
 intro fO gB tT Ee
 let mA:Res:=.row fO gB 78 4 (hH wAJ ic)
 have Ef:SW w [B1] U bX [iI,dW,B7,ap,aW,mA,bd,.blk b3 28 B0,aX,.blk bD 78 cE] tT:=Ee
 refine oR Z (zH Z eW zQ Z yY) (zY (j:=6) (vs:=[.slice fO ic.length gB]) Z Z Z Z Ef Z Z Z Z yY (zA Z) Z Z Z ?_)
 intro tU Eg
 have Eh:SW w [B1] U bX [iI,dW,B7,ap,aW,mA,.blk b7 28 [.slice bm aZ.length bn,.slice bt ba.length bu,.slice bV bB.length bY,.slice fO ic.length gB],.blk b3 28 B0,aX,.blk bD 78 cE] tU:=Eg
 refine zX (zj (zG (rR fL2 Z (oR Z (ZR (zS Z jo Z) (congrArg (jV) jJ.out)) (oM Z Z (zX ?_))))))
 cases FR
 exact zG ⟨rfl,⟨bX,fN,gA,fO,gB,rfl,jk,jl,eW,gL,gM,jm,((gW.trans gX).trans gZ),(Eh.pick [1,2,3,4,5,6,7,8] _ (by decide) rfl),jx⟩⟩
 intro jc FS
 refine cF Z jc (ZT (zj (zG (rR fL2 Z (oR Z (ZR (zS Z jo Z) (congrArg (jV) jJ.out)) (oM Z Z (zX ?_)))))))
 cases FS
 exact zG ⟨rfl,⟨bX,fN,gA,cq,ct,rfl,jk,jl,eW,gL,gM,jm,((gW.trans gX).trans gZ),(bG.pick [0,1,2,3,4,5,6,7] _ (by decide) rfl),jx⟩⟩
 intro bZ FT
 refine oF Z bZ (oF Z bZ (oF Z bZ (oR Z (zn Z (ZQ bZ.out) Z) (eN (zo Z (ZT (zj (zG (rR fL2 Z (oR Z (ZR (zS Z jo Z) (congrArg (jV) jJ.out)) (oM Z Z (zX ?_))))))))))))
 cases FT
 exact zG ⟨rfl,⟨bX,fN,gA,cq,ct,rfl,jk,jl,eW,gL,gM,jm,((gW.trans gX).trans gZ),(bG.pick [0,1,2,3,4,5,6,7] _ (by decide) rfl),jx⟩⟩
 rintro JB H1 ⟨mP,lR,o8,iu,jd,Bd,Iw,qK,Aa,Ab,Ac,Ad,GD,rE,BS⟩
 have uz:Hid (¬ ((↑((dy:Int) - 0).toNat:Int) < dy)):=zJ (wAv)
 refine sR fL1 Z (oR Z (zO Z Bd Ad) (eN (zI (cF Z uz (ZP (zd (zd (ZJ (zG (sR (wEU (.fx 3 gAc .stop)) Z ?_))))))))))
 let de:List Value:=[.slice bm aZ.length bn,.slice bt ba.length bu,.slice bV bB.length bY,.slice iu sP.length jd]
 refine oL Z (rE.ldBA (j:=5) Z Z Aa ZH zu (vs:=de) Z Z) (oM Z Ab (oM Z Ac (zY (j:=6) (vs:=de) Z Z Z Z rE Z qK Z Z zu (zA Z) Z Z Z ?_)))
 intro tV Ei
 have rF:SW w [B1] U mP [.blk ab 81 [.slice lR GT.length o8,jV GU,.int .u32 GV],B7,ap,aW,.row iu jd 78 4 (hH wAJ sP),.blk b7 28 de,.blk b3 28 de,aX] tV:=Ei
 refine oA Z Z (oA Z Z (eN (zV ?_)))
 have BT:=sk.le GD
 cases rP
 exact ⟨rfl,_,(wEV (rs:=[.cell 8 28,.tmp 9,.tmp 10]) (vs:=[.agg de.toArray,.slice bq bA.length br,.slice cW bF.length dk]) ⟨⟨_,qK,(wBX ZH zu (rF.blkAt (k:=6) rfl) (vs:=de) rfl rfl)⟩,⟨rfl,⟨rfl,trivial⟩⟩⟩ rfl),mP,_,(rF.pick [1,2,3,4,7,0] _ (by decide) rfl),bm,bn,bt,bu,bV,bY,iu,jd,bq,br,cW,dk,lR,o8,rfl,rfl,BT,BS⟩
end Go.Proofs.YtkedcbligiebkaaGreat
namespace Go.Proofs.YtkedcbligiebkaaGreat
open Go.KL
set_option maxHeartbeats 4000000
theorem wEQ (p0:List wAI) (az:Option Addr) (aU:Nat) (p1:(wAI->Option Bool)) (aV:Value) (w:World) (U:PHeap) (hS:St0 w U []) (bF:Sl U 2 az aU p0.length (hH wAm p0)) (bG:FnOK Tryz.prog U aV wTe wTf p1) {r:Bool} (hm:wBK p0 p1=some r):Gv Tryz.prog 96 [.slice az p0.length aU,aV] w (wCW w [] U (fun U_ L_ v=>v=.bool r/\L_=[])):=by
 unfold wBK at hm
 refine Gv.of Tryz.func96 Z Tryz.ntmps96 Tryz.results96 Z (sR fL1 Z (oA Z Z (eN (zI (sR fL3 Z (oM Z Z (oR Z (ZA Z Z Ze) (oM Z Z (eN (zU ?_))))))))))
 have q:=wCQ hm
 obtain ⟨r3,ap⟩:=q
 have q:=wCP ap
 obtain ⟨au,bJ⟩:=q
 replace au:=zJ au
 refine yX (fun k2 _ σ_ w_=>∃ (U_:PHeap),σ_ 9=jV (↑k2:Int)/\σ_ 1=aV/\σ_ 7=.slice az p0.length aU/\σ_ 8=jV (↑p0.length:Int)/\PHeap.Le U U_/\sW w U U_ [] w_) bJ ?_ ?_ ?_
 exact ⟨U,Z,Z,Z,Z,(zL _),hS⟩
 rintro k2 ⟨⟩ ci cm W8 aq ⟨bk,am,aY,aZ,ba,av,bd⟩ bi bH
 try dsimp only at bi
 have aX:Hid ((↑k2:Int) < (↑p0.length:Int)):=zJ (wBP aq)
 replace aq:=zJ aq
 have bK:Hid (w64 ((↑k2:Int) + 1)=(↑(k2 + 1):Int)):=zJ (by have h1:=au.out;have h2:=aX.out;rw [wAa] <;> omega)
 refine sR fL1 Z (oR Z (zO Z am ba) (eN (zI (cT Z aX (kN (zI (zU (sR gAs Z (bnK bi fun ae bb bL=>?_)))))))))
 have bu:=bF.le av
 have q:=bu.el (fun _=>rfl) (wAi bb)
 obtain ⟨bW,cb,bz,bA⟩:=q
 refine oR Z (Zp Z aZ bz am Ze Zk (wCv bb)) (oL Z (bd.ldCA (f:=0) bA Z Z Tryz.isAgg36 Zk (us:=[jV ae.Bib,jV ae.Time]) Z Z) (zW (cs:=[jV 0,jV 0]) Z Z Z Z Z yi Z bd ?_))
 intro bT aW bB
 let B0:List Value:=[jV ae.Bib,jV ae.Time]
 refine zY (j:=0) (vs:=B0) Z Z Z Z bB Z Z Z Z Zk (zA Z) Z Z Z ?_
 intro bn bC
 have be:sW w U bk [.blk aW 36 B0] bn:=bC
 refine eN (sR gAr Z (oM Z aY (oL Z (be.ldBA (j:=0) Z Z Z Tryz.isAgg36 Zk (vs:=B0) Z Z) (bnK bL fun x37 bv bM=>?_))))
 have bw:=bG.le av
 refine yd (a:=ae) Z Z Z Z Z Z (zB Z zP) be bw Z bv ?_
 rintro aj bS cf bo bQ bD ⟨rfl,rfl⟩
 have bg:sW w U aj [.blk aW 36 B0] bo:=bD
 refine oR Z (Zf Z Z) (eN (ifc bM ?_ ?_))
 intro ak bN
 refine zo (nC ak.out) (ZT (zj (zG (rR fL2 Z (oR Z (ZR (zS Z am Z) (congrArg (jV) bK.out)) (oM Z Z (zX ?_)))))))
 have q:=nA bN
 obtain rfl:=q
 exact zG ⟨rfl,_,rfl,⟨aj,rfl,aY,aZ,ba,(av.trans bQ),(bg.pick [] _ (by decide) rfl)⟩⟩
 intro ak bO
 refine ZI (nF (ak.out)) (sR fL1 Z (oA Z Z (eN (zV (zi (zR ?_))))))
 have q:=wAb bO
 obtain ⟨bR,bP,bq⟩:=q
 have q:=wBf hm ap (bH bR bq)
 obtain rfl:=q
 refine zR (zi (zR ?_))
 have hE:=nA bP;first | subst r | cases hE
 exact ⟨rfl,_,(ZS rfl),aj,_,(bg.pick [] _ (by decide) rfl),rfl,rfl⟩
 rintro ⟨⟩ cj bU ⟨bm,bt,bX,bY,br,bZ,bE⟩ bI
 have bh:=wDd hm ap bI
 try dsimp only at bh
 have bp:Hid (¬ ((↑(((↑p0.length:Int):Int) - 0).toNat:Int) < (↑p0.length:Int))):=zJ (wAv)
 refine sR fL1 Z (oR Z (zO Z bt br) (eN (zI (cF Z bp (ZP (zd (zd (ZJ (zG (sR fL1 Z (oA Z Z (eN (zV ?_)))))))))))))
 have hE:=nA bh;first | subst r | cases hE
 exact ⟨Z,_,(ZS Z),bm,_,bE,Z,Z⟩
theorem wFA (p0:Int) (p1:Int) (p2:Int) (w:World) (U:PHeap) (hS:St0 w U [])  {r:Bool} (hm:wCo p0 p1 p2=some r):Gv Tryz.prog 98 [jV p0,jV p1,jV p2] w (wCW w [] U (fun U_ L_ v=>v=.bool r/\L_=[])):=by
 unfold wCo at hm
 refine Gv.of Tryz.func98 Z Tryz.ntmps98 Tryz.results98 Z (sR fL1 Z (oA Z Z (eN (sR fL9 Z (oM Z Z (oM Z Z (oR Z (Runs.geq Z Z Z) (oM Z Z ?_))))))))
 by_cases c1:p1 <= p0
 have ab:=hm;rw [if_pos c1] at ab;replace c1:=zJ c1
 refine zN Z Z Z (wT Z c1) Z Z (zN Z Z Z (wT Z c1) Z Z (rU Z (wT Z c1) (Runs.leq Z Z Z) (oR Z (zf Z (Zd c1.out) Z) (oA Z Z (eN (zV ?_))))))
 first | (obtain rfl:=nA ab) | cases ab
 exact ⟨Z,_,(ZS Z),U,_,hS,Z,Z⟩
 have aj:=hm;rw [if_neg c1] at aj;replace c1:=zJ c1
 refine oF Z c1 (oF Z c1 (oF Z c1 (oR Z (zn Z (ZQ c1.out) Z) (oA Z Z (eN (zV ?_))))))
 have hE:=nA aj;first | subst r | cases hE
 exact ⟨Z,_,(ZS Z),U,_,hS,Z,Z⟩
theorem wGL (p0:wAI) (w:World) (U:PHeap) (hS:St0 w U [])  {r:Bool} (hm:wBL p0=some r):Gv Tryz.prog 97 [.agg #[jV p0.Bib,jV p0.Time]] w (wCW w [] U (fun U_ L_ v=>v=.bool r/\L_=[])):=by
 unfold wBL at hm
 refine Gv.of Tryz.func97 Z Tryz.ntmps97 Tryz.results97 Z (sR gAh Z ?_)
 let B0:List Value:=[jV p0.Bib,jV p0.Time]
 refine ZK (cs:=B0) rfl rfl rfl rfl rfl rfl (by rfl) hS ?_
 intro W1 b2 aq
 refine oA Z Z (eN (sR (.fl 0 (.fl 1 (.fx 2 (wQG gAi) .stop))) Z (oR Z (zH Z Z yE Z zC) (oL Z (aq.ldB (j:=0) Z Z Z zE (v:=jV p0.Bib) Z) (bnK hm fun x5 h6 bb=>zM 0 Z Z Z Z (zK Z Z Tryz.call98 (zB Z (zB Z (zB Z zP))) Z) aq (fun hs=>wFA p0.Bib 1 999 W1 U hs h6) (.inr Z) ?_)))))
 rintro U8 L9 bi am bg aV ⟨rfl,rfl⟩
 have aj:sW w U U8 [.blk b2 36 B0] am:=aV
 refine oM Z Z (ifc bb ?_ ?_)
 intro aa aY
 refine zZ Z Z Z (ze Z Z (congrArg nJ aa.out)) (fun _=>zH Z Z yE Z zC) (ZF Z Z Z (ze Z Z (congrArg nJ aa.out)) (aj.ldB (j:=0) Z Z Z zE (v:=jV p0.Time) Z) Z (bnK aY fun bk az aZ=>zM 0 Z Z Z (ze Z Z (congrArg nJ aa.out)) (zK Z Z Tryz.call98 (zB Z (zB Z (zB Z zP))) Z) aj (fun hs=>wFA p0.Time 0 360000 am U8 hs az) (.inr Z) ?_))
 rintro ak bd bj av bh aW ⟨rfl,rfl⟩
 have aX:sW w U ak [.blk b2 36 B0] av:=aW
 refine oR Z (zf Z (congrArg nJ aa.out) Z) (oA Z Z (eN (zV ?_)))
 have hE:=nA aZ;first | subst r | cases hE
 exact ⟨rfl,_,(ZS rfl),ak,_,(aX.pick [] _ (by decide) rfl),rfl,rfl⟩
 intro aa ba
 refine yJ Z Z Z (Zg Z Z (congrArg nJ (nL.2 aa.out)) Z) (yJ Z Z Z (Zg Z Z (congrArg nJ (nL.2 aa.out)) Z) (OKS.px Z Z Z (Zg Z Z (congrArg nJ (nL.2 aa.out)) Z) (oR Z (zn Z (congrArg nJ (nL.2 aa.out)) Z) (oA Z Z (eN (zV ?_))))))
 have hE:=nA ba;first | subst r | cases hE
 exact ⟨rfl,_,(ZS rfl),U8,_,(aj.pick [] _ (by decide) rfl),rfl,rfl⟩
theorem wIy (p0:List Int) (aU:Option Addr) (aV:Nat) (w:World) (U:PHeap) (hS:St0 w U []) (bA:Sl U 1 aU aV p0.length (hH KL.encI p0)) {r:Bool} (hm:wDB p0=some r):Gv Tryz.prog 99 [.slice aU p0.length aV] w (wCW w [] U (fun U_ L_ v=>v=.bool r/\L_=[])):=by
 unfold wDB at hm
 refine Gv.of Tryz.func99 Z Tryz.ntmps99 Tryz.results99 Z (sR fL1 Z (oA Z Z (eN (sR gAh Z (yg Z Z Z Z Z hS ?_)))))
 intro W1 b2 bu
 have bK:=MpR.nil wOf wPh
 refine oA Z Z (eN (zI (sR fL3 Z (oM Z Z (oR Z (ZA Z Z zD) (oM Z Z (eN (zU ?_))))))))
 have q:=wCQ hm
 obtain ⟨bZ,au⟩:=q
 have q:=wCP au
 obtain ⟨az,bD⟩:=q
 replace az:=zJ az
 refine yX (fun ab bh σ_ w_=>∃ (U_:PHeap) (am:Array MapEntry) (aY:Nat),σ_ 9=jV (↑ab:Int)/\σ_ 3=.map (some b2)/\σ_ 7=.slice aU p0.length aV/\σ_ 8=jV (↑p0.length:Int)/\PHeap.Le U U_/\sW w U U_ [.obj b2 (.map am aY)] w_/\MpR am wOf wPh bh) bD ?_ ?_ ?_
 exact ⟨U,#[],0,Z,Z,Z,Z,(zL _),bu,bK⟩
 rintro ab bh cb cf bP av ⟨ai,am,aY,aq,ap,bb,bd,bi,ae,be⟩ bM bB
 have aX:Hid ((↑ab:Int) < (↑p0.length:Int)):=zJ (wBP av)
 replace av:=zJ av
 have bE:Hid (w64 ((↑ab:Int) + 1)=(↑(ab + 1):Int)):=zJ (by have h1:=az.out;have h2:=aX.out;rw [wAa] <;> omega)
 refine sR fL1 Z (oR Z (zO Z aq bd) (eN (zI (cT Z aX (kN (zI (zU (sR fL3 Z (bnK bM fun aW bg bF=>?_)))))))))
 have bq:=bA.le bi
 have q:=bq.el (fun _=>rfl) (wAi bg)
 obtain ⟨bR,bY,br,bt⟩:=q
 refine oR Z (Zp Z bb br aq zD zC (wCv bg)) (oL Z (ae.ldC (f:=0) bt (v:=jV aW) Z Z zE Z) (oA Z Z (eN (zI (sR fL3 Z (oM Z ap (oM Z Z (oL Z (ae.lookup1 (j:=0) (mk:=wOf) (mv:=wPh) (a:=aW) (z:=false) Z Z Z Z (wBu Tryz.runUnderlying191) wOh Tryz.zeroValue4 be) (eN (ifc bF ?_ ?_))))))))))
 intro ak bG
 refine ZI (congrArg nJ ak.out) (sR fL1 Z (oA Z Z (eN (zV (zR (zi (zR ?_)))))))
 have q:=wAb bG
 obtain ⟨bN,bH,bn⟩:=q
 have q:=wBf hm au (bB bN bn)
 obtain rfl:=q
 refine zR (zi (zR ?_))
 have hE:=nA bH;first | subst r | cases hE
 exact ⟨rfl,_,(ZS rfl),ai,_,(ae.pick [] _ (by decide) rfl),rfl,rfl⟩
 intro ak bI
 refine zo (congrArg nJ (nL.2 ak.out)) (kN (rR gAo rfl (zN rfl rfl rfl rfl rfl ap (zN rfl rfl rfl rfl rfl rfl (OKS.mapPut (x:=.tmp 16) (y:=.tmp 17) (j:=0) (mk:=wOf) (mv:=wPh) (a:=aW) (v:=true) rfl rfl rfl (by first | exact .inl rfl | exact .inr rfl) ae rfl rfl rfl rfl (wBu Tryz.runUnderlying191) wOh be rfl ?_)))))
 intro ba aZ bk bL bv
 have bw:sW w U ai [.obj b2 (.map ba aZ)] bk:=bv
 refine zX (zj (zG (rR fL2 Z (oR Z (ZR (zS Z aq Z) (congrArg (jV) bE.out)) (oM Z Z (zX ?_))))))
 have q:=nA bI
 obtain rfl:=q
 exact zG ⟨Z,_,Z,⟨ai,ba,aZ,Z,ap,bb,bd,bi,bw,bL⟩⟩
 rintro cd ci bQ ⟨bj,bT,bS,bp,bU,bV,bo,bX,bz,bW⟩ bC
 have bJ:=wDd hm au bC
 have bm:Hid (¬ ((↑(((↑p0.length:Int):Int) - 0).toNat:Int) < (↑p0.length:Int))):=zJ (wAv)
 refine sR fL1 Z (oR Z (zO Z bp bo) (eN (zI (cF Z bm (ZP (zd (zd (ZJ (zG (sR fL1 Z (oA Z Z (eN (zV ?_)))))))))))))
 have hE:=nA bJ;first | subst r | cases hE
 exact ⟨rfl,_,(ZS rfl),bj,_,(bz.pick [] _ (by decide) rfl),rfl,rfl⟩
theorem wHb (p0:List wAI) (au:Option Addr) (av:Nat) (p1:wAZ) (w:World) (U:PHeap) (hS:St0 w U []) (bP:Sl U 2 au av p0.length (hH wAm p0)) {r:Int} (hm:wCR p0 p1=some r):Gv Tryz.prog 58 [.slice au p0.length av,.agg #[jV p1.Unit,jV p1.Limit]] w (wCW w [] U (fun U_ L_ v=>v=jV r/\L_=[])):=by
 unfold wCR at hm
 refine Gv.of Tryz.func58 Z Tryz.ntmps58 Tryz.results58 Z (sR gAh Z ?_)
 let B0:List Value:=[jV p1.Unit,jV p1.Limit]
 refine ZK (cs:=B0) rfl rfl rfl rfl rfl rfl (by rfl) hS ?_
 intro W1 b2 cH
 refine oA Z Z (eN (sR fL1 Z (oA Z Z (eN (zI (sR fL3 Z (oM Z Z (oR Z (ZA Z Z Ze) (oM Z Z (eN (zU (bnK hm fun aX cN df=>?_))))))))))))
 have q:=wBS cN
 obtain ⟨bp,cO⟩:=q
 replace bp:=zJ bp
 refine CK.forN' (fun ap aq σ_ w_=>∃ (U_:PHeap) (az:Option Addr) (aW:Nat),σ_ 10=jV (↑ap:Int)/\σ_ 0=.slice au p0.length av/\σ_ 3=.pointer (some ⟨b2,0,none⟩)/\σ_ 5=.slice az aq.length aW/\σ_ 8=.slice au p0.length av/\σ_ 9=jV (↑p0.length:Int)/\PHeap.Le U U_/\sW w U U_ [.blk b2 42 B0,.row az aW 3 1 (hH KL.encI aq)] w_) cO ?_ ?_ ?_
 have cG:=cH.nilrow 3 1
 exact ⟨U,none,0,rfl,rfl,rfl,rfl,rfl,rfl,(zL _),(cG.pick [1,0] _ (by decide) rfl)⟩
 rintro ap aq dP dQ dy bo ⟨aV,az,aW,bk,bZ,cb,cd,bE,bF,bQ,bL⟩ dp
 have bB:Hid ((↑ap:Int) < (↑p0.length:Int)):=zJ (wBP bo)
 replace bo:=zJ bo
 have cP:Hid (w64 ((↑ap:Int) + 1)=(↑(ap + 1):Int)):=zJ (by have h1:=bp.out;have h2:=bB.out;rw [wAa] <;> omega)
 refine sR fL1 Z (oR Z (zO Z bk bF) (eN (zI (cT Z bB (kN (zI (zU (sR gAs Z (bnK dp fun ak bI dg=>?_)))))))))
 have cr:=bP.le bQ
 have q:=cr.el (fun _=>rfl) (wAi bI)
 obtain ⟨dA,dH,cw,cx⟩:=q
 refine oR Z (Zp Z bE cw bk Ze Zk (wCv bI)) (oL Z (bL.ldCA (f:=0) cx Z Z Tryz.isAgg36 Zk (us:=[jV ak.Bib,jV ak.Time]) Z Z) (zW (cs:=[jV 0,jV 0]) Z Z Z Z Z yi Z bL ?_))
 intro dz bg cI
 let B1:List Value:=[jV ak.Bib,jV ak.Time]
 refine zY (j:=0) (vs:=B1) Z Z Z Z cI Z Z Z Z Zk (zA Z) Z Z Z ?_
 intro bT cJ
 let B2:Res:=.row az aW 3 1 (hH KL.encI aq)
 have bM:sW w U aV [.blk bg 36 B1,.blk b2 42 B0,B2] bT:=cJ
 refine eN (rR (wEU (.fx 3 (.fx 4 (.fl 5 .nil) .stop) .stop)) Z (oM Z cd (oR Z (zH Z Z yE Z zC) (oL Z (bM.ldB (j:=0) Z Z Z zE (v:=jV ak.Bib) Z) (zz (pv:=[(0,jV ak.Bib)]) (zs:=[jV 0]) (cs:=[jV ak.Bib]) Z Z Z Z Z (wAB Z wAT) zD zC ZG Z Z Z Z Z bM ?_)))))
 intro bU bX cK
 let B3:Res:=.row (some ⟨bX,0,none⟩) 1 3 1 (hH KL.encI [ak.Bib])
 have bN:sW w U aV [B3,.blk bg 36 B1,.blk b2 42 B0,B2] bU:=cK
 refine bnK dg fun x67 ct dh=>Zv (j:=3) (enc:=KL.encI) (xs:=aq) (ys:=[ak.Bib]) (zs:=x67) rfl rfl rfl rfl rfl yW wJk rfl rfl rfl rfl rfl rfl bN rfl rfl rfl (bN.srcR (j:=0) rfl (by decide) (wAF (f:=KL.encI) (sz:=1) (fun _=>rfl) [ak.Bib])) (fun _=>rfl) (fun _=>rfl) ct rfl ?_
 intro bq bC bV cL
 have cM:sW w U aV [B3,.blk bg 36 B1,.blk b2 42 B0,.row bq bC 3 1 (hH KL.encI x67)] bV:=cL
 refine oA Z Z (zX (zj (zG (rR fL2 Z (oR Z (ZR (zS Z bk Z) (congrArg (jV) cP.out)) (oM Z Z (zX ?_)))))))
 cases dh
 exact zG ⟨rfl,⟨aV,bq,bC,rfl,bZ,cb,rfl,bE,bF,bQ,(cM.pick [2,3] _ (by decide) rfl)⟩⟩
 rintro dR bW ⟨bd,br,bD,cj,bG,bH,cf,dB,ci,dq,bO⟩
 have bY:Hid (¬ ((↑(((↑p0.length:Int):Int) - 0).toNat:Int) < (↑p0.length:Int))):=zJ (wAv)
 refine sR fL1 Z (oR Z (zO Z cj ci) (eN (zI (cF Z bY (ZP (zd (zd (ZJ (zG (zI (zU (sR fL4 Z (oM Z bG (oR Z (ZA Z Z Ze) (oR Z (ya Z Z Z) (oA Z Z (eN (ifc df ?_ ?_))))))))))))))))))
 intro bj dk
 refine cT Z bj (sR fL1 Z (oA Z Z (eN (zV (zi (zR ?_))))))
 cases dk
 exact ⟨rfl,_,(ZS rfl),bd,_,(bO.pick [] _ (by decide) rfl),rfl,rfl⟩
 intro bj dl
 refine cF Z bj (sR (.fl 0 (.fx 1 (wUP (.fx 6 (wUT (.fx 12 (wSb (.nil)) .stop)) .stop)) .stop)) Z (oM Z bG ?_))
 have cu:=bP.le dq
 have cy:FnOK Tryz.prog bd (.func (.func 97) #[] #[]) wTe wTf wBL:=⟨97,[],[],rfl,Tryz.call97,fun U1 w1 x y vs le hs ha hm=>by obtain rfl:=ha;exact wGL x w1 U1 hs  hm⟩
 refine bnK dl fun x101 cm cQ=>zM 0 Z Z Z Z (zK Z Z Tryz.call96 (zB Z (zB Z zP)) Z) bO (fun hs=>wEQ p0 au av wBL (.func (.func 97) #[] #[]) bW bd hs cu cy cm) (.inr Z) ?_
 rintro aZ dt dI bz dC cz ⟨rfl,rfl⟩
 let B4:Res:=.row br bD 3 1 (hH KL.encI aX)
 have bm:sW w U aZ [.blk b2 42 B0,B4] bz:=cz
 refine oR Z (Zf Z Z) (oM Z Z (ifc cQ ?_ ?_))
 intro aa cR
 refine zZ Z Z Z (ze Z Z (nC aa.out)) (fun _=>zH Z bH Tryz.runUnderlying42 Z zC) (ZF Z Z Z (ze Z Z (nC aa.out)) (bm.ldB (j:=0) Z Z Z zE (v:=jV p1.Unit) Z) Z (bnK cR fun dM cn cS=>zM 0 Z Z Z (ze Z Z (nC aa.out)) (zK Z Z Tryz.call98 (zB Z (zB Z (zB Z zP))) Z) bm (fun hs=>wFA p1.Unit 1 600 bz aZ hs cn) (.inr Z) ?_))
 rintro ba du dJ bA dD cA ⟨rfl,rfl⟩
 have bn:sW w U ba [.blk b2 42 B0,B4] bA:=cA
 refine zZ Z Z Z (ze Z Z (nC aa.out)) (fun _=>Zf Z Z) (oR Z (zn Z (nC aa.out) Z) (oM Z Z (ifc cS ?_ ?_)))
 intro ab cU
 refine zZ Z Z Z (ze Z Z (nC ab.out)) (fun _=>zH Z bH Tryz.runUnderlying42 Z zC) (ZF Z Z Z (ze Z Z (nC ab.out)) (bn.ldB (j:=0) Z Z Z zE (v:=jV p1.Limit) Z) Z (bnK cU fun dN cp cV=>zM 0 Z Z Z (ze Z Z (nC ab.out)) (zK Z Z Tryz.call98 (zB Z (zB Z (zB Z zP))) Z) bn (fun hs=>wFA p1.Limit 0 360000 bA ba hs cp) (.inr Z) ?_))
 rintro bv dv dK be dE cB ⟨rfl,rfl⟩
 have bJ:sW w U bv [.blk b2 42 B0,B4] be:=cB
 refine zZ Z Z Z (ze Z Z (nC ab.out)) (fun _=>Zf Z Z) (oR Z (zn Z (nC ab.out) Z) (oA Z Z (eN (ifc cV ?_ ?_))))
 intro bh cW
 refine zo (nC bh.out) (sR gAl Z (oM Z cf ?_))
 have q:=bJ.freezeR (k:=1) (n:=aX.length) rfl (wAF (f:=KL.encI) (sz:=1) (fun _=>rfl) aX) (by decide)
 obtain ⟨bw,dF,dm,cC⟩:=q
 have cD:sW w U bw [.blk b2 42 B0] be:=cC
 refine bnK cW fun dO cq cX=>zM 0 Z Z Z Z (zK Z Z Tryz.call99 (zB Z zP) Z) cD (fun hs=>wIy aX br bD be bw hs dm cq) (.inr Z) ?_
 rintro bb dw dL bS dG cE ⟨rfl,rfl⟩
 have bK:sW w U bb [.blk b2 42 B0] bS:=cE
 refine oA Z Z (eN (ifc cX ?_ ?_))
 intro bi cY
 refine ZI (congrArg nJ bi.out) (sR fL1 Z (oA Z Z (eN (zV (zi (zR ?_))))))
 cases cY
 exact ⟨rfl,_,(ZS rfl),bb,_,(bK.pick [] _ (by decide) rfl),rfl,rfl⟩
 intro bi cZ
 refine zo (congrArg nJ (nL.2 bi.out)) (ZT (zj (zG (sR fL1 Z (oA Z Z (eN (zV ?_)))))))
 cases cZ
 exact ⟨rfl,_,(ZS rfl),bb,_,(bK.pick [] _ (by decide) rfl),rfl,rfl⟩
 intro bh da
 refine ZI (nF (bh.out)) (sR fL1 Z (oA Z Z (eN (zV (zi (zR ?_))))))
 cases da
 exact ⟨rfl,_,(ZS rfl),bv,_,(bJ.pick [] _ (by decide) rfl),rfl,rfl⟩
 intro ab db
 refine yJ Z Z Z (Zg Z Z (nF (ab.out)) Z) (yJ Z Z Z (Zg Z Z (nF (ab.out)) Z) (OKS.px Z Z Z (Zg Z Z (nF (ab.out)) Z) (yJ Z Z Z (Zg Z Z (nF (ab.out)) Z) (oR Z (zf Z (nF (ab.out)) Z) (oA Z Z (eN (ZI Z (sR fL1 Z (oA Z Z (eN (zV (zi (zR ?_)))))))))))))
 cases db
 exact ⟨rfl,_,(ZS rfl),ba,_,(bn.pick [] _ (by decide) rfl),rfl,rfl⟩
 intro aa de
 refine yJ Z Z Z (Zg Z Z (nF (aa.out)) Z) (yJ Z Z Z (Zg Z Z (nF (aa.out)) Z) (OKS.px Z Z Z (Zg Z Z (nF (aa.out)) Z) (yJ Z Z Z (Zg Z Z (nF (aa.out)) Z) (oR Z (zf Z (nF (aa.out)) Z) (oM Z Z (oN Z (oN Z (OKS.px Z Z Z (Zg Z Z Z Z) (oN Z (oR Z (zf Z Z Z) (oA Z Z (eN (ZI Z (sR fL1 Z (oA Z Z (eN (zV (zi (zR ?_)))))))))))))))))))
 cases de
 exact ⟨rfl,_,(ZS rfl),aZ,_,(bm.pick [] _ (by decide) rfl),rfl,rfl⟩
theorem wGf (p0:List wAI) (ak:Option Addr) (am:Nat) (p1:wAZ) (w:World) (U:PHeap) (hS:St0 w U []) (bj:Sl U 2 ak am p0.length (hH wAm p0)) {r:(List Int) × Int} (hm:wCD p0 p1=some r):Gv Tryz.prog 25 [.slice ak p0.length am,.agg #[jV p1.Unit,jV p1.Limit]] w (wCW w [] U (fun U_ L_ v=>∃ (A0:Option Addr) (c0:Nat),v=.tuple #[.slice A0 r.1.length c0,jV r.2]/\L_=[.row A0 c0 3 1 (hH KL.encI r.1)])):=by
 unfold wCD at hm
 refine Gv.of Tryz.func25 Z Tryz.ntmps25 Tryz.results25 Z (sR gAj Z ?_)
 let B0:List Value:=[jV p1.Unit,jV p1.Limit]
 refine ZK (cs:=B0) rfl rfl rfl rfl rfl rfl (by rfl) hS ?_
 intro W1 b2 bO
 refine oA Z Z (oA Z Z (eN (zI (sR gAr Z (oM Z Z (oL Z (bO.ldBA (j:=0) Z Z Z Tryz.isAgg42 Tryz.sizeOf42 (vs:=B0) Z Z) (bnK hm fun x5 h6 dy=>zM 0 Z Z Z Z (zK Z Z Tryz.call58 (zB Z (zB Z zP)) Z) bO (fun hs=>wHb p0 ak am p1 W1 U hs bj h6) (.inr Z) ?_)))))))
 rintro U8 L9 dU bZ bS cS ⟨rfl,rfl⟩
 have bM:sW w U U8 [.blk b2 42 B0] bZ:=cS
 refine oA Z Z (eN (sR fL2 Z (oM Z Z (oR Z (yC Z Z Z) (eN (ifc dy ?_ ?_))))))
 intro be du
 refine zo (ZQ (fun h=>h be.out)) (kN (sR fL1 Z (oA Z Z (eN (zI (sR fL3 Z (oM Z Z (oR Z (ZA Z Z Ze) (oM Z Z (eN (zU (bnK du fun ap dg dw=>?_))))))))))))
 have q:=wBS dg
 obtain ⟨bn,dh⟩:=q
 replace bn:=zJ bn
 refine CK.forN' (fun aq bV σ_ w_=>∃ (U_:PHeap),σ_ 22=jV (↑aq:Int)/\σ_ 0=.slice ak p0.length am/\σ_ 3=.pointer (some ⟨b2,0,none⟩)/\σ_ 7=jV bV/\σ_ 20=.slice ak p0.length am/\σ_ 21=jV (↑p0.length:Int)/\PHeap.Le U8 U_/\sW w U U_ [.blk b2 42 B0] w_) dh ?_ ?_ ?_
 exact ⟨U8,Z,Z,Z,Z,Z,Z,(zL _),bM⟩
 rintro aq bV dX d7 dI bm ⟨bv,bi,cu,cw,cx,bG,bH,bT,bP⟩ dB
 have bC:Hid ((↑aq:Int) < (↑p0.length:Int)):=zJ (wBP bm)
 replace bm:=zJ bm
 have dp:Hid (w64 ((↑aq:Int) + 1)=(↑(aq + 1):Int)):=zJ (by have h1:=bn.out;have h2:=bC.out;rw [wAa] <;> omega)
 refine sR fL1 Z (oR Z (zO Z bi bH) (eN (zI (cT Z bC (kN (zI (zU (sR gAs Z (bnK dB fun aU bJ dx=>?_)))))))))
 have cK:=bj.le bS
 have cL:=cK.le bT
 have q:=cL.el (fun _=>rfl) (wAi bJ)
 obtain ⟨dM,dT,cO,cQ⟩:=q
 refine oR Z (Zp Z bG cO bi Ze Zk (wCv bJ)) (oL Z (bP.ldCA (f:=0) cQ Z Z Tryz.isAgg36 Zk (us:=[jV aU.Bib,jV aU.Time]) Z Z) (zW (cs:=[jV 0,jV 0]) Z Z Z Z Z yi Z bP ?_))
 intro dJ cj db
 let B1:List Value:=[jV aU.Bib,jV aU.Time]
 refine zY (j:=0) (vs:=B1) Z Z Z Z db Z Z Z Z Zk (zA Z) Z Z Z ?_
 intro cf de
 have bQ:sW w U bv [.blk cj 36 B1,.blk b2 42 B0] cf:=de
 refine eN (rR fL5 Z (oM Z cx (oR Z (zH Z Z yE Z zC) (oL Z (bQ.ldB (j:=0) Z Z Z zE (v:=jV aU.Time) Z) (oR Z (Runs.min Z Z Z) (oA Z Z (zX (zj (zG (rR fL2 Z (oR Z (ZR (zS Z bi Z) (congrArg (jV) dp.out)) (oM Z Z (zX ?_)))))))))))))
 cases dx
 exact zG ⟨rfl,⟨bv,rfl,cu,cw,rfl,bG,bH,bT,(bQ.pick [1] _ (by decide) rfl)⟩⟩
 rintro d9 dK ⟨bw,cD,cy,cz,cA,dQ,cB,dC,df⟩
 have cp:Hid (¬ ((↑(((↑p0.length:Int):Int) - 0).toNat:Int) < (↑p0.length:Int))):=zJ (wAv)
 refine sR fL1 Z (oR Z (zO Z cD cB) (eN (zI (cF Z cp (ZP (zd (zd (ZJ (zG (sR fL1 Z (oA Z Z (eN (zI (sR fL3 Z (oM Z cy (oR Z (ZA Z Z Ze) (oM Z Z (eN (zU (bnK dw fun dY dk dz=>?_))))))))))))))))))))
 have q:=wBS dk
 obtain ⟨bo,dl⟩:=q
 replace bo:=zJ bo
 refine CK.forN' (fun au av σ_ w_=>∃ (U_:PHeap) (aV:Option Addr) (aZ:Nat),σ_ 33=jV (↑au:Int)/\σ_ 3=.pointer (some ⟨b2,0,none⟩)/\σ_ 7=jV ap/\σ_ 10=.slice aV av.length aZ/\σ_ 31=.slice ak p0.length am/\σ_ 32=jV (↑p0.length:Int)/\PHeap.Le bw U_/\sW w U U_ [.blk b2 42 B0,.row aV aZ 3 1 (hH KL.encI av)] w_) dl ?_ ?_ ?_
 have cR:=df.nilrow 3 1
 exact ⟨bw,none,0,rfl,cz,cA,rfl,rfl,rfl,(zL _),(cR.pick [1,0] _ (by decide) rfl)⟩
 rintro au av dW dZ dE bk ⟨aX,aV,aZ,bh,bg,bD,cq,bE,bF,bR,bK⟩ dA
 have bA:Hid ((↑au:Int) < (↑p0.length:Int)):=zJ (wBP bk)
 replace bk:=zJ bk
 have dm:Hid (w64 ((↑au:Int) + 1)=(↑(au + 1):Int)):=zJ (by have h1:=bo.out;have h2:=bA.out;rw [wAa] <;> omega)
 refine sR fL1 Z (oR Z (zO Z bh bF) (eN (zI (cT Z bA (kN (zI (zU (sR gAs Z (bnK dA fun ae bI dq=>?_)))))))))
 have cE:=bj.le bS
 have cG:=cE.le dC
 have cH:=cG.le bR
 have q:=cH.el (fun _=>rfl) (wAi bI)
 obtain ⟨dL,dS,cN,cP⟩:=q
 refine oR Z (Zp Z bE cN bh Ze Zk (wCv bI)) (oL Z (bK.ldCA (f:=0) cP Z Z Tryz.isAgg36 Zk (us:=[jV ae.Bib,jV ae.Time]) Z Z) (zW (cs:=[jV 0,jV 0]) Z Z Z Z Z yi Z bK ?_))
 intro dF bd cU
 let B2:List Value:=[jV ae.Bib,jV ae.Time]
 refine zY (j:=0) (vs:=B2) Z Z Z Z cU Z Z Z Z Zk (zA Z) Z Z Z ?_
 intro bb cV
 let B3:Res:=.row aV aZ 3 1 (hH KL.encI av)
 have bL:sW w U aX [.blk bd 36 B2,.blk b2 42 B0,B3] bb:=cV
 refine eN (sR fL5 rfl (zZ rfl rfl rfl rfl (fun _=>zH rfl rfl yE rfl zC) (ZF rfl rfl rfl rfl (bL.ldB (j:=0) rfl rfl rfl zE (v:=jV ae.Time) rfl) rfl (zN rfl rfl rfl rfl rfl bD (zZ rfl rfl rfl rfl (fun _=>ZX rfl rfl rfl) (yK rfl rfl rfl rfl rfl rfl (eN (zx zr [3,3,3,3,1,3,3,3,1,3,2,0,3] (wUI (.fx 10 (.fx 11 (.fl 12 .nil) .stop) .stop)) (by kernel_rfl) ?_))))))))
 have ba:=bL.drew
 generalize hw_W137:({ bb with drawn:=bb.drawn + 1 }:World)=dG at ba ⊢
 refine oM Z cq (oM Z Z (oM Z Z (oR Z (zH Z bg Tryz.runUnderlying42 Z zC) (oL Z (ba.ldB (j:=1) Z Z Z zE (v:=jV p1.Unit) Z) (bnK dq fun az cI dr=>oR Z (Runs.rem Z Z Z cI) (oR Z (ZX Z Z Z) (oR Z (zH Z bg Tryz.runUnderlying42 Z zC) (oL Z (ba.ldB (j:=1) Z Z Z zE (v:=jV p1.Limit) Z) (oR Z (Runs.min Z Z Z) (zz (pv:=[(0,jV (min (w64 ((w64 (ae.Time - ap)) - az)) p1.Limit))]) (zs:=[jV 0]) (cs:=[jV (min (w64 ((w64 (ae.Time - ap)) - az)) p1.Limit)]) Z Z Z Z Z (wAB Z wAT) zD zC ZG Z Z Z Z Z ba ?_))))))))))
 intro cb ci cW
 let B4:Res:=.row (some ⟨ci,0,none⟩) 1 3 1 (hH KL.encI [min (w64 ((w64 (ae.Time - ap)) - az)) p1.Limit])
 have bN:sW w U aX [B4,.blk bd 36 B2,.blk b2 42 B0,B3] cb:=cW
 refine bnK dr fun bU cJ dt=>Zv (j:=3) (enc:=KL.encI) (xs:=av) (ys:=[min (w64 ((w64 (ae.Time - ap)) - az)) p1.Limit]) (zs:=bU) rfl rfl rfl rfl rfl yW wJk rfl rfl rfl rfl rfl rfl bN rfl rfl rfl (bN.srcR (j:=0) rfl (by decide) (wAF (f:=KL.encI) (sz:=1) (fun _=>rfl) [min (w64 ((w64 (ae.Time - ap)) - az)) p1.Limit])) (fun _=>rfl) (fun _=>rfl) cJ rfl ?_
 intro bq bB cd cX
 have cY:sW w U aX [B4,.blk bd 36 B2,.blk b2 42 B0,.row bq bB 3 1 (hH KL.encI bU)] cd:=cX
 refine oA Z Z (zX (zj (zG (rR fL2 Z (oR Z (ZR (zS Z bh Z) (congrArg (jV) dm.out)) (oM Z Z (zX ?_)))))))
 cases dt
 exact zG ⟨rfl,⟨aX,bq,bB,rfl,bg,bD,rfl,bE,bF,bR,(cY.pick [2,3] _ (by decide) rfl)⟩⟩
 rintro d5 dH ⟨bX,bW,cm,cC,dN,dO,cr,dP,ct,dR,cZ⟩
 have cn:Hid (¬ ((↑(((↑p0.length:Int):Int) - 0).toNat:Int) < (↑p0.length:Int))):=zJ (wAv)
 refine sR fL1 Z (oR Z (zO Z cC ct) (eN (zI (cF Z cn (ZP (zd (zd (ZJ (zG (sR fL3 Z (oM Z cr (oA Z Z (oA Z Z (eN (zV ?_)))))))))))))))
 cases dz
 exact ⟨rfl,_,(wGg rfl rfl),bX,_,(cZ.pick [1] _ (by decide) rfl),bW,cm,rfl,rfl⟩
 intro be dv
 refine cT Z be (sR fL3 Z (oM Z Z (oA Z Z (oA Z Z (eN (zV (zR ?_)))))))
 have da:=bM.nilrow 3 1
 cases dv
 exact ⟨rfl,_,(wGg rfl rfl),U8,_,(da.pick [0] _ (by decide) rfl),none,0,rfl,rfl⟩
theorem wEt (p0:Int) (w:World) (U:PHeap) (hS:St0 w U [])  {r:Bool} (hm:wCS p0=some r):Gv Tryz.prog 60 [jV p0] w (wCW w [] U (fun U_ L_ v=>v=.bool r/\L_=[])):=by
 unfold wCS at hm
 refine Gv.of Tryz.func60 Z Tryz.ntmps60 Tryz.results60 Z (sR fL1 Z (oA Z Z (eN (sR fL4 Z (oM Z Z (oM Z Z (oR Z (yC Z Z Z) (oA Z Z (eN (zV ?_))))))))))
 first | (obtain rfl:=nA hm) | cases hm
 exact ⟨Z,_,(ZS Z),U,_,hS,Z,Z⟩
theorem wER (p0:Int) (p1:Int) (w:World) (U:PHeap) (hS:St0 w U [])  {r:Int} (hm:wBh p0 p1=some r):Gv Tryz.prog 29 [jV p0,jV p1] w (wCW w [] U (fun U_ L_ v=>v=jV r/\L_=[])):=by
 unfold wBh at hm
 refine Gv.of Tryz.func29 Z Tryz.ntmps29 Tryz.results29 Z (sR fL1 Z (oA Z Z (eN (sR gAl Z (oM Z Z (bnK hm fun x1 h2 bi=>zM 0 Z Z Z Z (zK Z Z Tryz.call60 (zB Z zP) Z) hS (fun hs=>wEt p0 w U hs h2) (.inr Z) ?_))))))
 rintro U4 L5 v6 W7 br aY ⟨rfl,rfl⟩
 have aW:sW w U U4 [] W7:=aY
 refine oA Z Z (eN (sR gAl Z (oM Z Z (bnK bi fun bw aU aZ=>zM 0 Z Z Z Z (zK Z Z Tryz.call60 (zB Z zP) Z) aW (fun hs=>wEt p1 W7 U4 hs aU) (.inr Z) ?_))))
 rintro aa bo bt az bq aX ⟨rfl,rfl⟩
 have ab:sW w U aa [] az:=aX
 refine oA Z Z (eN (zI (sR fL1 Z (oM Z Z (eN (ifc aZ ?_ ?_))))))
 intro ae ba
 refine ZI (congrArg nJ ae.out) (zI (sR fL1 Z (oM Z Z (eN (ifc ba ?_ ?_)))))
 intro ai bb
 refine ZI (congrArg nJ ai.out) (sR fL1 Z (oA Z Z (eN (zV (zR (zR ?_))))))
 cases bb
 exact ⟨Z,_,(ZS Z),aa,_,ab,Z,Z⟩
 intro ai bd
 refine zo (congrArg nJ (nL.2 ai.out)) (kN (sR fL1 Z (oA Z Z (eN (zV (zR ?_))))))
 cases bd
 exact ⟨Z,_,(ZS Z),aa,_,ab,Z,Z⟩
 intro ae be
 refine zo (congrArg nJ (nL.2 ae.out)) (kN (zI (sR fL1 Z (oM Z Z (eN (ifc be ?_ ?_))))))
 intro aj bg
 refine ZI (congrArg nJ aj.out) (sR fL1 Z (oA Z Z (eN (zV (zR ?_)))))
 cases bg
 exact ⟨Z,_,(ZS Z),aa,_,ab,Z,Z⟩
 intro aj bh
 refine zo (congrArg nJ (nL.2 aj.out)) (kN (zI (sR fL3 Z (oM Z Z (oM Z Z (oR Z (zO Z Z Z) (eN (ifc bh ?_ ?_))))))))
 intro ak bj
 refine cT Z ak (sR fL1 Z (oA Z Z (eN (zV (zR ?_)))))
 cases bj
 exact ⟨Z,_,(ZS Z),aa,_,ab,Z,Z⟩
 intro ak bk
 refine cF Z ak (kN (zI (sR fL3 Z (oM Z Z (oM Z Z (oR Z (ya Z Z Z) (eN (ifc bk ?_ ?_))))))))
 intro am bm
 refine cT Z am (sR fL1 Z (oA Z Z (eN (zV (zR ?_)))))
 cases bm
 exact ⟨Z,_,(ZS Z),aa,_,ab,Z,Z⟩
 intro am bn
 refine cF Z am (kN (sR fL1 Z (oA Z Z (eN (zV ?_)))))
 cases bn
 exact ⟨Z,_,(ZS Z),aa,_,ab,Z,Z⟩
theorem wJl (p0:List Int) (aq:Option Addr) (au:Nat) (w:World) (U:PHeap) (hS:St0 w U []) (bo:Sl U 1 aq au p0.length (hH KL.encI p0)) {r:Int} (hm:wDe p0=some r):Gv Tryz.prog 28 [.slice aq p0.length au] w (wCW w [] U (fun U_ L_ v=>v=jV r/\L_=[])):=by
 unfold wDe at hm
 refine Gv.of Tryz.func28 Z Tryz.ntmps28 Tryz.results28 Z (sR fL1 Z (oA Z Z (eN (sR fL1 Z (oA Z Z (eN (zI (sR fL3 Z (oM Z Z (oR Z (ZA Z Z zD) (oM Z Z (eN (zU ?_)))))))))))))
 have q:=wCQ hm
 obtain ⟨r3,ak⟩:=q
 have q:=wCP ak
 obtain ⟨ap,br⟩:=q
 replace ap:=zJ ap
 refine yX (fun k2 _ σ_ w_=>∃ (U_:PHeap),σ_ 8=jV (↑k2:Int)/\σ_ 3=jV 0/\σ_ 6=.slice aq p0.length au/\σ_ 7=jV (↑p0.length:Int)/\PHeap.Le U U_/\sW w U U_ [] w_) br ?_ ?_ ?_
 exact ⟨U,Z,Z,Z,Z,(zL _),hS⟩
 rintro k2 ⟨⟩ bJ bL W8 am ⟨av,ai,aU,aV,aW,ba,aj⟩ aZ bp
 try dsimp only at aZ
 have az:Hid ((↑k2:Int) < (↑p0.length:Int)):=zJ (wBP am)
 replace am:=zJ am
 have bt:Hid (w64 ((↑k2:Int) + 1)=(↑(k2 + 1):Int)):=zJ (by have h1:=ap.out;have h2:=az.out;rw [wAa] <;> omega)
 refine sR fL1 Z (oR Z (zO Z ai aW) (eN (zI (cT Z az (kN (zI (zU (sR fL3 Z (bnK aZ fun bB aX bu=>?_)))))))))
 have bj:=bo.le ba
 have q:=bj.el (fun _=>rfl) (wAi aX)
 obtain ⟨bE,bH,bk,bm⟩:=q
 refine oR Z (Zp Z aV bk ai zD zC (wCv aX)) (oL Z (aj.ldC (f:=0) bm (v:=jV bB) Z Z zE Z) (oA Z Z (eN (sR fL3 Z (oM Z Z (oM Z aU (oR Z (yC Z Z Z) (eN (ifc bu ?_ ?_)))))))))
 intro ae bv
 refine zo (ZQ (fun h=>h ae.out)) (ZT (zj (zG (rR fL2 Z (oR Z (ZR (zS Z ai Z) (congrArg (jV) bt.out)) (oM Z Z (zX ?_)))))))
 have q:=nA bv
 obtain rfl:=q
 exact zG ⟨Z,_,Z,⟨av,Z,aU,aV,aW,ba,aj⟩⟩
 intro ae bw
 refine cT Z ae (sR fL2 Z (oM Z Z (oA Z Z (eN (zV (zi (zR ?_)))))))
 have q:=wAb bw
 obtain ⟨bA,bz,be⟩:=q
 have q:=wBf hm ak (bp bA be)
 obtain rfl:=q
 refine zR (zi (zR ?_))
 have hE:=nA bz;first | subst r | cases hE
 exact ⟨Z,_,(ZS Z),av,_,aj,Z,Z⟩
 rintro ⟨⟩ bK bC ⟨bb,bi,bg,bF,bh,bG,bn⟩ bq
 have aY:=wDd hm ak bq
 try dsimp only at aY
 have bd:Hid (¬ ((↑(((↑p0.length:Int):Int) - 0).toNat:Int) < (↑p0.length:Int))):=zJ (wAv)
 refine sR fL1 Z (oR Z (zO Z bi bh) (eN (zI (cF Z bd (ZP (zd (zd (ZJ (zG (sR fL2 Z (oM Z bg (oA Z Z (eN (zV ?_))))))))))))))
 cases aY
 exact ⟨Z,_,(ZS Z),bb,_,bn,Z,Z⟩
end Go.Proofs.YtkedcbligiebkaaGreat
namespace Go.Proofs.YtkedcbligiebkaaGreat
open Go.KL
set_option maxHeartbeats 4000000
theorem wGM (p0:Int) (p1:Int) (p2:List Int) (bk:Nat) (ak:Option Addr) (ap:Nat) (p3:List wAI) (bm:Nat) (am:Option Addr) (aq:Nat) (w:World) (U:PHeap) (hS:St0 w U []) (bd:Cl U bk 0 [.slice ak p2.length ap]) (be:Sl U 1 ak ap p2.length (hH KL.encI p2)) (bg:Cl U bm 0 [.slice am p3.length aq]) (bh:Sl U 2 am aq p3.length (hH wAm p3)) {r:Int} (hm:wBM p0 p1 p2 p3=some r):Gv Tryz.prog 27 [jV p0,jV p1,.pointer (some ⟨bk,0,none⟩),.pointer (some ⟨bm,0,none⟩)] w (wCW w [] U (fun U_ L_ v=>v=jV r/\L_=[])):=by
 unfold wBM at hm
 refine Gv.of Tryz.func27 rfl Tryz.ntmps27 Tryz.results27 rfl (sR fL1 rfl (yK rfl rfl rfl rfl rfl rfl (eN (zI (zx zr [1,3,3,1,1,3,3,1,2,1,3,3,3,1,1,3,3,3,1,2,2,2,3] (wUH (wUW (.fx 8 (.fx 19 (.fx 20 (.fx 21 (.fl 22 .nil) .stop) .stop) .stop) .stop))) (by kernel_rfl) ?_)))))
 have aa:=hS.drew
 generalize hw_W2:({ w with drawn:=w.drawn + 1 }:World)=W2 at aa ⊢
 refine oL Z (aa.ldC (f:=0) bd (v:=.slice ak p2.length ap) Z Z zw Z) (oM Z Z (bnK hm fun x3 h4 bX=>?_))
 have q:=be.el (fun _=>rfl) (wAi h4)
 obtain ⟨b6,cy,bD,bH⟩:=q
 refine oR Z (zm Z Z bD Z zD zC (wBt h4) (wBv h4)) (oL Z (aa.ldC (f:=0) bH (v:=jV x3) Z Z zE Z) (oL Z (aa.ldC (f:=0) bd (v:=.slice ak p2.length ap) Z Z zw Z) (oM Z Z (bnK bX fun bn av bS=>?_))))
 have q:=be.el (fun _=>rfl) (wAi av)
 obtain ⟨ci,cu,bA,bE⟩:=q
 refine oR Z (zm Z Z bA Z zD zC (wBt av) (wBv av)) (oL Z (aa.ldC (f:=0) bE (v:=jV bn) Z Z zE Z) (oL Z (aa.ldC (f:=0) bg (v:=.slice am p3.length aq) Z Z Tryz.isAgg34 Z) (oM Z Z (bnK bS fun bo az bT=>?_))))
 have q:=bh.el (fun _=>rfl) (wAi az)
 obtain ⟨cj,cw,bB,bF⟩:=q
 refine oR Z (zm Z Z bB Z Ze Zk (wBt az) (wBv az)) (oR Z (zH Z Z yE Z zC) (oL Z (aa.ldC (f:=1) bF (v:=jV bo.Time) Z Z zE Z) (oL Z (aa.ldC (f:=0) bg (v:=.slice am p3.length aq) Z Z Tryz.isAgg34 Z) (oM Z Z (bnK bT fun bp aU bU=>?_)))))
 have q:=bh.el (fun _=>rfl) (wAi aU)
 obtain ⟨cm,cx,bC,bG⟩:=q
 refine oR Z (zm Z Z bC Z Ze Zk (wBt aU) (wBv aU)) (oR Z (zH Z Z yE Z zC) (oL Z (aa.ldC (f:=1) bG (v:=jV bp.Time) Z Z zE Z) (bnK bU fun ai bv bV=>zM 0 Z Z Z Z (zK Z Z Tryz.call29 (zB Z (zB Z zP)) Z) aa (fun hs=>wER x3 bn W2 U hs bv) (.inr Z) ?_)))
 rintro aW cb cz ba cp bI ⟨rfl,rfl⟩
 have bJ:sW w U aW [] ba:=bI
 refine bnK bV fun aj bw bW=>zM 0 Z Z Z Z (zK Z Z Tryz.call29 (zB Z (zB Z zP)) Z) bJ (fun hs=>wER bo.Time bp.Time ba aW hs bw) (.inr Z) ?_
 rintro aX cd cA bt cq bK ⟨rfl,rfl⟩
 have bL:sW w U aX [] bt:=bK
 refine zz (pv:=[(0,jV ai),(1,jV aj)]) (zs:=[jV 0,jV 0]) (cs:=[jV ai,jV aj]) Z Z Z Z Z (wAB Z (wAB Z wAT)) zD zC ZG Z Z Z Z Z bL ?_
 intro au bb bM
 have bN:sW w U aX [.row (some ⟨bb,0,none⟩) 2 3 1 (hH KL.encI [ai,aj])] au:=bM
 have q:=bN.freezeR (k:=0) (n:=[ai,aj].length) rfl (wAF (f:=KL.encI) (sz:=1) (fun _=>rfl) [ai,aj]) (by decide)
 obtain ⟨aY,cr,bZ,bO⟩:=q
 have bP:sW w U aY [] au:=bO
 refine bnK bW fun cC bz bY=>zM 0 Z Z Z Z (zK Z Z Tryz.call28 (zB Z zP) Z) bP (fun hs=>wJl [ai,aj] (some ⟨bb,0,none⟩) 2 au aY hs bZ bz) (.inr Z) ?_
 rintro aZ cf cB bu ct bQ ⟨rfl,rfl⟩
 have bR:sW w U aZ [] bu:=bQ
 refine oA Z Z (eN (zV ?_))
 have hE:=nA bY;first | subst r | cases hE
 exact ⟨Z,_,(ZS Z),aZ,_,bR,Z,Z⟩
theorem wBp (p0:List Int) (ae:Option Addr) (ai:Nat) (p1:Int) (p2:Int) (p3:((Int × Int)->Option Int)) (bg:Value) (w:World) (U:PHeap) (hS:St0 w U [.row ae ai 3 1 (hH KL.encI p0)]) (cb:FnOK Tryz.prog U bg wRu wRv p3) {r:(List Int)} (hm:wAV p0 p1 p2 p3=some r):Gv Tryz.prog 100 [.slice ae p0.length ai,jV p1,jV p2,bg] w (wCW w [.row ae ai 3 1 (hH KL.encI p0)] U (fun U_ L_ v=>v=.tuple #[]/\L_=[.row ae ai 3 1 (hH KL.encI r)]/\r.length=p0.length)):=by
 unfold wAV at hm
 refine Gv.of Tryz.func100 Z Tryz.ntmps100 Tryz.results100 Z (sR fL3 Z (oM Z Z (oR Z (zS Z Z Z) (oA Z Z (eN (zU ?_))))))
 let B0:Res:=.row ae ai 3 1 (hH KL.encI p0)
 refine ym (fun (l8,x9) σ_ w_=>∃ (U_:PHeap),σ_ 0=.slice ae l8.length ai/\σ_ 1=jV p1/\σ_ 2=jV p2/\σ_ 3=bg/\σ_ 8=jV x9/\PHeap.Le U U_/\SW w [B0] U U_ [.row ae ai 3 1 (hH KL.encI l8)] w_/\l8.length=p0.length) hm ?_ ?_
 exact ⟨U,Z,Z,Z,Z,Z,(zL _),hS,Z⟩
 rintro ⟨l8,x9⟩ cM cO cG ⟨bi,bO,bP,bv,bQ,bm,bt,bz,bw⟩ bq cd
 try dsimp only at bq
 refine zI (sR fL3 Z (oM Z bm (oM Z bv (oR Z (zO Z Z Z) (eN ?_)))))
 by_cases ap:x9 < p2
 have bE:=bq;rw [if_pos ap] at bE;replace ap:=zJ ap
 refine cT Z ap (kN (zI (zU (sR fL2 Z (oM Z bm (oA Z Z (eN (zU (ym (fun (aa,x35) σ_ w_=>∃ (U_:PHeap),σ_ 0=.slice ae aa.length ai/\σ_ 1=jV p1/\σ_ 2=jV p2/\σ_ 3=bg/\σ_ 8=jV x9/\σ_ 9=jV x35/\PHeap.Le bi U_/\SW w [B0] U U_ [.row ae ai 3 1 (hH KL.encI aa)] w_/\aa.length=p0.length) bE ?_ ?_)))))))))
 exact ⟨bi,bO,bP,bv,bQ,bm,Z,(zL _),bz,bw⟩
 rintro ⟨aa,x35⟩ cN cP bu ⟨bI,am,aZ,bn,ba,bo,aq,be,bU,bp⟩ br bB
 try dsimp only at br
 refine zI (zI (zx zr [3,3,3,3,3,3,3,3,1,3,3,3,3,1,2,3,3] (wUJ (.fx 14 gAe .stop)) (by kernel_rfl) ?_))
 have az:=bU.drew
 generalize hw_W54:({ bu with drawn:=bu.drawn + 1 }:World)=cH at az ⊢
 refine oM Z aq (oM Z aZ (oR Z (ya Z Z Z) (oM Z Z ?_)))
 by_cases ab:p1 < x35
 have bF:=br;rw [if_pos ab] at bF;replace ab:=zJ ab
 refine zN Z Z Z (wT Z ab) Z ba (zN Z Z Z (wT Z ab) Z am (zN Z Z Z (wT Z ab) Z aq (bnK bF fun _ ak ct=>?_)))
 obtain ⟨cJ,aj⟩:=az.rowSome (j:=0) rfl (by rw [wAF (f:=KL.encI) (sz:=1) (fun _=>rfl) aa];have hz:=wAP ak;omega)
 refine rU Z (wT Z ab) (zm Z Z aj Z zD zC (wAp ak) (wAq ak)) ?_
 have cf:=wAy (xs:=aa) (wAP ak)
 refine ZF rfl rfl rfl (ze rfl rfl (Zd ab.out)) (az.ldR (j:=0) rfl aj rfl rfl zE (wAR (sz:=1) (fun _=>rfl) _ _ 0 _ cf (by first | omega | rfl | simp) rfl)) rfl (zN rfl rfl rfl (ze rfl rfl (Zd ab.out)) rfl am (zN rfl rfl rfl (ze rfl rfl (Zd ab.out)) rfl aq (zZ rfl rfl rfl (ze rfl rfl (Zd ab.out)) (fun _=>ZX rfl rfl rfl) (bnK ct fun _ av cu=>zZ rfl rfl rfl (ze rfl rfl (Zd ab.out)) (fun _=>zm rfl rfl aj rfl zD zC (wAp av) (wAq av)) ?_))))
 have ci:=wAy (xs:=aa) (wAP av)
 refine ZF rfl rfl rfl (ze rfl rfl (Zd ab.out)) (az.ldR (j:=0) rfl aj rfl rfl zE (wAR (sz:=1) (fun _=>rfl) _ _ 0 _ ci (by first | omega | rfl | simp) rfl)) rfl (bnK cu fun cL bR cw=>?_)
 have bS:=cb.le bt
 have bT:=bS.le be
 refine yd (a:=((gd aa x35.toNat),(gd aa (w64 (x35 - 1)).toNat))) Z Z Z (wT Z ab) Z Z (zB Z (zB Z zP)) az bT Z bR ?_
 rintro aV cE cK bj bG bV ⟨rfl,rfl⟩
 have bA:SW w [B0] U aV [.row ae ai 3 1 (hH KL.encI aa)] bj:=bV
 refine rU Z (wT Z ab) (zO Z Z Z) (oR Z (zf Z (Zd ab.out) Z) (eN (ifc cw ?_ ?_)))
 intro bk cx
 refine cT Z bk (kN (zI (zU (zx zr [3,3,3,3,3,3,3,3,3,1,3,3,3,1,3,0,3,0] (wMB gAp) (by kernel_rfl) ?_))))
 have bb:=bA.drew
 generalize hw_W80:({ bj with drawn:=bj.drawn + 1 }:World)=cI at bb ⊢
 refine oM Z am (oM Z aq (oM Z am (oM Z aq (oR Z (ZX Z Z Z) (oM Z am (oM Z aq (oR Z (ZX Z Z Z) (oR Z (zm Z Z aj Z zD zC (wAp av) (wAq av)) ?_))))))))
 have cj:=wAy (xs:=aa) (wAP av)
 refine ZF rfl rfl rfl rfl (bb.ldR (j:=0) rfl aj rfl rfl zE (wAR (sz:=1) (fun _=>rfl) _ _ 0 _ cj (by first | omega | rfl | simp) rfl)) rfl (zN rfl rfl rfl rfl rfl am (zN rfl rfl rfl rfl rfl aq (zZ rfl rfl rfl rfl (fun _=>zm rfl rfl aj rfl zD zC (wAp ak) (wAq ak)) ?_)))
 have cm:=wAy (xs:=aa) (wAP ak)
 refine ZF rfl rfl rfl rfl (bb.ldR (j:=0) rfl aj rfl rfl zE (wAR (sz:=1) (fun _=>rfl) _ _ 0 _ cm (by first | omega | rfl | simp) rfl)) rfl (zZ rfl rfl rfl rfl (fun _=>zm rfl rfl aj rfl zD zC (wAp ak) (wAq ak)) ?_)
 have cn:=wAy (xs:=aa) (wAP ak)
 refine yL (j:=0) (vs:=[jV (gd aa (w64 (x35 - 1)).toNat)]) (cs':=hH KL.encI (nH aa x35.toNat (gd aa (w64 (x35 - 1)).toNat))) rfl rfl rfl rfl bb rfl aj rfl rfl rfl zC (by rw [wAF (f:=KL.encI) (sz:=1) (fun _=>rfl)];have hz:=wAP ak;show _ + 1 <= _;first | omega | (simp only [nI];omega) | (simp only [nG,nD,nE];omega)) rfl (wBw (sz:=1) (fo:=0) (fun _=>rfl) _ _ _ _ cn (by first | omega | (simp only [nI];omega) | (simp only [nG,nD,nE];omega)) (zA rfl) rfl) rfl ?_
 intro bJ bW
 have bX:SW w [B0] U aV [.row ae ai 3 1 (hH KL.encI (nH aa x35.toNat (gd aa (w64 (x35 - 1)).toNat)))] bJ:=bW
 refine bnK cx fun _ aW cy=>zZ rfl rfl rfl rfl (fun _=>zm rfl (nK (b:=(.slice ae aa.length ai:Value)) (c:=(.slice ae ((nH aa x35.toNat (gd aa (w64 (x35 - 1)).toNat)).length) ai:Value)) rfl (by simp only [nB])) aj rfl zD zC (wAp aW) (wAq aW)) ?_
 have cp:=wAy (xs:=(nH aa x35.toNat (gd aa (w64 (x35 - 1)).toNat))) (by first | exact wAP aW | (have hz:=wAP aW;simpa only [nB] using hz))
 refine yL (j:=0) (vs:=[jV (gd aa x35.toNat)]) (cs':=hH KL.encI (nH (nH aa x35.toNat (gd aa (w64 (x35 - 1)).toNat)) (w64 (x35 - 1)).toNat (gd aa x35.toNat))) rfl rfl rfl rfl bX rfl aj rfl rfl rfl zC (by rw [wAF (f:=KL.encI) (sz:=1) (fun _=>rfl)];have hz:=wAP aW;show _ + 1 <= _;first | omega | (simp only [nB];omega) | (simp only [nG,nD,nE,nB];omega) | (simp only [nI];omega) | (simp only [nG,nD,nE];omega)) rfl (wBw (sz:=1) (fo:=0) (fun _=>rfl) _ _ _ _ cp (by first | omega | (simp only [nI];omega) | (simp only [nG,nD,nE];omega)) (zA rfl) rfl) rfl ?_
 intro bK bY
 have bZ:SW w [B0] U aV [.row ae ai 3 1 (hH KL.encI (nH (nH aa x35.toNat (gd aa (w64 (x35 - 1)).toNat)) (w64 (x35 - 1)).toNat (gd aa x35.toNat)))] bK:=bY
 refine zX (zj (zG (rR fL3 Z (oM Z aq (oR Z (ZX Z Z Z) (oA Z Z (zX ?_)))))))
 have q:=nA cy
 obtain rfl:=q
 exact zG ⟨rfl,_,rfl,⟨aV,(nK (b:=(.slice ae ((nH aa x35.toNat (gd aa (w64 (x35 - 1)).toNat)).length) ai:Value)) (c:=(.slice ae ((nH (nH aa x35.toNat (gd aa (w64 (x35 - 1)).toNat)) (w64 (x35 - 1)).toNat (gd aa x35.toNat)).length) ai:Value)) (nK (b:=(.slice ae aa.length ai:Value)) (c:=(.slice ae ((nH aa x35.toNat (gd aa (w64 (x35 - 1)).toNat)).length) ai:Value)) am (by simp only [nB])) (by simp only [nB])),aZ,bn,ba,bo,rfl,(be.trans bG),bZ,((nB.trans nB).trans bp)⟩⟩
 intro bk cz
 refine cF Z bk (ZP (zd ?_))
 have q:=wAb cz
 obtain ⟨cD,cA,bN⟩:=q
 have q:=bB cD bN
 obtain rfl:=q
 refine zd (ZJ (zj (zG (rR fL3 Z (oM Z bo (oR Z (zS Z Z Z) (oA Z Z (zX ?_))))))))
 have q:=nA cA
 obtain rfl:=q
 exact zG ⟨Z,_,Z,⟨aV,am,aZ,bn,ba,Z,((bt.trans be).trans bG),bA,bp⟩⟩
 have bC:=br;rw [if_neg ab] at bC;replace ab:=zJ ab
 refine oF Z ab (oF Z ab (oF Z ab (oF Z ab (oF Z ab (oF Z ab (oF Z ab (oF Z ab (oF Z ab (oF Z ab (OKS.px Z Z Z (Zg Z Z (ZQ ab.out) Z) (oF Z ab (oR Z (zn Z (ZQ ab.out) Z) (eN (zo Z (ZP (zd ?_))))))))))))))))
 have q:=wAb bC
 obtain ⟨cB,cq,bL⟩:=q
 have q:=bB cB bL
 obtain rfl:=q
 refine zd (ZJ (zj (zG (rR fL3 Z (oM Z bo (oR Z (zS Z Z Z) (oA Z Z (zX ?_))))))))
 have q:=nA cq
 obtain rfl:=q
 exact zG ⟨Z,_,Z,⟨bI,am,aZ,bn,ba,Z,(bt.trans be),az,bp⟩⟩
 have bD:=bq;rw [if_neg ap] at bD;replace ap:=zJ ap
 refine cF Z ap (ZP (zd ?_))
 have q:=wAb bD
 obtain ⟨cC,cr,bM⟩:=q
 have q:=cd cC bM
 obtain rfl:=q
 refine zd (ZJ ?_)
 have hE:=nA cr;first | subst r | cases hE
 exact ⟨Z,_,(wDn),bi,_,bz,Z,Z,bw⟩
theorem wBc (p0:List Int) (aj:Option Addr) (ak:Nat) (p1:Int) (p2:Int) (p3:Int) (p4:((Int × Int)->Option Int)) (bj:Value) (w:World) (U:PHeap) (hS:St0 w U [.row aj ak 3 1 (hH KL.encI p0)]) (bV:FnOK Tryz.prog U bj wRu wRv p4) {r:(List Int)} (hm:wAO p0 p1 p2 p3 p4=some r):Gv Tryz.prog 192 [.slice aj p0.length ak,jV p1,jV p2,jV p3,bj] w (wCW w [.row aj ak 3 1 (hH KL.encI p0)] U (fun U_ L_ v=>v=.tuple #[]/\L_=[.row aj ak 3 1 (hH KL.encI r)]/\r.length=p0.length)):=by
 unfold wAO at hm
 refine Gv.of Tryz.func192 Z Tryz.ntmps192 Tryz.results192 Z (sR fL1 Z (oA Z Z (eN (zU (bnK hm fun bY bC bM=>?_)))))
 have q:=wBS bC
 obtain ⟨bd,bD⟩:=q
 replace bd:=zJ bd
 let B0:Res:=.row aj ak 3 1 (hH KL.encI p0)
 refine CK.forN' (fun k8 l7 σ_ w_=>∃ (U_:PHeap),σ_ 10=jV (↑k8:Int)/\σ_ 0=.slice aj l7.length ak/\σ_ 1=jV p1/\σ_ 2=jV p2/\σ_ 3=jV p3/\PHeap.Le U U_/\SW w [B0] U U_ [.row aj ak 3 1 (hH KL.encI l7)] w_/\l7.length=p0.length) bD ?_ ?_ ?_
 exact ⟨U,Z,Z,Z,Z,Z,(zL _),hS,Z⟩
 rintro k8 l7 bX bZ be bb ⟨aY,au,az,aZ,ba,bh,bO,bu,br⟩ bN
 have bg:Hid ((↑k8:Int) < p3):=zJ (wBP bb)
 replace bb:=zJ bb
 have bI:Hid (w64 ((↑k8:Int) + 1)=(↑(k8 + 1):Int)):=zJ (by have h1:=bd.out;have h2:=bg.out;rw [wAa] <;> omega)
 refine zI (sR fL3 rfl (zN rfl rfl rfl rfl rfl au (zN rfl rfl rfl rfl rfl bh (zZ rfl rfl rfl rfl (fun _=>zO rfl rfl rfl) (eN (cT Z bg (kN (zI (zU (zx zr [3,3,3,3,3,3,3,3,3,3,3,3,3,1,3,3,3,3,3,1,3,0,3,0] (wUM (.fx 21 (.fl 22 (.fx 23 .nil .stop)) .stop)) (by kernel_rfl) ?_))))))))))
 have aV:=bu.drew
 generalize hw_W32:({ be with drawn:=be.drawn + 1 }:World)=bP at aV ⊢
 refine oM Z az (oM Z aZ (oM Z au (oR Z (zS Z Z Z) (oM Z az (oM Z ba (oM Z au (oR Z (zS Z Z Z) (oM Z az (oM Z ba (oM Z au (oR Z (zS Z Z Z) (bnK bN fun _ aW bJ=>?_))))))))))))
 obtain ⟨bR,am⟩:=aV.rowSome (j:=0) rfl (by rw [wAF (f:=KL.encI) (sz:=1) (fun _=>rfl) l7];have hz:=wAP aW;omega)
 refine oR Z (zm Z Z am Z zD zC (wAp aW) (wAq aW)) ?_
 have bE:=wAy (xs:=l7) (wAP aW)
 refine ZF rfl rfl rfl rfl (aV.ldR (j:=0) rfl am rfl rfl zE (wAR (sz:=1) (fun _=>rfl) _ _ 0 _ bE (by first | omega | rfl | simp) rfl)) rfl (zN rfl rfl rfl rfl rfl az (zN rfl rfl rfl rfl rfl aZ (zN rfl rfl rfl rfl rfl au (zZ rfl rfl rfl rfl (fun _=>zS rfl rfl rfl) (bnK bJ fun _ ap bK=>zZ rfl rfl rfl rfl (fun _=>zm rfl rfl am rfl zD zC (wAp ap) (wAq ap)) ?_)))))
 have bF:=wAy (xs:=l7) (wAP ap)
 refine ZF rfl rfl rfl rfl (aV.ldR (j:=0) rfl am rfl rfl zE (wAR (sz:=1) (fun _=>rfl) _ _ 0 _ bF (by first | omega | rfl | simp) rfl)) rfl (zZ rfl rfl rfl rfl (fun _=>zm rfl rfl am rfl zD zC (wAp ap) (wAq ap)) ?_)
 have bG:=wAy (xs:=l7) (wAP ap)
 refine yL (j:=0) (vs:=[jV (gd l7 (w64 (p2 + (↑k8:Int))).toNat)]) (cs':=hH KL.encI (nH l7 (w64 (p1 + (↑k8:Int))).toNat (gd l7 (w64 (p2 + (↑k8:Int))).toNat))) rfl rfl rfl rfl aV rfl am rfl rfl rfl zC (by rw [wAF (f:=KL.encI) (sz:=1) (fun _=>rfl)];have hz:=wAP ap;show _ + 1 <= _;first | omega | (simp only [nI];omega) | (simp only [nG,nD,nE];omega)) rfl (wBw (sz:=1) (fo:=0) (fun _=>rfl) _ _ _ _ bG (by first | omega | (simp only [nI];omega) | (simp only [nG,nD,nE];omega)) (zA rfl) rfl) rfl ?_
 intro bm bv
 have bw:SW w [B0] U aY [.row aj ak 3 1 (hH KL.encI (nH l7 (w64 (p1 + (↑k8:Int))).toNat (gd l7 (w64 (p2 + (↑k8:Int))).toNat)))] bm:=bv
 refine bnK bK fun _ aU bL=>zZ rfl rfl rfl rfl (fun _=>zm rfl (nK (b:=(.slice aj l7.length ak:Value)) (c:=(.slice aj ((nH l7 (w64 (p1 + (↑k8:Int))).toNat (gd l7 (w64 (p2 + (↑k8:Int))).toNat)).length) ak:Value)) rfl (by simp only [nB])) am rfl zD zC (wAp aU) (wAq aU)) ?_
 have bH:=wAy (xs:=(nH l7 (w64 (p1 + (↑k8:Int))).toNat (gd l7 (w64 (p2 + (↑k8:Int))).toNat))) (by first | exact wAP aU | (have hz:=wAP aU;simpa only [nB] using hz))
 refine yL (j:=0) (vs:=[jV (gd l7 (w64 (p1 + (↑k8:Int))).toNat)]) (cs':=hH KL.encI (nH (nH l7 (w64 (p1 + (↑k8:Int))).toNat (gd l7 (w64 (p2 + (↑k8:Int))).toNat)) (w64 (p2 + (↑k8:Int))).toNat (gd l7 (w64 (p1 + (↑k8:Int))).toNat))) rfl rfl rfl rfl bw rfl am rfl rfl rfl zC (by rw [wAF (f:=KL.encI) (sz:=1) (fun _=>rfl)];have hz:=wAP aU;show _ + 1 <= _;first | omega | (simp only [nB];omega) | (simp only [nG,nD,nE,nB];omega) | (simp only [nI];omega) | (simp only [nG,nD,nE];omega)) rfl (wBw (sz:=1) (fo:=0) (fun _=>rfl) _ _ _ _ bH (by first | omega | (simp only [nI];omega) | (simp only [nG,nD,nE];omega)) (zA rfl) rfl) rfl ?_
 intro bn bz
 have bA:SW w [B0] U aY [.row aj ak 3 1 (hH KL.encI (nH (nH l7 (w64 (p1 + (↑k8:Int))).toNat (gd l7 (w64 (p2 + (↑k8:Int))).toNat)) (w64 (p2 + (↑k8:Int))).toNat (gd l7 (w64 (p1 + (↑k8:Int))).toNat)))] bn:=bz
 refine zX (zj (zG (rR fL3 Z (oM Z au (oR Z (ZR (zS Z Z Z) (congrArg (jV) bI.out)) (oA Z Z (zX ?_)))))))
 cases bL
 exact zG ⟨rfl,⟨aY,rfl,(nK (b:=(.slice aj ((nH l7 (w64 (p1 + (↑k8:Int))).toNat (gd l7 (w64 (p2 + (↑k8:Int))).toNat)).length) ak:Value)) (c:=(.slice aj ((nH (nH l7 (w64 (p1 + (↑k8:Int))).toNat (gd l7 (w64 (p2 + (↑k8:Int))).toNat)) (w64 (p2 + (↑k8:Int))).toNat (gd l7 (w64 (p1 + (↑k8:Int))).toNat)).length) ak:Value)) (nK (b:=(.slice aj l7.length ak:Value)) (c:=(.slice aj ((nH l7 (w64 (p1 + (↑k8:Int))).toNat (gd l7 (w64 (p2 + (↑k8:Int))).toNat)).length) ak:Value)) az (by simp only [nB])) (by simp only [nB])),aZ,ba,bh,bO,bA,((nB.trans nB).trans br)⟩⟩
 rintro cb bQ ⟨bk,bq,bS,bT,bU,bp,bW,bB,bt⟩
 have bo:Hid (¬ ((↑((p3:Int) - 0).toNat:Int) < p3)):=zJ (wAv)
 refine zI (sR fL3 Z (oM Z bq (oM Z bp (oR Z (zO Z Z Z) (eN (cF Z bo (ZP (zd (zd (ZJ ?_))))))))))
 have hE:=nA bM;first | subst r | cases hE
 exact ⟨Z,_,(wDn),bk,_,bB,Z,Z,bt⟩
theorem wCa (p0:List Int) (aa:Option Addr) (ab:Nat) (p1:Int) (p2:Int) (p3:Int) (p4:((Int × Int)->Option Int)) (au:Value) (w:World) (U:PHeap) (hS:St0 w U [.row aa ab 3 1 (hH KL.encI p0)]) (bg:FnOK Tryz.prog U au wRu wRv p4) {r:(List Int)} (hm:wAk p0 p1 p2 p3 p4=some r):Gv Tryz.prog 132 [.slice aa p0.length ab,jV p1,jV p2,jV p3,au] w (wCW w [.row aa ab 3 1 (hH KL.encI p0)] U (fun U_ L_ v=>v=.tuple #[]/\L_=[.row aa ab 3 1 (hH KL.encI r)]/\r.length=p0.length)):=by
 unfold wAk at hm
 refine Gv.of Tryz.func132 Z Tryz.ntmps132 Tryz.results132 Z (sR fL4 Z (oM Z Z (oM Z Z (oR Z (ZX Z Z Z) (oA Z Z (eN (sR fL4 Z (oM Z Z (oM Z Z (oR Z (ZX Z Z Z) (oA Z Z (eN ?_))))))))))))
 have q:=bnd hm
 obtain ⟨⟨l2,x3⟩,cn,bv⟩:=q
 try dsimp only at bv
 let B0:Res:=.row aa ab 3 1 (hH KL.encI p0)
 refine yA (fun σ_ w_=>∃ (U_:PHeap),σ_ 0=.slice aa l2.length ab/\σ_ 2=jV p2/\σ_ 4=au/\σ_ 10=jV x3/\PHeap.Le U U_/\SW w [B0] U U_ [.row aa ab 3 1 (hH KL.encI l2)] w_/\l2.length=p0.length) ?_ ?_
 refine zU (ym (fun (ak,av,aY) σ_ w_=>∃ (U_:PHeap),σ_ 0=.slice aa ak.length ab/\σ_ 2=jV p2/\σ_ 4=au/\σ_ 10=jV av/\σ_ 11=jV aY/\PHeap.Le U U_/\SW w [B0] U U_ [.row aa ab 3 1 (hH KL.encI ak)] w_/\ak.length=p0.length) cn ?_ ?_)
 exact ⟨U,Z,Z,Z,Z,Z,(zL _),hS,Z⟩
 rintro ⟨ak,av,aY⟩ cD cE bn ⟨ba,aU,ap,aV,ae,aq,aW,be,bd⟩ bh bZ
 try dsimp only at bh
 refine zI (sR fL3 Z (oM Z ae (oM Z aq (oR Z (yC Z Z Z) (eN ?_)))))
 by_cases aj:av=aY
 have bt:=bh;rw [if_pos aj] at bt;replace aj:=zJ aj
 refine zo (ZQ (fun h=>h aj.out)) (ZP (zd ?_))
 have q:=wAb bt
 obtain ⟨ct,cb,bH⟩:=q
 have q:=bZ ct bH
 obtain rfl:=q
 refine zd (ZJ ?_)
 cases cb
 exact zG ⟨Z,⟨ba,aU,ap,aV,ae,aW,be,bd⟩⟩
 have bu:=bh;rw [if_neg aj] at bu;replace aj:=zJ aj
 refine cT Z aj (kN (zU (sR fL3 Z (oM Z ae (oM Z aq (oR Z (ya Z Z Z) (eN (ifc bu ?_ ?_))))))))
 intro bb cd
 refine cT Z bb (sR (wJK (.fx 7 .nil .stop)) Z (oM Z aU (oM Z ap (oM Z ae (oR Z (ZX Z Z Z) (oM Z ap (oM Z aq (oM Z aV ?_))))))))
 have bK:=bg.le aW
 refine bnK cd fun bA bL cf=>zM 1 Z Z Z Z (zK Z Z Tryz.call192 (zB Z (zB Z (zB Z (zB Z (zB Z zP))))) Z) be (fun hs=>wBc ak aa ab (w64 (p2 - av)) p2 aY p4 au bn ba hs bK bL) (.inl Z) ?_
 rintro bj cw cA bD cp bS ⟨rfl,rfl,bq⟩
 have bT:SW w [B0] U bj [.row aa ab 3 1 (hH KL.encI bA)] bD:=bS
 refine eN (rR fL4 Z (oM Z ae (oM Z aq (oR Z (ZX Z Z Z) (oA Z Z (zX (zj ?_)))))))
 have q:=nA cf
 obtain rfl:=q
 exact zG ⟨rfl,_,rfl,⟨bj,(nK (b:=(.slice aa ak.length ab:Value)) (c:=(.slice aa bA.length ab:Value)) aU (by rw [bq])),ap,aV,rfl,aq,(aW.trans cp),bT,(bq.trans bd)⟩⟩
 intro bb ci
 refine cF Z bb (sR (wMA (.fx 11 .nil .stop)) Z (oM Z aU (oM Z ap (oM Z ae (oR Z (ZX Z Z Z) (oM Z ap (oM Z aq (oR Z (zS Z Z Z) (oM Z ae (oR Z (ZX Z Z Z) (oM Z ae (oM Z aV ?_))))))))))))
 have bM:=bg.le aW
 refine bnK ci fun bB bN cj=>zM 1 Z Z Z Z (zK Z Z Tryz.call192 (zB Z (zB Z (zB Z (zB Z (zB Z zP))))) Z) be (fun hs=>wBc ak aa ab (w64 (p2 - av)) (w64 ((w64 (p2 + aY)) - av)) av p4 au bn ba hs bM bN) (.inl Z) ?_
 rintro bk cx cB bE cq bU ⟨rfl,rfl,br⟩
 have bV:SW w [B0] U bk [.row aa ab 3 1 (hH KL.encI bB)] bE:=bU
 refine eN (rR fL4 Z (oM Z aq (oM Z ae (oR Z (ZX Z Z Z) (oA Z Z (zX (zj ?_)))))))
 have q:=nA cj
 obtain rfl:=q
 exact zG ⟨rfl,_,rfl,⟨bk,(nK (b:=(.slice aa ak.length ab:Value)) (c:=(.slice aa bB.length ab:Value)) aU (by rw [br])),ap,aV,ae,rfl,(aW.trans cq),bV,(br.trans bd)⟩⟩
 rintro cG bF ⟨bC,bI,bo,bJ,bp,cr,bW,bO⟩
 refine rR (wJK (.fx 7 .nil .stop)) Z (oM Z bI (oM Z bo (oM Z bp (oR Z (ZX Z Z Z) (oM Z bo (oM Z bp (oM Z bJ ?_)))))))
 have bP:=bg.le cr
 refine bnK bv fun cu bQ cm=>zM 1 Z Z Z Z (zK Z Z Tryz.call192 (zB Z (zB Z (zB Z (zB Z (zB Z zP))))) Z) bW (fun hs=>wBc l2 aa ab (w64 (p2 - x3)) p2 x3 p4 au bF bC hs bP bQ) (.inl Z) ?_
 rintro bm cy cC bG cz bX ⟨rfl,rfl,bR⟩
 have bY:SW w [B0] U bm [.row aa ab 3 1 (hH KL.encI cu)] bG:=bX
 refine zX ?_
 have hE:=nA cm;first | subst r | cases hE
 exact ⟨Z,_,(wDn),bm,_,bY,Z,Z,(bR.trans bO)⟩
theorem wCO (n_:Nat):∀ (p0:List Int) (aa:Option Addr) (ab:Nat) (p1:Int) (p2:Int) (p3:Int) (p4:((Int × Int)->Option Int)) (aq:Value) (w:World) (U:PHeap) (hS:St0 w U [.row aa ab 3 1 (hH KL.encI p0)]) (bi:FnOK Tryz.prog U aq wRu wRv p4) {r:(List Int)} (hm:wAQ n_ p0 p1 p2 p3 p4=some r),Gv Tryz.prog 101 [.slice aa p0.length ab,jV p1,jV p2,jV p3,aq] w (wCW w [.row aa ab 3 1 (hH KL.encI p0)] U (fun U_ L_ v=>v=.tuple #[]/\L_=[.row aa ab 3 1 (hH KL.encI r)]/\r.length=p0.length)):=by
 induction n_ with
 | zero =>
  intros
  rename_i hm
  have oa:(none:Option ((List Int)))=some _:=hm
  cases oa
 | succ n_ ih =>
  intro p0 aa ab p1 p2 p3 p4 aq w U hS bi r hm
  have hm:wAt (wAQ n_) p0 p1 p2 p3 p4=some r:=hm
  unfold wAt at hm
  refine Gv.of Tryz.func101 Z Tryz.ntmps101 Tryz.results101 Z (zI (sR fL4 Z (oM Z Z (oM Z Z (oR Z (ZX Z Z Z) (oR Z (Runs.eql Z Z Z) (eN ?_)))))))
  by_cases c2:(w64 (p2 - p1))=1
  ·have iA:=hm;rw [if_pos c2] at iA;replace c2:=zJ c2
   refine cT Z c2 (sR fL2 Z (oM Z Z (oA Z Z (eN (sR fL2 Z (oM Z Z (oA Z Z (eN (bnK iA fun x4 rp qG=>?_)))))))))
   let B0:Res:=.row aa ab 3 1 (hH KL.encI p0)
   refine yA (fun σ_ w_=>∃ (U_:PHeap),σ_ 0=.slice aa p0.length ab/\σ_ 1=jV p1/\σ_ 10=jV x4/\PHeap.Le U U_/\SW w [B0] U U_ [B0] w_) ?_ ?_
   ·refine zU (ym (fun (x14,dT) σ_ w_=>∃ (U_:PHeap),σ_ 0=.slice aa p0.length ab/\σ_ 1=jV p1/\σ_ 4=aq/\σ_ 10=jV x14/\σ_ 11=jV dT/\PHeap.Le U U_/\SW w [B0] U U_ [B0] w_) rp ?_ ?_)
    ·exact ⟨U,Z,Z,Z,Z,Z,(zL _),hS⟩
    ·rintro ⟨x14,dT⟩ tL tS gw ⟨iT,cw,da,fd,df,fh,dK,ie⟩ fK mQ
     try dsimp only at fK
     refine zI (sR fL3 Z (oM Z df (oM Z fh (oR Z (zO Z Z Z) (eN ?_)))))
     by_cases bV:x14 < dT
     ·have iC:=fK;rw [if_pos bV] at iC;replace bV:=zJ bV
      refine cT Z bV (kN (zU (sR fL7 rfl (zN rfl rfl rfl rfl rfl df (zN rfl rfl rfl rfl rfl fh (zZ rfl rfl rfl rfl (fun _=>zS rfl rfl rfl) (zZ rfl rfl rfl rfl (fun _=>Runs.cv64 rfl rfl ZW Zh rfl rfl) (zZ rfl rfl rfl rfl (fun _=>Runs.shr1 rfl rfl rfl) (zZ rfl rfl rfl rfl (fun _=>Runs.cvw rfl rfl Zh ZW rfl rfl) (yK rfl rfl rfl rfl rfl rfl (eN (zI (zx zr [3,3,3,3,1,3,3,3,1,2,3] (wSX (.fx 9 (.fl 10 .nil) .stop)) (by kernel_rfl) ?_)))))))))))))
      have cG:=ie.drew
      generalize hw_W34:({ gw with drawn:=gw.drawn + 1 }:World)=sE at cG ⊢
      refine oM Z fd (oM Z cw (oM Z Z (bnK iC fun _ dx o6=>?_)))
      obtain ⟨sN,dH⟩:=cG.rowSome (j:=0) rfl (by rw [wAF (f:=KL.encI) (sz:=1) (fun _=>rfl) p0];have hz:=wAP dx;omega)
      refine oR Z (zm Z Z dH Z zD zC (wAp dx) (wAq dx)) ?_
      have n6:=wAy (xs:=p0) (wAP dx)
      refine ZF rfl rfl rfl rfl (cG.ldR (j:=0) rfl dH rfl rfl zE (wAR (sz:=1) (fun _=>rfl) _ _ 0 _ n6 (by first | omega | rfl | simp) rfl)) rfl (zN rfl rfl rfl rfl rfl cw (zN rfl rfl rfl rfl rfl da (bnK o6 fun _ fB po=>zZ rfl rfl rfl rfl (fun _=>zm rfl rfl dH rfl zD zC (wAp fB) (wAq fB)) ?_)))
      have n7:=wAy (xs:=p0) (wAP fB)
      refine ZF rfl rfl rfl rfl (cG.ldR (j:=0) rfl dH rfl rfl zE (wAR (sz:=1) (fun _=>rfl) _ _ 0 _ n7 (by first | omega | rfl | simp) rfl)) rfl (bnK po fun tI j3 pJ=>?_)
      have ln:=bi.le dK
      refine yd (a:=((gd p0 (w64 ((wAf (w64 (x14 + dT))) / 2)).toNat),(gd p0 p1.toNat))) Z Z Z Z Z Z (zB Z (zB Z zP)) cG ln Z j3 ?_
      rintro dX sd tp je iP ms ⟨rfl,rfl⟩
      have ik:SW w [B0] U dX [B0] je:=ms
      refine oR Z (zO Z Z Z) (eN (ifc pJ ?_ ?_))
      ·intro eF p9
       refine cT Z eF (rR fL3 Z (oM Z Z (oR Z (zS Z Z Z) (oA Z Z (zX (zj ?_))))))
       have q:=nA p9
       obtain rfl:=q
       exact zG ⟨Z,_,Z,⟨dX,cw,da,fd,Z,fh,(dK.trans iP),ik⟩⟩
      ·intro eF qf
       refine cF Z eF (rR fL2 Z (oM Z Z (oA Z Z (zX (zj ?_)))))
       have q:=nA qf
       obtain rfl:=q
       exact zG ⟨Z,_,Z,⟨dX,cw,da,fd,df,Z,(dK.trans iP),ik⟩⟩
     ·have iJ:=fK;rw [if_neg bV] at iJ;replace bV:=zJ bV
      refine cF Z bV (ZP (zd ?_))
      have q:=wAb iJ
      obtain ⟨rI,qm,jw⟩:=q
      have q:=mQ rI jw
      obtain rfl:=q
      refine zd (ZJ ?_)
      cases qm
      exact zG ⟨Z,⟨iT,cw,da,df,dK,ie⟩⟩
   ·rintro t8 sH ⟨gj,jE,jG,jH,s5,mF⟩
    refine zI (sR fL2 Z (oM Z jG (oA Z Z (eN (zU (ym (fun (ap,av) σ_ w_=>∃ (U_:PHeap),σ_ 0=.slice aa ap.length ab/\σ_ 10=jV x4/\σ_ 13=jV av/\PHeap.Le gj U_/\SW w [B0] U U_ [.row aa ab 3 1 (hH KL.encI ap)] w_/\ap.length=p0.length) qG ?_ ?_))))))
    ·exact ⟨gj,jE,jH,Z,(zL _),mF,Z⟩
    ·rintro ⟨ap,av⟩ tQ t9 gG ⟨cS,cz,gU,cr,rC,ip,g8⟩ fO mU
     try dsimp only at fO
     refine zI (sR fL4 Z (oM Z cr (oM Z gU (oR Z (ZX Z Z Z) (oR Z (zO Z Z Z) (eN ?_))))))
     by_cases bX:av < (w64 (x4 - 1))
     ·have iK:=fO;rw [if_pos bX] at iK;replace bX:=zJ bX
      refine cT Z bX (kN (zI (zU (zx zr [3,3,3,3,3,3,3,3,3,1,3,3,3,1,3,0,3,0] (wMB gAp) (by kernel_rfl) ?_))))
      have cI:=ip.drew
      generalize hw_W99:({ gG with drawn:=gG.drawn + 1 }:World)=sI at cI ⊢
      refine oM Z cz (oM Z cr (oM Z cz (oM Z cr (oR Z (zS Z Z Z) (oM Z cz (oM Z cr (oR Z (zS Z Z Z) (bnK iK fun _ dt oc=>?_))))))))
      obtain ⟨sJ,bY⟩:=cI.rowSome (j:=0) rfl (by rw [wAF (f:=KL.encI) (sz:=1) (fun _=>rfl) ap];have hz:=wAP dt;omega)
      refine oR Z (zm Z Z bY Z zD zC (wAp dt) (wAq dt)) ?_
      have mV:=wAy (xs:=ap) (wAP dt)
      refine ZF rfl rfl rfl rfl (cI.ldR (j:=0) rfl bY rfl rfl zE (wAR (sz:=1) (fun _=>rfl) _ _ 0 _ mV (by first | omega | rfl | simp) rfl)) rfl (zN rfl rfl rfl rfl rfl cz (zN rfl rfl rfl rfl rfl cr (bnK oc fun _ cj od=>zZ rfl rfl rfl rfl (fun _=>zm rfl rfl bY rfl zD zC (wAp cj) (wAq cj)) ?_)))
      have mW:=wAy (xs:=ap) (wAP cj)
      refine ZF rfl rfl rfl rfl (cI.ldR (j:=0) rfl bY rfl rfl zE (wAR (sz:=1) (fun _=>rfl) _ _ 0 _ mW (by first | omega | rfl | simp) rfl)) rfl (zZ rfl rfl rfl rfl (fun _=>zm rfl rfl bY rfl zD zC (wAp cj) (wAq cj)) ?_)
      have mX:=wAy (xs:=ap) (wAP cj)
      refine yL (j:=0) (vs:=[jV (gd ap (w64 (av + 1)).toNat)]) (cs':=hH KL.encI (nH ap av.toNat (gd ap (w64 (av + 1)).toNat))) rfl rfl rfl rfl cI rfl bY rfl rfl rfl zC (by rw [wAF (f:=KL.encI) (sz:=1) (fun _=>rfl)];have hz:=wAP cj;show _ + 1 <= _;first | omega | (simp only [nI];omega) | (simp only [nG,nD,nE];omega)) rfl (wBw (sz:=1) (fo:=0) (fun _=>rfl) _ _ _ _ mX (by first | omega | (simp only [nI];omega) | (simp only [nG,nD,nE];omega)) (zA rfl) rfl) rfl ?_
      intro iW lU
      have lV:SW w [B0] U cS [.row aa ab 3 1 (hH KL.encI (nH ap av.toNat (gd ap (w64 (av + 1)).toNat)))] iW:=lU
      refine bnK od fun _ cA oe=>zZ rfl rfl rfl rfl (fun _=>zm rfl (nK (b:=(.slice aa ap.length ab:Value)) (c:=(.slice aa ((nH ap av.toNat (gd ap (w64 (av + 1)).toNat)).length) ab:Value)) rfl (by simp only [nB])) bY rfl zD zC (wAp cA) (wAq cA)) ?_
      have mY:=wAy (xs:=(nH ap av.toNat (gd ap (w64 (av + 1)).toNat))) (by first | exact wAP cA | (have hz:=wAP cA;simpa only [nB] using hz))
      refine yL (j:=0) (vs:=[jV (gd ap av.toNat)]) (cs':=hH KL.encI (nH (nH ap av.toNat (gd ap (w64 (av + 1)).toNat)) (w64 (av + 1)).toNat (gd ap av.toNat))) rfl rfl rfl rfl lV rfl bY rfl rfl rfl zC (by rw [wAF (f:=KL.encI) (sz:=1) (fun _=>rfl)];have hz:=wAP cA;show _ + 1 <= _;first | omega | (simp only [nB];omega) | (simp only [nG,nD,nE,nB];omega) | (simp only [nI];omega) | (simp only [nG,nD,nE];omega)) rfl (wBw (sz:=1) (fo:=0) (fun _=>rfl) _ _ _ _ mY (by first | omega | (simp only [nI];omega) | (simp only [nG,nD,nE];omega)) (zA rfl) rfl) rfl ?_
      intro iX lW
      have lX:SW w [B0] U cS [.row aa ab 3 1 (hH KL.encI (nH (nH ap av.toNat (gd ap (w64 (av + 1)).toNat)) (w64 (av + 1)).toNat (gd ap av.toNat)))] iX:=lW
      refine zX (zj (zG (rR fL3 Z (oM Z cr (oR Z (zS Z Z Z) (oA Z Z (zX ?_)))))))
      have q:=nA oe
      obtain rfl:=q
      exact zG ⟨rfl,_,rfl,⟨cS,(nK (b:=(.slice aa ((nH ap av.toNat (gd ap (w64 (av + 1)).toNat)).length) ab:Value)) (c:=(.slice aa ((nH (nH ap av.toNat (gd ap (w64 (av + 1)).toNat)) (w64 (av + 1)).toNat (gd ap av.toNat)).length) ab:Value)) (nK (b:=(.slice aa ap.length ab:Value)) (c:=(.slice aa ((nH ap av.toNat (gd ap (w64 (av + 1)).toNat)).length) ab:Value)) cz (by simp only [nB])) (by simp only [nB])),gU,rfl,rC,lX,((nB.trans nB).trans g8)⟩⟩
     ·have iq:=fO;rw [if_neg bX] at iq;replace bX:=zJ bX
      refine cF Z bX (ZP (zd ?_))
      have q:=wAb iq
      obtain ⟨rD,og,jq⟩:=q
      have q:=mU rD jq
      obtain rfl:=q
      refine zd (ZJ (zG (zV (zR ?_))))
      have hE:=nA og;first | subst r | cases hE
      exact ⟨Z,_,(wDn),cS,_,ip,Z,Z,g8⟩
  ·have ir:=hm;rw [if_neg c2] at ir;replace c2:=zJ c2
   refine cF Z c2 (kN (zI (sR fL4 Z (oM Z Z (oM Z Z (oR Z (ZX Z Z Z) (oR Z (Runs.eql Z Z Z) (eN (ifc ir ?_ ?_)))))))))
   ·intro d5 oh
    refine cT Z d5 (sR fL2 Z (oM Z Z (oA Z Z (eN (sR fL2 Z (oM Z Z (oA Z Z (eN (bnK oh fun fR rk oi=>?_)))))))))
    let B1:Res:=.row aa ab 3 1 (hH KL.encI p0)
    refine yA (fun σ_ w_=>∃ (U_:PHeap),σ_ 0=.slice aa p0.length ab/\σ_ 2=jV p2/\σ_ 14=jV fR/\PHeap.Le U U_/\SW w [B1] U U_ [B1] w_) ?_ ?_
    ·refine zU (ym (fun (dR,dS) σ_ w_=>∃ (U_:PHeap),σ_ 0=.slice aa p0.length ab/\σ_ 2=jV p2/\σ_ 4=aq/\σ_ 14=jV dR/\σ_ 15=jV dS/\PHeap.Le U U_/\SW w [B1] U U_ [B1] w_) rk ?_ ?_)
     ·exact ⟨U,Z,Z,Z,Z,Z,(zL _),hS⟩
     ·rintro ⟨dR,dS⟩ tK tR gv ⟨iR,ct,cY,eV,cZ,eW,dJ,g9⟩ fJ mP
      try dsimp only at fJ
      refine zI (sR fL3 Z (oM Z cZ (oM Z eW (oR Z (zO Z Z Z) (eN ?_)))))
      by_cases bR:dR < dS
      ·have it:=fJ;rw [if_pos bR] at it;replace bR:=zJ bR
       refine cT Z bR (kN (zU (sR fL7 rfl (zN rfl rfl rfl rfl rfl cZ (zN rfl rfl rfl rfl rfl eW (zZ rfl rfl rfl rfl (fun _=>zS rfl rfl rfl) (zZ rfl rfl rfl rfl (fun _=>Runs.cv64 rfl rfl ZW Zh rfl rfl) (zZ rfl rfl rfl rfl (fun _=>Runs.shr1 rfl rfl rfl) (zZ rfl rfl rfl rfl (fun _=>Runs.cvw rfl rfl Zh ZW rfl rfl) (yK rfl rfl rfl rfl rfl rfl (eN (zI (zx zr [3,3,3,3,1,3,3,3,1,2,3,3] (wSX (.fx 9 (.fl 10 (.fl 11 .nil)) .stop)) (by kernel_rfl) ?_)))))))))))))
       have cC:=g9.drew
       generalize hw_W157:({ gv with drawn:=gv.drawn + 1 }:World)=sw at cC ⊢
       refine oM Z eV (oM Z ct (oM Z cY (bnK it fun _ du oj=>?_)))
       obtain ⟨sK,dF⟩:=cC.rowSome (j:=0) rfl (by rw [wAF (f:=KL.encI) (sz:=1) (fun _=>rfl) p0];have hz:=wAP du;omega)
       refine oR Z (zm Z Z dF Z zD zC (wAp du) (wAq du)) ?_
       have mZ:=wAy (xs:=p0) (wAP du)
       refine ZF rfl rfl rfl rfl (cC.ldR (j:=0) rfl dF rfl rfl zE (wAR (sz:=1) (fun _=>rfl) _ _ 0 _ mZ (by first | omega | rfl | simp) rfl)) rfl (zN rfl rfl rfl rfl rfl ct (zN rfl rfl rfl rfl rfl rfl (bnK oj fun _ fz ol=>zZ rfl rfl rfl rfl (fun _=>zm rfl rfl dF rfl zD zC (wAp fz) (wAq fz)) ?_)))
       have m4:=wAy (xs:=p0) (wAP fz)
       refine ZF rfl rfl rfl rfl (cC.ldR (j:=0) rfl dF rfl rfl zE (wAR (sz:=1) (fun _=>rfl) _ _ 0 _ m4 (by first | omega | rfl | simp) rfl)) rfl (bnK ol fun tG jJ om=>?_)
       have jK:=bi.le dJ
       refine yd (a:=((gd p0 p2.toNat),(gd p0 (w64 ((wAf (w64 (dR + dS))) / 2)).toNat))) Z Z Z Z Z Z (zB Z (zB Z zP)) cC jK Z jJ ?_
       rintro dU rX tc iY iN lY ⟨rfl,rfl⟩
       have ib:SW w [B1] U dU [B1] iY:=lY
       refine oR Z (zO Z Z Z) (oR Z (Runs.notP Z Z) (eN (ifc om ?_ ?_)))
       ·intro d7 oq
        refine zo (ZQ (fun h=>h d7.out)) (rR fL2 Z (oM Z Z (oA Z Z (zX (zj ?_)))))
        have q:=nA oq
        obtain rfl:=q
        exact zG ⟨Z,_,Z,⟨dU,ct,cY,eV,cZ,Z,(dJ.trans iN),ib⟩⟩
       ·intro d7 ot
        refine cT Z d7 (rR fL3 Z (oM Z Z (oR Z (zS Z Z Z) (oA Z Z (zX (zj ?_))))))
        have q:=nA ot
        obtain rfl:=q
        exact zG ⟨Z,_,Z,⟨dU,ct,cY,eV,Z,eW,(dJ.trans iN),ib⟩⟩
      ·have iu:=fJ;rw [if_neg bR] at iu;replace bR:=zJ bR
       refine cF Z bR (ZP (zd ?_))
       have q:=wAb iu
       obtain ⟨rE,ou,jr⟩:=q
       have q:=mP rE jr
       obtain rfl:=q
       refine zd (ZJ ?_)
       cases ou
       exact zG ⟨Z,⟨iR,ct,cY,cZ,dJ,g9⟩⟩
    ·rintro tT sA ⟨fY,jx,jy,jz,sP,lZ⟩
     refine zI (sR fL2 Z (oM Z jy (oA Z Z (eN (zU (ym (fun (am,au) σ_ w_=>∃ (U_:PHeap),σ_ 0=.slice aa am.length ab/\σ_ 14=jV fR/\σ_ 17=jV au/\PHeap.Le fY U_/\SW w [B1] U U_ [.row aa ab 3 1 (hH KL.encI am)] w_/\am.length=p0.length) oi ?_ ?_))))))
     ·exact ⟨fY,jx,jz,Z,(zL _),lZ,Z⟩
     ·rintro ⟨am,au⟩ tM tU gz ⟨cN,cu,gH,cq,rq,ic,gW⟩ fL mR
      try dsimp only at fL
      refine zI (sR fL3 Z (oM Z cq (oM Z gH (oR Z (ya Z Z Z) (eN ?_)))))
      by_cases bT:fR < au
      ·have iv:=fL;rw [if_pos bT] at iv;replace bT:=zJ bT
       refine cT Z bT (kN (zI (zU (zx zr [3,3,3,3,3,3,3,3,3,1,3,3,3,1,3,0,3,0] (wMB gAp) (by kernel_rfl) ?_))))
       have cD:=ic.drew
       generalize hw_W222:({ gz with drawn:=gz.drawn + 1 }:World)=sB at cD ⊢
       refine oM Z cu (oM Z cq (oM Z cu (oM Z cq (oR Z (ZX Z Z Z) (oM Z cu (oM Z cq (oR Z (ZX Z Z Z) (bnK iv fun _ dv ow=>?_))))))))
       obtain ⟨sL,bZ⟩:=cD.rowSome (j:=0) rfl (by rw [wAF (f:=KL.encI) (sz:=1) (fun _=>rfl) am];have hz:=wAP dv;omega)
       refine oR Z (zm Z Z bZ Z zD zC (wAp dv) (wAq dv)) ?_
       have m5:=wAy (xs:=am) (wAP dv)
       refine ZF rfl rfl rfl rfl (cD.ldR (j:=0) rfl bZ rfl rfl zE (wAR (sz:=1) (fun _=>rfl) _ _ 0 _ m5 (by first | omega | rfl | simp) rfl)) rfl (zN rfl rfl rfl rfl rfl cu (zN rfl rfl rfl rfl rfl cq (bnK ow fun _ cm ox=>zZ rfl rfl rfl rfl (fun _=>zm rfl rfl bZ rfl zD zC (wAp cm) (wAq cm)) ?_)))
       have m6:=wAy (xs:=am) (wAP cm)
       refine ZF rfl rfl rfl rfl (cD.ldR (j:=0) rfl bZ rfl rfl zE (wAR (sz:=1) (fun _=>rfl) _ _ 0 _ m6 (by first | omega | rfl | simp) rfl)) rfl (zZ rfl rfl rfl rfl (fun _=>zm rfl rfl bZ rfl zD zC (wAp cm) (wAq cm)) ?_)
       have m7:=wAy (xs:=am) (wAP cm)
       refine yL (j:=0) (vs:=[jV (gd am (w64 (au - 1)).toNat)]) (cs':=hH KL.encI (nH am au.toNat (gd am (w64 (au - 1)).toNat))) rfl rfl rfl rfl cD rfl bZ rfl rfl rfl zC (by rw [wAF (f:=KL.encI) (sz:=1) (fun _=>rfl)];have hz:=wAP cm;show _ + 1 <= _;first | omega | (simp only [nI];omega) | (simp only [nG,nD,nE];omega)) rfl (wBw (sz:=1) (fo:=0) (fun _=>rfl) _ _ _ _ m7 (by first | omega | (simp only [nI];omega) | (simp only [nG,nD,nE];omega)) (zA rfl) rfl) rfl ?_
       intro iZ l4
       have l5:SW w [B1] U cN [.row aa ab 3 1 (hH KL.encI (nH am au.toNat (gd am (w64 (au - 1)).toNat)))] iZ:=l4
       refine bnK ox fun _ cB oy=>zZ rfl rfl rfl rfl (fun _=>zm rfl (nK (b:=(.slice aa am.length ab:Value)) (c:=(.slice aa ((nH am au.toNat (gd am (w64 (au - 1)).toNat)).length) ab:Value)) rfl (by simp only [nB])) bZ rfl zD zC (wAp cB) (wAq cB)) ?_
       have m8:=wAy (xs:=(nH am au.toNat (gd am (w64 (au - 1)).toNat))) (by first | exact wAP cB | (have hz:=wAP cB;simpa only [nB] using hz))
       refine yL (j:=0) (vs:=[jV (gd am au.toNat)]) (cs':=hH KL.encI (nH (nH am au.toNat (gd am (w64 (au - 1)).toNat)) (w64 (au - 1)).toNat (gd am au.toNat))) rfl rfl rfl rfl l5 rfl bZ rfl rfl rfl zC (by rw [wAF (f:=KL.encI) (sz:=1) (fun _=>rfl)];have hz:=wAP cB;show _ + 1 <= _;first | omega | (simp only [nB];omega) | (simp only [nG,nD,nE,nB];omega) | (simp only [nI];omega) | (simp only [nG,nD,nE];omega)) rfl (wBw (sz:=1) (fo:=0) (fun _=>rfl) _ _ _ _ m8 (by first | omega | (simp only [nI];omega) | (simp only [nG,nD,nE];omega)) (zA rfl) rfl) rfl ?_
       intro i7 l6
       have ma:SW w [B1] U cN [.row aa ab 3 1 (hH KL.encI (nH (nH am au.toNat (gd am (w64 (au - 1)).toNat)) (w64 (au - 1)).toNat (gd am au.toNat)))] i7:=l6
       refine zX (zj (zG (rR fL3 Z (oM Z cq (oR Z (ZX Z Z Z) (oA Z Z (zX ?_)))))))
       have q:=nA oy
       obtain rfl:=q
       exact zG ⟨rfl,_,rfl,⟨cN,(nK (b:=(.slice aa ((nH am au.toNat (gd am (w64 (au - 1)).toNat)).length) ab:Value)) (c:=(.slice aa ((nH (nH am au.toNat (gd am (w64 (au - 1)).toNat)) (w64 (au - 1)).toNat (gd am au.toNat)).length) ab:Value)) (nK (b:=(.slice aa am.length ab:Value)) (c:=(.slice aa ((nH am au.toNat (gd am (w64 (au - 1)).toNat)).length) ab:Value)) cu (by simp only [nB])) (by simp only [nB])),gH,rfl,rq,ma,((nB.trans nB).trans gW)⟩⟩
      ·have iw:=fL;rw [if_neg bT] at iw;replace bT:=zJ bT
       refine cF Z bT (ZP (zd ?_))
       have q:=wAb iw
       obtain ⟨rF,oz,jt⟩:=q
       have q:=mR rF jt
       obtain rfl:=q
       refine zd (ZJ (zG (zV (zR ?_))))
       have hE:=nA oz;first | subst r | cases hE
       exact ⟨Z,_,(wDn),cN,_,ic,Z,Z,gW⟩
   ·intro d5 oB
    refine cF Z d5 (kN (sR fL7 Z (oM Z Z (oM Z Z (oR Z (zS Z Z Z) (oR Z (Runs.cv64 Z Z ZW Zh Z Z) (oR Z (Runs.shr1 Z Z Z) (oR Z (Runs.cvw Z Z Zh ZW Z Z) (oA Z Z (eN (sR fL4 Z (oM Z Z (oM Z Z (oR Z (zS Z Z Z) (oA Z Z (eN (sR fL2 Z (oA Z Z (oA Z Z (eN (zI (sR fL3 Z (oM Z Z (oM Z Z (oR Z (ya Z Z Z) (eN (ifc oB ?_ ?_)))))))))))))))))))))))))))
    ·intro d9 oG
     refine cT Z d9 (sR fL4 Z (oM Z Z (oM Z Z (oR Z (ZX Z Z Z) (oA Z Z (eN (rR fL2 Z (oM Z Z (oA Z Z (eN (sR fL3 Z (oM Z Z (oR Z (ZX Z Z Z) (oA Z Z (eN (bnK oG fun bd rn oH=>?_))))))))))))))))
     let B2:Res:=.row aa ab 3 1 (hH KL.encI p0)
     refine yA (fun σ_ w_=>∃ (U_:PHeap),σ_ 0=.slice aa p0.length ab/\σ_ 1=jV p1/\σ_ 2=jV p2/\σ_ 3=jV p3/\σ_ 4=aq/\σ_ 18=jV (w64 ((wAf (w64 (p1 + p3))) / 2))/\σ_ 19=jV (w64 ((w64 ((wAf (w64 (p1 + p3))) / 2)) + p2))/\σ_ 20=jV bd/\PHeap.Le U U_/\SW w [B2] U U_ [B2] w_) ?_ ?_
     ·refine zU (ym (fun (cJ,cK) σ_ w_=>∃ (U_:PHeap),σ_ 0=.slice aa p0.length ab/\σ_ 1=jV p1/\σ_ 2=jV p2/\σ_ 3=jV p3/\σ_ 4=aq/\σ_ 18=jV (w64 ((wAf (w64 (p1 + p3))) / 2))/\σ_ 19=jV (w64 ((w64 ((wAf (w64 (p1 + p3))) / 2)) + p2))/\σ_ 20=jV cJ/\σ_ 21=jV cK/\σ_ 22=jV (w64 ((w64 ((w64 ((wAf (w64 (p1 + p3))) / 2)) + p2)) - 1))/\PHeap.Le U U_/\SW w [B2] U U_ [B2] w_) rn ?_ ?_)
      ·exact ⟨U,Z,Z,Z,Z,Z,Z,Z,Z,Z,Z,(zL _),hS⟩
      ·rintro ⟨cJ,cK⟩ tO tV gA ⟨iU,cx,eX,eY,eZ,db,fb,fc,de,ff,fg,dL,ig⟩ fM mS
       try dsimp only at fM
       refine zI (sR fL3 Z (oM Z de (oM Z ff (oR Z (zO Z Z Z) (eN ?_)))))
       by_cases bU:cJ < cK
       ·have iz:=fM;rw [if_pos bU] at iz;replace bU:=zJ bU
        refine cT Z bU (kN (zU (sR fL7 rfl (zN rfl rfl rfl rfl rfl de (zN rfl rfl rfl rfl rfl ff (zZ rfl rfl rfl rfl (fun _=>zS rfl rfl rfl) (zZ rfl rfl rfl rfl (fun _=>Runs.cv64 rfl rfl ZW Zh rfl rfl) (zZ rfl rfl rfl rfl (fun _=>Runs.shr1 rfl rfl rfl) (zZ rfl rfl rfl rfl (fun _=>Runs.cvw rfl rfl Zh ZW rfl rfl) (yK rfl rfl rfl rfl rfl rfl (eN (zI (zx zr [3,3,3,3,3,3,1,3,3,3,1,2,3,3] (wMA gAq) (by kernel_rfl) ?_)))))))))))))
        have cE:=ig.drew
        generalize hw_W285:({ gA with drawn:=gA.drawn + 1 }:World)=sC at cE ⊢
        refine oM Z db (oM Z cx (oM Z fg (oM Z Z (oR Z (ZX Z Z Z) (bnK iz fun _ dw oI=>?_)))))
        obtain ⟨sM,dG⟩:=cE.rowSome (j:=0) rfl (by rw [wAF (f:=KL.encI) (sz:=1) (fun _=>rfl) p0];have hz:=wAP dw;omega)
        refine oR Z (zm Z Z dG Z zD zC (wAp dw) (wAq dw)) ?_
        have m9:=wAy (xs:=p0) (wAP dw)
        refine ZF rfl rfl rfl rfl (cE.ldR (j:=0) rfl dG rfl rfl zE (wAR (sz:=1) (fun _=>rfl) _ _ 0 _ m9 (by first | omega | rfl | simp) rfl)) rfl (zN rfl rfl rfl rfl rfl cx (zN rfl rfl rfl rfl rfl rfl (bnK oI fun _ fA oK=>zZ rfl rfl rfl rfl (fun _=>zm rfl rfl dG rfl zD zC (wAp fA) (wAq fA)) ?_)))
        have n5:=wAy (xs:=p0) (wAP fA)
        refine ZF rfl rfl rfl rfl (cE.ldR (j:=0) rfl dG rfl rfl zE (wAR (sz:=1) (fun _=>rfl) _ _ 0 _ n5 (by first | omega | rfl | simp) rfl)) rfl (bnK oK fun tH jL oO=>?_)
        have jM:=bi.le dL
        refine yd (a:=((gd p0 (w64 ((w64 ((w64 ((w64 ((wAf (w64 (p1 + p3))) / 2)) + p2)) - 1)) - (w64 ((wAf (w64 (cJ + cK))) / 2)))).toNat),(gd p0 (w64 ((wAf (w64 (cJ + cK))) / 2)).toNat))) Z Z Z Z Z Z (zB Z (zB Z zP)) cE jM Z jL ?_
        rintro dV rY td i8 iO mb ⟨rfl,rfl⟩
        have ii:SW w [B2] U dV [B2] i8:=mb
        refine oR Z (zO Z Z Z) (oR Z (Runs.notP Z Z) (eN (ifc oO ?_ ?_)))
        ·intro ec oP
         refine zo (ZQ (fun h=>h ec.out)) (rR fL2 Z (oM Z Z (oA Z Z (zX (zj ?_)))))
         have q:=nA oP
         obtain rfl:=q
         exact zG ⟨Z,_,Z,⟨dV,cx,eX,eY,eZ,db,fb,fc,de,Z,fg,(dL.trans iO),ii⟩⟩
        ·intro ec oU
         refine cT Z ec (rR fL3 Z (oM Z Z (oR Z (zS Z Z Z) (oA Z Z (zX (zj ?_))))))
         have q:=nA oU
         obtain rfl:=q
         exact zG ⟨Z,_,Z,⟨dV,cx,eX,eY,eZ,db,fb,fc,Z,ff,fg,(dL.trans iO),ii⟩⟩
       ·have iB:=fM;rw [if_neg bU] at iB;replace bU:=zJ bU
        refine cF Z bU (ZP (zd ?_))
        have q:=wAb iB
        obtain ⟨rG,oW,ju⟩:=q
        have q:=mS rG ju
        obtain rfl:=q
        refine zd (ZJ ?_)
        cases oW
        exact zG ⟨Z,⟨iU,cx,eX,eY,eZ,db,fb,fc,de,dL,ig⟩⟩
     ·rintro tW sD ⟨dW,gI,gJ,dg,gK,gL,gM,jA,dh,dM,ij⟩
      refine sR fL4 Z (oM Z jA (oM Z dh (oR Z (ZX Z Z Z) (oA Z Z (eN (zI (bnK oH fun jo iL o0=>yA (fun σ_ w_=>∃ (U_:PHeap),σ_ 0=.slice aa p0.length ab/\σ_ 1=jV p1/\σ_ 2=jV p2/\σ_ 3=jV p3/\σ_ 4=aq/\σ_ 18=jV (w64 ((wAf (w64 (p1 + p3))) / 2))/\σ_ 20=jV bd/\σ_ 24=jV (w64 ((w64 ((w64 ((wAf (w64 (p1 + p3))) / 2)) + p2)) - bd))/\σ_ 185=.bool jo/\PHeap.Le dW U_/\SW w [B2] U U_ [B2] w_) ?_ ?_)))))))
      ·refine rR fL8 Z (oM Z dh (oM Z dg (oR Z (zO Z Z Z) (oM Z Z ?_))))
       by_cases ba:bd < p2
       ·have iD:=iL;rw [if_pos ba] at iD;replace ba:=zJ ba
        refine zN Z Z Z (wT Z ba) Z dg (zN Z Z Z (wT Z ba) Z Z (rU Z (wT Z ba) (zO Z Z Z) (oR Z (zf Z (Zd ba.out) Z) (zX ?_))))
        have q:=nA iD
        obtain rfl:=q
        exact zG ⟨Z,⟨dW,gI,gJ,dg,gK,gL,gM,dh,Z,Z,(zL _),ij⟩⟩
       ·have iE:=iL;rw [if_neg ba] at iE;replace ba:=zJ ba
        refine oF Z ba (oF Z ba (oF Z ba (oR Z (zn Z (ZQ ba.out) Z) (zX ?_))))
        cases iE
        exact zG ⟨Z,⟨dW,gI,gJ,dg,gK,gL,gM,dh,Z,Z,(zL _),ij⟩⟩
      ·rintro tX cU ⟨bN,bH,dk,jB,bj,bI,aY,cf,aU,gN,dN,cb⟩
       refine ifc o0 ?_ ?_
       ·intro ef o3
        refine ZI (gN.trans (congrArg nJ ef.out)) (rR (wDh (.fx 5 .nil .stop)) Z (oM Z bH (oM Z cf (oM Z jB (oM Z aU (oM Z bI ?_))))))
        have jN:=bi.le dM
        have dy:=jN.le dN
        refine bnK o3 fun bL jO o5=>zM 1 Z Z Z Z (zK Z Z Tryz.call132 (zB Z (zB Z (zB Z (zB Z (zB Z zP))))) Z) cb (fun hs=>wCa p0 aa ab bd p2 (w64 ((w64 ((w64 ((wAf (w64 (p1 + p3))) / 2)) + p2)) - bd)) p4 aq cU bN hs dy jO) (.inl Z) ?_
        rintro bO rZ te cV fP mc ⟨rfl,rfl,bg⟩
        have cn:SW w [B2] U bO [.row aa ab 3 1 (hH KL.encI bL)] cV:=mc
        refine eN (zI (sR fL8 Z (oM Z dk (oM Z cf (oR Z (zO Z Z Z) (oM Z Z (ifc o5 ?_ ?_)))))))
        ·intro bo o7
         refine zN Z Z Z (wT Z bo) Z cf (zN Z Z Z (wT Z bo) Z aY (rU Z (wT Z bo) (zO Z Z Z) (oR Z (zf Z (Zd bo.out) Z) (eN (ifc o7 ?_ ?_)))))
         ·intro eg o8
          refine cT Z eg (rR (wDh (.fx 5 .nil .stop)) rfl (zN rfl rfl rfl rfl rfl (nK (b:=(.slice aa p0.length ab:Value)) (c:=(.slice aa bL.length ab:Value)) bH (by rw [bg])) (zN rfl rfl rfl rfl rfl dk (zN rfl rfl rfl rfl rfl cf (zN rfl rfl rfl rfl rfl aY (zN rfl rfl rfl rfl rfl bI ?_))))))
          have gX:=dy.le fP
          refine bnK o8 fun fS jP o9=>zM 1 Z Z Z Z (zK Z Z Zm (zB Z (zB Z (zB Z (zB Z (zB Z zP))))) Z) cn (fun hs=>ih bL aa ab p1 bd (w64 ((wAf (w64 (p1 + p3))) / 2)) p4 aq cV bO hs gX jP) (.inl Z) ?_
          rintro cO r6 tf gB rx md ⟨rfl,rfl,dz⟩
          have fD:SW w [B2] U cO [.row aa ab 3 1 (hH KL.encI fS)] gB:=md
          refine eN (sR fL8 Z (oM Z aY (oM Z aU (oR Z (zO Z Z Z) (oM Z Z (ifc o9 ?_ ?_))))))
          ·intro bp pe
           refine zN Z Z Z (wT Z bp) Z aU (zN Z Z Z (wT Z bp) Z bj (rU Z (wT Z bp) (zO Z Z Z) (oR Z (zf Z (Zd bp.out) Z) (eN (ifc pe ?_ ?_)))))
           ·intro eh pf
            refine cT Z eh (rR (wDh (.fx 5 .nil .stop)) rfl (zN rfl rfl rfl rfl rfl (nK (b:=(.slice aa bL.length ab:Value)) (c:=(.slice aa fS.length ab:Value)) (nK (b:=(.slice aa p0.length ab:Value)) (c:=(.slice aa bL.length ab:Value)) bH (by rw [bg])) (by rw [dz])) (zN rfl rfl rfl rfl rfl aY (zN rfl rfl rfl rfl rfl aU (zN rfl rfl rfl rfl rfl bj (zN rfl rfl rfl rfl rfl bI ?_))))))
            have jQ:=gX.le rx
            refine bnK pf fun rJ jR pg=>zM 1 Z Z Z Z (zK Z Z Zm (zB Z (zB Z (zB Z (zB Z (zB Z zP))))) Z) fD (fun hs=>ih fS aa ab (w64 ((wAf (w64 (p1 + p3))) / 2)) (w64 ((w64 ((w64 ((wAf (w64 (p1 + p3))) / 2)) + p2)) - bd)) p3 p4 aq gB cO hs jQ jR) (.inl Z) ?_
            rintro fZ r7 tg i9 sQ me ⟨rfl,rfl,jS⟩
            have mf:SW w [B2] U fZ [.row aa ab 3 1 (hH KL.encI rJ)] i9:=me
            refine zX ?_
            have hE:=nA pg;first | subst r | cases hE
            exact ⟨Z,_,(wDn),fZ,_,mf,Z,Z,((jS.trans dz).trans bg)⟩
           ·intro eh ph
            refine cF Z eh (ZT ?_)
            have hE:=nA ph;first | subst r | cases hE
            exact ⟨Z,_,(wDn),cO,_,fD,Z,Z,(dz.trans bg)⟩
          ·intro bp pj
           refine oF Z bp (oF Z bp (oF Z bp (oR Z (zn Z (ZQ bp.out) Z) (eN (zo Z (ZT ?_))))))
           have hE:=nA pj;first | subst r | cases hE
           exact ⟨Z,_,(wDn),cO,_,fD,Z,Z,(dz.trans bg)⟩
         ·intro eg pk
          refine cF Z eg (kN (sR fL8 Z (oM Z aY (oM Z aU (oR Z (zO Z Z Z) (oM Z Z (ifc pk ?_ ?_)))))))
          ·intro bq pm
           refine zN Z Z Z (wT Z bq) Z aU (zN Z Z Z (wT Z bq) Z bj (rU Z (wT Z bq) (zO Z Z Z) (oR Z (zf Z (Zd bq.out) Z) (eN (ifc pm ?_ ?_)))))
           ·intro en pn
            refine cT Z en (rR (wDh (.fx 5 .nil .stop)) rfl (zN rfl rfl rfl rfl rfl (nK (b:=(.slice aa p0.length ab:Value)) (c:=(.slice aa bL.length ab:Value)) bH (by rw [bg])) (zN rfl rfl rfl rfl rfl aY (zN rfl rfl rfl rfl rfl aU (zN rfl rfl rfl rfl rfl bj (zN rfl rfl rfl rfl rfl bI ?_))))))
            have jU:=dy.le fP
            refine bnK pn fun rK jW pp=>zM 1 Z Z Z Z (zK Z Z Zm (zB Z (zB Z (zB Z (zB Z (zB Z zP))))) Z) cn (fun hs=>ih bL aa ab (w64 ((wAf (w64 (p1 + p3))) / 2)) (w64 ((w64 ((w64 ((wAf (w64 (p1 + p3))) / 2)) + p2)) - bd)) p3 p4 aq cV bO hs jU jW) (.inl Z) ?_
            rintro ga r8 th ja sS mg ⟨rfl,rfl,jX⟩
            have mh:SW w [B2] U ga [.row aa ab 3 1 (hH KL.encI rK)] ja:=mg
            refine zX ?_
            have hE:=nA pp;first | subst r | cases hE
            exact ⟨Z,_,(wDn),ga,_,mh,Z,Z,(jX.trans bg)⟩
           ·intro en pq
            refine cF Z en (ZT ?_)
            have hE:=nA pq;first | subst r | cases hE
            exact ⟨Z,_,(wDn),bO,_,cn,Z,Z,bg⟩
          ·intro bq pu
           refine oF Z bq (oF Z bq (oF Z bq (oR Z (zn Z (ZQ bq.out) Z) (eN (zo Z (ZT ?_))))))
           have hE:=nA pu;first | subst r | cases hE
           exact ⟨Z,_,(wDn),bO,_,cn,Z,Z,bg⟩
        ·intro bo py
         refine oF Z bo (oF Z bo (oF Z bo (oR Z (zn Z (ZQ bo.out) Z) (eN (zo Z (kN (sR fL8 Z (oM Z aY (oM Z aU (oR Z (zO Z Z Z) (oM Z Z (ifc py ?_ ?_))))))))))))
         ·intro br pz
          refine zN Z Z Z (wT Z br) Z aU (zN Z Z Z (wT Z br) Z bj (rU Z (wT Z br) (zO Z Z Z) (oR Z (zf Z (Zd br.out) Z) (eN (ifc pz ?_ ?_)))))
          ·intro eu pB
           refine cT Z eu (rR (wDh (.fx 5 .nil .stop)) rfl (zN rfl rfl rfl rfl rfl (nK (b:=(.slice aa p0.length ab:Value)) (c:=(.slice aa bL.length ab:Value)) bH (by rw [bg])) (zN rfl rfl rfl rfl rfl aY (zN rfl rfl rfl rfl rfl aU (zN rfl rfl rfl rfl rfl bj (zN rfl rfl rfl rfl rfl bI ?_))))))
           have jY:=dy.le fP
           refine bnK pB fun rL jZ pC=>zM 1 Z Z Z Z (zK Z Z Zm (zB Z (zB Z (zB Z (zB Z (zB Z zP))))) Z) cn (fun hs=>ih bL aa ab (w64 ((wAf (w64 (p1 + p3))) / 2)) (w64 ((w64 ((w64 ((wAf (w64 (p1 + p3))) / 2)) + p2)) - bd)) p3 p4 aq cV bO hs jY jZ) (.inl Z) ?_
           rintro gb r9 tj jb sT mi ⟨rfl,rfl,j0⟩
           have mj:SW w [B2] U gb [.row aa ab 3 1 (hH KL.encI rL)] jb:=mi
           refine zX ?_
           have hE:=nA pC;first | subst r | cases hE
           exact ⟨Z,_,(wDn),gb,_,mj,Z,Z,(j0.trans bg)⟩
          ·intro eu pD
           refine cF Z eu (ZT ?_)
           have hE:=nA pD;first | subst r | cases hE
           exact ⟨Z,_,(wDn),bO,_,cn,Z,Z,bg⟩
         ·intro br pE
          refine oF Z br (oF Z br (oF Z br (oR Z (zn Z (ZQ br.out) Z) (eN (zo Z (ZT ?_))))))
          have hE:=nA pE;first | subst r | cases hE
          exact ⟨Z,_,(wDn),bO,_,cn,Z,Z,bg⟩
       ·intro ef pF
        refine zo (gN.trans (congrArg nJ (nL.2 ef.out))) (kN (zI (sR fL8 Z (oM Z dk (oM Z cf (oR Z (zO Z Z Z) (oM Z Z (ifc pF ?_ ?_))))))))
        ·intro bt pG
         refine zN Z Z Z (wT Z bt) Z cf (zN Z Z Z (wT Z bt) Z aY (rU Z (wT Z bt) (zO Z Z Z) (oR Z (zf Z (Zd bt.out) Z) (eN (ifc pG ?_ ?_)))))
         ·intro ez pH
          refine cT Z ez (rR (wDh (.fx 5 .nil .stop)) Z (oM Z bH (oM Z dk (oM Z cf (oM Z aY (oM Z bI ?_))))))
          have j4:=bi.le dM
          have gZ:=j4.le dN
          refine bnK pH fun fU j5 pI=>zM 1 Z Z Z Z (zK Z Z Zm (zB Z (zB Z (zB Z (zB Z (zB Z zP))))) Z) cb (fun hs=>ih p0 aa ab p1 bd (w64 ((wAf (w64 (p1 + p3))) / 2)) p4 aq cU bN hs gZ j5) (.inl Z) ?_
          rintro cP sb tl gC ry ml ⟨rfl,rfl,dA⟩
          have fE:SW w [B2] U cP [.row aa ab 3 1 (hH KL.encI fU)] gC:=ml
          refine eN (sR fL8 Z (oM Z aY (oM Z aU (oR Z (zO Z Z Z) (oM Z Z (ifc pI ?_ ?_))))))
          ·intro bu pK
           refine zN Z Z Z (wT Z bu) Z aU (zN Z Z Z (wT Z bu) Z bj (rU Z (wT Z bu) (zO Z Z Z) (oR Z (zf Z (Zd bu.out) Z) (eN (ifc pK ?_ ?_)))))
           ·intro eA pL
            refine cT Z eA (rR (wDh (.fx 5 .nil .stop)) rfl (zN rfl rfl rfl rfl rfl (nK (b:=(.slice aa p0.length ab:Value)) (c:=(.slice aa fU.length ab:Value)) bH (by rw [dA])) (zN rfl rfl rfl rfl rfl aY (zN rfl rfl rfl rfl rfl aU (zN rfl rfl rfl rfl rfl bj (zN rfl rfl rfl rfl rfl bI ?_))))))
            have j6:=gZ.le ry
            refine bnK pL fun rM j7 pM=>zM 1 Z Z Z Z (zK Z Z Zm (zB Z (zB Z (zB Z (zB Z (zB Z zP))))) Z) fE (fun hs=>ih fU aa ab (w64 ((wAf (w64 (p1 + p3))) / 2)) (w64 ((w64 ((w64 ((wAf (w64 (p1 + p3))) / 2)) + p2)) - bd)) p3 p4 aq gC cP hs j6 j7) (.inl Z) ?_
            rintro ge sc tn jc sU mo ⟨rfl,rfl,j8⟩
            have mp:SW w [B2] U ge [.row aa ab 3 1 (hH KL.encI rM)] jc:=mo
            refine zX ?_
            have hE:=nA pM;first | subst r | cases hE
            exact ⟨Z,_,(wDn),ge,_,mp,Z,Z,(j8.trans dA)⟩
           ·intro eA pN
            refine cF Z eA (ZT ?_)
            have hE:=nA pN;first | subst r | cases hE
            exact ⟨Z,_,(wDn),cP,_,fE,Z,Z,dA⟩
          ·intro bu pO
           refine oF Z bu (oF Z bu (oF Z bu (oR Z (zn Z (ZQ bu.out) Z) (eN (zo Z (ZT ?_))))))
           have hE:=nA pO;first | subst r | cases hE
           exact ⟨Z,_,(wDn),cP,_,fE,Z,Z,dA⟩
         ·intro ez pP
          refine cF Z ez (kN (sR fL8 Z (oM Z aY (oM Z aU (oR Z (zO Z Z Z) (oM Z Z (ifc pP ?_ ?_)))))))
          ·intro bv pQ
           refine zN Z Z Z (wT Z bv) Z aU (zN Z Z Z (wT Z bv) Z bj (rU Z (wT Z bv) (zO Z Z Z) (oR Z (zf Z (Zd bv.out) Z) (eN (ifc pQ ?_ ?_)))))
           ·intro eD pR
            refine cT Z eD (rR (wDh (.fx 5 .nil .stop)) Z (oM Z bH (oM Z aY (oM Z aU (oM Z bj (oM Z bI ?_))))))
            have j9:=bi.le dM
            have k9:=j9.le dN
            refine bnK pR fun rN lc pS=>zM 1 Z Z Z Z (zK Z Z Zm (zB Z (zB Z (zB Z (zB Z (zB Z zP))))) Z) cb (fun hs=>ih p0 aa ab (w64 ((wAf (w64 (p1 + p3))) / 2)) (w64 ((w64 ((w64 ((wAf (w64 (p1 + p3))) / 2)) + p2)) - bd)) p3 p4 aq cU bN hs k9 lc) (.inl Z) ?_
            rintro gf sf tq jd sV mq ⟨rfl,rfl,lf⟩
            have mr:SW w [B2] U gf [.row aa ab 3 1 (hH KL.encI rN)] jd:=mq
            refine zX ?_
            have hE:=nA pS;first | subst r | cases hE
            exact ⟨Z,_,(wDn),gf,_,mr,Z,Z,lf⟩
           ·intro eD pT
            refine cF Z eD (ZT ?_)
            have hE:=nA pT;first | subst r | cases hE
            exact ⟨Z,_,(wDn),bN,_,cb,Z,Z,Z⟩
          ·intro bv pU
           refine oF Z bv (oF Z bv (oF Z bv (oR Z (zn Z (ZQ bv.out) Z) (eN (zo Z (ZT ?_))))))
           have hE:=nA pU;first | subst r | cases hE
           exact ⟨Z,_,(wDn),bN,_,cb,Z,Z,Z⟩
        ·intro bt pV
         refine oF Z bt (oF Z bt (oF Z bt (oR Z (zn Z (ZQ bt.out) Z) (eN (zo Z (kN (sR fL8 Z (oM Z aY (oM Z aU (oR Z (zO Z Z Z) (oM Z Z (ifc pV ?_ ?_))))))))))))
         ·intro bw pW
          refine zN Z Z Z (wT Z bw) Z aU (zN Z Z Z (wT Z bw) Z bj (rU Z (wT Z bw) (zO Z Z Z) (oR Z (zf Z (Zd bw.out) Z) (eN (ifc pW ?_ ?_)))))
          ·intro eE pX
           refine cT Z eE (rR (wDh (.fx 5 .nil .stop)) Z (oM Z bH (oM Z aY (oM Z aU (oM Z bj (oM Z bI ?_))))))
           have lh:=bi.le dM
           have li:=lh.le dN
           refine bnK pX fun rO lj pY=>zM 1 Z Z Z Z (zK Z Z Zm (zB Z (zB Z (zB Z (zB Z (zB Z zP))))) Z) cb (fun hs=>ih p0 aa ab (w64 ((wAf (w64 (p1 + p3))) / 2)) (w64 ((w64 ((w64 ((wAf (w64 (p1 + p3))) / 2)) + p2)) - bd)) p3 p4 aq cU bN hs li lj) (.inl Z) ?_
           rintro gg sg tr jf sX mu ⟨rfl,rfl,lm⟩
           have mw:SW w [B2] U gg [.row aa ab 3 1 (hH KL.encI rO)] jf:=mu
           refine zX ?_
           have hE:=nA pY;first | subst r | cases hE
           exact ⟨Z,_,(wDn),gg,_,mw,Z,Z,lm⟩
          ·intro eE pZ
           refine cF Z eE (ZT ?_)
           have hE:=nA pZ;first | subst r | cases hE
           exact ⟨Z,_,(wDn),bN,_,cb,Z,Z,Z⟩
         ·intro bw p6
          refine oF Z bw (oF Z bw (oF Z bw (oR Z (zn Z (ZQ bw.out) Z) (eN (zo Z (ZT ?_))))))
          have hE:=nA p6;first | subst r | cases hE
          exact ⟨Z,_,(wDn),bN,_,cb,Z,Z,Z⟩
    ·intro d9 p7
     refine cF Z d9 (sR fL2 Z (oM Z Z (oA Z Z (eN (rR fL2 Z (oM Z Z (oA Z Z (eN (sR fL3 Z (oM Z Z (oR Z (ZX Z Z Z) (oA Z Z (eN (bnK p7 fun be ro p8=>?_))))))))))))))
     let B3:Res:=.row aa ab 3 1 (hH KL.encI p0)
     refine yA (fun σ_ w_=>∃ (U_:PHeap),σ_ 0=.slice aa p0.length ab/\σ_ 1=jV p1/\σ_ 2=jV p2/\σ_ 3=jV p3/\σ_ 4=aq/\σ_ 18=jV (w64 ((wAf (w64 (p1 + p3))) / 2))/\σ_ 19=jV (w64 ((w64 ((wAf (w64 (p1 + p3))) / 2)) + p2))/\σ_ 20=jV be/\PHeap.Le U U_/\SW w [B3] U U_ [B3] w_) ?_ ?_
     ·refine zU (ym (fun (cL,cM) σ_ w_=>∃ (U_:PHeap),σ_ 0=.slice aa p0.length ab/\σ_ 1=jV p1/\σ_ 2=jV p2/\σ_ 3=jV p3/\σ_ 4=aq/\σ_ 18=jV (w64 ((wAf (w64 (p1 + p3))) / 2))/\σ_ 19=jV (w64 ((w64 ((wAf (w64 (p1 + p3))) / 2)) + p2))/\σ_ 20=jV cL/\σ_ 21=jV cM/\σ_ 22=jV (w64 ((w64 ((w64 ((wAf (w64 (p1 + p3))) / 2)) + p2)) - 1))/\PHeap.Le U U_/\SW w [B3] U U_ [B3] w_) ro ?_ ?_)
      ·exact ⟨U,Z,Z,Z,Z,Z,Z,Z,Z,Z,Z,(zL _),hS⟩
      ·rintro ⟨cL,cM⟩ tP tY gD ⟨iV,cy,fj,fm,fq,dl,ft,fu,dm,fw,fy,dO,il⟩ fN mT
       try dsimp only at fN
       refine zI (sR fL3 Z (oM Z dm (oM Z fw (oR Z (zO Z Z Z) (eN ?_)))))
       by_cases bW:cL < cM
       ·have iF:=fN;rw [if_pos bW] at iF;replace bW:=zJ bW
        refine cT Z bW (kN (zU (sR fL7 rfl (zN rfl rfl rfl rfl rfl dm (zN rfl rfl rfl rfl rfl fw (zZ rfl rfl rfl rfl (fun _=>zS rfl rfl rfl) (zZ rfl rfl rfl rfl (fun _=>Runs.cv64 rfl rfl ZW Zh rfl rfl) (zZ rfl rfl rfl rfl (fun _=>Runs.shr1 rfl rfl rfl) (zZ rfl rfl rfl rfl (fun _=>Runs.cvw rfl rfl Zh ZW rfl rfl) (yK rfl rfl rfl rfl rfl rfl (eN (zI (zx zr [3,3,3,3,3,3,1,3,3,3,1,2,3,3] (wMA gAq) (by kernel_rfl) ?_)))))))))))))
        have cH:=il.drew
        generalize hw_W552:({ gD with drawn:=gD.drawn + 1 }:World)=sF at cH ⊢
        refine oM Z dl (oM Z cy (oM Z fy (oM Z Z (oR Z (ZX Z Z Z) (bnK iF fun _ dB qa=>?_)))))
        obtain ⟨sO,dI⟩:=cH.rowSome (j:=0) rfl (by rw [wAF (f:=KL.encI) (sz:=1) (fun _=>rfl) p0];have hz:=wAP dB;omega)
        refine oR Z (zm Z Z dI Z zD zC (wAp dB) (wAq dB)) ?_
        have n8:=wAy (xs:=p0) (wAP dB)
        refine ZF rfl rfl rfl rfl (cH.ldR (j:=0) rfl dI rfl rfl zE (wAR (sz:=1) (fun _=>rfl) _ _ 0 _ n8 (by first | omega | rfl | simp) rfl)) rfl (zN rfl rfl rfl rfl rfl cy (zN rfl rfl rfl rfl rfl rfl (bnK qa fun _ fC qb=>zZ rfl rfl rfl rfl (fun _=>zm rfl rfl dI rfl zD zC (wAp fC) (wAq fC)) ?_)))
        have n9:=wAy (xs:=p0) (wAP fC)
        refine ZF rfl rfl rfl rfl (cH.ldR (j:=0) rfl dI rfl rfl zE (wAR (sz:=1) (fun _=>rfl) _ _ 0 _ n9 (by first | omega | rfl | simp) rfl)) rfl (bnK qb fun tJ lp qc=>?_)
        have lq:=bi.le dO
        refine yd (a:=((gd p0 (w64 ((w64 ((w64 ((w64 ((wAf (w64 (p1 + p3))) / 2)) + p2)) - 1)) - (w64 ((wAf (w64 (cL + cM))) / 2)))).toNat),(gd p0 (w64 ((wAf (w64 (cL + cM))) / 2)).toNat))) Z Z Z Z Z Z (zB Z (zB Z zP)) cH lq Z lp ?_
        rintro dY sh tu jg iQ my ⟨rfl,rfl⟩
        have im:SW w [B3] U dY [B3] jg:=my
        refine oR Z (zO Z Z Z) (oR Z (Runs.notP Z Z) (eN (ifc qc ?_ ?_)))
        ·intro eG qd
         refine zo (ZQ (fun h=>h eG.out)) (rR fL2 Z (oM Z Z (oA Z Z (zX (zj ?_)))))
         have q:=nA qd
         obtain rfl:=q
         exact zG ⟨Z,_,Z,⟨dY,cy,fj,fm,fq,dl,ft,fu,dm,Z,fy,(dO.trans iQ),im⟩⟩
        ·intro eG qe
         refine cT Z eG (rR fL3 Z (oM Z Z (oR Z (zS Z Z Z) (oA Z Z (zX (zj ?_))))))
         have q:=nA qe
         obtain rfl:=q
         exact zG ⟨Z,_,Z,⟨dY,cy,fj,fm,fq,dl,ft,fu,Z,fw,fy,(dO.trans iQ),im⟩⟩
       ·have iG:=fN;rw [if_neg bW] at iG;replace bW:=zJ bW
        refine cF Z bW (ZP (zd ?_))
        have q:=wAb iG
        obtain ⟨rH,qh,jv⟩:=q
        have q:=mT rH jv
        obtain rfl:=q
        refine zd (ZJ ?_)
        cases qh
        exact zG ⟨Z,⟨iV,cy,fj,fm,fq,dl,ft,fu,dm,dO,il⟩⟩
     ·rintro tZ sG ⟨dZ,gO,gP,dp,gQ,gR,gS,jC,dq,dP,io⟩
      refine sR fL4 Z (oM Z jC (oM Z dq (oR Z (ZX Z Z Z) (oA Z Z (eN (zI (bnK p8 fun jp iM qi=>yA (fun σ_ w_=>∃ (U_:PHeap),σ_ 0=.slice aa p0.length ab/\σ_ 1=jV p1/\σ_ 2=jV p2/\σ_ 3=jV p3/\σ_ 4=aq/\σ_ 18=jV (w64 ((wAf (w64 (p1 + p3))) / 2))/\σ_ 20=jV be/\σ_ 24=jV (w64 ((w64 ((w64 ((wAf (w64 (p1 + p3))) / 2)) + p2)) - be))/\σ_ 185=.bool jp/\PHeap.Le dZ U_/\SW w [B3] U U_ [B3] w_) ?_ ?_)))))))
      ·refine rR fL8 Z (oM Z dq (oM Z dp (oR Z (zO Z Z Z) (oM Z Z ?_))))
       by_cases bb:be < p2
       ·have iH:=iM;rw [if_pos bb] at iH;replace bb:=zJ bb
        refine zN Z Z Z (wT Z bb) Z dp (zN Z Z Z (wT Z bb) Z Z (rU Z (wT Z bb) (zO Z Z Z) (oR Z (zf Z (Zd bb.out) Z) (zX ?_))))
        have q:=nA iH
        obtain rfl:=q
        exact zG ⟨Z,⟨dZ,gO,gP,dp,gQ,gR,gS,dq,Z,Z,(zL _),io⟩⟩
       ·have iI:=iM;rw [if_neg bb] at iI;replace bb:=zJ bb
        refine oF Z bb (oF Z bb (oF Z bb (oR Z (zn Z (ZQ bb.out) Z) (zX ?_))))
        cases iI
        exact zG ⟨Z,⟨dZ,gO,gP,dp,gQ,gR,gS,dq,Z,Z,(zL _),io⟩⟩
      ·rintro t7 cW ⟨bP,bJ,dr,jD,bk,bK,aZ,ci,aV,gT,dQ,cd⟩
       refine ifc qi ?_ ?_
       ·intro eH qj
        refine ZI (gT.trans (congrArg nJ eH.out)) (rR (wDh (.fx 5 .nil .stop)) Z (oM Z bJ (oM Z ci (oM Z jD (oM Z aV (oM Z bK ?_))))))
        have lu:=bi.le dP
        have dC:=lu.le dQ
        refine bnK qj fun bM lv qk=>zM 1 Z Z Z Z (zK Z Z Tryz.call132 (zB Z (zB Z (zB Z (zB Z (zB Z zP))))) Z) cd (fun hs=>wCa p0 aa ab be p2 (w64 ((w64 ((w64 ((wAf (w64 (p1 + p3))) / 2)) + p2)) - be)) p4 aq cW bP hs dC lv) (.inl Z) ?_
        rintro bQ sj tv cX fQ mz ⟨rfl,rfl,bh⟩
        have cp:SW w [B3] U bQ [.row aa ab 3 1 (hH KL.encI bM)] cX:=mz
        refine eN (zI (sR fL8 Z (oM Z dr (oM Z ci (oR Z (zO Z Z Z) (oM Z Z (ifc qk ?_ ?_)))))))
        ·intro bz qn
         refine zN Z Z Z (wT Z bz) Z ci (zN Z Z Z (wT Z bz) Z aZ (rU Z (wT Z bz) (zO Z Z Z) (oR Z (zf Z (Zd bz.out) Z) (eN (ifc qn ?_ ?_)))))
         ·intro eI qo
          refine cT Z eI (rR (wDh (.fx 5 .nil .stop)) rfl (zN rfl rfl rfl rfl rfl (nK (b:=(.slice aa p0.length ab:Value)) (c:=(.slice aa bM.length ab:Value)) bJ (by rw [bh])) (zN rfl rfl rfl rfl rfl dr (zN rfl rfl rfl rfl rfl ci (zN rfl rfl rfl rfl rfl aZ (zN rfl rfl rfl rfl rfl bK ?_))))))
          have g6:=dC.le fQ
          refine bnK qo fun fV lw qp=>zM 1 Z Z Z Z (zK Z Z Zm (zB Z (zB Z (zB Z (zB Z (zB Z zP))))) Z) cp (fun hs=>ih bM aa ab p1 be (w64 ((wAf (w64 (p1 + p3))) / 2)) p4 aq cX bQ hs g6 lw) (.inl Z) ?_
          rintro cQ sk tw gE rA mA ⟨rfl,rfl,dD⟩
          have fG:SW w [B3] U cQ [.row aa ab 3 1 (hH KL.encI fV)] gE:=mA
          refine eN (sR fL8 Z (oM Z aZ (oM Z aV (oR Z (zO Z Z Z) (oM Z Z (ifc qp ?_ ?_))))))
          ·intro bA qq
           refine zN Z Z Z (wT Z bA) Z aV (zN Z Z Z (wT Z bA) Z bk (rU Z (wT Z bA) (zO Z Z Z) (oR Z (zf Z (Zd bA.out) Z) (eN (ifc qq ?_ ?_)))))
           ·intro eJ qr
            refine cT Z eJ (rR (wDh (.fx 5 .nil .stop)) rfl (zN rfl rfl rfl rfl rfl (nK (b:=(.slice aa bM.length ab:Value)) (c:=(.slice aa fV.length ab:Value)) (nK (b:=(.slice aa p0.length ab:Value)) (c:=(.slice aa bM.length ab:Value)) bJ (by rw [bh])) (by rw [dD])) (zN rfl rfl rfl rfl rfl aZ (zN rfl rfl rfl rfl rfl aV (zN rfl rfl rfl rfl rfl bk (zN rfl rfl rfl rfl rfl bK ?_))))))
            have lx:=g6.le rA
            refine bnK qr fun rP ly qt=>zM 1 Z Z Z Z (zK Z Z Zm (zB Z (zB Z (zB Z (zB Z (zB Z zP))))) Z) fG (fun hs=>ih fV aa ab (w64 ((wAf (w64 (p1 + p3))) / 2)) (w64 ((w64 ((w64 ((wAf (w64 (p1 + p3))) / 2)) + p2)) - be)) p3 p4 aq gE cQ hs lx ly) (.inl Z) ?_
            rintro gh sm tz jh sY mB ⟨rfl,rfl,lA⟩
            have mC:SW w [B3] U gh [.row aa ab 3 1 (hH KL.encI rP)] jh:=mB
            refine zX ?_
            have hE:=nA qt;first | subst r | cases hE
            exact ⟨Z,_,(wDn),gh,_,mC,Z,Z,((lA.trans dD).trans bh)⟩
           ·intro eJ qu
            refine cF Z eJ (ZT ?_)
            have hE:=nA qu;first | subst r | cases hE
            exact ⟨Z,_,(wDn),cQ,_,fG,Z,Z,(dD.trans bh)⟩
          ·intro bA qv
           refine oF Z bA (oF Z bA (oF Z bA (oR Z (zn Z (ZQ bA.out) Z) (eN (zo Z (ZT ?_))))))
           have hE:=nA qv;first | subst r | cases hE
           exact ⟨Z,_,(wDn),cQ,_,fG,Z,Z,(dD.trans bh)⟩
         ·intro eI qw
          refine cF Z eI (kN (sR fL8 Z (oM Z aZ (oM Z aV (oR Z (zO Z Z Z) (oM Z Z (ifc qw ?_ ?_)))))))
          ·intro bB qx
           refine zN Z Z Z (wT Z bB) Z aV (zN Z Z Z (wT Z bB) Z bk (rU Z (wT Z bB) (zO Z Z Z) (oR Z (zf Z (Zd bB.out) Z) (eN (ifc qx ?_ ?_)))))
           ·intro eK qy
            refine cT Z eK (rR (wDh (.fx 5 .nil .stop)) rfl (zN rfl rfl rfl rfl rfl (nK (b:=(.slice aa p0.length ab:Value)) (c:=(.slice aa bM.length ab:Value)) bJ (by rw [bh])) (zN rfl rfl rfl rfl rfl aZ (zN rfl rfl rfl rfl rfl aV (zN rfl rfl rfl rfl rfl bk (zN rfl rfl rfl rfl rfl bK ?_))))))
            have lB:=dC.le fQ
            refine bnK qy fun rQ lC qz=>zM 1 Z Z Z Z (zK Z Z Zm (zB Z (zB Z (zB Z (zB Z (zB Z zP))))) Z) cp (fun hs=>ih bM aa ab (w64 ((wAf (w64 (p1 + p3))) / 2)) (w64 ((w64 ((w64 ((wAf (w64 (p1 + p3))) / 2)) + p2)) - be)) p3 p4 aq cX bQ hs lB lC) (.inl Z) ?_
            rintro gi sn tA ji sZ mD ⟨rfl,rfl,lD⟩
            have mE:SW w [B3] U gi [.row aa ab 3 1 (hH KL.encI rQ)] ji:=mD
            refine zX ?_
            have hE:=nA qz;first | subst r | cases hE
            exact ⟨Z,_,(wDn),gi,_,mE,Z,Z,(lD.trans bh)⟩
           ·intro eK qA
            refine cF Z eK (ZT ?_)
            have hE:=nA qA;first | subst r | cases hE
            exact ⟨Z,_,(wDn),bQ,_,cp,Z,Z,bh⟩
          ·intro bB qB
           refine oF Z bB (oF Z bB (oF Z bB (oR Z (zn Z (ZQ bB.out) Z) (eN (zo Z (ZT ?_))))))
           have hE:=nA qB;first | subst r | cases hE
           exact ⟨Z,_,(wDn),bQ,_,cp,Z,Z,bh⟩
        ·intro bz qC
         refine oF Z bz (oF Z bz (oF Z bz (oR Z (zn Z (ZQ bz.out) Z) (eN (zo Z (kN (sR fL8 Z (oM Z aZ (oM Z aV (oR Z (zO Z Z Z) (oM Z Z (ifc qC ?_ ?_))))))))))))
         ·intro bC qD
          refine zN Z Z Z (wT Z bC) Z aV (zN Z Z Z (wT Z bC) Z bk (rU Z (wT Z bC) (zO Z Z Z) (oR Z (zf Z (Zd bC.out) Z) (eN (ifc qD ?_ ?_)))))
          ·intro eL qE
           refine cT Z eL (rR (wDh (.fx 5 .nil .stop)) rfl (zN rfl rfl rfl rfl rfl (nK (b:=(.slice aa p0.length ab:Value)) (c:=(.slice aa bM.length ab:Value)) bJ (by rw [bh])) (zN rfl rfl rfl rfl rfl aZ (zN rfl rfl rfl rfl rfl aV (zN rfl rfl rfl rfl rfl bk (zN rfl rfl rfl rfl rfl bK ?_))))))
           have lE:=dC.le fQ
           refine bnK qE fun rS lF qF=>zM 1 Z Z Z Z (zK Z Z Zm (zB Z (zB Z (zB Z (zB Z (zB Z zP))))) Z) cp (fun hs=>ih bM aa ab (w64 ((wAf (w64 (p1 + p3))) / 2)) (w64 ((w64 ((w64 ((wAf (w64 (p1 + p3))) / 2)) + p2)) - be)) p3 p4 aq cX bQ hs lE lF) (.inl Z) ?_
           rintro gm so tB jj s6 mG ⟨rfl,rfl,lG⟩
           have mH:SW w [B3] U gm [.row aa ab 3 1 (hH KL.encI rS)] jj:=mG
           refine zX ?_
           have hE:=nA qF;first | subst r | cases hE
           exact ⟨Z,_,(wDn),gm,_,mH,Z,Z,(lG.trans bh)⟩
          ·intro eL qH
           refine cF Z eL (ZT ?_)
           have hE:=nA qH;first | subst r | cases hE
           exact ⟨Z,_,(wDn),bQ,_,cp,Z,Z,bh⟩
         ·intro bC qI
          refine oF Z bC (oF Z bC (oF Z bC (oR Z (zn Z (ZQ bC.out) Z) (eN (zo Z (ZT ?_))))))
          have hE:=nA qI;first | subst r | cases hE
          exact ⟨Z,_,(wDn),bQ,_,cp,Z,Z,bh⟩
       ·intro eH qJ
        refine zo (gT.trans (congrArg nJ (nL.2 eH.out))) (kN (zI (sR fL8 Z (oM Z dr (oM Z ci (oR Z (zO Z Z Z) (oM Z Z (ifc qJ ?_ ?_))))))))
        ·intro bD qK
         refine zN Z Z Z (wT Z bD) Z ci (zN Z Z Z (wT Z bD) Z aZ (rU Z (wT Z bD) (zO Z Z Z) (oR Z (zf Z (Zd bD.out) Z) (eN (ifc qK ?_ ?_)))))
         ·intro eM qL
          refine cT Z eM (rR (wDh (.fx 5 .nil .stop)) Z (oM Z bJ (oM Z dr (oM Z ci (oM Z aZ (oM Z bK ?_))))))
          have lH:=bi.le dP
          have g7:=lH.le dQ
          refine bnK qL fun fW lI qM=>zM 1 Z Z Z Z (zK Z Z Zm (zB Z (zB Z (zB Z (zB Z (zB Z zP))))) Z) cd (fun hs=>ih p0 aa ab p1 be (w64 ((wAf (w64 (p1 + p3))) / 2)) p4 aq cW bP hs g7 lI) (.inl Z) ?_
          rintro cR sq tC gF rB mI ⟨rfl,rfl,dE⟩
          have fH:SW w [B3] U cR [.row aa ab 3 1 (hH KL.encI fW)] gF:=mI
          refine eN (sR fL8 Z (oM Z aZ (oM Z aV (oR Z (zO Z Z Z) (oM Z Z (ifc qM ?_ ?_))))))
          ·intro bE qN
           refine zN Z Z Z (wT Z bE) Z aV (zN Z Z Z (wT Z bE) Z bk (rU Z (wT Z bE) (zO Z Z Z) (oR Z (zf Z (Zd bE.out) Z) (eN (ifc qN ?_ ?_)))))
           ·intro eO qO
            refine cT Z eO (rR (wDh (.fx 5 .nil .stop)) rfl (zN rfl rfl rfl rfl rfl (nK (b:=(.slice aa p0.length ab:Value)) (c:=(.slice aa fW.length ab:Value)) bJ (by rw [dE])) (zN rfl rfl rfl rfl rfl aZ (zN rfl rfl rfl rfl rfl aV (zN rfl rfl rfl rfl rfl bk (zN rfl rfl rfl rfl rfl bK ?_))))))
            have lJ:=g7.le rB
            refine bnK qO fun rT lK qP=>zM 1 Z Z Z Z (zK Z Z Zm (zB Z (zB Z (zB Z (zB Z (zB Z zP))))) Z) fH (fun hs=>ih fW aa ab (w64 ((wAf (w64 (p1 + p3))) / 2)) (w64 ((w64 ((w64 ((wAf (w64 (p1 + p3))) / 2)) + p2)) - be)) p3 p4 aq gF cR hs lJ lK) (.inl Z) ?_
            rintro gq ss tD jk s7 mJ ⟨rfl,rfl,lL⟩
            have mK:SW w [B3] U gq [.row aa ab 3 1 (hH KL.encI rT)] jk:=mJ
            refine zX ?_
            have hE:=nA qP;first | subst r | cases hE
            exact ⟨Z,_,(wDn),gq,_,mK,Z,Z,(lL.trans dE)⟩
           ·intro eO qQ
            refine cF Z eO (ZT ?_)
            have hE:=nA qQ;first | subst r | cases hE
            exact ⟨Z,_,(wDn),cR,_,fH,Z,Z,dE⟩
          ·intro bE qR
           refine oF Z bE (oF Z bE (oF Z bE (oR Z (zn Z (ZQ bE.out) Z) (eN (zo Z (ZT ?_))))))
           have hE:=nA qR;first | subst r | cases hE
           exact ⟨Z,_,(wDn),cR,_,fH,Z,Z,dE⟩
         ·intro eM qS
          refine cF Z eM (kN (sR fL8 Z (oM Z aZ (oM Z aV (oR Z (zO Z Z Z) (oM Z Z (ifc qS ?_ ?_)))))))
          ·intro bF qT
           refine zN Z Z Z (wT Z bF) Z aV (zN Z Z Z (wT Z bF) Z bk (rU Z (wT Z bF) (zO Z Z Z) (oR Z (zf Z (Zd bF.out) Z) (eN (ifc qT ?_ ?_)))))
           ·intro eQ qU
            refine cT Z eQ (rR (wDh (.fx 5 .nil .stop)) Z (oM Z bJ (oM Z aZ (oM Z aV (oM Z bk (oM Z bK ?_))))))
            have lM:=bi.le dP
            have lN:=lM.le dQ
            refine bnK qU fun rV lO qV=>zM 1 Z Z Z Z (zK Z Z Zm (zB Z (zB Z (zB Z (zB Z (zB Z zP))))) Z) cd (fun hs=>ih p0 aa ab (w64 ((wAf (w64 (p1 + p3))) / 2)) (w64 ((w64 ((w64 ((wAf (w64 (p1 + p3))) / 2)) + p2)) - be)) p3 p4 aq cW bP hs lN lO) (.inl Z) ?_
            rintro gt su tE jl s8 mL ⟨rfl,rfl,lP⟩
            have mM:SW w [B3] U gt [.row aa ab 3 1 (hH KL.encI rV)] jl:=mL
            refine zX ?_
            have hE:=nA qV;first | subst r | cases hE
            exact ⟨Z,_,(wDn),gt,_,mM,Z,Z,lP⟩
           ·intro eQ qW
            refine cF Z eQ (ZT ?_)
            have hE:=nA qW;first | subst r | cases hE
            exact ⟨Z,_,(wDn),bP,_,cd,Z,Z,Z⟩
          ·intro bF qX
           refine oF Z bF (oF Z bF (oF Z bF (oR Z (zn Z (ZQ bF.out) Z) (eN (zo Z (ZT ?_))))))
           have hE:=nA qX;first | subst r | cases hE
           exact ⟨Z,_,(wDn),bP,_,cd,Z,Z,Z⟩
        ·intro bD qY
         refine oF Z bD (oF Z bD (oF Z bD (oR Z (zn Z (ZQ bD.out) Z) (eN (zo Z (kN (sR fL8 Z (oM Z aZ (oM Z aV (oR Z (zO Z Z Z) (oM Z Z (ifc qY ?_ ?_))))))))))))
         ·intro bG qZ
          refine zN Z Z Z (wT Z bG) Z aV (zN Z Z Z (wT Z bG) Z bk (rU Z (wT Z bG) (zO Z Z Z) (oR Z (zf Z (Zd bG.out) Z) (eN (ifc qZ ?_ ?_)))))
          ·intro eU rc
           refine cT Z eU (rR (wDh (.fx 5 .nil .stop)) Z (oM Z bJ (oM Z aZ (oM Z aV (oM Z bk (oM Z bK ?_))))))
           have lQ:=bi.le dP
           have lR:=lQ.le dQ
           refine bnK rc fun rW lS re=>zM 1 Z Z Z Z (zK Z Z Zm (zB Z (zB Z (zB Z (zB Z (zB Z zP))))) Z) cd (fun hs=>ih p0 aa ab (w64 ((wAf (w64 (p1 + p3))) / 2)) (w64 ((w64 ((w64 ((wAf (w64 (p1 + p3))) / 2)) + p2)) - be)) p3 p4 aq cW bP hs lR lS) (.inl Z) ?_
           rintro gu sv tF jm s9 mN ⟨rfl,rfl,lT⟩
           have mO:SW w [B3] U gu [.row aa ab 3 1 (hH KL.encI rW)] jm:=mN
           refine zX ?_
           have hE:=nA re;first | subst r | cases hE
           exact ⟨Z,_,(wDn),gu,_,mO,Z,Z,lT⟩
          ·intro eU ri
           refine cF Z eU (ZT ?_)
           have hE:=nA ri;first | subst r | cases hE
           exact ⟨Z,_,(wDn),bP,_,cd,Z,Z,Z⟩
         ·intro bG rj
          refine oF Z bG (oF Z bG (oF Z bG (oR Z (zn Z (ZQ bG.out) Z) (eN (zo Z (ZT ?_))))))
          have hE:=nA rj;first | subst r | cases hE
          exact ⟨Z,_,(wDn),bP,_,cd,Z,Z,Z⟩
end Go.Proofs.YtkedcbligiebkaaGreat
namespace Go.Proofs.YtkedcbligiebkaaGreat
open Go.KL
set_option maxHeartbeats 4000000
theorem wDz (p0:List Int) (aa:Option Addr) (ab:Nat) (p1:Int) (p2:((Int × Int)->Option Int)) (aj:Value) (w:World) (U:PHeap) (hS:St0 w U [.row aa ab 3 1 (hH KL.encI p0)]) (cp:FnOK Tryz.prog U aj wRu wRv p2) {r:(List Int)} (hm:wBT p0 p1 p2=some r):Gv Tryz.prog 59 [.slice aa p0.length ab,jV p1,aj] w (wCW w [.row aa ab 3 1 (hH KL.encI p0)] U (fun U_ L_ v=>v=.tuple #[]/\L_=[.row aa ab 3 1 (hH KL.encI r)]/\r.length=p0.length)):=by
 unfold wBT at hm
 refine Gv.of Tryz.func59 Z Tryz.ntmps59 Tryz.results59 Z (sR fL1 Z (oA Z Z (eN (sR fL3 Z (oM Z Z (oA Z Z (oA Z Z (eN ?_))))))))
 have q:=bnd hm
 obtain ⟨⟨l2,x3⟩,dN,cz⟩:=q
 try dsimp only at cz
 let B0:Res:=.row aa ab 3 1 (hH KL.encI p0)
 refine yA (fun σ_ w_=>∃ (U_:PHeap),σ_ 0=.slice aa l2.length ab/\σ_ 1=jV p1/\σ_ 2=aj/\σ_ 6=jV 20/\σ_ 7=jV x3/\PHeap.Le U U_/\SW w [B0] U U_ [.row aa ab 3 1 (hH KL.encI l2)] w_/\l2.length=p0.length) ?_ ?_
 refine zU (ym (fun (az,bI,bi) σ_ w_=>∃ (U_:PHeap),σ_ 0=.slice aa az.length ab/\σ_ 1=jV p1/\σ_ 2=aj/\σ_ 6=jV 20/\σ_ 7=jV bI/\σ_ 8=jV bi/\PHeap.Le U U_/\SW w [B0] U U_ [.row aa ab 3 1 (hH KL.encI az)] w_/\az.length=p0.length) dN ?_ ?_)
 exact ⟨U,Z,Z,Z,Z,Z,Z,(zL _),hS,Z⟩
 rintro ⟨az,bI,bi⟩ eg ez cM ⟨bN,bv,bw,bz,bA,bR,bb,bH,cm,cb⟩ bD dB
 try dsimp only at bD
 refine zI (sR fL3 Z (oM Z bb (oM Z bw (oR Z (Runs.leq Z Z Z) (eN ?_)))))
 by_cases aq:bi <= p1
 have cx:=bD;rw [if_pos aq] at cx;replace aq:=zJ aq
 refine cT Z aq (kN (zU (sR (wEc (.fx 4 .nil .stop)) Z (oM Z bv (oM Z bR (oM Z bb (oM Z bz ?_)))))))
 have dk:=cp.le bH
 refine bnK cx fun cE dl dJ=>zM 1 Z Z Z Z (zK Z Z Tryz.call100 (zB Z (zB Z (zB Z (zB Z zP)))) Z) cm (fun hs=>wBp az aa ab bI bi p2 aj cM bN hs dk dl) (.inl Z) ?_
 rintro bO dX d9 cN dQ dv ⟨rfl,rfl,cd⟩
 have dw:SW w [B0] U bO [.row aa ab 3 1 (hH KL.encI cE)] cN:=dv
 refine eN (sR fL2 Z (oM Z bb (oA Z Z (eN (rR fL4 Z (oM Z bb (oM Z bA (oR Z (zS Z Z Z) (oA Z Z (zX (zj ?_)))))))))))
 have q:=nA dJ
 obtain rfl:=q
 exact zG ⟨rfl,_,rfl,⟨bO,(nK (b:=(.slice aa az.length ab:Value)) (c:=(.slice aa cE.length ab:Value)) bv (by rw [cd])),bw,bz,bA,rfl,rfl,(bH.trans dQ),dw,(cd.trans cb)⟩⟩
 have cy:=bD;rw [if_neg aq] at cy;replace aq:=zJ aq
 refine cF Z aq (ZP (zd ?_))
 have q:=wAb cy
 obtain ⟨dU,dK,cS⟩:=q
 have q:=dB dU cS
 obtain rfl:=q
 refine zd (ZJ ?_)
 cases dK
 exact zG ⟨Z,⟨bN,bv,bw,bz,bA,bR,bH,cm,cb⟩⟩
 rintro eA cO ⟨cH,bS,bT,bU,cW,cX,dR,dx,dm⟩
 refine sR (wEc (.fx 4 .nil .stop)) Z (oM Z bS (oM Z cX (oM Z bT (oM Z bU ?_))))
 have bB:=cp.le dR
 refine bnK cz fun cG dp dL=>zM 1 Z Z Z Z (zK Z Z Tryz.call100 (zB Z (zB Z (zB Z (zB Z zP)))) Z) dx (fun hs=>wBp l2 aa ab x3 p1 p2 aj cO cH hs bB dp) (.inl Z) ?_
 rintro bj dY ec cP cA dy ⟨rfl,rfl,cf⟩
 have dz:SW w [B0] U bj [.row aa ab 3 1 (hH KL.encI cG)] cP:=dy
 refine eN (zU (ym (fun (bd,au) σ_ w_=>∃ (U_:PHeap),σ_ 0=.slice aa bd.length ab/\σ_ 1=jV p1/\σ_ 2=aj/\σ_ 6=jV au/\PHeap.Le bj U_/\SW w [B0] U U_ [.row aa ab 3 1 (hH KL.encI bd)] w_/\bd.length=p0.length) dL ?_ ?_))
 exact ⟨bj,(nK (b:=(.slice aa l2.length ab:Value)) (c:=(.slice aa cG.length ab:Value)) bS (by rw [cf])),bT,bU,cW,(zL _),dz,(cf.trans dm)⟩
 rintro ⟨bd,au⟩ eh eD dZ ⟨aX,cU,bP,cV,bm,be,cn,bV⟩ bE dC
 try dsimp only at bE
 refine zI (sR fL3 Z (oM Z bm (oM Z bP (oR Z (zO Z Z Z) (eN ?_)))))
 by_cases am:au < p1
 have cq:=bE;rw [if_pos am] at cq;replace am:=zJ am
 refine cT Z am (kN (zU (sR fL4 Z (oM Z bm (oR Z (Runs.mulw Z Z Z) (oA Z Z (oA Z Z (eN ?_))))))))
 have q:=bnd cq
 obtain ⟨⟨aV,x108⟩,dM,cr⟩:=q
 try dsimp only at cr
 refine yA (fun σ_ w_=>∃ (U_:PHeap),σ_ 0=.slice aa aV.length ab/\σ_ 1=jV p1/\σ_ 2=aj/\σ_ 6=jV au/\σ_ 7=jV x108/\PHeap.Le aX U_/\SW w [B0] U U_ [.row aa ab 3 1 (hH KL.encI aV)] w_/\aV.length=p0.length) ?_ ?_
 refine zU (ym (fun (av,bg,bh) σ_ w_=>∃ (U_:PHeap),σ_ 0=.slice aa av.length ab/\σ_ 1=jV p1/\σ_ 2=aj/\σ_ 6=jV au/\σ_ 7=jV bg/\σ_ 8=jV bh/\PHeap.Le aX U_/\SW w [B0] U U_ [.row aa ab 3 1 (hH KL.encI av)] w_/\av.length=p0.length) dM ?_ ?_)
 exact ⟨aX,cU,bP,cV,bm,Z,Z,(zL _),cn,bV⟩
 rintro ⟨av,bg,bh⟩ ef en cI ⟨bJ,bn,bo,bp,aY,bq,aZ,bF,ci,bW⟩ bC dA
 try dsimp only at bC
 refine zI (sR fL3 Z (oM Z aZ (oM Z bo (oR Z (Runs.leq Z Z Z) (eN ?_)))))
 by_cases ap:bh <= p1
 have ct:=bC;rw [if_pos ap] at ct;replace ap:=zJ ap
 refine cT Z ap (kN (zU (sR (wJK (.fx 7 .nil .stop)) Z (oM Z bn (oM Z bq (oM Z bq (oM Z aY (oR Z (zS Z Z Z) (oM Z aZ (oM Z bp ?_))))))))))
 have cY:=bB.le cA
 have cZ:=cY.le be
 have da:=cZ.le bF
 refine bnK ct fun cB db dD=>zM 1 Z Z Z Z (zK Z Z Zm (zB Z (zB Z (zB Z (zB Z (zB Z zP))))) Z) ci (fun hs=>wCO 1000 av aa ab bg (w64 (bg + au)) bh p2 aj cI bJ hs da db) (.inl Z) ?_
 rintro bK dV d5 cJ dO dq ⟨rfl,rfl,bX⟩
 have dr:SW w [B0] U bK [.row aa ab 3 1 (hH KL.encI cB)] cJ:=dq
 refine eN (sR fL2 Z (oM Z aZ (oA Z Z (eN (rR fL5 Z (oM Z aZ (oM Z aY (oR Z (Runs.mulw Z Z Z) (oR Z (zS Z Z Z) (oA Z Z (zX (zj ?_))))))))))))
 have q:=nA dD
 obtain rfl:=q
 exact zG ⟨rfl,_,rfl,⟨bK,(nK (b:=(.slice aa av.length ab:Value)) (c:=(.slice aa cB.length ab:Value)) bn (by rw [bX])),bo,bp,aY,rfl,rfl,(bF.trans dO),dr,(bX.trans bW)⟩⟩
 have cu:=bC;rw [if_neg ap] at cu;replace ap:=zJ ap
 refine cF Z ap (ZP (zd ?_))
 have q:=wAb cu
 obtain ⟨dS,dE,cQ⟩:=q
 have q:=dA dS cQ
 obtain rfl:=q
 refine zd (ZJ ?_)
 cases dE
 exact zG ⟨Z,⟨bJ,bn,bo,bp,aY,bq,bF,ci,bW⟩⟩
 rintro eu cK ⟨bL,br,ba,bt,bu,bQ,bG,cj,bY⟩
 refine zI (sR fL4 Z (oM Z bQ (oM Z bu (oR Z (zS Z Z Z) (oA Z Z (eN (sR fL3 Z (oM Z Z (oM Z ba (oR Z (zO Z Z Z) (eN (ifc cr ?_ ?_))))))))))))
 intro bk dF
 refine cT Z bk (rR (wDh (.fx 5 .nil .stop)) Z (oM Z br (oM Z bQ (oM Z Z (oM Z ba (oM Z bt ?_))))))
 have de:=bB.le cA
 have df:=de.le be
 have dg:=df.le bG
 refine bnK dF fun cC dh dG=>zM 1 Z Z Z Z (zK Z Z Zm (zB Z (zB Z (zB Z (zB Z (zB Z zP))))) Z) cj (fun hs=>wCO 1000 aV aa ab x108 (w64 (x108 + au)) p1 p2 aj cK bL hs dg dh) (.inl Z) ?_
 rintro bM dW d7 cL dP dt ⟨rfl,rfl,bZ⟩
 have du:SW w [B0] U bM [.row aa ab 3 1 (hH KL.encI cC)] cL:=dt
 refine eN (rR fL3 Z (oM Z bu (oR Z (Runs.mulw Z Z Z) (oA Z Z (zX (zj ?_))))))
 have q:=nA dG
 obtain rfl:=q
 exact zG ⟨rfl,_,rfl,⟨bM,(nK (b:=(.slice aa aV.length ab:Value)) (c:=(.slice aa cC.length ab:Value)) br (by rw [bZ])),ba,bt,rfl,((be.trans bG).trans dP),du,(bZ.trans bY)⟩⟩
 intro bk dH
 refine cF Z bk (kN (rR fL3 Z (oM Z bu (oR Z (Runs.mulw Z Z Z) (oA Z Z (zX (zj ?_)))))))
 have q:=nA dH
 obtain rfl:=q
 exact zG ⟨Z,_,Z,⟨bL,br,ba,bt,Z,(be.trans bG),cj,bY⟩⟩
 have cw:=bE;rw [if_neg am] at cw;replace am:=zJ am
 refine cF Z am (ZP (zd ?_))
 have q:=wAb cw
 obtain ⟨dT,dI,cR⟩:=q
 have q:=dC dT cR
 obtain rfl:=q
 refine zd (ZJ ?_)
 have hE:=nA dI;first | subst r | cases hE
 exact ⟨Z,_,(wDn),aX,_,cn,Z,Z,bV⟩
theorem wDO (p0:List Int) (ab:Option Addr) (ae:Nat) (p1:((Int × Int)->Option Int)) (aj:Value) (w:World) (U:PHeap) (hS:St0 w U [.row ab ae 3 1 (hH KL.encI p0)]) (az:FnOK Tryz.prog U aj wRu wRv p1) {r:(List Int)} (hm:wAs p0 p1=some r):Gv Tryz.prog 26 [.slice ab p0.length ae,aj] w (wCW w [.row ab ae 3 1 (hH KL.encI p0)] U (fun U_ L_ v=>v=.tuple #[]/\L_=[.row ab ae 3 1 (hH KL.encI r)]/\r.length=p0.length)):=by
 unfold wAs at hm
 refine Gv.of Tryz.func26 Z Tryz.ntmps26 Tryz.results26 Z (rR (wEc (.fx 4 .nil .stop)) Z (oM Z Z (oM Z Z (oR Z (ZA Z Z zD) (oM Z Z (bnK hm fun x2 h3 aU=>zM 1 Z Z Z Z (zK Z Z Tryz.call59 (zB Z (zB Z (zB Z zP))) Z) hS (fun hs=>wDz p0 ab ae (↑p0.length:Int) p1 aj w U hs az h3) (.inl Z) ?_))))))
 rintro U5 L6 v7 W8 aX au ⟨rfl,rfl,ap⟩
 have av:SW w [.row ab ae 3 1 (hH KL.encI p0)] U U5 [.row ab ae 3 1 (hH KL.encI x2)] W8:=au
 refine zX ?_
 have hE:=nA aU;first | subst r | cases hE
 exact ⟨Z,_,(wDn),U5,_,av,Z,Z,ap⟩
theorem wHc (p0:List wAI) (ak:Option Addr) (am:Nat) (p1:wAZ) (w:World) (U:PHeap) (hS:St0 w U []) (eI:Sl U 2 ak am p0.length (hH wAm p0)) {r:(List wAh) × Int} (hm:wCT p0 p1=some r):Gv Tryz.prog 7 [.slice ak p0.length am,.agg #[jV p1.Unit,jV p1.Limit]] w (wCW w [] U (fun U_ L_ v=>∃ (A0:Option Addr) (c0:Nat),v=.tuple #[.slice A0 r.1.length c0,jV r.2]/\L_=[.row A0 c0 49 3 (hH wBA r.1)])):=by
 unfold wCT at hm
 refine Gv.of Tryz.func7 rfl Tryz.ntmps7 Tryz.results7 rfl (sR (.fx 0 gAk .stop) rfl (ZK (cs:=[.slice ak p0.length am]) rfl rfl rfl rfl rfl rfl (by rfl) hS ?_))
 intro W1 b2 eh
 have q:=eh.freeze (k:=0) rfl
 obtain ⟨U5,fq,aV,eD⟩:=q
 replace aV:=Cl.of aV
 have eF:sW w U U5 [] W1:=eD
 replace aV:Cl U5 b2 0 [.slice ak p0.length am]:=aV
 let B0:List Value:=[jV p1.Unit,jV p1.Limit]
 refine ZK (cs:=B0) rfl rfl rfl rfl rfl rfl (by rfl) eF ?_
 intro cP ae bI
 refine oA Z Z (oA Z Z (eN (sR (.fl 0 (.fl 1 (.fx 2 (wQG (.fx 6 (.fx 7 (.fl 8 .nil) .stop) .stop)) .stop))) Z (oL Z (bI.ldC (f:=0) aV (v:=.slice ak p0.length am) Z Z Tryz.isAgg34 Z) (oL Z (bI.ldBA (j:=0) Z Z Z Tryz.isAgg42 Tryz.sizeOf42 (vs:=B0) Z Z) ?_)))))
 have cy:=eI.le fq
 have q:=bnd hm
 obtain ⟨⟨ap,fw⟩,dA,cD⟩:=q
 try dsimp only at cD
 refine zM 0 Z Z Z Z (zK Z Z Tryz.call25 (zB Z (zB Z zP)) Z) bI (fun hs=>wGf p0 ak am p1 cP U5 hs cy dA) (.inr Z) ?_
 rintro be fz fR cS cH d9 ⟨ba,bg,rfl,rfl⟩
 let B1:Res:=.row ba bg 3 1 (hH KL.encI ap)
 have eg:sW w U be [B1,.blk ae 42 B0] cS:=d9
 refine oM Z Z (oR Z (zl Z Z (v:=.slice ba ap.length bg) Z) (oR Z (zl Z Z (v:=jV fw) Z) (zW (cs:=[.slice none 0 0]) Z Z Z Z Z Tryz.zeroValue23 Z eg ?_)))
 intro fD ai en
 let B2:List Value:=[.slice ba ap.length bg]
 refine zY (j:=0) (vs:=B2) Z Z Z Z en Z Z Z Z zq (zA Z) Z Z Z ?_
 intro cV eu
 have bK:sW w U be [.blk ai 23 B2,B1,.blk ae 42 B0] cV:=eu
 refine oA Z Z (eN (zI (sR fL2 Z (oM Z Z (oR Z (yC Z Z Z) (eN (ifc cD ?_ ?_)))))))
 intro bC fd
 refine zo (ZQ (fun h=>h bC.out)) (kN (sR fL1 Z (oA Z Z (eN (zI (sR fL3 Z ?_))))))
 have cz:=aV.le cH
 refine oL Z (bK.ldC (f:=0) cz (v:=.slice ak p0.length am) Z Z Tryz.isAgg34 Z) (oR Z (ZA Z Z Ze) (oM Z Z (eN (zU (bnK fd fun bQ eL ff=>?_)))))
 have q:=wBS eL
 obtain ⟨bO,eM⟩:=q
 replace bO:=zJ bO
 refine CK.forN' (fun aj bj σ_ w_=>∃ (U_:PHeap) (bn:Option Addr) (br:Nat),σ_ 24=jV (↑aj:Int)/\σ_ 2=.pointer (some ⟨b2,0,none⟩)/\σ_ 6=.pointer (some ⟨ai,0,none⟩)/\σ_ 8=.slice bn bj.length br/\σ_ 23=jV (↑p0.length:Int)/\PHeap.Le be U_/\sW w U U_ [B1,.blk ai 23 B2,.blk ae 42 B0,.row bn br 3 1 (hH KL.encI bj)] w_) eM ?_ ?_ ?_
 have ez:=bK.nilrow 3 1
 exact ⟨be,none,0,rfl,rfl,rfl,rfl,rfl,(zL _),(ez.pick [2,1,3,0] _ (by decide) rfl)⟩
 rintro aj bj fT fY fE bM ⟨bB,bn,br,bE,dl,dm,dp,ct,ft,eA⟩ fm
 have cd:Hid ((↑aj:Int) < (↑p0.length:Int)):=zJ (wBP bM)
 replace bM:=zJ bM
 have eU:Hid (w64 ((↑aj:Int) + 1)=(↑(aj + 1):Int)):=zJ (by have h1:=bO.out;have h2:=cd.out;rw [wAa] <;> omega)
 refine sR fL1 Z (oR Z (zO Z bE ct) (eN (zI (cT Z cd (kN (zI (zU (sR fL2 Z (oM Z bE (oA Z Z (eN (rR gAv Z (oM Z dp (oM Z Z (zz (pv:=[(0,jV (↑aj:Int))]) (zs:=[jV 0]) (cs:=[jV (↑aj:Int)]) Z Z Z Z Z (wAB Z wAT) zD zC ZG Z Z Z Z Z eA ?_)))))))))))))))
 intro cW cZ eE
 let B3:Res:=.row (some ⟨cZ,0,none⟩) 1 3 1 (hH KL.encI [(↑aj:Int)])
 have cC:sW w U bB [B3,B1,.blk ai 23 B2,.blk ae 42 B0,.row bn br 3 1 (hH KL.encI bj)] cW:=eE
 refine bnK fm fun cJ dK fg=>Zv (j:=4) (enc:=KL.encI) (xs:=bj) (ys:=[(↑aj:Int)]) (zs:=cJ) rfl rfl rfl rfl rfl yW wJk rfl rfl rfl rfl rfl rfl cC rfl rfl rfl (cC.srcR (j:=0) rfl (by decide) (wAF (f:=KL.encI) (sz:=1) (fun _=>rfl) [(↑aj:Int)])) (fun _=>rfl) (fun _=>rfl) dK rfl ?_
 intro bT cf cX eG
 have eH:sW w U bB [B3,B1,.blk ai 23 B2,.blk ae 42 B0,.row bT cf 3 1 (hH KL.encI cJ)] cX:=eG
 refine oA Z Z (zX (zj (zG (rR fL2 Z (oR Z (ZR (zS Z bE Z) (congrArg (jV) eU.out)) (oM Z Z (zX ?_)))))))
 cases fg
 exact zG ⟨rfl,⟨bB,bT,cf,rfl,dl,dm,rfl,ct,ft,(eH.pick [1,2,3,4] _ (by decide) rfl)⟩⟩
 rintro fZ bp ⟨fA,av,az,dr,ci,cj,cm,df,cE,dQ⟩
 have da:Hid (¬ ((↑(((↑p0.length:Int):Int) - 0).toNat:Int) < (↑p0.length:Int))):=zJ (wAv)
 refine sR fL1 Z (oR Z (zO Z dr df) (eN (zI (cF Z da (ZP (zd (zd (ZJ (zG (sR gAo Z (oM Z cm ?_)))))))))))
 have q:=dQ.freezeR (k:=0) (n:=ap.length) rfl (wAF (f:=KL.encI) (sz:=1) (fun _=>rfl) ap) (by decide)
 obtain ⟨cM,cG,fh,dS⟩:=q
 let B4:Res:=.row av az 3 1 (hH KL.encI bQ)
 have dT:sW w U cM [.blk ai 23 B2,.blk ae 42 B0,B4] bp:=dS
 have q:=dT.freeze (k:=0) rfl
 obtain ⟨bd,bP,aU,dR⟩:=q
 replace aU:=Cl.of aU
 have dU:sW w U bd [.blk ae 42 B0,B4] bp:=dR
 replace aU:Cl bd ai 0 B2:=aU
 refine oR Z (Runs.mkf Z zP (zB cj (zB ci zP))) ?_
 have cu:=fh.le bP
 have dt:=cz.le cE
 have du:=dt.le cG
 have cw:=du.le bP
 have dv:=cy.le cH
 have dw:=dv.le cE
 have dx:=dw.le cG
 have cx:=dx.le bP
 have dP:FnOK Tryz.prog bd (.func (.func 27) #[] #[.pointer (some ⟨ai,0,none⟩),.pointer (some ⟨b2,0,none⟩)]) wRu wRv (fun x=>wBM x.1 x.2 ap p0):=⟨27,[],[.pointer (some ⟨ai,0,none⟩),.pointer (some ⟨b2,0,none⟩)],rfl,Tryz.call27,fun U1 w1 x y vs le hs ha hm=>by obtain rfl:=ha;exact wGM x.1 x.2 ap ai ba bg p0 b2 ak am w1 U1 hs (aU.le le) (cu.le le) (cw.le le) (cx.le le) hm⟩
 refine bnK ff fun x132 dy eV=>?_
 have dV:sW w U bd [B4,.blk ae 42 B0] bp:=dU.pick [1,0] _ (by decide) rfl
 refine zM 1 Z Z Z Z (zK Z Z Tryz.call26 (zB Z (zB Z zP)) Z) dV (fun hs=>wDO bQ av az (fun x=>wBM x.1 x.2 ap p0) (.func (.func 27) #[] #[.pointer (some ⟨ai,0,none⟩),.pointer (some ⟨b2,0,none⟩)]) bp bd hs dP dy) (.inl Z) ?_
 rintro bw fy fQ cQ bt dW ⟨rfl,rfl,dz⟩
 let B5:Res:=.row av az 3 1 (hH KL.encI x132)
 have dX:sW w U bw [B5,.blk ae 42 B0] cQ:=dW
 refine eN (sR fL1 rfl (yK rfl rfl rfl rfl rfl rfl (eN (zI (sR fL3 rfl (zN rfl rfl rfl rfl rfl (nK (b:=(.slice av bQ.length az:Value)) (c:=(.slice av x132.length az:Value)) cm (by rw [dz])) (zZ rfl rfl rfl rfl (fun _=>ZA rfl rfl zD) (zN rfl rfl rfl rfl rfl rfl (eN (zU (bnK eV fun fU eJ eW=>?_)))))))))))
 have q:=wBS eJ
 obtain ⟨bN,eK⟩:=q
 replace bN:=zJ bN
 refine CK.forN' (fun bh bi σ_ w_=>∃ (U_:PHeap) (bm:Option Addr) (bq:Nat),σ_ 37=jV (↑bh:Int)/\σ_ 2=.pointer (some ⟨b2,0,none⟩)/\σ_ 6=.pointer (some ⟨ai,0,none⟩)/\σ_ 10=.slice bm bi.length bq/\σ_ 35=.slice av x132.length az/\σ_ 36=jV (↑x132.length:Int)/\PHeap.Le bw U_/\sW w U U_ [.blk ae 42 B0,.row bm bq 49 3 (hH wBA bi),B5] w_) eK ?_ ?_ ?_
 have dY:=dX.nilrow 49 3
 exact ⟨bw,none,0,rfl,ci,cj,rfl,rfl,rfl,(zL _),(dY.pick [2,0,1] _ (by decide) rfl)⟩
 rintro bh bi fS fV bX bL ⟨bz,bm,bq,bD,cn,cp,dg,cq,cr,bk,bJ⟩ fj
 have bZ:Hid ((↑bh:Int) < (↑x132.length:Int)):=zJ (wBP bL)
 replace bL:=zJ bL
 have eQ:Hid (w64 ((↑bh:Int) + 1)=(↑(bh + 1):Int)):=zJ (by have h1:=bN.out;have h2:=bZ.out;rw [wAa] <;> omega)
 refine sR fL1 Z (oR Z (zO Z bD cr) (eN (zI (cT Z bZ (kN (zI (zU (sR fL3 Z (bnK fj fun _ bF eX=>?_)))))))))
 obtain ⟨fG,cA⟩:=bJ.rowSome (j:=2) rfl (by rw [wAF (f:=KL.encI) (sz:=1) (fun _=>rfl) x132];have hz:=wAP bF;omega)
 refine oR Z (Zp Z cq cA bD zD zC (wAP bF)) ?_
 have eO:=wAy (xs:=x132) (wAP bF)
 refine ZF rfl rfl rfl rfl (bJ.ldR (j:=2) rfl cA rfl rfl zE (wAR (sz:=1) (fun _=>rfl) _ _ 0 _ eO (by first | omega | rfl | simp) rfl)) rfl (yK rfl rfl rfl rfl rfl rfl (eN (zx zr [3,1,3,3,3,1,1,3,3,1,3,2,0,3] (wMA (.fx 11 (.fx 12 (.fl 13 .nil) .stop) .stop)) (by kernel_rfl) ?_)))
 have aW:=bJ.drew
 generalize hw_W192:({ bX with drawn:=bX.drawn + 1 }:World)=fB at aW ⊢
 refine oM Z dg ?_
 have dB:=cw.le bt
 have dC:=dB.le bk
 refine oL Z (aW.ldC (f:=0) dC (v:=.slice ak p0.length am) Z cn Tryz.isAgg34 Z) (oM Z Z (bnK eX fun aY bG eY=>?_))
 have dD:=cx.le bt
 have dE:=dD.le bk
 have q:=dE.el (fun _=>rfl) (wAi bG)
 obtain ⟨fH,fO,dL,dN⟩:=q
 refine oR Z (zm Z Z dL Z Ze Zk (wBt bG) (wBv bG)) (oR Z (zH Z Z yE Z zC) (oL Z (aW.ldC (f:=0) dN (v:=jV aY.Bib) Z Z zE Z) ?_))
 have dF:=aU.le bt
 have dG:=dF.le bk
 refine oL Z (aW.ldC (f:=0) dG (v:=.slice ba ap.length bg) Z cp zw Z) (oM Z Z (bnK eY fun aZ bH eZ=>?_))
 have dH:=cu.le bt
 have dI:=dH.le bk
 have q:=dI.el (fun _=>rfl) (wAi bH)
 obtain ⟨fJ,fP,dM,dO⟩:=q
 refine oR Z (zm Z Z dM Z zD zC (wBt bH) (wBv bH)) (oL Z (aW.ldC (f:=0) dO (v:=jV aZ) Z Z zE Z) ?_)
 let B6:List Value:=[jV aY.Bib,jV aZ,jV 0]
 let B7:List Value:=[jV 0,jV 0,jV 0]
 refine oR Z (zt (pv:=[(0,jV aY.Bib),(1,jV aZ)]) (z:=B7) (cs:=B6) Z (wAB Z (wAB Z wAT)) Tryz.zeroValue49 wPk Z Z) (zz (pv:=[(0,.agg B6.toArray)]) (zs:=B7) (cs:=B6) Z Z Z Z Z (wAB Z wAT) yB ye Tryz.zeroValue49 Z Z Z Z Z aW ?_)
 intro cR cY dZ
 let B8:Res:=.row (some ⟨cY,0,none⟩) 1 49 3 (hH wBA [(⟨aY.Bib,aZ,0⟩:wAh)])
 have cB:sW w U bz [B8,.blk ae 42 B0,.row bm bq 49 3 (hH wBA bi),B5] cR:=dZ
 refine bnK eZ fun cI dJ fb=>Zv (j:=2) (enc:=wBA) (xs:=bi) (ys:=[(⟨aY.Bib,aZ,0⟩:wAh)]) (zs:=cI) rfl rfl rfl rfl rfl Tryz.underlying37 wTo rfl rfl rfl rfl rfl rfl cB rfl rfl rfl (cB.srcR (j:=0) rfl (by decide) (wAF (f:=wBA) (sz:=3) (fun _=>rfl) [(⟨aY.Bib,aZ,0⟩:wAh)])) (fun _=>rfl) (fun _=>rfl) dJ rfl ?_
 intro bS cb cU d5
 have d7:sW w U bz [B8,.blk ae 42 B0,.row bS cb 49 3 (hH wBA cI),B5] cU:=d5
 refine oA Z Z (zX (zj (zG (rR fL2 Z (oR Z (ZR (zS Z bD Z) (congrArg (jV) eQ.out)) (oM Z Z (zX ?_)))))))
 cases fb
 exact zG ⟨rfl,⟨bz,bS,cb,rfl,cn,cp,rfl,cq,cr,bk,(d7.pick [1,2,3] _ (by decide) rfl)⟩⟩
 rintro fW fC ⟨cN,cK,db,dq,fK,fL,dh,fM,dk,fN,ec⟩
 have de:Hid (¬ ((↑(((↑x132.length:Int):Int) - 0).toNat:Int) < (↑x132.length:Int))):=zJ (wAv)
 refine sR fL1 Z (oR Z (zO Z dq dk) (eN (zI (cF Z de (ZP (zd (zd (ZJ (zG (sR fL3 Z (oM Z dh (oA Z Z (oA Z Z (eN (zV ?_)))))))))))))))
 cases eW
 exact ⟨rfl,_,(wGg rfl rfl),cN,_,(ec.pick [1] _ (by decide) rfl),cK,db,rfl,rfl⟩
 intro bC fc
 refine cT Z bC (sR fL3 Z (oM Z Z (oA Z Z (oA Z Z (eN (zV (zR ?_)))))))
 have ef:=bK.nilrow 49 3
 cases fc
 exact ⟨rfl,_,(wGg rfl rfl),be,_,(ef.pick [0] _ (by decide) rfl),none,0,rfl,rfl⟩
theorem wDv (p0:Int) (p1:Int) (p2:Int) (w:World) (U:PHeap) (hS:St0 w U [])  {r:Bool} (hm:wCU p0 p1 p2=some r):Gv Tryz.prog 105 [jV p0,jV p1,jV p2] w (wCW w [] U (fun U_ L_ v=>v=.bool r/\L_=[])):=by
 unfold wCU at hm
 refine Gv.of Tryz.func105 Z Tryz.ntmps105 Tryz.results105 Z (sR fL1 Z (oA Z Z (eN (sR fL9 Z (oM Z Z (oM Z Z (oR Z (Runs.geq Z Z Z) (oM Z Z ?_))))))))
 by_cases c1:p1 <= p0
 have ab:=hm;rw [if_pos c1] at ab;replace c1:=zJ c1
 refine zN Z Z Z (wT Z c1) Z Z (zN Z Z Z (wT Z c1) Z Z (rU Z (wT Z c1) (Runs.leq Z Z Z) (oR Z (zf Z (Zd c1.out) Z) (oA Z Z (eN (zV ?_))))))
 first | (obtain rfl:=nA ab) | cases ab
 exact ⟨Z,_,(ZS Z),U,_,hS,Z,Z⟩
 have aj:=hm;rw [if_neg c1] at aj;replace c1:=zJ c1
 refine oF Z c1 (oF Z c1 (oF Z c1 (oR Z (zn Z (ZQ c1.out) Z) (oA Z Z (eN (zV ?_))))))
 have hE:=nA aj;first | subst r | cases hE
 exact ⟨Z,_,(ZS Z),U,_,hS,Z,Z⟩
theorem wGN (p0:List Int) (au:Option Addr) (av:Nat) (p1:(Int->Option Bool)) (az:Value) (w:World) (U:PHeap) (hS:St0 w U []) (bw:Sl U 1 au av p0.length (hH KL.encI p0)) (bz:FnOK Tryz.prog U az wTg wTh p1) {r:Bool} (hm:wBx p0 p1=some r):Gv Tryz.prog 134 [.slice au p0.length av,az] w (wCW w [] U (fun U_ L_ v=>v=.bool r/\L_=[])):=by
 unfold wBx at hm
 refine Gv.of Tryz.func134 Z Tryz.ntmps134 Tryz.results134 Z (sR fL1 Z (oA Z Z (eN (zI (sR fL3 Z (oM Z Z (oR Z (ZA Z Z zD) (oM Z Z (eN (zU ?_))))))))))
 have q:=wCQ hm
 obtain ⟨r3,ak⟩:=q
 have q:=wCP ak
 obtain ⟨ap,bC⟩:=q
 replace ap:=zJ ap
 refine yX (fun k2 _ σ_ w_=>∃ (U_:PHeap),σ_ 9=jV (↑k2:Int)/\σ_ 1=az/\σ_ 7=.slice au p0.length av/\σ_ 8=jV (↑p0.length:Int)/\PHeap.Le U U_/\sW w U U_ [] w_) bC ?_ ?_ ?_
 exact ⟨U,Z,Z,Z,Z,(zL _),hS⟩
 rintro k2 ⟨⟩ bX bZ W8 am ⟨bM,aj,aV,aW,aX,aq,aZ⟩ bd bA
 try dsimp only at bd
 have aU:Hid ((↑k2:Int) < (↑p0.length:Int)):=zJ (wBP am)
 replace am:=zJ am
 have bD:Hid (w64 ((↑k2:Int) + 1)=(↑(k2 + 1):Int)):=zJ (by have h1:=ap.out;have h2:=aU.out;rw [wAa] <;> omega)
 refine sR fL1 Z (oR Z (zO Z aj aX) (eN (zI (cT Z aU (kN (zI (zU (sR fL3 Z (bnK bd fun bg aY bE=>?_)))))))))
 have bo:=bw.le aq
 have q:=bo.el (fun _=>rfl) (wAi aY)
 obtain ⟨bP,bT,br,bt⟩:=q
 refine oR Z (Zp Z aW br aj zD zC (wCv aY)) (oL Z (aZ.ldC (f:=0) bt (v:=jV bg) Z Z zE Z) (oA Z Z (eN (sR gAr Z (oM Z aV (oM Z Z (bnK bE fun bW bp bF=>?_)))))))
 have bq:=bz.le aq
 refine yd (a:=bg) Z Z Z Z Z Z (zB Z zP) aZ bq Z bp ?_
 rintro ae bL bV bi bJ bu ⟨rfl,rfl⟩
 have ba:sW w U ae [] bi:=bu
 refine oR Z (Zf Z Z) (eN (ifc bF ?_ ?_))
 intro ai bG
 refine zo (nC ai.out) (ZT (zj (zG (rR fL2 Z (oR Z (ZR (zS Z aj Z) (congrArg (jV) bD.out)) (oM Z Z (zX ?_)))))))
 have q:=nA bG
 obtain rfl:=q
 exact zG ⟨Z,_,Z,⟨ae,Z,aV,aW,aX,(aq.trans bJ),ba⟩⟩
 intro ai bH
 refine ZI (nF (ai.out)) (sR fL1 Z (oA Z Z (eN (zV (zi (zR ?_))))))
 have q:=wAb bH
 obtain ⟨bK,bI,bk⟩:=q
 have q:=wBf hm ak (bA bK bk)
 obtain rfl:=q
 refine zR (zi (zR ?_))
 have hE:=nA bI;first | subst r | cases hE
 exact ⟨Z,_,(ZS Z),ae,_,ba,Z,Z⟩
 rintro ⟨⟩ bY bN ⟨bh,bn,bQ,bR,bm,bS,bv⟩ bB
 have bb:=wDd hm ak bB
 try dsimp only at bb
 have bj:Hid (¬ ((↑(((↑p0.length:Int):Int) - 0).toNat:Int) < (↑p0.length:Int))):=zJ (wAv)
 refine sR fL1 Z (oR Z (zO Z bn bm) (eN (zI (cF Z bj (ZP (zd (zd (ZJ (zG (sR fL1 Z (oA Z Z (eN (zV ?_)))))))))))))
 have hE:=nA bb;first | subst r | cases hE
 exact ⟨Z,_,(ZS Z),bh,_,bv,Z,Z⟩
theorem wHt (p0:Int) (w:World) (U:PHeap) (hS:St0 w U [])  {r:Bool} (hm:wCF p0=some r):Gv Tryz.prog 135 [jV p0] w (wCW w [] U (fun U_ L_ v=>v=.bool r/\L_=[])):=by
 unfold wCF at hm
 refine Gv.of Tryz.func135 Z Tryz.ntmps135 Tryz.results135 Z (sR fL1 Z (oA Z Z (eN (sR gAl Z (oM Z Z (bnK hm fun x1 h2 am=>zM 0 Z Z Z Z (zK Z Z Tryz.call105 (zB Z (zB Z (zB Z zP))) Z) hS (fun hs=>wDv p0 0 360000 w U hs h2) (.inr Z) ?_))))))
 rintro U4 L5 v6 W7 aq ak ⟨rfl,rfl⟩
 have aj:sW w U U4 [] W7:=ak
 refine oA Z Z (eN (zV ?_))
 have hE:=nA am;first | subst r | cases hE
 exact ⟨Z,_,(ZS Z),U4,_,aj,Z,Z⟩
theorem wEh (p0:List wAG) (az:Option Addr) (aU:Nat) (p1:(wAG->Option Bool)) (aV:Value) (w:World) (U:PHeap) (hS:St0 w U []) (bF:Sl U 2 az aU p0.length (hH wAL p0)) (bG:FnOK Tryz.prog U aV wTi wTj p1) {r:Bool} (hm:wBV p0 p1=some r):Gv Tryz.prog 136 [.slice az p0.length aU,aV] w (wCW w [] U (fun U_ L_ v=>v=.bool r/\L_=[])):=by
 unfold wBV at hm
 refine Gv.of Tryz.func136 Z Tryz.ntmps136 Tryz.results136 Z (sR fL1 Z (oA Z Z (eN (zI (sR fL3 Z (oM Z Z (oR Z (ZA Z Z ZY) (oM Z Z (eN (zU ?_))))))))))
 have q:=wCQ hm
 obtain ⟨r3,ap⟩:=q
 have q:=wCP ap
 obtain ⟨au,bJ⟩:=q
 replace au:=zJ au
 refine yX (fun k2 _ σ_ w_=>∃ (U_:PHeap),σ_ 9=jV (↑k2:Int)/\σ_ 1=aV/\σ_ 7=.slice az p0.length aU/\σ_ 8=jV (↑p0.length:Int)/\PHeap.Le U U_/\sW w U U_ [] w_) bJ ?_ ?_ ?_
 exact ⟨U,Z,Z,Z,Z,(zL _),hS⟩
 rintro k2 ⟨⟩ ci cm W8 aq ⟨bk,am,aY,aZ,ba,av,bd⟩ bi bH
 try dsimp only at bi
 have aX:Hid ((↑k2:Int) < (↑p0.length:Int)):=zJ (wBP aq)
 replace aq:=zJ aq
 have bK:Hid (w64 ((↑k2:Int) + 1)=(↑(k2 + 1):Int)):=zJ (by have h1:=au.out;have h2:=aX.out;rw [wAa] <;> omega)
 refine sR fL1 Z (oR Z (zO Z am ba) (eN (zI (cT Z aX (kN (zI (zU (sR gAs Z (bnK bi fun ae bb bL=>?_)))))))))
 have bu:=bF.le av
 have q:=bu.el (fun _=>rfl) (wAi bb)
 obtain ⟨bW,cb,bz,bA⟩:=q
 refine oR Z (Zp Z aZ bz am ZY ZN (wCv bb)) (oL Z (bd.ldCA (f:=0) bA Z Z yR ZN (us:=[jV ae.Lo,jV ae.Hi]) Z Z) (zW (cs:=[jV 0,jV 0]) Z Z Z Z Z Zj Z bd ?_))
 intro bT aW bB
 let B0:List Value:=[jV ae.Lo,jV ae.Hi]
 refine zY (j:=0) (vs:=B0) Z Z Z Z bB Z Z Z Z ZN (zA Z) Z Z Z ?_
 intro bn bC
 have be:sW w U bk [.blk aW 53 B0] bn:=bC
 refine eN (sR gAr Z (oM Z aY (oL Z (be.ldBA (j:=0) Z Z Z yR ZN (vs:=B0) Z Z) (bnK bL fun x37 bv bM=>?_))))
 have bw:=bG.le av
 refine yd (a:=ae) Z Z Z Z Z Z (zB Z zP) be bw Z bv ?_
 rintro aj bS cf bo bQ bD ⟨rfl,rfl⟩
 have bg:sW w U aj [.blk aW 53 B0] bo:=bD
 refine oR Z (Zf Z Z) (eN (ifc bM ?_ ?_))
 intro ak bN
 refine zo (nC ak.out) (ZT (zj (zG (rR fL2 Z (oR Z (ZR (zS Z am Z) (congrArg (jV) bK.out)) (oM Z Z (zX ?_)))))))
 have q:=nA bN
 obtain rfl:=q
 exact zG ⟨rfl,_,rfl,⟨aj,rfl,aY,aZ,ba,(av.trans bQ),(bg.pick [] _ (by decide) rfl)⟩⟩
 intro ak bO
 refine ZI (nF (ak.out)) (sR fL1 Z (oA Z Z (eN (zV (zi (zR ?_))))))
 have q:=wAb bO
 obtain ⟨bR,bP,bq⟩:=q
 have q:=wBf hm ap (bH bR bq)
 obtain rfl:=q
 refine zR (zi (zR ?_))
 have hE:=nA bP;first | subst r | cases hE
 exact ⟨rfl,_,(ZS rfl),aj,_,(bg.pick [] _ (by decide) rfl),rfl,rfl⟩
 rintro ⟨⟩ cj bU ⟨bm,bt,bX,bY,br,bZ,bE⟩ bI
 have bh:=wDd hm ap bI
 try dsimp only at bh
 have bp:Hid (¬ ((↑(((↑p0.length:Int):Int) - 0).toNat:Int) < (↑p0.length:Int))):=zJ (wAv)
 refine sR fL1 Z (oR Z (zO Z bt br) (eN (zI (cF Z bp (ZP (zd (zd (ZJ (zG (sR fL1 Z (oA Z Z (eN (zV ?_)))))))))))))
 have hE:=nA bh;first | subst r | cases hE
 exact ⟨Z,_,(ZS Z),bm,_,bE,Z,Z⟩
theorem wFG (p0:wAG) (p1:Int) (p2:Int) (w:World) (U:PHeap) (hS:St0 w U [])  {r:Bool} (hm:wCG p0 p1 p2=some r):Gv Tryz.prog 138 [.agg #[jV p0.Lo,jV p0.Hi],jV p1,jV p2] w (wCW w [] U (fun U_ L_ v=>v=.bool r/\L_=[])):=by
 unfold wCG at hm
 refine Gv.of Tryz.func138 rfl Tryz.ntmps138 Tryz.results138 rfl (sR gAh rfl (ZK (cs:=[jV p0.Lo,jV p0.Hi]) rfl rfl rfl rfl rfl rfl (by rfl) hS ?_))
 intro W1 b2 ai
 refine oA Z Z (eN (sR fL18 Z (oR Z (zH Z Z ZL Z zC) (oL Z (ai.ldB (j:=0) Z Z Z zE (v:=jV p0.Lo) Z) (oR Z (zH Z Z ZL Z zC) (oL Z (ai.ldB (j:=0) Z Z Z zE (v:=jV p0.Hi) Z) (oR Z (Runs.leq Z Z Z) (oM Z Z ?_))))))))
 by_cases c5:p0.Lo <= p0.Hi
 have ak:=hm;rw [if_pos c5] at ak;replace c5:=zJ c5
 refine rU Z (wT Z c5) (zH Z Z ZL Z zC) (ZF Z Z Z (wT Z c5) (ai.ldB (j:=0) Z Z Z zE (v:=jV p0.Lo) Z) Z (zN Z Z Z (wT Z c5) Z Z (rU Z (wT Z c5) (Runs.geq Z Z Z) (oR Z (zf Z (Zd c5.out) Z) (oM Z Z (ifc ak ?_ ?_))))))
 intro c7 am
 refine rU Z (wT Z c7) (zH Z Z ZL Z zC) (ZF Z Z Z (wT Z c7) (ai.ldB (j:=0) Z Z Z zE (v:=jV p0.Hi) Z) Z (zN Z Z Z (wT Z c7) Z Z (rU Z (wT Z c7) (Runs.leq Z Z Z) (oR Z (zf Z (Zd c7.out) Z) (oA Z Z (eN (zV ?_)))))))
 first | (obtain rfl:=nA am) | cases am
 exact ⟨rfl,_,(ZS rfl),U,_,(ai.pick [] _ (by decide) rfl),rfl,rfl⟩
 intro c7 au
 refine oF Z c7 (oF Z c7 (oF Z c7 (oF Z c7 (oR Z (zn Z (ZQ c7.out) Z) (oA Z Z (eN (zV ?_)))))))
 have hE:=nA au;first | subst r | cases hE
 exact ⟨rfl,_,(ZS rfl),U,_,(ai.pick [] _ (by decide) rfl),rfl,rfl⟩
 have aj:=hm;rw [if_neg c5] at aj;replace c5:=zJ c5
 refine oF Z c5 (oF Z c5 (oF Z c5 (oF Z c5 (oR Z (zn Z (ZQ c5.out) Z) (oM Z Z (oN Z (oN Z (oN Z (oN Z (oR Z (zn Z Z Z) (oA Z Z (eN (zV ?_)))))))))))))
 have hE:=nA aj;first | subst r | cases hE
 exact ⟨rfl,_,(ZS rfl),U,_,(ai.pick [] _ (by decide) rfl),rfl,rfl⟩
theorem wHu (p0:wAG) (w:World) (U:PHeap) (hS:St0 w U [])  {r:Bool} (hm:wCH p0=some r):Gv Tryz.prog 137 [.agg #[jV p0.Lo,jV p0.Hi]] w (wCW w [] U (fun U_ L_ v=>v=.bool r/\L_=[])):=by
 unfold wCH at hm
 refine Gv.of Tryz.func137 Z Tryz.ntmps137 Tryz.results137 Z (sR gAh Z ?_)
 let B0:List Value:=[jV p0.Lo,jV p0.Hi]
 refine ZK (cs:=B0) rfl rfl rfl rfl rfl rfl (by rfl) hS ?_
 intro W1 b2 ai
 refine oA Z Z (eN (sR gAl Z (oL Z (ai.ldBA (j:=0) Z Z Z yR ZN (vs:=B0) Z Z) (bnK hm fun x5 h6 av=>zM 0 Z Z Z Z (zK Z Z Tryz.call138 (zB Z (zB Z (zB Z zP))) Z) ai (fun hs=>wFG p0 0 360000 W1 U hs h6) (.inr Z) ?_))))
 rintro U8 L9 aV ak aU aq ⟨rfl,rfl⟩
 have au:sW w U U8 [.blk b2 53 B0] ak:=aq
 refine oA Z Z (eN (zV ?_))
 have hE:=nA av;first | subst r | cases hE
 exact ⟨rfl,_,(ZS rfl),U8,_,(au.pick [] _ (by decide) rfl),rfl,rfl⟩
theorem wES (p0:List wAH) (az:Option Addr) (aU:Nat) (p1:(wAH->Option Bool)) (aV:Value) (w:World) (U:PHeap) (hS:St0 w U []) (bF:Sl U 3 az aU p0.length (hH wAA p0)) (bG:FnOK Tryz.prog U aV wTk wTl p1) {r:Bool} (hm:wBN p0 p1=some r):Gv Tryz.prog 139 [.slice az p0.length aU,aV] w (wCW w [] U (fun U_ L_ v=>v=.bool r/\L_=[])):=by
 unfold wBN at hm
 refine Gv.of Tryz.func139 Z Tryz.ntmps139 Tryz.results139 Z (sR fL1 Z (oA Z Z (eN (zI (sR fL3 Z (oM Z Z (oR Z (ZA Z Z Za) (oM Z Z (eN (zU ?_))))))))))
 have q:=wCQ hm
 obtain ⟨r3,ap⟩:=q
 have q:=wCP ap
 obtain ⟨au,bJ⟩:=q
 replace au:=zJ au
 refine yX (fun k2 _ σ_ w_=>∃ (U_:PHeap),σ_ 9=jV (↑k2:Int)/\σ_ 1=aV/\σ_ 7=.slice az p0.length aU/\σ_ 8=jV (↑p0.length:Int)/\PHeap.Le U U_/\sW w U U_ [] w_) bJ ?_ ?_ ?_
 exact ⟨U,Z,Z,Z,Z,(zL _),hS⟩
 rintro k2 ⟨⟩ ci cm W8 aq ⟨bk,am,aY,aZ,ba,av,bd⟩ bi bH
 try dsimp only at bi
 have aX:Hid ((↑k2:Int) < (↑p0.length:Int)):=zJ (wBP aq)
 replace aq:=zJ aq
 have bK:Hid (w64 ((↑k2:Int) + 1)=(↑(k2 + 1):Int)):=zJ (by have h1:=au.out;have h2:=aX.out;rw [wAa] <;> omega)
 refine sR fL1 Z (oR Z (zO Z am ba) (eN (zI (cT Z aX (kN (zI (zU (sR gAs Z (bnK bi fun ab bb bL=>?_)))))))))
 have bu:=bF.le av
 have q:=bu.el (fun _=>rfl) (wAi bb)
 obtain ⟨bW,cb,bz,bA⟩:=q
 refine oR Z (Zp Z aZ bz am Za Zs (wCv bb)) (oL Z (bd.ldCA (f:=0) bA Z Z Tryz.isAgg76 Zs (us:=[jV ab.Offset.Lo,jV ab.Offset.Hi,jV ab.Error]) Z Z) (zW (cs:=[jV 0,jV 0,jV 0]) Z Z Z Z Z yZ Z bd ?_))
 intro bT aW bB
 let B0:List Value:=[jV ab.Offset.Lo,jV ab.Offset.Hi,jV ab.Error]
 refine zY (j:=0) (vs:=B0) Z Z Z Z bB Z Z Z Z Zs (zA Z) Z Z Z ?_
 intro bn bC
 have be:sW w U bk [.blk aW 76 B0] bn:=bC
 refine eN (sR gAr Z (oM Z aY (oL Z (be.ldBA (j:=0) Z Z Z Tryz.isAgg76 Zs (vs:=B0) Z Z) (bnK bL fun x37 bv bM=>?_))))
 have bw:=bG.le av
 refine yd (a:=ab) Z Z Z Z Z Z (zB Z zP) be bw Z bv ?_
 rintro aj bS cf bo bQ bD ⟨rfl,rfl⟩
 have bg:sW w U aj [.blk aW 76 B0] bo:=bD
 refine oR Z (Zf Z Z) (eN (ifc bM ?_ ?_))
 intro ak bN
 refine zo (nC ak.out) (ZT (zj (zG (rR fL2 Z (oR Z (ZR (zS Z am Z) (congrArg (jV) bK.out)) (oM Z Z (zX ?_)))))))
 have q:=nA bN
 obtain rfl:=q
 exact zG ⟨rfl,_,rfl,⟨aj,rfl,aY,aZ,ba,(av.trans bQ),(bg.pick [] _ (by decide) rfl)⟩⟩
 intro ak bO
 refine ZI (nF (ak.out)) (sR fL1 Z (oA Z Z (eN (zV (zi (zR ?_))))))
 have q:=wAb bO
 obtain ⟨bR,bP,bq⟩:=q
 have q:=wBf hm ap (bH bR bq)
 obtain rfl:=q
 refine zR (zi (zR ?_))
 have hE:=nA bP;first | subst r | cases hE
 exact ⟨rfl,_,(ZS rfl),aj,_,(bg.pick [] _ (by decide) rfl),rfl,rfl⟩
 rintro ⟨⟩ cj bU ⟨bm,bt,bX,bY,br,bZ,bE⟩ bI
 have bh:=wDd hm ap bI
 try dsimp only at bh
 have bp:Hid (¬ ((↑(((↑p0.length:Int):Int) - 0).toNat:Int) < (↑p0.length:Int))):=zJ (wAv)
 refine sR fL1 Z (oR Z (zO Z bt br) (eN (zI (cF Z bp (ZP (zd (zd (ZJ (zG (sR fL1 Z (oA Z Z (eN (zV ?_)))))))))))))
 have hE:=nA bh;first | subst r | cases hE
 exact ⟨Z,_,(ZS Z),bm,_,bE,Z,Z⟩
end Go.Proofs.YtkedcbligiebkaaGreat
