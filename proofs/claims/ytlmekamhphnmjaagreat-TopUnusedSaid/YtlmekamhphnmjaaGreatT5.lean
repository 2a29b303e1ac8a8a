import Derived.Test.YtlmekamhphnmjaaGreatT4
set_option linter.all false
open List renaming flatMap->hD,getElem_cons_succ->nG,getElem_cons_zero->nH,getElem_toArray->nJ
open Option.some renaming inj->hM
open Go.Value renaming bool->nA
open Bool renaming eq_false_iff->nB
open Prod.mk renaming injEq->nD
open Nat renaming blt->nE,le_of_ble_eq_true->nI
namespace Go.Proofs.YtlmekamhphnmjaaGreat
open Go.KL
def gAa:Sch:=.fl 1 (.fl 2 .nil)
def gAb:Sch:=.fl 3 (.fl 4 .nil)
def gAc:Sch:=.fl 4 (.fl 5 .nil)
def gAd:Sch:=.fl 7 (.fl 8 .nil)
def gAe:Sch:=.fl 14 (.fl 15 .nil)
def gAf:Sch:=.fx 2 (.fl 3 .nil) .stop
def gAg:Sch:=.fx 0 (.fl 1 .nil) .stop
def gAh:Sch:=.fx 1 (.fl 2 .nil) .stop
def gAi:Sch:=.fx 5 (.fl 6 .nil) .stop
def gAj:Sch:=.fx 3 (.fl 4 .nil) .stop
def gAk:Sch:=.fx 0 (.fx 1 .nil .stop) .stop
def gAl:Sch:=.fl 0 (.fx 1 .nil .stop)
def gAm:Sch:=.fx 6 (.fl 7 .nil) .stop
def gAn:Sch:=.fx 6 gAd .stop
def gAo:Sch:=.fl 0 gAh
def gAp:Sch:=.fx 3 (.fl 4 (.fx 5 .nil .stop)) .stop
def gAq:Sch:=.fx 0 gAa .stop
def gAr:Sch:=.fl 0 (.fl 1 gAf)
def gAs:Sch:=.fl 0 (.fl 1 (.fx 2 (.fx 3 .nil .stop) .stop))
def gAt:Sch:=.fx 3 (.fx 4 gAi .stop) .stop
def gAu:Sch:=.fl 0 (.fl 1 (.fx 2 gAb .stop))
def gAv:Sch:=.fl 0 (.fl 1 (.fx 2 gAj .stop))
set_option maxHeartbeats 4000000
theorem Z {α:Type} {a:α}:a=a:=rfl
section
variable {r:Option Nat} {N:Nat} {P:Program} {l:List Oper} {Q:wFA} {D:List Deferred} {ks:List Nat} {J:Env} {w:World} {i d j e:Nat} {s:Sch} {o:Oper} {b:Bool} {x:Operand} {v:Value} {p:Prop} {inst:Decidable p} {K:List Deferred->Env->World->Prop} {c1 c2:Code}
abbrev jV (n:Int):Value:=.int .i64 n
abbrev SW (w:World) (X:List Res) (U U':PHeap) (L:List Res) (w':World):Prop:=St ⟨w,X,U⟩ U' L w'
abbrev sW (w:World) (U U':PHeap) (L:List Res) (w':World):Prop:=St ⟨w,[],U⟩ U' L w'
abbrev St0 (w:World) (U:PHeap) (L:List Res):Prop:=St ⟨w,L,U⟩ U L w
theorem ifc {α:Type} {G p:Prop} {inst:Decidable p} {a b r:α} (h:@ite α p inst a b=r) (h1:Hid p->a=r->G) (h2:Hid (¬ p)->b=r->G):G:=by
 by_cases c:p
 rw [if_pos c] at h;exact h1 ⟨c⟩ h
 rw [if_neg c] at h;exact h2 ⟨c⟩ h
theorem bnK {α β:Type} {G:Prop} {o:Option α} {f:α->Option β} {r:β} (h:o.bind f=some r) (k:∀ x,o=some x->f x=some r->G):G:=by
 obtain ⟨x,h1,h2⟩:=bnd h
 exact k x h1 h2
theorem oR (h:(l[i]?,o.dst,nE d N,wanted l J o)=(some o,some d,true,true)) (hr:∀ {w'},Runs P J w' o v w') (k:OKS N P l Q D ks s (upd J d v) w):OKS N P l Q D ks (.fl i s) J w:=by
 simp only [nD] at h;exact OKS.r h.1 h.2.1 h.2.2.1 h.2.2.2 (fun _=>hr) k
theorem oL (h:(l[i]?,o.dst,nE d N,wanted l J o,wPL (kOf ks i))=(some o,some d,true,true,false)) (hr:wHD P J w o v) (k:OKS N P l Q D ks s (upd J d v) w):OKS N P l Q D ks (.fl i s) J w:=by
 simp only [nD] at h;exact OKS.m h.1 h.2.1 h.2.2.1 h.2.2.2.1 hr h.2.2.2.2 k
theorem oM (h:(l[i]?,o.dst,nE d N,wanted l J o,o.op)=(some o,some d,true,true,.move x)) (hx:ev J x=v) (k:OKS N P l Q D ks s (upd J d v) w):OKS N P l Q D ks (.fl i s) J w:=by
 simp only [nD] at h;exact OKS.rm h.1 h.2.1 h.2.2.1 h.2.2.2.1 h.2.2.2.2 hx k
theorem oA (h:(l[i]?,o.dst,nE d N,wanted l J o,o.op)=(some o,some d,true,true,.assign x)) (hx:ev J x=v) (k:OKS N P l Q D ks s (upd J d v) w):OKS N P l Q D ks (.fl i s) J w:=by
 simp only [nD] at h;exact OKS.ra h.1 h.2.1 h.2.2.1 h.2.2.2.1 h.2.2.2.2 hx k
theorem oF (h:(l[i]?,o.dst,nE d N,o.guard,(l[j]?).bind (·.dst),J e,false == b)=(some o,some d,true,some (j,b),some e,.bool (decide p),false)) (c:Hid (¬ p)) (k:OKS N P l Q D ks s (upd J d undef) w):OKS N P l Q D ks (.fl i s) J w:=by
 simp only [nD] at h;exact OKS.p h.1 h.2.1 h.2.2.1 (wHw h.2.2.2.1 h.2.2.2.2.1 (h.2.2.2.2.2.1.trans (wPJ c.out)) h.2.2.2.2.2.2) k
theorem oT (h:(l[i]?,o.dst,nE d N,o.guard,(l[j]?).bind (·.dst),J e,true == b)=(some o,some d,true,some (j,b),some e,.bool (decide p),false)) (c:Hid p) (k:OKS N P l Q D ks s (upd J d undef) w):OKS N P l Q D ks (.fl i s) J w:=by
 simp only [nD] at h;exact OKS.p h.1 h.2.1 h.2.2.1 (wHw h.2.2.2.1 h.2.2.2.2.1 (h.2.2.2.2.2.1.trans (wPI c.out)) h.2.2.2.2.2.2) k
theorem oN {b2:Bool} (h:(l[i]?,o.dst,nE d N,o.guard,(l[j]?).bind (·.dst),J e,b2 == b)=(some o,some d,true,some (j,b),some e,.bool b2,false)) (k:OKS N P l Q D ks s (upd J d undef) w):OKS N P l Q D ks (.fl i s) J w:=by
 simp only [nD] at h;exact OKS.p h.1 h.2.1 h.2.2.1 (wHw h.2.2.2.1 h.2.2.2.2.1 h.2.2.2.2.2.1 h.2.2.2.2.2.2) k
theorem nC {a b:Bool} (h:a=b):nA (!a)=nA (!b):=h ▸ rfl
theorem nF {a:Bool} (h:¬ a=true):nA (!a)=nA (!false):=nC (nB.2 h)
theorem wT (h:(o.guard,(l[j]?).bind (·.dst),J e)=(some (j,true),some e,.bool (decide p))) (c:Hid p):wanted l J o=true:=by
 simp only [nD] at h;exact wIy h.1 h.2.1 (h.2.2.trans (wPI c.out))
theorem wF (h:(o.guard,(l[j]?).bind (·.dst),J e)=(some (j,false),some e,.bool (decide p))) (c:Hid (¬ p)):wanted l J o=true:=by
 simp only [nD] at h;exact wIy h.1 h.2.1 (h.2.2.trans (wPJ c.out))
theorem rU (h:(l[i]?,o.dst,nE d N)=(some o,some d,true)) (hw:wanted l J o=true) (hr:∀ {w'},Runs P J w' o v w') (k:OKS N P l Q D ks s (upd J d v) w):OKS N P l Q D ks (.fl i s) J w:=by
 simp only [nD] at h;exact OKS.r h.1 h.2.1 h.2.2 hw (fun _=>hr) k
theorem sR {id:Nat} (s:Sch) (hs:inOrder 0 s l.length=true) (h:OKS N P l (wGj (fun D J w=>CK r N P c2 Q D J w) Q) D [] s J w):CK r N P (.seq (.region id l.toArray false) c2) Q D J w:=CK.seq (CK.reg s hs h)
theorem rR {id:Nat} (s:Sch) (hs:inOrder 0 s l.length=true) (h:OKS N P l Q D [] s J w):CK r N P (.region id l.toArray false) Q D J w:=CK.reg s hs h
theorem eN (h:K D J w):OKS N P l (wGj K Q) D ks .nil J w:=OKS.e (wIv h)
theorem cT (hz:ev J x=.bool (decide p)) (c:Hid p) (h:CK r N P c1 Q D J w):CK r N P (.cond x c1 c2) Q D J w:=CK.condT (hz.trans (wPI c.out)) h
theorem cF (hz:ev J x=.bool (decide p)) (c:Hid (¬ p)) (h:CK r N P c2 Q D J w):CK r N P (.cond x c1 c2) Q D J w:=CK.condF (hz.trans (wPJ c.out)) h
theorem kN (h:K D J w):CK r N P .skip (wGj K Q) D J w:=CK.skip (wIv h)
end
def fL1:Sch:=.fl 0 .nil
def fL2:Sch:=.fl 0 (.fl 1 .nil)
def fL3:Sch:=.fl 0 gAa
def fL4:Sch:=.fl 0 (.fl 1 (.fl 2 (.fl 3 .nil)))
def fL5:Sch:=.fl 0 (.fl 1 (.fl 2 gAb))
def fL6:Sch:=.fl 0 (.fl 1 (.fl 2 (.fl 3 gAc)))
def fL7:Sch:=.fl 0 (.fl 1 (.fl 2 (.fl 3 (.fl 4 (.fl 5 (.fl 6 .nil))))))
def fL8:Sch:=.fl 0 (.fl 1 (.fl 2 (.fl 3 (.fl 4 (.fl 5 (.fl 6 (.fl 7 .nil)))))))
def fL9:Sch:=.fl 0 (.fl 1 (.fl 2 (.fl 3 (.fl 4 (.fl 5 (.fl 6 gAd))))))
def fL10:Sch:=.fl 0 (.fl 1 (.fl 2 (.fl 3 (.fl 4 (.fl 5 (.fl 6 (.fl 7 (.fl 8 (.fl 9 .nil)))))))))
def fL11:Sch:=.fl 0 (.fl 1 (.fl 2 (.fl 3 (.fl 4 (.fl 5 (.fl 6 (.fl 7 (.fl 8 (.fl 9 (.fl 10 .nil))))))))))
def fL16:Sch:=.fl 0 (.fl 1 (.fl 2 (.fl 3 (.fl 4 (.fl 5 (.fl 6 (.fl 7 (.fl 8 (.fl 9 (.fl 10 (.fl 11 (.fl 12 (.fl 13 gAe)))))))))))))
def fL17:Sch:=.fl 0 (.fl 1 (.fl 2 (.fl 3 (.fl 4 (.fl 5 (.fl 6 (.fl 7 (.fl 8 (.fl 9 (.fl 10 (.fl 11 (.fl 12 (.fl 13 (.fl 14 (.fl 15 (.fl 16 .nil))))))))))))))))
def fL22:Sch:=.fl 0 (.fl 1 (.fl 2 (.fl 3 (.fl 4 (.fl 5 (.fl 6 (.fl 7 (.fl 8 (.fl 9 (.fl 10 (.fl 11 (.fl 12 (.fl 13 (.fl 14 (.fl 15 (.fl 16 (.fl 17 (.fl 18 (.fl 19 (.fl 20 (.fl 21 .nil)))))))))))))))))))))
def fL30:Sch:=.fl 0 (.fl 1 (.fl 2 (.fl 3 (.fl 4 (.fl 5 (.fl 6 (.fl 7 (.fl 8 (.fl 9 (.fl 10 (.fl 11 (.fl 12 (.fl 13 (.fl 14 (.fl 15 (.fl 16 (.fl 17 (.fl 18 (.fl 19 (.fl 20 (.fl 21 (.fl 22 (.fl 23 (.fl 24 (.fl 25 (.fl 26 (.fl 27 (.fl 28 (.fl 29 .nil)))))))))))))))))))))))))))))
def fL31:Sch:=.fl 0 (.fl 1 (.fl 2 (.fl 3 (.fl 4 (.fl 5 (.fl 6 (.fl 7 (.fl 8 (.fl 9 (.fl 10 (.fl 11 (.fl 12 (.fl 13 (.fl 14 (.fl 15 (.fl 16 (.fl 17 (.fl 18 (.fl 19 (.fl 20 (.fl 21 (.fl 22 (.fl 23 (.fl 24 (.fl 25 (.fl 26 (.fl 27 (.fl 28 (.fl 29 (.fl 30 .nil))))))))))))))))))))))))))))))
def fL33:Sch:=.fl 0 (.fl 1 (.fl 2 (.fl 3 (.fl 4 (.fl 5 (.fl 6 (.fl 7 (.fl 8 (.fl 9 (.fl 10 (.fl 11 (.fl 12 (.fl 13 (.fl 14 (.fl 15 (.fl 16 (.fl 17 (.fl 18 (.fl 19 (.fl 20 (.fl 21 (.fl 22 (.fl 23 (.fl 24 (.fl 25 (.fl 26 (.fl 27 (.fl 28 (.fl 29 (.fl 30 (.fl 31 (.fl 32 .nil))))))))))))))))))))))))))))))))
def fL34:Sch:=.fl 0 (.fl 1 (.fl 2 (.fl 3 (.fl 4 (.fl 5 (.fl 6 (.fl 7 (.fl 8 (.fl 9 (.fl 10 (.fl 11 (.fl 12 (.fl 13 (.fl 14 (.fl 15 (.fl 16 (.fl 17 (.fl 18 (.fl 19 (.fl 20 (.fl 21 (.fl 22 (.fl 23 (.fl 24 (.fl 25 (.fl 26 (.fl 27 (.fl 28 (.fl 29 (.fl 30 (.fl 31 (.fl 32 (.fl 33 .nil)))))))))))))))))))))))))))))))))
def fL53:Sch:=.fl 0 (.fl 1 (.fl 2 (.fl 3 (.fl 4 (.fl 5 (.fl 6 (.fl 7 (.fl 8 (.fl 9 (.fl 10 (.fl 11 (.fl 12 (.fl 13 (.fl 14 (.fl 15 (.fl 16 (.fl 17 (.fl 18 (.fl 19 (.fl 20 (.fl 21 (.fl 22 (.fl 23 (.fl 24 (.fl 25 (.fl 26 (.fl 27 (.fl 28 (.fl 29 (.fl 30 (.fl 31 (.fl 32 (.fl 33 (.fl 34 (.fl 35 (.fl 36 (.fl 37 (.fl 38 (.fl 39 (.fl 40 (.fl 41 (.fl 42 (.fl 43 (.fl 44 (.fl 45 (.fl 46 (.fl 47 (.fl 48 (.fl 49 (.fl 50 (.fl 51 (.fl 52 .nil))))))))))))))))))))))))))))))))))))))))))))))))))))
def wEz (s:Sch):Sch:=.fl 0 (.fl 1 (.fl 2 (s)))
def wEv (s:Sch):Sch:=.fl 0 (.fl 1 (.fl 2 (.fl 3 (s))))
def wEA (s:Sch):Sch:=.fl 0 (.fl 1 (.fl 2 (.fl 3 (.fl 4 (s)))))
def wJb (s:Sch):Sch:=.fl 0 (.fl 1 (.fl 2 (.fl 3 (.fl 4 (.fl 5 (s))))))
def wMF (s:Sch):Sch:=.fl 0 (.fl 1 (.fl 2 (.fl 3 (.fl 4 (.fl 5 (.fl 6 (s)))))))
def wPB (s:Sch):Sch:=.fl 0 (.fl 1 (.fl 2 (.fl 3 (.fl 4 (.fl 5 (.fl 6 (.fl 7 (s))))))))
def wNx (s:Sch):Sch:=.fl 0 (.fl 1 (.fl 2 (.fl 3 (.fl 4 (.fl 5 (.fl 6 (.fl 7 (.fl 8 (s)))))))))
def wPs (s:Sch):Sch:=.fl 0 (.fl 1 (.fl 2 (.fl 3 (.fl 4 (.fl 5 (.fl 6 (.fl 7 (.fl 8 (.fl 9 (s))))))))))
def wNF (s:Sch):Sch:=.fl 0 (.fl 1 (.fl 2 (.fl 3 (.fl 4 (.fl 5 (.fl 6 (.fl 7 (.fl 8 (.fl 9 (.fl 10 (s)))))))))))
def wOM (s:Sch):Sch:=.fl 0 (.fl 1 (.fl 2 (.fl 3 (.fl 4 (.fl 5 (.fl 6 (.fl 7 (.fl 8 (.fl 9 (.fl 10 (.fl 11 (s))))))))))))
def wON (s:Sch):Sch:=.fl 0 (.fl 1 (.fl 2 (.fl 3 (.fl 4 (.fl 5 (.fl 6 (.fl 7 (.fl 8 (.fl 9 (.fl 10 (.fl 11 (.fl 12 (s)))))))))))))
def wPt (s:Sch):Sch:=.fl 0 (.fl 1 (.fl 2 (.fl 3 (.fl 4 (.fl 5 (.fl 6 (.fl 7 (.fl 8 (.fl 9 (.fl 10 (.fl 11 (.fl 12 (.fl 13 (s))))))))))))))
def wKK (s:Sch):Sch:=.fl 0 (.fl 1 (.fl 2 (.fl 3 (.fl 4 (.fl 5 (.fl 6 (.fl 7 (.fl 8 (.fl 9 (.fl 10 (.fl 11 (.fl 12 (.fl 13 (.fl 14 (s)))))))))))))))
def wPu (s:Sch):Sch:=.fl 0 (.fl 1 (.fl 2 (.fl 3 (.fl 4 (.fl 5 (.fl 6 (.fl 7 (.fl 8 (.fl 9 (.fl 10 (.fl 11 (.fl 12 (.fl 13 (.fl 14 (.fl 15 (s))))))))))))))))
def wPv (s:Sch):Sch:=.fl 0 (.fl 1 (.fl 2 (.fl 3 (.fl 4 (.fl 5 (.fl 6 (.fl 7 (.fl 8 (.fl 9 (.fl 10 (.fl 11 (.fl 12 (.fl 13 (.fl 14 (.fl 15 (.fl 16 (.fl 17 (.fl 18 (.fl 19 (.fl 20 (s)))))))))))))))))))))
def wPw (s:Sch):Sch:=.fl 0 (.fl 1 (.fl 2 (.fl 3 (.fl 4 (.fl 5 (.fl 6 (.fl 7 (.fl 8 (.fl 9 (.fl 10 (.fl 11 (.fl 12 (.fl 13 (.fl 14 (.fl 15 (.fl 16 (.fl 17 (.fl 18 (.fl 19 (.fl 20 (.fl 21 (.fl 22 (.fl 23 (.fl 24 (.fl 25 (.fl 26 (.fl 27 (.fl 28 (.fl 29 (.fl 30 (.fl 31 (s))))))))))))))))))))))))))))))))
def wNy (s:Sch):Sch:=.fl 2 (.fl 3 (.fl 4 (s)))
def wHk (s:Sch):Sch:=.fl 2 (.fl 3 (.fl 4 (.fl 5 (.fl 6 (s)))))
def wNz (s:Sch):Sch:=.fl 3 (.fl 4 (.fl 5 (s)))
def wNG (s:Sch):Sch:=.fl 3 (.fl 4 (.fl 5 (.fl 6 (s))))
def wPx (s:Sch):Sch:=.fl 3 (.fl 4 (.fl 5 (.fl 6 (.fl 7 (.fl 8 (.fl 9 (.fl 10 (.fl 11 (.fl 12 (s))))))))))
def wPy (s:Sch):Sch:=.fl 3 (.fl 4 (.fl 5 (.fl 6 (.fl 7 (.fl 8 (.fl 9 (.fl 10 (.fl 11 (.fl 12 (.fl 13 (s)))))))))))
def wPz (s:Sch):Sch:=.fl 3 (.fl 4 (.fl 5 (.fl 6 (.fl 7 (.fl 8 (.fl 9 (.fl 10 (.fl 11 (.fl 12 (.fl 13 (.fl 14 (.fl 15 (.fl 16 (.fl 17 (.fl 18 (.fl 19 (.fl 20 (.fl 21 (.fl 22 (s))))))))))))))))))))
def wQA (s:Sch):Sch:=.fl 4 (.fl 5 (.fl 6 (s)))
def fC4_7 (s:Sch):Sch:=.fl 4 (.fl 5 (.fl 6 (.fl 7 (s))))
def fC4_8 (s:Sch):Sch:=.fl 4 (.fl 5 (.fl 6 (.fl 7 (.fl 8 (s)))))
def wQB (s:Sch):Sch:=.fl 4 (.fl 5 (.fl 6 (.fl 7 (.fl 8 (.fl 9 (.fl 10 (s)))))))
def wQC (s:Sch):Sch:=.fl 4 (.fl 5 (.fl 6 (.fl 7 (.fl 8 (.fl 9 (.fl 10 (.fl 11 (s))))))))
def wQD (s:Sch):Sch:=.fl 4 (.fl 5 (.fl 6 (.fl 7 (.fl 8 (.fl 9 (.fl 10 (.fl 11 (.fl 12 (.fl 13 (s))))))))))
def fC5_7 (s:Sch):Sch:=.fl 5 (.fl 6 (.fl 7 (s)))
def wHl (s:Sch):Sch:=.fl 5 (.fl 6 (.fl 7 (.fl 8 (s))))
def wQE (s:Sch):Sch:=.fl 5 (.fl 6 (.fl 7 (.fl 8 (.fl 9 (.fl 10 (.fl 11 (.fl 12 (.fl 13 (.fl 14 (.fl 15 (s)))))))))))
def fC6_8 (s:Sch):Sch:=.fl 6 (.fl 7 (.fl 8 (s)))
def fC6_9 (s:Sch):Sch:=.fl 6 (.fl 7 (.fl 8 (.fl 9 (s))))
def fC7_9 (s:Sch):Sch:=.fl 7 (.fl 8 (.fl 9 (s)))
def wOO (s:Sch):Sch:=.fl 7 (.fl 8 (.fl 9 (.fl 10 (s))))
def wQF (s:Sch):Sch:=.fl 7 (.fl 8 (.fl 9 (.fl 10 (.fl 11 (.fl 12 (.fl 13 (s)))))))
def wNH (s:Sch):Sch:=.fl 8 (.fl 9 (.fl 10 (s)))
def wQG (s:Sch):Sch:=.fl 8 (.fl 9 (.fl 10 (.fl 11 (.fl 12 (s)))))
def wQH (s:Sch):Sch:=.fl 9 (.fl 10 (.fl 11 (.fl 12 (s))))
def wPC (s:Sch):Sch:=.fl 12 (.fl 13 (.fl 14 (s)))
def wNI (s:Sch):Sch:=.fl 12 (.fl 13 (.fl 14 (.fl 15 (.fl 16 (s)))))
def wNJ (s:Sch):Sch:=.fl 14 (.fl 15 (.fl 16 (s)))
def wPD (s:Sch):Sch:=.fl 14 (.fl 15 (.fl 16 (.fl 17 (.fl 18 (.fl 19 (.fl 20 (.fl 21 (.fl 22 (s)))))))))
def wNK (s:Sch):Sch:=.fl 17 (.fl 18 (.fl 19 (s)))
def wPE (s:Sch):Sch:=.fl 20 (.fl 21 (.fl 22 (s)))
def wNL (s:Sch):Sch:=.fl 24 (.fl 25 (.fl 26 (s)))
def wPF (s:Sch):Sch:=.fl 33 (.fl 34 (.fl 35 (s)))
theorem zA:type_of% @wMK:=@wMK
theorem zB:type_of% @nI:=@nI
theorem zC:type_of% @Runs.fa:=@Runs.fa
theorem zD:type_of% @Tryz.sizeOf3:=@Tryz.sizeOf3
theorem zF:type_of% @wIv:=@wIv
theorem zG:type_of% @Hid.mk:=@Hid.mk
theorem zH:type_of% @Tryz.runUnderlying31:=@Tryz.runUnderlying31
theorem zI:type_of% @OKS.callH:=@OKS.callH
theorem zJ:type_of% @Enters.mk:=@Enters.mk
theorem zK:type_of% @CK.seq:=@CK.seq
theorem zL:type_of% @wIy:=@wIy
theorem zM:type_of% @wOA:=@wOA
theorem zN:type_of% @Tryz.isAgg3:=@Tryz.isAgg3
theorem zO:type_of% @OKS.rm:=@OKS.rm
theorem zP:type_of% @CK.ret:=@CK.ret
theorem zQ:type_of% @PHeap.Le.refl:=@PHeap.Le.refl
theorem zR:type_of% @Runs.lss:=@Runs.lss
theorem zS:type_of% @Runs.pickF:=@Runs.pickF
theorem zT:type_of% @OKS.r:=@OKS.r
theorem zU:type_of% @CK.block:=@CK.block
theorem zV:type_of% @Runs.pickT:=@Runs.pickT
theorem zW:type_of% @OKS.p:=@OKS.p
theorem zX:type_of% @Runs.addw:=@Runs.addw
theorem zY:type_of% @wHw:=@wHw
theorem zZ:type_of% @wMJ:=@wMJ
theorem za:type_of% @wKw:=@wKw
theorem zb:type_of% @OKS.e:=@OKS.e
theorem zc:type_of% @wMI:=@wMI
theorem zd:type_of% @Tryz.runUnderlying46:=@Tryz.runUnderlying46
theorem ze:type_of% @Runs.len:=@Runs.len
theorem zf:type_of% @Tryz.sizeOf52:=@Tryz.sizeOf52
theorem zg:type_of% @CK.condF:=@CK.condF
theorem zh:type_of% @Tryz.runUnderlying47:=@Tryz.runUnderlying47
theorem zj:type_of% @res1:=@res1
theorem zk:type_of% @Tryz.sizeOf31:=@Tryz.sizeOf31
theorem zm:type_of% @wKy:=@wKy
theorem zn:type_of% @OKS.m:=@OKS.m
theorem zo:type_of% @wPJ:=@wPJ
theorem zq:type_of% @Tryz.runUnderlying28:=@Tryz.runUnderlying28
theorem zr:type_of% @Runs.to:=@Runs.to
theorem zt:type_of% @Tryz.runUnderlying89:=@Tryz.runUnderlying89
theorem zu:type_of% @Tryz.isAgg31:=@Tryz.isAgg31
theorem zw:type_of% @Tryz.sizeOf46:=@Tryz.sizeOf46
theorem zx:type_of% @CK.condT:=@CK.condT
theorem zy:type_of% @OKS.alloc:=@OKS.alloc
theorem zz:type_of% @wKx:=@wKx
theorem ZA:type_of% @OKS.st:=@OKS.st
theorem ZB:type_of% @OKS.box:=@OKS.box
theorem ZC:type_of% @Tryz.runUnderlying175:=@Tryz.runUnderlying175
theorem ZD:type_of% @Runs.iaN:=@Runs.iaN
theorem ZE:type_of% @CK.skip:=@CK.skip
theorem ZF:type_of% @OKS.buildSlice:=@OKS.buildSlice
theorem ZG:type_of% @CK.exit:=@CK.exit
theorem ZH:type_of% @Tryz.runUnderlying111:=@Tryz.runUnderlying111
theorem ZI:type_of% @Runs.build:=@Runs.build
theorem ZJ:type_of% @Runs.nilp:=@Runs.nilp
theorem ZK:type_of% @Tryz.mixed:=@Tryz.mixed
theorem ZL:type_of% @Runs.ext:=@Runs.ext
theorem ZM:type_of% @Tryz.runUnderlying29:=@Tryz.runUnderlying29
theorem ZN:type_of% @Runs.subw:=@Runs.subw
theorem ZO:type_of% @wPI:=@wPI
theorem ZP:type_of% @Tryz.runUnderlying137:=@Tryz.runUnderlying137
theorem ZQ:type_of% @CK.anyOrd:=@CK.anyOrd
theorem ZR:type_of% @Runs.notT:=@Runs.notT
theorem ZS:type_of% @Tryz.runUnderlying87:=@Tryz.runUnderlying87
theorem ZT:type_of% @Tryz.runUnderlying26:=@Tryz.runUnderlying26
theorem ZU:type_of% @Runs.iaI:=@Runs.iaI
theorem ZV:type_of% @Tryz.runUnderlying90:=@Tryz.runUnderlying90
theorem ZW:type_of% @Tryz.runUnderlying86:=@Tryz.runUnderlying86
theorem ZX:type_of% @Tryz.runUnderlying101:=@Tryz.runUnderlying101
theorem ZY:type_of% @Tryz.runUnderlying243:=@Tryz.runUnderlying243
theorem ZZ:type_of% @Tryz.isAgg46:=@Tryz.isAgg46
theorem Za:type_of% @Tryz.runUnderlying25:=@Tryz.runUnderlying25
theorem Zb:type_of% @Tryz.sizeOf28:=@Tryz.sizeOf28
theorem Zc:type_of% @Tryz.sizeOf101:=@Tryz.sizeOf101
theorem Zd:type_of% @Tryz.runUnderlying98:=@Tryz.runUnderlying98
theorem Ze:type_of% @Runs.neq:=@Runs.neq
theorem Zf:type_of% @Tryz.runUnderlying183:=@Tryz.runUnderlying183
theorem Zg:type_of% @Tryz.sizeOf275:=@Tryz.sizeOf275
theorem Zh:type_of% @Tryz.sizeOf98:=@Tryz.sizeOf98
theorem Zi:type_of% @Tryz.sizeOf44:=@Tryz.sizeOf44
theorem Zj:type_of% @Tryz.runUnderlying52:=@Tryz.runUnderlying52
theorem Zk:type_of% @Tryz.runUnderlying107:=@Tryz.runUnderlying107
theorem Zl:type_of% @OKS.px:=@OKS.px
theorem Zm:type_of% @Tryz.runUnderlying3:=@Tryz.runUnderlying3
theorem Zn:type_of% @Tryz.sizeOf175:=@Tryz.sizeOf175
theorem Zo:type_of% @Tryz.isAgg44:=@Tryz.isAgg44
theorem Zp:type_of% @Tryz.sizeOf89:=@Tryz.sizeOf89
theorem Zq:type_of% @Tryz.zeroValue28:=@Tryz.zeroValue28
theorem Zr:type_of% @Tryz.zeroValue3:=@Tryz.zeroValue3
theorem Zs:type_of% @Tryz.runUnderlying126:=@Tryz.runUnderlying126
theorem Zt:type_of% @Tryz.sizeOf87:=@Tryz.sizeOf87
theorem Zu:type_of% @Tryz.runUnderlying99:=@Tryz.runUnderlying99
theorem Zv:type_of% @Tryz.sizeOf93:=@Tryz.sizeOf93
theorem Zw:type_of% @Runs.eql:=@Runs.eql
theorem Zx:type_of% @Tryz.runUnderlying276:=@Tryz.runUnderlying276
theorem Zy:type_of% @Tryz.isAgg52:=@Tryz.isAgg52
theorem Zz:type_of% @Tryz.sizeOf29:=@Tryz.sizeOf29
theorem yA:type_of% @Tryz.sizeOf26:=@Tryz.sizeOf26
theorem yB:type_of% @Tryz.runUnderlying40:=@Tryz.runUnderlying40
theorem yC:type_of% @Tryz.call219:=@Tryz.call219
theorem yD:type_of% @Tryz.runUnderlying178:=@Tryz.runUnderlying178
theorem yE:type_of% @OKS.append:=@OKS.append
theorem yF:type_of% @Tryz.runUnderlying275:=@Tryz.runUnderlying275
theorem yG:type_of% @Tryz.runUnderlying246:=@Tryz.runUnderlying246
theorem yH:type_of% @Tryz.zeroValue46:=@Tryz.zeroValue46
theorem yI:type_of% @Tryz.sizeOf40:=@Tryz.sizeOf40
theorem yJ:type_of% @Tryz.sizeOf25:=@Tryz.sizeOf25
theorem yK:type_of% @Tryz.zeroValue98:=@Tryz.zeroValue98
theorem yL:type_of% @Tryz.sizeOf135:=@Tryz.sizeOf135
theorem yM:type_of% @Tryz.isAgg87:=@Tryz.isAgg87
theorem yN:type_of% @Tryz.isAgg26:=@Tryz.isAgg26
theorem yO:type_of% @Tryz.zeroValue93:=@Tryz.zeroValue93
theorem yP:type_of% @Runs.gtr:=@Runs.gtr
theorem yQ:type_of% @Tryz.zeroValue101:=@Tryz.zeroValue101
theorem yR:type_of% @Tryz.underlying31:=@Tryz.underlying31
theorem yS:type_of% @Tryz.sizeOf86:=@Tryz.sizeOf86
theorem yT:type_of% @Tryz.sizeOf111:=@Tryz.sizeOf111
theorem yU:type_of% @OKS.callV:=@OKS.callV
theorem yV:type_of% @Tryz.runUnderlying93:=@Tryz.runUnderlying93
theorem yW:type_of% @Runs.mkf:=@Runs.mkf
theorem yX:type_of% @Tryz.runUnderlying96:=@Tryz.runUnderlying96
theorem yY:type_of% @Tryz.isAgg29:=@Tryz.isAgg29
theorem yZ:type_of% @Tryz.call202:=@Tryz.call202
theorem ya:type_of% @CK.forN:=@CK.forN
theorem yb:type_of% @Tryz.runUnderlying210:=@Tryz.runUnderlying210
theorem yc:type_of% @Tryz.isAgg135:=@Tryz.isAgg135
theorem yd:type_of% @OKS.makeSliceZ:=@OKS.makeSliceZ
theorem ye:type_of% @OKS.ra:=@OKS.ra
theorem yg:type_of% @CK.fresh:=@CK.fresh
theorem yh:type_of% @Tryz.isAgg89:=@Tryz.isAgg89
theorem yk:type_of% @Tryz.isAgg25:=@Tryz.isAgg25
theorem ym:type_of% @Tryz.isAgg28:=@Tryz.isAgg28
theorem yo:type_of% @Tryz.sizeOf41:=@Tryz.sizeOf41
theorem yp:type_of% @Tryz.isAgg175:=@Tryz.isAgg175
theorem yq:type_of% @Tryz.isAgg275:=@Tryz.isAgg275
theorem yr:type_of% @Tryz.isAgg41:=@Tryz.isAgg41
theorem yt:type_of% @Tryz.call137:=@Tryz.call137
theorem yu:type_of% @Tryz.isAgg32:=@Tryz.isAgg32
theorem yw:type_of% @Tryz.zeroValue111:=@Tryz.zeroValue111
theorem yy:type_of% @Tryz.isAgg101:=@Tryz.isAgg101
theorem yz:type_of% @Runs.geq:=@Runs.geq
theorem YA:type_of% @Tryz.call62:=@Tryz.call62
theorem YB:type_of% @Tryz.call91:=@Tryz.call91
theorem YC:type_of% @CK.cut:=@CK.cut
theorem YD:type_of% @Tryz.runUnderlying124:=@Tryz.runUnderlying124
theorem YE:type_of% @OKS.stR:=@OKS.stR
theorem YF:type_of% @Tryz.runUnderlying181:=@Tryz.runUnderlying181
theorem YG:type_of% @Tryz.sizeOf90:=@Tryz.sizeOf90
theorem YH:type_of% @OKS.makeSlice:=@OKS.makeSlice
theorem YI:type_of% @Tryz.isAgg239:=@Tryz.isAgg239
theorem YJ:type_of% @Tryz.zeroValue340:=@Tryz.zeroValue340
theorem YK:type_of% @Runs.mulw:=@Runs.mulw
theorem YL:type_of% @Tryz.call41:=@Tryz.call41
theorem YM:type_of% @CK.iter:=@CK.iter
theorem YN:type_of% @Tryz.sizeOf133:=@Tryz.sizeOf133
theorem YO:type_of% @Tryz.isAgg93:=@Tryz.isAgg93
theorem YP:type_of% @Tryz.zeroValue40:=@Tryz.zeroValue40
end Go.Proofs.YtlmekamhphnmjaaGreat
namespace Go.Proofs.YtlmekamhphnmjaaGreat
open Go.KL
set_option maxHeartbeats 4000000
theorem wIE (p0:List Int) (ab:Option Addr) (ac:Nat) (w:World) (U:PHeap) (hS:St0 w U []) (ai:Sl U 1 ab ac p0.length (hD KL.encB8 p0)) {r:wAO} (hm:wDs p0=some r):Gv Tryz.prog 7 [.slice ab p0.length ac] w (wBj w [] U (fun U_ L_ v=>∃ (b0:Nat) (A0p0:Option Addr) (c0p0:Nat),v=.pointer (some ⟨b0,0,none⟩)/\L_=[.blk b0 126 [.slice A0p0 r.bytes.length c0p0,jV r.next,.int .u32 r.state]]/\Sl U_ 1 A0p0 c0p0 r.bytes.length (hD KL.encB8 r.bytes))):=by
 unfold wDs at hm
 refine Gv.of Tryz.func7 Z Tryz.ntmps7 Tryz.results7 Z (sR fL1 Z (oA Z Z (eN (sR gAr Z (oM Z Z ?_)))))
 let B0:List Value:=[.slice ab p0.length ac,jV 0,.int .u32 17]
 refine zT rfl rfl rfl rfl (fun _=>ZI (pv:=[(0,.slice ab p0.length ac),(2,.int .u32 17)]) (z:=[.slice none 0 0,jV 0,.int .u32 0]) (cs:=B0) rfl (wAH rfl (wAH rfl wAY)) Tryz.zeroValue126 wMc rfl rfl) (ZB (cs:=B0) rfl rfl rfl rfl rfl rfl (by rfl) hS ?_)
 intro W1 b2 ah
 refine oA Z Z (eN (zP ?_))
 cases hm
 exact ⟨Z,_,(zj Z),U,_,ah,b2,ab,ac,Z,Z,ai⟩
theorem wHK (p0:Int) (p1:Int) (w:World) (U:PHeap) (hS:St0 w U [])  {r:Int} (hm:wDv p0 p1=some r):Gv Tryz.prog 61 [jV p0,jV p1] w (wBj w [] U (fun U_ L_ v=>v=jV r/\L_=[])):=by
 unfold wDv at hm
 refine Gv.of Tryz.func61 Z Tryz.ntmps61 Tryz.results61 Z (sR fL1 Z (oA Z Z (eN (zK (sR fL2 Z (oM Z Z (oR Z (Runs.leq Z Z Z) (eN ?_))))))))
 by_cases c1:p1 <= 0
 have ac:=hm;rw [if_pos c1] at ac;replace c1:=zG c1
 refine cT Z c1 (sR fL1 Z (oA Z Z (eN (zP (zZ ?_)))))
 cases ac
 exact ⟨Z,_,(zj Z),U,_,hS,Z,Z⟩
 have ae:=hm;rw [if_neg c1] at ae;replace c1:=zG c1
 refine cF Z c1 (kN (sR fL8 Z (oM Z Z (oM Z Z (bnK ae fun x4 h5 ai=>oR Z (Runs.rem Z Z Z h5) (oM Z Z (oR Z (zX Z Z Z) (oM Z Z (bnK ai fun x7 h8 aj=>oR Z (Runs.rem Z Z Z h8) (oA Z Z (eN (zP ?_))))))))))))
 have hE:=hM aj;first | subst r | cases hE
 exact ⟨Z,_,(zj Z),U,_,hS,Z,Z⟩
theorem wHL (p0:Int) (p1:Int) (w:World) (U:PHeap) (hS:St0 w U [])  {r:Int} (hm:wCb p0 p1=some r):Gv Tryz.prog 23 [jV p0,jV p1] w (wBj w [] U (fun U_ L_ v=>v=jV r/\L_=[])):=by
 unfold wCb at hm
 refine Gv.of Tryz.func23 Z Tryz.ntmps23 Tryz.results23 Z (sR fL1 Z (oA Z Z (eN (sR gAr Z (oM Z Z (oM Z Z (bnK hm fun x1 h2 ai=>zI 0 Z Z Z Z (zJ Z Z Tryz.call61 (zA Z (zA Z zM)) Z) hS (fun hs=>wHK p0 p1 w U hs h2) (.inr Z) ?_)))))))
 rintro U4 L5 v6 W7 ak ah ⟨rfl,rfl⟩
 have ag:sW w U U4 [] W7:=ah
 refine oA Z Z (eN (zP ?_))
 have hE:=hM ai;first | subst r | cases hE
 exact ⟨Z,_,(zj Z),U4,_,ag,Z,Z⟩
theorem wCn (p0:wAO) (ag:Nat) (ac:Option Addr) (ae:Nat) (p1:Int) (w:World) (U:PHeap) (hS:St0 w U [.blk ag 126 [.slice ac p0.bytes.length ae,jV p0.next,.int .u32 p0.state]]) (ai:Sl U 1 ac ae p0.bytes.length (hD KL.encB8 p0.bytes)) {r:Int × wAO} (hm:wAp p0 p1=some r):Gv Tryz.prog 9 [.pointer (some ⟨ag,0,none⟩),jV p1] w (wBj w [.blk ag 126 [.slice ac p0.bytes.length ae,jV p0.next,.int .u32 p0.state]] U (fun U_ L_ v=>∃ (ay:Option Addr) (aM:Nat),v=jV r.1/\L_=[.blk ag 126 [.slice ay r.2.bytes.length aM,jV r.2.next,.int .u32 r.2.state]]/\Sl U_ 1 ay aM r.2.bytes.length (hD KL.encB8 r.2.bytes))):=by
 unfold wAp at hm
 refine Gv.of Tryz.func9 Z Tryz.ntmps9 Tryz.results9 Z (sR fL1 Z (oA Z Z (eN (zK (sR fL10 Z (oM Z Z (oR Z (Runs.leq Z Z Z) (oM Z Z ?_))))))))
 by_cases c2:p1 <= 1
 have aP:=hm;rw [if_pos c2] at aP;replace c2:=zG c2
 refine oT Z c2 (oT Z c2 (oT Z c2 (oT Z c2 (oT Z c2 (oT Z c2 (oR Z (zV Z (ZO c2.out) Z) (eN (zx Z (sR fL1 Z (oA Z Z (eN (zP (zZ ?_)))))))))))))
 cases aP
 exact ⟨Z,_,(zj Z),U,_,hS,ac,ae,Z,Z,ai⟩
 have aQ:=hm;rw [if_neg c2] at aQ;replace c2:=zG c2
 refine zO Z Z Z (wF Z c2) Z Z (rU Z (wF Z c2) (ZJ Z Z) (rU Z (wF Z c2) (zC Z Z Zs Z Tryz.sizeOf22) (zn Z Z Z (wF Z c2) (hS.ldB (j:=0) Z Z Z Tryz.isAgg22 (v:=.slice ac p0.bytes.length ae) Z) Z (rU Z (wF Z c2) (ze Z Z Tryz.runUnderlying22) (rU Z (wF Z c2) (Zw Z Z Z) (oR Z (zS Z (zo c2.out) Z) (eN (ifc aQ ?_ ?_))))))))
 intro c5 bw
 refine cT Z c5 (sR fL1 Z (oA Z Z (eN (zP (zZ ?_)))))
 cases bw
 exact ⟨Z,_,(zj Z),U,_,hS,ac,ae,Z,Z,ai⟩
 intro c5 bx
 refine cF Z c5 (kN (zK (ZQ ZK [3,3,3,1,3,3,3,1,3,3,3,1,3,3,3,1,3,3,3,3,1,3,3,3,1,3,3,3,3,3] fL30 (by kernel_rfl) ?_)))
 have af:=hS.drew
 generalize hw_W9:({ w with drawn:=w.drawn + 1 }:World)=W9 at af ⊢
 refine oM Z Z (oR Z (ZJ Z Z) (oR Z (zC Z Z Zs Z Tryz.sizeOf22) (oL Z (af.ldB (j:=0) Z Z Z Tryz.isAgg22 (v:=.slice ac p0.bytes.length ae) Z) (oM Z Z (oR Z (ZJ Z Z) (oR Z (zC Z Z Zs Z zD) (oL Z (af.ldB (j:=0) Z Z Z zN (v:=jV p0.next) Z) (oM Z Z (oR Z (ZJ Z Z) (oR Z (zC Z Z Zs Z Tryz.sizeOf22) (oL Z (af.ldB (j:=0) Z Z Z Tryz.isAgg22 (v:=.slice ac p0.bytes.length ae) Z) (oR Z (ze Z Z Tryz.runUnderlying22) (bnK bx fun bD aU bh=>oR Z (Runs.rem Z Z Z aU) (bnK bh fun aR ax bi=>?_))))))))))))))
 have q:=ai.el (fun _=>rfl) (wAk ax)
 obtain ⟨bB,bC,ba,bb⟩:=q
 refine oR Z (ZU Z Z ba Z Tryz.runUnderlying22 Tryz.sizeOf5 (wFN ax) (wFh ax)) (oL Z (af.ldC (f:=0) bb (v:=.int .u8 aR) Z Z Tryz.isAgg5 Z) (oR Z (Runs.cvu Z Z Tryz.runUnderlying5 YD Z Z) (oM Z Z (oR Z (ZJ Z Z) (oR Z (zC Z Z Zs Z zD) (oL Z (af.ldB (j:=0) Z Z Z zN (v:=jV p0.next) Z) (oM Z Z (oR Z (ZJ Z Z) (oR Z (zC Z Z Zs Z Tryz.sizeOf22) (oL Z (af.ldB (j:=0) Z Z Z Tryz.isAgg22 (v:=.slice ac p0.bytes.length ae) Z) (oR Z (ze Z Z Tryz.runUnderlying22) (bnK bi fun bz aV bj=>oR Z (Runs.quo Z Z Z aV) (oR Z (Runs.cvu Z Z Zm YD Z Z) (oA Z Z (oA Z Z (eN (zK (yg fun an ak=>?_))))))))))))))))))
 have aj:an 0=.pointer (some ⟨ag,0,none⟩):=(ak 0).trans rfl
 have ao:an 1=jV p1:=(ak 1).trans rfl
 have ap:an 5=.int .u32 (wFv aR):=(ak 5).trans rfl
 have aN:an 6=.int .u32 (wFv bz):=(ak 6).trans rfl
 clear ak
 refine rR (wMF (.fx 7 .nil .stop)) Z (oM Z aj (oR Z (ZJ Z Z) (oR Z (zC Z Z Zs Z zD) (oL Z (af.ldB (j:=0) Z Z Z zN (v:=jV p0.next) Z) (oR Z (zX Z Z Z) (oR Z (ZJ Z Z) (oR Z (zC Z Z Zs Z zD) (ZA (j:=0) (vs:=[jV (w64 (p0.next + 1))]) Z Z Z Z af Z Z Z Z zD (zB Z) Z Z Z ?_))))))))
 intro aS be
 let B0:Res:=.blk ag 126 [.slice ac p0.bytes.length ae,jV p0.next,.int .u32 p0.state]
 have aO:SW w [B0] U U [.blk ag 126 [.slice ac p0.bytes.length ae,jV (w64 (p0.next + 1)),.int .u32 p0.state]] aS:=be
 refine eN (sR (wKK (.fx 15 .nil .stop)) Z (oM Z aj (oM Z aj (oR Z (ZJ Z Z) (oR Z (zC Z Z Zs Z Tryz.sizeOf124) (oL Z (aO.ldB (j:=0) Z Z Z Tryz.isAgg124 (v:=.int .u32 p0.state) Z) (oR Z (Runs.mulu Z Z Z) (oM Z ap (oR Z (Runs.addu Z Z Z) (oM Z aN (oR Z (Runs.mulu Z Z Z) (oR Z (Runs.addu Z Z Z) (oR Z (Runs.addu Z Z Z) (bnK bj fun au aW bk=>oR Z (Runs.rem Z Z Z aW) (oR Z (ZJ Z Z) (oR Z (zC Z Z Zs Z Tryz.sizeOf124) (ZA (j:=0) (vs:=[.int .u32 au]) Z Z Z Z aO Z Z Z Z Tryz.sizeOf124 (zB Z) Z Z Z ?_)))))))))))))))))
 intro aT bg
 have am:SW w [B0] U U [.blk ag 126 [.slice ac p0.bytes.length ae,jV (w64 (p0.next + 1)),.int .u32 au]] aT:=bg
 refine eN (zK (sR fL6 Z (oM Z aN (oR Z (Zw Z Z Z) (oM Z Z (ifc bk ?_ ?_))))))
 intro ah bm
 refine zO Z Z Z (wT Z ah) Z ao (rU Z (wT Z ah) (Runs.leq Z Z Z) (oR Z (zV Z (ZO ah.out) Z) (eN (ifc bm ?_ ?_))))
 intro av bn
 refine cT Z av (sR fL5 Z (oM Z ap (oR Z (Runs.cvw Z Z YD Zm Z Z) (oM Z ao (bnK bn fun bE aX bp=>oR Z (Runs.rem Z Z Z aX) (oA Z Z (eN (zP (zZ ?_)))))))))
 cases bp
 exact ⟨Z,_,(zj Z),U,_,am,ac,ae,Z,Z,ai⟩
 intro av bq
 refine cF Z av (kN (sR fL11 Z (oM Z aj (oR Z (ZJ Z Z) (oR Z (zC Z Z Zs Z Tryz.sizeOf124) (oL Z (am.ldB (j:=0) Z Z Z Tryz.isAgg124 (v:=.int .u32 au) Z) (oR Z (Runs.mulu Z Z Z) (oM Z ap (oR Z (Runs.addu Z Z Z) (oR Z (Runs.cvw Z Z YD Zm Z Z) (oM Z ao (bnK bq fun bF aY br=>oR Z (Runs.rem Z Z Z aY) (oA Z Z (eN (zP ?_)))))))))))))))
 cases br
 exact ⟨Z,_,(zj Z),U,_,am,ac,ae,Z,Z,ai⟩
 intro ah bs
 refine oF Z ah (oF Z ah (oR Z (zS Z (zo ah.out) Z) (eN (zg Z (kN (sR fL11 Z (oM Z aj (oR Z (ZJ Z Z) (oR Z (zC Z Z Zs Z Tryz.sizeOf124) (oL Z (am.ldB (j:=0) Z Z Z Tryz.isAgg124 (v:=.int .u32 au) Z) (oR Z (Runs.mulu Z Z Z) (oM Z ap (oR Z (Runs.addu Z Z Z) (oR Z (Runs.cvw Z Z YD Zm Z Z) (oM Z ao (bnK bs fun bG aZ bu=>oR Z (Runs.rem Z Z Z aZ) (oA Z Z (eN (zP ?_)))))))))))))))))))
 cases bu
 exact ⟨Z,_,(zj Z),U,_,am,ac,ae,Z,Z,ai⟩
theorem wFK (p0:wAO) (ab:Nat) (ac:Option Addr) (ae:Nat) (p1:Int) (p2:Int) (w:World) (U:PHeap) (hS:St0 w U [.blk ab 126 [.slice ac p0.bytes.length ae,jV p0.next,.int .u32 p0.state]]) (ax:Sl U 1 ac ae p0.bytes.length (hD KL.encB8 p0.bytes)) {r:Int × wAO} (hm:wBN p0 p1 p2=some r):Gv Tryz.prog 8 [.pointer (some ⟨ab,0,none⟩),jV p1,jV p2] w (wBj w [.blk ab 126 [.slice ac p0.bytes.length ae,jV p0.next,.int .u32 p0.state]] U (fun U_ L_ v=>∃ (aj:Option Addr) (an:Nat),v=jV r.1/\L_=[.blk ab 126 [.slice aj r.2.bytes.length an,jV r.2.next,.int .u32 r.2.state]]/\Sl U_ 1 aj an r.2.bytes.length (hD KL.encB8 r.2.bytes))):=by
 unfold wBN at hm
 refine Gv.of Tryz.func8 Z Tryz.ntmps8 Tryz.results8 Z (sR fL1 Z (oA Z Z (eN (sR (wJb gAn) Z (oM Z Z (oM Z Z (oM Z Z (oM Z Z (oR Z (ZN Z Z Z) (oR Z (zX Z Z Z) ?_))))))))))
 have q:=bnd hm
 obtain ⟨⟨x2,x3⟩,h4,ao⟩:=q
 try dsimp only at ao
 refine zI 1 Z Z Z Z (zJ Z Z Tryz.call9 (zA Z (zA Z zM)) Z) hS (fun hs=>wCn p0 ab ac ae (w64 ((w64 (p2 - p1)) + 1)) w U hs ax h4) (.inl Z) ?_
 rintro U6 L7 v8 W9 az av ⟨ai,am,rfl,rfl,aq⟩
 have aw:SW w [.blk ab 126 [.slice ac p0.bytes.length ae,jV p0.next,.int .u32 p0.state]] U U6 [.blk ab 126 [.slice ai x3.bytes.length am,jV x3.next,.int .u32 x3.state]] W9:=av
 refine oR Z (zX Z Z Z) (oA Z Z (eN (zP ?_)))
 cases ao
 exact ⟨Z,_,(zj Z),U6,_,aw,ai,am,Z,Z,aq⟩
theorem wCF (p0:wAO) (ab:Nat) (ac:Option Addr) (ae:Nat) (p1:Int) (w:World) (U:PHeap) (hS:St0 w U [.blk ab 126 [.slice ac p0.bytes.length ae,jV p0.next,.int .u32 p0.state]]) (aw:Sl U 1 ac ae p0.bytes.length (hD KL.encB8 p0.bytes)) {r:Bool × wAO} (hm:wAc p0 p1=some r):Gv Tryz.prog 24 [.pointer (some ⟨ab,0,none⟩),jV p1] w (wBj w [.blk ab 126 [.slice ac p0.bytes.length ae,jV p0.next,.int .u32 p0.state]] U (fun U_ L_ v=>∃ (ai:Option Addr) (am:Nat),v=.bool r.1/\L_=[.blk ab 126 [.slice ai r.2.bytes.length am,jV r.2.next,.int .u32 r.2.state]]/\Sl U_ 1 ai am r.2.bytes.length (hD KL.encB8 r.2.bytes))):=by
 unfold wAc at hm
 refine Gv.of Tryz.func24 Z Tryz.ntmps24 Tryz.results24 Z (sR fL1 Z (oA Z Z (eN (sR gAu Z (oM Z Z (oM Z Z ?_))))))
 have q:=bnd hm
 obtain ⟨⟨x2,x3⟩,h4,an⟩:=q
 try dsimp only at an
 refine zI 1 Z Z Z Z (zJ Z Z Tryz.call9 (zA Z (zA Z zM)) Z) hS (fun hs=>wCn p0 ab ac ae p1 w U hs aw h4) (.inl Z) ?_
 rintro U6 L7 v8 W9 ay au ⟨ah,ak,rfl,rfl,ap⟩
 have av:SW w [.blk ab 126 [.slice ac p0.bytes.length ae,jV p0.next,.int .u32 p0.state]] U U6 [.blk ab 126 [.slice ah x3.bytes.length ak,jV x3.next,.int .u32 x3.state]] W9:=au
 refine oR Z (Zw Z Z Z) (oA Z Z (eN (zP ?_)))
 cases an
 exact ⟨Z,_,(zj Z),U6,_,av,ah,ak,Z,Z,ap⟩
theorem wDh (p0:Int) (p1:Int) (p2:Int) (w:World) (U:PHeap) (hS:St0 w U [])  {r:Bool} (hm:wCU p0 p1 p2=some r):Gv Tryz.prog 62 [jV p0,jV p1,jV p2] w (wBj w [] U (fun U_ L_ v=>v=.bool r/\L_=[])):=by
 unfold wCU at hm
 refine Gv.of Tryz.func62 Z Tryz.ntmps62 Tryz.results62 Z (sR fL1 Z (oA Z Z (eN (sR fL9 Z (oM Z Z (oM Z Z (oR Z (yz Z Z Z) (oM Z Z ?_))))))))
 by_cases c1:p1 <= p0
 have ab:=hm;rw [if_pos c1] at ab;replace c1:=zG c1
 refine zO Z Z Z (wT Z c1) Z Z (zO Z Z Z (wT Z c1) Z Z (rU Z (wT Z c1) (Runs.leq Z Z Z) (oR Z (zV Z (ZO c1.out) Z) (oA Z Z (eN (zP ?_))))))
 first | (obtain rfl:=hM ab) | cases ab
 exact ⟨Z,_,(zj Z),U,_,hS,Z,Z⟩
 have af:=hm;rw [if_neg c1] at af;replace c1:=zG c1
 refine oF Z c1 (oF Z c1 (oF Z c1 (oR Z (zS Z (zo c1.out) Z) (oA Z Z (eN (zP ?_))))))
 have hE:=hM af;first | subst r | cases hE
 exact ⟨Z,_,(zj Z),U,_,hS,Z,Z⟩
theorem wFF (p0:List Bool) (aq:Option Addr) (au:Nat) (w:World) (U:PHeap) (hS:St0 w U []) (bR:Sl U 1 aq au p0.length (hD KL.encT p0)) {r:wAj × Int} (hm:wCt p0=some r):Gv Tryz.prog 25 [.slice aq p0.length au] w (wBj w [] U (fun U_ L_ v=>v=.tuple #[.agg #[jV r.1.Spares,jV r.1.Loops,jV r.1.Unused],jV r.2]/\L_=[])):=by
 unfold wCt at hm
 refine Gv.of Tryz.func25 Z Tryz.ntmps25 Tryz.results25 Z (sR gAg Z ?_)
 let B0:List Value:=[jV 0,jV 0,jV 0]
 refine zy (cs:=B0) Z Z Z Z Z yO Z hS ?_
 intro W1 b2 bK
 refine oA Z Z (eN (zK (sR gAr Z (oM Z Z (oR Z (ze Z Z ZV) (bnK hm fun x5 h6 cd=>zI 0 Z Z Z Z (zJ Z Z YA (zA Z (zA Z (zA Z zM))) Z) bK (fun hs=>wDh (↑p0.length:Int) 5 8 W1 U hs h6) (.inr Z) ?_))))))
 rintro U8 L9 cG bp cm bJ ⟨rfl,rfl⟩
 have be:sW w U U8 [.blk b2 93 B0] bp:=bJ
 refine oR Z (ZR Z Z) (eN (ifc cd ?_ ?_))
 intro av aS
 refine zg (nC av.out) (kN (sR fL1 Z (oA Z Z (eN (zK (sR fL3 Z (oM Z Z (oR Z (ze Z Z ZV) (oM Z Z (eN (zU ?_)))))))))))
 have q:=wDA aS
 obtain ⟨cE,aP⟩:=q
 have q:=wCz aP
 obtain ⟨aR,bU⟩:=q
 replace aR:=zG aR
 refine ya (fun ai bk J_ w_=>∃ (U_:PHeap),J_ 15=jV (↑ai:Int)/\J_ 0=.slice aq p0.length au/\J_ 2=.pointer (some ⟨b2,0,none⟩)/\J_ 4=jV bk/\J_ 13=.slice aq p0.length au/\J_ 14=jV (↑p0.length:Int)/\PHeap.Le U8 U_/\sW w U U_ [.blk b2 93 B0] w_) bU ?_ ?_ ?_
 exact ⟨U8,Z,Z,Z,Z,Z,Z,(zQ _),be⟩
 rintro ai bk cI cr cx aQ ⟨aj,ao,aW,am,az,aM,aN,aT,ap⟩ cj bS
 have aV:Hid ((↑ai:Int) < (↑p0.length:Int)):=zG (wBR aQ)
 replace aQ:=zG aQ
 have bj:Hid (w64 ((↑ai:Int) + 1)=(↑(ai + 1):Int)):=zG (by have h1:=aR.out;have h2:=aV.out;rw [wAa] <;> omega)
 refine sR fL1 Z (oR Z (zR Z ao aN) (eN (zK (cT Z aV (kN (zK (zU (sR fL3 Z (bnK cj fun cp aZ bW=>?_)))))))))
 have bC:=bR.le cm
 have bD:=bC.le aT
 have q:=bD.el (fun _=>rfl) (wAk aZ)
 obtain ⟨cA,cD,bF,bG⟩:=q
 refine oR Z (ZD Z aM bF ao ZV Tryz.sizeOf4 (wBi aZ)) (oL Z (ap.ldC (f:=0) bG (v:=.bool cp) Z Z Tryz.isAgg4 Z) (oA Z Z (eN (zK (sR fL2 Z (oM Z az (oR Z (Zw Z Z Z) (eN (ifc bW ?_ ?_)))))))))
 intro aw bX
 refine cT Z aw (sR gAo Z (oR Z (ZI (pv:=[]) (z:=B0) (cs:=B0) Z wAY yO wHp Z Z) (ZA (j:=0) (vs:=B0) Z Z Z Z ap Z am Z Z Zv (zB Z) Z Z Z ?_)))
 intro bq bL
 have bg:sW w U aj [.blk b2 93 B0] bq:=bL
 refine oA Z Z (eN (zP (zZ (zm (zZ ?_)))))
 have q:=wAq bX
 obtain ⟨co,bY,bz⟩:=q
 have q:=wDj aS aP (bS co bz)
 obtain rfl:=q
 refine zZ (zm (zZ ?_))
 cases bY
 exact ⟨rfl,_,(wIz (rs:=[.cell 2 93,.tmp 3]) (vs:=[.agg B0.toArray,jV 8]) ⟨⟨_,am,(wFi YO Zv (bg.blkAt (k:=0) rfl) (vs:=B0) rfl rfl)⟩,⟨rfl,trivial⟩⟩ rfl),aj,_,(bg.pick [] _ (by decide) rfl),rfl,rfl⟩
 intro aw bZ
 refine cF Z aw (kN (sR fL1 Z (oM Z Z (eN (ifc bZ ?_ ?_)))))
 intro ax ca
 refine zx (congrArg nA ax.out) (rR fL3 Z (oM Z az (oR Z (ZN Z Z Z) (oA Z Z (zb (za (zF (rR fL2 Z (oR Z (zr (zX Z ao Z) (congrArg (jV) bj.out)) (oM Z Z (zb ?_)))))))))))
 have q:=hM ca
 obtain rfl:=q
 exact zF ⟨Z,_,Z,⟨aj,Z,aW,am,Z,aM,aN,aT,ap⟩⟩
 intro ax cc
 refine zg (congrArg nA (nB.2 ax.out)) (ZE (za (zF (rR fL2 Z (oR Z (zr (zX Z ao Z) (congrArg (jV) bj.out)) (oM Z Z (zb ?_)))))))
 have q:=hM cc
 obtain rfl:=q
 exact zF ⟨Z,_,Z,⟨aj,Z,aW,am,az,aM,aN,aT,ap⟩⟩
 rintro aU ct cy ⟨ag,bB,aX,an,aY,cB,bA,cC,bM⟩ bT
 have cg:=wEC aS aP bT
 have bx:Hid (¬ ((↑(((↑p0.length:Int):Int) - 0).toNat:Int) < (↑p0.length:Int))):=zG (wAr)
 refine sR fL1 Z (oR Z (zR Z bB bA) (eN (zK (cF Z bx (ZG (zc (zc (zz (zF (sR (wEA (.fx 5 (.fx 6 .nil .stop) .stop)) Z (oM Z aX (oR Z (ze Z Z ZV) (oR Z (ZN Z Z Z) (oM Z aY ?_))))))))))))))
 let B1:List Value:=[jV (w64 ((↑p0.length:Int) - 5)),jV aU,jV 0]
 refine oR Z (ZI (pv:=[(0,jV (w64 ((↑p0.length:Int) - 5))),(1,jV aU)]) (z:=B0) (cs:=B1) Z (wAH Z (wAH Z wAY)) yO wHp Z Z) (zy (cs:=B0) Z Z Z Z Z yO Z bM ?_)
 intro cz ak bN
 refine ZA (j:=0) (vs:=B1) Z Z Z Z bN Z Z Z Z Zv (zB Z) Z Z Z ?_
 intro br bO
 have aO:sW w U ag [.blk ak 93 B1,.blk b2 93 B0] br:=bO
 refine eN (zK (sR fL2 Z (oM Z aY (oR Z (yP Z Z Z) (eN (ifc cg ?_ ?_))))))
 intro ay ch
 refine cT Z ay (rR (wEv (.fx 4 .nil .stop)) Z (oM Z aX (oR Z (ze Z Z ZV) (oR Z (ZN Z Z Z) (oR Z (zC Z Z yV Z zD) (ZA (j:=0) (vs:=[jV (w64 (8 - (↑p0.length:Int)))]) Z Z Z Z aO Z Z Z Z zD (zB Z) Z Z Z ?_))))))
 intro bs bP
 let B2:List Value:=[jV (w64 ((↑p0.length:Int) - 5)),jV aU,jV (w64 (8 - (↑p0.length:Int)))]
 have bh:sW w U ag [.blk ak 93 B2,.blk b2 93 B0] bs:=bP
 refine eN (sR gAo Z (oL Z (bh.ldBA (j:=0) Z Z Z YO Zv (vs:=B2) Z Z) (ZA (j:=1) (vs:=B2) Z Z Z Z bh Z an Z Z Zv (zB Z) Z Z Z ?_)))
 intro bu bQ
 have bi:sW w U ag [.blk ak 93 B2,.blk b2 93 B2] bu:=bQ
 refine oA Z Z (eN (zP ?_))
 cases ch
 exact ⟨rfl,_,(wIz (rs:=[.cell 2 93,.tmp 3]) (vs:=[.agg B2.toArray,jV 0]) ⟨⟨_,an,(wFi YO Zv (bi.blkAt (k:=1) rfl) (vs:=B2) rfl rfl)⟩,⟨rfl,trivial⟩⟩ rfl),ag,_,(bi.pick [] _ (by decide) rfl),rfl,rfl⟩
 intro ay ci
 refine cF Z ay (kN (sR gAo Z (oL Z (aO.ldBA (j:=0) Z Z Z YO Zv (vs:=B1) Z Z) (ZA (j:=1) (vs:=B1) Z Z Z Z aO Z an Z Z Zv (zB Z) Z Z Z ?_))))
 intro bw bH
 have ba:sW w U ag [.blk ak 93 B1,.blk b2 93 B1] bw:=bH
 refine oA Z Z (eN (zP ?_))
 cases ci
 exact ⟨rfl,_,(wIz (rs:=[.cell 2 93,.tmp 3]) (vs:=[.agg B1.toArray,jV 0]) ⟨⟨_,an,(wFi YO Zv (ba.blkAt (k:=1) rfl) (vs:=B1) rfl rfl)⟩,⟨rfl,trivial⟩⟩ rfl),ag,_,(ba.pick [] _ (by decide) rfl),rfl,rfl⟩
 intro av bV
 refine zx (nF (av.out)) (sR gAo Z (oR Z (ZI (pv:=[]) (z:=B0) (cs:=B0) Z wAY yO wHp Z Z) (ZA (j:=0) (vs:=B0) Z Z Z Z be Z Z Z Z Zv (zB Z) Z Z Z ?_)))
 intro bn bI
 have bb:sW w U U8 [.blk b2 93 B0] bn:=bI
 refine oA Z Z (eN (zP (zZ ?_)))
 cases bV
 exact ⟨rfl,_,(wIz (rs:=[.cell 2 93,.tmp 3]) (vs:=[.agg B0.toArray,jV 2]) ⟨⟨_,rfl,(wFi YO Zv (bb.blkAt (k:=0) rfl) (vs:=B0) rfl rfl)⟩,⟨rfl,trivial⟩⟩ rfl),U8,_,(bb.pick [] _ (by decide) rfl),rfl,rfl⟩
theorem wGt (p0:Int) (p1:(Int->Option Bool)) (af:Nat) (ab:Value) (w:World) (U:PHeap) (hS:St0 w U []) (ak:Cl U af 0 [ab]) (am:FnOK Tryz.prog U ab wMG wNN p1) {r:Bool} (hm:wCV p0 p1=some r):Gv Tryz.prog 232 [jV p0,.pointer (some ⟨af,0,none⟩)] w (wBj w [] U (fun U_ L_ v=>v=.bool r/\L_=[])):=by
 unfold wCV at hm
 refine Gv.of Tryz.func232 Z Tryz.ntmps232 Tryz.results232 Z (sR fL1 Z (oA Z Z (eN (sR gAu Z (oL Z (hS.ldC (f:=0) ak (v:=ab) Z Z Tryz.isAgg91 Z) (oM Z Z (bnK hm fun x1 h2 an=>yU (a:=p0) Z Z Z Z Z Z (zA Z zM) hS am Z h2 ?_)))))))
 rintro U4 L5 v6 W7 ap aj ⟨rfl,rfl⟩
 have ai:sW w U U4 [] W7:=aj
 refine oR Z (ZR Z Z) (oA Z Z (eN (zP ?_)))
 cases an
 exact ⟨Z,_,(zj Z),U4,_,ai,Z,Z⟩
theorem wEw (p0:List Int) (ak:Option Addr) (am:Nat) (p1:(Int->Option Bool)) (an:Value) (w:World) (U:PHeap) (hS:St0 w U []) (bb:Sl U 1 ak am p0.length (hD KL.encI p0)) (be:FnOK Tryz.prog U an wMG wNN p1) {r:Int} (hm:wCE p0 p1=some r):Gv Tryz.prog 221 [.slice ak p0.length am,an] w (wBj w [] U (fun U_ L_ v=>v=jV r/\L_=[])):=by
 unfold wCE at hm
 refine Gv.of Tryz.func221 Z Tryz.ntmps221 Tryz.results221 Z (sR fL1 Z (oA Z Z (eN (zK (sR fL3 Z (oM Z Z (oR Z (ze Z Z zH) (oM Z Z (eN (zU ?_))))))))))
 have q:=wDA hm
 obtain ⟨r3,ag⟩:=q
 have q:=wCz ag
 obtain ⟨ai,bi⟩:=q
 replace ai:=zG ai
 refine ya (fun k2 _ J_ w_=>∃ (U_:PHeap),J_ 8=jV (↑k2:Int)/\J_ 0=.slice ak p0.length am/\J_ 1=an/\J_ 7=jV (↑p0.length:Int)/\PHeap.Le U U_/\sW w U U_ [] w_) bi ?_ ?_ ?_
 exact ⟨U,Z,Z,Z,Z,(zQ _),hS⟩
 rintro k2 ⟨⟩ bK J7 W8 ah ⟨bz,af,ap,aq,au,aj,aw⟩ az bg
 try dsimp only at az
 have ao:Hid ((↑k2:Int) < (↑p0.length:Int)):=zG (wBR ah)
 replace ah:=zG ah
 have bj:Hid (w64 ((↑k2:Int) + 1)=(↑(k2 + 1):Int)):=zG (by have h1:=ai.out;have h2:=ao.out;rw [wAa] <;> omega)
 refine sR fL1 Z (oR Z (zR Z af au) (eN (zK (cT Z ao (kN (zK (zU (sR fL2 Z (oM Z af (oA Z Z (eN (sR (wEA (.fx 5 .nil .stop)) Z (oM Z aq (oM Z ap (oM Z Z (bnK az fun aN av bk=>?_))))))))))))))))
 have aU:=bb.le aj
 have q:=aU.el (fun _=>rfl) (wAk av)
 obtain ⟨bC,bG,aX,aY⟩:=q
 refine oR Z (ZD Z Z aX Z zH zD (wBi av)) (oL Z (aw.ldC (f:=0) aY (v:=jV aN) Z Z zN Z) (bnK bk fun bJ aV bm=>?_))
 have aW:=be.le aj
 refine yU (a:=aN) Z Z Z Z Z Z (zA Z zM) aw aW Z aV ?_
 rintro ac bx bI aP br aZ ⟨rfl,rfl⟩
 have ax:sW w U ac [] aP:=aZ
 refine eN (ifc bm ?_ ?_)
 intro ae bn
 refine zx (congrArg nA ae.out) (sR fL2 Z (oM Z Z (oA Z Z (eN (zP (zm (zZ ?_)))))))
 have q:=wAq bn
 obtain ⟨bs,bp,aR⟩:=q
 have q:=wDj hm ag (bg bs aR)
 obtain rfl:=q
 refine zZ (zm (zZ ?_))
 cases bp
 exact ⟨Z,_,(zj Z),ac,_,ax,Z,Z⟩
 intro ae bq
 refine zg (congrArg nA (nB.2 ae.out)) (ZE (za (zF (rR fL2 Z (oR Z (zr (zX Z af Z) (congrArg (jV) bj.out)) (oM Z Z (zb ?_)))))))
 have q:=hM bq
 obtain rfl:=q
 exact zF ⟨Z,_,Z,⟨ac,Z,ap,aq,au,(aj.trans br),ax⟩⟩
 rintro ⟨⟩ bu bA ⟨aO,aT,bD,bE,aS,bF,ba⟩ bh
 have ay:=wEC hm ag bh
 try dsimp only at ay
 have aQ:Hid (¬ ((↑(((↑p0.length:Int):Int) - 0).toNat:Int) < (↑p0.length:Int))):=zG (wAr)
 refine sR fL1 Z (oR Z (zR Z aT aS) (eN (zK (cF Z aQ (ZG (zc (zc (zz (zF (sR fL1 Z (oA Z Z (eN (zP ?_)))))))))))))
 cases ay
 exact ⟨Z,_,(zj Z),aO,_,ba,Z,Z⟩
theorem wEo (p0:List Int) (ac:Option Addr) (ae:Nat) (p1:(Int->Option Bool)) (af:Value) (w:World) (U:PHeap) (hS:St0 w U []) (an:Sl U 1 ac ae p0.length (hD KL.encI p0)) (ao:FnOK Tryz.prog U af wMG wNN p1) {r:Bool} (hm:wBm p0 p1=some r):Gv Tryz.prog 148 [.slice ac p0.length ae,af] w (wBj w [] U (fun U_ L_ v=>v=.bool r/\L_=[])):=by
 unfold wBm at hm
 refine Gv.of Tryz.func148 Z Tryz.ntmps148 Tryz.results148 Z (sR fL1 Z (oA Z Z (eN (sR gAu Z (oM Z Z (oM Z Z (bnK hm fun x1 h2 ah=>zI 0 Z Z Z Z (zJ Z Z Tryz.call221 (zA Z (zA Z zM)) Z) hS (fun hs=>wEw p0 ac ae p1 af w U hs an ao h2) (.inr Z) ?_)))))))
 rintro U4 L5 v6 W7 aq am ⟨rfl,rfl⟩
 have ak:sW w U U4 [] W7:=am
 refine oR Z (yz Z Z Z) (oA Z Z (eN (zP ?_)))
 first | (obtain rfl:=hM ah) | cases ah
 exact ⟨Z,_,(zj Z),U4,_,ak,Z,Z⟩
theorem wFj (p0:List Int) (ah:Option Addr) (ai:Nat) (p1:(Int->Option Bool)) (af:Value) (w:World) (U:PHeap) (hS:St0 w U []) (aO:Sl U 1 ah ai p0.length (hD KL.encI p0)) (am:FnOK Tryz.prog U af wMG wNN p1) {r:Bool} (hm:wCq p0 p1=some r):Gv Tryz.prog 170 [.slice ah p0.length ai,af] w (wBj w [] U (fun U_ L_ v=>v=.bool r/\L_=[])):=by
 unfold wCq at hm
 refine Gv.of Tryz.func170 Z Tryz.ntmps170 Tryz.results170 Z (sR gAg Z (ZB (cs:=[af]) Z Z Z Z Z Z (FnOK.cells am) hS ?_))
 intro W1 b2 az
 have q:=az.freeze (k:=0) rfl
 obtain ⟨U5,an,ab,aM⟩:=q
 replace ab:=Cl.of ab
 have aN:sW w U U5 [] W1:=aM
 replace ab:Cl U5 b2 0 [af]:=ab
 refine oA Z Z (eN (sR gAu Z (oM Z Z (oR Z (yW Z zM (zA Z zM)) ?_))))
 have aq:=aO.le an
 have au:=am.le an
 have aw:FnOK Tryz.prog U5 (.func (.func 232) #[] #[.pointer (some ⟨b2,0,none⟩)]) wMG wNN (fun x=>wCV x p1):=⟨232,[],[.pointer (some ⟨b2,0,none⟩)],rfl,Tryz.call232,fun U1 w1 x y vs le hs ha hm=>by obtain rfl:=ha;exact wGt x p1 b2 af w1 U1 hs (ab.le le) (au.le le) hm⟩
 refine bnK hm fun aU av aP=>zI 0 Z Z Z Z (zJ Z Z Tryz.call148 (zA Z (zA Z zM)) Z) aN (fun hs=>wEo p0 ah ai (fun x=>wCV x p1) (.func (.func 232) #[] #[.pointer (some ⟨b2,0,none⟩)]) W1 U5 hs aq aw av) (.inr Z) ?_
 rintro aj aR aT ap aS ax ⟨rfl,rfl⟩
 have ay:sW w U aj [] ap:=ax
 refine oR Z (ZR Z Z) (oA Z Z (eN (zP ?_)))
 cases aP
 exact ⟨Z,_,(zj Z),aj,_,ay,Z,Z⟩
theorem wHM (p0:Int) (w:World) (U:PHeap) (hS:St0 w U [])  {r:Bool} (hm:wBc p0=some r):Gv Tryz.prog 230 [jV p0] w (wBj w [] U (fun U_ L_ v=>v=.bool r/\L_=[])):=by
 unfold wBc at hm
 refine Gv.of Tryz.func230 Z Tryz.ntmps230 Tryz.results230 Z (sR fL1 Z (oA Z Z (eN (sR gAo Z (oM Z Z (bnK hm fun x1 h2 ah=>zI 0 Z Z Z Z (zJ Z Z YA (zA Z (zA Z (zA Z zM))) Z) hS (fun hs=>wDh p0 0 3 w U hs h2) (.inr Z) ?_))))))
 rintro U4 L5 v6 W7 aj ag ⟨rfl,rfl⟩
 have af:sW w U U4 [] W7:=ag
 refine oA Z Z (eN (zP ?_))
 have hE:=hM ah;first | subst r | cases hE
 exact ⟨Z,_,(zj Z),U4,_,af,Z,Z⟩
theorem wGB (p0:List Int) (ab:Option Addr) (ac:Nat) (w:World) (U:PHeap) (hS:St0 w U []) (am:Sl U 1 ab ac p0.length (hD KL.encI p0)) {r:Bool} (hm:wCf p0=some r):Gv Tryz.prog 168 [.slice ab p0.length ac] w (wBj w [] U (fun U_ L_ v=>v=.bool r/\L_=[])):=by
 unfold wCf at hm
 refine Gv.of Tryz.func168 Z Tryz.ntmps168 Tryz.results168 Z (sR fL1 Z (oA Z Z (eN (sR gAo Z (oM Z Z ?_)))))
 have ai:FnOK Tryz.prog U (.func (.func 230) #[] #[]) wMG wNN wBc:=⟨230,[],[],rfl,Tryz.call230,fun U1 w1 x y vs le hs ha hm=>by obtain rfl:=ha;exact wHM x w1 U1 hs  hm⟩
 refine bnK hm fun x2 h3 an=>zI 0 Z Z Z Z (zJ Z Z Tryz.call170 (zA Z (zA Z zM)) Z) hS (fun hs=>wFj p0 ab ac wBc (.func (.func 230) #[] #[]) w U hs am ai h3) (.inr Z) ?_
 rintro U5 L6 v7 W8 aq aj ⟨rfl,rfl⟩
 have ak:sW w U U5 [] W8:=aj
 refine oA Z Z (eN (zP ?_))
 have hE:=hM an;first | subst r | cases hE
 exact ⟨Z,_,(zj Z),U5,_,ak,Z,Z⟩
theorem wHc (p0:wAL) (ab:Option Addr) (ac:Nat) (w:World) (U:PHeap) (hS:St0 w U []) (ah:Sl U 1 ab ac p0.Classes.length (hD KL.encI p0.Classes)) {r:Int} (hm:wBy p0=some r):Gv Tryz.prog 282 [.agg #[.slice ab p0.Classes.length ac,jV p0.Each,jV p0.Laps,jV p0.Spare,jV p0.Loop,jV p0.Unused]] w (wBj w [] U (fun U_ L_ v=>v=jV r/\L_=[])):=by
 unfold wBy at hm
 refine Gv.of Tryz.func282 rfl Tryz.ntmps282 Tryz.results282 rfl (sR gAg rfl (ZB (cs:=[.slice ab p0.Classes.length ac,jV p0.Each,jV p0.Laps,jV p0.Spare,jV p0.Loop,jV p0.Unused]) rfl rfl rfl rfl rfl rfl (by rfl) hS ?_))
 intro W1 b2 ae
 refine oA Z Z (eN (sR fL3 Z (oR Z (zC Z Z ZW Z zD) (oL Z (ae.ldB (j:=0) Z Z Z zN (v:=jV p0.Each) Z) (oA Z Z (eN (zP ?_)))))))
 cases hm
 exact ⟨rfl,_,(zj rfl),U,_,(ae.pick [] _ (by decide) rfl),rfl,rfl⟩
theorem wHd (p0:wAL) (ab:Option Addr) (ac:Nat) (w:World) (U:PHeap) (hS:St0 w U []) (ah:Sl U 1 ab ac p0.Classes.length (hD KL.encI p0.Classes)) {r:Int} (hm:wBz p0=some r):Gv Tryz.prog 283 [.agg #[.slice ab p0.Classes.length ac,jV p0.Each,jV p0.Laps,jV p0.Spare,jV p0.Loop,jV p0.Unused]] w (wBj w [] U (fun U_ L_ v=>v=jV r/\L_=[])):=by
 unfold wBz at hm
 refine Gv.of Tryz.func283 rfl Tryz.ntmps283 Tryz.results283 rfl (sR gAg rfl (ZB (cs:=[.slice ab p0.Classes.length ac,jV p0.Each,jV p0.Laps,jV p0.Spare,jV p0.Loop,jV p0.Unused]) rfl rfl rfl rfl rfl rfl (by rfl) hS ?_))
 intro W1 b2 ae
 refine oA Z Z (eN (sR fL3 Z (oR Z (zC Z Z ZW Z zD) (oL Z (ae.ldB (j:=0) Z Z Z zN (v:=jV p0.Laps) Z) (oA Z Z (eN (zP ?_)))))))
 cases hm
 exact ⟨rfl,_,(zj rfl),U,_,(ae.pick [] _ (by decide) rfl),rfl,rfl⟩
theorem wHe (p0:wAL) (ab:Option Addr) (ac:Nat) (w:World) (U:PHeap) (hS:St0 w U []) (ah:Sl U 1 ab ac p0.Classes.length (hD KL.encI p0.Classes)) {r:Int} (hm:wCA p0=some r):Gv Tryz.prog 284 [.agg #[.slice ab p0.Classes.length ac,jV p0.Each,jV p0.Laps,jV p0.Spare,jV p0.Loop,jV p0.Unused]] w (wBj w [] U (fun U_ L_ v=>v=jV r/\L_=[])):=by
 unfold wCA at hm
 refine Gv.of Tryz.func284 rfl Tryz.ntmps284 Tryz.results284 rfl (sR gAg rfl (ZB (cs:=[.slice ab p0.Classes.length ac,jV p0.Each,jV p0.Laps,jV p0.Spare,jV p0.Loop,jV p0.Unused]) rfl rfl rfl rfl rfl rfl (by rfl) hS ?_))
 intro W1 b2 ae
 refine oA Z Z (eN (sR fL3 Z (oR Z (zC Z Z ZW Z zD) (oL Z (ae.ldB (j:=0) Z Z Z zN (v:=jV p0.Spare) Z) (oA Z Z (eN (zP ?_)))))))
 cases hm
 exact ⟨rfl,_,(zj rfl),U,_,(ae.pick [] _ (by decide) rfl),rfl,rfl⟩
theorem wHf (p0:wAL) (ab:Option Addr) (ac:Nat) (w:World) (U:PHeap) (hS:St0 w U []) (ah:Sl U 1 ab ac p0.Classes.length (hD KL.encI p0.Classes)) {r:Int} (hm:wCB p0=some r):Gv Tryz.prog 285 [.agg #[.slice ab p0.Classes.length ac,jV p0.Each,jV p0.Laps,jV p0.Spare,jV p0.Loop,jV p0.Unused]] w (wBj w [] U (fun U_ L_ v=>v=jV r/\L_=[])):=by
 unfold wCB at hm
 refine Gv.of Tryz.func285 rfl Tryz.ntmps285 Tryz.results285 rfl (sR gAg rfl (ZB (cs:=[.slice ab p0.Classes.length ac,jV p0.Each,jV p0.Laps,jV p0.Spare,jV p0.Loop,jV p0.Unused]) rfl rfl rfl rfl rfl rfl (by rfl) hS ?_))
 intro W1 b2 ae
 refine oA Z Z (eN (sR fL3 Z (oR Z (zC Z Z ZW Z zD) (oL Z (ae.ldB (j:=0) Z Z Z zN (v:=jV p0.Loop) Z) (oA Z Z (eN (zP ?_)))))))
 cases hm
 exact ⟨rfl,_,(zj rfl),U,_,(ae.pick [] _ (by decide) rfl),rfl,rfl⟩
theorem wHg (p0:wAL) (ab:Option Addr) (ac:Nat) (w:World) (U:PHeap) (hS:St0 w U []) (ah:Sl U 1 ab ac p0.Classes.length (hD KL.encI p0.Classes)) {r:Int} (hm:wCC p0=some r):Gv Tryz.prog 286 [.agg #[.slice ab p0.Classes.length ac,jV p0.Each,jV p0.Laps,jV p0.Spare,jV p0.Loop,jV p0.Unused]] w (wBj w [] U (fun U_ L_ v=>v=jV r/\L_=[])):=by
 unfold wCC at hm
 refine Gv.of Tryz.func286 rfl Tryz.ntmps286 Tryz.results286 rfl (sR gAg rfl (ZB (cs:=[.slice ab p0.Classes.length ac,jV p0.Each,jV p0.Laps,jV p0.Spare,jV p0.Loop,jV p0.Unused]) rfl rfl rfl rfl rfl rfl (by rfl) hS ?_))
 intro W1 b2 ae
 refine oA Z Z (eN (sR fL3 Z (oR Z (zC Z Z ZW Z zD) (oL Z (ae.ldB (j:=0) Z Z Z zN (v:=jV p0.Unused) Z) (oA Z Z (eN (zP ?_)))))))
 cases hm
 exact ⟨rfl,_,(zj rfl),U,_,(ae.pick [] _ (by decide) rfl),rfl,rfl⟩
end Go.Proofs.YtlmekamhphnmjaaGreat
namespace Go.Proofs.YtlmekamhphnmjaaGreat
open Go.KL
set_option maxHeartbeats 4000000
theorem wIh  (w:World) (U:PHeap) (hS:St0 w U [])  {r:(List wAQ)} (hm:wEh =some r):Gv Tryz.prog 226 [] w (wBj w [] U (fun U_ L_ v=>∃ (A0:Option Addr) (c0:Nat) (ao:List Value),v=.slice A0 r.length c0/\L_=[.row A0 c0 340 3 ao]/\RlL U_ wIA r ao)):=by
 unfold wEh at hm
 refine Gv.of Tryz.func226 Z Tryz.ntmps226 Tryz.results226 Z (sR fL1 Z (oA Z Z (eN (sR (wEA gAi) Z ?_))))
 let B0:List Value:=[.nilFunc,jV 0,jV 0]
 let B1:List Value:=[.func (.func 282) #[] #[],jV 1,jV 4]
 refine oR Z (ZI (pv:=[(0,.func (.func 282) #[] #[]),(1,jV 1),(2,jV 4)]) (z:=B0) (cs:=B1) Z (wAH Z (wAH Z (wAH Z wAY))) YJ wGA Z Z) ?_
 let B2:List Value:=[.func (.func 283) #[] #[],jV 1,jV 5]
 refine oR Z (ZI (pv:=[(0,.func (.func 283) #[] #[]),(1,jV 1),(2,jV 5)]) (z:=B0) (cs:=B2) Z (wAH Z (wAH Z (wAH Z wAY))) YJ wGA Z Z) ?_
 let B3:List Value:=[.func (.func 284) #[] #[],jV 0,jV 600]
 refine oR Z (ZI (pv:=[(0,.func (.func 284) #[] #[]),(1,jV 0),(2,jV 600)]) (z:=B0) (cs:=B3) Z (wAH Z (wAH Z (wAH Z wAY))) YJ wGA Z Z) ?_
 let B4:List Value:=[.func (.func 285) #[] #[],jV 0,jV 600]
 refine oR Z (ZI (pv:=[(0,.func (.func 285) #[] #[]),(1,jV 0),(2,jV 600)]) (z:=B0) (cs:=B4) Z (wAH Z (wAH Z (wAH Z wAY))) YJ wGA Z Z) ?_
 let B5:List Value:=[.func (.func 286) #[] #[],jV 0,jV 6000]
 refine oR Z (ZI (pv:=[(0,.func (.func 286) #[] #[]),(1,jV 0),(2,jV 6000)]) (z:=B0) (cs:=B5) Z (wAH Z (wAH Z (wAH Z wAY))) YJ wGA Z Z) ?_
 let B6:List Value:=[.func (.func 282) #[] #[],jV 1,jV 4,.func (.func 283) #[] #[],jV 1,jV 5,.func (.func 284) #[] #[],jV 0,jV 600,.func (.func 285) #[] #[],jV 0,jV 600,.func (.func 286) #[] #[],jV 0,jV 6000]
 refine ZF (pv:=[(0,.agg B1.toArray),(1,.agg B2.toArray),(2,.agg B3.toArray),(3,.agg B4.toArray),(4,.agg B5.toArray)]) (zs:=[.nilFunc,jV 0,jV 0,.nilFunc,jV 0,jV 0,.nilFunc,jV 0,jV 0,.nilFunc,jV 0,jV 0,.nilFunc,jV 0,jV 0]) (cs:=B6) Z Z Z Z Z (wAH Z (wAH Z (wAH Z (wAH Z (wAH Z wAY))))) Tryz.runUnderlying341 Tryz.sizeOf340 YJ Z Z Z Z Z hS ?_
 intro W1 b2 az
 have aq:FnOK Tryz.prog U (.func (.func 286) #[] #[]) wJC wJD wCC:=⟨286,[],[],rfl,Tryz.call286,fun U1 w1 x y vs le hs ha hm=>by obtain ⟨pA_0_0,pc_0_0,rfl,hq0_0⟩:=ha;exact wHg x pA_0_0 pc_0_0 w1 U1 hs hq0_0 hm⟩
 have au:FnOK Tryz.prog U (.func (.func 285) #[] #[]) wJC wJD wCB:=⟨285,[],[],rfl,Tryz.call285,fun U1 w1 x y vs le hs ha hm=>by obtain ⟨pA_0_0,pc_0_0,rfl,hq0_0⟩:=ha;exact wHf x pA_0_0 pc_0_0 w1 U1 hs hq0_0 hm⟩
 have av:FnOK Tryz.prog U (.func (.func 284) #[] #[]) wJC wJD wCA:=⟨284,[],[],rfl,Tryz.call284,fun U1 w1 x y vs le hs ha hm=>by obtain ⟨pA_0_0,pc_0_0,rfl,hq0_0⟩:=ha;exact wHe x pA_0_0 pc_0_0 w1 U1 hs hq0_0 hm⟩
 have aw:FnOK Tryz.prog U (.func (.func 283) #[] #[]) wJC wJD wBz:=⟨283,[],[],rfl,Tryz.call283,fun U1 w1 x y vs le hs ha hm=>by obtain ⟨pA_0_0,pc_0_0,rfl,hq0_0⟩:=ha;exact wHd x pA_0_0 pc_0_0 w1 U1 hs hq0_0 hm⟩
 have ax:FnOK Tryz.prog U (.func (.func 282) #[] #[]) wJC wJD wBy:=⟨282,[],[],rfl,Tryz.call282,fun U1 w1 x y vs le hs ha hm=>by obtain ⟨pA_0_0,pc_0_0,rfl,hq0_0⟩:=ha;exact wHc x pA_0_0 pc_0_0 w1 U1 hs hq0_0 hm⟩
 have aM:RlL U wIA [(⟨wBy,1,4⟩:wAQ),(⟨wBz,1,5⟩:wAQ),(⟨wCA,0,600⟩:wAQ),(⟨wCB,0,600⟩:wAQ),(⟨wCC,0,6000⟩:wAQ)] B6:=(RlL.cons (R:=wIA) (x:=(⟨wBy,1,4⟩:wAQ)) (vs:=B1) ⟨(.func (.func 282) #[] #[]),rfl,ax⟩ (RlL.cons (R:=wIA) (x:=(⟨wBz,1,5⟩:wAQ)) (vs:=B2) ⟨(.func (.func 283) #[] #[]),rfl,aw⟩ (RlL.cons (R:=wIA) (x:=(⟨wCA,0,600⟩:wAQ)) (vs:=B3) ⟨(.func (.func 284) #[] #[]),rfl,av⟩ (RlL.cons (R:=wIA) (x:=(⟨wCB,0,600⟩:wAQ)) (vs:=B4) ⟨(.func (.func 285) #[] #[]),rfl,au⟩ (RlL.cons (R:=wIA) (x:=(⟨wCC,0,6000⟩:wAQ)) (vs:=B5) ⟨(.func (.func 286) #[] #[]),rfl,aq⟩ RlL.nil)))))
 have ay:sW w U U [.row (some ⟨b2,0,none⟩) 5 340 3 B6] W1:=az
 refine oA Z Z (eN (zP ?_))
 cases hm
 exact ⟨Z,_,(zj Z),U,_,ay,(some ⟨b2,0,none⟩),5,B6,Z,Z,aM⟩
theorem wGS (p0:wAQ) (ag:Value) (p1:wAL) (ao:Nat) (ae:Option Addr) (af:Nat) (w:World) (U:PHeap) (hS:St0 w U []) (aM:FnOK Tryz.prog U ag wJC wJD p0.of) (aN:Cl U ao 0 [.slice ae p1.Classes.length af,jV p1.Each,jV p1.Laps,jV p1.Spare,jV p1.Loop,jV p1.Unused]) (aO:Sl U 1 ae af p1.Classes.length (hD KL.encI p1.Classes)) {r:Bool} (hm:wBx p0 p1=some r):Gv Tryz.prog 227 [.agg #[ag,jV p0.lo,jV p0.hi],.pointer (some ⟨ao,0,none⟩)] w (wBj w [] U (fun U_ L_ v=>v=.bool r/\L_=[])):=by
 unfold wBx at hm
 refine Gv.of Tryz.func227 Z Tryz.ntmps227 Tryz.results227 Z (sR gAg Z ?_)
 let B0:List Value:=[ag,jV p0.lo,jV p0.hi]
 refine ZB (cs:=B0) rfl rfl rfl rfl rfl rfl (by rfl) hS ?_
 intro W1 b2 az
 refine ye rfl rfl rfl rfl rfl rfl (eN (zK (ZQ ZK [3,1,1,2,3,1,3,1,2,3] (wEz (fC4_7 (.fx 3 (.fx 8 (.fl 9 .nil) .stop) .stop))) (by kernel_rfl) ?_)))
 have ac:=az.drew
 generalize hw_W6:({ W1 with drawn:=W1.drawn + 1 }:World)=W6 at ac ⊢
 refine oR Z (zC Z Z Tryz.runUnderlying340 Z Tryz.sizeOf338) (oL Z (ac.ldB (j:=0) Z Z Z Tryz.isAgg338 (v:=ag) Z) (oL Z (ac.ldCA (f:=0) aN Z Z Tryz.isAgg86 yS (us:=[.slice ae p1.Classes.length af,jV p1.Each,jV p1.Laps,jV p1.Spare,jV p1.Loop,jV p1.Unused]) Z Z) (oR Z (zC Z Z Tryz.runUnderlying340 Z zD) (oL Z (ac.ldB (j:=0) Z Z Z zN (v:=jV p0.lo) Z) (oR Z (zC Z Z Tryz.runUnderlying340 Z zD) (oL Z (ac.ldB (j:=0) Z Z Z zN (v:=jV p0.hi) Z) (bnK hm fun x7 h8 aQ=>yU (a:=p1) Z Z Z Z Z Z (zA Z zM) ac aM ⟨ae,af,Z,aO⟩ h8 ?_)))))))
 rintro ai aS aX am aV av ⟨rfl,rfl⟩
 have aw:sW w U ai [.blk b2 340 B0] am:=av
 refine bnK aQ fun aZ aq aP=>zI 0 Z Z Z Z (zJ Z Z YA (zA Z (zA Z (zA Z zM))) Z) aw (fun hs=>wDh x7 p0.lo p0.hi am ai hs aq) (.inr Z) ?_
 rintro aj aT aY ap aW ax ⟨rfl,rfl⟩
 have ay:sW w U aj [.blk b2 340 B0] ap:=ax
 refine oA Z Z (eN (zP ?_))
 have hE:=hM aP;first | subst r | cases hE
 exact ⟨rfl,_,(zj rfl),aj,_,(ay.pick [] _ (by decide) rfl),rfl,rfl⟩
theorem wEx (p0:wAQ) (ab:Value) (p1:(wAQ->Option Bool)) (ai:Nat) (af:Value) (w:World) (U:PHeap) (hS:St0 w U []) (ap:FnOK Tryz.prog U ab wJC wJD p0.of) (aq:Cl U ai 0 [af]) (au:FnOK Tryz.prog U af wLb wLc p1) {r:Bool} (hm:wBK p0 p1=some r):Gv Tryz.prog 281 [.agg #[ab,jV p0.lo,jV p0.hi],.pointer (some ⟨ai,0,none⟩)] w (wBj w [] U (fun U_ L_ v=>v=.bool r/\L_=[])):=by
 unfold wBK at hm
 refine Gv.of Tryz.func281 Z Tryz.ntmps281 Tryz.results281 Z (sR gAg Z ?_)
 let B0:List Value:=[ab,jV p0.lo,jV p0.hi]
 refine ZB (cs:=B0) rfl rfl rfl rfl rfl rfl (by rfl) hS ?_
 intro W1 b2 ae
 refine oA Z Z (eN (sR gAu Z (oL Z (ae.ldC (f:=0) aq (v:=af) Z Z Tryz.isAgg343 Z) (oL Z (ae.ldBA (j:=0) Z Z Z Tryz.isAgg340 Tryz.sizeOf340 (vs:=B0) Z Z) (bnK hm fun x5 h6 av=>yU (a:=p0) Z Z Z Z Z Z (zA Z zM) ae au ⟨ab,Z,ap⟩ h6 ?_)))))
 rintro U8 L9 az aj ay an ⟨rfl,rfl⟩
 have ao:sW w U U8 [.blk b2 340 B0] aj:=an
 refine oR Z (ZR Z Z) (oA Z Z (eN (zP ?_)))
 cases av
 exact ⟨rfl,_,(zj rfl),U8,_,(ao.pick [] _ (by decide) rfl),rfl,rfl⟩
theorem wDd (p0:List wAQ) (an:Option Addr) (ao:Nat) (p1:(wAQ->Option Bool)) (ap:Value) (w:World) (U:PHeap) (hS:St0 w U []) (bi:SlR U wIA an ao p0) (bj:FnOK Tryz.prog U ap wLb wLc p1) {r:Int} (hm:wAv p0 p1=some r):Gv Tryz.prog 327 [.slice an p0.length ao,ap] w (wBj w [] U (fun U_ L_ v=>v=jV r/\L_=[])):=by
 unfold wAv at hm
 refine Gv.of Tryz.func327 Z Tryz.ntmps327 Tryz.results327 Z (sR fL1 Z (oA Z Z (eN (zK (sR fL3 Z (oM Z Z (oR Z (ze Z Z Tryz.runUnderlying341) (oM Z Z (eN (zU ?_))))))))))
 have q:=wDA hm
 obtain ⟨r3,ai⟩:=q
 have q:=wCz ai
 obtain ⟨ak,bn⟩:=q
 replace ak:=zG ak
 refine ya (fun k2 _ J_ w_=>∃ (U_:PHeap),J_ 8=jV (↑k2:Int)/\J_ 0=.slice an p0.length ao/\J_ 1=ap/\J_ 7=jV (↑p0.length:Int)/\PHeap.Le U U_/\sW w U U_ [] w_) bn ?_ ?_ ?_
 exact ⟨U,Z,Z,Z,Z,(zQ _),hS⟩
 rintro k2 ⟨⟩ bO J7 W8 aj ⟨aQ,ag,av,aw,ax,am,az⟩ aO bk
 try dsimp only at aO
 have au:Hid ((↑k2:Int) < (↑p0.length:Int)):=zG (wBR aj)
 replace aj:=zG aj
 have bp:Hid (w64 ((↑k2:Int) + 1)=(↑(k2 + 1):Int)):=zG (by have h1:=ak.out;have h2:=au.out;rw [wAa] <;> omega)
 refine sR fL1 Z (oR Z (zR Z ag ax) (eN (zK (cT Z au (kN (zK (zU (sR fL2 Z (oM Z ag (oA Z Z (eN (sR (wEA (.fx 5 .nil .stop)) Z (oM Z aw (oM Z av (oM Z Z (bnK aO fun ac ay bq=>?_))))))))))))))))
 have aY:=bi.le am
 have q:=aY.el (wAk ay)
 obtain ⟨aT,bA,bM,be,ah,bx⟩:=q
 obtain ⟨aq,rfl,aZ⟩:=bx
 replace ah:Cl aQ aT (bA + k2 * 3) [aq,jV ac.lo,jV ac.hi]:=ah
 refine oR Z (ZD Z Z be Z Tryz.runUnderlying341 Tryz.sizeOf340 (wBi ay)) (oL Z (az.ldCA (f:=0) ah Z Z Tryz.isAgg340 Tryz.sizeOf340 (us:=[aq,jV ac.lo,jV ac.hi]) Z Z) (bnK bq fun bN ba br=>?_))
 have bb:=bj.le am
 refine yU (a:=ac) Z Z Z Z Z Z (zA Z zM) az bb ⟨aq,Z,aZ⟩ ba ?_
 rintro ae bE bL aS bz bg ⟨rfl,rfl⟩
 have aM:sW w U ae [] aS:=bg
 refine eN (ifc br ?_ ?_)
 intro af bs
 refine zx (congrArg nA af.out) (sR fL2 Z (oM Z Z (oA Z Z (eN (zP (zm (zZ ?_)))))))
 have q:=wAq bs
 obtain ⟨bB,bu,aV⟩:=q
 have q:=wDj hm ai (bk bB aV)
 obtain rfl:=q
 refine zZ (zm (zZ ?_))
 cases bu
 exact ⟨Z,_,(zj Z),ae,_,aM,Z,Z⟩
 intro af bw
 refine zg (congrArg nA (nB.2 af.out)) (ZE (za (zF (rR fL2 Z (oR Z (zr (zX Z ag Z) (congrArg (jV) bp.out)) (oM Z Z (zb ?_)))))))
 have q:=hM bw
 obtain rfl:=q
 exact zF ⟨Z,_,Z,⟨ae,Z,av,aw,ax,(am.trans bz),aM⟩⟩
 rintro ⟨⟩ bC bF ⟨aR,aX,bH,bI,aW,bJ,bh⟩ bm
 have aN:=wEC hm ai bm
 try dsimp only at aN
 have aU:Hid (¬ ((↑(((↑p0.length:Int):Int) - 0).toNat:Int) < (↑p0.length:Int))):=zG (wAr)
 refine sR fL1 Z (oR Z (zR Z aX aW) (eN (zK (cF Z aU (ZG (zc (zc (zz (zF (sR fL1 Z (oA Z Z (eN (zP ?_)))))))))))))
 cases aN
 exact ⟨Z,_,(zj Z),aR,_,bh,Z,Z⟩
theorem wDQ (p0:List wAQ) (ac:Option Addr) (ae:Nat) (p1:(wAQ->Option Bool)) (af:Value) (w:World) (U:PHeap) (hS:St0 w U []) (an:SlR U wIA ac ae p0) (ao:FnOK Tryz.prog U af wLb wLc p1) {r:Bool} (hm:wAn p0 p1=some r):Gv Tryz.prog 280 [.slice ac p0.length ae,af] w (wBj w [] U (fun U_ L_ v=>v=.bool r/\L_=[])):=by
 unfold wAn at hm
 refine Gv.of Tryz.func280 Z Tryz.ntmps280 Tryz.results280 Z (sR fL1 Z (oA Z Z (eN (sR gAu Z (oM Z Z (oM Z Z (bnK hm fun x1 h2 ah=>zI 0 Z Z Z Z (zJ Z Z Tryz.call327 (zA Z (zA Z zM)) Z) hS (fun hs=>wDd p0 ac ae p1 af w U hs an ao h2) (.inr Z) ?_)))))))
 rintro U4 L5 v6 W7 aq am ⟨rfl,rfl⟩
 have ak:sW w U U4 [] W7:=am
 refine oR Z (yz Z Z Z) (oA Z Z (eN (zP ?_)))
 first | (obtain rfl:=hM ah) | cases ah
 exact ⟨Z,_,(zj Z),U4,_,ak,Z,Z⟩
theorem wFP (p0:List wAQ) (ah:Option Addr) (ai:Nat) (p1:(wAQ->Option Bool)) (ae:Value) (w:World) (U:PHeap) (hS:St0 w U []) (aO:SlR U wIA ah ai p0) (am:FnOK Tryz.prog U ae wLb wLc p1) {r:Bool} (hm:wBr p0 p1=some r):Gv Tryz.prog 225 [.slice ah p0.length ai,ae] w (wBj w [] U (fun U_ L_ v=>v=.bool r/\L_=[])):=by
 unfold wBr at hm
 refine Gv.of Tryz.func225 Z Tryz.ntmps225 Tryz.results225 Z (sR gAg Z (ZB (cs:=[ae]) Z Z Z Z Z Z (FnOK.cells am) hS ?_))
 intro W1 b2 az
 have q:=az.freeze (k:=0) rfl
 obtain ⟨U5,an,ab,aM⟩:=q
 replace ab:=Cl.of ab
 have aN:sW w U U5 [] W1:=aM
 replace ab:Cl U5 b2 0 [ae]:=ab
 refine oA Z Z (eN (sR gAu Z (oM Z Z (oR Z (yW Z zM (zA Z zM)) ?_))))
 have aq:=aO.le an
 have au:=am.le an
 have aw:FnOK Tryz.prog U5 (.func (.func 281) #[] #[.pointer (some ⟨b2,0,none⟩)]) wLb wLc (fun x=>wBK x p1):=⟨281,[],[.pointer (some ⟨b2,0,none⟩)],rfl,Tryz.call281,fun U1 w1 x y vs le hs ha hm=>by obtain ⟨pv_0_0,rfl,hq0_0⟩:=ha;exact wEx x pv_0_0 p1 b2 ae w1 U1 hs hq0_0 (ab.le le) (au.le le) hm⟩
 refine bnK hm fun aU av aP=>zI 0 Z Z Z Z (zJ Z Z Tryz.call280 (zA Z (zA Z zM)) Z) aN (fun hs=>wDQ p0 ah ai (fun x=>wBK x p1) (.func (.func 281) #[] #[.pointer (some ⟨b2,0,none⟩)]) W1 U5 hs aq aw av) (.inr Z) ?_
 rintro aj aR aT ap aS ax ⟨rfl,rfl⟩
 have ay:sW w U aj [] ap:=ax
 refine oR Z (ZR Z Z) (oA Z Z (eN (zP ?_)))
 cases aP
 exact ⟨Z,_,(zj Z),aj,_,ay,Z,Z⟩
theorem wGu (p0:wAL) (ac:Option Addr) (ae:Nat) (w:World) (U:PHeap) (hS:St0 w U []) (bD:Sl U 1 ac ae p0.Classes.length (hD KL.encI p0.Classes)) {r:Int} (hm:wCu p0=some r):Gv Tryz.prog 164 [.agg #[.slice ac p0.Classes.length ae,jV p0.Each,jV p0.Laps,jV p0.Spare,jV p0.Loop,jV p0.Unused]] w (wBj w [] U (fun U_ L_ v=>v=jV r/\L_=[])):=by
 unfold wCu at hm
 refine Gv.of Tryz.func164 Z Tryz.ntmps164 Tryz.results164 Z (sR gAg Z ?_)
 let B0:List Value:=[.slice ac p0.Classes.length ae,jV p0.Each,jV p0.Laps,jV p0.Spare,jV p0.Loop,jV p0.Unused]
 refine ZB (cs:=B0) rfl rfl rfl rfl rfl rfl (by rfl) hS ?_
 intro W1 b2 bs
 have q:=bs.freeze (k:=0) rfl
 obtain ⟨U5,bP,af,bC⟩:=q
 replace af:=Cl.of af
 have aQ:sW w U U5 [] W1:=bC
 replace af:Cl U5 b2 0 B0:=af
 refine oA Z Z (eN (zK (zU (sR (wEz (.fx 3 gAc .stop)) Z (oR Z (zC Z Z ZW Z zk) (oL Z (aQ.ldC (f:=0) af (v:=.slice ac p0.Classes.length ae) Z Z zu Z) (oR Z (ze Z Z zH) (bnK hm fun cc aZ bE=>zI 0 Z Z Z Z (zJ Z Z YA (zA Z (zA Z (zA Z zM))) Z) aQ (fun hs=>wDh (↑p0.Classes.length:Int) 1 4 W1 U5 hs aZ) (.inr Z) ?_))))))))
 rintro ah bS bX ax aR br ⟨rfl,rfl⟩
 have aq:sW w U ah [] ax:=br
 refine oR Z (ZR Z Z) (oA Z Z (eN (ifc bE ?_ ?_)))
 intro ao bF
 refine zg (nC ao.out) (sR (.fl 0 (.fl 1 (.fx 2 (.fl 3 (.fl 4 (.fx 5 (.fl 6 (.fx 7 (wNH (.nil)) .stop)) .stop))) .stop))) Z (oR Z (zC Z Z ZW Z zk) ?_))
 have aM:=af.le aR
 refine oL Z (aq.ldC (f:=0) aM (v:=.slice ac p0.Classes.length ae) Z Z zu Z) ?_
 have ba:=bD.le bP
 have aN:=ba.le aR
 refine bnK bF fun cd bb bG=>zI 0 Z Z Z Z (zJ Z Z Tryz.call168 (zA Z zM) Z) aq (fun hs=>wGB p0.Classes ac ae ax ah hs aN bb) (.inr Z) ?_
 rintro ai bT bY ay aS bu ⟨rfl,rfl⟩
 have aO:sW w U ai [] ay:=bu
 refine oR Z (ZR Z Z) (oM Z Z (ifc bG ?_ ?_))
 intro ab bH
 refine bnK bH fun bR be bI=>zI 0 Z Z Z (zL Z Z (nC ab.out)) (zJ Z Z Tryz.call226 zM Z) aO (fun hs=>wIh ay ai hs be) (.inr Z) ?_
 rintro aW bU bZ an aT bw ⟨au,az,aY,rfl,rfl,bg⟩
 have bx:sW w U aW [.row au az 340 3 aY] an:=bw
 refine zT Z Z Z (zL Z Z (nC ab.out)) (fun _=>yW Z zM (zA Z zM)) ?_
 have q:=bx.freezeRR (R:=wIA) (k:=0) rfl bg rfl (by decide)
 obtain ⟨ak,aU,bO,bz⟩:=q
 have bA:sW w U ak [] an:=bz
 have bh:=aM.le aS
 have bi:=bh.le aT
 have bj:=bi.le aU
 have bk:=aN.le aS
 have bm:=bk.le aT
 have bn:=bm.le aU
 have bq:FnOK Tryz.prog ak (.func (.func 227) #[] #[.pointer (some ⟨b2,0,none⟩)]) wLb wLc (fun x=>wBx x p0):=⟨227,[],[.pointer (some ⟨b2,0,none⟩)],rfl,Tryz.call227,fun U1 w1 x y vs le hs ha hm=>by obtain ⟨pv_0_0,rfl,hq0_0⟩:=ha;exact wGS x pv_0_0 p0 b2 ac ae w1 U1 hs hq0_0 (bj.le le) (bn.le le) hm⟩
 refine bnK bI fun cg bp bJ=>zI 0 Z Z Z (zL Z Z (nC ab.out)) (zJ Z Z Tryz.call225 (zA Z (zA Z zM)) Z) bA (fun hs=>wFP bR au az (fun x=>wBx x p0) (.func (.func 227) #[] #[.pointer (some ⟨b2,0,none⟩)]) an ak hs bO bq bp) (.inr Z) ?_
 rintro am bV ca aX bW bB ⟨rfl,rfl⟩
 have aP:sW w U am [] aX:=bB
 refine zT Z Z Z (zL Z Z (nC ab.out)) (fun _=>ZR Z Z) (oR Z (zS Z (nC ab.out) Z) (oA Z Z (eN (ifc bJ ?_ ?_))))
 intro ap bK
 refine zg (nC ap.out) (ZE (za (zF (sR fL1 Z (oA Z Z (eN (zP ?_)))))))
 cases bK
 exact ⟨Z,_,(zj Z),am,_,aP,Z,Z⟩
 intro ap bL
 refine zx (nF (ap.out)) (sR fL1 Z (oA Z Z (eN (zP (zm (zZ ?_))))))
 cases bL
 exact ⟨Z,_,(zj Z),am,_,aP,Z,Z⟩
 intro ab bM
 refine Zl Z Z Z (zY Z Z (nF (ab.out)) Z) (zW Z Z Z (zY Z Z (nF (ab.out)) Z) (Zl Z Z Z (zY Z Z (nF (ab.out)) Z) (zW Z Z Z (zY Z Z (nF (ab.out)) Z) (oR Z (zV Z (nF (ab.out)) Z) (oA Z Z (eN (zx Z (sR fL1 Z (oA Z Z (eN (zP (zm (zZ ?_)))))))))))))
 cases bM
 exact ⟨Z,_,(zj Z),ai,_,aO,Z,Z⟩
 intro ao bN
 refine zx (nF (ao.out)) (sR fL1 Z (oA Z Z (eN (zP (zm (zZ ?_))))))
 cases bN
 exact ⟨Z,_,(zj Z),ah,_,aq,Z,Z⟩
theorem wGc (p0:wAL) (aS:Option Addr) (aU:Nat) (p1:wAJ) (aT:Option Addr) (aV:Nat) (ak:Option Addr) (an:Nat) (w:World) (U:PHeap) (hS:St0 w U []) (cS:Sl U 1 aS aU p0.Classes.length (hD KL.encI p0.Classes)) (cU:Sl U 1 aT aV p1.Classes.length (hD KL.encI p1.Classes)) (bS:SlR U wLd ak an p1.Legs) {r:Bool} (hm:wBn p0 p1=some r):Gv Tryz.prog 166 [.agg #[.slice aS p0.Classes.length aU,jV p0.Each,jV p0.Laps,jV p0.Spare,jV p0.Loop,jV p0.Unused],.agg #[jV p1.Bib,.slice aT p1.Classes.length aV,.slice ak p1.Legs.length an]] w (wBj w [] U (fun U_ L_ v=>v=.bool r/\L_=[])):=by
 unfold wBn at hm
 refine Gv.of Tryz.func166 Z Tryz.ntmps166 Tryz.results166 Z (sR (.fx 0 gAh .stop) Z ?_)
 let B0:List Value:=[.slice aS p0.Classes.length aU,jV p0.Each,jV p0.Laps,jV p0.Spare,jV p0.Loop,jV p0.Unused]
 refine ZB (cs:=B0) rfl rfl rfl rfl rfl rfl (by rfl) hS ?_
 intro W1 b2 bP
 let B1:List Value:=[jV p1.Bib,.slice aT p1.Classes.length aV,.slice ak p1.Legs.length an]
 refine ZB (cs:=B1) rfl rfl rfl rfl rfl rfl (by rfl) bP ?_
 intro W5 b6 bp
 refine oA Z Z (eN (zK (sR (wEz (.fx 3 (wQD (.nil)) .stop)) Z (oR Z (zC Z Z ZX Z zk) (oL Z (bp.ldB (j:=0) Z Z Z zu (v:=.slice aT p1.Classes.length aV) Z) (oR Z (ze Z Z zH) (bnK hm fun x9 bJ bV=>zI 0 Z Z Z Z (zJ Z Z YA (zA Z (zA Z (zA Z zM))) Z) bp (fun hs=>wDh (↑p1.Classes.length:Int) 1 8 W5 U hs bJ) (.inr Z) ?_)))))))
 rintro aw cI cX bw cz bO ⟨rfl,rfl⟩
 have ap:sW w U aw [.blk b6 101 B1,.blk b2 86 B0] bw:=bO
 refine oR Z (ZR Z Z) (oM Z Z (ifc bV ?_ ?_))
 intro af bX
 refine zT Z Z Z (zL Z Z (nC af.out)) (fun _=>zC Z Z ZX Z Tryz.sizeOf99) (zn Z Z Z (zL Z Z (nC af.out)) (ap.ldB (j:=0) Z Z Z Tryz.isAgg99 (v:=.slice ak p1.Legs.length an) Z) Z (zT Z Z Z (zL Z Z (nC af.out)) (fun _=>ze Z Z Zu) (zT Z Z Z (zL Z Z (nC af.out)) (fun _=>zC Z Z ZW Z zk) (zn Z Z Z (zL Z Z (nC af.out)) (ap.ldB (j:=1) Z Z Z zu (v:=.slice aS p0.Classes.length aU) Z) Z (zT Z Z Z (zL Z Z (nC af.out)) (fun _=>ze Z Z zH) (zT Z Z Z (zL Z Z (nC af.out)) (fun _=>yP Z Z Z) (oR Z (zS Z (nC af.out) Z) (eN (ifc bX ?_ ?_)))))))))
 intro aW bY
 refine cT Z aW (sR fL1 Z (oA Z Z (eN (zP (zZ ?_)))))
 have hE:=hM bY;first | subst r | cases hE
 exact ⟨rfl,_,(zj rfl),aw,_,(ap.pick [] _ (by decide) rfl),rfl,rfl⟩
 intro aW au
 refine cF Z aW (kN (zK (sR fL4 Z (oR Z (zC Z Z ZX Z Tryz.sizeOf99) (oL Z (ap.ldB (j:=0) Z Z Z Tryz.isAgg99 (v:=.slice ak p1.Legs.length an) Z) (oR Z (ze Z Z Zu) (oM Z Z (eN (zU ?_)))))))))
 have q:=wDA au
 obtain ⟨cW,aq⟩:=q
 have q:=wCz aq
 obtain ⟨bh,bU⟩:=q
 replace bh:=zG bh
 refine ya (fun av _ J_ w_=>∃ (U_:PHeap),J_ 24=jV (↑av:Int)/\J_ 2=.pointer (some ⟨b2,0,none⟩)/\J_ 3=.pointer (some ⟨b6,0,none⟩)/\J_ 22=.slice ak p1.Legs.length an/\J_ 23=jV (↑p1.Legs.length:Int)/\PHeap.Le aw U_/\sW w U U_ [.blk b6 101 B1,.blk b2 86 B0] w_) bU ?_ ?_ ?_
 exact ⟨aw,Z,Z,Z,Z,Z,(zQ _),ap⟩
 rintro av ⟨⟩ c7 cG cK bg ⟨aj,ax,aQ,aZ,ba,bb,bi,bn⟩ bs aR
 try dsimp only at bs
 have bk:Hid ((↑av:Int) < (↑p1.Legs.length:Int)):=zG (wBR bg)
 replace bg:=zG bg
 have bq:Hid (w64 ((↑av:Int) + 1)=(↑(av + 1):Int)):=zG (by have h1:=bh.out;have h2:=bk.out;rw [wAa] <;> omega)
 refine sR fL1 Z (oR Z (zR Z ax bb) (eN (zK (cT Z bk (kN (zK (zU (sR (wEz gAp) Z (oM Z ax (bnK bs fun ai bm bZ=>?_))))))))))
 have bK:=bS.le cz
 have bL:=bK.le bi
 have q:=bL.el (wAk bm)
 obtain ⟨bA,cA,cY,bM,be,cy⟩:=q
 obtain ⟨am,ao,ay,az,rfl,cQ,cR⟩:=cy
 replace be:Cl aj bA (cA + av * 3) [jV ai.Skier,.slice am ai.Loops.length ao,.slice ay ai.Bouts.length az]:=be
 refine oR Z (ZD Z ba bM ax Zu Zh (wBi bm)) (oL Z (bn.ldCA (f:=0) be Z Z Tryz.isAgg98 Zh (us:=[jV ai.Skier,.slice am ai.Loops.length ao,.slice ay ai.Bouts.length az]) Z Z) (zy (cs:=[jV 0,.slice none 0 0,.slice none 0 0]) Z Z Z Z Z yK Z bn ?_))
 intro cL bB bQ
 refine oA Z Z ?_
 let B2:List Value:=[jV ai.Skier,.slice am ai.Loops.length ao,.slice ay ai.Bouts.length az]
 refine ZA (j:=0) (vs:=B2) Z Z Z Z bQ Z Z Z Z Zh (zB Z) Z Z Z ?_
 intro bz bR
 have ah:sW w U aj [.blk bB 98 B2,.blk b6 101 B1,.blk b2 86 B0] bz:=bR
 refine eN (sR fL33 Z (oR Z (zC Z Z Zd Z zk) (oL Z (ah.ldB (j:=0) Z Z Z zu (v:=.slice am ai.Loops.length ao) Z) (oR Z (ze Z Z zH) (oR Z (zC Z aQ ZW Z zD) (oL Z (ah.ldB (j:=2) Z Z Z zN (v:=jV p0.Laps) Z) (oR Z (yP Z Z Z) (oM Z Z (ifc bZ ?_ ?_)))))))))
 intro aa ca
 refine oT Z aa (oT Z aa (oT Z aa (oT Z aa (oT Z aa (oT Z aa (oT Z aa (zW Z Z Z (wAP Z Z Z) (zW Z Z Z (wAP Z Z Z) (zW Z Z Z (wAP Z Z Z) (zW Z Z Z (wAP Z Z Z) (zW Z Z Z (wAP Z Z Z) (zW Z Z Z (wAP Z Z Z) (oT Z aa (oR Z (zV Z (ZO aa.out) Z) (oM Z Z (oN Z (oN Z (oN Z (oN Z (oN Z (oN Z (oN Z (oN Z (oN Z (oR Z (zV Z Z Z) (eN (zx Z (sR fL1 Z (oA Z Z (eN (zP (zm (zZ ?_)))))))))))))))))))))))))))))))))
 have q:=wAq ca
 obtain ⟨cB,cc,bD⟩:=q
 have q:=wDj au aq (aR cB bD)
 obtain rfl:=q
 refine zZ (zm (zZ ?_))
 have hE:=hM cc;first | subst r | cases hE
 exact ⟨rfl,_,(zj rfl),aj,_,(ah.pick [] _ (by decide) rfl),rfl,rfl⟩
 intro aa cd
 refine zO Z Z Z (wF Z aa) Z Z (rU Z (wF Z aa) (zC Z aZ ZX Z Tryz.sizeOf99) (zn Z Z Z (wF Z aa) (ah.ldB (j:=1) Z Z Z Tryz.isAgg99 (v:=.slice ak p1.Legs.length an) Z) Z (rU Z (wF Z aa) (ze Z Z Zu) (rU Z (wF Z aa) (ZN Z Z Z) (rU Z (wF Z aa) (zR Z Z Z) (zO Z Z Z (wF Z aa) Z Z (ifc cd ?_ ?_)))))))
 intro ag cg
 refine rU Z (wT Z ag) (zC Z Z Zd Z zk) (zn Z Z Z (wT Z ag) (ah.ldB (j:=0) Z Z Z zu (v:=.slice am ai.Loops.length ao) Z) Z (rU Z (wT Z ag) (ze Z Z zH) (rU Z (wT Z ag) (zC Z aQ ZW Z zD) (zn Z Z Z (wT Z ag) (ah.ldB (j:=2) Z Z Z zN (v:=jV p0.Laps) Z) Z (rU Z (wT Z ag) (zR Z Z Z) (rU Z (wF Z aa) (zV Z (ZO ag.out) Z) (oR Z (zS Z (zo aa.out) Z) (oM Z Z (ifc cg ?_ ?_)))))))))
 intro ab ch
 refine oT Z ab (oT Z ab (oT Z ab (oT Z ab (oT Z ab (oT Z ab (oT Z ab (oT Z ab (oT Z ab (oR Z (zV Z (ZO ab.out) Z) (eN (zx Z (sR fL1 Z (oA Z Z (eN (zP (zm (zZ ?_)))))))))))))))))
 have q:=wAq ch
 obtain ⟨cC,ci,bE⟩:=q
 have q:=wDj au aq (aR cC bE)
 obtain rfl:=q
 refine zZ (zm (zZ ?_))
 have hE:=hM ci;first | subst r | cases hE
 exact ⟨rfl,_,(zj rfl),aj,_,(ah.pick [] _ (by decide) rfl),rfl,rfl⟩
 intro ab cj
 refine rU Z (wF Z ab) (zC Z Z Zd Z Tryz.sizeOf96) (zn Z Z Z (wF Z ab) (ah.ldB (j:=0) Z Z Z Tryz.isAgg96 (v:=.slice ay ai.Bouts.length az) Z) Z (rU Z (wF Z ab) (ze Z Z yX) (rU Z (wF Z ab) (zC Z Z Zd Z zk) (zn Z Z Z (wF Z ab) (ah.ldB (j:=0) Z Z Z zu (v:=.slice am ai.Loops.length ao) Z) Z (rU Z (wF Z ab) (ze Z Z zH) (rU Z (wF Z ab) (ZN Z Z Z) (rU Z (wF Z ab) (Runs.max Z Z Z) (rU Z (wF Z ab) (Ze Z Z Z) (oR Z (zS Z (zo ab.out) Z) (eN (ifc cj ?_ ?_)))))))))))
 intro aX cm
 refine zg (zo (fun h=>h aX.out)) (ZE (za (zF (rR fL2 Z (oR Z (zr (zX Z ax Z) (congrArg (jV) bq.out)) (oM Z Z (zb ?_)))))))
 have q:=hM cm
 obtain rfl:=q
 exact zF ⟨rfl,_,rfl,⟨aj,rfl,aQ,aZ,ba,bb,bi,(ah.pick [1,2] _ (by decide) rfl)⟩⟩
 intro aX co
 refine cT Z aX (sR fL1 Z (oA Z Z (eN (zP (zm (zZ ?_))))))
 have q:=wAq co
 obtain ⟨cD,cp,bF⟩:=q
 have q:=wDj au aq (aR cD bF)
 obtain rfl:=q
 refine zZ (zm (zZ ?_))
 have hE:=hM cp;first | subst r | cases hE
 exact ⟨rfl,_,(zj rfl),aj,_,(ah.pick [] _ (by decide) rfl),rfl,rfl⟩
 intro ag cr
 refine oF Z ag (oF Z ag (oF Z ag (oF Z ag (oF Z ag (oF Z ag (rU Z (wF Z aa) (zS Z (zo ag.out) Z) (oR Z (zS Z (zo aa.out) Z) (oM Z Z (zT Z Z Z (zL Z Z Z) (fun _=>zC Z Z Zd Z Tryz.sizeOf96) (zn Z Z Z (zL Z Z Z) (ah.ldB (j:=0) Z Z Z Tryz.isAgg96 (v:=.slice ay ai.Bouts.length az) Z) Z (zT Z Z Z (zL Z Z Z) (fun _=>ze Z Z yX) (zT Z Z Z (zL Z Z Z) (fun _=>zC Z Z Zd Z zk) (zn Z Z Z (zL Z Z Z) (ah.ldB (j:=0) Z Z Z zu (v:=.slice am ai.Loops.length ao) Z) Z (zT Z Z Z (zL Z Z Z) (fun _=>ze Z Z zH) (zT Z Z Z (zL Z Z Z) (fun _=>ZN Z Z Z) (zT Z Z Z (zL Z Z Z) (fun _=>Runs.max Z Z Z) (zT Z Z Z (zL Z Z Z) (fun _=>Ze Z Z Z) (oR Z (zS Z Z Z) (eN (ifc cr ?_ ?_))))))))))))))))))))
 intro aY ct
 refine zg (zo (fun h=>h aY.out)) (ZE (za (zF (rR fL2 Z (oR Z (zr (zX Z ax Z) (congrArg (jV) bq.out)) (oM Z Z (zb ?_)))))))
 have q:=hM ct
 obtain rfl:=q
 exact zF ⟨rfl,_,rfl,⟨aj,rfl,aQ,aZ,ba,bb,bi,(ah.pick [1,2] _ (by decide) rfl)⟩⟩
 intro aY cw
 refine cT Z aY (sR fL1 Z (oA Z Z (eN (zP (zm (zZ ?_))))))
 have q:=wAq cw
 obtain ⟨cE,cx,bG⟩:=q
 have q:=wDj au aq (aR cE bG)
 obtain rfl:=q
 refine zZ (zm (zZ ?_))
 have hE:=hM cx;first | subst r | cases hE
 exact ⟨rfl,_,(zj rfl),aj,_,(ah.pick [] _ (by decide) rfl),rfl,rfl⟩
 rintro ⟨⟩ cH cM ⟨bu,bI,cN,cO,cP,bH,cV,bN⟩ bT
 have br:=wEC au aq bT
 try dsimp only at br
 have bC:Hid (¬ ((↑(((↑p1.Legs.length:Int):Int) - 0).toNat:Int) < (↑p1.Legs.length:Int))):=zG (wAr)
 refine sR fL1 Z (oR Z (zR Z bI bH) (eN (zK (cF Z bC (ZG (zc (zc (zz (zF (sR fL1 Z (oA Z Z (eN (zP ?_)))))))))))))
 have hE:=hM br;first | subst r | cases hE
 exact ⟨rfl,_,(zj rfl),bu,_,(bN.pick [] _ (by decide) rfl),rfl,rfl⟩
 intro af bW
 refine zW Z Z Z (zY Z Z (nF (af.out)) Z) (zW Z Z Z (zY Z Z (nF (af.out)) Z) (zW Z Z Z (zY Z Z (nF (af.out)) Z) (zW Z Z Z (zY Z Z (nF (af.out)) Z) (zW Z Z Z (zY Z Z (nF (af.out)) Z) (zW Z Z Z (zY Z Z (nF (af.out)) Z) (zW Z Z Z (zY Z Z (nF (af.out)) Z) (oR Z (zV Z (nF (af.out)) Z) (eN (zx Z (sR fL1 Z (oA Z Z (eN (zP (zZ ?_))))))))))))))
 have hE:=hM bW;first | subst r | cases hE
 exact ⟨rfl,_,(zj rfl),aw,_,(ap.pick [] _ (by decide) rfl),rfl,rfl⟩
theorem wFL (p0:wAJ) (ab:Option Addr) (ae:Nat) (ac:Option Addr) (af:Nat) (p1:(wAJ->Option Bool)) (am:Nat) (ai:Value) (w:World) (U:PHeap) (hS:St0 w U []) (av:Sl U 1 ab ae p0.Classes.length (hD KL.encI p0.Classes)) (aw:SlR U wLd ac af p0.Legs) (ax:Cl U am 0 [ai]) (ay:FnOK Tryz.prog U ai wKW wKX p1) {r:Bool} (hm:wBO p0 p1=some r):Gv Tryz.prog 229 [.agg #[jV p0.Bib,.slice ab p0.Classes.length ae,.slice ac p0.Legs.length af],.pointer (some ⟨am,0,none⟩)] w (wBj w [] U (fun U_ L_ v=>v=.bool r/\L_=[])):=by
 unfold wBO at hm
 refine Gv.of Tryz.func229 Z Tryz.ntmps229 Tryz.results229 Z (sR gAg Z ?_)
 let B0:List Value:=[jV p0.Bib,.slice ab p0.Classes.length ae,.slice ac p0.Legs.length af]
 refine ZB (cs:=B0) rfl rfl rfl rfl rfl rfl (by rfl) hS ?_
 intro W1 b2 ah
 refine oA Z Z (eN (sR gAu Z (oL Z (ah.ldC (f:=0) ax (v:=ai) Z Z Tryz.isAgg296 Z) (oL Z (ah.ldBA (j:=0) Z Z Z yy Zc (vs:=B0) Z Z) (bnK hm fun x5 h6 az=>yU (a:=p0) Z Z Z Z Z Z (zA Z zM) ah ay ⟨ab,ae,ac,af,Z,av,aw⟩ h6 ?_)))))
 rintro U8 L9 aP an aO aq ⟨rfl,rfl⟩
 have au:sW w U U8 [.blk b2 101 B0] an:=aq
 refine oR Z (ZR Z Z) (oA Z Z (eN (zP ?_)))
 cases az
 exact ⟨rfl,_,(zj rfl),U8,_,(au.pick [] _ (by decide) rfl),rfl,rfl⟩
theorem wDo (p0:List wAJ) (an:Option Addr) (aq:Nat) (p1:(wAJ->Option Bool)) (aw:Value) (w:World) (U:PHeap) (hS:St0 w U []) (bn:SlR U wFJ an aq p0) (bp:FnOK Tryz.prog U aw wKW wKX p1) {r:Int} (hm:wAz p0 p1=some r):Gv Tryz.prog 287 [.slice an p0.length aq,aw] w (wBj w [] U (fun U_ L_ v=>v=jV r/\L_=[])):=by
 unfold wAz at hm
 refine Gv.of Tryz.func287 Z Tryz.ntmps287 Tryz.results287 Z (sR fL1 Z (oA Z Z (eN (zK (sR fL3 Z (oM Z Z (oR Z (ze Z Z ZS) (oM Z Z (eN (zU ?_))))))))))
 have q:=wDA hm
 obtain ⟨r3,ai⟩:=q
 have q:=wCz ai
 obtain ⟨ak,bs⟩:=q
 replace ak:=zG ak
 refine ya (fun k2 _ J_ w_=>∃ (U_:PHeap),J_ 8=jV (↑k2:Int)/\J_ 0=.slice an p0.length aq/\J_ 1=aw/\J_ 7=jV (↑p0.length:Int)/\PHeap.Le U U_/\sW w U U_ [] w_) bs ?_ ?_ ?_
 exact ⟨U,Z,Z,Z,Z,(zQ _),hS⟩
 rintro k2 ⟨⟩ bS J7 W8 aj ⟨aT,ag,ay,az,aM,am,aO⟩ aR bq
 try dsimp only at aR
 have ax:Hid ((↑k2:Int) < (↑p0.length:Int)):=zG (wBR aj)
 replace aj:=zG aj
 have bu:Hid (w64 ((↑k2:Int) + 1)=(↑(k2 + 1):Int)):=zG (by have h1:=ak.out;have h2:=ax.out;rw [wAa] <;> omega)
 refine sR fL1 Z (oR Z (zR Z ag aM) (eN (zK (cT Z ax (kN (zK (zU (sR fL2 Z (oM Z ag (oA Z Z (eN (sR (wEA (.fx 5 .nil .stop)) Z (oM Z az (oM Z ay (oM Z Z (bnK aR fun ab aN bw=>?_))))))))))))))))
 have bb:=bn.le am
 have q:=bb.el (wAk aN)
 obtain ⟨aW,bE,bQ,bj,ah,bC⟩:=q
 obtain ⟨ao,au,ap,av,rfl,be,bg⟩:=bC
 replace ah:Cl aT aW (bE + k2 * 3) [jV ab.Bib,.slice ao ab.Classes.length au,.slice ap ab.Legs.length av]:=ah
 refine oR Z (ZD Z Z bj Z ZS Zc (wBi aN)) (oL Z (aO.ldCA (f:=0) ah Z Z yy Zc (us:=[jV ab.Bib,.slice ao ab.Classes.length au,.slice ap ab.Legs.length av]) Z Z) (bnK bw fun bR bh bx=>?_))
 have bi:=bp.le am
 refine yU (a:=ab) Z Z Z Z Z Z (zA Z zM) aO bi ⟨ao,au,ap,av,Z,be,bg⟩ bh ?_
 rintro ae bI bP aV bD bk ⟨rfl,rfl⟩
 have aP:sW w U ae [] aV:=bk
 refine eN (ifc bx ?_ ?_)
 intro af bz
 refine zx (congrArg nA af.out) (sR fL2 Z (oM Z Z (oA Z Z (eN (zP (zm (zZ ?_)))))))
 have q:=wAq bz
 obtain ⟨bF,bA,aY⟩:=q
 have q:=wDj hm ai (bq bF aY)
 obtain rfl:=q
 refine zZ (zm (zZ ?_))
 cases bA
 exact ⟨Z,_,(zj Z),ae,_,aP,Z,Z⟩
 intro af bB
 refine zg (congrArg nA (nB.2 af.out)) (ZE (za (zF (rR fL2 Z (oR Z (zr (zX Z ag Z) (congrArg (jV) bu.out)) (oM Z Z (zb ?_)))))))
 have q:=hM bB
 obtain rfl:=q
 exact zF ⟨Z,_,Z,⟨ae,Z,ay,az,aM,(am.trans bD),aP⟩⟩
 rintro ⟨⟩ bG bJ ⟨aU,ba,bL,bM,aZ,bN,bm⟩ br
 have aQ:=wEC hm ai br
 try dsimp only at aQ
 have aX:Hid (¬ ((↑(((↑p0.length:Int):Int) - 0).toNat:Int) < (↑p0.length:Int))):=zG (wAr)
 refine sR fL1 Z (oR Z (zR Z ba aZ) (eN (zK (cF Z aX (ZG (zc (zc (zz (zF (sR fL1 Z (oA Z Z (eN (zP ?_)))))))))))))
 cases aQ
 exact ⟨Z,_,(zj Z),aU,_,bm,Z,Z⟩
end Go.Proofs.YtlmekamhphnmjaaGreat
namespace Go.Proofs.YtlmekamhphnmjaaGreat
open Go.KL
set_option maxHeartbeats 4000000
theorem wDY (p0:List wAJ) (ac:Option Addr) (ae:Nat) (p1:(wAJ->Option Bool)) (af:Value) (w:World) (U:PHeap) (hS:St0 w U []) (an:SlR U wFJ ac ae p0) (ao:FnOK Tryz.prog U af wKW wKX p1) {r:Bool} (hm:wAt p0 p1=some r):Gv Tryz.prog 228 [.slice ac p0.length ae,af] w (wBj w [] U (fun U_ L_ v=>v=.bool r/\L_=[])):=by
 unfold wAt at hm
 refine Gv.of Tryz.func228 Z Tryz.ntmps228 Tryz.results228 Z (sR fL1 Z (oA Z Z (eN (sR gAu Z (oM Z Z (oM Z Z (bnK hm fun x1 h2 ah=>zI 0 Z Z Z Z (zJ Z Z Tryz.call287 (zA Z (zA Z zM)) Z) hS (fun hs=>wDo p0 ac ae p1 af w U hs an ao h2) (.inr Z) ?_)))))))
 rintro U4 L5 v6 W7 aq am ⟨rfl,rfl⟩
 have ak:sW w U U4 [] W7:=am
 refine oR Z (yz Z Z Z) (oA Z Z (eN (zP ?_)))
 first | (obtain rfl:=hM ah) | cases ah
 exact ⟨Z,_,(zj Z),U4,_,ak,Z,Z⟩
theorem wEW (p0:List wAJ) (ah:Option Addr) (ai:Nat) (p1:(wAJ->Option Bool)) (ae:Value) (w:World) (U:PHeap) (hS:St0 w U []) (aO:SlR U wFJ ah ai p0) (am:FnOK Tryz.prog U ae wKW wKX p1) {r:Bool} (hm:wBd p0 p1=some r):Gv Tryz.prog 165 [.slice ah p0.length ai,ae] w (wBj w [] U (fun U_ L_ v=>v=.bool r/\L_=[])):=by
 unfold wBd at hm
 refine Gv.of Tryz.func165 Z Tryz.ntmps165 Tryz.results165 Z (sR gAg Z (ZB (cs:=[ae]) Z Z Z Z Z Z (FnOK.cells am) hS ?_))
 intro W1 b2 az
 have q:=az.freeze (k:=0) rfl
 obtain ⟨U5,an,ab,aM⟩:=q
 replace ab:=Cl.of ab
 have aN:sW w U U5 [] W1:=aM
 replace ab:Cl U5 b2 0 [ae]:=ab
 refine oA Z Z (eN (sR gAu Z (oM Z Z (oR Z (yW Z zM (zA Z zM)) ?_))))
 have aq:=aO.le an
 have au:=am.le an
 have aw:FnOK Tryz.prog U5 (.func (.func 229) #[] #[.pointer (some ⟨b2,0,none⟩)]) wKW wKX (fun x=>wBO x p1):=⟨229,[],[.pointer (some ⟨b2,0,none⟩)],rfl,Tryz.call229,fun U1 w1 x y vs le hs ha hm=>by obtain ⟨pA_0_1,pc_0_1,pA_0_2,pc_0_2,rfl,hq0_0,hq0_1⟩:=ha;exact wFL x pA_0_1 pc_0_1 pA_0_2 pc_0_2 p1 b2 ae w1 U1 hs hq0_0 hq0_1 (ab.le le) (au.le le) hm⟩
 refine bnK hm fun aU av aP=>zI 0 Z Z Z Z (zJ Z Z Tryz.call228 (zA Z (zA Z zM)) Z) aN (fun hs=>wDY p0 ah ai (fun x=>wBO x p1) (.func (.func 229) #[] #[.pointer (some ⟨b2,0,none⟩)]) W1 U5 hs aq aw av) (.inr Z) ?_
 rintro aj aR aT ap aS ax ⟨rfl,rfl⟩
 have ay:sW w U aj [] ap:=ax
 refine oR Z (ZR Z Z) (oA Z Z (eN (zP ?_)))
 cases aP
 exact ⟨Z,_,(zj Z),aj,_,ay,Z,Z⟩
theorem wIF (p0:wAJ) (ac:Option Addr) (ae:Nat) (ai:Option Addr) (aj:Nat) (w:World) (U:PHeap) (hS:St0 w U []) (aM:Sl U 1 ac ae p0.Classes.length (hD KL.encI p0.Classes)) (aU:SlR U wLd ai aj p0.Legs) {r:Bool} (hm:wDJ p0=some r):Gv Tryz.prog 167 [.agg #[jV p0.Bib,.slice ac p0.Classes.length ae,.slice ai p0.Legs.length aj]] w (wBj w [] U (fun U_ L_ v=>v=.bool r/\L_=[])):=by
 unfold wDJ at hm
 refine Gv.of Tryz.func167 Z Tryz.ntmps167 Tryz.results167 Z (sR gAg Z ?_)
 let B0:List Value:=[jV p0.Bib,.slice ac p0.Classes.length ae,.slice ai p0.Legs.length aj]
 refine ZB (cs:=B0) rfl rfl rfl rfl rfl rfl (by rfl) hS ?_
 intro W1 b2 ao
 refine oA Z Z (eN (sR (.fl 0 (.fl 1 (.fx 2 (wNz gAn) .stop))) Z (oR Z (zC Z Z ZX Z zD) (oL Z (ao.ldB (j:=0) Z Z Z zN (v:=jV p0.Bib) Z) (bnK hm fun x5 h6 aQ=>zI 0 Z Z Z Z (zJ Z Z YA (zA Z (zA Z (zA Z zM))) Z) ao (fun hs=>wDh p0.Bib 1 999 W1 U hs h6) (.inr Z) ?_)))))
 rintro U8 L9 aW am aR ax ⟨rfl,rfl⟩
 have ah:sW w U U8 [.blk b2 101 B0] am:=ax
 refine oM Z Z (ifc aQ ?_ ?_)
 intro ab aN
 refine zT Z Z Z (zL Z Z (congrArg nA ab.out)) (fun _=>zC Z Z ZX Z zk) (zn Z Z Z (zL Z Z (congrArg nA ab.out)) (ah.ldB (j:=0) Z Z Z zu (v:=.slice ac p0.Classes.length ae) Z) Z ?_)
 have au:=aM.le aR
 refine bnK aN fun aY av aO=>zI 0 Z Z Z (zL Z Z (congrArg nA ab.out)) (zJ Z Z Tryz.call168 (zA Z zM) Z) ah (fun hs=>wGB p0.Classes ac ae am U8 hs au av) (.inr Z) ?_
 rintro ak aS aX aq aV ay ⟨rfl,rfl⟩
 have az:sW w U ak [.blk b2 101 B0] aq:=ay
 refine oR Z (zV Z (congrArg nA ab.out) Z) (oA Z Z (eN (zP ?_)))
 have hE:=hM aO;first | subst r | cases hE
 exact ⟨rfl,_,(zj rfl),ak,_,(az.pick [] _ (by decide) rfl),rfl,rfl⟩
 intro ab aP
 refine zW Z Z Z (zY Z Z (congrArg nA (nB.2 ab.out)) Z) (zW Z Z Z (zY Z Z (congrArg nA (nB.2 ab.out)) Z) (Zl Z Z Z (zY Z Z (congrArg nA (nB.2 ab.out)) Z) (oR Z (zS Z (congrArg nA (nB.2 ab.out)) Z) (oA Z Z (eN (zP ?_))))))
 have hE:=hM aP;first | subst r | cases hE
 exact ⟨rfl,_,(zj rfl),U8,_,(ah.pick [] _ (by decide) rfl),rfl,rfl⟩
theorem wEM {S E:Type} (PY:S->PHeap->List Res->Prop) (PE:E->PHeap->List Res->Prop) (f:S->(wAJ × wAR)->Option (S ⊕ E)) (y:Nat) (s0:S) (p1:wAS) (bG:Nat) (bF:Option Addr) (bH:Nat) (an:Option Addr) (ao:Nat) (w:World) (L:List Res) (U:PHeap) (hS:St ⟨w,L,U⟩ U L w) (hP:PY s0 U L) (hY:YOK Tryz.prog y wNX PY PE f U) (cO:Cl U bG 0 [.slice bF p1.Rules.Classes.length bH,jV p1.Rules.Each,jV p1.Rules.Laps,jV p1.Rules.Spare,jV p1.Rules.Loop,jV p1.Rules.Unused,jV p1.Start,.slice an p1.Teams.length ao]) (dM:Sl U 1 bF bH p1.Rules.Classes.length (hD KL.encI p1.Rules.Classes)) (cP:SlR U wFJ an ao p1.Teams) {r:S ⊕ E} (hm:wBo f s0 p1=some r):Gv Tryz.prog 231 [.func (.yield y) #[] #[],.pointer (some ⟨bG,0,none⟩)] w (ItS w L U PY PE r):=by
 unfold wBo at hm
 refine Gv.of Tryz.func231 Z Tryz.ntmps231 Tryz.results231 Z (sR fL4 Z (oR Z (zC Z Z zt Z Zt) (oL Z (hS.ldC (f:=7) cO (v:=.slice an p1.Teams.length ao) Z Z yM Z) (oR Z (ze Z Z ZS) (oM Z Z (eN (zU ?_)))))))
 have q:=wDA hm
 obtain ⟨dO,aX⟩:=q
 have q:=wCz aX
 obtain ⟨bb,cV⟩:=q
 replace bb:=zG bb
 refine ya (fun af bJ J_ w_=>∃ (U_:PHeap) (am:List Res),J_ 10=jV (↑af:Int)/\J_ 0=.func (.yield y) #[] #[]/\J_ 8=.slice an p1.Teams.length ao/\J_ 9=jV (↑p1.Teams.length:Int)/\PHeap.Le U U_/\St ⟨w,L,U⟩ U_ am w_/\PY bJ U_ am) cV ?_ ?_ ?_
 exact ⟨U,L,Z,Z,Z,Z,(zQ _),hS,hP⟩
 rintro af bJ dS dy dE aZ ⟨au,am,aS,cd,bp,bq,bh,bC,cy⟩ dh cS
 have bm:Hid ((↑af:Int) < (↑p1.Teams.length:Int)):=zG (wBR aZ)
 replace aZ:=zG aZ
 have cX:Hid (w64 ((↑af:Int) + 1)=(↑(af + 1):Int)):=zG (by have h1:=bb.out;have h2:=bm.out;rw [wAa] <;> omega)
 refine sR fL1 Z (oR Z (zR Z aS bq) (eN (zK (cT Z bm (kN (zK (zU (sR gAs Z (bnK dh fun ab bx bg=>?_)))))))))
 have cz:=cP.le bh
 have q:=cz.el (wAk bx)
 obtain ⟨bQ,dp,dQ,cD,aU,dg⟩:=q
 obtain ⟨aM,aP,ai,aj,rfl,cA,cB⟩:=dg
 replace aU:Cl au bQ (dp + af * 3) [jV ab.Bib,.slice aM ab.Classes.length aP,.slice ai ab.Legs.length aj]:=aU
 refine oR Z (ZD Z bp cD aS ZS Zc (wBi bx)) (oL Z (bC.ldCA (f:=0) aU Z Z yy Zc (us:=[jV ab.Bib,.slice aM ab.Classes.length aP,.slice ai ab.Legs.length aj]) Z Z) ?_)
 let B0:List Value:=[jV 0,.slice none 0 0,.slice none 0 0]
 refine zy (cs:=B0) Z Z Z Z Z yQ Z bC ?_
 intro dF ag cM
 let B1:List Value:=[jV ab.Bib,.slice aM ab.Classes.length aP,.slice ai ab.Legs.length aj]
 refine ZA (j:=0) (vs:=B1) Z Z Z Z cM Z Z Z Z Zc (zB Z) Z Z Z ?_
 intro bP cN
 have bD:St ⟨w,L,U⟩ au (.blk ag 101 B1 :: am) bP:=cN
 refine eN (sR fL4 Z (oR Z (zC Z Z ZX Z Tryz.sizeOf99) (oL Z (bD.ldB (j:=0) Z Z Z Tryz.isAgg99 (v:=.slice ai ab.Legs.length aj) Z) (oR Z (ze Z Z Zu) (oM Z Z (eN (zU ?_)))))))
 have q:=wDA bg
 obtain ⟨dP,aY⟩:=q
 have q:=wCz aY
 obtain ⟨be,cW⟩:=q
 replace be:=zG be
 refine ya (fun ah bK J_ w_=>∃ (U_:PHeap) (ap:List Res),J_ 17=jV (↑ah:Int)/\J_ 0=.func (.yield y) #[] #[]/\J_ 4=.pointer (some ⟨ag,0,none⟩)/\J_ 8=.slice an p1.Teams.length ao/\J_ 9=jV (↑p1.Teams.length:Int)/\J_ 10=jV (↑af:Int)/\J_ 15=.slice ai ab.Legs.length aj/\J_ 16=jV (↑ab.Legs.length:Int)/\PHeap.Le au U_/\St ⟨w,L,U⟩ U_ (.blk ag 101 B1 :: ap) w_/\PY bK U_ ap) cW ?_ ?_ ?_
 exact ⟨au,am,Z,cd,Z,bp,bq,aS,Z,Z,(zQ _),bD,cy⟩
 rintro ah bK dT dz dG ba ⟨bj,ap,aT,br,bs,cg,ch,ci,bu,bw,ax,bE,cC⟩ di cU
 have bn:Hid ((↑ah:Int) < (↑ab.Legs.length:Int)):=zG (wBR ba)
 replace ba:=zG ba
 have cY:Hid (w64 ((↑ah:Int) + 1)=(↑(ah + 1):Int)):=zG (by have h1:=be.out;have h2:=bn.out;rw [wAa] <;> omega)
 refine sR fL1 Z (oR Z (zR Z aT bw) (eN (zK (cT Z bn (kN (zK (zU (sR gAs Z (bnK di fun ac bz db=>?_)))))))))
 have bA:=cB.le ax
 have q:=bA.el (wAk bz)
 obtain ⟨bR,dq,dR,cE,aV,df⟩:=q
 obtain ⟨ay,aN,az,aO,rfl,co,cp⟩:=df
 replace aV:Cl bj bR (dq + ah * 3) [jV ac.Skier,.slice ay ac.Loops.length aN,.slice az ac.Bouts.length aO]:=aV
 refine oR Z (ZD Z bu cE aT Zu Zh (wBi bz)) (oL Z (bE.ldCA (f:=0) aV Z Z Tryz.isAgg98 Zh (us:=[jV ac.Skier,.slice ay ac.Loops.length aN,.slice az ac.Bouts.length aO]) Z Z) (zy (cs:=B0) Z Z Z Z Z yK Z bE ?_))
 intro dB aR cG
 let B2:List Value:=[jV ac.Skier,.slice ay ac.Loops.length aN,.slice az ac.Bouts.length aO]
 refine ZA (j:=0) (vs:=B2) Z Z Z Z cG Z Z Z Z Zh (zB Z) Z Z Z ?_
 intro bO cH
 have aW:St ⟨w,L,U⟩ bj (.blk aR 98 B2 :: .blk ag 101 B1 :: ap) bO:=cH
 refine eN (sR (wEz gAj) Z (oM Z br (oL Z (aW.ldBA (j:=1) Z Z bs yy Zc (vs:=B1) Z Z) (oL Z (aW.ldBA (j:=0) Z Z Z Tryz.isAgg98 Zh (vs:=B2) Z Z) ?_))))
 have cr:=cA.le ax
 refine bnK db fun dv ct aw=>OKS.yieldT 2 (a:=(ab,ac)) Z Z Z Z Z Z (zA Z (zA Z zM)) aW hY (bh.trans ax) cC ⟨aM,aP,ai,aj,ay,aN,az,aO,Z,cr,bA,co,cp⟩ ct Z ?_
 rintro aq aQ dH bk dm bB av
 rcases dv with dr | dr
 try dsimp only at aw av
 obtain ⟨rfl,dd⟩:=av
 have cI:St ⟨w,L,U⟩ aq (.blk aR 98 B2 :: .blk ag 101 B1 :: aQ) bk:=bB
 refine oR Z (ZR Z Z) (eN (zg Z (ZE (za (zF (rR fL2 Z (oR Z (zr (zX Z aT Z) (congrArg (jV) cY.out)) (oM Z Z (zb ?_)))))))))
 have q:=hM aw
 obtain rfl:=q
 exact zF ⟨Z,_,Z,⟨aq,aQ,Z,br,bs,cg,ch,ci,bu,bw,(ax.trans dm),(cI.drop 0),dd⟩⟩
 try dsimp only at aw av
 obtain ⟨rfl,de⟩:=av
 have cJ:St ⟨w,L,U⟩ aq (.blk aR 98 B2 :: .blk ag 101 B1 :: aQ) bk:=bB
 refine oR Z (ZR Z Z) (eN (zx Z (zP (zm (zZ ?_)))))
 have q:=wAq aw
 obtain ⟨dt,cZ,bU⟩:=q
 have q:=wDj bg aY (cU dt bU)
 obtain rfl:=q
 refine zZ (zm (zm (zZ ?_)))
 have q:=wAq cZ
 obtain ⟨du,c7,bV⟩:=q
 have q:=wDj hm aX (cS du bV)
 obtain rfl:=q
 refine zZ (zm ?_)
 cases c7
 exact ⟨Z,_,(wEr),aq,_,((cJ.drop 1).drop 0),de⟩
 rintro dU dw dC ⟨bM,bL,cj,bW,dI,bX,bY,bZ,dJ,ca,dn,cK,cw⟩ cQ
 have c8:=wEC bg aY cQ
 have bS:Hid (¬ ((↑(((↑ab.Legs.length:Int):Int) - 0).toNat:Int) < (↑ab.Legs.length:Int))):=zG (wAr)
 refine sR fL1 Z (oR Z (zR Z cj ca) (eN (zK (cF Z bS (ZG (zc (zc (zz (za (zF (rR fL2 Z (oR Z (zr (zX Z bZ Z) (congrArg (jV) cX.out)) (oM Z Z (zb ?_))))))))))))))
 have q:=hM c8
 obtain rfl:=q
 exact zF ⟨Z,_,Z,⟨bM,bL,Z,bW,bX,bY,(bh.trans dn),(cK.drop 0),cw⟩⟩
 rintro dV dx dD ⟨bN,dA,cm,dK,dL,cc,dN,cL,cx⟩ cR
 have da:=wEC hm aX cR
 have bT:Hid (¬ ((↑(((↑p1.Teams.length:Int):Int) - 0).toNat:Int) < (↑p1.Teams.length:Int))):=zG (wAr)
 refine sR fL1 Z (oR Z (zR Z cm cc) (eN (zK (cF Z bT (ZG (zc (zc (zz ?_))))))))
 cases da
 exact ⟨Z,_,(wEr),bN,_,cL,cx⟩
theorem wEf (p0:wAS) (ac:Option Addr) (af:Nat) (ae:Option Addr) (ag:Nat) (w:World) (U:PHeap) (hS:St0 w U []) (aq:Sl U 1 ac af p0.Rules.Classes.length (hD KL.encI p0.Rules.Classes)) (au:SlR U wFJ ae ag p0.Teams) {r:Unit} (hm:wCc p0=some r):Gv Tryz.prog 169 [.agg #[.slice ac p0.Rules.Classes.length af,jV p0.Rules.Each,jV p0.Rules.Laps,jV p0.Rules.Spare,jV p0.Rules.Loop,jV p0.Rules.Unused,jV p0.Start,.slice ae p0.Teams.length ag]] w (wBj w [] U (fun U_ L_ v=>∃ (b0:Nat),v=.func (.func 231) #[] #[.pointer (some ⟨b0,0,none⟩)]/\L_=[]/\Cl U_ b0 0 [.slice ac p0.Rules.Classes.length af,jV p0.Rules.Each,jV p0.Rules.Laps,jV p0.Rules.Spare,jV p0.Rules.Loop,jV p0.Rules.Unused,jV p0.Start,.slice ae p0.Teams.length ag])):=by
 unfold wCc at hm
 refine Gv.of Tryz.func169 Z Tryz.ntmps169 Tryz.results169 Z (sR gAg Z ?_)
 let B0:List Value:=[.slice ac p0.Rules.Classes.length af,jV p0.Rules.Each,jV p0.Rules.Laps,jV p0.Rules.Spare,jV p0.Rules.Loop,jV p0.Rules.Unused,jV p0.Start,.slice ae p0.Teams.length ag]
 refine ZB (cs:=B0) rfl rfl rfl rfl rfl rfl (by rfl) hS ?_
 intro W1 b2 an
 have q:=an.freeze (k:=0) rfl
 obtain ⟨U5,av,ab,ao⟩:=q
 replace ab:=Cl.of ab
 have ap:sW w U U5 [] W1:=ao
 replace ab:Cl U5 b2 0 B0:=ab
 refine oA Z Z (eN (sR fL2 Z (oR Z (yW Z zM (zA Z zM)) (oA Z Z (eN (zP ?_))))))
 cases hm
 exact ⟨Z,_,(zj Z),U5,_,ap,b2,Z,Z,ab⟩
theorem wIG (p0:Int) (w:World) (U:PHeap) (hS:St0 w U [])  {r:Bool} (hm:wCg p0=some r):Gv Tryz.prog 171 [jV p0] w (wBj w [] U (fun U_ L_ v=>v=.bool r/\L_=[])):=by
 unfold wCg at hm
 refine Gv.of Tryz.func171 Z Tryz.ntmps171 Tryz.results171 Z (sR fL1 Z (oA Z Z (eN (sR gAo Z (oM Z Z (bnK hm fun x1 h2 ah=>zI 0 Z Z Z Z (zJ Z Z YA (zA Z (zA Z (zA Z zM))) Z) hS (fun hs=>wDh p0 1 9000 w U hs h2) (.inr Z) ?_))))))
 rintro U4 L5 v6 W7 aj ag ⟨rfl,rfl⟩
 have af:sW w U U4 [] W7:=ag
 refine oA Z Z (eN (zP ?_))
 have hE:=hM ah;first | subst r | cases hE
 exact ⟨Z,_,(zj Z),U4,_,af,Z,Z⟩
theorem wJG (p0:wAS) (ap:Option Addr) (aq:Nat) (am:Option Addr) (an:Nat) (w:World) (U:PHeap) (hS:St0 w U []) (fC:Sl U 1 ap aq p0.Rules.Classes.length (hD KL.encI p0.Rules.Classes)) (lG:SlR U wFJ am an p0.Teams) {r:Int} (hm:wEQ p0=some r):Gv Tryz.prog 117 [.agg #[.slice ap p0.Rules.Classes.length aq,jV p0.Rules.Each,jV p0.Rules.Laps,jV p0.Rules.Spare,jV p0.Rules.Loop,jV p0.Rules.Unused,jV p0.Start,.slice am p0.Teams.length an]] w (wBj w [] U (fun U_ L_ v=>v=jV r/\L_=[])):=by
 unfold wEQ at hm
 refine Go.KX.Gv.ofM Tryz.func117 Z Tryz.ntmps117 Tryz.results117 (zB Z) (sR gAk Z ?_)
 let B0:List Value:=[.slice ap p0.Rules.Classes.length aq,jV p0.Rules.Each,jV p0.Rules.Laps,jV p0.Rules.Spare,jV p0.Rules.Loop,jV p0.Rules.Unused,jV p0.Start,.slice am p0.Teams.length an]
 refine ZB (cs:=B0) rfl rfl rfl rfl rfl rfl (by rfl) hS ?_
 intro W1 b2 jv
 refine zy (cs:=[jV 0]) Z Z Z Z Z Tryz.zeroValue41 Z jv ?_
 intro W5 b6 fj
 refine eN (sR gAr Z (oR Z (zC Z Z zt Z yS) ?_))
 let B1:List Value:=[.slice ap p0.Rules.Classes.length aq,jV p0.Rules.Each,jV p0.Rules.Laps,jV p0.Rules.Spare,jV p0.Rules.Loop,jV p0.Rules.Unused]
 refine oL Z (fj.ldBA (j:=1) Z Z Z Tryz.isAgg86 yS (vs:=B1) Z Z) (bnK hm fun x9 iD lV=>zI 0 Z Z Z Z (zJ Z Z Tryz.call164 (zA Z zM) Z) fj (fun hs=>wGu p0.Rules ap aq W5 U hs fC iD) (.inr Z) ?_)
 rintro br mU pe dR fN jg ⟨rfl,rfl⟩
 let B2:Res:=.blk b6 41 [jV 0]
 have cZ:sW w U br [B2,.blk b2 89 B0] dR:=jg
 refine oA Z Z (eN (zK (zU (sR fL3 Z (oM Z Z (oR Z (Ze Z Z Z) (oA Z Z (eN (ifc lV ?_ ?_)))))))))
 intro cG lX
 refine zg (zo (fun h=>h cG.out)) (sR (wEz (.fx 3 (wQB (.fx 11 (wPC (.nil)) .stop)) .stop)) Z (oR Z (zC Z Z zt Z Zt) (oL Z (cZ.ldB (j:=1) Z Z Z yM (v:=.slice am p0.Teams.length an) Z) (oR Z (ze Z Z ZS) (bnK lX fun pE iG l4=>zI 0 Z Z Z Z (zJ Z Z YA (zA Z (zA Z (zA Z zM))) Z) cZ (fun hs=>wDh (↑p0.Teams.length:Int) 1 12 dR br hs iG) (.inr Z) ?_)))))
 rintro aX mZ ph dT fQ jt ⟨rfl,rfl⟩
 have bZ:sW w U aX [B2,.blk b2 89 B0] dT:=jt
 refine oR Z (ZR Z Z) (oM Z Z (ifc l4 ?_ ?_))
 intro ak l5
 refine zT Z Z Z (zL Z Z (nC ak.out)) (fun _=>zC Z Z zt Z Zt) (zn Z Z Z (zL Z Z (nC ak.out)) (bZ.ldB (j:=1) Z Z Z yM (v:=.slice am p0.Teams.length an) Z) Z (zT Z Z Z (zL Z Z (nC ak.out)) (fun _=>zC Z Z zt Z yS) (zn Z Z Z (zL Z Z (nC ak.out)) (bZ.ldBA (j:=1) Z Z Z Tryz.isAgg86 yS (vs:=B1) Z Z) Z (zT Z Z Z (zL Z Z (nC ak.out)) (fun _=>yW Z (zA Z zM) zM) ?_))))
 have iI:=lG.le fN
 have eJ:=iI.le fQ
 have iK:=fC.le fN
 have eK:=iK.le fQ
 have ja:FnOK Tryz.prog aX (.func (.func 166) #[.agg B1.toArray] #[]) wKW wKX (fun x=>wBn p0.Rules x):=⟨166,[.agg B1.toArray],[],rfl,Tryz.call166,fun U1 w1 x y vs le hs ha hm=>by obtain ⟨pA_0_1,pc_0_1,pA_0_2,pc_0_2,rfl,hq0_0,hq0_1⟩:=ha;exact wGc p0.Rules ap aq x pA_0_1 pc_0_1 pA_0_2 pc_0_2 w1 U1 hs (eK.le le) hq0_0 hq0_1 hm⟩
 refine bnK l5 fun pG iN mc=>zI 0 Z Z Z (zL Z Z (nC ak.out)) (zJ Z Z Tryz.call165 (zA Z (zA Z zM)) Z) bZ (fun hs=>wEW p0.Teams am an (fun x=>wBn p0.Rules x) (.func (.func 166) #[.agg B1.toArray] #[]) dT aX hs eJ ja iN) (.inr Z) ?_
 rintro bw m6 pm dV fT jJ ⟨rfl,rfl⟩
 have c8:sW w U bw [B2,.blk b2 89 B0] dV:=jJ
 refine zT Z Z Z (zL Z Z (nC ak.out)) (fun _=>ZR Z Z) (oR Z (zS Z (nC ak.out) Z) (oA Z Z (eN (ifc mc ?_ ?_))))
 intro cJ md
 refine zg (nC cJ.out) (sR (.fl 0 (.fl 1 (.fx 2 (wNG (.fx 7 (wNH (.nil)) .stop)) .stop))) Z (oR Z (zC Z Z zt Z zD) (oL Z (c8.ldB (j:=1) Z Z Z zN (v:=jV p0.Start) Z) (bnK md fun pH iP me=>zI 0 Z Z Z Z (zJ Z Z YA (zA Z (zA Z (zA Z zM))) Z) c8 (fun hs=>wDh p0.Start 0 36000 dV bw hs iP) (.inr Z) ?_))))
 rintro aY m8 pn dW fV jQ ⟨rfl,rfl⟩
 have da:sW w U aY [B2,.blk b2 89 B0] dW:=jQ
 refine oR Z (ZR Z Z) (oM Z Z (ifc me ?_ ?_))
 intro au mj
 refine zT Z Z Z (zL Z Z (nC au.out)) (fun _=>zC Z Z zt Z Zt) (zn Z Z Z (zL Z Z (nC au.out)) (da.ldB (j:=1) Z Z Z yM (v:=.slice am p0.Teams.length an) Z) Z ?_)
 have iT:=eJ.le fT
 have eR:=iT.le fV
 have jb:FnOK Tryz.prog aY (.func (.func 167) #[] #[]) wKW wKX wDJ:=⟨167,[],[],rfl,Tryz.call167,fun U1 w1 x y vs le hs ha hm=>by obtain ⟨pA_0_1,pc_0_1,pA_0_2,pc_0_2,rfl,hq0_0,hq0_1⟩:=ha;exact wIF x pA_0_1 pc_0_1 pA_0_2 pc_0_2 w1 U1 hs hq0_0 hq0_1 hm⟩
 refine bnK mj fun pI iU mn=>zI 0 Z Z Z (zL Z Z (nC au.out)) (zJ Z Z Tryz.call165 (zA Z (zA Z zM)) Z) da (fun hs=>wEW p0.Teams am an wDJ (.func (.func 167) #[] #[]) dW aY hs eR jb iU) (.inr Z) ?_
 rintro bx n3 pp dY fY la ⟨rfl,rfl⟩
 have db:sW w U bx [B2,.blk b2 89 B0] dY:=la
 refine zT Z Z Z (zL Z Z (nC au.out)) (fun _=>ZR Z Z) (oR Z (zS Z (nC au.out) Z) (oA Z Z (eN (ifc mn ?_ ?_))))
 intro cM ms
 refine zg (nC cM.out) (ZE (za (zF (zK (sR gAl Z (oL Z (db.ldBA (j:=1) Z Z Z yh Zp (vs:=B0) Z Z) ?_))))))
 have iZ:=eK.le fT
 have i4:=iZ.le fV
 have eT:=i4.le fY
 have eU:=eR.le fY
 have q:=bnd ms
 obtain ⟨⟨⟩,i5,fK⟩:=q
 try dsimp only at fK
 refine zI 0 Z Z Z Z (zJ Z Z Tryz.call169 (zA Z zM) Z) db (fun hs=>wEf p0 ap aq am an dY bx hs eT eU i5) (.inr Z) ?_
 rintro dQ n4 pq g7 fZ lD ⟨d8,rfl,rfl,i6⟩
 have lE:sW w U dQ [B2,.blk b2 89 B0] g7:=lD
 refine eN (zU (yg fun bR bY=>?_))
 have cS:bR 1=.pointer (some ⟨b2,0,none⟩):=(bY 1).trans rfl
 have cU:bR 2=.pointer (some ⟨b6,0,none⟩):=(bY 2).trans rfl
 have iA:bR 51=.func (.func 231) #[] #[.pointer (some ⟨d8,0,none⟩)]:=(bY 51).trans rfl
 clear bY
 refine bnK fK fun ge lS cd=>?_
 have eC:=eT.le fZ
 have eD:=eU.le fZ
 refine CK.rangeY (S:=Unit) (E:=Int) (ar:=wNX) (PY:=(fun (_:Unit) (U_:PHeap) (L_:List Res)=>L_=[B2,.blk b2 89 B0])) (PE:=(fun (mN:Int) (U_:PHeap) (L_:List Res)=>L_=[.blk b6 41 [jV mN],.blk b2 89 B0])) (exO:=(fun _=>.ret)) (s0:=()) (rr:=ge) iA Tryz.call231 lE (by decide) (fun _ _ _ h=>by obtain ⟨_,_,_,_,_,_,_,_,rfl,_,_,_,_⟩:=h;rfl) (fun _=>.inl rfl) rfl (fun l w1 L1 PY' PE' bC bB bD=>wEM PY' PE' _ l _ p0 d8 ap aq am an w1 L1 dQ bC bB bD i6 eC eD lS) ?_ ?_
 rintro bj pa oB ⟨⟩ ao pt o6 bJ mV mK di bn oW jf jc lH fD bM aQ
 obtain rfl:=jc
 obtain ⟨f0,f8,f3,f9,bF,bH,dq,dz,rfl,oH,oI,my,oJ⟩:=lH
 replace aQ:∀ t,bM t=upd (upd bR 52 (.agg #[jV ao.1.Bib,.slice f0 ao.1.Classes.length f8,.slice f3 ao.1.Legs.length f9])) 53 (.agg #[jV ao.2.Skier,.slice bF ao.2.Loops.length bH,.slice dq ao.2.Bouts.length dz]) t:=aQ
 have oq:bM 52=.agg #[jV ao.1.Bib,.slice f0 ao.1.Classes.length f8,.slice f3 ao.1.Legs.length f9]:=(aQ 52).trans ((wDI _ _ (by decide)).trans (wDi _ _ _))
 have ig:bM 53=.agg #[jV ao.2.Skier,.slice bF ao.2.Loops.length bH,.slice dq ao.2.Bouts.length dz]:=(aQ 53).trans (wDi _ _ _)
 have ot:bM 1=.pointer (some ⟨b2,0,none⟩):=(aQ 1).trans ((wDI _ _ (by decide)).trans ((wDI _ _ (by decide)).trans cS))
 have ii:bM 2=.pointer (some ⟨b6,0,none⟩):=(aQ 2).trans ((wDI _ _ (by decide)).trans ((wDI _ _ (by decide)).trans cU))
 clear aQ
 have jh:St bn bJ [.obj bj di,B2,.blk b2 89 B0] mK:=jf
 try dsimp only at fD
 refine rR gAk Z (zy (cs:=[jV 0,.slice none 0 0,.slice none 0 0]) Z Z Z Z Z yK Z jh ?_)
 intro n8 bz ji
 let B3:List Value:=[jV ao.2.Skier,.slice bF ao.2.Loops.length bH,.slice dq ao.2.Bouts.length dz]
 refine ZA (j:=0) (vs:=B3) Z Z Z Z ji Z Z ig Z Zh (zB Z) Z Z Z ?_
 intro gm jj
 have jk:St bn bJ [.blk bz 98 B3,.obj bj di,B2,.blk b2 89 B0] gm:=jj
 refine zb ⟨rfl,rfl,_,_,(jk.pick [1,0,2,3] [.obj bj di,.blk bz 98 B3,B2,.blk b2 89 B0] (by decide) rfl),fun dS dm jl=>?_⟩
 have eV:St bn bJ [.obj bj dm,.blk bz 98 B3,B2,.blk b2 89 B0] dS:=jl
 refine zU (sR gAr Z (oR Z (zC Z Z Zd Z zk) (oL Z (eV.ldB (j:=1) Z Z Z zu (v:=.slice bF ao.2.Loops.length bH) Z) ?_)))
 have i9:FnOK Tryz.prog bJ (.func (.func 171) #[] #[]) wMG wNN wCg:=⟨171,[],[],rfl,Tryz.call171,fun U1 w1 x y vs le hs ha hm=>by obtain rfl:=ha;exact wIG x w1 U1 hs  hm⟩
 refine bnK fD fun pD iE lW=>zI 0 Z Z Z Z (zJ Z Z Tryz.call170 (zA Z (zA Z zM)) Z) eV (fun hs=>wFj ao.2.Loops bF bH wCg (.func (.func 171) #[] #[]) dS bJ hs my i9 iE) (.inr Z) ?_
 rintro dL mW pf gq oX jm ⟨rfl,rfl⟩
 have eW:St bn dL [.obj bj dm,.blk bz 98 B3,B2,.blk b2 89 B0] gq:=jm
 refine oR Z (ZR Z Z) (eN (ifc lW ?_ ?_))
 intro cH lY
 refine zg (nC cH.out) (ZE (za ?_))
 have q:=hM lY
 obtain rfl:=q
 exact ⟨_,_,(eW.pick [0,2,3] _ (by decide) rfl),rfl,rfl⟩
 intro cH l0
 refine zx (nF (cH.out)) (sR (.fx 0 .nil .stop) Z (ZA (j:=2) (vs:=[jV 3]) Z Z Z Z eW Z ii Z Z yo (zB Z) Z Z Z ?_))
 intro gr jo
 have jp:St bn dL [.obj bj dm,.blk bz 98 B3,.blk b6 41 [jV 3],.blk b2 89 B0] gr:=jo
 refine eN (zP (zm ?_))
 have q:=hM l0
 obtain rfl:=q
 exact ⟨_,_,(jp.pick [0,2,3] _ (by decide) rfl),rfl,rfl⟩
 rintro af bs mX cD fO eX
 rcases ge with ⟨⟩ | gh
 try dsimp only at cd
 rintro rfl
 have eY:sW w U bs [B2,.blk b2 89 B0,.obj af (.deferred (some []))] cD:=eX
 refine za (zF (zK (sR gAl Z (oL Z (eY.ldBA (j:=1) Z Z cS yh Zp (vs:=B0) Z Z) ?_))))
 have eF:=eC.le fO
 have eG:=eD.le fO
 have q:=bnd cd
 obtain ⟨⟨⟩,iF,fG⟩:=q
 try dsimp only at fG
 refine zI 0 Z Z Z Z (zJ Z Z Tryz.call169 (zA Z zM) Z) eY (fun hs=>wEf p0 ap aq am an cD bs hs eF eG iF) (.inr Z) ?_
 rintro dM mY pg gu fP jq ⟨dZ,rfl,rfl,iH⟩
 have jr:sW w U dM [B2,.blk b2 89 B0,.obj af (.deferred (some []))] gu:=jq
 refine eN (zU (yg fun bP bW=>?_))
 have cO:bP 1=.pointer (some ⟨b2,0,none⟩):=(bW 1).trans cS
 have cP:bP 2=.pointer (some ⟨b6,0,none⟩):=(bW 2).trans cU
 have ij:bP 59=.func (.func 231) #[] #[.pointer (some ⟨dZ,0,none⟩)]:=(bW 59).trans rfl
 clear bW
 refine bnK fG fun gf lT cg=>?_
 have eH:=eF.le fP
 have eI:=eG.le fP
 refine CK.rangeY (S:=Unit) (E:=Int) (ar:=wNX) (PY:=(fun (_:Unit) (U_:PHeap) (L_:List Res)=>L_=[B2,.blk b2 89 B0,.obj af (.deferred (some []))])) (PE:=(fun (mO:Int) (U_:PHeap) (L_:List Res)=>L_=[.blk b6 41 [jV mO],.blk b2 89 B0,.obj af (.deferred (some []))])) (exO:=(fun _=>.ret)) (s0:=()) (rr:=gf) ij Tryz.call231 jr (by decide) (fun _ _ _ h=>by obtain ⟨_,_,_,_,_,_,_,_,rfl,_,_,_,_⟩:=h;rfl) (fun _=>.inl rfl) rfl (fun l w1 L1 PY' PE' bC bB bD=>wEM PY' PE' _ l _ p0 dZ ap aq am an w1 L1 dM bC bB bD iH eH eI lT) ?_ ?_
 rintro aT pb oC ⟨⟩ ai pu o7 bK m2 mL ci aU oY ju jd lI fE bN aR
 obtain rfl:=jd
 obtain ⟨cj,cm,dr,dA,dt,dB,du,dC,rfl,oK,oO,oP,oQ⟩:=lI
 replace aR:∀ t,bN t=upd (upd bP 60 (.agg #[jV ai.1.Bib,.slice cj ai.1.Classes.length cm,.slice dr ai.1.Legs.length dA])) 61 (.agg #[jV ai.2.Skier,.slice dt ai.2.Loops.length dB,.slice du ai.2.Bouts.length dC]) t:=aR
 have ik:bN 60=.agg #[jV ai.1.Bib,.slice cj ai.1.Classes.length cm,.slice dr ai.1.Legs.length dA]:=(aR 60).trans ((wDI _ _ (by decide)).trans (wDi _ _ _))
 have il:bN 61=.agg #[jV ai.2.Skier,.slice dt ai.2.Loops.length dB,.slice du ai.2.Bouts.length dC]:=(aR 61).trans (wDi _ _ _)
 have ou:bN 1=.pointer (some ⟨b2,0,none⟩):=(aR 1).trans ((wDI _ _ (by decide)).trans ((wDI _ _ (by decide)).trans cO))
 have im:bN 2=.pointer (some ⟨b6,0,none⟩):=(aR 2).trans ((wDI _ _ (by decide)).trans ((wDI _ _ (by decide)).trans cP))
 clear aR
 have jw:St aU bK [.obj aT ci,B2,.blk b2 89 B0,.obj af (.deferred (some []))] mL:=ju
 try dsimp only at fE
 refine sR gAk Z ?_
 let B4:List Value:=[jV 0,.slice none 0 0,.slice none 0 0]
 refine zy (cs:=B4) Z Z Z Z Z yQ Z jw ?_
 intro n9 bb jx
 let B5:List Value:=[jV ai.1.Bib,.slice cj ai.1.Classes.length cm,.slice dr ai.1.Legs.length dA]
 refine ZA (j:=0) (vs:=B5) Z Z Z Z jx Z Z ik Z Zc (zB Z) Z Z Z ?_
 intro gv jy
 have jz:St aU bK [.blk bb 101 B5,.obj aT ci,B2,.blk b2 89 B0,.obj af (.deferred (some []))] gv:=jy
 refine eN (rR gAk Z (zy (cs:=B4) Z Z Z Z Z yK Z jz ?_))
 intro oa bA jA
 let B6:List Value:=[jV ai.2.Skier,.slice dt ai.2.Loops.length dB,.slice du ai.2.Bouts.length dC]
 refine ZA (j:=0) (vs:=B6) Z Z Z Z jA Z Z il Z Zh (zB Z) Z Z Z ?_
 intro gw jB
 have jC:St aU bK [.blk bA 98 B6,.blk bb 101 B5,.obj aT ci,B2,.blk b2 89 B0,.obj af (.deferred (some []))] gw:=jB
 refine zb ⟨rfl,rfl,_,_,(jC.pick [2,0,1,3,4,5] [.obj aT ci,.blk bA 98 B6,.blk bb 101 B5,B2,.blk b2 89 B0,.obj af (.deferred (some []))] (by decide) rfl),fun dU dn jD=>?_⟩
 have c7:St aU bK [.obj aT dn,.blk bA 98 B6,.blk bb 101 B5,B2,.blk b2 89 B0,.obj af (.deferred (some []))] dU:=jD
 refine zU (sR (wJb gAm) Z (oR Z (zC Z Z Zd Z zD) (oL Z (c7.ldB (j:=1) Z Z Z zN (v:=jV ai.2.Skier) Z) (oR Z (zC Z Z ZX Z zk) (oL Z (c7.ldB (j:=2) Z Z Z zu (v:=.slice cj ai.1.Classes.length cm) Z) (oR Z (ze Z Z zH) (oR Z (ZN Z Z Z) (bnK fE fun pF iJ l6=>zI 0 Z Z Z Z (zJ Z Z YA (zA Z (zA Z (zA Z zM))) Z) c7 (fun hs=>wDh ai.2.Skier 0 (w64 ((↑ai.1.Classes.length:Int) - 1)) dU bK hs iJ) (.inr Z) ?_))))))))
 rintro dN m3 pi gx oZ jE ⟨rfl,rfl⟩
 have e7:St aU dN [.obj aT dn,.blk bA 98 B6,.blk bb 101 B5,B2,.blk b2 89 B0,.obj af (.deferred (some []))] gx:=jE
 refine oR Z (ZR Z Z) (eN (ifc l6 ?_ ?_))
 intro cI ma
 refine zg (nC cI.out) (ZE (za ?_))
 have q:=hM ma
 obtain rfl:=q
 exact ⟨_,_,(e7.pick [0,3,4,5] _ (by decide) rfl),rfl,rfl⟩
 intro cI mb
 refine zx (nF (cI.out)) (sR (.fx 0 .nil .stop) Z (ZA (j:=3) (vs:=[jV 1]) Z Z Z Z e7 Z im Z Z yo (zB Z) Z Z Z ?_))
 intro gy jF
 have jG:St aU dN [.obj aT dn,.blk bA 98 B6,.blk bb 101 B5,.blk b6 41 [jV 1],.blk b2 89 B0,.obj af (.deferred (some []))] gy:=jF
 refine eN (zP (zm ?_))
 have q:=hM mb
 obtain rfl:=q
 exact ⟨_,_,(jG.pick [0,3,4,5] _ (by decide) rfl),rfl,rfl⟩
 rintro ah bu m4 cE fR e8
 rcases gf with ⟨⟩ | gi
 try dsimp only at cg
 rintro rfl
 have e9:sW w U bu [B2,.blk b2 89 B0,.obj af (.deferred (some [])),.obj ah (.deferred (some []))] cE:=e8
 refine za (zF (zK (sR gAl Z (oL Z (e9.ldBA (j:=1) Z Z cO yh Zp (vs:=B0) Z Z) ?_))))
 have eM:=eH.le fR
 have eO:=eI.le fR
 have q:=bnd cg
 obtain ⟨⟨⟩,iL,fH⟩:=q
 try dsimp only at fH
 refine zI 0 Z Z Z Z (zJ Z Z Tryz.call169 (zA Z zM) Z) e9 (fun hs=>wEf p0 ap aq am an cE bu hs eM eO iL) (.inr Z) ?_
 rintro dO m5 pj gz fS jH ⟨d5,rfl,rfl,iM⟩
 have jI:sW w U dO [B2,.blk b2 89 B0,.obj af (.deferred (some [])),.obj ah (.deferred (some []))] gz:=jH
 refine eN (zU (yg fun bQ bX=>?_))
 have cQ:bQ 1=.pointer (some ⟨b2,0,none⟩):=(bX 1).trans cO
 have cR:bQ 2=.pointer (some ⟨b6,0,none⟩):=(bX 2).trans cP
 have io:bQ 71=.func (.func 231) #[] #[.pointer (some ⟨d5,0,none⟩)]:=(bX 71).trans rfl
 clear bX
 refine bnK fH fun gg lU ch=>?_
 have iO:=eM.le fS
 have eP:=eO.le fS
 refine CK.rangeY (S:=Unit) (E:=Int) (ar:=wNX) (PY:=(fun (_:Unit) (U_:PHeap) (L_:List Res)=>L_=[B2,.blk b2 89 B0,.obj af (.deferred (some [])),.obj ah (.deferred (some []))])) (PE:=(fun (mP:Int) (U_:PHeap) (L_:List Res)=>L_=[.blk b6 41 [jV mP],.blk b2 89 B0,.obj af (.deferred (some [])),.obj ah (.deferred (some []))])) (exO:=(fun _=>.ret)) (s0:=()) (rr:=gg) io Tryz.call231 jI (by decide) (fun _ _ _ h=>by obtain ⟨_,_,_,_,_,_,_,_,rfl,_,_,_,_⟩:=h;rfl) (fun _=>.inl rfl) rfl (fun l w1 L1 PY' PE' bC bB bD=>wEM PY' PE' _ l _ p0 d5 ap aq am an w1 L1 dO bC bB bD iM iO eP lU) ?_ ?_
 rintro aM pd oD ⟨⟩ aj py o8 bL m7 mM dp aN o0 jK je lJ cc bO aS
 obtain rfl:=je
 obtain ⟨f4,gb,f7,gc,dv,dD,bG,bI,rfl,oS,oU,oV,mz⟩:=lJ
 replace aS:∀ t,bO t=upd (upd bQ 72 (.agg #[jV aj.1.Bib,.slice f4 aj.1.Classes.length gb,.slice f7 aj.1.Legs.length gc])) 73 (.agg #[jV aj.2.Skier,.slice dv aj.2.Loops.length dD,.slice bG aj.2.Bouts.length bI]) t:=aS
 have ov:bO 72=.agg #[jV aj.1.Bib,.slice f4 aj.1.Classes.length gb,.slice f7 aj.1.Legs.length gc]:=(aS 72).trans ((wDI _ _ (by decide)).trans (wDi _ _ _))
 have ip:bO 73=.agg #[jV aj.2.Skier,.slice dv aj.2.Loops.length dD,.slice bG aj.2.Bouts.length bI]:=(aS 73).trans (wDi _ _ _)
 have iq:bO 1=.pointer (some ⟨b2,0,none⟩):=(aS 1).trans ((wDI _ _ (by decide)).trans ((wDI _ _ (by decide)).trans cQ))
 have ir:bO 2=.pointer (some ⟨b6,0,none⟩):=(aS 2).trans ((wDI _ _ (by decide)).trans ((wDI _ _ (by decide)).trans cR))
 clear aS
 have jL:St aN bL [.obj aM dp,B2,.blk b2 89 B0,.obj af (.deferred (some [])),.obj ah (.deferred (some []))] mM:=jK
 try dsimp only at cc
 refine rR gAk Z (zy (cs:=[jV 0,.slice none 0 0,.slice none 0 0]) Z Z Z Z Z yK Z jL ?_)
 intro oc aP jM
 let B7:List Value:=[jV aj.2.Skier,.slice dv aj.2.Loops.length dD,.slice bG aj.2.Bouts.length bI]
 refine ZA (j:=0) (vs:=B7) Z Z Z Z jM Z Z ip Z Zh (zB Z) Z Z Z ?_
 intro gB jN
 have jO:St aN bL [.blk aP 98 B7,.obj aM dp,B2,.blk b2 89 B0,.obj af (.deferred (some [])),.obj ah (.deferred (some []))] gB:=jN
 refine zb ⟨rfl,rfl,_,_,(jO.pick [1,0,2,3,4,5] [.obj aM dp,.blk aP 98 B7,B2,.blk b2 89 B0,.obj af (.deferred (some [])),.obj ah (.deferred (some []))] (by decide) rfl),fun gC bE jP=>?_⟩
 have fb:St aN bL [.obj aM bE,.blk aP 98 B7,B2,.blk b2 89 B0,.obj af (.deferred (some [])),.obj ah (.deferred (some []))] gC:=jP
 refine zU (sR fL4 Z (oR Z (zC Z Z Zd Z Tryz.sizeOf96) (oL Z (fb.ldB (j:=1) Z Z Z Tryz.isAgg96 (v:=.slice bG aj.2.Bouts.length bI) Z) (oR Z (ze Z Z yX) (oM Z Z (eN (zU ?_)))))))
 have q:=wDA cc
 obtain ⟨o9,dd⟩:=q
 have q:=wCz dd
 obtain ⟨dg,lM⟩:=q
 replace dg:=zG dg
 refine ya (fun bh _ J_ w_=>∃ (U_:PHeap),J_ 77=jV (↑bh:Int)/\J_ 1=.pointer (some ⟨b2,0,none⟩)/\J_ 2=.pointer (some ⟨b6,0,none⟩)/\J_ 75=.slice bG aj.2.Bouts.length bI/\J_ 76=jV (↑aj.2.Bouts.length:Int)/\PHeap.Le bL U_/\St aN U_ [.obj aM bE,.blk aP 98 B7,B2,.blk b2 89 B0,.obj af (.deferred (some [])),.obj ah (.deferred (some []))] w_) lM ?_ ?_ ?_
 exact ⟨bL,Z,iq,ir,Z,Z,(zQ _),fb⟩
 rintro bh ⟨⟩ pJ mQ gD de ⟨dP,cV,it,eh,ep,eu,fU,fc⟩ fL lK
 try dsimp only at fL
 have d9:Hid ((↑bh:Int) < (↑aj.2.Bouts.length:Int)):=zG (wBR de)
 replace de:=zG de
 have lQ:Hid (w64 ((↑bh:Int) + 1)=(↑(bh + 1):Int)):=zG (by have h1:=dg.out;have h2:=d9.out;rw [wAa] <;> omega)
 refine sR fL1 Z (oR Z (zR Z cV eu) (eN (zK (cT Z d9 (kN (zK (zU (sR fL3 Z (bnK fL fun dH eQ mf=>?_)))))))))
 have iQ:=mz.le fU
 have q:=iQ.el (wAk eQ)
 obtain ⟨g8,mH,pz,i7,cX,mA⟩:=q
 obtain ⟨dw,dE,rfl,iR⟩:=mA
 replace cX:Cl dP g8 (mH + bh * 1) [.slice dw dH.length dE]:=cX
 refine oR Z (ZD Z ep i7 cV yX YG (wBi eQ)) (oL Z (fc.ldC (f:=0) cX (v:=.slice dw dH.length dE) Z Z Tryz.isAgg90 Z) (oA Z Z (eN (sR (.fl 0 (.fx 1 (wNy (.fx 5 gAm .stop)) .stop)) Z (oM Z Z ?_)))))
 have q:=bnd mf
 obtain ⟨⟨bk,dI⟩,iS,fI⟩:=q
 try dsimp only at fI
 refine zI 0 Z Z Z Z (zJ Z Z Tryz.call25 (zA Z zM) Z) fc (fun hs=>wFF dH dw dE gD dP hs iR iS) (.inr Z) ?_
 rintro bS m9 po gE mF jR ⟨rfl,rfl⟩
 have jS:St aN bS [.obj aM bE,.blk aP 98 B7,B2,.blk b2 89 B0,.obj af (.deferred (some [])),.obj ah (.deferred (some []))] gE:=jR
 refine oM Z Z (oR Z (ZL Z Z (v:=.agg #[jV bk.Spares,jV bk.Loops,jV bk.Unused]) Z) (oR Z (ZL Z Z (v:=jV dI) Z) (zy (cs:=[jV 0,jV 0,jV 0]) Z Z Z Z Z yO Z jS ?_)))
 intro od d6 jT
 let B8:List Value:=[jV bk.Spares,jV bk.Loops,jV bk.Unused]
 refine ZA (j:=0) (vs:=B8) Z Z Z Z jT Z Z Z Z Zv (zB Z) Z Z Z ?_
 intro gF jU
 have fd:St aN bS [.blk d6 93 B8,.obj aM bE,.blk aP 98 B7,B2,.blk b2 89 B0,.obj af (.deferred (some [])),.obj ah (.deferred (some []))] gF:=jU
 refine oA Z Z (eN (sR fL2 Z (oM Z Z (oR Z (Ze Z Z Z) (eN (ifc fI ?_ ?_))))))
 intro cK mg
 refine zg (zo (fun h=>h cK.out)) (ZE (za (zF (rR fL2 Z (oR Z (zr (zX Z cV Z) (congrArg (jV) lQ.out)) (oM Z Z (zb ?_)))))))
 have q:=hM mg
 obtain rfl:=q
 exact zF ⟨rfl,_,rfl,⟨bS,rfl,it,eh,ep,eu,(fU.trans mF),(fd.pick [1,2,3,4,5,6] _ (by decide) rfl)⟩⟩
 intro cK mh
 refine cT Z cK (sR gAl Z (oM Z Z (ZA (j:=3) (vs:=[jV dI]) Z Z Z Z fd Z eh Z Z yo (zB Z) Z Z Z ?_)))
 intro gG jW
 have jX:St aN bS [.blk d6 93 B8,.obj aM bE,.blk aP 98 B7,.blk b6 41 [jV dI],.blk b2 89 B0,.obj af (.deferred (some [])),.obj ah (.deferred (some []))] gG:=jW
 refine eN (zP (zm (zZ ?_)))
 have q:=wAq mh
 obtain ⟨mJ,mi,ie⟩:=q
 have q:=wDj cc dd (lK mJ ie)
 obtain rfl:=q
 refine zZ (zm (zm ?_))
 have q:=hM mi
 obtain rfl:=q
 exact ⟨_,_,(jX.pick [1,3,4,5,6] _ (by decide) rfl),rfl,rfl⟩
 rintro ⟨⟩ mR oe ⟨n5,iB,ow,ox,oy,iu,o3,jY⟩ lL
 have fJ:=wEC cc dd lL
 try dsimp only at fJ
 have ib:Hid (¬ ((↑(((↑aj.2.Bouts.length:Int):Int) - 0).toNat:Int) < (↑aj.2.Bouts.length:Int))):=zG (wAr)
 refine sR fL1 Z (oR Z (zR Z iB iu) (eN (zK (cF Z ib (ZG (zc (zc (zz (za ?_)))))))))
 have q:=hM fJ
 obtain rfl:=q
 exact ⟨_,_,(jY.pick [0,2,3,4,5] _ (by decide) rfl),rfl,rfl⟩
 rintro ay aZ n2 dX mG fe
 rcases gg with ⟨⟩ | gj
 try dsimp only at ch
 rintro rfl
 have jZ:sW w U aZ [B2,.blk b2 89 B0,.obj af (.deferred (some [])),.obj ah (.deferred (some [])),.obj ay (.deferred (some []))] dX:=fe
 refine za (zF (sR gAg Z (OKS.makeMap Z Z Z Z Z jZ ?_)))
 intro og ax ff
 have mB:=MpR.nil wED wEL
 refine oA Z Z (eN (zK (sR fL4 Z (oR Z (zC Z cQ zt Z Zt) (oL Z (ff.ldB (j:=2) Z Z Z yM (v:=.slice am p0.Teams.length an) Z) (oR Z (ze Z Z ZS) (oM Z Z (eN (zU (bnK ch fun pL lN ml=>?_))))))))))
 have q:=wBM lN
 obtain ⟨dh,lP⟩:=q
 replace dh:=zG dh
 refine CK.forN' (fun bi fM J_ w_=>∃ (U_:PHeap) (bU:Array MapEntry) (cN:Nat),J_ 94=jV (↑bi:Int)/\J_ 1=.pointer (some ⟨b2,0,none⟩)/\J_ 2=.pointer (some ⟨b6,0,none⟩)/\J_ 14=.map (some ax)/\J_ 92=.slice am p0.Teams.length an/\J_ 93=jV (↑p0.Teams.length:Int)/\PHeap.Le aZ U_/\sW w U U_ [.obj ax (.map bU cN),B2,.blk b2 89 B0,.obj af (.deferred (some [])),.obj ah (.deferred (some [])),.obj ay (.deferred (some []))] w_/\MpR bU wED wEL fM) lP ?_ ?_ ?_
 exact ⟨aZ,#[],0,Z,cQ,cR,Z,Z,Z,(zQ _),ff,mB⟩
 rintro bi fM pK mS oh df ⟨bT,bU,cN,cW,iv,iw,ey,eA,eB,fW,fg,iV⟩ mE
 have eb:Hid ((↑bi:Int) < (↑p0.Teams.length:Int)):=zG (wBR df)
 replace df:=zG df
 have lR:Hid (w64 ((↑bi:Int) + 1)=(↑(bi + 1):Int)):=zG (by have h1:=dh.out;have h2:=eb.out;rw [wAa] <;> omega)
 refine sR fL1 Z (oR Z (zR Z cW eB) (eN (zK (cT Z eb (kN (zK (zU (sR gAs Z (bnK mE fun aw eS mm=>?_)))))))))
 have iW:=eP.le mG
 have iX:=iW.le fW
 have q:=iX.el (wAk eS)
 obtain ⟨g9,mI,pC,i8,cY,mC⟩:=q
 obtain ⟨dx,dF,dy,dG,rfl,oE,oG⟩:=mC
 replace cY:Cl bT g9 (mI + bi * 3) [jV aw.Bib,.slice dx aw.Classes.length dF,.slice dy aw.Legs.length dG]:=cY
 refine oR Z (ZD Z eA i8 cW ZS Zc (wBi eS)) (oL Z (fg.ldCA (f:=0) cY Z Z yy Zc (us:=[jV aw.Bib,.slice dx aw.Classes.length dF,.slice dy aw.Legs.length dG]) Z Z) (zy (cs:=[jV 0,.slice none 0 0,.slice none 0 0]) Z Z Z Z Z yQ Z fg ?_))
 intro oj d7 j4
 let B9:List Value:=[jV aw.Bib,.slice dx aw.Classes.length dF,.slice dy aw.Legs.length dG]
 refine ZA (j:=0) (vs:=B9) Z Z Z Z j4 Z Z Z Z Zc (zB Z) Z Z Z ?_
 intro gH j5
 have fh:sW w U bT [.blk d7 101 B9,.obj ax (.map bU cN),B2,.blk b2 89 B0,.obj af (.deferred (some [])),.obj ah (.deferred (some [])),.obj ay (.deferred (some []))] gH:=j5
 refine eN (rR (wEz (.fx 3 .nil .stop)) rfl (zO rfl rfl rfl rfl rfl ey (zT rfl rfl rfl rfl (fun _=>zC rfl rfl ZX rfl zD) (zn rfl rfl rfl rfl (fh.ldB (j:=0) rfl rfl rfl zN (v:=jV aw.Bib) rfl) rfl (OKS.mapPut (x:=.tmp 98) (y:=.tmp 100) (j:=1) (mk:=wED) (mv:=wEL) (a:=aw.Bib) (v:=true) rfl rfl rfl (by first | exact .inl rfl | exact .inr rfl) fh rfl rfl rfl rfl (wBq yD) wFb iV rfl ?_)))))
 intro ee ed gI mD j6
 have j7:sW w U bT [.blk d7 101 B9,.obj ax (.map ee ed),B2,.blk b2 89 B0,.obj af (.deferred (some [])),.obj ah (.deferred (some [])),.obj ay (.deferred (some []))] gI:=j6
 refine zb (za (zF (rR fL2 Z (oR Z (zr (zX Z cW Z) (congrArg (jV) lR.out)) (oM Z Z (zb ?_))))))
 cases mm
 exact zF ⟨rfl,⟨bT,ee,ed,rfl,iv,iw,ey,eA,eB,fW,(j7.pick [1,2,3,4,5,6] _ (by decide) rfl),mD⟩⟩
 rintro mT om ⟨ba,bg,be,iC,ix,bV,iy,oz,iz,o5,ca,iY⟩
 have ic:Hid (¬ ((↑(((↑p0.Teams.length:Int):Int) - 0).toNat:Int) < (↑p0.Teams.length:Int))):=zG (wAr)
 refine sR fL1 Z (oR Z (zR Z iC iz) (eN (zK (cF Z ic (ZG (zc (zc (zz (zF (zK (sR fL6 Z (oM Z iy (oL Z (ca.lenM (j:=0) (mk:=wED) (mv:=wEL) Z Z Z (wBq yD) iY) (oR Z (zC Z ix zt Z Zt) (oL Z (ca.ldB (j:=2) Z Z Z yM (v:=.slice am p0.Teams.length an) Z) (oR Z (ze Z Z ZS) (oR Z (zR Z Z Z) (eN (ifc ml ?_ ?_)))))))))))))))))))
 intro cL mo
 refine cT Z cL (sR (.fx 0 .nil .stop) Z (ZA (j:=1) (vs:=[jV 5]) Z Z Z Z ca Z bV Z Z yo (zB Z) Z Z Z ?_))
 intro gJ j8
 let co:Res:=.blk b6 41 [jV 5]
 have j9:sW w U ba [.obj ax (.map bg be),co,.blk b2 89 B0,.obj af (.deferred (some [])),.obj ah (.deferred (some [])),.obj ay (.deferred (some []))] gJ:=j8
 refine eN (zP (zZ (wEc (by first | exact .inl rfl | exact .inr rfl) (rbs:=[ay,ah,af]) (L:=[.obj ax (.map bg be),co,.blk b2 89 B0]) (j9.pick [0,1,2,5,4,3] _ (by decide) rfl) fun gK k4=>?_)))
 have fk:sW w U ba [.obj ax (.map bg be),co,.blk b2 89 B0] gK:=k4
 cases mo
 exact ⟨_,(wHI (v:=jV 5) ⟨⟨_,bV,(wIf yr (fk.blkAt (k:=1) rfl) rfl)⟩,trivial⟩),ba,_,(fk.pick [] _ (by decide) rfl),rfl,rfl⟩
 intro cL mp
 refine cF Z cL (kN (sR (.fx 0 .nil .stop) Z (ZA (j:=1) (vs:=[jV 0]) Z Z Z Z ca Z bV Z Z yo (zB Z) Z Z Z ?_)))
 intro gL k5
 have k6:sW w U ba [.obj ax (.map bg be),B2,.blk b2 89 B0,.obj af (.deferred (some [])),.obj ah (.deferred (some [])),.obj ay (.deferred (some []))] gL:=k5
 refine eN (zP (wEc (by first | exact .inl rfl | exact .inr rfl) (rbs:=[ay,ah,af]) (L:=[.obj ax (.map bg be),B2,.blk b2 89 B0]) (k6.pick [0,1,2,5,4,3] _ (by decide) rfl) fun gM k9=>?_))
 have fm:sW w U ba [.obj ax (.map bg be),B2,.blk b2 89 B0] gM:=k9
 cases mp
 exact ⟨_,(wHI (v:=jV 0) ⟨⟨_,bV,(wIf yr (fm.blkAt (k:=1) rfl) rfl)⟩,trivial⟩),ba,_,(fm.pick [] _ (by decide) rfl),rfl,rfl⟩
 try dsimp only at ch
 rintro rfl
 let cp:Res:=.blk b6 41 [jV gj]
 have lb:sW w U aZ [cp,.blk b2 89 B0,.obj af (.deferred (some [])),.obj ah (.deferred (some [])),.obj ay (.deferred (some []))] dX:=fe
 refine zm (zZ (wEc (by first | exact .inl rfl | exact .inr rfl) (rbs:=[ay,ah,af]) (L:=[cp,.blk b2 89 B0]) (lb.pick [0,1,4,3,2] _ (by decide) rfl) fun gN lc=>?_))
 have fq:sW w U aZ [cp,.blk b2 89 B0] gN:=lc
 have hE:=hM ch;first | subst r | cases hE
 exact ⟨_,(wHI (v:=jV gj) ⟨⟨_,cR,(wIf yr (fq.blkAt (k:=0) rfl) rfl)⟩,trivial⟩),aZ,_,(fq.pick [] _ (by decide) rfl),rfl,rfl⟩
 try dsimp only at cg
 rintro rfl
 let cr:Res:=.blk b6 41 [jV gi]
 have lg:sW w U bu [cr,.blk b2 89 B0,.obj af (.deferred (some [])),.obj ah (.deferred (some []))] cE:=e8
 refine zm (zZ (wEc (by first | exact .inl rfl | exact .inr rfl) (rbs:=[ah,af]) (L:=[cr,.blk b2 89 B0]) (lg.pick [0,1,3,2] _ (by decide) rfl) fun gO lh=>?_))
 have ft:sW w U bu [cr,.blk b2 89 B0] gO:=lh
 have hE:=hM cg;first | subst r | cases hE
 exact ⟨_,(wHI (v:=jV gi) ⟨⟨_,cP,(wIf yr (ft.blkAt (k:=0) rfl) rfl)⟩,trivial⟩),bu,_,(ft.pick [] _ (by decide) rfl),rfl,rfl⟩
 try dsimp only at cd
 rintro rfl
 let ct:Res:=.blk b6 41 [jV gh]
 have li:sW w U bs [ct,.blk b2 89 B0,.obj af (.deferred (some []))] cD:=eX
 refine zm (zZ (wEc (by first | exact .inl rfl | exact .inr rfl) (rbs:=[af]) (L:=[ct,.blk b2 89 B0]) li fun gP lj=>?_))
 have fu:sW w U bs [ct,.blk b2 89 B0] gP:=lj
 have hE:=hM cd;first | subst r | cases hE
 exact ⟨_,(wHI (v:=jV gh) ⟨⟨_,cU,(wIf yr (fu.blkAt (k:=0) rfl) rfl)⟩,trivial⟩),bs,_,(fu.pick [] _ (by decide) rfl),rfl,rfl⟩
 intro cM mq
 refine zx (nF (cM.out)) (sR (.fx 0 .nil .stop) Z (ZA (j:=0) (vs:=[jV 3]) Z Z Z Z db Z Z Z Z yo (zB Z) Z Z Z ?_))
 intro gQ lk
 let cw:Res:=.blk b6 41 [jV 3]
 have lm:sW w U bx [cw,.blk b2 89 B0] gQ:=lk
 refine eN (zP (zm (zZ (wEc (by first | exact .inl rfl | exact .inr rfl) (rbs:=[]) (L:=[cw,.blk b2 89 B0]) lm fun gR ln=>?_))))
 have fw:sW w U bx [cw,.blk b2 89 B0] gR:=ln
 cases mq
 exact ⟨_,(wHI (v:=jV 3) ⟨⟨_,rfl,(wIf yr (fw.blkAt (k:=0) rfl) rfl)⟩,trivial⟩),bx,_,(fw.pick [] _ (by decide) rfl),rfl,rfl⟩
 intro au mr
 refine zW Z Z Z (zY Z Z (nF (au.out)) Z) (zW Z Z Z (zY Z Z (nF (au.out)) Z) (Zl Z Z Z (zY Z Z (nF (au.out)) Z) (zW Z Z Z (zY Z Z (nF (au.out)) Z) (oR Z (zV Z (nF (au.out)) Z) (oA Z Z (eN (zx Z (sR (.fx 0 .nil .stop) Z (ZA (j:=0) (vs:=[jV 3]) Z Z Z Z da Z Z Z Z yo (zB Z) Z Z Z ?_)))))))))
 intro gS lp
 let cx:Res:=.blk b6 41 [jV 3]
 have lq:sW w U aY [cx,.blk b2 89 B0] gS:=lp
 refine eN (zP (zm (zZ (wEc (by first | exact .inl rfl | exact .inr rfl) (rbs:=[]) (L:=[cx,.blk b2 89 B0]) lq fun gT ls=>?_))))
 have fy:sW w U aY [cx,.blk b2 89 B0] gT:=ls
 cases mr
 exact ⟨_,(wHI (v:=jV 3) ⟨⟨_,rfl,(wIf yr (fy.blkAt (k:=0) rfl) rfl)⟩,trivial⟩),aY,_,(fy.pick [] _ (by decide) rfl),rfl,rfl⟩
 intro cJ mu
 refine zx (nF (cJ.out)) (sR (.fx 0 .nil .stop) Z (ZA (j:=0) (vs:=[jV 2]) Z Z Z Z c8 Z Z Z Z yo (zB Z) Z Z Z ?_))
 intro gU lu
 let cy:Res:=.blk b6 41 [jV 2]
 have lv:sW w U bw [cy,.blk b2 89 B0] gU:=lu
 refine eN (zP (zm (zZ (wEc (by first | exact .inl rfl | exact .inr rfl) (rbs:=[]) (L:=[cy,.blk b2 89 B0]) lv fun gV lw=>?_))))
 have fz:sW w U bw [cy,.blk b2 89 B0] gV:=lw
 cases mu
 exact ⟨_,(wHI (v:=jV 2) ⟨⟨_,rfl,(wIf yr (fz.blkAt (k:=0) rfl) rfl)⟩,trivial⟩),bw,_,(fz.pick [] _ (by decide) rfl),rfl,rfl⟩
 intro ak mw
 refine zW Z Z Z (zY Z Z (nF (ak.out)) Z) (zW Z Z Z (zY Z Z (nF (ak.out)) Z) (zW Z Z Z (zY Z Z (nF (ak.out)) Z) (zW Z Z Z (zY Z Z (nF (ak.out)) Z) (zW Z Z Z (zY Z Z (nF (ak.out)) Z) (Zl Z Z Z (zY Z Z (nF (ak.out)) Z) (zW Z Z Z (zY Z Z (nF (ak.out)) Z) (oR Z (zV Z (nF (ak.out)) Z) (oA Z Z (eN (zx Z (sR (.fx 0 .nil .stop) Z (ZA (j:=0) (vs:=[jV 2]) Z Z Z Z bZ Z Z Z Z yo (zB Z) Z Z Z ?_))))))))))))
 intro gW lx
 let cz:Res:=.blk b6 41 [jV 2]
 have ly:sW w U aX [cz,.blk b2 89 B0] gW:=lx
 refine eN (zP (zm (zZ (wEc (by first | exact .inl rfl | exact .inr rfl) (rbs:=[]) (L:=[cz,.blk b2 89 B0]) ly fun gX lz=>?_))))
 have fA:sW w U aX [cz,.blk b2 89 B0] gX:=lz
 cases mw
 exact ⟨_,(wHI (v:=jV 2) ⟨⟨_,rfl,(wIf yr (fA.blkAt (k:=0) rfl) rfl)⟩,trivial⟩),aX,_,(fA.pick [] _ (by decide) rfl),rfl,rfl⟩
 intro cG mx
 refine cT Z cG (sR gAl Z (oM Z Z (ZA (j:=0) (vs:=[jV x9]) Z Z Z Z cZ Z Z Z Z yo (zB Z) Z Z Z ?_)))
 intro gY lA
 let cA:Res:=.blk b6 41 [jV x9]
 have lB:sW w U br [cA,.blk b2 89 B0] gY:=lA
 refine eN (zP (zm (zZ (wEc (by first | exact .inl rfl | exact .inr rfl) (rbs:=[]) (L:=[cA,.blk b2 89 B0]) lB fun g6 lC=>?_))))
 have fB:sW w U br [cA,.blk b2 89 B0] g6:=lC
 have hE:=hM mx;first | subst r | cases hE
 exact ⟨_,(wHI (v:=jV x9) ⟨⟨_,rfl,(wIf yr (fB.blkAt (k:=0) rfl) rfl)⟩,trivial⟩),br,_,(fB.pick [] _ (by decide) rfl),rfl,rfl⟩
end Go.Proofs.YtlmekamhphnmjaaGreat
namespace Go.Proofs.YtlmekamhphnmjaaGreat
open Go.KL
set_option maxHeartbeats 4000000
theorem wFc (p0:wAS) (ay:Option Addr) (az:Nat) (ak:Option Addr) (am:Nat) (w:World) (U:PHeap) (hS:St0 w U []) (di:Sl U 1 ay az p0.Rules.Classes.length (hD KL.encI p0.Rules.Classes)) (bX:SlR U wFJ ak am p0.Teams) {r:(Option wDr) × Int} (hm:wDX p0=some r):Gv Tryz.prog 63 [.agg #[.slice ay p0.Rules.Classes.length az,jV p0.Rules.Each,jV p0.Rules.Laps,jV p0.Rules.Spare,jV p0.Rules.Loop,jV p0.Rules.Unused,jV p0.Start,.slice ak p0.Teams.length am]] w (wBj w [] U (fun U_ L_ v=>match r.1 with | none=>v=.tuple #[.pointer none,jV r.2]/\L_=[] | some d=>∃ (b0:Nat) (A0p000:Option Addr) (c0p000:Nat) (A0p02:Option Addr) (c0p02:Nat) (A0p1:Option Addr) (c0p1:Nat) (cs0p1:List Value),v=.tuple #[.pointer (some ⟨b0,0,none⟩),jV r.2]/\L_=[.blk b0 183 [.slice A0p000 d.Race.Rules.Classes.length c0p000,jV d.Race.Rules.Each,jV d.Race.Rules.Laps,jV d.Race.Rules.Spare,jV d.Race.Rules.Loop,jV d.Race.Rules.Unused,jV d.Race.Start,.slice A0p02 d.Race.Teams.length c0p02,.slice A0p1 d.after.length c0p1],.row A0p1 c0p1 31 1 cs0p1]/\Sl U_ 1 A0p000 c0p000 d.Race.Rules.Classes.length (hD KL.encI d.Race.Rules.Classes)/\SlR U_ wFJ A0p02 c0p02 d.Race.Teams/\RlL U_ wFw d.after cs0p1)):=by
 unfold wDX at hm
 refine Gv.of Tryz.func63 Z Tryz.ntmps63 Tryz.results63 Z (sR gAq Z ?_)
 let B0:List Value:=[.slice ay p0.Rules.Classes.length az,jV p0.Rules.Each,jV p0.Rules.Laps,jV p0.Rules.Spare,jV p0.Rules.Loop,jV p0.Rules.Unused,jV p0.Start,.slice ak p0.Teams.length am]
 refine ZB (cs:=B0) rfl rfl rfl rfl rfl rfl (by rfl) hS ?_
 intro W1 b2 de
 refine oA Z Z (oA Z Z (eN (zK (sR gAo Z (oL Z (de.ldBA (j:=0) Z Z Z yh Zp (vs:=B0) Z Z) (bnK hm fun x5 h6 gT=>zI 0 Z Z Z Z (zJ Z Z Tryz.call117 (zA Z zM) Z) de (fun hs=>wJG p0 ay az ak am W1 U hs di bX h6) (.inr Z) ?_))))))
 rintro U8 L9 iI dI ch fV ⟨rfl,rfl⟩
 have bV:sW w U U8 [.blk b2 89 B0] dI:=fV
 refine oA Z Z (eN (sR fL2 Z (oM Z Z (oR Z (Ze Z Z Z) (eN (ifc gT ?_ ?_))))))
 intro bI gI
 refine zg (zo (fun h=>h bI.out)) (kN (sR gAr Z (oL Z (bV.ldBA (j:=0) Z Z Z yh Zp (vs:=B0) Z Z) ?_)))
 let B1:List Value:=[.slice ay p0.Rules.Classes.length az,jV p0.Rules.Each,jV p0.Rules.Laps,jV p0.Rules.Spare,jV p0.Rules.Loop,jV p0.Rules.Unused,jV p0.Start,.slice ak p0.Teams.length am,.slice none 0 0]
 refine zT rfl rfl rfl rfl (fun _=>ZI (pv:=[(0,.agg B0.toArray)]) (z:=[.slice none 0 0,jV 0,jV 0,jV 0,jV 0,jV 0,jV 0,.slice none 0 0,.slice none 0 0]) (cs:=B1) rfl (wAH rfl wAY) Tryz.zeroValue183 wMf rfl rfl) (ZB (cs:=B1) rfl rfl rfl rfl rfl rfl (by rfl) bV ?_)
 intro iu aM da
 refine oA Z Z (eN (zK (sR fL7 Z (oM Z Z (oR Z (ZJ Z Z) (oR Z (zC Z Z Zf Z Zp) (oR Z (zC Z Z zt Z Zt) (oL Z (da.ldB (j:=0) Z Z Z yM (v:=.slice ak p0.Teams.length am) Z) (oR Z (ze Z Z ZS) (oM Z Z (eN (zU (bnK gI fun iU gD gR=>?_)))))))))))))
 have q:=wBM gD
 obtain ⟨cg,gE⟩:=q
 replace cg:=zG cg
 refine CK.forN' (fun ax ba J_ w_=>∃ (U_:PHeap) (aU:Option Addr) (aX:Nat) (bw:List Value),J_ 29=jV (↑ax:Int)/\J_ 5=.pointer (some ⟨aM,0,none⟩)/\J_ 27=.slice ak p0.Teams.length am/\J_ 28=jV (↑p0.Teams.length:Int)/\PHeap.Le U8 U_/\sW w U U_ [.row aU aX 31 1 bw,.blk aM 183 [.slice ay p0.Rules.Classes.length az,jV p0.Rules.Each,jV p0.Rules.Laps,jV p0.Rules.Spare,jV p0.Rules.Loop,jV p0.Rules.Unused,jV p0.Start,.slice ak p0.Teams.length am,.slice aU ba.length aX],.blk b2 89 B0] w_/\RlL U_ wFw ba bw) gE ?_ ?_ ?_
 have gw:=da.nilrow 31 1
 exact ⟨U8,none,0,[],Z,Z,Z,Z,(zQ _),gw,RlL.nil⟩
 rintro ax ba iQ im iz ca ⟨br,aU,aX,bw,bQ,cU,cV,cW,dz,dh,fL⟩ g6
 have cH:Hid ((↑ax:Int) < (↑p0.Teams.length:Int)):=zG (wBR ca)
 replace ca:=zG ca
 have gG:Hid (w64 ((↑ax:Int) + 1)=(↑(ax + 1):Int)):=zG (by have h1:=cg.out;have h2:=cH.out;rw [wAa] <;> omega)
 refine sR fL1 Z (oR Z (zR Z bQ cW) (eN (zK (cT Z cH (kN (zK (zU (sR gAs Z (bnK g6 fun ac cZ gS=>?_)))))))))
 have fM:=bX.le ch
 have fN:=fM.le dz
 have q:=fN.el (wAk cZ)
 obtain ⟨d5,ic,iM,fS,bU,gX⟩:=q
 obtain ⟨cj,co,aQ,aR,rfl,iG,fO⟩:=gX
 replace bU:Cl br d5 (ic + ax * 3) [jV ac.Bib,.slice cj ac.Classes.length co,.slice aQ ac.Legs.length aR]:=bU
 refine oR Z (ZD Z cV fS bQ ZS Zc (wBi cZ)) (oL Z (dh.ldCA (f:=0) bU Z Z yy Zc (us:=[jV ac.Bib,.slice cj ac.Classes.length co,.slice aQ ac.Legs.length aR]) Z Z) ?_)
 let B2:List Value:=[jV 0,.slice none 0 0,.slice none 0 0]
 refine zy (cs:=B2) Z Z Z Z Z yQ Z dh ?_
 intro iA ai gx
 let B3:List Value:=[jV ac.Bib,.slice cj ac.Classes.length co,.slice aQ ac.Legs.length aR]
 refine ZA (j:=0) (vs:=B3) Z Z Z Z gx Z Z Z Z Zc (zB Z) Z Z Z ?_
 intro dU gy
 let B4:Res:=.blk aM 183 [.slice ay p0.Rules.Classes.length az,jV p0.Rules.Each,jV p0.Rules.Laps,jV p0.Rules.Spare,jV p0.Rules.Loop,jV p0.Rules.Unused,jV p0.Start,.slice ak p0.Teams.length am,.slice aU ba.length aX]
 let B5:Res:=.row aU aX 31 1 bw
 have bW:sW w U br [.blk ai 101 B3,B5,B4,.blk b2 89 B0] dU:=gy
 refine eN (sR fL6 Z (oM Z cU (oR Z (ZJ Z Z) (oR Z (zC Z Z Zf Z Zp) (oR Z (zC Z Z zt Z zD) (oL Z (bW.ldB (j:=2) Z Z Z zN (v:=jV p0.Start) Z) (oA Z Z (eN (sR fL1 Z (oA Z Z (eN (zK (sR fL4 Z (oR Z (zC Z Z ZX Z Tryz.sizeOf99) (oL Z (bW.ldB (j:=0) Z Z Z Tryz.isAgg99 (v:=.slice aQ ac.Legs.length aR) Z) (oR Z (ze Z Z Zu) (oM Z Z (eN (zU ?_)))))))))))))))))))
 have q:=bnd gS
 obtain ⟨⟨iR,aS⟩,gz,dn⟩:=q
 try dsimp only at dn
 have q:=wBM gz
 obtain ⟨cc,gA⟩:=q
 replace cc:=zG cc
 refine CK.forN' (fun aN (dA,bA) J_ w_=>∃ (U_:PHeap) (bb:Option Addr) (bi:Nat),J_ 41=jV (↑aN:Int)/\J_ 5=.pointer (some ⟨aM,0,none⟩)/\J_ 8=jV dA/\J_ 9=.slice bb bA.length bi/\J_ 27=.slice ak p0.Teams.length am/\J_ 28=jV (↑p0.Teams.length:Int)/\J_ 29=jV (↑ax:Int)/\J_ 39=.slice aQ ac.Legs.length aR/\J_ 40=jV (↑ac.Legs.length:Int)/\PHeap.Le br U_/\sW w U U_ [.blk ai 101 B3,B5,B4,.blk b2 89 B0,.row bb bi 3 1 (hD KL.encI bA)] w_) gA ?_ ?_ ?_
 have fU:=bW.nilrow 3 1
 exact ⟨br,none,0,rfl,cU,rfl,rfl,cV,cW,bQ,rfl,rfl,(zQ _),(fU.pick [1,2,3,4,0] _ (by decide) rfl)⟩
 rintro aN ⟨dA,bA⟩ iO ig ir bY ⟨bq,bb,bi,bP,ee,eh,ep,eu,ey,eA,cI,cJ,dv,c7⟩ dt
 try dsimp only at dt
 have cC:Hid ((↑aN:Int) < (↑ac.Legs.length:Int)):=zG (wBR bY)
 replace bY:=zG bY
 have gF:Hid (w64 ((↑aN:Int) + 1)=(↑(aN + 1):Int)):=zG (by have h1:=cc.out;have h2:=cC.out;rw [wAa] <;> omega)
 refine sR fL1 Z (oR Z (zR Z bP cJ) (eN (zK (cT Z cC (kN (zK (zU (sR gAs Z (bnK dt fun af cX gH=>?_)))))))))
 have fk:=fO.le dv
 have q:=fk.el (wAk cX)
 obtain ⟨dV,g9,iK,fP,bS,gU⟩:=q
 obtain ⟨bk,bm,bC,bD,rfl,fm,fq⟩:=gU
 replace bS:Cl bq dV (g9 + aN * 3) [jV af.Skier,.slice bk af.Loops.length bm,.slice bC af.Bouts.length bD]:=bS
 refine oR Z (ZD Z cI fP bP Zu Zh (wBi cX)) (oL Z (c7.ldCA (f:=0) bS Z Z Tryz.isAgg98 Zh (us:=[jV af.Skier,.slice bk af.Loops.length bm,.slice bC af.Bouts.length bD]) Z Z) (zy (cs:=B2) Z Z Z Z Z yK Z c7 ?_))
 intro it av fW
 let B6:List Value:=[jV af.Skier,.slice bk af.Loops.length bm,.slice bC af.Bouts.length bD]
 refine ZA (j:=0) (vs:=B6) Z Z Z Z fW Z Z Z Z Zh (zB Z) Z Z Z ?_
 intro dJ fY
 have c8:sW w U bq [.blk av 98 B6,.blk ai 101 B3,B5,B4,.blk b2 89 B0,.row bb bi 3 1 (hD KL.encI bA)] dJ:=fY
 refine eN (sR fL4 Z (oR Z (zC Z Z Zd Z zk) (oL Z (c8.ldB (j:=0) Z Z Z zu (v:=.slice bk af.Loops.length bm) Z) (oR Z (ze Z Z zH) (oM Z Z (eN (zU ?_)))))))
 have q:=bnd gH
 obtain ⟨⟨iS,iT⟩,gB,dp⟩:=q
 try dsimp only at dp
 have q:=wBM gB
 obtain ⟨cd,gC⟩:=q
 replace cd:=zG cd
 refine CK.forN' (fun aP (ap,aO) J_ w_=>∃ (U_:PHeap) (aT:Option Addr) (aW:Nat),J_ 48=jV (↑aP:Int)/\J_ 5=.pointer (some ⟨aM,0,none⟩)/\J_ 8=jV ap/\J_ 9=.slice aT aO.length aW/\J_ 11=.pointer (some ⟨av,0,none⟩)/\J_ 27=.slice ak p0.Teams.length am/\J_ 28=jV (↑p0.Teams.length:Int)/\J_ 29=jV (↑ax:Int)/\J_ 39=.slice aQ ac.Legs.length aR/\J_ 40=jV (↑ac.Legs.length:Int)/\J_ 41=jV (↑aN:Int)/\J_ 47=jV (↑af.Loops.length:Int)/\PHeap.Le bq U_/\sW w U U_ [.blk av 98 B6,.blk ai 101 B3,B5,B4,.blk b2 89 B0,.row aT aW 3 1 (hD KL.encI aO)] w_) gC ?_ ?_ ?_
 exact ⟨bq,bb,bi,Z,ee,eh,ep,Z,eu,ey,eA,cI,cJ,bP,Z,(zQ _),c8⟩
 rintro aP ⟨ap,aO⟩ iP ii dK bZ ⟨bg,aT,aW,bz,cK,eB,cL,bx,cM,cN,cO,cP,cQ,cR,bM,bB,aY⟩ du
 try dsimp only at du
 have cD:Hid ((↑aP:Int) < (↑af.Loops.length:Int)):=zG (wBR bZ)
 replace bZ:=zG bZ
 have dm:Hid (w64 ((↑aP:Int) + 1)=(↑(aP + 1):Int)):=zG (by have h1:=cd.out;have h2:=cD.out;rw [wAa] <;> omega)
 refine sR fL1 Z (oR Z (zR Z bz bM) (eN (zK (cT Z cD (kN (zK (zU (sR fL2 Z (oM Z bz (oA Z Z (eN (sR fL8 Z (oM Z eB (oR Z (zC Z bx Zd Z zk) (oL Z (aY.ldB (j:=0) Z Z Z zu (v:=.slice bk af.Loops.length bm) Z) (oM Z Z (bnK du fun au cY gJ=>?_)))))))))))))))))
 have ft:=fm.le bB
 have q:=ft.el (fun _=>rfl) (wAk cY)
 obtain ⟨iB,iH,fQ,fT⟩:=q
 refine oR Z (ZD Z Z fQ Z zH zD (wBi cY)) (oL Z (aY.ldC (f:=0) fT (v:=jV au) Z Z zN Z) (oR Z (zX Z Z Z) (oA Z Z (eN (zK (sR fL2 Z (oM Z Z (oR Z (yP Z Z Z) (eN (ifc gJ ?_ ?_))))))))))
 intro bJ gK
 refine cT Z bJ (sR (wJb (.fx 6 (fC7_9 (.fx 10 (.fx 11 (.fl 12 .nil) .stop) .stop)) .stop)) Z (oR Z (zC Z bx Zd Z Tryz.sizeOf96) (oL Z (aY.ldB (j:=0) Z Z Z Tryz.isAgg96 (v:=.slice bC af.Bouts.length bD) Z) (oM Z Z (oR Z (ZN Z Z Z) (bnK gK fun cp bR gL=>?_))))))
 have fu:=fq.le bB
 have q:=fu.el (wAk bR)
 obtain ⟨dW,ib,iL,fR,bT,gV⟩:=q
 obtain ⟨ci,cm,rfl,fw⟩:=gV
 replace bT:Cl bg dW (ib + (w64 ((↑aP:Int) - 1)).toNat * 1) [.slice ci cp.length cm]:=bT
 refine oR Z (ZU Z Z fR Z yX YG (wFN bR) (wFh bR)) (oL Z (aY.ldC (f:=0) bT (v:=.slice ci cp.length cm) Z Z Tryz.isAgg90 Z) ?_)
 have q:=bnd gL
 obtain ⟨⟨ae,ie⟩,fy,dq⟩:=q
 try dsimp only at dq
 refine zI 0 Z Z Z Z (zJ Z Z Tryz.call25 (zA Z zM) Z) aY (fun hs=>wFF cp ci cm dK bg hs fw fy) (.inr Z) ?_
 rintro bh io iJ dL g7 fZ ⟨rfl,rfl⟩
 let B7:Res:=.row aT aW 3 1 (hD KL.encI aO)
 have f0:sW w U bh [.blk av 98 B6,.blk ai 101 B3,B5,B4,.blk b2 89 B0,B7] dL:=fZ
 refine oM Z Z (oR Z (ZL Z Z (v:=.agg #[jV ae.Spares,jV ae.Loops,jV ae.Unused]) Z) (oR Z (ZL Z Z (v:=jV ie) Z) (zy (cs:=[jV 0,jV 0,jV 0]) Z Z Z Z Z yO Z f0 ?_)))
 intro iv bu f3
 let B8:List Value:=[jV ae.Spares,jV ae.Loops,jV ae.Unused]
 refine ZA (j:=0) (vs:=B8) Z Z Z Z f3 Z Z Z Z Zv (zB Z) Z Z Z ?_
 intro bH f4
 have f7:sW w U bh [.blk bu 93 B8,.blk av 98 B6,.blk ai 101 B3,B5,B4,.blk b2 89 B0,B7] bH:=f4
 refine oA Z Z (eN (yg fun ao aj=>?_))
 have bN:ao 5=.pointer (some ⟨aM,0,none⟩):=(aj 5).trans cK
 have eC:ao 8=jV (w64 (ap + au)):=(aj 8).trans rfl
 have eD:ao 9=.slice aT aO.length aW:=(aj 9).trans cL
 have eF:ao 11=.pointer (some ⟨av,0,none⟩):=(aj 11).trans bx
 have cS:ao 13=.pointer (some ⟨bu,0,none⟩):=(aj 13).trans rfl
 have eG:ao 27=.slice ak p0.Teams.length am:=(aj 27).trans cM
 have eH:ao 28=jV (↑p0.Teams.length:Int):=(aj 28).trans cN
 have eI:ao 29=jV (↑ax:Int):=(aj 29).trans cO
 have eJ:ao 39=.slice aQ ac.Legs.length aR:=(aj 39).trans cP
 have eK:ao 40=jV (↑ac.Legs.length:Int):=(aj 40).trans cQ
 have eM:ao 41=jV (↑aN:Int):=(aj 41).trans cR
 have eO:ao 47=jV (↑af.Loops.length:Int):=(aj 47).trans bM
 have eP:ao 48=jV (↑aP:Int):=(aj 48).trans bz
 clear aj
 refine ZQ ZK [3,3,1,3,3,3,3,3,1,3,3,1,3,3,3,3,3,1,3,3,3,3] fL22 (by kernel_rfl) ?_
 have aZ:=f7.drew
 generalize hw_W268:({ bH with drawn:=bH.drawn + 1 }:World)=iw at aZ ⊢
 refine oM Z eC (oR Z (zC Z cS yV Z zD) (oL Z (aZ.ldB (j:=0) Z Z Z zN (v:=jV ae.Spares) Z) (oM Z bN (oR Z (ZJ Z Z) (oR Z (zC Z Z Zf Z Zp) (oR Z (zC Z Z zt Z yS) (oR Z (zC Z Z ZW Z zD) (oL Z (aZ.ldB (j:=4) Z Z Z zN (v:=jV p0.Rules.Spare) Z) (oR Z (YK Z Z Z) (oR Z (zC Z cS yV Z zD) (oL Z (aZ.ldB (j:=0) Z Z Z zN (v:=jV ae.Loops) Z) (oM Z bN (oR Z (ZJ Z Z) (oR Z (zC Z Z Zf Z Zp) (oR Z (zC Z Z zt Z yS) (oR Z (zC Z Z ZW Z zD) (oL Z (aZ.ldB (j:=4) Z Z Z zN (v:=jV p0.Rules.Loop) Z) (oR Z (YK Z Z Z) (oR Z (zX Z Z Z) (oR Z (zX Z Z Z) (oA Z Z (eN (rR gAv Z (oM Z eD (oM Z Z (ZF (pv:=[(0,jV (w64 ((w64 (ap + au)) + (w64 ((w64 (ae.Spares * p0.Rules.Spare)) + (w64 (ae.Loops * p0.Rules.Loop)))))))]) (zs:=[jV 0]) (cs:=[jV (w64 ((w64 (ap + au)) + (w64 ((w64 (ae.Spares * p0.Rules.Spare)) + (w64 (ae.Loops * p0.Rules.Loop))))))]) Z Z Z Z Z (wAH Z wAY) zH zD Zr Z Z Z Z Z aZ ?_))))))))))))))))))))))))))
 intro dM dX f8
 let B9:Res:=.row (some ⟨dX,0,none⟩) 1 3 1 (hD KL.encI [w64 ((w64 (ap + au)) + (w64 ((w64 (ae.Spares * p0.Rules.Spare)) + (w64 (ae.Loops * p0.Rules.Loop)))))])
 have db:sW w U bh [B9,.blk bu 93 B8,.blk av 98 B6,.blk ai 101 B3,B5,B4,.blk b2 89 B0,B7] dM:=f8
 refine bnK dq fun dB fz gM=>yE (j:=7) (enc:=KL.encI) (xs:=aO) (ys:=[w64 ((w64 (ap + au)) + (w64 ((w64 (ae.Spares * p0.Rules.Spare)) + (w64 (ae.Loops * p0.Rules.Loop)))))]) (zs:=dB) rfl rfl rfl rfl rfl yR wGs rfl rfl rfl rfl rfl rfl db rfl rfl rfl (db.srcR (j:=0) rfl (by decide) (wAG (f:=KL.encI) (sz:=1) (fun _=>rfl) [w64 ((w64 (ap + au)) + (w64 ((w64 (ae.Spares * p0.Rules.Spare)) + (w64 (ae.Loops * p0.Rules.Loop)))))])) (fun _=>rfl) (fun _=>rfl) fz rfl ?_
 intro ct cE dN f9
 have gb:sW w U bh [B9,.blk bu 93 B8,.blk av 98 B6,.blk ai 101 B3,B5,B4,.blk b2 89 B0,.row ct cE 3 1 (hD KL.encI dB)] dN:=f9
 refine oA Z Z (zb (za (zF (rR fL2 Z (oR Z (zr (zX Z eP Z) (congrArg (jV) dm.out)) (oM Z Z (zb ?_)))))))
 cases gM
 exact zF ⟨rfl,⟨bh,ct,cE,rfl,bN,rfl,rfl,eF,eG,eH,eI,eJ,eK,eM,eO,(bB.trans g7),(gb.pick [2,3,4,5,6,7] _ (by decide) rfl)⟩⟩
 intro bJ gN
 refine cF Z bJ (kN (rR gAv Z (oM Z cL (oM Z Z (ZF (pv:=[(0,jV (w64 (ap + au)))]) (zs:=[jV 0]) (cs:=[jV (w64 (ap + au))]) Z Z Z Z Z (wAH Z wAY) zH zD Zr Z Z Z Z Z aY ?_)))))
 intro dO dY gc
 let cy:Res:=.row (some ⟨dY,0,none⟩) 1 3 1 (hD KL.encI [w64 (ap + au)])
 have dd:sW w U bg [cy,.blk av 98 B6,.blk ai 101 B3,B5,B4,.blk b2 89 B0,.row aT aW 3 1 (hD KL.encI aO)] dO:=gc
 refine bnK gN fun dC fA gO=>yE (j:=6) (enc:=KL.encI) (xs:=aO) (ys:=[w64 (ap + au)]) (zs:=dC) rfl rfl rfl rfl rfl yR wGs rfl rfl rfl rfl rfl rfl dd rfl rfl rfl (dd.srcR (j:=0) rfl (by decide) (wAG (f:=KL.encI) (sz:=1) (fun _=>rfl) [w64 (ap + au)])) (fun _=>rfl) (fun _=>rfl) fA rfl ?_
 intro cw cG dP ge
 have gf:sW w U bg [cy,.blk av 98 B6,.blk ai 101 B3,B5,B4,.blk b2 89 B0,.row cw cG 3 1 (hD KL.encI dC)] dP:=ge
 refine oA Z Z (zb (za (zF (rR fL2 Z (oR Z (zr (zX Z bz Z) (congrArg (jV) dm.out)) (oM Z Z (zb ?_)))))))
 cases gO
 exact zF ⟨rfl,⟨bg,cw,cG,rfl,cK,rfl,rfl,bx,cM,cN,cO,cP,cQ,cR,bM,bB,(gf.pick [1,2,3,4,5,6] _ (by decide) rfl)⟩⟩
 rintro ij ix ⟨dF,dD,d6,fg,eQ,eR,eS,iC,eT,eU,eV,eW,eX,eY,e7,g8,gg⟩
 have d7:Hid (¬ ((↑(((↑af.Loops.length:Int):Int) - 0).toNat:Int) < (↑af.Loops.length:Int))):=zG (wAr)
 refine sR fL1 Z (oR Z (zR Z fg e7) (eN (zK (cF Z d7 (ZG (zc (zc (zz (za (zF (rR fL2 Z (oR Z (zr (zX Z eY Z) (congrArg (jV) gF.out)) (oM Z Z (zb ?_))))))))))))))
 cases dp
 exact zF ⟨rfl,⟨dF,dD,d6,rfl,eQ,eR,eS,eT,eU,eV,eW,eX,(dv.trans g8),(gg.pick [1,2,3,4,5] _ (by decide) rfl)⟩⟩
 rintro ik dQ ⟨iq,bE,bK,fh,bO,iD,e8,e9,fb,fc,iE,fd,dw,df⟩
 have d8:Hid (¬ ((↑(((↑ac.Legs.length:Int):Int) - 0).toNat:Int) < (↑ac.Legs.length:Int))):=zG (wAr)
 refine sR fL1 Z (oR Z (zR Z fh fd) (eN (zK (cF Z d8 (ZG (zc (zc (zz (zF (rR (wJb (.fx 6 (.fx 7 (.fl 8 (.fl 9 (.fx 10 .nil .stop))) .stop) .stop)) Z (oM Z bO (oM Z bO (oR Z (ZJ Z Z) (oR Z (zC Z Z Zf Z Zz) (oL Z (df.ldB (j:=2) Z Z Z yY (v:=.slice aU ba.length aX) Z) (oM Z e8 ?_))))))))))))))))
 have q:=df.freezeR (k:=4) (n:=aS.length) rfl (wAG (f:=KL.encI) (sz:=1) (fun _=>rfl) aS) (by decide)
 obtain ⟨aV,dx,gY,gi⟩:=q
 have gj:sW w U aV [.blk ai 101 B3,B5,B4,.blk b2 89 B0] dQ:=gi
 let bn:List Value:=[.slice bE aS.length bK]
 refine ZF (pv:=[(0,.slice bE aS.length bK)]) (zs:=[.slice none 0 0]) (cs:=bn) Z Z Z Z Z (wAH Z wAY) ZM zk Tryz.zeroValue31 Z Z Z Z Z gj ?_
 intro dR dZ gh
 have dr:RlL aV wFw [aS] bn:=(RlL.cons (R:=wFw) (x:=aS) (vs:=bn) ⟨bE,bK,rfl,gY⟩ RlL.nil)
 let bF:Res:=.row (some ⟨dZ,0,none⟩) 1 31 1 bn
 have dg:sW w U aV [bF,.blk ai 101 B3,B5,B4,.blk b2 89 B0] dR:=gh
 refine bnK dn fun cr fB gP=>?_
 have fC:=fL.le dw
 have fD:=fC.le dx
 refine OKS.appendR (R:=wFw) (j:=2) (xs:=ba) (ys:=[aS]) (zs:=cr) rfl rfl rfl rfl rfl Tryz.underlying29 wMi rfl rfl rfl rfl rfl rfl rfl dg rfl rfl rfl fD dr (dg.srcR (j:=0) rfl (by decide) (RlL.len dr)) fB rfl ?_
 intro be bj bL dS gm gW
 have gq:sW w U aV [bF,.blk ai 101 B3,.row be bj 31 1 bL,B4,.blk b2 89 B0] dS:=gm
 refine oR Z (ZJ Z Z) (oR Z (zC Z Z Zf Z Zz) (ZA (j:=3) (vs:=[.slice be cr.length bj]) Z Z Z Z gq Z Z Z Z Zz (zB Z) Z Z Z ?_))
 intro dT gr
 have gu:sW w U aV [bF,.blk ai 101 B3,.row be bj 31 1 bL,.blk aM 183 [.slice ay p0.Rules.Classes.length az,jV p0.Rules.Each,jV p0.Rules.Laps,jV p0.Rules.Spare,jV p0.Rules.Loop,jV p0.Rules.Unused,jV p0.Start,.slice ak p0.Teams.length am,.slice be cr.length bj],.blk b2 89 B0] dT:=gr
 refine zb (za (zF (rR fL2 Z (oR Z (zr (zX Z fc Z) (congrArg (jV) gG.out)) (oM Z Z (zb ?_))))))
 cases gP
 exact zF ⟨rfl,⟨aV,be,bj,bL,rfl,bO,e9,fb,((dz.trans dw).trans dx),(gu.pick [2,3,4] _ (by decide) rfl),gW⟩⟩
 rintro il iy ⟨dG,dE,d9,eb,fj,fe,iF,ff,dy,gv,fE⟩
 have ed:Hid (¬ ((↑(((↑p0.Teams.length:Int):Int) - 0).toNat:Int) < (↑p0.Teams.length:Int))):=zG (wAr)
 refine sR fL1 Z (oR Z (zR Z fj ff) (eN (zK (cF Z ed (ZG (zc (zc (zz (zF (sR fL3 Z (oM Z fe (oA Z Z (oA Z Z (eN (zP ?_)))))))))))))))
 have fG:=di.le ch
 have fH:=fG.le dy
 have fI:=bX.le ch
 have fJ:=fI.le dy
 cases gR
 exact ⟨rfl,_,(wHm rfl rfl),dG,_,(gv.pick [1,0] _ (by decide) rfl),aM,ay,az,ak,am,dE,d9,eb,rfl,rfl,fH,fJ,fE⟩
 intro bI gQ
 refine cT Z bI (sR fL3 Z (oM Z Z (oA Z Z (oA Z Z (eN (zP (zZ ?_)))))))
 cases gQ
 exact ⟨rfl,_,(wHm rfl rfl),U8,_,(bV.pick [] _ (by decide) rfl),rfl,rfl⟩
theorem wGv (p0:wDr) (af:Nat) (ao:Option Addr) (aq:Nat) (ap:Option Addr) (au:Nat) (ae:Option Addr) (ag:Nat) (p1:Int) (w:World) (U:PHeap) (hS:St0 w U [.blk af 183 [.slice ao p0.Race.Rules.Classes.length aq,jV p0.Race.Rules.Each,jV p0.Race.Rules.Laps,jV p0.Race.Rules.Spare,jV p0.Race.Rules.Loop,jV p0.Race.Rules.Unused,jV p0.Race.Start,.slice ap p0.Race.Teams.length au,.slice ae p0.after.length ag]]) (ci:Sl U 1 ao aq p0.Race.Rules.Classes.length (hD KL.encI p0.Race.Rules.Classes)) (cj:SlR U wFJ ap au p0.Race.Teams) (bL:SlR U wFw ae ag p0.after) {r:(List Int)} (hm:wCv p0 p1=some r):Gv Tryz.prog 64 [.pointer (some ⟨af,0,none⟩),jV p1] w (wBj w [.blk af 183 [.slice ao p0.Race.Rules.Classes.length aq,jV p0.Race.Rules.Each,jV p0.Race.Rules.Laps,jV p0.Race.Rules.Spare,jV p0.Race.Rules.Loop,jV p0.Race.Rules.Unused,jV p0.Race.Start,.slice ap p0.Race.Teams.length au,.slice ae p0.after.length ag]] U (fun U_ L_ v=>∃ (A0:Option Addr) (c0:Nat),v=.slice A0 r.length c0/\L_=[.row A0 c0 3 1 (hD KL.encI r),.blk af 183 [.slice ao p0.Race.Rules.Classes.length aq,jV p0.Race.Rules.Each,jV p0.Race.Rules.Laps,jV p0.Race.Rules.Spare,jV p0.Race.Rules.Loop,jV p0.Race.Rules.Unused,jV p0.Race.Start,.slice ap p0.Race.Teams.length au,.slice ae p0.after.length ag]])):=by
 unfold wCv at hm
 refine Gv.of Tryz.func64 Z Tryz.ntmps64 Tryz.results64 Z (sR fL1 Z (oA Z Z (eN (sR fL1 Z (oA Z Z (eN (zK (sR fL9 Z (oM Z Z (oR Z (ZJ Z Z) (oR Z (zC Z Z Zf Z Zz) (oL Z (hS.ldB (j:=0) Z Z Z yY (v:=.slice ae p0.after.length ag) Z) (oM Z Z (bnK hm fun x2 h3 bP=>?_))))))))))))))
 have q:=bL.el (wAk h3)
 obtain ⟨b5,bX,cp,bE,aO,bV⟩:=q
 obtain ⟨aU,aV,rfl,bz⟩:=bV
 replace aO:Cl U b5 (bX + p1.toNat * 1) [.slice aU x2.length aV]:=aO
 refine oR Z (ZU Z Z bE Z ZM zk (wFN h3) (wFh h3)) (oL Z (hS.ldC (f:=0) aO (v:=.slice aU x2.length aV) Z Z zu Z) (oR Z (ze Z Z zH) (oM Z Z (eN (zU (bnK bP fun cw bM bO=>?_))))))
 have q:=wBM bM
 obtain ⟨aR,bN⟩:=q
 replace aR:=zG aR
 let B0:Res:=.blk af 183 [.slice ao p0.Race.Rules.Classes.length aq,jV p0.Race.Rules.Each,jV p0.Race.Rules.Laps,jV p0.Race.Rules.Spare,jV p0.Race.Rules.Loop,jV p0.Race.Rules.Unused,jV p0.Race.Start,.slice ap p0.Race.Teams.length au,.slice ae p0.after.length ag]
 refine CK.forN' (fun am an J_ w_=>∃ (U_:PHeap) (ai:Option Addr) (aj:Nat),J_ 16=jV (↑am:Int)/\J_ 0=.pointer (some ⟨af,0,none⟩)/\J_ 5=.slice ai an.length aj/\J_ 14=.slice aU x2.length aV/\J_ 15=jV (↑x2.length:Int)/\PHeap.Le U U_/\SW w [B0] U U_ [B0,.row ai aj 3 1 (hD KL.encI an)] w_) bN ?_ ?_ ?_
 have bG:=hS.nilrow 3 1
 exact ⟨U,none,0,rfl,rfl,rfl,rfl,rfl,(zQ _),(bG.pick [1,0] _ (by decide) rfl)⟩
 rintro am an ct bY ca aQ ⟨av,ai,aj,ak,ay,be,az,aM,aS,aw⟩ bW
 have ba:Hid ((↑am:Int) < (↑x2.length:Int)):=zG (wBR aQ)
 replace aQ:=zG aQ
 have aP:Hid (w64 ((↑am:Int) + 1)=(↑(am + 1):Int)):=zG (by have h1:=aR.out;have h2:=ba.out;rw [wAa] <;> omega)
 refine sR fL1 Z (oR Z (zR Z ak aM) (eN (zK (cT Z ba (kN (zK (zU (sR fL5 Z (oM Z ak (bnK bW fun ah bg bQ=>?_))))))))))
 have bA:=bz.le aS
 have q:=bA.el (fun _=>rfl) (wAk bg)
 obtain ⟨cd,co,bD,bF⟩:=q
 refine oR Z (ZD Z az bD ak zH zD (wBi bg)) (oL Z (aw.ldC (f:=0) bF (v:=jV ah) Z Z zN Z) (oA Z Z (oA Z Z (eN (sR fL10 Z (oM Z Z (oR Z (zr (zX Z Z Z) (congrArg (jV) aP.out)) (oM Z ay (oR Z (ZJ Z Z) (oR Z (zC Z Z Zf Z Zp) (oR Z (zC Z Z zt Z yS) (oR Z (zC Z Z ZW Z zD) (oL Z (aw.ldB (j:=0) Z Z Z zN (v:=jV p0.Race.Rules.Laps) Z) (bnK bQ fun cr bB bR=>oR Z (Runs.rem Z Z Z bB) (oR Z (Zw Z Z Z) (eN (ifc bR ?_ ?_)))))))))))))))))
 intro ax bS
 refine cT Z ax (rR gAv Z (oM Z be (oM Z Z (ZF (pv:=[(0,jV ah)]) (zs:=[jV 0]) (cs:=[jV ah]) Z Z Z Z Z (wAH Z wAY) zH zD Zr Z Z Z Z Z aw ?_))))
 intro bm bq bH
 let B1:Res:=.row (some ⟨bq,0,none⟩) 1 3 1 (hD KL.encI [ah])
 have bh:SW w [B0] U av [B1,B0,.row ai aj 3 1 (hD KL.encI an)] bm:=bH
 refine bnK bS fun bi bC bT=>yE (j:=2) (enc:=KL.encI) (xs:=an) (ys:=[ah]) (zs:=bi) rfl rfl rfl rfl rfl yR wGs rfl rfl rfl rfl rfl rfl bh rfl rfl rfl (bh.srcR (j:=0) rfl (by decide) (wAG (f:=KL.encI) (sz:=1) (fun _=>rfl) [ah])) (fun _=>rfl) (fun _=>rfl) bC rfl ?_
 intro aX bb bn bI
 have bJ:SW w [B0] U av [B1,B0,.row aX bb 3 1 (hD KL.encI bi)] bn:=bI
 refine oA Z Z (zb (za (zF (rR fL2 Z (oR Z (zr (zX Z ak Z) (congrArg (jV) aP.out)) (oM Z Z (zb ?_)))))))
 cases bT
 exact zF ⟨rfl,⟨av,aX,bb,rfl,ay,rfl,az,aM,aS,(bJ.pick [1,2] _ (by decide) rfl)⟩⟩
 intro ax bU
 refine cF Z ax (ZE (za (zF (rR fL2 Z (oR Z (zr (zX Z ak Z) (congrArg (jV) aP.out)) (oM Z Z (zb ?_)))))))
 cases bU
 exact zF ⟨Z,⟨av,ai,aj,Z,ay,be,az,aM,aS,aw⟩⟩
 rintro bZ cc ⟨bk,bj,bs,bx,cg,bu,ch,bw,cm,bK⟩
 have br:Hid (¬ ((↑(((↑x2.length:Int):Int) - 0).toNat:Int) < (↑x2.length:Int))):=zG (wAr)
 refine sR fL1 Z (oR Z (zR Z bx bw) (eN (zK (cF Z br (ZG (zc (zc (zz (zF (sR fL2 Z (oM Z bu (oA Z Z (eN (zP ?_))))))))))))))
 have hE:=hM bO;first | subst r | cases hE
 exact ⟨rfl,_,(zj rfl),bk,_,(bK.pick [1,0] _ (by decide) rfl),bj,bs,rfl,rfl⟩
theorem wJH (p0:wAS) (aN:Option Addr) (aO:Nat) (aj:Option Addr) (ak:Nat) (w:World) (U:PHeap) (hS:St0 w U []) (db:Sl U 1 aN aO p0.Rules.Classes.length (hD KL.encI p0.Rules.Classes)) (dd:SlR U wFJ aj ak p0.Teams) {r:(List (List Int)) × Int} (hm:wDw p0=some r):Gv Tryz.prog 26 [.agg #[.slice aN p0.Rules.Classes.length aO,jV p0.Rules.Each,jV p0.Rules.Laps,jV p0.Rules.Spare,jV p0.Rules.Loop,jV p0.Rules.Unused,jV p0.Start,.slice aj p0.Teams.length ak]] w (wBj w [] U (fun U_ L_ v=>∃ (A0:Option Addr) (c0:Nat) (bw:List Value),v=.tuple #[.slice A0 r.1.length c0,jV r.2]/\L_=[.row A0 c0 31 1 bw]/\RlL U_ wFw r.1 bw)):=by
 unfold wDw at hm
 refine Gv.of Tryz.func26 Z Tryz.ntmps26 Tryz.results26 Z (sR gAq Z ?_)
 let B0:List Value:=[.slice aN p0.Rules.Classes.length aO,jV p0.Rules.Each,jV p0.Rules.Laps,jV p0.Rules.Spare,jV p0.Rules.Loop,jV p0.Rules.Unused,jV p0.Start,.slice aj p0.Teams.length ak]
 refine ZB (cs:=B0) rfl rfl rfl rfl rfl rfl (by rfl) hS ?_
 intro W1 b2 bF
 refine oA Z Z (oA Z Z (eN (sR (.fl 0 (.fx 1 (wHk (.nil)) .stop)) Z (oL Z (bF.ldBA (j:=0) Z Z Z yh Zp (vs:=B0) Z Z) ?_))))
 have q:=bnd hm
 obtain ⟨⟨x5,x6⟩,h7,an⟩:=q
 try dsimp only at an
 refine zI 0 Z Z Z Z (zJ Z Z Tryz.call63 (zA Z zM) Z) bF (fun hs=>wFc p0 aN aO aj ak W1 U hs db dd h7) (.inr Z) ?_
 rintro U9 dF dT aS dP bD bC
 rcases x5 with _ | ac
 try dsimp only at an
 obtain ⟨rfl,rfl⟩:=bC
 have aX:sW w U U9 [.blk b2 89 B0] aS:=bD
 refine oM Z Z (oR Z (ZL Z Z (v:=.pointer none) Z) (oR Z (ZL Z Z (v:=jV x6) Z) (oA Z Z (oA Z Z (eN (zK (sR fL2 Z (oM Z Z (oR Z (Ze Z Z Z) (eN (ifc an ?_ ?_)))))))))))
 intro aU dr
 refine zg (zo (fun h=>h aU.out)) (kN (sR fL1 Z (oA Z Z (eN (zK (sR fL4 Z (oR Z (zC Z Z zt Z Zt) (oL Z (aX.ldB (j:=0) Z Z Z yM (v:=.slice aj p0.Teams.length ak) Z) (oR Z (ze Z Z ZS) (oM Z Z (eN (zU ?_))))))))))))
 have q:=bnd dr
 obtain ⟨⟨⟩,dg,bG⟩:=q
 try dsimp only at bG
 have q:=wBM dg
 obtain ⟨be,dh⟩:=q
 replace be:=zG be
 refine CK.forN' (fun ao _ J_ w_=>∃ (U_:PHeap),J_ 19=jV (↑ao:Int)/\J_ 4=.pointer none/\J_ 6=.slice none 0 0/\J_ 18=jV (↑p0.Teams.length:Int)/\PHeap.Le U9 U_/\sW w U U_ [.blk b2 89 B0] w_) dh ?_ ?_ ?_
 exact ⟨U9,Z,Z,Z,Z,(zQ _),aX⟩
 rintro ao ⟨⟩ dW dD dJ ba ⟨dH,bB,ci,cj,cm,dR,dN⟩ bI
 try dsimp only at bI
 have bu:Hid ((↑ao:Int) < (↑p0.Teams.length:Int)):=zG (wBR ba)
 replace ba:=zG ba
 have dO:Hid (w64 ((↑ao:Int) + 1)=(↑(ao + 1):Int)):=zG (by have h1:=be.out;have h2:=bu.out;rw [wAa] <;> omega)
 refine sR fL1 Z (oR Z (zR Z bB cm) (eN (zK (cT Z bu (kN (zK (zU (sR fL2 Z (oM Z bB (oA Z Z (eN (rR (wEz gAt) Z (oM Z cj (oM Z ci (oM Z Z ?_)))))))))))))))
 cases bI
 rintro dE dK ⟨bR,ct,dM,co,cp,dS,cY⟩
 have cc:Hid (¬ ((↑(((↑p0.Teams.length:Int):Int) - 0).toNat:Int) < (↑p0.Teams.length:Int))):=zG (wAr)
 refine sR fL1 Z (oR Z (zR Z ct cp) (eN (zK (cF Z cc (ZG (zc (zc (zz (zF (sR fL3 Z (oM Z co (oA Z Z (oA Z Z (eN (zP ?_)))))))))))))))
 have cZ:=cY.nilrow 31 1
 cases bG
 exact ⟨rfl,_,(wHm rfl rfl),bR,_,(cZ.pick [0] _ (by decide) rfl),none,0,[],rfl,rfl,RlL.nil⟩
 intro aU dt
 refine cT Z aU (sR fL3 Z (oM Z Z (oA Z Z (oA Z Z (eN (zP (zZ ?_)))))))
 have c7:=aX.nilrow 31 1
 cases dt
 exact ⟨rfl,_,(wHm rfl rfl),U9,_,(c7.pick [0] _ (by decide) rfl),none,0,[],rfl,rfl,RlL.nil⟩
 try dsimp only at an
 obtain ⟨av,bi,br,bj,bs,aP,aT,ca,rfl,rfl,cI,cJ,cK⟩:=bC
 let B1:Res:=.blk av 183 [.slice bi ac.Race.Rules.Classes.length br,jV ac.Race.Rules.Each,jV ac.Race.Rules.Laps,jV ac.Race.Rules.Spare,jV ac.Race.Rules.Loop,jV ac.Race.Rules.Unused,jV ac.Race.Start,.slice bj ac.Race.Teams.length bs,.slice aP ac.after.length aT]
 have aY:sW w U U9 [B1,.row aP aT 31 1 ca,.blk b2 89 B0] aS:=bD
 refine oM Z Z (oR Z (ZL Z Z (v:=.pointer (some ⟨av,0,none⟩)) Z) (oR Z (ZL Z Z (v:=jV x6) Z) (oA Z Z (oA Z Z (eN (zK (sR fL2 Z (oM Z Z (oR Z (Ze Z Z Z) (eN (ifc an ?_ ?_)))))))))))
 intro aV du
 refine zg (zo (fun h=>h aV.out)) (kN (sR fL1 Z (oA Z Z (eN (zK (sR fL4 Z (oR Z (zC Z Z zt Z Zt) (oL Z (aY.ldB (j:=2) Z Z Z yM (v:=.slice aj p0.Teams.length ak) Z) (oR Z (ze Z Z ZS) (oM Z Z (eN (zU ?_))))))))))))
 have q:=aY.freezeRR (R:=wFw) (k:=1) rfl cK rfl (by decide)
 obtain ⟨aR,bL,dx,c8⟩:=q
 have da:sW w U aR [B1,.blk b2 89 B0] aS:=c8
 refine bnK du fun dX de dm=>?_
 have q:=wBM de
 obtain ⟨bb,df⟩:=q
 replace bb:=zG bb
 refine CK.forN' (fun ai az J_ w_=>∃ (U_:PHeap) (aq:Option Addr) (ax:Nat) (ay:List Value),J_ 19=jV (↑ai:Int)/\J_ 4=.pointer (some ⟨av,0,none⟩)/\J_ 6=.slice aq az.length ax/\J_ 18=jV (↑p0.Teams.length:Int)/\PHeap.Le aR U_/\sW w U U_ [B1,.blk b2 89 B0,.row aq ax 31 1 ay] w_/\RlL U_ wFw az ay) df ?_ ?_ ?_
 have cM:=da.nilrow 31 1
 exact ⟨aR,none,0,[],rfl,rfl,rfl,rfl,(zQ _),(cM.pick [1,2,0] _ (by decide) rfl),RlL.nil⟩
 rintro ai az dV dB bT aZ ⟨bO,aq,ax,ay,aW,bz,cd,bA,aM,cN,cw⟩ dy
 have bp:Hid ((↑ai:Int) < (↑p0.Teams.length:Int)):=zG (wBR aZ)
 replace aZ:=zG aZ
 have di:Hid (w64 ((↑ai:Int) + 1)=(↑(ai + 1):Int)):=zG (by have h1:=bb.out;have h2:=bp.out;rw [wAa] <;> omega)
 refine sR fL1 Z (oR Z (zR Z aW bA) (eN (zK (cT Z bp (kN (zK (zU (sR fL2 Z (oM Z aW (oA Z Z (eN (rR (wEz gAt) Z (oM Z cd (oM Z bz (oM Z Z ?_)))))))))))))))
 have cx:=cI.le bL
 have cy:=cx.le aM
 have cz:=cJ.le bL
 have cA:=cz.le aM
 have cB:=dx.le aM
 refine bnK dy fun af cC dn=>zI 1 Z Z Z Z (zJ Z Z Tryz.call64 (zA Z (zA Z zM)) Z) cN (fun hs=>wGv ac av bi br bj bs aP aT (↑ai:Int) bT bO hs cy cA cB cC) (.inl Z) ?_
 rintro bP dG dU bm bJ cO ⟨ap,aw,rfl,rfl⟩
 let B2:Res:=.row aq ax 31 1 ay
 have cP:sW w U bP [.row ap aw 3 1 (hD KL.encI af),B1,.blk b2 89 B0,B2] bm:=cO
 have q:=cP.freezeR (k:=0) (n:=af.length) rfl (wAG (f:=KL.encI) (sz:=1) (fun _=>rfl) af) (by decide)
 obtain ⟨am,bK,dw,cR⟩:=q
 have cS:sW w U am [B1,.blk b2 89 B0,B2] bm:=cR
 let B3:List Value:=[.slice ap af.length aw]
 refine ZF (pv:=[(0,.slice ap af.length aw)]) (zs:=[.slice none 0 0]) (cs:=B3) Z Z Z Z Z (wAH Z wAY) ZM zk Tryz.zeroValue31 Z Z Z Z Z cS ?_
 intro bU bW cQ
 have bH:RlL am wFw [af] B3:=(RlL.cons (R:=wFw) (x:=af) (vs:=B3) ⟨ap,aw,rfl,dw⟩ RlL.nil)
 let B4:Res:=.row (some ⟨bW,0,none⟩) 1 31 1 B3
 have bE:sW w U am [B4,B1,.blk b2 89 B0,B2] bU:=cQ
 refine bnK dn fun dz cD dp=>?_
 have cE:=cw.le bJ
 have cG:=cE.le bK
 refine OKS.appendR (R:=wFw) (j:=3) (xs:=az) (ys:=[af]) (zs:=dz) rfl rfl rfl rfl rfl Tryz.underlying29 wMi rfl rfl rfl rfl rfl rfl rfl bE rfl rfl rfl cG bH (bE.srcR (j:=0) rfl (by decide) (RlL.len bH)) cD rfl ?_
 intro bh bq bx bV cU dv
 have cV:sW w U am [B4,B1,.blk b2 89 B0,.row bh bq 31 1 bx] bV:=cU
 refine oA Z Z (zb (za (zF (rR fL2 Z (oR Z (zr (zX Z aW Z) (congrArg (jV) di.out)) (oM Z Z (zb ?_)))))))
 cases dp
 exact zF ⟨rfl,⟨am,bh,bq,bx,rfl,bz,rfl,bA,((aM.trans bJ).trans bK),(cV.pick [1,2,3] _ (by decide) rfl),dv⟩⟩
 rintro dC dI ⟨bQ,bN,bX,bY,cr,dL,cg,ch,dQ,cW,cH⟩
 have bZ:Hid (¬ ((↑(((↑p0.Teams.length:Int):Int) - 0).toNat:Int) < (↑p0.Teams.length:Int))):=zG (wAr)
 refine sR fL1 Z (oR Z (zR Z cr ch) (eN (zK (cF Z bZ (ZG (zc (zc (zz (zF (sR fL3 Z (oM Z cg (oA Z Z (oA Z Z (eN (zP ?_)))))))))))))))
 cases dm
 exact ⟨rfl,_,(wHm rfl rfl),bQ,_,(cW.pick [2] _ (by decide) rfl),bN,bX,bY,rfl,rfl,cH⟩
 intro aV dq
 refine cT Z aV (sR fL3 Z (oM Z Z (oA Z Z (oA Z Z (eN (zP (zZ ?_)))))))
 have cX:=aY.nilrow 31 1
 cases dq
 exact ⟨rfl,_,(wHm rfl rfl),U9,_,(cX.pick [0] _ (by decide) rfl),none,0,[],rfl,rfl,RlL.nil⟩
end Go.Proofs.YtlmekamhphnmjaaGreat
namespace Go.Proofs.YtlmekamhphnmjaaGreat
open Go.KL
set_option maxHeartbeats 4000000
theorem wFq (p0:List Int) (ac:Option Addr) (ak:Nat) (w:World) (U:PHeap) (hS:St0 w U []) (aj:Sl U 1 ac ak p0.length (hD KL.encI p0)) {r:(List Int)} (hm:wCk p0=some r):Gv Tryz.prog 95 [.slice ac p0.length ak] w (wBj w [] U (fun U_ L_ v=>∃ (A0:Option Addr) (c0:Nat),v=.slice A0 r.length c0/\L_=[.row A0 c0 3 1 (hD KL.encI r)])):=by
 unfold wCk at hm
 refine Gv.of Tryz.func95 Z Tryz.ntmps95 Tryz.results95 Z (sR fL1 Z (oA Z Z (eN (zK (sR fL2 Z (oM Z Z (oR Z (Runs.eqNil Z Z Z zH) (eN ?_))))))))
 by_cases c1:ac.isNone=true
 replace c1:=zG c1
 have aM:p0=[]:=List.eq_nil_of_length_eq_zero (Sl.nilA (Option.isNone_iff_eq_none.1 c1.out ▸ aj))
 have az:(some [])=some r:=by simpa [aM,app] using hm
 refine zx (congrArg nA c1.out) (sR fL1 Z (oA Z Z (eN (zP (zZ ?_)))))
 have aw:=hS.nilrow 3 1
 cases az
 exact ⟨Z,_,(zj Z),U,_,aw,none,0,Z,Z⟩
 replace c1:=zG c1
 refine zg (congrArg nA (nB.2 c1.out)) (kN (sR (.fx 0 (.fl 1 gAf) .stop) Z (OKS.buildSlice0 1 Z Z Z Z Z zH zD hS ?_)))
 intro W6 b7 ax
 have ai:sW w U U [.row (some ⟨b7,0,none⟩) 0 3 1 (hD KL.encI ([]:List Int))] W6:=ax
 refine oM Z Z (bnK hm fun am aq ay=>OKS.append0 (j:=0) (enc:=KL.encI) (ys:=p0) (zs:=am) Z Z Z Z Z yR wGs Z Z Z Z Z Z ai Z Z Z (ai.srcS aj) (fun _=>Z) aq ?_)
 intro af ah an au
 have av:sW w U U [.row af ah 3 1 (hD KL.encI am)] an:=au
 refine oA Z Z (eN (zP ?_))
 have hE:=hM ay;first | subst r | cases hE
 exact ⟨Z,_,(zj Z),U,_,av,af,ah,Z,Z⟩
theorem wFQ (p0:wDr) (aR:Nat) (aP:Option Addr) (aS:Nat) (ax:Option Addr) (ay:Nat) (aQ:Option Addr) (aT:Nat) (w:World) (U:PHeap) (hS:St0 w U [.blk aR 183 [.slice aP p0.Race.Rules.Classes.length aS,jV p0.Race.Rules.Each,jV p0.Race.Rules.Laps,jV p0.Race.Rules.Spare,jV p0.Race.Rules.Loop,jV p0.Race.Rules.Unused,jV p0.Race.Start,.slice ax p0.Race.Teams.length ay,.slice aQ p0.after.length aT]]) (eu:Sl U 1 aP aS p0.Race.Rules.Classes.length (hD KL.encI p0.Race.Rules.Classes)) (dH:SlR U wFJ ax ay p0.Race.Teams) (dI:SlR U wFw aQ aT p0.after) {r:wAT} (hm:wBs p0=some r):Gv Tryz.prog 66 [.pointer (some ⟨aR,0,none⟩)] w (wBj w [.blk aR 183 [.slice aP p0.Race.Rules.Classes.length aS,jV p0.Race.Rules.Each,jV p0.Race.Rules.Laps,jV p0.Race.Rules.Spare,jV p0.Race.Rules.Loop,jV p0.Race.Rules.Unused,jV p0.Race.Start,.slice ax p0.Race.Teams.length ay,.slice aQ p0.after.length aT]] U (fun U_ L_ v=>∃ (bN:Option Addr) (bT:Nat) (bO:Option Addr) (bU:Nat) (bX:List Value),v=.agg #[jV r.Laps,.slice bN r.Bibs.length bT,.slice bO r.Times.length bU]/\L_=[.row bN bT 3 1 (hD KL.encI r.Bibs),.row bO bU 31 1 bX,.blk aR 183 [.slice aP p0.Race.Rules.Classes.length aS,jV p0.Race.Rules.Each,jV p0.Race.Rules.Laps,jV p0.Race.Rules.Spare,jV p0.Race.Rules.Loop,jV p0.Race.Rules.Unused,jV p0.Race.Start,.slice ax p0.Race.Teams.length ay,.slice aQ p0.after.length aT]]/\RlL U_ wFw r.Times bX)):=by
 unfold wBs at hm
 refine Gv.of Tryz.func66 Z Tryz.ntmps66 Tryz.results66 Z (sR (.fx 0 .nil .stop) Z ?_)
 let B0:List Value:=[jV 0,.slice none 0 0,.slice none 0 0]
 refine zy (cs:=B0) Z Z Z Z Z Tryz.zeroValue175 Z hS ?_
 intro W2 b3 dD
 refine eN (zK (ZQ ZK [3,3,3,3,3,1,3,3,3,3,3,3,1,3,3,2,0] (wKK (.fx 15 (.fx 16 .nil .stop) .stop)) (by kernel_rfl) ?_))
 have bk:=dD.drew
 generalize hw_W7:({ W2 with drawn:=W2.drawn + 1 }:World)=W7 at bk ⊢
 refine oM Z Z (oR Z (ZJ Z Z) (oR Z (zC Z Z Zf Z Zp) (oR Z (zC Z Z zt Z yS) (oR Z (zC Z Z ZW Z zk) (oL Z (bk.ldB (j:=1) Z Z Z zu (v:=.slice aP p0.Race.Rules.Classes.length aS) Z) (oR Z (ze Z Z zH) (oM Z Z (oR Z (ZJ Z Z) (oR Z (zC Z Z Zf Z Zp) (oR Z (zC Z Z zt Z yS) (oR Z (zC Z Z ZW Z zD) (oL Z (bk.ldB (j:=1) Z Z Z zN (v:=jV p0.Race.Rules.Laps) Z) (oR Z (YK Z Z Z) ?_)))))))))))))
 let B1:List Value:=[jV (w64 ((↑p0.Race.Rules.Classes.length:Int) * p0.Race.Rules.Laps)),.slice none 0 0,.slice none 0 0]
 refine oR Z (ZI (pv:=[(0,jV (w64 ((↑p0.Race.Rules.Classes.length:Int) * p0.Race.Rules.Laps)))]) (z:=B0) (cs:=B1) Z (wAH Z wAY) Tryz.zeroValue175 wMd Z Z) (zy (cs:=B0) Z Z Z Z Z Tryz.zeroValue175 Z bk ?_)
 intro W8 b9 dg
 refine ZA (j:=0) (vs:=B1) Z Z Z Z dg Z Z Z Z Zn (zB Z) Z Z Z ?_
 intro cE dr
 let B2:Res:=.blk aR 183 [.slice aP p0.Race.Rules.Classes.length aS,jV p0.Race.Rules.Each,jV p0.Race.Rules.Laps,jV p0.Race.Rules.Spare,jV p0.Race.Rules.Loop,jV p0.Race.Rules.Unused,jV p0.Race.Start,.slice ax p0.Race.Teams.length ay,.slice aQ p0.after.length aT]
 have ci:SW w [B2] U U [.blk b9 175 B1,.blk b3 175 B0,B2] cE:=dr
 refine eN (zK (sR fL7 Z (oM Z Z (oR Z (ZJ Z Z) (oR Z (zC Z Z Zf Z Zp) (oR Z (zC Z Z zt Z Zt) (oL Z (ci.ldB (j:=2) Z Z Z yM (v:=.slice ax p0.Race.Teams.length ay) Z) (oR Z (ze Z Z ZS) (oM Z Z (eN (zU ?_)))))))))))
 have q:=bnd hm
 obtain ⟨⟨cz,dX⟩,dJ,cr⟩:=q
 try dsimp only at cr
 have q:=wBM dJ
 obtain ⟨bD,dK⟩:=q
 replace bD:=zG bD
 refine CK.forN' (fun au (av,aw) J_ w_=>∃ (U_:PHeap) (az:Option Addr) (aO:Nat) (ak:Option Addr) (aq:Nat) (bi:List Value),J_ 27=jV (↑au:Int)/\J_ 0=.pointer (some ⟨aR,0,none⟩)/\J_ 2=.pointer (some ⟨b3,0,none⟩)/\J_ 3=.pointer (some ⟨b9,0,none⟩)/\J_ 25=.slice ax p0.Race.Teams.length ay/\J_ 26=jV (↑p0.Race.Teams.length:Int)/\PHeap.Le U U_/\SW w [B2] U U_ [.row az aO 3 1 (hD KL.encI av),.row ak aq 31 1 bi,.blk b9 175 [jV (w64 ((↑p0.Race.Rules.Classes.length:Int) * p0.Race.Rules.Laps)),.slice az av.length aO,.slice ak aw.length aq],.blk b3 175 B0,B2] w_/\RlL U_ wFw aw bi) dK ?_ ?_ ?_
 have dE:=ci.nilrow 3 1
 have dF:=dE.nilrow 31 1
 exact ⟨U,none,0,none,0,[],rfl,rfl,rfl,rfl,rfl,rfl,(zQ _),(dF.pick [1,0,2,3,4] _ (by decide) rfl),RlL.nil⟩
 rintro au ⟨av,aw⟩ eD dZ d7 bC ⟨ao,az,aO,ak,aq,bi,bj,bZ,cS,aZ,ca,cc,bE,cp,db⟩ cw
 try dsimp only at cw
 have bW:Hid ((↑au:Int) < (↑p0.Race.Teams.length:Int)):=zG (wBR bC)
 replace bC:=zG bC
 have dL:Hid (w64 ((↑au:Int) + 1)=(↑(au + 1):Int)):=zG (by have h1:=bD.out;have h2:=bW.out;rw [wAa] <;> omega)
 refine sR fL1 Z (oR Z (zR Z bj cc) (eN (zK (cT Z bW (kN (zK (zU (sR (wEz gAp) Z (oM Z bj (bnK cw fun ae cg dQ=>?_))))))))))
 have dd:=dH.le bE
 have q:=dd.el (wAk cg)
 obtain ⟨cO,dW,eC,df,bA,dT⟩:=q
 obtain ⟨bG,bJ,bH,bK,rfl,eh,ep⟩:=dT
 replace bA:Cl ao cO (dW + au * 3) [jV ae.Bib,.slice bG ae.Classes.length bJ,.slice bH ae.Legs.length bK]:=bA
 refine oR Z (ZD Z ca df bj ZS Zc (wBi cg)) (oL Z (cp.ldCA (f:=0) bA Z Z yy Zc (us:=[jV ae.Bib,.slice bG ae.Classes.length bJ,.slice bH ae.Legs.length bK]) Z Z) (zy (cs:=B0) Z Z Z Z Z yQ Z cp ?_))
 intro eb ah dG
 refine oA Z Z ?_
 let B3:List Value:=[jV ae.Bib,.slice bG ae.Classes.length bJ,.slice bH ae.Legs.length bK]
 refine ZA (j:=0) (vs:=B3) Z Z Z Z dG Z Z Z Z Zc (zB Z) Z Z Z ?_
 intro cB dh
 let B4:Res:=.blk b9 175 [jV (w64 ((↑p0.Race.Rules.Classes.length:Int) * p0.Race.Rules.Laps)),.slice az av.length aO,.slice ak aw.length aq]
 let B5:Res:=.row ak aq 31 1 bi
 let B6:Res:=.row az aO 3 1 (hD KL.encI av)
 have bB:SW w [B2] U ao [.blk ah 101 B3,B6,B5,B4,.blk b3 175 B0,B2] cB:=dh
 refine eN (sR (wEv (.fx 4 (.fx 5 (.fl 6 (.fx 7 .nil .stop)) .stop) .stop)) Z (oR Z (zC Z aZ ZC Z zk) (oL Z (bB.ldB (j:=3) Z Z Z zu (v:=.slice az av.length aO) Z) (oR Z (zC Z Z ZX Z zD) (oL Z (bB.ldB (j:=0) Z Z Z zN (v:=jV ae.Bib) Z) (ZF (pv:=[(0,jV ae.Bib)]) (zs:=[jV 0]) (cs:=[jV ae.Bib]) Z Z Z Z Z (wAH Z wAY) zH zD Zr Z Z Z Z Z bB ?_))))))
 intro cC cL di
 let B7:Res:=.row (some ⟨cL,0,none⟩) 1 3 1 (hD KL.encI [ae.Bib])
 have ch:SW w [B2] U ao [B7,.blk ah 101 B3,B6,B5,B4,.blk b3 175 B0,B2] cC:=di
 refine bnK dQ fun bb cV dM=>yE (j:=2) (enc:=KL.encI) (xs:=av) (ys:=[ae.Bib]) (zs:=bb) rfl rfl rfl rfl rfl yR wGs rfl rfl rfl rfl rfl rfl ch rfl rfl rfl (ch.srcR (j:=0) rfl (by decide) (wAG (f:=KL.encI) (sz:=1) (fun _=>rfl) [ae.Bib])) (fun _=>rfl) (fun _=>rfl) cV rfl ?_
 intro aU aX cD dm
 let B8:Res:=.row aU aX 3 1 (hD KL.encI bb)
 have dn:SW w [B2] U ao [B7,.blk ah 101 B3,B8,B5,B4,.blk b3 175 B0,B2] cD:=dm
 refine oR Z (zC Z aZ ZC Z zk) (ZA (j:=4) (vs:=[.slice aU bb.length aX]) Z Z Z Z dn Z Z Z Z zk (zB Z) Z Z Z ?_)
 intro bs dp
 let B9:Res:=.blk b9 175 [jV (w64 ((↑p0.Race.Rules.Classes.length:Int) * p0.Race.Rules.Laps)),.slice aU bb.length aX,.slice ak aw.length aq]
 have dq:SW w [B2] U ao [B7,.blk ah 101 B3,B8,B5,B9,.blk b3 175 B0,B2] bs:=dp
 refine eN (ZQ ZK [3,1,3,3,3,1,3,3,1,2,2,0,3,0] (wNx (.fx 9 (.fx 10 (.fx 11 (.fl 12 (.fx 13 .nil .stop)) .stop) .stop) .stop)) (by kernel_rfl) ?_)
 have ba:=dq.drew
 generalize hw_W120:({ bs with drawn:=bs.drawn + 1 }:World)=cG at ba ⊢
 refine oR Z (zC Z aZ ZC Z Zz) (oL Z (ba.ldB (j:=4) Z Z Z yY (v:=.slice ak aw.length aq) Z) (oM Z bZ (oR Z (ZJ Z Z) (oR Z (zC Z Z Zf Z Zz) (oL Z (ba.ldB (j:=6) Z Z Z yY (v:=.slice aQ p0.after.length aT) Z) (oM Z Z (bnK dM fun bL cd dN=>?_)))))))
 have cW:=dI.le bE
 have q:=cW.el (wAk cd)
 obtain ⟨cM,dV,eB,de,bz,dR⟩:=q
 obtain ⟨bF,bI,rfl,cX⟩:=dR
 replace bz:Cl ao cM (dV + au * 1) [.slice bF bL.length bI]:=bz
 refine oR Z (ZD Z Z de Z ZM zk (wBi cd)) (oL Z (ba.ldC (f:=0) bz (v:=.slice bF bL.length bI) Z Z zu Z) (bnK dN fun aj cY dO=>zI 0 Z Z Z Z (zJ Z Z Tryz.call95 (zA Z zM) Z) ba (fun hs=>wFq bL bF bI cG ao hs cX cY) (.inr Z) ?_))
 rintro cA d5 eA bR cx dt ⟨be,bh,rfl,rfl⟩
 have du:SW w [B2] U cA [.row be bh 3 1 (hD KL.encI aj),B7,.blk ah 101 B3,B8,B5,B9,.blk b3 175 B0,B2] bR:=dt
 have q:=du.freezeR (k:=0) (n:=aj.length) rfl (wAG (f:=KL.encI) (sz:=1) (fun _=>rfl) aj) (by decide)
 obtain ⟨aN,cy,dU,dw⟩:=q
 have dx:SW w [B2] U aN [B7,.blk ah 101 B3,B8,B5,B9,.blk b3 175 B0,B2] bR:=dw
 let bg:List Value:=[.slice be aj.length bh]
 refine ZF (pv:=[(0,.slice be aj.length bh)]) (zs:=[.slice none 0 0]) (cs:=bg) Z Z Z Z Z (wAH Z wAY) ZM zk Tryz.zeroValue31 Z Z Z Z Z dx ?_
 intro cH cN dv
 have ct:RlL aN wFw [aj] bg:=(RlL.cons (R:=wFw) (x:=aj) (vs:=bg) ⟨be,bh,rfl,dU⟩ RlL.nil)
 let bq:Res:=.row (some ⟨cN,0,none⟩) 1 31 1 bg
 have cj:SW w [B2] U aN [bq,B7,.blk ah 101 B3,B8,B5,B9,.blk b3 175 B0,B2] cH:=dv
 refine bnK dO fun bM cZ dP=>?_
 have c7:=db.le cx
 have c8:=c7.le cy
 refine OKS.appendR (R:=wFw) (j:=4) (xs:=aw) (ys:=[aj]) (zs:=bM) rfl rfl rfl rfl rfl Tryz.underlying29 wMi rfl rfl rfl rfl rfl rfl rfl cj rfl rfl rfl c8 ct (cj.srcR (j:=0) rfl (by decide) (RlL.len ct)) cZ rfl ?_
 intro aV aY bx cI dy dS
 have dz:SW w [B2] U aN [bq,B7,.blk ah 101 B3,B8,.row aV aY 31 1 bx,B9,.blk b3 175 B0,B2] cI:=dy
 refine oR Z (zC Z aZ ZC Z Zz) (ZA (j:=5) (vs:=[.slice aV bM.length aY]) Z Z Z Z dz Z Z Z Z Zz (zB Z) Z Z Z ?_)
 intro cJ dA
 have dB:SW w [B2] U aN [bq,B7,.blk ah 101 B3,B8,.row aV aY 31 1 bx,.blk b9 175 [jV (w64 ((↑p0.Race.Rules.Classes.length:Int) * p0.Race.Rules.Laps)),.slice aU bb.length aX,.slice aV bM.length aY],.blk b3 175 B0,B2] cJ:=dA
 refine zb (za (zF (rR fL2 Z (oR Z (zr (zX Z bj Z) (congrArg (jV) dL.out)) (oM Z Z (zb ?_))))))
 cases dP
 exact zF ⟨rfl,⟨aN,aU,aX,aV,aY,bx,rfl,bZ,cS,aZ,ca,cc,((bE.trans cx).trans cy),(dB.pick [3,4,5,6,7] _ (by decide) rfl),dS⟩⟩
 rintro dY d6 ⟨bQ,bm,bu,bn,bw,bV,cU,ed,bY,cQ,ee,cR,ey,cm,da⟩
 have cP:Hid (¬ ((↑(((↑p0.Race.Teams.length:Int):Int) - 0).toNat:Int) < (↑p0.Race.Teams.length:Int))):=zG (wAr)
 refine sR fL1 Z (oR Z (zR Z cU cR) (eN (zK (cF Z cP (ZG (zc (zc (zz (zF (sR gAl Z ?_))))))))))
 let aM:List Value:=[jV (w64 ((↑p0.Race.Rules.Classes.length:Int) * p0.Race.Rules.Laps)),.slice bm cz.length bu,.slice bn dX.length bw]
 refine oL Z (cm.ldBA (j:=2) Z Z cQ yp Zn (vs:=aM) Z Z) (ZA (j:=3) (vs:=aM) Z Z Z Z cm Z bY Z Z Zn (zB Z) Z Z Z ?_)
 intro cK dC
 have co:SW w [B2] U bQ [.row bm bu 3 1 (hD KL.encI cz),.row bn bw 31 1 bV,.blk b9 175 aM,.blk b3 175 aM,B2] cK:=dC
 refine eN (zP ?_)
 cases cr
 exact ⟨rfl,_,(wHI (v:=.agg aM.toArray) ⟨⟨_,bY,(wFi yp Zn (co.blkAt (k:=3) rfl) (vs:=aM) rfl rfl)⟩,trivial⟩),bQ,_,(co.pick [0,1,4] _ (by decide) rfl),bm,bu,bn,bw,bV,rfl,rfl,da⟩
theorem wHN (p0:Int) (p1:Int) (p2:Int) (w:World) (U:PHeap) (hS:St0 w U [])  {r:Bool} (hm:wEd p0 p1 p2=some r):Gv Tryz.prog 143 [jV p0,jV p1,jV p2] w (wBj w [] U (fun U_ L_ v=>v=.bool r/\L_=[])):=by
 unfold wEd at hm
 refine Gv.of Tryz.func143 Z Tryz.ntmps143 Tryz.results143 Z (sR fL1 Z (oA Z Z (eN (sR fL9 Z (oM Z Z (oM Z Z (oR Z (yz Z Z Z) (oM Z Z ?_))))))))
 by_cases c1:p1 <= p0
 have ab:=hm;rw [if_pos c1] at ab;replace c1:=zG c1
 refine zO Z Z Z (wT Z c1) Z Z (zO Z Z Z (wT Z c1) Z Z (rU Z (wT Z c1) (Runs.leq Z Z Z) (oR Z (zV Z (ZO c1.out) Z) (oA Z Z (eN (zP ?_))))))
 first | (obtain rfl:=hM ab) | cases ab
 exact ⟨Z,_,(zj Z),U,_,hS,Z,Z⟩
 have af:=hm;rw [if_neg c1] at af;replace c1:=zG c1
 refine oF Z c1 (oF Z c1 (oF Z c1 (oR Z (zS Z (zo c1.out) Z) (oA Z Z (eN (zP ?_))))))
 have hE:=hM af;first | subst r | cases hE
 exact ⟨Z,_,(zj Z),U,_,hS,Z,Z⟩
theorem wGd (p0:List Int) (ac:Option Addr) (ah:Nat) (p1:wAT) (ag:Nat) (ae:Option Addr) (ai:Nat) (af:Option Addr) (aj:Nat) (w:World) (U:PHeap) (hS:St0 w U []) (am:Sl U 1 ac ah p0.length (hD KL.encI p0)) (ak:Cl U ag 0 [jV p1.Laps,.slice ae p1.Bibs.length ai,.slice af p1.Times.length aj]) (an:Sl U 1 ae ai p1.Bibs.length (hD KL.encI p1.Bibs)) (ao:SlR U wFw af aj p1.Times) {r:Bool} (hm:wCG p0 p1=some r):Gv Tryz.prog 173 [.slice ac p0.length ah,.pointer (some ⟨ag,0,none⟩)] w (wBj w [] U (fun U_ L_ v=>v=.bool r/\L_=[])):=by
 unfold wCG at hm
 refine Gv.of Tryz.func173 Z Tryz.ntmps173 Tryz.results173 Z (sR fL1 Z (oA Z Z (eN (sR fL6 Z (oM Z Z (oR Z (ze Z Z zH) (oR Z (zC Z Z ZC Z zD) (oL Z (hS.ldC (f:=0) ak (v:=jV p1.Laps) Z Z zN Z) (oR Z (Runs.leq Z Z Z) (oA Z Z (eN (zP ?_))))))))))))
 first | (obtain rfl:=hM hm) | cases hm
 exact ⟨Z,_,(zj Z),U,_,hS,Z,Z⟩
theorem wGC (p0:List (List Int)) (am:Option Addr) (ao:Nat) (p1:((List Int)->Option Bool)) (aq:Value) (w:World) (U:PHeap) (hS:St0 w U []) (bj:SlR U wFw am ao p0) (bk:FnOK Tryz.prog U aq wOU wOV p1) {r:Bool} (hm:wDK p0 p1=some r):Gv Tryz.prog 172 [.slice am p0.length ao,aq] w (wBj w [] U (fun U_ L_ v=>v=.bool r/\L_=[])):=by
 unfold wDK at hm
 refine Gv.of Tryz.func172 Z Tryz.ntmps172 Tryz.results172 Z (sR fL1 Z (oA Z Z (eN (zK (sR fL3 Z (oM Z Z (oR Z (ze Z Z ZM) (oM Z Z (eN (zU ?_))))))))))
 have q:=wDA hm
 obtain ⟨r3,ah⟩:=q
 have q:=wCz ah
 obtain ⟨aj,bp⟩:=q
 replace aj:=zG aj
 refine ya (fun k2 _ J_ w_=>∃ (U_:PHeap),J_ 9=jV (↑k2:Int)/\J_ 1=aq/\J_ 7=.slice am p0.length ao/\J_ 8=jV (↑p0.length:Int)/\PHeap.Le U U_/\sW w U U_ [] w_) bp ?_ ?_ ?_
 exact ⟨U,Z,Z,Z,Z,(zQ _),hS⟩
 rintro k2 ⟨⟩ bP J7 W8 ai ⟨aR,af,aw,ax,ay,ak,aM⟩ aP bm
 try dsimp only at aP
 have av:Hid ((↑k2:Int) < (↑p0.length:Int)):=zG (wBR ai)
 replace ai:=zG ai
 have bq:Hid (w64 ((↑k2:Int) + 1)=(↑(k2 + 1):Int)):=zG (by have h1:=aj.out;have h2:=av.out;rw [wAa] <;> omega)
 refine sR fL1 Z (oR Z (zR Z af ay) (eN (zK (cT Z av (kN (zK (zU (sR fL3 Z (bnK aP fun au az br=>?_)))))))))
 have aZ:=bj.le ak
 have q:=aZ.el (wAk az)
 obtain ⟨aU,bB,bN,bg,ag,bz⟩:=q
 obtain ⟨an,ap,rfl,ba⟩:=bz
 replace ag:Cl aR aU (bB + k2 * 1) [.slice an au.length ap]:=ag
 refine oR Z (ZD Z ax bg af ZM zk (wBi az)) (oL Z (aM.ldC (f:=0) ag (v:=.slice an au.length ap) Z Z zu Z) (oA Z Z (eN (sR gAr Z (oM Z aw (oM Z Z (bnK br fun bO bb bs=>?_)))))))
 have be:=bk.le ak
 refine yU (a:=au) Z Z Z Z Z Z (zA Z zM) aM be ⟨an,ap,Z,ba⟩ bb ?_
 rintro ac bF bM aT bA bh ⟨rfl,rfl⟩
 have aN:sW w U ac [] aT:=bh
 refine oR Z (ZR Z Z) (eN (ifc bs ?_ ?_))
 intro ae bu
 refine zg (nC ae.out) (ZE (za (zF (rR fL2 Z (oR Z (zr (zX Z af Z) (congrArg (jV) bq.out)) (oM Z Z (zb ?_)))))))
 have q:=hM bu
 obtain rfl:=q
 exact zF ⟨Z,_,Z,⟨ac,Z,aw,ax,ay,(ak.trans bA),aN⟩⟩
 intro ae bw
 refine zx (nF (ae.out)) (sR fL1 Z (oA Z Z (eN (zP (zm (zZ ?_))))))
 have q:=wAq bw
 obtain ⟨bC,bx,aW⟩:=q
 have q:=wDj hm ah (bm bC aW)
 obtain rfl:=q
 refine zZ (zm (zZ ?_))
 have hE:=hM bx;first | subst r | cases hE
 exact ⟨Z,_,(zj Z),ac,_,aN,Z,Z⟩
 rintro ⟨⟩ bD bG ⟨aS,aY,bI,bJ,aX,bK,bi⟩ bn
 have aO:=wEC hm ah bn
 try dsimp only at aO
 have aV:Hid (¬ ((↑(((↑p0.length:Int):Int) - 0).toNat:Int) < (↑p0.length:Int))):=zG (wAr)
 refine sR fL1 Z (oR Z (zR Z aY aX) (eN (zK (cF Z aV (ZG (zc (zc (zz (zF (sR fL1 Z (oA Z Z (eN (zP ?_)))))))))))))
 have hE:=hM aO;first | subst r | cases hE
 exact ⟨Z,_,(zj Z),aS,_,bi,Z,Z⟩
theorem wEt (p0:List Int) (ak:Option Addr) (am:Nat) (p1:(Int->Option Bool)) (an:Value) (w:World) (U:PHeap) (hS:St0 w U []) (bb:Sl U 1 ak am p0.length (hD KL.encI p0)) (be:FnOK Tryz.prog U an wMG wNN p1) {r:Bool} (hm:wCH p0 p1=some r):Gv Tryz.prog 174 [.slice ak p0.length am,an] w (wBj w [] U (fun U_ L_ v=>v=.bool r/\L_=[])):=by
 unfold wCH at hm
 refine Gv.of Tryz.func174 Z Tryz.ntmps174 Tryz.results174 Z (sR fL1 Z (oA Z Z (eN (zK (sR fL3 Z (oM Z Z (oR Z (ze Z Z zH) (oM Z Z (eN (zU ?_))))))))))
 have q:=wDA hm
 obtain ⟨r3,ag⟩:=q
 have q:=wCz ag
 obtain ⟨ai,bi⟩:=q
 replace ai:=zG ai
 refine ya (fun k2 _ J_ w_=>∃ (U_:PHeap),J_ 9=jV (↑k2:Int)/\J_ 1=an/\J_ 7=.slice ak p0.length am/\J_ 8=jV (↑p0.length:Int)/\PHeap.Le U U_/\sW w U U_ [] w_) bi ?_ ?_ ?_
 exact ⟨U,Z,Z,Z,Z,(zQ _),hS⟩
 rintro k2 ⟨⟩ bK J7 W8 ah ⟨bz,af,ap,aq,au,aj,aw⟩ az bg
 try dsimp only at az
 have ao:Hid ((↑k2:Int) < (↑p0.length:Int)):=zG (wBR ah)
 replace ah:=zG ah
 have bj:Hid (w64 ((↑k2:Int) + 1)=(↑(k2 + 1):Int)):=zG (by have h1:=ai.out;have h2:=ao.out;rw [wAa] <;> omega)
 refine sR fL1 Z (oR Z (zR Z af au) (eN (zK (cT Z ao (kN (zK (zU (sR fL3 Z (bnK az fun aN av bk=>?_)))))))))
 have aU:=bb.le aj
 have q:=aU.el (fun _=>rfl) (wAk av)
 obtain ⟨bC,bG,aX,aY⟩:=q
 refine oR Z (ZD Z aq aX af zH zD (wBi av)) (oL Z (aw.ldC (f:=0) aY (v:=jV aN) Z Z zN Z) (oA Z Z (eN (sR gAr Z (oM Z ap (oM Z Z (bnK bk fun bJ aV bm=>?_)))))))
 have aW:=be.le aj
 refine yU (a:=aN) Z Z Z Z Z Z (zA Z zM) aw aW Z aV ?_
 rintro ac bx bI aP br aZ ⟨rfl,rfl⟩
 have ax:sW w U ac [] aP:=aZ
 refine oR Z (ZR Z Z) (eN (ifc bm ?_ ?_))
 intro ae bn
 refine zg (nC ae.out) (ZE (za (zF (rR fL2 Z (oR Z (zr (zX Z af Z) (congrArg (jV) bj.out)) (oM Z Z (zb ?_)))))))
 have q:=hM bn
 obtain rfl:=q
 exact zF ⟨Z,_,Z,⟨ac,Z,ap,aq,au,(aj.trans br),ax⟩⟩
 intro ae bp
 refine zx (nF (ae.out)) (sR fL1 Z (oA Z Z (eN (zP (zm (zZ ?_))))))
 have q:=wAq bp
 obtain ⟨bs,bq,aR⟩:=q
 have q:=wDj hm ag (bg bs aR)
 obtain rfl:=q
 refine zZ (zm (zZ ?_))
 have hE:=hM bq;first | subst r | cases hE
 exact ⟨Z,_,(zj Z),ac,_,ax,Z,Z⟩
 rintro ⟨⟩ bu bA ⟨aO,aT,bD,bE,aS,bF,ba⟩ bh
 have ay:=wEC hm ag bh
 try dsimp only at ay
 have aQ:Hid (¬ ((↑(((↑p0.length:Int):Int) - 0).toNat:Int) < (↑p0.length:Int))):=zG (wAr)
 refine sR fL1 Z (oR Z (zR Z aT aS) (eN (zK (cF Z aQ (ZG (zc (zc (zz (zF (sR fL1 Z (oA Z Z (eN (zP ?_)))))))))))))
 have hE:=hM ay;first | subst r | cases hE
 exact ⟨Z,_,(zj Z),aO,_,ba,Z,Z⟩
theorem wGe (p0:Int) (w:World) (U:PHeap) (hS:St0 w U [])  {r:Bool} (hm:wCI p0=some r):Gv Tryz.prog 175 [jV p0] w (wBj w [] U (fun U_ L_ v=>v=.bool r/\L_=[])):=by
 unfold wCI at hm
 refine Gv.of Tryz.func175 Z Tryz.ntmps175 Tryz.results175 Z (sR fL1 Z (oA Z Z (eN (sR gAo Z (oM Z Z (bnK hm fun x1 h2 ah=>zI 0 Z Z Z Z (zJ Z Z Tryz.call143 (zA Z (zA Z (zA Z zM))) Z) hS (fun hs=>wHN p0 1 999 w U hs h2) (.inr Z) ?_))))))
 rintro U4 L5 v6 W7 aj ag ⟨rfl,rfl⟩
 have af:sW w U U4 [] W7:=ag
 refine oA Z Z (eN (zP ?_))
 have hE:=hM ah;first | subst r | cases hE
 exact ⟨Z,_,(zj Z),U4,_,af,Z,Z⟩
theorem wGD (p0:Int) (w:World) (U:PHeap) (hS:St0 w U [])  {r:Bool} (hm:wBt p0=some r):Gv Tryz.prog 177 [jV p0] w (wBj w [] U (fun U_ L_ v=>v=.bool r/\L_=[])):=by
 unfold wBt at hm
 refine Gv.of Tryz.func177 Z Tryz.ntmps177 Tryz.results177 Z (sR fL1 Z (oA Z Z (eN (sR gAo Z (oM Z Z (bnK hm fun x1 h2 ah=>zI 0 Z Z Z Z (zJ Z Z Tryz.call143 (zA Z (zA Z (zA Z zM))) Z) hS (fun hs=>wHN p0 0 360000 w U hs h2) (.inr Z) ?_))))))
 rintro U4 L5 v6 W7 aj ag ⟨rfl,rfl⟩
 have af:sW w U U4 [] W7:=ag
 refine oA Z Z (eN (zP ?_))
 have hE:=hM ah;first | subst r | cases hE
 exact ⟨Z,_,(zj Z),U4,_,af,Z,Z⟩
theorem wGf (p0:List Int) (ab:Option Addr) (ac:Nat) (w:World) (U:PHeap) (hS:St0 w U []) (am:Sl U 1 ab ac p0.length (hD KL.encI p0)) {r:Bool} (hm:wCJ p0=some r):Gv Tryz.prog 176 [.slice ab p0.length ac] w (wBj w [] U (fun U_ L_ v=>v=.bool r/\L_=[])):=by
 unfold wCJ at hm
 refine Gv.of Tryz.func176 Z Tryz.ntmps176 Tryz.results176 Z (sR fL1 Z (oA Z Z (eN (sR gAo Z (oM Z Z ?_)))))
 have ai:FnOK Tryz.prog U (.func (.func 177) #[] #[]) wMG wNN wBt:=⟨177,[],[],rfl,Tryz.call177,fun U1 w1 x y vs le hs ha hm=>by obtain rfl:=ha;exact wGD x w1 U1 hs  hm⟩
 refine bnK hm fun x2 h3 an=>zI 0 Z Z Z Z (zJ Z Z Tryz.call174 (zA Z (zA Z zM)) Z) hS (fun hs=>wEt p0 ab ac wBt (.func (.func 177) #[] #[]) w U hs am ai h3) (.inr Z) ?_
 rintro U5 L6 v7 W8 aq aj ⟨rfl,rfl⟩
 have ak:sW w U U5 [] W8:=aj
 refine oA Z Z (eN (zP ?_))
 have hE:=hM an;first | subst r | cases hE
 exact ⟨Z,_,(zj Z),U5,_,ak,Z,Z⟩
theorem wJI (p0:List Int) (ao:Option Addr) (ap:Nat) (w:World) (U:PHeap) (hS:St0 w U []) (bg:Sl U 1 ao ap p0.length (hD KL.encI p0)) {r:Bool} (hm:wER p0=some r):Gv Tryz.prog 144 [.slice ao p0.length ap] w (wBj w [] U (fun U_ L_ v=>v=.bool r/\L_=[])):=by
 unfold wER at hm
 refine Gv.of Tryz.func144 Z Tryz.ntmps144 Tryz.results144 Z (sR fL1 Z (oA Z Z (eN (sR gAg Z (OKS.makeMap Z Z Z Z Z hS ?_)))))
 intro W1 b2 aZ
 have bs:=MpR.nil wED wEL
 refine oA Z Z (eN (zK (sR fL3 Z (oM Z Z (oR Z (ze Z Z zH) (oM Z Z (eN (zU ?_))))))))
 have q:=wDA hm
 obtain ⟨bM,ak⟩:=q
 have q:=wCz ak
 obtain ⟨an,bj⟩:=q
 replace an:=zG an
 refine ya (fun ab aO J_ w_=>∃ (U_:PHeap) (ah:Array MapEntry) (av:Nat),J_ 9=jV (↑ab:Int)/\J_ 3=.map (some b2)/\J_ 7=.slice ao p0.length ap/\J_ 8=jV (↑p0.length:Int)/\PHeap.Le U U_/\sW w U U_ [.obj b2 (.map ah av)] w_/\MpR ah wED wEL aO) bj ?_ ?_ ?_
 exact ⟨U,#[],0,Z,Z,Z,Z,(zQ _),aZ,bs⟩
 rintro ab aO bN bz bC am ⟨ae,ah,av,aj,ai,ay,az,aP,ac,aM⟩ bw bh
 have au:Hid ((↑ab:Int) < (↑p0.length:Int)):=zG (wBR am)
 replace am:=zG am
 have bk:Hid (w64 ((↑ab:Int) + 1)=(↑(ab + 1):Int)):=zG (by have h1:=an.out;have h2:=au.out;rw [wAa] <;> omega)
 refine sR fL1 Z (oR Z (zR Z aj az) (eN (zK (cT Z au (kN (zK (zU (sR fL3 Z (bnK bw fun aq aN bm=>?_)))))))))
 have aW:=bg.le aP
 have q:=aW.el (fun _=>rfl) (wAk aN)
 obtain ⟨bE,bL,aX,aY⟩:=q
 refine oR Z (ZD Z ay aX aj zH zD (wBi aN)) (oL Z (ac.ldC (f:=0) aY (v:=jV aq) Z Z zN Z) (oA Z Z (eN (zK (sR fL3 Z (oM Z ai (oM Z Z (oL Z (ac.lookup1 (j:=0) (mk:=wED) (mv:=wEL) (a:=aq) (z:=false) Z Z Z Z (wBq yD) wFb Tryz.zeroValue4 aM) (eN (ifc bm ?_ ?_))))))))))
 intro ag bn
 refine zx (congrArg nA ag.out) (sR fL1 Z (oA Z Z (eN (zP (zZ (zm (zZ ?_)))))))
 have q:=wAq bn
 obtain ⟨bx,bp,aT⟩:=q
 have q:=wDj hm ak (bh bx aT)
 obtain rfl:=q
 refine zZ (zm (zZ ?_))
 have hE:=hM bp;first | subst r | cases hE
 exact ⟨rfl,_,(zj rfl),ae,_,(ac.pick [] _ (by decide) rfl),rfl,rfl⟩
 intro ag bq
 refine zg (congrArg nA (nB.2 ag.out)) (kN (rR (.fl 0 (.fl 1 (.fx 2 .nil .stop))) rfl (zO rfl rfl rfl rfl rfl ai (zO rfl rfl rfl rfl rfl rfl (OKS.mapPut (x:=.tmp 16) (y:=.tmp 17) (j:=0) (mk:=wED) (mv:=wEL) (a:=aq) (v:=true) rfl rfl rfl (by first | exact .inl rfl | exact .inr rfl) ac rfl rfl rfl rfl (wBq yD) wFb aM rfl ?_)))))
 intro ax aw aR bu ba
 have bb:sW w U ae [.obj b2 (.map ax aw)] aR:=ba
 refine zb (za (zF (rR fL2 Z (oR Z (zr (zX Z aj Z) (congrArg (jV) bk.out)) (oM Z Z (zb ?_))))))
 have q:=hM bq
 obtain rfl:=q
 exact zF ⟨Z,_,Z,⟨ae,ax,aw,Z,ai,ay,az,aP,bb,bu⟩⟩
 rintro bO bA bD ⟨aQ,bG,bF,aV,bH,bI,aU,bK,be,bJ⟩ bi
 have br:=wEC hm ak bi
 have aS:Hid (¬ ((↑(((↑p0.length:Int):Int) - 0).toNat:Int) < (↑p0.length:Int))):=zG (wAr)
 refine sR fL1 Z (oR Z (zR Z aV aU) (eN (zK (cF Z aS (ZG (zc (zc (zz (zF (sR fL1 Z (oA Z Z (eN (zP ?_)))))))))))))
 have hE:=hM br;first | subst r | cases hE
 exact ⟨rfl,_,(zj rfl),aQ,_,(be.pick [] _ (by decide) rfl),rfl,rfl⟩
theorem wFR (p0:wAT) (ai:Option Addr) (aj:Nat) (ae:Option Addr) (af:Nat) (w:World) (U:PHeap) (hS:St0 w U []) (dy:Sl U 1 ai aj p0.Bibs.length (hD KL.encI p0.Bibs)) (dz:SlR U wFw ae af p0.Times) {r:Int} (hm:wCd p0=some r):Gv Tryz.prog 118 [.agg #[jV p0.Laps,.slice ai p0.Bibs.length aj,.slice ae p0.Times.length af]] w (wBj w [] U (fun U_ L_ v=>v=jV r/\L_=[])):=by
 unfold wCd at hm
 refine Gv.of Tryz.func118 Z Tryz.ntmps118 Tryz.results118 Z (sR gAg Z ?_)
 let B0:List Value:=[jV p0.Laps,.slice ai p0.Bibs.length aj,.slice ae p0.Times.length af]
 refine ZB (cs:=B0) rfl rfl rfl rfl rfl rfl (by rfl) hS ?_
 intro W1 b2 dr
 have q:=dr.freeze (k:=0) rfl
 obtain ⟨U5,ci,aq,dw⟩:=q
 replace aq:=Cl.of aq
 have bY:sW w U U5 [] W1:=dw
 replace aq:Cl U5 b2 0 B0:=aq
 refine oA Z Z (eN (zK (zU (sR (.fl 0 (.fl 1 (.fx 2 (wPz (.fx 23 (wNL (.nil)) .stop)) .stop))) Z (oR Z (zC Z Z ZC Z zD) (oL Z (bY.ldC (f:=0) aq (v:=jV p0.Laps) Z Z zN Z) (bnK hm fun fe cM dI=>zI 0 Z Z Z Z (zJ Z Z Tryz.call143 (zA Z (zA Z (zA Z zM))) Z) bY (fun hs=>wHN p0.Laps 1 20 W1 U5 hs cM) (.inr Z) ?_)))))))
 rintro an eG e7 bG bu dn ⟨rfl,rfl⟩
 have ak:sW w U an [] bG:=dn
 refine oR Z (ZR Z Z) (oM Z Z (ifc dI ?_ ?_))
 intro ag dU
 refine zT Z Z Z (zL Z Z (nC ag.out)) (fun _=>zC Z Z ZC Z zk) ?_
 have ap:=aq.le bu
 refine zn Z Z Z (zL Z Z (nC ag.out)) (ak.ldC (f:=1) ap (v:=.slice ai p0.Bibs.length aj) Z Z zu Z) Z (zT Z Z Z (zL Z Z (nC ag.out)) (fun _=>ze Z Z zH) (zT Z Z Z (zL Z Z (nC ag.out)) (fun _=>yP Z Z Z) (oR Z (zS Z (nC ag.out) Z) (oM Z Z (ifc dU ?_ ?_)))))
 intro ab dV
 refine oT Z ab (oT Z ab (oT Z ab (oT Z ab (oT Z ab (oT Z ab (oT Z ab (oR Z (zV Z (ZO ab.out) Z) (oM Z Z (oN Z (oN Z (oN Z (Zl Z Z Z (zY Z Z Z Z) (oN Z (oR Z (zV Z Z Z) (oA Z Z (eN (zx Z (sR fL1 Z (oA Z Z (eN (zP (zm (zZ ?_)))))))))))))))))))))))
 cases dV
 exact ⟨Z,_,(zj Z),an,_,ak,Z,Z⟩
 intro ab dW
 refine rU Z (wF Z ab) (zC Z Z ZC Z Zz) (zn Z Z Z (wF Z ab) (ak.ldC (f:=2) ap (v:=.slice ae p0.Times.length af) Z Z yY Z) Z (rU Z (wF Z ab) (ze Z Z ZM) (rU Z (wF Z ab) (zC Z Z ZC Z zk) (zn Z Z Z (wF Z ab) (ak.ldC (f:=1) ap (v:=.slice ai p0.Bibs.length aj) Z Z zu Z) Z (rU Z (wF Z ab) (ze Z Z zH) (rU Z (wF Z ab) (Ze Z Z Z) (oR Z (zS Z (zo ab.out) Z) (oM Z Z (ifc dW ?_ ?_)))))))))
 intro ac dX
 refine zT Z Z Z (zL Z Z (zo (fun h=>h ac.out))) (fun _=>zC Z Z ZC Z Zz) (zn Z Z Z (zL Z Z (zo (fun h=>h ac.out))) (ak.ldC (f:=2) ap (v:=.slice ae p0.Times.length af) Z Z yY Z) Z (zT Z Z Z (zL Z Z (zo (fun h=>h ac.out))) (fun _=>yW Z zM (zA Z zM)) ?_))
 have cR:=dz.le ci
 have ba:=cR.le bu
 have cS:=dy.le ci
 have bQ:=cS.le bu
 have dg:FnOK Tryz.prog an (.func (.func 173) #[] #[.pointer (some ⟨b2,0,none⟩)]) wOU wOV (fun x=>wCG x p0):=⟨173,[],[.pointer (some ⟨b2,0,none⟩)],rfl,Tryz.call173,fun U1 w1 x y vs le hs ha hm=>by obtain ⟨pA_0,pc_0,rfl,hq0_0⟩:=ha;exact wGd x pA_0 pc_0 p0 b2 ai aj ae af w1 U1 hs hq0_0 (ap.le le) (bQ.le le) (ba.le le) hm⟩
 refine bnK dX fun ff cU dY=>zI 0 Z Z Z (zL Z Z (zo (fun h=>h ac.out))) (zJ Z Z Tryz.call172 (zA Z (zA Z zM)) Z) ak (fun hs=>wGC p0.Times ae af (fun x=>wCG x p0) (.func (.func 173) #[] #[.pointer (some ⟨b2,0,none⟩)]) bG an hs ba dg cU) (.inr Z) ?_
 rintro az eH e8 bH bw dt ⟨rfl,rfl⟩
 have be:sW w U az [] bH:=dt
 refine zT Z Z Z (zL Z Z (zo (fun h=>h ac.out))) (fun _=>ZR Z Z) (oR Z (zS Z (zo (fun h=>h ac.out)) Z) (oA Z Z (eN (ifc dY ?_ ?_))))
 intro aU dZ
 refine zg (nC aU.out) (sR (.fl 0 (.fl 1 (.fx 2 (wNG (.fx 7 (wNH (.nil)) .stop)) .stop))) Z (oR Z (zC Z Z ZC Z zk) ?_))
 have bR:=ap.le bw
 refine oL Z (be.ldC (f:=1) bR (v:=.slice ai p0.Bibs.length aj) Z Z zu Z) ?_
 have bS:=bQ.le bw
 have dh:FnOK Tryz.prog az (.func (.func 175) #[] #[]) wMG wNN wCI:=⟨175,[],[],rfl,Tryz.call175,fun U1 w1 x y vs le hs ha hm=>by obtain rfl:=ha;exact wGe x w1 U1 hs  hm⟩
 refine bnK dZ fun fg cV d5=>zI 0 Z Z Z Z (zJ Z Z Tryz.call174 (zA Z (zA Z zM)) Z) be (fun hs=>wEt p0.Bibs ai aj wCI (.func (.func 175) #[] #[]) bH az hs bS dh cV) (.inr Z) ?_
 rintro aM eI e9 bI bx du ⟨rfl,rfl⟩
 have bg:sW w U aM [] bI:=du
 refine oR Z (ZR Z Z) (oM Z Z (ifc d5 ?_ ?_))
 intro ah d6
 refine zT Z Z Z (zL Z Z (nC ah.out)) (fun _=>zC Z Z ZC Z Zz) ?_
 have bT:=bR.le bx
 refine zn Z Z Z (zL Z Z (nC ah.out)) (bg.ldC (f:=2) bT (v:=.slice ae p0.Times.length af) Z Z yY Z) Z ?_
 have cW:=ba.le bw
 have bU:=cW.le bx
 have di:FnOK Tryz.prog aM (.func (.func 176) #[] #[]) wOU wOV wCJ:=⟨176,[],[],rfl,Tryz.call176,fun U1 w1 x y vs le hs ha hm=>by obtain ⟨pA_0,pc_0,rfl,hq0_0⟩:=ha;exact wGf x pA_0 pc_0 w1 U1 hs hq0_0 hm⟩
 refine bnK d6 fun fh cX d7=>zI 0 Z Z Z (zL Z Z (nC ah.out)) (zJ Z Z Tryz.call172 (zA Z (zA Z zM)) Z) bg (fun hs=>wGC p0.Times ae af wCJ (.func (.func 176) #[] #[]) bI aM hs bU di cX) (.inr Z) ?_
 rintro aS eJ fb bJ bz dv ⟨rfl,rfl⟩
 have bh:sW w U aS [] bJ:=dv
 refine zT Z Z Z (zL Z Z (nC ah.out)) (fun _=>ZR Z Z) (oR Z (zS Z (nC ah.out) Z) (oA Z Z (eN (ifc d7 ?_ ?_))))
 intro aV d8
 refine zg (nC aV.out) (sR gAr Z (oR Z (zC Z Z ZC Z zk) ?_))
 have bV:=bT.le bz
 refine oL Z (bh.ldC (f:=1) bV (v:=.slice ai p0.Bibs.length aj) Z Z zu Z) ?_
 have cY:=bS.le bx
 have cZ:=cY.le bz
 refine bnK d8 fun fj c7 d9=>zI 0 Z Z Z Z (zJ Z Z Tryz.call144 (zA Z zM) Z) bh (fun hs=>wJI p0.Bibs ai aj bJ aS hs cZ c7) (.inr Z) ?_
 rintro aN eK fc cr cj dx ⟨rfl,rfl⟩
 have bi:sW w U aN [] cr:=dx
 refine oA Z Z (eN (ifc d9 ?_ ?_))
 intro aW eb
 refine zx (congrArg nA aW.out) (sR fL1 Z (oA Z Z (eN (zP (zm (zZ ?_))))))
 cases eb
 exact ⟨Z,_,(zj Z),aN,_,bi,Z,Z⟩
 intro aW bs
 refine zg (congrArg nA (nB.2 aW.out)) (ZE (za (zF (zK (zK (yg fun cm bW=>?_))))))
 have cJ:cm 1=.pointer (some ⟨b2,0,none⟩):=(bW 1).trans rfl
 clear bW
 refine rR fL4 Z (oR Z (zC Z cJ ZC Z Zz) ?_)
 have c8:=bV.le cj
 refine oL Z (bi.ldC (f:=2) c8 (v:=.slice ae p0.Times.length af) Z Z yY Z) (oR Z (ze Z Z ZM) (oM Z Z (eN (zU ?_))))
 have q:=wDA bs
 obtain ⟨eY,bk⟩:=q
 have q:=wCz bk
 obtain ⟨bp,dE⟩:=q
 replace bp:=zG bp
 refine ya (fun am _ J_ w_=>∃ (U_:PHeap),J_ 51=jV (↑am:Int)/\J_ 49=.slice ae p0.Times.length af/\J_ 50=jV (↑p0.Times.length:Int)/\PHeap.Le aN U_/\sW w U U_ [] w_) dE ?_ ?_ ?_
 exact ⟨aN,Z,Z,Z,(zQ _),bi⟩
 rintro am ⟨⟩ fk eB eM bm ⟨aQ,aX,bM,bN,cg,bX⟩ cc dA
 try dsimp only at cc
 have bK:Hid ((↑am:Int) < (↑p0.Times.length:Int)):=zG (wBR bm)
 replace bm:=zG bm
 have dG:Hid (w64 ((↑am:Int) + 1)=(↑(am + 1):Int)):=zG (by have h1:=bp.out;have h2:=bK.out;rw [wAa] <;> omega)
 refine sR fL1 Z (oR Z (zR Z aX bN) (eN (zK (cT Z bK (kN (zK (zU (sR fL3 Z (bnK cc fun au bO br=>?_)))))))))
 have cN:=bU.le bz
 have cO:=cN.le cj
 have cP:=cO.le cg
 have q:=cP.el (wAk bO)
 obtain ⟨ct,eh,fd,da,bb,ed⟩:=q
 obtain ⟨bA,bB,rfl,cQ⟩:=ed
 replace bb:Cl aQ ct (eh + am * 1) [.slice bA au.length bB]:=bb
 refine oR Z (ZD Z bM da aX ZM zk (wBi bO)) (oL Z (bX.ldC (f:=0) bb (v:=.slice bA au.length bB) Z Z zu Z) (oA Z Z (eN (sR fL1 Z (oA Z Z (eN (zU ?_)))))))
 have q:=wDA br
 obtain ⟨eX,bj⟩:=q
 have q:=wCz bj
 obtain ⟨bq,dF⟩:=q
 replace bq:=zG bq
 refine ya (fun ax _ J_ w_=>∃ (U_:PHeap),J_ 5=jV (1 + ↑ax:Int)/\J_ 4=.slice bA au.length bB/\J_ 49=.slice ae p0.Times.length af/\J_ 50=jV (↑p0.Times.length:Int)/\J_ 51=jV (↑am:Int)/\PHeap.Le aQ U_/\sW w U U_ [] w_) dF ?_ ?_ ?_
 exact ⟨aQ,Z,Z,bM,bN,aX,(zQ _),bX⟩
 rintro ax ⟨⟩ fm eC bF bn ⟨bD,aP,aO,cA,cB,cC,ch,dm⟩ cd dB
 try dsimp only at cd
 have bL:Hid ((1 + ↑ax:Int) < (↑au.length:Int)):=zG (lp_lt bn)
 replace bn:=zG bn
 have dH:Hid (w64 ((1 + ↑ax:Int) + 1)=(1 + ↑(ax + 1):Int)):=zG (by have h1:=bq.out;have h2:=bL.out;rw [wAa] <;> omega)
 refine zK (sR fL4 rfl (zO rfl rfl rfl rfl rfl aP (zO rfl rfl rfl rfl rfl aO (zT rfl rfl rfl rfl (fun _=>ze rfl rfl zH) (zT rfl rfl rfl rfl (fun _=>zR rfl rfl rfl) (eN (cT Z bL (kN (zK (zU (zK (ZQ ZK [3,3,3,1,3,3,3,3,1,3] fL10 (by kernel_rfl) ?_))))))))))))
 have aw:=dm.drew
 generalize hw_W154:({ bF with drawn:=bF.drawn + 1 }:World)=eO at aw ⊢
 refine oM Z aO (oM Z aP (bnK cd fun ey aY dJ=>?_))
 have bP:=cQ.le ch
 have q:=bP.el (fun _=>rfl) (wAk aY)
 obtain ⟨eR,eV,db,de⟩:=q
 refine oR Z (ZU Z Z db Z zH zD (wFN aY) (wFh aY)) (oL Z (aw.ldC (f:=0) de (v:=jV ey) Z Z zN Z) (oM Z aO (oM Z aP (oR Z (ZN Z Z Z) (bnK dJ fun eA aZ dK=>?_)))))
 have q:=bP.el (fun _=>rfl) (wAk aZ)
 obtain ⟨eS,eW,dd,df⟩:=q
 refine oR Z (ZU Z Z dd Z zH zD (wFN aZ) (wFh aZ)) (oL Z (aw.ldC (f:=0) df (v:=jV eA) Z Z zN Z) (oR Z (Runs.leq Z Z Z) (eN (ifc dK ?_ ?_))))
 intro aT dL
 refine cT Z aT (sR fL1 Z (oA Z Z (eN (zP (zm (zZ ?_))))))
 have q:=wAq dL
 obtain ⟨ep,dM,cy⟩:=q
 have q:=wDj br bj (dB ep cy)
 obtain rfl:=q
 refine zZ (zm (zm (zZ ?_)))
 have q:=wAq dM
 obtain ⟨eu,dN,cz⟩:=q
 have q:=wDj bs bk (dA eu cz)
 obtain rfl:=q
 refine zZ (zm (zZ ?_))
 cases dN
 exact ⟨Z,_,(zj Z),bD,_,aw,Z,Z⟩
 intro aT dO
 refine cF Z aT (ZE (za (zF (rR fL3 Z (oM Z aP (oR Z (zr (zX Z Z Z) (congrArg (jV) dH.out)) (oA Z Z (zb ?_))))))))
 have q:=hM dO
 obtain rfl:=q
 exact zF ⟨Z,_,Z,⟨bD,Z,aO,cA,cB,cC,ch,aw⟩⟩
 rintro ⟨⟩ eD eP ⟨co,cK,cD,cE,cG,cH,ee,dp⟩ dC
 have bZ:=wEC br bj dC
 try dsimp only at bZ
 have cw:Hid (¬ ((1 + ↑(((↑au.length:Int):Int) - 1).toNat:Int) < (↑au.length:Int))):=zG (wPQ)
 refine zK (sR fL4 Z (oM Z cK (oM Z cD (oR Z (ze Z Z zH) (oR Z (zR Z Z Z) (eN (cF Z cw (ZG (zc (zc (zz (za (zF (rR fL2 Z (oR Z (zr (zX Z cH Z) (congrArg (jV) dG.out)) (oM Z Z (zb ?_)))))))))))))))))
 have q:=hM bZ
 obtain rfl:=q
 exact zF ⟨Z,_,Z,⟨co,Z,cE,cG,(cg.trans ee),dp⟩⟩
 rintro ⟨⟩ eF eQ ⟨cp,cL,eT,cI,eU,dq⟩ dD
 have ca:=wEC bs bk dD
 try dsimp only at ca
 have cx:Hid (¬ ((↑(((↑p0.Times.length:Int):Int) - 0).toNat:Int) < (↑p0.Times.length:Int))):=zG (wAr)
 refine sR fL1 Z (oR Z (zR Z cL cI) (eN (zK (cF Z cx (ZG (zc (zc (zz (zF (sR fL1 Z (oA Z Z (eN (zP ?_)))))))))))))
 cases ca
 exact ⟨Z,_,(zj Z),cp,_,dq,Z,Z⟩
 intro aV dP
 refine zx (nF (aV.out)) (sR fL1 Z (oA Z Z (eN (zP (zm (zZ ?_))))))
 cases dP
 exact ⟨Z,_,(zj Z),aS,_,bh,Z,Z⟩
 intro ah dQ
 refine zW Z Z Z (zY Z Z (nF (ah.out)) Z) (zW Z Z Z (zY Z Z (nF (ah.out)) Z) (Zl Z Z Z (zY Z Z (nF (ah.out)) Z) (zW Z Z Z (zY Z Z (nF (ah.out)) Z) (oR Z (zV Z (nF (ah.out)) Z) (oA Z Z (eN (zx Z (sR fL1 Z (oA Z Z (eN (zP (zm (zZ ?_)))))))))))))
 cases dQ
 exact ⟨Z,_,(zj Z),aM,_,bg,Z,Z⟩
 intro aU dR
 refine zx (nF (aU.out)) (sR fL1 Z (oA Z Z (eN (zP (zm (zZ ?_))))))
 cases dR
 exact ⟨Z,_,(zj Z),az,_,be,Z,Z⟩
 intro ac dS
 refine oT Z ac (oT Z ac (oT Z ac (Zl Z Z Z (zY Z Z (ZO ac.out) Z) (oT Z ac (oR Z (zV Z (ZO ac.out) Z) (oA Z Z (eN (zx Z (sR fL1 Z (oA Z Z (eN (zP (zm (zZ ?_))))))))))))))
 cases dS
 exact ⟨Z,_,(zj Z),an,_,ak,Z,Z⟩
 intro ag dT
 refine zW Z Z Z (zY Z Z (nF (ag.out)) Z) (zW Z Z Z (zY Z Z (nF (ag.out)) Z) (zW Z Z Z (zY Z Z (nF (ag.out)) Z) (zW Z Z Z (zY Z Z (nF (ag.out)) Z) (oR Z (zV Z (nF (ag.out)) Z) (oM Z Z (oN Z (oN Z (oN Z (oN Z (oN Z (oN Z (oN Z (oR Z (zV Z Z Z) (oM Z Z (oN Z (oN Z (oN Z (Zl Z Z Z (zY Z Z Z Z) (oN Z (oR Z (zV Z Z Z) (oA Z Z (eN (zx Z (sR fL1 Z (oA Z Z (eN (zP (zm (zZ ?_)))))))))))))))))))))))))))))
 cases dT
 exact ⟨Z,_,(zj Z),an,_,ak,Z,Z⟩
end Go.Proofs.YtlmekamhphnmjaaGreat
namespace Go.Proofs.YtlmekamhphnmjaaGreat
open Go.KL
set_option maxHeartbeats 4000000
theorem wGE (p0:List Int) (p1:Int) (w:World) (U:PHeap) (hS:St0 w U [])  {r:(List Int)} (hm:wCN p0 p1=some r):Gv Tryz.prog 288 [.slice none 0 0,jV p1] w (wBj w [] U (fun U_ L_ v=>∃ (A0:Option Addr) (c0:Nat),v=.slice A0 r.length c0/\L_=[.row A0 c0 3 1 (hD KL.encI r)])):=by
 unfold wCN at hm
 refine Gv.of Tryz.func288 Z Tryz.ntmps288 Tryz.results288 Z (sR fL1 Z (oA Z Z (eN (zK (sR fL2 Z (oM Z Z (oR Z (zR Z Z Z) (eN ?_))))))))
 by_cases c1:p1 < 0
 have am:=hm;rw [if_pos c1] at am;replace c1:=zG c1
 refine cT Z c1 (rR gAk Z ?_)
 cases am
 have an:=hm;rw [if_neg c1] at an;replace c1:=zG c1
 refine cF Z c1 (kN (zK (sR fL8 rfl (zO rfl rfl rfl rfl rfl rfl (zO rfl rfl rfl rfl rfl rfl (zT rfl rfl rfl rfl (fun _=>Runs.capn rfl rfl zH) (zO rfl rfl rfl rfl rfl rfl (zT rfl rfl rfl rfl (fun _=>ze rfl rfl zH) (zT rfl rfl rfl rfl (fun _=>zr (ZN rfl rfl rfl) (congrArg (jV) (show w64 (0 - 0)=0 by decide))) (zT rfl rfl rfl rfl (fun _=>ZN rfl rfl rfl) (ye rfl rfl rfl rfl rfl rfl (eN (sR fL2 rfl (zO rfl rfl rfl rfl rfl rfl (zT rfl rfl rfl rfl (fun _=>yP rfl rfl rfl) (eN (ifc an ?_ ?_)))))))))))))))))
 intro c4 ax
 refine cT Z c4 (rR (wEA (.fx 5 (fC6_9 (.nil)) .stop)) rfl (zO rfl rfl rfl rfl rfl rfl (zO rfl rfl rfl rfl rfl rfl (zT rfl rfl rfl rfl (fun _=>Runs.capn rfl rfl zH) (zT rfl rfl rfl rfl (fun _=>zr (Runs.slc (sz:=1) (a:=0) (b:=0) rfl rfl (.inr ⟨rfl,rfl⟩) (.inl ⟨_,rfl,rfl⟩) zH zD (by decide) (by decide) (by decide) (Nat.le_refl _)) rfl) (zO rfl rfl rfl rfl rfl rfl (bnK ax fun x6 h7 ay=>OKS.appendZ (enc:=KL.encI) (z:=(0:Int)) (xs:=x6) rfl rfl rfl rfl rfl yR Tryz.underlying3 wGs rfl rfl rfl rfl rfl hS rfl rfl h7 rfl ?_)))))))
 intro W9 ab ac ap
 have ak:sW w U U [.row ab ac 3 1 (hD KL.encI x6)] W9:=ap
 refine oM Z Z (oR Z (ze Z Z zH) ?_)
 have az:=ak.rowCap (j:=0) rfl (by decide) (wAG (f:=KL.encI) (sz:=1) (fun _=>rfl) x6)
 refine zT (v:=.slice ab 0 ac) Z Z Z Z (fun _=>zr (Runs.slc (sz:=1) (a:=0) (b:=0) Z Z (.inr ⟨Z,Z⟩) (.inl ⟨_,Z,Z⟩) zH zD (Int.le_refl _) (Int.le_refl _) (Int.natCast_nonneg _) az) slc0) ?_
 have aq:=ak.cutRowM (enc:=KL.encI) (k:=0) (b:=0) rfl
 have au:sW w U U [.row ab ac 3 1 (hD KL.encI ([]:List Int))] W9:=aq
 refine oA Z Z (eN (sR fL2 Z (oM Z Z (oA Z Z (eN (zP ?_))))))
 cases ay
 exact ⟨Z,_,(zj Z),U,_,au,ab,ac,Z,Z⟩
 intro c4 aw
 refine cF Z c4 (kN (sR fL2 Z (oM Z Z (oA Z Z (eN (zP ?_))))))
 have av:=hS.nilrow 3 1
 cases aw
 exact ⟨Z,_,(zj Z),U,_,av,none,0,Z,Z⟩
theorem wFd (p0:List (List Int)) (ae:Option Addr) (af:Nat) (w:World) (U:PHeap) (hS:St0 w U []) (be:SlR U wFw ae af p0) {r:(List Int)} (hm:wBv p0=some r):Gv Tryz.prog 233 [.slice ae p0.length af] w (wBj w [] U (fun U_ L_ v=>∃ (A0:Option Addr) (c0:Nat),v=.slice A0 r.length c0/\L_=[.row A0 c0 3 1 (hD KL.encI r)])):=by
 unfold wBv at hm
 refine Gv.of Tryz.func233 Z Tryz.ntmps233 Tryz.results233 Z (sR fL1 Z (oA Z Z (eN (sR fL1 Z (oA Z Z (eN (zK (sR fL3 Z (oM Z Z (oR Z (ze Z Z ZM) (oM Z Z (eN (zU (bnK hm fun cM cj cA=>?_))))))))))))))
 have q:=wBM cj
 obtain ⟨ax,ch⟩:=q
 replace ax:=zG ax
 refine CK.forN' (fun k7 x6 J_ w_=>∃ (U_:PHeap),J_ 11=jV (↑k7:Int)/\J_ 0=.slice ae p0.length af/\J_ 3=jV x6/\J_ 9=.slice ae p0.length af/\J_ 10=jV (↑p0.length:Int)/\PHeap.Le U U_/\sW w U U_ [] w_) ch ?_ ?_ ?_
 exact ⟨U,Z,Z,Z,Z,Z,(zQ _),hS⟩
 rintro k7 x6 db cN cU av ⟨aP,an,bI,bJ,aX,aY,bh,bb⟩ cE
 have aT:Hid ((↑k7:Int) < (↑p0.length:Int)):=zG (wBR av)
 replace av:=zG av
 have cp:Hid (w64 ((↑k7:Int) + 1)=(↑(k7 + 1):Int)):=zG (by have h1:=ax.out;have h2:=aT.out;rw [wAa] <;> omega)
 refine sR fL1 Z (oR Z (zR Z an aY) (eN (zK (cT Z aT (kN (zK (zU (sR fL3 Z (bnK cE fun bp ba cw=>?_)))))))))
 have bU:=be.le bh
 have q:=bU.el (wAk ba)
 obtain ⟨bB,cK,da,bX,aq,cD⟩:=q
 obtain ⟨bj,bm,rfl,cY⟩:=cD
 replace aq:Cl aP bB (cK + k7 * 1) [.slice bj bp.length bm]:=aq
 refine oR Z (ZD Z aX bX an ZM zk (wBi ba)) (oL Z (bb.ldC (f:=0) aq (v:=.slice bj bp.length bm) Z Z zu Z) (oA Z Z (eN (sR fL5 Z (oM Z bJ (oM Z Z (oR Z (ze Z Z zH) (oR Z (zX Z Z Z) (oA Z Z (eN (sR fL2 Z (oM Z Z (oR Z (zR Z Z Z) (eN (ifc cw ?_ ?_)))))))))))))))
 intro ak cx
 refine cT Z ak (rR gAk Z ?_)
 cases cx
 intro ak cy
 refine cF Z ak (ZE (za (zF (rR fL2 Z (oR Z (zr (zX Z an Z) (congrArg (jV) cp.out)) (oM Z Z (zb ?_)))))))
 cases cy
 exact zF ⟨Z,⟨aP,Z,bI,Z,aX,aY,bh,bb⟩⟩
 rintro cP bx ⟨bu,bO,bK,bL,cX,bM,cH,cc⟩
 have bE:Hid (¬ ((↑(((↑p0.length:Int):Int) - 0).toNat:Int) < (↑p0.length:Int))):=zG (wAr)
 refine sR fL1 Z (oR Z (zR Z bO bM) (eN (zK (cF Z bE (ZG (zc (zc (zz (zF (sR gAo Z (oM Z bL (bnK cA fun cL bV cz=>zI 0 Z Z Z Z (zJ Z Z Tryz.call288 (zA Z (zA Z zM)) Z) cc (fun hs=>wGE [] cM bx bu hs bV) (.inr Z) ?_))))))))))))
 rintro ai cR c7 bz cI cd ⟨aO,aU,rfl,rfl⟩
 have cg:sW w U ai [.row aO aU 3 1 (hD KL.encI cL)] bz:=cd
 refine oA Z Z (eN (zK (sR fL3 Z (oM Z bK (oR Z (ze Z Z ZM) (oM Z Z (eN (zU (bnK cz fun de ci cB=>?_)))))))))
 have q:=wBM ci
 obtain ⟨ay,cm⟩:=q
 replace ay:=zG ay
 refine CK.forN' (fun ac ag J_ w_=>∃ (U_:PHeap) (ah:Option Addr) (am:Nat),J_ 27=jV (↑ac:Int)/\J_ 6=.slice ah ag.length am/\J_ 25=.slice ae p0.length af/\J_ 26=jV (↑p0.length:Int)/\PHeap.Le ai U_/\sW w U U_ [.row ah am 3 1 (hD KL.encI ag)] w_) cm ?_ ?_ ?_
 exact ⟨ai,aO,aU,Z,Z,Z,Z,(zQ _),cg⟩
 rintro ac ag dd cQ cV aw ⟨aj,ah,am,ao,bF,aV,aW,bg,au⟩ cG
 have aR:Hid ((↑ac:Int) < (↑p0.length:Int)):=zG (wBR aw)
 replace aw:=zG aw
 have co:Hid (w64 ((↑ac:Int) + 1)=(↑(ac + 1):Int)):=zG (by have h1:=ay.out;have h2:=aR.out;rw [wAa] <;> omega)
 refine sR fL1 Z (oR Z (zR Z ao aW) (eN (zK (cT Z aR (kN (zK (zU (sR fL3 Z (bnK cG fun az aZ cr=>?_)))))))))
 have bP:=be.le cH
 have bQ:=bP.le cI
 have bR:=bQ.le bg
 have q:=bR.el (wAk aZ)
 obtain ⟨bA,cJ,c8,bW,ap,cC⟩:=q
 obtain ⟨bi,bk,rfl,bS⟩:=cC
 replace ap:Cl aj bA (cJ + ac * 1) [.slice bi az.length bk]:=ap
 refine oR Z (ZD Z aV bW ao ZM zk (wBi aZ)) (oL Z (au.ldC (f:=0) ap (v:=.slice bi az.length bk) Z Z zu Z) (oA Z Z (eN (rR gAr Z (oM Z bF (oM Z Z (bnK cr fun bn bT ct=>yE (j:=0) (enc:=KL.encI) (xs:=ag) (ys:=az) (zs:=bn) Z Z Z Z Z yR wGs Z Z Z Z Z Z au Z Z Z (au.srcS bS) (fun _=>Z) (fun _=>Z) bT Z ?_)))))))
 intro aN aS bw bY
 have bZ:sW w U aj [.row aN aS 3 1 (hD KL.encI bn)] bw:=bY
 refine oA Z Z (zb (za (zF (rR fL2 Z (oR Z (zr (zX Z ao Z) (congrArg (jV) co.out)) (oM Z Z (zb ?_)))))))
 cases ct
 exact zF ⟨Z,⟨aj,aN,aS,Z,Z,aV,aW,bg,bZ⟩⟩
 rintro cO cS ⟨bs,br,bC,bN,bG,cW,bH,cZ,ca⟩
 have bD:Hid (¬ ((↑(((↑p0.length:Int):Int) - 0).toNat:Int) < (↑p0.length:Int))):=zG (wAr)
 refine sR fL1 Z (oR Z (zR Z bN bH) (eN (zK (cF Z bD (ZG (zc (zc (zz (zF (sR fL2 Z (oM Z bG (oA Z Z (eN (zP ?_))))))))))))))
 have hE:=hM cB;first | subst r | cases hE
 exact ⟨Z,_,(zj Z),bs,_,ca,br,bC,Z,Z⟩
theorem wGF (p0:List Int) (ab:Option Addr) (ac:Nat) (w:World) (U:PHeap) (hS:St ⟨w,[.row ab ac 3 1 (hD KL.encI p0)],U⟩ U [.row ab ac 3 1 (hD KL.encI p0)] w) {r:List Int} (hm:wCw p0=some r):Gv Tryz.prog 155 [.slice ab p0.length ac] w (wBj w [.row ab ac 3 1 (hD KL.encI p0)] U (fun U_ L_ v=>v=.tuple #[]/\L_=[.row ab ac 3 1 (hD KL.encI r)]/\r.length=p0.length)) :=
 wNU (fun b o c zs w h1 h2 h3=>Go.Proofs.Tryz.slices_Sort_int b o c zs w h1 h2 h3) (fun p c w=>Go.Proofs.Tryz.slices_Sort_int_none p c w) hS hm
theorem wFS (p0:List Int) (ab:Option Addr) (ac:Nat) (w:World) (U:PHeap) (hS:St ⟨w,[.row ab ac 3 1 (hD KL.encI p0)],U⟩ U [.row ab ac 3 1 (hD KL.encI p0)] w) {r:List Int} (hm:wCW p0=some r):Gv Tryz.prog 235 [.slice ab p0.length ac] w (wBj w [.row ab ac 3 1 (hD KL.encI p0)] U (fun U_ L_ v=>∃ (A0:Option Addr) (c0:Nat),v=.slice A0 r.length c0/\L_=[.row A0 c0 3 1 (hD KL.encI r)])) :=
 wKV (fun b o c zs w h1 h2 h3=>Go.Proofs.Tryz.slices_Compact_int b o c zs w h1 h2 h3) (fun p c w=>Go.Proofs.Tryz.slices_Compact_int_empty p c w) hS hm
theorem wFM {S E:Type} (PY:S->PHeap->List Res->Prop) (PE:E->PHeap->List Res->Prop) (f:S->Int->Option (S ⊕ E)) (y:Nat) (s0:S) (p1:List Int) (aN:Nat) (ag:Option Addr) (ah:Nat) (w:World) (L:List Res) (U:PHeap) (hS:St ⟨w,L,U⟩ U L w) (hP:PY s0 U L) (hY:YOK Tryz.prog y wMG PY PE f U) (bi:Cl U aN 0 [.slice ag p1.length ah]) (bj:Sl U 1 ag ah p1.length (hD KL.encI p1)) {r:S ⊕ E} (hm:wBP f s0 p1=some r):Gv Tryz.prog 289 [.func (.yield y) #[] #[],.pointer (some ⟨aN,0,none⟩)] w (ItS w L U PY PE r):=by
 unfold wBP at hm
 refine Gv.of Tryz.func289 Z Tryz.ntmps289 Tryz.results289 Z (sR fL3 Z (oL Z (hS.ldC (f:=0) bi (v:=.slice ag p1.length ah) Z Z zu Z) (oR Z (ze Z Z zH) (oM Z Z (eN (zU ?_))))))
 have q:=wDA hm
 obtain ⟨bP,am⟩:=q
 have q:=wCz am
 obtain ⟨ao,bn⟩:=q
 replace ao:=zG ao
 refine ya (fun ab aP J_ w_=>∃ (U_:PHeap) (ai:List Res),J_ 7=jV (↑ab:Int)/\J_ 0=.func (.yield y) #[] #[]/\J_ 5=.slice ag p1.length ah/\J_ 6=jV (↑p1.length:Int)/\PHeap.Le U U_/\St ⟨w,L,U⟩ U_ ai w_/\PY aP U_ ai) bn ?_ ?_ ?_
 exact ⟨U,L,Z,Z,Z,Z,(zQ _),hS,hP⟩
 rintro ab aP bQ bD bH an ⟨bG,ai,ak,av,aw,ax,ap,az,aW⟩ bx bk
 have au:Hid ((↑ab:Int) < (↑p1.length:Int)):=zG (wBR an)
 replace an:=zG an
 have bp:Hid (w64 ((↑ab:Int) + 1)=(↑(ab + 1):Int)):=zG (by have h1:=ao.out;have h2:=au.out;rw [wAa] <;> omega)
 refine sR fL1 Z (oR Z (zR Z ak ax) (eN (zK (cT Z au (kN (zK (zU (sR fL3 Z (bnK bx fun aQ ay bq=>?_)))))))))
 have aX:=bj.le ap
 have q:=aX.el (fun _=>rfl) (wAk ay)
 obtain ⟨bJ,bO,ba,bb⟩:=q
 refine oR Z (ZD Z aw ba ak zH zD (wBi ay)) (oL Z (az.ldC (f:=0) bb (v:=jV aQ) Z Z zN Z) (oA Z Z (eN (sR gAr Z (oM Z av (oM Z Z (bnK bq fun bC aY af=>OKS.yieldT 0 (a:=aQ) Z Z Z Z Z Z (zA Z zM) az hY ap aW Z aY Z ?_)))))))
 rintro ac aj bK aq bz aM ae
 rcases bC with bA | bA
 try dsimp only at af ae
 obtain ⟨rfl,bu⟩:=ae
 have be:St ⟨w,L,U⟩ ac aj aq:=aM
 refine oR Z (ZR Z Z) (eN (zg Z (ZE (za (zF (rR fL2 Z (oR Z (zr (zX Z ak Z) (congrArg (jV) bp.out)) (oM Z Z (zb ?_)))))))))
 have q:=hM af
 obtain rfl:=q
 exact zF ⟨Z,_,Z,⟨ac,aj,Z,av,aw,ax,(ap.trans bz),be,bu⟩⟩
 try dsimp only at af ae
 obtain ⟨rfl,bw⟩:=ae
 have bg:St ⟨w,L,U⟩ ac aj aq:=aM
 refine oR Z (ZR Z Z) (eN (zx Z (zP (zm (zZ ?_)))))
 have q:=wAq af
 obtain ⟨bB,br,aT⟩:=q
 have q:=wDj hm am (bk bB aT)
 obtain rfl:=q
 refine zZ (zm ?_)
 cases br
 exact ⟨Z,_,(wEr),ac,_,bg,bw⟩
 rintro bR bE bI ⟨aR,bF,aV,bL,bM,aU,bN,bh,aZ⟩ bm
 have bs:=wEC hm am bm
 have aS:Hid (¬ ((↑(((↑p1.length:Int):Int) - 0).toNat:Int) < (↑p1.length:Int))):=zG (wAr)
 refine sR fL1 Z (oR Z (zR Z aV aU) (eN (zK (cF Z aS (ZG (zc (zc (zz ?_))))))))
 cases bs
 exact ⟨Z,_,(wEr),aR,_,bh,aZ⟩
theorem wFe (p0:List Int) (ac:Option Addr) (ae:Nat) (w:World) (U:PHeap) (hS:St0 w U []) (an:Sl U 1 ac ae p0.length (hD KL.encI p0)) {r:Unit} (hm:wCa p0=some r):Gv Tryz.prog 234 [.slice ac p0.length ae] w (wBj w [] U (fun U_ L_ v=>∃ (b0:Nat),v=.func (.func 289) #[] #[.pointer (some ⟨b0,0,none⟩)]/\L_=[]/\Cl U_ b0 0 [.slice ac p0.length ae])):=by
 unfold wCa at hm
 refine Gv.of Tryz.func234 rfl Tryz.ntmps234 Tryz.results234 rfl (sR gAg rfl (ZB (cs:=[.slice ac p0.length ae]) rfl rfl rfl rfl rfl rfl (by rfl) hS ?_))
 intro W1 b2 aj
 have q:=aj.freeze (k:=0) rfl
 obtain ⟨U5,ao,ab,ak⟩:=q
 replace ab:=Cl.of ab
 have am:sW w U U5 [] W1:=ak
 replace ab:Cl U5 b2 0 [.slice ac p0.length ae]:=ab
 refine oA Z Z (eN (sR fL2 Z (oR Z (yW Z zM (zA Z zM)) (oA Z Z (eN (zP ?_))))))
 cases hm
 exact ⟨Z,_,(zj Z),U5,_,am,b2,Z,Z,ab⟩
theorem wGw (p0:wAT) (an:Option Addr) (ao:Nat) (ag:Option Addr) (ah:Nat) (w:World) (U:PHeap) (hS:St0 w U []) (bE:Sl U 1 an ao p0.Bibs.length (hD KL.encI p0.Bibs)) (bs:SlR U wFw ag ah p0.Times) {r:(List Int)} (hm:wCX p0=some r):Gv Tryz.prog 178 [.agg #[jV p0.Laps,.slice an p0.Bibs.length ao,.slice ag p0.Times.length ah]] w (wBj w [] U (fun U_ L_ v=>∃ (b0:Nat) (A0:Option Addr) (c0:Nat),v=.func (.func 289) #[] #[.pointer (some ⟨b0,0,none⟩)]/\L_=[]/\Cl U_ b0 0 [.slice A0 r.length c0]/\Sl U_ 1 A0 c0 r.length (hD KL.encI r))):=by
 unfold wCX at hm
 refine Gv.of Tryz.func178 Z Tryz.ntmps178 Tryz.results178 Z (sR gAg Z ?_)
 let B0:List Value:=[jV p0.Laps,.slice an p0.Bibs.length ao,.slice ag p0.Times.length ah]
 refine ZB (cs:=B0) rfl rfl rfl rfl rfl rfl (by rfl) hS ?_
 intro W1 b2 aP
 refine oA Z Z (eN (sR gAr Z (oR Z (zC Z Z ZC Z Zz) (oL Z (aP.ldB (j:=0) Z Z Z yY (v:=.slice ag p0.Times.length ah) Z) (bnK hm fun x5 h6 bx=>zI 0 Z Z Z Z (zJ Z Z Tryz.call233 (zA Z zM) Z) aP (fun hs=>wFd p0.Times ag ah W1 U hs bs h6) (.inr Z) ?_)))))
 rintro U8 L9 bJ az bF bg ⟨ab,ae,rfl,rfl⟩
 have bh:sW w U U8 [.row ab ae 3 1 (hD KL.encI x5),.blk b2 175 B0] az:=bg
 refine oA Z Z (eN (sR gAl Z (oM Z Z (bnK bx fun ap aW bu=>zI 1 Z Z Z Z (zJ Z Z Tryz.call155 (zA Z zM) Z) bh (fun hs=>wGF x5 ab ae az U8 hs aW) (.inl Z) ?_))))
 rintro av bA bK aM bG bi ⟨rfl,rfl,aX⟩
 have bj:sW w U av [.row ab ae 3 1 (hD KL.encI ap),.blk b2 175 B0] aM:=bi
 refine eN (sR (.fl 0 (.fx 1 gAf .stop)) rfl (zO rfl rfl rfl rfl rfl (Eq.trans (b:=(.slice ab x5.length ae:Value)) (c:=(.slice ab ap.length ae:Value)) rfl (by rw [aX])) (bnK bu fun ai aY bw=>zI 1 rfl rfl rfl rfl (zJ rfl rfl Tryz.call235 (zA rfl zM) rfl) bj (fun hs=>wFS ap ab ae aM av hs aY) (.inl rfl) ?_)))
 rintro aS bB bL ak bH bk ⟨aj,am,rfl,rfl⟩
 have bm:sW w U aS [.row aj am 3 1 (hD KL.encI ai),.blk b2 175 B0] ak:=bk
 have q:=bm.freezeR (k:=0) (n:=ai.length) rfl (wAG (f:=KL.encI) (sz:=1) (fun _=>rfl) ai) (by decide)
 obtain ⟨aw,bI,aR,bn⟩:=q
 have bp:sW w U aw [.blk b2 175 B0] ak:=bn
 have q:=bnd bw
 obtain ⟨⟨⟩,aZ,aQ⟩:=q
 try dsimp only at aQ
 refine zI 0 Z Z Z Z (zJ Z Z Tryz.call234 (zA Z zM) Z) bp (fun hs=>wFe ai aj am ak aw hs aR aZ) (.inr Z) ?_
 rintro ax bC bM aU bz bq ⟨aV,rfl,rfl,ba⟩
 have br:sW w U ax [.blk b2 175 B0] aU:=bq
 refine oA Z Z (eN (zP ?_))
 have bb:=aR.le bz
 have hE:=hM aQ;first | subst r | cases hE
 exact ⟨rfl,_,(zj rfl),ax,_,(br.pick [] _ (by decide) rfl),aV,aj,am,rfl,rfl,ba,bb⟩
theorem wEu (p0:wAK) (aP:Nat) (aR:Option Addr) (aS:Nat) (ba:Option Addr) (be:Nat) (ay:Option Addr) (az:Nat) (bb:Option Addr) (bg:Nat) (p1:Int) (p2:Int) (p3:Int) (w:World) (U:PHeap) (hS:St0 w U []) (br:Cl U aP 0 [jV p0.Race.Laps,.slice aR p0.Race.Bibs.length aS,.slice ba p0.Race.Times.length be,.slice ay p0.done.length az,.slice bb p0.out.length bg]) (cC:Sl U 1 aR aS p0.Race.Bibs.length (hD KL.encI p0.Race.Bibs)) (cD:SlR U wFw ba be p0.Race.Times) (cE:Sl U 1 ay az p0.done.length (hD KL.encI p0.done)) (cG:Sl U 1 bb bg p0.out.length (hD KL.encT p0.out)) {r:Int} (hm:wBZ p0 p1 p2 p3=some r):Gv Tryz.prog 180 [.pointer (some ⟨aP,0,none⟩),jV p1,jV p2,jV p3] w (wBj w [] U (fun U_ L_ v=>v=jV r/\L_=[])):=by
 unfold wBZ at hm
 refine Gv.of Tryz.func180 Z Tryz.ntmps180 Tryz.results180 Z (sR fL1 Z (oA Z Z (eN (sR fL1 Z (oA Z Z (eN (zK (sR fL6 Z (oM Z Z (oR Z (ZJ Z Z) (oR Z (zC Z Z ZY Z zk) (oL Z (hS.ldC (f:=3) br (v:=.slice ay p0.done.length az) Z Z zu Z) (oR Z (ze Z Z zH) (oM Z Z (eN (zU (bnK hm fun dR cI cY=>?_)))))))))))))))))
 have q:=wBM cI
 obtain ⟨aZ,cH⟩:=q
 replace aZ:=zG aZ
 refine CK.forN' (fun k7 x6 J_ w_=>∃ (U_:PHeap),J_ 17=jV (↑k7:Int)/\J_ 0=.pointer (some ⟨aP,0,none⟩)/\J_ 2=jV p2/\J_ 3=jV p3/\J_ 9=jV x6/\J_ 15=.slice ay p0.done.length az/\J_ 16=jV (↑p0.done.length:Int)/\PHeap.Le U U_/\sW w U U_ [] w_) cH ?_ ?_ ?_
 exact ⟨U,Z,Z,Z,Z,Z,Z,Z,(zQ _),hS⟩
 rintro k7 x6 dQ dr bh aY ⟨ap,aj,ai,au,av,aq,aw,ax,aM,bq⟩ dd
 have bi:Hid ((↑k7:Int) < (↑p0.done.length:Int)):=zG (wBR aY)
 replace aY:=zG aY
 have cJ:Hid (w64 ((↑k7:Int) + 1)=(↑(k7 + 1):Int)):=zG (by have h1:=aZ.out;have h2:=bi.out;rw [wAa] <;> omega)
 refine sR fL1 Z (oR Z (zR Z aj ax) (eN (zK (cT Z bi (kN (bnK dd fun di de cP=>YC (fun J_ w_=>∃ (U_:PHeap),J_ 0=.pointer (some ⟨aP,0,none⟩)/\J_ 2=jV p2/\J_ 3=jV p3/\J_ 9=jV di/\J_ 15=.slice ay p0.done.length az/\J_ 16=jV (↑p0.done.length:Int)/\J_ 17=jV (↑k7:Int)/\PHeap.Le ap U_/\sW w U U_ [] w_) ?_ ?_))))))
 refine zU (sR fL5 Z (oM Z aj (bnK de fun dm bj cQ=>?_)))
 have cc:=cE.le aM
 have q:=cc.el (fun _=>rfl) (wAk bj)
 obtain ⟨dA,dM,cm,cx⟩:=q
 refine zT rfl rfl rfl rfl (fun _=>ZD rfl aw cm aj zH zD (wBi bj)) (zn rfl rfl rfl rfl (bq.ldC (f:=0) cx (v:=jV dm) rfl rfl zN rfl) rfl (ye rfl rfl rfl rfl rfl rfl (ye rfl rfl rfl rfl rfl rfl (eN (zK (ZQ ZK [3,3,3,1,3,3,1,3,3,3,3,3,3,3,3,3,3,3,3,1,3,3,1,3,3,3,1,3,3,3,3,3,3,3,3,3,3,3,1,3,3,1,3,3,3,3,1,3,3,1,3,3,3] fL53 (by kernel_rfl) ?_))))))
 have ae:=bq.drew
 generalize hw_W44:({ bh with drawn:=bh.drawn + 1 }:World)=dx at ae ⊢
 refine oM Z ai (oR Z (ZJ Z Z) (oR Z (zC Z Z ZY Z YG) ?_))
 have aQ:=br.le aM
 refine oL Z (ae.ldC (f:=4) aQ (v:=.slice bb p0.out.length bg) Z Z Tryz.isAgg90 Z) (oM Z Z (bnK cQ fun dn bk cR=>?_))
 have cd:=cG.le aM
 have q:=cd.el (fun _=>rfl) (wAk bk)
 obtain ⟨dB,dN,co,cy⟩:=q
 refine oR Z (ZD Z Z co Z ZV Tryz.sizeOf4 (wBi bk)) (oL Z (ae.ldC (f:=0) cy (v:=.bool dn) Z Z Tryz.isAgg4 Z) (oR Z (ZR Z Z) (oM Z Z (ifc cR ?_ ?_))))
 intro ag cS
 refine zW Z Z Z (zY Z Z (nC ag.out) Z) (zW Z Z Z (zY Z Z (nC ag.out) Z) (zW Z Z Z (zY Z Z (nC ag.out) Z) (zW Z Z Z (zY Z Z (nC ag.out) Z) (oR Z (zS Z (nC ag.out) Z) (oM Z Z (oN Z (oN Z (oN Z (oN Z (oN Z (oN Z (oN Z (oN Z (oN Z (oN Z (oN Z (oN Z (oN Z (oN Z (oR Z (zS Z Z Z) (oM Z Z (oN Z (oN Z (oN Z (zW Z Z Z (wAP Z Z Z) (zW Z Z Z (wAP Z Z Z) (zW Z Z Z (wAP Z Z Z) (zW Z Z Z (wAP Z Z Z) (zW Z Z Z (wAP Z Z Z) (zW Z Z Z (wAP Z Z Z) (zW Z Z Z (wAP Z Z Z) (zW Z Z Z (wAP Z Z Z) (zW Z Z Z (wAP Z Z Z) (zW Z Z Z (wAP Z Z Z) (zW Z Z Z (wAP Z Z Z) (zW Z Z Z (wAP Z Z Z) (zW Z Z Z (wAP Z Z Z) (zW Z Z Z (wAP Z Z Z) (zW Z Z Z (wAP Z Z Z) (zW Z Z Z (wAP Z Z Z) (zW Z Z Z (wAP Z Z Z) (oN Z (oR Z (zS Z Z Z) (eN (zg Z (ZE (za ?_)))))))))))))))))))))))))))))))))))))))))))))))
 cases cS
 exact zF ⟨Z,⟨ap,ai,au,av,aq,aw,ax,aj,(zQ _),ae⟩⟩
 intro ag cU
 refine zO Z Z Z (zL Z Z (nF (ag.out))) Z Z (zO Z Z Z (zL Z Z (nF (ag.out))) Z au (zT Z Z Z (zL Z Z (nF (ag.out))) (fun _=>zX Z Z Z) (zT Z Z Z (zL Z Z (nF (ag.out))) (fun _=>yz Z Z Z) (oR Z (zV Z (nF (ag.out)) Z) (oM Z Z (ifc cU ?_ ?_))))))
 intro ab cV
 refine zO Z Z Z (wT Z ab) Z ai (rU Z (wT Z ab) (ZJ Z Z) (rU Z (wT Z ab) (zC Z Z ZY Z Zn) (rU Z (wT Z ab) (zC Z Z ZC Z Zz) (zn Z Z Z (wT Z ab) (ae.ldC (f:=2) aQ (v:=.slice ba p0.Race.Times.length be) Z Z yY Z) Z (zO Z Z Z (wT Z ab) Z Z (bnK cV fun bx bm cW=>?_))))))
 have cg:=cD.le aM
 have q:=cg.el (wAk bm)
 obtain ⟨bB,dg,dP,cp,aX,db⟩:=q
 obtain ⟨bu,bw,rfl,ch⟩:=db
 replace aX:Cl ap bB (dg + k7 * 1) [.slice bu bx.length bw]:=aX
 refine rU Z (wT Z ab) (ZD Z Z cp Z ZM zk (wBi bm)) (zn Z Z Z (wT Z ab) (ae.ldC (f:=0) aX (v:=.slice bu bx.length bw) Z Z zu Z) Z (zO Z Z Z (wT Z ab) Z Z (rU Z (wT Z ab) (ZN Z Z Z) (bnK cW fun dp aW cX=>?_))))
 have q:=ch.el (fun _=>rfl) (wAk aW)
 obtain ⟨dC,dO,cr,cz⟩:=q
 refine rU Z (wT Z ab) (ZU Z Z cr Z zH zD (wFN aW) (wFh aW)) (zn Z Z Z (wT Z ab) (ae.ldC (f:=0) cz (v:=jV dp) Z Z zN Z) Z (zO Z Z Z (wT Z ab) Z av (rU Z (wT Z ab) (Zw Z Z Z) (oR Z (zV Z (ZO ab.out) Z) (oM Z Z (ifc cX ?_ ?_))))))
 intro af cZ
 refine zO Z Z Z (wT Z af) Z aq (rU Z (wT Z af) (zR Z Z Z) (zO Z Z Z (wT Z af) Z Z (ifc cZ ?_ ?_)))
 intro aa c7
 refine oT Z aa (oT Z aa (oT Z aa (oT Z aa (oT Z aa (oT Z aa (oT Z aa (oT Z aa (oT Z aa (oT Z aa (oT Z aa (oT Z aa (oT Z aa (oT Z aa (oT Z aa (oT Z aa (oT Z aa (rU Z (wT Z af) (zV Z (ZO aa.out) Z) (oR Z (zV Z (ZO af.out) Z) (eN (zx Z (yg fun ao am=>?_)))))))))))))))))))))
 have bT:ao 0=.pointer (some ⟨aP,0,none⟩):=(am 0).trans ai
 have bU:ao 2=jV p2:=(am 2).trans au
 have bV:ao 3=jV p3:=(am 3).trans av
 have dI:ao 9=jV x6:=(am 9).trans aq
 have bW:ao 10=jV (↑k7:Int):=(am 10).trans rfl
 have bX:ao 15=.slice ay p0.done.length az:=(am 15).trans aw
 have bY:ao 16=jV (↑p0.done.length:Int):=(am 16).trans ax
 have bZ:ao 17=jV (↑k7:Int):=(am 17).trans aj
 clear am
 refine rR fL2 Z (oM Z bW (oA Z Z (zb (za ?_))))
 cases c7
 exact zF ⟨Z,⟨ap,bT,bU,bV,Z,bX,bY,bZ,(zQ _),ae⟩⟩
 intro aa c8
 refine zO Z Z Z (wF Z aa) Z ai (rU Z (wF Z aa) (ZJ Z Z) (rU Z (wF Z aa) (zC Z Z ZY Z Zn) (rU Z (wF Z aa) (zC Z Z ZC Z zk) (zn Z Z Z (wF Z aa) (ae.ldC (f:=1) aQ (v:=.slice aR p0.Race.Bibs.length aS) Z Z zu Z) Z (zO Z Z Z (wF Z aa) Z Z (bnK c8 fun dq bn da=>?_))))))
 have bp:=cC.le aM
 have q:=bp.el (fun _=>rfl) (wAk bn)
 obtain ⟨dy,dK,ci,ct⟩:=q
 refine rU Z (wF Z aa) (ZD Z Z ci Z zH zD (wBi bn)) (zn Z Z Z (wF Z aa) (ae.ldC (f:=0) ct (v:=jV dq) Z Z zN Z) Z (zO Z Z Z (wF Z aa) Z ai (rU Z (wF Z aa) (ZJ Z Z) (rU Z (wF Z aa) (zC Z Z ZY Z Zn) (rU Z (wF Z aa) (zC Z Z ZC Z zk) (zn Z Z Z (wF Z aa) (ae.ldC (f:=1) aQ (v:=.slice aR p0.Race.Bibs.length aS) Z Z zu Z) Z (zO Z Z Z (wF Z aa) Z aq (bnK da fun dh aV cK=>?_))))))))
 have q:=bp.el (fun _=>rfl) (wAk aV)
 obtain ⟨dz,dL,cj,cw⟩:=q
 refine rU Z (wF Z aa) (ZU Z Z cj Z zH zD (wFN aV) (wFh aV)) (zn Z Z Z (wF Z aa) (ae.ldC (f:=0) cw (v:=jV dh) Z Z zN Z) Z (rU Z (wF Z aa) (zR Z Z Z) (rU Z (wT Z af) (zS Z (zo aa.out) Z) (oR Z (zV Z (ZO af.out) Z) (eN (ifc cK ?_ ?_))))))
 intro aU cL
 refine cT Z aU (yg fun an ak=>?_)
 have bD:an 0=.pointer (some ⟨aP,0,none⟩):=(ak 0).trans ai
 have bE:an 2=jV p2:=(ak 2).trans au
 have bF:an 3=jV p3:=(ak 3).trans av
 have dD:an 9=jV x6:=(ak 9).trans aq
 have bG:an 10=jV (↑k7:Int):=(ak 10).trans rfl
 have bH:an 15=.slice ay p0.done.length az:=(ak 15).trans aw
 have bI:an 16=jV (↑p0.done.length:Int):=(ak 16).trans ax
 have bJ:an 17=jV (↑k7:Int):=(ak 17).trans aj
 clear ak
 refine rR fL2 Z (oM Z bG (oA Z Z (zb (za ?_))))
 cases cL
 exact zF ⟨Z,⟨ap,bD,bE,bF,Z,bH,bI,bJ,(zQ _),ae⟩⟩
 intro aU cM
 refine cF Z aU (ZE (za ?_))
 cases cM
 exact zF ⟨Z,⟨ap,ai,au,av,aq,aw,ax,aj,(zQ _),ae⟩⟩
 intro af cN
 refine oF Z af (oF Z af (oF Z af (zW Z Z Z (wAP Z Z Z) (zW Z Z Z (wAP Z Z Z) (zW Z Z Z (wAP Z Z Z) (zW Z Z Z (wAP Z Z Z) (zW Z Z Z (wAP Z Z Z) (zW Z Z Z (wAP Z Z Z) (zW Z Z Z (wAP Z Z Z) (zW Z Z Z (wAP Z Z Z) (zW Z Z Z (wAP Z Z Z) (zW Z Z Z (wAP Z Z Z) (zW Z Z Z (wAP Z Z Z) (zW Z Z Z (wAP Z Z Z) (zW Z Z Z (wAP Z Z Z) (zW Z Z Z (wAP Z Z Z) (zW Z Z Z (wAP Z Z Z) (zW Z Z Z (wAP Z Z Z) (zW Z Z Z (wAP Z Z Z) (oF Z af (oR Z (zS Z (zo af.out) Z) (eN (zg Z (ZE (za ?_)))))))))))))))))))))))))
 cases cN
 exact zF ⟨Z,⟨ap,ai,au,av,aq,aw,ax,aj,(zQ _),ae⟩⟩
 intro ab cO
 refine oF Z ab (oF Z ab (oF Z ab (oF Z ab (oF Z ab (oF Z ab (oF Z ab (oF Z ab (oF Z ab (oF Z ab (oF Z ab (oF Z ab (oF Z ab (oF Z ab (oR Z (zS Z (zo ab.out) Z) (oM Z Z (oN Z (oN Z (oN Z (zW Z Z Z (wAP Z Z Z) (zW Z Z Z (wAP Z Z Z) (zW Z Z Z (wAP Z Z Z) (zW Z Z Z (wAP Z Z Z) (zW Z Z Z (wAP Z Z Z) (zW Z Z Z (wAP Z Z Z) (zW Z Z Z (wAP Z Z Z) (zW Z Z Z (wAP Z Z Z) (zW Z Z Z (wAP Z Z Z) (zW Z Z Z (wAP Z Z Z) (zW Z Z Z (wAP Z Z Z) (zW Z Z Z (wAP Z Z Z) (zW Z Z Z (wAP Z Z Z) (zW Z Z Z (wAP Z Z Z) (zW Z Z Z (wAP Z Z Z) (zW Z Z Z (wAP Z Z Z) (zW Z Z Z (wAP Z Z Z) (oN Z (oR Z (zS Z Z Z) (eN (zg Z (ZE (za ?_)))))))))))))))))))))))))))))))))))))))))
 cases cO
 exact zF ⟨Z,⟨ap,ai,au,av,aq,aw,ax,aj,(zQ _),ae⟩⟩
 rintro dt dv ⟨bz,bK,bL,bM,bN,bO,bP,bQ,df,cA⟩
 refine rR fL2 Z (oR Z (zr (zX Z bQ Z) (congrArg (jV) cJ.out)) (oM Z Z (zb ?_)))
 cases cP
 exact zF ⟨Z,⟨bz,Z,bK,bL,bM,bN,bO,bP,(aM.trans df),cA⟩⟩
 rintro du dw ⟨bA,ca,dE,dF,dG,bR,dH,bS,dJ,cB⟩
 have bC:Hid (¬ ((↑(((↑p0.done.length:Int):Int) - 0).toNat:Int) < (↑p0.done.length:Int))):=zG (wAr)
 refine sR fL1 Z (oR Z (zR Z ca bS) (eN (zK (cF Z bC (ZG (zc (zc (zz (zF (sR fL2 Z (oM Z bR (oA Z Z (eN (zP ?_))))))))))))))
 have hE:=hM cY;first | subst r | cases hE
 exact ⟨Z,_,(zj Z),bA,_,cB,Z,Z⟩
theorem wGG (p0:wAK) (ac:Nat) (ay:Option Addr) (az:Nat) (au:Option Addr) (av:Nat) (ae:Option Addr) (af:Nat) (ao:Option Addr) (ap:Nat) (p1:Int) (w:World) (U:PHeap) (hS:St0 w U [.blk ac 243 [jV p0.Race.Laps,.slice ay p0.Race.Bibs.length az,.slice au p0.Race.Times.length av,.slice ae p0.done.length af,.slice ao p0.out.length ap],.row ae af 3 1 (hD KL.encI p0.done),.row ao ap 4 1 (hD KL.encT p0.out)]) (cC:Sl U 1 ay az p0.Race.Bibs.length (hD KL.encI p0.Race.Bibs)) (bL:SlR U wFw au av p0.Race.Times) {r:(List Int) × wAK} (hm:wBa p0 p1=some r):Gv Tryz.prog 179 [.pointer (some ⟨ac,0,none⟩),jV p1] w (wBj w [.blk ac 243 [jV p0.Race.Laps,.slice ay p0.Race.Bibs.length az,.slice au p0.Race.Times.length av,.slice ae p0.done.length af,.slice ao p0.out.length ap],.row ae af 3 1 (hD KL.encI p0.done),.row ao ap 4 1 (hD KL.encT p0.out)] U (fun U_ L_ v=>∃ (A0:Option Addr) (c0:Nat) (bU:Option Addr) (ci:Nat) (bV:Option Addr) (cj:Nat) (bW:Option Addr) (cm:Nat) (bX:Option Addr) (co:Nat),v=.slice A0 r.1.length c0/\L_=[.row A0 c0 3 1 (hD KL.encI r.1),.row bW cm 3 1 (hD KL.encI r.2.done),.row bX co 4 1 (hD KL.encT r.2.out),.blk ac 243 [jV r.2.Race.Laps,.slice bU r.2.Race.Bibs.length ci,.slice bV r.2.Race.Times.length cj,.slice bW r.2.done.length cm,.slice bX r.2.out.length co]]/\Sl U_ 1 bU ci r.2.Race.Bibs.length (hD KL.encI r.2.Race.Bibs)/\SlR U_ wFw bV cj r.2.Race.Times)):=by
 unfold wBa at hm
 refine Gv.of Tryz.func179 Z Tryz.ntmps179 Tryz.results179 Z (sR fL1 Z (oA Z Z (eN (zK (sR fL7 Z (oM Z Z (oR Z (ZJ Z Z) (oR Z (zC Z Z ZY Z Zn) (oR Z (zC Z Z ZC Z Zz) (oL Z (hS.ldB (j:=0) Z Z Z yY (v:=.slice au p0.Race.Times.length av) Z) (oR Z (ze Z Z ZM) (oM Z Z (eN (zU (bnK hm fun aq ep eI=>?_)))))))))))))))
 have q:=wBM ep
 obtain ⟨bQ,eA⟩:=q
 replace bQ:=zG bQ
 let B0:Res:=.blk ac 243 [jV p0.Race.Laps,.slice ay p0.Race.Bibs.length az,.slice au p0.Race.Times.length av,.slice ae p0.done.length af,.slice ao p0.out.length ap]
 let B1:Res:=.row ao ap 4 1 (hD KL.encT p0.out)
 let B2:Res:=.row ae af 3 1 (hD KL.encI p0.done)
 refine CK.forN' (fun aj l9 J_ w_=>∃ (U_:PHeap),J_ 17=jV (↑aj:Int)/\J_ 0=.pointer (some ⟨ac,0,none⟩)/\J_ 1=jV p1/\J_ 15=.slice au p0.Race.Times.length av/\J_ 16=jV (↑p0.Race.Times.length:Int)/\PHeap.Le U U_/\SW w [B0,B2,B1] U U_ [.row ae af 3 1 (hD KL.encI l9),B1,.blk ac 243 [jV p0.Race.Laps,.slice ay p0.Race.Bibs.length az,.slice au p0.Race.Times.length av,.slice ae l9.length af,.slice ao p0.out.length ap]] w_/\l9.length=p0.done.length) eA ?_ ?_ ?_
 exact ⟨U,rfl,rfl,rfl,rfl,rfl,(zQ _),(hS.pick [1,2,0] _ (by decide) rfl),rfl⟩
 rintro aj l9 fY fA fE bO ⟨aP,aQ,aW,be,bg,bh,bm,an,bw⟩ fh
 have ch:Hid ((↑aj:Int) < (↑p0.Race.Times.length:Int)):=zG (wBR bO)
 replace bO:=zG bO
 have bx:Hid (w64 ((↑aj:Int) + 1)=(↑(aj + 1):Int)):=zG (by have h1:=bQ.out;have h2:=ch.out;rw [wAa] <;> omega)
 refine sR fL1 Z (oR Z (zR Z aQ bh) (eN (zK (cT Z ch (kN (zK (zU (sR fL5 Z (oM Z aQ (bnK fh fun cK ct eU=>?_))))))))))
 have dJ:=bL.le bm
 have q:=dJ.el (wAk ct)
 obtain ⟨cX,fq,fU,dL,bK,fd⟩:=q
 obtain ⟨cH,cI,rfl,dK⟩:=fd
 replace bK:Cl aP cX (fq + aj * 1) [.slice cH cK.length cI]:=bK
 refine oR Z (ZD Z bg dL aQ ZM zk (wBi ct)) (oL Z (an.ldC (f:=0) bK (v:=.slice cH cK.length cI) Z Z zu Z) (oA Z Z (oA Z Z (eN (sR fL8 Z (oM Z aW (oR Z (ZJ Z Z) (oR Z (zC Z Z ZY Z zk) (oL Z (an.ldB (j:=2) Z Z Z zu (v:=.slice ae l9.length af) Z) (oM Z Z (bnK eU fun _ aO eV=>?_)))))))))))
 obtain ⟨fK,aY⟩:=an.rowSome (j:=0) rfl (by rw [wAG (f:=KL.encI) (sz:=1) (fun _=>rfl) l9];have hz:=wAU aO;omega)
 refine oR Z (ZD Z Z aY Z zH zD (wAU aO)) ?_
 have eD:=wBY (xs:=l9) (wAU aO)
 refine zn rfl rfl rfl rfl (an.ldR (j:=0) rfl aY rfl rfl zN (wBS (sz:=1) (fun _=>rfl) _ _ 0 _ eD (by first | omega | rfl | simp) rfl)) rfl (ye rfl rfl rfl rfl rfl rfl (eN (sR fL22 rfl (zO rfl rfl rfl rfl rfl aW (zT rfl rfl rfl rfl (fun _=>ZJ rfl rfl) (zT rfl rfl rfl rfl (fun _=>zC rfl rfl ZY rfl YG) (zn rfl rfl rfl rfl (an.ldB (j:=2) rfl rfl rfl Tryz.isAgg90 (v:=.slice ao p0.out.length ap) rfl) rfl (zO rfl rfl rfl rfl rfl rfl (bnK eV fun _ bI eW=>?_)))))))))
 obtain ⟨fL,cy⟩:=an.rowSome (j:=1) rfl (by rw [wAG (f:=KL.encT) (sz:=1) (fun _=>rfl) p0.out];have hz:=wAU bI;omega)
 refine oR Z (ZD Z Z cy Z ZV Tryz.sizeOf4 (wAU bI)) ?_
 have eF:=wBY (xs:=p0.out) (wAU bI)
 refine zn rfl rfl rfl rfl (an.ldR (j:=1) rfl cy rfl rfl Tryz.isAgg4 (wBS (sz:=1) (fun _=>rfl) _ _ 0 _ eF (by first | omega | rfl | simp) rfl)) rfl (zT rfl rfl rfl rfl (fun _=>ZR rfl rfl) (zO rfl rfl rfl rfl rfl rfl (ifc eW ?_ ?_)))
 intro ax eX
 refine zW Z Z Z (zY Z Z (nC ax.out) Z) (zW Z Z Z (zY Z Z (nC ax.out) Z) (zW Z Z Z (zY Z Z (nC ax.out) Z) (zW Z Z Z (zY Z Z (nC ax.out) Z) (oR Z (zS Z (nC ax.out) Z) (oM Z Z (oN Z (oN Z (oN Z (oN Z (oN Z (oN Z (oR Z (zS Z Z Z) (eN (zg Z (ZE (za (zF (rR fL2 Z (oR Z (zr (zX Z aQ Z) (congrArg (jV) bx.out)) (oM Z Z (zb ?_)))))))))))))))))))))
 cases eX
 exact zF ⟨Z,⟨aP,Z,aW,be,bg,bh,bm,an,bw⟩⟩
 intro ax eY
 refine zO Z Z Z (zL Z Z (nF (ax.out))) Z Z (zO Z Z Z (zL Z Z (nF (ax.out))) Z Z (zT Z Z Z (zL Z Z (nF (ax.out))) (fun _=>ze Z Z zH) (zT Z Z Z (zL Z Z (nF (ax.out))) (fun _=>zR Z Z Z) (oR Z (zV Z (nF (ax.out)) Z) (oM Z Z (ifc eY ?_ ?_))))))
 intro ai e7
 refine zO Z Z Z (wT Z ai) Z Z (zO Z Z Z (wT Z ai) Z Z (bnK e7 fun fy bJ e8=>?_))
 have q:=dK.el (fun _=>rfl) (wAk bJ)
 obtain ⟨fM,fS,dM,dN⟩:=q
 refine rU Z (wT Z ai) (ZU Z Z dM Z zH zD (wFN bJ) (wFh bJ)) (zn Z Z Z (wT Z ai) (an.ldC (f:=0) dN (v:=jV fy) Z Z zN Z) Z (zO Z Z Z (wT Z ai) Z be (rU Z (wT Z ai) (Zw Z Z Z) (oR Z (zV Z (ZO ai.out) Z) (eN (ifc e8 ?_ ?_))))))
 intro bE e9
 refine cT Z bE (yg fun aU aR=>?_)
 have cp:aU 0=.pointer (some ⟨ac,0,none⟩):=(aR 0).trans aW
 have dd:aU 1=jV p1:=(aR 1).trans be
 have de:aU 5=jV (↑aj:Int):=(aR 5).trans rfl
 have df:aU 15=.slice au p0.Race.Times.length av:=(aR 15).trans bg
 have dg:aU 16=jV (↑p0.Race.Times.length:Int):=(aR 16).trans bh
 have dh:aU 17=jV (↑aj:Int):=(aR 17).trans aQ
 clear aR
 refine rR (wNx (.fx 9 .nil .stop)) Z (oM Z cp (oR Z (ZJ Z Z) (oR Z (zC Z Z ZY Z zk) (oL Z (an.ldB (j:=2) Z Z Z zu (v:=.slice ae l9.length af) Z) (oM Z de (oR Z (ZD Z Z aY Z zH zD (wAU aO)) ?_))))))
 have eG:=wBY (xs:=l9) (wAU aO)
 refine zn rfl rfl rfl rfl (an.ldR (j:=0) rfl aY rfl rfl zN (wBS (sz:=1) (fun _=>rfl) _ _ 0 _ eG (by first | omega | rfl | simp) rfl)) rfl (zT rfl rfl rfl rfl (fun _=>zX rfl rfl rfl) (zT rfl rfl rfl rfl (fun _=>ZD rfl rfl aY rfl zH zD (wAU aO)) ?_))
 have eH:=wBY (xs:=l9) (wAU aO)
 refine YE (j:=0) (vs:=[jV (w64 ((gd l9 aj) + 1))]) (cs':=hD KL.encI (List.set l9 aj (w64 ((gd l9 aj) + 1)))) rfl rfl rfl rfl an rfl aY rfl rfl rfl zD (by rw [wAG (f:=KL.encI) (sz:=1) (fun _=>rfl)];have hz:=wAU aO;show _ + 1 <= _;first | omega | (simp only [Int.toNat_natCast];omega) | (simp only [nJ,nG,nH];omega)) rfl (wEK (sz:=1) (fo:=0) (fun _=>rfl) _ _ _ _ eH (by first | omega | (simp only [Int.toNat_natCast];omega) | (simp only [nJ,nG,nH];omega)) (zB rfl) rfl) rfl ?_
 intro ca ed
 let B3:Res:=.row ae af 3 1 (hD KL.encI (List.set l9 aj (w64 ((gd l9 aj) + 1))))
 have ee:SW w [B0,B2,B1] U aP [B3,B1,.blk ac 243 [jV p0.Race.Laps,.slice ay p0.Race.Bibs.length az,.slice au p0.Race.Times.length av,.slice ae l9.length af,.slice ao p0.out.length ap]] ca:=ed
 have eh:SW w [B0,B2,B1] U aP [B3,B1,.blk ac 243 [jV p0.Race.Laps,.slice ay p0.Race.Bibs.length az,.slice au p0.Race.Times.length av,.slice ae ((List.set l9 aj (w64 ((gd l9 aj) + 1))).length) af,.slice ao p0.out.length ap]] ca:=by simpa only [B0,B1,B2,B3,List.length_set] using ee
 refine zb (za (zF (rR fL2 Z (oR Z (zr (zX Z dh Z) (congrArg (jV) bx.out)) (oM Z Z (zb ?_))))))
 cases e9
 exact zF ⟨Z,⟨aP,Z,cp,dd,df,dg,bm,eh,(List.length_set.trans bw)⟩⟩
 intro bE fb
 refine cF Z bE (ZE (za (zF (rR fL2 Z (oR Z (zr (zX Z aQ Z) (congrArg (jV) bx.out)) (oM Z Z (zb ?_)))))))
 cases fb
 exact zF ⟨Z,⟨aP,Z,aW,be,bg,bh,bm,an,bw⟩⟩
 intro ai fc
 refine oF Z ai (oF Z ai (oF Z ai (oF Z ai (oF Z ai (oF Z ai (oR Z (zS Z (zo ai.out) Z) (eN (zg Z (ZE (za (zF (rR fL2 Z (oR Z (zr (zX Z aQ Z) (congrArg (jV) bx.out)) (oM Z Z (zb ?_)))))))))))))))
 cases fc
 exact zF ⟨Z,⟨aP,Z,aW,be,bg,bh,bm,an,bw⟩⟩
 rintro fC fH ⟨bZ,dn,cr,di,fN,c8,bA,cB,fR⟩
 have cY:Hid (¬ ((↑(((↑p0.Race.Times.length:Int):Int) - 0).toNat:Int) < (↑p0.Race.Times.length:Int))):=zG (wAr)
 refine sR fL1 Z (oR Z (zR Z dn c8) (eN (zK (cF Z cY (ZG (zc (zc (zz (zF (sR fL1 Z (oA Z Z (eN (zK (sR fL6 Z (oM Z cr (oR Z (ZJ Z Z) (oR Z (zC Z Z ZY Z zk) (oL Z (cB.ldB (j:=2) Z Z Z zu (v:=.slice ae aq.length af) Z) (oR Z (ze Z Z zH) (oM Z Z (eN (zU (bnK eI fun fZ eu eJ=>?_)))))))))))))))))))))))
 have q:=wBM eu
 obtain ⟨bP,ey⟩:=q
 replace bP:=zG bP
 let B4:List Value:=[jV p0.Race.Laps,.slice ay p0.Race.Bibs.length az,.slice au p0.Race.Times.length av,.slice ae aq.length af,.slice ao p0.out.length ap]
 let B5:Res:=.row ae af 3 1 (hD KL.encI aq)
 refine CK.forN' (fun aw bj J_ w_=>∃ (U_:PHeap) (aT:Option Addr) (aV:Nat),J_ 66=jV (↑aw:Int)/\J_ 0=.pointer (some ⟨ac,0,none⟩)/\J_ 1=jV p1/\J_ 8=.slice aT bj.length aV/\J_ 64=.slice ae aq.length af/\J_ 65=jV (↑aq.length:Int)/\PHeap.Le bZ U_/\SW w [B0,B2,B1] U U_ [B5,B1,.blk ac 243 B4,.row aT aV 3 1 (hD KL.encI bj)] w_) ey ?_ ?_ ?_
 have dO:=cB.nilrow 3 1
 exact ⟨bZ,none,0,rfl,cr,di,rfl,rfl,rfl,(zQ _),(dO.pick [1,2,3,0] _ (by decide) rfl)⟩
 rintro aw bj fW fz bp bN ⟨cM,aT,aV,aX,bb,br,bF,bs,bu,bk,aS⟩ fg
 have cd:Hid ((↑aw:Int) < (↑aq.length:Int)):=zG (wBR bN)
 replace bN:=zG bN
 have bM:Hid (w64 ((↑aw:Int) + 1)=(↑(aw + 1):Int)):=zG (by have h1:=bP.out;have h2:=cd.out;rw [wAa] <;> omega)
 refine sR fL1 Z (oR Z (zR Z aX bu) (eN (zK (cT Z cd (kN (zK (zU (sR fL5 Z (oM Z aX (bnK fg fun _ bG eK=>?_))))))))))
 obtain ⟨fI,cw⟩:=aS.rowSome (j:=0) rfl (by rw [wAG (f:=KL.encI) (sz:=1) (fun _=>rfl) aq];have hz:=wAU bG;omega)
 refine oR Z (ZD Z bs cw aX zH zD (wAU bG)) ?_
 have eB:=wBY (xs:=aq) (wAU bG)
 refine zn rfl rfl rfl rfl (aS.ldR (j:=0) rfl cw rfl rfl zN (wBS (sz:=1) (fun _=>rfl) _ _ 0 _ eB (by first | omega | rfl | simp) rfl)) rfl (ye rfl rfl rfl rfl rfl rfl (ye rfl rfl rfl rfl rfl rfl (eN (sR (wON (.fx 13 gAe .stop)) rfl (zO rfl rfl rfl rfl rfl bb (zT rfl rfl rfl rfl (fun _=>ZJ rfl rfl) (zT rfl rfl rfl rfl (fun _=>zC rfl rfl ZY rfl YG) (zn rfl rfl rfl rfl (aS.ldB (j:=2) rfl rfl rfl Tryz.isAgg90 (v:=.slice ao p0.out.length ap) rfl) rfl (zO rfl rfl rfl rfl rfl rfl (bnK eK fun _ bH eM=>?_))))))))))
 obtain ⟨fJ,cx⟩:=aS.rowSome (j:=1) rfl (by rw [wAG (f:=KL.encT) (sz:=1) (fun _=>rfl) p0.out];have hz:=wAU bH;omega)
 refine oR Z (ZD Z Z cx Z ZV Tryz.sizeOf4 (wAU bH)) ?_
 have eC:=wBY (xs:=p0.out) (wAU bH)
 refine zn rfl rfl rfl rfl (aS.ldR (j:=1) rfl cx rfl rfl Tryz.isAgg4 (wBS (sz:=1) (fun _=>rfl) _ _ 0 _ eC (by first | omega | rfl | simp) rfl)) rfl (zT rfl rfl rfl rfl (fun _=>ZR rfl rfl) (zO rfl rfl rfl rfl rfl rfl (ifc eM ?_ ?_)))
 intro ah eO
 refine zW Z Z Z (zY Z Z (nC ah.out) Z) (zW Z Z Z (zY Z Z (nC ah.out) Z) (zW Z Z Z (zY Z Z (nC ah.out) Z) (zW Z Z Z (zY Z Z (nC ah.out) Z) (Zl Z Z Z (zY Z Z (nC ah.out) Z) (zW Z Z Z (zY Z Z (nC ah.out) Z) (oR Z (zS Z (nC ah.out) Z) (eN (zg Z (ZE (za (zF (rR fL2 Z (oR Z (zr (zX Z aX Z) (congrArg (jV) bM.out)) (oM Z Z (zb ?_)))))))))))))))
 cases eO
 exact zF ⟨Z,⟨cM,aT,aV,Z,bb,br,bF,bs,bu,bk,aS⟩⟩
 intro ah eP
 refine zO Z Z Z (zL Z Z (nF (ah.out))) Z bb (zO Z Z Z (zL Z Z (nF (ah.out))) Z Z (zO Z Z Z (zL Z Z (nF (ah.out))) Z Z (zO Z Z Z (zL Z Z (nF (ah.out))) Z br ?_)))
 have q:=aS.freezeT (k:=0) (n:=aq.length) rfl (wAG (f:=KL.encI) (sz:=1) (fun _=>rfl) aq) (by decide)
 obtain ⟨cN,cD,fe,dP,ft⟩:=q
 let B6:Res:=.row aT aV 3 1 (hD KL.encI bj)
 have dQ:SW w [B0,B2,B1] U cN [B1,.blk ac 243 B4,B6] bp:=dP
 have q:=dQ.freezeT (k:=0) (n:=p0.out.length) rfl (wAG (f:=KL.encT) (sz:=1) (fun _=>rfl) p0.out) (by decide)
 obtain ⟨cO,bR,ff,dR,fu⟩:=q
 have dS:SW w [B0,B2,B1] U cO [.blk ac 243 B4,B6] bp:=dR
 have q:=dS.freezeTB (k:=0) rfl
 obtain ⟨bC,bz,bi,dT,fw⟩:=q
 replace bi:=Cl.of bi
 have dU:SW w [B0,B2,B1] U bC [B6] bp:=dT
 replace bi:Cl bC ac 0 B4:=bi
 have dp:=cC.le bA
 have dq:=dp.le bk
 have dr:=dq.le cD
 have dt:=dr.le bR
 have du:=dt.le bz
 have dv:=bL.le bA
 have dw:=dv.le bk
 have dx:=dw.le cD
 have dy:=dx.le bR
 have dz:=dy.le bz
 have dA:=fe.le bR
 have dB:=dA.le bz
 have dC:=ff.le bz
 refine bnK eP fun fV dD eQ=>zI 0 rfl rfl rfl (zL rfl rfl (nF (ah.out))) (zJ rfl rfl Tryz.call180 (zA rfl (zA rfl (zA rfl (zA rfl zM)))) rfl) dU (fun hs=>wEu (⟨p0.Race,aq,p0.out⟩:wAK) ac ay az au av ae af ao ap (↑aw:Int) (gd aq aw) p1 bp bC hs bi du dz dB dC dD) (.inr rfl) ?_
 rintro cP fD fT bq fj dV ⟨rfl,rfl⟩
 have dW:SW w [B0,B2,B1] U cP [B6] bq:=dV
 have q:=fw _ _ _ fj dW
 obtain ⟨cQ,fk,dX⟩:=q
 have dY:SW w [B0,B2,B1] U cQ [.blk ac 243 B4,B6] bq:=dX
 have q:=fu _ _ _ fk dY
 obtain ⟨cR,fm,dZ⟩:=q
 have d5:SW w [B0,B2,B1] U cR [B1,.blk ac 243 B4,B6] bq:=dZ
 have q:=ft _ _ _ fm d5
 obtain ⟨ba,cE,d6⟩:=q
 have cz:SW w [B0,B2,B1] U ba [B5,B1,.blk ac 243 B4,B6] bq:=d6
 refine zT Z Z Z (zL Z Z (nF (ah.out))) (fun _=>yz Z Z Z) (oR Z (zV Z (nF (ah.out)) Z) (eN (ifc eQ ?_ ?_)))
 intro bD eR
 refine cT Z bD (rR gAv Z (oM Z bF (oM Z Z (ZF (pv:=[(0,jV (↑aw:Int))]) (zs:=[jV 0]) (cs:=[jV (↑aw:Int)]) Z Z Z Z Z (wAH Z wAY) zH zD Zr Z Z Z Z Z cz ?_))))
 intro cU cW d7
 let B7:Res:=.row (some ⟨cW,0,none⟩) 1 3 1 (hD KL.encI [(↑aw:Int)])
 have cA:SW w [B0,B2,B1] U ba [B7,B5,B1,.blk ac 243 B4,B6] cU:=d7
 refine bnK eR fun cJ dE eS=>yE (j:=4) (enc:=KL.encI) (xs:=bj) (ys:=[(↑aw:Int)]) (zs:=cJ) rfl rfl rfl rfl rfl yR wGs rfl rfl rfl rfl rfl rfl cA rfl rfl rfl (cA.srcR (j:=0) rfl (by decide) (wAG (f:=KL.encI) (sz:=1) (fun _=>rfl) [(↑aw:Int)])) (fun _=>rfl) (fun _=>rfl) dE rfl ?_
 intro bT cg cV d8
 have d9:SW w [B0,B2,B1] U ba [B7,B5,B1,.blk ac 243 B4,.row bT cg 3 1 (hD KL.encI cJ)] cV:=d8
 refine oA Z Z (zb (za (zF (rR fL2 Z (oR Z (zr (zX Z aX Z) (congrArg (jV) bM.out)) (oM Z Z (zb ?_)))))))
 cases eS
 exact zF ⟨rfl,⟨ba,bT,cg,rfl,bb,br,rfl,bs,bu,(bk.trans cE),(d9.pick [1,2,3,4] _ (by decide) rfl)⟩⟩
 intro bD eT
 refine cF Z bD (ZE (za (zF (rR fL2 Z (oR Z (zr (zX Z aX Z) (congrArg (jV) bM.out)) (oM Z Z (zb ?_)))))))
 cases eT
 exact zF ⟨Z,⟨ba,aT,aV,Z,bb,br,bF,bs,bu,(bk.trans cE),cz⟩⟩
 rintro fB fG ⟨cS,cL,cZ,dm,fO,fP,da,fQ,db,cG,eb⟩
 have c7:Hid (¬ ((↑(((↑aq.length:Int):Int) - 0).toNat:Int) < (↑aq.length:Int))):=zG (wAr)
 refine sR fL1 Z (oR Z (zR Z dm db) (eN (zK (cF Z c7 (ZG (zc (zc (zz (zF (sR fL2 Z (oM Z da (oA Z Z (eN (zP ?_))))))))))))))
 have dF:=cC.le bA
 have dG:=dF.le cG
 have dH:=bL.le bA
 have dI:=dH.le cG
 cases eJ
 exact ⟨rfl,_,(zj rfl),cS,_,(eb.pick [3,0,1,2] _ (by decide) rfl),cL,cZ,ay,az,au,av,ae,af,ao,ap,rfl,rfl,dG,dI⟩
end Go.Proofs.YtlmekamhphnmjaaGreat
