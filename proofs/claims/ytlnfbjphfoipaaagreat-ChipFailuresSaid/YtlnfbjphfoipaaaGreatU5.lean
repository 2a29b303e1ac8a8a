import Derived.Test.YtlnfbjphfoipaaaGreatU4
set_option linter.all false
open List renaming flatMap->hD
open Option.some renaming inj->hH
open Go.Value renaming bool->nA
open Bool renaming eq_false_iff->nB
open Prod.mk renaming injEq->nD
open Nat renaming blt->nE,le_of_ble_eq_true->nH
namespace Go.Proofs.YtlnfbjphfoipaaaGreat
open Go.KL
def gAa:Sch:=.fl 2 (.fl 3 .nil)
def gAb:Sch:=.fl 3 (.fl 4 .nil)
def gAc:Sch:=.fl 4 (.fl 5 .nil)
def gAd:Sch:=.fl 7 (.fl 8 .nil)
def gAe:Sch:=.fl 15 (.fl 16 .nil)
def gAf:Sch:=.fx 0 (.fl 1 .nil) .stop
def gAg:Sch:=.fx 1 (.fl 2 .nil) .stop
def gAh:Sch:=.fx 2 (.fx 3 .nil .stop) .stop
def gAi:Sch:=.fl 0 (.fx 1 .nil .stop)
def gAj:Sch:=.fx 4 (.fx 5 .nil .stop) .stop
def gAk:Sch:=.fl 3 (.fx 5 .nil .stop)
def gAl:Sch:=.fl 10 (.fx 12 .nil .stop)
def gAm:Sch:=.fx 6 (.fx 7 .nil .stop) .stop
def gAn:Sch:=.fx 8 (.fx 9 .nil .stop) .stop
def gAo:Sch:=.fl 7 (.fx 9 .nil .stop)
def gAp:Sch:=.fx 4 (.fl 5 .nil) .stop
def gAq:Sch:=.fx 7 (.fx 8 .nil .stop) .stop
def gAr:Sch:=.fx 6 (.fx 8 .nil .stop) .stop
def gAs:Sch:=.fx 0 gAg .stop
def gAt:Sch:=.fx 13 (.fl 14 (.fl 15 .nil)) .stop
def gAu:Sch:=.fx 14 gAe .stop
def gAv:Sch:=.fl 10 (.fx 11 (.fx 12 .nil .stop) .stop)
def gAw:Sch:=.fx 6 gAl .stop
def gAx:Sch:=.fx 10 (.fl 11 (.fl 12 .nil)) .stop
def gAy:Sch:=.fx 6 gAo .stop
def gAz:Sch:=.fx 4 gAo .stop
def gBa:Sch:=.fx 3 gAp .stop
def gBb:Sch:=.fl 22 (.fl 23 (.fx 24 .nil .stop))
def gBc:Sch:=.fl 0 (.fl 1 (.fx 2 (.fl 3 .nil) .stop))
def gBd:Sch:=.fl 0 (.fl 1 gAh)
def gBe:Sch:=.fx 0 (.fx 1 gAh .stop) .stop
def gBf:Sch:=.fx 0 (.fx 1 gAa .stop) .stop
def gBg:Sch:=.fx 8 (.fl 9 gAl) .stop
def gBh:Sch:=.fl 7 (.fx 2 gAn .stop)
def gBi:Sch:=.fl 4 (.fl 5 gAr)
def gBj:Sch:=.fx 0 (.fl 5 gAr) .stop
def gBk:Sch:=.fx 21 gBb .stop
def gBl:Sch:=.fl 0 (.fl 1 (.fx 2 gAb .stop))
def gBm:Sch:=.fx 6 (.fl 7 gAn) (.fx 8 gAy .stop)
def gBn:Sch:=.fx 4 (.fl 7 gAn) (.fx 8 gAz .stop)
def gBo:Sch:=.fx 0 (.fx 1 (.fx 2 (.fx 3 (.fl 4 .nil) .stop) .stop) .stop) .stop
def gBp:Sch:=.fl 5 (.fx 6 gAq (.fx 7 gAr .stop))
def gBq:Sch:=.fx 3 gBi .stop
def gBr:Sch:=.fx 2 gBq .stop
def gBs:Sch:=.fx 1 gBq .stop
def gBt:Sch:=.fl 1 (.fl 2 (.fx 0 (.fl 3 gAj) (.fx 4 (.fx 0 gAk .stop) .stop)))
def gBu:Sch:=.fl 0 (.fl 2 (.fx 1 gBa (.fx 3 (.fx 1 gAp .stop) .stop)))
def gBv:Sch:=.fx 3 (.fl 4 gBp) (.fx 7 gBq .stop)
def gBw:Sch:=.fl 4 (.fx 0 gBp (.fx 7 gBj .stop))
def gBx:Sch:=.fx 0 gBq (.fx 3 (.fl 4 gBj) .stop)
def gBy:Sch:=.fx 2 gBv (.fx 7 gBr .stop)
def gBz:Sch:=.fx 1 gBv (.fx 7 gBs .stop)
def gCa:Sch:=.fx 1 gBr (.fx 2 gBs .stop)
def gCb:Sch:=.fx 0 gBr (.fx 2 gBx .stop)
def gCc:Sch:=.fx 0 gBs (.fx 1 gBx .stop)
def gCd:Sch:=.fx 0 gBv (.fx 3 gBw (.fx 7 gBx .stop))
set_option maxHeartbeats 4000000
theorem Z {α:Type} {a:α}:a=a:=rfl
section
variable {r:Option Nat} {N:Nat} {P:Program} {l:List Oper} {Q:wEd} {D:List Deferred} {ks:List Nat} {J:Env} {w:World} {i d j e:Nat} {s:Sch} {o:Oper} {b:Bool} {x:Operand} {v:Value} {p:Prop} {inst:Decidable p} {K:List Deferred->Env->World->Prop} {c1 c2:Code}
abbrev jV (n:Int):Value:=.int .i64 n
abbrev SW (w:World) (X:List Res) (U U':PHeap) (L:List Res) (w':World):Prop:=St ⟨w,X,U⟩ U' L w'
abbrev sW (w:World) (U U':PHeap) (L:List Res) (w':World):Prop:=St ⟨w,[],U⟩ U' L w'
abbrev St0 (w:World) (U:PHeap) (L:List Res):Prop:=St ⟨w,L,U⟩ U L w
theorem ifc {α:Type} {G p:Prop} {inst:Decidable p} {a b r:α} (h:@ite α p inst a b=r) (O:Hid p->a=r->G) (h2:Hid (¬ p)->b=r->G):G:=by
 by_cases c:p
 rw [if_pos c] at h;exact O ⟨c⟩ h
 rw [if_neg c] at h;exact h2 ⟨c⟩ h
theorem bnK {α β:Type} {G:Prop} {o:Option α} {f:α->Option β} {r:β} (h:o.bind f=some r) (k:∀ x,o=some x->f x=some r->G):G:=by
 obtain ⟨x,O,h2⟩:=bnd h
 exact k x O h2
theorem oR (h:(l[i]?,o.dst,nE d N,wanted l J o)=(some o,some d,true,true)) (hr:∀ {w'},Runs P J w' o v w') (k:OKS N P l Q D ks s (upd J d v) w):OKS N P l Q D ks (.fl i s) J w:=by
 simp only [nD] at h;exact OKS.r h.1 h.2.1 h.2.2.1 h.2.2.2 (fun _=>hr) k
theorem oL (h:(l[i]?,o.dst,nE d N,wanted l J o,wOD (kOf ks i))=(some o,some d,true,true,false)) (hr:RunsK P J w o v) (k:OKS N P l Q D ks s (upd J d v) w):OKS N P l Q D ks (.fl i s) J w:=by
 simp only [nD] at h;exact OKS.m h.1 h.2.1 h.2.2.1 h.2.2.2.1 hr h.2.2.2.2 k
theorem oM (h:(l[i]?,o.dst,nE d N,wanted l J o,o.op)=(some o,some d,true,true,.move x)) (hx:ev J x=v) (k:OKS N P l Q D ks s (upd J d v) w):OKS N P l Q D ks (.fl i s) J w:=by
 simp only [nD] at h;exact OKS.rm h.1 h.2.1 h.2.2.1 h.2.2.2.1 h.2.2.2.2 hx k
theorem oA (h:(l[i]?,o.dst,nE d N,wanted l J o,o.op)=(some o,some d,true,true,.assign x)) (hx:ev J x=v) (k:OKS N P l Q D ks s (upd J d v) w):OKS N P l Q D ks (.fl i s) J w:=by
 simp only [nD] at h;exact OKS.ra h.1 h.2.1 h.2.2.1 h.2.2.2.1 h.2.2.2.2 hx k
theorem oF (h:(l[i]?,o.dst,nE d N,o.guard,(l[j]?).bind (·.dst),J e,false == b)=(some o,some d,true,some (j,b),some e,.bool (decide p),false)) (c:Hid (¬ p)) (k:OKS N P l Q D ks s (upd J d undef) w):OKS N P l Q D ks (.fl i s) J w:=by
 simp only [nD] at h;exact OKS.p h.1 h.2.1 h.2.2.1 (wHL h.2.2.2.1 h.2.2.2.2.1 (h.2.2.2.2.2.1.trans (wOB c.out)) h.2.2.2.2.2.2) k
theorem oT (h:(l[i]?,o.dst,nE d N,o.guard,(l[j]?).bind (·.dst),J e,true == b)=(some o,some d,true,some (j,b),some e,.bool (decide p),false)) (c:Hid p) (k:OKS N P l Q D ks s (upd J d undef) w):OKS N P l Q D ks (.fl i s) J w:=by
 simp only [nD] at h;exact OKS.p h.1 h.2.1 h.2.2.1 (wHL h.2.2.2.1 h.2.2.2.2.1 (h.2.2.2.2.2.1.trans (wOA c.out)) h.2.2.2.2.2.2) k
theorem oN {O:Bool} (h:(l[i]?,o.dst,nE d N,o.guard,(l[j]?).bind (·.dst),J e,O == b)=(some o,some d,true,some (j,b),some e,.bool O,false)) (k:OKS N P l Q D ks s (upd J d undef) w):OKS N P l Q D ks (.fl i s) J w:=by
 simp only [nD] at h;exact OKS.p h.1 h.2.1 h.2.2.1 (wHL h.2.2.2.1 h.2.2.2.2.1 h.2.2.2.2.2.1 h.2.2.2.2.2.2) k
theorem nC {a b:Bool} (h:a=b):nA (!a)=nA (!b):=h ▸ rfl
theorem nF {a:Bool} (h:¬ a=true):nA (!a)=nA (!false):=nC (nB.2 h)
theorem wT (h:(o.guard,(l[j]?).bind (·.dst),J e)=(some (j,true),some e,.bool (decide p))) (c:Hid p):wanted l J o=true:=by
 simp only [nD] at h;exact wIN h.1 h.2.1 (h.2.2.trans (wOA c.out))
theorem wF (h:(o.guard,(l[j]?).bind (·.dst),J e)=(some (j,false),some e,.bool (decide p))) (c:Hid (¬ p)):wanted l J o=true:=by
 simp only [nD] at h;exact wIN h.1 h.2.1 (h.2.2.trans (wOB c.out))
theorem rU (h:(l[i]?,o.dst,nE d N)=(some o,some d,true)) (hw:wanted l J o=true) (hr:∀ {w'},Runs P J w' o v w') (k:OKS N P l Q D ks s (upd J d v) w):OKS N P l Q D ks (.fl i s) J w:=by
 simp only [nD] at h;exact OKS.r h.1 h.2.1 h.2.2 hw (fun _=>hr) k
theorem sR {id:Nat} (s:Sch) (hs:inOrder 0 s l.length=true) (h:OKS N P l (wGA (fun D J w=>CK r N P c2 Q D J w) Q) D [] s J w):CK r N P (.seq (.region id l.toArray false) c2) Q D J w:=CK.seq (CK.reg s hs h)
theorem rR {id:Nat} (s:Sch) (hs:inOrder 0 s l.length=true) (h:OKS N P l Q D [] s J w):CK r N P (.region id l.toArray false) Q D J w:=CK.reg s hs h
theorem eN (h:K D J w):OKS N P l (wGA K Q) D ks .nil J w:=OKS.e (wIJ h)
theorem cT (hz:ev J x=.bool (decide p)) (c:Hid p) (h:CK r N P c1 Q D J w):CK r N P (.cond x c1 c2) Q D J w:=CK.condT (hz.trans (wOA c.out)) h
theorem cF (hz:ev J x=.bool (decide p)) (c:Hid (¬ p)) (h:CK r N P c2 Q D J w):CK r N P (.cond x c1 c2) Q D J w:=CK.condF (hz.trans (wOB c.out)) h
theorem kN (h:K D J w):CK r N P .skip (wGA K Q) D J w:=CK.skip (wIJ h)
end
def fL1:Sch:=.fl 0 .nil
def fL2:Sch:=.fl 0 (.fl 1 .nil)
def fL3:Sch:=.fl 0 (.fl 1 (.fl 2 .nil))
def fL4:Sch:=.fl 0 (.fl 1 gAa)
def fL5:Sch:=.fl 0 (.fl 1 (.fl 2 gAb))
def fL6:Sch:=.fl 0 (.fl 1 (.fl 2 (.fl 3 gAc)))
def fL7:Sch:=.fl 0 (.fl 1 (.fl 2 (.fl 3 (.fl 4 (.fl 5 (.fl 6 .nil))))))
def fL8:Sch:=.fl 0 (.fl 1 (.fl 2 (.fl 3 (.fl 4 (.fl 5 (.fl 6 (.fl 7 .nil)))))))
def fL9:Sch:=.fl 0 (.fl 1 (.fl 2 (.fl 3 (.fl 4 (.fl 5 (.fl 6 gAd))))))
def fL10:Sch:=.fl 0 (.fl 1 (.fl 2 (.fl 3 (.fl 4 (.fl 5 (.fl 6 (.fl 7 (.fl 8 (.fl 9 .nil)))))))))
def fL11:Sch:=.fl 0 (.fl 1 (.fl 2 (.fl 3 (.fl 4 (.fl 5 (.fl 6 (.fl 7 (.fl 8 (.fl 9 (.fl 10 .nil))))))))))
def fL12:Sch:=.fl 0 (.fl 1 (.fl 2 (.fl 3 (.fl 4 (.fl 5 (.fl 6 (.fl 7 (.fl 8 (.fl 9 (.fl 10 (.fl 11 .nil)))))))))))
def fL15:Sch:=.fl 0 (.fl 1 (.fl 2 (.fl 3 (.fl 4 (.fl 5 (.fl 6 (.fl 7 (.fl 8 (.fl 9 (.fl 10 (.fl 11 (.fl 12 (.fl 13 (.fl 14 .nil))))))))))))))
def fL17:Sch:=.fl 0 (.fl 1 (.fl 2 (.fl 3 (.fl 4 (.fl 5 (.fl 6 (.fl 7 (.fl 8 (.fl 9 (.fl 10 (.fl 11 (.fl 12 (.fl 13 (.fl 14 gAe))))))))))))))
def fL18:Sch:=.fl 0 (.fl 1 (.fl 2 (.fl 3 (.fl 4 (.fl 5 (.fl 6 (.fl 7 (.fl 8 (.fl 9 (.fl 10 (.fl 11 (.fl 12 (.fl 13 (.fl 14 (.fl 15 (.fl 16 (.fl 17 .nil)))))))))))))))))
def fL19:Sch:=.fl 0 (.fl 1 (.fl 2 (.fl 3 (.fl 4 (.fl 5 (.fl 6 (.fl 7 (.fl 8 (.fl 9 (.fl 10 (.fl 11 (.fl 12 (.fl 13 (.fl 14 (.fl 15 (.fl 16 (.fl 17 (.fl 18 .nil))))))))))))))))))
def fL22:Sch:=.fl 0 (.fl 1 (.fl 2 (.fl 3 (.fl 4 (.fl 5 (.fl 6 (.fl 7 (.fl 8 (.fl 9 (.fl 10 (.fl 11 (.fl 12 (.fl 13 (.fl 14 (.fl 15 (.fl 16 (.fl 17 (.fl 18 (.fl 19 (.fl 20 (.fl 21 .nil)))))))))))))))))))))
def fL23:Sch:=.fl 0 (.fl 1 (.fl 2 (.fl 3 (.fl 4 (.fl 5 (.fl 6 (.fl 7 (.fl 8 (.fl 9 (.fl 10 (.fl 11 (.fl 12 (.fl 13 (.fl 14 (.fl 15 (.fl 16 (.fl 17 (.fl 18 (.fl 19 (.fl 20 (.fl 21 (.fl 22 .nil))))))))))))))))))))))
def fL43:Sch:=.fl 0 (.fl 1 (.fl 2 (.fl 3 (.fl 4 (.fl 5 (.fl 6 (.fl 7 (.fl 8 (.fl 9 (.fl 10 (.fl 11 (.fl 12 (.fl 13 (.fl 14 (.fl 15 (.fl 16 (.fl 17 (.fl 18 (.fl 19 (.fl 20 (.fl 21 (.fl 22 (.fl 23 (.fl 24 (.fl 25 (.fl 26 (.fl 27 (.fl 28 (.fl 29 (.fl 30 (.fl 31 (.fl 32 (.fl 33 (.fl 34 (.fl 35 (.fl 36 (.fl 37 (.fl 38 (.fl 39 (.fl 40 (.fl 41 (.fl 42 .nil))))))))))))))))))))))))))))))))))))))))))
def wDd (s:Sch):Sch:=.fl 0 (.fl 1 (.fl 2 (s)))
def wEN (s:Sch):Sch:=.fl 0 (.fl 1 (.fl 2 (.fl 3 (s))))
def wHD (s:Sch):Sch:=.fl 0 (.fl 1 (.fl 2 (.fl 3 (.fl 4 (s)))))
def wFh (s:Sch):Sch:=.fl 0 (.fl 1 (.fl 2 (.fl 3 (.fl 4 (.fl 5 (s))))))
def wNi (s:Sch):Sch:=.fl 0 (.fl 1 (.fl 2 (.fl 3 (.fl 4 (.fl 5 (.fl 6 (s)))))))
def wNj (s:Sch):Sch:=.fl 0 (.fl 1 (.fl 2 (.fl 3 (.fl 4 (.fl 5 (.fl 6 (.fl 7 (s))))))))
def fC0_8 (s:Sch):Sch:=.fl 0 (.fl 1 (.fl 2 (.fl 3 (.fl 4 (.fl 5 (.fl 6 (.fl 7 (.fl 8 (s)))))))))
def wMY (s:Sch):Sch:=.fl 0 (.fl 1 (.fl 2 (.fl 3 (.fl 4 (.fl 5 (.fl 6 (.fl 7 (.fl 8 (.fl 9 (s))))))))))
def wMu (s:Sch):Sch:=.fl 0 (.fl 1 (.fl 2 (.fl 3 (.fl 4 (.fl 5 (.fl 6 (.fl 7 (.fl 8 (.fl 9 (.fl 10 (.fl 11 (.fl 12 (.fl 13 (s))))))))))))))
def wOx (s:Sch):Sch:=.fl 0 (.fl 1 (.fl 2 (.fl 3 (.fl 4 (.fl 5 (.fl 6 (.fl 7 (.fl 8 (.fl 9 (.fl 10 (.fl 11 (.fl 12 (.fl 13 (.fl 14 (.fl 15 (s))))))))))))))))
def wMv (s:Sch):Sch:=.fl 0 (.fl 1 (.fl 2 (.fl 3 (.fl 4 (.fl 5 (.fl 6 (.fl 7 (.fl 8 (.fl 9 (.fl 10 (.fl 11 (.fl 12 (.fl 13 (.fl 14 (.fl 15 (.fl 16 (s)))))))))))))))))
def wOy (s:Sch):Sch:=.fl 0 (.fl 1 (.fl 2 (.fl 3 (.fl 4 (.fl 5 (.fl 6 (.fl 7 (.fl 8 (.fl 9 (.fl 10 (.fl 11 (.fl 12 (.fl 13 (.fl 14 (.fl 15 (.fl 16 (.fl 17 (.fl 18 (.fl 19 (s))))))))))))))))))))
def wMw (s:Sch):Sch:=.fl 0 (.fl 1 (.fl 2 (.fl 3 (.fl 4 (.fl 5 (.fl 6 (.fl 7 (.fl 8 (.fl 9 (.fl 10 (.fl 11 (.fl 12 (.fl 13 (.fl 14 (.fl 15 (.fl 16 (.fl 17 (.fl 18 (.fl 19 (.fl 20 (.fl 21 (s))))))))))))))))))))))
def wOz (s:Sch):Sch:=.fl 0 (.fl 1 (.fl 2 (.fl 3 (.fl 4 (.fl 5 (.fl 6 (.fl 7 (.fl 8 (.fl 9 (.fl 10 (.fl 11 (.fl 12 (.fl 13 (.fl 14 (.fl 15 (.fl 16 (.fl 17 (.fl 18 (.fl 19 (.fl 20 (.fl 21 (.fl 22 (.fl 23 (.fl 24 (.fl 25 (.fl 26 (.fl 27 (.fl 28 (.fl 29 (.fl 30 (.fl 31 (.fl 32 (.fl 33 (.fl 34 (.fl 35 (.fl 36 (.fl 37 (.fl 38 (.fl 39 (.fl 40 (.fl 41 (.fl 42 (.fl 43 (.fl 44 (s)))))))))))))))))))))))))))))))))))))))))))))
def fC1_3 (s:Sch):Sch:=.fl 1 (.fl 2 (.fl 3 (s)))
def fC1_4 (s:Sch):Sch:=.fl 1 (.fl 2 (.fl 3 (.fl 4 (s))))
def fC1_5 (s:Sch):Sch:=.fl 1 (.fl 2 (.fl 3 (.fl 4 (.fl 5 (s)))))
def wPA (s:Sch):Sch:=.fl 1 (.fl 2 (.fl 3 (.fl 4 (.fl 5 (.fl 6 (.fl 7 (.fl 8 (.fl 9 (.fl 10 (.fl 11 (.fl 12 (.fl 13 (.fl 14 (.fl 15 (.fl 16 (.fl 17 (.fl 18 (.fl 19 (s)))))))))))))))))))
def wNk (s:Sch):Sch:=.fl 2 (.fl 3 (.fl 4 (.fl 5 (s))))
def wFy (s:Sch):Sch:=.fl 2 (.fl 3 (.fl 4 (.fl 5 (.fl 6 (s)))))
def wPB (s:Sch):Sch:=.fl 2 (.fl 3 (.fl 4 (.fl 5 (.fl 6 (.fl 7 (.fl 8 (.fl 9 (.fl 10 (.fl 11 (.fl 12 (.fl 13 (.fl 14 (.fl 15 (.fl 16 (.fl 17 (.fl 18 (.fl 19 (.fl 20 (.fl 21 (.fl 22 (.fl 23 (.fl 24 (s)))))))))))))))))))))))
def wLt (s:Sch):Sch:=.fl 3 (.fl 4 (.fl 5 (s)))
def wMZ (s:Sch):Sch:=.fl 3 (.fl 4 (.fl 5 (.fl 6 (s))))
def wNl (s:Sch):Sch:=.fl 3 (.fl 4 (.fl 5 (.fl 6 (.fl 7 (s)))))
def fC4_6 (s:Sch):Sch:=.fl 4 (.fl 5 (.fl 6 (s)))
def fC4_7 (s:Sch):Sch:=.fl 4 (.fl 5 (.fl 6 (.fl 7 (s))))
def wNm (s:Sch):Sch:=.fl 4 (.fl 5 (.fl 6 (.fl 7 (.fl 8 (s)))))
def wPC (s:Sch):Sch:=.fl 4 (.fl 5 (.fl 6 (.fl 7 (.fl 8 (.fl 9 (.fl 10 (.fl 11 (.fl 12 (.fl 13 (.fl 14 (s)))))))))))
def wPD (s:Sch):Sch:=.fl 4 (.fl 5 (.fl 6 (.fl 7 (.fl 8 (.fl 9 (.fl 10 (.fl 11 (.fl 12 (.fl 13 (.fl 14 (.fl 15 (.fl 16 (.fl 17 (.fl 18 (s)))))))))))))))
def wPE (s:Sch):Sch:=.fl 4 (.fl 5 (.fl 6 (.fl 7 (.fl 8 (.fl 9 (.fl 10 (.fl 11 (.fl 12 (.fl 13 (.fl 14 (.fl 15 (.fl 16 (.fl 17 (.fl 18 (.fl 19 (.fl 20 (.fl 21 (s))))))))))))))))))
def wPF (s:Sch):Sch:=.fl 4 (.fl 5 (.fl 6 (.fl 7 (.fl 8 (.fl 9 (.fl 10 (.fl 11 (.fl 12 (.fl 13 (.fl 14 (.fl 15 (.fl 16 (.fl 17 (.fl 18 (.fl 19 (.fl 20 (.fl 21 (.fl 22 (.fl 23 (s))))))))))))))))))))
def wLu (s:Sch):Sch:=.fl 5 (.fl 6 (.fl 7 (s)))
def wIA (s:Sch):Sch:=.fl 5 (.fl 6 (.fl 7 (.fl 8 (s))))
def wJz (s:Sch):Sch:=.fl 5 (.fl 6 (.fl 7 (.fl 8 (.fl 9 (s)))))
def wMx (s:Sch):Sch:=.fl 5 (.fl 6 (.fl 7 (.fl 8 (.fl 9 (.fl 10 (.fl 11 (.fl 12 (.fl 13 (.fl 14 (.fl 15 (s)))))))))))
def wNn (s:Sch):Sch:=.fl 6 (.fl 7 (.fl 8 (s)))
def wPG (s:Sch):Sch:=.fl 6 (.fl 7 (.fl 8 (.fl 9 (.fl 10 (s)))))
def wMy (s:Sch):Sch:=.fl 6 (.fl 7 (.fl 8 (.fl 9 (.fl 10 (.fl 11 (.fl 12 (s)))))))
def fC7_9 (s:Sch):Sch:=.fl 7 (.fl 8 (.fl 9 (s)))
def wPH (s:Sch):Sch:=.fl 7 (.fl 8 (.fl 9 (.fl 10 (s))))
def wMz (s:Sch):Sch:=.fl 7 (.fl 8 (.fl 9 (.fl 10 (.fl 11 (s)))))
def wKb (s:Sch):Sch:=.fl 7 (.fl 8 (.fl 9 (.fl 10 (.fl 11 (.fl 12 (s))))))
def wLv (s:Sch):Sch:=.fl 7 (.fl 8 (.fl 9 (.fl 10 (.fl 11 (.fl 12 (.fl 13 (s)))))))
def wNA (s:Sch):Sch:=.fl 8 (.fl 9 (.fl 10 (s)))
def wJb (s:Sch):Sch:=.fl 8 (.fl 9 (.fl 10 (.fl 11 (s))))
def wPI (s:Sch):Sch:=.fl 9 (.fl 10 (.fl 11 (.fl 12 (s))))
def wNo (s:Sch):Sch:=.fl 10 (.fl 11 (.fl 12 (.fl 13 (s))))
def wNp (s:Sch):Sch:=.fl 10 (.fl 11 (.fl 12 (.fl 13 (.fl 14 (.fl 15 (.fl 16 (.fl 17 (.fl 18 (.fl 19 (.fl 20 (.fl 21 (.fl 22 (s)))))))))))))
def wNq (s:Sch):Sch:=.fl 11 (.fl 12 (.fl 13 (.fl 14 (.fl 15 (.fl 16 (s))))))
def wNr (s:Sch):Sch:=.fl 11 (.fl 12 (.fl 13 (.fl 14 (.fl 15 (.fl 16 (.fl 17 (.fl 18 (s))))))))
def wNs (s:Sch):Sch:=.fl 14 (.fl 15 (.fl 16 (.fl 17 (.fl 18 (.fl 19 (.fl 20 (.fl 21 (s))))))))
def wNt (s:Sch):Sch:=.fl 18 (.fl 19 (.fl 20 (.fl 21 (.fl 22 (.fl 23 (s))))))
def wNu (s:Sch):Sch:=.fl 22 (.fl 23 (.fl 24 (s)))
def wNv (s:Sch):Sch:=.fl 47 (.fl 48 (.fl 49 (.fl 50 (s))))
theorem zA:type_of% @nH:=@nH
theorem zB:type_of% @wLA:=@wLA
theorem zC:type_of% @OKS.callH:=@OKS.callH
theorem zD:type_of% @Enters.mk:=@Enters.mk
theorem zE:type_of% @Tryz.sizeOf3:=@Tryz.sizeOf3
theorem zF:type_of% @wIJ:=@wIJ
theorem zG:type_of% @Tryz.runUnderlying22:=@Tryz.runUnderlying22
theorem zH:type_of% @Runs.fa:=@Runs.fa
theorem zI:type_of% @Tryz.sizeOf123:=@Tryz.sizeOf123
theorem zJ:type_of% @CK.seq:=@CK.seq
theorem zK:type_of% @Tryz.isAgg3:=@Tryz.isAgg3
theorem zL:type_of% @wMa:=@wMa
theorem zM:type_of% @Hid.mk:=@Hid.mk
theorem zN:type_of% @wIN:=@wIN
theorem zO:type_of% @wHL:=@wHL
theorem zP:type_of% @Tryz.runUnderlying27:=@Tryz.runUnderlying27
theorem zQ:type_of% @PHeap.Le.refl:=@PHeap.Le.refl
theorem zR:type_of% @CK.ret:=@CK.ret
theorem zS:type_of% @Runs.pickT:=@Runs.pickT
theorem zT:type_of% @wKz:=@wKz
theorem zU:type_of% @OKS.alloc:=@OKS.alloc
theorem zV:type_of% @Runs.ext:=@Runs.ext
theorem zW:type_of% @Tryz.runUnderlying36:=@Tryz.runUnderlying36
theorem zX:type_of% @CK.block:=@CK.block
theorem zY:type_of% @OKS.st:=@OKS.st
theorem zZ:type_of% @Runs.pickF:=@Runs.pickF
theorem za:type_of% @Runs.addw:=@Runs.addw
theorem zb:type_of% @OKS.e:=@OKS.e
theorem zc:type_of% @Tryz.sizeOf27:=@Tryz.sizeOf27
theorem zd:type_of% @Tryz.zeroValue123:=@Tryz.zeroValue123
theorem ze:type_of% @Runs.lss:=@Runs.lss
theorem zf:type_of% @wKy:=@wKy
theorem zg:type_of% @OKS.r:=@OKS.r
theorem zh:type_of% @Tryz.sizeOf22:=@Tryz.sizeOf22
theorem zi:type_of% @Runs.len:=@Runs.len
theorem zj:type_of% @Tryz.isAgg123:=@Tryz.isAgg123
theorem zk:type_of% @Tryz.isAgg22:=@Tryz.isAgg22
theorem zl:type_of% @wKA:=@wKA
theorem zm:type_of% @Tryz.sizeOf39:=@Tryz.sizeOf39
theorem zn:type_of% @Tryz.isAgg27:=@Tryz.isAgg27
theorem zo:type_of% @wKC:=@wKC
theorem zq:type_of% @OKS.box:=@OKS.box
theorem zr:type_of% @CK.condF:=@CK.condF
theorem zt:type_of% @Tryz.runUnderlying93:=@Tryz.runUnderlying93
theorem zu:type_of% @Runs.build:=@Runs.build
theorem zw:type_of% @OKS.p:=@OKS.p
theorem zx:type_of% @OKS.m:=@OKS.m
theorem zy:type_of% @Tryz.zeroValue3:=@Tryz.zeroValue3
theorem zz:type_of% @Tryz.zeroValue39:=@Tryz.zeroValue39
theorem ZA:type_of% @OKS.px:=@OKS.px
theorem ZB:type_of% @OKS.both:=@OKS.both
theorem ZC:type_of% @OKS.buildSlice:=@OKS.buildSlice
theorem ZD:type_of% @Tryz.mixed:=@Tryz.mixed
theorem ZE:type_of% @OKS.rm:=@OKS.rm
theorem ZF:type_of% @Tryz.runUnderlying25:=@Tryz.runUnderlying25
theorem ZG:type_of% @Tryz.runUnderlying23:=@Tryz.runUnderlying23
theorem ZH:type_of% @res1:=@res1
theorem ZI:type_of% @CK.anyOrd:=@CK.anyOrd
theorem ZJ:type_of% @Tryz.runUnderlying39:=@Tryz.runUnderlying39
theorem ZK:type_of% @CK.condT:=@CK.condT
theorem ZL:type_of% @wOB:=@wOB
theorem ZM:type_of% @Tryz.runUnderlying139:=@Tryz.runUnderlying139
theorem ZN:type_of% @wKB:=@wKB
theorem ZO:type_of% @Tryz.sizeOf36:=@Tryz.sizeOf36
theorem ZP:type_of% @Runs.to:=@Runs.to
theorem ZQ:type_of% @Tryz.runUnderlying136:=@Tryz.runUnderlying136
theorem ZR:type_of% @Tryz.sizeOf29:=@Tryz.sizeOf29
theorem ZS:type_of% @CK.exit:=@CK.exit
theorem ZT:type_of% @Runs.iaI:=@Runs.iaI
theorem ZU:type_of% @Tryz.sizeOf200:=@Tryz.sizeOf200
theorem ZV:type_of% @Tryz.runUnderlying34:=@Tryz.runUnderlying34
theorem ZW:type_of% @Tryz.sizeOf115:=@Tryz.sizeOf115
theorem ZX:type_of% @Tryz.isAgg36:=@Tryz.isAgg36
theorem ZY:type_of% @Runs.notT:=@Runs.notT
theorem ZZ:type_of% @Runs.iaN:=@Runs.iaN
theorem Za:type_of% @Tryz.runUnderlying24:=@Tryz.runUnderlying24
theorem Zb:type_of% @Runs.neq:=@Runs.neq
theorem Zc:type_of% @Tryz.runUnderlying133:=@Tryz.runUnderlying133
theorem Zd:type_of% @Tryz.runUnderlying49:=@Tryz.runUnderlying49
theorem Ze:type_of% @CK.skip:=@CK.skip
theorem Zf:type_of% @Tryz.sizeOf23:=@Tryz.sizeOf23
theorem Zg:type_of% @Tryz.sizeOf93:=@Tryz.sizeOf93
theorem Zh:type_of% @wOA:=@wOA
theorem Zi:type_of% @OKS.mx2:=@OKS.mx2
theorem Zj:type_of% @OKS.cutD:=@OKS.cutD
theorem Zk:type_of% @Tryz.sizeOf25:=@Tryz.sizeOf25
theorem Zl:type_of% @Tryz.isAgg23:=@Tryz.isAgg23
theorem Zm:type_of% @Tryz.runUnderlying56:=@Tryz.runUnderlying56
theorem Zn:type_of% @Tryz.runUnderlying115:=@Tryz.runUnderlying115
theorem Zo:type_of% @Tryz.zeroValue133:=@Tryz.zeroValue133
theorem Zp:type_of% @Tryz.isAgg29:=@Tryz.isAgg29
theorem Zq:type_of% @Tryz.sizeOf34:=@Tryz.sizeOf34
theorem Zr:type_of% @Tryz.isAgg25:=@Tryz.isAgg25
theorem Zs:type_of% @Tryz.runUnderlying201:=@Tryz.runUnderlying201
theorem Zt:type_of% @Tryz.runUnderlying117:=@Tryz.runUnderlying117
theorem Zu:type_of% @Tryz.isAgg39:=@Tryz.isAgg39
theorem Zv:type_of% @Tryz.runUnderlying200:=@Tryz.runUnderlying200
theorem Zw:type_of% @Tryz.zeroValue93:=@Tryz.zeroValue93
theorem Zx:type_of% @Tryz.isAgg93:=@Tryz.isAgg93
theorem Zy:type_of% @Tryz.isAgg34:=@Tryz.isAgg34
theorem Zz:type_of% @Tryz.sizeOf112:=@Tryz.sizeOf112
theorem yA:type_of% @Tryz.sizeOf117:=@Tryz.sizeOf117
theorem yB:type_of% @Runs.nilp:=@Runs.nilp
theorem yC:type_of% @Tryz.zeroValue29:=@Tryz.zeroValue29
theorem yD:type_of% @Tryz.sizeOf136:=@Tryz.sizeOf136
theorem yE:type_of% @Tryz.zeroValue200:=@Tryz.zeroValue200
theorem yF:type_of% @Tryz.call65:=@Tryz.call65
theorem yG:type_of% @OKS.append:=@OKS.append
theorem yH:type_of% @Tryz.runUnderlying33:=@Tryz.runUnderlying33
theorem yI:type_of% @Tryz.sizeOf133:=@Tryz.sizeOf133
theorem yJ:type_of% @Tryz.call66:=@Tryz.call66
theorem yK:type_of% @Tryz.isAgg136:=@Tryz.isAgg136
theorem yL:type_of% @Tryz.zeroValue118:=@Tryz.zeroValue118
theorem yM:type_of% @Tryz.sizeOf24:=@Tryz.sizeOf24
theorem yN:type_of% @Tryz.sizeOf91:=@Tryz.sizeOf91
theorem yO:type_of% @Tryz.sizeOf33:=@Tryz.sizeOf33
theorem yP:type_of% @Tryz.call69:=@Tryz.call69
theorem yQ:type_of% @Runs.gtr:=@Runs.gtr
theorem yR:type_of% @Tryz.isAgg24:=@Tryz.isAgg24
theorem yS:type_of% @Tryz.isAgg91:=@Tryz.isAgg91
theorem yT:type_of% @Tryz.call127:=@Tryz.call127
theorem yU:type_of% @Tryz.runUnderlying89:=@Tryz.runUnderlying89
theorem yV:type_of% @Runs.eql:=@Runs.eql
theorem yW:type_of% @Tryz.zeroValue36:=@Tryz.zeroValue36
theorem yX:type_of% @CK.cut:=@CK.cut
theorem yY:type_of% @OKS.ra:=@OKS.ra
theorem yZ:type_of% @Tryz.zeroValue115:=@Tryz.zeroValue115
theorem ya:type_of% @CK.forN:=@CK.forN
theorem yb:type_of% @Tryz.isAgg115:=@Tryz.isAgg115
theorem yc:type_of% @Tryz.isAgg200:=@Tryz.isAgg200
theorem yd:type_of% @Tryz.isAgg33:=@Tryz.isAgg33
theorem ye:type_of% @CK.iter:=@CK.iter
theorem yf:type_of% @Runs.subw:=@Runs.subw
theorem yg:type_of% @Tryz.underlying22:=@Tryz.underlying22
theorem yh:type_of% @Tryz.isAgg118:=@Tryz.isAgg118
theorem yi:type_of% @Tryz.runUnderlying112:=@Tryz.runUnderlying112
theorem yj:type_of% @Tryz.runUnderlying184:=@Tryz.runUnderlying184
theorem yk:type_of% @Tryz.call64:=@Tryz.call64
theorem yl:type_of% @Tryz.sizeOf44:=@Tryz.sizeOf44
theorem ym:type_of% @Tryz.zeroValue27:=@Tryz.zeroValue27
theorem yn:type_of% @Runs.ixA:=@Runs.ixA
theorem yo:type_of% @Tryz.sizeOf137:=@Tryz.sizeOf137
theorem yp:type_of% @OKS.stR:=@OKS.stR
theorem yq:type_of% @Tryz.runUnderlying116:=@Tryz.runUnderlying116
theorem yr:type_of% @Tryz.call71:=@Tryz.call71
theorem yt:type_of% @CK.fresh:=@CK.fresh
theorem yu:type_of% @Tryz.call122:=@Tryz.call122
theorem yv:type_of% @RunsK.to:=@RunsK.to
end Go.Proofs.YtlnfbjphfoipaaaGreat
namespace Go.Proofs.YtlnfbjphfoipaaaGreat
open Go.KL
set_option maxHeartbeats 4000000
theorem wFt (O:wAA) (af:Option Addr) (aj:Nat) (ag:Option Addr) (ak:Nat) (ah:Option Addr) (am:Nat) (ai:Option Addr) (an:Nat) (w:World) (U:PHeap) (hS:St0 w U []) (aH:Sl U 1 af aj O.Starts.length (hD KL.encI O.Starts)) (aI:Sl U 2 ag ak O.Splits.length (hD wAC O.Splits)) (aJ:Sl U 3 ah am O.Clocks.length (hD wAE O.Clocks)) (aK:Sl U 4 ai an O.Readings.length (hD wAB O.Readings)) {r:Bool} (hm:wBs O=some r):Gv Tryz.prog 8 [.agg #[.slice af O.Starts.length aj,.slice ag O.Splits.length ak,.slice ah O.Clocks.length am,.slice ai O.Readings.length an]] w (wCF w [] U (fun U_ L_ v=>v=.bool r/\L_=[])):=by
 unfold wBs at hm
 refine Gv.of Tryz.func8 rfl Tryz.ntmps8 Tryz.results8 rfl (sR gAf rfl (zq (cs:=[.slice af O.Starts.length aj,.slice ag O.Splits.length ak,.slice ah O.Clocks.length am,.slice ai O.Readings.length an]) rfl rfl rfl rfl rfl rfl (by rfl) hS ?_))
 intro W1 b2 ae
 refine oA Z Z (eN (sR fL23 Z (oR Z (zH Z Z zP Z zh) (oL Z (ae.ldB (j:=0) Z Z Z zk (v:=.slice af O.Starts.length aj) Z) (oR Z (zi Z Z zG) (oR Z (yQ Z Z Z) (oM Z Z ?_)))))))
 by_cases c5:10 < (↑O.Starts.length:Int)
 have ap:=hm;rw [if_pos c5] at ap;replace c5:=zM c5
 refine oT Z c5 (oT Z c5 (oT Z c5 (oT Z c5 (oR Z (zS Z (Zh c5.out) Z) (oM Z Z (oN Z (oN Z (oN Z (oN Z (oR Z (zS Z Z Z) (oM Z Z (oN Z (oN Z (oN Z (oN Z (oR Z (zS Z Z Z) (oA Z Z (eN (zR ?_)))))))))))))))))))
 have hE:=hH ap;first | subst r | cases hE
 exact ⟨rfl,_,(ZH rfl),U,_,(ae.pick [] _ (by decide) rfl),rfl,rfl⟩
 have aq:=hm;rw [if_neg c5] at aq;replace c5:=zM c5
 refine rU Z (wF Z c5) (zH Z Z zP Z Zf) (zx Z Z Z (wF Z c5) (ae.ldB (j:=0) Z Z Z Zl (v:=.slice ag O.Splits.length ak) Z) Z (rU Z (wF Z c5) (zi Z Z ZG) (rU Z (wF Z c5) (yQ Z Z Z) (oR Z (zZ Z (ZL c5.out) Z) (oM Z Z (ifc aq ?_ ?_))))))
 intro c8 ax
 refine oT Z c8 (oT Z c8 (oT Z c8 (oT Z c8 (oR Z (zS Z (Zh c8.out) Z) (oM Z Z (oN Z (oN Z (oN Z (oN Z (oR Z (zS Z Z Z) (oA Z Z (eN (zR ?_)))))))))))))
 have hE:=hH ax;first | subst r | cases hE
 exact ⟨rfl,_,(ZH rfl),U,_,(ae.pick [] _ (by decide) rfl),rfl,rfl⟩
 intro c8 au
 refine rU Z (wF Z c8) (zH Z Z zP Z yM) (zx Z Z Z (wF Z c8) (ae.ldB (j:=0) Z Z Z yR (v:=.slice ah O.Clocks.length am) Z) Z (rU Z (wF Z c8) (zi Z Z Za) (rU Z (wF Z c8) (yQ Z Z Z) (oR Z (zZ Z (ZL c8.out) Z) (oM Z Z (ifc au ?_ ?_))))))
 intro ab av
 refine oT Z ab (oT Z ab (oT Z ab (oT Z ab (oR Z (zS Z (Zh ab.out) Z) (oA Z Z (eN (zR ?_)))))))
 have hE:=hH av;first | subst r | cases hE
 exact ⟨rfl,_,(ZH rfl),U,_,(ae.pick [] _ (by decide) rfl),rfl,rfl⟩
 intro ab ao
 refine rU Z (wF Z ab) (zH Z Z zP Z Zk) (zx Z Z Z (wF Z ab) (ae.ldB (j:=0) Z Z Z Zr (v:=.slice ai O.Readings.length an) Z) Z (rU Z (wF Z ab) (zi Z Z ZF) (rU Z (wF Z ab) (yQ Z Z Z) (oR Z (zZ Z (ZL ab.out) Z) (oA Z Z (eN (zR ?_)))))))
 first | (obtain rfl:=hH ao) | cases ao
 exact ⟨rfl,_,(ZH rfl),U,_,(ae.pick [] _ (by decide) rfl),rfl,rfl⟩
theorem wBh  (w:World) (U:PHeap) (hS:St0 w U [])  {r:wAA} (hm:wBD =some r):Gv Tryz.prog 56 [] w (wCF w [] U (fun U_ L_ v=>∃ (ao:Option Addr) (aI:Nat) (ap:Option Addr) (aJ:Nat) (aq:Option Addr) (aK:Nat) (au:Option Addr) (aL:Nat),v=.agg #[.slice ao r.Starts.length aI,.slice ap r.Splits.length aJ,.slice aq r.Clocks.length aK,.slice au r.Readings.length aL]/\L_=[.row ao aI 3 1 (hD KL.encI r.Starts),.row ap aJ 39 2 (hD wAC r.Splits),.row aq aK 112 3 (hD wAE r.Clocks),.row au aL 115 4 (hD wAB r.Readings)])):=by
 unfold wBD at hm
 refine Gv.of Tryz.func56 Z Tryz.ntmps56 Tryz.results56 Z (sR (.fx 0 .nil .stop) Z ?_)
 let O:List Value:=[.slice none 0 0,.slice none 0 0,.slice none 0 0,.slice none 0 0]
 refine zU (cs:=O) Z Z Z Z Z ym Z hS ?_
 intro W1 b2 aZ
 refine eN (sR (.fx 0 (.fl 1 (.fl 2 (.fx 3 (.fl 4 (.fl 5 (.fx 6 (fC7_9 (.fx 10 (.fl 11 (.fx 12 .nil .stop)) .stop)) .stop))) .stop))) .stop) Z (ZC (pv:=[(0,jV 0),(1,jV 300)]) (zs:=[jV 0,jV 0]) (cs:=[jV 0,jV 300]) Z Z Z Z Z (wAG Z (wAG Z wAP)) zG zE zy Z Z Z Z Z aZ ?_))
 intro W5 b6 a0
 let B1:Res:=.row (some ⟨b6,0,none⟩) 2 3 1 (hD KL.encI [0,300])
 have a5:sW w U U [B1,.blk b2 27 O] W5:=a0
 let B2:List Value:=[jV 0,jV 0]
 refine oR Z (zu (pv:=[(0,jV 1000),(1,jV 1200)]) (z:=B2) (cs:=[jV 1000,jV 1200]) Z (wAG Z (wAG Z wAP)) zz wCn Z Z) (oR Z (zu (pv:=[(0,jV 900),(1,jV 1500)]) (z:=B2) (cs:=[jV 900,jV 1500]) Z (wAG Z (wAG Z wAP)) zz wCn Z Z) (ZC (pv:=[(0,.agg #[jV 1000,jV 1200]),(1,.agg #[jV 900,jV 1500])]) (zs:=[jV 0,jV 0,jV 0,jV 0]) (cs:=[jV 1000,jV 1200,jV 900,jV 1500]) Z Z Z Z Z (wAG Z (wAG Z wAP)) ZG zm zz Z Z Z Z Z a5 ?_))
 intro aN af aS
 let B3:Res:=.row (some ⟨af,0,none⟩) 2 39 2 (hD wAC [(⟨1000,1200⟩:wAN),(⟨900,1500⟩:wAN)])
 have aT:sW w U U [B3,B1,.blk b2 27 O] aN:=aS
 refine oR Z (zu (pv:=[(0,jV (-5)),(1,jV 5)]) (z:=B2) (cs:=[jV (-5),jV 5]) Z (wAG Z (wAG Z wAP)) zz wCn Z Z) ?_
 let B4:List Value:=[jV (-5),jV 5,jV 1]
 let B5:List Value:=[jV 0,jV 0,jV 0]
 refine oR Z (zu (pv:=[(0,.agg #[jV (-5),jV 5]),(1,jV 1)]) (z:=B5) (cs:=B4) Z (wAG Z (wAG Z wAP)) Tryz.zeroValue112 wLP Z Z) (ZC (pv:=[(0,.agg B4.toArray)]) (zs:=B5) (cs:=B4) Z Z Z Z Z (wAG Z wAP) Za Zz Tryz.zeroValue112 Z Z Z Z Z aT ?_)
 intro aO ag aU
 let B6:Res:=.row (some ⟨ag,0,none⟩) 1 112 3 (hD wAE [(⟨(⟨-5,5⟩:wAN),1⟩:wAd)])
 have aV:sW w U U [B6,B3,B1,.blk b2 27 O] aO:=aU
 let B7:List Value:=[jV 0,jV 0,jV 0,jV 0]
 let B8:List Value:=[jV 0,jV 2,jV 0,jV 2250]
 refine oR Z (zu (pv:=[(1,jV 2),(3,jV 2250)]) (z:=B7) (cs:=B8) Z (wAG Z (wAG Z wAP)) yZ wHO Z Z) ?_
 let B9:List Value:=[jV 1,jV 1,jV 0,jV 1400]
 refine oR Z (zu (pv:=[(0,jV 1),(1,jV 1),(3,jV 1400)]) (z:=B7) (cs:=B9) Z (wAG Z (wAG Z (wAG Z wAP))) yZ wHO Z Z) ?_
 let av:List Value:=[jV 1,jV 2,jV 0,jV 2499]
 refine oR Z (zu (pv:=[(0,jV 1),(1,jV 2),(3,jV 2499)]) (z:=B7) (cs:=av) Z (wAG Z (wAG Z (wAG Z wAP))) yZ wHO Z Z) (ZC (pv:=[(0,.agg B8.toArray),(1,.agg B9.toArray),(2,.agg av.toArray)]) (zs:=[jV 0,jV 0,jV 0,jV 0,jV 0,jV 0,jV 0,jV 0,jV 0,jV 0,jV 0,jV 0]) (cs:=[jV 0,jV 2,jV 0,jV 2250,jV 1,jV 1,jV 0,jV 1400,jV 1,jV 2,jV 0,jV 2499]) Z Z Z Z Z (wAG Z (wAG Z (wAG Z wAP))) ZF ZW yZ Z Z Z Z Z aV ?_)
 intro aP ah aW
 let ax:Res:=.row (some ⟨ah,0,none⟩) 3 115 4 (hD wAB [(⟨0,2,0,2250⟩:wAJ),(⟨1,1,0,1400⟩:wAJ),(⟨1,2,0,2499⟩:wAJ)])
 have aX:sW w U U [ax,B6,B3,B1,.blk b2 27 O] aP:=aW
 let ab:List Value:=[.slice (some ⟨b6,0,none⟩) 2 2,.slice (some ⟨af,0,none⟩) 2 2,.slice (some ⟨ag,0,none⟩) 1 1,.slice (some ⟨ah,0,none⟩) 3 3]
 refine oR Z (zu (pv:=[(0,.slice (some ⟨b6,0,none⟩) 2 2),(1,.slice (some ⟨af,0,none⟩) 2 2),(2,.slice (some ⟨ag,0,none⟩) 1 1),(3,.slice (some ⟨ah,0,none⟩) 3 3)]) (z:=O) (cs:=ab) Z (wAG Z (wAG Z (wAG Z (wAG Z wAP)))) ym wKH Z Z) (zY (j:=4) (vs:=ab) Z Z Z Z aX Z Z Z Z zc (zA Z) Z Z Z ?_)
 intro aQ aY
 have aM:sW w U U [ax,B6,B3,B1,.blk b2 27 ab] aQ:=aY
 refine eN (zR ?_)
 cases hm
 exact ⟨rfl,_,(wGy (v:=.agg ab.toArray) ⟨⟨_,rfl,(wBF zn zc (aM.blkAt (k:=4) rfl) (vs:=ab) rfl rfl)⟩,trivial⟩),U,_,(aM.pick [3,2,1,0] _ (by decide) rfl),(some ⟨b6,0,none⟩),2,(some ⟨af,0,none⟩),2,(some ⟨ag,0,none⟩),1,(some ⟨ah,0,none⟩),3,rfl,rfl⟩
theorem wBY (p0:Int) (p1:Int) (w:World) (U:PHeap) (hS:St0 w U [])  {r:wAL} (hm:wAz p0 p1=some r):Gv Tryz.prog 57 [jV p0,jV p1] w (wCF w [] U (fun U_ L_ v=>v=.agg #[jV r.Skier,jV r.Mat]/\L_=[])):=by
 unfold wAz at hm
 refine Gv.of Tryz.func57 Z Tryz.ntmps57 Tryz.results57 Z (sR (.fx 0 .nil .stop) Z (zU (cs:=[jV 0,jV 0]) Z Z Z Z Z yC Z hS ?_))
 intro W1 b2 ag
 refine eN (sR (wDd (.fx 3 .nil .stop)) Z (oM Z Z (oM Z Z ?_)))
 let O:List Value:=[jV p0,jV p1]
 refine oR Z (zu (pv:=[(0,jV p0),(1,jV p1)]) (z:=[jV 0,jV 0]) (cs:=O) Z (wAG Z (wAG Z wAP)) yC wFX Z Z) (zY (j:=0) (vs:=O) Z Z Z Z ag Z Z Z Z ZR (zA Z) Z Z Z ?_)
 intro W5 ah
 have ac:sW w U U [.blk b2 29 O] W5:=ah
 refine eN (zR ?_)
 cases hm
 exact ⟨rfl,_,(wGy (v:=.agg O.toArray) ⟨⟨_,rfl,(wBF Zp ZR (ac.blkAt (k:=0) rfl) (vs:=O) rfl rfl)⟩,trivial⟩),U,_,(ac.pick [] _ (by decide) rfl),rfl,rfl⟩
theorem wCE (p0:Int) (p1:Int) (p2:Int) (w:World) (U:PHeap) (hS:St0 w U [])  {r:Bool} (hm:wBT p0 p1 p2=some r):Gv Tryz.prog 69 [jV p0,jV p1,jV p2] w (wCF w [] U (fun U_ L_ v=>v=.bool r/\L_=[])):=by
 unfold wBT at hm
 refine Gv.of Tryz.func69 Z Tryz.ntmps69 Tryz.results69 Z (sR fL1 Z (oA Z Z (eN (sR fL9 Z (oM Z Z (oM Z Z (oR Z (Runs.geq Z Z Z) (oM Z Z ?_))))))))
 by_cases O:p1 <= p0
 have aa:=hm;rw [if_pos O] at aa;replace O:=zM O
 refine ZE Z Z Z (wT Z O) Z Z (ZE Z Z Z (wT Z O) Z Z (rU Z (wT Z O) (Runs.leq Z Z Z) (oR Z (zS Z (Zh O.out) Z) (oA Z Z (eN (zR ?_))))))
 first | (obtain rfl:=hH aa) | cases aa
 exact ⟨Z,_,(ZH Z),U,_,hS,Z,Z⟩
 have ae:=hm;rw [if_neg O] at ae;replace O:=zM O
 refine oF Z O (oF Z O (oF Z O (oR Z (zZ Z (ZL O.out) Z) (oA Z Z (eN (zR ?_))))))
 have hE:=hH ae;first | subst r | cases hE
 exact ⟨Z,_,(ZH Z),U,_,hS,Z,Z⟩
theorem wGh (O:List Int) (aj:Option Addr) (ak:Nat) (p1:(Int->Option Bool)) (am:Value) (w:World) (U:PHeap) (hS:St0 w U []) (aW:Sl U 1 aj ak O.length (hD KL.encI O)) (aX:FnOK Tryz.prog U am wOQ wOR p1) {r:Bool} (hm:wCq O p1=some r):Gv Tryz.prog 89 [.slice aj O.length ak,am] w (wCF w [] U (fun U_ L_ v=>v=.bool r/\L_=[])):=by
 unfold wCq at hm
 refine Gv.of Tryz.func89 Z Tryz.ntmps89 Tryz.results89 Z (sR fL1 Z (oA Z Z (eN (zJ (sR fL3 Z (oM Z Z (oR Z (zi Z Z zG) (oM Z Z (eN (zX ?_))))))))))
 have q:=wCT hm
 obtain ⟨r3,af⟩:=q
 have q:=wCS af
 obtain ⟨ah,a0⟩:=q
 replace ah:=zM ah
 refine ya (fun k2 _ J_ w_=>∃ (U_:PHeap),J_ 9=jV (↑k2:Int)/\J_ 1=am/\J_ 7=.slice aj O.length ak/\J_ 8=jV (↑O.length:Int)/\PHeap.Le U U_/\sW w U U_ [] w_) a0 ?_ ?_ ?_
 exact ⟨U,Z,Z,Z,Z,(zQ _),hS⟩
 rintro k2 ⟨⟩ bs J7 W8 ag ⟨bg,ae,ao,ap,aq,ai,av⟩ az aY
 try dsimp only at az
 have an:Hid ((↑k2:Int) < (↑O.length:Int)):=zM (wBQ ag)
 replace ag:=zM ag
 have a5:Hid (w64 ((↑k2:Int) + 1)=(↑(k2 + 1):Int)):=zM (by have h1:=ah.out;have h2:=an.out;rw [wAY] <;> omega)
 refine sR fL1 Z (oR Z (ze Z ae aq) (eN (zJ (cT Z an (kN (zJ (zX (sR fL3 Z (bnK az fun aI au a6=>?_)))))))))
 have aP:=aW.le ai
 have q:=aP.el (fun _=>rfl) (wAb au)
 obtain ⟨bj,bo,aS,aT⟩:=q
 refine oR Z (ZZ Z ap aS ae zG zE (wCc au)) (oL Z (av.ldC (f:=0) aT (v:=jV aI) Z Z zK Z) (oA Z Z (eN (sR gBc Z (oM Z ao (oM Z Z (bnK a6 fun br aQ a7=>?_)))))))
 have aR:=aX.le ai
 refine OKS.callV (a:=aI) Z Z Z Z Z Z (zB Z zL) av aR Z aQ ?_
 rintro ab bf bq aK bb aU ⟨rfl,rfl⟩
 have ax:sW w U ab [] aK:=aU
 refine oR Z (ZY Z Z) (eN (ifc a7 ?_ ?_))
 intro ac a8
 refine zr (nC ac.out) (Ze (zl (zF (rR fL2 Z (oR Z (ZP (za Z ae Z) (congrArg (jV) a5.out)) (oM Z Z (zb ?_)))))))
 have q:=hH a8
 obtain rfl:=q
 exact zF ⟨Z,_,Z,⟨ab,Z,ao,ap,aq,(ai.trans bb),ax⟩⟩
 intro ac a9
 refine ZK (nF (ac.out)) (sR fL1 Z (oA Z Z (eN (zR (zo (zT ?_))))))
 have q:=wAV a9
 obtain ⟨bc,ba,aM⟩:=q
 have q:=wCY hm af (aY bc aM)
 obtain rfl:=q
 refine zT (zo (zT ?_))
 have hE:=hH ba;first | subst r | cases hE
 exact ⟨Z,_,(ZH Z),ab,_,ax,Z,Z⟩
 rintro ⟨⟩ bd bh ⟨aJ,aO,bk,bm,aN,bn,aV⟩ aZ
 have ay:=wDQ hm af aZ
 try dsimp only at ay
 have aL:Hid (¬ ((↑(((↑O.length:Int):Int) - 0).toNat:Int) < (↑O.length:Int))):=zM (wAq)
 refine sR fL1 Z (oR Z (ze Z aO aN) (eN (zJ (cF Z aL (ZS (zf (zf (ZN (zF (sR fL1 Z (oA Z Z (eN (zR ?_)))))))))))))
 have hE:=hH ay;first | subst r | cases hE
 exact ⟨Z,_,(ZH Z),aJ,_,aV,Z,Z⟩
theorem wHe (O:Int) (w:World) (U:PHeap) (hS:St0 w U [])  {r:Bool} (hm:wDA O=some r):Gv Tryz.prog 90 [jV O] w (wCF w [] U (fun U_ L_ v=>v=.bool r/\L_=[])):=by
 unfold wDA at hm
 refine Gv.of Tryz.func90 Z Tryz.ntmps90 Tryz.results90 Z (sR fL1 Z (oA Z Z (eN (sR (.fl 0 gAg) Z (oM Z Z (bnK hm fun x1 h2 ag=>zC 0 Z Z Z Z (zD Z Z yP (zB Z (zB Z (zB Z zL))) Z) hS (fun hs=>wCE O 0 360000 w U hs h2) (.inr Z) ?_))))))
 rintro U4 L5 v6 W7 ai af ⟨rfl,rfl⟩
 have ae:sW w U U4 [] W7:=af
 refine oA Z Z (eN (zR ?_))
 have hE:=hH ag;first | subst r | cases hE
 exact ⟨Z,_,(ZH Z),U4,_,ae,Z,Z⟩
theorem wFF (O:List wAN) (am:Option Addr) (an:Nat) (p1:(wAN->Option Bool)) (ao:Value) (w:World) (U:PHeap) (hS:St0 w U []) (a7:Sl U 2 am an O.length (hD wAC O)) (a8:FnOK Tryz.prog U ao wOS wOT p1) {r:Bool} (hm:wBq O p1=some r):Gv Tryz.prog 91 [.slice am O.length an,ao] w (wCF w [] U (fun U_ L_ v=>v=.bool r/\L_=[])):=by
 unfold wBq at hm
 refine Gv.of Tryz.func91 Z Tryz.ntmps91 Tryz.results91 Z (sR fL1 Z (oA Z Z (eN (zJ (sR fL3 Z (oM Z Z (oR Z (zi Z Z ZG) (oM Z Z (eN (zX ?_))))))))))
 have q:=wCT hm
 obtain ⟨r3,ah⟩:=q
 have q:=wCS ah
 obtain ⟨aj,bb⟩:=q
 replace aj:=zM aj
 refine ya (fun k2 _ J_ w_=>∃ (U_:PHeap),J_ 9=jV (↑k2:Int)/\J_ 1=ao/\J_ 7=.slice am O.length an/\J_ 8=jV (↑O.length:Int)/\PHeap.Le U U_/\sW w U U_ [] w_) bb ?_ ?_ ?_
 exact ⟨U,Z,Z,Z,Z,(zQ _),hS⟩
 rintro k2 ⟨⟩ bA J7 W8 ai ⟨aM,ag,au,av,ax,ak,az⟩ aK a9
 try dsimp only at aK
 have aq:Hid ((↑k2:Int) < (↑O.length:Int)):=zM (wBQ ai)
 replace ai:=zM ai
 have bc:Hid (w64 ((↑k2:Int) + 1)=(↑(k2 + 1):Int)):=zM (by have h1:=aj.out;have h2:=aq.out;rw [wAY] <;> omega)
 refine sR fL1 Z (oR Z (ze Z ag ax) (eN (zJ (cT Z aq (kN (zJ (zX (sR gBd Z (bnK aK fun ab ay bd=>?_)))))))))
 have aU:=a7.le ak
 have q:=aU.el (fun _=>rfl) (wAb ay)
 obtain ⟨br,bv,aX,aY⟩:=q
 refine oR Z (ZZ Z av aX ag ZG zm (wCc ay)) (oL Z (az.ldCA (f:=0) aY Z Z Zu zm (us:=[jV ab.Lo,jV ab.Hi]) Z Z) (zU (cs:=[jV 0,jV 0]) Z Z Z Z Z zz Z az ?_))
 intro bo ap aZ
 let B0:List Value:=[jV ab.Lo,jV ab.Hi]
 refine zY (j:=0) (vs:=B0) Z Z Z Z aZ Z Z Z Z zm (zA Z) Z Z Z ?_
 intro aO a0
 have aH:sW w U aM [.blk ap 39 B0] aO:=a0
 refine eN (sR gBc Z (oM Z au (oL Z (aH.ldBA (j:=0) Z Z Z Zu zm (vs:=B0) Z Z) (bnK bd fun bz aV be=>?_))))
 have aW:=a8.le ak
 refine OKS.callV (a:=ab) Z Z Z Z Z Z (zB Z zL) aH aW Z aV ?_
 rintro ae bn bx aP bi a5 ⟨rfl,rfl⟩
 have aI:sW w U ae [.blk ap 39 B0] aP:=a5
 refine oR Z (ZY Z Z) (eN (ifc be ?_ ?_))
 intro af bf
 refine zr (nC af.out) (Ze (zl (zF (rR fL2 Z (oR Z (ZP (za Z ag Z) (congrArg (jV) bc.out)) (oM Z Z (zb ?_)))))))
 have q:=hH bf
 obtain rfl:=q
 exact zF ⟨rfl,_,rfl,⟨ae,rfl,au,av,ax,(ak.trans bi),(aI.pick [] _ (by decide) rfl)⟩⟩
 intro af bg
 refine ZK (nF (af.out)) (sR fL1 Z (oA Z Z (eN (zR (zo (zT ?_))))))
 have q:=wAV bg
 obtain ⟨bj,bh,aR⟩:=q
 have q:=wCY hm ah (a9 bj aR)
 obtain rfl:=q
 refine zT (zo (zT ?_))
 have hE:=hH bh;first | subst r | cases hE
 exact ⟨rfl,_,(ZH rfl),ae,_,(aI.pick [] _ (by decide) rfl),rfl,rfl⟩
 rintro ⟨⟩ bk bp ⟨aN,aT,bs,bt,aS,bu,a6⟩ ba
 have aJ:=wDQ hm ah ba
 try dsimp only at aJ
 have aQ:Hid (¬ ((↑(((↑O.length:Int):Int) - 0).toNat:Int) < (↑O.length:Int))):=zM (wAq)
 refine sR fL1 Z (oR Z (ze Z aT aS) (eN (zJ (cF Z aQ (ZS (zf (zf (ZN (zF (sR fL1 Z (oA Z Z (eN (zR ?_)))))))))))))
 have hE:=hH aJ;first | subst r | cases hE
 exact ⟨Z,_,(ZH Z),aN,_,a6,Z,Z⟩
theorem wFj (p0:wAN) (p1:Int) (p2:Int) (w:World) (U:PHeap) (hS:St0 w U [])  {r:Bool} (hm:wDB p0 p1 p2=some r):Gv Tryz.prog 93 [.agg #[jV p0.Lo,jV p0.Hi],jV p1,jV p2] w (wCF w [] U (fun U_ L_ v=>v=.bool r/\L_=[])):=by
 unfold wDB at hm
 refine Gv.of Tryz.func93 rfl Tryz.ntmps93 Tryz.results93 rfl (sR gAf rfl (zq (cs:=[jV p0.Lo,jV p0.Hi]) rfl rfl rfl rfl rfl rfl (by rfl) hS ?_))
 intro W1 b2 ac
 refine oA Z Z (eN (sR fL18 Z (oR Z (zH Z Z ZJ Z zE) (oL Z (ac.ldB (j:=0) Z Z Z zK (v:=jV p0.Lo) Z) (oR Z (zH Z Z ZJ Z zE) (oL Z (ac.ldB (j:=0) Z Z Z zK (v:=jV p0.Hi) Z) (oR Z (Runs.leq Z Z Z) (oM Z Z ?_))))))))
 by_cases O:p0.Lo <= p0.Hi
 have af:=hm;rw [if_pos O] at af;replace O:=zM O
 refine rU Z (wT Z O) (zH Z Z ZJ Z zE) (zx Z Z Z (wT Z O) (ac.ldB (j:=0) Z Z Z zK (v:=jV p0.Lo) Z) Z (ZE Z Z Z (wT Z O) Z Z (rU Z (wT Z O) (Runs.geq Z Z Z) (oR Z (zS Z (Zh O.out) Z) (oM Z Z (ifc af ?_ ?_))))))
 intro c7 ag
 refine rU Z (wT Z c7) (zH Z Z ZJ Z zE) (zx Z Z Z (wT Z c7) (ac.ldB (j:=0) Z Z Z zK (v:=jV p0.Hi) Z) Z (ZE Z Z Z (wT Z c7) Z Z (rU Z (wT Z c7) (Runs.leq Z Z Z) (oR Z (zS Z (Zh c7.out) Z) (oA Z Z (eN (zR ?_)))))))
 first | (obtain rfl:=hH ag) | cases ag
 exact ⟨rfl,_,(ZH rfl),U,_,(ac.pick [] _ (by decide) rfl),rfl,rfl⟩
 intro c7 aj
 refine oF Z c7 (oF Z c7 (oF Z c7 (oF Z c7 (oR Z (zZ Z (ZL c7.out) Z) (oA Z Z (eN (zR ?_)))))))
 have hE:=hH aj;first | subst r | cases hE
 exact ⟨rfl,_,(ZH rfl),U,_,(ac.pick [] _ (by decide) rfl),rfl,rfl⟩
 have ae:=hm;rw [if_neg O] at ae;replace O:=zM O
 refine oF Z O (oF Z O (oF Z O (oF Z O (oR Z (zZ Z (ZL O.out) Z) (oM Z Z (oN Z (oN Z (oN Z (oN Z (oR Z (zZ Z Z Z) (oA Z Z (eN (zR ?_)))))))))))))
 have hE:=hH ae;first | subst r | cases hE
 exact ⟨rfl,_,(ZH rfl),U,_,(ac.pick [] _ (by decide) rfl),rfl,rfl⟩
theorem wHf (O:wAN) (w:World) (U:PHeap) (hS:St0 w U [])  {r:Bool} (hm:wDC O=some r):Gv Tryz.prog 92 [.agg #[jV O.Lo,jV O.Hi]] w (wCF w [] U (fun U_ L_ v=>v=.bool r/\L_=[])):=by
 unfold wDC at hm
 refine Gv.of Tryz.func92 Z Tryz.ntmps92 Tryz.results92 Z (sR gAf Z ?_)
 let B0:List Value:=[jV O.Lo,jV O.Hi]
 refine zq (cs:=B0) rfl rfl rfl rfl rfl rfl (by rfl) hS ?_
 intro W1 b2 ac
 refine oA Z Z (eN (sR (.fl 0 gAg) Z (oL Z (ac.ldBA (j:=0) Z Z Z Zu zm (vs:=B0) Z Z) (bnK hm fun x5 h6 ak=>zC 0 Z Z Z Z (zD Z Z Tryz.call93 (zB Z (zB Z (zB Z zL))) Z) ac (fun hs=>wFj O 0 360000 W1 U hs h6) (.inr Z) ?_))))
 rintro U8 L9 ao af an ai ⟨rfl,rfl⟩
 have aj:sW w U U8 [.blk b2 39 B0] af:=ai
 refine oA Z Z (eN (zR ?_))
 have hE:=hH ak;first | subst r | cases hE
 exact ⟨rfl,_,(ZH rfl),U8,_,(aj.pick [] _ (by decide) rfl),rfl,rfl⟩
theorem wEt (O:List wAd) (am:Option Addr) (an:Nat) (p1:(wAd->Option Bool)) (ao:Value) (w:World) (U:PHeap) (hS:St0 w U []) (a7:Sl U 3 am an O.length (hD wAE O)) (a8:FnOK Tryz.prog U ao wOU wOV p1) {r:Bool} (hm:wBZ O p1=some r):Gv Tryz.prog 94 [.slice am O.length an,ao] w (wCF w [] U (fun U_ L_ v=>v=.bool r/\L_=[])):=by
 unfold wBZ at hm
 refine Gv.of Tryz.func94 Z Tryz.ntmps94 Tryz.results94 Z (sR fL1 Z (oA Z Z (eN (zJ (sR fL3 Z (oM Z Z (oR Z (zi Z Z Za) (oM Z Z (eN (zX ?_))))))))))
 have q:=wCT hm
 obtain ⟨r3,ah⟩:=q
 have q:=wCS ah
 obtain ⟨aj,bb⟩:=q
 replace aj:=zM aj
 refine ya (fun k2 _ J_ w_=>∃ (U_:PHeap),J_ 9=jV (↑k2:Int)/\J_ 1=ao/\J_ 7=.slice am O.length an/\J_ 8=jV (↑O.length:Int)/\PHeap.Le U U_/\sW w U U_ [] w_) bb ?_ ?_ ?_
 exact ⟨U,Z,Z,Z,Z,(zQ _),hS⟩
 rintro k2 ⟨⟩ bA J7 W8 ai ⟨aM,ag,au,av,ax,ak,az⟩ aK a9
 try dsimp only at aK
 have aq:Hid ((↑k2:Int) < (↑O.length:Int)):=zM (wBQ ai)
 replace ai:=zM ai
 have bc:Hid (w64 ((↑k2:Int) + 1)=(↑(k2 + 1):Int)):=zM (by have h1:=aj.out;have h2:=aq.out;rw [wAY] <;> omega)
 refine sR fL1 Z (oR Z (ze Z ag ax) (eN (zJ (cT Z aq (kN (zJ (zX (sR gBd Z (bnK aK fun aa ay bd=>?_)))))))))
 have aU:=a7.le ak
 have q:=aU.el (fun _=>rfl) (wAb ay)
 obtain ⟨br,bv,aX,aY⟩:=q
 refine oR Z (ZZ Z av aX ag Za Zz (wCc ay)) (oL Z (az.ldCA (f:=0) aY Z Z Tryz.isAgg112 Zz (us:=[jV aa.Offset.Lo,jV aa.Offset.Hi,jV aa.Error]) Z Z) (zU (cs:=[jV 0,jV 0,jV 0]) Z Z Z Z Z Tryz.zeroValue112 Z az ?_))
 intro bo ap aZ
 let B0:List Value:=[jV aa.Offset.Lo,jV aa.Offset.Hi,jV aa.Error]
 refine zY (j:=0) (vs:=B0) Z Z Z Z aZ Z Z Z Z Zz (zA Z) Z Z Z ?_
 intro aO a0
 have aH:sW w U aM [.blk ap 112 B0] aO:=a0
 refine eN (sR gBc Z (oM Z au (oL Z (aH.ldBA (j:=0) Z Z Z Tryz.isAgg112 Zz (vs:=B0) Z Z) (bnK bd fun bz aV be=>?_))))
 have aW:=a8.le ak
 refine OKS.callV (a:=aa) Z Z Z Z Z Z (zB Z zL) aH aW Z aV ?_
 rintro ae bn bx aP bi a5 ⟨rfl,rfl⟩
 have aI:sW w U ae [.blk ap 112 B0] aP:=a5
 refine oR Z (ZY Z Z) (eN (ifc be ?_ ?_))
 intro af bf
 refine zr (nC af.out) (Ze (zl (zF (rR fL2 Z (oR Z (ZP (za Z ag Z) (congrArg (jV) bc.out)) (oM Z Z (zb ?_)))))))
 have q:=hH bf
 obtain rfl:=q
 exact zF ⟨rfl,_,rfl,⟨ae,rfl,au,av,ax,(ak.trans bi),(aI.pick [] _ (by decide) rfl)⟩⟩
 intro af bg
 refine ZK (nF (af.out)) (sR fL1 Z (oA Z Z (eN (zR (zo (zT ?_))))))
 have q:=wAV bg
 obtain ⟨bj,bh,aR⟩:=q
 have q:=wCY hm ah (a9 bj aR)
 obtain rfl:=q
 refine zT (zo (zT ?_))
 have hE:=hH bh;first | subst r | cases hE
 exact ⟨rfl,_,(ZH rfl),ae,_,(aI.pick [] _ (by decide) rfl),rfl,rfl⟩
 rintro ⟨⟩ bk bp ⟨aN,aT,bs,bt,aS,bu,a6⟩ ba
 have aJ:=wDQ hm ah ba
 try dsimp only at aJ
 have aQ:Hid (¬ ((↑(((↑O.length:Int):Int) - 0).toNat:Int) < (↑O.length:Int))):=zM (wAq)
 refine sR fL1 Z (oR Z (ze Z aT aS) (eN (zJ (cF Z aQ (ZS (zf (zf (ZN (zF (sR fL1 Z (oA Z Z (eN (zR ?_)))))))))))))
 have hE:=hH aJ;first | subst r | cases hE
 exact ⟨Z,_,(ZH Z),aN,_,a6,Z,Z⟩
theorem wHg (O:wAd) (w:World) (U:PHeap) (hS:St0 w U [])  {r:Bool} (hm:wDD O=some r):Gv Tryz.prog 95 [.agg #[jV O.Offset.Lo,jV O.Offset.Hi,jV O.Error]] w (wCF w [] U (fun U_ L_ v=>v=.bool r/\L_=[])):=by
 unfold wDD at hm
 refine Gv.of Tryz.func95 Z Tryz.ntmps95 Tryz.results95 Z (sR gAf Z ?_)
 let B0:List Value:=[jV O.Offset.Lo,jV O.Offset.Hi,jV O.Error]
 refine zq (cs:=B0) rfl rfl rfl rfl rfl rfl (by rfl) hS ?_
 intro W1 b2 ai
 refine oA Z Z (eN (sR (.fl 0 (.fl 1 (.fx 2 (wLt (.fx 6 gAd .stop)) .stop))) Z (oR Z (zH Z Z yi Z zm) (oL Z (ai.ldBA (j:=0) Z Z Z Zu zm (vs:=[jV O.Offset.Lo,jV O.Offset.Hi]) Z Z) (bnK hm fun x5 h6 ay=>zC 0 Z Z Z Z (zD Z Z Tryz.call93 (zB Z (zB Z (zB Z zL))) Z) ai (fun hs=>wFj O.Offset (-36000) 36000 W1 U hs h6) (.inr Z) ?_)))))
 rintro U8 L9 aK ag aI ao ⟨rfl,rfl⟩
 have ae:sW w U U8 [.blk b2 112 B0] ag:=ao
 refine oM Z Z (ifc ay ?_ ?_)
 intro aa au
 refine zg Z Z Z (zN Z Z (congrArg nA aa.out)) (fun _=>zH Z Z yi Z zE) (zx Z Z Z (zN Z Z (congrArg nA aa.out)) (ae.ldB (j:=0) Z Z Z zK (v:=jV O.Error) Z) Z (bnK au fun aM am av=>zC 0 Z Z Z (zN Z Z (congrArg nA aa.out)) (zD Z Z yP (zB Z (zB Z (zB Z zL))) Z) ae (fun hs=>wCE O.Error 0 600 ag U8 hs am) (.inr Z) ?_))
 rintro af az aL ak aJ ap ⟨rfl,rfl⟩
 have aq:sW w U af [.blk b2 112 B0] ak:=ap
 refine oR Z (zS Z (congrArg nA aa.out) Z) (oA Z Z (eN (zR ?_)))
 have hE:=hH av;first | subst r | cases hE
 exact ⟨rfl,_,(ZH rfl),af,_,(aq.pick [] _ (by decide) rfl),rfl,rfl⟩
 intro aa ax
 refine zw Z Z Z (zO Z Z (congrArg nA (nB.2 aa.out)) Z) (zw Z Z Z (zO Z Z (congrArg nA (nB.2 aa.out)) Z) (ZA Z Z Z (zO Z Z (congrArg nA (nB.2 aa.out)) Z) (oR Z (zZ Z (congrArg nA (nB.2 aa.out)) Z) (oA Z Z (eN (zR ?_))))))
 have hE:=hH ax;first | subst r | cases hE
 exact ⟨rfl,_,(ZH rfl),U8,_,(ae.pick [] _ (by decide) rfl),rfl,rfl⟩
theorem wDW (O:List wAJ) (am:Option Addr) (an:Nat) (p1:(wAJ->Option Bool)) (ao:Value) (w:World) (U:PHeap) (hS:St0 w U []) (a7:Sl U 4 am an O.length (hD wAB O)) (a8:FnOK Tryz.prog U ao wKg wKh p1) {r:Bool} (hm:wAy O p1=some r):Gv Tryz.prog 96 [.slice am O.length an,ao] w (wCF w [] U (fun U_ L_ v=>v=.bool r/\L_=[])):=by
 unfold wAy at hm
 refine Gv.of Tryz.func96 Z Tryz.ntmps96 Tryz.results96 Z (sR fL1 Z (oA Z Z (eN (zJ (sR fL3 Z (oM Z Z (oR Z (zi Z Z ZF) (oM Z Z (eN (zX ?_))))))))))
 have q:=wCT hm
 obtain ⟨r3,ah⟩:=q
 have q:=wCS ah
 obtain ⟨aj,bb⟩:=q
 replace aj:=zM aj
 refine ya (fun k2 _ J_ w_=>∃ (U_:PHeap),J_ 9=jV (↑k2:Int)/\J_ 1=ao/\J_ 7=.slice am O.length an/\J_ 8=jV (↑O.length:Int)/\PHeap.Le U U_/\sW w U U_ [] w_) bb ?_ ?_ ?_
 exact ⟨U,Z,Z,Z,Z,(zQ _),hS⟩
 rintro k2 ⟨⟩ bA J7 W8 ai ⟨aM,ag,au,av,ax,ak,az⟩ aK a9
 try dsimp only at aK
 have aq:Hid ((↑k2:Int) < (↑O.length:Int)):=zM (wBQ ai)
 replace ai:=zM ai
 have bc:Hid (w64 ((↑k2:Int) + 1)=(↑(k2 + 1):Int)):=zM (by have h1:=aj.out;have h2:=aq.out;rw [wAY] <;> omega)
 refine sR fL1 Z (oR Z (ze Z ag ax) (eN (zJ (cT Z aq (kN (zJ (zX (sR gBd Z (bnK aK fun aa ay bd=>?_)))))))))
 have aU:=a7.le ak
 have q:=aU.el (fun _=>rfl) (wAb ay)
 obtain ⟨br,bv,aX,aY⟩:=q
 refine oR Z (ZZ Z av aX ag ZF ZW (wCc ay)) (oL Z (az.ldCA (f:=0) aY Z Z yb ZW (us:=[jV aa.Skier,jV aa.Mat,jV aa.Clock,jV aa.Time]) Z Z) (zU (cs:=[jV 0,jV 0,jV 0,jV 0]) Z Z Z Z Z yZ Z az ?_))
 intro bo ap aZ
 let B0:List Value:=[jV aa.Skier,jV aa.Mat,jV aa.Clock,jV aa.Time]
 refine zY (j:=0) (vs:=B0) Z Z Z Z aZ Z Z Z Z ZW (zA Z) Z Z Z ?_
 intro aO a0
 have aH:sW w U aM [.blk ap 115 B0] aO:=a0
 refine eN (sR gBc Z (oM Z au (oL Z (aH.ldBA (j:=0) Z Z Z yb ZW (vs:=B0) Z Z) (bnK bd fun bz aV be=>?_))))
 have aW:=a8.le ak
 refine OKS.callV (a:=aa) Z Z Z Z Z Z (zB Z zL) aH aW Z aV ?_
 rintro ae bn bx aP bi a5 ⟨rfl,rfl⟩
 have aI:sW w U ae [.blk ap 115 B0] aP:=a5
 refine oR Z (ZY Z Z) (eN (ifc be ?_ ?_))
 intro af bf
 refine zr (nC af.out) (Ze (zl (zF (rR fL2 Z (oR Z (ZP (za Z ag Z) (congrArg (jV) bc.out)) (oM Z Z (zb ?_)))))))
 have q:=hH bf
 obtain rfl:=q
 exact zF ⟨rfl,_,rfl,⟨ae,rfl,au,av,ax,(ak.trans bi),(aI.pick [] _ (by decide) rfl)⟩⟩
 intro af bg
 refine ZK (nF (af.out)) (sR fL1 Z (oA Z Z (eN (zR (zo (zT ?_))))))
 have q:=wAV bg
 obtain ⟨bj,bh,aR⟩:=q
 have q:=wCY hm ah (a9 bj aR)
 obtain rfl:=q
 refine zT (zo (zT ?_))
 have hE:=hH bh;first | subst r | cases hE
 exact ⟨rfl,_,(ZH rfl),ae,_,(aI.pick [] _ (by decide) rfl),rfl,rfl⟩
 rintro ⟨⟩ bk bp ⟨aN,aT,bs,bt,aS,bu,a6⟩ ba
 have aJ:=wDQ hm ah ba
 try dsimp only at aJ
 have aQ:Hid (¬ ((↑(((↑O.length:Int):Int) - 0).toNat:Int) < (↑O.length:Int))):=zM (wAq)
 refine sR fL1 Z (oR Z (ze Z aT aS) (eN (zJ (cF Z aQ (ZS (zf (zf (ZN (zF (sR fL1 Z (oA Z Z (eN (zR ?_)))))))))))))
 have hE:=hH aJ;first | subst r | cases hE
 exact ⟨Z,_,(ZH Z),aN,_,a6,Z,Z⟩
theorem wHh (O:wAJ) (w:World) (U:PHeap) (hS:St0 w U [])  {r:Bool} (hm:wDE O=some r):Gv Tryz.prog 97 [.agg #[jV O.Skier,jV O.Mat,jV O.Clock,jV O.Time]] w (wCF w [] U (fun U_ L_ v=>v=.bool r/\L_=[])):=by
 unfold wDE at hm
 refine Gv.of Tryz.func97 Z Tryz.ntmps97 Tryz.results97 Z (sR gAf Z ?_)
 let B0:List Value:=[jV O.Skier,jV O.Mat,jV O.Clock,jV O.Time]
 refine zq (cs:=B0) rfl rfl rfl rfl rfl rfl (by rfl) hS ?_
 intro W1 b2 ac
 refine oA Z Z (eN (sR gBc Z (oR Z (zH Z Z Zn Z zE) (oL Z (ac.ldB (j:=0) Z Z Z zK (v:=jV O.Time) Z) (bnK hm fun x5 h6 ak=>zC 0 Z Z Z Z (zD Z Z yP (zB Z (zB Z (zB Z zL))) Z) ac (fun hs=>wCE O.Time 0 360000 W1 U hs h6) (.inr Z) ?_)))))
 rintro U8 L9 ao af an ai ⟨rfl,rfl⟩
 have aj:sW w U U8 [.blk b2 115 B0] af:=ai
 refine oA Z Z (eN (zR ?_))
 have hE:=hH ak;first | subst r | cases hE
 exact ⟨rfl,_,(ZH rfl),U8,_,(aj.pick [] _ (by decide) rfl),rfl,rfl⟩
theorem wCz (O:wAA) (ae:Option Addr) (ag:Nat) (af:Option Addr) (ah:Nat) (an:Option Addr) (ap:Nat) (ao:Option Addr) (aq:Nat) (p1:wAL) (w:World) (U:PHeap) (hS:St0 w U []) (aV:Sl U 1 ae ag O.Starts.length (hD KL.encI O.Starts)) (aW:Sl U 2 af ah O.Splits.length (hD wAC O.Splits)) (aX:Sl U 3 an ap O.Clocks.length (hD wAE O.Clocks)) (aY:Sl U 4 ao aq O.Readings.length (hD wAB O.Readings)) {r:Bool} (hm:wAp O p1=some r):Gv Tryz.prog 99 [.agg #[.slice ae O.Starts.length ag,.slice af O.Splits.length ah,.slice an O.Clocks.length ap,.slice ao O.Readings.length aq],.agg #[jV p1.Skier,jV p1.Mat]] w (wCF w [] U (fun U_ L_ v=>v=.bool r/\L_=[])):=by
 unfold wAp at hm
 refine Gv.of Tryz.func99 Z Tryz.ntmps99 Tryz.results99 Z (sR gAs Z ?_)
 let B0:List Value:=[.slice ae O.Starts.length ag,.slice af O.Splits.length ah,.slice an O.Clocks.length ap,.slice ao O.Readings.length aq]
 refine zq (cs:=B0) rfl rfl rfl rfl rfl rfl (by rfl) hS ?_
 intro W1 b2 aM
 let B1:List Value:=[jV p1.Skier,jV p1.Mat]
 refine zq (cs:=B1) rfl rfl rfl rfl rfl rfl (by rfl) aM ?_
 intro W5 b6 am
 refine oA Z Z (eN (sR (wFh (.fx 6 (wKb gAt) .stop)) Z (oR Z (zH Z Z Tryz.runUnderlying29 Z zE) (oL Z (am.ldB (j:=0) Z Z Z zK (v:=jV p1.Skier) Z) (oR Z (zH Z Z zP Z zh) (oL Z (am.ldB (j:=1) Z Z Z zk (v:=.slice ae O.Starts.length ag) Z) (oR Z (zi Z Z zG) (oR Z (yf Z Z Z) (bnK hm fun x9 aI aO=>zC 0 Z Z Z Z (zD Z Z yP (zB Z (zB Z (zB Z zL))) Z) am (fun hs=>wCE p1.Skier 0 (w64 ((↑O.Starts.length:Int) - 1)) W5 U hs aI) (.inr Z) ?_)))))))))
 rintro ak aS a5 av aZ aK ⟨rfl,rfl⟩
 have ac:sW w U ak [.blk b6 29 B1,.blk b2 27 B0] av:=aK
 refine oM Z Z (ifc aO ?_ ?_)
 intro aa aP
 refine zg Z Z Z (zN Z Z (congrArg nA aa.out)) (fun _=>zH Z Z Tryz.runUnderlying29 Z zE) (zx Z Z Z (zN Z Z (congrArg nA aa.out)) (ac.ldB (j:=0) Z Z Z zK (v:=jV p1.Mat) Z) Z (zg Z Z Z (zN Z Z (congrArg nA aa.out)) (fun _=>zH Z Z zP Z Zf) (zx Z Z Z (zN Z Z (congrArg nA aa.out)) (ac.ldB (j:=1) Z Z Z Zl (v:=.slice af O.Splits.length ah) Z) Z (zg Z Z Z (zN Z Z (congrArg nA aa.out)) (fun _=>zi Z Z ZG) (bnK aP fun a7 aJ aQ=>zC 0 Z Z Z (zN Z Z (congrArg nA aa.out)) (zD Z Z yP (zB Z (zB Z (zB Z zL))) Z) ac (fun hs=>wCE p1.Mat 0 (↑O.Splits.length:Int) av ak hs aJ) (.inr Z) ?_)))))
 rintro au aT a6 az a0 aL ⟨rfl,rfl⟩
 have aN:sW w U au [.blk b6 29 B1,.blk b2 27 B0] az:=aL
 refine oR Z (zS Z (congrArg nA aa.out) Z) (oA Z Z (eN (zR ?_)))
 have hE:=hH aQ;first | subst r | cases hE
 exact ⟨rfl,_,(ZH rfl),au,_,(aN.pick [] _ (by decide) rfl),rfl,rfl⟩
 intro aa aR
 refine zw Z Z Z (zO Z Z (congrArg nA (nB.2 aa.out)) Z) (zw Z Z Z (zO Z Z (congrArg nA (nB.2 aa.out)) Z) (zw Z Z Z (zO Z Z (congrArg nA (nB.2 aa.out)) Z) (zw Z Z Z (zO Z Z (congrArg nA (nB.2 aa.out)) Z) (zw Z Z Z (zO Z Z (congrArg nA (nB.2 aa.out)) Z) (ZA Z Z Z (zO Z Z (congrArg nA (nB.2 aa.out)) Z) (oR Z (zZ Z (congrArg nA (nB.2 aa.out)) Z) (oA Z Z (eN (zR ?_)))))))))
 have hE:=hH aR;first | subst r | cases hE
 exact ⟨rfl,_,(ZH rfl),ak,_,(ac.pick [] _ (by decide) rfl),rfl,rfl⟩
end Go.Proofs.YtlnfbjphfoipaaaGreat
namespace Go.Proofs.YtlnfbjphfoipaaaGreat
open Go.KL
set_option maxHeartbeats 4000000
theorem wHi (p0:wAJ) (O:wAA) (ay:Nat) (ah:Option Addr) (ak:Nat) (ai:Option Addr) (am:Nat) (ac:Option Addr) (ae:Nat) (aj:Option Addr) (an:Nat) (w:World) (U:PHeap) (hS:St0 w U []) (ax:Cl U ay 0 [.slice ah O.Starts.length ak,.slice ai O.Splits.length am,.slice ac O.Clocks.length ae,.slice aj O.Readings.length an]) (aO:Sl U 1 ah ak O.Starts.length (hD KL.encI O.Starts)) (aP:Sl U 2 ai am O.Splits.length (hD wAC O.Splits)) (aQ:Sl U 3 ac ae O.Clocks.length (hD wAE O.Clocks)) (aR:Sl U 4 aj an O.Readings.length (hD wAB O.Readings)) {r:Bool} (hm:wDF p0 O=some r):Gv Tryz.prog 98 [.agg #[jV p0.Skier,jV p0.Mat,jV p0.Clock,jV p0.Time],.pointer (some ⟨ay,0,none⟩)] w (wCF w [] U (fun U_ L_ v=>v=.bool r/\L_=[])):=by
 unfold wDF at hm
 refine Gv.of Tryz.func98 Z Tryz.ntmps98 Tryz.results98 Z (sR gAf Z ?_)
 let B0:List Value:=[jV p0.Skier,jV p0.Mat,jV p0.Clock,jV p0.Time]
 refine zq (cs:=B0) rfl rfl rfl rfl rfl rfl (by rfl) hS ?_
 intro W1 b2 ag
 refine oA Z Z (eN (sR (wFh (.fx 6 (wLv gAu) .stop)) Z (oL Z (ag.ldCA (f:=0) ax Z Z zn zc (us:=[.slice ah O.Starts.length ak,.slice ai O.Splits.length am,.slice ac O.Clocks.length ae,.slice aj O.Readings.length an]) Z Z) (oR Z (zH Z Z Zn Z zE) (oL Z (ag.ldB (j:=0) Z Z Z zK (v:=jV p0.Skier) Z) (oR Z (zH Z Z Zn Z zE) (oL Z (ag.ldB (j:=0) Z Z Z zK (v:=jV p0.Mat) Z) (oR Z (zu (pv:=[(0,jV p0.Skier),(1,jV p0.Mat)]) (z:=[jV 0,jV 0]) (cs:=[jV p0.Skier,jV p0.Mat]) Z (wAG Z (wAG Z wAP)) yC wFX Z Z) (bnK hm fun x5 h6 aV=>zC 0 Z Z Z Z (zD Z Z Tryz.call99 (zB Z (zB Z zL)) Z) ag (fun hs=>wCz O ah ak ai am ac ae aj an (⟨p0.Skier,p0.Mat⟩:wAL) W1 U hs aO aP aQ aR h6) (.inr Z) ?_)))))))))
 rintro U8 L9 a0 au aW aL ⟨rfl,rfl⟩
 have af:sW w U U8 [.blk b2 115 B0] au:=aL
 refine oM Z Z (ifc aV ?_ ?_)
 intro ab aS
 refine zg Z Z Z (zN Z Z (congrArg nA ab.out)) (fun _=>zH Z Z Zn Z zE) (zx Z Z Z (zN Z Z (congrArg nA ab.out)) (af.ldB (j:=0) Z Z Z zK (v:=jV p0.Clock) Z) Z (zg Z Z Z (zN Z Z (congrArg nA ab.out)) (fun _=>zH Z Z zP Z yM) ?_))
 have aI:=ax.le aW
 refine zx Z Z Z (zN Z Z (congrArg nA ab.out)) (af.ldC (f:=2) aI (v:=.slice ac O.Clocks.length ae) Z Z yR Z) Z (zg Z Z Z (zN Z Z (congrArg nA ab.out)) (fun _=>zi Z Z Za) (zg Z Z Z (zN Z Z (congrArg nA ab.out)) (fun _=>yf Z Z Z) (bnK aS fun a6 aJ aT=>zC 0 Z Z Z (zN Z Z (congrArg nA ab.out)) (zD Z Z yP (zB Z (zB Z (zB Z zL))) Z) af (fun hs=>wCE p0.Clock 0 (w64 ((↑O.Clocks.length:Int) - 1)) au U8 hs aJ) (.inr Z) ?_)))
 rintro aq aX a5 aH aZ aM ⟨rfl,rfl⟩
 have aN:sW w U aq [.blk b2 115 B0] aH:=aM
 refine oR Z (zS Z (congrArg nA ab.out) Z) (oA Z Z (eN (zR ?_)))
 have hE:=hH aT;first | subst r | cases hE
 exact ⟨rfl,_,(ZH rfl),aq,_,(aN.pick [] _ (by decide) rfl),rfl,rfl⟩
 intro ab aU
 refine zw Z Z Z (zO Z Z (congrArg nA (nB.2 ab.out)) Z) (zw Z Z Z (zO Z Z (congrArg nA (nB.2 ab.out)) Z) (zw Z Z Z (zO Z Z (congrArg nA (nB.2 ab.out)) Z) (zw Z Z Z (zO Z Z (congrArg nA (nB.2 ab.out)) Z) (zw Z Z Z (zO Z Z (congrArg nA (nB.2 ab.out)) Z) (zw Z Z Z (zO Z Z (congrArg nA (nB.2 ab.out)) Z) (ZA Z Z Z (zO Z Z (congrArg nA (nB.2 ab.out)) Z) (oR Z (zZ Z (congrArg nA (nB.2 ab.out)) Z) (oA Z Z (eN (zR ?_))))))))))
 have hE:=hH aU;first | subst r | cases hE
 exact ⟨rfl,_,(ZH rfl),U8,_,(af.pick [] _ (by decide) rfl),rfl,rfl⟩
theorem wEi (O:wAA) (am:Option Addr) (ap:Nat) (an:Option Addr) (aq:Nat) (ao:Option Addr) (au:Nat) (ah:Option Addr) (ai:Nat) (w:World) (U:PHeap) (hS:St0 w U []) (cf:Sl U 1 am ap O.Starts.length (hD KL.encI O.Starts)) (cg:Sl U 2 an aq O.Splits.length (hD wAC O.Splits)) (cj:Sl U 3 ao au O.Clocks.length (hD wAE O.Clocks)) (cm:Sl U 4 ah ai O.Readings.length (hD wAB O.Readings)) {r:Int} (hm:wCu O=some r):Gv Tryz.prog 33 [.agg #[.slice am O.Starts.length ap,.slice an O.Splits.length aq,.slice ao O.Clocks.length au,.slice ah O.Readings.length ai]] w (wCF w [] U (fun U_ L_ v=>v=jV r/\L_=[])):=by
 unfold wCu at hm
 refine Gv.of Tryz.func33 Z Tryz.ntmps33 Tryz.results33 Z (sR gAf Z ?_)
 let B0:List Value:=[.slice am O.Starts.length ap,.slice an O.Splits.length aq,.slice ao O.Clocks.length au,.slice ah O.Readings.length ai]
 refine zq (cs:=B0) rfl rfl rfl rfl rfl rfl (by rfl) hS ?_
 intro W1 b2 b5
 have q:=b5.freeze (k:=0) rfl
 obtain ⟨U5,aP,ax,cd⟩:=q
 replace ax:=Cl.of ax
 have bp:sW w U U5 [] W1:=cd
 replace ax:Cl U5 b2 0 B0:=ax
 refine oA Z Z (eN (zJ (zX (sR (wDd (.fx 3 (wPF (.nil)) .stop)) Z (oR Z (zH Z Z zP Z zh) (oL Z (bp.ldC (f:=0) ax (v:=.slice am O.Starts.length ap) Z Z zk Z) (oR Z (zi Z Z zG) (bnK hm fun dd bw cp=>zC 0 Z Z Z Z (zD Z Z yP (zB Z (zB Z (zB Z zL))) Z) bp (fun hs=>wCE (↑O.Starts.length:Int) 1 8 W1 U5 hs bw) (.inr Z) ?_))))))))
 rintro ak cQ cY a8 az bZ ⟨rfl,rfl⟩
 have ag:sW w U ak [] a8:=bZ
 refine oR Z (ZY Z Z) (oM Z Z (ifc cp ?_ ?_))
 intro aa cz
 refine zg Z Z Z (zN Z Z (nC aa.out)) (fun _=>zH Z Z zP Z Zf) ?_
 have ay:=ax.le az
 refine zx Z Z Z (zN Z Z (nC aa.out)) (ag.ldC (f:=1) ay (v:=.slice an O.Splits.length aq) Z Z Zl Z) Z (zg Z Z Z (zN Z Z (nC aa.out)) (fun _=>zi Z Z ZG) (zg Z Z Z (zN Z Z (nC aa.out)) (fun _=>yQ Z Z Z) (oR Z (zZ Z (nC aa.out) Z) (oM Z Z (ifc cz ?_ ?_)))))
 intro ab cA
 refine oT Z ab (oT Z ab (oT Z ab (oT Z ab (oR Z (zS Z (Zh ab.out) Z) (oM Z Z (oN Z (oN Z (oN Z (oN Z (oR Z (zS Z Z Z) (oA Z Z (eN (ZK Z (sR fL1 Z (oA Z Z (eN (zR (zo (zT ?_)))))))))))))))))))
 cases cA
 exact ⟨Z,_,(ZH Z),ak,_,ag,Z,Z⟩
 intro ab cC
 refine rU Z (wF Z ab) (zH Z Z zP Z yM) (zx Z Z Z (wF Z ab) (ag.ldC (f:=2) ay (v:=.slice ao O.Clocks.length au) Z Z yR Z) Z (rU Z (wF Z ab) (zi Z Z Za) (rU Z (wF Z ab) (yQ Z Z Z) (oR Z (zZ Z (ZL ab.out) Z) (oM Z Z (ifc cC ?_ ?_))))))
 intro ac cD
 refine oT Z ac (oT Z ac (oT Z ac (oT Z ac (oR Z (zS Z (Zh ac.out) Z) (oA Z Z (eN (ZK Z (sR fL1 Z (oA Z Z (eN (zR (zo (zT ?_)))))))))))))
 cases cD
 exact ⟨Z,_,(ZH Z),ak,_,ag,Z,Z⟩
 intro ac cE
 refine rU Z (wF Z ac) (zH Z Z zP Z Zk) (zx Z Z Z (wF Z ac) (ag.ldC (f:=3) ay (v:=.slice ah O.Readings.length ai) Z Z Zr Z) Z (rU Z (wF Z ac) (zi Z Z ZF) (rU Z (wF Z ac) (yQ Z Z Z) (oR Z (zZ Z (ZL ac.out) Z) (oA Z Z (eN (ifc cE ?_ ?_)))))))
 intro aU cG
 refine cT Z aU (sR fL1 Z (oA Z Z (eN (zR (zo (zT ?_))))))
 cases cG
 exact ⟨Z,_,(ZH Z),ak,_,ag,Z,Z⟩
 intro aU cH
 refine cF Z aU (sR (.fl 0 (.fl 1 (.fx 2 (wMZ (.fx 7 (wNA (.nil)) .stop)) .stop))) Z (oR Z (zH Z Z zP Z zh) (oL Z (ag.ldC (f:=0) ay (v:=.slice am O.Starts.length ap) Z Z zk Z) ?_)))
 have bE:=cf.le aP
 have bf:=bE.le az
 have bT:FnOK Tryz.prog ak (.func (.func 90) #[] #[]) wOQ wOR wDA:=⟨90,[],[],rfl,Tryz.call90,fun U1 w1 x y vs le hs ha hm=>by obtain rfl:=ha;exact wHe x w1 U1 hs  hm⟩
 refine bnK cH fun df bF cI=>zC 0 Z Z Z Z (zD Z Z Tryz.call89 (zB Z (zB Z zL)) Z) ag (fun hs=>wGh O.Starts am ap wDA (.func (.func 90) #[] #[]) a8 ak hs bf bT bF) (.inr Z) ?_
 rintro aL cR cZ a9 aH ca ⟨rfl,rfl⟩
 have aZ:sW w U aL [] a9:=ca
 refine oR Z (ZY Z Z) (oM Z Z (ifc cI ?_ ?_))
 intro ae cJ
 refine zg Z Z Z (zN Z Z (nC ae.out)) (fun _=>zH Z Z zP Z Zf) ?_
 have bg:=ay.le aH
 refine zx Z Z Z (zN Z Z (nC ae.out)) (aZ.ldC (f:=1) bg (v:=.slice an O.Splits.length aq) Z Z Zl Z) Z ?_
 have bG:=cg.le aP
 have bH:=bG.le az
 have bh:=bH.le aH
 have bU:FnOK Tryz.prog aL (.func (.func 92) #[] #[]) wOS wOT wDC:=⟨92,[],[],rfl,Tryz.call92,fun U1 w1 x y vs le hs ha hm=>by obtain rfl:=ha;exact wHf x w1 U1 hs  hm⟩
 refine bnK cJ fun dg bI cK=>zC 0 Z Z Z (zN Z Z (nC ae.out)) (zD Z Z Tryz.call91 (zB Z (zB Z zL)) Z) aZ (fun hs=>wFF O.Splits an aq wDC (.func (.func 92) #[] #[]) a9 aL hs bh bU bI) (.inr Z) ?_
 rintro aM cS c6 ba aI cb ⟨rfl,rfl⟩
 have a0:sW w U aM [] ba:=cb
 refine zg Z Z Z (zN Z Z (nC ae.out)) (fun _=>ZY Z Z) (oR Z (zZ Z (nC ae.out) Z) (oA Z Z (eN (ifc cK ?_ ?_))))
 intro aV cL
 refine zr (nC aV.out) (sR gBl Z (oR Z (zH Z Z zP Z yM) ?_))
 have bi:=bg.le aI
 refine oL Z (a0.ldC (f:=2) bi (v:=.slice ao O.Clocks.length au) Z Z yR Z) ?_
 have bJ:=cj.le aP
 have bK:=bJ.le az
 have bL:=bK.le aH
 have bj:=bL.le aI
 have bV:FnOK Tryz.prog aM (.func (.func 95) #[] #[]) wOU wOV wDD:=⟨95,[],[],rfl,Tryz.call95,fun U1 w1 x y vs le hs ha hm=>by obtain rfl:=ha;exact wHg x w1 U1 hs  hm⟩
 refine bnK cL fun dh bM cM=>zC 0 Z Z Z Z (zD Z Z Tryz.call94 (zB Z (zB Z zL)) Z) a0 (fun hs=>wEt O.Clocks ao au wDD (.func (.func 95) #[] #[]) ba aM hs bj bV bM) (.inr Z) ?_
 rintro aN cU da bb aJ cc ⟨rfl,rfl⟩
 have a5:sW w U aN [] bb:=cc
 refine oR Z (ZY Z Z) (oA Z Z (eN (ifc cM ?_ ?_)))
 intro aW cN
 refine zr (nC aW.out) (zJ (yt fun bq bn=>?_))
 have aX:bq 1=.pointer (some ⟨b2,0,none⟩):=(bn 1).trans rfl
 clear bn
 refine rR gBl Z (oR Z (zH Z aX zP Z Zk) ?_)
 have bk:=bi.le aJ
 refine oL Z (a5.ldC (f:=3) bk (v:=.slice ah O.Readings.length ai) Z Z Zr Z) ?_
 have bN:=cm.le aP
 have bO:=bN.le az
 have bP:=bO.le aH
 have bQ:=bP.le aI
 have bm:=bQ.le aJ
 have bW:FnOK Tryz.prog aN (.func (.func 97) #[] #[]) wKg wKh wDE:=⟨97,[],[],rfl,Tryz.call97,fun U1 w1 x y vs le hs ha hm=>by obtain rfl:=ha;exact wHh x w1 U1 hs  hm⟩
 refine bnK cN fun di bR cO=>zC 0 Z Z Z Z (zD Z Z Tryz.call96 (zB Z (zB Z zL)) Z) a5 (fun hs=>wDW O.Readings ah ai wDE (.func (.func 97) #[] #[]) bb aN hs bm bW bR) (.inr Z) ?_
 rintro aO cV db bc aK bX ⟨rfl,rfl⟩
 have aY:sW w U aO [] bc:=bX
 refine oR Z (ZY Z Z) (oA Z Z (eN (ifc cO ?_ ?_)))
 intro aS cn
 refine zr (nC aS.out) (sR (wDd (.fx 3 gAc .stop)) Z (oR Z (zH Z aX zP Z Zk) ?_))
 have bd:=bk.le aK
 refine oL Z (aY.ldC (f:=3) bd (v:=.slice ah O.Readings.length ai) Z Z Zr Z) (oR Z (Runs.mkf Z zL (zB aX zL)) ?_)
 have be:=bm.le aK
 have bs:=bf.le aH
 have bt:=bs.le aI
 have bu:=bt.le aJ
 have bv:=bu.le aK
 have bx:=bh.le aI
 have bz:=bx.le aJ
 have bA:=bz.le aK
 have bB:=bj.le aJ
 have bC:=bB.le aK
 have bS:FnOK Tryz.prog aO (.func (.func 98) #[] #[.pointer (some ⟨b2,0,none⟩)]) wKg wKh (fun x=>wDF x O):=⟨98,[],[.pointer (some ⟨b2,0,none⟩)],rfl,Tryz.call98,fun U1 w1 x y vs le hs ha hm=>by obtain rfl:=ha;exact wHi x O b2 am ap an aq ao au ah ai w1 U1 hs (bd.le le) (bv.le le) (bA.le le) (bC.le le) (be.le le) hm⟩
 refine bnK cn fun de bD co=>zC 0 Z Z Z Z (zD Z Z Tryz.call96 (zB Z (zB Z zL)) Z) aY (fun hs=>wDW O.Readings ah ai (fun x=>wDF x O) (.func (.func 98) #[] #[.pointer (some ⟨b2,0,none⟩)]) bc aO hs be bS bD) (.inr Z) ?_
 rintro aQ cP cX br cW bY ⟨rfl,rfl⟩
 have bo:sW w U aQ [] br:=bY
 refine oR Z (ZY Z Z) (oA Z Z (eN (ifc co ?_ ?_)))
 intro aT cq
 refine zr (nC aT.out) (Ze (zl (zF (sR fL1 Z (oA Z Z (eN (zR ?_)))))))
 cases cq
 exact ⟨Z,_,(ZH Z),aQ,_,bo,Z,Z⟩
 intro aT cr
 refine ZK (nF (aT.out)) (sR fL1 Z (oA Z Z (eN (zR (zo (zT ?_))))))
 cases cr
 exact ⟨Z,_,(ZH Z),aQ,_,bo,Z,Z⟩
 intro aS ct
 refine ZK (nF (aS.out)) (sR fL1 Z (oA Z Z (eN (zR (zo (zT ?_))))))
 cases ct
 exact ⟨Z,_,(ZH Z),aO,_,aY,Z,Z⟩
 intro aW cu
 refine ZK (nF (aW.out)) (sR fL1 Z (oA Z Z (eN (zR (zo (zT ?_))))))
 cases cu
 exact ⟨Z,_,(ZH Z),aN,_,a5,Z,Z⟩
 intro aV cw
 refine ZK (nF (aV.out)) (sR fL1 Z (oA Z Z (eN (zR (zo (zT ?_))))))
 cases cw
 exact ⟨Z,_,(ZH Z),aM,_,a0,Z,Z⟩
 intro ae cx
 refine zw Z Z Z (zO Z Z (nF (ae.out)) Z) (zw Z Z Z (zO Z Z (nF (ae.out)) Z) (ZA Z Z Z (zO Z Z (nF (ae.out)) Z) (zw Z Z Z (zO Z Z (nF (ae.out)) Z) (oR Z (zS Z (nF (ae.out)) Z) (oA Z Z (eN (ZK Z (sR fL1 Z (oA Z Z (eN (zR (zo (zT ?_)))))))))))))
 cases cx
 exact ⟨Z,_,(ZH Z),aL,_,aZ,Z,Z⟩
 intro aa cy
 refine zw Z Z Z (zO Z Z (nF (aa.out)) Z) (zw Z Z Z (zO Z Z (nF (aa.out)) Z) (zw Z Z Z (zO Z Z (nF (aa.out)) Z) (zw Z Z Z (zO Z Z (nF (aa.out)) Z) (oR Z (zS Z (nF (aa.out)) Z) (oM Z Z (oN Z (oN Z (oN Z (oN Z (oR Z (zS Z Z Z) (oM Z Z (oN Z (oN Z (oN Z (oN Z (oR Z (zS Z Z Z) (oA Z Z (eN (ZK Z (sR fL1 Z (oA Z Z (eN (zR (zo (zT ?_)))))))))))))))))))))))))
 cases cy
 exact ⟨Z,_,(ZH Z),ak,_,ag,Z,Z⟩
theorem wAw  (w:World) (U:PHeap) (hS:St0 w U [])  {r:wAI} (hm:wBt =some r):Gv Tryz.prog 65 [] w (wCF w [] U (fun U_ L_ v=>v=.agg #[jV r.skier,jV r.mat]/\L_=[])):=by
 unfold wBt at hm
 refine Gv.of Tryz.func65 Z Tryz.ntmps65 Tryz.results65 Z (sR (.fx 0 .nil .stop) Z (zU (cs:=[jV 0,jV 0]) Z Z Z Z Z zd Z hS ?_))
 intro W1 b2 ae
 refine eN (sR gAi Z ?_)
 let O:List Value:=[jV (-1),jV 0]
 refine oR Z (zu (pv:=[(0,jV (-1)),(1,jV 0)]) (z:=[jV 0,jV 0]) (cs:=O) Z (wAG Z (wAG Z wAP)) zd wBg Z Z) (zY (j:=0) (vs:=O) Z Z Z Z ae Z Z Z Z zI (zA Z) Z Z Z ?_)
 intro W5 af
 have aa:sW w U U [.blk b2 123 O] W5:=af
 refine eN (zR ?_)
 cases hm
 exact ⟨rfl,_,(wGy (v:=.agg O.toArray) ⟨⟨_,rfl,(wBF zj zI (aa.blkAt (k:=0) rfl) (vs:=O) rfl rfl)⟩,trivial⟩),U,_,(aa.pick [] _ (by decide) rfl),rfl,rfl⟩
theorem wFu {S E:Type} (PY:S->PHeap->List Res->Prop) (PE:E->PHeap->List Res->Prop) (f:S->wAH->Option (S ⊕ E)) (y:Nat) (s0:S) (O:wAA) (ai:Nat) (bF:Option Addr) (bJ:Nat) (bG:Option Addr) (bK:Nat) (bH:Option Addr) (bL:Nat) (bI:Option Addr) (bM:Nat) (w:World) (L:List Res) (U:PHeap) (hS:St ⟨w,L,U⟩ U L w) (hP:PY s0 U L) (hY:YOK Tryz.prog y wMD PY PE f U) (aP:Cl U ai 0 [.slice bF O.Starts.length bJ,.slice bG O.Splits.length bK,.slice bH O.Clocks.length bL,.slice bI O.Readings.length bM]) (iP:Sl U 1 bF bJ O.Starts.length (hD KL.encI O.Starts)) (iQ:Sl U 2 bG bK O.Splits.length (hD wAC O.Splits)) (iR:Sl U 3 bH bL O.Clocks.length (hD wAE O.Clocks)) (iS:Sl U 4 bI bM O.Readings.length (hD wAB O.Readings)) {r:S ⊕ E} (hm:wCU f s0 O=some r):Gv Tryz.prog 126 [.func (.yield y) #[] #[],.pointer (some ⟨ai,0,none⟩)] w (ItS w L U PY PE r):=by
 unfold wCU at hm
 refine Gv.of Tryz.func126 Z Tryz.ntmps126 Tryz.results126 Z (sR fL11 Z (oR Z (zH Z Z zP Z Zf) (oL Z (hS.ldC (f:=1) aP (v:=.slice bG O.Splits.length bK) Z Z Zl Z) (oR Z (zi Z Z ZG) (oR Z (zH Z Z zP Z yM) (oL Z (hS.ldC (f:=2) aP (v:=.slice bH O.Clocks.length bL) Z Z yR Z) (oR Z (zi Z Z Za) (oR Z (zH Z Z zP Z Zk) (oL Z (hS.ldC (f:=3) aP (v:=.slice bI O.Readings.length bM) Z Z Zr Z) (oR Z (zi Z Z ZF) ?_))))))))))
 let B0:List Value:=[jV 1,jV (↑O.Splits.length:Int),jV (↑O.Clocks.length:Int),jV (↑O.Readings.length:Int)]
 refine oR Z (Runs.buildA (pv:=[(0,jV 1),(1,jV (↑O.Splits.length:Int)),(2,jV (↑O.Clocks.length:Int)),(3,jV (↑O.Readings.length:Int))]) (z:=[jV 0,jV 0,jV 0,jV 0]) (cs:=B0) Z (wAG Z (wAG Z (wAG Z (wAG Z wAP)))) Tryz.zeroValue195 Tryz.runUnderlying195 zE Z Z) (oM Z Z (eN (zX ?_)))
 have q:=wCT hm
 obtain ⟨iV,am⟩:=q
 have q:=wCS am
 obtain ⟨bw,fL⟩:=q
 replace bw:=zM bw
 refine ya (fun aa cR J_ w_=>∃ (U_:PHeap) (ao:List Res),J_ 18=jV (↑aa:Int)/\J_ 0=.func (.yield y) #[] #[]/\J_ 1=.pointer (some ⟨ai,0,none⟩)/\J_ 17=.agg B0.toArray/\PHeap.Le U U_/\St ⟨w,L,U⟩ U_ ao w_/\PY cR U_ ao) fL ?_ ?_ ?_
 exact ⟨U,L,Z,Z,Z,Z,(zQ _),hS,hP⟩
 rintro aa cR i2 g8 ir br ⟨a8,ao,aq,cf,be,bf,ak,bp,cw⟩ gx aQ
 have ca:Hid ((↑aa:Int) < 4):=zM (wBQ br)
 replace br:=zM br
 have cJ:Hid (w64 ((↑aa:Int) + 1)=(↑(aa + 1):Int)):=zM (by have h1:=bw.out;have h2:=ca.out;rw [wAY] <;> omega)
 refine sR fL1 Z (oR Z (ze Z aq Z) (eN (zJ (cT Z ca (kN (zJ (zX (sR fL4 Z (oM Z aq (bnK gx fun ae bo ga=>oR Z (yn (cs:=hD KL.encI ([1,(↑O.Splits.length:Int),(↑O.Clocks.length:Int),(↑O.Readings.length:Int)]:List Int)) Z bf aq Tryz.runUnderlying195 zE (wBp bo) (wBx bo) (wFI zK (wEs (sz:=1) (fun _=>Z) _ _ 0 _ _ (wAb bo) Z))) (oA Z Z (oA Z Z (eN (sR fL4 Z (oR Z (zH Z be zP Z zh) ?_)))))))))))))))
 have e8:=aP.le ak
 refine oL Z (bp.ldC (f:=0) e8 (v:=.slice bF O.Starts.length bJ) Z Z zk Z) (oR Z (zi Z Z zG) (oA Z Z (eN (zJ ?_))))
 have q:=bnd ga
 obtain ⟨⟨dg,gJ⟩,cN,cK⟩:=q
 try dsimp only at cK
 refine yX (fun J_ w_=>∃ (U_:PHeap) (ap:List Res),J_ 0=.func (.yield y) #[] #[]/\J_ 1=.pointer (some ⟨ai,0,none⟩)/\J_ 3=jV (↑aa:Int)/\J_ 4=jV ae/\J_ 5=jV (↑O.Starts.length:Int)/\J_ 17=.agg B0.toArray/\J_ 18=jV (↑aa:Int)/\J_ 30=.bool dg/\PHeap.Le a8 U_/\St ⟨w,L,U⟩ U_ ap w_/\PY gJ U_ ap) ?_ ?_
 refine rR fL6 Z (oM Z Z (oR Z (yV Z Z Z) (oM Z Z ?_)))
 by_cases af:(↑aa:Int)=2
 have cL:=cN;rw [if_pos af] at cL;replace af:=zM af
 refine oT Z af (oT Z af (oR Z (zS Z (Zh af.out) Z) (zb ?_)))
 cases cL
 exact zF ⟨Z,⟨a8,ao,cf,be,Z,Z,Z,bf,aq,Z,(zQ _),bp,cw⟩⟩
 have cM:=cN;rw [if_neg af] at cM;replace af:=zM af
 refine ZE Z Z Z (wF Z af) Z Z (rU Z (wF Z af) (yV Z Z Z) (oR Z (zZ Z (ZL af.out) Z) (zb ?_)))
 cases cM
 exact zF ⟨Z,⟨a8,ao,cf,be,Z,Z,Z,bf,aq,Z,(zQ _),bp,cw⟩⟩
 rintro ik iA ⟨az,ap,cj,cm,cn,co,eC,cp,cq,cr,an,cD,cx⟩
 refine ifc cK ?_ ?_
 intro ba aW
 refine ZK (cr.trans (congrArg nA ba.out)) (rR fL1 Z (oA Z Z (eN (sR fL2 Z (oM Z Z (oM Z Z (eN (zX ?_))))))))
 have q:=wCT aW
 obtain ⟨iY,aO⟩:=q
 have q:=wCS aO
 obtain ⟨bA,fO⟩:=q
 replace bA:=zM bA
 refine ya (fun ac cW J_ w_=>∃ (U_:PHeap) (av:List Res),J_ 32=jV (↑ac:Int)/\J_ 0=.func (.yield y) #[] #[]/\J_ 1=.pointer (some ⟨ai,0,none⟩)/\J_ 3=jV (↑aa:Int)/\J_ 4=jV ae/\J_ 17=.agg B0.toArray/\J_ 18=jV (↑aa:Int)/\J_ 31=jV 1/\PHeap.Le az U_/\St ⟨w,L,U⟩ U_ av w_/\PY cW U_ av) fO ?_ ?_ ?_
 exact ⟨az,ap,Z,cj,cm,cn,co,cp,cq,Z,(zQ _),cD,cx⟩
 rintro ac cW i8 il iB bu ⟨bS,av,bn,eD,eE,eF,ct,eG,eH,cu,bE,fD,eO⟩ aY cI
 have bX:Hid ((↑ac:Int) < 1):=zM (wBQ bu)
 replace bu:=zM bu
 have fP:Hid (w64 ((↑ac:Int) + 1)=(↑(ac + 1):Int)):=zM (by have h1:=bA.out;have h2:=bX.out;rw [wAY] <;> omega)
 refine sR fL1 Z (oR Z (ze Z bn cu) (eN (zJ (cT Z bX (kN (zJ (zX (sR fL2 Z (oM Z bn (oA Z Z (eN (sR fL2 Z (oM Z ct (oM Z Z (eN (zX ?_))))))))))))))))
 have q:=wCT aY
 obtain ⟨iU,aL⟩:=q
 have q:=wCS aL
 obtain ⟨bv,fK⟩:=q
 replace bv:=zM bv
 refine ya (fun ag cS J_ w_=>∃ (U_:PHeap) (aZ:List Res),J_ 36=jV (↑ag:Int)/\J_ 0=.func (.yield y) #[] #[]/\J_ 1=.pointer (some ⟨ai,0,none⟩)/\J_ 3=jV (↑aa:Int)/\J_ 4=jV ae/\J_ 6=jV (↑ac:Int)/\J_ 17=.agg B0.toArray/\J_ 18=jV (↑aa:Int)/\J_ 31=jV 1/\J_ 32=jV (↑ac:Int)/\J_ 35=jV ae/\PHeap.Le bS U_/\St ⟨w,L,U⟩ U_ aZ w_/\PY cS U_ aZ) fK ?_ ?_ ?_
 exact ⟨bS,av,Z,eD,eE,eF,ct,Z,eG,eH,cu,bn,Z,(zQ _),fD,eO⟩
 rintro ag cS iZ g7 iq bq ⟨io,aZ,bj,bb,dC,bc,dD,bd,dE,dF,dG,dH,cb,bB,fd,eP⟩ gw cE
 have bY:Hid ((↑ag:Int) < ae):=zM (wBQ bq)
 replace bq:=zM bq
 have fQ:Hid (w64 ((↑ag:Int) + 1)=(↑(ag + 1):Int)):=zM (by have h1:=bv.out;have h2:=bY.out;rw [wAY] <;> omega)
 refine sR fL1 Z (oR Z (ze Z bj cb) (eN (zJ (cT Z bY (kN (zJ (zX (sR fL2 Z (oM Z bj (oA Z Z (eN (sR (wHD (.fx 5 (wMy gAt) .stop)) Z (oM Z bb (oM Z bc (oM Z bd (oM Z Z ?_))))))))))))))))
 let B1:List Value:=[jV 0,jV 0,jV 0,.bool false]
 refine oR Z (zu (pv:=[(0,jV (↑aa:Int)),(1,jV (↑ac:Int)),(2,jV (↑ag:Int)),(3,.bool true)]) (z:=B1) (cs:=[jV (↑aa:Int),jV (↑ac:Int),jV (↑ag:Int),.bool true]) Z (wAG Z (wAG Z (wAG Z (wAG Z wAP)))) Zw wED Z Z) (bnK gw fun gW eQ aR=>OKS.yieldT 0 (a:=(⟨(↑aa:Int),(↑ac:Int),(↑ag:Int),true⟩:wAH)) Z Z Z Z Z Z (zB Z zL) fd hY (((ak.trans an).trans bE).trans bB) eP Z eQ Z ?_)
 rintro a7 bP iC bT cO cy aH
 rcases gW with gF | gF
 try dsimp only at aR aH
 obtain ⟨rfl,gj⟩:=aH
 have ff:St ⟨w,L,U⟩ a7 bP bT:=cy
 refine oR Z (ZY Z Z) (oM Z Z (ZE Z Z Z (zN Z Z Z) Z bb (ZE Z Z Z (zN Z Z Z) Z bc (ZE Z Z Z (zN Z Z Z) Z bd (ZE Z Z Z (zN Z Z Z) Z Z (zg Z Z Z (zN Z Z Z) (fun _=>zu (pv:=[(0,jV (↑aa:Int)),(1,jV (↑ac:Int)),(2,jV (↑ag:Int)),(3,.bool false)]) (z:=B1) (cs:=[jV (↑aa:Int),jV (↑ac:Int),jV (↑ag:Int),.bool false]) Z (wAG Z (wAG Z (wAG Z (wAG Z wAP)))) Zw wED Z Z) (bnK aR fun gX eR aS=>OKS.yieldT 0 (a:=(⟨(↑aa:Int),(↑ac:Int),(↑ag:Int),false⟩:wAH)) Z Z Z (zN Z Z Z) Z Z (zB Z zL) ff hY ((((ak.trans an).trans bE).trans bB).trans cO) gj Z eR Z ?_)))))))
 rintro ax a0 iD bU gz cz aI
 rcases gX with gG | gG
 try dsimp only at aS aI
 obtain ⟨rfl,gk⟩:=aI
 have fg:St ⟨w,L,U⟩ ax a0 bU:=cz
 refine zg Z Z Z (zN Z Z Z) (fun _=>ZY Z Z) (oR Z (zZ Z Z Z) (eN (zr Z (Ze (zl (zF (rR fL2 Z (oR Z (ZP (za Z bj Z) (congrArg (jV) fQ.out)) (oM Z Z (zb ?_))))))))))
 have q:=hH aS
 obtain rfl:=q
 exact zF ⟨Z,_,Z,⟨ax,a0,Z,bb,dC,bc,dD,bd,dE,dF,dG,dH,cb,((bB.trans cO).trans gz),fg,gk⟩⟩
 try dsimp only at aS aI
 obtain ⟨rfl,gm⟩:=aI
 have fh:St ⟨w,L,U⟩ ax a0 bU:=cz
 refine zg Z Z Z (zN Z Z Z) (fun _=>ZY Z Z) (oR Z (zZ Z Z Z) (eN (ZK Z (zR (zo (zT ?_))))))
 have q:=wAV aS
 obtain ⟨gK,fT,dp⟩:=q
 have q:=wCY aY aL (cE gK dp)
 obtain rfl:=q
 refine zT (zo (zo (zT ?_)))
 have q:=wAV fT
 obtain ⟨gL,fU,dq⟩:=q
 have q:=wCY aW aO (cI gL dq)
 obtain rfl:=q
 refine zT (zo (zo (zT ?_)))
 have q:=wAV fU
 obtain ⟨gM,fV,dr⟩:=q
 have q:=wCY hm am (aQ gM dr)
 obtain rfl:=q
 refine zT (zo ?_)
 cases fV
 exact ⟨Z,_,(wNw),ax,_,fh,gm⟩
 try dsimp only at aR aH
 obtain ⟨rfl,gp⟩:=aH
 have fj:St ⟨w,L,U⟩ a7 bP bT:=cy
 refine oR Z (ZY Z Z) (oM Z Z (oN Z (oN Z (oN Z (oN Z (oN Z (ZA Z Z Z (zO Z Z Z Z) (oN Z (oR Z (zS Z Z Z) (eN (ZK Z (zR (zo (zT ?_))))))))))))))
 have q:=wAV aR
 obtain ⟨gN,fW,dt⟩:=q
 have q:=wCY aY aL (cE gN dt)
 obtain rfl:=q
 refine zT (zo (zo (zT ?_)))
 have q:=wAV fW
 obtain ⟨gO,fY,du⟩:=q
 have q:=wCY aW aO (cI gO du)
 obtain rfl:=q
 refine zT (zo (zo (zT ?_)))
 have q:=wAV fY
 obtain ⟨gP,fZ,dv⟩:=q
 have q:=wCY hm am (aQ gP dv)
 obtain rfl:=q
 refine zT (zo ?_)
 cases fZ
 exact ⟨Z,_,(wNw),a7,_,fj,gp⟩
 rintro i9 g9 it ⟨da,cX,eI,dI,dJ,dK,dL,iG,dM,dN,dO,dP,dQ,gA,fk,eS⟩ fE
 have f5:=wDQ aY aL fE
 have dh:Hid (¬ ((↑((ae:Int) - 0).toNat:Int) < ae)):=zM (wAq)
 refine sR fL1 Z (oR Z (ze Z eI dQ) (eN (zJ (cF Z dh (ZS (zf (zf (ZN (zl (zF (rR fL2 Z (oR Z (ZP (za Z dP Z) (congrArg (jV) fP.out)) (oM Z Z (zb ?_))))))))))))))
 have q:=hH f5
 obtain rfl:=q
 exact zF ⟨Z,_,Z,⟨da,cX,Z,dI,dJ,dK,dL,dM,dN,dO,(bE.trans gA),fk,eS⟩⟩
 rintro ja ib iu ⟨db,cY,eJ,dR,dS,iH,iI,dT,dU,dV,gB,fm,eU⟩ fG
 have f6:=wDQ aW aO fG
 have di:Hid (¬ ((↑((1:Int) - 0).toNat:Int) < 1)):=zM (wAq)
 refine sR fL1 Z (oR Z (ze Z eJ dV) (eN (zJ (cF Z di (ZS (zf (zf (ZN (zl (zF (rR fL2 Z (oR Z (ZP (za Z dU Z) (congrArg (jV) cJ.out)) (oM Z Z (zb ?_))))))))))))))
 have q:=hH f6
 obtain rfl:=q
 exact zF ⟨Z,_,Z,⟨db,cY,Z,dR,dS,dT,((ak.trans an).trans gB),fm,eU⟩⟩
 intro ba aT
 refine zr (cr.trans (congrArg nA (nB.2 ba.out))) (kN (sR fL2 Z (oM Z eC (oM Z Z (eN (zX ?_))))))
 have q:=wCT aT
 obtain ⟨iW,aM⟩:=q
 have q:=wCS aM
 obtain ⟨bx,fM⟩:=q
 replace bx:=zM bx
 refine ya (fun ab cU J_ w_=>∃ (U_:PHeap) (au:List Res),J_ 32=jV (↑ab:Int)/\J_ 0=.func (.yield y) #[] #[]/\J_ 1=.pointer (some ⟨ai,0,none⟩)/\J_ 3=jV (↑aa:Int)/\J_ 4=jV ae/\J_ 17=.agg B0.toArray/\J_ 18=jV (↑aa:Int)/\J_ 31=jV (↑O.Starts.length:Int)/\PHeap.Le az U_/\St ⟨w,L,U⟩ U_ au w_/\PY cU U_ au) fM ?_ ?_ ?_
 exact ⟨az,ap,Z,cj,cm,cn,co,cp,cq,Z,(zQ _),cD,cx⟩
 rintro ab cU i4 ic iv bs ⟨bR,au,bk,dW,dX,dY,cc,dZ,d3,cd,bC,fq,eV⟩ aX cG
 have bZ:Hid ((↑ab:Int) < (↑O.Starts.length:Int)):=zM (wBQ bs)
 replace bs:=zM bs
 have fR:Hid (w64 ((↑ab:Int) + 1)=(↑(ab + 1):Int)):=zM (by have h1:=bx.out;have h2:=bZ.out;rw [wAY] <;> omega)
 refine sR fL1 Z (oR Z (ze Z bk cd) (eN (zJ (cT Z bZ (kN (zJ (zX (sR fL2 Z (oM Z bk (oA Z Z (eN (sR fL2 Z (oM Z cc (oM Z Z (eN (zX ?_))))))))))))))))
 have q:=wCT aX
 obtain ⟨iX,aN⟩:=q
 have q:=wCS aN
 obtain ⟨bz,fN⟩:=q
 replace bz:=zM bz
 refine ya (fun ah cV J_ w_=>∃ (U_:PHeap) (a5:List Res),J_ 36=jV (↑ah:Int)/\J_ 0=.func (.yield y) #[] #[]/\J_ 1=.pointer (some ⟨ai,0,none⟩)/\J_ 3=jV (↑aa:Int)/\J_ 4=jV ae/\J_ 6=jV (↑ab:Int)/\J_ 17=.agg B0.toArray/\J_ 18=jV (↑aa:Int)/\J_ 31=jV (↑O.Starts.length:Int)/\J_ 32=jV (↑ab:Int)/\J_ 35=jV ae/\PHeap.Le bR U_/\St ⟨w,L,U⟩ U_ a5 w_/\PY cV U_ a5) fN ?_ ?_ ?_
 exact ⟨bR,au,Z,dW,dX,dY,cc,Z,dZ,d3,cd,bk,Z,(zQ _),fq,eV⟩
 rintro ah cV i6 ie iw bt ⟨ip,a5,bm,bg,d4,bh,d5,bi,d6,d7,d8,d9,cg,bD,ft,eW⟩ gy cH
 have b5:Hid ((↑ah:Int) < ae):=zM (wBQ bt)
 replace bt:=zM bt
 have fS:Hid (w64 ((↑ah:Int) + 1)=(↑(ah + 1):Int)):=zM (by have h1:=bz.out;have h2:=b5.out;rw [wAY] <;> omega)
 refine sR fL1 Z (oR Z (ze Z bm cg) (eN (zJ (cT Z b5 (kN (zJ (zX (sR fL2 Z (oM Z bm (oA Z Z (eN (sR (wHD (.fx 5 (wMy gAt) .stop)) Z (oM Z bg (oM Z bh (oM Z bi (oM Z Z ?_))))))))))))))))
 let B2:List Value:=[jV 0,jV 0,jV 0,.bool false]
 refine oR Z (zu (pv:=[(0,jV (↑aa:Int)),(1,jV (↑ab:Int)),(2,jV (↑ah:Int)),(3,.bool true)]) (z:=B2) (cs:=[jV (↑aa:Int),jV (↑ab:Int),jV (↑ah:Int),.bool true]) Z (wAG Z (wAG Z (wAG Z (wAG Z wAP)))) Zw wED Z Z) (bnK gy fun gY eZ aU=>OKS.yieldT 0 (a:=(⟨(↑aa:Int),(↑ab:Int),(↑ah:Int),true⟩:wAH)) Z Z Z Z Z Z (zB Z zL) ft hY (((ak.trans an).trans bC).trans bD) eW Z eZ Z ?_)
 rintro a9 bQ iE bV cP cA aJ
 rcases gY with gH | gH
 try dsimp only at aU aJ
 obtain ⟨rfl,gq⟩:=aJ
 have fu:St ⟨w,L,U⟩ a9 bQ bV:=cA
 refine oR Z (ZY Z Z) (oM Z Z (ZE Z Z Z (zN Z Z Z) Z bg (ZE Z Z Z (zN Z Z Z) Z bh (ZE Z Z Z (zN Z Z Z) Z bi (ZE Z Z Z (zN Z Z Z) Z Z (zg Z Z Z (zN Z Z Z) (fun _=>zu (pv:=[(0,jV (↑aa:Int)),(1,jV (↑ab:Int)),(2,jV (↑ah:Int)),(3,.bool false)]) (z:=B2) (cs:=[jV (↑aa:Int),jV (↑ab:Int),jV (↑ah:Int),.bool false]) Z (wAG Z (wAG Z (wAG Z (wAG Z wAP)))) Zw wED Z Z) (bnK aU fun gZ e6 aV=>OKS.yieldT 0 (a:=(⟨(↑aa:Int),(↑ab:Int),(↑ah:Int),false⟩:wAH)) Z Z Z (zN Z Z Z) Z Z (zB Z zL) fu hY ((((ak.trans an).trans bC).trans bD).trans cP) gq Z e6 Z ?_)))))))
 rintro ay a6 iF bW gC cC aK
 rcases gZ with gI | gI
 try dsimp only at aV aK
 obtain ⟨rfl,gt⟩:=aK
 have fw:St ⟨w,L,U⟩ ay a6 bW:=cC
 refine zg Z Z Z (zN Z Z Z) (fun _=>ZY Z Z) (oR Z (zZ Z Z Z) (eN (zr Z (Ze (zl (zF (rR fL2 Z (oR Z (ZP (za Z bm Z) (congrArg (jV) fS.out)) (oM Z Z (zb ?_))))))))))
 have q:=hH aV
 obtain rfl:=q
 exact zF ⟨Z,_,Z,⟨ay,a6,Z,bg,d4,bh,d5,bi,d6,d7,d8,d9,cg,((bD.trans cP).trans gC),fw,gt⟩⟩
 try dsimp only at aV aK
 obtain ⟨rfl,gu⟩:=aK
 have fy:St ⟨w,L,U⟩ ay a6 bW:=cC
 refine zg Z Z Z (zN Z Z Z) (fun _=>ZY Z Z) (oR Z (zZ Z Z Z) (eN (ZK Z (zR (zo (zT ?_))))))
 have q:=wAV aV
 obtain ⟨gQ,f7,dw⟩:=q
 have q:=wCY aX aN (cH gQ dw)
 obtain rfl:=q
 refine zT (zo (zo (zT ?_)))
 have q:=wAV f7
 obtain ⟨gR,f8,dx⟩:=q
 have q:=wCY aT aM (cG gR dx)
 obtain rfl:=q
 refine zT (zo (zo (zT ?_)))
 have q:=wAV f8
 obtain ⟨gS,f9,dy⟩:=q
 have q:=wCY hm am (aQ gS dy)
 obtain rfl:=q
 refine zT (zo ?_)
 cases f9
 exact ⟨Z,_,(wNw),ay,_,fy,gu⟩
 try dsimp only at aU aJ
 obtain ⟨rfl,gv⟩:=aJ
 have fz:St ⟨w,L,U⟩ a9 bQ bV:=cA
 refine oR Z (ZY Z Z) (oM Z Z (oN Z (oN Z (oN Z (oN Z (oN Z (ZA Z Z Z (zO Z Z Z Z) (oN Z (oR Z (zS Z Z Z) (eN (ZK Z (zR (zo (zT ?_))))))))))))))
 have q:=wAV aU
 obtain ⟨gT,gb,dz⟩:=q
 have q:=wCY aX aN (cH gT dz)
 obtain rfl:=q
 refine zT (zo (zo (zT ?_)))
 have q:=wAV gb
 obtain ⟨gU,ge,dA⟩:=q
 have q:=wCY aT aM (cG gU dA)
 obtain rfl:=q
 refine zT (zo (zo (zT ?_)))
 have q:=wAV ge
 obtain ⟨gV,gf,dB⟩:=q
 have q:=wCY hm am (aQ gV dB)
 obtain rfl:=q
 refine zT (zo ?_)
 cases gf
 exact ⟨Z,_,(wNw),a9,_,fz,gv⟩
 rintro jb ig ix ⟨dd,cZ,eK,ef,eg,eh,ej,iJ,ek,en,eo,ep,er,gD,fA,e9⟩ fH
 have gg:=wDQ aX aN fH
 have dk:Hid (¬ ((↑((ae:Int) - 0).toNat:Int) < ae)):=zM (wAq)
 refine sR fL1 Z (oR Z (ze Z eK er) (eN (zJ (cF Z dk (ZS (zf (zf (ZN (zl (zF (rR fL2 Z (oR Z (ZP (za Z ep Z) (congrArg (jV) fR.out)) (oM Z Z (zb ?_))))))))))))))
 have q:=hH gg
 obtain rfl:=q
 exact zF ⟨Z,_,Z,⟨dd,cZ,Z,ef,eg,eh,ej,ek,en,eo,(bC.trans gD),fA,e9⟩⟩
 rintro jc ii iy ⟨de,c6,eL,eu,ew,iK,iL,ey,eA,eB,gE,fB,fb⟩ fI
 have gh:=wDQ aT aM fI
 have dl:Hid (¬ ((↑(((↑O.Starts.length:Int):Int) - 0).toNat:Int) < (↑O.Starts.length:Int))):=zM (wAq)
 refine sR fL1 Z (oR Z (ze Z eL eB) (eN (zJ (cF Z dl (ZS (zf (zf (ZN (zl (zF (rR fL2 Z (oR Z (ZP (za Z eA Z) (congrArg (jV) cJ.out)) (oM Z Z (zb ?_))))))))))))))
 have q:=hH gh
 obtain rfl:=q
 exact zF ⟨Z,_,Z,⟨de,c6,Z,eu,ew,ey,((ak.trans an).trans gE),fB,fb⟩⟩
 rintro jd ij iz ⟨df,im,eM,iM,iN,iO,iT,fC,fc⟩ fJ
 have gi:=wDQ hm am fJ
 have dm:Hid (¬ ((↑((4:Int) - 0).toNat:Int) < 4)):=zM (wAq)
 refine sR fL1 Z (oR Z (ze Z eM Z) (eN (zJ (cF Z dm (ZS (zf (zf (ZN ?_))))))))
 cases gi
 exact ⟨Z,_,(wNw),df,_,fC,fc⟩
end Go.Proofs.YtlnfbjphfoipaaaGreat
namespace Go.Proofs.YtlnfbjphfoipaaaGreat
open Go.KL
set_option maxHeartbeats 4000000
theorem wGi (O:wAA) (ab:Option Addr) (ag:Nat) (ac:Option Addr) (ah:Nat) (ae:Option Addr) (ai:Nat) (af:Option Addr) (aj:Nat) (w:World) (U:PHeap) (hS:St0 w U []) (ax:Sl U 1 ab ag O.Starts.length (hD KL.encI O.Starts)) (ay:Sl U 2 ac ah O.Splits.length (hD wAC O.Splits)) (az:Sl U 3 ae ai O.Clocks.length (hD wAE O.Clocks)) (aH:Sl U 4 af aj O.Readings.length (hD wAB O.Readings)) {r:Unit} (hm:wDU O=some r):Gv Tryz.prog 106 [.agg #[.slice ab O.Starts.length ag,.slice ac O.Splits.length ah,.slice ae O.Clocks.length ai,.slice af O.Readings.length aj]] w (wCF w [] U (fun U_ L_ v=>∃ (b0:Nat),v=.func (.func 126) #[] #[.pointer (some ⟨b0,0,none⟩)]/\L_=[]/\Cl U_ b0 0 [.slice ab O.Starts.length ag,.slice ac O.Splits.length ah,.slice ae O.Clocks.length ai,.slice af O.Readings.length aj])):=by
 unfold wDU at hm
 refine Gv.of Tryz.func106 Z Tryz.ntmps106 Tryz.results106 Z (sR gAf Z ?_)
 let B0:List Value:=[.slice ab O.Starts.length ag,.slice ac O.Splits.length ah,.slice ae O.Clocks.length ai,.slice af O.Readings.length aj]
 refine zq (cs:=B0) rfl rfl rfl rfl rfl rfl (by rfl) hS ?_
 intro W1 b2 aq
 have q:=aq.freeze (k:=0) rfl
 obtain ⟨U5,aI,aa,au⟩:=q
 replace aa:=Cl.of aa
 have av:sW w U U5 [] W1:=au
 replace aa:Cl U5 b2 0 B0:=aa
 refine oA Z Z (eN (sR fL2 Z (oR Z (Runs.mkf Z zL (zB Z zL)) (oA Z Z (eN (zR ?_))))))
 cases hm
 exact ⟨Z,_,(ZH Z),U5,_,av,b2,Z,Z,aa⟩
theorem wHj (O:wAA) (ac:Option Addr) (ae:Nat) (ai:Option Addr) (am:Nat) (aj:Option Addr) (an:Nat) (ak:Option Addr) (ao:Nat) (p1:wAH) (w:World) (U:PHeap) (hS:St0 w U []) (aO:Sl U 1 ac ae O.Starts.length (hD KL.encI O.Starts)) (aP:Sl U 2 ai am O.Splits.length (hD wAC O.Splits)) (aQ:Sl U 3 aj an O.Clocks.length (hD wAE O.Clocks)) (aR:Sl U 4 ak ao O.Readings.length (hD wAB O.Readings)) {r:Bool} (hm:wEo O p1=some r):Gv Tryz.prog 133 [.agg #[.slice ac O.Starts.length ae,.slice ai O.Splits.length am,.slice aj O.Clocks.length an,.slice ak O.Readings.length ao],.agg #[jV p1.Kind,jV p1.Skier,jV p1.Index,.bool p1.Up]] w (wCF w [] U (fun U_ L_ v=>v=.bool r/\L_=[])):=by
 unfold wEo at hm
 refine Gv.of Tryz.func133 Z Tryz.ntmps133 Tryz.results133 Z (sR gAs Z ?_)
 let B0:List Value:=[.slice ac O.Starts.length ae,.slice ai O.Splits.length am,.slice aj O.Clocks.length an,.slice ak O.Readings.length ao]
 refine zq (cs:=B0) rfl rfl rfl rfl rfl rfl (by rfl) hS ?_
 intro W1 b2 aJ
 let B1:List Value:=[jV p1.Kind,jV p1.Skier,jV p1.Index,.bool p1.Up]
 refine zq (cs:=B1) rfl rfl rfl rfl rfl rfl (by rfl) aJ ?_
 intro W5 b6 ah
 refine oA Z Z (eN (sR (wFh (.fx 6 (wKb (.nil)) .stop)) Z (oR Z (zH Z Z zt Z zE) (oL Z (ah.ldB (j:=0) Z Z Z zK (v:=jV p1.Skier) Z) (oR Z (zH Z Z zP Z zh) (oL Z (ah.ldB (j:=1) Z Z Z zk (v:=.slice ac O.Starts.length ae) Z) (oR Z (zi Z Z zG) (oR Z (yf Z Z Z) (bnK hm fun x9 aH aK=>zC 0 Z Z Z Z (zD Z Z yP (zB Z (zB Z (zB Z zL))) Z) ah (fun hs=>wCE p1.Skier 0 (w64 ((↑O.Starts.length:Int) - 1)) W5 U hs aH) (.inr Z) ?_)))))))))
 rintro af aM aT av aS aI ⟨rfl,rfl⟩
 have ag:sW w U af [.blk b6 93 B1,.blk b2 27 B0] av:=aI
 refine oM Z Z (ifc aK ?_ ?_)
 intro ab au
 refine zg Z Z Z (zN Z Z (congrArg nA ab.out)) (fun _=>zH Z Z zt Z zE) (zx Z Z Z (zN Z Z (congrArg nA ab.out)) (ag.ldB (j:=0) Z Z Z zK (v:=jV p1.Index) Z) Z (zg Z Z Z (zN Z Z (congrArg nA ab.out)) (fun _=>yV Z Z Z) (oR Z (zS Z (congrArg nA ab.out) Z) (oA Z Z (eN (zR ?_))))))
 first | (obtain rfl:=hH au) | cases au
 exact ⟨rfl,_,(ZH rfl),af,_,(ag.pick [] _ (by decide) rfl),rfl,rfl⟩
 intro ab aL
 refine zw Z Z Z (zO Z Z (congrArg nA (nB.2 ab.out)) Z) (zw Z Z Z (zO Z Z (congrArg nA (nB.2 ab.out)) Z) (zw Z Z Z (zO Z Z (congrArg nA (nB.2 ab.out)) Z) (oR Z (zZ Z (congrArg nA (nB.2 ab.out)) Z) (oA Z Z (eN (zR ?_))))))
 have hE:=hH aL;first | subst r | cases hE
 exact ⟨rfl,_,(ZH rfl),af,_,(ag.pick [] _ (by decide) rfl),rfl,rfl⟩
theorem wHk (O:wAA) (aH:Option Addr) (aL:Nat) (aI:Option Addr) (aM:Nat) (aJ:Option Addr) (aN:Nat) (aK:Option Addr) (aO:Nat) (p1:wAH) (w:World) (U:PHeap) (hS:St0 w U []) (bF:Sl U 1 aH aL O.Starts.length (hD KL.encI O.Starts)) (bG:Sl U 2 aI aM O.Splits.length (hD wAC O.Splits)) (bH:Sl U 3 aJ aN O.Clocks.length (hD wAE O.Clocks)) (bI:Sl U 4 aK aO O.Readings.length (hD wAB O.Readings)) {r:wAI × wAI} (hm:wDx O p1=some r):Gv Tryz.prog 134 [.agg #[.slice aH O.Starts.length aL,.slice aI O.Splits.length aM,.slice aJ O.Clocks.length aN,.slice aK O.Readings.length aO],.agg #[jV p1.Kind,jV p1.Skier,jV p1.Index,.bool p1.Up]] w (wCF w [] U (fun U_ L_ v=>v=.tuple #[.agg #[jV r.1.skier,jV r.1.mat],.agg #[jV r.2.skier,jV r.2.mat]]/\L_=[])):=by
 unfold wDx at hm
 refine Gv.of Tryz.func134 Z Tryz.ntmps134 Tryz.results134 Z (sR gBe Z ?_)
 let B0:List Value:=[.slice aH O.Starts.length aL,.slice aI O.Splits.length aM,.slice aJ O.Clocks.length aN,.slice aK O.Readings.length aO]
 refine zq (cs:=B0) rfl rfl rfl rfl rfl rfl (by rfl) hS ?_
 intro W1 b2 bc
 let B1:List Value:=[jV p1.Kind,jV p1.Skier,jV p1.Index,.bool p1.Up]
 refine zq (cs:=B1) rfl rfl rfl rfl rfl rfl (by rfl) bc ?_
 intro W5 b6 bm
 let B2:List Value:=[jV 0,jV 0]
 refine zU (cs:=B2) Z Z Z Z Z zd Z bm ?_
 intro W9 ag ba
 refine zU (cs:=B2) Z Z Z Z Z zd Z ba ?_
 intro aP ah bb
 refine eN ?_
 have q:=bnd hm
 obtain ⟨⟨bv,bw⟩,bt,aT⟩:=q
 try dsimp only at aT
 let B3:List Value:=[jV p1.Skier,jV 0]
 let B4:List Value:=[jV bv,jV bw]
 refine yX (fun J_ w_=>∃ (U_:PHeap),J_ 4=.pointer (some ⟨ag,0,none⟩)/\J_ 5=.pointer (some ⟨ah,0,none⟩)/\PHeap.Le U U_/\sW w U U_ [.blk ah 123 B3,.blk ag 123 B4,.blk b6 93 B1,.blk b2 27 B0] w_) ?_ ?_
 refine bnK bt fun am aR az=>ZI ZD [2,3,2,3,0,0] (.fl 1 (.fx 0 (.fx 2 (.fl 3 gAj) (.fx 4 (.fx 2 gAk .stop) .stop)) (.fx 2 (.fl 3 (.fx 0 gAj .stop)) .stop))) (by kernel_rfl) ?_
 have ao:=bb.drew
 generalize hw_W40:({ aP with drawn:=aP.drawn + 1 }:World)=aQ at ao ⊢
 refine oR Z (zH Z Z zt Z zE) (ZB ?_ ?_)
 refine zC 0 Z Z Z Z (zD Z Z yF zL Z) ao (fun hs=>wAw aQ U hs aR) (.inr Z) ?_
 rintro ak bz bK aW aU bd ⟨rfl,rfl⟩
 have ax:sW w U ak [.blk ah 123 B2,.blk ag 123 B2,.blk b6 93 B1,.blk b2 27 B0] aW:=bd
 refine ZB ?_ ?_
 refine Zi Z Z Z Z (ax.ldB (j:=2) Z Z Z zK (v:=jV p1.Skier) Z) (oR Z (zu (pv:=[(0,jV p1.Skier),(1,jV 0)]) (z:=B2) (cs:=B3) Z (wAG Z (wAG Z wAP)) zd wBg Z Z) ?_)
 let B5:List Value:=[jV am.skier,jV am.mat]
 refine zY (j:=1) (vs:=B5) Z Z Z Z ax Z Z Z Z zI (zA Z) Z Z Z ?_
 intro aX be
 have bf:sW w U ak [.blk ah 123 B2,.blk ag 123 B5,.blk b6 93 B1,.blk b2 27 B0] aX:=be
 refine zY (j:=0) (vs:=B3) Z Z Z Z bf Z Z Z Z zI (zA Z) Z Z Z ?_
 intro aY bg
 have bh:sW w U ak [.blk ah 123 B3,.blk ag 123 B5,.blk b6 93 B1,.blk b2 27 B0] aY:=bg
 refine zb ?_
 cases az
 exact zF ⟨Z,⟨ak,Z,Z,aU,bh⟩⟩
 let B6:List Value:=[jV am.skier,jV am.mat]
 refine zY (j:=1) (vs:=B6) Z Z Z Z ax Z Z Z Z zI (zA Z) Z Z Z ?_
 intro aZ bi
 have aS:sW w U ak [.blk ah 123 B2,.blk ag 123 B6,.blk b6 93 B1,.blk b2 27 B0] aZ:=bi
 refine Zi Z Z Z Z (aS.ldB (j:=2) Z Z Z zK (v:=jV p1.Skier) Z) (oR Z (zu (pv:=[(0,jV p1.Skier),(1,jV 0)]) (z:=B2) (cs:=B3) Z (wAG Z (wAG Z wAP)) zd wBg Z Z) (zY (j:=0) (vs:=B3) Z Z Z Z aS Z Z Z Z zI (zA Z) Z Z Z ?_))
 intro a0 bj
 have bk:sW w U ak [.blk ah 123 B3,.blk ag 123 B6,.blk b6 93 B1,.blk b2 27 B0] a0:=bj
 refine zb ?_
 cases az
 exact zF ⟨Z,⟨ak,Z,Z,aU,bk⟩⟩
 refine Zi Z Z Z Z (ao.ldB (j:=2) Z Z Z zK (v:=jV p1.Skier) Z) (oR Z (zu (pv:=[(0,jV p1.Skier),(1,jV 0)]) (z:=B2) (cs:=B3) Z (wAG Z (wAG Z wAP)) zd wBg Z Z) (zC 0 Z Z Z Z (zD Z Z yF zL Z) ao (fun hs=>wAw aQ U hs aR) (.inr Z) ?_))
 rintro an bA bL a5 bu bn ⟨rfl,rfl⟩
 have bo:sW w U an [.blk ah 123 B2,.blk ag 123 B2,.blk b6 93 B1,.blk b2 27 B0] a5:=bn
 let B7:List Value:=[jV am.skier,jV am.mat]
 refine zY (j:=1) (vs:=B7) Z Z Z Z bo Z Z Z Z zI (zA Z) Z Z Z ?_
 intro a6 bp
 have bq:sW w U an [.blk ah 123 B2,.blk ag 123 B7,.blk b6 93 B1,.blk b2 27 B0] a6:=bp
 refine zY (j:=0) (vs:=B3) Z Z Z Z bq Z Z Z Z zI (zA Z) Z Z Z ?_
 intro a7 br
 have bs:sW w U an [.blk ah 123 B3,.blk ag 123 B7,.blk b6 93 B1,.blk b2 27 B0] a7:=br
 refine zb ?_
 cases az
 exact zF ⟨Z,⟨an,Z,Z,bu,bs⟩⟩
 rintro bx bD ⟨aV,a8,a9,bJ,ay⟩
 refine zR ?_
 cases aT
 exact ⟨rfl,_,(wER (rs:=[.cell 4 123,.cell 5 123]) (vs:=[.agg B4.toArray,.agg B3.toArray]) ⟨⟨_,a8,(wBF zj zI (ay.blkAt (k:=1) rfl) (vs:=B4) rfl rfl)⟩,⟨⟨_,a9,(wBF zj zI (ay.blkAt (k:=0) rfl) (vs:=B3) rfl rfl)⟩,trivial⟩⟩ rfl),aV,_,(ay.pick [] _ (by decide) rfl),rfl,rfl⟩
theorem wHl (O:wAA) (ae:Option Addr) (af:Nat) (ag:Option Addr) (aj:Nat) (ah:Option Addr) (ak:Nat) (ai:Option Addr) (am:Nat) (p1:wAH) (w:World) (U:PHeap) (hS:St0 w U []) (ao:Sl U 1 ae af O.Starts.length (hD KL.encI O.Starts)) (aO:Sl U 2 ag aj O.Splits.length (hD wAC O.Splits)) (aP:Sl U 3 ah ak O.Clocks.length (hD wAE O.Clocks)) (aQ:Sl U 4 ai am O.Readings.length (hD wAB O.Readings)) {r:Int × Int} (hm:wDy O p1=some r):Gv Tryz.prog 135 [.agg #[.slice ae O.Starts.length af,.slice ag O.Splits.length aj,.slice ah O.Clocks.length ak,.slice ai O.Readings.length am],.agg #[jV p1.Kind,jV p1.Skier,jV p1.Index,.bool p1.Up]] w (wCF w [] U (fun U_ L_ v=>v=.tuple #[jV r.1,jV r.2]/\L_=[])):=by
 unfold wDy at hm
 refine Gv.of Tryz.func135 rfl Tryz.ntmps135 Tryz.results135 rfl (sR gBf rfl (zq (cs:=[.slice ae O.Starts.length af,.slice ag O.Splits.length aj,.slice ah O.Clocks.length ak,.slice ai O.Readings.length am]) rfl rfl rfl rfl rfl rfl (by rfl) hS ?_))
 intro W1 b2 ay
 refine zq (cs:=[jV p1.Kind,jV p1.Skier,jV p1.Index,.bool p1.Up]) rfl rfl rfl rfl rfl rfl (by rfl) ay ?_
 intro W5 b6 az
 refine yY rfl rfl rfl rfl rfl rfl (yY rfl rfl rfl rfl rfl rfl (eN (zJ (ZI ZD [3,1,3,1,3,1,3,1,3,1,3,1,3,3,3] fL15 (by kernel_rfl) ?_))))
 have ab:=az.drew
 generalize hw_W10:({ W5 with drawn:=W5.drawn + 1 }:World)=aJ at ab ⊢
 refine oR Z (zH Z Z zP Z zh) (oL Z (ab.ldB (j:=1) Z Z Z zk (v:=.slice ae O.Starts.length af) Z) (oR Z (zH Z Z zt Z zE) (oL Z (ab.ldB (j:=0) Z Z Z zK (v:=jV p1.Skier) Z) (bnK hm fun ap ac aH=>?_))))
 have q:=ao.el (fun _=>rfl) (wAb ac)
 obtain ⟨aK,aR,aq,av⟩:=q
 refine oR Z (ZT Z Z aq Z zG zE (wBp ac) (wBx ac)) (oL Z (ab.ldC (f:=0) av (v:=jV ap) Z Z zK Z) (oR Z (zH Z Z zP Z zh) (oL Z (ab.ldB (j:=1) Z Z Z zk (v:=.slice ae O.Starts.length af) Z) (oR Z (zH Z Z zt Z zE) (oL Z (ab.ldB (j:=0) Z Z Z zK (v:=jV p1.Skier) Z) ?_)))))
 have q:=ao.el (fun _=>rfl) (wAb ac)
 obtain ⟨aL,aS,au,ax⟩:=q
 refine oR Z (ZT Z Z au Z zG zE (wBp ac) (wBx ac)) (oL Z (ab.ldC (f:=0) ax (v:=jV ap) Z Z zK Z) (oR Z (Runs.negw Z Z) (oA Z Z (oA Z Z (eN (zR ?_))))))
 cases aH
 exact ⟨rfl,_,(wDk rfl rfl),U,_,(ab.pick [] _ (by decide) rfl),rfl,rfl⟩
theorem wHm (O:wAA) (ae:Option Addr) (ag:Nat) (af:Option Addr) (ah:Nat) (an:Option Addr) (ap:Nat) (ao:Option Addr) (aq:Nat) (p1:wAH) (w:World) (U:PHeap) (hS:St0 w U []) (aV:Sl U 1 ae ag O.Starts.length (hD KL.encI O.Starts)) (aW:Sl U 2 af ah O.Splits.length (hD wAC O.Splits)) (aX:Sl U 3 an ap O.Clocks.length (hD wAE O.Clocks)) (aY:Sl U 4 ao aq O.Readings.length (hD wAB O.Readings)) {r:Bool} (hm:wEp O p1=some r):Gv Tryz.prog 136 [.agg #[.slice ae O.Starts.length ag,.slice af O.Splits.length ah,.slice an O.Clocks.length ap,.slice ao O.Readings.length aq],.agg #[jV p1.Kind,jV p1.Skier,jV p1.Index,.bool p1.Up]] w (wCF w [] U (fun U_ L_ v=>v=.bool r/\L_=[])):=by
 unfold wEp at hm
 refine Gv.of Tryz.func136 Z Tryz.ntmps136 Tryz.results136 Z (sR gAs Z ?_)
 let B0:List Value:=[.slice ae O.Starts.length ag,.slice af O.Splits.length ah,.slice an O.Clocks.length ap,.slice ao O.Readings.length aq]
 refine zq (cs:=B0) rfl rfl rfl rfl rfl rfl (by rfl) hS ?_
 intro W1 b2 aM
 let B1:List Value:=[jV p1.Kind,jV p1.Skier,jV p1.Index,.bool p1.Up]
 refine zq (cs:=B1) rfl rfl rfl rfl rfl rfl (by rfl) aM ?_
 intro W5 b6 am
 refine oA Z Z (eN (sR (wFh (.fx 6 (wLv gAu) .stop)) Z (oR Z (zH Z Z zt Z zE) (oL Z (am.ldB (j:=0) Z Z Z zK (v:=jV p1.Skier) Z) (oR Z (zH Z Z zP Z zh) (oL Z (am.ldB (j:=1) Z Z Z zk (v:=.slice ae O.Starts.length ag) Z) (oR Z (zi Z Z zG) (oR Z (yf Z Z Z) (bnK hm fun x9 aI aO=>zC 0 Z Z Z Z (zD Z Z yP (zB Z (zB Z (zB Z zL))) Z) am (fun hs=>wCE p1.Skier 0 (w64 ((↑O.Starts.length:Int) - 1)) W5 U hs aI) (.inr Z) ?_)))))))))
 rintro ak aS a5 av aZ aK ⟨rfl,rfl⟩
 have ac:sW w U ak [.blk b6 93 B1,.blk b2 27 B0] av:=aK
 refine oM Z Z (ifc aO ?_ ?_)
 intro aa aP
 refine zg Z Z Z (zN Z Z (congrArg nA aa.out)) (fun _=>zH Z Z zt Z zE) (zx Z Z Z (zN Z Z (congrArg nA aa.out)) (ac.ldB (j:=0) Z Z Z zK (v:=jV p1.Index) Z) Z (zg Z Z Z (zN Z Z (congrArg nA aa.out)) (fun _=>zH Z Z zP Z Zf) (zx Z Z Z (zN Z Z (congrArg nA aa.out)) (ac.ldB (j:=1) Z Z Z Zl (v:=.slice af O.Splits.length ah) Z) Z (zg Z Z Z (zN Z Z (congrArg nA aa.out)) (fun _=>zi Z Z ZG) (zg Z Z Z (zN Z Z (congrArg nA aa.out)) (fun _=>yf Z Z Z) (bnK aP fun a7 aJ aQ=>zC 0 Z Z Z (zN Z Z (congrArg nA aa.out)) (zD Z Z yP (zB Z (zB Z (zB Z zL))) Z) ac (fun hs=>wCE p1.Index 0 (w64 ((↑O.Splits.length:Int) - 1)) av ak hs aJ) (.inr Z) ?_))))))
 rintro au aT a6 az a0 aL ⟨rfl,rfl⟩
 have aN:sW w U au [.blk b6 93 B1,.blk b2 27 B0] az:=aL
 refine oR Z (zS Z (congrArg nA aa.out) Z) (oA Z Z (eN (zR ?_)))
 have hE:=hH aQ;first | subst r | cases hE
 exact ⟨rfl,_,(ZH rfl),au,_,(aN.pick [] _ (by decide) rfl),rfl,rfl⟩
 intro aa aR
 refine zw Z Z Z (zO Z Z (congrArg nA (nB.2 aa.out)) Z) (zw Z Z Z (zO Z Z (congrArg nA (nB.2 aa.out)) Z) (zw Z Z Z (zO Z Z (congrArg nA (nB.2 aa.out)) Z) (zw Z Z Z (zO Z Z (congrArg nA (nB.2 aa.out)) Z) (zw Z Z Z (zO Z Z (congrArg nA (nB.2 aa.out)) Z) (zw Z Z Z (zO Z Z (congrArg nA (nB.2 aa.out)) Z) (ZA Z Z Z (zO Z Z (congrArg nA (nB.2 aa.out)) Z) (oR Z (zZ Z (congrArg nA (nB.2 aa.out)) Z) (oA Z Z (eN (zR ?_))))))))))
 have hE:=hH aR;first | subst r | cases hE
 exact ⟨rfl,_,(ZH rfl),ak,_,(ac.pick [] _ (by decide) rfl),rfl,rfl⟩
theorem wHn (p0:wAA) (aq:Option Addr) (ay:Nat) (au:Option Addr) (az:Nat) (av:Option Addr) (aH:Nat) (ax:Option Addr) (aI:Nat) (O:wAH) (w:World) (U:PHeap) (hS:St0 w U []) (bA:Sl U 1 aq ay p0.Starts.length (hD KL.encI p0.Starts)) (bB:Sl U 2 au az p0.Splits.length (hD wAC p0.Splits)) (bC:Sl U 3 av aH p0.Clocks.length (hD wAE p0.Clocks)) (bD:Sl U 4 ax aI p0.Readings.length (hD wAB p0.Readings)) {r:wAI × wAI} (hm:wDz p0 O=some r):Gv Tryz.prog 137 [.agg #[.slice aq p0.Starts.length ay,.slice au p0.Splits.length az,.slice av p0.Clocks.length aH,.slice ax p0.Readings.length aI],.agg #[jV O.Kind,jV O.Skier,jV O.Index,.bool O.Up]] w (wCF w [] U (fun U_ L_ v=>v=.tuple #[.agg #[jV r.1.skier,jV r.1.mat],.agg #[jV r.2.skier,jV r.2.mat]]/\L_=[])):=by
 unfold wDz at hm
 refine Gv.of Tryz.func137 Z Tryz.ntmps137 Tryz.results137 Z (sR gBe Z ?_)
 let B0:List Value:=[.slice aq p0.Starts.length ay,.slice au p0.Splits.length az,.slice av p0.Clocks.length aH,.slice ax p0.Readings.length aI]
 refine zq (cs:=B0) rfl rfl rfl rfl rfl rfl (by rfl) hS ?_
 intro W1 b2 a8
 let B1:List Value:=[jV O.Kind,jV O.Skier,jV O.Index,.bool O.Up]
 refine zq (cs:=B1) rfl rfl rfl rfl rfl rfl (by rfl) a8 ?_
 intro W5 b6 bs
 let B2:List Value:=[jV 0,jV 0]
 refine zU (cs:=B2) Z Z Z Z Z zd Z bs ?_
 intro W9 ah a5
 refine zU (cs:=B2) Z Z Z Z Z zd Z a5 ?_
 intro aJ ai a6
 refine eN ?_
 have q:=bnd hm
 obtain ⟨⟨⟩,ao,aM⟩:=q
 try dsimp only at aM
 let B3:List Value:=[jV O.Skier,jV (w64 (O.Index + 1))]
 let B4:List Value:=[jV O.Skier,jV O.Index]
 refine yX (fun J_ w_=>∃ (U_:PHeap),J_ 4=.pointer (some ⟨ah,0,none⟩)/\J_ 5=.pointer (some ⟨ai,0,none⟩)/\PHeap.Le U U_/\sW w U U_ [.blk ai 123 B3,.blk ah 123 B4,.blk b6 93 B1,.blk b2 27 B0] w_) ?_ ?_
 refine ZI ZD [3,1,3,1,3,3,2,3,2,3,3,0,0] (wFh (.fl 7 (.fx 6 (.fx 8 (.fl 9 gAv) (.fx 11 gBg .stop)) (.fx 8 (.fl 9 (.fx 6 gAv (.fx 11 gAw .stop))) (.fx 11 (.fx 6 gBg (.fx 8 (.fl 9 gAw) .stop)) .stop))))) (by kernel_rfl) ?_
 have am:=a6.drew
 generalize hw_W27:({ aJ with drawn:=aJ.drawn + 1 }:World)=bv at am ⊢
 refine oR Z (zH Z Z zt Z zE) (oL Z (am.ldB (j:=2) Z Z Z zK (v:=jV O.Skier) Z) (oR Z (zH Z Z zt Z zE) (oL Z (am.ldB (j:=2) Z Z Z zK (v:=jV O.Index) Z) (oR Z (zu (pv:=[(0,jV O.Skier),(1,jV O.Index)]) (z:=B2) (cs:=B4) Z (wAG Z (wAG Z wAP)) zd wBg Z Z) (oR Z (zH Z Z zt Z zE) (oR Z (zH Z Z zt Z zE) (ZB ?_ ?_)))))))
 refine Zi Z Z Z Z (am.ldB (j:=2) Z Z Z zK (v:=jV O.Skier) Z) (ZB ?_ ?_)
 refine Zi Z Z Z Z (am.ldB (j:=2) Z Z Z zK (v:=jV O.Index) Z) (oR Z (za Z Z Z) (oR Z (zu (pv:=[(0,jV O.Skier),(1,jV (w64 (O.Index + 1)))]) (z:=B2) (cs:=B3) Z (wAG Z (wAG Z wAP)) zd wBg Z Z) (zY (j:=1) (vs:=B4) Z Z Z Z am Z Z Z Z zI (zA Z) Z Z Z ?_)))
 intro aO a7
 have a9:sW w U U [.blk ai 123 B2,.blk ah 123 B4,.blk b6 93 B1,.blk b2 27 B0] aO:=a7
 refine zY (j:=0) (vs:=B3) Z Z Z Z a9 Z Z Z Z zI (zA Z) Z Z Z ?_
 intro aP ba
 have bb:sW w U U [.blk ai 123 B3,.blk ah 123 B4,.blk b6 93 B1,.blk b2 27 B0] aP:=ba
 refine zb ?_
 cases ao
 exact zF ⟨Z,⟨U,Z,Z,(zQ _),bb⟩⟩
 refine zY (j:=1) (vs:=B4) Z Z Z Z am Z Z Z Z zI (zA Z) Z Z Z ?_
 intro aQ bc
 have aK:sW w U U [.blk ai 123 B2,.blk ah 123 B4,.blk b6 93 B1,.blk b2 27 B0] aQ:=bc
 refine Zi Z Z Z Z (aK.ldB (j:=2) Z Z Z zK (v:=jV O.Index) Z) (oR Z (za Z Z Z) (oR Z (zu (pv:=[(0,jV O.Skier),(1,jV (w64 (O.Index + 1)))]) (z:=B2) (cs:=B3) Z (wAG Z (wAG Z wAP)) zd wBg Z Z) (zY (j:=0) (vs:=B3) Z Z Z Z aK Z Z Z Z zI (zA Z) Z Z Z ?_)))
 intro aR bd
 have be:sW w U U [.blk ai 123 B3,.blk ah 123 B4,.blk b6 93 B1,.blk b2 27 B0] aR:=bd
 refine zb ?_
 cases ao
 exact zF ⟨Z,⟨U,Z,Z,(zQ _),be⟩⟩
 refine ZB ?_ ?_
 refine Zi Z Z Z Z (am.ldB (j:=2) Z Z Z zK (v:=jV O.Index) Z) (oR Z (za Z Z Z) (ZB ?_ ?_))
 refine Zi Z Z Z Z (am.ldB (j:=2) Z Z Z zK (v:=jV O.Skier) Z) (oR Z (zu (pv:=[(0,jV O.Skier),(1,jV (w64 (O.Index + 1)))]) (z:=B2) (cs:=B3) Z (wAG Z (wAG Z wAP)) zd wBg Z Z) (zY (j:=1) (vs:=B4) Z Z Z Z am Z Z Z Z zI (zA Z) Z Z Z ?_))
 intro aS bf
 have bg:sW w U U [.blk ai 123 B2,.blk ah 123 B4,.blk b6 93 B1,.blk b2 27 B0] aS:=bf
 refine zY (j:=0) (vs:=B3) Z Z Z Z bg Z Z Z Z zI (zA Z) Z Z Z ?_
 intro aT bh
 have bi:sW w U U [.blk ai 123 B3,.blk ah 123 B4,.blk b6 93 B1,.blk b2 27 B0] aT:=bh
 refine zb ?_
 cases ao
 exact zF ⟨Z,⟨U,Z,Z,(zQ _),bi⟩⟩
 refine zY (j:=1) (vs:=B4) Z Z Z Z am Z Z Z Z zI (zA Z) Z Z Z ?_
 intro aU bj
 have aL:sW w U U [.blk ai 123 B2,.blk ah 123 B4,.blk b6 93 B1,.blk b2 27 B0] aU:=bj
 refine Zi Z Z Z Z (aL.ldB (j:=2) Z Z Z zK (v:=jV O.Skier) Z) (oR Z (zu (pv:=[(0,jV O.Skier),(1,jV (w64 (O.Index + 1)))]) (z:=B2) (cs:=B3) Z (wAG Z (wAG Z wAP)) zd wBg Z Z) (zY (j:=0) (vs:=B3) Z Z Z Z aL Z Z Z Z zI (zA Z) Z Z Z ?_))
 intro aV bk
 have bm:sW w U U [.blk ai 123 B3,.blk ah 123 B4,.blk b6 93 B1,.blk b2 27 B0] aV:=bk
 refine zb ?_
 cases ao
 exact zF ⟨Z,⟨U,Z,Z,(zQ _),bm⟩⟩
 refine zY (j:=1) (vs:=B4) Z Z Z Z am Z Z Z Z zI (zA Z) Z Z Z ?_
 intro aW bn
 have an:sW w U U [.blk ai 123 B2,.blk ah 123 B4,.blk b6 93 B1,.blk b2 27 B0] aW:=bn
 refine ZB ?_ ?_
 refine Zi Z Z Z Z (an.ldB (j:=2) Z Z Z zK (v:=jV O.Skier) Z) (Zi Z Z Z Z (an.ldB (j:=2) Z Z Z zK (v:=jV O.Index) Z) (oR Z (za Z Z Z) (oR Z (zu (pv:=[(0,jV O.Skier),(1,jV (w64 (O.Index + 1)))]) (z:=B2) (cs:=B3) Z (wAG Z (wAG Z wAP)) zd wBg Z Z) (zY (j:=0) (vs:=B3) Z Z Z Z an Z Z Z Z zI (zA Z) Z Z Z ?_))))
 intro aX bo
 have bp:sW w U U [.blk ai 123 B3,.blk ah 123 B4,.blk b6 93 B1,.blk b2 27 B0] aX:=bo
 refine zb ?_
 cases ao
 exact zF ⟨Z,⟨U,Z,Z,(zQ _),bp⟩⟩
 refine Zi Z Z Z Z (an.ldB (j:=2) Z Z Z zK (v:=jV O.Index) Z) (oR Z (za Z Z Z) (Zi Z Z Z Z (an.ldB (j:=2) Z Z Z zK (v:=jV O.Skier) Z) (oR Z (zu (pv:=[(0,jV O.Skier),(1,jV (w64 (O.Index + 1)))]) (z:=B2) (cs:=B3) Z (wAG Z (wAG Z wAP)) zd wBg Z Z) (zY (j:=0) (vs:=B3) Z Z Z Z an Z Z Z Z zI (zA Z) Z Z Z ?_))))
 intro aY bq
 have br:sW w U U [.blk ai 123 B3,.blk ah 123 B4,.blk b6 93 B1,.blk b2 27 B0] aY:=bq
 refine zb ?_
 cases ao
 exact zF ⟨Z,⟨U,Z,Z,(zQ _),br⟩⟩
 rintro bt bx ⟨aN,aZ,a0,bE,ap⟩
 refine zR ?_
 cases aM
 exact ⟨rfl,_,(wER (rs:=[.cell 4 123,.cell 5 123]) (vs:=[.agg B4.toArray,.agg B3.toArray]) ⟨⟨_,aZ,(wBF zj zI (ap.blkAt (k:=1) rfl) (vs:=B4) rfl rfl)⟩,⟨⟨_,a0,(wBF zj zI (ap.blkAt (k:=0) rfl) (vs:=B3) rfl rfl)⟩,trivial⟩⟩ rfl),aN,_,(ap.pick [] _ (by decide) rfl),rfl,rfl⟩
theorem wHo (O:wAA) (ag:Option Addr) (aj:Nat) (ae:Option Addr) (af:Nat) (ah:Option Addr) (ak:Nat) (ai:Option Addr) (am:Nat) (p1:wAH) (w:World) (U:PHeap) (hS:St0 w U []) (aO:Sl U 1 ag aj O.Starts.length (hD KL.encI O.Starts)) (ao:Sl U 2 ae af O.Splits.length (hD wAC O.Splits)) (aP:Sl U 3 ah ak O.Clocks.length (hD wAE O.Clocks)) (aQ:Sl U 4 ai am O.Readings.length (hD wAB O.Readings)) {r:Int × Int} (hm:wEA O p1=some r):Gv Tryz.prog 138 [.agg #[.slice ag O.Starts.length aj,.slice ae O.Splits.length af,.slice ah O.Clocks.length ak,.slice ai O.Readings.length am],.agg #[jV p1.Kind,jV p1.Skier,jV p1.Index,.bool p1.Up]] w (wCF w [] U (fun U_ L_ v=>v=.tuple #[jV r.1,jV r.2]/\L_=[])):=by
 unfold wEA at hm
 refine Gv.of Tryz.func138 rfl Tryz.ntmps138 Tryz.results138 rfl (sR gBf rfl (zq (cs:=[.slice ag O.Starts.length aj,.slice ae O.Splits.length af,.slice ah O.Clocks.length ak,.slice ai O.Readings.length am]) rfl rfl rfl rfl rfl rfl (by rfl) hS ?_))
 intro W1 b2 ay
 refine zq (cs:=[jV p1.Kind,jV p1.Skier,jV p1.Index,.bool p1.Up]) rfl rfl rfl rfl rfl rfl (by rfl) ay ?_
 intro W5 b6 az
 refine yY rfl rfl rfl rfl rfl rfl (yY rfl rfl rfl rfl rfl rfl (eN (zJ (ZI ZD [3,1,3,1,3,3,1,3,1,3,1,3,3,1,3,3,3] fL17 (by kernel_rfl) ?_))))
 have ab:=az.drew
 generalize hw_W10:({ W5 with drawn:=W5.drawn + 1 }:World)=aJ at ab ⊢
 refine oR Z (zH Z Z zP Z Zf) (oL Z (ab.ldB (j:=1) Z Z Z Zl (v:=.slice ae O.Splits.length af) Z) (oR Z (zH Z Z zt Z zE) (oL Z (ab.ldB (j:=0) Z Z Z zK (v:=jV p1.Index) Z) (bnK hm fun ap ac aH=>?_))))
 have q:=ao.el (fun _=>rfl) (wAb ac)
 obtain ⟨aK,aR,aq,av⟩:=q
 refine oR Z (ZT Z Z aq Z ZG zm (wBp ac) (wBx ac)) (oR Z (zH Z Z ZJ Z zE) (oL Z (ab.ldC (f:=1) av (v:=jV ap.Hi) Z Z zK Z) (oR Z (zH Z Z zP Z Zf) (oL Z (ab.ldB (j:=1) Z Z Z Zl (v:=.slice ae O.Splits.length af) Z) (oR Z (zH Z Z zt Z zE) (oL Z (ab.ldB (j:=0) Z Z Z zK (v:=jV p1.Index) Z) ?_))))))
 have q:=ao.el (fun _=>rfl) (wAb ac)
 obtain ⟨aL,aS,au,ax⟩:=q
 refine oR Z (ZT Z Z au Z ZG zm (wBp ac) (wBx ac)) (oR Z (zH Z Z ZJ Z zE) (oL Z (ab.ldC (f:=0) ax (v:=jV ap.Lo) Z Z zK Z) (oR Z (Runs.negw Z Z) (oA Z Z (oA Z Z (eN (zR ?_)))))))
 cases aH
 exact ⟨rfl,_,(wDk rfl rfl),U,_,(ab.pick [] _ (by decide) rfl),rfl,rfl⟩
theorem wHp (p0:wAA) (ag:Option Addr) (aj:Nat) (ah:Option Addr) (ak:Nat) (ae:Option Addr) (af:Nat) (ai:Option Addr) (am:Nat) (p1:wAH) (w:World) (U:PHeap) (hS:St0 w U []) (aO:Sl U 1 ag aj p0.Starts.length (hD KL.encI p0.Starts)) (aP:Sl U 2 ah ak p0.Splits.length (hD wAC p0.Splits)) (aQ:Sl U 3 ae af p0.Clocks.length (hD wAE p0.Clocks)) (aR:Sl U 4 ai am p0.Readings.length (hD wAB p0.Readings)) {r:Bool} (hm:wEq p0 p1=some r):Gv Tryz.prog 139 [.agg #[.slice ag p0.Starts.length aj,.slice ah p0.Splits.length ak,.slice ae p0.Clocks.length af,.slice ai p0.Readings.length am],.agg #[jV p1.Kind,jV p1.Skier,jV p1.Index,.bool p1.Up]] w (wCF w [] U (fun U_ L_ v=>v=.bool r/\L_=[])):=by
 unfold wEq at hm
 refine Gv.of Tryz.func139 Z Tryz.ntmps139 Tryz.results139 Z (sR gAs Z ?_)
 let B0:List Value:=[.slice ag p0.Starts.length aj,.slice ah p0.Splits.length ak,.slice ae p0.Clocks.length af,.slice ai p0.Readings.length am]
 refine zq (cs:=B0) rfl rfl rfl rfl rfl rfl (by rfl) hS ?_
 intro W1 b2 aK
 let B1:List Value:=[jV p1.Kind,jV p1.Skier,jV p1.Index,.bool p1.Up]
 refine zq (cs:=B1) rfl rfl rfl rfl rfl rfl (by rfl) aK ?_
 intro W5 b6 ac
 refine oA Z Z (eN (sR (wMY gAx) Z (oR Z (zH Z Z zt Z zE) (oL Z (ac.ldB (j:=0) Z Z Z zK (v:=jV p1.Skier) Z) (oR Z (yV Z Z Z) (oM Z Z ?_))))))
 by_cases O:p1.Skier=0
 have aq:=hm;rw [if_pos O] at aq;replace O:=zM O
 refine rU Z (wT Z O) (zH Z Z zt Z zE) (zx Z Z Z (wT Z O) (ac.ldB (j:=0) Z Z Z zK (v:=jV p1.Index) Z) Z (rU Z (wT Z O) (zH Z Z zP Z yM) (zx Z Z Z (wT Z O) (ac.ldB (j:=1) Z Z Z yR (v:=.slice ae p0.Clocks.length af) Z) Z (rU Z (wT Z O) (zi Z Z Za) (rU Z (wT Z O) (yf Z Z Z) (bnK aq fun aU aH aL=>zC 0 Z Z Z (wT Z O) (zD Z Z yP (zB Z (zB Z (zB Z zL))) Z) ac (fun hs=>wCE p1.Index 0 (w64 ((↑p0.Clocks.length:Int) - 1)) W5 U hs aH) (.inr Z) ?_))))))
 rintro ap aM aT av aS aI ⟨rfl,rfl⟩
 have aJ:sW w U ap [.blk b6 93 B1,.blk b2 27 B0] av:=aI
 refine oR Z (zS Z (Zh O.out) Z) (oA Z Z (eN (zR ?_)))
 have hE:=hH aL;first | subst r | cases hE
 exact ⟨rfl,_,(ZH rfl),ap,_,(aJ.pick [] _ (by decide) rfl),rfl,rfl⟩
 have au:=hm;rw [if_neg O] at au;replace O:=zM O
 refine oF Z O (oF Z O (oF Z O (oF Z O (oF Z O (oF Z O (ZA Z Z Z (zO Z Z (ZL O.out) Z) (oR Z (zZ Z (ZL O.out) Z) (oA Z Z (eN (zR ?_))))))))))
 have hE:=hH au;first | subst r | cases hE
 exact ⟨rfl,_,(ZH rfl),U,_,(ac.pick [] _ (by decide) rfl),rfl,rfl⟩
theorem wDI (p0:Int) (w:World) (U:PHeap) (hS:St0 w U [])  {r:wAI} (hm:wDG p0=some r):Gv Tryz.prog 70 [jV p0] w (wCF w [] U (fun U_ L_ v=>v=.agg #[jV r.skier,jV r.mat]/\L_=[])):=by
 unfold wDG at hm
 refine Gv.of Tryz.func70 Z Tryz.ntmps70 Tryz.results70 Z (sR (.fx 0 .nil .stop) Z (zU (cs:=[jV 0,jV 0]) Z Z Z Z Z zd Z hS ?_))
 intro W1 b2 af
 refine eN (sR (wDd (.fx 3 .nil .stop)) Z (oM Z Z (oR Z (za Z Z Z) ?_)))
 let O:List Value:=[jV (-1),jV (w64 (1 + p0))]
 refine oR Z (zu (pv:=[(0,jV (-1)),(1,jV (w64 (1 + p0)))]) (z:=[jV 0,jV 0]) (cs:=O) Z (wAG Z (wAG Z wAP)) zd wBg Z Z) (zY (j:=0) (vs:=O) Z Z Z Z af Z Z Z Z zI (zA Z) Z Z Z ?_)
 intro W5 ag
 have ab:sW w U U [.blk b2 123 O] W5:=ag
 refine eN (zR ?_)
 cases hm
 exact ⟨rfl,_,(wGy (v:=.agg O.toArray) ⟨⟨_,rfl,(wBF zj zI (ab.blkAt (k:=0) rfl) (vs:=O) rfl rfl)⟩,trivial⟩),U,_,(ab.pick [] _ (by decide) rfl),rfl,rfl⟩
theorem wHq (O:wAA) (ap:Option Addr) (ax:Nat) (aq:Option Addr) (ay:Nat) (au:Option Addr) (az:Nat) (av:Option Addr) (aH:Nat) (p1:wAH) (w:World) (U:PHeap) (hS:St0 w U []) (bf:Sl U 1 ap ax O.Starts.length (hD KL.encI O.Starts)) (bg:Sl U 2 aq ay O.Splits.length (hD wAC O.Splits)) (bh:Sl U 3 au az O.Clocks.length (hD wAE O.Clocks)) (bi:Sl U 4 av aH O.Readings.length (hD wAB O.Readings)) {r:wAI × wAI} (hm:wEB O p1=some r):Gv Tryz.prog 140 [.agg #[.slice ap O.Starts.length ax,.slice aq O.Splits.length ay,.slice au O.Clocks.length az,.slice av O.Readings.length aH],.agg #[jV p1.Kind,jV p1.Skier,jV p1.Index,.bool p1.Up]] w (wCF w [] U (fun U_ L_ v=>v=.tuple #[.agg #[jV r.1.skier,jV r.1.mat],.agg #[jV r.2.skier,jV r.2.mat]]/\L_=[])):=by
 unfold wEB at hm
 refine Gv.of Tryz.func140 Z Tryz.ntmps140 Tryz.results140 Z (sR gBe Z ?_)
 let B0:List Value:=[.slice ap O.Starts.length ax,.slice aq O.Splits.length ay,.slice au O.Clocks.length az,.slice av O.Readings.length aH]
 refine zq (cs:=B0) rfl rfl rfl rfl rfl rfl (by rfl) hS ?_
 intro W1 b2 aX
 let B1:List Value:=[jV p1.Kind,jV p1.Skier,jV p1.Index,.bool p1.Up]
 refine zq (cs:=B1) rfl rfl rfl rfl rfl rfl (by rfl) aX ?_
 intro W5 b6 a7
 let B2:List Value:=[jV 0,jV 0]
 refine zU (cs:=B2) Z Z Z Z Z zd Z a7 ?_
 intro W9 ai aT
 refine zU (cs:=B2) Z Z Z Z Z zd Z aT ?_
 intro aJ aj aU
 refine eN (zJ (ZI ZD [2,3,1,2,0,0] (.fl 1 (.fl 2 (.fx 0 (.fx 3 gAj .stop) .stop))) (by kernel_rfl) ?_))
 have an:=aU.drew
 generalize hw_W18:({ aJ with drawn:=aJ.drawn + 1 }:World)=aN at an ⊢
 refine oR Z (zH Z Z zt Z zE) (oL Z (an.ldB (j:=2) Z Z Z zK (v:=jV p1.Index) Z) (bnK hm fun aL aR a8=>zC 0 Z Z Z Z (zD Z Z yF zL Z) an (fun hs=>wAw aN U hs aR) (.inr Z) ?_))
 rintro aI ba bm aK bj aV ⟨rfl,rfl⟩
 have aW:sW w U aI [.blk aj 123 B2,.blk ai 123 B2,.blk b6 93 B1,.blk b2 27 B0] aK:=aV
 refine bnK a8 fun aM aS a9=>zC 0 Z Z Z Z (zD Z Z Tryz.call70 (zB Z zL) Z) aW (fun hs=>wDI p1.Index aK aI hs aS) (.inr Z) ?_
 rintro ah bb bn aO bk aY ⟨rfl,rfl⟩
 have aZ:sW w U ah [.blk aj 123 B2,.blk ai 123 B2,.blk b6 93 B1,.blk b2 27 B0] aO:=aY
 let B3:List Value:=[jV aL.skier,jV aL.mat]
 refine zY (j:=1) (vs:=B3) Z Z Z Z aZ Z Z Z Z zI (zA Z) Z Z Z ?_
 intro aP a0
 have a5:sW w U ah [.blk aj 123 B2,.blk ai 123 B3,.blk b6 93 B1,.blk b2 27 B0] aP:=a0
 let B4:List Value:=[jV aM.skier,jV aM.mat]
 refine zY (j:=0) (vs:=B4) Z Z Z Z a5 Z Z Z Z zI (zA Z) Z Z Z ?_
 intro aQ a6
 have ao:sW w U ah [.blk aj 123 B4,.blk ai 123 B3,.blk b6 93 B1,.blk b2 27 B0] aQ:=a6
 refine eN (zR ?_)
 cases a9
 exact ⟨rfl,_,(wER (rs:=[.cell 4 123,.cell 5 123]) (vs:=[.agg B3.toArray,.agg B4.toArray]) ⟨⟨_,rfl,(wBF zj zI (ao.blkAt (k:=1) rfl) (vs:=B3) rfl rfl)⟩,⟨⟨_,rfl,(wBF zj zI (ao.blkAt (k:=0) rfl) (vs:=B4) rfl rfl)⟩,trivial⟩⟩ rfl),ah,_,(ao.pick [] _ (by decide) rfl),rfl,rfl⟩
theorem wHr (O:wAA) (ag:Option Addr) (aj:Nat) (ah:Option Addr) (ak:Nat) (ae:Option Addr) (af:Nat) (ai:Option Addr) (am:Nat) (p1:wAH) (w:World) (U:PHeap) (hS:St0 w U []) (aO:Sl U 1 ag aj O.Starts.length (hD KL.encI O.Starts)) (aP:Sl U 2 ah ak O.Splits.length (hD wAC O.Splits)) (ao:Sl U 3 ae af O.Clocks.length (hD wAE O.Clocks)) (aQ:Sl U 4 ai am O.Readings.length (hD wAB O.Readings)) {r:Int × Int} (hm:wEC O p1=some r):Gv Tryz.prog 141 [.agg #[.slice ag O.Starts.length aj,.slice ah O.Splits.length ak,.slice ae O.Clocks.length af,.slice ai O.Readings.length am],.agg #[jV p1.Kind,jV p1.Skier,jV p1.Index,.bool p1.Up]] w (wCF w [] U (fun U_ L_ v=>v=.tuple #[jV r.1,jV r.2]/\L_=[])):=by
 unfold wEC at hm
 refine Gv.of Tryz.func141 rfl Tryz.ntmps141 Tryz.results141 rfl (sR gBf rfl (zq (cs:=[.slice ag O.Starts.length aj,.slice ah O.Splits.length ak,.slice ae O.Clocks.length af,.slice ai O.Readings.length am]) rfl rfl rfl rfl rfl rfl (by rfl) hS ?_))
 intro W1 b2 ay
 refine zq (cs:=[jV p1.Kind,jV p1.Skier,jV p1.Index,.bool p1.Up]) rfl rfl rfl rfl rfl rfl (by rfl) ay ?_
 intro W5 b6 az
 refine yY rfl rfl rfl rfl rfl rfl (yY rfl rfl rfl rfl rfl rfl (eN (zJ (ZI ZD [3,1,3,1,3,3,3,1,3,3,1,3,1,3,3,3,1,3,3] fL19 (by kernel_rfl) ?_))))
 have ab:=az.drew
 generalize hw_W10:({ W5 with drawn:=W5.drawn + 1 }:World)=aJ at ab ⊢
 refine oR Z (zH Z Z zP Z yM) (oL Z (ab.ldB (j:=1) Z Z Z yR (v:=.slice ae O.Clocks.length af) Z) (oR Z (zH Z Z zt Z zE) (oL Z (ab.ldB (j:=0) Z Z Z zK (v:=jV p1.Index) Z) (bnK hm fun ap ac aH=>?_))))
 have q:=ao.el (fun _=>rfl) (wAb ac)
 obtain ⟨aK,aR,aq,av⟩:=q
 refine oR Z (ZT Z Z aq Z Za Zz (wBp ac) (wBx ac)) (oR Z (zH Z Z yi Z zm) (oR Z (zH Z Z ZJ Z zE) (oL Z (ab.ldC (f:=0) av (v:=jV ap.Offset.Lo) Z Z zK Z) (oR Z (Runs.negw Z Z) (oR Z (zH Z Z zP Z yM) (oL Z (ab.ldB (j:=1) Z Z Z yR (v:=.slice ae O.Clocks.length af) Z) (oR Z (zH Z Z zt Z zE) (oL Z (ab.ldB (j:=0) Z Z Z zK (v:=jV p1.Index) Z) ?_))))))))
 have q:=ao.el (fun _=>rfl) (wAb ac)
 obtain ⟨aL,aS,au,ax⟩:=q
 refine oR Z (ZT Z Z au Z Za Zz (wBp ac) (wBx ac)) (oR Z (zH Z Z yi Z zm) (oR Z (zH Z Z ZJ Z zE) (oL Z (ab.ldC (f:=1) ax (v:=jV ap.Offset.Hi) Z Z zK Z) (oA Z Z (oA Z Z (eN (zR ?_)))))))
 cases aH
 exact ⟨rfl,_,(wDk rfl rfl),U,_,(ab.pick [] _ (by decide) rfl),rfl,rfl⟩
end Go.Proofs.YtlnfbjphfoipaaaGreat
namespace Go.Proofs.YtlnfbjphfoipaaaGreat
open Go.KL
set_option maxHeartbeats 4000000
theorem wHP (p0:wAA) (ag:Option Addr) (aj:Nat) (ah:Option Addr) (ak:Nat) (ai:Option Addr) (am:Nat) (ae:Option Addr) (af:Nat) (p1:wAH) (w:World) (U:PHeap) (hS:St0 w U []) (aO:Sl U 1 ag aj p0.Starts.length (hD KL.encI p0.Starts)) (aP:Sl U 2 ah ak p0.Splits.length (hD wAC p0.Splits)) (aQ:Sl U 3 ai am p0.Clocks.length (hD wAE p0.Clocks)) (aR:Sl U 4 ae af p0.Readings.length (hD wAB p0.Readings)) {r:Bool} (hm:wEW p0 p1=some r):Gv Tryz.prog 142 [.agg #[.slice ag p0.Starts.length aj,.slice ah p0.Splits.length ak,.slice ai p0.Clocks.length am,.slice ae p0.Readings.length af],.agg #[jV p1.Kind,jV p1.Skier,jV p1.Index,.bool p1.Up]] w (wCF w [] U (fun U_ L_ v=>v=.bool r/\L_=[])):=by
 unfold wEW at hm
 refine Gv.of Tryz.func142 Z Tryz.ntmps142 Tryz.results142 Z (sR gAs Z ?_)
 let B0:List Value:=[.slice ag p0.Starts.length aj,.slice ah p0.Splits.length ak,.slice ai p0.Clocks.length am,.slice ae p0.Readings.length af]
 refine zq (cs:=B0) rfl rfl rfl rfl rfl rfl (by rfl) hS ?_
 intro W1 b2 aK
 let B1:List Value:=[jV p1.Kind,jV p1.Skier,jV p1.Index,.bool p1.Up]
 refine zq (cs:=B1) rfl rfl rfl rfl rfl rfl (by rfl) aK ?_
 intro W5 b6 ac
 refine oA Z Z (eN (sR (wMY gAx) Z (oR Z (zH Z Z zt Z zE) (oL Z (ac.ldB (j:=0) Z Z Z zK (v:=jV p1.Skier) Z) (oR Z (yV Z Z Z) (oM Z Z ?_))))))
 by_cases O:p1.Skier=0
 have aq:=hm;rw [if_pos O] at aq;replace O:=zM O
 refine rU Z (wT Z O) (zH Z Z zt Z zE) (zx Z Z Z (wT Z O) (ac.ldB (j:=0) Z Z Z zK (v:=jV p1.Index) Z) Z (rU Z (wT Z O) (zH Z Z zP Z Zk) (zx Z Z Z (wT Z O) (ac.ldB (j:=1) Z Z Z Zr (v:=.slice ae p0.Readings.length af) Z) Z (rU Z (wT Z O) (zi Z Z ZF) (rU Z (wT Z O) (yf Z Z Z) (bnK aq fun aU aH aL=>zC 0 Z Z Z (wT Z O) (zD Z Z yP (zB Z (zB Z (zB Z zL))) Z) ac (fun hs=>wCE p1.Index 0 (w64 ((↑p0.Readings.length:Int) - 1)) W5 U hs aH) (.inr Z) ?_))))))
 rintro ap aM aT av aS aI ⟨rfl,rfl⟩
 have aJ:sW w U ap [.blk b6 93 B1,.blk b2 27 B0] av:=aI
 refine oR Z (zS Z (Zh O.out) Z) (oA Z Z (eN (zR ?_)))
 have hE:=hH aL;first | subst r | cases hE
 exact ⟨rfl,_,(ZH rfl),ap,_,(aJ.pick [] _ (by decide) rfl),rfl,rfl⟩
 have au:=hm;rw [if_neg O] at au;replace O:=zM O
 refine oF Z O (oF Z O (oF Z O (oF Z O (oF Z O (oF Z O (ZA Z Z Z (zO Z Z (ZL O.out) Z) (oR Z (zZ Z (ZL O.out) Z) (oA Z Z (eN (zR ?_))))))))))
 have hE:=hH au;first | subst r | cases hE
 exact ⟨rfl,_,(ZH rfl),U,_,(ac.pick [] _ (by decide) rfl),rfl,rfl⟩
theorem wHQ (p0:wAA) (aY:Option Addr) (a5:Nat) (aZ:Option Addr) (a6:Nat) (a0:Option Addr) (a7:Nat) (aH:Option Addr) (aI:Nat) (p1:wAH) (w:World) (U:PHeap) (hS:St0 w U []) (fP:Sl U 1 aY a5 p0.Starts.length (hD KL.encI p0.Starts)) (fQ:Sl U 2 aZ a6 p0.Splits.length (hD wAC p0.Splits)) (fR:Sl U 3 a0 a7 p0.Clocks.length (hD wAE p0.Clocks)) (er:Sl U 4 aH aI p0.Readings.length (hD wAB p0.Readings)) {r:wAI × wAI} (hm:wDl p0 p1=some r):Gv Tryz.prog 143 [.agg #[.slice aY p0.Starts.length a5,.slice aZ p0.Splits.length a6,.slice a0 p0.Clocks.length a7,.slice aH p0.Readings.length aI],.agg #[jV p1.Kind,jV p1.Skier,jV p1.Index,.bool p1.Up]] w (wCF w [] U (fun U_ L_ v=>v=.tuple #[.agg #[jV r.1.skier,jV r.1.mat],.agg #[jV r.2.skier,jV r.2.mat]]/\L_=[])):=by
 unfold wDl at hm
 refine Gv.of Tryz.func143 Z Tryz.ntmps143 Tryz.results143 Z (sR gBe Z ?_)
 let B0:List Value:=[.slice aY p0.Starts.length a5,.slice aZ p0.Splits.length a6,.slice a0 p0.Clocks.length a7,.slice aH p0.Readings.length aI]
 refine zq (cs:=B0) rfl rfl rfl rfl rfl rfl (by rfl) hS ?_
 intro W1 b2 d5
 let B1:List Value:=[jV p1.Kind,jV p1.Skier,jV p1.Index,.bool p1.Up]
 refine zq (cs:=B1) rfl rfl rfl rfl rfl rfl (by rfl) d5 ?_
 intro W5 b6 ep
 let B2:List Value:=[jV 0,jV 0]
 refine zU (cs:=B2) Z Z Z Z Z zd Z ep ?_
 intro W9 ac dJ
 refine zU (cs:=B2) Z Z Z Z Z zd Z dJ ?_
 intro fh ae ax
 refine eN (sR (wFh gAm) Z (oR Z (zH Z Z zP Z Zk) (oL Z (ax.ldB (j:=3) Z Z Z Zr (v:=.slice aH p0.Readings.length aI) Z) (oR Z (zH Z Z zt Z zE) (oL Z (ax.ldB (j:=2) Z Z Z zK (v:=jV p1.Index) Z) (bnK hm fun aa aU eu=>?_))))))
 have q:=er.el (fun _=>rfl) (wAb aU)
 obtain ⟨fE,fT,dH,dI⟩:=q
 refine oR Z (ZT Z Z dH Z ZF ZW (wBp aU) (wBx aU)) (oL Z (ax.ldCA (f:=0) dI Z Z yb ZW (us:=[jV aa.Skier,jV aa.Mat,jV aa.Clock,jV aa.Time]) Z Z) (zU (cs:=[jV 0,jV 0,jV 0,jV 0]) Z Z Z Z Z yZ Z ax ?_))
 intro fw O dW
 let B3:List Value:=[jV aa.Skier,jV aa.Mat,jV aa.Clock,jV aa.Time]
 refine zY (j:=0) (vs:=B3) Z Z Z Z dW Z Z Z Z ZW (zA Z) Z Z Z ?_
 intro aM d4
 have d6:sW w U U [.blk O 115 B3,.blk ae 123 B2,.blk ac 123 B2,.blk b6 93 B1,.blk b2 27 B0] aM:=d4
 refine eN ?_
 have q:=bnd eu
 obtain ⟨⟨eM,eO⟩,ey,bL⟩:=q
 try dsimp only at bL
 let B4:List Value:=[jV aa.Skier,jV aa.Mat]
 let B5:List Value:=[jV eM,jV eO]
 refine yX (fun J_ w_=>∃ (U_:PHeap),J_ 4=.pointer (some ⟨ac,0,none⟩)/\J_ 5=.pointer (some ⟨ae,0,none⟩)/\PHeap.Le U U_/\sW w U U_ [.blk O 115 B3,.blk ae 123 B4,.blk ac 123 B5,.blk b6 93 B1,.blk b2 27 B0] w_) ?_ ?_
 refine bnK ey fun bX av ew=>ZI ZD [3,1,2,3,2,3,2,3,0,0] (.fl 0 (.fl 1 (.fl 3 (.fl 5 (.fx 2 (.fx 4 gBm (.fx 6 gBn (.fx 8 (.fx 4 gAy (.fx 6 gAz .stop)) .stop))) (.fx 4 (.fx 2 gBm (.fx 6 gBh .stop)) (.fx 6 (.fx 2 gBn (.fx 4 gBh .stop)) .stop))))))) (by kernel_rfl) ?_
 have ao:=d6.drew
 generalize hw_W54:({ aM with drawn:=aM.drawn + 1 }:World)=aN at ao ⊢
 let B6:List Value:=[jV bX.skier,jV bX.mat]
 refine Zj (s:=.nil) (M:=fun J_ w_=>∃ (U_:PHeap),J_ 4=.pointer (some ⟨ac,0,none⟩)/\J_ 5=.pointer (some ⟨ae,0,none⟩)/\J_ 6=.pointer (some ⟨O,0,none⟩)/\J_ 13=.pointer (some ⟨O,2,none⟩)/\J_ 14=jV aa.Clock/\J_ 15=.agg B6.toArray/\J_ 16=.pointer (some ⟨O,0,none⟩)/\J_ 17=jV aa.Skier/\J_ 18=.pointer (some ⟨O,1,none⟩)/\J_ 19=jV aa.Mat/\J_ 20=.agg B4.toArray/\PHeap.Le U U_/\sW w U U_ [.blk O 115 B3,.blk ae 123 B4,.blk ac 123 B6,.blk b6 93 B1,.blk b2 27 B0] w_) ?_ fun bM=>?_
 rintro eP fj ⟨bY,cu,cw,fG,fH,fI,fJ,fK,fL,fM,fN,fO,eB,dK⟩
 refine zb ?_
 cases ew
 exact zF ⟨Z,⟨bY,cu,cw,eB,dK⟩⟩
 refine Zj (s:=.fx 9 .nil .stop) (M:=fun J_ w_=>∃ (U_:PHeap),J_ 4=.pointer (some ⟨ac,0,none⟩)/\J_ 5=.pointer (some ⟨ae,0,none⟩)/\J_ 6=.pointer (some ⟨O,0,none⟩)/\J_ 13=.pointer (some ⟨O,2,none⟩)/\J_ 14=jV aa.Clock/\J_ 15=.agg B6.toArray/\J_ 16=.pointer (some ⟨O,0,none⟩)/\J_ 17=jV aa.Skier/\J_ 18=.pointer (some ⟨O,1,none⟩)/\J_ 19=jV aa.Mat/\J_ 20=.agg B4.toArray/\PHeap.Le U U_/\sW w U U_ [.blk O 115 B3,.blk ae 123 B2,.blk ac 123 B6,.blk b6 93 B1,.blk b2 27 B0] w_) ?_ fun bN=>?_
 rintro eQ fk ⟨a8,cx,bf,cy,cz,cA,cC,cD,cE,cG,cH,bg,eC,dL⟩
 refine zY (j:=1) (vs:=B4) Z Z Z Z dL Z bf bg Z zI (zA Z) Z Z Z ?_
 intro cc dM
 have dN:sW w U a8 [.blk O 115 B3,.blk ae 123 B4,.blk ac 123 B6,.blk b6 93 B1,.blk b2 27 B0] cc:=dM
 exact bM _ _ ⟨a8,cx,bf,cy,cz,cA,cC,cD,cE,cG,cH,bg,eC,dN⟩
 refine Zj (s:=gAn) (M:=fun J_ w_=>∃ (U_:PHeap),J_ 4=.pointer (some ⟨ac,0,none⟩)/\J_ 5=.pointer (some ⟨ae,0,none⟩)/\J_ 6=.pointer (some ⟨O,0,none⟩)/\J_ 13=.pointer (some ⟨O,2,none⟩)/\J_ 14=jV aa.Clock/\J_ 15=.agg B6.toArray/\J_ 16=.pointer (some ⟨O,0,none⟩)/\J_ 17=jV aa.Skier/\J_ 18=.pointer (some ⟨O,1,none⟩)/\J_ 19=jV aa.Mat/\J_ 20=.agg B4.toArray/\PHeap.Le U U_/\sW w U U_ [.blk O 115 B3,.blk ae 123 B2,.blk ac 123 B2,.blk b6 93 B1,.blk b2 27 B0] w_) ?_ fun eA=>?_
 rintro eR fm ⟨a9,bh,cI,cJ,cK,cL,bi,cM,cN,cO,cP,cQ,eD,dO⟩
 refine zY (j:=2) (vs:=B6) Z Z Z Z dO Z bh bi Z zI (zA Z) Z Z Z ?_
 intro cd dP
 have dQ:sW w U a9 [.blk O 115 B3,.blk ae 123 B2,.blk ac 123 B6,.blk b6 93 B1,.blk b2 27 B0] cd:=dP
 exact bN _ _ ⟨a9,bh,cI,cJ,cK,cL,bi,cM,cN,cO,cP,cQ,eD,dQ⟩
 refine Zj (s:=gAo) (M:=fun J_ w_=>∃ (U_:PHeap),J_ 4=.pointer (some ⟨ac,0,none⟩)/\J_ 5=.pointer (some ⟨ae,0,none⟩)/\J_ 6=.pointer (some ⟨O,0,none⟩)/\J_ 13=.pointer (some ⟨O,2,none⟩)/\J_ 14=jV aa.Clock/\J_ 15=.agg B6.toArray/\J_ 16=.pointer (some ⟨O,0,none⟩)/\J_ 17=jV aa.Skier/\J_ 18=.pointer (some ⟨O,1,none⟩)/\J_ 19=jV aa.Mat/\PHeap.Le U U_/\sW w U U_ [.blk O 115 B3,.blk ae 123 B2,.blk ac 123 B6,.blk b6 93 B1,.blk b2 27 B0] w_) ?_ fun bO=>?_
 rintro eS fq ⟨ba,cR,bj,cS,cU,cV,cW,cX,bk,cY,bm,eE,dR⟩
 refine oR Z (zu (pv:=[(0,jV aa.Skier),(1,jV aa.Mat)]) (z:=B2) (cs:=B4) Z (wAG bk (wAG bm wAP)) zd wBg Z Z) (zY (j:=1) (vs:=B4) Z Z Z Z dR Z bj Z Z zI (zA Z) Z Z Z ?_)
 intro cf dS
 have dT:sW w U ba [.blk O 115 B3,.blk ae 123 B4,.blk ac 123 B6,.blk b6 93 B1,.blk b2 27 B0] cf:=dS
 exact bM _ _ ⟨ba,cR,bj,cS,cU,cV,cW,cX,bk,cY,bm,Z,eE,dT⟩
 refine Zj (s:=gAz) (M:=fun J_ w_=>∃ (U_:PHeap),J_ 4=.pointer (some ⟨ac,0,none⟩)/\J_ 5=.pointer (some ⟨ae,0,none⟩)/\J_ 6=.pointer (some ⟨O,0,none⟩)/\J_ 13=.pointer (some ⟨O,2,none⟩)/\J_ 14=jV aa.Clock/\J_ 15=.agg B6.toArray/\J_ 16=.pointer (some ⟨O,0,none⟩)/\J_ 18=.pointer (some ⟨O,1,none⟩)/\J_ 19=jV aa.Mat/\PHeap.Le U U_/\sW w U U_ [.blk O 115 B3,.blk ae 123 B2,.blk ac 123 B6,.blk b6 93 B1,.blk b2 27 B0] w_) ?_ fun bP=>?_
 rintro eU ft ⟨bZ,cZ,c6,da,db,dd,de,bn,df,dg,eF,bJ⟩
 exact Zi Z Z Z Z (bJ.ldB (j:=0) Z Z bn zK (v:=jV aa.Skier) Z) (bO _ _ ⟨bZ,cZ,c6,da,db,dd,de,bn,Z,df,dg,eF,bJ⟩)
 refine Zj (s:=gAy) (M:=fun J_ w_=>∃ (U_:PHeap),J_ 4=.pointer (some ⟨ac,0,none⟩)/\J_ 5=.pointer (some ⟨ae,0,none⟩)/\J_ 6=.pointer (some ⟨O,0,none⟩)/\J_ 13=.pointer (some ⟨O,2,none⟩)/\J_ 14=jV aa.Clock/\J_ 15=.agg B6.toArray/\J_ 16=.pointer (some ⟨O,0,none⟩)/\J_ 17=jV aa.Skier/\J_ 18=.pointer (some ⟨O,1,none⟩)/\PHeap.Le U U_/\sW w U U_ [.blk O 115 B3,.blk ae 123 B2,.blk ac 123 B6,.blk b6 93 B1,.blk b2 27 B0] w_) ?_ fun bQ=>?_
 rintro eV fu ⟨b5,dh,di,dk,dl,dm,dp,dq,dr,bo,eG,bK⟩
 exact Zi Z Z Z Z (bK.ldB (j:=0) Z Z bo zK (v:=jV aa.Mat) Z) (bO _ _ ⟨b5,dh,di,dk,dl,dm,dp,dq,dr,bo,Z,eG,bK⟩)
 refine Zj (s:=.fl 7 gAn) (M:=fun J_ w_=>∃ (U_:PHeap),J_ 4=.pointer (some ⟨ac,0,none⟩)/\J_ 5=.pointer (some ⟨ae,0,none⟩)/\J_ 6=.pointer (some ⟨O,0,none⟩)/\J_ 13=.pointer (some ⟨O,2,none⟩)/\J_ 14=jV aa.Clock/\J_ 15=.agg B6.toArray/\J_ 16=.pointer (some ⟨O,0,none⟩)/\J_ 17=jV aa.Skier/\J_ 18=.pointer (some ⟨O,1,none⟩)/\J_ 19=jV aa.Mat/\PHeap.Le U U_/\sW w U U_ [.blk O 115 B3,.blk ae 123 B2,.blk ac 123 B2,.blk b6 93 B1,.blk b2 27 B0] w_) ?_ fun bR=>?_
 rintro eW fy ⟨bb,bp,dt,du,dv,dw,bq,dx,br,dy,bs,eH,dU⟩
 refine oR Z (zu (pv:=[(0,jV aa.Skier),(1,jV aa.Mat)]) (z:=B2) (cs:=B4) Z (wAG br (wAG bs wAP)) zd wBg Z Z) (zY (j:=2) (vs:=B6) Z Z Z Z dU Z bp bq Z zI (zA Z) Z Z Z ?_)
 intro cg dV
 have dX:sW w U bb [.blk O 115 B3,.blk ae 123 B2,.blk ac 123 B6,.blk b6 93 B1,.blk b2 27 B0] cg:=dV
 exact bN _ _ ⟨bb,bp,dt,du,dv,dw,bq,dx,br,dy,bs,Z,eH,dX⟩
 refine Zj (s:=gBh) (M:=fun J_ w_=>∃ (U_:PHeap),J_ 4=.pointer (some ⟨ac,0,none⟩)/\J_ 5=.pointer (some ⟨ae,0,none⟩)/\J_ 6=.pointer (some ⟨O,0,none⟩)/\J_ 13=.pointer (some ⟨O,2,none⟩)/\J_ 14=jV aa.Clock/\J_ 16=.pointer (some ⟨O,0,none⟩)/\J_ 17=jV aa.Skier/\J_ 18=.pointer (some ⟨O,1,none⟩)/\J_ 19=jV aa.Mat/\PHeap.Le U U_/\sW w U U_ [.blk O 115 B3,.blk ae 123 B2,.blk ac 123 B2,.blk b6 93 B1,.blk b2 27 B0] w_) ?_ fun bS=>?_
 rintro eZ cj ⟨ca,dz,dA,dB,dC,bt,dD,bu,dE,bv,eI,dY⟩
 refine oR Z (zu (pv:=[(0,jV aa.Skier),(1,jV aa.Mat)]) (z:=B2) (cs:=B4) Z (wAG bu (wAG bv wAP)) zd wBg Z Z) (zC 0 Z Z Z Z (zD Z Z Tryz.call70 (zB bt zL) Z) dY (fun hs=>wDI aa.Clock cj ca hs av) (.inr Z) ?_)
 rintro bc fb fU cm eJ dZ ⟨rfl,rfl⟩
 have d3:sW w U bc [.blk O 115 B3,.blk ae 123 B2,.blk ac 123 B2,.blk b6 93 B1,.blk b2 27 B0] cm:=dZ
 exact eA _ _ ⟨bc,dz,dA,dB,dC,bt,Z,dD,bu,dE,bv,Z,(eI.trans eJ),d3⟩
 refine Zj (s:=gBn) (M:=fun J_ w_=>∃ (U_:PHeap),J_ 4=.pointer (some ⟨ac,0,none⟩)/\J_ 5=.pointer (some ⟨ae,0,none⟩)/\J_ 6=.pointer (some ⟨O,0,none⟩)/\J_ 13=.pointer (some ⟨O,2,none⟩)/\J_ 14=jV aa.Clock/\J_ 15=.agg B6.toArray/\J_ 16=.pointer (some ⟨O,0,none⟩)/\J_ 18=.pointer (some ⟨O,1,none⟩)/\J_ 19=jV aa.Mat/\PHeap.Le U U_/\sW w U U_ [.blk O 115 B3,.blk ae 123 B2,.blk ac 123 B2,.blk b6 93 B1,.blk b2 27 B0] w_) ?_ fun bT=>?_
 rintro e6 fz ⟨aK,aO,bw,bx,bz,bA,aP,aQ,bB,bC,bV,aV⟩
 refine ZB ?_ ?_
 exact Zi Z Z Z Z (aV.ldB (j:=0) Z Z aQ zK (v:=jV aa.Skier) Z) (bR _ _ ⟨aK,aO,bw,bx,bz,bA,aP,aQ,Z,bB,bC,bV,aV⟩)
 refine zY (j:=2) (vs:=B6) Z Z Z Z aV Z aO aP Z zI (zA Z) Z Z Z ?_
 intro cn d7
 have d8:sW w U aK [.blk O 115 B3,.blk ae 123 B2,.blk ac 123 B6,.blk b6 93 B1,.blk b2 27 B0] cn:=d7
 exact bP _ _ ⟨aK,aO,bw,bx,bz,bA,aP,aQ,bB,bC,bV,d8⟩
 refine Zj (s:=gBm) (M:=fun J_ w_=>∃ (U_:PHeap),J_ 4=.pointer (some ⟨ac,0,none⟩)/\J_ 5=.pointer (some ⟨ae,0,none⟩)/\J_ 6=.pointer (some ⟨O,0,none⟩)/\J_ 13=.pointer (some ⟨O,2,none⟩)/\J_ 14=jV aa.Clock/\J_ 15=.agg B6.toArray/\J_ 16=.pointer (some ⟨O,0,none⟩)/\J_ 17=jV aa.Skier/\J_ 18=.pointer (some ⟨O,1,none⟩)/\PHeap.Le U U_/\sW w U U_ [.blk O 115 B3,.blk ae 123 B2,.blk ac 123 B2,.blk b6 93 B1,.blk b2 27 B0] w_) ?_ fun bU=>?_
 rintro e8 fA ⟨aL,aR,bD,bE,bF,bG,aS,bH,bI,aT,bW,aW⟩
 refine ZB ?_ ?_
 exact Zi Z Z Z Z (aW.ldB (j:=0) Z Z aT zK (v:=jV aa.Mat) Z) (bR _ _ ⟨aL,aR,bD,bE,bF,bG,aS,bH,bI,aT,Z,bW,aW⟩)
 refine zY (j:=2) (vs:=B6) Z Z Z Z aW Z aR aS Z zI (zA Z) Z Z Z ?_
 intro co d9
 have ef:sW w U aL [.blk O 115 B3,.blk ae 123 B2,.blk ac 123 B6,.blk b6 93 B1,.blk b2 27 B0] co:=d9
 exact bQ _ _ ⟨aL,aR,bD,bE,bF,bG,aS,bH,bI,aT,bW,ef⟩
 refine oR Z (zH Z Z Zn Z zE) (oL Z (ao.ldB (j:=0) Z Z Z zK (v:=jV aa.Clock) Z) (oR Z (zH Z Z Zn Z zE) (oR Z (zH Z Z Zn Z zE) (ZB ?_ ?_))))
 refine zC 0 Z Z Z Z (zD Z Z Tryz.call70 (zB Z zL) Z) ao (fun hs=>wDI aa.Clock aN U hs av) (.inr Z) ?_
 rintro aq fc fV cp az eg ⟨rfl,rfl⟩
 have au:sW w U aq [.blk O 115 B3,.blk ae 123 B2,.blk ac 123 B2,.blk b6 93 B1,.blk b2 27 B0] cp:=eg
 refine ZB ?_ ?_
 exact Zi Z Z Z Z (au.ldB (j:=0) Z Z Z zK (v:=jV aa.Skier) Z) (bU _ _ ⟨aq,Z,Z,Z,Z,Z,Z,Z,Z,Z,az,au⟩)
 refine ZB ?_ ?_
 exact Zi Z Z Z Z (au.ldB (j:=0) Z Z Z zK (v:=jV aa.Mat) Z) (bT _ _ ⟨aq,Z,Z,Z,Z,Z,Z,Z,Z,Z,az,au⟩)
 refine zY (j:=2) (vs:=B6) Z Z Z Z au Z Z Z Z zI (zA Z) Z Z Z ?_
 intro cq eh
 have ay:sW w U aq [.blk O 115 B3,.blk ae 123 B2,.blk ac 123 B6,.blk b6 93 B1,.blk b2 27 B0] cq:=eh
 refine ZB ?_ ?_
 exact Zi Z Z Z Z (ay.ldB (j:=0) Z Z Z zK (v:=jV aa.Skier) Z) (bQ _ _ ⟨aq,Z,Z,Z,Z,Z,Z,Z,Z,Z,az,ay⟩)
 exact Zi Z Z Z Z (ay.ldB (j:=0) Z Z Z zK (v:=jV aa.Mat) Z) (bP _ _ ⟨aq,Z,Z,Z,Z,Z,Z,Z,Z,Z,az,ay⟩)
 refine ZB ?_ ?_
 refine Zi Z Z Z Z (ao.ldB (j:=0) Z Z Z zK (v:=jV aa.Skier) Z) (ZB ?_ ?_)
 refine zC 0 Z Z Z Z (zD Z Z Tryz.call70 (zB Z zL) Z) ao (fun hs=>wDI aa.Clock aN U hs av) (.inr Z) ?_
 rintro bd fd fW cr eK ej ⟨rfl,rfl⟩
 have ek:sW w U bd [.blk O 115 B3,.blk ae 123 B2,.blk ac 123 B2,.blk b6 93 B1,.blk b2 27 B0] cr:=ej
 exact bU _ _ ⟨bd,Z,Z,Z,Z,Z,Z,Z,Z,Z,eK,ek⟩
 exact Zi Z Z Z Z (ao.ldB (j:=0) Z Z Z zK (v:=jV aa.Mat) Z) (bS _ _ ⟨U,Z,Z,Z,Z,Z,Z,Z,Z,Z,(zQ _),ao⟩)
 refine Zi Z Z Z Z (ao.ldB (j:=0) Z Z Z zK (v:=jV aa.Mat) Z) (ZB ?_ ?_)
 refine zC 0 Z Z Z Z (zD Z Z Tryz.call70 (zB Z zL) Z) ao (fun hs=>wDI aa.Clock aN U hs av) (.inr Z) ?_
 rintro be ff fY ct eL en ⟨rfl,rfl⟩
 have eo:sW w U be [.blk O 115 B3,.blk ae 123 B2,.blk ac 123 B2,.blk b6 93 B1,.blk b2 27 B0] ct:=en
 exact bT _ _ ⟨be,Z,Z,Z,Z,Z,Z,Z,Z,Z,eL,eo⟩
 exact Zi Z Z Z Z (ao.ldB (j:=0) Z Z Z zK (v:=jV aa.Skier) Z) (bS _ _ ⟨U,Z,Z,Z,Z,Z,Z,Z,Z,Z,(zQ _),ao⟩)
 rintro e9 fB ⟨cb,dF,dG,fS,aX⟩
 refine zR ?_
 cases bL
 exact ⟨rfl,_,(wER (rs:=[.cell 4 123,.cell 5 123]) (vs:=[.agg B5.toArray,.agg B4.toArray]) ⟨⟨_,dF,(wBF zj zI (aX.blkAt (k:=2) rfl) (vs:=B5) rfl rfl)⟩,⟨⟨_,dG,(wBF zj zI (aX.blkAt (k:=1) rfl) (vs:=B4) rfl rfl)⟩,trivial⟩⟩ rfl),cb,_,(aX.pick [] _ (by decide) rfl),rfl,rfl⟩
theorem wHR (O:wAA) (an:Option Addr) (ap:Nat) (ao:Option Addr) (aq:Nat) (af:Option Addr) (ag:Nat) (ai:Option Addr) (aj:Nat) (p1:wAH) (w:World) (U:PHeap) (hS:St0 w U []) (a8:Sl U 1 an ap O.Starts.length (hD KL.encI O.Starts)) (a9:Sl U 2 ao aq O.Splits.length (hD wAC O.Splits)) (ay:Sl U 3 af ag O.Clocks.length (hD wAE O.Clocks)) (aU:Sl U 4 ai aj O.Readings.length (hD wAB O.Readings)) {r:Int × Int} (hm:wDm O p1=some r):Gv Tryz.prog 144 [.agg #[.slice an O.Starts.length ap,.slice ao O.Splits.length aq,.slice af O.Clocks.length ag,.slice ai O.Readings.length aj],.agg #[jV p1.Kind,jV p1.Skier,jV p1.Index,.bool p1.Up]] w (wCF w [] U (fun U_ L_ v=>v=.tuple #[jV r.1,jV r.2]/\L_=[])):=by
 unfold wDm at hm
 refine Gv.of Tryz.func144 Z Tryz.ntmps144 Tryz.results144 Z (sR gBf Z ?_)
 let B0:List Value:=[.slice an O.Starts.length ap,.slice ao O.Splits.length aq,.slice af O.Clocks.length ag,.slice ai O.Readings.length aj]
 refine zq (cs:=B0) rfl rfl rfl rfl rfl rfl (by rfl) hS ?_
 intro W1 b2 aT
 let B1:List Value:=[jV p1.Kind,jV p1.Skier,jV p1.Index,.bool p1.Up]
 refine zq (cs:=B1) rfl rfl rfl rfl rfl rfl (by rfl) aT ?_
 intro W5 b6 ah
 refine oA Z Z (oA Z Z (eN (sR (wFh gAm) Z (oR Z (zH Z Z zP Z Zk) (oL Z (ah.ldB (j:=1) Z Z Z Zr (v:=.slice ai O.Readings.length aj) Z) (oR Z (zH Z Z zt Z zE) (oL Z (ah.ldB (j:=0) Z Z Z zK (v:=jV p1.Index) Z) (bnK hm fun x9 am aV=>?_))))))))
 have q:=aU.el (fun _=>rfl) (wAb am)
 obtain ⟨a5,ba,aK,aN⟩:=q
 refine oR Z (ZT Z Z aK Z ZF ZW (wBp am) (wBx am)) (oL Z (ah.ldCA (f:=0) aN Z Z yb ZW (us:=[jV x9.Skier,jV x9.Mat,jV x9.Clock,jV x9.Time]) Z Z) (zU (cs:=[jV 0,jV 0,jV 0,jV 0]) Z Z Z Z Z yZ Z ah ?_))
 intro aY aH aQ
 let B2:List Value:=[jV x9.Skier,jV x9.Mat,jV x9.Clock,jV x9.Time]
 refine zY (j:=0) (vs:=B2) Z Z Z Z aQ Z Z Z Z ZW (zA Z) Z Z Z ?_
 intro ak aR
 have aS:sW w U U [.blk aH 115 B2,.blk b6 93 B1,.blk b2 27 B0] ak:=aR
 refine eN (zJ (ZI ZD [3,1,3,1,3,1,3,3,1,3,3,1,3,1,3,3,1,3,1,3,3,3] fL22 (by kernel_rfl) ?_))
 have ab:=aS.drew
 generalize hw_W24:({ ak with drawn:=ak.drawn + 1 }:World)=aZ at ab ⊢
 refine oR Z (zH Z Z Zn Z zE) (oL Z (ab.ldB (j:=0) Z Z Z zK (v:=jV x9.Time) Z) (oR Z (zH Z Z zP Z yM) (oL Z (ab.ldB (j:=2) Z Z Z yR (v:=.slice af O.Clocks.length ag) Z) (oR Z (zH Z Z Zn Z zE) (oL Z (ab.ldB (j:=0) Z Z Z zK (v:=jV x9.Clock) Z) (bnK aV fun az ae aW=>?_))))))
 have q:=ay.el (fun _=>rfl) (wAb ae)
 obtain ⟨a6,bb,aL,aO⟩:=q
 refine oR Z (ZT Z Z aL Z Za Zz (wBp ae) (wBx ae)) (oR Z (zH Z Z yi Z zE) (oL Z (ab.ldC (f:=2) aO (v:=jV az.Error) Z Z zK Z) (oR Z (za Z Z Z) (oR Z (zH Z Z zP Z yM) (oL Z (ab.ldB (j:=2) Z Z Z yR (v:=.slice af O.Clocks.length ag) Z) (oR Z (zH Z Z Zn Z zE) (oL Z (ab.ldB (j:=0) Z Z Z zK (v:=jV x9.Clock) Z) ?_)))))))
 have q:=ay.el (fun _=>rfl) (wAb ae)
 obtain ⟨a7,bc,aM,aP⟩:=q
 refine oR Z (ZT Z Z aM Z Za Zz (wBp ae) (wBx ae)) (oR Z (zH Z Z yi Z zE) (oL Z (ab.ldC (f:=2) aP (v:=jV az.Error) Z Z zK Z) (oR Z (zH Z Z Zn Z zE) (oL Z (ab.ldB (j:=0) Z Z Z zK (v:=jV x9.Time) Z) (oR Z (yf Z Z Z) (oA Z Z (oA Z Z (eN (zR ?_)))))))))
 cases aW
 exact ⟨rfl,_,(wDk rfl rfl),U,_,(ab.pick [] _ (by decide) rfl),rfl,rfl⟩
theorem wBI  (w:World) (U:PHeap) (hS:St0 w U [])  {r:Unit} (hm:wBa =some r):Gv Tryz.prog 127 [] w (wCF w [] U (fun U_ L_ v=>v=.agg #[.func (.func 133) #[] #[],.func (.func 134) #[] #[],.func (.func 135) #[] #[],.func (.func 136) #[] #[],.func (.func 137) #[] #[],.func (.func 138) #[] #[],.func (.func 139) #[] #[],.func (.func 140) #[] #[],.func (.func 141) #[] #[],.func (.func 142) #[] #[],.func (.func 143) #[] #[],.func (.func 144) #[] #[]]/\L_=[])):=by
 unfold wBa at hm
 refine Gv.of Tryz.func127 Z Tryz.ntmps127 Tryz.results127 Z (sR (.fx 0 .nil .stop) Z ?_)
 let B0:List Value:=[.nilFunc,.nilFunc,.nilFunc,.nilFunc,.nilFunc,.nilFunc,.nilFunc,.nilFunc,.nilFunc,.nilFunc,.nilFunc,.nilFunc]
 refine zU (cs:=B0) Z Z Z Z Z Tryz.zeroValue201 Z hS ?_
 intro W1 b2 ak
 refine eN (sR (wHD (.fx 5 .nil .stop)) Z ?_)
 let B1:List Value:=[.nilFunc,.nilFunc,.nilFunc]
 let B2:List Value:=[.func (.func 133) #[] #[],.func (.func 134) #[] #[],.func (.func 135) #[] #[]]
 refine oR Z (zu (pv:=[(0,.func (.func 133) #[] #[]),(1,.func (.func 134) #[] #[]),(2,.func (.func 135) #[] #[])]) (z:=B1) (cs:=B2) Z (wAG Z (wAG Z (wAG Z wAP))) yE wGM Z Z) ?_
 let B3:List Value:=[.func (.func 136) #[] #[],.func (.func 137) #[] #[],.func (.func 138) #[] #[]]
 refine oR Z (zu (pv:=[(0,.func (.func 136) #[] #[]),(1,.func (.func 137) #[] #[]),(2,.func (.func 138) #[] #[])]) (z:=B1) (cs:=B3) Z (wAG Z (wAG Z (wAG Z wAP))) yE wGM Z Z) ?_
 let B4:List Value:=[.func (.func 139) #[] #[],.func (.func 140) #[] #[],.func (.func 141) #[] #[]]
 refine oR Z (zu (pv:=[(0,.func (.func 139) #[] #[]),(1,.func (.func 140) #[] #[]),(2,.func (.func 141) #[] #[])]) (z:=B1) (cs:=B4) Z (wAG Z (wAG Z (wAG Z wAP))) yE wGM Z Z) ?_
 let B5:List Value:=[.func (.func 142) #[] #[],.func (.func 143) #[] #[],.func (.func 144) #[] #[]]
 refine oR Z (zu (pv:=[(0,.func (.func 142) #[] #[]),(1,.func (.func 143) #[] #[]),(2,.func (.func 144) #[] #[])]) (z:=B1) (cs:=B5) Z (wAG Z (wAG Z (wAG Z wAP))) yE wGM Z Z) ?_
 let O:List Value:=[.func (.func 133) #[] #[],.func (.func 134) #[] #[],.func (.func 135) #[] #[],.func (.func 136) #[] #[],.func (.func 137) #[] #[],.func (.func 138) #[] #[],.func (.func 139) #[] #[],.func (.func 140) #[] #[],.func (.func 141) #[] #[],.func (.func 142) #[] #[],.func (.func 143) #[] #[],.func (.func 144) #[] #[]]
 refine oR Z (Runs.buildA (pv:=[(0,.agg B2.toArray),(1,.agg B3.toArray),(2,.agg B4.toArray),(3,.agg B5.toArray)]) (z:=B0) (cs:=O) Z (wAG Z (wAG Z (wAG Z (wAG Z wAP)))) Tryz.zeroValue201 Zs ZU Z Z) (zY (j:=0) (vs:=O) Z Z Z Z ak Z Z Z Z Tryz.sizeOf201 (zA Z) Z Z Z ?_)
 intro W5 am
 have ah:sW w U U [.blk b2 201 O] W5:=am
 refine eN (zR ?_)
 cases hm
 exact ⟨rfl,_,(wGy (v:=.agg O.toArray) ⟨⟨_,rfl,(wBF Tryz.isAgg201 Tryz.sizeOf201 (ah.blkAt (k:=0) rfl) (vs:=O) rfl rfl)⟩,trivial⟩),U,_,(ah.pick [] _ (by decide) rfl),rfl,rfl⟩
theorem wBw (p0:wAA) (a6:Option Addr) (ba:Nat) (a7:Option Addr) (bb:Nat) (a8:Option Addr) (bc:Nat) (a9:Option Addr) (bd:Nat) (O:wAH) (w:World) (U:PHeap) (hS:St0 w U []) (b5:Sl U 1 a6 ba p0.Starts.length (hD KL.encI p0.Starts)) (ca:Sl U 2 a7 bb p0.Splits.length (hD wAC p0.Splits)) (cb:Sl U 3 a8 bc p0.Clocks.length (hD wAE p0.Clocks)) (cc:Sl U 4 a9 bd p0.Readings.length (hD wAB p0.Readings)) {r:wAI × wAI × Int} (hm:wBb p0 O=some r):Gv Tryz.prog 107 [.agg #[.slice a6 p0.Starts.length ba,.slice a7 p0.Splits.length bb,.slice a8 p0.Clocks.length bc,.slice a9 p0.Readings.length bd],.agg #[jV O.Kind,jV O.Skier,jV O.Index,.bool O.Up]] w (wCF w [] U (fun U_ L_ v=>v=.tuple #[.agg #[jV r.1.skier,jV r.1.mat],.agg #[jV r.2.1.skier,jV r.2.1.mat],jV r.2.2]/\L_=[])):=by
 unfold wBb at hm
 refine Gv.of Tryz.func107 Z Tryz.ntmps107 Tryz.results107 Z ?_
 by_cases c1:O.Kind=0
 have eS:=hm;rw [if_pos c1] at eS
 refine sR gBo Z ?_
 let B0:List Value:=[.slice a6 p0.Starts.length ba,.slice a7 p0.Splits.length bb,.slice a8 p0.Clocks.length bc,.slice a9 p0.Readings.length bd]
 refine zq (cs:=B0) rfl rfl rfl rfl rfl rfl (by rfl) hS ?_
 intro W6 b7 lX
 let B1:List Value:=[jV O.Kind,jV O.Skier,jV O.Index,.bool O.Up]
 refine zq (cs:=B1) rfl rfl rfl rfl rfl rfl (by rfl) lX ?_
 intro mQ aM iL
 let B2:List Value:=[jV 0,jV 0]
 refine zU (cs:=B2) Z Z Z Z Z zd Z iL ?_
 intro mS ax iV
 refine zU (cs:=B2) Z Z Z Z Z zd Z iV ?_
 intro dA aH i6
 refine oA Z Z (eN ?_)
 have q:=bnd eS
 obtain ⟨⟨⟩,ma,eI⟩:=q
 try dsimp only at eI
 let B3:List Value:=[.func (.func 133) #[] #[],.func (.func 134) #[] #[],.func (.func 135) #[] #[]]
 refine yX (fun J_ w_=>∃ (U_:PHeap) (bf:Nat),J_ 2=.pointer (some ⟨b7,0,none⟩)/\J_ 3=.pointer (some ⟨aM,0,none⟩)/\J_ 4=.pointer (some ⟨ax,0,none⟩)/\J_ 5=.pointer (some ⟨aH,0,none⟩)/\J_ 7=.pointer (some ⟨bf,0,none⟩)/\PHeap.Le U U_/\sW w U U_ [.blk aH 123 B2,.blk ax 123 B2,.blk aM 93 B1,.blk b7 27 B0,.blk bf 200 B3] w_) ?_ ?_
 have q:=bnd ma
 obtain ⟨⟨⟩,d5,dq⟩:=q
 try dsimp only at dq
 refine ZI ZD [2,3,1,3,2,0] gBt (by kernel_rfl) ?_
 have bU:=i6.drew
 generalize hw_W45:({ dA with drawn:=dA.drawn + 1 }:World)=gg at bU ⊢
 refine oR Z (zH Z Z zt Z yN) (oL Z (bU.ldB (j:=2) Z Z Z yS (v:=jV O.Kind) Z) (ZB ?_ ?_))
 refine zC 0 Z Z Z Z (zD Z Z yT zL Z) bU (fun hs=>wBI gg U hs d5) (.inr Z) ?_
 rintro cI mH oH gq mh k8 ⟨rfl,rfl⟩
 have k9:sW w U cI [.blk aH 123 B2,.blk ax 123 B2,.blk aM 93 B1,.blk b7 27 B0] gq:=k8
 refine zg rfl rfl rfl rfl (fun _=>(yn (i:=0) rfl rfl (congrArg (jV) c1) Zs ZU (by decide) (by decide) (wDT yc ZU rfl))) (zU (cs:=[.nilFunc,.nilFunc,.nilFunc]) rfl rfl rfl rfl rfl yE rfl k9 ?_)
 intro n5 dK lm
 refine zY (j:=0) (vs:=B3) Z Z Z Z lm Z Z Z Z ZU (zA Z) Z Z Z ?_
 intro gA lv
 have lz:sW w U cI [.blk dK 200 B3,.blk aH 123 B2,.blk ax 123 B2,.blk aM 93 B1,.blk b7 27 B0] gA:=lv
 refine zb ?_
 cases dq
 exact zF ⟨rfl,⟨cI,dK,rfl,rfl,rfl,rfl,rfl,mh,(lz.pick [1,2,3,4,0] _ (by decide) rfl)⟩⟩
 refine zU (cs:=[.nilFunc,.nilFunc,.nilFunc]) Z Z Z Z Z yE Z bU ?_
 intro gF cU lL
 refine zC 0 Z Z Z Z (zD Z Z yT zL Z) lL (fun hs=>wBI gF U hs d5) (.inr Z) ?_
 rintro cL mM oQ gO mm lT ⟨rfl,rfl⟩
 have lU:sW w U cL [.blk cU 200 [.nilFunc,.nilFunc,.nilFunc],.blk aH 123 B2,.blk ax 123 B2,.blk aM 93 B1,.blk b7 27 B0] gO:=lT
 refine zg rfl rfl rfl rfl (fun _=>(yn (i:=0) rfl rfl (congrArg (jV) c1) Zs ZU (by decide) (by decide) (wDT yc ZU rfl))) (zY (j:=0) (vs:=B3) rfl rfl rfl rfl lU rfl rfl rfl rfl ZU (zA rfl) rfl rfl rfl ?_)
 intro gP lV
 have lW:sW w U cL [.blk cU 200 B3,.blk aH 123 B2,.blk ax 123 B2,.blk aM 93 B1,.blk b7 27 B0] gP:=lV
 refine zb ?_
 cases dq
 exact zF ⟨rfl,⟨cL,cU,rfl,rfl,rfl,rfl,rfl,mm,(lW.pick [1,2,3,4,0] _ (by decide) rfl)⟩⟩
 rintro mw gQ ⟨fB,bf,dV,db,bu,bq,dW,cp,bZ⟩
 refine sR (wEN (.fx 4 (wLu gAn) .stop)) Z (oR Z (zH Z dW Zv Z Tryz.sizeOf197) (oL Z (bZ.ldB (j:=4) Z Z Z Tryz.isAgg197 (v:=.func (.func 134) #[] #[]) Z) (oL Z (bZ.ldBA (j:=3) Z Z dV zn zc (vs:=B0) Z Z) (oL Z (bZ.ldBA (j:=2) Z Z db Zx Zg (vs:=B1) Z Z) ?_))))
 have ep:=b5.le cp
 have er:=ca.le cp
 have eu:=cb.le cp
 have ew:=cc.le cp
 have q:=bnd eI
 obtain ⟨⟨cy,cz⟩,iF,e8⟩:=q
 try dsimp only at e8
 refine zC 0 Z Z Z Z (zD Z Z Tryz.call134 (zB Z (zB Z zL)) Z) bZ (fun hs=>wHk p0 a6 ba a7 bb a8 bc a9 bd O gQ fB hs ep er eu ew iF) (.inr Z) ?_
 rintro bL mP oU gR cd iG ⟨rfl,rfl⟩
 have iH:sW w U bL [.blk aH 123 B2,.blk ax 123 B2,.blk aM 93 B1,.blk b7 27 B0,.blk bf 200 B3] gR:=iG
 refine oM Z Z (oR Z (zV Z Z (v:=.agg #[jV cy.skier,jV cy.mat]) Z) (oR Z (zV Z Z (v:=.agg #[jV cz.skier,jV cz.mat]) Z) ?_))
 let B4:List Value:=[jV cy.skier,jV cy.mat]
 refine zY (j:=1) (vs:=B4) Z Z Z Z iH Z bu Z Z zI (zA Z) Z Z Z ?_
 intro fC iI
 have iJ:sW w U bL [.blk aH 123 B2,.blk ax 123 B4,.blk aM 93 B1,.blk b7 27 B0,.blk bf 200 B3] fC:=iI
 let B5:List Value:=[jV cz.skier,jV cz.mat]
 refine zY (j:=0) (vs:=B5) Z Z Z Z iJ Z bq Z Z zI (zA Z) Z Z Z ?_
 intro dy iK
 have bN:sW w U bL [.blk aH 123 B5,.blk ax 123 B4,.blk aM 93 B1,.blk b7 27 B0,.blk bf 200 B3] dy:=iK
 refine eN (sR (wEN (.fx 4 (wJz (.nil)) .stop)) Z (oR Z (zH Z dW Zv Z Tryz.sizeOf198) (oL Z (bN.ldB (j:=4) Z Z Z Tryz.isAgg198 (v:=.func (.func 135) #[] #[]) Z) (oL Z (bN.ldBA (j:=3) Z Z dV zn zc (vs:=B0) Z Z) (oL Z (bN.ldBA (j:=2) Z Z db Zx Zg (vs:=B1) Z Z) ?_)))))
 have ie:=ep.le cd
 have ig:=er.le cd
 have ii:=eu.le cd
 have ij:=ew.le cd
 have q:=bnd e8
 obtain ⟨⟨du,ff⟩,ik,eD⟩:=q
 try dsimp only at eD
 refine zC 0 Z Z Z Z (zD Z Z Tryz.call135 (zB Z (zB Z zL)) Z) bN (fun hs=>wHl p0 a6 ba a7 bb a8 bc a9 bd O dy bL hs ie ig ii ij ik) (.inr Z) ?_
 rintro bi my ow cM oh iM ⟨rfl,rfl⟩
 have bA:sW w U bi [.blk aH 123 B5,.blk ax 123 B4,.blk aM 93 B1,.blk b7 27 B0,.blk bf 200 B3] cM:=iM
 refine oM Z Z (oR Z (zV Z Z (v:=jV du) Z) (oR Z (zV Z Z (v:=jV ff) Z) (oA Z Z (oA Z Z (eN (zJ (sR fL3 Z (oR Z (zH Z db zt Z Tryz.sizeOf4) (oL Z (bA.ldB (j:=2) Z Z Z Tryz.isAgg4 (v:=.bool O.Up) Z) (oR Z (ZY Z Z) (eN (ifc eD ?_ ?_))))))))))))
 intro cV lY
 refine zr (nC cV.out) (kN ?_)
 have q:=bnd lY
 obtain ⟨⟨⟩,e9,eE⟩:=q
 try dsimp only at eE
 refine yX (fun J_ w_=>∃ (U_:PHeap),J_ 4=.pointer (some ⟨ax,0,none⟩)/\J_ 5=.pointer (some ⟨aH,0,none⟩)/\J_ 6=jV du/\PHeap.Le bi U_/\sW w U U_ [.blk aH 123 B5,.blk ax 123 B4,.blk aM 93 B1,.blk b7 27 B0,.blk bf 200 B3] w_) ?_ ?_
 refine ZI ZD [1,2,3,0,0,3] gBu (by kernel_rfl) ?_
 have bB:=bA.drew
 generalize hw_W136:({ cM with drawn:=cM.drawn + 1 }:World)=mR at bB ⊢
 refine oL Z (bB.ldBA (j:=1) Z Z bu zj zI (vs:=B4) Z Z) (oM Z Z (ZB ?_ ?_))
 refine Zi Z Z Z Z (bB.ldBA (j:=0) Z Z bq zj zI (vs:=B5) Z Z) (zY (j:=1) (vs:=B4) Z Z Z Z bB Z bu Z Z zI (zA Z) Z Z Z ?_)
 intro fD iN
 have iO:sW w U bi [.blk aH 123 B5,.blk ax 123 B4,.blk aM 93 B1,.blk b7 27 B0,.blk bf 200 B3] fD:=iN
 refine zY (j:=0) (vs:=B5) Z Z Z Z iO Z bq Z Z zI (zA Z) Z Z Z ?_
 intro fE iP
 have iQ:sW w U bi [.blk aH 123 B5,.blk ax 123 B4,.blk aM 93 B1,.blk b7 27 B0,.blk bf 200 B3] fE:=iP
 refine oA Z Z (zb ?_)
 cases e9
 exact zF ⟨Z,⟨bi,bu,bq,Z,(zQ _),iQ⟩⟩
 refine zY (j:=1) (vs:=B4) Z Z Z Z bB Z bu Z Z zI (zA Z) Z Z Z ?_
 intro fG iR
 have ey:sW w U bi [.blk aH 123 B5,.blk ax 123 B4,.blk aM 93 B1,.blk b7 27 B0,.blk bf 200 B3] fG:=iR
 refine Zi Z Z Z Z (ey.ldBA (j:=0) Z Z bq zj zI (vs:=B5) Z Z) (zY (j:=0) (vs:=B5) Z Z Z Z ey Z bq Z Z zI (zA Z) Z Z Z ?_)
 intro fH iS
 have iT:sW w U bi [.blk aH 123 B5,.blk ax 123 B4,.blk aM 93 B1,.blk b7 27 B0,.blk bf 200 B3] fH:=iS
 refine oA Z Z (zb ?_)
 cases e9
 exact zF ⟨Z,⟨bi,bu,bq,Z,(zQ _),iT⟩⟩
 rintro mn mT ⟨fk,gT,gU,gV,oi,dd⟩
 refine zR ?_
 cases eE
 exact ⟨rfl,_,(wER (rs:=[.cell 4 123,.cell 5 123,.tmp 6]) (vs:=[.agg B4.toArray,.agg B5.toArray,jV du]) ⟨⟨_,gT,(wBF zj zI (dd.blkAt (k:=1) rfl) (vs:=B4) rfl rfl)⟩,⟨⟨_,gU,(wBF zj zI (dd.blkAt (k:=0) rfl) (vs:=B5) rfl rfl)⟩,⟨gV,trivial⟩⟩⟩ rfl),fk,_,(dd.pick [] _ (by decide) rfl),rfl,rfl⟩
 intro cV lZ
 refine ZK (nF (cV.out)) (sR (wDd gBa) Z (oL Z (bA.ldBA (j:=0) Z Z bq zj zI (vs:=B5) Z Z) (oL Z (bA.ldBA (j:=1) Z Z bu zj zI (vs:=B4) Z Z) (oM Z Z (zY (j:=1) (vs:=B5) Z Z Z Z bA Z bu Z Z zI (zA Z) Z Z Z ?_)))))
 intro fI iU
 have iW:sW w U bi [.blk aH 123 B5,.blk ax 123 B5,.blk aM 93 B1,.blk b7 27 B0,.blk bf 200 B3] fI:=iU
 refine zY (j:=0) (vs:=B4) Z Z Z Z iW Z bq Z Z zI (zA Z) Z Z Z ?_
 intro fJ iX
 have de:sW w U bi [.blk aH 123 B4,.blk ax 123 B5,.blk aM 93 B1,.blk b7 27 B0,.blk bf 200 B3] fJ:=iX
 refine oA Z Z (eN (zR (zT ?_)))
 cases lZ
 exact ⟨rfl,_,(wER (rs:=[.cell 4 123,.cell 5 123,.tmp 6]) (vs:=[.agg B5.toArray,.agg B4.toArray,jV ff]) ⟨⟨_,bu,(wBF zj zI (de.blkAt (k:=1) rfl) (vs:=B5) rfl rfl)⟩,⟨⟨_,bq,(wBF zj zI (de.blkAt (k:=0) rfl) (vs:=B4) rfl rfl)⟩,⟨rfl,trivial⟩⟩⟩ rfl),bi,_,(de.pick [] _ (by decide) rfl),rfl,rfl⟩
 by_cases c2:O.Kind=1
 have eF:=hm;rw [if_neg c1,if_pos c2] at eF
 refine sR gBo Z ?_
 let B6:List Value:=[.slice a6 p0.Starts.length ba,.slice a7 p0.Splits.length bb,.slice a8 p0.Clocks.length bc,.slice a9 p0.Readings.length bd]
 refine zq (cs:=B6) rfl rfl rfl rfl rfl rfl (by rfl) hS ?_
 intro mU aN iY
 let B7:List Value:=[jV O.Kind,jV O.Skier,jV O.Index,.bool O.Up]
 refine zq (cs:=B7) rfl rfl rfl rfl rfl rfl (by rfl) iY ?_
 intro mV aO iZ
 let B8:List Value:=[jV 0,jV 0]
 refine zU (cs:=B8) Z Z Z Z Z zd Z iZ ?_
 intro mW ay i2
 refine zU (cs:=B8) Z Z Z Z Z zd Z i2 ?_
 intro dz az i4
 refine oA Z Z (eN ?_)
 have q:=bnd eF
 obtain ⟨⟨⟩,l8,eG⟩:=q
 try dsimp only at eG
 let B9:List Value:=[.func (.func 136) #[] #[],.func (.func 137) #[] #[],.func (.func 138) #[] #[]]
 refine yX (fun J_ w_=>∃ (U_:PHeap) (be:Nat),J_ 2=.pointer (some ⟨aN,0,none⟩)/\J_ 3=.pointer (some ⟨aO,0,none⟩)/\J_ 4=.pointer (some ⟨ay,0,none⟩)/\J_ 5=.pointer (some ⟨az,0,none⟩)/\J_ 7=.pointer (some ⟨be,0,none⟩)/\PHeap.Le U U_/\sW w U U_ [.blk az 123 B8,.blk ay 123 B8,.blk aO 93 B7,.blk aN 27 B6,.blk be 200 B9] w_) ?_ ?_
 have q:=bnd l8
 obtain ⟨⟨⟩,dX,dm⟩:=q
 try dsimp only at dm
 refine ZI ZD [2,3,1,3,2,0] gBt (by kernel_rfl) ?_
 have bO:=i4.drew
 generalize hw_W204:({ dz with drawn:=dz.drawn + 1 }:World)=fK at bO ⊢
 refine oR Z (zH Z Z zt Z yN) (oL Z (bO.ldB (j:=2) Z Z Z yS (v:=jV O.Kind) Z) (ZB ?_ ?_))
 refine zC 0 Z Z Z Z (zD Z Z yT zL Z) bO (fun hs=>wBI fK U hs dX) (.inr Z) ?_
 rintro cD mz ox fL md i8 ⟨rfl,rfl⟩
 have i9:sW w U cD [.blk az 123 B8,.blk ay 123 B8,.blk aO 93 B7,.blk aN 27 B6] fL:=i8
 refine zg rfl rfl rfl rfl (fun _=>(yn (i:=1) rfl rfl (congrArg (jV) c2) Zs ZU (by decide) (by decide) (wDT yc ZU rfl))) (zU (cs:=[.nilFunc,.nilFunc,.nilFunc]) rfl rfl rfl rfl rfl yE rfl i9 ?_)
 intro mX dH ja
 refine zY (j:=0) (vs:=B9) Z Z Z Z ja Z Z Z Z ZU (zA Z) Z Z Z ?_
 intro fM jb
 have jc:sW w U cD [.blk dH 200 B9,.blk az 123 B8,.blk ay 123 B8,.blk aO 93 B7,.blk aN 27 B6] fM:=jb
 refine zb ?_
 cases dm
 exact zF ⟨rfl,⟨cD,dH,rfl,rfl,rfl,rfl,rfl,md,(jc.pick [1,2,3,4,0] _ (by decide) rfl)⟩⟩
 refine zU (cs:=[.nilFunc,.nilFunc,.nilFunc]) Z Z Z Z Z yE Z bO ?_
 intro fN cQ jd
 refine zC 0 Z Z Z Z (zD Z Z yT zL Z) jd (fun hs=>wBI fN U hs dX) (.inr Z) ?_
 rintro cE mA oy fO me je ⟨rfl,rfl⟩
 have jf:sW w U cE [.blk cQ 200 [.nilFunc,.nilFunc,.nilFunc],.blk az 123 B8,.blk ay 123 B8,.blk aO 93 B7,.blk aN 27 B6] fO:=je
 refine zg rfl rfl rfl rfl (fun _=>(yn (i:=1) rfl rfl (congrArg (jV) c2) Zs ZU (by decide) (by decide) (wDT yc ZU rfl))) (zY (j:=0) (vs:=B9) rfl rfl rfl rfl jf rfl rfl rfl rfl ZU (zA rfl) rfl rfl rfl ?_)
 intro fP jg
 have jh:sW w U cE [.blk cQ 200 B9,.blk az 123 B8,.blk ay 123 B8,.blk aO 93 B7,.blk aN 27 B6] fP:=jg
 refine zb ?_
 cases dm
 exact zF ⟨rfl,⟨cE,cQ,rfl,rfl,rfl,rfl,rfl,me,(jh.pick [1,2,3,4,0] _ (by decide) rfl)⟩⟩
 rintro mo fQ ⟨fm,be,dP,cZ,br,bn,dQ,cf,bP⟩
 refine sR (wEN (.fx 4 (wLu gAn) .stop)) Z (oR Z (zH Z dQ Zv Z Tryz.sizeOf197) (oL Z (bP.ldB (j:=4) Z Z Z Tryz.isAgg197 (v:=.func (.func 137) #[] #[]) Z) (oL Z (bP.ldBA (j:=3) Z Z dP zn zc (vs:=B6) Z Z) (oL Z (bP.ldBA (j:=2) Z Z cZ Zx Zg (vs:=B7) Z Z) ?_))))
 have dY:=b5.le cf
 have dZ:=ca.le cf
 have d3:=cb.le cf
 have d4:=cc.le cf
 have q:=bnd eG
 obtain ⟨⟨cq,cr⟩,il,eH⟩:=q
 try dsimp only at eH
 refine zC 0 Z Z Z Z (zD Z Z Tryz.call137 (zB Z (zB Z zL)) Z) bP (fun hs=>wHn p0 a6 ba a7 bb a8 bc a9 bd O fQ fm hs dY dZ d3 d4 il) (.inr Z) ?_
 rintro bI mB oz fR cg ji ⟨rfl,rfl⟩
 have jj:sW w U bI [.blk az 123 B8,.blk ay 123 B8,.blk aO 93 B7,.blk aN 27 B6,.blk be 200 B9] fR:=ji
 refine oM Z Z (oR Z (zV Z Z (v:=.agg #[jV cq.skier,jV cq.mat]) Z) (oR Z (zV Z Z (v:=.agg #[jV cr.skier,jV cr.mat]) Z) ?_))
 let ai:List Value:=[jV cq.skier,jV cq.mat]
 refine zY (j:=1) (vs:=ai) Z Z Z Z jj Z br Z Z zI (zA Z) Z Z Z ?_
 intro fS jk
 have jl:sW w U bI [.blk az 123 B8,.blk ay 123 ai,.blk aO 93 B7,.blk aN 27 B6,.blk be 200 B9] fS:=jk
 let ab:List Value:=[jV cr.skier,jV cr.mat]
 refine zY (j:=0) (vs:=ab) Z Z Z Z jl Z bn Z Z zI (zA Z) Z Z Z ?_
 intro dB jm
 have bQ:sW w U bI [.blk az 123 ab,.blk ay 123 ai,.blk aO 93 B7,.blk aN 27 B6,.blk be 200 B9] dB:=jm
 refine eN (sR (wEN (.fx 4 (wJz (.nil)) .stop)) Z (oR Z (zH Z dQ Zv Z Tryz.sizeOf198) (oL Z (bQ.ldB (j:=4) Z Z Z Tryz.isAgg198 (v:=.func (.func 138) #[] #[]) Z) (oL Z (bQ.ldBA (j:=3) Z Z dP zn zc (vs:=B6) Z Z) (oL Z (bQ.ldBA (j:=2) Z Z cZ Zx Zg (vs:=B7) Z Z) ?_)))))
 have im:=dY.le cg
 have io:=dZ.le cg
 have ip:=d3.le cg
 have iq:=d4.le cg
 have q:=bnd eH
 obtain ⟨⟨dv,fg⟩,ir,eJ⟩:=q
 try dsimp only at eJ
 refine zC 0 Z Z Z Z (zD Z Z Tryz.call138 (zB Z (zB Z zL)) Z) bQ (fun hs=>wHo p0 a6 ba a7 bb a8 bc a9 bd O dB bI hs im io ip iq ir) (.inr Z) ?_
 rintro bj mC oB cN oj jo ⟨rfl,rfl⟩
 have bC:sW w U bj [.blk az 123 ab,.blk ay 123 ai,.blk aO 93 B7,.blk aN 27 B6,.blk be 200 B9] cN:=jo
 refine oM Z Z (oR Z (zV Z Z (v:=jV dv) Z) (oR Z (zV Z Z (v:=jV fg) Z) (oA Z Z (oA Z Z (eN (zJ (sR fL3 Z (oR Z (zH Z cZ zt Z Tryz.sizeOf4) (oL Z (bC.ldB (j:=2) Z Z Z Tryz.isAgg4 (v:=.bool O.Up) Z) (oR Z (ZY Z Z) (eN (ifc eJ ?_ ?_))))))))))))
 intro cW l0
 refine zr (nC cW.out) (kN ?_)
 have q:=bnd l0
 obtain ⟨⟨⟩,fb,eK⟩:=q
 try dsimp only at eK
 refine yX (fun J_ w_=>∃ (U_:PHeap),J_ 4=.pointer (some ⟨ay,0,none⟩)/\J_ 5=.pointer (some ⟨az,0,none⟩)/\J_ 6=jV dv/\PHeap.Le bj U_/\sW w U U_ [.blk az 123 ab,.blk ay 123 ai,.blk aO 93 B7,.blk aN 27 B6,.blk be 200 B9] w_) ?_ ?_
 refine ZI ZD [1,2,3,0,0,3] gBu (by kernel_rfl) ?_
 have bD:=bC.drew
 generalize hw_W295:({ cN with drawn:=cN.drawn + 1 }:World)=mY at bD ⊢
 refine oL Z (bD.ldBA (j:=1) Z Z br zj zI (vs:=ai) Z Z) (oM Z Z (ZB ?_ ?_))
 refine Zi Z Z Z Z (bD.ldBA (j:=0) Z Z bn zj zI (vs:=ab) Z Z) (zY (j:=1) (vs:=ai) Z Z Z Z bD Z br Z Z zI (zA Z) Z Z Z ?_)
 intro fT jp
 have jq:sW w U bj [.blk az 123 ab,.blk ay 123 ai,.blk aO 93 B7,.blk aN 27 B6,.blk be 200 B9] fT:=jp
 refine zY (j:=0) (vs:=ab) Z Z Z Z jq Z bn Z Z zI (zA Z) Z Z Z ?_
 intro fU jr
 have jt:sW w U bj [.blk az 123 ab,.blk ay 123 ai,.blk aO 93 B7,.blk aN 27 B6,.blk be 200 B9] fU:=jr
 refine oA Z Z (zb ?_)
 cases fb
 exact zF ⟨Z,⟨bj,br,bn,Z,(zQ _),jt⟩⟩
 refine zY (j:=1) (vs:=ai) Z Z Z Z bD Z br Z Z zI (zA Z) Z Z Z ?_
 intro fV ju
 have eA:sW w U bj [.blk az 123 ab,.blk ay 123 ai,.blk aO 93 B7,.blk aN 27 B6,.blk be 200 B9] fV:=ju
 refine Zi Z Z Z Z (eA.ldBA (j:=0) Z Z bn zj zI (vs:=ab) Z Z) (zY (j:=0) (vs:=ab) Z Z Z Z eA Z bn Z Z zI (zA Z) Z Z Z ?_)
 intro fW jv
 have jw:sW w U bj [.blk az 123 ab,.blk ay 123 ai,.blk aO 93 B7,.blk aN 27 B6,.blk be 200 B9] fW:=jv
 refine oA Z Z (zb ?_)
 cases fb
 exact zF ⟨Z,⟨bj,br,bn,Z,(zQ _),jw⟩⟩
 rintro mp mZ ⟨fq,gW,gX,gY,ol,df⟩
 refine zR ?_
 cases eK
 exact ⟨rfl,_,(wER (rs:=[.cell 4 123,.cell 5 123,.tmp 6]) (vs:=[.agg ai.toArray,.agg ab.toArray,jV dv]) ⟨⟨_,gW,(wBF zj zI (df.blkAt (k:=1) rfl) (vs:=ai) rfl rfl)⟩,⟨⟨_,gX,(wBF zj zI (df.blkAt (k:=0) rfl) (vs:=ab) rfl rfl)⟩,⟨gY,trivial⟩⟩⟩ rfl),fq,_,(df.pick [] _ (by decide) rfl),rfl,rfl⟩
 intro cW l3
 refine ZK (nF (cW.out)) (sR (wDd gBa) Z (oL Z (bC.ldBA (j:=0) Z Z bn zj zI (vs:=ab) Z Z) (oL Z (bC.ldBA (j:=1) Z Z br zj zI (vs:=ai) Z Z) (oM Z Z (zY (j:=1) (vs:=ab) Z Z Z Z bC Z br Z Z zI (zA Z) Z Z Z ?_)))))
 intro fY jx
 have jy:sW w U bj [.blk az 123 ab,.blk ay 123 ab,.blk aO 93 B7,.blk aN 27 B6,.blk be 200 B9] fY:=jx
 refine zY (j:=0) (vs:=ai) Z Z Z Z jy Z bn Z Z zI (zA Z) Z Z Z ?_
 intro fZ jz
 have dg:sW w U bj [.blk az 123 ai,.blk ay 123 ab,.blk aO 93 B7,.blk aN 27 B6,.blk be 200 B9] fZ:=jz
 refine oA Z Z (eN (zR (zT ?_)))
 cases l3
 exact ⟨rfl,_,(wER (rs:=[.cell 4 123,.cell 5 123,.tmp 6]) (vs:=[.agg ab.toArray,.agg ai.toArray,jV fg]) ⟨⟨_,br,(wBF zj zI (dg.blkAt (k:=1) rfl) (vs:=ab) rfl rfl)⟩,⟨⟨_,bn,(wBF zj zI (dg.blkAt (k:=0) rfl) (vs:=ai) rfl rfl)⟩,⟨rfl,trivial⟩⟩⟩ rfl),bj,_,(dg.pick [] _ (by decide) rfl),rfl,rfl⟩
 by_cases c3:O.Kind=2
 have eL:=hm;rw [if_neg c1,if_neg c2,if_pos c3] at eL
 refine sR gBo Z ?_
 let aj:List Value:=[.slice a6 p0.Starts.length ba,.slice a7 p0.Splits.length bb,.slice a8 p0.Clocks.length bc,.slice a9 p0.Readings.length bd]
 refine zq (cs:=aj) rfl rfl rfl rfl rfl rfl (by rfl) hS ?_
 intro m3 aP jA
 let ak:List Value:=[jV O.Kind,jV O.Skier,jV O.Index,.bool O.Up]
 refine zq (cs:=ak) rfl rfl rfl rfl rfl rfl (by rfl) jA ?_
 intro m4 aQ jB
 let aY:List Value:=[jV 0,jV 0]
 refine zU (cs:=aY) Z Z Z Z Z zd Z jB ?_
 intro m5 aI jC
 refine zU (cs:=aY) Z Z Z Z Z zd Z jC ?_
 intro dC aJ jD
 refine oA Z Z (eN ?_)
 have q:=bnd eL
 obtain ⟨⟨⟩,mb,eM⟩:=q
 try dsimp only at eM
 let aU:List Value:=[.func (.func 139) #[] #[],.func (.func 140) #[] #[],.func (.func 141) #[] #[]]
 refine yX (fun J_ w_=>∃ (U_:PHeap) (bg:Nat),J_ 2=.pointer (some ⟨aP,0,none⟩)/\J_ 3=.pointer (some ⟨aQ,0,none⟩)/\J_ 4=.pointer (some ⟨aI,0,none⟩)/\J_ 5=.pointer (some ⟨aJ,0,none⟩)/\J_ 7=.pointer (some ⟨bg,0,none⟩)/\PHeap.Le U U_/\sW w U U_ [.blk aJ 123 aY,.blk aI 123 aY,.blk aQ 93 ak,.blk aP 27 aj,.blk bg 200 aU] w_) ?_ ?_
 have q:=bnd mb
 obtain ⟨⟨⟩,d6,dp⟩:=q
 try dsimp only at dp
 refine ZI ZD [2,3,1,3,2,0] gBt (by kernel_rfl) ?_
 have bR:=jD.drew
 generalize hw_W363:({ dC with drawn:=dC.drawn + 1 }:World)=f5 at bR ⊢
 refine oR Z (zH Z Z zt Z yN) (oL Z (bR.ldB (j:=2) Z Z Z yS (v:=jV O.Kind) Z) (ZB ?_ ?_))
 refine zC 0 Z Z Z Z (zD Z Z yT zL Z) bR (fun hs=>wBI f5 U hs d6) (.inr Z) ?_
 rintro cG mD oC f6 mf jE ⟨rfl,rfl⟩
 have jF:sW w U cG [.blk aJ 123 aY,.blk aI 123 aY,.blk aQ 93 ak,.blk aP 27 aj] f6:=jE
 refine zg rfl rfl rfl rfl (fun _=>(yn (i:=2) rfl rfl (congrArg (jV) c3) Zs ZU (by decide) (by decide) (wDT yc ZU rfl))) (zU (cs:=[.nilFunc,.nilFunc,.nilFunc]) rfl rfl rfl rfl rfl yE rfl jF ?_)
 intro m6 dI jG
 refine zY (j:=0) (vs:=aU) Z Z Z Z jG Z Z Z Z ZU (zA Z) Z Z Z ?_
 intro f7 jH
 have jI:sW w U cG [.blk dI 200 aU,.blk aJ 123 aY,.blk aI 123 aY,.blk aQ 93 ak,.blk aP 27 aj] f7:=jH
 refine zb ?_
 cases dp
 exact zF ⟨rfl,⟨cG,dI,rfl,rfl,rfl,rfl,rfl,mf,(jI.pick [1,2,3,4,0] _ (by decide) rfl)⟩⟩
 refine zU (cs:=[.nilFunc,.nilFunc,.nilFunc]) Z Z Z Z Z yE Z bR ?_
 intro f8 cR jJ
 refine zC 0 Z Z Z Z (zD Z Z yT zL Z) jJ (fun hs=>wBI f8 U hs d6) (.inr Z) ?_
 rintro cH mE oD f9 mg jK ⟨rfl,rfl⟩
 have jL:sW w U cH [.blk cR 200 [.nilFunc,.nilFunc,.nilFunc],.blk aJ 123 aY,.blk aI 123 aY,.blk aQ 93 ak,.blk aP 27 aj] f9:=jK
 refine zg rfl rfl rfl rfl (fun _=>(yn (i:=2) rfl rfl (congrArg (jV) c3) Zs ZU (by decide) (by decide) (wDT yc ZU rfl))) (zY (j:=0) (vs:=aU) rfl rfl rfl rfl jL rfl rfl rfl rfl ZU (zA rfl) rfl rfl rfl ?_)
 intro ga jM
 have jN:sW w U cH [.blk cR 200 aU,.blk aJ 123 aY,.blk aI 123 aY,.blk aQ 93 ak,.blk aP 27 aj] ga:=jM
 refine zb ?_
 cases dp
 exact zF ⟨rfl,⟨cH,cR,rfl,rfl,rfl,rfl,rfl,mg,(jN.pick [1,2,3,4,0] _ (by decide) rfl)⟩⟩
 rintro mq gb ⟨ft,bg,dR,c6,bs,bo,dS,cj,bS⟩
 refine sR (wEN (.fx 4 (wLu gAn) .stop)) Z (oR Z (zH Z dS Zv Z Tryz.sizeOf197) (oL Z (bS.ldB (j:=4) Z Z Z Tryz.isAgg197 (v:=.func (.func 140) #[] #[]) Z) (oL Z (bS.ldBA (j:=3) Z Z dR zn zc (vs:=aj) Z Z) (oL Z (bS.ldBA (j:=2) Z Z c6 Zx Zg (vs:=ak) Z Z) ?_))))
 have d7:=b5.le cj
 have d8:=ca.le cj
 have d9:=cb.le cj
 have ef:=cc.le cj
 have q:=bnd eM
 obtain ⟨⟨ct,cu⟩,it,eO⟩:=q
 try dsimp only at eO
 refine zC 0 Z Z Z Z (zD Z Z Tryz.call140 (zB Z (zB Z zL)) Z) bS (fun hs=>wHq p0 a6 ba a7 bb a8 bc a9 bd O gb ft hs d7 d8 d9 ef it) (.inr Z) ?_
 rintro bJ mF oE ge cm jO ⟨rfl,rfl⟩
 have jP:sW w U bJ [.blk aJ 123 aY,.blk aI 123 aY,.blk aQ 93 ak,.blk aP 27 aj,.blk bg 200 aU] ge:=jO
 refine oM Z Z (oR Z (zV Z Z (v:=.agg #[jV ct.skier,jV ct.mat]) Z) (oR Z (zV Z Z (v:=.agg #[jV cu.skier,jV cu.mat]) Z) ?_))
 let am:List Value:=[jV ct.skier,jV ct.mat]
 refine zY (j:=1) (vs:=am) Z Z Z Z jP Z bs Z Z zI (zA Z) Z Z Z ?_
 intro gf jQ
 have jR:sW w U bJ [.blk aJ 123 aY,.blk aI 123 am,.blk aQ 93 ak,.blk aP 27 aj,.blk bg 200 aU] gf:=jQ
 let ac:List Value:=[jV cu.skier,jV cu.mat]
 refine zY (j:=0) (vs:=ac) Z Z Z Z jR Z bo Z Z zI (zA Z) Z Z Z ?_
 intro dD jS
 have bT:sW w U bJ [.blk aJ 123 ac,.blk aI 123 am,.blk aQ 93 ak,.blk aP 27 aj,.blk bg 200 aU] dD:=jS
 refine eN (sR (wEN (.fx 4 (wJz (.nil)) .stop)) Z (oR Z (zH Z dS Zv Z Tryz.sizeOf198) (oL Z (bT.ldB (j:=4) Z Z Z Tryz.isAgg198 (v:=.func (.func 141) #[] #[]) Z) (oL Z (bT.ldBA (j:=3) Z Z dR zn zc (vs:=aj) Z Z) (oL Z (bT.ldBA (j:=2) Z Z c6 Zx Zg (vs:=ak) Z Z) ?_)))))
 have iu:=d7.le cm
 have iv:=d8.le cm
 have iw:=d9.le cm
 have ix:=ef.le cm
 have q:=bnd eO
 obtain ⟨⟨dw,fh⟩,iy,eP⟩:=q
 try dsimp only at eP
 refine zC 0 Z Z Z Z (zD Z Z Tryz.call141 (zB Z (zB Z zL)) Z) bT (fun hs=>wHr p0 a6 ba a7 bb a8 bc a9 bd O dD bJ hs iu iv iw ix iy) (.inr Z) ?_
 rintro bk mG oG cO om jT ⟨rfl,rfl⟩
 have bE:sW w U bk [.blk aJ 123 ac,.blk aI 123 am,.blk aQ 93 ak,.blk aP 27 aj,.blk bg 200 aU] cO:=jT
 refine oM Z Z (oR Z (zV Z Z (v:=jV dw) Z) (oR Z (zV Z Z (v:=jV fh) Z) (oA Z Z (oA Z Z (eN (zJ (sR fL3 Z (oR Z (zH Z c6 zt Z Tryz.sizeOf4) (oL Z (bE.ldB (j:=2) Z Z Z Tryz.isAgg4 (v:=.bool O.Up) Z) (oR Z (ZY Z Z) (eN (ifc eP ?_ ?_))))))))))))
 intro cX l4
 refine zr (nC cX.out) (kN ?_)
 have q:=bnd l4
 obtain ⟨⟨⟩,fc,eQ⟩:=q
 try dsimp only at eQ
 refine yX (fun J_ w_=>∃ (U_:PHeap),J_ 4=.pointer (some ⟨aI,0,none⟩)/\J_ 5=.pointer (some ⟨aJ,0,none⟩)/\J_ 6=jV dw/\PHeap.Le bk U_/\sW w U U_ [.blk aJ 123 ac,.blk aI 123 am,.blk aQ 93 ak,.blk aP 27 aj,.blk bg 200 aU] w_) ?_ ?_
 refine ZI ZD [1,2,3,0,0,3] gBu (by kernel_rfl) ?_
 have bF:=bE.drew
 generalize hw_W454:({ cO with drawn:=cO.drawn + 1 }:World)=m7 at bF ⊢
 refine oL Z (bF.ldBA (j:=1) Z Z bs zj zI (vs:=am) Z Z) (oM Z Z (ZB ?_ ?_))
 refine Zi Z Z Z Z (bF.ldBA (j:=0) Z Z bo zj zI (vs:=ac) Z Z) (zY (j:=1) (vs:=am) Z Z Z Z bF Z bs Z Z zI (zA Z) Z Z Z ?_)
 intro gh jU
 have jW:sW w U bk [.blk aJ 123 ac,.blk aI 123 am,.blk aQ 93 ak,.blk aP 27 aj,.blk bg 200 aU] gh:=jU
 refine zY (j:=0) (vs:=ac) Z Z Z Z jW Z bo Z Z zI (zA Z) Z Z Z ?_
 intro gi jX
 have jY:sW w U bk [.blk aJ 123 ac,.blk aI 123 am,.blk aQ 93 ak,.blk aP 27 aj,.blk bg 200 aU] gi:=jX
 refine oA Z Z (zb ?_)
 cases fc
 exact zF ⟨Z,⟨bk,bs,bo,Z,(zQ _),jY⟩⟩
 refine zY (j:=1) (vs:=am) Z Z Z Z bF Z bs Z Z zI (zA Z) Z Z Z ?_
 intro gj jZ
 have eB:sW w U bk [.blk aJ 123 ac,.blk aI 123 am,.blk aQ 93 ak,.blk aP 27 aj,.blk bg 200 aU] gj:=jZ
 refine Zi Z Z Z Z (eB.ldBA (j:=0) Z Z bo zj zI (vs:=ac) Z Z) (zY (j:=0) (vs:=ac) Z Z Z Z eB Z bo Z Z zI (zA Z) Z Z Z ?_)
 intro gk j0
 have j5:sW w U bk [.blk aJ 123 ac,.blk aI 123 am,.blk aQ 93 ak,.blk aP 27 aj,.blk bg 200 aU] gk:=j0
 refine oA Z Z (zb ?_)
 cases fc
 exact zF ⟨Z,⟨bk,bs,bo,Z,(zQ _),j5⟩⟩
 rintro mr m8 ⟨fu,gZ,g7,g8,oo,dh⟩
 refine zR ?_
 cases eQ
 exact ⟨rfl,_,(wER (rs:=[.cell 4 123,.cell 5 123,.tmp 6]) (vs:=[.agg am.toArray,.agg ac.toArray,jV dw]) ⟨⟨_,gZ,(wBF zj zI (dh.blkAt (k:=1) rfl) (vs:=am) rfl rfl)⟩,⟨⟨_,g7,(wBF zj zI (dh.blkAt (k:=0) rfl) (vs:=ac) rfl rfl)⟩,⟨g8,trivial⟩⟩⟩ rfl),fu,_,(dh.pick [] _ (by decide) rfl),rfl,rfl⟩
 intro cX l5
 refine ZK (nF (cX.out)) (sR (wDd gBa) Z (oL Z (bE.ldBA (j:=0) Z Z bo zj zI (vs:=ac) Z Z) (oL Z (bE.ldBA (j:=1) Z Z bs zj zI (vs:=am) Z Z) (oM Z Z (zY (j:=1) (vs:=ac) Z Z Z Z bE Z bs Z Z zI (zA Z) Z Z Z ?_)))))
 intro gm j6
 have j7:sW w U bk [.blk aJ 123 ac,.blk aI 123 ac,.blk aQ 93 ak,.blk aP 27 aj,.blk bg 200 aU] gm:=j6
 refine zY (j:=0) (vs:=am) Z Z Z Z j7 Z bo Z Z zI (zA Z) Z Z Z ?_
 intro gp j8
 have di:sW w U bk [.blk aJ 123 am,.blk aI 123 ac,.blk aQ 93 ak,.blk aP 27 aj,.blk bg 200 aU] gp:=j8
 refine oA Z Z (eN (zR (zT ?_)))
 cases l5
 exact ⟨rfl,_,(wER (rs:=[.cell 4 123,.cell 5 123,.tmp 6]) (vs:=[.agg ac.toArray,.agg am.toArray,jV fh]) ⟨⟨_,bs,(wBF zj zI (di.blkAt (k:=1) rfl) (vs:=ac) rfl rfl)⟩,⟨⟨_,bo,(wBF zj zI (di.blkAt (k:=0) rfl) (vs:=am) rfl rfl)⟩,⟨rfl,trivial⟩⟩⟩ rfl),bk,_,(di.pick [] _ (by decide) rfl),rfl,rfl⟩
 by_cases c4:O.Kind=3
 have eR:=hm;rw [if_neg c1,if_neg c2,if_neg c3,if_pos c4] at eR
 refine sR gBo Z ?_
 let an:List Value:=[.slice a6 p0.Starts.length ba,.slice a7 p0.Splits.length bb,.slice a8 p0.Clocks.length bc,.slice a9 p0.Readings.length bd]
 refine zq (cs:=an) rfl rfl rfl rfl rfl rfl (by rfl) hS ?_
 intro m9 aR j9
 let ao:List Value:=[jV O.Kind,jV O.Skier,jV O.Index,.bool O.Up]
 refine zq (cs:=ao) rfl rfl rfl rfl rfl rfl (by rfl) j9 ?_
 intro n3 aS k5
 let a0:List Value:=[jV 0,jV 0]
 refine zU (cs:=a0) Z Z Z Z Z zd Z k5 ?_
 intro n4 aK k6
 refine zU (cs:=a0) Z Z Z Z Z zd Z k6 ?_
 intro dE aL k7
 refine oA Z Z (eN ?_)
 have q:=bnd eR
 obtain ⟨⟨⟩,mc,eU⟩:=q
 try dsimp only at eU
 let aV:List Value:=[.func (.func 142) #[] #[],.func (.func 143) #[] #[],.func (.func 144) #[] #[]]
 refine yX (fun J_ w_=>∃ (U_:PHeap) (bh:Nat),J_ 2=.pointer (some ⟨aR,0,none⟩)/\J_ 3=.pointer (some ⟨aS,0,none⟩)/\J_ 4=.pointer (some ⟨aK,0,none⟩)/\J_ 5=.pointer (some ⟨aL,0,none⟩)/\J_ 7=.pointer (some ⟨bh,0,none⟩)/\PHeap.Le U U_/\sW w U U_ [.blk aL 123 a0,.blk aK 123 a0,.blk aS 93 ao,.blk aR 27 an,.blk bh 200 aV] w_) ?_ ?_
 have q:=bnd mc
 obtain ⟨⟨⟩,eg,dr⟩:=q
 try dsimp only at dr
 refine ZI ZD [2,3,1,3,2,0] gBt (by kernel_rfl) ?_
 have bV:=k7.drew
 generalize hw_W522:({ dE with drawn:=dE.drawn + 1 }:World)=gt at bV ⊢
 refine oR Z (zH Z Z zt Z yN) (oL Z (bV.ldB (j:=2) Z Z Z yS (v:=jV O.Kind) Z) (ZB ?_ ?_))
 refine zC 0 Z Z Z Z (zD Z Z yT zL Z) bV (fun hs=>wBI gt U hs eg) (.inr Z) ?_
 rintro cJ mI oI gu mi lb ⟨rfl,rfl⟩
 have lf:sW w U cJ [.blk aL 123 a0,.blk aK 123 a0,.blk aS 93 ao,.blk aR 27 an] gu:=lb
 refine zg rfl rfl rfl rfl (fun _=>(yn (i:=3) rfl rfl (congrArg (jV) c4) Zs ZU (by decide) (by decide) (wDT yc ZU rfl))) (zU (cs:=[.nilFunc,.nilFunc,.nilFunc]) rfl rfl rfl rfl rfl yE rfl lf ?_)
 intro n6 dJ lg
 refine zY (j:=0) (vs:=aV) Z Z Z Z lg Z Z Z Z ZU (zA Z) Z Z Z ?_
 intro gv lh
 have li:sW w U cJ [.blk dJ 200 aV,.blk aL 123 a0,.blk aK 123 a0,.blk aS 93 ao,.blk aR 27 an] gv:=lh
 refine zb ?_
 cases dr
 exact zF ⟨rfl,⟨cJ,dJ,rfl,rfl,rfl,rfl,rfl,mi,(li.pick [1,2,3,4,0] _ (by decide) rfl)⟩⟩
 refine zU (cs:=[.nilFunc,.nilFunc,.nilFunc]) Z Z Z Z Z yE Z bV ?_
 intro gw cS lj
 refine zC 0 Z Z Z Z (zD Z Z yT zL Z) lj (fun hs=>wBI gw U hs eg) (.inr Z) ?_
 rintro cK mJ oJ gx mj lk ⟨rfl,rfl⟩
 have ll:sW w U cK [.blk cS 200 [.nilFunc,.nilFunc,.nilFunc],.blk aL 123 a0,.blk aK 123 a0,.blk aS 93 ao,.blk aR 27 an] gx:=lk
 refine zg rfl rfl rfl rfl (fun _=>(yn (i:=3) rfl rfl (congrArg (jV) c4) Zs ZU (by decide) (by decide) (wDT yc ZU rfl))) (zY (j:=0) (vs:=aV) rfl rfl rfl rfl ll rfl rfl rfl rfl ZU (zA rfl) rfl rfl rfl ?_)
 intro gy ln
 have lp:sW w U cK [.blk cS 200 aV,.blk aL 123 a0,.blk aK 123 a0,.blk aS 93 ao,.blk aR 27 an] gy:=ln
 refine zb ?_
 cases dr
 exact zF ⟨rfl,⟨cK,cS,rfl,rfl,rfl,rfl,rfl,mj,(lp.pick [1,2,3,4,0] _ (by decide) rfl)⟩⟩
 rintro ms gz ⟨fw,bh,dT,da,bt,bp,dU,cn,bW⟩
 refine sR (wEN (.fx 4 (wLu gAn) .stop)) Z (oR Z (zH Z dU Zv Z Tryz.sizeOf197) (oL Z (bW.ldB (j:=4) Z Z Z Tryz.isAgg197 (v:=.func (.func 143) #[] #[]) Z) (oL Z (bW.ldBA (j:=3) Z Z dT zn zc (vs:=an) Z Z) (oL Z (bW.ldBA (j:=2) Z Z da Zx Zg (vs:=ao) Z Z) ?_))))
 have eh:=b5.le cn
 have ej:=ca.le cn
 have ek:=cb.le cn
 have en:=cc.le cn
 have q:=bnd eU
 obtain ⟨⟨cw,cx⟩,iz,eV⟩:=q
 try dsimp only at eV
 refine zC 0 Z Z Z Z (zD Z Z Tryz.call143 (zB Z (zB Z zL)) Z) bW (fun hs=>wHQ p0 a6 ba a7 bb a8 bc a9 bd O gz fw hs eh ej ek en iz) (.inr Z) ?_
 rintro bK mK oK gB co ls ⟨rfl,rfl⟩
 have lu:sW w U bK [.blk aL 123 a0,.blk aK 123 a0,.blk aS 93 ao,.blk aR 27 an,.blk bh 200 aV] gB:=ls
 refine oM Z Z (oR Z (zV Z Z (v:=.agg #[jV cw.skier,jV cw.mat]) Z) (oR Z (zV Z Z (v:=.agg #[jV cx.skier,jV cx.mat]) Z) ?_))
 let ap:List Value:=[jV cw.skier,jV cw.mat]
 refine zY (j:=1) (vs:=ap) Z Z Z Z lu Z bt Z Z zI (zA Z) Z Z Z ?_
 intro gC lw
 have lx:sW w U bK [.blk aL 123 a0,.blk aK 123 ap,.blk aS 93 ao,.blk aR 27 an,.blk bh 200 aV] gC:=lw
 let ae:List Value:=[jV cx.skier,jV cx.mat]
 refine zY (j:=0) (vs:=ae) Z Z Z Z lx Z bp Z Z zI (zA Z) Z Z Z ?_
 intro dF ly
 have bX:sW w U bK [.blk aL 123 ae,.blk aK 123 ap,.blk aS 93 ao,.blk aR 27 an,.blk bh 200 aV] dF:=ly
 refine eN (sR (wEN (.fx 4 (wJz (.nil)) .stop)) Z (oR Z (zH Z dU Zv Z Tryz.sizeOf198) (oL Z (bX.ldB (j:=4) Z Z Z Tryz.isAgg198 (v:=.func (.func 144) #[] #[]) Z) (oL Z (bX.ldBA (j:=3) Z Z dT zn zc (vs:=an) Z Z) (oL Z (bX.ldBA (j:=2) Z Z da Zx Zg (vs:=ao) Z Z) ?_)))))
 have iA:=eh.le co
 have iB:=ej.le co
 have iC:=ek.le co
 have iD:=en.le co
 have q:=bnd eV
 obtain ⟨⟨dx,fj⟩,iE,eW⟩:=q
 try dsimp only at eW
 refine zC 0 Z Z Z Z (zD Z Z Tryz.call144 (zB Z (zB Z zL)) Z) bX (fun hs=>wHR p0 a6 ba a7 bb a8 bc a9 bd O dF bK hs iA iB iC iD iE) (.inr Z) ?_
 rintro bm mL oO cP oq lA ⟨rfl,rfl⟩
 have bG:sW w U bm [.blk aL 123 ae,.blk aK 123 ap,.blk aS 93 ao,.blk aR 27 an,.blk bh 200 aV] cP:=lA
 refine oM Z Z (oR Z (zV Z Z (v:=jV dx) Z) (oR Z (zV Z Z (v:=jV fj) Z) (oA Z Z (oA Z Z (eN (zJ (sR fL3 Z (oR Z (zH Z da zt Z Tryz.sizeOf4) (oL Z (bG.ldB (j:=2) Z Z Z Tryz.isAgg4 (v:=.bool O.Up) Z) (oR Z (ZY Z Z) (eN (ifc eW ?_ ?_))))))))))))
 intro cY l6
 refine zr (nC cY.out) (kN ?_)
 have q:=bnd l6
 obtain ⟨⟨⟩,fd,eZ⟩:=q
 try dsimp only at eZ
 refine yX (fun J_ w_=>∃ (U_:PHeap),J_ 4=.pointer (some ⟨aK,0,none⟩)/\J_ 5=.pointer (some ⟨aL,0,none⟩)/\J_ 6=jV dx/\PHeap.Le bm U_/\sW w U U_ [.blk aL 123 ae,.blk aK 123 ap,.blk aS 93 ao,.blk aR 27 an,.blk bh 200 aV] w_) ?_ ?_
 refine ZI ZD [1,2,3,0,0,3] gBu (by kernel_rfl) ?_
 have bH:=bG.drew
 generalize hw_W613:({ cP with drawn:=cP.drawn + 1 }:World)=n8 at bH ⊢
 refine oL Z (bH.ldBA (j:=1) Z Z bt zj zI (vs:=ap) Z Z) (oM Z Z (ZB ?_ ?_))
 refine Zi Z Z Z Z (bH.ldBA (j:=0) Z Z bp zj zI (vs:=ae) Z Z) (zY (j:=1) (vs:=ap) Z Z Z Z bH Z bt Z Z zI (zA Z) Z Z Z ?_)
 intro gD lB
 have lC:sW w U bm [.blk aL 123 ae,.blk aK 123 ap,.blk aS 93 ao,.blk aR 27 an,.blk bh 200 aV] gD:=lB
 refine zY (j:=0) (vs:=ae) Z Z Z Z lC Z bp Z Z zI (zA Z) Z Z Z ?_
 intro gE lD
 have lE:sW w U bm [.blk aL 123 ae,.blk aK 123 ap,.blk aS 93 ao,.blk aR 27 an,.blk bh 200 aV] gE:=lD
 refine oA Z Z (zb ?_)
 cases fd
 exact zF ⟨Z,⟨bm,bt,bp,Z,(zQ _),lE⟩⟩
 refine zY (j:=1) (vs:=ap) Z Z Z Z bH Z bt Z Z zI (zA Z) Z Z Z ?_
 intro gG lF
 have eC:sW w U bm [.blk aL 123 ae,.blk aK 123 ap,.blk aS 93 ao,.blk aR 27 an,.blk bh 200 aV] gG:=lF
 refine Zi Z Z Z Z (eC.ldBA (j:=0) Z Z bp zj zI (vs:=ae) Z Z) (zY (j:=0) (vs:=ae) Z Z Z Z eC Z bp Z Z zI (zA Z) Z Z Z ?_)
 intro gH lG
 have lH:sW w U bm [.blk aL 123 ae,.blk aK 123 ap,.blk aS 93 ao,.blk aR 27 an,.blk bh 200 aV] gH:=lG
 refine oA Z Z (zb ?_)
 cases fd
 exact zF ⟨Z,⟨bm,bt,bp,Z,(zQ _),lH⟩⟩
 rintro mu n9 ⟨fy,g9,ib,ic,ot,dk⟩
 refine zR ?_
 cases eZ
 exact ⟨rfl,_,(wER (rs:=[.cell 4 123,.cell 5 123,.tmp 6]) (vs:=[.agg ap.toArray,.agg ae.toArray,jV dx]) ⟨⟨_,g9,(wBF zj zI (dk.blkAt (k:=1) rfl) (vs:=ap) rfl rfl)⟩,⟨⟨_,ib,(wBF zj zI (dk.blkAt (k:=0) rfl) (vs:=ae) rfl rfl)⟩,⟨ic,trivial⟩⟩⟩ rfl),fy,_,(dk.pick [] _ (by decide) rfl),rfl,rfl⟩
 intro cY l7
 refine ZK (nF (cY.out)) (sR (wDd gBa) Z (oL Z (bG.ldBA (j:=0) Z Z bp zj zI (vs:=ae) Z Z) (oL Z (bG.ldBA (j:=1) Z Z bt zj zI (vs:=ap) Z Z) (oM Z Z (zY (j:=1) (vs:=ae) Z Z Z Z bG Z bt Z Z zI (zA Z) Z Z Z ?_)))))
 intro gI lI
 have lJ:sW w U bm [.blk aL 123 ae,.blk aK 123 ae,.blk aS 93 ao,.blk aR 27 an,.blk bh 200 aV] gI:=lI
 refine zY (j:=0) (vs:=ap) Z Z Z Z lJ Z bp Z Z zI (zA Z) Z Z Z ?_
 intro gJ lK
 have dl:sW w U bm [.blk aL 123 ap,.blk aK 123 ae,.blk aS 93 ao,.blk aR 27 an,.blk bh 200 aV] gJ:=lK
 refine oA Z Z (eN (zR (zT ?_)))
 cases l7
 exact ⟨rfl,_,(wER (rs:=[.cell 4 123,.cell 5 123,.tmp 6]) (vs:=[.agg ae.toArray,.agg ap.toArray,jV fj]) ⟨⟨_,bt,(wBF zj zI (dl.blkAt (k:=1) rfl) (vs:=ae) rfl rfl)⟩,⟨⟨_,bp,(wBF zj zI (dl.blkAt (k:=0) rfl) (vs:=ap) rfl rfl)⟩,⟨rfl,trivial⟩⟩⟩ rfl),bm,_,(dl.pick [] _ (by decide) rfl),rfl,rfl⟩
 have e6:=hm;rw [if_neg c1,if_neg c2,if_neg c3,if_neg c4] at e6
 refine sR gBo Z ?_
 let cA:List Value:=[.slice a6 p0.Starts.length ba,.slice a7 p0.Splits.length bb,.slice a8 p0.Clocks.length bc,.slice a9 p0.Readings.length bd]
 refine zq (cs:=cA) rfl rfl rfl rfl rfl rfl (by rfl) hS ?_
 intro oa dL lM
 let cC:List Value:=[jV O.Kind,jV O.Skier,jV O.Index,.bool O.Up]
 refine zq (cs:=cC) rfl rfl rfl rfl rfl rfl (by rfl) lM ?_
 intro oc dM lN
 let bw:List Value:=[jV 0,jV 0]
 refine zU (cs:=bw) Z Z Z Z Z zd Z lN ?_
 intro od dN lO
 refine zU (cs:=bw) Z Z Z Z Z zd Z lO ?_
 intro dG dO lP
 refine oA Z Z (eN (zJ ?_))
 have q:=bnd e6
 obtain ⟨⟨⟩,eo,dt⟩:=q
 try dsimp only at dt
 refine ZI ZD [2,3,1,3,2,0] gBt (by kernel_rfl) ?_
 have bY:=lP.drew
 generalize hw_W669:({ dG with drawn:=dG.drawn + 1 }:World)=gK at bY ⊢
 refine oR Z (zH Z Z zt Z yN) (oL Z (bY.ldB (j:=2) Z Z Z yS (v:=jV O.Kind) Z) (ZB ?_ ?_))
 refine zC 0 Z Z Z Z (zD Z Z yT zL Z) bY (fun hs=>wBI gK U hs eo) (.inr Z) ?_
 rintro fz mN oP gL ou lQ ⟨rfl,rfl⟩
 have oe:sW w U fz [.blk dO 123 bw,.blk dN 123 bw,.blk dM 93 cC,.blk dL 27 cA] gL:=lQ
 cases dt
 refine zU (cs:=[.nilFunc,.nilFunc,.nilFunc]) Z Z Z Z Z yE Z bY ?_
 intro gM gS lR
 refine zC 0 Z Z Z Z (zD Z Z yT zL Z) lR (fun hs=>wBI gM U hs eo) (.inr Z) ?_
 rintro fA mO oS gN ov lS ⟨rfl,rfl⟩
 have og:sW w U fA [.blk gS 200 [.nilFunc,.nilFunc,.nilFunc],.blk dO 123 bw,.blk dN 123 bw,.blk dM 93 cC,.blk dL 27 cA] gN:=lS
 cases dt
end Go.Proofs.YtlnfbjphfoipaaaGreat
namespace Go.Proofs.YtlnfbjphfoipaaaGreat
open Go.KL
set_option maxHeartbeats 4000000
theorem wGN (O:wAA) (af:Option Addr) (aj:Nat) (ag:Option Addr) (ak:Nat) (ah:Option Addr) (am:Nat) (ai:Option Addr) (an:Nat) (w:World) (U:PHeap) (hS:St0 w U []) (pD:Sl U 1 af aj O.Starts.length (hD KL.encI O.Starts)) (pE:Sl U 2 ag ak O.Splits.length (hD wAC O.Splits)) (pG:Sl U 3 ah am O.Clocks.length (hD wAE O.Clocks)) (pH:Sl U 4 ai an O.Readings.length (hD wAB O.Readings)) {r:wAh} (hm:wDV O=some r):Gv Tryz.prog 124 [.agg #[.slice af O.Starts.length aj,.slice ag O.Splits.length ak,.slice ah O.Clocks.length am,.slice ai O.Readings.length an]] w (wCF w [] U (fun U_ L_ v=>∃ (b0:Nat) (A0p00:Option Addr) (c0p00:Nat) (A0p01:Option Addr) (c0p01:Nat) (A0p02:Option Addr) (c0p02:Nat) (A0p03:Option Addr) (c0p03:Nat) (m0p1:Nat) (es0p1:Array MapEntry) (ck0p1:Nat) (A0p2:Option Addr) (c0p2:Nat),v=.pointer (some ⟨b0,0,none⟩)/\L_=[.blk b0 139 [.slice A0p00 r.Race.Starts.length c0p00,.slice A0p01 r.Race.Splits.length c0p01,.slice A0p02 r.Race.Clocks.length c0p02,.slice A0p03 r.Race.Readings.length c0p03,.map (some m0p1),.slice A0p2 r.edges.length c0p2],.obj m0p1 (.map es0p1 ck0p1),.row A0p2 c0p2 184 7 (hD wAO r.edges)]/\Sl U_ 1 A0p00 c0p00 r.Race.Starts.length (hD KL.encI r.Race.Starts)/\Sl U_ 2 A0p01 c0p01 r.Race.Splits.length (hD wAC r.Race.Splits)/\Sl U_ 3 A0p02 c0p02 r.Race.Clocks.length (hD wAE r.Race.Clocks)/\Sl U_ 4 A0p03 c0p03 r.Race.Readings.length (hD wAB r.Race.Readings)/\MpR es0p1 wBW wBe r.number)):=by
 unfold wDV at hm
 refine Go.KX.Gv.ofM Tryz.func124 Z Tryz.ntmps124 Tryz.results124 (zA Z) (sR gAf Z ?_)
 let B0:List Value:=[.slice af O.Starts.length aj,.slice ag O.Splits.length ak,.slice ah O.Clocks.length am,.slice ai O.Readings.length an]
 refine zq (cs:=B0) rfl rfl rfl rfl rfl rfl (by rfl) hS ?_
 intro W1 b2 oE
 refine oA Z Z (eN (bnK hm fun iw p8 pL=>yX (fun J_ w_=>∃ (U_:PHeap) (b6:Nat) (b8:Nat) (ae:Nat) (bM:Array MapEntry) (cD:Nat),J_ 1=.pointer (some ⟨b2,0,none⟩)/\J_ 3=.pointer (some ⟨b6,0,none⟩)/\PHeap.Le U U_/\sW w U U_ [.blk b2 27 B0,.blk b6 118 [.pointer (some ⟨b8,0,none⟩)],.blk b8 139 [.slice af O.Starts.length aj,.slice ag O.Splits.length ak,.slice ah O.Clocks.length am,.slice ai O.Readings.length an,.map (some ae),.slice none 0 0],.obj ae (.map bM cD)] w_/\MpR bM wBW wBe iw) ?_ ?_))
 refine bnK p8 fun ac a0 pQ=>ZI ZD [2,2,2,0,3,3,2,2,0] (.fx 0 (.fx 1 gBy (.fx 2 gBz (.fx 7 gCa .stop))) (.fx 1 (.fx 0 gBy (.fx 2 gCd (.fx 7 gCb .stop))) (.fx 2 (.fx 0 gBz (.fx 1 gCd (.fx 7 gCc .stop))) (.fx 7 (.fx 0 gCa (.fx 1 gCb (.fx 2 gCc .stop))) .stop)))) (by kernel_rfl) ?_
 have a6:=oE.drew
 generalize hw_W51:({ W1 with drawn:=W1.drawn + 1 }:World)=fy at a6 ⊢
 refine Zj (s:=.nil) (M:=fun J_ w_=>∃ (U_:PHeap) (cn:Nat) (bB:Nat) (a7:Nat) (cN:Array MapEntry) (dE:Nat),J_ 1=.pointer (some ⟨b2,0,none⟩)/\J_ 3=.pointer (some ⟨cn,0,none⟩)/\J_ 12=.agg B0.toArray/\J_ 13=.map (some a7)/\J_ 14=.agg #[jV ac.skier,jV ac.mat]/\J_ 15=.map (some a7)/\J_ 16=.agg #[.slice af O.Starts.length aj,.slice ag O.Splits.length ak,.slice ah O.Clocks.length am,.slice ai O.Readings.length an,.map (some a7),.slice none 0 0]/\J_ 17=.pointer (some ⟨bB,0,none⟩)/\PHeap.Le U U_/\sW w U U_ [.blk b2 27 B0,.blk cn 118 [.pointer (some ⟨bB,0,none⟩)],.blk bB 139 [.slice af O.Starts.length aj,.slice ag O.Splits.length ak,.slice ah O.Clocks.length am,.slice ai O.Readings.length an,.map (some a7),.slice none 0 0],.obj a7 (.map cN dE)] w_/\MpR cN wBW wBe (wGc ([]:List (wAI × Int)) ac 0)) ?_ fun qa=>?_
 rintro qI rK ⟨iN,cn,bB,a7,cN,dE,lh,li,sr,ss,su,sv,sw,sA,qn,oG,mo⟩
 refine zb ?_
 cases pQ
 exact zF ⟨Z,⟨iN,cn,bB,a7,cN,dE,lh,li,qn,oG,mo⟩⟩
 refine Zj (s:=.fx 8 .nil .stop) (M:=fun J_ w_=>∃ (U_:PHeap) (bC:Nat) (aX:Nat) (bO:Array MapEntry) (cG:Nat) (bh:Nat),J_ 1=.pointer (some ⟨b2,0,none⟩)/\J_ 3=.pointer (some ⟨bC,0,none⟩)/\J_ 12=.agg B0.toArray/\J_ 13=.map (some aX)/\J_ 14=.agg #[jV ac.skier,jV ac.mat]/\J_ 15=.map (some aX)/\J_ 16=.agg #[.slice af O.Starts.length aj,.slice ag O.Splits.length ak,.slice ah O.Clocks.length am,.slice ai O.Readings.length an,.map (some aX),.slice none 0 0]/\J_ 17=.pointer (some ⟨bh,0,none⟩)/\PHeap.Le U U_/\sW w U U_ [.blk b2 27 B0,.blk bC 118 [.pointer none],.obj aX (.map bO cG),.blk bh 139 [.slice af O.Starts.length aj,.slice ag O.Splits.length ak,.slice ah O.Clocks.length am,.slice ai O.Readings.length an,.map (some aX),.slice none 0 0]] w_/\MpR bO wBW wBe (wGc ([]:List (wAI × Int)) ac 0)) ?_ fun dh=>?_
 rintro qJ rL ⟨e8,bC,aX,bO,cG,bh,lj,f9,lk,ll,lm,ln,lp,ga,qo,oH,mp⟩
 let B1:List Value:=[.pointer (some ⟨bh,0,none⟩)]
 refine zY (j:=1) (vs:=B1) Z Z Z Z oH Z f9 ga Z Tryz.sizeOf118 (zA Z) Z Z Z ?_
 intro jr oI
 have oJ:sW w U e8 [.blk b2 27 B0,.blk bC 118 B1,.obj aX (.map bO cG),.blk bh 139 [.slice af O.Starts.length aj,.slice ag O.Splits.length ak,.slice ah O.Clocks.length am,.slice ai O.Readings.length an,.map (some aX),.slice none 0 0]] jr:=oI
 exact qa _ _ ⟨e8,bC,bh,aX,bO,cG,lj,f9,lk,ll,lm,ln,lp,ga,qo,(oJ.pick [0,1,3,2] _ (by decide) rfl),mp⟩
 refine Zj (s:=gAr) (M:=fun J_ w_=>∃ (U_:PHeap) (co:Nat) (a8:Nat) (cO:Array MapEntry) (dF:Nat),J_ 1=.pointer (some ⟨b2,0,none⟩)/\J_ 3=.pointer (some ⟨co,0,none⟩)/\J_ 12=.agg B0.toArray/\J_ 13=.map (some a8)/\J_ 14=.agg #[jV ac.skier,jV ac.mat]/\J_ 15=.map (some a8)/\J_ 16=.agg #[.slice af O.Starts.length aj,.slice ag O.Splits.length ak,.slice ah O.Clocks.length am,.slice ai O.Readings.length an,.map (some a8),.slice none 0 0]/\PHeap.Le U U_/\sW w U U_ [.blk b2 27 B0,.blk co 118 [.pointer none],.obj a8 (.map cO dF)] w_/\MpR cO wBW wBe (wGc ([]:List (wAI × Int)) ac 0)) ?_ fun io=>?_
 rintro qK rM ⟨iO,co,a8,cO,dF,ls,lu,lv,lw,lx,ly,gb,qp,oK,mq⟩
 refine zq (cs:=[.slice af O.Starts.length aj,.slice ag O.Splits.length ak,.slice ah O.Clocks.length am,.slice ai O.Readings.length an,.map (some a8),.slice none 0 0]) rfl rfl rfl rfl rfl gb (by rfl) oK ?_
 intro rN jO oO
 exact dh _ _ ⟨iO,co,a8,cO,dF,jO,ls,lu,lv,lw,lx,ly,gb,rfl,qp,(oO.pick [1,2,3,0] _ (by decide) rfl),mq⟩
 refine Zj (s:=gAq) (M:=fun J_ w_=>∃ (U_:PHeap) (a9:Nat) (cP:Array MapEntry) (dG:Nat) (cp:Nat),J_ 1=.pointer (some ⟨b2,0,none⟩)/\J_ 12=.agg B0.toArray/\J_ 13=.map (some a9)/\J_ 14=.agg #[jV ac.skier,jV ac.mat]/\J_ 15=.map (some a9)/\J_ 16=.agg #[.slice af O.Starts.length aj,.slice ag O.Splits.length ak,.slice ah O.Clocks.length am,.slice ai O.Readings.length an,.map (some a9),.slice none 0 0]/\J_ 17=.pointer (some ⟨cp,0,none⟩)/\PHeap.Le U U_/\sW w U U_ [.blk b2 27 B0,.obj a9 (.map cP dG),.blk cp 139 [.slice af O.Starts.length aj,.slice ag O.Splits.length ak,.slice ah O.Clocks.length am,.slice ai O.Readings.length an,.map (some a9),.slice none 0 0]] w_/\MpR cP wBW wBe (wGc ([]:List (wAI × Int)) ac 0)) ?_ fun ip=>?_
 rintro qL rO ⟨iP,a9,cP,dG,cp,lz,lA,lB,lC,lD,lE,lF,qq,oP,mr⟩
 refine zU (cs:=[.pointer none]) Z Z Z Z Z yL Z oP ?_
 intro rP jP oQ
 exact dh _ _ ⟨iP,jP,a9,cP,dG,cp,lz,rfl,lA,lB,lC,lD,lE,lF,qq,(oQ.pick [1,0,2,3] _ (by decide) rfl),mr⟩
 refine Zj (s:=.fl 5 gAr) (M:=fun J_ w_=>∃ (U_:PHeap) (cq:Nat) (ba:Nat) (cQ:Array MapEntry) (dH:Nat),J_ 1=.pointer (some ⟨b2,0,none⟩)/\J_ 3=.pointer (some ⟨cq,0,none⟩)/\J_ 12=.agg B0.toArray/\J_ 13=.map (some ba)/\J_ 14=.agg #[jV ac.skier,jV ac.mat]/\J_ 15=.map (some ba)/\PHeap.Le U U_/\sW w U U_ [.blk b2 27 B0,.blk cq 118 [.pointer none],.obj ba (.map cQ dH)] w_/\MpR cQ wBW wBe (wGc ([]:List (wAI × Int)) ac 0)) ?_ fun iq=>?_
 rintro qM rQ ⟨iQ,cq,ba,cQ,dH,lG,lH,ge,lI,lJ,gf,qr,oS,ms⟩
 let B2:List Value:=[.slice af O.Starts.length aj,.slice ag O.Splits.length ak,.slice ah O.Clocks.length am,.slice ai O.Readings.length an,.map (some ba),.slice none 0 0]
 refine zg rfl rfl rfl rfl (fun _=>zu (pv:=[(0,.agg B0.toArray),(1,.map (some ba))]) (z:=[.slice none 0 0,.slice none 0 0,.slice none 0 0,.slice none 0 0,.map none,.slice none 0 0]) (cs:=B2) rfl (wAG ge (wAG gf wAP)) Tryz.zeroValue139 wGL rfl rfl) (zq (cs:=B2) rfl rfl rfl rfl rfl rfl (by rfl) oS ?_)
 intro rS jQ oU
 exact dh _ _ ⟨iQ,cq,ba,cQ,dH,jQ,lG,lH,ge,lI,lJ,gf,rfl,rfl,qr,(oU.pick [1,2,3,0] _ (by decide) rfl),ms⟩
 refine Zj (s:=gBj) (M:=fun J_ w_=>∃ (U_:PHeap) (cr:Nat) (bD:Nat) (cR:Array MapEntry) (dI:Nat),J_ 1=.pointer (some ⟨b2,0,none⟩)/\J_ 3=.pointer (some ⟨cr,0,none⟩)/\J_ 13=.map (some bD)/\J_ 14=.agg #[jV ac.skier,jV ac.mat]/\J_ 15=.map (some bD)/\PHeap.Le U U_/\sW w U U_ [.blk b2 27 B0,.blk cr 118 [.pointer none],.obj bD (.map cR dI)] w_/\MpR cR wBW wBe (wGc ([]:List (wAI × Int)) ac 0)) ?_ fun qb=>?_
 rintro qN rT ⟨iR,cr,bD,cR,dI,gg,lK,lL,lM,lN,qs,gZ,mu⟩
 exact Zi Z Z Z Z (gZ.ldBA (j:=0) Z Z gg zn zc (vs:=B0) Z Z) (iq _ _ ⟨iR,cr,bD,cR,dI,gg,lK,Z,lL,lM,lN,qs,gZ,mu⟩)
 refine Zj (s:=gBp) (M:=fun J_ w_=>∃ (U_:PHeap) (aZ:Nat) (bP:Array MapEntry) (cH:Nat),J_ 1=.pointer (some ⟨b2,0,none⟩)/\J_ 12=.agg B0.toArray/\J_ 13=.map (some aZ)/\J_ 14=.agg #[jV ac.skier,jV ac.mat]/\J_ 15=.map (some aZ)/\PHeap.Le U U_/\sW w U U_ [.blk b2 27 B0,.obj aZ (.map bP cH)] w_/\MpR bP wBW wBe (wGc ([]:List (wAI × Int)) ac 0)) ?_ fun qc=>?_
 rintro qO rV ⟨e9,aZ,bP,cH,gh,dP,gi,gj,dQ,iA,g7,gN⟩
 let B3:List Value:=[.slice af O.Starts.length aj,.slice ag O.Splits.length ak,.slice ah O.Clocks.length am,.slice ai O.Readings.length an,.map (some aZ),.slice none 0 0]
 refine oR Z (zu (pv:=[(0,.agg B0.toArray),(1,.map (some aZ))]) (z:=[.slice none 0 0,.slice none 0 0,.slice none 0 0,.slice none 0 0,.map none,.slice none 0 0]) (cs:=B3) Z (wAG dP (wAG dQ wAP)) Tryz.zeroValue139 wGL Z Z) (ZB ?_ ?_)
 refine zq (cs:=B3) rfl rfl rfl rfl rfl rfl (by rfl) g7 ?_
 intro rW jR oV
 exact ip _ _ ⟨e9,aZ,bP,cH,jR,gh,dP,gi,gj,dQ,rfl,rfl,iA,(oV.pick [1,2,0] _ (by decide) rfl),gN⟩
 refine zU (cs:=[.pointer none]) Z Z Z Z Z yL Z g7 ?_
 intro rX jS oW
 exact io _ _ ⟨e9,jS,aZ,bP,cH,gh,rfl,dP,gi,gj,dQ,rfl,iA,(oW.pick [1,0,2] _ (by decide) rfl),gN⟩
 refine Zj (s:=gBi) (M:=fun J_ w_=>∃ (U_:PHeap) (ct:Nat) (bi:Nat) (cS:Array MapEntry) (dJ:Nat),J_ 1=.pointer (some ⟨b2,0,none⟩)/\J_ 3=.pointer (some ⟨ct,0,none⟩)/\J_ 12=.agg B0.toArray/\J_ 13=.map (some bi)/\J_ 14=.agg #[jV ac.skier,jV ac.mat]/\PHeap.Le U U_/\sW w U U_ [.blk b2 27 B0,.blk ct 118 [.pointer none],.obj bi (.map cS dJ)] w_/\MpR cS wBW wBe (wGc ([]:List (wAI × Int)) ac 0)) ?_ fun qd=>?_
 rintro qP rY ⟨iS,ct,bi,cS,dJ,lO,lP,gk,gm,lQ,qt,oX,mw⟩
 refine oM Z gm ?_
 let B4:List Value:=[.slice af O.Starts.length aj,.slice ag O.Splits.length ak,.slice ah O.Clocks.length am,.slice ai O.Readings.length an,.map (some bi),.slice none 0 0]
 refine zg rfl rfl rfl rfl (fun _=>zu (pv:=[(0,.agg B0.toArray),(1,.map (some bi))]) (z:=[.slice none 0 0,.slice none 0 0,.slice none 0 0,.slice none 0 0,.map none,.slice none 0 0]) (cs:=B4) rfl (wAG gk (wAG rfl wAP)) Tryz.zeroValue139 wGL rfl rfl) (zq (cs:=B4) rfl rfl rfl rfl rfl rfl (by rfl) oX ?_)
 intro rZ jT oY
 exact dh _ _ ⟨iS,ct,bi,cS,dJ,jT,lO,lP,gk,gm,lQ,rfl,rfl,rfl,qt,(oY.pick [1,2,3,0] _ (by decide) rfl),mw⟩
 refine Zj (s:=.fl 4 gBj) (M:=fun J_ w_=>∃ (U_:PHeap) (cu:Nat) (cw:Nat) (cU:Array MapEntry) (dK:Nat),J_ 1=.pointer (some ⟨b2,0,none⟩)/\J_ 3=.pointer (some ⟨cu,0,none⟩)/\J_ 13=.map (some cw)/\J_ 14=.agg #[jV ac.skier,jV ac.mat]/\PHeap.Le U U_/\sW w U U_ [.blk b2 27 B0,.blk cu 118 [.pointer none],.obj cw (.map cU dK)] w_/\MpR cU wBW wBe (wGc ([]:List (wAI × Int)) ac 0)) ?_ fun qe=>?_
 rintro qQ r0 ⟨iT,cu,cw,cU,dK,gp,lR,gq,lS,qu,g8,my⟩
 exact oM Z gq (Zi Z Z Z Z (g8.ldBA (j:=0) Z Z gp zn zc (vs:=B0) Z Z) (iq _ _ ⟨iT,cu,cw,cU,dK,gp,lR,Z,gq,lS,Z,qu,g8,my⟩))
 refine Zj (s:=gBq) (M:=fun J_ w_=>∃ (U_:PHeap) (bE:Nat) (bF:Nat) (dN:Array MapEntry) (fE:Nat),J_ 1=.pointer (some ⟨b2,0,none⟩)/\J_ 3=.pointer (some ⟨bE,0,none⟩)/\J_ 12=.agg B0.toArray/\J_ 13=.map (some bF)/\J_ 14=.agg #[jV ac.skier,jV ac.mat]/\PHeap.Le U U_/\sW w U U_ [.blk b2 27 B0,.blk bE 118 [.pointer none],.obj bF (.map dN fE)] w_/\MpR dN wBW wBe ([]:List (wAI × Int))) ?_ fun di=>?_
 rintro qR r6 ⟨fb,bE,bF,dN,fE,lT,lU,lV,gt,gu,qv,oZ,mz⟩
 refine OKS.mapPut (x:=.tmp 13) (y:=.tmp 14) (j:=2) (mk:=wBW) (mv:=wBe) (a:=ac) (v:=0) rfl rfl rfl (by first | exact .inl rfl | exact .inr rfl) oZ rfl gt gu rfl (wBy ZQ) wDZ mz rfl ?_
 intro fL fG jt pW o0
 have o3:sW w U fb [.blk b2 27 B0,.blk bE 118 [.pointer none],.obj bF (.map fL fG)] jt:=o0
 exact qd _ _ ⟨fb,bE,bF,fL,fG,lT,lU,lV,gt,gu,qv,o3,pW⟩
 refine Zj (s:=.fl 4 gBp) (M:=fun J_ w_=>∃ (U_:PHeap) (bc:Nat) (bQ:Array MapEntry) (cI:Nat),J_ 1=.pointer (some ⟨b2,0,none⟩)/\J_ 12=.agg B0.toArray/\J_ 13=.map (some bc)/\J_ 14=.agg #[jV ac.skier,jV ac.mat]/\PHeap.Le U U_/\sW w U U_ [.blk b2 27 B0,.obj bc (.map bQ cI)] w_/\MpR bQ wBW wBe (wGc ([]:List (wAI × Int)) ac 0)) ?_ fun qf=>?_
 rintro qS r7 ⟨fc,bc,bQ,cI,gv,dR,dS,gw,iB,g9,gO⟩
 refine oM Z dS ?_
 let B5:List Value:=[.slice af O.Starts.length aj,.slice ag O.Splits.length ak,.slice ah O.Clocks.length am,.slice ai O.Readings.length an,.map (some bc),.slice none 0 0]
 refine oR Z (zu (pv:=[(0,.agg B0.toArray),(1,.map (some bc))]) (z:=[.slice none 0 0,.slice none 0 0,.slice none 0 0,.slice none 0 0,.map none,.slice none 0 0]) (cs:=B5) Z (wAG dR (wAG Z wAP)) Tryz.zeroValue139 wGL Z Z) (ZB ?_ ?_)
 refine zq (cs:=B5) rfl rfl rfl rfl rfl rfl (by rfl) g9 ?_
 intro r8 jU o5
 exact ip _ _ ⟨fc,bc,bQ,cI,jU,gv,dR,dS,gw,rfl,rfl,rfl,iB,(o5.pick [1,2,0] _ (by decide) rfl),gO⟩
 refine zU (cs:=[.pointer none]) Z Z Z Z Z yL Z g9 ?_
 intro r9 jW o6
 exact io _ _ ⟨fc,jW,bc,bQ,cI,gv,rfl,dR,dS,gw,rfl,rfl,iB,(o6.pick [1,0,2] _ (by decide) rfl),gO⟩
 refine Zj (s:=gBx) (M:=fun J_ w_=>∃ (U_:PHeap) (bj:Nat) (bk:Nat) (cV:Array MapEntry) (dL:Nat),J_ 1=.pointer (some ⟨b2,0,none⟩)/\J_ 3=.pointer (some ⟨bj,0,none⟩)/\J_ 13=.map (some bk)/\J_ 14=.agg #[jV ac.skier,jV ac.mat]/\PHeap.Le U U_/\sW w U U_ [.blk b2 27 B0,.blk bj 118 [.pointer none],.obj bk (.map cV dL)] w_/\MpR cV wBW wBe ([]:List (wAI × Int))) ?_ fun eA=>?_
 rintro qT sa ⟨dz,bj,bk,cV,dL,dT,gx,dU,dV,iC,ek,gP⟩
 refine ZB ?_ ?_
 exact Zi Z Z Z Z (ek.ldBA (j:=0) Z Z dT zn zc (vs:=B0) Z Z) (di _ _ ⟨dz,bj,bk,cV,dL,dT,gx,Z,dU,dV,iC,ek,gP⟩)
 refine OKS.mapPut (x:=.tmp 13) (y:=.tmp 14) (j:=2) (mk:=wBW) (mv:=wBe) (a:=ac) (v:=0) rfl rfl rfl (by first | exact .inl rfl | exact .inr rfl) ek rfl dU dV rfl (wBy ZQ) wDZ gP rfl ?_
 intro fM fH ju pX o7
 have o8:sW w U dz [.blk b2 27 B0,.blk bj 118 [.pointer none],.obj bk (.map fM fH)] ju:=o7
 exact qe _ _ ⟨dz,bj,bk,fM,fH,dT,gx,dU,dV,iC,o8,pX⟩
 refine Zj (s:=gBw) (M:=fun J_ w_=>∃ (U_:PHeap) (bG:Nat) (bR:Array MapEntry) (cJ:Nat),J_ 1=.pointer (some ⟨b2,0,none⟩)/\J_ 13=.map (some bG)/\J_ 14=.agg #[jV ac.skier,jV ac.mat]/\PHeap.Le U U_/\sW w U U_ [.blk b2 27 B0,.obj bG (.map bR cJ)] w_/\MpR bR wBW wBe (wGc ([]:List (wAI × Int)) ac 0)) ?_ fun qh=>?_
 rintro qU sb ⟨fd,bG,bR,cJ,dW,dX,gy,iD,en,gQ⟩
 refine oM Z dX (ZB ?_ ?_)
 exact Zi Z Z Z Z (en.ldBA (j:=0) Z Z dW zn zc (vs:=B0) Z Z) (qc _ _ ⟨fd,bG,bR,cJ,dW,Z,dX,gy,Z,iD,en,gQ⟩)
 refine zU (cs:=[.pointer none]) Z Z Z Z Z yL Z en ?_
 intro sc jX o9
 exact qb _ _ ⟨fd,jX,bG,bR,cJ,dW,rfl,dX,gy,rfl,iD,(o9.pick [1,0,2] _ (by decide) rfl),gQ⟩
 refine Zj (s:=gBs) (M:=fun J_ w_=>∃ (U_:PHeap) (cx:Nat),J_ 1=.pointer (some ⟨b2,0,none⟩)/\J_ 3=.pointer (some ⟨cx,0,none⟩)/\J_ 12=.agg B0.toArray/\J_ 14=.agg #[jV ac.skier,jV ac.mat]/\PHeap.Le U U_/\sW w U U_ [.blk b2 27 B0,.blk cx 118 [.pointer none]] w_) ?_ fun eB=>?_
 rintro qV sd ⟨iU,cx,lW,lX,lY,lZ,qw,pd⟩
 refine OKS.makeMap Z Z Z Z Z pd ?_
 intro se jY pe
 have pY:=MpR.nil wBW wBe
 exact di _ _ ⟨iU,cx,jY,#[],0,lW,lX,lY,rfl,lZ,qw,(pe.pick [1,2,0] _ (by decide) rfl),pY⟩
 refine Zj (s:=gBr) (M:=fun J_ w_=>∃ (U_:PHeap) (bH:Nat) (bI:Nat) (bS:Array MapEntry) (cK:Nat),J_ 1=.pointer (some ⟨b2,0,none⟩)/\J_ 3=.pointer (some ⟨bH,0,none⟩)/\J_ 12=.agg B0.toArray/\J_ 13=.map (some bI)/\PHeap.Le U U_/\sW w U U_ [.blk b2 27 B0,.blk bH 118 [.pointer none],.obj bI (.map bS cK)] w_/\MpR bS wBW wBe ([]:List (wAI × Int))) ?_ fun eC=>?_
 rintro qW jv ⟨iV,bH,bI,bS,cK,l0,l3,l4,l5,qx,pf,mA⟩
 refine zC 0 Z Z Z Z (zD Z Z yF zL Z) pf (fun hs=>wAw jv iV hs a0) (.inr Z) ?_
 rintro ff ri sN jw qy pg ⟨rfl,rfl⟩
 have ph:sW w U ff [.blk b2 27 B0,.blk bH 118 [.pointer none],.obj bI (.map bS cK)] jw:=pg
 exact di _ _ ⟨ff,bH,bI,bS,cK,l0,l3,l4,l5,Z,(qx.trans qy),ph,mA⟩
 refine Zj (s:=gBv) (M:=fun J_ w_=>∃ (U_:PHeap) (bm:Nat) (cW:Array MapEntry) (dM:Nat),J_ 1=.pointer (some ⟨b2,0,none⟩)/\J_ 12=.agg B0.toArray/\J_ 13=.map (some bm)/\J_ 14=.agg #[jV ac.skier,jV ac.mat]/\PHeap.Le U U_/\sW w U U_ [.blk b2 27 B0,.obj bm (.map cW dM)] w_/\MpR cW wBW wBe ([]:List (wAI × Int))) ?_ fun eD=>?_
 rintro qX sf ⟨dA,bm,cW,dM,gz,gA,dY,dZ,iE,ib,gR⟩
 refine ZB ?_ ?_
 refine OKS.mapPut (x:=.tmp 13) (y:=.tmp 14) (j:=1) (mk:=wBW) (mv:=wBe) (a:=ac) (v:=0) rfl rfl rfl (by first | exact .inl rfl | exact .inr rfl) ib rfl dY dZ rfl (wBy ZQ) wDZ gR rfl ?_
 intro fN fI jx pZ pj
 have pk:sW w U dA [.blk b2 27 B0,.obj bm (.map fN fI)] jx:=pj
 exact qf _ _ ⟨dA,bm,fN,fI,gz,gA,dY,dZ,iE,pk,pZ⟩
 refine zU (cs:=[.pointer none]) Z Z Z Z Z yL Z ib ?_
 intro sg jZ pm
 exact di _ _ ⟨dA,jZ,bm,cW,dM,gz,rfl,gA,dY,dZ,iE,(pm.pick [1,0,2] _ (by decide) rfl),gR⟩
 refine Zj (s:=gCc) (M:=fun J_ w_=>∃ (U_:PHeap) (bJ:Nat),J_ 1=.pointer (some ⟨b2,0,none⟩)/\J_ 3=.pointer (some ⟨bJ,0,none⟩)/\J_ 14=.agg #[jV ac.skier,jV ac.mat]/\PHeap.Le U U_/\sW w U U_ [.blk b2 27 B0,.blk bJ 118 [.pointer none]] w_) ?_ fun ir=>?_
 rintro qY sh ⟨fg,bJ,d3,gB,gC,iF,eo⟩
 refine ZB ?_ ?_
 exact Zi Z Z Z Z (eo.ldBA (j:=0) Z Z d3 zn zc (vs:=B0) Z Z) (eB _ _ ⟨fg,bJ,d3,gB,Z,gC,iF,eo⟩)
 refine OKS.makeMap Z Z Z Z Z eo ?_
 intro sj j0 pn
 have p5:=MpR.nil wBW wBe
 exact eA _ _ ⟨fg,bJ,j0,#[],0,d3,gB,rfl,gC,iF,(pn.pick [1,2,0] _ (by decide) rfl),p5⟩
 refine Zj (s:=gCb) (M:=fun J_ w_=>∃ (U_:PHeap) (bn:Nat) (bo:Nat) (bs:Array MapEntry) (bL:Nat),J_ 1=.pointer (some ⟨b2,0,none⟩)/\J_ 3=.pointer (some ⟨bn,0,none⟩)/\J_ 13=.map (some bo)/\PHeap.Le U U_/\sW w U U_ [.blk b2 27 B0,.blk bn 118 [.pointer none],.obj bo (.map bs bL)] w_/\MpR bs wBW wBe ([]:List (wAI × Int))) ?_ fun it=>?_
 rintro qZ jy ⟨fh,bn,bo,bs,bL,d4,gD,gE,iG,ep,gS⟩
 refine ZB ?_ ?_
 exact Zi Z Z Z Z (ep.ldBA (j:=0) Z Z d4 zn zc (vs:=B0) Z Z) (eC _ _ ⟨fh,bn,bo,bs,bL,d4,gD,Z,gE,iG,ep,gS⟩)
 refine zC 0 Z Z Z Z (zD Z Z yF zL Z) ep (fun hs=>wAw jy fh hs a0) (.inr Z) ?_
 rintro fj rj sO jz qz po ⟨rfl,rfl⟩
 have pp:sW w U fj [.blk b2 27 B0,.blk bn 118 [.pointer none],.obj bo (.map bs bL)] jz:=po
 exact eA _ _ ⟨fj,bn,bo,bs,bL,d4,gD,gE,Z,(iG.trans qz),pp,gS⟩
 refine Zj (s:=gCd) (M:=fun J_ w_=>∃ (U_:PHeap) (bd:Nat) (bT:Array MapEntry) (cL:Nat),J_ 1=.pointer (some ⟨b2,0,none⟩)/\J_ 13=.map (some bd)/\J_ 14=.agg #[jV ac.skier,jV ac.mat]/\PHeap.Le U U_/\sW w U U_ [.blk b2 27 B0,.obj bd (.map bT cL)] w_/\MpR bT wBW wBe ([]:List (wAI × Int))) ?_ fun iu=>?_
 rintro q0 sk ⟨cg,bd,bT,cL,cX,cY,cZ,eF,dg,eg⟩
 refine ZB ?_ ?_
 exact Zi Z Z Z Z (dg.ldBA (j:=0) Z Z cX zn zc (vs:=B0) Z Z) (eD _ _ ⟨cg,bd,bT,cL,cX,Z,cY,cZ,eF,dg,eg⟩)
 refine ZB ?_ ?_
 refine OKS.mapPut (x:=.tmp 13) (y:=.tmp 14) (j:=1) (mk:=wBW) (mv:=wBe) (a:=ac) (v:=0) rfl rfl rfl (by first | exact .inl rfl | exact .inr rfl) dg rfl cY cZ rfl (wBy ZQ) wDZ eg rfl ?_
 intro fO fJ jA p6 pq
 have pu:sW w U cg [.blk b2 27 B0,.obj bd (.map fO fJ)] jA:=pq
 exact qh _ _ ⟨cg,bd,fO,fJ,cX,cY,cZ,eF,pu,p6⟩
 refine zU (cs:=[.pointer none]) Z Z Z Z Z yL Z dg ?_
 intro sl j5 py
 exact eA _ _ ⟨cg,j5,bd,bT,cL,cX,rfl,cY,cZ,eF,(py.pick [1,0,2] _ (by decide) rfl),eg⟩
 refine Zj (s:=gCa) (M:=fun J_ w_=>∃ (U_:PHeap) (bp:Nat),J_ 1=.pointer (some ⟨b2,0,none⟩)/\J_ 3=.pointer (some ⟨bp,0,none⟩)/\J_ 12=.agg B0.toArray/\PHeap.Le U U_/\sW w U U_ [.blk b2 27 B0,.blk bp 118 [.pointer none]] w_) ?_ fun iv=>?_
 rintro q5 jB ⟨fk,bp,gF,gG,gH,iH,ic⟩
 refine ZB ?_ ?_
 refine OKS.makeMap Z Z Z Z Z ic ?_
 intro sn j6 pz
 have p7:=MpR.nil wBW wBe
 exact eC _ _ ⟨fk,bp,j6,#[],0,gF,gG,gH,rfl,iH,(pz.pick [1,2,0] _ (by decide) rfl),p7⟩
 refine zC 0 Z Z Z Z (zD Z Z yF zL Z) ic (fun hs=>wAw jB fk hs a0) (.inr Z) ?_
 rintro fm rk sP jC qA pB ⟨rfl,rfl⟩
 have mE:sW w U fm [.blk b2 27 B0,.blk bp 118 [.pointer none]] jC:=pB
 exact eB _ _ ⟨fm,bp,gF,gG,gH,Z,(iH.trans qA),mE⟩
 refine Zj (s:=gBz) (M:=fun J_ w_=>∃ (U_:PHeap),J_ 1=.pointer (some ⟨b2,0,none⟩)/\J_ 12=.agg B0.toArray/\J_ 14=.agg #[jV ac.skier,jV ac.mat]/\PHeap.Le U U_/\sW w U U_ [.blk b2 27 B0] w_) ?_ fun il=>?_
 rintro qD rn ⟨eR,fP,fQ,fR,ix,gT⟩
 refine ZB ?_ ?_
 refine OKS.makeMap Z Z Z Z Z gT ?_
 intro ro jD mF
 have pR:=MpR.nil wBW wBe
 exact eD _ _ ⟨eR,jD,#[],0,fP,fQ,rfl,fR,ix,(mF.pick [1,0] _ (by decide) rfl),pR⟩
 refine zU (cs:=[.pointer none]) Z Z Z Z Z yL Z gT ?_
 intro rp jE mG
 exact eB _ _ ⟨eR,jE,fP,rfl,fQ,fR,ix,(mG.pick [1,0] _ (by decide) rfl)⟩
 refine Zj (s:=gBy) (M:=fun J_ w_=>∃ (U_:PHeap) (bg:Nat) (br:Array MapEntry) (bK:Nat),J_ 1=.pointer (some ⟨b2,0,none⟩)/\J_ 12=.agg B0.toArray/\J_ 13=.map (some bg)/\PHeap.Le U U_/\sW w U U_ [.blk b2 27 B0,.obj bg (.map br bK)] w_/\MpR br wBW wBe ([]:List (wAI × Int))) ?_ fun im=>?_
 rintro qE iW ⟨eS,bg,br,bK,fS,fT,fU,iy,gU,gI⟩
 refine ZB ?_ ?_
 refine zC 0 Z Z Z Z (zD Z Z yF zL Z) gU (fun hs=>wAw iW eS hs a0) (.inr Z) ?_
 rintro eU q6 sG iX qi mH ⟨rfl,rfl⟩
 have mI:sW w U eU [.blk b2 27 B0,.obj bg (.map br bK)] iX:=mH
 exact eD _ _ ⟨eU,bg,br,bK,fS,fT,fU,Z,(iy.trans qi),mI,gI⟩
 refine zU (cs:=[.pointer none]) Z Z Z Z Z yL Z gU ?_
 intro rq jF mJ
 exact eC _ _ ⟨eS,jF,bg,br,bK,fS,rfl,fT,fU,iy,(mJ.pick [1,0,2] _ (by decide) rfl),gI⟩
 refine ZB ?_ ?_
 refine Zi Z Z Z Z (a6.ldBA (j:=0) Z Z Z zn zc (vs:=B0) Z Z) (ZB ?_ ?_)
 refine OKS.makeMap Z Z Z Z Z a6 ?_
 intro rv jG mK
 have pS:=MpR.nil wBW wBe
 exact im _ _ ⟨U,jG,#[],0,rfl,rfl,rfl,(zQ _),(mK.pick [1,0] _ (by decide) rfl),pS⟩
 refine ZB ?_ ?_
 refine zC 0 Z Z Z Z (zD Z Z yF zL Z) a6 (fun hs=>wAw fy U hs a0) (.inr Z) ?_
 rintro eV q7 sH iY qj mL ⟨rfl,rfl⟩
 have mM:sW w U eV [.blk b2 27 B0] iY:=mL
 exact il _ _ ⟨eV,Z,Z,Z,qj,mM⟩
 refine zU (cs:=[.pointer none]) Z Z Z Z Z yL Z a6 ?_
 intro rx jH mN
 exact iv _ _ ⟨U,jH,rfl,rfl,rfl,(zQ _),(mN.pick [1,0] _ (by decide) rfl)⟩
 refine ZB ?_ ?_
 refine OKS.makeMap Z Z Z Z Z a6 ?_
 intro iZ cj dd
 have ey:=MpR.nil wBW wBe
 refine ZB ?_ ?_
 exact Zi rfl rfl rfl rfl (dd.ldBA (j:=1) rfl rfl rfl zn zc (vs:=B0) rfl rfl) (im _ _ ⟨U,cj,#[],0,rfl,rfl,rfl,(zQ _),(dd.pick [1,0] _ (by decide) rfl),ey⟩)
 refine ZB ?_ ?_
 refine zC 0 Z Z Z Z (zD Z Z yF zL Z) dd (fun hs=>wAw iZ U hs a0) (.inr Z) ?_
 rintro eW q8 sI i2 qk mO ⟨rfl,rfl⟩
 have mP:sW w U eW [.obj cj (.map #[] 0),.blk b2 27 B0] i2:=mO
 exact iu _ _ ⟨eW,cj,#[],0,rfl,rfl,rfl,qk,(mP.pick [1,0] _ (by decide) rfl),ey⟩
 refine zU (cs:=[.pointer none]) Z Z Z Z Z yL Z dd ?_
 intro ry jI mQ
 exact it _ _ ⟨U,jI,cj,#[],0,rfl,rfl,rfl,(zQ _),(mQ.pick [2,0,1] _ (by decide) rfl),ey⟩
 refine ZB ?_ ?_
 refine zC 0 Z Z Z Z (zD Z Z yF zL Z) a6 (fun hs=>wAw fy U hs a0) (.inr Z) ?_
 rintro cd q9 sJ i4 eE mR ⟨rfl,rfl⟩
 have de:sW w U cd [.blk b2 27 B0] i4:=mR
 refine ZB ?_ ?_
 exact Zi Z Z Z Z (de.ldBA (j:=0) Z Z Z zn zc (vs:=B0) Z Z) (il _ _ ⟨cd,Z,Z,Z,eE,de⟩)
 refine ZB ?_ ?_
 refine OKS.makeMap Z Z Z Z Z de ?_
 intro rz jJ mS
 have pT:=MpR.nil wBW wBe
 exact iu _ _ ⟨cd,jJ,#[],0,rfl,rfl,rfl,eE,(mS.pick [1,0] _ (by decide) rfl),pT⟩
 refine zU (cs:=[.pointer none]) Z Z Z Z Z yL Z de ?_
 intro rA jK mT
 exact ir _ _ ⟨cd,jK,rfl,rfl,rfl,eE,(mT.pick [1,0] _ (by decide) rfl)⟩
 refine zU (cs:=[.pointer none]) Z Z Z Z Z yL Z a6 ?_
 intro i6 cm df
 refine ZB ?_ ?_
 exact Zi rfl rfl rfl rfl (df.ldBA (j:=1) rfl rfl rfl zn zc (vs:=B0) rfl rfl) (iv _ _ ⟨U,cm,rfl,rfl,rfl,(zQ _),(df.pick [1,0] _ (by decide) rfl)⟩)
 refine ZB ?_ ?_
 refine OKS.makeMap Z Z Z Z Z df ?_
 intro rC jL mU
 have pU:=MpR.nil wBW wBe
 exact it _ _ ⟨U,cm,jL,#[],0,rfl,rfl,rfl,(zQ _),(mU.pick [2,1,0] _ (by decide) rfl),pU⟩
 refine zC 0 Z Z Z Z (zD Z Z yF zL Z) df (fun hs=>wAw i6 U hs a0) (.inr Z) ?_
 rintro eZ rc sK i8 qm mV ⟨rfl,rfl⟩
 have mW:sW w U eZ [.blk cm 118 [.pointer none],.blk b2 27 B0] i8:=mV
 exact ir _ _ ⟨eZ,cm,rfl,rfl,rfl,qm,(mW.pick [1,0] _ (by decide) rfl)⟩
 rintro qF i9 ⟨iM,b6,b8,ae,bM,cD,fV,j9,dk,gV,l7⟩
 refine zJ (sR gAi Z (oL Z (gV.ldBA (j:=0) Z Z fV zn zc (vs:=B0) Z Z) ?_))
 have gJ:=pD.le dk
 have gK:=pE.le dk
 have gL:=pG.le dk
 have gM:=pH.le dk
 have q:=bnd pL
 obtain ⟨⟨⟩,l8,ii⟩:=q
 try dsimp only at ii
 refine zC 0 Z Z Z Z (zD Z Z Tryz.call106 (zB Z zL) Z) gV (fun hs=>wGi O af aj ag ak ah am ai an i9 iM hs gJ gK gL gM l8) (.inr Z) ?_
 rintro e6 rd sL ja dl mX ⟨fA,rfl,rfl,ma⟩
 let B6:Res:=.blk b6 118 [.pointer (some ⟨b8,0,none⟩)]
 have mY:sW w U e6 [.blk b2 27 B0,B6,.blk b8 139 [.slice af O.Starts.length aj,.slice ag O.Splits.length ak,.slice ah O.Clocks.length am,.slice ai O.Readings.length an,.map (some ae),.slice none 0 0],.obj ae (.map bM cD)] ja:=mX
 refine eN (zX (yt fun cc db=>?_))
 have k5:cc 1=.pointer (some ⟨b2,0,none⟩):=(db 1).trans fV
 have fW:cc 3=.pointer (some ⟨b6,0,none⟩):=(db 3).trans j9
 have k6:cc 19=.func (.func 126) #[] #[.pointer (some ⟨fA,0,none⟩)]:=(db 19).trans rfl
 clear db
 have mZ:=mY.nilrow 184 7
 refine bnK ii fun iJ pK ij=>?_
 have d5:=gJ.le dl
 have d6:=gK.le dl
 have d7:=gL.le dl
 have d8:=gM.le dl
 refine CK.rangeY (S:=(List wAg) × (List (wAI × Int))) (E:=Empty) (ar:=wMD) (PY:=(fun (s_:(List wAg) × (List (wAI × Int))) (U_:PHeap) (L_:List Res)=>match s_ with | (l1591,l1595)=>∃ (bf:Option Addr) (bq:Nat) (aV:Array MapEntry) (aW:Nat),L_=[.blk b2 27 B0,B6,.row bf bq 184 7 (hD wAO l1591),.blk b8 139 [.slice af O.Starts.length aj,.slice ag O.Splits.length ak,.slice ah O.Clocks.length am,.slice ai O.Readings.length an,.map (some ae),.slice bf l1591.length bq],.obj ae (.map aV aW)]/\MpR aV wBW wBe l1595)) (PE:=(fun (_:Empty) _ _=>False)) (exO:=Empty.elim) (s0:=([],iw)) (rr:=iJ) k6 Tryz.call126 (mZ.pick [1,2,0,3,4] _ (by decide) rfl) (by decide) (fun _ _ _ h=>by obtain rfl:=h;rfl) (fun e=>nomatch e) ⟨none,0,bM,cD,rfl,l7⟩ (fun l w1 L1 PY' PE' mD mB pC=>wFu PY' PE' _ l _ O fA af aj ag ak ah am ai an w1 L1 e6 mD mB pC ma d5 d6 d7 d8 pK) ?_ ?_
 rintro ay sF sB ⟨l1591,l1595⟩ ao sQ sE dq re qC eG aJ dm m3 mC pF ie dr bu
 obtain ⟨bf,bq,aV,aW,rfl,mb⟩:=mC
 obtain rfl:=pF
 replace bu:∀ t,dr t=upd cc 20 (.agg #[jV ao.Kind,jV ao.Skier,jV ao.Index,.bool ao.Up]) t:=bu
 have k7:dr 20=.agg #[jV ao.Kind,jV ao.Skier,jV ao.Index,.bool ao.Up]:=(bu 20).trans (wFU _ _ _)
 have fY:dr 1=.pointer (some ⟨b2,0,none⟩):=(bu 1).trans ((wFz _ _ (by decide)).trans k5)
 have k8:dr 3=.pointer (some ⟨b6,0,none⟩):=(bu 3).trans ((wFz _ _ (by decide)).trans fW)
 clear bu
 let B7:Res:=.blk b8 139 [.slice af O.Starts.length aj,.slice ag O.Splits.length ak,.slice ah O.Clocks.length am,.slice ai O.Readings.length an,.map (some ae),.slice bf l1591.length bq]
 let B8:Res:=.row bf bq 184 7 (hD wAO l1591)
 have m4:St aJ dq [.obj ay eG,.blk b2 27 B0,B6,B8,B7,.obj ae (.map aV aW)] qC:=m3
 try dsimp only at ie
 refine rR (.fx 0 (.fx 1 .nil .stop) .stop) Z (zU (cs:=[jV 0,jV 0,jV 0,.bool false]) Z Z Z Z Z Zw Z m4 ?_)
 intro rD ax m5
 let B9:List Value:=[jV ao.Kind,jV ao.Skier,jV ao.Index,.bool ao.Up]
 refine zY (j:=0) (vs:=B9) Z Z Z Z m5 Z Z k7 Z Zg (zA Z) Z Z Z ?_
 intro jb m6
 have m7:St aJ dq [.blk ax 93 B9,.obj ay eG,.blk b2 27 B0,B6,B8,B7,.obj ae (.map aV aW)] jb:=m6
 refine zb ⟨rfl,rfl,_,_,(m7.pick [1,0,2,3,4,5,6] [.obj ay eG,.blk ax 93 B9,.blk b2 27 B0,B6,B8,B7,.obj ae (.map aV aW)] (by decide) rfl),fun ft aN m8=>?_⟩
 have eh:St aJ dq [.obj ay aN,.blk ax 93 B9,.blk b2 27 B0,B6,B8,B7,.obj ae (.map aV aW)] ft:=m8
 refine zX (sR (.fl 0 (.fl 1 (.fx 2 (wMZ (.fx 7 (.fx 8 (.fx 9 (.fx 10 (.fl 11 .nil) .stop) .stop) .stop) .stop)) .stop))) Z (oL Z (eh.ldBA (j:=2) Z Z fY zn zc (vs:=B0) Z Z) (oL Z (eh.ldBA (j:=1) Z Z Z Zx Zg (vs:=B9) Z Z) ?_)))
 have mc:=d5.le dm
 have md:=d6.le dm
 have me:=d7.le dm
 have mf:=d8.le dm
 have q:=bnd ie
 obtain ⟨⟨az,aH,aR⟩,mg,ik⟩:=q
 try dsimp only at ik
 refine zC 0 Z Z Z Z (zD Z Z Tryz.call107 (zB Z (zB Z zL)) Z) eh (fun hs=>wBw O af aj ag ak ah am ai an ao ft dq hs mc md me mf mg) (.inr Z) ?_
 rintro bA rf sM jc sC m9 ⟨rfl,rfl⟩
 have n3:St aJ bA [.obj ay aN,.blk ax 93 B9,.blk b2 27 B0,B6,B8,B7,.obj ae (.map aV aW)] jc:=m9
 refine oM Z Z (oR Z (zV Z Z (v:=.agg #[jV az.skier,jV az.mat]) Z) (oR Z (zV Z Z (v:=.agg #[jV aH.skier,jV aH.mat]) Z) (oR Z (zV Z Z (v:=jV aR) Z) ?_)))
 let cb:List Value:=[jV 0,jV 0]
 refine zU (cs:=cb) Z Z Z Z Z zd Z n3 ?_
 intro rE aO n4
 refine zU (cs:=cb) Z Z Z Z Z zd Z n4 ?_
 intro rF aP n5
 let aI:List Value:=[jV az.skier,jV az.mat]
 refine zY (j:=1) (vs:=aI) Z Z Z Z n5 Z Z Z Z zI (zA Z) Z Z Z ?_
 intro jd n6
 have n7:St aJ bA [.blk aP 123 cb,.blk aO 123 aI,.obj ay aN,.blk ax 93 B9,.blk b2 27 B0,B6,B8,B7,.obj ae (.map aV aW)] jd:=n6
 let aK:List Value:=[jV aH.skier,jV aH.mat]
 refine zY (j:=0) (vs:=aK) Z Z Z Z n7 Z Z Z Z zI (zA Z) Z Z Z ?_
 intro je n8
 have ej:St aJ bA [.blk aP 123 aK,.blk aO 123 aI,.obj ay aN,.blk ax 93 B9,.blk b2 27 B0,B6,B8,B7,.obj ae (.map aV aW)] je:=n8
 refine oA Z Z (eN (zJ (sR fL4 Z (oL Z (ej.ldBA (j:=1) Z Z Z zj zI (vs:=aI) Z Z) (oL Z (ej.ldBA (j:=0) Z Z Z zj zI (vs:=aK) Z Z) ?_)))))
 let eI:List Value:=[jV az.skier,jV az.mat,jV aH.skier,jV aH.mat]
 refine oR Z (Runs.buildA (pv:=[(0,.agg aI.toArray),(1,.agg aK.toArray)]) (z:=[jV 0,jV 0,jV 0,jV 0]) (cs:=eI) Z (wAG Z (wAG Z wAP)) Tryz.zeroValue210 Tryz.runUnderlying210 zI Z Z) (oM Z Z (eN (zX (bnK ik fun av pI pM=>?_))))
 have q:=wBn pI
 obtain ⟨eu,pJ⟩:=q
 replace eu:=zM eu
 refine CK.forN' (fun bX bY J_ w_=>∃ (U_:PHeap) (bN:Array MapEntry) (cE:Nat),J_ 31=jV (↑bX:Int)/\J_ 1=.pointer (some ⟨b2,0,none⟩)/\J_ 3=.pointer (some ⟨b6,0,none⟩)/\J_ 4=.pointer (some ⟨ax,0,none⟩)/\J_ 5=.pointer (some ⟨aO,0,none⟩)/\J_ 6=.pointer (some ⟨aP,0,none⟩)/\J_ 7=jV aR/\J_ 30=.agg eI.toArray/\PHeap.Le bA U_/\St aJ U_ [.blk aP 123 aK,.blk aO 123 aI,.obj ay aN,.blk ax 93 B9,.blk b2 27 B0,B6,B8,B7,.obj ae (.map bN cE)] w_/\MpR bN wBW wBe bY) pJ ?_ ?_ ?_
 exact ⟨bA,aV,aW,Z,fY,k8,Z,Z,Z,Z,Z,(zQ _),ej,mb⟩
 rintro bX bY sS qG rG er ⟨cf,bN,cE,c6,fZ,bU,f5,f6,f7,f8,dO,iz,n9,da⟩ p9
 have fC:Hid ((↑bX:Int) < 2):=zM (wBQ er)
 replace er:=zM er
 have ig:Hid (w64 ((↑bX:Int) + 1)=(↑(bX + 1):Int)):=zM (by have h1:=eu.out;have h2:=fC.out;rw [wAY] <;> omega)
 refine sR fL1 Z (oR Z (ze Z c6 Z) (eN (zJ (cT Z fC (kN (zJ (zX (sR (.fl 0 (.fx 1 (.fx 2 .nil .stop) .stop)) Z (bnK p9 fun bv d9 pN=>oR Z (yn (cs:=hD wCD ([az,aH]:List wAI)) Z dO c6 Tryz.runUnderlying210 zI (wBp d9) (wBx d9) (wDT zj zI (wIu (sz:=2) (fun _=>Z) _ _ (wAb d9)))) (zU (cs:=cb) Z Z Z Z Z zd Z n9 ?_))))))))))
 intro rH fB oa
 let bw:List Value:=[jV bv.skier,jV bv.mat]
 refine zY (j:=0) (vs:=bw) Z Z Z Z oa Z Z Z Z zI (zA Z) Z Z Z ?_
 intro dB oc
 have od:St aJ cf [.blk fB 123 bw,.blk aP 123 aK,.blk aO 123 aI,.obj ay aN,.blk ax 93 B9,.blk b2 27 B0,B6,B8,B7,.obj ae (.map bN cE)] dB:=oc
 refine eN (zJ (ZI ZD [1,3,3,1,1,1,3,3,3,3,3] fL11 (by kernel_rfl) ?_))
 have be:=od.drew
 generalize hw_W1729:({ dB with drawn:=dB.drawn + 1 }:World)=fu at be ⊢
 refine oL Z (be.ldB (j:=6) Z Z bU yh (v:=.pointer (some ⟨b8,0,none⟩)) Z) (oR Z (yB Z Z) (oR Z (zH Z Z ZM Z yD) (oL Z (be.ldB (j:=8) Z Z Z yK (v:=.map (some ae)) Z) (oL Z (be.ldBA (j:=0) Z Z Z zj zI (vs:=bw) Z Z) (oL Z (be.lookup2 (j:=9) (mk:=wBW) (mv:=wBe) (a:=bv) (z:=0) Z Z Z Z (wBy ZQ) wDZ zy da) (oM Z Z (oR Z (zV Z Z (v:=jV (wBX bY bv 0)) Z) (oR Z (zV Z Z (v:=.bool (wKv bY bv)) Z) (oA Z Z (oA Z Z (eN (sR fL2 Z (oM Z Z (oR Z (ZY Z Z) (eN (ifc pN ?_ ?_))))))))))))))))
 intro dC pO
 refine zr (nC dC.out) (Ze (zl (zF (rR fL2 Z (oR Z (ZP (za Z c6 Z) (congrArg (jV) ig.out)) (oM Z Z (zb ?_)))))))
 cases pO
 exact zF ⟨rfl,⟨cf,bN,cE,rfl,fZ,bU,f5,f6,f7,f8,dO,iz,(be.pick [1,2,3,4,5,6,7,8,9] _ (by decide) rfl),da⟩⟩
 intro dC pP
 refine ZK (nF (dC.out)) (ZI ZD [1,3,3,1,1,1,3,3,1,1,0] (wMY (.fx 10 .nil .stop)) (by kernel_rfl) ?_)
 have a5:=be.drew
 generalize hw_W1737:({ fu with drawn:=fu.drawn + 1 }:World)=rI at a5 ⊢
 refine zx rfl rfl rfl rfl (a5.ldB (j:=6) rfl rfl bU yh (v:=.pointer (some ⟨b8,0,none⟩)) rfl) rfl (zg rfl rfl rfl rfl (fun _=>yB rfl rfl) (zg rfl rfl rfl rfl (fun _=>zH rfl rfl ZM rfl yD) (zx rfl rfl rfl rfl (a5.ldB (j:=8) rfl rfl rfl yK (v:=.map (some ae)) rfl) rfl (zx rfl rfl rfl rfl (a5.ldBA (j:=0) rfl rfl rfl zj zI (vs:=bw) rfl rfl) rfl (zx rfl rfl rfl rfl (a5.ldB (j:=6) rfl rfl bU yh (v:=.pointer (some ⟨b8,0,none⟩)) rfl) rfl (zg rfl rfl rfl rfl (fun _=>yB rfl rfl) (zg rfl rfl rfl rfl (fun _=>zH rfl rfl ZM rfl yD) (zx rfl rfl rfl rfl (a5.ldB (j:=8) rfl rfl rfl yK (v:=.map (some ae)) rfl) rfl (zx rfl rfl rfl rfl (a5.lenM (j:=9) (mk:=wBW) (mv:=wBe) rfl rfl rfl (wBy ZQ) da) rfl (OKS.mapPut (x:=.tmp 48) (y:=.tmp 49) (z:=.tmp 54) (j:=9) (mk:=wBW) (mv:=wBe) (a:=bv) (v:=(↑(bY.length):Int)) rfl rfl rfl (by first | exact .inl rfl | exact .inr rfl) a5 rfl rfl rfl rfl (wBy ZQ) wDZ da rfl ?_))))))))))
 intro fK fD jf pV oe
 have og:St aJ cf [.blk fB 123 bw,.blk aP 123 aK,.blk aO 123 aI,.obj ay aN,.blk ax 93 B9,.blk b2 27 B0,B6,B8,B7,.obj ae (.map fK fD)] jf:=oe
 refine zb (zl (zF (rR fL2 Z (oR Z (ZP (za Z c6 Z) (congrArg (jV) ig.out)) (oM Z Z (zb ?_))))))
 cases pP
 exact zF ⟨rfl,⟨cf,fK,fD,rfl,fZ,bU,f5,f6,f7,f8,dO,iz,(og.pick [1,2,3,4,5,6,7,8,9] _ (by decide) rfl),pV⟩⟩
 rintro qH fw ⟨aY,aU,aT,l6,so,bt,k9,lb,lf,lg,sq,sD,oh,bV⟩
 have j7:Hid (¬ ((↑((2:Int) - 0).toNat:Int) < 2)):=zM (wAq)
 refine sR fL1 rfl (zg rfl rfl rfl rfl (fun _=>ze rfl l6 rfl) (eN (zJ (cF Z j7 (ZS (zf (zf (ZN (zF (bnK pM fun aS ef ew=>ZI ZD [2,1,3,3,1,1,1,3,3,1,1,1,1,3,3,1,1,1,3,3,2,0,3,3,0] (wPA (.fx 0 (.fx 20 gBk .stop) (.fx 20 (.fx 0 gBk (.fx 21 (.fx 0 gBb .stop) .stop)) .stop))) (by kernel_rfl) ?_))))))))))
 have aM:=oh.drew
 generalize hw_W1786:({ fw with drawn:=fw.drawn + 1 }:World)=rJ at aM ⊢
 refine oL Z (aM.ldB (j:=5) Z Z bt yh (v:=.pointer (some ⟨b8,0,none⟩)) Z) (oR Z (yB Z Z) (oR Z (zH Z Z ZM Z yo) (oL Z (aM.ldB (j:=7) Z Z Z Tryz.isAgg137 (v:=.slice bf l1591.length bq) Z) (oL Z (aM.ldBA (j:=3) Z Z k9 Zx Zg (vs:=B9) Z Z) (oL Z (aM.ldB (j:=5) Z Z bt yh (v:=.pointer (some ⟨b8,0,none⟩)) Z) (oR Z (yB Z Z) (oR Z (zH Z Z ZM Z yD) (oL Z (aM.ldB (j:=7) Z Z Z yK (v:=.map (some ae)) Z) (oL Z (aM.ldBA (j:=1) Z Z lb zj zI (vs:=aI) Z Z) (oL Z (aM.lookup1 (j:=8) (mk:=wBW) (mv:=wBe) (a:=az) (z:=0) Z Z Z Z (wBy ZQ) wDZ zy bV) (oL Z (aM.ldB (j:=5) Z Z bt yh (v:=.pointer (some ⟨b8,0,none⟩)) Z) (oR Z (yB Z Z) (oR Z (zH Z Z ZM Z yD) (oL Z (aM.ldB (j:=7) Z Z Z yK (v:=.map (some ae)) Z) (oL Z (aM.ldBA (j:=0) Z Z lf zj zI (vs:=aK) Z Z) (oL Z (aM.lookup1 (j:=8) (mk:=wBW) (mv:=wBe) (a:=aH) (z:=0) Z Z Z Z (wBy ZQ) wDZ zy bV) (oM Z lg ?_)))))))))))))))))
 let bx:List Value:=[jV ao.Kind,jV ao.Skier,jV ao.Index,.bool ao.Up,jV (wBX av az 0),jV (wBX av aH 0),jV aR]
 let du:List Value:=[jV 0,jV 0,jV 0,.bool false,jV 0,jV 0,jV 0]
 refine oR Z (zu (pv:=[(0,.agg B9.toArray),(1,jV (wBX av az 0)),(2,jV (wBX av aH 0)),(3,jV aR)]) (z:=du) (cs:=bx) Z (wAG Z (wAG Z (wAG Z (wAG Z wAP)))) Tryz.zeroValue184 wLQ Z Z) (ZB ?_ ?_)
 refine Zi Z Z Z Z (aM.ldB (j:=5) Z Z bt yh (v:=.pointer (some ⟨b8,0,none⟩)) Z) (ZC (pv:=[(0,.agg bx.toArray)]) (zs:=du) (cs:=bx) Z Z Z Z Z (wAG Z wAP) Tryz.runUnderlying137 Tryz.sizeOf184 Tryz.zeroValue184 Z Z Z Z Z aM ?_)
 intro jg jM oi
 let dv:Res:=.row (some ⟨jM,0,none⟩) 1 184 7 (hD wAO [(⟨ao,(wBX av az 0),(wBX av aH 0),aR⟩:wAg)])
 have gW:St aJ aY [dv,.blk aP 123 aK,.blk aO 123 aI,.obj ay aN,.blk ax 93 B9,.blk b2 27 B0,B6,B8,B7,.obj ae (.map aU aT)] jg:=oi
 refine yG (j:=7) (enc:=wAO) (xs:=l1591) (ys:=[(⟨ao,(wBX av az 0),(wBX av aH 0),aR⟩:wAg)]) (zs:=aS) rfl rfl rfl rfl rfl Tryz.underlying137 wJn rfl rfl rfl rfl rfl rfl gW rfl rfl rfl (gW.srcR (j:=0) rfl (by decide) (wAD (f:=wAO) (sz:=7) (fun _=>rfl) [(⟨ao,(wBX av az 0),(wBX av aH 0),aR⟩:wAg)])) (fun _=>rfl) (fun _=>rfl) ef rfl ?_
 intro bZ cy jh oj
 let eJ:Res:=.row bZ cy 184 7 (hD wAO aS)
 have ol:St aJ aY [dv,.blk aP 123 aK,.blk aO 123 aI,.obj ay aN,.blk ax 93 B9,.blk b2 27 B0,B6,eJ,B7,.obj ae (.map aU aT)] jh:=oj
 refine oR Z (yB Z Z) (oR Z (zH Z Z ZM Z yo) (zY (j:=8) (vs:=[.slice bZ aS.length cy]) Z Z Z Z ol Z Z Z Z yo (zA Z) Z Z Z ?_))
 intro ji om
 have oo:St aJ aY [dv,.blk aP 123 aK,.blk aO 123 aI,.obj ay aN,.blk ax 93 B9,.blk b2 27 B0,B6,eJ,.blk b8 139 [.slice af O.Starts.length aj,.slice ag O.Splits.length ak,.slice ah O.Clocks.length am,.slice ai O.Readings.length an,.map (some ae),.slice bZ aS.length cy],.obj ae (.map aU aT)] ji:=om
 refine zb (zl ?_)
 have q:=hH ew
 obtain rfl:=q
 exact ⟨_,_,(oo.pick [3,5,6,7,8,9] _ (by decide) rfl),rfl,⟨bZ,cy,aU,aT,rfl,bV⟩⟩
 refine ZC (pv:=[(0,.agg bx.toArray)]) (zs:=du) (cs:=bx) Z Z Z Z Z (wAG Z wAP) Tryz.runUnderlying137 Tryz.sizeOf184 Tryz.zeroValue184 Z Z Z Z Z aM ?_
 intro jj jN oq
 let bz:Res:=.row (some ⟨jN,0,none⟩) 1 184 7 (hD wAO [(⟨ao,(wBX av az 0),(wBX av aH 0),aR⟩:wAg)])
 have bW:St aJ aY [bz,.blk aP 123 aK,.blk aO 123 aI,.obj ay aN,.blk ax 93 B9,.blk b2 27 B0,B6,B8,B7,.obj ae (.map aU aT)] jj:=oq
 refine ZB ?_ ?_
 refine Zi rfl rfl rfl rfl (bW.ldB (j:=6) rfl rfl bt yh (v:=.pointer (some ⟨b8,0,none⟩)) rfl) (yG (j:=7) (enc:=wAO) (xs:=l1591) (ys:=[(⟨ao,(wBX av az 0),(wBX av aH 0),aR⟩:wAg)]) (zs:=aS) rfl rfl rfl rfl rfl Tryz.underlying137 wJn rfl rfl rfl rfl rfl rfl bW rfl rfl rfl (bW.srcR (j:=0) rfl (by decide) (wAD (f:=wAO) (sz:=7) (fun _=>rfl) [(⟨ao,(wBX av az 0),(wBX av aH 0),aR⟩:wAg)])) (fun _=>rfl) (fun _=>rfl) ef rfl ?_)
 intro b5 cz jk ot
 let eL:Res:=.row b5 cz 184 7 (hD wAO aS)
 have ou:St aJ aY [bz,.blk aP 123 aK,.blk aO 123 aI,.obj ay aN,.blk ax 93 B9,.blk b2 27 B0,B6,eL,B7,.obj ae (.map aU aT)] jk:=ot
 refine oR Z (yB Z Z) (oR Z (zH Z Z ZM Z yo) (zY (j:=8) (vs:=[.slice b5 aS.length cz]) Z Z Z Z ou Z Z Z Z yo (zA Z) Z Z Z ?_))
 intro jl ov
 have ow:St aJ aY [bz,.blk aP 123 aK,.blk aO 123 aI,.obj ay aN,.blk ax 93 B9,.blk b2 27 B0,B6,eL,.blk b8 139 [.slice af O.Starts.length aj,.slice ag O.Splits.length ak,.slice ah O.Clocks.length am,.slice ai O.Readings.length an,.map (some ae),.slice b5 aS.length cz],.obj ae (.map aU aT)] jl:=ov
 refine zb (zl ?_)
 have q:=hH ew
 obtain rfl:=q
 exact ⟨_,_,(ow.pick [3,5,6,7,8,9] _ (by decide) rfl),rfl,⟨b5,cz,aU,aT,rfl,bV⟩⟩
 refine yG (j:=7) (enc:=wAO) (xs:=l1591) (ys:=[(⟨ao,(wBX av az 0),(wBX av aH 0),aR⟩:wAg)]) (zs:=aS) rfl rfl rfl rfl rfl Tryz.underlying137 wJn rfl rfl rfl rfl rfl rfl bW rfl rfl rfl (bW.srcR (j:=0) rfl (by decide) (wAD (f:=wAO) (sz:=7) (fun _=>rfl) [(⟨ao,(wBX av az 0),(wBX av aH 0),aR⟩:wAg)])) (fun _=>rfl) (fun _=>rfl) ef rfl ?_
 intro ca cA jm ox
 let eM:Res:=.row ca cA 184 7 (hD wAO aS)
 have gX:St aJ aY [bz,.blk aP 123 aK,.blk aO 123 aI,.obj ay aN,.blk ax 93 B9,.blk b2 27 B0,B6,eM,B7,.obj ae (.map aU aT)] jm:=ox
 refine Zi Z Z Z Z (gX.ldB (j:=6) Z Z bt yh (v:=.pointer (some ⟨b8,0,none⟩)) Z) (oR Z (yB Z Z) (oR Z (zH Z Z ZM Z yo) (zY (j:=8) (vs:=[.slice ca aS.length cA]) Z Z Z Z gX Z Z Z Z yo (zA Z) Z Z Z ?_)))
 intro jo oy
 have oz:St aJ aY [bz,.blk aP 123 aK,.blk aO 123 aI,.obj ay aN,.blk ax 93 B9,.blk b2 27 B0,B6,eM,.blk b8 139 [.slice af O.Starts.length aj,.slice ag O.Splits.length ak,.slice ah O.Clocks.length am,.slice ai O.Readings.length an,.map (some ae),.slice ca aS.length cA],.obj ae (.map aU aT)] jo:=oy
 refine zb (zl ?_)
 have q:=hH ew
 obtain rfl:=q
 exact ⟨_,_,(oz.pick [3,5,6,7,8,9] _ (by decide) rfl),rfl,⟨ca,cA,aU,aT,rfl,bV⟩⟩
 rintro iI dy rh jp dp oB
 rcases iJ with ⟨iK,sT⟩ | j8
 try dsimp only at ij
 rintro ⟨dt,dD,cM,cC,rfl,mh⟩
 let dw:Res:=.blk b8 139 [.slice af O.Starts.length aj,.slice ag O.Splits.length ak,.slice ah O.Clocks.length am,.slice ai O.Readings.length an,.map (some ae),.slice dt iK.length dD]
 let dx:Res:=.row dt dD 184 7 (hD wAO iK)
 have gY:sW w U dy [.blk b2 27 B0,B6,dx,dw,.obj ae (.map cM cC),.obj iI (.deferred (some []))] jp:=oB
 refine zl (zF (sR fL2 Z (oL Z (gY.ldB (j:=1) Z Z fW yh (v:=.pointer (some ⟨b8,0,none⟩)) Z) (oA Z Z (eN (zR ?_))))))
 have mi:=d5.le dp
 have mj:=d6.le dp
 have mm:=d7.le dp
 have mn:=d8.le dp
 refine wNE (by first | exact .inl rfl | exact .inr rfl) (rbs:=[iI]) (L:=[.blk b2 27 B0,B6,dx,dw,.obj ae (.map cM cC)]) gY fun jq oC=>?_
 have oD:sW w U dy [.blk b2 27 B0,B6,dx,dw,.obj ae (.map cM cC)] jq:=oC
 cases ij
 exact ⟨_,(ZH rfl),dy,_,(oD.pick [3,4,2] _ (by decide) rfl),b8,af,aj,ag,ak,ah,am,ai,an,ae,cM,cC,dt,dD,rfl,rfl,mi,mj,mm,mn,mh⟩
 exact j8.elim
end Go.Proofs.YtlnfbjphfoipaaaGreat
