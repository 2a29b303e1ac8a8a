import Derived.Test.YtjfffcjjlnmneaaGreatZ5
namespace Go.Proofs.YtjfffcjjlnmneaaGreat
open Go.KL
set_option maxHeartbeats 4000000
theorem Z {α:Type} {a:α}:a=a:=rfl
section
variable {r:Option Nat} {N:Nat} {P:Program} {l:List Oper} {Q:Post} {D:List Deferred} {ks:List Nat} {σ:Env} {w:World} {i d j e:Nat} {s:Sch} {o:Oper} {b:Bool} {x:Operand} {v:Value} {p:Prop} {inst:Decidable p} {K:List Deferred→Env→World→Prop} {c1 c2:Code}
abbrev St0 (w:World) (φ:PHeap) (L:List Res):Prop:=St ⟨w,L,φ⟩ φ L w
theorem ifc {α:Type} {G p:Prop} {inst:Decidable p} {a b r:α} (h:@ite α p inst a b=r) (h1:Hid p→a=r→G) (h2:Hid (¬ p)→b=r→G):G:=by
 by_cases c:p
 · rw [if_pos c] at h;exact h1 ⟨c⟩ h
 · rw [if_neg c] at h;exact h2 ⟨c⟩ h
theorem bnK {α β:Type} {G:Prop} {o:Option α} {f:α→Option β} {r:β} (h:o.bind f=some r) (k:∀ x,o=some x→f x=some r→G):G:=by
 obtain ⟨x,h1,h2⟩:=bnd h
 exact k x h1 h2
theorem oR (h:(l[i]?,o.dst,Nat.blt d N,wanted l σ o)=(some o,some d,true,true)) (hr:∀ w',Runs P σ w' o v w') (k:OKS N P l Q D ks s (upd σ d v) w):OKS N P l Q D ks (.fl i s) σ w:=by
 simp only [Prod.mk.injEq] at h;exact OKS.r h.1 h.2.1 h.2.2.1 h.2.2.2 hr k
theorem oL (h:(l[i]?,o.dst,Nat.blt d N,wanted l σ o,mustK (kOf ks i))=(some o,some d,true,true,false)) (hr:RunsK P σ w o v) (k:OKS N P l Q D ks s (upd σ d v) w):OKS N P l Q D ks (.fl i s) σ w:=by
 simp only [Prod.mk.injEq] at h;exact OKS.m h.1 h.2.1 h.2.2.1 h.2.2.2.1 hr h.2.2.2.2 k
theorem oM (h:(l[i]?,o.dst,Nat.blt d N,wanted l σ o,o.op)=(some o,some d,true,true,.move x)) (hx:ev σ x=v) (k:OKS N P l Q D ks s (upd σ d v) w):OKS N P l Q D ks (.fl i s) σ w:=by
 simp only [Prod.mk.injEq] at h;exact OKS.rm h.1 h.2.1 h.2.2.1 h.2.2.2.1 h.2.2.2.2 hx k
theorem oA (h:(l[i]?,o.dst,Nat.blt d N,wanted l σ o,o.op)=(some o,some d,true,true,.assign x)) (hx:ev σ x=v) (k:OKS N P l Q D ks s (upd σ d v) w):OKS N P l Q D ks (.fl i s) σ w:=by
 simp only [Prod.mk.injEq] at h;exact OKS.ra h.1 h.2.1 h.2.2.1 h.2.2.2.1 h.2.2.2.2 hx k
theorem oF (h:(l[i]?,o.dst,Nat.blt d N,o.guard,(l[j]?).bind (·.dst),σ e,false == b)=(some o,some d,true,some (j,b),some e,.bool (decide p),false)) (c:Hid (¬ p)) (k:OKS N P l Q D ks s (upd σ d undef) w):OKS N P l Q D ks (.fl i s) σ w:=by
 simp only [Prod.mk.injEq] at h;exact OKS.p h.1 h.2.1 h.2.2.1 (wantedN h.2.2.2.1 h.2.2.2.2.1 (h.2.2.2.2.2.1.trans (decF c.out)) h.2.2.2.2.2.2) k
theorem oT (h:(l[i]?,o.dst,Nat.blt d N,o.guard,(l[j]?).bind (·.dst),σ e,true == b)=(some o,some d,true,some (j,b),some e,.bool (decide p),false)) (c:Hid p) (k:OKS N P l Q D ks s (upd σ d undef) w):OKS N P l Q D ks (.fl i s) σ w:=by
 simp only [Prod.mk.injEq] at h;exact OKS.p h.1 h.2.1 h.2.2.1 (wantedN h.2.2.2.1 h.2.2.2.2.1 (h.2.2.2.2.2.1.trans (decT c.out)) h.2.2.2.2.2.2) k
theorem oN {b2:Bool} (h:(l[i]?,o.dst,Nat.blt d N,o.guard,(l[j]?).bind (·.dst),σ e,b2 == b)=(some o,some d,true,some (j,b),some e,.bool b2,false)) (k:OKS N P l Q D ks s (upd σ d undef) w):OKS N P l Q D ks (.fl i s) σ w:=by
 simp only [Prod.mk.injEq] at h;exact OKS.p h.1 h.2.1 h.2.2.1 (wantedN h.2.2.2.1 h.2.2.2.2.1 h.2.2.2.2.2.1 h.2.2.2.2.2.2) k
theorem wT (h:(o.guard,(l[j]?).bind (·.dst),σ e)=(some (j,true),some e,.bool (decide p))) (c:Hid p):wanted l σ o=true:=by
 simp only [Prod.mk.injEq] at h;exact wantedY h.1 h.2.1 (h.2.2.trans (decT c.out))
theorem wF (h:(o.guard,(l[j]?).bind (·.dst),σ e)=(some (j,false),some e,.bool (decide p))) (c:Hid (¬ p)):wanted l σ o=true:=by
 simp only [Prod.mk.injEq] at h;exact wantedY h.1 h.2.1 (h.2.2.trans (decF c.out))
theorem rU (h:(l[i]?,o.dst,Nat.blt d N)=(some o,some d,true)) (hw:wanted l σ o=true) (hr:∀ w',Runs P σ w' o v w') (k:OKS N P l Q D ks s (upd σ d v) w):OKS N P l Q D ks (.fl i s) σ w:=by
 simp only [Prod.mk.injEq] at h;exact OKS.r h.1 h.2.1 h.2.2 hw hr k
theorem sR {id:Nat} (s:Sch) (hs:inOrder 0 s l.length=true) (h:OKS N P l (thenQ (fun D σ w=>CK r N P c2 Q D σ w) Q) D [] s σ w):CK r N P (.seq (.region id l.toArray false) c2) Q D σ w:=CK.seq (CK.reg s hs h)
theorem rR {id:Nat} (s:Sch) (hs:inOrder 0 s l.length=true) (h:OKS N P l Q D [] s σ w):CK r N P (.region id l.toArray false) Q D σ w:=CK.reg s hs h
theorem eN (h:K D σ w):OKS N P l (thenQ K Q) D ks .nil σ w:=OKS.e (thenQ_n h)
theorem cT (hz:ev σ x=.bool (decide p)) (c:Hid p) (h:CK r N P c1 Q D σ w):CK r N P (.cond x c1 c2) Q D σ w:=CK.condT (hz.trans (decT c.out)) h
theorem cF (hz:ev σ x=.bool (decide p)) (c:Hid (¬ p)) (h:CK r N P c2 Q D σ w):CK r N P (.cond x c1 c2) Q D σ w:=CK.condF (hz.trans (decF c.out)) h
theorem kN (h:K D σ w):CK r N P .skip (thenQ K Q) D σ w:=CK.skip (thenQ_n h)
end
def fL1:Sch:=.fl 0 (.nil)
def fL2:Sch:=.fl 0 (.fl 1 (.nil))
def fL3:Sch:=.fl 0 (.fl 1 (.fl 2 (.nil)))
def fL4:Sch:=.fl 0 (.fl 1 (.fl 2 (.fl 3 (.nil))))
def fL5:Sch:=.fl 0 (.fl 1 (.fl 2 (.fl 3 (.fl 4 (.nil)))))
def fL6:Sch:=.fl 0 (.fl 1 (.fl 2 (.fl 3 (.fl 4 (.fl 5 (.nil))))))
def fL7:Sch:=.fl 0 (.fl 1 (.fl 2 (.fl 3 (.fl 4 (.fl 5 (.fl 6 (.nil)))))))
def fL8:Sch:=.fl 0 (.fl 1 (.fl 2 (.fl 3 (.fl 4 (.fl 5 (.fl 6 (.fl 7 (.nil))))))))
def fL9:Sch:=.fl 0 (.fl 1 (.fl 2 (.fl 3 (.fl 4 (.fl 5 (.fl 6 (.fl 7 (.fl 8 (.nil)))))))))
def fL10:Sch:=.fl 0 (.fl 1 (.fl 2 (.fl 3 (.fl 4 (.fl 5 (.fl 6 (.fl 7 (.fl 8 (.fl 9 (.nil))))))))))
def fL11:Sch:=.fl 0 (.fl 1 (.fl 2 (.fl 3 (.fl 4 (.fl 5 (.fl 6 (.fl 7 (.fl 8 (.fl 9 (.fl 10 (.nil)))))))))))
def fL12:Sch:=.fl 0 (.fl 1 (.fl 2 (.fl 3 (.fl 4 (.fl 5 (.fl 6 (.fl 7 (.fl 8 (.fl 9 (.fl 10 (.fl 11 (.nil))))))))))))
def fL15:Sch:=.fl 0 (.fl 1 (.fl 2 (.fl 3 (.fl 4 (.fl 5 (.fl 6 (.fl 7 (.fl 8 (.fl 9 (.fl 10 (.fl 11 (.fl 12 (.fl 13 (.fl 14 (.nil)))))))))))))))
def fL16:Sch:=.fl 0 (.fl 1 (.fl 2 (.fl 3 (.fl 4 (.fl 5 (.fl 6 (.fl 7 (.fl 8 (.fl 9 (.fl 10 (.fl 11 (.fl 12 (.fl 13 (.fl 14 (.fl 15 (.nil))))))))))))))))
def fL18:Sch:=.fl 0 (.fl 1 (.fl 2 (.fl 3 (.fl 4 (.fl 5 (.fl 6 (.fl 7 (.fl 8 (.fl 9 (.fl 10 (.fl 11 (.fl 12 (.fl 13 (.fl 14 (.fl 15 (.fl 16 (.fl 17 (.nil))))))))))))))))))
def fL20:Sch:=.fl 0 (.fl 1 (.fl 2 (.fl 3 (.fl 4 (.fl 5 (.fl 6 (.fl 7 (.fl 8 (.fl 9 (.fl 10 (.fl 11 (.fl 12 (.fl 13 (.fl 14 (.fl 15 (.fl 16 (.fl 17 (.fl 18 (.fl 19 (.nil))))))))))))))))))))
def fL22:Sch:=.fl 0 (.fl 1 (.fl 2 (.fl 3 (.fl 4 (.fl 5 (.fl 6 (.fl 7 (.fl 8 (.fl 9 (.fl 10 (.fl 11 (.fl 12 (.fl 13 (.fl 14 (.fl 15 (.fl 16 (.fl 17 (.fl 18 (.fl 19 (.fl 20 (.fl 21 (.nil))))))))))))))))))))))
def fL25:Sch:=.fl 0 (.fl 1 (.fl 2 (.fl 3 (.fl 4 (.fl 5 (.fl 6 (.fl 7 (.fl 8 (.fl 9 (.fl 10 (.fl 11 (.fl 12 (.fl 13 (.fl 14 (.fl 15 (.fl 16 (.fl 17 (.fl 18 (.fl 19 (.fl 20 (.fl 21 (.fl 22 (.fl 23 (.fl 24 (.nil)))))))))))))))))))))))))
def fL30:Sch:=.fl 0 (.fl 1 (.fl 2 (.fl 3 (.fl 4 (.fl 5 (.fl 6 (.fl 7 (.fl 8 (.fl 9 (.fl 10 (.fl 11 (.fl 12 (.fl 13 (.fl 14 (.fl 15 (.fl 16 (.fl 17 (.fl 18 (.fl 19 (.fl 20 (.fl 21 (.fl 22 (.fl 23 (.fl 24 (.fl 25 (.fl 26 (.fl 27 (.fl 28 (.fl 29 (.nil))))))))))))))))))))))))))))))
def fL33:Sch:=.fl 0 (.fl 1 (.fl 2 (.fl 3 (.fl 4 (.fl 5 (.fl 6 (.fl 7 (.fl 8 (.fl 9 (.fl 10 (.fl 11 (.fl 12 (.fl 13 (.fl 14 (.fl 15 (.fl 16 (.fl 17 (.fl 18 (.fl 19 (.fl 20 (.fl 21 (.fl 22 (.fl 23 (.fl 24 (.fl 25 (.fl 26 (.fl 27 (.fl 28 (.fl 29 (.fl 30 (.fl 31 (.fl 32 (.nil)))))))))))))))))))))))))))))))))
def fL36:Sch:=.fl 0 (.fl 1 (.fl 2 (.fl 3 (.fl 4 (.fl 5 (.fl 6 (.fl 7 (.fl 8 (.fl 9 (.fl 10 (.fl 11 (.fl 12 (.fl 13 (.fl 14 (.fl 15 (.fl 16 (.fl 17 (.fl 18 (.fl 19 (.fl 20 (.fl 21 (.fl 22 (.fl 23 (.fl 24 (.fl 25 (.fl 26 (.fl 27 (.fl 28 (.fl 29 (.fl 30 (.fl 31 (.fl 32 (.fl 33 (.fl 34 (.fl 35 (.nil))))))))))))))))))))))))))))))))))))
def fL40:Sch:=.fl 0 (.fl 1 (.fl 2 (.fl 3 (.fl 4 (.fl 5 (.fl 6 (.fl 7 (.fl 8 (.fl 9 (.fl 10 (.fl 11 (.fl 12 (.fl 13 (.fl 14 (.fl 15 (.fl 16 (.fl 17 (.fl 18 (.fl 19 (.fl 20 (.fl 21 (.fl 22 (.fl 23 (.fl 24 (.fl 25 (.fl 26 (.fl 27 (.fl 28 (.fl 29 (.fl 30 (.fl 31 (.fl 32 (.fl 33 (.fl 34 (.fl 35 (.fl 36 (.fl 37 (.fl 38 (.fl 39 (.nil))))))))))))))))))))))))))))))))))))))))
def fC0_2 (s:Sch):Sch:=.fl 0 (.fl 1 (.fl 2 (s)))
def fC0_3 (s:Sch):Sch:=.fl 0 (.fl 1 (.fl 2 (.fl 3 (s))))
def fC0_4 (s:Sch):Sch:=.fl 0 (.fl 1 (.fl 2 (.fl 3 (.fl 4 (s)))))
def fC0_5 (s:Sch):Sch:=.fl 0 (.fl 1 (.fl 2 (.fl 3 (.fl 4 (.fl 5 (s))))))
def fC0_6 (s:Sch):Sch:=.fl 0 (.fl 1 (.fl 2 (.fl 3 (.fl 4 (.fl 5 (.fl 6 (s)))))))
def fC0_8 (s:Sch):Sch:=.fl 0 (.fl 1 (.fl 2 (.fl 3 (.fl 4 (.fl 5 (.fl 6 (.fl 7 (.fl 8 (s)))))))))
def fC0_11 (s:Sch):Sch:=.fl 0 (.fl 1 (.fl 2 (.fl 3 (.fl 4 (.fl 5 (.fl 6 (.fl 7 (.fl 8 (.fl 9 (.fl 10 (.fl 11 (s))))))))))))
def fC0_14 (s:Sch):Sch:=.fl 0 (.fl 1 (.fl 2 (.fl 3 (.fl 4 (.fl 5 (.fl 6 (.fl 7 (.fl 8 (.fl 9 (.fl 10 (.fl 11 (.fl 12 (.fl 13 (.fl 14 (s)))))))))))))))
def fC0_29 (s:Sch):Sch:=.fl 0 (.fl 1 (.fl 2 (.fl 3 (.fl 4 (.fl 5 (.fl 6 (.fl 7 (.fl 8 (.fl 9 (.fl 10 (.fl 11 (.fl 12 (.fl 13 (.fl 14 (.fl 15 (.fl 16 (.fl 17 (.fl 18 (.fl 19 (.fl 20 (.fl 21 (.fl 22 (.fl 23 (.fl 24 (.fl 25 (.fl 26 (.fl 27 (.fl 28 (.fl 29 (s))))))))))))))))))))))))))))))
def fC1_3 (s:Sch):Sch:=.fl 1 (.fl 2 (.fl 3 (s)))
def fC2_4 (s:Sch):Sch:=.fl 2 (.fl 3 (.fl 4 (s)))
def fC2_6 (s:Sch):Sch:=.fl 2 (.fl 3 (.fl 4 (.fl 5 (.fl 6 (s)))))
def fC2_9 (s:Sch):Sch:=.fl 2 (.fl 3 (.fl 4 (.fl 5 (.fl 6 (.fl 7 (.fl 8 (.fl 9 (s))))))))
def fC3_5 (s:Sch):Sch:=.fl 3 (.fl 4 (.fl 5 (s)))
def fC3_6 (s:Sch):Sch:=.fl 3 (.fl 4 (.fl 5 (.fl 6 (s))))
def fC3_7 (s:Sch):Sch:=.fl 3 (.fl 4 (.fl 5 (.fl 6 (.fl 7 (s)))))
def fC3_9 (s:Sch):Sch:=.fl 3 (.fl 4 (.fl 5 (.fl 6 (.fl 7 (.fl 8 (.fl 9 (s)))))))
def fC3_22 (s:Sch):Sch:=.fl 3 (.fl 4 (.fl 5 (.fl 6 (.fl 7 (.fl 8 (.fl 9 (.fl 10 (.fl 11 (.fl 12 (.fl 13 (.fl 14 (.fl 15 (.fl 16 (.fl 17 (.fl 18 (.fl 19 (.fl 20 (.fl 21 (.fl 22 (s))))))))))))))))))))
def fC4_7 (s:Sch):Sch:=.fl 4 (.fl 5 (.fl 6 (.fl 7 (s))))
def fC4_10 (s:Sch):Sch:=.fl 4 (.fl 5 (.fl 6 (.fl 7 (.fl 8 (.fl 9 (.fl 10 (s)))))))
def fC4_13 (s:Sch):Sch:=.fl 4 (.fl 5 (.fl 6 (.fl 7 (.fl 8 (.fl 9 (.fl 10 (.fl 11 (.fl 12 (.fl 13 (s))))))))))
def fC7_9 (s:Sch):Sch:=.fl 7 (.fl 8 (.fl 9 (s)))
def fC8_10 (s:Sch):Sch:=.fl 8 (.fl 9 (.fl 10 (s)))
def fC12_14 (s:Sch):Sch:=.fl 12 (.fl 13 (.fl 14 (s)))
def fC13_16 (s:Sch):Sch:=.fl 13 (.fl 14 (.fl 15 (.fl 16 (s))))
def fC13_54 (s:Sch):Sch:=.fl 13 (.fl 14 (.fl 15 (.fl 16 (.fl 17 (.fl 18 (.fl 19 (.fl 20 (.fl 21 (.fl 22 (.fl 23 (.fl 24 (.fl 25 (.fl 26 (.fl 27 (.fl 28 (.fl 29 (.fl 30 (.fl 31 (.fl 32 (.fl 33 (.fl 34 (.fl 35 (.fl 36 (.fl 37 (.fl 38 (.fl 39 (.fl 40 (.fl 41 (.fl 42 (.fl 43 (.fl 44 (.fl 45 (.fl 46 (.fl 47 (.fl 48 (.fl 49 (.fl 50 (.fl 51 (.fl 52 (.fl 53 (.fl 54 (s))))))))))))))))))))))))))))))))))))))))))
def fC24_26 (s:Sch):Sch:=.fl 24 (.fl 25 (.fl 26 (s)))
theorem zA:type_of% @Tryz.runUnderlying23:=@Tryz.runUnderlying23
theorem zB:type_of% @thenQ_r:=@thenQ_r
theorem zC:type_of% @Nat.le_of_ble_eq_true:=@Nat.le_of_ble_eq_true
theorem zD:type_of% @mapcons:=@mapcons
theorem zE:type_of% @CK.seq:=@CK.seq
theorem zF:type_of% @Runs.fa:=@Runs.fa
theorem zG:type_of% @Hid.mk:=@Hid.mk
theorem zH:type_of% @thenQ_n:=@thenQ_n
theorem zI:type_of% @blockQ_r:=@blockQ_r
theorem zJ:type_of% @Tryz.sizeOf3:=@Tryz.sizeOf3
theorem zK:type_of% @wantedY:=@wantedY
theorem zL:type_of% @Tryz.runUnderlying28:=@Tryz.runUnderlying28
theorem zM:type_of% @Runs.pickT:=@Runs.pickT
theorem zN:type_of% @Tryz.sizeOf23:=@Tryz.sizeOf23
theorem zO:type_of% @CK.ret:=@CK.ret
theorem zP:type_of% @Enters.mk:=@Enters.mk
theorem zQ:type_of% @Tryz.runUnderlying32:=@Tryz.runUnderlying32
theorem zR:type_of% @Tryz.isAgg3:=@Tryz.isAgg3
theorem zS:type_of% @CK.block:=@CK.block
theorem zU:type_of% @OKS.callH:=@OKS.callH
theorem zV:type_of% @Runs.len:=@Runs.len
theorem zW:type_of% @Runs.lss:=@Runs.lss
theorem zX:type_of% @decF:=@decF
theorem zY:type_of% @Runs.addw:=@Runs.addw
theorem zZ:type_of% @mapnil:=@mapnil
theorem zd:type_of% @Tryz.isAgg23:=@Tryz.isAgg23
theorem ze:type_of% @thenQ_e:=@thenQ_e
theorem zf:type_of% @PHeap.Le.refl:=@PHeap.Le.refl
theorem zg:type_of% @Tryz.runUnderlying25:=@Tryz.runUnderlying25
theorem zh:type_of% @blockQ_n:=@blockQ_n
theorem zi:type_of% @OKS.r:=@OKS.r
theorem zj:type_of% @OKS.rm:=@OKS.rm
theorem zk:type_of% @Tryz.runUnderlying44:=@Tryz.runUnderlying44
theorem zl:type_of% @Runs.pickF:=@Runs.pickF
theorem zm:type_of% @Tryz.runUnderlying26:=@Tryz.runUnderlying26
theorem zn:type_of% @CK.condT:=@CK.condT
theorem zo:type_of% @Tryz.runUnderlying47:=@Tryz.runUnderlying47
theorem zp:type_of% @OKS.e:=@OKS.e
theorem zq:type_of% @res1:=@res1
theorem zr:type_of% @CK.condF:=@CK.condF
theorem zt:type_of% @Tryz.runUnderlying34:=@Tryz.runUnderlying34
theorem zu:type_of% @Runs.iaN:=@Runs.iaN
theorem zw:type_of% @blockQ_h:=@blockQ_h
theorem zx:type_of% @OKS.st:=@OKS.st
theorem zy:type_of% @Tryz.sizeOf28:=@Tryz.sizeOf28
theorem zz:type_of% @Runs.to:=@Runs.to
theorem ZA:type_of% @wantedN:=@wantedN
theorem ZB:type_of% @Tryz.sizeOf44:=@Tryz.sizeOf44
theorem ZC:type_of% @OKS.buildSlice:=@OKS.buildSlice
theorem ZD:type_of% @OKS.m:=@OKS.m
theorem ZE:type_of% @Tryz.sizeOf25:=@Tryz.sizeOf25
theorem ZF:type_of% @Tryz.sizeOf47:=@Tryz.sizeOf47
theorem ZG:type_of% @CK.exit:=@CK.exit
theorem ZH:type_of% @Tryz.sizeOf26:=@Tryz.sizeOf26
theorem ZI:type_of% @Runs.neq:=@Runs.neq
theorem ZJ:type_of% @Tryz.runUnderlying42:=@Tryz.runUnderlying42
theorem ZK:type_of% @OKS.alloc:=@OKS.alloc
theorem ZL:type_of% @Runs.notT:=@Runs.notT
theorem ZM:type_of% @Runs.ext:=@Runs.ext
theorem ZN:type_of% @Tryz.runUnderlying194:=@Tryz.runUnderlying194
theorem ZO:type_of% @Tryz.isAgg26:=@Tryz.isAgg26
theorem ZP:type_of% @Tryz.runUnderlying245:=@Tryz.runUnderlying245
theorem ZQ:type_of% @OKS.p:=@OKS.p
theorem ZR:type_of% @Tryz.zeroValue47:=@Tryz.zeroValue47
theorem ZS:type_of% @Tryz.sizeOf42:=@Tryz.sizeOf42
theorem ZT:type_of% @Tryz.sizeOf32:=@Tryz.sizeOf32
theorem ZU:type_of% @CK.skip:=@CK.skip
theorem ZV:type_of% @Runs.nilp:=@Runs.nilp
theorem ZW:type_of% @Tryz.isAgg28:=@Tryz.isAgg28
theorem ZX:type_of% @Tryz.runUnderlying52:=@Tryz.runUnderlying52
theorem ZY:type_of% @Tryz.mixed:=@Tryz.mixed
theorem Za:type_of% @Runs.subw:=@Runs.subw
theorem Zb:type_of% @decT:=@decT
theorem Zc:type_of% @Tryz.underlying23:=@Tryz.underlying23
theorem Zd:type_of% @OKS.box:=@OKS.box
theorem Ze:type_of% @Tryz.sizeOf49:=@Tryz.sizeOf49
theorem Zf:type_of% @Runs.build:=@Runs.build
theorem Zg:type_of% @Tryz.runUnderlying45:=@Tryz.runUnderlying45
theorem Zh:type_of% @CK.anyOrd:=@CK.anyOrd
theorem Zi:type_of% @Tryz.isAgg32:=@Tryz.isAgg32
theorem Zj:type_of% @CK.fresh:=@CK.fresh
theorem Zk:type_of% @Tryz.zeroValue44:=@Tryz.zeroValue44
theorem Zl:type_of% @Tryz.runUnderlying49:=@Tryz.runUnderlying49
theorem Zm:type_of% @Tryz.sizeOf45:=@Tryz.sizeOf45
theorem Zn:type_of% @Tryz.sizeOf34:=@Tryz.sizeOf34
theorem Zo:type_of% @Runs.iaI:=@Runs.iaI
theorem Zp:type_of% @Tryz.zeroValue3:=@Tryz.zeroValue3
theorem Zq:type_of% @OKS.px:=@OKS.px
theorem Zr:type_of% @Tryz.call111:=@Tryz.call111
theorem Zs:type_of% @Tryz.call40:=@Tryz.call40
theorem Zt:type_of% @OKS.appendR:=@OKS.appendR
theorem Zu:type_of% @OKS.append:=@OKS.append
theorem Zv:type_of% @Tryz.sizeOf35:=@Tryz.sizeOf35
theorem Zw:type_of% @Tryz.zeroValue49:=@Tryz.zeroValue49
theorem Zx:type_of% @CK.forN:=@CK.forN
theorem Zy:type_of% @Runs.gtr:=@Runs.gtr
theorem Zz:type_of% @Tryz.isAgg42:=@Tryz.isAgg42
theorem yA:type_of% @Tryz.isAgg44:=@Tryz.isAgg44
theorem yB:type_of% @Tryz.isAgg35:=@Tryz.isAgg35
theorem yC:type_of% @Tryz.zeroValue34:=@Tryz.zeroValue34
theorem yD:type_of% @Tryz.isAgg47:=@Tryz.isAgg47
theorem yE:type_of% @Tryz.runUnderlying192:=@Tryz.runUnderlying192
theorem yF:type_of% @Tryz.zeroValue283:=@Tryz.zeroValue283
theorem yG:type_of% @Tryz.isAgg45:=@Tryz.isAgg45
end Go.Proofs.YtjfffcjjlnmneaaGreat
namespace Go.Proofs.YtjfffcjjlnmneaaGreat
open Go.KL
set_option maxHeartbeats 4000000
theorem w_klisterkit_Of (p0:List Int) (pA0:Option Addr) (pc0:Nat) (w:World) (φ:PHeap) (hS:St0 w φ []) (ha0:Sl φ 1 pA0 pc0 p0.length (List.flatMap KL.encB8 p0)) {r:T_klisterkit_Deck} (hm:m_klisterkit_Of p0=some r):Gv Tryz.prog 16 [.slice pA0 p0.length pc0] w (RetS w [] φ (fun φ_ L_ v=>∃ (b0:Nat) (A0p0:Option Addr) (c0p0:Nat),v=.pointer (some ⟨b0,0,none⟩)∧L_=[.blk b0 194 [.slice A0p0 r.bytes.length c0p0,.int .i64 r.next,.int .u32 r.state]]∧Sl φ_ 1 A0p0 c0p0 r.bytes.length (List.flatMap KL.encB8 r.bytes))):=by
 unfold m_klisterkit_Of at hm
 refine Gv.of Tryz.func16 rfl Tryz.ntmps16 Tryz.results16 rfl (sR fL1 rfl (OKS.ra rfl rfl rfl rfl rfl rfl (eN (sR (.fl 0 (.fl 1 (.fx 2 (.fl 3 (.nil)) .stop))) rfl (zj rfl rfl rfl rfl rfl rfl (zi rfl rfl rfl rfl (fun _=>Zf (pv:=[(0,.slice pA0 p0.length pc0),(2,.int .u32 17)]) (z:=[.slice none 0 0,.int .i64 0,.int .u32 0]) (cs:=[.slice pA0 p0.length pc0,.int .i64 0,.int .u32 17]) rfl (mapcons2 rfl (mapcons2 rfl mapnil2)) Tryz.zeroValue194 places194 rfl rfl) (Zd (cs:=[.slice pA0 p0.length pc0,.int .i64 0,.int .u32 17]) rfl rfl rfl rfl rfl rfl (by rfl) hS ?_)))))))
 intro W1 b2 hS3
 refine oA Z Z (eN (zO ?_))
 cases hm
 exact ⟨Z,_,(zq Z),φ,_,hS3,b2,pA0,pc0,Z,Z,ha0⟩
theorem w_klisterkit_Deck_Draw (p0:T_klisterkit_Deck) (pb0:Nat) (pA0_0:Option Addr) (pc0_0:Nat) (p1:Int) (w:World) (φ:PHeap) (hS:St0 w φ [.blk pb0 194 [.slice pA0_0 p0.bytes.length pc0_0,.int .i64 p0.next,.int .u32 p0.state]]) (ha0:Sl φ 1 pA0_0 pc0_0 p0.bytes.length (List.flatMap KL.encB8 p0.bytes)) {r:Int × T_klisterkit_Deck} (hm:m_klisterkit_Deck_Draw p0 p1=some r):Gv Tryz.prog 40 [.pointer (some ⟨pb0,0,none⟩),.int .i64 p1] w (RetS w [.blk pb0 194 [.slice pA0_0 p0.bytes.length pc0_0,.int .i64 p0.next,.int .u32 p0.state]] φ (fun φ_ L_ v=>∃ (Ao00:Option Addr) (co00:Nat),v=.int .i64 r.1∧L_=[.blk pb0 194 [.slice Ao00 r.2.bytes.length co00,.int .i64 r.2.next,.int .u32 r.2.state]]∧Sl φ_ 1 Ao00 co00 r.2.bytes.length (List.flatMap KL.encB8 r.2.bytes))):=by
 unfold m_klisterkit_Deck_Draw at hm
 refine Gv.of Tryz.func40 Z Tryz.ntmps40 Tryz.results40 Z (sR fL1 Z (oA Z Z (eN (zE (sR fL10 Z (oM Z Z (oR Z (fun _=>Runs.leq Z Z Z) (oM Z Z ?_))))))))
 by_cases c2:p1 ≤ 1
 ·have hm3:=hm;rw [if_pos c2] at hm3;replace c2:=zG c2
  refine oT Z c2 (oT Z c2 (oT Z c2 (oT Z c2 (oT Z c2 (oT Z c2 (oR Z (fun _=>zM Z (Zb c2.out) Z) (eN (zn Z (sR fL1 Z (oA Z Z (eN (zO (zB ?_)))))))))))))
  cases hm3
  exact ⟨Z,_,(zq Z),φ,_,hS,pA0_0,pc0_0,Z,Z,ha0⟩
 ·have hm4:=hm;rw [if_neg c2] at hm4;replace c2:=zG c2
  refine zj Z Z Z (wF Z c2) Z Z (rU Z (wF Z c2) (fun _=>ZV Z Z) (rU Z (wF Z c2) (fun _=>zF Z Z ZN Z Tryz.sizeOf22) (ZD Z Z Z (wF Z c2) (hS.ldB (j:=0) Z Z Z Tryz.isAgg22 (v:=.slice pA0_0 p0.bytes.length pc0_0) Z) Z (rU Z (wF Z c2) (fun _=>zV Z Z Tryz.runUnderlying22) (rU Z (wF Z c2) (fun _=>Runs.eql Z Z Z) (oR Z (fun _=>zl Z (zX c2.out) Z) (eN (ifc hm4 ?_ ?_))))))))
  ·intro c5 hm6
   refine cT Z c5 (sR fL1 Z (oA Z Z (eN (zO (zB ?_)))))
   cases hm6
   exact ⟨Z,_,(zq Z),φ,_,hS,pA0_0,pc0_0,Z,Z,ha0⟩
  ·intro c5 hm7
   refine cF Z c5 (kN (zE (Zh ZY [3,3,3,1,3,3,3,1,3,3,3,1,3,3,3,1,3,3,3,3,1,3,3,3,1,3,3,3,3,3] fL30 (by kernel_rfl) ?_)))
   have hS8:=hS.drew
   generalize hw_W9:({ w with drawn:=w.drawn + 1 }:World)=W9 at hS8 ⊢
   refine oM Z Z (oR Z (fun _=>ZV Z Z) (oR Z (fun _=>zF Z Z ZN Z Tryz.sizeOf22) (oL Z (hS8.ldB (j:=0) Z Z Z Tryz.isAgg22 (v:=.slice pA0_0 p0.bytes.length pc0_0) Z) (oM Z Z (oR Z (fun _=>ZV Z Z) (oR Z (fun _=>zF Z Z ZN Z zJ) (oL Z (hS8.ldB (j:=0) Z Z Z zR (v:=.int .i64 p0.next) Z) (oM Z Z (oR Z (fun _=>ZV Z Z) (oR Z (fun _=>zF Z Z ZN Z Tryz.sizeOf22) (oL Z (hS8.ldB (j:=0) Z Z Z Tryz.isAgg22 (v:=.slice pA0_0 p0.bytes.length pc0_0) Z) (oR Z (fun _=>zV Z Z Tryz.runUnderlying22) (bnK hm7 fun x10 h11 hm12=>oR Z (fun _=>Runs.rem Z Z Z h11) (bnK hm12 fun x13 h14 hm15=>?_))))))))))))))
   have q:=ha0.el (fun _=>rfl) (idx_get h14)
   obtain ⟨b16,off17,hA18,hC19⟩:=q
   refine oR Z (fun _=>Zo Z Z hA18 Z Tryz.runUnderlying22 Tryz.sizeOf5 (idx_lo h14) (idx_hi h14)) (oL Z (hS8.ldC (f:=0) hC19 (v:=.int .u8 x13) Z Z Tryz.isAgg5 Z) (oR Z (fun _=>Runs.cvu Z Z Tryz.runUnderlying5 yE Z Z) (oM Z Z (oR Z (fun _=>ZV Z Z) (oR Z (fun _=>zF Z Z ZN Z zJ) (oL Z (hS8.ldB (j:=0) Z Z Z zR (v:=.int .i64 p0.next) Z) (oM Z Z (oR Z (fun _=>ZV Z Z) (oR Z (fun _=>zF Z Z ZN Z Tryz.sizeOf22) (oL Z (hS8.ldB (j:=0) Z Z Z Tryz.isAgg22 (v:=.slice pA0_0 p0.bytes.length pc0_0) Z) (oR Z (fun _=>zV Z Z Tryz.runUnderlying22) (bnK hm15 fun x20 h21 hm22=>oR Z (fun _=>Runs.quo Z Z Z h21) (oR Z (fun _=>Runs.cvu Z Z Tryz.runUnderlying3 yE Z Z) (oA Z Z (oA Z Z (eN (zE (Zj fun σ23 hσ24=>?_))))))))))))))))))
   have f25:σ23 0=.pointer (some ⟨pb0,0,none⟩):=(hσ24 0).trans rfl
   have f26:σ23 1=.int .i64 p1:=(hσ24 1).trans rfl
   have f27:σ23 5=.int .u32 (wu32 x13):=(hσ24 5).trans rfl
   have f28:σ23 6=.int .u32 (wu32 x20):=(hσ24 6).trans rfl
   clear hσ24
   refine rR (fC0_6 (.fx 7 (.nil) .stop)) Z (oM Z f25 (oR Z (fun _=>ZV Z Z) (oR Z (fun _=>zF Z Z ZN Z zJ) (oL Z (hS8.ldB (j:=0) Z Z Z zR (v:=.int .i64 p0.next) Z) (oR Z (fun _=>zY Z Z Z) (oR Z (fun _=>ZV Z Z) (oR Z (fun _=>zF Z Z ZN Z zJ) (zx (j:=0) (vs:=[.int .i64 (w64 (p0.next + 1))]) Z Z Z Z hS8 Z Z Z Z zJ (zC Z) Z Z Z ?_))))))))
   intro W29 hS30
   let B0:Res:=.blk pb0 194 [.slice pA0_0 p0.bytes.length pc0_0,.int .i64 p0.next,.int .u32 p0.state]
   have hS31:St ⟨w,[B0],φ⟩ φ [.blk pb0 194 [.slice pA0_0 p0.bytes.length pc0_0,.int .i64 (w64 (p0.next + 1)),.int .u32 p0.state]] W29:=hS30
   refine eN (sR (fC0_14 (.fx 15 (.nil) .stop)) Z (oM Z f25 (oM Z f25 (oR Z (fun _=>ZV Z Z) (oR Z (fun _=>zF Z Z ZN Z Tryz.sizeOf192) (oL Z (hS31.ldB (j:=0) Z Z Z Tryz.isAgg192 (v:=.int .u32 p0.state) Z) (oR Z (fun _=>Runs.mulu Z Z Z) (oM Z f27 (oR Z (fun _=>Runs.addu Z Z Z) (oM Z f28 (oR Z (fun _=>Runs.mulu Z Z Z) (oR Z (fun _=>Runs.addu Z Z Z) (oR Z (fun _=>Runs.addu Z Z Z) (bnK hm22 fun x32 h33 hm34=>oR Z (fun _=>Runs.rem Z Z Z h33) (oR Z (fun _=>ZV Z Z) (oR Z (fun _=>zF Z Z ZN Z Tryz.sizeOf192) (zx (j:=0) (vs:=[.int .u32 x32]) Z Z Z Z hS31 Z Z Z Z Tryz.sizeOf192 (zC Z) Z Z Z ?_)))))))))))))))))
   intro W35 hS36
   have hS37:St ⟨w,[B0],φ⟩ φ [.blk pb0 194 [.slice pA0_0 p0.bytes.length pc0_0,.int .i64 (w64 (p0.next + 1)),.int .u32 x32]] W35:=hS36
   refine eN (zE (sR fL6 Z (oM Z f28 (oR Z (fun _=>Runs.eql Z Z Z) (oM Z Z (ifc hm34 ?_ ?_))))))
   ·intro c38 hm39
    refine zj Z Z Z (wT Z c38) Z f26 (rU Z (wT Z c38) (fun _=>Runs.leq Z Z Z) (oR Z (fun _=>zM Z (Zb c38.out) Z) (eN (ifc hm39 ?_ ?_))))
    ·intro c40 hm41
     refine cT Z c40 (sR fL5 Z (oM Z f27 (oR Z (fun _=>Runs.cvw Z Z yE Tryz.runUnderlying3 Z Z) (oM Z f26 (bnK hm41 fun x42 h43 hm44=>oR Z (fun _=>Runs.rem Z Z Z h43) (oA Z Z (eN (zO (zB ?_)))))))))
     cases hm44
     exact ⟨Z,_,(zq Z),φ,_,hS37,pA0_0,pc0_0,Z,Z,ha0⟩
    ·intro c40 hm45
     refine cF Z c40 (kN (sR fL11 Z (oM Z f25 (oR Z (fun _=>ZV Z Z) (oR Z (fun _=>zF Z Z ZN Z Tryz.sizeOf192) (oL Z (hS37.ldB (j:=0) Z Z Z Tryz.isAgg192 (v:=.int .u32 x32) Z) (oR Z (fun _=>Runs.mulu Z Z Z) (oM Z f27 (oR Z (fun _=>Runs.addu Z Z Z) (oR Z (fun _=>Runs.cvw Z Z yE Tryz.runUnderlying3 Z Z) (oM Z f26 (bnK hm45 fun x46 h47 hm48=>oR Z (fun _=>Runs.rem Z Z Z h47) (oA Z Z (eN (zO ?_)))))))))))))))
     cases hm48
     exact ⟨Z,_,(zq Z),φ,_,hS37,pA0_0,pc0_0,Z,Z,ha0⟩
   ·intro c38 hm49
    refine oF Z c38 (oF Z c38 (oR Z (fun _=>zl Z (zX c38.out) Z) (eN (zr Z (kN (sR fL11 Z (oM Z f25 (oR Z (fun _=>ZV Z Z) (oR Z (fun _=>zF Z Z ZN Z Tryz.sizeOf192) (oL Z (hS37.ldB (j:=0) Z Z Z Tryz.isAgg192 (v:=.int .u32 x32) Z) (oR Z (fun _=>Runs.mulu Z Z Z) (oM Z f27 (oR Z (fun _=>Runs.addu Z Z Z) (oR Z (fun _=>Runs.cvw Z Z yE Tryz.runUnderlying3 Z Z) (oM Z f26 (bnK hm49 fun x50 h51 hm52=>oR Z (fun _=>Runs.rem Z Z Z h51) (oA Z Z (eN (zO ?_)))))))))))))))))))
    cases hm52
    exact ⟨Z,_,(zq Z),φ,_,hS37,pA0_0,pc0_0,Z,Z,ha0⟩
theorem w_klisterkit_Deck_Between (p0:T_klisterkit_Deck) (pb0:Nat) (pA0_0:Option Addr) (pc0_0:Nat) (p1:Int) (p2:Int) (w:World) (φ:PHeap) (hS:St0 w φ [.blk pb0 194 [.slice pA0_0 p0.bytes.length pc0_0,.int .i64 p0.next,.int .u32 p0.state]]) (ha0:Sl φ 1 pA0_0 pc0_0 p0.bytes.length (List.flatMap KL.encB8 p0.bytes)) {r:Int × T_klisterkit_Deck} (hm:m_klisterkit_Deck_Between p0 p1 p2=some r):Gv Tryz.prog 41 [.pointer (some ⟨pb0,0,none⟩),.int .i64 p1,.int .i64 p2] w (RetS w [.blk pb0 194 [.slice pA0_0 p0.bytes.length pc0_0,.int .i64 p0.next,.int .u32 p0.state]] φ (fun φ_ L_ v=>∃ (Ao00:Option Addr) (co00:Nat),v=.int .i64 r.1∧L_=[.blk pb0 194 [.slice Ao00 r.2.bytes.length co00,.int .i64 r.2.next,.int .u32 r.2.state]]∧Sl φ_ 1 Ao00 co00 r.2.bytes.length (List.flatMap KL.encB8 r.2.bytes))):=by
 unfold m_klisterkit_Deck_Between at hm
 refine Gv.of Tryz.func41 Z Tryz.ntmps41 Tryz.results41 Z (sR fL1 Z (oA Z Z (eN (sR (fC0_5 (.fx 6 (.fl 7 (.fl 8 (.nil))) .stop)) Z (oM Z Z (oM Z Z (oM Z Z (oM Z Z (oR Z (fun _=>Za Z Z Z) (oR Z (fun _=>zY Z Z Z) ?_))))))))))
 have q:=bnd hm
 obtain ⟨⟨x2,x3⟩,h4,hm5⟩:=q
 try dsimp only at hm5
 refine zU 1 Z Z Z Z (zP Z Z Zs (zD Z (zD Z zZ)) Z) hS (fun hs=>w_klisterkit_Deck_Draw p0 pb0 pA0_0 pc0_0 (w64 ((w64 (p2 - p1)) + 1)) w φ hs ha0 h4) (.inl Z) ?_
 rintro φ6 L7 v8 W9 le10 hS11 ⟨A12,c13,rfl,rfl,h14⟩
 have hS15:St ⟨w,[.blk pb0 194 [.slice pA0_0 p0.bytes.length pc0_0,.int .i64 p0.next,.int .u32 p0.state]],φ⟩ φ6 [.blk pb0 194 [.slice A12 x3.bytes.length c13,.int .i64 x3.next,.int .u32 x3.state]] W9:=hS11
 refine oR Z (fun _=>zY Z Z Z) (oA Z Z (eN (zO ?_)))
 cases hm5
 exact ⟨Z,_,(zq Z),φ6,_,hS15,A12,c13,Z,Z,h14⟩
theorem w_klisterlaw08_Ruled (p0:T_klisterkit_Deck) (pb0:Nat) (pA0_0:Option Addr) (pc0_0:Nat) (p1:Int) (w:World) (φ:PHeap) (hS:St0 w φ [.blk pb0 194 [.slice pA0_0 p0.bytes.length pc0_0,.int .i64 p0.next,.int .u32 p0.state]]) (ha0:Sl φ 1 pA0_0 pc0_0 p0.bytes.length (List.flatMap KL.encB8 p0.bytes)) {r:T_relay_Rules × T_klisterkit_Deck} (hm:m_klisterlaw08_Ruled p0 p1=some r):Gv Tryz.prog 104 [.pointer (some ⟨pb0,0,none⟩),.int .i64 p1] w (RetS w [.blk pb0 194 [.slice pA0_0 p0.bytes.length pc0_0,.int .i64 p0.next,.int .u32 p0.state]] φ (fun φ_ L_ v=>∃ (A00:Option Addr) (c00:Nat) (Ao00:Option Addr) (co00:Nat),v=.agg #[.slice A00 r.1.Classes.length c00,.int .i64 r.1.Each,.int .i64 r.1.Laps,.int .i64 r.1.Spare,.int .i64 r.1.Loop,.int .i64 r.1.Unused]∧L_=[.row A00 c00 3 1 (List.flatMap KL.encI r.1.Classes),.blk pb0 194 [.slice Ao00 r.2.bytes.length co00,.int .i64 r.2.next,.int .u32 r.2.state]]∧Sl φ_ 1 Ao00 co00 r.2.bytes.length (List.flatMap KL.encB8 r.2.bytes))):=by
 unfold m_klisterlaw08_Ruled at hm
 refine Gv.of Tryz.func104 Z Tryz.ntmps104 Tryz.results104 Z (sR (.fx 0 (.nil) .stop) Z (ZK (cs:=[.slice none 0 0,.int .i64 0,.int .i64 0,.int .i64 0,.int .i64 0,.int .i64 0]) Z Z Z Z Z Tryz.zeroValue25 Z hS ?_))
 intro W2 b3 hS4
 refine eN (sR (.fl 0 (.fx 1 (.fl 2 (.fx 3 (.fl 4 (.fx 5 (.fl 6 (.fx 7 (.fl 8 (.fl 9 (.fx 10 (.fl 11 (.fl 12 (.fx 13 (.fx 14 (.nil) .stop) .stop))) .stop))) .stop)) .stop)) .stop)) .stop)) Z (oM Z Z ?_))
 have q:=bnd hm
 obtain ⟨⟨x6,x7⟩,h8,hm9⟩:=q
 try dsimp only at hm9
 let B0:Res:=.blk pb0 194 [.slice pA0_0 p0.bytes.length pc0_0,.int .i64 p0.next,.int .u32 p0.state]
 let B1:Res:=.blk b3 25 [.slice none 0 0,.int .i64 0,.int .i64 0,.int .i64 0,.int .i64 0,.int .i64 0]
 have hS10:St ⟨w,[B0],φ⟩ φ [B0,B1] W2:=hS4.pick [1,0] _ (by decide) rfl
 refine zU 1 Z Z Z Z (zP Z Z Tryz.call41 (zD Z (zD Z (zD Z zZ))) Z) hS10 (fun hs=>w_klisterkit_Deck_Between p0 pb0 pA0_0 pc0_0 1 2 W2 φ hs ha0 h8) (.inl Z) ?_
 rintro φ11 L12 v13 W14 le15 hS16 ⟨A17,c18,rfl,rfl,h19⟩
 have hS20:St ⟨w,[B0],φ⟩ φ11 [.blk pb0 194 [.slice A17 x7.bytes.length c18,.int .i64 x7.next,.int .u32 x7.state],B1] W14:=hS16
 refine oM Z Z ?_
 have q:=bnd hm9
 obtain ⟨⟨x21,x22⟩,h23,hm24⟩:=q
 try dsimp only at hm24
 refine zU 1 Z Z Z Z (zP Z Z Tryz.call41 (zD Z (zD Z (zD Z zZ))) Z) hS20 (fun hs=>w_klisterkit_Deck_Between x7 pb0 A17 c18 1 3 W14 φ11 hs h19 h23) (.inl Z) ?_
 rintro φ25 L26 v27 W28 le29 hS30 ⟨A31,c32,rfl,rfl,h33⟩
 have hS34:St ⟨w,[B0],φ⟩ φ25 [.blk pb0 194 [.slice A31 x22.bytes.length c32,.int .i64 x22.next,.int .u32 x22.state],B1] W28:=hS30
 refine oM Z Z ?_
 have q:=bnd hm24
 obtain ⟨⟨x35,x36⟩,h37,hm38⟩:=q
 try dsimp only at hm38
 refine zU 1 Z Z Z Z (zP Z Z Zs (zD Z (zD Z zZ)) Z) hS34 (fun hs=>w_klisterkit_Deck_Draw x22 pb0 A31 c32 100 W28 φ25 hs h33 h37) (.inl Z) ?_
 rintro φ39 L40 v41 W42 le43 hS44 ⟨A45,c46,rfl,rfl,h47⟩
 have hS48:St ⟨w,[B0],φ⟩ φ39 [.blk pb0 194 [.slice A45 x36.bytes.length c46,.int .i64 x36.next,.int .u32 x36.state],B1] W42:=hS44
 refine oM Z Z ?_
 have q:=bnd hm38
 obtain ⟨⟨x49,x50⟩,h51,hm52⟩:=q
 try dsimp only at hm52
 refine zU 1 Z Z Z Z (zP Z Z Zs (zD Z (zD Z zZ)) Z) hS48 (fun hs=>w_klisterkit_Deck_Draw x36 pb0 A45 c46 100 W42 φ39 hs h47 h51) (.inl Z) ?_
 rintro φ53 L54 v55 W56 le57 hS58 ⟨A59,c60,rfl,rfl,h61⟩
 have hS62:St ⟨w,[B0],φ⟩ φ53 [.blk pb0 194 [.slice A59 x50.bytes.length c60,.int .i64 x50.next,.int .u32 x50.state],B1] W56:=hS58
 refine oR Z (fun _=>zY Z Z Z) (oM Z Z ?_)
 have q:=bnd hm52
 obtain ⟨⟨x63,x64⟩,h65,hm66⟩:=q
 try dsimp only at hm66
 refine zU 1 Z Z Z Z (zP Z Z Zs (zD Z (zD Z zZ)) Z) hS62 (fun hs=>w_klisterkit_Deck_Draw x50 pb0 A59 c60 13 W56 φ53 hs h61 h65) (.inl Z) ?_
 rintro φ67 L68 v69 W70 le71 hS72 ⟨A73,c74,rfl,rfl,h75⟩
 let B2:Res:=.blk pb0 194 [.slice A73 x64.bytes.length c74,.int .i64 x64.next,.int .u32 x64.state]
 have hS76:St ⟨w,[B0],φ⟩ φ67 [B2,B1] W70:=hS72
 refine oR Z (fun _=>Runs.mulw Z Z Z) (oR Z (fun _=>Zf (pv:=[(1,.int .i64 x6),(2,.int .i64 x21),(3,.int .i64 x35),(4,.int .i64 (w64 (200 + x49))),(5,.int .i64 (w64 (100 * x63)))]) (z:=[.slice none 0 0,.int .i64 0,.int .i64 0,.int .i64 0,.int .i64 0,.int .i64 0]) (cs:=[.slice none 0 0,.int .i64 x6,.int .i64 x21,.int .i64 x35,.int .i64 (w64 (200 + x49)),.int .i64 (w64 (100 * x63))]) Z (mapcons2 Z (mapcons2 Z (mapcons2 Z (mapcons2 Z (mapcons2 Z mapnil2))))) Tryz.zeroValue25 places25 Z Z) (ZK (cs:=[.slice none 0 0,.int .i64 0,.int .i64 0,.int .i64 0,.int .i64 0,.int .i64 0]) Z Z Z Z Z Tryz.zeroValue25 Z hS76 ?_))
 intro W77 b78 hS79
 refine zx (j:=0) (vs:=[.slice none 0 0,.int .i64 x6,.int .i64 x21,.int .i64 x35,.int .i64 (w64 (200 + x49)),.int .i64 (w64 (100 * x63))]) Z Z Z Z hS79 Z Z Z Z ZE (zC Z) Z Z Z ?_
 intro W81 hS82
 let B3:Res:=.blk b78 25 [.slice none 0 0,.int .i64 x6,.int .i64 x21,.int .i64 x35,.int .i64 (w64 (200 + x49)),.int .i64 (w64 (100 * x63))]
 have hS83:St ⟨w,[B0],φ⟩ φ67 [B3,B2,B1] W81:=hS82
 refine eN (zE (sR (.fl 0 (.fl 1 (.fx 2 (.fl 3 (.nil)) .stop))) Z (oM Z Z (oM Z Z ?_))))
 have q:=bnd hm66
 obtain ⟨⟨x84,x85⟩,h86,hm87⟩:=q
 try dsimp only at hm87
 have hS88:St ⟨w,[B0],φ⟩ φ67 [B2,B3,B1] W81:=hS83.pick [1,0,2] _ (by decide) rfl
 refine zU 1 Z Z Z Z (zP Z Z Tryz.call41 (zD Z (zD Z (zD Z zZ))) Z) hS88 (fun hs=>w_klisterkit_Deck_Between x64 pb0 A73 c74 1 p1 W81 φ67 hs h75 h86) (.inl Z) ?_
 rintro φ89 L90 v91 W92 le93 hS94 ⟨A95,c96,rfl,rfl,h97⟩
 have hS98:St ⟨w,[B0],φ⟩ φ89 [.blk pb0 194 [.slice A95 x85.bytes.length c96,.int .i64 x85.next,.int .u32 x85.state],B3,B1] W92:=hS94
 refine oM Z Z (eN (zS ?_))
 have q:=bnd hm87
 obtain ⟨⟨y141,y142,y143,y144⟩,hf138,hm137⟩:=q
 try dsimp only at hm137
 have q:=forR'_le hf138
 obtain ⟨hle139,hf140⟩:=q
 replace hle139:=zG hle139
 refine CK.forN' (fun k136 (l127,x130,x131,l132) σ_ w_=>∃ (φ_:PHeap) (A128:Option Addr) (c129:Nat) (A133:Option Addr) (c134:Nat),σ_ 22=.int .i64 (↑k136:Int)∧σ_ 0=.pointer (some ⟨pb0,0,none⟩)∧σ_ 4=.pointer (some ⟨b3,0,none⟩)∧σ_ 5=.pointer (some ⟨b78,0,none⟩)∧σ_ 21=.int .i64 x84∧PHeap.Le φ89 φ_∧St ⟨w,[B0],φ⟩ φ_ [.blk pb0 194 [.slice A128 l127.length c129,.int .i64 x130,.int .u32 x131],.row A133 c134 3 1 (List.flatMap KL.encI l132),.blk b78 25 [.slice A133 l132.length c134,.int .i64 x6,.int .i64 x21,.int .i64 x35,.int .i64 (w64 (200 + x49)),.int .i64 (w64 (100 * x63))],B1] w_∧Sl φ_ 1 A128 c129 l127.length (List.flatMap KL.encB8 l127)) hf140 ?_ ?_ ?_
 ·have hS145:=hS98.nilrow 3 1
  exact ⟨φ89,A95,c96,none,0,rfl,rfl,rfl,rfl,rfl,(zf _),(hS145.pick [1,0,2,3] _ (by decide) rfl),h97⟩
 ·rintro k136 ⟨l127,x130,x131,l132⟩ xx149 σ147 W148 hk152 ⟨φ154,A128,c129,A133,c134,fi153,f157,f158,f159,f160,le155,hS156,h161⟩ hx150
  try dsimp only at hx150
  have c162:Hid ((↑k136:Int) < x84):=zG (lp_lt0 hk152)
  replace hk152:=zG hk152
  have hi163:Hid (w64 ((↑k136:Int) + 1)=(↑(k136 + 1):Int)):=zG (by have h1:=hle139.out;have h2:=c162.out;rw [w64_in] <;> omega)
  refine sR fL1 rfl (zi rfl rfl rfl rfl (fun _=>zW rfl fi153 f160) (eN (zE (cT Z c162 (kN (zE (zS (Zh ZY [3,1004,3,1005,2,0,3,0,pb0] (fC0_2 (.fx 3 (.fx 4 (.fx 5 (.fl 6 (.fx 7 (.nil) .stop)) .stop) .stop) .stop)) (by kernel_rfl) ?_))))))))
  have hS195:=hS156.drew
  generalize hw_W196:({ W148 with drawn:=W148.drawn + 1 }:World)=W196 at hS195 ⊢
  refine oR Z (fun _=>zF Z f159 zg Z zN) ?_
  let B4:Res:=.blk b78 25 [.slice A133 l132.length c134,.int .i64 x6,.int .i64 x21,.int .i64 x35,.int .i64 (w64 (200 + x49)),.int .i64 (w64 (100 * x63))]
  let B5:Res:=.row A133 c134 3 1 (List.flatMap KL.encI l132)
  refine OKS.mt (T:=[pb0]) [0] [1,2,3] [B5,B4,B1] rfl rfl rfl rfl hS195 rfl ⟨⟨0,by decide,_,rfl,rfl⟩,trivial⟩ (by decide) rfl (by decide) (fun _ hZ197=>(hZ197.ldB (j:=1) rfl rfl rfl zd (v:=.slice A133 l132.length c134) rfl)) rfl (zj rfl rfl rfl rfl rfl f157 ?_)
  have q:=bnd hx150
  obtain ⟨⟨x198,x199⟩,h200,hm201⟩:=q
  try dsimp only at hm201
  refine OKS.callHT 1 rfl rfl rfl rfl (zP rfl rfl Zs (zD rfl (zD rfl zZ)) rfl) hS195 (fun hs=>w_klisterkit_Deck_Draw (⟨l127,x130,x131⟩:T_klisterkit_Deck) pb0 A128 c129 2 W196 φ154 hs h161 h200) rfl (T:=[pb0]) rfl ⟨fun b h=>(by cases h;exact .head _),trivial⟩ ?_
  rintro φ202 L203 v204 W205 le206 hS207 ⟨A208,c209,rfl,rfl,h210⟩
  let B6:Res:=.blk pb0 194 [.slice A208 x199.bytes.length c209,.int .i64 x199.next,.int .u32 x199.state]
  have hS211:St ⟨w,[B0],φ⟩ φ202 [B6,B5,B4,B1] W205:=hS207
  refine ZC (pv:=[(0,.int .i64 x198)]) (zs:=[.int .i64 0]) (cs:=[.int .i64 x198]) Z Z Z Z Z (mapcons2 Z mapnil2) zA zJ Zp Z Z Z Z Z hS211 ?_
  intro W212 b213 hS214
  let B7:Res:=.row (some ⟨b213,0,none⟩) 1 3 1 (List.flatMap KL.encI [x198])
  have hS216:St ⟨w,[B0],φ⟩ φ202 [B7,B6,B5,B4,B1] W212:=hS214
  refine bnK hm201 fun x217 h218 hm219=>Zu (j:=2) (enc:=KL.encI) (xs:=l132) (ys:=[x198]) (zs:=x217) rfl rfl rfl rfl rfl Zc info3 rfl rfl rfl rfl rfl rfl hS216 rfl rfl rfl (hS216.srcR (j:=0) rfl (by decide) (flatMap_len (f:=KL.encI) (sz:=1) (fun _=>rfl) [x198])) (fun _=>rfl) (fun _=>rfl) h218 rfl ?_
  intro A220 c221 W222 hS223
  let B8:Res:=.row A220 c221 3 1 (List.flatMap KL.encI x217)
  have hS224:St ⟨w,[B0],φ⟩ φ202 [B7,B6,B8,B4,B1] W222:=hS223
  refine oR Z (fun _=>zF Z f159 zg Z zN) (zx (j:=3) (vs:=[.slice A220 x217.length c221]) Z Z Z Z hS224 Z Z Z Z zN (zC Z) Z Z Z ?_)
  intro W225 hS226
  have hS227:St ⟨w,[B0],φ⟩ φ202 [B7,B6,B8,.blk b78 25 [.slice A220 x217.length c221,.int .i64 x6,.int .i64 x21,.int .i64 x35,.int .i64 (w64 (200 + x49)),.int .i64 (w64 (100 * x63))],B1] W225:=hS226
  refine zp (zh (zH (rR fL2 Z (oR Z (fun _=>zz (zY Z fi153 Z) (congrArg (Value.int .i64) hi163.out)) (oM Z Z (zp ?_))))))
  cases hm219
  exact zH ⟨rfl,⟨φ202,A208,c209,A220,c221,rfl,f157,f158,f159,f160,(le155.trans le206),(hS227.pick [1,2,3,4] _ (by decide) rfl),h210⟩⟩
 ·rintro σ236 W237 ⟨φ252,A248,c249,A250,c251,fi239,f255,f256,f257,f258,le253,hS254,h259⟩
  have c260:Hid (¬ ((↑((x84:Int) - 0).toNat:Int) < x84)):=zG (lp_end0)
  refine sR fL1 Z (oR Z (fun _=>zW Z fi239 f258) (eN (zE (cF Z c260 (ZG (ze (ze (zw (zH (sR (.fl 0 (.fx 1 (.nil) .stop)) Z (oL Z (hS254.ldBA (j:=2) Z Z f257 Tryz.isAgg25 ZE (vs:=[.slice A250 y144.length c251,.int .i64 x6,.int .i64 x21,.int .i64 x35,.int .i64 (w64 (200 + x49)),.int .i64 (w64 (100 * x63))]) Z Z) (zx (j:=3) (vs:=[.slice A250 y144.length c251,.int .i64 x6,.int .i64 x21,.int .i64 x35,.int .i64 (w64 (200 + x49)),.int .i64 (w64 (100 * x63))]) Z Z Z Z hS254 Z f256 Z Z ZE (zC Z) Z Z Z ?_))))))))))))
  intro W261 hS262
  have hS263:St ⟨w,[B0],φ⟩ φ252 [.blk pb0 194 [.slice A248 y141.length c249,.int .i64 y142,.int .u32 y143],.row A250 c251 3 1 (List.flatMap KL.encI y144),.blk b78 25 [.slice A250 y144.length c251,.int .i64 x6,.int .i64 x21,.int .i64 x35,.int .i64 (w64 (200 + x49)),.int .i64 (w64 (100 * x63))],.blk b3 25 [.slice A250 y144.length c251,.int .i64 x6,.int .i64 x21,.int .i64 x35,.int .i64 (w64 (200 + x49)),.int .i64 (w64 (100 * x63))]] W261:=hS262
  refine eN (zO ?_)
  cases hm137
  exact ⟨rfl,_,(resL1 (v:=.agg #[.slice A250 y144.length c251,.int .i64 x6,.int .i64 x21,.int .i64 x35,.int .i64 (w64 (200 + x49)),.int .i64 (w64 (100 * x63))]) ⟨⟨_,f256,(ldvarA Tryz.isAgg25 ZE (hS263.blkAt (k:=3) rfl) (vs:=[.slice A250 y144.length c251,.int .i64 x6,.int .i64 x21,.int .i64 x35,.int .i64 (w64 (200 + x49)),.int .i64 (w64 (100 * x63))]) rfl rfl)⟩,trivial⟩),φ252,_,(hS263.pick [1,0] _ (by decide) rfl),A250,c251,A248,c249,rfl,rfl,h259⟩
theorem w_klisterkit_Deck_Coin (p0:T_klisterkit_Deck) (pb0:Nat) (pA0_0:Option Addr) (pc0_0:Nat) (p1:Int) (w:World) (φ:PHeap) (hS:St0 w φ [.blk pb0 194 [.slice pA0_0 p0.bytes.length pc0_0,.int .i64 p0.next,.int .u32 p0.state]]) (ha0:Sl φ 1 pA0_0 pc0_0 p0.bytes.length (List.flatMap KL.encB8 p0.bytes)) {r:Bool × T_klisterkit_Deck} (hm:m_klisterkit_Deck_Coin p0 p1=some r):Gv Tryz.prog 105 [.pointer (some ⟨pb0,0,none⟩),.int .i64 p1] w (RetS w [.blk pb0 194 [.slice pA0_0 p0.bytes.length pc0_0,.int .i64 p0.next,.int .u32 p0.state]] φ (fun φ_ L_ v=>∃ (Ao00:Option Addr) (co00:Nat),v=.bool r.1∧L_=[.blk pb0 194 [.slice Ao00 r.2.bytes.length co00,.int .i64 r.2.next,.int .u32 r.2.state]]∧Sl φ_ 1 Ao00 co00 r.2.bytes.length (List.flatMap KL.encB8 r.2.bytes))):=by
 unfold m_klisterkit_Deck_Coin at hm
 refine Gv.of Tryz.func105 Z Tryz.ntmps105 Tryz.results105 Z (sR fL1 Z (oA Z Z (eN (sR (.fl 0 (.fl 1 (.fx 2 (.fl 3 (.fl 4 (.nil))) .stop))) Z (oM Z Z (oM Z Z ?_))))))
 have q:=bnd hm
 obtain ⟨⟨x2,x3⟩,h4,hm5⟩:=q
 try dsimp only at hm5
 refine zU 1 Z Z Z Z (zP Z Z Zs (zD Z (zD Z zZ)) Z) hS (fun hs=>w_klisterkit_Deck_Draw p0 pb0 pA0_0 pc0_0 p1 w φ hs ha0 h4) (.inl Z) ?_
 rintro φ6 L7 v8 W9 le10 hS11 ⟨A12,c13,rfl,rfl,h14⟩
 have hS15:St ⟨w,[.blk pb0 194 [.slice pA0_0 p0.bytes.length pc0_0,.int .i64 p0.next,.int .u32 p0.state]],φ⟩ φ6 [.blk pb0 194 [.slice A12 x3.bytes.length c13,.int .i64 x3.next,.int .u32 x3.state]] W9:=hS11
 refine oR Z (fun _=>Runs.eql Z Z Z) (oA Z Z (eN (zO ?_)))
 cases hm5
 exact ⟨Z,_,(zq Z),φ6,_,hS15,A12,c13,Z,Z,h14⟩
theorem w_klisterlaw08_Fired (p0:T_klisterkit_Deck) (pb0:Nat) (pA0_0:Option Addr) (pc0_0:Nat) (w:World) (φ:PHeap) (hS:St0 w φ [.blk pb0 194 [.slice pA0_0 p0.bytes.length pc0_0,.int .i64 p0.next,.int .u32 p0.state]]) (ha0:Sl φ 1 pA0_0 pc0_0 p0.bytes.length (List.flatMap KL.encB8 p0.bytes)) {r:(List Bool) × T_klisterkit_Deck} (hm:m_klisterlaw08_Fired p0=some r):Gv Tryz.prog 106 [.pointer (some ⟨pb0,0,none⟩)] w (RetS w [.blk pb0 194 [.slice pA0_0 p0.bytes.length pc0_0,.int .i64 p0.next,.int .u32 p0.state]] φ (fun φ_ L_ v=>∃ (A0:Option Addr) (c0:Nat) (Ao00:Option Addr) (co00:Nat),v=.slice A0 r.1.length c0∧L_=[.row A0 c0 4 1 (List.flatMap KL.encT r.1),.blk pb0 194 [.slice Ao00 r.2.bytes.length co00,.int .i64 r.2.next,.int .u32 r.2.state]]∧Sl φ_ 1 Ao00 co00 r.2.bytes.length (List.flatMap KL.encB8 r.2.bytes))):=by
 unfold m_klisterlaw08_Fired at hm
 refine Gv.of Tryz.func106 Z Tryz.ntmps106 Tryz.results106 Z (sR fL1 Z (oA Z Z (eN (sR fL1 Z (oA Z Z (eN (zE (sR fL1 Z (oA Z Z (eN (zS ?_)))))))))))
 let B0:Res:=.blk pb0 194 [.slice pA0_0 p0.bytes.length pc0_0,.int .i64 p0.next,.int .u32 p0.state]
 refine CK.iter (fun (l31,x34,x35,l36,x40) σ_ w_=>∃ (φ_:PHeap) (A32:Option Addr) (c33:Nat) (A37:Option Addr) (c38:Nat),σ_ 0=.pointer (some ⟨pb0,0,none⟩)∧σ_ 3=.slice A37 l36.length c38∧σ_ 4=.int .i64 x40∧PHeap.Le φ φ_∧St ⟨w,[B0],φ⟩ φ_ [.blk pb0 194 [.slice A32 l31.length c33,.int .i64 x34,.int .u32 x35],.row A37 c38 4 1 (List.flatMap KL.encT l36)] w_∧Sl φ_ 1 A32 c33 l31.length (List.flatMap KL.encB8 l31)) hm ?_ ?_
 ·have hS41:=hS.nilrow 4 1
  exact ⟨φ,pA0_0,pc0_0,none,0,rfl,rfl,rfl,(zf _),(hS41.pick [1,0] _ (by decide) rfl),ha0⟩
 ·rintro ⟨l31,x34,x35,l36,x40⟩ xx45 σ43 W44 ⟨φ50,A32,c33,A37,c38,f53,f54,f55,le51,hS52,h56⟩ hx46 hb47
  try dsimp only at hx46
  refine zE (sR (fC0_11 (.fx 12 (fC13_16 (.nil)) .stop)) Z (oM Z f55 (oR Z (fun _=>zW Z Z Z) (oM Z Z ?_))))
  by_cases c57:x40 < 5
  ·have hm58:=hx46;rw [if_pos c57] at hm58;replace c57:=zG c57
   refine zj Z Z Z (wT Z c57) Z f54 (rU Z (wT Z c57) (fun _=>zV Z Z ZX) (rU Z (wT Z c57) (fun _=>zW Z Z Z) (zj Z Z Z (wT Z c57) Z Z (ifc hm58 ?_ ?_))))
   ·intro c59 hm60
    refine oT Z c59 (oT Z c59 (oT Z c59 (oT Z c59 (ZQ Z Z Z (wantedU Z Z Z) (Zq Z Z Z (wantedU Z Z Z) (ZQ Z Z Z (wantedU Z Z Z) (oT Z c59 (rU Z (wT Z c57) (fun _=>zM Z (Zb c59.out) Z) (oR Z (fun _=>zM Z (Zb c57.out) Z) (eN (zn Z (kN (zS (sR (.fl 0 (.fx 1 (.fl 2 (.fl 3 (.nil))) .stop)) Z (oM Z f53 ?_)))))))))))))))
    have q:=bnd hm60
    obtain ⟨⟨x61,x62⟩,h63,hm64⟩:=q
    try dsimp only at hm64
    refine zU 1 Z Z Z Z (zP Z Z Tryz.call105 (zD Z (zD Z zZ)) Z) hS52 (fun hs=>w_klisterkit_Deck_Coin (⟨l31,x34,x35⟩:T_klisterkit_Deck) pb0 A32 c33 4 W44 φ50 hs h56 h63) (.inl Z) ?_
    rintro φ65 L66 v67 W68 le69 hS70 ⟨A71,c72,rfl,rfl,h73⟩
    let B1:Res:=.blk pb0 194 [.slice A71 x62.bytes.length c72,.int .i64 x62.next,.int .u32 x62.state]
    let B2:Res:=.row A37 c38 4 1 (List.flatMap KL.encT l36)
    have hS74:St ⟨w,[B0],φ⟩ φ65 [B1,B2] W68:=hS70
    refine oR Z (fun _=>ZL Z Z) (oA Z Z (eN (sR (.fl 0 (.fl 1 (.fx 2 (.fx 3 (.fl 4 (.nil)) .stop) .stop))) Z (oM Z f54 (oM Z Z (ZC (pv:=[(0,.bool (!x61))]) (zs:=[.bool false]) (cs:=[.bool (!x61)]) Z Z Z Z Z (mapcons2 Z mapnil2) ZX Tryz.sizeOf4 Tryz.zeroValue4 Z Z Z Z Z hS74 ?_))))))
    intro W75 b76 hS77
    let B3:Res:=.row (some ⟨b76,0,none⟩) 1 4 1 (List.flatMap KL.encT [!x61])
    have hS79:St ⟨w,[B0],φ⟩ φ65 [B3,B1,B2] W75:=hS77
    refine bnK hm64 fun x80 h81 hm82=>Zu (j:=2) (enc:=KL.encT) (xs:=l36) (ys:=[!x61]) (zs:=x80) rfl rfl rfl rfl rfl Tryz.underlying52 info4 rfl rfl rfl rfl rfl rfl hS79 rfl rfl rfl (hS79.srcR (j:=0) rfl (by decide) (flatMap_len (f:=KL.encT) (sz:=1) (fun _=>rfl) [!x61])) (fun _=>rfl) (fun _=>rfl) h81 rfl ?_
    intro A83 c84 W85 hS86
    have hS87:St ⟨w,[B0],φ⟩ φ65 [B3,B1,.row A83 c84 4 1 (List.flatMap KL.encT x80)] W85:=hS86
    refine oA Z Z (eN (sR fL1 Z (oM Z Z (eN (ifc hm82 ?_ ?_)))))
    ·intro c88 hm89
     refine zr (congrArg (fun b=>Value.bool (!b)) c88.out) (ZU (zh ?_))
     obtain rfl:=Option.some.inj hm89
     exact zH ⟨rfl,_,rfl,⟨φ65,A71,c72,A83,c84,f53,rfl,f55,(le51.trans le69),(hS87.pick [1,2] _ (by decide) rfl),h73⟩⟩
    ·intro c88 hm99
     refine zn (congrArg (fun b=>Value.bool (!b)) (Bool.eq_false_iff.2 c88.out)) (rR fL3 Z (oM Z f55 (oR Z (fun _=>zY Z Z Z) (oA Z Z (zp (zh ?_))))))
     obtain rfl:=Option.some.inj hm99
     exact zH ⟨rfl,_,rfl,⟨φ65,A71,c72,A83,c84,f53,rfl,rfl,(le51.trans le69),(hS87.pick [1,2] _ (by decide) rfl),h73⟩⟩
   ·intro c59 hm109
    refine zj Z Z Z (wF Z c59) Z f54 (rU Z (wF Z c59) (fun _=>zV Z Z ZX) (rU Z (wF Z c59) (fun _=>zW Z Z Z) (zj Z Z Z (wF Z c59) Z Z (ifc hm109 ?_ ?_))))
    ·intro c110 hm111
     refine zj Z Z Z (wT Z c110) Z f53 ?_
     have q:=bnd hm111
     obtain ⟨⟨x112,x113⟩,h114,hm115⟩:=q
     try dsimp only at hm115
     refine zU 1 Z Z Z (wT Z c110) (zP Z Z Tryz.call105 (zD Z (zD Z zZ)) Z) hS52 (fun hs=>w_klisterkit_Deck_Coin (⟨l31,x34,x35⟩:T_klisterkit_Deck) pb0 A32 c33 6 W44 φ50 hs h56 h114) (.inl Z) ?_
     rintro φ116 L117 v118 W119 le120 hS121 ⟨A122,c123,rfl,rfl,h124⟩
     let B4:Res:=.row A37 c38 4 1 (List.flatMap KL.encT l36)
     have hS125:St ⟨w,[B0],φ⟩ φ116 [.blk pb0 194 [.slice A122 x113.bytes.length c123,.int .i64 x113.next,.int .u32 x113.state],B4] W119:=hS121
     refine rU Z (wT Z c110) (fun _=>ZL Z Z) (rU Z (wF Z c59) (fun _=>zM Z (Zb c110.out) Z) (rU Z (wT Z c57) (fun _=>zl Z (zX c59.out) Z) (oR Z (fun _=>zM Z (Zb c57.out) Z) (eN (ifc hm115 ?_ ?_)))))
     ·intro c126 hm127
      refine zr (congrArg (fun b=>Value.bool (!b)) c126.out) (ZG (ze ?_))
      have q:=esc_spec hm127
      obtain ⟨v128,hm129,e130⟩:=q
      obtain rfl:=hb47 v128 e130
      refine ze (zw (zH (sR fL2 Z (oM Z f54 (oA Z Z (eN (zO ?_)))))))
      cases hm129
      exact ⟨rfl,_,(zq rfl),φ116,_,(hS125.pick [1,0] _ (by decide) rfl),A37,c38,A122,c123,rfl,rfl,h124⟩
     ·intro c126 hm131
      refine zn (congrArg (fun b=>Value.bool (!b)) (Bool.eq_false_iff.2 c126.out)) (kN (zS (sR (.fl 0 (.fx 1 (.fl 2 (.fl 3 (.nil))) .stop)) Z (oM Z f53 ?_))))
      have q:=bnd hm131
      obtain ⟨⟨x132,x133⟩,h134,hm135⟩:=q
      try dsimp only at hm135
      refine zU 1 Z Z Z Z (zP Z Z Tryz.call105 (zD Z (zD Z zZ)) Z) hS125 (fun hs=>w_klisterkit_Deck_Coin x113 pb0 A122 c123 4 W119 φ116 hs h124 h134) (.inl Z) ?_
      rintro φ136 L137 v138 W139 le140 hS141 ⟨A142,c143,rfl,rfl,h144⟩
      let B5:Res:=.blk pb0 194 [.slice A142 x133.bytes.length c143,.int .i64 x133.next,.int .u32 x133.state]
      have hS145:St ⟨w,[B0],φ⟩ φ136 [B5,B4] W139:=hS141
      refine oR Z (fun _=>ZL Z Z) (oA Z Z (eN (sR (.fl 0 (.fl 1 (.fx 2 (.fx 3 (.fl 4 (.nil)) .stop) .stop))) Z (oM Z f54 (oM Z Z (ZC (pv:=[(0,.bool (!x132))]) (zs:=[.bool false]) (cs:=[.bool (!x132)]) Z Z Z Z Z (mapcons2 Z mapnil2) ZX Tryz.sizeOf4 Tryz.zeroValue4 Z Z Z Z Z hS145 ?_))))))
      intro W146 b147 hS148
      let B6:Res:=.row (some ⟨b147,0,none⟩) 1 4 1 (List.flatMap KL.encT [!x132])
      have hS150:St ⟨w,[B0],φ⟩ φ136 [B6,B5,B4] W146:=hS148
      refine bnK hm135 fun x151 h152 hm153=>Zu (j:=2) (enc:=KL.encT) (xs:=l36) (ys:=[!x132]) (zs:=x151) rfl rfl rfl rfl rfl Tryz.underlying52 info4 rfl rfl rfl rfl rfl rfl hS150 rfl rfl rfl (hS150.srcR (j:=0) rfl (by decide) (flatMap_len (f:=KL.encT) (sz:=1) (fun _=>rfl) [!x132])) (fun _=>rfl) (fun _=>rfl) h152 rfl ?_
      intro A154 c155 W156 hS157
      have hS158:St ⟨w,[B0],φ⟩ φ136 [B6,B5,.row A154 c155 4 1 (List.flatMap KL.encT x151)] W156:=hS157
      refine oA Z Z (eN (sR fL1 Z (oM Z Z (eN (ifc hm153 ?_ ?_)))))
      ·intro c159 hm160
       refine zr (congrArg (fun b=>Value.bool (!b)) c159.out) (ZU (zh ?_))
       obtain rfl:=Option.some.inj hm160
       exact zH ⟨rfl,_,rfl,⟨φ136,A142,c143,A154,c155,f53,rfl,f55,((le51.trans le120).trans le140),(hS158.pick [1,2] _ (by decide) rfl),h144⟩⟩
      ·intro c159 hm170
       refine zn (congrArg (fun b=>Value.bool (!b)) (Bool.eq_false_iff.2 c159.out)) (rR fL3 Z (oM Z f55 (oR Z (fun _=>zY Z Z Z) (oA Z Z (zp (zh ?_))))))
       obtain rfl:=Option.some.inj hm170
       exact zH ⟨rfl,_,rfl,⟨φ136,A142,c143,A154,c155,f53,rfl,rfl,((le51.trans le120).trans le140),(hS158.pick [1,2] _ (by decide) rfl),h144⟩⟩
    ·intro c110 hm180
     refine oF Z c110 (Zq Z Z Z (ZA Z Z (zX c110.out) Z) (oF Z c110 (rU Z (wF Z c59) (fun _=>zl Z (zX c110.out) Z) (rU Z (wT Z c57) (fun _=>zl Z (zX c59.out) Z) (oR Z (fun _=>zM Z (Zb c57.out) Z) (eN (zr Z (ZG (ze ?_)))))))))
     have q:=esc_spec hm180
     obtain ⟨v181,hm182,e183⟩:=q
     obtain rfl:=hb47 v181 e183
     refine ze (zw (zH (sR fL2 Z (oM Z f54 (oA Z Z (eN (zO ?_)))))))
     cases hm182
     exact ⟨rfl,_,(zq rfl),φ50,_,(hS52.pick [1,0] _ (by decide) rfl),A37,c38,A32,c33,rfl,rfl,h56⟩
  ·have hm184:=hx46;rw [if_neg c57] at hm184;replace c57:=zG c57
   refine oF Z c57 (oF Z c57 (oF Z c57 (oF Z c57 (ZQ Z Z Z (wantedU Z Z Z) (ZQ Z Z Z (wantedU Z Z Z) (ZQ Z Z Z (wantedU Z Z Z) (ZQ Z Z Z (wantedU Z Z Z) (ZQ Z Z Z (wantedU Z Z Z) (Zq Z Z Z (wantedU Z Z Z) (ZQ Z Z Z (wantedU Z Z Z) (ZQ Z Z Z (wantedU Z Z Z) (oF Z c57 (oR Z (fun _=>zl Z (zX c57.out) Z) (eN (zr Z (ZG (ze ?_)))))))))))))))))
   have q:=esc_spec hm184
   obtain ⟨v185,hm186,e187⟩:=q
   obtain rfl:=hb47 v185 e187
   refine ze (zw (zH (sR fL2 Z (oM Z f54 (oA Z Z (eN (zO ?_)))))))
   cases hm186
   exact ⟨rfl,_,(zq rfl),φ50,_,(hS52.pick [1,0] _ (by decide) rfl),A37,c38,A32,c33,rfl,rfl,h56⟩
theorem w_klisterlaw08_Made (p0:T_klisterkit_Deck) (pb0:Nat) (pA0_0:Option Addr) (pc0_0:Nat) (p1:Int) (p2:Int) (w:World) (φ:PHeap) (hS:St0 w φ [.blk pb0 194 [.slice pA0_0 p0.bytes.length pc0_0,.int .i64 p0.next,.int .u32 p0.state]]) (ha0:Sl φ 1 pA0_0 pc0_0 p0.bytes.length (List.flatMap KL.encB8 p0.bytes)) {r:T_relay_Race × T_klisterkit_Deck} (hm:m_klisterlaw08_Made p0 p1 p2=some r):Gv Tryz.prog 15 [.pointer (some ⟨pb0,0,none⟩),.int .i64 p1,.int .i64 p2] w (RetS w [.blk pb0 194 [.slice pA0_0 p0.bytes.length pc0_0,.int .i64 p0.next,.int .u32 p0.state]] φ (fun φ_ L_ v=>∃ (A000:Option Addr) (c000:Nat) (A02:Option Addr) (c02:Nat) (cs02:List Value) (Ao00:Option Addr) (co00:Nat),v=.agg #[.slice A000 r.1.Rules.Classes.length c000,.int .i64 r.1.Rules.Each,.int .i64 r.1.Rules.Laps,.int .i64 r.1.Rules.Spare,.int .i64 r.1.Rules.Loop,.int .i64 r.1.Rules.Unused,.int .i64 r.1.Start,.slice A02 r.1.Teams.length c02]∧L_=[.row A000 c000 3 1 (List.flatMap KL.encI r.1.Rules.Classes),.row A02 c02 44 3 cs02,.blk pb0 194 [.slice Ao00 r.2.bytes.length co00,.int .i64 r.2.next,.int .u32 r.2.state]]∧RlL φ_ rl44 r.1.Teams cs02∧Sl φ_ 1 Ao00 co00 r.2.bytes.length (List.flatMap KL.encB8 r.2.bytes))):=by
 unfold m_klisterlaw08_Made at hm
 refine Gv.of Tryz.func15 Z Tryz.ntmps15 Tryz.results15 Z (sR (.fx 0 (.nil) .stop) Z (ZK (cs:=[.slice none 0 0,.int .i64 0,.int .i64 0,.int .i64 0,.int .i64 0,.int .i64 0,.int .i64 0,.slice none 0 0]) Z Z Z Z Z Tryz.zeroValue28 Z hS ?_))
 intro W2 b3 hS4
 refine eN (sR (.fl 0 (.fl 1 (.fx 2 (.fl 3 (.fx 4 (.fl 5 (.fx 6 (.fx 7 (.nil) .stop) .stop)) .stop)) .stop))) Z (oM Z Z (oM Z Z ?_)))
 have q:=bnd hm
 obtain ⟨⟨x6,x7⟩,h8,hm9⟩:=q
 try dsimp only at hm9
 let B0:Res:=.blk pb0 194 [.slice pA0_0 p0.bytes.length pc0_0,.int .i64 p0.next,.int .u32 p0.state]
 let B1:Res:=.blk b3 28 [.slice none 0 0,.int .i64 0,.int .i64 0,.int .i64 0,.int .i64 0,.int .i64 0,.int .i64 0,.slice none 0 0]
 have hS10:St ⟨w,[B0],φ⟩ φ [B0,B1] W2:=hS4.pick [1,0] _ (by decide) rfl
 refine zU 1 Z Z Z Z (zP Z Z Tryz.call104 (zD Z (zD Z zZ)) Z) hS10 (fun hs=>w_klisterlaw08_Ruled p0 pb0 pA0_0 pc0_0 p2 W2 φ hs ha0 h8) (.inl Z) ?_
 rintro φ11 L12 v13 W14 le15 hS16 ⟨A17,c18,A19,c20,rfl,rfl,h22⟩
 let B2:Res:=.blk pb0 194 [.slice A19 x7.bytes.length c20,.int .i64 x7.next,.int .u32 x7.state]
 let B3:Res:=.row A17 c18 3 1 (List.flatMap KL.encI x6.Classes)
 have hS23:St ⟨w,[B0],φ⟩ φ11 [B3,B2,B1] W14:=hS16
 refine oM Z Z ?_
 have q:=bnd hm9
 obtain ⟨⟨x24,x25⟩,h26,hm27⟩:=q
 try dsimp only at hm27
 have hS28:St ⟨w,[B0],φ⟩ φ11 [B2,B3,B1] W14:=hS23.pick [1,0,2] _ (by decide) rfl
 refine zU 1 Z Z Z Z (zP Z Z Zs (zD Z (zD Z zZ)) Z) hS28 (fun hs=>w_klisterkit_Deck_Draw x7 pb0 A19 c20 50 W14 φ11 hs h22 h26) (.inl Z) ?_
 rintro φ29 L30 v31 W32 le33 hS34 ⟨A35,c36,rfl,rfl,h37⟩
 let B4:Res:=.blk pb0 194 [.slice A35 x25.bytes.length c36,.int .i64 x25.next,.int .u32 x25.state]
 have hS38:St ⟨w,[B0],φ⟩ φ29 [B4,B3,B1] W32:=hS34
 refine oR Z (fun _=>Zf (pv:=[(0,.agg #[.slice A17 x6.Classes.length c18,.int .i64 x6.Each,.int .i64 x6.Laps,.int .i64 x6.Spare,.int .i64 x6.Loop,.int .i64 x6.Unused]),(1,.int .i64 x24)]) (z:=[.slice none 0 0,.int .i64 0,.int .i64 0,.int .i64 0,.int .i64 0,.int .i64 0,.int .i64 0,.slice none 0 0]) (cs:=[.slice A17 x6.Classes.length c18,.int .i64 x6.Each,.int .i64 x6.Laps,.int .i64 x6.Spare,.int .i64 x6.Loop,.int .i64 x6.Unused,.int .i64 x24,.slice none 0 0]) Z (mapcons2 Z (mapcons2 Z mapnil2)) Tryz.zeroValue28 places28 Z Z) (ZK (cs:=[.slice none 0 0,.int .i64 0,.int .i64 0,.int .i64 0,.int .i64 0,.int .i64 0,.int .i64 0,.slice none 0 0]) Z Z Z Z Z Tryz.zeroValue28 Z hS38 ?_)
 intro W39 b40 hS41
 refine zx (j:=0) (vs:=[.slice A17 x6.Classes.length c18,.int .i64 x6.Each,.int .i64 x6.Laps,.int .i64 x6.Spare,.int .i64 x6.Loop,.int .i64 x6.Unused,.int .i64 x24,.slice none 0 0]) Z Z Z Z hS41 Z Z Z Z zy (zC Z) Z Z Z ?_
 intro W43 hS44
 let B5:Res:=.blk b40 28 [.slice A17 x6.Classes.length c18,.int .i64 x6.Each,.int .i64 x6.Laps,.int .i64 x6.Spare,.int .i64 x6.Loop,.int .i64 x6.Unused,.int .i64 x24,.slice none 0 0]
 have hS45:St ⟨w,[B0],φ⟩ φ29 [B5,B4,B3,B1] W43:=hS44
 refine eN (zE (sR (.fl 0 (.fl 1 (.fx 2 (.fl 3 (.nil)) .stop))) Z (oM Z Z (oM Z Z ?_))))
 have q:=bnd hm27
 obtain ⟨⟨x46,x47⟩,h48,hm49⟩:=q
 try dsimp only at hm49
 have hS50:St ⟨w,[B0],φ⟩ φ29 [B4,B5,B3,B1] W43:=hS45.pick [1,0,2,3] _ (by decide) rfl
 refine zU 1 Z Z Z Z (zP Z Z Tryz.call41 (zD Z (zD Z (zD Z zZ))) Z) hS50 (fun hs=>w_klisterkit_Deck_Between x25 pb0 A35 c36 1 p1 W43 φ29 hs h37 h48) (.inl Z) ?_
 rintro φ51 L52 v53 W54 le55 hS56 ⟨A57,c58,rfl,rfl,h59⟩
 have hS60:St ⟨w,[B0],φ⟩ φ51 [.blk pb0 194 [.slice A57 x47.bytes.length c58,.int .i64 x47.next,.int .u32 x47.state],B5,B3,B1] W54:=hS56
 refine oM Z Z (eN (zS ?_))
 have q:=bnd hm49
 obtain ⟨⟨y107,y108,y109,y110⟩,hf104,hm103⟩:=q
 try dsimp only at hm103
 have q:=forR'_le hf104
 obtain ⟨hle105,hf106⟩:=q
 replace hle105:=zG hle105
 refine CK.forN' (fun k102 (l92,x95,x96,l97) σ_ w_=>∃ (φ_:PHeap) (A93:Option Addr) (c94:Nat) (A98:Option Addr) (c99:Nat) (cs101:List Value),σ_ 23=.int .i64 (↑k102:Int)∧σ_ 0=.pointer (some ⟨pb0,0,none⟩)∧σ_ 6=.pointer (some ⟨b3,0,none⟩)∧σ_ 7=.pointer (some ⟨b40,0,none⟩)∧σ_ 22=.int .i64 x46∧PHeap.Le φ51 φ_∧St ⟨w,[B0],φ⟩ φ_ [.blk pb0 194 [.slice A93 l92.length c94,.int .i64 x95,.int .u32 x96],.row A17 c18 3 1 (List.flatMap KL.encI x6.Classes),.row A98 c99 44 3 cs101,.blk b40 28 [.slice A17 x6.Classes.length c18,.int .i64 x6.Each,.int .i64 x6.Laps,.int .i64 x6.Spare,.int .i64 x6.Loop,.int .i64 x6.Unused,.int .i64 x24,.slice A98 l97.length c99],B1] w_∧Sl φ_ 1 A93 c94 l92.length (List.flatMap KL.encB8 l92)∧RlL φ_ rl44 l97 cs101) hf106 ?_ ?_ ?_
 ·have hS111:=hS60.nilrow 44 3
  exact ⟨φ51,A57,c58,none,0,[],rfl,rfl,rfl,rfl,rfl,(zf _),(hS111.pick [1,3,0,2,4] _ (by decide) rfl),h59,RlL.nil⟩
 ·rintro k102 ⟨l92,x95,x96,l97⟩ xx115 σ113 W114 hk118 ⟨φ120,A93,c94,A98,c99,cs101,fi119,f123,f124,f125,f126,le121,hS122,h127,h128⟩ hx116
  try dsimp only at hx116
  have c129:Hid ((↑k102:Int) < x46):=zG (lp_lt0 hk118)
  replace hk118:=zG hk118
  have hi130:Hid (w64 ((↑k102:Int) + 1)=(↑(k102 + 1):Int)):=zG (by have h1:=hle105.out;have h2:=c129.out;rw [w64_in] <;> omega)
  refine sR fL1 Z (oR Z (fun _=>zW Z fi119 f126) (eN (zE (cT Z c129 (kN (zE (zS (sR fL2 Z (oM Z fi119 (oA Z Z (eN (sR (fC0_2 (.fx 3 (.fl 4 (.fl 5 (.fx 6 (.fx 7 (.nil) .stop) .stop))) .stop)) Z (oM Z Z (oR Z (fun _=>Runs.mulw Z Z Z) (oM Z f123 ?_)))))))))))))))
  have q:=bnd hx116
  obtain ⟨⟨x131,x132⟩,h133,hm134⟩:=q
  try dsimp only at hm134
  refine zU 1 Z Z Z Z (zP Z Z Tryz.call41 (zD Z (zD Z (zD Z zZ))) Z) hS122 (fun hs=>w_klisterkit_Deck_Between (⟨l92,x95,x96⟩:T_klisterkit_Deck) pb0 A93 c94 1 9 W114 φ120 hs h127 h133) (.inl Z) ?_
  rintro φ135 L136 v137 W138 le139 hS140 ⟨A141,c142,rfl,rfl,h143⟩
  let B6:Res:=.blk pb0 194 [.slice A141 x132.bytes.length c142,.int .i64 x132.next,.int .u32 x132.state]
  let B7:Res:=.blk b40 28 [.slice A17 x6.Classes.length c18,.int .i64 x6.Each,.int .i64 x6.Laps,.int .i64 x6.Spare,.int .i64 x6.Loop,.int .i64 x6.Unused,.int .i64 x24,.slice A98 l97.length c99]
  let B8:Res:=.row A98 c99 44 3 cs101
  have hS144:St ⟨w,[B0],φ⟩ φ135 [B6,B3,B8,B7,B1] W138:=hS140
  refine oR Z (fun _=>zY Z Z Z) (oR Z (fun _=>Zf (pv:=[(0,.int .i64 (w64 ((w64 (9 * (↑k102:Int))) + x131)))]) (z:=[.int .i64 0,.slice none 0 0,.slice none 0 0]) (cs:=[.int .i64 (w64 ((w64 (9 * (↑k102:Int))) + x131)),.slice none 0 0,.slice none 0 0]) Z (mapcons2 Z mapnil2) Zk places44 Z Z) (ZK (cs:=[.int .i64 0,.slice none 0 0,.slice none 0 0]) Z Z Z Z Z Zk Z hS144 ?_))
  intro W145 b146 hS147
  refine zx (j:=0) (vs:=[.int .i64 (w64 ((w64 (9 * (↑k102:Int))) + x131)),.slice none 0 0,.slice none 0 0]) Z Z Z Z hS147 Z Z Z Z ZB (zC Z) Z Z Z ?_
  intro W149 hS150
  let B9:Res:=.blk b146 44 [.int .i64 (w64 ((w64 (9 * (↑k102:Int))) + x131)),.slice none 0 0,.slice none 0 0]
  have hS151:St ⟨w,[B0],φ⟩ φ135 [B9,B6,B3,B8,B7,B1] W149:=hS150
  refine eN (zE (sR (.fl 0 (.fx 1 (.fl 2 (.nil)) .stop)) Z (oM Z f123 ?_)))
  have q:=bnd hm134
  obtain ⟨⟨x152,x153⟩,h154,hm155⟩:=q
  try dsimp only at hm155
  have hS156:St ⟨w,[B0],φ⟩ φ135 [B6,B9,B3,B8,B7,B1] W149:=hS151.pick [1,0,2,3,4,5] _ (by decide) rfl
  refine zU 1 Z Z Z Z (zP Z Z Tryz.call41 (zD Z (zD Z (zD Z zZ))) Z) hS156 (fun hs=>w_klisterkit_Deck_Between x132 pb0 A141 c142 1 5 W149 φ135 hs h143 h154) (.inl Z) ?_
  rintro φ157 L158 v159 W160 le161 hS162 ⟨A163,c164,rfl,rfl,h165⟩
  have hS166:St ⟨w,[B0],φ⟩ φ157 [.blk pb0 194 [.slice A163 x153.bytes.length c164,.int .i64 x153.next,.int .u32 x153.state],B9,B3,B8,B7,B1] W160:=hS162
  refine oM Z Z (eN (zS ?_))
  have q:=bnd hm155
  obtain ⟨⟨y209,y210,y211,y212⟩,hf206,hm205⟩:=q
  try dsimp only at hm205
  have q:=forR'_le hf206
  obtain ⟨hle207,hf208⟩:=q
  replace hle207:=zG hle207
  refine CK.forN' (fun k204 (l195,x198,x199,l200) σ_ w_=>∃ (φ_:PHeap) (A196:Option Addr) (c197:Nat) (A201:Option Addr) (c202:Nat),σ_ 34=.int .i64 (↑k204:Int)∧σ_ 0=.pointer (some ⟨pb0,0,none⟩)∧σ_ 6=.pointer (some ⟨b3,0,none⟩)∧σ_ 7=.pointer (some ⟨b40,0,none⟩)∧σ_ 9=.pointer (some ⟨b146,0,none⟩)∧σ_ 22=.int .i64 x46∧σ_ 23=.int .i64 (↑k102:Int)∧σ_ 33=.int .i64 x152∧PHeap.Le φ157 φ_∧St ⟨w,[B0],φ⟩ φ_ [.blk pb0 194 [.slice A196 l195.length c197,.int .i64 x198,.int .u32 x199],.row A201 c202 3 1 (List.flatMap KL.encI l200),.blk b146 44 [.int .i64 (w64 ((w64 (9 * (↑k102:Int))) + x131)),.slice A201 l200.length c202,.slice none 0 0],B3,B8,B7,B1] w_∧Sl φ_ 1 A196 c197 l195.length (List.flatMap KL.encB8 l195)) hf208 ?_ ?_ ?_
  ·have hS213:=hS166.nilrow 3 1
   exact ⟨φ157,A163,c164,none,0,rfl,f123,f124,f125,rfl,f126,fi119,rfl,(zf _),(hS213.pick [1,0,2,3,4,5,6] _ (by decide) rfl),h165⟩
  ·rintro k204 ⟨l195,x198,x199,l200⟩ xx217 σ215 W216 hk220 ⟨φ222,A196,c197,A201,c202,fi221,f225,f226,f227,f228,f229,f230,f231,le223,hS224,h232⟩ hx218
   try dsimp only at hx218
   have c233:Hid ((↑k204:Int) < x152):=zG (lp_lt0 hk220)
   replace hk220:=zG hk220
   have hi234:Hid (w64 ((↑k204:Int) + 1)=(↑(k204 + 1):Int)):=zG (by have h1:=hle207.out;have h2:=c233.out;rw [w64_in] <;> omega)
   refine sR fL1 rfl (zi rfl rfl rfl rfl (fun _=>zW rfl fi221 f231) (eN (zE (cT Z c233 (kN (zE (zS (Zh ZY [3,1004,3,1005,2,0,3,0,pb0] (fC0_2 (.fx 3 (.fx 4 (.fx 5 (.fl 6 (.fx 7 (.nil) .stop)) .stop) .stop) .stop)) (by kernel_rfl) ?_))))))))
   have hS266:=hS224.drew
   generalize hw_W267:({ W216 with drawn:=W216.drawn + 1 }:World)=W267 at hS266 ⊢
   refine oR Z (fun _=>zF Z f228 zk Z zN) ?_
   let B10:Res:=.blk b146 44 [.int .i64 (w64 ((w64 (9 * (↑k102:Int))) + x131)),.slice A201 l200.length c202,.slice none 0 0]
   let B11:Res:=.row A201 c202 3 1 (List.flatMap KL.encI l200)
   refine OKS.mt (T:=[pb0]) [0] [1,2,3,4,5,6] [B11,B10,B3,B8,B7,B1] rfl rfl rfl rfl hS266 rfl ⟨⟨0,by decide,_,rfl,rfl⟩,trivial⟩ (by decide) rfl (by decide) (fun _ hZ268=>(hZ268.ldB (j:=1) rfl rfl rfl zd (v:=.slice A201 l200.length c202) rfl)) rfl (zj rfl rfl rfl rfl rfl f225 ?_)
   have q:=bnd hx218
   obtain ⟨⟨x269,x270⟩,h271,hm272⟩:=q
   try dsimp only at hm272
   refine OKS.callHT 1 rfl rfl rfl rfl (zP rfl rfl Zs (zD rfl (zD rfl zZ)) rfl) hS266 (fun hs=>w_klisterkit_Deck_Draw (⟨l195,x198,x199⟩:T_klisterkit_Deck) pb0 A196 c197 2 W267 φ222 hs h232 h271) rfl (T:=[pb0]) rfl ⟨fun b h=>(by cases h;exact .head _),trivial⟩ ?_
   rintro φ273 L274 v275 W276 le277 hS278 ⟨A279,c280,rfl,rfl,h281⟩
   let B12:Res:=.blk pb0 194 [.slice A279 x270.bytes.length c280,.int .i64 x270.next,.int .u32 x270.state]
   have hS282:St ⟨w,[B0],φ⟩ φ273 [B12,B11,B10,B3,B8,B7,B1] W276:=hS278
   refine ZC (pv:=[(0,.int .i64 x269)]) (zs:=[.int .i64 0]) (cs:=[.int .i64 x269]) Z Z Z Z Z (mapcons2 Z mapnil2) zA zJ Zp Z Z Z Z Z hS282 ?_
   intro W283 b284 hS285
   let B13:Res:=.row (some ⟨b284,0,none⟩) 1 3 1 (List.flatMap KL.encI [x269])
   have hS287:St ⟨w,[B0],φ⟩ φ273 [B13,B12,B11,B10,B3,B8,B7,B1] W283:=hS285
   refine bnK hm272 fun x288 h289 hm290=>Zu (j:=2) (enc:=KL.encI) (xs:=l200) (ys:=[x269]) (zs:=x288) rfl rfl rfl rfl rfl Zc info3 rfl rfl rfl rfl rfl rfl hS287 rfl rfl rfl (hS287.srcR (j:=0) rfl (by decide) (flatMap_len (f:=KL.encI) (sz:=1) (fun _=>rfl) [x269])) (fun _=>rfl) (fun _=>rfl) h289 rfl ?_
   intro A291 c292 W293 hS294
   let B14:Res:=.row A291 c292 3 1 (List.flatMap KL.encI x288)
   have hS295:St ⟨w,[B0],φ⟩ φ273 [B13,B12,B14,B10,B3,B8,B7,B1] W293:=hS294
   refine oR Z (fun _=>zF Z f228 zk Z zN) (zx (j:=3) (vs:=[.slice A291 x288.length c292]) Z Z Z Z hS295 Z Z Z Z zN (zC Z) Z Z Z ?_)
   intro W296 hS297
   have hS298:St ⟨w,[B0],φ⟩ φ273 [B13,B12,B14,.blk b146 44 [.int .i64 (w64 ((w64 (9 * (↑k102:Int))) + x131)),.slice A291 x288.length c292,.slice none 0 0],B3,B8,B7,B1] W296:=hS297
   refine zp (zh (zH (rR fL2 Z (oR Z (fun _=>zz (zY Z fi221 Z) (congrArg (Value.int .i64) hi234.out)) (oM Z Z (zp ?_))))))
   cases hm290
   exact zH ⟨rfl,⟨φ273,A279,c280,A291,c292,rfl,f225,f226,f227,f228,f229,f230,f231,(le223.trans le277),(hS298.pick [1,2,3,4,5,6,7] _ (by decide) rfl),h281⟩⟩
  ·rintro σ307 W308 ⟨φ323,A319,c320,A321,c322,fi310,f326,f327,f328,f329,f330,f331,f332,le324,hS325,h333⟩
   have c334:Hid (¬ ((↑((x152:Int) - 0).toNat:Int) < x152)):=zG (lp_end0)
   refine sR fL1 rfl (zi rfl rfl rfl rfl (fun _=>zW rfl fi310 f332) (eN (zE (cF Z c334 (ZG (ze (ze (zw (zH (zE (Zh ZY [3,1005,3,3,1004,3,3,3,1004,3,3,3,pb0] (.fl 0 (fC2_9 (.fx 1 (.fl 10 (.fl 11 (.nil))) .stop))) (by kernel_rfl) ?_)))))))))))
   have hS351:=hS325.drew
   generalize hw_W352:({ W308 with drawn:=W308.drawn + 1 }:World)=W352 at hS351 ⊢
   refine oM Z f326 (oR Z (fun _=>zF Z f328 zL Z ZE) (oR Z (fun _=>zF Z Z zg Z zN) ?_))
   let B15:Res:=.blk b146 44 [.int .i64 (w64 ((w64 (9 * (↑k102:Int))) + x131)),.slice A321 y212.length c322,.slice none 0 0]
   let B16:Res:=.row A321 c322 3 1 (List.flatMap KL.encI y212)
   refine OKS.mt (T:=[pb0]) [0] [1,2,3,4,5,6] [B16,B15,B3,B8,B7,B1] rfl rfl rfl rfl hS351 rfl ⟨⟨0,by decide,_,rfl,rfl⟩,trivial⟩ (by decide) rfl (by decide) (fun _ hZ353=>(hZ353.ldB (j:=4) rfl rfl rfl zd (v:=.slice A17 x6.Classes.length c18) rfl)) rfl (zi rfl rfl rfl rfl (fun _=>zV rfl rfl zA) (zi rfl rfl rfl rfl (fun _=>zF rfl f328 zL rfl ZE) (zi rfl rfl rfl rfl (fun _=>zF rfl rfl zg rfl zJ) (OKS.mt (T:=[pb0]) [0] [1,2,3,4,5,6] [B16,B15,B3,B8,B7,B1] rfl rfl rfl rfl hS351 rfl ⟨⟨0,by decide,_,rfl,rfl⟩,trivial⟩ (by decide) rfl (by decide) (fun _ hZ354=>(hZ354.ldB (j:=4) rfl rfl rfl zR (v:=.int .i64 x6.Laps) rfl)) rfl (zi rfl rfl rfl rfl (fun _=>Runs.mulw rfl rfl rfl) ?_)))))
   have q:=bnd hm205
   obtain ⟨⟨x355,x356⟩,h357,hm358⟩:=q
   try dsimp only at hm358
   refine OKS.callHT 1 rfl rfl rfl rfl (zP rfl rfl Tryz.call41 (zD rfl (zD rfl (zD rfl zZ))) rfl) hS351 (fun hs=>w_klisterkit_Deck_Between (⟨y209,y210,y211⟩:T_klisterkit_Deck) pb0 A319 c320 300 900 W352 φ323 hs h333 h357) rfl (T:=[pb0]) rfl ⟨fun b h=>(by cases h;exact .head _),trivial⟩ ?_
   rintro φ359 L360 v361 W362 le363 hS364 ⟨A365,c366,rfl,rfl,h367⟩
   have hS368:St ⟨w,[B0],φ⟩ φ359 [.blk pb0 194 [.slice A365 x356.bytes.length c366,.int .i64 x356.next,.int .u32 x356.state],B16,B15,B3,B8,B7,B1] W362:=hS364
   refine oA Z Z (oA Z Z (eN (zE (sR (.fl 0 (.fx 1 (.nil) .stop)) Z (oM Z f326 ?_)))))
   have q:=bnd hm358
   obtain ⟨⟨x369,x370⟩,h371,hm372⟩:=q
   try dsimp only at hm372
   refine zU 1 Z Z Z Z (zP Z Z Tryz.call105 (zD Z (zD Z zZ)) Z) hS368 (fun hs=>w_klisterkit_Deck_Coin x356 pb0 A365 c366 4 W362 φ359 hs h367 h371) (.inl Z) ?_
   rintro φ373 L374 v375 W376 le377 hS378 ⟨A379,c380,rfl,rfl,h381⟩
   have hS382:St ⟨w,[B0],φ⟩ φ373 [.blk pb0 194 [.slice A379 x370.bytes.length c380,.int .i64 x370.next,.int .u32 x370.state],B16,B15,B3,B8,B7,B1] W376:=hS378
   refine eN (ifc hm372 ?_ ?_)
   ·intro c383 hm384
    refine zn (congrArg Value.bool c383.out) (rR (fC0_2 (.fx 3 (.fl 4 (.nil)) .stop)) Z (oM Z f326 (oM Z Z (oR Z (fun _=>zY Z Z Z) ?_))))
    have q:=bnd hm384
    obtain ⟨⟨x385,x386⟩,h387,hm388⟩:=q
    try dsimp only at hm388
    refine zU 1 Z Z Z Z (zP Z Z Zs (zD Z (zD Z zZ)) Z) hS382 (fun hs=>w_klisterkit_Deck_Draw x370 pb0 A379 c380 (w64 ((w64 ((↑x6.Classes.length:Int) * x6.Laps)) + 1)) W376 φ373 hs h381 h387) (.inl Z) ?_
    rintro φ389 L390 v391 W392 le393 hS394 ⟨A395,c396,rfl,rfl,h397⟩
    have hS398:St ⟨w,[B0],φ⟩ φ389 [.blk pb0 194 [.slice A395 x386.bytes.length c396,.int .i64 x386.next,.int .u32 x386.state],B16,B15,B3,B8,B7,B1] W392:=hS394
    refine oA Z Z (eN ?_)
    have q:=bnd hm388
    obtain ⟨⟨l399,x402,x403,l404⟩,hx409,hm410⟩:=q
    try dsimp only at hm410
    refine CK.cut (fun σ_ w_=>∃ (φ_:PHeap) (A400:Option Addr) (c401:Nat) (A405:Option Addr) (c406:Nat) (cs407:List Value),σ_ 0=.pointer (some ⟨pb0,0,none⟩)∧σ_ 6=.pointer (some ⟨b3,0,none⟩)∧σ_ 7=.pointer (some ⟨b40,0,none⟩)∧σ_ 9=.pointer (some ⟨b146,0,none⟩)∧σ_ 22=.int .i64 x46∧σ_ 23=.int .i64 (↑k102:Int)∧PHeap.Le φ389 φ_∧St ⟨w,[B0],φ⟩ φ_ [.blk pb0 194 [.slice A400 l399.length c401,.int .i64 x402,.int .u32 x403],.row A321 c322 3 1 (List.flatMap KL.encI y212),.row A405 c406 47 3 cs407,.blk b146 44 [.int .i64 (w64 ((w64 (9 * (↑k102:Int))) + x131)),.slice A321 y212.length c322,.slice A405 l404.length c406],.row A17 c18 3 1 (List.flatMap KL.encI x6.Classes),B8,B7,B1] w_∧Sl φ_ 1 A400 c401 l399.length (List.flatMap KL.encB8 l399)∧RlL φ_ rl47 l404 cs407) ?_ ?_
    ·refine zS (CK.iter (fun (l443,x446,x447,l448,x453) σ_ w_=>∃ (φ_:PHeap) (A444:Option Addr) (c445:Nat) (A449:Option Addr) (c450:Nat) (cs452:List Value),σ_ 0=.pointer (some ⟨pb0,0,none⟩)∧σ_ 6=.pointer (some ⟨b3,0,none⟩)∧σ_ 7=.pointer (some ⟨b40,0,none⟩)∧σ_ 9=.pointer (some ⟨b146,0,none⟩)∧σ_ 10=.int .i64 x355∧σ_ 11=.int .i64 x453∧σ_ 22=.int .i64 x46∧σ_ 23=.int .i64 (↑k102:Int)∧PHeap.Le φ389 φ_∧St ⟨w,[B0],φ⟩ φ_ [.blk pb0 194 [.slice A444 l443.length c445,.int .i64 x446,.int .u32 x447],.row A321 c322 3 1 (List.flatMap KL.encI y212),.row A449 c450 47 3 cs452,.blk b146 44 [.int .i64 (w64 ((w64 (9 * (↑k102:Int))) + x131)),.slice A321 y212.length c322,.slice A449 l448.length c450],.row A17 c18 3 1 (List.flatMap KL.encI x6.Classes),B8,B7,B1] w_∧Sl φ_ 1 A444 c445 l443.length (List.flatMap KL.encB8 l443)∧RlL φ_ rl47 l448 cs452) hx409 ?_ ?_)
     ·have hS454:=hS398.nilrow 47 3
      exact ⟨φ389,A395,c396,none,0,[],f326,f327,f328,f329,rfl,rfl,f330,f331,(zf _),(hS454.pick [1,2,0,3,4,5,6,7] _ (by decide) rfl),h397,RlL.nil⟩
     ·rintro ⟨l443,x446,x447,l448,x453⟩ xx458 σ456 W457 ⟨φ463,A444,c445,A449,c450,cs452,f466,f467,f468,f469,f470,f471,f472,f473,le464,hS465,h474,h475⟩ hx459 hb460
      try dsimp only at hx459
      refine zE (sR fL2 Z (oM Z f471 (oR Z (fun _=>Zy Z Z Z) (eN ?_))))
      by_cases c476:0 < x453
      ·have hm477:=hx459;rw [if_pos c476] at hm477;replace c476:=zG c476
       refine cT Z c476 (kN (zS (sR (fC0_3 (.fx 4 (.fl 5 (.fx 6 (.fx 7 (.nil) .stop) .stop)) .stop)) Z (oM Z f466 (oR Z (fun _=>zF Z f469 zk Z zN) (oL Z (hS465.ldB (j:=3) Z Z Z zd (v:=.slice A321 y212.length c322) Z) (oR Z (fun _=>zV Z Z zA) ?_)))))))
       have q:=bnd hm477
       obtain ⟨⟨x478,x479⟩,h480,hm481⟩:=q
       try dsimp only at hm481
       refine zU 1 Z Z Z Z (zP Z Z Zs (zD Z (zD Z zZ)) Z) hS465 (fun hs=>w_klisterkit_Deck_Draw (⟨l443,x446,x447⟩:T_klisterkit_Deck) pb0 A444 c445 (↑y212.length:Int) W457 φ463 hs h474 h480) (.inl Z) ?_
       rintro φ482 L483 v484 W485 le486 hS487 ⟨A488,c489,rfl,rfl,h490⟩
       let B17:Res:=.blk pb0 194 [.slice A488 x479.bytes.length c489,.int .i64 x479.next,.int .u32 x479.state]
       let B18:Res:=.blk b146 44 [.int .i64 (w64 ((w64 (9 * (↑k102:Int))) + x131)),.slice A321 y212.length c322,.slice A449 l448.length c450]
       let B19:Res:=.row A449 c450 47 3 cs452
       have hS491:St ⟨w,[B0],φ⟩ φ482 [B17,B16,B19,B18,B3,B8,B7,B1] W485:=hS487
       refine oR Z (fun _=>Zf (pv:=[(0,.int .i64 x478)]) (z:=[.int .i64 0,.slice none 0 0,.slice none 0 0]) (cs:=[.int .i64 x478,.slice none 0 0,.slice none 0 0]) Z (mapcons2 Z mapnil2) ZR places47 Z Z) (ZK (cs:=[.int .i64 0,.slice none 0 0,.slice none 0 0]) Z Z Z Z Z ZR Z hS491 ?_)
       intro W492 b493 hS494
       refine zx (j:=0) (vs:=[.int .i64 x478,.slice none 0 0,.slice none 0 0]) Z Z Z Z hS494 Z Z Z Z ZF (zC Z) Z Z Z ?_
       intro W496 hS497
       have hS498:St ⟨w,[B0],φ⟩ φ482 [.blk b493 47 [.int .i64 x478,.slice none 0 0,.slice none 0 0],B17,B16,B19,B18,B3,B8,B7,B1] W496:=hS497
       refine eN (zE (sR fL1 Z (oA Z Z (eN (zS (CK.iter (fun (l566,l570,l575,x578,x579,x580,x581) σ_ w_=>∃ (φ_:PHeap) (A567:Option Addr) (c568:Nat) (A571:Option Addr) (c572:Nat) (cs574:List Value) (A576:Option Addr) (c577:Nat),σ_ 0=.pointer (some ⟨pb0,0,none⟩)∧σ_ 6=.pointer (some ⟨b3,0,none⟩)∧σ_ 7=.pointer (some ⟨b40,0,none⟩)∧σ_ 9=.pointer (some ⟨b146,0,none⟩)∧σ_ 10=.int .i64 x355∧σ_ 11=.int .i64 x580∧σ_ 12=.pointer (some ⟨b493,0,none⟩)∧σ_ 13=.int .i64 x581∧σ_ 22=.int .i64 x46∧σ_ 23=.int .i64 (↑k102:Int)∧PHeap.Le φ482 φ_∧St ⟨w,[B0],φ⟩ φ_ [.row A567 c568 3 1 (List.flatMap KL.encI l566),.row A571 c572 52 1 cs574,.blk b493 47 [.int .i64 x478,.slice A567 l566.length c568,.slice A571 l570.length c572],.blk pb0 194 [.slice A576 l575.length c577,.int .i64 x578,.int .u32 x579],.row A321 c322 3 1 (List.flatMap KL.encI y212),B19,B18,.row A17 c18 3 1 (List.flatMap KL.encI x6.Classes),B8,B7,B1] w_∧RlL φ_ rl52 l570 cs574∧Sl φ_ 1 A576 c577 l575.length (List.flatMap KL.encB8 l575)) hm481 ?_ ?_))))))
       ·have hS582:=hS498.nilrow 3 1
        have hS584:=hS582.nilrow 52 1
        exact ⟨φ482,none,0,none,0,[],A488,c489,f466,f467,f468,f469,f470,f471,rfl,rfl,f472,f473,(zf _),(hS584.pick [1,0,2,3,4,5,6,7,8,9,10] _ (by decide) rfl),RlL.nil,h490⟩
       ·rintro ⟨l566,l570,l575,x578,x579,x580,x581⟩ xx588 σ586 W587 ⟨φ593,A567,c568,A571,c572,cs574,A576,c577,f596,f597,f598,f599,f600,f601,f602,f603,f604,f605,le594,hS595,h606,h607⟩ hx589 hb590
        try dsimp only at hx589
        refine zE (sR fL9 Z (oM Z f603 (oR Z (fun _=>zF Z f598 zL Z ZE) (oR Z (fun _=>zF Z Z zg Z zJ) (oL Z (hS595.ldB (j:=9) Z Z Z zR (v:=.int .i64 x6.Laps) Z) (oR Z (fun _=>zW Z Z Z) (oM Z Z ?_)))))))
        by_cases c608:x581 < x6.Laps
        ·have hm609:=hx589;rw [if_pos c608] at hm609;replace c608:=zG c608
         refine zj Z Z Z (wT Z c608) Z f601 (rU Z (wT Z c608) (fun _=>Zy Z Z Z) (oR Z (fun _=>zM Z (Zb c608.out) Z) (eN (ifc hm609 ?_ ?_))))
         ·intro c610 hm611
          refine cT Z c610 (kN (zE (zS (zE (Zh ZY [3,1004,3,3,1005,3,2,0,3,0,pb0] (fC0_3 (.fx 4 (.fl 5 (.fx 6 (.fx 7 (.fl 8 (.fx 9 (.nil) .stop)) .stop) .stop)) .stop)) (by kernel_rfl) ?_)))))
          have hS644:=hS595.drew
          generalize hw_W645:({ W587 with drawn:=W587.drawn + 1 }:World)=W645 at hS644 ⊢
          refine oR Z (fun _=>zF Z f602 zo Z zN) ?_
          let B20:Res:=.blk b493 47 [.int .i64 x478,.slice A567 l566.length c568,.slice A571 l570.length c572]
          let B21:Res:=.row A567 c568 3 1 (List.flatMap KL.encI l566)
          let B22:Res:=.row A571 c572 52 1 cs574
          refine OKS.mt (T:=[pb0]) [3] [0,1,2,4,5,6,7,8,9,10] [B21,B22,B20,B16,B19,B18,B3,B8,B7,B1] rfl rfl rfl rfl hS644 rfl ⟨⟨3,by decide,_,rfl,rfl⟩,trivial⟩ (by decide) rfl (by decide) (fun _ hZ646=>(hZ646.ldB (j:=2) rfl rfl rfl zd (v:=.slice A567 l566.length c568) rfl)) rfl (zj rfl rfl rfl rfl rfl f600 (zj rfl rfl rfl rfl rfl f596 ?_))
          have q:=bnd hm611
          obtain ⟨⟨x647,x648⟩,h649,hm650⟩:=q
          try dsimp only at hm650
          have hS651:St ⟨w,[B0],φ⟩ φ593 [.blk pb0 194 [.slice A576 l575.length c577,.int .i64 x578,.int .u32 x579],B21,B22,B20,B16,B19,B18,B3,B8,B7,B1] W645:=hS644.pick [3,0,1,2,4,5,6,7,8,9,10] _ (by decide) rfl
          refine OKS.callHT 1 rfl rfl rfl rfl (zP rfl rfl Zs (zD rfl (zD rfl zZ)) rfl) hS651 (fun hs=>w_klisterkit_Deck_Draw (⟨l575,x578,x579⟩:T_klisterkit_Deck) pb0 A576 c577 200 W645 φ593 hs h607 h649) rfl (T:=[pb0]) rfl ⟨fun b h=>(by cases h;exact .head _),trivial⟩ ?_
          rintro φ652 L653 v654 W655 le656 hS657 ⟨A658,c659,rfl,rfl,h660⟩
          let B23:Res:=.blk pb0 194 [.slice A658 x648.bytes.length c659,.int .i64 x648.next,.int .u32 x648.state]
          have hS661:St ⟨w,[B0],φ⟩ φ652 [B23,B21,B22,B20,B16,B19,B18,B3,B8,B7,B1] W655:=hS657
          refine oR Z (fun _=>zY Z Z Z) (ZC (pv:=[(0,.int .i64 (w64 (x355 + x647)))]) (zs:=[.int .i64 0]) (cs:=[.int .i64 (w64 (x355 + x647))]) Z Z Z Z Z (mapcons2 Z mapnil2) zA zJ Zp Z Z Z Z Z hS661 ?_)
          intro W662 b663 hS664
          let B24:Res:=.row (some ⟨b663,0,none⟩) 1 3 1 (List.flatMap KL.encI [w64 (x355 + x647)])
          have hS666:St ⟨w,[B0],φ⟩ φ652 [B24,B23,B21,B22,B20,B16,B19,B18,B3,B8,B7,B1] W662:=hS664
          refine bnK hm650 fun x667 h668 hm669=>Zu (j:=2) (enc:=KL.encI) (xs:=l566) (ys:=[w64 (x355 + x647)]) (zs:=x667) rfl rfl rfl rfl rfl Zc info3 rfl rfl rfl rfl rfl rfl hS666 rfl rfl rfl (hS666.srcR (j:=0) rfl (by decide) (flatMap_len (f:=KL.encI) (sz:=1) (fun _=>rfl) [w64 (x355 + x647)])) (fun _=>rfl) (fun _=>rfl) h668 rfl ?_
          intro A670 c671 W672 hS673
          let B25:Res:=.row A670 c671 3 1 (List.flatMap KL.encI x667)
          have hS674:St ⟨w,[B0],φ⟩ φ652 [B24,B23,B25,B22,B20,B16,B19,B18,B3,B8,B7,B1] W672:=hS673
          refine oR Z (fun _=>zF Z f602 zo Z zN) (zx (j:=4) (vs:=[.slice A670 x667.length c671]) Z Z Z Z hS674 Z Z Z Z zN (zC Z) Z Z Z ?_)
          intro W675 hS676
          let B26:Res:=.blk b493 47 [.int .i64 x478,.slice A670 x667.length c671,.slice A571 l570.length c572]
          have hS677:St ⟨w,[B0],φ⟩ φ652 [B24,B23,B25,B22,B26,B16,B19,B18,B3,B8,B7,B1] W675:=hS676
          refine eN (zE (sR fL2 Z (oM Z f603 (oR Z (fun _=>Zy Z Z Z) (eN (ifc hm669 ?_ ?_))))))
          ·intro c678 hm679
           refine cT Z c678 (Zh ZY [3,1004,3,1005,2,0,3,0,pb0] (fC0_2 (.fx 3 (.fx 4 (.fx 5 (.fl 6 (.fx 7 (.nil) .stop)) .stop) .stop) .stop)) (by kernel_rfl) ?_)
           have hS726:=hS677.drew
           generalize hw_W727:({ W675 with drawn:=W675.drawn + 1 }:World)=W727 at hS726 ⊢
           refine zi rfl rfl rfl rfl (fun _=>zF rfl f602 zo rfl Zm) (OKS.mt (T:=[pb0]) [1] [0,2,3,4,5,6,7,8,9,10,11] [B24,B25,B22,B26,B16,B19,B18,B3,B8,B7,B1] rfl rfl rfl rfl hS726 rfl ⟨⟨1,by decide,_,rfl,rfl⟩,trivial⟩ (by decide) rfl (by decide) (fun _ hZ728=>(hZ728.ldB (j:=3) rfl rfl rfl yG (v:=.slice A571 l570.length c572) rfl)) rfl (zj rfl rfl rfl rfl rfl f596 ?_))
           have q:=bnd hm679
           obtain ⟨⟨x729,x730⟩,h731,hm732⟩:=q
           try dsimp only at hm732
           have hS733:St ⟨w,[B0],φ⟩ φ652 [B23,B24,B25,B22,B26,B16,B19,B18,B3,B8,B7,B1] W727:=hS726.pick [1,0,2,3,4,5,6,7,8,9,10,11] _ (by decide) rfl
           refine OKS.callHT 1 rfl rfl rfl rfl (zP rfl rfl Tryz.call106 (zD rfl zZ) rfl) hS733 (fun hs=>w_klisterlaw08_Fired x648 pb0 A658 c659 W727 φ652 hs h660 h731) rfl (T:=[pb0]) rfl ⟨fun b h=>(by cases h;exact .head _),trivial⟩ ?_
           rintro φ734 L735 v736 W737 le738 hS739 ⟨A740,c741,A742,c743,rfl,rfl,h745⟩
           let B27:Res:=.blk pb0 194 [.slice A742 x730.bytes.length c743,.int .i64 x730.next,.int .u32 x730.state]
           have hS746:St ⟨w,[B0],φ⟩ φ734 [.row A740 c741 4 1 (List.flatMap KL.encT x729),B27,B24,B25,B22,B26,B16,B19,B18,B3,B8,B7,B1] W737:=hS739
           have q:=hS746.freezeR (k:=0) (n:=x729.length) rfl (flatMap_len (f:=KL.encT) (sz:=1) (fun _=>rfl) x729) (by decide)
           obtain ⟨φ750,le751,hs752,hS753⟩:=q
           have hS754:St ⟨w,[B0],φ⟩ φ750 [B27,B24,B25,B22,B26,B16,B19,B18,B3,B8,B7,B1] W737:=hS753
           refine ZC (pv:=[(0,.slice A740 x729.length c741)]) (zs:=[.slice none 0 0]) (cs:=[.slice A740 x729.length c741]) Z Z Z Z Z (mapcons2 Z mapnil2) Zg Tryz.sizeOf52 Tryz.zeroValue52 Z Z Z Z Z hS754 ?_
           intro W747 b748 hS749
           have hr756:RlL φ750 rl52 [x729] [.slice A740 x729.length c741]:=(RlL.cons (R:=rl52) (x:=x729) (vs:=[.slice A740 x729.length c741]) ⟨A740,c741,rfl,hs752⟩ RlL.nil)
           let B28:Res:=.row (some ⟨b748,0,none⟩) 1 52 1 [.slice A740 x729.length c741]
           have hS757:St ⟨w,[B0],φ⟩ φ750 [B28,B27,B24,B25,B22,B26,B16,B19,B18,B3,B8,B7,B1] W747:=hS749
           refine bnK hm732 fun x758 h759 hm760=>?_
           have h767:=h606.le le656
           have h768:=h767.le le738
           have h769:=h768.le le751
           refine Zt (R:=rl52) (j:=4) (xs:=l570) (ys:=[x729]) (zs:=x758) rfl rfl rfl rfl rfl Tryz.underlying45 info52 rfl rfl rfl rfl rfl rfl rfl hS757 rfl rfl rfl h769 hr756 (hS757.srcR (j:=0) rfl (by decide) (RlL.len hr756)) h759 rfl ?_
           intro A761 c762 cs763 W764 hS765 hr766
           have hS770:St ⟨w,[B0],φ⟩ φ750 [B28,B27,B24,B25,.row A761 c762 52 1 cs763,B26,B16,B19,B18,B3,B8,B7,B1] W764:=hS765
           refine oR Z (fun _=>zF Z f602 zo Z Zm) (zx (j:=5) (vs:=[.slice A761 x758.length c762]) Z Z Z Z hS770 Z Z Z Z Zm (zC Z) Z Z Z ?_)
           intro W771 hS772
           have hS773:St ⟨w,[B0],φ⟩ φ750 [B28,B27,B24,B25,.row A761 c762 52 1 cs763,.blk b493 47 [.int .i64 x478,.slice A670 x667.length c671,.slice A761 x758.length c762],B16,B19,B18,B3,B8,B7,B1] W771:=hS772
           refine eN (rR fL3 Z (oM Z f601 (oR Z (fun _=>Za Z Z Z) (oA Z Z (zp (zh (zH (rR fL3 Z (oM Z f603 (oR Z (fun _=>zY Z Z Z) (oA Z Z (zp ?_))))))))))))
           obtain rfl:=Option.some.inj hm760
           have h788:=h745.le le751
           exact zH ⟨rfl,_,rfl,⟨φ750,A670,c671,A761,c762,cs763,A742,c743,f596,f597,f598,f599,f600,rfl,f602,rfl,f604,f605,(((le594.trans le656).trans le738).trans le751),(hS773.pick [3,4,5,1,6,7,8,9,10,11,12] _ (by decide) rfl),hr766,h788⟩⟩
          ·intro c678 hm789
           refine cF Z c678 (kN (rR fL3 Z (oM Z f601 (oR Z (fun _=>Za Z Z Z) (oA Z Z (zp (zh (zH (rR fL3 Z (oM Z f603 (oR Z (fun _=>zY Z Z Z) (oA Z Z (zp ?_)))))))))))))
           obtain rfl:=Option.some.inj hm789
           have h804:=h606.le le656
           exact zH ⟨rfl,_,rfl,⟨φ652,A670,c671,A571,c572,cs574,A658,c659,f596,f597,f598,f599,f600,rfl,f602,rfl,f604,f605,(le594.trans le656),(hS677.pick [2,3,4,1,5,6,7,8,9,10,11] _ (by decide) rfl),h804,h660⟩⟩
         ·intro c610 hm805
          refine cF Z c610 (ZG (ze ?_))
          have q:=esc_spec hm805
          obtain ⟨v806,hm807,e808⟩:=q
          obtain rfl:=hb590 v806 e808
          refine ze (zw (zH (rR (fC0_2 (.fx 3 (.fx 4 (.fl 5 (.fx 6 (.nil) .stop)) .stop) .stop)) Z (oR Z (fun _=>zF Z f599 zk Z ZS) (oL Z (hS595.ldB (j:=6) Z Z Z Zz (v:=.slice A449 l448.length c450) Z) (oL Z (hS595.ldBA (j:=2) Z Z f602 yD ZF (vs:=[.int .i64 x478,.slice A567 l566.length c568,.slice A571 l570.length c572]) Z Z) ?_))))))
          have q:=hS595.freezeR (k:=0) (n:=l566.length) rfl (flatMap_len (f:=KL.encI) (sz:=1) (fun _=>rfl) l566) (by decide)
          obtain ⟨φ812,le813,hs814,hS815⟩:=q
          let B29:Res:=.blk b493 47 [.int .i64 x478,.slice A567 l566.length c568,.slice A571 l570.length c572]
          let B30:Res:=.blk pb0 194 [.slice A576 l575.length c577,.int .i64 x578,.int .u32 x579]
          have hS816:St ⟨w,[B0],φ⟩ φ812 [.row A571 c572 52 1 cs574,B29,B30,B16,B19,B18,B3,B8,B7,B1] W587:=hS815
          have h821:=h606.le le813
          have q:=hS816.freezeRR (R:=rl52) (k:=0) rfl h821 rfl (by decide)
          obtain ⟨φ817,le818,hs819,hS820⟩:=q
          have hS822:St ⟨w,[B0],φ⟩ φ817 [B29,B30,B16,B19,B18,B3,B8,B7,B1] W587:=hS820
          refine ZC (pv:=[(0,.agg #[.int .i64 x478,.slice A567 l566.length c568,.slice A571 l570.length c572])]) (zs:=[.int .i64 0,.slice none 0 0,.slice none 0 0]) (cs:=[.int .i64 x478,.slice A567 l566.length c568,.slice A571 l570.length c572]) Z Z Z Z Z (mapcons2 Z mapnil2) ZJ ZF ZR Z Z Z Z Z hS822 ?_
          intro W809 b810 hS811
          have h824:=hs814.le le818
          have hr825:RlL φ817 rl47 [(⟨x478,l566,l570⟩:T_relay_Leg)] [.int .i64 x478,.slice A567 l566.length c568,.slice A571 l570.length c572]:=(RlL.cons (R:=rl47) (x:=(⟨x478,l566,l570⟩:T_relay_Leg)) (vs:=[.int .i64 x478,.slice A567 l566.length c568,.slice A571 l570.length c572]) ⟨A567,c568,A571,c572,rfl,h824,hs819⟩ RlL.nil)
          let B31:Res:=.row (some ⟨b810,0,none⟩) 1 47 3 [.int .i64 x478,.slice A567 l566.length c568,.slice A571 l570.length c572]
          have hS826:St ⟨w,[B0],φ⟩ φ817 [B31,B29,B30,B16,B19,B18,B3,B8,B7,B1] W809:=hS811
          refine bnK hm807 fun x827 h828 hm829=>?_
          have h836:=h475.le le486
          have h837:=h836.le le594
          have h838:=h837.le le813
          have h839:=h838.le le818
          refine Zt (R:=rl47) (j:=4) (xs:=l448) (ys:=[(⟨x478,l566,l570⟩:T_relay_Leg)]) (zs:=x827) rfl rfl rfl rfl rfl Tryz.underlying42 info47 rfl rfl rfl rfl rfl rfl rfl hS826 rfl rfl rfl h839 hr825 (hS826.srcR (j:=0) rfl (by decide) (RlL.len hr825)) h828 rfl ?_
          intro A830 c831 cs832 W833 hS834 hr835
          have hS840:St ⟨w,[B0],φ⟩ φ817 [B31,B29,B30,B16,.row A830 c831 47 3 cs832,B18,B3,B8,B7,B1] W833:=hS834
          refine oR Z (fun _=>zF Z f599 zk Z ZS) (zx (j:=5) (vs:=[.slice A830 x827.length c831]) Z Z Z Z hS840 Z Z Z Z ZS (zC Z) Z Z Z ?_)
          intro W841 hS842
          have hS843:St ⟨w,[B0],φ⟩ φ817 [B31,B29,B30,B16,.row A830 c831 47 3 cs832,.blk b146 44 [.int .i64 (w64 ((w64 (9 * (↑k102:Int))) + x131)),.slice A321 y212.length c322,.slice A830 x827.length c831],B3,B8,B7,B1] W841:=hS842
          refine zp (zh ?_)
          obtain rfl:=Option.some.inj hm829
          have h854:=h607.le le813
          have h855:=h854.le le818
          exact zH ⟨rfl,_,rfl,⟨φ817,A576,c577,A830,c831,cs832,f596,f597,f598,f599,f600,f601,f604,f605,((((le464.trans le486).trans le594).trans le813).trans le818),(hS843.pick [2,3,4,5,6,7,8,9] _ (by decide) rfl),h855,hr835⟩⟩
        ·have hm856:=hx589;rw [if_neg c608] at hm856;replace c608:=zG c608
         refine oF Z c608 (oF Z c608 (oR Z (fun _=>zl Z (zX c608.out) Z) (eN (zr Z (ZG (ze ?_))))))
         have q:=esc_spec hm856
         obtain ⟨v857,hm858,e859⟩:=q
         obtain rfl:=hb590 v857 e859
         refine ze (zw (zH (rR (fC0_2 (.fx 3 (.fx 4 (.fl 5 (.fx 6 (.nil) .stop)) .stop) .stop)) Z (oR Z (fun _=>zF Z f599 zk Z ZS) (oL Z (hS595.ldB (j:=6) Z Z Z Zz (v:=.slice A449 l448.length c450) Z) (oL Z (hS595.ldBA (j:=2) Z Z f602 yD ZF (vs:=[.int .i64 x478,.slice A567 l566.length c568,.slice A571 l570.length c572]) Z Z) ?_))))))
         have q:=hS595.freezeR (k:=0) (n:=l566.length) rfl (flatMap_len (f:=KL.encI) (sz:=1) (fun _=>rfl) l566) (by decide)
         obtain ⟨φ863,le864,hs865,hS866⟩:=q
         let B32:Res:=.blk b493 47 [.int .i64 x478,.slice A567 l566.length c568,.slice A571 l570.length c572]
         let B33:Res:=.blk pb0 194 [.slice A576 l575.length c577,.int .i64 x578,.int .u32 x579]
         have hS867:St ⟨w,[B0],φ⟩ φ863 [.row A571 c572 52 1 cs574,B32,B33,B16,B19,B18,B3,B8,B7,B1] W587:=hS866
         have h872:=h606.le le864
         have q:=hS867.freezeRR (R:=rl52) (k:=0) rfl h872 rfl (by decide)
         obtain ⟨φ868,le869,hs870,hS871⟩:=q
         have hS873:St ⟨w,[B0],φ⟩ φ868 [B32,B33,B16,B19,B18,B3,B8,B7,B1] W587:=hS871
         refine ZC (pv:=[(0,.agg #[.int .i64 x478,.slice A567 l566.length c568,.slice A571 l570.length c572])]) (zs:=[.int .i64 0,.slice none 0 0,.slice none 0 0]) (cs:=[.int .i64 x478,.slice A567 l566.length c568,.slice A571 l570.length c572]) Z Z Z Z Z (mapcons2 Z mapnil2) ZJ ZF ZR Z Z Z Z Z hS873 ?_
         intro W860 b861 hS862
         have h875:=hs865.le le869
         have hr876:RlL φ868 rl47 [(⟨x478,l566,l570⟩:T_relay_Leg)] [.int .i64 x478,.slice A567 l566.length c568,.slice A571 l570.length c572]:=(RlL.cons (R:=rl47) (x:=(⟨x478,l566,l570⟩:T_relay_Leg)) (vs:=[.int .i64 x478,.slice A567 l566.length c568,.slice A571 l570.length c572]) ⟨A567,c568,A571,c572,rfl,h875,hs870⟩ RlL.nil)
         let B34:Res:=.row (some ⟨b861,0,none⟩) 1 47 3 [.int .i64 x478,.slice A567 l566.length c568,.slice A571 l570.length c572]
         have hS877:St ⟨w,[B0],φ⟩ φ868 [B34,B32,B33,B16,B19,B18,B3,B8,B7,B1] W860:=hS862
         refine bnK hm858 fun x878 h879 hm880=>?_
         have h887:=h475.le le486
         have h888:=h887.le le594
         have h889:=h888.le le864
         have h890:=h889.le le869
         refine Zt (R:=rl47) (j:=4) (xs:=l448) (ys:=[(⟨x478,l566,l570⟩:T_relay_Leg)]) (zs:=x878) rfl rfl rfl rfl rfl Tryz.underlying42 info47 rfl rfl rfl rfl rfl rfl rfl hS877 rfl rfl rfl h890 hr876 (hS877.srcR (j:=0) rfl (by decide) (RlL.len hr876)) h879 rfl ?_
         intro A881 c882 cs883 W884 hS885 hr886
         have hS891:St ⟨w,[B0],φ⟩ φ868 [B34,B32,B33,B16,.row A881 c882 47 3 cs883,B18,B3,B8,B7,B1] W884:=hS885
         refine oR Z (fun _=>zF Z f599 zk Z ZS) (zx (j:=5) (vs:=[.slice A881 x878.length c882]) Z Z Z Z hS891 Z Z Z Z ZS (zC Z) Z Z Z ?_)
         intro W892 hS893
         have hS894:St ⟨w,[B0],φ⟩ φ868 [B34,B32,B33,B16,.row A881 c882 47 3 cs883,.blk b146 44 [.int .i64 (w64 ((w64 (9 * (↑k102:Int))) + x131)),.slice A321 y212.length c322,.slice A881 x878.length c882],B3,B8,B7,B1] W892:=hS893
         refine zp (zh ?_)
         obtain rfl:=Option.some.inj hm880
         have h905:=h607.le le864
         have h906:=h905.le le869
         exact zH ⟨rfl,_,rfl,⟨φ868,A576,c577,A881,c882,cs883,f596,f597,f598,f599,f600,f601,f604,f605,((((le464.trans le486).trans le594).trans le864).trans le869),(hS894.pick [2,3,4,5,6,7,8,9] _ (by decide) rfl),h906,hr886⟩⟩
      ·have hm907:=hx459;rw [if_neg c476] at hm907;replace c476:=zG c476
       refine cF Z c476 (ZG (ze ?_))
       have q:=esc_spec hm907
       obtain ⟨v908,hm909,e910⟩:=q
       obtain rfl:=hb460 v908 e910
       refine ze (zw ?_)
       cases hm909
       exact zH ⟨Z,⟨φ463,A444,c445,A449,c450,cs452,f466,f467,f468,f469,f472,f473,le464,hS465,h474,h475⟩⟩
    ·rintro σ920 W921 ⟨φ922,A400,c401,A405,c406,cs407,f925,f926,f927,f928,f929,f930,le923,hS924,h931,h932⟩
     refine rR (fC0_2 (.fx 3 (.fx 4 (.fl 5 (.fx 6 (.nil) .stop)) .stop) .stop)) Z (oR Z (fun _=>zF Z f927 zL Z ZH) (oL Z (hS924.ldB (j:=6) Z Z Z ZO (v:=.slice A98 l97.length c99) Z) (oL Z (hS924.ldBA (j:=3) Z Z f928 yA ZB (vs:=[.int .i64 (w64 ((w64 (9 * (↑k102:Int))) + x131)),.slice A321 y212.length c322,.slice A405 l404.length c406]) Z Z) ?_)))
     have q:=hS924.freezeR (k:=1) (n:=y212.length) rfl (flatMap_len (f:=KL.encI) (sz:=1) (fun _=>rfl) y212) (by decide)
     obtain ⟨φ936,le937,hs938,hS939⟩:=q
     let B35:Res:=.blk pb0 194 [.slice A400 l399.length c401,.int .i64 x402,.int .u32 x403]
     let B36:Res:=.blk b146 44 [.int .i64 (w64 ((w64 (9 * (↑k102:Int))) + x131)),.slice A321 y212.length c322,.slice A405 l404.length c406]
     have hS940:St ⟨w,[B0],φ⟩ φ936 [B35,.row A405 c406 47 3 cs407,B36,B3,B8,B7,B1] W921:=hS939
     have h945:=h932.le le937
     have q:=hS940.freezeRR (R:=rl47) (k:=1) rfl h945 rfl (by decide)
     obtain ⟨φ941,le942,hs943,hS944⟩:=q
     have hS946:St ⟨w,[B0],φ⟩ φ941 [B35,B36,B3,B8,B7,B1] W921:=hS944
     refine ZC (pv:=[(0,.agg #[.int .i64 (w64 ((w64 (9 * (↑k102:Int))) + x131)),.slice A321 y212.length c322,.slice A405 l404.length c406])]) (zs:=[.int .i64 0,.slice none 0 0,.slice none 0 0]) (cs:=[.int .i64 (w64 ((w64 (9 * (↑k102:Int))) + x131)),.slice A321 y212.length c322,.slice A405 l404.length c406]) Z Z Z Z Z (mapcons2 Z mapnil2) zm ZB Zk Z Z Z Z Z hS946 ?_
     intro W933 b934 hS935
     have h948:=hs938.le le942
     have hr949:RlL φ941 rl44 [(⟨w64 ((w64 (9 * (↑k102:Int))) + x131),y212,l404⟩:T_relay_Team)] [.int .i64 (w64 ((w64 (9 * (↑k102:Int))) + x131)),.slice A321 y212.length c322,.slice A405 l404.length c406]:=(RlL.cons (R:=rl44) (x:=(⟨w64 ((w64 (9 * (↑k102:Int))) + x131),y212,l404⟩:T_relay_Team)) (vs:=[.int .i64 (w64 ((w64 (9 * (↑k102:Int))) + x131)),.slice A321 y212.length c322,.slice A405 l404.length c406]) ⟨A321,c322,A405,c406,rfl,h948,hs943⟩ RlL.nil)
     let B37:Res:=.row (some ⟨b934,0,none⟩) 1 44 3 [.int .i64 (w64 ((w64 (9 * (↑k102:Int))) + x131)),.slice A321 y212.length c322,.slice A405 l404.length c406]
     have hS950:St ⟨w,[B0],φ⟩ φ941 [B37,B35,B36,B3,B8,B7,B1] W933:=hS935
     refine bnK hm410 fun x951 h952 hm953=>?_
     have h960:=h128.le le139
     have h961:=h960.le le161
     have h962:=h961.le le324
     have h963:=h962.le le363
     have h964:=h963.le le377
     have h965:=h964.le le393
     have h966:=h965.le le923
     have h967:=h966.le le937
     have h968:=h967.le le942
     refine Zt (R:=rl44) (j:=4) (xs:=l97) (ys:=[(⟨w64 ((w64 (9 * (↑k102:Int))) + x131),y212,l404⟩:T_relay_Team)]) (zs:=x951) rfl rfl rfl rfl rfl Tryz.underlying26 info44 rfl rfl rfl rfl rfl rfl rfl hS950 rfl rfl rfl h968 hr949 (hS950.srcR (j:=0) rfl (by decide) (RlL.len hr949)) h952 rfl ?_
     intro A954 c955 cs956 W957 hS958 hr959
     have hS969:St ⟨w,[B0],φ⟩ φ941 [B37,B35,B36,B3,.row A954 c955 44 3 cs956,B7,B1] W957:=hS958
     refine oR Z (fun _=>zF Z f927 zL Z ZH) (zx (j:=5) (vs:=[.slice A954 x951.length c955]) Z Z Z Z hS969 Z Z Z Z ZH (zC Z) Z Z Z ?_)
     intro W970 hS971
     have hS972:St ⟨w,[B0],φ⟩ φ941 [B37,B35,B36,B3,.row A954 c955 44 3 cs956,.blk b40 28 [.slice A17 x6.Classes.length c18,.int .i64 x6.Each,.int .i64 x6.Laps,.int .i64 x6.Spare,.int .i64 x6.Loop,.int .i64 x6.Unused,.int .i64 x24,.slice A954 x951.length c955],B1] W970:=hS971
     refine zp (zh (zH (rR fL2 Z (oR Z (fun _=>zz (zY Z f930 Z) (congrArg (Value.int .i64) hi130.out)) (oM Z Z (zp ?_))))))
     cases hm953
     have h982:=h931.le le937
     have h983:=h982.le le942
     exact zH ⟨rfl,⟨φ941,A400,c401,A954,c955,cs956,rfl,f925,f926,f927,f929,(((((((((le121.trans le139).trans le161).trans le324).trans le363).trans le377).trans le393).trans le923).trans le937).trans le942),(hS972.pick [1,3,4,5,6] _ (by decide) rfl),h983,hr959⟩⟩
   ·intro c383 hm984
    refine zr (congrArg Value.bool (Bool.eq_false_iff.2 c383.out)) (kN ?_)
    have q:=bnd hm984
    obtain ⟨⟨l985,x988,x989,l990⟩,hx995,hm996⟩:=q
    try dsimp only at hm996
    refine CK.cut (fun σ_ w_=>∃ (φ_:PHeap) (A986:Option Addr) (c987:Nat) (A991:Option Addr) (c992:Nat) (cs993:List Value),σ_ 0=.pointer (some ⟨pb0,0,none⟩)∧σ_ 6=.pointer (some ⟨b3,0,none⟩)∧σ_ 7=.pointer (some ⟨b40,0,none⟩)∧σ_ 9=.pointer (some ⟨b146,0,none⟩)∧σ_ 22=.int .i64 x46∧σ_ 23=.int .i64 (↑k102:Int)∧PHeap.Le φ373 φ_∧St ⟨w,[B0],φ⟩ φ_ [.blk pb0 194 [.slice A986 l985.length c987,.int .i64 x988,.int .u32 x989],.row A321 c322 3 1 (List.flatMap KL.encI y212),.row A991 c992 47 3 cs993,.blk b146 44 [.int .i64 (w64 ((w64 (9 * (↑k102:Int))) + x131)),.slice A321 y212.length c322,.slice A991 l990.length c992],.row A17 c18 3 1 (List.flatMap KL.encI x6.Classes),B8,B7,B1] w_∧Sl φ_ 1 A986 c987 l985.length (List.flatMap KL.encB8 l985)∧RlL φ_ rl47 l990 cs993) ?_ ?_
    ·refine zS (CK.iter (fun (l1029,x1032,x1033,l1034,x1039) σ_ w_=>∃ (φ_:PHeap) (A1030:Option Addr) (c1031:Nat) (A1035:Option Addr) (c1036:Nat) (cs1038:List Value),σ_ 0=.pointer (some ⟨pb0,0,none⟩)∧σ_ 6=.pointer (some ⟨b3,0,none⟩)∧σ_ 7=.pointer (some ⟨b40,0,none⟩)∧σ_ 9=.pointer (some ⟨b146,0,none⟩)∧σ_ 10=.int .i64 x355∧σ_ 11=.int .i64 x1039∧σ_ 22=.int .i64 x46∧σ_ 23=.int .i64 (↑k102:Int)∧PHeap.Le φ373 φ_∧St ⟨w,[B0],φ⟩ φ_ [.blk pb0 194 [.slice A1030 l1029.length c1031,.int .i64 x1032,.int .u32 x1033],.row A321 c322 3 1 (List.flatMap KL.encI y212),.row A1035 c1036 47 3 cs1038,.blk b146 44 [.int .i64 (w64 ((w64 (9 * (↑k102:Int))) + x131)),.slice A321 y212.length c322,.slice A1035 l1034.length c1036],.row A17 c18 3 1 (List.flatMap KL.encI x6.Classes),B8,B7,B1] w_∧Sl φ_ 1 A1030 c1031 l1029.length (List.flatMap KL.encB8 l1029)∧RlL φ_ rl47 l1034 cs1038) hx995 ?_ ?_)
     ·have hS1040:=hS382.nilrow 47 3
      exact ⟨φ373,A379,c380,none,0,[],f326,f327,f328,f329,rfl,rfl,f330,f331,(zf _),(hS1040.pick [1,2,0,3,4,5,6,7] _ (by decide) rfl),h381,RlL.nil⟩
     ·rintro ⟨l1029,x1032,x1033,l1034,x1039⟩ xx1044 σ1042 W1043 ⟨φ1049,A1030,c1031,A1035,c1036,cs1038,f1052,f1053,f1054,f1055,f1056,f1057,f1058,f1059,le1050,hS1051,h1060,h1061⟩ hx1045 hb1046
      try dsimp only at hx1045
      refine zE (sR fL2 Z (oM Z f1057 (oR Z (fun _=>Zy Z Z Z) (eN ?_))))
      by_cases c1062:0 < x1039
      ·have hm1063:=hx1045;rw [if_pos c1062] at hm1063;replace c1062:=zG c1062
       refine cT Z c1062 (kN (zS (sR (fC0_3 (.fx 4 (.fl 5 (.fx 6 (.fx 7 (.nil) .stop) .stop)) .stop)) Z (oM Z f1052 (oR Z (fun _=>zF Z f1055 zk Z zN) (oL Z (hS1051.ldB (j:=3) Z Z Z zd (v:=.slice A321 y212.length c322) Z) (oR Z (fun _=>zV Z Z zA) ?_)))))))
       have q:=bnd hm1063
       obtain ⟨⟨x1064,x1065⟩,h1066,hm1067⟩:=q
       try dsimp only at hm1067
       refine zU 1 Z Z Z Z (zP Z Z Zs (zD Z (zD Z zZ)) Z) hS1051 (fun hs=>w_klisterkit_Deck_Draw (⟨l1029,x1032,x1033⟩:T_klisterkit_Deck) pb0 A1030 c1031 (↑y212.length:Int) W1043 φ1049 hs h1060 h1066) (.inl Z) ?_
       rintro φ1068 L1069 v1070 W1071 le1072 hS1073 ⟨A1074,c1075,rfl,rfl,h1076⟩
       let B38:Res:=.blk pb0 194 [.slice A1074 x1065.bytes.length c1075,.int .i64 x1065.next,.int .u32 x1065.state]
       let B39:Res:=.blk b146 44 [.int .i64 (w64 ((w64 (9 * (↑k102:Int))) + x131)),.slice A321 y212.length c322,.slice A1035 l1034.length c1036]
       let B40:Res:=.row A1035 c1036 47 3 cs1038
       have hS1077:St ⟨w,[B0],φ⟩ φ1068 [B38,B16,B40,B39,B3,B8,B7,B1] W1071:=hS1073
       refine oR Z (fun _=>Zf (pv:=[(0,.int .i64 x1064)]) (z:=[.int .i64 0,.slice none 0 0,.slice none 0 0]) (cs:=[.int .i64 x1064,.slice none 0 0,.slice none 0 0]) Z (mapcons2 Z mapnil2) ZR places47 Z Z) (ZK (cs:=[.int .i64 0,.slice none 0 0,.slice none 0 0]) Z Z Z Z Z ZR Z hS1077 ?_)
       intro W1078 b1079 hS1080
       refine zx (j:=0) (vs:=[.int .i64 x1064,.slice none 0 0,.slice none 0 0]) Z Z Z Z hS1080 Z Z Z Z ZF (zC Z) Z Z Z ?_
       intro W1082 hS1083
       have hS1084:St ⟨w,[B0],φ⟩ φ1068 [.blk b1079 47 [.int .i64 x1064,.slice none 0 0,.slice none 0 0],B38,B16,B40,B39,B3,B8,B7,B1] W1082:=hS1083
       refine eN (zE (sR fL1 Z (oA Z Z (eN (zS (CK.iter (fun (l1152,l1156,l1161,x1164,x1165,x1166,x1167) σ_ w_=>∃ (φ_:PHeap) (A1153:Option Addr) (c1154:Nat) (A1157:Option Addr) (c1158:Nat) (cs1160:List Value) (A1162:Option Addr) (c1163:Nat),σ_ 0=.pointer (some ⟨pb0,0,none⟩)∧σ_ 6=.pointer (some ⟨b3,0,none⟩)∧σ_ 7=.pointer (some ⟨b40,0,none⟩)∧σ_ 9=.pointer (some ⟨b146,0,none⟩)∧σ_ 10=.int .i64 x355∧σ_ 11=.int .i64 x1166∧σ_ 12=.pointer (some ⟨b1079,0,none⟩)∧σ_ 13=.int .i64 x1167∧σ_ 22=.int .i64 x46∧σ_ 23=.int .i64 (↑k102:Int)∧PHeap.Le φ1068 φ_∧St ⟨w,[B0],φ⟩ φ_ [.row A1153 c1154 3 1 (List.flatMap KL.encI l1152),.row A1157 c1158 52 1 cs1160,.blk b1079 47 [.int .i64 x1064,.slice A1153 l1152.length c1154,.slice A1157 l1156.length c1158],.blk pb0 194 [.slice A1162 l1161.length c1163,.int .i64 x1164,.int .u32 x1165],.row A321 c322 3 1 (List.flatMap KL.encI y212),B40,B39,.row A17 c18 3 1 (List.flatMap KL.encI x6.Classes),B8,B7,B1] w_∧RlL φ_ rl52 l1156 cs1160∧Sl φ_ 1 A1162 c1163 l1161.length (List.flatMap KL.encB8 l1161)) hm1067 ?_ ?_))))))
       ·have hS1168:=hS1084.nilrow 3 1
        have hS1170:=hS1168.nilrow 52 1
        exact ⟨φ1068,none,0,none,0,[],A1074,c1075,f1052,f1053,f1054,f1055,f1056,f1057,rfl,rfl,f1058,f1059,(zf _),(hS1170.pick [1,0,2,3,4,5,6,7,8,9,10] _ (by decide) rfl),RlL.nil,h1076⟩
       ·rintro ⟨l1152,l1156,l1161,x1164,x1165,x1166,x1167⟩ xx1174 σ1172 W1173 ⟨φ1179,A1153,c1154,A1157,c1158,cs1160,A1162,c1163,f1182,f1183,f1184,f1185,f1186,f1187,f1188,f1189,f1190,f1191,le1180,hS1181,h1192,h1193⟩ hx1175 hb1176
        try dsimp only at hx1175
        refine zE (sR fL9 Z (oM Z f1189 (oR Z (fun _=>zF Z f1184 zL Z ZE) (oR Z (fun _=>zF Z Z zg Z zJ) (oL Z (hS1181.ldB (j:=9) Z Z Z zR (v:=.int .i64 x6.Laps) Z) (oR Z (fun _=>zW Z Z Z) (oM Z Z ?_)))))))
        by_cases c1194:x1167 < x6.Laps
        ·have hm1195:=hx1175;rw [if_pos c1194] at hm1195;replace c1194:=zG c1194
         refine zj Z Z Z (wT Z c1194) Z f1187 (rU Z (wT Z c1194) (fun _=>Zy Z Z Z) (oR Z (fun _=>zM Z (Zb c1194.out) Z) (eN (ifc hm1195 ?_ ?_))))
         ·intro c1196 hm1197
          refine cT Z c1196 (kN (zE (zS (zE (Zh ZY [3,1004,3,3,1005,3,2,0,3,0,pb0] (fC0_3 (.fx 4 (.fl 5 (.fx 6 (.fx 7 (.fl 8 (.fx 9 (.nil) .stop)) .stop) .stop)) .stop)) (by kernel_rfl) ?_)))))
          have hS1230:=hS1181.drew
          generalize hw_W1231:({ W1173 with drawn:=W1173.drawn + 1 }:World)=W1231 at hS1230 ⊢
          refine oR Z (fun _=>zF Z f1188 zo Z zN) ?_
          let B41:Res:=.blk b1079 47 [.int .i64 x1064,.slice A1153 l1152.length c1154,.slice A1157 l1156.length c1158]
          let B42:Res:=.row A1153 c1154 3 1 (List.flatMap KL.encI l1152)
          let B43:Res:=.row A1157 c1158 52 1 cs1160
          refine OKS.mt (T:=[pb0]) [3] [0,1,2,4,5,6,7,8,9,10] [B42,B43,B41,B16,B40,B39,B3,B8,B7,B1] rfl rfl rfl rfl hS1230 rfl ⟨⟨3,by decide,_,rfl,rfl⟩,trivial⟩ (by decide) rfl (by decide) (fun _ hZ1232=>(hZ1232.ldB (j:=2) rfl rfl rfl zd (v:=.slice A1153 l1152.length c1154) rfl)) rfl (zj rfl rfl rfl rfl rfl f1186 (zj rfl rfl rfl rfl rfl f1182 ?_))
          have q:=bnd hm1197
          obtain ⟨⟨x1233,x1234⟩,h1235,hm1236⟩:=q
          try dsimp only at hm1236
          have hS1237:St ⟨w,[B0],φ⟩ φ1179 [.blk pb0 194 [.slice A1162 l1161.length c1163,.int .i64 x1164,.int .u32 x1165],B42,B43,B41,B16,B40,B39,B3,B8,B7,B1] W1231:=hS1230.pick [3,0,1,2,4,5,6,7,8,9,10] _ (by decide) rfl
          refine OKS.callHT 1 rfl rfl rfl rfl (zP rfl rfl Zs (zD rfl (zD rfl zZ)) rfl) hS1237 (fun hs=>w_klisterkit_Deck_Draw (⟨l1161,x1164,x1165⟩:T_klisterkit_Deck) pb0 A1162 c1163 200 W1231 φ1179 hs h1193 h1235) rfl (T:=[pb0]) rfl ⟨fun b h=>(by cases h;exact .head _),trivial⟩ ?_
          rintro φ1238 L1239 v1240 W1241 le1242 hS1243 ⟨A1244,c1245,rfl,rfl,h1246⟩
          let B44:Res:=.blk pb0 194 [.slice A1244 x1234.bytes.length c1245,.int .i64 x1234.next,.int .u32 x1234.state]
          have hS1247:St ⟨w,[B0],φ⟩ φ1238 [B44,B42,B43,B41,B16,B40,B39,B3,B8,B7,B1] W1241:=hS1243
          refine oR Z (fun _=>zY Z Z Z) (ZC (pv:=[(0,.int .i64 (w64 (x355 + x1233)))]) (zs:=[.int .i64 0]) (cs:=[.int .i64 (w64 (x355 + x1233))]) Z Z Z Z Z (mapcons2 Z mapnil2) zA zJ Zp Z Z Z Z Z hS1247 ?_)
          intro W1248 b1249 hS1250
          let B45:Res:=.row (some ⟨b1249,0,none⟩) 1 3 1 (List.flatMap KL.encI [w64 (x355 + x1233)])
          have hS1252:St ⟨w,[B0],φ⟩ φ1238 [B45,B44,B42,B43,B41,B16,B40,B39,B3,B8,B7,B1] W1248:=hS1250
          refine bnK hm1236 fun x1253 h1254 hm1255=>Zu (j:=2) (enc:=KL.encI) (xs:=l1152) (ys:=[w64 (x355 + x1233)]) (zs:=x1253) rfl rfl rfl rfl rfl Zc info3 rfl rfl rfl rfl rfl rfl hS1252 rfl rfl rfl (hS1252.srcR (j:=0) rfl (by decide) (flatMap_len (f:=KL.encI) (sz:=1) (fun _=>rfl) [w64 (x355 + x1233)])) (fun _=>rfl) (fun _=>rfl) h1254 rfl ?_
          intro A1256 c1257 W1258 hS1259
          let B46:Res:=.row A1256 c1257 3 1 (List.flatMap KL.encI x1253)
          have hS1260:St ⟨w,[B0],φ⟩ φ1238 [B45,B44,B46,B43,B41,B16,B40,B39,B3,B8,B7,B1] W1258:=hS1259
          refine oR Z (fun _=>zF Z f1188 zo Z zN) (zx (j:=4) (vs:=[.slice A1256 x1253.length c1257]) Z Z Z Z hS1260 Z Z Z Z zN (zC Z) Z Z Z ?_)
          intro W1261 hS1262
          let B47:Res:=.blk b1079 47 [.int .i64 x1064,.slice A1256 x1253.length c1257,.slice A1157 l1156.length c1158]
          have hS1263:St ⟨w,[B0],φ⟩ φ1238 [B45,B44,B46,B43,B47,B16,B40,B39,B3,B8,B7,B1] W1261:=hS1262
          refine eN (zE (sR fL2 Z (oM Z f1189 (oR Z (fun _=>Zy Z Z Z) (eN (ifc hm1255 ?_ ?_))))))
          ·intro c1264 hm1265
           refine cT Z c1264 (Zh ZY [3,1004,3,1005,2,0,3,0,pb0] (fC0_2 (.fx 3 (.fx 4 (.fx 5 (.fl 6 (.fx 7 (.nil) .stop)) .stop) .stop) .stop)) (by kernel_rfl) ?_)
           have hS1312:=hS1263.drew
           generalize hw_W1313:({ W1261 with drawn:=W1261.drawn + 1 }:World)=W1313 at hS1312 ⊢
           refine zi rfl rfl rfl rfl (fun _=>zF rfl f1188 zo rfl Zm) (OKS.mt (T:=[pb0]) [1] [0,2,3,4,5,6,7,8,9,10,11] [B45,B46,B43,B47,B16,B40,B39,B3,B8,B7,B1] rfl rfl rfl rfl hS1312 rfl ⟨⟨1,by decide,_,rfl,rfl⟩,trivial⟩ (by decide) rfl (by decide) (fun _ hZ1314=>(hZ1314.ldB (j:=3) rfl rfl rfl yG (v:=.slice A1157 l1156.length c1158) rfl)) rfl (zj rfl rfl rfl rfl rfl f1182 ?_))
           have q:=bnd hm1265
           obtain ⟨⟨x1315,x1316⟩,h1317,hm1318⟩:=q
           try dsimp only at hm1318
           have hS1319:St ⟨w,[B0],φ⟩ φ1238 [B44,B45,B46,B43,B47,B16,B40,B39,B3,B8,B7,B1] W1313:=hS1312.pick [1,0,2,3,4,5,6,7,8,9,10,11] _ (by decide) rfl
           refine OKS.callHT 1 rfl rfl rfl rfl (zP rfl rfl Tryz.call106 (zD rfl zZ) rfl) hS1319 (fun hs=>w_klisterlaw08_Fired x1234 pb0 A1244 c1245 W1313 φ1238 hs h1246 h1317) rfl (T:=[pb0]) rfl ⟨fun b h=>(by cases h;exact .head _),trivial⟩ ?_
           rintro φ1320 L1321 v1322 W1323 le1324 hS1325 ⟨A1326,c1327,A1328,c1329,rfl,rfl,h1331⟩
           let B48:Res:=.blk pb0 194 [.slice A1328 x1316.bytes.length c1329,.int .i64 x1316.next,.int .u32 x1316.state]
           have hS1332:St ⟨w,[B0],φ⟩ φ1320 [.row A1326 c1327 4 1 (List.flatMap KL.encT x1315),B48,B45,B46,B43,B47,B16,B40,B39,B3,B8,B7,B1] W1323:=hS1325
           have q:=hS1332.freezeR (k:=0) (n:=x1315.length) rfl (flatMap_len (f:=KL.encT) (sz:=1) (fun _=>rfl) x1315) (by decide)
           obtain ⟨φ1336,le1337,hs1338,hS1339⟩:=q
           have hS1340:St ⟨w,[B0],φ⟩ φ1336 [B48,B45,B46,B43,B47,B16,B40,B39,B3,B8,B7,B1] W1323:=hS1339
           refine ZC (pv:=[(0,.slice A1326 x1315.length c1327)]) (zs:=[.slice none 0 0]) (cs:=[.slice A1326 x1315.length c1327]) Z Z Z Z Z (mapcons2 Z mapnil2) Zg Tryz.sizeOf52 Tryz.zeroValue52 Z Z Z Z Z hS1340 ?_
           intro W1333 b1334 hS1335
           have hr1342:RlL φ1336 rl52 [x1315] [.slice A1326 x1315.length c1327]:=(RlL.cons (R:=rl52) (x:=x1315) (vs:=[.slice A1326 x1315.length c1327]) ⟨A1326,c1327,rfl,hs1338⟩ RlL.nil)
           let B49:Res:=.row (some ⟨b1334,0,none⟩) 1 52 1 [.slice A1326 x1315.length c1327]
           have hS1343:St ⟨w,[B0],φ⟩ φ1336 [B49,B48,B45,B46,B43,B47,B16,B40,B39,B3,B8,B7,B1] W1333:=hS1335
           refine bnK hm1318 fun x1344 h1345 hm1346=>?_
           have h1353:=h1192.le le1242
           have h1354:=h1353.le le1324
           have h1355:=h1354.le le1337
           refine Zt (R:=rl52) (j:=4) (xs:=l1156) (ys:=[x1315]) (zs:=x1344) rfl rfl rfl rfl rfl Tryz.underlying45 info52 rfl rfl rfl rfl rfl rfl rfl hS1343 rfl rfl rfl h1355 hr1342 (hS1343.srcR (j:=0) rfl (by decide) (RlL.len hr1342)) h1345 rfl ?_
           intro A1347 c1348 cs1349 W1350 hS1351 hr1352
           have hS1356:St ⟨w,[B0],φ⟩ φ1336 [B49,B48,B45,B46,.row A1347 c1348 52 1 cs1349,B47,B16,B40,B39,B3,B8,B7,B1] W1350:=hS1351
           refine oR Z (fun _=>zF Z f1188 zo Z Zm) (zx (j:=5) (vs:=[.slice A1347 x1344.length c1348]) Z Z Z Z hS1356 Z Z Z Z Zm (zC Z) Z Z Z ?_)
           intro W1357 hS1358
           have hS1359:St ⟨w,[B0],φ⟩ φ1336 [B49,B48,B45,B46,.row A1347 c1348 52 1 cs1349,.blk b1079 47 [.int .i64 x1064,.slice A1256 x1253.length c1257,.slice A1347 x1344.length c1348],B16,B40,B39,B3,B8,B7,B1] W1357:=hS1358
           refine eN (rR fL3 Z (oM Z f1187 (oR Z (fun _=>Za Z Z Z) (oA Z Z (zp (zh (zH (rR fL3 Z (oM Z f1189 (oR Z (fun _=>zY Z Z Z) (oA Z Z (zp ?_))))))))))))
           obtain rfl:=Option.some.inj hm1346
           have h1374:=h1331.le le1337
           exact zH ⟨rfl,_,rfl,⟨φ1336,A1256,c1257,A1347,c1348,cs1349,A1328,c1329,f1182,f1183,f1184,f1185,f1186,rfl,f1188,rfl,f1190,f1191,(((le1180.trans le1242).trans le1324).trans le1337),(hS1359.pick [3,4,5,1,6,7,8,9,10,11,12] _ (by decide) rfl),hr1352,h1374⟩⟩
          ·intro c1264 hm1375
           refine cF Z c1264 (kN (rR fL3 Z (oM Z f1187 (oR Z (fun _=>Za Z Z Z) (oA Z Z (zp (zh (zH (rR fL3 Z (oM Z f1189 (oR Z (fun _=>zY Z Z Z) (oA Z Z (zp ?_)))))))))))))
           obtain rfl:=Option.some.inj hm1375
           have h1390:=h1192.le le1242
           exact zH ⟨rfl,_,rfl,⟨φ1238,A1256,c1257,A1157,c1158,cs1160,A1244,c1245,f1182,f1183,f1184,f1185,f1186,rfl,f1188,rfl,f1190,f1191,(le1180.trans le1242),(hS1263.pick [2,3,4,1,5,6,7,8,9,10,11] _ (by decide) rfl),h1390,h1246⟩⟩
         ·intro c1196 hm1391
          refine cF Z c1196 (ZG (ze ?_))
          have q:=esc_spec hm1391
          obtain ⟨v1392,hm1393,e1394⟩:=q
          obtain rfl:=hb1176 v1392 e1394
          refine ze (zw (zH (rR (fC0_2 (.fx 3 (.fx 4 (.fl 5 (.fx 6 (.nil) .stop)) .stop) .stop)) Z (oR Z (fun _=>zF Z f1185 zk Z ZS) (oL Z (hS1181.ldB (j:=6) Z Z Z Zz (v:=.slice A1035 l1034.length c1036) Z) (oL Z (hS1181.ldBA (j:=2) Z Z f1188 yD ZF (vs:=[.int .i64 x1064,.slice A1153 l1152.length c1154,.slice A1157 l1156.length c1158]) Z Z) ?_))))))
          have q:=hS1181.freezeR (k:=0) (n:=l1152.length) rfl (flatMap_len (f:=KL.encI) (sz:=1) (fun _=>rfl) l1152) (by decide)
          obtain ⟨φ1398,le1399,hs1400,hS1401⟩:=q
          let B50:Res:=.blk b1079 47 [.int .i64 x1064,.slice A1153 l1152.length c1154,.slice A1157 l1156.length c1158]
          let B51:Res:=.blk pb0 194 [.slice A1162 l1161.length c1163,.int .i64 x1164,.int .u32 x1165]
          have hS1402:St ⟨w,[B0],φ⟩ φ1398 [.row A1157 c1158 52 1 cs1160,B50,B51,B16,B40,B39,B3,B8,B7,B1] W1173:=hS1401
          have h1407:=h1192.le le1399
          have q:=hS1402.freezeRR (R:=rl52) (k:=0) rfl h1407 rfl (by decide)
          obtain ⟨φ1403,le1404,hs1405,hS1406⟩:=q
          have hS1408:St ⟨w,[B0],φ⟩ φ1403 [B50,B51,B16,B40,B39,B3,B8,B7,B1] W1173:=hS1406
          refine ZC (pv:=[(0,.agg #[.int .i64 x1064,.slice A1153 l1152.length c1154,.slice A1157 l1156.length c1158])]) (zs:=[.int .i64 0,.slice none 0 0,.slice none 0 0]) (cs:=[.int .i64 x1064,.slice A1153 l1152.length c1154,.slice A1157 l1156.length c1158]) Z Z Z Z Z (mapcons2 Z mapnil2) ZJ ZF ZR Z Z Z Z Z hS1408 ?_
          intro W1395 b1396 hS1397
          have h1410:=hs1400.le le1404
          have hr1411:RlL φ1403 rl47 [(⟨x1064,l1152,l1156⟩:T_relay_Leg)] [.int .i64 x1064,.slice A1153 l1152.length c1154,.slice A1157 l1156.length c1158]:=(RlL.cons (R:=rl47) (x:=(⟨x1064,l1152,l1156⟩:T_relay_Leg)) (vs:=[.int .i64 x1064,.slice A1153 l1152.length c1154,.slice A1157 l1156.length c1158]) ⟨A1153,c1154,A1157,c1158,rfl,h1410,hs1405⟩ RlL.nil)
          let B52:Res:=.row (some ⟨b1396,0,none⟩) 1 47 3 [.int .i64 x1064,.slice A1153 l1152.length c1154,.slice A1157 l1156.length c1158]
          have hS1412:St ⟨w,[B0],φ⟩ φ1403 [B52,B50,B51,B16,B40,B39,B3,B8,B7,B1] W1395:=hS1397
          refine bnK hm1393 fun x1413 h1414 hm1415=>?_
          have h1422:=h1061.le le1072
          have h1423:=h1422.le le1180
          have h1424:=h1423.le le1399
          have h1425:=h1424.le le1404
          refine Zt (R:=rl47) (j:=4) (xs:=l1034) (ys:=[(⟨x1064,l1152,l1156⟩:T_relay_Leg)]) (zs:=x1413) rfl rfl rfl rfl rfl Tryz.underlying42 info47 rfl rfl rfl rfl rfl rfl rfl hS1412 rfl rfl rfl h1425 hr1411 (hS1412.srcR (j:=0) rfl (by decide) (RlL.len hr1411)) h1414 rfl ?_
          intro A1416 c1417 cs1418 W1419 hS1420 hr1421
          have hS1426:St ⟨w,[B0],φ⟩ φ1403 [B52,B50,B51,B16,.row A1416 c1417 47 3 cs1418,B39,B3,B8,B7,B1] W1419:=hS1420
          refine oR Z (fun _=>zF Z f1185 zk Z ZS) (zx (j:=5) (vs:=[.slice A1416 x1413.length c1417]) Z Z Z Z hS1426 Z Z Z Z ZS (zC Z) Z Z Z ?_)
          intro W1427 hS1428
          have hS1429:St ⟨w,[B0],φ⟩ φ1403 [B52,B50,B51,B16,.row A1416 c1417 47 3 cs1418,.blk b146 44 [.int .i64 (w64 ((w64 (9 * (↑k102:Int))) + x131)),.slice A321 y212.length c322,.slice A1416 x1413.length c1417],B3,B8,B7,B1] W1427:=hS1428
          refine zp (zh ?_)
          obtain rfl:=Option.some.inj hm1415
          have h1440:=h1193.le le1399
          have h1441:=h1440.le le1404
          exact zH ⟨rfl,_,rfl,⟨φ1403,A1162,c1163,A1416,c1417,cs1418,f1182,f1183,f1184,f1185,f1186,f1187,f1190,f1191,((((le1050.trans le1072).trans le1180).trans le1399).trans le1404),(hS1429.pick [2,3,4,5,6,7,8,9] _ (by decide) rfl),h1441,hr1421⟩⟩
        ·have hm1442:=hx1175;rw [if_neg c1194] at hm1442;replace c1194:=zG c1194
         refine oF Z c1194 (oF Z c1194 (oR Z (fun _=>zl Z (zX c1194.out) Z) (eN (zr Z (ZG (ze ?_))))))
         have q:=esc_spec hm1442
         obtain ⟨v1443,hm1444,e1445⟩:=q
         obtain rfl:=hb1176 v1443 e1445
         refine ze (zw (zH (rR (fC0_2 (.fx 3 (.fx 4 (.fl 5 (.fx 6 (.nil) .stop)) .stop) .stop)) Z (oR Z (fun _=>zF Z f1185 zk Z ZS) (oL Z (hS1181.ldB (j:=6) Z Z Z Zz (v:=.slice A1035 l1034.length c1036) Z) (oL Z (hS1181.ldBA (j:=2) Z Z f1188 yD ZF (vs:=[.int .i64 x1064,.slice A1153 l1152.length c1154,.slice A1157 l1156.length c1158]) Z Z) ?_))))))
         have q:=hS1181.freezeR (k:=0) (n:=l1152.length) rfl (flatMap_len (f:=KL.encI) (sz:=1) (fun _=>rfl) l1152) (by decide)
         obtain ⟨φ1449,le1450,hs1451,hS1452⟩:=q
         let B53:Res:=.blk b1079 47 [.int .i64 x1064,.slice A1153 l1152.length c1154,.slice A1157 l1156.length c1158]
         let B54:Res:=.blk pb0 194 [.slice A1162 l1161.length c1163,.int .i64 x1164,.int .u32 x1165]
         have hS1453:St ⟨w,[B0],φ⟩ φ1449 [.row A1157 c1158 52 1 cs1160,B53,B54,B16,B40,B39,B3,B8,B7,B1] W1173:=hS1452
         have h1458:=h1192.le le1450
         have q:=hS1453.freezeRR (R:=rl52) (k:=0) rfl h1458 rfl (by decide)
         obtain ⟨φ1454,le1455,hs1456,hS1457⟩:=q
         have hS1459:St ⟨w,[B0],φ⟩ φ1454 [B53,B54,B16,B40,B39,B3,B8,B7,B1] W1173:=hS1457
         refine ZC (pv:=[(0,.agg #[.int .i64 x1064,.slice A1153 l1152.length c1154,.slice A1157 l1156.length c1158])]) (zs:=[.int .i64 0,.slice none 0 0,.slice none 0 0]) (cs:=[.int .i64 x1064,.slice A1153 l1152.length c1154,.slice A1157 l1156.length c1158]) Z Z Z Z Z (mapcons2 Z mapnil2) ZJ ZF ZR Z Z Z Z Z hS1459 ?_
         intro W1446 b1447 hS1448
         have h1461:=hs1451.le le1455
         have hr1462:RlL φ1454 rl47 [(⟨x1064,l1152,l1156⟩:T_relay_Leg)] [.int .i64 x1064,.slice A1153 l1152.length c1154,.slice A1157 l1156.length c1158]:=(RlL.cons (R:=rl47) (x:=(⟨x1064,l1152,l1156⟩:T_relay_Leg)) (vs:=[.int .i64 x1064,.slice A1153 l1152.length c1154,.slice A1157 l1156.length c1158]) ⟨A1153,c1154,A1157,c1158,rfl,h1461,hs1456⟩ RlL.nil)
         let B55:Res:=.row (some ⟨b1447,0,none⟩) 1 47 3 [.int .i64 x1064,.slice A1153 l1152.length c1154,.slice A1157 l1156.length c1158]
         have hS1463:St ⟨w,[B0],φ⟩ φ1454 [B55,B53,B54,B16,B40,B39,B3,B8,B7,B1] W1446:=hS1448
         refine bnK hm1444 fun x1464 h1465 hm1466=>?_
         have h1473:=h1061.le le1072
         have h1474:=h1473.le le1180
         have h1475:=h1474.le le1450
         have h1476:=h1475.le le1455
         refine Zt (R:=rl47) (j:=4) (xs:=l1034) (ys:=[(⟨x1064,l1152,l1156⟩:T_relay_Leg)]) (zs:=x1464) rfl rfl rfl rfl rfl Tryz.underlying42 info47 rfl rfl rfl rfl rfl rfl rfl hS1463 rfl rfl rfl h1476 hr1462 (hS1463.srcR (j:=0) rfl (by decide) (RlL.len hr1462)) h1465 rfl ?_
         intro A1467 c1468 cs1469 W1470 hS1471 hr1472
         have hS1477:St ⟨w,[B0],φ⟩ φ1454 [B55,B53,B54,B16,.row A1467 c1468 47 3 cs1469,B39,B3,B8,B7,B1] W1470:=hS1471
         refine oR Z (fun _=>zF Z f1185 zk Z ZS) (zx (j:=5) (vs:=[.slice A1467 x1464.length c1468]) Z Z Z Z hS1477 Z Z Z Z ZS (zC Z) Z Z Z ?_)
         intro W1478 hS1479
         have hS1480:St ⟨w,[B0],φ⟩ φ1454 [B55,B53,B54,B16,.row A1467 c1468 47 3 cs1469,.blk b146 44 [.int .i64 (w64 ((w64 (9 * (↑k102:Int))) + x131)),.slice A321 y212.length c322,.slice A1467 x1464.length c1468],B3,B8,B7,B1] W1478:=hS1479
         refine zp (zh ?_)
         obtain rfl:=Option.some.inj hm1466
         have h1491:=h1193.le le1450
         have h1492:=h1491.le le1455
         exact zH ⟨rfl,_,rfl,⟨φ1454,A1162,c1163,A1467,c1468,cs1469,f1182,f1183,f1184,f1185,f1186,f1187,f1190,f1191,((((le1050.trans le1072).trans le1180).trans le1450).trans le1455),(hS1480.pick [2,3,4,5,6,7,8,9] _ (by decide) rfl),h1492,hr1472⟩⟩
      ·have hm1493:=hx1045;rw [if_neg c1062] at hm1493;replace c1062:=zG c1062
       refine cF Z c1062 (ZG (ze ?_))
       have q:=esc_spec hm1493
       obtain ⟨v1494,hm1495,e1496⟩:=q
       obtain rfl:=hb1046 v1494 e1496
       refine ze (zw ?_)
       cases hm1495
       exact zH ⟨Z,⟨φ1049,A1030,c1031,A1035,c1036,cs1038,f1052,f1053,f1054,f1055,f1058,f1059,le1050,hS1051,h1060,h1061⟩⟩
    ·rintro σ1506 W1507 ⟨φ1508,A986,c987,A991,c992,cs993,f1511,f1512,f1513,f1514,f1515,f1516,le1509,hS1510,h1517,h1518⟩
     refine rR (fC0_2 (.fx 3 (.fx 4 (.fl 5 (.fx 6 (.nil) .stop)) .stop) .stop)) Z (oR Z (fun _=>zF Z f1513 zL Z ZH) (oL Z (hS1510.ldB (j:=6) Z Z Z ZO (v:=.slice A98 l97.length c99) Z) (oL Z (hS1510.ldBA (j:=3) Z Z f1514 yA ZB (vs:=[.int .i64 (w64 ((w64 (9 * (↑k102:Int))) + x131)),.slice A321 y212.length c322,.slice A991 l990.length c992]) Z Z) ?_)))
     have q:=hS1510.freezeR (k:=1) (n:=y212.length) rfl (flatMap_len (f:=KL.encI) (sz:=1) (fun _=>rfl) y212) (by decide)
     obtain ⟨φ1522,le1523,hs1524,hS1525⟩:=q
     let B56:Res:=.blk pb0 194 [.slice A986 l985.length c987,.int .i64 x988,.int .u32 x989]
     let B57:Res:=.blk b146 44 [.int .i64 (w64 ((w64 (9 * (↑k102:Int))) + x131)),.slice A321 y212.length c322,.slice A991 l990.length c992]
     have hS1526:St ⟨w,[B0],φ⟩ φ1522 [B56,.row A991 c992 47 3 cs993,B57,B3,B8,B7,B1] W1507:=hS1525
     have h1531:=h1518.le le1523
     have q:=hS1526.freezeRR (R:=rl47) (k:=1) rfl h1531 rfl (by decide)
     obtain ⟨φ1527,le1528,hs1529,hS1530⟩:=q
     have hS1532:St ⟨w,[B0],φ⟩ φ1527 [B56,B57,B3,B8,B7,B1] W1507:=hS1530
     refine ZC (pv:=[(0,.agg #[.int .i64 (w64 ((w64 (9 * (↑k102:Int))) + x131)),.slice A321 y212.length c322,.slice A991 l990.length c992])]) (zs:=[.int .i64 0,.slice none 0 0,.slice none 0 0]) (cs:=[.int .i64 (w64 ((w64 (9 * (↑k102:Int))) + x131)),.slice A321 y212.length c322,.slice A991 l990.length c992]) Z Z Z Z Z (mapcons2 Z mapnil2) zm ZB Zk Z Z Z Z Z hS1532 ?_
     intro W1519 b1520 hS1521
     have h1534:=hs1524.le le1528
     have hr1535:RlL φ1527 rl44 [(⟨w64 ((w64 (9 * (↑k102:Int))) + x131),y212,l990⟩:T_relay_Team)] [.int .i64 (w64 ((w64 (9 * (↑k102:Int))) + x131)),.slice A321 y212.length c322,.slice A991 l990.length c992]:=(RlL.cons (R:=rl44) (x:=(⟨w64 ((w64 (9 * (↑k102:Int))) + x131),y212,l990⟩:T_relay_Team)) (vs:=[.int .i64 (w64 ((w64 (9 * (↑k102:Int))) + x131)),.slice A321 y212.length c322,.slice A991 l990.length c992]) ⟨A321,c322,A991,c992,rfl,h1534,hs1529⟩ RlL.nil)
     let B58:Res:=.row (some ⟨b1520,0,none⟩) 1 44 3 [.int .i64 (w64 ((w64 (9 * (↑k102:Int))) + x131)),.slice A321 y212.length c322,.slice A991 l990.length c992]
     have hS1536:St ⟨w,[B0],φ⟩ φ1527 [B58,B56,B57,B3,B8,B7,B1] W1519:=hS1521
     refine bnK hm996 fun x1537 h1538 hm1539=>?_
     have h1546:=h128.le le139
     have h1547:=h1546.le le161
     have h1548:=h1547.le le324
     have h1549:=h1548.le le363
     have h1550:=h1549.le le377
     have h1551:=h1550.le le1509
     have h1552:=h1551.le le1523
     have h1553:=h1552.le le1528
     refine Zt (R:=rl44) (j:=4) (xs:=l97) (ys:=[(⟨w64 ((w64 (9 * (↑k102:Int))) + x131),y212,l990⟩:T_relay_Team)]) (zs:=x1537) rfl rfl rfl rfl rfl Tryz.underlying26 info44 rfl rfl rfl rfl rfl rfl rfl hS1536 rfl rfl rfl h1553 hr1535 (hS1536.srcR (j:=0) rfl (by decide) (RlL.len hr1535)) h1538 rfl ?_
     intro A1540 c1541 cs1542 W1543 hS1544 hr1545
     have hS1554:St ⟨w,[B0],φ⟩ φ1527 [B58,B56,B57,B3,.row A1540 c1541 44 3 cs1542,B7,B1] W1543:=hS1544
     refine oR Z (fun _=>zF Z f1513 zL Z ZH) (zx (j:=5) (vs:=[.slice A1540 x1537.length c1541]) Z Z Z Z hS1554 Z Z Z Z ZH (zC Z) Z Z Z ?_)
     intro W1555 hS1556
     have hS1557:St ⟨w,[B0],φ⟩ φ1527 [B58,B56,B57,B3,.row A1540 c1541 44 3 cs1542,.blk b40 28 [.slice A17 x6.Classes.length c18,.int .i64 x6.Each,.int .i64 x6.Laps,.int .i64 x6.Spare,.int .i64 x6.Loop,.int .i64 x6.Unused,.int .i64 x24,.slice A1540 x1537.length c1541],B1] W1555:=hS1556
     refine zp (zh (zH (rR fL2 Z (oR Z (fun _=>zz (zY Z f1516 Z) (congrArg (Value.int .i64) hi130.out)) (oM Z Z (zp ?_))))))
     cases hm1539
     have h1567:=h1517.le le1523
     have h1568:=h1567.le le1528
     exact zH ⟨rfl,⟨φ1527,A986,c987,A1540,c1541,cs1542,rfl,f1511,f1512,f1513,f1515,((((((((le121.trans le139).trans le161).trans le324).trans le363).trans le377).trans le1509).trans le1523).trans le1528),(hS1557.pick [1,3,4,5,6] _ (by decide) rfl),h1568,hr1545⟩⟩
 ·rintro σ1569 W1570 ⟨φ1587,A1582,c1583,A1584,c1585,c1586,fi1572,f1590,f1591,f1592,f1593,le1588,hS1589,h1594,h1595⟩
  have c1596:Hid (¬ ((↑((x46:Int) - 0).toNat:Int) < x46)):=zG (lp_end0)
  refine sR fL1 Z (oR Z (fun _=>zW Z fi1572 f1593) (eN (zE (cF Z c1596 (ZG (ze (ze (zw (zH (sR (.fl 0 (.fx 1 (.nil) .stop)) Z (oL Z (hS1589.ldBA (j:=3) Z Z f1592 ZW zy (vs:=[.slice A17 x6.Classes.length c18,.int .i64 x6.Each,.int .i64 x6.Laps,.int .i64 x6.Spare,.int .i64 x6.Loop,.int .i64 x6.Unused,.int .i64 x24,.slice A1584 y110.length c1585]) Z Z) (zx (j:=4) (vs:=[.slice A17 x6.Classes.length c18,.int .i64 x6.Each,.int .i64 x6.Laps,.int .i64 x6.Spare,.int .i64 x6.Loop,.int .i64 x6.Unused,.int .i64 x24,.slice A1584 y110.length c1585]) Z Z Z Z hS1589 Z f1591 Z Z zy (zC Z) Z Z Z ?_))))))))))))
  intro W1597 hS1598
  have hS1599:St ⟨w,[B0],φ⟩ φ1587 [.blk pb0 194 [.slice A1582 y107.length c1583,.int .i64 y108,.int .u32 y109],B3,.row A1584 c1585 44 3 c1586,.blk b40 28 [.slice A17 x6.Classes.length c18,.int .i64 x6.Each,.int .i64 x6.Laps,.int .i64 x6.Spare,.int .i64 x6.Loop,.int .i64 x6.Unused,.int .i64 x24,.slice A1584 y110.length c1585],.blk b3 28 [.slice A17 x6.Classes.length c18,.int .i64 x6.Each,.int .i64 x6.Laps,.int .i64 x6.Spare,.int .i64 x6.Loop,.int .i64 x6.Unused,.int .i64 x24,.slice A1584 y110.length c1585]] W1597:=hS1598
  refine eN (zO ?_)
  cases hm103
  exact ⟨rfl,_,(resL1 (v:=.agg #[.slice A17 x6.Classes.length c18,.int .i64 x6.Each,.int .i64 x6.Laps,.int .i64 x6.Spare,.int .i64 x6.Loop,.int .i64 x6.Unused,.int .i64 x24,.slice A1584 y110.length c1585]) ⟨⟨_,f1591,(ldvarA ZW zy (hS1599.blkAt (k:=4) rfl) (vs:=[.slice A17 x6.Classes.length c18,.int .i64 x6.Each,.int .i64 x6.Laps,.int .i64 x6.Spare,.int .i64 x6.Loop,.int .i64 x6.Unused,.int .i64 x24,.slice A1584 y110.length c1585]) rfl rfl)⟩,trivial⟩),φ1587,_,(hS1599.pick [1,2,0] _ (by decide) rfl),A17,c18,A1584,c1585,c1586,A1582,c1583,rfl,rfl,h1595,h1594⟩
end Go.Proofs.YtjfffcjjlnmneaaGreat
namespace Go.Proofs.YtjfffcjjlnmneaaGreat
open Go.KL
set_option maxHeartbeats 4000000
theorem w_relay_in (p0:Int) (p1:Int) (p2:Int) (w:World) (φ:PHeap) (hS:St0 w φ [])  {r:Bool} (hm:m_relay_in p0 p1 p2=some r):Gv Tryz.prog 111 [.int .i64 p0,.int .i64 p1,.int .i64 p2] w (RetS w [] φ (fun φ_ L_ v=>v=.bool r∧L_=[])):=by
 unfold m_relay_in at hm
 refine Gv.of Tryz.func111 Z Tryz.ntmps111 Tryz.results111 Z (sR fL1 Z (oA Z Z (eN (sR fL9 Z (oM Z Z (oM Z Z (oR Z (fun _=>Runs.geq Z Z Z) (oM Z Z ?_))))))))
 by_cases c1:p1 ≤ p0
 ·have hm2:=hm;rw [if_pos c1] at hm2;replace c1:=zG c1
  refine zj Z Z Z (wT Z c1) Z Z (zj Z Z Z (wT Z c1) Z Z (rU Z (wT Z c1) (fun _=>Runs.leq Z Z Z) (oR Z (fun _=>zM Z (Zb c1.out) Z) (oA Z Z (eN (zO ?_))))))
  cases hm2
  exact ⟨Z,_,(zq Z),φ,_,hS,Z,Z⟩
 ·have hm3:=hm;rw [if_neg c1] at hm3;replace c1:=zG c1
  refine oF Z c1 (oF Z c1 (oF Z c1 (oR Z (fun _=>zl Z (zX c1.out) Z) (oA Z Z (eN (zO ?_))))))
  have hE:=Option.some.inj hm3;first | subst r | cases hE
  exact ⟨Z,_,(zq Z),φ,_,hS,Z,Z⟩
theorem w_relay_each_int_1 (p0:Int) (p1:(Int→Option Bool)) (pb1:Nat) (pv1:Value) (w:World) (φ:PHeap) (hS:St0 w φ []) (ha0:Cl φ pb1 0 [pv1]) (ha1:FnOK Tryz.prog φ pv1 ar190 rr190 p1) {r:Bool} (hm:m_relay_each_int_1 p0 p1=some r):Gv Tryz.prog 203 [.int .i64 p0,.pointer (some ⟨pb1,0,none⟩)] w (RetS w [] φ (fun φ_ L_ v=>v=.bool r∧L_=[])):=by
 unfold m_relay_each_int_1 at hm
 refine Gv.of Tryz.func203 Z Tryz.ntmps203 Tryz.results203 Z (sR fL1 Z (oA Z Z (eN (sR (.fl 0 (.fl 1 (.fx 2 (.fl 3 (.fl 4 (.nil))) .stop))) Z (oL Z (hS.ldC (f:=0) ha0 (v:=pv1) Z Z Tryz.isAgg190 Z) (oM Z Z (bnK hm fun x1 h2 hm3=>OKS.callV (a:=p0) Z Z Z Z Z Z (zD Z zZ) hS ha1 Z h2 ?_)))))))
 rintro φ4 L5 v6 W7 le8 hS9 ⟨rfl,rfl⟩
 have hS10:St ⟨w,[],φ⟩ φ4 [] W7:=hS9
 refine oR Z (fun _=>ZL Z Z) (oA Z Z (eN (zO ?_)))
 cases hm3
 exact ⟨Z,_,(zq Z),φ4,_,hS10,Z,Z⟩
theorem w_slices_IndexFunc_int_int (p0:List Int) (pA0:Option Addr) (pc0:Nat) (p1:(Int→Option Bool)) (pv1:Value) (w:World) (φ:PHeap) (hS:St0 w φ []) (ha0:Sl φ 1 pA0 pc0 p0.length (List.flatMap KL.encI p0)) (ha1:FnOK Tryz.prog φ pv1 ar190 rr190 p1) {r:Int} (hm:m_slices_IndexFunc_int_int p0 p1=some r):Gv Tryz.prog 231 [.slice pA0 p0.length pc0,pv1] w (RetS w [] φ (fun φ_ L_ v=>v=.int .i64 r∧L_=[])):=by
 unfold m_slices_IndexFunc_int_int at hm
 refine Gv.of Tryz.func231 Z Tryz.ntmps231 Tryz.results231 Z (sR fL1 Z (oA Z Z (eN (zE (sR fL3 Z (oM Z Z (oR Z (fun _=>zV Z Z zA) (oM Z Z (eN (zS ?_))))))))))
 have q:=jn_some hm
 obtain ⟨r3,hX4⟩:=q
 have q:=forR_le hX4
 obtain ⟨hle5,hf6⟩:=q
 replace hle5:=zG hle5
 refine Zx (fun k2 _ σ_ w_=>∃ (φ_:PHeap),σ_ 8=.int .i64 (↑k2:Int)∧σ_ 0=.slice pA0 p0.length pc0∧σ_ 1=pv1∧σ_ 7=.int .i64 (↑p0.length:Int)∧PHeap.Le φ φ_∧St ⟨w,[],φ⟩ φ_ [] w_) hf6 ?_ ?_ ?_
 ·exact ⟨φ,Z,Z,Z,Z,(zf _),hS⟩
 ·rintro k2 ⟨⟩ xx9 σ7 W8 hk12 ⟨φ14,fi13,f17,f18,f19,le15,hS16⟩ hx10 hb11
  try dsimp only at hx10
  have c20:Hid ((↑k2:Int) < (↑p0.length:Int)):=zG (lp_lt0 hk12)
  replace hk12:=zG hk12
  have hi21:Hid (w64 ((↑k2:Int) + 1)=(↑(k2 + 1):Int)):=zG (by have h1:=hle5.out;have h2:=c20.out;rw [w64_in] <;> omega)
  refine sR fL1 Z (oR Z (fun _=>zW Z fi13 f19) (eN (zE (cT Z c20 (kN (zE (zS (sR fL2 Z (oM Z fi13 (oA Z Z (eN (sR (fC0_4 (.fx 5 (.nil) .stop)) Z (oM Z f18 (oM Z f17 (oM Z Z (bnK hx10 fun x22 h23 hm24=>?_))))))))))))))))
  have h25:=ha0.le le15
  have q:=h25.el (fun _=>rfl) (idx_get h23)
  obtain ⟨b26,off27,hA28,hC29⟩:=q
  refine oR Z (fun _=>zu Z Z hA28 Z zA zJ (idx_lt h23)) (oL Z (hS16.ldC (f:=0) hC29 (v:=.int .i64 x22) Z Z zR Z) (bnK hm24 fun x30 h31 hm32=>?_))
  have h39:=ha1.le le15
  refine OKS.callV (a:=x22) Z Z Z Z Z Z (zD Z zZ) hS16 h39 Z h31 ?_
  rintro φ33 L34 v35 W36 le37 hS38 ⟨rfl,rfl⟩
  have hS40:St ⟨w,[],φ⟩ φ33 [] W36:=hS38
  refine eN (ifc hm32 ?_ ?_)
  ·intro c41 hm42
   refine zn (congrArg Value.bool c41.out) (sR fL2 Z (oM Z Z (oA Z Z (eN (zO (zI (zB ?_)))))))
   have q:=esc_spec hm42
   obtain ⟨v43,hm44,e45⟩:=q
   obtain rfl:=jn_inr hm hX4 (hb11 v43 e45)
   refine zB (zI (zB ?_))
   cases hm44
   exact ⟨Z,_,(zq Z),φ33,_,hS40,Z,Z⟩
  ·intro c41 hm46
   refine zr (congrArg Value.bool (Bool.eq_false_iff.2 c41.out)) (ZU (zh (zH (rR fL2 Z (oR Z (fun _=>zz (zY Z fi13 Z) (congrArg (Value.int .i64) hi21.out)) (oM Z Z (zp ?_)))))))
   obtain rfl:=Option.some.inj hm46
   exact zH ⟨Z,_,Z,⟨φ33,Z,f17,f18,f19,(le15.trans le37),hS40⟩⟩
 ·rintro ⟨⟩ σ47 W48 ⟨φ51,fi50,f54,f55,f56,le52,hS53⟩ hb49
  have hm57:=jn_inl hm hX4 hb49
  try dsimp only at hm57
  have c58:Hid (¬ ((↑(((↑p0.length:Int):Int) - 0).toNat:Int) < (↑p0.length:Int))):=zG (lp_end0)
  refine sR fL1 Z (oR Z (fun _=>zW Z fi50 f56) (eN (zE (cF Z c58 (ZG (ze (ze (zw (zH (sR fL1 Z (oA Z Z (eN (zO ?_)))))))))))))
  cases hm57
  exact ⟨Z,_,(zq Z),φ51,_,hS53,Z,Z⟩
theorem w_slices_ContainsFunc_int_int (p0:List Int) (pA0:Option Addr) (pc0:Nat) (p1:(Int→Option Bool)) (pv1:Value) (w:World) (φ:PHeap) (hS:St0 w φ []) (ha0:Sl φ 1 pA0 pc0 p0.length (List.flatMap KL.encI p0)) (ha1:FnOK Tryz.prog φ pv1 ar190 rr190 p1) {r:Bool} (hm:m_slices_ContainsFunc_int_int p0 p1=some r):Gv Tryz.prog 202 [.slice pA0 p0.length pc0,pv1] w (RetS w [] φ (fun φ_ L_ v=>v=.bool r∧L_=[])):=by
 unfold m_slices_ContainsFunc_int_int at hm
 refine Gv.of Tryz.func202 Z Tryz.ntmps202 Tryz.results202 Z (sR fL1 Z (oA Z Z (eN (sR (.fl 0 (.fl 1 (.fx 2 (.fl 3 (.fl 4 (.nil))) .stop))) Z (oM Z Z (oM Z Z (bnK hm fun x1 h2 hm3=>zU 0 Z Z Z Z (zP Z Z Tryz.call231 (zD Z (zD Z zZ)) Z) hS (fun hs=>w_slices_IndexFunc_int_int p0 pA0 pc0 p1 pv1 w φ hs ha0 ha1 h2) (.inr Z) ?_)))))))
 rintro φ4 L5 v6 W7 le8 hS9 ⟨rfl,rfl⟩
 have hS10:St ⟨w,[],φ⟩ φ4 [] W7:=hS9
 refine oR Z (fun _=>Runs.geq Z Z Z) (oA Z Z (eN (zO ?_)))
 cases hm3
 exact ⟨Z,_,(zq Z),φ4,_,hS10,Z,Z⟩
theorem w_relay_each_int (p0:List Int) (pA0:Option Addr) (pc0:Nat) (p1:(Int→Option Bool)) (pv1:Value) (w:World) (φ:PHeap) (hS:St0 w φ []) (ha0:Sl φ 1 pA0 pc0 p0.length (List.flatMap KL.encI p0)) (ha1:FnOK Tryz.prog φ pv1 ar190 rr190 p1) {r:Bool} (hm:m_relay_each_int p0 p1=some r):Gv Tryz.prog 117 [.slice pA0 p0.length pc0,pv1] w (RetS w [] φ (fun φ_ L_ v=>v=.bool r∧L_=[])):=by
 unfold m_relay_each_int at hm
 refine Gv.of Tryz.func117 Z Tryz.ntmps117 Tryz.results117 Z (sR (.fx 0 (.fl 1 (.nil)) .stop) Z (Zd (cs:=[pv1]) Z Z Z Z Z Z (FnOK.cells ha1) hS ?_))
 intro W1 b2 hS3
 have q:=hS3.freeze (k:=0) rfl
 obtain ⟨φ5,le6,hC7,hS8⟩:=q
 replace hC7:=Cl.of hC7
 have hS9:St ⟨w,[],φ⟩ φ5 [] W1:=hS8
 replace hC7:Cl φ5 b2 0 [pv1]:=hC7
 refine oA Z Z (eN (sR (.fl 0 (.fl 1 (.fx 2 (.fl 3 (.fl 4 (.nil))) .stop))) Z (oM Z Z (oR Z (fun _=>Runs.mkf Z zZ (zD Z zZ)) ?_))))
 have h10:=ha0.le le6
 have h11:=ha1.le le6
 have hF12:FnOK Tryz.prog φ5 (.func (.func 203) #[] #[.pointer (some ⟨b2,0,none⟩)]) ar190 rr190 (fun x=>m_relay_each_int_1 x p1):=⟨203,[],[.pointer (some ⟨b2,0,none⟩)],rfl,Tryz.call203,fun φ1 w1 x y vs le hs ha hm=>by obtain rfl:=ha;exact w_relay_each_int_1 x p1 b2 pv1 w1 φ1 hs (hC7.le le) (h11.le le) hm⟩
 refine bnK hm fun x13 h14 hm15=>zU 0 Z Z Z Z (zP Z Z Tryz.call202 (zD Z (zD Z zZ)) Z) hS9 (fun hs=>w_slices_ContainsFunc_int_int p0 pA0 pc0 (fun x=>m_relay_each_int_1 x p1) (.func (.func 203) #[] #[.pointer (some ⟨b2,0,none⟩)]) W1 φ5 hs h10 hF12 h14) (.inr Z) ?_
 rintro φ16 L17 v18 W19 le20 hS21 ⟨rfl,rfl⟩
 have hS22:St ⟨w,[],φ⟩ φ16 [] W19:=hS21
 refine oR Z (fun _=>ZL Z Z) (oA Z Z (eN (zO ?_)))
 cases hm15
 exact ⟨Z,_,(zq Z),φ16,_,hS22,Z,Z⟩
theorem w_relay_classed_1 (p0:Int) (w:World) (φ:PHeap) (hS:St0 w φ [])  {r:Bool} (hm:m_relay_classed_1 p0=some r):Gv Tryz.prog 200 [.int .i64 p0] w (RetS w [] φ (fun φ_ L_ v=>v=.bool r∧L_=[])):=by
 unfold m_relay_classed_1 at hm
 refine Gv.of Tryz.func200 Z Tryz.ntmps200 Tryz.results200 Z (sR fL1 Z (oA Z Z (eN (sR (.fl 0 (.fx 1 (.fl 2 (.nil)) .stop)) Z (oM Z Z (bnK hm fun x1 h2 hm3=>zU 0 Z Z Z Z (zP Z Z Zr (zD Z (zD Z (zD Z zZ))) Z) hS (fun hs=>w_relay_in p0 0 3 w φ hs h2) (.inr Z) ?_))))))
 rintro φ4 L5 v6 W7 le8 hS9 ⟨rfl,rfl⟩
 have hS10:St ⟨w,[],φ⟩ φ4 [] W7:=hS9
 refine oA Z Z (eN (zO ?_))
 have hE:=Option.some.inj hm3;first | subst r | cases hE
 exact ⟨Z,_,(zq Z),φ4,_,hS10,Z,Z⟩
theorem w_relay_classed (p0:List Int) (pA0:Option Addr) (pc0:Nat) (w:World) (φ:PHeap) (hS:St0 w φ []) (ha0:Sl φ 1 pA0 pc0 p0.length (List.flatMap KL.encI p0)) {r:Bool} (hm:m_relay_classed p0=some r):Gv Tryz.prog 115 [.slice pA0 p0.length pc0] w (RetS w [] φ (fun φ_ L_ v=>v=.bool r∧L_=[])):=by
 unfold m_relay_classed at hm
 refine Gv.of Tryz.func115 Z Tryz.ntmps115 Tryz.results115 Z (sR fL1 Z (oA Z Z (eN (sR (.fl 0 (.fx 1 (.fl 2 (.nil)) .stop)) Z (oM Z Z ?_)))))
 have hF1:FnOK Tryz.prog φ (.func (.func 200) #[] #[]) ar190 rr190 m_relay_classed_1:=⟨200,[],[],rfl,Tryz.call200,fun φ1 w1 x y vs le hs ha hm=>by obtain rfl:=ha;exact w_relay_classed_1 x w1 φ1 hs  hm⟩
 refine bnK hm fun x2 h3 hm4=>zU 0 Z Z Z Z (zP Z Z Tryz.call117 (zD Z (zD Z zZ)) Z) hS (fun hs=>w_relay_each_int p0 pA0 pc0 m_relay_classed_1 (.func (.func 200) #[] #[]) w φ hs ha0 hF1 h3) (.inr Z) ?_
 rintro φ5 L6 v7 W8 le9 hS10 ⟨rfl,rfl⟩
 have hS11:St ⟨w,[],φ⟩ φ5 [] W8:=hS10
 refine oA Z Z (eN (zO ?_))
 have hE:=Option.some.inj hm4;first | subst r | cases hE
 exact ⟨Z,_,(zq Z),φ5,_,hS11,Z,Z⟩
theorem w_relay_limits_1 (p0:T_relay_Rules) (pA0_0:Option Addr) (pc0_0:Nat) (w:World) (φ:PHeap) (hS:St0 w φ []) (ha0:Sl φ 1 pA0_0 pc0_0 p0.Classes.length (List.flatMap KL.encI p0.Classes)) {r:Int} (hm:m_relay_limits_1 p0=some r):Gv Tryz.prog 249 [.agg #[.slice pA0_0 p0.Classes.length pc0_0,.int .i64 p0.Each,.int .i64 p0.Laps,.int .i64 p0.Spare,.int .i64 p0.Loop,.int .i64 p0.Unused]] w (RetS w [] φ (fun φ_ L_ v=>v=.int .i64 r∧L_=[])):=by
 unfold m_relay_limits_1 at hm
 refine Gv.of Tryz.func249 rfl Tryz.ntmps249 Tryz.results249 rfl (sR (.fx 0 (.fl 1 (.nil)) .stop) rfl (Zd (cs:=[.slice pA0_0 p0.Classes.length pc0_0,.int .i64 p0.Each,.int .i64 p0.Laps,.int .i64 p0.Spare,.int .i64 p0.Loop,.int .i64 p0.Unused]) rfl rfl rfl rfl rfl rfl (by rfl) hS ?_))
 intro W1 b2 hS3
 refine oA Z Z (eN (sR fL3 Z (oR Z (fun _=>zF Z Z zg Z zJ) (oL Z (hS3.ldB (j:=0) Z Z Z zR (v:=.int .i64 p0.Each) Z) (oA Z Z (eN (zO ?_)))))))
 cases hm
 exact ⟨rfl,_,(zq rfl),φ,_,(hS3.pick [] _ (by decide) rfl),rfl,rfl⟩
theorem w_relay_limits_2 (p0:T_relay_Rules) (pA0_0:Option Addr) (pc0_0:Nat) (w:World) (φ:PHeap) (hS:St0 w φ []) (ha0:Sl φ 1 pA0_0 pc0_0 p0.Classes.length (List.flatMap KL.encI p0.Classes)) {r:Int} (hm:m_relay_limits_2 p0=some r):Gv Tryz.prog 250 [.agg #[.slice pA0_0 p0.Classes.length pc0_0,.int .i64 p0.Each,.int .i64 p0.Laps,.int .i64 p0.Spare,.int .i64 p0.Loop,.int .i64 p0.Unused]] w (RetS w [] φ (fun φ_ L_ v=>v=.int .i64 r∧L_=[])):=by
 unfold m_relay_limits_2 at hm
 refine Gv.of Tryz.func250 rfl Tryz.ntmps250 Tryz.results250 rfl (sR (.fx 0 (.fl 1 (.nil)) .stop) rfl (Zd (cs:=[.slice pA0_0 p0.Classes.length pc0_0,.int .i64 p0.Each,.int .i64 p0.Laps,.int .i64 p0.Spare,.int .i64 p0.Loop,.int .i64 p0.Unused]) rfl rfl rfl rfl rfl rfl (by rfl) hS ?_))
 intro W1 b2 hS3
 refine oA Z Z (eN (sR fL3 Z (oR Z (fun _=>zF Z Z zg Z zJ) (oL Z (hS3.ldB (j:=0) Z Z Z zR (v:=.int .i64 p0.Laps) Z) (oA Z Z (eN (zO ?_)))))))
 cases hm
 exact ⟨rfl,_,(zq rfl),φ,_,(hS3.pick [] _ (by decide) rfl),rfl,rfl⟩
theorem w_relay_limits_3 (p0:T_relay_Rules) (pA0_0:Option Addr) (pc0_0:Nat) (w:World) (φ:PHeap) (hS:St0 w φ []) (ha0:Sl φ 1 pA0_0 pc0_0 p0.Classes.length (List.flatMap KL.encI p0.Classes)) {r:Int} (hm:m_relay_limits_3 p0=some r):Gv Tryz.prog 251 [.agg #[.slice pA0_0 p0.Classes.length pc0_0,.int .i64 p0.Each,.int .i64 p0.Laps,.int .i64 p0.Spare,.int .i64 p0.Loop,.int .i64 p0.Unused]] w (RetS w [] φ (fun φ_ L_ v=>v=.int .i64 r∧L_=[])):=by
 unfold m_relay_limits_3 at hm
 refine Gv.of Tryz.func251 rfl Tryz.ntmps251 Tryz.results251 rfl (sR (.fx 0 (.fl 1 (.nil)) .stop) rfl (Zd (cs:=[.slice pA0_0 p0.Classes.length pc0_0,.int .i64 p0.Each,.int .i64 p0.Laps,.int .i64 p0.Spare,.int .i64 p0.Loop,.int .i64 p0.Unused]) rfl rfl rfl rfl rfl rfl (by rfl) hS ?_))
 intro W1 b2 hS3
 refine oA Z Z (eN (sR fL3 Z (oR Z (fun _=>zF Z Z zg Z zJ) (oL Z (hS3.ldB (j:=0) Z Z Z zR (v:=.int .i64 p0.Spare) Z) (oA Z Z (eN (zO ?_)))))))
 cases hm
 exact ⟨rfl,_,(zq rfl),φ,_,(hS3.pick [] _ (by decide) rfl),rfl,rfl⟩
theorem w_relay_limits_4 (p0:T_relay_Rules) (pA0_0:Option Addr) (pc0_0:Nat) (w:World) (φ:PHeap) (hS:St0 w φ []) (ha0:Sl φ 1 pA0_0 pc0_0 p0.Classes.length (List.flatMap KL.encI p0.Classes)) {r:Int} (hm:m_relay_limits_4 p0=some r):Gv Tryz.prog 252 [.agg #[.slice pA0_0 p0.Classes.length pc0_0,.int .i64 p0.Each,.int .i64 p0.Laps,.int .i64 p0.Spare,.int .i64 p0.Loop,.int .i64 p0.Unused]] w (RetS w [] φ (fun φ_ L_ v=>v=.int .i64 r∧L_=[])):=by
 unfold m_relay_limits_4 at hm
 refine Gv.of Tryz.func252 rfl Tryz.ntmps252 Tryz.results252 rfl (sR (.fx 0 (.fl 1 (.nil)) .stop) rfl (Zd (cs:=[.slice pA0_0 p0.Classes.length pc0_0,.int .i64 p0.Each,.int .i64 p0.Laps,.int .i64 p0.Spare,.int .i64 p0.Loop,.int .i64 p0.Unused]) rfl rfl rfl rfl rfl rfl (by rfl) hS ?_))
 intro W1 b2 hS3
 refine oA Z Z (eN (sR fL3 Z (oR Z (fun _=>zF Z Z zg Z zJ) (oL Z (hS3.ldB (j:=0) Z Z Z zR (v:=.int .i64 p0.Loop) Z) (oA Z Z (eN (zO ?_)))))))
 cases hm
 exact ⟨rfl,_,(zq rfl),φ,_,(hS3.pick [] _ (by decide) rfl),rfl,rfl⟩
theorem w_relay_limits_5 (p0:T_relay_Rules) (pA0_0:Option Addr) (pc0_0:Nat) (w:World) (φ:PHeap) (hS:St0 w φ []) (ha0:Sl φ 1 pA0_0 pc0_0 p0.Classes.length (List.flatMap KL.encI p0.Classes)) {r:Int} (hm:m_relay_limits_5 p0=some r):Gv Tryz.prog 253 [.agg #[.slice pA0_0 p0.Classes.length pc0_0,.int .i64 p0.Each,.int .i64 p0.Laps,.int .i64 p0.Spare,.int .i64 p0.Loop,.int .i64 p0.Unused]] w (RetS w [] φ (fun φ_ L_ v=>v=.int .i64 r∧L_=[])):=by
 unfold m_relay_limits_5 at hm
 refine Gv.of Tryz.func253 rfl Tryz.ntmps253 Tryz.results253 rfl (sR (.fx 0 (.fl 1 (.nil)) .stop) rfl (Zd (cs:=[.slice pA0_0 p0.Classes.length pc0_0,.int .i64 p0.Each,.int .i64 p0.Laps,.int .i64 p0.Spare,.int .i64 p0.Loop,.int .i64 p0.Unused]) rfl rfl rfl rfl rfl rfl (by rfl) hS ?_))
 intro W1 b2 hS3
 refine oA Z Z (eN (sR fL3 Z (oR Z (fun _=>zF Z Z zg Z zJ) (oL Z (hS3.ldB (j:=0) Z Z Z zR (v:=.int .i64 p0.Unused) Z) (oA Z Z (eN (zO ?_)))))))
 cases hm
 exact ⟨rfl,_,(zq rfl),φ,_,(hS3.pick [] _ (by decide) rfl),rfl,rfl⟩
theorem w_relay_limits  (w:World) (φ:PHeap) (hS:St0 w φ [])  {r:(List T_relay_limit)} (hm:m_relay_limits =some r):Gv Tryz.prog 196 [] w (RetS w [] φ (fun φ_ L_ v=>∃ (A0:Option Addr) (c0:Nat) (cs0:List Value),v=.slice A0 r.length c0∧L_=[.row A0 c0 283 3 cs0]∧RlL φ_ rl283 r cs0)):=by
 unfold m_relay_limits at hm
 refine Gv.of Tryz.func196 Z Tryz.ntmps196 Tryz.results196 Z (sR fL1 Z (oA Z Z (eN (sR (fC0_4 (.fx 5 (.fl 6 (.nil)) .stop)) Z (oR Z (fun _=>Zf (pv:=[(0,.func (.func 249) #[] #[]),(1,.int .i64 1),(2,.int .i64 4)]) (z:=[.nilFunc,.int .i64 0,.int .i64 0]) (cs:=[.func (.func 249) #[] #[],.int .i64 1,.int .i64 4]) Z (mapcons2 Z (mapcons2 Z (mapcons2 Z mapnil2))) yF places283 Z Z) (oR Z (fun _=>Zf (pv:=[(0,.func (.func 250) #[] #[]),(1,.int .i64 1),(2,.int .i64 5)]) (z:=[.nilFunc,.int .i64 0,.int .i64 0]) (cs:=[.func (.func 250) #[] #[],.int .i64 1,.int .i64 5]) Z (mapcons2 Z (mapcons2 Z (mapcons2 Z mapnil2))) yF places283 Z Z) (oR Z (fun _=>Zf (pv:=[(0,.func (.func 251) #[] #[]),(1,.int .i64 0),(2,.int .i64 600)]) (z:=[.nilFunc,.int .i64 0,.int .i64 0]) (cs:=[.func (.func 251) #[] #[],.int .i64 0,.int .i64 600]) Z (mapcons2 Z (mapcons2 Z (mapcons2 Z mapnil2))) yF places283 Z Z) (oR Z (fun _=>Zf (pv:=[(0,.func (.func 252) #[] #[]),(1,.int .i64 0),(2,.int .i64 600)]) (z:=[.nilFunc,.int .i64 0,.int .i64 0]) (cs:=[.func (.func 252) #[] #[],.int .i64 0,.int .i64 600]) Z (mapcons2 Z (mapcons2 Z (mapcons2 Z mapnil2))) yF places283 Z Z) (oR Z (fun _=>Zf (pv:=[(0,.func (.func 253) #[] #[]),(1,.int .i64 0),(2,.int .i64 6000)]) (z:=[.nilFunc,.int .i64 0,.int .i64 0]) (cs:=[.func (.func 253) #[] #[],.int .i64 0,.int .i64 6000]) Z (mapcons2 Z (mapcons2 Z (mapcons2 Z mapnil2))) yF places283 Z Z) (ZC (pv:=[(0,.agg #[.func (.func 249) #[] #[],.int .i64 1,.int .i64 4]),(1,.agg #[.func (.func 250) #[] #[],.int .i64 1,.int .i64 5]),(2,.agg #[.func (.func 251) #[] #[],.int .i64 0,.int .i64 600]),(3,.agg #[.func (.func 252) #[] #[],.int .i64 0,.int .i64 600]),(4,.agg #[.func (.func 253) #[] #[],.int .i64 0,.int .i64 6000])]) (zs:=[.nilFunc,.int .i64 0,.int .i64 0,.nilFunc,.int .i64 0,.int .i64 0,.nilFunc,.int .i64 0,.int .i64 0,.nilFunc,.int .i64 0,.int .i64 0,.nilFunc,.int .i64 0,.int .i64 0]) (cs:=[.func (.func 249) #[] #[],.int .i64 1,.int .i64 4,.func (.func 250) #[] #[],.int .i64 1,.int .i64 5,.func (.func 251) #[] #[],.int .i64 0,.int .i64 600,.func (.func 252) #[] #[],.int .i64 0,.int .i64 600,.func (.func 253) #[] #[],.int .i64 0,.int .i64 6000]) Z Z Z Z Z (mapcons2 Z (mapcons2 Z (mapcons2 Z (mapcons2 Z (mapcons2 Z mapnil2))))) Tryz.runUnderlying284 Tryz.sizeOf283 yF Z Z Z Z Z hS ?_))))))))))
 intro W1 b2 hS3
 have hF5:FnOK Tryz.prog φ (.func (.func 253) #[] #[]) ar281 rr281 m_relay_limits_5:=⟨253,[],[],rfl,Tryz.call253,fun φ1 w1 x y vs le hs ha hm=>by obtain ⟨pA_0_0,pc_0_0,rfl,hq0_0⟩:=ha;exact w_relay_limits_5 x pA_0_0 pc_0_0 w1 φ1 hs hq0_0 hm⟩
 have hF6:FnOK Tryz.prog φ (.func (.func 252) #[] #[]) ar281 rr281 m_relay_limits_4:=⟨252,[],[],rfl,Tryz.call252,fun φ1 w1 x y vs le hs ha hm=>by obtain ⟨pA_0_0,pc_0_0,rfl,hq0_0⟩:=ha;exact w_relay_limits_4 x pA_0_0 pc_0_0 w1 φ1 hs hq0_0 hm⟩
 have hF7:FnOK Tryz.prog φ (.func (.func 251) #[] #[]) ar281 rr281 m_relay_limits_3:=⟨251,[],[],rfl,Tryz.call251,fun φ1 w1 x y vs le hs ha hm=>by obtain ⟨pA_0_0,pc_0_0,rfl,hq0_0⟩:=ha;exact w_relay_limits_3 x pA_0_0 pc_0_0 w1 φ1 hs hq0_0 hm⟩
 have hF8:FnOK Tryz.prog φ (.func (.func 250) #[] #[]) ar281 rr281 m_relay_limits_2:=⟨250,[],[],rfl,Tryz.call250,fun φ1 w1 x y vs le hs ha hm=>by obtain ⟨pA_0_0,pc_0_0,rfl,hq0_0⟩:=ha;exact w_relay_limits_2 x pA_0_0 pc_0_0 w1 φ1 hs hq0_0 hm⟩
 have hF9:FnOK Tryz.prog φ (.func (.func 249) #[] #[]) ar281 rr281 m_relay_limits_1:=⟨249,[],[],rfl,Tryz.call249,fun φ1 w1 x y vs le hs ha hm=>by obtain ⟨pA_0_0,pc_0_0,rfl,hq0_0⟩:=ha;exact w_relay_limits_1 x pA_0_0 pc_0_0 w1 φ1 hs hq0_0 hm⟩
 have hr10:RlL φ rl283 [(⟨m_relay_limits_1,1,4⟩:T_relay_limit),(⟨m_relay_limits_2,1,5⟩:T_relay_limit),(⟨m_relay_limits_3,0,600⟩:T_relay_limit),(⟨m_relay_limits_4,0,600⟩:T_relay_limit),(⟨m_relay_limits_5,0,6000⟩:T_relay_limit)] [.func (.func 249) #[] #[],.int .i64 1,.int .i64 4,.func (.func 250) #[] #[],.int .i64 1,.int .i64 5,.func (.func 251) #[] #[],.int .i64 0,.int .i64 600,.func (.func 252) #[] #[],.int .i64 0,.int .i64 600,.func (.func 253) #[] #[],.int .i64 0,.int .i64 6000]:=(RlL.cons (R:=rl283) (x:=(⟨m_relay_limits_1,1,4⟩:T_relay_limit)) (vs:=[.func (.func 249) #[] #[],.int .i64 1,.int .i64 4]) ⟨(.func (.func 249) #[] #[]),rfl,hF9⟩ (RlL.cons (R:=rl283) (x:=(⟨m_relay_limits_2,1,5⟩:T_relay_limit)) (vs:=[.func (.func 250) #[] #[],.int .i64 1,.int .i64 5]) ⟨(.func (.func 250) #[] #[]),rfl,hF8⟩ (RlL.cons (R:=rl283) (x:=(⟨m_relay_limits_3,0,600⟩:T_relay_limit)) (vs:=[.func (.func 251) #[] #[],.int .i64 0,.int .i64 600]) ⟨(.func (.func 251) #[] #[]),rfl,hF7⟩ (RlL.cons (R:=rl283) (x:=(⟨m_relay_limits_4,0,600⟩:T_relay_limit)) (vs:=[.func (.func 252) #[] #[],.int .i64 0,.int .i64 600]) ⟨(.func (.func 252) #[] #[]),rfl,hF6⟩ (RlL.cons (R:=rl283) (x:=(⟨m_relay_limits_5,0,6000⟩:T_relay_limit)) (vs:=[.func (.func 253) #[] #[],.int .i64 0,.int .i64 6000]) ⟨(.func (.func 253) #[] #[]),rfl,hF5⟩ RlL.nil)))))
 have hS11:St ⟨w,[],φ⟩ φ [.row (some ⟨b2,0,none⟩) 5 283 3 [.func (.func 249) #[] #[],.int .i64 1,.int .i64 4,.func (.func 250) #[] #[],.int .i64 1,.int .i64 5,.func (.func 251) #[] #[],.int .i64 0,.int .i64 600,.func (.func 252) #[] #[],.int .i64 0,.int .i64 600,.func (.func 253) #[] #[],.int .i64 0,.int .i64 6000]] W1:=hS3
 refine oA Z Z (eN (zO ?_))
 cases hm
 exact ⟨Z,_,(zq Z),φ,_,hS11,(some ⟨b2,0,none⟩),5,[.func (.func 249) #[] #[],.int .i64 1,.int .i64 4,.func (.func 250) #[] #[],.int .i64 1,.int .i64 5,.func (.func 251) #[] #[],.int .i64 0,.int .i64 600,.func (.func 252) #[] #[],.int .i64 0,.int .i64 600,.func (.func 253) #[] #[],.int .i64 0,.int .i64 6000],Z,Z,hr10⟩
theorem w_relay_CheckRules_1 (p0:T_relay_limit) (pv0_0:Value) (p1:T_relay_Rules) (pb1:Nat) (pA1_0:Option Addr) (pc1_0:Nat) (w:World) (φ:PHeap) (hS:St0 w φ []) (ha0:FnOK Tryz.prog φ pv0_0 ar281 rr281 p0.of) (ha1:Cl φ pb1 0 [.slice pA1_0 p1.Classes.length pc1_0,.int .i64 p1.Each,.int .i64 p1.Laps,.int .i64 p1.Spare,.int .i64 p1.Loop,.int .i64 p1.Unused]) (ha2:Sl φ 1 pA1_0 pc1_0 p1.Classes.length (List.flatMap KL.encI p1.Classes)) {r:Bool} (hm:m_relay_CheckRules_1 p0 p1=some r):Gv Tryz.prog 197 [.agg #[pv0_0,.int .i64 p0.lo,.int .i64 p0.hi],.pointer (some ⟨pb1,0,none⟩)] w (RetS w [] φ (fun φ_ L_ v=>v=.bool r∧L_=[])):=by
 unfold m_relay_CheckRules_1 at hm
 refine Gv.of Tryz.func197 rfl Tryz.ntmps197 Tryz.results197 rfl (sR (.fx 0 (.fl 1 (.nil)) .stop) rfl (Zd (cs:=[pv0_0,.int .i64 p0.lo,.int .i64 p0.hi]) rfl rfl rfl rfl rfl rfl (by rfl) hS ?_))
 intro W1 b2 hS3
 refine OKS.ra rfl rfl rfl rfl rfl rfl (eN (zE (Zh ZY [3,1,1,2,3,1,3,1,2,3] (fC0_2 (fC4_7 (.fx 3 (.fx 8 (.fl 9 (.nil)) .stop) .stop))) (by kernel_rfl) ?_)))
 have hS5:=hS3.drew
 generalize hw_W6:({ W1 with drawn:=W1.drawn + 1 }:World)=W6 at hS5 ⊢
 refine oR Z (fun _=>zF Z Z Tryz.runUnderlying283 Z Tryz.sizeOf281) (oL Z (hS5.ldB (j:=0) Z Z Z Tryz.isAgg281 (v:=pv0_0) Z) (oL Z (hS5.ldCA (f:=0) ha1 Z Z Tryz.isAgg25 ZE (us:=[.slice pA1_0 p1.Classes.length pc1_0,.int .i64 p1.Each,.int .i64 p1.Laps,.int .i64 p1.Spare,.int .i64 p1.Loop,.int .i64 p1.Unused]) Z Z) (oR Z (fun _=>zF Z Z Tryz.runUnderlying283 Z zJ) (oL Z (hS5.ldB (j:=0) Z Z Z zR (v:=.int .i64 p0.lo) Z) (oR Z (fun _=>zF Z Z Tryz.runUnderlying283 Z zJ) (oL Z (hS5.ldB (j:=0) Z Z Z zR (v:=.int .i64 p0.hi) Z) (bnK hm fun x7 h8 hm9=>OKS.callV (a:=p1) Z Z Z Z Z Z (zD Z zZ) hS5 ha0 ⟨pA1_0,pc1_0,Z,ha2⟩ h8 ?_)))))))
 rintro φ10 L11 v12 W13 le14 hS15 ⟨rfl,rfl⟩
 let B0:Res:=.blk b2 283 [pv0_0,.int .i64 p0.lo,.int .i64 p0.hi]
 have hS16:St ⟨w,[],φ⟩ φ10 [B0] W13:=hS15
 refine bnK hm9 fun x17 h18 hm19=>zU 0 Z Z Z Z (zP Z Z Zr (zD Z (zD Z (zD Z zZ))) Z) hS16 (fun hs=>w_relay_in x7 p0.lo p0.hi W13 φ10 hs h18) (.inr Z) ?_
 rintro φ20 L21 v22 W23 le24 hS25 ⟨rfl,rfl⟩
 have hS26:St ⟨w,[],φ⟩ φ20 [B0] W23:=hS25
 refine oA Z Z (eN (zO ?_))
 have hE:=Option.some.inj hm19;first | subst r | cases hE
 exact ⟨rfl,_,(zq rfl),φ20,_,(hS26.pick [] _ (by decide) rfl),rfl,rfl⟩
theorem w_relay_each_relay_limit_1 (p0:T_relay_limit) (pv0_0:Value) (p1:(T_relay_limit→Option Bool)) (pb1:Nat) (pv1:Value) (w:World) (φ:PHeap) (hS:St0 w φ []) (ha0:FnOK Tryz.prog φ pv0_0 ar281 rr281 p0.of) (ha1:Cl φ pb1 0 [pv1]) (ha2:FnOK Tryz.prog φ pv1 ar286 rr286 p1) {r:Bool} (hm:m_relay_each_relay_limit_1 p0 p1=some r):Gv Tryz.prog 248 [.agg #[pv0_0,.int .i64 p0.lo,.int .i64 p0.hi],.pointer (some ⟨pb1,0,none⟩)] w (RetS w [] φ (fun φ_ L_ v=>v=.bool r∧L_=[])):=by
 unfold m_relay_each_relay_limit_1 at hm
 refine Gv.of Tryz.func248 rfl Tryz.ntmps248 Tryz.results248 rfl (sR (.fx 0 (.fl 1 (.nil)) .stop) rfl (Zd (cs:=[pv0_0,.int .i64 p0.lo,.int .i64 p0.hi]) rfl rfl rfl rfl rfl rfl (by rfl) hS ?_))
 intro W1 b2 hS3
 refine oA Z Z (eN (sR (.fl 0 (.fl 1 (.fx 2 (.fl 3 (.fl 4 (.nil))) .stop))) Z (oL Z (hS3.ldC (f:=0) ha1 (v:=pv1) Z Z Tryz.isAgg286 Z) (oL Z (hS3.ldBA (j:=0) Z Z Z Tryz.isAgg283 Tryz.sizeOf283 (vs:=[pv0_0,.int .i64 p0.lo,.int .i64 p0.hi]) Z Z) (bnK hm fun x5 h6 hm7=>OKS.callV (a:=p0) Z Z Z Z Z Z (zD Z zZ) hS3 ha2 ⟨pv0_0,Z,ha0⟩ h6 ?_)))))
 rintro φ8 L9 v10 W11 le12 hS13 ⟨rfl,rfl⟩
 have hS14:St ⟨w,[],φ⟩ φ8 [.blk b2 283 [pv0_0,.int .i64 p0.lo,.int .i64 p0.hi]] W11:=hS13
 refine oR Z (fun _=>ZL Z Z) (oA Z Z (eN (zO ?_)))
 cases hm7
 exact ⟨rfl,_,(zq rfl),φ8,_,(hS14.pick [] _ (by decide) rfl),rfl,rfl⟩
theorem w_slices_IndexFunc_relay_limit_relay_limit (p0:List T_relay_limit) (pA0:Option Addr) (pc0:Nat) (p1:(T_relay_limit→Option Bool)) (pv1:Value) (w:World) (φ:PHeap) (hS:St0 w φ []) (ha0:SlR φ rl283 pA0 pc0 p0) (ha1:FnOK Tryz.prog φ pv1 ar286 rr286 p1) {r:Int} (hm:m_slices_IndexFunc_relay_limit_relay_limit p0 p1=some r):Gv Tryz.prog 299 [.slice pA0 p0.length pc0,pv1] w (RetS w [] φ (fun φ_ L_ v=>v=.int .i64 r∧L_=[])):=by
 unfold m_slices_IndexFunc_relay_limit_relay_limit at hm
 refine Gv.of Tryz.func299 Z Tryz.ntmps299 Tryz.results299 Z (sR fL1 Z (oA Z Z (eN (zE (sR fL3 Z (oM Z Z (oR Z (fun _=>zV Z Z Tryz.runUnderlying284) (oM Z Z (eN (zS ?_))))))))))
 have q:=jn_some hm
 obtain ⟨r3,hX4⟩:=q
 have q:=forR_le hX4
 obtain ⟨hle5,hf6⟩:=q
 replace hle5:=zG hle5
 refine Zx (fun k2 _ σ_ w_=>∃ (φ_:PHeap),σ_ 8=.int .i64 (↑k2:Int)∧σ_ 0=.slice pA0 p0.length pc0∧σ_ 1=pv1∧σ_ 7=.int .i64 (↑p0.length:Int)∧PHeap.Le φ φ_∧St ⟨w,[],φ⟩ φ_ [] w_) hf6 ?_ ?_ ?_
 ·exact ⟨φ,Z,Z,Z,Z,(zf _),hS⟩
 ·rintro k2 ⟨⟩ xx9 σ7 W8 hk12 ⟨φ14,fi13,f17,f18,f19,le15,hS16⟩ hx10 hb11
  try dsimp only at hx10
  have c20:Hid ((↑k2:Int) < (↑p0.length:Int)):=zG (lp_lt0 hk12)
  replace hk12:=zG hk12
  have hi21:Hid (w64 ((↑k2:Int) + 1)=(↑(k2 + 1):Int)):=zG (by have h1:=hle5.out;have h2:=c20.out;rw [w64_in] <;> omega)
  refine sR fL1 Z (oR Z (fun _=>zW Z fi13 f19) (eN (zE (cT Z c20 (kN (zE (zS (sR fL2 Z (oM Z fi13 (oA Z Z (eN (sR (fC0_4 (.fx 5 (.nil) .stop)) Z (oM Z f18 (oM Z f17 (oM Z Z (bnK hx10 fun x22 h23 hm24=>?_))))))))))))))))
  have h25:=ha0.le le15
  have q:=h25.el (idx_get h23)
  obtain ⟨b26,off27,vs30,hA28,hC29,hr31⟩:=q
  obtain ⟨pv32,rfl,h33⟩:=hr31
  replace hC29:Cl φ14 b26 (off27 + k2 * 3) [pv32,.int .i64 x22.lo,.int .i64 x22.hi]:=hC29
  refine oR Z (fun _=>zu Z Z hA28 Z Tryz.runUnderlying284 Tryz.sizeOf283 (idx_lt h23)) (oL Z (hS16.ldCA (f:=0) hC29 Z Z Tryz.isAgg283 Tryz.sizeOf283 (us:=[pv32,.int .i64 x22.lo,.int .i64 x22.hi]) Z Z) (bnK hm24 fun x34 h35 hm36=>?_))
  have h43:=ha1.le le15
  refine OKS.callV (a:=x22) Z Z Z Z Z Z (zD Z zZ) hS16 h43 ⟨pv32,Z,h33⟩ h35 ?_
  rintro φ37 L38 v39 W40 le41 hS42 ⟨rfl,rfl⟩
  have hS44:St ⟨w,[],φ⟩ φ37 [] W40:=hS42
  refine eN (ifc hm36 ?_ ?_)
  ·intro c45 hm46
   refine zn (congrArg Value.bool c45.out) (sR fL2 Z (oM Z Z (oA Z Z (eN (zO (zI (zB ?_)))))))
   have q:=esc_spec hm46
   obtain ⟨v47,hm48,e49⟩:=q
   obtain rfl:=jn_inr hm hX4 (hb11 v47 e49)
   refine zB (zI (zB ?_))
   cases hm48
   exact ⟨Z,_,(zq Z),φ37,_,hS44,Z,Z⟩
  ·intro c45 hm50
   refine zr (congrArg Value.bool (Bool.eq_false_iff.2 c45.out)) (ZU (zh (zH (rR fL2 Z (oR Z (fun _=>zz (zY Z fi13 Z) (congrArg (Value.int .i64) hi21.out)) (oM Z Z (zp ?_)))))))
   obtain rfl:=Option.some.inj hm50
   exact zH ⟨Z,_,Z,⟨φ37,Z,f17,f18,f19,(le15.trans le41),hS44⟩⟩
 ·rintro ⟨⟩ σ51 W52 ⟨φ55,fi54,f58,f59,f60,le56,hS57⟩ hb53
  have hm61:=jn_inl hm hX4 hb53
  try dsimp only at hm61
  have c62:Hid (¬ ((↑(((↑p0.length:Int):Int) - 0).toNat:Int) < (↑p0.length:Int))):=zG (lp_end0)
  refine sR fL1 Z (oR Z (fun _=>zW Z fi54 f60) (eN (zE (cF Z c62 (ZG (ze (ze (zw (zH (sR fL1 Z (oA Z Z (eN (zO ?_)))))))))))))
  cases hm61
  exact ⟨Z,_,(zq Z),φ55,_,hS57,Z,Z⟩
theorem w_slices_ContainsFunc_relay_limit_relay_limit (p0:List T_relay_limit) (pA0:Option Addr) (pc0:Nat) (p1:(T_relay_limit→Option Bool)) (pv1:Value) (w:World) (φ:PHeap) (hS:St0 w φ []) (ha0:SlR φ rl283 pA0 pc0 p0) (ha1:FnOK Tryz.prog φ pv1 ar286 rr286 p1) {r:Bool} (hm:m_slices_ContainsFunc_relay_limit_relay_limit p0 p1=some r):Gv Tryz.prog 247 [.slice pA0 p0.length pc0,pv1] w (RetS w [] φ (fun φ_ L_ v=>v=.bool r∧L_=[])):=by
 unfold m_slices_ContainsFunc_relay_limit_relay_limit at hm
 refine Gv.of Tryz.func247 Z Tryz.ntmps247 Tryz.results247 Z (sR fL1 Z (oA Z Z (eN (sR (.fl 0 (.fl 1 (.fx 2 (.fl 3 (.fl 4 (.nil))) .stop))) Z (oM Z Z (oM Z Z (bnK hm fun x1 h2 hm3=>zU 0 Z Z Z Z (zP Z Z Tryz.call299 (zD Z (zD Z zZ)) Z) hS (fun hs=>w_slices_IndexFunc_relay_limit_relay_limit p0 pA0 pc0 p1 pv1 w φ hs ha0 ha1 h2) (.inr Z) ?_)))))))
 rintro φ4 L5 v6 W7 le8 hS9 ⟨rfl,rfl⟩
 have hS10:St ⟨w,[],φ⟩ φ4 [] W7:=hS9
 refine oR Z (fun _=>Runs.geq Z Z Z) (oA Z Z (eN (zO ?_)))
 cases hm3
 exact ⟨Z,_,(zq Z),φ4,_,hS10,Z,Z⟩
theorem w_relay_each_relay_limit (p0:List T_relay_limit) (pA0:Option Addr) (pc0:Nat) (p1:(T_relay_limit→Option Bool)) (pv1:Value) (w:World) (φ:PHeap) (hS:St0 w φ []) (ha0:SlR φ rl283 pA0 pc0 p0) (ha1:FnOK Tryz.prog φ pv1 ar286 rr286 p1) {r:Bool} (hm:m_relay_each_relay_limit p0 p1=some r):Gv Tryz.prog 195 [.slice pA0 p0.length pc0,pv1] w (RetS w [] φ (fun φ_ L_ v=>v=.bool r∧L_=[])):=by
 unfold m_relay_each_relay_limit at hm
 refine Gv.of Tryz.func195 Z Tryz.ntmps195 Tryz.results195 Z (sR (.fx 0 (.fl 1 (.nil)) .stop) Z (Zd (cs:=[pv1]) Z Z Z Z Z Z (FnOK.cells ha1) hS ?_))
 intro W1 b2 hS3
 have q:=hS3.freeze (k:=0) rfl
 obtain ⟨φ5,le6,hC7,hS8⟩:=q
 replace hC7:=Cl.of hC7
 have hS9:St ⟨w,[],φ⟩ φ5 [] W1:=hS8
 replace hC7:Cl φ5 b2 0 [pv1]:=hC7
 refine oA Z Z (eN (sR (.fl 0 (.fl 1 (.fx 2 (.fl 3 (.fl 4 (.nil))) .stop))) Z (oM Z Z (oR Z (fun _=>Runs.mkf Z zZ (zD Z zZ)) ?_))))
 have h10:=ha0.le le6
 have h11:=ha1.le le6
 have hF12:FnOK Tryz.prog φ5 (.func (.func 248) #[] #[.pointer (some ⟨b2,0,none⟩)]) ar286 rr286 (fun x=>m_relay_each_relay_limit_1 x p1):=⟨248,[],[.pointer (some ⟨b2,0,none⟩)],rfl,Tryz.call248,fun φ1 w1 x y vs le hs ha hm=>by obtain ⟨pv_0_0,rfl,hq0_0⟩:=ha;exact w_relay_each_relay_limit_1 x pv_0_0 p1 b2 pv1 w1 φ1 hs hq0_0 (hC7.le le) (h11.le le) hm⟩
 refine bnK hm fun x13 h14 hm15=>zU 0 Z Z Z Z (zP Z Z Tryz.call247 (zD Z (zD Z zZ)) Z) hS9 (fun hs=>w_slices_ContainsFunc_relay_limit_relay_limit p0 pA0 pc0 (fun x=>m_relay_each_relay_limit_1 x p1) (.func (.func 248) #[] #[.pointer (some ⟨b2,0,none⟩)]) W1 φ5 hs h10 hF12 h14) (.inr Z) ?_
 rintro φ16 L17 v18 W19 le20 hS21 ⟨rfl,rfl⟩
 have hS22:St ⟨w,[],φ⟩ φ16 [] W19:=hS21
 refine oR Z (fun _=>ZL Z Z) (oA Z Z (eN (zO ?_)))
 cases hm15
 exact ⟨Z,_,(zq Z),φ16,_,hS22,Z,Z⟩
theorem w_relay_CheckRules (p0:T_relay_Rules) (pA0_0:Option Addr) (pc0_0:Nat) (w:World) (φ:PHeap) (hS:St0 w φ []) (ha0:Sl φ 1 pA0_0 pc0_0 p0.Classes.length (List.flatMap KL.encI p0.Classes)) {r:Int} (hm:m_relay_CheckRules p0=some r):Gv Tryz.prog 110 [.agg #[.slice pA0_0 p0.Classes.length pc0_0,.int .i64 p0.Each,.int .i64 p0.Laps,.int .i64 p0.Spare,.int .i64 p0.Loop,.int .i64 p0.Unused]] w (RetS w [] φ (fun φ_ L_ v=>v=.int .i64 r∧L_=[])):=by
 unfold m_relay_CheckRules at hm
 refine Gv.of Tryz.func110 rfl Tryz.ntmps110 Tryz.results110 rfl (sR (.fx 0 (.fl 1 (.nil)) .stop) rfl (Zd (cs:=[.slice pA0_0 p0.Classes.length pc0_0,.int .i64 p0.Each,.int .i64 p0.Laps,.int .i64 p0.Spare,.int .i64 p0.Loop,.int .i64 p0.Unused]) rfl rfl rfl rfl rfl rfl (by rfl) hS ?_))
 intro W1 b2 hS3
 have q:=hS3.freeze (k:=0) rfl
 obtain ⟨φ5,le6,hC7,hS8⟩:=q
 replace hC7:=Cl.of hC7
 have hS9:St ⟨w,[],φ⟩ φ5 [] W1:=hS8
 replace hC7:Cl φ5 b2 0 [.slice pA0_0 p0.Classes.length pc0_0,.int .i64 p0.Each,.int .i64 p0.Laps,.int .i64 p0.Spare,.int .i64 p0.Loop,.int .i64 p0.Unused]:=hC7
 refine oA Z Z (eN (zE (zS (sR (fC0_2 (.fx 3 (.fl 4 (.fl 5 (.nil))) .stop)) Z (oR Z (fun _=>zF Z Z zg Z zN) (oL Z (hS9.ldC (f:=0) hC7 (v:=.slice pA0_0 p0.Classes.length pc0_0) Z Z zd Z) (oR Z (fun _=>zV Z Z zA) (bnK hm fun x10 h11 hm12=>zU 0 Z Z Z Z (zP Z Z Zr (zD Z (zD Z (zD Z zZ))) Z) hS9 (fun hs=>w_relay_in (↑p0.Classes.length:Int) 1 4 W1 φ5 hs h11) (.inr Z) ?_))))))))
 rintro φ13 L14 v15 W16 le17 hS18 ⟨rfl,rfl⟩
 have hS19:St ⟨w,[],φ⟩ φ13 [] W16:=hS18
 refine oR Z (fun _=>ZL Z Z) (oA Z Z (eN (ifc hm12 ?_ ?_)))
 ·intro c20 hm21
  refine zr (congrArg (fun b=>Value.bool (!b)) c20.out) (sR (.fl 0 (.fl 1 (.fx 2 (.fl 3 (.fl 4 (.fx 5 (.fl 6 (.fx 7 (fC8_10 (.nil)) .stop)) .stop))) .stop))) Z (oR Z (fun _=>zF Z Z zg Z zN) ?_))
  have h22:=hC7.le le17
  refine oL Z (hS19.ldC (f:=0) h22 (v:=.slice pA0_0 p0.Classes.length pc0_0) Z Z zd Z) ?_
  have h23:=ha0.le le6
  have h24:=h23.le le17
  refine bnK hm21 fun x25 h26 hm27=>zU 0 Z Z Z Z (zP Z Z Tryz.call115 (zD Z zZ) Z) hS19 (fun hs=>w_relay_classed p0.Classes pA0_0 pc0_0 W16 φ13 hs h24 h26) (.inr Z) ?_
  rintro φ28 L29 v30 W31 le32 hS33 ⟨rfl,rfl⟩
  have hS34:St ⟨w,[],φ⟩ φ28 [] W31:=hS33
  refine oR Z (fun _=>ZL Z Z) (oM Z Z (ifc hm27 ?_ ?_))
  ·intro c35 hm36
   refine bnK hm36 fun x37 h38 hm39=>zU 0 Z Z Z (zK Z Z (congrArg (fun b=>Value.bool (!b)) c35.out)) (zP Z Z Tryz.call196 zZ Z) hS34 (fun hs=>w_relay_limits W31 φ28 hs h38) (.inr Z) ?_
   rintro φ40 L41 v42 W43 le44 hS45 ⟨A46,c47,c48,rfl,rfl,h50⟩
   have hS51:St ⟨w,[],φ⟩ φ40 [.row A46 c47 283 3 c48] W43:=hS45
   refine zi Z Z Z (zK Z Z (congrArg (fun b=>Value.bool (!b)) c35.out)) (fun _=>Runs.mkf Z zZ (zD Z zZ)) ?_
   have q:=hS51.freezeRR (R:=rl283) (k:=0) rfl h50 rfl (by decide)
   obtain ⟨φ52,le53,hs54,hS55⟩:=q
   have hS56:St ⟨w,[],φ⟩ φ52 [] W43:=hS55
   have h57:=h22.le le32
   have h58:=h57.le le44
   have h59:=h58.le le53
   have h60:=h24.le le32
   have h61:=h60.le le44
   have h62:=h61.le le53
   have hF63:FnOK Tryz.prog φ52 (.func (.func 197) #[] #[.pointer (some ⟨b2,0,none⟩)]) ar286 rr286 (fun x=>m_relay_CheckRules_1 x p0):=⟨197,[],[.pointer (some ⟨b2,0,none⟩)],rfl,Tryz.call197,fun φ1 w1 x y vs le hs ha hm=>by obtain ⟨pv_0_0,rfl,hq0_0⟩:=ha;exact w_relay_CheckRules_1 x pv_0_0 p0 b2 pA0_0 pc0_0 w1 φ1 hs hq0_0 (h59.le le) (h62.le le) hm⟩
   refine bnK hm39 fun x64 h65 hm66=>zU 0 Z Z Z (zK Z Z (congrArg (fun b=>Value.bool (!b)) c35.out)) (zP Z Z Tryz.call195 (zD Z (zD Z zZ)) Z) hS56 (fun hs=>w_relay_each_relay_limit x37 A46 c47 (fun x=>m_relay_CheckRules_1 x p0) (.func (.func 197) #[] #[.pointer (some ⟨b2,0,none⟩)]) W43 φ52 hs hs54 hF63 h65) (.inr Z) ?_
   rintro φ67 L68 v69 W70 le71 hS72 ⟨rfl,rfl⟩
   have hS73:St ⟨w,[],φ⟩ φ67 [] W70:=hS72
   refine zi Z Z Z (zK Z Z (congrArg (fun b=>Value.bool (!b)) c35.out)) (fun _=>ZL Z Z) (oR Z (fun _=>zl Z (congrArg (fun b=>Value.bool (!b)) c35.out) Z) (oA Z Z (eN (ifc hm66 ?_ ?_))))
   ·intro c74 hm75
    refine zr (congrArg (fun b=>Value.bool (!b)) c74.out) (ZU (zh (zH (sR fL1 Z (oA Z Z (eN (zO ?_)))))))
    cases hm75
    exact ⟨Z,_,(zq Z),φ67,_,hS73,Z,Z⟩
   ·intro c74 hm76
    refine zn (congrArg (fun b=>Value.bool (!b)) (Bool.eq_false_iff.2 c74.out)) (sR fL1 Z (oA Z Z (eN (zO (zI (zB ?_))))))
    cases hm76
    exact ⟨Z,_,(zq Z),φ67,_,hS73,Z,Z⟩
  ·intro c35 hm77
   refine Zq Z Z Z (ZA Z Z (congrArg (fun b=>Value.bool (!b)) (Bool.eq_false_iff.2 c35.out)) Z) (ZQ Z Z Z (ZA Z Z (congrArg (fun b=>Value.bool (!b)) (Bool.eq_false_iff.2 c35.out)) Z) (Zq Z Z Z (ZA Z Z (congrArg (fun b=>Value.bool (!b)) (Bool.eq_false_iff.2 c35.out)) Z) (ZQ Z Z Z (ZA Z Z (congrArg (fun b=>Value.bool (!b)) (Bool.eq_false_iff.2 c35.out)) Z) (oR Z (fun _=>zM Z (congrArg (fun b=>Value.bool (!b)) (Bool.eq_false_iff.2 c35.out)) Z) (oA Z Z (eN (zn Z (sR fL1 Z (oA Z Z (eN (zO (zI (zB ?_)))))))))))))
   cases hm77
   exact ⟨Z,_,(zq Z),φ28,_,hS34,Z,Z⟩
 ·intro c20 hm78
  refine zn (congrArg (fun b=>Value.bool (!b)) (Bool.eq_false_iff.2 c20.out)) (sR fL1 Z (oA Z Z (eN (zO (zI (zB ?_))))))
  cases hm78
  exact ⟨Z,_,(zq Z),φ13,_,hS19,Z,Z⟩
theorem w_relay_Rules_sized (p0:T_relay_Rules) (pA0_0:Option Addr) (pc0_0:Nat) (p1:T_relay_Team) (pA1_1:Option Addr) (pc1_1:Nat) (pA1_2:Option Addr) (pc1_2:Nat) (w:World) (φ:PHeap) (hS:St0 w φ []) (ha0:Sl φ 1 pA0_0 pc0_0 p0.Classes.length (List.flatMap KL.encI p0.Classes)) (ha1:Sl φ 1 pA1_1 pc1_1 p1.Classes.length (List.flatMap KL.encI p1.Classes)) (ha2:SlR φ rl47 pA1_2 pc1_2 p1.Legs) {r:Bool} (hm:m_relay_Rules_sized p0 p1=some r):Gv Tryz.prog 113 [.agg #[.slice pA0_0 p0.Classes.length pc0_0,.int .i64 p0.Each,.int .i64 p0.Laps,.int .i64 p0.Spare,.int .i64 p0.Loop,.int .i64 p0.Unused],.agg #[.int .i64 p1.Bib,.slice pA1_1 p1.Classes.length pc1_1,.slice pA1_2 p1.Legs.length pc1_2]] w (RetS w [] φ (fun φ_ L_ v=>v=.bool r∧L_=[])):=by
 unfold m_relay_Rules_sized at hm
 refine Gv.of Tryz.func113 rfl Tryz.ntmps113 Tryz.results113 rfl (sR (.fx 0 (.fx 1 (.fl 2 (.nil)) .stop) .stop) rfl (Zd (cs:=[.slice pA0_0 p0.Classes.length pc0_0,.int .i64 p0.Each,.int .i64 p0.Laps,.int .i64 p0.Spare,.int .i64 p0.Loop,.int .i64 p0.Unused]) rfl rfl rfl rfl rfl rfl (by rfl) hS ?_))
 intro W1 b2 hS3
 refine Zd (cs:=[.int .i64 p1.Bib,.slice pA1_1 p1.Classes.length pc1_1,.slice pA1_2 p1.Legs.length pc1_2]) rfl rfl rfl rfl rfl rfl (by rfl) hS3 ?_
 intro W5 b6 hS7
 refine oA Z Z (eN (zE (sR (fC0_2 (.fx 3 (fC4_13 (.nil)) .stop)) Z (oR Z (fun _=>zF Z Z zk Z zN) (oL Z (hS7.ldB (j:=0) Z Z Z zd (v:=.slice pA1_1 p1.Classes.length pc1_1) Z) (oR Z (fun _=>zV Z Z zA) (bnK hm fun x9 h10 hm11=>zU 0 Z Z Z Z (zP Z Z Zr (zD Z (zD Z (zD Z zZ))) Z) hS7 (fun hs=>w_relay_in (↑p1.Classes.length:Int) 1 8 W5 φ hs h10) (.inr Z) ?_)))))))
 rintro φ12 L13 v14 W15 le16 hS17 ⟨rfl,rfl⟩
 let B0:Res:=.blk b6 44 [.int .i64 p1.Bib,.slice pA1_1 p1.Classes.length pc1_1,.slice pA1_2 p1.Legs.length pc1_2]
 let B1:Res:=.blk b2 25 [.slice pA0_0 p0.Classes.length pc0_0,.int .i64 p0.Each,.int .i64 p0.Laps,.int .i64 p0.Spare,.int .i64 p0.Loop,.int .i64 p0.Unused]
 have hS18:St ⟨w,[],φ⟩ φ12 [B0,B1] W15:=hS17
 refine oR Z (fun _=>ZL Z Z) (oM Z Z (ifc hm11 ?_ ?_))
 ·intro c19 hm20
  refine zi Z Z Z (zK Z Z (congrArg (fun b=>Value.bool (!b)) c19.out)) (fun _=>zF Z Z zk Z ZS) (ZD Z Z Z (zK Z Z (congrArg (fun b=>Value.bool (!b)) c19.out)) (hS18.ldB (j:=0) Z Z Z Zz (v:=.slice pA1_2 p1.Legs.length pc1_2) Z) Z (zi Z Z Z (zK Z Z (congrArg (fun b=>Value.bool (!b)) c19.out)) (fun _=>zV Z Z ZJ) (zi Z Z Z (zK Z Z (congrArg (fun b=>Value.bool (!b)) c19.out)) (fun _=>zF Z Z zg Z zN) (ZD Z Z Z (zK Z Z (congrArg (fun b=>Value.bool (!b)) c19.out)) (hS18.ldB (j:=1) Z Z Z zd (v:=.slice pA0_0 p0.Classes.length pc0_0) Z) Z (zi Z Z Z (zK Z Z (congrArg (fun b=>Value.bool (!b)) c19.out)) (fun _=>zV Z Z zA) (zi Z Z Z (zK Z Z (congrArg (fun b=>Value.bool (!b)) c19.out)) (fun _=>Zy Z Z Z) (oR Z (fun _=>zl Z (congrArg (fun b=>Value.bool (!b)) c19.out) Z) (eN (ifc hm20 ?_ ?_)))))))))
  ·intro c21 hm22
   refine cT Z c21 (sR fL1 Z (oA Z Z (eN (zO (zB ?_)))))
   have hE:=Option.some.inj hm22;first | subst r | cases hE
   exact ⟨rfl,_,(zq rfl),φ12,_,(hS18.pick [] _ (by decide) rfl),rfl,rfl⟩
  ·intro c21 hm23
   refine cF Z c21 (kN (zE (sR fL4 Z (oR Z (fun _=>zF Z Z zk Z ZS) (oL Z (hS18.ldB (j:=0) Z Z Z Zz (v:=.slice pA1_2 p1.Legs.length pc1_2) Z) (oR Z (fun _=>zV Z Z ZJ) (oM Z Z (eN (zS ?_)))))))))
   have q:=jn_some hm23
   obtain ⟨r26,hX27⟩:=q
   have q:=forR_le hX27
   obtain ⟨hle28,hf29⟩:=q
   replace hle28:=zG hle28
   refine Zx (fun k25 _ σ_ w_=>∃ (φ_:PHeap),σ_ 24=.int .i64 (↑k25:Int)∧σ_ 2=.pointer (some ⟨b2,0,none⟩)∧σ_ 3=.pointer (some ⟨b6,0,none⟩)∧σ_ 22=.slice pA1_2 p1.Legs.length pc1_2∧σ_ 23=.int .i64 (↑p1.Legs.length:Int)∧PHeap.Le φ12 φ_∧St ⟨w,[],φ⟩ φ_ [B0,B1] w_) hf29 ?_ ?_ ?_
   ·exact ⟨φ12,Z,Z,Z,Z,Z,(zf _),hS18⟩
   ·rintro k25 ⟨⟩ xx32 σ30 W31 hk35 ⟨φ37,fi36,f40,f41,f42,f43,le38,hS39⟩ hx33 hb34
    try dsimp only at hx33
    have c44:Hid ((↑k25:Int) < (↑p1.Legs.length:Int)):=zG (lp_lt0 hk35)
    replace hk35:=zG hk35
    have hi45:Hid (w64 ((↑k25:Int) + 1)=(↑(k25 + 1):Int)):=zG (by have h1:=hle28.out;have h2:=c44.out;rw [w64_in] <;> omega)
    refine sR fL1 Z (oR Z (fun _=>zW Z fi36 f43) (eN (zE (cT Z c44 (kN (zE (zS (sR (fC0_2 (.fx 3 (.fl 4 (.fx 5 (.nil) .stop)) .stop)) Z (oM Z fi36 (bnK hx33 fun x46 h47 hm48=>?_))))))))))
    have h49:=ha2.le le16
    have h50:=h49.le le38
    have q:=h50.el (idx_get h47)
    obtain ⟨b51,off52,vs55,hA53,hC54,hr56⟩:=q
    obtain ⟨pA57,pc58,pA59,pc60,rfl,h61,h62⟩:=hr56
    replace hC54:Cl φ37 b51 (off52 + k25 * 3) [.int .i64 x46.Skier,.slice pA57 x46.Loops.length pc58,.slice pA59 x46.Bouts.length pc60]:=hC54
    refine oR Z (fun _=>zu Z f42 hA53 fi36 ZJ ZF (idx_lt h47)) (oL Z (hS39.ldCA (f:=0) hC54 Z Z yD ZF (us:=[.int .i64 x46.Skier,.slice pA57 x46.Loops.length pc58,.slice pA59 x46.Bouts.length pc60]) Z Z) (ZK (cs:=[.int .i64 0,.slice none 0 0,.slice none 0 0]) Z Z Z Z Z ZR Z hS39 ?_))
    intro W63 b64 hS65
    refine oA Z Z (zx (j:=0) (vs:=[.int .i64 x46.Skier,.slice pA57 x46.Loops.length pc58,.slice pA59 x46.Bouts.length pc60]) Z Z Z Z hS65 Z Z Z Z ZF (zC Z) Z Z Z ?_)
    intro W67 hS68
    have hS69:St ⟨w,[],φ⟩ φ37 [.blk b64 47 [.int .i64 x46.Skier,.slice pA57 x46.Loops.length pc58,.slice pA59 x46.Bouts.length pc60],B0,B1] W67:=hS68
    refine eN (sR fL33 Z (oR Z (fun _=>zF Z Z zo Z zN) (oL Z (hS69.ldB (j:=0) Z Z Z zd (v:=.slice pA57 x46.Loops.length pc58) Z) (oR Z (fun _=>zV Z Z zA) (oR Z (fun _=>zF Z f40 zg Z zJ) (oL Z (hS69.ldB (j:=2) Z Z Z zR (v:=.int .i64 p0.Laps) Z) (oR Z (fun _=>Zy Z Z Z) (oM Z Z (ifc hm48 ?_ ?_)))))))))
    ·intro c70 hm71
     refine oT Z c70 (oT Z c70 (oT Z c70 (oT Z c70 (oT Z c70 (oT Z c70 (oT Z c70 (ZQ Z Z Z (wantedU Z Z Z) (ZQ Z Z Z (wantedU Z Z Z) (ZQ Z Z Z (wantedU Z Z Z) (ZQ Z Z Z (wantedU Z Z Z) (ZQ Z Z Z (wantedU Z Z Z) (ZQ Z Z Z (wantedU Z Z Z) (oT Z c70 (oR Z (fun _=>zM Z (Zb c70.out) Z) (oM Z Z (oN Z (oN Z (oN Z (oN Z (oN Z (oN Z (oN Z (oN Z (oN Z (oR Z (fun _=>zM Z Z Z) (eN (zn Z (sR fL1 Z (oA Z Z (eN (zO (zI (zB ?_)))))))))))))))))))))))))))))))))
     have q:=esc_spec hm71
     obtain ⟨v72,hm73,e74⟩:=q
     obtain rfl:=jn_inr hm23 hX27 (hb34 v72 e74)
     refine zB (zI (zB ?_))
     have hE:=Option.some.inj hm73;first | subst r | cases hE
     exact ⟨rfl,_,(zq rfl),φ37,_,(hS69.pick [] _ (by decide) rfl),rfl,rfl⟩
    ·intro c70 hm75
     refine zj Z Z Z (wF Z c70) Z Z (rU Z (wF Z c70) (fun _=>zF Z f41 zk Z ZS) (ZD Z Z Z (wF Z c70) (hS69.ldB (j:=1) Z Z Z Zz (v:=.slice pA1_2 p1.Legs.length pc1_2) Z) Z (rU Z (wF Z c70) (fun _=>zV Z Z ZJ) (rU Z (wF Z c70) (fun _=>Za Z Z Z) (rU Z (wF Z c70) (fun _=>zW Z Z Z) (zj Z Z Z (wF Z c70) Z Z (ifc hm75 ?_ ?_)))))))
     ·intro c76 hm77
      refine rU Z (wT Z c76) (fun _=>zF Z Z zo Z zN) (ZD Z Z Z (wT Z c76) (hS69.ldB (j:=0) Z Z Z zd (v:=.slice pA57 x46.Loops.length pc58) Z) Z (rU Z (wT Z c76) (fun _=>zV Z Z zA) (rU Z (wT Z c76) (fun _=>zF Z f40 zg Z zJ) (ZD Z Z Z (wT Z c76) (hS69.ldB (j:=2) Z Z Z zR (v:=.int .i64 p0.Laps) Z) Z (rU Z (wT Z c76) (fun _=>zW Z Z Z) (rU Z (wF Z c70) (fun _=>zM Z (Zb c76.out) Z) (oR Z (fun _=>zl Z (zX c70.out) Z) (oM Z Z (ifc hm77 ?_ ?_)))))))))
      ·intro c78 hm79
       refine oT Z c78 (oT Z c78 (oT Z c78 (oT Z c78 (oT Z c78 (oT Z c78 (oT Z c78 (oT Z c78 (oT Z c78 (oR Z (fun _=>zM Z (Zb c78.out) Z) (eN (zn Z (sR fL1 Z (oA Z Z (eN (zO (zI (zB ?_)))))))))))))))))
       have q:=esc_spec hm79
       obtain ⟨v80,hm81,e82⟩:=q
       obtain rfl:=jn_inr hm23 hX27 (hb34 v80 e82)
       refine zB (zI (zB ?_))
       have hE:=Option.some.inj hm81;first | subst r | cases hE
       exact ⟨rfl,_,(zq rfl),φ37,_,(hS69.pick [] _ (by decide) rfl),rfl,rfl⟩
      ·intro c78 hm83
       refine rU Z (wF Z c78) (fun _=>zF Z Z zo Z Zm) (ZD Z Z Z (wF Z c78) (hS69.ldB (j:=0) Z Z Z yG (v:=.slice pA59 x46.Bouts.length pc60) Z) Z (rU Z (wF Z c78) (fun _=>zV Z Z Zg) (rU Z (wF Z c78) (fun _=>zF Z Z zo Z zN) (ZD Z Z Z (wF Z c78) (hS69.ldB (j:=0) Z Z Z zd (v:=.slice pA57 x46.Loops.length pc58) Z) Z (rU Z (wF Z c78) (fun _=>zV Z Z zA) (rU Z (wF Z c78) (fun _=>Za Z Z Z) (rU Z (wF Z c78) (fun _=>Runs.max Z Z Z) (rU Z (wF Z c78) (fun _=>ZI Z Z Z) (oR Z (fun _=>zl Z (zX c78.out) Z) (eN (ifc hm83 ?_ ?_)))))))))))
       ·intro c84 hm85
        refine zr (zX (fun h=>h c84.out)) (ZU (zh (zH (rR fL2 Z (oR Z (fun _=>zz (zY Z fi36 Z) (congrArg (Value.int .i64) hi45.out)) (oM Z Z (zp ?_)))))))
        obtain rfl:=Option.some.inj hm85
        exact zH ⟨rfl,_,rfl,⟨φ37,rfl,f40,f41,f42,f43,le38,(hS69.pick [1,2] _ (by decide) rfl)⟩⟩
       ·intro c84 hm86
        refine cT Z c84 (sR fL1 Z (oA Z Z (eN (zO (zI (zB ?_))))))
        have q:=esc_spec hm86
        obtain ⟨v87,hm88,e89⟩:=q
        obtain rfl:=jn_inr hm23 hX27 (hb34 v87 e89)
        refine zB (zI (zB ?_))
        have hE:=Option.some.inj hm88;first | subst r | cases hE
        exact ⟨rfl,_,(zq rfl),φ37,_,(hS69.pick [] _ (by decide) rfl),rfl,rfl⟩
     ·intro c76 hm90
      refine oF Z c76 (oF Z c76 (oF Z c76 (oF Z c76 (oF Z c76 (oF Z c76 (rU Z (wF Z c70) (fun _=>zl Z (zX c76.out) Z) (oR Z (fun _=>zl Z (zX c70.out) Z) (oM Z Z (zi Z Z Z (zK Z Z Z) (fun _=>zF Z Z zo Z Zm) (ZD Z Z Z (zK Z Z Z) (hS69.ldB (j:=0) Z Z Z yG (v:=.slice pA59 x46.Bouts.length pc60) Z) Z (zi Z Z Z (zK Z Z Z) (fun _=>zV Z Z Zg) (zi Z Z Z (zK Z Z Z) (fun _=>zF Z Z zo Z zN) (ZD Z Z Z (zK Z Z Z) (hS69.ldB (j:=0) Z Z Z zd (v:=.slice pA57 x46.Loops.length pc58) Z) Z (zi Z Z Z (zK Z Z Z) (fun _=>zV Z Z zA) (zi Z Z Z (zK Z Z Z) (fun _=>Za Z Z Z) (zi Z Z Z (zK Z Z Z) (fun _=>Runs.max Z Z Z) (zi Z Z Z (zK Z Z Z) (fun _=>ZI Z Z Z) (oR Z (fun _=>zl Z Z Z) (eN (ifc hm90 ?_ ?_))))))))))))))))))))
      ·intro c91 hm92
       refine zr (zX (fun h=>h c91.out)) (ZU (zh (zH (rR fL2 Z (oR Z (fun _=>zz (zY Z fi36 Z) (congrArg (Value.int .i64) hi45.out)) (oM Z Z (zp ?_)))))))
       obtain rfl:=Option.some.inj hm92
       exact zH ⟨rfl,_,rfl,⟨φ37,rfl,f40,f41,f42,f43,le38,(hS69.pick [1,2] _ (by decide) rfl)⟩⟩
      ·intro c91 hm93
       refine cT Z c91 (sR fL1 Z (oA Z Z (eN (zO (zI (zB ?_))))))
       have q:=esc_spec hm93
       obtain ⟨v94,hm95,e96⟩:=q
       obtain rfl:=jn_inr hm23 hX27 (hb34 v94 e96)
       refine zB (zI (zB ?_))
       have hE:=Option.some.inj hm95;first | subst r | cases hE
       exact ⟨rfl,_,(zq rfl),φ37,_,(hS69.pick [] _ (by decide) rfl),rfl,rfl⟩
   ·rintro ⟨⟩ σ97 W98 ⟨φ101,fi100,f104,f105,f106,f107,le102,hS103⟩ hb99
    have hm108:=jn_inl hm23 hX27 hb99
    try dsimp only at hm108
    have c109:Hid (¬ ((↑(((↑p1.Legs.length:Int):Int) - 0).toNat:Int) < (↑p1.Legs.length:Int))):=zG (lp_end0)
    refine sR fL1 Z (oR Z (fun _=>zW Z fi100 f107) (eN (zE (cF Z c109 (ZG (ze (ze (zw (zH (sR fL1 Z (oA Z Z (eN (zO ?_)))))))))))))
    have hE:=Option.some.inj hm108;first | subst r | cases hE
    exact ⟨rfl,_,(zq rfl),φ101,_,(hS103.pick [] _ (by decide) rfl),rfl,rfl⟩
 ·intro c19 hm110
  refine ZQ Z Z Z (ZA Z Z (congrArg (fun b=>Value.bool (!b)) (Bool.eq_false_iff.2 c19.out)) Z) (ZQ Z Z Z (ZA Z Z (congrArg (fun b=>Value.bool (!b)) (Bool.eq_false_iff.2 c19.out)) Z) (ZQ Z Z Z (ZA Z Z (congrArg (fun b=>Value.bool (!b)) (Bool.eq_false_iff.2 c19.out)) Z) (ZQ Z Z Z (ZA Z Z (congrArg (fun b=>Value.bool (!b)) (Bool.eq_false_iff.2 c19.out)) Z) (ZQ Z Z Z (ZA Z Z (congrArg (fun b=>Value.bool (!b)) (Bool.eq_false_iff.2 c19.out)) Z) (ZQ Z Z Z (ZA Z Z (congrArg (fun b=>Value.bool (!b)) (Bool.eq_false_iff.2 c19.out)) Z) (ZQ Z Z Z (ZA Z Z (congrArg (fun b=>Value.bool (!b)) (Bool.eq_false_iff.2 c19.out)) Z) (oR Z (fun _=>zM Z (congrArg (fun b=>Value.bool (!b)) (Bool.eq_false_iff.2 c19.out)) Z) (eN (zn Z (sR fL1 Z (oA Z Z (eN (zO (zB ?_))))))))))))))
  have hE:=Option.some.inj hm110;first | subst r | cases hE
  exact ⟨rfl,_,(zq rfl),φ12,_,(hS18.pick [] _ (by decide) rfl),rfl,rfl⟩
end Go.Proofs.YtjfffcjjlnmneaaGreat
namespace Go.Proofs.YtjfffcjjlnmneaaGreat
open Go.KL
set_option maxHeartbeats 4000000
theorem w_relay_each_relay_Team_1 (p0:T_relay_Team) (pA0_1:Option Addr) (pc0_1:Nat) (pA0_2:Option Addr) (pc0_2:Nat) (p1:(T_relay_Team→Option Bool)) (pb1:Nat) (pv1:Value) (w:World) (φ:PHeap) (hS:St0 w φ []) (ha0:Sl φ 1 pA0_1 pc0_1 p0.Classes.length (List.flatMap KL.encI p0.Classes)) (ha1:SlR φ rl47 pA0_2 pc0_2 p0.Legs) (ha2:Cl φ pb1 0 [pv1]) (ha3:FnOK Tryz.prog φ pv1 ar113 rr113 p1) {r:Bool} (hm:m_relay_each_relay_Team_1 p0 p1=some r):Gv Tryz.prog 199 [.agg #[.int .i64 p0.Bib,.slice pA0_1 p0.Classes.length pc0_1,.slice pA0_2 p0.Legs.length pc0_2],.pointer (some ⟨pb1,0,none⟩)] w (RetS w [] φ (fun φ_ L_ v=>v=.bool r∧L_=[])):=by
 unfold m_relay_each_relay_Team_1 at hm
 refine Gv.of Tryz.func199 rfl Tryz.ntmps199 Tryz.results199 rfl (sR (.fx 0 (.fl 1 (.nil)) .stop) rfl (Zd (cs:=[.int .i64 p0.Bib,.slice pA0_1 p0.Classes.length pc0_1,.slice pA0_2 p0.Legs.length pc0_2]) rfl rfl rfl rfl rfl rfl (by rfl) hS ?_))
 intro W1 b2 hS3
 refine oA Z Z (eN (sR (.fl 0 (.fl 1 (.fx 2 (.fl 3 (.fl 4 (.nil))) .stop))) Z (oL Z (hS3.ldC (f:=0) ha2 (v:=pv1) Z Z Tryz.isAgg113 Z) (oL Z (hS3.ldBA (j:=0) Z Z Z yA ZB (vs:=[.int .i64 p0.Bib,.slice pA0_1 p0.Classes.length pc0_1,.slice pA0_2 p0.Legs.length pc0_2]) Z Z) (bnK hm fun x5 h6 hm7=>OKS.callV (a:=p0) Z Z Z Z Z Z (zD Z zZ) hS3 ha3 ⟨pA0_1,pc0_1,pA0_2,pc0_2,Z,ha0,ha1⟩ h6 ?_)))))
 rintro φ8 L9 v10 W11 le12 hS13 ⟨rfl,rfl⟩
 have hS14:St ⟨w,[],φ⟩ φ8 [.blk b2 44 [.int .i64 p0.Bib,.slice pA0_1 p0.Classes.length pc0_1,.slice pA0_2 p0.Legs.length pc0_2]] W11:=hS13
 refine oR Z (fun _=>ZL Z Z) (oA Z Z (eN (zO ?_)))
 cases hm7
 exact ⟨rfl,_,(zq rfl),φ8,_,(hS14.pick [] _ (by decide) rfl),rfl,rfl⟩
theorem w_slices_IndexFunc_relay_Team_relay_Team (p0:List T_relay_Team) (pA0:Option Addr) (pc0:Nat) (p1:(T_relay_Team→Option Bool)) (pv1:Value) (w:World) (φ:PHeap) (hS:St0 w φ []) (ha0:SlR φ rl44 pA0 pc0 p0) (ha1:FnOK Tryz.prog φ pv1 ar113 rr113 p1) {r:Int} (hm:m_slices_IndexFunc_relay_Team_relay_Team p0 p1=some r):Gv Tryz.prog 53 [.slice pA0 p0.length pc0,pv1] w (RetS w [] φ (fun φ_ L_ v=>v=.int .i64 r∧L_=[])):=by
 unfold m_slices_IndexFunc_relay_Team_relay_Team at hm
 refine Gv.of Tryz.func53 Z Tryz.ntmps53 Tryz.results53 Z (sR fL1 Z (oA Z Z (eN (zE (sR fL3 Z (oM Z Z (oR Z (fun _=>zV Z Z zm) (oM Z Z (eN (zS ?_))))))))))
 have q:=jn_some hm
 obtain ⟨r3,hX4⟩:=q
 have q:=forR_le hX4
 obtain ⟨hle5,hf6⟩:=q
 replace hle5:=zG hle5
 refine Zx (fun k2 _ σ_ w_=>∃ (φ_:PHeap),σ_ 8=.int .i64 (↑k2:Int)∧σ_ 0=.slice pA0 p0.length pc0∧σ_ 1=pv1∧σ_ 7=.int .i64 (↑p0.length:Int)∧PHeap.Le φ φ_∧St ⟨w,[],φ⟩ φ_ [] w_) hf6 ?_ ?_ ?_
 ·exact ⟨φ,Z,Z,Z,Z,(zf _),hS⟩
 ·rintro k2 ⟨⟩ xx9 σ7 W8 hk12 ⟨φ14,fi13,f17,f18,f19,le15,hS16⟩ hx10 hb11
  try dsimp only at hx10
  have c20:Hid ((↑k2:Int) < (↑p0.length:Int)):=zG (lp_lt0 hk12)
  replace hk12:=zG hk12
  have hi21:Hid (w64 ((↑k2:Int) + 1)=(↑(k2 + 1):Int)):=zG (by have h1:=hle5.out;have h2:=c20.out;rw [w64_in] <;> omega)
  refine sR fL1 Z (oR Z (fun _=>zW Z fi13 f19) (eN (zE (cT Z c20 (kN (zE (zS (sR fL2 Z (oM Z fi13 (oA Z Z (eN (sR (fC0_4 (.fx 5 (.nil) .stop)) Z (oM Z f18 (oM Z f17 (oM Z Z (bnK hx10 fun x22 h23 hm24=>?_))))))))))))))))
  have h25:=ha0.le le15
  have q:=h25.el (idx_get h23)
  obtain ⟨b26,off27,vs30,hA28,hC29,hr31⟩:=q
  obtain ⟨pA32,pc33,pA34,pc35,rfl,h36,h37⟩:=hr31
  replace hC29:Cl φ14 b26 (off27 + k2 * 3) [.int .i64 x22.Bib,.slice pA32 x22.Classes.length pc33,.slice pA34 x22.Legs.length pc35]:=hC29
  refine oR Z (fun _=>zu Z Z hA28 Z zm ZB (idx_lt h23)) (oL Z (hS16.ldCA (f:=0) hC29 Z Z yA ZB (us:=[.int .i64 x22.Bib,.slice pA32 x22.Classes.length pc33,.slice pA34 x22.Legs.length pc35]) Z Z) (bnK hm24 fun x38 h39 hm40=>?_))
  have h47:=ha1.le le15
  refine OKS.callV (a:=x22) Z Z Z Z Z Z (zD Z zZ) hS16 h47 ⟨pA32,pc33,pA34,pc35,Z,h36,h37⟩ h39 ?_
  rintro φ41 L42 v43 W44 le45 hS46 ⟨rfl,rfl⟩
  have hS48:St ⟨w,[],φ⟩ φ41 [] W44:=hS46
  refine eN (ifc hm40 ?_ ?_)
  ·intro c49 hm50
   refine zn (congrArg Value.bool c49.out) (sR fL2 Z (oM Z Z (oA Z Z (eN (zO (zI (zB ?_)))))))
   have q:=esc_spec hm50
   obtain ⟨v51,hm52,e53⟩:=q
   obtain rfl:=jn_inr hm hX4 (hb11 v51 e53)
   refine zB (zI (zB ?_))
   cases hm52
   exact ⟨Z,_,(zq Z),φ41,_,hS48,Z,Z⟩
  ·intro c49 hm54
   refine zr (congrArg Value.bool (Bool.eq_false_iff.2 c49.out)) (ZU (zh (zH (rR fL2 Z (oR Z (fun _=>zz (zY Z fi13 Z) (congrArg (Value.int .i64) hi21.out)) (oM Z Z (zp ?_)))))))
   obtain rfl:=Option.some.inj hm54
   exact zH ⟨Z,_,Z,⟨φ41,Z,f17,f18,f19,(le15.trans le45),hS48⟩⟩
 ·rintro ⟨⟩ σ55 W56 ⟨φ59,fi58,f62,f63,f64,le60,hS61⟩ hb57
  have hm65:=jn_inl hm hX4 hb57
  try dsimp only at hm65
  have c66:Hid (¬ ((↑(((↑p0.length:Int):Int) - 0).toNat:Int) < (↑p0.length:Int))):=zG (lp_end0)
  refine sR fL1 Z (oR Z (fun _=>zW Z fi58 f64) (eN (zE (cF Z c66 (ZG (ze (ze (zw (zH (sR fL1 Z (oA Z Z (eN (zO ?_)))))))))))))
  cases hm65
  exact ⟨Z,_,(zq Z),φ59,_,hS61,Z,Z⟩
theorem w_slices_ContainsFunc_relay_Team_relay_Team (p0:List T_relay_Team) (pA0:Option Addr) (pc0:Nat) (p1:(T_relay_Team→Option Bool)) (pv1:Value) (w:World) (φ:PHeap) (hS:St0 w φ []) (ha0:SlR φ rl44 pA0 pc0 p0) (ha1:FnOK Tryz.prog φ pv1 ar113 rr113 p1) {r:Bool} (hm:m_slices_ContainsFunc_relay_Team_relay_Team p0 p1=some r):Gv Tryz.prog 198 [.slice pA0 p0.length pc0,pv1] w (RetS w [] φ (fun φ_ L_ v=>v=.bool r∧L_=[])):=by
 unfold m_slices_ContainsFunc_relay_Team_relay_Team at hm
 refine Gv.of Tryz.func198 Z Tryz.ntmps198 Tryz.results198 Z (sR fL1 Z (oA Z Z (eN (sR (.fl 0 (.fl 1 (.fx 2 (.fl 3 (.fl 4 (.nil))) .stop))) Z (oM Z Z (oM Z Z (bnK hm fun x1 h2 hm3=>zU 0 Z Z Z Z (zP Z Z Tryz.call53 (zD Z (zD Z zZ)) Z) hS (fun hs=>w_slices_IndexFunc_relay_Team_relay_Team p0 pA0 pc0 p1 pv1 w φ hs ha0 ha1 h2) (.inr Z) ?_)))))))
 rintro φ4 L5 v6 W7 le8 hS9 ⟨rfl,rfl⟩
 have hS10:St ⟨w,[],φ⟩ φ4 [] W7:=hS9
 refine oR Z (fun _=>Runs.geq Z Z Z) (oA Z Z (eN (zO ?_)))
 cases hm3
 exact ⟨Z,_,(zq Z),φ4,_,hS10,Z,Z⟩
theorem w_relay_each_relay_Team (p0:List T_relay_Team) (pA0:Option Addr) (pc0:Nat) (p1:(T_relay_Team→Option Bool)) (pv1:Value) (w:World) (φ:PHeap) (hS:St0 w φ []) (ha0:SlR φ rl44 pA0 pc0 p0) (ha1:FnOK Tryz.prog φ pv1 ar113 rr113 p1) {r:Bool} (hm:m_relay_each_relay_Team p0 p1=some r):Gv Tryz.prog 112 [.slice pA0 p0.length pc0,pv1] w (RetS w [] φ (fun φ_ L_ v=>v=.bool r∧L_=[])):=by
 unfold m_relay_each_relay_Team at hm
 refine Gv.of Tryz.func112 Z Tryz.ntmps112 Tryz.results112 Z (sR (.fx 0 (.fl 1 (.nil)) .stop) Z (Zd (cs:=[pv1]) Z Z Z Z Z Z (FnOK.cells ha1) hS ?_))
 intro W1 b2 hS3
 have q:=hS3.freeze (k:=0) rfl
 obtain ⟨φ5,le6,hC7,hS8⟩:=q
 replace hC7:=Cl.of hC7
 have hS9:St ⟨w,[],φ⟩ φ5 [] W1:=hS8
 replace hC7:Cl φ5 b2 0 [pv1]:=hC7
 refine oA Z Z (eN (sR (.fl 0 (.fl 1 (.fx 2 (.fl 3 (.fl 4 (.nil))) .stop))) Z (oM Z Z (oR Z (fun _=>Runs.mkf Z zZ (zD Z zZ)) ?_))))
 have h10:=ha0.le le6
 have h11:=ha1.le le6
 have hF12:FnOK Tryz.prog φ5 (.func (.func 199) #[] #[.pointer (some ⟨b2,0,none⟩)]) ar113 rr113 (fun x=>m_relay_each_relay_Team_1 x p1):=⟨199,[],[.pointer (some ⟨b2,0,none⟩)],rfl,Tryz.call199,fun φ1 w1 x y vs le hs ha hm=>by obtain ⟨pA_0_1,pc_0_1,pA_0_2,pc_0_2,rfl,hq0_0,hq0_1⟩:=ha;exact w_relay_each_relay_Team_1 x pA_0_1 pc_0_1 pA_0_2 pc_0_2 p1 b2 pv1 w1 φ1 hs hq0_0 hq0_1 (hC7.le le) (h11.le le) hm⟩
 refine bnK hm fun x13 h14 hm15=>zU 0 Z Z Z Z (zP Z Z Tryz.call198 (zD Z (zD Z zZ)) Z) hS9 (fun hs=>w_slices_ContainsFunc_relay_Team_relay_Team p0 pA0 pc0 (fun x=>m_relay_each_relay_Team_1 x p1) (.func (.func 199) #[] #[.pointer (some ⟨b2,0,none⟩)]) W1 φ5 hs h10 hF12 h14) (.inr Z) ?_
 rintro φ16 L17 v18 W19 le20 hS21 ⟨rfl,rfl⟩
 have hS22:St ⟨w,[],φ⟩ φ16 [] W19:=hS21
 refine oR Z (fun _=>ZL Z Z) (oA Z Z (eN (zO ?_)))
 cases hm15
 exact ⟨Z,_,(zq Z),φ16,_,hS22,Z,Z⟩
theorem w_relay_Check_1 (p0:T_relay_Team) (pA0_1:Option Addr) (pc0_1:Nat) (pA0_2:Option Addr) (pc0_2:Nat) (w:World) (φ:PHeap) (hS:St0 w φ []) (ha0:Sl φ 1 pA0_1 pc0_1 p0.Classes.length (List.flatMap KL.encI p0.Classes)) (ha1:SlR φ rl47 pA0_2 pc0_2 p0.Legs) {r:Bool} (hm:m_relay_Check_1 p0=some r):Gv Tryz.prog 114 [.agg #[.int .i64 p0.Bib,.slice pA0_1 p0.Classes.length pc0_1,.slice pA0_2 p0.Legs.length pc0_2]] w (RetS w [] φ (fun φ_ L_ v=>v=.bool r∧L_=[])):=by
 unfold m_relay_Check_1 at hm
 refine Gv.of Tryz.func114 rfl Tryz.ntmps114 Tryz.results114 rfl (sR (.fx 0 (.fl 1 (.nil)) .stop) rfl (Zd (cs:=[.int .i64 p0.Bib,.slice pA0_1 p0.Classes.length pc0_1,.slice pA0_2 p0.Legs.length pc0_2]) rfl rfl rfl rfl rfl rfl (by rfl) hS ?_))
 intro W1 b2 hS3
 refine oA Z Z (eN (sR (.fl 0 (.fl 1 (.fx 2 (fC3_5 (.fx 6 (.fl 7 (.fl 8 (.nil))) .stop)) .stop))) Z (oR Z (fun _=>zF Z Z zk Z zJ) (oL Z (hS3.ldB (j:=0) Z Z Z zR (v:=.int .i64 p0.Bib) Z) (bnK hm fun x5 h6 hm7=>zU 0 Z Z Z Z (zP Z Z Zr (zD Z (zD Z (zD Z zZ))) Z) hS3 (fun hs=>w_relay_in p0.Bib 1 999 W1 φ hs h6) (.inr Z) ?_)))))
 rintro φ8 L9 v10 W11 le12 hS13 ⟨rfl,rfl⟩
 let B0:Res:=.blk b2 44 [.int .i64 p0.Bib,.slice pA0_1 p0.Classes.length pc0_1,.slice pA0_2 p0.Legs.length pc0_2]
 have hS14:St ⟨w,[],φ⟩ φ8 [B0] W11:=hS13
 refine oM Z Z (ifc hm7 ?_ ?_)
 ·intro c15 hm16
  refine zi Z Z Z (zK Z Z (congrArg Value.bool c15.out)) (fun _=>zF Z Z zk Z zN) (ZD Z Z Z (zK Z Z (congrArg Value.bool c15.out)) (hS14.ldB (j:=0) Z Z Z zd (v:=.slice pA0_1 p0.Classes.length pc0_1) Z) Z ?_)
  have h17:=ha0.le le12
  refine bnK hm16 fun x18 h19 hm20=>zU 0 Z Z Z (zK Z Z (congrArg Value.bool c15.out)) (zP Z Z Tryz.call115 (zD Z zZ) Z) hS14 (fun hs=>w_relay_classed p0.Classes pA0_1 pc0_1 W11 φ8 hs h17 h19) (.inr Z) ?_
  rintro φ21 L22 v23 W24 le25 hS26 ⟨rfl,rfl⟩
  have hS27:St ⟨w,[],φ⟩ φ21 [B0] W24:=hS26
  refine oR Z (fun _=>zM Z (congrArg Value.bool c15.out) Z) (oA Z Z (eN (zO ?_)))
  have hE:=Option.some.inj hm20;first | subst r | cases hE
  exact ⟨rfl,_,(zq rfl),φ21,_,(hS27.pick [] _ (by decide) rfl),rfl,rfl⟩
 ·intro c15 hm28
  refine ZQ Z Z Z (ZA Z Z (congrArg Value.bool (Bool.eq_false_iff.2 c15.out)) Z) (ZQ Z Z Z (ZA Z Z (congrArg Value.bool (Bool.eq_false_iff.2 c15.out)) Z) (Zq Z Z Z (ZA Z Z (congrArg Value.bool (Bool.eq_false_iff.2 c15.out)) Z) (oR Z (fun _=>zl Z (congrArg Value.bool (Bool.eq_false_iff.2 c15.out)) Z) (oA Z Z (eN (zO ?_))))))
  have hE:=Option.some.inj hm28;first | subst r | cases hE
  exact ⟨rfl,_,(zq rfl),φ8,_,(hS14.pick [] _ (by decide) rfl),rfl,rfl⟩
theorem w_relay_Race_legs_1 {S E:Type} (PY:S→PHeap→List Res→Prop) (PE:E→PHeap→List Res→Prop) (f:S→(T_relay_Team × T_relay_Leg)→Option (S ⊕ E)) (y:Nat) (s0:S) (p1:T_relay_Race) (pb1:Nat) (pA1_0_0:Option Addr) (pc1_0_0:Nat) (pA1_2:Option Addr) (pc1_2:Nat) (w:World) (L:List Res) (φ:PHeap) (hS:St ⟨w,L,φ⟩ φ L w) (hP:PY s0 φ L) (hY:YOK Tryz.prog y ar287 PY PE f φ) (ha0:Cl φ pb1 0 [.slice pA1_0_0 p1.Rules.Classes.length pc1_0_0,.int .i64 p1.Rules.Each,.int .i64 p1.Rules.Laps,.int .i64 p1.Rules.Spare,.int .i64 p1.Rules.Loop,.int .i64 p1.Rules.Unused,.int .i64 p1.Start,.slice pA1_2 p1.Teams.length pc1_2]) (ha1:Sl φ 1 pA1_0_0 pc1_0_0 p1.Rules.Classes.length (List.flatMap KL.encI p1.Rules.Classes)) (ha2:SlR φ rl44 pA1_2 pc1_2 p1.Teams) {r:S ⊕ E} (hm:m_relay_Race_legs_1 f s0 p1=some r):Gv Tryz.prog 201 [.func (.yield y) #[] #[],.pointer (some ⟨pb1,0,none⟩)] w (ItS w L φ PY PE r):=by
 unfold m_relay_Race_legs_1 at hm
 refine Gv.of Tryz.func201 Z Tryz.ntmps201 Tryz.results201 Z (sR fL4 Z (oR Z (fun _=>zF Z Z zL Z ZH) (oL Z (hS.ldC (f:=7) ha0 (v:=.slice pA1_2 p1.Teams.length pc1_2) Z Z ZO Z) (oR Z (fun _=>zV Z Z zm) (oM Z Z (eN (zS ?_)))))))
 have q:=jn_some hm
 obtain ⟨r13,hX14⟩:=q
 have q:=forR_le hX14
 obtain ⟨hle15,hf16⟩:=q
 replace hle15:=zG hle15
 refine Zx (fun k12 s10 σ_ w_=>∃ (φ_:PHeap) (LY11:List Res),σ_ 10=.int .i64 (↑k12:Int)∧σ_ 0=.func (.yield y) #[] #[]∧σ_ 8=.slice pA1_2 p1.Teams.length pc1_2∧σ_ 9=.int .i64 (↑p1.Teams.length:Int)∧PHeap.Le φ φ_∧St ⟨w,L,φ⟩ φ_ LY11 w_∧PY s10 φ_ LY11) hf16 ?_ ?_ ?_
 ·exact ⟨φ,L,Z,Z,Z,Z,(zf _),hS,hP⟩
 ·rintro k12 s10 xx19 σ17 W18 hk22 ⟨φ24,LY11,fi23,f27,f28,f29,le25,hS26,h30⟩ hx20 hb21
  have c31:Hid ((↑k12:Int) < (↑p1.Teams.length:Int)):=zG (lp_lt0 hk22)
  replace hk22:=zG hk22
  have hi32:Hid (w64 ((↑k12:Int) + 1)=(↑(k12 + 1):Int)):=zG (by have h1:=hle15.out;have h2:=c31.out;rw [w64_in] <;> omega)
  refine sR fL1 Z (oR Z (fun _=>zW Z fi23 f29) (eN (zE (cT Z c31 (kN (zE (zS (sR (.fl 0 (.fl 1 (.fx 2 (.fx 3 (.nil) .stop) .stop))) Z (bnK hx20 fun x33 h34 hm35=>?_)))))))))
  have h36:=ha2.le le25
  have q:=h36.el (idx_get h34)
  obtain ⟨b37,off38,vs41,hA39,hC40,hr42⟩:=q
  obtain ⟨pA43,pc44,pA45,pc46,rfl,h47,h48⟩:=hr42
  replace hC40:Cl φ24 b37 (off38 + k12 * 3) [.int .i64 x33.Bib,.slice pA43 x33.Classes.length pc44,.slice pA45 x33.Legs.length pc46]:=hC40
  refine oR Z (fun _=>zu Z f28 hA39 fi23 zm ZB (idx_lt h34)) (oL Z (hS26.ldCA (f:=0) hC40 Z Z yA ZB (us:=[.int .i64 x33.Bib,.slice pA43 x33.Classes.length pc44,.slice pA45 x33.Legs.length pc46]) Z Z) (ZK (cs:=[.int .i64 0,.slice none 0 0,.slice none 0 0]) Z Z Z Z Z Zk Z hS26 ?_))
  intro W49 b50 hS51
  refine zx (j:=0) (vs:=[.int .i64 x33.Bib,.slice pA43 x33.Classes.length pc44,.slice pA45 x33.Legs.length pc46]) Z Z Z Z hS51 Z Z Z Z ZB (zC Z) Z Z Z ?_
  intro W53 hS54
  let B0:Res:=.blk b50 44 [.int .i64 x33.Bib,.slice pA43 x33.Classes.length pc44,.slice pA45 x33.Legs.length pc46]
  have hS55:St ⟨w,L,φ⟩ φ24 (B0 :: LY11) W53:=hS54
  refine eN (sR fL4 Z (oR Z (fun _=>zF Z Z zk Z ZS) (oL Z (hS55.ldB (j:=0) Z Z Z Zz (v:=.slice pA45 x33.Legs.length pc46) Z) (oR Z (fun _=>zV Z Z ZJ) (oM Z Z (eN (zS ?_)))))))
  have q:=jn_some hm35
  obtain ⟨r67,hX68⟩:=q
  have q:=forR_le hX68
  obtain ⟨hle69,hf70⟩:=q
  replace hle69:=zG hle69
  refine Zx (fun k66 s64 σ_ w_=>∃ (φ_:PHeap) (LY65:List Res),σ_ 17=.int .i64 (↑k66:Int)∧σ_ 0=.func (.yield y) #[] #[]∧σ_ 4=.pointer (some ⟨b50,0,none⟩)∧σ_ 8=.slice pA1_2 p1.Teams.length pc1_2∧σ_ 9=.int .i64 (↑p1.Teams.length:Int)∧σ_ 10=.int .i64 (↑k12:Int)∧σ_ 15=.slice pA45 x33.Legs.length pc46∧σ_ 16=.int .i64 (↑x33.Legs.length:Int)∧PHeap.Le φ24 φ_∧St ⟨w,L,φ⟩ φ_ (B0 :: LY65) w_∧PY s64 φ_ LY65) hf70 ?_ ?_ ?_
  ·exact ⟨φ24,LY11,Z,f27,Z,f28,f29,fi23,Z,Z,(zf _),hS55,h30⟩
  ·rintro k66 s64 xx73 σ71 W72 hk76 ⟨φ78,LY65,fi77,f81,f82,f83,f84,f85,f86,f87,le79,hS80,h88⟩ hx74 hb75
   have c89:Hid ((↑k66:Int) < (↑x33.Legs.length:Int)):=zG (lp_lt0 hk76)
   replace hk76:=zG hk76
   have hi90:Hid (w64 ((↑k66:Int) + 1)=(↑(k66 + 1):Int)):=zG (by have h1:=hle69.out;have h2:=c89.out;rw [w64_in] <;> omega)
   refine sR fL1 Z (oR Z (fun _=>zW Z fi77 f87) (eN (zE (cT Z c89 (kN (zE (zS (sR (.fl 0 (.fl 1 (.fx 2 (.fx 3 (.nil) .stop) .stop))) Z (bnK hx74 fun x91 h92 hm93=>?_)))))))))
   have h94:=h48.le le79
   have q:=h94.el (idx_get h92)
   obtain ⟨b95,off96,vs99,hA97,hC98,hr100⟩:=q
   obtain ⟨pA101,pc102,pA103,pc104,rfl,h105,h106⟩:=hr100
   replace hC98:Cl φ78 b95 (off96 + k66 * 3) [.int .i64 x91.Skier,.slice pA101 x91.Loops.length pc102,.slice pA103 x91.Bouts.length pc104]:=hC98
   refine oR Z (fun _=>zu Z f86 hA97 fi77 ZJ ZF (idx_lt h92)) (oL Z (hS80.ldCA (f:=0) hC98 Z Z yD ZF (us:=[.int .i64 x91.Skier,.slice pA101 x91.Loops.length pc102,.slice pA103 x91.Bouts.length pc104]) Z Z) (ZK (cs:=[.int .i64 0,.slice none 0 0,.slice none 0 0]) Z Z Z Z Z ZR Z hS80 ?_))
   intro W107 b108 hS109
   refine zx (j:=0) (vs:=[.int .i64 x91.Skier,.slice pA101 x91.Loops.length pc102,.slice pA103 x91.Bouts.length pc104]) Z Z Z Z hS109 Z Z Z Z ZF (zC Z) Z Z Z ?_
   intro W111 hS112
   let B1:Res:=.blk b108 47 [.int .i64 x91.Skier,.slice pA101 x91.Loops.length pc102,.slice pA103 x91.Bouts.length pc104]
   have hS113:St ⟨w,L,φ⟩ φ78 (B1 :: B0 :: LY65) W111:=hS112
   refine eN (sR (fC0_2 (.fx 3 (.fl 4 (.nil)) .stop)) Z (oM Z f81 (oL Z (hS113.ldBA (j:=1) Z Z f82 yA ZB (vs:=[.int .i64 x33.Bib,.slice pA43 x33.Classes.length pc44,.slice pA45 x33.Legs.length pc46]) Z Z) (oL Z (hS113.ldBA (j:=0) Z Z Z yD ZF (vs:=[.int .i64 x91.Skier,.slice pA101 x91.Loops.length pc102,.slice pA103 x91.Bouts.length pc104]) Z Z) ?_))))
   have h114:=h47.le le79
   refine bnK hm93 fun yr115 h116 hm117=>OKS.yieldT 2 (a:=(x33,x91)) Z Z Z Z Z Z (zD Z (zD Z zZ)) hS113 hY (le25.trans le79) h88 ⟨pA43,pc44,pA45,pc46,pA101,pc102,pA103,pc104,Z,h114,h94,h105,h106⟩ h116 Z ?_
   rintro φ118 LY119 b120 W121 le122 hS123 hM124
   rcases yr115 with s125 | s125
   ·try dsimp only at hm117 hM124
    obtain ⟨rfl,hp126⟩:=hM124
    have hS127:St ⟨w,L,φ⟩ φ118 (B1 :: B0 :: LY119) W121:=hS123
    refine oR Z (fun _=>ZL Z Z) (eN (zr Z (ZU (zh (zH (rR fL2 Z (oR Z (fun _=>zz (zY Z fi77 Z) (congrArg (Value.int .i64) hi90.out)) (oM Z Z (zp ?_)))))))))
    obtain rfl:=Option.some.inj hm117
    exact zH ⟨Z,_,Z,⟨φ118,LY119,Z,f81,f82,f83,f84,f85,f86,f87,(le79.trans le122),(hS127.drop 0),hp126⟩⟩
   ·try dsimp only at hm117 hM124
    obtain ⟨rfl,hp130⟩:=hM124
    have hS131:St ⟨w,L,φ⟩ φ118 (B1 :: B0 :: LY119) W121:=hS123
    refine oR Z (fun _=>ZL Z Z) (eN (zn Z (zO (zI (zB ?_)))))
    have q:=esc_spec hm117
    obtain ⟨v132,hm133,e134⟩:=q
    obtain rfl:=jn_inr hm35 hX68 (hb75 v132 e134)
    refine zB (zI (zI (zB ?_)))
    have q:=esc_spec hm133
    obtain ⟨v135,hm136,e137⟩:=q
    obtain rfl:=jn_inr hm hX14 (hb21 v135 e137)
    refine zB (zI ?_)
    cases hm136
    exact ⟨Z,_,(res0),φ118,_,((hS131.drop 1).drop 0),hp130⟩
  ·rintro y142 σ138 W139 ⟨φ144,L143,fi141,f147,f148,f149,f150,f151,f152,f153,le145,hS146,h154⟩ hb140
   have hm155:=jn_inl hm35 hX68 hb140
   have c156:Hid (¬ ((↑(((↑x33.Legs.length:Int):Int) - 0).toNat:Int) < (↑x33.Legs.length:Int))):=zG (lp_end0)
   refine sR fL1 Z (oR Z (fun _=>zW Z fi141 f153) (eN (zE (cF Z c156 (ZG (ze (ze (zw (zh (zH (rR fL2 Z (oR Z (fun _=>zz (zY Z f151 Z) (congrArg (Value.int .i64) hi32.out)) (oM Z Z (zp ?_))))))))))))))
   obtain rfl:=Option.some.inj hm155
   exact zH ⟨Z,_,Z,⟨φ144,L143,Z,f147,f149,f150,(le25.trans le145),(hS146.drop 0),h154⟩⟩
 ·rintro y163 σ159 W160 ⟨φ165,L164,fi162,f168,f169,f170,le166,hS167,h171⟩ hb161
  have hm172:=jn_inl hm hX14 hb161
  have c173:Hid (¬ ((↑(((↑p1.Teams.length:Int):Int) - 0).toNat:Int) < (↑p1.Teams.length:Int))):=zG (lp_end0)
  refine sR fL1 Z (oR Z (fun _=>zW Z fi162 f170) (eN (zE (cF Z c173 (ZG (ze (ze (zw ?_))))))))
  cases hm172
  exact ⟨Z,_,(res0),φ165,_,hS167,h171⟩
theorem w_relay_Race_legs (p0:T_relay_Race) (pA0_0_0:Option Addr) (pc0_0_0:Nat) (pA0_2:Option Addr) (pc0_2:Nat) (w:World) (φ:PHeap) (hS:St0 w φ []) (ha0:Sl φ 1 pA0_0_0 pc0_0_0 p0.Rules.Classes.length (List.flatMap KL.encI p0.Rules.Classes)) (ha1:SlR φ rl44 pA0_2 pc0_2 p0.Teams) {r:Unit} (hm:m_relay_Race_legs p0=some r):Gv Tryz.prog 116 [.agg #[.slice pA0_0_0 p0.Rules.Classes.length pc0_0_0,.int .i64 p0.Rules.Each,.int .i64 p0.Rules.Laps,.int .i64 p0.Rules.Spare,.int .i64 p0.Rules.Loop,.int .i64 p0.Rules.Unused,.int .i64 p0.Start,.slice pA0_2 p0.Teams.length pc0_2]] w (RetS w [] φ (fun φ_ L_ v=>∃ (b0:Nat),v=.func (.func 201) #[] #[.pointer (some ⟨b0,0,none⟩)]∧L_=[]∧Cl φ_ b0 0 [.slice pA0_0_0 p0.Rules.Classes.length pc0_0_0,.int .i64 p0.Rules.Each,.int .i64 p0.Rules.Laps,.int .i64 p0.Rules.Spare,.int .i64 p0.Rules.Loop,.int .i64 p0.Rules.Unused,.int .i64 p0.Start,.slice pA0_2 p0.Teams.length pc0_2])):=by
 unfold m_relay_Race_legs at hm
 refine Gv.of Tryz.func116 rfl Tryz.ntmps116 Tryz.results116 rfl (sR (.fx 0 (.fl 1 (.nil)) .stop) rfl (Zd (cs:=[.slice pA0_0_0 p0.Rules.Classes.length pc0_0_0,.int .i64 p0.Rules.Each,.int .i64 p0.Rules.Laps,.int .i64 p0.Rules.Spare,.int .i64 p0.Rules.Loop,.int .i64 p0.Rules.Unused,.int .i64 p0.Start,.slice pA0_2 p0.Teams.length pc0_2]) rfl rfl rfl rfl rfl rfl (by rfl) hS ?_))
 intro W1 b2 hS3
 have q:=hS3.freeze (k:=0) rfl
 obtain ⟨φ5,le6,hC7,hS8⟩:=q
 replace hC7:=Cl.of hC7
 have hS9:St ⟨w,[],φ⟩ φ5 [] W1:=hS8
 replace hC7:Cl φ5 b2 0 [.slice pA0_0_0 p0.Rules.Classes.length pc0_0_0,.int .i64 p0.Rules.Each,.int .i64 p0.Rules.Laps,.int .i64 p0.Rules.Spare,.int .i64 p0.Rules.Loop,.int .i64 p0.Rules.Unused,.int .i64 p0.Start,.slice pA0_2 p0.Teams.length pc0_2]:=hC7
 refine oA Z Z (eN (sR fL2 Z (oR Z (fun _=>Runs.mkf Z zZ (zD Z zZ)) (oA Z Z (eN (zO ?_))))))
 cases hm
 exact ⟨Z,_,(zq Z),φ5,_,hS9,b2,Z,Z,hC7⟩
theorem w_relay_Check_2 (p0:Int) (w:World) (φ:PHeap) (hS:St0 w φ [])  {r:Bool} (hm:m_relay_Check_2 p0=some r):Gv Tryz.prog 118 [.int .i64 p0] w (RetS w [] φ (fun φ_ L_ v=>v=.bool r∧L_=[])):=by
 unfold m_relay_Check_2 at hm
 refine Gv.of Tryz.func118 Z Tryz.ntmps118 Tryz.results118 Z (sR fL1 Z (oA Z Z (eN (sR (.fl 0 (.fx 1 (.fl 2 (.nil)) .stop)) Z (oM Z Z (bnK hm fun x1 h2 hm3=>zU 0 Z Z Z Z (zP Z Z Zr (zD Z (zD Z (zD Z zZ))) Z) hS (fun hs=>w_relay_in p0 1 9000 w φ hs h2) (.inr Z) ?_))))))
 rintro φ4 L5 v6 W7 le8 hS9 ⟨rfl,rfl⟩
 have hS10:St ⟨w,[],φ⟩ φ4 [] W7:=hS9
 refine oA Z Z (eN (zO ?_))
 have hE:=Option.some.inj hm3;first | subst r | cases hE
 exact ⟨Z,_,(zq Z),φ4,_,hS10,Z,Z⟩
theorem w_relay_Shot (p0:List Bool) (pA0:Option Addr) (pc0:Nat) (w:World) (φ:PHeap) (hS:St0 w φ []) (ha0:Sl φ 1 pA0 pc0 p0.length (List.flatMap KL.encT p0)) {r:T_relay_Shooting × Int} (hm:m_relay_Shot p0=some r):Gv Tryz.prog 22 [.slice pA0 p0.length pc0] w (RetS w [] φ (fun φ_ L_ v=>v=.tuple #[.agg #[.int .i64 r.1.Spares,.int .i64 r.1.Loops,.int .i64 r.1.Unused],.int .i64 r.2]∧L_=[])):=by
 unfold m_relay_Shot at hm
 refine Gv.of Tryz.func22 Z Tryz.ntmps22 Tryz.results22 Z (sR (.fx 0 (.fl 1 (.nil)) .stop) Z (ZK (cs:=[.int .i64 0,.int .i64 0,.int .i64 0]) Z Z Z Z Z Zw Z hS ?_))
 intro W1 b2 hS3
 refine oA Z Z (eN (zE (sR (.fl 0 (.fl 1 (.fx 2 (.fl 3 (.nil)) .stop))) Z (oM Z Z (oR Z (fun _=>zV Z Z ZX) (bnK hm fun x5 h6 hm7=>zU 0 Z Z Z Z (zP Z Z Zr (zD Z (zD Z (zD Z zZ))) Z) hS3 (fun hs=>w_relay_in (↑p0.length:Int) 5 8 W1 φ hs h6) (.inr Z) ?_))))))
 rintro φ8 L9 v10 W11 le12 hS13 ⟨rfl,rfl⟩
 let B0:Res:=.blk b2 49 [.int .i64 0,.int .i64 0,.int .i64 0]
 have hS14:St ⟨w,[],φ⟩ φ8 [B0] W11:=hS13
 refine oR Z (fun _=>ZL Z Z) (eN (ifc hm7 ?_ ?_))
 ·intro c15 hm16
  refine zr (congrArg (fun b=>Value.bool (!b)) c15.out) (kN (sR fL1 Z (oA Z Z (eN (zE (sR fL3 Z (oM Z Z (oR Z (fun _=>zV Z Z ZX) (oM Z Z (eN (zS ?_)))))))))))
  have q:=jn_some hm16
  obtain ⟨r24,hX25⟩:=q
  have q:=forR_le hX25
  obtain ⟨hle26,hf27⟩:=q
  replace hle26:=zG hle26
  refine Zx (fun k23 x22 σ_ w_=>∃ (φ_:PHeap),σ_ 15=.int .i64 (↑k23:Int)∧σ_ 0=.slice pA0 p0.length pc0∧σ_ 2=.pointer (some ⟨b2,0,none⟩)∧σ_ 4=.int .i64 x22∧σ_ 13=.slice pA0 p0.length pc0∧σ_ 14=.int .i64 (↑p0.length:Int)∧PHeap.Le φ8 φ_∧St ⟨w,[],φ⟩ φ_ [B0] w_) hf27 ?_ ?_ ?_
  ·exact ⟨φ8,Z,Z,Z,Z,Z,Z,(zf _),hS14⟩
  ·rintro k23 x22 xx30 σ28 W29 hk33 ⟨φ35,fi34,f38,f39,f40,f41,f42,le36,hS37⟩ hx31 hb32
   have c43:Hid ((↑k23:Int) < (↑p0.length:Int)):=zG (lp_lt0 hk33)
   replace hk33:=zG hk33
   have hi44:Hid (w64 ((↑k23:Int) + 1)=(↑(k23 + 1):Int)):=zG (by have h1:=hle26.out;have h2:=c43.out;rw [w64_in] <;> omega)
   refine sR fL1 Z (oR Z (fun _=>zW Z fi34 f42) (eN (zE (cT Z c43 (kN (zE (zS (sR fL3 Z (bnK hx31 fun x45 h46 hm47=>?_)))))))))
   have h48:=ha0.le le12
   have h49:=h48.le le36
   have q:=h49.el (fun _=>rfl) (idx_get h46)
   obtain ⟨b50,off51,hA52,hC53⟩:=q
   refine oR Z (fun _=>zu Z f41 hA52 fi34 ZX Tryz.sizeOf4 (idx_lt h46)) (oL Z (hS37.ldC (f:=0) hC53 (v:=.bool x45) Z Z Tryz.isAgg4 Z) (oA Z Z (eN (zE (sR fL2 Z (oM Z f40 (oR Z (fun _=>Runs.eql Z Z Z) (eN (ifc hm47 ?_ ?_)))))))))
   ·intro c54 hm55
    refine cT Z c54 (sR (.fl 0 (.fx 1 (.fl 2 (.nil)) .stop)) Z (oR Z (fun _=>Zf (pv:=[]) (z:=[.int .i64 0,.int .i64 0,.int .i64 0]) (cs:=[.int .i64 0,.int .i64 0,.int .i64 0]) Z mapnil2 Zw places49 Z Z) (zx (j:=0) (vs:=[.int .i64 0,.int .i64 0,.int .i64 0]) Z Z Z Z hS37 Z f39 Z Z Ze (zC Z) Z Z Z ?_)))
    intro W56 hS57
    have hS58:St ⟨w,[],φ⟩ φ35 [B0] W56:=hS57
    refine oA Z Z (eN (zO (zB (zI (zB ?_)))))
    have q:=esc_spec hm55
    obtain ⟨v59,hm60,e61⟩:=q
    obtain rfl:=jn_inr hm16 hX25 (hb32 v59 e61)
    refine zB (zI (zB ?_))
    cases hm60
    exact ⟨rfl,_,(resLn (rs:=[.cell 2 49,.tmp 3]) (vs:=[.agg #[.int .i64 0,.int .i64 0,.int .i64 0],.int .i64 8]) ⟨⟨_,f39,(ldvarA Tryz.isAgg49 Ze (hS58.blkAt (k:=0) rfl) (vs:=[.int .i64 0,.int .i64 0,.int .i64 0]) rfl rfl)⟩,⟨rfl,trivial⟩⟩ rfl),φ35,_,(hS58.pick [] _ (by decide) rfl),rfl,rfl⟩
   ·intro c54 hm62
    refine cF Z c54 (kN (sR fL1 Z (oM Z Z (eN (ifc hm62 ?_ ?_)))))
    ·intro c63 hm64
     refine zn (congrArg Value.bool c63.out) (rR fL3 Z (oM Z f40 (oR Z (fun _=>Za Z Z Z) (oA Z Z (zp (zh (zH (rR fL2 Z (oR Z (fun _=>zz (zY Z fi34 Z) (congrArg (Value.int .i64) hi44.out)) (oM Z Z (zp ?_)))))))))))
     obtain rfl:=Option.some.inj hm64
     exact zH ⟨Z,_,Z,⟨φ35,Z,f38,f39,Z,f41,f42,le36,hS37⟩⟩
    ·intro c63 hm66
     refine zr (congrArg Value.bool (Bool.eq_false_iff.2 c63.out)) (ZU (zh (zH (rR fL2 Z (oR Z (fun _=>zz (zY Z fi34 Z) (congrArg (Value.int .i64) hi44.out)) (oM Z Z (zp ?_)))))))
     obtain rfl:=Option.some.inj hm66
     exact zH ⟨Z,_,Z,⟨φ35,Z,f38,f39,f40,f41,f42,le36,hS37⟩⟩
  ·rintro y72 σ68 W69 ⟨φ73,fi71,f76,f77,f78,f79,f80,le74,hS75⟩ hb70
   have hm81:=jn_inl hm16 hX25 hb70
   have c82:Hid (¬ ((↑(((↑p0.length:Int):Int) - 0).toNat:Int) < (↑p0.length:Int))):=zG (lp_end0)
   refine sR fL1 Z (oR Z (fun _=>zW Z fi71 f80) (eN (zE (cF Z c82 (ZG (ze (ze (zw (zH (sR (fC0_4 (.fx 5 (.fx 6 (.nil) .stop) .stop)) Z (oM Z f76 (oR Z (fun _=>zV Z Z ZX) (oR Z (fun _=>Za Z Z Z) (oM Z f78 (oR Z (fun _=>Zf (pv:=[(0,.int .i64 (w64 ((↑p0.length:Int) - 5))),(1,.int .i64 y72)]) (z:=[.int .i64 0,.int .i64 0,.int .i64 0]) (cs:=[.int .i64 (w64 ((↑p0.length:Int) - 5)),.int .i64 y72,.int .i64 0]) Z (mapcons2 Z (mapcons2 Z mapnil2)) Zw places49 Z Z) (ZK (cs:=[.int .i64 0,.int .i64 0,.int .i64 0]) Z Z Z Z Z Zw Z hS75 ?_))))))))))))))))
   intro W83 b84 hS85
   refine zx (j:=0) (vs:=[.int .i64 (w64 ((↑p0.length:Int) - 5)),.int .i64 y72,.int .i64 0]) Z Z Z Z hS85 Z Z Z Z Ze (zC Z) Z Z Z ?_
   intro W87 hS88
   let B1:Res:=.blk b84 49 [.int .i64 (w64 ((↑p0.length:Int) - 5)),.int .i64 y72,.int .i64 0]
   have hS89:St ⟨w,[],φ⟩ φ73 [B1,B0] W87:=hS88
   refine eN (zE (sR fL2 Z (oM Z f78 (oR Z (fun _=>Zy Z Z Z) (eN (ifc hm81 ?_ ?_))))))
   ·intro c90 hm91
    refine cT Z c90 (rR (fC0_3 (.fx 4 (.nil) .stop)) Z (oM Z f76 (oR Z (fun _=>zV Z Z ZX) (oR Z (fun _=>Za Z Z Z) (oR Z (fun _=>zF Z Z Zl Z zJ) (zx (j:=0) (vs:=[.int .i64 (w64 (8 - (↑p0.length:Int)))]) Z Z Z Z hS89 Z Z Z Z zJ (zC Z) Z Z Z ?_))))))
    intro W92 hS93
    let B2:Res:=.blk b84 49 [.int .i64 (w64 ((↑p0.length:Int) - 5)),.int .i64 y72,.int .i64 (w64 (8 - (↑p0.length:Int)))]
    have hS94:St ⟨w,[],φ⟩ φ73 [B2,B0] W92:=hS93
    refine eN (sR (.fl 0 (.fx 1 (.fl 2 (.nil)) .stop)) Z (oL Z (hS94.ldBA (j:=0) Z Z Z Tryz.isAgg49 Ze (vs:=[.int .i64 (w64 ((↑p0.length:Int) - 5)),.int .i64 y72,.int .i64 (w64 (8 - (↑p0.length:Int)))]) Z Z) (zx (j:=1) (vs:=[.int .i64 (w64 ((↑p0.length:Int) - 5)),.int .i64 y72,.int .i64 (w64 (8 - (↑p0.length:Int)))]) Z Z Z Z hS94 Z f77 Z Z Ze (zC Z) Z Z Z ?_)))
    intro W95 hS96
    have hS97:St ⟨w,[],φ⟩ φ73 [B2,.blk b2 49 [.int .i64 (w64 ((↑p0.length:Int) - 5)),.int .i64 y72,.int .i64 (w64 (8 - (↑p0.length:Int)))]] W95:=hS96
    refine oA Z Z (eN (zO ?_))
    cases hm91
    exact ⟨rfl,_,(resLn (rs:=[.cell 2 49,.tmp 3]) (vs:=[.agg #[.int .i64 (w64 ((↑p0.length:Int) - 5)),.int .i64 y72,.int .i64 (w64 (8 - (↑p0.length:Int)))],.int .i64 0]) ⟨⟨_,f77,(ldvarA Tryz.isAgg49 Ze (hS97.blkAt (k:=1) rfl) (vs:=[.int .i64 (w64 ((↑p0.length:Int) - 5)),.int .i64 y72,.int .i64 (w64 (8 - (↑p0.length:Int)))]) rfl rfl)⟩,⟨rfl,trivial⟩⟩ rfl),φ73,_,(hS97.pick [] _ (by decide) rfl),rfl,rfl⟩
   ·intro c90 hm98
    refine cF Z c90 (kN (sR (.fl 0 (.fx 1 (.fl 2 (.nil)) .stop)) Z (oL Z (hS89.ldBA (j:=0) Z Z Z Tryz.isAgg49 Ze (vs:=[.int .i64 (w64 ((↑p0.length:Int) - 5)),.int .i64 y72,.int .i64 0]) Z Z) (zx (j:=1) (vs:=[.int .i64 (w64 ((↑p0.length:Int) - 5)),.int .i64 y72,.int .i64 0]) Z Z Z Z hS89 Z f77 Z Z Ze (zC Z) Z Z Z ?_))))
    intro W99 hS100
    have hS101:St ⟨w,[],φ⟩ φ73 [B1,.blk b2 49 [.int .i64 (w64 ((↑p0.length:Int) - 5)),.int .i64 y72,.int .i64 0]] W99:=hS100
    refine oA Z Z (eN (zO ?_))
    cases hm98
    exact ⟨rfl,_,(resLn (rs:=[.cell 2 49,.tmp 3]) (vs:=[.agg #[.int .i64 (w64 ((↑p0.length:Int) - 5)),.int .i64 y72,.int .i64 0],.int .i64 0]) ⟨⟨_,f77,(ldvarA Tryz.isAgg49 Ze (hS101.blkAt (k:=1) rfl) (vs:=[.int .i64 (w64 ((↑p0.length:Int) - 5)),.int .i64 y72,.int .i64 0]) rfl rfl)⟩,⟨rfl,trivial⟩⟩ rfl),φ73,_,(hS101.pick [] _ (by decide) rfl),rfl,rfl⟩
 ·intro c15 hm102
  refine zn (congrArg (fun b=>Value.bool (!b)) (Bool.eq_false_iff.2 c15.out)) (sR (.fl 0 (.fx 1 (.fl 2 (.nil)) .stop)) Z (oR Z (fun _=>Zf (pv:=[]) (z:=[.int .i64 0,.int .i64 0,.int .i64 0]) (cs:=[.int .i64 0,.int .i64 0,.int .i64 0]) Z mapnil2 Zw places49 Z Z) (zx (j:=0) (vs:=[.int .i64 0,.int .i64 0,.int .i64 0]) Z Z Z Z hS14 Z Z Z Z Ze (zC Z) Z Z Z ?_)))
  intro W103 hS104
  have hS105:St ⟨w,[],φ⟩ φ8 [B0] W103:=hS104
  refine oA Z Z (eN (zO (zB ?_)))
  cases hm102
  exact ⟨rfl,_,(resLn (rs:=[.cell 2 49,.tmp 3]) (vs:=[.agg #[.int .i64 0,.int .i64 0,.int .i64 0],.int .i64 2]) ⟨⟨_,rfl,(ldvarA Tryz.isAgg49 Ze (hS105.blkAt (k:=0) rfl) (vs:=[.int .i64 0,.int .i64 0,.int .i64 0]) rfl rfl)⟩,⟨rfl,trivial⟩⟩ rfl),φ8,_,(hS105.pick [] _ (by decide) rfl),rfl,rfl⟩
theorem w_relay_Check (p0:T_relay_Race) (pA0_0_0:Option Addr) (pc0_0_0:Nat) (pA0_2:Option Addr) (pc0_2:Nat) (w:World) (φ:PHeap) (hS:St0 w φ []) (ha0:Sl φ 1 pA0_0_0 pc0_0_0 p0.Rules.Classes.length (List.flatMap KL.encI p0.Rules.Classes)) (ha1:SlR φ rl44 pA0_2 pc0_2 p0.Teams) {r:Int} (hm:m_relay_Check p0=some r):Gv Tryz.prog 20 [.agg #[.slice pA0_0_0 p0.Rules.Classes.length pc0_0_0,.int .i64 p0.Rules.Each,.int .i64 p0.Rules.Laps,.int .i64 p0.Rules.Spare,.int .i64 p0.Rules.Loop,.int .i64 p0.Rules.Unused,.int .i64 p0.Start,.slice pA0_2 p0.Teams.length pc0_2]] w (RetS w [] φ (fun φ_ L_ v=>v=.int .i64 r∧L_=[])):=by
 unfold m_relay_Check at hm
 refine Go.KX.Gv.ofM Tryz.func20 rfl Tryz.ntmps20 Tryz.results20 (zC rfl) (sR (.fx 0 (.fx 1 (.nil) .stop) .stop) rfl (Zd (cs:=[.slice pA0_0_0 p0.Rules.Classes.length pc0_0_0,.int .i64 p0.Rules.Each,.int .i64 p0.Rules.Laps,.int .i64 p0.Rules.Spare,.int .i64 p0.Rules.Loop,.int .i64 p0.Rules.Unused,.int .i64 p0.Start,.slice pA0_2 p0.Teams.length pc0_2]) rfl rfl rfl rfl rfl rfl (by rfl) hS ?_))
 intro W1 b2 hS3
 refine ZK (cs:=[.int .i64 0]) Z Z Z Z Z Tryz.zeroValue35 Z hS3 ?_
 intro W5 b6 hS7
 refine eN (sR (.fl 0 (.fl 1 (.fx 2 (.fl 3 (.nil)) .stop))) Z (oR Z (fun _=>zF Z Z zL Z ZE) (oL Z (hS7.ldBA (j:=1) Z Z Z Tryz.isAgg25 ZE (vs:=[.slice pA0_0_0 p0.Rules.Classes.length pc0_0_0,.int .i64 p0.Rules.Each,.int .i64 p0.Rules.Laps,.int .i64 p0.Rules.Spare,.int .i64 p0.Rules.Loop,.int .i64 p0.Rules.Unused]) Z Z) (bnK hm fun x9 h10 hm11=>zU 0 Z Z Z Z (zP Z Z Tryz.call110 (zD Z zZ) Z) hS7 (fun hs=>w_relay_CheckRules p0.Rules pA0_0_0 pc0_0_0 W5 φ hs ha0 h10) (.inr Z) ?_))))
 rintro φ12 L13 v14 W15 le16 hS17 ⟨rfl,rfl⟩
 let B0:Res:=.blk b6 35 [.int .i64 0]
 let B1:Res:=.blk b2 28 [.slice pA0_0_0 p0.Rules.Classes.length pc0_0_0,.int .i64 p0.Rules.Each,.int .i64 p0.Rules.Laps,.int .i64 p0.Rules.Spare,.int .i64 p0.Rules.Loop,.int .i64 p0.Rules.Unused,.int .i64 p0.Start,.slice pA0_2 p0.Teams.length pc0_2]
 have hS18:St ⟨w,[],φ⟩ φ12 [B0,B1] W15:=hS17
 refine oA Z Z (eN (zE (zS (sR fL3 Z (oM Z Z (oR Z (fun _=>ZI Z Z Z) (oA Z Z (eN (ifc hm11 ?_ ?_)))))))))
 ·intro c19 hm20
  refine zr (zX (fun h=>h c19.out)) (sR (fC0_2 (.fx 3 (fC4_10 (.fx 11 (fC12_14 (.nil)) .stop)) .stop)) Z (oR Z (fun _=>zF Z Z zL Z ZH) (oL Z (hS18.ldB (j:=1) Z Z Z ZO (v:=.slice pA0_2 p0.Teams.length pc0_2) Z) (oR Z (fun _=>zV Z Z zm) (bnK hm20 fun x21 h22 hm23=>zU 0 Z Z Z Z (zP Z Z Zr (zD Z (zD Z (zD Z zZ))) Z) hS18 (fun hs=>w_relay_in (↑p0.Teams.length:Int) 1 12 W15 φ12 hs h22) (.inr Z) ?_)))))
  rintro φ24 L25 v26 W27 le28 hS29 ⟨rfl,rfl⟩
  have hS30:St ⟨w,[],φ⟩ φ24 [B0,B1] W27:=hS29
  refine oR Z (fun _=>ZL Z Z) (oM Z Z (ifc hm23 ?_ ?_))
  ·intro c31 hm32
   refine zi Z Z Z (zK Z Z (congrArg (fun b=>Value.bool (!b)) c31.out)) (fun _=>zF Z Z zL Z ZH) (ZD Z Z Z (zK Z Z (congrArg (fun b=>Value.bool (!b)) c31.out)) (hS30.ldB (j:=1) Z Z Z ZO (v:=.slice pA0_2 p0.Teams.length pc0_2) Z) Z (zi Z Z Z (zK Z Z (congrArg (fun b=>Value.bool (!b)) c31.out)) (fun _=>zF Z Z zL Z ZE) (ZD Z Z Z (zK Z Z (congrArg (fun b=>Value.bool (!b)) c31.out)) (hS30.ldBA (j:=1) Z Z Z Tryz.isAgg25 ZE (vs:=[.slice pA0_0_0 p0.Rules.Classes.length pc0_0_0,.int .i64 p0.Rules.Each,.int .i64 p0.Rules.Laps,.int .i64 p0.Rules.Spare,.int .i64 p0.Rules.Loop,.int .i64 p0.Rules.Unused]) Z Z) Z (zi Z Z Z (zK Z Z (congrArg (fun b=>Value.bool (!b)) c31.out)) (fun _=>Runs.mkf Z (zD Z zZ) zZ) ?_))))
   have h33:=ha1.le le16
   have h34:=h33.le le28
   have h35:=ha0.le le16
   have h36:=h35.le le28
   have hF37:FnOK Tryz.prog φ24 (.func (.func 113) #[.agg #[.slice pA0_0_0 p0.Rules.Classes.length pc0_0_0,.int .i64 p0.Rules.Each,.int .i64 p0.Rules.Laps,.int .i64 p0.Rules.Spare,.int .i64 p0.Rules.Loop,.int .i64 p0.Rules.Unused]] #[]) ar113 rr113 (fun x=>m_relay_Rules_sized p0.Rules x):=⟨113,[.agg #[.slice pA0_0_0 p0.Rules.Classes.length pc0_0_0,.int .i64 p0.Rules.Each,.int .i64 p0.Rules.Laps,.int .i64 p0.Rules.Spare,.int .i64 p0.Rules.Loop,.int .i64 p0.Rules.Unused]],[],rfl,Tryz.call113,fun φ1 w1 x y vs le hs ha hm=>by obtain ⟨pA_0_1,pc_0_1,pA_0_2,pc_0_2,rfl,hq0_0,hq0_1⟩:=ha;exact w_relay_Rules_sized p0.Rules pA0_0_0 pc0_0_0 x pA_0_1 pc_0_1 pA_0_2 pc_0_2 w1 φ1 hs (h36.le le) hq0_0 hq0_1 hm⟩
   refine bnK hm32 fun x38 h39 hm40=>zU 0 Z Z Z (zK Z Z (congrArg (fun b=>Value.bool (!b)) c31.out)) (zP Z Z Tryz.call112 (zD Z (zD Z zZ)) Z) hS30 (fun hs=>w_relay_each_relay_Team p0.Teams pA0_2 pc0_2 (fun x=>m_relay_Rules_sized p0.Rules x) (.func (.func 113) #[.agg #[.slice pA0_0_0 p0.Rules.Classes.length pc0_0_0,.int .i64 p0.Rules.Each,.int .i64 p0.Rules.Laps,.int .i64 p0.Rules.Spare,.int .i64 p0.Rules.Loop,.int .i64 p0.Rules.Unused]] #[]) W27 φ24 hs h34 hF37 h39) (.inr Z) ?_
   rintro φ41 L42 v43 W44 le45 hS46 ⟨rfl,rfl⟩
   have hS47:St ⟨w,[],φ⟩ φ41 [B0,B1] W44:=hS46
   refine zi Z Z Z (zK Z Z (congrArg (fun b=>Value.bool (!b)) c31.out)) (fun _=>ZL Z Z) (oR Z (fun _=>zl Z (congrArg (fun b=>Value.bool (!b)) c31.out) Z) (oA Z Z (eN (ifc hm40 ?_ ?_))))
   ·intro c48 hm49
    refine zr (congrArg (fun b=>Value.bool (!b)) c48.out) (sR (.fl 0 (.fl 1 (.fx 2 (fC3_6 (.fx 7 (fC8_10 (.nil)) .stop)) .stop))) Z (oR Z (fun _=>zF Z Z zL Z zJ) (oL Z (hS47.ldB (j:=1) Z Z Z zR (v:=.int .i64 p0.Start) Z) (bnK hm49 fun x50 h51 hm52=>zU 0 Z Z Z Z (zP Z Z Zr (zD Z (zD Z (zD Z zZ))) Z) hS47 (fun hs=>w_relay_in p0.Start 0 36000 W44 φ41 hs h51) (.inr Z) ?_))))
    rintro φ53 L54 v55 W56 le57 hS58 ⟨rfl,rfl⟩
    have hS59:St ⟨w,[],φ⟩ φ53 [B0,B1] W56:=hS58
    refine oR Z (fun _=>ZL Z Z) (oM Z Z (ifc hm52 ?_ ?_))
    ·intro c60 hm61
     refine zi Z Z Z (zK Z Z (congrArg (fun b=>Value.bool (!b)) c60.out)) (fun _=>zF Z Z zL Z ZH) (ZD Z Z Z (zK Z Z (congrArg (fun b=>Value.bool (!b)) c60.out)) (hS59.ldB (j:=1) Z Z Z ZO (v:=.slice pA0_2 p0.Teams.length pc0_2) Z) Z ?_)
     have h62:=h34.le le45
     have h63:=h62.le le57
     have hF64:FnOK Tryz.prog φ53 (.func (.func 114) #[] #[]) ar113 rr113 m_relay_Check_1:=⟨114,[],[],rfl,Tryz.call114,fun φ1 w1 x y vs le hs ha hm=>by obtain ⟨pA_0_1,pc_0_1,pA_0_2,pc_0_2,rfl,hq0_0,hq0_1⟩:=ha;exact w_relay_Check_1 x pA_0_1 pc_0_1 pA_0_2 pc_0_2 w1 φ1 hs hq0_0 hq0_1 hm⟩
     refine bnK hm61 fun x65 h66 hm67=>zU 0 Z Z Z (zK Z Z (congrArg (fun b=>Value.bool (!b)) c60.out)) (zP Z Z Tryz.call112 (zD Z (zD Z zZ)) Z) hS59 (fun hs=>w_relay_each_relay_Team p0.Teams pA0_2 pc0_2 m_relay_Check_1 (.func (.func 114) #[] #[]) W56 φ53 hs h63 hF64 h66) (.inr Z) ?_
     rintro φ68 L69 v70 W71 le72 hS73 ⟨rfl,rfl⟩
     have hS74:St ⟨w,[],φ⟩ φ68 [B0,B1] W71:=hS73
     refine zi Z Z Z (zK Z Z (congrArg (fun b=>Value.bool (!b)) c60.out)) (fun _=>ZL Z Z) (oR Z (fun _=>zl Z (congrArg (fun b=>Value.bool (!b)) c60.out) Z) (oA Z Z (eN (ifc hm67 ?_ ?_))))
     ·intro c75 hm76
      refine zr (congrArg (fun b=>Value.bool (!b)) c75.out) (ZU (zh (zH (zE (sR (.fl 0 (.fx 1 (.nil) .stop)) Z (oL Z (hS74.ldBA (j:=1) Z Z Z ZW zy (vs:=[.slice pA0_0_0 p0.Rules.Classes.length pc0_0_0,.int .i64 p0.Rules.Each,.int .i64 p0.Rules.Laps,.int .i64 p0.Rules.Spare,.int .i64 p0.Rules.Loop,.int .i64 p0.Rules.Unused,.int .i64 p0.Start,.slice pA0_2 p0.Teams.length pc0_2]) Z Z) ?_))))))
      have h77:=h36.le le45
      have h78:=h77.le le57
      have h79:=h78.le le72
      have h80:=h63.le le72
      have q:=bnd hm76
      obtain ⟨⟨⟩,h81,hm82⟩:=q
      try dsimp only at hm82
      refine zU 0 Z Z Z Z (zP Z Z Tryz.call116 (zD Z zZ) Z) hS74 (fun hs=>w_relay_Race_legs p0 pA0_0_0 pc0_0_0 pA0_2 pc0_2 W71 φ68 hs h79 h80 h81) (.inr Z) ?_
      rintro φ83 L84 v85 W86 le87 hS88 ⟨b89,rfl,rfl,h90⟩
      have hS91:St ⟨w,[],φ⟩ φ83 [B0,B1] W86:=hS88
      refine eN (zS (Zj fun σ92 hσ93=>?_))
      have f94:σ92 1=.pointer (some ⟨b2,0,none⟩):=(hσ93 1).trans rfl
      have f95:σ92 2=.pointer (some ⟨b6,0,none⟩):=(hσ93 2).trans rfl
      have f96:σ92 51=.func (.func 201) #[] #[.pointer (some ⟨b89,0,none⟩)]:=(hσ93 51).trans rfl
      clear hσ93
      refine bnK hm82 fun rr138 hit139 hm140=>?_
      have h141:=h79.le le87
      have h142:=h80.le le87
      refine CK.rangeY (S:=Unit) (E:=Int) (ar:=ar287) (PY:=(fun (_:Unit) (φ_:PHeap) (L_:List Res)=>L_=[B0,B1])) (PE:=(fun (x137:Int) (φ_:PHeap) (L_:List Res)=>L_=[.blk b6 35 [.int .i64 x137],B1])) (exO:=(fun _=>.ret)) (s0:=()) (rr:=rr138) f96 Tryz.call201 hS91 (by decide) (fun _ _ _ h=>by obtain ⟨_,_,_,_,_,_,_,_,rfl,_,_,_,_⟩:=h;rfl) (fun _=>.inl rfl) rfl (fun l w1 L1 PY' PE' hS1 hP1 hY1=>w_relay_Race_legs_1 PY' PE' _ l _ p0 b89 pA0_0_0 pc0_0_0 pA0_2 pc0_2 w1 L1 φ83 hS1 hP1 hY1 h90 h141 h142 hit139) ?_ ?_
      ·rintro l143 rb144 fn145 ⟨⟩ x146 vs147 r148 ph149 L150 w151 o152 B153 le154 hS155 hP156 ha157 hf158 sg159 hs160
       obtain rfl:=hP156
       obtain ⟨pA161,pc162,pA163,pc164,pA167,pc168,pA169,pc170,rfl,hq165,hq166,hq171,hq172⟩:=ha157
       replace hs160:∀ t,sg159 t=upd (upd σ92 52 (.agg #[.int .i64 x146.1.Bib,.slice pA161 x146.1.Classes.length pc162,.slice pA163 x146.1.Legs.length pc164])) 53 (.agg #[.int .i64 x146.2.Skier,.slice pA167 x146.2.Loops.length pc168,.slice pA169 x146.2.Bouts.length pc170]) t:=hs160
       have f173:sg159 52=.agg #[.int .i64 x146.1.Bib,.slice pA161 x146.1.Classes.length pc162,.slice pA163 x146.1.Legs.length pc164]:=(hs160 52).trans ((upd_ne _ _ (by decide)).trans (upd_same _ _ _))
       have f174:sg159 53=.agg #[.int .i64 x146.2.Skier,.slice pA167 x146.2.Loops.length pc168,.slice pA169 x146.2.Bouts.length pc170]:=(hs160 53).trans (upd_same _ _ _)
       have f175:sg159 1=.pointer (some ⟨b2,0,none⟩):=(hs160 1).trans ((upd_ne _ _ (by decide)).trans ((upd_ne _ _ (by decide)).trans f94))
       have f176:sg159 2=.pointer (some ⟨b6,0,none⟩):=(hs160 2).trans ((upd_ne _ _ (by decide)).trans ((upd_ne _ _ (by decide)).trans f95))
       clear hs160
       have hS178:St B153 ph149 [.obj l143 o152,B0,B1] w151:=hS155
       try dsimp only at hf158
       refine rR (.fx 0 (.fx 1 (.nil) .stop) .stop) Z (ZK (cs:=[.int .i64 0,.slice none 0 0,.slice none 0 0]) Z Z Z Z Z ZR Z hS178 ?_)
       intro W179 b180 hS181
       refine zx (j:=0) (vs:=[.int .i64 x146.2.Skier,.slice pA167 x146.2.Loops.length pc168,.slice pA169 x146.2.Bouts.length pc170]) Z Z Z Z hS181 Z Z f174 Z ZF (zC Z) Z Z Z ?_
       intro W183 hS184
       let B2:Res:=.blk b180 47 [.int .i64 x146.2.Skier,.slice pA167 x146.2.Loops.length pc168,.slice pA169 x146.2.Bouts.length pc170]
       have hS185:St B153 ph149 [B2,.obj l143 o152,B0,B1] W183:=hS184
       refine zp ⟨rfl,rfl,_,_,(hS185.pick [1,0,2,3] [.obj l143 o152,B2,B0,B1] (by decide) rfl),fun W186 o187 hS188=>?_⟩
       have hS189:St B153 ph149 [.obj l143 o187,B2,B0,B1] W186:=hS188
       refine zS (sR (.fl 0 (.fl 1 (.fx 2 (.fl 3 (.nil)) .stop))) Z (oR Z (fun _=>zF Z Z zo Z zN) (oL Z (hS189.ldB (j:=1) Z Z Z zd (v:=.slice pA167 x146.2.Loops.length pc168) Z) ?_)))
       have hF190:FnOK Tryz.prog ph149 (.func (.func 118) #[] #[]) ar190 rr190 m_relay_Check_2:=⟨118,[],[],rfl,Tryz.call118,fun φ1 w1 x y vs le hs ha hm=>by obtain rfl:=ha;exact w_relay_Check_2 x w1 φ1 hs  hm⟩
       refine bnK hf158 fun x191 h192 hm193=>zU 0 Z Z Z Z (zP Z Z Tryz.call117 (zD Z (zD Z zZ)) Z) hS189 (fun hs=>w_relay_each_int x146.2.Loops pA167 pc168 m_relay_Check_2 (.func (.func 118) #[] #[]) W186 ph149 hs hq171 hF190 h192) (.inr Z) ?_
       rintro φ194 L195 v196 W197 le198 hS199 ⟨rfl,rfl⟩
       have hS200:St B153 φ194 [.obj l143 o187,B2,B0,B1] W197:=hS199
       refine oR Z (fun _=>ZL Z Z) (eN (ifc hm193 ?_ ?_))
       ·intro c201 hm202
        refine zr (congrArg (fun b=>Value.bool (!b)) c201.out) (ZU (zh ?_))
        obtain rfl:=Option.some.inj hm202
        exact ⟨_,_,(hS200.pick [0,2,3] _ (by decide) rfl),rfl,rfl⟩
       ·intro c201 hm203
        refine zn (congrArg (fun b=>Value.bool (!b)) (Bool.eq_false_iff.2 c201.out)) (sR (.fx 0 (.nil) .stop) Z (zx (j:=2) (vs:=[.int .i64 3]) Z Z Z Z hS200 Z f176 Z Z Zv (zC Z) Z Z Z ?_))
        intro W204 hS205
        have hS206:St B153 φ194 [.obj l143 o187,B2,.blk b6 35 [.int .i64 3],B1] W204:=hS205
        refine eN (zO (zI ?_))
        obtain rfl:=Option.some.inj hm203
        exact ⟨_,_,(hS206.pick [0,2,3] _ (by decide) rfl),rfl,rfl⟩
      ·rintro rb208 φ209 L210 W211 le212 hS213
       rcases rr138 with ⟨⟩ | y214
       ·try dsimp only at hm140
        rintro rfl
        have hS216:St ⟨w,[],φ⟩ φ209 [B0,B1,.obj rb208 (.deferred (some []))] W211:=hS213
        refine zh (zH (zE (sR (.fl 0 (.fx 1 (.nil) .stop)) Z (oL Z (hS216.ldBA (j:=1) Z Z f94 ZW zy (vs:=[.slice pA0_0_0 p0.Rules.Classes.length pc0_0_0,.int .i64 p0.Rules.Each,.int .i64 p0.Rules.Laps,.int .i64 p0.Rules.Spare,.int .i64 p0.Rules.Loop,.int .i64 p0.Rules.Unused,.int .i64 p0.Start,.slice pA0_2 p0.Teams.length pc0_2]) Z Z) ?_))))
        have h217:=h141.le le212
        have h218:=h142.le le212
        have q:=bnd hm140
        obtain ⟨⟨⟩,h219,hm220⟩:=q
        try dsimp only at hm220
        refine zU 0 Z Z Z Z (zP Z Z Tryz.call116 (zD Z zZ) Z) hS216 (fun hs=>w_relay_Race_legs p0 pA0_0_0 pc0_0_0 pA0_2 pc0_2 W211 φ209 hs h217 h218 h219) (.inr Z) ?_
        rintro φ221 L222 v223 W224 le225 hS226 ⟨b227,rfl,rfl,h228⟩
        have hS229:St ⟨w,[],φ⟩ φ221 [B0,B1,.obj rb208 (.deferred (some []))] W224:=hS226
        refine eN (zS (Zj fun σ230 hσ231=>?_))
        have f232:σ230 1=.pointer (some ⟨b2,0,none⟩):=(hσ231 1).trans f94
        have f233:σ230 2=.pointer (some ⟨b6,0,none⟩):=(hσ231 2).trans f95
        have f234:σ230 59=.func (.func 201) #[] #[.pointer (some ⟨b227,0,none⟩)]:=(hσ231 59).trans rfl
        clear hσ231
        refine bnK hm220 fun rr282 hit283 hm284=>?_
        have h285:=h217.le le225
        have h286:=h218.le le225
        refine CK.rangeY (S:=Unit) (E:=Int) (ar:=ar287) (PY:=(fun (_:Unit) (φ_:PHeap) (L_:List Res)=>L_=[B0,B1,.obj rb208 (.deferred (some []))])) (PE:=(fun (x281:Int) (φ_:PHeap) (L_:List Res)=>L_=[.blk b6 35 [.int .i64 x281],B1,.obj rb208 (.deferred (some []))])) (exO:=(fun _=>.ret)) (s0:=()) (rr:=rr282) f234 Tryz.call201 hS229 (by decide) (fun _ _ _ h=>by obtain ⟨_,_,_,_,_,_,_,_,rfl,_,_,_,_⟩:=h;rfl) (fun _=>.inl rfl) rfl (fun l w1 L1 PY' PE' hS1 hP1 hY1=>w_relay_Race_legs_1 PY' PE' _ l _ p0 b227 pA0_0_0 pc0_0_0 pA0_2 pc0_2 w1 L1 φ221 hS1 hP1 hY1 h228 h285 h286 hit283) ?_ ?_
        ·rintro l287 rb288 fn289 ⟨⟩ x290 vs291 r292 ph293 L294 w295 o296 B297 le298 hS299 hP300 ha301 hf302 sg303 hs304
         obtain rfl:=hP300
         obtain ⟨pA305,pc306,pA307,pc308,pA311,pc312,pA313,pc314,rfl,hq309,hq310,hq315,hq316⟩:=ha301
         replace hs304:∀ t,sg303 t=upd (upd σ230 60 (.agg #[.int .i64 x290.1.Bib,.slice pA305 x290.1.Classes.length pc306,.slice pA307 x290.1.Legs.length pc308])) 61 (.agg #[.int .i64 x290.2.Skier,.slice pA311 x290.2.Loops.length pc312,.slice pA313 x290.2.Bouts.length pc314]) t:=hs304
         have f317:sg303 60=.agg #[.int .i64 x290.1.Bib,.slice pA305 x290.1.Classes.length pc306,.slice pA307 x290.1.Legs.length pc308]:=(hs304 60).trans ((upd_ne _ _ (by decide)).trans (upd_same _ _ _))
         have f318:sg303 61=.agg #[.int .i64 x290.2.Skier,.slice pA311 x290.2.Loops.length pc312,.slice pA313 x290.2.Bouts.length pc314]:=(hs304 61).trans (upd_same _ _ _)
         have f319:sg303 1=.pointer (some ⟨b2,0,none⟩):=(hs304 1).trans ((upd_ne _ _ (by decide)).trans ((upd_ne _ _ (by decide)).trans f232))
         have f320:sg303 2=.pointer (some ⟨b6,0,none⟩):=(hs304 2).trans ((upd_ne _ _ (by decide)).trans ((upd_ne _ _ (by decide)).trans f233))
         clear hs304
         have hS322:St B297 ph293 [.obj l287 o296,B0,B1,.obj rb208 (.deferred (some []))] w295:=hS299
         try dsimp only at hf302
         refine sR (.fx 0 (.fx 1 (.nil) .stop) .stop) Z (ZK (cs:=[.int .i64 0,.slice none 0 0,.slice none 0 0]) Z Z Z Z Z Zk Z hS322 ?_)
         intro W323 b324 hS325
         refine zx (j:=0) (vs:=[.int .i64 x290.1.Bib,.slice pA305 x290.1.Classes.length pc306,.slice pA307 x290.1.Legs.length pc308]) Z Z Z Z hS325 Z Z f317 Z ZB (zC Z) Z Z Z ?_
         intro W327 hS328
         let B3:Res:=.blk b324 44 [.int .i64 x290.1.Bib,.slice pA305 x290.1.Classes.length pc306,.slice pA307 x290.1.Legs.length pc308]
         have hS329:St B297 ph293 [B3,.obj l287 o296,B0,B1,.obj rb208 (.deferred (some []))] W327:=hS328
         refine eN (rR (.fx 0 (.fx 1 (.nil) .stop) .stop) Z (ZK (cs:=[.int .i64 0,.slice none 0 0,.slice none 0 0]) Z Z Z Z Z ZR Z hS329 ?_))
         intro W330 b331 hS332
         refine zx (j:=0) (vs:=[.int .i64 x290.2.Skier,.slice pA311 x290.2.Loops.length pc312,.slice pA313 x290.2.Bouts.length pc314]) Z Z Z Z hS332 Z Z f318 Z ZF (zC Z) Z Z Z ?_
         intro W334 hS335
         let B4:Res:=.blk b331 47 [.int .i64 x290.2.Skier,.slice pA311 x290.2.Loops.length pc312,.slice pA313 x290.2.Bouts.length pc314]
         have hS336:St B297 ph293 [B4,B3,.obj l287 o296,B0,B1,.obj rb208 (.deferred (some []))] W334:=hS335
         refine zp ⟨rfl,rfl,_,_,(hS336.pick [2,0,1,3,4,5] [.obj l287 o296,B4,B3,B0,B1,.obj rb208 (.deferred (some []))] (by decide) rfl),fun W337 o338 hS339=>?_⟩
         have hS340:St B297 ph293 [.obj l287 o338,B4,B3,B0,B1,.obj rb208 (.deferred (some []))] W337:=hS339
         refine zS (sR (fC0_5 (.fx 6 (.fl 7 (.nil)) .stop)) Z (oR Z (fun _=>zF Z Z zo Z zJ) (oL Z (hS340.ldB (j:=1) Z Z Z zR (v:=.int .i64 x290.2.Skier) Z) (oR Z (fun _=>zF Z Z zk Z zN) (oL Z (hS340.ldB (j:=2) Z Z Z zd (v:=.slice pA305 x290.1.Classes.length pc306) Z) (oR Z (fun _=>zV Z Z zA) (oR Z (fun _=>Za Z Z Z) (bnK hf302 fun x341 h342 hm343=>zU 0 Z Z Z Z (zP Z Z Zr (zD Z (zD Z (zD Z zZ))) Z) hS340 (fun hs=>w_relay_in x290.2.Skier 0 (w64 ((↑x290.1.Classes.length:Int) - 1)) W337 ph293 hs h342) (.inr Z) ?_))))))))
         rintro φ344 L345 v346 W347 le348 hS349 ⟨rfl,rfl⟩
         have hS350:St B297 φ344 [.obj l287 o338,B4,B3,B0,B1,.obj rb208 (.deferred (some []))] W347:=hS349
         refine oR Z (fun _=>ZL Z Z) (eN (ifc hm343 ?_ ?_))
         ·intro c351 hm352
          refine zr (congrArg (fun b=>Value.bool (!b)) c351.out) (ZU (zh ?_))
          obtain rfl:=Option.some.inj hm352
          exact ⟨_,_,(hS350.pick [0,3,4,5] _ (by decide) rfl),rfl,rfl⟩
         ·intro c351 hm353
          refine zn (congrArg (fun b=>Value.bool (!b)) (Bool.eq_false_iff.2 c351.out)) (sR (.fx 0 (.nil) .stop) Z (zx (j:=3) (vs:=[.int .i64 1]) Z Z Z Z hS350 Z f320 Z Z Zv (zC Z) Z Z Z ?_))
          intro W354 hS355
          have hS356:St B297 φ344 [.obj l287 o338,B4,B3,.blk b6 35 [.int .i64 1],B1,.obj rb208 (.deferred (some []))] W354:=hS355
          refine eN (zO (zI ?_))
          obtain rfl:=Option.some.inj hm353
          exact ⟨_,_,(hS356.pick [0,3,4,5] _ (by decide) rfl),rfl,rfl⟩
        ·rintro rb358 φ359 L360 W361 le362 hS363
         rcases rr282 with ⟨⟩ | y364
         ·try dsimp only at hm284
          rintro rfl
          have hS366:St ⟨w,[],φ⟩ φ359 [B0,B1,.obj rb208 (.deferred (some [])),.obj rb358 (.deferred (some []))] W361:=hS363
          refine zh (zH (zE (sR (.fl 0 (.fx 1 (.nil) .stop)) Z (oL Z (hS366.ldBA (j:=1) Z Z f232 ZW zy (vs:=[.slice pA0_0_0 p0.Rules.Classes.length pc0_0_0,.int .i64 p0.Rules.Each,.int .i64 p0.Rules.Laps,.int .i64 p0.Rules.Spare,.int .i64 p0.Rules.Loop,.int .i64 p0.Rules.Unused,.int .i64 p0.Start,.slice pA0_2 p0.Teams.length pc0_2]) Z Z) ?_))))
          have h367:=h285.le le362
          have h368:=h286.le le362
          have q:=bnd hm284
          obtain ⟨⟨⟩,h369,hm370⟩:=q
          try dsimp only at hm370
          refine zU 0 Z Z Z Z (zP Z Z Tryz.call116 (zD Z zZ) Z) hS366 (fun hs=>w_relay_Race_legs p0 pA0_0_0 pc0_0_0 pA0_2 pc0_2 W361 φ359 hs h367 h368 h369) (.inr Z) ?_
          rintro φ371 L372 v373 W374 le375 hS376 ⟨b377,rfl,rfl,h378⟩
          have hS379:St ⟨w,[],φ⟩ φ371 [B0,B1,.obj rb208 (.deferred (some [])),.obj rb358 (.deferred (some []))] W374:=hS376
          refine eN (zS (Zj fun σ380 hσ381=>?_))
          have f382:σ380 1=.pointer (some ⟨b2,0,none⟩):=(hσ381 1).trans f232
          have f383:σ380 2=.pointer (some ⟨b6,0,none⟩):=(hσ381 2).trans f233
          have f384:σ380 71=.func (.func 201) #[] #[.pointer (some ⟨b377,0,none⟩)]:=(hσ381 71).trans rfl
          clear hσ381
          refine bnK hm370 fun rr484 hit485 hm486=>?_
          have h487:=h367.le le375
          have h488:=h368.le le375
          refine CK.rangeY (S:=Unit) (E:=Int) (ar:=ar287) (PY:=(fun (_:Unit) (φ_:PHeap) (L_:List Res)=>L_=[B0,B1,.obj rb208 (.deferred (some [])),.obj rb358 (.deferred (some []))])) (PE:=(fun (x483:Int) (φ_:PHeap) (L_:List Res)=>L_=[.blk b6 35 [.int .i64 x483],B1,.obj rb208 (.deferred (some [])),.obj rb358 (.deferred (some []))])) (exO:=(fun _=>.ret)) (s0:=()) (rr:=rr484) f384 Tryz.call201 hS379 (by decide) (fun _ _ _ h=>by obtain ⟨_,_,_,_,_,_,_,_,rfl,_,_,_,_⟩:=h;rfl) (fun _=>.inl rfl) rfl (fun l w1 L1 PY' PE' hS1 hP1 hY1=>w_relay_Race_legs_1 PY' PE' _ l _ p0 b377 pA0_0_0 pc0_0_0 pA0_2 pc0_2 w1 L1 φ371 hS1 hP1 hY1 h378 h487 h488 hit485) ?_ ?_
          ·rintro l489 rb490 fn491 ⟨⟩ x492 vs493 r494 ph495 L496 w497 o498 B499 le500 hS501 hP502 ha503 hf504 sg505 hs506
           obtain rfl:=hP502
           obtain ⟨pA507,pc508,pA509,pc510,pA513,pc514,pA515,pc516,rfl,hq511,hq512,hq517,hq518⟩:=ha503
           replace hs506:∀ t,sg505 t=upd (upd σ380 72 (.agg #[.int .i64 x492.1.Bib,.slice pA507 x492.1.Classes.length pc508,.slice pA509 x492.1.Legs.length pc510])) 73 (.agg #[.int .i64 x492.2.Skier,.slice pA513 x492.2.Loops.length pc514,.slice pA515 x492.2.Bouts.length pc516]) t:=hs506
           have f519:sg505 72=.agg #[.int .i64 x492.1.Bib,.slice pA507 x492.1.Classes.length pc508,.slice pA509 x492.1.Legs.length pc510]:=(hs506 72).trans ((upd_ne _ _ (by decide)).trans (upd_same _ _ _))
           have f520:sg505 73=.agg #[.int .i64 x492.2.Skier,.slice pA513 x492.2.Loops.length pc514,.slice pA515 x492.2.Bouts.length pc516]:=(hs506 73).trans (upd_same _ _ _)
           have f521:sg505 1=.pointer (some ⟨b2,0,none⟩):=(hs506 1).trans ((upd_ne _ _ (by decide)).trans ((upd_ne _ _ (by decide)).trans f382))
           have f522:sg505 2=.pointer (some ⟨b6,0,none⟩):=(hs506 2).trans ((upd_ne _ _ (by decide)).trans ((upd_ne _ _ (by decide)).trans f383))
           clear hs506
           have hS524:St B499 ph495 [.obj l489 o498,B0,B1,.obj rb208 (.deferred (some [])),.obj rb358 (.deferred (some []))] w497:=hS501
           try dsimp only at hf504
           refine rR (.fx 0 (.fx 1 (.nil) .stop) .stop) Z (ZK (cs:=[.int .i64 0,.slice none 0 0,.slice none 0 0]) Z Z Z Z Z ZR Z hS524 ?_)
           intro W525 b526 hS527
           refine zx (j:=0) (vs:=[.int .i64 x492.2.Skier,.slice pA513 x492.2.Loops.length pc514,.slice pA515 x492.2.Bouts.length pc516]) Z Z Z Z hS527 Z Z f520 Z ZF (zC Z) Z Z Z ?_
           intro W529 hS530
           let B5:Res:=.blk b526 47 [.int .i64 x492.2.Skier,.slice pA513 x492.2.Loops.length pc514,.slice pA515 x492.2.Bouts.length pc516]
           have hS531:St B499 ph495 [B5,.obj l489 o498,B0,B1,.obj rb208 (.deferred (some [])),.obj rb358 (.deferred (some []))] W529:=hS530
           refine zp ⟨rfl,rfl,_,_,(hS531.pick [1,0,2,3,4,5] [.obj l489 o498,B5,B0,B1,.obj rb208 (.deferred (some [])),.obj rb358 (.deferred (some []))] (by decide) rfl),fun W532 o533 hS534=>?_⟩
           have hS535:St B499 ph495 [.obj l489 o533,B5,B0,B1,.obj rb208 (.deferred (some [])),.obj rb358 (.deferred (some []))] W532:=hS534
           refine zS (sR fL4 Z (oR Z (fun _=>zF Z Z zo Z Zm) (oL Z (hS535.ldB (j:=1) Z Z Z yG (v:=.slice pA515 x492.2.Bouts.length pc516) Z) (oR Z (fun _=>zV Z Z Zg) (oM Z Z (eN (zS ?_)))))))
           have q:=jn_some hf504
           obtain ⟨r538,hX539⟩:=q
           have q:=forR_le hX539
           obtain ⟨hle540,hf541⟩:=q
           replace hle540:=zG hle540
           refine Zx (fun k537 _ σ_ w_=>∃ (φ_:PHeap),σ_ 77=.int .i64 (↑k537:Int)∧σ_ 1=.pointer (some ⟨b2,0,none⟩)∧σ_ 2=.pointer (some ⟨b6,0,none⟩)∧σ_ 75=.slice pA515 x492.2.Bouts.length pc516∧σ_ 76=.int .i64 (↑x492.2.Bouts.length:Int)∧PHeap.Le ph495 φ_∧St B499 φ_ [.obj l489 o533,B5,B0,B1,.obj rb208 (.deferred (some [])),.obj rb358 (.deferred (some []))] w_) hf541 ?_ ?_ ?_
           ·exact ⟨ph495,Z,f521,f522,Z,Z,(zf _),hS535⟩
           ·rintro k537 ⟨⟩ xx544 σ542 W543 hk547 ⟨φ549,fi548,f552,f553,f554,f555,le550,hS551⟩ hx545 hb546
            try dsimp only at hx545
            have c556:Hid ((↑k537:Int) < (↑x492.2.Bouts.length:Int)):=zG (lp_lt0 hk547)
            replace hk547:=zG hk547
            have hi557:Hid (w64 ((↑k537:Int) + 1)=(↑(k537 + 1):Int)):=zG (by have h1:=hle540.out;have h2:=c556.out;rw [w64_in] <;> omega)
            refine sR fL1 Z (oR Z (fun _=>zW Z fi548 f555) (eN (zE (cT Z c556 (kN (zE (zS (sR fL3 Z (bnK hx545 fun x558 h559 hm560=>?_)))))))))
            have h561:=hq518.le le550
            have q:=h561.el (idx_get h559)
            obtain ⟨b562,off563,vs566,hA564,hC565,hr567⟩:=q
            obtain ⟨pA568,pc569,rfl,h570⟩:=hr567
            replace hC565:Cl φ549 b562 (off563 + k537 * 1) [.slice pA568 x558.length pc569]:=hC565
            refine oR Z (fun _=>zu Z f554 hA564 fi548 Zg Tryz.sizeOf52 (idx_lt h559)) (oL Z (hS551.ldC (f:=0) hC565 (v:=.slice pA568 x558.length pc569) Z Z Tryz.isAgg52 Z) (oA Z Z (eN (sR (.fl 0 (.fx 1 (fC2_4 (.fx 5 (.fx 6 (.fl 7 (.nil)) .stop) .stop)) .stop)) Z (oM Z Z ?_)))))
            have q:=bnd hm560
            obtain ⟨⟨x571,x572⟩,h573,hm574⟩:=q
            try dsimp only at hm574
            refine zU 0 Z Z Z Z (zP Z Z Tryz.call22 (zD Z zZ) Z) hS551 (fun hs=>w_relay_Shot x558 pA568 pc569 W543 φ549 hs h570 h573) (.inr Z) ?_
            rintro φ575 L576 v577 W578 le579 hS580 ⟨rfl,rfl⟩
            have hS581:St B499 φ575 [.obj l489 o533,B5,B0,B1,.obj rb208 (.deferred (some [])),.obj rb358 (.deferred (some []))] W578:=hS580
            refine oM Z Z (oR Z (fun _=>ZM Z Z (v:=.agg #[.int .i64 x571.Spares,.int .i64 x571.Loops,.int .i64 x571.Unused]) Z) (oR Z (fun _=>ZM Z Z (v:=.int .i64 x572) Z) (ZK (cs:=[.int .i64 0,.int .i64 0,.int .i64 0]) Z Z Z Z Z Zw Z hS581 ?_)))
            intro W582 b583 hS584
            refine zx (j:=0) (vs:=[.int .i64 x571.Spares,.int .i64 x571.Loops,.int .i64 x571.Unused]) Z Z Z Z hS584 Z Z Z Z Ze (zC Z) Z Z Z ?_
            intro W586 hS587
            let B6:Res:=.blk b583 49 [.int .i64 x571.Spares,.int .i64 x571.Loops,.int .i64 x571.Unused]
            have hS588:St B499 φ575 [B6,.obj l489 o533,B5,B0,B1,.obj rb208 (.deferred (some [])),.obj rb358 (.deferred (some []))] W586:=hS587
            refine oA Z Z (eN (sR fL2 Z (oM Z Z (oR Z (fun _=>ZI Z Z Z) (eN (ifc hm574 ?_ ?_))))))
            ·intro c589 hm590
             refine zr (zX (fun h=>h c589.out)) (ZU (zh (zH (rR fL2 Z (oR Z (fun _=>zz (zY Z fi548 Z) (congrArg (Value.int .i64) hi557.out)) (oM Z Z (zp ?_)))))))
             obtain rfl:=Option.some.inj hm590
             exact zH ⟨rfl,_,rfl,⟨φ575,rfl,f552,f553,f554,f555,(le550.trans le579),(hS588.pick [1,2,3,4,5,6] _ (by decide) rfl)⟩⟩
            ·intro c589 hm591
             refine cT Z c589 (sR (.fl 0 (.fx 1 (.nil) .stop)) Z (oM Z Z (zx (j:=3) (vs:=[.int .i64 x572]) Z Z Z Z hS588 Z f553 Z Z Zv (zC Z) Z Z Z ?_)))
             intro W592 hS593
             have hS594:St B499 φ575 [B6,.obj l489 o533,B5,.blk b6 35 [.int .i64 x572],B1,.obj rb208 (.deferred (some [])),.obj rb358 (.deferred (some []))] W592:=hS593
             refine eN (zO (zI (zB ?_)))
             have q:=esc_spec hm591
             obtain ⟨v595,hm596,e597⟩:=q
             obtain rfl:=jn_inr hf504 hX539 (hb546 v595 e597)
             refine zB (zI (zI ?_))
             obtain rfl:=Option.some.inj hm596
             exact ⟨_,_,(hS594.pick [1,3,4,5,6] _ (by decide) rfl),rfl,rfl⟩
           ·rintro ⟨⟩ σ599 W600 ⟨φ603,fi602,f606,f607,f608,f609,le604,hS605⟩ hb601
            have hm610:=jn_inl hf504 hX539 hb601
            try dsimp only at hm610
            have c611:Hid (¬ ((↑(((↑x492.2.Bouts.length:Int):Int) - 0).toNat:Int) < (↑x492.2.Bouts.length:Int))):=zG (lp_end0)
            refine sR fL1 Z (oR Z (fun _=>zW Z fi602 f609) (eN (zE (cF Z c611 (ZG (ze (ze (zw (zh ?_)))))))))
            obtain rfl:=Option.some.inj hm610
            exact ⟨_,_,(hS605.pick [0,2,3,4,5] _ (by decide) rfl),rfl,rfl⟩
          ·rintro rb612 φ613 L614 W615 le616 hS617
           rcases rr484 with ⟨⟩ | y618
           ·try dsimp only at hm486
            rintro rfl
            have hS620:St ⟨w,[],φ⟩ φ613 [B0,B1,.obj rb208 (.deferred (some [])),.obj rb358 (.deferred (some [])),.obj rb612 (.deferred (some []))] W615:=hS617
            refine zh (zH (sR (.fx 0 (.fl 1 (.nil)) .stop) Z (OKS.makeMap Z Z Z Z Z hS620 ?_)))
            intro W621 b622 hS623
            have hr624:=MpR.nil mk207 mv207
            refine oA Z Z (eN (zE (sR fL4 Z (oR Z (fun _=>zF Z f382 zL Z ZH) (oL Z (hS623.ldB (j:=2) Z Z Z ZO (v:=.slice pA0_2 p0.Teams.length pc0_2) Z) (oR Z (fun _=>zV Z Z zm) (oM Z Z (eN (zS (bnK hm486 fun y645 hf642 hm641=>?_))))))))))
            have q:=forR'_le hf642
            obtain ⟨hle643,hf644⟩:=q
            replace hle643:=zG hle643
            refine CK.forN' (fun k640 l637 σ_ w_=>∃ (φ_:PHeap) (es638:Array MapEntry) (ck639:Nat),σ_ 94=.int .i64 (↑k640:Int)∧σ_ 1=.pointer (some ⟨b2,0,none⟩)∧σ_ 2=.pointer (some ⟨b6,0,none⟩)∧σ_ 14=.map (some b622)∧σ_ 92=.slice pA0_2 p0.Teams.length pc0_2∧σ_ 93=.int .i64 (↑p0.Teams.length:Int)∧PHeap.Le φ613 φ_∧St ⟨w,[],φ⟩ φ_ [.obj b622 (.map es638 ck639),B0,B1,.obj rb208 (.deferred (some [])),.obj rb358 (.deferred (some [])),.obj rb612 (.deferred (some []))] w_∧MpR es638 mk207 mv207 l637) hf644 ?_ ?_ ?_
            ·exact ⟨φ613,#[],0,Z,f382,f383,Z,Z,Z,(zf _),hS623,hr624⟩
            ·rintro k640 l637 xx648 σ646 W647 hk651 ⟨φ653,es638,ck639,fi652,f656,f657,f658,f659,f660,le654,hS655,h661⟩ hx649
             have c662:Hid ((↑k640:Int) < (↑p0.Teams.length:Int)):=zG (lp_lt0 hk651)
             replace hk651:=zG hk651
             have hi663:Hid (w64 ((↑k640:Int) + 1)=(↑(k640 + 1):Int)):=zG (by have h1:=hle643.out;have h2:=c662.out;rw [w64_in] <;> omega)
             refine sR fL1 Z (oR Z (fun _=>zW Z fi652 f660) (eN (zE (cT Z c662 (kN (zE (zS (sR (.fl 0 (.fl 1 (.fx 2 (.fx 3 (.nil) .stop) .stop))) Z (bnK hx649 fun x664 h665 hm666=>?_)))))))))
             have h667:=h488.le le616
             have h668:=h667.le le654
             have q:=h668.el (idx_get h665)
             obtain ⟨b669,off670,vs673,hA671,hC672,hr674⟩:=q
             obtain ⟨pA675,pc676,pA677,pc678,rfl,h679,h680⟩:=hr674
             replace hC672:Cl φ653 b669 (off670 + k640 * 3) [.int .i64 x664.Bib,.slice pA675 x664.Classes.length pc676,.slice pA677 x664.Legs.length pc678]:=hC672
             refine oR Z (fun _=>zu Z f659 hA671 fi652 zm ZB (idx_lt h665)) (oL Z (hS655.ldCA (f:=0) hC672 Z Z yA ZB (us:=[.int .i64 x664.Bib,.slice pA675 x664.Classes.length pc676,.slice pA677 x664.Legs.length pc678]) Z Z) (ZK (cs:=[.int .i64 0,.slice none 0 0,.slice none 0 0]) Z Z Z Z Z Zk Z hS655 ?_))
             intro W681 b682 hS683
             refine zx (j:=0) (vs:=[.int .i64 x664.Bib,.slice pA675 x664.Classes.length pc676,.slice pA677 x664.Legs.length pc678]) Z Z Z Z hS683 Z Z Z Z ZB (zC Z) Z Z Z ?_
             intro W685 hS686
             let B7:Res:=.blk b682 44 [.int .i64 x664.Bib,.slice pA675 x664.Classes.length pc676,.slice pA677 x664.Legs.length pc678]
             have hS687:St ⟨w,[],φ⟩ φ653 [B7,.obj b622 (.map es638 ck639),B0,B1,.obj rb208 (.deferred (some [])),.obj rb358 (.deferred (some [])),.obj rb612 (.deferred (some []))] W685:=hS686
             refine eN (rR (fC0_2 (.fx 3 (.nil) .stop)) rfl (zj rfl rfl rfl rfl rfl f658 (zi rfl rfl rfl rfl (fun _=>zF rfl rfl zk rfl zJ) (ZD rfl rfl rfl rfl (hS687.ldB (j:=0) rfl rfl rfl zR (v:=.int .i64 x664.Bib) rfl) rfl (OKS.mapPut (x:=.tmp 98) (y:=.tmp 100) (j:=1) (mk:=mk207) (mv:=mv207) (a:=x664.Bib) (v:=true) rfl rfl rfl (by first | exact .inl rfl | exact .inr rfl) hS687 rfl rfl rfl rfl (und_of Tryz.runUnderlying207) keyR207 h661 rfl ?_)))))
             intro es688 ck689 W690 hr691 hS692
             have hS693:St ⟨w,[],φ⟩ φ653 [B7,.obj b622 (.map es688 ck689),B0,B1,.obj rb208 (.deferred (some [])),.obj rb358 (.deferred (some [])),.obj rb612 (.deferred (some []))] W690:=hS692
             refine zp (zh (zH (rR fL2 Z (oR Z (fun _=>zz (zY Z fi652 Z) (congrArg (Value.int .i64) hi663.out)) (oM Z Z (zp ?_))))))
             cases hm666
             exact zH ⟨rfl,⟨φ653,es688,ck689,rfl,f656,f657,f658,f659,f660,le654,(hS693.pick [1,2,3,4,5,6] _ (by decide) rfl),hr691⟩⟩
            ·rintro σ697 W698 ⟨φ706,e704,c705,fi700,f709,f710,f711,f712,f713,le707,hS708,h714⟩
             have c715:Hid (¬ ((↑(((↑p0.Teams.length:Int):Int) - 0).toNat:Int) < (↑p0.Teams.length:Int))):=zG (lp_end0)
             refine sR fL1 Z (oR Z (fun _=>zW Z fi700 f713) (eN (zE (cF Z c715 (ZG (ze (ze (zw (zH (zE (sR fL6 Z (oM Z f711 (oL Z (hS708.lenM (j:=0) (mk:=mk207) (mv:=mv207) Z Z Z (und_of Tryz.runUnderlying207) h714) (oR Z (fun _=>zF Z f709 zL Z ZH) (oL Z (hS708.ldB (j:=2) Z Z Z ZO (v:=.slice pA0_2 p0.Teams.length pc0_2) Z) (oR Z (fun _=>zV Z Z zm) (oR Z (fun _=>zW Z Z Z) (eN (ifc hm641 ?_ ?_)))))))))))))))))))
             ·intro c716 hm717
              refine cT Z c716 (sR (.fx 0 (.nil) .stop) Z (zx (j:=1) (vs:=[.int .i64 5]) Z Z Z Z hS708 Z f710 Z Z Zv (zC Z) Z Z Z ?_))
              intro W718 hS719
              have hS720:St ⟨w,[],φ⟩ φ706 [.obj b622 (.map e704 c705),.blk b6 35 [.int .i64 5],B1,.obj rb208 (.deferred (some [])),.obj rb358 (.deferred (some [])),.obj rb612 (.deferred (some []))] W718:=hS719
              refine eN (zO (zB (retM_of (by first | exact .inl rfl | exact .inr rfl) (rbs:=[rb612,rb358,rb208]) (L:=[.obj b622 (.map e704 c705),.blk b6 35 [.int .i64 5],B1]) (hS720.pick [0,1,2,5,4,3] _ (by decide) rfl) fun W721 hS722=>?_)))
              have hS723:St ⟨w,[],φ⟩ φ706 [.obj b622 (.map e704 c705),.blk b6 35 [.int .i64 5],B1] W721:=hS722
              cases hm717
              exact ⟨_,(resL1 (v:=.int .i64 5) ⟨⟨_,f710,(ldvar yB (hS723.blkAt (k:=1) rfl) rfl)⟩,trivial⟩),φ706,_,(hS723.pick [] _ (by decide) rfl),rfl,rfl⟩
             ·intro c716 hm724
              refine cF Z c716 (kN (sR (.fx 0 (.nil) .stop) Z (zx (j:=1) (vs:=[.int .i64 0]) Z Z Z Z hS708 Z f710 Z Z Zv (zC Z) Z Z Z ?_)))
              intro W725 hS726
              have hS727:St ⟨w,[],φ⟩ φ706 [.obj b622 (.map e704 c705),B0,B1,.obj rb208 (.deferred (some [])),.obj rb358 (.deferred (some [])),.obj rb612 (.deferred (some []))] W725:=hS726
              refine eN (zO (retM_of (by first | exact .inl rfl | exact .inr rfl) (rbs:=[rb612,rb358,rb208]) (L:=[.obj b622 (.map e704 c705),B0,B1]) (hS727.pick [0,1,2,5,4,3] _ (by decide) rfl) fun W728 hS729=>?_))
              have hS730:St ⟨w,[],φ⟩ φ706 [.obj b622 (.map e704 c705),B0,B1] W728:=hS729
              cases hm724
              exact ⟨_,(resL1 (v:=.int .i64 0) ⟨⟨_,f710,(ldvar yB (hS730.blkAt (k:=1) rfl) rfl)⟩,trivial⟩),φ706,_,(hS730.pick [] _ (by decide) rfl),rfl,rfl⟩
           ·try dsimp only at hm486
            rintro rfl
            let B8:Res:=.blk b6 35 [.int .i64 y618]
            have hS732:St ⟨w,[],φ⟩ φ613 [B8,B1,.obj rb208 (.deferred (some [])),.obj rb358 (.deferred (some [])),.obj rb612 (.deferred (some []))] W615:=hS617
            refine zI (zB (retM_of (by first | exact .inl rfl | exact .inr rfl) (rbs:=[rb612,rb358,rb208]) (L:=[B8,B1]) (hS732.pick [0,1,4,3,2] _ (by decide) rfl) fun W733 hS734=>?_))
            have hS735:St ⟨w,[],φ⟩ φ613 [B8,B1] W733:=hS734
            have hE:=Option.some.inj hm486;first | subst r | cases hE
            exact ⟨_,(resL1 (v:=.int .i64 y618) ⟨⟨_,f383,(ldvar yB (hS735.blkAt (k:=0) rfl) rfl)⟩,trivial⟩),φ613,_,(hS735.pick [] _ (by decide) rfl),rfl,rfl⟩
         ·try dsimp only at hm284
          rintro rfl
          let B9:Res:=.blk b6 35 [.int .i64 y364]
          have hS737:St ⟨w,[],φ⟩ φ359 [B9,B1,.obj rb208 (.deferred (some [])),.obj rb358 (.deferred (some []))] W361:=hS363
          refine zI (zB (retM_of (by first | exact .inl rfl | exact .inr rfl) (rbs:=[rb358,rb208]) (L:=[B9,B1]) (hS737.pick [0,1,3,2] _ (by decide) rfl) fun W738 hS739=>?_))
          have hS740:St ⟨w,[],φ⟩ φ359 [B9,B1] W738:=hS739
          have hE:=Option.some.inj hm284;first | subst r | cases hE
          exact ⟨_,(resL1 (v:=.int .i64 y364) ⟨⟨_,f233,(ldvar yB (hS740.blkAt (k:=0) rfl) rfl)⟩,trivial⟩),φ359,_,(hS740.pick [] _ (by decide) rfl),rfl,rfl⟩
       ·try dsimp only at hm140
        rintro rfl
        let B10:Res:=.blk b6 35 [.int .i64 y214]
        have hS742:St ⟨w,[],φ⟩ φ209 [B10,B1,.obj rb208 (.deferred (some []))] W211:=hS213
        refine zI (zB (retM_of (by first | exact .inl rfl | exact .inr rfl) (rbs:=[rb208]) (L:=[B10,B1]) hS742 fun W743 hS744=>?_))
        have hS745:St ⟨w,[],φ⟩ φ209 [B10,B1] W743:=hS744
        have hE:=Option.some.inj hm140;first | subst r | cases hE
        exact ⟨_,(resL1 (v:=.int .i64 y214) ⟨⟨_,f95,(ldvar yB (hS745.blkAt (k:=0) rfl) rfl)⟩,trivial⟩),φ209,_,(hS745.pick [] _ (by decide) rfl),rfl,rfl⟩
     ·intro c75 hm746
      refine zn (congrArg (fun b=>Value.bool (!b)) (Bool.eq_false_iff.2 c75.out)) (sR (.fx 0 (.nil) .stop) Z (zx (j:=0) (vs:=[.int .i64 3]) Z Z Z Z hS74 Z Z Z Z Zv (zC Z) Z Z Z ?_))
      intro W747 hS748
      let B11:Res:=.blk b6 35 [.int .i64 3]
      have hS749:St ⟨w,[],φ⟩ φ68 [B11,B1] W747:=hS748
      refine eN (zO (zI (zB (retM_of (by first | exact .inl rfl | exact .inr rfl) (rbs:=[]) (L:=[B11,B1]) hS749 fun W750 hS751=>?_))))
      have hS752:St ⟨w,[],φ⟩ φ68 [B11,B1] W750:=hS751
      cases hm746
      exact ⟨_,(resL1 (v:=.int .i64 3) ⟨⟨_,rfl,(ldvar yB (hS752.blkAt (k:=0) rfl) rfl)⟩,trivial⟩),φ68,_,(hS752.pick [] _ (by decide) rfl),rfl,rfl⟩
    ·intro c60 hm753
     refine ZQ Z Z Z (ZA Z Z (congrArg (fun b=>Value.bool (!b)) (Bool.eq_false_iff.2 c60.out)) Z) (ZQ Z Z Z (ZA Z Z (congrArg (fun b=>Value.bool (!b)) (Bool.eq_false_iff.2 c60.out)) Z) (Zq Z Z Z (ZA Z Z (congrArg (fun b=>Value.bool (!b)) (Bool.eq_false_iff.2 c60.out)) Z) (ZQ Z Z Z (ZA Z Z (congrArg (fun b=>Value.bool (!b)) (Bool.eq_false_iff.2 c60.out)) Z) (oR Z (fun _=>zM Z (congrArg (fun b=>Value.bool (!b)) (Bool.eq_false_iff.2 c60.out)) Z) (oA Z Z (eN (zn Z (sR (.fx 0 (.nil) .stop) Z (zx (j:=0) (vs:=[.int .i64 3]) Z Z Z Z hS59 Z Z Z Z Zv (zC Z) Z Z Z ?_)))))))))
     intro W754 hS755
     let B12:Res:=.blk b6 35 [.int .i64 3]
     have hS756:St ⟨w,[],φ⟩ φ53 [B12,B1] W754:=hS755
     refine eN (zO (zI (zB (retM_of (by first | exact .inl rfl | exact .inr rfl) (rbs:=[]) (L:=[B12,B1]) hS756 fun W757 hS758=>?_))))
     have hS759:St ⟨w,[],φ⟩ φ53 [B12,B1] W757:=hS758
     cases hm753
     exact ⟨_,(resL1 (v:=.int .i64 3) ⟨⟨_,rfl,(ldvar yB (hS759.blkAt (k:=0) rfl) rfl)⟩,trivial⟩),φ53,_,(hS759.pick [] _ (by decide) rfl),rfl,rfl⟩
   ·intro c48 hm760
    refine zn (congrArg (fun b=>Value.bool (!b)) (Bool.eq_false_iff.2 c48.out)) (sR (.fx 0 (.nil) .stop) Z (zx (j:=0) (vs:=[.int .i64 2]) Z Z Z Z hS47 Z Z Z Z Zv (zC Z) Z Z Z ?_))
    intro W761 hS762
    let B13:Res:=.blk b6 35 [.int .i64 2]
    have hS763:St ⟨w,[],φ⟩ φ41 [B13,B1] W761:=hS762
    refine eN (zO (zI (zB (retM_of (by first | exact .inl rfl | exact .inr rfl) (rbs:=[]) (L:=[B13,B1]) hS763 fun W764 hS765=>?_))))
    have hS766:St ⟨w,[],φ⟩ φ41 [B13,B1] W764:=hS765
    cases hm760
    exact ⟨_,(resL1 (v:=.int .i64 2) ⟨⟨_,rfl,(ldvar yB (hS766.blkAt (k:=0) rfl) rfl)⟩,trivial⟩),φ41,_,(hS766.pick [] _ (by decide) rfl),rfl,rfl⟩
  ·intro c31 hm767
   refine ZQ Z Z Z (ZA Z Z (congrArg (fun b=>Value.bool (!b)) (Bool.eq_false_iff.2 c31.out)) Z) (ZQ Z Z Z (ZA Z Z (congrArg (fun b=>Value.bool (!b)) (Bool.eq_false_iff.2 c31.out)) Z) (ZQ Z Z Z (ZA Z Z (congrArg (fun b=>Value.bool (!b)) (Bool.eq_false_iff.2 c31.out)) Z) (ZQ Z Z Z (ZA Z Z (congrArg (fun b=>Value.bool (!b)) (Bool.eq_false_iff.2 c31.out)) Z) (ZQ Z Z Z (ZA Z Z (congrArg (fun b=>Value.bool (!b)) (Bool.eq_false_iff.2 c31.out)) Z) (Zq Z Z Z (ZA Z Z (congrArg (fun b=>Value.bool (!b)) (Bool.eq_false_iff.2 c31.out)) Z) (ZQ Z Z Z (ZA Z Z (congrArg (fun b=>Value.bool (!b)) (Bool.eq_false_iff.2 c31.out)) Z) (oR Z (fun _=>zM Z (congrArg (fun b=>Value.bool (!b)) (Bool.eq_false_iff.2 c31.out)) Z) (oA Z Z (eN (zn Z (sR (.fx 0 (.nil) .stop) Z (zx (j:=0) (vs:=[.int .i64 2]) Z Z Z Z hS30 Z Z Z Z Zv (zC Z) Z Z Z ?_))))))))))))
   intro W768 hS769
   let B14:Res:=.blk b6 35 [.int .i64 2]
   have hS770:St ⟨w,[],φ⟩ φ24 [B14,B1] W768:=hS769
   refine eN (zO (zI (zB (retM_of (by first | exact .inl rfl | exact .inr rfl) (rbs:=[]) (L:=[B14,B1]) hS770 fun W771 hS772=>?_))))
   have hS773:St ⟨w,[],φ⟩ φ24 [B14,B1] W771:=hS772
   cases hm767
   exact ⟨_,(resL1 (v:=.int .i64 2) ⟨⟨_,rfl,(ldvar yB (hS773.blkAt (k:=0) rfl) rfl)⟩,trivial⟩),φ24,_,(hS773.pick [] _ (by decide) rfl),rfl,rfl⟩
 ·intro c19 hm774
  refine cT Z c19 (sR (.fl 0 (.fx 1 (.nil) .stop)) Z (oM Z Z (zx (j:=0) (vs:=[.int .i64 x9]) Z Z Z Z hS18 Z Z Z Z Zv (zC Z) Z Z Z ?_)))
  intro W775 hS776
  let B15:Res:=.blk b6 35 [.int .i64 x9]
  have hS777:St ⟨w,[],φ⟩ φ12 [B15,B1] W775:=hS776
  refine eN (zO (zI (zB (retM_of (by first | exact .inl rfl | exact .inr rfl) (rbs:=[]) (L:=[B15,B1]) hS777 fun W778 hS779=>?_))))
  have hS780:St ⟨w,[],φ⟩ φ12 [B15,B1] W778:=hS779
  have hE:=Option.some.inj hm774;first | subst r | cases hE
  exact ⟨_,(resL1 (v:=.int .i64 x9) ⟨⟨_,rfl,(ldvar yB (hS780.blkAt (k:=0) rfl) rfl)⟩,trivial⟩),φ12,_,(hS780.pick [] _ (by decide) rfl),rfl,rfl⟩
end Go.Proofs.YtjfffcjjlnmneaaGreat
