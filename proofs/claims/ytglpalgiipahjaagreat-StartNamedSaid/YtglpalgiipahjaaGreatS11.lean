import Derived.Test.YtglpalgiipahjaaGreatS10
import Derived.Test.YtglpalgiipahjaaGreatS9
set_option linter.all false
open List renaming flatMap->nA,getElem_cons_succ->nD,getElem_cons_zero->nE,getElem_toArray->nG,length_set->nI,set->nJ
open Option.some renaming inj->nB
open Int renaming toNat_natCast->nH
namespace Go.Proofs.YtglpalgiipahjaaGreat
open Go.KL
def gCp:Sch:=.fx 2 (.fl 3 .nil) .stop
def gCq:Sch:=.fx 0 (.fl 1 .nil) .stop
def gCr:Sch:=.fl 0 (.fx 1 .nil .stop)
def gCs:Sch:=.fx 11 (.fx 12 .nil .stop) .stop
def gCt:Sch:=.fx 10 (.fx 12 .nil .stop) .stop
def gCu:Sch:=.fl 0 (.fl 1 gCp)
def gCv:Sch:=.fx 8 (.fl 9 gCt) .stop
def gCw:Sch:=.fx 4 (.fl 9 gCt) .stop
def gCx:Sch:=.fl 9 (.fx 10 gCs (.fx 11 gCt .stop))
set_option maxHeartbeats 4000000
theorem wEW (p0:List Int) (pA0:Option Addr) (pc0:Nat) (w:World) (U:PHeap) (hS:St ⟨w,[.row pA0 pc0 3 1 (nA KL.encI p0)],U⟩ U [.row pA0 pc0 3 1 (nA KL.encI p0)] w) {r:List Int} (hm:wBv p0=some r):Gv Tryz.prog 253 [.slice pA0 p0.length pc0] w (wCO w [.row pA0 pc0 3 1 (nA KL.encI p0)] U (fun U_ L_ v=>v=.tuple #[]/\L_=[.row pA0 pc0 3 1 (nA KL.encI r)]/\r.length=p0.length)) :=
 wPF (fun b o c zs w h1 h2 h3=>Go.Proofs.Tryz.slices_Sort_int b o c zs w h1 h2 h3) (fun p c w=>Go.Proofs.Tryz.slices_Sort_int_none p c w) hS hm
theorem wDl (p0:List Int) (pA0:Option Addr) (pc0:Nat) (w:World) (U:PHeap) (hS:St ⟨w,[.row pA0 pc0 3 1 (nA KL.encI p0)],U⟩ U [.row pA0 pc0 3 1 (nA KL.encI p0)] w) {r:List Int} (hm:wBa p0=some r):Gv Tryz.prog 255 [.slice pA0 p0.length pc0] w (wCO w [.row pA0 pc0 3 1 (nA KL.encI p0)] U (fun U_ L_ v=>∃ (A0:Option Addr) (c0:Nat),v=.slice A0 r.length c0/\L_=[.row A0 c0 3 1 (nA KL.encI r)])) :=
 wKB (fun b o c zs w h1 h2 h3=>Go.Proofs.Tryz.slices_Compact_int b o c zs w h1 h2 h3) (fun p c w=>Go.Proofs.Tryz.slices_Compact_int_empty p c w) hS hm
theorem wDe {S E:Type} (PY:S->PHeap->List Res->Prop) (PE:E->PHeap->List Res->Prop) (f:S->Int->Option (S ⊕ E)) (y:Nat) (s0:S) (p1:List Int) (pb1:Nat) (pA1:Option Addr) (pc1:Nat) (w:World) (L:List Res) (U:PHeap) (hS:St ⟨w,L,U⟩ U L w) (hP:PY s0 U L) (hY:YOK Tryz.prog y wHB PY PE f U) (ha0:Cl U pb1 0 [.slice pA1 p1.length pc1]) (ha1:Sl U 1 pA1 pc1 p1.length (nA KL.encI p1)) {r:S ⊕ E} (hm:wAl f s0 p1=some r):Gv Tryz.prog 302 [.func (.yield y) #[] #[],.pointer (some ⟨pb1,0,none⟩)] w (ItS w L U PY PE r):=by
 unfold wAl at hm
 refine Gv.of Tryz.func302 Z Tryz.ntmps302 Tryz.results302 Z (sR fL3 Z (oL Z (hS.ldC (f:=0) ha0 (v:=.slice pA1 p1.length pc1) Z Z zn Z) (oR Z (zo Z Z zA) (oM Z Z (eN (zS ?_))))))
 have q:=wDL hm
 obtain ⟨r13,hX14⟩:=q
 have q:=wDK hX14
 obtain ⟨hle15,hf16⟩:=q
 replace hle15:=zD hle15
 refine CK.forN (fun k12 s10 σ_ w_=>∃ (U_:PHeap) (LY11:List Res),σ_ 7=jV (↑k12:Int)/\σ_ 0=.func (.yield y) #[] #[]/\σ_ 5=.slice pA1 p1.length pc1/\σ_ 6=jV (↑p1.length:Int)/\PHeap.Le U U_/\St ⟨w,L,U⟩ U_ LY11 w_/\PY s10 U_ LY11) hf16 ?_ ?_ ?_
 ·exact ⟨U,L,Z,Z,Z,Z,(zG _),hS,hP⟩
 ·rintro k12 s10 xx19 σ17 W18 hk22 ⟨U24,LY11,fi23,f27,f28,f29,le25,hS26,h30⟩ hx20 hb21
  have c31:Hid ((↑k12:Int) < (↑p1.length:Int)):=zD (wBT hk22)
  replace hk22:=zD hk22
  have hi32:Hid (w64 ((↑k12:Int) + 1)=(↑(k12 + 1):Int)):=zD (by have h1:=hle15.out;have h2:=c31.out;rw [wAU] <;> omega)
  refine sR fL1 Z (oR Z (zQ Z fi23 f29) (eN (zF (cT Z c31 (kN (zF (zS (sR fL3 Z (bnK hx20 fun x33 h34 hm35=>?_)))))))))
  have h36:=ha1.le le25
  have q:=h36.el (fun _=>rfl) (wAZ h34)
  obtain ⟨b37,off38,hA39,hC40⟩:=q
  refine oR Z (ZD Z f28 hA39 fi23 zA zB (wCD h34)) (oL Z (hS26.ldC (f:=0) hC40 (v:=jV x33) Z Z zJ Z) (oA Z Z (eN (sR gCu Z (oM Z f27 (oM Z Z (bnK hm35 fun yr41 h42 hm43=>OKS.yieldT 0 (a:=x33) Z Z Z Z Z Z (zC Z zP) hS26 hY le25 h30 Z h42 Z ?_)))))))
  rintro U44 LY45 b46 W47 le48 hS49 hM50
  rcases yr41 with s51 | s51
  ·try dsimp only at hm43 hM50
   obtain ⟨rfl,hp52⟩:=hM50
   have hS53:St ⟨w,L,U⟩ U44 LY45 W47:=hS49
   refine oR Z (Zf Z Z) (eN (ZG Z (ZV (zZ (zH (rR fL2 Z (oR Z (zz (zV Z fi23 Z) (congrArg (jV) hi32.out)) (oM Z Z (zx ?_)))))))))
   obtain rfl:=nB hm43
   exact zH ⟨Z,_,Z,⟨U44,LY45,Z,f27,f28,f29,(le25.trans le48),hS53,hp52⟩⟩
  ·try dsimp only at hm43 hM50
   obtain ⟨rfl,hp56⟩:=hM50
   have hS57:St ⟨w,L,U⟩ U44 LY45 W47:=hS49
   refine oR Z (Zf Z Z) (eN (ZK Z (zW (ZJ (zk ?_)))))
   have q:=wCP hm43
   obtain ⟨v58,hm59,e60⟩:=q
   obtain rfl:=wEJ hm hX14 (hb21 v58 e60)
   refine zk (ZJ ?_)
   cases hm59
   exact ⟨Z,_,(res0),U44,_,hS57,hp56⟩
 ·rintro y65 σ61 W62 ⟨U67,L66,fi64,f70,f71,f72,le68,hS69,h73⟩ hb63
  have hm74:=wEI hm hX14 hb63
  have c75:Hid (¬ ((↑(((↑p1.length:Int):Int) - 0).toNat:Int) < (↑p1.length:Int))):=zD (wAr)
  refine sR fL1 Z (oR Z (zQ Z fi64 f72) (eN (zF (cF Z c75 (ZM (ze (ze (ZI ?_))))))))
  cases hm74
  exact ⟨Z,_,(res0),U67,_,hS69,h73⟩
theorem wDy (p0:List Int) (pA0:Option Addr) (pc0:Nat) (w:World) (U:PHeap) (hS:St0 w U []) (ha0:Sl U 1 pA0 pc0 p0.length (nA KL.encI p0)) {r:Unit} (hm:wBk p0=some r):Gv Tryz.prog 254 [.slice pA0 p0.length pc0] w (wCO w [] U (fun U_ L_ v=>∃ (b0:Nat),v=.func (.func 302) #[] #[.pointer (some ⟨b0,0,none⟩)]/\L_=[]/\Cl U_ b0 0 [.slice pA0 p0.length pc0])):=by
 unfold wBk at hm
 refine Gv.of Tryz.func254 rfl Tryz.ntmps254 Tryz.results254 rfl (sR gCq rfl (Zl (cs:=[.slice pA0 p0.length pc0]) rfl rfl rfl rfl rfl rfl (by rfl) hS ?_))
 intro W1 b2 hS3
 have q:=hS3.freeze (k:=0) rfl
 obtain ⟨U5,le6,hC7,hS8⟩:=q
 replace hC7:=Cl.of hC7
 have hS9:sW w U U5 [] W1:=hS8
 replace hC7:Cl U5 b2 0 [.slice pA0 p0.length pc0]:=hC7
 refine oA Z Z (eN (sR fL2 Z (oR Z (Runs.mkf Z zP (zC Z zP)) (oA Z Z (eN (zW ?_))))))
 cases hm
 exact ⟨Z,_,(ZF Z),U5,_,hS9,b2,Z,Z,hC7⟩
theorem wFc (p0:wAD) (pA0_1:Option Addr) (pc0_1:Nat) (pA0_2:Option Addr) (pc0_2:Nat) (w:World) (U:PHeap) (hS:St0 w U []) (ha0:Sl U 1 pA0_1 pc0_1 p0.Bibs.length (nA KL.encI p0.Bibs)) (ha1:SlR U wBH pA0_2 pc0_2 p0.Times) {r:(List Int)} (hm:wBb p0=some r):Gv Tryz.prog 185 [.agg #[jV p0.Laps,.slice pA0_1 p0.Bibs.length pc0_1,.slice pA0_2 p0.Times.length pc0_2]] w (wCO w [] U (fun U_ L_ v=>∃ (b0:Nat) (A0:Option Addr) (c0:Nat),v=.func (.func 302) #[] #[.pointer (some ⟨b0,0,none⟩)]/\L_=[]/\Cl U_ b0 0 [.slice A0 r.length c0]/\Sl U_ 1 A0 c0 r.length (nA KL.encI r))):=by
 unfold wBb at hm
 refine Gv.of Tryz.func185 Z Tryz.ntmps185 Tryz.results185 Z (sR gCq Z ?_)
 let B0:List Value:=[jV p0.Laps,.slice pA0_1 p0.Bibs.length pc0_1,.slice pA0_2 p0.Times.length pc0_2]
 refine Zl (cs:=B0) rfl rfl rfl rfl rfl rfl (by rfl) hS ?_
 intro W1 b2 hS3
 refine oA Z Z (eN (sR gCu Z (oR Z (zX Z Z zM Z ZX) (oL Z (hS3.ldB (j:=0) Z Z Z zq (v:=.slice pA0_2 p0.Times.length pc0_2) Z) (bnK hm fun x5 h6 hm7=>zL 0 Z Z Z Z (zK Z Z Tryz.call252 (zC Z zP) Z) hS3 (fun hs=>wDx p0.Times pA0_2 pc0_2 W1 U hs ha1 h6) (.inr Z) ?_)))))
 rintro U8 L9 v10 W11 le12 hS13 ⟨A14,c15,rfl,rfl⟩
 have hS17:sW w U U8 [.row A14 c15 3 1 (nA KL.encI x5),.blk b2 66 B0] W11:=hS13
 refine oA Z Z (eN (sR gCr Z (oM Z Z (bnK hm7 fun x18 h19 hm20=>zL 1 Z Z Z Z (zK Z Z Tryz.call253 (zC Z zP) Z) hS17 (fun hs=>wEW x5 A14 c15 W11 U8 hs h19) (.inl Z) ?_))))
 rintro U21 L22 v23 W24 le25 hS26 ⟨rfl,rfl,h27⟩
 have hS28:sW w U U21 [.row A14 c15 3 1 (nA KL.encI x18),.blk b2 66 B0] W24:=hS26
 refine eN (sR (.fl 0 (.fx 1 gCp .stop)) rfl (zR rfl rfl rfl rfl rfl (Eq.trans (b:=(.slice A14 x5.length c15:Value)) (c:=(.slice A14 x18.length c15:Value)) rfl (by rw [h27])) (bnK hm20 fun x29 h30 hm31=>zL 1 rfl rfl rfl rfl (zK rfl rfl Tryz.call255 (zC rfl zP) rfl) hS28 (fun hs=>wDl x18 A14 c15 W24 U21 hs h30) (.inl rfl) ?_)))
 rintro U32 L33 v34 W35 le36 hS37 ⟨A38,c39,rfl,rfl⟩
 have hS41:sW w U U32 [.row A38 c39 3 1 (nA KL.encI x29),.blk b2 66 B0] W35:=hS37
 have q:=hS41.freezeR (k:=0) (n:=x29.length) rfl (wAB (f:=KL.encI) (sz:=1) (fun _=>rfl) x29) (by decide)
 obtain ⟨U42,le43,hs44,hS45⟩:=q
 have hS46:sW w U U42 [.blk b2 66 B0] W35:=hS45
 have q:=bnd hm31
 obtain ⟨⟨⟩,h47,hm48⟩:=q
 try dsimp only at hm48
 refine zL 0 Z Z Z Z (zK Z Z Tryz.call254 (zC Z zP) Z) hS46 (fun hs=>wDy x29 A38 c39 W35 U42 hs hs44 h47) (.inr Z) ?_
 rintro U49 L50 v51 W52 le53 hS54 ⟨b55,rfl,rfl,h56⟩
 have hS57:sW w U U49 [.blk b2 66 B0] W52:=hS54
 refine oA Z Z (eN (zW ?_))
 have h58:=hs44.le le53
 have hE:=nB hm48;first | subst r | cases hE
 exact ⟨rfl,_,(ZF rfl),U49,_,(hS57.pick [] _ (by decide) rfl),b55,A38,c39,rfl,rfl,h56,h58⟩
theorem wDR (p0:wAF) (pb0:Nat) (pA0_0_1:Option Addr) (pc0_0_1:Nat) (pA0_0_2:Option Addr) (pc0_0_2:Nat) (pA0_1:Option Addr) (pc0_1:Nat) (pA0_2:Option Addr) (pc0_2:Nat) (p1:Int) (p2:Int) (p3:Int) (w:World) (U:PHeap) (hS:St0 w U []) (ha0:Cl U pb0 0 [jV p0.Race.Laps,.slice pA0_0_1 p0.Race.Bibs.length pc0_0_1,.slice pA0_0_2 p0.Race.Times.length pc0_0_2,.slice pA0_1 p0.done.length pc0_1,.slice pA0_2 p0.out.length pc0_2]) (ha1:Sl U 1 pA0_0_1 pc0_0_1 p0.Race.Bibs.length (nA KL.encI p0.Race.Bibs)) (ha2:SlR U wBH pA0_0_2 pc0_0_2 p0.Race.Times) (ha3:Sl U 1 pA0_1 pc0_1 p0.done.length (nA KL.encI p0.done)) (ha4:Sl U 1 pA0_2 pc0_2 p0.out.length (nA KL.encT p0.out)) {r:Int} (hm:wAv p0 p1 p2 p3=some r):Gv Tryz.prog 187 [.pointer (some ⟨pb0,0,none⟩),jV p1,jV p2,jV p3] w (wCO w [] U (fun U_ L_ v=>v=jV r/\L_=[])):=by
 unfold wAv at hm
 refine Gv.of Tryz.func187 Z Tryz.ntmps187 Tryz.results187 Z (sR fL1 Z (oA Z Z (eN (sR fL1 Z (oA Z Z (eN (zF (sR fL6 Z (oM Z Z (oR Z (ZQ Z Z) (oR Z (zX Z Z ZE Z zN) (oL Z (hS.ldC (f:=3) ha0 (v:=.slice pA0_1 p0.done.length pc0_1) Z Z zn Z) (oR Z (zo Z Z zA) (oM Z Z (eN (zS (bnK hm fun y12 hf9 hm8=>?_)))))))))))))))))
 have q:=wAx hf9
 obtain ⟨hle10,hf11⟩:=q
 replace hle10:=zD hle10
 refine CK.forN' (fun k7 x6 σ_ w_=>∃ (U_:PHeap),σ_ 17=jV (↑k7:Int)/\σ_ 0=.pointer (some ⟨pb0,0,none⟩)/\σ_ 2=jV p2/\σ_ 3=jV p3/\σ_ 9=jV x6/\σ_ 15=.slice pA0_1 p0.done.length pc0_1/\σ_ 16=jV (↑p0.done.length:Int)/\PHeap.Le U U_/\sW w U U_ [] w_) hf11 ?_ ?_ ?_
 ·exact ⟨U,Z,Z,Z,Z,Z,Z,Z,(zG _),hS⟩
 ·rintro k7 x6 xx15 σ13 W14 hk18 ⟨U20,fi19,f23,f24,f25,f26,f27,f28,le21,hS22⟩ hx16
  have c29:Hid ((↑k7:Int) < (↑p0.done.length:Int)):=zD (wBT hk18)
  replace hk18:=zD hk18
  have hi30:Hid (w64 ((↑k7:Int) + 1)=(↑(k7 + 1):Int)):=zD (by have h1:=hle10.out;have h2:=c29.out;rw [wAU] <;> omega)
  refine sR fL1 Z (oR Z (zQ Z fi19 f28) (eN (zF (cT Z c29 (kN (bnK hx16 fun x31 hx33 hm34=>CK.cut (fun σ_ w_=>∃ (U_:PHeap),σ_ 0=.pointer (some ⟨pb0,0,none⟩)/\σ_ 2=jV p2/\σ_ 3=jV p3/\σ_ 9=jV x31/\σ_ 15=.slice pA0_1 p0.done.length pc0_1/\σ_ 16=jV (↑p0.done.length:Int)/\σ_ 17=jV (↑k7:Int)/\PHeap.Le U20 U_/\sW w U U_ [] w_) ?_ ?_))))))
  ·refine zS (sR fL5 Z (oM Z fi19 (bnK hx33 fun x35 h36 hm37=>?_)))
   have h38:=ha3.le le21
   have q:=h38.el (fun _=>rfl) (wAZ h36)
   obtain ⟨b39,off40,hA41,hC42⟩:=q
   refine zY rfl rfl rfl rfl (fun _=>ZD rfl f27 hA41 fi19 zA zB (wCD h36)) (ZC rfl rfl rfl rfl (hS22.ldC (f:=0) hC42 (v:=jV x35) rfl rfl zJ rfl) rfl (Zb rfl rfl rfl rfl rfl rfl (Zb rfl rfl rfl rfl rfl rfl (eN (zF (Ze Za [3,3,3,1,3,3,1,3,3,3,3,3,3,3,3,3,3,3,3,1,3,3,1,3,3,3,1,3,3,3,3,3,3,3,3,3,3,3,1,3,3,1,3,3,3,3,1,3,3,1,3,3,3] fL53 (by kernel_rfl) ?_))))))
   have hS43:=hS22.drew
   generalize hw_W44:({ W14 with drawn:=W14.drawn + 1 }:World)=W44 at hS43 ⊢
   refine oM Z f23 (oR Z (ZQ Z Z) (oR Z (zX Z Z ZE Z Tryz.sizeOf77) ?_))
   have h45:=ha0.le le21
   refine oL Z (hS43.ldC (f:=4) h45 (v:=.slice pA0_2 p0.out.length pc0_2) Z Z Tryz.isAgg77 Z) (oM Z Z (bnK hm37 fun x46 h47 hm48=>?_))
   have h49:=ha4.le le21
   have q:=h49.el (fun _=>rfl) (wAZ h47)
   obtain ⟨b50,off51,hA52,hC53⟩:=q
   refine oR Z (ZD Z Z hA52 Z Zi Tryz.sizeOf4 (wCD h47)) (oL Z (hS43.ldC (f:=0) hC53 (v:=.bool x46) Z Z Tryz.isAgg4 Z) (oR Z (Zf Z Z) (oM Z Z (ifc hm48 ?_ ?_))))
   ·intro c54 hm55
    refine zf Z Z Z (zy Z Z (nC c54.out) Z) (zf Z Z Z (zy Z Z (nC c54.out) Z) (zf Z Z Z (zy Z Z (nC c54.out) Z) (zf Z Z Z (zy Z Z (nC c54.out) Z) (oR Z (zh Z (nC c54.out) Z) (oM Z Z (oN Z (oN Z (oN Z (oN Z (oN Z (oN Z (oN Z (oN Z (oN Z (oN Z (oN Z (oN Z (oN Z (oN Z (oR Z (zh Z Z Z) (oM Z Z (oN Z (oN Z (oN Z (zf Z Z Z (wAM Z Z Z) (zf Z Z Z (wAM Z Z Z) (zf Z Z Z (wAM Z Z Z) (zf Z Z Z (wAM Z Z Z) (zf Z Z Z (wAM Z Z Z) (zf Z Z Z (wAM Z Z Z) (zf Z Z Z (wAM Z Z Z) (zf Z Z Z (wAM Z Z Z) (zf Z Z Z (wAM Z Z Z) (zf Z Z Z (wAM Z Z Z) (zf Z Z Z (wAM Z Z Z) (zf Z Z Z (wAM Z Z Z) (zf Z Z Z (wAM Z Z Z) (zf Z Z Z (wAM Z Z Z) (zf Z Z Z (wAM Z Z Z) (zf Z Z Z (wAM Z Z Z) (zf Z Z Z (wAM Z Z Z) (oN Z (oR Z (zh Z Z Z) (eN (ZG Z (ZV (zZ ?_)))))))))))))))))))))))))))))))))))))))))))))))
    cases hm55
    exact zH ⟨Z,⟨U20,f23,f24,f25,f26,f27,f28,fi19,(zG _),hS43⟩⟩
   ·intro c54 hm57
    refine zR Z Z Z (zm Z Z (nF (c54.out))) Z Z (zR Z Z Z (zm Z Z (nF (c54.out))) Z f24 (zY Z Z Z (zm Z Z (nF (c54.out))) (fun _=>zV Z Z Z) (zY Z Z Z (zm Z Z (nF (c54.out))) (fun _=>Runs.geq Z Z Z) (oR Z (zg Z (nF (c54.out)) Z) (oM Z Z (ifc hm57 ?_ ?_))))))
    ·intro c58 hm59
     refine zR Z Z Z (wT Z c58) Z f23 (rU Z (wT Z c58) (ZQ Z Z) (rU Z (wT Z c58) (zX Z Z ZE Z ZB) (rU Z (wT Z c58) (zX Z Z zM Z ZX) (ZC Z Z Z (wT Z c58) (hS43.ldC (f:=2) h45 (v:=.slice pA0_0_2 p0.Race.Times.length pc0_0_2) Z Z zq Z) Z (zR Z Z Z (wT Z c58) Z Z (bnK hm59 fun x60 h61 hm62=>?_))))))
     have h63:=ha2.le le21
     have q:=h63.el (wAZ h61)
     obtain ⟨b64,off65,vs68,hA66,hC67,hr69⟩:=q
     obtain ⟨pA70,pc71,rfl,h72⟩:=hr69
     replace hC67:Cl U20 b64 (off65 + k7 * 1) [.slice pA70 x60.length pc71]:=hC67
     refine rU Z (wT Z c58) (ZD Z Z hA66 Z zO zN (wCD h61)) (ZC Z Z Z (wT Z c58) (hS43.ldC (f:=0) hC67 (v:=.slice pA70 x60.length pc71) Z Z zn Z) Z (zR Z Z Z (wT Z c58) Z Z (rU Z (wT Z c58) (Zn Z Z Z) (bnK hm62 fun x73 h74 hm75=>?_))))
     have q:=h72.el (fun _=>rfl) (wAZ h74)
     obtain ⟨b76,off77,hA78,hC79⟩:=q
     refine rU Z (wT Z c58) (ZS Z Z hA78 Z zA zB (wCC h74) (wCG h74)) (ZC Z Z Z (wT Z c58) (hS43.ldC (f:=0) hC79 (v:=jV x73) Z Z zJ Z) Z (zR Z Z Z (wT Z c58) Z f25 (rU Z (wT Z c58) (Runs.eql Z Z Z) (oR Z (zg Z (Zj c58.out) Z) (oM Z Z (ifc hm75 ?_ ?_))))))
     ·intro c80 hm81
      refine zR Z Z Z (wT Z c80) Z f26 (rU Z (wT Z c80) (zQ Z Z Z) (zR Z Z Z (wT Z c80) Z Z (ifc hm81 ?_ ?_)))
      ·intro c82 hm83
       refine oT Z c82 (oT Z c82 (oT Z c82 (oT Z c82 (oT Z c82 (oT Z c82 (oT Z c82 (oT Z c82 (oT Z c82 (oT Z c82 (oT Z c82 (oT Z c82 (oT Z c82 (oT Z c82 (oT Z c82 (oT Z c82 (oT Z c82 (rU Z (wT Z c80) (zg Z (Zj c82.out) Z) (oR Z (zg Z (Zj c80.out) Z) (eN (ZK Z (CK.fresh fun σ84 hσ85=>?_)))))))))))))))))))))
       have f86:σ84 0=.pointer (some ⟨pb0,0,none⟩):=(hσ85 0).trans f23
       have f87:σ84 2=jV p2:=(hσ85 2).trans f24
       have f88:σ84 3=jV p3:=(hσ85 3).trans f25
       have f89:σ84 9=jV x6:=(hσ85 9).trans f26
       have f90:σ84 10=jV (↑k7:Int):=(hσ85 10).trans rfl
       have f91:σ84 15=.slice pA0_1 p0.done.length pc0_1:=(hσ85 15).trans f27
       have f92:σ84 16=jV (↑p0.done.length:Int):=(hσ85 16).trans f28
       have f93:σ84 17=jV (↑k7:Int):=(hσ85 17).trans fi19
       clear hσ85
       refine rR fL2 Z (oM Z f90 (oA Z Z (zx (zZ ?_))))
       cases hm83
       exact zH ⟨Z,⟨U20,f86,f87,f88,Z,f91,f92,f93,(zG _),hS43⟩⟩
      ·intro c82 hm95
       refine zR Z Z Z (wF Z c82) Z f23 (rU Z (wF Z c82) (ZQ Z Z) (rU Z (wF Z c82) (zX Z Z ZE Z ZB) (rU Z (wF Z c82) (zX Z Z zM Z zN) (ZC Z Z Z (wF Z c82) (hS43.ldC (f:=1) h45 (v:=.slice pA0_0_1 p0.Race.Bibs.length pc0_0_1) Z Z zn Z) Z (zR Z Z Z (wF Z c82) Z Z (bnK hm95 fun x96 h97 hm98=>?_))))))
       have h99:=ha1.le le21
       have q:=h99.el (fun _=>rfl) (wAZ h97)
       obtain ⟨b100,off101,hA102,hC103⟩:=q
       refine rU Z (wF Z c82) (ZD Z Z hA102 Z zA zB (wCD h97)) (ZC Z Z Z (wF Z c82) (hS43.ldC (f:=0) hC103 (v:=jV x96) Z Z zJ Z) Z (zR Z Z Z (wF Z c82) Z f23 (rU Z (wF Z c82) (ZQ Z Z) (rU Z (wF Z c82) (zX Z Z ZE Z ZB) (rU Z (wF Z c82) (zX Z Z zM Z zN) (ZC Z Z Z (wF Z c82) (hS43.ldC (f:=1) h45 (v:=.slice pA0_0_1 p0.Race.Bibs.length pc0_0_1) Z Z zn Z) Z (zR Z Z Z (wF Z c82) Z f26 (bnK hm98 fun x104 h105 hm106=>?_))))))))
       have q:=h99.el (fun _=>rfl) (wAZ h105)
       obtain ⟨b107,off108,hA109,hC110⟩:=q
       refine rU Z (wF Z c82) (ZS Z Z hA109 Z zA zB (wCC h105) (wCG h105)) (ZC Z Z Z (wF Z c82) (hS43.ldC (f:=0) hC110 (v:=jV x104) Z Z zJ Z) Z (rU Z (wF Z c82) (zQ Z Z Z) (rU Z (wT Z c80) (zh Z (ZU c82.out) Z) (oR Z (zg Z (Zj c80.out) Z) (eN (ifc hm106 ?_ ?_))))))
       ·intro c111 hm112
        refine cT Z c111 (CK.fresh fun σ113 hσ114=>?_)
        have f115:σ113 0=.pointer (some ⟨pb0,0,none⟩):=(hσ114 0).trans f23
        have f116:σ113 2=jV p2:=(hσ114 2).trans f24
        have f117:σ113 3=jV p3:=(hσ114 3).trans f25
        have f118:σ113 9=jV x6:=(hσ114 9).trans f26
        have f119:σ113 10=jV (↑k7:Int):=(hσ114 10).trans rfl
        have f120:σ113 15=.slice pA0_1 p0.done.length pc0_1:=(hσ114 15).trans f27
        have f121:σ113 16=jV (↑p0.done.length:Int):=(hσ114 16).trans f28
        have f122:σ113 17=jV (↑k7:Int):=(hσ114 17).trans fi19
        clear hσ114
        refine rR fL2 Z (oM Z f119 (oA Z Z (zx (zZ ?_))))
        cases hm112
        exact zH ⟨Z,⟨U20,f115,f116,f117,Z,f120,f121,f122,(zG _),hS43⟩⟩
       ·intro c111 hm124
        refine cF Z c111 (ZV (zZ ?_))
        cases hm124
        exact zH ⟨Z,⟨U20,f23,f24,f25,f26,f27,f28,fi19,(zG _),hS43⟩⟩
     ·intro c80 hm126
      refine oF Z c80 (oF Z c80 (oF Z c80 (zf Z Z Z (wAM Z Z Z) (zf Z Z Z (wAM Z Z Z) (zf Z Z Z (wAM Z Z Z) (zf Z Z Z (wAM Z Z Z) (zf Z Z Z (wAM Z Z Z) (zf Z Z Z (wAM Z Z Z) (zf Z Z Z (wAM Z Z Z) (zf Z Z Z (wAM Z Z Z) (zf Z Z Z (wAM Z Z Z) (zf Z Z Z (wAM Z Z Z) (zf Z Z Z (wAM Z Z Z) (zf Z Z Z (wAM Z Z Z) (zf Z Z Z (wAM Z Z Z) (zf Z Z Z (wAM Z Z Z) (zf Z Z Z (wAM Z Z Z) (zf Z Z Z (wAM Z Z Z) (zf Z Z Z (wAM Z Z Z) (oF Z c80 (oR Z (zh Z (ZU c80.out) Z) (eN (ZG Z (ZV (zZ ?_)))))))))))))))))))))))))
      cases hm126
      exact zH ⟨Z,⟨U20,f23,f24,f25,f26,f27,f28,fi19,(zG _),hS43⟩⟩
    ·intro c58 hm128
     refine oF Z c58 (oF Z c58 (oF Z c58 (oF Z c58 (oF Z c58 (oF Z c58 (oF Z c58 (oF Z c58 (oF Z c58 (oF Z c58 (oF Z c58 (oF Z c58 (oF Z c58 (oF Z c58 (oR Z (zh Z (ZU c58.out) Z) (oM Z Z (oN Z (oN Z (oN Z (zf Z Z Z (wAM Z Z Z) (zf Z Z Z (wAM Z Z Z) (zf Z Z Z (wAM Z Z Z) (zf Z Z Z (wAM Z Z Z) (zf Z Z Z (wAM Z Z Z) (zf Z Z Z (wAM Z Z Z) (zf Z Z Z (wAM Z Z Z) (zf Z Z Z (wAM Z Z Z) (zf Z Z Z (wAM Z Z Z) (zf Z Z Z (wAM Z Z Z) (zf Z Z Z (wAM Z Z Z) (zf Z Z Z (wAM Z Z Z) (zf Z Z Z (wAM Z Z Z) (zf Z Z Z (wAM Z Z Z) (zf Z Z Z (wAM Z Z Z) (zf Z Z Z (wAM Z Z Z) (zf Z Z Z (wAM Z Z Z) (oN Z (oR Z (zh Z Z Z) (eN (ZG Z (ZV (zZ ?_)))))))))))))))))))))))))))))))))))))))))
     cases hm128
     exact zH ⟨Z,⟨U20,f23,f24,f25,f26,f27,f28,fi19,(zG _),hS43⟩⟩
  ·rintro σ130 W131 ⟨U132,f135,f136,f137,f138,f139,f140,f141,le133,hS134⟩
   refine rR fL2 Z (oR Z (zz (zV Z f141 Z) (congrArg (jV) hi30.out)) (oM Z Z (zx ?_)))
   cases hm34
   exact zH ⟨Z,⟨U132,Z,f135,f136,f137,f138,f139,f140,(le21.trans le133),hS134⟩⟩
 ·rintro σ143 W144 ⟨U148,fi146,f151,f152,f153,f154,f155,f156,le149,hS150⟩
  have c157:Hid (¬ ((↑(((↑p0.done.length:Int):Int) - 0).toNat:Int) < (↑p0.done.length:Int))):=zD (wAr)
  refine sR fL1 Z (oR Z (zQ Z fi146 f156) (eN (zF (cF Z c157 (ZM (ze (ze (ZI (zH (sR fL2 Z (oM Z f154 (oA Z Z (eN (zW ?_))))))))))))))
  have hE:=nB hm8;first | subst r | cases hE
  exact ⟨Z,_,(ZF Z),U148,_,hS150,Z,Z⟩
theorem wEX (p0:wAF) (pb0:Nat) (pA0_0_1:Option Addr) (pc0_0_1:Nat) (pA0_0_2:Option Addr) (pc0_0_2:Nat) (pA0_1:Option Addr) (pc0_1:Nat) (pA0_2:Option Addr) (pc0_2:Nat) (p1:Int) (w:World) (U:PHeap) (hS:St0 w U [.blk pb0 204 [jV p0.Race.Laps,.slice pA0_0_1 p0.Race.Bibs.length pc0_0_1,.slice pA0_0_2 p0.Race.Times.length pc0_0_2,.slice pA0_1 p0.done.length pc0_1,.slice pA0_2 p0.out.length pc0_2],.row pA0_1 pc0_1 3 1 (nA KL.encI p0.done),.row pA0_2 pc0_2 4 1 (nA KL.encT p0.out)]) (ha0:Sl U 1 pA0_0_1 pc0_0_1 p0.Race.Bibs.length (nA KL.encI p0.Race.Bibs)) (ha1:SlR U wBH pA0_0_2 pc0_0_2 p0.Race.Times) {r:(List Int) × wAF} (hm:wAw p0 p1=some r):Gv Tryz.prog 186 [.pointer (some ⟨pb0,0,none⟩),jV p1] w (wCO w [.blk pb0 204 [jV p0.Race.Laps,.slice pA0_0_1 p0.Race.Bibs.length pc0_0_1,.slice pA0_0_2 p0.Race.Times.length pc0_0_2,.slice pA0_1 p0.done.length pc0_1,.slice pA0_2 p0.out.length pc0_2],.row pA0_1 pc0_1 3 1 (nA KL.encI p0.done),.row pA0_2 pc0_2 4 1 (nA KL.encT p0.out)] U (fun U_ L_ v=>∃ (A0:Option Addr) (c0:Nat) (Ao001:Option Addr) (co001:Nat) (Ao002:Option Addr) (co002:Nat) (Ao01:Option Addr) (co01:Nat) (Ao02:Option Addr) (co02:Nat),v=.slice A0 r.1.length c0/\L_=[.row A0 c0 3 1 (nA KL.encI r.1),.row Ao01 co01 3 1 (nA KL.encI r.2.done),.row Ao02 co02 4 1 (nA KL.encT r.2.out),.blk pb0 204 [jV r.2.Race.Laps,.slice Ao001 r.2.Race.Bibs.length co001,.slice Ao002 r.2.Race.Times.length co002,.slice Ao01 r.2.done.length co01,.slice Ao02 r.2.out.length co02]]/\Sl U_ 1 Ao001 co001 r.2.Race.Bibs.length (nA KL.encI r.2.Race.Bibs)/\SlR U_ wBH Ao002 co002 r.2.Race.Times)):=by
 unfold wAw at hm
 refine Gv.of Tryz.func186 Z Tryz.ntmps186 Tryz.results186 Z (sR fL1 Z (oA Z Z (eN (zF (sR fL7 Z (oM Z Z (oR Z (ZQ Z Z) (oR Z (zX Z Z ZE Z ZB) (oR Z (zX Z Z zM Z ZX) (oL Z (hS.ldB (j:=0) Z Z Z zq (v:=.slice pA0_0_2 p0.Race.Times.length pc0_0_2) Z) (oR Z (zo Z Z zO) (oM Z Z (eN (zS (bnK hm fun y15 hf12 hm11=>?_)))))))))))))))
 have q:=wAx hf12
 obtain ⟨hle13,hf14⟩:=q
 replace hle13:=zD hle13
 let B0:Res:=.blk pb0 204 [jV p0.Race.Laps,.slice pA0_0_1 p0.Race.Bibs.length pc0_0_1,.slice pA0_0_2 p0.Race.Times.length pc0_0_2,.slice pA0_1 p0.done.length pc0_1,.slice pA0_2 p0.out.length pc0_2]
 let B1:Res:=.row pA0_2 pc0_2 4 1 (nA KL.encT p0.out)
 let B2:Res:=.row pA0_1 pc0_1 3 1 (nA KL.encI p0.done)
 refine CK.forN' (fun k10 l9 σ_ w_=>∃ (U_:PHeap),σ_ 17=jV (↑k10:Int)/\σ_ 0=.pointer (some ⟨pb0,0,none⟩)/\σ_ 1=jV p1/\σ_ 15=.slice pA0_0_2 p0.Race.Times.length pc0_0_2/\σ_ 16=jV (↑p0.Race.Times.length:Int)/\PHeap.Le U U_/\SW w [B0,B2,B1] U U_ [.row pA0_1 pc0_1 3 1 (nA KL.encI l9),B1,.blk pb0 204 [jV p0.Race.Laps,.slice pA0_0_1 p0.Race.Bibs.length pc0_0_1,.slice pA0_0_2 p0.Race.Times.length pc0_0_2,.slice pA0_1 l9.length pc0_1,.slice pA0_2 p0.out.length pc0_2]] w_/\l9.length=p0.done.length) hf14 ?_ ?_ ?_
 ·exact ⟨U,rfl,rfl,rfl,rfl,rfl,(zG _),(hS.pick [1,2,0] _ (by decide) rfl),rfl⟩
 ·rintro k10 l9 xx18 σ16 W17 hk21 ⟨U23,fi22,f26,f27,f28,f29,le24,hS25,h30⟩ hx19
  have c31:Hid ((↑k10:Int) < (↑p0.Race.Times.length:Int)):=zD (wBT hk21)
  replace hk21:=zD hk21
  have hi32:Hid (w64 ((↑k10:Int) + 1)=(↑(k10 + 1):Int)):=zD (by have h1:=hle13.out;have h2:=c31.out;rw [wAU] <;> omega)
  refine sR fL1 Z (oR Z (zQ Z fi22 f29) (eN (zF (cT Z c31 (kN (zF (zS (sR fL5 Z (oM Z fi22 (bnK hx19 fun x33 h34 hm35=>?_))))))))))
  have h36:=ha1.le le24
  have q:=h36.el (wAZ h34)
  obtain ⟨b37,off38,vs41,hA39,hC40,hr42⟩:=q
  obtain ⟨pA43,pc44,rfl,h45⟩:=hr42
  replace hC40:Cl U23 b37 (off38 + k10 * 1) [.slice pA43 x33.length pc44]:=hC40
  refine oR Z (ZD Z f28 hA39 fi22 zO zN (wCD h34)) (oL Z (hS25.ldC (f:=0) hC40 (v:=.slice pA43 x33.length pc44) Z Z zn Z) (oA Z Z (oA Z Z (eN (sR fL8 Z (oM Z f26 (oR Z (ZQ Z Z) (oR Z (zX Z Z ZE Z zN) (oL Z (hS25.ldB (j:=2) Z Z Z zn (v:=.slice pA0_1 l9.length pc0_1) Z) (oM Z Z (bnK hm35 fun _ h46 hm47=>?_)))))))))))
  obtain ⟨b48,hA49⟩:=hS25.rowSome (j:=0) rfl (by rw [wAB (f:=KL.encI) (sz:=1) (fun _=>rfl) l9];have hz:=wAP h46;omega)
  refine oR Z (ZD Z Z hA49 Z zA zB (wAP h46)) ?_
  have hg50:=wBM (xs:=l9) (wAP h46)
  refine ZC rfl rfl rfl rfl (hS25.ldR (j:=0) rfl hA49 rfl rfl zJ (wAO (sz:=1) (fun _=>rfl) _ _ 0 _ hg50 (by first | omega | rfl | simp) rfl)) rfl (Zb rfl rfl rfl rfl rfl rfl (eN (sR fL22 rfl (zR rfl rfl rfl rfl rfl f26 (zY rfl rfl rfl rfl (fun _=>ZQ rfl rfl) (zY rfl rfl rfl rfl (fun _=>zX rfl rfl ZE rfl Tryz.sizeOf77) (ZC rfl rfl rfl rfl (hS25.ldB (j:=2) rfl rfl rfl Tryz.isAgg77 (v:=.slice pA0_2 p0.out.length pc0_2) rfl) rfl (zR rfl rfl rfl rfl rfl rfl (bnK hm47 fun _ h51 hm52=>?_)))))))))
  obtain ⟨b53,hA54⟩:=hS25.rowSome (j:=1) rfl (by rw [wAB (f:=KL.encT) (sz:=1) (fun _=>rfl) p0.out];have hz:=wAP h51;omega)
  refine oR Z (ZD Z Z hA54 Z Zi Tryz.sizeOf4 (wAP h51)) ?_
  have hg55:=wBM (xs:=p0.out) (wAP h51)
  refine ZC rfl rfl rfl rfl (hS25.ldR (j:=1) rfl hA54 rfl rfl Tryz.isAgg4 (wAO (sz:=1) (fun _=>rfl) _ _ 0 _ hg55 (by first | omega | rfl | simp) rfl)) rfl (zY rfl rfl rfl rfl (fun _=>Zf rfl rfl) (zR rfl rfl rfl rfl rfl rfl (ifc hm52 ?_ ?_)))
  ·intro c56 hm57
   refine zf Z Z Z (zy Z Z (nC c56.out) Z) (zf Z Z Z (zy Z Z (nC c56.out) Z) (zf Z Z Z (zy Z Z (nC c56.out) Z) (zf Z Z Z (zy Z Z (nC c56.out) Z) (oR Z (zh Z (nC c56.out) Z) (oM Z Z (oN Z (oN Z (oN Z (oN Z (oN Z (oN Z (oR Z (zh Z Z Z) (eN (ZG Z (ZV (zZ (zH (rR fL2 Z (oR Z (zz (zV Z fi22 Z) (congrArg (jV) hi32.out)) (oM Z Z (zx ?_)))))))))))))))))))))
   cases hm57
   exact zH ⟨Z,⟨U23,Z,f26,f27,f28,f29,le24,hS25,h30⟩⟩
  ·intro c56 hm59
   refine zR Z Z Z (zm Z Z (nF (c56.out))) Z Z (zR Z Z Z (zm Z Z (nF (c56.out))) Z Z (zY Z Z Z (zm Z Z (nF (c56.out))) (fun _=>zo Z Z zA) (zY Z Z Z (zm Z Z (nF (c56.out))) (fun _=>zQ Z Z Z) (oR Z (zg Z (nF (c56.out)) Z) (oM Z Z (ifc hm59 ?_ ?_))))))
   ·intro c60 hm61
    refine zR Z Z Z (wT Z c60) Z Z (zR Z Z Z (wT Z c60) Z Z (bnK hm61 fun x62 h63 hm64=>?_))
    have q:=h45.el (fun _=>rfl) (wAZ h63)
    obtain ⟨b65,off66,hA67,hC68⟩:=q
    refine rU Z (wT Z c60) (ZS Z Z hA67 Z zA zB (wCC h63) (wCG h63)) (ZC Z Z Z (wT Z c60) (hS25.ldC (f:=0) hC68 (v:=jV x62) Z Z zJ Z) Z (zR Z Z Z (wT Z c60) Z f27 (rU Z (wT Z c60) (Runs.eql Z Z Z) (oR Z (zg Z (Zj c60.out) Z) (eN (ifc hm64 ?_ ?_))))))
    ·intro c69 hm70
     refine cT Z c69 (CK.fresh fun σ71 hσ72=>?_)
     have f73:σ71 0=.pointer (some ⟨pb0,0,none⟩):=(hσ72 0).trans f26
     have f74:σ71 1=jV p1:=(hσ72 1).trans f27
     have f75:σ71 5=jV (↑k10:Int):=(hσ72 5).trans rfl
     have f76:σ71 15=.slice pA0_0_2 p0.Race.Times.length pc0_0_2:=(hσ72 15).trans f28
     have f77:σ71 16=jV (↑p0.Race.Times.length:Int):=(hσ72 16).trans f29
     have f78:σ71 17=jV (↑k10:Int):=(hσ72 17).trans fi22
     clear hσ72
     refine rR (fC0_8 (.fx 9 .nil .stop)) Z (oM Z f73 (oR Z (ZQ Z Z) (oR Z (zX Z Z ZE Z zN) (oL Z (hS25.ldB (j:=2) Z Z Z zn (v:=.slice pA0_1 l9.length pc0_1) Z) (oM Z f75 (oR Z (ZD Z Z hA49 Z zA zB (wAP h46)) ?_))))))
     have hg79:=wBM (xs:=l9) (wAP h46)
     refine ZC rfl rfl rfl rfl (hS25.ldR (j:=0) rfl hA49 rfl rfl zJ (wAO (sz:=1) (fun _=>rfl) _ _ 0 _ hg79 (by first | omega | rfl | simp) rfl)) rfl (zY rfl rfl rfl rfl (fun _=>zV rfl rfl rfl) (zY rfl rfl rfl rfl (fun _=>ZD rfl rfl hA49 rfl zA zB (wAP h46)) ?_))
     have hg80:=wBM (xs:=l9) (wAP h46)
     refine OKS.stR (j:=0) (vs:=[jV (w64 ((gd l9 k10) + 1))]) (cs':=nA KL.encI (nJ l9 k10 (w64 ((gd l9 k10) + 1)))) rfl rfl rfl rfl hS25 rfl hA49 rfl rfl rfl zB (by rw [wAB (f:=KL.encI) (sz:=1) (fun _=>rfl)];have hz:=wAP h46;show _ + 1 <= _;first | omega | (simp only [nH];omega) | (simp only [nG,nD,nE];omega)) rfl (wDo (sz:=1) (fo:=0) (fun _=>rfl) _ _ _ _ hg80 (by first | omega | (simp only [nH];omega) | (simp only [nG,nD,nE];omega)) (zI rfl) rfl) rfl ?_
     intro W81 hS82
     let B3:Res:=.row pA0_1 pc0_1 3 1 (nA KL.encI (nJ l9 k10 (w64 ((gd l9 k10) + 1))))
     have hS83:SW w [B0,B2,B1] U U23 [B3,B1,.blk pb0 204 [jV p0.Race.Laps,.slice pA0_0_1 p0.Race.Bibs.length pc0_0_1,.slice pA0_0_2 p0.Race.Times.length pc0_0_2,.slice pA0_1 l9.length pc0_1,.slice pA0_2 p0.out.length pc0_2]] W81:=hS82
     have hS84:SW w [B0,B2,B1] U U23 [B3,B1,.blk pb0 204 [jV p0.Race.Laps,.slice pA0_0_1 p0.Race.Bibs.length pc0_0_1,.slice pA0_0_2 p0.Race.Times.length pc0_0_2,.slice pA0_1 ((nJ l9 k10 (w64 ((gd l9 k10) + 1))).length) pc0_1,.slice pA0_2 p0.out.length pc0_2]] W81:=by simpa only [nI] using hS83
     refine zx (zZ (zH (rR fL2 Z (oR Z (zz (zV Z f78 Z) (congrArg (jV) hi32.out)) (oM Z Z (zx ?_))))))
     cases hm70
     exact zH ⟨Z,⟨U23,Z,f73,f74,f76,f77,le24,hS84,(nI.trans h30)⟩⟩
    ·intro c69 hm86
     refine cF Z c69 (ZV (zZ (zH (rR fL2 Z (oR Z (zz (zV Z fi22 Z) (congrArg (jV) hi32.out)) (oM Z Z (zx ?_)))))))
     cases hm86
     exact zH ⟨Z,⟨U23,Z,f26,f27,f28,f29,le24,hS25,h30⟩⟩
   ·intro c60 hm88
    refine oF Z c60 (oF Z c60 (oF Z c60 (oF Z c60 (oF Z c60 (oF Z c60 (oR Z (zh Z (ZU c60.out) Z) (eN (ZG Z (ZV (zZ (zH (rR fL2 Z (oR Z (zz (zV Z fi22 Z) (congrArg (jV) hi32.out)) (oM Z Z (zx ?_)))))))))))))))
    cases hm88
    exact zH ⟨Z,⟨U23,Z,f26,f27,f28,f29,le24,hS25,h30⟩⟩
 ·rintro σ90 W91 ⟨U95,fi93,f98,f99,f100,f101,le96,hS97,h102⟩
  have c103:Hid (¬ ((↑(((↑p0.Race.Times.length:Int):Int) - 0).toNat:Int) < (↑p0.Race.Times.length:Int))):=zD (wAr)
  refine sR fL1 Z (oR Z (zQ Z fi93 f101) (eN (zF (cF Z c103 (ZM (ze (ze (ZI (zH (sR fL1 Z (oA Z Z (eN (zF (sR fL6 Z (oM Z f98 (oR Z (ZQ Z Z) (oR Z (zX Z Z ZE Z zN) (oL Z (hS97.ldB (j:=2) Z Z Z zn (v:=.slice pA0_1 y15.length pc0_1) Z) (oR Z (zo Z Z zA) (oM Z Z (eN (zS (bnK hm11 fun y126 hf123 hm122=>?_)))))))))))))))))))))))
  have q:=wAx hf123
  obtain ⟨hle124,hf125⟩:=q
  replace hle124:=zD hle124
  let B4:List Value:=[jV p0.Race.Laps,.slice pA0_0_1 p0.Race.Bibs.length pc0_0_1,.slice pA0_0_2 p0.Race.Times.length pc0_0_2,.slice pA0_1 y15.length pc0_1,.slice pA0_2 p0.out.length pc0_2]
  let B5:Res:=.row pA0_1 pc0_1 3 1 (nA KL.encI y15)
  refine CK.forN' (fun k121 l117 σ_ w_=>∃ (U_:PHeap) (A118:Option Addr) (c119:Nat),σ_ 66=jV (↑k121:Int)/\σ_ 0=.pointer (some ⟨pb0,0,none⟩)/\σ_ 1=jV p1/\σ_ 8=.slice A118 l117.length c119/\σ_ 64=.slice pA0_1 y15.length pc0_1/\σ_ 65=jV (↑y15.length:Int)/\PHeap.Le U95 U_/\SW w [B0,B2,B1] U U_ [B5,B1,.blk pb0 204 B4,.row A118 c119 3 1 (nA KL.encI l117)] w_) hf125 ?_ ?_ ?_
  ·have hS127:=hS97.nilrow 3 1
   exact ⟨U95,none,0,rfl,f98,f99,rfl,rfl,rfl,(zG _),(hS127.pick [1,2,3,0] _ (by decide) rfl)⟩
  ·rintro k121 l117 xx131 σ129 W130 hk134 ⟨U136,A118,c119,fi135,f139,f140,f141,f142,f143,le137,hS138⟩ hx132
   have c144:Hid ((↑k121:Int) < (↑y15.length:Int)):=zD (wBT hk134)
   replace hk134:=zD hk134
   have hi145:Hid (w64 ((↑k121:Int) + 1)=(↑(k121 + 1):Int)):=zD (by have h1:=hle124.out;have h2:=c144.out;rw [wAU] <;> omega)
   refine sR fL1 Z (oR Z (zQ Z fi135 f143) (eN (zF (cT Z c144 (kN (zF (zS (sR fL5 Z (oM Z fi135 (bnK hx132 fun _ h146 hm147=>?_))))))))))
   obtain ⟨b148,hA149⟩:=hS138.rowSome (j:=0) rfl (by rw [wAB (f:=KL.encI) (sz:=1) (fun _=>rfl) y15];have hz:=wAP h146;omega)
   refine oR Z (ZD Z f142 hA149 fi135 zA zB (wAP h146)) ?_
   have hg150:=wBM (xs:=y15) (wAP h146)
   refine ZC rfl rfl rfl rfl (hS138.ldR (j:=0) rfl hA149 rfl rfl zJ (wAO (sz:=1) (fun _=>rfl) _ _ 0 _ hg150 (by first | omega | rfl | simp) rfl)) rfl (Zb rfl rfl rfl rfl rfl rfl (Zb rfl rfl rfl rfl rfl rfl (eN (sR (wQV (.fx 13 (.fl 14 (.fl 15 .nil)) .stop)) rfl (zR rfl rfl rfl rfl rfl f139 (zY rfl rfl rfl rfl (fun _=>ZQ rfl rfl) (zY rfl rfl rfl rfl (fun _=>zX rfl rfl ZE rfl Tryz.sizeOf77) (ZC rfl rfl rfl rfl (hS138.ldB (j:=2) rfl rfl rfl Tryz.isAgg77 (v:=.slice pA0_2 p0.out.length pc0_2) rfl) rfl (zR rfl rfl rfl rfl rfl rfl (bnK hm147 fun _ h151 hm152=>?_))))))))))
   obtain ⟨b153,hA154⟩:=hS138.rowSome (j:=1) rfl (by rw [wAB (f:=KL.encT) (sz:=1) (fun _=>rfl) p0.out];have hz:=wAP h151;omega)
   refine oR Z (ZD Z Z hA154 Z Zi Tryz.sizeOf4 (wAP h151)) ?_
   have hg155:=wBM (xs:=p0.out) (wAP h151)
   refine ZC rfl rfl rfl rfl (hS138.ldR (j:=1) rfl hA154 rfl rfl Tryz.isAgg4 (wAO (sz:=1) (fun _=>rfl) _ _ 0 _ hg155 (by first | omega | rfl | simp) rfl)) rfl (zY rfl rfl rfl rfl (fun _=>Zf rfl rfl) (zR rfl rfl rfl rfl rfl rfl (ifc hm152 ?_ ?_)))
   ·intro c156 hm157
    refine zf Z Z Z (zy Z Z (nC c156.out) Z) (zf Z Z Z (zy Z Z (nC c156.out) Z) (zf Z Z Z (zy Z Z (nC c156.out) Z) (zf Z Z Z (zy Z Z (nC c156.out) Z) (Zk Z Z Z (zy Z Z (nC c156.out) Z) (zf Z Z Z (zy Z Z (nC c156.out) Z) (oR Z (zh Z (nC c156.out) Z) (eN (ZG Z (ZV (zZ (zH (rR fL2 Z (oR Z (zz (zV Z fi135 Z) (congrArg (jV) hi145.out)) (oM Z Z (zx ?_)))))))))))))))
    cases hm157
    exact zH ⟨Z,⟨U136,A118,c119,Z,f139,f140,f141,f142,f143,le137,hS138⟩⟩
   ·intro c156 hm161
    refine zR Z Z Z (zm Z Z (nF (c156.out))) Z f139 (zR Z Z Z (zm Z Z (nF (c156.out))) Z Z (zR Z Z Z (zm Z Z (nF (c156.out))) Z Z (zR Z Z Z (zm Z Z (nF (c156.out))) Z f140 ?_)))
    have q:=hS138.freezeT (k:=0) (n:=y15.length) rfl (wAB (f:=KL.encI) (sz:=1) (fun _=>rfl) y15) (by decide)
    obtain ⟨U163,le164,hs165,hS166,th162⟩:=q
    let B6:Res:=.row A118 c119 3 1 (nA KL.encI l117)
    have hS167:SW w [B0,B2,B1] U U163 [B1,.blk pb0 204 B4,B6] W130:=hS166
    have q:=hS167.freezeT (k:=0) (n:=p0.out.length) rfl (wAB (f:=KL.encT) (sz:=1) (fun _=>rfl) p0.out) (by decide)
    obtain ⟨U169,le170,hs171,hS172,th168⟩:=q
    have hS173:SW w [B0,B2,B1] U U169 [.blk pb0 204 B4,B6] W130:=hS172
    have q:=hS173.freezeTB (k:=0) rfl
    obtain ⟨U175,le176,hC177,hS178,th174⟩:=q
    replace hC177:=Cl.of hC177
    have hS179:SW w [B0,B2,B1] U U175 [B6] W130:=hS178
    replace hC177:Cl U175 pb0 0 B4:=hC177
    have h180:=ha0.le le96
    have h181:=h180.le le137
    have h182:=h181.le le164
    have h183:=h182.le le170
    have h184:=h183.le le176
    have h185:=ha1.le le96
    have h186:=h185.le le137
    have h187:=h186.le le164
    have h188:=h187.le le170
    have h189:=h188.le le176
    have h190:=hs165.le le170
    have h191:=h190.le le176
    have h192:=hs171.le le176
    refine bnK hm161 fun x193 h194 hm195=>zL 0 rfl rfl rfl (zm rfl rfl (nF (c156.out))) (zK rfl rfl Tryz.call187 (zC rfl (zC rfl (zC rfl (zC rfl zP)))) rfl) hS179 (fun hs=>wDR (⟨p0.Race,y15,p0.out⟩:wAF) pb0 pA0_0_1 pc0_0_1 pA0_0_2 pc0_0_2 pA0_1 pc0_1 pA0_2 pc0_2 (↑k121:Int) (gd y15 k121) p1 W130 U175 hs hC177 h184 h189 h191 h192 h194) (.inr rfl) ?_
    rintro U196 L197 v198 W199 le200 hS201 ⟨rfl,rfl⟩
    have hS202:SW w [B0,B2,B1] U U196 [B6] W199:=hS201
    have q:=th174 _ _ _ le200 hS202
    obtain ⟨U203,le204,hS205⟩:=q
    have hS206:SW w [B0,B2,B1] U U203 [.blk pb0 204 B4,B6] W199:=hS205
    have q:=th168 _ _ _ le204 hS206
    obtain ⟨U207,le208,hS209⟩:=q
    have hS210:SW w [B0,B2,B1] U U207 [B1,.blk pb0 204 B4,B6] W199:=hS209
    have q:=th162 _ _ _ le208 hS210
    obtain ⟨U211,le212,hS213⟩:=q
    have hS214:SW w [B0,B2,B1] U U211 [B5,B1,.blk pb0 204 B4,B6] W199:=hS213
    refine zY Z Z Z (zm Z Z (nF (c156.out))) (fun _=>Runs.geq Z Z Z) (oR Z (zg Z (nF (c156.out)) Z) (eN (ifc hm195 ?_ ?_)))
    ·intro c215 hm216
     refine cT Z c215 (rR (.fl 0 (.fl 1 (.fx 2 (.fx 3 (.fl 4 .nil) .stop) .stop))) Z (oM Z f141 (oM Z Z (zU (pv:=[(0,jV (↑k121:Int))]) (zs:=[jV 0]) (cs:=[jV (↑k121:Int)]) Z Z Z Z Z (wAH Z wAQ) zA zB zt Z Z Z Z Z hS214 ?_))))
     intro W217 b218 hS219
     let B7:Res:=.row (some ⟨b218,0,none⟩) 1 3 1 (nA KL.encI [(↑k121:Int)])
     have hS221:SW w [B0,B2,B1] U U211 [B7,B5,B1,.blk pb0 204 B4,B6] W217:=hS219
     refine bnK hm216 fun x222 h223 hm224=>ZO (j:=4) (enc:=KL.encI) (xs:=l117) (ys:=[(↑k121:Int)]) (zs:=x222) rfl rfl rfl rfl rfl zu wCc rfl rfl rfl rfl rfl rfl hS221 rfl rfl rfl (hS221.srcR (j:=0) rfl (by decide) (wAB (f:=KL.encI) (sz:=1) (fun _=>rfl) [(↑k121:Int)])) (fun _=>rfl) (fun _=>rfl) h223 rfl ?_
     intro A225 c226 W227 hS228
     have hS229:SW w [B0,B2,B1] U U211 [B7,B5,B1,.blk pb0 204 B4,.row A225 c226 3 1 (nA KL.encI x222)] W227:=hS228
     refine oA Z Z (zx (zZ (zH (rR fL2 Z (oR Z (zz (zV Z fi135 Z) (congrArg (jV) hi145.out)) (oM Z Z (zx ?_)))))))
     cases hm224
     exact zH ⟨rfl,⟨U211,A225,c226,rfl,f139,f140,rfl,f142,f143,(le137.trans le212),(hS229.pick [1,2,3,4] _ (by decide) rfl)⟩⟩
    ·intro c215 hm233
     refine cF Z c215 (ZV (zZ (zH (rR fL2 Z (oR Z (zz (zV Z fi135 Z) (congrArg (jV) hi145.out)) (oM Z Z (zx ?_)))))))
     cases hm233
     exact zH ⟨Z,⟨U211,A118,c119,Z,f139,f140,f141,f142,f143,(le137.trans le212),hS214⟩⟩
  ·rintro σ237 W238 ⟨U246,A244,c245,fi240,f249,f250,f251,f252,f253,le247,hS248⟩
   have c254:Hid (¬ ((↑(((↑y15.length:Int):Int) - 0).toNat:Int) < (↑y15.length:Int))):=zD (wAr)
   refine sR fL1 Z (oR Z (zQ Z fi240 f253) (eN (zF (cF Z c254 (ZM (ze (ze (ZI (zH (sR fL2 Z (oM Z f251 (oA Z Z (eN (zW ?_))))))))))))))
   have h255:=ha0.le le96
   have h256:=h255.le le247
   have h257:=ha1.le le96
   have h258:=h257.le le247
   cases hm122
   exact ⟨rfl,_,(ZF rfl),U246,_,(hS248.pick [3,0,1,2] _ (by decide) rfl),A244,c245,pA0_0_1,pc0_0_1,pA0_0_2,pc0_0_2,pA0_1,pc0_1,pA0_2,pc0_2,rfl,rfl,h256,h258⟩
end Go.Proofs.YtglpalgiipahjaaGreat
namespace Go.Proofs.YtglpalgiipahjaaGreat
open Go.KL
set_option maxHeartbeats 4000000
theorem wCT (p0:List wAE) (pA0:Option Addr) (pc0:Nat) (p1:((wAE × wAE)->Option Int)) (pv1:Value) (w:World) (U:PHeap) (hS:St ⟨w,[.row pA0 pc0 45 4 (nA wAJ p0)],U⟩ U [.row pA0 pc0 45 4 (nA wAJ p0)] w) (ha0:FnOK Tryz.prog U pv1 wSv wSw p1) (ha1:∃ g cb,pv1=.func (.func g) #[] cb) {r:List wAE} (hm:wAd p0 p1=some r):Gv Tryz.prog 188 [.slice pA0 p0.length pc0,pv1] w (wCO w [.row pA0 pc0 45 4 (nA wAJ p0)] U (fun U_ L_ v=>v=.tuple #[]/\L_=[.row pA0 pc0 45 4 (nA wAJ r)]/\r.length=p0.length)) :=
 wNC (sz:=4) (fun _=>rfl) (fun x v h=>List.all_eq_true.1 (show (wAJ x).all (·.oneCell')=true from rfl) v h) (fun _ _ _=>rfl) (fun _ _ _ _ h=>h.1) (fun enc a1 a2 cf b g cb k1 k2 k3 d w h1 h2 h3 h4 h5 h6=>Go.Proofs.Tryz.slices_SortFunc_total_f188 4 Tryz.isAgg45 Tryz.sizeOf45 enc a1 a2 cf b g cb k1 k2 k3 d w h1 h2 h3 h4 h5 h6) (fun p c v w=>Go.Proofs.Tryz.slices_SortFunc_none_f188 (α:=Int) p c v w) hS ha0 (by decide) ha1 hm
theorem wJK (p0:List Int) (pA0:Option Addr) (pc0:Nat) (w:World) (U:PHeap) (hS:St0 w U []) (ha0:Sl U 1 pA0 pc0 p0.length (nA KL.encI p0)) {r:Int} (hm:wCz p0=some r):Gv Tryz.prog 94 [.slice pA0 p0.length pc0] w (wCO w [] U (fun U_ L_ v=>v=jV r/\L_=[])):=by
 unfold wCz at hm
 refine Gv.of Tryz.func94 Z Tryz.ntmps94 Tryz.results94 Z (sR fL1 Z (oA Z Z (eN (sR fL1 Z (oA Z Z (eN (zF (sR fL3 Z (oM Z Z (oR Z (zo Z Z zA) (oM Z Z (eN (zS ?_)))))))))))))
 have q:=wDL hm
 obtain ⟨r3,hX4⟩:=q
 have q:=wDK hX4
 obtain ⟨hle5,hf6⟩:=q
 replace hle5:=zD hle5
 refine CK.forN (fun k2 _ σ_ w_=>∃ (U_:PHeap),σ_ 8=jV (↑k2:Int)/\σ_ 3=jV 0/\σ_ 6=.slice pA0 p0.length pc0/\σ_ 7=jV (↑p0.length:Int)/\PHeap.Le U U_/\sW w U U_ [] w_) hf6 ?_ ?_ ?_
 ·exact ⟨U,Z,Z,Z,Z,(zG _),hS⟩
 ·rintro k2 ⟨⟩ xx9 σ7 W8 hk12 ⟨U14,fi13,f17,f18,f19,le15,hS16⟩ hx10 hb11
  try dsimp only at hx10
  have c20:Hid ((↑k2:Int) < (↑p0.length:Int)):=zD (wBT hk12)
  replace hk12:=zD hk12
  have hi21:Hid (w64 ((↑k2:Int) + 1)=(↑(k2 + 1):Int)):=zD (by have h1:=hle5.out;have h2:=c20.out;rw [wAU] <;> omega)
  refine sR fL1 Z (oR Z (zQ Z fi13 f19) (eN (zF (cT Z c20 (kN (zF (zS (sR fL3 Z (bnK hx10 fun x22 h23 hm24=>?_)))))))))
  have h25:=ha0.le le15
  have q:=h25.el (fun _=>rfl) (wAZ h23)
  obtain ⟨b26,off27,hA28,hC29⟩:=q
  refine oR Z (ZD Z f18 hA28 fi13 zA zB (wCD h23)) (oL Z (hS16.ldC (f:=0) hC29 (v:=jV x22) Z Z zJ Z) (oA Z Z (eN (sR fL3 Z (oM Z Z (oM Z f17 (oR Z (Zp Z Z Z) (eN (ifc hm24 ?_ ?_)))))))))
  ·intro c30 hm31
   refine ZG (ZU (fun h=>h c30.out)) (ZV (zZ (zH (rR fL2 Z (oR Z (zz (zV Z fi13 Z) (congrArg (jV) hi21.out)) (oM Z Z (zx ?_)))))))
   obtain rfl:=nB hm31
   exact zH ⟨Z,_,Z,⟨U14,Z,f17,f18,f19,le15,hS16⟩⟩
  ·intro c30 hm32
   refine cT Z c30 (sR fL2 Z (oM Z Z (oA Z Z (eN (zW (ZJ (zk ?_)))))))
   have q:=wCP hm32
   obtain ⟨v33,hm34,e35⟩:=q
   obtain rfl:=wEJ hm hX4 (hb11 v33 e35)
   refine zk (ZJ (zk ?_))
   have hE:=nB hm34;first | subst r | cases hE
   exact ⟨Z,_,(ZF Z),U14,_,hS16,Z,Z⟩
 ·rintro ⟨⟩ σ36 W37 ⟨U40,fi39,f43,f44,f45,le41,hS42⟩ hb38
  have hm46:=wEI hm hX4 hb38
  try dsimp only at hm46
  have c47:Hid (¬ ((↑(((↑p0.length:Int):Int) - 0).toNat:Int) < (↑p0.length:Int))):=zD (wAr)
  refine sR fL1 Z (oR Z (zQ Z fi39 f45) (eN (zF (cF Z c47 (ZM (ze (ze (ZI (zH (sR fL2 Z (oM Z f43 (oA Z Z (eN (zW ?_))))))))))))))
  cases hm46
  exact ⟨Z,_,(ZF Z),U40,_,hS42,Z,Z⟩
theorem wIK (p0:wAE) (p1:wAE) (w:World) (U:PHeap) (hS:St0 w U [])  {r:Int} (hm:wAp p0 p1=some r):Gv Tryz.prog 189 [.agg #[jV p0.Bib,jV p0.Done,jV p0.Time,jV p0.By],.agg #[jV p1.Bib,jV p1.Done,jV p1.Time,jV p1.By]] w (wCO w [] U (fun U_ L_ v=>v=jV r/\L_=[])):=by
 unfold wAp at hm
 refine Gv.of Tryz.func189 Z Tryz.ntmps189 Tryz.results189 Z (sR (.fx 0 (.fx 1 (.fl 2 .nil) .stop) .stop) Z ?_)
 let B0:List Value:=[jV p0.Bib,jV p0.Done,jV p0.Time,jV p0.By]
 refine Zl (cs:=B0) rfl rfl rfl rfl rfl rfl (by rfl) hS ?_
 intro W1 b2 hS3
 let B1:List Value:=[jV p1.Bib,jV p1.Done,jV p1.Time,jV p1.By]
 refine Zl (cs:=B1) rfl rfl rfl rfl rfl rfl (by rfl) hS3 ?_
 intro W5 b6 hS7
 refine Zb rfl rfl rfl rfl rfl rfl (eN (zF (Ze Za [3,1,3,1,2,3,1,3,1,2,2,2,3] (wHL (fC5_8 (.fx 4 (.fx 9 (.fx 10 (.fx 11 (.fl 12 .nil) .stop) .stop) .stop) .stop))) (by kernel_rfl) ?_)))
 have hS9:=hS7.drew
 generalize hw_W10:({ W5 with drawn:=W5.drawn + 1 }:World)=W10 at hS9 ⊢
 refine oR Z (zX Z Z Tryz.runUnderlying45 Z zB) (oL Z (hS9.ldB (j:=1) Z Z Z zJ (v:=jV p0.Time) Z) (oR Z (zX Z Z Tryz.runUnderlying45 Z zB) (oL Z (hS9.ldB (j:=0) Z Z Z zJ (v:=jV p1.Time) Z) (oR Z (zX Z Z Tryz.runUnderlying45 Z zB) (oL Z (hS9.ldB (j:=1) Z Z Z zJ (v:=jV p0.Bib) Z) (oR Z (zX Z Z Tryz.runUnderlying45 Z zB) (oL Z (hS9.ldB (j:=0) Z Z Z zJ (v:=jV p1.Bib) Z) (bnK hm fun x11 h12 hm13=>zL 0 Z Z Z Z (zK Z Z Tryz.call95 (zC Z (zC Z zP)) Z) hS9 (fun hs=>wCu p0.Time p1.Time W10 U hs h12) (.inr Z) ?_))))))))
 rintro U14 L15 v16 W17 le18 hS19 ⟨rfl,rfl⟩
 have hS20:sW w U U14 [.blk b6 45 B1,.blk b2 45 B0] W17:=hS19
 refine bnK hm13 fun x21 h22 hm23=>zL 0 Z Z Z Z (zK Z Z Tryz.call95 (zC Z (zC Z zP)) Z) hS20 (fun hs=>wCu p0.Bib p1.Bib W17 U14 hs h22) (.inr Z) ?_
 rintro U24 L25 v26 W27 le28 hS29 ⟨rfl,rfl⟩
 have hS30:sW w U U24 [.blk b6 45 B1,.blk b2 45 B0] W27:=hS29
 refine zU (pv:=[(0,jV x11),(1,jV x21)]) (zs:=[jV 0,jV 0]) (cs:=[jV x11,jV x21]) Z Z Z Z Z (wAH Z (wAH Z wAQ)) zA zB zt Z Z Z Z Z hS30 ?_
 intro W31 b32 hS33
 have hS35:sW w U U24 [.row (some ⟨b32,0,none⟩) 2 3 1 (nA KL.encI [x11,x21]),.blk b6 45 B1,.blk b2 45 B0] W31:=hS33
 have q:=hS35.freezeR (k:=0) (n:=[x11,x21].length) rfl (wAB (f:=KL.encI) (sz:=1) (fun _=>rfl) [x11,x21]) (by decide)
 obtain ⟨U36,le37,hs38,hS39⟩:=q
 have hS40:sW w U U36 [.blk b6 45 B1,.blk b2 45 B0] W31:=hS39
 refine bnK hm23 fun x41 h42 hm43=>zL 0 Z Z Z Z (zK Z Z Tryz.call94 (zC Z zP) Z) hS40 (fun hs=>wJK [x11,x21] (some ⟨b32,0,none⟩) 2 W31 U36 hs hs38 h42) (.inr Z) ?_
 rintro U44 L45 v46 W47 le48 hS49 ⟨rfl,rfl⟩
 have hS50:sW w U U44 [.blk b6 45 B1,.blk b2 45 B0] W47:=hS49
 refine oA Z Z (eN (zW ?_))
 have hE:=nB hm43;first | subst r | cases hE
 exact ⟨rfl,_,(ZF rfl),U44,_,(hS50.pick [] _ (by decide) rfl),rfl,rfl⟩
theorem wHF (p0:wAD) (pA0_1:Option Addr) (pc0_1:Nat) (pA0_2:Option Addr) (pc0_2:Nat) (w:World) (U:PHeap) (hS:St0 w U []) (ha0:Sl U 1 pA0_1 pc0_1 p0.Bibs.length (nA KL.encI p0.Bibs)) (ha1:SlR U wBH pA0_2 pc0_2 p0.Times) {r:wAF × (List wAE)} (hm:wCM p0=some r):Gv Tryz.prog 107 [.agg #[jV p0.Laps,.slice pA0_1 p0.Bibs.length pc0_1,.slice pA0_2 p0.Times.length pc0_2]] w (wCO w [] U (fun U_ L_ v=>∃ (b0:Nat) (A0p01:Option Addr) (c0p01:Nat) (A0p02:Option Addr) (c0p02:Nat) (A0p1:Option Addr) (c0p1:Nat) (A0p2:Option Addr) (c0p2:Nat) (A1:Option Addr) (c1:Nat),v=.tuple #[.pointer (some ⟨b0,0,none⟩),.slice A1 r.2.length c1]/\L_=[.blk b0 204 [jV r.1.Race.Laps,.slice A0p01 r.1.Race.Bibs.length c0p01,.slice A0p02 r.1.Race.Times.length c0p02,.slice A0p1 r.1.done.length c0p1,.slice A0p2 r.1.out.length c0p2],.row A0p1 c0p1 3 1 (nA KL.encI r.1.done),.row A0p2 c0p2 4 1 (nA KL.encT r.1.out),.row A1 c1 45 4 (nA wAJ r.2)]/\Sl U_ 1 A0p01 c0p01 r.1.Race.Bibs.length (nA KL.encI r.1.Race.Bibs)/\SlR U_ wBH A0p02 c0p02 r.1.Race.Times)):=by
 unfold wCM at hm
 refine Go.KX.Gv.ofM Tryz.func107 Z Tryz.ntmps107 Tryz.results107 (zI Z) (sR (.fx 0 (.fl 1 (.fl 2 .nil)) .stop) Z ?_)
 let B0:List Value:=[jV p0.Laps,.slice pA0_1 p0.Bibs.length pc0_1,.slice pA0_2 p0.Times.length pc0_2]
 refine Zl (cs:=B0) rfl rfl rfl rfl rfl rfl (by rfl) hS ?_
 intro W1 b2 hS3
 refine oA Z Z (oA Z Z (eN ?_))
 have q:=bnd hm
 obtain ⟨⟨l9,l12⟩,hx16,hm17⟩:=q
 try dsimp only at hm17
 refine CK.cut (fun σ_ w_=>∃ (U_:PHeap) (b6:Nat) (b8:Nat) (A10:Option Addr) (c11:Nat) (A13:Option Addr) (c14:Nat),σ_ 1=.pointer (some ⟨b2,0,none⟩)/\σ_ 4=.pointer (some ⟨b6,0,none⟩)/\PHeap.Le U U_/\sW w U U_ [.blk b2 66 B0,.blk b6 200 [.pointer (some ⟨b8,0,none⟩)],.blk b8 204 [jV p0.Laps,.slice pA0_1 p0.Bibs.length pc0_1,.slice pA0_2 p0.Times.length pc0_2,.slice A10 l9.length c11,.slice A13 l12.length c14],.row A10 c11 3 1 (nA KL.encI l9),.row A13 c14 4 1 (nA KL.encT l12)] w_) ?_ ?_
 ·refine bnK hx16 fun x18 h19 hm45=>bnK hm45 fun x26 h27 hm46=>Ze Za [1,3,1,3,2,3,1,3,2,3,2,2,0] (wHL (fC5_7 (.fx 4 (.fx 8 gCx (.fx 11 gCv .stop)) (.fx 8 (.fx 4 gCx (.fx 11 gCw .stop)) (.fx 11 (.fx 4 gCv (.fx 8 gCw .stop)) .stop))))) (by kernel_rfl) ?_
  have hS47:=hS3.drew
  generalize hw_W48:({ W1 with drawn:=W1.drawn + 1 }:World)=W48 at hS47 ⊢
  refine zr (s:=.nil) (M:=fun σ_ w_=>∃ (U_:PHeap) (b158:Nat) (b160:Nat) (A161:Option Addr) (c162:Nat) (A163:Option Addr) (c164:Nat),σ_ 1=.pointer (some ⟨b2,0,none⟩)/\σ_ 4=.pointer (some ⟨b158,0,none⟩)/\σ_ 12=.agg B0.toArray/\σ_ 13=.pointer (some ⟨b2,1,none⟩)/\σ_ 14=.slice pA0_1 p0.Bibs.length pc0_1/\σ_ 15=jV (↑p0.Bibs.length:Int)/\σ_ 16=.slice A161 x18.length c162/\σ_ 17=.pointer (some ⟨b2,1,none⟩)/\σ_ 18=.slice pA0_1 p0.Bibs.length pc0_1/\σ_ 19=jV (↑p0.Bibs.length:Int)/\σ_ 20=.slice A163 x26.length c164/\σ_ 21=.agg #[jV p0.Laps,.slice pA0_1 p0.Bibs.length pc0_1,.slice pA0_2 p0.Times.length pc0_2,.slice A161 x18.length c162,.slice A163 x26.length c164]/\σ_ 22=.pointer (some ⟨b160,0,none⟩)/\PHeap.Le U U_/\sW w U U_ [.blk b2 66 B0,.blk b158 200 [.pointer (some ⟨b160,0,none⟩)],.blk b160 204 [jV p0.Laps,.slice pA0_1 p0.Bibs.length pc0_1,.slice pA0_2 p0.Times.length pc0_2,.slice A161 x18.length c162,.slice A163 x26.length c164],.row A161 c162 3 1 (nA KL.encI x18),.row A163 c164 4 1 (nA KL.encT x26)] w_) ?_ fun ko165=>?_
  ·rintro σ166 W167 ⟨U168,b158,b160,A161,c162,A163,c164,f171,f172,f173,f174,f175,f176,f177,f178,f179,f180,f181,f182,f183,le169,hS170⟩
   refine zx ?_
   cases hm46
   exact zH ⟨Z,⟨U168,b158,b160,A161,c162,A163,c164,f171,f172,le169,hS170⟩⟩
  refine zr (s:=.fx 12 .nil .stop) (M:=fun σ_ w_=>∃ (U_:PHeap) (b195:Nat) (A196:Option Addr) (c197:Nat) (A198:Option Addr) (c199:Nat) (b201:Nat),σ_ 1=.pointer (some ⟨b2,0,none⟩)/\σ_ 4=.pointer (some ⟨b195,0,none⟩)/\σ_ 12=.agg B0.toArray/\σ_ 13=.pointer (some ⟨b2,1,none⟩)/\σ_ 14=.slice pA0_1 p0.Bibs.length pc0_1/\σ_ 15=jV (↑p0.Bibs.length:Int)/\σ_ 16=.slice A196 x18.length c197/\σ_ 17=.pointer (some ⟨b2,1,none⟩)/\σ_ 18=.slice pA0_1 p0.Bibs.length pc0_1/\σ_ 19=jV (↑p0.Bibs.length:Int)/\σ_ 20=.slice A198 x26.length c199/\σ_ 21=.agg #[jV p0.Laps,.slice pA0_1 p0.Bibs.length pc0_1,.slice pA0_2 p0.Times.length pc0_2,.slice A196 x18.length c197,.slice A198 x26.length c199]/\σ_ 22=.pointer (some ⟨b201,0,none⟩)/\PHeap.Le U U_/\sW w U U_ [.blk b2 66 B0,.blk b195 200 [.pointer none],.row A196 c197 3 1 (nA KL.encI x18),.row A198 c199 4 1 (nA KL.encT x26),.blk b201 204 [jV p0.Laps,.slice pA0_1 p0.Bibs.length pc0_1,.slice pA0_2 p0.Times.length pc0_2,.slice A196 x18.length c197,.slice A198 x26.length c199]] w_) ?_ fun ko202=>?_
  ·rintro σ203 W204 ⟨U205,b195,A196,c197,A198,c199,b201,f208,f209,f210,f211,f212,f213,f214,f215,f216,f217,f218,f219,f220,le206,hS207⟩
   let B1:List Value:=[.pointer (some ⟨b201,0,none⟩)]
   refine ZR (j:=1) (vs:=B1) Z Z Z Z hS207 Z f209 f220 Z Tryz.sizeOf200 (zI Z) Z Z Z ?_
   intro W221 hS222
   have hS223:sW w U U205 [.blk b2 66 B0,.blk b195 200 B1,.row A196 c197 3 1 (nA KL.encI x18),.row A198 c199 4 1 (nA KL.encT x26),.blk b201 204 [jV p0.Laps,.slice pA0_1 p0.Bibs.length pc0_1,.slice pA0_2 p0.Times.length pc0_2,.slice A196 x18.length c197,.slice A198 x26.length c199]] W221:=hS222
   exact ko165 _ _ ⟨U205,b195,b201,A196,c197,A198,c199,f208,f209,f210,f211,f212,f213,f214,f215,f216,f217,f218,f219,f220,le206,(hS223.pick [0,1,4,2,3] _ (by decide) rfl)⟩
  refine zr (s:=gCt) (M:=fun σ_ w_=>∃ (U_:PHeap) (b233:Nat) (A234:Option Addr) (c235:Nat) (A236:Option Addr) (c237:Nat),σ_ 1=.pointer (some ⟨b2,0,none⟩)/\σ_ 4=.pointer (some ⟨b233,0,none⟩)/\σ_ 12=.agg B0.toArray/\σ_ 13=.pointer (some ⟨b2,1,none⟩)/\σ_ 14=.slice pA0_1 p0.Bibs.length pc0_1/\σ_ 15=jV (↑p0.Bibs.length:Int)/\σ_ 16=.slice A234 x18.length c235/\σ_ 17=.pointer (some ⟨b2,1,none⟩)/\σ_ 18=.slice pA0_1 p0.Bibs.length pc0_1/\σ_ 19=jV (↑p0.Bibs.length:Int)/\σ_ 20=.slice A236 x26.length c237/\σ_ 21=.agg #[jV p0.Laps,.slice pA0_1 p0.Bibs.length pc0_1,.slice pA0_2 p0.Times.length pc0_2,.slice A234 x18.length c235,.slice A236 x26.length c237]/\PHeap.Le U U_/\sW w U U_ [.blk b2 66 B0,.blk b233 200 [.pointer none],.row A234 c235 3 1 (nA KL.encI x18),.row A236 c237 4 1 (nA KL.encT x26)] w_) ?_ fun ko238=>?_
  ·rintro σ239 W240 ⟨U241,b233,A234,c235,A236,c237,f244,f245,f246,f247,f248,f249,f250,f251,f252,f253,f254,f255,le242,hS243⟩
   refine Zl (cs:=[jV p0.Laps,.slice pA0_1 p0.Bibs.length pc0_1,.slice pA0_2 p0.Times.length pc0_2,.slice A234 x18.length c235,.slice A236 x26.length c237]) rfl rfl rfl rfl rfl f255 (by rfl) hS243 ?_
   intro W256 b257 hS258
   exact ko202 _ _ ⟨U241,b233,A234,c235,A236,c237,b257,f244,f245,f246,f247,f248,f249,f250,f251,f252,f253,f254,f255,rfl,le242,(hS258.pick [1,2,3,4,0] _ (by decide) rfl)⟩
  refine zr (s:=gCs) (M:=fun σ_ w_=>∃ (U_:PHeap) (A268:Option Addr) (c269:Nat) (A270:Option Addr) (c271:Nat) (b273:Nat),σ_ 1=.pointer (some ⟨b2,0,none⟩)/\σ_ 12=.agg B0.toArray/\σ_ 13=.pointer (some ⟨b2,1,none⟩)/\σ_ 14=.slice pA0_1 p0.Bibs.length pc0_1/\σ_ 15=jV (↑p0.Bibs.length:Int)/\σ_ 16=.slice A268 x18.length c269/\σ_ 17=.pointer (some ⟨b2,1,none⟩)/\σ_ 18=.slice pA0_1 p0.Bibs.length pc0_1/\σ_ 19=jV (↑p0.Bibs.length:Int)/\σ_ 20=.slice A270 x26.length c271/\σ_ 21=.agg #[jV p0.Laps,.slice pA0_1 p0.Bibs.length pc0_1,.slice pA0_2 p0.Times.length pc0_2,.slice A268 x18.length c269,.slice A270 x26.length c271]/\σ_ 22=.pointer (some ⟨b273,0,none⟩)/\PHeap.Le U U_/\sW w U U_ [.blk b2 66 B0,.row A268 c269 3 1 (nA KL.encI x18),.row A270 c271 4 1 (nA KL.encT x26),.blk b273 204 [jV p0.Laps,.slice pA0_1 p0.Bibs.length pc0_1,.slice pA0_2 p0.Times.length pc0_2,.slice A268 x18.length c269,.slice A270 x26.length c271]] w_) ?_ fun ko274=>?_
  ·rintro σ275 W276 ⟨U277,A268,c269,A270,c271,b273,f280,f281,f282,f283,f284,f285,f286,f287,f288,f289,f290,f291,le278,hS279⟩
   refine zw (cs:=[.pointer none]) Z Z Z Z Z Tryz.zeroValue200 Z hS279 ?_
   intro W292 b293 hS294
   exact ko202 _ _ ⟨U277,b293,A268,c269,A270,c271,b273,f280,rfl,f281,f282,f283,f284,f285,f286,f287,f288,f289,f290,f291,le278,(hS294.pick [1,0,2,3,4] _ (by decide) rfl)⟩
  refine zr (s:=.fl 9 gCt) (M:=fun σ_ w_=>∃ (U_:PHeap) (b305:Nat) (A306:Option Addr) (c307:Nat) (A308:Option Addr) (c309:Nat),σ_ 1=.pointer (some ⟨b2,0,none⟩)/\σ_ 4=.pointer (some ⟨b305,0,none⟩)/\σ_ 12=.agg B0.toArray/\σ_ 13=.pointer (some ⟨b2,1,none⟩)/\σ_ 14=.slice pA0_1 p0.Bibs.length pc0_1/\σ_ 15=jV (↑p0.Bibs.length:Int)/\σ_ 16=.slice A306 x18.length c307/\σ_ 17=.pointer (some ⟨b2,1,none⟩)/\σ_ 18=.slice pA0_1 p0.Bibs.length pc0_1/\σ_ 19=jV (↑p0.Bibs.length:Int)/\σ_ 20=.slice A308 x26.length c309/\PHeap.Le U U_/\sW w U U_ [.blk b2 66 B0,.blk b305 200 [.pointer none],.row A306 c307 3 1 (nA KL.encI x18),.row A308 c309 4 1 (nA KL.encT x26)] w_) ?_ fun ko310=>?_
  ·rintro σ311 W312 ⟨U313,b305,A306,c307,A308,c309,f316,f317,f318,f319,f320,f321,f322,f323,f324,f325,f326,le314,hS315⟩
   let B2:List Value:=[jV p0.Laps,.slice pA0_1 p0.Bibs.length pc0_1,.slice pA0_2 p0.Times.length pc0_2,.slice A306 x18.length c307,.slice A308 x26.length c309]
   refine zY rfl rfl rfl rfl (fun _=>Zd (pv:=[(0,.agg B0.toArray),(1,.slice A306 x18.length c307),(2,.slice A308 x26.length c309)]) (z:=[jV 0,.slice none 0 0,.slice none 0 0,.slice none 0 0,.slice none 0 0]) (cs:=B2) rfl (wAH f318 (wAH f322 (wAH f326 wAQ))) Tryz.zeroValue204 wJI rfl rfl) (Zl (cs:=B2) rfl rfl rfl rfl rfl rfl (by rfl) hS315 ?_)
   intro W327 b328 hS329
   exact ko202 _ _ ⟨U313,b305,A306,c307,A308,c309,b328,f316,f317,f318,f319,f320,f321,f322,f323,f324,f325,f326,rfl,rfl,le314,(hS329.pick [1,2,3,4,0] _ (by decide) rfl)⟩
  refine zr (s:=gCw) (M:=fun σ_ w_=>∃ (U_:PHeap) (b340:Nat) (A341:Option Addr) (c342:Nat),σ_ 1=.pointer (some ⟨b2,0,none⟩)/\σ_ 4=.pointer (some ⟨b340,0,none⟩)/\σ_ 12=.agg B0.toArray/\σ_ 13=.pointer (some ⟨b2,1,none⟩)/\σ_ 14=.slice pA0_1 p0.Bibs.length pc0_1/\σ_ 15=jV (↑p0.Bibs.length:Int)/\σ_ 17=.pointer (some ⟨b2,1,none⟩)/\σ_ 18=.slice pA0_1 p0.Bibs.length pc0_1/\σ_ 19=jV (↑p0.Bibs.length:Int)/\σ_ 20=.slice A341 x26.length c342/\PHeap.Le U U_/\sW w U U_ [.blk b2 66 B0,.blk b340 200 [.pointer none],.row A341 c342 4 1 (nA KL.encT x26)] w_) ?_ fun ko343=>?_
  ·rintro σ344 W345 ⟨U346,b340,A341,c342,f349,f350,f351,f352,f353,f354,f355,f356,f357,f358,le347,hS348⟩
   refine Zu (enc:=KL.encI) (z:=(0:Int)) (v:=jV 0) Z Z Z Z Z (wCV zA) wCc Z Z Z Z f354 f354 h19 hS348 ?_
   intro W359 b360 hS361
   have hS363:sW w U U346 [.row (some ⟨b360,0,none⟩) x18.length 3 1 (nA KL.encI x18),.blk b2 66 B0,.blk b340 200 [.pointer none],.row A341 c342 4 1 (nA KL.encT x26)] W359:=hS361
   exact ko310 _ _ ⟨U346,b340,(some ⟨b360,0,none⟩),x18.length,A341,c342,f349,f350,f351,f352,f353,f354,rfl,f355,f356,f357,f358,le347,(hS363.pick [1,2,0,3] _ (by decide) rfl)⟩
  refine zr (s:=gCv) (M:=fun σ_ w_=>∃ (U_:PHeap) (b371:Nat) (A372:Option Addr) (c373:Nat),σ_ 1=.pointer (some ⟨b2,0,none⟩)/\σ_ 4=.pointer (some ⟨b371,0,none⟩)/\σ_ 12=.agg B0.toArray/\σ_ 13=.pointer (some ⟨b2,1,none⟩)/\σ_ 14=.slice pA0_1 p0.Bibs.length pc0_1/\σ_ 15=jV (↑p0.Bibs.length:Int)/\σ_ 16=.slice A372 x18.length c373/\σ_ 17=.pointer (some ⟨b2,1,none⟩)/\σ_ 18=.slice pA0_1 p0.Bibs.length pc0_1/\σ_ 19=jV (↑p0.Bibs.length:Int)/\PHeap.Le U U_/\sW w U U_ [.blk b2 66 B0,.blk b371 200 [.pointer none],.row A372 c373 3 1 (nA KL.encI x18)] w_) ?_ fun ko374=>?_
  ·rintro σ375 W376 ⟨U377,b371,A372,c373,f380,f381,f382,f383,f384,f385,f386,f387,f388,f389,le378,hS379⟩
   refine Zu (enc:=KL.encT) (z:=false) (v:=.bool false) Z Z Z Z Z (wCV Zi) wPU Z Z Z Z f389 f389 h27 hS379 ?_
   intro W390 b391 hS392
   have hS394:sW w U U377 [.row (some ⟨b391,0,none⟩) x26.length 4 1 (nA KL.encT x26),.blk b2 66 B0,.blk b371 200 [.pointer none],.row A372 c373 3 1 (nA KL.encI x18)] W390:=hS392
   exact ko310 _ _ ⟨U377,b371,A372,c373,(some ⟨b391,0,none⟩),x26.length,f380,f381,f382,f383,f384,f385,f386,f387,f388,f389,rfl,le378,(hS394.pick [1,2,3,0] _ (by decide) rfl)⟩
  refine zr (s:=gCx) (M:=fun σ_ w_=>∃ (U_:PHeap) (A401:Option Addr) (c402:Nat) (A403:Option Addr) (c404:Nat),σ_ 1=.pointer (some ⟨b2,0,none⟩)/\σ_ 12=.agg B0.toArray/\σ_ 13=.pointer (some ⟨b2,1,none⟩)/\σ_ 14=.slice pA0_1 p0.Bibs.length pc0_1/\σ_ 15=jV (↑p0.Bibs.length:Int)/\σ_ 16=.slice A401 x18.length c402/\σ_ 17=.pointer (some ⟨b2,1,none⟩)/\σ_ 18=.slice pA0_1 p0.Bibs.length pc0_1/\σ_ 19=jV (↑p0.Bibs.length:Int)/\σ_ 20=.slice A403 x26.length c404/\PHeap.Le U U_/\sW w U U_ [.blk b2 66 B0,.row A401 c402 3 1 (nA KL.encI x18),.row A403 c404 4 1 (nA KL.encT x26)] w_) ?_ fun ko405=>?_
  ·rintro σ406 W407 ⟨U408,A401,c402,A403,c404,f411,f412,f413,f414,f415,f416,f417,f418,f419,f420,le409,hS410⟩
   let B3:List Value:=[jV p0.Laps,.slice pA0_1 p0.Bibs.length pc0_1,.slice pA0_2 p0.Times.length pc0_2,.slice A401 x18.length c402,.slice A403 x26.length c404]
   refine oR Z (Zd (pv:=[(0,.agg B0.toArray),(1,.slice A401 x18.length c402),(2,.slice A403 x26.length c404)]) (z:=[jV 0,.slice none 0 0,.slice none 0 0,.slice none 0 0,.slice none 0 0]) (cs:=B3) Z (wAH f412 (wAH f416 (wAH f420 wAQ))) Tryz.zeroValue204 wJI Z Z) (zj ?_ ?_)
   ·refine Zl (cs:=B3) rfl rfl rfl rfl rfl rfl (by rfl) hS410 ?_
    intro W421 b422 hS423
    exact ko274 _ _ ⟨U408,A401,c402,A403,c404,b422,f411,f412,f413,f414,f415,f416,f417,f418,f419,f420,rfl,rfl,le409,(hS423.pick [1,2,3,0] _ (by decide) rfl)⟩
   ·refine zw (cs:=[.pointer none]) Z Z Z Z Z Tryz.zeroValue200 Z hS410 ?_
    intro W431 b432 hS433
    exact ko238 _ _ ⟨U408,b432,A401,c402,A403,c404,f411,rfl,f412,f413,f414,f415,f416,f417,f418,f419,f420,rfl,le409,(hS433.pick [1,0,2,3] _ (by decide) rfl)⟩
  refine oL Z (hS47.ldBA (j:=0) Z Z Z Zh ZB (vs:=B0) Z Z) (oR Z (zX Z Z zM Z zN) (oL Z (hS47.ldB (j:=0) Z Z Z zn (v:=.slice pA0_1 p0.Bibs.length pc0_1) Z) (oR Z (zo Z Z zA) (oR Z (zX Z Z zM Z zN) (oL Z (hS47.ldB (j:=0) Z Z Z zn (v:=.slice pA0_1 p0.Bibs.length pc0_1) Z) (oR Z (zo Z Z zA) (zj ?_ ?_)))))))
  ·refine Zu (enc:=KL.encI) (z:=(0:Int)) (v:=jV 0) Z Z Z Z Z (wCV zA) wCc Z Z Z Z Z Z h19 hS47 ?_
   intro W441 b442 hS443
   let B4:Res:=.row (some ⟨b442,0,none⟩) x18.length 3 1 (nA KL.encI x18)
   have hS445:sW w U U [B4,.blk b2 66 B0] W441:=hS443
   refine zj ?_ ?_
   ·refine Zu (enc:=KL.encT) (z:=false) (v:=.bool false) Z Z Z Z Z (wCV Zi) wPU Z Z Z Z Z Z h27 hS445 ?_
    intro W446 b447 hS448
    have hS450:sW w U U [.row (some ⟨b447,0,none⟩) x26.length 4 1 (nA KL.encT x26),B4,.blk b2 66 B0] W446:=hS448
    exact ko405 _ _ ⟨U,(some ⟨b442,0,none⟩),x18.length,(some ⟨b447,0,none⟩),x26.length,rfl,rfl,rfl,rfl,rfl,rfl,rfl,rfl,rfl,rfl,(zG _),(hS450.pick [2,1,0] _ (by decide) rfl)⟩
   ·refine zw (cs:=[.pointer none]) Z Z Z Z Z Tryz.zeroValue200 Z hS445 ?_
    intro W455 b456 hS457
    exact ko374 _ _ ⟨U,b456,(some ⟨b442,0,none⟩),x18.length,rfl,rfl,rfl,rfl,rfl,rfl,rfl,rfl,rfl,rfl,(zG _),(hS457.pick [2,0,1] _ (by decide) rfl)⟩
  refine zj ?_ ?_
  ·refine Zu (enc:=KL.encT) (z:=false) (v:=.bool false) Z Z Z Z Z (wCV Zi) wPU Z Z Z Z Z Z h27 hS47 ?_
   intro W463 b464 hS465
   let B5:Res:=.row (some ⟨b464,0,none⟩) x26.length 4 1 (nA KL.encT x26)
   have hS467:sW w U U [B5,.blk b2 66 B0] W463:=hS465
   refine zj ?_ ?_
   ·refine Zu (enc:=KL.encI) (z:=(0:Int)) (v:=jV 0) Z Z Z Z Z (wCV zA) wCc Z Z Z Z Z Z h19 hS467 ?_
    intro W468 b469 hS470
    have hS472:sW w U U [.row (some ⟨b469,0,none⟩) x18.length 3 1 (nA KL.encI x18),B5,.blk b2 66 B0] W468:=hS470
    exact ko405 _ _ ⟨U,(some ⟨b469,0,none⟩),x18.length,(some ⟨b464,0,none⟩),x26.length,rfl,rfl,rfl,rfl,rfl,rfl,rfl,rfl,rfl,rfl,(zG _),(hS472.pick [2,0,1] _ (by decide) rfl)⟩
   ·refine zw (cs:=[.pointer none]) Z Z Z Z Z Tryz.zeroValue200 Z hS467 ?_
    intro W477 b478 hS479
    exact ko343 _ _ ⟨U,b478,(some ⟨b464,0,none⟩),x26.length,rfl,rfl,rfl,rfl,rfl,rfl,rfl,rfl,rfl,rfl,(zG _),(hS479.pick [2,0,1] _ (by decide) rfl)⟩
  ·refine zw (cs:=[.pointer none]) Z Z Z Z Z Tryz.zeroValue200 Z hS47 ?_
   intro W485 b486 hS487
   refine zj ?_ ?_
   ·refine Zu (enc:=KL.encI) (z:=(0:Int)) (v:=jV 0) Z Z Z Z Z (wCV zA) wCc Z Z Z Z Z Z h19 hS487 ?_
    intro W489 b490 hS491
    have hS493:sW w U U [.row (some ⟨b490,0,none⟩) x18.length 3 1 (nA KL.encI x18),.blk b486 200 [.pointer none],.blk b2 66 B0] W489:=hS491
    exact ko374 _ _ ⟨U,b486,(some ⟨b490,0,none⟩),x18.length,rfl,rfl,rfl,rfl,rfl,rfl,rfl,rfl,rfl,rfl,(zG _),(hS493.pick [2,1,0] _ (by decide) rfl)⟩
   ·refine Zu (enc:=KL.encT) (z:=false) (v:=.bool false) Z Z Z Z Z (wCV Zi) wPU Z Z Z Z Z Z h27 hS487 ?_
    intro W498 b499 hS500
    have hS502:sW w U U [.row (some ⟨b499,0,none⟩) x26.length 4 1 (nA KL.encT x26),.blk b486 200 [.pointer none],.blk b2 66 B0] W498:=hS500
    exact ko343 _ _ ⟨U,b486,(some ⟨b499,0,none⟩),x26.length,rfl,rfl,rfl,rfl,rfl,rfl,rfl,rfl,rfl,rfl,(zG _),(hS502.pick [2,1,0] _ (by decide) rfl)⟩
 ·rintro σ507 W508 ⟨U509,b6,b8,A10,c11,A13,c14,f512,f513,le510,hS511⟩
  refine sR (.fx 0 .nil .stop) Z (zw (cs:=[.slice none 0 0]) Z Z Z Z Z Tryz.zeroValue36 Z hS511 ?_)
  intro W514 b515 hS516
  refine eN (zF (sR gCr Z (oL Z (hS516.ldBA (j:=1) Z Z f512 Zh ZB (vs:=B0) Z Z) ?_)))
  have h518:=ha0.le le510
  have h519:=ha1.le le510
  refine bnK hm17 fun x520 h521 hm522=>zL 0 Z Z Z Z (zK Z Z Tryz.call185 (zC Z zP) Z) hS516 (fun hs=>wFc p0 pA0_1 pc0_1 pA0_2 pc0_2 W514 U509 hs h518 h519 h521) (.inr Z) ?_
  rintro U523 L524 v525 W526 le527 hS528 ⟨b529,A530,c531,rfl,rfl,h532,h533⟩
  let B6:Res:=.blk b6 200 [.pointer (some ⟨b8,0,none⟩)]
  have hS534:sW w U U523 [.blk b515 36 [.slice none 0 0],.blk b2 66 B0,B6,.blk b8 204 [jV p0.Laps,.slice pA0_1 p0.Bibs.length pc0_1,.slice pA0_2 p0.Times.length pc0_2,.slice A10 l9.length c11,.slice A13 l12.length c14],.row A10 c11 3 1 (nA KL.encI l9),.row A13 c14 4 1 (nA KL.encT l12)] W526:=hS528
  refine eN (zS (CK.fresh fun σ535 hσ536=>?_))
  have f537:σ535 4=.pointer (some ⟨b6,0,none⟩):=(hσ536 4).trans f513
  have f538:σ535 5=.pointer (some ⟨b515,0,none⟩):=(hσ536 5).trans rfl
  have f539:σ535 24=.func (.func 302) #[] #[.pointer (some ⟨b529,0,none⟩)]:=(hσ536 24).trans rfl
  clear hσ536
  have hS1114:=hS534.nilrow 45 4
  have h1116:=h518.le le527
  have h1117:=h519.le le527
  refine bnK hm522 fun rr1118 hit1119 hm1120=>CK.rangeY (S:=(List wAE) × Int × (List Int) × (List (List Int)) × (List Int) × (List Bool)) (E:=Empty) (ar:=wHB) (PY:=(fun (s_:(List wAE) × Int × (List Int) × (List (List Int)) × (List Int) × (List Bool)) (U_:PHeap) (L_:List Res)=>match s_ with | (l1081,x1085,l1086,l1089,l1092,l1095)=>∃ (A1082:Option Addr) (c1083:Nat) (A1087:Option Addr) (c1088:Nat) (A1090:Option Addr) (c1091:Nat) (A1093:Option Addr) (c1094:Nat) (A1096:Option Addr) (c1097:Nat),L_=[.row A1082 c1083 45 4 (nA wAJ l1081),.blk b515 36 [.slice A1082 l1081.length c1083],.blk b2 66 B0,B6,.row A1093 c1094 3 1 (nA KL.encI l1092),.row A1096 c1097 4 1 (nA KL.encT l1095),.blk b8 204 [jV x1085,.slice A1087 l1086.length c1088,.slice A1090 l1089.length c1091,.slice A1093 l1092.length c1094,.slice A1096 l1095.length c1097]]/\Sl U_ 1 A1087 c1088 l1086.length (nA KL.encI l1086)/\SlR U_ wBH A1090 c1091 l1089)) (PE:=(fun (_:Empty) _ _=>False)) (exO:=Empty.elim) (s0:=([],p0.Laps,p0.Bibs,p0.Times,l9,l12)) (rr:=rr1118) f539 Tryz.call302 (hS1114.pick [0,1,2,3,5,6,4] _ (by decide) rfl) (by decide) (fun _ _ _ h=>by obtain rfl:=h;rfl) (fun e=>nomatch e) ⟨none,0,pA0_1,pc0_1,pA0_2,pc0_2,A10,c11,A13,c14,rfl,h1116,h1117⟩ (fun l w1 L1 PY' PE' hS1 hP1 hY1=>wDe PY' PE' _ l _ x520 b529 A530 c531 w1 L1 U523 hS1 hP1 hY1 h532 h533 hit1119) ?_ ?_
  ·rintro l1121 rb1122 fn1123 ⟨l1081,x1085,l1086,l1089,l1092,l1095⟩ x1124 vs1125 r1126 ph1127 L1128 w1129 o1130 B1131 le1132 hS1133 hP1134 ha1135 hf1136 sg1137 hs1138
   obtain ⟨A1082,c1083,A1087,c1088,A1090,c1091,A1093,c1094,A1096,c1097,rfl,h1139,h1140⟩:=hP1134
   obtain rfl:=ha1135
   replace hs1138:∀ t,sg1137 t=upd σ535 25 (jV x1124) t:=hs1138
   have f1141:sg1137 25=jV x1124:=(hs1138 25).trans (wCd _ _ _)
   have f1142:sg1137 4=.pointer (some ⟨b6,0,none⟩):=(hs1138 4).trans ((wDI _ _ (by decide)).trans f537)
   have f1143:sg1137 5=.pointer (some ⟨b515,0,none⟩):=(hs1138 5).trans ((wDI _ _ (by decide)).trans f538)
   clear hs1138
   let B7:Res:=.blk b8 204 [jV x1085,.slice A1087 l1086.length c1088,.slice A1090 l1089.length c1091,.slice A1093 l1092.length c1094,.slice A1096 l1095.length c1097]
   let B8:Res:=.row A1082 c1083 45 4 (nA wAJ l1081)
   let B9:Res:=.blk b515 36 [.slice A1082 l1081.length c1083]
   let B10:Res:=.row A1093 c1094 3 1 (nA KL.encI l1092)
   let B11:Res:=.row A1096 c1097 4 1 (nA KL.encT l1095)
   have hS1145:St B1131 ph1127 [.obj l1121 o1130,B8,B9,.blk b2 66 B0,B6,B10,B11,B7] w1129:=hS1133
   try dsimp only at hf1136
   refine rR fL1 Z (oA Z f1141 (zx ⟨Z,Z,_,_,hS1145,fun W1146 o1147 hS1148=>?_⟩))
   have hS1149:St B1131 ph1127 [.obj l1121 o1147,B8,B9,.blk b2 66 B0,B6,B10,B11,B7] W1146:=hS1148
   refine zS (sR gCu Z (oL Z (hS1149.ldB (j:=4) Z Z f1142 Zy (v:=.pointer (some ⟨b8,0,none⟩)) Z) (oM Z Z ?_)))
   have q:=bnd hf1136
   obtain ⟨⟨x1150,x1151⟩,h1152,hm1153⟩:=q
   try dsimp only at hm1153
   have hS1154:St B1131 ph1127 [B7,B10,B11,.obj l1121 o1147,B8,B9,.blk b2 66 B0,B6] W1146:=hS1149.pick [7,5,6,0,1,2,3,4] _ (by decide) rfl
   refine zL 3 Z Z Z Z (zK Z Z Tryz.call186 (zC Z (zC Z zP)) Z) hS1154 (fun hs=>wEX (⟨(⟨x1085,l1086,l1089⟩:wAD),l1092,l1095⟩:wAF) b8 A1087 c1088 A1090 c1091 A1093 c1094 A1096 c1097 x1124 W1146 ph1127 hs h1139 h1140 h1152) (.inl Z) ?_
   rintro U1155 L1156 v1157 W1158 le1159 hS1160 ⟨A1161,c1162,A1163,c1164,A1165,c1166,A1167,c1168,A1169,c1170,rfl,rfl,h1174,h1175⟩
   let B12:List Value:=[jV x1151.Race.Laps,.slice A1163 x1151.Race.Bibs.length c1164,.slice A1165 x1151.Race.Times.length c1166,.slice A1167 x1151.done.length c1168,.slice A1169 x1151.out.length c1170]
   let B13:Res:=.row A1161 c1162 3 1 (nA KL.encI x1150)
   let B14:Res:=.row A1167 c1168 3 1 (nA KL.encI x1151.done)
   let B15:Res:=.row A1169 c1170 4 1 (nA KL.encT x1151.out)
   have hS1176:St B1131 U1155 [B13,B14,B15,.blk b8 204 B12,.obj l1121 o1147,B8,B9,.blk b2 66 B0,B6] W1158:=hS1160
   refine oA Z Z (eN (zF (sR fL3 Z (oM Z Z (oR Z (zo Z Z zA) (oM Z Z (eN (zS (bnK hm1153 fun y1196 hf1193 hm1192=>?_)))))))))
   have q:=wAx hf1193
   obtain ⟨hle1194,hf1195⟩:=q
   replace hle1194:=zD hle1194
   refine CK.forN' (fun k1191 l1188 σ_ w_=>∃ (U_:PHeap) (A1189:Option Addr) (c1190:Nat),σ_ 31=jV (↑k1191:Int)/\σ_ 4=.pointer (some ⟨b6,0,none⟩)/\σ_ 5=.pointer (some ⟨b515,0,none⟩)/\σ_ 6=jV x1124/\σ_ 7=.slice A1161 x1150.length c1162/\σ_ 29=.slice A1161 x1150.length c1162/\σ_ 30=jV (↑x1150.length:Int)/\PHeap.Le U1155 U_/\St B1131 U_ [B14,B15,.blk b8 204 B12,.obj l1121 o1147,.row A1189 c1190 45 4 (nA wAJ l1188),.blk b515 36 [.slice A1189 l1188.length c1190],.blk b2 66 B0,B6,B13] w_) hf1195 ?_ ?_ ?_
   ·exact ⟨U1155,A1082,c1083,rfl,f1142,f1143,rfl,rfl,rfl,rfl,(zG _),(hS1176.pick [1,2,3,4,5,6,7,8,0] _ (by decide) rfl)⟩
   ·rintro k1191 l1188 xx1199 σ1197 W1198 hk1202 ⟨U1204,A1189,c1190,fi1203,f1207,f1208,f1209,f1210,f1211,f1212,le1205,hS1206⟩ hx1200
    have c1213:Hid ((↑k1191:Int) < (↑x1150.length:Int)):=zD (wBT hk1202)
    replace hk1202:=zD hk1202
    have hi1214:Hid (w64 ((↑k1191:Int) + 1)=(↑(k1191 + 1):Int)):=zD (by have h1:=hle1194.out;have h2:=c1213.out;rw [wAU] <;> omega)
    refine sR fL1 Z (oR Z (zQ Z fi1203 f1212) (eN (zF (cT Z c1213 (kN (zF (zS (sR fL3 Z (bnK hx1200 fun _ h1215 hm1216=>?_)))))))))
    obtain ⟨b1217,hA1218⟩:=hS1206.rowSome (j:=8) rfl (by rw [wAB (f:=KL.encI) (sz:=1) (fun _=>rfl) x1150];have hz:=wAP h1215;omega)
    refine oR Z (ZD Z f1211 hA1218 fi1203 zA zB (wAP h1215)) ?_
    have hg1219:=wBM (xs:=x1150) (wAP h1215)
    refine ZC rfl rfl rfl rfl (hS1206.ldR (j:=8) rfl hA1218 rfl rfl zJ (wAO (sz:=1) (fun _=>rfl) _ _ 0 _ hg1219 (by first | omega | rfl | simp) rfl)) rfl (Zb rfl rfl rfl rfl rfl rfl (eN (Ze Za [1,1,3,3,3,1,3,3,1,1,3,3,1,3,3,1,3,1,3,3,3,1,1,3,1,3,3,1,3,3,1,3,2,3,1,3,2,0,0] (wTa (.fx 32 (wRt (.fx 36 (.fx 37 (.fx 38 .nil .stop) .stop) .stop)) .stop)) (by kernel_rfl) ?_)))
    have hS1220:=hS1206.drew
    generalize hw_W1221:({ W1198 with drawn:=W1198.drawn + 1 }:World)=W1221 at hS1220 ⊢
    refine oL Z (hS1220.ldB (j:=5) Z Z f1208 Tryz.isAgg36 (v:=.slice A1189 l1188.length c1190) Z) (oL Z (hS1220.ldB (j:=7) Z Z f1207 Zy (v:=.pointer (some ⟨b8,0,none⟩)) Z) (oR Z (ZQ Z Z) (oR Z (zX Z Z ZE Z ZB) (oR Z (zX Z Z zM Z zN) (oL Z (hS1220.ldB (j:=2) Z Z Z zn (v:=.slice A1163 x1151.Race.Bibs.length c1164) Z) (oM Z Z (bnK hm1216 fun x1222 h1223 hm1224=>?_)))))))
    have h1225:=h1174.le le1205
    have q:=h1225.el (fun _=>rfl) (wAZ h1223)
    obtain ⟨b1226,off1227,hA1228,hC1229⟩:=q
    refine oR Z (ZS Z Z hA1228 Z zA zB (wCC h1223) (wCG h1223)) (oL Z (hS1220.ldC (f:=0) hC1229 (v:=jV x1222) Z Z zJ Z) (oL Z (hS1220.ldB (j:=7) Z Z f1207 Zy (v:=.pointer (some ⟨b8,0,none⟩)) Z) (oR Z (ZQ Z Z) (oR Z (zX Z Z ZE Z zN) (oL Z (hS1220.ldB (j:=2) Z Z Z zn (v:=.slice A1167 x1151.done.length c1168) Z) (oM Z Z (bnK hm1224 fun _ h1230 hm1231=>?_)))))))
    obtain ⟨b1232,hA1233⟩:=hS1220.rowSome (j:=0) rfl (by rw [wAB (f:=KL.encI) (sz:=1) (fun _=>rfl) x1151.done];have hz:=wAP h1230;omega)
    refine oR Z (ZS Z Z hA1233 Z zA zB (wCJ h1230) (wCK h1230)) ?_
    have hg1234:=wBM (xs:=x1151.done) (wAP h1230)
    refine ZC rfl rfl rfl rfl (hS1220.ldR (j:=0) rfl hA1233 rfl rfl zJ (wAO (sz:=1) (fun _=>rfl) _ _ 0 _ hg1234 (by first | omega | rfl | simp) rfl)) rfl (zR rfl rfl rfl rfl rfl f1209 (ZC rfl rfl rfl rfl (hS1220.ldB (j:=7) rfl rfl f1207 Zy (v:=.pointer (some ⟨b8,0,none⟩)) rfl) rfl (zY rfl rfl rfl rfl (fun _=>ZQ rfl rfl) (zY rfl rfl rfl rfl (fun _=>zX rfl rfl ZE rfl ZB) (zY rfl rfl rfl rfl (fun _=>zX rfl rfl zM rfl zN) (ZC rfl rfl rfl rfl (hS1220.ldB (j:=2) rfl rfl rfl zn (v:=.slice A1163 x1151.Race.Bibs.length c1164) rfl) rfl (ZC rfl rfl rfl rfl (hS1220.ldB (j:=7) rfl rfl f1207 Zy (v:=.pointer (some ⟨b8,0,none⟩)) rfl) rfl (zR rfl rfl rfl rfl rfl rfl (ZC rfl rfl rfl rfl (hS1220.ldB (j:=7) rfl rfl f1207 Zy (v:=.pointer (some ⟨b8,0,none⟩)) rfl) rfl (zY rfl rfl rfl rfl (fun _=>ZQ rfl rfl) (zY rfl rfl rfl rfl (fun _=>zX rfl rfl ZE rfl zN) (ZC rfl rfl rfl rfl (hS1220.ldB (j:=2) rfl rfl rfl zn (v:=.slice A1167 x1151.done.length c1168) rfl) rfl (zR rfl rfl rfl rfl rfl rfl (zY rfl rfl rfl rfl (fun _=>ZS rfl rfl hA1233 rfl zA zB (wCJ h1230) (wCK h1230)) ?_))))))))))))))
    have hg1235:=wBM (xs:=x1151.done) (wAP h1230)
    refine ZC rfl rfl rfl rfl (hS1220.ldR (j:=0) rfl hA1233 rfl rfl zJ (wAO (sz:=1) (fun _=>rfl) _ _ 0 _ hg1235 (by first | omega | rfl | simp) rfl)) rfl (zR rfl rfl rfl rfl rfl f1209 ?_)
    have q:=hS1220.freezeT (k:=0) (n:=x1151.done.length) rfl (wAB (f:=KL.encI) (sz:=1) (fun _=>rfl) x1151.done) (by decide)
    obtain ⟨U1237,le1238,hs1239,hS1240,th1236⟩:=q
    let B16:Res:=.row A1189 c1190 45 4 (nA wAJ l1188)
    let B17:Res:=.blk b515 36 [.slice A1189 l1188.length c1190]
    have hS1241:St B1131 U1237 [B15,.blk b8 204 B12,.obj l1121 o1147,B16,B17,.blk b2 66 B0,B6,B13] W1221:=hS1240
    have q:=hS1241.freezeT (k:=0) (n:=x1151.out.length) rfl (wAB (f:=KL.encT) (sz:=1) (fun _=>rfl) x1151.out) (by decide)
    obtain ⟨U1243,le1244,hs1245,hS1246,th1242⟩:=q
    have hS1247:St B1131 U1243 [.blk b8 204 B12,.obj l1121 o1147,B16,B17,.blk b2 66 B0,B6,B13] W1221:=hS1246
    have q:=hS1247.freezeTB (k:=0) rfl
    obtain ⟨U1249,le1250,hC1251,hS1252,th1248⟩:=q
    replace hC1251:=Cl.of hC1251
    have hS1253:St B1131 U1249 [.obj l1121 o1147,B16,B17,.blk b2 66 B0,B6,B13] W1221:=hS1252
    replace hC1251:Cl U1249 b8 0 B12:=hC1251
    have h1254:=h1225.le le1238
    have h1255:=h1254.le le1244
    have h1256:=h1255.le le1250
    have h1257:=h1175.le le1205
    have h1258:=h1257.le le1238
    have h1259:=h1258.le le1244
    have h1260:=h1259.le le1250
    have h1261:=hs1239.le le1244
    have h1262:=h1261.le le1250
    have h1263:=hs1245.le le1250
    refine bnK hm1231 fun x1264 h1265 hm1266=>zL 0 rfl rfl rfl rfl (zK rfl rfl Tryz.call187 (zC rfl (zC rfl (zC rfl (zC rfl zP)))) rfl) hS1253 (fun hs=>wDR x1151 b8 A1163 c1164 A1165 c1166 A1167 c1168 A1169 c1170 (gd x1150 k1191) (gd x1151.done (gd x1150 k1191).toNat) x1124 W1221 U1249 hs hC1251 h1256 h1260 h1262 h1263 h1265) (.inr rfl) ?_
    rintro U1267 L1268 v1269 W1270 le1271 hS1272 ⟨rfl,rfl⟩
    have hS1273:St B1131 U1267 [.obj l1121 o1147,B16,B17,.blk b2 66 B0,B6,B13] W1270:=hS1272
    have q:=th1248 _ _ _ le1271 hS1273
    obtain ⟨U1274,le1275,hS1276⟩:=q
    have hS1277:St B1131 U1274 [.blk b8 204 B12,.obj l1121 o1147,B16,B17,.blk b2 66 B0,B6,B13] W1270:=hS1276
    have q:=th1242 _ _ _ le1275 hS1277
    obtain ⟨U1278,le1279,hS1280⟩:=q
    have hS1281:St B1131 U1278 [B15,.blk b8 204 B12,.obj l1121 o1147,B16,B17,.blk b2 66 B0,B6,B13] W1270:=hS1280
    have q:=th1236 _ _ _ le1279 hS1281
    obtain ⟨U1282,le1283,hS1284⟩:=q
    have hS1285:St B1131 U1282 [B14,B15,.blk b8 204 B12,.obj l1121 o1147,B16,B17,.blk b2 66 B0,B6,B13] W1270:=hS1284
    refine bnK hm1266 fun x1286 h1287 hm1288=>?_
    have h1289:=h1225.le le1283
    have q:=h1289.el (fun _=>rfl) (wAZ h1287)
    obtain ⟨b1290,off1291,hA1292,hC1293⟩:=q
    refine oR Z (ZS Z Z hA1292 Z zA zB (wCC h1287) (wCG h1287)) (oL Z (hS1285.ldC (f:=0) hC1293 (v:=jV x1286) Z Z zJ Z) ?_)
    let B18:List Value:=[jV x1222,jV (gd x1151.done (gd x1150 k1191).toNat),jV x1124,jV x1286]
    let B19:List Value:=[jV 0,jV 0,jV 0,jV 0]
    refine oR Z (Zd (pv:=[(0,jV x1222),(1,jV (gd x1151.done (gd x1150 k1191).toNat)),(2,jV x1124),(3,jV x1286)]) (z:=B19) (cs:=B18) Z (wAH Z (wAH Z (wAH Z (wAH Z wAQ)))) Tryz.zeroValue45 wPT Z Z) (zU (pv:=[(0,.agg B18.toArray)]) (zs:=B19) (cs:=B18) Z Z Z Z Z (wAH Z wAQ) Zt Tryz.sizeOf45 Tryz.zeroValue45 Z Z Z Z Z hS1285 ?_)
    intro W1294 b1295 hS1296
    let B20:Res:=.row (some ⟨b1295,0,none⟩) 1 45 4 (nA wAJ [(⟨x1222,(gd x1151.done (gd x1150 k1191).toNat),x1124,x1286⟩:wAE)])
    have hS1298:St B1131 U1282 [B20,B14,B15,.blk b8 204 B12,.obj l1121 o1147,B16,B17,.blk b2 66 B0,B6,B13] W1294:=hS1296
    refine bnK hm1288 fun x1299 h1300 hm1301=>ZO (j:=5) (enc:=wAJ) (xs:=l1188) (ys:=[(⟨x1222,(gd x1151.done (gd x1150 k1191).toNat),x1124,x1286⟩:wAE)]) (zs:=x1299) rfl rfl rfl rfl rfl Tryz.underlying36 wSx rfl rfl rfl rfl rfl rfl hS1298 rfl rfl rfl (hS1298.srcR (j:=0) rfl (by decide) (wAB (f:=wAJ) (sz:=4) (fun _=>rfl) [(⟨x1222,(gd x1151.done (gd x1150 k1191).toNat),x1124,x1286⟩:wAE)])) (fun _=>rfl) (fun _=>rfl) h1300 rfl ?_
    intro A1302 c1303 W1304 hS1305
    let B21:Res:=.row A1302 c1303 45 4 (nA wAJ x1299)
    have hS1306:St B1131 U1282 [B20,B14,B15,.blk b8 204 B12,.obj l1121 o1147,B21,B17,.blk b2 66 B0,B6,B13] W1304:=hS1305
    refine ZR (j:=6) (vs:=[.slice A1302 x1299.length c1303]) Z Z Z Z hS1306 Z f1208 Z Z Tryz.sizeOf36 (zI Z) Z Z Z ?_
    intro W1307 hS1308
    have hS1309:St B1131 U1282 [B20,B14,B15,.blk b8 204 B12,.obj l1121 o1147,B21,.blk b515 36 [.slice A1302 x1299.length c1303],.blk b2 66 B0,B6,B13] W1307:=hS1308
    refine zx (zZ (zH (rR fL2 Z (oR Z (zz (zV Z fi1203 Z) (congrArg (jV) hi1214.out)) (oM Z Z (zx ?_))))))
    cases hm1301
    exact zH ⟨rfl,⟨U1282,A1302,c1303,rfl,f1207,f1208,f1209,f1210,f1211,f1212,(le1205.trans le1283),(hS1309.pick [1,2,3,4,5,6,7,8,9] _ (by decide) rfl)⟩⟩
   ·rintro σ1313 W1314 ⟨U1322,A1320,c1321,fi1316,f1325,f1326,f1327,f1328,f1329,f1330,le1323,hS1324⟩
    have c1331:Hid (¬ ((↑(((↑x1150.length:Int):Int) - 0).toNat:Int) < (↑x1150.length:Int))):=zD (wAr)
    refine sR fL1 Z (oR Z (zQ Z fi1316 f1330) (eN (zF (cF Z c1331 (ZM (ze (ze (ZI (zH (sR fL3 Z (oM Z f1328 (oR Z (zo Z Z zA) (oM Z Z (eN (zS (bnK hm1192 fun y1343 hf1340 hm1339=>?_))))))))))))))))
    have q:=wAx hf1340
    obtain ⟨hle1341,hf1342⟩:=q
    replace hle1341:=zD hle1341
    let B22:Res:=.row A1320 c1321 45 4 (nA wAJ y1196)
    let B23:Res:=.blk b515 36 [.slice A1320 y1196.length c1321]
    refine CK.forN' (fun k1338 l1337 σ_ w_=>∃ (U_:PHeap),σ_ 76=jV (↑k1338:Int)/\σ_ 4=.pointer (some ⟨b6,0,none⟩)/\σ_ 5=.pointer (some ⟨b515,0,none⟩)/\σ_ 74=.slice A1161 x1150.length c1162/\σ_ 75=jV (↑x1150.length:Int)/\PHeap.Le U1322 U_/\St B1131 U_ [B14,.row A1169 c1170 4 1 (nA KL.encT l1337),.blk b8 204 [jV x1151.Race.Laps,.slice A1163 x1151.Race.Bibs.length c1164,.slice A1165 x1151.Race.Times.length c1166,.slice A1167 x1151.done.length c1168,.slice A1169 l1337.length c1170],.obj l1121 o1147,B22,B23,.blk b2 66 B0,B6,B13] w_/\l1337.length=x1151.out.length) hf1342 ?_ ?_ ?_
    ·exact ⟨U1322,Z,f1325,f1326,Z,Z,(zG _),hS1324,Z⟩
    ·rintro k1338 l1337 xx1346 σ1344 W1345 hk1349 ⟨U1351,fi1350,f1354,f1355,f1356,f1357,le1352,hS1353,h1358⟩ hx1347
     have c1359:Hid ((↑k1338:Int) < (↑x1150.length:Int)):=zD (wBT hk1349)
     replace hk1349:=zD hk1349
     have hi1360:Hid (w64 ((↑k1338:Int) + 1)=(↑(k1338 + 1):Int)):=zD (by have h1:=hle1341.out;have h2:=c1359.out;rw [wAU] <;> omega)
     refine sR fL1 Z (oR Z (zQ Z fi1350 f1357) (eN (zF (cT Z c1359 (kN (zF (zS (sR fL3 Z (bnK hx1347 fun _ h1361 hm1362=>?_)))))))))
     obtain ⟨b1363,hA1364⟩:=hS1353.rowSome (j:=8) rfl (by rw [wAB (f:=KL.encI) (sz:=1) (fun _=>rfl) x1150];have hz:=wAP h1361;omega)
     refine oR Z (ZD Z f1356 hA1364 fi1350 zA zB (wAP h1361)) ?_
     have hg1365:=wBM (xs:=x1150) (wAP h1361)
     refine ZC rfl rfl rfl rfl (hS1353.ldR (j:=8) rfl hA1364 rfl rfl zJ (wAO (sz:=1) (fun _=>rfl) _ _ 0 _ hg1365 (by first | omega | rfl | simp) rfl)) rfl (Zb rfl rfl rfl rfl rfl rfl (eN (rR (wOn (.fx 6 .nil .stop)) rfl (ZC rfl rfl rfl rfl (hS1353.ldB (j:=7) rfl rfl f1354 Zy (v:=.pointer (some ⟨b8,0,none⟩)) rfl) rfl (zY rfl rfl rfl rfl (fun _=>ZQ rfl rfl) (zY rfl rfl rfl rfl (fun _=>zX rfl rfl ZE rfl Tryz.sizeOf77) (ZC rfl rfl rfl rfl (hS1353.ldB (j:=2) rfl rfl rfl Tryz.isAgg77 (v:=.slice A1169 l1337.length c1170) rfl) rfl (zR rfl rfl rfl rfl rfl rfl (bnK hm1362 fun _ h1366 hm1367=>?_)))))))))
     obtain ⟨b1368,hA1369⟩:=hS1353.rowSome (j:=1) rfl (by rw [wAB (f:=KL.encT) (sz:=1) (fun _=>rfl) l1337];have hz:=wAP h1366;omega)
     refine oR Z (ZS Z Z hA1369 Z Zi Tryz.sizeOf4 (wCJ h1366) (wCK h1366)) ?_
     have hg1370:=wBM (xs:=l1337) (wAP h1366)
     refine OKS.stR (j:=1) (vs:=[.bool true]) (cs':=nA KL.encT (nJ l1337 (gd x1150 k1338).toNat true)) rfl rfl rfl rfl hS1353 rfl hA1369 rfl rfl rfl Tryz.sizeOf4 (by rw [wAB (f:=KL.encT) (sz:=1) (fun _=>rfl)];have hz:=wAP h1366;show _ + 1 <= _;first | omega | (simp only [nH];omega) | (simp only [nG,nD,nE];omega)) rfl (wDo (sz:=1) (fo:=0) (fun _=>rfl) _ _ _ _ hg1370 (by first | omega | (simp only [nH];omega) | (simp only [nG,nD,nE];omega)) (zI rfl) rfl) rfl ?_
     intro W1371 hS1372
     let B24:Res:=.row A1169 c1170 4 1 (nA KL.encT (nJ l1337 (gd x1150 k1338).toNat true))
     have hS1373:St B1131 U1351 [B14,B24,.blk b8 204 [jV x1151.Race.Laps,.slice A1163 x1151.Race.Bibs.length c1164,.slice A1165 x1151.Race.Times.length c1166,.slice A1167 x1151.done.length c1168,.slice A1169 l1337.length c1170],.obj l1121 o1147,B22,B23,.blk b2 66 B0,B6,B13] W1371:=hS1372
     have hS1374:St B1131 U1351 [B14,B24,.blk b8 204 [jV x1151.Race.Laps,.slice A1163 x1151.Race.Bibs.length c1164,.slice A1165 x1151.Race.Times.length c1166,.slice A1167 x1151.done.length c1168,.slice A1169 ((nJ l1337 (gd x1150 k1338).toNat true).length) c1170],.obj l1121 o1147,B22,B23,.blk b2 66 B0,B6,B13] W1371:=by simpa only [nI] using hS1373
     refine zx (zZ (zH (rR fL2 Z (oR Z (zz (zV Z fi1350 Z) (congrArg (jV) hi1360.out)) (oM Z Z (zx ?_))))))
     cases hm1367
     exact zH ⟨Z,⟨U1351,Z,f1354,f1355,f1356,f1357,le1352,hS1374,(nI.trans h1358)⟩⟩
    ·rintro σ1376 W1377 ⟨U1381,fi1379,f1384,f1385,f1386,f1387,le1382,hS1383,h1388⟩
     have c1389:Hid (¬ ((↑(((↑x1150.length:Int):Int) - 0).toNat:Int) < (↑x1150.length:Int))):=zD (wAr)
     refine sR fL1 Z (oR Z (zQ Z fi1379 f1387) (eN (zF (cF Z c1389 (ZM (ze (ze (ZI (zZ ?_)))))))))
     have h1406:=h1174.le le1323
     have h1407:=h1406.le le1382
     have h1408:=h1175.le le1323
     have h1409:=h1408.le le1382
     obtain rfl:=nB hm1339
     exact ⟨_,_,(hS1383.pick [3,4,5,6,7,0,1,2] _ (by decide) rfl),rfl,⟨A1320,c1321,A1163,c1164,A1165,c1166,A1167,c1168,A1169,c1170,rfl,h1407,h1409⟩⟩
  ·rintro rb1410 U1411 L1412 W1413 le1414 hS1415
   rcases rr1118 with ⟨y1416,y1417,y1418,y1419,y1420,y1421⟩ | e1432
   ·try dsimp only at hm1120
    rintro ⟨A1422,c1423,A1424,c1425,A1426,c1427,A1428,c1429,A1430,c1431,rfl,h1433,h1434⟩
    let B25:Res:=.blk b8 204 [jV y1417,.slice A1424 y1418.length c1425,.slice A1426 y1419.length c1427,.slice A1428 y1420.length c1429,.slice A1430 y1421.length c1431]
    let B26:Res:=.row A1428 c1429 3 1 (nA KL.encI y1420)
    let B27:Res:=.row A1430 c1431 4 1 (nA KL.encT y1421)
    let B28:Res:=.blk b515 36 [.slice A1422 y1416.length c1423]
    have hS1436:sW w U U1411 [.row A1422 c1423 45 4 (nA wAJ y1416),B28,.blk b2 66 B0,B6,B26,B27,B25,.obj rb1410 (.deferred (some []))] W1413:=hS1415
    refine zZ (zH (sR gCr Z (oL Z (hS1436.ldB (j:=1) Z Z f538 Tryz.isAgg36 (v:=.slice A1422 y1416.length c1423) Z) ?_)))
    have hF1437:FnOK Tryz.prog U1411 (.func (.func 189) #[] #[]) wSv wSw (fun x=>wAp x.1 x.2):=⟨189,[],[],rfl,Tryz.call189,fun U1 w1 x y vs le hs ha hm=>by obtain rfl:=ha;exact wIK x.1 x.2 w1 U1 hs  hm⟩
    refine bnK hm1120 fun x1438 h1439 hm1440=>zL 1 Z Z Z Z (zK Z Z Tryz.call188 (zC Z (zC Z zP)) Z) hS1436 (fun hs=>wCT y1416 A1422 c1423 (fun x=>wAp x.1 x.2) (.func (.func 189) #[] #[]) W1413 U1411 hs hF1437 ⟨_,_,Z⟩ h1439) (.inl Z) ?_
    rintro U1441 L1442 v1443 W1444 le1445 hS1446 ⟨rfl,rfl,h1447⟩
    let B29:Res:=.row A1422 c1423 45 4 (nA wAJ x1438)
    have hS1448:sW w U U1441 [B29,B28,.blk b2 66 B0,B6,B26,B27,B25,.obj rb1410 (.deferred (some []))] W1444:=hS1446
    let B30:Res:=.blk b515 36 [.slice A1422 x1438.length c1423]
    have hS1449:sW w U U1441 [B29,B30,.blk b2 66 B0,B6,B26,B27,B25,.obj rb1410 (.deferred (some []))] W1444:=by simp only [B30,h1447];exact hS1448
    refine eN (zF (Ze Za [1,1,3,3] fL4 (by kernel_rfl) ?_))
    have hS1450:=hS1449.drew
    generalize hw_W1451:({ W1444 with drawn:=W1444.drawn + 1 }:World)=W1451 at hS1450 ⊢
    refine oL Z (hS1450.ldB (j:=3) Z Z f537 Zy (v:=.pointer (some ⟨b8,0,none⟩)) Z) (oL Z (hS1450.ldB (j:=1) Z Z f538 Tryz.isAgg36 (v:=.slice A1422 x1438.length c1423) Z) (oA Z Z (oA Z Z (eN (zW ?_)))))
    have h1452:=h1433.le le1445
    have h1453:=h1434.le le1445
    refine wQi (by first | exact .inl rfl | exact .inr rfl) (rbs:=[rb1410]) (L:=[B29,B30,.blk b2 66 B0,B6,B26,B27,B25]) hS1450 fun W1454 hS1455=>?_
    have hS1456:sW w U U1441 [B29,B30,.blk b2 66 B0,B6,B26,B27,B25] W1454:=hS1455
    cases hm1440
    exact ⟨_,(wOx rfl rfl),U1441,_,(hS1456.pick [6,4,5,0] _ (by decide) rfl),b8,A1424,c1425,A1426,c1427,A1428,c1429,A1430,c1431,A1422,c1423,rfl,rfl,h1452,h1453⟩
   ·exact e1432.elim
end Go.Proofs.YtglpalgiipahjaaGreat
