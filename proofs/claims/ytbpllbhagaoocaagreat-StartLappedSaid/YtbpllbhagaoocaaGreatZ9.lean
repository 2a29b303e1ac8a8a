import Derived.Test.YtbpllbhagaoocaaGreatZ8
import Derived.Test.YtbpllbhagaoocaaGreatZ7
set_option linter.all false
open List renaming flatMap->nA
open Option.some renaming inj->nB
open Go.Value renaming bool->nD
open Bool renaming eq_false_iff->nE
namespace Go.Proofs.YtbpllbhagaoocaaGreat
open Go.KL
set_option maxHeartbeats 4000000
theorem wDT (p0:wAE) (pA0_1:Option Addr) (pc0_1:Nat) (pA0_2:Option Addr) (pc0_2:Nat) (w:World) (U:PHeap) (hS:St0 w U []) (ha0:Sl U 1 pA0_1 pc0_1 p0.Bibs.length (nA KL.encI p0.Bibs)) (ha1:SlR U wBP pA0_2 pc0_2 p0.Times) {r:(List wAD) × Int} (hm:wAs p0=some r):Gv Tryz.prog 8 [.agg #[jV p0.Laps,.slice pA0_1 p0.Bibs.length pc0_1,.slice pA0_2 p0.Times.length pc0_2]] w (wCO w [] U (fun U_ L_ v=>∃ (A0:Option Addr) (c0:Nat),v=.tuple #[.slice A0 r.1.length c0,jV r.2]/\L_=[.row A0 c0 38 4 (nA wAG r.1)])):=by
 unfold wAs at hm
 refine Gv.of Tryz.func8 Z Tryz.ntmps8 Tryz.results8 Z (sR (.fx 0 (.fl 1 (.fl 2 (.nil))) .stop) Z ?_)
 let B0:List Value:=[jV p0.Laps,.slice pA0_1 p0.Bibs.length pc0_1,.slice pA0_2 p0.Times.length pc0_2]
 refine Zh (cs:=B0) rfl rfl rfl rfl rfl rfl (by rfl) hS ?_
 intro W1 b2 hS3
 refine oA Z Z (oA Z Z (eN (zL (sR (.fl 0 (.fx 1 (.fl 2 (.nil)) .stop)) Z (oL Z (hS3.ldBA (j:=0) Z Z Z ZY ZF (vs:=B0) Z Z) (bnK hm fun x5 h6 hm7=>zj 0 Z Z Z Z (zd Z Z Tryz.call25 (zM Z zr) Z) hS3 (fun hs=>wCd p0 pA0_1 pc0_1 pA0_2 pc0_2 W1 U hs ha0 ha1 h6) (.inr Z) ?_))))))
 rintro U8 L9 v10 W11 le12 hS13 ⟨rfl,rfl⟩
 have hS14:sW w U U8 [.blk b2 26 B0] W11:=hS13
 refine oA Z Z (eN (sR fL2 Z (oM Z Z (oR Z (Runs.neq Z Z Z) (eN (ifc hm7 ?_ ?_))))))
 ·intro c15 hm16
  refine ZN (ZK (fun h=>h c15.out)) (kN (sR (.fl 0 (.fx 1 (wLV (.nil)) .stop)) Z (oL Z (hS14.ldBA (j:=0) Z Z Z ZY ZF (vs:=B0) Z Z) ?_)))
  have h17:=ha0.le le12
  have h18:=ha1.le le12
  have q:=bnd hm16
  obtain ⟨⟨x19,x20⟩,h21,hm22⟩:=q
  try dsimp only at hm22
  refine zj 0 Z Z Z Z (zd Z Z Tryz.call32 (zM Z zr) Z) hS14 (fun hs=>wFT p0 pA0_1 pc0_1 pA0_2 pc0_2 W11 U8 hs h17 h18 h21) (.inr Z) ?_
  rintro U23 L24 v25 W26 le27 hS28 ⟨b29,A30,c31,A32,c33,A34,c35,A36,c37,A38,c39,rfl,rfl,h44,h45⟩
  have hS46:sW w U U23 [.blk b29 78 [jV x19.Race.Laps,.slice A30 x19.Race.Bibs.length c31,.slice A32 x19.Race.Times.length c33,.slice A34 x19.done.length c35,.slice A36 x19.out.length c37],.row A34 c35 3 1 (nA KL.encI x19.done),.row A36 c37 4 1 (nA KL.encT x19.out),.row A38 c39 38 4 (nA wAG x20),.blk b2 26 B0] W26:=hS28
  refine oM Z Z (oR Z (Za Z Z (v:=.pointer (some ⟨b29,0,none⟩)) Z) (oR Z (Za Z Z (v:=.slice A38 x20.length c39) Z) (oA Z Z (oA Z Z (eN (sR fL3 Z (oM Z Z (oA Z Z (oA Z Z (eN (zY ?_)))))))))))
  cases hm22
  exact ⟨rfl,_,(wOS rfl rfl),U23,_,(hS46.pick [3] _ (by decide) rfl),A38,c39,rfl,rfl⟩
 ·intro c15 hm47
  refine cT Z c15 (sR fL3 Z (oM Z Z (oA Z Z (oA Z Z (eN (zY (zJ ?_)))))))
  have hS48:=hS14.nilrow 38 4
  cases hm47
  exact ⟨rfl,_,(wOS rfl rfl),U8,_,(hS48.pick [0] _ (by decide) rfl),none,0,rfl,rfl⟩
theorem wFU (p0:wAE) (pA0_1:Option Addr) (pc0_1:Nat) (pA0_2:Option Addr) (pc0_2:Nat) (w:World) (U:PHeap) (hS:St0 w U []) (ha0:Sl U 1 pA0_1 pc0_1 p0.Bibs.length (nA KL.encI p0.Bibs)) (ha1:SlR U wBP pA0_2 pc0_2 p0.Times) {r:(List Int) × Int} (hm:wBM p0=some r):Gv Tryz.prog 9 [.agg #[jV p0.Laps,.slice pA0_1 p0.Bibs.length pc0_1,.slice pA0_2 p0.Times.length pc0_2]] w (wCO w [] U (fun U_ L_ v=>∃ (A0:Option Addr) (c0:Nat),v=.tuple #[.slice A0 r.1.length c0,jV r.2]/\L_=[.row A0 c0 3 1 (nA KL.encI r.1)])):=by
 unfold wBM at hm
 refine Gv.of Tryz.func9 Z Tryz.ntmps9 Tryz.results9 Z (sR (.fx 0 (.fl 1 (.fl 2 (.nil))) .stop) Z ?_)
 let B0:List Value:=[jV p0.Laps,.slice pA0_1 p0.Bibs.length pc0_1,.slice pA0_2 p0.Times.length pc0_2]
 refine Zh (cs:=B0) rfl rfl rfl rfl rfl rfl (by rfl) hS ?_
 intro W1 b2 hS3
 refine oA Z Z (oA Z Z (eN (zL (sR (.fl 0 (.fx 1 (.fl 2 (.nil)) .stop)) Z (oL Z (hS3.ldBA (j:=0) Z Z Z ZY ZF (vs:=B0) Z Z) (bnK hm fun x5 h6 hm7=>zj 0 Z Z Z Z (zd Z Z Tryz.call25 (zM Z zr) Z) hS3 (fun hs=>wCd p0 pA0_1 pc0_1 pA0_2 pc0_2 W1 U hs ha0 ha1 h6) (.inr Z) ?_))))))
 rintro U8 L9 v10 W11 le12 hS13 ⟨rfl,rfl⟩
 have hS14:sW w U U8 [.blk b2 26 B0] W11:=hS13
 refine oA Z Z (eN (sR fL2 Z (oM Z Z (oR Z (Runs.neq Z Z Z) (eN (ifc hm7 ?_ ?_))))))
 ·intro c15 hm16
  refine ZN (ZK (fun h=>h c15.out)) (kN (sR (.fl 0 (.fx 1 (wLV (.nil)) .stop)) Z (oL Z (hS14.ldBA (j:=0) Z Z Z ZY ZF (vs:=B0) Z Z) ?_)))
  have h17:=ha0.le le12
  have h18:=ha1.le le12
  have q:=bnd hm16
  obtain ⟨⟨x19,x20⟩,h21,hm22⟩:=q
  try dsimp only at hm22
  refine zj 0 Z Z Z Z (zd Z Z Tryz.call32 (zM Z zr) Z) hS14 (fun hs=>wFT p0 pA0_1 pc0_1 pA0_2 pc0_2 W11 U8 hs h17 h18 h21) (.inr Z) ?_
  rintro U23 L24 v25 W26 le27 hS28 ⟨b29,A30,c31,A32,c33,A34,c35,A36,c37,A38,c39,rfl,rfl,h44,h45⟩
  have hS46:sW w U U23 [.blk b29 78 [jV x19.Race.Laps,.slice A30 x19.Race.Bibs.length c31,.slice A32 x19.Race.Times.length c33,.slice A34 x19.done.length c35,.slice A36 x19.out.length c37],.row A34 c35 3 1 (nA KL.encI x19.done),.row A36 c37 4 1 (nA KL.encT x19.out),.row A38 c39 38 4 (nA wAG x20),.blk b2 26 B0] W26:=hS28
  refine oM Z Z (oR Z (Za Z Z (v:=.pointer (some ⟨b29,0,none⟩)) Z) (oR Z (Za Z Z (v:=.slice A38 x20.length c39) Z) (oA Z Z (oA Z Z (eN (sR fL6 Z (oM Z Z (oR Z (ZG Z Z) (oR Z (zO Z Z zx Z zF) (oL Z (hS46.ldB (j:=0) Z Z Z zR (v:=.slice A34 x19.done.length c35) Z) (oA Z Z (oA Z Z (eN (zY ?_))))))))))))))
  cases hm22
  exact ⟨rfl,_,(wOS rfl rfl),U23,_,(hS46.pick [1] _ (by decide) rfl),A34,c35,rfl,rfl⟩
 ·intro c15 hm47
  refine cT Z c15 (sR fL3 Z (oM Z Z (oA Z Z (oA Z Z (eN (zY (zJ ?_)))))))
  have hS48:=hS14.nilrow 3 1
  cases hm47
  exact ⟨rfl,_,(wOS rfl rfl),U8,_,(hS48.pick [0] _ (by decide) rfl),none,0,rfl,rfl⟩
theorem wBU (p0:List Int) (pA0:Option Addr) (pc0:Nat) (p1:Int) (w:World) (U:PHeap) (hS:St0 w U []) (ha0:Sl U 1 pA0 pc0 p0.length (nA KL.encI p0)) {r:Int} (hm:wAN p0 p1=some r):Gv Tryz.prog 13 [.slice pA0 p0.length pc0,jV p1] w (wCO w [] U (fun U_ L_ v=>v=jV r/\L_=[])):=by
 unfold wAN at hm
 refine Gv.of Tryz.func13 Z Tryz.ntmps13 Tryz.results13 Z (sR fL1 Z (oA Z Z (eN (zL (sR fL3 Z (oM Z Z (oR Z (zy Z Z zA) (oM Z Z (eN (zf ?_))))))))))
 have q:=wBb hm
 obtain ⟨r3,hX4⟩:=q
 have q:=wBa hX4
 obtain ⟨hle5,hf6⟩:=q
 replace hle5:=zG hle5
 refine Zd (fun k2 _ σ_ w_=>∃ (U_:PHeap),σ_ 8=jV (↑k2:Int)/\σ_ 0=.slice pA0 p0.length pc0/\σ_ 1=jV p1/\σ_ 7=jV (↑p0.length:Int)/\PHeap.Le U U_/\sW w U U_ [] w_) hf6 ?_ ?_ ?_
 ·exact ⟨U,Z,Z,Z,Z,(zI _),hS⟩
 ·rintro k2 ⟨⟩ xx9 σ7 W8 hk12 ⟨U14,fi13,f17,f18,f19,le15,hS16⟩ hx10 hb11
  try dsimp only at hx10
  have c20:Hid ((↑k2:Int) < (↑p0.length:Int)):=zG (wBQ hk12)
  replace hk12:=zG hk12
  have hi21:Hid (w64 ((↑k2:Int) + 1)=(↑(k2 + 1):Int)):=zG (by have h1:=hle5.out;have h2:=c20.out;rw [wAa] <;> omega)
  refine sR fL1 Z (oR Z (zV Z fi13 f19) (eN (zL (cT Z c20 (kN (zL (zf (sR fL2 Z (oM Z fi13 (oA Z Z (eN (sR fL6 Z (oM Z f18 (oM Z f17 (oM Z Z (bnK hx10 fun x22 h23 hm24=>?_))))))))))))))))
  have h25:=ha0.le le15
  have q:=h25.el (fun _=>rfl) (wAP h23)
  obtain ⟨b26,off27,hA28,hC29⟩:=q
  refine oR Z (zo Z Z hA28 Z zA zB (wAu h23)) (oL Z (hS16.ldC (f:=0) hC29 (v:=jV x22) Z Z zN Z) (oR Z (Runs.eql Z Z Z) (eN (ifc hm24 ?_ ?_))))
  ·intro c30 hm31
   refine cT Z c30 (sR fL2 Z (oM Z Z (oA Z Z (eN (zY (zS (zJ ?_)))))))
   have q:=wAV hm31
   obtain ⟨v32,hm33,e34⟩:=q
   obtain rfl:=wBF hm hX4 (hb11 v32 e34)
   refine zJ (zS (zJ ?_))
   cases hm33
   exact ⟨Z,_,(ZC Z),U14,_,hS16,Z,Z⟩
  ·intro c30 hm35
   refine cF Z c30 (ZQ (zt (zK (rR fL2 Z (oR Z (ZD (zU Z fi13 Z) (congrArg (jV) hi21.out)) (oM Z Z (ZA ?_)))))))
   obtain rfl:=nB hm35
   exact zK ⟨Z,_,Z,⟨U14,Z,f17,f18,f19,le15,hS16⟩⟩
 ·rintro ⟨⟩ σ36 W37 ⟨U40,fi39,f43,f44,f45,le41,hS42⟩ hb38
  have hm46:=wCD hm hX4 hb38
  try dsimp only at hm46
  have c47:Hid (¬ ((↑(((↑p0.length:Int):Int) - 0).toNat:Int) < (↑p0.length:Int))):=zG (wBA)
  refine sR fL1 Z (oR Z (zV Z fi39 f45) (eN (zL (cF Z c47 (ZR (zq (zq (ZO (zK (sR fL1 Z (oA Z Z (eN (zY ?_)))))))))))))
  cases hm46
  exact ⟨Z,_,(ZC Z),U40,_,hS42,Z,Z⟩
theorem wCZ (p0:List Int) (pA0:Option Addr) (pc0:Nat) (p1:Int) (w:World) (U:PHeap) (hS:St0 w U []) (ha0:Sl U 1 pA0 pc0 p0.length (nA KL.encI p0)) {r:Bool} (hm:wAZ p0 p1=some r):Gv Tryz.prog 10 [.slice pA0 p0.length pc0,jV p1] w (wCO w [] U (fun U_ L_ v=>v=.bool r/\L_=[])):=by
 unfold wAZ at hm
 refine Gv.of Tryz.func10 Z Tryz.ntmps10 Tryz.results10 Z (sR fL1 Z (oA Z Z (eN (sR (.fl 0 (.fl 1 (.fx 2 (.fl 3 (.fl 4 (.nil))) .stop))) Z (oM Z Z (oM Z Z (bnK hm fun x1 h2 hm3=>zj 0 Z Z Z Z (zd Z Z Tryz.call13 (zM Z (zM Z zr)) Z) hS (fun hs=>wBU p0 pA0 pc0 p1 w U hs ha0 h2) (.inr Z) ?_)))))))
 rintro U4 L5 v6 W7 le8 hS9 ⟨rfl,rfl⟩
 have hS10:sW w U U4 [] W7:=hS9
 refine oR Z (Runs.geq Z Z Z) (oA Z Z (eN (zY ?_)))
 cases hm3
 exact ⟨Z,_,(ZC Z),U4,_,hS10,Z,Z⟩
theorem wCG (p0:wAD) (p1:Int) (pb1:Nat) (w:World) (U:PHeap) (hS:St0 w U []) (ha0:Cl U pb1 0 [jV p1]) {r:Bool} (hm:wAO p0 p1=some r):Gv Tryz.prog 12 [.agg #[jV p0.Bib,jV p0.Done,jV p0.Time,jV p0.By],.pointer (some ⟨pb1,0,none⟩)] w (wCO w [] U (fun U_ L_ v=>v=.bool r/\L_=[])):=by
 unfold wAO at hm
 refine Gv.of Tryz.func12 rfl Tryz.ntmps12 Tryz.results12 rfl (sR (.fx 0 (.fl 1 (.nil)) .stop) rfl (Zh (cs:=[jV p0.Bib,jV p0.Done,jV p0.Time,jV p0.By]) rfl rfl rfl rfl rfl rfl (by rfl) hS ?_))
 intro W1 b2 hS3
 refine oA Z Z (eN (sR fL5 Z (oR Z (zO Z Z zh Z zB) (oL Z (hS3.ldB (j:=0) Z Z Z zN (v:=jV p0.Bib) Z) (oL Z (hS3.ldC (f:=0) ha0 (v:=jV p1) Z Z zN Z) (oR Z (Runs.eql Z Z Z) (oA Z Z (eN (zY ?_)))))))))
 cases hm
 exact ⟨rfl,_,(ZC rfl),U,_,(hS3.pick [] _ (by decide) rfl),rfl,rfl⟩
theorem wBZ (p0:List wAD) (pA0:Option Addr) (pc0:Nat) (p1:(wAD->Option Bool)) (pv1:Value) (w:World) (U:PHeap) (hS:St0 w U []) (ha0:Sl U 4 pA0 pc0 p0.length (nA wAG p0)) (ha1:FnOK Tryz.prog U pv1 ar42 rr42 p1) {r:Int} (hm:wAK p0 p1=some r):Gv Tryz.prog 11 [.slice pA0 p0.length pc0,pv1] w (wCO w [] U (fun U_ L_ v=>v=jV r/\L_=[])):=by
 unfold wAK at hm
 refine Gv.of Tryz.func11 Z Tryz.ntmps11 Tryz.results11 Z (sR fL1 Z (oA Z Z (eN (zL (sR fL3 Z (oM Z Z (oR Z (zy Z Z ZI) (oM Z Z (eN (zf ?_))))))))))
 have q:=wBb hm
 obtain ⟨r3,hX4⟩:=q
 have q:=wBa hX4
 obtain ⟨hle5,hf6⟩:=q
 replace hle5:=zG hle5
 refine Zd (fun k2 _ σ_ w_=>∃ (U_:PHeap),σ_ 8=jV (↑k2:Int)/\σ_ 0=.slice pA0 p0.length pc0/\σ_ 1=pv1/\σ_ 7=jV (↑p0.length:Int)/\PHeap.Le U U_/\sW w U U_ [] w_) hf6 ?_ ?_ ?_
 ·exact ⟨U,Z,Z,Z,Z,(zI _),hS⟩
 ·rintro k2 ⟨⟩ xx9 σ7 W8 hk12 ⟨U14,fi13,f17,f18,f19,le15,hS16⟩ hx10 hb11
  try dsimp only at hx10
  have c20:Hid ((↑k2:Int) < (↑p0.length:Int)):=zG (wBQ hk12)
  replace hk12:=zG hk12
  have hi21:Hid (w64 ((↑k2:Int) + 1)=(↑(k2 + 1):Int)):=zG (by have h1:=hle5.out;have h2:=c20.out;rw [wAa] <;> omega)
  refine sR fL1 Z (oR Z (zV Z fi13 f19) (eN (zL (cT Z c20 (kN (zL (zf (sR fL2 Z (oM Z fi13 (oA Z Z (eN (sR (wMP (.fx 5 (.nil) .stop)) Z (oM Z f18 (oM Z f17 (oM Z Z (bnK hx10 fun x22 h23 hm24=>?_))))))))))))))))
  have h25:=ha0.le le15
  have q:=h25.el (fun _=>rfl) (wAP h23)
  obtain ⟨b26,off27,hA28,hC29⟩:=q
  refine oR Z (zo Z Z hA28 Z ZI ZP (wAu h23)) (oL Z (hS16.ldCA (f:=0) hC29 Z Z Tryz.isAgg38 ZP (us:=[jV x22.Bib,jV x22.Done,jV x22.Time,jV x22.By]) Z Z) (bnK hm24 fun x30 h31 hm32=>?_))
  have h39:=ha1.le le15
  refine OKS.callV (a:=x22) Z Z Z Z Z Z (zM Z zr) hS16 h39 Z h31 ?_
  rintro U33 L34 v35 W36 le37 hS38 ⟨rfl,rfl⟩
  have hS40:sW w U U33 [] W36:=hS38
  refine eN (ifc hm32 ?_ ?_)
  ·intro c41 hm42
   refine ZM (congrArg nD c41.out) (sR fL2 Z (oM Z Z (oA Z Z (eN (zY (zS (zJ ?_)))))))
   have q:=wAV hm42
   obtain ⟨v43,hm44,e45⟩:=q
   obtain rfl:=wBF hm hX4 (hb11 v43 e45)
   refine zJ (zS (zJ ?_))
   cases hm44
   exact ⟨Z,_,(ZC Z),U33,_,hS40,Z,Z⟩
  ·intro c41 hm46
   refine ZN (congrArg nD (nE.2 c41.out)) (ZQ (zt (zK (rR fL2 Z (oR Z (ZD (zU Z fi13 Z) (congrArg (jV) hi21.out)) (oM Z Z (ZA ?_)))))))
   obtain rfl:=nB hm46
   exact zK ⟨Z,_,Z,⟨U33,Z,f17,f18,f19,(le15.trans le37),hS40⟩⟩
 ·rintro ⟨⟩ σ47 W48 ⟨U51,fi50,f54,f55,f56,le52,hS53⟩ hb49
  have hm57:=wCD hm hX4 hb49
  try dsimp only at hm57
  have c58:Hid (¬ ((↑(((↑p0.length:Int):Int) - 0).toNat:Int) < (↑p0.length:Int))):=zG (wBA)
  refine sR fL1 Z (oR Z (zV Z fi50 f56) (eN (zL (cF Z c58 (ZR (zq (zq (ZO (zK (sR fL1 Z (oA Z Z (eN (zY ?_)))))))))))))
  cases hm57
  exact ⟨Z,_,(ZC Z),U51,_,hS53,Z,Z⟩
theorem wDR (w:World) (U:PHeap) (hS:St0 w U []) {r:Bool} (hm:wBc=some r):Gv Tryz.prog 14 [] w (wCO w [] U (fun U_ L_ v=>v=.bool r/\L_=[])):=by
 cases hm
 refine (xr14 w).mono ?_
 rintro v w' ⟨rfl,k⟩
 exact ⟨U,[],hS.grow k,Z,Z⟩
theorem wCQ (p0:List Int) (pA0:Option Addr) (pc0:Nat) (w:World) (U:PHeap) (hS:St0 w U []) (ha0:Sl U 1 pA0 pc0 p0.length (nA KL.encB8 p0)) {r:Bool} (hm:wAn p0=some r):Gv Tryz.prog 3 [.slice pA0 p0.length pc0] w (wCO w [] U (fun U_ L_ v=>v=.bool r/\L_=[])):=by
 unfold wAn at hm
 refine Gv.of Tryz.func3 Z Tryz.ntmps3 Tryz.results3 Z (sR fL1 Z (oA Z Z (eN (sR (.fl 0 (.fx 1 (.fx 2 (.fx 3 (.fx 4 (.nil) .stop) .stop) .stop) .stop)) Z (oM Z Z (bnK hm fun x1 h2 hm3=>zj 0 Z Z Z Z (zd Z Z Tryz.call7 (zM Z zr) Z) hS (fun hs=>wFS p0 pA0 pc0 w U hs ha0 h2) (.inr Z) ?_))))))
 rintro U4 L5 v6 W7 le8 hS9 ⟨b10,A11,c12,rfl,rfl,h14⟩
 have hS15:sW w U U4 [.blk b10 72 [.slice A11 x1.bytes.length c12,jV x1.next,.int .u32 x1.state]] W7:=hS9
 have q:=bnd hm3
 obtain ⟨⟨x16,x17⟩,h18,hm19⟩:=q
 try dsimp only at hm19
 refine zj 1 Z Z Z Z (zd Z Z Tryz.call6 (zM Z (zM Z zr)) Z) hS15 (fun hs=>wDQ x1 b10 A11 c12 12 W7 U4 hs h14 h18) (.inl Z) ?_
 rintro U20 L21 v22 W23 le24 hS25 ⟨A26,c27,A28,c29,c30,A31,c32,rfl,rfl,h35,h36⟩
 let B0:Res:=.blk b10 72 [.slice A31 x17.bytes.length c32,jV x17.next,.int .u32 x17.state]
 let B1:Res:=.row A26 c27 3 1 (nA KL.encI x16.Bibs)
 let B2:Res:=.row A28 c29 23 1 c30
 have hS37:sW w U U20 [B1,B2,B0] W23:=hS25
 let B3:List Value:=[jV 0,.slice none 0 0,.slice none 0 0]
 refine Zc (cs:=B3) Z Z Z Z Z Zf Z hS37 ?_
 intro W38 b39 hS40
 let B4:List Value:=[jV x16.Laps,.slice A26 x16.Bibs.length c27,.slice A28 x16.Times.length c29]
 refine OKS.st (j:=0) (vs:=B4) Z Z Z Z hS40 Z Z Z Z ZF (zm Z) Z Z Z ?_
 intro W42 hS43
 have hS44:sW w U U20 [.blk b39 26 B4,B1,B2,B0] W42:=hS43
 refine eN (sR (.fl 0 (.fx 1 (wLV (.nil)) .stop)) Z (oL Z (hS44.ldBA (j:=0) Z Z Z ZY ZF (vs:=B4) Z Z) ?_))
 have q:=hS44.freezeR (k:=1) (n:=x16.Bibs.length) rfl (wAF (f:=KL.encI) (sz:=1) (fun _=>rfl) x16.Bibs) (by decide)
 obtain ⟨U45,le46,hs47,hS48⟩:=q
 have hS49:sW w U U45 [.blk b39 26 B4,B2,B0] W42:=hS48
 have h54:=h35.le le46
 have q:=hS49.freezeRR (R:=wBP) (k:=1) rfl h54 rfl (by decide)
 obtain ⟨U50,le51,hs52,hS53⟩:=q
 have hS55:sW w U U50 [.blk b39 26 B4,B0] W42:=hS53
 have h56:=hs47.le le51
 have q:=bnd hm19
 obtain ⟨⟨x57,x58⟩,h59,hm60⟩:=q
 try dsimp only at hm60
 refine zj 0 Z Z Z Z (zd Z Z Tryz.call8 (zM Z zr) Z) hS55 (fun hs=>wDT x16 A26 c27 A28 c29 W42 U50 hs h56 hs52 h59) (.inr Z) ?_
 rintro U61 L62 v63 W64 le65 hS66 ⟨A67,c68,rfl,rfl⟩
 let B5:Res:=.row A67 c68 38 4 (nA wAG x57)
 have hS70:sW w U U61 [B5,.blk b39 26 B4,B0] W64:=hS66
 refine oM Z Z (oR Z (Za Z Z (v:=.slice A67 x57.length c68) Z) (oR Z (Za Z Z (v:=jV x58) Z) (oA Z Z (oA Z Z (eN (sR (.fl 0 (.fx 1 (wLV (.nil)) .stop)) Z (oL Z (hS70.ldBA (j:=1) Z Z Z ZY ZF (vs:=B4) Z Z) ?_)))))))
 have h71:=h56.le le65
 have h72:=hs52.le le65
 have q:=bnd hm60
 obtain ⟨⟨x73,x74⟩,h75,hm76⟩:=q
 try dsimp only at hm76
 refine zj 0 Z Z Z Z (zd Z Z Tryz.call9 (zM Z zr) Z) hS70 (fun hs=>wFU x16 A26 c27 A28 c29 W64 U61 hs h71 h72 h75) (.inr Z) ?_
 rintro U77 L78 v79 W80 le81 hS82 ⟨A83,c84,rfl,rfl⟩
 let B6:Res:=.row A83 c84 3 1 (nA KL.encI x73)
 have hS86:sW w U U77 [B6,B5,.blk b39 26 B4,B0] W80:=hS82
 refine oM Z Z (oR Z (Za Z Z (v:=.slice A83 x73.length c84) Z) (oR Z (Za Z Z (v:=jV x74) Z) (oA Z Z (oA Z Z (eN (zL (sR fL14 Z (oM Z Z (oR Z (Runs.neq Z Z Z) (oM Z Z (ifc hm76 ?_ ?_)))))))))))
 ·intro c87 hm88
  refine zQ Z Z Z (zP Z Z (ZK (fun h=>h c87.out))) Z Z (zZ Z Z Z (zP Z Z (ZK (fun h=>h c87.out))) (fun _=>Runs.neq Z Z Z) (oR Z (zg Z (ZK (fun h=>h c87.out)) Z) (oM Z Z (ifc hm88 ?_ ?_))))
  ·intro c89 hm90
   refine zQ Z Z Z (zP Z Z (ZK (fun h=>h c89.out))) Z Z (zZ Z Z Z (zP Z Z (ZK (fun h=>h c89.out))) (fun _=>zy Z Z zA) (zZ Z Z Z (zP Z Z (ZK (fun h=>h c89.out))) (fun _=>zO Z Z zD Z zF) (ZB Z Z Z (zP Z Z (ZK (fun h=>h c89.out))) (hS86.ldB (j:=2) Z Z Z zR (v:=.slice A26 x16.Bibs.length c27) Z) Z (zZ Z Z Z (zP Z Z (ZK (fun h=>h c89.out))) (fun _=>zy Z Z zA) (zZ Z Z Z (zP Z Z (ZK (fun h=>h c89.out))) (fun _=>Runs.neq Z Z Z) (oR Z (zg Z (ZK (fun h=>h c89.out)) Z) (eN (ifc hm90 ?_ ?_))))))))
   ·intro c91 hm92
    refine ZN (ZK (fun h=>h c91.out)) (kN (sR (.fx 0 (.fl 1 (.nil)) .stop) Z (OKS.makeMap Z Z Z Z Z hS86 ?_)))
    intro W93 b94 hS95
    have hr96:=MpR.nil wNu wOR
    refine oA Z Z (eN (zL (sR fL3 Z (oM Z Z (oR Z (zy Z Z ZI) (oM Z Z (eN (zf ?_))))))))
    have q:=wBb hm92
    obtain ⟨r113,hX114⟩:=q
    have q:=wBa hX114
    obtain ⟨hle115,hf116⟩:=q
    replace hle115:=zG hle115
    refine Zd (fun k112 l109 σ_ w_=>∃ (U_:PHeap) (es110:Array MapEntry) (ck111:Nat),σ_ 67=jV (↑k112:Int)/\σ_ 3=.pointer (some ⟨b39,0,none⟩)/\σ_ 4=.slice A67 x57.length c68/\σ_ 6=.slice A83 x73.length c84/\σ_ 8=.map (some b94)/\σ_ 65=.slice A67 x57.length c68/\σ_ 66=jV (↑x57.length:Int)/\PHeap.Le U77 U_/\sW w U U_ [.obj b94 (.map es110 ck111),.blk b39 26 B4,B0,B5,B6] w_/\MpR es110 wNu wOR l109) hf116 ?_ ?_ ?_
    ·exact ⟨U77,#[],0,rfl,rfl,rfl,rfl,rfl,rfl,rfl,(zI _),(hS95.pick [0,3,4,2,1] _ (by decide) rfl),hr96⟩
    ·rintro k112 l109 xx119 σ117 W118 hk122 ⟨U124,es110,ck111,fi123,f127,f128,f129,f130,f131,f132,le125,hS126,h133⟩ hx120 hb121
     have c134:Hid ((↑k112:Int) < (↑x57.length:Int)):=zG (wBQ hk122)
     replace hk122:=zG hk122
     have hi135:Hid (w64 ((↑k112:Int) + 1)=(↑(k112 + 1):Int)):=zG (by have h1:=hle115.out;have h2:=c134.out;rw [wAa] <;> omega)
     refine sR fL1 Z (oR Z (zV Z fi123 f132) (eN (zL (cT Z c134 (kN (zL (zf (sR (wLU (.fx 3 (.fl 4 (.fx 5 (.nil) .stop)) .stop)) Z (oM Z fi123 (bnK hx120 fun _ h136 hm137=>?_))))))))))
     obtain ⟨b138,hA139⟩:=hS126.rowSome (j:=3) rfl (by rw [wAF (f:=wAG) (sz:=4) (fun _=>rfl) x57];have hz:=wAd h136;omega)
     refine oR Z (zo Z f131 hA139 fi123 ZI ZP (wAd h136)) ?_
     have hg140:=wBW (xs:=x57) (wAd h136)
     let B7:List Value:=[jV ((gd x57 k112).Bib),jV ((gd x57 k112).Done),jV ((gd x57 k112).Time),jV ((gd x57 k112).By)]
     refine ZB rfl rfl rfl rfl (hS126.ldRA (j:=3) rfl hA139 rfl rfl Tryz.isAgg38 ZP (vs:=B7) (wHL (sz:=4) (fun _=>rfl) _ _ _ hg140 (by first | omega | rfl | simp) rfl) rfl) rfl (Zc (cs:=[jV 0,jV 0,jV 0,jV 0]) rfl rfl rfl rfl rfl Tryz.zeroValue38 rfl hS126 ?_)
     intro W141 b142 hS143
     refine oA Z Z (OKS.st (j:=0) (vs:=B7) Z Z Z Z hS143 Z Z Z Z ZP (zm Z) Z Z Z ?_)
     intro W145 hS146
     have hS147:sW w U U124 [.blk b142 38 B7,.obj b94 (.map es110 ck111),.blk b39 26 B4,B0,B5,B6] W145:=hS146
     refine eN (zL (sR fL9 Z (oM Z f130 (oR Z (zO Z Z zh Z zB) (oL Z (hS147.ldB (j:=0) Z Z Z zN (v:=jV ((gd x57 k112).Bib)) Z) (oL Z (hS147.lookup2 (j:=1) (mk:=wNu) (mv:=wOR) (a:=(gd x57 k112).Bib) (z:=0) Z Z Z Z (wCE Tryz.runUnderlying36) wIb zu h133) (oM Z Z (oR Z (Za Z Z (v:=jV (wBj l109 ((gd x57 k112).Bib) 0)) Z) (oR Z (Za Z Z (v:=.bool (wDs l109 ((gd x57 k112).Bib))) Z) (oA Z Z (oA Z Z (eN (bnK hm137 fun b148 hx150 hm151=>CK.cut (fun σ_ w_=>∃ (U_:PHeap),σ_ 3=.pointer (some ⟨b39,0,none⟩)/\σ_ 4=.slice A67 x57.length c68/\σ_ 6=.slice A83 x73.length c84/\σ_ 8=.map (some b94)/\σ_ 10=.pointer (some ⟨b142,0,none⟩)/\σ_ 65=.slice A67 x57.length c68/\σ_ 66=jV (↑x57.length:Int)/\σ_ 67=jV (↑k112:Int)/\σ_ 124=.bool b148/\PHeap.Le U124 U_/\sW w U U_ [.blk b142 38 B7,.obj b94 (.map es110 ck111),.blk b39 26 B4,B0,B5,B6] w_) ?_ ?_)))))))))))))
     ·refine Zb ZW [3,3,3,1,3,1,2,3,3,3,3,3,3,3,3,3,3,3,1,3,1,3,3,3,3,3,3,3,1,3,1,3,3,3,3,3,3,3,1,3,1,3,3,3,3,3] (wMQ (.fx 6 (wPa (.nil)) .stop)) (by kernel_rfl) ?_
      have hS152:=hS147.drew
      generalize hw_W153:({ W145 with drawn:=W145.drawn + 1 }:World)=W153 at hS152 ⊢
      refine oM Z Z (oM Z Z ?_)
      by_cases c154:(wDs l109 ((gd x57 k112).Bib))=true
      ·have hm155:=hx150;rw [if_pos c154] at hm155;replace c154:=zG c154
       refine zC Z Z Z (zn Z Z (congrArg nD c154.out) Z) (zC Z Z Z (zn Z Z (congrArg nD c154.out) Z) (zC Z Z Z (zn Z Z (congrArg nD c154.out) Z) (zC Z Z Z (zn Z Z (congrArg nD c154.out) Z) (OKS.px Z Z Z (zn Z Z (congrArg nD c154.out) Z) (zC Z Z Z (zn Z Z (congrArg nD c154.out) Z) (oR Z (ze Z (congrArg nD c154.out) Z) (oM Z Z (oN Z (oN Z (oN Z (zC Z Z Z (wAA Z Z Z) (zC Z Z Z (wAA Z Z Z) (zC Z Z Z (wAA Z Z Z) (zC Z Z Z (wAA Z Z Z) (zC Z Z Z (wAA Z Z Z) (zC Z Z Z (wAA Z Z Z) (zC Z Z Z (wAA Z Z Z) (zC Z Z Z (wAA Z Z Z) (zC Z Z Z (wAA Z Z Z) (zC Z Z Z (wAA Z Z Z) (zC Z Z Z (wAA Z Z Z) (zC Z Z Z (wAA Z Z Z) (zC Z Z Z (wAA Z Z Z) (zC Z Z Z (wAA Z Z Z) (zC Z Z Z (wAA Z Z Z) (zC Z Z Z (wAA Z Z Z) (zC Z Z Z (wAA Z Z Z) (zC Z Z Z (wAA Z Z Z) (zC Z Z Z (wAA Z Z Z) (zC Z Z Z (wAA Z Z Z) (zC Z Z Z (wAA Z Z Z) (zC Z Z Z (wAA Z Z Z) (zC Z Z Z (wAA Z Z Z) (zC Z Z Z (wAA Z Z Z) (zC Z Z Z (wAA Z Z Z) (zC Z Z Z (wAA Z Z Z) (zC Z Z Z (wAA Z Z Z) (zC Z Z Z (wAA Z Z Z) (zC Z Z Z (wAA Z Z Z) (zC Z Z Z (wAA Z Z Z) (zC Z Z Z (wAA Z Z Z) (oN Z (oR Z (ze Z Z Z) (ZA ?_))))))))))))))))))))))))))))))))))))))))))))
       cases hm155
       exact zK ⟨Z,⟨U124,f127,f128,f129,f130,Z,f131,f132,fi123,Z,(zI _),hS152⟩⟩
      ·have hm157:=hx150;rw [if_neg c154] at hm157;replace c154:=zG c154
       refine zZ Z Z Z (zP Z Z (congrArg nD (nE.2 c154.out))) (fun _=>zO Z f127 zD Z zF) (ZB Z Z Z (zP Z Z (congrArg nD (nE.2 c154.out))) (hS152.ldB (j:=2) Z Z Z zR (v:=.slice A26 x16.Bibs.length c27) Z) Z (zZ Z Z Z (zP Z Z (congrArg nD (nE.2 c154.out))) (fun _=>zO Z Z zh Z zB) (ZB Z Z Z (zP Z Z (congrArg nD (nE.2 c154.out))) (hS152.ldB (j:=0) Z Z Z zN (v:=jV ((gd x57 k112).Bib)) Z) Z ?_)))
       have h158:=h71.le le81
       have h159:=h158.le le125
       refine bnK hm157 fun x160 h161 hm162=>zj 0 Z Z Z (zP Z Z (congrArg nD (nE.2 c154.out))) (zd Z Z Tryz.call10 (zM Z (zM Z zr)) Z) hS152 (fun hs=>wCZ x16.Bibs A26 c27 ((gd x57 k112).Bib) W153 U124 hs h159 h161) (.inr Z) ?_
       rintro U163 L164 v165 W166 le167 hS168 ⟨rfl,rfl⟩
       have hS169:sW w U U163 [.blk b142 38 B7,.obj b94 (.map es110 ck111),.blk b39 26 B4,B0,B5,B6] W166:=hS168
       refine zZ Z Z Z (zP Z Z (congrArg nD (nE.2 c154.out))) (fun _=>ZX Z Z) (oR Z (zg Z (congrArg nD (nE.2 c154.out)) Z) (oM Z Z (ifc hm162 ?_ ?_)))
       ·intro c170 hm171
        refine zQ Z Z Z (zP Z Z (nC c170.out)) Z Z (zZ Z Z Z (zP Z Z (nC c170.out)) (fun _=>Runs.gtr Z Z Z) (zQ Z Z Z (zP Z Z (nC c170.out)) Z Z (ifc hm171 ?_ ?_)))
        ·intro c172 hm173
         refine zQ Z Z Z (wT Z c172) Z f128 (zQ Z Z Z (wT Z c172) Z Z (rU Z (wT Z c172) (Runs.subw Z Z Z) (bnK hm173 fun _ h174 hm175=>rU Z (wT Z c172) (ZV Z Z hA139 Z ZI ZP (wEP h174) (wEQ h174)) (rU Z (wT Z c172) (zO Z Z zh Z zB) ?_))))
         have hg176:=wBW (xs:=x57) (wAd h174)
         refine ZB rfl rfl rfl (zP rfl rfl (ZU c172.out)) (hS169.ldR (j:=4) rfl hA139 rfl rfl zN (wAW (sz:=4) (fun _=>rfl) _ _ 2 _ hg176 (by first | omega | rfl | simp) rfl)) rfl (zZ rfl rfl rfl (zP rfl rfl (ZU c172.out)) (fun _=>zO rfl rfl zh rfl zB) (ZB rfl rfl rfl (zP rfl rfl (ZU c172.out)) (hS169.ldB (j:=0) rfl rfl rfl zN (v:=jV ((gd x57 k112).Time)) rfl) rfl (zZ rfl rfl rfl (zP rfl rfl (ZU c172.out)) (fun _=>Runs.gtr rfl rfl rfl) (zQ rfl rfl rfl (zP rfl rfl (ZU c172.out)) rfl rfl (ifc hm175 ?_ ?_)))))
         ·intro c177 hm178
          refine oT Z c177 (oT Z c177 (oT Z c177 (oT Z c177 (oT Z c177 (oT Z c177 (oT Z c177 (oT Z c177 (oT Z c177 (oT Z c177 (zC Z Z Z (wAA Z Z Z) (zC Z Z Z (wAA Z Z Z) (zC Z Z Z (wAA Z Z Z) (zC Z Z Z (wAA Z Z Z) (zC Z Z Z (wAA Z Z Z) (zC Z Z Z (wAA Z Z Z) (zC Z Z Z (wAA Z Z Z) (zC Z Z Z (wAA Z Z Z) (zC Z Z Z (wAA Z Z Z) (oT Z c177 (rU Z (wT Z c172) (ze Z (ZU c177.out) Z) (zZ Z Z Z (zP Z Z (nC c170.out)) (fun _=>ze Z (ZU c172.out) Z) (oR Z (zg Z (nC c170.out) Z) (ZA ?_)))))))))))))))))))))))
          cases hm178
          exact zK ⟨Z,⟨U163,f127,f128,f129,f130,Z,f131,f132,fi123,Z,le167,hS169⟩⟩
         ·intro c177 hm180
          refine zQ Z Z Z (wF Z c177) Z f128 (zQ Z Z Z (wF Z c177) Z Z (rU Z (wF Z c177) (Runs.subw Z Z Z) (rU Z (wF Z c177) (ZV Z Z hA139 Z ZI ZP (wEP h174) (wEQ h174)) (rU Z (wF Z c177) (zO Z Z zh Z zB) ?_))))
          have hg181:=wBW (xs:=x57) (wAd h174)
          refine ZB rfl rfl rfl (zP rfl rfl (ZK c177.out)) (hS169.ldR (j:=4) rfl hA139 rfl rfl zN (wAW (sz:=4) (fun _=>rfl) _ _ 2 _ hg181 (by first | omega | rfl | simp) rfl)) rfl (zZ rfl rfl rfl (zP rfl rfl (ZK c177.out)) (fun _=>zO rfl rfl zh rfl zB) (ZB rfl rfl rfl (zP rfl rfl (ZK c177.out)) (hS169.ldB (j:=0) rfl rfl rfl zN (v:=jV ((gd x57 k112).Time)) rfl) rfl (zZ rfl rfl rfl (zP rfl rfl (ZK c177.out)) (fun _=>Runs.eql rfl rfl rfl) (zQ rfl rfl rfl (zP rfl rfl (ZK c177.out)) rfl rfl (ifc hm180 ?_ ?_)))))
          ·intro c182 hm183
           refine zQ Z Z Z (wT Z c182) Z f128 (zQ Z Z Z (wT Z c182) Z Z (rU Z (wT Z c182) (Runs.subw Z Z Z) (rU Z (wT Z c182) (ZV Z Z hA139 Z ZI ZP (wEP h174) (wEQ h174)) (rU Z (wT Z c182) (zO Z Z zh Z zB) ?_))))
           have hg184:=wBW (xs:=x57) (wAd h174)
           refine ZB rfl rfl rfl (zP rfl rfl (ZU c182.out)) (hS169.ldR (j:=4) rfl hA139 rfl rfl zN (wAW (sz:=4) (fun _=>rfl) _ _ 0 _ hg184 (by first | omega | rfl | simp) rfl)) rfl (zZ rfl rfl rfl (zP rfl rfl (ZU c182.out)) (fun _=>zO rfl rfl zh rfl zB) (ZB rfl rfl rfl (zP rfl rfl (ZU c182.out)) (hS169.ldB (j:=0) rfl rfl rfl zN (v:=jV ((gd x57 k112).Bib)) rfl) rfl (zZ rfl rfl rfl (zP rfl rfl (ZU c182.out)) (fun _=>Runs.geq rfl rfl rfl) (zZ rfl rfl rfl (zP rfl rfl (ZK c177.out)) (fun _=>ze rfl (ZU c182.out) rfl) (zZ rfl rfl rfl (zP rfl rfl (ZU c172.out)) (fun _=>zg rfl (ZK c177.out) rfl) (zZ rfl rfl rfl (zP rfl rfl (nC c170.out)) (fun _=>ze rfl (ZU c172.out) rfl) (zZ rfl rfl rfl rfl (fun _=>zg rfl (nC c170.out) rfl) (ZA ?_))))))))
           obtain rfl:=nB hm183
           exact zK ⟨Z,⟨U163,f127,f128,f129,f130,Z,f131,f132,fi123,Z,le167,hS169⟩⟩
          ·intro c182 hm186
           refine oF Z c182 (oF Z c182 (oF Z c182 (oF Z c182 (oF Z c182 (oF Z c182 (oF Z c182 (oF Z c182 (oF Z c182 (rU Z (wF Z c177) (zg Z (ZK c182.out) Z) (rU Z (wT Z c172) (zg Z (ZK c177.out) Z) (zZ Z Z Z (zP Z Z (nC c170.out)) (fun _=>ze Z (ZU c172.out) Z) (oR Z (zg Z (nC c170.out) Z) (ZA ?_)))))))))))))
           cases hm186
           exact zK ⟨Z,⟨U163,f127,f128,f129,f130,Z,f131,f132,fi123,Z,le167,hS169⟩⟩
        ·intro c172 hm188
         refine oF Z c172 (oF Z c172 (oF Z c172 (oF Z c172 (oF Z c172 (oF Z c172 (oF Z c172 (oF Z c172 (oF Z c172 (oF Z c172 (zC Z Z Z (wAA Z Z Z) (zC Z Z Z (wAA Z Z Z) (zC Z Z Z (wAA Z Z Z) (zC Z Z Z (wAA Z Z Z) (zC Z Z Z (wAA Z Z Z) (zC Z Z Z (wAA Z Z Z) (zC Z Z Z (wAA Z Z Z) (zC Z Z Z (wAA Z Z Z) (zC Z Z Z (wAA Z Z Z) (zC Z Z Z (wAA Z Z Z) (zC Z Z Z (wAA Z Z Z) (zC Z Z Z (wAA Z Z Z) (zC Z Z Z (wAA Z Z Z) (zC Z Z Z (wAA Z Z Z) (zC Z Z Z (wAA Z Z Z) (zC Z Z Z (wAA Z Z Z) (zC Z Z Z (wAA Z Z Z) (zC Z Z Z (wAA Z Z Z) (zC Z Z Z (wAA Z Z Z) (zC Z Z Z (wAA Z Z Z) (oF Z c172 (zZ Z Z Z (zP Z Z (nC c170.out)) (fun _=>zg Z (ZK c172.out) Z) (oR Z (zg Z (nC c170.out) Z) (ZA ?_)))))))))))))))))))))))))))))))))
         cases hm188
         exact zK ⟨Z,⟨U163,f127,f128,f129,f130,Z,f131,f132,fi123,Z,le167,hS169⟩⟩
       ·intro c170 hm190
        refine zC Z Z Z (zn Z Z (nF (c170.out)) Z) (zC Z Z Z (zn Z Z (nF (c170.out)) Z) (zC Z Z Z (zn Z Z (nF (c170.out)) Z) (zC Z Z Z (wAA Z Z Z) (zC Z Z Z (wAA Z Z Z) (zC Z Z Z (wAA Z Z Z) (zC Z Z Z (wAA Z Z Z) (zC Z Z Z (wAA Z Z Z) (zC Z Z Z (wAA Z Z Z) (zC Z Z Z (wAA Z Z Z) (zC Z Z Z (wAA Z Z Z) (zC Z Z Z (wAA Z Z Z) (zC Z Z Z (wAA Z Z Z) (zC Z Z Z (wAA Z Z Z) (zC Z Z Z (wAA Z Z Z) (zC Z Z Z (wAA Z Z Z) (zC Z Z Z (wAA Z Z Z) (zC Z Z Z (wAA Z Z Z) (zC Z Z Z (wAA Z Z Z) (zC Z Z Z (wAA Z Z Z) (zC Z Z Z (wAA Z Z Z) (zC Z Z Z (wAA Z Z Z) (zC Z Z Z (wAA Z Z Z) (zC Z Z Z (wAA Z Z Z) (zC Z Z Z (wAA Z Z Z) (zC Z Z Z (wAA Z Z Z) (zC Z Z Z (wAA Z Z Z) (zC Z Z Z (wAA Z Z Z) (zC Z Z Z (wAA Z Z Z) (zC Z Z Z (wAA Z Z Z) (zC Z Z Z (wAA Z Z Z) (zC Z Z Z (wAA Z Z Z) (zC Z Z Z (wAA Z Z Z) (zC Z Z Z (wAA Z Z Z) (zC Z Z Z (zn Z Z (nF (c170.out)) Z) (oR Z (ze Z (nF (c170.out)) Z) (ZA ?_))))))))))))))))))))))))))))))))))))
        cases hm190
        exact zK ⟨Z,⟨U163,f127,f128,f129,f130,Z,f131,f132,fi123,Z,le167,hS169⟩⟩
     ·rintro σ192 W193 ⟨U194,f197,f198,f199,f200,f201,f202,f203,f204,f205,le195,hS196⟩
      refine ifc hm151 ?_ ?_
      ·intro c206 hm207
       refine ZM (f205.trans (congrArg nD c206.out)) (sR fL1 Z (oA Z Z (eN (zY (zJ (zS (zJ ?_)))))))
       have q:=wAV hm207
       obtain ⟨v208,hm209,e210⟩:=q
       obtain rfl:=wBF hm92 hX114 (hb121 v208 e210)
       refine zJ (zS (zJ ?_))
       have hE:=nB hm209;first | subst r | cases hE
       exact ⟨rfl,_,(ZC rfl),U194,_,(hS196.pick [] _ (by decide) rfl),rfl,rfl⟩
      ·intro c206 hm211
       refine ZN (f205.trans (congrArg nD (nE.2 c206.out))) (kN (rR (wMP (.fx 5 (.nil) .stop)) rfl (zQ rfl rfl rfl rfl rfl f200 (zZ rfl rfl rfl rfl (fun _=>zO rfl f201 zh rfl zB) (ZB rfl rfl rfl rfl (hS196.ldB (j:=0) rfl rfl rfl zN (v:=jV ((gd x57 k112).Bib)) rfl) rfl (zZ rfl rfl rfl rfl (fun _=>zO rfl f201 zh rfl zB) (ZB rfl rfl rfl rfl (hS196.ldB (j:=0) rfl rfl rfl zN (v:=jV ((gd x57 k112).Time)) rfl) rfl (OKS.mapPut (x:=.tmp 125) (y:=.tmp 127) (z:=.tmp 129) (j:=1) (mk:=wNu) (mv:=wOR) (a:=(gd x57 k112).Bib) (v:=(gd x57 k112).Time) rfl rfl rfl (by first | exact .inl rfl | exact .inr rfl) hS196 rfl rfl rfl rfl (wCE Tryz.runUnderlying36) wIb h133 rfl ?_))))))))
       intro es212 ck213 W214 hr215 hS216
       have hS217:sW w U U194 [.blk b142 38 B7,.obj b94 (.map es212 ck213),.blk b39 26 B4,B0,B5,B6] W214:=hS216
       refine ZA (zt (zK (rR fL2 Z (oR Z (ZD (zU Z f204 Z) (congrArg (jV) hi135.out)) (oM Z Z (ZA ?_))))))
       obtain rfl:=nB hm211
       exact zK ⟨rfl,_,rfl,⟨U194,es212,ck213,rfl,f197,f198,f199,f200,f202,f203,(le125.trans le195),(hS217.pick [1,2,3,4,5] _ (by decide) rfl),hr215⟩⟩
    ·rintro y225 σ221 W222 ⟨U228,e226,c227,fi224,f231,f232,f233,f234,f235,f236,le229,hS230,h237⟩ hb223
     have hm238:=wCD hm92 hX114 hb223
     have c239:Hid (¬ ((↑(((↑x57.length:Int):Int) - 0).toNat:Int) < (↑x57.length:Int))):=zG (wBA)
     refine sR fL1 Z (oR Z (zV Z fi224 f236) (eN (zL (cF Z c239 (ZR (zq (zq (ZO (zK (sR (wLU (.fx 3 (.fx 4 (.nil) .stop) .stop)) Z (oR Z (zO Z f231 zD Z zB) (oL Z (hS230.ldB (j:=1) Z Z Z zN (v:=jV x16.Laps) Z) ?_))))))))))))
     let B8:List Value:=[jV x16.Laps,.slice none 0 0,.slice none 0 0]
     refine oR Z (Runs.build (pv:=[(0,jV x16.Laps)]) (z:=B3) (cs:=B8) Z (wAL Z wAT) Zf wIY Z Z) (Zc (cs:=B3) Z Z Z Z Z Zf Z hS230 ?_)
     intro W240 b241 hS242
     refine OKS.st (j:=0) (vs:=B8) Z Z Z Z hS242 Z Z Z Z ZF (zm Z) Z Z Z ?_
     intro W244 hS245
     have hS246:sW w U U228 [.blk b241 26 B8,.obj b94 (.map e226 c227),.blk b39 26 B4,B0,B5,B6] W244:=hS245
     refine eN (zL (sR fL4 Z (oR Z (zO Z f231 zD Z zF) (oL Z (hS246.ldB (j:=2) Z Z Z zR (v:=.slice A26 x16.Bibs.length c27) Z) (oR Z (zy Z Z zA) (oM Z Z (eN (zf ?_))))))))
     have q:=wBb hm238
     obtain ⟨r284,hX285⟩:=q
     have q:=wBa hX285
     obtain ⟨hle286,hf287⟩:=q
     replace hle286:=zG hle286
     refine Zd (fun k283 (l274,l278) σ_ w_=>∃ (U_:PHeap) (A275:Option Addr) (c276:Nat) (A279:Option Addr) (c280:Nat) (cs282:List Value),σ_ 137=jV (↑k283:Int)/\σ_ 3=.pointer (some ⟨b39,0,none⟩)/\σ_ 4=.slice A67 x57.length c68/\σ_ 6=.slice A83 x73.length c84/\σ_ 8=.map (some b94)/\σ_ 13=.pointer (some ⟨b241,0,none⟩)/\σ_ 135=.slice A26 x16.Bibs.length c27/\σ_ 136=jV (↑x16.Bibs.length:Int)/\PHeap.Le U228 U_/\sW w U U_ [.row A275 c276 3 1 (nA KL.encI l274),.row A279 c280 23 1 cs282,.blk b241 26 [jV x16.Laps,.slice A275 l274.length c276,.slice A279 l278.length c280],.obj b94 (.map e226 c227),.blk b39 26 B4,B0,.row A67 c68 38 4 (nA wAG x57),.row A83 c84 3 1 (nA KL.encI x73)] w_/\RlL U_ wBP l278 cs282) hf287 ?_ ?_ ?_
     ·have hS288:=hS246.nilrow 3 1
      have hS290:=hS288.nilrow 23 1
      exact ⟨U228,none,0,none,0,[],rfl,f231,f232,f233,f234,rfl,rfl,rfl,(zI _),(hS290.pick [1,0,2,3,4,5,6,7] _ (by decide) rfl),RlL.nil⟩
     ·rintro k283 ⟨l274,l278⟩ xx294 σ292 W293 hk297 ⟨U299,A275,c276,A279,c280,cs282,fi298,f302,f303,f304,f305,f306,f307,f308,le300,hS301,h309⟩ hx295 hb296
      try dsimp only at hx295
      have c310:Hid ((↑k283:Int) < (↑x16.Bibs.length:Int)):=zG (wBQ hk297)
      replace hk297:=zG hk297
      have hi311:Hid (w64 ((↑k283:Int) + 1)=(↑(k283 + 1):Int)):=zG (by have h1:=hle286.out;have h2:=c310.out;rw [wAa] <;> omega)
      refine sR fL1 Z (oR Z (zV Z fi298 f308) (eN (zL (cT Z c310 (kN (zL (zf (sR fL5 Z (oM Z fi298 (bnK hx295 fun x312 h313 hm314=>?_))))))))))
      have h315:=h71.le le81
      have h316:=h315.le le229
      have h317:=h316.le le300
      have q:=h317.el (fun _=>rfl) (wAP h313)
      obtain ⟨b318,off319,hA320,hC321⟩:=q
      refine oR Z (zo Z f307 hA320 fi298 zA zB (wAu h313)) (oL Z (hS301.ldC (f:=0) hC321 (v:=jV x312) Z Z zN Z) (oA Z Z (oA Z Z (eN (sR fL8 Z (oM Z f305 (oM Z Z (oL Z (hS301.lookup2 (j:=3) (mk:=wNu) (mv:=wOR) (a:=x312) (z:=0) Z Z Z Z (wCE Tryz.runUnderlying36) wIb zu h237) (oM Z Z (oR Z (Za Z Z (v:=jV (wBj y225 x312 0)) Z) (oR Z (Za Z Z (v:=.bool (wDs y225 x312)) Z) (oA Z Z (oA Z Z (eN (zL (sR fL7 Z (oR Z (zO Z f302 zD Z ZH) (oL Z (hS301.ldB (j:=4) Z Z Z zX (v:=.slice A28 x16.Times.length c29) Z) (oM Z Z (bnK hm314 fun x322 h323 hm324=>?_))))))))))))))))))))
      have h325:=h72.le le81
      have h326:=h325.le le229
      have h327:=h326.le le300
      have q:=h327.el (wAP h323)
      obtain ⟨b328,off329,vs332,hA330,hC331,hr333⟩:=q
      obtain ⟨pA334,pc335,rfl,h336⟩:=hr333
      replace hC331:Cl U299 b328 (off329 + k283 * 1) [.slice pA334 x322.length pc335]:=hC331
      refine oR Z (zo Z Z hA330 Z zH zF (wAu h323)) (oL Z (hS301.ldC (f:=0) hC331 (v:=.slice pA334 x322.length pc335) Z Z zR Z) (oR Z (zy Z Z zA) (oM Z Z (eN (zf ?_)))))
      have q:=wBb hm324
      obtain ⟨r340,hX341⟩:=q
      have q:=wBa hX341
      obtain ⟨hle342,hf343⟩:=q
      replace hle342:=zG hle342
      let B9:Res:=.blk b241 26 [jV x16.Laps,.slice A275 l274.length c276,.slice A279 l278.length c280]
      let B10:Res:=.row A279 c280 23 1 cs282
      let B11:Res:=.row A275 c276 3 1 (nA KL.encI l274)
      refine Zd (fun k339 _ σ_ w_=>∃ (U_:PHeap),σ_ 154=jV (↑k339:Int)/\σ_ 3=.pointer (some ⟨b39,0,none⟩)/\σ_ 4=.slice A67 x57.length c68/\σ_ 6=.slice A83 x73.length c84/\σ_ 8=.map (some b94)/\σ_ 13=.pointer (some ⟨b241,0,none⟩)/\σ_ 14=jV (↑k283:Int)/\σ_ 15=jV x312/\σ_ 16=jV (wBj y225 x312 0)/\σ_ 17=.bool (wDs y225 x312)/\σ_ 135=.slice A26 x16.Bibs.length c27/\σ_ 136=jV (↑x16.Bibs.length:Int)/\σ_ 137=jV (↑k283:Int)/\σ_ 153=jV (↑x322.length:Int)/\PHeap.Le U299 U_/\sW w U U_ [B11,B10,B9,.obj b94 (.map e226 c227),.blk b39 26 B4,B0,B5,B6] w_) hf343 ?_ ?_ ?_
      ·exact ⟨U299,Z,f302,f303,f304,f305,f306,Z,Z,Z,Z,f307,f308,fi298,Z,(zI _),hS301⟩
      ·rintro k339 ⟨⟩ xx346 σ344 W345 hk349 ⟨U351,fi350,f354,f355,f356,f357,f358,f359,f360,f361,f362,f363,f364,f365,f366,le352,hS353⟩ hx347 hb348
       try dsimp only at hx347
       have c367:Hid ((↑k339:Int) < (↑x322.length:Int)):=zG (wBQ hk349)
       replace hk349:=zG hk349
       have hi368:Hid (w64 ((↑k339:Int) + 1)=(↑(k339 + 1):Int)):=zG (by have h1:=hle342.out;have h2:=c367.out;rw [wAa] <;> omega)
       refine sR fL1 rfl (zZ rfl rfl rfl rfl (fun _=>zV rfl fi350 f366) (eN (zL (cT Z c367 (kN (zL (zf (sR fL2 rfl (zQ rfl rfl rfl rfl rfl fi350 (OKS.ra rfl rfl rfl rfl rfl rfl (eN (zL (Zb ZW [3,3,3,3,1,3,3,3,3,3,1,3,3,1,3,3,1,3,3,3,3] fL21 (by kernel_rfl) ?_)))))))))))))
       have hS369:=hS353.drew
       generalize hw_W370:({ W345 with drawn:=W345.drawn + 1 }:World)=W370 at hS369 ⊢
       refine oM Z Z (oM Z f356 (oM Z f359 (bnK hx347 fun _ h371 hm372=>?_)))
       obtain ⟨b373,hA374⟩:=hS369.rowSome (j:=7) rfl (by rw [wAF (f:=KL.encI) (sz:=1) (fun _=>rfl) x73];have hz:=wAd h371;omega)
       refine oR Z (zo Z Z hA374 Z zA zB (wAd h371)) ?_
       have hg375:=wBW (xs:=x73) (wAd h371)
       refine ZB rfl rfl rfl rfl (hS369.ldR (j:=7) rfl hA374 rfl rfl zN (wAW (sz:=1) (fun _=>rfl) _ _ 0 _ hg375 (by first | omega | rfl | simp) rfl)) rfl (zZ rfl rfl rfl rfl (fun _=>zV rfl rfl rfl) (zQ rfl rfl rfl rfl rfl f362 (zZ rfl rfl rfl rfl (fun _=>ZX rfl rfl) (zQ rfl rfl rfl rfl rfl rfl (ifc hm372 ?_ ?_)))))
       ·intro c376 hm377
        refine zZ Z Z Z (zP Z Z (nC c376.out)) (fun _=>zO Z f354 zD Z ZH) (ZB Z Z Z (zP Z Z (nC c376.out)) (hS369.ldB (j:=4) Z Z Z zX (v:=.slice A28 x16.Times.length c29) Z) Z (zQ Z Z Z (zP Z Z (nC c376.out)) Z f359 ?_))
        have h378:=h327.le le352
        have q:=h378.el (wAP h323)
        obtain ⟨b379,off380,vs383,hA381,hC382,hr384⟩:=q
        obtain ⟨pA385,pc386,rfl,h387⟩:=hr384
        replace hC382:Cl U351 b379 (off380 + k283 * 1) [.slice pA385 x322.length pc386]:=hC382
        refine zZ Z Z Z (zP Z Z (nC c376.out)) (fun _=>zo Z Z hA381 Z zH zF (wAu h323)) (ZB Z Z Z (zP Z Z (nC c376.out)) (hS369.ldC (f:=0) hC382 (v:=.slice pA385 x322.length pc386) Z Z zR Z) Z (zQ Z Z Z (zP Z Z (nC c376.out)) Z Z (bnK hm377 fun x388 h389 hm390=>?_)))
        have q:=h387.el (fun _=>rfl) (wAP h389)
        obtain ⟨b391,off392,hA393,hC394⟩:=q
        refine zZ Z Z Z (zP Z Z (nC c376.out)) (fun _=>zo Z Z hA393 Z zA zB (wAu h389)) (ZB Z Z Z (zP Z Z (nC c376.out)) (hS369.ldC (f:=0) hC394 (v:=jV x388) Z Z zN Z) Z (zQ Z Z Z (zP Z Z (nC c376.out)) Z f361 (zZ Z Z Z (zP Z Z (nC c376.out)) (fun _=>Runs.leq Z Z Z) (oR Z (zg Z (nC c376.out) Z) (oR Z (Runs.neB Z Z Z Tryz.runUnderlying4) (eN (ifc hm390 ?_ ?_)))))))
        ·intro c395 hm396
         refine ZN (nC c395.out) (ZQ (zt (zK (rR fL2 Z (oR Z (ZD (zU Z fi350 Z) (congrArg (jV) hi368.out)) (oM Z Z (ZA ?_)))))))
         obtain rfl:=nB hm396
         exact zK ⟨Z,_,Z,⟨U351,Z,f354,f355,f356,f357,f358,f359,f360,f361,f362,f363,f364,f365,f366,le352,hS369⟩⟩
        ·intro c395 hm397
         refine ZM (nF (c395.out)) (sR fL1 Z (oA Z Z (eN (zY (zS (zJ ?_))))))
         have q:=wAV hm397
         obtain ⟨v398,hm399,e400⟩:=q
         obtain rfl:=wBF hm324 hX341 (hb348 v398 e400)
         refine zJ (zS (zJ (zS (zJ ?_))))
         have q:=wAV hm399
         obtain ⟨v401,hm402,e403⟩:=q
         obtain rfl:=wBF hm238 hX285 (hb296 v401 e403)
         refine zJ (zS (zJ ?_))
         have hE:=nB hm402;first | subst r | cases hE
         exact ⟨rfl,_,(ZC rfl),U351,_,(hS369.pick [] _ (by decide) rfl),rfl,rfl⟩
       ·intro c376 hm404
        refine zC Z Z Z (zn Z Z (nF (c376.out)) Z) (zC Z Z Z (zn Z Z (nF (c376.out)) Z) (zC Z Z Z (zn Z Z (nF (c376.out)) Z) (zC Z Z Z (zn Z Z (nF (c376.out)) Z) (zC Z Z Z (zn Z Z (nF (c376.out)) Z) (zC Z Z Z (zn Z Z (nF (c376.out)) Z) (zC Z Z Z (zn Z Z (nF (c376.out)) Z) (zC Z Z Z (zn Z Z (nF (c376.out)) Z) (zC Z Z Z (zn Z Z (nF (c376.out)) Z) (zC Z Z Z (zn Z Z (nF (c376.out)) Z) (oR Z (ze Z (nF (c376.out)) Z) (oR Z (Runs.neB Z Z Z Tryz.runUnderlying4) (eN (ifc hm404 ?_ ?_)))))))))))))
        ·intro c405 hm406
         refine ZN (nC c405.out) (ZQ (zt (zK (rR fL2 Z (oR Z (ZD (zU Z fi350 Z) (congrArg (jV) hi368.out)) (oM Z Z (ZA ?_)))))))
         obtain rfl:=nB hm406
         exact zK ⟨Z,_,Z,⟨U351,Z,f354,f355,f356,f357,f358,f359,f360,f361,f362,f363,f364,f365,f366,le352,hS369⟩⟩
        ·intro c405 hm407
         refine ZM (nF (c405.out)) (sR fL1 Z (oA Z Z (eN (zY (zS (zJ ?_))))))
         have q:=wAV hm407
         obtain ⟨v408,hm409,e410⟩:=q
         obtain rfl:=wBF hm324 hX341 (hb348 v408 e410)
         refine zJ (zS (zJ (zS (zJ ?_))))
         have q:=wAV hm409
         obtain ⟨v411,hm412,e413⟩:=q
         obtain rfl:=wBF hm238 hX285 (hb296 v411 e413)
         refine zJ (zS (zJ ?_))
         have hE:=nB hm412;first | subst r | cases hE
         exact ⟨rfl,_,(ZC rfl),U351,_,(hS369.pick [] _ (by decide) rfl),rfl,rfl⟩
      ·rintro ⟨⟩ σ414 W415 ⟨U418,fi417,f421,f422,f423,f424,f425,f426,f427,f428,f429,f430,f431,f432,f433,le419,hS420⟩ hb416
       have hm434:=wCD hm324 hX341 hb416
       try dsimp only at hm434
       have c435:Hid (¬ ((↑(((↑x322.length:Int):Int) - 0).toNat:Int) < (↑x322.length:Int))):=zG (wBA)
       refine sR fL1 rfl (zZ rfl rfl rfl rfl (fun _=>zV rfl fi417 f433) (eN (zL (cF Z c435 (ZR (zq (zq (ZO (zK (zL (zL (Zb ZW [3,3,3,1,3,1,3,3,1,3,3,3,3,3,3,1,3,3] fL18 (by kernel_rfl) ?_))))))))))))
       have hS436:=hS420.drew
       generalize hw_W437:({ W415 with drawn:=W415.drawn + 1 }:World)=W437 at hS436 ⊢
       refine oM Z f423 (oM Z f426 (bnK hm434 fun _ h438 hm439=>?_))
       obtain ⟨b440,hA441⟩:=hS436.rowSome (j:=7) rfl (by rw [wAF (f:=KL.encI) (sz:=1) (fun _=>rfl) x73];have hz:=wAd h438;omega)
       refine oR Z (zo Z Z hA441 Z zA zB (wAd h438)) ?_
       have hg442:=wBW (xs:=x73) (wAd h438)
       refine ZB rfl rfl rfl rfl (hS436.ldR (j:=7) rfl hA441 rfl rfl zN (wAW (sz:=1) (fun _=>rfl) _ _ 0 _ hg442 (by first | omega | rfl | simp) rfl)) rfl (zZ rfl rfl rfl rfl (fun _=>zO rfl f421 zD rfl ZH) (ZB rfl rfl rfl rfl (hS436.ldB (j:=4) rfl rfl rfl zX (v:=.slice A28 x16.Times.length c29) rfl) rfl (zQ rfl rfl rfl rfl rfl f426 ?_)))
       have h443:=h327.le le419
       have q:=h443.el (wAP h323)
       obtain ⟨b444,off445,vs448,hA446,hC447,hr449⟩:=q
       obtain ⟨pA450,pc451,rfl,h452⟩:=hr449
       replace hC447:Cl U418 b444 (off445 + k283 * 1) [.slice pA450 x322.length pc451]:=hC447
       refine oR Z (zo Z Z hA446 Z zH zF (wAu h323)) (oL Z (hS436.ldC (f:=0) hC447 (v:=.slice pA450 x322.length pc451) Z Z zR Z) (oR Z (zy Z Z zA) (oR Z (Runs.gtr Z Z Z) (oM Z Z (ifc hm439 ?_ ?_)))))
       ·intro c453 hm454
        refine oT Z c453 (oT Z c453 (oT Z c453 (oT Z c453 (oT Z c453 (oR Z (ze Z (ZU c453.out) Z) (eN (ZM Z (sR fL1 Z (oA Z Z (eN (zY (zJ (zS (zJ ?_))))))))))))))
        have q:=wAV hm454
        obtain ⟨v455,hm456,e457⟩:=q
        obtain rfl:=wBF hm238 hX285 (hb296 v455 e457)
        refine zJ (zS (zJ ?_))
        have hE:=nB hm456;first | subst r | cases hE
        exact ⟨rfl,_,(ZC rfl),U418,_,(hS436.pick [] _ (by decide) rfl),rfl,rfl⟩
       ·intro c453 hm458
        refine zQ Z Z Z (wF Z c453) Z f423 (zQ Z Z Z (wF Z c453) Z f426 (rU Z (wF Z c453) (zo Z Z hA441 Z zA zB (wAd h438)) ?_))
        have hg459:=wBW (xs:=x73) (wAd h438)
        refine ZB rfl rfl rfl (zP rfl rfl (ZK c453.out)) (hS436.ldR (j:=7) rfl hA441 rfl rfl zN (wAW (sz:=1) (fun _=>rfl) _ _ 0 _ hg459 (by first | omega | rfl | simp) rfl)) rfl (zZ rfl rfl rfl (zP rfl rfl (ZK c453.out)) (fun _=>zV rfl rfl rfl) (zZ rfl rfl rfl rfl (fun _=>zg rfl (ZK c453.out) rfl) (eN (ifc hm458 ?_ ?_))))
        ·intro c460 hm461
         refine cT Z c460 (sR fL1 Z (oA Z Z (eN (zY (zJ (zS (zJ ?_)))))))
         have q:=wAV hm461
         obtain ⟨v462,hm463,e464⟩:=q
         obtain rfl:=wBF hm238 hX285 (hb296 v462 e464)
         refine zJ (zS (zJ ?_))
         have hE:=nB hm463;first | subst r | cases hE
         exact ⟨rfl,_,(ZC rfl),U418,_,(hS436.pick [] _ (by decide) rfl),rfl,rfl⟩
        ·intro c460 hm465
         refine cF Z c460 (kN (sR fL2 Z (oM Z f429 (oR Z (ZX Z Z) (eN (ifc hm465 ?_ ?_))))))
         ·intro c466 hm467
          refine ZN (nC c466.out) (ZQ (zt (zK (rR fL2 Z (oR Z (ZD (zU Z f432 Z) (congrArg (jV) hi311.out)) (oM Z Z (ZA ?_)))))))
          obtain rfl:=nB hm467
          have h475:=h309.le le419
          exact zK ⟨Z,_,Z,⟨U418,A275,c276,A279,c280,cs282,Z,f421,f422,f423,f424,f425,f430,f431,(le300.trans le419),hS436,h475⟩⟩
         ·intro c466 hm476
          refine ZM (nF (c466.out)) (bnK hm476 fun x482 h483 hm522=>bnK hm522 fun x505 h506 hm523=>Zb ZW [3,1,3,2,0,3,2,3,2,3,3,2,2,0,3,0,3,0] (wLU (.fl 5 (.fl 7 (.fl 9 (.fx 3 (.fx 4 (.fx 6 (.fl 14 (.fx 8 (.fl 10 (.fx 11 (.fx 12 (.fx 13 (.fx 15 (.fl 16 (.fx 17 (.nil) (.stop))) (.stop)) (.stop)) (.stop)) (.stop))) (.stop))) (.fx 8 (.fl 10 (.fx 6 (.fl 14 (.fx 11 (.fx 12 (.fx 13 (.fx 15 (.fl 16 (.fx 17 (.nil) (.stop))) (.stop)) (.stop)) (.stop)) (.stop))) (.fx 11 (.fx 6 (.fl 14 (.fx 12 (.fx 13 (.fx 15 (.fl 16 (.fx 17 (.nil) (.stop))) (.stop)) (.stop)) (.stop))) (.fx 12 (.fx 6 (.fl 14 (.fx 13 (.fx 15 (.fl 16 (.fx 17 (.nil) (.stop))) (.stop)) (.stop))) (.stop)) (.stop))) (.stop)))) (.stop))) (.fx 6 (.fx 4 (.fl 14 (.fx 8 (.fl 10 (.fx 11 (.fx 12 (.fx 13 (.fx 15 (.fl 16 (.fx 17 (.nil) (.stop))) (.stop)) (.stop)) (.stop)) (.stop))) (.stop))) (.fx 8 (.fl 10 (.fx 4 (.fl 14 (.fx 11 (.fx 12 (.fx 13 (.fx 15 (.fl 16 (.fx 17 (.nil) (.stop))) (.stop)) (.stop)) (.stop)) (.stop))) (.fx 11 (.fx 4 (.fl 14 (.fx 12 (.fx 13 (.fx 15 (.fl 16 (.fx 17 (.nil) (.stop))) (.stop)) (.stop)) (.stop))) (.fx 12 (.fx 4 (.fl 14 (.fx 13 (.fx 15 (.fl 16 (.fx 17 (.nil) (.stop))) (.stop)) (.stop))) (.stop)) (.stop))) (.stop)))) (.stop))) (.fx 8 (.fl 10 (.fx 4 (.fx 6 (.fl 14 (.fx 11 (.fx 12 (.fx 13 (.fx 15 (.fl 16 (.fx 17 (.nil) (.stop))) (.stop)) (.stop)) (.stop)) (.stop))) (.fx 11 (.fx 6 (.fl 14 (.fx 12 (.fx 13 (.fx 15 (.fl 16 (.fx 17 (.nil) (.stop))) (.stop)) (.stop)) (.stop))) (.fx 12 (.fx 6 (.fl 14 (.fx 13 (.fx 15 (.fl 16 (.fx 17 (.nil) (.stop))) (.stop)) (.stop))) (.stop)) (.stop))) (.stop))) (.fx 6 (.fx 4 (.fl 14 (.fx 11 (.fx 12 (.fx 13 (.fx 15 (.fl 16 (.fx 17 (.nil) (.stop))) (.stop)) (.stop)) (.stop)) (.stop))) (.fx 11 (.fx 4 (.fl 14 (.fx 12 (.fx 13 (.fx 15 (.fl 16 (.fx 17 (.nil) (.stop))) (.stop)) (.stop)) (.stop))) (.fx 12 (.fx 4 (.fl 14 (.fx 13 (.fx 15 (.fl 16 (.fx 17 (.nil) (.stop))) (.stop)) (.stop))) (.stop)) (.stop))) (.stop))) (.fx 11 (.fx 4 (.fx 6 (.fl 14 (.fx 12 (.fx 13 (.fx 15 (.fl 16 (.fx 17 (.nil) (.stop))) (.stop)) (.stop)) (.stop))) (.fx 12 (.fx 6 (.fl 14 (.fx 13 (.fx 15 (.fl 16 (.fx 17 (.nil) (.stop))) (.stop)) (.stop))) (.stop)) (.stop))) (.fx 6 (.fx 4 (.fl 14 (.fx 12 (.fx 13 (.fx 15 (.fl 16 (.fx 17 (.nil) (.stop))) (.stop)) (.stop)) (.stop))) (.fx 12 (.fx 4 (.fl 14 (.fx 13 (.fx 15 (.fl 16 (.fx 17 (.nil) (.stop))) (.stop)) (.stop))) (.stop)) (.stop))) (.fx 12 (.fx 4 (.fx 6 (.fl 14 (.fx 13 (.fx 15 (.fl 16 (.fx 17 (.nil) (.stop))) (.stop)) (.stop))) (.stop)) (.fx 6 (.fx 4 (.fl 14 (.fx 13 (.fx 15 (.fl 16 (.fx 17 (.nil) (.stop))) (.stop)) (.stop))) (.stop)) (.stop))) (.stop)))) (.stop))))) (.stop)))) (.fx 6 (.fx 3 (.fx 4 (.fl 14 (.fx 8 (.fl 10 (.fx 11 (.fx 12 (.fx 13 (.fx 15 (.fl 16 (.fx 17 (.nil) (.stop))) (.stop)) (.stop)) (.stop)) (.stop))) (.stop))) (.fx 8 (.fl 10 (.fx 4 (.fl 14 (.fx 11 (.fx 12 (.fx 13 (.fx 15 (.fl 16 (.fx 17 (.nil) (.stop))) (.stop)) (.stop)) (.stop)) (.stop))) (.fx 11 (.fx 4 (.fl 14 (.fx 12 (.fx 13 (.fx 15 (.fl 16 (.fx 17 (.nil) (.stop))) (.stop)) (.stop)) (.stop))) (.fx 12 (.fx 4 (.fl 14 (.fx 13 (.fx 15 (.fl 16 (.fx 17 (.nil) (.stop))) (.stop)) (.stop))) (.stop)) (.stop))) (.stop)))) (.stop))) (.fx 8 (.fl 10 (.fx 3 (.fx 4 (.fl 14 (.fx 11 (.fx 12 (.fx 13 (.fx 15 (.fl 16 (.fx 17 (.nil) (.stop))) (.stop)) (.stop)) (.stop)) (.stop))) (.fx 11 (.fx 4 (.fl 14 (.fx 12 (.fx 13 (.fx 15 (.fl 16 (.fx 17 (.nil) (.stop))) (.stop)) (.stop)) (.stop))) (.fx 12 (.fx 4 (.fl 14 (.fx 13 (.fx 15 (.fl 16 (.fx 17 (.nil) (.stop))) (.stop)) (.stop))) (.stop)) (.stop))) (.stop))) (.fx 11 (.fx 3 (.fx 4 (.fl 14 (.fx 12 (.fx 13 (.fx 15 (.fl 16 (.fx 17 (.nil) (.stop))) (.stop)) (.stop)) (.stop))) (.fx 12 (.fx 4 (.fl 14 (.fx 13 (.fx 15 (.fl 16 (.fx 17 (.nil) (.stop))) (.stop)) (.stop))) (.stop)) (.stop))) (.fx 12 (.fx 3 (.fx 4 (.fl 14 (.fx 13 (.fx 15 (.fl 16 (.fx 17 (.nil) (.stop))) (.stop)) (.stop))) (.stop)) (.stop)) (.stop))) (.stop)))) (.stop))) (.fx 8 (.fl 10 (.fx 3 (.fx 4 (.fx 6 (.fl 14 (.fx 11 (.fx 12 (.fx 13 (.fx 15 (.fl 16 (.fx 17 (.nil) (.stop))) (.stop)) (.stop)) (.stop)) (.stop))) (.fx 11 (.fx 6 (.fl 14 (.fx 12 (.fx 13 (.fx 15 (.fl 16 (.fx 17 (.nil) (.stop))) (.stop)) (.stop)) (.stop))) (.fx 12 (.fx 6 (.fl 14 (.fx 13 (.fx 15 (.fl 16 (.fx 17 (.nil) (.stop))) (.stop)) (.stop))) (.stop)) (.stop))) (.stop))) (.fx 6 (.fx 4 (.fl 14 (.fx 11 (.fx 12 (.fx 13 (.fx 15 (.fl 16 (.fx 17 (.nil) (.stop))) (.stop)) (.stop)) (.stop)) (.stop))) (.fx 11 (.fx 4 (.fl 14 (.fx 12 (.fx 13 (.fx 15 (.fl 16 (.fx 17 (.nil) (.stop))) (.stop)) (.stop)) (.stop))) (.fx 12 (.fx 4 (.fl 14 (.fx 13 (.fx 15 (.fl 16 (.fx 17 (.nil) (.stop))) (.stop)) (.stop))) (.stop)) (.stop))) (.stop))) (.fx 11 (.fx 4 (.fx 6 (.fl 14 (.fx 12 (.fx 13 (.fx 15 (.fl 16 (.fx 17 (.nil) (.stop))) (.stop)) (.stop)) (.stop))) (.fx 12 (.fx 6 (.fl 14 (.fx 13 (.fx 15 (.fl 16 (.fx 17 (.nil) (.stop))) (.stop)) (.stop))) (.stop)) (.stop))) (.fx 6 (.fx 4 (.fl 14 (.fx 12 (.fx 13 (.fx 15 (.fl 16 (.fx 17 (.nil) (.stop))) (.stop)) (.stop)) (.stop))) (.fx 12 (.fx 4 (.fl 14 (.fx 13 (.fx 15 (.fl 16 (.fx 17 (.nil) (.stop))) (.stop)) (.stop))) (.stop)) (.stop))) (.fx 12 (.fx 4 (.fx 6 (.fl 14 (.fx 13 (.fx 15 (.fl 16 (.fx 17 (.nil) (.stop))) (.stop)) (.stop))) (.stop)) (.fx 6 (.fx 4 (.fl 14 (.fx 13 (.fx 15 (.fl 16 (.fx 17 (.nil) (.stop))) (.stop)) (.stop))) (.stop)) (.stop))) (.stop)))) (.stop)))) (.fx 6 (.fx 3 (.fx 4 (.fl 14 (.fx 11 (.fx 12 (.fx 13 (.fx 15 (.fl 16 (.fx 17 (.nil) (.stop))) (.stop)) (.stop)) (.stop)) (.stop))) (.fx 11 (.fx 4 (.fl 14 (.fx 12 (.fx 13 (.fx 15 (.fl 16 (.fx 17 (.nil) (.stop))) (.stop)) (.stop)) (.stop))) (.fx 12 (.fx 4 (.fl 14 (.fx 13 (.fx 15 (.fl 16 (.fx 17 (.nil) (.stop))) (.stop)) (.stop))) (.stop)) (.stop))) (.stop))) (.fx 11 (.fx 3 (.fx 4 (.fl 14 (.fx 12 (.fx 13 (.fx 15 (.fl 16 (.fx 17 (.nil) (.stop))) (.stop)) (.stop)) (.stop))) (.fx 12 (.fx 4 (.fl 14 (.fx 13 (.fx 15 (.fl 16 (.fx 17 (.nil) (.stop))) (.stop)) (.stop))) (.stop)) (.stop))) (.fx 12 (.fx 3 (.fx 4 (.fl 14 (.fx 13 (.fx 15 (.fl 16 (.fx 17 (.nil) (.stop))) (.stop)) (.stop))) (.stop)) (.stop)) (.stop))) (.stop))) (.fx 11 (.fx 3 (.fx 4 (.fx 6 (.fl 14 (.fx 12 (.fx 13 (.fx 15 (.fl 16 (.fx 17 (.nil) (.stop))) (.stop)) (.stop)) (.stop))) (.fx 12 (.fx 6 (.fl 14 (.fx 13 (.fx 15 (.fl 16 (.fx 17 (.nil) (.stop))) (.stop)) (.stop))) (.stop)) (.stop))) (.fx 6 (.fx 4 (.fl 14 (.fx 12 (.fx 13 (.fx 15 (.fl 16 (.fx 17 (.nil) (.stop))) (.stop)) (.stop)) (.stop))) (.fx 12 (.fx 4 (.fl 14 (.fx 13 (.fx 15 (.fl 16 (.fx 17 (.nil) (.stop))) (.stop)) (.stop))) (.stop)) (.stop))) (.fx 12 (.fx 4 (.fx 6 (.fl 14 (.fx 13 (.fx 15 (.fl 16 (.fx 17 (.nil) (.stop))) (.stop)) (.stop))) (.stop)) (.fx 6 (.fx 4 (.fl 14 (.fx 13 (.fx 15 (.fl 16 (.fx 17 (.nil) (.stop))) (.stop)) (.stop))) (.stop)) (.stop))) (.stop)))) (.fx 6 (.fx 3 (.fx 4 (.fl 14 (.fx 12 (.fx 13 (.fx 15 (.fl 16 (.fx 17 (.nil) (.stop))) (.stop)) (.stop)) (.stop))) (.fx 12 (.fx 4 (.fl 14 (.fx 13 (.fx 15 (.fl 16 (.fx 17 (.nil) (.stop))) (.stop)) (.stop))) (.stop)) (.stop))) (.fx 12 (.fx 3 (.fx 4 (.fl 14 (.fx 13 (.fx 15 (.fl 16 (.fx 17 (.nil) (.stop))) (.stop)) (.stop))) (.stop)) (.stop)) (.stop))) (.fx 12 (.fx 3 (.fx 4 (.fx 6 (.fl 14 (.fx 13 (.fx 15 (.fl 16 (.fx 17 (.nil) (.stop))) (.stop)) (.stop))) (.stop)) (.fx 6 (.fx 4 (.fl 14 (.fx 13 (.fx 15 (.fl 16 (.fx 17 (.nil) (.stop))) (.stop)) (.stop))) (.stop)) (.stop))) (.fx 6 (.fx 3 (.fx 4 (.fl 14 (.fx 13 (.fx 15 (.fl 16 (.fx 17 (.nil) (.stop))) (.stop)) (.stop))) (.stop)) (.stop)) (.stop))) (.stop)))) (.stop))))) (.stop)))))))) (by kernel_rfl) ?_)
          have hS524:=hS436.drew
          generalize hw_W525:({ W437 with drawn:=W437.drawn + 1 }:World)=W525 at hS524 ⊢
          refine zw (s:=.nil) (M:=fun σ_ w_=>∃ (U_:PHeap) (A860:Option Addr) (c861:Nat) (A862:Option Addr) (c863:Nat) (cs864:List Value) (A865:Option Addr) (c866:Nat) (A868:Option Addr) (c869:Nat) (b870:Nat) (o871:Nat) (A873:Option Addr) (c874:Nat) (A875:Option Addr) (c876:Nat) (cs877:List Value),σ_ 3=.pointer (some ⟨b39,0,none⟩)/\σ_ 4=.slice A67 x57.length c68/\σ_ 6=.slice A83 x73.length c84/\σ_ 8=.map (some b94)/\σ_ 13=.pointer (some ⟨b241,0,none⟩)/\σ_ 14=jV (↑k283:Int)/\σ_ 15=jV x312/\σ_ 135=.slice A26 x16.Bibs.length c27/\σ_ 136=jV (↑x16.Bibs.length:Int)/\σ_ 137=jV (↑k283:Int)/\σ_ 199=.pointer (some ⟨b241,1,none⟩)/\σ_ 201=jV x312/\σ_ 202=.slice A865 ([x312].length) c866/\σ_ 203=.slice A860 x482.length c861/\σ_ 204=.pointer (some ⟨b241,2,none⟩)/\σ_ 206=.pointer (some ⟨b39,2,none⟩)/\σ_ 207=.slice A28 x16.Times.length c29/\σ_ 208=jV (↑k283:Int)/\σ_ 209=.pointer (some ⟨b870,o871,none⟩)/\σ_ 210=.slice A873 x322.length c874/\σ_ 211=.slice A875 ([x322].length) c876/\σ_ 212=.slice A862 x505.length c863/\σ_ 213=.pointer (some ⟨b241,1,none⟩)/\σ_ 214=.pointer (some ⟨b241,2,none⟩)/\PHeap.Le U418 U_/\sW w U U_ [.row A860 c861 3 1 (nA KL.encI x482),.row A862 c863 23 1 cs864,.blk b241 26 [jV x16.Laps,.slice A860 x482.length c861,.slice A862 x505.length c863],.obj b94 (.map e226 c227),.blk b39 26 B4,B0,.row A67 c68 38 4 (nA wAG x57),.row A83 c84 3 1 (nA KL.encI x73),.row A865 c866 3 1 (nA KL.encI [x312]),.row A875 c876 23 1 cs877] w_/\RlL U_ wBP x505 cs864/\Sl U_ 1 A868 c869 x322.length (nA KL.encI x322)/\Cl U_ b870 o871 [.slice A868 x322.length c869]/\Sl U_ 1 A873 c874 x322.length (nA KL.encI x322)/\RlL U_ wBP [x322] cs877) ?_ fun ko878=>?_
          ·rintro σ879 W880 ⟨U881,A860,c861,A862,c863,cs864,A865,c866,A868,c869,b870,o871,A873,c874,A875,c876,cs877,f884,f885,f886,f887,f888,f889,f890,f891,f892,f893,f894,f895,f896,f897,f898,f899,f900,f901,f902,f903,f904,f905,f906,f907,le882,hS883,h908,h909,h910,h911,h912⟩
           refine ZA (zt (zK (rR fL2 Z (oR Z (ZD (zU Z f893 Z) (congrArg (jV) hi311.out)) (oM Z Z (ZA ?_))))))
           obtain rfl:=nB hm523
           exact zK ⟨rfl,_,rfl,⟨U881,A860,c861,A862,c863,cs864,rfl,f884,f885,f886,f887,f888,f891,f892,((le300.trans le419).trans le882),(hS883.pick [0,1,2,3,4,5,6,7] _ (by decide) rfl),h908⟩⟩
          refine zw (s:=.fl 16 (.fx 17 (.nil) (.stop))) (M:=fun σ_ w_=>∃ (U_:PHeap) (A920:Option Addr) (c921:Nat) (A922:Option Addr) (c923:Nat) (A925:Option Addr) (c926:Nat) (b927:Nat) (o928:Nat) (A930:Option Addr) (c931:Nat) (A932:Option Addr) (c933:Nat) (cs934:List Value) (A935:Option Addr) (c936:Nat) (cs937:List Value),σ_ 3=.pointer (some ⟨b39,0,none⟩)/\σ_ 4=.slice A67 x57.length c68/\σ_ 6=.slice A83 x73.length c84/\σ_ 8=.map (some b94)/\σ_ 13=.pointer (some ⟨b241,0,none⟩)/\σ_ 14=jV (↑k283:Int)/\σ_ 15=jV x312/\σ_ 135=.slice A26 x16.Bibs.length c27/\σ_ 136=jV (↑x16.Bibs.length:Int)/\σ_ 137=jV (↑k283:Int)/\σ_ 199=.pointer (some ⟨b241,1,none⟩)/\σ_ 201=jV x312/\σ_ 202=.slice A922 ([x312].length) c923/\σ_ 203=.slice A920 x482.length c921/\σ_ 204=.pointer (some ⟨b241,2,none⟩)/\σ_ 206=.pointer (some ⟨b39,2,none⟩)/\σ_ 207=.slice A28 x16.Times.length c29/\σ_ 208=jV (↑k283:Int)/\σ_ 209=.pointer (some ⟨b927,o928,none⟩)/\σ_ 210=.slice A930 x322.length c931/\σ_ 211=.slice A932 ([x322].length) c933/\σ_ 212=.slice A935 x505.length c936/\σ_ 213=.pointer (some ⟨b241,1,none⟩)/\PHeap.Le U418 U_/\sW w U U_ [.row A920 c921 3 1 (nA KL.encI x482),.blk b241 26 [jV x16.Laps,.slice A920 x482.length c921,.slice A279 l278.length c280],.obj b94 (.map e226 c227),.blk b39 26 B4,B0,.row A67 c68 38 4 (nA wAG x57),.row A83 c84 3 1 (nA KL.encI x73),.row A922 c923 3 1 (nA KL.encI [x312]),.row A932 c933 23 1 cs934,.row A935 c936 23 1 cs937] w_/\Sl U_ 1 A925 c926 x322.length (nA KL.encI x322)/\Cl U_ b927 o928 [.slice A925 x322.length c926]/\Sl U_ 1 A930 c931 x322.length (nA KL.encI x322)/\RlL U_ wBP [x322] cs934/\RlL U_ wBP x505 cs937) ?_ fun ko938=>?_
          ·rintro σ939 W940 ⟨U941,A920,c921,A922,c923,A925,c926,b927,o928,A930,c931,A932,c933,cs934,A935,c936,cs937,f944,f945,f946,f947,f948,f949,f950,f951,f952,f953,f954,f955,f956,f957,f958,f959,f960,f961,f962,f963,f964,f965,f966,le942,hS943,h967,h968,h969,h970,h971⟩
           refine oR Z (zO Z f948 zD Z ZH) (OKS.st (j:=1) (vs:=[.slice A935 x505.length c936]) Z Z Z Z hS943 Z Z f965 Z ZH (zm Z) Z Z Z ?_)
           intro W972 hS973
           have hS974:sW w U U941 [.row A920 c921 3 1 (nA KL.encI x482),.blk b241 26 [jV x16.Laps,.slice A920 x482.length c921,.slice A935 x505.length c936],.obj b94 (.map e226 c227),.blk b39 26 B4,B0,B5,B6,.row A922 c923 3 1 (nA KL.encI [x312]),.row A932 c933 23 1 cs934,.row A935 c936 23 1 cs937] W972:=hS973
           exact ko878 _ _ ⟨U941,A920,c921,A935,c936,cs937,A922,c923,A925,c926,b927,o928,A930,c931,A932,c933,cs934,f944,f945,f946,f947,f948,f949,f950,f951,f952,f953,f954,f955,f956,f957,f958,f959,f960,f961,f962,f963,f964,f965,f966,rfl,le942,(hS974.pick [0,9,1,2,3,4,5,6,7,8] _ (by decide) rfl),h971,h967,h968,h969,h970⟩
          refine zw (s:=.fx 15 (.fl 16 (.fx 17 (.nil) (.stop))) (.stop)) (M:=fun σ_ w_=>∃ (U_:PHeap) (A993:Option Addr) (c994:Nat) (A995:Option Addr) (c996:Nat) (A998:Option Addr) (c999:Nat) (b1000:Nat) (o1001:Nat) (A1003:Option Addr) (c1004:Nat) (A1005:Option Addr) (c1006:Nat) (cs1007:List Value) (A1008:Option Addr) (c1009:Nat) (cs1010:List Value),σ_ 3=.pointer (some ⟨b39,0,none⟩)/\σ_ 4=.slice A67 x57.length c68/\σ_ 6=.slice A83 x73.length c84/\σ_ 8=.map (some b94)/\σ_ 13=.pointer (some ⟨b241,0,none⟩)/\σ_ 14=jV (↑k283:Int)/\σ_ 15=jV x312/\σ_ 135=.slice A26 x16.Bibs.length c27/\σ_ 136=jV (↑x16.Bibs.length:Int)/\σ_ 137=jV (↑k283:Int)/\σ_ 199=.pointer (some ⟨b241,1,none⟩)/\σ_ 201=jV x312/\σ_ 202=.slice A993 ([x312].length) c994/\σ_ 203=.slice A995 x482.length c996/\σ_ 204=.pointer (some ⟨b241,2,none⟩)/\σ_ 206=.pointer (some ⟨b39,2,none⟩)/\σ_ 207=.slice A28 x16.Times.length c29/\σ_ 208=jV (↑k283:Int)/\σ_ 209=.pointer (some ⟨b1000,o1001,none⟩)/\σ_ 210=.slice A1003 x322.length c1004/\σ_ 211=.slice A1005 ([x322].length) c1006/\σ_ 212=.slice A1008 x505.length c1009/\σ_ 213=.pointer (some ⟨b241,1,none⟩)/\PHeap.Le U418 U_/\sW w U U_ [B9,.obj b94 (.map e226 c227),.blk b39 26 B4,B0,.row A67 c68 38 4 (nA wAG x57),.row A83 c84 3 1 (nA KL.encI x73),.row A993 c994 3 1 (nA KL.encI [x312]),.row A995 c996 3 1 (nA KL.encI x482),.row A1005 c1006 23 1 cs1007,.row A1008 c1009 23 1 cs1010] w_/\Sl U_ 1 A998 c999 x322.length (nA KL.encI x322)/\Cl U_ b1000 o1001 [.slice A998 x322.length c999]/\Sl U_ 1 A1003 c1004 x322.length (nA KL.encI x322)/\RlL U_ wBP [x322] cs1007/\RlL U_ wBP x505 cs1010) ?_ fun ko1011=>?_
          ·rintro σ1012 W1013 ⟨U1014,A993,c994,A995,c996,A998,c999,b1000,o1001,A1003,c1004,A1005,c1006,cs1007,A1008,c1009,cs1010,f1017,f1018,f1019,f1020,f1021,f1022,f1023,f1024,f1025,f1026,f1027,f1028,f1029,f1030,f1031,f1032,f1033,f1034,f1035,f1036,f1037,f1038,f1039,le1015,hS1016,h1040,h1041,h1042,h1043,h1044⟩
           refine OKS.st (j:=0) (vs:=[.slice A995 x482.length c996]) Z Z Z Z hS1016 Z f1039 f1030 Z zF (zm Z) Z Z Z ?_
           intro W1045 hS1046
           have hS1047:sW w U U1014 [.blk b241 26 [jV x16.Laps,.slice A995 x482.length c996,.slice A279 l278.length c280],.obj b94 (.map e226 c227),.blk b39 26 B4,B0,B5,B6,.row A993 c994 3 1 (nA KL.encI [x312]),.row A995 c996 3 1 (nA KL.encI x482),.row A1005 c1006 23 1 cs1007,.row A1008 c1009 23 1 cs1010] W1045:=hS1046
           exact ko938 _ _ ⟨U1014,A995,c996,A993,c994,A998,c999,b1000,o1001,A1003,c1004,A1005,c1006,cs1007,A1008,c1009,cs1010,f1017,f1018,f1019,f1020,f1021,f1022,f1023,f1024,f1025,f1026,f1027,f1028,f1029,f1030,f1031,f1032,f1033,f1034,f1035,f1036,f1037,f1038,f1039,le1015,(hS1047.pick [7,0,1,2,3,4,5,6,8,9] _ (by decide) rfl),h1040,h1041,h1042,h1043,h1044⟩
          refine zw (s:=.fx 13 (.fx 15 (.fl 16 (.fx 17 (.nil) (.stop))) (.stop)) (.stop)) (M:=fun σ_ w_=>∃ (U_:PHeap) (A1066:Option Addr) (c1067:Nat) (A1068:Option Addr) (c1069:Nat) (A1071:Option Addr) (c1072:Nat) (b1073:Nat) (o1074:Nat) (A1076:Option Addr) (c1077:Nat) (A1078:Option Addr) (c1079:Nat) (cs1080:List Value),σ_ 3=.pointer (some ⟨b39,0,none⟩)/\σ_ 4=.slice A67 x57.length c68/\σ_ 6=.slice A83 x73.length c84/\σ_ 8=.map (some b94)/\σ_ 13=.pointer (some ⟨b241,0,none⟩)/\σ_ 14=jV (↑k283:Int)/\σ_ 15=jV x312/\σ_ 135=.slice A26 x16.Bibs.length c27/\σ_ 136=jV (↑x16.Bibs.length:Int)/\σ_ 137=jV (↑k283:Int)/\σ_ 199=.pointer (some ⟨b241,1,none⟩)/\σ_ 201=jV x312/\σ_ 202=.slice A1066 ([x312].length) c1067/\σ_ 203=.slice A1068 x482.length c1069/\σ_ 204=.pointer (some ⟨b241,2,none⟩)/\σ_ 205=.slice A279 l278.length c280/\σ_ 206=.pointer (some ⟨b39,2,none⟩)/\σ_ 207=.slice A28 x16.Times.length c29/\σ_ 208=jV (↑k283:Int)/\σ_ 209=.pointer (some ⟨b1073,o1074,none⟩)/\σ_ 210=.slice A1076 x322.length c1077/\σ_ 211=.slice A1078 ([x322].length) c1079/\σ_ 213=.pointer (some ⟨b241,1,none⟩)/\PHeap.Le U418 U_/\sW w U U_ [B10,B9,.obj b94 (.map e226 c227),.blk b39 26 B4,B0,.row A67 c68 38 4 (nA wAG x57),.row A83 c84 3 1 (nA KL.encI x73),.row A1066 c1067 3 1 (nA KL.encI [x312]),.row A1068 c1069 3 1 (nA KL.encI x482),.row A1078 c1079 23 1 cs1080] w_/\Sl U_ 1 A1071 c1072 x322.length (nA KL.encI x322)/\Cl U_ b1073 o1074 [.slice A1071 x322.length c1072]/\Sl U_ 1 A1076 c1077 x322.length (nA KL.encI x322)/\RlL U_ wBP [x322] cs1080) ?_ fun ko1081=>?_
          ·rintro σ1082 W1083 ⟨U1084,A1066,c1067,A1068,c1069,A1071,c1072,b1073,o1074,A1076,c1077,A1078,c1079,cs1080,f1087,f1088,f1089,f1090,f1091,f1092,f1093,f1094,f1095,f1096,f1097,f1098,f1099,f1100,f1101,f1102,f1103,f1104,f1105,f1106,f1107,f1108,f1109,le1085,hS1086,h1110,h1111,h1112,h1113⟩
           have h1120:=h309.le le419
           have h1121:=h1120.le le1085
           refine OKS.appendR (R:=wBP) (j:=0) (xs:=l278) (ys:=[x322]) (zs:=x505) rfl rfl rfl rfl rfl Tryz.underlying24 wIa rfl rfl rfl rfl rfl rfl rfl hS1086 rfl f1102 f1108 h1121 h1113 (hS1086.srcR (j:=9) rfl (by decide) (RlL.len h1113)) h506 rfl ?_
           intro A1114 c1115 cs1116 W1117 hS1118 hr1119
           have hS1122:sW w U U1084 [.row A1114 c1115 23 1 cs1116,B9,.obj b94 (.map e226 c227),.blk b39 26 B4,B0,B5,B6,.row A1066 c1067 3 1 (nA KL.encI [x312]),.row A1068 c1069 3 1 (nA KL.encI x482),.row A1078 c1079 23 1 cs1080] W1117:=hS1118
           exact ko1011 _ _ ⟨U1084,A1066,c1067,A1068,c1069,A1071,c1072,b1073,o1074,A1076,c1077,A1078,c1079,cs1080,A1114,c1115,cs1116,f1087,f1088,f1089,f1090,f1091,f1092,f1093,f1094,f1095,f1096,f1097,f1098,f1099,f1100,f1101,f1103,f1104,f1105,f1106,f1107,f1108,rfl,f1109,le1085,(hS1122.pick [1,2,3,4,5,6,7,8,9,0] _ (by decide) rfl),h1110,h1111,h1112,h1113,hr1119⟩
          refine zw (s:=.fl 14 (.fx 13 (.fx 15 (.fl 16 (.fx 17 (.nil) (.stop))) (.stop)) (.stop))) (M:=fun σ_ w_=>∃ (U_:PHeap) (A1141:Option Addr) (c1142:Nat) (A1143:Option Addr) (c1144:Nat) (A1146:Option Addr) (c1147:Nat) (b1148:Nat) (o1149:Nat) (A1151:Option Addr) (c1152:Nat) (A1153:Option Addr) (c1154:Nat) (cs1155:List Value),σ_ 3=.pointer (some ⟨b39,0,none⟩)/\σ_ 4=.slice A67 x57.length c68/\σ_ 6=.slice A83 x73.length c84/\σ_ 8=.map (some b94)/\σ_ 13=.pointer (some ⟨b241,0,none⟩)/\σ_ 14=jV (↑k283:Int)/\σ_ 15=jV x312/\σ_ 135=.slice A26 x16.Bibs.length c27/\σ_ 136=jV (↑x16.Bibs.length:Int)/\σ_ 137=jV (↑k283:Int)/\σ_ 199=.pointer (some ⟨b241,1,none⟩)/\σ_ 201=jV x312/\σ_ 202=.slice A1141 ([x312].length) c1142/\σ_ 203=.slice A1143 x482.length c1144/\σ_ 204=.pointer (some ⟨b241,2,none⟩)/\σ_ 205=.slice A279 l278.length c280/\σ_ 206=.pointer (some ⟨b39,2,none⟩)/\σ_ 207=.slice A28 x16.Times.length c29/\σ_ 208=jV (↑k283:Int)/\σ_ 209=.pointer (some ⟨b1148,o1149,none⟩)/\σ_ 210=.slice A1151 x322.length c1152/\σ_ 211=.slice A1153 ([x322].length) c1154/\PHeap.Le U418 U_/\sW w U U_ [B10,B9,.obj b94 (.map e226 c227),.blk b39 26 B4,B0,.row A67 c68 38 4 (nA wAG x57),.row A83 c84 3 1 (nA KL.encI x73),.row A1141 c1142 3 1 (nA KL.encI [x312]),.row A1143 c1144 3 1 (nA KL.encI x482),.row A1153 c1154 23 1 cs1155] w_/\Sl U_ 1 A1146 c1147 x322.length (nA KL.encI x322)/\Cl U_ b1148 o1149 [.slice A1146 x322.length c1147]/\Sl U_ 1 A1151 c1152 x322.length (nA KL.encI x322)/\RlL U_ wBP [x322] cs1155) ?_ fun ko1156=>?_
          ·rintro σ1157 W1158 ⟨U1159,A1141,c1142,A1143,c1144,A1146,c1147,b1148,o1149,A1151,c1152,A1153,c1154,cs1155,f1162,f1163,f1164,f1165,f1166,f1167,f1168,f1169,f1170,f1171,f1172,f1173,f1174,f1175,f1176,f1177,f1178,f1179,f1180,f1181,f1182,f1183,le1160,hS1161,h1184,h1185,h1186,h1187⟩
           refine oR Z (zO Z f1166 zD Z zF) ?_
           have h1194:=h309.le le419
           have h1195:=h1194.le le1160
           refine OKS.appendR (R:=wBP) (j:=0) (xs:=l278) (ys:=[x322]) (zs:=x505) rfl rfl rfl rfl rfl Tryz.underlying24 wIa rfl rfl rfl rfl rfl rfl rfl hS1161 rfl f1177 f1183 h1195 h1187 (hS1161.srcR (j:=9) rfl (by decide) (RlL.len h1187)) h506 rfl ?_
           intro A1188 c1189 cs1190 W1191 hS1192 hr1193
           have hS1196:sW w U U1159 [.row A1188 c1189 23 1 cs1190,B9,.obj b94 (.map e226 c227),.blk b39 26 B4,B0,B5,B6,.row A1141 c1142 3 1 (nA KL.encI [x312]),.row A1143 c1144 3 1 (nA KL.encI x482),.row A1153 c1154 23 1 cs1155] W1191:=hS1192
           exact ko1011 _ _ ⟨U1159,A1141,c1142,A1143,c1144,A1146,c1147,b1148,o1149,A1151,c1152,A1153,c1154,cs1155,A1188,c1189,cs1190,f1162,f1163,f1164,f1165,f1166,f1167,f1168,f1169,f1170,f1171,f1172,f1173,f1174,f1175,f1176,f1178,f1179,f1180,f1181,f1182,f1183,rfl,rfl,le1160,(hS1196.pick [1,2,3,4,5,6,7,8,9,0] _ (by decide) rfl),h1184,h1185,h1186,h1187,hr1193⟩
          refine zw (s:=.fx 12 (.fx 13 (.fx 15 (.fl 16 (.fx 17 (.nil) (.stop))) (.stop)) (.stop)) (.stop)) (M:=fun σ_ w_=>∃ (U_:PHeap) (A1215:Option Addr) (c1216:Nat) (A1217:Option Addr) (c1218:Nat) (A1220:Option Addr) (c1221:Nat) (b1222:Nat) (o1223:Nat) (A1225:Option Addr) (c1226:Nat),σ_ 3=.pointer (some ⟨b39,0,none⟩)/\σ_ 4=.slice A67 x57.length c68/\σ_ 6=.slice A83 x73.length c84/\σ_ 8=.map (some b94)/\σ_ 13=.pointer (some ⟨b241,0,none⟩)/\σ_ 14=jV (↑k283:Int)/\σ_ 15=jV x312/\σ_ 135=.slice A26 x16.Bibs.length c27/\σ_ 136=jV (↑x16.Bibs.length:Int)/\σ_ 137=jV (↑k283:Int)/\σ_ 199=.pointer (some ⟨b241,1,none⟩)/\σ_ 201=jV x312/\σ_ 202=.slice A1215 ([x312].length) c1216/\σ_ 203=.slice A1217 x482.length c1218/\σ_ 204=.pointer (some ⟨b241,2,none⟩)/\σ_ 205=.slice A279 l278.length c280/\σ_ 206=.pointer (some ⟨b39,2,none⟩)/\σ_ 207=.slice A28 x16.Times.length c29/\σ_ 208=jV (↑k283:Int)/\σ_ 209=.pointer (some ⟨b1222,o1223,none⟩)/\σ_ 210=.slice A1225 x322.length c1226/\σ_ 213=.pointer (some ⟨b241,1,none⟩)/\PHeap.Le U418 U_/\sW w U U_ [B10,B9,.obj b94 (.map e226 c227),.blk b39 26 B4,B0,B5,B6,.row A1215 c1216 3 1 (nA KL.encI [x312]),.row A1217 c1218 3 1 (nA KL.encI x482)] w_/\Sl U_ 1 A1220 c1221 x322.length (nA KL.encI x322)/\Cl U_ b1222 o1223 [.slice A1220 x322.length c1221]/\Sl U_ 1 A1225 c1226 x322.length (nA KL.encI x322)) ?_ fun ko1227=>?_
          ·rintro σ1228 W1229 ⟨U1230,A1215,c1216,A1217,c1218,A1220,c1221,b1222,o1223,A1225,c1226,f1233,f1234,f1235,f1236,f1237,f1238,f1239,f1240,f1241,f1242,f1243,f1244,f1245,f1246,f1247,f1248,f1249,f1250,f1251,f1252,f1253,f1254,le1231,hS1232,h1255,h1256,h1257⟩
           let B12:List Value:=[.slice A1225 x322.length c1226]
           refine zW (pv:=[(0,.slice A1225 x322.length c1226)]) (zs:=[.slice none 0 0]) (cs:=B12) Z Z Z Z Z (wAL f1253 wAT) zH zF ZJ Z Z Z Z Z hS1232 ?_
           intro W1258 b1259 hS1260
           have hr1262:RlL U1230 wBP [x322] B12:=(RlL.cons (R:=wBP) (x:=x322) (vs:=B12) ⟨A1225,c1226,rfl,h1257⟩ RlL.nil)
           have hS1263:sW w U U1230 [.row (some ⟨b1259,0,none⟩) 1 23 1 B12,B10,B9,.obj b94 (.map e226 c227),.blk b39 26 B4,B0,B5,B6,.row A1215 c1216 3 1 (nA KL.encI [x312]),.row A1217 c1218 3 1 (nA KL.encI x482)] W1258:=hS1260
           exact ko1081 _ _ ⟨U1230,A1215,c1216,A1217,c1218,A1220,c1221,b1222,o1223,A1225,c1226,(some ⟨b1259,0,none⟩),1,B12,f1233,f1234,f1235,f1236,f1237,f1238,f1239,f1240,f1241,f1242,f1243,f1244,f1245,f1246,f1247,f1248,f1249,f1250,f1251,f1252,f1253,rfl,f1254,le1231,(hS1263.pick [1,2,3,4,5,6,7,8,9,0] _ (by decide) rfl),h1255,h1256,h1257,hr1262⟩
          refine zw (s:=.fx 4 (.fl 14 (.fx 13 (.fx 15 (.fl 16 (.fx 17 (.nil) (.stop))) (.stop)) (.stop))) (.stop)) (M:=fun σ_ w_=>∃ (U_:PHeap) (A1279:Option Addr) (c1280:Nat) (A1282:Option Addr) (c1283:Nat) (b1284:Nat) (o1285:Nat) (A1287:Option Addr) (c1288:Nat) (A1289:Option Addr) (c1290:Nat) (cs1291:List Value),σ_ 3=.pointer (some ⟨b39,0,none⟩)/\σ_ 4=.slice A67 x57.length c68/\σ_ 6=.slice A83 x73.length c84/\σ_ 8=.map (some b94)/\σ_ 13=.pointer (some ⟨b241,0,none⟩)/\σ_ 14=jV (↑k283:Int)/\σ_ 15=jV x312/\σ_ 135=.slice A26 x16.Bibs.length c27/\σ_ 136=jV (↑x16.Bibs.length:Int)/\σ_ 137=jV (↑k283:Int)/\σ_ 199=.pointer (some ⟨b241,1,none⟩)/\σ_ 200=.slice A275 l274.length c276/\σ_ 201=jV x312/\σ_ 202=.slice A1279 ([x312].length) c1280/\σ_ 204=.pointer (some ⟨b241,2,none⟩)/\σ_ 205=.slice A279 l278.length c280/\σ_ 206=.pointer (some ⟨b39,2,none⟩)/\σ_ 207=.slice A28 x16.Times.length c29/\σ_ 208=jV (↑k283:Int)/\σ_ 209=.pointer (some ⟨b1284,o1285,none⟩)/\σ_ 210=.slice A1287 x322.length c1288/\σ_ 211=.slice A1289 ([x322].length) c1290/\PHeap.Le U418 U_/\sW w U U_ [.row A275 c276 3 1 (nA KL.encI l274),B10,B9,.obj b94 (.map e226 c227),.blk b39 26 B4,B0,.row A67 c68 38 4 (nA wAG x57),.row A83 c84 3 1 (nA KL.encI x73),.row A1279 c1280 3 1 (nA KL.encI [x312]),.row A1289 c1290 23 1 cs1291] w_/\Sl U_ 1 A1282 c1283 x322.length (nA KL.encI x322)/\Cl U_ b1284 o1285 [.slice A1282 x322.length c1283]/\Sl U_ 1 A1287 c1288 x322.length (nA KL.encI x322)/\RlL U_ wBP [x322] cs1291) ?_ fun ko1292=>?_
          ·rintro σ1293 W1294 ⟨U1295,A1279,c1280,A1282,c1283,b1284,o1285,A1287,c1288,A1289,c1290,cs1291,f1298,f1299,f1300,f1301,f1302,f1303,f1304,f1305,f1306,f1307,f1308,f1309,f1310,f1311,f1312,f1313,f1314,f1315,f1316,f1317,f1318,f1319,le1296,hS1297,h1320,h1321,h1322,h1323⟩
           refine ZS (j:=0) (enc:=KL.encI) (xs:=l274) (ys:=[x312]) (zs:=x482) rfl rfl rfl rfl rfl zz wCP rfl rfl rfl rfl rfl rfl hS1297 rfl f1309 f1311 (hS1297.srcR (j:=8) rfl (by decide) (wAF (f:=KL.encI) (sz:=1) (fun _=>rfl) [x312])) (fun _=>rfl) (fun _=>rfl) h483 rfl ?_
           intro A1324 c1325 W1326 hS1327
           have hS1328:sW w U U1295 [.row A1324 c1325 3 1 (nA KL.encI x482),B10,B9,.obj b94 (.map e226 c227),.blk b39 26 B4,B0,B5,B6,.row A1279 c1280 3 1 (nA KL.encI [x312]),.row A1289 c1290 23 1 cs1291] W1326:=hS1327
           exact ko1156 _ _ ⟨U1295,A1279,c1280,A1324,c1325,A1282,c1283,b1284,o1285,A1287,c1288,A1289,c1290,cs1291,f1298,f1299,f1300,f1301,f1302,f1303,f1304,f1305,f1306,f1307,f1308,f1310,f1311,rfl,f1312,f1313,f1314,f1315,f1316,f1317,f1318,f1319,le1296,(hS1328.pick [1,2,3,4,5,6,7,8,0,9] _ (by decide) rfl),h1320,h1321,h1322,h1323⟩
          refine zw (s:=.fx 6 (.fl 14 (.fx 13 (.fx 15 (.fl 16 (.fx 17 (.nil) (.stop))) (.stop)) (.stop))) (.stop)) (M:=fun σ_ w_=>∃ (U_:PHeap) (A1344:Option Addr) (c1345:Nat) (A1346:Option Addr) (c1347:Nat) (A1349:Option Addr) (c1350:Nat) (b1351:Nat) (o1352:Nat) (A1354:Option Addr) (c1355:Nat) (A1356:Option Addr) (c1357:Nat) (cs1358:List Value),σ_ 3=.pointer (some ⟨b39,0,none⟩)/\σ_ 4=.slice A67 x57.length c68/\σ_ 6=.slice A83 x73.length c84/\σ_ 8=.map (some b94)/\σ_ 13=.pointer (some ⟨b241,0,none⟩)/\σ_ 14=jV (↑k283:Int)/\σ_ 15=jV x312/\σ_ 135=.slice A26 x16.Bibs.length c27/\σ_ 136=jV (↑x16.Bibs.length:Int)/\σ_ 137=jV (↑k283:Int)/\σ_ 199=.pointer (some ⟨b241,1,none⟩)/\σ_ 201=jV x312/\σ_ 202=.slice A1344 ([x312].length) c1345/\σ_ 203=.slice A1346 x482.length c1347/\σ_ 204=.pointer (some ⟨b241,2,none⟩)/\σ_ 206=.pointer (some ⟨b39,2,none⟩)/\σ_ 207=.slice A28 x16.Times.length c29/\σ_ 208=jV (↑k283:Int)/\σ_ 209=.pointer (some ⟨b1351,o1352,none⟩)/\σ_ 210=.slice A1354 x322.length c1355/\σ_ 211=.slice A1356 ([x322].length) c1357/\PHeap.Le U418 U_/\sW w U U_ [B10,B9,.obj b94 (.map e226 c227),.blk b39 26 B4,B0,.row A67 c68 38 4 (nA wAG x57),.row A83 c84 3 1 (nA KL.encI x73),.row A1344 c1345 3 1 (nA KL.encI [x312]),.row A1346 c1347 3 1 (nA KL.encI x482),.row A1356 c1357 23 1 cs1358] w_/\Sl U_ 1 A1349 c1350 x322.length (nA KL.encI x322)/\Cl U_ b1351 o1352 [.slice A1349 x322.length c1350]/\Sl U_ 1 A1354 c1355 x322.length (nA KL.encI x322)/\RlL U_ wBP [x322] cs1358) ?_ fun ko1359=>?_
          ·rintro σ1360 W1361 ⟨U1362,A1344,c1345,A1346,c1347,A1349,c1350,b1351,o1352,A1354,c1355,A1356,c1357,cs1358,f1365,f1366,f1367,f1368,f1369,f1370,f1371,f1372,f1373,f1374,f1375,f1376,f1377,f1378,f1379,f1380,f1381,f1382,f1383,f1384,f1385,le1363,hS1364,h1386,h1387,h1388,h1389⟩
           exact ZE Z Z Z Z (hS1364.ldB (j:=1) Z Z f1379 zX (v:=.slice A279 l278.length c280) Z) (ko1156 _ _ ⟨U1362,A1344,c1345,A1346,c1347,A1349,c1350,b1351,o1352,A1354,c1355,A1356,c1357,cs1358,f1365,f1366,f1367,f1368,f1369,f1370,f1371,f1372,f1373,f1374,f1375,f1376,f1377,f1378,f1379,Z,f1380,f1381,f1382,f1383,f1384,f1385,le1363,hS1364,h1386,h1387,h1388,h1389⟩)
          refine zw (s:=.fl 14 (.fx 12 (.fx 13 (.fx 15 (.fl 16 (.fx 17 (.nil) (.stop))) (.stop)) (.stop)) (.stop))) (M:=fun σ_ w_=>∃ (U_:PHeap) (A1405:Option Addr) (c1406:Nat) (A1407:Option Addr) (c1408:Nat) (A1410:Option Addr) (c1411:Nat) (b1412:Nat) (o1413:Nat) (A1415:Option Addr) (c1416:Nat),σ_ 3=.pointer (some ⟨b39,0,none⟩)/\σ_ 4=.slice A67 x57.length c68/\σ_ 6=.slice A83 x73.length c84/\σ_ 8=.map (some b94)/\σ_ 13=.pointer (some ⟨b241,0,none⟩)/\σ_ 14=jV (↑k283:Int)/\σ_ 15=jV x312/\σ_ 135=.slice A26 x16.Bibs.length c27/\σ_ 136=jV (↑x16.Bibs.length:Int)/\σ_ 137=jV (↑k283:Int)/\σ_ 199=.pointer (some ⟨b241,1,none⟩)/\σ_ 201=jV x312/\σ_ 202=.slice A1405 ([x312].length) c1406/\σ_ 203=.slice A1407 x482.length c1408/\σ_ 204=.pointer (some ⟨b241,2,none⟩)/\σ_ 205=.slice A279 l278.length c280/\σ_ 206=.pointer (some ⟨b39,2,none⟩)/\σ_ 207=.slice A28 x16.Times.length c29/\σ_ 208=jV (↑k283:Int)/\σ_ 209=.pointer (some ⟨b1412,o1413,none⟩)/\σ_ 210=.slice A1415 x322.length c1416/\PHeap.Le U418 U_/\sW w U U_ [B10,B9,.obj b94 (.map e226 c227),.blk b39 26 B4,B0,B5,B6,.row A1405 c1406 3 1 (nA KL.encI [x312]),.row A1407 c1408 3 1 (nA KL.encI x482)] w_/\Sl U_ 1 A1410 c1411 x322.length (nA KL.encI x322)/\Cl U_ b1412 o1413 [.slice A1410 x322.length c1411]/\Sl U_ 1 A1415 c1416 x322.length (nA KL.encI x322)) ?_ fun ko1417=>?_
          ·rintro σ1418 W1419 ⟨U1420,A1405,c1406,A1407,c1408,A1410,c1411,b1412,o1413,A1415,c1416,f1423,f1424,f1425,f1426,f1427,f1428,f1429,f1430,f1431,f1432,f1433,f1434,f1435,f1436,f1437,f1438,f1439,f1440,f1441,f1442,f1443,le1421,hS1422,h1444,h1445,h1446⟩
           refine oR Z (zO Z f1427 zD Z zF) ?_
           let B13:List Value:=[.slice A1415 x322.length c1416]
           refine zW (pv:=[(0,.slice A1415 x322.length c1416)]) (zs:=[.slice none 0 0]) (cs:=B13) Z Z Z Z Z (wAL f1443 wAT) zH zF ZJ Z Z Z Z Z hS1422 ?_
           intro W1447 b1448 hS1449
           have hr1451:RlL U1420 wBP [x322] B13:=(RlL.cons (R:=wBP) (x:=x322) (vs:=B13) ⟨A1415,c1416,rfl,h1446⟩ RlL.nil)
           have hS1452:sW w U U1420 [.row (some ⟨b1448,0,none⟩) 1 23 1 B13,B10,B9,.obj b94 (.map e226 c227),.blk b39 26 B4,B0,B5,B6,.row A1405 c1406 3 1 (nA KL.encI [x312]),.row A1407 c1408 3 1 (nA KL.encI x482)] W1447:=hS1449
           exact ko1081 _ _ ⟨U1420,A1405,c1406,A1407,c1408,A1410,c1411,b1412,o1413,A1415,c1416,(some ⟨b1448,0,none⟩),1,B13,f1423,f1424,f1425,f1426,f1427,f1428,f1429,f1430,f1431,f1432,f1433,f1434,f1435,f1436,f1437,f1438,f1439,f1440,f1441,f1442,f1443,rfl,rfl,le1421,(hS1452.pick [1,2,3,4,5,6,7,8,9,0] _ (by decide) rfl),h1444,h1445,h1446,hr1451⟩
          refine zw (s:=.fx 3 (.fx 4 (.fl 14 (.fx 13 (.fx 15 (.fl 16 (.fx 17 (.nil) (.stop))) (.stop)) (.stop))) (.stop)) (.stop)) (M:=fun σ_ w_=>∃ (U_:PHeap) (A1469:Option Addr) (c1470:Nat) (b1471:Nat) (o1472:Nat) (A1474:Option Addr) (c1475:Nat) (A1476:Option Addr) (c1477:Nat) (cs1478:List Value),σ_ 3=.pointer (some ⟨b39,0,none⟩)/\σ_ 4=.slice A67 x57.length c68/\σ_ 6=.slice A83 x73.length c84/\σ_ 8=.map (some b94)/\σ_ 13=.pointer (some ⟨b241,0,none⟩)/\σ_ 14=jV (↑k283:Int)/\σ_ 15=jV x312/\σ_ 135=.slice A26 x16.Bibs.length c27/\σ_ 136=jV (↑x16.Bibs.length:Int)/\σ_ 137=jV (↑k283:Int)/\σ_ 199=.pointer (some ⟨b241,1,none⟩)/\σ_ 200=.slice A275 l274.length c276/\σ_ 201=jV x312/\σ_ 204=.pointer (some ⟨b241,2,none⟩)/\σ_ 205=.slice A279 l278.length c280/\σ_ 206=.pointer (some ⟨b39,2,none⟩)/\σ_ 207=.slice A28 x16.Times.length c29/\σ_ 208=jV (↑k283:Int)/\σ_ 209=.pointer (some ⟨b1471,o1472,none⟩)/\σ_ 210=.slice A1474 x322.length c1475/\σ_ 211=.slice A1476 ([x322].length) c1477/\PHeap.Le U418 U_/\sW w U U_ [.row A275 c276 3 1 (nA KL.encI l274),B10,B9,.obj b94 (.map e226 c227),.blk b39 26 B4,B0,.row A67 c68 38 4 (nA wAG x57),.row A83 c84 3 1 (nA KL.encI x73),.row A1476 c1477 23 1 cs1478] w_/\Sl U_ 1 A1469 c1470 x322.length (nA KL.encI x322)/\Cl U_ b1471 o1472 [.slice A1469 x322.length c1470]/\Sl U_ 1 A1474 c1475 x322.length (nA KL.encI x322)/\RlL U_ wBP [x322] cs1478) ?_ fun ko1479=>?_
          ·rintro σ1480 W1481 ⟨U1482,A1469,c1470,b1471,o1472,A1474,c1475,A1476,c1477,cs1478,f1485,f1486,f1487,f1488,f1489,f1490,f1491,f1492,f1493,f1494,f1495,f1496,f1497,f1498,f1499,f1500,f1501,f1502,f1503,f1504,f1505,le1483,hS1484,h1506,h1507,h1508,h1509⟩
           refine zW (pv:=[(0,jV x312)]) (zs:=[jV 0]) (cs:=[jV x312]) Z Z Z Z Z (wAL f1497 wAT) zA zB zu Z Z Z Z Z hS1484 ?_
           intro W1510 b1511 hS1512
           have hS1514:sW w U U1482 [.row (some ⟨b1511,0,none⟩) 1 3 1 (nA KL.encI [x312]),B11,B10,B9,.obj b94 (.map e226 c227),.blk b39 26 B4,B0,B5,B6,.row A1476 c1477 23 1 cs1478] W1510:=hS1512
           exact ko1292 _ _ ⟨U1482,(some ⟨b1511,0,none⟩),1,A1469,c1470,b1471,o1472,A1474,c1475,A1476,c1477,cs1478,f1485,f1486,f1487,f1488,f1489,f1490,f1491,f1492,f1493,f1494,f1495,f1496,f1497,rfl,f1498,f1499,f1500,f1501,f1502,f1503,f1504,f1505,le1483,(hS1514.pick [1,2,3,4,5,6,7,8,0,9] _ (by decide) rfl),h1506,h1507,h1508,h1509⟩
          refine zw (s:=.fx 4 (.fx 6 (.fl 14 (.fx 13 (.fx 15 (.fl 16 (.fx 17 (.nil) (.stop))) (.stop)) (.stop))) (.stop)) (.fx 6 (.fx 4 (.fl 14 (.fx 13 (.fx 15 (.fl 16 (.fx 17 (.nil) (.stop))) (.stop)) (.stop))) (.stop)) (.stop))) (M:=fun σ_ w_=>∃ (U_:PHeap) (A1528:Option Addr) (c1529:Nat) (A1531:Option Addr) (c1532:Nat) (b1533:Nat) (o1534:Nat) (A1536:Option Addr) (c1537:Nat) (A1538:Option Addr) (c1539:Nat) (cs1540:List Value),σ_ 3=.pointer (some ⟨b39,0,none⟩)/\σ_ 4=.slice A67 x57.length c68/\σ_ 6=.slice A83 x73.length c84/\σ_ 8=.map (some b94)/\σ_ 13=.pointer (some ⟨b241,0,none⟩)/\σ_ 14=jV (↑k283:Int)/\σ_ 15=jV x312/\σ_ 135=.slice A26 x16.Bibs.length c27/\σ_ 136=jV (↑x16.Bibs.length:Int)/\σ_ 137=jV (↑k283:Int)/\σ_ 199=.pointer (some ⟨b241,1,none⟩)/\σ_ 200=.slice A275 l274.length c276/\σ_ 201=jV x312/\σ_ 202=.slice A1528 ([x312].length) c1529/\σ_ 204=.pointer (some ⟨b241,2,none⟩)/\σ_ 206=.pointer (some ⟨b39,2,none⟩)/\σ_ 207=.slice A28 x16.Times.length c29/\σ_ 208=jV (↑k283:Int)/\σ_ 209=.pointer (some ⟨b1533,o1534,none⟩)/\σ_ 210=.slice A1536 x322.length c1537/\σ_ 211=.slice A1538 ([x322].length) c1539/\PHeap.Le U418 U_/\sW w U U_ [.row A275 c276 3 1 (nA KL.encI l274),B10,B9,.obj b94 (.map e226 c227),.blk b39 26 B4,B0,.row A67 c68 38 4 (nA wAG x57),.row A83 c84 3 1 (nA KL.encI x73),.row A1528 c1529 3 1 (nA KL.encI [x312]),.row A1538 c1539 23 1 cs1540] w_/\Sl U_ 1 A1531 c1532 x322.length (nA KL.encI x322)/\Cl U_ b1533 o1534 [.slice A1531 x322.length c1532]/\Sl U_ 1 A1536 c1537 x322.length (nA KL.encI x322)/\RlL U_ wBP [x322] cs1540) ?_ fun ko1541=>?_
          ·rintro σ1542 W1543 ⟨U1544,A1528,c1529,A1531,c1532,b1533,o1534,A1536,c1537,A1538,c1539,cs1540,f1547,f1548,f1549,f1550,f1551,f1552,f1553,f1554,f1555,f1556,f1557,f1558,f1559,f1560,f1561,f1562,f1563,f1564,f1565,f1566,f1567,le1545,hS1546,h1568,h1569,h1570,h1571⟩
           refine zk ?_ ?_
           ·refine ZS (j:=0) (enc:=KL.encI) (xs:=l274) (ys:=[x312]) (zs:=x482) rfl rfl rfl rfl rfl zz wCP rfl rfl rfl rfl rfl rfl hS1546 rfl f1558 f1560 (hS1546.srcR (j:=8) rfl (by decide) (wAF (f:=KL.encI) (sz:=1) (fun _=>rfl) [x312])) (fun _=>rfl) (fun _=>rfl) h483 rfl ?_
            intro A1572 c1573 W1574 hS1575
            have hS1576:sW w U U1544 [.row A1572 c1573 3 1 (nA KL.encI x482),B10,B9,.obj b94 (.map e226 c227),.blk b39 26 B4,B0,B5,B6,.row A1528 c1529 3 1 (nA KL.encI [x312]),.row A1538 c1539 23 1 cs1540] W1574:=hS1575
            exact ko1359 _ _ ⟨U1544,A1528,c1529,A1572,c1573,A1531,c1532,b1533,o1534,A1536,c1537,A1538,c1539,cs1540,f1547,f1548,f1549,f1550,f1551,f1552,f1553,f1554,f1555,f1556,f1557,f1559,f1560,rfl,f1561,f1562,f1563,f1564,f1565,f1566,f1567,le1545,(hS1576.pick [1,2,3,4,5,6,7,8,0,9] _ (by decide) rfl),h1568,h1569,h1570,h1571⟩
           ·exact ZE Z Z Z Z (hS1546.ldB (j:=2) Z Z f1561 zX (v:=.slice A279 l278.length c280) Z) (ko1292 _ _ ⟨U1544,A1528,c1529,A1531,c1532,b1533,o1534,A1536,c1537,A1538,c1539,cs1540,f1547,f1548,f1549,f1550,f1551,f1552,f1553,f1554,f1555,f1556,f1557,f1558,f1559,f1560,f1561,Z,f1562,f1563,f1564,f1565,f1566,f1567,le1545,hS1546,h1568,h1569,h1570,h1571⟩)
          refine zw (s:=.fx 4 (.fl 14 (.fx 12 (.fx 13 (.fx 15 (.fl 16 (.fx 17 (.nil) (.stop))) (.stop)) (.stop)) (.stop))) (.fx 12 (.fx 4 (.fl 14 (.fx 13 (.fx 15 (.fl 16 (.fx 17 (.nil) (.stop))) (.stop)) (.stop))) (.stop)) (.stop))) (M:=fun σ_ w_=>∃ (U_:PHeap) (A1605:Option Addr) (c1606:Nat) (A1608:Option Addr) (c1609:Nat) (b1610:Nat) (o1611:Nat) (A1613:Option Addr) (c1614:Nat),σ_ 3=.pointer (some ⟨b39,0,none⟩)/\σ_ 4=.slice A67 x57.length c68/\σ_ 6=.slice A83 x73.length c84/\σ_ 8=.map (some b94)/\σ_ 13=.pointer (some ⟨b241,0,none⟩)/\σ_ 14=jV (↑k283:Int)/\σ_ 15=jV x312/\σ_ 135=.slice A26 x16.Bibs.length c27/\σ_ 136=jV (↑x16.Bibs.length:Int)/\σ_ 137=jV (↑k283:Int)/\σ_ 199=.pointer (some ⟨b241,1,none⟩)/\σ_ 200=.slice A275 l274.length c276/\σ_ 201=jV x312/\σ_ 202=.slice A1605 ([x312].length) c1606/\σ_ 204=.pointer (some ⟨b241,2,none⟩)/\σ_ 205=.slice A279 l278.length c280/\σ_ 206=.pointer (some ⟨b39,2,none⟩)/\σ_ 207=.slice A28 x16.Times.length c29/\σ_ 208=jV (↑k283:Int)/\σ_ 209=.pointer (some ⟨b1610,o1611,none⟩)/\σ_ 210=.slice A1613 x322.length c1614/\PHeap.Le U418 U_/\sW w U U_ [B11,B10,B9,.obj b94 (.map e226 c227),.blk b39 26 B4,B0,B5,B6,.row A1605 c1606 3 1 (nA KL.encI [x312])] w_/\Sl U_ 1 A1608 c1609 x322.length (nA KL.encI x322)/\Cl U_ b1610 o1611 [.slice A1608 x322.length c1609]/\Sl U_ 1 A1613 c1614 x322.length (nA KL.encI x322)) ?_ fun ko1615=>?_
          ·rintro σ1616 W1617 ⟨U1618,A1605,c1606,A1608,c1609,b1610,o1611,A1613,c1614,f1621,f1622,f1623,f1624,f1625,f1626,f1627,f1628,f1629,f1630,f1631,f1632,f1633,f1634,f1635,f1636,f1637,f1638,f1639,f1640,f1641,le1619,hS1620,h1642,h1643,h1644⟩
           refine zk ?_ ?_
           ·refine ZS (j:=0) (enc:=KL.encI) (xs:=l274) (ys:=[x312]) (zs:=x482) rfl rfl rfl rfl rfl zz wCP rfl rfl rfl rfl rfl rfl hS1620 rfl f1632 f1634 (hS1620.srcR (j:=8) rfl (by decide) (wAF (f:=KL.encI) (sz:=1) (fun _=>rfl) [x312])) (fun _=>rfl) (fun _=>rfl) h483 rfl ?_
            intro A1645 c1646 W1647 hS1648
            have hS1649:sW w U U1618 [.row A1645 c1646 3 1 (nA KL.encI x482),B10,B9,.obj b94 (.map e226 c227),.blk b39 26 B4,B0,B5,B6,.row A1605 c1606 3 1 (nA KL.encI [x312])] W1647:=hS1648
            exact ko1417 _ _ ⟨U1618,A1605,c1606,A1645,c1646,A1608,c1609,b1610,o1611,A1613,c1614,f1621,f1622,f1623,f1624,f1625,f1626,f1627,f1628,f1629,f1630,f1631,f1633,f1634,rfl,f1635,f1636,f1637,f1638,f1639,f1640,f1641,le1619,(hS1649.pick [1,2,3,4,5,6,7,8,0] _ (by decide) rfl),h1642,h1643,h1644⟩
           ·let B14:List Value:=[.slice A1613 x322.length c1614]
            refine zW (pv:=[(0,.slice A1613 x322.length c1614)]) (zs:=[.slice none 0 0]) (cs:=B14) Z Z Z Z Z (wAL f1641 wAT) zH zF ZJ Z Z Z Z Z hS1620 ?_
            intro W1662 b1663 hS1664
            have hr1666:RlL U1618 wBP [x322] B14:=(RlL.cons (R:=wBP) (x:=x322) (vs:=B14) ⟨A1613,c1614,rfl,h1644⟩ RlL.nil)
            have hS1667:sW w U U1618 [.row (some ⟨b1663,0,none⟩) 1 23 1 B14,B11,B10,B9,.obj b94 (.map e226 c227),.blk b39 26 B4,B0,B5,B6,.row A1605 c1606 3 1 (nA KL.encI [x312])] W1662:=hS1664
            exact ko1292 _ _ ⟨U1618,A1605,c1606,A1608,c1609,b1610,o1611,A1613,c1614,(some ⟨b1663,0,none⟩),1,B14,f1621,f1622,f1623,f1624,f1625,f1626,f1627,f1628,f1629,f1630,f1631,f1632,f1633,f1634,f1635,f1636,f1637,f1638,f1639,f1640,f1641,rfl,le1619,(hS1667.pick [1,2,3,4,5,6,7,8,9,0] _ (by decide) rfl),h1642,h1643,h1644,hr1666⟩
          refine zw (s:=.fx 6 (.fl 14 (.fx 12 (.fx 13 (.fx 15 (.fl 16 (.fx 17 (.nil) (.stop))) (.stop)) (.stop)) (.stop))) (.fx 12 (.fx 6 (.fl 14 (.fx 13 (.fx 15 (.fl 16 (.fx 17 (.nil) (.stop))) (.stop)) (.stop))) (.stop)) (.stop))) (M:=fun σ_ w_=>∃ (U_:PHeap) (A1681:Option Addr) (c1682:Nat) (A1683:Option Addr) (c1684:Nat) (A1686:Option Addr) (c1687:Nat) (b1688:Nat) (o1689:Nat) (A1691:Option Addr) (c1692:Nat),σ_ 3=.pointer (some ⟨b39,0,none⟩)/\σ_ 4=.slice A67 x57.length c68/\σ_ 6=.slice A83 x73.length c84/\σ_ 8=.map (some b94)/\σ_ 13=.pointer (some ⟨b241,0,none⟩)/\σ_ 14=jV (↑k283:Int)/\σ_ 15=jV x312/\σ_ 135=.slice A26 x16.Bibs.length c27/\σ_ 136=jV (↑x16.Bibs.length:Int)/\σ_ 137=jV (↑k283:Int)/\σ_ 199=.pointer (some ⟨b241,1,none⟩)/\σ_ 201=jV x312/\σ_ 202=.slice A1681 ([x312].length) c1682/\σ_ 203=.slice A1683 x482.length c1684/\σ_ 204=.pointer (some ⟨b241,2,none⟩)/\σ_ 206=.pointer (some ⟨b39,2,none⟩)/\σ_ 207=.slice A28 x16.Times.length c29/\σ_ 208=jV (↑k283:Int)/\σ_ 209=.pointer (some ⟨b1688,o1689,none⟩)/\σ_ 210=.slice A1691 x322.length c1692/\PHeap.Le U418 U_/\sW w U U_ [B10,B9,.obj b94 (.map e226 c227),.blk b39 26 B4,B0,B5,B6,.row A1681 c1682 3 1 (nA KL.encI [x312]),.row A1683 c1684 3 1 (nA KL.encI x482)] w_/\Sl U_ 1 A1686 c1687 x322.length (nA KL.encI x322)/\Cl U_ b1688 o1689 [.slice A1686 x322.length c1687]/\Sl U_ 1 A1691 c1692 x322.length (nA KL.encI x322)) ?_ fun ko1693=>?_
          ·rintro σ1694 W1695 ⟨U1696,A1681,c1682,A1683,c1684,A1686,c1687,b1688,o1689,A1691,c1692,f1699,f1700,f1701,f1702,f1703,f1704,f1705,f1706,f1707,f1708,f1709,f1710,f1711,f1712,f1713,f1714,f1715,f1716,f1717,f1718,le1697,hS1698,h1719,h1720,h1721⟩
           refine zk ?_ ?_
           ·exact ZE Z Z Z Z (hS1698.ldB (j:=1) Z Z f1713 zX (v:=.slice A279 l278.length c280) Z) (ko1417 _ _ ⟨U1696,A1681,c1682,A1683,c1684,A1686,c1687,b1688,o1689,A1691,c1692,f1699,f1700,f1701,f1702,f1703,f1704,f1705,f1706,f1707,f1708,f1709,f1710,f1711,f1712,f1713,Z,f1714,f1715,f1716,f1717,f1718,le1697,hS1698,h1719,h1720,h1721⟩)
           ·let B15:List Value:=[.slice A1691 x322.length c1692]
            refine zW (pv:=[(0,.slice A1691 x322.length c1692)]) (zs:=[.slice none 0 0]) (cs:=B15) Z Z Z Z Z (wAL f1718 wAT) zH zF ZJ Z Z Z Z Z hS1698 ?_
            intro W1734 b1735 hS1736
            have hr1738:RlL U1696 wBP [x322] B15:=(RlL.cons (R:=wBP) (x:=x322) (vs:=B15) ⟨A1691,c1692,rfl,h1721⟩ RlL.nil)
            have hS1739:sW w U U1696 [.row (some ⟨b1735,0,none⟩) 1 23 1 B15,B10,B9,.obj b94 (.map e226 c227),.blk b39 26 B4,B0,B5,B6,.row A1681 c1682 3 1 (nA KL.encI [x312]),.row A1683 c1684 3 1 (nA KL.encI x482)] W1734:=hS1736
            exact ko1359 _ _ ⟨U1696,A1681,c1682,A1683,c1684,A1686,c1687,b1688,o1689,A1691,c1692,(some ⟨b1735,0,none⟩),1,B15,f1699,f1700,f1701,f1702,f1703,f1704,f1705,f1706,f1707,f1708,f1709,f1710,f1711,f1712,f1713,f1714,f1715,f1716,f1717,f1718,rfl,le1697,(hS1739.pick [1,2,3,4,5,6,7,8,9,0] _ (by decide) rfl),h1719,h1720,h1721,hr1738⟩
          refine zw (s:=.fl 14 (.fx 11 (.fx 12 (.fx 13 (.fx 15 (.fl 16 (.fx 17 (.nil) (.stop))) (.stop)) (.stop)) (.stop)) (.stop))) (M:=fun σ_ w_=>∃ (U_:PHeap) (A1755:Option Addr) (c1756:Nat) (A1757:Option Addr) (c1758:Nat) (A1760:Option Addr) (c1761:Nat) (b1762:Nat) (o1763:Nat),σ_ 3=.pointer (some ⟨b39,0,none⟩)/\σ_ 4=.slice A67 x57.length c68/\σ_ 6=.slice A83 x73.length c84/\σ_ 8=.map (some b94)/\σ_ 13=.pointer (some ⟨b241,0,none⟩)/\σ_ 14=jV (↑k283:Int)/\σ_ 15=jV x312/\σ_ 135=.slice A26 x16.Bibs.length c27/\σ_ 136=jV (↑x16.Bibs.length:Int)/\σ_ 137=jV (↑k283:Int)/\σ_ 199=.pointer (some ⟨b241,1,none⟩)/\σ_ 201=jV x312/\σ_ 202=.slice A1755 ([x312].length) c1756/\σ_ 203=.slice A1757 x482.length c1758/\σ_ 204=.pointer (some ⟨b241,2,none⟩)/\σ_ 205=.slice A279 l278.length c280/\σ_ 206=.pointer (some ⟨b39,2,none⟩)/\σ_ 207=.slice A28 x16.Times.length c29/\σ_ 208=jV (↑k283:Int)/\σ_ 209=.pointer (some ⟨b1762,o1763,none⟩)/\PHeap.Le U418 U_/\sW w U U_ [B10,B9,.obj b94 (.map e226 c227),.blk b39 26 B4,B0,B5,B6,.row A1755 c1756 3 1 (nA KL.encI [x312]),.row A1757 c1758 3 1 (nA KL.encI x482)] w_/\Sl U_ 1 A1760 c1761 x322.length (nA KL.encI x322)/\Cl U_ b1762 o1763 [.slice A1760 x322.length c1761]) ?_ fun ko1764=>?_
          ·rintro σ1765 W1766 ⟨U1767,A1755,c1756,A1757,c1758,A1760,c1761,b1762,o1763,f1770,f1771,f1772,f1773,f1774,f1775,f1776,f1777,f1778,f1779,f1780,f1781,f1782,f1783,f1784,f1785,f1786,f1787,f1788,f1789,le1768,hS1769,h1790,h1791⟩
           exact oR Z (zO Z f1774 zD Z zF) (ZE Z Z Z Z (hS1769.ldC (f:=0) h1791 (v:=.slice A1760 x322.length c1761) Z f1789 zR Z) (ko1227 _ _ ⟨U1767,A1755,c1756,A1757,c1758,A1760,c1761,b1762,o1763,A1760,c1761,f1770,f1771,f1772,f1773,f1774,f1775,f1776,f1777,f1778,f1779,f1780,f1781,f1782,f1783,f1784,f1785,f1786,f1787,f1788,f1789,Z,Z,le1768,hS1769,h1790,h1791,h1790⟩))
          refine zw (s:=.fl 10 (.fx 11 (.fx 12 (.fx 13 (.fx 15 (.fl 16 (.fx 17 (.nil) (.stop))) (.stop)) (.stop)) (.stop)) (.stop))) (M:=fun σ_ w_=>∃ (U_:PHeap) (A1804:Option Addr) (c1805:Nat) (A1806:Option Addr) (c1807:Nat),σ_ 3=.pointer (some ⟨b39,0,none⟩)/\σ_ 4=.slice A67 x57.length c68/\σ_ 6=.slice A83 x73.length c84/\σ_ 8=.map (some b94)/\σ_ 13=.pointer (some ⟨b241,0,none⟩)/\σ_ 14=jV (↑k283:Int)/\σ_ 15=jV x312/\σ_ 135=.slice A26 x16.Bibs.length c27/\σ_ 136=jV (↑x16.Bibs.length:Int)/\σ_ 137=jV (↑k283:Int)/\σ_ 199=.pointer (some ⟨b241,1,none⟩)/\σ_ 201=jV x312/\σ_ 202=.slice A1804 ([x312].length) c1805/\σ_ 203=.slice A1806 x482.length c1807/\σ_ 204=.pointer (some ⟨b241,2,none⟩)/\σ_ 205=.slice A279 l278.length c280/\σ_ 206=.pointer (some ⟨b39,2,none⟩)/\σ_ 207=.slice A28 x16.Times.length c29/\σ_ 208=jV (↑k283:Int)/\σ_ 213=.pointer (some ⟨b241,1,none⟩)/\PHeap.Le U418 U_/\sW w U U_ [B10,B9,.obj b94 (.map e226 c227),.blk b39 26 B4,B0,B5,B6,.row A1804 c1805 3 1 (nA KL.encI [x312]),.row A1806 c1807 3 1 (nA KL.encI x482)] w_) ?_ fun ko1808=>?_
          ·rintro σ1809 W1810 ⟨U1811,A1804,c1805,A1806,c1807,f1814,f1815,f1816,f1817,f1818,f1819,f1820,f1821,f1822,f1823,f1824,f1825,f1826,f1827,f1828,f1829,f1830,f1831,f1832,f1833,le1812,hS1813⟩
           have h1834:=h443.le le1812
           have q:=h1834.el (wAP h323)
           obtain ⟨b1835,off1836,vs1839,hA1837,hC1838,hr1840⟩:=q
           obtain ⟨pA1841,pc1842,rfl,h1843⟩:=hr1840
           replace hC1838:Cl U1811 b1835 (off1836 + k283 * 1) [.slice pA1841 x322.length pc1842]:=hC1838
           exact oR Z (zo Z f1831 hA1837 f1832 zH zF (wAu h323)) (ZE Z Z Z Z (hS1813.ldC (f:=0) hC1838 (v:=.slice pA1841 x322.length pc1842) Z Z zR Z) (ko1227 _ _ ⟨U1811,A1804,c1805,A1806,c1807,pA1841,pc1842,b1835,off1836 + k283 * 1,pA1841,pc1842,f1814,f1815,f1816,f1817,f1818,f1819,f1820,f1821,f1822,f1823,f1824,f1825,f1826,f1827,f1828,f1829,f1830,f1831,f1832,Z,Z,f1833,le1812,hS1813,h1843,hC1838,h1843⟩))
          refine zw (s:=.fx 3 (.fx 4 (.fl 14 (.fx 12 (.fx 13 (.fx 15 (.fl 16 (.fx 17 (.nil) (.stop))) (.stop)) (.stop)) (.stop))) (.fx 12 (.fx 4 (.fl 14 (.fx 13 (.fx 15 (.fl 16 (.fx 17 (.nil) (.stop))) (.stop)) (.stop))) (.stop)) (.stop))) (.fx 12 (.fx 3 (.fx 4 (.fl 14 (.fx 13 (.fx 15 (.fl 16 (.fx 17 (.nil) (.stop))) (.stop)) (.stop))) (.stop)) (.stop)) (.stop))) (M:=fun σ_ w_=>∃ (U_:PHeap) (A1857:Option Addr) (c1858:Nat) (b1859:Nat) (o1860:Nat) (A1862:Option Addr) (c1863:Nat),σ_ 3=.pointer (some ⟨b39,0,none⟩)/\σ_ 4=.slice A67 x57.length c68/\σ_ 6=.slice A83 x73.length c84/\σ_ 8=.map (some b94)/\σ_ 13=.pointer (some ⟨b241,0,none⟩)/\σ_ 14=jV (↑k283:Int)/\σ_ 15=jV x312/\σ_ 135=.slice A26 x16.Bibs.length c27/\σ_ 136=jV (↑x16.Bibs.length:Int)/\σ_ 137=jV (↑k283:Int)/\σ_ 199=.pointer (some ⟨b241,1,none⟩)/\σ_ 200=.slice A275 l274.length c276/\σ_ 201=jV x312/\σ_ 204=.pointer (some ⟨b241,2,none⟩)/\σ_ 205=.slice A279 l278.length c280/\σ_ 206=.pointer (some ⟨b39,2,none⟩)/\σ_ 207=.slice A28 x16.Times.length c29/\σ_ 208=jV (↑k283:Int)/\σ_ 209=.pointer (some ⟨b1859,o1860,none⟩)/\σ_ 210=.slice A1862 x322.length c1863/\PHeap.Le U418 U_/\sW w U U_ [B11,B10,B9,.obj b94 (.map e226 c227),.blk b39 26 B4,B0,B5,B6] w_/\Sl U_ 1 A1857 c1858 x322.length (nA KL.encI x322)/\Cl U_ b1859 o1860 [.slice A1857 x322.length c1858]/\Sl U_ 1 A1862 c1863 x322.length (nA KL.encI x322)) ?_ fun ko1864=>?_
          ·rintro σ1865 W1866 ⟨U1867,A1857,c1858,b1859,o1860,A1862,c1863,f1870,f1871,f1872,f1873,f1874,f1875,f1876,f1877,f1878,f1879,f1880,f1881,f1882,f1883,f1884,f1885,f1886,f1887,f1888,f1889,le1868,hS1869,h1890,h1891,h1892⟩
           refine zk ?_ ?_
           ·refine zW (pv:=[(0,jV x312)]) (zs:=[jV 0]) (cs:=[jV x312]) Z Z Z Z Z (wAL f1882 wAT) zA zB zu Z Z Z Z Z hS1869 ?_
            intro W1893 b1894 hS1895
            have hS1897:sW w U U1867 [.row (some ⟨b1894,0,none⟩) 1 3 1 (nA KL.encI [x312]),B11,B10,B9,.obj b94 (.map e226 c227),.blk b39 26 B4,B0,B5,B6] W1893:=hS1895
            exact ko1615 _ _ ⟨U1867,(some ⟨b1894,0,none⟩),1,A1857,c1858,b1859,o1860,A1862,c1863,f1870,f1871,f1872,f1873,f1874,f1875,f1876,f1877,f1878,f1879,f1880,f1881,f1882,rfl,f1883,f1884,f1885,f1886,f1887,f1888,f1889,le1868,(hS1897.pick [1,2,3,4,5,6,7,8,0] _ (by decide) rfl),h1890,h1891,h1892⟩
           ·let B16:List Value:=[.slice A1862 x322.length c1863]
            refine zW (pv:=[(0,.slice A1862 x322.length c1863)]) (zs:=[.slice none 0 0]) (cs:=B16) Z Z Z Z Z (wAL f1889 wAT) zH zF ZJ Z Z Z Z Z hS1869 ?_
            intro W1908 b1909 hS1910
            have hr1912:RlL U1867 wBP [x322] B16:=(RlL.cons (R:=wBP) (x:=x322) (vs:=B16) ⟨A1862,c1863,rfl,h1892⟩ RlL.nil)
            have hS1913:sW w U U1867 [.row (some ⟨b1909,0,none⟩) 1 23 1 B16,B11,B10,B9,.obj b94 (.map e226 c227),.blk b39 26 B4,B0,B5,B6] W1908:=hS1910
            exact ko1479 _ _ ⟨U1867,A1857,c1858,b1859,o1860,A1862,c1863,(some ⟨b1909,0,none⟩),1,B16,f1870,f1871,f1872,f1873,f1874,f1875,f1876,f1877,f1878,f1879,f1880,f1881,f1882,f1883,f1884,f1885,f1886,f1887,f1888,f1889,rfl,le1868,(hS1913.pick [1,2,3,4,5,6,7,8,0] _ (by decide) rfl),h1890,h1891,h1892,hr1912⟩
          refine zw (s:=.fx 4 (.fx 6 (.fl 14 (.fx 12 (.fx 13 (.fx 15 (.fl 16 (.fx 17 (.nil) (.stop))) (.stop)) (.stop)) (.stop))) (.fx 12 (.fx 6 (.fl 14 (.fx 13 (.fx 15 (.fl 16 (.fx 17 (.nil) (.stop))) (.stop)) (.stop))) (.stop)) (.stop))) (.fx 6 (.fx 4 (.fl 14 (.fx 12 (.fx 13 (.fx 15 (.fl 16 (.fx 17 (.nil) (.stop))) (.stop)) (.stop)) (.stop))) (.fx 12 (.fx 4 (.fl 14 (.fx 13 (.fx 15 (.fl 16 (.fx 17 (.nil) (.stop))) (.stop)) (.stop))) (.stop)) (.stop))) (.fx 12 (.fx 4 (.fx 6 (.fl 14 (.fx 13 (.fx 15 (.fl 16 (.fx 17 (.nil) (.stop))) (.stop)) (.stop))) (.stop)) (.fx 6 (.fx 4 (.fl 14 (.fx 13 (.fx 15 (.fl 16 (.fx 17 (.nil) (.stop))) (.stop)) (.stop))) (.stop)) (.stop))) (.stop)))) (M:=fun σ_ w_=>∃ (U_:PHeap) (A1925:Option Addr) (c1926:Nat) (A1928:Option Addr) (c1929:Nat) (b1930:Nat) (o1931:Nat) (A1933:Option Addr) (c1934:Nat),σ_ 3=.pointer (some ⟨b39,0,none⟩)/\σ_ 4=.slice A67 x57.length c68/\σ_ 6=.slice A83 x73.length c84/\σ_ 8=.map (some b94)/\σ_ 13=.pointer (some ⟨b241,0,none⟩)/\σ_ 14=jV (↑k283:Int)/\σ_ 15=jV x312/\σ_ 135=.slice A26 x16.Bibs.length c27/\σ_ 136=jV (↑x16.Bibs.length:Int)/\σ_ 137=jV (↑k283:Int)/\σ_ 199=.pointer (some ⟨b241,1,none⟩)/\σ_ 200=.slice A275 l274.length c276/\σ_ 201=jV x312/\σ_ 202=.slice A1925 ([x312].length) c1926/\σ_ 204=.pointer (some ⟨b241,2,none⟩)/\σ_ 206=.pointer (some ⟨b39,2,none⟩)/\σ_ 207=.slice A28 x16.Times.length c29/\σ_ 208=jV (↑k283:Int)/\σ_ 209=.pointer (some ⟨b1930,o1931,none⟩)/\σ_ 210=.slice A1933 x322.length c1934/\PHeap.Le U418 U_/\sW w U U_ [B11,B10,B9,.obj b94 (.map e226 c227),.blk b39 26 B4,B0,B5,B6,.row A1925 c1926 3 1 (nA KL.encI [x312])] w_/\Sl U_ 1 A1928 c1929 x322.length (nA KL.encI x322)/\Cl U_ b1930 o1931 [.slice A1928 x322.length c1929]/\Sl U_ 1 A1933 c1934 x322.length (nA KL.encI x322)) ?_ fun ko1935=>?_
          ·rintro σ1936 W1937 ⟨U1938,A1925,c1926,A1928,c1929,b1930,o1931,A1933,c1934,f1941,f1942,f1943,f1944,f1945,f1946,f1947,f1948,f1949,f1950,f1951,f1952,f1953,f1954,f1955,f1956,f1957,f1958,f1959,f1960,le1939,hS1940,h1961,h1962,h1963⟩
           refine zk ?_ ?_
           ·refine ZS (j:=0) (enc:=KL.encI) (xs:=l274) (ys:=[x312]) (zs:=x482) rfl rfl rfl rfl rfl zz wCP rfl rfl rfl rfl rfl rfl hS1940 rfl f1952 f1954 (hS1940.srcR (j:=8) rfl (by decide) (wAF (f:=KL.encI) (sz:=1) (fun _=>rfl) [x312])) (fun _=>rfl) (fun _=>rfl) h483 rfl ?_
            intro A1964 c1965 W1966 hS1967
            have hS1968:sW w U U1938 [.row A1964 c1965 3 1 (nA KL.encI x482),B10,B9,.obj b94 (.map e226 c227),.blk b39 26 B4,B0,B5,B6,.row A1925 c1926 3 1 (nA KL.encI [x312])] W1966:=hS1967
            exact ko1693 _ _ ⟨U1938,A1925,c1926,A1964,c1965,A1928,c1929,b1930,o1931,A1933,c1934,f1941,f1942,f1943,f1944,f1945,f1946,f1947,f1948,f1949,f1950,f1951,f1953,f1954,rfl,f1955,f1956,f1957,f1958,f1959,f1960,le1939,(hS1968.pick [1,2,3,4,5,6,7,8,0] _ (by decide) rfl),h1961,h1962,h1963⟩
           refine zk ?_ ?_
           ·exact ZE Z Z Z Z (hS1940.ldB (j:=2) Z Z f1955 zX (v:=.slice A279 l278.length c280) Z) (ko1615 _ _ ⟨U1938,A1925,c1926,A1928,c1929,b1930,o1931,A1933,c1934,f1941,f1942,f1943,f1944,f1945,f1946,f1947,f1948,f1949,f1950,f1951,f1952,f1953,f1954,f1955,Z,f1956,f1957,f1958,f1959,f1960,le1939,hS1940,h1961,h1962,h1963⟩)
           ·let B17:List Value:=[.slice A1933 x322.length c1934]
            refine zW (pv:=[(0,.slice A1933 x322.length c1934)]) (zs:=[.slice none 0 0]) (cs:=B17) Z Z Z Z Z (wAL f1960 wAT) zH zF ZJ Z Z Z Z Z hS1940 ?_
            intro W1991 b1992 hS1993
            have hr1995:RlL U1938 wBP [x322] B17:=(RlL.cons (R:=wBP) (x:=x322) (vs:=B17) ⟨A1933,c1934,rfl,h1963⟩ RlL.nil)
            have hS1996:sW w U U1938 [.row (some ⟨b1992,0,none⟩) 1 23 1 B17,B11,B10,B9,.obj b94 (.map e226 c227),.blk b39 26 B4,B0,B5,B6,.row A1925 c1926 3 1 (nA KL.encI [x312])] W1991:=hS1993
            exact ko1541 _ _ ⟨U1938,A1925,c1926,A1928,c1929,b1930,o1931,A1933,c1934,(some ⟨b1992,0,none⟩),1,B17,f1941,f1942,f1943,f1944,f1945,f1946,f1947,f1948,f1949,f1950,f1951,f1952,f1953,f1954,f1955,f1956,f1957,f1958,f1959,f1960,rfl,le1939,(hS1996.pick [1,2,3,4,5,6,7,8,9,0] _ (by decide) rfl),h1961,h1962,h1963,hr1995⟩
          refine zw (s:=.fx 4 (.fl 14 (.fx 11 (.fx 12 (.fx 13 (.fx 15 (.fl 16 (.fx 17 (.nil) (.stop))) (.stop)) (.stop)) (.stop)) (.stop))) (.fx 11 (.fx 4 (.fl 14 (.fx 12 (.fx 13 (.fx 15 (.fl 16 (.fx 17 (.nil) (.stop))) (.stop)) (.stop)) (.stop))) (.fx 12 (.fx 4 (.fl 14 (.fx 13 (.fx 15 (.fl 16 (.fx 17 (.nil) (.stop))) (.stop)) (.stop))) (.stop)) (.stop))) (.stop))) (M:=fun σ_ w_=>∃ (U_:PHeap) (A2010:Option Addr) (c2011:Nat) (A2013:Option Addr) (c2014:Nat) (b2015:Nat) (o2016:Nat),σ_ 3=.pointer (some ⟨b39,0,none⟩)/\σ_ 4=.slice A67 x57.length c68/\σ_ 6=.slice A83 x73.length c84/\σ_ 8=.map (some b94)/\σ_ 13=.pointer (some ⟨b241,0,none⟩)/\σ_ 14=jV (↑k283:Int)/\σ_ 15=jV x312/\σ_ 135=.slice A26 x16.Bibs.length c27/\σ_ 136=jV (↑x16.Bibs.length:Int)/\σ_ 137=jV (↑k283:Int)/\σ_ 199=.pointer (some ⟨b241,1,none⟩)/\σ_ 200=.slice A275 l274.length c276/\σ_ 201=jV x312/\σ_ 202=.slice A2010 ([x312].length) c2011/\σ_ 204=.pointer (some ⟨b241,2,none⟩)/\σ_ 205=.slice A279 l278.length c280/\σ_ 206=.pointer (some ⟨b39,2,none⟩)/\σ_ 207=.slice A28 x16.Times.length c29/\σ_ 208=jV (↑k283:Int)/\σ_ 209=.pointer (some ⟨b2015,o2016,none⟩)/\PHeap.Le U418 U_/\sW w U U_ [B11,B10,B9,.obj b94 (.map e226 c227),.blk b39 26 B4,B0,B5,B6,.row A2010 c2011 3 1 (nA KL.encI [x312])] w_/\Sl U_ 1 A2013 c2014 x322.length (nA KL.encI x322)/\Cl U_ b2015 o2016 [.slice A2013 x322.length c2014]) ?_ fun ko2017=>?_
          ·rintro σ2018 W2019 ⟨U2020,A2010,c2011,A2013,c2014,b2015,o2016,f2023,f2024,f2025,f2026,f2027,f2028,f2029,f2030,f2031,f2032,f2033,f2034,f2035,f2036,f2037,f2038,f2039,f2040,f2041,f2042,le2021,hS2022,h2043,h2044⟩
           refine zk ?_ ?_
           ·refine ZS (j:=0) (enc:=KL.encI) (xs:=l274) (ys:=[x312]) (zs:=x482) rfl rfl rfl rfl rfl zz wCP rfl rfl rfl rfl rfl rfl hS2022 rfl f2034 f2036 (hS2022.srcR (j:=8) rfl (by decide) (wAF (f:=KL.encI) (sz:=1) (fun _=>rfl) [x312])) (fun _=>rfl) (fun _=>rfl) h483 rfl ?_
            intro A2045 c2046 W2047 hS2048
            have hS2049:sW w U U2020 [.row A2045 c2046 3 1 (nA KL.encI x482),B10,B9,.obj b94 (.map e226 c227),.blk b39 26 B4,B0,B5,B6,.row A2010 c2011 3 1 (nA KL.encI [x312])] W2047:=hS2048
            exact ko1764 _ _ ⟨U2020,A2010,c2011,A2045,c2046,A2013,c2014,b2015,o2016,f2023,f2024,f2025,f2026,f2027,f2028,f2029,f2030,f2031,f2032,f2033,f2035,f2036,rfl,f2037,f2038,f2039,f2040,f2041,f2042,le2021,(hS2049.pick [1,2,3,4,5,6,7,8,0] _ (by decide) rfl),h2043,h2044⟩
           ·exact ZE Z Z Z Z (hS2022.ldC (f:=0) h2044 (v:=.slice A2013 x322.length c2014) Z f2042 zR Z) (ko1615 _ _ ⟨U2020,A2010,c2011,A2013,c2014,b2015,o2016,A2013,c2014,f2023,f2024,f2025,f2026,f2027,f2028,f2029,f2030,f2031,f2032,f2033,f2034,f2035,f2036,f2037,f2038,f2039,f2040,f2041,f2042,Z,le2021,hS2022,h2043,h2044,h2043⟩)
          refine zw (s:=.fx 6 (.fl 14 (.fx 11 (.fx 12 (.fx 13 (.fx 15 (.fl 16 (.fx 17 (.nil) (.stop))) (.stop)) (.stop)) (.stop)) (.stop))) (.fx 11 (.fx 6 (.fl 14 (.fx 12 (.fx 13 (.fx 15 (.fl 16 (.fx 17 (.nil) (.stop))) (.stop)) (.stop)) (.stop))) (.fx 12 (.fx 6 (.fl 14 (.fx 13 (.fx 15 (.fl 16 (.fx 17 (.nil) (.stop))) (.stop)) (.stop))) (.stop)) (.stop))) (.stop))) (M:=fun σ_ w_=>∃ (U_:PHeap) (A2069:Option Addr) (c2070:Nat) (A2071:Option Addr) (c2072:Nat) (A2074:Option Addr) (c2075:Nat) (b2076:Nat) (o2077:Nat),σ_ 3=.pointer (some ⟨b39,0,none⟩)/\σ_ 4=.slice A67 x57.length c68/\σ_ 6=.slice A83 x73.length c84/\σ_ 8=.map (some b94)/\σ_ 13=.pointer (some ⟨b241,0,none⟩)/\σ_ 14=jV (↑k283:Int)/\σ_ 15=jV x312/\σ_ 135=.slice A26 x16.Bibs.length c27/\σ_ 136=jV (↑x16.Bibs.length:Int)/\σ_ 137=jV (↑k283:Int)/\σ_ 199=.pointer (some ⟨b241,1,none⟩)/\σ_ 201=jV x312/\σ_ 202=.slice A2069 ([x312].length) c2070/\σ_ 203=.slice A2071 x482.length c2072/\σ_ 204=.pointer (some ⟨b241,2,none⟩)/\σ_ 206=.pointer (some ⟨b39,2,none⟩)/\σ_ 207=.slice A28 x16.Times.length c29/\σ_ 208=jV (↑k283:Int)/\σ_ 209=.pointer (some ⟨b2076,o2077,none⟩)/\PHeap.Le U418 U_/\sW w U U_ [B10,B9,.obj b94 (.map e226 c227),.blk b39 26 B4,B0,B5,B6,.row A2069 c2070 3 1 (nA KL.encI [x312]),.row A2071 c2072 3 1 (nA KL.encI x482)] w_/\Sl U_ 1 A2074 c2075 x322.length (nA KL.encI x322)/\Cl U_ b2076 o2077 [.slice A2074 x322.length c2075]) ?_ fun ko2078=>?_
          ·rintro σ2079 W2080 ⟨U2081,A2069,c2070,A2071,c2072,A2074,c2075,b2076,o2077,f2084,f2085,f2086,f2087,f2088,f2089,f2090,f2091,f2092,f2093,f2094,f2095,f2096,f2097,f2098,f2099,f2100,f2101,f2102,le2082,hS2083,h2103,h2104⟩
           refine zk ?_ ?_
           ·exact ZE Z Z Z Z (hS2083.ldB (j:=1) Z Z f2098 zX (v:=.slice A279 l278.length c280) Z) (ko1764 _ _ ⟨U2081,A2069,c2070,A2071,c2072,A2074,c2075,b2076,o2077,f2084,f2085,f2086,f2087,f2088,f2089,f2090,f2091,f2092,f2093,f2094,f2095,f2096,f2097,f2098,Z,f2099,f2100,f2101,f2102,le2082,hS2083,h2103,h2104⟩)
           ·exact ZE Z Z Z Z (hS2083.ldC (f:=0) h2104 (v:=.slice A2074 x322.length c2075) Z f2102 zR Z) (ko1693 _ _ ⟨U2081,A2069,c2070,A2071,c2072,A2074,c2075,b2076,o2077,A2074,c2075,f2084,f2085,f2086,f2087,f2088,f2089,f2090,f2091,f2092,f2093,f2094,f2095,f2096,f2097,f2098,f2099,f2100,f2101,f2102,Z,le2082,hS2083,h2103,h2104,h2103⟩)
          refine zw (s:=.fl 10 (.fx 4 (.fl 14 (.fx 11 (.fx 12 (.fx 13 (.fx 15 (.fl 16 (.fx 17 (.nil) (.stop))) (.stop)) (.stop)) (.stop)) (.stop))) (.fx 11 (.fx 4 (.fl 14 (.fx 12 (.fx 13 (.fx 15 (.fl 16 (.fx 17 (.nil) (.stop))) (.stop)) (.stop)) (.stop))) (.fx 12 (.fx 4 (.fl 14 (.fx 13 (.fx 15 (.fl 16 (.fx 17 (.nil) (.stop))) (.stop)) (.stop))) (.stop)) (.stop))) (.stop)))) (M:=fun σ_ w_=>∃ (U_:PHeap) (A2126:Option Addr) (c2127:Nat),σ_ 3=.pointer (some ⟨b39,0,none⟩)/\σ_ 4=.slice A67 x57.length c68/\σ_ 6=.slice A83 x73.length c84/\σ_ 8=.map (some b94)/\σ_ 13=.pointer (some ⟨b241,0,none⟩)/\σ_ 14=jV (↑k283:Int)/\σ_ 15=jV x312/\σ_ 135=.slice A26 x16.Bibs.length c27/\σ_ 136=jV (↑x16.Bibs.length:Int)/\σ_ 137=jV (↑k283:Int)/\σ_ 199=.pointer (some ⟨b241,1,none⟩)/\σ_ 200=.slice A275 l274.length c276/\σ_ 201=jV x312/\σ_ 202=.slice A2126 ([x312].length) c2127/\σ_ 204=.pointer (some ⟨b241,2,none⟩)/\σ_ 205=.slice A279 l278.length c280/\σ_ 206=.pointer (some ⟨b39,2,none⟩)/\σ_ 207=.slice A28 x16.Times.length c29/\σ_ 208=jV (↑k283:Int)/\PHeap.Le U418 U_/\sW w U U_ [B11,B10,B9,.obj b94 (.map e226 c227),.blk b39 26 B4,B0,B5,B6,.row A2126 c2127 3 1 (nA KL.encI [x312])] w_) ?_ fun ko2128=>?_
          ·rintro σ2129 W2130 ⟨U2131,A2126,c2127,f2134,f2135,f2136,f2137,f2138,f2139,f2140,f2141,f2142,f2143,f2144,f2145,f2146,f2147,f2148,f2149,f2150,f2151,f2152,le2132,hS2133⟩
           have h2153:=h443.le le2132
           have q:=h2153.el (wAP h323)
           obtain ⟨b2154,off2155,vs2158,hA2156,hC2157,hr2159⟩:=q
           obtain ⟨pA2160,pc2161,rfl,h2162⟩:=hr2159
           replace hC2157:Cl U2131 b2154 (off2155 + k283 * 1) [.slice pA2160 x322.length pc2161]:=hC2157
           refine oR Z (zo Z f2151 hA2156 f2152 zH zF (wAu h323)) (zk ?_ ?_)
           ·refine ZS (j:=0) (enc:=KL.encI) (xs:=l274) (ys:=[x312]) (zs:=x482) rfl rfl rfl rfl rfl zz wCP rfl rfl rfl rfl rfl rfl hS2133 rfl f2145 f2147 (hS2133.srcR (j:=8) rfl (by decide) (wAF (f:=KL.encI) (sz:=1) (fun _=>rfl) [x312])) (fun _=>rfl) (fun _=>rfl) h483 rfl ?_
            intro A2163 c2164 W2165 hS2166
            have hS2167:sW w U U2131 [.row A2163 c2164 3 1 (nA KL.encI x482),B10,B9,.obj b94 (.map e226 c227),.blk b39 26 B4,B0,B5,B6,.row A2126 c2127 3 1 (nA KL.encI [x312])] W2165:=hS2166
            exact ko1764 _ _ ⟨U2131,A2126,c2127,A2163,c2164,pA2160,pc2161,b2154,off2155 + k283 * 1,f2134,f2135,f2136,f2137,f2138,f2139,f2140,f2141,f2142,f2143,f2144,f2146,f2147,rfl,f2148,f2149,f2150,f2151,f2152,rfl,le2132,(hS2167.pick [1,2,3,4,5,6,7,8,0] _ (by decide) rfl),h2162,hC2157⟩
           ·exact ZE Z Z Z Z (hS2133.ldC (f:=0) hC2157 (v:=.slice pA2160 x322.length pc2161) Z Z zR Z) (ko1615 _ _ ⟨U2131,A2126,c2127,pA2160,pc2161,b2154,off2155 + k283 * 1,pA2160,pc2161,f2134,f2135,f2136,f2137,f2138,f2139,f2140,f2141,f2142,f2143,f2144,f2145,f2146,f2147,f2148,f2149,f2150,f2151,f2152,Z,Z,le2132,hS2133,h2162,hC2157,h2162⟩)
          refine zw (s:=.fl 14 (.fx 8 (.fl 10 (.fx 11 (.fx 12 (.fx 13 (.fx 15 (.fl 16 (.fx 17 (.nil) (.stop))) (.stop)) (.stop)) (.stop)) (.stop))) (.stop))) (M:=fun σ_ w_=>∃ (U_:PHeap) (A2187:Option Addr) (c2188:Nat) (A2189:Option Addr) (c2190:Nat),σ_ 3=.pointer (some ⟨b39,0,none⟩)/\σ_ 4=.slice A67 x57.length c68/\σ_ 6=.slice A83 x73.length c84/\σ_ 8=.map (some b94)/\σ_ 13=.pointer (some ⟨b241,0,none⟩)/\σ_ 14=jV (↑k283:Int)/\σ_ 15=jV x312/\σ_ 135=.slice A26 x16.Bibs.length c27/\σ_ 136=jV (↑x16.Bibs.length:Int)/\σ_ 137=jV (↑k283:Int)/\σ_ 199=.pointer (some ⟨b241,1,none⟩)/\σ_ 201=jV x312/\σ_ 202=.slice A2187 ([x312].length) c2188/\σ_ 203=.slice A2189 x482.length c2190/\σ_ 204=.pointer (some ⟨b241,2,none⟩)/\σ_ 205=.slice A279 l278.length c280/\σ_ 206=.pointer (some ⟨b39,2,none⟩)/\σ_ 208=jV (↑k283:Int)/\PHeap.Le U418 U_/\sW w U U_ [B10,B9,.obj b94 (.map e226 c227),.blk b39 26 B4,B0,B5,B6,.row A2187 c2188 3 1 (nA KL.encI [x312]),.row A2189 c2190 3 1 (nA KL.encI x482)] w_) ?_ fun ko2191=>?_
          ·rintro σ2192 W2193 ⟨U2194,A2187,c2188,A2189,c2190,f2197,f2198,f2199,f2200,f2201,f2202,f2203,f2204,f2205,f2206,f2207,f2208,f2209,f2210,f2211,f2212,f2213,f2214,le2195,hS2196⟩
           exact oR Z (zO Z f2201 zD Z zF) (ZE Z Z Z Z (hS2196.ldB (j:=3) Z Z f2213 zX (v:=.slice A28 x16.Times.length c29) Z) (ko1808 _ _ ⟨U2194,A2187,c2188,A2189,c2190,f2197,f2198,f2199,f2200,f2201,f2202,f2203,f2204,f2205,f2206,f2207,f2208,f2209,f2210,f2211,f2212,f2213,Z,f2214,Z,le2195,hS2196⟩))
          refine zw (s:=.fx 4 (.fl 14 (.fx 8 (.fl 10 (.fx 11 (.fx 12 (.fx 13 (.fx 15 (.fl 16 (.fx 17 (.nil) (.stop))) (.stop)) (.stop)) (.stop)) (.stop))) (.stop))) (.fx 8 (.fl 10 (.fx 4 (.fl 14 (.fx 11 (.fx 12 (.fx 13 (.fx 15 (.fl 16 (.fx 17 (.nil) (.stop))) (.stop)) (.stop)) (.stop)) (.stop))) (.fx 11 (.fx 4 (.fl 14 (.fx 12 (.fx 13 (.fx 15 (.fl 16 (.fx 17 (.nil) (.stop))) (.stop)) (.stop)) (.stop))) (.fx 12 (.fx 4 (.fl 14 (.fx 13 (.fx 15 (.fl 16 (.fx 17 (.nil) (.stop))) (.stop)) (.stop))) (.stop)) (.stop))) (.stop)))) (.stop))) (M:=fun σ_ w_=>∃ (U_:PHeap) (A2219:Option Addr) (c2220:Nat),σ_ 3=.pointer (some ⟨b39,0,none⟩)/\σ_ 4=.slice A67 x57.length c68/\σ_ 6=.slice A83 x73.length c84/\σ_ 8=.map (some b94)/\σ_ 13=.pointer (some ⟨b241,0,none⟩)/\σ_ 14=jV (↑k283:Int)/\σ_ 15=jV x312/\σ_ 135=.slice A26 x16.Bibs.length c27/\σ_ 136=jV (↑x16.Bibs.length:Int)/\σ_ 137=jV (↑k283:Int)/\σ_ 199=.pointer (some ⟨b241,1,none⟩)/\σ_ 200=.slice A275 l274.length c276/\σ_ 201=jV x312/\σ_ 202=.slice A2219 ([x312].length) c2220/\σ_ 204=.pointer (some ⟨b241,2,none⟩)/\σ_ 205=.slice A279 l278.length c280/\σ_ 206=.pointer (some ⟨b39,2,none⟩)/\σ_ 208=jV (↑k283:Int)/\PHeap.Le U418 U_/\sW w U U_ [B11,B10,B9,.obj b94 (.map e226 c227),.blk b39 26 B4,B0,B5,B6,.row A2219 c2220 3 1 (nA KL.encI [x312])] w_) ?_ fun ko2221=>?_
          ·rintro σ2222 W2223 ⟨U2224,A2219,c2220,f2227,f2228,f2229,f2230,f2231,f2232,f2233,f2234,f2235,f2236,f2237,f2238,f2239,f2240,f2241,f2242,f2243,f2244,le2225,hS2226⟩
           refine zk ?_ ?_
           ·refine ZS (j:=0) (enc:=KL.encI) (xs:=l274) (ys:=[x312]) (zs:=x482) rfl rfl rfl rfl rfl zz wCP rfl rfl rfl rfl rfl rfl hS2226 rfl f2238 f2240 (hS2226.srcR (j:=8) rfl (by decide) (wAF (f:=KL.encI) (sz:=1) (fun _=>rfl) [x312])) (fun _=>rfl) (fun _=>rfl) h483 rfl ?_
            intro A2245 c2246 W2247 hS2248
            have hS2249:sW w U U2224 [.row A2245 c2246 3 1 (nA KL.encI x482),B10,B9,.obj b94 (.map e226 c227),.blk b39 26 B4,B0,B5,B6,.row A2219 c2220 3 1 (nA KL.encI [x312])] W2247:=hS2248
            exact ko2191 _ _ ⟨U2224,A2219,c2220,A2245,c2246,f2227,f2228,f2229,f2230,f2231,f2232,f2233,f2234,f2235,f2236,f2237,f2239,f2240,rfl,f2241,f2242,f2243,f2244,le2225,(hS2249.pick [1,2,3,4,5,6,7,8,0] _ (by decide) rfl)⟩
           ·exact ZE Z Z Z Z (hS2226.ldB (j:=4) Z Z f2243 zX (v:=.slice A28 x16.Times.length c29) Z) (ko2128 _ _ ⟨U2224,A2219,c2220,f2227,f2228,f2229,f2230,f2231,f2232,f2233,f2234,f2235,f2236,f2237,f2238,f2239,f2240,f2241,f2242,f2243,Z,f2244,le2225,hS2226⟩)
          refine oR Z (zO Z f425 zD Z zF) (oL Z (hS524.ldB (j:=2) Z Z Z zR (v:=.slice A275 l274.length c276) Z) (oM Z f427 (oR Z (zO Z f425 zD Z ZH) (oR Z (zO Z f421 zD Z ZH) (oM Z f426 (zk ?_ ?_))))))
          ·refine zW (pv:=[(0,jV x312)]) (zs:=[jV 0]) (cs:=[jV x312]) Z Z Z Z Z (wAL Z wAT) zA zB zu Z Z Z Z Z hS524 ?_
           intro W2256 b2257 hS2258
           let B18:Res:=.row (some ⟨b2257,0,none⟩) 1 3 1 (nA KL.encI [x312])
           have hS2260:sW w U U418 [B18,B11,B10,B9,.obj b94 (.map e226 c227),.blk b39 26 B4,B0,B5,B6] W2256:=hS2258
           refine zk ?_ ?_
           ·refine ZS (j:=1) (enc:=KL.encI) (xs:=l274) (ys:=[x312]) (zs:=x482) rfl rfl rfl rfl rfl zz wCP rfl rfl rfl rfl rfl rfl hS2260 rfl rfl rfl (hS2260.srcR (j:=0) rfl (by decide) (wAF (f:=KL.encI) (sz:=1) (fun _=>rfl) [x312])) (fun _=>rfl) (fun _=>rfl) h483 rfl ?_
            intro A2261 c2262 W2263 hS2264
            have hS2265:sW w U U418 [B18,.row A2261 c2262 3 1 (nA KL.encI x482),B10,B9,.obj b94 (.map e226 c227),.blk b39 26 B4,B0,B5,B6] W2263:=hS2264
            refine zk ?_ ?_
            ·exact ZE rfl rfl rfl rfl (hS2265.ldB (j:=3) rfl rfl rfl zX (v:=.slice A279 l278.length c280) rfl) (ko2191 _ _ ⟨U418,(some ⟨b2257,0,none⟩),1,A2261,c2262,f421,f422,f423,f424,f425,f426,f427,f430,f431,f432,rfl,rfl,rfl,rfl,rfl,rfl,rfl,rfl,(zI _),(hS2265.pick [2,3,4,5,6,7,8,0,1] _ (by decide) rfl)⟩)
            ·refine ZE Z Z Z Z (hS2265.ldB (j:=5) Z Z Z zX (v:=.slice A28 x16.Times.length c29) Z) ?_
             have q:=h443.el (wAP h323)
             obtain ⟨b2270,off2271,vs2274,hA2272,hC2273,hr2275⟩:=q
             obtain ⟨pA2276,pc2277,rfl,h2278⟩:=hr2275
             replace hC2273:Cl U418 b2270 (off2271 + k283 * 1) [.slice pA2276 x322.length pc2277]:=hC2273
             refine oR Z (zo Z Z hA2272 Z zH zF (wAu h323)) (zk ?_ ?_)
             ·exact ZE rfl rfl rfl rfl (hS2265.ldB (j:=3) rfl rfl rfl zX (v:=.slice A279 l278.length c280) rfl) (ko1764 _ _ ⟨U418,(some ⟨b2257,0,none⟩),1,A2261,c2262,pA2276,pc2277,b2270,off2271 + k283 * 1,f421,f422,f423,f424,f425,f426,f427,f430,f431,f432,rfl,rfl,rfl,rfl,rfl,rfl,rfl,rfl,rfl,rfl,(zI _),(hS2265.pick [2,3,4,5,6,7,8,0,1] _ (by decide) rfl),h2278,hC2273⟩)
             ·exact ZE rfl rfl rfl rfl (hS2265.ldC (f:=0) hC2273 (v:=.slice pA2276 x322.length pc2277) rfl rfl zR rfl) (ko1693 _ _ ⟨U418,(some ⟨b2257,0,none⟩),1,A2261,c2262,pA2276,pc2277,b2270,off2271 + k283 * 1,pA2276,pc2277,f421,f422,f423,f424,f425,f426,f427,f430,f431,f432,rfl,rfl,rfl,rfl,rfl,rfl,rfl,rfl,rfl,rfl,(zI _),(hS2265.pick [2,3,4,5,6,7,8,0,1] _ (by decide) rfl),h2278,hC2273,h2278⟩)
           refine zk ?_ ?_
           ·exact ZE rfl rfl rfl rfl (hS2260.ldB (j:=3) rfl rfl rfl zX (v:=.slice A279 l278.length c280) rfl) (ko2221 _ _ ⟨U418,(some ⟨b2257,0,none⟩),1,f421,f422,f423,f424,f425,f426,f427,f430,f431,f432,rfl,rfl,rfl,rfl,rfl,rfl,rfl,rfl,(zI _),(hS2260.pick [1,2,3,4,5,6,7,8,0] _ (by decide) rfl)⟩)
           ·refine ZE Z Z Z Z (hS2260.ldB (j:=5) Z Z Z zX (v:=.slice A28 x16.Times.length c29) Z) ?_
            have q:=h443.el (wAP h323)
            obtain ⟨b2302,off2303,vs2306,hA2304,hC2305,hr2307⟩:=q
            obtain ⟨pA2308,pc2309,rfl,h2310⟩:=hr2307
            replace hC2305:Cl U418 b2302 (off2303 + k283 * 1) [.slice pA2308 x322.length pc2309]:=hC2305
            refine oR Z (zo Z Z hA2304 Z zH zF (wAu h323)) (zk ?_ ?_)
            ·refine ZS (j:=1) (enc:=KL.encI) (xs:=l274) (ys:=[x312]) (zs:=x482) rfl rfl rfl rfl rfl zz wCP rfl rfl rfl rfl rfl rfl hS2260 rfl rfl rfl (hS2260.srcR (j:=0) rfl (by decide) (wAF (f:=KL.encI) (sz:=1) (fun _=>rfl) [x312])) (fun _=>rfl) (fun _=>rfl) h483 rfl ?_
             intro A2311 c2312 W2313 hS2314
             have hS2315:sW w U U418 [B18,.row A2311 c2312 3 1 (nA KL.encI x482),B10,B9,.obj b94 (.map e226 c227),.blk b39 26 B4,B0,B5,B6] W2313:=hS2314
             exact ko2078 _ _ ⟨U418,(some ⟨b2257,0,none⟩),1,A2311,c2312,pA2308,pc2309,b2302,off2303 + k283 * 1,f421,f422,f423,f424,f425,f426,f427,f430,f431,f432,rfl,rfl,rfl,rfl,rfl,rfl,rfl,rfl,rfl,(zI _),(hS2315.pick [2,3,4,5,6,7,8,0,1] _ (by decide) rfl),h2310,hC2305⟩
            refine zk ?_ ?_
            ·exact ZE rfl rfl rfl rfl (hS2260.ldB (j:=3) rfl rfl rfl zX (v:=.slice A279 l278.length c280) rfl) (ko2017 _ _ ⟨U418,(some ⟨b2257,0,none⟩),1,pA2308,pc2309,b2302,off2303 + k283 * 1,f421,f422,f423,f424,f425,f426,f427,f430,f431,f432,rfl,rfl,rfl,rfl,rfl,rfl,rfl,rfl,rfl,rfl,(zI _),(hS2260.pick [1,2,3,4,5,6,7,8,0] _ (by decide) rfl),h2310,hC2305⟩)
            ·exact ZE rfl rfl rfl rfl (hS2260.ldC (f:=0) hC2305 (v:=.slice pA2308 x322.length pc2309) rfl rfl zR rfl) (ko1935 _ _ ⟨U418,(some ⟨b2257,0,none⟩),1,pA2308,pc2309,b2302,off2303 + k283 * 1,pA2308,pc2309,f421,f422,f423,f424,f425,f426,f427,f430,f431,f432,rfl,rfl,rfl,rfl,rfl,rfl,rfl,rfl,rfl,rfl,(zI _),(hS2260.pick [1,2,3,4,5,6,7,8,0] _ (by decide) rfl),h2310,hC2305,h2310⟩)
          refine zk ?_ ?_
          ·refine ZE Z Z Z Z (hS524.ldB (j:=2) Z Z Z zX (v:=.slice A279 l278.length c280) Z) (zk ?_ ?_)
           ·refine zW (pv:=[(0,jV x312)]) (zs:=[jV 0]) (cs:=[jV x312]) Z Z Z Z Z (wAL Z wAT) zA zB zu Z Z Z Z Z hS524 ?_
            intro W2342 b2343 hS2344
            have hS2346:sW w U U418 [.row (some ⟨b2343,0,none⟩) 1 3 1 (nA KL.encI [x312]),B11,B10,B9,.obj b94 (.map e226 c227),.blk b39 26 B4,B0,B5,B6] W2342:=hS2344
            exact ko2221 _ _ ⟨U418,(some ⟨b2343,0,none⟩),1,f421,f422,f423,f424,f425,f426,f427,f430,f431,f432,rfl,rfl,rfl,rfl,rfl,rfl,rfl,rfl,(zI _),(hS2346.pick [1,2,3,4,5,6,7,8,0] _ (by decide) rfl)⟩
           ·refine ZE Z Z Z Z (hS524.ldB (j:=4) Z Z Z zX (v:=.slice A28 x16.Times.length c29) Z) ?_
            have q:=h443.el (wAP h323)
            obtain ⟨b2349,off2350,vs2353,hA2351,hC2352,hr2354⟩:=q
            obtain ⟨pA2355,pc2356,rfl,h2357⟩:=hr2354
            replace hC2352:Cl U418 b2349 (off2350 + k283 * 1) [.slice pA2355 x322.length pc2356]:=hC2352
            refine oR Z (zo Z Z hA2351 Z zH zF (wAu h323)) (zk ?_ ?_)
            ·refine zW (pv:=[(0,jV x312)]) (zs:=[jV 0]) (cs:=[jV x312]) Z Z Z Z Z (wAL Z wAT) zA zB zu Z Z Z Z Z hS524 ?_
             intro W2358 b2359 hS2360
             have hS2362:sW w U U418 [.row (some ⟨b2359,0,none⟩) 1 3 1 (nA KL.encI [x312]),B11,B10,B9,.obj b94 (.map e226 c227),.blk b39 26 B4,B0,B5,B6] W2358:=hS2360
             exact ko2017 _ _ ⟨U418,(some ⟨b2359,0,none⟩),1,pA2355,pc2356,b2349,off2350 + k283 * 1,f421,f422,f423,f424,f425,f426,f427,f430,f431,f432,rfl,rfl,rfl,rfl,rfl,rfl,rfl,rfl,rfl,rfl,(zI _),(hS2362.pick [1,2,3,4,5,6,7,8,0] _ (by decide) rfl),h2357,hC2352⟩
            ·exact ZE Z Z Z Z (hS524.ldC (f:=0) hC2352 (v:=.slice pA2355 x322.length pc2356) Z Z zR Z) (ko1864 _ _ ⟨U418,pA2355,pc2356,b2349,off2350 + k283 * 1,pA2355,pc2356,f421,f422,f423,f424,f425,f426,f427,f430,f431,f432,Z,Z,Z,Z,Z,Z,Z,Z,Z,Z,(zI _),hS524,h2357,hC2352,h2357⟩)
          ·refine ZE Z Z Z Z (hS524.ldB (j:=4) Z Z Z zX (v:=.slice A28 x16.Times.length c29) Z) ?_
           have q:=h443.el (wAP h323)
           obtain ⟨b2378,off2379,vs2382,hA2380,hC2381,hr2383⟩:=q
           obtain ⟨pA2384,pc2385,rfl,h2386⟩:=hr2383
           replace hC2381:Cl U418 b2378 (off2379 + k283 * 1) [.slice pA2384 x322.length pc2385]:=hC2381
           refine oR Z (zo Z Z hA2380 Z zH zF (wAu h323)) (zk ?_ ?_)
           ·refine zW (pv:=[(0,jV x312)]) (zs:=[jV 0]) (cs:=[jV x312]) Z Z Z Z Z (wAL Z wAT) zA zB zu Z Z Z Z Z hS524 ?_
            intro W2387 b2388 hS2389
            let B19:Res:=.row (some ⟨b2388,0,none⟩) 1 3 1 (nA KL.encI [x312])
            have hS2391:sW w U U418 [B19,B11,B10,B9,.obj b94 (.map e226 c227),.blk b39 26 B4,B0,B5,B6] W2387:=hS2389
            refine zk ?_ ?_
            ·refine ZS (j:=1) (enc:=KL.encI) (xs:=l274) (ys:=[x312]) (zs:=x482) rfl rfl rfl rfl rfl zz wCP rfl rfl rfl rfl rfl rfl hS2391 rfl rfl rfl (hS2391.srcR (j:=0) rfl (by decide) (wAF (f:=KL.encI) (sz:=1) (fun _=>rfl) [x312])) (fun _=>rfl) (fun _=>rfl) h483 rfl ?_
             intro A2392 c2393 W2394 hS2395
             have hS2396:sW w U U418 [B19,.row A2392 c2393 3 1 (nA KL.encI x482),B10,B9,.obj b94 (.map e226 c227),.blk b39 26 B4,B0,B5,B6] W2394:=hS2395
             exact ko2078 _ _ ⟨U418,(some ⟨b2388,0,none⟩),1,A2392,c2393,pA2384,pc2385,b2378,off2379 + k283 * 1,f421,f422,f423,f424,f425,f426,f427,f430,f431,f432,rfl,rfl,rfl,rfl,rfl,rfl,rfl,rfl,rfl,(zI _),(hS2396.pick [2,3,4,5,6,7,8,0,1] _ (by decide) rfl),h2386,hC2381⟩
            refine zk ?_ ?_
            ·exact ZE rfl rfl rfl rfl (hS2391.ldB (j:=3) rfl rfl rfl zX (v:=.slice A279 l278.length c280) rfl) (ko2017 _ _ ⟨U418,(some ⟨b2388,0,none⟩),1,pA2384,pc2385,b2378,off2379 + k283 * 1,f421,f422,f423,f424,f425,f426,f427,f430,f431,f432,rfl,rfl,rfl,rfl,rfl,rfl,rfl,rfl,rfl,rfl,(zI _),(hS2391.pick [1,2,3,4,5,6,7,8,0] _ (by decide) rfl),h2386,hC2381⟩)
            ·exact ZE rfl rfl rfl rfl (hS2391.ldC (f:=0) hC2381 (v:=.slice pA2384 x322.length pc2385) rfl rfl zR rfl) (ko1935 _ _ ⟨U418,(some ⟨b2388,0,none⟩),1,pA2384,pc2385,b2378,off2379 + k283 * 1,pA2384,pc2385,f421,f422,f423,f424,f425,f426,f427,f430,f431,f432,rfl,rfl,rfl,rfl,rfl,rfl,rfl,rfl,rfl,rfl,(zI _),(hS2391.pick [1,2,3,4,5,6,7,8,0] _ (by decide) rfl),h2386,hC2381,h2386⟩)
           refine zk ?_ ?_
           ·refine ZE Z Z Z Z (hS524.ldB (j:=2) Z Z Z zX (v:=.slice A279 l278.length c280) Z) (zk ?_ ?_)
            ·refine zW (pv:=[(0,jV x312)]) (zs:=[jV 0]) (cs:=[jV x312]) Z Z Z Z Z (wAL Z wAT) zA zB zu Z Z Z Z Z hS524 ?_
             intro W2423 b2424 hS2425
             have hS2427:sW w U U418 [.row (some ⟨b2424,0,none⟩) 1 3 1 (nA KL.encI [x312]),B11,B10,B9,.obj b94 (.map e226 c227),.blk b39 26 B4,B0,B5,B6] W2423:=hS2425
             exact ko2017 _ _ ⟨U418,(some ⟨b2424,0,none⟩),1,pA2384,pc2385,b2378,off2379 + k283 * 1,f421,f422,f423,f424,f425,f426,f427,f430,f431,f432,rfl,rfl,rfl,rfl,rfl,rfl,rfl,rfl,rfl,rfl,(zI _),(hS2427.pick [1,2,3,4,5,6,7,8,0] _ (by decide) rfl),h2386,hC2381⟩
            ·exact ZE Z Z Z Z (hS524.ldC (f:=0) hC2381 (v:=.slice pA2384 x322.length pc2385) Z Z zR Z) (ko1864 _ _ ⟨U418,pA2384,pc2385,b2378,off2379 + k283 * 1,pA2384,pc2385,f421,f422,f423,f424,f425,f426,f427,f430,f431,f432,Z,Z,Z,Z,Z,Z,Z,Z,Z,Z,(zI _),hS524,h2386,hC2381,h2386⟩)
           ·refine ZE Z Z Z Z (hS524.ldC (f:=0) hC2381 (v:=.slice pA2384 x322.length pc2385) Z Z zR Z) (zk ?_ ?_)
            ·refine zW (pv:=[(0,jV x312)]) (zs:=[jV 0]) (cs:=[jV x312]) Z Z Z Z Z (wAL Z wAT) zA zB zu Z Z Z Z Z hS524 ?_
             intro W2443 b2444 hS2445
             have hS2447:sW w U U418 [.row (some ⟨b2444,0,none⟩) 1 3 1 (nA KL.encI [x312]),B11,B10,B9,.obj b94 (.map e226 c227),.blk b39 26 B4,B0,B5,B6] W2443:=hS2445
             exact ko1935 _ _ ⟨U418,(some ⟨b2444,0,none⟩),1,pA2384,pc2385,b2378,off2379 + k283 * 1,pA2384,pc2385,f421,f422,f423,f424,f425,f426,f427,f430,f431,f432,rfl,rfl,rfl,rfl,rfl,rfl,rfl,rfl,rfl,rfl,(zI _),(hS2447.pick [1,2,3,4,5,6,7,8,0] _ (by decide) rfl),h2386,hC2381,h2386⟩
            refine zk ?_ ?_
            ·exact ZE Z Z Z Z (hS524.ldB (j:=2) Z Z Z zX (v:=.slice A279 l278.length c280) Z) (ko1864 _ _ ⟨U418,pA2384,pc2385,b2378,off2379 + k283 * 1,pA2384,pc2385,f421,f422,f423,f424,f425,f426,f427,f430,f431,f432,Z,Z,Z,Z,Z,Z,Z,Z,Z,Z,(zI _),hS524,h2386,hC2381,h2386⟩)
            ·let B20:List Value:=[.slice pA2384 x322.length pc2385]
             refine zW (pv:=[(0,.slice pA2384 x322.length pc2385)]) (zs:=[.slice none 0 0]) (cs:=B20) Z Z Z Z Z (wAL Z wAT) zH zF ZJ Z Z Z Z Z hS524 ?_
             intro W2466 b2467 hS2468
             have hr2470:RlL U418 wBP [x322] B20:=(RlL.cons (R:=wBP) (x:=x322) (vs:=B20) ⟨pA2384,pc2385,rfl,h2386⟩ RlL.nil)
             let B21:Res:=.row (some ⟨b2467,0,none⟩) 1 23 1 B20
             have hS2471:sW w U U418 [B21,B11,B10,B9,.obj b94 (.map e226 c227),.blk b39 26 B4,B0,B5,B6] W2466:=hS2468
             refine zk ?_ ?_
             ·refine zW (pv:=[(0,jV x312)]) (zs:=[jV 0]) (cs:=[jV x312]) Z Z Z Z Z (wAL Z wAT) zA zB zu Z Z Z Z Z hS2471 ?_
              intro W2472 b2473 hS2474
              have hS2476:sW w U U418 [.row (some ⟨b2473,0,none⟩) 1 3 1 (nA KL.encI [x312]),B21,B11,B10,B9,.obj b94 (.map e226 c227),.blk b39 26 B4,B0,B5,B6] W2472:=hS2474
              exact ko1541 _ _ ⟨U418,(some ⟨b2473,0,none⟩),1,pA2384,pc2385,b2378,off2379 + k283 * 1,pA2384,pc2385,(some ⟨b2467,0,none⟩),1,B20,f421,f422,f423,f424,f425,f426,f427,f430,f431,f432,rfl,rfl,rfl,rfl,rfl,rfl,rfl,rfl,rfl,rfl,rfl,(zI _),(hS2476.pick [2,3,4,5,6,7,8,9,0,1] _ (by decide) rfl),h2386,hC2381,h2386,hr2470⟩
             ·exact ZE rfl rfl rfl rfl (hS2471.ldB (j:=3) rfl rfl rfl zX (v:=.slice A279 l278.length c280) rfl) (ko1479 _ _ ⟨U418,pA2384,pc2385,b2378,off2379 + k283 * 1,pA2384,pc2385,(some ⟨b2467,0,none⟩),1,B20,f421,f422,f423,f424,f425,f426,f427,f430,f431,f432,rfl,rfl,rfl,rfl,rfl,rfl,rfl,rfl,rfl,rfl,rfl,(zI _),(hS2471.pick [1,2,3,4,5,6,7,8,0] _ (by decide) rfl),h2386,hC2381,h2386,hr2470⟩)
     ·rintro ⟨y2505,y2506⟩ σ2501 W2502 ⟨U2512,A2507,c2508,A2509,c2510,c2511,fi2504,f2515,f2516,f2517,f2518,f2519,f2520,f2521,le2513,hS2514,h2522⟩ hb2503
      have hm2523:=wCD hm238 hX285 hb2503
      try dsimp only at hm2523
      have c2524:Hid (¬ ((↑(((↑x16.Bibs.length:Int):Int) - 0).toNat:Int) < (↑x16.Bibs.length:Int))):=zG (wBA)
      refine sR fL1 Z (oR Z (zV Z fi2504 f2521) (eN (zL (cF Z c2524 (ZR (zq (zq (ZO (zK (zL (sR fL4 Z (oR Z (zO Z f2515 zD Z zF) (oL Z (hS2514.ldB (j:=4) Z Z Z zR (v:=.slice A26 x16.Bibs.length c27) Z) (oR Z (zy Z Z zA) (oM Z Z (eN (zf ?_)))))))))))))))))
      have q:=hS2514.freezeR (k:=6) (n:=x57.length) rfl (wAF (f:=wAG) (sz:=4) (fun _=>rfl) x57) (by decide)
      obtain ⟨U2526,le2527,hs2528,hS2529⟩:=q
      let B22:Res:=.blk b241 26 [jV x16.Laps,.slice A2507 y2505.length c2508,.slice A2509 y2506.length c2510]
      let B23:Res:=.row A2507 c2508 3 1 (nA KL.encI y2505)
      let B24:Res:=.row A2509 c2510 23 1 c2511
      have hS2530:sW w U U2526 [B23,B24,B22,.obj b94 (.map e226 c227),.blk b39 26 B4,B0,B6] W2502:=hS2529
      have q:=wBb hm2523
      obtain ⟨r2534,hX2535⟩:=q
      have q:=wBa hX2535
      obtain ⟨hle2536,hf2537⟩:=q
      replace hle2536:=zG hle2536
      refine Zd (fun k2533 _ σ_ w_=>∃ (U_:PHeap),σ_ 219=jV (↑k2533:Int)/\σ_ 3=.pointer (some ⟨b39,0,none⟩)/\σ_ 4=.slice A67 x57.length c68/\σ_ 6=.slice A83 x73.length c84/\σ_ 8=.map (some b94)/\σ_ 13=.pointer (some ⟨b241,0,none⟩)/\σ_ 217=.slice A26 x16.Bibs.length c27/\σ_ 218=jV (↑x16.Bibs.length:Int)/\PHeap.Le U2526 U_/\sW w U U_ [B23,B24,B22,.obj b94 (.map e226 c227),.blk b39 26 B4,B0,B6] w_) hf2537 ?_ ?_ ?_
      ·exact ⟨U2526,Z,f2515,f2516,f2517,f2518,f2519,Z,Z,(zI _),hS2530⟩
      ·rintro k2533 ⟨⟩ xx2540 σ2538 W2539 hk2543 ⟨U2545,fi2544,f2548,f2549,f2550,f2551,f2552,f2553,f2554,le2546,hS2547⟩ hx2541 hb2542
       try dsimp only at hx2541
       have c2555:Hid ((↑k2533:Int) < (↑x16.Bibs.length:Int)):=zG (wBQ hk2543)
       replace hk2543:=zG hk2543
       have hi2556:Hid (w64 ((↑k2533:Int) + 1)=(↑(k2533 + 1):Int)):=zG (by have h1:=hle2536.out;have h2:=c2555.out;rw [wAa] <;> omega)
       refine sR fL1 Z (oR Z (zV Z fi2544 f2554) (eN (zL (cT Z c2555 (kN (zL (zf (sR fL5 Z (oM Z fi2544 (bnK hx2541 fun x2557 h2558 hm2559=>?_))))))))))
       have h2560:=h71.le le81
       have h2561:=h2560.le le229
       have h2562:=h2561.le le2513
       have h2563:=h2562.le le2527
       have h2564:=h2563.le le2546
       have q:=h2564.el (fun _=>rfl) (wAP h2558)
       obtain ⟨b2565,off2566,hA2567,hC2568⟩:=q
       refine oR Z (zo Z f2553 hA2567 fi2544 zA zB (wAu h2558)) (oL Z (hS2547.ldC (f:=0) hC2568 (v:=jV x2557) Z Z zN Z) (oA Z Z (oA Z Z (eN (sR fL5 Z (oM Z f2550 (oM Z Z (bnK hm2559 fun _ h2569 hm2570=>?_))))))))
       obtain ⟨b2571,hA2572⟩:=hS2547.rowSome (j:=6) rfl (by rw [wAF (f:=KL.encI) (sz:=1) (fun _=>rfl) x73];have hz:=wAd h2569;omega)
       refine oR Z (zo Z Z hA2572 Z zA zB (wAd h2569)) ?_
       have hg2573:=wBW (xs:=x73) (wAd h2569)
       refine ZB rfl rfl rfl rfl (hS2547.ldR (j:=6) rfl hA2572 rfl rfl zN (wAW (sz:=1) (fun _=>rfl) _ _ 0 _ hg2573 (by first | omega | rfl | simp) rfl)) rfl (zQ rfl rfl rfl rfl rfl rfl (eN (zf ?_)))
       have q:=wBb hm2570
       obtain ⟨r2577,hX2578⟩:=q
       have q:=wBa hX2578
       obtain ⟨hle2579,hf2580⟩:=q
       replace hle2579:=zG hle2579
       refine Zd (fun k2576 _ σ_ w_=>∃ (U_:PHeap),σ_ 228=jV (↑k2576:Int)/\σ_ 3=.pointer (some ⟨b39,0,none⟩)/\σ_ 4=.slice A67 x57.length c68/\σ_ 6=.slice A83 x73.length c84/\σ_ 8=.map (some b94)/\σ_ 13=.pointer (some ⟨b241,0,none⟩)/\σ_ 19=jV (↑k2533:Int)/\σ_ 20=jV x2557/\σ_ 217=.slice A26 x16.Bibs.length c27/\σ_ 218=jV (↑x16.Bibs.length:Int)/\σ_ 219=jV (↑k2533:Int)/\σ_ 227=jV (gd x73 k2533)/\PHeap.Le U2545 U_/\sW w U U_ [B23,B24,B22,.obj b94 (.map e226 c227),.blk b39 26 B4,B0,B6] w_) hf2580 ?_ ?_ ?_
       ·exact ⟨U2545,Z,f2548,f2549,f2550,f2551,f2552,Z,Z,f2553,f2554,fi2544,Z,(zI _),hS2547⟩
       ·rintro k2576 ⟨⟩ xx2583 σ2581 W2582 hk2586 ⟨U2588,fi2587,f2591,f2592,f2593,f2594,f2595,f2596,f2597,f2598,f2599,f2600,f2601,le2589,hS2590⟩ hx2584 hb2585
        try dsimp only at hx2584
        have c2602:Hid ((↑k2576:Int) < (gd x73 k2533)):=zG (wBQ hk2586)
        replace hk2586:=zG hk2586
        have hi2603:Hid (w64 ((↑k2576:Int) + 1)=(↑(k2576 + 1):Int)):=zG (by have h1:=hle2579.out;have h2:=c2602.out;rw [wAa] <;> omega)
        refine sR fL1 Z (oR Z (zV Z fi2587 f2601) (eN (zL (cT Z c2602 (kN (zL (zf (sR fL2 Z (oM Z fi2587 (oA Z Z (eN (sR fL9 Z (oR Z (zO Z f2591 zD Z ZH) (oL Z (hS2590.ldB (j:=4) Z Z Z zX (v:=.slice A28 x16.Times.length c29) Z) (oM Z f2596 (bnK hx2584 fun x2604 h2605 hm2606=>?_))))))))))))))))
        have h2607:=h72.le le81
        have h2608:=h2607.le le229
        have h2609:=h2608.le le2513
        have h2610:=h2609.le le2527
        have h2611:=h2610.le le2546
        have h2612:=h2611.le le2589
        have q:=h2612.el (wAP h2605)
        obtain ⟨b2613,off2614,vs2617,hA2615,hC2616,hr2618⟩:=q
        obtain ⟨pA2619,pc2620,rfl,h2621⟩:=hr2618
        replace hC2616:Cl U2588 b2613 (off2614 + k2533 * 1) [.slice pA2619 x2604.length pc2620]:=hC2616
        refine oR Z (zo Z Z hA2615 Z zH zF (wAu h2605)) (oL Z (hS2590.ldC (f:=0) hC2616 (v:=.slice pA2619 x2604.length pc2620) Z Z zR Z) (oM Z Z (bnK hm2606 fun x2622 h2623 hm2624=>?_)))
        have q:=h2621.el (fun _=>rfl) (wAP h2623)
        obtain ⟨b2625,off2626,hA2627,hC2628⟩:=q
        refine oR Z (zo Z Z hA2627 Z zA zB (wAu h2623)) (oL Z (hS2590.ldC (f:=0) hC2628 (v:=jV x2622) Z Z zN Z) (oA Z Z (eN (sR fL4 Z (oR Z (zO Z f2591 zD Z zF) (oL Z (hS2590.ldB (j:=4) Z Z Z zR (v:=.slice A26 x16.Bibs.length c27) Z) (oR Z (zy Z Z zA) (oM Z Z (eN (zf ?_))))))))))
        have q:=wBb hm2624
        obtain ⟨r2632,hX2633⟩:=q
        have q:=wBa hX2633
        obtain ⟨hle2634,hf2635⟩:=q
        replace hle2634:=zG hle2634
        refine Zd (fun k2631 _ σ_ w_=>∃ (U_:PHeap),σ_ 242=jV (↑k2631:Int)/\σ_ 3=.pointer (some ⟨b39,0,none⟩)/\σ_ 4=.slice A67 x57.length c68/\σ_ 6=.slice A83 x73.length c84/\σ_ 8=.map (some b94)/\σ_ 13=.pointer (some ⟨b241,0,none⟩)/\σ_ 19=jV (↑k2533:Int)/\σ_ 20=jV x2557/\σ_ 21=jV (↑k2576:Int)/\σ_ 22=jV x2622/\σ_ 217=.slice A26 x16.Bibs.length c27/\σ_ 218=jV (↑x16.Bibs.length:Int)/\σ_ 219=jV (↑k2533:Int)/\σ_ 227=jV (gd x73 k2533)/\σ_ 228=jV (↑k2576:Int)/\σ_ 240=.slice A26 x16.Bibs.length c27/\σ_ 241=jV (↑x16.Bibs.length:Int)/\PHeap.Le U2588 U_/\sW w U U_ [B23,B24,B22,.obj b94 (.map e226 c227),.blk b39 26 B4,B0,B6] w_) hf2635 ?_ ?_ ?_
        ·exact ⟨U2588,Z,f2591,f2592,f2593,f2594,f2595,f2596,f2597,Z,Z,f2598,f2599,f2600,f2601,fi2587,Z,Z,(zI _),hS2590⟩
        ·rintro k2631 ⟨⟩ xx2638 σ2636 W2637 hk2641 ⟨U2643,fi2642,f2646,f2647,f2648,f2649,f2650,f2651,f2652,f2653,f2654,f2655,f2656,f2657,f2658,f2659,f2660,f2661,le2644,hS2645⟩ hx2639 hb2640
         try dsimp only at hx2639
         have c2662:Hid ((↑k2631:Int) < (↑x16.Bibs.length:Int)):=zG (wBQ hk2641)
         replace hk2641:=zG hk2641
         have hi2663:Hid (w64 ((↑k2631:Int) + 1)=(↑(k2631 + 1):Int)):=zG (by have h1:=hle2634.out;have h2:=c2662.out;rw [wAa] <;> omega)
         refine sR fL1 Z (oR Z (zV Z fi2642 f2661) (eN (zL (cT Z c2662 (kN (zL (zf (sR (wLU (.fx 3 (.fl 4 (.fx 5 (.nil) .stop)) .stop)) Z (oM Z fi2642 (bnK hx2639 fun x2664 h2665 hm2666=>?_))))))))))
         have h2667:=h2564.le le2589
         have h2668:=h2667.le le2644
         have q:=h2668.el (fun _=>rfl) (wAP h2665)
         obtain ⟨b2669,off2670,hA2671,hC2672⟩:=q
         refine oR Z (zo Z f2660 hA2671 fi2642 zA zB (wAu h2665)) (oL Z (hS2645.ldC (f:=0) hC2672 (v:=jV x2664) Z Z zN Z) (Zc (cs:=[jV 0]) Z Z Z Z Z zu Z hS2645 ?_))
         intro W2673 b2674 hS2675
         refine oA Z Z (OKS.st (j:=0) (vs:=[jV x2664]) Z Z Z Z hS2675 Z Z Z Z zB (zm Z) Z Z Z ?_)
         intro W2677 hS2678
         let B25:Res:=.blk b2674 3 [jV x2664]
         have hS2679:sW w U U2643 [B25,B23,B24,B22,.obj b94 (.map e226 c227),.blk b39 26 B4,B0,B6] W2677:=hS2678
         refine eN (sR fL1 Z (oA Z Z (eN (zL (sR fL7 Z (oR Z (zO Z f2646 zD Z ZH) (oL Z (hS2679.ldB (j:=5) Z Z Z zX (v:=.slice A28 x16.Times.length c29) Z) (oM Z Z (bnK hm2666 fun x2680 h2681 hm2682=>?_)))))))))
         have h2683:=h2612.le le2644
         have q:=h2683.el (wAP h2681)
         obtain ⟨b2684,off2685,vs2688,hA2686,hC2687,hr2689⟩:=q
         obtain ⟨pA2690,pc2691,rfl,h2692⟩:=hr2689
         replace hC2687:Cl U2643 b2684 (off2685 + k2631 * 1) [.slice pA2690 x2680.length pc2691]:=hC2687
         refine oR Z (zo Z Z hA2686 Z zH zF (wAu h2681)) (oL Z (hS2679.ldC (f:=0) hC2687 (v:=.slice pA2690 x2680.length pc2691) Z Z zR Z) (oR Z (zy Z Z zA) (oM Z Z (eN (zf (bnK hm2682 fun y2704 hf2701 hm2700=>?_))))))
         have q:=wBw hf2701
         obtain ⟨hle2702,hf2703⟩:=q
         replace hle2702:=zG hle2702
         refine CK.forN' (fun k2699 x2698 σ_ w_=>∃ (U_:PHeap),σ_ 253=jV (↑k2699:Int)/\σ_ 3=.pointer (some ⟨b39,0,none⟩)/\σ_ 4=.slice A67 x57.length c68/\σ_ 6=.slice A83 x73.length c84/\σ_ 8=.map (some b94)/\σ_ 13=.pointer (some ⟨b241,0,none⟩)/\σ_ 19=jV (↑k2533:Int)/\σ_ 20=jV x2557/\σ_ 21=jV (↑k2576:Int)/\σ_ 22=jV x2622/\σ_ 24=.pointer (some ⟨b2674,0,none⟩)/\σ_ 25=jV x2698/\σ_ 217=.slice A26 x16.Bibs.length c27/\σ_ 218=jV (↑x16.Bibs.length:Int)/\σ_ 219=jV (↑k2533:Int)/\σ_ 227=jV (gd x73 k2533)/\σ_ 228=jV (↑k2576:Int)/\σ_ 240=.slice A26 x16.Bibs.length c27/\σ_ 241=jV (↑x16.Bibs.length:Int)/\σ_ 242=jV (↑k2631:Int)/\σ_ 251=.slice pA2690 x2680.length pc2691/\σ_ 252=jV (↑x2680.length:Int)/\PHeap.Le U2643 U_/\sW w U U_ [B25,B23,B24,B22,.obj b94 (.map e226 c227),.blk b39 26 B4,B0,B6] w_) hf2703 ?_ ?_ ?_
         ·exact ⟨U2643,Z,f2646,f2647,f2648,f2649,f2650,f2651,f2652,f2653,f2654,Z,Z,f2655,f2656,f2657,f2658,f2659,f2660,f2661,fi2642,Z,Z,(zI _),hS2679⟩
         ·rintro k2699 x2698 xx2707 σ2705 W2706 hk2710 ⟨U2712,fi2711,f2715,f2716,f2717,f2718,f2719,f2720,f2721,f2722,f2723,f2724,f2725,f2726,f2727,f2728,f2729,f2730,f2731,f2732,f2733,f2734,f2735,le2713,hS2714⟩ hx2708
          have c2736:Hid ((↑k2699:Int) < (↑x2680.length:Int)):=zG (wBQ hk2710)
          replace hk2710:=zG hk2710
          have hi2737:Hid (w64 ((↑k2699:Int) + 1)=(↑(k2699 + 1):Int)):=zG (by have h1:=hle2702.out;have h2:=c2736.out;rw [wAa] <;> omega)
          refine sR fL1 Z (oR Z (zV Z fi2711 f2735) (eN (zL (cT Z c2736 (kN (zL (zf (sR fL3 Z (bnK hx2708 fun x2738 h2739 hm2740=>?_)))))))))
          have h2741:=h2692.le le2713
          have q:=h2741.el (fun _=>rfl) (wAP h2739)
          obtain ⟨b2742,off2743,hA2744,hC2745⟩:=q
          refine oR Z (zo Z f2734 hA2744 fi2711 zA zB (wAu h2739)) (oL Z (hS2714.ldC (f:=0) hC2745 (v:=jV x2738) Z Z zN Z) (oA Z Z (eN (sR fL3 Z (oM Z Z (oM Z f2723 (oR Z (Runs.leq Z Z Z) (eN (ifc hm2740 ?_ ?_)))))))))
          ·intro c2746 hm2747
           refine cT Z c2746 (rR fL3 Z (oM Z f2725 (oR Z (zU Z Z Z) (oA Z Z (ZA (zt (zK (rR fL2 Z (oR Z (ZD (zU Z fi2711 Z) (congrArg (jV) hi2737.out)) (oM Z Z (ZA ?_)))))))))))
           cases hm2747
           exact zK ⟨Z,⟨U2712,Z,f2715,f2716,f2717,f2718,f2719,f2720,f2721,f2722,f2723,f2724,Z,f2726,f2727,f2728,f2729,f2730,f2731,f2732,f2733,f2734,f2735,le2713,hS2714⟩⟩
          ·intro c2746 hm2749
           refine cF Z c2746 (ZQ (zt (zK (rR fL2 Z (oR Z (ZD (zU Z fi2711 Z) (congrArg (jV) hi2737.out)) (oM Z Z (ZA ?_)))))))
           cases hm2749
           exact zK ⟨Z,⟨U2712,Z,f2715,f2716,f2717,f2718,f2719,f2720,f2721,f2722,f2723,f2724,f2725,f2726,f2727,f2728,f2729,f2730,f2731,f2732,f2733,f2734,f2735,le2713,hS2714⟩⟩
         ·rintro σ2751 W2752 ⟨U2756,fi2754,f2759,f2760,f2761,f2762,f2763,f2764,f2765,f2766,f2767,f2768,f2769,f2770,f2771,f2772,f2773,f2774,f2775,f2776,f2777,f2778,f2779,le2757,hS2758⟩
          have c2780:Hid (¬ ((↑(((↑x2680.length:Int):Int) - 0).toNat:Int) < (↑x2680.length:Int))):=zG (wBA)
          refine sR fL1 Z (oR Z (zV Z fi2754 f2779) (eN (zL (cF Z c2780 (ZR (zq (zq (ZO (zK (sR fL8 Z (oM Z f2762 (oL Z (hS2758.ldB (j:=0) Z Z f2768 zN (v:=jV x2664) Z) (oL Z (hS2758.lookup2 (j:=4) (mk:=wNu) (mv:=wOR) (a:=x2664) (z:=0) Z Z Z Z (wCE Tryz.runUnderlying36) wIb zu h237) (oM Z Z (oR Z (Za Z Z (v:=jV (wBj y225 x2664 0)) Z) (oR Z (Za Z Z (v:=.bool (wDs y225 x2664)) Z) (oA Z Z (oA Z Z (eN (zL (sR fL6 Z (oM Z f2766 (oR Z (zU Z Z Z) (oM Z f2769 (oR Z (zU Z Z Z) (oR Z (Runs.geq Z Z Z) (oA Z Z (eN (bnK hm2700 fun b2781 hx2783 hm2784=>CK.cut (fun σ_ w_=>∃ (U_:PHeap),σ_ 3=.pointer (some ⟨b39,0,none⟩)/\σ_ 4=.slice A67 x57.length c68/\σ_ 6=.slice A83 x73.length c84/\σ_ 8=.map (some b94)/\σ_ 13=.pointer (some ⟨b241,0,none⟩)/\σ_ 19=jV (↑k2533:Int)/\σ_ 20=jV x2557/\σ_ 21=jV (↑k2576:Int)/\σ_ 22=jV x2622/\σ_ 24=.pointer (some ⟨b2674,0,none⟩)/\σ_ 25=jV y2704/\σ_ 28=jV (wBj y225 x2664 0)/\σ_ 29=.bool (wDs y225 x2664)/\σ_ 217=.slice A26 x16.Bibs.length c27/\σ_ 218=jV (↑x16.Bibs.length:Int)/\σ_ 219=jV (↑k2533:Int)/\σ_ 227=jV (gd x73 k2533)/\σ_ 228=jV (↑k2576:Int)/\σ_ 240=.slice A26 x16.Bibs.length c27/\σ_ 241=jV (↑x16.Bibs.length:Int)/\σ_ 242=jV (↑k2631:Int)/\σ_ 283=.bool b2781/\PHeap.Le U2756 U_/\sW w U U_ [B25,B23,B24,B22,.obj b94 (.map e226 c227),.blk b39 26 B4,B0,B6] w_) ?_ ?_)))))))))))))))))))))))))))))
          ·refine rR fL10 Z (oM Z Z (oM Z Z ?_))
           by_cases c2785:(w64 (y2704 + 2)) <= (w64 ((↑k2576:Int) + 1))
           ·have hm2786:=hx2783;rw [if_pos c2785] at hm2786;replace c2785:=zG c2785
            refine zQ Z Z Z (wT Z c2785) Z Z (rU Z (wT Z c2785) (ZX Z Z) (zQ Z Z Z (wT Z c2785) Z Z (ifc hm2786 ?_ ?_)))
            ·intro c2787 hm2788
             refine zQ Z Z Z (zP Z Z (nC c2787.out)) Z Z (zQ Z Z Z (zP Z Z (nC c2787.out)) Z f2767 (zZ Z Z Z (zP Z Z (nC c2787.out)) (fun _=>Runs.gtr Z Z Z) (rU Z (wT Z c2785) (zg Z (nC c2787.out) Z) (oR Z (ze Z (ZU c2785.out) Z) (ZA ?_)))))
             obtain rfl:=nB hm2788
             exact zK ⟨Z,⟨U2756,f2759,f2760,f2761,f2762,f2763,f2764,f2765,f2766,f2767,f2768,f2769,Z,Z,f2770,f2771,f2772,f2773,f2774,f2775,f2776,f2777,Z,(zI _),hS2758⟩⟩
            ·intro c2787 hm2790
             refine zC Z Z Z (zn Z Z (nF (c2787.out)) Z) (zC Z Z Z (zn Z Z (nF (c2787.out)) Z) (zC Z Z Z (zn Z Z (nF (c2787.out)) Z) (rU Z (wT Z c2785) (ze Z (nF (c2787.out)) Z) (oR Z (ze Z (ZU c2785.out) Z) (ZA ?_)))))
             cases hm2790
             exact zK ⟨Z,⟨U2756,f2759,f2760,f2761,f2762,f2763,f2764,f2765,f2766,f2767,f2768,f2769,Z,Z,f2770,f2771,f2772,f2773,f2774,f2775,f2776,f2777,Z,(zI _),hS2758⟩⟩
           ·have hm2792:=hx2783;rw [if_neg c2785] at hm2792;replace c2785:=zG c2785
            refine oF Z c2785 (oF Z c2785 (oF Z c2785 (zC Z Z Z (wAA Z Z Z) (zC Z Z Z (wAA Z Z Z) (zC Z Z Z (wAA Z Z Z) (oF Z c2785 (oR Z (zg Z (ZK c2785.out) Z) (ZA ?_))))))))
            cases hm2792
            exact zK ⟨Z,⟨U2756,f2759,f2760,f2761,f2762,f2763,f2764,f2765,f2766,f2767,f2768,f2769,Z,Z,f2770,f2771,f2772,f2773,f2774,f2775,f2776,f2777,Z,(zI _),hS2758⟩⟩
          ·rintro σ2794 W2795 ⟨U2796,f2799,f2800,f2801,f2802,f2803,f2804,f2805,f2806,f2807,f2808,f2809,f2810,f2811,f2812,f2813,f2814,f2815,f2816,f2817,f2818,f2819,f2820,le2797,hS2798⟩
           refine ifc hm2784 ?_ ?_
           ·intro c2821 hm2822
            refine ZM (f2820.trans (congrArg nD c2821.out)) (sR fL1 Z (oA Z Z (eN (zY (zJ (zS (zJ ?_)))))))
            have q:=wAV hm2822
            obtain ⟨v2823,hm2824,e2825⟩:=q
            obtain rfl:=wBF hm2624 hX2633 (hb2640 v2823 e2825)
            refine zJ (zS (zS (zJ ?_)))
            have q:=wAV hm2824
            obtain ⟨v2826,hm2827,e2828⟩:=q
            obtain rfl:=wBF hm2570 hX2578 (hb2585 v2826 e2828)
            refine zJ (zS (zS (zJ ?_)))
            have q:=wAV hm2827
            obtain ⟨v2829,hm2830,e2831⟩:=q
            obtain rfl:=wBF hm2523 hX2535 (hb2542 v2829 e2831)
            refine zJ (zS (zJ ?_))
            have hE:=nB hm2830;first | subst r | cases hE
            exact ⟨rfl,_,(ZC rfl),U2796,_,(hS2798.pick [] _ (by decide) rfl),rfl,rfl⟩
           ·intro c2821 hm2832
            refine ZN (f2820.trans (congrArg nD (nE.2 c2821.out))) (kN (sR fL6 Z (oM Z f2811 (oM Z Z (ifc hm2832 ?_ ?_)))))
            ·intro c2833 hm2834
             refine zQ Z Z Z (zP Z Z (congrArg nD c2833.out)) Z f2810 (zQ Z Z Z (zP Z Z (congrArg nD c2833.out)) Z f2807 (zZ Z Z Z (zP Z Z (congrArg nD c2833.out)) (fun _=>Runs.eql Z Z Z) (oR Z (ze Z (congrArg nD c2833.out) Z) (eN (ifc hm2834 ?_ ?_)))))
             ·intro c2835 hm2836
              refine cT Z c2835 (sR (.fl 0 (.fl 1 (.fx 2 (.fl 3 (.nil)) .stop))) Z (oM Z f2800 ?_))
              have q:=hS2798.freeze (k:=0) rfl
              obtain ⟨U2837,le2838,hC2839,hS2840⟩:=q
              replace hC2839:=Cl.of hC2839
              have hS2841:sW w U U2837 [B23,B24,B22,.obj b94 (.map e226 c227),.blk b39 26 B4,B0,B6] W2795:=hS2840
              replace hC2839:Cl U2837 b2674 0 [jV x2664]:=hC2839
              refine oR Z (Runs.mkf Z zr (zM f2808 zr)) ?_
              have h2842:=hs2528.le le2546
              have h2843:=h2842.le le2589
              have h2844:=h2843.le le2644
              have h2845:=h2844.le le2757
              have h2846:=h2845.le le2797
              have h2847:=h2846.le le2838
              have hF2848:FnOK Tryz.prog U2837 (.func (.func 12) #[] #[.pointer (some ⟨b2674,0,none⟩)]) ar42 rr42 (fun x=>wAO x x2664):=⟨12,[],[.pointer (some ⟨b2674,0,none⟩)],rfl,Tryz.call12,fun U1 w1 x y vs le hs ha hm=>by obtain rfl:=ha;exact wCG x x2664 b2674 w1 U1 hs (hC2839.le le) hm⟩
              refine bnK hm2836 fun x2849 h2850 hm2851=>zj 0 Z Z Z Z (zd Z Z Tryz.call11 (zM Z (zM Z zr)) Z) hS2841 (fun hs=>wBZ x57 A67 c68 (fun x=>wAO x x2664) (.func (.func 12) #[] #[.pointer (some ⟨b2674,0,none⟩)]) W2795 U2837 hs h2847 hF2848 h2850) (.inr Z) ?_
              rintro U2852 L2853 v2854 W2855 le2856 hS2857 ⟨rfl,rfl⟩
              have hS2858:sW w U U2852 [B23,B24,B22,.obj b94 (.map e226 c227),.blk b39 26 B4,B0,B6] W2855:=hS2857
              refine oA Z Z (eN (sR fL27 Z (oM Z Z (oR Z (zV Z Z Z) (oM Z Z (ifc hm2851 ?_ ?_))))))
              ·intro c2859 hm2860
               refine oT Z c2859 (oT Z c2859 (oT Z c2859 (oT Z c2859 (oT Z c2859 (oT Z c2859 (oT Z c2859 (oR Z (ze Z (ZU c2859.out) Z) (oM Z Z (oN Z (oN Z (oN Z (oN Z (oN Z (oN Z (zC Z Z Z (wAA Z Z Z) (zC Z Z Z (wAA Z Z Z) (zC Z Z Z (wAA Z Z Z) (zC Z Z Z (wAA Z Z Z) (zC Z Z Z (wAA Z Z Z) (zC Z Z Z (wAA Z Z Z) (zC Z Z Z (wAA Z Z Z) (oN Z (oR Z (ze Z Z Z) (eN (ZM Z (sR fL1 Z (oA Z Z (eN (zY (zS (zJ ?_)))))))))))))))))))))))))))))))
               have q:=wAV hm2860
               obtain ⟨v2861,hm2862,e2863⟩:=q
               obtain rfl:=wBF hm2624 hX2633 (hb2640 v2861 e2863)
               refine zJ (zS (zS (zJ ?_)))
               have q:=wAV hm2862
               obtain ⟨v2864,hm2865,e2866⟩:=q
               obtain rfl:=wBF hm2570 hX2578 (hb2585 v2864 e2866)
               refine zJ (zS (zS (zJ ?_)))
               have q:=wAV hm2865
               obtain ⟨v2867,hm2868,e2869⟩:=q
               obtain rfl:=wBF hm2523 hX2535 (hb2542 v2867 e2869)
               refine zJ (zS (zJ ?_))
               have hE:=nB hm2868;first | subst r | cases hE
               exact ⟨rfl,_,(ZC rfl),U2852,_,(hS2858.pick [] _ (by decide) rfl),rfl,rfl⟩
              ·intro c2859 hm2870
               refine zQ Z Z Z (wF Z c2859) Z f2800 (zQ Z Z Z (wF Z c2859) Z Z (bnK hm2870 fun x2871 h2872 hm2873=>?_))
               have h2874:=h2847.le le2856
               have q:=h2874.el (fun _=>rfl) (wAP h2872)
               obtain ⟨b2875,off2876,hA2877,hC2878⟩:=q
               refine rU Z (wF Z c2859) (ZV Z Z hA2877 Z ZI ZP (wCr h2872) (wCy h2872)) (rU Z (wF Z c2859) (zO Z Z zh Z zB) (ZB Z Z Z (wF Z c2859) (hS2858.ldC (f:=1) hC2878 (v:=jV x2871.Done) Z Z zN Z) Z (zQ Z Z Z (wF Z c2859) Z f2809 (rU Z (wF Z c2859) (Runs.neq Z Z Z) (oR Z (zg Z (ZK c2859.out) Z) (oM Z Z (ifc hm2873 ?_ ?_)))))))
               ·intro c2879 hm2880
                refine zQ Z Z Z (zP Z Z (ZK (fun h=>h c2879.out))) Z f2806 (zZ Z Z Z (zP Z Z (ZK (fun h=>h c2879.out))) (fun _=>zU Z Z Z) (zQ Z Z Z (zP Z Z (ZK (fun h=>h c2879.out))) Z f2809 (zZ Z Z Z (zP Z Z (ZK (fun h=>h c2879.out))) (fun _=>zU Z Z Z) (zZ Z Z Z (zP Z Z (ZK (fun h=>h c2879.out))) (fun _=>Runs.geq Z Z Z) (zQ Z Z Z (zP Z Z (ZK (fun h=>h c2879.out))) Z Z (ifc hm2880 ?_ ?_))))))
                ·intro c2881 hm2882
                 refine zQ Z Z Z (wT Z c2881) Z f2800 (zQ Z Z Z (wT Z c2881) Z Z ?_)
                 have q:=h2874.el (fun _=>rfl) (wAP h2872)
                 obtain ⟨b2883,off2884,hA2885,hC2886⟩:=q
                 refine rU Z (wT Z c2881) (ZV Z Z hA2885 Z ZI ZP (wCr h2872) (wCy h2872)) (rU Z (wT Z c2881) (zO Z Z zh Z zB) (ZB Z Z Z (wT Z c2881) (hS2858.ldC (f:=3) hC2886 (v:=jV x2871.By) Z Z zN Z) Z (zQ Z Z Z (wT Z c2881) Z f2805 (rU Z (wT Z c2881) (Runs.gtr Z Z Z) (zZ Z Z Z (zP Z Z (ZK (fun h=>h c2879.out))) (fun _=>ze Z (ZU c2881.out) Z) (oR Z (zg Z (ZK (fun h=>h c2879.out)) Z) (eN (ifc hm2882 ?_ ?_))))))))
                 ·intro c2887 hm2888
                  refine cT Z c2887 (sR fL1 Z (oA Z Z (eN (zY (zS (zJ ?_))))))
                  have q:=wAV hm2888
                  obtain ⟨v2889,hm2890,e2891⟩:=q
                  obtain rfl:=wBF hm2624 hX2633 (hb2640 v2889 e2891)
                  refine zJ (zS (zS (zJ ?_)))
                  have q:=wAV hm2890
                  obtain ⟨v2892,hm2893,e2894⟩:=q
                  obtain rfl:=wBF hm2570 hX2578 (hb2585 v2892 e2894)
                  refine zJ (zS (zS (zJ ?_)))
                  have q:=wAV hm2893
                  obtain ⟨v2895,hm2896,e2897⟩:=q
                  obtain rfl:=wBF hm2523 hX2535 (hb2542 v2895 e2897)
                  refine zJ (zS (zJ ?_))
                  have hE:=nB hm2896;first | subst r | cases hE
                  exact ⟨rfl,_,(ZC rfl),U2852,_,(hS2858.pick [] _ (by decide) rfl),rfl,rfl⟩
                 ·intro c2887 hm2898
                  refine cF Z c2887 (ZQ (zt (zK (rR fL2 Z (oR Z (ZD (zU Z f2819 Z) (congrArg (jV) hi2663.out)) (oM Z Z (ZA ?_)))))))
                  obtain rfl:=nB hm2898
                  exact zK ⟨Z,_,Z,⟨U2852,Z,f2799,f2800,f2801,f2802,f2803,f2804,f2805,f2806,f2807,f2812,f2813,f2814,f2815,f2816,f2817,f2818,((((le2644.trans le2757).trans le2797).trans le2838).trans le2856),hS2858⟩⟩
                ·intro c2881 hm2899
                 refine oF Z c2881 (oF Z c2881 (oF Z c2881 (oF Z c2881 (oF Z c2881 (oF Z c2881 (oF Z c2881 (zZ Z Z Z (zP Z Z (ZK (fun h=>h c2879.out))) (fun _=>zg Z (ZK c2881.out) Z) (oR Z (zg Z (ZK (fun h=>h c2879.out)) Z) (eN (ZN Z (ZQ (zt (zK (rR fL2 Z (oR Z (ZD (zU Z f2819 Z) (congrArg (jV) hi2663.out)) (oM Z Z (ZA ?_)))))))))))))))))
                 obtain rfl:=nB hm2899
                 exact zK ⟨Z,_,Z,⟨U2852,Z,f2799,f2800,f2801,f2802,f2803,f2804,f2805,f2806,f2807,f2812,f2813,f2814,f2815,f2816,f2817,f2818,((((le2644.trans le2757).trans le2797).trans le2838).trans le2856),hS2858⟩⟩
               ·intro c2879 hm2900
                refine oT Z c2879 (oT Z c2879 (oT Z c2879 (oT Z c2879 (oT Z c2879 (oT Z c2879 (zC Z Z Z (wAA Z Z Z) (zC Z Z Z (wAA Z Z Z) (zC Z Z Z (wAA Z Z Z) (zC Z Z Z (wAA Z Z Z) (zC Z Z Z (wAA Z Z Z) (zC Z Z Z (wAA Z Z Z) (zC Z Z Z (wAA Z Z Z) (oT Z c2879 (oR Z (ze Z (ZU c2879.out) Z) (eN (ZM Z (sR fL1 Z (oA Z Z (eN (zY (zS (zJ ?_))))))))))))))))))))))
                have q:=wAV hm2900
                obtain ⟨v2901,hm2902,e2903⟩:=q
                obtain rfl:=wBF hm2624 hX2633 (hb2640 v2901 e2903)
                refine zJ (zS (zS (zJ ?_)))
                have q:=wAV hm2902
                obtain ⟨v2904,hm2905,e2906⟩:=q
                obtain rfl:=wBF hm2570 hX2578 (hb2585 v2904 e2906)
                refine zJ (zS (zS (zJ ?_)))
                have q:=wAV hm2905
                obtain ⟨v2907,hm2908,e2909⟩:=q
                obtain rfl:=wBF hm2523 hX2535 (hb2542 v2907 e2909)
                refine zJ (zS (zJ ?_))
                have hE:=nB hm2908;first | subst r | cases hE
                exact ⟨rfl,_,(ZC rfl),U2852,_,(hS2858.pick [] _ (by decide) rfl),rfl,rfl⟩
             ·intro c2835 hm2910
              refine cF Z c2835 (ZQ (zt (zK (rR fL2 Z (oR Z (ZD (zU Z f2819 Z) (congrArg (jV) hi2663.out)) (oM Z Z (ZA ?_)))))))
              obtain rfl:=nB hm2910
              exact zK ⟨rfl,_,rfl,⟨U2796,rfl,f2799,f2800,f2801,f2802,f2803,f2804,f2805,f2806,f2807,f2812,f2813,f2814,f2815,f2816,f2817,f2818,((le2644.trans le2757).trans le2797),(hS2798.pick [1,2,3,4,5,6,7] _ (by decide) rfl)⟩⟩
            ·intro c2833 hm2911
             refine zC Z Z Z (zn Z Z (congrArg nD (nE.2 c2833.out)) Z) (zC Z Z Z (zn Z Z (congrArg nD (nE.2 c2833.out)) Z) (zC Z Z Z (zn Z Z (congrArg nD (nE.2 c2833.out)) Z) (oR Z (zg Z (congrArg nD (nE.2 c2833.out)) Z) (eN (ZN Z (ZQ (zt (zK (rR fL2 Z (oR Z (ZD (zU Z f2819 Z) (congrArg (jV) hi2663.out)) (oM Z Z (ZA ?_))))))))))))
             obtain rfl:=nB hm2911
             exact zK ⟨rfl,_,rfl,⟨U2796,rfl,f2799,f2800,f2801,f2802,f2803,f2804,f2805,f2806,f2807,f2812,f2813,f2814,f2815,f2816,f2817,f2818,((le2644.trans le2757).trans le2797),(hS2798.pick [1,2,3,4,5,6,7] _ (by decide) rfl)⟩⟩
        ·rintro ⟨⟩ σ2912 W2913 ⟨U2916,fi2915,f2919,f2920,f2921,f2922,f2923,f2924,f2925,f2926,f2927,f2928,f2929,f2930,f2931,f2932,f2933,f2934,le2917,hS2918⟩ hb2914
         have hm2935:=wCD hm2624 hX2633 hb2914
         try dsimp only at hm2935
         have c2936:Hid (¬ ((↑(((↑x16.Bibs.length:Int):Int) - 0).toNat:Int) < (↑x16.Bibs.length:Int))):=zG (wBA)
         refine sR fL1 Z (oR Z (zV Z fi2915 f2934) (eN (zL (cF Z c2936 (ZR (zq (zq (ZO (zt (zK (rR fL2 Z (oR Z (ZD (zU Z f2932 Z) (congrArg (jV) hi2603.out)) (oM Z Z (ZA ?_))))))))))))))
         obtain rfl:=nB hm2935
         exact zK ⟨Z,_,Z,⟨U2916,Z,f2919,f2920,f2921,f2922,f2923,f2924,f2925,f2928,f2929,f2930,f2931,(le2589.trans le2917),hS2918⟩⟩
       ·rintro ⟨⟩ σ2937 W2938 ⟨U2941,fi2940,f2944,f2945,f2946,f2947,f2948,f2949,f2950,f2951,f2952,f2953,f2954,le2942,hS2943⟩ hb2939
        have hm2955:=wCD hm2570 hX2578 hb2939
        try dsimp only at hm2955
        have c2956:Hid (¬ ((↑(((gd x73 k2533):Int) - 0).toNat:Int) < (gd x73 k2533))):=zG (wBA)
        refine sR fL1 Z (oR Z (zV Z fi2940 f2954) (eN (zL (cF Z c2956 (ZR (zq (zq (ZO (zt (zK (rR fL2 Z (oR Z (ZD (zU Z f2953 Z) (congrArg (jV) hi2556.out)) (oM Z Z (ZA ?_))))))))))))))
        obtain rfl:=nB hm2955
        exact zK ⟨Z,_,Z,⟨U2941,Z,f2944,f2945,f2946,f2947,f2948,f2951,f2952,(le2546.trans le2942),hS2943⟩⟩
      ·rintro ⟨⟩ σ2957 W2958 ⟨U2961,fi2960,f2964,f2965,f2966,f2967,f2968,f2969,f2970,le2962,hS2963⟩ hb2959
       have hm2971:=wCD hm2523 hX2535 hb2959
       try dsimp only at hm2971
       have c2972:Hid (¬ ((↑(((↑x16.Bibs.length:Int):Int) - 0).toNat:Int) < (↑x16.Bibs.length:Int))):=zG (wBA)
       refine sR fL1 Z (oR Z (zV Z fi2960 f2970) (eN (zL (cF Z c2972 (ZR (zq (zq (ZO (zK (zL (sR fL3 Z (oM Z f2965 (oR Z (zy Z Z ZI) (oM Z Z (eN (zf ?_))))))))))))))))
       have q:=wBb hm2971
       obtain ⟨r2976,hX2977⟩:=q
       have q:=wBa hX2977
       obtain ⟨hle2978,hf2979⟩:=q
       replace hle2978:=zG hle2978
       refine Zd (fun k2975 _ σ_ w_=>∃ (U_:PHeap),σ_ 325=jV (↑k2975:Int)/\σ_ 3=.pointer (some ⟨b39,0,none⟩)/\σ_ 6=.slice A83 x73.length c84/\σ_ 13=.pointer (some ⟨b241,0,none⟩)/\σ_ 323=.slice A67 x57.length c68/\σ_ 324=jV (↑x57.length:Int)/\PHeap.Le U2961 U_/\sW w U U_ [B23,B24,B22,.obj b94 (.map e226 c227),.blk b39 26 B4,B0,B6] w_) hf2979 ?_ ?_ ?_
       ·exact ⟨U2961,Z,f2964,f2966,f2968,Z,Z,(zI _),hS2963⟩
       ·rintro k2975 ⟨⟩ xx2982 σ2980 W2981 hk2985 ⟨U2987,fi2986,f2990,f2991,f2992,f2993,f2994,le2988,hS2989⟩ hx2983 hb2984
        try dsimp only at hx2983
        have c2995:Hid ((↑k2975:Int) < (↑x57.length:Int)):=zG (wBQ hk2985)
        replace hk2985:=zG hk2985
        have hi2996:Hid (w64 ((↑k2975:Int) + 1)=(↑(k2975 + 1):Int)):=zG (by have h1:=hle2978.out;have h2:=c2995.out;rw [wAa] <;> omega)
        refine sR fL1 Z (oR Z (zV Z fi2986 f2994) (eN (zL (cT Z c2995 (kN (zL (zf (sR (.fl 0 (.fl 1 (.fx 2 (.fx 3 (.nil) .stop) .stop))) Z (bnK hx2983 fun x2997 h2998 hm2999=>?_)))))))))
        have h3000:=hs2528.le le2962
        have h3001:=h3000.le le2988
        have q:=h3001.el (fun _=>rfl) (wAP h2998)
        obtain ⟨b3002,off3003,hA3004,hC3005⟩:=q
        refine oR Z (zo Z f2993 hA3004 fi2986 ZI ZP (wAu h2998)) (oL Z (hS2989.ldCA (f:=0) hC3005 Z Z Tryz.isAgg38 ZP (us:=[jV x2997.Bib,jV x2997.Done,jV x2997.Time,jV x2997.By]) Z Z) (Zc (cs:=[jV 0,jV 0,jV 0,jV 0]) Z Z Z Z Z Tryz.zeroValue38 Z hS2989 ?_))
        intro W3006 b3007 hS3008
        let B26:List Value:=[jV x2997.Bib,jV x2997.Done,jV x2997.Time,jV x2997.By]
        refine OKS.st (j:=0) (vs:=B26) Z Z Z Z hS3008 Z Z Z Z ZP (zm Z) Z Z Z ?_
        intro W3010 hS3011
        have hS3012:sW w U U2987 [.blk b3007 38 B26,B23,B24,B22,.obj b94 (.map e226 c227),.blk b39 26 B4,B0,B6] W3010:=hS3011
        refine eN (sR (wOI (.fx 4 (.fl 5 (.nil)) .stop)) Z (oR Z (zO Z f2990 zD Z zF) (oL Z (hS3012.ldB (j:=5) Z Z Z zR (v:=.slice A26 x16.Bibs.length c27) Z) (oR Z (zO Z Z zh Z zB) (oL Z (hS3012.ldB (j:=0) Z Z Z zN (v:=jV x2997.By) Z) ?_)))))
        have h3013:=h71.le le81
        have h3014:=h3013.le le229
        have h3015:=h3014.le le2513
        have h3016:=h3015.le le2527
        have h3017:=h3016.le le2962
        have h3018:=h3017.le le2988
        refine bnK hm2999 fun x3019 h3020 hm3021=>zj 0 Z Z Z Z (zd Z Z Tryz.call13 (zM Z (zM Z zr)) Z) hS3012 (fun hs=>wBU x16.Bibs A26 c27 x2997.By W3010 U2987 hs h3018 h3020) (.inr Z) ?_
        rintro U3022 L3023 v3024 W3025 le3026 hS3027 ⟨rfl,rfl⟩
        have hS3028:sW w U U3022 [.blk b3007 38 B26,B23,B24,B22,.obj b94 (.map e226 c227),.blk b39 26 B4,B0,B6] W3025:=hS3027
        refine oA Z Z (eN (zL (sR fL2 Z (oM Z Z (oR Z (zV Z Z Z) (eN (ifc hm3021 ?_ ?_)))))))
        ·intro c3029 hm3030
         refine cT Z c3029 (sR fL1 Z (oA Z Z (eN (zY (zJ (zS (zJ ?_)))))))
         have q:=wAV hm3030
         obtain ⟨v3031,hm3032,e3033⟩:=q
         obtain rfl:=wBF hm2971 hX2977 (hb2984 v3031 e3033)
         refine zJ (zS (zJ ?_))
         have hE:=nB hm3032;first | subst r | cases hE
         exact ⟨rfl,_,(ZC rfl),U3022,_,(hS3028.pick [] _ (by decide) rfl),rfl,rfl⟩
        ·intro c3029 hm3034
         refine cF Z c3029 (kN (zL (Zb ZW [3,1,3,3,1,3,1,2,3] (wPV (.fx 7 (.fl 8 (.nil)) .stop)) (by kernel_rfl) ?_)))
         have hS3035:=hS3028.drew
         generalize hw_W3036:({ W3025 with drawn:=W3025.drawn + 1 }:World)=W3036 at hS3035 ⊢
         refine oR Z (zO Z f2990 zD Z ZH) (oL Z (hS3035.ldB (j:=5) Z Z Z zX (v:=.slice A28 x16.Times.length c29) Z) (oM Z Z (bnK hm3034 fun x3037 h3038 hm3039=>?_)))
         have h3040:=h72.le le81
         have h3041:=h3040.le le229
         have h3042:=h3041.le le2513
         have h3043:=h3042.le le2527
         have h3044:=h3043.le le2962
         have h3045:=h3044.le le2988
         have h3046:=h3045.le le3026
         have q:=h3046.el (wAP h3038)
         obtain ⟨b3047,off3048,vs3051,hA3049,hC3050,hr3052⟩:=q
         obtain ⟨pA3053,pc3054,rfl,h3055⟩:=hr3052
         replace hC3050:Cl U3022 b3047 (off3048 + x3019.toNat * 1) [.slice pA3053 x3037.length pc3054]:=hC3050
         refine oR Z (ZV Z Z hA3049 Z zH zF (wCr h3038) (wCy h3038)) (oL Z (hS3035.ldC (f:=0) hC3050 (v:=.slice pA3053 x3037.length pc3054) Z Z zR Z) (oR Z (zO Z Z zh Z zB) (oL Z (hS3035.ldB (j:=0) Z Z Z zN (v:=jV x2997.Time) Z) (bnK hm3039 fun x3056 h3057 hm3058=>zj 0 Z Z Z Z (zd Z Z Tryz.call13 (zM Z (zM Z zr)) Z) hS3035 (fun hs=>wBU x3037 pA3053 pc3054 x2997.Time W3036 U3022 hs h3055 h3057) (.inr Z) ?_))))
         rintro U3059 L3060 v3061 W3062 le3063 hS3064 ⟨rfl,rfl⟩
         have hS3065:sW w U U3059 [.blk b3007 38 B26,B23,B24,B22,.obj b94 (.map e226 c227),.blk b39 26 B4,B0,B6] W3062:=hS3064
         refine oA Z Z (eN (sR fL18 Z (oM Z Z (oR Z (zV Z Z Z) (oM Z Z (ifc hm3058 ?_ ?_))))))
         ·intro c3066 hm3067
          refine oT Z c3066 (oT Z c3066 (oT Z c3066 (oT Z c3066 (oT Z c3066 (oT Z c3066 (oR Z (ze Z (ZU c3066.out) Z) (oM Z Z (oN Z (oN Z (oN Z (oN Z (oN Z (oN Z (oR Z (ze Z Z Z) (eN (ZM Z (sR fL1 Z (oA Z Z (eN (zY (zS (zJ ?_))))))))))))))))))))))
          have q:=wAV hm3067
          obtain ⟨v3068,hm3069,e3070⟩:=q
          obtain rfl:=wBF hm2971 hX2977 (hb2984 v3068 e3070)
          refine zJ (zS (zJ ?_))
          have hE:=nB hm3069;first | subst r | cases hE
          exact ⟨rfl,_,(ZC rfl),U3059,_,(hS3065.pick [] _ (by decide) rfl),rfl,rfl⟩
         ·intro c3066 hm3071
          refine zQ Z Z Z (wF Z c3066) Z Z (zQ Z Z Z (wF Z c3066) Z f2991 (zQ Z Z Z (wF Z c3066) Z Z (bnK hm3071 fun _ h3072 hm3073=>?_)))
          obtain ⟨b3074,hA3075⟩:=hS3065.rowSome (j:=7) rfl (by rw [wAF (f:=KL.encI) (sz:=1) (fun _=>rfl) x73];have hz:=wAd h3072;omega)
          refine rU Z (wF Z c3066) (ZV Z Z hA3075 Z zA zB (wEP h3072) (wEQ h3072)) ?_
          have hg3076:=wBW (xs:=x73) (wAd h3072)
          refine ZB rfl rfl rfl (zP rfl rfl (ZK c3066.out)) (hS3065.ldR (j:=7) rfl hA3075 rfl rfl zN (wAW (sz:=1) (fun _=>rfl) _ _ 0 _ hg3076 (by first | omega | rfl | simp) rfl)) rfl (zZ rfl rfl rfl (zP rfl rfl (ZK c3066.out)) (fun _=>Runs.geq rfl rfl rfl) (zZ rfl rfl rfl rfl (fun _=>zg rfl (ZK c3066.out) rfl) (zQ rfl rfl rfl rfl rfl rfl (ifc hm3073 ?_ ?_))))
          ·intro c3077 hm3078
           refine oT Z c3077 (oT Z c3077 (oT Z c3077 (oT Z c3077 (oT Z c3077 (oT Z c3077 (oR Z (ze Z (ZU c3077.out) Z) (eN (ZM Z (sR fL1 Z (oA Z Z (eN (zY (zS (zJ ?_))))))))))))))
           have q:=wAV hm3078
           obtain ⟨v3079,hm3080,e3081⟩:=q
           obtain rfl:=wBF hm2971 hX2977 (hb2984 v3079 e3081)
           refine zJ (zS (zJ ?_))
           have hE:=nB hm3080;first | subst r | cases hE
           exact ⟨rfl,_,(ZC rfl),U3059,_,(hS3065.pick [] _ (by decide) rfl),rfl,rfl⟩
          ·intro c3077 hm3082
           refine zQ Z Z Z (wF Z c3077) Z Z (rU Z (wF Z c3077) (zU Z Z Z) (rU Z (wF Z c3077) (zO Z Z zh Z zB) (ZB Z Z Z (wF Z c3077) (hS3065.ldB (j:=0) Z Z Z zN (v:=jV x2997.Done) Z) Z (rU Z (wF Z c3077) (zU Z Z Z) (rU Z (wF Z c3077) (zV Z Z Z) (oR Z (zg Z (ZK c3077.out) Z) (eN (ifc hm3082 ?_ ?_))))))))
           ·intro c3083 hm3084
            refine cT Z c3083 (sR fL1 Z (oA Z Z (eN (zY (zS (zJ ?_))))))
            have q:=wAV hm3084
            obtain ⟨v3085,hm3086,e3087⟩:=q
            obtain rfl:=wBF hm2971 hX2977 (hb2984 v3085 e3087)
            refine zJ (zS (zJ ?_))
            have hE:=nB hm3086;first | subst r | cases hE
            exact ⟨rfl,_,(ZC rfl),U3059,_,(hS3065.pick [] _ (by decide) rfl),rfl,rfl⟩
           ·intro c3083 hm3088
            refine cF Z c3083 (ZQ (zt (zK (rR fL2 Z (oR Z (ZD (zU Z fi2986 Z) (congrArg (jV) hi2996.out)) (oM Z Z (ZA ?_)))))))
            obtain rfl:=nB hm3088
            exact zK ⟨rfl,_,rfl,⟨U3059,rfl,f2990,f2991,f2992,f2993,f2994,((le2988.trans le3026).trans le3063),(hS3065.pick [1,2,3,4,5,6,7] _ (by decide) rfl)⟩⟩
       ·rintro ⟨⟩ σ3089 W3090 ⟨U3093,fi3092,f3096,f3097,f3098,f3099,f3100,le3094,hS3095⟩ hb3091
        have hm3101:=wCD hm2971 hX2977 hb3091
        try dsimp only at hm3101
        have c3102:Hid (¬ ((↑(((↑x57.length:Int):Int) - 0).toNat:Int) < (↑x57.length:Int))):=zG (wBA)
        refine sR fL1 Z (oR Z (zV Z fi3092 f3100) (eN (zL (cF Z c3102 (ZR (zq (zq (ZO (zK (sR (.fl 0 (.fx 1 (wLV (.nil)) .stop)) Z (oL Z (hS3095.ldBA (j:=2) Z Z f3098 ZY ZF (vs:=[jV x16.Laps,.slice A2507 y2505.length c2508,.slice A2509 y2506.length c2510]) Z Z) ?_)))))))))))
        have q:=hS3095.freezeR (k:=0) (n:=y2505.length) rfl (wAF (f:=KL.encI) (sz:=1) (fun _=>rfl) y2505) (by decide)
        obtain ⟨U3103,le3104,hs3105,hS3106⟩:=q
        have hS3107:sW w U U3103 [B24,B22,.obj b94 (.map e226 c227),.blk b39 26 B4,B0,B6] W3090:=hS3106
        have h3112:=h2522.le le2527
        have h3113:=h3112.le le2962
        have h3114:=h3113.le le3094
        have h3115:=h3114.le le3104
        have q:=hS3107.freezeRR (R:=wBP) (k:=0) rfl h3115 rfl (by decide)
        obtain ⟨U3108,le3109,hs3110,hS3111⟩:=q
        have hS3116:sW w U U3108 [B22,.obj b94 (.map e226 c227),.blk b39 26 B4,B0,B6] W3090:=hS3111
        have h3117:=hs3105.le le3109
        have q:=bnd hm3101
        obtain ⟨⟨x3118,x3119⟩,h3120,hm3121⟩:=q
        try dsimp only at hm3121
        refine zj 0 Z Z Z Z (zd Z Z Tryz.call8 (zM Z zr) Z) hS3116 (fun hs=>wDT (⟨x16.Laps,y2505,y2506⟩:wAE) A2507 c2508 A2509 c2510 W3090 U3108 hs h3117 hs3110 h3120) (.inr Z) ?_
        rintro U3122 L3123 v3124 W3125 le3126 hS3127 ⟨A3128,c3129,rfl,rfl⟩
        let B27:Res:=.row A3128 c3129 38 4 (nA wAG x3118)
        have hS3131:sW w U U3122 [B27,B22,.obj b94 (.map e226 c227),.blk b39 26 B4,B0,B6] W3125:=hS3127
        refine oM Z Z (oR Z (Za Z Z (v:=.slice A3128 x3118.length c3129) Z) (oR Z (Za Z Z (v:=jV x3119) Z) (oA Z Z (oA Z Z (eN (sR (fC0_7 (.fx 8 (.fl 9 (.fl 10 (.nil))) .stop)) Z (oM Z Z (oR Z (Runs.eql Z Z Z) (oM Z Z (ifc hm3121 ?_ ?_))))))))))
        ·intro c3132 hm3133
         refine zQ Z Z Z (wT Z c3132) Z Z (rU Z (wT Z c3132) (zy Z Z ZI) (rU Z (wT Z c3132) (Runs.eql Z Z Z) (oR Z (ze Z (ZU c3132.out) Z) (oM Z Z (ifc hm3133 ?_ ?_)))))
         ·intro c3134 hm3135
          refine bnK hm3135 fun x3136 h3137 hm3138=>zj 0 Z Z Z (wT Z c3134) (zd Z Z Tryz.call14 zr Z) hS3131 (fun hs=>wDR W3125 U3122 hs h3137) (.inr Z) ?_
          rintro U3139 L3140 v3141 W3142 le3143 hS3144 ⟨rfl,rfl⟩
          have hS3145:sW w U U3139 [B27,B22,.obj b94 (.map e226 c227),.blk b39 26 B4,B0,B6] W3142:=hS3144
          refine oR Z (ze Z (ZU c3134.out) Z) (oA Z Z (eN (zY ?_)))
          have hE:=nB hm3138;first | subst r | cases hE
          exact ⟨rfl,_,(ZC rfl),U3139,_,(hS3145.pick [] _ (by decide) rfl),rfl,rfl⟩
         ·intro c3134 hm3146
          refine OKS.px Z Z Z (zn Z Z (ZK c3134.out) Z) (oR Z (zg Z (ZK c3134.out) Z) (oA Z Z (eN (zY ?_))))
          have hE:=nB hm3146;first | subst r | cases hE
          exact ⟨rfl,_,(ZC rfl),U3122,_,(hS3131.pick [] _ (by decide) rfl),rfl,rfl⟩
        ·intro c3132 hm3147
         refine oF Z c3132 (oF Z c3132 (oF Z c3132 (oR Z (zg Z (ZK c3132.out) Z) (oM Z Z (OKS.px Z Z Z (zn Z Z Z Z) (oR Z (zg Z Z Z) (oA Z Z (eN (zY ?_)))))))))
         have hE:=nB hm3147;first | subst r | cases hE
         exact ⟨rfl,_,(ZC rfl),U3122,_,(hS3131.pick [] _ (by decide) rfl),rfl,rfl⟩
   ·intro c91 hm3148
    refine cT Z c91 (sR fL1 Z (oA Z Z (eN (zY (zJ ?_)))))
    have hE:=nB hm3148;first | subst r | cases hE
    exact ⟨rfl,_,(ZC rfl),U77,_,(hS86.pick [] _ (by decide) rfl),rfl,rfl⟩
  ·intro c89 hm3149
   refine oT Z c89 (oT Z c89 (oT Z c89 (oT Z c89 (oT Z c89 (oT Z c89 (oR Z (ze Z (ZU c89.out) Z) (eN (ZM Z (sR fL1 Z (oA Z Z (eN (zY (zJ ?_)))))))))))))
   have hE:=nB hm3149;first | subst r | cases hE
   exact ⟨rfl,_,(ZC rfl),U77,_,(hS86.pick [] _ (by decide) rfl),rfl,rfl⟩
 ·intro c87 hm3150
  refine oT Z c87 (oT Z c87 (oR Z (ze Z (ZU c87.out) Z) (oM Z Z (oN Z (oN Z (oN Z (oN Z (oN Z (oN Z (oR Z (ze Z Z Z) (eN (ZM Z (sR fL1 Z (oA Z Z (eN (zY (zJ ?_)))))))))))))))))
  have hE:=nB hm3150;first | subst r | cases hE
  exact ⟨rfl,_,(ZC rfl),U77,_,(hS86.pick [] _ (by decide) rfl),rfl,rfl⟩
end Go.Proofs.YtbpllbhagaoocaaGreat
