import Derived.Test.YtabadkdjndnliaaGreatR6
import Derived.Test.YtabadkdjndnliaaGreatR5
set_option linter.all false
open List renaming flatMap->hH,length_set->nE,forall_mem_cons->nG,set->nH
open Go.Value renaming bool->nA
open Bool renaming eq_false_iff->nB
open Option.some renaming inj->nD
open Prod.mk renaming injEq->nI
open Eq renaming trans->nJ
namespace Go.Proofs.YtabadkdjndnliaaGreat
open Go.KL
def gBa:Sch:=.fx 3 (.fx 4 .nil .stop) .stop
def gBb:Sch:=.fl 10 (.fx 11 .nil .stop)
def gBc:Sch:=.fx 5 (.fl 6 .nil) .stop
def gBd:Sch:=.fx 0 (.fl 1 .nil) .stop
def gBe:Sch:=.fx 6 (.fx 7 .nil .stop) .stop
def gBf:Sch:=.fx 0 (.fx 1 (.fl 2 .nil) .stop) .stop
def gBg:Sch:=.fx 5 gBe .stop
def gBh:Sch:=.fx 4 gBe .stop
def gBi:Sch:=.fx 3 gBe .stop
def gBj:Sch:=.fl 0 (.fl 1 (.fx 2 (.fl 3 .nil) .stop))
def gBk:Sch:=.fx 8 (.fl 9 gBb) .stop
def gBl:Sch:=.fl 9 (.fx 7 gBb .stop)
def gBm:Sch:=.fx 3 (.fl 9 gBb) .stop
def gBn:Sch:=.fx 1 gBi .stop
def gBo:Sch:=.fx 3 gBg (.fx 5 gBi .stop)
def gBp:Sch:=.fx 3 gBh (.fx 4 gBi .stop)
def gBq:Sch:=.fx 21 (.fl 22 (.fl 23 (.fx 24 (.fl 25 (.fl 26 .nil)) .stop))) .stop
set_option maxHeartbeats 4000000
theorem wFr (p0:wAA) (ai:Option Addr) (am:Nat) (p1:wAB) (aj:Option Addr) (ap:Nat) (ak:Option Addr) (aq:Nat) (w:World) (U:PHeap) (hS:St0 w U []) (bb:Sl U 1 ai am p0.Classes.length (hH KL.encI p0.Classes)) (be:Sl U 1 aj ap p1.Classes.length (hH KL.encI p1.Classes)) (bg:SlR U wDX ak aq p1.Times) {r:(List Int) × Int × Int} (hm:wBw p0 p1=some r):Gv Tryz.prog 48 [.agg #[.slice ai p0.Classes.length am,jV p0.Each,jV p0.Laps,jV p0.Spare,jV p0.Loop,jV p0.Unused],.agg #[.slice aj p1.Classes.length ap,.slice ak p1.Times.length aq]] w (wCQ w [] U (fun U_ L_ v=>∃ (A0:Option Addr) (c0:Nat),v=.tuple #[.slice A0 r.1.length c0,jV r.2.1,jV r.2.2]/\L_=[.row A0 c0 3 1 (hH KL.encI r.1)])):=by
 unfold wBw at hm
 refine Gv.of Tryz.func48 Z Tryz.ntmps48 Tryz.results48 Z (sR (.fx 0 (.fx 1 (wPC (.nil)) .stop) .stop) Z ?_)
 let B0:List Value:=[.slice ai p0.Classes.length am,jV p0.Each,jV p0.Laps,jV p0.Spare,jV p0.Loop,jV p0.Unused]
 refine zy (cs:=B0) rfl rfl rfl rfl rfl rfl (by rfl) hS ?_
 intro W1 b2 bz
 let B1:List Value:=[.slice aj p1.Classes.length ap,.slice ak p1.Times.length aq]
 refine zy (cs:=B1) rfl rfl rfl rfl rfl rfl (by rfl) bz ?_
 intro W5 b6 aU
 refine oA Z Z (oA Z Z (oA Z Z (eN (zH (sR gBj Z (oL Z (aU.ldBA (j:=1) Z Z Z ZC zr (vs:=B0) Z Z) (oL Z (aU.ldBA (j:=0) Z Z Z ZF zw (vs:=B1) Z Z) (bnK hm fun x9 bm bD=>zD 0 Z Z Z Z (zE Z Z Tryz.call40 (zB Z (zB Z zL)) Z) aU (fun hs=>wBx p0 ai am p1 aj ap ak aq W5 U hs bb be bg bm) (.inr Z) ?_))))))))
 rintro az bJ bN aY aV bw ⟨rfl,rfl⟩
 have av:sW w U az [.blk b6 93 B1,.blk b2 24 B0] aY:=bw
 refine oA Z Z (eN (sR fL2 Z (oM Z Z (oR Z (ZE Z Z Z) (eN (ifc bD ?_ ?_))))))
 intro aQ bE
 refine zj (zt (fun h=>h aQ.out)) (kN (sR (wDT (.fx 3 (wME (.nil)) .stop)) Z (oL Z (av.ldBA (j:=0) Z Z Z ZF zw (vs:=B1) Z Z) (oL Z (av.ldBA (j:=1) Z Z Z ZC zr (vs:=B0) Z Z) (oR Z (Zm (pv:=[(0,.agg B1.toArray),(1,.agg B0.toArray)]) (z:=[.slice none 0 0,.slice none 0 0,.slice none 0 0,jV 0,jV 0,jV 0,jV 0,jV 0]) (cs:=[.slice aj p1.Classes.length ap,.slice ak p1.Times.length aq,.slice ai p0.Classes.length am,jV p0.Each,jV p0.Laps,jV p0.Spare,jV p0.Loop,jV p0.Unused]) Z (wAR Z (wAR Z wBz)) Zd wEM Z Z) ?_)))))
 have bo:=be.le aV
 have bp:=bg.le aV
 have bq:=bb.le aV
 have q:=bnd bE
 obtain ⟨⟨aW,bI⟩,br,bh⟩:=q
 try dsimp only at bh
 refine zD 0 Z Z Z Z (zE Z Z Tryz.call126 (zB Z (zB Z zL)) Z) av (fun hs=>wCW (⟨p1,p0⟩:wAI) aj ap ak aq ai am (-1) aY az hs bo bp bq br) (.inr Z) ?_
 rintro aP bK bO bi bM bA ⟨au,aR,rfl,rfl,bs⟩
 have aT:sW w U aP [.row au aR 3 1 (hH KL.encI aW),.blk b6 93 B1,.blk b2 24 B0] bi:=bA
 refine oM Z Z (oR Z (ZB Z Z (v:=.slice au aW.length aR) Z) (oR Z (ZB Z Z (v:=jV bI) Z) (oA Z Z (oA Z Z (eN (zH (sR fL2 Z (oM Z Z ?_))))))))
 have bt:au.isNone=decide (aW=[]):=wJg (j:=0) aT rfl (fun _=>rfl) (by decide) bs
 refine oR Z (Runs.eqNilR Z Z Z zA bt) (eN (ifc bh ?_ ?_))
 intro aS bF
 refine cT Z aS (sR fL3 Z (oA Z Z (oA Z Z (oA Z Z (eN (zI (zJ ?_)))))))
 have bB:=aT.nilrow 3 1
 cases bF
 exact ⟨rfl,_,(wPH rfl rfl rfl),aP,_,(bB.pick [0] _ (by decide) rfl),none,0,rfl,rfl⟩
 intro aS bG
 refine cF Z aS (kN (sR fL5 Z (oM Z Z (oM Z Z (oA Z Z (oA Z Z (oA Z Z (eN (zI ?_)))))))))
 cases bG
 exact ⟨rfl,_,(wPH rfl rfl rfl),aP,_,(aT.pick [0] _ (by decide) rfl),au,aR,rfl,rfl⟩
 intro aQ bH
 refine cT Z aQ (sR fL4 Z (oM Z Z (oA Z Z (oA Z Z (oA Z Z (eN (zI (zJ ?_))))))))
 have bC:=av.nilrow 3 1
 cases bH
 exact ⟨rfl,_,(wPH rfl rfl rfl),az,_,(bC.pick [0] _ (by decide) rfl),none,0,rfl,rfl⟩
theorem wEv (p0:wAD) (ai:Option Addr) (am:Nat) (p1:wAC) (aj:Option Addr) (ap:Nat) (ak:Option Addr) (aq:Nat) (w:World) (U:PHeap) (hS:St0 w U []) (ba:Sl U 1 ai am p0.Classes.length (hH KL.encI p0.Classes)) (bb:Sl U 1 aj ap p1.Classes.length (hH KL.encI p1.Classes)) (be:SlR U wDX ak aq p1.Times) {r:(List Int) × Int × Int} (hm:wBq p0 p1=some r):Gv Tryz.prog 49 [.agg #[.slice ai p0.Classes.length am,jV p0.Each,jV p0.Laps,jV p0.Spare,jV p0.Loop,jV p0.Unused],.agg #[.slice aj p1.Classes.length ap,.slice ak p1.Times.length aq]] w (wCQ w [] U (fun U_ L_ v=>∃ (A0:Option Addr) (c0:Nat),v=.tuple #[.slice A0 r.1.length c0,jV r.2.1,jV r.2.2]/\L_=[]/\Sl U_ 1 A0 c0 r.1.length (hH KL.encI r.1))):=by
 unfold wBq at hm
 refine Gv.of Tryz.func49 Z Tryz.ntmps49 Tryz.results49 Z (sR (.fx 0 (.fx 1 (wPC (.nil)) .stop) .stop) Z ?_)
 let B0:List Value:=[.slice ai p0.Classes.length am,jV p0.Each,jV p0.Laps,jV p0.Spare,jV p0.Loop,jV p0.Unused]
 refine zy (cs:=B0) rfl rfl rfl rfl rfl rfl (by rfl) hS ?_
 intro W1 b2 bt
 let B1:List Value:=[.slice aj p1.Classes.length ap,.slice ak p1.Times.length aq]
 refine zy (cs:=B1) rfl rfl rfl rfl rfl rfl (by rfl) bt ?_
 intro W5 b6 aR
 refine oA Z Z (oA Z Z (oA Z Z (eN (zH (sR gBj Z (oL Z (aR.ldBA (j:=1) Z Z Z ZU ZP (vs:=B0) Z Z) (oL Z (aR.ldBA (j:=0) Z Z Z ZT ZN (vs:=B1) Z Z) (bnK hm fun x9 bj bz=>zD 0 Z Z Z Z (zE Z Z Tryz.call41 (zB Z (zB Z zL)) Z) aR (fun hs=>wBG p0 ai am p1 aj ap ak aq W5 U hs ba bb be bj) (.inr Z) ?_))))))))
 rintro av bG bK aV aS bs ⟨rfl,rfl⟩
 have au:sW w U av [.blk b6 98 B1,.blk b2 31 B0] aV:=bs
 refine oA Z Z (eN (sR fL2 Z (oM Z Z (oR Z (ZE Z Z Z) (eN (ifc bz ?_ ?_))))))
 intro aP bA
 refine zj (zt (fun h=>h aP.out)) (kN (sR (.fl 0 (.fl 1 (.fx 2 (wPD (.nil)) .stop))) Z (oL Z (au.ldBA (j:=1) Z Z Z ZU ZP (vs:=B0) Z Z) (oL Z (au.ldBA (j:=0) Z Z Z ZT ZN (vs:=B1) Z Z) ?_))))
 have bm:=ba.le aS
 have bo:=bb.le aS
 have bp:=be.le aS
 have q:=bnd bA
 obtain ⟨⟨bE,bF⟩,bq,bg⟩:=q
 try dsimp only at bg
 refine zD 0 Z Z Z Z (zE Z Z Tryz.call127 (zB Z (zB Z (zB Z zL))) Z) au (fun hs=>wCX p0 ai am p1 aj ap ak aq (-1) aV av hs bm bo bp bq) (.inr Z) ?_
 rintro az bH bL bh bJ bw ⟨aU,aZ,rfl,rfl,br⟩
 have a0:sW w U az [.blk b6 98 B1,.blk b2 31 B0] bh:=bw
 refine oM Z Z (oR Z (ZB Z Z (v:=.slice aU bE.length aZ) Z) (oR Z (ZB Z Z (v:=jV bF) Z) (oA Z Z (oA Z Z (eN (zH (sR fL2 Z (oM Z Z (oR Z (ze Z Z Z) (eN (ifc bg ?_ ?_)))))))))))
 intro aQ bB
 refine cT Z aQ (sR fL3 Z (oA Z Z (oA Z Z (oA Z Z (eN (zI (zJ ?_)))))))
 cases bB
 exact ⟨rfl,_,(wPH rfl rfl rfl),az,_,(a0.pick [] _ (by decide) rfl),none,0,rfl,rfl,(by first | exact Sl.nil _ _ _ _ | exact SlR.nil)⟩
 intro aQ bC
 refine cF Z aQ (kN (sR fL5 Z (oM Z Z (oM Z Z (oA Z Z (oA Z Z (oA Z Z (eN (zI ?_)))))))))
 cases bC
 exact ⟨rfl,_,(wPH rfl rfl rfl),az,_,(a0.pick [] _ (by decide) rfl),aU,aZ,rfl,rfl,br⟩
 intro aP bD
 refine cT Z aP (sR fL4 Z (oM Z Z (oA Z Z (oA Z Z (oA Z Z (eN (zI (zJ ?_))))))))
 cases bD
 exact ⟨rfl,_,(wPH rfl rfl rfl),av,_,(au.pick [] _ (by decide) rfl),none,0,rfl,rfl,(by first | exact Sl.nil _ _ _ _ | exact SlR.nil)⟩
theorem wBu (p0:Int) (aa:Int->Res) (au:Nat) (av:Nat) (p1:Int) (p2:Bool) (ai:Nat) (w:World) (U:PHeap) (hS:St0 w U [aa p0,.blk ai 4 [.bool p2]]) (am:wMy aa au av) {r:Int × Bool} (hm:wAK p0 p1 p2=some r):Gv Tryz.prog 128 [.pointer (some ⟨au,av,none⟩),jV p1,.pointer (some ⟨ai,0,none⟩)] w (wCQ w [aa p0,.blk ai 4 [.bool p2]] U (fun U_ L_ v=>v=.tuple #[]/\L_=[aa r.1,.blk ai 4 [.bool r.2]])):=by
 unfold wAK at hm
 refine Gv.of Tryz.func128 Z Tryz.ntmps128 Tryz.results128 Z (sR fL5 Z (oM Z Z (oM Z Z (oR Z (Runs.nilp Z Z) (oL Z (St.ldV (hS:=hS) (j:=0) (F:=aa) (v:=p0) am Z Z Z zN) (oR Z (ze Z Z Z) (eN ?_)))))))
 by_cases c3:p1 < p0
 have aq:=hm;rw [if_pos c3] at aq;replace c3:=zM c3
 refine cT Z c3 (rR (wDT gBa) Z (oM Z Z (oM Z Z (oR Z (Runs.nilp Z Z) (OKS.stV (j:=0) (F:=aa) (u:=p0) (v:=p1) am Z Z Z Z hS Z Z Z zC Z ?_)))))
 intro W5 aR
 let B0:Res:=.blk ai 4 [.bool p2]
 have aS:SW w [aa p0,B0] U U [aa p1,B0] W5:=aR
 refine ZW (j:=1) (vs:=[.bool true]) Z Z Z Z aS Z Z Z Z Tryz.sizeOf4 (zY Z) Z Z Z ?_
 intro W8 aT
 have aQ:SW w [aa p0,B0] U U [aa p1,.blk ai 4 [.bool true]] W8:=aT
 refine zu ?_
 cases aq
 exact ⟨Z,_,(wPk),U,_,aQ,Z,Z⟩
 have ap:=hm;rw [if_neg c3] at ap;replace c3:=zM c3
 refine cF Z c3 (ZQ ?_)
 cases ap
 exact ⟨Z,_,(wPk),U,_,hS,Z,Z⟩
theorem wHa (p0:wAA) (bS:Option Addr) (bU:Nat) (p1:wAB) (bT:Option Addr) (bV:Nat) (bC:Option Addr) (bD:Nat) (w:World) (U:PHeap) (hS:St0 w U []) (jt:Sl U 1 bS bU p0.Classes.length (hH KL.encI p0.Classes)) (ju:Sl U 1 bT bV p1.Classes.length (hH KL.encI p1.Classes)) (jv:SlR U wDX bC bD p1.Times) {r:(List Int) × (List Int) × Int} (hm:wBm p0 p1=some r):Gv Tryz.prog 50 [.agg #[.slice bS p0.Classes.length bU,jV p0.Each,jV p0.Laps,jV p0.Spare,jV p0.Loop,jV p0.Unused],.agg #[.slice bT p1.Classes.length bV,.slice bC p1.Times.length bD]] w (wCQ w [] U (fun U_ L_ v=>∃ (A0:Option Addr) (c0:Nat) (A1:Option Addr) (c1:Nat),v=.tuple #[.slice A0 r.1.length c0,.slice A1 r.2.1.length c1,jV r.2.2]/\L_=[.row A0 c0 3 1 (hH KL.encI r.1),.row A1 c1 3 1 (hH KL.encI r.2.1)])):=by
 unfold wBm at hm
 refine Gv.of Tryz.func50 Z Tryz.ntmps50 Tryz.results50 Z (sR (.fx 0 (.fx 1 (wPC (.nil)) .stop) .stop) Z ?_)
 let B0:List Value:=[.slice bS p0.Classes.length bU,jV p0.Each,jV p0.Laps,jV p0.Spare,jV p0.Loop,jV p0.Unused]
 refine zy (cs:=B0) rfl rfl rfl rfl rfl rfl (by rfl) hS ?_
 intro W1 b2 qM
 let B1:List Value:=[.slice bT p1.Classes.length bV,.slice bC p1.Times.length bD]
 refine zy (cs:=B1) rfl rfl rfl rfl rfl rfl (by rfl) qM ?_
 intro W5 b6 fS
 refine oA Z Z (oA Z Z (oA Z Z (eN (CK.scope (sR (.fl 0 (.fl 1 (.fx 2 (wPE (.nil)) .stop))) Z (oL Z (fS.ldBA (j:=1) Z Z Z ZC zr (vs:=B0) Z Z) (oL Z (fS.ldBA (j:=0) Z Z Z ZF zw (vs:=B1) Z Z) ?_)))))))
 have q:=bnd hm
 obtain ⟨⟨x9,um,uo⟩,oO,jx⟩:=q
 try dsimp only at jx
 refine zD 0 Z Z Z Z (zE Z Z Tryz.call48 (zB Z (zB Z zL)) Z) fS (fun hs=>wFr p0 bS bU p1 bT bV bC bD W5 U hs jt ju jv oO) (.inr Z) ?_
 rintro bZ ur vj lj gj ql ⟨bt,bw,rfl,rfl⟩
 let B2:Res:=.row bt bw 3 1 (hH KL.encI x9)
 have d6:sW w U bZ [B2,.blk b6 93 B1,.blk b2 24 B0] lj:=ql
 refine oM Z Z (oR Z (ZB Z Z (v:=.slice bt x9.length bw) Z) (oR Z (ZB Z Z (v:=jV um) Z) (oR Z (ZB Z Z (v:=jV uo) Z) (oA Z Z (oA Z Z (oA Z Z (eN (zH (sR fL2 Z (oM Z Z (oR Z (ZE Z Z Z) (eN (ifc jx ?_ ?_)))))))))))))
 intro fe sZ
 refine zj (zt (fun h=>h fe.out)) (kN (sR (wDT gBa) Z (oL Z (d6.ldBA (j:=1) Z Z Z ZF zw (vs:=B1) Z Z) (oL Z (d6.ldBA (j:=2) Z Z Z ZC zr (vs:=B0) Z Z) ?_))))
 let B3:List Value:=[.slice bT p1.Classes.length bV,.slice bC p1.Times.length bD,.slice bS p0.Classes.length bU,jV p0.Each,jV p0.Laps,jV p0.Spare,jV p0.Loop,jV p0.Unused]
 let B4:List Value:=[.slice none 0 0,.slice none 0 0,.slice none 0 0,jV 0,jV 0,jV 0,jV 0,jV 0]
 refine oR Z (Zm (pv:=[(0,.agg B1.toArray),(1,.agg B0.toArray)]) (z:=B4) (cs:=B3) Z (wAR Z (wAR Z wBz)) Zd wEM Z Z) (ZG (cs:=B4) Z Z Z Z Z Zd Z d6 ?_)
 intro uH ah qI
 refine ZW (j:=0) (vs:=B3) Z Z Z Z qI Z Z Z Z Zc (zY Z) Z Z Z ?_
 intro lE qN
 have qO:sW w U bZ [.blk ah 249 B3,B2,.blk b6 93 B1,.blk b2 24 B0] lE:=qN
 refine eN (sR (.fx 0 .nil .stop) Z (ZG (cs:=hH KL.encI (Arr.fill 8 0).l) Z Z Z Z Z Tryz.zeroValue256 Z qO ?_))
 intro lF ak qQ
 have qU:sW w U bZ [.blk ak 256 (hH KL.encI (Arr.fill 8 0).l),.blk ah 249 B3,B2,.blk b6 93 B1,.blk b2 24 B0] lF:=qQ
 refine eN (zH (sR fL3 Z (oM Z Z (oR Z (zU Z Z zA) (oM Z Z (eN (zZ (bnK sZ fun ap ss s5=>?_))))))))
 have q:=wCq ss
 obtain ⟨gg,sw⟩:=q
 replace gg:=zM gg
 refine CK.forN' (fun bj bq σ_ w_=>∃ (U_:PHeap),σ_ 39=jV (↑bj:Int)/\σ_ 2=.pointer (some ⟨b2,0,none⟩)/\σ_ 3=.pointer (some ⟨b6,0,none⟩)/\σ_ 4=.slice none 0 0/\σ_ 5=.slice none 0 0/\σ_ 7=.slice bt x9.length bw/\σ_ 9=.pointer (some ⟨ah,0,none⟩)/\σ_ 10=.pointer (some ⟨ak,0,none⟩)/\σ_ 37=.slice bt x9.length bw/\σ_ 38=jV (↑x9.length:Int)/\PHeap.Le bZ U_/\sW w U U_ [.blk ak 256 (hH KL.encI bq.l),.blk ah 249 B3,.blk b6 93 B1,.blk b2 24 B0,B2] w_) sw ?_ ?_ ?_
 exact ⟨bZ,rfl,rfl,rfl,rfl,rfl,rfl,rfl,rfl,rfl,rfl,(zX _),(qU.pick [0,1,3,4,2] _ (by decide) rfl)⟩
 rintro bj bq vA vN uM fZ ⟨gW,fA,mW,mX,mY,mZ,m0,m4,fy,iN,iO,ub,d8⟩ t8
 have iA:Hid ((↑bj:Int) < (↑x9.length:Int)):=zM (wCE fZ)
 replace fZ:=zM fZ
 have sT:Hid (w64 ((↑bj:Int) + 1)=(↑(bj + 1):Int)):=zM (by have h1:=gg.out;have h2:=iA.out;rw [wAa] <;> omega)
 refine sR fL1 Z (oR Z (ze Z fA iO) (eN (zH (cT Z iA (kN (zH (zZ (sR fL3 Z (bnK t8 fun _ fK tE=>?_)))))))))
 obtain ⟨uZ,jc⟩:=d8.rowSome (j:=4) rfl (by rw [wAH (f:=KL.encI) (sz:=1) (fun _=>rfl) x9];have hz:=wAW fK;omega)
 refine oR Z (zo Z iN jc fA zA zC (wAW fK)) ?_
 have sM:=wCi (xs:=x9) (wAW fK)
 refine zz rfl rfl rfl rfl (d8.ldR (j:=4) rfl jc rfl rfl zN (wAh (sz:=1) (fun _=>rfl) _ _ 0 _ sM (by first | omega | rfl | simp) rfl)) rfl (OKS.ra rfl rfl rfl rfl rfl rfl (eN (rR (wFk (.fx 5 .nil .stop)) rfl (zf rfl rfl rfl rfl rfl rfl (bnK tE fun _ bP tK=>zi rfl rfl rfl rfl (fun _=>Runs.iaA rfl fy rfl ZV zC (wEE bP) (wEF bP)) ?_)))))
 have sO:=Arr.at_ bq (k:=((gd x9 bj).toNat)) (by have hz0:=wAW bP;omega)
 refine zz rfl rfl rfl rfl (d8.ldB (j:=0) rfl rfl rfl zN (wAh (sz:=1) (fun _=>rfl) _ _ 0 _ sO (by first | omega | rfl | simp) rfl)) rfl (zi rfl rfl rfl rfl (fun _=>zm rfl rfl rfl) (zi rfl rfl rfl rfl (fun _=>Runs.iaA rfl fy rfl ZV zC (wEE bP) (wEF bP)) ?_))
 have sP:=Arr.at_ bq (k:=((gd x9 bj).toNat)) (by have hz0:=wAW bP;omega)
 refine ZW (j:=0) (vs:=[jV (w64 ((bq.get ((gd x9 bj).toNat)) + 1))]) (cs':=hH KL.encI (bq.set ((gd x9 bj).toNat) (w64 ((bq.get ((gd x9 bj).toNat)) + 1))).l) rfl rfl rfl rfl d8 rfl rfl rfl rfl zC (by have hz0:=wAW bP;simp only [List.length_append,List.length_cons,List.length_nil,Int.toNat_natCast,wIp (f:=KL.encI) (sz:=1) (N:=8) bq (fun _=>rfl) rfl];omega) rfl (wJd (sz:=1) (fo:=0) (fun _=>rfl) _ _ _ _ sP (by first | omega | rfl | simp) (zY rfl) rfl) rfl ?_
 intro lJ rX
 have rY:sW w U gW [.blk ak 256 (hH KL.encI (bq.set ((gd x9 bj).toNat) (w64 ((bq.get ((gd x9 bj).toNat)) + 1))).l),.blk ah 249 B3,.blk b6 93 B1,.blk b2 24 B0,B2] lJ:=rX
 refine zu (zq (zK (rR fL2 Z (oR Z (ZJ (zm Z fA Z) (congrArg (jV) sT.out)) (oM Z Z (zu ?_))))))
 cases tK
 exact zK ⟨Z,⟨gW,Z,mW,mX,mY,mZ,m0,m4,fy,iN,iO,ub,rY⟩⟩
 rintro vR ig ⟨aV,oH,bN,bO,cj,cm,cn,cp,cq,u7,l6,gq,sb⟩
 have lU:Hid (¬ ((↑(((↑x9.length:Int):Int) - 0).toNat:Int) < (↑x9.length:Int))):=zM (wBb)
 refine sR fL1 Z (oR Z (ze Z oH l6) (eN (zH (cF Z lU (ZO (zn (zn (ZK (zK ?_)))))))))
 have q:=bnd s5
 obtain ⟨⟨cz,cA⟩,tZ,jw⟩:=q
 try dsimp only at jw
 refine CK.cut (fun σ_ w_=>∃ (U_:PHeap) (aU:Option Addr) (aP:Nat) (aQ:Option Addr) (au:Nat) (a0:Nat),σ_ 2=.pointer (some ⟨b2,0,none⟩)/\σ_ 3=.pointer (some ⟨b6,0,none⟩)/\σ_ 4=.slice none 0 0/\σ_ 5=.slice none 0 0/\σ_ 7=.slice bt x9.length bw/\σ_ 9=.pointer (some ⟨ah,0,none⟩)/\σ_ 10=.pointer (some ⟨ak,0,none⟩)/\σ_ 13=.slice aU cz.length aP/\σ_ 14=.slice aQ cA.length au/\σ_ 15=.pointer (some ⟨a0,0,none⟩)/\PHeap.Le aV U_/\sW w U U_ [.blk ak 256 (hH KL.encI ap.l),.blk ah 249 B3,.blk b6 93 B1,.blk b2 24 B0,B2,.row aU aP 3 1 (hH KL.encI cz),.row aQ au 3 1 (hH KL.encI cA),.blk a0 3 [jV 0]] w_) ?_ ?_
 refine bnK tZ fun x113 cQ sY=>bnK sY fun bg cR cy=>ZM ZI [3,1,3,2,3,1,3,2,2,3,3,0] (wDT (fC4_6 (.fx 3 (.fx 7 gBk (.fx 8 gBl .stop)) (.fx 7 (.fx 3 gBk (.fx 8 gBm .stop)) (.fx 8 (.fx 3 gBl (.fx 7 gBm .stop)) .stop))))) (by kernel_rfl) ?_
 have cw:=sb.drew
 generalize hw_W139:({ ig with drawn:=ig.drawn + 1 }:World)=uB at cw ⊢
 refine oR Z (zS Z bN zW Z zP) (oL Z (cw.ldB (j:=3) Z Z Z zR (v:=.slice bS p0.Classes.length bU) Z) (oR Z (zU Z Z zA) (oR Z (zS Z bO zg Z zP) (oL Z (cw.ldB (j:=2) Z Z Z zR (v:=.slice bT p1.Classes.length bV) Z) (oR Z (zU Z Z zA) (ZX ?_ ?_))))))
 refine Zb (enc:=KL.encI) (z:=(0:Int)) (v:=jV 0) Z Z Z Z Z (wEG zA) wDz Z Z Z Z Z Z cQ cw ?_
 intro lg e9 qa
 let B5:Res:=.row (some ⟨e9,0,none⟩) x113.length 3 1 (hH KL.encI x113)
 have jl:sW w U aV [B5,.blk ak 256 (hH KL.encI ap.l),.blk ah 249 B3,.blk b6 93 B1,.blk b2 24 B0,B2] lg:=qa
 refine ZX ?_ ?_
 refine Zb (enc:=KL.encI) (z:=(0:Int)) (v:=jV 0) Z Z Z Z Z (wEG zA) wDz Z Z Z Z Z Z cR jl ?_
 intro lh ii qb
 let B6:Res:=.row (some ⟨ii,0,none⟩) bg.length 3 1 (hH KL.encI bg)
 have qc:sW w U aV [B6,B5,.blk ak 256 (hH KL.encI ap.l),.blk ah 249 B3,.blk b6 93 B1,.blk b2 24 B0,B2] lh:=qb
 refine ZG (cs:=[jV 0]) Z Z Z Z Z ZS Z qc ?_
 intro uC ij qd
 refine oA Z Z (oA Z Z (ZW (j:=0) (vs:=[jV 0]) Z Z Z Z qd Z Z Z Z zC (zY Z) Z Z Z ?_))
 intro li qe
 have qf:sW w U aV [.blk ij 3 [jV 0],B6,B5,.blk ak 256 (hH KL.encI ap.l),.blk ah 249 B3,.blk b6 93 B1,.blk b2 24 B0,B2] li:=qe
 refine zu ?_
 have jf:=nD cy
 simp only [nI] at jf
 obtain ⟨pQ,pR⟩:=jf
 subst pQ
 subst pR
 exact zK ⟨rfl,⟨aV,(some ⟨e9,0,none⟩),x113.length,(some ⟨ii,0,none⟩),bg.length,ij,bN,bO,cj,cm,cn,cp,cq,rfl,rfl,rfl,(zX _),(qf.pick [3,4,5,6,7,2,1,0] _ (by decide) rfl)⟩⟩
 refine ZG (cs:=[jV 0]) Z Z Z Z Z ZS Z jl ?_
 intro uD fb qg
 refine oA Z Z (Zb (enc:=KL.encI) (z:=(0:Int)) (v:=jV 0) Z Z Z Z Z (wEG zA) wDz Z Z Z Z Z Z cR qg ?_)
 intro lm ik qh
 let B7:Res:=.row (some ⟨ik,0,none⟩) bg.length 3 1 (hH KL.encI bg)
 have qi:sW w U aV [B7,.blk fb 3 [jV 0],B5,.blk ak 256 (hH KL.encI ap.l),.blk ah 249 B3,.blk b6 93 B1,.blk b2 24 B0,B2] lm:=qh
 refine oA Z Z (ZW (j:=1) (vs:=[jV 0]) Z Z Z Z qi Z Z Z Z zC (zY Z) Z Z Z ?_)
 intro ln qj
 have qk:sW w U aV [B7,.blk fb 3 [jV 0],B5,.blk ak 256 (hH KL.encI ap.l),.blk ah 249 B3,.blk b6 93 B1,.blk b2 24 B0,B2] ln:=qj
 refine zu ?_
 have jg:=nD cy
 simp only [nI] at jg
 obtain ⟨pS,pT⟩:=jg
 subst pS
 subst pT
 exact zK ⟨rfl,⟨aV,(some ⟨e9,0,none⟩),x113.length,(some ⟨ik,0,none⟩),bg.length,fb,bN,bO,cj,cm,cn,cp,cq,rfl,rfl,rfl,(zX _),(qk.pick [3,4,5,6,7,2,0,1] _ (by decide) rfl)⟩⟩
 refine ZX ?_ ?_
 refine Zb (enc:=KL.encI) (z:=(0:Int)) (v:=jV 0) Z Z Z Z Z (wEG zA) wDz Z Z Z Z Z Z cR cw ?_
 intro lp fc qm
 let B8:Res:=.row (some ⟨fc,0,none⟩) bg.length 3 1 (hH KL.encI bg)
 have jm:sW w U aV [B8,.blk ak 256 (hH KL.encI ap.l),.blk ah 249 B3,.blk b6 93 B1,.blk b2 24 B0,B2] lp:=qm
 refine ZX ?_ ?_
 refine Zb (enc:=KL.encI) (z:=(0:Int)) (v:=jV 0) Z Z Z Z Z (wEG zA) wDz Z Z Z Z Z Z cQ jm ?_
 intro lq il qn
 let B9:Res:=.row (some ⟨il,0,none⟩) x113.length 3 1 (hH KL.encI x113)
 have qo:sW w U aV [B9,B8,.blk ak 256 (hH KL.encI ap.l),.blk ah 249 B3,.blk b6 93 B1,.blk b2 24 B0,B2] lq:=qn
 refine ZG (cs:=[jV 0]) Z Z Z Z Z ZS Z qo ?_
 intro uE im qp
 refine oA Z Z (oA Z Z (ZW (j:=0) (vs:=[jV 0]) Z Z Z Z qp Z Z Z Z zC (zY Z) Z Z Z ?_))
 intro lu qq
 have qr:sW w U aV [.blk im 3 [jV 0],B9,B8,.blk ak 256 (hH KL.encI ap.l),.blk ah 249 B3,.blk b6 93 B1,.blk b2 24 B0,B2] lu:=qq
 refine zu ?_
 have jh:=nD cy
 simp only [nI] at jh
 obtain ⟨pU,pV⟩:=jh
 subst pU
 subst pV
 exact zK ⟨rfl,⟨aV,(some ⟨il,0,none⟩),x113.length,(some ⟨fc,0,none⟩),bg.length,im,bN,bO,cj,cm,cn,cp,cq,rfl,rfl,rfl,(zX _),(qr.pick [3,4,5,6,7,1,2,0] _ (by decide) rfl)⟩⟩
 refine ZG (cs:=[jV 0]) Z Z Z Z Z ZS Z jm ?_
 intro uF fd qt
 refine Zb (enc:=KL.encI) (z:=(0:Int)) (v:=jV 0) Z Z Z Z Z (wEG zA) wDz Z Z Z Z Z Z cQ qt ?_
 intro lv io qu
 let gF:Res:=.row (some ⟨io,0,none⟩) x113.length 3 1 (hH KL.encI x113)
 have qv:sW w U aV [gF,.blk fd 3 [jV 0],B8,.blk ak 256 (hH KL.encI ap.l),.blk ah 249 B3,.blk b6 93 B1,.blk b2 24 B0,B2] lv:=qu
 refine oA Z Z (oA Z Z (ZW (j:=1) (vs:=[jV 0]) Z Z Z Z qv Z Z Z Z zC (zY Z) Z Z Z ?_))
 intro lw qw
 have qx:sW w U aV [gF,.blk fd 3 [jV 0],B8,.blk ak 256 (hH KL.encI ap.l),.blk ah 249 B3,.blk b6 93 B1,.blk b2 24 B0,B2] lw:=qw
 refine zu ?_
 have ji:=nD cy
 simp only [nI] at ji
 obtain ⟨pW,pX⟩:=ji
 subst pW
 subst pX
 exact zK ⟨rfl,⟨aV,(some ⟨io,0,none⟩),x113.length,(some ⟨fc,0,none⟩),bg.length,fd,bN,bO,cj,cm,cn,cp,cq,rfl,rfl,rfl,(zX _),(qx.pick [3,4,5,6,7,0,2,1] _ (by decide) rfl)⟩⟩
 refine ZG (cs:=[jV 0]) Z Z Z Z Z ZS Z cw ?_
 intro uG dr jo
 refine ZX ?_ ?_
 refine Zb (enc:=KL.encI) (z:=(0:Int)) (v:=jV 0) Z Z Z Z Z (wEG zA) wDz Z Z Z Z Z Z cQ jo ?_
 intro lx ip qy
 let eF:Res:=.row (some ⟨ip,0,none⟩) x113.length 3 1 (hH KL.encI x113)
 let eG:Res:=.blk dr 3 [jV 0]
 have qz:sW w U aV [eF,eG,.blk ak 256 (hH KL.encI ap.l),.blk ah 249 B3,.blk b6 93 B1,.blk b2 24 B0,B2] lx:=qy
 refine oA Z Z (Zb (enc:=KL.encI) (z:=(0:Int)) (v:=jV 0) Z Z Z Z Z (wEG zA) wDz Z Z Z Z Z Z cR qz ?_)
 intro ly iq qA
 let gG:Res:=.row (some ⟨iq,0,none⟩) bg.length 3 1 (hH KL.encI bg)
 have qB:sW w U aV [gG,eF,eG,.blk ak 256 (hH KL.encI ap.l),.blk ah 249 B3,.blk b6 93 B1,.blk b2 24 B0,B2] ly:=qA
 refine oA Z Z (ZW (j:=2) (vs:=[jV 0]) Z Z Z Z qB Z Z Z Z zC (zY Z) Z Z Z ?_)
 intro lz qC
 have qD:sW w U aV [gG,eF,eG,.blk ak 256 (hH KL.encI ap.l),.blk ah 249 B3,.blk b6 93 B1,.blk b2 24 B0,B2] lz:=qC
 refine zu ?_
 have jj:=nD cy
 simp only [nI] at jj
 obtain ⟨pY,pZ⟩:=jj
 subst pY
 subst pZ
 exact zK ⟨rfl,⟨aV,(some ⟨ip,0,none⟩),x113.length,(some ⟨iq,0,none⟩),bg.length,dr,bN,bO,cj,cm,cn,cp,cq,rfl,rfl,rfl,(zX _),(qD.pick [3,4,5,6,7,1,0,2] _ (by decide) rfl)⟩⟩
 refine Zb (enc:=KL.encI) (z:=(0:Int)) (v:=jV 0) Z Z Z Z Z (wEG zA) wDz Z Z Z Z Z Z cR jo ?_
 intro lA ir qE
 let eH:Res:=.row (some ⟨ir,0,none⟩) bg.length 3 1 (hH KL.encI bg)
 let eI:Res:=.blk dr 3 [jV 0]
 have qF:sW w U aV [eH,eI,.blk ak 256 (hH KL.encI ap.l),.blk ah 249 B3,.blk b6 93 B1,.blk b2 24 B0,B2] lA:=qE
 refine Zb (enc:=KL.encI) (z:=(0:Int)) (v:=jV 0) Z Z Z Z Z (wEG zA) wDz Z Z Z Z Z Z cQ qF ?_
 intro lB it qG
 let gH:Res:=.row (some ⟨it,0,none⟩) x113.length 3 1 (hH KL.encI x113)
 have qH:sW w U aV [gH,eH,eI,.blk ak 256 (hH KL.encI ap.l),.blk ah 249 B3,.blk b6 93 B1,.blk b2 24 B0,B2] lB:=qG
 refine oA Z Z (oA Z Z (ZW (j:=2) (vs:=[jV 0]) Z Z Z Z qH Z Z Z Z zC (zY Z) Z Z Z ?_))
 intro lD qJ
 have qK:sW w U aV [gH,eH,eI,.blk ak 256 (hH KL.encI ap.l),.blk ah 249 B3,.blk b6 93 B1,.blk b2 24 B0,B2] lD:=qJ
 refine zu ?_
 have jk:=nD cy
 simp only [nI] at jk
 obtain ⟨p6,p7⟩:=jk
 subst p6
 subst p7
 exact zK ⟨rfl,⟨aV,(some ⟨it,0,none⟩),x113.length,(some ⟨ir,0,none⟩),bg.length,dr,bN,bO,cj,cm,cn,cp,cq,rfl,rfl,rfl,(zX _),(qK.pick [3,4,5,6,7,0,1,2] _ (by decide) rfl)⟩⟩
 rintro vJ uI ⟨eL,aU,aP,aQ,au,a0,l8,l9,mc,md,mf,mg,mh,mi,mj,ml,gm,qL⟩
 refine zH (CK.label (zK ?_))
 have q:=bnd jw
 obtain ⟨⟨bi,bh,bb⟩,t7,jy⟩:=q
 try dsimp only at jy
 let bG:Res:=.row aQ au 3 1 (hH KL.encI bb)
 let bH:Res:=.blk a0 3 [jV bi]
 let dk:Res:=.row aU aP 3 1 (hH KL.encI bh)
 refine CK.cut (fun σ_ w_=>∃ (U_:PHeap),σ_ 4=.slice none 0 0/\σ_ 5=.slice none 0 0/\σ_ 13=.slice aU bh.length aP/\σ_ 14=.slice aQ bb.length au/\σ_ 15=.pointer (some ⟨a0,0,none⟩)/\PHeap.Le eL U_/\sW w U U_ [.blk ak 256 (hH KL.encI ap.l),.blk ah 249 B3,.blk b6 93 B1,.blk b2 24 B0,bH,dk,bG] w_/\bh.length=cz.length/\bb.length=cA.length) ?_ ?_
 refine zZ (CK.iter (fun (x324,cX,bo) σ_ w_=>∃ (U_:PHeap),σ_ 2=.pointer (some ⟨b2,0,none⟩)/\σ_ 3=.pointer (some ⟨b6,0,none⟩)/\σ_ 4=.slice none 0 0/\σ_ 5=.slice none 0 0/\σ_ 7=.slice bt x9.length bw/\σ_ 9=.pointer (some ⟨ah,0,none⟩)/\σ_ 10=.pointer (some ⟨ak,0,none⟩)/\σ_ 13=.slice aU cX.length aP/\σ_ 14=.slice aQ bo.length au/\σ_ 15=.pointer (some ⟨a0,0,none⟩)/\PHeap.Le eL U_/\sW w U U_ [.blk ak 256 (hH KL.encI ap.l),.blk ah 249 B3,.blk b6 93 B1,.blk b2 24 B0,.blk a0 3 [jV x324],B2,.row aU aP 3 1 (hH KL.encI cX),.row aQ au 3 1 (hH KL.encI bo)] w_/\cX.length=cz.length/\bo.length=cA.length) t7 ?_ ?_)
 exact ⟨eL,l8,l9,mc,md,mf,mg,mh,mi,mj,ml,(zX _),(qL.pick [0,1,2,3,7,4,5,6] _ (by decide) rfl),rfl,rfl⟩
 rintro ⟨x324,cX,bo⟩ vx vK uJ ⟨eM,mn,mo,mp,mq,mr,ms,mu,mw,iF,my,de,qP,oP,oU⟩ jJ sj
 try dsimp only at jJ
 refine zZ (sR (.fx 0 (.fx 1 .nil .stop) .stop) Z (ZG (cs:=[.bool false]) Z Z Z Z Z Tryz.zeroValue4 Z qP ?_))
 intro uK az qR
 refine ZW (j:=0) (vs:=[.bool false]) Z Z Z Z qR Z Z Z Z Tryz.sizeOf4 (zY Z) Z Z Z ?_
 intro lG qS
 have qT:sW w U eM [.blk az 4 [.bool false],.blk ak 256 (hH KL.encI ap.l),.blk ah 249 B3,.blk b6 93 B1,.blk b2 24 B0,.blk a0 3 [jV x324],B2,.row aU aP 3 1 (hH KL.encI cX),.row aQ au 3 1 (hH KL.encI bo)] lG:=qS
 refine eN (sR fL2 Z (oR Z (Runs.mkf Z zL (zB Z zL)) (oA Z Z (eN (zH (sR fL3 Z (oM Z iF (oR Z (zU Z Z zA) (oM Z Z (eN (zZ ?_)))))))))))
 have q:=bnd jJ
 obtain ⟨⟨uq,vD,vE,vG⟩,sm,jz⟩:=q
 try dsimp only at jz
 have q:=wCq sm
 obtain ⟨ge,sn⟩:=q
 replace ge:=zM ge
 refine CK.forN' (fun ae (iu,bW,bB,ez) σ_ w_=>∃ (U_:PHeap),σ_ 60=jV (↑ae:Int)/\σ_ 2=.pointer (some ⟨b2,0,none⟩)/\σ_ 3=.pointer (some ⟨b6,0,none⟩)/\σ_ 4=.slice none 0 0/\σ_ 5=.slice none 0 0/\σ_ 7=.slice bt x9.length bw/\σ_ 9=.pointer (some ⟨ah,0,none⟩)/\σ_ 10=.pointer (some ⟨ak,0,none⟩)/\σ_ 13=.slice aU bB.length aP/\σ_ 14=.slice aQ ez.length au/\σ_ 15=.pointer (some ⟨a0,0,none⟩)/\σ_ 16=.pointer (some ⟨az,0,none⟩)/\σ_ 17=.func (.func 128) #[] #[.pointer (some ⟨az,0,none⟩)]/\σ_ 59=jV (↑bo.length:Int)/\PHeap.Le eM U_/\sW w U U_ [.blk az 4 [.bool iu],.blk ak 256 (hH KL.encI ap.l),.blk ah 249 B3,.blk b6 93 B1,.blk b2 24 B0,.blk a0 3 [jV bW],B2,.row aU aP 3 1 (hH KL.encI bB),.row aQ au 3 1 (hH KL.encI ez)] w_/\bB.length=cz.length/\ez.length=cA.length) sn ?_ ?_ ?_
 exact ⟨eM,Z,mn,mo,mp,mq,mr,ms,mu,mw,iF,my,Z,Z,Z,(zX _),qT,oP,oU⟩
 rintro ae ⟨iu,bW,bB,ez⟩ vy vL uL fW ⟨gU,fz,mz,mA,mB,mC,mD,mE,mF,iG,mG,mH,mI,mJ,iH,bQ,qV,oW,oX⟩ jK
 try dsimp only at jK
 have iy:Hid ((↑ae:Int) < (↑bo.length:Int)):=zM (wCE fW)
 replace fW:=zM fW
 have eh:Hid (w64 ((↑ae:Int) + 1)=(↑(ae + 1):Int)):=zM (by have h1:=ge.out;have h2:=iy.out;rw [wAa] <;> omega)
 refine sR fL1 Z (oR Z (ze Z fz iH) (eN (zH (cT Z iy (kN (zH (zZ (sR fL2 Z (oM Z fz (oA Z Z (eN (zH (sR fL3 Z (oM Z iG (oR Z (zU Z Z zA) (oM Z Z (eN (zZ ?_))))))))))))))))))
 have q:=bnd jK
 obtain ⟨⟨df,j8,aX⟩,so,jA⟩:=q
 try dsimp only at jA
 have q:=wCq so
 obtain ⟨gf,sq⟩:=q
 replace gf:=zM gf
 let aY:Res:=.blk a0 3 [jV bW]
 refine CK.forN' (fun av (cM,aR,aW) σ_ w_=>∃ (U_:PHeap),σ_ 65=jV (↑av:Int)/\σ_ 2=.pointer (some ⟨b2,0,none⟩)/\σ_ 3=.pointer (some ⟨b6,0,none⟩)/\σ_ 4=.slice none 0 0/\σ_ 5=.slice none 0 0/\σ_ 7=.slice bt x9.length bw/\σ_ 9=.pointer (some ⟨ah,0,none⟩)/\σ_ 10=.pointer (some ⟨ak,0,none⟩)/\σ_ 13=.slice aU aR.length aP/\σ_ 14=.slice aQ aW.length au/\σ_ 15=.pointer (some ⟨a0,0,none⟩)/\σ_ 16=.pointer (some ⟨az,0,none⟩)/\σ_ 17=.func (.func 128) #[] #[.pointer (some ⟨az,0,none⟩)]/\σ_ 18=jV (↑ae:Int)/\σ_ 59=jV (↑bo.length:Int)/\σ_ 60=jV (↑ae:Int)/\σ_ 64=jV (↑bB.length:Int)/\PHeap.Le gU U_/\sW w U U_ [.blk az 4 [.bool cM],.blk ak 256 (hH KL.encI ap.l),.blk ah 249 B3,.blk b6 93 B1,.blk b2 24 B0,aY,B2,.row aU aP 3 1 (hH KL.encI aR),.row aQ au 3 1 (hH KL.encI aW)] w_/\aR.length=cz.length/\aW.length=cA.length) sq ?_ ?_ ?_
 exact ⟨gU,Z,mz,mA,mB,mC,mD,mE,mF,iG,mG,mH,mI,mJ,Z,iH,fz,Z,(zX _),qV,oW,oX⟩
 rintro av ⟨cM,aR,aW⟩ vz vM lH fY ⟨lc,cr,dA,b8,dB,dC,b9,cN,dD,cb,cd,dE,dF,cf,bm,dG,dH,cO,bR,jp,dR,dS⟩ jL
 try dsimp only at jL
 have iz:Hid ((↑av:Int) < (↑bB.length:Int)):=zM (wCE fY)
 replace fY:=zM fY
 have ey:Hid (w64 ((↑av:Int) + 1)=(↑(av + 1):Int)):=zM (by have h1:=gf.out;have h2:=iz.out;rw [wAa] <;> omega)
 refine sR fL1 Z (oR Z (ze Z cr cO) (eN (zH (cT Z iz (kN (zH (zZ (sR fL2 Z (oM Z cr (oA Z Z (eN (zH (sR (wDT (.fx 3 .nil .stop)) Z (oL Z (jp.ldBA (j:=2) Z Z cN Zs Zc (vs:=B3) Z Z) (oM Z bm (oM Z Z ?_))))))))))))))))
 have oY:=ju.le gj
 have o0:=oY.le gq
 have o2:=o0.le gm
 have o3:=o2.le de
 have o4:=o3.le bQ
 have o5:=o4.le bR
 have o6:=jv.le gj
 have o7:=o6.le gq
 have o8:=o7.le gm
 have o9:=o8.le de
 have pa:=o9.le bQ
 have fD:=pa.le bR
 have pb:=jt.le gj
 have pe:=pb.le gq
 have pf:=pe.le gm
 have pg:=pf.le de
 have pi:=pg.le bQ
 have pj:=pi.le bR
 refine bnK jL fun vw pk s6=>zD 0 Z Z Z Z (zE Z Z Tryz.call124 (zB Z (zB Z (zB Z zL))) Z) jp (fun hs=>wCM (⟨p1,p0⟩:wAI) bT bV bC bD bS bU (↑ae:Int) (↑av:Int) lH lc hs o5 fD pj pk) (.inr Z) ?_
 rintro bp ut vk cL cB qW ⟨rfl,rfl⟩
 let cC:Res:=.row aU aP 3 1 (hH KL.encI aR)
 let cD:Res:=.row aQ au 3 1 (hH KL.encI aW)
 let cE:Res:=.blk az 4 [.bool cM]
 have cW:sW w U bp [cE,.blk ak 256 (hH KL.encI ap.l),.blk ah 249 B3,.blk b6 93 B1,.blk b2 24 B0,aY,B2,cC,cD] cL:=qW
 refine eN (ifc s6 ?_ ?_)
 intro ff s7
 refine zp (congrArg nA ff.out) (ZM ZI [3,3,3,3,3,3,3,1,3,1,3,3,1,3,3,1,3,0] (wOM (.fx 17 .nil .stop)) (by kernel_rfl) ?_)
 have bE:=cW.drew
 generalize hw_W493:({ cL with drawn:=cL.drawn + 1 }:World)=eU at bE ⊢
 refine oM Z cf (oM Z cd (oM Z bm (bnK s7 fun _ dT s8=>?_)))
 obtain ⟨dt,cS⟩:=bE.rowSome (j:=8) rfl (by rw [wAH (f:=KL.encI) (sz:=1) (fun _=>rfl) aW];have hz:=wAW dT;omega)
 refine oR Z (zo Z Z cS Z zA zC (wAW dT)) (oM Z cb (oM Z Z (bnK s8 fun _ ct s9=>?_)))
 obtain ⟨du,cU⟩:=bE.rowSome (j:=7) rfl (by rw [wAH (f:=KL.encI) (sz:=1) (fun _=>rfl) aR];have hz:=wAW ct;omega)
 refine oR Z (zo Z Z cU Z zA zC (wAW ct)) ?_
 have sE:=wCi (xs:=aR) (wAW ct)
 refine zz rfl rfl rfl rfl (bE.ldR (j:=7) rfl cU rfl rfl zN (wAh (sz:=1) (fun _=>rfl) _ _ 0 _ sE (by first | omega | rfl | simp) rfl)) rfl (zi rfl rfl rfl rfl (fun _=>zS rfl b8 zg rfl ZH) (zz rfl rfl rfl rfl (bE.ldB (j:=3) rfl rfl rfl ZL (v:=.slice bC p1.Times.length bD) rfl) rfl (zf rfl rfl rfl rfl rfl bm (bnK s9 fun eC dU te=>?_))))
 have i4:=fD.le cB
 have q:=i4.el (wAQ dU)
 obtain ⟨lO,ui,vt,pH,fP,tW⟩:=q
 obtain ⟨jO,jR,rfl,pn⟩:=tW
 replace fP:Cl bp lO (ui + ae * 1) [.slice jO eC.length jR]:=fP
 refine oR Z (zo Z Z pH Z zd zP (wBJ dU)) (oL Z (bE.ldC (f:=0) fP (v:=.slice jO eC.length jR) Z Z zR Z) (oM Z Z (bnK te fun eD dV tf=>?_)))
 have q:=pn.el (fun _=>rfl) (wAQ dV)
 obtain ⟨uT,vg,pI,pN⟩:=q
 refine oR Z (zo Z Z pI Z zA zC (wBJ dV)) (oL Z (bE.ldC (f:=0) pN (v:=jV eD) Z Z zN Z) (oR Z (zm Z Z Z) ?_))
 have qX:=bE.eqR (j:=8) rfl (wNA (f:=KL.encI) (off:=0 + ae * 1) (i:=ae) (fun _=>rfl) cS (by omega) (wAW dT))
 let gI:Res:=.row (some ⟨dt,0,none⟩) au 3 1 (wCR (hH KL.encI aW) (0 + ae * 1) [jV (gd aW ae)])
 have qY:sW w U bp [cE,.blk ak 256 (hH KL.encI ap.l),.blk ah 249 B3,.blk b6 93 B1,.blk b2 24 B0,aY,B2,cC,gI] eU:=qX
 have q:=bnd tf
 obtain ⟨⟨bX,jW⟩,po,jB⟩:=q
 try dsimp only at jB
 have qZ:sW w U bp [gI,cE,.blk ak 256 (hH KL.encI ap.l),.blk ah 249 B3,.blk b6 93 B1,.blk b2 24 B0,aY,B2,cC] eU:=qY.pick [8,0,1,2,3,4,5,6,7] _ (by decide) rfl
 refine zD 2 rfl rfl rfl rfl (zE rfl rfl Tryz.call128 (zB rfl (zB rfl zL)) rfl) qZ (fun hs=>wBu (gd aW ae) (fun x=>.row (some ⟨dt,0,none⟩) au 3 1 (wCR (hH KL.encI aW) (0 + ae * 1) [jV x])) dt (0 + ae * 1) (w64 ((gd aR av) + eD)) cM az eU bp hs (wIx (cs:=hH KL.encI aW) (off:=0 + ae * 1) (by rw [wIz (f:=KL.encI) (fun _=>rfl)];have hz:=wAW dT;omega)) po) (.inl rfl) ?_
 rintro bI uu vm dp gp rc ⟨rfl,rfl⟩
 let dl:Res:=.blk az 4 [.bool jW]
 have re:sW w U bI [.row (some ⟨dt,0,none⟩) au 3 1 (wCR (hH KL.encI aW) (0 + ae * 1) [jV bX]),dl,.blk ak 256 (hH KL.encI ap.l),.blk ah 249 B3,.blk b6 93 B1,.blk b2 24 B0,aY,B2,cC] dp:=rc
 have ri:=re.eqR (j:=0) rfl (wIy (f:=KL.encI) (off:=0 + ae * 1) (i:=ae) (fun _=>rfl) cS (by omega))
 let cG:Res:=.row aQ au 3 1 (hH KL.encI (nH aW ae bX))
 have d7:sW w U bI [cG,dl,.blk ak 256 (hH KL.encI ap.l),.blk ah 249 B3,.blk b6 93 B1,.blk b2 24 B0,aY,B2,cC] dp:=ri
 refine eN (sR fL6 Z (oM Z b9 (oM Z Z (bnK jB fun _ fE tg=>?_))))
 obtain ⟨uU,i9⟩:=d7.rowSome (j:=7) rfl (by rw [wAH (f:=KL.encI) (sz:=1) (fun _=>rfl) x9];have hz:=wAW fE;omega)
 refine oR Z (zo Z Z i9 Z zA zC (wAW fE)) ?_
 have sF:=wCi (xs:=x9) (wAW fE)
 refine zz rfl rfl rfl rfl (d7.ldR (j:=7) rfl i9 rfl rfl zN (wAh (sz:=1) (fun _=>rfl) _ _ 0 _ sF (by first | omega | rfl | simp) rfl)) rfl (zf rfl rfl rfl rfl rfl bm (zi rfl rfl rfl rfl (fun _=>Zo rfl rfl rfl) (eN (ifc tg ?_ ?_))))
 intro fg th
 refine cT Z fg (CK.fresh fun ba aZ=>?_)
 have mK:ba 2=.pointer (some ⟨b2,0,none⟩):=(aZ 2).trans dA
 have iI:ba 3=.pointer (some ⟨b6,0,none⟩):=(aZ 3).trans b8
 have mL:ba 4=.slice none 0 0:=(aZ 4).trans dB
 have mM:ba 5=.slice none 0 0:=(aZ 5).trans dC
 have mN:ba 7=.slice bt x9.length bw:=(aZ 7).trans b9
 have mO:ba 9=.pointer (some ⟨ah,0,none⟩):=(aZ 9).trans cN
 have mP:ba 10=.pointer (some ⟨ak,0,none⟩):=(aZ 10).trans dD
 have iJ:ba 13=.slice aU aR.length aP:=(aZ 13).trans cb
 have iK:ba 14=.slice aQ ((nH aW ae bX).length) au:=(aZ 14).trans (nJ (b:=(.slice aQ aW.length au:Value)) (c:=(.slice aQ ((nH aW ae bX).length) au:Value)) cd (by simp only [nE]))
 have mQ:ba 15=.pointer (some ⟨a0,0,none⟩):=(aZ 15).trans dE
 have mR:ba 16=.pointer (some ⟨az,0,none⟩):=(aZ 16).trans dF
 have iL:ba 17=.func (.func 128) #[] #[.pointer (some ⟨az,0,none⟩)]:=(aZ 17).trans cf
 have fw:ba 18=jV (↑ae:Int):=(aZ 18).trans bm
 have iM:ba 19=jV (↑av:Int):=(aZ 19).trans rfl
 have mS:ba 59=jV (↑bo.length:Int):=(aZ 59).trans dG
 have mT:ba 60=jV (↑ae:Int):=(aZ 60).trans dH
 have mU:ba 64=jV (↑bB.length:Int):=(aZ 64).trans cO
 have mV:ba 65=jV (↑av:Int):=(aZ 65).trans cr
 clear aZ
 refine ZM ZI [3,3,3,3,3,3,3,1,3,1,3,3,1,3,3,1,3,0] (wOM (.fx 17 .nil .stop)) (by kernel_rfl) ?_
 have cx:=d7.drew
 generalize hw_W567:({ dp with drawn:=dp.drawn + 1 }:World)=eV at cx ⊢
 refine oM Z iL (oM Z iJ (oM Z iM (oR Z (zo Z Z cU Z zA zC (wAW ct)) (oM Z iK (oM Z fw (bnK th fun _ fG tj=>oR Z (zo Z Z cS Z zA zC (wAW fG)) ?_))))))
 have sG:=wCi (xs:=(nH aW ae bX)) (by first | exact wAW fG | (have hz:=wAW fG;simpa only [nE] using hz))
 refine zz rfl rfl rfl rfl (cx.ldR (j:=0) rfl cS rfl rfl zN (wAh (sz:=1) (fun _=>rfl) _ _ 0 _ sG (by first | omega | rfl | simp) rfl)) rfl (zi rfl rfl rfl rfl (fun _=>zS rfl iI zg rfl ZH) (zz rfl rfl rfl rfl (cx.ldB (j:=4) rfl rfl rfl ZL (v:=.slice bC p1.Times.length bD) rfl) rfl (zf rfl rfl rfl rfl rfl fw ?_)))
 have pp:=i4.le gp
 have q:=pp.el (wAQ dU)
 obtain ⟨lP,uj,vu,pJ,fQ,tX⟩:=q
 obtain ⟨jP,jS,rfl,pq⟩:=tX
 replace fQ:Cl bI lP (uj + ae * 1) [.slice jP eC.length jS]:=fQ
 refine oR Z (zo Z Z pJ Z zd zP (wBJ dU)) (oL Z (cx.ldC (f:=0) fQ (v:=.slice jP eC.length jS) Z Z zR Z) (oM Z iM ?_))
 have q:=pq.el (fun _=>rfl) (wAQ dV)
 obtain ⟨uV,vh,pK,pO⟩:=q
 refine oR Z (zo Z Z pK Z zA zC (wBJ dV)) (oL Z (cx.ldC (f:=0) pO (v:=jV eD) Z Z zN Z) (oR Z (Za Z Z Z) ?_))
 have rj:=cx.eqR (j:=8) rfl (wNA (f:=KL.encI) (off:=0 + av * 1) (i:=av) (fun _=>rfl) cU (by omega) (wAW ct))
 let gJ:Res:=.row (some ⟨du,0,none⟩) aP 3 1 (wCR (hH KL.encI aR) (0 + av * 1) [jV (gd aR av)])
 have rk:sW w U bI [cG,dl,.blk ak 256 (hH KL.encI ap.l),.blk ah 249 B3,.blk b6 93 B1,.blk b2 24 B0,aY,B2,gJ] eV:=rj
 have q:=bnd tj
 obtain ⟨⟨gt,jX⟩,pt,jC⟩:=q
 try dsimp only at jC
 have rn:sW w U bI [gJ,dl,cG,.blk ak 256 (hH KL.encI ap.l),.blk ah 249 B3,.blk b6 93 B1,.blk b2 24 B0,aY,B2] eV:=rk.pick [8,1,0,2,3,4,5,6,7] _ (by decide) rfl
 refine zD 2 rfl rfl rfl rfl (zE rfl rfl Tryz.call128 (zB rfl (zB rfl zL)) rfl) rn (fun hs=>wBu (gd aR av) (fun x=>.row (some ⟨du,0,none⟩) aP 3 1 (wCR (hH KL.encI aR) (0 + av * 1) [jV x])) du (0 + av * 1) (w64 ((gd (nH aW ae bX) ae) - eD)) jW az eV bI hs (wIx (cs:=hH KL.encI aR) (off:=0 + av * 1) (by rw [wIz (f:=KL.encI) (fun _=>rfl)];have hz:=wAW ct;omega)) pt) (.inl rfl) ?_
 rintro eO uv vn g8 uc ro ⟨rfl,rfl⟩
 have rp:sW w U eO [.row (some ⟨du,0,none⟩) aP 3 1 (wCR (hH KL.encI aR) (0 + av * 1) [jV gt]),.blk az 4 [.bool jX],cG,.blk ak 256 (hH KL.encI ap.l),.blk ah 249 B3,.blk b6 93 B1,.blk b2 24 B0,aY,B2] g8:=ro
 have rq:=rp.eqR (j:=0) rfl (wIy (f:=KL.encI) (off:=0 + av * 1) (i:=av) (fun _=>rfl) cU (by omega))
 have rt:sW w U eO [.row aU aP 3 1 (hH KL.encI (nH aR av gt)),.blk az 4 [.bool jX],cG,.blk ak 256 (hH KL.encI ap.l),.blk ah 249 B3,.blk b6 93 B1,.blk b2 24 B0,aY,B2] g8:=rq
 refine zu (zq (zK (rR fL2 Z (oR Z (ZJ (zm Z mV Z) (congrArg (jV) ey.out)) (oM Z Z (zu ?_))))))
 cases jC
 exact zK ⟨rfl,⟨eO,rfl,mK,iI,mL,mM,mN,mO,mP,(nJ (b:=(.slice aU aR.length aP:Value)) (c:=(.slice aU ((nH aR av gt).length) aP:Value)) iJ (by simp only [nE])),iK,mQ,mR,iL,fw,mS,mT,mU,(((bR.trans cB).trans gp).trans uc),(rt.pick [1,3,4,5,6,7,8,0,2] _ (by decide) rfl),(nE.trans dR),(nE.trans dS)⟩⟩
 intro fg tn
 refine cF Z fg (ZQ (zq (zK (rR fL2 Z (oR Z (ZJ (zm Z cr Z) (congrArg (jV) ey.out)) (oM Z Z (zu ?_)))))))
 cases tn
 exact zK ⟨rfl,⟨bI,rfl,dA,b8,dB,dC,b9,cN,dD,cb,(nJ (b:=(.slice aQ aW.length au:Value)) (c:=(.slice aQ ((nH aW ae bX).length) au:Value)) cd (by simp only [nE])),dE,dF,cf,bm,dG,dH,cO,((bR.trans cB).trans gp),(d7.pick [1,2,3,4,5,6,7,8,0] _ (by decide) rfl),dR,(nE.trans dS)⟩⟩
 intro ff tp
 refine zj (congrArg nA (nB.2 ff.out)) (kN (sR fL6 Z (oM Z b9 (oM Z Z (bnK tp fun _ fH tq=>?_)))))
 obtain ⟨uW,ja⟩:=cW.rowSome (j:=6) rfl (by rw [wAH (f:=KL.encI) (sz:=1) (fun _=>rfl) x9];have hz:=wAW fH;omega)
 refine oR Z (zo Z Z ja Z zA zC (wAW fH)) ?_
 have sH:=wCi (xs:=x9) (wAW fH)
 refine zz rfl rfl rfl rfl (cW.ldR (j:=6) rfl ja rfl rfl zN (wAh (sz:=1) (fun _=>rfl) _ _ 0 _ sH (by first | omega | rfl | simp) rfl)) rfl (zf rfl rfl rfl rfl rfl bm (zi rfl rfl rfl rfl (fun _=>Zo rfl rfl rfl) (eN (ifc tq ?_ ?_))))
 intro fh tr
 refine cT Z fh (ZM ZI [3,3,3,3,3,3,3,1,3,1,3,3,1,3,3,1,3,0] (wOM (.fx 17 .nil .stop)) (by kernel_rfl) ?_)
 have bF:=cW.drew
 generalize hw_W617:({ cL with drawn:=cL.drawn + 1 }:World)=eW at bF ⊢
 refine oM Z cf (oM Z cb (oM Z Z (bnK tr fun _ dW tu=>?_)))
 obtain ⟨dv,fN⟩:=bF.rowSome (j:=7) rfl (by rw [wAH (f:=KL.encI) (sz:=1) (fun _=>rfl) aR];have hz:=wAW dW;omega)
 refine oR Z (zo Z Z fN Z zA zC (wAW dW)) (oM Z cd (oM Z bm (bnK tu fun _ fJ tv=>?_)))
 obtain ⟨uX,jb⟩:=bF.rowSome (j:=8) rfl (by rw [wAH (f:=KL.encI) (sz:=1) (fun _=>rfl) aW];have hz:=wAW fJ;omega)
 refine oR Z (zo Z Z jb Z zA zC (wAW fJ)) ?_
 have sI:=wCi (xs:=aW) (wAW fJ)
 refine zz rfl rfl rfl rfl (bF.ldR (j:=8) rfl jb rfl rfl zN (wAh (sz:=1) (fun _=>rfl) _ _ 0 _ sI (by first | omega | rfl | simp) rfl)) rfl (zi rfl rfl rfl rfl (fun _=>zS rfl b8 zg rfl ZH) (zz rfl rfl rfl rfl (bF.ldB (j:=3) rfl rfl rfl ZL (v:=.slice bC p1.Times.length bD) rfl) rfl (zf rfl rfl rfl rfl rfl bm (bnK tv fun jY i5 tw=>?_))))
 have py:=fD.le cB
 have q:=py.el (wAQ i5)
 obtain ⟨lQ,uk,vv,pL,fR,tY⟩:=q
 obtain ⟨jQ,jU,rfl,pz⟩:=tY
 replace fR:Cl bp lQ (uk + ae * 1) [.slice jQ jY.length jU]:=fR
 refine oR Z (zo Z Z pL Z zd zP (wBJ i5)) (oL Z (bF.ldC (f:=0) fR (v:=.slice jQ jY.length jU) Z Z zR Z) (oM Z Z (bnK tw fun jZ i6 tz=>?_)))
 have q:=pz.el (fun _=>rfl) (wAQ i6)
 obtain ⟨uY,vi,pM,pP⟩:=q
 refine oR Z (zo Z Z pM Z zA zC (wBJ i6)) (oL Z (bF.ldC (f:=0) pP (v:=jV jZ) Z Z zN Z) (oR Z (Za Z Z Z) ?_))
 have ru:=bF.eqR (j:=7) rfl (wNA (f:=KL.encI) (off:=0 + av * 1) (i:=av) (fun _=>rfl) fN (by omega) (wAW dW))
 let gK:Res:=.row (some ⟨dv,0,none⟩) aP 3 1 (wCR (hH KL.encI aR) (0 + av * 1) [jV (gd aR av)])
 have rx:sW w U bp [cE,.blk ak 256 (hH KL.encI ap.l),.blk ah 249 B3,.blk b6 93 B1,.blk b2 24 B0,aY,B2,gK,cD] eW:=ru
 have q:=bnd tz
 obtain ⟨⟨gw,j0⟩,pB,jD⟩:=q
 try dsimp only at jD
 have ry:sW w U bp [gK,cE,.blk ak 256 (hH KL.encI ap.l),.blk ah 249 B3,.blk b6 93 B1,.blk b2 24 B0,aY,B2,cD] eW:=rx.pick [7,0,1,2,3,4,5,6,8] _ (by decide) rfl
 refine zD 2 rfl rfl rfl rfl (zE rfl rfl Tryz.call128 (zB rfl (zB rfl zL)) rfl) ry (fun hs=>wBu (gd aR av) (fun x=>.row (some ⟨dv,0,none⟩) aP 3 1 (wCR (hH KL.encI aR) (0 + av * 1) [jV x])) dv (0 + av * 1) (w64 ((gd aW ae) - jZ)) cM az eW bp hs (wIx (cs:=hH KL.encI aR) (off:=0 + av * 1) (by rw [wIz (f:=KL.encI) (fun _=>rfl)];have hz:=wAW dW;omega)) pB) (.inl rfl) ?_
 rintro eP uw vo g9 ud rA ⟨rfl,rfl⟩
 have rB:sW w U eP [.row (some ⟨dv,0,none⟩) aP 3 1 (wCR (hH KL.encI aR) (0 + av * 1) [jV gw]),.blk az 4 [.bool j0],.blk ak 256 (hH KL.encI ap.l),.blk ah 249 B3,.blk b6 93 B1,.blk b2 24 B0,aY,B2,cD] g9:=rA
 have rC:=rB.eqR (j:=0) rfl (wIy (f:=KL.encI) (off:=0 + av * 1) (i:=av) (fun _=>rfl) fN (by omega))
 have rD:sW w U eP [.row aU aP 3 1 (hH KL.encI (nH aR av gw)),.blk az 4 [.bool j0],.blk ak 256 (hH KL.encI ap.l),.blk ah 249 B3,.blk b6 93 B1,.blk b2 24 B0,aY,B2,cD] g9:=rC
 refine zu (zq (zK (rR fL2 Z (oR Z (ZJ (zm Z cr Z) (congrArg (jV) ey.out)) (oM Z Z (zu ?_))))))
 cases jD
 exact zK ⟨rfl,⟨eP,rfl,dA,b8,dB,dC,b9,cN,dD,(nJ (b:=(.slice aU aR.length aP:Value)) (c:=(.slice aU ((nH aR av gw).length) aP:Value)) cb (by simp only [nE])),cd,dE,dF,cf,bm,dG,dH,cO,((bR.trans cB).trans ud),(rD.pick [1,2,3,4,5,6,7,0,8] _ (by decide) rfl),(nE.trans dR),dS⟩⟩
 intro fh tA
 refine cF Z fh (ZQ (zq (zK (rR fL2 Z (oR Z (ZJ (zm Z cr Z) (congrArg (jV) ey.out)) (oM Z Z (zu ?_)))))))
 cases tA
 exact zK ⟨Z,⟨bp,Z,dA,b8,dB,dC,b9,cN,dD,cb,cd,dE,dF,cf,bm,dG,dH,cO,(bR.trans cB),cW,dR,dS⟩⟩
 rintro vO ib ⟨b5,oB,cP,dI,dJ,dK,dL,dM,bJ,dN,bK,bL,dO,bM,cg,dP,dQ,m5,eA,rE,dX,dY⟩
 have lV:Hid (¬ ((↑(((↑bB.length:Int):Int) - 0).toNat:Int) < (↑bB.length:Int))):=zM (wBb)
 refine sR fL1 rfl (zi rfl rfl rfl rfl (fun _=>ze rfl oB m5) (eN (zH (cF Z lV (ZO (zn (zn (ZK (zK (zH (zH (ZM ZI [3,3,1,3,1,3] fL6 (by kernel_rfl) ?_))))))))))))
 have bA:=rE.drew
 generalize hw_W700:({ ib with drawn:=ib.drawn + 1 }:World)=dq at bA ⊢
 refine oM Z cg (bnK jA fun _ bz tB=>oR Z (Runs.iaA Z bJ Z ZV zC (wEE bz) (wEF bz)) ?_)
 have sJ:=Arr.at_ ap (k:=ae) (by have hz0:=wAW bz;omega)
 refine zz rfl rfl rfl rfl (bA.ldB (j:=1) rfl rfl rfl zN (wAh (sz:=1) (fun _=>rfl) _ _ 0 _ sJ (by first | omega | rfl | simp) rfl)) rfl (zi rfl rfl rfl rfl (fun _=>zS rfl cP zW rfl zC) (zz rfl rfl rfl rfl (bA.ldB (j:=4) rfl rfl rfl zN (v:=jV p0.Each) rfl) rfl (zi rfl rfl rfl rfl (fun _=>ze rfl rfl rfl) (eN (ifc tB ?_ ?_)))))
 intro fj tC
 refine cT Z fj (rR (wFk (.fx 5 .nil .stop)) Z (oM Z bM (oM Z bK (oM Z cg (bnK tC fun _ cu tD=>?_)))))
 obtain ⟨dw,cV⟩:=bA.rowSome (j:=8) rfl (by rw [wAH (f:=KL.encI) (sz:=1) (fun _=>rfl) aX];have hz:=wAW cu;omega)
 refine oR Z (zo Z Z cV Z zA zC (wAW cu)) ?_
 have sK:=wCi (xs:=aX) (wAW cu)
 refine zz rfl rfl rfl rfl (bA.ldR (j:=8) rfl cV rfl rfl zN (wAh (sz:=1) (fun _=>rfl) _ _ 0 _ sK (by first | omega | rfl | simp) rfl)) rfl ?_
 have q:=bnd tD
 obtain ⟨⟨gx,j3⟩,pC,jE⟩:=q
 try dsimp only at jE
 let bY:Res:=.row aU aP 3 1 (hH KL.encI j8)
 let gL:Res:=.row aQ au 3 1 (hH KL.encI aX)
 have rF:sW w U b5 [aY,.blk az 4 [.bool df],.blk ak 256 (hH KL.encI ap.l),.blk ah 249 B3,.blk b6 93 B1,.blk b2 24 B0,B2,bY,gL] dq:=bA.pick [5,0,1,2,3,4,6,7,8] _ (by decide) rfl
 refine zD 2 Z Z Z Z (zE Z Z Tryz.call128 (zB bL (zB Z zL)) Z) rF (fun hs=>wBu bW (fun x=>.blk a0 3 (wCR [jV bW] 0 [jV x])) a0 0 (gd aX ae) df az dq b5 hs (wRe (zY Z)) pC) (.inl Z) ?_
 rintro cK ux vp eX jM rG ⟨rfl,rfl⟩
 let cH:Res:=.blk a0 3 [jV gx]
 let eJ:Res:=.blk az 4 [.bool j3]
 have fT:sW w U cK [cH,eJ,.blk ak 256 (hH KL.encI ap.l),.blk ah 249 B3,.blk b6 93 B1,.blk b2 24 B0,B2,bY,gL] eX:=rG
 refine eN (sR fL4 Z (oM Z cg (oR Z (Runs.iaA Z bJ Z ZV zC (wEE bz) (wEF bz)) ?_)))
 have sL:=Arr.at_ ap (k:=ae) (by have hz0:=wAW bz;omega)
 refine zz rfl rfl rfl rfl (fT.ldB (j:=2) rfl rfl rfl zN (wAh (sz:=1) (fun _=>rfl) _ _ 0 _ sL (by first | omega | rfl | simp) rfl)) rfl (zi rfl rfl rfl rfl (fun _=>Zh rfl rfl rfl) (eN (ifc jE ?_ ?_)))
 intro fm tF
 refine cT Z fm (ZM ZI [3,3,3,3,1,0] (wFk (.fx 5 .nil .stop)) (by kernel_rfl) ?_)
 have fU:=fT.drew
 generalize hw_W727:({ eX with drawn:=eX.drawn + 1 }:World)=eY at fU ⊢
 refine oM Z bM (oM Z bK (oM Z cg (oR Z (zo Z Z cV Z zA zC (wAW cu)) (oL Z (fU.ldB (j:=0) Z Z bL zN (v:=jV gx) Z) ?_))))
 have rH:=fU.eqR (j:=8) rfl (wNA (f:=KL.encI) (off:=0 + ae * 1) (i:=ae) (fun _=>rfl) cV (by omega) (wAW cu))
 let gM:Res:=.row (some ⟨dw,0,none⟩) au 3 1 (wCR (hH KL.encI aX) (0 + ae * 1) [jV (gd aX ae)])
 have rI:sW w U cK [cH,eJ,.blk ak 256 (hH KL.encI ap.l),.blk ah 249 B3,.blk b6 93 B1,.blk b2 24 B0,B2,bY,gM] eY:=rH
 have q:=bnd tF
 obtain ⟨⟨gy,j4⟩,pD,jG⟩:=q
 try dsimp only at jG
 have rJ:sW w U cK [gM,eJ,cH,.blk ak 256 (hH KL.encI ap.l),.blk ah 249 B3,.blk b6 93 B1,.blk b2 24 B0,B2,bY] eY:=rI.pick [8,1,0,2,3,4,5,6,7] _ (by decide) rfl
 refine zD 2 rfl rfl rfl rfl (zE rfl rfl Tryz.call128 (zB rfl (zB rfl zL)) rfl) rJ (fun hs=>wBu (gd aX ae) (fun x=>.row (some ⟨dw,0,none⟩) au 3 1 (wCR (hH KL.encI aX) (0 + ae * 1) [jV x])) dw (0 + ae * 1) gx j3 az eY cK hs (wIx (cs:=hH KL.encI aX) (off:=0 + ae * 1) (by rw [wIz (f:=KL.encI) (fun _=>rfl)];have hz:=wAW cu;omega)) pD) (.inl rfl) ?_
 rintro eQ uy vq ic ue rK ⟨rfl,rfl⟩
 have rL:sW w U eQ [.row (some ⟨dw,0,none⟩) au 3 1 (wCR (hH KL.encI aX) (0 + ae * 1) [jV gy]),.blk az 4 [.bool j4],cH,.blk ak 256 (hH KL.encI ap.l),.blk ah 249 B3,.blk b6 93 B1,.blk b2 24 B0,B2,bY] ic:=rK
 have rM:=rL.eqR (j:=0) rfl (wIy (f:=KL.encI) (off:=0 + ae * 1) (i:=ae) (fun _=>rfl) cV (by omega))
 have rN:sW w U eQ [.row aQ au 3 1 (hH KL.encI (nH aX ae gy)),.blk az 4 [.bool j4],cH,.blk ak 256 (hH KL.encI ap.l),.blk ah 249 B3,.blk b6 93 B1,.blk b2 24 B0,B2,bY] ic:=rM
 refine zu (zq (zK (rR fL2 Z (oR Z (ZJ (zm Z dQ Z) (congrArg (jV) eh.out)) (oM Z Z (zu ?_))))))
 cases jG
 exact zK ⟨rfl,⟨eQ,rfl,cP,dI,dJ,dK,dL,dM,bJ,dN,(nJ (b:=(.slice aQ aX.length au:Value)) (c:=(.slice aQ ((nH aX ae gy).length) au:Value)) bK (by simp only [nE])),bL,dO,bM,dP,(((bQ.trans eA).trans jM).trans ue),(rN.pick [1,3,4,5,6,2,7,8,0] _ (by decide) rfl),dX,(nE.trans dY)⟩⟩
 intro fm tG
 refine cF Z fm (ZQ (zq (zK (rR fL2 Z (oR Z (ZJ (zm Z dQ Z) (congrArg (jV) eh.out)) (oM Z Z (zu ?_)))))))
 cases tG
 exact zK ⟨rfl,⟨cK,rfl,cP,dI,dJ,dK,dL,dM,bJ,dN,bK,bL,dO,bM,dP,((bQ.trans eA).trans jM),(fT.pick [1,2,3,4,5,0,6,7,8] _ (by decide) rfl),dX,dY⟩⟩
 intro fj tH
 refine cF Z fj (kN (sR fL4 Z (oM Z cg (oR Z (Runs.iaA Z bJ Z ZV zC (wEE bz) (wEF bz)) ?_))))
 have sN:=Arr.at_ ap (k:=ae) (by have hz0:=wAW bz;omega)
 refine zz rfl rfl rfl rfl (bA.ldB (j:=1) rfl rfl rfl zN (wAh (sz:=1) (fun _=>rfl) _ _ 0 _ sN (by first | omega | rfl | simp) rfl)) rfl (zi rfl rfl rfl rfl (fun _=>Zh rfl rfl rfl) (eN (ifc tH ?_ ?_)))
 intro fq tI
 refine cT Z fq (ZM ZI [3,3,3,3,1,0] (wFk (.fx 5 .nil .stop)) (by kernel_rfl) ?_)
 have d9:=bA.drew
 generalize hw_W758:({ dq with drawn:=dq.drawn + 1 }:World)=eZ at d9 ⊢
 refine oM Z bM (oM Z bK (oM Z cg (bnK tI fun _ dZ tJ=>?_)))
 obtain ⟨dx,fO⟩:=d9.rowSome (j:=8) rfl (by rw [wAH (f:=KL.encI) (sz:=1) (fun _=>rfl) aX];have hz:=wAW dZ;omega)
 refine oR Z (zo Z Z fO Z zA zC (wAW dZ)) (oL Z (d9.ldB (j:=5) Z Z bL zN (v:=jV bW) Z) ?_)
 have rO:=d9.eqR (j:=8) rfl (wNA (f:=KL.encI) (off:=0 + ae * 1) (i:=ae) (fun _=>rfl) fO (by omega) (wAW dZ))
 let dm:Res:=.row aU aP 3 1 (hH KL.encI j8)
 let gN:Res:=.row (some ⟨dx,0,none⟩) au 3 1 (wCR (hH KL.encI aX) (0 + ae * 1) [jV (gd aX ae)])
 have rP:sW w U b5 [.blk az 4 [.bool df],.blk ak 256 (hH KL.encI ap.l),.blk ah 249 B3,.blk b6 93 B1,.blk b2 24 B0,aY,B2,dm,gN] eZ:=rO
 have q:=bnd tJ
 obtain ⟨⟨gA,j5⟩,pE,jH⟩:=q
 try dsimp only at jH
 have rQ:sW w U b5 [gN,.blk az 4 [.bool df],.blk ak 256 (hH KL.encI ap.l),.blk ah 249 B3,.blk b6 93 B1,.blk b2 24 B0,aY,B2,dm] eZ:=rP.pick [8,0,1,2,3,4,5,6,7] _ (by decide) rfl
 refine zD 2 rfl rfl rfl rfl (zE rfl rfl Tryz.call128 (zB rfl (zB rfl zL)) rfl) rQ (fun hs=>wBu (gd aX ae) (fun x=>.row (some ⟨dx,0,none⟩) au 3 1 (wCR (hH KL.encI aX) (0 + ae * 1) [jV x])) dx (0 + ae * 1) bW df az eZ b5 hs (wIx (cs:=hH KL.encI aX) (off:=0 + ae * 1) (by rw [wIz (f:=KL.encI) (fun _=>rfl)];have hz:=wAW dZ;omega)) pE) (.inl rfl) ?_
 rintro eR uz vr ie uf rS ⟨rfl,rfl⟩
 have rT:sW w U eR [.row (some ⟨dx,0,none⟩) au 3 1 (wCR (hH KL.encI aX) (0 + ae * 1) [jV gA]),.blk az 4 [.bool j5],.blk ak 256 (hH KL.encI ap.l),.blk ah 249 B3,.blk b6 93 B1,.blk b2 24 B0,aY,B2,dm] ie:=rS
 have rV:=rT.eqR (j:=0) rfl (wIy (f:=KL.encI) (off:=0 + ae * 1) (i:=ae) (fun _=>rfl) fO (by omega))
 have rW:sW w U eR [.row aQ au 3 1 (hH KL.encI (nH aX ae gA)),.blk az 4 [.bool j5],.blk ak 256 (hH KL.encI ap.l),.blk ah 249 B3,.blk b6 93 B1,.blk b2 24 B0,aY,B2,dm] ie:=rV
 refine zu (zq (zK (rR fL2 Z (oR Z (ZJ (zm Z dQ Z) (congrArg (jV) eh.out)) (oM Z Z (zu ?_))))))
 cases jH
 exact zK ⟨rfl,⟨eR,rfl,cP,dI,dJ,dK,dL,dM,bJ,dN,(nJ (b:=(.slice aQ aX.length au:Value)) (c:=(.slice aQ ((nH aX ae gA).length) au:Value)) bK (by simp only [nE])),bL,dO,bM,dP,((bQ.trans eA).trans uf),(rW.pick [1,2,3,4,5,6,7,8,0] _ (by decide) rfl),dX,(nE.trans dY)⟩⟩
 intro fq tL
 refine cF Z fq (ZQ (zq (zK (rR fL2 Z (oR Z (ZJ (zm Z dQ Z) (congrArg (jV) eh.out)) (oM Z Z (zu ?_)))))))
 cases tL
 exact zK ⟨Z,⟨b5,Z,cP,dI,dJ,dK,dL,dM,bJ,dN,bK,bL,dO,bM,dP,(bQ.trans eA),bA,dX,dY⟩⟩
 rintro vP uN ⟨gX,oG,m6,m7,iP,iQ,m8,m9,n5,iR,iT,iU,n6,u5,n7,jN,fV,i7,i8⟩
 have lW:Hid (¬ ((↑(((↑bo.length:Int):Int) - 0).toNat:Int) < (↑bo.length:Int))):=zM (wBb)
 refine sR fL1 Z (oR Z (ze Z oG n7) (eN (zH (cF Z lW (ZO (zn (zn (ZK (zK (sR fL2 Z (oL Z (fV.ldB (j:=0) Z Z n6 Tryz.isAgg4 (v:=.bool uq) Z) (oR Z (ZR Z Z) (eN (ifc jz ?_ ?_))))))))))))))
 intro ft tM
 refine zj (nC ft.out) (ZQ (zq ?_))
 have q:=nD tM
 obtain rfl:=q
 exact zK ⟨rfl,_,rfl,⟨gX,m6,m7,iP,iQ,m8,m9,n5,iR,iT,iU,(de.trans jN),(fV.pick [1,2,3,4,5,6,7,8] _ (by decide) rfl),i7,i8⟩⟩
 intro ft tO
 refine zp (nF (ft.out)) (ZO (wKa ?_))
 have q:=wAp tO
 obtain ⟨ul,tP,lZ⟩:=q
 have q:=sj ul lZ
 obtain rfl:=q
 refine zn (ZK ?_)
 cases tP
 exact zK ⟨rfl,⟨gX,iP,iQ,iR,iT,iU,(de.trans jN),(fV.pick [1,2,3,4,5,7,8] _ (by decide) rfl),i7,i8⟩⟩
 rintro vQ uO ⟨gZ,n8,n9,od,oe,og,vc,rZ,va,vb⟩
 refine zH (sR fL3 Z (oM Z od (oR Z (zU Z Z zA) (oM Z Z (eN (zZ (bnK jy fun j9 sA tQ=>?_)))))))
 have q:=wCq sA
 obtain ⟨gh,sB⟩:=q
 replace gh:=zM gh
 refine CK.forN' (fun br cY σ_ w_=>∃ (U_:PHeap) (dg:Option Addr) (dy:Nat),σ_ 142=jV (↑br:Int)/\σ_ 4=.slice dg cY.length dy/\σ_ 5=.slice none 0 0/\σ_ 14=.slice aQ bb.length au/\σ_ 15=.pointer (some ⟨a0,0,none⟩)/\σ_ 140=.slice aU bh.length aP/\σ_ 141=jV (↑bh.length:Int)/\PHeap.Le gZ U_/\sW w U U_ [.blk ak 256 (hH KL.encI ap.l),.blk ah 249 B3,.blk b6 93 B1,.blk b2 24 B0,bH,.row dg dy 3 1 (hH KL.encI cY),bG,dk] w_) sB ?_ ?_ ?_
 have r6:=rZ.nilrow 3 1
 exact ⟨gZ,none,0,rfl,n8,n9,oe,og,rfl,rfl,(zX _),(r6.pick [1,2,3,4,5,0,7,6] _ (by decide) rfl)⟩
 rintro br cY vB vS uP gb ⟨eS,dg,dy,fB,oh,oi,oj,iV,iW,iX,ug,ed⟩ t9
 have iB:Hid ((↑br:Int) < (↑bh.length:Int)):=zM (wCE gb)
 replace gb:=zM gb
 have sU:Hid (w64 ((↑br:Int) + 1)=(↑(br + 1):Int)):=zM (by have h1:=gh.out;have h2:=iB.out;rw [wAa] <;> omega)
 refine sR fL1 Z (oR Z (ze Z fB iX) (eN (zH (cT Z iB (kN (zH (zZ (sR fL3 Z (bnK t9 fun _ fL tR=>?_)))))))))
 obtain ⟨u0,jd⟩:=ed.rowSome (j:=7) rfl (by rw [wAH (f:=KL.encI) (sz:=1) (fun _=>rfl) bh];have hz:=wAW fL;omega)
 refine oR Z (zo Z iW jd fB zA zC (wAW fL)) ?_
 have sQ:=wCi (xs:=bh) (wAW fL)
 refine zz rfl rfl rfl rfl (ed.ldR (j:=7) rfl jd rfl rfl zN (wAh (sz:=1) (fun _=>rfl) _ _ 0 _ sQ (by first | omega | rfl | simp) rfl)) rfl (OKS.ra rfl rfl rfl rfl rfl rfl (eN (rR (wHf (.fx 4 gBc .stop)) rfl (zf rfl rfl rfl rfl rfl oh (zz rfl rfl rfl rfl (ed.ldB (j:=4) rfl rfl iV zN (v:=jV bi) rfl) rfl (zf rfl rfl rfl rfl rfl rfl (zi rfl rfl rfl rfl (fun _=>Za rfl rfl rfl) (Zf (pv:=[(0,jV (w64 (bi - (gd bh br))))]) (zs:=[jV 0]) (cs:=[jV (w64 (bi - (gd bh br)))]) rfl rfl rfl rfl rfl (wAR rfl wBz) zA zC ZS rfl rfl rfl rfl rfl ed ?_))))))))
 intro lK lR r7
 let gO:Res:=.row (some ⟨lR,0,none⟩) 1 3 1 (hH KL.encI [w64 (bi - (gd bh br))])
 have jq:sW w U eS [gO,.blk ak 256 (hH KL.encI ap.l),.blk ah 249 B3,.blk b6 93 B1,.blk b2 24 B0,bH,.row dg dy 3 1 (hH KL.encI cY),bG,dk] lK:=r7
 refine bnK tR fun j6 pF tS=>OKS.append (j:=6) (enc:=KL.encI) (xs:=cY) (ys:=[w64 (bi - (gd bh br))]) (zs:=j6) rfl rfl rfl rfl rfl Zj wDz rfl rfl rfl rfl rfl rfl jq rfl rfl rfl (jq.srcR (j:=0) rfl (by decide) (wAH (f:=KL.encI) (sz:=1) (fun _=>rfl) [w64 (bi - (gd bh br))])) (fun _=>rfl) (fun _=>rfl) pF rfl ?_
 intro gD iC lL r8
 have r9:sW w U eS [gO,.blk ak 256 (hH KL.encI ap.l),.blk ah 249 B3,.blk b6 93 B1,.blk b2 24 B0,bH,.row gD iC 3 1 (hH KL.encI j6),bG,dk] lL:=r8
 refine oA Z Z (zu (zq (zK (rR fL2 Z (oR Z (ZJ (zm Z fB Z) (congrArg (jV) sU.out)) (oM Z Z (zu ?_)))))))
 cases tS
 exact zK ⟨rfl,⟨eS,gD,iC,rfl,rfl,oi,oj,iV,iW,iX,ug,(r9.pick [1,2,3,4,5,6,7,8] _ (by decide) rfl)⟩⟩
 rintro vU uQ ⟨g7,eE,fu,oI,ol,om,oq,ot,u6,ou,vd,sc⟩
 have lX:Hid (¬ ((↑(((↑bh.length:Int):Int) - 0).toNat:Int) < (↑bh.length:Int))):=zM (wBb)
 refine sR fL1 Z (oR Z (ze Z oI ou) (eN (zH (cF Z lX (ZO (zn (zn (ZK (zK (zH (sR fL3 Z (oM Z oq (oR Z (zU Z Z zA) (oM Z Z (eN (zZ (bnK tQ fun vH sC tT=>?_)))))))))))))))))
 have q:=wCq sC
 obtain ⟨gi,sD⟩:=q
 replace gi:=zM gi
 let eK:Res:=.row eE fu 3 1 (hH KL.encI j9)
 refine CK.forN' (fun bs cZ σ_ w_=>∃ (U_:PHeap) (dh:Option Addr) (dz:Nat),σ_ 155=jV (↑bs:Int)/\σ_ 4=.slice eE j9.length fu/\σ_ 5=.slice dh cZ.length dz/\σ_ 15=.pointer (some ⟨a0,0,none⟩)/\σ_ 153=.slice aQ bb.length au/\σ_ 154=jV (↑bb.length:Int)/\PHeap.Le g7 U_/\sW w U U_ [.blk ak 256 (hH KL.encI ap.l),.blk ah 249 B3,.blk b6 93 B1,.blk b2 24 B0,bH,eK,.row dh dz 3 1 (hH KL.encI cZ),bG] w_) sD ?_ ?_ ?_
 have sd:=sc.nilrow 3 1
 exact ⟨g7,none,0,rfl,ol,om,ot,rfl,rfl,(zX _),(sd.pick [1,2,3,4,5,6,0,7] _ (by decide) rfl)⟩
 rintro bs cZ vC vV uR gc ⟨eT,dh,dz,fC,ow,ox,iY,iZ,i0,uh,ef⟩ ua
 have iD:Hid ((↑bs:Int) < (↑bb.length:Int)):=zM (wCE gc)
 replace gc:=zM gc
 have sV:Hid (w64 ((↑bs:Int) + 1)=(↑(bs + 1):Int)):=zM (by have h1:=gi.out;have h2:=iD.out;rw [wAa] <;> omega)
 refine sR fL1 Z (oR Z (ze Z fC i0) (eN (zH (cT Z iD (kN (zH (zZ (sR fL3 Z (bnK ua fun _ fM tU=>?_)))))))))
 obtain ⟨u3,je⟩:=ef.rowSome (j:=7) rfl (by rw [wAH (f:=KL.encI) (sz:=1) (fun _=>rfl) bb];have hz:=wAW fM;omega)
 refine oR Z (zo Z iZ je fC zA zC (wAW fM)) ?_
 have sS:=wCi (xs:=bb) (wAW fM)
 refine zz rfl rfl rfl rfl (ef.ldR (j:=7) rfl je rfl rfl zN (wAh (sz:=1) (fun _=>rfl) _ _ 0 _ sS (by first | omega | rfl | simp) rfl)) rfl (OKS.ra rfl rfl rfl rfl rfl rfl (eN (rR (wFk (.fx 5 (.fx 6 (.fl 7 .nil) .stop) .stop)) rfl (zf rfl rfl rfl rfl rfl ox (zz rfl rfl rfl rfl (ef.ldB (j:=4) rfl rfl iY zN (v:=jV bi) rfl) rfl (zf rfl rfl rfl rfl rfl rfl (zi rfl rfl rfl rfl (fun _=>Za rfl rfl rfl) (zi rfl rfl rfl rfl (fun _=>Runs.max rfl rfl rfl) (Zf (pv:=[(0,jV (max 0 (w64 (bi - (gd bb bs)))))]) (zs:=[jV 0]) (cs:=[jV (max 0 (w64 (bi - (gd bb bs))))]) rfl rfl rfl rfl rfl (wAR rfl wBz) zA zC ZS rfl rfl rfl rfl rfl ef ?_)))))))))
 intro lM lS se
 let gP:Res:=.row (some ⟨lS,0,none⟩) 1 3 1 (hH KL.encI [max 0 (w64 (bi - (gd bb bs)))])
 have jr:sW w U eT [gP,.blk ak 256 (hH KL.encI ap.l),.blk ah 249 B3,.blk b6 93 B1,.blk b2 24 B0,bH,eK,.row dh dz 3 1 (hH KL.encI cZ),bG] lM:=se
 refine bnK tU fun j7 pG tV=>OKS.append (j:=7) (enc:=KL.encI) (xs:=cZ) (ys:=[max 0 (w64 (bi - (gd bb bs)))]) (zs:=j7) rfl rfl rfl rfl rfl Zj wDz rfl rfl rfl rfl rfl rfl jr rfl rfl rfl (jr.srcR (j:=0) rfl (by decide) (wAH (f:=KL.encI) (sz:=1) (fun _=>rfl) [max 0 (w64 (bi - (gd bb bs)))])) (fun _=>rfl) (fun _=>rfl) pG rfl ?_
 intro gE iE lN sf
 have sg:sW w U eT [gP,.blk ak 256 (hH KL.encI ap.l),.blk ah 249 B3,.blk b6 93 B1,.blk b2 24 B0,bH,eK,.row gE iE 3 1 (hH KL.encI j7),bG] lN:=sf
 refine oA Z Z (zu (zq (zK (rR fL2 Z (oR Z (ZJ (zm Z fC Z) (congrArg (jV) sV.out)) (oM Z Z (zu ?_)))))))
 cases tV
 exact zK ⟨rfl,⟨eT,gE,iE,rfl,ow,rfl,iY,iZ,i0,uh,(sg.pick [1,2,3,4,5,6,7,8] _ (by decide) rfl)⟩⟩
 rintro vW uS ⟨lf,k9,lY,oK,oy,oz,u9,u4,l7,ve,sh⟩
 have lT:Hid (¬ ((↑(((↑bb.length:Int):Int) - 0).toNat:Int) < (↑bb.length:Int))):=zM (wBb)
 refine sR fL1 Z (oR Z (ze Z oK l7) (eN (zH (cF Z lT (ZO (zn (zn (ZK (zK (sR fL5 Z (oM Z oy (oM Z oz (oA Z Z (oA Z Z (oA Z Z (eN (zI (wKe ?_))))))))))))))))))
 cases tT
 exact ⟨rfl,_,(wPH rfl rfl rfl),lf,_,(sh.pick [5,6] _ (by decide) rfl),eE,fu,k9,lY,rfl,rfl⟩
 intro fe sX
 refine cT Z fe (sR fL4 Z (oM Z Z (oA Z Z (oA Z Z (oA Z Z (eN (zI (zJ (wKe ?_)))))))))
 have p8:=d6.nilrow 3 1
 have p9:=p8.nilrow 3 1
 cases sX
 exact ⟨rfl,_,(wPH rfl rfl rfl),bZ,_,(p9.pick [1,0] _ (by decide) rfl),none,0,none,0,rfl,rfl⟩
end Go.Proofs.YtabadkdjndnliaaGreat
namespace Go.Proofs.YtabadkdjndnliaaGreat
open Go.KL
set_option maxHeartbeats 4000000
theorem wAP (p0:List Int) (az:Option Addr) (aQ:Nat) (p1:List Int) (aP:Option Addr) (aR:Nat) (w:World) (U:PHeap) (hS:St0 w U []) (bz:Sl U 1 az aQ p0.length (hH KL.encI p0)) (bA:Sl U 1 aP aR p1.length (hH KL.encI p1)) {r:Bool} (hm:wAJ p0 p1=some r):Gv Tryz.prog 51 [.slice az p0.length aQ,.slice aP p1.length aR] w (wCQ w [] U (fun U_ L_ v=>v=.bool r/\L_=[])):=by
 unfold wAJ at hm
 refine Gv.of Tryz.func51 Z Tryz.ntmps51 Tryz.results51 Z (sR fL1 Z (oA Z Z (eN (zH (sR fL5 Z (oM Z Z (oR Z (zU Z Z zA) (oM Z Z (oR Z (zU Z Z zA) (oR Z (ZE Z Z Z) (eN ?_)))))))))))
 by_cases c1:(↑p0.length:Int)=(↑p1.length:Int)
 have aj:=hm;rw [if_pos c1] at aj;replace c1:=zM c1
 refine zj (zt (fun h=>h c1.out)) (kN (zH (sR fL3 Z (oM Z Z (oR Z (zU Z Z zA) (oM Z Z (eN (zZ ?_))))))))
 have q:=wCP aj
 obtain ⟨r5,ap⟩:=q
 have q:=wCO ap
 obtain ⟨au,bD⟩:=q
 replace au:=zM au
 refine Zk (fun k4 _ σ_ w_=>∃ (U_:PHeap),σ_ 13=jV (↑k4:Int)/\σ_ 0=.slice az p0.length aQ/\σ_ 1=.slice aP p1.length aR/\σ_ 12=jV (↑p0.length:Int)/\PHeap.Le U U_/\sW w U U_ [] w_) bD ?_ ?_ ?_
 exact ⟨U,Z,Z,Z,Z,(zX _),hS⟩
 rintro k4 ⟨⟩ bX bZ aT aq ⟨aS,am,aV,aW,aX,av,bt⟩ bb bB
 try dsimp only at bb
 have aU:Hid ((↑k4:Int) < (↑p0.length:Int)):=zM (wCE aq)
 replace aq:=zM aq
 have bE:Hid (w64 ((↑k4:Int) + 1)=(↑(k4 + 1):Int)):=zM (by have h1:=au.out;have h2:=aU.out;rw [wAa] <;> omega)
 refine sR fL1 rfl (zi rfl rfl rfl rfl (fun _=>ze rfl am aX) (eN (zH (cT Z aU (kN (zH (zZ (sR fL2 rfl (zf rfl rfl rfl rfl rfl am (OKS.ra rfl rfl rfl rfl rfl rfl (eN (zH (ZM ZI [3,3,3,1,3,3,3,1,3] fL9 (by kernel_rfl) ?_)))))))))))))
 have ah:=bt.drew
 generalize hw_W25:({ aT with drawn:=aT.drawn + 1 }:World)=bN at ah ⊢
 refine oM Z aV (oM Z Z (bnK bb fun bL aY bF=>?_))
 have bm:=bz.le av
 have q:=bm.el (fun _=>rfl) (wAQ aY)
 obtain ⟨bP,bU,bp,br⟩:=q
 refine oR Z (zo Z Z bp Z zA zC (wBJ aY)) (oL Z (ah.ldC (f:=0) br (v:=jV bL) Z Z zN Z) (oM Z aW (oM Z Z (bnK bF fun bM aZ bG=>?_))))
 have bo:=bA.le av
 have q:=bo.el (fun _=>rfl) (wAQ aZ)
 obtain ⟨bQ,bV,bq,bs⟩:=q
 refine oR Z (zo Z Z bq Z zA zC (wBJ aZ)) (oL Z (ah.ldC (f:=0) bs (v:=jV bM) Z Z zN Z) (oR Z (ZE Z Z Z) (eN (ifc bG ?_ ?_))))
 intro ak bH
 refine zj (zt (fun h=>h ak.out)) (ZQ (zq (zK (rR fL2 Z (oR Z (ZJ (zm Z am Z) (congrArg (jV) bE.out)) (oM Z Z (zu ?_)))))))
 have q:=nD bH
 obtain rfl:=q
 exact zK ⟨Z,_,Z,⟨aS,Z,aV,aW,aX,av,ah⟩⟩
 intro ak bI
 refine cT Z ak (sR fL1 Z (oA Z Z (eN (zI (zh (zJ ?_))))))
 have q:=wAp bI
 obtain ⟨bK,bJ,bh⟩:=q
 have q:=wCd aj ap (bB bK bh)
 obtain rfl:=q
 refine zJ (zh (zJ ?_))
 have hE:=nD bJ;first | subst r | cases hE
 exact ⟨Z,_,(zk Z),aS,_,ah,Z,Z⟩
 rintro ⟨⟩ bY bO ⟨be,bj,bR,bS,bi,bT,bw⟩ bC
 have a0:=wDA aj ap bC
 try dsimp only at a0
 have bg:Hid (¬ ((↑(((↑p0.length:Int):Int) - 0).toNat:Int) < (↑p0.length:Int))):=zM (wBb)
 refine sR fL1 Z (oR Z (ze Z bj bi) (eN (zH (cF Z bg (ZO (zn (zn (ZK (zK (sR fL1 Z (oA Z Z (eN (zI ?_)))))))))))))
 have hE:=nD a0;first | subst r | cases hE
 exact ⟨Z,_,(zk Z),be,_,bw,Z,Z⟩
 have ba:=hm;rw [if_neg c1] at ba;replace c1:=zM c1
 refine cT Z c1 (sR fL1 Z (oA Z Z (eN (zI (zJ ?_)))))
 have hE:=nD ba;first | subst r | cases hE
 exact ⟨Z,_,(zk Z),U,_,hS,Z,Z⟩
theorem wCb (p0:wAA) (aq:Option Addr) (av:Nat) (p1:wAA) (au:Option Addr) (az:Nat) (w:World) (U:PHeap) (hS:St0 w U []) (a0:Sl U 1 aq av p0.Classes.length (hH KL.encI p0.Classes)) (ba:Sl U 1 au az p1.Classes.length (hH KL.encI p1.Classes)) {r:Bool} (hm:wAn p0 p1=some r):Gv Tryz.prog 52 [.agg #[.slice aq p0.Classes.length av,jV p0.Each,jV p0.Laps,jV p0.Spare,jV p0.Loop,jV p0.Unused],.agg #[.slice au p1.Classes.length az,jV p1.Each,jV p1.Laps,jV p1.Spare,jV p1.Loop,jV p1.Unused]] w (wCQ w [] U (fun U_ L_ v=>v=.bool r/\L_=[])):=by
 unfold wAn at hm
 refine Gv.of Tryz.func52 Z Tryz.ntmps52 Tryz.results52 Z (sR gBf Z ?_)
 let B0:List Value:=[.slice aq p0.Classes.length av,jV p0.Each,jV p0.Laps,jV p0.Spare,jV p0.Loop,jV p0.Unused]
 refine zy (cs:=B0) rfl rfl rfl rfl rfl rfl (by rfl) hS ?_
 intro W1 b2 aZ
 let B1:List Value:=[.slice au p1.Classes.length az,jV p1.Each,jV p1.Laps,jV p1.Spare,jV p1.Loop,jV p1.Unused]
 refine zy (cs:=B1) rfl rfl rfl rfl rfl rfl (by rfl) aZ ?_
 intro W5 b6 aP
 refine oA Z Z (eN (sR (wHf (.fx 4 (wSc (.nil)) .stop)) Z (oR Z (zS Z Z zW Z zP) (oL Z (aP.ldB (j:=1) Z Z Z zR (v:=.slice aq p0.Classes.length av) Z) (oR Z (zS Z Z zW Z zP) (oL Z (aP.ldB (j:=0) Z Z Z zR (v:=.slice au p1.Classes.length az) Z) (bnK hm fun x9 aX bb=>zD 0 Z Z Z Z (zE Z Z Zn (zB Z (zB Z zL)) Z) aP (fun hs=>wAP p0.Classes aq av p1.Classes au az W5 U hs a0 ba aX) (.inr Z) ?_)))))))
 rintro ap br bw aT bt aY ⟨rfl,rfl⟩
 have ae:sW w U ap [.blk b6 24 B1,.blk b2 24 B0] aT:=aY
 refine oM Z Z (ifc bb ?_ ?_)
 intro ah be
 refine zi Z Z Z (zG Z Z (congrArg nA ah.out)) (fun _=>zS Z Z zW Z zC) (zz Z Z Z (zG Z Z (congrArg nA ah.out)) (ae.ldB (j:=1) Z Z Z zN (v:=jV p0.Each) Z) Z (zi Z Z Z (zG Z Z (congrArg nA ah.out)) (fun _=>zS Z Z zW Z zC) (zz Z Z Z (zG Z Z (congrArg nA ah.out)) (ae.ldB (j:=0) Z Z Z zN (v:=jV p1.Each) Z) Z (zi Z Z Z (zG Z Z (congrArg nA ah.out)) (fun _=>Zo Z Z Z) (oR Z (zQ Z (congrArg nA ah.out) Z) (oM Z Z (ifc be ?_ ?_)))))))
 intro ai bg
 refine rU Z (wT Z ai) (zS Z Z zW Z zC) (zz Z Z Z (wT Z ai) (ae.ldB (j:=1) Z Z Z zN (v:=jV p0.Laps) Z) Z (rU Z (wT Z ai) (zS Z Z zW Z zC) (zz Z Z Z (wT Z ai) (ae.ldB (j:=0) Z Z Z zN (v:=jV p1.Laps) Z) Z (rU Z (wT Z ai) (Zo Z Z Z) (oR Z (zQ Z (Zi ai.out) Z) (oM Z Z (ifc bg ?_ ?_)))))))
 intro aj bh
 refine rU Z (wT Z aj) (zS Z Z zW Z zC) (zz Z Z Z (wT Z aj) (ae.ldB (j:=1) Z Z Z zN (v:=jV p0.Spare) Z) Z (rU Z (wT Z aj) (zS Z Z zW Z zC) (zz Z Z Z (wT Z aj) (ae.ldB (j:=0) Z Z Z zN (v:=jV p1.Spare) Z) Z (rU Z (wT Z aj) (Zo Z Z Z) (oR Z (zQ Z (Zi aj.out) Z) (oM Z Z (ifc bh ?_ ?_)))))))
 intro ak bi
 refine rU Z (wT Z ak) (zS Z Z zW Z zC) (zz Z Z Z (wT Z ak) (ae.ldB (j:=1) Z Z Z zN (v:=jV p0.Loop) Z) Z (rU Z (wT Z ak) (zS Z Z zW Z zC) (zz Z Z Z (wT Z ak) (ae.ldB (j:=0) Z Z Z zN (v:=jV p1.Loop) Z) Z (rU Z (wT Z ak) (Zo Z Z Z) (oR Z (zQ Z (Zi ak.out) Z) (oM Z Z (ifc bi ?_ ?_)))))))
 intro am aS
 refine rU Z (wT Z am) (zS Z Z zW Z zC) (zz Z Z Z (wT Z am) (ae.ldB (j:=1) Z Z Z zN (v:=jV p0.Unused) Z) Z (rU Z (wT Z am) (zS Z Z zW Z zC) (zz Z Z Z (wT Z am) (ae.ldB (j:=0) Z Z Z zN (v:=jV p1.Unused) Z) Z (rU Z (wT Z am) (Zo Z Z Z) (oR Z (zQ Z (Zi am.out) Z) (oA Z Z (eN (zI ?_))))))))
 first | (obtain rfl:=nD aS) | cases aS
 exact ⟨rfl,_,(zk rfl),ap,_,(ae.pick [] _ (by decide) rfl),rfl,rfl⟩
 intro am bj
 refine oF Z am (oF Z am (oF Z am (oF Z am (oF Z am (oR Z (zO Z (zt am.out) Z) (oA Z Z (eN (zI ?_))))))))
 have hE:=nD bj;first | subst r | cases hE
 exact ⟨rfl,_,(zk rfl),ap,_,(ae.pick [] _ (by decide) rfl),rfl,rfl⟩
 intro ak bm
 refine oF Z ak (oF Z ak (oF Z ak (oF Z ak (oF Z ak (oR Z (zO Z (zt ak.out) Z) (oM Z Z (oN Z (oN Z (oN Z (oN Z (oN Z (oR Z (zO Z Z Z) (oA Z Z (eN (zI ?_)))))))))))))))
 have hE:=nD bm;first | subst r | cases hE
 exact ⟨rfl,_,(zk rfl),ap,_,(ae.pick [] _ (by decide) rfl),rfl,rfl⟩
 intro aj bo
 refine oF Z aj (oF Z aj (oF Z aj (oF Z aj (oF Z aj (oR Z (zO Z (zt aj.out) Z) (oM Z Z (oN Z (oN Z (oN Z (oN Z (oN Z (oR Z (zO Z Z Z) (oM Z Z (oN Z (oN Z (oN Z (oN Z (oN Z (oR Z (zO Z Z Z) (oA Z Z (eN (zI ?_))))))))))))))))))))))
 have hE:=nD bo;first | subst r | cases hE
 exact ⟨rfl,_,(zk rfl),ap,_,(ae.pick [] _ (by decide) rfl),rfl,rfl⟩
 intro ai bp
 refine oF Z ai (oF Z ai (oF Z ai (oF Z ai (oF Z ai (oR Z (zO Z (zt ai.out) Z) (oM Z Z (oN Z (oN Z (oN Z (oN Z (oN Z (oR Z (zO Z Z Z) (oM Z Z (oN Z (oN Z (oN Z (oN Z (oN Z (oR Z (zO Z Z Z) (oM Z Z (oN Z (oN Z (oN Z (oN Z (oN Z (oR Z (zO Z Z Z) (oA Z Z (eN (zI ?_)))))))))))))))))))))))))))))
 have hE:=nD bp;first | subst r | cases hE
 exact ⟨rfl,_,(zk rfl),ap,_,(ae.pick [] _ (by decide) rfl),rfl,rfl⟩
 intro ah bq
 refine zV Z Z Z (zF Z Z (congrArg nA (nB.2 ah.out)) Z) (zV Z Z Z (zF Z Z (congrArg nA (nB.2 ah.out)) Z) (zV Z Z Z (zF Z Z (congrArg nA (nB.2 ah.out)) Z) (zV Z Z Z (zF Z Z (congrArg nA (nB.2 ah.out)) Z) (zV Z Z Z (zF Z Z (congrArg nA (nB.2 ah.out)) Z) (oR Z (zO Z (congrArg nA (nB.2 ah.out)) Z) (oM Z Z (oN Z (oN Z (oN Z (oN Z (oN Z (oR Z (zO Z Z Z) (oM Z Z (oN Z (oN Z (oN Z (oN Z (oN Z (oR Z (zO Z Z Z) (oM Z Z (oN Z (oN Z (oN Z (oN Z (oN Z (oR Z (zO Z Z Z) (oM Z Z (oN Z (oN Z (oN Z (oN Z (oN Z (oR Z (zO Z Z Z) (oA Z Z (eN (zI ?_))))))))))))))))))))))))))))))))))))
 have hE:=nD bq;first | subst r | cases hE
 exact ⟨rfl,_,(zk rfl),ap,_,(ae.pick [] _ (by decide) rfl),rfl,rfl⟩
theorem wDf (p0:List (List Int)) (aS:Option Addr) (aW:Nat) (p1:List (List Int)) (aT:Option Addr) (aX:Nat) (w:World) (U:PHeap) (hS:St0 w U []) (bP:SlR U wDX aS aW p0) (bQ:SlR U wDX aT aX p1) {r:Bool} (hm:wBE p0 p1=some r):Gv Tryz.prog 20 [.slice aS p0.length aW,.slice aT p1.length aX] w (wCQ w [] U (fun U_ L_ v=>v=.bool r/\L_=[])):=by
 unfold wBE at hm
 refine Gv.of Tryz.func20 Z Tryz.ntmps20 Tryz.results20 Z (sR fL1 Z (oA Z Z (eN (zH (sR fL5 Z (oM Z Z (oR Z (zU Z Z zd) (oM Z Z (oR Z (zU Z Z zd) (oR Z (ZE Z Z Z) (eN ?_)))))))))))
 by_cases c1:(↑p0.length:Int)=(↑p1.length:Int)
 have aj:=hm;rw [if_pos c1] at aj;replace c1:=zM c1
 refine zj (zt (fun h=>h c1.out)) (kN (zH (sR fL3 Z (oM Z Z (oR Z (zU Z Z zd) (oM Z Z (eN (zZ ?_))))))))
 have q:=wCP aj
 obtain ⟨r5,az⟩:=q
 have q:=wCO az
 obtain ⟨aQ,bT⟩:=q
 replace aQ:=zM aQ
 refine Zk (fun k4 _ σ_ w_=>∃ (U_:PHeap),σ_ 13=jV (↑k4:Int)/\σ_ 0=.slice aS p0.length aW/\σ_ 1=.slice aT p1.length aX/\σ_ 12=jV (↑p0.length:Int)/\PHeap.Le U U_/\sW w U U_ [] w_) bT ?_ ?_ ?_
 exact ⟨U,Z,Z,Z,Z,(zX _),hS⟩
 rintro k4 ⟨⟩ cy cA bb aP ⟨ak,aq,bg,bh,bi,aR,bM⟩ br bR
 try dsimp only at br
 have be:Hid ((↑k4:Int) < (↑p0.length:Int)):=zM (wCE aP)
 replace aP:=zM aP
 have bU:Hid (w64 ((↑k4:Int) + 1)=(↑(k4 + 1):Int)):=zM (by have h1:=aQ.out;have h2:=be.out;rw [wAa] <;> omega)
 refine sR fL1 rfl (zi rfl rfl rfl rfl (fun _=>ze rfl aq bi) (eN (zH (cT Z be (kN (zH (zZ (sR fL2 rfl (zf rfl rfl rfl rfl rfl aq (OKS.ra rfl rfl rfl rfl rfl rfl (eN (zH (ZM ZI [3,3,3,1,3,3,3,1,2,3] (wOL (.fx 8 (.fl 9 .nil) .stop)) (by kernel_rfl) ?_)))))))))))))
 have ai:=bM.drew
 generalize hw_W25:({ bb with drawn:=bb.drawn + 1 }:World)=bt at ai ⊢
 refine oM Z bg (oM Z Z (bnK br fun a0 bj bV=>?_))
 have bF:=bP.le aR
 have q:=bF.el (wAQ bj)
 obtain ⟨bz,cd,cu,bK,au,b8⟩:=q
 obtain ⟨aU,aY,rfl,bG⟩:=b8
 replace au:Cl ak bz (cd + k4 * 1) [.slice aU a0.length aY]:=au
 refine oR Z (zo Z Z bK Z zd zP (wBJ bj)) (oL Z (ai.ldC (f:=0) au (v:=.slice aU a0.length aY) Z Z zR Z) (oM Z bh (oM Z Z (bnK bV fun ba bm bW=>?_))))
 have bH:=bQ.le aR
 have q:=bH.el (wAQ bm)
 obtain ⟨bA,cf,cw,bL,av,b9⟩:=q
 obtain ⟨aV,aZ,rfl,bI⟩:=b9
 replace av:Cl ak bA (cf + k4 * 1) [.slice aV ba.length aZ]:=av
 refine oR Z (zo Z Z bL Z zd zP (wBJ bm)) (oL Z (ai.ldC (f:=0) av (v:=.slice aV ba.length aZ) Z Z zR Z) (bnK bW fun cx bJ bX=>zD 0 Z Z Z Z (zE Z Z Zn (zB Z (zB Z zL)) Z) ai (fun hs=>wAP a0 aU aY ba aV aZ bt ak hs bG bI bJ) (.inr Z) ?_))
 rintro am cj ct bw cb bN ⟨rfl,rfl⟩
 have bo:sW w U am [] bw:=bN
 refine oR Z (ZR Z Z) (eN (ifc bX ?_ ?_))
 intro ap bY
 refine zj (nC ap.out) (ZQ (zq (zK (rR fL2 Z (oR Z (ZJ (zm Z aq Z) (congrArg (jV) bU.out)) (oM Z Z (zu ?_)))))))
 have q:=nD bY
 obtain rfl:=q
 exact zK ⟨Z,_,Z,⟨am,Z,bg,bh,bi,(aR.trans cb),bo⟩⟩
 intro ap bZ
 refine zp (nF (ap.out)) (sR fL1 Z (oA Z Z (eN (zI (zh (zJ ?_))))))
 have q:=wAp bZ
 obtain ⟨cg,b5,bC⟩:=q
 have q:=wCd aj az (bR cg bC)
 obtain rfl:=q
 refine zJ (zh (zJ ?_))
 have hE:=nD b5;first | subst r | cases hE
 exact ⟨Z,_,(zk Z),am,_,bo,Z,Z⟩
 rintro ⟨⟩ cz cm ⟨bs,bE,cn,cp,bD,cq,bO⟩ bS
 have bp:=wDA aj az bS
 try dsimp only at bp
 have bB:Hid (¬ ((↑(((↑p0.length:Int):Int) - 0).toNat:Int) < (↑p0.length:Int))):=zM (wBb)
 refine sR fL1 Z (oR Z (ze Z bE bD) (eN (zH (cF Z bB (ZO (zn (zn (ZK (zK (sR fL1 Z (oA Z Z (eN (zI ?_)))))))))))))
 have hE:=nD bp;first | subst r | cases hE
 exact ⟨Z,_,(zk Z),bs,_,bO,Z,Z⟩
 have bq:=hm;rw [if_neg c1] at bq;replace c1:=zM c1
 refine cT Z c1 (sR fL1 Z (oA Z Z (eN (zI (zJ ?_)))))
 have hE:=nD bq;first | subst r | cases hE
 exact ⟨Z,_,(zk Z),U,_,hS,Z,Z⟩
theorem wCc (p0:wAB) (ah:Option Addr) (am:Nat) (ai:Option Addr) (ap:Nat) (p1:wAB) (aj:Option Addr) (aq:Nat) (ak:Option Addr) (au:Nat) (w:World) (U:PHeap) (hS:St0 w U []) (bj:Sl U 1 ah am p0.Classes.length (hH KL.encI p0.Classes)) (bm:SlR U wDX ai ap p0.Times) (bo:Sl U 1 aj aq p1.Classes.length (hH KL.encI p1.Classes)) (bp:SlR U wDX ak au p1.Times) {r:Bool} (hm:wAo p0 p1=some r):Gv Tryz.prog 53 [.agg #[.slice ah p0.Classes.length am,.slice ai p0.Times.length ap],.agg #[.slice aj p1.Classes.length aq,.slice ak p1.Times.length au]] w (wCQ w [] U (fun U_ L_ v=>v=.bool r/\L_=[])):=by
 unfold wAo at hm
 refine Gv.of Tryz.func53 Z Tryz.ntmps53 Tryz.results53 Z (sR gBf Z ?_)
 let B0:List Value:=[.slice ah p0.Classes.length am,.slice ai p0.Times.length ap]
 refine zy (cs:=B0) rfl rfl rfl rfl rfl rfl (by rfl) hS ?_
 intro W1 b2 bg
 let B1:List Value:=[.slice aj p1.Classes.length aq,.slice ak p1.Times.length au]
 refine zy (cs:=B1) rfl rfl rfl rfl rfl rfl (by rfl) bg ?_
 intro W5 b6 aR
 refine oA Z Z (eN (sR (wHf (.fx 4 (wON (.fx 10 (.fl 11 (.fl 12 .nil)) .stop)) .stop)) Z (oR Z (zS Z Z zg Z zP) (oL Z (aR.ldB (j:=1) Z Z Z zR (v:=.slice ah p0.Classes.length am) Z) (oR Z (zS Z Z zg Z zP) (oL Z (aR.ldB (j:=0) Z Z Z zR (v:=.slice aj p1.Classes.length aq) Z) (bnK hm fun x9 aZ bq=>zD 0 Z Z Z Z (zE Z Z Zn (zB Z (zB Z zL)) Z) aR (fun hs=>wAP p0.Classes ah am p1.Classes aj aq W5 U hs bj bo aZ) (.inr Z) ?_)))))))
 rintro aQ bw bC aT aW be ⟨rfl,rfl⟩
 have av:sW w U aQ [.blk b6 93 B1,.blk b2 93 B0] aT:=be
 refine oM Z Z (ifc bq ?_ ?_)
 intro aa br
 refine zi Z Z Z (zG Z Z (congrArg nA aa.out)) (fun _=>zS Z Z zg Z ZH) (zz Z Z Z (zG Z Z (congrArg nA aa.out)) (av.ldB (j:=1) Z Z Z ZL (v:=.slice ai p0.Times.length ap) Z) Z (zi Z Z Z (zG Z Z (congrArg nA aa.out)) (fun _=>zS Z Z zg Z ZH) (zz Z Z Z (zG Z Z (congrArg nA aa.out)) (av.ldB (j:=0) Z Z Z ZL (v:=.slice ak p1.Times.length au) Z) Z ?_)))
 have a0:=bm.le aW
 have ba:=bp.le aW
 refine bnK br fun bE bb bs=>zD 0 Z Z Z (zG Z Z (congrArg nA aa.out)) (zE Z Z Tryz.call20 (zB Z (zB Z zL)) Z) av (fun hs=>wDf p0.Times ai ap p1.Times ak au aT aQ hs a0 ba bb) (.inr Z) ?_
 rintro aS bz bD aX bB bh ⟨rfl,rfl⟩
 have bi:sW w U aS [.blk b6 93 B1,.blk b2 93 B0] aX:=bh
 refine oR Z (zQ Z (congrArg nA aa.out) Z) (oA Z Z (eN (zI ?_)))
 have hE:=nD bs;first | subst r | cases hE
 exact ⟨rfl,_,(zk rfl),aS,_,(bi.pick [] _ (by decide) rfl),rfl,rfl⟩
 intro aa bt
 refine zV Z Z Z (zF Z Z (congrArg nA (nB.2 aa.out)) Z) (zV Z Z Z (zF Z Z (congrArg nA (nB.2 aa.out)) Z) (zV Z Z Z (zF Z Z (congrArg nA (nB.2 aa.out)) Z) (zV Z Z Z (zF Z Z (congrArg nA (nB.2 aa.out)) Z) (ZA Z Z Z (zF Z Z (congrArg nA (nB.2 aa.out)) Z) (oR Z (zO Z (congrArg nA (nB.2 aa.out)) Z) (oA Z Z (eN (zI ?_))))))))
 have hE:=nD bt;first | subst r | cases hE
 exact ⟨rfl,_,(zk rfl),aQ,_,(av.pick [] _ (by decide) rfl),rfl,rfl⟩
theorem wDS (p0:wAA) (cK:Option Addr) (cN:Nat) (p1:wAB) (cL:Option Addr) (cO:Nat) (cM:Option Addr) (cP:Nat) (p2:List Int) (be:Option Addr) (bi:Nat) (p3:List Int) (bg:Option Addr) (bj:Nat) (p4:List Int) (bh:Option Addr) (bm:Nat) (p5:Int) (w:World) (U:PHeap) (hS:St0 w U []) (dP:Sl U 1 cK cN p0.Classes.length (hH KL.encI p0.Classes)) (dQ:Sl U 1 cL cO p1.Classes.length (hH KL.encI p1.Classes)) (dR:SlR U wDX cM cP p1.Times) (qj:Sl U 1 be bi p2.length (hH KL.encI p2)) (qk:Sl U 1 bg bj p3.length (hH KL.encI p3)) (ql:Sl U 1 bh bm p4.length (hH KL.encI p4)) {r:Bool} (hm:wBY p0 p1 p2 p3 p4 p5=some r):Gv Tryz.prog 6 [.agg #[.slice cK p0.Classes.length cN,jV p0.Each,jV p0.Laps,jV p0.Spare,jV p0.Loop,jV p0.Unused],.agg #[.slice cL p1.Classes.length cO,.slice cM p1.Times.length cP],.slice be p2.length bi,.slice bg p3.length bj,.slice bh p4.length bm,jV p5] w (wCQ w [] U (fun U_ L_ v=>v=.bool r/\L_=[])):=by
 unfold wBY at hm
 refine Gv.of Tryz.func6 Z Tryz.ntmps6 Tryz.results6 Z (sR gBf Z ?_)
 let B0:List Value:=[.slice cK p0.Classes.length cN,jV p0.Each,jV p0.Laps,jV p0.Spare,jV p0.Loop,jV p0.Unused]
 refine zy (cs:=B0) rfl rfl rfl rfl rfl rfl (by rfl) hS ?_
 intro W1 b2 IV
 let B1:List Value:=[.slice cL p1.Classes.length cO,.slice cM p1.Times.length cP]
 refine zy (cs:=B1) rfl rfl rfl rfl rfl rfl (by rfl) IV ?_
 intro W5 b6 jB
 refine oA Z Z (eN (zH (sR (.fl 0 (.fl 1 (.fx 2 (wSZ (.nil)) .stop))) Z (oL Z (jB.ldBA (j:=1) Z Z Z ZC zr (vs:=B0) Z Z) (oL Z (jB.ldBA (j:=0) Z Z Z ZF zw (vs:=B1) Z Z) (bnK hm fun x9 wn JD=>zD 0 Z Z Z Z (zE Z Z Tryz.call35 (zB Z (zB Z zL)) Z) jB (fun hs=>wEs p0 cK cN p1 cL cO cM cP W5 U hs dP dQ dR wn) (.inr Z) ?_))))))
 rintro dY Mj Pi dZ aS H3 ⟨rfl,rfl⟩
 have fZ:sW w U dY [.blk b6 93 B1,.blk b2 24 B0] dZ:=H3
 refine oM Z Z (ifc JD ?_ ?_)
 intro dh JN
 refine zV Z Z Z (zF Z Z (congrArg nA dh.out) Z) (zV Z Z Z (zF Z Z (congrArg nA dh.out) Z) (zV Z Z Z (zF Z Z (congrArg nA dh.out) Z) (oR Z (zQ Z (congrArg nA dh.out) Z) (oM Z Z (oN Z (oN Z (oN Z (oR Z (zQ Z Z Z) (oM Z Z (oN Z (oN Z (oN Z (oR Z (zQ Z Z Z) (eN (zp Z (sR gBd Z (bnK JN fun x21 AI Ke=>zD 0 Z Z Z Z (zE Z Z Tryz.call13 zL Z) fZ (fun hs=>wBR dZ dY hs AI) (.inr Z) ?_)))))))))))))))))
 rintro lP MO PO sc Pa IT ⟨rfl,rfl⟩
 have IW:sW w U lP [.blk b6 93 B1,.blk b2 24 B0] sc:=IT
 refine oA Z Z (eN (zI (zJ ?_)))
 have hE:=nD Ke;first | subst r | cases hE
 exact ⟨rfl,_,(zk rfl),lP,_,(IW.pick [] _ (by decide) rfl),rfl,rfl⟩
 intro dh KV
 refine zf Z Z Z (zG Z Z (congrArg nA (nB.2 dh.out))) Z Z (zi Z Z Z (zG Z Z (congrArg nA (nB.2 dh.out))) (fun _=>zU Z Z zA) (zi Z Z Z (zG Z Z (congrArg nA (nB.2 dh.out))) (fun _=>Zh Z Z Z) (oR Z (zO Z (congrArg nA (nB.2 dh.out)) Z) (oM Z Z (ifc KV ?_ ?_)))))
 intro dz KW
 refine oT Z dz (oT Z dz (oT Z dz (oR Z (zQ Z (Zi dz.out) Z) (oM Z Z (oN Z (oN Z (oN Z (oR Z (zQ Z Z Z) (eN (zp Z (sR gBd Z (bnK KW fun Qn GV KY=>zD 0 Z Z Z Z (zE Z Z Tryz.call13 zL Z) fZ (fun hs=>wBR dZ dY hs GV) (.inr Z) ?_))))))))))))
 rintro lS MX PV sg Pb I7 ⟨rfl,rfl⟩
 have Ja:sW w U lS [.blk b6 93 B1,.blk b2 24 B0] sg:=I7
 refine oA Z Z (eN (zI (zJ ?_)))
 have hE:=nD KY;first | subst r | cases hE
 exact ⟨rfl,_,(zk rfl),lS,_,(Ja.pick [] _ (by decide) rfl),rfl,rfl⟩
 intro dz KZ
 refine zf Z Z Z (wF Z dz) Z Z (rU Z (wF Z dz) (zU Z Z zA) (rU Z (wF Z dz) (Zh Z Z Z) (oR Z (zO Z (zt dz.out) Z) (oM Z Z (ifc KZ ?_ ?_)))))
 intro dA K0
 refine oT Z dA (oT Z dA (oT Z dA (oR Z (zQ Z (Zi dA.out) Z) (eN (zp Z (sR gBd Z (bnK K0 fun Qo Hc K1=>zD 0 Z Z Z Z (zE Z Z Tryz.call13 zL Z) fZ (fun hs=>wBR dZ dY hs Hc) (.inr Z) ?_)))))))
 rintro lT M6 P5 sq Pf Ji ⟨rfl,rfl⟩
 have Jj:sW w U lT [.blk b6 93 B1,.blk b2 24 B0] sq:=Ji
 refine oA Z Z (eN (zI (zJ ?_)))
 have hE:=nD K1;first | subst r | cases hE
 exact ⟨rfl,_,(zk rfl),lT,_,(Jj.pick [] _ (by decide) rfl),rfl,rfl⟩
 intro dA K2
 refine zf Z Z Z (wF Z dA) Z Z (rU Z (wF Z dA) (zU Z Z zA) (rU Z (wF Z dA) (Zh Z Z Z) (oR Z (zO Z (zt dA.out) Z) (eN (ifc K2 ?_ ?_)))))
 intro ja K3
 refine cT Z ja (sR gBd Z (bnK K3 fun Qp Hm K5=>zD 0 Z Z Z Z (zE Z Z Tryz.call13 zL Z) fZ (fun hs=>wBR dZ dY hs Hm) (.inr Z) ?_))
 rintro lV M7 P7 sA Pg Jt ⟨rfl,rfl⟩
 have Ju:sW w U lV [.blk b6 93 B1,.blk b2 24 B0] sA:=Jt
 refine oA Z Z (eN (zI (zJ ?_)))
 have hE:=nD K5;first | subst r | cases hE
 exact ⟨rfl,_,(zk rfl),lV,_,(Ju.pick [] _ (by decide) rfl),rfl,rfl⟩
 intro ja K6
 refine cF Z ja (kN ?_)
 have q:=bnd K6
 obtain ⟨⟨cf,cY,cZ,de,x79,x80,bX,cy,bo,bp,bq⟩,Lj,qm⟩:=q
 try dsimp only at qm
 refine CK.cut (fun σ_ w_=>∃ (U_:PHeap) (aj:Nat) (cm:Option Addr) (cq:Nat) (bI:Nat) (b9:Option Addr) (cd:Nat) (cn:Option Addr) (cr:Nat) (bs:Option Addr) (bz:Nat) (bt:Option Addr) (bA:Nat) (bw:Option Addr) (bB:Nat),σ_ 2=.slice be p2.length bi/\σ_ 3=.slice bg p3.length bj/\σ_ 4=.slice bh p4.length bm/\σ_ 5=jV p5/\σ_ 6=.pointer (some ⟨b2,0,none⟩)/\σ_ 7=.pointer (some ⟨b6,0,none⟩)/\σ_ 13=.pointer (some ⟨aj,0,none⟩)/\σ_ 14=.pointer (some ⟨bI,0,none⟩)/\σ_ 15=.slice bs bo.length bz/\σ_ 16=.slice bt bp.length bA/\σ_ 17=.slice bw bq.length bB/\PHeap.Le dY U_/\sW w U U_ [.blk b6 93 B1,.blk b2 24 B0,.blk aj 24 [.slice cm cf.length cq,jV cY,jV cZ,jV de,jV x79,jV x80],.row cm cq 3 1 (hH KL.encI cf),.blk bI 93 [.slice b9 bX.length cd,.slice cn cy.length cr],.row b9 cd 3 1 (hH KL.encI bX),.row bs bz 3 1 (hH KL.encI bo),.row bt bA 3 1 (hH KL.encI bp),.row bw bB 3 1 (hH KL.encI bq)] w_/\SlR U_ wDX cn cr cy) ?_ ?_
 refine bnK Lj fun b8 wo JO=>bnK JO fun cQ wq JP=>bnK JP fun im wH JQ=>bnK JQ fun io xa JR=>bnK JR fun x175 xq JU=>ZM ZI [1,2,1,2,3,2,3,2,3,2,2,2,0,0,3,3,3] (.fl 0 (.fl 2 (.fl 4 (.fl 6 (.fl 8 (adT [(1,[0]),(3,[1,2]),(5,[3,4]),(7,[5,6]),(9,[7,8]),(10,[]),(11,[])] (.fx 12 (.fx 13 (wRC (.nil)) .stop) .stop) 8 [1,3,5,7,9,10,11] [0,2,4,6,8])))))) (by kernel_rfl) ?_
 have ib:=fZ.drew
 generalize hw_W208:({ dZ with drawn:=dZ.drawn + 1 }:World)=Nz at ib ⊢
 refine oL Z (ib.ldBA (j:=1) Z Z Z ZC zr (vs:=B0) Z Z) (oL Z (ib.ldBA (j:=0) Z Z Z ZF zw (vs:=B1) Z Z) (oM Z Z (oM Z Z (oM Z Z ?_))))
 let B2:List Value:=[.slice none 0 0,jV 0,jV 0,jV 0,jV 0,jV 0]
 let B3:List Value:=[.slice none 0 0,.slice none 0 0]
 refine OKS.adders (U0:=dY) (L0:=[.blk b6 93 B1,.blk b2 24 B0]) [(1,[0]),(3,[1,2]),(5,[3,4]),(7,[5,6]),(9,[7,8]),(10,[]),(11,[])] [⟨1,51,fun v R=>∃ (jW:Option Addr) (mJ:Nat),v=.agg #[.slice jW b8.Classes.length mJ,jV b8.Each,jV b8.Laps,jV b8.Spare,jV b8.Loop,jV b8.Unused]/\R=[.row jW mJ 3 1 (hH KL.encI b8.Classes)]⟩,⟨3,53,fun v R=>∃ (jX:Option Addr) (mK:Nat) (jY:Option Addr) (mL:Nat) (pZ:List Hd),v=.agg #[.slice jX cQ.Classes.length mK,.slice jY cQ.Times.length mL]/\R=[.row jX mK 3 1 (hH KL.encI cQ.Classes),.row jY mL 22 1 (hH wEi pZ),inn 3 1 KL.encI pZ cQ.Times]⟩,⟨5,55,fun v R=>∃ (jZ:Option Addr) (mM:Nat),v=.slice jZ im.length mM/\R=[.row jZ mM 3 1 (hH KL.encI im)]⟩,⟨7,57,fun v R=>∃ (j0:Option Addr) (mN:Nat),v=.slice j0 io.length mN/\R=[.row j0 mN 3 1 (hH KL.encI io)]⟩,⟨9,59,fun v R=>∃ (j3:Option Addr) (mO:Nat),v=.slice j3 x175.length mO/\R=[.row j3 mO 3 1 (hH KL.encI x175)]⟩,⟨10,13,fun v R=>∃ (mA:Nat),v=.pointer (some ⟨mA,0,none⟩)/\R=[.blk mA 24 B2]⟩,⟨11,14,fun v R=>∃ (mB:Nat),v=.pointer (some ⟨mB,0,none⟩)/\R=[.blk mB 93 B3]⟩] [(2,.slice be p2.length bi),(3,.slice bg p3.length bj),(4,.slice bh p4.length bm),(5,jV p5),(6,.pointer (some ⟨b2,0,none⟩)),(7,.pointer (some ⟨b6,0,none⟩)),(50,.agg B0.toArray),(52,.agg B1.toArray),(54,.slice be p2.length bi),(56,.slice bg p3.length bj),(58,.slice bh p4.length bm)] [0,2,4,6,8] (by rfl) (nG.2 ⟨?_,nG.2 ⟨?_,nG.2 ⟨?_,nG.2 ⟨?_,nG.2 ⟨?_,nG.2 ⟨?_,nG.2 ⟨?_,fun _ h=>nomatch h⟩⟩⟩⟩⟩⟩⟩) ?_ ⟨rfl,rfl,rfl,rfl,rfl,rfl,rfl,rfl,rfl,rfl,rfl,trivial⟩ ib
 intro LP Mb mr rB qZ Jv LE IU Lk
 obtain ⟨NK,NL,NM,NN,NO,NP,vR,NQ,NR,NT,NU,_⟩:=Jv
 show OKS _ _ _ _ _ _ (.fx 1 LP .stop) Mb mr
 have GP:=dP.le aS
 have GQ:=GP.le LE
 refine zD 0 Z Z Z Z (zE Z Z Tryz.call36 (zB vR zL) Z) IU (fun hs=>wBF p0 cK cN mr rB hs GQ wo) (.inr Z) ?_
 rintro rC MV PS sd LF IX ⟨j4,mP,rfl,rfl⟩
 have IY:sW w U rC (.row j4 mP 3 1 (hH KL.encI b8.Classes) :: (qZ ++ [.blk b6 93 B1,.blk b2 24 B0])) sd:=IX
 exact Lk _ _ _ _ LF IY ⟨j4,mP,Z,Z⟩
 intro LQ Mc ms rD rc Jw qN IZ Ll
 obtain ⟨NV,NW,NX,NY,NZ,N0,N1,vS,N2,N3,N4,_⟩:=Jw
 show OKS _ _ _ _ _ _ (.fx 3 LQ .stop) Mc ms
 have GR:=dQ.le aS
 have GS:=GR.le qN
 have GT:=dR.le aS
 have GU:=GT.le qN
 refine zD 0 Z Z Z Z (zE Z Z Tryz.call37 (zB vS zL) Z) IZ (fun hs=>wCT p1 cL cO cM cP ms rD hs GS GU wq) (.inr Z) ?_
 rintro rE MW PT se LG I0 ⟨j5,mQ,j6,mR,jr,rfl,rfl⟩
 have I1:sW w U rE (.row j5 mQ 3 1 (hH KL.encI cQ.Classes) :: .row j6 mR 22 1 (hH wEi jr) :: inn 3 1 KL.encI jr cQ.Times :: (rc ++ [.blk b6 93 B1,.blk b2 24 B0])) se:=I0
 exact Ll _ _ _ _ LG I1 ⟨j5,mQ,j6,mR,jr,Z,Z⟩
 intro LR Md mu rF re Jx LH I2 Lm
 obtain ⟨N5,N6,N7,N8,N9,Oa,Ob,Oc,vU,Od,Oe,_⟩:=Jx
 show OKS _ _ _ _ _ _ (.fx 5 LR .stop) Md mu
 have GW:=qj.le aS
 have GX:=GW.le LH
 refine zD 0 Z Z Z Z (zE Z Z Tryz.call38 (zB vU zL) Z) I2 (fun hs=>wBA p2 be bi mu rF hs GX wH) (.inr Z) ?_
 rintro rG MY PU sf LI I3 ⟨j7,mS,rfl,rfl⟩
 have I4:sW w U rG (.row j7 mS 3 1 (hH KL.encI im) :: (re ++ [.blk b6 93 B1,.blk b2 24 B0])) sf:=I3
 exact Lm _ _ _ _ LI I4 ⟨j7,mS,Z,Z⟩
 intro LT Me mw rH ri Jy LJ I5 Ln
 obtain ⟨Of,Og,Oh,Oi,Oj,Ok,Ol,Om,On,vV,Oo,_⟩:=Jy
 show OKS _ _ _ _ _ _ (.fx 7 LT .stop) Me mw
 have GY:=qk.le aS
 have GZ:=GY.le LJ
 refine zD 0 Z Z Z Z (zE Z Z Tryz.call38 (zB vV zL) Z) I5 (fun hs=>wBA p3 bg bj mw rH hs GZ xa) (.inr Z) ?_
 rintro rI MZ PW sh LK I6 ⟨j8,mT,rfl,rfl⟩
 have I8:sW w U rI (.row j8 mT 3 1 (hH KL.encI io) :: (ri ++ [.blk b6 93 B1,.blk b2 24 B0])) sh:=I6
 exact Ln _ _ _ _ LK I8 ⟨j8,mT,Z,Z⟩
 intro LU Mf my rJ rj Jz LL I9 Lo
 obtain ⟨Oq,Ot,Ou,Ov,Ow,Ox,Oy,Oz,OA,OB,vW,_⟩:=Jz
 show OKS _ _ _ _ _ _ (.fx 9 LU .stop) Mf my
 have Ha:=ql.le aS
 have Hb:=Ha.le LL
 refine zD 0 Z Z Z Z (zE Z Z Tryz.call38 (zB vW zL) Z) I9 (fun hs=>wBA p4 bh bm my rJ hs Hb xq) (.inr Z) ?_
 rintro rK M0 PX sj LM Jb ⟨j9,mU,rfl,rfl⟩
 have Jc:sW w U rK (.row j9 mU 3 1 (hH KL.encI x175) :: (rj ++ [.blk b6 93 B1,.blk b2 24 B0])) sj:=Jb
 exact Lo _ _ _ _ LM Jc ⟨j9,mU,Z,Z⟩
 intro LV Mg sm Nh M4 JA Pc Jd Lp
 obtain ⟨OC,OD,OE,OF,OG,OH,OI,OJ,OL,OM,ON,_⟩:=JA
 show OKS _ _ _ _ _ _ (.fx 10 LV .stop) Mg sm
 refine ZG (cs:=B2) Z Z Z Z Z Tryz.zeroValue24 Z Jd ?_
 intro NA sN Je
 exact Lp _ _ _ _ (zX _) Je ⟨sN,Z,Z⟩
 intro LW Mh sn Ni M5 JB Pe Jf Lq
 obtain ⟨OO,OP,OQ,OR,OT,OU,OV,OW,OX,OY,OZ,_⟩:=JB
 show OKS _ _ _ _ _ _ (.fx 11 LW .stop) Mh sn
 refine ZG (cs:=B3) Z Z Z Z Z Tryz.zeroValue93 Z Jf ?_
 intro NB sO Jg
 exact Lq _ _ _ _ (zX _) Jg ⟨sO,Z,Z⟩
 refine fun PZ M8 He P0 M9 Hf P1 Na Hh P2 Nb Hi P3 Nc Hj P4 Nd Hk P6 Nf Hl=>?_
 obtain ⟨iu,i7,rfl,rfl⟩:=He
 obtain ⟨iv,i8,iw,i9,jt,rfl,rfl⟩:=Hf
 obtain ⟨k9,mV,rfl,rfl⟩:=Hh
 obtain ⟨lc,mW,rfl,rfl⟩:=Hi
 obtain ⟨lf,mX,rfl,rfl⟩:=Hj
 obtain ⟨eH,rfl,rfl⟩:=Hk
 obtain ⟨eI,rfl,rfl⟩:=Hl
 intro QC iQ lU JC Lh LN Jh
 obtain ⟨vX,vY,vZ,v8,v9,we,O0,O1,O2,O3,O4,_⟩:=JC
 obtain ⟨wg,wh,wj,wk,wl,pk,pn,_⟩:=Lh
 let B4:Res:=.row iu i7 3 1 (hH KL.encI b8.Classes)
 let B5:Res:=.row iv i8 3 1 (hH KL.encI cQ.Classes)
 let B6:Res:=.row k9 mV 3 1 (hH KL.encI im)
 let B7:Res:=.row lc mW 3 1 (hH KL.encI io)
 let B8:Res:=.row lf mX 3 1 (hH KL.encI x175)
 let B9:Res:=.row iw i9 22 1 (hH wEi jt)
 have Jk:sW w U lU [B4,B5,B9,inn 3 1 KL.encI jt cQ.Times,B6,B7,B8,.blk eH 24 B2,.blk eI 93 B3,.blk b6 93 B1,.blk b2 24 B0] iQ:=Jh
 have Jl:sW w U lU [B9,inn 3 1 KL.encI jt cQ.Times,B4,B5,B6,B7,B8,.blk eH 24 B2,.blk eI 93 B3,.blk b6 93 B1,.blk b2 24 B0] iQ:=Jk.pick [2,3,0,1,4,5,6,7,8,9,10] _ (by decide) rfl
 have q:=St.freezeN (R:=wDX) Jl (fun _ _ _ _ h=>⟨_,_,rfl,h⟩) (fun _=>rfl) (by decide) rfl
 obtain ⟨gE,LO,Lg,Jm⟩:=q
 have Jn:sW w U gE [B4,B5,B6,B7,B8,.blk eH 24 B2,.blk eI 93 B3,.blk b6 93 B1,.blk b2 24 B0] iQ:=Jm
 let iy:List Value:=[.slice iu b8.Classes.length i7,jV b8.Each,jV b8.Laps,jV b8.Spare,jV b8.Loop,jV b8.Unused]
 refine ZW (j:=5) (vs:=iy) Z Z Z Z Jn Z pk wg Z zr (zY Z) Z Z Z ?_
 intro ss Jo
 have Jp:sW w U gE [B4,B5,B6,B7,B8,.blk eH 24 iy,.blk eI 93 B3,.blk b6 93 B1,.blk b2 24 B0] ss:=Jo
 let lg:List Value:=[.slice iv cQ.Classes.length i8,.slice iw cQ.Times.length i9]
 refine ZW (j:=6) (vs:=lg) Z Z Z Z Jp Z pn wh Z zw (zY Z) Z Z Z ?_
 intro sw Jq
 have Jr:sW w U gE [B4,B5,B6,B7,B8,.blk eH 24 iy,.blk eI 93 lg,.blk b6 93 B1,.blk b2 24 B0] sw:=Jq
 refine oA Z wj (oA Z wk (oA Z wl (zu ?_)))
 cases JU
 exact zK ⟨rfl,⟨gE,eH,iu,i7,eI,iv,i8,iw,i9,k9,mV,lc,mW,lf,mX,vX,vY,vZ,v8,v9,we,pk,pn,rfl,rfl,rfl,(LN.trans LO),(Jr.pick [7,8,5,0,6,1,2,3,4] _ (by decide) rfl),Lg⟩⟩
 rintro QD mz ⟨bU,aj,cm,cq,bI,b9,cd,cn,cr,bs,bz,bt,bA,bw,bB,dG,dH,dI,dJ,dC,dD,dK,dL,dM,dN,dO,bF,Js,Hn⟩
 have q:=bnd qm
 obtain ⟨⟨cw,dS,dT,dU,dV,dW,cx,dE⟩,Li,qA⟩:=q
 try dsimp only at qA
 let ak:List Value:=[.slice cm cf.length cq,jV cY,jV cZ,jV de,jV x79,jV x80]
 let am:Res:=.blk bI 93 [.slice b9 bX.length cd,.slice cn cy.length cr]
 let aP:Res:=.row bw bB 3 1 (hH KL.encI bq)
 let aQ:Res:=.row bt bA 3 1 (hH KL.encI bp)
 let aU:Res:=.row bs bz 3 1 (hH KL.encI bo)
 let bE:Res:=.row b9 cd 3 1 (hH KL.encI bX)
 let bH:Res:=.row cm cq 3 1 (hH KL.encI cf)
 refine CK.cut (fun σ_ w_=>∃ (U_:PHeap) (ap:Nat) (cB:Option Addr) (cG:Nat) (aq:Nat) (cC:Option Addr) (cH:Nat) (cR:Option Addr) (cU:Nat),σ_ 2=.slice be p2.length bi/\σ_ 3=.slice bg p3.length bj/\σ_ 4=.slice bh p4.length bm/\σ_ 5=jV p5/\σ_ 6=.pointer (some ⟨b2,0,none⟩)/\σ_ 7=.pointer (some ⟨b6,0,none⟩)/\σ_ 13=.pointer (some ⟨aj,0,none⟩)/\σ_ 14=.pointer (some ⟨bI,0,none⟩)/\σ_ 15=.slice bs bo.length bz/\σ_ 16=.slice bt bp.length bA/\σ_ 17=.slice bw bq.length bB/\σ_ 18=.pointer (some ⟨ap,0,none⟩)/\σ_ 19=.pointer (some ⟨aq,0,none⟩)/\PHeap.Le bU U_/\sW w U U_ [.blk b6 93 B1,.blk b2 24 B0,bH,.blk aj 24 ak,bE,am,aU,aQ,aP,.blk ap 31 [.slice cB cw.length cG,jV dS,jV dT,jV dU,jV dV,jV dW],.row cB cG 3 1 (hH KL.encI cw),.blk aq 98 [.slice cC cx.length cH,.slice cR dE.length cU],.row cC cH 3 1 (hH KL.encI cx)] w_/\SlR U_ wDX cR cU dE) ?_ ?_
 refine bnK Li fun ai gZ K7=>bnK K7 fun az g7 K8=>ZM ZI [1,2,1,2,2,2,0,0] (.fl 0 (.fl 2 (.fx 1 (.fx 3 (.fx 4 gBg (.fx 5 gBh .stop)) (.fx 4 gBo (.fx 5 gBp .stop))) (.fx 4 (.fx 1 gBo (.fx 5 gBn .stop)) (.fx 5 (.fx 1 gBp (.fx 4 gBn .stop)) .stop))))) (by kernel_rfl) ?_
 have fc:=Js.drew
 generalize hw_W782:({ mz with drawn:=mz.drawn + 1 }:World)=sB at fc ⊢
 refine Ze (s:=.nil) (M:=fun σ_ w_=>∃ (U_:PHeap) (gI:Nat) (fh:Option Addr) (fP:Nat) (gJ:Nat) (fj:Option Addr) (fQ:Nat) (gg:Option Addr) (gM:Nat) (iq:Option Addr) (iU:Nat),σ_ 2=.slice be p2.length bi/\σ_ 3=.slice bg p3.length bj/\σ_ 4=.slice bh p4.length bm/\σ_ 5=jV p5/\σ_ 6=.pointer (some ⟨b2,0,none⟩)/\σ_ 7=.pointer (some ⟨b6,0,none⟩)/\σ_ 13=.pointer (some ⟨aj,0,none⟩)/\σ_ 14=.pointer (some ⟨bI,0,none⟩)/\σ_ 15=.slice bs bo.length bz/\σ_ 16=.slice bt bp.length bA/\σ_ 17=.slice bw bq.length bB/\σ_ 18=.pointer (some ⟨gI,0,none⟩)/\σ_ 19=.pointer (some ⟨gJ,0,none⟩)/\σ_ 60=.agg B0.toArray/\σ_ 61=.agg #[.slice fh ai.Classes.length fP,jV ai.Each,jV ai.Laps,jV ai.Spare,jV ai.Loop,jV ai.Unused]/\σ_ 62=.agg B1.toArray/\σ_ 63=.agg #[.slice fj az.Classes.length fQ,.slice iq az.Times.length iU]/\PHeap.Le bU U_/\sW w U U_ [.blk b6 93 B1,.blk b2 24 B0,bH,.blk aj 24 ak,bE,am,aU,aQ,aP,.blk gI 31 [.slice fh ai.Classes.length fP,jV ai.Each,jV ai.Laps,jV ai.Spare,jV ai.Loop,jV ai.Unused],.row fh fP 3 1 (hH KL.encI ai.Classes),.blk gJ 98 [.slice fj az.Classes.length fQ,.slice gg az.Times.length gM],.row fj fQ 3 1 (hH KL.encI az.Classes)] w_/\SlR U_ wDX gg gM az.Times/\SlR U_ wDX iq iU az.Times) ?_ fun Lr=>?_
 rintro Qr Nk ⟨rk,gI,fh,fP,gJ,fj,fQ,gg,gM,iq,iU,sT,sU,sV,sX,sY,sZ,s5,s6,s7,s8,s9,te,tf,NC,ND,NE,NF,Lt,Ho,wp,O5⟩
 refine zu ?_
 cases K8
 exact zK ⟨Z,⟨rk,gI,fh,fP,gJ,fj,fQ,gg,gM,sT,sU,sV,sX,sY,sZ,s5,s6,s7,s8,s9,te,tf,Lt,Ho,wp⟩⟩
 let bN:List Value:=[.slice none 0 0,.slice none 0 0]
 refine Ze (s:=.fx 7 .nil .stop) (M:=fun σ_ w_=>∃ (U_:PHeap) (fG:Nat) (dX:Option Addr) (d6:Nat) (fH:Nat) (ey:Option Addr) (eJ:Nat) (ez:Option Addr) (eK:Nat),σ_ 2=.slice be p2.length bi/\σ_ 3=.slice bg p3.length bj/\σ_ 4=.slice bh p4.length bm/\σ_ 5=jV p5/\σ_ 6=.pointer (some ⟨b2,0,none⟩)/\σ_ 7=.pointer (some ⟨b6,0,none⟩)/\σ_ 13=.pointer (some ⟨aj,0,none⟩)/\σ_ 14=.pointer (some ⟨bI,0,none⟩)/\σ_ 15=.slice bs bo.length bz/\σ_ 16=.slice bt bp.length bA/\σ_ 17=.slice bw bq.length bB/\σ_ 18=.pointer (some ⟨fG,0,none⟩)/\σ_ 19=.pointer (some ⟨fH,0,none⟩)/\σ_ 60=.agg B0.toArray/\σ_ 61=.agg #[.slice dX ai.Classes.length d6,jV ai.Each,jV ai.Laps,jV ai.Spare,jV ai.Loop,jV ai.Unused]/\σ_ 62=.agg B1.toArray/\σ_ 63=.agg #[.slice ey az.Classes.length eJ,.slice ez az.Times.length eK]/\PHeap.Le bU U_/\sW w U U_ [.blk b6 93 B1,.blk b2 24 B0,bH,.blk aj 24 ak,bE,am,aU,aQ,aP,.blk fG 31 [.slice dX ai.Classes.length d6,jV ai.Each,jV ai.Laps,jV ai.Spare,jV ai.Loop,jV ai.Unused],.row dX d6 3 1 (hH KL.encI ai.Classes),.blk fH 98 bN,.row ey eJ 3 1 (hH KL.encI az.Classes)] w_/\SlR U_ wDX ez eK az.Times) ?_ fun Ls=>?_
 rintro Qs Nl ⟨ln,fG,dX,d6,fH,ey,eJ,ez,eK,tg,th,tj,tn,tp,tq,tr,tu,tv,tw,tz,tA,mY,tB,tC,tD,mZ,Lu,Hp,po⟩
 let lh:List Value:=[.slice ey az.Classes.length eJ,.slice ez az.Times.length eK]
 refine ZW (j:=11) (vs:=lh) Z Z Z Z Hp Z mY mZ Z ZN (zY Z) Z Z Z ?_
 intro rL Hq
 have Hr:sW w U ln [.blk b6 93 B1,.blk b2 24 B0,bH,.blk aj 24 ak,bE,am,aU,aQ,aP,.blk fG 31 [.slice dX ai.Classes.length d6,jV ai.Each,jV ai.Laps,jV ai.Spare,jV ai.Loop,jV ai.Unused],.row dX d6 3 1 (hH KL.encI ai.Classes),.blk fH 98 lh,.row ey eJ 3 1 (hH KL.encI az.Classes)] rL:=Hq
 exact Lr _ _ ⟨ln,fG,dX,d6,fH,ey,eJ,ez,eK,ez,eK,tg,th,tj,tn,tp,tq,tr,tu,tv,tw,tz,tA,mY,tB,tC,tD,mZ,Lu,Hr,po,po⟩
 let bT:List Value:=[.slice none 0 0,jV 0,jV 0,jV 0,jV 0,jV 0]
 refine Ze (s:=gBe) (M:=fun σ_ w_=>∃ (U_:PHeap) (fJ:Nat) (fK:Nat) (eA:Option Addr) (eL:Nat) (fm:Option Addr) (fR:Nat) (gh:Option Addr) (gN:Nat),σ_ 2=.slice be p2.length bi/\σ_ 3=.slice bg p3.length bj/\σ_ 4=.slice bh p4.length bm/\σ_ 5=jV p5/\σ_ 6=.pointer (some ⟨b2,0,none⟩)/\σ_ 7=.pointer (some ⟨b6,0,none⟩)/\σ_ 13=.pointer (some ⟨aj,0,none⟩)/\σ_ 14=.pointer (some ⟨bI,0,none⟩)/\σ_ 15=.slice bs bo.length bz/\σ_ 16=.slice bt bp.length bA/\σ_ 17=.slice bw bq.length bB/\σ_ 18=.pointer (some ⟨fJ,0,none⟩)/\σ_ 19=.pointer (some ⟨fK,0,none⟩)/\σ_ 60=.agg B0.toArray/\σ_ 61=.agg #[.slice eA ai.Classes.length eL,jV ai.Each,jV ai.Laps,jV ai.Spare,jV ai.Loop,jV ai.Unused]/\σ_ 62=.agg B1.toArray/\σ_ 63=.agg #[.slice fm az.Classes.length fR,.slice gh az.Times.length gN]/\PHeap.Le bU U_/\sW w U U_ [.blk b6 93 B1,.blk b2 24 B0,bH,.blk aj 24 ak,bE,am,aU,aQ,aP,.blk fJ 31 bT,.blk fK 98 bN,.row eA eL 3 1 (hH KL.encI ai.Classes),.row fm fR 3 1 (hH KL.encI az.Classes)] w_/\SlR U_ wDX gh gN az.Times) ?_ fun jE=>?_
 rintro Qt Nm ⟨lp,fJ,fK,eA,eL,fm,fR,gh,gN,tE,tF,tG,tH,tI,tJ,tK,tL,tM,tO,tP,m0,tQ,tR,m4,tS,tT,Lv,Hs,wt⟩
 let li:List Value:=[.slice eA ai.Classes.length eL,jV ai.Each,jV ai.Laps,jV ai.Spare,jV ai.Loop,jV ai.Unused]
 refine ZW (j:=9) (vs:=li) Z Z Z Z Hs Z m0 m4 Z ZP (zY Z) Z Z Z ?_
 intro rM Ht
 have Hu:sW w U lp [.blk b6 93 B1,.blk b2 24 B0,bH,.blk aj 24 ak,bE,am,aU,aQ,aP,.blk fJ 31 li,.blk fK 98 bN,.row eA eL 3 1 (hH KL.encI ai.Classes),.row fm fR 3 1 (hH KL.encI az.Classes)] rM:=Ht
 exact Ls _ _ ⟨lp,fJ,eA,eL,fK,fm,fR,gh,gN,tE,tF,tG,tH,tI,tJ,tK,tL,tM,tO,tP,m0,tQ,tR,m4,tS,tT,Lv,(Hu.pick [0,1,2,3,4,5,6,7,8,9,11,10,12] _ (by decide) rfl),wt⟩
 refine Ze (s:=gBi) (M:=fun σ_ w_=>∃ (U_:PHeap) (fL:Nat) (fM:Nat) (fq:Option Addr) (fS:Nat),σ_ 2=.slice be p2.length bi/\σ_ 3=.slice bg p3.length bj/\σ_ 4=.slice bh p4.length bm/\σ_ 5=jV p5/\σ_ 6=.pointer (some ⟨b2,0,none⟩)/\σ_ 7=.pointer (some ⟨b6,0,none⟩)/\σ_ 13=.pointer (some ⟨aj,0,none⟩)/\σ_ 14=.pointer (some ⟨bI,0,none⟩)/\σ_ 15=.slice bs bo.length bz/\σ_ 16=.slice bt bp.length bA/\σ_ 17=.slice bw bq.length bB/\σ_ 18=.pointer (some ⟨fL,0,none⟩)/\σ_ 19=.pointer (some ⟨fM,0,none⟩)/\σ_ 60=.agg B0.toArray/\σ_ 61=.agg #[.slice fq ai.Classes.length fS,jV ai.Each,jV ai.Laps,jV ai.Spare,jV ai.Loop,jV ai.Unused]/\σ_ 62=.agg B1.toArray/\PHeap.Le bU U_/\sW w U U_ [.blk b6 93 B1,.blk b2 24 B0,bH,.blk aj 24 ak,bE,am,aU,aQ,aP,.blk fL 31 bT,.blk fM 98 bN,.row fq fS 3 1 (hH KL.encI ai.Classes)] w_) ?_ fun jG=>?_
 rintro Qu rN ⟨rn,fL,fM,fq,fS,tU,tV,tW,tX,tY,tZ,t7,t8,t9,ua,ub,uc,ud,ue,uf,m5,jH,Hv⟩
 have wu:=dQ.le aS
 have wv:=wu.le bF
 have ww:=wv.le jH
 have wx:=dR.le aS
 have wy:=wx.le bF
 have wz:=wy.le jH
 refine zD 0 Z Z Z Z (zE Z Z Tryz.call39 (zB m5 zL) Z) Hv (fun hs=>wBy p1 cL cO cM cP rN rn hs ww wz g7) (.inr Z) ?_
 rintro lq Mi Ph rO Lw Hw ⟨jN,mC,qW,sP,rfl,rfl,wA⟩
 have Hx:sW w U lq [.row jN mC 3 1 (hH KL.encI az.Classes),.blk b6 93 B1,.blk b2 24 B0,bH,.blk aj 24 ak,bE,am,aU,aQ,aP,.blk fL 31 bT,.blk fM 98 bN,.row fq fS 3 1 (hH KL.encI ai.Classes)] rO:=Hw
 exact jE _ _ ⟨lq,fL,fM,fq,fS,jN,mC,qW,sP,tU,tV,tW,tX,tY,tZ,t7,t8,t9,ua,ub,uc,ud,ue,uf,m5,rfl,(jH.trans Lw),(Hx.pick [1,2,3,4,5,6,7,8,9,10,11,12,0] _ (by decide) rfl),wA⟩
 refine Ze (s:=gBh) (M:=fun σ_ w_=>∃ (U_:PHeap) (gK:Nat) (gi:Option Addr) (gO:Nat) (gj:Option Addr) (gP:Nat) (gm:Option Addr) (gQ:Nat),σ_ 2=.slice be p2.length bi/\σ_ 3=.slice bg p3.length bj/\σ_ 4=.slice bh p4.length bm/\σ_ 5=jV p5/\σ_ 6=.pointer (some ⟨b2,0,none⟩)/\σ_ 7=.pointer (some ⟨b6,0,none⟩)/\σ_ 13=.pointer (some ⟨aj,0,none⟩)/\σ_ 14=.pointer (some ⟨bI,0,none⟩)/\σ_ 15=.slice bs bo.length bz/\σ_ 16=.slice bt bp.length bA/\σ_ 17=.slice bw bq.length bB/\σ_ 19=.pointer (some ⟨gK,0,none⟩)/\σ_ 60=.agg B0.toArray/\σ_ 61=.agg #[.slice gi ai.Classes.length gO,jV ai.Each,jV ai.Laps,jV ai.Spare,jV ai.Loop,jV ai.Unused]/\σ_ 62=.agg B1.toArray/\σ_ 63=.agg #[.slice gj az.Classes.length gP,.slice gm az.Times.length gQ]/\PHeap.Le bU U_/\sW w U U_ [.blk b6 93 B1,.blk b2 24 B0,bH,.blk aj 24 ak,bE,am,aU,aQ,aP,.blk gK 98 bN,.row gi gO 3 1 (hH KL.encI ai.Classes),.row gj gP 3 1 (hH KL.encI az.Classes)] w_/\SlR U_ wDX gm gQ az.Times) ?_ fun qE=>?_
 rintro Qv Nn ⟨ro,gK,gi,gO,gj,gP,gm,gQ,ug,uh,ui,uj,uk,ul,um,uo,uq,ur,ut,uu,uv,uw,ux,uy,Lx,Hy,wB⟩
 refine ZG (cs:=bT) Z Z Z Z Z Zr Z Hy ?_
 intro No sC Hz
 exact jE _ _ ⟨ro,sC,gK,gi,gO,gj,gP,gm,gQ,ug,uh,ui,uj,uk,ul,um,uo,uq,ur,ut,rfl,uu,uv,uw,ux,uy,Lx,(Hz.pick [1,2,3,4,5,6,7,8,9,0,10,11,12] _ (by decide) rfl),wB⟩
 refine Ze (s:=gBg) (M:=fun σ_ w_=>∃ (U_:PHeap) (gL:Nat) (gp:Option Addr) (gR:Nat) (gq:Option Addr) (gS:Nat) (gt:Option Addr) (gT:Nat),σ_ 2=.slice be p2.length bi/\σ_ 3=.slice bg p3.length bj/\σ_ 4=.slice bh p4.length bm/\σ_ 5=jV p5/\σ_ 6=.pointer (some ⟨b2,0,none⟩)/\σ_ 7=.pointer (some ⟨b6,0,none⟩)/\σ_ 13=.pointer (some ⟨aj,0,none⟩)/\σ_ 14=.pointer (some ⟨bI,0,none⟩)/\σ_ 15=.slice bs bo.length bz/\σ_ 16=.slice bt bp.length bA/\σ_ 17=.slice bw bq.length bB/\σ_ 18=.pointer (some ⟨gL,0,none⟩)/\σ_ 60=.agg B0.toArray/\σ_ 61=.agg #[.slice gp ai.Classes.length gR,jV ai.Each,jV ai.Laps,jV ai.Spare,jV ai.Loop,jV ai.Unused]/\σ_ 62=.agg B1.toArray/\σ_ 63=.agg #[.slice gq az.Classes.length gS,.slice gt az.Times.length gT]/\PHeap.Le bU U_/\sW w U U_ [.blk b6 93 B1,.blk b2 24 B0,bH,.blk aj 24 ak,bE,am,aU,aQ,aP,.blk gL 31 bT,.row gp gR 3 1 (hH KL.encI ai.Classes),.row gq gS 3 1 (hH KL.encI az.Classes)] w_/\SlR U_ wDX gt gT az.Times) ?_ fun qF=>?_
 rintro Qw Np ⟨rp,gL,gp,gR,gq,gS,gt,gT,uz,uA,uB,uC,uD,uE,uF,uG,uH,uI,uJ,uK,uL,uM,uN,uO,Ly,HA,wC⟩
 refine ZG (cs:=bN) Z Z Z Z Z Zl Z HA ?_
 intro Nq sD HB
 exact jE _ _ ⟨rp,gL,sD,gp,gR,gq,gS,gt,gT,uz,uA,uB,uC,uD,uE,uF,uG,uH,uI,uJ,uK,rfl,uL,uM,uN,uO,Ly,(HB.pick [1,2,3,4,5,6,7,8,9,10,0,11,12] _ (by decide) rfl),wC⟩
 refine Ze (s:=gBn) (M:=fun σ_ w_=>∃ (U_:PHeap) (fN:Nat) (fO:Nat),σ_ 2=.slice be p2.length bi/\σ_ 3=.slice bg p3.length bj/\σ_ 4=.slice bh p4.length bm/\σ_ 5=jV p5/\σ_ 6=.pointer (some ⟨b2,0,none⟩)/\σ_ 7=.pointer (some ⟨b6,0,none⟩)/\σ_ 13=.pointer (some ⟨aj,0,none⟩)/\σ_ 14=.pointer (some ⟨bI,0,none⟩)/\σ_ 15=.slice bs bo.length bz/\σ_ 16=.slice bt bp.length bA/\σ_ 17=.slice bw bq.length bB/\σ_ 18=.pointer (some ⟨fN,0,none⟩)/\σ_ 19=.pointer (some ⟨fO,0,none⟩)/\σ_ 60=.agg B0.toArray/\σ_ 62=.agg B1.toArray/\PHeap.Le bU U_/\sW w U U_ [.blk b6 93 B1,.blk b2 24 B0,bH,.blk aj 24 ak,bE,am,aU,aQ,aP,.blk fN 31 bT,.blk fO 98 bN] w_) ?_ fun qG=>?_
 rintro Qx rP ⟨rq,fN,fO,uP,uQ,uR,uS,uT,uU,uV,uW,uX,uY,uZ,u0,u3,m6,u4,qJ,HD⟩
 have wD:=dP.le aS
 have wE:=wD.le bF
 have wG:=wE.le qJ
 refine zD 0 Z Z Z Z (zE Z Z Tryz.call36 (zB m6 zL) Z) HD (fun hs=>wBF p0 cK cN rP rq hs wG gZ) (.inr Z) ?_
 rintro lu Ml Pj rQ Lz HF ⟨jO,mD,rfl,rfl⟩
 have HG:sW w U lu [.row jO mD 3 1 (hH KL.encI ai.Classes),.blk b6 93 B1,.blk b2 24 B0,bH,.blk aj 24 ak,bE,am,aU,aQ,aP,.blk fN 31 bT,.blk fO 98 bN] rQ:=HF
 exact jG _ _ ⟨lu,fN,fO,jO,mD,uP,uQ,uR,uS,uT,uU,uV,uW,uX,uY,uZ,u0,u3,m6,rfl,u4,(qJ.trans Lz),(HG.pick [1,2,3,4,5,6,7,8,9,10,11,0] _ (by decide) rfl)⟩
 refine Ze (s:=gBp) (M:=fun σ_ w_=>∃ (U_:PHeap) (eF:Nat) (eC:Option Addr) (eM:Nat),σ_ 2=.slice be p2.length bi/\σ_ 3=.slice bg p3.length bj/\σ_ 4=.slice bh p4.length bm/\σ_ 5=jV p5/\σ_ 6=.pointer (some ⟨b2,0,none⟩)/\σ_ 7=.pointer (some ⟨b6,0,none⟩)/\σ_ 13=.pointer (some ⟨aj,0,none⟩)/\σ_ 14=.pointer (some ⟨bI,0,none⟩)/\σ_ 15=.slice bs bo.length bz/\σ_ 16=.slice bt bp.length bA/\σ_ 17=.slice bw bq.length bB/\σ_ 19=.pointer (some ⟨eF,0,none⟩)/\σ_ 60=.agg B0.toArray/\σ_ 61=.agg #[.slice eC ai.Classes.length eM,jV ai.Each,jV ai.Laps,jV ai.Spare,jV ai.Loop,jV ai.Unused]/\σ_ 62=.agg B1.toArray/\PHeap.Le bU U_/\sW w U U_ [.blk b6 93 B1,.blk b2 24 B0,bH,.blk aj 24 ak,bE,am,aU,aQ,aP,.blk eF 98 bN,.row eC eM 3 1 (hH KL.encI ai.Classes)] w_) ?_ fun qH=>?_
 rintro Qy rS ⟨lv,eF,eC,eM,m7,m8,m9,n5,n6,n7,n8,n9,od,oe,og,oh,oi,oj,jb,ig,p6⟩
 refine ZX ?_ ?_
 have wI:=dQ.le aS
 have wJ:=wI.le bF
 have wK:=wJ.le ig
 have wL:=dR.le aS
 have wM:=wL.le bF
 have wN:=wM.le ig
 refine zD 0 Z Z Z Z (zE Z Z Tryz.call39 (zB jb zL) Z) p6 (fun hs=>wBy p1 cL cO cM cP rS lv hs wK wN g7) (.inr Z) ?_
 rintro lw Mm Pk rT LA HH ⟨jP,mE,qX,sQ,rfl,rfl,wO⟩
 have HI:sW w U lw [.row jP mE 3 1 (hH KL.encI az.Classes),.blk b6 93 B1,.blk b2 24 B0,bH,.blk aj 24 ak,bE,am,aU,aQ,aP,.blk eF 98 bN,.row eC eM 3 1 (hH KL.encI ai.Classes)] rT:=HH
 exact qE _ _ ⟨lw,eF,eC,eM,jP,mE,qX,sQ,m7,m8,m9,n5,n6,n7,n8,n9,od,oe,og,oh,oi,oj,jb,rfl,(ig.trans LA),(HI.pick [1,2,3,4,5,6,7,8,9,10,11,0] _ (by decide) rfl),wO⟩
 refine ZG (cs:=bT) Z Z Z Z Z Zr Z p6 ?_
 intro Nr sE HJ
 exact jG _ _ ⟨lv,sE,eF,eC,eM,m7,m8,m9,n5,n6,n7,n8,n9,od,oe,og,rfl,oh,oi,oj,jb,ig,(HJ.pick [1,2,3,4,5,6,7,8,9,0,10,11] _ (by decide) rfl)⟩
 refine Ze (s:=gBo) (M:=fun σ_ w_=>∃ (U_:PHeap) (eG:Nat) (eD:Option Addr) (eO:Nat),σ_ 2=.slice be p2.length bi/\σ_ 3=.slice bg p3.length bj/\σ_ 4=.slice bh p4.length bm/\σ_ 5=jV p5/\σ_ 6=.pointer (some ⟨b2,0,none⟩)/\σ_ 7=.pointer (some ⟨b6,0,none⟩)/\σ_ 13=.pointer (some ⟨aj,0,none⟩)/\σ_ 14=.pointer (some ⟨bI,0,none⟩)/\σ_ 15=.slice bs bo.length bz/\σ_ 16=.slice bt bp.length bA/\σ_ 17=.slice bw bq.length bB/\σ_ 18=.pointer (some ⟨eG,0,none⟩)/\σ_ 60=.agg B0.toArray/\σ_ 61=.agg #[.slice eD ai.Classes.length eO,jV ai.Each,jV ai.Laps,jV ai.Spare,jV ai.Loop,jV ai.Unused]/\σ_ 62=.agg B1.toArray/\PHeap.Le bU U_/\sW w U U_ [.blk b6 93 B1,.blk b2 24 B0,bH,.blk aj 24 ak,bE,am,aU,aQ,aP,.blk eG 31 bT,.row eD eO 3 1 (hH KL.encI ai.Classes)] w_) ?_ fun qI=>?_
 rintro Qz rV ⟨lx,eG,eD,eO,ol,om,oq,ot,ou,ow,ox,oy,oz,oB,oG,oH,oI,oK,jc,ii,p7⟩
 refine ZX ?_ ?_
 have wP:=dQ.le aS
 have wQ:=wP.le bF
 have wR:=wQ.le ii
 have wS:=dR.le aS
 have wU:=wS.le bF
 have wV:=wU.le ii
 refine zD 0 Z Z Z Z (zE Z Z Tryz.call39 (zB jc zL) Z) p7 (fun hs=>wBy p1 cL cO cM cP rV lx hs wR wV g7) (.inr Z) ?_
 rintro ly Mn Pm rW LB HK ⟨jQ,mF,qY,sS,rfl,rfl,wW⟩
 have HM:sW w U ly [.row jQ mF 3 1 (hH KL.encI az.Classes),.blk b6 93 B1,.blk b2 24 B0,bH,.blk aj 24 ak,bE,am,aU,aQ,aP,.blk eG 31 bT,.row eD eO 3 1 (hH KL.encI ai.Classes)] rW:=HK
 exact qF _ _ ⟨ly,eG,eD,eO,jQ,mF,qY,sS,ol,om,oq,ot,ou,ow,ox,oy,oz,oB,oG,oH,oI,oK,jc,rfl,(ii.trans LB),(HM.pick [1,2,3,4,5,6,7,8,9,10,11,0] _ (by decide) rfl),wW⟩
 refine ZG (cs:=bN) Z Z Z Z Z Zl Z p7 ?_
 intro Ns sF HN
 exact jG _ _ ⟨lx,eG,sF,eD,eO,ol,om,oq,ot,ou,ow,ox,oy,oz,oB,oG,oH,rfl,oI,oK,jc,ii,(HN.pick [1,2,3,4,5,6,7,8,9,10,0,11] _ (by decide) rfl)⟩
 refine oL Z (fc.ldBA (j:=1) Z Z dC ZC zr (vs:=B0) Z Z) (oL Z (fc.ldBA (j:=0) Z Z dD ZF zw (vs:=B1) Z Z) (ZX ?_ ?_))
 have wX:=dP.le aS
 have wY:=wX.le bF
 refine zD 0 Z Z Z Z (zE Z Z Tryz.call36 (zB Z zL) Z) fc (fun hs=>wBF p0 cK cN sB bU hs wY gZ) (.inr Z) ?_
 rintro gy Mo Pn lW fd HO ⟨ft,fT,rfl,rfl⟩
 let lj:Res:=.row ft fT 3 1 (hH KL.encI ai.Classes)
 have ju:sW w U gy [lj,.blk b6 93 B1,.blk b2 24 B0,.blk aj 24 ak,bH,am,bE,aU,aQ,aP] lW:=HO
 refine ZX ?_ ?_
 have wZ:=dQ.le aS
 have w5:=wZ.le bF
 have w6:=w5.le fd
 have w7:=dR.le aS
 have w8:=w7.le bF
 have w9:=w8.le fd
 refine zD 0 Z Z Z Z (zE Z Z Tryz.call39 (zB Z zL) Z) ju (fun hs=>wBy p1 cL cO cM cP lW gy hs w6 w9 g7) (.inr Z) ?_
 rintro iB Mp Po rX qK HP ⟨ir,iV,jR,mG,rfl,rfl,pp⟩
 have p8:sW w U iB [.row ir iV 3 1 (hH KL.encI az.Classes),lj,.blk b6 93 B1,.blk b2 24 B0,.blk aj 24 ak,bH,am,bE,aU,aQ,aP] rX:=HP
 refine ZX ?_ ?_
 refine ZG (cs:=bT) Z Z Z Z Z Zr Z p8 ?_
 intro Nt sG HQ
 exact qF _ _ ⟨iB,sG,ft,fT,ir,iV,jR,mG,dG,dH,dI,dJ,dC,dD,dK,dL,dM,dN,dO,rfl,rfl,rfl,rfl,rfl,(fd.trans qK),(HQ.pick [3,4,6,5,8,7,9,10,11,0,2,1] _ (by decide) rfl),pp⟩
 refine ZG (cs:=bN) Z Z Z Z Z Zl Z p8 ?_
 intro Nu sH HS
 exact qE _ _ ⟨iB,sH,ft,fT,ir,iV,jR,mG,dG,dH,dI,dJ,dC,dD,dK,dL,dM,dN,dO,rfl,rfl,rfl,rfl,rfl,(fd.trans qK),(HS.pick [3,4,6,5,8,7,9,10,11,0,2,1] _ (by decide) rfl),pp⟩
 refine ZX ?_ ?_
 refine ZG (cs:=bT) Z Z Z Z Z Zr Z ju ?_
 intro Nv sI HT
 exact qI _ _ ⟨gy,sI,ft,fT,dG,dH,dI,dJ,dC,dD,dK,dL,dM,dN,dO,rfl,rfl,rfl,rfl,fd,(HT.pick [2,3,5,4,7,6,8,9,10,0,1] _ (by decide) rfl)⟩
 refine ZG (cs:=bN) Z Z Z Z Z Zl Z ju ?_
 intro Nw sJ HU
 exact qH _ _ ⟨gy,sJ,ft,fT,dG,dH,dI,dJ,dC,dD,dK,dL,dM,dN,dO,rfl,rfl,rfl,rfl,fd,(HU.pick [2,3,5,4,7,6,8,9,10,0,1] _ (by decide) rfl)⟩
 refine ZX ?_ ?_
 refine ZG (cs:=bT) Z Z Z Z Z Zr Z fc ?_
 intro rY iR p9
 refine ZX ?_ ?_
 have xc:=dP.le aS
 have xd:=xc.le bF
 refine zD 0 Z Z Z Z (zE Z Z Tryz.call36 (zB Z zL) Z) p9 (fun hs=>wBF p0 cK cN rY bU hs xd gZ) (.inr Z) ?_
 rintro lz Mq Pp rZ LC HV ⟨jS,mH,rfl,rfl⟩
 have HW:sW w U lz [.row jS mH 3 1 (hH KL.encI ai.Classes),.blk iR 31 bT,.blk b6 93 B1,.blk b2 24 B0,.blk aj 24 ak,bH,am,bE,aU,aQ,aP] rZ:=HV
 exact qI _ _ ⟨lz,iR,jS,mH,dG,dH,dI,dJ,dC,dD,dK,dL,dM,dN,dO,rfl,rfl,rfl,rfl,LC,(HW.pick [2,3,5,4,7,6,8,9,10,1,0] _ (by decide) rfl)⟩
 refine ZG (cs:=bN) Z Z Z Z Z Zl Z p9 ?_
 intro Nx sK HX
 exact qG _ _ ⟨bU,iR,sK,dG,dH,dI,dJ,dC,dD,dK,dL,dM,dN,dO,rfl,rfl,rfl,rfl,(zX _),(HX.pick [2,3,5,4,7,6,8,9,10,1,0] _ (by decide) rfl)⟩
 refine ZG (cs:=bN) Z Z Z Z Z Zl Z fc ?_
 intro r6 iT qa
 refine ZX ?_ ?_
 have xe:=dP.le aS
 have xf:=xe.le bF
 refine zD 0 Z Z Z Z (zE Z Z Tryz.call36 (zB Z zL) Z) qa (fun hs=>wBF p0 cK cN r6 bU hs xf gZ) (.inr Z) ?_
 rintro lA Mr Pq r7 LD HZ ⟨jU,mI,rfl,rfl⟩
 have H0:sW w U lA [.row jU mI 3 1 (hH KL.encI ai.Classes),.blk iT 98 bN,.blk b6 93 B1,.blk b2 24 B0,.blk aj 24 ak,bH,am,bE,aU,aQ,aP] r7:=HZ
 exact qH _ _ ⟨lA,iT,jU,mI,dG,dH,dI,dJ,dC,dD,dK,dL,dM,dN,dO,rfl,rfl,rfl,rfl,LD,(H0.pick [2,3,5,4,7,6,8,9,10,1,0] _ (by decide) rfl)⟩
 refine ZG (cs:=bT) Z Z Z Z Z Zr Z qa ?_
 intro Ny sL H1
 exact qG _ _ ⟨bU,sL,iT,dG,dH,dI,dJ,dC,dD,dK,dL,dM,dN,dO,rfl,rfl,rfl,rfl,(zX _),(H1.pick [2,3,5,4,7,6,8,9,10,0,1] _ (by decide) rfl)⟩
 rintro QA lX ⟨Ng,ap,cB,cG,aq,cC,cH,cR,cU,oO,u5,u6,u7,u9,va,gW,gX,oP,oU,oW,jd,je,cV,H2,xg⟩
 refine zH (zH (ZM ZI [1,1,2,1,1,2,3] (.fl 0 (.fl 1 (.fl 3 (.fl 4 (.fx 2 gBc .stop))))) (by kernel_rfl) ?_))
 have fb:=H2.drew
 generalize hw_W1701:({ lX with drawn:=lX.drawn + 1 }:World)=iN at fb ⊢
 refine oL Z (fb.ldBA (j:=3) Z Z gW ZC zr (vs:=ak) Z Z) ?_
 let dF:List Value:=[.slice b9 bX.length cd,.slice cn cy.length cr]
 refine oL Z (fb.ldBA (j:=5) Z Z gX ZF zw (vs:=dF) Z Z) ?_
 let au:List Value:=[.slice cB cw.length cG,jV dS,jV dT,jV dU,jV dV,jV dW]
 refine oL Z (fb.ldBA (j:=9) Z Z jd ZU ZP (vs:=au) Z Z) ?_
 let av:List Value:=[.slice cC cx.length cH,.slice cR dE.length cU]
 refine oL Z (fb.ldBA (j:=11) Z Z je ZT ZN (vs:=av) Z Z) ?_
 have q:=fb.freezeR (k:=2) (n:=cf.length) rfl (wAH (f:=KL.encI) (sz:=1) (fun _=>rfl) cf) (by decide)
 obtain ⟨rt,cJ,K9,H4⟩:=q
 let gx:Res:=.row cC cH 3 1 (hH KL.encI cx)
 let iz:Res:=.row cB cG 3 1 (hH KL.encI cw)
 have H5:sW w U rt [.blk b6 93 B1,.blk b2 24 B0,.blk aj 24 ak,bE,am,aU,aQ,aP,.blk ap 31 au,iz,.blk aq 98 av,gx] iN:=H4
 have q:=H5.freezeR (k:=3) (n:=bX.length) rfl (wAH (f:=KL.encI) (sz:=1) (fun _=>rfl) bX) (by decide)
 obtain ⟨lB,cz,qB,H6⟩:=q
 have H7:sW w U lB [.blk b6 93 B1,.blk b2 24 B0,.blk aj 24 ak,am,aU,aQ,aP,.blk ap 31 au,iz,.blk aq 98 av,gx] iN:=H6
 have pq:=K9.le cz
 have xh:=Hn.le cV
 have xi:=xh.le cJ
 have pt:=xi.le cz
 refine bnK qA fun P8 xj JE=>zD 0 Z Z Z Z (zE Z Z Tryz.call40 (zB Z (zB Z zL)) Z) H7 (fun hs=>wBx (⟨cf,cY,cZ,de,x79,x80⟩:wAA) cm cq (⟨bX,cy⟩:wAB) b9 cd cn cr iN lB hs pq qB pt xj) (.inr Z) ?_
 rintro ru Ms Pr gF ct H8 ⟨rfl,rfl⟩
 have H9:sW w U ru [.blk b6 93 B1,.blk b2 24 B0,.blk aj 24 ak,am,aU,aQ,aP,.blk ap 31 au,iz,.blk aq 98 av,gx] gF:=H8
 have q:=H9.freezeR (k:=8) (n:=cw.length) rfl (wAH (f:=KL.encI) (sz:=1) (fun _=>rfl) cw) (by decide)
 obtain ⟨rx,cu,La,Ia⟩:=q
 have Ib:sW w U rx [.blk b6 93 B1,.blk b2 24 B0,.blk aj 24 ak,am,aU,aQ,aP,.blk ap 31 au,.blk aq 98 av,gx] gF:=Ia
 have q:=Ib.freezeR (k:=9) (n:=cx.length) rfl (wAH (f:=KL.encI) (sz:=1) (fun _=>rfl) cx) (by decide)
 obtain ⟨lD,cg,qC,Ic⟩:=q
 have Ie:sW w U lD [.blk b6 93 B1,.blk b2 24 B0,.blk aj 24 ak,am,aU,aQ,aP,.blk ap 31 au,.blk aq 98 av] gF:=Ic
 have py:=La.le cg
 have xk:=xg.le cJ
 have xl:=xk.le cz
 have xm:=xl.le ct
 have xn:=xm.le cu
 have pz:=xn.le cg
 refine bnK JE fun P9 xo JF=>zD 0 Z Z Z Z (zE Z Z Tryz.call41 (zB Z (zB Z zL)) Z) Ie (fun hs=>wBG (⟨cw,dS,dT,dU,dV,dW⟩:wAD) cB cG (⟨cx,dE⟩:wAC) cC cH cR cU gF lD hs py qC pz xo) (.inr Z) ?_
 rintro lE Mt Ps iO bY If ⟨rfl,rfl⟩
 have g8:sW w U lE [.blk b6 93 B1,.blk b2 24 B0,.blk aj 24 ak,am,aU,aQ,aP,.blk ap 31 au,.blk aq 98 av] iO:=If
 refine oR Z (ZE Z Z Z) (eN (ifc JF ?_ ?_))
 intro iW JG
 refine zj (zt (fun h=>h iW.out)) (kN (sR (wDT (.fx 3 (wME (.nil)) .stop)) Z (oL Z (g8.ldBA (j:=2) Z Z gW ZC zr (vs:=ak) Z Z) (oL Z (g8.ldBA (j:=3) Z Z gX ZF zw (vs:=dF) Z Z) (oM Z oP ?_)))))
 have q:=g8.freezeR (k:=4) (n:=bo.length) rfl (wAH (f:=KL.encI) (sz:=1) (fun _=>rfl) bo) (by decide)
 obtain ⟨lF,bZ,jC,Ig⟩:=q
 have Ih:sW w U lF [.blk b6 93 B1,.blk b2 24 B0,.blk aj 24 ak,am,aQ,aP,.blk ap 31 au,.blk aq 98 av] iO:=Ig
 have xp:=pq.le ct
 have xr:=xp.le cu
 have xt:=xr.le cg
 have xu:=xt.le bY
 have pB:=xu.le bZ
 have xw:=qB.le ct
 have xx:=xw.le cu
 have xz:=xx.le cg
 have xA:=xz.le bY
 have pC:=xA.le bZ
 have xB:=pt.le ct
 have xC:=xB.le cu
 have xD:=xC.le cg
 have xE:=xD.le bY
 have pD:=xE.le bZ
 have q:=bnd JG
 obtain ⟨⟨LX,LY⟩,xF,qn⟩:=q
 try dsimp only at qn
 refine zD 0 Z Z Z Z (zE Z Z Tryz.call42 (zB Z (zB Z (zB Z zL))) Z) Ih (fun hs=>wIa (⟨cf,cY,cZ,de,x79,x80⟩:wAA) cm cq (⟨bX,cy⟩:wAB) b9 cd cn cr bo bs bz iO lF hs pB pC pD jC xF) (.inr Z) ?_
 rintro lG Mw Pt lY bO Ii ⟨rfl,rfl⟩
 have jv:sW w U lG [.blk b6 93 B1,.blk b2 24 B0,.blk aj 24 ak,am,aQ,aP,.blk ap 31 au,.blk aq 98 av] lY:=Ii
 refine oM Z Z (oR Z (ZB Z Z (v:=jV LX) Z) (oR Z (ZB Z Z (v:=jV LY) Z) (oA Z Z (oA Z Z (eN (sR (wDT (.fx 3 (wME (.nil)) .stop)) Z (oL Z (jv.ldBA (j:=6) Z Z jd ZU ZP (vs:=au) Z Z) (oL Z (jv.ldBA (j:=7) Z Z je ZT ZN (vs:=av) Z Z) (oM Z oO ?_)))))))))
 have xG:=py.le bY
 have xH:=xG.le bZ
 have pE:=xH.le bO
 have xI:=qC.le bY
 have xJ:=xI.le bZ
 have pF:=xJ.le bO
 have xK:=pz.le bY
 have xL:=xK.le bZ
 have pG:=xL.le bO
 have xM:=qj.le aS
 have xN:=xM.le bF
 have xO:=xN.le cV
 have xP:=xO.le cJ
 have xR:=xP.le cz
 have xS:=xR.le ct
 have xT:=xS.le cu
 have xU:=xT.le cg
 have xV:=xU.le bY
 have xW:=xV.le bZ
 have jj:=xW.le bO
 have q:=bnd qn
 obtain ⟨⟨qO,qP⟩,xX,qo⟩:=q
 try dsimp only at qo
 refine zD 0 Z Z Z Z (zE Z Z Tryz.call43 (zB Z (zB Z (zB Z zL))) Z) jv (fun hs=>wEb (⟨cw,dS,dT,dU,dV,dW⟩:wAD) cB cG (⟨cx,dE⟩:wAC) cC cH cR cU p2 be bi lY lG hs pE pF pG jj xX) (.inr Z) ?_
 rintro iC Mx Pu gG bL Ij ⟨rfl,rfl⟩
 have gb:sW w U iC [.blk b6 93 B1,.blk b2 24 B0,.blk aj 24 ak,am,aQ,aP,.blk ap 31 au,.blk aq 98 av] gG:=Ij
 refine oM Z Z (oR Z (ZB Z Z (v:=jV qO) Z) (oR Z (ZB Z Z (v:=jV qP) Z) (oA Z Z (oA Z Z (eN (zH (sR fL8 Z (oM Z Z (oM Z Z (oR Z (ZE Z Z Z) (oM Z Z (ifc qo ?_ ?_))))))))))))
 intro dg JH
 refine zf Z Z Z (zG Z Z (zt (fun h=>h dg.out))) Z Z (zf Z Z Z (zG Z Z (zt (fun h=>h dg.out))) Z Z (zi Z Z Z (zG Z Z (zt (fun h=>h dg.out))) (fun _=>ZE Z Z Z) (oR Z (zO Z (zt (fun h=>h dg.out)) Z) (eN (ifc JH ?_ ?_)))))
 intro iX JI
 refine zj (zt (fun h=>h iX.out)) (kN (sR (wHf (.fx 4 (wON (.nil)) .stop)) Z (oL Z (gb.ldBA (j:=2) Z Z gW ZC zr (vs:=ak) Z Z) (oL Z (gb.ldBA (j:=3) Z Z gX ZF zw (vs:=dF) Z Z) (oM Z oU (oM Z oW ?_))))))
 have q:=gb.freezeR (k:=4) (n:=bp.length) rfl (wAH (f:=KL.encI) (sz:=1) (fun _=>rfl) bp) (by decide)
 obtain ⟨ry,bM,Lb,Ik⟩:=q
 have Il:sW w U ry [.blk b6 93 B1,.blk b2 24 B0,.blk aj 24 ak,am,aP,.blk ap 31 au,.blk aq 98 av] gG:=Ik
 have q:=Il.freezeR (k:=4) (n:=bq.length) rfl (wAH (f:=KL.encI) (sz:=1) (fun _=>rfl) bq) (by decide)
 obtain ⟨lH,bJ,jD,Im⟩:=q
 have In:sW w U lH [.blk b6 93 B1,.blk b2 24 B0,.blk aj 24 ak,am,.blk ap 31 au,.blk aq 98 av] gG:=Im
 have xY:=pB.le bO
 have xZ:=xY.le bL
 have x3:=xZ.le bM
 have pH:=x3.le bJ
 have x8:=pC.le bO
 have ya:=x8.le bL
 have yb:=ya.le bM
 have pI:=yb.le bJ
 have yc:=pD.le bO
 have yd:=yc.le bL
 have ye:=yd.le bM
 have pJ:=ye.le bJ
 have jk:=Lb.le bJ
 have q:=bnd JI
 obtain ⟨⟨qQ,qR⟩,yf,qp⟩:=q
 try dsimp only at qp
 refine zD 0 Z Z Z Z (zE Z Z Tryz.call44 (zB Z (zB Z (zB Z (zB Z zL)))) Z) In (fun hs=>wHZ (⟨cf,cY,cZ,de,x79,x80⟩:wAA) cm cq (⟨bX,cy⟩:wAB) b9 cd cn cr bp bt bA bq bw bB gG lH hs pH pI pJ jk jD yf) (.inr Z) ?_
 rintro lI My Pv lZ bD Io ⟨rfl,rfl⟩
 have jw:sW w U lI [.blk b6 93 B1,.blk b2 24 B0,.blk aj 24 ak,am,.blk ap 31 au,.blk aq 98 av] lZ:=Io
 refine oM Z Z (oR Z (ZB Z Z (v:=jV qQ) Z) (oR Z (ZB Z Z (v:=jV qR) Z) (oA Z Z (oA Z Z (eN (zH (CK.fresh fun bQ bK=>?_)))))))
 have vb:bQ 2=.slice be p2.length bi:=(bK 2).trans oO
 have oX:bQ 3=.slice bg p3.length bj:=(bK 3).trans u5
 have oY:bQ 4=.slice bh p4.length bm:=(bK 4).trans u6
 have o0:bQ 5=jV p5:=(bK 5).trans u7
 have vc:bQ 6=.pointer (some ⟨b2,0,none⟩):=(bK 6).trans u9
 have vd:bQ 7=.pointer (some ⟨b6,0,none⟩):=(bK 7).trans va
 have o2:bQ 13=.pointer (some ⟨aj,0,none⟩):=(bK 13).trans gW
 have o3:bQ 14=.pointer (some ⟨bI,0,none⟩):=(bK 14).trans gX
 have ve:bQ 15=.slice bs bo.length bz:=(bK 15).trans oP
 have vg:bQ 16=.slice bt bp.length bA:=(bK 16).trans oU
 have vh:bQ 17=.slice bw bq.length bB:=(bK 17).trans oW
 have jf:bQ 18=.pointer (some ⟨ap,0,none⟩):=(bK 18).trans jd
 have jg:bQ 19=.pointer (some ⟨aq,0,none⟩):=(bK 19).trans je
 have vi:bQ 20=jV qQ:=(bK 20).trans rfl
 have vj:bQ 21=jV qR:=(bK 21).trans rfl
 have NG:bQ 22=jV qO:=(bK 22).trans rfl
 have NH:bQ 23=jV qP:=(bK 23).trans rfl
 clear bK
 refine rR (wHf (.fx 4 (wON (.nil)) .stop)) Z (oL Z (jw.ldBA (j:=4) Z Z jf ZU ZP (vs:=au) Z Z) (oL Z (jw.ldBA (j:=5) Z Z jg ZT ZN (vs:=av) Z Z) (oM Z oX (oM Z oY ?_))))
 have yg:=pE.le bL
 have yh:=yg.le bM
 have yi:=yh.le bJ
 have pK:=yi.le bD
 have yj:=pF.le bL
 have yk:=yj.le bM
 have yl:=yk.le bJ
 have pL:=yl.le bD
 have ym:=pG.le bL
 have yn:=ym.le bM
 have yo:=yn.le bJ
 have pM:=yo.le bD
 have yp:=qk.le aS
 have yq:=yp.le bF
 have yr:=yq.le cV
 have yt:=yr.le cJ
 have yu:=yt.le cz
 have yv:=yu.le ct
 have yw:=yv.le cu
 have yy:=yw.le cg
 have yz:=yy.le bY
 have yA:=yz.le bZ
 have yB:=yA.le bO
 have yC:=yB.le bL
 have yD:=yC.le bM
 have yE:=yD.le bJ
 have jl:=yE.le bD
 have yF:=ql.le aS
 have yG:=yF.le bF
 have yH:=yG.le cV
 have yI:=yH.le cJ
 have yJ:=yI.le cz
 have yK:=yJ.le ct
 have yL:=yK.le cu
 have yM:=yL.le cg
 have yN:=yM.le bY
 have yO:=yN.le bZ
 have yP:=yO.le bO
 have yQ:=yP.le bL
 have yR:=yQ.le bM
 have yS:=yR.le bJ
 have jm:=yS.le bD
 have q:=bnd qp
 obtain ⟨⟨LZ,L2⟩,yT,qq⟩:=q
 try dsimp only at qq
 refine zD 0 Z Z Z Z (zE Z Z Tryz.call45 (zB Z (zB Z (zB Z (zB Z zL)))) Z) jw (fun hs=>wCx (⟨cw,dS,dT,dU,dV,dW⟩:wAD) cB cG (⟨cx,dE⟩:wAC) cC cH cR cU p3 bg bj p4 bh bm lZ lI hs pK pL pM jl jm yT) (.inr Z) ?_
 rintro gA Mz Pw l6 aY Ip ⟨rfl,rfl⟩
 have gc:sW w U gA [.blk b6 93 B1,.blk b2 24 B0,.blk aj 24 ak,am,.blk ap 31 au,.blk aq 98 av] l6:=Ip
 refine oM Z Z (oR Z (ZB Z Z (v:=jV LZ) Z) (oR Z (ZB Z Z (v:=jV L2) Z) (oA Z Z (oA Z Z (eN (zH (sR fL8 Z (oM Z vj (oM Z Z (oR Z (ZE Z Z Z) (oM Z Z (ifc qq ?_ ?_))))))))))))
 intro dk JJ
 refine zf Z Z Z (zG Z Z (zt (fun h=>h dk.out))) Z vi (zf Z Z Z (zG Z Z (zt (fun h=>h dk.out))) Z Z (zi Z Z Z (zG Z Z (zt (fun h=>h dk.out))) (fun _=>ZE Z Z Z) (oR Z (zO Z (zt (fun h=>h dk.out)) Z) (eN (ifc JJ ?_ ?_)))))
 intro iY JK
 refine zj (zt (fun h=>h iY.out)) (kN (sR (wDT (.fx 3 (wME (.nil)) .stop)) Z (oL Z (gc.ldBA (j:=2) Z Z o2 ZC zr (vs:=ak) Z Z) (oL Z (gc.ldBA (j:=3) Z Z o3 ZF zw (vs:=dF) Z Z) (oM Z o0 ?_)))))
 have yU:=pH.le bD
 have pN:=yU.le aY
 have yV:=pI.le bD
 have pO:=yV.le aY
 have yW:=pJ.le bD
 have pP:=yW.le aY
 have q:=bnd JK
 obtain ⟨⟨qS,qT⟩,yX,qr⟩:=q
 try dsimp only at qr
 refine zD 0 Z Z Z Z (zE Z Z Tryz.call46 (zB Z (zB Z (zB Z zL))) Z) gc (fun hs=>wJJ (⟨cf,cY,cZ,de,x79,x80⟩:wAA) cm cq (⟨bX,cy⟩:wAB) b9 cd cn cr p5 l6 gA hs pN pO pP yX) (.inr Z) ?_
 rintro lJ MA Px l7 aZ Iq ⟨rfl,rfl⟩
 have jx:sW w U lJ [.blk b6 93 B1,.blk b2 24 B0,.blk aj 24 ak,am,.blk ap 31 au,.blk aq 98 av] l7:=Iq
 refine oM Z Z (oR Z (ZB Z Z (v:=jV qS) Z) (oR Z (ZB Z Z (v:=jV qT) Z) (oA Z Z (oA Z Z (eN (sR (wDT (.fx 3 (wME (.nil)) .stop)) Z (oL Z (jx.ldBA (j:=4) Z Z jf ZU ZP (vs:=au) Z Z) (oL Z (jx.ldBA (j:=5) Z Z jg ZT ZN (vs:=av) Z Z) (oM Z o0 ?_)))))))))
 have yY:=pK.le aY
 have pQ:=yY.le aZ
 have yZ:=pL.le aY
 have pR:=yZ.le aZ
 have y0:=pM.le aY
 have pS:=y0.le aZ
 have q:=bnd qr
 obtain ⟨⟨L4,L7⟩,y4,qt⟩:=q
 try dsimp only at qt
 refine zD 0 Z Z Z Z (zE Z Z Tryz.call47 (zB Z (zB Z (zB Z zL))) Z) jx (fun hs=>wEu (⟨cw,dS,dT,dU,dV,dW⟩:wAD) cB cG (⟨cx,dE⟩:wAC) cC cH cR cU p5 l7 lJ hs pQ pR pS y4) (.inr Z) ?_
 rintro gB MB Py l8 a0 Ir ⟨rfl,rfl⟩
 have ge:sW w U gB [.blk b6 93 B1,.blk b2 24 B0,.blk aj 24 ak,am,.blk ap 31 au,.blk aq 98 av] l8:=Ir
 refine oM Z Z (oR Z (ZB Z Z (v:=jV L4) Z) (oR Z (ZB Z Z (v:=jV L7) Z) (oA Z Z (oA Z Z (eN (zH (sR fL8 Z (oM Z Z (oM Z Z (oR Z (ZE Z Z Z) (oM Z Z (ifc qt ?_ ?_))))))))))))
 intro dl JL
 refine zf Z Z Z (zG Z Z (zt (fun h=>h dl.out))) Z Z (zf Z Z Z (zG Z Z (zt (fun h=>h dl.out))) Z Z (zi Z Z Z (zG Z Z (zt (fun h=>h dl.out))) (fun _=>ZE Z Z Z) (oR Z (zO Z (zt (fun h=>h dl.out)) Z) (eN (ifc JL ?_ ?_)))))
 intro iZ JM
 refine zj (zt (fun h=>h iZ.out)) (kN (zH (CK.fresh fun cj bW=>?_)))
 have vk:cj 2=.slice be p2.length bi:=(bW 2).trans vb
 have vm:cj 3=.slice bg p3.length bj:=(bW 3).trans oX
 have vn:cj 4=.slice bh p4.length bm:=(bW 4).trans oY
 have vo:cj 6=.pointer (some ⟨b2,0,none⟩):=(bW 6).trans vc
 have vp:cj 7=.pointer (some ⟨b6,0,none⟩):=(bW 7).trans vd
 have jh:cj 13=.pointer (some ⟨aj,0,none⟩):=(bW 13).trans o2
 have ji:cj 14=.pointer (some ⟨bI,0,none⟩):=(bW 14).trans o3
 have vq:cj 15=.slice bs bo.length bz:=(bW 15).trans ve
 have vr:cj 16=.slice bt bp.length bA:=(bW 16).trans vg
 have vt:cj 17=.slice bw bq.length bB:=(bW 17).trans vh
 have o4:cj 18=.pointer (some ⟨ap,0,none⟩):=(bW 18).trans jf
 have o5:cj 19=.pointer (some ⟨aq,0,none⟩):=(bW 19).trans jg
 have NI:cj 20=jV qS:=(bW 20).trans rfl
 have NJ:cj 21=jV qT:=(bW 21).trans rfl
 clear bW
 refine rR (.fl 0 (.fl 1 (.fx 2 (wPE (.nil)) .stop))) Z (oL Z (ge.ldBA (j:=2) Z Z jh ZC zr (vs:=ak) Z Z) (oL Z (ge.ldBA (j:=3) Z Z ji ZF zw (vs:=dF) Z Z) ?_))
 have y5:=pN.le aZ
 have pT:=y5.le a0
 have y6:=pO.le aZ
 have pU:=y6.le a0
 have y7:=pP.le aZ
 have pV:=y7.le a0
 have q:=bnd JM
 obtain ⟨⟨fg,qU,jK⟩,y8,qu⟩:=q
 try dsimp only at qu
 refine zD 0 Z Z Z Z (zE Z Z Tryz.call48 (zB Z (zB Z zL)) Z) ge (fun hs=>wFr (⟨cf,cY,cZ,de,x79,x80⟩:wAA) cm cq (⟨bX,cy⟩:wAB) b9 cd cn cr l8 gB hs pT pU pV y8) (.inr Z) ?_
 rintro lK MC Pz l9 ba Is ⟨gw,gU,rfl,rfl⟩
 let iA:Res:=.row gw gU 3 1 (hH KL.encI fg)
 have jy:sW w U lK [iA,.blk b6 93 B1,.blk b2 24 B0,.blk aj 24 ak,am,.blk ap 31 au,.blk aq 98 av] l9:=Is
 refine oM Z Z (oR Z (ZB Z Z (v:=.slice gw fg.length gU) Z) (oR Z (ZB Z Z (v:=jV qU) Z) (oR Z (ZB Z Z (v:=jV jK) Z) (oA Z Z (oA Z Z (oA Z Z (eN (sR (.fl 0 (.fl 1 (.fx 2 (wPE (.nil)) .stop))) Z (oL Z (jy.ldBA (j:=5) Z Z o4 ZU ZP (vs:=au) Z Z) (oL Z (jy.ldBA (j:=6) Z Z o5 ZT ZN (vs:=av) Z Z) ?_))))))))))
 have y9:=pQ.le a0
 have pW:=y9.le ba
 have z4:=pR.le a0
 have pX:=z4.le ba
 have z5:=pS.le a0
 have pY:=z5.le ba
 have q:=bnd qu
 obtain ⟨⟨jL,jM,ip⟩,z6,qv⟩:=q
 try dsimp only at qv
 refine zD 0 Z Z Z Z (zE Z Z Tryz.call49 (zB Z (zB Z zL)) Z) jy (fun hs=>wEv (⟨cw,dS,dT,dU,dV,dW⟩:wAD) cB cG (⟨cx,dE⟩:wAC) cC cH cR cU l9 lK hs pW pX pY z6) (.inr Z) ?_
 rintro lL MD PA mc bb It ⟨it,i0,rfl,rfl,z7⟩
 have jz:sW w U lL [iA,.blk b6 93 B1,.blk b2 24 B0,.blk aj 24 ak,am,.blk ap 31 au,.blk aq 98 av] mc:=It
 refine oM Z Z (oR Z (ZB Z Z (v:=.slice it jL.length i0) Z) (oR Z (ZB Z Z (v:=jV jM) Z) (oR Z (ZB Z Z (v:=jV ip) Z) (oA Z Z (oA Z Z (oA Z Z (eN (sR (.fl 0 (.fl 1 (.fx 2 (wPE (.nil)) .stop))) Z (oL Z (jz.ldBA (j:=3) Z Z jh ZC zr (vs:=ak) Z Z) (oL Z (jz.ldBA (j:=4) Z Z ji ZF zw (vs:=dF) Z Z) ?_))))))))))
 have z8:=pT.le ba
 have jo:=z8.le bb
 have z9:=pU.le ba
 have jp:=z9.le bb
 have Aa:=pV.le ba
 have jq:=Aa.le bb
 have q:=bnd qv
 obtain ⟨⟨ef,eh,qV⟩,Ab,qw⟩:=q
 try dsimp only at qw
 refine zD 0 Z Z Z Z (zE Z Z Tryz.call50 (zB Z (zB Z zL)) Z) jz (fun hs=>wHa (⟨cf,cY,cZ,de,x79,x80⟩:wAA) cm cq (⟨bX,cy⟩:wAB) b9 cd cn cr mc lL hs jo jp jq Ab) (.inr Z) ?_
 rintro fE ME PB iP aR Iu ⟨fu,fU,fw,fV,rfl,rfl⟩
 let cD:Res:=.row fw fV 3 1 (hH KL.encI eh)
 let cS:Res:=.row fu fU 3 1 (hH KL.encI ef)
 have g9:sW w U fE [cS,cD,iA,.blk b6 93 B1,.blk b2 24 B0,.blk aj 24 ak,am,.blk ap 31 au,.blk aq 98 av] iP:=Iu
 refine oM Z Z (oR Z (ZB Z Z (v:=.slice fu ef.length fU) Z) (oR Z (ZB Z Z (v:=.slice fw eh.length fV) Z) (oR Z (ZB Z Z (v:=jV qV) Z) (oA Z Z (oA Z Z (oA Z Z (eN (zH (bnK qw fun sM qD JT=>CK.cut (fun σ_ w_=>∃ (U_:PHeap),σ_ 2=.slice be p2.length bi/\σ_ 3=.slice bg p3.length bj/\σ_ 4=.slice bh p4.length bm/\σ_ 6=.pointer (some ⟨b2,0,none⟩)/\σ_ 7=.pointer (some ⟨b6,0,none⟩)/\σ_ 13=.pointer (some ⟨aj,0,none⟩)/\σ_ 14=.pointer (some ⟨bI,0,none⟩)/\σ_ 15=.slice bs bo.length bz/\σ_ 16=.slice bt bp.length bA/\σ_ 17=.slice bw bq.length bB/\σ_ 18=.pointer (some ⟨ap,0,none⟩)/\σ_ 19=.pointer (some ⟨aq,0,none⟩)/\σ_ 22=jV jM/\σ_ 23=jV ip/\σ_ 26=.slice fu ef.length fU/\σ_ 27=.slice fw eh.length fV/\σ_ 190=.bool sM/\PHeap.Le fE U_/\sW w U U_ [.blk b6 93 B1,.blk b2 24 B0,.blk aj 24 ak,am,.blk ap 31 au,.blk aq 98 av,cS,cD] w_) ?_ ?_)))))))))
 refine CK.fresh fun bG bC=>?_
 have eP:bG 2=.slice be p2.length bi:=(bC 2).trans vk
 have eQ:bG 3=.slice bg p3.length bj:=(bC 3).trans vm
 have eR:bG 4=.slice bh p4.length bm:=(bC 4).trans vn
 have eS:bG 6=.pointer (some ⟨b2,0,none⟩):=(bC 6).trans vo
 have eT:bG 7=.pointer (some ⟨b6,0,none⟩):=(bC 7).trans vp
 have eU:bG 13=.pointer (some ⟨aj,0,none⟩):=(bC 13).trans jh
 have eV:bG 14=.pointer (some ⟨bI,0,none⟩):=(bC 14).trans ji
 have eW:bG 15=.slice bs bo.length bz:=(bC 15).trans vq
 have eX:bG 16=.slice bt bp.length bA:=(bC 16).trans vr
 have eY:bG 17=.slice bw bq.length bB:=(bC 17).trans vt
 have eZ:bG 18=.pointer (some ⟨ap,0,none⟩):=(bC 18).trans o4
 have e9:bG 19=.pointer (some ⟨aq,0,none⟩):=(bC 19).trans o5
 have vu:bG 20=jV qU:=(bC 20).trans rfl
 have vv:bG 21=jV jK:=(bC 21).trans rfl
 have d7:bG 22=jV jM:=(bC 22).trans rfl
 have dB:bG 23=jV ip:=(bC 23).trans rfl
 have vw:bG 24=.slice gw fg.length gU:=(bC 24).trans rfl
 have vx:bG 25=.slice it jL.length i0:=(bC 25).trans rfl
 have d8:bG 26=.slice fu ef.length fU:=(bC 26).trans rfl
 have d9:bG 27=.slice fw eh.length fV:=(bC 27).trans rfl
 have vy:bG 28=jV qV:=(bC 28).trans rfl
 clear bC
 refine rR (wSX (.fx 16 (wRD (.nil)) .stop)) Z (oM Z vv (oM Z dB (oR Z (ZE Z Z Z) (oM Z Z ?_))))
 by_cases cb:jK=ip
 have qx:=qD;rw [if_pos cb] at qx;replace cb:=zM cb
 refine zf Z Z Z (zG Z Z (zt (fun h=>h cb.out))) Z vy (zf Z Z Z (zG Z Z (zt (fun h=>h cb.out))) Z dB (zi Z Z Z (zG Z Z (zt (fun h=>h cb.out))) (fun _=>ZE Z Z Z) (oR Z (zO Z (zt (fun h=>h cb.out)) Z) (oM Z Z (ifc qx ?_ ?_)))))
 intro dm JV
 refine zf Z Z Z (zG Z Z (zt (fun h=>h dm.out))) Z vu (zf Z Z Z (zG Z Z (zt (fun h=>h dm.out))) Z d7 (zi Z Z Z (zG Z Z (zt (fun h=>h dm.out))) (fun _=>ZE Z Z Z) (oR Z (zO Z (zt (fun h=>h dm.out)) Z) (oM Z Z (ifc JV ?_ ?_)))))
 intro cE JW
 refine zf Z Z Z (zG Z Z (zt (fun h=>h cE.out))) Z vw (zf Z Z Z (zG Z Z (zt (fun h=>h cE.out))) Z vx ?_)
 have q:=g9.freezeR (k:=2) (n:=fg.length) rfl (wAH (f:=KL.encI) (sz:=1) (fun _=>rfl) fg) (by decide)
 obtain ⟨lM,ij,Lc,Iv⟩:=q
 have Iw:sW w U lM [cS,cD,.blk b6 93 B1,.blk b2 24 B0,.blk aj 24 ak,am,.blk ap 31 au,.blk aq 98 av] iP:=Iv
 have Ac:=z7.le aR
 have Ae:=Ac.le ij
 refine bnK JW fun Qa Af JX=>zD 0 Z Z Z (zG Z Z (zt (fun h=>h cE.out))) (zE Z Z Zn (zB Z (zB Z zL)) Z) Iw (fun hs=>wAP fg gw gU jL it i0 iP lM hs Lc Ae Af) (.inr Z) ?_
 rintro gC MF PC r8 jJ Ix ⟨rfl,rfl⟩
 have jA:sW w U gC [cS,cD,.blk b6 93 B1,.blk b2 24 B0,.blk aj 24 ak,am,.blk ap 31 au,.blk aq 98 av] r8:=Ix
 refine zi Z Z Z (zG Z Z (zt (fun h=>h cE.out))) (fun _=>ZR Z Z) (oR Z (zO Z (zt (fun h=>h cE.out)) Z) (oM Z Z (ifc JX ?_ ?_)))
 intro cp JY
 refine zf Z Z Z (zG Z Z (nC cp.out)) Z dB (zi Z Z Z (zG Z Z (nC cp.out)) (fun _=>ZE Z Z Z) (zf Z Z Z (zG Z Z (nC cp.out)) Z Z (ifc JY ?_ ?_)))
 intro bV JZ
 refine zV Z Z Z (zF Z Z (zt (fun h=>h bV.out)) Z) (zV Z Z Z (zF Z Z (zt (fun h=>h bV.out)) Z) (zV Z Z Z (zF Z Z (zt (fun h=>h bV.out)) Z) (zV Z Z Z (zF Z Z (zt (fun h=>h bV.out)) Z) (zV Z Z Z (zF Z Z (zt (fun h=>h bV.out)) Z) (zV Z Z Z (zF Z Z (zt (fun h=>h bV.out)) Z) (zi Z Z Z (zG Z Z (nC cp.out)) (fun _=>zO Z (zt (fun h=>h bV.out)) Z) (oR Z (zO Z (nC cp.out) Z) (zu ?_))))))))
 cases JZ
 exact zK ⟨rfl,⟨gC,eP,eQ,eR,eS,eT,eU,eV,eW,eX,eY,eZ,e9,d7,dB,d8,d9,rfl,(ij.trans jJ),(jA.pick [2,3,4,5,6,7,0,1] _ (by decide) rfl)⟩⟩
 intro bV J3
 refine zf Z Z Z (wT Z bV) Z d8 (rU Z (wT Z bV) (zU Z Z zA) (zf Z Z Z (wT Z bV) Z d9 (rU Z (wT Z bV) (zU Z Z zA) (rU Z (wT Z bV) (zm Z Z Z) (rU Z (wT Z bV) (Zh Z Z Z) (zi Z Z Z (zG Z Z (nC cp.out)) (fun _=>zQ Z (Zi bV.out) Z) (oR Z (zO Z (nC cp.out) Z) (zu ?_))))))))
 have q:=nD J3
 obtain rfl:=q
 exact zK ⟨rfl,⟨gC,eP,eQ,eR,eS,eT,eU,eV,eW,eX,eY,eZ,e9,d7,dB,d8,d9,rfl,(ij.trans jJ),(jA.pick [2,3,4,5,6,7,0,1] _ (by decide) rfl)⟩⟩
 intro cp J4
 refine zV Z Z Z (zF Z Z (nF (cp.out)) Z) (zV Z Z Z (zF Z Z (nF (cp.out)) Z) (zV Z Z Z (zF Z Z (nF (cp.out)) Z) (zV Z Z Z (wAu Z Z Z) (zV Z Z Z (wAu Z Z Z) (zV Z Z Z (wAu Z Z Z) (zV Z Z Z (wAu Z Z Z) (zV Z Z Z (wAu Z Z Z) (zV Z Z Z (wAu Z Z Z) (zV Z Z Z (zF Z Z (nF (cp.out)) Z) (oR Z (zQ Z (nF (cp.out)) Z) (zu ?_)))))))))))
 cases J4
 exact zK ⟨rfl,⟨gC,eP,eQ,eR,eS,eT,eU,eV,eW,eX,eY,eZ,e9,d7,dB,d8,d9,rfl,(ij.trans jJ),(jA.pick [2,3,4,5,6,7,0,1] _ (by decide) rfl)⟩⟩
 intro cE J5
 refine oT Z cE (oT Z cE (ZA Z Z Z (zF Z Z (Zi cE.out) Z) (oT Z cE (oR Z (zQ Z (Zi cE.out) Z) (oM Z Z (oN Z (oN Z (oN Z (zV Z Z Z (wAu Z Z Z) (zV Z Z Z (wAu Z Z Z) (zV Z Z Z (wAu Z Z Z) (zV Z Z Z (wAu Z Z Z) (zV Z Z Z (wAu Z Z Z) (zV Z Z Z (wAu Z Z Z) (oN Z (oR Z (zQ Z Z Z) (zu ?_)))))))))))))))))
 cases J5
 exact zK ⟨rfl,⟨fE,eP,eQ,eR,eS,eT,eU,eV,eW,eX,eY,eZ,e9,d7,dB,d8,d9,rfl,(zX _),(g9.pick [3,4,5,6,7,8,0,1] _ (by decide) rfl)⟩⟩
 intro dm J6
 refine oT Z dm (oT Z dm (oT Z dm (oR Z (zQ Z (Zi dm.out) Z) (oM Z Z (oN Z (oN Z (ZA Z Z Z (zF Z Z Z Z) (oN Z (oR Z (zQ Z Z Z) (oM Z Z (oN Z (oN Z (oN Z (zV Z Z Z (wAu Z Z Z) (zV Z Z Z (wAu Z Z Z) (zV Z Z Z (wAu Z Z Z) (zV Z Z Z (wAu Z Z Z) (zV Z Z Z (wAu Z Z Z) (zV Z Z Z (wAu Z Z Z) (oN Z (oR Z (zQ Z Z Z) (zu ?_))))))))))))))))))))))
 cases J6
 exact zK ⟨rfl,⟨fE,eP,eQ,eR,eS,eT,eU,eV,eW,eX,eY,eZ,e9,d7,dB,d8,d9,rfl,(zX _),(g9.pick [3,4,5,6,7,8,0,1] _ (by decide) rfl)⟩⟩
 have qy:=qD;rw [if_neg cb] at qy;replace cb:=zM cb
 refine oT Z cb (oT Z cb (oT Z cb (oR Z (zQ Z (Zi cb.out) Z) (oM Z Z (oN Z (oN Z (oN Z (oR Z (zQ Z Z Z) (oM Z Z (oN Z (oN Z (ZA Z Z Z (zF Z Z Z Z) (oN Z (oR Z (zQ Z Z Z) (oM Z Z (oN Z (oN Z (oN Z (zV Z Z Z (wAu Z Z Z) (zV Z Z Z (wAu Z Z Z) (zV Z Z Z (wAu Z Z Z) (zV Z Z Z (wAu Z Z Z) (zV Z Z Z (wAu Z Z Z) (zV Z Z Z (wAu Z Z Z) (oN Z (oR Z (zQ Z Z Z) (zu ?_)))))))))))))))))))))))))))
 cases qy
 exact zK ⟨rfl,⟨fE,eP,eQ,eR,eS,eT,eU,eV,eW,eX,eY,eZ,e9,d7,dB,d8,d9,rfl,(zX _),(g9.pick [3,4,5,6,7,8,0,1] _ (by decide) rfl)⟩⟩
 rintro QB gH ⟨lN,o6,o7,o8,o9,pa,pb,pe,pf,pg,pi,vz,vA,vB,vC,vD,vE,pj,aT,ed⟩
 refine ifc JT ?_ ?_
 intro i4 J7
 refine zp (pj.trans (congrArg nA i4.out)) (sR fL1 Z (oA Z Z (eN (zI (zJ ?_)))))
 have hE:=nD J7;first | subst r | cases hE
 exact ⟨rfl,_,(zk rfl),lN,_,(ed.pick [] _ (by decide) rfl),rfl,rfl⟩
 intro i4 J8
 refine zj (pj.trans (congrArg nA (nB.2 i4.out))) (kN (zH (sR fL2 Z (oM Z vC (oR Z (Zo Z Z Z) (eN (ifc J8 ?_ ?_)))))))
 intro i5 J9
 refine cT Z i5 (sR (wHf (.fx 4 (wON (.nil)) .stop)) Z (oL Z (ed.ldBA (j:=4) Z Z vz ZU ZP (vs:=au) Z Z) (oL Z (ed.ldBA (j:=5) Z Z vA ZT ZN (vs:=av) Z Z) (oM Z vD (oM Z vE ?_)))))
 have q:=ed.freezeR (k:=6) (n:=ef.length) rfl (wAH (f:=KL.encI) (sz:=1) (fun _=>rfl) ef) (by decide)
 obtain ⟨rA,b5,Ld,Iy⟩:=q
 have Iz:sW w U rA [.blk b6 93 B1,.blk b2 24 B0,.blk aj 24 ak,am,.blk ap 31 au,.blk aq 98 av,cD] gH:=Iy
 have q:=Iz.freezeR (k:=6) (n:=eh.length) rfl (wAH (f:=KL.encI) (sz:=1) (fun _=>rfl) eh) (by decide)
 obtain ⟨lO,bR,Lf,IA⟩:=q
 have IB:sW w U lO [.blk b6 93 B1,.blk b2 24 B0,.blk aj 24 ak,am,.blk ap 31 au,.blk aq 98 av] gH:=IA
 have Ag:=pW.le bb
 have Ah:=Ag.le aR
 have Ai:=Ah.le aT
 have Aj:=Ai.le b5
 have Ak:=Aj.le bR
 have Al:=pX.le bb
 have Am:=Al.le aR
 have An:=Am.le aT
 have Ao:=An.le b5
 have Ap:=Ao.le bR
 have Aq:=pY.le bb
 have Ar:=Aq.le aR
 have As:=Ar.le aT
 have Au:=As.le b5
 have Av:=Au.le bR
 have Aw:=Ld.le bR
 have q:=bnd J9
 obtain ⟨⟨L8,Ma⟩,Ay,qz⟩:=q
 try dsimp only at qz
 refine zD 0 Z Z Z Z (zE Z Z Tryz.call45 (zB Z (zB Z (zB Z (zB Z zL)))) Z) IB (fun hs=>wCx (⟨cw,dS,dT,dU,dV,dW⟩:wAD) cB cG (⟨cx,dE⟩:wAC) cC cH cR cU ef fu fU eh fw fV gH lO hs Ak Ap Av Aw Lf Ay) (.inr Z) ?_
 rintro gD MG PD md cA IC ⟨rfl,rfl⟩
 have gf:sW w U gD [.blk b6 93 B1,.blk b2 24 B0,.blk aj 24 ak,am,.blk ap 31 au,.blk aq 98 av] md:=IC
 refine oM Z Z (oR Z (ZB Z Z (v:=jV L8) Z) (oR Z (ZB Z Z (v:=jV Ma) Z) (oA Z Z (oA Z Z (eN (sR fL7 Z (oM Z Z (oR Z (ZE Z Z Z) (oM Z Z (ifc qz ?_ ?_))))))))))
 intro dp Ka
 refine zf Z Z Z (zG Z Z (zt (fun h=>h dp.out))) Z Z (zf Z Z Z (zG Z Z (zt (fun h=>h dp.out))) Z vB (zi Z Z Z (zG Z Z (zt (fun h=>h dp.out))) (fun _=>ZE Z Z Z) (oR Z (zO Z (zt (fun h=>h dp.out)) Z) (eN (ifc Ka ?_ ?_)))))
 intro i6 Kb
 refine zj (zt (fun h=>h i6.out)) (kN (zH (CK.fresh fun df cI=>?_)))
 have vG:df 2=.slice be p2.length bi:=(cI 2).trans o6
 have vH:df 3=.slice bg p3.length bj:=(cI 3).trans o7
 have vJ:df 4=.slice bh p4.length bm:=(cI 4).trans o8
 have vK:df 6=.pointer (some ⟨b2,0,none⟩):=(cI 6).trans o9
 have vL:df 7=.pointer (some ⟨b6,0,none⟩):=(cI 7).trans pa
 have vM:df 13=.pointer (some ⟨aj,0,none⟩):=(cI 13).trans pb
 have vN:df 14=.pointer (some ⟨bI,0,none⟩):=(cI 14).trans pe
 have vO:df 15=.slice bs bo.length bz:=(cI 15).trans pf
 have vP:df 16=.slice bt bp.length bA:=(cI 16).trans pg
 have vQ:df 17=.slice bw bq.length bB:=(cI 17).trans pi
 clear cI
 refine rR (.fl 0 (.fl 1 (.fx 2 (wRB (.fx 6 (wOO (.fx 11 (wKX (.fx 16 (wKY gBq) .stop)) .stop)) .stop)) .stop))) Z (oL Z (gf.ldBA (j:=2) Z Z vM ZC zr (vs:=ak) Z Z) (oL Z (gf.ldBA (j:=1) Z Z vK ZC zr (vs:=B0) Z Z) ?_))
 have Az:=jo.le aR
 have AA:=Az.le aT
 have AD:=AA.le b5
 have AE:=AD.le bR
 have AG:=AE.le cA
 have AJ:=dP.le aS
 have AL:=AJ.le bF
 have AM:=AL.le cV
 have AN:=AM.le cJ
 have AP:=AN.le cz
 have AQ:=AP.le ct
 have AS:=AQ.le cu
 have AT:=AS.le cg
 have AU:=AT.le bY
 have AW:=AU.le bZ
 have AX:=AW.le bO
 have AY:=AX.le bL
 have AZ:=AY.le bM
 have A5:=AZ.le bJ
 have A6:=A5.le bD
 have A8:=A6.le aY
 have A9:=A8.le aZ
 have Ba:=A9.le a0
 have Bb:=Ba.le ba
 have Bc:=Bb.le bb
 have Bd:=Bc.le aR
 have Be:=Bd.le aT
 have Bf:=Be.le b5
 have Bg:=Bf.le bR
 have Bh:=Bg.le cA
 refine bnK Kb fun Qb Bi Kc=>zD 0 Z Z Z Z (zE Z Z Tryz.call52 (zB Z (zB Z zL)) Z) gf (fun hs=>wCb (⟨cf,cY,cZ,de,x79,x80⟩:wAA) cm cq p0 cK cN md gD hs AG Bh Bi) (.inr Z) ?_
 rintro iD MH PF mf cW ID ⟨rfl,rfl⟩
 have ic:sW w U iD [.blk b6 93 B1,.blk b2 24 B0,.blk aj 24 ak,am,.blk ap 31 au,.blk aq 98 av] mf:=ID
 refine oM Z Z (ifc Kc ?_ ?_)
 intro dq Kd
 refine zz Z Z Z (zG Z Z (congrArg nA dq.out)) (ic.ldBA (j:=3) Z Z vN ZF zw (vs:=dF) Z Z) Z (zz Z Z Z (zG Z Z (congrArg nA dq.out)) (ic.ldBA (j:=0) Z Z vL ZF zw (vs:=B1) Z Z) Z ?_)
 have Bj:=jp.le aR
 have Bk:=Bj.le aT
 have Bl:=Bk.le b5
 have Bm:=Bl.le bR
 have Bn:=Bm.le cA
 have Bo:=Bn.le cW
 have Bp:=jq.le aR
 have Bq:=Bp.le aT
 have Br:=Bq.le b5
 have Bs:=Br.le bR
 have Bt:=Bs.le cA
 have Bu:=Bt.le cW
 have Bv:=dQ.le aS
 have Bw:=Bv.le bF
 have Bx:=Bw.le cV
 have By:=Bx.le cJ
 have Bz:=By.le cz
 have BA:=Bz.le ct
 have BB:=BA.le cu
 have BC:=BB.le cg
 have BD:=BC.le bY
 have BE:=BD.le bZ
 have BF:=BE.le bO
 have BG:=BF.le bL
 have BH:=BG.le bM
 have BI:=BH.le bJ
 have BJ:=BI.le bD
 have BK:=BJ.le aY
 have BL:=BK.le aZ
 have BM:=BL.le a0
 have BN:=BM.le ba
 have BO:=BN.le bb
 have BP:=BO.le aR
 have BQ:=BP.le aT
 have BR:=BQ.le b5
 have BS:=BR.le bR
 have BT:=BS.le cA
 have BU:=BT.le cW
 have BV:=dR.le aS
 have BW:=BV.le bF
 have BX:=BW.le cV
 have BY:=BX.le cJ
 have BZ:=BY.le cz
 have Ca:=BZ.le ct
 have Cb:=Ca.le cu
 have Cc:=Cb.le cg
 have Cd:=Cc.le bY
 have Ce:=Cd.le bZ
 have Cf:=Ce.le bO
 have Cg:=Cf.le bL
 have Ch:=Cg.le bM
 have Ci:=Ch.le bJ
 have Cj:=Ci.le bD
 have Ck:=Cj.le aY
 have Cm:=Ck.le aZ
 have Cn:=Cm.le a0
 have Co:=Cn.le ba
 have Cp:=Co.le bb
 have Cq:=Cp.le aR
 have Cr:=Cq.le aT
 have Cs:=Cr.le b5
 have Ct:=Cs.le bR
 have Cu:=Ct.le cA
 have Cv:=Cu.le cW
 refine bnK Kd fun Qc Cw Kf=>zD 0 Z Z Z (zG Z Z (congrArg nA dq.out)) (zE Z Z Tryz.call53 (zB Z (zB Z zL)) Z) ic (fun hs=>wCc (⟨bX,cy⟩:wAB) b9 cd cn cr p1 cL cO cM cP mf iD hs Bo Bu BU Cv Cw) (.inr Z) ?_
 rintro iE MI PG mg fe IE ⟨rfl,rfl⟩
 have qb:sW w U iE [.blk b6 93 B1,.blk b2 24 B0,.blk aj 24 ak,am,.blk ap 31 au,.blk aq 98 av] mg:=IE
 refine oR Z (zQ Z (congrArg nA dq.out) Z) (oM Z Z (ifc Kf ?_ ?_))
 intro dr Kg
 refine zf Z Z Z (zG Z Z (congrArg nA dr.out)) Z vO (zf Z Z Z (zG Z Z (congrArg nA dr.out)) Z vG ?_)
 have Cx:=jC.le bO
 have Cy:=Cx.le bL
 have Cz:=Cy.le bM
 have CA:=Cz.le bJ
 have CB:=CA.le bD
 have CD:=CB.le aY
 have CE:=CD.le aZ
 have CF:=CE.le a0
 have CG:=CF.le ba
 have CH:=CG.le bb
 have CI:=CH.le aR
 have CJ:=CI.le aT
 have CL:=CJ.le b5
 have CM:=CL.le bR
 have CN:=CM.le cA
 have CO:=CN.le cW
 have CP:=CO.le fe
 have CQ:=jj.le bL
 have CR:=CQ.le bM
 have CT:=CR.le bJ
 have CU:=CT.le bD
 have CV:=CU.le aY
 have CW:=CV.le aZ
 have CX:=CW.le a0
 have CY:=CX.le ba
 have CZ:=CY.le bb
 have C0:=CZ.le aR
 have C1:=C0.le aT
 have C2:=C1.le b5
 have C3:=C2.le bR
 have C4:=C3.le cA
 have C5:=C4.le cW
 have C6:=C5.le fe
 refine bnK Kg fun Qd C7 Kh=>zD 0 Z Z Z (zG Z Z (congrArg nA dr.out)) (zE Z Z Zn (zB Z (zB Z zL)) Z) qb (fun hs=>wAP bo bs bz p2 be bi mg iE hs CP C6 C7) (.inr Z) ?_
 rintro iF MJ PH mh ik IF ⟨rfl,rfl⟩
 have qc:sW w U iF [.blk b6 93 B1,.blk b2 24 B0,.blk aj 24 ak,am,.blk ap 31 au,.blk aq 98 av] mh:=IF
 refine oR Z (zQ Z (congrArg nA dr.out) Z) (oM Z Z (ifc Kh ?_ ?_))
 intro dt Ki
 refine zf Z Z Z (zG Z Z (congrArg nA dt.out)) Z vP (zf Z Z Z (zG Z Z (congrArg nA dt.out)) Z vH ?_)
 have C8:=jk.le bD
 have C9:=C8.le aY
 have Da:=C9.le aZ
 have Db:=Da.le a0
 have Dc:=Db.le ba
 have Dd:=Dc.le bb
 have De:=Dd.le aR
 have Df:=De.le aT
 have Dg:=Df.le b5
 have Dh:=Dg.le bR
 have Di:=Dh.le cA
 have Dj:=Di.le cW
 have Dk:=Dj.le fe
 have Dl:=Dk.le ik
 have Dm:=jl.le aY
 have Dn:=Dm.le aZ
 have Do:=Dn.le a0
 have Dp:=Do.le ba
 have Dq:=Dp.le bb
 have Dr:=Dq.le aR
 have Ds:=Dr.le aT
 have Dt:=Ds.le b5
 have Du:=Dt.le bR
 have Dv:=Du.le cA
 have Dw:=Dv.le cW
 have Dx:=Dw.le fe
 have Dy:=Dx.le ik
 refine bnK Ki fun Qe Dz Kj=>zD 0 Z Z Z (zG Z Z (congrArg nA dt.out)) (zE Z Z Zn (zB Z (zB Z zL)) Z) qc (fun hs=>wAP bp bt bA p3 bg bj mh iF hs Dl Dy Dz) (.inr Z) ?_
 rintro iG MK PI mi qL IG ⟨rfl,rfl⟩
 have qd:sW w U iG [.blk b6 93 B1,.blk b2 24 B0,.blk aj 24 ak,am,.blk ap 31 au,.blk aq 98 av] mi:=IG
 refine oR Z (zQ Z (congrArg nA dt.out) Z) (oM Z Z (ifc Kj ?_ ?_))
 intro du Kk
 refine zf Z Z Z (zG Z Z (congrArg nA du.out)) Z vQ (zf Z Z Z (zG Z Z (congrArg nA du.out)) Z vJ ?_)
 have DA:=jD.le bD
 have DB:=DA.le aY
 have DC:=DB.le aZ
 have DE:=DC.le a0
 have DF:=DE.le ba
 have DG:=DF.le bb
 have DH:=DG.le aR
 have DI:=DH.le aT
 have DJ:=DI.le b5
 have DK:=DJ.le bR
 have DL:=DK.le cA
 have DM:=DL.le cW
 have DN:=DM.le fe
 have DO:=DN.le ik
 have DP:=DO.le qL
 have DQ:=jm.le aY
 have DR:=DQ.le aZ
 have DS:=DR.le a0
 have DT:=DS.le ba
 have DU:=DT.le bb
 have DV:=DU.le aR
 have DW:=DV.le aT
 have DX:=DW.le b5
 have DY:=DX.le bR
 have DZ:=DY.le cA
 have D0:=DZ.le cW
 have D5:=D0.le fe
 have D6:=D5.le ik
 have D7:=D6.le qL
 refine bnK Kk fun Qf D8 Kl=>zD 0 Z Z Z (zG Z Z (congrArg nA du.out)) (zE Z Z Zn (zB Z (zB Z zL)) Z) qd (fun hs=>wAP bq bw bB p4 bh bm mi iG hs DP D7 D8) (.inr Z) ?_
 rintro iH ML PJ mj O6 II ⟨rfl,rfl⟩
 have qe:sW w U iH [.blk b6 93 B1,.blk b2 24 B0,.blk aj 24 ak,am,.blk ap 31 au,.blk aq 98 av] mj:=II
 refine oR Z (zQ Z (congrArg nA du.out) Z) (oM Z Z (ifc Kl ?_ ?_))
 intro fW Km
 refine bnK Km fun Qg D9 Ko=>zD 0 Z Z Z (zG Z Z (congrArg nA fW.out)) (zE Z Z Tryz.call13 zL Z) qe (fun hs=>wBR mj iH hs D9) (.inr Z) ?_
 rintro lQ MM PK r9 O7 IJ ⟨rfl,rfl⟩
 have IK:sW w U lQ [.blk b6 93 B1,.blk b2 24 B0,.blk aj 24 ak,am,.blk ap 31 au,.blk aq 98 av] r9:=IJ
 refine oR Z (zQ Z (congrArg nA fW.out) Z) (oA Z Z (eN (zI ?_)))
 have hE:=nD Ko;first | subst r | cases hE
 exact ⟨rfl,_,(zk rfl),lQ,_,(IK.pick [] _ (by decide) rfl),rfl,rfl⟩
 intro fW Kp
 refine ZA Z Z Z (zF Z Z (congrArg nA (nB.2 fW.out)) Z) (oR Z (zO Z (congrArg nA (nB.2 fW.out)) Z) (oA Z Z (eN (zI ?_))))
 have hE:=nD Kp;first | subst r | cases hE
 exact ⟨rfl,_,(zk rfl),iH,_,(qe.pick [] _ (by decide) rfl),rfl,rfl⟩
 intro du Kq
 refine zV Z Z Z (zF Z Z (congrArg nA (nB.2 du.out)) Z) (zV Z Z Z (zF Z Z (congrArg nA (nB.2 du.out)) Z) (ZA Z Z Z (zF Z Z (congrArg nA (nB.2 du.out)) Z) (oR Z (zO Z (congrArg nA (nB.2 du.out)) Z) (oM Z Z (ZA Z Z Z (zF Z Z Z Z) (oR Z (zO Z Z Z) (oA Z Z (eN (zI ?_)))))))))
 have hE:=nD Kq;first | subst r | cases hE
 exact ⟨rfl,_,(zk rfl),iG,_,(qd.pick [] _ (by decide) rfl),rfl,rfl⟩
 intro dt Kr
 refine zV Z Z Z (zF Z Z (congrArg nA (nB.2 dt.out)) Z) (zV Z Z Z (zF Z Z (congrArg nA (nB.2 dt.out)) Z) (ZA Z Z Z (zF Z Z (congrArg nA (nB.2 dt.out)) Z) (oR Z (zO Z (congrArg nA (nB.2 dt.out)) Z) (oM Z Z (oN Z (oN Z (ZA Z Z Z (zF Z Z Z Z) (oR Z (zO Z Z Z) (oM Z Z (ZA Z Z Z (zF Z Z Z Z) (oR Z (zO Z Z Z) (oA Z Z (eN (zI ?_))))))))))))))
 have hE:=nD Kr;first | subst r | cases hE
 exact ⟨rfl,_,(zk rfl),iF,_,(qc.pick [] _ (by decide) rfl),rfl,rfl⟩
 intro dr Ks
 refine zV Z Z Z (zF Z Z (congrArg nA (nB.2 dr.out)) Z) (zV Z Z Z (zF Z Z (congrArg nA (nB.2 dr.out)) Z) (ZA Z Z Z (zF Z Z (congrArg nA (nB.2 dr.out)) Z) (oR Z (zO Z (congrArg nA (nB.2 dr.out)) Z) (oM Z Z (oN Z (oN Z (ZA Z Z Z (zF Z Z Z Z) (oR Z (zO Z Z Z) (oM Z Z (oN Z (oN Z (ZA Z Z Z (zF Z Z Z Z) (oR Z (zO Z Z Z) (oM Z Z (ZA Z Z Z (zF Z Z Z Z) (oR Z (zO Z Z Z) (oA Z Z (eN (zI ?_)))))))))))))))))))
 have hE:=nD Ks;first | subst r | cases hE
 exact ⟨rfl,_,(zk rfl),iE,_,(qb.pick [] _ (by decide) rfl),rfl,rfl⟩
 intro dq Kt
 refine zV Z Z Z (zF Z Z (congrArg nA (nB.2 dq.out)) Z) (zV Z Z Z (zF Z Z (congrArg nA (nB.2 dq.out)) Z) (ZA Z Z Z (zF Z Z (congrArg nA (nB.2 dq.out)) Z) (oR Z (zO Z (congrArg nA (nB.2 dq.out)) Z) (oM Z Z (oN Z (oN Z (ZA Z Z Z (zF Z Z Z Z) (oR Z (zO Z Z Z) (oM Z Z (oN Z (oN Z (ZA Z Z Z (zF Z Z Z Z) (oR Z (zO Z Z Z) (oM Z Z (oN Z (oN Z (ZA Z Z Z (zF Z Z Z Z) (oR Z (zO Z Z Z) (oM Z Z (ZA Z Z Z (zF Z Z Z Z) (oR Z (zO Z Z Z) (oA Z Z (eN (zI ?_))))))))))))))))))))))))
 have hE:=nD Kt;first | subst r | cases hE
 exact ⟨rfl,_,(zk rfl),iD,_,(ic.pick [] _ (by decide) rfl),rfl,rfl⟩
 intro i6 Ku
 refine cT Z i6 (sR fL1 Z (oA Z Z (eN (zI (zJ ?_)))))
 have hE:=nD Ku;first | subst r | cases hE
 exact ⟨rfl,_,(zk rfl),gD,_,(gf.pick [] _ (by decide) rfl),rfl,rfl⟩
 intro dp Kv
 refine oT Z dp (oT Z dp (oT Z dp (oR Z (zQ Z (Zi dp.out) Z) (eN (zp Z (sR fL1 Z (oA Z Z (eN (zI (zJ ?_))))))))))
 have hE:=nD Kv;first | subst r | cases hE
 exact ⟨rfl,_,(zk rfl),gD,_,(gf.pick [] _ (by decide) rfl),rfl,rfl⟩
 intro i5 Kw
 refine cF Z i5 (kN (sR (.fl 0 (.fl 1 (.fx 2 (wRB (.fx 6 (wOO (.fx 11 (wKX (.fx 16 (wKY gBq) .stop)) .stop)) .stop)) .stop))) Z (oL Z (ed.ldBA (j:=2) Z Z pb ZC zr (vs:=ak) Z Z) (oL Z (ed.ldBA (j:=1) Z Z o9 ZC zr (vs:=B0) Z Z) ?_))))
 have Ea:=jo.le aR
 have Eb:=Ea.le aT
 have Ec:=dP.le aS
 have Ed:=Ec.le bF
 have Ee:=Ed.le cV
 have Ef:=Ee.le cJ
 have Eg:=Ef.le cz
 have Eh:=Eg.le ct
 have Ei:=Eh.le cu
 have Ej:=Ei.le cg
 have Ek:=Ej.le bY
 have El:=Ek.le bZ
 have Em:=El.le bO
 have En:=Em.le bL
 have Eo:=En.le bM
 have Ep:=Eo.le bJ
 have Er:=Ep.le bD
 have Es:=Er.le aY
 have Et:=Es.le aZ
 have Eu:=Et.le a0
 have Ev:=Eu.le ba
 have Ew:=Ev.le bb
 have Ey:=Ew.le aR
 have Ez:=Ey.le aT
 refine bnK Kw fun Qh EA Kx=>zD 0 Z Z Z Z (zE Z Z Tryz.call52 (zB Z (zB Z zL)) Z) ed (fun hs=>wCb (⟨cf,cY,cZ,de,x79,x80⟩:wAA) cm cq p0 cK cN gH lN hs Eb Ez EA) (.inr Z) ?_
 rintro iI MN PL ml cX IL ⟨rfl,rfl⟩
 have ie:sW w U iI [.blk b6 93 B1,.blk b2 24 B0,.blk aj 24 ak,am,.blk ap 31 au,.blk aq 98 av,cS,cD] ml:=IL
 refine oM Z Z (ifc Kx ?_ ?_)
 intro dv Ky
 refine zz Z Z Z (zG Z Z (congrArg nA dv.out)) (ie.ldBA (j:=3) Z Z pe ZF zw (vs:=dF) Z Z) Z (zz Z Z Z (zG Z Z (congrArg nA dv.out)) (ie.ldBA (j:=0) Z Z pa ZF zw (vs:=B1) Z Z) Z ?_)
 have EB:=jp.le aR
 have EC:=EB.le aT
 have ED:=EC.le cX
 have EE:=jq.le aR
 have EF:=EE.le aT
 have EG:=EF.le cX
 have EH:=dQ.le aS
 have EI:=EH.le bF
 have EJ:=EI.le cV
 have EK:=EJ.le cJ
 have EL:=EK.le cz
 have EM:=EL.le ct
 have EN:=EM.le cu
 have EO:=EN.le cg
 have EP:=EO.le bY
 have EQ:=EP.le bZ
 have ER:=EQ.le bO
 have ES:=ER.le bL
 have ET:=ES.le bM
 have EU:=ET.le bJ
 have EV:=EU.le bD
 have EW:=EV.le aY
 have EX:=EW.le aZ
 have EY:=EX.le a0
 have EZ:=EY.le ba
 have E1:=EZ.le bb
 have E2:=E1.le aR
 have E3:=E2.le aT
 have E4:=E3.le cX
 have E5:=dR.le aS
 have E6:=E5.le bF
 have E7:=E6.le cV
 have E8:=E7.le cJ
 have E9:=E8.le cz
 have Fa:=E9.le ct
 have Fb:=Fa.le cu
 have Fc:=Fb.le cg
 have Fd:=Fc.le bY
 have Fe:=Fd.le bZ
 have Ff:=Fe.le bO
 have Fg:=Ff.le bL
 have Fh:=Fg.le bM
 have Fi:=Fh.le bJ
 have Fj:=Fi.le bD
 have Fk:=Fj.le aY
 have Fm:=Fk.le aZ
 have Fo:=Fm.le a0
 have Fp:=Fo.le ba
 have Fq:=Fp.le bb
 have Fs:=Fq.le aR
 have Ft:=Fs.le aT
 have Fu:=Ft.le cX
 refine bnK Ky fun Qi Fv Kz=>zD 0 Z Z Z (zG Z Z (congrArg nA dv.out)) (zE Z Z Tryz.call53 (zB Z (zB Z zL)) Z) ie (fun hs=>wCc (⟨bX,cy⟩:wAB) b9 cd cn cr p1 cL cO cM cP ml iI hs ED EG E4 Fu Fv) (.inr Z) ?_
 rintro iJ MP PM mn ff IM ⟨rfl,rfl⟩
 have qf:sW w U iJ [.blk b6 93 B1,.blk b2 24 B0,.blk aj 24 ak,am,.blk ap 31 au,.blk aq 98 av,cS,cD] mn:=IM
 refine oR Z (zQ Z (congrArg nA dv.out) Z) (oM Z Z (ifc Kz ?_ ?_))
 intro dw KA
 refine zf Z Z Z (zG Z Z (congrArg nA dw.out)) Z pf (zf Z Z Z (zG Z Z (congrArg nA dw.out)) Z o6 ?_)
 have Fw:=jC.le bO
 have Fx:=Fw.le bL
 have Fy:=Fx.le bM
 have Fz:=Fy.le bJ
 have FA:=Fz.le bD
 have FB:=FA.le aY
 have FC:=FB.le aZ
 have FD:=FC.le a0
 have FF:=FD.le ba
 have FG:=FF.le bb
 have FH:=FG.le aR
 have FI:=FH.le aT
 have FJ:=FI.le cX
 have FK:=FJ.le ff
 have FL:=jj.le bL
 have FM:=FL.le bM
 have FN:=FM.le bJ
 have FO:=FN.le bD
 have FP:=FO.le aY
 have FQ:=FP.le aZ
 have FR:=FQ.le a0
 have FS:=FR.le ba
 have FT:=FS.le bb
 have FU:=FT.le aR
 have FV:=FU.le aT
 have FW:=FV.le cX
 have FX:=FW.le ff
 refine bnK KA fun Qj FZ KB=>zD 0 Z Z Z (zG Z Z (congrArg nA dw.out)) (zE Z Z Zn (zB Z (zB Z zL)) Z) qf (fun hs=>wAP bo bs bz p2 be bi mn iJ hs FK FX FZ) (.inr Z) ?_
 rintro iK MQ PN mo il IN ⟨rfl,rfl⟩
 have qg:sW w U iK [.blk b6 93 B1,.blk b2 24 B0,.blk aj 24 ak,am,.blk ap 31 au,.blk aq 98 av,cS,cD] mo:=IN
 refine oR Z (zQ Z (congrArg nA dw.out) Z) (oM Z Z (ifc KB ?_ ?_))
 intro dx KC
 refine zf Z Z Z (zG Z Z (congrArg nA dx.out)) Z pg (zf Z Z Z (zG Z Z (congrArg nA dx.out)) Z o7 ?_)
 have F0:=jk.le bD
 have F1:=F0.le aY
 have F2:=F1.le aZ
 have F3:=F2.le a0
 have F4:=F3.le ba
 have F5:=F4.le bb
 have F6:=F5.le aR
 have F7:=F6.le aT
 have F8:=F7.le cX
 have F9:=F8.le ff
 have Ga:=F9.le il
 have Gb:=jl.le aY
 have Gc:=Gb.le aZ
 have Gd:=Gc.le a0
 have Gf:=Gd.le ba
 have Gg:=Gf.le bb
 have Gi:=Gg.le aR
 have Gj:=Gi.le aT
 have Gk:=Gj.le cX
 have Gl:=Gk.le ff
 have Gm:=Gl.le il
 refine bnK KC fun Qk Gn KD=>zD 0 Z Z Z (zG Z Z (congrArg nA dx.out)) (zE Z Z Zn (zB Z (zB Z zL)) Z) qg (fun hs=>wAP bp bt bA p3 bg bj mo iK hs Ga Gm Gn) (.inr Z) ?_
 rintro iL MS PP mp qM IP ⟨rfl,rfl⟩
 have qh:sW w U iL [.blk b6 93 B1,.blk b2 24 B0,.blk aj 24 ak,am,.blk ap 31 au,.blk aq 98 av,cS,cD] mp:=IP
 refine oR Z (zQ Z (congrArg nA dx.out) Z) (oM Z Z (ifc KD ?_ ?_))
 intro dy KE
 refine zf Z Z Z (zG Z Z (congrArg nA dy.out)) Z pi (zf Z Z Z (zG Z Z (congrArg nA dy.out)) Z o8 ?_)
 have Gp:=jD.le bD
 have Gq:=Gp.le aY
 have Gr:=Gq.le aZ
 have Gs:=Gr.le a0
 have Gt:=Gs.le ba
 have Gu:=Gt.le bb
 have Gw:=Gu.le aR
 have Gx:=Gw.le aT
 have Gy:=Gx.le cX
 have Gz:=Gy.le ff
 have GA:=Gz.le il
 have GB:=GA.le qM
 have GC:=jm.le aY
 have GD:=GC.le aZ
 have GE:=GD.le a0
 have GF:=GE.le ba
 have GG:=GF.le bb
 have GH:=GG.le aR
 have GI:=GH.le aT
 have GJ:=GI.le cX
 have GK:=GJ.le ff
 have GL:=GK.le il
 have GM:=GL.le qM
 refine bnK KE fun Ql GN KF=>zD 0 Z Z Z (zG Z Z (congrArg nA dy.out)) (zE Z Z Zn (zB Z (zB Z zL)) Z) qh (fun hs=>wAP bq bw bB p4 bh bm mp iL hs GB GM GN) (.inr Z) ?_
 rintro iM MT PQ mq O8 IQ ⟨rfl,rfl⟩
 have qi:sW w U iM [.blk b6 93 B1,.blk b2 24 B0,.blk aj 24 ak,am,.blk ap 31 au,.blk aq 98 av,cS,cD] mq:=IQ
 refine oR Z (zQ Z (congrArg nA dy.out) Z) (oM Z Z (ifc KF ?_ ?_))
 intro fY KG
 refine bnK KG fun Qm GO KH=>zD 0 Z Z Z (zG Z Z (congrArg nA fY.out)) (zE Z Z Tryz.call13 zL Z) qi (fun hs=>wBR mq iM hs GO) (.inr Z) ?_
 rintro lR MU PR sb O9 IR ⟨rfl,rfl⟩
 have IS:sW w U lR [.blk b6 93 B1,.blk b2 24 B0,.blk aj 24 ak,am,.blk ap 31 au,.blk aq 98 av,cS,cD] sb:=IR
 refine oR Z (zQ Z (congrArg nA fY.out) Z) (oA Z Z (eN (zI ?_)))
 have hE:=nD KH;first | subst r | cases hE
 exact ⟨rfl,_,(zk rfl),lR,_,(IS.pick [] _ (by decide) rfl),rfl,rfl⟩
 intro fY KI
 refine ZA Z Z Z (zF Z Z (congrArg nA (nB.2 fY.out)) Z) (oR Z (zO Z (congrArg nA (nB.2 fY.out)) Z) (oA Z Z (eN (zI ?_))))
 have hE:=nD KI;first | subst r | cases hE
 exact ⟨rfl,_,(zk rfl),iM,_,(qi.pick [] _ (by decide) rfl),rfl,rfl⟩
 intro dy KJ
 refine zV Z Z Z (zF Z Z (congrArg nA (nB.2 dy.out)) Z) (zV Z Z Z (zF Z Z (congrArg nA (nB.2 dy.out)) Z) (ZA Z Z Z (zF Z Z (congrArg nA (nB.2 dy.out)) Z) (oR Z (zO Z (congrArg nA (nB.2 dy.out)) Z) (oM Z Z (ZA Z Z Z (zF Z Z Z Z) (oR Z (zO Z Z Z) (oA Z Z (eN (zI ?_)))))))))
 have hE:=nD KJ;first | subst r | cases hE
 exact ⟨rfl,_,(zk rfl),iL,_,(qh.pick [] _ (by decide) rfl),rfl,rfl⟩
 intro dx KK
 refine zV Z Z Z (zF Z Z (congrArg nA (nB.2 dx.out)) Z) (zV Z Z Z (zF Z Z (congrArg nA (nB.2 dx.out)) Z) (ZA Z Z Z (zF Z Z (congrArg nA (nB.2 dx.out)) Z) (oR Z (zO Z (congrArg nA (nB.2 dx.out)) Z) (oM Z Z (oN Z (oN Z (ZA Z Z Z (zF Z Z Z Z) (oR Z (zO Z Z Z) (oM Z Z (ZA Z Z Z (zF Z Z Z Z) (oR Z (zO Z Z Z) (oA Z Z (eN (zI ?_))))))))))))))
 have hE:=nD KK;first | subst r | cases hE
 exact ⟨rfl,_,(zk rfl),iK,_,(qg.pick [] _ (by decide) rfl),rfl,rfl⟩
 intro dw KM
 refine zV Z Z Z (zF Z Z (congrArg nA (nB.2 dw.out)) Z) (zV Z Z Z (zF Z Z (congrArg nA (nB.2 dw.out)) Z) (ZA Z Z Z (zF Z Z (congrArg nA (nB.2 dw.out)) Z) (oR Z (zO Z (congrArg nA (nB.2 dw.out)) Z) (oM Z Z (oN Z (oN Z (ZA Z Z Z (zF Z Z Z Z) (oR Z (zO Z Z Z) (oM Z Z (oN Z (oN Z (ZA Z Z Z (zF Z Z Z Z) (oR Z (zO Z Z Z) (oM Z Z (ZA Z Z Z (zF Z Z Z Z) (oR Z (zO Z Z Z) (oA Z Z (eN (zI ?_)))))))))))))))))))
 have hE:=nD KM;first | subst r | cases hE
 exact ⟨rfl,_,(zk rfl),iJ,_,(qf.pick [] _ (by decide) rfl),rfl,rfl⟩
 intro dv KN
 refine zV Z Z Z (zF Z Z (congrArg nA (nB.2 dv.out)) Z) (zV Z Z Z (zF Z Z (congrArg nA (nB.2 dv.out)) Z) (ZA Z Z Z (zF Z Z (congrArg nA (nB.2 dv.out)) Z) (oR Z (zO Z (congrArg nA (nB.2 dv.out)) Z) (oM Z Z (oN Z (oN Z (ZA Z Z Z (zF Z Z Z Z) (oR Z (zO Z Z Z) (oM Z Z (oN Z (oN Z (ZA Z Z Z (zF Z Z Z Z) (oR Z (zO Z Z Z) (oM Z Z (oN Z (oN Z (ZA Z Z Z (zF Z Z Z Z) (oR Z (zO Z Z Z) (oM Z Z (ZA Z Z Z (zF Z Z Z Z) (oR Z (zO Z Z Z) (oA Z Z (eN (zI ?_))))))))))))))))))))))))
 have hE:=nD KN;first | subst r | cases hE
 exact ⟨rfl,_,(zk rfl),iI,_,(ie.pick [] _ (by decide) rfl),rfl,rfl⟩
 intro iZ KO
 refine cT Z iZ (sR fL1 Z (oA Z Z (eN (zI (zJ ?_)))))
 have hE:=nD KO;first | subst r | cases hE
 exact ⟨rfl,_,(zk rfl),gB,_,(ge.pick [] _ (by decide) rfl),rfl,rfl⟩
 intro dl KP
 refine oT Z dl (oT Z dl (oT Z dl (oR Z (zQ Z (Zi dl.out) Z) (eN (zp Z (sR fL1 Z (oA Z Z (eN (zI (zJ ?_))))))))))
 have hE:=nD KP;first | subst r | cases hE
 exact ⟨rfl,_,(zk rfl),gB,_,(ge.pick [] _ (by decide) rfl),rfl,rfl⟩
 intro iY KQ
 refine cT Z iY (sR fL1 Z (oA Z Z (eN (zI (zJ ?_)))))
 have hE:=nD KQ;first | subst r | cases hE
 exact ⟨rfl,_,(zk rfl),gA,_,(gc.pick [] _ (by decide) rfl),rfl,rfl⟩
 intro dk KR
 refine oT Z dk (oT Z dk (oT Z dk (oR Z (zQ Z (Zi dk.out) Z) (eN (zp Z (sR fL1 Z (oA Z Z (eN (zI (zJ ?_))))))))))
 have hE:=nD KR;first | subst r | cases hE
 exact ⟨rfl,_,(zk rfl),gA,_,(gc.pick [] _ (by decide) rfl),rfl,rfl⟩
 intro iX KS
 refine cT Z iX (sR fL1 Z (oA Z Z (eN (zI (zJ ?_)))))
 have hE:=nD KS;first | subst r | cases hE
 exact ⟨rfl,_,(zk rfl),iC,_,(gb.pick [] _ (by decide) rfl),rfl,rfl⟩
 intro dg KT
 refine oT Z dg (oT Z dg (oT Z dg (oR Z (zQ Z (Zi dg.out) Z) (eN (zp Z (sR fL1 Z (oA Z Z (eN (zI (zJ ?_))))))))))
 have hE:=nD KT;first | subst r | cases hE
 exact ⟨rfl,_,(zk rfl),iC,_,(gb.pick [] _ (by decide) rfl),rfl,rfl⟩
 intro iW KU
 refine cT Z iW (sR fL1 Z (oA Z Z (eN (zI (zJ ?_)))))
 have hE:=nD KU;first | subst r | cases hE
 exact ⟨rfl,_,(zk rfl),lE,_,(g8.pick [] _ (by decide) rfl),rfl,rfl⟩
end Go.Proofs.YtabadkdjndnliaaGreat
