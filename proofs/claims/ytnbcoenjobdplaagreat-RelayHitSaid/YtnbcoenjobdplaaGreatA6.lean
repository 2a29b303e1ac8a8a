import Derived.Test.YtnbcoenjobdplaaGreatA5
import Derived.Test.YtnbcoenjobdplaaGreatA4
set_option linter.all false
open List renaming flatMap->hH,set->nB,count_append->nD,length_set->nE,count_nil->nG,mem_append_right->nH
open Option.some renaming inj->nA
namespace Go.Proofs.YtnbcoenjobdplaaGreat
open Go.KL
def gBa:Sch:=.fx 1 (.fl 2 .nil) .stop
def gBb:Sch:=.fx 2 (.fl 3 .nil) .stop
def gBc:Sch:=.fx 0 (.fx 1 .nil .stop) .stop
def gBd:Sch:=.fl 0 (.fx 1 .nil .stop)
def gBe:Sch:=.fl 5 (.fx 7 .nil .stop)
def gBf:Sch:=.fx 2 (.fx 3 .nil .stop) .stop
def gBg:Sch:=.fx 0 (.fl 1 .nil) .stop
def gBh:Sch:=.fl 5 (.fx 6 (.fx 7 .nil .stop) .stop)
def gBi:Sch:=.fx 5 (.fx 6 (.fl 7 .nil) .stop) .stop
def gBj:Sch:=.fl 15 (.fl 16 (.fx 17 .nil .stop))
def gBk:Sch:=.fx 3 (.fl 4 (.fx 5 .nil .stop)) .stop
def gBl:Sch:=.fl 0 (.fx 1 gBb .stop)
def gBm:Sch:=.fl 0 (.fl 1 gBb)
def gBn:Sch:=.fl 0 (.fl 1 gBf)
def gBo:Sch:=.fl 0 (.fx 1 gBf .stop)
set_option maxHeartbeats 4000000
theorem wDp (p0:wAF) (aK:Option Addr) (aM:Nat) (aL:Option Addr) (aN:Nat) (w:World) (U:PHeap) (hS:St0 w U []) (bU:Sl U 1 aK aM p0.Rules.Classes.length (hH KL.encI p0.Rules.Classes)) (bV:SlR U wFN aL aN p0.Teams) {r:wBn × Int} (hm:wBF p0=some r):Gv Tryz.prog 8 [.agg #[.slice aK p0.Rules.Classes.length aM,jV p0.Rules.Each,jV p0.Rules.Laps,jV p0.Rules.Spare,jV p0.Rules.Loop,jV p0.Rules.Unused,jV p0.Start,.slice aL p0.Teams.length aN]] w (wCi w [] U (fun U_ L_ v=>∃ (aW:Option Addr) (bb:Nat) (aX:Option Addr) (be:Nat) (bi:List Value),v=.tuple #[.agg #[jV r.1.Laps,.slice aW r.1.Bibs.length bb,.slice aX r.1.Times.length be],jV r.2]/\L_=[.row aW bb 3 1 (hH KL.encI r.1.Bibs),.row aX be 23 1 bi]/\RlL U_ wIU r.1.Times bi)):=by
 unfold wBF at hm
 refine Gv.of Tryz.func8 Z Tryz.ntmps8 Tryz.results8 Z (sR (.fx 0 gBa .stop) Z ?_)
 let B0:List Value:=[.slice aK p0.Rules.Classes.length aM,jV p0.Rules.Each,jV p0.Rules.Laps,jV p0.Rules.Spare,jV p0.Rules.Loop,jV p0.Rules.Unused,jV p0.Start,.slice aL p0.Teams.length aN]
 refine Zh (cs:=B0) rfl rfl rfl rfl rfl rfl (by rfl) hS ?_
 intro W1 b2 bI
 let B1:List Value:=[jV 0,.slice none 0 0,.slice none 0 0]
 refine zo (cs:=B1) Z Z Z Z Z Zm Z bI ?_
 intro W5 b6 bn
 refine oA Z Z (eN (sR (.fl 0 (.fx 1 (fC2_6 (.nil)) .stop)) Z (oL Z (bn.ldBA (j:=1) Z Z Z Zc zp (vs:=B0) Z Z) ?_)))
 have q:=bnd hm
 obtain ⟨⟨x9,aO⟩,bz,aq⟩:=q
 try dsimp only at aq
 refine zN 0 Z Z Z Z (zJ Z Z Tryz.call30 (zC Z zO) Z) bn (fun hs=>wHe p0 aK aM aL aN W5 U hs bU bV bz) (.inr Z) ?_
 rintro am cd cn aH cj bk bj
 rcases x9 with _ | ah
 try dsimp only at aq
 obtain ⟨rfl,rfl⟩:=bj
 have bH:sW w U am [.blk b6 34 B1,.blk b2 28 B0] aH:=bk
 refine oM Z Z (oR Z (Zs Z Z (v:=.pointer none) Z) (oR Z (Zs Z Z (v:=jV aO) Z) (oA Z Z (oA Z Z (eN (zE (sR fL2 Z (oM Z Z (oR Z (Zk Z Z Z) (eN (ifc aq ?_ ?_)))))))))))
 intro aS bW
 refine zx (ZR (fun h=>h aS.out)) (kN (sR gBl Z (oM Z Z ?_)))
 cases bW
 intro aS bX
 refine cT Z aS (sR gBm Z (oR Z (ZO (pv:=[]) (z:=B1) (cs:=B1) Z wAT Zm wHY Z Z) (oM Z Z (zY (j:=0) (vs:=B1) Z Z Z Z bH Z Z Z Z Zf (zA Z) Z Z Z ?_))))
 intro bs bJ
 have bK:sW w U am [.blk b6 34 B1,.blk b2 28 B0] bs:=bJ
 refine oA Z Z (eN (zQ (zK ?_)))
 have bL:=bK.nilrow 3 1
 have bl:=bL.nilrow 23 1
 cases bX
 exact ⟨rfl,_,(wHt (rs:=[.cell 2 34,.tmp 3]) (vs:=[.agg B1.toArray,jV aO]) ⟨⟨_,rfl,(wDU Tryz.isAgg34 Zf (bl.blkAt (k:=2) rfl) (vs:=B1) rfl rfl)⟩,⟨rfl,trivial⟩⟩ rfl),am,_,(bl.pick [1,0] _ (by decide) rfl),none,0,none,0,[],rfl,rfl,RlL.nil⟩
 try dsimp only at aq
 obtain ⟨aR,aY,bf,aZ,bg,au,aI,bh,rfl,rfl,bA,bB,bC⟩:=bj
 let B2:Res:=.blk aR 130 [.slice aY ah.Race.Rules.Classes.length bf,jV ah.Race.Rules.Each,jV ah.Race.Rules.Laps,jV ah.Race.Rules.Spare,jV ah.Race.Rules.Loop,jV ah.Race.Rules.Unused,jV ah.Race.Start,.slice aZ ah.Race.Teams.length bg,.slice au ah.after.length aI]
 have bm:sW w U am [B2,.row au aI 23 1 bh,.blk b6 34 B1,.blk b2 28 B0] aH:=bk
 refine oM Z Z (oR Z (Zs Z Z (v:=.pointer (some ⟨aR,0,none⟩)) Z) (oR Z (Zs Z Z (v:=jV aO) Z) (oA Z Z (oA Z Z (eN (zE (sR fL2 Z (oM Z Z (oR Z (Zk Z Z Z) (eN (ifc aq ?_ ?_)))))))))))
 intro aT bY
 refine zx (ZR (fun h=>h aT.out)) (kN (sR gBl Z (oM Z Z ?_)))
 have q:=bm.freezeRR (R:=wIU) (k:=1) rfl bC rfl (by decide)
 obtain ⟨ba,br,b8,bM⟩:=q
 have bN:sW w U ba [B2,.blk b6 34 B1,.blk b2 28 B0] aH:=bM
 have bD:=bA.le br
 have bE:=bB.le br
 refine bnK bY fun x55 bF bZ=>zN 1 Z Z Z Z (zJ Z Z Tryz.call31 (zC Z zO) Z) bN (fun hs=>wEz ah aR aY bf aZ bg au aI aH ba hs bD bE b8 bF) (.inl Z) ?_
 rintro aQ cg cp bu cm bO ⟨aP,aU,av,aJ,aV,rfl,rfl,bG⟩
 let B3:Res:=.row aP aU 3 1 (hH KL.encI x55.Bibs)
 have bP:sW w U aQ [B3,.row av aJ 23 1 aV,B2,.blk b6 34 B1,.blk b2 28 B0] bu:=bO
 let B4:List Value:=[jV x55.Laps,.slice aP x55.Bibs.length aU,.slice av x55.Times.length aJ]
 refine zY (j:=3) (vs:=B4) Z Z Z Z bP Z Z Z Z Zf (zA Z) Z Z Z ?_
 intro bv bQ
 have bp:sW w U aQ [B3,.row av aJ 23 1 aV,B2,.blk b6 34 B4,.blk b2 28 B0] bv:=bQ
 refine oA Z Z (eN (zQ ?_))
 cases bZ
 exact ⟨rfl,_,(wHt (rs:=[.cell 2 34,.tmp 3]) (vs:=[.agg B4.toArray,jV 0]) ⟨⟨_,rfl,(wDU Tryz.isAgg34 Zf (bp.blkAt (k:=3) rfl) (vs:=B4) rfl rfl)⟩,⟨rfl,trivial⟩⟩ rfl),aQ,_,(bp.pick [0,1] _ (by decide) rfl),aP,aU,av,aJ,aV,rfl,rfl,bG⟩
 intro aT b5
 refine cT Z aT (sR gBm Z (oR Z (ZO (pv:=[]) (z:=B1) (cs:=B1) Z wAT Zm wHY Z Z) (oM Z Z (zY (j:=2) (vs:=B1) Z Z Z Z bm Z Z Z Z Zf (zA Z) Z Z Z ?_))))
 intro bw bR
 have bS:sW w U am [B2,.row au aI 23 1 bh,.blk b6 34 B1,.blk b2 28 B0] bw:=bR
 refine oA Z Z (eN (zQ (zK ?_)))
 have bT:=bS.nilrow 3 1
 have bq:=bT.nilrow 23 1
 cases b5
 exact ⟨rfl,_,(wHt (rs:=[.cell 2 34,.tmp 3]) (vs:=[.agg B1.toArray,jV aO]) ⟨⟨_,rfl,(wDU Tryz.isAgg34 Zf (bq.blkAt (k:=4) rfl) (vs:=B1) rfl rfl)⟩,⟨rfl,trivial⟩⟩ rfl),am,_,(bq.pick [1,0] _ (by decide) rfl),none,0,none,0,[],rfl,rfl,RlL.nil⟩
theorem wBa (p0:List Int) (am:Option Addr) (ap:Nat) (w:World) (U:PHeap) (hS:St0 w U []) (aJ:Sl U 1 am ap p0.length (hH KL.encI p0)) {r:(List Int)} (hm:wAg p0=some r):Gv Tryz.prog 33 [.slice am p0.length ap] w (wCi w [] U (fun U_ L_ v=>∃ (A0:Option Addr) (c0:Nat),v=.slice A0 r.length c0/\L_=[.row A0 c0 3 1 (hH KL.encI r)])):=by
 unfold wAg at hm
 refine Gv.of Tryz.func33 Z Tryz.ntmps33 Tryz.results33 Z (sR fL1 Z (oA Z Z (eN (sR (.fl 0 gBa) Z (oM Z Z ?_)))))
 have az:=hS.nilrow 3 1
 have ak:sW w U U [.row none 0 3 1 (hH KL.encI ([]:List Int))] w:=az
 refine bnK hm fun x4 h5 aK=>Zu (j:=0) (enc:=KL.encI) (xs:=([]:List Int)) (ys:=p0) (zs:=x4) Z Z Z Z Z Zj wHc Z Z Z Z Z Z ak Z Z Z (ak.srcS aJ) (fun _=>Z) (fun _=>Z) h5 Z ?_
 intro A7 c8 W9 aH
 have aI:sW w U U [.row A7 c8 3 1 (hH KL.encI x4)] W9:=aH
 refine oA Z Z (eN (zQ ?_))
 have hE:=nA aK;first | subst r | cases hE
 exact ⟨Z,_,(ZA Z),U,_,aI,A7,c8,Z,Z⟩
theorem wCC (p0:wAC) (ah:Option Addr) (ai:Nat) (w:World) (U:PHeap) (hS:St0 w U []) (aX:Sl U 1 ah ai p0.Classes.length (hH KL.encI p0.Classes)) {r:wAC} (hm:wAp p0=some r):Gv Tryz.prog 32 [.agg #[.slice ah p0.Classes.length ai,jV p0.Each,jV p0.Laps,jV p0.Spare,jV p0.Loop,jV p0.Unused]] w (wCi w [] U (fun U_ L_ v=>∃ (aH:Option Addr) (aJ:Nat),v=.agg #[.slice aH r.Classes.length aJ,jV r.Each,jV r.Laps,jV r.Spare,jV r.Loop,jV r.Unused]/\L_=[.row aH aJ 3 1 (hH KL.encI r.Classes)])):=by
 unfold wAp at hm
 refine Gv.of Tryz.func32 Z Tryz.ntmps32 Tryz.results32 Z (sR gBc Z ?_)
 let B0:List Value:=[.slice ah p0.Classes.length ai,jV p0.Each,jV p0.Laps,jV p0.Spare,jV p0.Loop,jV p0.Unused]
 refine Zh (cs:=B0) rfl rfl rfl rfl rfl rfl (by rfl) hS ?_
 intro W1 b2 aW
 let B1:List Value:=[.slice none 0 0,jV 0,jV 0,jV 0,jV 0,jV 0]
 refine zo (cs:=B1) Z Z Z Z Z Tryz.zeroValue25 Z aW ?_
 intro W5 b6 aM
 refine eN (sR (.fl 0 (.fl 1 (.fx 2 (.fl 3 (.fx 4 .nil .stop)) .stop))) Z (oR Z (zB Z Z zS Z zM) (oL Z (aM.ldB (j:=1) Z Z Z zf (v:=.slice ah p0.Classes.length ai) Z) (bnK hm fun x9 aR aY=>zN 0 Z Z Z Z (zJ Z Z Tryz.call33 (zC Z zO) Z) aM (fun hs=>wBa p0.Classes ah ai W5 U hs aX aR) (.inr Z) ?_))))
 rintro ak aZ bb aN ba aS ⟨aj,am,rfl,rfl⟩
 let B2:Res:=.row aj am 3 1 (hH KL.encI x9)
 have aT:sW w U ak [B2,.blk b6 25 B1,.blk b2 25 B0] aN:=aS
 refine oR Z (zB Z Z zS Z zM) (zY (j:=2) (vs:=[.slice aj x9.length am]) Z Z Z Z aT Z Z Z Z zM (zA Z) Z Z Z ?_)
 intro aO aU
 let B3:List Value:=[.slice aj x9.length am,jV p0.Each,jV p0.Laps,jV p0.Spare,jV p0.Loop,jV p0.Unused]
 have aK:sW w U ak [B2,.blk b6 25 B1,.blk b2 25 B3] aO:=aU
 refine eN (sR gBd Z (oL Z (aK.ldBA (j:=2) Z Z Z yE zq (vs:=B3) Z Z) (zY (j:=1) (vs:=B3) Z Z Z Z aK Z Z Z Z zq (zA Z) Z Z Z ?_)))
 intro aP aV
 have aL:sW w U ak [B2,.blk b6 25 B3,.blk b2 25 B3] aP:=aV
 refine eN (zQ ?_)
 cases aY
 exact ⟨rfl,_,(wDv (v:=.agg B3.toArray) ⟨⟨_,rfl,(wDU yE zq (aL.blkAt (k:=1) rfl) (vs:=B3) rfl rfl)⟩,trivial⟩),ak,_,(aL.pick [0] _ (by decide) rfl),aj,am,rfl,rfl⟩
theorem wDS (p0:List Bool) (am:Option Addr) (ap:Nat) (w:World) (U:PHeap) (hS:St0 w U []) (aJ:Sl U 1 am ap p0.length (hH KL.encT p0)) {r:(List Bool)} (hm:wAx p0=some r):Gv Tryz.prog 67 [.slice am p0.length ap] w (wCi w [] U (fun U_ L_ v=>∃ (A0:Option Addr) (c0:Nat),v=.slice A0 r.length c0/\L_=[.row A0 c0 4 1 (hH KL.encT r)])):=by
 unfold wAx at hm
 refine Gv.of Tryz.func67 Z Tryz.ntmps67 Tryz.results67 Z (sR fL1 Z (oA Z Z (eN (sR (.fl 0 gBa) Z (oM Z Z ?_)))))
 have az:=hS.nilrow 4 1
 have ak:sW w U U [.row none 0 4 1 (hH KL.encT ([]:List Bool))] w:=az
 refine bnK hm fun x4 h5 aK=>Zu (j:=0) (enc:=KL.encT) (xs:=([]:List Bool)) (ys:=p0) (zs:=x4) Z Z Z Z Z Tryz.underlying47 wPO Z Z Z Z Z Z ak Z Z Z (ak.srcS aJ) (fun _=>Z) (fun _=>Z) h5 Z ?_
 intro A7 c8 W9 aH
 have aI:sW w U U [.row A7 c8 4 1 (hH KL.encT x4)] W9:=aH
 refine oA Z Z (eN (zQ ?_))
 have hE:=nA aK;first | subst r | cases hE
 exact ⟨Z,_,(ZA Z),U,_,aI,A7,c8,Z,Z⟩
theorem wCy (p0:List (List Bool)) (aO:Option Addr) (aQ:Nat) (w:World) (U:PHeap) (hS:St0 w U []) (bV:SlR U wGx aO aQ p0) {r:(List (List Bool))} (hm:wAl p0=some r):Gv Tryz.prog 34 [.slice aO p0.length aQ] w (wCi w [] U (fun U_ L_ v=>∃ (A0:Option Addr) (c0:Nat) (a0:List Value),v=.slice A0 r.length c0/\L_=[.row A0 c0 47 1 a0]/\RlT U U_ wPN r a0)):=by
 unfold wAl at hm
 refine Gv.of Tryz.func34 Z Tryz.ntmps34 Tryz.results34 Z (sR fL1 Z (oA Z Z (eN (sR fL1 Z (oA Z Z (eN (zE (sR fL3 Z (oM Z Z (oR Z (zV Z Z ZJ) (oM Z Z (eN (zR (bnK hm fun cC bW b5=>?_))))))))))))))
 have q:=wCD bW
 obtain ⟨aL,bX⟩:=q
 replace aL:=zD aL
 refine CK.forN' (fun am av σ_ w_=>∃ (U_:PHeap) (aq:Option Addr) (au:Nat) (ak:List Value),σ_ 8=jV (↑am:Int)/\σ_ 3=.slice aq av.length au/\σ_ 6=.slice aO p0.length aQ/\σ_ 7=jV (↑p0.length:Int)/\PHeap.Le U U_/\sW w U U_ [.row aq au 47 1 ak] w_/\RlT U U_ wPN av ak) bX ?_ ?_ ?_
 have bO:=hS.nilrow 47 1
 exact ⟨U,none,0,[],Z,Z,Z,Z,(zL _),bO,RlT.nil⟩
 rintro am av cA cE bn aK ⟨aV,aq,au,ak,aI,bA,ba,bb,aM,bh,be⟩ cm
 have aY:Hid ((↑am:Int) < (↑p0.length:Int)):=zD (wBh aK)
 replace aK:=zD aK
 have bZ:Hid (w64 ((↑am:Int) + 1)=(↑(am + 1):Int)):=zD (by have h1:=aL.out;have h2:=aY.out;rw [wAU] <;> omega)
 refine sR fL1 Z (oR Z (zZ Z aI bb) (eN (zE (cT Z aY (kN (zE (zR (sR fL3 Z (bnK cm fun x46 bf b8=>?_)))))))))
 have bD:=bV.le aM
 have q:=bD.el (wAX bf)
 obtain ⟨br,cp,cz,bJ,aJ,cg⟩:=q
 obtain ⟨aP,aR,rfl,bE⟩:=cg
 replace aJ:Cl aV br (cp + am * 1) [.slice aP x46.length aR]:=aJ
 refine oR Z (zy Z ba bJ aI ZJ yC (wAw bf)) (oL Z (bh.ldC (f:=0) aJ (v:=.slice aP x46.length aR) Z Z Tryz.isAgg47 Z) (oA Z Z (eN (rR (.fl 0 (.fl 1 (.fx 2 (.fx 3 (.fx 4 (.fl 5 .nil) .stop) .stop) .stop))) Z (oM Z bA (oM Z Z (bnK b8 fun aa bF cb=>zN 0 Z Z Z Z (zJ Z Z Tryz.call67 (zC Z zO) Z) bh (fun hs=>wDS x46 aP aR bn aV hs bE bF) (.inr Z) ?_)))))))
 rintro bm cq cy aW az bP ⟨aj,ap,rfl,rfl⟩
 let B0:Res:=.row aq au 47 1 ak
 have bQ:sW w U bm [.row aj ap 4 1 (hH KL.encT aa),B0] aW:=bP
 have q:=bQ.freezeRP (k:=0) rfl
 obtain ⟨ah,aN,bg,bK,bS⟩:=q
 have ci:=bg.sl (n:=aa.length) (wAL (f:=KL.encT) (sz:=1) (fun _=>rfl) aa) (by decide)
 have bT:sW w U ah [B0] aW:=bS
 let B1:List Value:=[.slice aj aa.length ap]
 refine zu (pv:=[(0,.slice aj aa.length ap)]) (zs:=[.slice none 0 0]) (cs:=B1) Z Z Z Z Z (wAI Z wAT) ZJ yC Tryz.zeroValue47 Z Z Z Z Z bT ?_
 intro bp bs bR
 have bj:RlL ah wGx [aa] B1:=(RlL.cons (R:=wGx) (x:=aa) (vs:=B1) ⟨aj,ap,rfl,ci⟩ RlL.nil)
 have bL:Ows _ ah (bks aj):=(bK.le (zL _)).perm (by intro b;first | rfl | (simp only [nD,nG];omega))
 have bY:wPN.f ah aa B1 (bks aj):=⟨aj,ap,rfl,(bg.le (zL _)),rfl⟩
 let B2:Res:=.row (some ⟨bs,0,none⟩) 1 47 1 B1
 have bi:sW w U ah [B2,B0] bp:=bR
 refine bnK cb fun x87 bG cd=>?_
 have bH:=be.le az
 have bI:=bH.le aN
 refine OKS.appendRT (R:=wGx) (j:=1) (xs:=av) (ys:=[aa]) (zs:=x87) rfl rfl rfl rfl rfl Tryz.underlying44 wMf rfl rfl rfl rfl rfl rfl rfl bi rfl rfl rfl (bI).toL bj (bi.srcR (j:=0) rfl (by decide) (RlL.len bj)) bG rfl ?_
 intro aT aZ bq bU cu cn
 have cj:RlT U ah wPN x87 (ak ++ B1):=by rw [cn];exact RlT.snoc be bY bL aM az (az.trans aN)
 have bM:sW w U ah [B2,.row aT aZ 47 1 (ak ++ B1)] bq:=bU
 refine oA Z Z (zr (zj (zF (rR fL2 Z (oR Z (ZP (ze Z aI Z) (congrArg (jV) bZ.out)) (oM Z Z (zr ?_)))))))
 cases cd
 exact zF ⟨rfl,⟨ah,aT,aZ,(ak ++ B1),rfl,rfl,ba,bb,((aM.trans az).trans aN),(bM.pick [1] _ (by decide) rfl),cj⟩⟩
 rintro cD cr ⟨bl,bk,bt,bu,bB,bw,ct,bz,cw,bN,bC⟩
 have bv:Hid (¬ ((↑(((↑p0.length:Int):Int) - 0).toNat:Int) < (↑p0.length:Int))):=zD (wBH)
 refine sR fL1 Z (oR Z (zZ Z bB bz) (eN (zE (cF Z bv (ZM (zW (zW (ZB (zF (sR fL2 Z (oM Z bw (oA Z Z (eN (zQ ?_))))))))))))))
 have hE:=nA b5;first | subst r | cases hE
 exact ⟨Z,_,(ZA Z),bl,_,bN,bk,bt,bu,Z,Z,(bC).low (zL _)⟩
theorem wCl (p0:wAF) (bD:Option Addr) (bF:Nat) (bm:Option Addr) (bn:Nat) (w:World) (U:PHeap) (hS:St0 w U []) (eD:Sl U 1 bD bF p0.Rules.Classes.length (hH KL.encI p0.Rules.Classes)) (i9:SlR U wFN bm bn p0.Teams) {r:wAF} (hm:wAf p0=some r):Gv Tryz.prog 9 [.agg #[.slice bD p0.Rules.Classes.length bF,jV p0.Rules.Each,jV p0.Rules.Laps,jV p0.Rules.Spare,jV p0.Rules.Loop,jV p0.Rules.Unused,jV p0.Start,.slice bm p0.Teams.length bn]] w (wCi w [] U (fun U_ L_ v=>∃ (dp:Option Addr) (dG:Nat) (dq:Option Addr) (dH:Nat) (dM:List Value),v=.agg #[.slice dp r.Rules.Classes.length dG,jV r.Rules.Each,jV r.Rules.Laps,jV r.Rules.Spare,jV r.Rules.Loop,jV r.Rules.Unused,jV r.Start,.slice dq r.Teams.length dH]/\L_=[.row dp dG 3 1 (hH KL.encI r.Rules.Classes),.row dq dH 43 3 dM]/\RlT U U_ wPv r.Teams dM)):=by
 unfold wAf at hm
 refine Gv.of Tryz.func9 Z Tryz.ntmps9 Tryz.results9 Z (sR gBc Z ?_)
 let B0:List Value:=[.slice bD p0.Rules.Classes.length bF,jV p0.Rules.Each,jV p0.Rules.Laps,jV p0.Rules.Spare,jV p0.Rules.Loop,jV p0.Rules.Unused,jV p0.Start,.slice bm p0.Teams.length bn]
 refine Zh (cs:=B0) rfl rfl rfl rfl rfl rfl (by rfl) hS ?_
 intro W1 b2 ip
 let B1:List Value:=[.slice none 0 0,jV 0,jV 0,jV 0,jV 0,jV 0,jV 0,.slice none 0 0]
 refine zo (cs:=B1) Z Z Z Z Z Zd Z ip ?_
 intro W5 b6 iY
 refine eN ?_
 have q:=bnd hm
 obtain ⟨⟨aV,x14,x15,bV,bW,bX⟩,jD,eF⟩:=q
 try dsimp only at eF
 refine CK.cut (fun σ_ w_=>∃ (U_:PHeap) (aU:Nat) (aK:Option Addr) (aN:Nat),σ_ 1=.pointer (some ⟨b2,0,none⟩)/\σ_ 2=.pointer (some ⟨b6,0,none⟩)/\σ_ 3=.pointer (some ⟨aU,0,none⟩)/\PHeap.Le U U_/\sW w U U_ [.blk b6 28 B1,.blk b2 28 B0,.blk aU 28 [.slice aK aV.length aN,jV x14,jV x15,jV bV,jV bW,jV bX,jV p0.Start,.slice none 0 0],.row aK aN 3 1 (hH KL.encI aV)] w_) ?_ ?_
 refine bnK jD fun ak dW eG=>Zb ZV [3,1,2,3,1,3,2,0] (.fl 0 (.fl 1 (.fl 3 (.fl 4 (.fx 2 gBh (.fx 6 (.fx 2 gBe .stop) .stop)))))) (by kernel_rfl) ?_
 have bK:=iY.drew
 generalize hw_W44:({ W5 with drawn:=W5.drawn + 1 }:World)=e9 at bK ⊢
 refine oR Z (zB Z Z zH Z zq) (oL Z (bK.ldBA (j:=1) Z Z Z yE zq (vs:=[.slice bD p0.Rules.Classes.length bF,jV p0.Rules.Each,jV p0.Rules.Laps,jV p0.Rules.Spare,jV p0.Rules.Loop,jV p0.Rules.Unused]) Z Z) (oR Z (zB Z Z zH Z zG) (oL Z (bK.ldB (j:=1) Z Z Z zU (v:=jV p0.Start) Z) (OKS.both ?_ ?_))))
 refine zN 0 Z Z Z Z (zJ Z Z Tryz.call32 (zC Z zO) Z) bK (fun hs=>wCC p0.Rules bD bF e9 U hs eD dW) (.inr Z) ?_
 rintro cM jW lv fd jL iR ⟨cb,cq,rfl,rfl⟩
 let B2:Res:=.row cb cq 3 1 (hH KL.encI ak.Classes)
 have iU:sW w U cM [B2,.blk b6 28 B1,.blk b2 28 B0] fd:=iR
 let B3:List Value:=[.slice cb ak.Classes.length cq,jV ak.Each,jV ak.Laps,jV ak.Spare,jV ak.Loop,jV ak.Unused,jV p0.Start,.slice none 0 0]
 refine oR Z (ZO (pv:=[(0,.agg #[.slice cb ak.Classes.length cq,jV ak.Each,jV ak.Laps,jV ak.Spare,jV ak.Loop,jV ak.Unused]),(1,jV p0.Start)]) (z:=B1) (cs:=B3) Z (wAI Z (wAI Z wAT)) Zd wHX Z Z) (zo (cs:=B1) Z Z Z Z Z Zd Z iU ?_)
 intro k9 dF iV
 refine zY (j:=0) (vs:=B3) Z Z Z Z iV Z Z Z Z zp (zA Z) Z Z Z ?_
 intro fg iW
 have iX:sW w U cM [.blk dF 28 B3,B2,.blk b6 28 B1,.blk b2 28 B0] fg:=iW
 refine zr ?_
 cases eG
 exact zF ⟨rfl,⟨cM,dF,cb,cq,rfl,rfl,rfl,jL,(iX.pick [2,3,0,1] _ (by decide) rfl)⟩⟩
 refine zo (cs:=B1) Z Z Z Z Z Zd Z bK ?_
 intro fh cS iZ
 refine zN 0 Z Z Z Z (zJ Z Z Tryz.call32 (zC Z zO) Z) iZ (fun hs=>wCC p0.Rules bD bF fh U hs eD dW) (.inr Z) ?_
 rintro cN jX lw fj jM i0 ⟨cd,cr,rfl,rfl⟩
 let B4:Res:=.row cd cr 3 1 (hH KL.encI ak.Classes)
 have i6:sW w U cN [B4,.blk cS 28 B1,.blk b6 28 B1,.blk b2 28 B0] fj:=i0
 let B5:List Value:=[.slice cd ak.Classes.length cr,jV ak.Each,jV ak.Laps,jV ak.Spare,jV ak.Loop,jV ak.Unused,jV p0.Start,.slice none 0 0]
 refine oR Z (ZO (pv:=[(0,.agg #[.slice cd ak.Classes.length cr,jV ak.Each,jV ak.Laps,jV ak.Spare,jV ak.Loop,jV ak.Unused]),(1,jV p0.Start)]) (z:=B1) (cs:=B5) Z (wAI Z (wAI Z wAT)) Zd wHX Z Z) (zY (j:=1) (vs:=B5) Z Z Z Z i6 Z Z Z Z zp (zA Z) Z Z Z ?_)
 intro fm i7
 have i8:sW w U cN [B4,.blk cS 28 B5,.blk b6 28 B1,.blk b2 28 B0] fm:=i7
 refine zr ?_
 cases eG
 exact zF ⟨rfl,⟨cN,cS,cd,cr,rfl,rfl,rfl,jM,(i8.pick [2,3,1,0] _ (by decide) rfl)⟩⟩
 rintro lB j0 ⟨cg,aU,aK,aN,fB,fC,fD,eJ,ei⟩
 refine zE (sR fL4 Z (oR Z (zB Z fB zH Z ZD) (oL Z (ei.ldB (j:=1) Z Z Z ZX (v:=.slice bm p0.Teams.length bn) Z) (oR Z (zV Z Z zg) (oM Z Z (eN (zR (bnK eF fun jP ja ji=>?_))))))))
 have q:=wCD ja
 obtain ⟨dh,jb⟩:=q
 replace dh:=zD dh
 refine CK.forN' (fun ba bB σ_ w_=>∃ (U_:PHeap) (bq:Option Addr) (bu:Nat) (bi:List Value),σ_ 18=jV (↑ba:Int)/\σ_ 2=.pointer (some ⟨b6,0,none⟩)/\σ_ 3=.pointer (some ⟨aU,0,none⟩)/\σ_ 16=.slice bm p0.Teams.length bn/\σ_ 17=jV (↑p0.Teams.length:Int)/\PHeap.Le cg U_/\sW w U U_ [.blk b6 28 B1,.blk b2 28 B0,.row aK aN 3 1 (hH KL.encI aV),.row bq bu 43 3 bi,.blk aU 28 [.slice aK aV.length aN,jV x14,jV x15,jV bV,jV bW,jV bX,jV p0.Start,.slice bq bB.length bu]] w_/\RlT cg U_ wPv bB bi) jb ?_ ?_ ?_
 have gW:=ei.nilrow 43 3
 exact ⟨cg,none,0,[],rfl,fC,fD,rfl,rfl,(zL _),(gW.pick [1,2,4,0,3] _ (by decide) rfl),RlT.nil⟩
 rintro ba bB lz lD j3 df ⟨bH,bq,bu,bi,ct,dN,dO,cV,cW,dl,ej,dS⟩ jB
 have dI:Hid ((↑ba:Int) < (↑p0.Teams.length:Int)):=zD (wBh df)
 replace df:=zD df
 have jg:Hid (w64 ((↑ba:Int) + 1)=(↑(ba + 1):Int)):=zD (by have h1:=dh.out;have h2:=dI.out;rw [wAU] <;> omega)
 refine sR fL1 Z (oR Z (zZ Z ct cW) (eN (zE (cT Z dI (kN (zE (zR (sR gBn Z (bnK jB fun x155 dT jj=>?_)))))))))
 have gg:=i9.le eJ
 have gh:=gg.le dl
 have q:=gh.el (wAX dT)
 obtain ⟨fq,jN,lx,gK,da,jt⟩:=q
 obtain ⟨bE,bG,bP,bS,rfl,dU,gi⟩:=jt
 replace da:Cl bH fq (jN + ba * 3) [jV x155.Bib,.slice bE x155.Classes.length bG,.slice bP x155.Legs.length bS]:=da
 refine oR Z (zy Z cV gK ct zg zk (wAw dT)) (oL Z (ej.ldCA (f:=0) da Z Z Zl zk (us:=[jV x155.Bib,.slice bE x155.Classes.length bG,.slice bP x155.Legs.length bS]) Z Z) ?_)
 let B6:List Value:=[jV 0,.slice none 0 0,.slice none 0 0]
 refine zo (cs:=B6) Z Z Z Z Z ZK Z ej ?_
 intro j4 ap gX
 let B7:List Value:=[jV x155.Bib,.slice bE x155.Classes.length bG,.slice bP x155.Legs.length bS]
 refine zY (j:=0) (vs:=B7) Z Z Z Z gX Z Z Z Z zk (zA Z) Z Z Z ?_
 intro cO gZ
 let B8:Res:=.blk aU 28 [.slice aK aV.length aN,jV x14,jV x15,jV bV,jV bW,jV bX,jV p0.Start,.slice bq bB.length bu]
 let B9:Res:=.row aK aN 3 1 (hH KL.encI aV)
 let az:Res:=.row bq bu 43 3 bi
 have g8:sW w U bH [.blk ap 43 B7,.blk b6 28 B1,.blk b2 28 B0,B9,az,B8] cO:=gZ
 refine eN (bnK jj fun aI jC jk=>CK.cut (fun σ_ w_=>∃ (U_:PHeap) (aM:Nat) (aJ:Option Addr) (aQ:Nat),σ_ 2=.pointer (some ⟨b6,0,none⟩)/\σ_ 3=.pointer (some ⟨aU,0,none⟩)/\σ_ 5=.pointer (some ⟨ap,0,none⟩)/\σ_ 6=.pointer (some ⟨aM,0,none⟩)/\σ_ 16=.slice bm p0.Teams.length bn/\σ_ 17=jV (↑p0.Teams.length:Int)/\σ_ 18=jV (↑ba:Int)/\PHeap.Le bH U_/\sW w U U_ [.blk ap 43 B7,.blk b6 28 B1,.blk b2 28 B0,B9,az,B8,.blk aM 43 [jV x155.Bib,.slice aJ aI.length aQ,.slice none 0 0],.row aJ aQ 3 1 (hH KL.encI aI)] w_) ?_ ?_)
 refine bnK jC fun x187 dV eE=>Zb ZV [3,1,3,1,2,3,2,0] (wIS (.fx 4 gBh (.fx 6 (.fx 4 gBe .stop) .stop))) (by kernel_rfl) ?_
 have bJ:=g8.drew
 generalize hw_W209:({ cO with drawn:=cO.drawn + 1 }:World)=eR at bJ ⊢
 refine oR Z (zB Z Z zP Z zG) (oL Z (bJ.ldB (j:=0) Z Z Z zU (v:=jV x155.Bib) Z) (oR Z (zB Z Z zP Z zM) (oL Z (bJ.ldB (j:=0) Z Z Z zf (v:=.slice bE x155.Classes.length bG) Z) (OKS.both ?_ ?_))))
 refine zN 0 Z Z Z Z (zJ Z Z Tryz.call33 (zC Z zO) Z) bJ (fun hs=>wBa x155.Classes bE bG eR bH hs dU dV) (.inr Z) ?_
 rintro cJ jQ lm eS jJ g9 ⟨bY,cj,rfl,rfl⟩
 let dr:Res:=.row bY cj 3 1 (hH KL.encI x187)
 have ib:sW w U cJ [dr,.blk ap 43 B7,.blk b6 28 B1,.blk b2 28 B0,B9,az,B8] eS:=g9
 let cC:List Value:=[jV x155.Bib,.slice bY x187.length cj,.slice none 0 0]
 refine oR Z (ZO (pv:=[(0,jV x155.Bib),(1,.slice bY x187.length cj)]) (z:=B6) (cs:=cC) Z (wAI Z (wAI Z wAT)) ZK wHZ Z Z) (zo (cs:=B6) Z Z Z Z Z ZK Z ib ?_)
 intro j5 dE ic
 refine zY (j:=0) (vs:=cC) Z Z Z Z ic Z Z Z Z zk (zA Z) Z Z Z ?_
 intro eT ie
 have ig:sW w U cJ [.blk dE 43 cC,dr,.blk ap 43 B7,.blk b6 28 B1,.blk b2 28 B0,B9,az,B8] eT:=ie
 refine zr ?_
 cases eE
 exact zF ⟨rfl,⟨cJ,dE,bY,cj,dN,dO,rfl,rfl,cV,cW,ct,jJ,(ig.pick [2,3,4,5,6,7,0,1] _ (by decide) rfl)⟩⟩
 refine zo (cs:=B6) Z Z Z Z Z ZK Z bJ ?_
 intro eU cR ii
 refine zN 0 Z Z Z Z (zJ Z Z Tryz.call33 (zC Z zO) Z) ii (fun hs=>wBa x155.Classes bE bG eU bH hs dU dV) (.inr Z) ?_
 rintro cK jR ln eV jK ij ⟨bZ,cm,rfl,rfl⟩
 let dt:Res:=.row bZ cm 3 1 (hH KL.encI x187)
 have ik:sW w U cK [dt,.blk cR 43 B6,.blk ap 43 B7,.blk b6 28 B1,.blk b2 28 B0,B9,az,B8] eV:=ij
 let cD:List Value:=[jV x155.Bib,.slice bZ x187.length cm,.slice none 0 0]
 refine oR Z (ZO (pv:=[(0,jV x155.Bib),(1,.slice bZ x187.length cm)]) (z:=B6) (cs:=cD) Z (wAI Z (wAI Z wAT)) ZK wHZ Z Z) (zY (j:=1) (vs:=cD) Z Z Z Z ik Z Z Z Z zk (zA Z) Z Z Z ?_)
 intro eW il
 have im:sW w U cK [dt,.blk cR 43 cD,.blk ap 43 B7,.blk b6 28 B1,.blk b2 28 B0,B9,az,B8] eW:=il
 refine zr ?_
 cases eE
 exact zF ⟨rfl,⟨cK,cR,bZ,cm,dN,dO,rfl,rfl,cV,cW,ct,jK,(im.pick [2,3,4,5,6,7,1,0] _ (by decide) rfl)⟩⟩
 rintro lE j6 ⟨ci,aM,aJ,aQ,fE,fG,fH,fJ,fK,fL,fM,bL,en⟩
 refine zE (sR fL4 Z (oR Z (zB Z fH zP Z zz) (oL Z (en.ldB (j:=0) Z Z Z Zi (v:=.slice bP x155.Legs.length bS) Z) (oR Z (zV Z Z zt) (oM Z Z (eN (zR (bnK jk fun bp jc jl=>?_))))))))
 have q:=wCD jc
 obtain ⟨dk,jd⟩:=q
 replace dk:=zD dk
 refine CK.forN' (fun bA bC σ_ w_=>∃ (U_:PHeap) (br:Option Addr) (bv:Nat) (bj:List Value),σ_ 31=jV (↑bA:Int)/\σ_ 2=.pointer (some ⟨b6,0,none⟩)/\σ_ 3=.pointer (some ⟨aU,0,none⟩)/\σ_ 6=.pointer (some ⟨aM,0,none⟩)/\σ_ 16=.slice bm p0.Teams.length bn/\σ_ 17=jV (↑p0.Teams.length:Int)/\σ_ 18=jV (↑ba:Int)/\σ_ 29=.slice bP x155.Legs.length bS/\σ_ 30=jV (↑x155.Legs.length:Int)/\PHeap.Le ci U_/\sW w U U_ [.blk ap 43 B7,.blk b6 28 B1,.blk b2 28 B0,.row aK aN 3 1 (hH KL.encI aV),az,B8,.row aJ aQ 3 1 (hH KL.encI aI),.row br bv 46 3 bj,.blk aM 43 [jV x155.Bib,.slice aJ aI.length aQ,.slice br bC.length bv]] w_/\RlT ci U_ wPu bC bj) jd ?_ ?_ ?_
 have io:=en.nilrow 46 3
 exact ⟨ci,none,0,[],rfl,fE,fG,fJ,fK,fL,fM,rfl,rfl,(zL _),(io.pick [1,2,3,4,5,6,8,0,7] _ (by decide) rfl),RlT.nil⟩
 rintro bA bC lA lF j7 dg ⟨cL,br,bv,bj,cZ,fN,fO,cX,fP,fQ,fR,dP,dQ,dm,eu,dX⟩ jE
 have dJ:Hid ((↑bA:Int) < (↑x155.Legs.length:Int)):=zD (wBh dg)
 replace dg:=zD dg
 have jh:Hid (w64 ((↑bA:Int) + 1)=(↑(bA + 1):Int)):=zD (by have h1:=dk.out;have h2:=dJ.out;rw [wAU] <;> omega)
 refine sR fL1 Z (oR Z (zZ Z cZ dQ) (eN (zE (cT Z dJ (kN (zE (zR (sR gBn Z (bnK jE fun aq dY jm=>?_)))))))))
 have gj:=gi.le bL
 have gk:=gj.le dm
 have q:=gk.el (wAX dY)
 obtain ⟨ft,jO,ly,gL,db,ju⟩:=q
 obtain ⟨bQ,bT,bR,bU,rfl,gm,gq⟩:=ju
 replace db:Cl cL ft (jO + bA * 3) [jV aq.Skier,.slice bQ aq.Loops.length bT,.slice bR aq.Bouts.length bU]:=db
 refine oR Z (zy Z dP gL cZ zt zn (wAw dY)) (oL Z (eu.ldCA (f:=0) db Z Z Zv zn (us:=[jV aq.Skier,.slice bQ aq.Loops.length bT,.slice bR aq.Bouts.length bU]) Z Z) (zo (cs:=B6) Z Z Z Z Z ZC Z eu ?_))
 intro j8 aZ iq
 let aW:List Value:=[jV aq.Skier,.slice bQ aq.Loops.length bT,.slice bR aq.Bouts.length bU]
 refine zY (j:=0) (vs:=aW) Z Z Z Z iq Z Z Z Z zn (zA Z) Z Z Z ?_
 intro cP ir
 let bh:Res:=.blk aM 43 [jV x155.Bib,.slice aJ aI.length aQ,.slice br bC.length bv]
 let aY:Res:=.row aJ aQ 3 1 (hH KL.encI aI)
 let bs:Res:=.row br bv 46 3 bj
 have it:sW w U cL [.blk aZ 46 aW,.blk ap 43 B7,.blk b6 28 B1,.blk b2 28 B0,B9,az,B8,aY,bs,bh] cP:=ir
 refine eN (Zb ZV [3,1,3,1,3,1,2,3,1,2,3,2,0,3,0] (wKo (.fl 7 (.fl 8 (.fx 6 (.fx 9 (.fl 10 (.fx 11 (.fx 12 (.fl 13 (.fx 14 .nil .stop)) .stop) .stop)) .stop) .stop)))) (by kernel_rfl) ?_)
 have bz:=it.drew
 generalize hw_W343:({ cP with drawn:=cP.drawn + 1 }:World)=eX at bz ⊢
 refine oR Z (zB Z cX zP Z zz) (oL Z (bz.ldB (j:=9) Z Z Z Zi (v:=.slice br bC.length bv) Z) (oR Z (zB Z Z zX Z zG) (oL Z (bz.ldB (j:=0) Z Z Z zU (v:=jV aq.Skier) Z) (oR Z (zB Z Z zX Z zM) (oL Z (bz.ldB (j:=0) Z Z Z zf (v:=.slice bQ aq.Loops.length bT) Z) (oR Z (zB Z Z zX Z Ze) (oL Z (bz.ldB (j:=0) Z Z Z Zz (v:=.slice bR aq.Bouts.length bU) Z) (bnK jm fun aX gu jo=>zN 0 Z Z Z Z (zJ Z Z Tryz.call33 (zC Z zO) Z) bz (fun hs=>wBa aq.Loops bQ bT eX cL hs gm gu) (.inr Z) ?_))))))))
 rintro dz jS lq dB bM iu ⟨bg,bI,rfl,rfl⟩
 let du:Res:=.row bg bI 3 1 (hH KL.encI aX)
 have iv:sW w U dz [du,.blk aZ 46 aW,.blk ap 43 B7,.blk b6 28 B1,.blk b2 28 B0,B9,az,B8,aY,bs,bh] dB:=iu
 have gv:=gq.le bM
 refine bnK jo fun bf gw jp=>zN 0 Z Z Z Z (zJ Z Z Tryz.call34 (zC Z zO) Z) iv (fun hs=>wCy aq.Bouts bR bU dB dz hs gv gw) (.inr Z) ?_
 rintro eO jU lu cQ bN iw ⟨aL,a0,dK,rfl,rfl,dZ⟩
 have iy:sW w U eO [.row aL a0 47 1 dK,du,.blk aZ 46 aW,.blk ap 43 B7,.blk b6 28 B1,.blk b2 28 B0,B9,az,B8,aY,bs,bh] cQ:=iw
 let aS:List Value:=[jV aq.Skier,.slice bg aX.length bI,.slice aL bf.length a0]
 refine oR Z (ZO (pv:=[(0,jV aq.Skier),(1,.slice bg aX.length bI),(2,.slice aL bf.length a0)]) (z:=B6) (cs:=aS) Z (wAI Z (wAI Z (wAI Z wAT))) ZC wHa Z Z) ?_
 have q:=iy.freezeRP (k:=1) rfl
 obtain ⟨eP,bk,eb,gP,iA⟩:=q
 have jv:=eb.sl (n:=aX.length) (wAL (f:=KL.encI) (sz:=1) (fun _=>rfl) aX) (by decide)
 have iB:sW w U eP [.row aL a0 47 1 dK,.blk aZ 46 aW,.blk ap 43 B7,.blk b6 28 B1,.blk b2 28 B0,B9,az,B8,aY,bs,bh] cQ:=iA
 have d7:=dZ.le bk
 have q:=iB.freezeRP (k:=0) rfl
 obtain ⟨aO,bb,ed,gQ,iC⟩:=q
 have jw:SlR aO wGx aL a0 bf:=⟨_,ed.sl (RlL.len (d7).toL) (by decide),RlL.le (d7).toL bb⟩
 have iD:sW w U aO [.blk aZ 46 aW,.blk ap 43 B7,.blk b6 28 B1,.blk b2 28 B0,B9,az,B8,aY,bs,bh] cQ:=iC
 refine zu (pv:=[(0,.agg aS.toArray)]) (zs:=B6) (cs:=aS) Z Z Z Z Z (wAI Z wAT) zt zn ZC Z Z Z Z Z iD ?_
 intro eY fu iz
 have gx:=jv.le bb
 have eH:RlL aO wEf [(⟨aq.Skier,aX,bf⟩:wAB)] aS:=(RlL.cons (R:=wEf) (x:=(⟨aq.Skier,aX,bf⟩:wAB)) (vs:=aS) ⟨bg,bI,aL,a0,rfl,gx,jw⟩ RlL.nil)
 obtain ⟨cu,ge,eK⟩:=dZ
 have gM:SlF aO wPN aL a0 bf (cu ++ bks aL):=by have g:=(ge.up (eK.stay (bk.trans bb)));exact ⟨_,_,(ed.le (zL _)).sl (RlL.len g.toL) (by decide),g,rfl⟩
 have gR:Ows _ aO (bks bg ++ (cu ++ bks aL)):=(((eK.cat gP bN (zL _) bk).cat gQ (bN.trans bk) (zL _) bb).le (zL _)).perm (by intro b;first | rfl | (simp only [nD,nG];omega))
 have je:wPu.f aO (⟨aq.Skier,aX,bf⟩:wAB) aS (bks bg ++ (cu ++ bks aL)):=⟨bg,bI,aL,a0,(cu ++ bks aL),rfl,(eb.le bb),gM,rfl⟩
 let cE:Res:=.row (some ⟨fu,0,none⟩) 1 46 3 aS
 have ey:sW w U aO [cE,.blk aZ 46 aW,.blk ap 43 B7,.blk b6 28 B1,.blk b2 28 B0,B9,az,B8,aY,bs,bh] eY:=iz
 refine bnK jp fun cy gy jq=>?_
 have gz:=dX.le bM
 have gA:=gz.le bN
 have gB:=gA.le bk
 have gC:=gB.le bb
 refine OKS.appendRT (R:=wEf) (j:=9) (xs:=bC) (ys:=[(⟨aq.Skier,aX,bf⟩:wAB)]) (zs:=cy) rfl rfl rfl rfl rfl Tryz.underlying41 wIK rfl rfl rfl rfl rfl rfl rfl ey rfl rfl rfl (gC).toL eH (ey.srcR (j:=0) rfl (by decide) (RlL.len eH)) gy rfl ?_
 intro b5 cn eZ iE lh jG
 have jz:RlT ci aO wPu cy (bj ++ aS):=by rw [jG];exact RlT.snoc dX je gR dm bM (((bM.trans bN).trans bk).trans bb)
 let dw:Res:=.row b5 cn 46 3 (bj ++ aS)
 have iF:sW w U aO [cE,.blk aZ 46 aW,.blk ap 43 B7,.blk b6 28 B1,.blk b2 28 B0,B9,az,B8,aY,dw,bh] eZ:=iE
 refine oR Z (zB Z cX zP Z zz) (zY (j:=10) (vs:=[.slice b5 cy.length cn]) Z Z Z Z iF Z Z Z Z zz (zA Z) Z Z Z ?_)
 intro e8 iG
 have iH:sW w U aO [cE,.blk aZ 46 aW,.blk ap 43 B7,.blk b6 28 B1,.blk b2 28 B0,B9,az,B8,aY,dw,.blk aM 43 [jV x155.Bib,.slice aJ aI.length aQ,.slice b5 cy.length cn]] e8:=iG
 refine zr (zj (zF (rR fL2 Z (oR Z (ZP (ze Z cZ Z) (congrArg (jV) jh.out)) (oM Z Z (zr ?_))))))
 cases jq
 exact zF ⟨rfl,⟨aO,b5,cn,(bj ++ aS),rfl,fN,fO,cX,fP,fQ,fR,dP,dQ,((((dm.trans bM).trans bN).trans bk).trans bb),(iH.pick [2,3,4,5,6,7,8,9,10] _ (by decide) rfl),jz⟩⟩
 rintro lG dC ⟨jY,aR,bw,fy,gb,fS,cY,fT,fU,fV,fW,lc,fY,bO,de,d8⟩
 have fz:Hid (¬ ((↑(((↑x155.Legs.length:Int):Int) - 0).toNat:Int) < (↑x155.Legs.length:Int))):=zD (wBH)
 refine sR fL1 Z (oR Z (zZ Z gb fY) (eN (zE (cF Z fz (ZM (zW (zW (ZB (zF (rR (wCu (.fx 3 (.fx 4 (.fl 5 (.fx 6 .nil .stop)) .stop) .stop)) Z (oR Z (zB Z cY zH Z ZD) (oL Z (de.ldB (j:=5) Z Z Z ZX (v:=.slice bq bB.length bu) Z) ?_))))))))))))
 let aH:List Value:=[jV x155.Bib,.slice aJ aI.length aQ,.slice aR bp.length bw]
 refine oL Z (de.ldBA (j:=8) Z Z fT Zl zk (vs:=aH) Z Z) ?_
 have q:=de.freezeRP (k:=6) rfl
 obtain ⟨eQ,bl,eg,gS,iJ⟩:=q
 have jx:=eg.sl (n:=aI.length) (wAL (f:=KL.encI) (sz:=1) (fun _=>rfl) aI) (by decide)
 have iK:sW w U eQ [.blk ap 43 B7,.blk b6 28 B1,.blk b2 28 B0,B9,az,B8,.row aR bw 46 3 fy,.blk aM 43 aH] dC:=iJ
 have d9:=d8.le bl
 have q:=iK.freezeRP (k:=6) rfl
 obtain ⟨aP,be,eh,gT,iL⟩:=q
 have jy:SlR aP wEf aR bw bp:=⟨_,eh.sl (RlL.len (d9).toL) (by decide),RlL.le (d9).toL be⟩
 have iM:sW w U aP [.blk ap 43 B7,.blk b6 28 B1,.blk b2 28 B0,B9,az,B8,.blk aM 43 aH] dC:=iL
 refine zu (pv:=[(0,.agg aH.toArray)]) (zs:=B6) (cs:=aH) Z Z Z Z Z (wAI Z wAT) zg zk ZK Z Z Z Z Z iM ?_
 intro fb fw iI
 have gD:=jx.le be
 have eI:RlL aP wFN [(⟨x155.Bib,aI,bp⟩:wAD)] aH:=(RlL.cons (R:=wFN) (x:=(⟨x155.Bib,aI,bp⟩:wAD)) (vs:=aH) ⟨aJ,aQ,aR,bw,rfl,gD,jy⟩ RlL.nil)
 obtain ⟨cw,gf,eM⟩:=d8
 have gO:SlF aP wPu aR bw bp (cw ++ bks aR):=by have g:=(gf.up (eM.stay (bl.trans be)));exact ⟨_,_,(eh.le (zL _)).sl (RlL.len g.toL) (by decide),g,rfl⟩
 have gU:Ows _ aP (bks aJ ++ (cw ++ bks aR)):=(((eM.cat gS bO (zL _) bl).cat gT (bO.trans bl) (zL _) be).le (zL _)).perm (by intro b;first | rfl | (simp only [nD,nG];omega))
 have jf:wPv.f aP (⟨x155.Bib,aI,bp⟩:wAD) aH (bks aJ ++ (cw ++ bks aR)):=⟨aJ,aQ,aR,bw,(cw ++ bks aR),rfl,(eg.le be),gO,rfl⟩
 let cG:Res:=.row (some ⟨fw,0,none⟩) 1 43 3 aH
 have ez:sW w U aP [cG,.blk ap 43 B7,.blk b6 28 B1,.blk b2 28 B0,B9,az,B8,.blk aM 43 aH] fb:=iI
 refine bnK jl fun cz gE jr=>?_
 have gF:=dS.le bL
 have gG:=gF.le bO
 have gH:=gG.le bl
 have gI:=gH.le be
 refine OKS.appendRT (R:=wFN) (j:=5) (xs:=bB) (ys:=[(⟨x155.Bib,aI,bp⟩:wAD)]) (zs:=cz) rfl rfl rfl rfl rfl Tryz.underlying26 wMe rfl rfl rfl rfl rfl rfl rfl ez rfl rfl rfl (gI).toL eI (ez.srcR (j:=0) rfl (by decide) (RlL.len eI)) gE rfl ?_
 intro b8 cp fc iN li jH
 have jA:RlT cg aP wPv cz (bi ++ aH):=by rw [jH];exact RlT.snoc dS jf gU dl bL (((bL.trans bO).trans bl).trans be)
 let dx:Res:=.row b8 cp 43 3 (bi ++ aH)
 have iO:sW w U aP [cG,.blk ap 43 B7,.blk b6 28 B1,.blk b2 28 B0,B9,dx,B8,.blk aM 43 aH] fc:=iN
 refine oR Z (zB Z cY zH Z ZD) (zY (j:=6) (vs:=[.slice b8 cz.length cp]) Z Z Z Z iO Z Z Z Z ZD (zA Z) Z Z Z ?_)
 intro fe iP
 have iQ:sW w U aP [cG,.blk ap 43 B7,.blk b6 28 B1,.blk b2 28 B0,B9,dx,.blk aU 28 [.slice aK aV.length aN,jV x14,jV x15,jV bV,jV bW,jV bX,jV p0.Start,.slice b8 cz.length cp],.blk aM 43 aH] fe:=iP
 refine zr (zj (zF (rR fL2 Z (oR Z (ZP (ze Z fW Z) (congrArg (jV) jg.out)) (oM Z Z (zr ?_))))))
 cases jr
 exact zF ⟨rfl,⟨aP,b8,cp,(bi ++ aH),rfl,fS,cY,fU,fV,((((dl.trans bL).trans bO).trans bl).trans be),(iQ.pick [2,3,4,5,6] _ (by decide) rfl),jA⟩⟩
 rintro lH j9 ⟨dA,cA,cU,dL,gc,dR,fZ,lf,ga,lj,eA,gJ⟩
 have fA:Hid (¬ ((↑(((↑p0.Teams.length:Int):Int) - 0).toNat:Int) < (↑p0.Teams.length:Int))):=zD (wBH)
 refine sR fL1 Z (oR Z (zZ Z gc ga) (eN (zE (cF Z fA (ZM (zW (zW (ZB (zF (sR gBd Z ?_))))))))))
 let bt:List Value:=[.slice aK aV.length aN,jV x14,jV x15,jV bV,jV bW,jV bX,jV p0.Start,.slice cA jP.length cU]
 refine oL Z (eA.ldBA (j:=4) Z Z fZ Zc zp (vs:=bt) Z Z) (zY (j:=0) (vs:=bt) Z Z Z Z eA Z dR Z Z zp (zA Z) Z Z Z ?_)
 intro ff iT
 have eC:sW w U dA [.blk b6 28 bt,.blk b2 28 B0,.row aK aN 3 1 (hH KL.encI aV),.row cA cU 43 3 dL,.blk aU 28 bt] ff:=iT
 refine eN (zQ ?_)
 cases ji
 exact ⟨rfl,_,(wDv (v:=.agg bt.toArray) ⟨⟨_,dR,(wDU Zc zp (eC.blkAt (k:=0) rfl) (vs:=bt) rfl rfl)⟩,trivial⟩),dA,_,(eC.pick [2,3] _ (by decide) rfl),aK,aN,cA,cU,dL,rfl,rfl,(gJ).low eJ⟩
end Go.Proofs.YtnbcoenjobdplaaGreat
namespace Go.Proofs.YtnbcoenjobdplaaGreat
open Go.KL
set_option maxHeartbeats 4000000
theorem wDJ (p0:Int) (p1:Int) (w:World) (U:PHeap) (hS:St0 w U [])  {r:Int} (hm:wAv p0 p1=some r):Gv Tryz.prog 10 [jV p0,jV p1] w (wCi w [] U (fun U_ L_ v=>v=jV r/\L_=[])):=by
 unfold wAv at hm
 refine Gv.of Tryz.func10 Z Tryz.ntmps10 Tryz.results10 Z (sR fL1 Z (oA Z Z (eN (zE (sR fL2 Z (oM Z Z (oR Z (Runs.leq Z Z Z) (eN ?_))))))))
 by_cases c1:p1 <= 0
 have ah:=hm;rw [if_pos c1] at ah;replace c1:=zD c1
 refine cT Z c1 (sR fL1 Z (oA Z Z (eN (zQ (zK ?_)))))
 cases ah
 exact ⟨Z,_,(ZA Z),U,_,hS,Z,Z⟩
 have ai:=hm;rw [if_neg c1] at ai;replace c1:=zD c1
 refine cF Z c1 (kN (sR fL8 Z (oM Z Z (oM Z Z (bnK ai fun x4 h5 ap=>oR Z (Runs.rem Z Z Z h5) (oM Z Z (oR Z (ze Z Z Z) (oM Z Z (bnK ap fun x7 h8 aq=>oR Z (Runs.rem Z Z Z h8) (oA Z Z (eN (zQ ?_))))))))))))
 have hE:=nA aq;first | subst r | cases hE
 exact ⟨Z,_,(ZA Z),U,_,hS,Z,Z⟩
theorem wCm (w:World) (U:PHeap) (hS:St0 w U []) {r:Bool} (hm:wAz=some r):Gv Tryz.prog 12 [] w (wCi w [] U (fun U_ L_ v=>v=.bool r/\L_=[])):=by
 cases hm
 refine (xr12 w).mono ?_
 rintro v w' ⟨rfl,k⟩
 exact ⟨U,[],hS.grow k,Z,Z⟩
theorem wDT (p0:List Int) (iT:Option Addr) (iW:Nat) (p1:Int) (p2:Int) (w:World) (U:PHeap) (hS:St0 w U []) (xp:Sl U 1 iT iW p0.length (hH KL.encB8 p0)) {r:Bool} (hm:wBR p0 p1 p2=some r):Gv Tryz.prog 3 [.slice iT p0.length iW,jV p1,jV p2] w (wCi w [] U (fun U_ L_ v=>v=.bool r/\L_=[])):=by
 unfold wBR at hm
 refine Gv.of Tryz.func3 Z Tryz.ntmps3 Tryz.results3 Z (sR fL1 Z (oA Z Z (eN (sR (.fl 0 (.fx 1 (.fx 2 (.fx 3 (.fx 4 .nil .stop) .stop) .stop) .stop)) Z (oM Z Z (bnK hm fun x1 h2 yW=>zN 0 Z Z Z Z (zJ Z Z Tryz.call7 (zC Z zO) Z) hS (fun hs=>wGQ p0 iT iW w U hs xp h2) (.inr Z) ?_))))))
 rintro U4 L5 v6 W7 Br xh ⟨fH,i7,jE,rfl,rfl,tu⟩
 have wh:sW w U U4 [.blk fH 100 [.slice i7 x1.bytes.length jE,jV x1.next,.int .u32 x1.state]] W7:=xh
 have q:=bnd yW
 obtain ⟨⟨aj,i6⟩,tA,mD⟩:=q
 try dsimp only at mD
 refine zN 1 Z Z Z Z (zJ Z Z Tryz.call6 (zC Z (zC Z (zC Z zO))) Z) wh (fun hs=>wEO x1 fH i7 jE 5 3 W7 U4 hs tu tA) (.inl Z) ?_
 rintro jh Ck D5 pg Bn wC ⟨cZ,dm,be,bh,pY,oG,pZ,rfl,rfl,tQ,Dt⟩
 let B0:Res:=.blk fH 100 [.slice oG i6.bytes.length pZ,jV i6.next,.int .u32 i6.state]
 let B1:Res:=.row cZ dm 3 1 (hH KL.encI aj.Rules.Classes)
 let B2:Res:=.row be bh 43 3 pY
 have wE:sW w U jh [B1,B2,B0] pg:=wC
 let B3:List Value:=[.slice none 0 0,jV 0,jV 0,jV 0,jV 0,jV 0,jV 0,.slice none 0 0]
 refine zo (cs:=B3) Z Z Z Z Z Zd Z wE ?_
 intro CF aa wH
 let B4:List Value:=[.slice cZ aj.Rules.Classes.length dm,jV aj.Rules.Each,jV aj.Rules.Laps,jV aj.Rules.Spare,jV aj.Rules.Loop,jV aj.Rules.Unused,jV aj.Start,.slice be aj.Teams.length bh]
 refine zY (j:=0) (vs:=B4) Z Z Z Z wH Z Z Z Z zp (zA Z) Z Z Z ?_
 intro dV wJ
 have mf:sW w U jh [.blk aa 28 B4,B1,B2,B0] dV:=wJ
 refine eN (sR (.fl 0 (.fx 1 (wMq gBi) .stop)) Z (oL Z (mf.ldBA (j:=0) Z Z Z Zc zp (vs:=B4) Z Z) ?_))
 have q:=mf.freezeR (k:=1) (n:=aj.Rules.Classes.length) rfl (wAL (f:=KL.encI) (sz:=1) (fun _=>rfl) aj.Rules.Classes) (by decide)
 obtain ⟨oY,mV,Be,wM⟩:=q
 have wN:sW w U oY [.blk aa 28 B4,B2,B0] dV:=wM
 have ub:=tQ.le mV
 have q:=wN.freezeRR (R:=wFN) (k:=1) rfl ub rfl (by decide)
 obtain ⟨jk,mX,mL,wO⟩:=q
 have wR:sW w U jk [.blk aa 28 B4,B0] dV:=wO
 have lW:=Be.le mX
 have q:=bnd mD
 obtain ⟨⟨x57,Ce⟩,ud,mG⟩:=q
 try dsimp only at mG
 refine zN 0 Z Z Z Z (zJ Z Z Tryz.call8 (zC Z zO) Z) wR (fun hs=>wDp aj cZ dm be bh dV jk hs lW mL ud) (.inr Z) ?_
 rintro dh Co D8 pn iQ wX ⟨fj,fV,bf,bj,p8,rfl,rfl,ui⟩
 let B5:Res:=.row fj fV 3 1 (hH KL.encI x57.Bibs)
 let B6:Res:=.row bf bj 23 1 p8
 have w6:sW w U dh [B5,B6,.blk aa 28 B4,B0] pn:=wX
 refine oM Z Z (oR Z (Zs Z Z (v:=.agg #[jV x57.Laps,.slice fj x57.Bibs.length fV,.slice bf x57.Times.length bj]) Z) (oR Z (Zs Z Z (v:=jV Ce) Z) ?_))
 let B7:List Value:=[jV 0,.slice none 0 0,.slice none 0 0]
 refine zo (cs:=B7) Z Z Z Z Z Zm Z w6 ?_
 intro CQ ae w8
 let B8:List Value:=[jV x57.Laps,.slice fj x57.Bibs.length fV,.slice bf x57.Times.length bj]
 refine zY (j:=0) (vs:=B8) Z Z Z Z w8 Z Z Z Z Zf (zA Z) Z Z Z ?_
 intro jx xa
 have cO:sW w U dh [.blk ae 34 B8,B5,B6,.blk aa 28 B4,B0] jx:=xa
 refine oA Z Z (eN (zE (sR wPx Z (oM Z Z (oR Z (Zk Z Z Z) (oM Z Z (ifc mG ?_ ?_)))))))
 intro aW Ar
 refine ZE Z Z Z (zi Z Z (ZR (fun h=>h aW.out))) (fun _=>zB Z Z zh Z zw) (Zt Z Z Z (zi Z Z (ZR (fun h=>h aW.out))) (cO.ldB (j:=0) Z Z Z ZN (v:=.slice bf x57.Times.length bj) Z) Z (ZE Z Z Z (zi Z Z (ZR (fun h=>h aW.out))) (fun _=>zV Z Z zm) (ZE Z Z Z (zi Z Z (ZR (fun h=>h aW.out))) (fun _=>zB Z Z zH Z ZD) (Zt Z Z Z (zi Z Z (ZR (fun h=>h aW.out))) (cO.ldB (j:=3) Z Z Z ZX (v:=.slice be aj.Teams.length bh) Z) Z (ZE Z Z Z (zi Z Z (ZR (fun h=>h aW.out))) (fun _=>zV Z Z zg) (ZE Z Z Z (zi Z Z (ZR (fun h=>h aW.out))) (fun _=>Zk Z Z Z) (oR Z (ZH Z (ZR (fun h=>h aW.out)) Z) (eN (ifc Ar ?_ ?_)))))))))
 intro fY Au
 refine zx (ZR (fun h=>h fY.out)) (kN (sR gBo Z (oL Z (cO.ldBA (j:=3) Z Z Z Zc zp (vs:=B4) Z Z) ?_)))
 have l3:=lW.le iQ
 have gA:=mL.le iQ
 refine bnK Au fun x89 ur AA=>zN 0 Z Z Z Z (zJ Z Z Tryz.call9 (zC Z zO) Z) cO (fun hs=>wCl aj cZ dm be bh jx dh hs l3 gA ur) (.inr Z) ?_
 rintro fB Cs Ec pz dI xo ⟨cb,cm,bL,bR,pV,rfl,rfl,sS⟩
 let B9:Res:=.row cb cm 3 1 (hH KL.encI x89.Rules.Classes)
 let bB:Res:=.row bL bR 43 3 pV
 have vK:sW w U fB [B9,bB,.blk ae 34 B8,B5,B6,.blk aa 28 B4,B0] pz:=xo
 refine zo (cs:=B3) Z Z Z Z Z Zd Z vK ?_
 intro Cu cg vP
 let fm:List Value:=[.slice cb x89.Rules.Classes.length cm,jV x89.Rules.Each,jV x89.Rules.Laps,jV x89.Rules.Spare,jV x89.Rules.Loop,jV x89.Rules.Unused,jV x89.Start,.slice bL x89.Teams.length bR]
 refine zY (j:=0) (vs:=fm) Z Z Z Z vP Z Z Z Z zp (zA Z) Z Z Z ?_
 intro jt vU
 have vV:sW w U fB [.blk cg 28 fm,B9,bB,.blk ae 34 B8,B5,B6,.blk aa 28 B4,B0] jt:=vU
 refine eN (sR (.fl 0 gBa) Z (oM Z Z (bnK AA fun x114 s9 yh=>zN 0 Z Z Z Z (zJ Z Z Tryz.call10 (zC Z (zC Z zO)) Z) vV (fun hs=>wDJ p2 200 jt fB hs s9) (.inr Z) ?_)))
 rintro bO Ch DY fC cW vW ⟨rfl,rfl⟩
 have vX:sW w U bO [.blk cg 28 fm,B9,bB,.blk ae 34 B8,B5,B6,.blk aa 28 B4,B0] fC:=vW
 refine oA Z Z (eN ?_)
 have q:=bnd yh
 obtain ⟨⟨⟩,mO,mz⟩:=q
 try dsimp only at mz
 let au:Res:=.blk cg 28 [.slice cb x89.Rules.Classes.length cm,jV x89.Rules.Each,jV x89.Rules.Laps,jV (max 0 (w64 (aj.Rules.Spare - x114))),jV (max 0 (w64 (aj.Rules.Loop - x114))),jV x89.Rules.Unused,jV x89.Start,.slice bL x89.Teams.length bR]
 refine CK.cut (fun σ_ w_=>∃ (U_:PHeap),σ_ 1=jV p1/\σ_ 7=.pointer (some ⟨aa,0,none⟩)/\σ_ 8=.pointer (some ⟨ae,0,none⟩)/\σ_ 10=.pointer (some ⟨cg,0,none⟩)/\PHeap.Le bO U_/\sW w U U_ [B9,bB,au,B5,B6,.blk ae 34 B8,.blk aa 28 B4,B0] w_) ?_ ?_
 refine CK.fresh fun dN cS=>?_
 have jX:dN 1=jV p1:=(cS 1).trans rfl
 have d9:dN 7=.pointer (some ⟨aa,0,none⟩):=(cS 7).trans rfl
 have jY:dN 8=.pointer (some ⟨ae,0,none⟩):=(cS 8).trans rfl
 have dt:dN 10=.pointer (some ⟨cg,0,none⟩):=(cS 10).trans rfl
 have jZ:dN 11=jV x114:=(cS 11).trans rfl
 clear cS
 refine Zb ZV [3,3,1,3,3,3,3,3,2,3,3,3,3,3,0,3,3,0] (fC0_7 (.fl 9 (.fl 12 (.fl 13 (.fx 8 (.fl 10 (.fl 11 (.fx 14 gBj .stop))) (.fx 14 (.fx 8 (.fl 10 (.fl 11 gBj)) .stop) .stop)))))) (by kernel_rfl) ?_
 have dz:=vX.drew
 generalize hw_W141:({ fC with drawn:=fC.drawn + 1 }:World)=Cz at dz ⊢
 refine oR Z (zB Z d9 zH Z zq) (oR Z (zB Z Z zS Z zG) (oL Z (dz.ldB (j:=6) Z Z Z zU (v:=jV aj.Rules.Spare) Z) (oM Z jZ (oR Z (Zg Z Z Z) (oR Z (Runs.max Z Z Z) (oR Z (zB Z d9 zH Z zq) (oR Z (zB Z Z zS Z zG) (oM Z jZ (oR Z (zB Z dt zH Z zq) (oR Z (zB Z Z zS Z zG) (OKS.both ?_ ?_)))))))))))
 refine OKS.mx2 Z Z Z Z (dz.ldB (j:=6) Z Z Z zU (v:=jV aj.Rules.Loop) Z) (oR Z (Zg Z Z Z) (oR Z (Runs.max Z Z Z) (zY (j:=0) (vs:=[jV (max 0 (w64 (aj.Rules.Spare - x114)))]) Z Z Z Z dz Z Z Z Z zG (zA Z) Z Z Z ?_)))
 intro o9 wb
 have wc:sW w U bO [.blk cg 28 [.slice cb x89.Rules.Classes.length cm,jV x89.Rules.Each,jV x89.Rules.Laps,jV (max 0 (w64 (aj.Rules.Spare - x114))),jV x89.Rules.Loop,jV x89.Rules.Unused,jV x89.Start,.slice bL x89.Teams.length bR],B9,bB,.blk ae 34 B8,B5,B6,.blk aa 28 B4,B0] o9:=wb
 refine oR Z (zB Z dt zH Z zq) (oR Z (zB Z Z zS Z zG) (zY (j:=0) (vs:=[jV (max 0 (w64 (aj.Rules.Loop - x114)))]) Z Z Z Z wc Z Z Z Z zG (zA Z) Z Z Z ?_))
 intro pa wd
 have we:sW w U bO [au,B9,bB,.blk ae 34 B8,B5,B6,.blk aa 28 B4,B0] pa:=wd
 refine zr ?_
 cases mO
 exact zF ⟨rfl,⟨bO,jX,d9,jY,dt,(zL _),(we.pick [1,2,0,4,5,3,6,7] _ (by decide) rfl)⟩⟩
 refine zY (j:=0) (vs:=[jV (max 0 (w64 (aj.Rules.Spare - x114)))]) Z Z Z Z dz Z Z Z Z zG (zA Z) Z Z Z ?_
 intro pb wg
 have mb:sW w U bO [.blk cg 28 [.slice cb x89.Rules.Classes.length cm,jV x89.Rules.Each,jV x89.Rules.Laps,jV (max 0 (w64 (aj.Rules.Spare - x114))),jV x89.Rules.Loop,jV x89.Rules.Unused,jV x89.Start,.slice bL x89.Teams.length bR],B9,bB,.blk ae 34 B8,B5,B6,.blk aa 28 B4,B0] pb:=wg
 refine OKS.mx2 Z Z Z Z (mb.ldB (j:=6) Z Z Z zU (v:=jV aj.Rules.Loop) Z) (oR Z (Zg Z Z Z) (oR Z (Runs.max Z Z Z) (oR Z (zB Z dt zH Z zq) (oR Z (zB Z Z zS Z zG) (zY (j:=0) (vs:=[jV (max 0 (w64 (aj.Rules.Loop - x114)))]) Z Z Z Z mb Z Z Z Z zG (zA Z) Z Z Z ?_)))))
 intro pe wi
 have wj:sW w U bO [au,B9,bB,.blk ae 34 B8,B5,B6,.blk aa 28 B4,B0] pe:=wi
 refine zr ?_
 cases mO
 exact zF ⟨rfl,⟨bO,jX,d9,jY,dt,(zL _),(wj.pick [1,2,0,4,5,3,6,7] _ (by decide) rfl)⟩⟩
 rintro EO fD ⟨Ct,qH,j0,j3,qI,cX,mc⟩
 refine sR (.fl 0 (.fx 1 (wMq gBi) .stop)) Z (oL Z (mc.ldBA (j:=2) Z Z qI Zc zp (vs:=[.slice cb x89.Rules.Classes.length cm,jV x89.Rules.Each,jV x89.Rules.Laps,jV (max 0 (w64 (aj.Rules.Spare - x114))),jV (max 0 (w64 (aj.Rules.Loop - x114))),jV x89.Rules.Unused,jV x89.Start,.slice bL x89.Teams.length bR]) Z Z) ?_)
 have q:=mc.freezeR (k:=0) (n:=x89.Rules.Classes.length) rfl (wAL (f:=KL.encI) (sz:=1) (fun _=>rfl) x89.Rules.Classes) (by decide)
 obtain ⟨oU,cY,Bb,wk⟩:=q
 have wl:sW w U oU [bB,au,B5,B6,.blk ae 34 B8,.blk aa 28 B4,B0] fD:=wk
 have tv:=sS.le cW
 have tw:=tv.le cX
 have lQ:=tw.le cY
 have q:=wl.freezeRP (k:=0) rfl
 obtain ⟨fy,ct,vz,DA,wn⟩:=q
 have Bc:SlR fy wFN bL bR x89.Teams:=⟨_,vz.sl (RlL.len (lQ).toL) (by decide),RlL.le (lQ).toL ct⟩
 have wo:sW w U fy [au,B5,B6,.blk ae 34 B8,.blk aa 28 B4,B0] fD:=wn
 have tz:=Bb.le ct
 have q:=bnd mz
 obtain ⟨⟨x179,x180⟩,tB,mC⟩:=q
 try dsimp only at mC
 refine zN 0 Z Z Z Z (zJ Z Z Tryz.call8 (zC Z zO) Z) wo (fun hs=>wDp (⟨(⟨x89.Rules.Classes,x89.Rules.Each,x89.Rules.Laps,max 0 (w64 (aj.Rules.Spare - x114)),max 0 (w64 (aj.Rules.Loop - x114)),x89.Rules.Unused⟩:wAC),x89.Start,x89.Teams⟩:wAF) cb cm bL bR fD fy hs tz Bc tB) (.inr Z) ?_
 rintro dQ Cj D0 pf dE wp ⟨fh,fQ,b8,cj,jG,rfl,rfl,tC⟩
 let av:Res:=.row fh fQ 3 1 (hH KL.encI x179.Bibs)
 have wq:sW w U dQ [av,.row b8 cj 23 1 jG,au,B5,B6,.blk ae 34 B8,.blk aa 28 B4,B0] pf:=wp
 refine oM Z Z (oR Z (Zs Z Z (v:=.agg #[jV x179.Laps,.slice fh x179.Bibs.length fQ,.slice b8 x179.Times.length cj]) Z) (oR Z (Zs Z Z (v:=jV x180) Z) (zo (cs:=B7) Z Z Z Z Z Zm Z wq ?_)))
 intro CA aH wt
 let az:List Value:=[jV x179.Laps,.slice fh x179.Bibs.length fQ,.slice b8 x179.Times.length cj]
 refine zY (j:=0) (vs:=az) Z Z Z Z wt Z Z Z Z Zf (zA Z) Z Z Z ?_
 intro fE wu
 have cN:sW w U dQ [.blk aH 34 az,av,.row b8 cj 23 1 jG,au,B5,B6,.blk ae 34 B8,.blk aa 28 B4,B0] fE:=wu
 refine oA Z Z (eN (zE (sR wPx Z (oM Z Z (oR Z (Zk Z Z Z) (oM Z Z (ifc mC ?_ ?_)))))))
 intro aV yT
 refine ZE Z Z Z (zi Z Z (ZR (fun h=>h aV.out))) (fun _=>zB Z Z zh Z zw) (Zt Z Z Z (zi Z Z (ZR (fun h=>h aV.out))) (cN.ldB (j:=0) Z Z Z ZN (v:=.slice b8 x179.Times.length cj) Z) Z (ZE Z Z Z (zi Z Z (ZR (fun h=>h aV.out))) (fun _=>zV Z Z zm) (ZE Z Z Z (zi Z Z (ZR (fun h=>h aV.out))) (fun _=>zB Z j0 zH Z ZD) (Zt Z Z Z (zi Z Z (ZR (fun h=>h aV.out))) (cN.ldB (j:=7) Z Z Z ZX (v:=.slice be aj.Teams.length bh) Z) Z (ZE Z Z Z (zi Z Z (ZR (fun h=>h aV.out))) (fun _=>zV Z Z zg) (ZE Z Z Z (zi Z Z (ZR (fun h=>h aV.out))) (fun _=>Zk Z Z Z) (oR Z (ZH Z (ZR (fun h=>h aV.out)) Z) (eN (ifc yT ?_ ?_)))))))))
 intro fR eT
 refine zx (ZR (fun h=>h fR.out)) (kN (zE (sR fL4 Z (oR Z (zB Z j3 zh Z zw) (oL Z (cN.ldB (j:=6) Z Z Z ZN (v:=.slice bf x57.Times.length bj) Z) (oR Z (zV Z Z zm) (oM Z Z (eN (zR ?_)))))))))
 have q:=cN.freezeRR (R:=wIU) (k:=2) rfl tC rfl (by decide)
 obtain ⟨oW,dF,Bd,wv⟩:=q
 have ww:sW w U oW [.blk aH 34 az,av,au,B5,B6,.blk ae 34 B8,.blk aa 28 B4,B0] fE:=wv
 have tD:=ui.le dI
 have tE:=tD.le cW
 have tF:=tE.le cX
 have tG:=tF.le cY
 have tH:=tG.le ct
 have tI:=tH.le dE
 have tJ:=tI.le dF
 have q:=ww.freezeRR (R:=wIU) (k:=4) rfl tJ rfl (by decide)
 obtain ⟨fz,dG,mK,wy⟩:=q
 have wz:sW w U fz [.blk aH 34 az,av,au,B5,.blk ae 34 B8,.blk aa 28 B4,B0] fE:=wy
 have q:=wCH eT
 obtain ⟨DS,eR⟩:=q
 have q:=wCG eR
 obtain ⟨iz,xL⟩:=q
 replace iz:=zD iz
 refine yB (fun bk _ σ_ w_=>∃ (U_:PHeap),σ_ 91=jV (↑bk:Int)/\σ_ 1=jV p1/\σ_ 7=.pointer (some ⟨aa,0,none⟩)/\σ_ 8=.pointer (some ⟨ae,0,none⟩)/\σ_ 12=.pointer (some ⟨aH,0,none⟩)/\σ_ 90=jV (↑x57.Times.length:Int)/\PHeap.Le fz U_/\sW w U U_ [av,.blk aH 34 az,au,B5,.blk ae 34 B8,.blk aa 28 B4,B0] w_) xL ?_ ?_ ?_
 exact ⟨fz,rfl,qH,j0,j3,rfl,rfl,(zL _),(wz.pick [1,0,2,3,4,5,6] _ (by decide) rfl)⟩
 rintro bk ⟨⟩ EB EP ju ip ⟨cH,gu,qJ,qK,gg,j4,j5,iN,wA⟩ mP ms
 try dsimp only at mP
 have jH:Hid ((↑bk:Int) < (↑x57.Times.length:Int)):=zD (wBh ip)
 replace ip:=zD ip
 have xY:Hid (w64 ((↑bk:Int) + 1)=(↑(bk + 1):Int)):=zD (by have h1:=iz.out;have h2:=jH.out;rw [wAU] <;> omega)
 refine sR fL1 rfl (ZE rfl rfl rfl rfl (fun _=>zZ rfl gu j5) (eN (zE (cT Z jH (kN (zE (zR (sR fL2 rfl (ZY rfl rfl rfl rfl rfl gu (OKS.ra rfl rfl rfl rfl rfl rfl (eN (zE (zE (Zb ZV [3,1,3,3,1,3,3,1,3,3,1,3,3] fL13 (by kernel_rfl) ?_))))))))))))))
 have bJ:=wA.drew
 generalize hw_W253:({ ju with drawn:=ju.drawn + 1 }:World)=CB at bJ ⊢
 refine oR Z (zB Z j4 zh Z zw) (oL Z (bJ.ldB (j:=1) Z Z Z ZN (v:=.slice b8 x179.Times.length cj) Z) (oM Z Z (bnK mP fun ff eM yU=>?_)))
 have tK:=Bd.le dG
 have lR:=tK.le iN
 have q:=lR.el (wAX eM)
 obtain ⟨pJ,BB,El,uY,gM,AW⟩:=q
 obtain ⟨n8,oq,rfl,Dq⟩:=AW
 replace gM:Cl cH pJ (BB + bk * 1) [.slice n8 ff.length oq]:=gM
 refine oR Z (zy Z Z uY Z zm zM (wAw eM)) (oL Z (bJ.ldC (f:=0) gM (v:=.slice n8 ff.length oq) Z Z zf Z) (oR Z (zV Z Z zI) (oR Z (zB Z gg zh Z zw) (oL Z (bJ.ldB (j:=4) Z Z Z ZN (v:=.slice bf x57.Times.length bj) Z) (oM Z Z (bnK yU fun bz cM yV=>?_))))))
 have gz:=mK.le iN
 have q:=gz.el (wAX cM)
 obtain ⟨pK,BC,Em,uZ,gO,AX⟩:=q
 obtain ⟨n9,ot,rfl,Dr⟩:=AX
 replace gO:Cl cH pK (BC + bk * 1) [.slice n9 bz.length ot]:=gO
 refine oR Z (zy Z Z uZ Z zm zM (wAw cM)) (oL Z (bJ.ldC (f:=0) gO (v:=.slice n9 bz.length ot) Z Z zf Z) (oR Z (zV Z Z zI) (oR Z (Zk Z Z Z) (eN (ifc yV ?_ ?_)))))
 intro fS iF
 refine zx (ZR (fun h=>h fS.out)) (kN (sR fL7 Z (oR Z (zB Z gg zh Z zw) (oL Z (bJ.ldB (j:=4) Z Z Z ZN (v:=.slice bf x57.Times.length bj) Z) (oM Z Z ?_)))))
 have q:=gz.el (wAX cM)
 obtain ⟨pL,BD,En,u0,gP,AY⟩:=q
 obtain ⟨oa,ou,rfl,Ds⟩:=AY
 replace gP:Cl cH pL (BD + bk * 1) [.slice oa bz.length ou]:=gP
 refine oR Z (zy Z Z u0 Z zm zM (wAw cM)) (oL Z (bJ.ldC (f:=0) gP (v:=.slice oa bz.length ou) Z Z zf Z) (oR Z (zV Z Z zI) (oM Z Z (eN (zR ?_)))))
 have q:=wCH iF
 obtain ⟨DT,g9⟩:=q
 have q:=wCG g9
 obtain ⟨iA,xM⟩:=q
 replace iA:=zD iA
 refine yB (fun dD _ σ_ w_=>∃ (U_:PHeap),σ_ 113=jV (↑dD:Int)/\σ_ 1=jV p1/\σ_ 7=.pointer (some ⟨aa,0,none⟩)/\σ_ 8=.pointer (some ⟨ae,0,none⟩)/\σ_ 12=.pointer (some ⟨aH,0,none⟩)/\σ_ 13=jV (↑bk:Int)/\σ_ 90=jV (↑x57.Times.length:Int)/\σ_ 91=jV (↑bk:Int)/\σ_ 112=jV (↑bz.length:Int)/\PHeap.Le cH U_/\sW w U U_ [av,.blk aH 34 az,au,B5,.blk ae 34 B8,.blk aa 28 B4,B0] w_) xM ?_ ?_ ?_
 exact ⟨cH,Z,qJ,qK,gg,j4,Z,j5,gu,Z,(zL _),bJ⟩
 rintro dD ⟨⟩ EC EQ jv iq ⟨dR,gv,qL,qM,j6,j7,gh,qN,qO,j8,iO,wD⟩ mQ xu
 try dsimp only at mQ
 have jJ:Hid ((↑dD:Int) < (↑bz.length:Int)):=zD (wBh iq)
 replace iq:=zD iq
 have xZ:Hid (w64 ((↑dD:Int) + 1)=(↑(dD + 1):Int)):=zD (by have h1:=iA.out;have h2:=jJ.out;rw [wAU] <;> omega)
 refine sR fL1 rfl (ZE rfl rfl rfl rfl (fun _=>zZ rfl gv j8) (eN (zE (cT Z jJ (kN (zE (zR (sR fL2 rfl (ZY rfl rfl rfl rfl rfl gv (OKS.ra rfl rfl rfl rfl rfl rfl (eN (zE (Zb ZV [3,1,3,3,1,3,3,1,3,1,3,3,1,3,3,1,3] fL17 (by kernel_rfl) ?_)))))))))))))
 have bK:=wD.drew
 generalize hw_W320:({ jv with drawn:=jv.drawn + 1 }:World)=CD at bK ⊢
 refine oR Z (zB Z j7 zh Z zw) (oL Z (bK.ldB (j:=1) Z Z Z ZN (v:=.slice b8 x179.Times.length cj) Z) (oM Z gh ?_))
 have tL:=lR.le iO
 have q:=tL.el (wAX eM)
 obtain ⟨pM,BE,Eo,u7,gQ,AZ⟩:=q
 obtain ⟨oc,ow,rfl,tM⟩:=AZ
 replace gQ:Cl dR pM (BE + bk * 1) [.slice oc ff.length ow]:=gQ
 refine oR Z (zy Z Z u7 Z zm zM (wAw eM)) (oL Z (bK.ldC (f:=0) gQ (v:=.slice oc ff.length ow) Z Z zf Z) (oM Z Z (bnK mQ fun Cc lS yX=>?_)))
 have q:=tM.el (fun _=>rfl) (wAX lS)
 obtain ⟨C0,DN,u9,vo⟩:=q
 refine oR Z (zy Z Z u9 Z zI zG (wAw lS)) (oL Z (bK.ldC (f:=0) vo (v:=jV Cc) Z Z zU Z) (oR Z (zB Z j6 zh Z zw) (oL Z (bK.ldB (j:=4) Z Z Z ZN (v:=.slice bf x57.Times.length bj) Z) (oM Z gh ?_))))
 have tO:=gz.le iO
 have q:=tO.el (wAX cM)
 obtain ⟨pN,BF,Ep,va,gR,A3⟩:=q
 obtain ⟨od,ox,rfl,tP⟩:=A3
 replace gR:Cl dR pN (BF + bk * 1) [.slice od bz.length ox]:=gR
 refine oR Z (zy Z Z va Z zm zM (wAw cM)) (oL Z (bK.ldC (f:=0) gR (v:=.slice od bz.length ox) Z Z zf Z) (oM Z Z (bnK yX fun Cd lT yY=>?_)))
 have q:=tP.el (fun _=>rfl) (wAX lT)
 obtain ⟨C1,DO,vb,vp⟩:=q
 refine oR Z (zy Z Z vb Z zI zG (wAw lT)) (oL Z (bK.ldC (f:=0) vp (v:=jV Cd) Z Z zU Z) (oR Z (yF Z Z Z) (eN (ifc yY ?_ ?_))))
 intro fT yZ
 refine cT Z fT (sR fL1 Z (oA Z Z (eN (zQ (zd (zK ?_))))))
 have q:=wAa yZ
 obtain ⟨BS,y0,qn⟩:=q
 have q:=wBw iF g9 (xu BS qn)
 obtain rfl:=q
 refine zK (zd (zd (zK ?_)))
 have q:=wAa y0
 obtain ⟨BT,z0,qo⟩:=q
 have q:=wBw eT eR (ms BT qo)
 obtain rfl:=q
 refine zK (zd (zK ?_))
 have hE:=nA z0;first | subst r | cases hE
 exact ⟨rfl,_,(ZA rfl),dR,_,(bK.pick [] _ (by decide) rfl),rfl,rfl⟩
 intro fT z6
 refine cF Z fT (Zp (zj (zF (rR fL2 Z (oR Z (ZP (ze Z gv Z) (congrArg (jV) xZ.out)) (oM Z Z (zr ?_)))))))
 have q:=nA z6
 obtain rfl:=q
 exact zF ⟨Z,_,Z,⟨dR,Z,qL,qM,j6,j7,gh,qN,qO,j8,iO,bK⟩⟩
 rintro ⟨⟩ ER CE ⟨oX,sK,qP,qQ,qR,qS,Da,qT,qU,qV,Bo,wG⟩ xw
 have mE:=wCo iF g9 xw
 try dsimp only at mE
 have p6:Hid (¬ ((↑(((↑bz.length:Int):Int) - 0).toNat:Int) < (↑bz.length:Int))):=zD (wBH)
 refine sR fL1 Z (oR Z (zZ Z sK qV) (eN (zE (cF Z p6 (ZM (zW (zW (ZB (zj (zF (rR fL2 Z (oR Z (ZP (ze Z qU Z) (congrArg (jV) xY.out)) (oM Z Z (zr ?_))))))))))))))
 have q:=nA mE
 obtain rfl:=q
 exact zF ⟨Z,_,Z,⟨oX,Z,qP,qQ,qR,qS,qT,(iN.trans Bo),wG⟩⟩
 intro fS z7
 refine cT Z fS (sR fL1 Z (oA Z Z (eN (zQ (zK (zd (zK ?_)))))))
 have q:=wAa z7
 obtain ⟨BU,z8,qp⟩:=q
 have q:=wBw eT eR (ms BU qp)
 obtain rfl:=q
 refine zK (zd (zK ?_))
 have hE:=nA z8;first | subst r | cases hE
 exact ⟨rfl,_,(ZA rfl),cH,_,(bJ.pick [] _ (by decide) rfl),rfl,rfl⟩
 rintro ⟨⟩ ES CG ⟨ji,sL,qW,j9,qX,Db,qY,dH,md⟩ xx
 have eU:=wCo eT eR xx
 try dsimp only at eU
 have p7:Hid (¬ ((↑(((↑x57.Times.length:Int):Int) - 0).toNat:Int) < (↑x57.Times.length:Int))):=zD (wBH)
 refine sR fL1 Z (oR Z (zZ Z sL qY) (eN (zE (cF Z p7 (ZM (zW (zW (ZB (zF (sR fL1 Z (oA Z Z (eN (zE (sR fL4 Z (oR Z (zB Z j9 zH Z ZD) (oL Z (md.ldB (j:=5) Z Z Z ZX (v:=.slice be aj.Teams.length bh) Z) (oR Z (zV Z Z zg) (oM Z Z (eN (zR ?_))))))))))))))))))))
 have q:=wCH eU
 obtain ⟨DU,ib⟩:=q
 have q:=wCG ib
 obtain ⟨iB,xN⟩:=q
 replace iB:=zD iB
 refine yB (fun aO eV σ_ w_=>∃ (U_:PHeap) (da:Option Addr) (dp:Nat),σ_ 138=jV (↑aO:Int)/\σ_ 1=jV p1/\σ_ 7=.pointer (some ⟨aa,0,none⟩)/\σ_ 8=.pointer (some ⟨ae,0,none⟩)/\σ_ 15=.slice da eV.length dp/\σ_ 136=.slice be aj.Teams.length bh/\σ_ 137=jV (↑aj.Teams.length:Int)/\PHeap.Le ji U_/\sW w U U_ [av,.blk aH 34 az,au,B5,.blk ae 34 B8,.blk aa 28 B4,B0,.row da dp 53 4 (hH wAM eV)] w_) xN ?_ ?_ ?_
 have wI:=md.nilrow 53 4
 exact ⟨ji,none,0,rfl,qW,j9,qX,rfl,rfl,rfl,(zL _),(wI.pick [1,2,3,4,5,6,7,0] _ (by decide) rfl)⟩
 rintro aO eV ED ET CH ir ⟨dS,da,dp,eH,qZ,rc,re,ri,k9,lc,mU,me⟩ Bf xz
 have jK:Hid ((↑aO:Int) < (↑aj.Teams.length:Int)):=zD (wBh ir)
 replace ir:=zD ir
 have x8:Hid (w64 ((↑aO:Int) + 1)=(↑(aO + 1):Int)):=zD (by have h1:=iB.out;have h2:=jK.out;rw [wAU] <;> omega)
 refine sR fL1 Z (oR Z (zZ Z eH lc) (eN (zE (cT Z jK (kN (zE (zR (sR (wCu gBk) Z (oM Z eH (bnK Bf fun aL lU iG=>?_))))))))))
 have tR:=gA.le dI
 have tS:=tR.le cW
 have tT:=tS.le cX
 have tU:=tT.le cY
 have tV:=tU.le ct
 have tW:=tV.le dE
 have tX:=tW.le dF
 have tY:=tX.le dG
 have tZ:=tY.le dH
 have t7:=tZ.le mU
 have q:=t7.el (wAX lU)
 obtain ⟨pO,BG,Er,vc,gS,A4⟩:=q
 obtain ⟨iU,iX,bW,bY,rfl,Du,t8⟩:=A4
 replace gS:Cl dS pO (BG + aO * 3) [jV aL.Bib,.slice iU aL.Classes.length iX,.slice bW aL.Legs.length bY]:=gS
 refine oR Z (zy Z k9 vc eH zg zk (wAw lU)) (oL Z (me.ldCA (f:=0) gS Z Z Zl zk (us:=[jV aL.Bib,.slice iU aL.Classes.length iX,.slice bW aL.Legs.length bY]) Z Z) (zo (cs:=B7) Z Z Z Z Z ZK Z me ?_))
 intro CI bv wK
 refine oA Z Z ?_
 let bq:List Value:=[jV aL.Bib,.slice iU aL.Classes.length iX,.slice bW aL.Legs.length bY]
 refine zY (j:=0) (vs:=bq) Z Z Z Z wK Z Z Z Z zk (zA Z) Z Z Z ?_
 intro ph wL
 have mg:sW w U dS [.blk bv 43 bq,av,.blk aH 34 az,au,B5,.blk ae 34 B8,.blk aa 28 B4,B0,.row da dp 53 4 (hH wAM eV)] ph:=wL
 refine eN (sR fL4 Z (oR Z (zB Z Z zP Z zz) (oL Z (mg.ldB (j:=0) Z Z Z Zi (v:=.slice bW aL.Legs.length bY) Z) (oR Z (zV Z Z zt) (oM Z Z (eN (zR ?_)))))))
 have q:=wCH iG
 obtain ⟨DV,ic⟩:=q
 have q:=wCG ic
 obtain ⟨iC,xO⟩:=q
 replace iC:=zD iC
 refine yB (fun aX eW σ_ w_=>∃ (U_:PHeap) (db:Option Addr) (dq:Nat),σ_ 146=jV (↑aX:Int)/\σ_ 1=jV p1/\σ_ 7=.pointer (some ⟨aa,0,none⟩)/\σ_ 8=.pointer (some ⟨ae,0,none⟩)/\σ_ 15=.slice db eW.length dq/\σ_ 16=jV (↑aO:Int)/\σ_ 136=.slice be aj.Teams.length bh/\σ_ 137=jV (↑aj.Teams.length:Int)/\σ_ 138=jV (↑aO:Int)/\σ_ 144=.slice bW aL.Legs.length bY/\σ_ 145=jV (↑aL.Legs.length:Int)/\PHeap.Le dS U_/\sW w U U_ [.blk bv 43 bq,av,.blk aH 34 az,au,B5,.blk ae 34 B8,.blk aa 28 B4,B0,.row db dq 53 4 (hH wAM eW)] w_) xO ?_ ?_ ?_
 exact ⟨dS,da,dp,Z,qZ,rc,re,ri,Z,k9,lc,eH,Z,Z,(zL _),mg⟩
 rintro aX eW EE EU CJ it ⟨dT,db,dq,eI,rj,rk,rn,ro,rp,rq,rt,ru,lf,lh,mW,mh⟩ Bg xA
 have jL:Hid ((↑aX:Int) < (↑aL.Legs.length:Int)):=zD (wBh it)
 replace it:=zD it
 have ya:Hid (w64 ((↑aX:Int) + 1)=(↑(aX + 1):Int)):=zD (by have h1:=iC.out;have h2:=jL.out;rw [wAU] <;> omega)
 refine sR fL1 Z (oR Z (zZ Z eI lh) (eN (zE (cT Z jL (kN (zE (zR (sR (wCu gBk) Z (oM Z eI (bnK Bg fun aP lV iH=>?_))))))))))
 have t9:=t8.le mW
 have q:=t9.el (wAX lV)
 obtain ⟨pP,BH,Es,vd,gT,A5⟩:=q
 obtain ⟨iV,iY,cu,cy,rfl,Dv,ua⟩:=A5
 replace gT:Cl dT pP (BH + aX * 3) [jV aP.Skier,.slice iV aP.Loops.length iY,.slice cu aP.Bouts.length cy]:=gT
 refine oR Z (zy Z lf vd eI zt zn (wAw lV)) (oL Z (mh.ldCA (f:=0) gT Z Z Zv zn (us:=[jV aP.Skier,.slice iV aP.Loops.length iY,.slice cu aP.Bouts.length cy]) Z Z) (zo (cs:=B7) Z Z Z Z Z ZC Z mh ?_))
 intro CL bQ wP
 refine oA Z Z ?_
 let bC:List Value:=[jV aP.Skier,.slice iV aP.Loops.length iY,.slice cu aP.Bouts.length cy]
 refine zY (j:=0) (vs:=bC) Z Z Z Z wP Z Z Z Z zn (zA Z) Z Z Z ?_
 intro pi wQ
 have mi:sW w U dT [.blk bQ 46 bC,.blk bv 43 bq,av,.blk aH 34 az,au,B5,.blk ae 34 B8,.blk aa 28 B4,B0,.row db dq 53 4 (hH wAM eW)] pi:=wQ
 refine eN (sR fL4 Z (oR Z (zB Z Z zX Z Ze) (oL Z (mi.ldB (j:=0) Z Z Z Zz (v:=.slice cu aP.Bouts.length cy) Z) (oR Z (zV Z Z ZJ) (oM Z Z (eN (zR ?_)))))))
 have q:=wCH iH
 obtain ⟨DW,ie⟩:=q
 have q:=wCG ie
 obtain ⟨iD,xP⟩:=q
 replace iD:=zD iD
 refine yB (fun a0 eX σ_ w_=>∃ (U_:PHeap) (de:Option Addr) (dr:Nat),σ_ 154=jV (↑a0:Int)/\σ_ 1=jV p1/\σ_ 7=.pointer (some ⟨aa,0,none⟩)/\σ_ 8=.pointer (some ⟨ae,0,none⟩)/\σ_ 15=.slice de eX.length dr/\σ_ 16=jV (↑aO:Int)/\σ_ 18=jV (↑aX:Int)/\σ_ 136=.slice be aj.Teams.length bh/\σ_ 137=jV (↑aj.Teams.length:Int)/\σ_ 138=jV (↑aO:Int)/\σ_ 144=.slice bW aL.Legs.length bY/\σ_ 145=jV (↑aL.Legs.length:Int)/\σ_ 146=jV (↑aX:Int)/\σ_ 152=.slice cu aP.Bouts.length cy/\σ_ 153=jV (↑aP.Bouts.length:Int)/\PHeap.Le dT U_/\sW w U U_ [.blk bQ 46 bC,.blk bv 43 bq,av,.blk aH 34 az,au,B5,.blk ae 34 B8,.blk aa 28 B4,B0,.row de dr 53 4 (hH wAM eX)] w_) xP ?_ ?_ ?_
 exact ⟨dT,db,dq,Z,rj,rk,rn,ro,rp,Z,rq,rt,ru,lf,lh,eI,Z,Z,(zL _),mi⟩
 rintro a0 eX EF EV pj iu ⟨jl,de,dr,eJ,rx,ry,rA,rB,rC,rD,rE,rF,rG,rH,rI,rJ,li,lj,mY,mj⟩ Bh xB
 have jM:Hid ((↑a0:Int) < (↑aP.Bouts.length:Int)):=zD (wBh iu)
 replace iu:=zD iu
 have yb:Hid (w64 ((↑a0:Int) + 1)=(↑(a0 + 1):Int)):=zD (by have h1:=iD.out;have h2:=jM.out;rw [wAU] <;> omega)
 refine sR fL1 Z (oR Z (zZ Z eJ lj) (eN (zE (cT Z jM (kN (zE (zR (sR fL5 Z (oM Z eJ (bnK Bh fun bp lX z9=>?_))))))))))
 have uc:=ua.le mY
 have q:=uc.el (wAX lX)
 obtain ⟨pQ,BI,Et,ve,gU,A6⟩:=q
 obtain ⟨cw,cz,rfl,lY⟩:=A6
 replace gU:Cl jl pQ (BI + a0 * 1) [.slice cw bp.length cz]:=gU
 refine oR Z (zy Z li ve eJ ZJ yC (wAw lX)) (oL Z (mj.ldC (f:=0) gU (v:=.slice cw bp.length cz) Z Z Tryz.isAgg47 Z) (oA Z Z (oA Z Z (eN (sR (.fl 0 (.fx 1 (wMq gBi) .stop)) Z (oM Z Z ?_))))))
 have q:=bnd z9
 obtain ⟨⟨b5,Cf⟩,ue,mF⟩:=q
 try dsimp only at mF
 refine zN 0 Z Z Z Z (zJ Z Z Tryz.call11 (zC Z zO) Z) mj (fun hs=>wDo bp cw cz pj jl hs lY ue) (.inr Z) ?_
 rintro dg Cn D7 pk mZ wS ⟨rfl,rfl⟩
 let jb:Res:=.row de dr 53 4 (hH wAM eX)
 have wU:sW w U dg [.blk bQ 46 bC,.blk bv 43 bq,av,.blk aH 34 az,au,B5,.blk ae 34 B8,.blk aa 28 B4,B0,jb] pk:=wS
 refine oM Z Z (oR Z (Zs Z Z (v:=.agg #[jV b5.Spares,jV b5.Loops,jV b5.Unused]) Z) (oR Z (Zs Z Z (v:=jV Cf) Z) (zo (cs:=[jV 0,jV 0,jV 0]) Z Z Z Z Z Zr Z wU ?_)))
 intro CM ci wV
 let cC:List Value:=[jV b5.Spares,jV b5.Loops,jV b5.Unused]
 refine zY (j:=0) (vs:=cC) Z Z Z Z wV Z Z Z Z Za (zA Z) Z Z Z ?_
 intro pm wW
 have ml:sW w U dg [.blk ci 49 cC,.blk bQ 46 bC,.blk bv 43 bq,av,.blk aH 34 az,au,B5,.blk ae 34 B8,.blk aa 28 B4,B0,jb] pm:=wW
 refine oA Z Z (eN (zE (sR fL2 Z (oM Z Z (oR Z (Zk Z Z Z) (eN (ifc mF ?_ ?_)))))))
 intro fU Aa
 refine zx (ZR (fun h=>h fU.out)) (kN (sR fL3 Z (oM Z Z (oR Z (zV Z Z ZI) (oM Z Z (eN (zR (bnK Aa fun EH xR Ab=>?_))))))))
 have q:=wCD xR
 obtain ⟨iE,xS⟩:=q
 replace iE:=zD iE
 refine CK.forN' (fun bl cU σ_ w_=>∃ (U_:PHeap) (cA:Option Addr) (cI:Nat),σ_ 168=jV (↑bl:Int)/\σ_ 1=jV p1/\σ_ 7=.pointer (some ⟨aa,0,none⟩)/\σ_ 8=.pointer (some ⟨ae,0,none⟩)/\σ_ 15=.slice cA cU.length cI/\σ_ 16=jV (↑aO:Int)/\σ_ 18=jV (↑aX:Int)/\σ_ 20=jV (↑a0:Int)/\σ_ 21=.slice cw bp.length cz/\σ_ 22=.pointer (some ⟨ci,0,none⟩)/\σ_ 136=.slice be aj.Teams.length bh/\σ_ 137=jV (↑aj.Teams.length:Int)/\σ_ 138=jV (↑aO:Int)/\σ_ 144=.slice bW aL.Legs.length bY/\σ_ 145=jV (↑aL.Legs.length:Int)/\σ_ 146=jV (↑aX:Int)/\σ_ 152=.slice cu aP.Bouts.length cy/\σ_ 153=jV (↑aP.Bouts.length:Int)/\σ_ 154=jV (↑a0:Int)/\σ_ 166=.slice cw bp.length cz/\σ_ 167=jV (↑bp.length:Int)/\PHeap.Le dg U_/\sW w U U_ [.blk ci 49 cC,.blk bQ 46 bC,.blk bv 43 bq,av,.blk aH 34 az,au,B5,.blk ae 34 B8,.blk aa 28 B4,B0,.row cA cI 53 4 (hH wAM cU)] w_) xS ?_ ?_ ?_
 exact ⟨dg,de,dr,Z,rx,ry,rA,rB,rC,rD,Z,Z,Z,rE,rF,rG,rH,rI,rJ,li,lj,eJ,Z,Z,(zL _),ml⟩
 rintro bl cU EG EW CN iv ⟨dk,cA,cI,cn,eb,ed,eg,eh,ei,ej,en,du,cK,eu,ey,ez,eA,eC,eD,eE,eF,eG,dv,dw,iP,cp⟩ Bi
 have jN:Hid ((↑bl:Int) < (↑bp.length:Int)):=zD (wBh iv)
 replace iv:=zD iv
 have mw:Hid (w64 ((↑bl:Int) + 1)=(↑(bl + 1):Int)):=zD (by have h1:=iE.out;have h2:=jN.out;rw [wAU] <;> omega)
 refine sR fL1 Z (oR Z (zZ Z cn dw) (eN (zE (cT Z jN (kN (zE (zR (sR fL5 Z (oM Z cn (bnK Bi fun oz lZ Ac=>?_))))))))))
 have uf:=lY.le mZ
 have ug:=uf.le iP
 have q:=ug.el (fun _=>rfl) (wAX lZ)
 obtain ⟨C2,DP,vg,vq⟩:=q
 refine oR Z (zy Z dv vg cn ZI Tryz.sizeOf4 (wAw lZ)) (oL Z (cp.ldC (f:=0) vq (v:=.bool oz) Z Z Tryz.isAgg4 Z) (oA Z Z (oA Z Z (eN (bnK Ac fun pR mR Ad=>?_)))))
 let jc:Res:=.row cA cI 53 4 (hH wAM cU)
 refine CK.cut (fun σ_ w_=>∃ (U_:PHeap),σ_ 1=jV p1/\σ_ 7=.pointer (some ⟨aa,0,none⟩)/\σ_ 8=.pointer (some ⟨ae,0,none⟩)/\σ_ 15=.slice cA cU.length cI/\σ_ 16=jV (↑aO:Int)/\σ_ 18=jV (↑aX:Int)/\σ_ 20=jV (↑a0:Int)/\σ_ 21=.slice cw bp.length cz/\σ_ 22=.pointer (some ⟨ci,0,none⟩)/\σ_ 24=jV (↑bl:Int)/\σ_ 136=.slice be aj.Teams.length bh/\σ_ 137=jV (↑aj.Teams.length:Int)/\σ_ 138=jV (↑aO:Int)/\σ_ 144=.slice bW aL.Legs.length bY/\σ_ 145=jV (↑aL.Legs.length:Int)/\σ_ 146=jV (↑aX:Int)/\σ_ 152=.slice cu aP.Bouts.length cy/\σ_ 153=jV (↑aP.Bouts.length:Int)/\σ_ 154=jV (↑a0:Int)/\σ_ 166=.slice cw bp.length cz/\σ_ 167=jV (↑bp.length:Int)/\σ_ 168=jV (↑bl:Int)/\σ_ 191=.bool pR/\PHeap.Le dk U_/\sW w U U_ [.blk ci 49 cC,.blk bQ 46 bC,.blk bv 43 bq,av,.blk aH 34 az,au,B5,.blk ae 34 B8,.blk aa 28 B4,B0,jc] w_) ?_ ?_
 refine rR fL19 Z (oM Z Z (oR Z (ZU Z Z) (oM Z Z ?_)))
 by_cases aK:oz=true
 have mH:=mR;rw [if_pos aK] at mH;replace aK:=zD aK
 refine ZG Z Z Z (ZS Z Z (nC aK.out) Z) (ZG Z Z Z (ZS Z Z (nC aK.out) Z) (ZG Z Z Z (ZS Z Z (nC aK.out) Z) (ZG Z Z Z (ZS Z Z (nC aK.out) Z) (ZG Z Z Z (wAo Z Z Z) (ZG Z Z Z (wAo Z Z Z) (ZG Z Z Z (wAo Z Z Z) (ZG Z Z Z (wAo Z Z Z) (ZG Z Z Z (wAo Z Z Z) (ZG Z Z Z (wAo Z Z Z) (ZG Z Z Z (wAo Z Z Z) (ZG Z Z Z (wAo Z Z Z) (ZG Z Z Z (wAo Z Z Z) (ZG Z Z Z (wAo Z Z Z) (ZG Z Z Z (ZS Z Z (nC aK.out) Z) (oR Z (ZH Z (nC aK.out) Z) (zr ?_))))))))))))))))
 cases mH
 exact zF ⟨Z,⟨dk,eb,ed,eg,eh,ei,ej,en,du,cK,Z,eu,ey,ez,eA,eC,eD,eE,eF,eG,dv,dw,cn,Z,(zL _),cp⟩⟩
 have mI:=mR;rw [if_neg aK] at mI;replace aK:=zD aK
 refine ZE Z Z Z (zi Z Z (nF (aK.out))) (fun _=>zB Z cK Tryz.runUnderlying49 Z zG) (Zt Z Z Z (zi Z Z (nF (aK.out))) (cp.ldB (j:=0) Z Z Z zU (v:=jV b5.Loops) Z) Z (ZE Z Z Z (zi Z Z (nF (aK.out))) (fun _=>yF Z Z Z) (ZY Z Z Z (zi Z Z (nF (aK.out))) Z Z (ifc mI ?_ ?_))))
 intro aZ Ae
 refine oT Z aZ (oT Z aZ (oT Z aZ (oT Z aZ (ZG Z Z Z (wAo Z Z Z) (ZG Z Z Z (wAo Z Z Z) (ZG Z Z Z (wAo Z Z Z) (ZG Z Z Z (wAo Z Z Z) (ZG Z Z Z (wAo Z Z Z) (oT Z aZ (ZE Z Z Z (zi Z Z (nF (aK.out))) (fun _=>ZF Z (wGb aZ.out) Z) (oR Z (ZF Z (nF (aK.out)) Z) (zr ?_))))))))))))
 cases Ae
 exact zF ⟨Z,⟨dk,eb,ed,eg,eh,ei,ej,en,du,cK,Z,eu,ey,ez,eA,eC,eD,eE,eF,eG,dv,dw,cn,Z,(zL _),cp⟩⟩
 intro aZ Af
 refine rU Z (wF Z aZ) (zB Z cK Tryz.runUnderlying49 Z zG) (Zt Z Z Z (wF Z aZ) (cp.ldB (j:=0) Z Z Z zU (v:=jV b5.Loops) Z) Z (rU Z (wF Z aZ) (Runs.eql Z Z Z) (ZY Z Z Z (wF Z aZ) Z Z (ifc Af ?_ ?_))))
 intro bi Ag
 refine ZY Z Z Z (wT Z bi) Z Z (ZY Z Z Z (wT Z bi) Z du (rU Z (wT Z bi) (zV Z Z ZI) (rU Z (wT Z bi) (Zg Z Z Z) (rU Z (wT Z bi) (Runs.eql Z Z Z) (rU Z (wF Z aZ) (ZF Z (wGb bi.out) Z) (ZE Z Z Z (zi Z Z (nF (aK.out))) (fun _=>ZH Z (ZR aZ.out) Z) (oR Z (ZF Z (nF (aK.out)) Z) (zr ?_))))))))
 have q:=nA Ag
 obtain rfl:=q
 exact zF ⟨Z,⟨dk,eb,ed,eg,eh,ei,ej,en,du,cK,Z,eu,ey,ez,eA,eC,eD,eE,eF,eG,dv,dw,cn,Z,(zL _),cp⟩⟩
 intro bi Ah
 refine oF Z bi (oF Z bi (oF Z bi (oF Z bi (oF Z bi (rU Z (wF Z aZ) (ZH Z (ZR bi.out) Z) (ZE Z Z Z (zi Z Z (nF (aK.out))) (fun _=>ZH Z (ZR aZ.out) Z) (oR Z (ZF Z (nF (aK.out)) Z) (zr ?_))))))))
 cases Ah
 exact zF ⟨Z,⟨dk,eb,ed,eg,eh,ei,ej,en,du,cK,Z,eu,ey,ez,eA,eC,eD,eE,eF,eG,dv,dw,cn,Z,(zL _),cp⟩⟩
 rintro EX CO ⟨dU,lm,ln,lq,lu,gi,gj,gk,lv,lw,rK,lx,ly,lz,lA,lB,lD,lE,lF,lG,lH,lI,lJ,lK,m0,mn⟩
 refine ifc Ad ?_ ?_
 intro fW Ai
 refine ZQ (lK.trans (congrArg Value.bool fW.out)) (rR (wKo (.fx 6 (.fx 7 (.fl 8 .nil) .stop) .stop)) Z (oM Z lu (oM Z gi (oM Z gj (oM Z gk (oM Z rK ?_))))))
 let ft:List Value:=[jV (↑aO:Int),jV (↑aX:Int),jV (↑a0:Int),jV (↑bl:Int)]
 let jd:List Value:=[jV 0,jV 0,jV 0,jV 0]
 refine oR Z (ZO (pv:=[(0,jV (↑aO:Int)),(1,jV (↑aX:Int)),(2,jV (↑a0:Int)),(3,jV (↑bl:Int))]) (z:=jd) (cs:=ft) Z (wAI Z (wAI Z (wAI Z (wAI Z wAT)))) Tryz.zeroValue53 wNS Z Z) (zu (pv:=[(0,.agg ft.toArray)]) (zs:=jd) (cs:=ft) Z Z Z Z Z (wAI Z wAT) Tryz.runUnderlying40 Tryz.sizeOf53 Tryz.zeroValue53 Z Z Z Z Z mn ?_)
 intro po pS wY
 let je:Res:=.row (some ⟨pS,0,none⟩) 1 53 4 (hH wAM [(⟨(↑aO:Int),(↑aX:Int),(↑a0:Int),(↑bl:Int)⟩:wAG)])
 have mo:sW w U dU [je,.blk ci 49 cC,.blk bQ 46 bC,.blk bv 43 bq,av,.blk aH 34 az,au,B5,.blk ae 34 B8,.blk aa 28 B4,B0,jc] po:=wY
 refine bnK Ai fun oB uh Aj=>Zu (j:=11) (enc:=wAM) (xs:=cU) (ys:=[(⟨(↑aO:Int),(↑aX:Int),(↑a0:Int),(↑bl:Int)⟩:wAG)]) (zs:=oB) rfl rfl rfl rfl rfl Tryz.underlying40 wQo rfl rfl rfl rfl rfl rfl mo rfl rfl rfl (mo.srcR (j:=0) rfl (by decide) (wAL (f:=wAM) (sz:=4) (fun _=>rfl) [(⟨(↑aO:Int),(↑aX:Int),(↑a0:Int),(↑bl:Int)⟩:wAG)])) (fun _=>rfl) (fun _=>rfl) uh rfl ?_
 intro i8 jO pp wZ
 have w5:sW w U dU [je,.blk ci 49 cC,.blk bQ 46 bC,.blk bv 43 bq,av,.blk aH 34 az,au,B5,.blk ae 34 B8,.blk aa 28 B4,B0,.row i8 jO 53 4 (hH wAM oB)] pp:=wZ
 refine oA Z Z (zr (zj (zF (rR fL2 Z (oR Z (ZP (ze Z lJ Z) (congrArg (jV) mw.out)) (oM Z Z (zr ?_)))))))
 cases Aj
 exact zF ⟨rfl,⟨dU,i8,jO,rfl,lm,ln,lq,rfl,gi,gj,gk,lv,lw,lx,ly,lz,lA,lB,lD,lE,lF,lG,lH,lI,(iP.trans m0),(w5.pick [1,2,3,4,5,6,7,8,9,10,11] _ (by decide) rfl)⟩⟩
 intro fW Ak
 refine zx (lK.trans (congrArg Value.bool (Bool.eq_false_iff.2 fW.out))) (Zp (zj (zF (rR fL2 Z (oR Z (ZP (ze Z lJ Z) (congrArg (jV) mw.out)) (oM Z Z (zr ?_)))))))
 cases Ak
 exact zF ⟨Z,⟨dU,cA,cI,Z,lm,ln,lq,lu,gi,gj,gk,lv,lw,lx,ly,lz,lA,lB,lD,lE,lF,lG,lH,lI,(iP.trans m0),mn⟩⟩
 rintro EY CP ⟨o0,oH,p9,sM,rL,rM,rN,rO,rP,rQ,Dc,Dd,De,rS,rT,rV,rW,rX,rY,rZ,r6,r7,Df,r8,Bp,w7⟩
 have qa:Hid (¬ ((↑(((↑bp.length:Int):Int) - 0).toNat:Int) < (↑bp.length:Int))):=zD (wBH)
 refine sR fL1 Z (oR Z (zZ Z sM r8) (eN (zE (cF Z qa (ZM (zW (zW (ZB (zj (zF (rR fL2 Z (oR Z (ZP (ze Z r7 Z) (congrArg (jV) yb.out)) (oM Z Z (zr ?_))))))))))))))
 have q:=nA Ab
 obtain rfl:=q
 exact zF ⟨rfl,_,rfl,⟨o0,oH,p9,rfl,rL,rM,rN,rO,rP,rQ,rS,rT,rV,rW,rX,rY,rZ,r6,((mY.trans mZ).trans Bp),(w7.pick [1,2,3,4,5,6,7,8,9,10] _ (by decide) rfl)⟩⟩
 intro fU Al
 refine cT Z fU (sR fL1 Z (oA Z Z (eN (zQ (zK (zd (zK ?_)))))))
 have q:=wAa Al
 obtain ⟨BV,Am,qq⟩:=q
 have q:=wBw iH ie (xB BV qq)
 obtain rfl:=q
 refine zK (zd (zd (zK ?_)))
 have q:=wAa Am
 obtain ⟨BW,An,qr⟩:=q
 have q:=wBw iG ic (xA BW qr)
 obtain rfl:=q
 refine zK (zd (zd (zK ?_)))
 have q:=wAa An
 obtain ⟨BX,Ao,qt⟩:=q
 have q:=wBw eU ib (xz BX qt)
 obtain rfl:=q
 refine zK (zd (zK ?_))
 have hE:=nA Ao;first | subst r | cases hE
 exact ⟨rfl,_,(ZA rfl),dg,_,(ml.pick [] _ (by decide) rfl),rfl,rfl⟩
 rintro EI EZ CR ⟨o3,oI,qb,sN,r9,sb,sc,sd,se,Dg,sf,sg,sh,sj,sm,sn,Dh,so,Bq,w9⟩ xC
 have Ap:=wCo iH ie xC
 have qc:Hid (¬ ((↑(((↑aP.Bouts.length:Int):Int) - 0).toNat:Int) < (↑aP.Bouts.length:Int))):=zD (wBH)
 refine sR fL1 Z (oR Z (zZ Z sN so) (eN (zE (cF Z qc (ZM (zW (zW (ZB (zj (zF (rR fL2 Z (oR Z (ZP (ze Z sn Z) (congrArg (jV) ya.out)) (oM Z Z (zr ?_))))))))))))))
 have q:=nA Ap
 obtain rfl:=q
 exact zF ⟨rfl,_,rfl,⟨o3,oI,qb,rfl,r9,sb,sc,sd,se,sf,sg,sh,sj,sm,(mW.trans Bq),(w9.pick [1,2,3,4,5,6,7,8,9] _ (by decide) rfl)⟩⟩
 rintro EJ E1 CT ⟨o5,oK,qd,sO,sq,su,sv,sw,Di,sA,sC,sD,Dj,sE,Bs,xb⟩ xD
 have Aq:=wCo iG ic xD
 have qe:Hid (¬ ((↑(((↑aL.Legs.length:Int):Int) - 0).toNat:Int) < (↑aL.Legs.length:Int))):=zD (wBH)
 refine sR fL1 Z (oR Z (zZ Z sO sE) (eN (zE (cF Z qe (ZM (zW (zW (ZB (zj (zF (rR fL2 Z (oR Z (ZP (ze Z sD Z) (congrArg (jV) x8.out)) (oM Z Z (zr ?_))))))))))))))
 have q:=nA Aq
 obtain rfl:=q
 exact zF ⟨rfl,_,rfl,⟨o5,oK,qd,rfl,sq,su,sv,sw,sA,sC,(mU.trans Bs),(xb.pick [1,2,3,4,5,6,7,8] _ (by decide) rfl)⟩⟩
 rintro ap E2 jy ⟨jm,i9,jP,sP,sF,lL,sG,gm,Dk,sH,eY,mp⟩ xE
 have As:=wCo eU ib xE
 have qf:Hid (¬ ((↑(((↑aj.Teams.length:Int):Int) - 0).toNat:Int) < (↑aj.Teams.length:Int))):=zD (wBH)
 refine sR fL1 Z (oR Z (zZ Z sP sH) (eN (zE (cF Z qf (ZM (zW (zW (ZB (zF (zE (sR fL3 Z (oM Z gm (oR Z (zV Z Z Tryz.runUnderlying40) (oR Z (Runs.eql Z Z Z) (eN (ifc As ?_ ?_))))))))))))))))
 intro fZ Av
 refine cT Z fZ (sR gBg Z (bnK Av fun Ey uj Aw=>zN 0 Z Z Z Z (zJ Z Z Tryz.call12 zO Z) mp (fun hs=>wCm jy jm hs uj) (.inr Z) ?_))
 rintro jo Cp D9 pt DI xc ⟨rfl,rfl⟩
 have xd:sW w U jo [av,.blk aH 34 az,au,B5,.blk ae 34 B8,.blk aa 28 B4,B0,.row i9 jP 53 4 (hH wAM ap)] pt:=xc
 refine oA Z Z (eN (zQ (zK ?_)))
 have hE:=nA Aw;first | subst r | cases hE
 exact ⟨rfl,_,(ZA rfl),jo,_,(xd.pick [] _ (by decide) rfl),rfl,rfl⟩
 intro fZ Ax
 refine cF Z fZ (kN (sR (wIS (.fx 4 (.fl 5 (.fl 6 (.fx 7 (.fx 8 .nil .stop) .stop))) .stop)) Z (oM Z gm (oM Z sF (oM Z gm (oR Z (zV Z Z Tryz.runUnderlying40) (bnK Ax fun aq uk Ay=>zN 0 Z Z Z Z (zJ Z Z Tryz.call10 (zC Z (zC Z zO)) Z) mp (fun hs=>wDJ p1 (↑ap.length:Int) jy jm hs uk) (.inr Z) ?_)))))))
 rintro fA Cq Ea pu eZ xe ⟨rfl,rfl⟩
 let ba:Res:=.row i9 jP 53 4 (hH wAM ap)
 have g8:sW w U fA [av,.blk aH 34 az,au,B5,.blk ae 34 B8,.blk aa 28 B4,B0,ba] pu:=xe
 refine bnK Ay fun _ eO Az=>?_
 obtain ⟨C3,l8⟩:=g8.rowSome (j:=7) rfl (by rw [wAL (f:=wAM) (sz:=4) (fun _=>rfl) ap];have hz:=wHn eO;omega)
 refine oR Z (Runs.iaI Z Z l8 Z Tryz.runUnderlying40 Tryz.sizeOf53 (wKw eO) (wKx eO)) ?_
 have xW:=wDZ (xs:=ap) (wHn eO)
 let aQ:List Value:=[jV ((gd ap aq.toNat).team),jV ((gd ap aq.toNat).leg),jV ((gd ap aq.toNat).bout),jV ((gd ap aq.toNat).round)]
 refine Zt rfl rfl rfl rfl (g8.ldRA (j:=7) rfl l8 rfl rfl Tryz.isAgg53 Tryz.sizeOf53 (vs:=aQ) (wIa (sz:=4) (fun _=>rfl) _ _ _ xW (by first | omega | rfl | simp) rfl) rfl) rfl (zo (cs:=[jV 0,jV 0,jV 0,jV 0]) rfl rfl rfl rfl rfl Tryz.zeroValue53 rfl g8 ?_)
 intro CU aS xf
 refine zY (j:=0) (vs:=aQ) Z Z Z Z xf Z Z Z Z Tryz.sizeOf53 (zA Z) Z Z Z ?_
 intro jz xg
 have mq:sW w U fA [.blk aS 53 aQ,av,.blk aH 34 az,au,B5,.blk ae 34 B8,.blk aa 28 B4,B0,ba] jz:=xg
 refine eN (sR gBo Z (oL Z (mq.ldBA (j:=6) Z Z lL Zc zp (vs:=B4) Z Z) ?_))
 have ul:=l3.le dI
 have um:=ul.le cW
 have uo:=um.le cX
 have uq:=uo.le cY
 have ut:=uq.le ct
 have uu:=ut.le dE
 have uv:=uu.le dF
 have uw:=uv.le dG
 have ux:=uw.le dH
 have uy:=ux.le eY
 have uz:=uy.le eZ
 have uA:=gA.le dI
 have uB:=uA.le cW
 have uC:=uB.le cX
 have uD:=uC.le cY
 have uE:=uD.le ct
 have uF:=uE.le dE
 have uG:=uF.le dF
 have uH:=uG.le dG
 have uI:=uH.le dH
 have uJ:=uI.le eY
 have uK:=uJ.le eZ
 refine bnK Az fun aJ uL AD=>zN 0 Z Z Z Z (zJ Z Z Tryz.call9 (zC Z zO) Z) mq (fun hs=>wCl aj cZ dm be bh jz fA hs uz uK uL) (.inr Z) ?_
 rintro jp Cr Eb py m4 xi ⟨dO,dW,br,bS,jQ,rfl,rfl,gB⟩
 let bM:Res:=.row dO dW 3 1 (hH KL.encI aJ.Rules.Classes)
 have xj:sW w U jp [bM,.row br bS 43 3 jQ,.blk aS 53 aQ,av,.blk aH 34 az,au,B5,.blk ae 34 B8,.blk aa 28 B4,B0,ba] py:=xi
 refine zo (cs:=B3) Z Z Z Z Z Zd Z xj ?_
 intro CV bg xk
 let cd:List Value:=[.slice dO aJ.Rules.Classes.length dW,jV aJ.Rules.Each,jV aJ.Rules.Laps,jV aJ.Rules.Spare,jV aJ.Rules.Loop,jV aJ.Rules.Unused,jV aJ.Start,.slice br aJ.Teams.length bS]
 refine zY (j:=0) (vs:=cd) Z Z Z Z xk Z Z Z Z zp (zA Z) Z Z Z ?_
 intro fG xl
 have xm:sW w U jp [.blk bg 28 cd,bM,.row br bS 43 3 jQ,.blk aS 53 aQ,av,.blk aH 34 az,au,B5,.blk ae 34 B8,.blk aa 28 B4,B0,ba] fG:=xl
 refine eN (zE (Zb ZV [3,1,3,1,3,3,1,3,1,3,3,1,3,1,3,1,3,1,3,0] (wQv (.fx 19 .nil .stop)) (by kernel_rfl) ?_))
 have eQ:=xm.drew
 generalize hw_W944:({ fG with drawn:=fG.drawn + 1 }:World)=jA at eQ ⊢
 refine oR Z (zB Z Z zH Z ZD) (oL Z (eQ.ldB (j:=0) Z Z Z ZX (v:=.slice br aJ.Teams.length bS) Z) (oR Z (zB Z Z Zo Z zG) (oL Z (eQ.ldB (j:=3) Z Z Z zU (v:=jV ((gd ap aq.toNat).team)) Z) ?_)))
 have q:=eQ.freezeRP (k:=2) rfl
 obtain ⟨bu,e8,l9,vw,xn⟩:=q
 have DC:SlR bu wFN br bS aJ.Teams:=⟨_,l9.sl (RlL.len (gB).toL) (by decide),RlL.le (gB).toL e8⟩
 have cq:sW w U bu [.blk bg 28 cd,bM,.blk aS 53 aQ,av,.blk aH 34 az,au,B5,.blk ae 34 B8,.blk aa 28 B4,B0,ba] jA:=xn
 obtain ⟨mS,sQ,m5⟩:=gB
 have vv:SlF bu wPv br bS aJ.Teams (mS ++ bks br):=by have g:=(sQ.up (m5.stay e8));exact ⟨_,_,(l9.le (zL _)).sl (RlL.len g.toL) (by decide),g,rfl⟩
 have vx:Ows _ bu ((mS ++ bks br)):=((m5.cat vw m4 (zL _) e8).le (zL _)).perm (by intro b;first | rfl | (simp only [nD,nG];omega))
 refine bnK AD fun aN gC AE=>?_
 have q:=SlF.el vv vx (wAX gC)
 obtain ⟨pT,BJ,Eu,DE,vh,gW,xT,iI,DB,AJ⟩:=q
 obtain ⟨dK,iZ,e9,fc,iK,rfl,l4,l5,rfl⟩:=xT
 have Dw:=l4.sl (n:=aN.Classes.length) (wAL (f:=KL.encI) (sz:=1) (fun _=>rfl) _) (by decide)
 have Dx:=l5.toR
 replace gW:Cl bu pT (BJ + ((gd ap aq.toNat).team).toNat * 3) [jV aN.Bib,.slice dK aN.Classes.length iZ,.slice e9 aN.Legs.length fc]:=gW
 refine oR Z (Runs.iaI Z Z vh Z zg zk (wGl gC) (wHo gC)) (oR Z (zB Z Z zP Z zz) (oL Z (cq.ldC (f:=2) gW (v:=.slice e9 aN.Legs.length fc) Z Z Zi Z) (oR Z (zB Z Z Zo Z zG) (oL Z (cq.ldB (j:=2) Z Z Z zU (v:=jV ((gd ap aq.toNat).leg)) Z) (bnK AE fun aI gD AG=>?_)))))
 have q:=SlF.el l5 iI.right (wAX gD)
 obtain ⟨pU,BK,Ev,DF,vi,gX,xU,iJ,mu,AL⟩:=q
 obtain ⟨dL,i0,fb,fd,iL,rfl,l6,l7,rfl⟩:=xU
 have Dy:=l6.sl (n:=aI.Loops.length) (wAL (f:=KL.encI) (sz:=1) (fun _=>rfl) _) (by decide)
 have Dl:=l7.toR
 replace gX:Cl bu pU (BK + ((gd ap aq.toNat).leg).toNat * 3) [jV aI.Skier,.slice dL aI.Loops.length i0,.slice fb aI.Bouts.length fd]:=gX
 refine oR Z (Runs.iaI Z Z vi Z zt zn (wGl gD) (wHo gD)) (oR Z (zB Z Z zX Z Ze) (oL Z (cq.ldC (f:=2) gX (v:=.slice fb aI.Bouts.length fd) Z Z Zz Z) (oR Z (zB Z Z Zo Z zG) (oL Z (cq.ldB (j:=2) Z Z Z zU (v:=jV ((gd ap aq.toNat).bout)) Z) (bnK AG fun aT gw yc=>?_)))))
 have q:=SlF.el l7 iJ.right (wAX gw)
 obtain ⟨pB,Bt,Ed,DD,uM,gE,xF,mJ,mr,AI⟩:=q
 obtain ⟨bV,bX,rfl,gx,rfl⟩:=xF
 have Dm:=gx.sl (n:=aT.length) (wAL (f:=KL.encT) (sz:=1) (fun _=>rfl) _) (by decide)
 replace gE:Cl bu pB (Bt + ((gd ap aq.toNat).bout).toNat * 1) [.slice bV aT.length bX]:=gE
 refine oR Z (Runs.iaI Z Z uM Z ZJ yC (wGl gw) (wHo gw)) (oL Z (cq.ldC (f:=0) gE (v:=.slice bV aT.length bX) Z Z Tryz.isAgg47 Z) (oR Z (zB Z Z Zo Z zG) (oL Z (cq.ldB (j:=2) Z Z Z zU (v:=jV ((gd ap aq.toNat).round)) Z) (bnK yc fun _ dy yd=>?_))))
 obtain ⟨aR,eP⟩:=RowP.block gx (by rw [wAL (f:=KL.encT) (sz:=1) (fun _=>rfl)];have hz:=wHn dy;omega)
 refine oR Z (Runs.iaI Z Z eP Z ZI Tryz.sizeOf4 (wKw dy) (wKx dy)) ?_
 have ig:aR ∈ bks bV:=by rw [eP];exact List.mem_singleton.2 rfl
 have vy:RowP bu (some ⟨aR,0,none⟩) bX 4 1 (hH KL.encT aT):=by rw [<- eP];exact gx
 have vj:=((Ows.low mJ (((((((((((((((Br.trans Bn).trans mV).trans mX).trans iQ).trans dI).trans cW).trans cX).trans cY).trans ct).trans dE).trans dF).trans dG).trans dH).trans eY).trans eZ) aR).2 ig).1
 have vA:=cq.thaw vy vj
 have Bj:=PHeap.del_le (m4.trans e8) ((mJ aR).2 ig).1
 have vB:sW w U (bu.del aR) [.row (some ⟨aR,0,none⟩) bX 4 1 (hH KL.encT aT),.blk bg 28 cd,bM,.blk aS 53 aQ,av,.blk aH 34 az,au,B5,.blk ae 34 B8,.blk aa 28 B4,B0,ba] jA:=vA
 have xV:=wDZ (xs:=aT) (wHn dy)
 refine OKS.stR (j:=0) (vs:=[.bool true]) (cs':=hH KL.encT (nB aT ((gd ap aq.toNat).round).toNat true)) rfl rfl rfl rfl vB rfl rfl rfl rfl rfl Tryz.sizeOf4 (by rw [wAL (f:=KL.encT) (sz:=1) (fun _=>rfl)];have hz:=wHn dy;show _ + 1 <= _;first | omega | (simp only [Int.toNat_natCast] at *;omega)) rfl (wOQ (sz:=1) (fo:=0) (fun _=>rfl) _ _ _ _ xV (by first | omega | (simp only [Int.toNat_natCast];omega)) (zA rfl) rfl) rfl ?_
 intro dl vC
 have vD:sW w U (bu.del aR) [.row (some ⟨aR,0,none⟩) bX 4 1 (hH KL.encT (nB aT ((gd ap aq.toNat).round).toNat true)),.blk bg 28 cd,bM,.blk aS 53 aQ,av,.blk aH 34 az,au,B5,.blk ae 34 B8,.blk aa 28 B4,B0,ba] dl:=vC
 have q:=vD.freezeRP (k:=0) rfl
 obtain ⟨bD,cV,gZ,Dz,vE⟩:=q
 have vG:sW w U bD [.blk bg 28 cd,bM,.blk aS 53 aQ,av,.blk aH 34 az,au,B5,.blk ae 34 B8,.blk aa 28 B4,B0,ba] dl:=vE
 replace gZ:RowP bD bV bX 4 1 (hH KL.encT (nB aT ((gd ap aq.toNat).round).toNat true)):=by rw [eP];exact gZ
 have xG:wPN.f bD (nB aT ((gd ap aq.toNat).round).toNat true) [.slice bV aT.length bX] (bks bV):=⟨bV,bX,by simp only [nE],gZ,rfl⟩
 have ii:aR ∈ bks bV:=ig
 have vr:=AI aR ii bD (nB aT ((gd ap aq.toNat).round).toNat true) cV xG
 have xH:wPu.f bD (⟨aI.Skier,aI.Loops,(nB aI.Bouts ((gd ap aq.toNat).bout).toNat (nB aT ((gd ap aq.toNat).round).toNat true))⟩:wAB) [jV aI.Skier,.slice dL aI.Loops.length i0,.slice fb aI.Bouts.length fd] (bks dL ++ iL):=⟨dL,i0,fb,fd,iL,by simp only [nE],(l6.at (iJ.left.keep cV (fun hb=>iJ.apart ⟨hb,(mr aR ii)⟩))),vr,rfl⟩
 have ij:aR ∈ bks dL ++ iL:=nH _ (mr aR ii)
 have vt:=AL aR ij bD (⟨aI.Skier,aI.Loops,(nB aI.Bouts ((gd ap aq.toNat).bout).toNat (nB aT ((gd ap aq.toNat).round).toNat true))⟩:wAB) cV xH
 have xI:wPv.f bD (⟨aN.Bib,aN.Classes,(nB aN.Legs ((gd ap aq.toNat).leg).toNat (⟨aI.Skier,aI.Loops,(nB aI.Bouts ((gd ap aq.toNat).bout).toNat (nB aT ((gd ap aq.toNat).round).toNat true))⟩:wAB))⟩:wAD) [jV aN.Bib,.slice dK aN.Classes.length iZ,.slice e9 aN.Legs.length fc] (bks dK ++ iK):=⟨dK,iZ,e9,fc,iK,by simp only [nE],(l4.at (iI.left.keep cV (fun hb=>iI.apart ⟨hb,(mu aR ij)⟩))),vt,rfl⟩
 have xq:aR ∈ bks dK ++ iK:=nH _ (mu aR ij)
 have vu:=AJ aR xq bD (⟨aN.Bib,aN.Classes,(nB aN.Legs ((gd ap aq.toNat).leg).toNat (⟨aI.Skier,aI.Loops,(nB aI.Bouts ((gd ap aq.toNat).bout).toNat (nB aT ((gd ap aq.toNat).round).toNat true))⟩:wAB))⟩:wAD) cV xI
 have A8:=vu.toR
 let bs:List Value:=[.slice dO aJ.Rules.Classes.length dW,jV aJ.Rules.Each,jV aJ.Rules.Laps,jV aJ.Rules.Spare,jV aJ.Rules.Loop,jV aJ.Rules.Unused,jV aJ.Start,.slice br ((nB aJ.Teams ((gd ap aq.toNat).team).toNat (⟨aN.Bib,aN.Classes,(nB aN.Legs ((gd ap aq.toNat).leg).toNat (⟨aI.Skier,aI.Loops,(nB aI.Bouts ((gd ap aq.toNat).bout).toNat (nB aT ((gd ap aq.toNat).round).toNat true))⟩:wAB))⟩:wAD)).length) bS]
 have ma:sW w U bD [.blk bg 28 bs,bM,.blk aS 53 aQ,av,.blk aH 34 az,au,B5,.blk ae 34 B8,.blk aa 28 B4,B0,ba] dl:=by simpa only [B0,au,av,az,ba,aQ,bM,cd,bs,B4,B5,B8,nE] using vG
 refine eN (sR (.fl 0 (.fx 1 (wMq gBi) .stop)) Z (oL Z (ma.ldBA (j:=0) Z Z Z Zc zp (vs:=bs) Z Z) ?_))
 have q:=ma.freezeR (k:=1) (n:=aJ.Rules.Classes.length) rfl (wAL (f:=KL.encI) (sz:=1) (fun _=>rfl) aJ.Rules.Classes) (by decide)
 obtain ⟨jf,mT,A9,vH⟩:=q
 have vJ:sW w U jf [.blk bg 28 bs,.blk aS 53 aQ,av,.blk aH 34 az,au,B5,.blk ae 34 B8,.blk aa 28 B4,B0,ba] dl:=vH
 have sT:=A8.le mT
 have q:=bnd yd
 obtain ⟨⟨bn,oy⟩,sU,my⟩:=q
 try dsimp only at my
 refine zN 0 Z Z Z Z (zJ Z Z Tryz.call8 (zC Z zO) Z) vJ (fun hs=>wDp (⟨aJ.Rules,aJ.Start,(nB aJ.Teams ((gd ap aq.toNat).team).toNat (⟨aN.Bib,aN.Classes,(nB aN.Legs ((gd ap aq.toNat).leg).toNat (⟨aI.Skier,aI.Loops,(nB aI.Bouts ((gd ap aq.toNat).bout).toNat (nB aT ((gd ap aq.toNat).round).toNat true))⟩:wAB))⟩:wAD))⟩:wAF) dO dW br bS dl jf hs A9 sT sU) (.inr Z) ?_
 rintro dP Cg DX o6 Bk vL ⟨fg,fJ,bA,bE,jB,rfl,rfl,sV⟩
 let cD:Res:=.row fg fJ 3 1 (hH KL.encI bn.Bibs)
 have vM:sW w U dP [cD,.row bA bE 23 1 jB,.blk bg 28 bs,.blk aS 53 aQ,av,.blk aH 34 az,au,B5,.blk ae 34 B8,.blk aa 28 B4,B0,ba] o6:=vL
 refine oM Z Z (oR Z (Zs Z Z (v:=.agg #[jV bn.Laps,.slice fg bn.Bibs.length fJ,.slice bA bn.Times.length bE]) Z) (oR Z (Zs Z Z (v:=jV oy) Z) (zo (cs:=B7) Z Z Z Z Z Zm Z vM ?_)))
 intro Cv bP vN
 let cE:List Value:=[jV bn.Laps,.slice fg bn.Bibs.length fJ,.slice bA bn.Times.length bE]
 refine zY (j:=0) (vs:=cE) Z Z Z Z vN Z Z Z Z Zf (zA Z) Z Z Z ?_
 intro jq vO
 have bH:sW w U dP [.blk bP 34 cE,cD,.row bA bE 23 1 jB,.blk bg 28 bs,.blk aS 53 aQ,av,.blk aH 34 az,au,B5,.blk ae 34 B8,.blk aa 28 B4,B0,ba] jq:=vO
 refine oA Z Z (eN (zE (zE (CK.fresh fun dM cR=>?_))))
 have jR:dM 7=.pointer (some ⟨aa,0,none⟩):=(cR 7).trans lL
 have ga:dM 8=.pointer (some ⟨ae,0,none⟩):=(cR 8).trans sG
 have qu:dM 9=jV oy:=(cR 9).trans rfl
 have gb:dM 26=.pointer (some ⟨aS,0,none⟩):=(cR 26).trans rfl
 have jS:dM 28=.pointer (some ⟨bP,0,none⟩):=(cR 28).trans rfl
 clear cR
 refine rR wPx Z (oM Z qu (oR Z (Zk Z Z Z) (oM Z Z (ifc my ?_ ?_))))
 intro aU ye
 refine ZE Z Z Z (zi Z Z (ZR (fun h=>h aU.out))) (fun _=>zB Z jS zh Z zw) (Zt Z Z Z (zi Z Z (ZR (fun h=>h aU.out))) (bH.ldB (j:=0) Z Z Z ZN (v:=.slice bA bn.Times.length bE) Z) Z (ZE Z Z Z (zi Z Z (ZR (fun h=>h aU.out))) (fun _=>zV Z Z zm) (ZE Z Z Z (zi Z Z (ZR (fun h=>h aU.out))) (fun _=>zB Z ga zh Z zw) (Zt Z Z Z (zi Z Z (ZR (fun h=>h aU.out))) (bH.ldB (j:=9) Z Z Z ZN (v:=.slice bf x57.Times.length bj) Z) Z (ZE Z Z Z (zi Z Z (ZR (fun h=>h aU.out))) (fun _=>zV Z Z zm) (ZE Z Z Z (zi Z Z (ZR (fun h=>h aU.out))) (fun _=>Zk Z Z Z) (oR Z (ZH Z (ZR (fun h=>h aU.out)) Z) (eN (ifc ye ?_ ?_)))))))))
 intro fK cQ
 refine zx (ZR (fun h=>h fK.out)) (kN (sR wPx Z (oR Z (zB Z gb Zo Z zG) (oL Z (bH.ldB (j:=4) Z Z Z zU (v:=jV ((gd ap aq.toNat).leg)) Z) (oR Z (zB Z jR zH Z zq) (oR Z (zB Z Z zS Z zG) (oL Z (bH.ldB (j:=10) Z Z Z zU (v:=jV aj.Rules.Laps) Z) (oR Z (Runs.mulw Z Z Z) (oR Z (zB Z gb Zo Z zG) (oL Z (bH.ldB (j:=4) Z Z Z zU (v:=jV ((gd ap aq.toNat).bout)) Z) (oR Z (ze Z Z Z) (oR Z (ze Z Z Z) (oA Z Z (eN (zE (sR fL4 Z (oR Z (zB Z ga zh Z zw) (oL Z (bH.ldB (j:=9) Z Z Z ZN (v:=.slice bf x57.Times.length bj) Z) (oR Z (zV Z Z zm) (oM Z Z (eN (zR ?_))))))))))))))))))))))
 have q:=bH.freezeRR (R:=wIU) (k:=2) rfl sV rfl (by decide)
 obtain ⟨fw,Bl,Ba,vQ⟩:=q
 have vR:sW w U fw [.blk bP 34 cE,cD,.blk bg 28 bs,.blk aS 53 aQ,av,.blk aH 34 az,au,B5,.blk ae 34 B8,.blk aa 28 B4,B0,ba] jq:=vQ
 have q:=wCH cQ
 obtain ⟨DQ,cP⟩:=q
 have q:=wCG cP
 obtain ⟨iw,xJ⟩:=q
 replace iw:=zD iw
 refine yB (fun bb _ σ_ w_=>∃ (U_:PHeap),σ_ 265=jV (↑bb:Int)/\σ_ 7=.pointer (some ⟨aa,0,none⟩)/\σ_ 8=.pointer (some ⟨ae,0,none⟩)/\σ_ 26=.pointer (some ⟨aS,0,none⟩)/\σ_ 28=.pointer (some ⟨bP,0,none⟩)/\σ_ 29=jV (w64 ((w64 ((w64 (((gd ap aq.toNat).leg) * aj.Rules.Laps)) + ((gd ap aq.toNat).bout))) + 1))/\σ_ 264=jV (↑x57.Times.length:Int)/\PHeap.Le fw U_/\sW w U U_ [cD,.blk bP 34 cE,.blk bg 28 bs,.blk aS 53 aQ,av,.blk aH 34 az,au,B5,.blk ae 34 B8,.blk aa 28 B4,B0] w_) xJ ?_ ?_ ?_
 exact ⟨fw,rfl,jR,ga,gb,jS,rfl,rfl,(zL _),(vR.pick [1,0,2,3,4,5,6,7,8,9,10] _ (by decide) rfl)⟩
 rintro bb ⟨⟩ Ez EK jr im ⟨cG,gq,qv,gc,qw,jU,qx,jW,iM,vS⟩ mM eS
 try dsimp only at mM
 have jC:Hid ((↑bb:Int) < (↑x57.Times.length:Int)):=zD (wBh im)
 replace im:=zD im
 have xX:Hid (w64 ((↑bb:Int) + 1)=(↑(bb + 1):Int)):=zD (by have h1:=iw.out;have h2:=jC.out;rw [wAU] <;> omega)
 refine sR fL1 rfl (ZE rfl rfl rfl rfl (fun _=>zZ rfl gq jW) (eN (zE (cT Z jC (kN (zE (zR (sR fL2 rfl (ZY rfl rfl rfl rfl rfl gq (OKS.ra rfl rfl rfl rfl rfl rfl (eN (zE (zE (Zb ZV [3,1,3,3,1,3,3,1,3,3,1,3,3] fL13 (by kernel_rfl) ?_))))))))))))))
 have bI:=vS.drew
 generalize hw_W1126:({ jr with drawn:=jr.drawn + 1 }:World)=Cw at bI ⊢
 refine oR Z (zB Z jU zh Z zw) (oL Z (bI.ldB (j:=1) Z Z Z ZN (v:=.slice bA bn.Times.length bE) Z) (oM Z Z (bnK mM fun bZ bU yf=>?_)))
 have eK:=Ba.le iM
 have q:=eK.el (wAX bU)
 obtain ⟨pC,Bu,Ee,uN,gF,AM⟩:=q
 obtain ⟨m6,oe,rfl,Dn⟩:=AM
 replace gF:Cl cG pC (Bu + bb * 1) [.slice m6 bZ.length oe]:=gF
 refine oR Z (zy Z Z uN Z zm zM (wAw bU)) (oL Z (bI.ldC (f:=0) gF (v:=.slice m6 bZ.length oe) Z Z zf Z) (oR Z (zV Z Z zI) (oR Z (zB Z gc zh Z zw) (oL Z (bI.ldB (j:=8) Z Z Z ZN (v:=.slice bf x57.Times.length bj) Z) (oM Z Z (bnK yf fun bw cL yg=>?_))))))
 have sX:=mK.le dH
 have sY:=sX.le eY
 have sZ:=sY.le eZ
 have s5:=sZ.le Bj
 have s6:=s5.le cV
 have s7:=s6.le mT
 have s8:=s7.le Bk
 have tc:=s8.le Bl
 have gy:=tc.le iM
 have q:=gy.el (wAX cL)
 obtain ⟨pD,Bv,Ef,uO,gG,AN⟩:=q
 obtain ⟨m7,og,rfl,Do⟩:=AN
 replace gG:Cl cG pD (Bv + bb * 1) [.slice m7 bw.length og]:=gG
 refine oR Z (zy Z Z uO Z zm zM (wAw cL)) (oL Z (bI.ldC (f:=0) gG (v:=.slice m7 bw.length og) Z Z zf Z) (oR Z (zV Z Z zI) (oR Z (Zk Z Z Z) (eN (ifc yg ?_ ?_)))))
 intro fL dB
 refine zx (ZR (fun h=>h fL.out)) (kN (sR fL7 Z (oR Z (zB Z gc zh Z zw) (oL Z (bI.ldB (j:=8) Z Z Z ZN (v:=.slice bf x57.Times.length bj) Z) (oM Z Z ?_)))))
 have q:=gy.el (wAX cL)
 obtain ⟨pE,Bw,Eg,uP,gH,AP⟩:=q
 obtain ⟨m8,oh,rfl,Dp⟩:=AP
 replace gH:Cl cG pE (Bw + bb * 1) [.slice m8 bw.length oh]:=gH
 refine oR Z (zy Z Z uP Z zm zM (wAw cL)) (oL Z (bI.ldC (f:=0) gH (v:=.slice m8 bw.length oh) Z Z zf Z) (oR Z (zV Z Z zI) (oM Z Z (eN (zR ?_)))))
 have q:=wCH dB
 obtain ⟨DR,dA⟩:=q
 have q:=wCG dA
 obtain ⟨iy,xK⟩:=q
 replace iy:=zD iy
 refine yB (fun dC _ σ_ w_=>∃ (U_:PHeap),σ_ 287=jV (↑dC:Int)/\σ_ 7=.pointer (some ⟨aa,0,none⟩)/\σ_ 8=.pointer (some ⟨ae,0,none⟩)/\σ_ 26=.pointer (some ⟨aS,0,none⟩)/\σ_ 28=.pointer (some ⟨bP,0,none⟩)/\σ_ 29=jV (w64 ((w64 ((w64 (((gd ap aq.toNat).leg) * aj.Rules.Laps)) + ((gd ap aq.toNat).bout))) + 1))/\σ_ 30=jV (↑bb:Int)/\σ_ 264=jV (↑x57.Times.length:Int)/\σ_ 265=jV (↑bb:Int)/\σ_ 286=jV (↑bw.length:Int)/\PHeap.Le cG U_/\sW w U U_ [cD,.blk bP 34 cE,.blk bg 28 bs,.blk aS 53 aQ,av,.blk aH 34 az,au,B5,.blk ae 34 B8,.blk aa 28 B4,B0] w_) xK ?_ ?_ ?_
 exact ⟨cG,Z,qv,gc,qw,jU,qx,Z,jW,gq,Z,(zL _),bI⟩
 rintro dC ⟨⟩ EA EL Cx io ⟨bt,dx,dX,dY,dZ,cJ,d7,bT,ge,gf,d8,cr,aM⟩ mN ik
 try dsimp only at mN
 have jD:Hid ((↑dC:Int) < (↑bw.length:Int)):=zD (wBh io)
 replace io:=zD io
 have il:Hid (w64 ((↑dC:Int) + 1)=(↑(dC + 1):Int)):=zD (by have h1:=iy.out;have h2:=jD.out;rw [wAU] <;> omega)
 refine sR fL1 Z (oR Z (zZ Z dx d8) (eN (zE (cT Z jD (kN (zE (zR (sR fL2 Z (oM Z dx (oA Z Z (eN (sR fL9 Z (oR Z (zB Z dY zh Z zw) (oL Z (aM.ldB (j:=8) Z Z Z ZN (v:=.slice bf x57.Times.length bj) Z) (oM Z bT ?_)))))))))))))))
 have te:=gy.le cr
 have q:=te.el (wAX cL)
 obtain ⟨pF,Bx,Eh,uQ,gI,AQ⟩:=q
 obtain ⟨m9,oi,rfl,tf⟩:=AQ
 replace gI:Cl bt pF (Bx + bb * 1) [.slice m9 bw.length oi]:=gI
 refine oR Z (zy Z Z uQ Z zm zM (wAw cL)) (oL Z (aM.ldC (f:=0) gI (v:=.slice m9 bw.length oi) Z Z zf Z) (oM Z Z (bnK mN fun BY lM yi=>?_)))
 have q:=tf.el (fun _=>rfl) (wAX lM)
 obtain ⟨CW,DJ,uR,vk⟩:=q
 refine oR Z (zy Z Z uR Z zI zG (wAw lM)) (oL Z (aM.ldC (f:=0) vk (v:=jV BY) Z Z zU Z) (oA Z Z (eN (zE (sR fL9 Z (oM Z bT (oR Z (zB Z dZ Zo Z zG) (oL Z (aM.ldB (j:=3) Z Z Z zU (v:=jV ((gd ap aq.toNat).team)) Z) (oR Z (Runs.eql Z Z Z) (oM Z Z (ifc yi ?_ ?_)))))))))))
 intro bF yj
 refine ZY Z Z Z (wT Z bF) Z Z (ZY Z Z Z (wT Z bF) Z d7 (rU Z (wT Z bF) (Runs.geq Z Z Z) (oR Z (ZF Z (wGb bF.out) Z) (eN (ifc yj ?_ ?_)))))
 intro fM yk
 refine cT Z fM (rR fL6 Z (oM Z Z (oR Z (zB Z dX zH Z zq) (oR Z (zB Z Z zS Z zG) (oL Z (aM.ldB (j:=9) Z Z Z zU (v:=jV aj.Rules.Loop) Z) (oR Z (Zg Z Z Z) (oA Z Z (eN (sR fL10 Z (oR Z (zB Z cJ zh Z zw) (oL Z (aM.ldB (j:=1) Z Z Z ZN (v:=.slice bA bn.Times.length bE) Z) (oM Z bT ?_))))))))))))
 have tg:=eK.le cr
 have q:=tg.el (wAX bU)
 obtain ⟨pG,By,Ei,uS,gJ,AS⟩:=q
 obtain ⟨n5,oj,rfl,th⟩:=AS
 replace gJ:Cl bt pG (By + bb * 1) [.slice n5 bZ.length oj]:=gJ
 refine oR Z (zy Z Z uS Z zm zM (wAw bU)) (oL Z (aM.ldC (f:=0) gJ (v:=.slice n5 bZ.length oj) Z Z zf Z) (oM Z Z (bnK yk fun BZ lN yl=>?_)))
 have q:=th.el (fun _=>rfl) (wAX lN)
 obtain ⟨CX,DK,uT,vl⟩:=q
 refine oR Z (zy Z Z uT Z zI zG (wAw lN)) (oL Z (aM.ldC (f:=0) vl (v:=jV BZ) Z Z zU Z) (oM Z Z (oR Z (Zk Z Z Z) (eN (ifc yl ?_ ?_)))))
 intro fN ym
 refine zx (ZR (fun h=>h fN.out)) (Zp (zj (zF (rR fL2 Z (oR Z (ZP (ze Z dx Z) (congrArg (jV) il.out)) (oM Z Z (zr ?_)))))))
 have q:=nA ym
 obtain rfl:=q
 exact zF ⟨Z,_,Z,⟨bt,Z,dX,dY,dZ,cJ,d7,bT,ge,gf,d8,cr,aM⟩⟩
 intro fN yn
 refine cT Z fN (sR fL1 Z (oA Z Z (eN (zQ (zd (zK ?_))))))
 have q:=wAa yn
 obtain ⟨BL,yo,qg⟩:=q
 have q:=wBw dB dA (ik BL qg)
 obtain rfl:=q
 refine zK (zd (zd (zK ?_)))
 have q:=wAa yo
 obtain ⟨BM,yp,qh⟩:=q
 have q:=wBw cQ cP (eS BM qh)
 obtain rfl:=q
 refine zK (zd (zK ?_))
 have hE:=nA yp;first | subst r | cases hE
 exact ⟨rfl,_,(ZA rfl),bt,_,(aM.pick [] _ (by decide) rfl),rfl,rfl⟩
 intro fM yq
 refine cF Z fM (kN (sR fL10 Z (oR Z (zB Z cJ zh Z zw) (oL Z (aM.ldB (j:=1) Z Z Z ZN (v:=.slice bA bn.Times.length bE) Z) (oM Z bT ?_)))))
 have tj:=eK.le cr
 have q:=tj.el (wAX bU)
 obtain ⟨pH,Bz,Ej,uU,gK,AT⟩:=q
 obtain ⟨n6,ol,rfl,tl⟩:=AT
 replace gK:Cl bt pH (Bz + bb * 1) [.slice n6 bZ.length ol]:=gK
 refine oR Z (zy Z Z uU Z zm zM (wAw bU)) (oL Z (aM.ldC (f:=0) gK (v:=.slice n6 bZ.length ol) Z Z zf Z) (oM Z Z (bnK yq fun Ca lO yr=>?_)))
 have q:=tl.el (fun _=>rfl) (wAX lO)
 obtain ⟨CY,DL,uV,vm⟩:=q
 refine oR Z (zy Z Z uV Z zI zG (wAw lO)) (oL Z (aM.ldC (f:=0) vm (v:=jV Ca) Z Z zU Z) (oM Z Z (oR Z (Zk Z Z Z) (eN (ifc yr ?_ ?_)))))
 intro fO yt
 refine zx (ZR (fun h=>h fO.out)) (Zp (zj (zF (rR fL2 Z (oR Z (ZP (ze Z dx Z) (congrArg (jV) il.out)) (oM Z Z (zr ?_)))))))
 have q:=nA yt
 obtain rfl:=q
 exact zF ⟨Z,_,Z,⟨bt,Z,dX,dY,dZ,cJ,d7,bT,ge,gf,d8,cr,aM⟩⟩
 intro fO yu
 refine cT Z fO (sR fL1 Z (oA Z Z (eN (zQ (zd (zK ?_))))))
 have q:=wAa yu
 obtain ⟨BN,yv,qi⟩:=q
 have q:=wBw dB dA (ik BN qi)
 obtain rfl:=q
 refine zK (zd (zd (zK ?_)))
 have q:=wAa yv
 obtain ⟨BO,yw,qj⟩:=q
 have q:=wBw cQ cP (eS BO qj)
 obtain rfl:=q
 refine zK (zd (zK ?_))
 have hE:=nA yw;first | subst r | cases hE
 exact ⟨rfl,_,(ZA rfl),bt,_,(aM.pick [] _ (by decide) rfl),rfl,rfl⟩
 intro bF yy
 refine oF Z bF (oF Z bF (oF Z bF (oR Z (ZH Z (ZR bF.out) Z) (eN (zx Z (kN (sR fL10 Z (oR Z (zB Z cJ zh Z zw) (oL Z (aM.ldB (j:=1) Z Z Z ZN (v:=.slice bA bn.Times.length bE) Z) (oM Z bT ?_))))))))))
 have tn:=eK.le cr
 have q:=tn.el (wAX bU)
 obtain ⟨pI,BA,Ek,uW,gL,AU⟩:=q
 obtain ⟨n7,om,rfl,tp⟩:=AU
 replace gL:Cl bt pI (BA + bb * 1) [.slice n7 bZ.length om]:=gL
 refine oR Z (zy Z Z uW Z zm zM (wAw bU)) (oL Z (aM.ldC (f:=0) gL (v:=.slice n7 bZ.length om) Z Z zf Z) (oM Z Z (bnK yy fun Cb lP yz=>?_)))
 have q:=tp.el (fun _=>rfl) (wAX lP)
 obtain ⟨CZ,DM,uX,vn⟩:=q
 refine oR Z (zy Z Z uX Z zI zG (wAw lP)) (oL Z (aM.ldC (f:=0) vn (v:=jV Cb) Z Z zU Z) (oM Z Z (oR Z (Zk Z Z Z) (eN (ifc yz ?_ ?_)))))
 intro fP yG
 refine zx (ZR (fun h=>h fP.out)) (Zp (zj (zF (rR fL2 Z (oR Z (ZP (ze Z dx Z) (congrArg (jV) il.out)) (oM Z Z (zr ?_)))))))
 have q:=nA yG
 obtain rfl:=q
 exact zF ⟨Z,_,Z,⟨bt,Z,dX,dY,dZ,cJ,d7,bT,ge,gf,d8,cr,aM⟩⟩
 intro fP yH
 refine cT Z fP (sR fL1 Z (oA Z Z (eN (zQ (zd (zK ?_))))))
 have q:=wAa yH
 obtain ⟨BP,yI,qk⟩:=q
 have q:=wBw dB dA (ik BP qk)
 obtain rfl:=q
 refine zK (zd (zd (zK ?_)))
 have q:=wAa yI
 obtain ⟨BQ,yJ,ql⟩:=q
 have q:=wBw cQ cP (eS BQ ql)
 obtain rfl:=q
 refine zK (zd (zK ?_))
 have hE:=nA yJ;first | subst r | cases hE
 exact ⟨rfl,_,(ZA rfl),bt,_,(aM.pick [] _ (by decide) rfl),rfl,rfl⟩
 rintro ⟨⟩ EM Cy ⟨oO,sI,qy,qz,qA,qB,qC,C4,qD,qE,qF,Bm,vY⟩ xr
 have mA:=wCo dB dA xr
 try dsimp only at mA
 have pW:Hid (¬ ((↑(((↑bw.length:Int):Int) - 0).toNat:Int) < (↑bw.length:Int))):=zD (wBH)
 refine sR fL1 Z (oR Z (zZ Z sI qF) (eN (zE (cF Z pW (ZM (zW (zW (ZB (zj (zF (rR fL2 Z (oR Z (ZP (ze Z qE Z) (congrArg (jV) xX.out)) (oM Z Z (zr ?_))))))))))))))
 have q:=nA mA
 obtain rfl:=q
 exact zF ⟨Z,_,Z,⟨oO,Z,qy,qz,qA,qB,qC,qD,(iM.trans Bm),vY⟩⟩
 intro fL yK
 refine cT Z fL (sR fL1 Z (oA Z Z (eN (zQ (zK (zd (zK ?_)))))))
 have q:=wAa yK
 obtain ⟨BR,yL,qm⟩:=q
 have q:=wBw cQ cP (eS BR qm)
 obtain rfl:=q
 refine zK (zd (zK ?_))
 have hE:=nA yL;first | subst r | cases hE
 exact ⟨rfl,_,(ZA rfl),cG,_,(bI.pick [] _ (by decide) rfl),rfl,rfl⟩
 rintro ⟨⟩ EN o7 ⟨oP,sJ,C5,C6,C7,C8,C9,qG,DG,vZ⟩ xt
 have mB:=wCo cQ cP xt
 try dsimp only at mB
 have pX:Hid (¬ ((↑(((↑x57.Times.length:Int):Int) - 0).toNat:Int) < (↑x57.Times.length:Int))):=zD (wBH)
 refine sR fL1 Z (oR Z (zZ Z sJ qG) (eN (zE (cF Z pX (ZM (zW (zW (ZB (zF (sR gBg Z (bnK mB fun Ew tr yM=>zN 0 Z Z Z Z (zJ Z Z Tryz.call12 zO Z) vZ (fun hs=>wCm o7 oP hs tr) (.inr Z) ?_)))))))))))
 rintro jg Ci DZ o8 DH v9 ⟨rfl,rfl⟩
 have wa:sW w U jg [cD,.blk bP 34 cE,.blk bg 28 bs,.blk aS 53 aQ,av,.blk aH 34 az,au,B5,.blk ae 34 B8,.blk aa 28 B4,B0] o8:=v9
 refine oA Z Z (eN (zQ ?_))
 have hE:=nA yM;first | subst r | cases hE
 exact ⟨rfl,_,(ZA rfl),jg,_,(wa.pick [] _ (by decide) rfl),rfl,rfl⟩
 intro fK yN
 refine cT Z fK (sR fL1 Z (oA Z Z (eN (zQ (zK ?_)))))
 have hE:=nA yN;first | subst r | cases hE
 exact ⟨rfl,_,(ZA rfl),dP,_,(bH.pick [] _ (by decide) rfl),rfl,rfl⟩
 intro aU yO
 refine oT Z aU (oT Z aU (oT Z aU (oT Z aU (oT Z aU (oT Z aU (oT Z aU (oR Z (ZF Z (wGb aU.out) Z) (eN (ZQ Z (sR fL1 Z (oA Z Z (eN (zQ (zK ?_))))))))))))))
 have hE:=nA yO;first | subst r | cases hE
 exact ⟨rfl,_,(ZA rfl),dP,_,(bH.pick [] _ (by decide) rfl),rfl,rfl⟩
 intro fR yP
 refine cT Z fR (sR fL1 Z (oA Z Z (eN (zQ (zK ?_)))))
 have hE:=nA yP;first | subst r | cases hE
 exact ⟨rfl,_,(ZA rfl),dQ,_,(cN.pick [] _ (by decide) rfl),rfl,rfl⟩
 intro aV yQ
 refine oT Z aV (oT Z aV (oT Z aV (oT Z aV (oT Z aV (oT Z aV (oT Z aV (oR Z (ZF Z (wGb aV.out) Z) (eN (ZQ Z (sR fL1 Z (oA Z Z (eN (zQ (zK ?_))))))))))))))
 have hE:=nA yQ;first | subst r | cases hE
 exact ⟨rfl,_,(ZA rfl),dQ,_,(cN.pick [] _ (by decide) rfl),rfl,rfl⟩
 intro fY yR
 refine cT Z fY (sR fL1 Z (oA Z Z (eN (zQ (zK ?_)))))
 have hE:=nA yR;first | subst r | cases hE
 exact ⟨rfl,_,(ZA rfl),dh,_,(cO.pick [] _ (by decide) rfl),rfl,rfl⟩
 intro aW yS
 refine oT Z aW (oT Z aW (oT Z aW (oT Z aW (oT Z aW (oT Z aW (oT Z aW (oR Z (ZF Z (wGb aW.out) Z) (eN (ZQ Z (sR fL1 Z (oA Z Z (eN (zQ (zK ?_))))))))))))))
 have hE:=nA yS;first | subst r | cases hE
 exact ⟨rfl,_,(ZA rfl),dh,_,(cO.pick [] _ (by decide) rfl),rfl,rfl⟩
end Go.Proofs.YtnbcoenjobdplaaGreat
