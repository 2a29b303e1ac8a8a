import Derived.Test.YtkedcbligiebkaaGreatY7
import Derived.Test.YtkedcbligiebkaaGreatY6
set_option linter.all false
open List renaming flatMap->hH
open Go.Value renaming bool->nA
open Bool renaming eq_false_iff->nB
open Option.some renaming inj->nD
namespace Go.Proofs.YtkedcbligiebkaaGreat
open Go.KL
def gBd:Sch:=.fx 0 (.fl 1 .nil) .stop
def gBe:Sch:=.fx 2 (.fx 3 .nil .stop) .stop
def gBf:Sch:=.fl 0 (.fx 1 .nil .stop)
def gBg:Sch:=.fx 4 (.fx 5 .nil .stop) .stop
def gBh:Sch:=.fl 3 (.fx 5 .nil .stop)
def gBi:Sch:=.fl 10 (.fx 12 .nil .stop)
def gBj:Sch:=.fx 6 (.fx 7 .nil .stop) .stop
def gBk:Sch:=.fx 8 (.fx 9 .nil .stop) .stop
def gBl:Sch:=.fl 7 (.fx 9 .nil .stop)
def gBm:Sch:=.fx 4 (.fl 5 .nil) .stop
def gBn:Sch:=.fx 7 (.fx 8 .nil .stop) .stop
def gBo:Sch:=.fx 6 (.fx 8 .nil .stop) .stop
def gBp:Sch:=.fx 13 (.fl 14 (.fl 15 .nil)) .stop
def gBq:Sch:=.fl 10 (.fx 11 (.fx 12 .nil .stop) .stop)
def gBr:Sch:=.fx 6 gBi .stop
def gBs:Sch:=.fx 6 gBl .stop
def gBt:Sch:=.fx 4 gBl .stop
def gBu:Sch:=.fx 3 gBm .stop
def gBv:Sch:=.fl 22 (.fl 23 (.fx 24 .nil .stop))
def gBw:Sch:=.fl 0 (.fl 1 (.fx 2 (.fl 3 .nil) .stop))
def gBx:Sch:=.fx 0 (.fx 1 gBe .stop) .stop
def gBy:Sch:=.fx 0 (.fx 1 (.fl 2 (.fl 3 .nil)) .stop) .stop
def gBz:Sch:=.fx 8 (.fl 9 gBi) .stop
def gCa:Sch:=.fl 7 (.fx 2 gBk .stop)
def gCb:Sch:=.fl 4 (.fl 5 gBo)
def gCc:Sch:=.fx 0 (.fl 5 gBo) .stop
def gCd:Sch:=.fx 21 gBv .stop
def gCe:Sch:=.fl 0 (.fl 1 (.fx 2 (.fl 3 (.fl 4 .nil)) .stop))
def gCf:Sch:=.fx 6 (.fl 7 gBk) (.fx 8 gBs .stop)
def gCg:Sch:=.fx 4 (.fl 7 gBk) (.fx 8 gBt .stop)
def gCh:Sch:=.fx 0 (.fx 1 (.fx 2 (.fx 3 (.fl 4 .nil) .stop) .stop) .stop) .stop
def gCi:Sch:=.fl 5 (.fx 6 gBn (.fx 7 gBo .stop))
def gCj:Sch:=.fx 3 gCb .stop
def gCk:Sch:=.fx 2 gCj .stop
def gCl:Sch:=.fx 1 gCj .stop
def gCm:Sch:=.fl 1 (.fl 2 (.fx 0 (.fl 3 gBg) (.fx 4 (.fx 0 gBh .stop) .stop)))
def gCn:Sch:=.fl 0 (.fl 2 (.fx 1 gBu (.fx 3 (.fx 1 gBm .stop) .stop)))
def gCo:Sch:=.fx 3 (.fl 4 gCi) (.fx 7 gCj .stop)
def gCp:Sch:=.fl 4 (.fx 0 gCi (.fx 7 gCc .stop))
def gCq:Sch:=.fx 0 gCj (.fx 3 (.fl 4 gCc) .stop)
def gCr:Sch:=.fx 2 gCo (.fx 7 gCk .stop)
def gCs:Sch:=.fx 1 gCo (.fx 7 gCl .stop)
def gCt:Sch:=.fx 1 gCk (.fx 2 gCl .stop)
def gCu:Sch:=.fx 0 gCk (.fx 2 gCq .stop)
def gCv:Sch:=.fx 0 gCl (.fx 1 gCq .stop)
def gCw:Sch:=.fx 0 gCo (.fx 3 gCp (.fx 7 gCq .stop))
set_option maxHeartbeats 4000000
theorem wHv (p0:wAH) (w:World) (U:PHeap) (hS:St0 w U [])  {r:Bool} (hm:wCI p0=some r):Gv Tryz.prog 140 [.agg #[jV p0.Offset.Lo,jV p0.Offset.Hi,jV p0.Error]] w (wCW w [] U (fun U_ L_ v=>v=.bool r/\L_=[])):=by
 unfold wCI at hm
 refine Gv.of Tryz.func140 Z Tryz.ntmps140 Tryz.results140 Z (sR gBd Z ?_)
 let B0:List Value:=[jV p0.Offset.Lo,jV p0.Offset.Hi,jV p0.Error]
 refine ZK (cs:=B0) rfl rfl rfl rfl rfl rfl (by rfl) hS ?_
 intro W1 b2 aq
 refine oA Z Z (eN (sR (.fl 0 (.fl 1 (.fx 2 (wQG (.fx 6 (.fl 7 (.fl 8 .nil)) .stop)) .stop))) Z (oR Z (zH Z Z Zz Z ZN) (oL Z (aq.ldBA (j:=0) Z Z Z yR ZN (vs:=[jV p0.Offset.Lo,jV p0.Offset.Hi]) Z Z) (bnK hm fun x5 h6 bb=>zM 0 Z Z Z Z (zK Z Z Tryz.call138 (zB Z (zB Z (zB Z zP))) Z) aq (fun hs=>wFG p0.Offset (-36000) 36000 W1 U hs h6) (.inr Z) ?_)))))
 rintro U8 L9 bi am bg aV ⟨rfl,rfl⟩
 have aj:sW w U U8 [.blk b2 76 B0] am:=aV
 refine oM Z Z (ifc bb ?_ ?_)
 intro ab aY
 refine zZ Z Z Z (ze Z Z (congrArg nA ab.out)) (fun _=>zH Z Z Zz Z zC) (ZF Z Z Z (ze Z Z (congrArg nA ab.out)) (aj.ldB (j:=0) Z Z Z zE (v:=jV p0.Error) Z) Z (bnK aY fun bk az aZ=>zM 0 Z Z Z (ze Z Z (congrArg nA ab.out)) (zK Z Z Tryz.call105 (zB Z (zB Z (zB Z zP))) Z) aj (fun hs=>wDv p0.Error 0 600 am U8 hs az) (.inr Z) ?_))
 rintro ak bd bj av bh aW ⟨rfl,rfl⟩
 have aX:sW w U ak [.blk b2 76 B0] av:=aW
 refine oR Z (zf Z (congrArg nA ab.out) Z) (oA Z Z (eN (zV ?_)))
 have hE:=nD aZ;first | subst r | cases hE
 exact ⟨rfl,_,(ZS rfl),ak,_,(aX.pick [] _ (by decide) rfl),rfl,rfl⟩
 intro ab ba
 refine yJ Z Z Z (Zg Z Z (congrArg nA (nB.2 ab.out)) Z) (yJ Z Z Z (Zg Z Z (congrArg nA (nB.2 ab.out)) Z) (OKS.px Z Z Z (Zg Z Z (congrArg nA (nB.2 ab.out)) Z) (oR Z (zn Z (congrArg nA (nB.2 ab.out)) Z) (oA Z Z (eN (zV ?_))))))
 have hE:=nD ba;first | subst r | cases hE
 exact ⟨rfl,_,(ZS rfl),U8,_,(aj.pick [] _ (by decide) rfl),rfl,rfl⟩
theorem wCb (p0:List wAX) (az:Option Addr) (aU:Nat) (p1:(wAX->Option Bool)) (aV:Value) (w:World) (U:PHeap) (hS:St0 w U []) (bF:Sl U 4 az aU p0.length (hH wAJ p0)) (bG:FnOK Tryz.prog U aV wRw wRx p1) {r:Bool} (hm:wAu p0 p1=some r):Gv Tryz.prog 141 [.slice az p0.length aU,aV] w (wCW w [] U (fun U_ L_ v=>v=.bool r/\L_=[])):=by
 unfold wAu at hm
 refine Gv.of Tryz.func141 Z Tryz.ntmps141 Tryz.results141 Z (sR fL1 Z (oA Z Z (eN (zI (sR fL3 Z (oM Z Z (oR Z (ZA Z Z yI) (oM Z Z (eN (zU ?_))))))))))
 have q:=wCQ hm
 obtain ⟨r3,ap⟩:=q
 have q:=wCP ap
 obtain ⟨au,bJ⟩:=q
 replace au:=zJ au
 refine yX (fun k2 _ σ_ w_=>∃ (U_:PHeap),σ_ 9=jV (↑k2:Int)/\σ_ 1=aV/\σ_ 7=.slice az p0.length aU/\σ_ 8=jV (↑p0.length:Int)/\PHeap.Le U U_/\sW w U U_ [] w_) bJ ?_ ?_ ?_
 exact ⟨U,Z,Z,Z,Z,(zL _),hS⟩
 rintro k2 ⟨⟩ ci cm W8 aq ⟨bk,am,aY,aZ,ba,av,bd⟩ bi bH
 try dsimp only at bi
 have aX:Hid ((↑k2:Int) < (↑p0.length:Int)):=zJ (wBP aq)
 replace aq:=zJ aq
 have bK:Hid (w64 ((↑k2:Int) + 1)=(↑(k2 + 1):Int)):=zJ (by have h1:=au.out;have h2:=aX.out;rw [wAa] <;> omega)
 refine sR fL1 Z (oR Z (zO Z am ba) (eN (zI (cT Z aX (kN (zI (zU (sR (.fl 0 (.fl 1 gBe)) Z (bnK bi fun ab bb bL=>?_)))))))))
 have bu:=bF.le av
 have q:=bu.el (fun _=>rfl) (wAi bb)
 obtain ⟨bW,cb,bz,bA⟩:=q
 refine oR Z (Zp Z aZ bz am yI Zo (wCv bb)) (oL Z (bd.ldCA (f:=0) bA Z Z Tryz.isAgg78 Zo (us:=[jV ab.Skier,jV ab.Mat,jV ab.Clock,jV ab.Time]) Z Z) (zW (cs:=[jV 0,jV 0,jV 0,jV 0]) Z Z Z Z Z Zt Z bd ?_))
 intro bT aW bB
 let B0:List Value:=[jV ab.Skier,jV ab.Mat,jV ab.Clock,jV ab.Time]
 refine zY (j:=0) (vs:=B0) Z Z Z Z bB Z Z Z Z Zo (zA Z) Z Z Z ?_
 intro bn bC
 have be:sW w U bk [.blk aW 78 B0] bn:=bC
 refine eN (sR gBw Z (oM Z aY (oL Z (be.ldBA (j:=0) Z Z Z Tryz.isAgg78 Zo (vs:=B0) Z Z) (bnK bL fun x37 bv bM=>?_))))
 have bw:=bG.le av
 refine yd (a:=ab) Z Z Z Z Z Z (zB Z zP) be bw Z bv ?_
 rintro aj bS cf bo bQ bD ⟨rfl,rfl⟩
 have bg:sW w U aj [.blk aW 78 B0] bo:=bD
 refine oR Z (Zf Z Z) (eN (ifc bM ?_ ?_))
 intro ak bN
 refine zo (nC ak.out) (ZT (zj (zG (rR fL2 Z (oR Z (ZR (zS Z am Z) (congrArg (jV) bK.out)) (oM Z Z (zX ?_)))))))
 have q:=nD bN
 obtain rfl:=q
 exact zG ⟨rfl,_,rfl,⟨aj,rfl,aY,aZ,ba,(av.trans bQ),(bg.pick [] _ (by decide) rfl)⟩⟩
 intro ak bO
 refine ZI (nF (ak.out)) (sR fL1 Z (oA Z Z (eN (zV (zi (zR ?_))))))
 have q:=wAb bO
 obtain ⟨bR,bP,bq⟩:=q
 have q:=wBf hm ap (bH bR bq)
 obtain rfl:=q
 refine zR (zi (zR ?_))
 have hE:=nD bP;first | subst r | cases hE
 exact ⟨rfl,_,(ZS rfl),aj,_,(bg.pick [] _ (by decide) rfl),rfl,rfl⟩
 rintro ⟨⟩ cj bU ⟨bm,bt,bX,bY,br,bZ,bE⟩ bI
 have bh:=wDd hm ap bI
 try dsimp only at bh
 have bp:Hid (¬ ((↑(((↑p0.length:Int):Int) - 0).toNat:Int) < (↑p0.length:Int))):=zJ (wAv)
 refine sR fL1 Z (oR Z (zO Z bt br) (eN (zI (cF Z bp (ZP (zd (zd (ZJ (zG (sR fL1 Z (oA Z Z (eN (zV ?_)))))))))))))
 have hE:=nD bh;first | subst r | cases hE
 exact ⟨Z,_,(ZS Z),bm,_,bE,Z,Z⟩
theorem wHw (p0:wAX) (w:World) (U:PHeap) (hS:St0 w U [])  {r:Bool} (hm:wCJ p0=some r):Gv Tryz.prog 142 [.agg #[jV p0.Skier,jV p0.Mat,jV p0.Clock,jV p0.Time]] w (wCW w [] U (fun U_ L_ v=>v=.bool r/\L_=[])):=by
 unfold wCJ at hm
 refine Gv.of Tryz.func142 Z Tryz.ntmps142 Tryz.results142 Z (sR gBd Z ?_)
 let B0:List Value:=[jV p0.Skier,jV p0.Mat,jV p0.Clock,jV p0.Time]
 refine ZK (cs:=B0) rfl rfl rfl rfl rfl rfl (by rfl) hS ?_
 intro W1 b2 ai
 refine oA Z Z (eN (sR gBw Z (oR Z (zH Z Z ZM Z zC) (oL Z (ai.ldB (j:=0) Z Z Z zE (v:=jV p0.Time) Z) (bnK hm fun x5 h6 av=>zM 0 Z Z Z Z (zK Z Z Tryz.call105 (zB Z (zB Z (zB Z zP))) Z) ai (fun hs=>wDv p0.Time 0 360000 W1 U hs h6) (.inr Z) ?_)))))
 rintro U8 L9 aV ak aU aq ⟨rfl,rfl⟩
 have au:sW w U U8 [.blk b2 78 B0] ak:=aq
 refine oA Z Z (eN (zV ?_))
 have hE:=nD av;first | subst r | cases hE
 exact ⟨rfl,_,(ZS rfl),U8,_,(au.pick [] _ (by decide) rfl),rfl,rfl⟩
theorem wDj (p0:wAD) (aj:Option Addr) (am:Nat) (ak:Option Addr) (ap:Nat) (aU:Option Addr) (aW:Nat) (aV:Option Addr) (aX:Nat) (p1:wAW) (w:World) (U:PHeap) (hS:St0 w U []) (bv:Sl U 1 aj am p0.Starts.length (hH KL.encI p0.Starts)) (bw:Sl U 2 ak ap p0.Splits.length (hH wAL p0.Splits)) (bz:Sl U 3 aU aW p0.Clocks.length (hH wAA p0.Clocks)) (bA:Sl U 4 aV aX p0.Readings.length (hH wAJ p0.Readings)) {r:Bool} (hm:wAz p0 p1=some r):Gv Tryz.prog 64 [.agg #[.slice aj p0.Starts.length am,.slice ak p0.Splits.length ap,.slice aU p0.Clocks.length aW,.slice aV p0.Readings.length aX],.agg #[jV p1.Skier,jV p1.Mat]] w (wCW w [] U (fun U_ L_ v=>v=.bool r/\L_=[])):=by
 unfold wAz at hm
 refine Gv.of Tryz.func64 Z Tryz.ntmps64 Tryz.results64 Z (sR (.fx 0 (.fx 1 (.fl 2 .nil) .stop) .stop) Z ?_)
 let B0:List Value:=[.slice aj p0.Starts.length am,.slice ak p0.Splits.length ap,.slice aU p0.Clocks.length aW,.slice aV p0.Readings.length aX]
 refine ZK (cs:=B0) rfl rfl rfl rfl rfl rfl (by rfl) hS ?_
 intro W1 b2 bk
 let B1:List Value:=[jV p1.Skier,jV p1.Mat]
 refine ZK (cs:=B1) rfl rfl rfl rfl rfl rfl (by rfl) bk ?_
 intro W5 b6 az
 refine oA Z Z (eN (sR (wLJ (.fx 6 (wUU gBp) .stop)) Z (oR Z (zH Z Z Tryz.runUnderlying57 Z zC) (oL Z (az.ldB (j:=0) Z Z Z zE (v:=jV p1.Skier) Z) (oR Z (zH Z Z zQ Z zq) (oL Z (az.ldB (j:=1) Z Z Z zw (v:=.slice aj p0.Starts.length am) Z) (oR Z (ZA Z Z zD) (oR Z (ZX Z Z Z) (bnK hm fun x9 bg bn=>zM 0 Z Z Z Z (zK Z Z Tryz.call105 (zB Z (zB Z (zB Z zP))) Z) az (fun hs=>wDv p1.Skier 0 (w64 ((↑p0.Starts.length:Int) - 1)) W5 U hs bg) (.inr Z) ?_)))))))))
 rintro av br bD aZ bB bi ⟨rfl,rfl⟩
 have ai:sW w U av [.blk b6 57 B1,.blk b2 28 B0] aZ:=bi
 refine oM Z Z (ifc bn ?_ ?_)
 intro ab bo
 refine zZ Z Z Z (ze Z Z (congrArg nA ab.out)) (fun _=>zH Z Z Tryz.runUnderlying57 Z zC) (ZF Z Z Z (ze Z Z (congrArg nA ab.out)) (ai.ldB (j:=0) Z Z Z zE (v:=jV p1.Mat) Z) Z (zZ Z Z Z (ze Z Z (congrArg nA ab.out)) (fun _=>zH Z Z zQ Z yF) (ZF Z Z Z (ze Z Z (congrArg nA ab.out)) (ai.ldB (j:=1) Z Z Z yQ (v:=.slice ak p0.Splits.length ap) Z) Z (zZ Z Z Z (ze Z Z (congrArg nA ab.out)) (fun _=>ZA Z Z ZY) (bnK bo fun bF bh bp=>zM 0 Z Z Z (ze Z Z (congrArg nA ab.out)) (zK Z Z Tryz.call105 (zB Z (zB Z (zB Z zP))) Z) ai (fun hs=>wDv p1.Mat 0 (↑p0.Splits.length:Int) aZ av hs bh) (.inr Z) ?_)))))
 rintro aY bt bE bd bC bj ⟨rfl,rfl⟩
 have bm:sW w U aY [.blk b6 57 B1,.blk b2 28 B0] bd:=bj
 refine oR Z (zf Z (congrArg nA ab.out) Z) (oA Z Z (eN (zV ?_)))
 have hE:=nD bp;first | subst r | cases hE
 exact ⟨rfl,_,(ZS rfl),aY,_,(bm.pick [] _ (by decide) rfl),rfl,rfl⟩
 intro ab bq
 refine yJ Z Z Z (Zg Z Z (congrArg nA (nB.2 ab.out)) Z) (yJ Z Z Z (Zg Z Z (congrArg nA (nB.2 ab.out)) Z) (yJ Z Z Z (Zg Z Z (congrArg nA (nB.2 ab.out)) Z) (yJ Z Z Z (Zg Z Z (congrArg nA (nB.2 ab.out)) Z) (yJ Z Z Z (Zg Z Z (congrArg nA (nB.2 ab.out)) Z) (OKS.px Z Z Z (Zg Z Z (congrArg nA (nB.2 ab.out)) Z) (oR Z (zn Z (congrArg nA (nB.2 ab.out)) Z) (oA Z Z (eN (zV ?_)))))))))
 have hE:=nD bq;first | subst r | cases hE
 exact ⟨rfl,_,(ZS rfl),av,_,(ai.pick [] _ (by decide) rfl),rfl,rfl⟩
theorem wHx (p0:wAX) (p1:wAD) (bb:Nat) (ap:Option Addr) (av:Nat) (aq:Option Addr) (az:Nat) (ai:Option Addr) (aj:Nat) (au:Option Addr) (aU:Nat) (w:World) (U:PHeap) (hS:St0 w U []) (ba:Cl U bb 0 [.slice ap p1.Starts.length av,.slice aq p1.Splits.length az,.slice ai p1.Clocks.length aj,.slice au p1.Readings.length aU]) (bn:Sl U 1 ap av p1.Starts.length (hH KL.encI p1.Starts)) (bo:Sl U 2 aq az p1.Splits.length (hH wAL p1.Splits)) (bp:Sl U 3 ai aj p1.Clocks.length (hH wAA p1.Clocks)) (bq:Sl U 4 au aU p1.Readings.length (hH wAJ p1.Readings)) {r:Bool} (hm:wCK p0 p1=some r):Gv Tryz.prog 143 [.agg #[jV p0.Skier,jV p0.Mat,jV p0.Clock,jV p0.Time],.pointer (some ⟨bb,0,none⟩)] w (wCW w [] U (fun U_ L_ v=>v=.bool r/\L_=[])):=by
 unfold wCK at hm
 refine Gv.of Tryz.func143 Z Tryz.ntmps143 Tryz.results143 Z (sR gBd Z ?_)
 let B0:List Value:=[jV p0.Skier,jV p0.Mat,jV p0.Clock,jV p0.Time]
 refine ZK (cs:=B0) rfl rfl rfl rfl rfl rfl (by rfl) hS ?_
 intro W1 b2 am
 refine oA Z Z (eN (sR (wLJ (.fx 6 (wUV (.fx 14 (.fl 15 (.fl 16 .nil)) .stop)) .stop)) Z (oL Z (am.ldCA (f:=0) ba Z Z ZH zu (us:=[.slice ap p1.Starts.length av,.slice aq p1.Splits.length az,.slice ai p1.Clocks.length aj,.slice au p1.Readings.length aU]) Z Z) (oR Z (zH Z Z ZM Z zC) (oL Z (am.ldB (j:=0) Z Z Z zE (v:=jV p0.Skier) Z) (oR Z (zH Z Z ZM Z zC) (oL Z (am.ldB (j:=0) Z Z Z zE (v:=jV p0.Mat) Z) (oR Z (zt (pv:=[(0,jV p0.Skier),(1,jV p0.Mat)]) (z:=[jV 0,jV 0]) (cs:=[jV p0.Skier,jV p0.Mat]) Z (wAB Z (wAB Z wAT)) yb wGo Z Z) (bnK hm fun x5 h6 bv=>zM 0 Z Z Z Z (zK Z Z Tryz.call64 (zB Z (zB Z zP)) Z) am (fun hs=>wDj p1 ap av aq az ai aj au aU (⟨p0.Skier,p0.Mat⟩:wAW) W1 U hs bn bo bp bq h6) (.inr Z) ?_)))))))))
 rintro U8 L9 bC aY bw bj ⟨rfl,rfl⟩
 have ak:sW w U U8 [.blk b2 78 B0] aY:=bj
 refine oM Z Z (ifc bv ?_ ?_)
 intro ae br
 refine zZ Z Z Z (ze Z Z (congrArg nA ae.out)) (fun _=>zH Z Z ZM Z zC) (ZF Z Z Z (ze Z Z (congrArg nA ae.out)) (ak.ldB (j:=0) Z Z Z zE (v:=jV p0.Clock) Z) Z (zZ Z Z Z (ze Z Z (congrArg nA ae.out)) (fun _=>zH Z Z zQ Z Zn) ?_))
 have bg:=ba.le bw
 refine ZF Z Z Z (ze Z Z (congrArg nA ae.out)) (ak.ldC (f:=2) bg (v:=.slice ai p1.Clocks.length aj) Z Z yM Z) Z (zZ Z Z Z (ze Z Z (congrArg nA ae.out)) (fun _=>ZA Z Z Za) (zZ Z Z Z (ze Z Z (congrArg nA ae.out)) (fun _=>ZX Z Z Z) (bnK br fun bE bh bt=>zM 0 Z Z Z (ze Z Z (congrArg nA ae.out)) (zK Z Z Tryz.call105 (zB Z (zB Z (zB Z zP))) Z) ak (fun hs=>wDv p0.Clock 0 (w64 ((↑p1.Clocks.length:Int) - 1)) aY U8 hs bh) (.inr Z) ?_)))
 rintro aX bz bD be bB bk ⟨rfl,rfl⟩
 have bm:sW w U aX [.blk b2 78 B0] be:=bk
 refine oR Z (zf Z (congrArg nA ae.out) Z) (oA Z Z (eN (zV ?_)))
 have hE:=nD bt;first | subst r | cases hE
 exact ⟨rfl,_,(ZS rfl),aX,_,(bm.pick [] _ (by decide) rfl),rfl,rfl⟩
 intro ae bu
 refine yJ Z Z Z (Zg Z Z (congrArg nA (nB.2 ae.out)) Z) (yJ Z Z Z (Zg Z Z (congrArg nA (nB.2 ae.out)) Z) (yJ Z Z Z (Zg Z Z (congrArg nA (nB.2 ae.out)) Z) (yJ Z Z Z (Zg Z Z (congrArg nA (nB.2 ae.out)) Z) (yJ Z Z Z (Zg Z Z (congrArg nA (nB.2 ae.out)) Z) (yJ Z Z Z (Zg Z Z (congrArg nA (nB.2 ae.out)) Z) (OKS.px Z Z Z (Zg Z Z (congrArg nA (nB.2 ae.out)) Z) (oR Z (zn Z (congrArg nA (nB.2 ae.out)) Z) (oA Z Z (eN (zV ?_))))))))))
 have hE:=nD bu;first | subst r | cases hE
 exact ⟨rfl,_,(ZS rfl),U8,_,(ak.pick [] _ (by decide) rfl),rfl,rfl⟩
theorem wJm (p0:wAD) (az:Option Addr) (aW:Nat) (aU:Option Addr) (aX:Nat) (aV:Option Addr) (aY:Nat) (ap:Option Addr) (aq:Nat) (w:World) (U:PHeap) (hS:St0 w U []) (cW:Sl U 1 az aW p0.Starts.length (hH KL.encI p0.Starts)) (cX:Sl U 2 aU aX p0.Splits.length (hH wAL p0.Splits)) (cY:Sl U 3 aV aY p0.Clocks.length (hH wAA p0.Clocks)) (cZ:Sl U 4 ap aq p0.Readings.length (hH wAJ p0.Readings)) {r:Int} (hm:wDf p0=some r):Gv Tryz.prog 103 [.agg #[.slice az p0.Starts.length aW,.slice aU p0.Splits.length aX,.slice aV p0.Clocks.length aY,.slice ap p0.Readings.length aq]] w (wCW w [] U (fun U_ L_ v=>v=jV r/\L_=[])):=by
 unfold wDf at hm
 refine Gv.of Tryz.func103 Z Tryz.ntmps103 Tryz.results103 Z (sR gBd Z ?_)
 let B0:List Value:=[.slice az p0.Starts.length aW,.slice aU p0.Splits.length aX,.slice aV p0.Clocks.length aY,.slice ap p0.Readings.length aq]
 refine ZK (cs:=B0) rfl rfl rfl rfl rfl rfl (by rfl) hS ?_
 intro W1 b2 cQ
 have q:=cQ.freeze (k:=0) rfl
 obtain ⟨U5,bo,ba,cV⟩:=q
 replace ba:=Cl.of ba
 have bV:sW w U U5 [] W1:=cV
 replace ba:Cl U5 b2 0 B0:=ba
 refine oA Z Z (eN (zI (zU (sR (wEU (.fx 3 (wUQ (.nil)) .stop)) Z (oR Z (zH Z Z zQ Z zq) (oL Z (bV.ldC (f:=0) ba (v:=.slice az p0.Starts.length aW) Z Z zw Z) (oR Z (ZA Z Z zD) (bnK hm fun dT cf de=>zM 0 Z Z Z Z (zK Z Z Tryz.call105 (zB Z (zB Z (zB Z zP))) Z) bV (fun hs=>wDv (↑p0.Starts.length:Int) 1 8 W1 U5 hs cf) (.inr Z) ?_))))))))
 rintro av dH dO bG bd cP ⟨rfl,rfl⟩
 have am:sW w U av [] bG:=cP
 refine oR Z (Zf Z Z) (oM Z Z (ifc de ?_ ?_))
 intro ab dq
 refine zZ Z Z Z (ze Z Z (nC ab.out)) (fun _=>zH Z Z zQ Z yF) ?_
 have bb:=ba.le bd
 refine ZF Z Z Z (ze Z Z (nC ab.out)) (am.ldC (f:=1) bb (v:=.slice aU p0.Splits.length aX) Z Z yQ Z) Z (zZ Z Z Z (ze Z Z (nC ab.out)) (fun _=>ZA Z Z ZY) (zZ Z Z Z (ze Z Z (nC ab.out)) (fun _=>ya Z Z Z) (oR Z (zn Z (nC ab.out) Z) (oM Z Z (ifc dq ?_ ?_)))))
 intro ae dr
 refine oT Z ae (oT Z ae (oT Z ae (oT Z ae (oR Z (zf Z (Zd ae.out) Z) (oM Z Z (oN Z (oN Z (oN Z (oN Z (oR Z (zf Z Z Z) (oA Z Z (eN (ZI Z (sR fL1 Z (oA Z Z (eN (zV (zi (zR ?_)))))))))))))))))))
 cases dr
 exact ⟨Z,_,(ZS Z),av,_,am,Z,Z⟩
 intro ae dt
 refine rU Z (wF Z ae) (zH Z Z zQ Z Zn) (ZF Z Z Z (wF Z ae) (am.ldC (f:=2) bb (v:=.slice aV p0.Clocks.length aY) Z Z yM Z) Z (rU Z (wF Z ae) (ZA Z Z Za) (rU Z (wF Z ae) (ya Z Z Z) (oR Z (zn Z (ZQ ae.out) Z) (oM Z Z (ifc dt ?_ ?_))))))
 intro ai du
 refine oT Z ai (oT Z ai (oT Z ai (oT Z ai (oR Z (zf Z (Zd ai.out) Z) (oA Z Z (eN (ZI Z (sR fL1 Z (oA Z Z (eN (zV (zi (zR ?_)))))))))))))
 cases du
 exact ⟨Z,_,(ZS Z),av,_,am,Z,Z⟩
 intro ai dv
 refine rU Z (wF Z ai) (zH Z Z zQ Z yY) (ZF Z Z Z (wF Z ai) (am.ldC (f:=3) bb (v:=.slice ap p0.Readings.length aq) Z Z Tryz.isAgg26 Z) Z (rU Z (wF Z ai) (ZA Z Z yI) (rU Z (wF Z ai) (ya Z Z Z) (oR Z (zn Z (ZQ ai.out) Z) (oA Z Z (eN (ifc dv ?_ ?_)))))))
 intro bu dw
 refine cT Z bu (sR fL1 Z (oA Z Z (eN (zV (zi (zR ?_))))))
 cases dw
 exact ⟨Z,_,(ZS Z),av,_,am,Z,Z⟩
 intro bu dx
 refine cF Z bu (sR (.fl 0 (.fl 1 (.fx 2 (wSY (.fx 7 (wQs (.nil)) .stop)) .stop))) Z (oR Z (zH Z Z zQ Z zq) (oL Z (am.ldC (f:=0) bb (v:=.slice az p0.Starts.length aW) Z Z zw Z) ?_)))
 have cr:=cW.le bo
 have bN:=cr.le bd
 have cJ:FnOK Tryz.prog av (.func (.func 135) #[] #[]) wTg wTh wCF:=⟨135,[],[],rfl,Tryz.call135,fun U1 w1 x y vs le hs ha hm=>by obtain rfl:=ha;exact wHt x w1 U1 hs  hm⟩
 refine bnK dx fun x35 ct dy=>zM 0 Z Z Z Z (zK Z Z Tryz.call134 (zB Z (zB Z zP)) Z) am (fun hs=>wGN p0.Starts az aW wCF (.func (.func 135) #[] #[]) bG av hs bN cJ ct) (.inr Z) ?_
 rintro bj dI dP bH be cR ⟨rfl,rfl⟩
 have bB:sW w U bj [] bH:=cR
 refine oR Z (Zf Z Z) (oM Z Z (ifc dy ?_ ?_))
 intro aj dz
 refine zZ Z Z Z (ze Z Z (nC aj.out)) (fun _=>zH Z Z zQ Z yF) ?_
 have bO:=bb.le be
 refine ZF Z Z Z (ze Z Z (nC aj.out)) (bB.ldC (f:=1) bO (v:=.slice aU p0.Splits.length aX) Z Z yQ Z) Z ?_
 have cu:=cX.le bo
 have cw:=cu.le bd
 have bP:=cw.le be
 have cK:FnOK Tryz.prog bj (.func (.func 137) #[] #[]) wTi wTj wCH:=⟨137,[],[],rfl,Tryz.call137,fun U1 w1 x y vs le hs ha hm=>by obtain rfl:=ha;exact wHu x w1 U1 hs  hm⟩
 refine bnK dz fun dV cx dA=>zM 0 Z Z Z (ze Z Z (nC aj.out)) (zK Z Z Tryz.call136 (zB Z (zB Z zP)) Z) bB (fun hs=>wEh p0.Splits aU aX wCH (.func (.func 137) #[] #[]) bH bj hs bP cK cx) (.inr Z) ?_
 rintro bk dJ dQ bI bg cS ⟨rfl,rfl⟩
 have bC:sW w U bk [] bI:=cS
 refine zZ Z Z Z (ze Z Z (nC aj.out)) (fun _=>Zf Z Z) (oR Z (zn Z (nC aj.out) Z) (oA Z Z (eN (ifc dA ?_ ?_))))
 intro bv dB
 refine zo (nC bv.out) (sR gCe Z (oR Z (zH Z Z zQ Z Zn) ?_))
 have bQ:=bO.le bg
 refine oL Z (bC.ldC (f:=2) bQ (v:=.slice aV p0.Clocks.length aY) Z Z yM Z) ?_
 have cy:=cY.le bo
 have cz:=cy.le bd
 have cA:=cz.le be
 have bR:=cA.le bg
 have cL:FnOK Tryz.prog bk (.func (.func 140) #[] #[]) wTk wTl wCI:=⟨140,[],[],rfl,Tryz.call140,fun U1 w1 x y vs le hs ha hm=>by obtain rfl:=ha;exact wHv x w1 U1 hs  hm⟩
 refine bnK dB fun dW cB dC=>zM 0 Z Z Z Z (zK Z Z Tryz.call139 (zB Z (zB Z zP)) Z) bC (fun hs=>wES p0.Clocks aV aY wCI (.func (.func 140) #[] #[]) bI bk hs bR cL cB) (.inr Z) ?_
 rintro bm dK dR bJ bh cU ⟨rfl,rfl⟩
 have bD:sW w U bm [] bJ:=cU
 refine oR Z (Zf Z Z) (oA Z Z (eN (ifc dC ?_ ?_)))
 intro bw dD
 refine zo (nC bw.out) (zI (yh fun dF bW=>?_))
 have bz:dF 1=.pointer (some ⟨b2,0,none⟩):=(bW 1).trans rfl
 clear bW
 refine rR gCe Z (oR Z (zH Z bz zQ Z yY) ?_)
 have bS:=bQ.le bh
 refine oL Z (bD.ldC (f:=3) bS (v:=.slice ap p0.Readings.length aq) Z Z Tryz.isAgg26 Z) ?_
 have cC:=cZ.le bo
 have cD:=cC.le bd
 have cE:=cD.le be
 have cG:=cE.le bg
 have bT:=cG.le bh
 have cM:FnOK Tryz.prog bm (.func (.func 142) #[] #[]) wRw wRx wCJ:=⟨142,[],[],rfl,Tryz.call142,fun U1 w1 x y vs le hs ha hm=>by obtain rfl:=ha;exact wHw x w1 U1 hs  hm⟩
 refine bnK dD fun dX cH dE=>zM 0 Z Z Z Z (zK Z Z Tryz.call141 (zB Z (zB Z zP)) Z) bD (fun hs=>wCb p0.Readings ap aq wCJ (.func (.func 142) #[] #[]) bJ bm hs bT cM cH) (.inr Z) ?_
 rintro bn dL dS bK bi cN ⟨rfl,rfl⟩
 have bA:sW w U bn [] bK:=cN
 refine oR Z (Zf Z Z) (oA Z Z (eN (ifc dE ?_ ?_)))
 intro br da
 refine zo (nC br.out) (sR (wEU (.fx 3 (.fl 4 (.fl 5 .nil)) .stop)) Z (oR Z (zH Z bz zQ Z yY) ?_))
 have bL:=bS.le bi
 refine oL Z (bA.ldC (f:=3) bL (v:=.slice ap p0.Readings.length aq) Z Z Tryz.isAgg26 Z) (oR Z (Runs.mkf Z zP (zB bz zP)) ?_)
 have bM:=bT.le bi
 have bY:=bN.le be
 have bZ:=bY.le bg
 have cb:=bZ.le bh
 have cd:=cb.le bi
 have ci:=bP.le bg
 have cj:=ci.le bh
 have cm:=cj.le bi
 have cn:=bR.le bh
 have cp:=cn.le bi
 have cI:FnOK Tryz.prog bn (.func (.func 143) #[] #[.pointer (some ⟨b2,0,none⟩)]) wRw wRx (fun x=>wCK x p0):=⟨143,[],[.pointer (some ⟨b2,0,none⟩)],rfl,Tryz.call143,fun U1 w1 x y vs le hs ha hm=>by obtain rfl:=ha;exact wHx x p0 b2 az aW aU aX aV aY ap aq w1 U1 hs (bL.le le) (cd.le le) (cm.le le) (cp.le le) (bM.le le) hm⟩
 refine bnK da fun dU cq db=>zM 0 Z Z Z Z (zK Z Z Tryz.call141 (zB Z (zB Z zP)) Z) bA (fun hs=>wCb p0.Readings ap aq (fun x=>wCK x p0) (.func (.func 143) #[] #[.pointer (some ⟨b2,0,none⟩)]) bK bn hs bM cI cq) (.inr Z) ?_
 rintro bp dG dN bX dM cO ⟨rfl,rfl⟩
 have bU:sW w U bp [] bX:=cO
 refine oR Z (Zf Z Z) (oA Z Z (eN (ifc db ?_ ?_)))
 intro bt df
 refine zo (nC bt.out) (ZT (zj (zG (sR fL1 Z (oA Z Z (eN (zV ?_)))))))
 cases df
 exact ⟨Z,_,(ZS Z),bp,_,bU,Z,Z⟩
 intro bt dg
 refine ZI (nF (bt.out)) (sR fL1 Z (oA Z Z (eN (zV (zi (zR ?_))))))
 cases dg
 exact ⟨Z,_,(ZS Z),bp,_,bU,Z,Z⟩
 intro br dh
 refine ZI (nF (br.out)) (sR fL1 Z (oA Z Z (eN (zV (zi (zR ?_))))))
 cases dh
 exact ⟨Z,_,(ZS Z),bn,_,bA,Z,Z⟩
 intro bw dk
 refine ZI (nF (bw.out)) (sR fL1 Z (oA Z Z (eN (zV (zi (zR ?_))))))
 cases dk
 exact ⟨Z,_,(ZS Z),bm,_,bD,Z,Z⟩
 intro bv dl
 refine ZI (nF (bv.out)) (sR fL1 Z (oA Z Z (eN (zV (zi (zR ?_))))))
 cases dl
 exact ⟨Z,_,(ZS Z),bk,_,bC,Z,Z⟩
 intro aj dm
 refine yJ Z Z Z (Zg Z Z (nF (aj.out)) Z) (yJ Z Z Z (Zg Z Z (nF (aj.out)) Z) (OKS.px Z Z Z (Zg Z Z (nF (aj.out)) Z) (yJ Z Z Z (Zg Z Z (nF (aj.out)) Z) (oR Z (zf Z (nF (aj.out)) Z) (oA Z Z (eN (ZI Z (sR fL1 Z (oA Z Z (eN (zV (zi (zR ?_)))))))))))))
 cases dm
 exact ⟨Z,_,(ZS Z),bj,_,bB,Z,Z⟩
 intro ab dp
 refine yJ Z Z Z (Zg Z Z (nF (ab.out)) Z) (yJ Z Z Z (Zg Z Z (nF (ab.out)) Z) (yJ Z Z Z (Zg Z Z (nF (ab.out)) Z) (yJ Z Z Z (Zg Z Z (nF (ab.out)) Z) (oR Z (zf Z (nF (ab.out)) Z) (oM Z Z (oN Z (oN Z (oN Z (oN Z (oR Z (zf Z Z Z) (oM Z Z (oN Z (oN Z (oN Z (oN Z (oR Z (zf Z Z Z) (oA Z Z (eN (ZI Z (sR fL1 Z (oA Z Z (eN (zV (zi (zR ?_)))))))))))))))))))))))))
 cases dp
 exact ⟨Z,_,(ZS Z),av,_,am,Z,Z⟩
theorem wBm  (w:World) (U:PHeap) (hS:St0 w U [])  {r:wAC} (hm:wCj =some r):Gv Tryz.prog 144 [] w (wCW w [] U (fun U_ L_ v=>v=.agg #[jV r.skier,jV r.mat]/\L_=[])):=by
 unfold wCj at hm
 refine Gv.of Tryz.func144 Z Tryz.ntmps144 Tryz.results144 Z (sR (.fx 0 .nil .stop) Z (zW (cs:=[jV 0,jV 0]) Z Z Z Z Z zh Z hS ?_))
 intro W1 b2 aj
 refine eN (sR gBf Z ?_)
 let B0:List Value:=[jV (-1),jV 0]
 refine oR Z (zt (pv:=[(0,jV (-1)),(1,jV 0)]) (z:=[jV 0,jV 0]) (cs:=B0) Z (wAB Z (wAB Z wAT)) zh wBo Z Z) (zY (j:=0) (vs:=B0) Z Z Z Z aj Z Z Z Z zF (zA Z) Z Z Z ?_)
 intro W5 ak
 have ab:sW w U U [.blk b2 95 B0] W5:=ak
 refine eN (zV ?_)
 cases hm
 exact ⟨rfl,_,(wKL (v:=.agg B0.toArray) ⟨⟨_,rfl,(wBX zg zF (ab.blkAt (k:=0) rfl) (vs:=B0) rfl rfl)⟩,trivial⟩),U,_,(ab.pick [] _ (by decide) rfl),rfl,rfl⟩
theorem wFZ {S E:Type} (PY:S->PHeap->List Res->Prop) (PE:E->PHeap->List Res->Prop) (f:S->wAK->Option (S ⊕ E)) (y:Nat) (s0:S) (p1:wAD) (aq:Nat) (cu:Option Addr) (cz:Nat) (cw:Option Addr) (cA:Nat) (cx:Option Addr) (cB:Nat) (cy:Option Addr) (cC:Nat) (w:World) (L:List Res) (U:PHeap) (hS:St ⟨w,L,U⟩ U L w) (hP:PY s0 U L) (hY:YOK Tryz.prog y wTm PY PE f U) (bo:Cl U aq 0 [.slice cu p1.Starts.length cz,.slice cw p1.Splits.length cA,.slice cx p1.Clocks.length cB,.slice cy p1.Readings.length cC]) (jX:Sl U 1 cu cz p1.Starts.length (hH KL.encI p1.Starts)) (jY:Sl U 2 cw cA p1.Splits.length (hH wAL p1.Splits)) (jZ:Sl U 3 cx cB p1.Clocks.length (hH wAA p1.Clocks)) (j0:Sl U 4 cy cC p1.Readings.length (hH wAJ p1.Readings)) {r:S ⊕ E} (hm:wBk f s0 p1=some r):Gv Tryz.prog 195 [.func (.yield y) #[] #[],.pointer (some ⟨aq,0,none⟩)] w (ItS w L U PY PE r):=by
 unfold wBk at hm
 refine Gv.of Tryz.func195 Z Tryz.ntmps195 Tryz.results195 Z (sR fL11 Z (oR Z (zH Z Z zQ Z yF) (oL Z (hS.ldC (f:=1) bo (v:=.slice cw p1.Splits.length cA) Z Z yQ Z) (oR Z (ZA Z Z ZY) (oR Z (zH Z Z zQ Z Zn) (oL Z (hS.ldC (f:=2) bo (v:=.slice cx p1.Clocks.length cB) Z Z yM Z) (oR Z (ZA Z Z Za) (oR Z (zH Z Z zQ Z yY) (oL Z (hS.ldC (f:=3) bo (v:=.slice cy p1.Readings.length cC) Z Z Tryz.isAgg26 Z) (oR Z (ZA Z Z yI) ?_))))))))))
 let B0:List Value:=[jV 1,jV (↑p1.Splits.length:Int),jV (↑p1.Clocks.length:Int),jV (↑p1.Readings.length:Int)]
 refine oR Z (Runs.buildA (pv:=[(0,jV 1),(1,jV (↑p1.Splits.length:Int)),(2,jV (↑p1.Clocks.length:Int)),(3,jV (↑p1.Readings.length:Int))]) (z:=[jV 0,jV 0,jV 0,jV 0]) (cs:=B0) Z (wAB Z (wAB Z (wAB Z (wAB Z wAT)))) Tryz.zeroValue294 Tryz.runUnderlying294 zC Z Z) (oM Z Z (eN (zU ?_)))
 have q:=wCQ hm
 obtain ⟨j5,az⟩:=q
 have q:=wCP az
 obtain ⟨ci,g8⟩:=q
 replace ci:=zJ ci
 refine yX (fun ab dI σ_ w_=>∃ (U_:PHeap) (aV:List Res),σ_ 18=jV (↑ab:Int)/\σ_ 0=.func (.yield y) #[] #[]/\σ_ 1=.pointer (some ⟨aq,0,none⟩)/\σ_ 17=.agg B0.toArray/\PHeap.Le U U_/\St ⟨w,L,U⟩ U_ aV w_/\PY dI U_ aV) g8 ?_ ?_ ?_
 exact ⟨U,L,Z,Z,Z,Z,(zL _),hS,hP⟩
 rintro ab dI k9 lu jw bY ⟨bG,aV,aX,cX,bM,bN,av,bW,dm⟩ iP bp
 have cS:Hid ((↑ab:Int) < 4):=zJ (wBP bY)
 replace bY:=zJ bY
 have dA:Hid (w64 ((↑ab:Int) + 1)=(↑(ab + 1):Int)):=zJ (by have h1:=ci.out;have h2:=cS.out;rw [wAa] <;> omega)
 refine sR fL1 Z (oR Z (zO Z aX Z) (eN (zI (cT Z cS (kN (zI (zU (sR fL4 Z (oM Z aX (bnK iP fun aj bV iz=>oR Z (Runs.ixA (cs:=hH KL.encI ([1,(↑p1.Splits.length:Int),(↑p1.Clocks.length:Int),(↑p1.Readings.length:Int)]:List Int)) Z bN aX Tryz.runUnderlying294 zC (wBt bV) (wBv bV) (wFi zE (wEO (sz:=1) (fun _=>Z) _ _ 0 _ _ (wAi bV) Z))) (oA Z Z (oA Z Z (eN (sR fL4 Z (oR Z (zH Z bM zQ Z zq) ?_)))))))))))))))
 have gz:=bo.le av
 refine oL Z (bW.ldC (f:=0) gz (v:=.slice cu p1.Starts.length cz) Z Z zw Z) (oR Z (ZA Z Z zD) (oA Z Z (eN (zI ?_))))
 have q:=bnd iz
 obtain ⟨⟨dW,i9⟩,dE,dB⟩:=q
 try dsimp only at dB
 refine yA (fun σ_ w_=>∃ (U_:PHeap) (aW:List Res),σ_ 0=.func (.yield y) #[] #[]/\σ_ 1=.pointer (some ⟨aq,0,none⟩)/\σ_ 3=jV (↑ab:Int)/\σ_ 4=jV aj/\σ_ 5=jV (↑p1.Starts.length:Int)/\σ_ 17=.agg B0.toArray/\σ_ 18=jV (↑ab:Int)/\σ_ 30=.bool dW/\PHeap.Le bG U_/\St ⟨w,L,U⟩ U_ aW w_/\PY i9 U_ aW) ?_ ?_
 refine rR fL6 Z (oM Z Z (oR Z (Runs.eql Z Z Z) (oM Z Z ?_)))
 by_cases ak:(↑ab:Int)=2
 have dC:=dE;rw [if_pos ak] at dC;replace ak:=zJ ak
 refine oT Z ak (oT Z ak (oR Z (zf Z (Zd ak.out) Z) (zX ?_)))
 cases dC
 exact zG ⟨Z,⟨bG,aV,cX,bM,Z,Z,Z,bN,aX,Z,(zL _),bW,dm⟩⟩
 have dD:=dE;rw [if_neg ak] at dD;replace ak:=zJ ak
 refine zN Z Z Z (wF Z ak) Z Z (rU Z (wF Z ak) (Runs.eql Z Z Z) (oR Z (zn Z (ZQ ak.out) Z) (zX ?_)))
 cases dD
 exact zG ⟨Z,⟨bG,aV,cX,bM,Z,Z,Z,bN,aX,Z,(zL _),bW,dm⟩⟩
 rintro lD jE ⟨bd,aW,cZ,da,db,de,fS,df,dg,dh,aU,dv,dp⟩
 refine ifc dB ?_ ?_
 intro bI bw
 refine ZI (dh.trans (congrArg nA bI.out)) (rR fL1 Z (oA Z Z (eN (sR fL2 Z (oM Z Z (oM Z Z (eN (zU ?_))))))))
 have q:=wCQ bw
 obtain ⟨j8,bn⟩:=q
 have q:=wCP bn
 obtain ⟨cn,ic⟩:=q
 replace cn:=zJ cn
 refine yX (fun ai dM σ_ w_=>∃ (U_:PHeap) (aZ:List Res),σ_ 32=jV (↑ai:Int)/\σ_ 0=.func (.yield y) #[] #[]/\σ_ 1=.pointer (some ⟨aq,0,none⟩)/\σ_ 3=jV (↑ab:Int)/\σ_ 4=jV aj/\σ_ 17=.agg B0.toArray/\σ_ 18=jV (↑ab:Int)/\σ_ 31=jV 1/\PHeap.Le bd U_/\St ⟨w,L,U⟩ U_ aZ w_/\PY dM U_ aZ) ic ?_ ?_ ?_
 exact ⟨bd,aW,Z,cZ,da,db,de,df,dg,Z,(zL _),dv,dp⟩
 rintro ai dM lh lE jG cd ⟨cJ,aZ,bU,fT,fU,fV,dk,fW,fY,dl,ct,gT,gg⟩ bA dz
 have cO:Hid ((↑ai:Int) < 1):=zJ (wBP cd)
 replace cd:=zJ cd
 have ie:Hid (w64 ((↑ai:Int) + 1)=(↑(ai + 1):Int)):=zJ (by have h1:=cn.out;have h2:=cO.out;rw [wAa] <;> omega)
 refine sR fL1 Z (oR Z (zO Z bU dl) (eN (zI (cT Z cO (kN (zI (zU (sR fL2 Z (oM Z bU (oA Z Z (eN (sR fL2 Z (oM Z dk (oM Z Z (eN (zU ?_))))))))))))))))
 have q:=wCQ bA
 obtain ⟨j4,bj⟩:=q
 have q:=wCP bj
 obtain ⟨cf,g7⟩:=q
 replace cf:=zJ cf
 refine yX (fun am dJ σ_ w_=>∃ (U_:PHeap) (bB:List Res),σ_ 36=jV (↑am:Int)/\σ_ 0=.func (.yield y) #[] #[]/\σ_ 1=.pointer (some ⟨aq,0,none⟩)/\σ_ 3=jV (↑ab:Int)/\σ_ 4=jV aj/\σ_ 6=jV (↑ai:Int)/\σ_ 17=.agg B0.toArray/\σ_ 18=jV (↑ab:Int)/\σ_ 31=jV 1/\σ_ 32=jV (↑ai:Int)/\σ_ 35=jV aj/\PHeap.Le cJ U_/\St ⟨w,L,U⟩ U_ bB w_/\PY dJ U_ bB) g7 ?_ ?_ ?_
 exact ⟨cJ,aZ,Z,fT,fU,fV,dk,Z,fW,fY,dl,bU,Z,(zL _),gT,gg⟩
 rintro am dJ j9 lq jv bX ⟨jt,bB,bR,bJ,eG,bK,eH,bL,eI,eJ,eK,eL,cU,cp,gD,gh⟩ iO dw
 have cP:Hid ((↑am:Int) < aj):=zJ (wBP bX)
 replace bX:=zJ bX
 have ig:Hid (w64 ((↑am:Int) + 1)=(↑(am + 1):Int)):=zJ (by have h1:=cf.out;have h2:=cP.out;rw [wAa] <;> omega)
 refine sR fL1 Z (oR Z (zO Z bR cU) (eN (zI (cT Z cP (kN (zI (zU (sR fL2 Z (oM Z bR (oA Z Z (eN (sR (wDh (.fx 5 (wQr gBp) .stop)) Z (oM Z bJ (oM Z bK (oM Z bL (oM Z Z ?_))))))))))))))))
 let B1:List Value:=[jV 0,jV 0,jV 0,.bool false]
 refine oR Z (zt (pv:=[(0,jV (↑ab:Int)),(1,jV (↑ai:Int)),(2,jV (↑am:Int)),(3,.bool true)]) (z:=B1) (cs:=[jV (↑ab:Int),jV (↑ai:Int),jV (↑am:Int),.bool true]) Z (wAB Z (wAB Z (wAB Z (wAB Z wAT)))) Tryz.zeroValue210 wFw Z Z) (bnK iO fun jm gi bq=>OKS.yieldT 0 (a:=(⟨(↑ab:Int),(↑ai:Int),(↑am:Int),true⟩:wAK)) Z Z Z Z Z Z (zB Z zP) gD hY (((av.trans aU).trans ct).trans cp) gh Z gi Z ?_)
 rintro bF cG jH cK dF dq be
 rcases jm with iY | iY
 try dsimp only at bq be
 obtain ⟨rfl,iG⟩:=be
 have gE:St ⟨w,L,U⟩ bF cG cK:=dq
 refine oR Z (Zf Z Z) (oM Z Z (zN Z Z Z (ze Z Z Z) Z bJ (zN Z Z Z (ze Z Z Z) Z bK (zN Z Z Z (ze Z Z Z) Z bL (zN Z Z Z (ze Z Z Z) Z Z (zZ Z Z Z (ze Z Z Z) (fun _=>zt (pv:=[(0,jV (↑ab:Int)),(1,jV (↑ai:Int)),(2,jV (↑am:Int)),(3,.bool false)]) (z:=B1) (cs:=[jV (↑ab:Int),jV (↑ai:Int),jV (↑am:Int),.bool false]) Z (wAB Z (wAB Z (wAB Z (wAB Z wAT)))) Tryz.zeroValue210 wFw Z Z) (bnK bq fun jo gj br=>OKS.yieldT 0 (a:=(⟨(↑ab:Int),(↑ai:Int),(↑am:Int),false⟩:wAK)) Z Z Z (ze Z Z Z) Z Z (zB Z zP) gE hY ((((av.trans aU).trans ct).trans cp).trans dF) iG Z gj Z ?_)))))))
 rintro ba bC jJ cL iR dr bg
 rcases jo with iZ | iZ
 try dsimp only at br bg
 obtain ⟨rfl,iH⟩:=bg
 have gF:St ⟨w,L,U⟩ ba bC cL:=dr
 refine zZ Z Z Z (ze Z Z Z) (fun _=>Zf Z Z) (oR Z (zn Z Z Z) (eN (zo Z (ZT (zj (zG (rR fL2 Z (oR Z (ZR (zS Z bR Z) (congrArg (jV) ig.out)) (oM Z Z (zX ?_))))))))))
 have q:=nD br
 obtain rfl:=q
 exact zG ⟨Z,_,Z,⟨ba,bC,Z,bJ,eG,bK,eH,bL,eI,eJ,eK,eL,cU,((cp.trans dF).trans iR),gF,iH⟩⟩
 try dsimp only at br bg
 obtain ⟨rfl,iI⟩:=bg
 have gG:St ⟨w,L,U⟩ ba bC cL:=dr
 refine zZ Z Z Z (ze Z Z Z) (fun _=>Zf Z Z) (oR Z (zn Z Z Z) (eN (ZI Z (zV (zi (zR ?_))))))
 have q:=wAb br
 obtain ⟨ja,ik,d9⟩:=q
 have q:=wBf bA bj (dw ja d9)
 obtain rfl:=q
 refine zR (zi (zi (zR ?_)))
 have q:=wAb ik
 obtain ⟨jb,il,ec⟩:=q
 have q:=wBf bw bn (dz jb ec)
 obtain rfl:=q
 refine zR (zi (zi (zR ?_)))
 have q:=wAb il
 obtain ⟨jc,im,ef⟩:=q
 have q:=wBf hm az (bp jc ef)
 obtain rfl:=q
 refine zR (zi ?_)
 cases im
 exact ⟨Z,_,(wDn),ba,_,gG,iI⟩
 try dsimp only at bq be
 obtain ⟨rfl,iJ⟩:=be
 have gH:St ⟨w,L,U⟩ bF cG cK:=dq
 refine oR Z (Zf Z Z) (oM Z Z (oN Z (oN Z (oN Z (oN Z (oN Z (OKS.px Z Z Z (Zg Z Z Z Z) (oN Z (oR Z (zf Z Z Z) (eN (ZI Z (zV (zi (zR ?_))))))))))))))
 have q:=wAb bq
 obtain ⟨jd,io,eg⟩:=q
 have q:=wBf bA bj (dw jd eg)
 obtain rfl:=q
 refine zR (zi (zi (zR ?_)))
 have q:=wAb io
 obtain ⟨je,ip,eh⟩:=q
 have q:=wBf bw bn (dz je eh)
 obtain rfl:=q
 refine zR (zi (zi (zR ?_)))
 have q:=wAb ip
 obtain ⟨jf,iq,en⟩:=q
 have q:=wBf hm az (bp jf en)
 obtain rfl:=q
 refine zR (zi ?_)
 cases iq
 exact ⟨Z,_,(wDn),bF,_,gH,iJ⟩
 rintro li lv jx ⟨dR,dN,fZ,eM,eO,eQ,eU,jM,eV,eW,eX,eY,eZ,iT,gI,gm⟩ gU
 have ir:=wDd bA bj gU
 have dX:Hid (¬ ((↑((aj:Int) - 0).toNat:Int) < aj)):=zJ (wAv)
 refine sR fL1 Z (oR Z (zO Z fZ eZ) (eN (zI (cF Z dX (ZP (zd (zd (ZJ (zj (zG (rR fL2 Z (oR Z (ZR (zS Z eY Z) (congrArg (jV) ie.out)) (oM Z Z (zX ?_))))))))))))))
 have q:=nD ir
 obtain rfl:=q
 exact zG ⟨Z,_,Z,⟨dR,dN,Z,eM,eO,eQ,eU,eV,eW,eX,(ct.trans iT),gI,gm⟩⟩
 rintro lj lw jy ⟨dS,dO,ga,fb,fc,jN,jO,fd,ff,fg,iU,gJ,gq⟩ gW
 have it:=wDd bw bn gW
 have dY:Hid (¬ ((↑((1:Int) - 0).toNat:Int) < 1)):=zJ (wAv)
 refine sR fL1 Z (oR Z (zO Z ga fg) (eN (zI (cF Z dY (ZP (zd (zd (ZJ (zj (zG (rR fL2 Z (oR Z (ZR (zS Z ff Z) (congrArg (jV) dA.out)) (oM Z Z (zX ?_))))))))))))))
 have q:=nD it
 obtain rfl:=q
 exact zG ⟨Z,_,Z,⟨dS,dO,Z,fb,fc,fd,((av.trans aU).trans iU),gJ,gq⟩⟩
 intro bI bt
 refine zo (dh.trans (congrArg nA (nB.2 bI.out))) (kN (sR fL2 Z (oM Z fS (oM Z Z (eN (zU ?_))))))
 have q:=wCQ bt
 obtain ⟨j6,bk⟩:=q
 have q:=wCP bk
 obtain ⟨cj,g9⟩:=q
 replace cj:=zJ cj
 refine yX (fun ae dK σ_ w_=>∃ (U_:PHeap) (aY:List Res),σ_ 32=jV (↑ae:Int)/\σ_ 0=.func (.yield y) #[] #[]/\σ_ 1=.pointer (some ⟨aq,0,none⟩)/\σ_ 3=jV (↑ab:Int)/\σ_ 4=jV aj/\σ_ 17=.agg B0.toArray/\σ_ 18=jV (↑ab:Int)/\σ_ 31=jV (↑p1.Starts.length:Int)/\PHeap.Le bd U_/\St ⟨w,L,U⟩ U_ aY w_/\PY dK U_ aY) g9 ?_ ?_ ?_
 exact ⟨bd,aW,Z,cZ,da,db,de,df,dg,Z,(zL _),dv,dp⟩
 rintro ae dK lc lx jz bZ ⟨cI,aY,bS,fh,fj,fm,cV,fq,ft,cW,cq,gK,gt⟩ bz dx
 have cQ:Hid ((↑ae:Int) < (↑p1.Starts.length:Int)):=zJ (wBP bZ)
 replace bZ:=zJ bZ
 have ii:Hid (w64 ((↑ae:Int) + 1)=(↑(ae + 1):Int)):=zJ (by have h1:=cj.out;have h2:=cQ.out;rw [wAa] <;> omega)
 refine sR fL1 Z (oR Z (zO Z bS cW) (eN (zI (cT Z cQ (kN (zI (zU (sR fL2 Z (oM Z bS (oA Z Z (eN (sR fL2 Z (oM Z cV (oM Z Z (eN (zU ?_))))))))))))))))
 have q:=wCQ bz
 obtain ⟨j7,bm⟩:=q
 have q:=wCP bm
 obtain ⟨cm,ib⟩:=q
 replace cm:=zJ cm
 refine yX (fun ap dL σ_ w_=>∃ (U_:PHeap) (bD:List Res),σ_ 36=jV (↑ap:Int)/\σ_ 0=.func (.yield y) #[] #[]/\σ_ 1=.pointer (some ⟨aq,0,none⟩)/\σ_ 3=jV (↑ab:Int)/\σ_ 4=jV aj/\σ_ 6=jV (↑ae:Int)/\σ_ 17=.agg B0.toArray/\σ_ 18=jV (↑ab:Int)/\σ_ 31=jV (↑p1.Starts.length:Int)/\σ_ 32=jV (↑ae:Int)/\σ_ 35=jV aj/\PHeap.Le cI U_/\St ⟨w,L,U⟩ U_ bD w_/\PY dL U_ bD) ib ?_ ?_ ?_
 exact ⟨cI,aY,Z,fh,fj,fm,cV,Z,fq,ft,cW,bS,Z,(zL _),gK,gt⟩
 rintro ap dL lf ly jA cb ⟨ju,bD,bT,bO,fu,bP,fw,bQ,fy,fz,fA,fB,cY,cr,gL,gu⟩ iQ dy
 have cR:Hid ((↑ap:Int) < aj):=zJ (wBP cb)
 replace cb:=zJ cb
 have ij:Hid (w64 ((↑ap:Int) + 1)=(↑(ap + 1):Int)):=zJ (by have h1:=cm.out;have h2:=cR.out;rw [wAa] <;> omega)
 refine sR fL1 Z (oR Z (zO Z bT cY) (eN (zI (cT Z cR (kN (zI (zU (sR fL2 Z (oM Z bT (oA Z Z (eN (sR (wDh (.fx 5 (wQr gBp) .stop)) Z (oM Z bO (oM Z bP (oM Z bQ (oM Z Z ?_))))))))))))))))
 let B2:List Value:=[jV 0,jV 0,jV 0,.bool false]
 refine oR Z (zt (pv:=[(0,jV (↑ab:Int)),(1,jV (↑ae:Int)),(2,jV (↑ap:Int)),(3,.bool true)]) (z:=B2) (cs:=[jV (↑ab:Int),jV (↑ae:Int),jV (↑ap:Int),.bool true]) Z (wAB Z (wAB Z (wAB Z (wAB Z wAT)))) Tryz.zeroValue210 wFw Z Z) (bnK iQ fun jp gv bu=>OKS.yieldT 0 (a:=(⟨(↑ab:Int),(↑ae:Int),(↑ap:Int),true⟩:wAK)) Z Z Z Z Z Z (zB Z zP) gL hY (((av.trans aU).trans cq).trans cr) gu Z gv Z ?_)
 rintro bH cH jK cM dG dt bh
 rcases jp with i7 | i7
 try dsimp only at bu bh
 obtain ⟨rfl,iK⟩:=bh
 have gM:St ⟨w,L,U⟩ bH cH cM:=dt
 refine oR Z (Zf Z Z) (oM Z Z (zN Z Z Z (ze Z Z Z) Z bO (zN Z Z Z (ze Z Z Z) Z bP (zN Z Z Z (ze Z Z Z) Z bQ (zN Z Z Z (ze Z Z Z) Z Z (zZ Z Z Z (ze Z Z Z) (fun _=>zt (pv:=[(0,jV (↑ab:Int)),(1,jV (↑ae:Int)),(2,jV (↑ap:Int)),(3,.bool false)]) (z:=B2) (cs:=[jV (↑ab:Int),jV (↑ae:Int),jV (↑ap:Int),.bool false]) Z (wAB Z (wAB Z (wAB Z (wAB Z wAT)))) Tryz.zeroValue210 wFw Z Z) (bnK bu fun jq gw bv=>OKS.yieldT 0 (a:=(⟨(↑ab:Int),(↑ae:Int),(↑ap:Int),false⟩:wAK)) Z Z Z (ze Z Z Z) Z Z (zB Z zP) gM hY ((((av.trans aU).trans cq).trans cr).trans dG) iK Z gw Z ?_)))))))
 rintro bb bE jL cN iV du bi
 rcases jq with i8 | i8
 try dsimp only at bv bi
 obtain ⟨rfl,iL⟩:=bi
 have gN:St ⟨w,L,U⟩ bb bE cN:=du
 refine zZ Z Z Z (ze Z Z Z) (fun _=>Zf Z Z) (oR Z (zn Z Z Z) (eN (zo Z (ZT (zj (zG (rR fL2 Z (oR Z (ZR (zS Z bT Z) (congrArg (jV) ij.out)) (oM Z Z (zX ?_))))))))))
 have q:=nD bv
 obtain rfl:=q
 exact zG ⟨Z,_,Z,⟨bb,bE,Z,bO,fu,bP,fw,bQ,fy,fz,fA,fB,cY,((cr.trans dG).trans iV),gN,iL⟩⟩
 try dsimp only at bv bi
 obtain ⟨rfl,iM⟩:=bi
 have gO:St ⟨w,L,U⟩ bb bE cN:=du
 refine zZ Z Z Z (ze Z Z Z) (fun _=>Zf Z Z) (oR Z (zn Z Z Z) (eN (ZI Z (zV (zi (zR ?_))))))
 have q:=wAb bv
 obtain ⟨jg,iu,eu⟩:=q
 have q:=wBf bz bm (dy jg eu)
 obtain rfl:=q
 refine zR (zi (zi (zR ?_)))
 have q:=wAb iu
 obtain ⟨jh,iv,ez⟩:=q
 have q:=wBf bt bk (dx jh ez)
 obtain rfl:=q
 refine zR (zi (zi (zR ?_)))
 have q:=wAb iv
 obtain ⟨ji,iw,eA⟩:=q
 have q:=wBf hm az (bp ji eA)
 obtain rfl:=q
 refine zR (zi ?_)
 cases iw
 exact ⟨Z,_,(wDn),bb,_,gO,iM⟩
 try dsimp only at bu bh
 obtain ⟨rfl,iN⟩:=bh
 have gP:St ⟨w,L,U⟩ bH cH cM:=dt
 refine oR Z (Zf Z Z) (oM Z Z (oN Z (oN Z (oN Z (oN Z (oN Z (OKS.px Z Z Z (Zg Z Z Z Z) (oN Z (oR Z (zf Z Z Z) (eN (ZI Z (zV (zi (zR ?_))))))))))))))
 have q:=wAb bu
 obtain ⟨jj,iA,eD⟩:=q
 have q:=wBf bz bm (dy jj eD)
 obtain rfl:=q
 refine zR (zi (zi (zR ?_)))
 have q:=wAb iA
 obtain ⟨jk,iB,eE⟩:=q
 have q:=wBf bt bk (dx jk eE)
 obtain rfl:=q
 refine zR (zi (zi (zR ?_)))
 have q:=wAb iB
 obtain ⟨jl,iC,eF⟩:=q
 have q:=wBf hm az (bp jl eF)
 obtain rfl:=q
 refine zR (zi ?_)
 cases iC
 exact ⟨Z,_,(wDn),bH,_,gP,iN⟩
 rintro lm lA jB ⟨dT,dP,gb,fC,fD,fE,fG,jP,fH,fJ,fK,fL,fM,iW,gQ,gA⟩ gX
 have iD:=wDd bz bm gX
 have dZ:Hid (¬ ((↑((aj:Int) - 0).toNat:Int) < aj)):=zJ (wAv)
 refine sR fL1 Z (oR Z (zO Z gb fM) (eN (zI (cF Z dZ (ZP (zd (zd (ZJ (zj (zG (rR fL2 Z (oR Z (ZR (zS Z fL Z) (congrArg (jV) ii.out)) (oM Z Z (zX ?_))))))))))))))
 have q:=nD iD
 obtain rfl:=q
 exact zG ⟨Z,_,Z,⟨dT,dP,Z,fC,fD,fE,fG,fH,fJ,fK,(cq.trans iW),gQ,gA⟩⟩
 rintro ln lB jC ⟨dU,dQ,ge,fN,fO,jQ,jR,fP,fQ,fR,iX,gR,gB⟩ gZ
 have iE:=wDd bt bk gZ
 have d5:Hid (¬ ((↑(((↑p1.Starts.length:Int):Int) - 0).toNat:Int) < (↑p1.Starts.length:Int))):=zJ (wAv)
 refine sR fL1 Z (oR Z (zO Z ge fR) (eN (zI (cF Z d5 (ZP (zd (zd (ZJ (zj (zG (rR fL2 Z (oR Z (ZR (zS Z fQ Z) (congrArg (jV) dA.out)) (oM Z Z (zX ?_))))))))))))))
 have q:=nD iE
 obtain rfl:=q
 exact zG ⟨Z,_,Z,⟨dU,dQ,Z,fN,fO,fP,((av.trans aU).trans iX),gR,gB⟩⟩
 rintro lp lC jD ⟨dV,jr,gf,jS,jU,jW,j3,gS,gC⟩ g6
 have iF:=wDd hm az g6
 have d7:Hid (¬ ((↑((4:Int) - 0).toNat:Int) < 4)):=zJ (wAv)
 refine sR fL1 Z (oR Z (zO Z gf Z) (eN (zI (cF Z d7 (ZP (zd (zd (ZJ ?_))))))))
 cases iF
 exact ⟨Z,_,(wDn),dV,_,gS,gC⟩
end Go.Proofs.YtkedcbligiebkaaGreat
namespace Go.Proofs.YtkedcbligiebkaaGreat
open Go.KL
set_option maxHeartbeats 4000000
theorem wGO (p0:wAD) (ae:Option Addr) (am:Nat) (ai:Option Addr) (ap:Nat) (aj:Option Addr) (aq:Nat) (ak:Option Addr) (au:Nat) (w:World) (U:PHeap) (hS:St0 w U []) (ba:Sl U 1 ae am p0.Starts.length (hH KL.encI p0.Starts)) (bb:Sl U 2 ai ap p0.Splits.length (hH wAL p0.Splits)) (bd:Sl U 3 aj aq p0.Clocks.length (hH wAA p0.Clocks)) (be:Sl U 4 ak au p0.Readings.length (hH wAJ p0.Readings)) {r:Unit} (hm:wCX p0=some r):Gv Tryz.prog 145 [.agg #[.slice ae p0.Starts.length am,.slice ai p0.Splits.length ap,.slice aj p0.Clocks.length aq,.slice ak p0.Readings.length au]] w (wCW w [] U (fun U_ L_ v=>∃ (b0:Nat),v=.func (.func 195) #[] #[.pointer (some ⟨b0,0,none⟩)]/\L_=[]/\Cl U_ b0 0 [.slice ae p0.Starts.length am,.slice ai p0.Splits.length ap,.slice aj p0.Clocks.length aq,.slice ak p0.Readings.length au])):=by
 unfold wCX at hm
 refine Gv.of Tryz.func145 Z Tryz.ntmps145 Tryz.results145 Z (sR gBd Z ?_)
 let B0:List Value:=[.slice ae p0.Starts.length am,.slice ai p0.Splits.length ap,.slice aj p0.Clocks.length aq,.slice ak p0.Readings.length au]
 refine ZK (cs:=B0) rfl rfl rfl rfl rfl rfl (by rfl) hS ?_
 intro W1 b2 aX
 have q:=aX.freeze (k:=0) rfl
 obtain ⟨U5,bg,ab,aY⟩:=q
 replace ab:=Cl.of ab
 have aZ:sW w U U5 [] W1:=aY
 replace ab:Cl U5 b2 0 B0:=ab
 refine oA Z Z (eN (sR fL2 Z (oR Z (Runs.mkf Z zP (zB Z zP)) (oA Z Z (eN (zV ?_))))))
 cases hm
 exact ⟨Z,_,(ZS Z),U5,_,aZ,b2,Z,Z,ab⟩
theorem wHy (p0:wAD) (be:Option Addr) (bj:Nat) (bg:Option Addr) (bk:Nat) (bh:Option Addr) (bm:Nat) (bi:Option Addr) (bn:Nat) (p1:wAK) (w:World) (U:PHeap) (hS:St0 w U []) (ct:Sl U 1 be bj p0.Starts.length (hH KL.encI p0.Starts)) (cu:Sl U 2 bg bk p0.Splits.length (hH wAL p0.Splits)) (cw:Sl U 3 bh bm p0.Clocks.length (hH wAA p0.Clocks)) (cx:Sl U 4 bi bn p0.Readings.length (hH wAJ p0.Readings)) {r:wAC × wAC} (hm:wDT p0 p1=some r):Gv Tryz.prog 216 [.agg #[.slice be p0.Starts.length bj,.slice bg p0.Splits.length bk,.slice bh p0.Clocks.length bm,.slice bi p0.Readings.length bn],.agg #[jV p1.Kind,jV p1.Skier,jV p1.Index,.bool p1.Up]] w (wCW w [] U (fun U_ L_ v=>v=.tuple #[.agg #[jV r.1.skier,jV r.1.mat],.agg #[jV r.2.skier,jV r.2.mat]]/\L_=[])):=by
 unfold wDT at hm
 refine Gv.of Tryz.func216 Z Tryz.ntmps216 Tryz.results216 Z (sR gBx Z ?_)
 let B0:List Value:=[.slice be p0.Starts.length bj,.slice bg p0.Splits.length bk,.slice bh p0.Clocks.length bm,.slice bi p0.Readings.length bn]
 refine ZK (cs:=B0) rfl rfl rfl rfl rfl rfl (by rfl) hS ?_
 intro W1 b2 bK
 let B1:List Value:=[jV p1.Kind,jV p1.Skier,jV p1.Index,.bool p1.Up]
 refine ZK (cs:=B1) rfl rfl rfl rfl rfl rfl (by rfl) bK ?_
 intro W5 b6 bT
 let B2:List Value:=[jV 0,jV 0]
 refine zW (cs:=B2) Z Z Z Z Z zh Z bT ?_
 intro W9 am bI
 refine zW (cs:=B2) Z Z Z Z Z zh Z bI ?_
 intro bo ap bJ
 refine eN ?_
 have q:=bnd hm
 obtain ⟨⟨cf,ci⟩,cb,bt⟩:=q
 try dsimp only at bt
 let B3:List Value:=[jV p1.Skier,jV 0]
 let B4:List Value:=[jV cf,jV ci]
 refine yA (fun σ_ w_=>∃ (U_:PHeap),σ_ 4=.pointer (some ⟨am,0,none⟩)/\σ_ 5=.pointer (some ⟨ap,0,none⟩)/\PHeap.Le U U_/\sW w U U_ [.blk ap 95 B3,.blk am 95 B4,.blk b6 210 B1,.blk b2 28 B0] w_) ?_ ?_
 refine bnK cb fun az bq bd=>zx zr [2,3,2,3,0,0] (.fl 1 (.fx 0 (.fx 2 (.fl 3 gBg) (.fx 4 (.fx 2 gBh .stop) .stop)) (.fx 2 (.fl 3 (.fx 0 gBg .stop)) .stop))) (by kernel_rfl) ?_
 have aV:=bJ.drew
 generalize hw_W40:({ bo with drawn:=bo.drawn + 1 }:World)=bp at aV ⊢
 refine oR Z (zH Z Z zy Z zC) (zk ?_ ?_)
 refine zM 0 Z Z Z Z (zK Z Z yN zP Z) aV (fun hs=>wBm bp U hs bq) (.inr Z) ?_
 rintro av cj cz bw bu bL ⟨rfl,rfl⟩
 have ba:sW w U av [.blk ap 95 B2,.blk am 95 B2,.blk b6 210 B1,.blk b2 28 B0] bw:=bL
 refine zk ?_ ?_
 refine ZB Z Z Z Z (ba.ldB (j:=2) Z Z Z zE (v:=jV p1.Skier) Z) (oR Z (zt (pv:=[(0,jV p1.Skier),(1,jV 0)]) (z:=B2) (cs:=B3) Z (wAB Z (wAB Z wAT)) zh wBo Z Z) ?_)
 let B5:List Value:=[jV az.skier,jV az.mat]
 refine zY (j:=1) (vs:=B5) Z Z Z Z ba Z Z Z Z zF (zA Z) Z Z Z ?_
 intro bz bM
 have bN:sW w U av [.blk ap 95 B2,.blk am 95 B5,.blk b6 210 B1,.blk b2 28 B0] bz:=bM
 refine zY (j:=0) (vs:=B3) Z Z Z Z bN Z Z Z Z zF (zA Z) Z Z Z ?_
 intro bA bO
 have bP:sW w U av [.blk ap 95 B3,.blk am 95 B5,.blk b6 210 B1,.blk b2 28 B0] bA:=bO
 refine zX ?_
 cases bd
 exact zG ⟨Z,⟨av,Z,Z,bu,bP⟩⟩
 let B6:List Value:=[jV az.skier,jV az.mat]
 refine zY (j:=1) (vs:=B6) Z Z Z Z ba Z Z Z Z zF (zA Z) Z Z Z ?_
 intro bB bQ
 have br:sW w U av [.blk ap 95 B2,.blk am 95 B6,.blk b6 210 B1,.blk b2 28 B0] bB:=bQ
 refine ZB Z Z Z Z (br.ldB (j:=2) Z Z Z zE (v:=jV p1.Skier) Z) (oR Z (zt (pv:=[(0,jV p1.Skier),(1,jV 0)]) (z:=B2) (cs:=B3) Z (wAB Z (wAB Z wAT)) zh wBo Z Z) (zY (j:=0) (vs:=B3) Z Z Z Z br Z Z Z Z zF (zA Z) Z Z Z ?_))
 intro bC bR
 have bS:sW w U av [.blk ap 95 B3,.blk am 95 B6,.blk b6 210 B1,.blk b2 28 B0] bC:=bR
 refine zX ?_
 cases bd
 exact zG ⟨Z,⟨av,Z,Z,bu,bS⟩⟩
 refine ZB Z Z Z Z (aV.ldB (j:=2) Z Z Z zE (v:=jV p1.Skier) Z) (oR Z (zt (pv:=[(0,jV p1.Skier),(1,jV 0)]) (z:=B2) (cs:=B3) Z (wAB Z (wAB Z wAT)) zh wBo Z Z) (zM 0 Z Z Z Z (zK Z Z yN zP Z) aV (fun hs=>wBm bp U hs bq) (.inr Z) ?_))
 rintro aU cm cA bD cd bU ⟨rfl,rfl⟩
 have bV:sW w U aU [.blk ap 95 B2,.blk am 95 B2,.blk b6 210 B1,.blk b2 28 B0] bD:=bU
 let B7:List Value:=[jV az.skier,jV az.mat]
 refine zY (j:=1) (vs:=B7) Z Z Z Z bV Z Z Z Z zF (zA Z) Z Z Z ?_
 intro bE bW
 have bX:sW w U aU [.blk ap 95 B2,.blk am 95 B7,.blk b6 210 B1,.blk b2 28 B0] bE:=bW
 refine zY (j:=0) (vs:=B3) Z Z Z Z bX Z Z Z Z zF (zA Z) Z Z Z ?_
 intro bF bY
 have bZ:sW w U aU [.blk ap 95 B3,.blk am 95 B7,.blk b6 210 B1,.blk b2 28 B0] bF:=bY
 refine zX ?_
 cases bd
 exact zG ⟨Z,⟨aU,Z,Z,cd,bZ⟩⟩
 rintro cB cq ⟨bv,bG,bH,cy,bb⟩
 refine zV ?_
 cases bt
 exact ⟨rfl,_,(wEV (rs:=[.cell 4 95,.cell 5 95]) (vs:=[.agg B4.toArray,.agg B3.toArray]) ⟨⟨_,bG,(wBX zg zF (bb.blkAt (k:=1) rfl) (vs:=B4) rfl rfl)⟩,⟨⟨_,bH,(wBX zg zF (bb.blkAt (k:=0) rfl) (vs:=B3) rfl rfl)⟩,trivial⟩⟩ rfl),bv,_,(bb.pick [] _ (by decide) rfl),rfl,rfl⟩
theorem wHz (p0:wAD) (aj:Option Addr) (ak:Nat) (am:Option Addr) (au:Nat) (ap:Option Addr) (av:Nat) (aq:Option Addr) (az:Nat) (p1:wAK) (w:World) (U:PHeap) (hS:St0 w U []) (aV:Sl U 1 aj ak p0.Starts.length (hH KL.encI p0.Starts)) (bn:Sl U 2 am au p0.Splits.length (hH wAL p0.Splits)) (bo:Sl U 3 ap av p0.Clocks.length (hH wAA p0.Clocks)) (bp:Sl U 4 aq az p0.Readings.length (hH wAJ p0.Readings)) {r:Int × Int} (hm:wDU p0 p1=some r):Gv Tryz.prog 217 [.agg #[.slice aj p0.Starts.length ak,.slice am p0.Splits.length au,.slice ap p0.Clocks.length av,.slice aq p0.Readings.length az],.agg #[jV p1.Kind,jV p1.Skier,jV p1.Index,.bool p1.Up]] w (wCW w [] U (fun U_ L_ v=>v=.tuple #[jV r.1,jV r.2]/\L_=[])):=by
 unfold wDU at hm
 refine Gv.of Tryz.func217 rfl Tryz.ntmps217 Tryz.results217 rfl (sR gBy rfl (ZK (cs:=[.slice aj p0.Starts.length ak,.slice am p0.Splits.length au,.slice ap p0.Clocks.length av,.slice aq p0.Readings.length az]) rfl rfl rfl rfl rfl rfl (by rfl) hS ?_))
 intro W1 b2 bb
 refine ZK (cs:=[jV p1.Kind,jV p1.Skier,jV p1.Index,.bool p1.Up]) rfl rfl rfl rfl rfl rfl (by rfl) bb ?_
 intro W5 b6 bd
 refine yK rfl rfl rfl rfl rfl rfl (yK rfl rfl rfl rfl rfl rfl (eN (zI (zx zr [3,1,3,1,3,1,3,1,3,1,3,1,3,3,3] fL15 (by kernel_rfl) ?_))))
 have ae:=bd.drew
 generalize hw_W10:({ W5 with drawn:=W5.drawn + 1 }:World)=bh at ae ⊢
 refine oR Z (zH Z Z zQ Z zq) (oL Z (ae.ldB (j:=1) Z Z Z zw (v:=.slice aj p0.Starts.length ak) Z) (oR Z (zH Z Z zy Z zC) (oL Z (ae.ldB (j:=0) Z Z Z zE (v:=jV p1.Skier) Z) (bnK hm fun aW ai be=>?_))))
 have q:=aV.el (fun _=>rfl) (wAi ai)
 obtain ⟨bi,bq,aX,aZ⟩:=q
 refine oR Z (zm Z Z aX Z zD zC (wBt ai) (wBv ai)) (oL Z (ae.ldC (f:=0) aZ (v:=jV aW) Z Z zE Z) (oR Z (zH Z Z zQ Z zq) (oL Z (ae.ldB (j:=1) Z Z Z zw (v:=.slice aj p0.Starts.length ak) Z) (oR Z (zH Z Z zy Z zC) (oL Z (ae.ldB (j:=0) Z Z Z zE (v:=jV p1.Skier) Z) ?_)))))
 have q:=aV.el (fun _=>rfl) (wAi ai)
 obtain ⟨bj,br,aY,ba⟩:=q
 refine oR Z (zm Z Z aY Z zD zC (wBt ai) (wBv ai)) (oL Z (ae.ldC (f:=0) ba (v:=jV aW) Z Z zE Z) (oR Z (Runs.negw Z Z) (oA Z Z (oA Z Z (eN (zV ?_))))))
 cases be
 exact ⟨rfl,_,(wGg rfl rfl),U,_,(ae.pick [] _ (by decide) rfl),rfl,rfl⟩
theorem wIA (p0:wAD) (aX:Option Addr) (bb:Nat) (aY:Option Addr) (bd:Nat) (aZ:Option Addr) (be:Nat) (ba:Option Addr) (bg:Nat) (p1:wAK) (w:World) (U:PHeap) (hS:St0 w U []) (cm:Sl U 1 aX bb p0.Starts.length (hH KL.encI p0.Starts)) (cn:Sl U 2 aY bd p0.Splits.length (hH wAL p0.Splits)) (cp:Sl U 3 aZ be p0.Clocks.length (hH wAA p0.Clocks)) (cq:Sl U 4 ba bg p0.Readings.length (hH wAJ p0.Readings)) {r:wAC × wAC} (hm:wDV p0 p1=some r):Gv Tryz.prog 219 [.agg #[.slice aX p0.Starts.length bb,.slice aY p0.Splits.length bd,.slice aZ p0.Clocks.length be,.slice ba p0.Readings.length bg],.agg #[jV p1.Kind,jV p1.Skier,jV p1.Index,.bool p1.Up]] w (wCW w [] U (fun U_ L_ v=>v=.tuple #[.agg #[jV r.1.skier,jV r.1.mat],.agg #[jV r.2.skier,jV r.2.mat]]/\L_=[])):=by
 unfold wDV at hm
 refine Gv.of Tryz.func219 Z Tryz.ntmps219 Tryz.results219 Z (sR gBx Z ?_)
 let B0:List Value:=[.slice aX p0.Starts.length bb,.slice aY p0.Splits.length bd,.slice aZ p0.Clocks.length be,.slice ba p0.Readings.length bg]
 refine ZK (cs:=B0) rfl rfl rfl rfl rfl rfl (by rfl) hS ?_
 intro W1 b2 bG
 let B1:List Value:=[jV p1.Kind,jV p1.Skier,jV p1.Index,.bool p1.Up]
 refine ZK (cs:=B1) rfl rfl rfl rfl rfl rfl (by rfl) bG ?_
 intro W5 b6 bZ
 let B2:List Value:=[jV 0,jV 0]
 refine zW (cs:=B2) Z Z Z Z Z zh Z bZ ?_
 intro W9 ap bD
 refine zW (cs:=B2) Z Z Z Z Z zh Z bD ?_
 intro bh aq bE
 refine eN ?_
 have q:=bnd hm
 obtain ⟨⟨⟩,aV,bk⟩:=q
 try dsimp only at bk
 let B3:List Value:=[jV p1.Skier,jV (w64 (p1.Index + 1))]
 let B4:List Value:=[jV p1.Skier,jV p1.Index]
 refine yA (fun σ_ w_=>∃ (U_:PHeap),σ_ 4=.pointer (some ⟨ap,0,none⟩)/\σ_ 5=.pointer (some ⟨aq,0,none⟩)/\PHeap.Le U U_/\sW w U U_ [.blk aq 95 B3,.blk ap 95 B4,.blk b6 210 B1,.blk b2 28 B0] w_) ?_ ?_
 refine zx zr [3,1,3,1,3,3,2,3,2,3,3,0,0] (wLJ (.fl 7 (.fx 6 (.fx 8 (.fl 9 gBq) (.fx 11 gBz .stop)) (.fx 8 (.fl 9 (.fx 6 gBq (.fx 11 gBr .stop))) (.fx 11 (.fx 6 gBz (.fx 8 (.fl 9 gBr) .stop)) .stop))))) (by kernel_rfl) ?_
 have az:=bE.drew
 generalize hw_W27:({ bh with drawn:=bh.drawn + 1 }:World)=cd at az ⊢
 refine oR Z (zH Z Z zy Z zC) (oL Z (az.ldB (j:=2) Z Z Z zE (v:=jV p1.Skier) Z) (oR Z (zH Z Z zy Z zC) (oL Z (az.ldB (j:=2) Z Z Z zE (v:=jV p1.Index) Z) (oR Z (zt (pv:=[(0,jV p1.Skier),(1,jV p1.Index)]) (z:=B2) (cs:=B4) Z (wAB Z (wAB Z wAT)) zh wBo Z Z) (oR Z (zH Z Z zy Z zC) (oR Z (zH Z Z zy Z zC) (zk ?_ ?_)))))))
 refine ZB Z Z Z Z (az.ldB (j:=2) Z Z Z zE (v:=jV p1.Skier) Z) (zk ?_ ?_)
 refine ZB Z Z Z Z (az.ldB (j:=2) Z Z Z zE (v:=jV p1.Index) Z) (oR Z (zS Z Z Z) (oR Z (zt (pv:=[(0,jV p1.Skier),(1,jV (w64 (p1.Index + 1)))]) (z:=B2) (cs:=B3) Z (wAB Z (wAB Z wAT)) zh wBo Z Z) (zY (j:=1) (vs:=B4) Z Z Z Z az Z Z Z Z zF (zA Z) Z Z Z ?_)))
 intro bn bF
 have bH:sW w U U [.blk aq 95 B2,.blk ap 95 B4,.blk b6 210 B1,.blk b2 28 B0] bn:=bF
 refine zY (j:=0) (vs:=B3) Z Z Z Z bH Z Z Z Z zF (zA Z) Z Z Z ?_
 intro bo bI
 have bJ:sW w U U [.blk aq 95 B3,.blk ap 95 B4,.blk b6 210 B1,.blk b2 28 B0] bo:=bI
 refine zX ?_
 cases aV
 exact zG ⟨Z,⟨U,Z,Z,(zL _),bJ⟩⟩
 refine zY (j:=1) (vs:=B4) Z Z Z Z az Z Z Z Z zF (zA Z) Z Z Z ?_
 intro bp bK
 have bi:sW w U U [.blk aq 95 B2,.blk ap 95 B4,.blk b6 210 B1,.blk b2 28 B0] bp:=bK
 refine ZB Z Z Z Z (bi.ldB (j:=2) Z Z Z zE (v:=jV p1.Index) Z) (oR Z (zS Z Z Z) (oR Z (zt (pv:=[(0,jV p1.Skier),(1,jV (w64 (p1.Index + 1)))]) (z:=B2) (cs:=B3) Z (wAB Z (wAB Z wAT)) zh wBo Z Z) (zY (j:=0) (vs:=B3) Z Z Z Z bi Z Z Z Z zF (zA Z) Z Z Z ?_)))
 intro bq bL
 have bM:sW w U U [.blk aq 95 B3,.blk ap 95 B4,.blk b6 210 B1,.blk b2 28 B0] bq:=bL
 refine zX ?_
 cases aV
 exact zG ⟨Z,⟨U,Z,Z,(zL _),bM⟩⟩
 refine zk ?_ ?_
 refine ZB Z Z Z Z (az.ldB (j:=2) Z Z Z zE (v:=jV p1.Index) Z) (oR Z (zS Z Z Z) (zk ?_ ?_))
 refine ZB Z Z Z Z (az.ldB (j:=2) Z Z Z zE (v:=jV p1.Skier) Z) (oR Z (zt (pv:=[(0,jV p1.Skier),(1,jV (w64 (p1.Index + 1)))]) (z:=B2) (cs:=B3) Z (wAB Z (wAB Z wAT)) zh wBo Z Z) (zY (j:=1) (vs:=B4) Z Z Z Z az Z Z Z Z zF (zA Z) Z Z Z ?_))
 intro br bN
 have bO:sW w U U [.blk aq 95 B2,.blk ap 95 B4,.blk b6 210 B1,.blk b2 28 B0] br:=bN
 refine zY (j:=0) (vs:=B3) Z Z Z Z bO Z Z Z Z zF (zA Z) Z Z Z ?_
 intro bt bP
 have bQ:sW w U U [.blk aq 95 B3,.blk ap 95 B4,.blk b6 210 B1,.blk b2 28 B0] bt:=bP
 refine zX ?_
 cases aV
 exact zG ⟨Z,⟨U,Z,Z,(zL _),bQ⟩⟩
 refine zY (j:=1) (vs:=B4) Z Z Z Z az Z Z Z Z zF (zA Z) Z Z Z ?_
 intro bu bR
 have bj:sW w U U [.blk aq 95 B2,.blk ap 95 B4,.blk b6 210 B1,.blk b2 28 B0] bu:=bR
 refine ZB Z Z Z Z (bj.ldB (j:=2) Z Z Z zE (v:=jV p1.Skier) Z) (oR Z (zt (pv:=[(0,jV p1.Skier),(1,jV (w64 (p1.Index + 1)))]) (z:=B2) (cs:=B3) Z (wAB Z (wAB Z wAT)) zh wBo Z Z) (zY (j:=0) (vs:=B3) Z Z Z Z bj Z Z Z Z zF (zA Z) Z Z Z ?_))
 intro bv bS
 have bT:sW w U U [.blk aq 95 B3,.blk ap 95 B4,.blk b6 210 B1,.blk b2 28 B0] bv:=bS
 refine zX ?_
 cases aV
 exact zG ⟨Z,⟨U,Z,Z,(zL _),bT⟩⟩
 refine zY (j:=1) (vs:=B4) Z Z Z Z az Z Z Z Z zF (zA Z) Z Z Z ?_
 intro bw bU
 have aU:sW w U U [.blk aq 95 B2,.blk ap 95 B4,.blk b6 210 B1,.blk b2 28 B0] bw:=bU
 refine zk ?_ ?_
 refine ZB Z Z Z Z (aU.ldB (j:=2) Z Z Z zE (v:=jV p1.Skier) Z) (ZB Z Z Z Z (aU.ldB (j:=2) Z Z Z zE (v:=jV p1.Index) Z) (oR Z (zS Z Z Z) (oR Z (zt (pv:=[(0,jV p1.Skier),(1,jV (w64 (p1.Index + 1)))]) (z:=B2) (cs:=B3) Z (wAB Z (wAB Z wAT)) zh wBo Z Z) (zY (j:=0) (vs:=B3) Z Z Z Z aU Z Z Z Z zF (zA Z) Z Z Z ?_))))
 intro bz bV
 have bW:sW w U U [.blk aq 95 B3,.blk ap 95 B4,.blk b6 210 B1,.blk b2 28 B0] bz:=bV
 refine zX ?_
 cases aV
 exact zG ⟨Z,⟨U,Z,Z,(zL _),bW⟩⟩
 refine ZB Z Z Z Z (aU.ldB (j:=2) Z Z Z zE (v:=jV p1.Index) Z) (oR Z (zS Z Z Z) (ZB Z Z Z Z (aU.ldB (j:=2) Z Z Z zE (v:=jV p1.Skier) Z) (oR Z (zt (pv:=[(0,jV p1.Skier),(1,jV (w64 (p1.Index + 1)))]) (z:=B2) (cs:=B3) Z (wAB Z (wAB Z wAT)) zh wBo Z Z) (zY (j:=0) (vs:=B3) Z Z Z Z aU Z Z Z Z zF (zA Z) Z Z Z ?_))))
 intro bA bX
 have bY:sW w U U [.blk aq 95 B3,.blk ap 95 B4,.blk b6 210 B1,.blk b2 28 B0] bA:=bX
 refine zX ?_
 cases aV
 exact zG ⟨Z,⟨U,Z,Z,(zL _),bY⟩⟩
 rintro ct ci ⟨bm,bB,bC,cr,aW⟩
 refine zV ?_
 cases bk
 exact ⟨rfl,_,(wEV (rs:=[.cell 4 95,.cell 5 95]) (vs:=[.agg B4.toArray,.agg B3.toArray]) ⟨⟨_,bB,(wBX zg zF (aW.blkAt (k:=1) rfl) (vs:=B4) rfl rfl)⟩,⟨⟨_,bC,(wBX zg zF (aW.blkAt (k:=0) rfl) (vs:=B3) rfl rfl)⟩,trivial⟩⟩ rfl),bm,_,(aW.pick [] _ (by decide) rfl),rfl,rfl⟩
theorem wIB (p0:wAD) (am:Option Addr) (au:Nat) (aj:Option Addr) (ak:Nat) (ap:Option Addr) (av:Nat) (aq:Option Addr) (az:Nat) (p1:wAK) (w:World) (U:PHeap) (hS:St0 w U []) (bn:Sl U 1 am au p0.Starts.length (hH KL.encI p0.Starts)) (aV:Sl U 2 aj ak p0.Splits.length (hH wAL p0.Splits)) (bo:Sl U 3 ap av p0.Clocks.length (hH wAA p0.Clocks)) (bp:Sl U 4 aq az p0.Readings.length (hH wAJ p0.Readings)) {r:Int × Int} (hm:wDW p0 p1=some r):Gv Tryz.prog 220 [.agg #[.slice am p0.Starts.length au,.slice aj p0.Splits.length ak,.slice ap p0.Clocks.length av,.slice aq p0.Readings.length az],.agg #[jV p1.Kind,jV p1.Skier,jV p1.Index,.bool p1.Up]] w (wCW w [] U (fun U_ L_ v=>v=.tuple #[jV r.1,jV r.2]/\L_=[])):=by
 unfold wDW at hm
 refine Gv.of Tryz.func220 rfl Tryz.ntmps220 Tryz.results220 rfl (sR gBy rfl (ZK (cs:=[.slice am p0.Starts.length au,.slice aj p0.Splits.length ak,.slice ap p0.Clocks.length av,.slice aq p0.Readings.length az]) rfl rfl rfl rfl rfl rfl (by rfl) hS ?_))
 intro W1 b2 bb
 refine ZK (cs:=[jV p1.Kind,jV p1.Skier,jV p1.Index,.bool p1.Up]) rfl rfl rfl rfl rfl rfl (by rfl) bb ?_
 intro W5 b6 bd
 refine yK rfl rfl rfl rfl rfl rfl (yK rfl rfl rfl rfl rfl rfl (eN (zI (zx zr [3,1,3,1,3,3,1,3,1,3,1,3,3,1,3,3,3] fL17 (by kernel_rfl) ?_))))
 have ae:=bd.drew
 generalize hw_W10:({ W5 with drawn:=W5.drawn + 1 }:World)=bh at ae ⊢
 refine oR Z (zH Z Z zQ Z yF) (oL Z (ae.ldB (j:=1) Z Z Z yQ (v:=.slice aj p0.Splits.length ak) Z) (oR Z (zH Z Z zy Z zC) (oL Z (ae.ldB (j:=0) Z Z Z zE (v:=jV p1.Index) Z) (bnK hm fun aW ai be=>?_))))
 have q:=aV.el (fun _=>rfl) (wAi ai)
 obtain ⟨bi,bq,aX,aZ⟩:=q
 refine oR Z (zm Z Z aX Z ZY ZN (wBt ai) (wBv ai)) (oR Z (zH Z Z ZL Z zC) (oL Z (ae.ldC (f:=1) aZ (v:=jV aW.Hi) Z Z zE Z) (oR Z (zH Z Z zQ Z yF) (oL Z (ae.ldB (j:=1) Z Z Z yQ (v:=.slice aj p0.Splits.length ak) Z) (oR Z (zH Z Z zy Z zC) (oL Z (ae.ldB (j:=0) Z Z Z zE (v:=jV p1.Index) Z) ?_))))))
 have q:=aV.el (fun _=>rfl) (wAi ai)
 obtain ⟨bj,br,aY,ba⟩:=q
 refine oR Z (zm Z Z aY Z ZY ZN (wBt ai) (wBv ai)) (oR Z (zH Z Z ZL Z zC) (oL Z (ae.ldC (f:=0) ba (v:=jV aW.Lo) Z Z zE Z) (oR Z (Runs.negw Z Z) (oA Z Z (oA Z Z (eN (zV ?_)))))))
 cases be
 exact ⟨rfl,_,(wGg rfl rfl),U,_,(ae.pick [] _ (by decide) rfl),rfl,rfl⟩
theorem wCf (p0:Int) (w:World) (U:PHeap) (hS:St0 w U [])  {r:wAC} (hm:wCe p0=some r):Gv Tryz.prog 223 [jV p0] w (wCW w [] U (fun U_ L_ v=>v=.agg #[jV r.skier,jV r.mat]/\L_=[])):=by
 unfold wCe at hm
 refine Gv.of Tryz.func223 Z Tryz.ntmps223 Tryz.results223 Z (sR (.fx 0 .nil .stop) Z (zW (cs:=[jV 0,jV 0]) Z Z Z Z Z zh Z hS ?_))
 intro W1 b2 ak
 refine eN (sR (wEU (.fx 3 .nil .stop)) Z (oM Z Z (oR Z (zS Z Z Z) ?_)))
 let B0:List Value:=[jV (-1),jV (w64 (1 + p0))]
 refine oR Z (zt (pv:=[(0,jV (-1)),(1,jV (w64 (1 + p0)))]) (z:=[jV 0,jV 0]) (cs:=B0) Z (wAB Z (wAB Z wAT)) zh wBo Z Z) (zY (j:=0) (vs:=B0) Z Z Z Z ak Z Z Z Z zF (zA Z) Z Z Z ?_)
 intro W5 am
 have ae:sW w U U [.blk b2 95 B0] W5:=am
 refine eN (zV ?_)
 cases hm
 exact ⟨rfl,_,(wKL (v:=.agg B0.toArray) ⟨⟨_,rfl,(wBX zg zF (ae.blkAt (k:=0) rfl) (vs:=B0) rfl rfl)⟩,trivial⟩),U,_,(ae.pick [] _ (by decide) rfl),rfl,rfl⟩
theorem wIC (p0:wAD) (aW:Option Addr) (ba:Nat) (aX:Option Addr) (bb:Nat) (aY:Option Addr) (bd:Nat) (aZ:Option Addr) (be:Nat) (p1:wAK) (w:World) (U:PHeap) (hS:St0 w U []) (bN:Sl U 1 aW ba p0.Starts.length (hH KL.encI p0.Starts)) (bO:Sl U 2 aX bb p0.Splits.length (hH wAL p0.Splits)) (bP:Sl U 3 aY bd p0.Clocks.length (hH wAA p0.Clocks)) (bQ:Sl U 4 aZ be p0.Readings.length (hH wAJ p0.Readings)) {r:wAC × wAC} (hm:wDX p0 p1=some r):Gv Tryz.prog 222 [.agg #[.slice aW p0.Starts.length ba,.slice aX p0.Splits.length bb,.slice aY p0.Clocks.length bd,.slice aZ p0.Readings.length be],.agg #[jV p1.Kind,jV p1.Skier,jV p1.Index,.bool p1.Up]] w (wCW w [] U (fun U_ L_ v=>v=.tuple #[.agg #[jV r.1.skier,jV r.1.mat],.agg #[jV r.2.skier,jV r.2.mat]]/\L_=[])):=by
 unfold wDX at hm
 refine Gv.of Tryz.func222 Z Tryz.ntmps222 Tryz.results222 Z (sR gBx Z ?_)
 let B0:List Value:=[.slice aW p0.Starts.length ba,.slice aX p0.Splits.length bb,.slice aY p0.Clocks.length bd,.slice aZ p0.Readings.length be]
 refine ZK (cs:=B0) rfl rfl rfl rfl rfl rfl (by rfl) hS ?_
 intro W1 b2 bz
 let B1:List Value:=[jV p1.Kind,jV p1.Skier,jV p1.Index,.bool p1.Up]
 refine ZK (cs:=B1) rfl rfl rfl rfl rfl rfl (by rfl) bz ?_
 intro W5 b6 bF
 let B2:List Value:=[jV 0,jV 0]
 refine zW (cs:=B2) Z Z Z Z Z zh Z bF ?_
 intro W9 aq bt
 refine zW (cs:=B2) Z Z Z Z Z zh Z bt ?_
 intro bh au bu
 refine eN (zI (zx zr [2,3,1,2,0,0] (.fl 1 (.fl 2 (.fx 0 (.fx 3 gBg .stop) .stop))) (by kernel_rfl) ?_))
 have aU:=bu.drew
 generalize hw_W18:({ bh with drawn:=bh.drawn + 1 }:World)=bm at aU ⊢
 refine oR Z (zH Z Z zy Z zC) (oL Z (aU.ldB (j:=2) Z Z Z zE (v:=jV p1.Index) Z) (bnK hm fun bj bq bG=>zM 0 Z Z Z Z (zK Z Z yN zP Z) aU (fun hs=>wBm bm U hs bq) (.inr Z) ?_))
 rintro bg bI bT bi bR bv ⟨rfl,rfl⟩
 have bw:sW w U bg [.blk au 95 B2,.blk aq 95 B2,.blk b6 210 B1,.blk b2 28 B0] bi:=bv
 refine bnK bG fun bk br bH=>zM 0 Z Z Z Z (zK Z Z Tryz.call223 (zB Z zP) Z) bw (fun hs=>wCf p1.Index bi bg hs br) (.inr Z) ?_
 rintro ap bJ bU bn bS bA ⟨rfl,rfl⟩
 have bB:sW w U ap [.blk au 95 B2,.blk aq 95 B2,.blk b6 210 B1,.blk b2 28 B0] bn:=bA
 let B3:List Value:=[jV bj.skier,jV bj.mat]
 refine zY (j:=1) (vs:=B3) Z Z Z Z bB Z Z Z Z zF (zA Z) Z Z Z ?_
 intro bo bC
 have bD:sW w U ap [.blk au 95 B2,.blk aq 95 B3,.blk b6 210 B1,.blk b2 28 B0] bo:=bC
 let B4:List Value:=[jV bk.skier,jV bk.mat]
 refine zY (j:=0) (vs:=B4) Z Z Z Z bD Z Z Z Z zF (zA Z) Z Z Z ?_
 intro bp bE
 have aV:sW w U ap [.blk au 95 B4,.blk aq 95 B3,.blk b6 210 B1,.blk b2 28 B0] bp:=bE
 refine eN (zV ?_)
 cases bH
 exact ⟨rfl,_,(wEV (rs:=[.cell 4 95,.cell 5 95]) (vs:=[.agg B3.toArray,.agg B4.toArray]) ⟨⟨_,rfl,(wBX zg zF (aV.blkAt (k:=1) rfl) (vs:=B3) rfl rfl)⟩,⟨⟨_,rfl,(wBX zg zF (aV.blkAt (k:=0) rfl) (vs:=B4) rfl rfl)⟩,trivial⟩⟩ rfl),ap,_,(aV.pick [] _ (by decide) rfl),rfl,rfl⟩
theorem wID (p0:wAD) (am:Option Addr) (au:Nat) (ap:Option Addr) (av:Nat) (aj:Option Addr) (ak:Nat) (aq:Option Addr) (az:Nat) (p1:wAK) (w:World) (U:PHeap) (hS:St0 w U []) (bn:Sl U 1 am au p0.Starts.length (hH KL.encI p0.Starts)) (bo:Sl U 2 ap av p0.Splits.length (hH wAL p0.Splits)) (aV:Sl U 3 aj ak p0.Clocks.length (hH wAA p0.Clocks)) (bp:Sl U 4 aq az p0.Readings.length (hH wAJ p0.Readings)) {r:Int × Int} (hm:wDY p0 p1=some r):Gv Tryz.prog 224 [.agg #[.slice am p0.Starts.length au,.slice ap p0.Splits.length av,.slice aj p0.Clocks.length ak,.slice aq p0.Readings.length az],.agg #[jV p1.Kind,jV p1.Skier,jV p1.Index,.bool p1.Up]] w (wCW w [] U (fun U_ L_ v=>v=.tuple #[jV r.1,jV r.2]/\L_=[])):=by
 unfold wDY at hm
 refine Gv.of Tryz.func224 rfl Tryz.ntmps224 Tryz.results224 rfl (sR gBy rfl (ZK (cs:=[.slice am p0.Starts.length au,.slice ap p0.Splits.length av,.slice aj p0.Clocks.length ak,.slice aq p0.Readings.length az]) rfl rfl rfl rfl rfl rfl (by rfl) hS ?_))
 intro W1 b2 bb
 refine ZK (cs:=[jV p1.Kind,jV p1.Skier,jV p1.Index,.bool p1.Up]) rfl rfl rfl rfl rfl rfl (by rfl) bb ?_
 intro W5 b6 bd
 refine yK rfl rfl rfl rfl rfl rfl (yK rfl rfl rfl rfl rfl rfl (eN (zI (zx zr [3,1,3,1,3,3,3,1,3,3,1,3,1,3,3,3,1,3,3] fL19 (by kernel_rfl) ?_))))
 have ae:=bd.drew
 generalize hw_W10:({ W5 with drawn:=W5.drawn + 1 }:World)=bh at ae ⊢
 refine oR Z (zH Z Z zQ Z Zn) (oL Z (ae.ldB (j:=1) Z Z Z yM (v:=.slice aj p0.Clocks.length ak) Z) (oR Z (zH Z Z zy Z zC) (oL Z (ae.ldB (j:=0) Z Z Z zE (v:=jV p1.Index) Z) (bnK hm fun aW ai be=>?_))))
 have q:=aV.el (fun _=>rfl) (wAi ai)
 obtain ⟨bi,bq,aX,aZ⟩:=q
 refine oR Z (zm Z Z aX Z Za Zs (wBt ai) (wBv ai)) (oR Z (zH Z Z Zz Z ZN) (oR Z (zH Z Z ZL Z zC) (oL Z (ae.ldC (f:=0) aZ (v:=jV aW.Offset.Lo) Z Z zE Z) (oR Z (Runs.negw Z Z) (oR Z (zH Z Z zQ Z Zn) (oL Z (ae.ldB (j:=1) Z Z Z yM (v:=.slice aj p0.Clocks.length ak) Z) (oR Z (zH Z Z zy Z zC) (oL Z (ae.ldB (j:=0) Z Z Z zE (v:=jV p1.Index) Z) ?_))))))))
 have q:=aV.el (fun _=>rfl) (wAi ai)
 obtain ⟨bj,br,aY,ba⟩:=q
 refine oR Z (zm Z Z aY Z Za Zs (wBt ai) (wBv ai)) (oR Z (zH Z Z Zz Z ZN) (oR Z (zH Z Z ZL Z zC) (oL Z (ae.ldC (f:=1) ba (v:=jV aW.Offset.Hi) Z Z zE Z) (oA Z Z (oA Z Z (eN (zV ?_)))))))
 cases be
 exact ⟨rfl,_,(wGg rfl rfl),U,_,(ae.pick [] _ (by decide) rfl),rfl,rfl⟩
end Go.Proofs.YtkedcbligiebkaaGreat
namespace Go.Proofs.YtkedcbligiebkaaGreat
open Go.KL
set_option maxHeartbeats 4000000
theorem wHd (p0:wAD) (bA:Option Addr) (bD:Nat) (bB:Option Addr) (bE:Nat) (bC:Option Addr) (bF:Nat) (be:Option Addr) (bg:Nat) (p1:wAK) (w:World) (U:PHeap) (hS:St0 w U []) (gS:Sl U 1 bA bD p0.Starts.length (hH KL.encI p0.Starts)) (gT:Sl U 2 bB bE p0.Splits.length (hH wAL p0.Splits)) (gU:Sl U 3 bC bF p0.Clocks.length (hH wAA p0.Clocks)) (fL:Sl U 4 be bg p0.Readings.length (hH wAJ p0.Readings)) {r:wAC × wAC} (hm:wDC p0 p1=some r):Gv Tryz.prog 226 [.agg #[.slice bA p0.Starts.length bD,.slice bB p0.Splits.length bE,.slice bC p0.Clocks.length bF,.slice be p0.Readings.length bg],.agg #[jV p1.Kind,jV p1.Skier,jV p1.Index,.bool p1.Up]] w (wCW w [] U (fun U_ L_ v=>v=.tuple #[.agg #[jV r.1.skier,jV r.1.mat],.agg #[jV r.2.skier,jV r.2.mat]]/\L_=[])):=by
 unfold wDC at hm
 refine Gv.of Tryz.func226 Z Tryz.ntmps226 Tryz.results226 Z (sR gBx Z ?_)
 let B0:List Value:=[.slice bA p0.Starts.length bD,.slice bB p0.Splits.length bE,.slice bC p0.Clocks.length bF,.slice be p0.Readings.length bg]
 refine ZK (cs:=B0) rfl rfl rfl rfl rfl rfl (by rfl) hS ?_
 intro W1 b2 fu
 let B1:List Value:=[jV p1.Kind,jV p1.Skier,jV p1.Index,.bool p1.Up]
 refine ZK (cs:=B1) rfl rfl rfl rfl rfl rfl (by rfl) fu ?_
 intro W5 b6 fK
 let B2:List Value:=[jV 0,jV 0]
 refine zW (cs:=B2) Z Z Z Z Z zh Z fK ?_
 intro W9 ai eM
 refine zW (cs:=B2) Z Z Z Z Z zh Z eM ?_
 intro gq aj ba
 refine eN (sR (wLJ gBj) Z (oR Z (zH Z Z zQ Z yY) (oL Z (ba.ldB (j:=3) Z Z Z Tryz.isAgg26 (v:=.slice be p0.Readings.length bg) Z) (oR Z (zH Z Z zy Z zC) (oL Z (ba.ldB (j:=2) Z Z Z zE (v:=jV p1.Index) Z) (bnK hm fun ab bu fM=>?_))))))
 have q:=fL.el (fun _=>rfl) (wAi bu)
 obtain ⟨gI,gX,eK,eL⟩:=q
 refine oR Z (zm Z Z eK Z yI Zo (wBt bu) (wBv bu)) (oL Z (ba.ldCA (f:=0) eL Z Z Tryz.isAgg78 Zo (us:=[jV ab.Skier,jV ab.Mat,jV ab.Clock,jV ab.Time]) Z Z) (zW (cs:=[jV 0,jV 0,jV 0,jV 0]) Z Z Z Z Z Zt Z ba ?_))
 intro gB aa fg
 let B3:List Value:=[jV ab.Skier,jV ab.Mat,jV ab.Clock,jV ab.Time]
 refine zY (j:=0) (vs:=B3) Z Z Z Z fg Z Z Z Z Zo (zA Z) Z Z Z ?_
 intro bk ft
 have fw:sW w U U [.blk aa 78 B3,.blk aj 95 B2,.blk ai 95 B2,.blk b6 210 B1,.blk b2 28 B0] bk:=ft
 refine eN ?_
 have q:=bnd fM
 obtain ⟨⟨ge,gf⟩,fO,cB⟩:=q
 try dsimp only at cB
 let B4:List Value:=[jV ab.Skier,jV ab.Mat]
 let B5:List Value:=[jV ge,jV gf]
 refine yA (fun σ_ w_=>∃ (U_:PHeap),σ_ 4=.pointer (some ⟨ai,0,none⟩)/\σ_ 5=.pointer (some ⟨aj,0,none⟩)/\PHeap.Le U U_/\sW w U U_ [.blk aa 78 B3,.blk aj 95 B4,.blk ai 95 B5,.blk b6 210 B1,.blk b2 28 B0] w_) ?_ ?_
 refine bnK fO fun x36 aZ fN=>zx zr [3,1,2,3,2,3,2,3,0,0] (.fl 0 (.fl 1 (.fl 3 (.fl 5 (.fx 2 (.fx 4 gCf (.fx 6 gCg (.fx 8 (.fx 4 gBs (.fx 6 gBt .stop)) .stop))) (.fx 4 (.fx 2 gCf (.fx 6 gCa .stop)) (.fx 6 (.fx 2 gCg (.fx 4 gCa .stop)) .stop))))))) (by kernel_rfl) ?_
 have aV:=fw.drew
 generalize hw_W54:({ bk with drawn:=bk.drawn + 1 }:World)=bm at aV ⊢
 let B6:List Value:=[jV x36.skier,jV x36.mat]
 refine ZC (s:=.nil) (M:=fun σ_ w_=>∃ (U_:PHeap),σ_ 4=.pointer (some ⟨ai,0,none⟩)/\σ_ 5=.pointer (some ⟨aj,0,none⟩)/\σ_ 6=.pointer (some ⟨aa,0,none⟩)/\σ_ 13=.pointer (some ⟨aa,2,none⟩)/\σ_ 14=jV ab.Clock/\σ_ 15=.agg B6.toArray/\σ_ 16=.pointer (some ⟨aa,0,none⟩)/\σ_ 17=jV ab.Skier/\σ_ 18=.pointer (some ⟨aa,1,none⟩)/\σ_ 19=jV ab.Mat/\σ_ 20=.agg B4.toArray/\PHeap.Le U U_/\sW w U U_ [.blk aa 78 B3,.blk aj 95 B4,.blk ai 95 B6,.blk b6 210 B1,.blk b2 28 B0] w_) ?_ fun cC=>?_
 rintro g9 gt ⟨cO,dk,dl,gJ,gK,gL,gM,gN,gO,gP,gQ,gR,fQ,eO⟩
 refine zX ?_
 cases fN
 exact zG ⟨Z,⟨cO,dk,dl,fQ,eO⟩⟩
 refine ZC (s:=.fx 9 .nil .stop) (M:=fun σ_ w_=>∃ (U_:PHeap),σ_ 4=.pointer (some ⟨ai,0,none⟩)/\σ_ 5=.pointer (some ⟨aj,0,none⟩)/\σ_ 6=.pointer (some ⟨aa,0,none⟩)/\σ_ 13=.pointer (some ⟨aa,2,none⟩)/\σ_ 14=jV ab.Clock/\σ_ 15=.agg B6.toArray/\σ_ 16=.pointer (some ⟨aa,0,none⟩)/\σ_ 17=jV ab.Skier/\σ_ 18=.pointer (some ⟨aa,1,none⟩)/\σ_ 19=jV ab.Mat/\σ_ 20=.agg B4.toArray/\PHeap.Le U U_/\sW w U U_ [.blk aa 78 B3,.blk aj 95 B2,.blk ai 95 B6,.blk b6 210 B1,.blk b2 28 B0] w_) ?_ fun cD=>?_
 rintro ib gu ⟨bG,dm,bN,dp,dq,dr,dt,du,dv,dw,dx,bO,fR,eQ⟩
 refine zY (j:=1) (vs:=B4) Z Z Z Z eQ Z bN bO Z zF (zA Z) Z Z Z ?_
 intro cU eU
 have eV:sW w U bG [.blk aa 78 B3,.blk aj 95 B4,.blk ai 95 B6,.blk b6 210 B1,.blk b2 28 B0] cU:=eU
 exact cC _ _ ⟨bG,dm,bN,dp,dq,dr,dt,du,dv,dw,dx,bO,fR,eV⟩
 refine ZC (s:=gBk) (M:=fun σ_ w_=>∃ (U_:PHeap),σ_ 4=.pointer (some ⟨ai,0,none⟩)/\σ_ 5=.pointer (some ⟨aj,0,none⟩)/\σ_ 6=.pointer (some ⟨aa,0,none⟩)/\σ_ 13=.pointer (some ⟨aa,2,none⟩)/\σ_ 14=jV ab.Clock/\σ_ 15=.agg B6.toArray/\σ_ 16=.pointer (some ⟨aa,0,none⟩)/\σ_ 17=jV ab.Skier/\σ_ 18=.pointer (some ⟨aa,1,none⟩)/\σ_ 19=jV ab.Mat/\σ_ 20=.agg B4.toArray/\PHeap.Le U U_/\sW w U U_ [.blk aa 78 B3,.blk aj 95 B2,.blk ai 95 B2,.blk b6 210 B1,.blk b2 28 B0] w_) ?_ fun fP=>?_
 rintro ic gv ⟨bH,bP,dy,dz,dA,dB,bQ,dC,dD,dE,dF,dG,fS,eW⟩
 refine zY (j:=2) (vs:=B6) Z Z Z Z eW Z bP bQ Z zF (zA Z) Z Z Z ?_
 intro cV eX
 have eY:sW w U bH [.blk aa 78 B3,.blk aj 95 B2,.blk ai 95 B6,.blk b6 210 B1,.blk b2 28 B0] cV:=eX
 exact cD _ _ ⟨bH,bP,dy,dz,dA,dB,bQ,dC,dD,dE,dF,dG,fS,eY⟩
 refine ZC (s:=gBl) (M:=fun σ_ w_=>∃ (U_:PHeap),σ_ 4=.pointer (some ⟨ai,0,none⟩)/\σ_ 5=.pointer (some ⟨aj,0,none⟩)/\σ_ 6=.pointer (some ⟨aa,0,none⟩)/\σ_ 13=.pointer (some ⟨aa,2,none⟩)/\σ_ 14=jV ab.Clock/\σ_ 15=.agg B6.toArray/\σ_ 16=.pointer (some ⟨aa,0,none⟩)/\σ_ 17=jV ab.Skier/\σ_ 18=.pointer (some ⟨aa,1,none⟩)/\σ_ 19=jV ab.Mat/\PHeap.Le U U_/\sW w U U_ [.blk aa 78 B3,.blk aj 95 B2,.blk ai 95 B6,.blk b6 210 B1,.blk b2 28 B0] w_) ?_ fun cE=>?_
 rintro ie gw ⟨bI,dH,bR,dI,dJ,dK,dL,dM,bS,dN,bT,fT,eZ⟩
 refine oR Z (zt (pv:=[(0,jV ab.Skier),(1,jV ab.Mat)]) (z:=B2) (cs:=B4) Z (wAB bS (wAB bT wAT)) zh wBo Z Z) (zY (j:=1) (vs:=B4) Z Z Z Z eZ Z bR Z Z zF (zA Z) Z Z Z ?_)
 intro cW fb
 have fc:sW w U bI [.blk aa 78 B3,.blk aj 95 B4,.blk ai 95 B6,.blk b6 210 B1,.blk b2 28 B0] cW:=fb
 exact cC _ _ ⟨bI,dH,bR,dI,dJ,dK,dL,dM,bS,dN,bT,Z,fT,fc⟩
 refine ZC (s:=gBt) (M:=fun σ_ w_=>∃ (U_:PHeap),σ_ 4=.pointer (some ⟨ai,0,none⟩)/\σ_ 5=.pointer (some ⟨aj,0,none⟩)/\σ_ 6=.pointer (some ⟨aa,0,none⟩)/\σ_ 13=.pointer (some ⟨aa,2,none⟩)/\σ_ 14=jV ab.Clock/\σ_ 15=.agg B6.toArray/\σ_ 16=.pointer (some ⟨aa,0,none⟩)/\σ_ 18=.pointer (some ⟨aa,1,none⟩)/\σ_ 19=jV ab.Mat/\PHeap.Le U U_/\sW w U U_ [.blk aa 78 B3,.blk aj 95 B2,.blk ai 95 B6,.blk b6 210 B1,.blk b2 28 B0] w_) ?_ fun cG=>?_
 rintro ig gz ⟨cP,dO,dP,dQ,dR,dS,dT,bU,dU,dV,fU,cz⟩
 exact ZB Z Z Z Z (cz.ldB (j:=0) Z Z bU zE (v:=jV ab.Skier) Z) (cE _ _ ⟨cP,dO,dP,dQ,dR,dS,dT,bU,Z,dU,dV,fU,cz⟩)
 refine ZC (s:=gBs) (M:=fun σ_ w_=>∃ (U_:PHeap),σ_ 4=.pointer (some ⟨ai,0,none⟩)/\σ_ 5=.pointer (some ⟨aj,0,none⟩)/\σ_ 6=.pointer (some ⟨aa,0,none⟩)/\σ_ 13=.pointer (some ⟨aa,2,none⟩)/\σ_ 14=jV ab.Clock/\σ_ 15=.agg B6.toArray/\σ_ 16=.pointer (some ⟨aa,0,none⟩)/\σ_ 17=jV ab.Skier/\σ_ 18=.pointer (some ⟨aa,1,none⟩)/\PHeap.Le U U_/\sW w U U_ [.blk aa 78 B3,.blk aj 95 B2,.blk ai 95 B6,.blk b6 210 B1,.blk b2 28 B0] w_) ?_ fun cH=>?_
 rintro ii gA ⟨cQ,dW,dX,dY,dZ,d5,d7,d9,ec,bV,fV,cA⟩
 exact ZB Z Z Z Z (cA.ldB (j:=0) Z Z bV zE (v:=jV ab.Mat) Z) (cE _ _ ⟨cQ,dW,dX,dY,dZ,d5,d7,d9,ec,bV,Z,fV,cA⟩)
 refine ZC (s:=.fl 7 gBk) (M:=fun σ_ w_=>∃ (U_:PHeap),σ_ 4=.pointer (some ⟨ai,0,none⟩)/\σ_ 5=.pointer (some ⟨aj,0,none⟩)/\σ_ 6=.pointer (some ⟨aa,0,none⟩)/\σ_ 13=.pointer (some ⟨aa,2,none⟩)/\σ_ 14=jV ab.Clock/\σ_ 15=.agg B6.toArray/\σ_ 16=.pointer (some ⟨aa,0,none⟩)/\σ_ 17=jV ab.Skier/\σ_ 18=.pointer (some ⟨aa,1,none⟩)/\σ_ 19=jV ab.Mat/\PHeap.Le U U_/\sW w U U_ [.blk aa 78 B3,.blk aj 95 B2,.blk ai 95 B2,.blk b6 210 B1,.blk b2 28 B0] w_) ?_ fun cI=>?_
 rintro ij gC ⟨bJ,bW,ef,eg,eh,en,bX,eu,bY,ez,bZ,fW,fd⟩
 refine oR Z (zt (pv:=[(0,jV ab.Skier),(1,jV ab.Mat)]) (z:=B2) (cs:=B4) Z (wAB bY (wAB bZ wAT)) zh wBo Z Z) (zY (j:=2) (vs:=B6) Z Z Z Z fd Z bW bX Z zF (zA Z) Z Z Z ?_)
 intro cX ff
 have fh:sW w U bJ [.blk aa 78 B3,.blk aj 95 B2,.blk ai 95 B6,.blk b6 210 B1,.blk b2 28 B0] cX:=ff
 exact cD _ _ ⟨bJ,bW,ef,eg,eh,en,bX,eu,bY,ez,bZ,Z,fW,fh⟩
 refine ZC (s:=gCa) (M:=fun σ_ w_=>∃ (U_:PHeap),σ_ 4=.pointer (some ⟨ai,0,none⟩)/\σ_ 5=.pointer (some ⟨aj,0,none⟩)/\σ_ 6=.pointer (some ⟨aa,0,none⟩)/\σ_ 13=.pointer (some ⟨aa,2,none⟩)/\σ_ 14=jV ab.Clock/\σ_ 16=.pointer (some ⟨aa,0,none⟩)/\σ_ 17=jV ab.Skier/\σ_ 18=.pointer (some ⟨aa,1,none⟩)/\σ_ 19=jV ab.Mat/\PHeap.Le U U_/\sW w U U_ [.blk aa 78 B3,.blk aj 95 B2,.blk ai 95 B2,.blk b6 210 B1,.blk b2 28 B0] w_) ?_ fun cJ=>?_
 rintro ik cY ⟨cR,eA,eD,eE,eF,cb,eG,cd,eH,cf,fY,fj⟩
 refine oR Z (zt (pv:=[(0,jV ab.Skier),(1,jV ab.Mat)]) (z:=B2) (cs:=B4) Z (wAB cd (wAB cf wAT)) zh wBo Z Z) (zM 0 Z Z Z Z (zK Z Z Tryz.call223 (zB cb zP) Z) fj (fun hs=>wCf ab.Clock cY cR hs aZ) (.inr Z) ?_)
 rintro bK gg gZ cZ fZ fm ⟨rfl,rfl⟩
 have fq:sW w U bK [.blk aa 78 B3,.blk aj 95 B2,.blk ai 95 B2,.blk b6 210 B1,.blk b2 28 B0] cZ:=fm
 exact fP _ _ ⟨bK,eA,eD,eE,eF,cb,Z,eG,cd,eH,cf,Z,(fY.trans fZ),fq⟩
 refine ZC (s:=gCg) (M:=fun σ_ w_=>∃ (U_:PHeap),σ_ 4=.pointer (some ⟨ai,0,none⟩)/\σ_ 5=.pointer (some ⟨aj,0,none⟩)/\σ_ 6=.pointer (some ⟨aa,0,none⟩)/\σ_ 13=.pointer (some ⟨aa,2,none⟩)/\σ_ 14=jV ab.Clock/\σ_ 15=.agg B6.toArray/\σ_ 16=.pointer (some ⟨aa,0,none⟩)/\σ_ 18=.pointer (some ⟨aa,1,none⟩)/\σ_ 19=jV ab.Mat/\PHeap.Le U U_/\sW w U U_ [.blk aa 78 B3,.blk aj 95 B2,.blk ai 95 B2,.blk b6 210 B1,.blk b2 28 B0] w_) ?_ fun cK=>?_
 rintro il gD ⟨bi,bn,ci,cj,cm,cn,bo,bp,cp,cq,cM,bv⟩
 refine zk ?_ ?_
 exact ZB Z Z Z Z (bv.ldB (j:=0) Z Z bp zE (v:=jV ab.Skier) Z) (cI _ _ ⟨bi,bn,ci,cj,cm,cn,bo,bp,Z,cp,cq,cM,bv⟩)
 refine zY (j:=2) (vs:=B6) Z Z Z Z bv Z bn bo Z zF (zA Z) Z Z Z ?_
 intro da fy
 have fz:sW w U bi [.blk aa 78 B3,.blk aj 95 B2,.blk ai 95 B6,.blk b6 210 B1,.blk b2 28 B0] da:=fy
 exact cG _ _ ⟨bi,bn,ci,cj,cm,cn,bo,bp,cp,cq,cM,fz⟩
 refine ZC (s:=gCf) (M:=fun σ_ w_=>∃ (U_:PHeap),σ_ 4=.pointer (some ⟨ai,0,none⟩)/\σ_ 5=.pointer (some ⟨aj,0,none⟩)/\σ_ 6=.pointer (some ⟨aa,0,none⟩)/\σ_ 13=.pointer (some ⟨aa,2,none⟩)/\σ_ 14=jV ab.Clock/\σ_ 15=.agg B6.toArray/\σ_ 16=.pointer (some ⟨aa,0,none⟩)/\σ_ 17=jV ab.Skier/\σ_ 18=.pointer (some ⟨aa,1,none⟩)/\PHeap.Le U U_/\sW w U U_ [.blk aa 78 B3,.blk aj 95 B2,.blk ai 95 B2,.blk b6 210 B1,.blk b2 28 B0] w_) ?_ fun cL=>?_
 rintro im gE ⟨bj,bq,cr,ct,cu,cw,br,cx,cy,bt,cN,bw⟩
 refine zk ?_ ?_
 exact ZB Z Z Z Z (bw.ldB (j:=0) Z Z bt zE (v:=jV ab.Mat) Z) (cI _ _ ⟨bj,bq,cr,ct,cu,cw,br,cx,cy,bt,Z,cN,bw⟩)
 refine zY (j:=2) (vs:=B6) Z Z Z Z bw Z bq br Z zF (zA Z) Z Z Z ?_
 intro db fA
 have fB:sW w U bj [.blk aa 78 B3,.blk aj 95 B2,.blk ai 95 B6,.blk b6 210 B1,.blk b2 28 B0] db:=fA
 exact cH _ _ ⟨bj,bq,cr,ct,cu,cw,br,cx,cy,bt,cN,fB⟩
 refine oR Z (zH Z Z ZM Z zC) (oL Z (aV.ldB (j:=0) Z Z Z zE (v:=jV ab.Clock) Z) (oR Z (zH Z Z ZM Z zC) (oR Z (zH Z Z ZM Z zC) (zk ?_ ?_))))
 refine zM 0 Z Z Z Z (zK Z Z Tryz.call223 (zB Z zP) Z) aV (fun hs=>wCf ab.Clock bm U hs aZ) (.inr Z) ?_
 rintro aX gh g6 de bd fC ⟨rfl,rfl⟩
 have aY:sW w U aX [.blk aa 78 B3,.blk aj 95 B2,.blk ai 95 B2,.blk b6 210 B1,.blk b2 28 B0] de:=fC
 refine zk ?_ ?_
 exact ZB Z Z Z Z (aY.ldB (j:=0) Z Z Z zE (v:=jV ab.Skier) Z) (cL _ _ ⟨aX,Z,Z,Z,Z,Z,Z,Z,Z,Z,bd,aY⟩)
 refine zk ?_ ?_
 exact ZB Z Z Z Z (aY.ldB (j:=0) Z Z Z zE (v:=jV ab.Mat) Z) (cK _ _ ⟨aX,Z,Z,Z,Z,Z,Z,Z,Z,Z,bd,aY⟩)
 refine zY (j:=2) (vs:=B6) Z Z Z Z aY Z Z Z Z zF (zA Z) Z Z Z ?_
 intro df fD
 have bb:sW w U aX [.blk aa 78 B3,.blk aj 95 B2,.blk ai 95 B6,.blk b6 210 B1,.blk b2 28 B0] df:=fD
 refine zk ?_ ?_
 exact ZB Z Z Z Z (bb.ldB (j:=0) Z Z Z zE (v:=jV ab.Skier) Z) (cH _ _ ⟨aX,Z,Z,Z,Z,Z,Z,Z,Z,Z,bd,bb⟩)
 exact ZB Z Z Z Z (bb.ldB (j:=0) Z Z Z zE (v:=jV ab.Mat) Z) (cG _ _ ⟨aX,Z,Z,Z,Z,Z,Z,Z,Z,Z,bd,bb⟩)
 refine zk ?_ ?_
 refine ZB Z Z Z Z (aV.ldB (j:=0) Z Z Z zE (v:=jV ab.Skier) Z) (zk ?_ ?_)
 refine zM 0 Z Z Z Z (zK Z Z Tryz.call223 (zB Z zP) Z) aV (fun hs=>wCf ab.Clock bm U hs aZ) (.inr Z) ?_
 rintro bL gi g7 dg ga fE ⟨rfl,rfl⟩
 have fG:sW w U bL [.blk aa 78 B3,.blk aj 95 B2,.blk ai 95 B2,.blk b6 210 B1,.blk b2 28 B0] dg:=fE
 exact cL _ _ ⟨bL,Z,Z,Z,Z,Z,Z,Z,Z,Z,ga,fG⟩
 exact ZB Z Z Z Z (aV.ldB (j:=0) Z Z Z zE (v:=jV ab.Mat) Z) (cJ _ _ ⟨U,Z,Z,Z,Z,Z,Z,Z,Z,Z,(zL _),aV⟩)
 refine ZB Z Z Z Z (aV.ldB (j:=0) Z Z Z zE (v:=jV ab.Mat) Z) (zk ?_ ?_)
 refine zM 0 Z Z Z Z (zK Z Z Tryz.call223 (zB Z zP) Z) aV (fun hs=>wCf ab.Clock bm U hs aZ) (.inr Z) ?_
 rintro bM gj g8 dh gb fH ⟨rfl,rfl⟩
 have fJ:sW w U bM [.blk aa 78 B3,.blk aj 95 B2,.blk ai 95 B2,.blk b6 210 B1,.blk b2 28 B0] dh:=fH
 exact cK _ _ ⟨bM,Z,Z,Z,Z,Z,Z,Z,Z,Z,gb,fJ⟩
 exact ZB Z Z Z Z (aV.ldB (j:=0) Z Z Z zE (v:=jV ab.Skier) Z) (cJ _ _ ⟨U,Z,Z,Z,Z,Z,Z,Z,Z,Z,(zL _),aV⟩)
 rintro io gF ⟨cS,eI,eJ,gW,bz⟩
 refine zV ?_
 cases cB
 exact ⟨rfl,_,(wEV (rs:=[.cell 4 95,.cell 5 95]) (vs:=[.agg B5.toArray,.agg B4.toArray]) ⟨⟨_,eI,(wBX zg zF (bz.blkAt (k:=2) rfl) (vs:=B5) rfl rfl)⟩,⟨⟨_,eJ,(wBX zg zF (bz.blkAt (k:=1) rfl) (vs:=B4) rfl rfl)⟩,trivial⟩⟩ rfl),cS,_,(bz.pick [] _ (by decide) rfl),rfl,rfl⟩
theorem wHe (p0:wAD) (aU:Option Addr) (aW:Nat) (aV:Option Addr) (aX:Nat) (ak:Option Addr) (am:Nat) (aq:Option Addr) (au:Nat) (p1:wAK) (w:World) (U:PHeap) (hS:St0 w U []) (bG:Sl U 1 aU aW p0.Starts.length (hH KL.encI p0.Starts)) (bH:Sl U 2 aV aX p0.Splits.length (hH wAL p0.Splits)) (bb:Sl U 3 ak am p0.Clocks.length (hH wAA p0.Clocks)) (bu:Sl U 4 aq au p0.Readings.length (hH wAJ p0.Readings)) {r:Int × Int} (hm:wDD p0 p1=some r):Gv Tryz.prog 227 [.agg #[.slice aU p0.Starts.length aW,.slice aV p0.Splits.length aX,.slice ak p0.Clocks.length am,.slice aq p0.Readings.length au],.agg #[jV p1.Kind,jV p1.Skier,jV p1.Index,.bool p1.Up]] w (wCW w [] U (fun U_ L_ v=>v=.tuple #[jV r.1,jV r.2]/\L_=[])):=by
 unfold wDD at hm
 refine Gv.of Tryz.func227 Z Tryz.ntmps227 Tryz.results227 Z (sR gBy Z ?_)
 let B0:List Value:=[.slice aU p0.Starts.length aW,.slice aV p0.Splits.length aX,.slice ak p0.Clocks.length am,.slice aq p0.Readings.length au]
 refine ZK (cs:=B0) rfl rfl rfl rfl rfl rfl (by rfl) hS ?_
 intro W1 b2 bt
 let B1:List Value:=[jV p1.Kind,jV p1.Skier,jV p1.Index,.bool p1.Up]
 refine ZK (cs:=B1) rfl rfl rfl rfl rfl rfl (by rfl) bt ?_
 intro W5 b6 ap
 refine oA Z Z (oA Z Z (eN (sR (wLJ gBj) Z (oR Z (zH Z Z zQ Z yY) (oL Z (ap.ldB (j:=1) Z Z Z Tryz.isAgg26 (v:=.slice aq p0.Readings.length au) Z) (oR Z (zH Z Z zy Z zC) (oL Z (ap.ldB (j:=0) Z Z Z zE (v:=jV p1.Index) Z) (bnK hm fun x9 az bv=>?_))))))))
 have q:=bu.el (fun _=>rfl) (wAi az)
 obtain ⟨bD,bI,bi,bm⟩:=q
 refine oR Z (zm Z Z bi Z yI Zo (wBt az) (wBv az)) (oL Z (ap.ldCA (f:=0) bm Z Z Tryz.isAgg78 Zo (us:=[jV x9.Skier,jV x9.Mat,jV x9.Clock,jV x9.Time]) Z Z) (zW (cs:=[jV 0,jV 0,jV 0,jV 0]) Z Z Z Z Z Zt Z ap ?_))
 intro bA be bp
 let B2:List Value:=[jV x9.Skier,jV x9.Mat,jV x9.Clock,jV x9.Time]
 refine zY (j:=0) (vs:=B2) Z Z Z Z bp Z Z Z Z Zo (zA Z) Z Z Z ?_
 intro av bq
 have br:sW w U U [.blk be 78 B2,.blk b6 210 B1,.blk b2 28 B0] av:=bq
 refine eN (zI (zx zr [3,1,3,1,3,1,3,3,1,3,3,1,3,1,3,3,1,3,1,3,3,3] fL22 (by kernel_rfl) ?_))
 have ae:=br.drew
 generalize hw_W24:({ av with drawn:=av.drawn + 1 }:World)=bB at ae ⊢
 refine oR Z (zH Z Z ZM Z zC) (oL Z (ae.ldB (j:=0) Z Z Z zE (v:=jV x9.Time) Z) (oR Z (zH Z Z zQ Z Zn) (oL Z (ae.ldB (j:=2) Z Z Z yM (v:=.slice ak p0.Clocks.length am) Z) (oR Z (zH Z Z ZM Z zC) (oL Z (ae.ldB (j:=0) Z Z Z zE (v:=jV x9.Clock) Z) (bnK bv fun bd aj bw=>?_))))))
 have q:=bb.el (fun _=>rfl) (wAi aj)
 obtain ⟨bE,bJ,bj,bn⟩:=q
 refine oR Z (zm Z Z bj Z Za Zs (wBt aj) (wBv aj)) (oR Z (zH Z Z Zz Z zC) (oL Z (ae.ldC (f:=2) bn (v:=jV bd.Error) Z Z zE Z) (oR Z (zS Z Z Z) (oR Z (zH Z Z zQ Z Zn) (oL Z (ae.ldB (j:=2) Z Z Z yM (v:=.slice ak p0.Clocks.length am) Z) (oR Z (zH Z Z ZM Z zC) (oL Z (ae.ldB (j:=0) Z Z Z zE (v:=jV x9.Clock) Z) ?_)))))))
 have q:=bb.el (fun _=>rfl) (wAi aj)
 obtain ⟨bF,bK,bk,bo⟩:=q
 refine oR Z (zm Z Z bk Z Za Zs (wBt aj) (wBv aj)) (oR Z (zH Z Z Zz Z zC) (oL Z (ae.ldC (f:=2) bo (v:=jV bd.Error) Z Z zE Z) (oR Z (zH Z Z ZM Z zC) (oL Z (ae.ldB (j:=0) Z Z Z zE (v:=jV x9.Time) Z) (oR Z (ZX Z Z Z) (oA Z Z (oA Z Z (eN (zV ?_)))))))))
 cases bw
 exact ⟨rfl,_,(wGg rfl rfl),U,_,(ae.pick [] _ (by decide) rfl),rfl,rfl⟩
theorem wBg  (w:World) (U:PHeap) (hS:St0 w U [])  {r:Unit} (hm:wCB =some r):Gv Tryz.prog 196 [] w (wCW w [] U (fun U_ L_ v=>v=.agg #[.func (.func 215) #[] #[],.func (.func 216) #[] #[],.func (.func 217) #[] #[],.func (.func 218) #[] #[],.func (.func 219) #[] #[],.func (.func 220) #[] #[],.func (.func 221) #[] #[],.func (.func 222) #[] #[],.func (.func 224) #[] #[],.func (.func 225) #[] #[],.func (.func 226) #[] #[],.func (.func 227) #[] #[]]/\L_=[])):=by
 unfold wCB at hm
 refine Gv.of Tryz.func196 Z Tryz.ntmps196 Tryz.results196 Z (sR (.fx 0 .nil .stop) Z ?_)
 let B0:List Value:=[.nilFunc,.nilFunc,.nilFunc,.nilFunc,.nilFunc,.nilFunc,.nilFunc,.nilFunc,.nilFunc,.nilFunc,.nilFunc,.nilFunc]
 refine zW (cs:=B0) Z Z Z Z Z Tryz.zeroValue300 Z hS ?_
 intro W1 b2 av
 refine eN (sR (wDh (.fx 5 .nil .stop)) Z ?_)
 let B1:List Value:=[.nilFunc,.nilFunc,.nilFunc]
 let B2:List Value:=[.func (.func 215) #[] #[],.func (.func 216) #[] #[],.func (.func 217) #[] #[]]
 refine oR Z (zt (pv:=[(0,.func (.func 215) #[] #[]),(1,.func (.func 216) #[] #[]),(2,.func (.func 217) #[] #[])]) (z:=B1) (cs:=B2) Z (wAB Z (wAB Z (wAB Z wAT))) Zl wFx Z Z) ?_
 let B3:List Value:=[.func (.func 218) #[] #[],.func (.func 219) #[] #[],.func (.func 220) #[] #[]]
 refine oR Z (zt (pv:=[(0,.func (.func 218) #[] #[]),(1,.func (.func 219) #[] #[]),(2,.func (.func 220) #[] #[])]) (z:=B1) (cs:=B3) Z (wAB Z (wAB Z (wAB Z wAT))) Zl wFx Z Z) ?_
 let B4:List Value:=[.func (.func 221) #[] #[],.func (.func 222) #[] #[],.func (.func 224) #[] #[]]
 refine oR Z (zt (pv:=[(0,.func (.func 221) #[] #[]),(1,.func (.func 222) #[] #[]),(2,.func (.func 224) #[] #[])]) (z:=B1) (cs:=B4) Z (wAB Z (wAB Z (wAB Z wAT))) Zl wFx Z Z) ?_
 let B5:List Value:=[.func (.func 225) #[] #[],.func (.func 226) #[] #[],.func (.func 227) #[] #[]]
 refine oR Z (zt (pv:=[(0,.func (.func 225) #[] #[]),(1,.func (.func 226) #[] #[]),(2,.func (.func 227) #[] #[])]) (z:=B1) (cs:=B5) Z (wAB Z (wAB Z (wAB Z wAT))) Zl wFx Z Z) ?_
 let B6:List Value:=[.func (.func 215) #[] #[],.func (.func 216) #[] #[],.func (.func 217) #[] #[],.func (.func 218) #[] #[],.func (.func 219) #[] #[],.func (.func 220) #[] #[],.func (.func 221) #[] #[],.func (.func 222) #[] #[],.func (.func 224) #[] #[],.func (.func 225) #[] #[],.func (.func 226) #[] #[],.func (.func 227) #[] #[]]
 refine oR Z (Runs.buildA (pv:=[(0,.agg B2.toArray),(1,.agg B3.toArray),(2,.agg B4.toArray),(3,.agg B5.toArray)]) (z:=B0) (cs:=B6) Z (wAB Z (wAB Z (wAB Z (wAB Z wAT)))) Tryz.zeroValue300 Zw ZU Z Z) (zY (j:=0) (vs:=B6) Z Z Z Z av Z Z Z Z Tryz.sizeOf300 (zA Z) Z Z Z ?_)
 intro W5 az
 have ap:sW w U U [.blk b2 300 B6] W5:=az
 refine eN (zV ?_)
 cases hm
 exact ⟨rfl,_,(wKL (v:=.agg B6.toArray) ⟨⟨_,rfl,(wBX Tryz.isAgg300 Tryz.sizeOf300 (ap.blkAt (k:=0) rfl) (vs:=B6) rfl rfl)⟩,trivial⟩),U,_,(ap.pick [] _ (by decide) rfl),rfl,rfl⟩
theorem wGP (p0:wAD) (bE:Option Addr) (bI:Nat) (bF:Option Addr) (bJ:Nat) (bG:Option Addr) (bK:Nat) (bH:Option Addr) (bL:Nat) (p1:wAK) (w:World) (U:PHeap) (hS:St0 w U []) (cR:Sl U 1 bE bI p0.Starts.length (hH KL.encI p0.Starts)) (cS:Sl U 2 bF bJ p0.Splits.length (hH wAL p0.Splits)) (cU:Sl U 3 bG bK p0.Clocks.length (hH wAA p0.Clocks)) (cV:Sl U 4 bH bL p0.Readings.length (hH wAJ p0.Readings)) {r:wAC × wAC × Int} (hm:wBi p0 p1=some r):Gv Tryz.prog 146 [.agg #[.slice bE p0.Starts.length bI,.slice bF p0.Splits.length bJ,.slice bG p0.Clocks.length bK,.slice bH p0.Readings.length bL],.agg #[jV p1.Kind,jV p1.Skier,jV p1.Index,.bool p1.Up]] w (wCW w [] U (fun U_ L_ v=>v=.tuple #[.agg #[jV r.1.skier,jV r.1.mat],.agg #[jV r.2.1.skier,jV r.2.1.mat],jV r.2.2]/\L_=[])):=by
 unfold wBi at hm
 refine Gv.of Tryz.func146 Z Tryz.ntmps146 Tryz.results146 Z ?_
 by_cases c1:p1.Kind=0
 have gm:=hm;rw [if_pos c1] at gm
 refine sR gCh Z ?_
 let B0:List Value:=[.slice bE p0.Starts.length bI,.slice bF p0.Splits.length bJ,.slice bG p0.Clocks.length bK,.slice bH p0.Readings.length bL]
 refine ZK (cs:=B0) rfl rfl rfl rfl rfl rfl (by rfl) hS ?_
 intro W6 b7 oz
 let B1:List Value:=[jV p1.Kind,jV p1.Skier,jV p1.Index,.bool p1.Up]
 refine ZK (cs:=B1) rfl rfl rfl rfl rfl rfl (by rfl) oz ?_
 intro pJ bk j6
 let B2:List Value:=[jV 0,jV 0]
 refine zW (cs:=B2) Z Z Z Z Z zh Z j6 ?_
 intro pL ba lm
 refine zW (cs:=B2) Z Z Z Z Z zh Z lm ?_
 intro eE be lx
 refine oA Z Z (eN ?_)
 have q:=bnd gm
 obtain ⟨⟨⟩,o0,fZ⟩:=q
 try dsimp only at fZ
 let B3:List Value:=[.func (.func 215) #[] #[],.func (.func 216) #[] #[],.func (.func 217) #[] #[]]
 refine yA (fun σ_ w_=>∃ (U_:PHeap) (bN:Nat),σ_ 2=.pointer (some ⟨b7,0,none⟩)/\σ_ 3=.pointer (some ⟨bk,0,none⟩)/\σ_ 4=.pointer (some ⟨ba,0,none⟩)/\σ_ 5=.pointer (some ⟨be,0,none⟩)/\σ_ 7=.pointer (some ⟨bN,0,none⟩)/\PHeap.Le U U_/\sW w U U_ [.blk be 95 B2,.blk ba 95 B2,.blk bk 210 B1,.blk b7 28 B0,.blk bN 299 B3] w_) ?_ ?_
 have q:=bnd o0
 obtain ⟨⟨⟩,fw,ec⟩:=q
 try dsimp only at ec
 refine zx zr [2,3,1,3,2,0] gCm (by kernel_rfl) ?_
 have cL:=lx.drew
 generalize hw_W45:({ eE with drawn:=eE.drawn + 1 }:World)=iD at cL ⊢
 refine oR Z (zH Z Z zy Z Tryz.sizeOf208) (oL Z (cL.ldB (j:=2) Z Z Z Tryz.isAgg208 (v:=jV p1.Kind) Z) (zk ?_ ?_))
 refine zM 0 Z Z Z Z (zK Z Z yS zP Z) cL (fun hs=>wBg iD U hs fw) (.inr Z) ?_
 rintro dz pz qE iK pe mK ⟨rfl,rfl⟩
 have mL:sW w U dz [.blk be 95 B2,.blk ba 95 B2,.blk bk 210 B1,.blk b7 28 B0] iK:=mK
 refine zZ rfl rfl rfl rfl (fun _=>(Runs.ixA (i:=0) rfl rfl (congrArg (jV) c1) Zw ZU (by decide) (by decide) (wCg yf ZU rfl))) (zW (cs:=[.nilFunc,.nilFunc,.nilFunc]) rfl rfl rfl rfl rfl Zl rfl mL ?_)
 intro p8 eQ mU
 refine zY (j:=0) (vs:=B3) Z Z Z Z mU Z Z Z Z ZU (zA Z) Z Z Z ?_
 intro iT mZ
 have m7:sW w U dz [.blk eQ 299 B3,.blk be 95 B2,.blk ba 95 B2,.blk bk 210 B1,.blk b7 28 B0] iT:=mZ
 refine zX ?_
 cases ec
 exact zG ⟨rfl,⟨dz,eQ,rfl,rfl,rfl,rfl,rfl,pe,(m7.pick [1,2,3,4,0] _ (by decide) rfl)⟩⟩
 refine zW (cs:=[.nilFunc,.nilFunc,.nilFunc]) Z Z Z Z Z Zl Z cL ?_
 intro iY dK og
 refine zM 0 Z Z Z Z (zK Z Z yS zP Z) og (fun hs=>wBg iY U hs fw) (.inr Z) ?_
 rintro dC pF qK je ph ou ⟨rfl,rfl⟩
 have ow:sW w U dC [.blk dK 299 [.nilFunc,.nilFunc,.nilFunc],.blk be 95 B2,.blk ba 95 B2,.blk bk 210 B1,.blk b7 28 B0] je:=ou
 refine zZ rfl rfl rfl rfl (fun _=>(Runs.ixA (i:=0) rfl rfl (congrArg (jV) c1) Zw ZU (by decide) (by decide) (wCg yf ZU rfl))) (zY (j:=0) (vs:=B3) rfl rfl rfl rfl ow rfl rfl rfl rfl ZU (zA rfl) rfl rfl rfl ?_)
 intro jf ox
 have oy:sW w U dC [.blk dK 299 B3,.blk be 95 B2,.blk ba 95 B2,.blk bk 210 B1,.blk b7 28 B0] jf:=ox
 refine zX ?_
 cases ec
 exact zG ⟨rfl,⟨dC,dK,rfl,rfl,rfl,rfl,rfl,ph,(oy.pick [1,2,3,4,0] _ (by decide) rfl)⟩⟩
 rintro qU jg ⟨gR,bN,fg,dS,cd,bX,fh,df,cQ⟩
 refine sR (wEc (.fx 4 (wQI gBk) .stop)) Z (oR Z (zH Z fh yD Z Tryz.sizeOf296) (oL Z (cQ.ldB (j:=4) Z Z Z Tryz.isAgg296 (v:=.func (.func 216) #[] #[]) Z) (oL Z (cQ.ldBA (j:=3) Z Z fg ZH zu (vs:=B0) Z Z) (oL Z (cQ.ldBA (j:=2) Z Z dS yO yH (vs:=B1) Z Z) ?_))))
 have fL:=cR.le df
 have fM:=cS.le df
 have fN:=cU.le df
 have fO:=cV.le df
 have q:=bnd fZ
 obtain ⟨⟨dq,dr⟩,jY,gz⟩:=q
 try dsimp only at gz
 refine zM 0 Z Z Z Z (zK Z Z Tryz.call216 (zB Z (zB Z zP)) Z) cQ (fun hs=>wHy p0 bE bI bF bJ bG bK bH bL p1 jg gR hs fL fM fN fO jY) (.inr Z) ?_
 rintro cB pI qM jh cW jZ ⟨rfl,rfl⟩
 have j0:sW w U cB [.blk be 95 B2,.blk ba 95 B2,.blk bk 210 B1,.blk b7 28 B0,.blk bN 299 B3] jh:=jZ
 refine oM Z Z (oR Z (zl Z Z (v:=.agg #[jV dq.skier,jV dq.mat]) Z) (oR Z (zl Z Z (v:=.agg #[jV dr.skier,jV dr.mat]) Z) ?_))
 let B4:List Value:=[jV dq.skier,jV dq.mat]
 refine zY (j:=1) (vs:=B4) Z Z Z Z j0 Z cd Z Z zF (zA Z) Z Z Z ?_
 intro gS j3
 have j4:sW w U cB [.blk be 95 B2,.blk ba 95 B4,.blk bk 210 B1,.blk b7 28 B0,.blk bN 299 B3] gS:=j3
 let B5:List Value:=[jV dr.skier,jV dr.mat]
 refine zY (j:=0) (vs:=B5) Z Z Z Z j4 Z bX Z Z zF (zA Z) Z Z Z ?_
 intro eA j5
 have cD:sW w U cB [.blk be 95 B5,.blk ba 95 B4,.blk bk 210 B1,.blk b7 28 B0,.blk bN 299 B3] eA:=j5
 refine eN (sR (wEc (.fx 4 (wMw (.nil)) .stop)) Z (oR Z (zH Z fh yD Z Tryz.sizeOf297) (oL Z (cD.ldB (j:=4) Z Z Z Tryz.isAgg297 (v:=.func (.func 217) #[] #[]) Z) (oL Z (cD.ldBA (j:=3) Z Z fg ZH zu (vs:=B0) Z Z) (oL Z (cD.ldBA (j:=2) Z Z dS yO yH (vs:=B1) Z Z) ?_)))))
 have jx:=fL.le cW
 have jy:=fM.le cW
 have jz:=fN.le cW
 have jA:=fO.le cW
 have q:=bnd gz
 obtain ⟨⟨eh,gE⟩,jB,fT⟩:=q
 try dsimp only at fT
 refine zM 0 Z Z Z Z (zK Z Z Tryz.call217 (zB Z (zB Z zP)) Z) cD (fun hs=>wHz p0 bE bI bF bJ bG bK bH bL p1 eA cB hs jx jy jz jA jB) (.inr Z) ?_
 rintro bQ pj qv dD qj j7 ⟨rfl,rfl⟩
 have cn:sW w U bQ [.blk be 95 B5,.blk ba 95 B4,.blk bk 210 B1,.blk b7 28 B0,.blk bN 299 B3] dD:=j7
 refine oM Z Z (oR Z (zl Z Z (v:=jV eh) Z) (oR Z (zl Z Z (v:=jV gE) Z) (oA Z Z (oA Z Z (eN (zI (sR fL3 Z (oR Z (zH Z dS zy Z Tryz.sizeOf4) (oL Z (cn.ldB (j:=2) Z Z Z Tryz.isAgg4 (v:=.bool p1.Up) Z) (oR Z (Zf Z Z) (eN (ifc fT ?_ ?_))))))))))))
 intro dL oB
 refine zo (nC dL.out) (kN ?_)
 have q:=bnd oB
 obtain ⟨⟨⟩,gA,fU⟩:=q
 try dsimp only at fU
 refine yA (fun σ_ w_=>∃ (U_:PHeap),σ_ 4=.pointer (some ⟨ba,0,none⟩)/\σ_ 5=.pointer (some ⟨be,0,none⟩)/\σ_ 6=jV eh/\PHeap.Le bQ U_/\sW w U U_ [.blk be 95 B5,.blk ba 95 B4,.blk bk 210 B1,.blk b7 28 B0,.blk bN 299 B3] w_) ?_ ?_
 refine zx zr [1,2,3,0,0,3] gCn (by kernel_rfl) ?_
 have cp:=cn.drew
 generalize hw_W136:({ dD with drawn:=dD.drawn + 1 }:World)=pK at cp ⊢
 refine oL Z (cp.ldBA (j:=1) Z Z cd zg zF (vs:=B4) Z Z) (oM Z Z (zk ?_ ?_))
 refine ZB Z Z Z Z (cp.ldBA (j:=0) Z Z bX zg zF (vs:=B5) Z Z) (zY (j:=1) (vs:=B4) Z Z Z Z cp Z cd Z Z zF (zA Z) Z Z Z ?_)
 intro gT j8
 have j9:sW w U bQ [.blk be 95 B5,.blk ba 95 B4,.blk bk 210 B1,.blk b7 28 B0,.blk bN 299 B3] gT:=j8
 refine zY (j:=0) (vs:=B5) Z Z Z Z j9 Z bX Z Z zF (zA Z) Z Z Z ?_
 intro gU k9
 have lc:sW w U bQ [.blk be 95 B5,.blk ba 95 B4,.blk bk 210 B1,.blk b7 28 B0,.blk bN 299 B3] gU:=k9
 refine oA Z Z (zX ?_)
 cases gA
 exact zG ⟨Z,⟨bQ,cd,bX,Z,(zL _),lc⟩⟩
 refine zY (j:=1) (vs:=B4) Z Z Z Z cp Z cd Z Z zF (zA Z) Z Z Z ?_
 intro gW lf
 have fP:sW w U bQ [.blk be 95 B5,.blk ba 95 B4,.blk bk 210 B1,.blk b7 28 B0,.blk bN 299 B3] gW:=lf
 refine ZB Z Z Z Z (fP.ldBA (j:=0) Z Z bX zg zF (vs:=B5) Z Z) (zY (j:=0) (vs:=B5) Z Z Z Z fP Z bX Z Z zF (zA Z) Z Z Z ?_)
 intro gX lh
 have li:sW w U bQ [.blk be 95 B5,.blk ba 95 B4,.blk bk 210 B1,.blk b7 28 B0,.blk bN 299 B3] gX:=lh
 refine oA Z Z (zX ?_)
 cases gA
 exact zG ⟨Z,⟨bQ,cd,bX,Z,(zL _),li⟩⟩
 rintro qN pM ⟨gI,jj,jk,jl,qk,dT⟩
 refine zV ?_
 cases fU
 exact ⟨rfl,_,(wEV (rs:=[.cell 4 95,.cell 5 95,.tmp 6]) (vs:=[.agg B4.toArray,.agg B5.toArray,jV eh]) ⟨⟨_,jj,(wBX zg zF (dT.blkAt (k:=1) rfl) (vs:=B4) rfl rfl)⟩,⟨⟨_,jk,(wBX zg zF (dT.blkAt (k:=0) rfl) (vs:=B5) rfl rfl)⟩,⟨jl,trivial⟩⟩⟩ rfl),gI,_,(dT.pick [] _ (by decide) rfl),rfl,rfl⟩
 intro dL oG
 refine ZI (nF (dL.out)) (sR (wEU gBu) Z (oL Z (cn.ldBA (j:=0) Z Z bX zg zF (vs:=B5) Z Z) (oL Z (cn.ldBA (j:=1) Z Z cd zg zF (vs:=B4) Z Z) (oM Z Z (zY (j:=1) (vs:=B5) Z Z Z Z cn Z cd Z Z zF (zA Z) Z Z Z ?_)))))
 intro gZ lj
 have ln:sW w U bQ [.blk be 95 B5,.blk ba 95 B5,.blk bk 210 B1,.blk b7 28 B0,.blk bN 299 B3] gZ:=lj
 refine zY (j:=0) (vs:=B4) Z Z Z Z ln Z bX Z Z zF (zA Z) Z Z Z ?_
 intro g6 lp
 have dU:sW w U bQ [.blk be 95 B4,.blk ba 95 B5,.blk bk 210 B1,.blk b7 28 B0,.blk bN 299 B3] g6:=lp
 refine oA Z Z (eN (zV (zR ?_)))
 cases oG
 exact ⟨rfl,_,(wEV (rs:=[.cell 4 95,.cell 5 95,.tmp 6]) (vs:=[.agg B5.toArray,.agg B4.toArray,jV gE]) ⟨⟨_,cd,(wBX zg zF (dU.blkAt (k:=1) rfl) (vs:=B5) rfl rfl)⟩,⟨⟨_,bX,(wBX zg zF (dU.blkAt (k:=0) rfl) (vs:=B4) rfl rfl)⟩,⟨rfl,trivial⟩⟩⟩ rfl),bQ,_,(dU.pick [] _ (by decide) rfl),rfl,rfl⟩
 by_cases c2:p1.Kind=1
 have fV:=hm;rw [if_neg c1,if_pos c2] at fV
 refine sR gCh Z ?_
 let B6:List Value:=[.slice bE p0.Starts.length bI,.slice bF p0.Splits.length bJ,.slice bG p0.Clocks.length bK,.slice bH p0.Readings.length bL]
 refine ZK (cs:=B6) rfl rfl rfl rfl rfl rfl (by rfl) hS ?_
 intro pN bm lq
 let B7:List Value:=[jV p1.Kind,jV p1.Skier,jV p1.Index,.bool p1.Up]
 refine ZK (cs:=B7) rfl rfl rfl rfl rfl rfl (by rfl) lq ?_
 intro pO bn lu
 let B8:List Value:=[jV 0,jV 0]
 refine zW (cs:=B8) Z Z Z Z Z zh Z lu ?_
 intro pP bb lv
 refine zW (cs:=B8) Z Z Z Z Z zh Z lv ?_
 intro eD bd lw
 refine oA Z Z (eN ?_)
 have q:=bnd fV
 obtain ⟨⟨⟩,oW,fW⟩:=q
 try dsimp only at fW
 let B9:List Value:=[.func (.func 218) #[] #[],.func (.func 219) #[] #[],.func (.func 220) #[] #[]]
 refine yA (fun σ_ w_=>∃ (U_:PHeap) (bM:Nat),σ_ 2=.pointer (some ⟨bm,0,none⟩)/\σ_ 3=.pointer (some ⟨bn,0,none⟩)/\σ_ 4=.pointer (some ⟨bb,0,none⟩)/\σ_ 5=.pointer (some ⟨bd,0,none⟩)/\σ_ 7=.pointer (some ⟨bM,0,none⟩)/\PHeap.Le U U_/\sW w U U_ [.blk bd 95 B8,.blk bb 95 B8,.blk bn 210 B7,.blk bm 28 B6,.blk bM 299 B9] w_) ?_ ?_
 have q:=bnd oW
 obtain ⟨⟨⟩,fj,d7⟩:=q
 try dsimp only at d7
 refine zx zr [2,3,1,3,2,0] gCm (by kernel_rfl) ?_
 have cE:=lw.drew
 generalize hw_W204:({ eD with drawn:=eD.drawn + 1 }:World)=g7 at cE ⊢
 refine oR Z (zH Z Z zy Z Tryz.sizeOf208) (oL Z (cE.ldB (j:=2) Z Z Z Tryz.isAgg208 (v:=jV p1.Kind) Z) (zk ?_ ?_))
 refine zM 0 Z Z Z Z (zK Z Z yS zP Z) cE (fun hs=>wBg g7 U hs fj) (.inr Z) ?_
 rintro dv pk qw g8 o6 ly ⟨rfl,rfl⟩
 have lA:sW w U dv [.blk bd 95 B8,.blk bb 95 B8,.blk bn 210 B7,.blk bm 28 B6] g8:=ly
 refine zZ rfl rfl rfl rfl (fun _=>(Runs.ixA (i:=1) rfl rfl (congrArg (jV) c2) Zw ZU (by decide) (by decide) (wCg yf ZU rfl))) (zW (cs:=[.nilFunc,.nilFunc,.nilFunc]) rfl rfl rfl rfl rfl Zl rfl lA ?_)
 intro pQ eL lB
 refine zY (j:=0) (vs:=B9) Z Z Z Z lB Z Z Z Z ZU (zA Z) Z Z Z ?_
 intro g9 lC
 have lD:sW w U dv [.blk eL 299 B9,.blk bd 95 B8,.blk bb 95 B8,.blk bn 210 B7,.blk bm 28 B6] g9:=lC
 refine zX ?_
 cases d7
 exact zG ⟨rfl,⟨dv,eL,rfl,rfl,rfl,rfl,rfl,o6,(lD.pick [1,2,3,4,0] _ (by decide) rfl)⟩⟩
 refine zW (cs:=[.nilFunc,.nilFunc,.nilFunc]) Z Z Z Z Z Zl Z cE ?_
 intro ib dH lE
 refine zM 0 Z Z Z Z (zK Z Z yS zP Z) lE (fun hs=>wBg ib U hs fj) (.inr Z) ?_
 rintro dw pm qx ic o7 lF ⟨rfl,rfl⟩
 have lG:sW w U dw [.blk dH 299 [.nilFunc,.nilFunc,.nilFunc],.blk bd 95 B8,.blk bb 95 B8,.blk bn 210 B7,.blk bm 28 B6] ic:=lF
 refine zZ rfl rfl rfl rfl (fun _=>(Runs.ixA (i:=1) rfl rfl (congrArg (jV) c2) Zw ZU (by decide) (by decide) (wCg yf ZU rfl))) (zY (j:=0) (vs:=B9) rfl rfl rfl rfl lG rfl rfl rfl rfl ZU (zA rfl) rfl rfl rfl ?_)
 intro ie lH
 have lI:sW w U dw [.blk dH 299 B9,.blk bd 95 B8,.blk bb 95 B8,.blk bn 210 B7,.blk bm 28 B6] ie:=lH
 refine zX ?_
 cases d7
 exact zG ⟨rfl,⟨dw,dH,rfl,rfl,rfl,rfl,rfl,o7,(lI.pick [1,2,3,4,0] _ (by decide) rfl)⟩⟩
 rintro qO ig ⟨gJ,bM,eY,dP,bY,bU,eZ,cX,cG⟩
 refine sR (wEc (.fx 4 (wQI gBk) .stop)) Z (oR Z (zH Z eZ yD Z Tryz.sizeOf296) (oL Z (cG.ldB (j:=4) Z Z Z Tryz.isAgg296 (v:=.func (.func 219) #[] #[]) Z) (oL Z (cG.ldBA (j:=3) Z Z eY ZH zu (vs:=B6) Z Z) (oL Z (cG.ldBA (j:=2) Z Z dP yO yH (vs:=B7) Z Z) ?_))))
 have fm:=cR.le cX
 have fq:=cS.le cX
 have ft:=cU.le cX
 have fu:=cV.le cX
 have q:=bnd fW
 obtain ⟨⟨dg,dh⟩,jC,fY⟩:=q
 try dsimp only at fY
 refine zM 0 Z Z Z Z (zK Z Z Tryz.call219 (zB Z (zB Z zP)) Z) cG (fun hs=>wIA p0 bE bI bF bJ bG bK bH bL p1 ig gJ hs fm fq ft fu jC) (.inr Z) ?_
 rintro cy pn qy ii cY lJ ⟨rfl,rfl⟩
 have lK:sW w U cy [.blk bd 95 B8,.blk bb 95 B8,.blk bn 210 B7,.blk bm 28 B6,.blk bM 299 B9] ii:=lJ
 refine oM Z Z (oR Z (zl Z Z (v:=.agg #[jV dg.skier,jV dg.mat]) Z) (oR Z (zl Z Z (v:=.agg #[jV dh.skier,jV dh.mat]) Z) ?_))
 let aq:List Value:=[jV dg.skier,jV dg.mat]
 refine zY (j:=1) (vs:=aq) Z Z Z Z lK Z bY Z Z zF (zA Z) Z Z Z ?_
 intro ij lL
 have lM:sW w U cy [.blk bd 95 B8,.blk bb 95 aq,.blk bn 210 B7,.blk bm 28 B6,.blk bM 299 B9] ij:=lL
 let ae:List Value:=[jV dh.skier,jV dh.mat]
 refine zY (j:=0) (vs:=ae) Z Z Z Z lM Z bU Z Z zF (zA Z) Z Z Z ?_
 intro eF lN
 have cH:sW w U cy [.blk bd 95 ae,.blk bb 95 aq,.blk bn 210 B7,.blk bm 28 B6,.blk bM 299 B9] eF:=lN
 refine eN (sR (wEc (.fx 4 (wMw (.nil)) .stop)) Z (oR Z (zH Z eZ yD Z Tryz.sizeOf297) (oL Z (cH.ldB (j:=4) Z Z Z Tryz.isAgg297 (v:=.func (.func 220) #[] #[]) Z) (oL Z (cH.ldBA (j:=3) Z Z eY ZH zu (vs:=B6) Z Z) (oL Z (cH.ldBA (j:=2) Z Z dP yO yH (vs:=B7) Z Z) ?_)))))
 have jD:=fm.le cY
 have jE:=fq.le cY
 have jG:=ft.le cY
 have jH:=fu.le cY
 have q:=bnd fY
 obtain ⟨⟨en,gF⟩,jJ,ga⟩:=q
 try dsimp only at ga
 refine zM 0 Z Z Z Z (zK Z Z Tryz.call220 (zB Z (zB Z zP)) Z) cH (fun hs=>wIB p0 bE bI bF bJ bG bK bH bL p1 eF cy hs jD jE jG jH jJ) (.inr Z) ?_
 rintro bR po qz dE qm lO ⟨rfl,rfl⟩
 have cq:sW w U bR [.blk bd 95 ae,.blk bb 95 aq,.blk bn 210 B7,.blk bm 28 B6,.blk bM 299 B9] dE:=lO
 refine oM Z Z (oR Z (zl Z Z (v:=jV en) Z) (oR Z (zl Z Z (v:=jV gF) Z) (oA Z Z (oA Z Z (eN (zI (sR fL3 Z (oR Z (zH Z dP zy Z Tryz.sizeOf4) (oL Z (cq.ldB (j:=2) Z Z Z Tryz.isAgg4 (v:=.bool p1.Up) Z) (oR Z (Zf Z Z) (eN (ifc ga ?_ ?_))))))))))))
 intro dM oH
 refine zo (nC dM.out) (kN ?_)
 have q:=bnd oH
 obtain ⟨⟨⟩,gB,gb⟩:=q
 try dsimp only at gb
 refine yA (fun σ_ w_=>∃ (U_:PHeap),σ_ 4=.pointer (some ⟨bb,0,none⟩)/\σ_ 5=.pointer (some ⟨bd,0,none⟩)/\σ_ 6=jV en/\PHeap.Le bR U_/\sW w U U_ [.blk bd 95 ae,.blk bb 95 aq,.blk bn 210 B7,.blk bm 28 B6,.blk bM 299 B9] w_) ?_ ?_
 refine zx zr [1,2,3,0,0,3] gCn (by kernel_rfl) ?_
 have cr:=cq.drew
 generalize hw_W295:({ dE with drawn:=dE.drawn + 1 }:World)=pR at cr ⊢
 refine oL Z (cr.ldBA (j:=1) Z Z bY zg zF (vs:=aq) Z Z) (oM Z Z (zk ?_ ?_))
 refine ZB Z Z Z Z (cr.ldBA (j:=0) Z Z bU zg zF (vs:=ae) Z Z) (zY (j:=1) (vs:=aq) Z Z Z Z cr Z bY Z Z zF (zA Z) Z Z Z ?_)
 intro ik lP
 have lQ:sW w U bR [.blk bd 95 ae,.blk bb 95 aq,.blk bn 210 B7,.blk bm 28 B6,.blk bM 299 B9] ik:=lP
 refine zY (j:=0) (vs:=ae) Z Z Z Z lQ Z bU Z Z zF (zA Z) Z Z Z ?_
 intro il lR
 have lS:sW w U bR [.blk bd 95 ae,.blk bb 95 aq,.blk bn 210 B7,.blk bm 28 B6,.blk bM 299 B9] il:=lR
 refine oA Z Z (zX ?_)
 cases gB
 exact zG ⟨Z,⟨bR,bY,bU,Z,(zL _),lS⟩⟩
 refine zY (j:=1) (vs:=aq) Z Z Z Z cr Z bY Z Z zF (zA Z) Z Z Z ?_
 intro im lT
 have fQ:sW w U bR [.blk bd 95 ae,.blk bb 95 aq,.blk bn 210 B7,.blk bm 28 B6,.blk bM 299 B9] im:=lT
 refine ZB Z Z Z Z (fQ.ldBA (j:=0) Z Z bU zg zF (vs:=ae) Z Z) (zY (j:=0) (vs:=ae) Z Z Z Z fQ Z bU Z Z zF (zA Z) Z Z Z ?_)
 intro io lU
 have lV:sW w U bR [.blk bd 95 ae,.blk bb 95 aq,.blk bn 210 B7,.blk bm 28 B6,.blk bM 299 B9] io:=lU
 refine oA Z Z (zX ?_)
 cases gB
 exact zG ⟨Z,⟨bR,bY,bU,Z,(zL _),lV⟩⟩
 rintro qP pS ⟨gK,jm,jo,jp,qn,dV⟩
 refine zV ?_
 cases gb
 exact ⟨rfl,_,(wEV (rs:=[.cell 4 95,.cell 5 95,.tmp 6]) (vs:=[.agg aq.toArray,.agg ae.toArray,jV en]) ⟨⟨_,jm,(wBX zg zF (dV.blkAt (k:=1) rfl) (vs:=aq) rfl rfl)⟩,⟨⟨_,jo,(wBX zg zF (dV.blkAt (k:=0) rfl) (vs:=ae) rfl rfl)⟩,⟨jp,trivial⟩⟩⟩ rfl),gK,_,(dV.pick [] _ (by decide) rfl),rfl,rfl⟩
 intro dM oI
 refine ZI (nF (dM.out)) (sR (wEU gBu) Z (oL Z (cq.ldBA (j:=0) Z Z bU zg zF (vs:=ae) Z Z) (oL Z (cq.ldBA (j:=1) Z Z bY zg zF (vs:=aq) Z Z) (oM Z Z (zY (j:=1) (vs:=ae) Z Z Z Z cq Z bY Z Z zF (zA Z) Z Z Z ?_)))))
 intro ip lW
 have lX:sW w U bR [.blk bd 95 ae,.blk bb 95 ae,.blk bn 210 B7,.blk bm 28 B6,.blk bM 299 B9] ip:=lW
 refine zY (j:=0) (vs:=aq) Z Z Z Z lX Z bU Z Z zF (zA Z) Z Z Z ?_
 intro iq lY
 have dW:sW w U bR [.blk bd 95 aq,.blk bb 95 ae,.blk bn 210 B7,.blk bm 28 B6,.blk bM 299 B9] iq:=lY
 refine oA Z Z (eN (zV (zR ?_)))
 cases oI
 exact ⟨rfl,_,(wEV (rs:=[.cell 4 95,.cell 5 95,.tmp 6]) (vs:=[.agg ae.toArray,.agg aq.toArray,jV gF]) ⟨⟨_,bY,(wBX zg zF (dW.blkAt (k:=1) rfl) (vs:=ae) rfl rfl)⟩,⟨⟨_,bU,(wBX zg zF (dW.blkAt (k:=0) rfl) (vs:=aq) rfl rfl)⟩,⟨rfl,trivial⟩⟩⟩ rfl),bR,_,(dW.pick [] _ (by decide) rfl),rfl,rfl⟩
 by_cases c3:p1.Kind=2
 have ge:=hm;rw [if_neg c1,if_neg c2,if_pos c3] at ge
 refine sR gCh Z ?_
 let au:List Value:=[.slice bE p0.Starts.length bI,.slice bF p0.Splits.length bJ,.slice bG p0.Clocks.length bK,.slice bH p0.Readings.length bL]
 refine ZK (cs:=au) rfl rfl rfl rfl rfl rfl (by rfl) hS ?_
 intro pT bo lZ
 let av:List Value:=[jV p1.Kind,jV p1.Skier,jV p1.Index,.bool p1.Up]
 refine ZK (cs:=av) rfl rfl rfl rfl rfl rfl (by rfl) lZ ?_
 intro pU bp l4
 let bA:List Value:=[jV 0,jV 0]
 refine zW (cs:=bA) Z Z Z Z Z zh Z l4 ?_
 intro pV bg l5
 refine zW (cs:=bA) Z Z Z Z Z zh Z l5 ?_
 intro eG bh l6
 refine oA Z Z (eN ?_)
 have q:=bnd ge
 obtain ⟨⟨⟩,o3,gf⟩:=q
 try dsimp only at gf
 let bu:List Value:=[.func (.func 221) #[] #[],.func (.func 222) #[] #[],.func (.func 224) #[] #[]]
 refine yA (fun σ_ w_=>∃ (U_:PHeap) (bO:Nat),σ_ 2=.pointer (some ⟨bo,0,none⟩)/\σ_ 3=.pointer (some ⟨bp,0,none⟩)/\σ_ 4=.pointer (some ⟨bg,0,none⟩)/\σ_ 5=.pointer (some ⟨bh,0,none⟩)/\σ_ 7=.pointer (some ⟨bO,0,none⟩)/\PHeap.Le U U_/\sW w U U_ [.blk bh 95 bA,.blk bg 95 bA,.blk bp 210 av,.blk bo 28 au,.blk bO 299 bu] w_) ?_ ?_
 have q:=bnd o3
 obtain ⟨⟨⟩,fy,d9⟩:=q
 try dsimp only at d9
 refine zx zr [2,3,1,3,2,0] gCm (by kernel_rfl) ?_
 have cI:=l6.drew
 generalize hw_W363:({ eG with drawn:=eG.drawn + 1 }:World)=ir at cI ⊢
 refine oR Z (zH Z Z zy Z Tryz.sizeOf208) (oL Z (cI.ldB (j:=2) Z Z Z Tryz.isAgg208 (v:=jV p1.Kind) Z) (zk ?_ ?_))
 refine zM 0 Z Z Z Z (zK Z Z yS zP Z) cI (fun hs=>wBg ir U hs fy) (.inr Z) ?_
 rintro dx pp qA it o8 ma ⟨rfl,rfl⟩
 have mb:sW w U dx [.blk bh 95 bA,.blk bg 95 bA,.blk bp 210 av,.blk bo 28 au] it:=ma
 refine zZ rfl rfl rfl rfl (fun _=>(Runs.ixA (i:=2) rfl rfl (congrArg (jV) c3) Zw ZU (by decide) (by decide) (wCg yf ZU rfl))) (zW (cs:=[.nilFunc,.nilFunc,.nilFunc]) rfl rfl rfl rfl rfl Zl rfl mb ?_)
 intro pW eM mc
 refine zY (j:=0) (vs:=bu) Z Z Z Z mc Z Z Z Z ZU (zA Z) Z Z Z ?_
 intro iu md
 have me:sW w U dx [.blk eM 299 bu,.blk bh 95 bA,.blk bg 95 bA,.blk bp 210 av,.blk bo 28 au] iu:=md
 refine zX ?_
 cases d9
 exact zG ⟨rfl,⟨dx,eM,rfl,rfl,rfl,rfl,rfl,o8,(me.pick [1,2,3,4,0] _ (by decide) rfl)⟩⟩
 refine zW (cs:=[.nilFunc,.nilFunc,.nilFunc]) Z Z Z Z Z Zl Z cI ?_
 intro iv dI mf
 refine zM 0 Z Z Z Z (zK Z Z yS zP Z) mf (fun hs=>wBg iv U hs fy) (.inr Z) ?_
 rintro dy pq qB iw o9 mg ⟨rfl,rfl⟩
 have mh:sW w U dy [.blk dI 299 [.nilFunc,.nilFunc,.nilFunc],.blk bh 95 bA,.blk bg 95 bA,.blk bp 210 av,.blk bo 28 au] iw:=mg
 refine zZ rfl rfl rfl rfl (fun _=>(Runs.ixA (i:=2) rfl rfl (congrArg (jV) c3) Zw ZU (by decide) (by decide) (wCg yf ZU rfl))) (zY (j:=0) (vs:=bu) rfl rfl rfl rfl mh rfl rfl rfl rfl ZU (zA rfl) rfl rfl rfl ?_)
 intro iz mi
 have mj:sW w U dy [.blk dI 299 bu,.blk bh 95 bA,.blk bg 95 bA,.blk bp 210 av,.blk bo 28 au] iz:=mi
 refine zX ?_
 cases d9
 exact zG ⟨rfl,⟨dy,dI,rfl,rfl,rfl,rfl,rfl,o9,(mj.pick [1,2,3,4,0] _ (by decide) rfl)⟩⟩
 rintro qQ iA ⟨gL,bO,fb,dQ,bZ,bV,fc,cZ,cJ⟩
 refine sR (wEc (.fx 4 (wQI gBk) .stop)) Z (oR Z (zH Z fc yD Z Tryz.sizeOf296) (oL Z (cJ.ldB (j:=4) Z Z Z Tryz.isAgg296 (v:=.func (.func 222) #[] #[]) Z) (oL Z (cJ.ldBA (j:=3) Z Z fb ZH zu (vs:=au) Z Z) (oL Z (cJ.ldBA (j:=2) Z Z dQ yO yH (vs:=av) Z Z) ?_))))
 have fz:=cR.le cZ
 have fA:=cS.le cZ
 have fB:=cU.le cZ
 have fC:=cV.le cZ
 have q:=bnd gf
 obtain ⟨⟨dk,dl⟩,jK,gg⟩:=q
 try dsimp only at gg
 refine zM 0 Z Z Z Z (zK Z Z Tryz.call222 (zB Z (zB Z zP)) Z) cJ (fun hs=>wIC p0 bE bI bF bJ bG bK bH bL p1 iA gL hs fz fA fB fC jK) (.inr Z) ?_
 rintro cz pu qC iB da ml ⟨rfl,rfl⟩
 have mo:sW w U cz [.blk bh 95 bA,.blk bg 95 bA,.blk bp 210 av,.blk bo 28 au,.blk bO 299 bu] iB:=ml
 refine oM Z Z (oR Z (zl Z Z (v:=.agg #[jV dk.skier,jV dk.mat]) Z) (oR Z (zl Z Z (v:=.agg #[jV dl.skier,jV dl.mat]) Z) ?_))
 let az:List Value:=[jV dk.skier,jV dk.mat]
 refine zY (j:=1) (vs:=az) Z Z Z Z mo Z bZ Z Z zF (zA Z) Z Z Z ?_
 intro iC mp
 have mq:sW w U cz [.blk bh 95 bA,.blk bg 95 az,.blk bp 210 av,.blk bo 28 au,.blk bO 299 bu] iC:=mp
 let ai:List Value:=[jV dl.skier,jV dl.mat]
 refine zY (j:=0) (vs:=ai) Z Z Z Z mq Z bV Z Z zF (zA Z) Z Z Z ?_
 intro eH mr
 have cK:sW w U cz [.blk bh 95 ai,.blk bg 95 az,.blk bp 210 av,.blk bo 28 au,.blk bO 299 bu] eH:=mr
 refine eN (sR (wEc (.fx 4 (wMw (.nil)) .stop)) Z (oR Z (zH Z fc yD Z Tryz.sizeOf297) (oL Z (cK.ldB (j:=4) Z Z Z Tryz.isAgg297 (v:=.func (.func 224) #[] #[]) Z) (oL Z (cK.ldBA (j:=3) Z Z fb ZH zu (vs:=au) Z Z) (oL Z (cK.ldBA (j:=2) Z Z dQ yO yH (vs:=av) Z Z) ?_)))))
 have jL:=fz.le da
 have jM:=fA.le da
 have jN:=fB.le da
 have jO:=fC.le da
 have q:=bnd gg
 obtain ⟨⟨eu,gG⟩,jP,gh⟩:=q
 try dsimp only at gh
 refine zM 0 Z Z Z Z (zK Z Z Tryz.call224 (zB Z (zB Z zP)) Z) cK (fun hs=>wID p0 bE bI bF bJ bG bK bH bL p1 eH cz hs jL jM jN jO jP) (.inr Z) ?_
 rintro bS py qD dF qo ms ⟨rfl,rfl⟩
 have ct:sW w U bS [.blk bh 95 ai,.blk bg 95 az,.blk bp 210 av,.blk bo 28 au,.blk bO 299 bu] dF:=ms
 refine oM Z Z (oR Z (zl Z Z (v:=jV eu) Z) (oR Z (zl Z Z (v:=jV gG) Z) (oA Z Z (oA Z Z (eN (zI (sR fL3 Z (oR Z (zH Z dQ zy Z Tryz.sizeOf4) (oL Z (ct.ldB (j:=2) Z Z Z Tryz.isAgg4 (v:=.bool p1.Up) Z) (oR Z (Zf Z Z) (eN (ifc gh ?_ ?_))))))))))))
 intro dN oK
 refine zo (nC dN.out) (kN ?_)
 have q:=bnd oK
 obtain ⟨⟨⟩,gC,gi⟩:=q
 try dsimp only at gi
 refine yA (fun σ_ w_=>∃ (U_:PHeap),σ_ 4=.pointer (some ⟨bg,0,none⟩)/\σ_ 5=.pointer (some ⟨bh,0,none⟩)/\σ_ 6=jV eu/\PHeap.Le bS U_/\sW w U U_ [.blk bh 95 ai,.blk bg 95 az,.blk bp 210 av,.blk bo 28 au,.blk bO 299 bu] w_) ?_ ?_
 refine zx zr [1,2,3,0,0,3] gCn (by kernel_rfl) ?_
 have cu:=ct.drew
 generalize hw_W454:({ dF with drawn:=dF.drawn + 1 }:World)=pX at cu ⊢
 refine oL Z (cu.ldBA (j:=1) Z Z bZ zg zF (vs:=az) Z Z) (oM Z Z (zk ?_ ?_))
 refine ZB Z Z Z Z (cu.ldBA (j:=0) Z Z bV zg zF (vs:=ai) Z Z) (zY (j:=1) (vs:=az) Z Z Z Z cu Z bZ Z Z zF (zA Z) Z Z Z ?_)
 intro iE mu
 have mw:sW w U bS [.blk bh 95 ai,.blk bg 95 az,.blk bp 210 av,.blk bo 28 au,.blk bO 299 bu] iE:=mu
 refine zY (j:=0) (vs:=ai) Z Z Z Z mw Z bV Z Z zF (zA Z) Z Z Z ?_
 intro iF my
 have mz:sW w U bS [.blk bh 95 ai,.blk bg 95 az,.blk bp 210 av,.blk bo 28 au,.blk bO 299 bu] iF:=my
 refine oA Z Z (zX ?_)
 cases gC
 exact zG ⟨Z,⟨bS,bZ,bV,Z,(zL _),mz⟩⟩
 refine zY (j:=1) (vs:=az) Z Z Z Z cu Z bZ Z Z zF (zA Z) Z Z Z ?_
 intro iG mA
 have fR:sW w U bS [.blk bh 95 ai,.blk bg 95 az,.blk bp 210 av,.blk bo 28 au,.blk bO 299 bu] iG:=mA
 refine ZB Z Z Z Z (fR.ldBA (j:=0) Z Z bV zg zF (vs:=ai) Z Z) (zY (j:=0) (vs:=ai) Z Z Z Z fR Z bV Z Z zF (zA Z) Z Z Z ?_)
 intro iH mB
 have mC:sW w U bS [.blk bh 95 ai,.blk bg 95 az,.blk bp 210 av,.blk bo 28 au,.blk bO 299 bu] iH:=mB
 refine oA Z Z (zX ?_)
 cases gC
 exact zG ⟨Z,⟨bS,bZ,bV,Z,(zL _),mC⟩⟩
 rintro qR pY ⟨gM,jq,jr,jt,qp,dX⟩
 refine zV ?_
 cases gi
 exact ⟨rfl,_,(wEV (rs:=[.cell 4 95,.cell 5 95,.tmp 6]) (vs:=[.agg az.toArray,.agg ai.toArray,jV eu]) ⟨⟨_,jq,(wBX zg zF (dX.blkAt (k:=1) rfl) (vs:=az) rfl rfl)⟩,⟨⟨_,jr,(wBX zg zF (dX.blkAt (k:=0) rfl) (vs:=ai) rfl rfl)⟩,⟨jt,trivial⟩⟩⟩ rfl),gM,_,(dX.pick [] _ (by decide) rfl),rfl,rfl⟩
 intro dN oO
 refine ZI (nF (dN.out)) (sR (wEU gBu) Z (oL Z (ct.ldBA (j:=0) Z Z bV zg zF (vs:=ai) Z Z) (oL Z (ct.ldBA (j:=1) Z Z bZ zg zF (vs:=az) Z Z) (oM Z Z (zY (j:=1) (vs:=ai) Z Z Z Z ct Z bZ Z Z zF (zA Z) Z Z Z ?_)))))
 intro iI mD
 have mE:sW w U bS [.blk bh 95 ai,.blk bg 95 ai,.blk bp 210 av,.blk bo 28 au,.blk bO 299 bu] iI:=mD
 refine zY (j:=0) (vs:=az) Z Z Z Z mE Z bV Z Z zF (zA Z) Z Z Z ?_
 intro iJ mF
 have dY:sW w U bS [.blk bh 95 az,.blk bg 95 ai,.blk bp 210 av,.blk bo 28 au,.blk bO 299 bu] iJ:=mF
 refine oA Z Z (eN (zV (zR ?_)))
 cases oO
 exact ⟨rfl,_,(wEV (rs:=[.cell 4 95,.cell 5 95,.tmp 6]) (vs:=[.agg ai.toArray,.agg az.toArray,jV gG]) ⟨⟨_,bZ,(wBX zg zF (dY.blkAt (k:=1) rfl) (vs:=ai) rfl rfl)⟩,⟨⟨_,bV,(wBX zg zF (dY.blkAt (k:=0) rfl) (vs:=az) rfl rfl)⟩,⟨rfl,trivial⟩⟩⟩ rfl),bS,_,(dY.pick [] _ (by decide) rfl),rfl,rfl⟩
 by_cases c4:p1.Kind=3
 have gj:=hm;rw [if_neg c1,if_neg c2,if_neg c3,if_pos c4] at gj
 refine sR gCh Z ?_
 let aU:List Value:=[.slice bE p0.Starts.length bI,.slice bF p0.Splits.length bJ,.slice bG p0.Clocks.length bK,.slice bH p0.Readings.length bL]
 refine ZK (cs:=aU) rfl rfl rfl rfl rfl rfl (by rfl) hS ?_
 intro pZ bq mG
 let aV:List Value:=[jV p1.Kind,jV p1.Skier,jV p1.Index,.bool p1.Up]
 refine ZK (cs:=aV) rfl rfl rfl rfl rfl rfl (by rfl) mG ?_
 intro p6 br mH
 let bC:List Value:=[jV 0,jV 0]
 refine zW (cs:=bC) Z Z Z Z Z zh Z mH ?_
 intro p7 bi mI
 refine zW (cs:=bC) Z Z Z Z Z zh Z mI ?_
 intro eI bj mJ
 refine oA Z Z (eN ?_)
 have q:=bnd gj
 obtain ⟨⟨⟩,o5,gq⟩:=q
 try dsimp only at gq
 let bv:List Value:=[.func (.func 225) #[] #[],.func (.func 226) #[] #[],.func (.func 227) #[] #[]]
 refine yA (fun σ_ w_=>∃ (U_:PHeap) (bP:Nat),σ_ 2=.pointer (some ⟨bq,0,none⟩)/\σ_ 3=.pointer (some ⟨br,0,none⟩)/\σ_ 4=.pointer (some ⟨bi,0,none⟩)/\σ_ 5=.pointer (some ⟨bj,0,none⟩)/\σ_ 7=.pointer (some ⟨bP,0,none⟩)/\PHeap.Le U U_/\sW w U U_ [.blk bj 95 bC,.blk bi 95 bC,.blk br 210 aV,.blk bq 28 aU,.blk bP 299 bv] w_) ?_ ?_
 have q:=bnd o5
 obtain ⟨⟨⟩,fD,ef⟩:=q
 try dsimp only at ef
 refine zx zr [2,3,1,3,2,0] gCm (by kernel_rfl) ?_
 have cM:=mJ.drew
 generalize hw_W522:({ eI with drawn:=eI.drawn + 1 }:World)=iL at cM ⊢
 refine oR Z (zH Z Z zy Z Tryz.sizeOf208) (oL Z (cM.ldB (j:=2) Z Z Z Tryz.isAgg208 (v:=jV p1.Kind) Z) (zk ?_ ?_))
 refine zM 0 Z Z Z Z (zK Z Z yS zP Z) cM (fun hs=>wBg iL U hs fD) (.inr Z) ?_
 rintro dA pB qF iM pf mM ⟨rfl,rfl⟩
 have mN:sW w U dA [.blk bj 95 bC,.blk bi 95 bC,.blk br 210 aV,.blk bq 28 aU] iM:=mM
 refine zZ rfl rfl rfl rfl (fun _=>(Runs.ixA (i:=3) rfl rfl (congrArg (jV) c4) Zw ZU (by decide) (by decide) (wCg yf ZU rfl))) (zW (cs:=[.nilFunc,.nilFunc,.nilFunc]) rfl rfl rfl rfl rfl Zl rfl mN ?_)
 intro p9 eO mO
 refine zY (j:=0) (vs:=bv) Z Z Z Z mO Z Z Z Z ZU (zA Z) Z Z Z ?_
 intro iN mP
 have mQ:sW w U dA [.blk eO 299 bv,.blk bj 95 bC,.blk bi 95 bC,.blk br 210 aV,.blk bq 28 aU] iN:=mP
 refine zX ?_
 cases ef
 exact zG ⟨rfl,⟨dA,eO,rfl,rfl,rfl,rfl,rfl,pf,(mQ.pick [1,2,3,4,0] _ (by decide) rfl)⟩⟩
 refine zW (cs:=[.nilFunc,.nilFunc,.nilFunc]) Z Z Z Z Z Zl Z cM ?_
 intro iO dJ mR
 refine zM 0 Z Z Z Z (zK Z Z yS zP Z) mR (fun hs=>wBg iO U hs fD) (.inr Z) ?_
 rintro dB pC qG iP pg mS ⟨rfl,rfl⟩
 have mT:sW w U dB [.blk dJ 299 [.nilFunc,.nilFunc,.nilFunc],.blk bj 95 bC,.blk bi 95 bC,.blk br 210 aV,.blk bq 28 aU] iP:=mS
 refine zZ rfl rfl rfl rfl (fun _=>(Runs.ixA (i:=3) rfl rfl (congrArg (jV) c4) Zw ZU (by decide) (by decide) (wCg yf ZU rfl))) (zY (j:=0) (vs:=bv) rfl rfl rfl rfl mT rfl rfl rfl rfl ZU (zA rfl) rfl rfl rfl ?_)
 intro iQ mV
 have mW:sW w U dB [.blk dJ 299 bv,.blk bj 95 bC,.blk bi 95 bC,.blk br 210 aV,.blk bq 28 aU] iQ:=mV
 refine zX ?_
 cases ef
 exact zG ⟨rfl,⟨dB,dJ,rfl,rfl,rfl,rfl,rfl,pg,(mW.pick [1,2,3,4,0] _ (by decide) rfl)⟩⟩
 rintro qS iR ⟨gN,bP,fd,dR,cb,bW,ff,db,cN⟩
 refine sR (wEc (.fx 4 (wQI gBk) .stop)) Z (oR Z (zH Z ff yD Z Tryz.sizeOf296) (oL Z (cN.ldB (j:=4) Z Z Z Tryz.isAgg296 (v:=.func (.func 226) #[] #[]) Z) (oL Z (cN.ldBA (j:=3) Z Z fd ZH zu (vs:=aU) Z Z) (oL Z (cN.ldBA (j:=2) Z Z dR yO yH (vs:=aV) Z Z) ?_))))
 have fE:=cR.le db
 have fG:=cS.le db
 have fH:=cU.le db
 have fJ:=cV.le db
 have q:=bnd gq
 obtain ⟨⟨dm,dp⟩,jQ,gt⟩:=q
 try dsimp only at gt
 refine zM 0 Z Z Z Z (zK Z Z Tryz.call226 (zB Z (zB Z zP)) Z) cN (fun hs=>wHd p0 bE bI bF bJ bG bK bH bL p1 iR gN hs fE fG fH fJ jQ) (.inr Z) ?_
 rintro cA pD qH iU de mX ⟨rfl,rfl⟩
 have mY:sW w U cA [.blk bj 95 bC,.blk bi 95 bC,.blk br 210 aV,.blk bq 28 aU,.blk bP 299 bv] iU:=mX
 refine oM Z Z (oR Z (zl Z Z (v:=.agg #[jV dm.skier,jV dm.mat]) Z) (oR Z (zl Z Z (v:=.agg #[jV dp.skier,jV dp.mat]) Z) ?_))
 let aW:List Value:=[jV dm.skier,jV dm.mat]
 refine zY (j:=1) (vs:=aW) Z Z Z Z mY Z cb Z Z zF (zA Z) Z Z Z ?_
 intro iV m4
 have m5:sW w U cA [.blk bj 95 bC,.blk bi 95 aW,.blk br 210 aV,.blk bq 28 aU,.blk bP 299 bv] iV:=m4
 let aj:List Value:=[jV dp.skier,jV dp.mat]
 refine zY (j:=0) (vs:=aj) Z Z Z Z m5 Z bW Z Z zF (zA Z) Z Z Z ?_
 intro eJ m6
 have cO:sW w U cA [.blk bj 95 aj,.blk bi 95 aW,.blk br 210 aV,.blk bq 28 aU,.blk bP 299 bv] eJ:=m6
 refine eN (sR (wEc (.fx 4 (wMw (.nil)) .stop)) Z (oR Z (zH Z ff yD Z Tryz.sizeOf297) (oL Z (cO.ldB (j:=4) Z Z Z Tryz.isAgg297 (v:=.func (.func 227) #[] #[]) Z) (oL Z (cO.ldBA (j:=3) Z Z fd ZH zu (vs:=aU) Z Z) (oL Z (cO.ldBA (j:=2) Z Z dR yO yH (vs:=aV) Z Z) ?_)))))
 have jR:=fE.le de
 have jS:=fG.le de
 have jU:=fH.le de
 have jW:=fJ.le de
 have q:=bnd gt
 obtain ⟨⟨ez,gH⟩,jX,gu⟩:=q
 try dsimp only at gu
 refine zM 0 Z Z Z Z (zK Z Z Tryz.call227 (zB Z (zB Z zP)) Z) cO (fun hs=>wHe p0 bE bI bF bJ bG bK bH bL p1 eJ cA hs jR jS jU jW jX) (.inr Z) ?_
 rintro bT pE qI dG qq m8 ⟨rfl,rfl⟩
 have cw:sW w U bT [.blk bj 95 aj,.blk bi 95 aW,.blk br 210 aV,.blk bq 28 aU,.blk bP 299 bv] dG:=m8
 refine oM Z Z (oR Z (zl Z Z (v:=jV ez) Z) (oR Z (zl Z Z (v:=jV gH) Z) (oA Z Z (oA Z Z (eN (zI (sR fL3 Z (oR Z (zH Z dR zy Z Tryz.sizeOf4) (oL Z (cw.ldB (j:=2) Z Z Z Tryz.isAgg4 (v:=.bool p1.Up) Z) (oR Z (Zf Z Z) (eN (ifc gu ?_ ?_))))))))))))
 intro dO oP
 refine zo (nC dO.out) (kN ?_)
 have q:=bnd oP
 obtain ⟨⟨⟩,gD,gv⟩:=q
 try dsimp only at gv
 refine yA (fun σ_ w_=>∃ (U_:PHeap),σ_ 4=.pointer (some ⟨bi,0,none⟩)/\σ_ 5=.pointer (some ⟨bj,0,none⟩)/\σ_ 6=jV ez/\PHeap.Le bT U_/\sW w U U_ [.blk bj 95 aj,.blk bi 95 aW,.blk br 210 aV,.blk bq 28 aU,.blk bP 299 bv] w_) ?_ ?_
 refine zx zr [1,2,3,0,0,3] gCn (by kernel_rfl) ?_
 have cx:=cw.drew
 generalize hw_W613:({ dG with drawn:=dG.drawn + 1 }:World)=qb at cx ⊢
 refine oL Z (cx.ldBA (j:=1) Z Z cb zg zF (vs:=aW) Z Z) (oM Z Z (zk ?_ ?_))
 refine ZB Z Z Z Z (cx.ldBA (j:=0) Z Z bW zg zF (vs:=aj) Z Z) (zY (j:=1) (vs:=aW) Z Z Z Z cx Z cb Z Z zF (zA Z) Z Z Z ?_)
 intro iW m9
 have n5:sW w U bT [.blk bj 95 aj,.blk bi 95 aW,.blk br 210 aV,.blk bq 28 aU,.blk bP 299 bv] iW:=m9
 refine zY (j:=0) (vs:=aj) Z Z Z Z n5 Z bW Z Z zF (zA Z) Z Z Z ?_
 intro iX n6
 have n7:sW w U bT [.blk bj 95 aj,.blk bi 95 aW,.blk br 210 aV,.blk bq 28 aU,.blk bP 299 bv] iX:=n6
 refine oA Z Z (zX ?_)
 cases gD
 exact zG ⟨Z,⟨bT,cb,bW,Z,(zL _),n7⟩⟩
 refine zY (j:=1) (vs:=aW) Z Z Z Z cx Z cb Z Z zF (zA Z) Z Z Z ?_
 intro iZ n8
 have fS:sW w U bT [.blk bj 95 aj,.blk bi 95 aW,.blk br 210 aV,.blk bq 28 aU,.blk bP 299 bv] iZ:=n8
 refine ZB Z Z Z Z (fS.ldBA (j:=0) Z Z bW zg zF (vs:=aj) Z Z) (zY (j:=0) (vs:=aj) Z Z Z Z fS Z bW Z Z zF (zA Z) Z Z Z ?_)
 intro i7 n9
 have oa:sW w U bT [.blk bj 95 aj,.blk bi 95 aW,.blk br 210 aV,.blk bq 28 aU,.blk bP 299 bv] i7:=n9
 refine oA Z Z (zX ?_)
 cases gD
 exact zG ⟨Z,⟨bT,cb,bW,Z,(zL _),oa⟩⟩
 rintro qT qc ⟨gO,ju,jv,jw,qr,dZ⟩
 refine zV ?_
 cases gv
 exact ⟨rfl,_,(wEV (rs:=[.cell 4 95,.cell 5 95,.tmp 6]) (vs:=[.agg aW.toArray,.agg aj.toArray,jV ez]) ⟨⟨_,ju,(wBX zg zF (dZ.blkAt (k:=1) rfl) (vs:=aW) rfl rfl)⟩,⟨⟨_,jv,(wBX zg zF (dZ.blkAt (k:=0) rfl) (vs:=aj) rfl rfl)⟩,⟨jw,trivial⟩⟩⟩ rfl),gO,_,(dZ.pick [] _ (by decide) rfl),rfl,rfl⟩
 intro dO oU
 refine ZI (nF (dO.out)) (sR (wEU gBu) Z (oL Z (cw.ldBA (j:=0) Z Z bW zg zF (vs:=aj) Z Z) (oL Z (cw.ldBA (j:=1) Z Z cb zg zF (vs:=aW) Z Z) (oM Z Z (zY (j:=1) (vs:=aj) Z Z Z Z cw Z cb Z Z zF (zA Z) Z Z Z ?_)))))
 intro i8 oc
 have od:sW w U bT [.blk bj 95 aj,.blk bi 95 aj,.blk br 210 aV,.blk bq 28 aU,.blk bP 299 bv] i8:=oc
 refine zY (j:=0) (vs:=aW) Z Z Z Z od Z bW Z Z zF (zA Z) Z Z Z ?_
 intro i9 oe
 have d5:sW w U bT [.blk bj 95 aW,.blk bi 95 aj,.blk br 210 aV,.blk bq 28 aU,.blk bP 299 bv] i9:=oe
 refine oA Z Z (eN (zV (zR ?_)))
 cases oU
 exact ⟨rfl,_,(wEV (rs:=[.cell 4 95,.cell 5 95,.tmp 6]) (vs:=[.agg aj.toArray,.agg aW.toArray,jV gH]) ⟨⟨_,cb,(wBX zg zF (d5.blkAt (k:=1) rfl) (vs:=aj) rfl rfl)⟩,⟨⟨_,bW,(wBX zg zF (d5.blkAt (k:=0) rfl) (vs:=aW) rfl rfl)⟩,⟨rfl,trivial⟩⟩⟩ rfl),bT,_,(d5.pick [] _ (by decide) rfl),rfl,rfl⟩
 have gw:=hm;rw [if_neg c1,if_neg c2,if_neg c3,if_neg c4] at gw
 refine sR gCh Z ?_
 let dt:List Value:=[.slice bE p0.Starts.length bI,.slice bF p0.Splits.length bJ,.slice bG p0.Clocks.length bK,.slice bH p0.Readings.length bL]
 refine ZK (cs:=dt) rfl rfl rfl rfl rfl rfl (by rfl) hS ?_
 intro qd eU oh
 let du:List Value:=[jV p1.Kind,jV p1.Skier,jV p1.Index,.bool p1.Up]
 refine ZK (cs:=du) rfl rfl rfl rfl rfl rfl (by rfl) oh ?_
 intro qe eV oi
 let ci:List Value:=[jV 0,jV 0]
 refine zW (cs:=ci) Z Z Z Z Z zh Z oi ?_
 intro qf eW oj
 refine zW (cs:=ci) Z Z Z Z Z zh Z oj ?_
 intro eK eX ol
 refine oA Z Z (eN (zI ?_))
 have q:=bnd gw
 obtain ⟨⟨⟩,fK,eg⟩:=q
 try dsimp only at eg
 refine zx zr [2,3,1,3,2,0] gCm (by kernel_rfl) ?_
 have cP:=ol.drew
 generalize hw_W669:({ eK with drawn:=eK.drawn + 1 }:World)=ja at cP ⊢
 refine oR Z (zH Z Z zy Z Tryz.sizeOf208) (oL Z (cP.ldB (j:=2) Z Z Z Tryz.isAgg208 (v:=jV p1.Kind) Z) (zk ?_ ?_))
 refine zM 0 Z Z Z Z (zK Z Z yS zP Z) cP (fun hs=>wBg ja U hs fK) (.inr Z) ?_
 rintro gP pG qJ jb qt om ⟨rfl,rfl⟩
 have qh:sW w U gP [.blk eX 95 ci,.blk eW 95 ci,.blk eV 210 du,.blk eU 28 dt] jb:=om
 cases eg
 refine zW (cs:=[.nilFunc,.nilFunc,.nilFunc]) Z Z Z Z Z Zl Z cP ?_
 intro jc ji oq
 refine zM 0 Z Z Z Z (zK Z Z yS zP Z) oq (fun hs=>wBg jc U hs fK) (.inr Z) ?_
 rintro gQ pH qL jd qu ot ⟨rfl,rfl⟩
 have qi:sW w U gQ [.blk ji 299 [.nilFunc,.nilFunc,.nilFunc],.blk eX 95 ci,.blk eW 95 ci,.blk eV 210 du,.blk eU 28 dt] jd:=ot
 cases eg
end Go.Proofs.YtkedcbligiebkaaGreat
namespace Go.Proofs.YtkedcbligiebkaaGreat
open Go.KL
set_option maxHeartbeats 4000000
theorem wIz (p0:wAD) (ak:Option Addr) (au:Nat) (am:Option Addr) (av:Nat) (ap:Option Addr) (az:Nat) (aq:Option Addr) (aU:Nat) (w:World) (U:PHeap) (hS:St0 w U []) (rN:Sl U 1 ak au p0.Starts.length (hH KL.encI p0.Starts)) (rO:Sl U 2 am av p0.Splits.length (hH wAL p0.Splits)) (rQ:Sl U 3 ap az p0.Clocks.length (hH wAA p0.Clocks)) (rS:Sl U 4 aq aU p0.Readings.length (hH wAJ p0.Readings)) {r:wAj} (hm:wDE p0=some r):Gv Tryz.prog 104 [.agg #[.slice ak p0.Starts.length au,.slice am p0.Splits.length av,.slice ap p0.Clocks.length az,.slice aq p0.Readings.length aU]] w (wCW w [] U (fun U_ L_ v=>∃ (b0:Nat) (A0p00:Option Addr) (c0p00:Nat) (A0p01:Option Addr) (c0p01:Nat) (A0p02:Option Addr) (c0p02:Nat) (A0p03:Option Addr) (c0p03:Nat) (m0p1:Nat) (es0p1:Array MapEntry) (ck0p1:Nat) (A0p2:Option Addr) (c0p2:Nat),v=.pointer (some ⟨b0,0,none⟩)/\L_=[.blk b0 146 [.slice A0p00 r.Race.Starts.length c0p00,.slice A0p01 r.Race.Splits.length c0p01,.slice A0p02 r.Race.Clocks.length c0p02,.slice A0p03 r.Race.Readings.length c0p03,.map (some m0p1),.slice A0p2 r.edges.length c0p2],.obj m0p1 (.map es0p1 ck0p1),.row A0p2 c0p2 212 7 (hH wAY r.edges)]/\Sl U_ 1 A0p00 c0p00 r.Race.Starts.length (hH KL.encI r.Race.Starts)/\Sl U_ 2 A0p01 c0p01 r.Race.Splits.length (hH wAL r.Race.Splits)/\Sl U_ 3 A0p02 c0p02 r.Race.Clocks.length (hH wAA r.Race.Clocks)/\Sl U_ 4 A0p03 c0p03 r.Race.Readings.length (hH wAJ r.Race.Readings)/\MpR es0p1 wBO wBR r.number)):=by
 unfold wDE at hm
 refine Go.KX.Gv.ofM Tryz.func104 Z Tryz.ntmps104 Tryz.results104 (zA Z) (sR gBd Z ?_)
 let B0:List Value:=[.slice ak p0.Starts.length au,.slice am p0.Splits.length av,.slice ap p0.Clocks.length az,.slice aq p0.Readings.length aU]
 refine ZK (cs:=B0) rfl rfl rfl rfl rfl rfl (by rfl) hS ?_
 intro W1 b2 qK
 refine oA Z Z (eN (bnK hm fun jN sq rX=>yA (fun σ_ w_=>∃ (U_:PHeap) (b6:Nat) (b8:Nat) (aj:Nat) (cC:Array MapEntry) (du:Nat),σ_ 1=.pointer (some ⟨b2,0,none⟩)/\σ_ 3=.pointer (some ⟨b6,0,none⟩)/\PHeap.Le U U_/\sW w U U_ [.blk b2 28 B0,.blk b6 86 [.pointer (some ⟨b8,0,none⟩)],.blk b8 146 [.slice ak p0.Starts.length au,.slice am p0.Splits.length av,.slice ap p0.Clocks.length az,.slice aq p0.Readings.length aU,.map (some aj),.slice none 0 0],.obj aj (.map cC du)] w_/\MpR cC wBO wBR jN) ?_ ?_))
 refine bnK sq fun ai bC r8=>zx zr [2,2,2,0,3,3,2,2,0] (.fx 0 (.fx 1 gCr (.fx 2 gCs (.fx 7 gCt .stop))) (.fx 1 (.fx 0 gCr (.fx 2 gCw (.fx 7 gCu .stop))) (.fx 2 (.fx 0 gCs (.fx 1 gCw (.fx 7 gCv .stop))) (.fx 7 (.fx 0 gCt (.fx 1 gCu (.fx 2 gCv .stop))) .stop)))) (by kernel_rfl) ?_
 have bE:=qK.drew
 generalize hw_W51:({ W1 with drawn:=W1.drawn + 1 }:World)=gO at bE ⊢
 refine ZC (s:=.nil) (M:=fun σ_ w_=>∃ (U_:PHeap) (da:Nat) (cp:Nat) (bF:Nat) (dD:Array MapEntry) (eI:Nat),σ_ 1=.pointer (some ⟨b2,0,none⟩)/\σ_ 3=.pointer (some ⟨da,0,none⟩)/\σ_ 12=.agg B0.toArray/\σ_ 13=.map (some bF)/\σ_ 14=.agg #[jV ai.skier,jV ai.mat]/\σ_ 15=.map (some bF)/\σ_ 16=.agg #[.slice ak p0.Starts.length au,.slice am p0.Splits.length av,.slice ap p0.Clocks.length az,.slice aq p0.Readings.length aU,.map (some bF),.slice none 0 0]/\σ_ 17=.pointer (some ⟨cp,0,none⟩)/\PHeap.Le U U_/\sW w U U_ [.blk b2 28 B0,.blk da 86 [.pointer (some ⟨cp,0,none⟩)],.blk cp 146 [.slice ak p0.Starts.length au,.slice am p0.Splits.length av,.slice ap p0.Clocks.length az,.slice aq p0.Readings.length aU,.map (some bF),.slice none 0 0],.obj bF (.map dD eI)] w_/\MpR dD wBO wBR (mput ([]:List (wAC × Int)) ai 0)) ?_ fun su=>?_
 rintro uT tI ⟨j8,da,cp,bF,dD,eI,mP,mQ,uo,uq,ur,ut,uu,uv,sI,qL,pk⟩
 refine zX ?_
 cases r8
 exact zG ⟨Z,⟨j8,da,cp,bF,dD,eI,mP,mQ,sI,qL,pk⟩⟩
 refine ZC (s:=.fx 8 .nil .stop) (M:=fun σ_ w_=>∃ (U_:PHeap) (cq:Nat) (bz:Nat) (cE:Array MapEntry) (dw:Nat) (bP:Nat),σ_ 1=.pointer (some ⟨b2,0,none⟩)/\σ_ 3=.pointer (some ⟨cq,0,none⟩)/\σ_ 12=.agg B0.toArray/\σ_ 13=.map (some bz)/\σ_ 14=.agg #[jV ai.skier,jV ai.mat]/\σ_ 15=.map (some bz)/\σ_ 16=.agg #[.slice ak p0.Starts.length au,.slice am p0.Splits.length av,.slice ap p0.Clocks.length az,.slice aq p0.Readings.length aU,.map (some bz),.slice none 0 0]/\σ_ 17=.pointer (some ⟨bP,0,none⟩)/\PHeap.Le U U_/\sW w U U_ [.blk b2 28 B0,.blk cq 86 [.pointer none],.obj bz (.map cE dw),.blk bP 146 [.slice ak p0.Starts.length au,.slice am p0.Splits.length av,.slice ap p0.Clocks.length az,.slice aq p0.Readings.length aU,.map (some bz),.slice none 0 0]] w_/\MpR cE wBO wBR (mput ([]:List (wAC × Int)) ai 0)) ?_ fun dW=>?_
 rintro uU tJ ⟨gz,cq,bz,cE,dw,bP,mR,iw,mS,mT,mU,mV,mW,iz,sJ,qM,pm⟩
 let B1:List Value:=[.pointer (some ⟨bP,0,none⟩)]
 refine zY (j:=1) (vs:=B1) Z Z Z Z qM Z iw iz Z Tryz.sizeOf86 (zA Z) Z Z Z ?_
 intro lR qN
 have qO:sW w U gz [.blk b2 28 B0,.blk cq 86 B1,.obj bz (.map cE dw),.blk bP 146 [.slice ak p0.Starts.length au,.slice am p0.Splits.length av,.slice ap p0.Clocks.length az,.slice aq p0.Readings.length aU,.map (some bz),.slice none 0 0]] lR:=qN
 exact su _ _ ⟨gz,cq,bP,bz,cE,dw,mR,iw,mS,mT,mU,mV,mW,iz,sJ,(qO.pick [0,1,3,2] _ (by decide) rfl),pm⟩
 refine ZC (s:=gBo) (M:=fun σ_ w_=>∃ (U_:PHeap) (db:Nat) (bG:Nat) (dE:Array MapEntry) (eJ:Nat),σ_ 1=.pointer (some ⟨b2,0,none⟩)/\σ_ 3=.pointer (some ⟨db,0,none⟩)/\σ_ 12=.agg B0.toArray/\σ_ 13=.map (some bG)/\σ_ 14=.agg #[jV ai.skier,jV ai.mat]/\σ_ 15=.map (some bG)/\σ_ 16=.agg #[.slice ak p0.Starts.length au,.slice am p0.Splits.length av,.slice ap p0.Clocks.length az,.slice aq p0.Readings.length aU,.map (some bG),.slice none 0 0]/\PHeap.Le U U_/\sW w U U_ [.blk b2 28 B0,.blk db 86 [.pointer none],.obj bG (.map dE eJ)] w_/\MpR dE wBO wBR (mput ([]:List (wAC × Int)) ai 0)) ?_ fun jE=>?_
 rintro uV tK ⟨j9,db,bG,dE,eJ,mX,mY,mZ,m4,m5,m6,iA,sK,qP,pn⟩
 refine ZK (cs:=[.slice ak p0.Starts.length au,.slice am p0.Splits.length av,.slice ap p0.Clocks.length az,.slice aq p0.Readings.length aU,.map (some bG),.slice none 0 0]) rfl rfl rfl rfl rfl iA (by rfl) qP ?_
 intro tL ml qQ
 exact dW _ _ ⟨j9,db,bG,dE,eJ,ml,mX,mY,mZ,m4,m5,m6,iA,rfl,sK,(qQ.pick [1,2,3,0] _ (by decide) rfl),pn⟩
 refine ZC (s:=gBn) (M:=fun σ_ w_=>∃ (U_:PHeap) (bH:Nat) (dF:Array MapEntry) (eK:Nat) (de:Nat),σ_ 1=.pointer (some ⟨b2,0,none⟩)/\σ_ 12=.agg B0.toArray/\σ_ 13=.map (some bH)/\σ_ 14=.agg #[jV ai.skier,jV ai.mat]/\σ_ 15=.map (some bH)/\σ_ 16=.agg #[.slice ak p0.Starts.length au,.slice am p0.Splits.length av,.slice ap p0.Clocks.length az,.slice aq p0.Readings.length aU,.map (some bH),.slice none 0 0]/\σ_ 17=.pointer (some ⟨de,0,none⟩)/\PHeap.Le U U_/\sW w U U_ [.blk b2 28 B0,.obj bH (.map dF eK),.blk de 146 [.slice ak p0.Starts.length au,.slice am p0.Splits.length av,.slice ap p0.Clocks.length az,.slice aq p0.Readings.length aU,.map (some bH),.slice none 0 0]] w_/\MpR dF wBO wBR (mput ([]:List (wAC × Int)) ai 0)) ?_ fun jG=>?_
 rintro uW tM ⟨k9,bH,dF,eK,de,m7,m8,m9,n5,n6,n7,n8,sL,qR,po⟩
 refine zW (cs:=[.pointer none]) Z Z Z Z Z Zu Z qR ?_
 intro tO mo qS
 exact dW _ _ ⟨k9,mo,bH,dF,eK,de,m7,rfl,m8,m9,n5,n6,n7,n8,sL,(qS.pick [1,0,2,3] _ (by decide) rfl),po⟩
 refine ZC (s:=.fl 5 gBo) (M:=fun σ_ w_=>∃ (U_:PHeap) (df:Nat) (bI:Nat) (dG:Array MapEntry) (eL:Nat),σ_ 1=.pointer (some ⟨b2,0,none⟩)/\σ_ 3=.pointer (some ⟨df,0,none⟩)/\σ_ 12=.agg B0.toArray/\σ_ 13=.map (some bI)/\σ_ 14=.agg #[jV ai.skier,jV ai.mat]/\σ_ 15=.map (some bI)/\PHeap.Le U U_/\sW w U U_ [.blk b2 28 B0,.blk df 86 [.pointer none],.obj bI (.map dG eL)] w_/\MpR dG wBO wBR (mput ([]:List (wAC × Int)) ai 0)) ?_ fun jH=>?_
 rintro uX tP ⟨lc,df,bI,dG,eL,n9,oa,iB,oc,od,iC,sM,qT,pp⟩
 let B2:List Value:=[.slice ak p0.Starts.length au,.slice am p0.Splits.length av,.slice ap p0.Clocks.length az,.slice aq p0.Readings.length aU,.map (some bI),.slice none 0 0]
 refine zZ rfl rfl rfl rfl (fun _=>zt (pv:=[(0,.agg B0.toArray),(1,.map (some bI))]) (z:=[.slice none 0 0,.slice none 0 0,.slice none 0 0,.slice none 0 0,.map none,.slice none 0 0]) (cs:=B2) rfl (wAB iB (wAB iC wAT)) Tryz.zeroValue146 wFv rfl rfl) (ZK (cs:=B2) rfl rfl rfl rfl rfl rfl (by rfl) qT ?_)
 intro tQ mp qU
 exact dW _ _ ⟨lc,df,bI,dG,eL,mp,n9,oa,iB,oc,od,iC,rfl,rfl,sM,(qU.pick [1,2,3,0] _ (by decide) rfl),pp⟩
 refine ZC (s:=gCc) (M:=fun σ_ w_=>∃ (U_:PHeap) (dg:Nat) (cr:Nat) (dH:Array MapEntry) (eM:Nat),σ_ 1=.pointer (some ⟨b2,0,none⟩)/\σ_ 3=.pointer (some ⟨dg,0,none⟩)/\σ_ 13=.map (some cr)/\σ_ 14=.agg #[jV ai.skier,jV ai.mat]/\σ_ 15=.map (some cr)/\PHeap.Le U U_/\sW w U U_ [.blk b2 28 B0,.blk dg 86 [.pointer none],.obj cr (.map dH eM)] w_/\MpR dH wBO wBR (mput ([]:List (wAC × Int)) ai 0)) ?_ fun sv=>?_
 rintro uY tR ⟨lf,dg,cr,dH,eM,iD,oe,og,oh,oi,sN,jq,pq⟩
 exact ZB Z Z Z Z (jq.ldBA (j:=0) Z Z iD ZH zu (vs:=B0) Z Z) (jH _ _ ⟨lf,dg,cr,dH,eM,iD,oe,Z,og,oh,oi,sN,jq,pq⟩)
 refine ZC (s:=gCi) (M:=fun σ_ w_=>∃ (U_:PHeap) (bB:Nat) (cG:Array MapEntry) (dx:Nat),σ_ 1=.pointer (some ⟨b2,0,none⟩)/\σ_ 12=.agg B0.toArray/\σ_ 13=.map (some bB)/\σ_ 14=.agg #[jV ai.skier,jV ai.mat]/\σ_ 15=.map (some bB)/\PHeap.Le U U_/\sW w U U_ [.blk b2 28 B0,.obj bB (.map cG dx)] w_/\MpR cG wBO wBR (mput ([]:List (wAC × Int)) ai 0)) ?_ fun sw=>?_
 rintro uZ tS ⟨gA,bB,cG,dx,iE,eY,iF,iG,eZ,jR,jr,jd⟩
 let B3:List Value:=[.slice ak p0.Starts.length au,.slice am p0.Splits.length av,.slice ap p0.Clocks.length az,.slice aq p0.Readings.length aU,.map (some bB),.slice none 0 0]
 refine oR Z (zt (pv:=[(0,.agg B0.toArray),(1,.map (some bB))]) (z:=[.slice none 0 0,.slice none 0 0,.slice none 0 0,.slice none 0 0,.map none,.slice none 0 0]) (cs:=B3) Z (wAB eY (wAB eZ wAT)) Tryz.zeroValue146 wFv Z Z) (zk ?_ ?_)
 refine ZK (cs:=B3) rfl rfl rfl rfl rfl rfl (by rfl) jr ?_
 intro tT mq qV
 exact jG _ _ ⟨gA,bB,cG,dx,mq,iE,eY,iF,iG,eZ,rfl,rfl,jR,(qV.pick [1,2,0] _ (by decide) rfl),jd⟩
 refine zW (cs:=[.pointer none]) Z Z Z Z Z Zu Z jr ?_
 intro tU mr qW
 exact jE _ _ ⟨gA,mr,bB,cG,dx,iE,rfl,eY,iF,iG,eZ,rfl,jR,(qW.pick [1,0,2] _ (by decide) rfl),jd⟩
 refine ZC (s:=gCb) (M:=fun σ_ w_=>∃ (U_:PHeap) (dh:Nat) (bQ:Nat) (dI:Array MapEntry) (eO:Nat),σ_ 1=.pointer (some ⟨b2,0,none⟩)/\σ_ 3=.pointer (some ⟨dh,0,none⟩)/\σ_ 12=.agg B0.toArray/\σ_ 13=.map (some bQ)/\σ_ 14=.agg #[jV ai.skier,jV ai.mat]/\PHeap.Le U U_/\sW w U U_ [.blk b2 28 B0,.blk dh 86 [.pointer none],.obj bQ (.map dI eO)] w_/\MpR dI wBO wBR (mput ([]:List (wAC × Int)) ai 0)) ?_ fun sA=>?_
 rintro u0 tV ⟨lh,dh,bQ,dI,eO,oj,ol,iH,iI,om,sO,qX,pu⟩
 refine oM Z iI ?_
 let B4:List Value:=[.slice ak p0.Starts.length au,.slice am p0.Splits.length av,.slice ap p0.Clocks.length az,.slice aq p0.Readings.length aU,.map (some bQ),.slice none 0 0]
 refine zZ rfl rfl rfl rfl (fun _=>zt (pv:=[(0,.agg B0.toArray),(1,.map (some bQ))]) (z:=[.slice none 0 0,.slice none 0 0,.slice none 0 0,.slice none 0 0,.map none,.slice none 0 0]) (cs:=B4) rfl (wAB iH (wAB rfl wAT)) Tryz.zeroValue146 wFv rfl rfl) (ZK (cs:=B4) rfl rfl rfl rfl rfl rfl (by rfl) qX ?_)
 intro tW ms qY
 exact dW _ _ ⟨lh,dh,bQ,dI,eO,ms,oj,ol,iH,iI,om,rfl,rfl,rfl,sO,(qY.pick [1,2,3,0] _ (by decide) rfl),pu⟩
 refine ZC (s:=.fl 4 gCc) (M:=fun σ_ w_=>∃ (U_:PHeap) (dk:Nat) (dl:Nat) (dJ:Array MapEntry) (eQ:Nat),σ_ 1=.pointer (some ⟨b2,0,none⟩)/\σ_ 3=.pointer (some ⟨dk,0,none⟩)/\σ_ 13=.map (some dl)/\σ_ 14=.agg #[jV ai.skier,jV ai.mat]/\PHeap.Le U U_/\sW w U U_ [.blk b2 28 B0,.blk dk 86 [.pointer none],.obj dl (.map dJ eQ)] w_/\MpR dJ wBO wBR (mput ([]:List (wAC × Int)) ai 0)) ?_ fun sB=>?_
 rintro u3 tX ⟨li,dk,dl,dJ,eQ,iJ,oq,iK,ot,sP,jt,py⟩
 exact oM Z iK (ZB Z Z Z Z (jt.ldBA (j:=0) Z Z iJ ZH zu (vs:=B0) Z Z) (jH _ _ ⟨li,dk,dl,dJ,eQ,iJ,oq,Z,iK,ot,Z,sP,jt,py⟩))
 refine ZC (s:=gCj) (M:=fun σ_ w_=>∃ (U_:PHeap) (ct:Nat) (cu:Nat) (eW:Array MapEntry) (gU:Nat),σ_ 1=.pointer (some ⟨b2,0,none⟩)/\σ_ 3=.pointer (some ⟨ct,0,none⟩)/\σ_ 12=.agg B0.toArray/\σ_ 13=.map (some cu)/\σ_ 14=.agg #[jV ai.skier,jV ai.mat]/\PHeap.Le U U_/\sW w U U_ [.blk b2 28 B0,.blk ct 86 [.pointer none],.obj cu (.map eW gU)] w_/\MpR eW wBO wBR ([]:List (wAC × Int))) ?_ fun dX=>?_
 rintro u4 tY ⟨gB,ct,cu,eW,gU,ou,ow,ox,iL,iM,sQ,qZ,pz⟩
 refine OKS.mapPut (x:=.tmp 13) (y:=.tmp 14) (j:=2) (mk:=wBO) (mv:=wBR) (a:=ai) (v:=0) rfl rfl rfl (by first | exact .inl rfl | exact .inr rfl) qZ rfl iL iM rfl (wBu ZD) wDG pz rfl ?_
 intro g8 gW lS sg rc
 have re:sW w U gB [.blk b2 28 B0,.blk ct 86 [.pointer none],.obj cu (.map g8 gW)] lS:=rc
 exact sA _ _ ⟨gB,ct,cu,g8,gW,ou,ow,ox,iL,iM,sQ,re,sg⟩
 refine ZC (s:=.fl 4 gCi) (M:=fun σ_ w_=>∃ (U_:PHeap) (bK:Nat) (cH:Array MapEntry) (dy:Nat),σ_ 1=.pointer (some ⟨b2,0,none⟩)/\σ_ 12=.agg B0.toArray/\σ_ 13=.map (some bK)/\σ_ 14=.agg #[jV ai.skier,jV ai.mat]/\PHeap.Le U U_/\sW w U U_ [.blk b2 28 B0,.obj bK (.map cH dy)] w_/\MpR cH wBO wBR (mput ([]:List (wAC × Int)) ai 0)) ?_ fun sC=>?_
 rintro u5 tZ ⟨gC,bK,cH,dy,iN,fb,fc,iO,jS,ju,je⟩
 refine oM Z fc ?_
 let B5:List Value:=[.slice ak p0.Starts.length au,.slice am p0.Splits.length av,.slice ap p0.Clocks.length az,.slice aq p0.Readings.length aU,.map (some bK),.slice none 0 0]
 refine oR Z (zt (pv:=[(0,.agg B0.toArray),(1,.map (some bK))]) (z:=[.slice none 0 0,.slice none 0 0,.slice none 0 0,.slice none 0 0,.map none,.slice none 0 0]) (cs:=B5) Z (wAB fb (wAB Z wAT)) Tryz.zeroValue146 wFv Z Z) (zk ?_ ?_)
 refine ZK (cs:=B5) rfl rfl rfl rfl rfl rfl (by rfl) ju ?_
 intro t7 mu ri
 exact jG _ _ ⟨gC,bK,cH,dy,mu,iN,fb,fc,iO,rfl,rfl,rfl,jS,(ri.pick [1,2,0] _ (by decide) rfl),je⟩
 refine zW (cs:=[.pointer none]) Z Z Z Z Z Zu Z ju ?_
 intro t8 mw rj
 exact jE _ _ ⟨gC,mw,bK,cH,dy,iN,rfl,fb,fc,iO,rfl,rfl,jS,(rj.pick [1,0,2] _ (by decide) rfl),je⟩
 refine ZC (s:=gCq) (M:=fun σ_ w_=>∃ (U_:PHeap) (bR:Nat) (bS:Nat) (dK:Array MapEntry) (eU:Nat),σ_ 1=.pointer (some ⟨b2,0,none⟩)/\σ_ 3=.pointer (some ⟨bR,0,none⟩)/\σ_ 13=.map (some bS)/\σ_ 14=.agg #[jV ai.skier,jV ai.mat]/\PHeap.Le U U_/\sW w U U_ [.blk b2 28 B0,.blk bR 86 [.pointer none],.obj bS (.map dK eU)] w_/\MpR dK wBO wBR ([]:List (wAC × Int))) ?_ fun fQ=>?_
 rintro u6 t9 ⟨eD,bR,bS,dK,eU,fd,iP,ff,fg,jU,fH,jf⟩
 refine zk ?_ ?_
 exact ZB Z Z Z Z (fH.ldBA (j:=0) Z Z fd ZH zu (vs:=B0) Z Z) (dX _ _ ⟨eD,bR,bS,dK,eU,fd,iP,Z,ff,fg,jU,fH,jf⟩)
 refine OKS.mapPut (x:=.tmp 13) (y:=.tmp 14) (j:=2) (mk:=wBO) (mv:=wBR) (a:=ai) (v:=0) rfl rfl rfl (by first | exact .inl rfl | exact .inr rfl) fH rfl ff fg rfl (wBu ZD) wDG jf rfl ?_
 intro g9 gX lT sh rk
 have rn:sW w U eD [.blk b2 28 B0,.blk bR 86 [.pointer none],.obj bS (.map g9 gX)] lT:=rk
 exact sB _ _ ⟨eD,bR,bS,g9,gX,fd,iP,ff,fg,jU,rn,sh⟩
 refine ZC (s:=gCp) (M:=fun σ_ w_=>∃ (U_:PHeap) (cw:Nat) (cI:Array MapEntry) (dz:Nat),σ_ 1=.pointer (some ⟨b2,0,none⟩)/\σ_ 13=.map (some cw)/\σ_ 14=.agg #[jV ai.skier,jV ai.mat]/\PHeap.Le U U_/\sW w U U_ [.blk b2 28 B0,.obj cw (.map cI dz)] w_/\MpR cI wBO wBR (mput ([]:List (wAC × Int)) ai 0)) ?_ fun sD=>?_
 rintro u7 ua ⟨gD,cw,cI,dz,fh,fj,iQ,jW,fJ,jg⟩
 refine oM Z fj (zk ?_ ?_)
 exact ZB Z Z Z Z (fJ.ldBA (j:=0) Z Z fh ZH zu (vs:=B0) Z Z) (sw _ _ ⟨gD,cw,cI,dz,fh,Z,fj,iQ,Z,jW,fJ,jg⟩)
 refine zW (cs:=[.pointer none]) Z Z Z Z Z Zu Z fJ ?_
 intro ub my ro
 exact sv _ _ ⟨gD,my,cw,cI,dz,fh,rfl,fj,iQ,rfl,jW,(ro.pick [1,0,2] _ (by decide) rfl),jg⟩
 refine ZC (s:=gCl) (M:=fun σ_ w_=>∃ (U_:PHeap) (dm:Nat),σ_ 1=.pointer (some ⟨b2,0,none⟩)/\σ_ 3=.pointer (some ⟨dm,0,none⟩)/\σ_ 12=.agg B0.toArray/\σ_ 14=.agg #[jV ai.skier,jV ai.mat]/\PHeap.Le U U_/\sW w U U_ [.blk b2 28 B0,.blk dm 86 [.pointer none]] w_) ?_ fun fR=>?_
 rintro u9 uc ⟨lj,dm,oy,oz,oB,oG,sS,rp⟩
 refine yg Z Z Z Z Z rp ?_
 intro ud mz rq
 have sj:=MpR.nil wBO wBR
 exact dX _ _ ⟨lj,dm,mz,#[],0,oy,oz,oB,rfl,oG,sS,(rq.pick [1,2,0] _ (by decide) rfl),sj⟩
 refine ZC (s:=gCk) (M:=fun σ_ w_=>∃ (U_:PHeap) (cx:Nat) (cy:Nat) (cJ:Array MapEntry) (dA:Nat),σ_ 1=.pointer (some ⟨b2,0,none⟩)/\σ_ 3=.pointer (some ⟨cx,0,none⟩)/\σ_ 12=.agg B0.toArray/\σ_ 13=.map (some cy)/\PHeap.Le U U_/\sW w U U_ [.blk b2 28 B0,.blk cx 86 [.pointer none],.obj cy (.map cJ dA)] w_/\MpR cJ wBO wBR ([]:List (wAC × Int))) ?_ fun fS=>?_
 rintro va lU ⟨lm,cx,cy,cJ,dA,oH,oI,oK,oO,sT,rx,pB⟩
 refine zM 0 Z Z Z Z (zK Z Z yN zP Z) rx (fun hs=>wBm lU lm hs bC) (.inr Z) ?_
 rintro gE tg uI lV sU ry ⟨rfl,rfl⟩
 have rA:sW w U gE [.blk b2 28 B0,.blk cx 86 [.pointer none],.obj cy (.map cJ dA)] lV:=ry
 exact dX _ _ ⟨gE,cx,cy,cJ,dA,oH,oI,oK,oO,Z,(sT.trans sU),rA,pB⟩
 refine ZC (s:=gCo) (M:=fun σ_ w_=>∃ (U_:PHeap) (bT:Nat) (dL:Array MapEntry) (eV:Nat),σ_ 1=.pointer (some ⟨b2,0,none⟩)/\σ_ 12=.agg B0.toArray/\σ_ 13=.map (some bT)/\σ_ 14=.agg #[jV ai.skier,jV ai.mat]/\PHeap.Le U U_/\sW w U U_ [.blk b2 28 B0,.obj bT (.map dL eV)] w_/\MpR dL wBO wBR ([]:List (wAC × Int))) ?_ fun fT=>?_
 rintro vb ue ⟨eE,bT,dL,eV,iR,iT,fm,fq,jX,jv,jh⟩
 refine zk ?_ ?_
 refine OKS.mapPut (x:=.tmp 13) (y:=.tmp 14) (j:=1) (mk:=wBO) (mv:=wBR) (a:=ai) (v:=0) rfl rfl rfl (by first | exact .inl rfl | exact .inr rfl) jv rfl fm fq rfl (wBu ZD) wDG jh rfl ?_
 intro ib gZ lW sk rB
 have rC:sW w U eE [.blk b2 28 B0,.obj bT (.map ib gZ)] lW:=rB
 exact sC _ _ ⟨eE,bT,ib,gZ,iR,iT,fm,fq,jX,rC,sk⟩
 refine zW (cs:=[.pointer none]) Z Z Z Z Z Zu Z jv ?_
 intro uf mA rD
 exact dX _ _ ⟨eE,mA,bT,dL,eV,iR,rfl,iT,fm,fq,jX,(rD.pick [1,0,2] _ (by decide) rfl),jh⟩
 refine ZC (s:=gCv) (M:=fun σ_ w_=>∃ (U_:PHeap) (cz:Nat),σ_ 1=.pointer (some ⟨b2,0,none⟩)/\σ_ 3=.pointer (some ⟨cz,0,none⟩)/\σ_ 14=.agg #[jV ai.skier,jV ai.mat]/\PHeap.Le U U_/\sW w U U_ [.blk b2 28 B0,.blk cz 86 [.pointer none]] w_) ?_ fun jJ=>?_
 rintro vc ug ⟨gF,cz,ft,iU,iV,jY,fK⟩
 refine zk ?_ ?_
 exact ZB Z Z Z Z (fK.ldBA (j:=0) Z Z ft ZH zu (vs:=B0) Z Z) (fR _ _ ⟨gF,cz,ft,iU,Z,iV,jY,fK⟩)
 refine yg Z Z Z Z Z fK ?_
 intro uh mB rE
 have sm:=MpR.nil wBO wBR
 exact fQ _ _ ⟨gF,cz,mB,#[],0,ft,iU,rfl,iV,jY,(rE.pick [1,2,0] _ (by decide) rfl),sm⟩
 refine ZC (s:=gCu) (M:=fun σ_ w_=>∃ (U_:PHeap) (bU:Nat) (bV:Nat) (bZ:Array MapEntry) (cB:Nat),σ_ 1=.pointer (some ⟨b2,0,none⟩)/\σ_ 3=.pointer (some ⟨bU,0,none⟩)/\σ_ 13=.map (some bV)/\PHeap.Le U U_/\sW w U U_ [.blk b2 28 B0,.blk bU 86 [.pointer none],.obj bV (.map bZ cB)] w_/\MpR bZ wBO wBR ([]:List (wAC × Int))) ?_ fun jK=>?_
 rintro vd lX ⟨gG,bU,bV,bZ,cB,fu,iW,iX,jZ,fL,ji⟩
 refine zk ?_ ?_
 exact ZB Z Z Z Z (fL.ldBA (j:=0) Z Z fu ZH zu (vs:=B0) Z Z) (fS _ _ ⟨gG,bU,bV,bZ,cB,fu,iW,Z,iX,jZ,fL,ji⟩)
 refine zM 0 Z Z Z Z (zK Z Z yN zP Z) fL (fun hs=>wBm lX gG hs bC) (.inr Z) ?_
 rintro gH th uJ lY sV rF ⟨rfl,rfl⟩
 have rG:sW w U gH [.blk b2 28 B0,.blk bU 86 [.pointer none],.obj bV (.map bZ cB)] lY:=rF
 exact fQ _ _ ⟨gH,bU,bV,bZ,cB,fu,iW,iX,Z,(jZ.trans sV),rG,ji⟩
 refine ZC (s:=gCw) (M:=fun σ_ w_=>∃ (U_:PHeap) (bL:Nat) (cK:Array MapEntry) (dB:Nat),σ_ 1=.pointer (some ⟨b2,0,none⟩)/\σ_ 13=.map (some bL)/\σ_ 14=.agg #[jV ai.skier,jV ai.mat]/\PHeap.Le U U_/\sW w U U_ [.blk b2 28 B0,.obj bL (.map cK dB)] w_/\MpR cK wBO wBR ([]:List (wAC × Int))) ?_ fun jL=>?_
 rintro ve ui ⟨cX,bL,cK,dB,dM,dN,dO,fV,dU,fD⟩
 refine zk ?_ ?_
 exact ZB Z Z Z Z (dU.ldBA (j:=0) Z Z dM ZH zu (vs:=B0) Z Z) (fT _ _ ⟨cX,bL,cK,dB,dM,Z,dN,dO,fV,dU,fD⟩)
 refine zk ?_ ?_
 refine OKS.mapPut (x:=.tmp 13) (y:=.tmp 14) (j:=1) (mk:=wBO) (mv:=wBR) (a:=ai) (v:=0) rfl rfl rfl (by first | exact .inl rfl | exact .inr rfl) dU rfl dN dO rfl (wBu ZD) wDG fD rfl ?_
 intro ic g6 lZ sn rH
 have rI:sW w U cX [.blk b2 28 B0,.obj bL (.map ic g6)] lZ:=rH
 exact sD _ _ ⟨cX,bL,ic,g6,dM,dN,dO,fV,rI,sn⟩
 refine zW (cs:=[.pointer none]) Z Z Z Z Z Zu Z dU ?_
 intro uj mC rJ
 exact fQ _ _ ⟨cX,mC,bL,cK,dB,dM,rfl,dN,dO,fV,(rJ.pick [1,0,2] _ (by decide) rfl),fD⟩
 refine ZC (s:=gCt) (M:=fun σ_ w_=>∃ (U_:PHeap) (bW:Nat),σ_ 1=.pointer (some ⟨b2,0,none⟩)/\σ_ 3=.pointer (some ⟨bW,0,none⟩)/\σ_ 12=.agg B0.toArray/\PHeap.Le U U_/\sW w U U_ [.blk b2 28 B0,.blk bW 86 [.pointer none]] w_) ?_ fun jM=>?_
 rintro vg l4 ⟨gI,bW,iY,iZ,i7,j0,jw⟩
 refine zk ?_ ?_
 refine yg Z Z Z Z Z jw ?_
 intro uk mD rK
 have so:=MpR.nil wBO wBR
 exact fS _ _ ⟨gI,bW,mD,#[],0,iY,iZ,i7,rfl,j0,(rK.pick [1,2,0] _ (by decide) rfl),so⟩
 refine zM 0 Z Z Z Z (zK Z Z yN zP Z) jw (fun hs=>wBm l4 gI hs bC) (.inr Z) ?_
 rintro gJ tj uK l5 sX rL ⟨rfl,rfl⟩
 have pF:sW w U gJ [.blk b2 28 B0,.blk bW 86 [.pointer none]] l5:=rL
 exact fR _ _ ⟨gJ,bW,iY,iZ,i7,Z,(j0.trans sX),pF⟩
 refine ZC (s:=gCs) (M:=fun σ_ w_=>∃ (U_:PHeap),σ_ 1=.pointer (some ⟨b2,0,none⟩)/\σ_ 12=.agg B0.toArray/\σ_ 14=.agg #[jV ai.skier,jV ai.mat]/\PHeap.Le U U_/\sW w U U_ [.blk b2 28 B0] w_) ?_ fun jC=>?_
 rintro uO tl ⟨gj,ie,ig,ii,jO,jj⟩
 refine zk ?_ ?_
 refine yg Z Z Z Z Z jj ?_
 intro tn l6 pG
 have r9:=MpR.nil wBO wBR
 exact fT _ _ ⟨gj,l6,#[],0,ie,ig,rfl,ii,jO,(pG.pick [1,0] _ (by decide) rfl),r9⟩
 refine zW (cs:=[.pointer none]) Z Z Z Z Z Zu Z jj ?_
 intro tp ma pH
 exact fR _ _ ⟨gj,ma,ie,rfl,ig,ii,jO,(pH.pick [1,0] _ (by decide) rfl)⟩
 refine ZC (s:=gCr) (M:=fun σ_ w_=>∃ (U_:PHeap) (bO:Nat) (bY:Array MapEntry) (cA:Nat),σ_ 1=.pointer (some ⟨b2,0,none⟩)/\σ_ 12=.agg B0.toArray/\σ_ 13=.map (some bO)/\PHeap.Le U U_/\sW w U U_ [.blk b2 28 B0,.obj bO (.map bY cA)] w_/\MpR bY wBO wBR ([]:List (wAC × Int))) ?_ fun jD=>?_
 rintro uP ln ⟨gm,bO,bY,cA,ij,ik,il,jP,jk,i8⟩
 refine zk ?_ ?_
 refine zM 0 Z Z Z Z (zK Z Z yN zP Z) jk (fun hs=>wBm ln gm hs bC) (.inr Z) ?_
 rintro gq s5 uB lp sE pI ⟨rfl,rfl⟩
 have pJ:sW w U gq [.blk b2 28 B0,.obj bO (.map bY cA)] lp:=pI
 exact fT _ _ ⟨gq,bO,bY,cA,ij,ik,il,Z,(jP.trans sE),pJ,i8⟩
 refine zW (cs:=[.pointer none]) Z Z Z Z Z Zu Z jk ?_
 intro tq mb pK
 exact fS _ _ ⟨gm,mb,bO,bY,cA,ij,rfl,ik,il,jP,(pK.pick [1,0,2] _ (by decide) rfl),i8⟩
 refine zk ?_ ?_
 refine ZB Z Z Z Z (bE.ldBA (j:=0) Z Z Z ZH zu (vs:=B0) Z Z) (zk ?_ ?_)
 refine yg Z Z Z Z Z bE ?_
 intro tr mc pL
 have sb:=MpR.nil wBO wBR
 exact jD _ _ ⟨U,mc,#[],0,rfl,rfl,rfl,(zL _),(pL.pick [1,0] _ (by decide) rfl),sb⟩
 refine zk ?_ ?_
 refine zM 0 Z Z Z Z (zK Z Z yN zP Z) bE (fun hs=>wBm gO U hs bC) (.inr Z) ?_
 rintro gt s6 uC lq sF pM ⟨rfl,rfl⟩
 have pN:sW w U gt [.blk b2 28 B0] lq:=pM
 exact jC _ _ ⟨gt,Z,Z,Z,sF,pN⟩
 refine zW (cs:=[.pointer none]) Z Z Z Z Z Zu Z bE ?_
 intro tu md pO
 exact jM _ _ ⟨U,md,rfl,rfl,rfl,(zL _),(pO.pick [1,0] _ (by decide) rfl)⟩
 refine zk ?_ ?_
 refine yg Z Z Z Z Z bE ?_
 intro lu cY dR
 have fP:=MpR.nil wBO wBR
 refine zk ?_ ?_
 exact ZB rfl rfl rfl rfl (dR.ldBA (j:=1) rfl rfl rfl ZH zu (vs:=B0) rfl rfl) (jD _ _ ⟨U,cY,#[],0,rfl,rfl,rfl,(zL _),(dR.pick [1,0] _ (by decide) rfl),fP⟩)
 refine zk ?_ ?_
 refine zM 0 Z Z Z Z (zK Z Z yN zP Z) dR (fun hs=>wBm lu U hs bC) (.inr Z) ?_
 rintro gu s7 uD lv sG pP ⟨rfl,rfl⟩
 have pQ:sW w U gu [.obj cY (.map #[] 0),.blk b2 28 B0] lv:=pP
 exact jL _ _ ⟨gu,cY,#[],0,rfl,rfl,rfl,sG,(pQ.pick [1,0] _ (by decide) rfl),fP⟩
 refine zW (cs:=[.pointer none]) Z Z Z Z Z Zu Z dR ?_
 intro tv me pR
 exact jK _ _ ⟨U,me,cY,#[],0,rfl,rfl,rfl,(zL _),(pR.pick [2,0,1] _ (by decide) rfl),fP⟩
 refine zk ?_ ?_
 refine zM 0 Z Z Z Z (zK Z Z yN zP Z) bE (fun hs=>wBm gO U hs bC) (.inr Z) ?_
 rintro cV s8 uE lw fU pS ⟨rfl,rfl⟩
 have dS:sW w U cV [.blk b2 28 B0] lw:=pS
 refine zk ?_ ?_
 exact ZB Z Z Z Z (dS.ldBA (j:=0) Z Z Z ZH zu (vs:=B0) Z Z) (jC _ _ ⟨cV,Z,Z,Z,fU,dS⟩)
 refine zk ?_ ?_
 refine yg Z Z Z Z Z dS ?_
 intro tw mf pT
 have sc:=MpR.nil wBO wBR
 exact jL _ _ ⟨cV,mf,#[],0,rfl,rfl,rfl,fU,(pT.pick [1,0] _ (by decide) rfl),sc⟩
 refine zW (cs:=[.pointer none]) Z Z Z Z Z Zu Z dS ?_
 intro tz mg pU
 exact jJ _ _ ⟨cV,mg,rfl,rfl,rfl,fU,(pU.pick [1,0] _ (by decide) rfl)⟩
 refine zW (cs:=[.pointer none]) Z Z Z Z Z Zu Z bE ?_
 intro lx cZ dT
 refine zk ?_ ?_
 exact ZB rfl rfl rfl rfl (dT.ldBA (j:=1) rfl rfl rfl ZH zu (vs:=B0) rfl rfl) (jM _ _ ⟨U,cZ,rfl,rfl,rfl,(zL _),(dT.pick [1,0] _ (by decide) rfl)⟩)
 refine zk ?_ ?_
 refine yg Z Z Z Z Z dT ?_
 intro tA mh pV
 have sd:=MpR.nil wBO wBR
 exact jK _ _ ⟨U,cZ,mh,#[],0,rfl,rfl,rfl,(zL _),(pV.pick [2,1,0] _ (by decide) rfl),sd⟩
 refine zM 0 Z Z Z Z (zK Z Z yN zP Z) dT (fun hs=>wBm lx U hs bC) (.inr Z) ?_
 rintro gv s9 uF ly sH pW ⟨rfl,rfl⟩
 have pX:sW w U gv [.blk cZ 86 [.pointer none],.blk b2 28 B0] ly:=pW
 exact jJ _ _ ⟨gv,cZ,rfl,rfl,rfl,sH,(pX.pick [1,0] _ (by decide) rfl)⟩
 rintro uQ lA ⟨j7,b6,b8,aj,cC,du,im,mG,dY,jl,oU⟩
 refine zI (sR gBf Z (oL Z (jl.ldBA (j:=0) Z Z im ZH zu (vs:=B0) Z Z) ?_))
 have i9:=rN.le dY
 have ja:=rO.le dY
 have jb:=rQ.le dY
 have jc:=rS.le dY
 have q:=bnd rX
 obtain ⟨⟨⟩,oW,jz⟩:=q
 try dsimp only at jz
 refine zM 0 Z Z Z Z (zK Z Z Tryz.call145 (zB Z zP) Z) jl (fun hs=>wGO p0 ak au am av ap az aq aU lA j7 hs i9 ja jb jc oW) (.inr Z) ?_
 rintro gw tc uG lB dZ pY ⟨gQ,rfl,rfl,o0⟩
 let B6:Res:=.blk b6 86 [.pointer (some ⟨b8,0,none⟩)]
 have pZ:sW w U gw [.blk b2 28 B0,B6,.blk b8 146 [.slice ak p0.Starts.length au,.slice am p0.Splits.length av,.slice ap p0.Clocks.length az,.slice aq p0.Readings.length aU,.map (some aj),.slice none 0 0],.obj aj (.map cC du)] lB:=pY
 refine eN (zU (yh fun ef dV=>?_))
 have mH:ef 1=.pointer (some ⟨b2,0,none⟩):=(dV 1).trans im
 have io:ef 3=.pointer (some ⟨b6,0,none⟩):=(dV 3).trans mG
 have mI:ef 19=.func (.func 195) #[] #[.pointer (some ⟨gQ,0,none⟩)]:=(dV 19).trans rfl
 clear dV
 have p6:=pZ.nilrow 212 7
 refine bnK jz fun j4 rW jA=>?_
 have fw:=i9.le dZ
 have fy:=ja.le dZ
 have fz:=jb.le dZ
 have fA:=jc.le dZ
 refine CK.rangeY (S:=(List wAd) × (List (wAC × Int))) (E:=Empty) (ar:=wTm) (PY:=(fun (s_:(List wAd) × (List (wAC × Int))) (U_:PHeap) (L_:List Res)=>match s_ with | (l1591,l1595)=>∃ (bN:Option Addr) (bX:Nat) (bv:Array MapEntry) (bw:Nat),L_=[.blk b2 28 B0,B6,.row bN bX 212 7 (hH wAY l1591),.blk b8 146 [.slice ak p0.Starts.length au,.slice am p0.Splits.length av,.slice ap p0.Clocks.length az,.slice aq p0.Readings.length aU,.map (some aj),.slice bN l1591.length bX],.obj aj (.map bv bw)]/\MpR bv wBO wBR l1595)) (PE:=(fun (_:Empty) _ _=>False)) (exO:=Empty.elim) (s0:=([],jN)) (rr:=j4) mI Tryz.call195 (p6.pick [1,2,0,3,4] _ (by decide) rfl) (by decide) (fun _ _ _ h=>by obtain rfl:=h;rfl) (fun e=>nomatch e) ⟨none,0,cC,du,rfl,oU⟩ (fun l w1 L1 PY' PE' pE pC rM=>wFZ PY' PE' _ l _ p0 gQ ak au am av ap az aq aU w1 L1 gw pE pC rM o0 fw fy fz fA rW) ?_ ?_
 rintro bb uA uw ⟨l1591,l1595⟩ aV uL uz d9 td sZ fW bh d5 p7 pD rP jx ec cd
 obtain ⟨bN,bX,bv,bw,rfl,o3⟩:=pD
 obtain rfl:=rP
 replace cd:∀ t,ec t=upd ef 20 (.agg #[jV aV.Kind,jV aV.Skier,jV aV.Index,.bool aV.Up]) t:=cd
 have mJ:ec 20=.agg #[jV aV.Kind,jV aV.Skier,jV aV.Index,.bool aV.Up]:=(cd 20).trans (wCu _ _ _)
 have ip:ec 1=.pointer (some ⟨b2,0,none⟩):=(cd 1).trans ((wDq _ _ (by decide)).trans mH)
 have mK:ec 3=.pointer (some ⟨b6,0,none⟩):=(cd 3).trans ((wDq _ _ (by decide)).trans io)
 clear cd
 let B7:Res:=.blk b8 146 [.slice ak p0.Starts.length au,.slice am p0.Splits.length av,.slice ap p0.Clocks.length az,.slice aq p0.Readings.length aU,.map (some aj),.slice bN l1591.length bX]
 let B8:Res:=.row bN bX 212 7 (hH wAY l1591)
 have p8:St bh d9 [.obj bb fW,.blk b2 28 B0,B6,B8,B7,.obj aj (.map bv bw)] sZ:=p7
 try dsimp only at jx
 refine rR (.fx 0 (.fx 1 .nil .stop) .stop) Z (zW (cs:=[jV 0,jV 0,jV 0,.bool false]) Z Z Z Z Z Tryz.zeroValue210 Z p8 ?_)
 intro tB ba p9
 let B9:List Value:=[jV aV.Kind,jV aV.Skier,jV aV.Index,.bool aV.Up]
 refine zY (j:=0) (vs:=B9) Z Z Z Z p9 Z Z mJ Z yH (zA Z) Z Z Z ?_
 intro lC qa
 have qb:St bh d9 [.blk ba 210 B9,.obj bb fW,.blk b2 28 B0,B6,B8,B7,.obj aj (.map bv bw)] lC:=qa
 refine zX ⟨rfl,rfl,_,_,(qb.pick [1,0,2,3,4,5,6] [.obj bb fW,.blk ba 210 B9,.blk b2 28 B0,B6,B8,B7,.obj aj (.map bv bw)] (by decide) rfl),fun gL bm qc=>?_⟩
 have fE:St bh d9 [.obj bb bm,.blk ba 210 B9,.blk b2 28 B0,B6,B8,B7,.obj aj (.map bv bw)] gL:=qc
 refine zU (sR (.fl 0 (.fl 1 (.fx 2 (wSY (.fx 7 (.fx 8 (.fx 9 (.fx 10 (.fl 11 .nil) .stop) .stop) .stop) .stop)) .stop))) Z (oL Z (fE.ldBA (j:=2) Z Z ip ZH zu (vs:=B0) Z Z) (oL Z (fE.ldBA (j:=1) Z Z Z yO yH (vs:=B9) Z Z) ?_)))
 have o5:=fw.le d5
 have o6:=fy.le d5
 have o7:=fz.le d5
 have o8:=fA.le d5
 have q:=bnd jx
 obtain ⟨⟨bd,be,bq⟩,o9,jB⟩:=q
 try dsimp only at jB
 refine zM 0 Z Z Z Z (zK Z Z Tryz.call146 (zB Z (zB Z zP)) Z) fE (fun hs=>wGP p0 ak au am av ap az aq aU aV gL d9 hs o5 o6 o7 o8 o9) (.inr Z) ?_
 rintro cn te uH lD ux qd ⟨rfl,rfl⟩
 have qe:St bh cn [.obj bb bm,.blk ba 210 B9,.blk b2 28 B0,B6,B8,B7,.obj aj (.map bv bw)] lD:=qd
 refine oM Z Z (oR Z (zl Z Z (v:=.agg #[jV bd.skier,jV bd.mat]) Z) (oR Z (zl Z Z (v:=.agg #[jV be.skier,jV be.mat]) Z) (oR Z (zl Z Z (v:=jV bq) Z) ?_)))
 let cU:List Value:=[jV 0,jV 0]
 refine zW (cs:=cU) Z Z Z Z Z zh Z qe ?_
 intro tC bn qf
 refine zW (cs:=cU) Z Z Z Z Z zh Z qf ?_
 intro tD bo qh
 let bg:List Value:=[jV bd.skier,jV bd.mat]
 refine zY (j:=1) (vs:=bg) Z Z Z Z qh Z Z Z Z zF (zA Z) Z Z Z ?_
 intro lE qi
 have qj:St bh cn [.blk bo 95 cU,.blk bn 95 bg,.obj bb bm,.blk ba 210 B9,.blk b2 28 B0,B6,B8,B7,.obj aj (.map bv bw)] lE:=qi
 let bi:List Value:=[jV be.skier,jV be.mat]
 refine zY (j:=0) (vs:=bi) Z Z Z Z qj Z Z Z Z zF (zA Z) Z Z Z ?_
 intro lF qk
 have fG:St bh cn [.blk bo 95 bi,.blk bn 95 bg,.obj bb bm,.blk ba 210 B9,.blk b2 28 B0,B6,B8,B7,.obj aj (.map bv bw)] lF:=qk
 refine oA Z Z (eN (zI (sR fL4 Z (oL Z (fG.ldBA (j:=1) Z Z Z zg zF (vs:=bg) Z Z) (oL Z (fG.ldBA (j:=0) Z Z Z zg zF (vs:=bi) Z Z) ?_)))))
 let fZ:List Value:=[jV bd.skier,jV bd.mat,jV be.skier,jV be.mat]
 refine oR Z (Runs.buildA (pv:=[(0,.agg bg.toArray),(1,.agg bi.toArray)]) (z:=[jV 0,jV 0,jV 0,jV 0]) (cs:=fZ) Z (wAB Z (wAB Z wAT)) Tryz.zeroValue256 Tryz.runUnderlying256 zF Z Z) (oM Z Z (eN (zU (bnK jB fun aZ rT rY=>?_))))
 have q:=wBS rT
 obtain ⟨fN,rV⟩:=q
 replace fN:=zJ fN
 refine CK.forN' (fun cO cP σ_ w_=>∃ (U_:PHeap) (cD:Array MapEntry) (dv:Nat),σ_ 31=jV (↑cO:Int)/\σ_ 1=.pointer (some ⟨b2,0,none⟩)/\σ_ 3=.pointer (some ⟨b6,0,none⟩)/\σ_ 4=.pointer (some ⟨ba,0,none⟩)/\σ_ 5=.pointer (some ⟨bn,0,none⟩)/\σ_ 6=.pointer (some ⟨bo,0,none⟩)/\σ_ 7=jV bq/\σ_ 30=.agg fZ.toArray/\PHeap.Le cn U_/\St bh U_ [.blk bo 95 bi,.blk bn 95 bg,.obj bb bm,.blk ba 210 B9,.blk b2 28 B0,B6,B8,B7,.obj aj (.map cD dv)] w_/\MpR cD wBO wBR cP) rV ?_ ?_ ?_
 exact ⟨cn,bv,bw,Z,ip,mK,Z,Z,Z,Z,Z,(zL _),fG,o3⟩
 rintro cO cP uM uR tE fM ⟨cW,cD,dv,dP,iq,cL,ir,it,iu,iv,eX,jQ,qm,dQ⟩ ss
 have gS:Hid ((↑cO:Int) < 2):=zJ (wBP fM)
 replace fM:=zJ fM
 have jy:Hid (w64 ((↑cO:Int) + 1)=(↑(cO + 1):Int)):=zJ (by have h1:=fN.out;have h2:=gS.out;rw [wAa] <;> omega)
 refine sR fL1 Z (oR Z (zO Z dP Z) (eN (zI (cT Z gS (kN (zI (zU (sR (.fl 0 (.fx 1 (.fx 2 .nil .stop) .stop)) Z (bnK ss fun cf fB rZ=>oR Z (Runs.ixA (cs:=hH wHZ ([bd,be]:List wAC)) Z eX dP Tryz.runUnderlying256 zF (wBt fB) (wBv fB) (wCg zg zF (wJS (sz:=2) (fun _=>Z) _ _ (wAi fB)))) (zW (cs:=cU) Z Z Z Z Z zh Z qm ?_))))))))))
 intro tF gR qn
 let ci:List Value:=[jV cf.skier,jV cf.mat]
 refine zY (j:=0) (vs:=ci) Z Z Z Z qn Z Z Z Z zF (zA Z) Z Z Z ?_
 intro eF qo
 have qp:St bh cW [.blk gR 95 ci,.blk bo 95 bi,.blk bn 95 bg,.obj bb bm,.blk ba 210 B9,.blk b2 28 B0,B6,B8,B7,.obj aj (.map cD dv)] eF:=qo
 refine eN (zI (zx zr [1,3,3,1,1,1,3,3,3,3,3] fL11 (by kernel_rfl) ?_))
 have bM:=qp.drew
 generalize hw_W1729:({ eF with drawn:=eF.drawn + 1 }:World)=gM at bM ⊢
 refine oL Z (bM.ldB (j:=6) Z Z cL yU (v:=.pointer (some ⟨b8,0,none⟩)) Z) (oR Z (Zb Z Z) (oR Z (zH Z Z ZE Z Zq) (oL Z (bM.ldB (j:=8) Z Z Z Zy (v:=.map (some aj)) Z) (oL Z (bM.ldBA (j:=0) Z Z Z zg zF (vs:=ci) Z Z) (oL Z (bM.lookup2 (j:=9) (mk:=wBO) (mv:=wBR) (a:=cf) (z:=0) Z Z Z Z (wBu ZD) wDG ZG dQ) (oM Z Z (oR Z (zl Z Z (v:=jV (wAw cP cf 0)) Z) (oR Z (zl Z Z (v:=.bool (wIg cP cf)) Z) (oA Z Z (oA Z Z (eN (sR fL2 Z (oM Z Z (oR Z (Zf Z Z) (eN (ifc rZ ?_ ?_))))))))))))))))
 intro eG r6
 refine zo (nC eG.out) (ZT (zj (zG (rR fL2 Z (oR Z (ZR (zS Z dP Z) (congrArg (jV) jy.out)) (oM Z Z (zX ?_)))))))
 cases r6
 exact zG ⟨rfl,⟨cW,cD,dv,rfl,iq,cL,ir,it,iu,iv,eX,jQ,(bM.pick [1,2,3,4,5,6,7,8,9] _ (by decide) rfl),dQ⟩⟩
 intro eG r7
 refine ZI (nF (eG.out)) (zx zr [1,3,3,1,1,1,3,3,1,1,0] (wUI (.fx 10 .nil .stop)) (by kernel_rfl) ?_)
 have bD:=bM.drew
 generalize hw_W1737:({ gM with drawn:=gM.drawn + 1 }:World)=tG at bD ⊢
 refine ZF rfl rfl rfl rfl (bD.ldB (j:=6) rfl rfl cL yU (v:=.pointer (some ⟨b8,0,none⟩)) rfl) rfl (zZ rfl rfl rfl rfl (fun _=>Zb rfl rfl) (zZ rfl rfl rfl rfl (fun _=>zH rfl rfl ZE rfl Zq) (ZF rfl rfl rfl rfl (bD.ldB (j:=8) rfl rfl rfl Zy (v:=.map (some aj)) rfl) rfl (ZF rfl rfl rfl rfl (bD.ldBA (j:=0) rfl rfl rfl zg zF (vs:=ci) rfl rfl) rfl (ZF rfl rfl rfl rfl (bD.ldB (j:=6) rfl rfl cL yU (v:=.pointer (some ⟨b8,0,none⟩)) rfl) rfl (zZ rfl rfl rfl rfl (fun _=>Zb rfl rfl) (zZ rfl rfl rfl rfl (fun _=>zH rfl rfl ZE rfl Zq) (ZF rfl rfl rfl rfl (bD.ldB (j:=8) rfl rfl rfl Zy (v:=.map (some aj)) rfl) rfl (ZF rfl rfl rfl rfl (bD.lenM (j:=9) (mk:=wBO) (mv:=wBR) rfl rfl rfl (wBu ZD) dQ) rfl (OKS.mapPut (x:=.tmp 48) (y:=.tmp 49) (z:=.tmp 54) (j:=9) (mk:=wBO) (mv:=wBR) (a:=cf) (v:=(↑(cP.length):Int)) rfl rfl rfl (by first | exact .inl rfl | exact .inr rfl) bD rfl rfl rfl rfl (wBu ZD) wDG dQ rfl ?_))))))))))
 intro g7 gT lG sf qq
 have qr:St bh cW [.blk gR 95 ci,.blk bo 95 bi,.blk bn 95 bg,.obj bb bm,.blk ba 210 B9,.blk b2 28 B0,B6,B8,B7,.obj aj (.map g7 gT)] lG:=qq
 refine zX (zj (zG (rR fL2 Z (oR Z (ZR (zS Z dP Z) (congrArg (jV) jy.out)) (oM Z Z (zX ?_))))))
 cases r7
 exact zG ⟨rfl,⟨cW,g7,gT,rfl,iq,cL,ir,it,iu,iv,eX,jQ,(qr.pick [1,2,3,4,5,6,7,8,9] _ (by decide) rfl),sf⟩⟩
 rintro uS gN ⟨bA,bu,bt,oP,ul,cb,mL,mM,mN,mO,um,uy,qt,cM⟩
 have mE:Hid (¬ ((↑((2:Int) - 0).toNat:Int) < 2)):=zJ (wAv)
 refine sR fL1 rfl (zZ rfl rfl rfl rfl (fun _=>zO rfl oP rfl) (eN (zI (cF Z mE (ZP (zd (zd (ZJ (zG (bnK rY fun br fC fO=>zx zr [2,1,3,3,1,1,1,3,3,1,1,1,1,3,3,1,1,1,3,3,2,0,3,3,0] (wUO (.fx 0 (.fx 20 gCd .stop) (.fx 20 (.fx 0 gCd (.fx 21 (.fx 0 gBv .stop) .stop)) .stop))) (by kernel_rfl) ?_))))))))))
 have bk:=qt.drew
 generalize hw_W1786:({ gN with drawn:=gN.drawn + 1 }:World)=tH at bk ⊢
 refine oL Z (bk.ldB (j:=5) Z Z cb yU (v:=.pointer (some ⟨b8,0,none⟩)) Z) (oR Z (Zb Z Z) (oR Z (zH Z Z ZE Z yc) (oL Z (bk.ldB (j:=7) Z Z Z Tryz.isAgg144 (v:=.slice bN l1591.length bX) Z) (oL Z (bk.ldBA (j:=3) Z Z mL yO yH (vs:=B9) Z Z) (oL Z (bk.ldB (j:=5) Z Z cb yU (v:=.pointer (some ⟨b8,0,none⟩)) Z) (oR Z (Zb Z Z) (oR Z (zH Z Z ZE Z Zq) (oL Z (bk.ldB (j:=7) Z Z Z Zy (v:=.map (some aj)) Z) (oL Z (bk.ldBA (j:=1) Z Z mM zg zF (vs:=bg) Z Z) (oL Z (bk.lookup1 (j:=8) (mk:=wBO) (mv:=wBR) (a:=bd) (z:=0) Z Z Z Z (wBu ZD) wDG ZG cM) (oL Z (bk.ldB (j:=5) Z Z cb yU (v:=.pointer (some ⟨b8,0,none⟩)) Z) (oR Z (Zb Z Z) (oR Z (zH Z Z ZE Z Zq) (oL Z (bk.ldB (j:=7) Z Z Z Zy (v:=.map (some aj)) Z) (oL Z (bk.ldBA (j:=0) Z Z mN zg zF (vs:=bi) Z Z) (oL Z (bk.lookup1 (j:=8) (mk:=wBO) (mv:=wBR) (a:=be) (z:=0) Z Z Z Z (wBu ZD) wDG ZG cM) (oM Z mO ?_)))))))))))))))))
 let cj:List Value:=[jV aV.Kind,jV aV.Skier,jV aV.Index,.bool aV.Up,jV (wAw aZ bd 0),jV (wAw aZ be 0),jV bq]
 let eh:List Value:=[jV 0,jV 0,jV 0,.bool false,jV 0,jV 0,jV 0]
 refine oR Z (zt (pv:=[(0,.agg B9.toArray),(1,jV (wAw aZ bd 0)),(2,jV (wAw aZ be 0)),(3,jV bq)]) (z:=eh) (cs:=cj) Z (wAB Z (wAB Z (wAB Z (wAB Z wAT)))) Tryz.zeroValue212 wOg Z Z) (zk ?_ ?_)
 refine ZB Z Z Z Z (bk.ldB (j:=5) Z Z cb yU (v:=.pointer (some ⟨b8,0,none⟩)) Z) (zz (pv:=[(0,.agg cj.toArray)]) (zs:=eh) (cs:=cj) Z Z Z Z Z (wAB Z wAT) Tryz.runUnderlying144 Tryz.sizeOf212 Tryz.zeroValue212 Z Z Z Z Z bk ?_)
 intro lH mi qu
 let en:Res:=.row (some ⟨mi,0,none⟩) 1 212 7 (hH wAY [(⟨aV,(wAw aZ bd 0),(wAw aZ be 0),bq⟩:wAd)])
 have jm:St bh bA [en,.blk bo 95 bi,.blk bn 95 bg,.obj bb bm,.blk ba 210 B9,.blk b2 28 B0,B6,B8,B7,.obj aj (.map bu bt)] lH:=qu
 refine Zv (j:=7) (enc:=wAY) (xs:=l1591) (ys:=[(⟨aV,(wAw aZ bd 0),(wAw aZ be 0),bq⟩:wAd)]) (zs:=br) rfl rfl rfl rfl rfl Tryz.underlying144 wKs rfl rfl rfl rfl rfl rfl jm rfl rfl rfl (jm.srcR (j:=0) rfl (by decide) (wAF (f:=wAY) (sz:=7) (fun _=>rfl) [(⟨aV,(wAw aZ bd 0),(wAw aZ be 0),bq⟩:wAd)])) (fun _=>rfl) (fun _=>rfl) fC rfl ?_
 intro cQ dp lI qv
 let ga:Res:=.row cQ dp 212 7 (hH wAY br)
 have qw:St bh bA [en,.blk bo 95 bi,.blk bn 95 bg,.obj bb bm,.blk ba 210 B9,.blk b2 28 B0,B6,ga,B7,.obj aj (.map bu bt)] lI:=qv
 refine oR Z (Zb Z Z) (oR Z (zH Z Z ZE Z yc) (zY (j:=8) (vs:=[.slice cQ br.length dp]) Z Z Z Z qw Z Z Z Z yc (zA Z) Z Z Z ?_))
 intro lJ qx
 have qy:St bh bA [en,.blk bo 95 bi,.blk bn 95 bg,.obj bb bm,.blk ba 210 B9,.blk b2 28 B0,B6,ga,.blk b8 146 [.slice ak p0.Starts.length au,.slice am p0.Splits.length av,.slice ap p0.Clocks.length az,.slice aq p0.Readings.length aU,.map (some aj),.slice cQ br.length dp],.obj aj (.map bu bt)] lJ:=qx
 refine zX (zj ?_)
 have q:=nD fO
 obtain rfl:=q
 exact ⟨_,_,(qy.pick [3,5,6,7,8,9] _ (by decide) rfl),rfl,⟨cQ,dp,bu,bt,rfl,cM⟩⟩
 refine zz (pv:=[(0,.agg cj.toArray)]) (zs:=eh) (cs:=cj) Z Z Z Z Z (wAB Z wAT) Tryz.runUnderlying144 Tryz.sizeOf212 Tryz.zeroValue212 Z Z Z Z Z bk ?_
 intro lK mj qz
 let cm:Res:=.row (some ⟨mj,0,none⟩) 1 212 7 (hH wAY [(⟨aV,(wAw aZ bd 0),(wAw aZ be 0),bq⟩:wAd)])
 have cN:St bh bA [cm,.blk bo 95 bi,.blk bn 95 bg,.obj bb bm,.blk ba 210 B9,.blk b2 28 B0,B6,B8,B7,.obj aj (.map bu bt)] lK:=qz
 refine zk ?_ ?_
 refine ZB rfl rfl rfl rfl (cN.ldB (j:=6) rfl rfl cb yU (v:=.pointer (some ⟨b8,0,none⟩)) rfl) (Zv (j:=7) (enc:=wAY) (xs:=l1591) (ys:=[(⟨aV,(wAw aZ bd 0),(wAw aZ be 0),bq⟩:wAd)]) (zs:=br) rfl rfl rfl rfl rfl Tryz.underlying144 wKs rfl rfl rfl rfl rfl rfl cN rfl rfl rfl (cN.srcR (j:=0) rfl (by decide) (wAF (f:=wAY) (sz:=7) (fun _=>rfl) [(⟨aV,(wAw aZ bd 0),(wAw aZ be 0),bq⟩:wAd)])) (fun _=>rfl) (fun _=>rfl) fC rfl ?_)
 intro cR dq lL qA
 let ge:Res:=.row cR dq 212 7 (hH wAY br)
 have qB:St bh bA [cm,.blk bo 95 bi,.blk bn 95 bg,.obj bb bm,.blk ba 210 B9,.blk b2 28 B0,B6,ge,B7,.obj aj (.map bu bt)] lL:=qA
 refine oR Z (Zb Z Z) (oR Z (zH Z Z ZE Z yc) (zY (j:=8) (vs:=[.slice cR br.length dq]) Z Z Z Z qB Z Z Z Z yc (zA Z) Z Z Z ?_))
 intro lM qC
 have qD:St bh bA [cm,.blk bo 95 bi,.blk bn 95 bg,.obj bb bm,.blk ba 210 B9,.blk b2 28 B0,B6,ge,.blk b8 146 [.slice ak p0.Starts.length au,.slice am p0.Splits.length av,.slice ap p0.Clocks.length az,.slice aq p0.Readings.length aU,.map (some aj),.slice cR br.length dq],.obj aj (.map bu bt)] lM:=qC
 refine zX (zj ?_)
 have q:=nD fO
 obtain rfl:=q
 exact ⟨_,_,(qD.pick [3,5,6,7,8,9] _ (by decide) rfl),rfl,⟨cR,dq,bu,bt,rfl,cM⟩⟩
 refine Zv (j:=7) (enc:=wAY) (xs:=l1591) (ys:=[(⟨aV,(wAw aZ bd 0),(wAw aZ be 0),bq⟩:wAd)]) (zs:=br) rfl rfl rfl rfl rfl Tryz.underlying144 wKs rfl rfl rfl rfl rfl rfl cN rfl rfl rfl (cN.srcR (j:=0) rfl (by decide) (wAF (f:=wAY) (sz:=7) (fun _=>rfl) [(⟨aV,(wAw aZ bd 0),(wAw aZ be 0),bq⟩:wAd)])) (fun _=>rfl) (fun _=>rfl) fC rfl ?_
 intro cS dr lN qE
 let gf:Res:=.row cS dr 212 7 (hH wAY br)
 have jo:St bh bA [cm,.blk bo 95 bi,.blk bn 95 bg,.obj bb bm,.blk ba 210 B9,.blk b2 28 B0,B6,gf,B7,.obj aj (.map bu bt)] lN:=qE
 refine ZB Z Z Z Z (jo.ldB (j:=6) Z Z cb yU (v:=.pointer (some ⟨b8,0,none⟩)) Z) (oR Z (Zb Z Z) (oR Z (zH Z Z ZE Z yc) (zY (j:=8) (vs:=[.slice cS br.length dr]) Z Z Z Z jo Z Z Z Z yc (zA Z) Z Z Z ?_)))
 intro lO qF
 have qG:St bh bA [cm,.blk bo 95 bi,.blk bn 95 bg,.obj bb bm,.blk ba 210 B9,.blk b2 28 B0,B6,gf,.blk b8 146 [.slice ak p0.Starts.length au,.slice am p0.Splits.length av,.slice ap p0.Clocks.length az,.slice aq p0.Readings.length aU,.map (some aj),.slice cS br.length dr],.obj aj (.map bu bt)] lO:=qF
 refine zX (zj ?_)
 have q:=nD fO
 obtain rfl:=q
 exact ⟨_,_,(qG.pick [3,5,6,7,8,9] _ (by decide) rfl),rfl,⟨cS,dr,bu,bt,rfl,cM⟩⟩
 rintro j3 eA tf lP d7 qH
 rcases j4 with ⟨j5,uN⟩ | mF
 try dsimp only at jA
 rintro ⟨eg,eH,dC,dt,rfl,pe⟩
 let eu:Res:=.blk b8 146 [.slice ak p0.Starts.length au,.slice am p0.Splits.length av,.slice ap p0.Clocks.length az,.slice aq p0.Readings.length aU,.map (some aj),.slice eg j5.length eH]
 let ez:Res:=.row eg eH 212 7 (hH wAY j5)
 have jp:sW w U eA [.blk b2 28 B0,B6,ez,eu,.obj aj (.map dC dt),.obj j3 (.deferred (some []))] lP:=qH
 refine zj (zG (sR fL2 Z (oL Z (jp.ldB (j:=1) Z Z io yU (v:=.pointer (some ⟨b8,0,none⟩)) Z) (oA Z Z (eN (zV ?_))))))
 have pf:=fw.le d7
 have pg:=fy.le d7
 have ph:=fz.le d7
 have pj:=fA.le d7
 refine wRE (by first | exact .inl rfl | exact .inr rfl) (rbs:=[j3]) (L:=[.blk b2 28 B0,B6,ez,eu,.obj aj (.map dC dt)]) jp fun lQ qI=>?_
 have qJ:sW w U eA [.blk b2 28 B0,B6,ez,eu,.obj aj (.map dC dt)] lQ:=qI
 cases jA
 exact ⟨_,(ZS rfl),eA,_,(qJ.pick [3,4,2] _ (by decide) rfl),b8,ak,au,am,av,ap,az,aq,aU,aj,dC,dt,eg,eH,rfl,rfl,pf,pg,ph,pj,pe⟩
 exact mF.elim
end Go.Proofs.YtkedcbligiebkaaGreat
